import Derived.Test.YtboodeobmgjjpaaGreatW2
set_option linter.all false
namespace Sg
open Go Go.Proofs
set_option maxRecDepth 20000
noncomputable section
theorem qF (l:(List Int)):dG Tryz.prog 58 [(sD (O8 l))] [] (fun r=>(vO 0 false r.length)) (fun r=>[(0,some (bM 3 1 (bJ .i64) r))]) (lY l):=
  dP tT mX Tryz.func58 (
  .r<| .r<| .a2 (l.length*8≤140737488355328) (l.length≤4611686018427387904)<| .rg {an:=[(2, .arr l.length (aA (bJ .i64) l))],fr:=[(2,1)]} [0,1, .e (l.length), .pf ⟨aM l.length 1 (aA (bJ .i64) l) (aA (bJ .i64) l),xg _ _ _⟩]<| .en l [] [(1,0)])
theorem pI (l:(List af)):dG Tryz.prog 40 (Zz l) [] (fun r=>(vO 0 false r.length)) (fun r=>[(0,some (bM 61 2 af.cell r))]) (fA l):=
  dP tT mX Tryz.func40 (
  .r<| .r<| .a2 (l.length*16≤140737488355328) (l.length≤4611686018427387904)<| .rg {an:=[(2, .arr l.length (aA af.cell l))],fr:=[(2,1)]} [0,1, .e (l.length), .pf ⟨aM l.length 2 (aA af.cell l) (aA af.cell l),xg _ _ _⟩]<| .en l [] [(1,0)])
section
variable (t:Task)
abbrev Zx:List SV:=[(.agg (k2 t))]
end
theorem Dz (p:au) (x:Link):dG Tryz.prog 130 [(.agg (k1 p)),(.agg (k19 x))] [] (fun r=>(vB r)) (fun _=>[]) (rF p x):=
  dP tT mX Tryz.func130 (
  .rg {fr:=[(0,6),(1,7)],fz:=[6]} []<| .r<| .it (.r<| .e false)
  (.r<| .it (.r<| .e false)
  (.r<| .lp (σ:=Int) (β:=Unit) (0) [] [] ⟨[3],[7],fun i=>[(5,(vI i))],fun i=>[]⟩ ⟨[],[],fun _=>[],fun _=>[]⟩
  (fun i=> .r<| .it (.a1 ((0:Int)≤i∧i<(x.trip.length:Int))<| .rg {fr:=[(5,11)],fz:=[11]} []<| .r<| .it (.r<| .e (.done (.ret false)))
  (.a2 ((gB [((decide (0<i)),true)]=true→(0:Int)≤(k10 i)∧(k10 i)<(x.trip.length:Int))) ((gB [(k20 x i),((decide (0<i)),true)]=true→(0:Int)≤(k10 i)∧(k10 i)<(x.trip.length:Int)))<| .rg {} [0,1]<| .it (.r<| .e (.done (.ret false)))
  (.r<| .e (.next (k18 i)))))
  (.e (.done (.brk ()))))
  (fun _=> .r<| .e true))))
theorem vS (p:au):dG Tryz.prog 90 (k6 p) [] (fun r=>(vI r)) (fun _=>[]) (ni p):=
  dP tT mX Tryz.func90 (
  .rg {fr:=[(0,9)]} []<| .r<| .it (.r<| .e 10)
  (.r<| .it (.r<| .e 11)
  (.r<| .lp (σ:=Int) (β:=Unit) (0) [] [] ⟨[1],[9],fun i=>[(3,(vI i))],fun i=>[]⟩ ⟨[1],[9],fun _=>[],fun _=>[]⟩
  (fun i=> .r<| .it (.a1 (QZ i p)<| .rg {fr:=[(5,13)],fz:=[13]} []<| .r<| .it (.r<| .e (.done (.ret 11)))
  (.r<| .e (.next (k18 i))))
  (.e (.done (.brk ()))))
  (fun _=> .r<| .it (.r<| .e 12)
  (.r<| .lp (σ:=Int) (β:=Unit) (0) [] [] ⟨[1],[9],fun i1=>[(5,(vI i1))],fun i1=>[]⟩ ⟨[1],[9],fun _=>[],fun _=>[]⟩
  (fun i1=> .r<| .it (.cl 6 (Dz p (at' p.links i1.toNat)) fun r_=> .a1 (TY p i1)<| .rg {} [0,1]<| .it (.r<| .e (.done (.ret 12)))
  (.r<| .e (.next (k18 i1))))
  (.e (.done (.brk ()))))
  (fun _=> .r<| .it (.r<| .e 13)
  (.r<| .lp (σ:=Int) (β:=Unit) (0) [] [] ⟨[1],[9],fun i2=>[(6,(vI i2))],fun i2=>[]⟩ ⟨[],[],fun _=>[],fun _=>[]⟩
  (fun i2=> .r<| .it (.a1 ((0:Int)≤i2∧i2<(p.racks.length:Int))<| .rg {fr:=[(5,17)],fz:=[17]} []<| .rg {} [.pf ⟨(0:Int)≤0∧(0:Int)<(2:Nat),(by decide)⟩, .pf ⟨(0:Int)≤1∧(1:Int)<(2:Nat),(by decide)⟩]<| .r<| .r<| .it (.r<| .r<| .it (.r<| .e (.done (.ret 13)))
  (.r<| .e (.next (k18 i2))))
  (.r<| .it (.r<| .e (.done (.ret 13)))
  (.r<| .e (.next (k18 i2)))))
  (.e (.done (.brk ()))))
  (fun _=> .r<| .e 0))))))))
theorem Co (p:au) (s_:State):dG Tryz.prog 104 (Pm s_ p) [] (fun r=>(vB r)) (fun _=>[]) (qd p s_):=
  dP tT mX Tryz.func104 (
  .rg {fr:=[(0,2),(1,3)],fz:=[2,3]} []<| .r<| .r<| .it (.r<| .e false)
  (.r<| .lp (σ:=Int) (β:=Unit) (0) [] [] ⟨[2,3,5],[],fun i=>[(8,(vI i))],fun i=>[]⟩ ⟨[],[],fun _=>[],fun _=>[]⟩
  (fun i=> .r<| .it (.a3 (TY p i) (k44 s_ p i) (k45 s_ p i)<| .rg {} [0,1,2]<| .it (.r<| .e (.done (.ret false)))
  (.r<| .e (.next (k18 i))))
  (.e (.done (.brk ()))))
  (fun _=> .r<| .e true)))
theorem iA (p:au) (s_:State):dG Tryz.prog 65 (Pm s_ p) [] (fun r=>(vI r)) (fun _=>[]) (dK p s_):=
  dP tT mX Tryz.func65 (
  .rg {fr:=[(0,2),(1,3)],fz:=[2,3]} []<| .cl 1 (vS p) fun r_=> .r<| .cg 5 [((decide (r_=0)),true)] (Co p s_) fun u0=> .r<| .it (.r<| .r<| .e 9)
  (.r<| .e r_))
theorem sM (l:(List Int)) (n:Int):dG Tryz.prog 105 (Yw l n) [] (fun r=>(vB r)) (fun _=>[]) (kD l n):=
  dP tT mX Tryz.func105 (
  .r<| .r<| .lp (σ:=Int) (β:=Unit) (0) [] [] ⟨[0,1],[],fun i=>[(5,(vI i))],fun i=>[]⟩ ⟨[0],[],fun _=>[],fun _=>[]⟩
  (fun i=> .r<| .it (.a2 (Ro l i) ((gB [((decide ((at' l i.toNat)<0)),false)]=true→(0:Int)≤i∧i<(l.length:Int)))<| .rg {} [0,1]<| .it (.r<| .e (.done (.ret false)))
  (.r<| .e (.next (k18 i))))
  (.e (.done (.brk ()))))
  (fun _=> .r<| .e (decide ((l.length:Int)≤24))))
section
variable (x:af) (p:au)
abbrev R4:=((gB [((decide (x.index<(p.links.length:Int))),true)]=true→(0:Int)≤x.index∧x.index<(p.links.length:Int)))
abbrev RN:=(bif (decide (x.index<(p.links.length:Int)))then(!decide (((at' p.links x.index.toNat).kind)=1))else false)
end
theorem uG (p:au) (x:af):dG Tryz.prog 71 (k49 x p) [] (fun r=>(vB r)) (fun _=>[]) (jE p x):=
  dP tT mX Tryz.func71 (
  .rg {fr:=[(0,2),(1,3)],fz:=[2,3]} []<| .r<| .r<| .it (.r<| .e false)
  (.r<| .r<| .it (.it (.a1 (R4 x p)<| .r<| .e (RN x p))
  (.r<| .it (.it (.r<| .e (Tw x p))
  (.r<| .it (.it (.r<| .e (LC x p))
  (.r<| .e false))
  (.r<| .it (.r<| .e (LC x p))
  (.r<| .e false))))
  (.r<| .it (.r<| .e (Tw x p))
  (.r<| .it (.it (.r<| .e (LC x p))
  (.r<| .e false))
  (.r<| .it (.r<| .e (LC x p))
  (.r<| .e false))))))
  (.r<| .it (.it (.a1 (R4 x p)<| .r<| .e (RN x p))
  (.r<| .it (.it (.r<| .e (Tw x p))
  (.r<| .it (.it (.r<| .e (LC x p))
  (.r<| .e false))
  (.r<| .it (.r<| .e (LC x p))
  (.r<| .e false))))
  (.r<| .it (.r<| .e (Tw x p))
  (.r<| .it (.it (.r<| .e (LC x p))
  (.r<| .e false))
  (.r<| .it (.r<| .e (LC x p))
  (.r<| .e false))))))
  (.r<| .it (.it (.a1 (R4 x p)<| .r<| .e (RN x p))
  (.r<| .it (.it (.r<| .e (Tw x p))
  (.r<| .it (.it (.r<| .e (LC x p))
  (.r<| .e false))
  (.r<| .it (.r<| .e (LC x p))
  (.r<| .e false))))
  (.r<| .it (.r<| .e (Tw x p))
  (.r<| .it (.it (.r<| .e (LC x p))
  (.r<| .e false))
  (.r<| .it (.r<| .e (LC x p))
  (.r<| .e false))))))
  (.r<| .it (.a1 (R4 x p)<| .r<| .e (RN x p))
  (.r<| .it (.it (.r<| .e (Tw x p))
  (.r<| .it (.it (.r<| .e (LC x p))
  (.r<| .e false))
  (.r<| .it (.r<| .e (LC x p))
  (.r<| .e false))))
  (.r<| .it (.r<| .e (Tw x p))
  (.r<| .it (.it (.r<| .e (LC x p))
  (.r<| .e false))
  (.r<| .it (.r<| .e (LC x p))
  (.r<| .e false))))))))))
theorem vG (p:au) (l:(List af)):dG Tryz.prog 106 [(.agg (k1 p)),(sD (Ny l))] [] (fun r=>(vB r)) (fun _=>[]) (nC p l):=
  dP tT mX Tryz.func106 (
  .rg {fr:=[(0,1)],fz:=[1]} []<| .r<| .lp (σ:=Int) (β:=Unit) (0) [] [] ⟨[1,2],[],fun i=>[(5,(vI i))],fun i=>[]⟩ ⟨[1],[],fun _=>[],fun _=>[]⟩
  (fun i=> .r<| .it (.cl 5 (uG p (at' l i.toNat)) fun r_=> .a1 (Uh l i)<| .rg {} [0,1]<| .it (.r<| .e (.done (.ret false)))
  (.r<| .e (.next (k18 i))))
  (.e (.done (.brk ()))))
  (fun _=> .r<| .e (decide ((l.length:Int)≤24))))
theorem tQ (p:au) (t:Task):dG Tryz.prog 66 (k0 p t) [] (fun r=>(vB r)) (fun _=>[]) (l8 p t):=
  dP tT mX Tryz.func66 (
  .rg {fr:=[(0,2),(1,3)],fz:=[2,3]} []<| .cl 5 (sM t.fed (p.racks.length:Int)) fun r_=> .cg 11 [(r_,true)] (sM t.crew p.buses) fun u0=> .cg 17 [(k11 r_ u0)] (vG p t.allowed) fun u1=> .cg 23 [(k12 r_ u0 u1)] (vG p t.goal) fun u2=> .r<| .e (k13 r_ u0 u1 u2))
theorem qa (p:au) (s_:State) (kz:Int):dG Tryz.prog 107 (Sj p s_ kz) [] (fun r=>(vB r)) (fun _=>[]) (kL p s_ kz):=
  dP tT mX Tryz.func107 (
  .rg {fr:=[(0,2),(1,3)],fz:=[2,3]} []<| .a4 (Xl s_ kz) (XR s_ kz) ((gB [(XM s_ kz)]=true→(0:Int)≤kz∧kz<(p.sources.length:Int))) (Y5 s_ kz p)<| .rg {} [0,1,2,3]<| .e (bif (bif (at' s_.on_ kz.toNat)then(!(at' s_.badSource kz.toNat))else false)then(!(at' s_.badBus ((Oj kz p).toNat)))else false))
section
variable (s_:State) (i:Int) (p:au)
abbrev aaW:=((gB [((at' s_.closed i.toNat),true)]=true→(0:Int)≤i∧i<(s_.badLink.length:Int)))
abbrev Yc:=(bif (at' s_.closed i.toNat)then(!(at' s_.badLink i.toNat))else false)
abbrev Zd:=((Yc s_ i),true)
abbrev Rk:=((CK p i).toNat)
abbrev YB:=(bif (Yc s_ i)then(!(at' s_.badBus (Rk i p)))else false)
abbrev WI:=((YB s_ i p),true)
abbrev U5:=((Eu p i).toNat)
end
theorem zD (p:au) (s_:State) (i:Int):dG Tryz.prog 134 (Sj p s_ i) [] (fun r=>(vB r)) (fun _=>[]) (mR p s_ i):=
  dP tT mX Tryz.func134 (
  .rg {fr:=[(0,2),(1,3)],fz:=[2,3]} []<| .a6 (Zc s_ i) (aaW s_ i) ((gB [(Zd s_ i)]=true→(0:Int)≤i∧i<(p.links.length:Int))) ((gB [(Zd s_ i)]=true→(0:Int)≤(at' p.links i.toNat).a∧(at' p.links i.toNat).a<(s_.badBus.length:Int))) ((gB [(WI s_ i p)]=true→(0:Int)≤i∧i<(p.links.length:Int))) ((gB [(WI s_ i p)]=true→(0:Int)≤(at' p.links i.toNat).b∧(at' p.links i.toNat).b<(s_.badBus.length:Int)))<| .rg {} [0,1,2,3,4,5]<| .e (bif (YB s_ i p)then(!(at' s_.badBus (U5 i p)))else false))
section
variable (p:au) (b:Int) (u0:(List Bool)) (i:Int)
abbrev TR:=((yx p).set b.toNat true)
abbrev MB:=(u0.set (Rk i p) true)
abbrev Vl:=(aA ai (MB p u0 i))
abbrev VO:=((MB p u0 i).set (U5 i p) true)
abbrev Xy:=(aA ai (VO p u0 i))
end
theorem vN (p:au) (s_:State) (b:Int):dG Tryz.prog 108 (Sj p s_ b) [] (fun r=>(vD (bg none 1 ai r))) (fun _=>[]) (dA p s_ b):=
  dP tT mX Tryz.func108 (
  .rg {fr:=[(0,19),(1,20)],fz:=[20]} []<| .a3 ((0:Int)≤p.buses) (TL p) (Ty p)<| .rg {an:=[(2, .arr (yx p).length (Jt p))],fr:=[(2,21)]} [0, .e ((p.buses:Int)),1,2, .pf ⟨(yx p).length=p.buses.toNat,List.length_replicate⟩, .pf ⟨aM p.buses.toNat 1 (fun _ j=>[(.bool false)].getD j .nilp) (Jt p),mo _ _ _ _ _ (fun j hj=>(match j,hj with|0,_=>rfl))⟩]<| .a1 ((0:Int)≤b∧b<((yx p).length:Int))<| .rg {an:=[(3, .arr 0 (aA ai (TR p b)))]} [0, .t 0 b ((yx p).length), .pf ⟨aM (yx p).length 1 (qW (Jt p) b.toNat 0 [(.bool true)]) (aA ai (TR p b)),dB _ _ _ _ _ _ _ _ rfl (fun j hj=>(match j,hj with|0,_=>rfl))⟩]<| .im (.ll 21 (yx p) (TR p b))<| .r<| .lp (σ:=((List Bool) × Int)) (β:=(List Bool)) ((TR p b),0) [] [] ⟨[3,4],[19],fun(u1,n)=>[(7,(vO 21 true u1.length)),(8,(vI n))],fun(u1,n)=>[(21,some (bM 4 1 ai u1))]⟩ ⟨[],[],fun u2=>[(7,(vO 21 true u2.length))],fun u2=>[(21,some (bM 4 1 ai u2))]⟩
  (fun(u1,n)=> .r<| .it (.r<| .lp (σ:=((List Bool) × Int)) (β:=(List Bool)) (u1,0) [] [] ⟨[3,4,8],[19],fun(u0,i)=>[(7,(vO 21 true u0.length)),(9,(vI i))],fun(u0,i)=>[(21,some (bM 4 1 ai u0))]⟩ ⟨[3,4,8],[19],fun u3=>[(7,(vO 21 true u3.length))],fun u3=>[(21,some (bM 4 1 ai u3))]⟩
  (fun(u0,i)=> .r<| .it (.a1 (TY p i)<| .rg {fr:=[(5,37)]} []<| .cl 3 (zD p s_ i) fun r_=> .a2 ((gB [(r_,true)]=true→(0:Int)≤(at' p.links i.toNat).a∧(at' p.links i.toNat).a<(u0.length:Int))) ((gB [((at' u0 (Rk i p)),false),(r_,true)]=true→(0:Int)≤(at' p.links i.toNat).b∧(at' p.links i.toNat).b<(u0.length:Int)))<| .rg {} [2,0, .tg 0 [(r_,true)] (CK p i) u0.length,1, .tg 1 [((at' u0 (Rk i p)),false),(r_,true)] (Eu p i) u0.length]<| .it (.a1 ((0:Int)≤(at' p.links i.toNat).a∧(at' p.links i.toNat).a<(u0.length:Int))<| .rg {an:=[(4, .arr 0 (Vl p u0 i))]} [0, .t 0 (CK p i) u0.length, .pf ⟨aM u0.length 1 (qW (aA ai u0) (Rk i p) 0 [(.bool true)]) (Vl p u0 i),dB _ _ _ _ _ _ _ _ rfl (fun j hj=>(match j,hj with|0,_=>rfl))⟩]<| .im (.ll 21 u0 (MB p u0 i))<| .a1 ((0:Int)≤(at' p.links i.toNat).b∧(at' p.links i.toNat).b<((MB p u0 i).length:Int))<| .rg {an:=[(4, .arr 0 (Xy p u0 i))]} [0, .t 0 (Eu p i) ((MB p u0 i).length), .pf ⟨aM (MB p u0 i).length 1 (qW (Vl p u0 i) (U5 i p) 0 [(.bool true)]) (Xy p u0 i),dB _ _ _ _ _ _ _ _ rfl (fun j hj=>(match j,hj with|0,_=>rfl))⟩]<| .im (.ll 21 (MB p u0 i) (VO p u0 i))<| .r<| .e (.next ((VO p u0 i),(k18 i))))
  (.r<| .e (.next (Ph i u0))))
  (.e (.done (.brk u0))))
  (fun u3=> .r<| .e (.next (Ph n u3))))
  (.e (.done (.brk u1))))
  (fun u2=> .rg {fz:=[21]} []<| .e u2))
section
variable (u0:(List Bool)) (b:Int) (u2:(List Bool))
abbrev RU:=(u0.set b.toNat (bif (at' u0 b.toNat)then true else(at' u2 b.toNat)))
end
theorem DY (p:au) (s_:State):dG Tryz.prog 67 (Pm s_ p) [] (fun r=>(.iF [(sD (bg none 1 ai r.1)),(sI r.2)])) (fun _=>[]) (iT p s_):=
  dP tT mX Tryz.func67 (
  .rg {fr:=[(0,3),(1,4)],fz:=[3,4]} []<| .cl 2 (iA p s_) fun r_=> .r<| .r<| .it (.r<| .e (([]:List Bool),r_))
  (.a3 ((0:Int)≤p.buses) (TL p) (Ty p)<| .rg {an:=[(2, .arr (yx p).length (Jt p))],fr:=[(2,5)]} [0, .e ((p.buses:Int)),1,2, .pf ⟨(yx p).length=p.buses.toNat,List.length_replicate⟩, .pf ⟨aM p.buses.toNat 1 (fun _ j=>[(.bool false)].getD j .nilp) (Jt p),mo _ _ _ _ _ (fun j hj=>(match j,hj with|0,_=>rfl))⟩]<| .r<| .lp (σ:=((List Bool) × Int)) (β:=(List Bool)) ((yx p),0) [] [] ⟨[2,3],[],fun(u1,kz)=>[(7,(vO 5 true u1.length)),(8,(vI kz))],fun(u1,kz)=>[(5,some (bM 4 1 ai u1))]⟩ ⟨[],[],fun u3=>[(7,(vO 5 true u3.length))],fun u3=>[(5,some (bM 4 1 ai u3))]⟩
  (fun(u1,kz)=> .r<| .it (.cl 3 (qa p s_ kz) fun u5=> .r<| .it (.r<| .e (.next (Ph kz u1)))
  (.cl 8 (vN p s_ (Oj kz p)) fun u2=> .a1 (QZ kz p)<| .rg {} [0,1]<| .r<| .lp (σ:=((List Bool) × Int)) (β:=(List Bool)) (u1,0) [] [] ⟨[2,3,8,9],[],fun(u0,b)=>[(7,(vO 5 true u0.length)),(10,(vI b))],fun(u0,b)=>[(5,some (bM 4 1 ai u0))]⟩ ⟨[2,3,8],[],fun u4=>[(7,(vO 5 true u4.length))],fun u4=>[(5,some (bM 4 1 ai u4))]⟩
  (fun(u0,b)=> .r<| .it (.a2 (Yx u0 b) ((gB [((at' u0 b.toNat),false)]=true→(0:Int)≤b∧b<(u2.length:Int)))<| .rg {an:=[(13, .arr 0 (aA ai (RU u0 b u2)))]} [0, .t 0 b u0.length,1,0, .t 0 b u0.length, .pf ⟨aM u0.length 1 (qW (aA ai u0) b.toNat 0 [(.bool (bif (at' u0 b.toNat)then true else(at' u2 b.toNat)))]) (aA ai (RU u0 b u2)),dB _ _ _ _ _ _ _ _ rfl (fun j hj=>(match j,hj with|0,_=>rfl))⟩]<| .im (.ll 5 u0 (RU u0 b u2))<| .r<| .e (.next ((RU u0 b u2),(k18 b))))
  (.e (.done (.brk u0))))
  (fun u4=> .r<| .e (.next (Ph kz u4)))))
  (.e (.done (.brk u1))))
  (fun u3=> .rg {fz:=[5]} []<| .e (u3,0))))
theorem CW (a:Source) (b:Source):dG Tryz.prog 109 [(.agg (k7 a)),(.agg (k7 b))] [] (fun r=>(vB r)) (fun _=>[]) (qf a b):=
  dP tT mX Tryz.func109 (
  .rg {fr:=[(0,2),(1,3)],fz:=[2,3]} []<| .r<| .e (bif (!decide (a.sync=b.sync))then true else(decide (a.sync=0))))
section
variable (u3:(List ay)) (u1:Bool) (u2:Bool) (u6:(List Bool)) (p:au) (kz:Int)
abbrev SC:List (Nat × Option Ob):=[(37,some (bM 117 2 ay.cell u3))]
abbrev VX:=((bif (bif u1 then u2 else false)then(at' u6 ((Oj kz p).toNat))else false),true)
end
theorem Ay (p:au) (s_:State):dG Tryz.prog 68 (Pm s_ p) [] (fun r=>(.iF [(sD (bg none 2 ay.cell r.1)),(sI r.2)])) (fun _=>[]) (nJ p s_):=
  dP tT mX Tryz.func68 (
  .rg {fr:=[(0,34),(1,35)],fz:=[34,35]} []<| .cl 2 (iA p s_) fun r_=> .r<| .r<| .it (.r<| .e (([]:List ay),r_))
  (.r<| .r<| .im (.ad 7 68 117 2 (aA ay.cell ([]:List ay)))<| .lp (σ:=((List ay) × Int)) (β:=(List ay)) (([]:List ay),0) [] [(68,37)] ⟨[2,3],[],fun(u3,i)=>[(7,(vO 37 false u3.length)),(8,(vI i))],fun(u3,i)=>(SC u3)⟩ ⟨[],[],fun u4=>[(7,(vO 37 false u4.length))],fun u4=>(SC u4)⟩
  (fun(u3,i)=> .r<| .it (.r<| .lp (σ:=((List ay) × Int)) (β:=(List ay)) (NU i u3) [] [] ⟨[2,3,8],[],fun(u0,kz)=>[(7,(vO 37 false u0.length)),(9,(vI kz))],fun(u0,kz)=>(SC u0)⟩ ⟨[2,3,8],[],fun u5=>[(7,(vO 37 false u5.length))],fun u5=>(SC u5)⟩
  (fun(u0,kz)=> .r<| .it (.cl 3 (qa p s_ i) fun u1=> .cg 8 [(u1,true)] (qa p s_ kz) fun u2=> .cg 19 [(k11 u1 u2)] (vN p s_ (Oj i p)) fun u6=> .cg 40 [(VX u1 u2 u6 p kz)] (CW (at' p.sources i.toNat) (at' p.sources kz.toNat)) fun u7=> .a5 ((gB [(k11 u1 u2)]=true→(0:Int)≤i∧i<(p.sources.length:Int))) ((gB [(k11 u1 u2)]=true→(0:Int)≤kz∧kz<(p.sources.length:Int))) ((gB [(k11 u1 u2)]=true→(0:Int)≤(at' p.sources kz.toNat).bus∧(at' p.sources kz.toNat).bus<(u6.length:Int))) ((gB [(VX u1 u2 u6 p kz)]=true→(0:Int)≤i∧i<(p.sources.length:Int))) ((gB [(VX u1 u2 u6 p kz)]=true→(0:Int)≤kz∧kz<(p.sources.length:Int)))<| .rg {} [8,7,0,6,1,2,3,4,5]<| .it (.a2 ((u0.length+[(⟨i,kz⟩:ay)].length)*16≤140737488355328) (u0.length+[(⟨i,kz⟩:ay)].length≤4611686018427387904)<| .rg {an:=[(4, .arr [(⟨i,kz⟩:ay)].length (aA ay.cell [(⟨i,kz⟩:ay)])),(5, .arr (u0++[(⟨i,kz⟩:ay)]).length (aA ay.cell (u0++[(⟨i,kz⟩:ay)])))],fr:=[(4,66),(5,67)]} [.pf ⟨[(⟨i,kz⟩:ay)].length=1,rfl⟩, .pf ⟨aM 1 2 (uM 2 [(.int .i64 i),(.int .i64 kz)]) (aA ay.cell [(⟨i,kz⟩:ay)]),(by intro i hi j hj;match i,j,hi,hj with|0,0,_,_=>rfl|0,1,_,_=>rfl)⟩, .e (u0.length),0,1, .pf ⟨(u0++[(⟨i,kz⟩:ay)]).length=u0.length+[(⟨i,kz⟩:ay)].length,List.length_append⟩, .pf ⟨aM (u0.length+[(⟨i,kz⟩:ay)].length) 2 (zI (aA ay.cell u0) u0.length (aA ay.cell [(⟨i,kz⟩:ay)])) (aA ay.cell (u0++[(⟨i,kz⟩:ay)])),jI _ _ _ _⟩]<| .r<| .en (.next ((u0++[(⟨i,kz⟩:ay)]),(k18 kz))) [] [(67,37)])
  (.r<| .e (.next (NU kz u0))))
  (.e (.done (.brk u0))))
  (fun u5=> .r<| .e (.next (NU i u5))))
  (.e (.done (.brk u3))))
  (fun u4=> .rg {fz:=[37]} []<| .e (u4,0))))
theorem uS (l:(List Int)) (n:Int):dG Tryz.prog 110 (Yw l n) [] (fun r=>(vB r)) (fun _=>[]) (p9 l n):=
  dP tT mX Tryz.func110 (
  .r<| .r<| .lp (σ:=Int) (β:=Unit) (0) [] [] ⟨[0,1],[],fun i=>[(5,(vI i))],fun i=>[]⟩ ⟨[],[],fun _=>[],fun _=>[]⟩
  (fun i=> .r<| .it (.a1 (Ro l i)<| .r<| .it (.r<| .e (.done (.ret true)))
  (.r<| .e (.next (k18 i))))
  (.e (.done (.brk ()))))
  (fun _=> .r<| .e false))
section
variable (p:au) (s_:State) (u0:(List Int)) (b:Int) (i:Int) (r_:Bool)
abbrev aaq:List SV:=[(.agg (k1 p)),(.agg (A8 s_)),(sD (O8 u0)),(sI b)]
abbrev Wy:=((gB [((decide (((at' p.links i.toNat).kind)=1)),false),((bif (decide (0≤(CK p i)))then(!r_)else false),true)]=true→(0:Int)≤i∧i<(s_.closed.length:Int)))
abbrev Wz:=((gB [(U3 p s_ i),((bif (decide (0≤(CK p i)))then(!r_)else false),true)]=true→(0:Int)≤i∧i<(s_.locked.length:Int)))
end
theorem Bw (p:au) (s_:State) (u0:(List Int)) (b:Int):dG Tryz.prog 69 (aaq p s_ u0 b) [] (fun r=>(vB r)) (fun _=>[]) (pu p s_ u0 b):=
  dP tT mX Tryz.func69 (
  .rg {fr:=[(0,10),(1,11)],fz:=[11]} []<| .a1 (XC s_ b)<| .r<| .it (.r<| .e true)
  (.r<| .lp (σ:=Int) (β:=Unit) (0) [] [] ⟨[2,3,4,5],[10],fun kz=>[(9,(vI kz))],fun kz=>[]⟩ ⟨[2,3,4,5],[10],fun _=>[],fun _=>[]⟩
  (fun kz=> .r<| .it (.a2 (QZ kz p) (WR p s_ b kz)<| .rg {} [0,1]<| .it (.r<| .e (.done (.ret true)))
  (.r<| .e (.next (k18 kz))))
  (.e (.done (.brk ()))))
  (fun _=> .r<| .lp (σ:=Int) (β:=Unit) (0) [] [] ⟨[2,3,4,5],[10],fun i=>[(10,(vI i))],fun i=>[]⟩ ⟨[],[],fun _=>[],fun _=>[]⟩
  (fun i=> .r<| .it (.jn (β:=Unit) 2 ⟨[2,3,4,5,10],[10],fun _=>[],fun _=>[]⟩ (.a1 (TY p i)<| .rg {fr:=[(5,19)],fz:=[19]} []<| .r<| .r<| .it (.r<| .r<| .it (.r<| .cg 5 [((decide (0≤(CK p i))),true)] (uS u0 (CK p i)) fun r_=> .a2 (Wy p s_ i r_) (Wz p s_ i r_)<| .rg {} [2,0,1]<| .it (.r<| .e (.ret (.done (.ret true))))
  (.e (.brk ())))
  (.cg 5 [((decide (0≤(Eu p i))),true)] (uS u0 (Eu p i)) fun u1=> .a2 ((gB [((decide (((at' p.links i.toNat).kind)=1)),false),((bif (decide (0≤(Eu p i)))then(!u1)else false),true)]=true→(0:Int)≤i∧i<(s_.closed.length:Int))) ((gB [(U3 p s_ i),((bif (decide (0≤(Eu p i)))then(!u1)else false),true)]=true→(0:Int)≤i∧i<(s_.locked.length:Int)))<| .rg {} [2,0,1]<| .it (.r<| .e (.ret (.done (.ret true))))
  (.e (.brk ()))))
  (.r<| .it (.r<| .cg 5 [((decide (0≤(CK p i))),true)] (uS u0 (CK p i)) fun u2=> .a2 (Wy p s_ i u2) (Wz p s_ i u2)<| .rg {} [2,0,1]<| .it (.r<| .e (.ret (.done (.ret true))))
  (.e (.brk ())))
  (.rg {sk:=[3,4,5,6,9,10,11,12,13,14,15,16,17,19,20,21,22,23,24,25]} []<| .f<| .e (.brk ()))))
  (fun _=> .r<| .e (.next (k18 i))))
  (.e (.done (.brk ()))))
  (fun _=> .r<| .e false))))
section
variable (p:au) (t:Task) (i:Int)
abbrev JI:=((at' p.racks ((at' t.fed i.toNat).toNat)).feeds)
end
theorem Cu (p:au) (s_:State) (t:Task):dG Tryz.prog 24 (UL p s_ t) [] (fun r=>(vI r)) (fun _=>[]) (bX p s_ t):=
  dP tT mX Tryz.func24 (
  .rg {fr:=[(0,7),(1,8),(2,9)],fz:=[8]} []<| .cl 2 (iA p s_) fun r_=> .r<| .r<| .it (.r<| .e r_)
  (.cl 2 (tQ p t) fun u1=> .r<| .it (.r<| .e 1)
  (.cl 2 (DY p s_) fun u0=> .r<| .r<| .lp (σ:=Int) (β:=Unit) (0) [] [] ⟨[3,4,5,8],[7,9],fun b=>[(10,(vI b))],fun b=>[]⟩ ⟨[3,4,5,8],[7,9],fun _=>[],fun _=>[]⟩
  (fun b=> .r<| .it (.a2 ((0:Int)≤b∧b<(u0.1.length:Int)) ((gB [((at' u0.1 b.toNat),true)]=true→(0:Int)≤b∧b<(s_.earthed.length:Int)))<| .rg {} [0,1]<| .it (.r<| .e (.done (.ret 40)))
  (.r<| .e (.next (k18 b))))
  (.e (.done (.brk ()))))
  (fun _=> .cl 2 (Ay p s_) fun u2=> .r<| .r<| .it (.r<| .e 41)
  (.r<| .lp (σ:=Int) (β:=Unit) (0) [] [] ⟨[3,4,5,8],[7,9],fun i=>[(13,(vI i))],fun i=>[]⟩ ⟨[3,4,5],[7,9],fun _=>[],fun _=>[]⟩
  (fun i=> .r<| .it (.a2 ((0:Int)≤i∧i<(t.fed.length:Int)) ((0:Int)≤(at' t.fed i.toNat)∧(at' t.fed i.toNat)<(p.racks.length:Int))<| .rg {fr:=[(10,13)],fz:=[13]} [0,1]<| .a2 ((0:Int)≤(JI p t i).e0∧(JI p t i).e0<(u0.1.length:Int)) ((gB [((decide (0≤((JI p t i).e1))),true),((!(at' u0.1 (((JI p t i).e0).toNat))),true)]=true→(0:Int)≤(if(JI p t i).e1<0 then 0 else(JI p t i).e1)∧(if(JI p t i).e1<0 then 0 else(JI p t i).e1)<(u0.1.length:Int)))<| .rg {} [.pf ⟨(0:Int)≤0∧(0:Int)<(2:Nat),(by decide)⟩,0, .pf ⟨(0:Int)≤1∧(1:Int)<(2:Nat),(by decide)⟩, .pf ⟨(0:Int)≤1∧(1:Int)<(2:Nat),(by decide)⟩,1]<| .it (.r<| .e (.done (.ret 42)))
  (.r<| .e (.next (k18 i))))
  (.e (.done (.brk ()))))
  (fun _=> .rg {fz:=[7,9]} []<| .lp (σ:=Int) (β:=Unit) (0) [] [] ⟨[3,4,5],[],fun i1=>[(15,(vI i1))],fun i1=>[]⟩ ⟨[],[],fun _=>[],fun _=>[]⟩
  (fun i1=> .r<| .it (.cl 9 (Bw p s_ t.crew (at' t.crew i1.toNat)) fun u3=> .a1 ((0:Int)≤i1∧i1<(t.crew.length:Int))<| .rg {} [0,1]<| .it (.r<| .e (.done (.ret 45)))
  (.r<| .e (.next (k18 i1))))
  (.e (.done (.brk ()))))
  (fun _=> .r<| .e 0)))))))
section
variable (x:af) (s_:State)
abbrev YQ:=((0:Int)≤x.index∧x.index<(s_.closed.length:Int))
abbrev XV:=((0:Int)≤x.index∧x.index<(s_.earthed.length:Int))
abbrev XW:=((0:Int)≤x.index∧x.index<(s_.locked.length:Int))
abbrev Wv:=((0:Int)≤x.index∧x.index<(s_.on_.length:Int))
end
theorem Cq (s_:State) (x:af):dG Tryz.prog 72 (UE s_ x) [] (fun r=>(vB r)) (fun _=>[]) (kI s_ x):=
  dP tT mX Tryz.func72 (
  .rg {fr:=[(0,2),(1,3)],fz:=[2,3]} []<| .r<| .r<| .r<| .it (.a1 (YQ x s_)<| .r<| .e (!(at' s_.closed x.index.toNat)))
  (.r<| .it (.a1 (YQ x s_)<| .r<| .e (at' s_.closed x.index.toNat))
  (.r<| .it (.a1 (XV x s_)<| .r<| .e (at' s_.earthed x.index.toNat))
  (.r<| .it (.a1 (XV x s_)<| .r<| .e (!(at' s_.earthed x.index.toNat)))
  (.r<| .it (.a1 (XW x s_)<| .r<| .e (at' s_.locked x.index.toNat))
  (.r<| .it (.a1 (XW x s_)<| .r<| .e (!(at' s_.locked x.index.toNat)))
  (.r<| .it (.a1 (Wv x s_)<| .r<| .e (at' s_.on_ x.index.toNat))
  (.a1 (Wv x s_)<| .r<| .e (!(at' s_.on_ x.index.toNat))))))))))
section
variable (r_:State) (i:Int)
end
section
variable (r_:State) (x:af)
end
section
variable (a:State) (b:State) (r_:Bool) (u0:Bool) (u1:Bool) (u2:Bool) (u3:Bool) (u4:Bool)
end
section
variable (x:af)
end
section
variable (s_:State) (l:(List State)) (u3:(List (List af))) (u1:(List af)) (t:Task) (kz:Int)
end
theorem Bl (t:Task):dG Tryz.prog 14 (Zx t) [] (fun r=>(.v (.agg [(.own 0 false r.fed.length),(.own 1 false r.crew.length),(.own 2 false r.allowed.length),(.own 3 false r.goal.length)]))) (fun r=>[(0,some (bM 3 1 (bJ .i64) r.fed)),(1,some (bM 3 1 (bJ .i64) r.crew)),(2,some (bM 61 2 af.cell r.allowed)),(3,some (bM 61 2 af.cell r.goal)),(4,none)]) (uI t):=
  dP tT mX Tryz.func14 (
  .rg {fr:=[(0,6),(1,7)],fz:=[6]} []<| .cl 2 (dY [(0,8)] (qF t.fed)) fun r_=> .cl 5 (dY [(0,9)] (qF t.crew)) fun u0=> .cl 8 (dY [(0,10)] (pI t.allowed)) fun u1=> .cl 11 (dY [(0,11)] (pI t.goal)) fun u2=> .r<| .en (⟨r_,u0,u1,u2⟩:Task) [] [(8,0),(9,1),(10,2),(11,3),(7,4)])
theorem uH (a:(List Int)) (b:(List Int)):dG Tryz.prog 22 [(sD (O8 a)),(sD (O8 b))] [] (fun r=>(vB r)) (fun _=>[]) (l7 a b):=
  dP tT mX Tryz.func22 (
  .r<| .r<| .it (.r<| .e false)
  (.r<| .lp (σ:=Int) (β:=Unit) (0) [] [] ⟨[0,1],[],fun i=>[(5,(vI i))],fun i=>[]⟩ ⟨[],[],fun _=>[],fun _=>[]⟩
  (fun i=> .r<| .it (.a2 (Ro a i) (Ro b i)<| .rg {} [0,1]<| .it (.r<| .e (.done (.ret false)))
  (.r<| .e (.next (k18 i))))
  (.e (.done (.brk ()))))
  (fun _=> .r<| .e true)))
theorem Cv (p:au) (s_:State) (x:af):dG Tryz.prog 34 (Gx p s_ x) [] (fun r=>(.iF [(sB r.1),(sI r.2)])) (fun _=>[]) (qg p s_ x):=
  dP tT mX Tryz.func34 (
  .rg {fr:=[(0,3),(1,4),(2,5)],fz:=[3,4,5]} []<| .cl 2 (bZ p s_) fun r_=> .r<| .r<| .it (.r<| .e (false,r_))
  (.cl 2 (pq p x) fun u1=> .r<| .it (.r<| .e (false,1))
  (.cl 2 (pU s_ x) fun u0=> .r<| .e (u0,0))))
section
variable (n2:Int) (kz:Int)
end
section
variable (s_:State) (p:au)
end
section
variable (u0:State) (t9:Int) (u1:(List Link))
end
end
end Sg
