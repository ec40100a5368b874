import Derived.Test.YtboodeobmgjjpaaGreatVeW2
set_option linter.all false
namespace Sg
open Go Go.Proofs
set_option maxRecDepth 20000
noncomputable section
theorem q9 (l:(List Int)):cO Tryz.prog 58 [(sD (RB l))] [] (fun r=>(vO 0 false r.length)) (fun r=>[(0,some (bg 3 1 (bL .i64) r))]) (mq l):=
  dG tT mX Tryz.func58 (
  .r<| .r<| .a2 (l.length*8≤140737488355328) (l.length≤4611686018427387904)<| .rg {an:=[(2, .arr l.length (ay (bL .i64) l))],fr:=[(2,1)]} [0,1, .e (l.length), .pf ⟨aK l.length 1 (ay (bL .i64) l) (ay (bL .i64) l),j6 _ _ _⟩]<| .en l [] [(1,0)])
theorem qp (l:(List af)):cO Tryz.prog 40 (R3 l) [] (fun r=>(vO 0 false r.length)) (fun r=>[(0,some (bg 61 2 af.cell r))]) (dW l):=
  dG tT mX Tryz.func40 (
  .r<| .r<| .a2 (l.length*16≤140737488355328) (l.length≤4611686018427387904)<| .rg {an:=[(2, .arr l.length (ay af.cell l))],fr:=[(2,1)]} [0,1, .e (l.length), .pf ⟨aK l.length 2 (ay af.cell l) (ay af.cell l),j6 _ _ _⟩]<| .en l [] [(1,0)])
section
variable (t:Task)
abbrev abP:List SV:=[(.agg (k2 t))]
end
theorem FM (t:Task):cO Tryz.prog 14 (abP t) [] (fun r=>(.v (.agg [(.d (aR none 1 (bL .i64) r.fed)),(.d (aR none 1 (bL .i64) r.crew)),(.d (aR none 2 af.cell r.allowed)),(.d (aR none 2 af.cell r.goal))]))) (fun _=>[]) (vC t):=
  dG tT mX Tryz.func14 (
  .rg {fr:=[(0,6),(1,7)],fz:=[6]} []<| .cl 2 (dH [(0,8)] (q9 t.fed)) fun r_=> .cl 5 (dH [(0,9)] (q9 t.crew)) fun u0=> .cl 8 (dH [(0,10)] (qp t.allowed)) fun u1=> .cl 11 (dH [(0,11)] (qp t.goal)) fun u2=> .rg {fz:=[8,9,10,11]} []<| .fz [7]<| .e (⟨r_,u0,u1,u2⟩:Task))
theorem E9 (p:aj) (x:Link):cO Tryz.prog 130 [(.agg (k1 p)),(.agg (k19 x))] [] (fun r=>(vB r)) (fun _=>[]) (sF p x):=
  dG tT mX Tryz.func130 (
  .rg {fr:=[(0,6),(1,7)],fz:=[6]} []<| .r<| .it (.r<| .e false)
  (.r<| .it (.r<| .e false)
  (.r<| .lp (σ:=Int) (β:=Unit) (0) [] [] ⟨[3],[7],fun i=>[(5,(vI i))],fun i=>[]⟩ ⟨[],[],fun _=>[],fun _=>[]⟩
  (fun i=> .r<| .it (.a1 ((0:Int)≤i∧i<(x.trip.length:Int))<| .rg {fr:=[(5,11)],fz:=[11]} []<| .r<| .it (.r<| .e (.done (.ret false)))
  (.a2 ((gB [((decide (0<i)),true)]=true→(0:Int)≤(k10 i)∧(k10 i)<(x.trip.length:Int))) ((gB [(k20 x i),((decide (0<i)),true)]=true→(0:Int)≤(k10 i)∧(k10 i)<(x.trip.length:Int)))<| .rg {} [0,1]<| .it (.r<| .e (.done (.ret false)))
  (.r<| .e (.next (k18 i)))))
  (.e (.done (.brk ()))))
  (fun _=> .r<| .e true))))
theorem Ed (p:aj):cO Tryz.prog 90 (k6 p) [] (fun r=>(vI r)) (fun _=>[]) (qX p):=
  dG tT mX Tryz.func90 (
  .rg {fr:=[(0,9)]} []<| .r<| .it (.r<| .e 10)
  (.r<| .it (.r<| .e 11)
  (.r<| .lp (σ:=Int) (β:=Unit) (0) [] [] ⟨[1],[9],fun i=>[(3,(vI i))],fun i=>[]⟩ ⟨[1],[9],fun _=>[],fun _=>[]⟩
  (fun i=> .r<| .it (.a1 (Rt i p)<| .rg {fr:=[(5,13)],fz:=[13]} []<| .r<| .it (.r<| .e (.done (.ret 11)))
  (.r<| .e (.next (k18 i))))
  (.e (.done (.brk ()))))
  (fun _=> .r<| .it (.r<| .e 12)
  (.r<| .lp (σ:=Int) (β:=Unit) (0) [] [] ⟨[1],[9],fun i1=>[(5,(vI i1))],fun i1=>[]⟩ ⟨[1],[9],fun _=>[],fun _=>[]⟩
  (fun i1=> .r<| .it (.cl 6 (E9 p (at' p.links i1.toNat)) fun r_=> .a1 (UM p i1)<| .rg {} [0,1]<| .it (.r<| .e (.done (.ret 12)))
  (.r<| .e (.next (k18 i1))))
  (.e (.done (.brk ()))))
  (fun _=> .r<| .it (.r<| .e 13)
  (.r<| .lp (σ:=Int) (β:=Unit) (0) [] [] ⟨[1],[9],fun i2=>[(6,(vI i2))],fun i2=>[]⟩ ⟨[],[],fun _=>[],fun _=>[]⟩
  (fun i2=> .r<| .it (.a1 ((0:Int)≤i2∧i2<(p.racks.length:Int))<| .rg {fr:=[(5,17)],fz:=[17]} []<| .rg {} [.pf ⟨(0:Int)≤0∧(0:Int)<(2:Nat),(by decide)⟩, .pf ⟨(0:Int)≤1∧(1:Int)<(2:Nat),(by decide)⟩]<| .r<| .r<| .it (.r<| .r<| .it (.r<| .e (.done (.ret 13)))
  (.r<| .e (.next (k18 i2))))
  (.r<| .it (.r<| .e (.done (.ret 13)))
  (.r<| .e (.next (k18 i2)))))
  (.e (.done (.brk ()))))
  (fun _=> .r<| .e 0))))))))
theorem Eo (p:aj) (s_:State):cO Tryz.prog 104 (QO s_ p) [] (fun r=>(vB r)) (fun _=>[]) (qY p s_):=
  dG tT mX Tryz.func104 (
  .rg {fr:=[(0,2),(1,3)],fz:=[2,3]} []<| .r<| .r<| .it (.r<| .e false)
  (.r<| .lp (σ:=Int) (β:=Unit) (0) [] [] ⟨[2,3,5],[],fun i=>[(8,(vI i))],fun i=>[]⟩ ⟨[],[],fun _=>[],fun _=>[]⟩
  (fun i=> .r<| .it (.a3 (UM p i) (k44 s_ p i) (k45 s_ p i)<| .rg {} [0,1,2]<| .it (.r<| .e (.done (.ret false)))
  (.r<| .e (.next (k18 i))))
  (.e (.done (.brk ()))))
  (fun _=> .r<| .e true)))
theorem iL (p:aj) (s_:State):cO Tryz.prog 65 (QO s_ p) [] (fun r=>(vI r)) (fun _=>[]) (eX p s_):=
  dG tT mX Tryz.func65 (
  .rg {fr:=[(0,2),(1,3)],fz:=[2,3]} []<| .cl 1 (Ed p) fun r_=> .r<| .cg 5 [((decide (r_=0)),true)] (Eo p s_) fun u0=> .r<| .it (.r<| .r<| .e 9)
  (.r<| .e r_))
theorem uV (l:(List Int)) (n:Int):cO Tryz.prog 105 (k48 l n) [] (fun r=>(vB r)) (fun _=>[]) (kT l n):=
  dG tT mX Tryz.func105 (
  .r<| .r<| .lp (σ:=Int) (β:=Unit) (0) [] [] ⟨[0,1],[],fun i=>[(5,(vI i))],fun i=>[]⟩ ⟨[0],[],fun _=>[],fun _=>[]⟩
  (fun i=> .r<| .it (.a2 (V6 l i) ((gB [((decide ((at' l i.toNat)<0)),false)]=true→(0:Int)≤i∧i<(l.length:Int)))<| .rg {} [0,1]<| .it (.r<| .e (.done (.ret false)))
  (.r<| .e (.next (k18 i))))
  (.e (.done (.brk ()))))
  (fun _=> .r<| .e (decide ((l.length:Int)≤24))))
section
variable (x:af) (p:aj)
abbrev Ux:=((gB [((decide (x.index<(p.links.length:Int))),true)]=true→(0:Int)≤x.index∧x.index<(p.links.length:Int)))
abbrev T9:=(bif (decide (x.index<(p.links.length:Int)))then(!decide (((at' p.links x.index.toNat).kind)=1))else false)
end
theorem vQ (p:aj) (x:af):cO Tryz.prog 71 (k49 x p) [] (fun r=>(vB r)) (fun _=>[]) (mr p x):=
  dG tT mX Tryz.func71 (
  .rg {fr:=[(0,2),(1,3)],fz:=[2,3]} []<| .r<| .r<| .it (.r<| .e false)
  (.r<| .r<| .it (.it (.a1 (Ux x p)<| .r<| .e (T9 x p))
  (.r<| .it (.it (.r<| .e (UX x p))
  (.r<| .it (.it (.r<| .e (KZ x p))
  (.r<| .e false))
  (.r<| .it (.r<| .e (KZ x p))
  (.r<| .e false))))
  (.r<| .it (.r<| .e (UX x p))
  (.r<| .it (.it (.r<| .e (KZ x p))
  (.r<| .e false))
  (.r<| .it (.r<| .e (KZ x p))
  (.r<| .e false))))))
  (.r<| .it (.it (.a1 (Ux x p)<| .r<| .e (T9 x p))
  (.r<| .it (.it (.r<| .e (UX x p))
  (.r<| .it (.it (.r<| .e (KZ x p))
  (.r<| .e false))
  (.r<| .it (.r<| .e (KZ x p))
  (.r<| .e false))))
  (.r<| .it (.r<| .e (UX x p))
  (.r<| .it (.it (.r<| .e (KZ x p))
  (.r<| .e false))
  (.r<| .it (.r<| .e (KZ x p))
  (.r<| .e false))))))
  (.r<| .it (.it (.a1 (Ux x p)<| .r<| .e (T9 x p))
  (.r<| .it (.it (.r<| .e (UX x p))
  (.r<| .it (.it (.r<| .e (KZ x p))
  (.r<| .e false))
  (.r<| .it (.r<| .e (KZ x p))
  (.r<| .e false))))
  (.r<| .it (.r<| .e (UX x p))
  (.r<| .it (.it (.r<| .e (KZ x p))
  (.r<| .e false))
  (.r<| .it (.r<| .e (KZ x p))
  (.r<| .e false))))))
  (.r<| .it (.a1 (Ux x p)<| .r<| .e (T9 x p))
  (.r<| .it (.it (.r<| .e (UX x p))
  (.r<| .it (.it (.r<| .e (KZ x p))
  (.r<| .e false))
  (.r<| .it (.r<| .e (KZ x p))
  (.r<| .e false))))
  (.r<| .it (.r<| .e (UX x p))
  (.r<| .it (.it (.r<| .e (KZ x p))
  (.r<| .e false))
  (.r<| .it (.r<| .e (KZ x p))
  (.r<| .e false))))))))))
theorem wL (p:aj) (l:(List af)):cO Tryz.prog 106 [(.agg (k1 p)),(sD (Ns l))] [] (fun r=>(vB r)) (fun _=>[]) (nQ p l):=
  dG tT mX Tryz.func106 (
  .rg {fr:=[(0,1)],fz:=[1]} []<| .r<| .lp (σ:=Int) (β:=Unit) (0) [] [] ⟨[1,2],[],fun i=>[(5,(vI i))],fun i=>[]⟩ ⟨[1],[],fun _=>[],fun _=>[]⟩
  (fun i=> .r<| .it (.cl 5 (vQ p (at' l i.toNat)) fun r_=> .a1 (SS l i)<| .rg {} [0,1]<| .it (.r<| .e (.done (.ret false)))
  (.r<| .e (.next (k18 i))))
  (.e (.done (.brk ()))))
  (fun _=> .r<| .e (decide ((l.length:Int)≤24))))
theorem DJ (p:aj) (t:Task):cO Tryz.prog 66 (k0 p t) [] (fun r=>(vB r)) (fun _=>[]) (pX p t):=
  dG tT mX Tryz.func66 (
  .rg {fr:=[(0,2),(1,3)],fz:=[2,3]} []<| .cl 5 (uV t.fed (p.racks.length:Int)) fun r_=> .cg 11 [(r_,true)] (uV t.crew p.buses) fun u0=> .cg 17 [(k11 r_ u0)] (wL p t.allowed) fun u1=> .cg 23 [(k12 r_ u0 u1)] (wL p t.goal) fun u2=> .r<| .e (k13 r_ u0 u1 u2))
theorem qO (p:aj) (s_:State) (kz:Int):cO Tryz.prog 107 (SA p s_ kz) [] (fun r=>(vB r)) (fun _=>[]) (kZ p s_ kz):=
  dG tT mX Tryz.func107 (
  .rg {fr:=[(0,2),(1,3)],fz:=[2,3]} []<| .a4 (aay s_ kz) (Y5 s_ kz) ((gB [(Yu s_ kz)]=true→(0:Int)≤kz∧kz<(p.sources.length:Int))) (Zm s_ kz p)<| .rg {} [0,1,2,3]<| .e (bif (bif (at' s_.on_ kz.toNat)then(!(at' s_.badSource kz.toNat))else false)then(!(at' s_.badBus ((Qy kz p).toNat)))else false))
section
variable (s_:State) (i:Int) (p:aj)
abbrev acw:=((gB [((at' s_.closed i.toNat),true)]=true→(0:Int)≤i∧i<(s_.badLink.length:Int)))
abbrev aaw:=(bif (at' s_.closed i.toNat)then(!(at' s_.badLink i.toNat))else false)
abbrev aaE:=((aaw s_ i),true)
abbrev Lm:=((Cw p i).toNat)
abbrev ZX:=(bif (aaw s_ i)then(!(at' s_.badBus (Lm i p)))else false)
abbrev ZK:=((ZX s_ i p),true)
abbrev NW:=((F4 p i).toNat)
end
theorem Az (p:aj) (s_:State) (i:Int):cO Tryz.prog 134 (SA p s_ i) [] (fun r=>(vB r)) (fun _=>[]) (nC p s_ i):=
  dG tT mX Tryz.func134 (
  .rg {fr:=[(0,2),(1,3)],fz:=[2,3]} []<| .a6 (XJ s_ i) (acw s_ i) ((gB [(aaE s_ i)]=true→(0:Int)≤i∧i<(p.links.length:Int))) ((gB [(aaE s_ i)]=true→(0:Int)≤(at' p.links i.toNat).a∧(at' p.links i.toNat).a<(s_.badBus.length:Int))) ((gB [(ZK s_ i p)]=true→(0:Int)≤i∧i<(p.links.length:Int))) ((gB [(ZK s_ i p)]=true→(0:Int)≤(at' p.links i.toNat).b∧(at' p.links i.toNat).b<(s_.badBus.length:Int)))<| .rg {} [0,1,2,3,4,5]<| .e (bif (ZX s_ i p)then(!(at' s_.badBus (NW i p)))else false))
section
variable (p:aj) (b:Int) (u0:(List Bool)) (i:Int)
abbrev VB:=((Ac p).set b.toNat true)
abbrev Oo:=(u0.set (Lm i p) true)
abbrev XL:=(ay ah (Oo p u0 i))
abbrev Xh:=((Oo p u0 i).set (NW i p) true)
abbrev Y6:=(ay ah (Xh p u0 i))
end
theorem qE (p:aj) (s_:State) (b:Int):cO Tryz.prog 108 (SA p s_ b) [] (fun r=>(vD (aR none 1 ah r))) (fun _=>[]) (dJ p s_ b):=
  dG tT mX Tryz.func108 (
  .rg {fr:=[(0,19),(1,20)],fz:=[20]} []<| .a3 ((0:Int)≤p.buses) (TS p) (UJ p)<| .rg {an:=[(2, .arr (Ac p).length (J6 p))],fr:=[(2,21)]} [0, .e ((p.buses:Int)),1,2, .pf ⟨(Ac p).length=p.buses.toNat,List.length_replicate⟩, .pf ⟨aK p.buses.toNat 1 (fun _ j=>[(.bool false)].getD j .nilp) (J6 p),mY _ _ _ _ _ (fun j hj=>(match j,hj with|0,_=>rfl))⟩]<| .a1 ((0:Int)≤b∧b<((Ac p).length:Int))<| .rg {an:=[(3, .arr 0 (ay ah (VB p b)))]} [0, .t 0 b ((Ac p).length), .pf ⟨aK (Ac p).length 1 (lJ (J6 p) b.toNat 0 [(.bool true)]) (ay ah (VB p b)),aJ _ _ _ _ _ _ _ _ rfl (fun j hj=>(match j,hj with|0,_=>rfl))⟩]<| .im (.ll 21 (Ac p) (VB p b))<| .r<| .lp (σ:=((List Bool) × Int)) (β:=(List Bool)) ((VB p b),0) [] [] ⟨[3,4],[19],fun(u1,n)=>[(7,(vO 21 true u1.length)),(8,(vI n))],fun(u1,n)=>[(21,some (bg 4 1 ah u1))]⟩ ⟨[],[],fun u2=>[(7,(vO 21 true u2.length))],fun u2=>[(21,some (bg 4 1 ah u2))]⟩
  (fun(u1,n)=> .r<| .it (.r<| .lp (σ:=((List Bool) × Int)) (β:=(List Bool)) (u1,0) [] [] ⟨[3,4,8],[19],fun(u0,i)=>[(7,(vO 21 true u0.length)),(9,(vI i))],fun(u0,i)=>[(21,some (bg 4 1 ah u0))]⟩ ⟨[3,4,8],[19],fun u3=>[(7,(vO 21 true u3.length))],fun u3=>[(21,some (bg 4 1 ah u3))]⟩
  (fun(u0,i)=> .r<| .it (.a1 (UM p i)<| .rg {fr:=[(5,37)]} []<| .cl 3 (Az p s_ i) fun r_=> .a2 ((gB [(r_,true)]=true→(0:Int)≤(at' p.links i.toNat).a∧(at' p.links i.toNat).a<(u0.length:Int))) ((gB [((at' u0 (Lm i p)),false),(r_,true)]=true→(0:Int)≤(at' p.links i.toNat).b∧(at' p.links i.toNat).b<(u0.length:Int)))<| .rg {} [2,0, .tg 0 [(r_,true)] (Cw p i) u0.length,1, .tg 1 [((at' u0 (Lm i p)),false),(r_,true)] (F4 p i) u0.length]<| .it (.a1 ((0:Int)≤(at' p.links i.toNat).a∧(at' p.links i.toNat).a<(u0.length:Int))<| .rg {an:=[(4, .arr 0 (XL p u0 i))]} [0, .t 0 (Cw p i) u0.length, .pf ⟨aK u0.length 1 (lJ (ay ah u0) (Lm i p) 0 [(.bool true)]) (XL p u0 i),aJ _ _ _ _ _ _ _ _ rfl (fun j hj=>(match j,hj with|0,_=>rfl))⟩]<| .im (.ll 21 u0 (Oo p u0 i))<| .a1 ((0:Int)≤(at' p.links i.toNat).b∧(at' p.links i.toNat).b<((Oo p u0 i).length:Int))<| .rg {an:=[(4, .arr 0 (Y6 p u0 i))]} [0, .t 0 (F4 p i) ((Oo p u0 i).length), .pf ⟨aK (Oo p u0 i).length 1 (lJ (XL p u0 i) (NW i p) 0 [(.bool true)]) (Y6 p u0 i),aJ _ _ _ _ _ _ _ _ rfl (fun j hj=>(match j,hj with|0,_=>rfl))⟩]<| .im (.ll 21 (Oo p u0 i) (Xh p u0 i))<| .r<| .e (.next ((Xh p u0 i),(k18 i))))
  (.r<| .e (.next (QG i u0))))
  (.e (.done (.brk u0))))
  (fun u3=> .r<| .e (.next (QG n u3))))
  (.e (.done (.brk u1))))
  (fun u2=> .rg {fz:=[21]} []<| .e u2))
section
variable (u0:(List Bool)) (b:Int) (u2:(List Bool))
abbrev U4:=(u0.set b.toNat (bif (at' u0 b.toNat)then true else(at' u2 b.toNat)))
end
theorem yM (p:aj) (s_:State):cO Tryz.prog 67 (QO s_ p) [] (fun r=>(.iR [(sD (aR none 1 ah r.1)),(sI r.2)])) (fun _=>[]) (jl p s_):=
  dG tT mX Tryz.func67 (
  .rg {fr:=[(0,3),(1,4)],fz:=[3,4]} []<| .cl 2 (iL p s_) fun r_=> .r<| .r<| .it (.r<| .e (([]:List Bool),r_))
  (.a3 ((0:Int)≤p.buses) (TS p) (UJ p)<| .rg {an:=[(2, .arr (Ac p).length (J6 p))],fr:=[(2,5)]} [0, .e ((p.buses:Int)),1,2, .pf ⟨(Ac p).length=p.buses.toNat,List.length_replicate⟩, .pf ⟨aK p.buses.toNat 1 (fun _ j=>[(.bool false)].getD j .nilp) (J6 p),mY _ _ _ _ _ (fun j hj=>(match j,hj with|0,_=>rfl))⟩]<| .r<| .lp (σ:=((List Bool) × Int)) (β:=(List Bool)) ((Ac p),0) [] [] ⟨[2,3],[],fun(u1,kz)=>[(7,(vO 5 true u1.length)),(8,(vI kz))],fun(u1,kz)=>[(5,some (bg 4 1 ah u1))]⟩ ⟨[],[],fun u3=>[(7,(vO 5 true u3.length))],fun u3=>[(5,some (bg 4 1 ah u3))]⟩
  (fun(u1,kz)=> .r<| .it (.cl 3 (qO p s_ kz) fun u5=> .r<| .it (.r<| .e (.next (QG kz u1)))
  (.cl 8 (qE p s_ (Qy kz p)) fun u2=> .a1 (Rt kz p)<| .rg {} [0,1]<| .r<| .lp (σ:=((List Bool) × Int)) (β:=(List Bool)) (u1,0) [] [] ⟨[2,3,8,9],[],fun(u0,b)=>[(7,(vO 5 true u0.length)),(10,(vI b))],fun(u0,b)=>[(5,some (bg 4 1 ah u0))]⟩ ⟨[2,3,8],[],fun u4=>[(7,(vO 5 true u4.length))],fun u4=>[(5,some (bg 4 1 ah u4))]⟩
  (fun(u0,b)=> .r<| .it (.a2 (Xb u0 b) ((gB [((at' u0 b.toNat),false)]=true→(0:Int)≤b∧b<(u2.length:Int)))<| .rg {an:=[(13, .arr 0 (ay ah (U4 u0 b u2)))]} [0, .t 0 b u0.length,1,0, .t 0 b u0.length, .pf ⟨aK u0.length 1 (lJ (ay ah u0) b.toNat 0 [(.bool (bif (at' u0 b.toNat)then true else(at' u2 b.toNat)))]) (ay ah (U4 u0 b u2)),aJ _ _ _ _ _ _ _ _ rfl (fun j hj=>(match j,hj with|0,_=>rfl))⟩]<| .im (.ll 5 u0 (U4 u0 b u2))<| .r<| .e (.next ((U4 u0 b u2),(k18 b))))
  (.e (.done (.brk u0))))
  (fun u4=> .r<| .e (.next (QG kz u4)))))
  (.e (.done (.brk u1))))
  (fun u3=> .rg {fz:=[5]} []<| .e (u3,0))))
theorem D5 (a:Source) (b:Source):cO Tryz.prog 109 [(.agg (k7 a)),(.agg (k7 b))] [] (fun r=>(vB r)) (fun _=>[]) (qZ a b):=
  dG tT mX Tryz.func109 (
  .rg {fr:=[(0,2),(1,3)],fz:=[2,3]} []<| .r<| .e (bif (!decide (a.sync=b.sync))then true else(decide (a.sync=0))))
section
variable (u3:(List aA)) (u1:Bool) (u2:Bool) (u6:(List Bool)) (p:aj) (kz:Int)
abbrev UC:List (Nat × Option Ob):=[(37,some (bg 117 2 aA.cell u3))]
abbrev Xw:=((bif (bif u1 then u2 else false)then(at' u6 ((Qy kz p).toNat))else false),true)
end
theorem BO (p:aj) (s_:State):cO Tryz.prog 68 (QO s_ p) [] (fun r=>(.iR [(sD (aR none 2 aA.cell r.1)),(sI r.2)])) (fun _=>[]) (og p s_):=
  dG tT mX Tryz.func68 (
  .rg {fr:=[(0,34),(1,35)],fz:=[34,35]} []<| .cl 2 (iL p s_) fun r_=> .r<| .r<| .it (.r<| .e (([]:List aA),r_))
  (.r<| .r<| .im (.ad 7 68 117 2 (ay aA.cell ([]:List aA)))<| .lp (σ:=((List aA) × Int)) (β:=(List aA)) (([]:List aA),0) [] [(68,37)] ⟨[2,3],[],fun(u3,i)=>[(7,(vO 37 false u3.length)),(8,(vI i))],fun(u3,i)=>(UC u3)⟩ ⟨[],[],fun u4=>[(7,(vO 37 false u4.length))],fun u4=>(UC u4)⟩
  (fun(u3,i)=> .r<| .it (.r<| .lp (σ:=((List aA) × Int)) (β:=(List aA)) (Qb i u3) [] [] ⟨[2,3,8],[],fun(u0,kz)=>[(7,(vO 37 false u0.length)),(9,(vI kz))],fun(u0,kz)=>(UC u0)⟩ ⟨[2,3,8],[],fun u5=>[(7,(vO 37 false u5.length))],fun u5=>(UC u5)⟩
  (fun(u0,kz)=> .r<| .it (.cl 3 (qO p s_ i) fun u1=> .cg 8 [(u1,true)] (qO p s_ kz) fun u2=> .cg 19 [(k11 u1 u2)] (qE p s_ (Qy i p)) fun u6=> .cg 40 [(Xw u1 u2 u6 p kz)] (D5 (at' p.sources i.toNat) (at' p.sources kz.toNat)) fun u7=> .a5 ((gB [(k11 u1 u2)]=true→(0:Int)≤i∧i<(p.sources.length:Int))) ((gB [(k11 u1 u2)]=true→(0:Int)≤kz∧kz<(p.sources.length:Int))) ((gB [(k11 u1 u2)]=true→(0:Int)≤(at' p.sources kz.toNat).bus∧(at' p.sources kz.toNat).bus<(u6.length:Int))) ((gB [(Xw u1 u2 u6 p kz)]=true→(0:Int)≤i∧i<(p.sources.length:Int))) ((gB [(Xw u1 u2 u6 p kz)]=true→(0:Int)≤kz∧kz<(p.sources.length:Int)))<| .rg {} [8,7,0,6,1,2,3,4,5]<| .it (.a2 ((u0.length+[(⟨i,kz⟩:aA)].length)*16≤140737488355328) (u0.length+[(⟨i,kz⟩:aA)].length≤4611686018427387904)<| .rg {an:=[(4, .arr [(⟨i,kz⟩:aA)].length (ay aA.cell [(⟨i,kz⟩:aA)])),(5, .arr (u0++[(⟨i,kz⟩:aA)]).length (ay aA.cell (u0++[(⟨i,kz⟩:aA)])))],fr:=[(4,66),(5,67)]} [.pf ⟨[(⟨i,kz⟩:aA)].length=1,rfl⟩, .pf ⟨aK 1 2 (uY 2 [(.int .i64 i),(.int .i64 kz)]) (ay aA.cell [(⟨i,kz⟩:aA)]),(by intro i hi j hj;match i,j,hi,hj with|0,0,_,_=>rfl|0,1,_,_=>rfl)⟩, .e (u0.length),0,1, .pf ⟨(u0++[(⟨i,kz⟩:aA)]).length=u0.length+[(⟨i,kz⟩:aA)].length,List.length_append⟩, .pf ⟨aK (u0.length+[(⟨i,kz⟩:aA)].length) 2 (xY (ay aA.cell u0) u0.length (ay aA.cell [(⟨i,kz⟩:aA)])) (ay aA.cell (u0++[(⟨i,kz⟩:aA)])),gL _ _ _ _⟩]<| .r<| .en (.next ((u0++[(⟨i,kz⟩:aA)]),(k18 kz))) [] [(67,37)])
  (.r<| .e (.next (Qb kz u0))))
  (.e (.done (.brk u0))))
  (fun u5=> .r<| .e (.next (Qb i u5))))
  (.e (.done (.brk u3))))
  (fun u4=> .rg {fz:=[37]} []<| .e (u4,0))))
theorem vT (l:(List Int)) (n:Int):cO Tryz.prog 110 (k48 l n) [] (fun r=>(vB r)) (fun _=>[]) (qN l n):=
  dG tT mX Tryz.func110 (
  .r<| .r<| .lp (σ:=Int) (β:=Unit) (0) [] [] ⟨[0,1],[],fun i=>[(5,(vI i))],fun i=>[]⟩ ⟨[],[],fun _=>[],fun _=>[]⟩
  (fun i=> .r<| .it (.a1 (V6 l i)<| .r<| .it (.r<| .e (.done (.ret true)))
  (.r<| .e (.next (k18 i))))
  (.e (.done (.brk ()))))
  (fun _=> .r<| .e false))
section
variable (p:aj) (s_:State) (u0:(List Int)) (b:Int) (i:Int) (r_:Bool)
abbrev abp:List SV:=[(.agg (k1 p)),(.agg (AB s_)),(sD (RB u0)),(sI b)]
abbrev Zf:=((gB [((decide (((at' p.links i.toNat).kind)=1)),false),((bif (decide (0≤(Cw p i)))then(!r_)else false),true)]=true→(0:Int)≤i∧i<(s_.closed.length:Int)))
abbrev Zi:=((gB [(X3 p s_ i),((bif (decide (0≤(Cw p i)))then(!r_)else false),true)]=true→(0:Int)≤i∧i<(s_.locked.length:Int)))
end
theorem Dp (p:aj) (s_:State) (u0:(List Int)) (b:Int):cO Tryz.prog 69 (abp p s_ u0 b) [] (fun r=>(vB r)) (fun _=>[]) (qi p s_ u0 b):=
  dG tT mX Tryz.func69 (
  .rg {fr:=[(0,10),(1,11)],fz:=[11]} []<| .a1 (Yz s_ b)<| .r<| .it (.r<| .e true)
  (.r<| .lp (σ:=Int) (β:=Unit) (0) [] [] ⟨[2,3,4,5],[10],fun kz=>[(9,(vI kz))],fun kz=>[]⟩ ⟨[2,3,4,5],[10],fun _=>[],fun _=>[]⟩
  (fun kz=> .r<| .it (.a2 (Rt kz p) (ZO p s_ b kz)<| .rg {} [0,1]<| .it (.r<| .e (.done (.ret true)))
  (.r<| .e (.next (k18 kz))))
  (.e (.done (.brk ()))))
  (fun _=> .r<| .lp (σ:=Int) (β:=Unit) (0) [] [] ⟨[2,3,4,5],[10],fun i=>[(10,(vI i))],fun i=>[]⟩ ⟨[],[],fun _=>[],fun _=>[]⟩
  (fun i=> .r<| .it (.jn (β:=Unit) 2 ⟨[2,3,4,5,10],[10],fun _=>[],fun _=>[]⟩ (.a1 (UM p i)<| .rg {fr:=[(5,19)],fz:=[19]} []<| .r<| .r<| .it (.r<| .r<| .it (.r<| .cg 5 [((decide (0≤(Cw p i))),true)] (vT u0 (Cw p i)) fun r_=> .a2 (Zf p s_ i r_) (Zi p s_ i r_)<| .rg {} [2,0,1]<| .it (.r<| .e (.ret (.done (.ret true))))
  (.e (.brk ())))
  (.cg 5 [((decide (0≤(F4 p i))),true)] (vT u0 (F4 p i)) fun u1=> .a2 ((gB [((decide (((at' p.links i.toNat).kind)=1)),false),((bif (decide (0≤(F4 p i)))then(!u1)else false),true)]=true→(0:Int)≤i∧i<(s_.closed.length:Int))) ((gB [(X3 p s_ i),((bif (decide (0≤(F4 p i)))then(!u1)else false),true)]=true→(0:Int)≤i∧i<(s_.locked.length:Int)))<| .rg {} [2,0,1]<| .it (.r<| .e (.ret (.done (.ret true))))
  (.e (.brk ()))))
  (.r<| .it (.r<| .cg 5 [((decide (0≤(Cw p i))),true)] (vT u0 (Cw p i)) fun u2=> .a2 (Zf p s_ i u2) (Zi p s_ i u2)<| .rg {} [2,0,1]<| .it (.r<| .e (.ret (.done (.ret true))))
  (.e (.brk ())))
  (.rg {sk:=[3,4,5,6,9,10,11,12,13,14,15,16,17,19,20,21,22,23,24,25]} []<| .f<| .e (.brk ()))))
  (fun _=> .r<| .e (.next (k18 i))))
  (.e (.done (.brk ()))))
  (fun _=> .r<| .e false))))
section
variable (p:aj) (t:Task) (i:Int)
abbrev K3:=((at' p.racks ((at' t.fed i.toNat).toNat)).feeds)
end
theorem xq (p:aj) (s_:State) (t:Task):cO Tryz.prog 24 (X5 p s_ t) [] (fun r=>(vI r)) (fun _=>[]) (dz p s_ t):=
  dG tT mX Tryz.func24 (
  .rg {fr:=[(0,7),(1,8),(2,9)],fz:=[8]} []<| .cl 2 (iL p s_) fun r_=> .r<| .r<| .it (.r<| .e r_)
  (.cl 2 (DJ p t) fun u1=> .r<| .it (.r<| .e 1)
  (.cl 2 (yM p s_) fun u0=> .r<| .r<| .lp (σ:=Int) (β:=Unit) (0) [] [] ⟨[3,4,5,8],[7,9],fun b=>[(10,(vI b))],fun b=>[]⟩ ⟨[3,4,5,8],[7,9],fun _=>[],fun _=>[]⟩
  (fun b=> .r<| .it (.a2 ((0:Int)≤b∧b<(u0.1.length:Int)) ((gB [((at' u0.1 b.toNat),true)]=true→(0:Int)≤b∧b<(s_.earthed.length:Int)))<| .rg {} [0,1]<| .it (.r<| .e (.done (.ret 40)))
  (.r<| .e (.next (k18 b))))
  (.e (.done (.brk ()))))
  (fun _=> .cl 2 (BO p s_) fun u2=> .r<| .r<| .it (.r<| .e 41)
  (.r<| .lp (σ:=Int) (β:=Unit) (0) [] [] ⟨[3,4,5,8],[7,9],fun i=>[(13,(vI i))],fun i=>[]⟩ ⟨[3,4,5],[7,9],fun _=>[],fun _=>[]⟩
  (fun i=> .r<| .it (.a2 ((0:Int)≤i∧i<(t.fed.length:Int)) ((0:Int)≤(at' t.fed i.toNat)∧(at' t.fed i.toNat)<(p.racks.length:Int))<| .rg {fr:=[(10,13)],fz:=[13]} [0,1]<| .a2 ((0:Int)≤(K3 p t i).e0∧(K3 p t i).e0<(u0.1.length:Int)) ((gB [((decide (0≤((K3 p t i).e1))),true),((!(at' u0.1 (((K3 p t i).e0).toNat))),true)]=true→(0:Int)≤(if(K3 p t i).e1<0 then 0 else(K3 p t i).e1)∧(if(K3 p t i).e1<0 then 0 else(K3 p t i).e1)<(u0.1.length:Int)))<| .rg {} [.pf ⟨(0:Int)≤0∧(0:Int)<(2:Nat),(by decide)⟩,0, .pf ⟨(0:Int)≤1∧(1:Int)<(2:Nat),(by decide)⟩, .pf ⟨(0:Int)≤1∧(1:Int)<(2:Nat),(by decide)⟩,1]<| .it (.r<| .e (.done (.ret 42)))
  (.r<| .e (.next (k18 i))))
  (.e (.done (.brk ()))))
  (fun _=> .rg {fz:=[7,9]} []<| .lp (σ:=Int) (β:=Unit) (0) [] [] ⟨[3,4,5],[],fun i1=>[(15,(vI i1))],fun i1=>[]⟩ ⟨[],[],fun _=>[],fun _=>[]⟩
  (fun i1=> .r<| .it (.cl 9 (Dp p s_ t.crew (at' t.crew i1.toNat)) fun u3=> .a1 ((0:Int)≤i1∧i1<(t.crew.length:Int))<| .rg {} [0,1]<| .it (.r<| .e (.done (.ret 45)))
  (.r<| .e (.next (k18 i1))))
  (.e (.done (.brk ()))))
  (fun _=> .r<| .e 0)))))))
section
variable (x:af) (s_:State)
abbrev Vd:=((0:Int)≤x.index∧x.index<(s_.closed.length:Int))
abbrev QH:=((0:Int)≤x.index∧x.index<(s_.earthed.length:Int))
abbrev Iw:=((0:Int)≤x.index∧x.index<(s_.locked.length:Int))
abbrev y9:=((0:Int)≤x.index∧x.index<(s_.on_.length:Int))
end
theorem DZ (s_:State) (x:af):cO Tryz.prog 72 (UI s_ x) [] (fun r=>(vB r)) (fun _=>[]) (nR s_ x):=
  dG tT mX Tryz.func72 (
  .rg {fr:=[(0,2),(1,3)],fz:=[2,3]} []<| .r<| .r<| .r<| .it (.a1 (Vd x s_)<| .r<| .e (!(at' s_.closed x.index.toNat)))
  (.r<| .it (.a1 (Vd x s_)<| .r<| .e (at' s_.closed x.index.toNat))
  (.r<| .it (.a1 (QH x s_)<| .r<| .e (at' s_.earthed x.index.toNat))
  (.r<| .it (.a1 (QH x s_)<| .r<| .e (!(at' s_.earthed x.index.toNat)))
  (.r<| .it (.a1 (Iw x s_)<| .r<| .e (at' s_.locked x.index.toNat))
  (.r<| .it (.a1 (Iw x s_)<| .r<| .e (!(at' s_.locked x.index.toNat)))
  (.r<| .it (.a1 (y9 x s_)<| .r<| .e (at' s_.on_ x.index.toNat))
  (.a1 (y9 x s_)<| .r<| .e (!(at' s_.on_ x.index.toNat))))))))))
theorem dF (l:(List Bool)):cO Tryz.prog 84 [(sD (aR none 1 ah l))] [] (fun r=>(vO 0 false r.length)) (fun r=>[(0,some (bg 4 1 ah r))]) (bU l):=
  dG tT mX Tryz.func84 (
  .r<| .r<| .a2 (l.length*1≤140737488355328) (l.length≤4611686018427387904)<| .rg {an:=[(2, .arr l.length (ay ah l))],fr:=[(2,1)]} [0,1, .e (l.length), .pf ⟨aK l.length 1 (ay ah l) (ay ah l),j6 _ _ _⟩]<| .en l [] [(1,0)])
theorem lC (x:State):cO Tryz.prog 39 (Uf x) [] (fun r=>(.v (.agg [(.own 0 false r.closed.length),(.own 1 false r.locked.length),(.own 2 false r.badLink.length),(.own 3 false r.on_.length),(.own 4 false r.badSource.length),(.own 5 false r.earthed.length),(.own 6 false r.badBus.length)]))) (fun r=>[(0,some (bg 4 1 ah r.closed)),(1,some (bg 4 1 ah r.locked)),(2,some (bg 4 1 ah r.badLink)),(3,some (bg 4 1 ah r.on_)),(4,some (bg 4 1 ah r.badSource)),(5,some (bg 4 1 ah r.earthed)),(6,some (bg 4 1 ah r.badBus)),(7,none)]) (fG x):=
  dG tT mX Tryz.func39 (
  .rg {fr:=[(0,9),(1,10)],fz:=[9]} []<| .cl 2 (dH [(0,11)] (dF x.closed)) fun r_=> .cl 5 (dH [(0,12)] (dF x.locked)) fun u0=> .cl 8 (dH [(0,13)] (dF x.badLink)) fun u1=> .cl 11 (dH [(0,14)] (dF x.on_)) fun u2=> .cl 14 (dH [(0,15)] (dF x.badSource)) fun u3=> .cl 17 (dH [(0,16)] (dF x.earthed)) fun u4=> .cl 20 (dH [(0,17)] (dF x.badBus)) fun u5=> .r<| .en (qg r_ u0 u1 u2 u3 u4 u5) [] [(11,0),(12,1),(13,2),(14,3),(15,4),(16,5),(17,6),(10,7)])
section
variable (r_:State) (i:Int)
abbrev ZN:=(⟨(r_.closed.set i.toNat false),r_.locked,r_.badLink,r_.on_,r_.badSource,r_.earthed,r_.badBus⟩:State)
end
theorem Fx (p:aj) (s_:State) (i:Int):cO Tryz.prog 73 (SA p s_ i) [] (fun r=>(vB r)) (fun _=>[]) (vM p s_ i):=
  dG tT mX Tryz.func73 (
  .rg {fr:=[(0,11),(1,12)],fz:=[11,12]} []<| .cl 1 (dH [(0,13),(1,14),(2,15),(3,16),(4,17),(5,18),(6,19),(7,20)] (lC s_)) fun r_=> .rg {fr:=[(2,21)]} []<| .a1 (XJ r_ i)<| .rg {an:=[(4, .arr 0 (ay ah (r_.closed.set i.toNat false)))],fz:=[13,14,15,16,17,18,19]} [0, .t 0 i r_.closed.length, .pf ⟨aK r_.closed.length 1 (lJ (ay ah r_.closed) i.toNat 0 [(.bool false)]) (ay ah (r_.closed.set i.toNat false)),aJ _ _ _ _ _ _ _ _ rfl (fun j hj=>(match j,hj with|0,_=>rfl))⟩]<| .im (.uh 21 (some (.cells 29 [(.d (.sl none 1 r_.closed.length (ay ah (r_.closed.set i.toNat false)))),(.d (XD r_)),(.d (XI r_)),(.d (Wv r_)),(.d (Xa r_)),(.d (XB r_)),(.d (Xd r_))])) (some (.cells 29 [(.d (aR none 1 ah (r_.closed.set i.toNat false))),(.d (XD r_)),(.d (XI r_)),(.d (Wv r_)),(.d (Xa r_)),(.d (XB r_)),(.d (Xd r_))])) (qA ⟨kQ.d (kS.slN (by simp only [List.length_set,List.length_drop,Dg]) (.inr rfl) (fun _ _ _ _=> .refl _)),kQ.refl _,kQ.refl _,kQ.refl _,kQ.refl _,kQ.refl _,kQ.refl _,trivial⟩))<| .fz [21]<| .a1 (UM p i)<| .rg {} [0,0]<| .a2 ((0:Int)≤(at' p.links i.toNat).a∧(at' p.links i.toNat).a<(r_.badBus.length:Int)) ((gB [((at' r_.badBus (Lm i p)),false)]=true→(0:Int)≤(at' p.links i.toNat).b∧(at' p.links i.toNat).b<(r_.badBus.length:Int)))<| .rg {} [0,1]<| .it (.r<| .e false)
  (.cl 2 (yM p (ZN r_ i)) fun u0=> .r<| .cl 3 (qE p (ZN r_ i) (Cw p i)) fun u1=> .a3 ((0:Int)≤(at' p.links i.toNat).b∧(at' p.links i.toNat).b<(u1.length:Int)) ((gB [((!(at' u1 (NW i p))),true)]=true→(0:Int)≤(at' p.links i.toNat).a∧(at' p.links i.toNat).a<(u0.1.length:Int))) ((gB [((at' u0.1 (Lm i p)),false),((!(at' u1 (NW i p))),true)]=true→(0:Int)≤(at' p.links i.toNat).b∧(at' p.links i.toNat).b<(u0.1.length:Int)))<| .rg {} [3,0,1,2]<| .e (bif (!(at' u1 (NW i p)))then(bif (at' u0.1 (Lm i p))then true else(at' u0.1 (NW i p)))else false)))
section
variable (r_:State) (x:af)
abbrev Vo:=(r_.closed.set x.index.toNat (decide (x.deed=2)))
abbrev Vl:=(ay ah (Vo r_ x))
abbrev Zd:=(⟨(Vo r_ x),r_.locked,r_.badLink,r_.on_,r_.badSource,r_.earthed,r_.badBus⟩:State)
abbrev PG:=(r_.earthed.set x.index.toNat (decide (x.deed=3)))
abbrev K5:=(ay ah (PG r_ x))
abbrev Vj:=(lJ (ay ah r_.earthed) x.index.toNat 0 [(.bool (decide (x.deed=3)))])
abbrev U3:=(⟨r_.closed,r_.locked,r_.badLink,r_.on_,r_.badSource,(PG r_ x),r_.badBus⟩:State)
abbrev IK:=(r_.locked.set x.index.toNat (decide (x.deed=5)))
abbrev AU:=(ay ah (IK r_ x))
abbrev La:=(lJ (ay ah r_.locked) x.index.toNat 0 [(.bool (decide (x.deed=5)))])
abbrev LG:=(⟨r_.closed,(IK r_ x),r_.badLink,r_.on_,r_.badSource,r_.earthed,r_.badBus⟩:State)
abbrev yS:=(r_.on_.set x.index.toNat (decide (x.deed=7)))
abbrev nX:=(ay ah (yS r_ x))
abbrev Av:=(lJ (ay ah r_.on_) x.index.toNat 0 [(.bool (decide (x.deed=7)))])
abbrev A7:=(⟨r_.closed,r_.locked,r_.badLink,(yS r_ x),r_.badSource,r_.earthed,r_.badBus⟩:State)
end
theorem AL (s_:State) (x:af):cO Tryz.prog 74 (UI s_ x) [] (fun r=>(.v (.agg [(.own 0 false r.closed.length),(.own 1 false r.locked.length),(.own 2 false r.badLink.length),(.own 3 false r.on_.length),(.own 4 false r.badSource.length),(.own 5 false r.earthed.length),(.own 6 false r.badBus.length)]))) (fun r=>[(0,some (bg 4 1 ah r.closed)),(1,some (bg 4 1 ah r.locked)),(2,some (bg 4 1 ah r.badLink)),(3,some (bg 4 1 ah r.on_)),(4,some (bg 4 1 ah r.badSource)),(5,some (bg 4 1 ah r.earthed)),(6,some (bg 4 1 ah r.badBus)),(7,none)]) (qV s_ x):=
  dG tT mX Tryz.func74 (
  .rg {fr:=[(0,12),(1,13),(2,14)],fz:=[12]} []<| .cl 1 (dH [(0,15),(1,16),(2,17),(3,18),(4,19),(5,20),(6,21),(7,22)] (lC s_)) fun r_=> .rg {fr:=[(2,23)]} []<| .rg {fz:=[13]} []<| .r<| .r<| .it (.it (.a1 (Vd x r_)<| .rg {an:=[(7, .arr 0 (Vl r_ x))]} [0, .t 0 x.index r_.closed.length, .pf ⟨aK r_.closed.length 1 (lJ (ay ah r_.closed) x.index.toNat 0 [(.bool (decide (x.deed=2)))]) (Vl r_ x),aJ _ _ _ _ _ _ _ _ rfl (fun j hj=>(match j,hj with|0,_=>rfl))⟩]<| .im (.ll 15 r_.closed (Vo r_ x))<| .r<| .en (Zd r_ x) [] [(15,0),(16,1),(17,2),(18,3),(19,4),(20,5),(21,6),(14,7)])
  (.r<| .it (.it (.a1 (QH x r_)<| .rg {an:=[(7, .arr 0 (K5 r_ x))]} [0, .t 0 x.index r_.earthed.length, .pf ⟨aK r_.earthed.length 1 (Vj r_ x) (K5 r_ x),aJ _ _ _ _ _ _ _ _ rfl (fun j hj=>(match j,hj with|0,_=>rfl))⟩]<| .im (.ll 20 r_.earthed (PG r_ x))<| .r<| .en (U3 r_ x) [] [(15,0),(16,1),(17,2),(18,3),(19,4),(20,5),(21,6),(14,7)])
  (.r<| .it (.it (.a1 (Iw x r_)<| .rg {an:=[(7, .arr 0 (AU r_ x))]} [0, .t 0 x.index r_.locked.length, .pf ⟨aK r_.locked.length 1 (La r_ x) (AU r_ x),aJ _ _ _ _ _ _ _ _ rfl (fun j hj=>(match j,hj with|0,_=>rfl))⟩]<| .im (.ll 16 r_.locked (IK r_ x))<| .r<| .en (LG r_ x) [] [(15,0),(16,1),(17,2),(18,3),(19,4),(20,5),(21,6),(14,7)])
  (.r<| .it (.it (.a1 (y9 x r_)<| .rg {an:=[(7, .arr 0 (nX r_ x))]} [0, .t 0 x.index r_.on_.length, .pf ⟨aK r_.on_.length 1 (Av r_ x) (nX r_ x),aJ _ _ _ _ _ _ _ _ rfl (fun j hj=>(match j,hj with|0,_=>rfl))⟩]<| .im (.ll 18 r_.on_ (yS r_ x))<| .r<| .en (A7 r_ x) [] [(15,0),(16,1),(17,2),(18,3),(19,4),(20,5),(21,6),(14,7)])
  (.r<| .en r_ [] [(15,0),(16,1),(17,2),(18,3),(19,4),(20,5),(21,6),(14,7)]))
  (.r<| .it (.a1 (y9 x r_)<| .rg {an:=[(7, .arr 0 (nX r_ x))]} [0, .t 0 x.index r_.on_.length, .pf ⟨aK r_.on_.length 1 (Av r_ x) (nX r_ x),aJ _ _ _ _ _ _ _ _ rfl (fun j hj=>(match j,hj with|0,_=>rfl))⟩]<| .im (.ll 18 r_.on_ (yS r_ x))<| .r<| .en (A7 r_ x) [] [(15,0),(16,1),(17,2),(18,3),(19,4),(20,5),(21,6),(14,7)])
  (.r<| .en r_ [] [(15,0),(16,1),(17,2),(18,3),(19,4),(20,5),(21,6),(14,7)]))))
  (.r<| .it (.a1 (Iw x r_)<| .rg {an:=[(7, .arr 0 (AU r_ x))]} [0, .t 0 x.index r_.locked.length, .pf ⟨aK r_.locked.length 1 (La r_ x) (AU r_ x),aJ _ _ _ _ _ _ _ _ rfl (fun j hj=>(match j,hj with|0,_=>rfl))⟩]<| .im (.ll 16 r_.locked (IK r_ x))<| .r<| .en (LG r_ x) [] [(15,0),(16,1),(17,2),(18,3),(19,4),(20,5),(21,6),(14,7)])
  (.r<| .it (.it (.a1 (y9 x r_)<| .rg {an:=[(7, .arr 0 (nX r_ x))]} [0, .t 0 x.index r_.on_.length, .pf ⟨aK r_.on_.length 1 (Av r_ x) (nX r_ x),aJ _ _ _ _ _ _ _ _ rfl (fun j hj=>(match j,hj with|0,_=>rfl))⟩]<| .im (.ll 18 r_.on_ (yS r_ x))<| .r<| .en (A7 r_ x) [] [(15,0),(16,1),(17,2),(18,3),(19,4),(20,5),(21,6),(14,7)])
  (.r<| .en r_ [] [(15,0),(16,1),(17,2),(18,3),(19,4),(20,5),(21,6),(14,7)]))
  (.r<| .it (.a1 (y9 x r_)<| .rg {an:=[(7, .arr 0 (nX r_ x))]} [0, .t 0 x.index r_.on_.length, .pf ⟨aK r_.on_.length 1 (Av r_ x) (nX r_ x),aJ _ _ _ _ _ _ _ _ rfl (fun j hj=>(match j,hj with|0,_=>rfl))⟩]<| .im (.ll 18 r_.on_ (yS r_ x))<| .r<| .en (A7 r_ x) [] [(15,0),(16,1),(17,2),(18,3),(19,4),(20,5),(21,6),(14,7)])
  (.r<| .en r_ [] [(15,0),(16,1),(17,2),(18,3),(19,4),(20,5),(21,6),(14,7)]))))))
  (.r<| .it (.a1 (QH x r_)<| .rg {an:=[(7, .arr 0 (K5 r_ x))]} [0, .t 0 x.index r_.earthed.length, .pf ⟨aK r_.earthed.length 1 (Vj r_ x) (K5 r_ x),aJ _ _ _ _ _ _ _ _ rfl (fun j hj=>(match j,hj with|0,_=>rfl))⟩]<| .im (.ll 20 r_.earthed (PG r_ x))<| .r<| .en (U3 r_ x) [] [(15,0),(16,1),(17,2),(18,3),(19,4),(20,5),(21,6),(14,7)])
  (.r<| .it (.it (.a1 (Iw x r_)<| .rg {an:=[(7, .arr 0 (AU r_ x))]} [0, .t 0 x.index r_.locked.length, .pf ⟨aK r_.locked.length 1 (La r_ x) (AU r_ x),aJ _ _ _ _ _ _ _ _ rfl (fun j hj=>(match j,hj with|0,_=>rfl))⟩]<| .im (.ll 16 r_.locked (IK r_ x))<| .r<| .en (LG r_ x) [] [(15,0),(16,1),(17,2),(18,3),(19,4),(20,5),(21,6),(14,7)])
  (.r<| .it (.it (.a1 (y9 x r_)<| .rg {an:=[(7, .arr 0 (nX r_ x))]} [0, .t 0 x.index r_.on_.length, .pf ⟨aK r_.on_.length 1 (Av r_ x) (nX r_ x),aJ _ _ _ _ _ _ _ _ rfl (fun j hj=>(match j,hj with|0,_=>rfl))⟩]<| .im (.ll 18 r_.on_ (yS r_ x))<| .r<| .en (A7 r_ x) [] [(15,0),(16,1),(17,2),(18,3),(19,4),(20,5),(21,6),(14,7)])
  (.r<| .en r_ [] [(15,0),(16,1),(17,2),(18,3),(19,4),(20,5),(21,6),(14,7)]))
  (.r<| .it (.a1 (y9 x r_)<| .rg {an:=[(7, .arr 0 (nX r_ x))]} [0, .t 0 x.index r_.on_.length, .pf ⟨aK r_.on_.length 1 (Av r_ x) (nX r_ x),aJ _ _ _ _ _ _ _ _ rfl (fun j hj=>(match j,hj with|0,_=>rfl))⟩]<| .im (.ll 18 r_.on_ (yS r_ x))<| .r<| .en (A7 r_ x) [] [(15,0),(16,1),(17,2),(18,3),(19,4),(20,5),(21,6),(14,7)])
  (.r<| .en r_ [] [(15,0),(16,1),(17,2),(18,3),(19,4),(20,5),(21,6),(14,7)]))))
  (.r<| .it (.a1 (Iw x r_)<| .rg {an:=[(7, .arr 0 (AU r_ x))]} [0, .t 0 x.index r_.locked.length, .pf ⟨aK r_.locked.length 1 (La r_ x) (AU r_ x),aJ _ _ _ _ _ _ _ _ rfl (fun j hj=>(match j,hj with|0,_=>rfl))⟩]<| .im (.ll 16 r_.locked (IK r_ x))<| .r<| .en (LG r_ x) [] [(15,0),(16,1),(17,2),(18,3),(19,4),(20,5),(21,6),(14,7)])
  (.r<| .it (.it (.a1 (y9 x r_)<| .rg {an:=[(7, .arr 0 (nX r_ x))]} [0, .t 0 x.index r_.on_.length, .pf ⟨aK r_.on_.length 1 (Av r_ x) (nX r_ x),aJ _ _ _ _ _ _ _ _ rfl (fun j hj=>(match j,hj with|0,_=>rfl))⟩]<| .im (.ll 18 r_.on_ (yS r_ x))<| .r<| .en (A7 r_ x) [] [(15,0),(16,1),(17,2),(18,3),(19,4),(20,5),(21,6),(14,7)])
  (.r<| .en r_ [] [(15,0),(16,1),(17,2),(18,3),(19,4),(20,5),(21,6),(14,7)]))
  (.r<| .it (.a1 (y9 x r_)<| .rg {an:=[(7, .arr 0 (nX r_ x))]} [0, .t 0 x.index r_.on_.length, .pf ⟨aK r_.on_.length 1 (Av r_ x) (nX r_ x),aJ _ _ _ _ _ _ _ _ rfl (fun j hj=>(match j,hj with|0,_=>rfl))⟩]<| .im (.ll 18 r_.on_ (yS r_ x))<| .r<| .en (A7 r_ x) [] [(15,0),(16,1),(17,2),(18,3),(19,4),(20,5),(21,6),(14,7)])
  (.r<| .en r_ [] [(15,0),(16,1),(17,2),(18,3),(19,4),(20,5),(21,6),(14,7)]))))))))
  (.r<| .it (.a1 (Vd x r_)<| .rg {an:=[(7, .arr 0 (Vl r_ x))]} [0, .t 0 x.index r_.closed.length, .pf ⟨aK r_.closed.length 1 (lJ (ay ah r_.closed) x.index.toNat 0 [(.bool (decide (x.deed=2)))]) (Vl r_ x),aJ _ _ _ _ _ _ _ _ rfl (fun j hj=>(match j,hj with|0,_=>rfl))⟩]<| .im (.ll 15 r_.closed (Vo r_ x))<| .r<| .en (Zd r_ x) [] [(15,0),(16,1),(17,2),(18,3),(19,4),(20,5),(21,6),(14,7)])
  (.r<| .it (.it (.a1 (QH x r_)<| .rg {an:=[(7, .arr 0 (K5 r_ x))]} [0, .t 0 x.index r_.earthed.length, .pf ⟨aK r_.earthed.length 1 (Vj r_ x) (K5 r_ x),aJ _ _ _ _ _ _ _ _ rfl (fun j hj=>(match j,hj with|0,_=>rfl))⟩]<| .im (.ll 20 r_.earthed (PG r_ x))<| .r<| .en (U3 r_ x) [] [(15,0),(16,1),(17,2),(18,3),(19,4),(20,5),(21,6),(14,7)])
  (.r<| .it (.it (.a1 (Iw x r_)<| .rg {an:=[(7, .arr 0 (AU r_ x))]} [0, .t 0 x.index r_.locked.length, .pf ⟨aK r_.locked.length 1 (La r_ x) (AU r_ x),aJ _ _ _ _ _ _ _ _ rfl (fun j hj=>(match j,hj with|0,_=>rfl))⟩]<| .im (.ll 16 r_.locked (IK r_ x))<| .r<| .en (LG r_ x) [] [(15,0),(16,1),(17,2),(18,3),(19,4),(20,5),(21,6),(14,7)])
  (.r<| .it (.it (.a1 (y9 x r_)<| .rg {an:=[(7, .arr 0 (nX r_ x))]} [0, .t 0 x.index r_.on_.length, .pf ⟨aK r_.on_.length 1 (Av r_ x) (nX r_ x),aJ _ _ _ _ _ _ _ _ rfl (fun j hj=>(match j,hj with|0,_=>rfl))⟩]<| .im (.ll 18 r_.on_ (yS r_ x))<| .r<| .en (A7 r_ x) [] [(15,0),(16,1),(17,2),(18,3),(19,4),(20,5),(21,6),(14,7)])
  (.r<| .en r_ [] [(15,0),(16,1),(17,2),(18,3),(19,4),(20,5),(21,6),(14,7)]))
  (.r<| .it (.a1 (y9 x r_)<| .rg {an:=[(7, .arr 0 (nX r_ x))]} [0, .t 0 x.index r_.on_.length, .pf ⟨aK r_.on_.length 1 (Av r_ x) (nX r_ x),aJ _ _ _ _ _ _ _ _ rfl (fun j hj=>(match j,hj with|0,_=>rfl))⟩]<| .im (.ll 18 r_.on_ (yS r_ x))<| .r<| .en (A7 r_ x) [] [(15,0),(16,1),(17,2),(18,3),(19,4),(20,5),(21,6),(14,7)])
  (.r<| .en r_ [] [(15,0),(16,1),(17,2),(18,3),(19,4),(20,5),(21,6),(14,7)]))))
  (.r<| .it (.a1 (Iw x r_)<| .rg {an:=[(7, .arr 0 (AU r_ x))]} [0, .t 0 x.index r_.locked.length, .pf ⟨aK r_.locked.length 1 (La r_ x) (AU r_ x),aJ _ _ _ _ _ _ _ _ rfl (fun j hj=>(match j,hj with|0,_=>rfl))⟩]<| .im (.ll 16 r_.locked (IK r_ x))<| .r<| .en (LG r_ x) [] [(15,0),(16,1),(17,2),(18,3),(19,4),(20,5),(21,6),(14,7)])
  (.r<| .it (.it (.a1 (y9 x r_)<| .rg {an:=[(7, .arr 0 (nX r_ x))]} [0, .t 0 x.index r_.on_.length, .pf ⟨aK r_.on_.length 1 (Av r_ x) (nX r_ x),aJ _ _ _ _ _ _ _ _ rfl (fun j hj=>(match j,hj with|0,_=>rfl))⟩]<| .im (.ll 18 r_.on_ (yS r_ x))<| .r<| .en (A7 r_ x) [] [(15,0),(16,1),(17,2),(18,3),(19,4),(20,5),(21,6),(14,7)])
  (.r<| .en r_ [] [(15,0),(16,1),(17,2),(18,3),(19,4),(20,5),(21,6),(14,7)]))
  (.r<| .it (.a1 (y9 x r_)<| .rg {an:=[(7, .arr 0 (nX r_ x))]} [0, .t 0 x.index r_.on_.length, .pf ⟨aK r_.on_.length 1 (Av r_ x) (nX r_ x),aJ _ _ _ _ _ _ _ _ rfl (fun j hj=>(match j,hj with|0,_=>rfl))⟩]<| .im (.ll 18 r_.on_ (yS r_ x))<| .r<| .en (A7 r_ x) [] [(15,0),(16,1),(17,2),(18,3),(19,4),(20,5),(21,6),(14,7)])
  (.r<| .en r_ [] [(15,0),(16,1),(17,2),(18,3),(19,4),(20,5),(21,6),(14,7)]))))))
  (.r<| .it (.a1 (QH x r_)<| .rg {an:=[(7, .arr 0 (K5 r_ x))]} [0, .t 0 x.index r_.earthed.length, .pf ⟨aK r_.earthed.length 1 (Vj r_ x) (K5 r_ x),aJ _ _ _ _ _ _ _ _ rfl (fun j hj=>(match j,hj with|0,_=>rfl))⟩]<| .im (.ll 20 r_.earthed (PG r_ x))<| .r<| .en (U3 r_ x) [] [(15,0),(16,1),(17,2),(18,3),(19,4),(20,5),(21,6),(14,7)])
  (.r<| .it (.it (.a1 (Iw x r_)<| .rg {an:=[(7, .arr 0 (AU r_ x))]} [0, .t 0 x.index r_.locked.length, .pf ⟨aK r_.locked.length 1 (La r_ x) (AU r_ x),aJ _ _ _ _ _ _ _ _ rfl (fun j hj=>(match j,hj with|0,_=>rfl))⟩]<| .im (.ll 16 r_.locked (IK r_ x))<| .r<| .en (LG r_ x) [] [(15,0),(16,1),(17,2),(18,3),(19,4),(20,5),(21,6),(14,7)])
  (.r<| .it (.it (.a1 (y9 x r_)<| .rg {an:=[(7, .arr 0 (nX r_ x))]} [0, .t 0 x.index r_.on_.length, .pf ⟨aK r_.on_.length 1 (Av r_ x) (nX r_ x),aJ _ _ _ _ _ _ _ _ rfl (fun j hj=>(match j,hj with|0,_=>rfl))⟩]<| .im (.ll 18 r_.on_ (yS r_ x))<| .r<| .en (A7 r_ x) [] [(15,0),(16,1),(17,2),(18,3),(19,4),(20,5),(21,6),(14,7)])
  (.r<| .en r_ [] [(15,0),(16,1),(17,2),(18,3),(19,4),(20,5),(21,6),(14,7)]))
  (.r<| .it (.a1 (y9 x r_)<| .rg {an:=[(7, .arr 0 (nX r_ x))]} [0, .t 0 x.index r_.on_.length, .pf ⟨aK r_.on_.length 1 (Av r_ x) (nX r_ x),aJ _ _ _ _ _ _ _ _ rfl (fun j hj=>(match j,hj with|0,_=>rfl))⟩]<| .im (.ll 18 r_.on_ (yS r_ x))<| .r<| .en (A7 r_ x) [] [(15,0),(16,1),(17,2),(18,3),(19,4),(20,5),(21,6),(14,7)])
  (.r<| .en r_ [] [(15,0),(16,1),(17,2),(18,3),(19,4),(20,5),(21,6),(14,7)]))))
  (.r<| .it (.a1 (Iw x r_)<| .rg {an:=[(7, .arr 0 (AU r_ x))]} [0, .t 0 x.index r_.locked.length, .pf ⟨aK r_.locked.length 1 (La r_ x) (AU r_ x),aJ _ _ _ _ _ _ _ _ rfl (fun j hj=>(match j,hj with|0,_=>rfl))⟩]<| .im (.ll 16 r_.locked (IK r_ x))<| .r<| .en (LG r_ x) [] [(15,0),(16,1),(17,2),(18,3),(19,4),(20,5),(21,6),(14,7)])
  (.r<| .it (.it (.a1 (y9 x r_)<| .rg {an:=[(7, .arr 0 (nX r_ x))]} [0, .t 0 x.index r_.on_.length, .pf ⟨aK r_.on_.length 1 (Av r_ x) (nX r_ x),aJ _ _ _ _ _ _ _ _ rfl (fun j hj=>(match j,hj with|0,_=>rfl))⟩]<| .im (.ll 18 r_.on_ (yS r_ x))<| .r<| .en (A7 r_ x) [] [(15,0),(16,1),(17,2),(18,3),(19,4),(20,5),(21,6),(14,7)])
  (.r<| .en r_ [] [(15,0),(16,1),(17,2),(18,3),(19,4),(20,5),(21,6),(14,7)]))
  (.r<| .it (.a1 (y9 x r_)<| .rg {an:=[(7, .arr 0 (nX r_ x))]} [0, .t 0 x.index r_.on_.length, .pf ⟨aK r_.on_.length 1 (Av r_ x) (nX r_ x),aJ _ _ _ _ _ _ _ _ rfl (fun j hj=>(match j,hj with|0,_=>rfl))⟩]<| .im (.ll 18 r_.on_ (yS r_ x))<| .r<| .en (A7 r_ x) [] [(15,0),(16,1),(17,2),(18,3),(19,4),(20,5),(21,6),(14,7)])
  (.r<| .en r_ [] [(15,0),(16,1),(17,2),(18,3),(19,4),(20,5),(21,6),(14,7)])))))))))
section
variable (a:State) (b:State) (r_:Bool) (u0:Bool) (u1:Bool) (u2:Bool) (u3:Bool) (u4:Bool)
abbrev aci:List SV:=[(.agg (AB a)),(.agg (AB b))]
abbrev ZJ:=(bif (k14 r_ u0 u1 u2 u3)then u4 else false)
end
theorem oP (a:State) (b:State):cO Tryz.prog 27 (aci a b) [] (fun r=>(vB r)) (fun _=>[]) (eT a b):=
  dG tT mX Tryz.func27 (
  .rg {fr:=[(0,2),(1,3)],fz:=[2,3]} []<| .cl 4 (dL a.closed b.closed) fun r_=> .cg 10 [(r_,true)] (dL a.locked b.locked) fun u0=> .cg 17 [(k11 r_ u0)] (dL a.badLink b.badLink) fun u1=> .cg 24 [(k12 r_ u0 u1)] (dL a.on_ b.on_) fun u2=> .cg 31 [((k13 r_ u0 u1 u2),true)] (dL a.badSource b.badSource) fun u3=> .cg 38 [((k14 r_ u0 u1 u2 u3),true)] (dL a.earthed b.earthed) fun u4=> .cg 45 [((ZJ r_ u0 u1 u2 u3 u4),true)] (dL a.badBus b.badBus) fun u5=> .r<| .e (bif (ZJ r_ u0 u1 u2 u3 u4)then u5 else false))
section
variable (x:af)
abbrev Wz:=((Va x),true)
end
theorem wP (p:aj) (s_:State) (x:af):cO Tryz.prog 26 (Ke p s_ x) [] (fun r=>(.iR [(.agg [(.own 0 false r.1.closed.length),(.own 1 false r.1.locked.length),(.own 2 false r.1.badLink.length),(.own 3 false r.1.on_.length),(.own 4 false r.1.badSource.length),(.own 5 false r.1.earthed.length),(.own 6 false r.1.badBus.length)]),(sI r.2)])) (fun r=>[(0,some (bg 4 1 ah r.1.closed)),(1,some (bg 4 1 ah r.1.locked)),(2,some (bg 4 1 ah r.1.badLink)),(3,some (bg 4 1 ah r.1.on_)),(4,some (bg 4 1 ah r.1.badSource)),(5,some (bg 4 1 ah r.1.earthed)),(6,some (bg 4 1 ah r.1.badBus)),(7,none)]) (iI p s_ x):=
  dG tT mX Tryz.func26 (
  .rg {fr:=[(0,12),(1,13),(2,14),(3,15)],fz:=[12,13,14]} []<| .cl 2 (iL p s_) fun r_=> .r<| .r<| .it (.r<| .im (.iV 15 0 16 4 1 (ay ah ([]:List Bool)))<| .im (.iV 15 1 17 4 1 (ay ah ([]:List Bool)))<| .im (.iV 15 2 18 4 1 (ay ah ([]:List Bool)))<| .im (.iV 15 3 19 4 1 (ay ah ([]:List Bool)))<| .im (.iV 15 4 20 4 1 (ay ah ([]:List Bool)))<| .im (.iV 15 5 21 4 1 (ay ah ([]:List Bool)))<| .im (.iV 15 6 22 4 1 (ay ah ([]:List Bool)))<| .en (Ue r_) [] [(16,0),(17,1),(18,2),(19,3),(20,4),(21,5),(22,6),(15,7)])
  (.r<| .jN (β:=Int) 2 ⟨[4,5,6],[15],fun e_=>[(8,(vI e_))],fun e_=>[]⟩ (.cl 2 (vQ p x) fun u1=> .r<| .it (.r<| .e 1)
  (.cl 2 (DZ s_ x) fun u2=> .r<| .it (.r<| .e 46)
  (.a2 ((gB [(Wz x)]=true→(0:Int)≤x.index∧x.index<(s_.badLink.length:Int))) ((gB [((decide (7≤x.deed)),true),((bif (Va x)then(at' s_.badLink x.index.toNat)else false),false)]=true→(0:Int)≤x.index∧x.index<(s_.badSource.length:Int)))<| .rg {} [0,1]<| .it (.r<| .e 47)
  (.a1 ((gB [(Wz x)]=true→(0:Int)≤x.index∧x.index<(s_.locked.length:Int)))<| .r<| .it (.r<| .e 43)
  (.cg 16 [((bif (Va x)then(decide (((at' p.links x.index.toNat).kind)=2))else false),true)] (Fx p s_ x.index) fun u3=> .a1 ((gB [(Wz x)]=true→(0:Int)≤x.index∧x.index<(p.links.length:Int)))<| .rg {} [0,1]<| .it (.r<| .e 44)
  (.e r_))))))
  (fun e_=> .r<| .it (.r<| .im (.iV 15 0 23 4 1 (ay ah ([]:List Bool)))<| .im (.iV 15 1 24 4 1 (ay ah ([]:List Bool)))<| .im (.iV 15 2 25 4 1 (ay ah ([]:List Bool)))<| .im (.iV 15 3 26 4 1 (ay ah ([]:List Bool)))<| .im (.iV 15 4 27 4 1 (ay ah ([]:List Bool)))<| .im (.iV 15 5 28 4 1 (ay ah ([]:List Bool)))<| .im (.iV 15 6 29 4 1 (ay ah ([]:List Bool)))<| .en (Ue e_) [] [(23,0),(24,1),(25,2),(26,3),(27,4),(28,5),(29,6),(15,7)])
  (.cl 2 (dH [(0,30),(1,31),(2,32),(3,33),(4,34),(5,35),(6,36),(7,37)] (AL s_ x)) fun u0=> .r<| .en (u0,0) [] [(30,0),(31,1),(32,2),(33,3),(34,4),(35,5),(36,6),(15,7)]))))
section
variable (s_:State) (l:(List State)) (u3:(List (List af))) (u1:(List af)) (t:Task) (kz:Int)
end
section
variable (n2:Int) (kz:Int)
end
section
variable (s_:State) (p:aj)
end
section
variable (u0:State) (t9:Int) (u1:(List Link))
end
end
end Sg
