import Derived.Test.YtboodeobmgjjpaaGreatFaW2
set_option linter.all false
namespace Sg
open Go Go.Proofs
set_option maxRecDepth 20000
noncomputable section
theorem qA (l:(List Int)):dG Tryz.prog 58 [(sD (Q7 l))] [] (fun r=>(vO 0 false r.length)) (fun r=>[(0,some (bC 3 1 (bM .i64) r))]) (lY l):=
  dR tT mX Tryz.func58 (
  .r<| .r<| .a2 (l.length*8≤140737488355328) (l.length≤4611686018427387904)<| .rg {an:=[(2, .arr l.length (ay (bM .i64) l))],fr:=[(2,1)]} [0,1, .e (l.length), .pf ⟨aK l.length 1 (ay (bM .i64) l) (ay (bM .i64) l),pX _ _ _⟩]<| .en l [] [(1,0)])
theorem kT (l:(List af)):dG Tryz.prog 40 (aaD l) [] (fun r=>(vO 0 false r.length)) (fun r=>[(0,some (bC 61 2 af.cell r))]) (fB l):=
  dR tT mX Tryz.func40 (
  .r<| .r<| .a2 (l.length*16≤140737488355328) (l.length≤4611686018427387904)<| .rg {an:=[(2, .arr l.length (ay af.cell l))],fr:=[(2,1)]} [0,1, .e (l.length), .pf ⟨aK l.length 2 (ay af.cell l) (ay af.cell l),pX _ _ _⟩]<| .en l [] [(1,0)])
section
variable (t:Task)
abbrev aad:List SV:=[(.agg (k2 t))]
end
theorem yx (t:Task):dG Tryz.prog 14 (aad t) [] (fun r=>(.v (.agg [(.d (aS none 1 (bM .i64) r.fed)),(.d (aS none 1 (bM .i64) r.crew)),(.d (aS none 2 af.cell r.allowed)),(.d (aS none 2 af.cell r.goal))]))) (fun _=>[]) (qH t):=
  dR tT mX Tryz.func14 (
  .rg {fr:=[(0,6),(1,7)],fz:=[6]} []<| .cl 2 (dL [(0,8)] (qA t.fed)) fun r_=> .cl 5 (dL [(0,9)] (qA t.crew)) fun u0=> .cl 8 (dL [(0,10)] (kT t.allowed)) fun u1=> .cl 11 (dL [(0,11)] (kT t.goal)) fun u2=> .rg {fz:=[8,9,10,11]} []<| .fz [7]<| .e (⟨r_,u0,u1,u2⟩:Task))
theorem D6 (p:au) (x:Link):dG Tryz.prog 130 [(.agg (k1 p)),(.agg (k19 x))] [] (fun r=>(vB r)) (fun _=>[]) (rA p x):=
  dR tT mX Tryz.func130 (
  .rg {fr:=[(0,6),(1,7)],fz:=[6]} []<| .r<| .it (.r<| .e false)
  (.r<| .it (.r<| .e false)
  (.r<| .lp (σ:=Int) (β:=Unit) (0) [] [] ⟨[3],[7],fun i=>[(5,(vI i))],fun i=>[]⟩ ⟨[],[],fun _=>[],fun _=>[]⟩
  (fun i=> .r<| .it (.a1 ((0:Int)≤i∧i<(x.trip.length:Int))<| .rg {fr:=[(5,11)],fz:=[11]} []<| .r<| .it (.r<| .e (.done (.ret false)))
  (.a2 ((gB [((decide (0<i)),true)]=true→(0:Int)≤(k10 i)∧(k10 i)<(x.trip.length:Int))) ((gB [(k20 x i),((decide (0<i)),true)]=true→(0:Int)≤(k10 i)∧(k10 i)<(x.trip.length:Int)))<| .rg {} [0,1]<| .it (.r<| .e (.done (.ret false)))
  (.r<| .e (.next (k18 i)))))
  (.e (.done (.brk ()))))
  (fun _=> .r<| .e true))))
theorem Di (p:au):dG Tryz.prog 90 (k6 p) [] (fun r=>(vI r)) (fun _=>[]) (qp p):=
  dR tT mX Tryz.func90 (
  .rg {fr:=[(0,9)]} []<| .r<| .it (.r<| .e 10)
  (.r<| .it (.r<| .e 11)
  (.r<| .lp (σ:=Int) (β:=Unit) (0) [] [] ⟨[1],[9],fun i=>[(3,(vI i))],fun i=>[]⟩ ⟨[1],[9],fun _=>[],fun _=>[]⟩
  (fun i=> .r<| .it (.a1 (QR i p)<| .rg {fr:=[(5,13)],fz:=[13]} []<| .r<| .it (.r<| .e (.done (.ret 11)))
  (.r<| .e (.next (k18 i))))
  (.e (.done (.brk ()))))
  (fun _=> .r<| .it (.r<| .e 12)
  (.r<| .lp (σ:=Int) (β:=Unit) (0) [] [] ⟨[1],[9],fun i1=>[(5,(vI i1))],fun i1=>[]⟩ ⟨[1],[9],fun _=>[],fun _=>[]⟩
  (fun i1=> .r<| .it (.cl 6 (D6 p (at' p.links i1.toNat)) fun r_=> .a1 (RO p i1)<| .rg {} [0,1]<| .it (.r<| .e (.done (.ret 12)))
  (.r<| .e (.next (k18 i1))))
  (.e (.done (.brk ()))))
  (fun _=> .r<| .it (.r<| .e 13)
  (.r<| .lp (σ:=Int) (β:=Unit) (0) [] [] ⟨[1],[9],fun i2=>[(6,(vI i2))],fun i2=>[]⟩ ⟨[],[],fun _=>[],fun _=>[]⟩
  (fun i2=> .r<| .it (.a1 ((0:Int)≤i2∧i2<(p.racks.length:Int))<| .rg {fr:=[(5,17)],fz:=[17]} []<| .rg {} [.pf ⟨(0:Int)≤0∧(0:Int)<(2:Nat),(by decide)⟩, .pf ⟨(0:Int)≤1∧(1:Int)<(2:Nat),(by decide)⟩]<| .r<| .r<| .it (.r<| .r<| .it (.r<| .e (.done (.ret 13)))
  (.r<| .e (.next (k18 i2))))
  (.r<| .it (.r<| .e (.done (.ret 13)))
  (.r<| .e (.next (k18 i2)))))
  (.e (.done (.brk ()))))
  (fun _=> .r<| .e 0))))))))
theorem Cz (p:au) (s_:State):dG Tryz.prog 104 (Pw s_ p) [] (fun r=>(vB r)) (fun _=>[]) (qw p s_):=
  dR tT mX Tryz.func104 (
  .rg {fr:=[(0,2),(1,3)],fz:=[2,3]} []<| .r<| .r<| .it (.r<| .e false)
  (.r<| .lp (σ:=Int) (β:=Unit) (0) [] [] ⟨[2,3,5],[],fun i=>[(8,(vI i))],fun i=>[]⟩ ⟨[],[],fun _=>[],fun _=>[]⟩
  (fun i=> .r<| .it (.a3 (RO p i) (k44 s_ p i) (k45 s_ p i)<| .rg {} [0,1,2]<| .it (.r<| .e (.done (.ret false)))
  (.r<| .e (.next (k18 i))))
  (.e (.done (.brk ()))))
  (fun _=> .r<| .e true)))
theorem iC (p:au) (s_:State):dG Tryz.prog 65 (Pw s_ p) [] (fun r=>(vI r)) (fun _=>[]) (eG p s_):=
  dR tT mX Tryz.func65 (
  .rg {fr:=[(0,2),(1,3)],fz:=[2,3]} []<| .cl 1 (Di p) fun r_=> .r<| .cg 5 [((decide (r_=0)),true)] (Cz p s_) fun u0=> .r<| .it (.r<| .r<| .e 9)
  (.r<| .e r_))
theorem sH (l:(List Int)) (n:Int):dG Tryz.prog 105 (YF l n) [] (fun r=>(vB r)) (fun _=>[]) (kF l n):=
  dR tT mX Tryz.func105 (
  .r<| .r<| .lp (σ:=Int) (β:=Unit) (0) [] [] ⟨[0,1],[],fun i=>[(5,(vI i))],fun i=>[]⟩ ⟨[0],[],fun _=>[],fun _=>[]⟩
  (fun i=> .r<| .it (.a2 (UI l i) ((gB [((decide ((at' l i.toNat)<0)),false)]=true→(0:Int)≤i∧i<(l.length:Int)))<| .rg {} [0,1]<| .it (.r<| .e (.done (.ret false)))
  (.r<| .e (.next (k18 i))))
  (.e (.done (.brk ()))))
  (fun _=> .r<| .e (decide ((l.length:Int)≤24))))
section
variable (x:af) (p:au)
abbrev Tf:=((gB [((decide (x.index<(p.links.length:Int))),true)]=true→(0:Int)≤x.index∧x.index<(p.links.length:Int)))
abbrev RB:=(bif (decide (x.index<(p.links.length:Int)))then(!decide (((at' p.links x.index.toNat).kind)=1))else false)
end
theorem uH (p:au) (x:af):dG Tryz.prog 71 (k49 x p) [] (fun r=>(vB r)) (fun _=>[]) (lN p x):=
  dR tT mX Tryz.func71 (
  .rg {fr:=[(0,2),(1,3)],fz:=[2,3]} []<| .r<| .r<| .it (.r<| .e false)
  (.r<| .r<| .it (.it (.a1 (Tf x p)<| .r<| .e (RB x p))
  (.r<| .it (.it (.r<| .e (TR x p))
  (.r<| .it (.it (.r<| .e (LY x p))
  (.r<| .e false))
  (.r<| .it (.r<| .e (LY x p))
  (.r<| .e false))))
  (.r<| .it (.r<| .e (TR x p))
  (.r<| .it (.it (.r<| .e (LY x p))
  (.r<| .e false))
  (.r<| .it (.r<| .e (LY x p))
  (.r<| .e false))))))
  (.r<| .it (.it (.a1 (Tf x p)<| .r<| .e (RB x p))
  (.r<| .it (.it (.r<| .e (TR x p))
  (.r<| .it (.it (.r<| .e (LY x p))
  (.r<| .e false))
  (.r<| .it (.r<| .e (LY x p))
  (.r<| .e false))))
  (.r<| .it (.r<| .e (TR x p))
  (.r<| .it (.it (.r<| .e (LY x p))
  (.r<| .e false))
  (.r<| .it (.r<| .e (LY x p))
  (.r<| .e false))))))
  (.r<| .it (.it (.a1 (Tf x p)<| .r<| .e (RB x p))
  (.r<| .it (.it (.r<| .e (TR x p))
  (.r<| .it (.it (.r<| .e (LY x p))
  (.r<| .e false))
  (.r<| .it (.r<| .e (LY x p))
  (.r<| .e false))))
  (.r<| .it (.r<| .e (TR x p))
  (.r<| .it (.it (.r<| .e (LY x p))
  (.r<| .e false))
  (.r<| .it (.r<| .e (LY x p))
  (.r<| .e false))))))
  (.r<| .it (.a1 (Tf x p)<| .r<| .e (RB x p))
  (.r<| .it (.it (.r<| .e (TR x p))
  (.r<| .it (.it (.r<| .e (LY x p))
  (.r<| .e false))
  (.r<| .it (.r<| .e (LY x p))
  (.r<| .e false))))
  (.r<| .it (.r<| .e (TR x p))
  (.r<| .it (.it (.r<| .e (LY x p))
  (.r<| .e false))
  (.r<| .it (.r<| .e (LY x p))
  (.r<| .e false))))))))))
theorem vN (p:au) (l:(List af)):dG Tryz.prog 106 [(.agg (k1 p)),(sD (NA l))] [] (fun r=>(vB r)) (fun _=>[]) (nI p l):=
  dR tT mX Tryz.func106 (
  .rg {fr:=[(0,1)],fz:=[1]} []<| .r<| .lp (σ:=Int) (β:=Unit) (0) [] [] ⟨[1,2],[],fun i=>[(5,(vI i))],fun i=>[]⟩ ⟨[1],[],fun _=>[],fun _=>[]⟩
  (fun i=> .r<| .it (.cl 5 (uH p (at' l i.toNat)) fun r_=> .a1 (TQ l i)<| .rg {} [0,1]<| .it (.r<| .e (.done (.ret false)))
  (.r<| .e (.next (k18 i))))
  (.e (.done (.brk ()))))
  (fun _=> .r<| .e (decide ((l.length:Int)≤24))))
theorem BX (p:au) (t:Task):dG Tryz.prog 66 (k0 p t) [] (fun r=>(vB r)) (fun _=>[]) (oN p t):=
  dR tT mX Tryz.func66 (
  .rg {fr:=[(0,2),(1,3)],fz:=[2,3]} []<| .cl 5 (sH t.fed (p.racks.length:Int)) fun r_=> .cg 11 [(r_,true)] (sH t.crew p.buses) fun u0=> .cg 17 [(k11 r_ u0)] (vN p t.allowed) fun u1=> .cg 23 [(k12 r_ u0 u1)] (vN p t.goal) fun u2=> .r<| .e (k13 r_ u0 u1 u2))
theorem qh (p:au) (s_:State) (kz:Int):dG Tryz.prog 107 (QZ p s_ kz) [] (fun r=>(vB r)) (fun _=>[]) (kN p s_ kz):=
  dR tT mX Tryz.func107 (
  .rg {fr:=[(0,2),(1,3)],fz:=[2,3]} []<| .a4 (X3 s_ kz) (YE s_ kz) ((gB [(YQ s_ kz)]=true→(0:Int)≤kz∧kz<(p.sources.length:Int))) (Zb s_ kz p)<| .rg {} [0,1,2,3]<| .e (bif (bif (at' s_.on_ kz.toNat)then(!(at' s_.badSource kz.toNat))else false)then(!(at' s_.badBus ((OA kz p).toNat)))else false))
section
variable (s_:State) (i:Int) (p:au)
abbrev Z0:=((gB [((at' s_.closed i.toNat),true)]=true→(0:Int)≤i∧i<(s_.badLink.length:Int)))
abbrev Y3:=(bif (at' s_.closed i.toNat)then(!(at' s_.badLink i.toNat))else false)
abbrev XL:=((Y3 s_ i),true)
abbrev LU:=((BB p i).toNat)
abbrev Yc:=(bif (Y3 s_ i)then(!(at' s_.badBus (LU i p)))else false)
abbrev XB:=((Yc s_ i p),true)
abbrev Mw:=((F5 p i).toNat)
end
theorem zS (p:au) (s_:State) (i:Int):dG Tryz.prog 134 (QZ p s_ i) [] (fun r=>(vB r)) (fun _=>[]) (mR p s_ i):=
  dR tT mX Tryz.func134 (
  .rg {fr:=[(0,2),(1,3)],fz:=[2,3]} []<| .a6 (Va s_ i) (Z0 s_ i) ((gB [(XL s_ i)]=true→(0:Int)≤i∧i<(p.links.length:Int))) ((gB [(XL s_ i)]=true→(0:Int)≤(at' p.links i.toNat).a∧(at' p.links i.toNat).a<(s_.badBus.length:Int))) ((gB [(XB s_ i p)]=true→(0:Int)≤i∧i<(p.links.length:Int))) ((gB [(XB s_ i p)]=true→(0:Int)≤(at' p.links i.toNat).b∧(at' p.links i.toNat).b<(s_.badBus.length:Int)))<| .rg {} [0,1,2,3,4,5]<| .e (bif (Yc s_ i p)then(!(at' s_.badBus (Mw i p)))else false))
section
variable (p:au) (b:Int) (u0:(List Bool)) (i:Int)
abbrev TD:=((y9 p).set b.toNat true)
abbrev Ng:=(u0.set (LU i p) true)
abbrev VH:=(ay ah (Ng p u0 i))
abbrev Wi:=((Ng p u0 i).set (Mw i p) true)
abbrev XC:=(ay ah (Wi p u0 i))
end
theorem qi (p:au) (s_:State) (b:Int):dG Tryz.prog 108 (QZ p s_ b) [] (fun r=>(vD (aS none 1 ah r))) (fun _=>[]) (dB p s_ b):=
  dR tT mX Tryz.func108 (
  .rg {fr:=[(0,19),(1,20)],fz:=[20]} []<| .a3 ((0:Int)≤p.buses) (R7 p) (RH p)<| .rg {an:=[(2, .arr (y9 p).length (Jm p))],fr:=[(2,21)]} [0, .e ((p.buses:Int)),1,2, .pf ⟨(y9 p).length=p.buses.toNat,List.length_replicate⟩, .pf ⟨aK p.buses.toNat 1 (fun _ j=>[(.bool false)].getD j .nilp) (Jm p),mU _ _ _ _ _ (fun j hj=>(match j,hj with|0,_=>rfl))⟩]<| .a1 ((0:Int)≤b∧b<((y9 p).length:Int))<| .rg {an:=[(3, .arr 0 (ay ah (TD p b)))]} [0, .t 0 b ((y9 p).length), .pf ⟨aK (y9 p).length 1 (mV (Jm p) b.toNat 0 [(.bool true)]) (ay ah (TD p b)),aJ _ _ _ _ _ _ _ _ rfl (fun j hj=>(match j,hj with|0,_=>rfl))⟩]<| .im (.ll 21 (y9 p) (TD p b))<| .r<| .lp (σ:=((List Bool) × Int)) (β:=(List Bool)) ((TD p b),0) [] [] ⟨[3,4],[19],fun(u1,n)=>[(7,(vO 21 true u1.length)),(8,(vI n))],fun(u1,n)=>[(21,some (bC 4 1 ah u1))]⟩ ⟨[],[],fun u2=>[(7,(vO 21 true u2.length))],fun u2=>[(21,some (bC 4 1 ah u2))]⟩
  (fun(u1,n)=> .r<| .it (.r<| .lp (σ:=((List Bool) × Int)) (β:=(List Bool)) (u1,0) [] [] ⟨[3,4,8],[19],fun(u0,i)=>[(7,(vO 21 true u0.length)),(9,(vI i))],fun(u0,i)=>[(21,some (bC 4 1 ah u0))]⟩ ⟨[3,4,8],[19],fun u3=>[(7,(vO 21 true u3.length))],fun u3=>[(21,some (bC 4 1 ah u3))]⟩
  (fun(u0,i)=> .r<| .it (.a1 (RO p i)<| .rg {fr:=[(5,37)]} []<| .cl 3 (zS p s_ i) fun r_=> .a2 ((gB [(r_,true)]=true→(0:Int)≤(at' p.links i.toNat).a∧(at' p.links i.toNat).a<(u0.length:Int))) ((gB [((at' u0 (LU i p)),false),(r_,true)]=true→(0:Int)≤(at' p.links i.toNat).b∧(at' p.links i.toNat).b<(u0.length:Int)))<| .rg {} [2,0, .tg 0 [(r_,true)] (BB p i) u0.length,1, .tg 1 [((at' u0 (LU i p)),false),(r_,true)] (F5 p i) u0.length]<| .it (.a1 ((0:Int)≤(at' p.links i.toNat).a∧(at' p.links i.toNat).a<(u0.length:Int))<| .rg {an:=[(4, .arr 0 (VH p u0 i))]} [0, .t 0 (BB p i) u0.length, .pf ⟨aK u0.length 1 (mV (ay ah u0) (LU i p) 0 [(.bool true)]) (VH p u0 i),aJ _ _ _ _ _ _ _ _ rfl (fun j hj=>(match j,hj with|0,_=>rfl))⟩]<| .im (.ll 21 u0 (Ng p u0 i))<| .a1 ((0:Int)≤(at' p.links i.toNat).b∧(at' p.links i.toNat).b<((Ng p u0 i).length:Int))<| .rg {an:=[(4, .arr 0 (XC p u0 i))]} [0, .t 0 (F5 p i) ((Ng p u0 i).length), .pf ⟨aK (Ng p u0 i).length 1 (mV (VH p u0 i) (Mw i p) 0 [(.bool true)]) (XC p u0 i),aJ _ _ _ _ _ _ _ _ rfl (fun j hj=>(match j,hj with|0,_=>rfl))⟩]<| .im (.ll 21 (Ng p u0 i) (Wi p u0 i))<| .r<| .e (.next ((Wi p u0 i),(k18 i))))
  (.r<| .e (.next (Ox i u0))))
  (.e (.done (.brk u0))))
  (fun u3=> .r<| .e (.next (Ox n u3))))
  (.e (.done (.brk u1))))
  (fun u2=> .rg {fz:=[21]} []<| .e u2))
section
variable (u0:(List Bool)) (b:Int) (u2:(List Bool))
abbrev SN:=(u0.set b.toNat (bif (at' u0 b.toNat)then true else(at' u2 b.toNat)))
end
theorem xG (p:au) (s_:State):dG Tryz.prog 67 (Pw s_ p) [] (fun r=>(.iG [(sD (aS none 1 ah r.1)),(sI r.2)])) (fun _=>[]) (ja p s_):=
  dR tT mX Tryz.func67 (
  .rg {fr:=[(0,3),(1,4)],fz:=[3,4]} []<| .cl 2 (iC p s_) fun r_=> .r<| .r<| .it (.r<| .e (([]:List Bool),r_))
  (.a3 ((0:Int)≤p.buses) (R7 p) (RH p)<| .rg {an:=[(2, .arr (y9 p).length (Jm p))],fr:=[(2,5)]} [0, .e ((p.buses:Int)),1,2, .pf ⟨(y9 p).length=p.buses.toNat,List.length_replicate⟩, .pf ⟨aK p.buses.toNat 1 (fun _ j=>[(.bool false)].getD j .nilp) (Jm p),mU _ _ _ _ _ (fun j hj=>(match j,hj with|0,_=>rfl))⟩]<| .r<| .lp (σ:=((List Bool) × Int)) (β:=(List Bool)) ((y9 p),0) [] [] ⟨[2,3],[],fun(u1,kz)=>[(7,(vO 5 true u1.length)),(8,(vI kz))],fun(u1,kz)=>[(5,some (bC 4 1 ah u1))]⟩ ⟨[],[],fun u3=>[(7,(vO 5 true u3.length))],fun u3=>[(5,some (bC 4 1 ah u3))]⟩
  (fun(u1,kz)=> .r<| .it (.cl 3 (qh p s_ kz) fun u5=> .r<| .it (.r<| .e (.next (Ox kz u1)))
  (.cl 8 (qi p s_ (OA kz p)) fun u2=> .a1 (QR kz p)<| .rg {} [0,1]<| .r<| .lp (σ:=((List Bool) × Int)) (β:=(List Bool)) (u1,0) [] [] ⟨[2,3,8,9],[],fun(u0,b)=>[(7,(vO 5 true u0.length)),(10,(vI b))],fun(u0,b)=>[(5,some (bC 4 1 ah u0))]⟩ ⟨[2,3,8],[],fun u4=>[(7,(vO 5 true u4.length))],fun u4=>[(5,some (bC 4 1 ah u4))]⟩
  (fun(u0,b)=> .r<| .it (.a2 (XW u0 b) ((gB [((at' u0 b.toNat),false)]=true→(0:Int)≤b∧b<(u2.length:Int)))<| .rg {an:=[(13, .arr 0 (ay ah (SN u0 b u2)))]} [0, .t 0 b u0.length,1,0, .t 0 b u0.length, .pf ⟨aK u0.length 1 (mV (ay ah u0) b.toNat 0 [(.bool (bif (at' u0 b.toNat)then true else(at' u2 b.toNat)))]) (ay ah (SN u0 b u2)),aJ _ _ _ _ _ _ _ _ rfl (fun j hj=>(match j,hj with|0,_=>rfl))⟩]<| .im (.ll 5 u0 (SN u0 b u2))<| .r<| .e (.next ((SN u0 b u2),(k18 b))))
  (.e (.done (.brk u0))))
  (fun u4=> .r<| .e (.next (Ox kz u4)))))
  (.e (.done (.brk u1))))
  (fun u3=> .rg {fz:=[5]} []<| .e (u3,0))))
theorem CQ (a:Source) (b:Source):dG Tryz.prog 109 [(.agg (k7 a)),(.agg (k7 b))] [] (fun r=>(vB r)) (fun _=>[]) (ql a b):=
  dR tT mX Tryz.func109 (
  .rg {fr:=[(0,2),(1,3)],fz:=[2,3]} []<| .r<| .e (bif (!decide (a.sync=b.sync))then true else(decide (a.sync=0))))
section
variable (u3:(List aA)) (u1:Bool) (u2:Bool) (u6:(List Bool)) (p:au) (kz:Int)
abbrev Tm:List (Nat × Option Ob):=[(37,some (bC 117 2 aA.cell u3))]
abbrev Vs:=((bif (bif u1 then u2 else false)then(at' u6 ((OA kz p).toNat))else false),true)
end
theorem Ak (p:au) (s_:State):dG Tryz.prog 68 (Pw s_ p) [] (fun r=>(.iG [(sD (aS none 2 aA.cell r.1)),(sI r.2)])) (fun _=>[]) (nO p s_):=
  dR tT mX Tryz.func68 (
  .rg {fr:=[(0,34),(1,35)],fz:=[34,35]} []<| .cl 2 (iC p s_) fun r_=> .r<| .r<| .it (.r<| .e (([]:List aA),r_))
  (.r<| .r<| .im (.ad 7 68 117 2 (ay aA.cell ([]:List aA)))<| .lp (σ:=((List aA) × Int)) (β:=(List aA)) (([]:List aA),0) [] [(68,37)] ⟨[2,3],[],fun(u3,i)=>[(7,(vO 37 false u3.length)),(8,(vI i))],fun(u3,i)=>(Tm u3)⟩ ⟨[],[],fun u4=>[(7,(vO 37 false u4.length))],fun u4=>(Tm u4)⟩
  (fun(u3,i)=> .r<| .it (.r<| .lp (σ:=((List aA) × Int)) (β:=(List aA)) (O1 i u3) [] [] ⟨[2,3,8],[],fun(u0,kz)=>[(7,(vO 37 false u0.length)),(9,(vI kz))],fun(u0,kz)=>(Tm u0)⟩ ⟨[2,3,8],[],fun u5=>[(7,(vO 37 false u5.length))],fun u5=>(Tm u5)⟩
  (fun(u0,kz)=> .r<| .it (.cl 3 (qh p s_ i) fun u1=> .cg 8 [(u1,true)] (qh p s_ kz) fun u2=> .cg 19 [(k11 u1 u2)] (qi p s_ (OA i p)) fun u6=> .cg 40 [(Vs u1 u2 u6 p kz)] (CQ (at' p.sources i.toNat) (at' p.sources kz.toNat)) fun u7=> .a5 ((gB [(k11 u1 u2)]=true→(0:Int)≤i∧i<(p.sources.length:Int))) ((gB [(k11 u1 u2)]=true→(0:Int)≤kz∧kz<(p.sources.length:Int))) ((gB [(k11 u1 u2)]=true→(0:Int)≤(at' p.sources kz.toNat).bus∧(at' p.sources kz.toNat).bus<(u6.length:Int))) ((gB [(Vs u1 u2 u6 p kz)]=true→(0:Int)≤i∧i<(p.sources.length:Int))) ((gB [(Vs u1 u2 u6 p kz)]=true→(0:Int)≤kz∧kz<(p.sources.length:Int)))<| .rg {} [8,7,0,6,1,2,3,4,5]<| .it (.a2 ((u0.length+[(⟨i,kz⟩:aA)].length)*16≤140737488355328) (u0.length+[(⟨i,kz⟩:aA)].length≤4611686018427387904)<| .rg {an:=[(4, .arr [(⟨i,kz⟩:aA)].length (ay aA.cell [(⟨i,kz⟩:aA)])),(5, .arr (u0++[(⟨i,kz⟩:aA)]).length (ay aA.cell (u0++[(⟨i,kz⟩:aA)])))],fr:=[(4,66),(5,67)]} [.pf ⟨[(⟨i,kz⟩:aA)].length=1,rfl⟩, .pf ⟨aK 1 2 (rq 2 [(.int .i64 i),(.int .i64 kz)]) (ay aA.cell [(⟨i,kz⟩:aA)]),(by intro i hi j hj;match i,j,hi,hj with|0,0,_,_=>rfl|0,1,_,_=>rfl)⟩, .e (u0.length),0,1, .pf ⟨(u0++[(⟨i,kz⟩:aA)]).length=u0.length+[(⟨i,kz⟩:aA)].length,List.length_append⟩, .pf ⟨aK (u0.length+[(⟨i,kz⟩:aA)].length) 2 (wK (ay aA.cell u0) u0.length (ay aA.cell [(⟨i,kz⟩:aA)])) (ay aA.cell (u0++[(⟨i,kz⟩:aA)])),gu _ _ _ _⟩]<| .r<| .en (.next ((u0++[(⟨i,kz⟩:aA)]),(k18 kz))) [] [(67,37)])
  (.r<| .e (.next (O1 kz u0))))
  (.e (.done (.brk u0))))
  (fun u5=> .r<| .e (.next (O1 i u5))))
  (.e (.done (.brk u3))))
  (fun u4=> .rg {fz:=[37]} []<| .e (u4,0))))
theorem uZ (l:(List Int)) (n:Int):dG Tryz.prog 110 (YF l n) [] (fun r=>(vB r)) (fun _=>[]) (p9 l n):=
  dR tT mX Tryz.func110 (
  .r<| .r<| .lp (σ:=Int) (β:=Unit) (0) [] [] ⟨[0,1],[],fun i=>[(5,(vI i))],fun i=>[]⟩ ⟨[],[],fun _=>[],fun _=>[]⟩
  (fun i=> .r<| .it (.a1 (UI l i)<| .r<| .it (.r<| .e (.done (.ret true)))
  (.r<| .e (.next (k18 i))))
  (.e (.done (.brk ()))))
  (fun _=> .r<| .e false))
section
variable (p:au) (s_:State) (u0:(List Int)) (b:Int) (i:Int) (r_:Bool)
abbrev aaC:List SV:=[(.agg (k1 p)),(.agg (zG s_)),(sD (Q7 u0)),(sI b)]
abbrev Yo:=((gB [((decide (((at' p.links i.toNat).kind)=1)),false),((bif (decide (0≤(BB p i)))then(!r_)else false),true)]=true→(0:Int)≤i∧i<(s_.closed.length:Int)))
abbrev Xn:=((gB [(VY p s_ i),((bif (decide (0≤(BB p i)))then(!r_)else false),true)]=true→(0:Int)≤i∧i<(s_.locked.length:Int)))
end
theorem Cw (p:au) (s_:State) (u0:(List Int)) (b:Int):dG Tryz.prog 69 (aaC p s_ u0 b) [] (fun r=>(vB r)) (fun _=>[]) (o6 p s_ u0 b):=
  dR tT mX Tryz.func69 (
  .rg {fr:=[(0,10),(1,11)],fz:=[11]} []<| .a1 (Yb s_ b)<| .r<| .it (.r<| .e true)
  (.r<| .lp (σ:=Int) (β:=Unit) (0) [] [] ⟨[2,3,4,5],[10],fun kz=>[(9,(vI kz))],fun kz=>[]⟩ ⟨[2,3,4,5],[10],fun _=>[],fun _=>[]⟩
  (fun kz=> .r<| .it (.a2 (QR kz p) (YL p s_ b kz)<| .rg {} [0,1]<| .it (.r<| .e (.done (.ret true)))
  (.r<| .e (.next (k18 kz))))
  (.e (.done (.brk ()))))
  (fun _=> .r<| .lp (σ:=Int) (β:=Unit) (0) [] [] ⟨[2,3,4,5],[10],fun i=>[(10,(vI i))],fun i=>[]⟩ ⟨[],[],fun _=>[],fun _=>[]⟩
  (fun i=> .r<| .it (.jn (β:=Unit) 2 ⟨[2,3,4,5,10],[10],fun _=>[],fun _=>[]⟩ (.a1 (RO p i)<| .rg {fr:=[(5,19)],fz:=[19]} []<| .r<| .r<| .it (.r<| .r<| .it (.r<| .cg 5 [((decide (0≤(BB p i))),true)] (uZ u0 (BB p i)) fun r_=> .a2 (Yo p s_ i r_) (Xn p s_ i r_)<| .rg {} [2,0,1]<| .it (.r<| .e (.ret (.done (.ret true))))
  (.e (.brk ())))
  (.cg 5 [((decide (0≤(F5 p i))),true)] (uZ u0 (F5 p i)) fun u1=> .a2 ((gB [((decide (((at' p.links i.toNat).kind)=1)),false),((bif (decide (0≤(F5 p i)))then(!u1)else false),true)]=true→(0:Int)≤i∧i<(s_.closed.length:Int))) ((gB [(VY p s_ i),((bif (decide (0≤(F5 p i)))then(!u1)else false),true)]=true→(0:Int)≤i∧i<(s_.locked.length:Int)))<| .rg {} [2,0,1]<| .it (.r<| .e (.ret (.done (.ret true))))
  (.e (.brk ()))))
  (.r<| .it (.r<| .cg 5 [((decide (0≤(BB p i))),true)] (uZ u0 (BB p i)) fun u2=> .a2 (Yo p s_ i u2) (Xn p s_ i u2)<| .rg {} [2,0,1]<| .it (.r<| .e (.ret (.done (.ret true))))
  (.e (.brk ())))
  (.rg {sk:=[3,4,5,6,9,10,11,12,13,14,15,16,17,19,20,21,22,23,24,25]} []<| .f<| .e (.brk ()))))
  (fun _=> .r<| .e (.next (k18 i))))
  (.e (.done (.brk ()))))
  (fun _=> .r<| .e false))))
section
variable (p:au) (t:Task) (i:Int)
abbrev K4:=((at' p.racks ((at' t.fed i.toNat).toNat)).feeds)
end
theorem jK (p:au) (s_:State) (t:Task):dG Tryz.prog 24 (WC p s_ t) [] (fun r=>(vI r)) (fun _=>[]) (cO p s_ t):=
  dR tT mX Tryz.func24 (
  .rg {fr:=[(0,7),(1,8),(2,9)],fz:=[8]} []<| .cl 2 (iC p s_) fun r_=> .r<| .r<| .it (.r<| .e r_)
  (.cl 2 (BX p t) fun u1=> .r<| .it (.r<| .e 1)
  (.cl 2 (xG p s_) fun u0=> .r<| .r<| .lp (σ:=Int) (β:=Unit) (0) [] [] ⟨[3,4,5,8],[7,9],fun b=>[(10,(vI b))],fun b=>[]⟩ ⟨[3,4,5,8],[7,9],fun _=>[],fun _=>[]⟩
  (fun b=> .r<| .it (.a2 ((0:Int)≤b∧b<(u0.1.length:Int)) ((gB [((at' u0.1 b.toNat),true)]=true→(0:Int)≤b∧b<(s_.earthed.length:Int)))<| .rg {} [0,1]<| .it (.r<| .e (.done (.ret 40)))
  (.r<| .e (.next (k18 b))))
  (.e (.done (.brk ()))))
  (fun _=> .cl 2 (Ak p s_) fun u2=> .r<| .r<| .it (.r<| .e 41)
  (.r<| .lp (σ:=Int) (β:=Unit) (0) [] [] ⟨[3,4,5,8],[7,9],fun i=>[(13,(vI i))],fun i=>[]⟩ ⟨[3,4,5],[7,9],fun _=>[],fun _=>[]⟩
  (fun i=> .r<| .it (.a2 ((0:Int)≤i∧i<(t.fed.length:Int)) ((0:Int)≤(at' t.fed i.toNat)∧(at' t.fed i.toNat)<(p.racks.length:Int))<| .rg {fr:=[(10,13)],fz:=[13]} [0,1]<| .a2 ((0:Int)≤(K4 p t i).e0∧(K4 p t i).e0<(u0.1.length:Int)) ((gB [((decide (0≤((K4 p t i).e1))),true),((!(at' u0.1 (((K4 p t i).e0).toNat))),true)]=true→(0:Int)≤(if(K4 p t i).e1<0 then 0 else(K4 p t i).e1)∧(if(K4 p t i).e1<0 then 0 else(K4 p t i).e1)<(u0.1.length:Int)))<| .rg {} [.pf ⟨(0:Int)≤0∧(0:Int)<(2:Nat),(by decide)⟩,0, .pf ⟨(0:Int)≤1∧(1:Int)<(2:Nat),(by decide)⟩, .pf ⟨(0:Int)≤1∧(1:Int)<(2:Nat),(by decide)⟩,1]<| .it (.r<| .e (.done (.ret 42)))
  (.r<| .e (.next (k18 i))))
  (.e (.done (.brk ()))))
  (fun _=> .rg {fz:=[7,9]} []<| .lp (σ:=Int) (β:=Unit) (0) [] [] ⟨[3,4,5],[],fun i1=>[(15,(vI i1))],fun i1=>[]⟩ ⟨[],[],fun _=>[],fun _=>[]⟩
  (fun i1=> .r<| .it (.cl 9 (Cw p s_ t.crew (at' t.crew i1.toNat)) fun u3=> .a1 ((0:Int)≤i1∧i1<(t.crew.length:Int))<| .rg {} [0,1]<| .it (.r<| .e (.done (.ret 45)))
  (.r<| .e (.next (k18 i1))))
  (.e (.done (.brk ()))))
  (fun _=> .r<| .e 0)))))))
section
variable (x:af) (s_:State)
abbrev TB:=((0:Int)≤x.index∧x.index<(s_.closed.length:Int))
abbrev O7:=((0:Int)≤x.index∧x.index<(s_.earthed.length:Int))
abbrev Gs:=((0:Int)≤x.index∧x.index<(s_.locked.length:Int))
abbrev xY:=((0:Int)≤x.index∧x.index<(s_.on_.length:Int))
end
theorem vY (s_:State) (x:af):dG Tryz.prog 72 (TL s_ x) [] (fun r=>(vB r)) (fun _=>[]) (nD s_ x):=
  dR tT mX Tryz.func72 (
  .rg {fr:=[(0,2),(1,3)],fz:=[2,3]} []<| .r<| .r<| .r<| .it (.a1 (TB x s_)<| .r<| .e (!(at' s_.closed x.index.toNat)))
  (.r<| .it (.a1 (TB x s_)<| .r<| .e (at' s_.closed x.index.toNat))
  (.r<| .it (.a1 (O7 x s_)<| .r<| .e (at' s_.earthed x.index.toNat))
  (.r<| .it (.a1 (O7 x s_)<| .r<| .e (!(at' s_.earthed x.index.toNat)))
  (.r<| .it (.a1 (Gs x s_)<| .r<| .e (at' s_.locked x.index.toNat))
  (.r<| .it (.a1 (Gs x s_)<| .r<| .e (!(at' s_.locked x.index.toNat)))
  (.r<| .it (.a1 (xY x s_)<| .r<| .e (at' s_.on_ x.index.toNat))
  (.a1 (xY x s_)<| .r<| .e (!(at' s_.on_ x.index.toNat))))))))))
theorem dA (l:(List Bool)):dG Tryz.prog 84 [(sD (aS none 1 ah l))] [] (fun r=>(vO 0 false r.length)) (fun r=>[(0,some (bC 4 1 ah r))]) (dD l):=
  dR tT mX Tryz.func84 (
  .r<| .r<| .a2 (l.length*1≤140737488355328) (l.length≤4611686018427387904)<| .rg {an:=[(2, .arr l.length (ay ah l))],fr:=[(2,1)]} [0,1, .e (l.length), .pf ⟨aK l.length 1 (ay ah l) (ay ah l),pX _ _ _⟩]<| .en l [] [(1,0)])
theorem pI (x:State):dG Tryz.prog 39 (Tn x) [] (fun r=>(.v (.agg [(.own 0 false r.closed.length),(.own 1 false r.locked.length),(.own 2 false r.badLink.length),(.own 3 false r.on_.length),(.own 4 false r.badSource.length),(.own 5 false r.earthed.length),(.own 6 false r.badBus.length)]))) (fun r=>[(0,some (bC 4 1 ah r.closed)),(1,some (bC 4 1 ah r.locked)),(2,some (bC 4 1 ah r.badLink)),(3,some (bC 4 1 ah r.on_)),(4,some (bC 4 1 ah r.badSource)),(5,some (bC 4 1 ah r.earthed)),(6,some (bC 4 1 ah r.badBus)),(7,none)]) (kE x):=
  dR tT mX Tryz.func39 (
  .rg {fr:=[(0,9),(1,10)],fz:=[9]} []<| .cl 2 (dL [(0,11)] (dA x.closed)) fun r_=> .cl 5 (dL [(0,12)] (dA x.locked)) fun u0=> .cl 8 (dL [(0,13)] (dA x.badLink)) fun u1=> .cl 11 (dL [(0,14)] (dA x.on_)) fun u2=> .cl 14 (dL [(0,15)] (dA x.badSource)) fun u3=> .cl 17 (dL [(0,16)] (dA x.earthed)) fun u4=> .cl 20 (dL [(0,17)] (dA x.badBus)) fun u5=> .r<| .en (qd r_ u0 u1 u2 u3 u4 u5) [] [(11,0),(12,1),(13,2),(14,3),(15,4),(16,5),(17,6),(10,7)])
section
variable (r_:State) (i:Int)
abbrev Yd:=(⟨(r_.closed.set i.toNat false),r_.locked,r_.badLink,r_.on_,r_.badSource,r_.earthed,r_.badBus⟩:State)
end
theorem EY (p:au) (s_:State) (i:Int):dG Tryz.prog 73 (QZ p s_ i) [] (fun r=>(vB r)) (fun _=>[]) (tZ p s_ i):=
  dR tT mX Tryz.func73 (
  .rg {fr:=[(0,11),(1,12)],fz:=[11,12]} []<| .cl 1 (dL [(0,13),(1,14),(2,15),(3,16),(4,17),(5,18),(6,19),(7,20)] (pI s_)) fun r_=> .rg {fr:=[(2,21)]} []<| .a1 (Va r_ i)<| .rg {an:=[(4, .arr 0 (ay ah (r_.closed.set i.toNat false)))],fz:=[13,14,15,16,17,18,19]} [0, .t 0 i r_.closed.length, .pf ⟨aK r_.closed.length 1 (mV (ay ah r_.closed) i.toNat 0 [(.bool false)]) (ay ah (r_.closed.set i.toNat false)),aJ _ _ _ _ _ _ _ _ rfl (fun j hj=>(match j,hj with|0,_=>rfl))⟩]<| .im (.uh 21 (some (.cells 29 [(.d (.sl none 1 r_.closed.length (ay ah (r_.closed.set i.toNat false)))),(.d (UW r_)),(.d (U3 r_)),(.d (UR r_)),(.d (U2 r_)),(.d (U0 r_)),(.d (Uz r_))])) (some (.cells 29 [(.d (aS none 1 ah (r_.closed.set i.toNat false))),(.d (UW r_)),(.d (U3 r_)),(.d (UR r_)),(.d (U2 r_)),(.d (U0 r_)),(.d (Uz r_))])) (pK ⟨kC.d (kD.Zu (by simp only [List.length_set,List.length_drop,Bv]) (.inr rfl) (fun _ _ _ _=> .refl _)),kC.refl _,kC.refl _,kC.refl _,kC.refl _,kC.refl _,kC.refl _,trivial⟩))<| .fz [21]<| .a1 (RO p i)<| .rg {} [0,0]<| .a2 ((0:Int)≤(at' p.links i.toNat).a∧(at' p.links i.toNat).a<(r_.badBus.length:Int)) ((gB [((at' r_.badBus (LU i p)),false)]=true→(0:Int)≤(at' p.links i.toNat).b∧(at' p.links i.toNat).b<(r_.badBus.length:Int)))<| .rg {} [0,1]<| .it (.r<| .e false)
  (.cl 2 (xG p (Yd r_ i)) fun u0=> .r<| .cl 3 (qi p (Yd r_ i) (BB p i)) fun u1=> .a3 ((0:Int)≤(at' p.links i.toNat).b∧(at' p.links i.toNat).b<(u1.length:Int)) ((gB [((!(at' u1 (Mw i p))),true)]=true→(0:Int)≤(at' p.links i.toNat).a∧(at' p.links i.toNat).a<(u0.1.length:Int))) ((gB [((at' u0.1 (LU i p)),false),((!(at' u1 (Mw i p))),true)]=true→(0:Int)≤(at' p.links i.toNat).b∧(at' p.links i.toNat).b<(u0.1.length:Int)))<| .rg {} [3,0,1,2]<| .e (bif (!(at' u1 (Mw i p)))then(bif (at' u0.1 (LU i p))then true else(at' u0.1 (Mw i p)))else false)))
section
variable (r_:State) (x:af)
abbrev RY:=(r_.closed.set x.index.toNat (decide (x.deed=2)))
abbrev Tz:=(ay ah (RY r_ x))
abbrev W9:=(⟨(RY r_ x),r_.locked,r_.badLink,r_.on_,r_.badSource,r_.earthed,r_.badBus⟩:State)
abbrev OG:=(r_.earthed.set x.index.toNat (decide (x.deed=3)))
abbrev LJ:=(ay ah (OG r_ x))
abbrev RQ:=(mV (ay ah r_.earthed) x.index.toNat 0 [(.bool (decide (x.deed=3)))])
abbrev Ti:=(⟨r_.closed,r_.locked,r_.badLink,r_.on_,r_.badSource,(OG r_ x),r_.badBus⟩:State)
abbrev Gx:=(r_.locked.set x.index.toNat (decide (x.deed=5)))
abbrev zP:=(ay ah (Gx r_ x))
abbrev Lr:=(mV (ay ah r_.locked) x.index.toNat 0 [(.bool (decide (x.deed=5)))])
abbrev LH:=(⟨r_.closed,(Gx r_ x),r_.badLink,r_.on_,r_.badSource,r_.earthed,r_.badBus⟩:State)
abbrev xK:=(r_.on_.set x.index.toNat (decide (x.deed=7)))
abbrev ni:=(ay ah (xK r_ x))
abbrev zQ:=(mV (ay ah r_.on_) x.index.toNat 0 [(.bool (decide (x.deed=7)))])
abbrev zM:=(⟨r_.closed,r_.locked,r_.badLink,(xK r_ x),r_.badSource,r_.earthed,r_.badBus⟩:State)
end
theorem zT (s_:State) (x:af):dG Tryz.prog 74 (TL s_ x) [] (fun r=>(.v (.agg [(.own 0 false r.closed.length),(.own 1 false r.locked.length),(.own 2 false r.badLink.length),(.own 3 false r.on_.length),(.own 4 false r.badSource.length),(.own 5 false r.earthed.length),(.own 6 false r.badBus.length)]))) (fun r=>[(0,some (bC 4 1 ah r.closed)),(1,some (bC 4 1 ah r.locked)),(2,some (bC 4 1 ah r.badLink)),(3,some (bC 4 1 ah r.on_)),(4,some (bC 4 1 ah r.badSource)),(5,some (bC 4 1 ah r.earthed)),(6,some (bC 4 1 ah r.badBus)),(7,none)]) (qy s_ x):=
  dR tT mX Tryz.func74 (
  .rg {fr:=[(0,12),(1,13),(2,14)],fz:=[12]} []<| .cl 1 (dL [(0,15),(1,16),(2,17),(3,18),(4,19),(5,20),(6,21),(7,22)] (pI s_)) fun r_=> .rg {fr:=[(2,23)]} []<| .rg {fz:=[13]} []<| .r<| .r<| .it (.it (.a1 (TB x r_)<| .rg {an:=[(7, .arr 0 (Tz r_ x))]} [0, .t 0 x.index r_.closed.length, .pf ⟨aK r_.closed.length 1 (mV (ay ah r_.closed) x.index.toNat 0 [(.bool (decide (x.deed=2)))]) (Tz r_ x),aJ _ _ _ _ _ _ _ _ rfl (fun j hj=>(match j,hj with|0,_=>rfl))⟩]<| .im (.ll 15 r_.closed (RY r_ x))<| .r<| .en (W9 r_ x) [] [(15,0),(16,1),(17,2),(18,3),(19,4),(20,5),(21,6),(14,7)])
  (.r<| .it (.it (.a1 (O7 x r_)<| .rg {an:=[(7, .arr 0 (LJ r_ x))]} [0, .t 0 x.index r_.earthed.length, .pf ⟨aK r_.earthed.length 1 (RQ r_ x) (LJ r_ x),aJ _ _ _ _ _ _ _ _ rfl (fun j hj=>(match j,hj with|0,_=>rfl))⟩]<| .im (.ll 20 r_.earthed (OG r_ x))<| .r<| .en (Ti r_ x) [] [(15,0),(16,1),(17,2),(18,3),(19,4),(20,5),(21,6),(14,7)])
  (.r<| .it (.it (.a1 (Gs x r_)<| .rg {an:=[(7, .arr 0 (zP r_ x))]} [0, .t 0 x.index r_.locked.length, .pf ⟨aK r_.locked.length 1 (Lr r_ x) (zP r_ x),aJ _ _ _ _ _ _ _ _ rfl (fun j hj=>(match j,hj with|0,_=>rfl))⟩]<| .im (.ll 16 r_.locked (Gx r_ x))<| .r<| .en (LH r_ x) [] [(15,0),(16,1),(17,2),(18,3),(19,4),(20,5),(21,6),(14,7)])
  (.r<| .it (.it (.a1 (xY x r_)<| .rg {an:=[(7, .arr 0 (ni r_ x))]} [0, .t 0 x.index r_.on_.length, .pf ⟨aK r_.on_.length 1 (zQ r_ x) (ni r_ x),aJ _ _ _ _ _ _ _ _ rfl (fun j hj=>(match j,hj with|0,_=>rfl))⟩]<| .im (.ll 18 r_.on_ (xK r_ x))<| .r<| .en (zM r_ x) [] [(15,0),(16,1),(17,2),(18,3),(19,4),(20,5),(21,6),(14,7)])
  (.r<| .en r_ [] [(15,0),(16,1),(17,2),(18,3),(19,4),(20,5),(21,6),(14,7)]))
  (.r<| .it (.a1 (xY x r_)<| .rg {an:=[(7, .arr 0 (ni r_ x))]} [0, .t 0 x.index r_.on_.length, .pf ⟨aK r_.on_.length 1 (zQ r_ x) (ni r_ x),aJ _ _ _ _ _ _ _ _ rfl (fun j hj=>(match j,hj with|0,_=>rfl))⟩]<| .im (.ll 18 r_.on_ (xK r_ x))<| .r<| .en (zM r_ x) [] [(15,0),(16,1),(17,2),(18,3),(19,4),(20,5),(21,6),(14,7)])
  (.r<| .en r_ [] [(15,0),(16,1),(17,2),(18,3),(19,4),(20,5),(21,6),(14,7)]))))
  (.r<| .it (.a1 (Gs x r_)<| .rg {an:=[(7, .arr 0 (zP r_ x))]} [0, .t 0 x.index r_.locked.length, .pf ⟨aK r_.locked.length 1 (Lr r_ x) (zP r_ x),aJ _ _ _ _ _ _ _ _ rfl (fun j hj=>(match j,hj with|0,_=>rfl))⟩]<| .im (.ll 16 r_.locked (Gx r_ x))<| .r<| .en (LH r_ x) [] [(15,0),(16,1),(17,2),(18,3),(19,4),(20,5),(21,6),(14,7)])
  (.r<| .it (.it (.a1 (xY x r_)<| .rg {an:=[(7, .arr 0 (ni r_ x))]} [0, .t 0 x.index r_.on_.length, .pf ⟨aK r_.on_.length 1 (zQ r_ x) (ni r_ x),aJ _ _ _ _ _ _ _ _ rfl (fun j hj=>(match j,hj with|0,_=>rfl))⟩]<| .im (.ll 18 r_.on_ (xK r_ x))<| .r<| .en (zM r_ x) [] [(15,0),(16,1),(17,2),(18,3),(19,4),(20,5),(21,6),(14,7)])
  (.r<| .en r_ [] [(15,0),(16,1),(17,2),(18,3),(19,4),(20,5),(21,6),(14,7)]))
  (.r<| .it (.a1 (xY x r_)<| .rg {an:=[(7, .arr 0 (ni r_ x))]} [0, .t 0 x.index r_.on_.length, .pf ⟨aK r_.on_.length 1 (zQ r_ x) (ni r_ x),aJ _ _ _ _ _ _ _ _ rfl (fun j hj=>(match j,hj with|0,_=>rfl))⟩]<| .im (.ll 18 r_.on_ (xK r_ x))<| .r<| .en (zM r_ x) [] [(15,0),(16,1),(17,2),(18,3),(19,4),(20,5),(21,6),(14,7)])
  (.r<| .en r_ [] [(15,0),(16,1),(17,2),(18,3),(19,4),(20,5),(21,6),(14,7)]))))))
  (.r<| .it (.a1 (O7 x r_)<| .rg {an:=[(7, .arr 0 (LJ r_ x))]} [0, .t 0 x.index r_.earthed.length, .pf ⟨aK r_.earthed.length 1 (RQ r_ x) (LJ r_ x),aJ _ _ _ _ _ _ _ _ rfl (fun j hj=>(match j,hj with|0,_=>rfl))⟩]<| .im (.ll 20 r_.earthed (OG r_ x))<| .r<| .en (Ti r_ x) [] [(15,0),(16,1),(17,2),(18,3),(19,4),(20,5),(21,6),(14,7)])
  (.r<| .it (.it (.a1 (Gs x r_)<| .rg {an:=[(7, .arr 0 (zP r_ x))]} [0, .t 0 x.index r_.locked.length, .pf ⟨aK r_.locked.length 1 (Lr r_ x) (zP r_ x),aJ _ _ _ _ _ _ _ _ rfl (fun j hj=>(match j,hj with|0,_=>rfl))⟩]<| .im (.ll 16 r_.locked (Gx r_ x))<| .r<| .en (LH r_ x) [] [(15,0),(16,1),(17,2),(18,3),(19,4),(20,5),(21,6),(14,7)])
  (.r<| .it (.it (.a1 (xY x r_)<| .rg {an:=[(7, .arr 0 (ni r_ x))]} [0, .t 0 x.index r_.on_.length, .pf ⟨aK r_.on_.length 1 (zQ r_ x) (ni r_ x),aJ _ _ _ _ _ _ _ _ rfl (fun j hj=>(match j,hj with|0,_=>rfl))⟩]<| .im (.ll 18 r_.on_ (xK r_ x))<| .r<| .en (zM r_ x) [] [(15,0),(16,1),(17,2),(18,3),(19,4),(20,5),(21,6),(14,7)])
  (.r<| .en r_ [] [(15,0),(16,1),(17,2),(18,3),(19,4),(20,5),(21,6),(14,7)]))
  (.r<| .it (.a1 (xY x r_)<| .rg {an:=[(7, .arr 0 (ni r_ x))]} [0, .t 0 x.index r_.on_.length, .pf ⟨aK r_.on_.length 1 (zQ r_ x) (ni r_ x),aJ _ _ _ _ _ _ _ _ rfl (fun j hj=>(match j,hj with|0,_=>rfl))⟩]<| .im (.ll 18 r_.on_ (xK r_ x))<| .r<| .en (zM r_ x) [] [(15,0),(16,1),(17,2),(18,3),(19,4),(20,5),(21,6),(14,7)])
  (.r<| .en r_ [] [(15,0),(16,1),(17,2),(18,3),(19,4),(20,5),(21,6),(14,7)]))))
  (.r<| .it (.a1 (Gs x r_)<| .rg {an:=[(7, .arr 0 (zP r_ x))]} [0, .t 0 x.index r_.locked.length, .pf ⟨aK r_.locked.length 1 (Lr r_ x) (zP r_ x),aJ _ _ _ _ _ _ _ _ rfl (fun j hj=>(match j,hj with|0,_=>rfl))⟩]<| .im (.ll 16 r_.locked (Gx r_ x))<| .r<| .en (LH r_ x) [] [(15,0),(16,1),(17,2),(18,3),(19,4),(20,5),(21,6),(14,7)])
  (.r<| .it (.it (.a1 (xY x r_)<| .rg {an:=[(7, .arr 0 (ni r_ x))]} [0, .t 0 x.index r_.on_.length, .pf ⟨aK r_.on_.length 1 (zQ r_ x) (ni r_ x),aJ _ _ _ _ _ _ _ _ rfl (fun j hj=>(match j,hj with|0,_=>rfl))⟩]<| .im (.ll 18 r_.on_ (xK r_ x))<| .r<| .en (zM r_ x) [] [(15,0),(16,1),(17,2),(18,3),(19,4),(20,5),(21,6),(14,7)])
  (.r<| .en r_ [] [(15,0),(16,1),(17,2),(18,3),(19,4),(20,5),(21,6),(14,7)]))
  (.r<| .it (.a1 (xY x r_)<| .rg {an:=[(7, .arr 0 (ni r_ x))]} [0, .t 0 x.index r_.on_.length, .pf ⟨aK r_.on_.length 1 (zQ r_ x) (ni r_ x),aJ _ _ _ _ _ _ _ _ rfl (fun j hj=>(match j,hj with|0,_=>rfl))⟩]<| .im (.ll 18 r_.on_ (xK r_ x))<| .r<| .en (zM r_ x) [] [(15,0),(16,1),(17,2),(18,3),(19,4),(20,5),(21,6),(14,7)])
  (.r<| .en r_ [] [(15,0),(16,1),(17,2),(18,3),(19,4),(20,5),(21,6),(14,7)]))))))))
  (.r<| .it (.a1 (TB x r_)<| .rg {an:=[(7, .arr 0 (Tz r_ x))]} [0, .t 0 x.index r_.closed.length, .pf ⟨aK r_.closed.length 1 (mV (ay ah r_.closed) x.index.toNat 0 [(.bool (decide (x.deed=2)))]) (Tz r_ x),aJ _ _ _ _ _ _ _ _ rfl (fun j hj=>(match j,hj with|0,_=>rfl))⟩]<| .im (.ll 15 r_.closed (RY r_ x))<| .r<| .en (W9 r_ x) [] [(15,0),(16,1),(17,2),(18,3),(19,4),(20,5),(21,6),(14,7)])
  (.r<| .it (.it (.a1 (O7 x r_)<| .rg {an:=[(7, .arr 0 (LJ r_ x))]} [0, .t 0 x.index r_.earthed.length, .pf ⟨aK r_.earthed.length 1 (RQ r_ x) (LJ r_ x),aJ _ _ _ _ _ _ _ _ rfl (fun j hj=>(match j,hj with|0,_=>rfl))⟩]<| .im (.ll 20 r_.earthed (OG r_ x))<| .r<| .en (Ti r_ x) [] [(15,0),(16,1),(17,2),(18,3),(19,4),(20,5),(21,6),(14,7)])
  (.r<| .it (.it (.a1 (Gs x r_)<| .rg {an:=[(7, .arr 0 (zP r_ x))]} [0, .t 0 x.index r_.locked.length, .pf ⟨aK r_.locked.length 1 (Lr r_ x) (zP r_ x),aJ _ _ _ _ _ _ _ _ rfl (fun j hj=>(match j,hj with|0,_=>rfl))⟩]<| .im (.ll 16 r_.locked (Gx r_ x))<| .r<| .en (LH r_ x) [] [(15,0),(16,1),(17,2),(18,3),(19,4),(20,5),(21,6),(14,7)])
  (.r<| .it (.it (.a1 (xY x r_)<| .rg {an:=[(7, .arr 0 (ni r_ x))]} [0, .t 0 x.index r_.on_.length, .pf ⟨aK r_.on_.length 1 (zQ r_ x) (ni r_ x),aJ _ _ _ _ _ _ _ _ rfl (fun j hj=>(match j,hj with|0,_=>rfl))⟩]<| .im (.ll 18 r_.on_ (xK r_ x))<| .r<| .en (zM r_ x) [] [(15,0),(16,1),(17,2),(18,3),(19,4),(20,5),(21,6),(14,7)])
  (.r<| .en r_ [] [(15,0),(16,1),(17,2),(18,3),(19,4),(20,5),(21,6),(14,7)]))
  (.r<| .it (.a1 (xY x r_)<| .rg {an:=[(7, .arr 0 (ni r_ x))]} [0, .t 0 x.index r_.on_.length, .pf ⟨aK r_.on_.length 1 (zQ r_ x) (ni r_ x),aJ _ _ _ _ _ _ _ _ rfl (fun j hj=>(match j,hj with|0,_=>rfl))⟩]<| .im (.ll 18 r_.on_ (xK r_ x))<| .r<| .en (zM r_ x) [] [(15,0),(16,1),(17,2),(18,3),(19,4),(20,5),(21,6),(14,7)])
  (.r<| .en r_ [] [(15,0),(16,1),(17,2),(18,3),(19,4),(20,5),(21,6),(14,7)]))))
  (.r<| .it (.a1 (Gs x r_)<| .rg {an:=[(7, .arr 0 (zP r_ x))]} [0, .t 0 x.index r_.locked.length, .pf ⟨aK r_.locked.length 1 (Lr r_ x) (zP r_ x),aJ _ _ _ _ _ _ _ _ rfl (fun j hj=>(match j,hj with|0,_=>rfl))⟩]<| .im (.ll 16 r_.locked (Gx r_ x))<| .r<| .en (LH r_ x) [] [(15,0),(16,1),(17,2),(18,3),(19,4),(20,5),(21,6),(14,7)])
  (.r<| .it (.it (.a1 (xY x r_)<| .rg {an:=[(7, .arr 0 (ni r_ x))]} [0, .t 0 x.index r_.on_.length, .pf ⟨aK r_.on_.length 1 (zQ r_ x) (ni r_ x),aJ _ _ _ _ _ _ _ _ rfl (fun j hj=>(match j,hj with|0,_=>rfl))⟩]<| .im (.ll 18 r_.on_ (xK r_ x))<| .r<| .en (zM r_ x) [] [(15,0),(16,1),(17,2),(18,3),(19,4),(20,5),(21,6),(14,7)])
  (.r<| .en r_ [] [(15,0),(16,1),(17,2),(18,3),(19,4),(20,5),(21,6),(14,7)]))
  (.r<| .it (.a1 (xY x r_)<| .rg {an:=[(7, .arr 0 (ni r_ x))]} [0, .t 0 x.index r_.on_.length, .pf ⟨aK r_.on_.length 1 (zQ r_ x) (ni r_ x),aJ _ _ _ _ _ _ _ _ rfl (fun j hj=>(match j,hj with|0,_=>rfl))⟩]<| .im (.ll 18 r_.on_ (xK r_ x))<| .r<| .en (zM r_ x) [] [(15,0),(16,1),(17,2),(18,3),(19,4),(20,5),(21,6),(14,7)])
  (.r<| .en r_ [] [(15,0),(16,1),(17,2),(18,3),(19,4),(20,5),(21,6),(14,7)]))))))
  (.r<| .it (.a1 (O7 x r_)<| .rg {an:=[(7, .arr 0 (LJ r_ x))]} [0, .t 0 x.index r_.earthed.length, .pf ⟨aK r_.earthed.length 1 (RQ r_ x) (LJ r_ x),aJ _ _ _ _ _ _ _ _ rfl (fun j hj=>(match j,hj with|0,_=>rfl))⟩]<| .im (.ll 20 r_.earthed (OG r_ x))<| .r<| .en (Ti r_ x) [] [(15,0),(16,1),(17,2),(18,3),(19,4),(20,5),(21,6),(14,7)])
  (.r<| .it (.it (.a1 (Gs x r_)<| .rg {an:=[(7, .arr 0 (zP r_ x))]} [0, .t 0 x.index r_.locked.length, .pf ⟨aK r_.locked.length 1 (Lr r_ x) (zP r_ x),aJ _ _ _ _ _ _ _ _ rfl (fun j hj=>(match j,hj with|0,_=>rfl))⟩]<| .im (.ll 16 r_.locked (Gx r_ x))<| .r<| .en (LH r_ x) [] [(15,0),(16,1),(17,2),(18,3),(19,4),(20,5),(21,6),(14,7)])
  (.r<| .it (.it (.a1 (xY x r_)<| .rg {an:=[(7, .arr 0 (ni r_ x))]} [0, .t 0 x.index r_.on_.length, .pf ⟨aK r_.on_.length 1 (zQ r_ x) (ni r_ x),aJ _ _ _ _ _ _ _ _ rfl (fun j hj=>(match j,hj with|0,_=>rfl))⟩]<| .im (.ll 18 r_.on_ (xK r_ x))<| .r<| .en (zM r_ x) [] [(15,0),(16,1),(17,2),(18,3),(19,4),(20,5),(21,6),(14,7)])
  (.r<| .en r_ [] [(15,0),(16,1),(17,2),(18,3),(19,4),(20,5),(21,6),(14,7)]))
  (.r<| .it (.a1 (xY x r_)<| .rg {an:=[(7, .arr 0 (ni r_ x))]} [0, .t 0 x.index r_.on_.length, .pf ⟨aK r_.on_.length 1 (zQ r_ x) (ni r_ x),aJ _ _ _ _ _ _ _ _ rfl (fun j hj=>(match j,hj with|0,_=>rfl))⟩]<| .im (.ll 18 r_.on_ (xK r_ x))<| .r<| .en (zM r_ x) [] [(15,0),(16,1),(17,2),(18,3),(19,4),(20,5),(21,6),(14,7)])
  (.r<| .en r_ [] [(15,0),(16,1),(17,2),(18,3),(19,4),(20,5),(21,6),(14,7)]))))
  (.r<| .it (.a1 (Gs x r_)<| .rg {an:=[(7, .arr 0 (zP r_ x))]} [0, .t 0 x.index r_.locked.length, .pf ⟨aK r_.locked.length 1 (Lr r_ x) (zP r_ x),aJ _ _ _ _ _ _ _ _ rfl (fun j hj=>(match j,hj with|0,_=>rfl))⟩]<| .im (.ll 16 r_.locked (Gx r_ x))<| .r<| .en (LH r_ x) [] [(15,0),(16,1),(17,2),(18,3),(19,4),(20,5),(21,6),(14,7)])
  (.r<| .it (.it (.a1 (xY x r_)<| .rg {an:=[(7, .arr 0 (ni r_ x))]} [0, .t 0 x.index r_.on_.length, .pf ⟨aK r_.on_.length 1 (zQ r_ x) (ni r_ x),aJ _ _ _ _ _ _ _ _ rfl (fun j hj=>(match j,hj with|0,_=>rfl))⟩]<| .im (.ll 18 r_.on_ (xK r_ x))<| .r<| .en (zM r_ x) [] [(15,0),(16,1),(17,2),(18,3),(19,4),(20,5),(21,6),(14,7)])
  (.r<| .en r_ [] [(15,0),(16,1),(17,2),(18,3),(19,4),(20,5),(21,6),(14,7)]))
  (.r<| .it (.a1 (xY x r_)<| .rg {an:=[(7, .arr 0 (ni r_ x))]} [0, .t 0 x.index r_.on_.length, .pf ⟨aK r_.on_.length 1 (zQ r_ x) (ni r_ x),aJ _ _ _ _ _ _ _ _ rfl (fun j hj=>(match j,hj with|0,_=>rfl))⟩]<| .im (.ll 18 r_.on_ (xK r_ x))<| .r<| .en (zM r_ x) [] [(15,0),(16,1),(17,2),(18,3),(19,4),(20,5),(21,6),(14,7)])
  (.r<| .en r_ [] [(15,0),(16,1),(17,2),(18,3),(19,4),(20,5),(21,6),(14,7)])))))))))
theorem sJ (s_:State) (l:(List af)):dG Tryz.prog 59 (XP s_ l) [] (fun r=>(vB r)) (fun _=>[]) (oh s_ l):=
  dR tT mX Tryz.func59 (
  .rg {fr:=[(0,1)],fz:=[1]} []<| .r<| .lp (σ:=Int) (β:=Unit) (0) [] [] ⟨[1,2],[],fun i=>[(5,(vI i))],fun i=>[]⟩ ⟨[],[],fun _=>[],fun _=>[]⟩
  (fun i=> .r<| .it (.cl 5 (vY s_ (at' l i.toNat)) fun r_=> .a1 (TQ l i)<| .rg {} [0,1]<| .it (.r<| .e (.done (.ret false)))
  (.r<| .e (.next (k18 i))))
  (.e (.done (.brk ()))))
  (fun _=> .r<| .e true))
section
variable (a:State) (b:State) (r_:Bool) (u0:Bool) (u1:Bool) (u2:Bool) (u3:Bool) (u4:Bool)
abbrev aaP:List SV:=[(.agg (zG a)),(.agg (zG b))]
abbrev Xw:=(bif (k14 r_ u0 u1 u2 u3)then u4 else false)
end
theorem tu (a:State) (b:State):dG Tryz.prog 27 (aaP a b) [] (fun r=>(vB r)) (fun _=>[]) (gG a b):=
  dR tT mX Tryz.func27 (
  .rg {fr:=[(0,2),(1,3)],fz:=[2,3]} []<| .cl 4 (dF a.closed b.closed) fun r_=> .cg 10 [(r_,true)] (dF a.locked b.locked) fun u0=> .cg 17 [(k11 r_ u0)] (dF a.badLink b.badLink) fun u1=> .cg 24 [(k12 r_ u0 u1)] (dF a.on_ b.on_) fun u2=> .cg 31 [((k13 r_ u0 u1 u2),true)] (dF a.badSource b.badSource) fun u3=> .cg 38 [((k14 r_ u0 u1 u2 u3),true)] (dF a.earthed b.earthed) fun u4=> .cg 45 [((Xw r_ u0 u1 u2 u3 u4),true)] (dF a.badBus b.badBus) fun u5=> .r<| .e (bif (Xw r_ u0 u1 u2 u3 u4)then u5 else false))
theorem pV (l:(List State)) (s_:State):dG Tryz.prog 60 [(sD (aS none 7 State.cell l)),(.agg (zG s_))] [] (fun r=>(vI r)) (fun _=>[]) (kM l s_):=
  dR tT mX Tryz.func60 (
  .rg {fr:=[(0,1)],fz:=[1]} []<| .r<| .lp (σ:=Int) (β:=Unit) (0) [] [] ⟨[0,3],[],fun i=>[(5,(vI i))],fun i=>[]⟩ ⟨[],[],fun _=>[],fun _=>[]⟩
  (fun i=> .r<| .it (.cl 5 (tu (at' l i.toNat) s_) fun r_=> .a1 (J4 l i)<| .rg {} [0,1]<| .it (.r<| .e (.done (.ret i)))
  (.r<| .e (.next (k18 i))))
  (.e (.done (.brk ()))))
  (fun _=> .r<| .e (-1)))
section
variable (x:af)
abbrev VI:=((SG x),true)
end
theorem vW (p:au) (s_:State) (x:af):dG Tryz.prog 26 (IK p s_ x) [] (fun r=>(.iG [(.agg [(.own 0 false r.1.closed.length),(.own 1 false r.1.locked.length),(.own 2 false r.1.badLink.length),(.own 3 false r.1.on_.length),(.own 4 false r.1.badSource.length),(.own 5 false r.1.earthed.length),(.own 6 false r.1.badBus.length)]),(sI r.2)])) (fun r=>[(0,some (bC 4 1 ah r.1.closed)),(1,some (bC 4 1 ah r.1.locked)),(2,some (bC 4 1 ah r.1.badLink)),(3,some (bC 4 1 ah r.1.on_)),(4,some (bC 4 1 ah r.1.badSource)),(5,some (bC 4 1 ah r.1.earthed)),(6,some (bC 4 1 ah r.1.badBus)),(7,none)]) (je p s_ x):=
  dR tT mX Tryz.func26 (
  .rg {fr:=[(0,12),(1,13),(2,14),(3,15)],fz:=[12,13,14]} []<| .cl 2 (iC p s_) fun r_=> .r<| .r<| .it (.r<| .im (.iK 15 0 16 4 1 (ay ah ([]:List Bool)))<| .im (.iK 15 1 17 4 1 (ay ah ([]:List Bool)))<| .im (.iK 15 2 18 4 1 (ay ah ([]:List Bool)))<| .im (.iK 15 3 19 4 1 (ay ah ([]:List Bool)))<| .im (.iK 15 4 20 4 1 (ay ah ([]:List Bool)))<| .im (.iK 15 5 21 4 1 (ay ah ([]:List Bool)))<| .im (.iK 15 6 22 4 1 (ay ah ([]:List Bool)))<| .en (SB r_) [] [(16,0),(17,1),(18,2),(19,3),(20,4),(21,5),(22,6),(15,7)])
  (.r<| .jN (β:=Int) 2 ⟨[4,5,6],[15],fun e_=>[(8,(vI e_))],fun e_=>[]⟩ (.cl 2 (uH p x) fun u1=> .r<| .it (.r<| .e 1)
  (.cl 2 (vY s_ x) fun u2=> .r<| .it (.r<| .e 46)
  (.a2 ((gB [(VI x)]=true→(0:Int)≤x.index∧x.index<(s_.badLink.length:Int))) ((gB [((decide (7≤x.deed)),true),((bif (SG x)then(at' s_.badLink x.index.toNat)else false),false)]=true→(0:Int)≤x.index∧x.index<(s_.badSource.length:Int)))<| .rg {} [0,1]<| .it (.r<| .e 47)
  (.a1 ((gB [(VI x)]=true→(0:Int)≤x.index∧x.index<(s_.locked.length:Int)))<| .r<| .it (.r<| .e 43)
  (.cg 16 [((bif (SG x)then(decide (((at' p.links x.index.toNat).kind)=2))else false),true)] (EY p s_ x.index) fun u3=> .a1 ((gB [(VI x)]=true→(0:Int)≤x.index∧x.index<(p.links.length:Int)))<| .rg {} [0,1]<| .it (.r<| .e 44)
  (.e r_))))))
  (fun e_=> .r<| .it (.r<| .im (.iK 15 0 23 4 1 (ay ah ([]:List Bool)))<| .im (.iK 15 1 24 4 1 (ay ah ([]:List Bool)))<| .im (.iK 15 2 25 4 1 (ay ah ([]:List Bool)))<| .im (.iK 15 3 26 4 1 (ay ah ([]:List Bool)))<| .im (.iK 15 4 27 4 1 (ay ah ([]:List Bool)))<| .im (.iK 15 5 28 4 1 (ay ah ([]:List Bool)))<| .im (.iK 15 6 29 4 1 (ay ah ([]:List Bool)))<| .en (SB e_) [] [(23,0),(24,1),(25,2),(26,3),(27,4),(28,5),(29,6),(15,7)])
  (.cl 2 (dL [(0,30),(1,31),(2,32),(3,33),(4,34),(5,35),(6,36),(7,37)] (zT s_ x)) fun u0=> .r<| .en (u0,0) [] [(30,0),(31,1),(32,2),(33,3),(34,4),(35,5),(36,6),(15,7)]))))
section
variable (s_:State) (l:(List State)) (u3:(List (List af))) (u1:(List af)) (t:Task) (kz:Int)
abbrev aah:=(rq 7 [(aS none 1 ah s_.closed),(UW s_),(U3 s_),(UR s_),(U2 s_),(U0 s_),(Uz s_)])
abbrev Vk:List (Nat × Option Ob):=[(264,some (bC 29 7 State.cell l)),(265,some (bC 31 1 (NI 2 af.cell) u3))]
abbrev xQ:=(u1++[(uU t kz)])
abbrev Vp:=(ay (NI 2 af.cell) [(xQ u1 t kz)])
end
theorem DU (p:au) (s_:State) (t:Task) (u5:Int):dG Tryz.prog 15 (TY p s_ t u5) [] (fun r=>(.iG [(sD (aS none 2 af.cell r.1)),(sD (aS none 7 State.cell r.2.1)),(sI r.2.2)])) (fun _=>[]) (mr p s_ t u5):=
  dR tT mX Tryz.func15 (
  .rg {fr:=[(0,261),(1,262),(2,263)],fz:=[261,263]} []<| .cl 3 (jK p s_ t) fun r_=> .r<| .r<| .it (.r<| .e (([]:List af),([]:List State),r_))
  (.r<| .it (.r<| .e (([]:List af),([]:List State),1))
  (.rg {an:=[(1, .arr [s_].length (ay State.cell [s_]))],fr:=[(1,264)],fz:=[262]} [.pf ⟨[s_].length=1,rfl⟩, .pf ⟨aK 1 7 (aah s_) (ay State.cell [s_]),(by intro i hi j hj;match i,j,hi,hj with|0,0,_,_=>rfl|0,1,_,_=>rfl|0,2,_,_=>rfl|0,3,_,_=>rfl|0,4,_,_=>rfl|0,5,_,_=>rfl|0,6,_,_=>rfl)⟩]<| .rg {an:=[(0, .arr [([]:List af)].length (rq 1 [nS]))],fr:=[(0,265)]} [.pf ⟨[([]:List af)].length=1,rfl⟩, .pf ⟨aK 1 1 (rq 1 [nS]) (rq 1 [nS]),pX _ _ _⟩]<| .im (.uh 265 (some (.arr 31 1 [([]:List af)].length (rq 1 [nS]))) (some (.arr 31 1 [([]:List af)].length (ay (NI 2 af.cell) [([]:List af)]))) (rD (by intro i hi j hj;match i,j,hi,hj with|0,0,_,_=>exact kD.nil')))<| .cl 3 (sJ s_ t.goal) fun u8=> .r<| .it (.r<| .e (([]:List af),([]:List State),0))
  (.r<| .lp (σ:=((List State) × (List (List af)) × Int)) (β:=(List State)) ([s_],[([]:List af)],0) [] [] ⟨[3,4,6],[],fun(l,u3,i)=>[(12,(vO 264 false l.length)),(13,(vO 265 false u3.length)),(14,(vI i))],fun(l,u3,i)=>(Vk l u3)⟩ ⟨[],[],fun l1=>[(12,(vO 264 false l1.length))],fun l1=>[(264,some (Bc l1))]⟩
  (fun(l,u3,i)=> .r<| .it (.r<| .lp (σ:=((List State) × (List (List af)) × Int)) (β:=((List State) × (List (List af)))) (l,u3,0) [] [] ⟨[3,4,6,14],[],fun(l2,u2,kz)=>[(12,(vO 264 false l2.length)),(13,(vO 265 false u2.length)),(15,(vI kz))],fun(l2,u2,kz)=>(Vk l2 u2)⟩ ⟨[3,4,6,14],[],fun(l3,u4)=>[(12,(vO 264 false l3.length)),(13,(vO 265 false u4.length))],fun(l3,u4)=>(Vk l3 u4)⟩
  (fun(l2,u2,kz)=> .r<| .it (.cl 10 (dL [(0,506),(1,507),(2,508),(3,509),(4,510),(5,511),(6,512),(7,513)] (vW p (at' l2 i.toNat) (uU t kz))) fun u0=> .a2 (J4 l2 i) (Oo t kz)<| .rg {fr:=[(14,514)],fz:=[506,507,508,509,510,511,512]} [0, .t 0 i l2.length,1,2]<| .fz [514]<| .cg 6 [((!decide (u0.2=0)),false)] (jK p u0.1 t) fun u7=> .cgr 12 [((bif (!decide (u0.2=0))then true else(!decide (u7=0))),false)] ⟨fun{u6} hr_4=>((Fn.MZ (frz:=[264]) (p:=[l2.length=l2.length]) (pV l2 u0.1 hr_4) (by kernel_rfl) ⟨rfl,trivial⟩ rfl):Fn Tryz.prog 60 [(.one (.own 264 false l2.length)),(.agg [(.d (aS none 1 ah u0.1.closed)),(.d (aS none 1 ah u0.1.locked)),(.d (aS none 1 ah u0.1.badLink)),(.d (aS none 1 ah u0.1.on_)),(.d (aS none 1 ah u0.1.badSource)),(.d (aS none 1 ah u0.1.earthed)),(.d (aS none 1 ah u0.1.badBus))])] [(264,some (Bc l2))] (vI u6) [(264,some (Bc l2))])⟩ fun u6=> .r<| .it (.r<| .e (.next (l2,u2,(k18 kz))))
  (.a2 ((l2.length+[u0.1].length)*168≤140737488355328) (l2.length+[u0.1].length≤4611686018427387904)<| .rg {an:=[(2, .arr [u0.1].length (ay State.cell [u0.1])),(3, .arr (l2++[u0.1]).length (ay State.cell (l2++[u0.1])))],fr:=[(2,515),(3,516)]} [.pf ⟨[u0.1].length=1,rfl⟩, .pf ⟨aK 1 7 (rq 7 [(aS none 1 ah u0.1.closed),(aS none 1 ah u0.1.locked),(aS none 1 ah u0.1.badLink),(aS none 1 ah u0.1.on_),(aS none 1 ah u0.1.badSource),(aS none 1 ah u0.1.earthed),(aS none 1 ah u0.1.badBus)]) (ay State.cell [u0.1]),(by intro i hi j hj;match i,j,hi,hj with|0,0,_,_=>rfl|0,1,_,_=>rfl|0,2,_,_=>rfl|0,3,_,_=>rfl|0,4,_,_=>rfl|0,5,_,_=>rfl|0,6,_,_=>rfl)⟩, .e (l2.length),0,1, .pf ⟨(l2++[u0.1]).length=l2.length+[u0.1].length,List.length_append⟩, .pf ⟨aK (l2.length+[u0.1].length) 7 (wK (ay State.cell l2) l2.length (ay State.cell [u0.1])) (ay State.cell (l2++[u0.1])),gu _ _ _ _⟩]<| .cl 4 (dL [(0,517)] (kT (at' u2 i.toNat))) fun u1=> .a4 ((0:Int)≤i∧i<(u2.length:Int)) (Oo t kz) ((u1.length+[(uU t kz)].length)*16≤140737488355328) (u1.length+[(uU t kz)].length≤4611686018427387904)<| .rg {an:=[(10, .arr [(uU t kz)].length (ay af.cell [(uU t kz)])),(11, .arr (xQ u1 t kz).length (ay af.cell (xQ u1 t kz)))],fr:=[(10,518),(11,519)],fz:=[519]} [0, .t 0 i u2.length,4,1, .pf ⟨[(uU t kz)].length=1,rfl⟩, .pf ⟨aK 1 2 (rq 2 [(.int .i64 ((uU t kz).deed)),(.int .i64 ((uU t kz).index))]) (ay af.cell [(uU t kz)]),(by intro i hi j hj;match i,j,hi,hj with|0,0,_,_=>rfl|0,1,_,_=>rfl)⟩, .e (u1.length),2,3, .pf ⟨(xQ u1 t kz).length=u1.length+[(uU t kz)].length,List.length_append⟩, .pf ⟨aK (u1.length+[(uU t kz)].length) 2 (wK (ay af.cell u1) u1.length (ay af.cell [(uU t kz)])) (ay af.cell (xQ u1 t kz)),gu _ _ _ _⟩]<| .a2 ((u2.length+[(xQ u1 t kz)].length)*24≤140737488355328) (u2.length+[(xQ u1 t kz)].length≤4611686018427387904)<| .rg {an:=[(2, .arr [(xQ u1 t kz)].length (Vp u1 t kz)),(3, .arr (u2++[(xQ u1 t kz)]).length (ay (NI 2 af.cell) (u2++[(xQ u1 t kz)])))],fr:=[(2,520),(3,521)]} [.pf ⟨[(xQ u1 t kz)].length=1,rfl⟩, .pf ⟨aK 1 1 (rq 1 [(aS none 2 af.cell (xQ u1 t kz))]) (Vp u1 t kz),(by intro i hi j hj;match i,j,hi,hj with|0,0,_,_=>rfl)⟩, .e (u2.length),0,1, .pf ⟨(u2++[(xQ u1 t kz)]).length=u2.length+[(xQ u1 t kz)].length,List.length_append⟩, .pf ⟨aK (u2.length+[(xQ u1 t kz)].length) 1 (wK (ay (NI 2 af.cell) u2) u2.length (Vp u1 t kz)) (ay (NI 2 af.cell) (u2++[(xQ u1 t kz)])),gu _ _ _ _⟩]<| .r<| .it (.r<| .e (.done (.ret (.done (.ret (([]:List af),([]:List State),8))))))
  (.cl 3 (sJ u0.1 t.goal) fun u9=> .r<| .it (.r<| .e (.done (.ret (.done (.ret ((xQ u1 t kz),([]:List State),0))))))
  (.r<| .en (.next ((l2++[u0.1]),(u2++[(xQ u1 t kz)]),(k18 kz))) [] [(516,264),(521,265)]))))
  (.e (.done (.brk (l2,u2)))))
  (fun(l3,u4)=> .r<| .e (.next (l3,u4,(k18 i)))))
  (.e (.done (.brk l))))
  (fun l1=> .rg {fz:=[264]} []<| .e (([]:List af),l1,4))))))
theorem zV (a:(List State)) (b:(List State)):dG Tryz.prog 17 [(sD (aS none 7 State.cell a)),(sD (aS none 7 State.cell b))] [] (fun r=>(vB r)) (fun _=>[]) (mq a b):=
  dR tT mX Tryz.func17 (
  .r<| .r<| .it (.r<| .e false)
  (.r<| .lp (σ:=Int) (β:=Unit) (0) [] [] ⟨[0,1],[],fun i=>[(5,(vI i))],fun i=>[]⟩ ⟨[],[],fun _=>[],fun _=>[]⟩
  (fun i=> .r<| .it (.cl 8 (tu (at' a i.toNat) (at' b i.toNat)) fun r_=> .a2 (J4 a i) (J4 b i)<| .rg {} [0,1,2]<| .it (.r<| .e (.done (.ret false)))
  (.r<| .e (.next (k18 i))))
  (.e (.done (.brk ()))))
  (fun _=> .r<| .e true)))
theorem Cj (p:au) (s_:State) (t:Task) (l:(List State)):dG Tryz.prog 19 (Y7 p s_ t l) [] (fun r=>(vI r)) (fun _=>[]) (lV p s_ t l):=
  dR tT mX Tryz.func19 (
  .rg {fr:=[(0,147),(1,148),(2,149)],fz:=[147,148,149]} []<| .cl 3 (jK p s_ t) fun r_=> .r<| .r<| .it (.r<| .e r_)
  (.r<| .it (.r<| .e 2)
  (.r<| .lp (σ:=Int) (β:=Unit) (0) [] [] ⟨[3,4,5,6],[],fun i=>[(10,(vI i))],fun i=>[]⟩ ⟨[3,4,5,6],[],fun _=>[],fun _=>[]⟩
  (fun i=> .r<| .it (.cl 6 (jK p (at' l i.toNat) t) fun u1=> .cg 15 [((!decide (u1=0)),false)] (sJ (at' l i.toNat) t.goal) fun u3=> .a2 (J4 l i) ((gB [((!decide (u1=0)),false)]=true→(0:Int)≤i∧i<(l.length:Int)))<| .rg {} [0,3,1,2]<| .it (.r<| .e (.done (.ret 7)))
  (.r<| .e (.next (k18 i))))
  (.e (.done (.brk ()))))
  (fun _=> .cl 2 (pV l s_) fun u4=> .r<| .it (.r<| .e 7)
  (.r<| .lp (σ:=Int) (β:=Unit) (0) [] [] ⟨[3,4,6],[],fun i1=>[(11,(vI i1))],fun i1=>[]⟩ ⟨[],[],fun _=>[],fun _=>[]⟩
  (fun i1=> .r<| .it (.r<| .lp (σ:=Int) (β:=Unit) (0) [] [] ⟨[3,4,6,11],[],fun kz=>[(12,(vI kz))],fun kz=>[]⟩ ⟨[3,4,6,11],[],fun _=>[],fun _=>[]⟩
  (fun kz=> .r<| .it (.cl 10 (dL [(0,285),(1,286),(2,287),(3,288),(4,289),(5,290),(6,291),(7,292)] (vW p (at' l i1.toNat) (uU t kz))) fun u0=> .a2 (J4 l i1) (Oo t kz)<| .rg {fr:=[(14,293)],fz:=[285,286,287,288,289,290,291]} [0,1,2]<| .fz [293]<| .cg 6 [((decide (u0.2=0)),true)] (jK p u0.1 t) fun u2=> .cg 12 [((bif (decide (u0.2=0))then(decide (u2=0))else false),true)] (pV l u0.1) fun u5=> .r<| .it (.r<| .e (.done (.ret (.done (.ret 7)))))
  (.r<| .e (.next (k18 kz))))
  (.e (.done (.brk ()))))
  (fun _=> .r<| .e (.next (k18 i1))))
  (.e (.done (.brk ()))))
  (fun _=> .r<| .e 0))))))
theorem xV (p:au) (s_:State) (t:Task) (u2:Int):dG Tryz.prog 3 (TY p s_ t u2) [] (fun r=>(vB r)) (fun _=>[]) (j6 p s_ t u2):=
  dR tT mX Tryz.func3 (
  .rg {fr:=[(0,3),(1,4),(2,5)],fz:=[3,4,5]} []<| .cl 2 (F8 p t) fun r_=> .r<| .it (.cl 0 vH fun u5=> .r<| .e u5)
  (.cl 3 (yx t) fun u6=> .cl 5 (xJ p s_ u6 u2) fun u0=> .r<| .cl 4 (DU p s_ t u2) fun u1=> .r<| .cg 6 [((!decide (u0.2.2=u1.2.2)),false)] (r9 u0.1 u1.1) fun u7=> .cg 12 [((bif (!decide (u0.2.2=u1.2.2))then true else(!u7)),false)] (zV u0.2.1 u1.2.1) fun v0=> .r<| .it (.r<| .e false)
  (.cl 3 (yx t) fun u8=> .cl 5 (uq p s_ u8 u0.2.1) fun u3=> .cl 10 (Cj p s_ t u1.2.1) fun u4=> .cg 13 [((decide (u3=u4)),true)] vH fun u9=> .r<| .e (bif (decide (u3=u4))then u9 else false))))
section
variable (n2:Int) (kz:Int)
end
section
variable (s_:State) (p:au)
end
section
variable (u0:State) (t9:Int) (u1:(List Link))
end
end
end Sg
