import Derived.Test.YtklofnlffikpgaaGreatCoW2
set_option linter.all false
namespace Sg
open Go Go.Proofs
set_option maxRecDepth 20000
noncomputable section
section
variable (u0:List Part)
abbrev QY:List (Nat × Option Ob):=[(28,some (aW 84 2 Part.cell u0))]
end
theorem Ai (p:ah):dN Tryz.prog 134 (k0 p) [] (fun r=>(.fF [.one (.own 0 false r.1.length),sI r.2])) (fun r=>[(0,some (aW 84 2 Part.cell r.1))]) (og p):=
  eF tT mX Tryz.func134 (
  .rg {fr:=[(0,25)],fz:=[25]} []<| .cl 1 (qL p) fun r_=> .r<| .r<| .it (.r<| .im (.ad 2 26 84 2 (aj Part.cell ([]:List Part)))<| .en (([]:List Part),r_) [] [(26,0)])
  (.r<| .r<| .im (.ad 5 35 84 2 (aj Part.cell ([]:List Part)))<| .lp (σ:=((List Part) × Int)) (β:=(List Part)) (([]:List Part),0) [] [(35,28)] ⟨[1],[],fun(u0,i)=>[(5,vO 28 false u0.length),(6,vI i)],fun(u0,i)=>(QY u0)⟩ ⟨[1],[],fun u3=>[(5,vO 28 false u3.length)],fun u3=>(QY u3)⟩
  (fun(u0,i)=> .r<| .it (.a2 ((u0.length+[(⟨1,i⟩:Part)].length)*16<=140737488355328) (u0.length+[(⟨1,i⟩:Part)].length<=4611686018427387904)<| .rg {an:=[(3, .arr [(⟨1,i⟩:Part)].length (aj Part.cell [(⟨1,i⟩:Part)])),(4, .arr (u0++[(⟨1,i⟩:Part)]).length (aj Part.cell (u0++[(⟨1,i⟩:Part)])))],fr:=[(3,33),(4,34)]} [.pf ⟨[(⟨1,i⟩:Part)].length=1,rfl⟩, .pf ⟨aF 1 2 (lS 2 [.int .i64 1,.int .i64 i]) (aj Part.cell [(⟨1,i⟩:Part)]),(by intro i hi j hj;match i,j,hi,hj with|0,0,_,_=>rfl|0,1,_,_=>rfl)⟩, .e (u0.length),0,1, .pf ⟨(u0++[(⟨1,i⟩:Part)]).length=u0.length+[(⟨1,i⟩:Part)].length,cd⟩, .pf ⟨aF (u0.length+[(⟨1,i⟩:Part)].length) 2 (nY (aj Part.cell u0) u0.length (aj Part.cell [(⟨1,i⟩:Part)])) (aj Part.cell (u0++[(⟨1,i⟩:Part)])),bD _ _ _ _⟩]<| .r<| .en (.next (u0++[(⟨1,i⟩:Part)],k11 i)) [] [(34,28)])
  (.e (.done (.brk u0))))
  (fun u3=> .r<| .lp (σ:=((List Part) × Int)) (β:=(List Part)) (u3,0) [] [] ⟨[1],[],fun(u1,i1)=>[(5,vO 28 false u1.length),(7,vI i1)],fun(u1,i1)=>(QY u1)⟩ ⟨[1],[],fun u4=>[(5,vO 28 false u4.length)],fun u4=>(QY u4)⟩
  (fun(u1,i1)=> .r<| .it (.a2 ((u1.length+[(⟨2,i1⟩:Part)].length)*16<=140737488355328) (u1.length+[(⟨2,i1⟩:Part)].length<=4611686018427387904)<| .rg {an:=[(3, .arr [(⟨2,i1⟩:Part)].length (aj Part.cell [(⟨2,i1⟩:Part)])),(4, .arr (u1++[(⟨2,i1⟩:Part)]).length (aj Part.cell (u1++[(⟨2,i1⟩:Part)])))],fr:=[(3,42),(4,43)]} [.pf ⟨[(⟨2,i1⟩:Part)].length=1,rfl⟩, .pf ⟨aF 1 2 (lS 2 [.int .i64 2,.int .i64 i1]) (aj Part.cell [(⟨2,i1⟩:Part)]),(by intro i hi j hj;match i,j,hi,hj with|0,0,_,_=>rfl|0,1,_,_=>rfl)⟩, .e (u1.length),0,1, .pf ⟨(u1++[(⟨2,i1⟩:Part)]).length=u1.length+[(⟨2,i1⟩:Part)].length,cd⟩, .pf ⟨aF (u1.length+[(⟨2,i1⟩:Part)].length) 2 (nY (aj Part.cell u1) u1.length (aj Part.cell [(⟨2,i1⟩:Part)])) (aj Part.cell (u1++[(⟨2,i1⟩:Part)])),bD _ _ _ _⟩]<| .r<| .en (.next (u1++[(⟨2,i1⟩:Part)],k11 i1)) [] [(43,28)])
  (.e (.done (.brk u1))))
  (fun u4=> .r<| .lp (σ:=((List Part) × Int)) (β:=(List Part)) (u4,0) [] [] ⟨[1],[],fun(u2,i2)=>[(5,vO 28 false u2.length),(8,vI i2)],fun(u2,i2)=>(QY u2)⟩ ⟨[],[],fun u5=>[(5,vO 28 false u5.length)],fun u5=>(QY u5)⟩
  (fun(u2,i2)=> .r<| .it (.a2 ((u2.length+[(⟨3,i2⟩:Part)].length)*16<=140737488355328) (u2.length+[(⟨3,i2⟩:Part)].length<=4611686018427387904)<| .rg {an:=[(3, .arr [(⟨3,i2⟩:Part)].length (aj Part.cell [(⟨3,i2⟩:Part)])),(4, .arr (u2++[(⟨3,i2⟩:Part)]).length (aj Part.cell (u2++[(⟨3,i2⟩:Part)])))],fr:=[(3,50),(4,51)]} [.pf ⟨[(⟨3,i2⟩:Part)].length=1,rfl⟩, .pf ⟨aF 1 2 (lS 2 [.int .i64 3,.int .i64 i2]) (aj Part.cell [(⟨3,i2⟩:Part)]),(by intro i hi j hj;match i,j,hi,hj with|0,0,_,_=>rfl|0,1,_,_=>rfl)⟩, .e (u2.length),0,1, .pf ⟨(u2++[(⟨3,i2⟩:Part)]).length=u2.length+[(⟨3,i2⟩:Part)].length,cd⟩, .pf ⟨aF (u2.length+[(⟨3,i2⟩:Part)].length) 2 (nY (aj Part.cell u2) u2.length (aj Part.cell [(⟨3,i2⟩:Part)])) (aj Part.cell (u2++[(⟨3,i2⟩:Part)])),bD _ _ _ _⟩]<| .r<| .en (.next (u2++[(⟨3,i2⟩:Part)],k11 i2)) [] [(51,28)])
  (.e (.done (.brk u2))))
  (fun u5=> .r<| .en (u5,0) [] [(28,0)])))))
section
variable (r_:(List Part) × Int) (i:Int) (s_:State)
abbrev abn:=(bif (decide (((at' r_.1 i.toNat).kind)=1))then(!(at' s_.al (((at' r_.1 i.toNat).index).toNat)))else false)
end
theorem Eh (p:ah) (s_:State):dN Tryz.prog 77 (k22 s_ p) [] (fun r=>(vD (aZ none 2 Part.cell r))) (fun _=>[]) (qU p s_):=
  eF tT mX Tryz.func77 (
  .rg {fr:=[(0,15),(1,16)],fz:=[15,16]} []<| .r<| .cl 1 (mr [(0,17)] (Ai p)) fun r_=> .r<| .r<| .im (.ad 5 30 84 2 (aj Part.cell ([]:List Part)))<| .lp (σ:=((List Part) × Int)) (β:=(List Part)) (([]:List Part),0) [] [(30,20)] ⟨[3,6],[17],fun(u0,i)=>[(5,vO 20 false u0.length),(8,vI i)],fun(u0,i)=>[(20,some (aW 84 2 Part.cell u0))]⟩ ⟨[],[],fun u1=>[(5,vO 20 false u1.length)],fun u1=>[(20,some (aW 84 2 Part.cell u1))]⟩
  (fun(u0,i)=> .r<| .it (.a1 ((0:Int)<=i/\i<(r_.1.length:Int))<| .rg {fr:=[(4,27)],fz:=[27]} [0, .t 0 i r_.1.length]<| .a3 ((gB [(decide (((at' r_.1 i.toNat).kind)=1),true)]=true->(0:Int)<=(at' r_.1 i.toNat).index/\(at' r_.1 i.toNat).index<(s_.al.length:Int))) ((gB [(decide (((at' r_.1 i.toNat).kind)=2),true),(abn r_ i s_,false)]=true->(0:Int)<=(at' r_.1 i.toNat).index/\(at' r_.1 i.toNat).index<(s_.ag.length:Int))) ((gB [(decide (((at' r_.1 i.toNat).kind)=3),true),((bif (abn r_ i s_)then true else(bif (decide (((at' r_.1 i.toNat).kind)=2))then(!(at' s_.ag (((at' r_.1 i.toNat).index).toNat)))else false)),false)]=true->(0:Int)<=(at' r_.1 i.toNat).index/\(at' r_.1 i.toNat).index<(s_.am.length:Int)))<| .rg {} [0,1,2]<| .it (.a2 ((u0.length+[at' r_.1 i.toNat].length)*16<=140737488355328) (u0.length+[at' r_.1 i.toNat].length<=4611686018427387904)<| .rg {an:=[(2, .arr [at' r_.1 i.toNat].length (aj Part.cell [at' r_.1 i.toNat])),(3, .arr (u0++[at' r_.1 i.toNat]).length (aj Part.cell (u0++[at' r_.1 i.toNat])))],fr:=[(2,28),(3,29)]} [.pf ⟨[at' r_.1 i.toNat].length=1,rfl⟩, .pf ⟨aF 1 2 (lS 2 [.int .i64 ((at' r_.1 i.toNat).kind),.int .i64 ((at' r_.1 i.toNat).index)]) (aj Part.cell [at' r_.1 i.toNat]),(by intro i hi j hj;match i,j,hi,hj with|0,0,_,_=>rfl|0,1,_,_=>rfl)⟩, .e (u0.length),0,1, .pf ⟨(u0++[at' r_.1 i.toNat]).length=u0.length+[at' r_.1 i.toNat].length,cd⟩, .pf ⟨aF (u0.length+[at' r_.1 i.toNat].length) 2 (nY (aj Part.cell u0) u0.length (aj Part.cell [at' r_.1 i.toNat])) (aj Part.cell (u0++[at' r_.1 i.toNat])),bD _ _ _ _⟩]<| .r<| .en (.next (u0++[at' r_.1 i.toNat],k11 i)) [] [(29,20)])
  (.r<| .e (.next (u0,k11 i))))
  (.e (.done (.brk u0))))
  (fun u1=> .rg {fz:=[20]} []<| .e u1))
theorem y8 (p:ah) (s_:State) (x:Part) (is:Bool):dN Tryz.prog 59 (ZO x p s_ is) [] (fun r=>(.fF [.agg [.d (aZ none 1 af r.1.aq),.d (aZ none 1 af r.1.aw),.d (aZ none 1 af r.1.am),.d (aZ none 1 af r.1.on_),.d (aZ none 1 af r.1.ag),.d (aZ none 1 af r.1.ar),.d (aZ none 1 af r.1.al)],sI r.2])) (fun _=>[]) (pU p s_ x is):=
  eF tT mX Tryz.func59 (
  .rg {fr:=[(0,7),(1,8),(2,9),(3,10)],fz:=[7,9]} []<| .cl 2 (lW p s_) fun r_=> .r<| .r<| .it (.r<| .en (Ya r_) [10] [])
  (.r<| .it (.r<| .en ((⟨([]:List Bool),([]:List Bool),([]:List Bool),([]:List Bool),([]:List Bool),([]:List Bool),([]:List Bool)⟩:State),14) [10] [])
  (.r<| .it (.cl 5 (mr [(0,11)] (oQ s_.al x.index is)) fun u0=> .r<| .r<| .fz [11]<| .en ((⟨s_.aq,s_.aw,s_.am,s_.on_,s_.ag,s_.ar,u0⟩:State),0) [10] [])
  (.r<| .it (.cl 5 (mr [(0,12)] (oQ s_.ag x.index is)) fun u1=> .r<| .r<| .fz [12]<| .en ((⟨s_.aq,s_.aw,s_.am,s_.on_,u1,s_.ar,s_.al⟩:State),0) [10] [])
  (.r<| .it (.cl 5 (mr [(0,13)] (oQ s_.am x.index is)) fun u2=> .r<| .r<| .fz [13]<| .en ((⟨s_.aq,s_.aw,u2,s_.on_,s_.ag,s_.ar,s_.al⟩:State),0) [10] [])
  (.r<| .en ((⟨([]:List Bool),([]:List Bool),([]:List Bool),([]:List Bool),([]:List Bool),([]:List Bool),([]:List Bool)⟩:State),14) [10] []))))))
theorem Au (p:ah) (s_:State) (u2:Int):dN Tryz.prog 33 (CJ p s_ u2) [] (fun r=>(.fF [sD (aZ none 2 Part.cell r.1),sI r.2])) (fun _=>[]) (iK p s_ u2):=
  eF tT mX Tryz.func33 (
  .rg {fr:=[(0,14),(1,15)],fz:=[14,15]} []<| .cl 3 (mK p s_ u2) fun r_=> .r<| .r<| .it (.r<| .e (([]:List Part),r_))
  (.r<| .cl 2 (Eh p s_) fun u0=> .r<| .r<| .im (.ad 9 28 84 2 (aj Part.cell ([]:List Part)))<| .lp (σ:=((List Part) × Int)) (β:=(List Part)) (([]:List Part),0) [] [(28,18)] ⟨[2,3,4,10],[],fun(u1,i)=>[(9,vO 18 false u1.length),(11,vI i)],fun(u1,i)=>[(18,some (aW 84 2 Part.cell u1))]⟩ ⟨[],[],fun u3=>[(9,vO 18 false u3.length)],fun u3=>[(18,some (aW 84 2 Part.cell u3))]⟩
  (fun(u1,i)=> .cg 8 [(decide (i<(u0.length:Int)),true)] (zm p s_ u2) fun u5=> .r<| .it (.cl 6 (y8 p s_ (at' u0 i.toNat) true) fun u4=> .a1 (zF u0 i)<| .rg {fr:=[(10,25)],fz:=[25]} [0,1]<| .cl 3 (zm p u4.1 u2) fun u6=> .r<| .it (.a3 (zF u0 i) ((u1.length+[at' u0 i.toNat].length)*16<=140737488355328) (u1.length+[at' u0 i.toNat].length<=4611686018427387904)<| .rg {an:=[(5, .arr [at' u0 i.toNat].length (aj Part.cell [at' u0 i.toNat])),(6, .arr (u1++[at' u0 i.toNat]).length (aj Part.cell (u1++[at' u0 i.toNat])))],fr:=[(5,26),(6,27)]} [0, .pf ⟨[at' u0 i.toNat].length=1,rfl⟩, .pf ⟨aF 1 2 (lS 2 [.int .i64 ((at' u0 i.toNat).kind),.int .i64 ((at' u0 i.toNat).index)]) (aj Part.cell [at' u0 i.toNat]),(by intro i hi j hj;match i,j,hi,hj with|0,0,_,_=>rfl|0,1,_,_=>rfl)⟩, .e (u1.length),1,2, .pf ⟨(u1++[at' u0 i.toNat]).length=u1.length+[at' u0 i.toNat].length,cd⟩, .pf ⟨aF (u1.length+[at' u0 i.toNat].length) 2 (nY (aj Part.cell u1) u1.length (aj Part.cell [at' u0 i.toNat])) (aj Part.cell (u1++[at' u0 i.toNat])),bD _ _ _ _⟩]<| .r<| .en (.next (u1++[at' u0 i.toNat],k11 i)) [] [(27,18)])
  (.r<| .e (.next (u1,k11 i))))
  (.e (.done (.brk u1))))
  (fun u3=> .rg {fz:=[18]} []<| .e (u3,0))))
section
variable (n:Int)
abbrev WC:=(IntKind.wrap .i64 (n - (IntKind.wrap .i64 ((0:Int) - (([]:List Part).length:Int)))))
abbrev Y8:=((WC n).toNat)
abbrev RY:=(List.replicate (Y8 n) ((⟨0,0⟩:Part):Part))
abbrev abI:=((RY n).length:Int)
abbrev Yt:=(aj Part.cell (RY n))
abbrev V3:=((RY n).take ((([]:List Part).length:Int).toNat))
abbrev aaf:=(aj Part.cell (V3 n))
end
theorem Ay (n:Int):dN Tryz.prog 136 [sD (aZ (some false) 2 Part.cell ([]:List Part)),sI n] [] (fun r=>(vO 0 false r.length)) (fun r=>[(0,some (aW 84 2 Part.cell r))]) (nu n):=
  eF tT mX Tryz.func136 (
  .r<| .r<| .it (.no)
  (.r<| .r<| .it (.a5 ((0:Int)<=(0:Int)/\(0:Int)<=(([]:List Part).length:Int)) ((0:Int)<(WC n)) ((16:Int)*(WC n)<=140737488355328) (((WC n):Int)<=4611686018427387904) ((0:Int)<=(([]:List Part).length:Int)/\(([]:List Part).length:Int)<=(abI n))<| .rg {an:=[(5, .arr (RY n).length (Yt n)),(8, .arr (V3 n).length (aaf n))],fr:=[(5,2),(8,3)]} [0,1,2,3, .pf ⟨(RY n).length=(Y8 n),dC⟩, .pf ⟨aF (Y8 n) 2 (fun _ j=>[.int .i64 0,.int .i64 0].getD j .nilp) (Yt n),j6 _ _ _ _ _ (fun j hj=>(match j,hj with|0,_=>rfl|1,_=>rfl))⟩, .e ((RY n).length),4, .dv 4 ⟨(0:Int)<=(([]:List Part).length:Int)/\(([]:List Part).length:Int)<=(abI n),(V3 n).length=((([]:List Part).length:Int).toNat),fun ax=>take_len ax⟩, .pf ⟨aF ((([]:List Part).length:Int).toNat) 2 (Yt n) (aaf n),Bv _ _ _ _⟩]<| .r<| .en (V3 n) [] [(3,0)])
  (.r<| .im (.ad 4 4 84 2 (aj Part.cell ([]:List Part)))<| .en ([]:List Part) [] [(4,0)])))
theorem BG (u2:List (List Part)):dN Tryz.prog 81 [sD (aZ none 1 (wC 2 Part.cell) u2)] [] (fun r=>(vD (aZ none 2 Part.cell r))) (fun _=>[]) (oC u2):=
  eF tT mX Tryz.func81 (
  .r<| .r<| .r<| .lp (σ:=(Int × Int)) (β:=Int) (0,0) [] [] ⟨[0,9,10],[],fun(u4,u3)=>[(3,vI u4),(11,vI u3)],fun(u4,u3)=>[]⟩ ⟨[0],[],fun u5=>[(3,vI u5)],fun u5=>[]⟩
  (fun(u4,u3)=> .r<| .it (.a1 (Iu u3 u2)<| .r<| .r<| .r<| .it (.no)
  (.r<| .e (.next (IntKind.wrap .i64 (u4+((at' u2 u3.toNat).length:Int)),k11 u3))))
  (.e (.done (.brk u4))))
  (fun u5=> .cl 1 (leO [sD nS,sI u5] (mr [(0,5)] (Ay u5))) fun r_=> .r<| .r<| .lp (σ:=((List Part) × Int)) (β:=(List Part)) (r_,0) [] [] ⟨[25,26],[],fun(u0,u1)=>[(6,vO 5 false u0.length),(27,vI u1)],fun(u0,u1)=>[(5,some (aW 84 2 Part.cell u0))]⟩ ⟨[],[],fun u6=>[(6,vO 5 false u6.length)],fun u6=>[(5,some (aW 84 2 Part.cell u6))]⟩
  (fun(u0,u1)=> .r<| .it (.a1 (Iu u1 u2)<| .r<| .a2 ((u0.length+(at' u2 u1.toNat).length)*16<=140737488355328) (u0.length+(at' u2 u1.toNat).length<=4611686018427387904)<| .rg {an:=[(2, .arr (u0++(at' u2 u1.toNat)).length (aj Part.cell (u0++(at' u2 u1.toNat))))],fr:=[(2,9)]} [.e (u0.length),0,1, .pf ⟨(u0++(at' u2 u1.toNat)).length=u0.length+(at' u2 u1.toNat).length,cd⟩, .pf ⟨aF (u0.length+(at' u2 u1.toNat).length) 2 (nY (aj Part.cell u0) u0.length (aj Part.cell (at' u2 u1.toNat))) (aj Part.cell (u0++(at' u2 u1.toNat))),bD _ _ _ _⟩]<| .r<| .en (.next (u0++(at' u2 u1.toNat),k11 u1)) [] [(9,5)])
  (.e (.done (.brk u0))))
  (fun u6=> .rg {fz:=[5]} []<| .e u6)))
theorem xN (s_:List Part) (v_:Part):dN Tryz.prog 82 (Yo s_ v_) [] (fun r=>(vB r)) (fun _=>[]) (jU s_ v_):=
  eF tT mX Tryz.func82 (
  .rg {fr:=[(0,1)],fz:=[1]} []<| .cl 2 (qX s_ v_) fun r_=> .r<| .e (decide (0<=r_)))
section
variable (l:List Part) (s_:State) (p:ah) (i:Int) (u1:List Int) (u0:Int)
abbrev ZP:=(bif (decide ((l.length:Int)<2))then true else(!decide ((Int.tmod (l.length:Int) 2)=0)))
abbrev aaU:=(bif (ZP l)then true else(!decide (((at' l 0).kind)=2)))
abbrev aaC:=(bif (!(at' s_.on_ (((at' l 0).index).toNat)))then true else(at' s_.ag (((at' l 0).index).toNat)))
abbrev Ig:=(at' p.aa (((at' l 0).index).toNat))
abbrev abo:=(bif (!(at' s_.aq (((at' l i.toNat).index).toNat)))then true else(at' s_.am (((at' l i.toNat).index).toNat)))
abbrev abB:=(u1.length+[DJ l i u0 p].length)
abbrev YI:=(aj (aH .i64) [DJ l i u0 p])
abbrev Wo:=(u1++[DJ l i u0 p])
abbrev aaM:=(aj (aH .i64) (Wo l p i u1 u0))
end
theorem Ed (p:ah) (s_:State) (u2:Int) (l:List Part):dN Tryz.prog 80 (Uw p s_ u2 l) [] (fun r=>(vB r)) (fun _=>[]) (fE p s_ u2 l):=
  eF tT mX Tryz.func80 (
  .rg {fr:=[(0,19),(1,20)],fz:=[20]} []<| .a4 ((gB [(decide ((l.length:Int)<2),false)]=true->2≠(0:Int))) ((gB [(ZP l,false)]=true->(0:Int)<=0/\0<(l.length:Int))) ((gB [(aaU l,false)]=true->(0:Int)<=0/\0<(l.length:Int))) ((gB [((bif (aaU l)then true else(decide (((at' l 0).index)<0))),false)]=true->(0:Int)<=0/\0<(l.length:Int)))<| .rg {} [0,1,2,3]<| .it (.r<| .e false)
  (.a1 ((0:Int)<=0/\0<(l.length:Int))<| .r<| .a1 ((0:Int)<=(at' l 0).index/\(at' l 0).index<(p.aa.length:Int))<| .r<| .a4 ((0:Int)<=(at' l 0).index/\(at' l 0).index<(s_.on_.length:Int)) ((gB [(!(at' s_.on_ (((at' l 0).index).toNat)),false)]=true->(0:Int)<=(at' l 0).index/\(at' l 0).index<(s_.ag.length:Int))) ((gB [(aaC l s_,false)]=true->(0:Int)<=(Ig l p).bus/\(Ig l p).bus<(s_.al.length:Int))) ((gB [((bif (aaC l s_)then true else(at' s_.al (((Ig l p).bus).toNat))),false)]=true->(0:Int)<=1/\1<(l.length:Int)))<| .rg {} [0,1,2,3]<| .it (.r<| .e false)
  (.rg {an:=[(1, .arr [(Ig l p).bus].length (aj (aH .i64) [(Ig l p).bus]))],fr:=[(1,21)]} [.pf ⟨[(Ig l p).bus].length=1,rfl⟩, .pf ⟨aF 1 1 (lS 1 [.int .i64 ((Ig l p).bus)]) (aj (aH .i64) [(Ig l p).bus]),(by intro i hi j hj;match i,j,hi,hj with|0,0,_,_=>rfl)⟩]<| .r<| .lp (σ:=(Int × (List Int) × Int)) (β:=Int) ((Ig l p).bus,[(Ig l p).bus],2) [] [] ⟨[2,3,4,5],[19],fun(u0,u1,i)=>[(10,vI u0),(11,vO 21 false u1.length),(12,vI i)],fun(u0,u1,i)=>[(21,some (aW 3 1 (aH .i64) u1))]⟩ ⟨[2,4],[19],fun u3=>[(10,vI u3)],fun u3=>[]⟩
  (fun(u0,u1,i)=> .r<| .it (.a1 (zF l i)<| .rg {fr:=[(4,34)]} []<| .r<| .it (.r<| .e (.done (.ret false)))
  (.a1 ((0:Int)<=(at' l i.toNat).index/\(at' l i.toNat).index<(p.ae.length:Int))<| .rg {fr:=[(6,35)],fz:=[34,35]} []<| .a4 ((0:Int)<=(at' l i.toNat).index/\(at' l i.toNat).index<(s_.aq.length:Int)) ((gB [(!(at' s_.aq (((at' l i.toNat).index).toNat)),false)]=true->(0:Int)<=(at' l i.toNat).index/\(at' l i.toNat).index<(s_.am.length:Int))) ((gB [(abo l s_ i,false)]=true->(0:Int)<=(OQ l i p).a/\(OQ l i p).a<(s_.al.length:Int))) ((gB [((bif (abo l s_ i)then true else(at' s_.al (((OQ l i p).a).toNat))),false)]=true->(0:Int)<=(OQ l i p).b/\(OQ l i p).b<(s_.al.length:Int)))<| .rg {} [0,1,2,3]<| .it (.r<| .e (.done (.ret false)))
  (.r<| .cgr 11 [(!((decide (((at' l ((k11 i).toNat)).kind)=1)) && ((decide (((at' l ((k11 i).toNat)).index)=(DJ l i u0 p))) && true)),false)] ⟨fun{r_} hr_=>((Fn.CW (frz:=[21]) (p:=[u1.length=u1.length]) (kG u1 (DJ l i u0 p) hr_) (by kernel_rfl) ⟨rfl,trivial⟩ rfl):Fn Tryz.prog 128 [.one (.own 21 false u1.length),sI (DJ l i u0 p)] [(21,some (aW 3 1 (aH .i64) u1))] (vB r_) [(21,some (aW 3 1 (aH .i64) u1))])⟩ fun r_=> .a1 ((0:Int)<=(k11 i)/\(k11 i)<(l.length:Int))<| .rg {} [0,1]<| .it (.r<| .e (.done (.ret false)))
  (.a2 ((abB l p i u1 u0)*8<=140737488355328) (u1.length+[DJ l i u0 p].length<=4611686018427387904)<| .rg {an:=[(2, .arr [DJ l i u0 p].length (YI l p i u0)),(3, .arr (Wo l p i u1 u0).length (aaM l p i u1 u0))],fr:=[(2,36),(3,37)]} [.pf ⟨[DJ l i u0 p].length=1,rfl⟩, .pf ⟨aF 1 1 (lS 1 [.int .i64 (DJ l i u0 p)]) (YI l p i u0),(by intro i hi j hj;match i,j,hi,hj with|0,0,_,_=>rfl)⟩, .e (u1.length),0,1, .pf ⟨(Wo l p i u1 u0).length=u1.length+[DJ l i u0 p].length,cd⟩, .pf ⟨aF (abB l p i u1 u0) 1 (nY (aj (aH .i64) u1) u1.length (YI l p i u0)) (aaM l p i u1 u0),bD _ _ _ _⟩]<| .r<| .en (.next (DJ l i u0 p,Wo l p i u1 u0,IntKind.wrap .i64 (i+2))) [] [(37,21)]))))
  (.e (.done (.brk u0))))
  (fun u3=> .cl 7 ⟨fun{u4} hr_1=>((Fn.Vm (args:=[sD (aZ none 1 (aH .i64) [(rP p u2).e0,(rP p u2).e1]),sI u3]) (args':=[sD (.sl (some true) 1 [(rP p u2).e0,(rP p u2).e1].length (fun i j=>(aj aL.cell p.a_ u2.toNat) (0+(i*1+j)))),sI u3]) (hin:=[]) (hin':=[]) (kG [(rP p u2).e0,(rP p u2).e1] u3 hr_1) ⟨pJ.one (fq.d (eu.sl (.inl rfl) (by intro i hi j hj;match i,j,hi,hj with|0,0,_,_=>exact .refl _|1,0,_,_=>exact .refl _))),pJ.refl _,trivial⟩ trivial):Fn Tryz.prog 128 [sD (.sl (some true) 1 [(rP p u2).e0,(rP p u2).e1].length (fun i j=>(aj aL.cell p.a_ u2.toNat) (0+(i*1+j)))),sI u3] [] (vB u4) [])⟩ fun u4=> .a1 (Qe p u2)<| .rg {} [0,1]<| .e u4))))
theorem xQ (x:List Part) (x1:Int) (u0:List Source) (u1:List Link) (u2:List aL) (x2:List Bool) (u3:List Bool) (u4:List Bool) (u5:List Bool) (u6:List Bool) (u7:List Bool) (u8:List Bool) (x3:Int):dN Tryz.prog 79 [sD (DF x),sD (k2 u0 u1 u2 x1),sD (ZB x2 u3 u4 u5 u6 u7 u8),sD (Jm [.int .i64 x3] 0)] [] (fun r=>(vB r)) (fun _=>[]) (jV x x1 u0 u1 u2 x2 u3 u4 u5 u6 u7 u8 x3):=
  eF tT mX Tryz.func79 (
  .r<| .cl 4 (Ed (⟨x1,u0,u1,u2⟩:ah) (⟨x2,u3,u4,u5,u6,u7,u8⟩:State) x3 x) fun r_=> .r<| .e (!r_))
section
variable (s_:List (List Part)) (f_:Int) (u0:List Source) (u1:List Link) (u2:List aL) (u3:List Bool) (u4:List Bool) (u5:List Bool) (u6:List Bool) (u7:List Bool) (u8:List Bool) (u9:List Bool) (v0:Int)
abbrev aa5:List SV:=[sD (aZ none 1 (wC 2 Part.cell) s_),sD (.fn 79 3 (Z0 f_ u0 u1 u2 u3 u4 u5 u6 u7 u8 u9 v0))]
end
theorem vN (s_:List (List Part)) (f_:Int) (u0:List Source) (u1:List Link) (u2:List aL) (u3:List Bool) (u4:List Bool) (u5:List Bool) (u6:List Bool) (u7:List Bool) (u8:List Bool) (u9:List Bool) (v0:Int):dN Tryz.prog 135 (aa5 s_ f_ u0 u1 u2 u3 u4 u5 u6 u7 u8 u9 v0) [] (fun r=>(vI r)) (fun _=>[]) (iX s_ f_ u0 u1 u2 u3 u4 u5 u6 u7 u8 u9 v0):=
  eF tT mX Tryz.func135 (
  .r<| .r<| .lp (σ:=Int) (β:=Unit) (0) [] [] ⟨[0,1,7],[],fun t8=>[(8,vI t8)],fun t8=>[]⟩ ⟨[],[],fun _=>[],fun _=>[]⟩
  (fun t8=> .r<| .it (.r<| .cl 5 (xQ (at' s_ t8.toNat) f_ u0 u1 u2 u3 u4 u5 u6 u7 u8 u9 v0) fun r_=> .a1 (Iu t8 s_)<| .rg {} [0,1]<| .it (.r<| .e (.done (.ret t8)))
  (.r<| .e (.next (k11 t8))))
  (.e (.done (.brk ()))))
  (fun _=> .r<| .e (-1)))
theorem tV (s_:List (List Part)) (f_:Int) (u0:List Source) (u1:List Link) (u2:List aL) (u3:List Bool) (u4:List Bool) (u5:List Bool) (u6:List Bool) (u7:List Bool) (u8:List Bool) (u9:List Bool) (v0:Int):dN Tryz.prog 78 (aa5 s_ f_ u0 u1 u2 u3 u4 u5 u6 u7 u8 u9 v0) [] (fun r=>(vB r)) (fun _=>[]) (dR s_ f_ u0 u1 u2 u3 u4 u5 u6 u7 u8 u9 v0):=
  eF tT mX Tryz.func78 (
  .r<| .cl 2 (vN s_ f_ u0 u1 u2 u3 u4 u5 u6 u7 u8 u9 v0) fun r_=> .r<| .e (decide (0<=r_)))
theorem zi (p:ah) (s_:State) (u2:Int) (l:List (List Part)):dN Tryz.prog 35 (X5 p s_ u2 l) [] (fun r=>(vI r)) (fun _=>[]) (eO p s_ u2 l):=
  eF tT mX Tryz.func35 (
  .rg {fr:=[(0,7),(1,8),(2,9)],fz:=[7,8,9]} []<| .cl 3 (mO p s_ u2) fun r_=> .r<| .r<| .it (.r<| .e r_)
  (.cl 2 (tV l p.ap p.aa p.ae p.a_ s_.aq s_.aw s_.am s_.on_ s_.ag s_.ar s_.al u2) fun u4=> .r<| .it (.r<| .e 7)
  (.cl 1 (BG l) fun u1=> .r<| .r<| .lp (σ:=Int) (β:=Unit) (0) [] [] ⟨[10,25,26],[],fun u0=>[(27,vI u0)],fun u0=>[]⟩ ⟨[],[],fun _=>[],fun _=>[]⟩
  (fun u0=> .r<| .it (.a1 (zF u1 u0)<| .rg {fr:=[(3,13)],fz:=[13]} []<| .cl 4 ⟨fun{u3} hr_3=>((Fn.Vm (args:=(ZW u1 u0)) (args':=(Xq u1 u0)) (hin:=[]) (hin':=[]) (xN (nW u1 0 u0.toNat) (at' u1 u0.toNat) hr_3) ⟨pJ.one (fq.d (eu.slN (by first|rw [cd,d_]|simp only [cL,d_,CO]) (.inr rfl) (TY _ _ _ _))),pJ.refl _,trivial⟩ trivial):Fn Tryz.prog 82 (Xq u1 u0) [] (vB u3) [])⟩ fun u3=> .a1 ((0:Int)<=u0/\u0<=(u1.length:Int))<| .rg {} [0,1]<| .it (.r<| .e (.done (.ret 7)))
  (.r<| .e (.next (k11 u0))))
  (.e (.done (.brk ()))))
  (fun _=> .r<| .e 0))))
theorem ET (l:List (List Part)):dN Tryz.prog 36 [sD (aZ none 1 (wC 2 Part.cell) l)] [] (fun r=>(vD (aZ none 1 (wC 2 Part.cell) r))) (fun _=>[]) (sH l):=
  eF tT mX Tryz.func36 (
  .r<| .r<| .r<| .im (.ad 3 16 48 1 (aj (wC 2 Part.cell) ([]:List (List Part))))<| .lp (σ:=((List (List Part)) × Int)) (β:=(List (List Part))) (([]:List (List Part)),0) [] [(16,9)] ⟨[0],[],fun(u0,i)=>[(3,vO 9 false u0.length),(4,vI i)],fun(u0,i)=>[(9,some (Ii u0))]⟩ ⟨[],[],fun u1=>[(3,vO 9 false u1.length)],fun u1=>[(9,some (Ii u1))]⟩
  (fun(u0,i)=> .r<| .it (.cl 5 (BJ (at' l i.toNat)) fun r_=> .a3 (Iu i l) ((u0.length+[r_].length)*24<=140737488355328) (u0.length+[r_].length<=4611686018427387904)<| .rg {an:=[(6, .arr [r_].length (Gm r_)),(7, .arr (u0++[r_]).length (aj (wC 2 Part.cell) (u0++[r_])))],fr:=[(6,14),(7,15)]} [0,3, .pf ⟨[r_].length=1,rfl⟩, .pf ⟨aF 1 1 (lS 1 [DF r_]) (Gm r_),(by intro i hi j hj;match i,j,hi,hj with|0,0,_,_=>rfl)⟩, .e (u0.length),1,2, .pf ⟨(u0++[r_]).length=u0.length+[r_].length,cd⟩, .pf ⟨aF (u0.length+[r_].length) 1 (nY (aj (wC 2 Part.cell) u0) u0.length (Gm r_)) (aj (wC 2 Part.cell) (u0++[r_])),bD _ _ _ _⟩]<| .r<| .en (.next (u0++[r_],k11 i)) [] [(15,9)])
  (.e (.done (.brk u0))))
  (fun u1=> .rg {fz:=[9]} []<| .e u1))
theorem zI (a:List Source) (b:List Source):dN Tryz.prog 84 [sD (k3 a),sD (k3 b)] [] (fun r=>(vB r)) (fun _=>[]) (mh a b):=
  eF tT mX Tryz.func84 (
  .r<| .r<| .it (.r<| .e false)
  (.r<| .lp (σ:=Int) (β:=Unit) (0) [] [] ⟨[0,1],[],fun i=>[(5,vI i)],fun i=>[]⟩ ⟨[],[],fun _=>[],fun _=>[]⟩
  (fun i=> .r<| .it (.a2 ((0:Int)<=i/\i<(a.length:Int)) ((0:Int)<=i/\i<(b.length:Int))<| .rg {} [0,1]<| .it (.r<| .e (.done (.ret false)))
  (.r<| .e (.next (k11 i))))
  (.e (.done (.brk ()))))
  (fun _=> .r<| .e true)))
theorem BH (a:List kJ) (b:List kJ):dN Tryz.prog 171 [sD (aZ none 2 kJ.cell a),sD (aZ none 2 kJ.cell b)] [] (fun r=>(vB r)) (fun _=>[]) (oJ a b):=
  eF tT mX Tryz.func171 (
  .r<| .r<| .it (.r<| .e false)
  (.r<| .lp (σ:=Int) (β:=Unit) (0) [] [] ⟨[0,1],[],fun i=>[(5,vI i)],fun i=>[]⟩ ⟨[],[],fun _=>[],fun _=>[]⟩
  (fun i=> .r<| .it (.a2 ((0:Int)<=i/\i<(a.length:Int)) ((0:Int)<=i/\i<(b.length:Int))<| .rg {} [0,1]<| .it (.r<| .e (.done (.ret false)))
  (.r<| .e (.next (k11 i))))
  (.e (.done (.brk ()))))
  (fun _=> .r<| .e true)))
section
variable (a:Link) (b:Link)
abbrev abf:=(bif (bif (bif (bif (decide (a.a=b.a))then(decide (a.b=b.b))else false)then(decide (a.kind=b.kind))else false)then(decide (a.most=b.most))else false)then(decide (a.ohm=b.ohm))else false)
end
theorem Dj (a:Link) (b:Link):dN Tryz.prog 137 [.agg (k12 a),.agg (k12 b)] [] (fun r=>(vB r)) (fun _=>[]) (pY a b):=
  eF tT mX Tryz.func137 (
  .rg {fr:=[(0,2),(1,3)],fz:=[2,3]} []<| .cg 38 [(abf a b,true)] (BH a.trip b.trip) fun r_=> .r<| .e (bif (abf a b)then r_ else false))
theorem BM (a:List Link) (b:List Link):dN Tryz.prog 85 [sD (k4 a),sD (k4 b)] [] (fun r=>(vB r)) (fun _=>[]) (oF a b):=
  eF tT mX Tryz.func85 (
  .r<| .r<| .it (.r<| .e false)
  (.r<| .lp (σ:=Int) (β:=Unit) (0) [] [] ⟨[0,1],[],fun i=>[(5,vI i)],fun i=>[]⟩ ⟨[],[],fun _=>[],fun _=>[]⟩
  (fun i=> .r<| .it (.cl 8 (Dj (at' a i.toNat) (at' b i.toNat)) fun r_=> .a2 (k16 a i) (k16 b i)<| .rg {} [0,1,2]<| .it (.r<| .e (.done (.ret false)))
  (.r<| .e (.next (k11 i))))
  (.e (.done (.brk ()))))
  (fun _=> .r<| .e true)))
theorem BQ (a:List aL) (b:List aL):dN Tryz.prog 86 [sD (k5 a),sD (k5 b)] [] (fun r=>(vB r)) (fun _=>[]) (ou a b):=
  eF tT mX Tryz.func86 (
  .r<| .r<| .it (.r<| .e false)
  (.r<| .lp (σ:=Int) (β:=Unit) (0) [] [] ⟨[0,1],[],fun i=>[(5,vI i)],fun i=>[]⟩ ⟨[],[],fun _=>[],fun _=>[]⟩
  (fun i=> .r<| .it (.a2 ((0:Int)<=i/\i<(a.length:Int)) ((0:Int)<=i/\i<(b.length:Int))<| .rg {} [0,1]<| .it (.r<| .e (.done (.ret false)))
  (.r<| .e (.next (k11 i))))
  (.e (.done (.brk ()))))
  (fun _=> .r<| .e true)))
theorem BR (a:ah) (b:ah):dN Tryz.prog 37 [.agg (k1 a),.agg (k1 b)] [] (fun r=>(vB r)) (fun _=>[]) (oz a b):=
  eF tT mX Tryz.func37 (
  .rg {fr:=[(0,2),(1,3)],fz:=[2,3]} []<| .cg 10 [(decide (a.ap=b.ap),true)] (zI a.aa b.aa) fun r_=> .cg 17 [((bif (decide (a.ap=b.ap))then r_ else false),true)] (BM a.ae b.ae) fun u0=> .cg 24 [((bif (bif (decide (a.ap=b.ap))then r_ else false)then u0 else false),true)] (BQ a.a_ b.a_) fun u1=> .r<| .e (bif (bif (bif (decide (a.ap=b.ap))then r_ else false)then u0 else false)then u1 else false))
theorem yL (x:ah):dN Tryz.prog 26 (k0 x) [] (fun r=>(.v (.agg [cI r.ap,.own 0 false r.aa.length,.own 1 false r.ae.length,.own 2 false r.a_.length]))) (fun r=>[(0,some (aW 125 5 Source.cell r.aa)),(1,some (aW 113 6 Link.cell r.ae)),(2,some (aW 100 4 aL.cell r.a_)),(3,none)]) (oG x):=
  eF tT mX Tryz.func26 (
  .rg {fr:=[(0,5),(1,6)]} []<| .cl 4 (mr [(0,7)] (wJ x.aa)) fun r_=> .cl 7 (mr [(0,8)] (yG x.ae)) fun u0=> .cl 10 (mr [(0,9)] (yu x.a_)) fun u1=> .r<| .en (⟨x.ap,r_,u0,u1⟩:ah) [] [(7,0),(8,1),(9,2),(6,3)])
theorem yx (x:State):dN Tryz.prog 16 (k38 x) [] (fun r=>(.v (.agg [.own 0 false r.aq.length,.own 1 false r.aw.length,.own 2 false r.am.length,.own 3 false r.on_.length,.own 4 false r.ag.length,.own 5 false r.ar.length,.own 6 false r.al.length]))) (fun r=>[(0,some (aW 4 1 af r.aq)),(1,some (aW 4 1 af r.aw)),(2,some (aW 4 1 af r.am)),(3,some (aW 4 1 af r.on_)),(4,some (aW 4 1 af r.ag)),(5,some (aW 4 1 af r.ar)),(6,some (aW 4 1 af r.al)),(7,none)]) (ow x):=
  eF tT mX Tryz.func16 (
  .rg {fr:=[(0,9),(1,10)],fz:=[9]} []<| .cl 2 (mr [(0,11)] (dz x.aq)) fun r_=> .cl 5 (mr [(0,12)] (dz x.aw)) fun u0=> .cl 8 (mr [(0,13)] (dz x.am)) fun u1=> .cl 11 (mr [(0,14)] (dz x.on_)) fun u2=> .cl 14 (mr [(0,15)] (dz x.ag)) fun u3=> .cl 17 (mr [(0,16)] (dz x.ar)) fun u4=> .cl 20 (mr [(0,17)] (dz x.al)) fun u5=> .r<| .en (⟨r_,u0,u1,u2,u3,u4,u5⟩:State) [] [(11,0),(12,1),(13,2),(14,3),(15,4),(16,5),(17,6),(10,7)])
theorem xS (p:ah) (s_:State) (u0:Int) (l:List (List Part)):dN Tryz.prog 5 (X5 p s_ u0 l) [] (fun r=>(vB r)) (fun _=>[]) (jP p s_ u0 l):=
  eF tT mX Tryz.func5 (
  .rg {fr:=[(0,21),(1,22)],fz:=[21,22]} []<| .cl 1 (G5 p) fun r_=> .r<| .it (.cl 0 qK fun v3=> .r<| .e v3)
  (.r<| .lp (σ:=Int) (β:=Unit) (0) [] [] ⟨[2,3,4,5],[],fun i=>[(9,vI i)],fun i=>[]⟩ ⟨[2,3,4,5],[],fun _=>[],fun _=>[]⟩
  (fun i=> .r<| .it (.a1 (Iu i l)<| .r<| .it (.cl 0 qK fun v4=> .r<| .e (.done (.ret v4)))
  (.r<| .e (.next (k11 i))))
  (.e (.done (.brk ()))))
  (fun _=> .cl 1 (mr [(0,23),(1,24),(2,25),(3,26)] (yL p)) fun u3=> .cl 3 (mr [(0,27),(1,28),(2,29),(3,30),(4,31),(5,32),(6,33),(7,34)] (yx s_)) fun u4=> .rg {fr:=[(4,35),(5,36)],fz:=[23,24,25,27,28,29,30,31,32,33]} []<| .fz [35,36]<| .cl 5 (Ic u0 (p.a_.length:Int)) fun u1=> .rg {an:=[(6, .arr [u0,u1].length (aj (aH .i64) [u0,u1]))],fr:=[(6,37)],fz:=[37]} [0, .pf ⟨[u0,u1].length=2,rfl⟩, .pf ⟨aF 2 1 (lS 1 [.int .i64 u0,.int .i64 u1]) (aj (aH .i64) [u0,u1]),(by intro i hi j hj;match i,j,hi,hj with|0,0,_,_=>rfl|1,0,_,_=>rfl)⟩]<| .lp (σ:=Int) (β:=Unit) (0) [] [] ⟨[3,4,5,10,11,53,54],[],fun u2=>[(55,vI u2)],fun u2=>[]⟩ ⟨[4,5,10,11],[],fun _=>[],fun _=>[]⟩
  (fun u2=> .r<| .it (.a1 ((0:Int)<=u2/\u2<([u0,u1].length:Int))<| .r<| .cl 3 (nT u3 u4 (at' [u0,u1] u2.toNat)) fun v1=> .r<| .cl 3 (Av p s_ (at' [u0,u1] u2.toNat)) fun u5=> .r<| .cl 3 (x9 u3 u4 (at' [u0,u1] u2.toNat)) fun u8=> .r<| .cg 27 [(decide (u5.2=0),true),((bif (bif (bif (!decide (v1.1=u5.1))then true else(!decide (v1.2=u5.2)))then true else(!decide (u8.2=u5.2)))then true else(!decide ((u8.1.length:Int)=u5.1))),false)] (rA p s_ (at' [u0,u1] u2.toNat) u8.1) fun v7=> .r<| .it (.r<| .e (.done (.ret false)))
  (.cl 3 (mr [(0,41)] (kS u3 u4 (at' [u0,u1] u2.toNat))) fun u6=> .rg {fz:=[41]} []<| .cl 3 (Au p s_ (at' [u0,u1] u2.toNat)) fun u7=> .r<| .cg 6 [(!decide (u6.2=u7.2),false)] (tZ u6.1 u7.1) fun u9=> .cg 14 [((bif (!decide (u6.2=u7.2))then true else(!u9)),false)] (ET l) fun v5=> .cg 15 [((bif (!decide (u6.2=u7.2))then true else(!u9)),false)] (zi u3 u4 (at' [u0,u1] u2.toNat) v5) fun v8=> .cg 20 [((bif (!decide (u6.2=u7.2))then true else(!u9)),false)] (rA p s_ (at' [u0,u1] u2.toNat) l) fun v9=> .r<| .it (.r<| .e (.done (.ret false)))
  (.r<| .e (.next (k11 u2)))))
  (.e (.done (.brk ()))))
  (fun _=> .cl 2 (BR p u3) fun v0=> .cg 6 [(v0,true)] (BN s_ u4) fun v2=> .cg 9 [((bif v0 then v2 else false),true)] qK fun v6=> .r<| .e (bif (bif v0 then v2 else false)then v6 else false)))))
end
end Sg
