import Derived.Test.YtfndnfioogkdaaaGreatSvW0
set_option linter.all false
namespace Sg
open Go Go.Proofs
set_option maxRecDepth 20000
noncomputable section
section
variable (u0:(List (List Int))) (u3:(List Bool)) (u5:(List ah)) (x1:(List bY)) (u1:Int) (u2:Int)
abbrev Lf:=(List.replicate ((u0.length:Int).toNat) (false:Bool))
abbrev XA:=(aA ai (Lf u0))
abbrev Uy:=((Lf u0).set 0 true)
abbrev aaw:List (Nat × Option Ob):=[(52,some (bQ 4 1 ai u3)),(53,some (.cells 147 [(.own 54 false u5.length)])),(54,some (bQ 41 2 ah.cell u5))]
abbrev FE:=(at' x1 ((at' (at' u0 u1.toNat) u2.toNat).toNat))
abbrev VF:=(u3.set (((FE u0 x1 u1 u2).to_).toNat) true)
end
theorem oQ (x1:(List bY)) (u0:(List (List Int))) (u4:au) (o_:(List Bool)):fA Tryz.prog 58 [(.one (.yl 0)),(sD (zL [(zL [(bN none 2 bY.cell x1),(bN none 1 (zX 1 (aF .i64)) u0)] 0)] 0))] (ZL u4 o_) (fun r=>(.iw [])) (fun r=>[WA,(WC u4),(2,some (.cells 27 [(.own 3 true r.length)])),(3,some (bQ 4 1 ai r))]) (dW x1 u0 u4 o_):=
  gu tT mX Tryz.func58 (
  .a3 ((0:Int)≤(u0.length:Int)) ((1:Int)*(u0.length:Int)≤281474976710656) (((u0.length:Int):Int)≤9223372036854775807)<| .rg {an:=[(5, .arr (Lf u0).length (XA u0))],fr:=[(5,52)]} [0, .e (((u0.length:Int):Int)),1,2, .pf ⟨(Lf u0).length=((u0.length:Int).toNat),List.length_replicate⟩, .pf ⟨aU ((u0.length:Int).toNat) 1 (fun _ j=>[(.bool false)].getD j .nilp) (XA u0),lH _ _ _ _ _ (fun j hj=>(match j,hj with|0,_=>rfl))⟩]<| .a1 ((0:Int)≤0∧0<((Lf u0).length:Int))<| .rg {an:=[(2, .arr 0 (aA ai (Uy u0)))]} [0, .t 0 0 ((Lf u0).length), .pf ⟨aU (Lf u0).length 1 (mh (XA u0) 0 0 [(.bool true)]) (aA ai (Uy u0)),dB _ _ _ _ _ _ _ _ rfl (fun j hj=>(match j,hj with|0,_=>rfl))⟩]<| .im (.ll 52 (Lf u0) (Uy u0))<| .rg {fr:=[(0,53)]} []<| .im (.ou 53 0 54 41 2 (aA ah.cell ([]:List ah)))<| .rg {fr:=[(1,55)]} []<| .lp (σ:=((List Bool) × (List Bool) × (List ah) × Int × Int)) (β:=Unit) (o_,(Uy u0),([]:List ah),0,(-1)) [] [] ⟨[0,1,4,5],[0,1],fun(u6,u7,q0,u1,v0)=>[(3,(vO 52 true u7.length))],fun(u6,u7,q0,u1,v0)=>[(2,some (.cells 27 [(.own 3 true u6.length)])),(3,some (bQ 4 1 ai u6)),(52,some (bQ 4 1 ai u7)),(53,some (.cells 147 [(.own 54 false q0.length)])),(54,some (bQ 41 2 ah.cell q0)),(55,some (.cells 41 [(cI u1),(cI v0)]))]⟩ ⟨[],[],fun _=>[],fun _=>[]⟩
  (fun(u6,u7,q0,u1,v0)=> .cy 5 (yt u1 v0 u4 u6) fun r_=> .rg {} [.pf ⟨(0:Int)≤0∧(0:Int)<(2:Nat),(by decide)⟩, .pf ⟨(0:Int)≤1∧(1:Int)<(2:Nat),(by decide)⟩,0]<| .f<| .a1 ((0:Int)≤u1∧u1<(u0.length:Int))<| .rg {} [.pf ⟨(0:Int)≤0∧(0:Int)<(2:Nat),(by decide)⟩,0]<| .lp (σ:=((List Bool) × (List ah) × Int)) (β:=((List Bool) × (List ah))) (u7,q0,0) [] [] ⟨[0,1,4,5,34,35],[0,1,2,3,55],fun(u3,u5,u2)=>[(3,(vO 52 true u3.length)),(36,(vI u2))],fun(u3,u5,u2)=>(aaw u3 u5)⟩ ⟨[0,1,4,5],[0,1,2,3,55],fun(u8,u9)=>[(3,(vO 52 true u8.length))],fun(u8,u9)=>(aaw u8 u9)⟩
  (fun(u3,u5,u2)=> .r<| .it (.a1 ((0:Int)≤u2∧u2<((at' u0 u1.toNat).length:Int))<| .r<| .a1 ((0:Int)≤(at' (at' u0 u1.toNat) u2.toNat)∧(at' (at' u0 u1.toNat) u2.toNat)<(x1.length:Int))<| .rg {fr:=[(7,95)]} []<| .a1 ((gB [((decide (0<((FE u0 x1 u1 u2).left))),true)]=true→(0:Int)≤(FE u0 x1 u1 u2).to_∧(FE u0 x1 u1 u2).to_<(u3.length:Int)))<| .rg {} [0, .tg 0 [((decide (0<((FE u0 x1 u1 u2).left))),true)] ((FE u0 x1 u1 u2).to_) u3.length]<| .it (.a1 ((0:Int)≤(FE u0 x1 u1 u2).to_∧(FE u0 x1 u1 u2).to_<(u3.length:Int))<| .rg {an:=[(4, .arr 0 (aA ai (VF u0 u3 x1 u1 u2)))],fz:=[95]} [0, .t 0 ((FE u0 x1 u1 u2).to_) u3.length, .pf ⟨aU u3.length 1 (mh (aA ai u3) (((FE u0 x1 u1 u2).to_).toNat) 0 [(.bool true)]) (aA ai (VF u0 u3 x1 u1 u2)),dB _ _ _ _ _ _ _ _ rfl (fun j hj=>(match j,hj with|0,_=>rfl))⟩]<| .im (.ll 52 u3 (VF u0 u3 x1 u1 u2))<| .cl 4 (fI [(0,53),(1,54),(2,96)] (qm (⟨(FE u0 x1 u1 u2).to_,(at' (at' u0 u1.toNat) u2.toNat)⟩:ah) (⟨u5⟩:bJ))) fun v2=> .r<| .r<| .en (.next ((VF u0 u3 x1 u1 u2),v2.l,(k10 u2))) [] [(96,54)])
  (.r<| .e (.next (u3,u5,(k10 u2)))))
  (.e (.done (.brk (u3,u5)))))
  (fun(u8,u9)=> .cl 0 (fI [(0,53),(1,54),(2,97)] (pI (⟨u9⟩:bJ))) fun v1=> .rg {fr:=[(4,98)]} []<| .r<| .it (.e (.done (.ret r_)))
  (.r<| .r<| .rg {fr:=[(0,99)]} []<| .en (.next (r_,u8,v1.2.2.l,v1.1.e0,v1.1.e1)) [] [(97,54),(99,55)])))
  (fun _=> .no))
theorem wo (x:bX):fA Tryz.prog 13 [(.agg [(.d (bN none 1 (aF .i64) x.sources)),(.d (bN none 1 (aF .i64) x.links)),(.d (bN none 2 ah.cell x.racks))])] [] (fun r=>(vI r)) (fun _=>[]) (j6 x):=
  gu tT mX Tryz.func13 (
  .rg {fr:=[(0,5)]} []<| .r<| .r<| .lp (σ:=(Int × Int)) (β:=Int) (0,0) [] [] ⟨[7,8],[],fun(n,t9)=>[(3,(vI n)),(9,(vI t9))],fun(n,t9)=>[]⟩ ⟨[],[],fun n1=>[(3,(vI n1))],fun n1=>[]⟩
  (fun(n,t9)=> .r<| .it (.a1 ((0:Int)≤t9∧t9<(x.racks.length:Int))<| .rg {fr:=[(2,9)],fz:=[9]} []<| .rg {} [.pf ⟨(0:Int)≤0∧(0:Int)<(2:Nat),(by decide)⟩, .pf ⟨(0:Int)≤1∧(1:Int)<(2:Nat),(by decide)⟩]<| .r<| .e (.next ((IntKind.wrap .i64 (n+(IntKind.wrap .i64 (((at' x.racks t9.toNat).e0)+((at' x.racks t9.toNat).e1))))),(k10 t9))))
  (.e (.done (.brk n))))
  (fun n1=> .r<| .e n1))
theorem xO (i:Int) (x1:Int):fA Tryz.prog 102 [(sI i),(sD (zL [(.int .i64 x1)] 0))] [] (fun r=>(vB r)) (fun _=>[]) (rG i x1):=
  gu tT mX Tryz.func102 (
  .r<| .r<| .e (bif (decide (i<0))then true else(decide (x1≤i))))
theorem uW (s_:(List Int)) (f_:Int):fA Tryz.prog 119 [(sD (UL s_)),(sD (.fn 102 1 (bT [(zL [(.int .i64 f_)] 0)])))] [] (fun r=>(vI r)) (fun _=>[]) (oI s_ f_):=
  gu tT mX Tryz.func119 (
  .r<| .r<| .lp (σ:=Int) (β:=Unit) (0) [] [] ⟨[0,1,7],[],fun t8=>[(8,(vI t8))],fun t8=>[]⟩ ⟨[],[],fun _=>[],fun _=>[]⟩
  (fun t8=> .r<| .it (.r<| .cl 5 (xO (at' s_ t8.toNat) f_) fun r_=> .a1 (YP s_ t8)<| .rg {} [0,1]<| .it (.r<| .e (.done (.ret t8)))
  (.r<| .e (.next (k10 t8))))
  (.e (.done (.brk ()))))
  (fun _=> .r<| .e (-1)))
theorem qH (s_:(List Int)) (f_:Int):fA Tryz.prog 101 [(sD (UL s_)),(sD (.fn 102 1 (bT [(zL [(.int .i64 f_)] 0)])))] [] (fun r=>(vB r)) (fun _=>[]) (lY s_ f_):=
  gu tT mX Tryz.func101 (
  .r<| .cl 2 (uW s_ f_) fun r_=> .r<| .e (decide (0≤r_)))
theorem qh (l:(List Int)) (n:Int):fA Tryz.prog 100 [(sD (UL l)),(sI n)] [] (fun r=>(vB r)) (fun _=>[]) (oW l n):=
  gu tT mX Tryz.func100 (
  .rg {fr:=[(0,1)],fz:=[1]} []<| .cg 6 [((decide ((l.length:Int)≤24)),true)] (qH l n) fun r_=> .r<| .e (bif (decide ((l.length:Int)≤24))then(!r_)else false))
section
variable (x:aJ) (p:au)
abbrev ND:List CV:=[(cI x.deed),(cI x.index)]
abbrev Uv:=((gB [((bif (decide (0≤x.index))then(decide (x.index<(p.links.length:Int)))else false),true)]=true→(0:Int)≤x.index∧x.index<(p.links.length:Int)))
abbrev VA:=(bif (bif (decide (0≤x.index))then(decide (x.index<(p.links.length:Int)))else false)then(!decide (((at' p.links x.index.toNat).kind)=1))else false)
abbrev ME:=(bif (decide (0≤x.index))then(decide (x.index<p.buses))else false)
abbrev zZ:=(bif (decide (0≤x.index))then(decide (x.index<(p.sources.length:Int)))else false)
abbrev zT:=((gB [((bif (decide (0≤x.index))then(decide (x.index<0))else false),true)]=true→(0:Int)≤x.index∧x.index<(p.links.length:Int)))
abbrev zS:=(bif (bif (decide (0≤x.index))then(decide (x.index<0))else false)then(!decide (((at' p.links x.index.toNat).kind)=1))else false)
end
theorem tY (p:au) (x:aJ):fA Tryz.prog 106 [(.agg (k1 p)),(.agg (ND x))] [] (fun r=>(vB r)) (fun _=>[]) (sK p x):=
  gu tT mX Tryz.func106 (
  .rg {fr:=[(0,2),(1,3)],fz:=[2,3]} []<| .r<| .r<| .r<| .it (.it (.r<| .a1 (Uv x p)<| .r<| .e (VA x p))
  (.r<| .it (.it (.r<| .e (ME x p))
  (.r<| .it (.it (.r<| .e (zZ x p))
  (.a1 (zT x p)<| .r<| .e (zS x p)))
  (.r<| .it (.r<| .e (zZ x p))
  (.a1 (zT x p)<| .r<| .e (zS x p)))))
  (.r<| .it (.r<| .e (ME x p))
  (.r<| .it (.it (.r<| .e (zZ x p))
  (.a1 (zT x p)<| .r<| .e (zS x p)))
  (.r<| .it (.r<| .e (zZ x p))
  (.a1 (zT x p)<| .r<| .e (zS x p)))))))
  (.r<| .it (.it (.r<| .a1 (Uv x p)<| .r<| .e (VA x p))
  (.r<| .it (.it (.r<| .e (ME x p))
  (.r<| .it (.it (.r<| .e (zZ x p))
  (.a1 (zT x p)<| .r<| .e (zS x p)))
  (.r<| .it (.r<| .e (zZ x p))
  (.a1 (zT x p)<| .r<| .e (zS x p)))))
  (.r<| .it (.r<| .e (ME x p))
  (.r<| .it (.it (.r<| .e (zZ x p))
  (.a1 (zT x p)<| .r<| .e (zS x p)))
  (.r<| .it (.r<| .e (zZ x p))
  (.a1 (zT x p)<| .r<| .e (zS x p)))))))
  (.r<| .it (.it (.r<| .a1 (Uv x p)<| .r<| .e (VA x p))
  (.r<| .it (.it (.r<| .e (ME x p))
  (.r<| .it (.it (.r<| .e (zZ x p))
  (.a1 (zT x p)<| .r<| .e (zS x p)))
  (.r<| .it (.r<| .e (zZ x p))
  (.a1 (zT x p)<| .r<| .e (zS x p)))))
  (.r<| .it (.r<| .e (ME x p))
  (.r<| .it (.it (.r<| .e (zZ x p))
  (.a1 (zT x p)<| .r<| .e (zS x p)))
  (.r<| .it (.r<| .e (zZ x p))
  (.a1 (zT x p)<| .r<| .e (zS x p)))))))
  (.r<| .it (.r<| .a1 (Uv x p)<| .r<| .e (VA x p))
  (.r<| .it (.it (.r<| .e (ME x p))
  (.r<| .it (.it (.r<| .e (zZ x p))
  (.a1 (zT x p)<| .r<| .e (zS x p)))
  (.r<| .it (.r<| .e (zZ x p))
  (.a1 (zT x p)<| .r<| .e (zS x p)))))
  (.r<| .it (.r<| .e (ME x p))
  (.r<| .it (.it (.r<| .e (zZ x p))
  (.a1 (zT x p)<| .r<| .e (zS x p)))
  (.r<| .it (.r<| .e (zZ x p))
  (.a1 (zT x p)<| .r<| .e (zS x p))))))))))
theorem xQ (x:aJ) (x1:Int) (u0:(List Source)) (u1:(List Link)) (u2:(List aT)):fA Tryz.prog 105 [(.agg (ND x)),(sD (k3 u0 x1 u1 u2))] [] (fun r=>(vB r)) (fun _=>[]) (rJ x x1 u0 u1 u2):=
  gu tT mX Tryz.func105 (
  .rg {fr:=[(0,1)],fz:=[1]} []<| .cl 2 (tY (⟨x1,u0,u1,u2⟩:au) x) fun r_=> .r<| .e (!r_))
section
variable (s_:(List aJ)) (f_:Int) (u0:(List Source)) (u1:(List Link)) (u2:(List aT))
abbrev aaZ:List SV:=[(sD (bN none 2 aJ.cell s_)),(sD (.fn 105 1 (k8 f_ u0 u1 u2)))]
end
theorem vo (s_:(List aJ)) (f_:Int) (u0:(List Source)) (u1:(List Link)) (u2:(List aT)):fA Tryz.prog 120 (aaZ s_ f_ u0 u1 u2) [] (fun r=>(vI r)) (fun _=>[]) (oG s_ f_ u0 u1 u2):=
  gu tT mX Tryz.func120 (
  .r<| .r<| .lp (σ:=Int) (β:=Unit) (0) [] [] ⟨[0,1,7],[],fun t8=>[(8,(vI t8))],fun t8=>[]⟩ ⟨[],[],fun _=>[],fun _=>[]⟩
  (fun t8=> .r<| .it (.r<| .cl 5 (xQ (at' s_ t8.toNat) f_ u0 u1 u2) fun r_=> .a1 ((0:Int)≤t8∧t8<(s_.length:Int))<| .rg {} [0,1]<| .it (.r<| .e (.done (.ret t8)))
  (.r<| .e (.next (k10 t8))))
  (.e (.done (.brk ()))))
  (fun _=> .r<| .e (-1)))
theorem qD (s_:(List aJ)) (f_:Int) (u0:(List Source)) (u1:(List Link)) (u2:(List aT)):fA Tryz.prog 104 (aaZ s_ f_ u0 u1 u2) [] (fun r=>(vB r)) (fun _=>[]) (mr s_ f_ u0 u1 u2):=
  gu tT mX Tryz.func104 (
  .r<| .cl 2 (vo s_ f_ u0 u1 u2) fun r_=> .r<| .e (decide (0≤r_)))
theorem qd (l:(List aJ)) (x1:Int) (u0:(List Source)) (u1:(List Link)) (u2:(List aT)):fA Tryz.prog 103 [(sD (bN none 2 aJ.cell l)),(sD (k3 u0 x1 u1 u2))] [] (fun r=>(vB r)) (fun _=>[]) (oN l x1 u0 u1 u2):=
  gu tT mX Tryz.func103 (
  .r<| .cg 6 [((decide ((l.length:Int)≤24)),true)] (qD l x1 u0 u1 u2) fun r_=> .r<| .e (bif (decide ((l.length:Int)≤24))then(!r_)else false))
section
variable (t:Task)
abbrev Mr:List CV:=[(.d (bN none 1 (aF .i64) t.fed)),(.d (bN none 1 (aF .i64) t.crew)),(.d (bN none 2 aJ.cell t.allowed)),(.d (bN none 2 aJ.cell t.goal))]
end
theorem BQ (p:au) (t:Task):fA Tryz.prog 79 [(.agg (k1 p)),(.agg (Mr t))] [] (fun r=>(vB r)) (fun _=>[]) (yI p t):=
  gu tT mX Tryz.func79 (
  .rg {fr:=[(0,2),(1,3)],fz:=[2,3]} []<| .r<| .r<| .cl 6 (qh t.fed (p.racks.length:Int)) fun r_=> .cg 13 [(r_,true)] (qh t.crew p.buses) fun u0=> .cg 19 [((bif r_ then u0 else false),true)] (qd t.allowed p.buses p.sources p.links p.racks) fun u1=> .cg 25 [((bif (bif r_ then u0 else false)then u1 else false),true)] (qd t.goal p.buses p.sources p.links p.racks) fun u2=> .r<| .e (k6 r_ u0 u1 u2))
theorem xV (p:au) (s_:State):fA Tryz.prog 83 (k19 s_ p) [] (fun r=>(vD (.fn 113 2 (bT [(zL [(.int .i64 r.1),(bN none 5 Source.cell r.2.1),(bN none 6 Link.cell r.2.2.1),(bN none 4 aT.cell r.2.2.2.1)] 0),(zL [(bN none 1 ai r.2.2.2.2.1),(bN none 1 ai r.2.2.2.2.2.1),(bN none 1 ai r.2.2.2.2.2.2.1),(bN none 1 ai r.2.2.2.2.2.2.2.1),(bN none 1 ai r.2.2.2.2.2.2.2.2.1),(bN none 1 ai r.2.2.2.2.2.2.2.2.2.1),(bN none 1 ai r.2.2.2.2.2.2.2.2.2.2)] 0)])))) (fun _=>[]) (mU p s_):=
  gu tT mX Tryz.func83 (
  .rg {fr:=[(0,2),(1,3)],fz:=[2,3]} []<| .r<| .e (p.buses,p.sources,p.links,p.racks,s_.closed,s_.locked,s_.badLink,s_.on_,s_.badSource,s_.earthed,s_.badBus))
noncomputable def rF:iC:=⟨[22],Ng ([1,1,0,1,0]++[0]) (sO Tryz.f53),Ng ([1,1,0,1,0]++[1]) (sO Tryz.f53),125,[]⟩
section
variable (g:bL)
abbrev Yn:List (Nat × Option Ob):=[(0,some (BH 3 3 false false 1 1 (aF .i64) (aF .i64) g.head))]
end
theorem gZ (g:bL) (x:Int):fA Tryz.prog 85 [(.agg [(.mp 0)]),(sI x)] (Yn g) (fun r=>(vI r)) (fun r=>(Yn g)) (dO g x):=
  gu tT mX Tryz.func85 (
  .rg {fr:=[(0,2)]} []<| .lp (σ:=Int) (β:=Unit) (x) [] [] ⟨[2],[0,2],fun x1=>[(1,(vI x1))],fun x1=>[]⟩ ⟨[],[],fun _=>[],fun _=>[]⟩
  (fun x1=> .rg {an:=[(3, .look (bR bA x1 g.head).isSome [(cI ((bR bA x1 g.head).getD 0))])]} [.pf ⟨eY [some .i64] 1 1 g.head.length (pO (aF .i64) g.head) (pY (aF .i64) g.head) [(.int .i64 x1)] [(.d (.int .i64 0))] (bR bA x1 g.head).isSome [(cI ((bR bA x1 g.head).getD 0))],ko (fun _=>rfl) (fun _ _=>rfl) g.head x1 0 rfl rfl rfl⟩]<| .r<| .it (.r<| .e (.done (.ret x1)))
  (.r<| .e (.next ((bR bA x1 g.head).getD 0))))
  (fun _=> .no))
theorem wU (g:bL) (a:Int) (b:Int):fA Tryz.prog 84 [(.agg [(.mp 0)]),(sI a),(sI b)] (Yn g) (fun r=>(.iw [])) (fun r=>[(0,some (BH 3 3 false false 1 1 (aF .i64) (aF .i64) r))]) (jB g a b):=
  gu tT mX Tryz.func84 (
  .rg {fr:=[(0,2)]} []<| .cr 2 (gZ g a) fun r_=> .cr 5 (gZ g b) fun u0=> .r<| .r<| .it (.rg {an:=[(4, .map (dL bA r_ u0 g.head).length (pO (aF .i64) (dL bA r_ u0 g.head)) (pY (aF .i64) (dL bA r_ u0 g.head)) [])]} [.pf ⟨qf [some .i64] 1 1 g.head.length (pO (aF .i64) g.head) (pY (aF .i64) g.head) [(.int .i64 r_)] [(cI u0)] [] (dL bA r_ u0 g.head).length (pO (aF .i64) (dL bA r_ u0 g.head)) (pY (aF .i64) (dL bA r_ u0 g.head)),vU (fun _=>rfl) (fun _ _=>rfl) g.head r_ u0 rfl rfl⟩]<| .e (dL bA r_ u0 g.head))
  (.e g.head))
section
variable (o_:bL)
abbrev Wv:Nat × Option Ob:=(0,some (.loop rF 0 [(5,(vP 1 0))]))
abbrev abb:List (Nat × Option Ob):=[Wv,(1,some (.cells 172 [(.mp 2)])),(2,some (BH 3 3 false false 1 1 (aF .i64) (aF .i64) o_.head))]
end
theorem vL (u0:Int) (u1:Int) (u2:Int) (u3:Int) (u4:Int) (u5:(List lW)) (o_:bL):Wq Tryz.prog 0 [(.agg [(cI u0),(cI u1),(cI u2),(cI u3),(cI u4),(.d (bN none 2 lW.cell u5))])] (abb o_) (fun _=>vB true) (fun r=>[Wv,(1,some (.cells 172 [(.mp 2)])),(2,some (BH 3 3 false false 1 1 (aF .i64) (aF .i64) r.head))]) (kT u0 u1 u2 u3 u4 u5 o_):=
  scY tT mX rF ⟨[5],[0,1,2],fun _=>[(6,(vD (zL [(.int .i64 u0),(.int .i64 u1),(.int .i64 u2),(.int .i64 u3),(.int .i64 u4),(bN none 2 lW.cell u5)] 0)))],fun _=>[]⟩ (.rg {fr:=[(0,4)],fz:=[4]} []<| .e ())
  (.cl 5 (fI [(0,2)] (wU o_ u0 u1)) fun r_=> .r<| .e (⟨r_⟩:bL))
section
variable (x2:(List Bool)) (u6:(List Bool)) (u2:(List Bool)) (u7:(List Bool)) (u8:(List Bool)) (u9:(List Bool)) (u1:(List Bool)) (u3:(List (Int × Int))) (t9:Int) (u0:(List Link))
abbrev UY:DV:=(zL [(bN none 1 ai x2),(bN none 1 ai u6),(bN none 1 ai u2),(bN none 1 ai u7),(bN none 1 ai u8),(bN none 1 ai u9),(bN none 1 ai u1)] 0)
abbrev UB:Ob:=(BH 3 3 false false 1 1 (aF .i64) (aF .i64) u3)
abbrev Z7:=(bif (bif (at' x2 t9.toNat)then(!(at' u2 t9.toNat))else false)then(!(at' u1 (((at' u0 t9.toNat).a).toNat)))else false)
abbrev aal:=((gB [((bif (at' x2 t9.toNat)then(!(at' u2 t9.toNat))else false),true)]=true→(0:Int)≤(at' u0 t9.toNat).a∧(at' u0 t9.toNat).a<(u1.length:Int)))
abbrev Y8:=((gB [((Z7 x2 u2 u1 t9 u0),true)]=true→(0:Int)≤(at' u0 t9.toNat).b∧(at' u0 t9.toNat).b<(u1.length:Int)))
end
theorem vX (x1:Int) (u4:(List Source)) (u0:(List Link)) (u5:(List aT)) (x2:(List Bool)) (u6:(List Bool)) (u2:(List Bool)) (u7:(List Bool)) (u8:(List Bool)) (u9:(List Bool)) (u1:(List Bool)) (o_:bL):fA Tryz.prog 113 [(.one (.yl 0)),(sD (k3 u4 x1 u0 u5)),(sD (UY x2 u6 u2 u7 u8 u9 u1))] (abb o_) (fun r=>(.iw [])) (fun r=>[Wv,(1,some (.cells 172 [(.mp 2)])),(2,some (BH 3 3 false false 1 1 (aF .i64) (aF .i64) r.head))]) (kS x1 u4 u0 u5 x2 u6 u2 u7 u8 u9 u1 o_):=
  gu tT mX Tryz.func113 (
  .r<| .lp (σ:=((List (Int × Int)) × Int)) (β:=(List (Int × Int))) (o_.head,0) [] [] ⟨[0,2,7,8],[0,1],fun(u3,t9)=>[(9,(vI t9))],fun(u3,t9)=>[(2,some (UB u3))]⟩ ⟨[],[0,1],fun o501=>[],fun o501=>[(2,some (BH 3 3 false false 1 1 (aF .i64) (aF .i64) o501))]⟩
  (fun(u3,t9)=> .r<| .it (.a1 ((0:Int)≤t9∧t9<(u0.length:Int))<| .rg {fr:=[(3,10)],fz:=[10]} []<| .fk (bif (Z7 x2 u2 u1 t9 u0)then(!(at' u1 (((at' u0 t9.toNat).b).toNat)))else false) (.cy 34 (vL ((at' u0 t9.toNat).a) ((at' u0 t9.toNat).b) ((at' u0 t9.toNat).kind) ((at' u0 t9.toNat).most) ((at' u0 t9.toNat).ohm) ((at' u0 t9.toNat).trip) (⟨u3⟩:bL)) fun r_=> .a4 ((0:Int)≤t9∧t9<(x2.length:Int)) ((gB [((at' x2 t9.toNat),true)]=true→(0:Int)≤t9∧t9<(u2.length:Int))) (aal x2 u2 u1 t9 u0) (Y8 x2 u2 u1 t9 u0)<| .rg {ov:=[(31,true,5)]} [0,1,2,3, .k 4]<| .f<| .r<| .e (.next (r_.head,(k10 t9))))
  (.a4 ((0:Int)≤t9∧t9<(x2.length:Int)) ((gB [((at' x2 t9.toNat),true)]=true→(0:Int)≤t9∧t9<(u2.length:Int))) (aal x2 u2 u1 t9 u0) (Y8 x2 u2 u1 t9 u0)<| .rg {ov:=[(31,false,4)],sk:=[32,33,34,35]} [0,1,2,3]<| .f<| .r<| .e (.next (u3,(k10 t9)))))
  (.e (.done (.brk u3))))
  (fun o501=> .e (⟨o501⟩:bL)))
section
variable (u1:(List aS)) (u2:(List (Int × Int))) (u0:Int) (u3:Int) (u5:(List aS)) (u6:Int) (u4:(List (Int × Int))) (u7:Int)
abbrev aav:List (Nat × Option Ob):=[(60,some (.rows 140 2 u1.length (ol aS.ev u1) none)),(61,some (UB u2))]
abbrev uU:=((bR bA u0 u2).getD 0)
abbrev PK:List CV:=[(cI (uU u2 u0))]
abbrev BV:=(dL bA u0 (u1.length:Int) u2)
abbrev He:=(u1++[(⟨([]:List Int),([]:List Int)⟩:aS)])
abbrev YA:=(ol aS.ev (He u1))
abbrev J4:=((bR bA u0 (BV u1 u2 u0)).getD 0)
abbrev WR:=((J4 u1 u2 u0).toNat)
abbrev ZV:=(at' (He u1) (WR u1 u2 u0))
abbrev Mv:=((ZV u1 u2 u0).buses)
abbrev aac:=((Mv u1 u2 u0).length+[u3].length)
abbrev Pt:=((Mv u1 u2 u0)++[u3])
abbrev X0:=(aA (aF .i64) (Pt u1 u2 u0 u3))
abbrev Yy:=((He u1).set (WR u1 u2 u0) (⟨(Pt u1 u2 u0 u3),(ZV u1 u2 u0).sources⟩:aS))
abbrev Zq:=(ol aS.ev (Yy u1 u2 u0 u3))
abbrev JC:=((at' u1 ((uU u2 u0).toNat)).buses)
abbrev PL:=((JC u1 u2 u0)++[u3])
abbrev XY:=(aA (aF .i64) (PL u1 u2 u0 u3))
abbrev XP:=(u1.set ((uU u2 u0).toNat) (⟨(PL u1 u2 u0 u3),(at' u1 ((uU u2 u0).toNat)).sources⟩:aS))
abbrev aaf:=(ol aS.ev (XP u1 u2 u0 u3))
abbrev JP:=((at' u5 ((uU u4 u6).toNat)).sources)
abbrev Qy:=((JP u5 u6 u4)++[u7])
abbrev Xj:=(aA (aF .i64) (Qy u5 u6 u4 u7))
abbrev Xq:=(u5.set ((uU u4 u6).toNat) (⟨(at' u5 ((uU u4 u6).toNat)).buses,(Qy u5 u6 u4 u7)⟩:aS))
abbrev Zo:=(ol aS.ev (Xq u5 u6 u4 u7))
end
theorem iX (p:au) (s_:State):fA Tryz.prog 53 (k19 s_ p) [] (fun r=>(vD (bN none 2 aS.cell r))) (fun _=>[]) (ja p s_):=
  gu tT mX Tryz.func53 (
  .rg {fr:=[(0,55),(1,56)],fz:=[56]} []<| .rg {an:=[(0, .map 0 (pO (aF .i64) ([]:(List (Int × Int)))) (pY (aF .i64) ([]:(List (Int × Int)))) [])],fr:=[(0,57),(2,58)]} []<| .cl 2 (xV p s_) fun r_=> .r<| .cl 0 (fI [(0,59),(1,58),(2,57)] (vX r_.1 r_.2.1 r_.2.2.1 r_.2.2.2.1 r_.2.2.2.2.1 r_.2.2.2.2.2.1 r_.2.2.2.2.2.2.1 r_.2.2.2.2.2.2.2.1 r_.2.2.2.2.2.2.2.2.1 r_.2.2.2.2.2.2.2.2.2.1 r_.2.2.2.2.2.2.2.2.2.2 (⟨([]:(List (Int × Int)))⟩:bL))) fun v0=> .rf 59 [5] [] none 0 []<| .r<| .im (.adR 7 60 140 2 (ol aS.ev ([]:List aS)))<| .rg {an:=[(0, .map 0 (pO (aF .i64) ([]:(List (Int × Int)))) (pY (aF .i64) ([]:(List (Int × Int)))) [])],fr:=[(0,61)]} []<| .r<| .lp (σ:=((List aS) × (List (Int × Int)) × Int)) (β:=((List aS) × (List (Int × Int)))) (([]:List aS),([]:(List (Int × Int))),0) [] [] ⟨[2,3,5,8,31],[55,57,58],fun(u1,u2,u3)=>[(7,(vO 60 false u1.length)),(32,(vI u3))],fun(u1,u2,u3)=>(aav u1 u2)⟩ ⟨[2,3,5,8],[55,57,58],fun(u9,u4)=>[(7,(vO 60 false u9.length))],fun(u9,u4)=>(aav u9 u4)⟩
  (fun(u1,u2,u3)=> .r<| .it (.r<| .a1 ((0:Int)≤u3∧u3<(s_.badBus.length:Int))<| .r<| .it (.r<| .e (.next (u1,u2,(k10 u3))))
  (.cr 2 (fI [(0,57)] (gZ v0 u3)) fun u0=> .r<| .rg {an:=[(2, .look (bR bA u0 u2).isSome (PK u2 u0))]} [.pf ⟨eY [some .i64] 1 1 u2.length (pO (aF .i64) u2) (pY (aF .i64) u2) [(.int .i64 u0)] [(.d (.int .i64 0))] (bR bA u0 u2).isSome (PK u2 u0),ko (fun _=>rfl) (fun _ _=>rfl) u2 u0 0 rfl rfl rfl⟩]<| .r<| .it (.rg {an:=[(4, .map (BV u1 u2 u0).length (pO (aF .i64) (BV u1 u2 u0)) (pY (aF .i64) (BV u1 u2 u0)) [])]} [.pf ⟨qf [some .i64] 1 1 u2.length (pO (aF .i64) u2) (pY (aF .i64) u2) [(.int .i64 u0)] [(cI (u1.length:Int))] [] (BV u1 u2 u0).length (pO (aF .i64) (BV u1 u2 u0)) (pY (aF .i64) (BV u1 u2 u0)),vU (fun _=>rfl) (fun _ _=>rfl) u2 u0 (u1.length:Int) rfl rfl⟩]<| .a2 ((u1.length+[(⟨([]:List Int),([]:List Int)⟩:aS)].length)*48≤140737488355328) (u1.length+[(⟨([]:List Int),([]:List Int)⟩:aS)].length≤4611686018427387904)<| .rg {an:=[(2, .arr [(⟨([]:List Int),([]:List Int)⟩:aS)].length (qg 2 [nS,nS])),(3, .rows (He u1).length (YA u1))],fr:=[(2,86),(3,87)]} [.pf ⟨[(⟨([]:List Int),([]:List Int)⟩:aS)].length=1,rfl⟩, .pf ⟨aU 1 2 (qg 2 [nS,nS]) (qg 2 [nS,nS]),oZ _ _ _⟩, .e (u1.length),0,1, .pf ⟨(He u1).length=u1.length+[(⟨([]:List Int),([]:List Int)⟩:aS)].length,List.length_append⟩, .pf ⟨ER u1.length [(⟨([]:List Int),([]:List Int)⟩:aS)].length 2 (ol aS.ev u1) (qg 2 [nS,nS]) (YA u1),Uz _ _ _ _ _ (by intro i hi j hj;match i,j,hi,hj with|0,0,_,_=>exact⟨rfl,_,_,_,rfl⟩|0,1,_,_=>exact⟨rfl,_,_,_,rfl⟩)⟩]<| .rg {an:=[(2, .look (bR bA u0 (BV u1 u2 u0)).isSome [(cI (J4 u1 u2 u0))])]} [.pf ⟨eY [some .i64] 1 1 (BV u1 u2 u0).length (pO (aF .i64) (BV u1 u2 u0)) (pY (aF .i64) (BV u1 u2 u0)) [(.int .i64 u0)] [(.d (.int .i64 0))] (bR bA u0 (BV u1 u2 u0)).isSome [(cI (J4 u1 u2 u0))],ko (fun _=>rfl) (fun _ _=>rfl) (BV u1 u2 u0) u0 0 rfl rfl rfl⟩]<| .a3 ((0:Int)≤(J4 u1 u2 u0)∧(J4 u1 u2 u0)<((He u1).length:Int)) ((aac u1 u2 u0 u3)*8≤140737488355328) ((Mv u1 u2 u0).length+[u3].length≤4611686018427387904)<| .rg {an:=[(6, .take 88),(8, .arr [u3].length (aA (aF .i64) [u3])),(9, .arr (Pt u1 u2 u0 u3).length (X0 u1 u2 u0 u3)),(12, .rows 0 (Zq u1 u2 u0 u3))],fr:=[(8,89),(9,90)]} [0, .t 0 (J4 u1 u2 u0) ((He u1).length), .pf ⟨[u3].length=1,rfl⟩, .pf ⟨aU 1 1 (qg 1 [(.int .i64 u3)]) (aA (aF .i64) [u3]),(by intro i hi j hj;match i,j,hi,hj with|0,0,_,_=>rfl)⟩, .e ((Mv u1 u2 u0).length),1,2, .pf ⟨(Pt u1 u2 u0 u3).length=(Mv u1 u2 u0).length+[u3].length,List.length_append⟩, .pf ⟨aU (aac u1 u2 u0 u3) 1 (rW (aA (aF .i64) (Mv u1 u2 u0)) (Mv u1 u2 u0).length (aA (aF .i64) [u3])) (X0 u1 u2 u0 u3),eT _ _ _ _⟩,0, .t 0 (J4 u1 u2 u0) ((He u1).length), .e ((Pt u1 u2 u0 u3).length), .pf ⟨Nz (He u1).length 2 (Ug (YA u1) (WR u1 u2 u0) 0 (.row 3 1 (Pt u1 u2 u0 u3).length (X0 u1 u2 u0 u3))) (Zq u1 u2 u0 u3),yu _ _ _ _ _ _ _ _ rfl (fun j hj=>(match j,hj with|0,_=>rfl|1,_=>rfl))⟩, .pf ⟨∀i0 j0 c0,((some ((J4 u1 u2 u0).toNat,0,CV.own 88 false (Mv u1 u2 u0).length)):Option (Nat × Nat × CV))=some (i0,j0,c0)→i0=(J4 u1 u2 u0).toNat∧j0=0,(fun i0 j0 c0 e=>by cases e;exact⟨rfl,rfl⟩)⟩]<| .im (.ll 87 (He u1) (Yy u1 u2 u0 u3))<| .r<| .en (.next ((Yy u1 u2 u0 u3),(BV u1 u2 u0),(k10 u3))) [] [(87,60)])
  (.rg {an:=[(2, .look (bR bA u0 u2).isSome (PK u2 u0))]} [.pf ⟨eY [some .i64] 1 1 u2.length (pO (aF .i64) u2) (pY (aF .i64) u2) [(.int .i64 u0)] [(.d (.int .i64 0))] (bR bA u0 u2).isSome (PK u2 u0),ko (fun _=>rfl) (fun _ _=>rfl) u2 u0 0 rfl rfl rfl⟩]<| .a3 ((0:Int)≤(uU u2 u0)∧(uU u2 u0)<(u1.length:Int)) (((JC u1 u2 u0).length+[u3].length)*8≤140737488355328) ((JC u1 u2 u0).length+[u3].length≤4611686018427387904)<| .rg {an:=[(6, .take 91),(8, .arr [u3].length (aA (aF .i64) [u3])),(9, .arr (PL u1 u2 u0 u3).length (XY u1 u2 u0 u3)),(12, .rows 0 (aaf u1 u2 u0 u3))],fr:=[(8,92),(9,93)]} [0, .t 0 (uU u2 u0) u1.length, .pf ⟨[u3].length=1,rfl⟩, .pf ⟨aU 1 1 (qg 1 [(.int .i64 u3)]) (aA (aF .i64) [u3]),(by intro i hi j hj;match i,j,hi,hj with|0,0,_,_=>rfl)⟩, .e ((JC u1 u2 u0).length),1,2, .pf ⟨(PL u1 u2 u0 u3).length=(JC u1 u2 u0).length+[u3].length,List.length_append⟩, .pf ⟨aU ((JC u1 u2 u0).length+[u3].length) 1 (rW (aA (aF .i64) (JC u1 u2 u0)) (JC u1 u2 u0).length (aA (aF .i64) [u3])) (XY u1 u2 u0 u3),eT _ _ _ _⟩,0, .t 0 (uU u2 u0) u1.length, .e ((PL u1 u2 u0 u3).length), .pf ⟨Nz u1.length 2 (Ug (ol aS.ev u1) ((uU u2 u0).toNat) 0 (.row 3 1 (PL u1 u2 u0 u3).length (XY u1 u2 u0 u3))) (aaf u1 u2 u0 u3),yu _ _ _ _ _ _ _ _ rfl (fun j hj=>(match j,hj with|0,_=>rfl|1,_=>rfl))⟩, .pf ⟨∀i0 j0 c0,((some ((uU u2 u0).toNat,0,CV.own 91 false (JC u1 u2 u0).length)):Option (Nat × Nat × CV))=some (i0,j0,c0)→i0=(uU u2 u0).toNat∧j0=0,(fun i0 j0 c0 e=>by cases e;exact⟨rfl,rfl⟩)⟩]<| .im (.ll 60 u1 (XP u1 u2 u0 u3))<| .r<| .e (.next ((XP u1 u2 u0 u3),u2,(k10 u3))))))
  (.e (.done (.brk (u1,u2)))))
  (fun(u9,u4)=> .r<| .lp (σ:=((List aS) × Int)) (β:=(List aS)) (u9,0) [] [] ⟨[3,5,8,76,77],[57,58,61],fun(u5,u7)=>[(7,(vO 60 false u5.length)),(78,(vI u7))],fun(u5,u7)=>[(60,some (.rows 140 2 u5.length (ol aS.ev u5) none))]⟩ ⟨[],[],fun u8=>[(7,(vO 60 false u8.length))],fun u8=>[(60,some (.rows 140 2 u8.length (ol aS.ev u8) none))]⟩
  (fun(u5,u7)=> .r<| .it (.a1 ((0:Int)≤u7∧u7<(p.sources.length:Int))<| .rg {fr:=[(3,106)],fz:=[106]} []<| .a3 ((0:Int)≤u7∧u7<(s_.on_.length:Int)) (k41 s_ u7) (k42 s_ u7 p)<| .rg {} [0,1,2]<| .it (.cr 4 (fI [(0,57)] (gZ v0 (YN u7 p))) fun u6=> .rg {an:=[(5, .look (bR bA u6 u4).isSome (PK u4 u6))]} [0, .pf ⟨eY [some .i64] 1 1 u4.length (pO (aF .i64) u4) (pY (aF .i64) u4) [(.int .i64 u6)] [(.d (.int .i64 0))] (bR bA u6 u4).isSome (PK u4 u6),ko (fun _=>rfl) (fun _ _=>rfl) u4 u6 0 rfl rfl rfl⟩]<| .a3 ((0:Int)≤(uU u4 u6)∧(uU u4 u6)<(u5.length:Int)) (((JP u5 u6 u4).length+[u7].length)*8≤140737488355328) ((JP u5 u6 u4).length+[u7].length≤4611686018427387904)<| .rg {an:=[(6, .take 107),(8, .arr [u7].length (aA (aF .i64) [u7])),(9, .arr (Qy u5 u6 u4 u7).length (Xj u5 u6 u4 u7)),(12, .rows 0 (Zo u5 u6 u4 u7))],fr:=[(8,108),(9,109)]} [0, .t 0 (uU u4 u6) u5.length, .pf ⟨[u7].length=1,rfl⟩, .pf ⟨aU 1 1 (qg 1 [(.int .i64 u7)]) (aA (aF .i64) [u7]),(by intro i hi j hj;match i,j,hi,hj with|0,0,_,_=>rfl)⟩, .e ((JP u5 u6 u4).length),1,2, .pf ⟨(Qy u5 u6 u4 u7).length=(JP u5 u6 u4).length+[u7].length,List.length_append⟩, .pf ⟨aU ((JP u5 u6 u4).length+[u7].length) 1 (rW (aA (aF .i64) (JP u5 u6 u4)) (JP u5 u6 u4).length (aA (aF .i64) [u7])) (Xj u5 u6 u4 u7),eT _ _ _ _⟩,0, .t 0 (uU u4 u6) u5.length, .e ((Qy u5 u6 u4 u7).length), .pf ⟨Nz u5.length 2 (Ug (ol aS.ev u5) ((uU u4 u6).toNat) 1 (.row 3 1 (Qy u5 u6 u4 u7).length (Xj u5 u6 u4 u7))) (Zo u5 u6 u4 u7),yu _ _ _ _ _ _ _ _ rfl (fun j hj=>(match j,hj with|0,_=>rfl|1,_=>rfl))⟩, .pf ⟨∀i0 j0 c0,((some ((uU u4 u6).toNat,1,CV.own 107 false (JP u5 u6 u4).length)):Option (Nat × Nat × CV))=some (i0,j0,c0)→i0=(uU u4 u6).toNat∧j0=1,(fun i0 j0 c0 e=>by cases e;exact⟨rfl,rfl⟩)⟩]<| .im (.ll 60 u5 (Xq u5 u6 u4 u7))<| .r<| .e (.next ((Xq u5 u6 u4 u7),(k10 u7))))
  (.r<| .e (.next (u5,(k10 u7)))))
  (.e (.done (.brk u5))))
  (fun u8=> .r<| .fz [60]<| .im (.us 4 (vD (.sl none 2 u8.length (fun i j=>evD (ol aS.ev u8 i j)))) (vD (bN none 2 aS.cell u8)) (zC.v (F5.one (mV.d (pW.sl (.inr rfl) (fun i _ j hj=>match j,hj with|0,_=> .refl _|1,_=> .refl _))))))<| .e u8)))
section
variable (p:au) (u1:(List aS)) (u0:Int) (u3:Int) (u2:(List Bool))
abbrev EI:=(List.replicate p.buses.toNat (false:Bool))
abbrev Pb:=(aA ai (EI p))
abbrev PO:=(at' ((at' u1 u0.toNat).buses) u3.toNat)
abbrev Zj:=((0:Int)≤(PO u1 u0 u3)∧(PO u1 u0 u3)<(u2.length:Int))
abbrev Vl:=(u2.set ((PO u1 u0 u3).toNat) (decide (0<(((at' u1 u0.toNat).sources).length:Int))))
abbrev U2:=(aA ai (Vl u1 u0 u3 u2))
abbrev aaL:=(mh (aA ai u2) ((PO u1 u0 u3).toNat) 0 [(.bool (decide (0<(((at' u1 u0.toNat).sources).length:Int))))])
abbrev Zx:=((Vl u1 u0 u3 u2),(k10 u3))
end
theorem xh (p:au) (s_:State):fA Tryz.prog 21 (k19 s_ p) [] (fun r=>(.iw [(sD (bN none 1 ai r.1)),(sI r.2)])) (fun _=>[]) (iD p s_):=
  gu tT mX Tryz.func21 (
  .rg {fr:=[(0,7),(1,8)],fz:=[7,8]} []<| .cl 2 (dK p s_) fun r_=> .r<| .r<| .it (.r<| .e (([]:List Bool),r_))
  (.a3 ((0:Int)≤p.buses) ((1:Int)*p.buses≤281474976710656) ((p.buses:Int)≤9223372036854775807)<| .rg {an:=[(2, .arr (EI p).length (Pb p))],fr:=[(2,9)]} [0, .e ((p.buses:Int)),1,2, .pf ⟨(EI p).length=p.buses.toNat,List.length_replicate⟩, .pf ⟨aU p.buses.toNat 1 (fun _ j=>[(.bool false)].getD j .nilp) (Pb p),lH _ _ _ _ _ (fun j hj=>(match j,hj with|0,_=>rfl))⟩]<| .cl 2 (iX p s_) fun u1=> .r<| .lp (σ:=((List Bool) × Int)) (β:=(List Bool)) ((EI p),0) [] [] ⟨[23,24],[],fun(u4,u0)=>[(7,(vO 9 true u4.length)),(25,(vI u0))],fun(u4,u0)=>[(9,some (bQ 4 1 ai u4))]⟩ ⟨[],[],fun u5=>[(7,(vO 9 true u5.length))],fun u5=>[(9,some (bQ 4 1 ai u5))]⟩
  (fun(u4,u0)=> .r<| .it (.a1 ((0:Int)≤u0∧u0<(u1.length:Int))<| .rg {fr:=[(2,13)]} []<| .rg {fz:=[13]} []<| .lp (σ:=((List Bool) × Int)) (β:=(List Bool)) (u4,0) [] [] ⟨[9,23,24,25,30,31],[],fun(u2,u3)=>[(7,(vO 9 true u2.length)),(32,(vI u3))],fun(u2,u3)=>[(9,some (bQ 4 1 ai u2))]⟩ ⟨[23,24,25],[],fun u6=>[(7,(vO 9 true u6.length))],fun u6=>[(9,some (bQ 4 1 ai u6))]⟩
  (fun(u2,u3)=> .r<| .it (.a1 ((0:Int)≤u3∧u3<(((at' u1 u0.toNat).buses).length:Int))<| .r<| .a1 (Zj u1 u0 u3 u2)<| .rg {an:=[(7, .arr 0 (U2 u1 u0 u3 u2))]} [0, .t 0 (PO u1 u0 u3) u2.length, .pf ⟨aU u2.length 1 (aaL u1 u0 u3 u2) (U2 u1 u0 u3 u2),dB _ _ _ _ _ _ _ _ rfl (fun j hj=>(match j,hj with|0,_=>rfl))⟩]<| .im (.ll 9 u2 (Vl u1 u0 u3 u2))<| .r<| .e (.next (Zx u1 u0 u3 u2)))
  (.e (.done (.brk u2))))
  (fun u6=> .r<| .e (.next (u6,(k10 u0)))))
  (.e (.done (.brk u4))))
  (fun u5=> .rg {fz:=[9]} []<| .e (u5,0))))
section
variable (p:au) (u0:Int) (r_:((List Bool) × Int)) (u1:(List aY))
abbrev Ul:List DV:=[(.int .i64 (YR p u0))]
abbrev abe:=((gB [((decide (0≤(YR p u0))),true)]=true→(0:Int)≤(SY p u0).e0∧(SY p u0).e0<(r_.1.length:Int)))
abbrev UA:List DV:=[(.int .i64 (YK p u0))]
abbrev aa7:=((gB [((decide (0≤(YK p u0))),true)]=true→(0:Int)≤(SY p u0).e1∧(SY p u0).e1<(r_.1.length:Int)))
abbrev ZQ:=(bif (decide (0≤(YR p u0)))then(at' r_.1 ((YR p u0).toNat))else false)
abbrev aaj:=(bif (decide (0≤(YK p u0)))then(at' r_.1 ((YK p u0).toNat))else false)
abbrev Hg:=(⟨(ZQ p u0 r_),(aaj p u0 r_)⟩:aY)
abbrev Wx:=(u1.length+[(Hg p u0 r_)].length)
abbrev Zw:=((Wx p u0 r_ u1)*2≤140737488355328)
abbrev aa3:=(u1.length+[(Hg p u0 r_)].length≤4611686018427387904)
abbrev SH:=(aA aY.cell [(Hg p u0 r_)])
abbrev Qw:=(u1++[(Hg p u0 r_)])
abbrev U4:=(aA aY.cell (Qw p u0 r_ u1))
abbrev aas:=(qg 2 [(.bool (ZQ p u0 r_)),(.bool (aaj p u0 r_))])
abbrev abh:=(rW (aA aY.cell u1) u1.length (SH p u0 r_))
abbrev ZR:=((Qw p u0 r_ u1),(k10 u0))
end
theorem Fh (p:au) (s_:State):fA Tryz.prog 9 (k19 s_ p) [] (fun r=>(.iw [(sD (bN none 2 aY.cell r.1)),(sI r.2)])) (fun _=>[]) (nD p s_):=
  gu tT mX Tryz.func9 (
  .rg {fr:=[(0,18),(1,19)],fz:=[19]} []<| .cl 2 (xh p s_) fun r_=> .r<| .r<| .it (.r<| .e (([]:List aY),r_.2))
  (.r<| .r<| .im (.ad 8 36 50 2 (aA aY.cell ([]:List aY)))<| .lp (σ:=((List aY) × Int)) (β:=(List aY)) (([]:List aY),0) [] [(36,23)] ⟨[6,24,25],[],fun(u1,u0)=>[(8,(vO 23 false u1.length)),(26,(vI u0))],fun(u1,u0)=>[(23,some (bQ 50 2 aY.cell u1))]⟩ ⟨[],[],fun u2=>[(8,(vO 23 false u2.length))],fun u2=>[(23,some (bQ 50 2 aY.cell u2))]⟩
  (fun(u1,u0)=> .r<| .it (.a1 (k49 p u0)<| .rg {fr:=[(2,32)],fz:=[32]} []<| .rg {fr:=[(0,33)]} []<| .r<| .ul 11<| .r<| .t<| .rg {an:=[(1, .vals (Ul p u0))]} [.pf ⟨(0:Int)≤0∧(0:Int)<(2:Nat),(by decide)⟩, .pf ⟨0*1+1≤(Uh p u0).length,Nat.le_of_ble_eq_true rfl⟩, .pf ⟨((Uh p u0).drop (0*1)).take 1=(Ul p u0).map .d,rfl⟩]<| .a1 (abe p u0 r_)<| .rg {} [0, .pf ⟨(0:Int)≤0∧(0:Int)<(2:Nat),(by decide)⟩]<| .r<| .im (.dp [6,8,11,24,25,26,31,32])<| .r<| .t<| .rg {an:=[(1, .vals (UA p u0))]} [.pf ⟨(0:Int)≤1∧(1:Int)<(2:Nat),(by decide)⟩, .pf ⟨1*1+1≤(Uh p u0).length,Nat.le_of_ble_eq_true rfl⟩, .pf ⟨((Uh p u0).drop (1*1)).take 1=(UA p u0).map .d,rfl⟩]<| .a1 (aa7 p u0 r_)<| .rg {} [0, .pf ⟨(0:Int)≤1∧(1:Int)<(2:Nat),(by decide)⟩]<| .r<| .im (.dp [6,8,11,24,25,26,31,32])<| .r<| .f<| .a2 (Zw p u0 r_ u1) (aa3 p u0 r_ u1)<| .rg {an:=[(2, .arr [(Hg p u0 r_)].length (SH p u0 r_)),(3, .arr (Qw p u0 r_ u1).length (U4 p u0 r_ u1))],fr:=[(2,34),(3,35)]} [.pf ⟨[(Hg p u0 r_)].length=1,rfl⟩, .pf ⟨aU 1 2 (aas p u0 r_) (SH p u0 r_),(by intro i hi j hj;match i,j,hi,hj with|0,0,_,_=>rfl|0,1,_,_=>rfl)⟩, .e (u1.length),0,1, .pf ⟨(Qw p u0 r_ u1).length=u1.length+[(Hg p u0 r_)].length,List.length_append⟩, .pf ⟨aU (Wx p u0 r_ u1) 2 (abh p u0 r_ u1) (U4 p u0 r_ u1),eT _ _ _ _⟩]<| .r<| .en (.next (ZR p u0 r_ u1)) [] [(35,23)])
  (.e (.done (.brk u1))))
  (fun u2=> .rg {fz:=[23]} []<| .e (u2,0))))
theorem jg (x y:ah):Go.Proofs.ltOf eZ x y=true↔x.e0<y.e0∨ ¬ y.e0<x.e0∧x.e1<y.e1:=by
 unfold Go.Proofs.ltOf eZ;rw [decide_eq_true_iff]
 by_cases h0:x.e0<y.e0<;>by_cases g0:y.e0<x.e0<;>by_cases h1:x.e1<y.e1<;>by_cases g1:y.e1<x.e1<;>simp [h0,g0,h1,g1]
theorem xP:Go.Sort.SWO (Go.Proofs.ltOf eZ) where
 irrefl x:=by rw [←Bool.not_eq_true,jg];omega
 trans x y z h1 h2:=by rw [jg]at*;omega
 ntrans x y z h1 h2:=by rw [←Bool.not_eq_true,jg]at*;omega
theorem xG (x y:ah) (h1:(Go.Proofs.ltOf eZ) x y=false) (h2:(Go.Proofs.ltOf eZ) y x=false):x=y:=by
 rw [←Bool.not_eq_true,jg]at h1 h2
 obtain⟨a,b⟩:=x
 obtain⟨c,d⟩:=y
 have e1:a=c:=by simp only at h1 h2;omega
 have e2:b=d:=by simp only at h1 h2;omega
 rw [e1,e2]
theorem yZ (s:(List ah)) {r:(List ah)} (h:tV s=some r):Fn Tryz.prog 121 [(.one (.own 0 false s.length)),(sD (.fn 122 0 (bT [])))] [(0,some (.arr 41 2 s.length (aA ah.cell s)))] (.iw []) [(0,some (.arr 41 2 r.length (aA ah.cell r)))]:=
 XJ RP 2 Vw SL (fun x:ah=>[.int .i64 x.e0, .int .i64 x.e1]) (fun _=>rfl) (fun x v hv=>by simp at hv;rcases hv with rfl|rfl<;>rfl) eZ xP xG
  (Nn (fun x:ah=>[.int .i64 x.e0, .int .i64 x.e1]) (fun x=>x.e0) (fun x=>x.e1) (fun _=>rfl)) (enters_of Tryz.func122 (by kernel_rfl) rfl)
  (fun F w x j hj v=>match j,hj with|0,_=>Iff.rfl|1,_=>Iff.rfl) 121 rfl ⟨_,Tryz.func121,rfl,rfl⟩ s (by cases s with|nil=>(cases h;simp)|cons x xs=>exact h)
section
variable (u6:(List ah)) (u2:(List aS)) (u0:Int) (u1:Int) (u3:Int) (u4:(List ah))
abbrev Qz:List (Nat × Option Ob):=[(138,some (bQ 41 2 ah.cell u6))]
abbrev YB:=(((at' u2 u0.toNat).sources).drop ((k10 u1).toNat))
abbrev Lh:=(at' ((at' u2 u0.toNat).sources) u1.toNat)
abbrev U3:=(at' (YB u2 u0 u1) u3.toNat)
abbrev M5:=(⟨(Lh u2 u0 u1),(U3 u2 u0 u1 u3)⟩:ah)
abbrev aaU:=(u4.length+[(M5 u2 u0 u1 u3)].length)
abbrev Yh:=(aA ah.cell [(M5 u2 u0 u1 u3)])
abbrev UX:=(u4++[(M5 u2 u0 u1 u3)])
abbrev aaO:=(aA ah.cell (UX u2 u0 u1 u3 u4))
end
theorem AU (p:au) (s_:State):fA Tryz.prog 107 (k19 s_ p) [] (fun r=>(.iw [(sD (bN none 2 ah.cell r.1)),(sI r.2)])) (fun _=>[]) (xu p s_):=
  gu tT mX Tryz.func107 (
  .rg {fr:=[(0,134),(1,135)],fz:=[134,135]} []<| .cl 2 (dK p s_) fun r_=> .r<| .r<| .it (.r<| .e (([]:List ah),r_))
  (.r<| .cl 2 (iX p s_) fun u2=> .r<| .im (.ad 7 268 41 2 (aA ah.cell ([]:List ah)))<| .lp (σ:=((List ah) × Int)) (β:=(List ah)) (([]:List ah),0) [] [(268,138)] ⟨[2,22,23],[],fun(u6,u0)=>[(7,(vO 138 false u6.length)),(24,(vI u0))],fun(u6,u0)=>(Qz u6)⟩ ⟨[],[],fun u5=>[(7,(vO 138 false u5.length))],fun u5=>(Qz u5)⟩
  (fun(u6,u0)=> .r<| .it (.a1 ((0:Int)≤u0∧u0<(u2.length:Int))<| .rg {fr:=[(2,235)],fz:=[235]} []<| .r<| .lp (σ:=((List ah) × Int)) (β:=(List ah)) (u6,0) [] [] ⟨[2,9,22,23,24,29,30],[],fun(u7,u1)=>[(7,(vO 138 false u7.length)),(31,(vI u1))],fun(u7,u1)=>(Qz u7)⟩ ⟨[2,22,23,24],[],fun u8=>[(7,(vO 138 false u8.length))],fun u8=>(Qz u8)⟩
  (fun(u7,u1)=> .r<| .it (.a1 ((0:Int)≤u1∧u1<(((at' u2 u0.toNat).sources).length:Int))<| .r<| .a1 ((0:Int)≤(k10 u1)∧(k10 u1)≤(((at' u2 u0.toNat).sources).length:Int))<| .r<| .im (.us 40 (vD (.sl none 1 (((at' u2 u0.toNat).sources).length - ((k10 u1).toNat)) (fun iq jq=>aA (aF .i64) ((at' u2 u0.toNat).sources) (iq+((k10 u1).toNat)) jq))) (vD (bN none 1 (aF .i64) (YB u2 u0 u1))) (zC.v (F5.one (mV.d (pW.slN (by first|rw [List.length_append,List.length_drop]|simp only [List.length_set,List.length_drop,fq]) (.inr rfl) (XM _ _ _ _))))))<| .lp (σ:=((List ah) × Int)) (β:=(List ah)) (u7,0) [] [] ⟨[2,9,11,22,23,24,29,30,31,40,41],[],fun(u4,u3)=>[(7,(vO 138 false u4.length)),(42,(vI u3))],fun(u4,u3)=>(Qz u4)⟩ ⟨[2,9,22,23,24,29,30,31],[],fun u9=>[(7,(vO 138 false u9.length))],fun u9=>(Qz u9)⟩
  (fun(u4,u3)=> .r<| .it (.a1 ((0:Int)≤u3∧u3<((YB u2 u0 u1).length:Int))<| .r<| .a3 ((0:Int)≤(Lh u2 u0 u1)∧(Lh u2 u0 u1)<(p.sources.length:Int)) ((gB [((decide (((at' p.sources ((Lh u2 u0 u1).toNat)).sync)=0)),false)]=true→(0:Int)≤(Lh u2 u0 u1)∧(Lh u2 u0 u1)<(p.sources.length:Int))) ((gB [((decide (((at' p.sources ((Lh u2 u0 u1).toNat)).sync)=0)),false)]=true→(0:Int)≤(U3 u2 u0 u1 u3)∧(U3 u2 u0 u1 u3)<(p.sources.length:Int)))<| .rg {} [0,1,2]<| .it (.a2 ((aaU u2 u0 u1 u3 u4)*16≤140737488355328) (u4.length+[(M5 u2 u0 u1 u3)].length≤4611686018427387904)<| .rg {an:=[(4, .arr [(M5 u2 u0 u1 u3)].length (Yh u2 u0 u1 u3)),(5, .arr (UX u2 u0 u1 u3 u4).length (aaO u2 u0 u1 u3 u4))],fr:=[(4,266),(5,267)]} [.pf ⟨[(M5 u2 u0 u1 u3)].length=1,rfl⟩, .pf ⟨aU 1 2 (qg 2 [(.int .i64 (Lh u2 u0 u1)),(.int .i64 (U3 u2 u0 u1 u3))]) (Yh u2 u0 u1 u3),(by intro i hi j hj;match i,j,hi,hj with|0,0,_,_=>rfl|0,1,_,_=>rfl)⟩, .e (u4.length),0,1, .pf ⟨(UX u2 u0 u1 u3 u4).length=u4.length+[(M5 u2 u0 u1 u3)].length,List.length_append⟩, .pf ⟨aU (aaU u2 u0 u1 u3 u4) 2 (rW (aA ah.cell u4) u4.length (Yh u2 u0 u1 u3)) (aaO u2 u0 u1 u3 u4),eT _ _ _ _⟩]<| .r<| .en (.next ((UX u2 u0 u1 u3 u4),(k10 u3))) [] [(267,138)])
  (.r<| .e (.next (u4,(k10 u3)))))
  (.e (.done (.brk u4))))
  (fun u9=> .r<| .e (.next (u9,(k10 u1)))))
  (.e (.done (.brk u7))))
  (fun u8=> .r<| .e (.next (u8,(k10 u0)))))
  (.e (.done (.brk u6))))
  (fun u5=> .cl 1 (fI [(0,138)] ⟨fun h=>yZ u5 h⟩) fun v0=> .r<| .a1 (u5.length=v0.length)<| .so 7 138 false u5.length v0.length 0<| .so 77 138 false u5.length v0.length 0<| .fz [138]<| .r<| .e (v0,0))))
theorem AA (p:au) (s_:State):fA Tryz.prog 21 (k19 s_ p) [] (fun r=>(.iw [(.one (.own 0 false r.1.length)),(sI r.2)])) (fun r=>[(0,some (bQ 4 1 ai r.1))]) (iD p s_):=
  gu tT mX Tryz.func21 (
  .rg {fr:=[(0,7),(1,8)],fz:=[7,8]} []<| .cl 2 (dK p s_) fun r_=> .r<| .r<| .it (.r<| .im (.ad 4 9 4 1 (aA ai ([]:List Bool)))<| .en (([]:List Bool),r_) [] [(9,0)])
  (.a3 ((0:Int)≤p.buses) ((1:Int)*p.buses≤281474976710656) ((p.buses:Int)≤9223372036854775807)<| .rg {an:=[(2, .arr (EI p).length (Pb p))],fr:=[(2,10)]} [0, .e ((p.buses:Int)),1,2, .pf ⟨(EI p).length=p.buses.toNat,List.length_replicate⟩, .pf ⟨aU p.buses.toNat 1 (fun _ j=>[(.bool false)].getD j .nilp) (Pb p),lH _ _ _ _ _ (fun j hj=>(match j,hj with|0,_=>rfl))⟩]<| .cl 2 (iX p s_) fun u1=> .r<| .lp (σ:=((List Bool) × Int)) (β:=(List Bool)) ((EI p),0) [] [] ⟨[23,24],[],fun(u4,u0)=>[(7,(vO 10 true u4.length)),(25,(vI u0))],fun(u4,u0)=>[(10,some (bQ 4 1 ai u4))]⟩ ⟨[],[],fun u5=>[(7,(vO 10 true u5.length))],fun u5=>[(10,some (bQ 4 1 ai u5))]⟩
  (fun(u4,u0)=> .r<| .it (.a1 ((0:Int)≤u0∧u0<(u1.length:Int))<| .rg {fr:=[(2,14)]} []<| .rg {fz:=[14]} []<| .lp (σ:=((List Bool) × Int)) (β:=(List Bool)) (u4,0) [] [] ⟨[9,23,24,25,30,31],[],fun(u2,u3)=>[(7,(vO 10 true u2.length)),(32,(vI u3))],fun(u2,u3)=>[(10,some (bQ 4 1 ai u2))]⟩ ⟨[23,24,25],[],fun u6=>[(7,(vO 10 true u6.length))],fun u6=>[(10,some (bQ 4 1 ai u6))]⟩
  (fun(u2,u3)=> .r<| .it (.a1 ((0:Int)≤u3∧u3<(((at' u1 u0.toNat).buses).length:Int))<| .r<| .a1 (Zj u1 u0 u3 u2)<| .rg {an:=[(7, .arr 0 (U2 u1 u0 u3 u2))]} [0, .t 0 (PO u1 u0 u3) u2.length, .pf ⟨aU u2.length 1 (aaL u1 u0 u3 u2) (U2 u1 u0 u3 u2),dB _ _ _ _ _ _ _ _ rfl (fun j hj=>(match j,hj with|0,_=>rfl))⟩]<| .im (.ll 10 u2 (Vl u1 u0 u3 u2))<| .r<| .e (.next (Zx u1 u0 u3 u2)))
  (.e (.done (.brk u2))))
  (fun u6=> .r<| .e (.next (u6,(k10 u0)))))
  (.e (.done (.brk u4))))
  (fun u5=> .r<| .en (u5,0) [] [(10,0)])))
theorem Dj (p:au) (s_:State):fA Tryz.prog 9 (k19 s_ p) [] (fun r=>(.iw [(.one (.own 0 false r.1.length)),(sI r.2)])) (fun r=>[(0,some (bQ 50 2 aY.cell r.1))]) (nD p s_):=
  gu tT mX Tryz.func9 (
  .rg {fr:=[(0,19),(1,20)],fz:=[20]} []<| .cl 2 (fI [(0,21)] (AA p s_)) fun r_=> .rg {fz:=[21]} []<| .r<| .it (.r<| .im (.ad 4 22 50 2 (aA aY.cell ([]:List aY)))<| .en (([]:List aY),r_.2) [] [(22,0)])
  (.r<| .r<| .im (.ad 8 39 50 2 (aA aY.cell ([]:List aY)))<| .lp (σ:=((List aY) × Int)) (β:=(List aY)) (([]:List aY),0) [] [(39,26)] ⟨[6,24,25],[],fun(u1,u0)=>[(8,(vO 26 false u1.length)),(26,(vI u0))],fun(u1,u0)=>[(26,some (bQ 50 2 aY.cell u1))]⟩ ⟨[],[],fun u2=>[(8,(vO 26 false u2.length))],fun u2=>[(26,some (bQ 50 2 aY.cell u2))]⟩
  (fun(u1,u0)=> .r<| .it (.a1 (k49 p u0)<| .rg {fr:=[(2,35)],fz:=[35]} []<| .rg {fr:=[(0,36)]} []<| .r<| .ul 11<| .r<| .t<| .rg {an:=[(1, .vals (Ul p u0))]} [.pf ⟨(0:Int)≤0∧(0:Int)<(2:Nat),(by decide)⟩, .pf ⟨0*1+1≤(Uh p u0).length,Nat.le_of_ble_eq_true rfl⟩, .pf ⟨((Uh p u0).drop (0*1)).take 1=(Ul p u0).map .d,rfl⟩]<| .a1 (abe p u0 r_)<| .rg {} [0, .pf ⟨(0:Int)≤0∧(0:Int)<(2:Nat),(by decide)⟩]<| .r<| .im (.dp [6,8,11,24,25,26,31,32])<| .r<| .t<| .rg {an:=[(1, .vals (UA p u0))]} [.pf ⟨(0:Int)≤1∧(1:Int)<(2:Nat),(by decide)⟩, .pf ⟨1*1+1≤(Uh p u0).length,Nat.le_of_ble_eq_true rfl⟩, .pf ⟨((Uh p u0).drop (1*1)).take 1=(UA p u0).map .d,rfl⟩]<| .a1 (aa7 p u0 r_)<| .rg {} [0, .pf ⟨(0:Int)≤1∧(1:Int)<(2:Nat),(by decide)⟩]<| .r<| .im (.dp [6,8,11,24,25,26,31,32])<| .r<| .f<| .a2 (Zw p u0 r_ u1) (aa3 p u0 r_ u1)<| .rg {an:=[(2, .arr [(Hg p u0 r_)].length (SH p u0 r_)),(3, .arr (Qw p u0 r_ u1).length (U4 p u0 r_ u1))],fr:=[(2,37),(3,38)]} [.pf ⟨[(Hg p u0 r_)].length=1,rfl⟩, .pf ⟨aU 1 2 (aas p u0 r_) (SH p u0 r_),(by intro i hi j hj;match i,j,hi,hj with|0,0,_,_=>rfl|0,1,_,_=>rfl)⟩, .e (u1.length),0,1, .pf ⟨(Qw p u0 r_ u1).length=u1.length+[(Hg p u0 r_)].length,List.length_append⟩, .pf ⟨aU (Wx p u0 r_ u1) 2 (abh p u0 r_ u1) (U4 p u0 r_ u1),eT _ _ _ _⟩]<| .r<| .en (.next (ZR p u0 r_ u1)) [] [(38,26)])
  (.e (.done (.brk u1))))
  (fun u2=> .r<| .en (u2,0) [] [(26,0)])))
theorem Bf (r_:Int) (x1:(List aY)):fA Tryz.prog 108 [(sI r_),(sD (zL [(bN none 2 aY.cell x1)] 0))] [] (fun r=>(vB r)) (fun _=>[]) (xD r_ x1):=
  gu tT mX Tryz.func108 (
  .r<| .a2 ((0:Int)≤r_∧r_<(x1.length:Int)) ((gB [((!((at' x1 r_.toNat).e0)),true)]=true→(0:Int)≤r_∧r_<(x1.length:Int)))<| .rg {} [0, .pf ⟨(0:Int)≤0∧(0:Int)<(2:Nat),(by decide)⟩,1, .pf ⟨(0:Int)≤1∧(1:Int)<(2:Nat),(by decide)⟩]<| .e (bif (!((at' x1 r_.toNat).e0))then(!((at' x1 r_.toNat).e1))else false))
section
variable (s_:(List Int)) (f_:(List aY))
abbrev Zt:List SV:=[(sD (UL s_)),(sD (.fn 108 1 (bT [(zL [(bN none 2 aY.cell f_)] 0)])))]
end
theorem qP (s_:(List Int)) (f_:(List aY)):fA Tryz.prog 119 (Zt s_ f_) [] (fun r=>(vI r)) (fun _=>[]) (lZ s_ f_):=
  gu tT mX Tryz.func119 (
  .r<| .r<| .lp (σ:=Int) (β:=Unit) (0) [] [] ⟨[0,1,7],[],fun t8=>[(8,(vI t8))],fun t8=>[]⟩ ⟨[],[],fun _=>[],fun _=>[]⟩
  (fun t8=> .r<| .it (.r<| .cl 5 (Bf (at' s_ t8.toNat) f_) fun r_=> .a1 (YP s_ t8)<| .rg {} [0,1]<| .it (.r<| .e (.done (.ret t8)))
  (.r<| .e (.next (k10 t8))))
  (.e (.done (.brk ()))))
  (fun _=> .r<| .e (-1)))
theorem oV (s_:(List Int)) (f_:(List aY)):fA Tryz.prog 101 (Zt s_ f_) [] (fun r=>(vB r)) (fun _=>[]) (kI s_ f_):=
  gu tT mX Tryz.func101 (
  .r<| .cl 2 (qP s_ f_) fun r_=> .r<| .e (decide (0≤r_)))
theorem EK (p:au) (s_:State) (t:Task) (b:Int):fA Tryz.prog 110 [(.agg (k1 p)),(.agg (k20 s_)),(.agg (Mr t)),(sI b)] [] (fun r=>(vB r)) (fun _=>[]) (Cj p s_ t b):=
  gu tT mX Tryz.func110 (
  .rg {fr:=[(0,11),(1,12),(2,13)],fz:=[12,13]} []<| .a1 ((0:Int)≤b∧b<(s_.earthed.length:Int))<| .r<| .it (.r<| .e false)
  (.r<| .lp (σ:=Int) (β:=Unit) (0) [] [] ⟨[3,4,5,6,20,21],[11],fun u1=>[(22,(vI u1))],fun u1=>[]⟩ ⟨[3,4,5,6],[11],fun _=>[],fun _=>[]⟩
  (fun u1=> .r<| .it (.a1 ((0:Int)≤u1∧u1<(p.sources.length:Int))<| .rg {fr:=[(3,17)],fz:=[17]} []<| .a1 ((gB [((decide ((YN u1 p)=b)),true)]=true→(0:Int)≤u1∧u1<(s_.on_.length:Int)))<| .r<| .it (.r<| .e (.done (.ret false)))
  (.r<| .e (.next (k10 u1))))
  (.e (.done (.brk ()))))
  (fun _=> .r<| .lp (σ:=Int) (β:=Unit) (0) [] [] ⟨[3,5,6,40,41],[],fun u0=>[(42,(vI u0))],fun u0=>[]⟩ ⟨[],[],fun _=>[],fun _=>[]⟩
  (fun u0=> .r<| .it (.a1 (k27 p u0)<| .rg {fr:=[(3,21)],fz:=[21]} []<| .cg 20 [((bif (!decide ((Uc p u0)=b))then(!decide ((VH p u0)=b))else false),false)] (jE t.crew (IntKind.wrap .i64 ((IntKind.wrap .i64 ((Uc p u0)+(VH p u0))) - b))) fun r_=> .r<| .it (.r<| .e (.next (k10 u0)))
  (.a2 ((gB [((decide (((at' p.links u0.toNat).kind)=1)),false)]=true→(0:Int)≤u0∧u0<(s_.closed.length:Int))) ((gB [((bif (decide (((at' p.links u0.toNat).kind)=1))then true else(at' s_.closed u0.toNat)),false)]=true→(0:Int)≤u0∧u0<(s_.locked.length:Int)))<| .rg {} [0,1]<| .it (.r<| .e (.done (.ret false)))
  (.r<| .e (.next (k10 u0)))))
  (.e (.done (.brk ()))))
  (fun _=> .r<| .e true))))
section
variable (x3:(List Int)) (u9:(List Int)) (v0:(List aJ)) (v1:(List aJ))
abbrev ZT:DV:=(zL [(UL x3),(UL u9),(bN none 2 aJ.cell v0),(bN none 2 aJ.cell v1)] 0)
end
theorem Bh (b:Int) (x1:Int) (u0:(List Source)) (u1:(List Link)) (u2:(List aT)) (x2:(List Bool)) (u3:(List Bool)) (u4:(List Bool)) (u5:(List Bool)) (u6:(List Bool)) (u7:(List Bool)) (u8:(List Bool)) (x3:(List Int)) (u9:(List Int)) (v0:(List aJ)) (v1:(List aJ)):fA Tryz.prog 109 [(sI b),(sD (k3 u0 x1 u1 u2)),(sD (UY x2 u3 u4 u5 u6 u7 u8)),(sD (ZT x3 u9 v0 v1))] [] (fun r=>(vB r)) (fun _=>[]) (xq b x1 u0 u1 u2 x2 u3 u4 u5 u6 u7 u8 x3 u9 v0 v1):=
  gu tT mX Tryz.func109 (
  .r<| .cl 4 (EK (⟨x1,u0,u1,u2⟩:au) (⟨x2,u3,u4,u5,u6,u7,u8⟩:State) (⟨x3,u9,v0,v1⟩:Task) b) fun r_=> .r<| .e (!r_))
section
variable (s_:(List Int)) (f_:Int) (u0:(List Source)) (u1:(List Link)) (u2:(List aT)) (u3:(List Bool)) (u4:(List Bool)) (u5:(List Bool)) (u6:(List Bool)) (u7:(List Bool)) (u8:(List Bool)) (u9:(List Bool)) (v0:(List Int)) (v1:(List Int)) (v2:(List aJ)) (v3:(List aJ))
abbrev ZP:List SV:=[(sD (UL s_)),(sD (.fn 109 3 (bT [(k3 u0 f_ u1 u2),(UY u3 u4 u5 u6 u7 u8 u9),(ZT v0 v1 v2 v3)])))]
end
theorem qo (s_:(List Int)) (f_:Int) (u0:(List Source)) (u1:(List Link)) (u2:(List aT)) (u3:(List Bool)) (u4:(List Bool)) (u5:(List Bool)) (u6:(List Bool)) (u7:(List Bool)) (u8:(List Bool)) (u9:(List Bool)) (v0:(List Int)) (v1:(List Int)) (v2:(List aJ)) (v3:(List aJ)):fA Tryz.prog 119 (ZP s_ f_ u0 u1 u2 u3 u4 u5 u6 u7 u8 u9 v0 v1 v2 v3) [] (fun r=>(vI r)) (fun _=>[]) (l9 s_ f_ u0 u1 u2 u3 u4 u5 u6 u7 u8 u9 v0 v1 v2 v3):=
  gu tT mX Tryz.func119 (
  .r<| .r<| .lp (σ:=Int) (β:=Unit) (0) [] [] ⟨[0,1,7],[],fun t8=>[(8,(vI t8))],fun t8=>[]⟩ ⟨[],[],fun _=>[],fun _=>[]⟩
  (fun t8=> .r<| .it (.r<| .cl 5 (Bh (at' s_ t8.toNat) f_ u0 u1 u2 u3 u4 u5 u6 u7 u8 u9 v0 v1 v2 v3) fun r_=> .a1 (YP s_ t8)<| .rg {} [0,1]<| .it (.r<| .e (.done (.ret t8)))
  (.r<| .e (.next (k10 t8))))
  (.e (.done (.brk ()))))
  (fun _=> .r<| .e (-1)))
theorem oP (s_:(List Int)) (f_:Int) (u0:(List Source)) (u1:(List Link)) (u2:(List aT)) (u3:(List Bool)) (u4:(List Bool)) (u5:(List Bool)) (u6:(List Bool)) (u7:(List Bool)) (u8:(List Bool)) (u9:(List Bool)) (v0:(List Int)) (v1:(List Int)) (v2:(List aJ)) (v3:(List aJ)):fA Tryz.prog 101 (ZP s_ f_ u0 u1 u2 u3 u4 u5 u6 u7 u8 u9 v0 v1 v2 v3) [] (fun r=>(vB r)) (fun _=>[]) (kL s_ f_ u0 u1 u2 u3 u4 u5 u6 u7 u8 u9 v0 v1 v2 v3):=
  gu tT mX Tryz.func101 (
  .r<| .cl 2 (qo s_ f_ u0 u1 u2 u3 u4 u5 u6 u7 u8 u9 v0 v1 v2 v3) fun r_=> .r<| .e (decide (0≤r_)))
section
variable (p:au) (s_:State) (t:Task)
abbrev Z0:List SV:=[(.agg (k1 p)),(.agg (k20 s_)),(.agg (Mr t))]
end
theorem vZ (p:au) (s_:State) (t:Task):fA Tryz.prog 80 (Z0 p s_ t) [] (fun r=>(vI r)) (fun _=>[]) (uR p s_ t):=
  gu tT mX Tryz.func80 (
  .rg {fr:=[(0,5),(1,6),(2,7)],fz:=[5,6,7]} []<| .cl 2 (xh p s_) fun r_=> .r<| .r<| .lp (σ:=Int) (β:=Unit) (0) [] [] ⟨[3,4,5,21,22],[],fun u0=>[(23,(vI u0))],fun u0=>[]⟩ ⟨[3,4,5],[],fun _=>[],fun _=>[]⟩
  (fun u0=> .r<| .it (.a1 ((0:Int)≤u0∧u0<(r_.1.length:Int))<| .r<| .a1 ((gB [((at' r_.1 u0.toNat),true)]=true→(0:Int)≤u0∧u0<(s_.earthed.length:Int)))<| .r<| .it (.r<| .e (.done (.ret 40)))
  (.r<| .e (.next (k10 u0))))
  (.e (.done (.brk ()))))
  (fun _=> .cl 2 (AU p s_) fun u2=> .r<| .r<| .it (.r<| .e 41)
  (.cl 2 (fI [(0,8)] (Dj p s_)) fun u1=> .rg {fr:=[(6,9)],fz:=[8]} []<| .fz [9]<| .cl 3 (oV t.fed u1.1) fun u3=> .r<| .it (.r<| .e 42)
  (.cl 3 (oP t.crew p.buses p.sources p.links p.racks s_.closed s_.locked s_.badLink s_.on_ s_.badSource s_.earthed s_.badBus t.fed t.crew t.allowed t.goal) fun u4=> .r<| .it (.r<| .e 45)
  (.r<| .e 0)))))
theorem Dq (p:au) (s_:State) (t:Task):fA Tryz.prog 50 (Z0 p s_ t) [] (fun r=>(vI r)) (fun _=>[]) (Ar p s_ t):=
  gu tT mX Tryz.func50 (
  .rg {fr:=[(0,3),(1,4),(2,5)],fz:=[3,4,5]} []<| .cl 2 (dK p s_) fun r_=> .r<| .r<| .it (.r<| .e r_)
  (.cl 2 (BQ p t) fun u1=> .r<| .it (.r<| .e 1)
  (.cl 3 (vZ p s_ t) fun u0=> .r<| .e u0)))
abbrev uT:List DV:=[(.int .i64 1),(.int .i64 2),(.int .i64 3),(.int .i64 4),(.int .i64 5),(.int .i64 6),(.int .i64 7),(.int .i64 8)]
abbrev vk:List CV:=[(.d (.fn 145 0 (bT []))),(cB false),(.d (.fn 145 0 (bT []))),(cB true),(.d (.fn 147 0 (bT []))),(cB true),(.d (.fn 147 0 (bT []))),(cB false),(.d (.fn 146 0 (bT []))),(cB true),(.d (.fn 146 0 (bT []))),(cB false),(.d (.fn 148 0 (bT []))),(cB true),(.d (.fn 148 0 (bT []))),(cB false)]
abbrev Lx:List CV:=[(.d (.fn 145 0 (bT []))),(cB false)]
abbrev Yq:List CV:=[(.d (.fn 145 0 (bT []))),(cB false),(.d (.fn 145 0 (bT []))),(cB true)]
abbrev Xm:List CV:=[(.d (.fn 145 0 (bT []))),(cB false),(.d (.fn 145 0 (bT []))),(cB true),(.d (.fn 147 0 (bT []))),(cB true)]
abbrev X9:List DV:=[(.int .i64 1),(.int .i64 2),(.int .i64 3),(.int .i64 4)]
abbrev YC:List CV:=[(.d (.fn 145 0 (bT []))),(cB false),(.d (.fn 145 0 (bT []))),(cB true),(.d (.fn 147 0 (bT []))),(cB true),(.d (.fn 147 0 (bT []))),(cB false)]
abbrev Xp:List DV:=[(.int .i64 1),(.int .i64 2),(.int .i64 3),(.int .i64 4),(.int .i64 5)]
abbrev X5:List CV:=[(.d (.fn 145 0 (bT []))),(cB false),(.d (.fn 145 0 (bT []))),(cB true),(.d (.fn 147 0 (bT []))),(cB true),(.d (.fn 147 0 (bT []))),(cB false),(.d (.fn 146 0 (bT []))),(cB true)]
abbrev XK:List DV:=[(.int .i64 1),(.int .i64 2),(.int .i64 3),(.int .i64 4),(.int .i64 5),(.int .i64 6)]
abbrev Yg:List CV:=[(.d (.fn 145 0 (bT []))),(cB false),(.d (.fn 145 0 (bT []))),(cB true),(.d (.fn 147 0 (bT []))),(cB true),(.d (.fn 147 0 (bT []))),(cB false),(.d (.fn 146 0 (bT []))),(cB true),(.d (.fn 146 0 (bT []))),(cB false)]
abbrev Xg:List DV:=[(.int .i64 1),(.int .i64 2),(.int .i64 3),(.int .i64 4),(.int .i64 5),(.int .i64 6),(.int .i64 7)]
abbrev Xb:List CV:=[(.d (.fn 145 0 (bT []))),(cB false),(.d (.fn 145 0 (bT []))),(cB true),(.d (.fn 147 0 (bT []))),(cB true),(.d (.fn 147 0 (bT []))),(cB false),(.d (.fn 146 0 (bT []))),(cB true),(.d (.fn 146 0 (bT []))),(cB false),(.d (.fn 148 0 (bT []))),(cB true)]
abbrev QZ:List CV:=[(.d (.fn 145 0 (bT []))),(cB true)]
abbrev TW:List CV:=[(.d (.fn 147 0 (bT []))),(cB true)]
abbrev Sl:List CV:=[(.d (.fn 147 0 (bT []))),(cB false)]
abbrev Rw:List CV:=[(.d (.fn 146 0 (bT []))),(cB true)]
abbrev R7:List CV:=[(.d (.fn 146 0 (bT []))),(cB false)]
abbrev RO:List CV:=[(.d (.fn 148 0 (bT []))),(cB true)]
abbrev Te:List CV:=[(.d (.fn 148 0 (bT []))),(cB false)]
theorem ql:fA Tryz.prog 133 [] [] (fun _=>(.v (.one (.mp 0)))) (fun _=>[(0,some (.map ⟨78,227,false,true,1,2,8,(tF uT),(tJ 2 vk),[]⟩))]) (o5):=
  gu tT mX Tryz.func133 (
  .r<| .r<| .r<| .r<| .r<| .rg {an:=[(0, .map 0 (tF []) (tJ 2 []) []),(3, .map 1 (tF [(.int .i64 1)]) (tJ 2 Lx) []),(6, .map 2 (tF [(.int .i64 1),(.int .i64 2)]) (tJ 2 Yq) []),(9, .map 3 (tF [(.int .i64 1),(.int .i64 2),(.int .i64 3)]) (tJ 2 Xm) []),(12, .map 4 (tF X9) (tJ 2 YC) []),(15, .map 5 (tF Xp) (tJ 2 X5) []),(18, .map 6 (tF XK) (tJ 2 Yg) []),(21, .map 7 (tF Xg) (tJ 2 Xb) []),(24, .map 8 (tF uT) (tJ 2 vk) [])],fr:=[(0,1)]} [.pf ⟨qf [some .i64] 1 2 0 (tF []) (tJ 2 []) [(.int .i64 1)] Lx [] 1 (tF [(.int .i64 1)]) (tJ 2 Lx),⟨(fun i hi=>absurd hi (Nat.not_lt_zero i)),(by intro i hi j hj;match i,j,hi,hj with|0,0,_,_=>exact aM.1 (show bU (CV.bn (.d (.fn 145 0 (bT [])))) []=true from by kernel_rfl)|0,1,_,_=>exact aM.1 (show bU (CV.bn (cB false)) []=true from by kernel_rfl)),0,(fun i hi=>absurd hi (Nat.not_lt_zero i)), .inr ⟨rfl,rfl⟩,rfl,rfl,(fun i hi=>absurd hi (Nat.not_lt_zero i))⟩⟩, .pf ⟨qf [some .i64] 1 2 1 (tF [(.int .i64 1)]) (tJ 2 Lx) [(.int .i64 2)] QZ [] 2 (tF [(.int .i64 1),(.int .i64 2)]) (tJ 2 Yq),⟨(by intro i hi;match i,hi with|0,_=>rfl),(by intro i hi j hj;match i,j,hi,hj with|0,0,_,_=>exact aM.1 (show bU (CV.bn (.d (.fn 145 0 (bT [])))) []=true from by kernel_rfl)|0,1,_,_=>exact aM.1 (show bU (CV.bn (cB false)) []=true from by kernel_rfl)|1,0,_,_=>exact aM.1 (show bU (CV.bn (.d (.fn 145 0 (bT [])))) []=true from by kernel_rfl)|1,1,_,_=>exact aM.1 (show bU (CV.bn (cB true)) []=true from by kernel_rfl)),1,(by intro i hi;match i,hi with|0,_=>rfl), .inr ⟨rfl,rfl⟩,rfl,rfl,(by intro i hi;match i,hi with|0,_=>exact fun _=> ⟨rfl,rfl⟩)⟩⟩, .pf ⟨qf [some .i64] 1 2 2 (tF [(.int .i64 1),(.int .i64 2)]) (tJ 2 Yq) [(.int .i64 3)] TW [] 3 (tF [(.int .i64 1),(.int .i64 2),(.int .i64 3)]) (tJ 2 Xm),⟨(by intro i hi;match i,hi with|0,_=>rfl|1,_=>rfl),(by intro i hi j hj;match i,j,hi,hj with|0,0,_,_=>exact aM.1 (show bU (CV.bn (.d (.fn 145 0 (bT [])))) []=true from by kernel_rfl)|0,1,_,_=>exact aM.1 (show bU (CV.bn (cB false)) []=true from by kernel_rfl)|1,0,_,_=>exact aM.1 (show bU (CV.bn (.d (.fn 145 0 (bT [])))) []=true from by kernel_rfl)|1,1,_,_=>exact aM.1 (show bU (CV.bn (cB true)) []=true from by kernel_rfl)|2,0,_,_=>exact aM.1 (show bU (CV.bn (.d (.fn 147 0 (bT [])))) []=true from by kernel_rfl)|2,1,_,_=>exact aM.1 (show bU (CV.bn (cB true)) []=true from by kernel_rfl)),2,(by intro i hi;match i,hi with|0,_=>rfl|1,_=>rfl), .inr ⟨rfl,rfl⟩,rfl,rfl,(by intro i hi;match i,hi with|0,_=>exact fun _=> ⟨rfl,rfl⟩|1,_=>exact fun _=> ⟨rfl,rfl⟩)⟩⟩, .pf ⟨qf [some .i64] 1 2 3 (tF [(.int .i64 1),(.int .i64 2),(.int .i64 3)]) (tJ 2 Xm) [(.int .i64 4)] Sl [] 4 (tF X9) (tJ 2 YC),⟨(by intro i hi;match i,hi with|0,_=>rfl|1,_=>rfl|2,_=>rfl),(by intro i hi j hj;match i,j,hi,hj with|0,0,_,_=>exact aM.1 (show bU (CV.bn (.d (.fn 145 0 (bT [])))) []=true from by kernel_rfl)|0,1,_,_=>exact aM.1 (show bU (CV.bn (cB false)) []=true from by kernel_rfl)|1,0,_,_=>exact aM.1 (show bU (CV.bn (.d (.fn 145 0 (bT [])))) []=true from by kernel_rfl)|1,1,_,_=>exact aM.1 (show bU (CV.bn (cB true)) []=true from by kernel_rfl)|2,0,_,_=>exact aM.1 (show bU (CV.bn (.d (.fn 147 0 (bT [])))) []=true from by kernel_rfl)|2,1,_,_=>exact aM.1 (show bU (CV.bn (cB true)) []=true from by kernel_rfl)|3,0,_,_=>exact aM.1 (show bU (CV.bn (.d (.fn 147 0 (bT [])))) []=true from by kernel_rfl)|3,1,_,_=>exact aM.1 (show bU (CV.bn (cB false)) []=true from by kernel_rfl)),3,(by intro i hi;match i,hi with|0,_=>rfl|1,_=>rfl|2,_=>rfl), .inr ⟨rfl,rfl⟩,rfl,rfl,(by intro i hi;match i,hi with|0,_=>exact fun _=> ⟨rfl,rfl⟩|1,_=>exact fun _=> ⟨rfl,rfl⟩|2,_=>exact fun _=> ⟨rfl,rfl⟩)⟩⟩, .pf ⟨qf [some .i64] 1 2 4 (tF X9) (tJ 2 YC) [(.int .i64 5)] Rw [] 5 (tF Xp) (tJ 2 X5),⟨(by intro i hi;match i,hi with|0,_=>rfl|1,_=>rfl|2,_=>rfl|3,_=>rfl),(by intro i hi j hj;match i,j,hi,hj with|0,0,_,_=>exact aM.1 (show bU (CV.bn (.d (.fn 145 0 (bT [])))) []=true from by kernel_rfl)|0,1,_,_=>exact aM.1 (show bU (CV.bn (cB false)) []=true from by kernel_rfl)|1,0,_,_=>exact aM.1 (show bU (CV.bn (.d (.fn 145 0 (bT [])))) []=true from by kernel_rfl)|1,1,_,_=>exact aM.1 (show bU (CV.bn (cB true)) []=true from by kernel_rfl)|2,0,_,_=>exact aM.1 (show bU (CV.bn (.d (.fn 147 0 (bT [])))) []=true from by kernel_rfl)|2,1,_,_=>exact aM.1 (show bU (CV.bn (cB true)) []=true from by kernel_rfl)|3,0,_,_=>exact aM.1 (show bU (CV.bn (.d (.fn 147 0 (bT [])))) []=true from by kernel_rfl)|3,1,_,_=>exact aM.1 (show bU (CV.bn (cB false)) []=true from by kernel_rfl)|4,0,_,_=>exact aM.1 (show bU (CV.bn (.d (.fn 146 0 (bT [])))) []=true from by kernel_rfl)|4,1,_,_=>exact aM.1 (show bU (CV.bn (cB true)) []=true from by kernel_rfl)),4,(by intro i hi;match i,hi with|0,_=>rfl|1,_=>rfl|2,_=>rfl|3,_=>rfl), .inr ⟨rfl,rfl⟩,rfl,rfl,(by intro i hi;match i,hi with|0,_=>exact fun _=> ⟨rfl,rfl⟩|1,_=>exact fun _=> ⟨rfl,rfl⟩|2,_=>exact fun _=> ⟨rfl,rfl⟩|3,_=>exact fun _=> ⟨rfl,rfl⟩)⟩⟩, .pf ⟨qf [some .i64] 1 2 5 (tF Xp) (tJ 2 X5) [(.int .i64 6)] R7 [] 6 (tF XK) (tJ 2 Yg),⟨(by intro i hi;match i,hi with|0,_=>rfl|1,_=>rfl|2,_=>rfl|3,_=>rfl|4,_=>rfl),(by intro i hi j hj;match i,j,hi,hj with|0,0,_,_=>exact aM.1 (show bU (CV.bn (.d (.fn 145 0 (bT [])))) []=true from by kernel_rfl)|0,1,_,_=>exact aM.1 (show bU (CV.bn (cB false)) []=true from by kernel_rfl)|1,0,_,_=>exact aM.1 (show bU (CV.bn (.d (.fn 145 0 (bT [])))) []=true from by kernel_rfl)|1,1,_,_=>exact aM.1 (show bU (CV.bn (cB true)) []=true from by kernel_rfl)|2,0,_,_=>exact aM.1 (show bU (CV.bn (.d (.fn 147 0 (bT [])))) []=true from by kernel_rfl)|2,1,_,_=>exact aM.1 (show bU (CV.bn (cB true)) []=true from by kernel_rfl)|3,0,_,_=>exact aM.1 (show bU (CV.bn (.d (.fn 147 0 (bT [])))) []=true from by kernel_rfl)|3,1,_,_=>exact aM.1 (show bU (CV.bn (cB false)) []=true from by kernel_rfl)|4,0,_,_=>exact aM.1 (show bU (CV.bn (.d (.fn 146 0 (bT [])))) []=true from by kernel_rfl)|4,1,_,_=>exact aM.1 (show bU (CV.bn (cB true)) []=true from by kernel_rfl)|5,0,_,_=>exact aM.1 (show bU (CV.bn (.d (.fn 146 0 (bT [])))) []=true from by kernel_rfl)|5,1,_,_=>exact aM.1 (show bU (CV.bn (cB false)) []=true from by kernel_rfl)),5,(by intro i hi;match i,hi with|0,_=>rfl|1,_=>rfl|2,_=>rfl|3,_=>rfl|4,_=>rfl), .inr ⟨rfl,rfl⟩,rfl,rfl,(by intro i hi;match i,hi with|0,_=>exact fun _=> ⟨rfl,rfl⟩|1,_=>exact fun _=> ⟨rfl,rfl⟩|2,_=>exact fun _=> ⟨rfl,rfl⟩|3,_=>exact fun _=> ⟨rfl,rfl⟩|4,_=>exact fun _=> ⟨rfl,rfl⟩)⟩⟩, .pf ⟨qf [some .i64] 1 2 6 (tF XK) (tJ 2 Yg) [(.int .i64 7)] RO [] 7 (tF Xg) (tJ 2 Xb),⟨(by intro i hi;match i,hi with|0,_=>rfl|1,_=>rfl|2,_=>rfl|3,_=>rfl|4,_=>rfl|5,_=>rfl),(by intro i hi j hj;match i,j,hi,hj with|0,0,_,_=>exact aM.1 (show bU (CV.bn (.d (.fn 145 0 (bT [])))) []=true from by kernel_rfl)|0,1,_,_=>exact aM.1 (show bU (CV.bn (cB false)) []=true from by kernel_rfl)|1,0,_,_=>exact aM.1 (show bU (CV.bn (.d (.fn 145 0 (bT [])))) []=true from by kernel_rfl)|1,1,_,_=>exact aM.1 (show bU (CV.bn (cB true)) []=true from by kernel_rfl)|2,0,_,_=>exact aM.1 (show bU (CV.bn (.d (.fn 147 0 (bT [])))) []=true from by kernel_rfl)|2,1,_,_=>exact aM.1 (show bU (CV.bn (cB true)) []=true from by kernel_rfl)|3,0,_,_=>exact aM.1 (show bU (CV.bn (.d (.fn 147 0 (bT [])))) []=true from by kernel_rfl)|3,1,_,_=>exact aM.1 (show bU (CV.bn (cB false)) []=true from by kernel_rfl)|4,0,_,_=>exact aM.1 (show bU (CV.bn (.d (.fn 146 0 (bT [])))) []=true from by kernel_rfl)|4,1,_,_=>exact aM.1 (show bU (CV.bn (cB true)) []=true from by kernel_rfl)|5,0,_,_=>exact aM.1 (show bU (CV.bn (.d (.fn 146 0 (bT [])))) []=true from by kernel_rfl)|5,1,_,_=>exact aM.1 (show bU (CV.bn (cB false)) []=true from by kernel_rfl)|6,0,_,_=>exact aM.1 (show bU (CV.bn (.d (.fn 148 0 (bT [])))) []=true from by kernel_rfl)|6,1,_,_=>exact aM.1 (show bU (CV.bn (cB true)) []=true from by kernel_rfl)),6,(by intro i hi;match i,hi with|0,_=>rfl|1,_=>rfl|2,_=>rfl|3,_=>rfl|4,_=>rfl|5,_=>rfl), .inr ⟨rfl,rfl⟩,rfl,rfl,(by intro i hi;match i,hi with|0,_=>exact fun _=> ⟨rfl,rfl⟩|1,_=>exact fun _=> ⟨rfl,rfl⟩|2,_=>exact fun _=> ⟨rfl,rfl⟩|3,_=>exact fun _=> ⟨rfl,rfl⟩|4,_=>exact fun _=> ⟨rfl,rfl⟩|5,_=>exact fun _=> ⟨rfl,rfl⟩)⟩⟩, .pf ⟨qf [some .i64] 1 2 7 (tF Xg) (tJ 2 Xb) [(.int .i64 8)] Te [] 8 (tF uT) (tJ 2 vk),⟨(by intro i hi;match i,hi with|0,_=>rfl|1,_=>rfl|2,_=>rfl|3,_=>rfl|4,_=>rfl|5,_=>rfl|6,_=>rfl),(by intro i hi j hj;match i,j,hi,hj with|0,0,_,_=>exact aM.1 (show bU (CV.bn (.d (.fn 145 0 (bT [])))) []=true from by kernel_rfl)|0,1,_,_=>exact aM.1 (show bU (CV.bn (cB false)) []=true from by kernel_rfl)|1,0,_,_=>exact aM.1 (show bU (CV.bn (.d (.fn 145 0 (bT [])))) []=true from by kernel_rfl)|1,1,_,_=>exact aM.1 (show bU (CV.bn (cB true)) []=true from by kernel_rfl)|2,0,_,_=>exact aM.1 (show bU (CV.bn (.d (.fn 147 0 (bT [])))) []=true from by kernel_rfl)|2,1,_,_=>exact aM.1 (show bU (CV.bn (cB true)) []=true from by kernel_rfl)|3,0,_,_=>exact aM.1 (show bU (CV.bn (.d (.fn 147 0 (bT [])))) []=true from by kernel_rfl)|3,1,_,_=>exact aM.1 (show bU (CV.bn (cB false)) []=true from by kernel_rfl)|4,0,_,_=>exact aM.1 (show bU (CV.bn (.d (.fn 146 0 (bT [])))) []=true from by kernel_rfl)|4,1,_,_=>exact aM.1 (show bU (CV.bn (cB true)) []=true from by kernel_rfl)|5,0,_,_=>exact aM.1 (show bU (CV.bn (.d (.fn 146 0 (bT [])))) []=true from by kernel_rfl)|5,1,_,_=>exact aM.1 (show bU (CV.bn (cB false)) []=true from by kernel_rfl)|6,0,_,_=>exact aM.1 (show bU (CV.bn (.d (.fn 148 0 (bT [])))) []=true from by kernel_rfl)|6,1,_,_=>exact aM.1 (show bU (CV.bn (cB true)) []=true from by kernel_rfl)|7,0,_,_=>exact aM.1 (show bU (CV.bn (.d (.fn 148 0 (bT [])))) []=true from by kernel_rfl)|7,1,_,_=>exact aM.1 (show bU (CV.bn (cB false)) []=true from by kernel_rfl)),7,(by intro i hi;match i,hi with|0,_=>rfl|1,_=>rfl|2,_=>rfl|3,_=>rfl|4,_=>rfl|5,_=>rfl|6,_=>rfl), .inr ⟨rfl,rfl⟩,rfl,rfl,(by intro i hi;match i,hi with|0,_=>exact fun _=> ⟨rfl,rfl⟩|1,_=>exact fun _=> ⟨rfl,rfl⟩|2,_=>exact fun _=> ⟨rfl,rfl⟩|3,_=>exact fun _=> ⟨rfl,rfl⟩|4,_=>exact fun _=> ⟨rfl,rfl⟩|5,_=>exact fun _=> ⟨rfl,rfl⟩|6,_=>exact fun _=> ⟨rfl,rfl⟩)⟩⟩]<| .en () [] [(1,0)])
theorem pJ (s_:(List Bool)) (u0:Bool):fA Tryz.prog 81 [(sD (bN (some u0) 1 ai s_))] [] (fun r=>(vO 0 false r.length)) (fun r=>[(0,some (bQ 4 1 ai r))]) (yJ s_ u0):=
  gu tT mX Tryz.func81 (
  .r<| .r<| .it (.r<| .im (.ad 2 2 4 1 (aA ai ([]:List Bool)))<| .en ([]:List Bool) [] [(2,0)])
  (.a2 ((([]:List Bool).length+s_.length)*1≤140737488355328) (([]:List Bool).length+s_.length≤4611686018427387904)<| .rg {an:=[(0, .arr ([]:List Bool).length (aA ai ([]:List Bool))),(2, .arr (([]:List Bool)++s_).length (aA ai (([]:List Bool)++s_)))],fr:=[(0,3),(2,4)]} [.pf ⟨([]:List Bool).length=0,rfl⟩, .pf ⟨aU 0 1 (qg 1 []) (aA ai ([]:List Bool)),(fun i hi=>absurd hi (Nat.not_lt_zero i))⟩, .e (([]:List Bool).length),0,1, .pf ⟨(([]:List Bool)++s_).length=([]:List Bool).length+s_.length,List.length_append⟩, .pf ⟨aU (([]:List Bool).length+s_.length) 1 (rW (aA ai ([]:List Bool)) ([]:List Bool).length (aA ai s_)) (aA ai (([]:List Bool)++s_)),eT _ _ _ _⟩]<| .en (([]:List Bool)++s_) [] [(4,0)]))
theorem af (s:(List Bool)) {r:(List Bool)} (h:aj s=some r):Fn Tryz.prog 81 [(sD (bN none 1 ai s))] [] (vO 0 false r.length) [(0,some (bQ 4 1 ai r))]:=by
 refine Fn.nn (pJ s true h) fun hl=> ?_
 have hs:s=[]:=List.eq_nil_of_length_eq_zero hl
 subst hs
 exact pJ [] false (by rw [←h];kernel_rfl)
section
variable (u0:State)
abbrev MK:List (Nat × Option Ob):=[(0,some (.cells 29 [(.own 1 false u0.closed.length),(.own 2 false u0.locked.length),(.own 3 false u0.badLink.length),(.own 4 false u0.on_.length),(.own 5 false u0.badSource.length),(.own 6 false u0.earthed.length),(.own 7 false u0.badBus.length)])),(1,some (bQ 4 1 ai u0.closed)),(2,some (bQ 4 1 ai u0.locked)),(3,some (bQ 4 1 ai u0.badLink)),(4,some (bQ 4 1 ai u0.on_)),(5,some (bQ 4 1 ai u0.badSource)),(6,some (bQ 4 1 ai u0.earthed)),(7,some (bQ 4 1 ai u0.badBus))]
end
theorem Bc (u0:State):fA Tryz.prog 145 [(.one (.ptr 0 0))] (MK u0) (fun _=>(vP 0 0)) (fun _=>(MK u0)) (pR u0):=
  gu tT mX Tryz.func145 (
  .r<| .r<| .e ())
theorem AR (u0:State):fA Tryz.prog 147 [(.one (.ptr 0 0))] (MK u0) (fun _=>(vP 0 5)) (fun _=>(MK u0)) (pV u0):=
  gu tT mX Tryz.func147 (
  .r<| .r<| .e ())
theorem Bb (u0:State):fA Tryz.prog 146 [(.one (.ptr 0 0))] (MK u0) (fun _=>(vP 0 1)) (fun _=>(MK u0)) (pQ u0):=
  gu tT mX Tryz.func146 (
  .r<| .r<| .e ())
theorem AY (u0:State):fA Tryz.prog 148 [(.one (.ptr 0 0))] (MK u0) (fun _=>(vP 0 3)) (fun _=>(MK u0)) (qa u0):=
  gu tT mX Tryz.func148 (
  .r<| .r<| .e ())
abbrev Gz:List CV:=[(cI 1),(.d (.fn 124 0 (bT []))),(cI 46),(.d (.fn 125 0 (bT []))),(cI 47),(.d (.fn 127 0 (bT []))),(cI 43),(.d (.fn 130 0 (bT []))),(cI 44),(.d (.fn 131 0 (bT [])))]
theorem xU:fA Tryz.prog 111 [] [] (fun _=>(.v (.agg Gz))) (fun _=>[]) (ru):=
  gu tT mX Tryz.func111 (
  .rg {fr:=[(0,1)]} []<| .r<| .en () [1] [])
section
variable (p:au) (s_:State) (x:aJ)
abbrev QD:List SV:=[(.agg (k1 p)),(.agg (k20 s_)),(.agg (ND x))]
end
theorem zi (p:au) (s_:State) (x:aJ):fA Tryz.prog 124 (QD p s_ x) [] (fun r=>(vB r)) (fun _=>[]) (uG p s_ x):=
  gu tT mX Tryz.func124 (
  .rg {fr:=[(0,3),(1,4),(2,5)],fz:=[3,5]} []<| .cl 2 (tY p x) fun r_=> .r<| .e (!r_))
section
variable (s_:(List Bool)) (u0:(List Bool)) (u1:(List Bool)) (u2:(List Bool)) (u3:(List Bool)) (u4:(List Bool)) (u5:(List Bool))
abbrev Vf:List SV:=[(sD (UY s_ u0 u1 u2 u3 u4 u5))]
end
theorem oL (s_:(List Bool)) (u0:(List Bool)) (u1:(List Bool)) (u2:(List Bool)) (u3:(List Bool)) (u4:(List Bool)) (u5:(List Bool)):fA Tryz.prog 145 (Vf s_ u0 u1 u2 u3 u4 u5) [] (fun r=>(vD (zL [(bN none 1 ai r.1),(bN none 1 ai r.2.1),(bN none 1 ai r.2.2.1),(bN none 1 ai r.2.2.2.1),(bN none 1 ai r.2.2.2.2.1),(bN none 1 ai r.2.2.2.2.2.1),(bN none 1 ai r.2.2.2.2.2.2)] 0))) (fun _=>[]) (mQ s_ u0 u1 u2 u3 u4 u5):=
  gu tT mX Tryz.func145 (
  .r<| .r<| .e (s_,u0,u1,u2,u3,u4,u5))
theorem oJ (s_:(List Bool)) (u0:(List Bool)) (u1:(List Bool)) (u2:(List Bool)) (u3:(List Bool)) (u4:(List Bool)) (u5:(List Bool)):fA Tryz.prog 147 (Vf s_ u0 u1 u2 u3 u4 u5) [] (fun r=>(vD (zL [(bN none 1 ai r.1),(bN none 1 ai r.2.1),(bN none 1 ai r.2.2.1),(bN none 1 ai r.2.2.2.1),(bN none 1 ai r.2.2.2.2.1),(bN none 1 ai r.2.2.2.2.2.1),(bN none 1 ai r.2.2.2.2.2.2)] 5))) (fun _=>[]) (mO s_ u0 u1 u2 u3 u4 u5):=
  gu tT mX Tryz.func147 (
  .r<| .r<| .e (s_,u0,u1,u2,u3,u4,u5))
theorem oM (s_:(List Bool)) (u0:(List Bool)) (u1:(List Bool)) (u2:(List Bool)) (u3:(List Bool)) (u4:(List Bool)) (u5:(List Bool)):fA Tryz.prog 146 (Vf s_ u0 u1 u2 u3 u4 u5) [] (fun r=>(vD (zL [(bN none 1 ai r.1),(bN none 1 ai r.2.1),(bN none 1 ai r.2.2.1),(bN none 1 ai r.2.2.2.1),(bN none 1 ai r.2.2.2.2.1),(bN none 1 ai r.2.2.2.2.2.1),(bN none 1 ai r.2.2.2.2.2.2)] 1))) (fun _=>[]) (mW s_ u0 u1 u2 u3 u4 u5):=
  gu tT mX Tryz.func146 (
  .r<| .r<| .e (s_,u0,u1,u2,u3,u4,u5))
theorem oH (s_:(List Bool)) (u0:(List Bool)) (u1:(List Bool)) (u2:(List Bool)) (u3:(List Bool)) (u4:(List Bool)) (u5:(List Bool)):fA Tryz.prog 148 (Vf s_ u0 u1 u2 u3 u4 u5) [] (fun r=>(vD (zL [(bN none 1 ai r.1),(bN none 1 ai r.2.1),(bN none 1 ai r.2.2.1),(bN none 1 ai r.2.2.2.1),(bN none 1 ai r.2.2.2.2.1),(bN none 1 ai r.2.2.2.2.2.1),(bN none 1 ai r.2.2.2.2.2.2)] 3))) (fun _=>[]) (mM s_ u0 u1 u2 u3 u4 u5):=
  gu tT mX Tryz.func148 (
  .r<| .r<| .e (s_,u0,u1,u2,u3,u4,u5))
section
variable (s_:State) (x:aJ)
abbrev ZM:List SV:=[(.agg (k20 s_)),(.agg (ND x))]
abbrev xK:List CV:=[(.d .nilf),(.d (.bool false))]
end
theorem DJ (s_:State) (x:aJ):fA Tryz.prog 126 (ZM s_ x) [] (fun r=>(vB r)) (fun _=>[]) (Aj s_ x):=
  gu tT mX Tryz.func126 (
  .rg {fr:=[(0,4),(1,5)],fz:=[4,5]} []<| .cl 0 (fI [(0,6)] ql) fun r_=> .fk (bA x.deed 1) (.rg {an:=[(3, .look true Lx)],fr:=[(4,7)],fz:=[7]} [1, .m [0] [(bA x.deed 1)=true] (eY [some .i64] 1 2 8 (tF uT) (fun i j=>CV.ren (swp [(0,6)]) ((tJ 2 vk) i j)) [(.int .i64 x.deed)] xK true Lx) (fun⟨hb,_⟩=> ⟨(by intro i hi;match i,hi with|0,_=>rfl|1,_=>rfl|2,_=>rfl|3,_=>rfl|4,_=>rfl|5,_=>rfl|6,_=>rfl|7,_=>rfl), .inl ⟨rfl,0,by decide,congrArg some hb,(fun i hi=>absurd hi (Nat.not_lt_zero i)),rfl⟩⟩)]<| .cl 2 (oL s_.closed s_.locked s_.badLink s_.on_ s_.badSource s_.earthed s_.badBus) fun u0=> .a1 ((0:Int)≤x.index∧x.index<(u0.1.length:Int))<| .r<| .e ((at' u0.1 x.index.toNat)==false))
  (.fk (bA x.deed 2) (.rg {an:=[(3, .look true QZ)],fr:=[(4,7)],fz:=[7]} [2, .m [0,1] [(bA x.deed 2)=true,(bA x.deed 1)=false] (eY [some .i64] 1 2 8 (tF uT) (fun i j=>CV.ren (swp [(0,6)]) ((tJ 2 vk) i j)) [(.int .i64 x.deed)] xK true QZ) (fun⟨hb1,hb,_⟩=> ⟨(by intro i hi;match i,hi with|0,_=>rfl|1,_=>rfl|2,_=>rfl|3,_=>rfl|4,_=>rfl|5,_=>rfl|6,_=>rfl|7,_=>rfl), .inl ⟨rfl,1,by decide,congrArg some hb1,(by intro i hi;match i,hi with|0,_=>exact congrArg some hb),rfl⟩⟩)]<| .cl 2 (oL s_.closed s_.locked s_.badLink s_.on_ s_.badSource s_.earthed s_.badBus) fun u1=> .a1 ((0:Int)≤x.index∧x.index<(u1.1.length:Int))<| .r<| .e ((at' u1.1 x.index.toNat)==true))
  (.fk (bA x.deed 3) (.rg {an:=[(3, .look true TW)],fr:=[(4,7)],fz:=[7]} [3, .m [0,2,1] [(bA x.deed 3)=true,(bA x.deed 1)=false,(bA x.deed 2)=false] (eY [some .i64] 1 2 8 (tF uT) (fun i j=>CV.ren (swp [(0,6)]) ((tJ 2 vk) i j)) [(.int .i64 x.deed)] xK true TW) (fun⟨hb2,hb,hb1,_⟩=> ⟨(by intro i hi;match i,hi with|0,_=>rfl|1,_=>rfl|2,_=>rfl|3,_=>rfl|4,_=>rfl|5,_=>rfl|6,_=>rfl|7,_=>rfl), .inl ⟨rfl,2,by decide,congrArg some hb2,(by intro i hi;match i,hi with|0,_=>exact congrArg some hb|1,_=>exact congrArg some hb1),rfl⟩⟩)]<| .cl 2 (oJ s_.closed s_.locked s_.badLink s_.on_ s_.badSource s_.earthed s_.badBus) fun u2=> .a1 ((0:Int)≤x.index∧x.index<(u2.2.2.2.2.2.1.length:Int))<| .r<| .e ((at' u2.2.2.2.2.2.1 x.index.toNat)==true))
  (.fk (bA x.deed 4) (.rg {an:=[(3, .look true Sl)],fr:=[(4,7)],fz:=[7]} [4, .m [0,3,2,1] [(bA x.deed 4)=true,(bA x.deed 1)=false,(bA x.deed 2)=false,(bA x.deed 3)=false] (eY [some .i64] 1 2 8 (tF uT) (fun i j=>CV.ren (swp [(0,6)]) ((tJ 2 vk) i j)) [(.int .i64 x.deed)] xK true Sl) (fun⟨hb3,hb,hb1,hb2,_⟩=> ⟨(by intro i hi;match i,hi with|0,_=>rfl|1,_=>rfl|2,_=>rfl|3,_=>rfl|4,_=>rfl|5,_=>rfl|6,_=>rfl|7,_=>rfl), .inl ⟨rfl,3,by decide,congrArg some hb3,(by intro i hi;match i,hi with|0,_=>exact congrArg some hb|1,_=>exact congrArg some hb1|2,_=>exact congrArg some hb2),rfl⟩⟩)]<| .cl 2 (oJ s_.closed s_.locked s_.badLink s_.on_ s_.badSource s_.earthed s_.badBus) fun u3=> .a1 ((0:Int)≤x.index∧x.index<(u3.2.2.2.2.2.1.length:Int))<| .r<| .e ((at' u3.2.2.2.2.2.1 x.index.toNat)==false))
  (.fk (bA x.deed 5) (.rg {an:=[(3, .look true Rw)],fr:=[(4,7)],fz:=[7]} [5, .m [0,4,3,2,1] [(bA x.deed 5)=true,(bA x.deed 1)=false,(bA x.deed 2)=false,(bA x.deed 3)=false,(bA x.deed 4)=false] (eY [some .i64] 1 2 8 (tF uT) (fun i j=>CV.ren (swp [(0,6)]) ((tJ 2 vk) i j)) [(.int .i64 x.deed)] xK true Rw) (fun⟨hb4,hb,hb1,hb2,hb3,_⟩=> ⟨(by intro i hi;match i,hi with|0,_=>rfl|1,_=>rfl|2,_=>rfl|3,_=>rfl|4,_=>rfl|5,_=>rfl|6,_=>rfl|7,_=>rfl), .inl ⟨rfl,4,by decide,congrArg some hb4,(by intro i hi;match i,hi with|0,_=>exact congrArg some hb|1,_=>exact congrArg some hb1|2,_=>exact congrArg some hb2|3,_=>exact congrArg some hb3),rfl⟩⟩)]<| .cl 2 (oM s_.closed s_.locked s_.badLink s_.on_ s_.badSource s_.earthed s_.badBus) fun u4=> .a1 ((0:Int)≤x.index∧x.index<(u4.2.1.length:Int))<| .r<| .e ((at' u4.2.1 x.index.toNat)==true))
  (.fk (bA x.deed 6) (.rg {an:=[(3, .look true R7)],fr:=[(4,7)],fz:=[7]} [6, .m [0,5,4,3,2,1] [(bA x.deed 6)=true,(bA x.deed 1)=false,(bA x.deed 2)=false,(bA x.deed 3)=false,(bA x.deed 4)=false,(bA x.deed 5)=false] (eY [some .i64] 1 2 8 (tF uT) (fun i j=>CV.ren (swp [(0,6)]) ((tJ 2 vk) i j)) [(.int .i64 x.deed)] xK true R7) (fun⟨hb5,hb,hb1,hb2,hb3,hb4,_⟩=> ⟨(by intro i hi;match i,hi with|0,_=>rfl|1,_=>rfl|2,_=>rfl|3,_=>rfl|4,_=>rfl|5,_=>rfl|6,_=>rfl|7,_=>rfl), .inl ⟨rfl,5,by decide,congrArg some hb5,(by intro i hi;match i,hi with|0,_=>exact congrArg some hb|1,_=>exact congrArg some hb1|2,_=>exact congrArg some hb2|3,_=>exact congrArg some hb3|4,_=>exact congrArg some hb4),rfl⟩⟩)]<| .cl 2 (oM s_.closed s_.locked s_.badLink s_.on_ s_.badSource s_.earthed s_.badBus) fun u5=> .a1 ((0:Int)≤x.index∧x.index<(u5.2.1.length:Int))<| .r<| .e ((at' u5.2.1 x.index.toNat)==false))
  (.fk (bA x.deed 7) (.rg {an:=[(3, .look true RO)],fr:=[(4,7)],fz:=[7]} [7, .m [0,6,5,4,3,2,1] [(bA x.deed 7)=true,(bA x.deed 1)=false,(bA x.deed 2)=false,(bA x.deed 3)=false,(bA x.deed 4)=false,(bA x.deed 5)=false,(bA x.deed 6)=false] (eY [some .i64] 1 2 8 (tF uT) (fun i j=>CV.ren (swp [(0,6)]) ((tJ 2 vk) i j)) [(.int .i64 x.deed)] xK true RO) (fun⟨hb6,hb,hb1,hb2,hb3,hb4,hb5,_⟩=> ⟨(by intro i hi;match i,hi with|0,_=>rfl|1,_=>rfl|2,_=>rfl|3,_=>rfl|4,_=>rfl|5,_=>rfl|6,_=>rfl|7,_=>rfl), .inl ⟨rfl,6,by decide,congrArg some hb6,(by intro i hi;match i,hi with|0,_=>exact congrArg some hb|1,_=>exact congrArg some hb1|2,_=>exact congrArg some hb2|3,_=>exact congrArg some hb3|4,_=>exact congrArg some hb4|5,_=>exact congrArg some hb5),rfl⟩⟩)]<| .cl 2 (oH s_.closed s_.locked s_.badLink s_.on_ s_.badSource s_.earthed s_.badBus) fun u6=> .a1 ((0:Int)≤x.index∧x.index<(u6.2.2.2.1.length:Int))<| .r<| .e ((at' u6.2.2.2.1 x.index.toNat)==true))
  (.fk (bA x.deed 8) (.rg {an:=[(3, .look true Te)],fr:=[(4,7)],fz:=[7]} [8, .m [0,7,6,5,4,3,2,1] [(bA x.deed 8)=true,(bA x.deed 1)=false,(bA x.deed 2)=false,(bA x.deed 3)=false,(bA x.deed 4)=false,(bA x.deed 5)=false,(bA x.deed 6)=false,(bA x.deed 7)=false] (eY [some .i64] 1 2 8 (tF uT) (fun i j=>CV.ren (swp [(0,6)]) ((tJ 2 vk) i j)) [(.int .i64 x.deed)] xK true Te) (fun⟨hb7,hb,hb1,hb2,hb3,hb4,hb5,hb6,_⟩=> ⟨(by intro i hi;match i,hi with|0,_=>rfl|1,_=>rfl|2,_=>rfl|3,_=>rfl|4,_=>rfl|5,_=>rfl|6,_=>rfl|7,_=>rfl), .inl ⟨rfl,7,by decide,congrArg some hb7,(by intro i hi;match i,hi with|0,_=>exact congrArg some hb|1,_=>exact congrArg some hb1|2,_=>exact congrArg some hb2|3,_=>exact congrArg some hb3|4,_=>exact congrArg some hb4|5,_=>exact congrArg some hb5|6,_=>exact congrArg some hb6),rfl⟩⟩)]<| .cl 2 (oH s_.closed s_.locked s_.badLink s_.on_ s_.badSource s_.earthed s_.badBus) fun u7=> .a1 ((0:Int)≤x.index∧x.index<(u7.2.2.2.1.length:Int))<| .r<| .e ((at' u7.2.2.2.1 x.index.toNat)==false))
  (.rg {an:=[(3, .look false [(.d .nilf),(cB false)])],fr:=[(4,7)],fz:=[7]} [8, .m [7,6,5,4,3,2,1,0] [(bA x.deed 1)=false,(bA x.deed 2)=false,(bA x.deed 3)=false,(bA x.deed 4)=false,(bA x.deed 5)=false,(bA x.deed 6)=false,(bA x.deed 7)=false,(bA x.deed 8)=false] (eY [some .i64] 1 2 8 (tF uT) (fun i j=>CV.ren (swp [(0,6)]) ((tJ 2 vk) i j)) [(.int .i64 x.deed)] xK false [(.d .nilf),(cB false)]) (fun⟨hb,hb1,hb2,hb3,hb4,hb5,hb6,hb7,_⟩=> ⟨(by intro i hi;match i,hi with|0,_=>rfl|1,_=>rfl|2,_=>rfl|3,_=>rfl|4,_=>rfl|5,_=>rfl|6,_=>rfl|7,_=>rfl), .inr ⟨rfl,(by intro i hi;match i,hi with|0,_=>exact congrArg some hb|1,_=>exact congrArg some hb1|2,_=>exact congrArg some hb2|3,_=>exact congrArg some hb3|4,_=>exact congrArg some hb4|5,_=>exact congrArg some hb5|6,_=>exact congrArg some hb6|7,_=>exact congrArg some hb7), .refl _⟩⟩)]<| .no)))))))))
end
end Sg
