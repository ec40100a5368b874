import Derived.Test.YtklofnlffikpgaaGreatSlW2
set_option linter.all false
namespace Sg
open Go Go.Proofs
set_option maxRecDepth 20000
noncomputable section
theorem nG (p:ah) (s_:State) (x:Part) (is:Bool):cu Tryz.prog 59 (adW x p s_ is) [] (fun r=>(.dV [.agg [.d (aN none 1 af r.1.ap),.d (aN none 1 af r.1.aw),.d (aN none 1 af r.1.ag),.d (aN none 1 af r.1.on_),.d (aN none 1 af r.1.ae),.d (aN none 1 af r.1.am),.d (aN none 1 af r.1.al)],sI r.2])) (fun _=>[]) (gJ p s_ x is):=
  cZ tT mX Tryz.func59 (
  .rg {fr:=[(0,7),(1,8),(2,9),(3,10)],fz:=[7,9]} []<| .cl 2 (dK p s_) fun r_=> .r<| .r<| .it (.r<| .en (Xc r_) [10] [])
  (.r<| .it (.r<| .en ((⟨([]:List Bool),([]:List Bool),([]:List Bool),([]:List Bool),([]:List Bool),([]:List Bool),([]:List Bool)⟩:State),14) [10] [])
  (.r<| .it (.cl 5 (iT [(0,11)] (pR s_.al x.index is)) fun u0=> .r<| .r<| .fz [11]<| .en ((⟨s_.ap,s_.aw,s_.ag,s_.on_,s_.ae,s_.am,u0⟩:State),0) [10] [])
  (.r<| .it (.cl 5 (iT [(0,12)] (pR s_.ae x.index is)) fun u1=> .r<| .r<| .fz [12]<| .en ((⟨s_.ap,s_.aw,s_.ag,s_.on_,u1,s_.am,s_.al⟩:State),0) [10] [])
  (.r<| .it (.cl 5 (iT [(0,13)] (pR s_.ag x.index is)) fun u2=> .r<| .r<| .fz [13]<| .en ((⟨s_.ap,s_.aw,u2,s_.on_,s_.ae,s_.am,s_.al⟩:State),0) [10] [])
  (.r<| .en ((⟨([]:List Bool),([]:List Bool),([]:List Bool),([]:List Bool),([]:List Bool),([]:List Bool),([]:List Bool)⟩:State),14) [10] []))))))
section
variable (u4:List Bool) (u5:List Bool) (u6:List Bool) (u7:List Bool) (u8:List Bool) (u9:List Bool) (v0:List Bool) (u0:List Int)
abbrev ab3:Nat × Option Ob:=(56,some (Yo u4 u5 u6 u7 u8 u9 v0))
abbrev aeu:List (Nat × Option Ob):=[ab3 u4 u5 u6 u7 u8 u9 v0,(65,some (Cy u0))]
end
theorem nL (p:ah) (s_:State) (l:List Transfer):cu Tryz.prog 18 (k40 p s_ l) [] (fun r=>(.dV [.agg [.d (aN none 1 af r.1.ap),.d (aN none 1 af r.1.aw),.d (aN none 1 af r.1.ag),.d (aN none 1 af r.1.on_),.d (aN none 1 af r.1.ae),.d (aN none 1 af r.1.am),.d (aN none 1 af r.1.al)],.one (.own 0 false r.2.1.length),sI r.2.2])) (fun r=>[(0,some (aX 3 1 (aG .i64) r.2.1))]) (gM p s_ l):=
  cZ tT mX Tryz.func18 (
  .rg {fr:=[(0,52),(1,53),(2,54)],fz:=[52,53]} []<| .cl 3 (d9 p s_ l) fun r_=> .r<| .r<| .it (.r<| .im (.ad 7 55 3 1 (aj (aG .i64) ([]:List Int)))<| .en (ac4 r_) [54] [(55,0)])
  (.cl 1 (Dk s_) fun u1=> .rg {fr:=[(2,56)]} []<| .r<| .r<| .im (.ad 11 105 3 1 (aj (aG .i64) ([]:List Int)))<| .lp (σ:=((List Bool) × (List Bool) × (List Bool) × (List Bool) × (List Bool) × (List Bool) × (List Bool) × (List Int) × Int)) (β:=((List Bool) × (List Bool) × (List Bool) × (List Bool) × (List Bool) × (List Bool) × (List Bool) × (List Int))) (u1.ap,u1.aw,u1.ag,u1.on_,u1.ae,u1.am,u1.al,([]:List Int),0) [] [(105,65)] ⟨[2,3,6,10],[54],fun(u4,u5,u6,u7,u8,u9,v0,u0,n)=>[(11,vO 65 false u0.length),(12,vI n)],fun(u4,u5,u6,u7,u8,u9,v0,u0,n)=>(aeu u4 u5 u6 u7 u8 u9 v0 u0)⟩ ⟨[6,10],[54],fun(v3,v4,v5,v6,v7,v8,v9,v1)=>[(11,vO 65 false v1.length)],fun(v3,v4,v5,v6,v7,v8,v9,v1)=>(aeu v3 v4 v5 v6 v7 v8 v9 v1)⟩
  (fun(u4,u5,u6,u7,u8,u9,v0,u0,n)=> .r<| .it (.r<| .lp (σ:=Int) (β:=((List Bool) × (List Bool) × (List Bool) × (List Bool) × (List Bool) × (List Bool) × (List Bool) × (List Int))) (0) [] [] ⟨[2,3,6,10,11,12],[54,56,65],fun i=>[(13,vI i)],fun i=>[]⟩ ⟨[2,3,6,10,12],[54],fun(w0,w1,w2,w3,w4,w5,w6,v2)=>[(11,vO 101 false v2.length)],fun(w0,w1,w2,w3,w4,w5,w6,v2)=>[ab3 w0 w1 w2 w3 w4 w5 w6,(101,some (Cy v2))]⟩
  (fun i=> .r<| .it (.r<| .r<| .lp (σ:=(Bool × Int)) (β:=Bool) (false,0) [] [] ⟨[2,3,6,10,11,12,13],[54,56,65],fun(u2,kz)=>[(14,vB u2),(15,vI kz)],fun(u2,kz)=>[]⟩ ⟨[2,3,6,10,11,12,13],[54,56,65],fun w7=>[(14,vB w7)],fun w7=>[]⟩
  (fun(u2,kz)=> .r<| .it (.a1 ((gB [(u2,false)]=true->(0:Int)<=kz/\kz<(u0.length:Int)))<| .rg {} [0, .tg 0 [(u2,false)] kz u0.length]<| .r<| .e (.next ((bif u2 then true else(decide ((at' u0 kz.toNat)=i))),k13 kz)))
  (.e (.done (.brk u2))))
  (fun w7=> .cl 6 (Ij p (Ng u4 u5 u6 u7 u8 u9 v0) (at' l i.toNat)) fun u3=> .a1 (k39 l i)<| .rg {fr:=[(10,102)]} [0,1]<| .r<| .it (.r<| .a2 (VO u0 i) (V6 u0 i)<| .rg {an:=[(2, .arr [i].length (aj (aG .i64) [i])),(3, .arr (u0++[i]).length (KI u0 i))],fr:=[(2,103),(3,104)]} [.pf ⟨[i].length=1,rfl⟩, .pf ⟨av 1 1 (iY 1 [.int .i64 i]) (aj (aG .i64) [i]),(by intro i hi j hj;match i,j,hi,hj with|0,0,_,_=>rfl)⟩, .e (u0.length),0,1, .pf ⟨(u0++[i]).length=u0.length+[i].length,b_⟩, .pf ⟨av (u0.length+[i].length) 1 (V8 u0 i) (KI u0 i),aP _ _ _ _⟩]<| .en (.done (.brk (u3.1.ap,u3.1.aw,u3.1.ag,u3.1.on_,u3.1.ae,u3.1.am,u3.1.al,u0++[i]))) [] [(104,101)])
  (.r<| .e (.next (k13 i)))))
  (.en (.done (.brk (u4,u5,u6,u7,u8,u9,v0,u0))) [] [(65,101)]))
  (fun(w0,w1,w2,w3,w4,w5,w6,v2)=> .r<| .en (.next (w0,w1,w2,w3,w4,w5,w6,v2,k13 n)) [] [(101,65)]))
  (.e (.done (.brk (u4,u5,u6,u7,u8,u9,v0,u0)))))
  (fun(v3,v4,v5,v6,v7,v8,v9,v1)=> .r<| .en (Ng v3 v4 v5 v6 v7 v8 v9,v1,0) [54] [(65,0)])))
theorem zL (p:ah) (s_:State) (l:List Transfer) (u3:List Part):cu Tryz.prog 23 (Ur p s_ l u3) [] (fun r=>(.dV [sD (aN none 1 (aG .i64) r.1),sI r.2])) (fun _=>[]) (iN p s_ l u3):=
  cZ tT mX Tryz.func23 (
  .rg {fr:=[(0,23),(1,24)],fz:=[24]} []<| .cl 4 (iT [(0,25),(1,26),(2,27),(3,28),(4,29),(5,30),(6,31),(7,32)] (iK p s_ l u3)) fun r_=> .rg {fr:=[(8,33)],fz:=[25,26,27,28,29,30,31]} []<| .fz [33]<| .r<| .it (.r<| .e (([]:List Int),r_.2))
  (.r<| .rg {fz:=[23]} []<| .im (.ad 12 46 3 1 (aj (aG .i64) ([]:List Int)))<| .lp (σ:=((List Int) × Int)) (β:=(List Int)) (([]:List Int),0) [] [(46,36)] ⟨[4,10,27,28],[],fun(u1,u0)=>[(12,vO 36 false u1.length),(29,vI u0)],fun(u1,u0)=>[(36,some (Cy u1))]⟩ ⟨[],[],fun u2=>[(12,vO 36 false u2.length)],fun u2=>[(36,some (Cy u2))]⟩
  (fun(u1,u0)=> .r<| .it (.a1 (JC p u0)<| .rg {fr:=[(3,43)],fz:=[43]} []<| .cg 7 [(decide (0<((at' p.a_ u0.toNat).bk)),true)] (kT p r_.1 u0) fun u4=> .r<| .it (.a2 (VO u1 u0) (V6 u1 u0)<| .rg {an:=[(2, .arr [u0].length (aj (aG .i64) [u0])),(3, .arr (u1++[u0]).length (KI u1 u0))],fr:=[(2,44),(3,45)]} [.pf ⟨[u0].length=1,rfl⟩, .pf ⟨av 1 1 (iY 1 [.int .i64 u0]) (aj (aG .i64) [u0]),(by intro i hi j hj;match i,j,hi,hj with|0,0,_,_=>rfl)⟩, .e (u1.length),0,1, .pf ⟨(u1++[u0]).length=u1.length+[u0].length,b_⟩, .pf ⟨av (u1.length+[u0].length) 1 (V8 u1 u0) (KI u1 u0),aP _ _ _ _⟩]<| .r<| .en (.next (u1++[u0],k13 u0)) [] [(45,36)])
  (.r<| .e (.next (u1,k13 u0))))
  (.e (.done (.brk u1))))
  (fun u2=> .rg {fz:=[36]} []<| .e (u2,0))))
section
variable (p:ah) (u0:Int) (r_:(List Bool) × Int) (u1:List aS)
abbrev ade:=(bif (decide (0<=(Mf p u0)))then(at' r_.1 ((if(r9 p u0).e1<0 then 0 else(r9 p u0).e1).toNat))else false)
abbrev PK:=(⟨at' r_.1 ((KD p u0).toNat),ade p u0 r_⟩:aS)
abbrev adG:=(u1.length+[PK p u0 r_].length)
abbrev abo:=(aj aS.cell [PK p u0 r_])
abbrev Zg:=(u1++[PK p u0 r_])
abbrev adK:=(aj aS.cell (Zg p u0 r_ u1))
end
theorem Io (p:ah) (s_:State):cu Tryz.prog 116 (k24 s_ p) [] (fun r=>(.dV [sD (aN none 2 aS.cell r.1),sI r.2])) (fun _=>[]) (wQ p s_):=
  cZ tT mX Tryz.func116 (
  .rg {fr:=[(0,14),(1,15)],fz:=[15]} []<| .cl 2 (zy p s_) fun r_=> .r<| .r<| .it (.r<| .e (([]:List aS),r_.2))
  (.r<| .r<| .im (.ad 8 28 95 2 (aj aS.cell ([]:List aS)))<| .lp (σ:=((List aS) × Int)) (β:=(List aS)) (([]:List aS),0) [] [(28,18)] ⟨[2,6],[14],fun(u1,u0)=>[(8,vO 18 false u1.length),(9,vI u0)],fun(u1,u0)=>[(18,some (aX 95 2 aS.cell u1))]⟩ ⟨[],[],fun u2=>[(8,vO 18 false u2.length)],fun u2=>[(18,some (aX 95 2 aS.cell u2))]⟩
  (fun(u1,u0)=> .r<| .it (.a1 (JC p u0)<| .rg {fr:=[(6,25)],fz:=[25]} []<| .a4 ((0:Int)<=(r9 p u0).e0/\(r9 p u0).e0<(r_.1.length:Int)) ((gB [(decide (0<=(Mf p u0)),true)]=true->(0:Int)<=(if(r9 p u0).e1<0 then 0 else(r9 p u0).e1)/\(if(r9 p u0).e1<0 then 0 else(r9 p u0).e1)<(r_.1.length:Int))) ((adG p u0 r_ u1)*2<=140737488355328) (u1.length+[PK p u0 r_].length<=4611686018427387904)<| .rg {an:=[(18, .arr [PK p u0 r_].length (abo p u0 r_)),(19, .arr (Zg p u0 r_ u1).length (adK p u0 r_ u1))],fr:=[(18,26),(19,27)]} [.pf ⟨(0:Int)<=0/\(0:Int)<(2:Nat),(by decide)⟩,0, .pf ⟨(0:Int)<=1/\(1:Int)<(2:Nat),(by decide)⟩, .pf ⟨(0:Int)<=1/\(1:Int)<(2:Nat),(by decide)⟩,1, .pf ⟨[PK p u0 r_].length=1,rfl⟩, .pf ⟨av 1 2 (iY 2 [.bool (at' r_.1 ((KD p u0).toNat)),.bool (ade p u0 r_)]) (abo p u0 r_),(by intro i hi j hj;match i,j,hi,hj with|0,0,_,_=>rfl|0,1,_,_=>rfl)⟩, .e (u1.length),2,3, .pf ⟨(Zg p u0 r_ u1).length=u1.length+[PK p u0 r_].length,b_⟩, .pf ⟨av (adG p u0 r_ u1) 2 (fQ (aj aS.cell u1) u1.length (abo p u0 r_)) (adK p u0 r_ u1),aP _ _ _ _⟩]<| .r<| .en (.next (Zg p u0 r_ u1,k13 u0)) [] [(27,18)])
  (.e (.done (.brk u1))))
  (fun u2=> .rg {fz:=[18]} []<| .e (u2,0))))
theorem nQ (p:ah) (s_:State) (u0:Int):cu Tryz.prog 61 (EY p s_ u0) [] (fun r=>(vB r)) (fun _=>[]) (lF p s_ u0):=
  cZ tT mX Tryz.func61 (
  .rg {fr:=[(0,2),(1,3)],fz:=[2,3]} []<| .cl 2 (Io p s_) fun r_=> .r<| .a2 ((0:Int)<=u0/\u0<(r_.1.length:Int)) ((gB [((at' r_.1 u0.toNat).e0,false)]=true->(0:Int)<=u0/\u0<(r_.1.length:Int)))<| .rg {} [0, .pf ⟨(0:Int)<=0/\(0:Int)<(2:Nat),(by decide)⟩,1, .pf ⟨(0:Int)<=1/\(1:Int)<(2:Nat),(by decide)⟩]<| .e (bif (at' r_.1 u0.toNat).e0 then true else(at' r_.1 u0.toNat).e1))
section
variable (u1:List Bool) (u2:List Bool) (u3:List Bool) (u4:List Bool) (u5:List Bool) (u6:List Bool) (u7:List Bool)
abbrev adl:List (Nat × Option Ob):=[(12,some (Yo u1 u2 u3 u4 u5 u6 u7))]
end
theorem tJ (p:ah) (s_:State) (l:List Transfer) (u8:List Part):cu Tryz.prog 22 (Ur p s_ l u8) [] (fun r=>(.dV [.agg [.d (aN none 1 af r.1.ap),.d (aN none 1 af r.1.aw),.d (aN none 1 af r.1.ag),.d (aN none 1 af r.1.on_),.d (aN none 1 af r.1.ae),.d (aN none 1 af r.1.am),.d (aN none 1 af r.1.al)],sI r.2])) (fun _=>[]) (gD p s_ l u8):=
  cZ tT mX Tryz.func22 (
  .rg {fr:=[(0,9),(1,10),(2,11)],fz:=[9]} []<| .cl 3 (d9 p s_ l) fun r_=> .r<| .r<| .it (.r<| .en (Xc r_) [11] [])
  (.rg {fr:=[(1,12)]} []<| .r<| .lp (σ:=((List Bool) × (List Bool) × (List Bool) × (List Bool) × (List Bool) × (List Bool) × (List Bool) × Int)) (β:=((List Bool) × (List Bool) × (List Bool) × (List Bool) × (List Bool) × (List Bool) × (List Bool))) (s_.ap,s_.aw,s_.ag,s_.on_,s_.ae,s_.am,s_.al,0) [] [] ⟨[2,3,4,8,11],[11],fun(u1,u2,u3,u4,u5,u6,u7,i)=>[(12,vI i)],fun(u1,u2,u3,u4,u5,u6,u7,i)=>(adl u1 u2 u3 u4 u5 u6 u7)⟩ ⟨[2,4,8,11],[11],fun(u9,v0,v1,v2,v3,v4,v5)=>[],fun(u9,v0,v1,v2,v3,v4,v5)=>(adl u9 v0 v1 v2 v3 v4 v5)⟩
  (fun(u1,u2,u3,u4,u5,u6,u7,i)=> .r<| .it (.cl 6 (nG p (Ng u1 u2 u3 u4 u5 u6 u7) (at' u8 i.toNat) true) fun u0=> .a1 (rC u8 i)<| .rg {fr:=[(10,16)]} [0,1]<| .r<| .it (.r<| .en (.done (.ret (aa2 u0))) [11] [])
  (.r<| .r<| .e (.next (abD u0 i))))
  (.e (.done (.brk (u1,u2,u3,u4,u5,u6,u7)))))
  (fun(u9,v0,v1,v2,v3,v4,v5)=> .cl 3 (iT [(0,17)] (nL p (Ng u9 v0 v1 v2 v3 v4 v5) l)) fun v6=> .r<| .r<| .en (v6.1,0) [11] [])))
theorem sW (p:ah) (s_:State) (l:List Transfer) (u3:List Part):cu Tryz.prog 24 (Ur p s_ l u3) [] (fun r=>(.dV [sD (aN none 1 (aG .i64) r.1),sI r.2])) (fun _=>[]) (jL p s_ l u3):=
  cZ tT mX Tryz.func24 (
  .rg {fr:=[(0,11),(1,12)],fz:=[11,12]} []<| .cl 4 (tJ p s_ l u3) fun r_=> .rg {fr:=[(8,13)],fz:=[13]} []<| .r<| .it (.r<| .e (([]:List Int),r_.2))
  (.r<| .r<| .im (.ad 12 22 3 1 (aj (aG .i64) ([]:List Int)))<| .lp (σ:=((List Int) × Int)) (β:=(List Int)) (([]:List Int),0) [] [(22,15)] ⟨[4,10],[],fun(u1,u0)=>[(12,vO 15 false u1.length),(13,vI u0)],fun(u1,u0)=>[(15,some (Cy u1))]⟩ ⟨[],[],fun u2=>[(12,vO 15 false u2.length)],fun u2=>[(15,some (Cy u2))]⟩
  (fun(u1,u0)=> .r<| .it (.cg 11 [(decide (1<=((at' p.a_ u0.toNat).bk)),true)] (nQ p r_.1 u0) fun u4=> .a1 (JC p u0)<| .rg {} [0,1]<| .it (.a2 (VO u1 u0) (V6 u1 u0)<| .rg {an:=[(2, .arr [u0].length (aj (aG .i64) [u0])),(3, .arr (u1++[u0]).length (KI u1 u0))],fr:=[(2,20),(3,21)]} [.pf ⟨[u0].length=1,rfl⟩, .pf ⟨av 1 1 (iY 1 [.int .i64 u0]) (aj (aG .i64) [u0]),(by intro i hi j hj;match i,j,hi,hj with|0,0,_,_=>rfl)⟩, .e (u1.length),0,1, .pf ⟨(u1++[u0]).length=u1.length+[u0].length,b_⟩, .pf ⟨av (u1.length+[u0].length) 1 (V8 u1 u0) (KI u1 u0),aP _ _ _ _⟩]<| .r<| .en (.next (u1++[u0],k13 u0)) [] [(21,15)])
  (.r<| .e (.next (u1,k13 u0))))
  (.e (.done (.brk u1))))
  (fun u2=> .rg {fz:=[15]} []<| .e (u2,0))))
section
variable (u0:State × (List Int) × Int) (a0:List Bool) (i:Int) (a5:List Bool) (u3:List Bool)
abbrev acw:List (Nat × Option Ob):=[(42,some (TJ u0)),(43,some (Tk u0)),(44,some (Sy u0)),(45,some (aX 4 1 af u0.1.on_)),(46,some (Uw u0)),(47,some (SA u0)),(48,some (U0 u0))]
abbrev acz:List (Nat × Option Ob):=[(42,some (aX 4 1 af a0)),(51,some (.cells 29 [.own 42 false a0.length,.own 43 false u0.1.aw.length,.own 44 false u0.1.ag.length,.own 45 false u0.1.on_.length,.own 46 false u0.1.ae.length,.own 47 false u0.1.am.length,.own 48 false u0.1.al.length]))]
abbrev XY:=(aj af (a0.set i.toNat (!(at' a0 i.toNat))))
abbrev acR:List (Nat × Option Ob):=[(47,some (aX 4 1 af a5)),(51,some (.cells 29 [.own 42 false u3.length,.own 43 false u0.1.aw.length,.own 44 false u0.1.ag.length,.own 45 false u0.1.on_.length,.own 46 false u0.1.ae.length,.own 47 false a5.length,.own 48 false u0.1.al.length]))]
end
theorem yF (p:ah) (s_:State) (l:List Transfer) (u2:List Part):cu Tryz.prog 4 (Ur p s_ l u2) [] (fun r=>(vB r)) (fun _=>[]) (jP p s_ l u2):=
  cZ tT mX Tryz.func4 (
  .rg {fr:=[(0,31),(1,32)],fz:=[31,32]} []<| .r<| .it (.cl 0 fq fun r_=> .r<| .e r_)
  (.cl 1 (iT [(0,33),(1,34),(2,35),(3,36),(4,37),(5,38),(6,39),(7,40)] (mK s_)) fun u6=> .rg {fr:=[(2,41)],fz:=[33,34,35,36,37,38,39]} []<| .fz [41]<| .cl 3 (nV l) fun v3=> .cl 4 (iT [(0,42),(1,43),(2,44),(3,45),(4,46),(5,47),(6,48),(7,49),(8,50)] (dP p u6 v3)) fun u0=> .rg {fr:=[(9,51)],fz:=[49]} []<| .cl 3 (iT [(0,52)] (nL p s_ l)) fun u1=> .rg {fr:=[(8,53)],fz:=[52]} []<| .cgr 6 [(!decide (u0.2.2=u1.2.2),false)] ⟨fun{u8} hr_5=>((Fn.wC (frz:=[42,43,44,45,46,47,48]) (p:=[u0.1.ap.length=u0.1.ap.length,u0.1.aw.length=u0.1.aw.length,u0.1.ag.length=u0.1.ag.length,u0.1.on_.length=u0.1.on_.length,u0.1.ae.length=u0.1.ae.length,u0.1.am.length=u0.1.am.length,u0.1.al.length=u0.1.al.length]) (lU u0.1 u1.1 hr_5) (by kernel_rfl) ⟨rfl,rfl,rfl,rfl,rfl,rfl,rfl,trivial⟩ rfl):Fn Tryz.prog 19 [.agg [.own 42 false u0.1.ap.length,.own 43 false u0.1.aw.length,.own 44 false u0.1.ag.length,.own 45 false u0.1.on_.length,.own 46 false u0.1.ae.length,.own 47 false u0.1.am.length,.own 48 false u0.1.al.length],.agg [.d (aN none 1 af u1.1.ap),.d (aN none 1 af u1.1.aw),.d (aN none 1 af u1.1.ag),.d (aN none 1 af u1.1.on_),.d (aN none 1 af u1.1.ae),.d (aN none 1 af u1.1.am),.d (aN none 1 af u1.1.al)]] (acw u0) (vB u8) (acw u0))⟩ fun u8=> .cg 12 [((bif (!decide (u0.2.2=u1.2.2))then true else(!u8)),false)] (jW u0.2.1 u1.2.1) fun v7=> .r<| .it (.r<| .e false)
  (.r<| .lp (σ:=((List Bool) × Int)) (β:=(List Bool)) (u0.1.ap,0) [] [] ⟨[2,3,4,5,9,10,13],[43,44,45,46,47,48,53],fun(a0,i)=>[(16,vI i)],fun(a0,i)=>(acz u0 a0)⟩ ⟨[2,3,4,5,9,10,13],[43,44,45,46,47,48,53],fun u3=>[],fun u3=>(acz u0 u3)⟩
  (fun(a0,i)=> .r<| .it (.a1 (U2 a0 i)<| .rg {an:=[(10, .arr 0 (XY a0 i))]} [0, .t 0 i a0.length,0, .t 0 i a0.length, .pf ⟨av a0.length 1 (fe (aj af a0) i.toNat 0 [.bool (!(at' a0 i.toNat))]) (XY a0 i),aQ _ _ _ _ _ _ _ _ rfl (fun j hj=>(match j,hj with|0,_=>rfl))⟩]<| .im (.ll 42 a0 (a0.set i.toNat (!(at' a0 i.toNat))))<| .r<| .e (.next (a0.set i.toNat (!(at' a0 i.toNat)),k13 i)))
  (.e (.done (.brk a0))))
  (fun u3=> .r<| .lp (σ:=((List Bool) × Int)) (β:=(List Bool)) (u0.1.am,0) [] [] ⟨[2,3,4,5,9,10,13],[42,43,44,45,46,48,53],fun(a5,i1)=>[(17,vI i1)],fun(a5,i1)=>(acR u0 a5 u3)⟩ ⟨[2,3,4,5,9,10,13],[42,43,44,45,46,48,53],fun u7=>[],fun u7=>(acR u0 u7 u3)⟩
  (fun(a5,i1)=> .r<| .it (.a1 (U2 a5 i1)<| .rg {an:=[(10, .arr 0 (XY a5 i1))]} [0, .t 0 i1 a5.length,0, .t 0 i1 a5.length, .pf ⟨av a5.length 1 (fe (aj af a5) i1.toNat 0 [.bool (!(at' a5 i1.toNat))]) (XY a5 i1),aQ _ _ _ _ _ _ _ _ rfl (fun j hj=>(match j,hj with|0,_=>rfl))⟩]<| .im (.ll 47 a5 (a5.set i1.toNat (!(at' a5 i1.toNat))))<| .r<| .e (.next (a5.set i1.toNat (!(at' a5 i1.toNat)),k13 i1)))
  (.e (.done (.brk a5))))
  (fun u7=> .cl 3 (nV l) fun v4=> .cl 5 (iT [(0,54),(1,55),(2,56),(3,57),(4,58),(5,59),(6,60),(7,61)] (iK p u6 v4 u2)) fun v0=> .rg {fz:=[54,55,56,57,58,59,60]} []<| .fz [51]<| .cl 4 (tJ p s_ l u2) fun v1=> .rg {fz:=[53]} []<| .cg 6 [(!decide (v0.2=v1.2),false)] (lU v0.1 v1.1) fun v8=> .r<| .it (.r<| .e false)
  (.cl 3 (nV l) fun v5=> .cl 5 (zL p u6 v5 u2) fun u4=> .r<| .cl 4 (sW p s_ l u2) fun u5=> .r<| .cg 6 [(decide (u4.2=u5.2),true)] (jW u4.1 u5.1) fun u9=> .cg 11 [((bif (decide (u4.2=u5.2))then u9 else false),true)] (lU s_ u6) fun v2=> .cg 14 [((bif (bif (decide (u4.2=u5.2))then u9 else false)then v2 else false),true)] fq fun v6=> .r<| .e (bif (bif (bif (decide (u4.2=u5.2))then u9 else false)then v2 else false)then v6 else false)))))))
theorem A9 (p:ah):cu Tryz.prog 25 (k0 p) [] (fun r=>(vB r)) (fun _=>[]) (sP p):=
  cZ tT mX Tryz.func25 (
  .rg {fr:=[(0,1)],fz:=[1]} []<| .r<| .it (.r<| .e true)
  (.cl 1 (rP p) fun r_=> .r<| .e (bif (decide (r_=0))then(bif (decide (7<p.ar))then true else(decide (12<(p.aq.length:Int))))else false)))
theorem zZ (l:List nT):cu Tryz.prog 168 [sD (aN none 2 nT.cell l)] [] (fun r=>(vO 0 false r.length)) (fun r=>[(0,some (aX 211 2 nT.cell r))]) (zD l):=
  cZ tT mX Tryz.func168 (
  .r<| .r<| .a2 (l.length*16<=140737488355328) (l.length<=4611686018427387904)<| .rg {an:=[(2, .arr l.length (aj nT.cell l))],fr:=[(2,1)]} [0,1, .e (l.length), .pf ⟨av l.length 2 (aj nT.cell l) (aj nT.cell l),dO _ _ _⟩]<| .en l [] [(1,0)])
theorem El (x:Link):cu Tryz.prog 118 [.agg (k14 x)] [] (fun r=>(.v (.agg [cI r.a,cI r.b,cI r.kind,cI r.most,cI r.ohm,.d (aN none 2 nT.cell r.trip)]))) (fun _=>[]) (AL x):=
  cZ tT mX Tryz.func118 (
  .rg {fr:=[(0,3),(1,4)]} []<| .cl 12 (iT [(0,5)] (zZ x.trip)) fun r_=> .rg {fz:=[5]} []<| .fz [4]<| .e (⟨x.a,x.b,x.kind,x.most,x.ohm,r_⟩:Link))
theorem xR (l:List Source):cu Tryz.prog 63 [sD (k4 l)] [] (fun r=>(vO 0 false r.length)) (fun r=>[(0,some (aX 125 5 Source.cell r))]) (wJ l):=
  cZ tT mX Tryz.func63 (
  .r<| .r<| .a2 (l.length*40<=140737488355328) (l.length<=4611686018427387904)<| .rg {an:=[(2, .arr l.length (aj Source.cell l))],fr:=[(2,1)]} [0,1, .e (l.length), .pf ⟨av l.length 5 (aj Source.cell l) (aj Source.cell l),dO _ _ _⟩]<| .en l [] [(1,0)])
theorem Aa (l:List Link):cu Tryz.prog 64 [sD (k5 l)] [] (fun r=>(vO 0 false r.length)) (fun r=>[(0,some (aX 113 6 Link.cell r))]) (zA l):=
  cZ tT mX Tryz.func64 (
  .r<| .r<| .r<| .im (.ad 3 16 113 6 (aj Link.cell ([]:List Link)))<| .lp (σ:=((List Link) × Int)) (β:=(List Link)) (([]:List Link),0) [] [(16,9)] ⟨[0],[],fun(u0,i)=>[(3,vO 9 false u0.length),(4,vI i)],fun(u0,i)=>[(9,some (aX 113 6 Link.cell u0))]⟩ ⟨[],[],fun u1=>[(3,vO 9 false u1.length)],fun u1=>[(9,some (aX 113 6 Link.cell u1))]⟩
  (fun(u0,i)=> .r<| .it (.cl 5 (El (at' l i.toNat)) fun r_=> .a3 (k18 l i) ((u0.length+[r_].length)*64<=140737488355328) (u0.length+[r_].length<=4611686018427387904)<| .rg {an:=[(6, .arr [r_].length (aj Link.cell [r_])),(7, .arr (u0++[r_]).length (aj Link.cell (u0++[r_])))],fr:=[(6,14),(7,15)]} [0,3, .pf ⟨[r_].length=1,rfl⟩, .pf ⟨av 1 6 (iY 6 [.int .i64 r_.a,.int .i64 r_.b,.int .i64 r_.kind,.int .i64 r_.most,.int .i64 r_.ohm,aN none 2 nT.cell r_.trip]) (aj Link.cell [r_]),(by intro i hi j hj;match i,j,hi,hj with|0,0,_,_=>rfl|0,1,_,_=>rfl|0,2,_,_=>rfl|0,3,_,_=>rfl|0,4,_,_=>rfl|0,5,_,_=>rfl)⟩, .e (u0.length),1,2, .pf ⟨(u0++[r_]).length=u0.length+[r_].length,b_⟩, .pf ⟨av (u0.length+[r_].length) 6 (fQ (aj Link.cell u0) u0.length (aj Link.cell [r_])) (aj Link.cell (u0++[r_])),aP _ _ _ _⟩]<| .r<| .en (.next (u0++[r_],k13 i)) [] [(15,9)])
  (.e (.done (.brk u0))))
  (fun u1=> .r<| .en u1 [] [(9,0)]))
theorem zT (l:List aO):cu Tryz.prog 65 [sD (k6 l)] [] (fun r=>(vO 0 false r.length)) (fun r=>[(0,some (aX 100 4 aO.cell r))]) (zF l):=
  cZ tT mX Tryz.func65 (
  .r<| .r<| .a2 (l.length*32<=140737488355328) (l.length<=4611686018427387904)<| .rg {an:=[(2, .arr l.length (aj aO.cell l))],fr:=[(2,1)]} [0,1, .e (l.length), .pf ⟨av l.length 4 (aj aO.cell l) (aj aO.cell l),dO _ _ _⟩]<| .en l [] [(1,0)])
theorem Kh (x:Int) (n:Int):cu Tryz.prog 27 [sI x,sI n] [] (fun r=>(vI r)) (fun _=>[]) (Jq x n):=
  cZ tT mX Tryz.func27 (
  .r<| .r<| .it (.r<| .e 0)
  (.a1 (n≠(0:Int))<| .r<| .r<| .it (.r<| .r<| .e (IntKind.wrap .i64 ((Int.tmod x n)+n)))
  (.r<| .e (Int.tmod x n))))
theorem nE (p:ah) (s_:State) (u0:Int):cu Tryz.prog 66 (EY p s_ u0) [] (fun r=>(vI r)) (fun _=>[]) (nA p s_ u0):=
  cZ tT mX Tryz.func66 (
  .rg {fr:=[(0,2),(1,3)],fz:=[2,3]} []<| .cl 2 (dK p s_) fun r_=> .r<| .r<| .it (.r<| .r<| .e 13)
  (.r<| .e r_))
theorem Dm (l:List Part):cu Tryz.prog 83 [sD (FM l)] [] (fun r=>(vD (aN none 2 Part.cell r))) (fun _=>[]) (lW l):=
  cZ tT mX Tryz.func83 (
  .r<| .r<| .a2 (l.length*16<=140737488355328) (l.length<=4611686018427387904)<| .rg {an:=[(2, .arr l.length (aj Part.cell l))],fr:=[(2,1)],fz:=[1]} [0,1, .e (l.length), .pf ⟨av l.length 2 (aj Part.cell l) (aj Part.cell l),dO _ _ _⟩]<| .e l)
theorem rV (l:List Part) (x:Part):cu Tryz.prog 121 (aax l x) [] (fun r=>(vB r)) (fun _=>[]) (vk l x):=
  cZ tT mX Tryz.func121 (
  .rg {fr:=[(0,1)],fz:=[1]} []<| .r<| .lp (σ:=Int) (β:=Unit) (0) [] [] ⟨[0,3],[],fun i=>[(5,vI i)],fun i=>[]⟩ ⟨[],[],fun _=>[],fun _=>[]⟩
  (fun i=> .r<| .it (.a1 (rC l i)<| .r<| .it (.r<| .e (.done (.ret true)))
  (.r<| .e (.next (k13 i))))
  (.e (.done (.brk ()))))
  (fun _=> .r<| .e false))
theorem zH (p:ah) (u0:Int) (b:Int):cu Tryz.prog 130 [.agg (k1 p),sI u0,sI b] [] (fun r=>(vB r)) (fun _=>[]) (zb p u0 b):=
  cZ tT mX Tryz.func130 (
  .rg {fr:=[(0,1)],fz:=[1]} []<| .a2 (JC p u0) ((gB [(decide ((KD p u0)=b),false)]=true->(0:Int)<=u0/\u0<(p.a_.length:Int)))<| .rg {} [0, .pf ⟨(0:Int)<=0/\(0:Int)<(2:Nat),(by decide)⟩,1, .pf ⟨(0:Int)<=1/\(1:Int)<(2:Nat),(by decide)⟩]<| .e (bif (decide ((KD p u0)=b))then true else(decide ((Mf p u0)=b))))
theorem qW (l:List Part):cu Tryz.prog 83 [sD (FM l)] [] (fun r=>(vO 0 false r.length)) (fun r=>[(0,some (aX 84 2 Part.cell r))]) (lW l):=
  cZ tT mX Tryz.func83 (
  .r<| .r<| .a2 (l.length*16<=140737488355328) (l.length<=4611686018427387904)<| .rg {an:=[(2, .arr l.length (aj Part.cell l))],fr:=[(2,1)]} [0,1, .e (l.length), .pf ⟨av l.length 2 (aj Part.cell l) (aj Part.cell l),dO _ _ _⟩]<| .en l [] [(1,0)])
section
variable (p:ah) (s_:State) (u6:Int) (l:List Part) (u0:List (List Part)) (i:Int) (u2:List Part) (u4:List (List Part))
abbrev WQ:List SV:=[.agg (k1 p),.agg (k25 s_),sI u6,sD (FM l)]
abbrev Je:=(u0,k13 i)
abbrev adp:=(IntKind.wrap .i64 ((IntKind.wrap .i64 (((at' p.aq i.toNat).a)+((at' p.aq i.toNat).b))) - ((at' l ((IntKind.wrap .i64 ((l.length:Int) - 1)).toNat)).index)))
abbrev GZ:=(⟨1,adp p l i⟩:Part)
abbrev aap:=(u2.length+[(⟨3,i⟩:Part),GZ p l i].length)
abbrev adb:=((aap p l i u2)*16<=140737488355328)
abbrev adD:=(u2.length+[(⟨3,i⟩:Part),GZ p l i].length<=4611686018427387904)
abbrev V7:=(aj Part.cell [(⟨3,i⟩:Part),GZ p l i])
abbrev Qr:=(u2++[(⟨3,i⟩:Part),GZ p l i])
abbrev YZ:=(aj Part.cell (Qr p l i u2))
abbrev adr:=(iY 2 [.int .i64 3,.int .i64 i,.int .i64 1,.int .i64 (adp p l i)])
abbrev aea:=(fQ (aj Part.cell u2) u2.length (V7 p l i))
abbrev TM:=(aj (wu 2 Part.cell) (u0++u4))
abbrev abx:=(fQ (NU u0) u0.length (NU u4))
end
theorem D9 (u9:ah->State->Int->(List Part)->Option (List (List Part))) (rec_ok: ∀(p:ah) (s_:State) (u6:Int) (l:List Part) (r:List (List Part)),u9 p s_ u6 l=some r->Fn Tryz.prog 120 (WQ p s_ u6 l) [] ((fun r=>(vD (aN none 1 (wu 2 Part.cell) r))) r) ((fun _=>[]) r)) (p:ah) (s_:State) (u6:Int) (l:List Part):cu Tryz.prog 120 (WQ p s_ u6 l) [] (fun r=>(vD (aN none 1 (wu 2 Part.cell) r))) (fun _=>[]) (zG u9 p s_ u6 l):=
  cZ tT mX Tryz.func120 (
  .rg {fr:=[(0,52),(1,53)],fz:=[53]} []<| .r<| .a1 ((0:Int)<=(IntKind.wrap .i64 ((l.length:Int) - 1))/\(IntKind.wrap .i64 ((l.length:Int) - 1))<(l.length:Int))<| .r<| .cl 3 (zH p u6 ((at' l ((IntKind.wrap .i64 ((l.length:Int) - 1)).toNat)).index)) fun r_=> .r<| .it (.a2 ([l].length*24<=140737488355328) ([l].length<=4611686018427387904)<| .rg {an:=[(2, .arr [l].length (Jk l)),(3, .arr [l].length (Jk l))],fr:=[(2,54),(3,55)]} [.pf ⟨[l].length=1,rfl⟩, .pf ⟨av 1 1 (iY 1 [FM l]) (Jk l),(by intro i hi j hj;match i,j,hi,hj with|0,0,_,_=>rfl)⟩,0,1, .e ([l].length), .pf ⟨av [l].length 1 (Jk l) (Jk l),dO _ _ _⟩]<| .r<| .lp (σ:=((List (List Part)) × Int)) (β:=(List (List Part))) ([l],0) [] [] ⟨[2,3,4,5,10],[52],fun(u0,i)=>[(9,vO 55 false u0.length),(11,vI i)],fun(u0,i)=>[(55,some (Ai u0))]⟩ ⟨[],[],fun u7=>[(9,vO 55 false u7.length)],fun u7=>[(55,some (Ai u7))]⟩
  (fun(u0,i)=> .r<| .it (.a1 (Z5 p i)<| .rg {fr:=[(5,74)],fz:=[74]} []<| .cl 3 (iE p s_ i) fun v0=> .r<| .it (.r<| .e (.next (Je u0 i)))
  (.rg {fr:=[(8,75)],fz:=[75]} []<| .cl 2 (rV l (GZ p l i)) fun v1=> .r<| .it (.r<| .e (.next (Je u0 i)))
  (.cl 1 (iT [(0,76)] (qW l)) fun u2=> .a2 (adb p l i u2) (adD p l i u2)<| .rg {an:=[(5, .arr [(⟨3,i⟩:Part),GZ p l i].length (V7 p l i)),(6, .arr (Qr p l i u2).length (YZ p l i u2))],fr:=[(5,77),(6,78)],fz:=[78]} [2, .pf ⟨[(⟨3,i⟩:Part),GZ p l i].length=2,rfl⟩, .pf ⟨av 2 2 (adr p l i) (V7 p l i),(by intro i hi j hj;match i,j,hi,hj with|0,0,_,_=>rfl|0,1,_,_=>rfl|1,0,_,_=>rfl|1,1,_,_=>rfl)⟩, .e (u2.length),0,1, .pf ⟨(Qr p l i u2).length=u2.length+[(⟨3,i⟩:Part),GZ p l i].length,b_⟩, .pf ⟨av (aap p l i u2) 2 (aea p l i u2) (YZ p l i u2),aP _ _ _ _⟩]<| .cl 5 ⟨fun h=>rec_ok p s_ u6 (Qr p l i u2) _ h⟩ fun u4=> .a2 ((u0.length+u4.length)*24<=140737488355328) (u0.length+u4.length<=4611686018427387904)<| .rg {an:=[(6, .arr (u0++u4).length (TM u0 u4))],fr:=[(6,79)]} [2, .e (u0.length),0,1, .pf ⟨(u0++u4).length=u0.length+u4.length,b_⟩, .pf ⟨av (u0.length+u4.length) 1 (abx u0 u4) (TM u0 u4),aP _ _ _ _⟩]<| .r<| .en (.next (u0++u4,k13 i)) [] [(79,55)])))
  (.e (.done (.brk u0))))
  (fun u7=> .rg {fz:=[55]} []<| .e u7))
  (.r<| .im (.ad 9 104 48 1 (aj (wu 2 Part.cell) ([]:List (List Part))))<| .lp (σ:=((List (List Part)) × Int)) (β:=(List (List Part))) (([]:List (List Part)),0) [] [(104,85)] ⟨[2,3,4,5,10],[52],fun(u1,i1)=>[(9,vO 85 false u1.length),(11,vI i1)],fun(u1,i1)=>[(85,some (Ai u1))]⟩ ⟨[],[],fun u8=>[(9,vO 85 false u8.length)],fun u8=>[(85,some (Ai u8))]⟩
  (fun(u1,i1)=> .r<| .it (.a1 (Z5 p i1)<| .rg {fr:=[(5,98)],fz:=[98]} []<| .cl 3 (iE p s_ i1) fun v2=> .r<| .it (.r<| .e (.next (Je u1 i1)))
  (.rg {fr:=[(8,99)],fz:=[99]} []<| .cl 2 (rV l (GZ p l i1)) fun v3=> .r<| .it (.r<| .e (.next (Je u1 i1)))
  (.cl 1 (iT [(0,100)] (qW l)) fun u3=> .a2 (adb p l i1 u3) (adD p l i1 u3)<| .rg {an:=[(5, .arr [(⟨3,i1⟩:Part),GZ p l i1].length (V7 p l i1)),(6, .arr (Qr p l i1 u3).length (YZ p l i1 u3))],fr:=[(5,101),(6,102)],fz:=[102]} [2, .pf ⟨[(⟨3,i1⟩:Part),GZ p l i1].length=2,rfl⟩, .pf ⟨av 2 2 (adr p l i1) (V7 p l i1),(by intro i hi j hj;match i,j,hi,hj with|0,0,_,_=>rfl|0,1,_,_=>rfl|1,0,_,_=>rfl|1,1,_,_=>rfl)⟩, .e (u3.length),0,1, .pf ⟨(Qr p l i1 u3).length=u3.length+[(⟨3,i1⟩:Part),GZ p l i1].length,b_⟩, .pf ⟨av (aap p l i1 u3) 2 (aea p l i1 u3) (YZ p l i1 u3),aP _ _ _ _⟩]<| .cl 5 ⟨fun h=>rec_ok p s_ u6 (Qr p l i1 u3) _ h⟩ fun u5=> .a2 ((u1.length+u5.length)*24<=140737488355328) (u1.length+u5.length<=4611686018427387904)<| .rg {an:=[(6, .arr (u1++u5).length (TM u1 u5))],fr:=[(6,103)]} [2, .e (u1.length),0,1, .pf ⟨(u1++u5).length=u1.length+u5.length,b_⟩, .pf ⟨av (u1.length+u5.length) 1 (abx u1 u5) (TM u1 u5),aP _ _ _ _⟩]<| .r<| .en (.next (u1++u5,k13 i1)) [] [(103,85)])))
  (.e (.done (.brk u1))))
  (fun u8=> .rg {fz:=[85]} []<| .e u8)))
theorem Cz: ∀(n:Nat) (p:ah) (s_:State) (u0:Int) (l:List Part),cu Tryz.prog 120 (WQ p s_ u0 l) [] (fun r=>(vD (aN none 1 (wu 2 Part.cell) r))) (fun _=>[]) (yJ n p s_ u0 l)
 |0,_,_,_,_=> ⟨fun h=>by cases h⟩
 |n+1,p,s_,u0,l=>D9 (yJ n) (fun p s_ u0 l _ h=>Cz n p s_ u0 l h) p s_ u0 l
section
variable (p:ah) (kz:Int)
abbrev Uy:=(⟨1,(at' p.aa kz.toNat).bus⟩:Part)
end
theorem JB (p:ah) (s_:State) (u3:Int):cu Tryz.prog 67 (EY p s_ u3) [] (fun r=>(vD (aN none 1 (wu 2 Part.cell) r))) (fun _=>[]) (GD p s_ u3):=
  cZ tT mX Tryz.func67 (
  .rg {fr:=[(0,10),(1,11)],fz:=[10,11]} []<| .r<| .r<| .im (.ad 7 20 48 1 (aj (wu 2 Part.cell) ([]:List (List Part))))<| .lp (σ:=((List (List Part)) × Int)) (β:=(List (List Part))) (([]:List (List Part)),0) [] [(20,13)] ⟨[2,3,4],[],fun(u0,kz)=>[(7,vO 13 false u0.length),(8,vI kz)],fun(u0,kz)=>[(13,some (Ai u0))]⟩ ⟨[],[],fun u2=>[(7,vO 13 false u2.length)],fun u2=>[(13,some (Ai u2))]⟩
  (fun(u0,kz)=> .r<| .it (.cl 3 (eT p s_ kz) fun r_=> .r<| .it (.cl 14 (leO [.agg (k1 p),.agg (k25 s_),sI u3,sD (aN (some true) 2 Part.cell [(⟨2,kz⟩:Part),Uy p kz])] (Cz FUEL p s_ u3 [(⟨2,kz⟩:Part),Uy p kz])) fun u1=> .a3 (k81 kz p) ((u0.length+u1.length)*24<=140737488355328) (u0.length+u1.length<=4611686018427387904)<| .rg {an:=[(13, .frz [(⟨2,kz⟩:Part),Uy p kz].length (aj Part.cell [(⟨2,kz⟩:Part),Uy p kz])),(15, .arr (u0++u1).length (TM u0 u1))],fr:=[(15,19)]} [0, .pf ⟨[(⟨2,kz⟩:Part),Uy p kz].length=2,rfl⟩, .pf ⟨av 2 2 (iY 2 [.int .i64 2,.int .i64 kz,.int .i64 1,.int .i64 (YG kz p)]) (aj Part.cell [(⟨2,kz⟩:Part),Uy p kz]),(by intro i hi j hj;match i,j,hi,hj with|0,0,_,_=>rfl|0,1,_,_=>rfl|1,0,_,_=>rfl|1,1,_,_=>rfl)⟩,3, .e (u0.length),1,2, .pf ⟨(u0++u1).length=u0.length+u1.length,b_⟩, .pf ⟨av (u0.length+u1.length) 1 (abx u0 u1) (TM u0 u1),aP _ _ _ _⟩]<| .r<| .en (.next (u0++u1,k13 kz)) [] [(19,13)])
  (.r<| .e (.next (Je u0 kz))))
  (.e (.done (.brk u0))))
  (fun u2=> .rg {fz:=[13]} []<| .e u2))
theorem tF (a:List Part) (b:List Part):cu Tryz.prog 68 (abm a b) [] (fun r=>(vB r)) (fun _=>[]) (rA a b):=
  cZ tT mX Tryz.func68 (
  .r<| .r<| .lp (σ:=Int) (β:=Unit) (0) [] [] ⟨[0,1],[],fun i=>[(5,vI i)],fun i=>[]⟩ ⟨[],[],fun _=>[],fun _=>[]⟩
  (fun i=> .r<| .it (.cl 5 (rV b (at' a i.toNat)) fun r_=> .a1 (rC a i)<| .rg {} [0,1]<| .it (.r<| .e (.done (.ret false)))
  (.r<| .e (.next (k13 i))))
  (.e (.done (.brk ()))))
  (fun _=> .r<| .e true))
section
variable (i:Int) (u0:List (List Part))
abbrev FK:=((0:Int)<=i/\i<(u0.length:Int))
end
theorem Cn (p:ah) (s_:State) (u1:Int):cu Tryz.prog 29 (EY p s_ u1) [] (fun r=>(.dV [sI r.1,sI r.2])) (fun _=>[]) (x9 p s_ u1):=
  cZ tT mX Tryz.func29 (
  .rg {fr:=[(0,2),(1,3)],fz:=[2,3]} []<| .cl 3 (nE p s_ u1) fun r_=> .r<| .r<| .it (.r<| .e (0,r_))
  (.cl 3 (JB p s_ u1) fun u0=> .r<| .r<| .lp (σ:=Int) (β:=Unit) (0) [] [] ⟨[9],[],fun i=>[(10,vI i)],fun i=>[]⟩ ⟨[9],[],fun _=>[],fun _=>[]⟩
  (fun i=> .r<| .it (.r<| .lp (σ:=Int) (β:=Unit) (0) [] [] ⟨[9,10],[],fun kz=>[(11,vI kz)],fun kz=>[]⟩ ⟨[9,10],[],fun _=>[],fun _=>[]⟩
  (fun kz=> .r<| .it (.cl 8 (tF (at' u0 i.toNat) (at' u0 kz.toNat)) fun u2=> .a2 (FK i u0) (FK kz u0)<| .rg {} [0,1,2]<| .it (.r<| .e (.done (.ret (.done (.ret (2,0))))))
  (.r<| .e (.next (k13 kz))))
  (.e (.done (.brk ()))))
  (fun _=> .r<| .e (.next (k13 i))))
  (.e (.done (.brk ()))))
  (fun _=> .r<| .e ((if 1<(u0.length:Int)then 1 else(u0.length:Int)),0))))
section
variable (l:List Part) (i:Int) (u0:Int) (p:ah)
abbrev ac7:=((bif (!decide (((at' l i.toNat).kind)=1))then true else(!decide (((at' l i.toNat).index)=u0))),false)
abbrev adE:List SV:=[sD (aN none 2 Part.cell (rO l 0 i.toNat)),.agg [cI ((at' l i.toNat).kind),cI ((at' l i.toNat).index)]]
abbrev Za:List SV:=[sD (.sl none 2 i.toNat (aj Part.cell l)),.agg [cI ((at' l i.toNat).kind),cI ((at' l i.toNat).index)]]
abbrev QA:=(at' p.aq (((at' l i.toNat).index).toNat))
abbrev FZ:=(IntKind.wrap .i64 ((IntKind.wrap .i64 (((QA l i p).a)+((QA l i p).b))) - u0))
end
theorem Gm (p:ah) (s_:State) (u2:Int) (l:List Part):cu Tryz.prog 73 (WQ p s_ u2 l) [] (fun r=>(vB r)) (fun _=>[]) (CQ p s_ u2 l):=
  cZ tT mX Tryz.func73 (
  .rg {fr:=[(0,9),(1,10)],fz:=[10]} []<| .a1 ((gB [(decide ((l.length:Int)=0),false)]=true->2≠(0:Int)))<| .r<| .it (.r<| .e false)
  (.r<| .r<| .lp (σ:=(Int × Int)) (β:=Int) (-1,0) [] [] ⟨[2,3,4,5],[9],fun(u0,i)=>[(9,vI u0),(10,vI i)],fun(u0,i)=>[]⟩ ⟨[2,4],[9],fun u1=>[(9,vI u1)],fun u1=>[]⟩
  (fun(u0,i)=> .r<| .it (.a1 (rC l i)<| .rg {fr:=[(4,16)]} []<| .r<| .it (.cg 21 [((bif (bif (!decide (((at' l i.toNat).kind)=2))then true else(decide (((at' l i.toNat).index)<0)))then true else(decide ((p.aa.length:Int)<=((at' l i.toNat).index)))),false)] (eT p s_ ((at' l i.toNat).index)) fun r_=> .rg {fz:=[16]} []<| .it (.r<| .e (.done (.ret false)))
  (.a1 ((0:Int)<=(at' l i.toNat).index/\(at' l i.toNat).index<(p.aa.length:Int))<| .r<| .r<| .e (.next ((at' p.aa (((at' l i.toNat).index).toNat)).bus,k13 i))))
  (.a1 (2≠(0:Int))<| .r<| .it (.cg 14 [ac7 l i u0] ⟨fun{u3} hr_1=>((Fn.PE (args:=(adE l i)) (args':=(Za l i)) (hin:=[]) (hin':=[]) (rV (rO l 0 i.toNat) (at' l i.toNat) hr_1) ⟨kD.one (bY.d (bO.ZW (by first|rw [b_,dE]|simp only [cJ,dE,kY]) (.inr rfl) (Qp _ _ _ _))),kD.refl _,trivial⟩ trivial):Fn Tryz.prog 121 (Za l i) [] (vB u3) [])⟩ fun u3=> .a1 ((gB [ac7 l i u0]=true->(0:Int)<=i/\i<=(l.length:Int)))<| .rg {} [0,1]<| .it (.r<| .e (.done (.ret false)))
  (.r<| .e (.next (u0,k13 i))))
  (.cg 21 [((bif (bif (!decide (((at' l i.toNat).kind)=3))then true else(decide (((at' l i.toNat).index)<0)))then true else(decide ((p.aq.length:Int)<=((at' l i.toNat).index)))),false)] (iE p s_ ((at' l i.toNat).index)) fun u5=> .r<| .it (.r<| .e (.done (.ret false)))
  (.a1 ((0:Int)<=(at' l i.toNat).index/\(at' l i.toNat).index<(p.aq.length:Int))<| .rg {fr:=[(6,17)],fz:=[17]} []<| .r<| .it (.r<| .e (.done (.ret false)))
  (.r<| .r<| .e (.next (FZ l i u0 p,k13 i)))))))
  (.e (.done (.brk u0))))
  (fun u1=> .cl 3 (zH p u2 u1) fun u4=> .r<| .e u4)))
section
variable (l:List (List Part)) (p:ah) (s_:State) (u0:Int)
abbrev Ui:DV:=(aN none 1 (wu 2 Part.cell) l)
abbrev abu:List SV:=[.agg (k1 p),.agg (k25 s_),sI u0,sD (Ui l)]
end
theorem sJ (p:ah) (s_:State) (u0:Int) (l:List (List Part)):cu Tryz.prog 31 (abu l p s_ u0) [] (fun r=>(vI r)) (fun _=>[]) (qA p s_ u0 l):=
  cZ tT mX Tryz.func31 (
  .rg {fr:=[(0,2),(1,3)],fz:=[2,3]} []<| .cl 3 (nE p s_ u0) fun r_=> .r<| .r<| .it (.r<| .e r_)
  (.r<| .lp (σ:=Int) (β:=Unit) (0) [] [] ⟨[2,3,4,5],[],fun i=>[(10,vI i)],fun i=>[]⟩ ⟨[],[],fun _=>[],fun _=>[]⟩
  (fun i=> .r<| .it (.cl 7 (Gm p s_ u0 (at' l i.toNat)) fun u1=> .a1 (FK i l)<| .rg {} [0,1]<| .it (.r<| .e (.done (.ret 7)))
  (.r<| .lp (σ:=Int) (β:=Unit) (0) [] [] ⟨[2,3,4,5,10],[],fun kz=>[(11,vI kz)],fun kz=>[]⟩ ⟨[2,3,4,5,10],[],fun _=>[],fun _=>[]⟩
  (fun kz=> .r<| .it (.cl 8 (tF (at' l i.toNat) (at' l kz.toNat)) fun u2=> .a2 (FK i l) (FK kz l)<| .rg {} [0,1,2]<| .it (.r<| .e (.done (.ret (.done (.ret 7)))))
  (.r<| .e (.next (k13 kz))))
  (.e (.done (.brk ()))))
  (fun _=> .r<| .e (.next (k13 i)))))
  (.e (.done (.brk ()))))
  (fun _=> .r<| .e 0)))
section
variable (u0:List Part)
abbrev Tq:List (Nat × Option Ob):=[(28,some (aX 84 2 Part.cell u0))]
end
theorem Cq (p:ah):cu Tryz.prog 134 (k0 p) [] (fun r=>(.dV [.one (.own 0 false r.1.length),sI r.2])) (fun r=>[(0,some (aX 84 2 Part.cell r.1))]) (o8 p):=
  cZ tT mX Tryz.func134 (
  .rg {fr:=[(0,25)],fz:=[25]} []<| .cl 1 (rP p) fun r_=> .r<| .r<| .it (.r<| .im (.ad 2 26 84 2 (aj Part.cell ([]:List Part)))<| .en (([]:List Part),r_) [] [(26,0)])
  (.r<| .r<| .im (.ad 5 35 84 2 (aj Part.cell ([]:List Part)))<| .lp (σ:=((List Part) × Int)) (β:=(List Part)) (([]:List Part),0) [] [(35,28)] ⟨[1],[],fun(u0,i)=>[(5,vO 28 false u0.length),(6,vI i)],fun(u0,i)=>(Tq u0)⟩ ⟨[1],[],fun u3=>[(5,vO 28 false u3.length)],fun u3=>(Tq u3)⟩
  (fun(u0,i)=> .r<| .it (.a2 ((u0.length+[(⟨1,i⟩:Part)].length)*16<=140737488355328) (u0.length+[(⟨1,i⟩:Part)].length<=4611686018427387904)<| .rg {an:=[(3, .arr [(⟨1,i⟩:Part)].length (aj Part.cell [(⟨1,i⟩:Part)])),(4, .arr (u0++[(⟨1,i⟩:Part)]).length (aj Part.cell (u0++[(⟨1,i⟩:Part)])))],fr:=[(3,33),(4,34)]} [.pf ⟨[(⟨1,i⟩:Part)].length=1,rfl⟩, .pf ⟨av 1 2 (iY 2 [.int .i64 1,.int .i64 i]) (aj Part.cell [(⟨1,i⟩:Part)]),(by intro i hi j hj;match i,j,hi,hj with|0,0,_,_=>rfl|0,1,_,_=>rfl)⟩, .e (u0.length),0,1, .pf ⟨(u0++[(⟨1,i⟩:Part)]).length=u0.length+[(⟨1,i⟩:Part)].length,b_⟩, .pf ⟨av (u0.length+[(⟨1,i⟩:Part)].length) 2 (fQ (aj Part.cell u0) u0.length (aj Part.cell [(⟨1,i⟩:Part)])) (aj Part.cell (u0++[(⟨1,i⟩:Part)])),aP _ _ _ _⟩]<| .r<| .en (.next (u0++[(⟨1,i⟩:Part)],k13 i)) [] [(34,28)])
  (.e (.done (.brk u0))))
  (fun u3=> .r<| .lp (σ:=((List Part) × Int)) (β:=(List Part)) (u3,0) [] [] ⟨[1],[],fun(u1,i1)=>[(5,vO 28 false u1.length),(7,vI i1)],fun(u1,i1)=>(Tq u1)⟩ ⟨[1],[],fun u4=>[(5,vO 28 false u4.length)],fun u4=>(Tq u4)⟩
  (fun(u1,i1)=> .r<| .it (.a2 ((u1.length+[(⟨2,i1⟩:Part)].length)*16<=140737488355328) (u1.length+[(⟨2,i1⟩:Part)].length<=4611686018427387904)<| .rg {an:=[(3, .arr [(⟨2,i1⟩:Part)].length (aj Part.cell [(⟨2,i1⟩:Part)])),(4, .arr (u1++[(⟨2,i1⟩:Part)]).length (aj Part.cell (u1++[(⟨2,i1⟩:Part)])))],fr:=[(3,42),(4,43)]} [.pf ⟨[(⟨2,i1⟩:Part)].length=1,rfl⟩, .pf ⟨av 1 2 (iY 2 [.int .i64 2,.int .i64 i1]) (aj Part.cell [(⟨2,i1⟩:Part)]),(by intro i hi j hj;match i,j,hi,hj with|0,0,_,_=>rfl|0,1,_,_=>rfl)⟩, .e (u1.length),0,1, .pf ⟨(u1++[(⟨2,i1⟩:Part)]).length=u1.length+[(⟨2,i1⟩:Part)].length,b_⟩, .pf ⟨av (u1.length+[(⟨2,i1⟩:Part)].length) 2 (fQ (aj Part.cell u1) u1.length (aj Part.cell [(⟨2,i1⟩:Part)])) (aj Part.cell (u1++[(⟨2,i1⟩:Part)])),aP _ _ _ _⟩]<| .r<| .en (.next (u1++[(⟨2,i1⟩:Part)],k13 i1)) [] [(43,28)])
  (.e (.done (.brk u1))))
  (fun u4=> .r<| .lp (σ:=((List Part) × Int)) (β:=(List Part)) (u4,0) [] [] ⟨[1],[],fun(u2,i2)=>[(5,vO 28 false u2.length),(8,vI i2)],fun(u2,i2)=>(Tq u2)⟩ ⟨[],[],fun u5=>[(5,vO 28 false u5.length)],fun u5=>(Tq u5)⟩
  (fun(u2,i2)=> .r<| .it (.a2 ((u2.length+[(⟨3,i2⟩:Part)].length)*16<=140737488355328) (u2.length+[(⟨3,i2⟩:Part)].length<=4611686018427387904)<| .rg {an:=[(3, .arr [(⟨3,i2⟩:Part)].length (aj Part.cell [(⟨3,i2⟩:Part)])),(4, .arr (u2++[(⟨3,i2⟩:Part)]).length (aj Part.cell (u2++[(⟨3,i2⟩:Part)])))],fr:=[(3,50),(4,51)]} [.pf ⟨[(⟨3,i2⟩:Part)].length=1,rfl⟩, .pf ⟨av 1 2 (iY 2 [.int .i64 3,.int .i64 i2]) (aj Part.cell [(⟨3,i2⟩:Part)]),(by intro i hi j hj;match i,j,hi,hj with|0,0,_,_=>rfl|0,1,_,_=>rfl)⟩, .e (u2.length),0,1, .pf ⟨(u2++[(⟨3,i2⟩:Part)]).length=u2.length+[(⟨3,i2⟩:Part)].length,b_⟩, .pf ⟨av (u2.length+[(⟨3,i2⟩:Part)].length) 2 (fQ (aj Part.cell u2) u2.length (aj Part.cell [(⟨3,i2⟩:Part)])) (aj Part.cell (u2++[(⟨3,i2⟩:Part)])),aP _ _ _ _⟩]<| .r<| .en (.next (u2++[(⟨3,i2⟩:Part)],k13 i2)) [] [(51,28)])
  (.e (.done (.brk u2))))
  (fun u5=> .r<| .en (u5,0) [] [(28,0)])))))
section
variable (r_:(List Part) × Int) (i:Int) (s_:State)
abbrev ach:=(bif (decide (((at' r_.1 i.toNat).kind)=1))then(!(at' s_.al (((at' r_.1 i.toNat).index).toNat)))else false)
end
theorem rE (p:ah) (s_:State):cu Tryz.prog 77 (k24 s_ p) [] (fun r=>(vD (aN none 2 Part.cell r))) (fun _=>[]) (mE p s_):=
  cZ tT mX Tryz.func77 (
  .rg {fr:=[(0,15),(1,16)],fz:=[15,16]} []<| .r<| .cl 1 (iT [(0,17)] (Cq p)) fun r_=> .r<| .r<| .im (.ad 5 30 84 2 (aj Part.cell ([]:List Part)))<| .lp (σ:=((List Part) × Int)) (β:=(List Part)) (([]:List Part),0) [] [(30,20)] ⟨[3,6],[17],fun(u0,i)=>[(5,vO 20 false u0.length),(8,vI i)],fun(u0,i)=>[(20,some (aX 84 2 Part.cell u0))]⟩ ⟨[],[],fun u1=>[(5,vO 20 false u1.length)],fun u1=>[(20,some (aX 84 2 Part.cell u1))]⟩
  (fun(u0,i)=> .r<| .it (.a1 ((0:Int)<=i/\i<(r_.1.length:Int))<| .rg {fr:=[(4,27)],fz:=[27]} [0, .t 0 i r_.1.length]<| .a3 ((gB [(decide (((at' r_.1 i.toNat).kind)=1),true)]=true->(0:Int)<=(at' r_.1 i.toNat).index/\(at' r_.1 i.toNat).index<(s_.al.length:Int))) ((gB [(decide (((at' r_.1 i.toNat).kind)=2),true),(ach r_ i s_,false)]=true->(0:Int)<=(at' r_.1 i.toNat).index/\(at' r_.1 i.toNat).index<(s_.ae.length:Int))) ((gB [(decide (((at' r_.1 i.toNat).kind)=3),true),((bif (ach r_ i s_)then true else(bif (decide (((at' r_.1 i.toNat).kind)=2))then(!(at' s_.ae (((at' r_.1 i.toNat).index).toNat)))else false)),false)]=true->(0:Int)<=(at' r_.1 i.toNat).index/\(at' r_.1 i.toNat).index<(s_.ag.length:Int)))<| .rg {} [0,1,2]<| .it (.a2 ((u0.length+[at' r_.1 i.toNat].length)*16<=140737488355328) (u0.length+[at' r_.1 i.toNat].length<=4611686018427387904)<| .rg {an:=[(2, .arr [at' r_.1 i.toNat].length (aj Part.cell [at' r_.1 i.toNat])),(3, .arr (u0++[at' r_.1 i.toNat]).length (aj Part.cell (u0++[at' r_.1 i.toNat])))],fr:=[(2,28),(3,29)]} [.pf ⟨[at' r_.1 i.toNat].length=1,rfl⟩, .pf ⟨av 1 2 (iY 2 [.int .i64 ((at' r_.1 i.toNat).kind),.int .i64 ((at' r_.1 i.toNat).index)]) (aj Part.cell [at' r_.1 i.toNat]),(by intro i hi j hj;match i,j,hi,hj with|0,0,_,_=>rfl|0,1,_,_=>rfl)⟩, .e (u0.length),0,1, .pf ⟨(u0++[at' r_.1 i.toNat]).length=u0.length+[at' r_.1 i.toNat].length,b_⟩, .pf ⟨av (u0.length+[at' r_.1 i.toNat].length) 2 (fQ (aj Part.cell u0) u0.length (aj Part.cell [at' r_.1 i.toNat])) (aj Part.cell (u0++[at' r_.1 i.toNat])),aP _ _ _ _⟩]<| .r<| .en (.next (u0++[at' r_.1 i.toNat],k13 i)) [] [(29,20)])
  (.r<| .e (.next (u0,k13 i))))
  (.e (.done (.brk u0))))
  (fun u1=> .rg {fz:=[20]} []<| .e u1))
section
variable (u0:List Part) (i:Int)
abbrev Cb:=(aj Part.cell [at' u0 i.toNat])
abbrev QC:=(iY 2 [.int .i64 ((at' u0 i.toNat).kind),.int .i64 ((at' u0 i.toNat).index)])
end
theorem Cx (p:ah) (s_:State) (u2:Int):cu Tryz.prog 33 (EY p s_ u2) [] (fun r=>(.dV [sD (aN none 2 Part.cell r.1),sI r.2])) (fun _=>[]) (xN p s_ u2):=
  cZ tT mX Tryz.func33 (
  .rg {fr:=[(0,14),(1,15)],fz:=[14,15]} []<| .cl 3 (nE p s_ u2) fun r_=> .r<| .r<| .it (.r<| .e (([]:List Part),r_))
  (.r<| .cl 2 (rE p s_) fun u0=> .r<| .r<| .im (.ad 9 28 84 2 (aj Part.cell ([]:List Part)))<| .lp (σ:=((List Part) × Int)) (β:=(List Part)) (([]:List Part),0) [] [(28,18)] ⟨[2,3,4,10],[],fun(u1,i)=>[(9,vO 18 false u1.length),(11,vI i)],fun(u1,i)=>[(18,some (aX 84 2 Part.cell u1))]⟩ ⟨[],[],fun u3=>[(9,vO 18 false u3.length)],fun u3=>[(18,some (aX 84 2 Part.cell u3))]⟩
  (fun(u1,i)=> .cg 8 [(decide (i<(u0.length:Int)),true)] (nQ p s_ u2) fun u5=> .r<| .it (.cl 6 (nG p s_ (at' u0 i.toNat) true) fun u4=> .a1 (rC u0 i)<| .rg {fr:=[(10,25)],fz:=[25]} [0,1]<| .cl 3 (nQ p u4.1 u2) fun u6=> .r<| .it (.a3 (rC u0 i) ((u1.length+[at' u0 i.toNat].length)*16<=140737488355328) (u1.length+[at' u0 i.toNat].length<=4611686018427387904)<| .rg {an:=[(5, .arr [at' u0 i.toNat].length (Cb u0 i)),(6, .arr (u1++[at' u0 i.toNat]).length (aj Part.cell (u1++[at' u0 i.toNat])))],fr:=[(5,26),(6,27)]} [0, .pf ⟨[at' u0 i.toNat].length=1,rfl⟩, .pf ⟨av 1 2 (QC u0 i) (Cb u0 i),(by intro i hi j hj;match i,j,hi,hj with|0,0,_,_=>rfl|0,1,_,_=>rfl)⟩, .e (u1.length),1,2, .pf ⟨(u1++[at' u0 i.toNat]).length=u1.length+[at' u0 i.toNat].length,b_⟩, .pf ⟨av (u1.length+[at' u0 i.toNat].length) 2 (fQ (aj Part.cell u1) u1.length (Cb u0 i)) (aj Part.cell (u1++[at' u0 i.toNat])),aP _ _ _ _⟩]<| .r<| .en (.next (u1++[at' u0 i.toNat],k13 i)) [] [(27,18)])
  (.r<| .e (.next (u1,k13 i))))
  (.e (.done (.brk u1))))
  (fun u3=> .rg {fz:=[18]} []<| .e (u3,0))))
section
variable (n:Int)
abbrev Ym:=(IntKind.wrap .i64 (n - (IntKind.wrap .i64 ((0:Int) - (([]:List Part).length:Int)))))
abbrev aaE:=((Ym n).toNat)
abbrev UJ:=(List.replicate (aaE n) ((⟨0,0⟩:Part):Part))
abbrev acM:=((UJ n).length:Int)
abbrev aaV:=(aj Part.cell (UJ n))
abbrev Ze:=((UJ n).take ((([]:List Part).length:Int).toNat))
abbrev aec:=(aj Part.cell (Ze n))
end
theorem Ca (n:Int):cu Tryz.prog 136 [sD (aN (some false) 2 Part.cell ([]:List Part)),sI n] [] (fun r=>(vO 0 false r.length)) (fun r=>[(0,some (aX 84 2 Part.cell r))]) (yo n):=
  cZ tT mX Tryz.func136 (
  .r<| .r<| .it (.no)
  (.r<| .r<| .it (.a5 ((0:Int)<=(0:Int)/\(0:Int)<=(([]:List Part).length:Int)) ((0:Int)<(Ym n)) ((16:Int)*(Ym n)<=140737488355328) (((Ym n):Int)<=4611686018427387904) ((0:Int)<=(([]:List Part).length:Int)/\(([]:List Part).length:Int)<=(acM n))<| .rg {an:=[(5, .arr (UJ n).length (aaV n)),(8, .arr (Ze n).length (aec n))],fr:=[(5,2),(8,3)]} [0,1,2,3, .pf ⟨(UJ n).length=(aaE n),dj⟩, .pf ⟨av (aaE n) 2 (fun _ j=>[.int .i64 0,.int .i64 0].getD j .nilp) (aaV n),gV _ _ _ _ _ (fun j hj=>(match j,hj with|0,_=>rfl|1,_=>rfl))⟩, .e ((UJ n).length),4, .dv 4 ⟨(0:Int)<=(([]:List Part).length:Int)/\(([]:List Part).length:Int)<=(acM n),(Ze n).length=((([]:List Part).length:Int).toNat),fun ax=>take_len ax⟩, .pf ⟨av ((([]:List Part).length:Int).toNat) 2 (aaV n) (aec n),Eb _ _ _ _⟩]<| .r<| .en (Ze n) [] [(3,0)])
  (.r<| .im (.ad 4 4 84 2 (aj Part.cell ([]:List Part)))<| .en ([]:List Part) [] [(4,0)])))
theorem DJ (u2:List (List Part)):cu Tryz.prog 81 [sD (Ui u2)] [] (fun r=>(vD (aN none 2 Part.cell r))) (fun _=>[]) (zx u2):=
  cZ tT mX Tryz.func81 (
  .r<| .r<| .r<| .lp (σ:=(Int × Int)) (β:=Int) (0,0) [] [] ⟨[0,9,10],[],fun(u4,u3)=>[(3,vI u4),(11,vI u3)],fun(u4,u3)=>[]⟩ ⟨[0],[],fun u5=>[(3,vI u5)],fun u5=>[]⟩
  (fun(u4,u3)=> .r<| .it (.a1 (FK u3 u2)<| .r<| .r<| .r<| .it (.no)
  (.r<| .e (.next (IntKind.wrap .i64 (u4+((at' u2 u3.toNat).length:Int)),k13 u3))))
  (.e (.done (.brk u4))))
  (fun u5=> .cl 1 (leO [sD nS,sI u5] (iT [(0,5)] (Ca u5))) fun r_=> .r<| .r<| .lp (σ:=((List Part) × Int)) (β:=(List Part)) (r_,0) [] [] ⟨[25,26],[],fun(u0,u1)=>[(6,vO 5 false u0.length),(27,vI u1)],fun(u0,u1)=>[(5,some (aX 84 2 Part.cell u0))]⟩ ⟨[],[],fun u6=>[(6,vO 5 false u6.length)],fun u6=>[(5,some (aX 84 2 Part.cell u6))]⟩
  (fun(u0,u1)=> .r<| .it (.a1 (FK u1 u2)<| .r<| .a2 ((u0.length+(at' u2 u1.toNat).length)*16<=140737488355328) (u0.length+(at' u2 u1.toNat).length<=4611686018427387904)<| .rg {an:=[(2, .arr (u0++(at' u2 u1.toNat)).length (aj Part.cell (u0++(at' u2 u1.toNat))))],fr:=[(2,9)]} [.e (u0.length),0,1, .pf ⟨(u0++(at' u2 u1.toNat)).length=u0.length+(at' u2 u1.toNat).length,b_⟩, .pf ⟨av (u0.length+(at' u2 u1.toNat).length) 2 (fQ (aj Part.cell u0) u0.length (aj Part.cell (at' u2 u1.toNat))) (aj Part.cell (u0++(at' u2 u1.toNat))),aP _ _ _ _⟩]<| .r<| .en (.next (u0++(at' u2 u1.toNat),k13 u1)) [] [(9,5)])
  (.e (.done (.brk u0))))
  (fun u6=> .rg {fz:=[5]} []<| .e u6)))
theorem yO (s_:List Part) (v_:Part):cu Tryz.prog 82 (aax s_ v_) [] (fun r=>(vB r)) (fun _=>[]) (tO s_ v_):=
  cZ tT mX Tryz.func82 (
  .rg {fr:=[(0,1)],fz:=[1]} []<| .cl 2 (sK s_ v_) fun r_=> .r<| .e (decide (0<=r_)))
section
variable (l:List Part) (s_:State) (p:ah) (i:Int) (u1:List Int) (u0:Int)
abbrev ad7:=(bif (decide ((l.length:Int)<2))then true else(!decide ((Int.tmod (l.length:Int) 2)=0)))
abbrev acN:=(bif (ad7 l)then true else(!decide (((at' l 0).kind)=2)))
abbrev acD:=(bif (!(at' s_.on_ (((at' l 0).index).toNat)))then true else(at' s_.ae (((at' l 0).index).toNat)))
abbrev Kz:=(at' p.aa (((at' l 0).index).toNat))
abbrev adf:=(bif (!(at' s_.ap (((at' l i.toNat).index).toNat)))then true else(at' s_.ag (((at' l i.toNat).index).toNat)))
abbrev aer:=(u1.length+[FZ l i u0 p].length)
abbrev abh:=(aj (aG .i64) [FZ l i u0 p])
abbrev YH:=(u1++[FZ l i u0 p])
abbrev adi:=(aj (aG .i64) (YH l p i u1 u0))
end
theorem Gd (p:ah) (s_:State) (u2:Int) (l:List Part):cu Tryz.prog 80 (WQ p s_ u2 l) [] (fun r=>(vB r)) (fun _=>[]) (C8 p s_ u2 l):=
  cZ tT mX Tryz.func80 (
  .rg {fr:=[(0,19),(1,20)],fz:=[20]} []<| .a4 ((gB [(decide ((l.length:Int)<2),false)]=true->2≠(0:Int))) ((gB [(ad7 l,false)]=true->(0:Int)<=0/\0<(l.length:Int))) ((gB [(acN l,false)]=true->(0:Int)<=0/\0<(l.length:Int))) ((gB [((bif (acN l)then true else(decide (((at' l 0).index)<0))),false)]=true->(0:Int)<=0/\0<(l.length:Int)))<| .rg {} [0,1,2,3]<| .it (.r<| .e false)
  (.a1 ((0:Int)<=0/\0<(l.length:Int))<| .r<| .a1 ((0:Int)<=(at' l 0).index/\(at' l 0).index<(p.aa.length:Int))<| .r<| .a4 ((0:Int)<=(at' l 0).index/\(at' l 0).index<(s_.on_.length:Int)) ((gB [(!(at' s_.on_ (((at' l 0).index).toNat)),false)]=true->(0:Int)<=(at' l 0).index/\(at' l 0).index<(s_.ae.length:Int))) ((gB [(acD l s_,false)]=true->(0:Int)<=(Kz l p).bus/\(Kz l p).bus<(s_.al.length:Int))) ((gB [((bif (acD l s_)then true else(at' s_.al (((Kz l p).bus).toNat))),false)]=true->(0:Int)<=1/\1<(l.length:Int)))<| .rg {} [0,1,2,3]<| .it (.r<| .e false)
  (.rg {an:=[(1, .arr [(Kz l p).bus].length (aj (aG .i64) [(Kz l p).bus]))],fr:=[(1,21)]} [.pf ⟨[(Kz l p).bus].length=1,rfl⟩, .pf ⟨av 1 1 (iY 1 [.int .i64 ((Kz l p).bus)]) (aj (aG .i64) [(Kz l p).bus]),(by intro i hi j hj;match i,j,hi,hj with|0,0,_,_=>rfl)⟩]<| .r<| .lp (σ:=(Int × (List Int) × Int)) (β:=Int) ((Kz l p).bus,[(Kz l p).bus],2) [] [] ⟨[2,3,4,5],[19],fun(u0,u1,i)=>[(10,vI u0),(11,vO 21 false u1.length),(12,vI i)],fun(u0,u1,i)=>[(21,some (Cy u1))]⟩ ⟨[2,4],[19],fun u3=>[(10,vI u3)],fun u3=>[]⟩
  (fun(u0,u1,i)=> .r<| .it (.a1 (rC l i)<| .rg {fr:=[(4,34)]} []<| .r<| .it (.r<| .e (.done (.ret false)))
  (.a1 ((0:Int)<=(at' l i.toNat).index/\(at' l i.toNat).index<(p.aq.length:Int))<| .rg {fr:=[(6,35)],fz:=[34,35]} []<| .a4 ((0:Int)<=(at' l i.toNat).index/\(at' l i.toNat).index<(s_.ap.length:Int)) ((gB [(!(at' s_.ap (((at' l i.toNat).index).toNat)),false)]=true->(0:Int)<=(at' l i.toNat).index/\(at' l i.toNat).index<(s_.ag.length:Int))) ((gB [(adf l s_ i,false)]=true->(0:Int)<=(QA l i p).a/\(QA l i p).a<(s_.al.length:Int))) ((gB [((bif (adf l s_ i)then true else(at' s_.al (((QA l i p).a).toNat))),false)]=true->(0:Int)<=(QA l i p).b/\(QA l i p).b<(s_.al.length:Int)))<| .rg {} [0,1,2,3]<| .it (.r<| .e (.done (.ret false)))
  (.r<| .cgr 11 [(!((decide (((at' l (EU i)).kind)=1)) && ((decide (((at' l (EU i)).index)=(FZ l i u0 p))) && true)),false)] ⟨fun{r_} hr_=>((Fn.wC (frz:=[21]) (p:=[u1.length=u1.length]) (lg u1 (FZ l i u0 p) hr_) (by kernel_rfl) ⟨rfl,trivial⟩ rfl):Fn Tryz.prog 128 [.one (.own 21 false u1.length),sI (FZ l i u0 p)] [(21,some (Cy u1))] (vB r_) [(21,some (Cy u1))])⟩ fun r_=> .a1 ((0:Int)<=(k13 i)/\(k13 i)<(l.length:Int))<| .rg {} [0,1]<| .it (.r<| .e (.done (.ret false)))
  (.a2 ((aer l p i u1 u0)*8<=140737488355328) (u1.length+[FZ l i u0 p].length<=4611686018427387904)<| .rg {an:=[(2, .arr [FZ l i u0 p].length (abh l p i u0)),(3, .arr (YH l p i u1 u0).length (adi l p i u1 u0))],fr:=[(2,36),(3,37)]} [.pf ⟨[FZ l i u0 p].length=1,rfl⟩, .pf ⟨av 1 1 (iY 1 [.int .i64 (FZ l i u0 p)]) (abh l p i u0),(by intro i hi j hj;match i,j,hi,hj with|0,0,_,_=>rfl)⟩, .e (u1.length),0,1, .pf ⟨(YH l p i u1 u0).length=u1.length+[FZ l i u0 p].length,b_⟩, .pf ⟨av (aer l p i u1 u0) 1 (fQ (aj (aG .i64) u1) u1.length (abh l p i u0)) (adi l p i u1 u0),aP _ _ _ _⟩]<| .r<| .en (.next (FZ l i u0 p,YH l p i u1 u0,IntKind.wrap .i64 (i+2))) [] [(37,21)]))))
  (.e (.done (.brk u0))))
  (fun u3=> .cl 7 ⟨fun{u4} hr_1=>((Fn.PE (args:=[sD (aN none 1 (aG .i64) [(r9 p u2).e0,(r9 p u2).e1]),sI u3]) (args':=[sD (.sl (some true) 1 [(r9 p u2).e0,(r9 p u2).e1].length (fun i j=>(aj aO.cell p.a_ u2.toNat) (0+(i*1+j)))),sI u3]) (hin:=[]) (hin':=[]) (lg [(r9 p u2).e0,(r9 p u2).e1] u3 hr_1) ⟨kD.one (bY.d (bO.sl (.inl rfl) (by intro i hi j hj;match i,j,hi,hj with|0,0,_,_=>exact .refl _|1,0,_,_=>exact .refl _))),kD.refl _,trivial⟩ trivial):Fn Tryz.prog 128 [sD (.sl (some true) 1 [(r9 p u2).e0,(r9 p u2).e1].length (fun i j=>(aj aO.cell p.a_ u2.toNat) (0+(i*1+j)))),sI u3] [] (vB u4) [])⟩ fun u4=> .a1 (JC p u2)<| .rg {} [0,1]<| .e u4))))
theorem yU (x:List Part) (x1:Int) (u0:List Source) (u1:List Link) (u2:List aO) (x2:List Bool) (u3:List Bool) (u4:List Bool) (u5:List Bool) (u6:List Bool) (u7:List Bool) (u8:List Bool) (x3:Int):cu Tryz.prog 79 [sD (FM x),sD (k3 u0 u1 u2 x1),sD (Z6 x2 u3 u4 u5 u6 u7 u8),sD (J9 [.int .i64 x3] 0)] [] (fun r=>(vB r)) (fun _=>[]) (tC x x1 u0 u1 u2 x2 u3 u4 u5 u6 u7 u8 x3):=
  cZ tT mX Tryz.func79 (
  .r<| .cl 4 (Gd (⟨x1,u0,u1,u2⟩:ah) (Ng x2 u3 u4 u5 u6 u7 u8) x3 x) fun r_=> .r<| .e (!r_))
section
variable (s_:List (List Part)) (f_:Int) (u0:List Source) (u1:List Link) (u2:List aO) (u3:List Bool) (u4:List Bool) (u5:List Bool) (u6:List Bool) (u7:List Bool) (u8:List Bool) (u9:List Bool) (v0:Int)
abbrev aex:List SV:=[sD (Ui s_),sD (.fn 79 3 (ac2 f_ u0 u1 u2 u3 u4 u5 u6 u7 u8 u9 v0))]
end
theorem xI (s_:List (List Part)) (f_:Int) (u0:List Source) (u1:List Link) (u2:List aO) (u3:List Bool) (u4:List Bool) (u5:List Bool) (u6:List Bool) (u7:List Bool) (u8:List Bool) (u9:List Bool) (v0:Int):cu Tryz.prog 135 (aex s_ f_ u0 u1 u2 u3 u4 u5 u6 u7 u8 u9 v0) [] (fun r=>(vI r)) (fun _=>[]) (qV s_ f_ u0 u1 u2 u3 u4 u5 u6 u7 u8 u9 v0):=
  cZ tT mX Tryz.func135 (
  .r<| .r<| .lp (σ:=Int) (β:=Unit) (0) [] [] ⟨[0,1,7],[],fun t8=>[(8,vI t8)],fun t8=>[]⟩ ⟨[],[],fun _=>[],fun _=>[]⟩
  (fun t8=> .r<| .it (.r<| .cl 5 (yU (at' s_ t8.toNat) f_ u0 u1 u2 u3 u4 u5 u6 u7 u8 u9 v0) fun r_=> .a1 (FK t8 s_)<| .rg {} [0,1]<| .it (.r<| .e (.done (.ret t8)))
  (.r<| .e (.next (k13 t8))))
  (.e (.done (.brk ()))))
  (fun _=> .r<| .e (-1)))
theorem vg (s_:List (List Part)) (f_:Int) (u0:List Source) (u1:List Link) (u2:List aO) (u3:List Bool) (u4:List Bool) (u5:List Bool) (u6:List Bool) (u7:List Bool) (u8:List Bool) (u9:List Bool) (v0:Int):cu Tryz.prog 78 (aex s_ f_ u0 u1 u2 u3 u4 u5 u6 u7 u8 u9 v0) [] (fun r=>(vB r)) (fun _=>[]) (qd s_ f_ u0 u1 u2 u3 u4 u5 u6 u7 u8 u9 v0):=
  cZ tT mX Tryz.func78 (
  .r<| .cl 2 (xI s_ f_ u0 u1 u2 u3 u4 u5 u6 u7 u8 u9 v0) fun r_=> .r<| .e (decide (0<=r_)))
theorem BF (p:ah) (s_:State) (u2:Int) (l:List (List Part)):cu Tryz.prog 35 (abu l p s_ u2) [] (fun r=>(vI r)) (fun _=>[]) (wM p s_ u2 l):=
  cZ tT mX Tryz.func35 (
  .rg {fr:=[(0,7),(1,8),(2,9)],fz:=[7,8,9]} []<| .cl 3 (nJ p s_ u2) fun r_=> .r<| .r<| .it (.r<| .e r_)
  (.cl 2 (vg l p.ar p.aa p.aq p.a_ s_.ap s_.aw s_.ag s_.on_ s_.ae s_.am s_.al u2) fun u4=> .r<| .it (.r<| .e 7)
  (.cl 1 (DJ l) fun u1=> .r<| .r<| .lp (σ:=Int) (β:=Unit) (0) [] [] ⟨[10,25,26],[],fun u0=>[(27,vI u0)],fun u0=>[]⟩ ⟨[],[],fun _=>[],fun _=>[]⟩
  (fun u0=> .r<| .it (.a1 (rC u1 u0)<| .rg {fr:=[(3,13)],fz:=[13]} []<| .cl 4 ⟨fun{u3} hr_3=>((Fn.PE (args:=(adE u1 u0)) (args':=(Za u1 u0)) (hin:=[]) (hin':=[]) (yO (rO u1 0 u0.toNat) (at' u1 u0.toNat) hr_3) ⟨kD.one (bY.d (bO.ZW (by first|rw [b_,dE]|simp only [cJ,dE,kY]) (.inr rfl) (Qp _ _ _ _))),kD.refl _,trivial⟩ trivial):Fn Tryz.prog 82 (Za u1 u0) [] (vB u3) [])⟩ fun u3=> .a1 ((0:Int)<=u0/\u0<=(u1.length:Int))<| .rg {} [0,1]<| .it (.r<| .e (.done (.ret 7)))
  (.r<| .e (.next (k13 u0))))
  (.e (.done (.brk ()))))
  (fun _=> .r<| .e 0))))
theorem G8 (l:List (List Part)):cu Tryz.prog 36 [sD (Ui l)] [] (fun r=>(vD (aN none 1 (wu 2 Part.cell) r))) (fun _=>[]) (Ei l):=
  cZ tT mX Tryz.func36 (
  .r<| .r<| .r<| .im (.ad 3 16 48 1 (aj (wu 2 Part.cell) ([]:List (List Part))))<| .lp (σ:=((List (List Part)) × Int)) (β:=(List (List Part))) (([]:List (List Part)),0) [] [(16,9)] ⟨[0],[],fun(u0,i)=>[(3,vO 9 false u0.length),(4,vI i)],fun(u0,i)=>[(9,some (Ai u0))]⟩ ⟨[],[],fun u1=>[(3,vO 9 false u1.length)],fun u1=>[(9,some (Ai u1))]⟩
  (fun(u0,i)=> .r<| .it (.cl 5 (Dm (at' l i.toNat)) fun r_=> .a3 (FK i l) ((u0.length+[r_].length)*24<=140737488355328) (u0.length+[r_].length<=4611686018427387904)<| .rg {an:=[(6, .arr [r_].length (Jk r_)),(7, .arr (u0++[r_]).length (aj (wu 2 Part.cell) (u0++[r_])))],fr:=[(6,14),(7,15)]} [0,3, .pf ⟨[r_].length=1,rfl⟩, .pf ⟨av 1 1 (iY 1 [FM r_]) (Jk r_),(by intro i hi j hj;match i,j,hi,hj with|0,0,_,_=>rfl)⟩, .e (u0.length),1,2, .pf ⟨(u0++[r_]).length=u0.length+[r_].length,b_⟩, .pf ⟨av (u0.length+[r_].length) 1 (fQ (NU u0) u0.length (Jk r_)) (aj (wu 2 Part.cell) (u0++[r_])),aP _ _ _ _⟩]<| .r<| .en (.next (u0++[r_],k13 i)) [] [(15,9)])
  (.e (.done (.brk u0))))
  (fun u1=> .rg {fz:=[9]} []<| .e u1))
theorem Bg (a:List Source) (b:List Source):cu Tryz.prog 84 [sD (k4 a),sD (k4 b)] [] (fun r=>(vB r)) (fun _=>[]) (wI a b):=
  cZ tT mX Tryz.func84 (
  .r<| .r<| .it (.r<| .e false)
  (.r<| .lp (σ:=Int) (β:=Unit) (0) [] [] ⟨[0,1],[],fun i=>[(5,vI i)],fun i=>[]⟩ ⟨[],[],fun _=>[],fun _=>[]⟩
  (fun i=> .r<| .it (.a2 ((0:Int)<=i/\i<(a.length:Int)) ((0:Int)<=i/\i<(b.length:Int))<| .rg {} [0,1]<| .it (.r<| .e (.done (.ret false)))
  (.r<| .e (.next (k13 i))))
  (.e (.done (.brk ()))))
  (fun _=> .r<| .e true)))
theorem Dj (a:List nT) (b:List nT):cu Tryz.prog 171 [sD (aN none 2 nT.cell a),sD (aN none 2 nT.cell b)] [] (fun r=>(vB r)) (fun _=>[]) (zC a b):=
  cZ tT mX Tryz.func171 (
  .r<| .r<| .it (.r<| .e false)
  (.r<| .lp (σ:=Int) (β:=Unit) (0) [] [] ⟨[0,1],[],fun i=>[(5,vI i)],fun i=>[]⟩ ⟨[],[],fun _=>[],fun _=>[]⟩
  (fun i=> .r<| .it (.a2 ((0:Int)<=i/\i<(a.length:Int)) ((0:Int)<=i/\i<(b.length:Int))<| .rg {} [0,1]<| .it (.r<| .e (.done (.ret false)))
  (.r<| .e (.next (k13 i))))
  (.e (.done (.brk ()))))
  (fun _=> .r<| .e true)))
section
variable (a:Link) (b:Link)
abbrev ab6:=(bif (bif (bif (bif (decide (a.a=b.a))then(decide (a.b=b.b))else false)then(decide (a.kind=b.kind))else false)then(decide (a.most=b.most))else false)then(decide (a.ohm=b.ohm))else false)
end
theorem Ez (a:Link) (b:Link):cu Tryz.prog 137 [.agg (k14 a),.agg (k14 b)] [] (fun r=>(vB r)) (fun _=>[]) (Ap a b):=
  cZ tT mX Tryz.func137 (
  .rg {fr:=[(0,2),(1,3)],fz:=[2,3]} []<| .cg 38 [(ab6 a b,true)] (Dj a.trip b.trip) fun r_=> .r<| .e (bif (ab6 a b)then r_ else false))
theorem DT (a:List Link) (b:List Link):cu Tryz.prog 85 [sD (k5 a),sD (k5 b)] [] (fun r=>(vB r)) (fun _=>[]) (zw a b):=
  cZ tT mX Tryz.func85 (
  .r<| .r<| .it (.r<| .e false)
  (.r<| .lp (σ:=Int) (β:=Unit) (0) [] [] ⟨[0,1],[],fun i=>[(5,vI i)],fun i=>[]⟩ ⟨[],[],fun _=>[],fun _=>[]⟩
  (fun i=> .r<| .it (.cl 8 (Ez (at' a i.toNat) (at' b i.toNat)) fun r_=> .a2 (k18 a i) (k18 b i)<| .rg {} [0,1,2]<| .it (.r<| .e (.done (.ret false)))
  (.r<| .e (.next (k13 i))))
  (.e (.done (.brk ()))))
  (fun _=> .r<| .e true)))
theorem Dt (a:List aO) (b:List aO):cu Tryz.prog 86 [sD (k6 a),sD (k6 b)] [] (fun r=>(vB r)) (fun _=>[]) (zI a b):=
  cZ tT mX Tryz.func86 (
  .r<| .r<| .it (.r<| .e false)
  (.r<| .lp (σ:=Int) (β:=Unit) (0) [] [] ⟨[0,1],[],fun i=>[(5,vI i)],fun i=>[]⟩ ⟨[],[],fun _=>[],fun _=>[]⟩
  (fun i=> .r<| .it (.a2 ((0:Int)<=i/\i<(a.length:Int)) ((0:Int)<=i/\i<(b.length:Int))<| .rg {} [0,1]<| .it (.r<| .e (.done (.ret false)))
  (.r<| .e (.next (k13 i))))
  (.e (.done (.brk ()))))
  (fun _=> .r<| .e true)))
theorem D8 (a:ah) (b:ah):cu Tryz.prog 37 [.agg (k1 a),.agg (k1 b)] [] (fun r=>(vB r)) (fun _=>[]) (zu a b):=
  cZ tT mX Tryz.func37 (
  .rg {fr:=[(0,2),(1,3)],fz:=[2,3]} []<| .cg 10 [(decide (a.ar=b.ar),true)] (Bg a.aa b.aa) fun r_=> .cg 17 [((bif (decide (a.ar=b.ar))then r_ else false),true)] (DT a.aq b.aq) fun u0=> .cg 24 [((bif (bif (decide (a.ar=b.ar))then r_ else false)then u0 else false),true)] (Dt a.a_ b.a_) fun u1=> .r<| .e (bif (bif (bif (decide (a.ar=b.ar))then r_ else false)then u0 else false)then u1 else false))
theorem zN (x:ah):cu Tryz.prog 26 (k0 x) [] (fun r=>(.v (.agg [cI r.ar,.own 0 false r.aa.length,.own 1 false r.aq.length,.own 2 false r.a_.length]))) (fun r=>[(0,some (aX 125 5 Source.cell r.aa)),(1,some (aX 113 6 Link.cell r.aq)),(2,some (aX 100 4 aO.cell r.a_)),(3,none)]) (zJ x):=
  cZ tT mX Tryz.func26 (
  .rg {fr:=[(0,5),(1,6)]} []<| .cl 4 (iT [(0,7)] (xR x.aa)) fun r_=> .cl 7 (iT [(0,8)] (Aa x.aq)) fun u0=> .cl 10 (iT [(0,9)] (zT x.a_)) fun u1=> .r<| .en (⟨x.ar,r_,u0,u1⟩:ah) [] [(7,0),(8,1),(9,2),(6,3)])
theorem zn (p:ah) (s_:State) (u0:Int) (l:List (List Part)):cu Tryz.prog 5 (abu l p s_ u0) [] (fun r=>(vB r)) (fun _=>[]) (iI p s_ u0 l):=
  cZ tT mX Tryz.func5 (
  .rg {fr:=[(0,21),(1,22)],fz:=[21,22]} []<| .cl 1 (A9 p) fun r_=> .r<| .it (.cl 0 fq fun v3=> .r<| .e v3)
  (.r<| .lp (σ:=Int) (β:=Unit) (0) [] [] ⟨[2,3,4,5],[],fun i=>[(9,vI i)],fun i=>[]⟩ ⟨[2,3,4,5],[],fun _=>[],fun _=>[]⟩
  (fun i=> .r<| .it (.a1 (FK i l)<| .r<| .it (.cl 0 fq fun v4=> .r<| .e (.done (.ret v4)))
  (.r<| .e (.next (k13 i))))
  (.e (.done (.brk ()))))
  (fun _=> .cl 1 (iT [(0,23),(1,24),(2,25),(3,26)] (zN p)) fun u3=> .cl 3 (iT [(0,27),(1,28),(2,29),(3,30),(4,31),(5,32),(6,33),(7,34)] (mK s_)) fun u4=> .rg {fr:=[(4,35),(5,36)],fz:=[23,24,25,27,28,29,30,31,32,33]} []<| .fz [35,36]<| .cl 5 (Kh u0 (p.a_.length:Int)) fun u1=> .rg {an:=[(6, .arr [u0,u1].length (aj (aG .i64) [u0,u1]))],fr:=[(6,37)],fz:=[37]} [0, .pf ⟨[u0,u1].length=2,rfl⟩, .pf ⟨av 2 1 (iY 1 [.int .i64 u0,.int .i64 u1]) (aj (aG .i64) [u0,u1]),(by intro i hi j hj;match i,j,hi,hj with|0,0,_,_=>rfl|1,0,_,_=>rfl)⟩]<| .lp (σ:=Int) (β:=Unit) (0) [] [] ⟨[3,4,5,10,11,53,54],[],fun u2=>[(55,vI u2)],fun u2=>[]⟩ ⟨[4,5,10,11],[],fun _=>[],fun _=>[]⟩
  (fun u2=> .r<| .it (.a1 ((0:Int)<=u2/\u2<([u0,u1].length:Int))<| .r<| .cl 3 (o6 u3 u4 (at' [u0,u1] u2.toNat)) fun v1=> .r<| .cl 3 (Cn p s_ (at' [u0,u1] u2.toNat)) fun u5=> .r<| .cl 3 (zq u3 u4 (at' [u0,u1] u2.toNat)) fun u8=> .r<| .cg 27 [(decide (u5.2=0),true),((bif (bif (bif (!decide (v1.1=u5.1))then true else(!decide (v1.2=u5.2)))then true else(!decide (u8.2=u5.2)))then true else(!decide ((u8.1.length:Int)=u5.1))),false)] (sJ p s_ (at' [u0,u1] u2.toNat) u8.1) fun v7=> .r<| .it (.r<| .e (.done (.ret false)))
  (.cl 3 (iT [(0,41)] (lG u3 u4 (at' [u0,u1] u2.toNat))) fun u6=> .rg {fz:=[41]} []<| .cl 3 (Cx p s_ (at' [u0,u1] u2.toNat)) fun u7=> .r<| .cg 6 [(!decide (u6.2=u7.2),false)] (pU u6.1 u7.1) fun u9=> .cg 14 [((bif (!decide (u6.2=u7.2))then true else(!u9)),false)] (G8 l) fun v5=> .cg 15 [((bif (!decide (u6.2=u7.2))then true else(!u9)),false)] (BF u3 u4 (at' [u0,u1] u2.toNat) v5) fun v8=> .cg 20 [((bif (!decide (u6.2=u7.2))then true else(!u9)),false)] (sJ p s_ (at' [u0,u1] u2.toNat) l) fun v9=> .r<| .it (.r<| .e (.done (.ret false)))
  (.r<| .e (.next (k13 u2)))))
  (.e (.done (.brk ()))))
  (fun _=> .cl 2 (D8 p u3) fun v0=> .cg 6 [(v0,true)] (lU s_ u4) fun v2=> .cg 9 [k8 v0 v2] fq fun v6=> .r<| .e (bif (bif v0 then v2 else false)then v6 else false)))))
section
variable (u3:List aL) (u0:Int) (u2:List Part) (u1:Int) (u4:List aL)
abbrev ZG:List (Nat × Option Ob):=[(230,some (aX 87 3 aL.cell u3))]
abbrev EH:=(⟨u0,(⟨0,0⟩:Part)⟩:aL)
abbrev Sz:=(aj aL.cell [EH u0])
abbrev QZ:=(u3++[EH u0])
abbrev ZB:=(aj aL.cell (QZ u3 u0))
abbrev Fx:=(⟨u0,at' u2 u1.toNat⟩:aL)
abbrev UH:=(aj aL.cell [Fx u0 u2 u1])
abbrev Qv:=(u4++[Fx u0 u2 u1])
abbrev Zr:=(aj aL.cell (Qv u0 u2 u1 u4))
end
theorem DY (p:ah) (s_:State) (l:List Transfer):cu Tryz.prog 38 (k40 p s_ l) [] (fun r=>(.dV [sD (aN none 3 aL.cell r.1),sI r.2])) (fun _=>[]) (jJ p s_ l):=
  cZ tT mX Tryz.func38 (
  .rg {fr:=[(0,226),(1,227)],fz:=[227]} []<| .cl 3 (gF p s_ l) fun r_=> .r<| .r<| .it (.r<| .e (([]:List aL),r_))
  (.r<| .rg {fz:=[226]} []<| .im (.ad 9 452 87 3 (aj aL.cell ([]:List aL)))<| .lp (σ:=((List aL) × Int)) (β:=(List aL)) (([]:List aL),0) [] [(452,230)] ⟨[2,3,4,24,25],[],fun(u3,u0)=>[(9,vO 230 false u3.length),(26,vI u0)],fun(u3,u0)=>(ZG u3)⟩ ⟨[],[],fun u6=>[(9,vO 230 false u6.length)],fun u6=>(ZG u6)⟩
  (fun(u3,u0)=> .r<| .it (.a1 (JC p u0)<| .rg {fr:=[(3,396)],fz:=[396]} []<| .cg 7 [(decide (0<((at' p.a_ u0.toNat).bk)),true)] (kT p s_ u0) fun u8=> .r<| .it (.a2 ((u3.length+[EH u0].length)*24<=140737488355328) (u3.length+[EH u0].length<=4611686018427387904)<| .rg {an:=[(3, .arr [EH u0].length (Sz u0)),(4, .arr (QZ u3 u0).length (ZB u3 u0))],fr:=[(3,397),(4,398)]} [.pf ⟨[EH u0].length=1,rfl⟩, .pf ⟨av 1 3 (iY 3 [.int .i64 u0,.int .i64 0,.int .i64 0]) (Sz u0),(by intro i hi j hj;match i,j,hi,hj with|0,0,_,_=>rfl|0,1,_,_=>rfl|0,2,_,_=>rfl)⟩, .e (u3.length),0,1, .pf ⟨(QZ u3 u0).length=u3.length+[EH u0].length,b_⟩, .pf ⟨av (u3.length+[EH u0].length) 3 (fQ (aj aL.cell u3) u3.length (Sz u0)) (ZB u3 u0),aP _ _ _ _⟩]<| .r<| .en (.next (QZ u3 u0,k13 u0)) [] [(398,230)])
  (.r<| .it (.r<| .e (.next (u3,k13 u0)))
  (.cl 2 (iT [(0,399)] (o5 p s_)) fun u2=> .r<| .lp (σ:=((List aL) × Int)) (β:=(List aL)) (u3,0) [] [] ⟨[2,3,4,10,24,25,26,51,52],[399],fun(u4,u1)=>[(9,vO 230 false u4.length),(53,vI u1)],fun(u4,u1)=>(ZG u4)⟩ ⟨[2,3,4,24,25,26],[],fun u7=>[(9,vO 230 false u7.length)],fun u7=>(ZG u7)⟩
  (fun(u4,u1)=> .r<| .it (.a1 (rC u2 u1)<| .rg {fr:=[(2,439)],fz:=[439]} [0, .t 0 u1 u2.length]<| .cl 5 ⟨fun{u5} hr_3=>((Fn.qx (frz:=[440]) (p:=[[at' u2 u1.toNat].length=[at' u2 u1.toNat].length]) (Fn.PE (args:=[.agg (k1 p),.agg (k25 s_),sD (LK l),sD (aN none 2 Part.cell [at' u2 u1.toNat])]) (args':=[.agg (k1 p),.agg (k25 s_),sD (LK l),sD (aN (some true) 2 Part.cell [at' u2 u1.toNat])]) (hin:=[]) (Fn.yu [(0,441),(1,442),(2,443),(3,444),(4,445),(5,446),(6,447),(7,448)] (iK p s_ l [at' u2 u1.toNat] hr_3) (by kernel_rfl) (by kernel_rfl) (by kernel_rfl) (by kernel_rfl)) ⟨kD.refl _,kD.refl _,kD.refl _,kD.one (bY.d bO.dh),trivial⟩ trivial) (by kernel_rfl) ⟨rfl,trivial⟩ (by kernel_rfl) ⟨(fun _ _=>rfl),⟨(fun _ _=>rfl),⟨(fun _ _=>rfl),⟨(fun _ _=>rfl),⟨(fun _ _=>rfl),⟨(fun _ _=>rfl),⟨(fun _ _=>rfl),trivial⟩⟩⟩⟩⟩⟩⟩ (by kernel_rfl)):Fn Tryz.prog 21 [.agg (k1 p),.agg (k25 s_),sD (LK l),.one (.own 440 true ([at' u2 u1.toNat].length))] [(440,some (aX 84 2 Part.cell [at' u2 u1.toNat]))] (.dV [.agg [.own 441 false u5.1.ap.length,.own 442 false u5.1.aw.length,.own 443 false u5.1.ag.length,.own 444 false u5.1.on_.length,.own 445 false u5.1.ae.length,.own 446 false u5.1.am.length,.own 447 false u5.1.al.length],sI u5.2]) [(440,some (aX 84 2 Part.cell [at' u2 u1.toNat])),(441,some (aX 4 1 af u5.1.ap)),(442,some (aX 4 1 af u5.1.aw)),(443,some (aX 4 1 af u5.1.ag)),(444,some (aX 4 1 af u5.1.on_)),(445,some (aX 4 1 af u5.1.ae)),(446,some (aX 4 1 af u5.1.am)),(447,some (aX 4 1 af u5.1.al)),(448,none)])⟩ fun u5=> .rg {an:=[(4, .arr [at' u2 u1.toNat].length (Cb u2 u1))],fr:=[(4,440),(9,449)],fz:=[441,442,443,444,445,446,447]} [.pf ⟨[at' u2 u1.toNat].length=1,rfl⟩, .pf ⟨av 1 2 (QC u2 u1) (Cb u2 u1),(by intro i hi j hj;match i,j,hi,hj with|0,0,_,_=>rfl|0,1,_,_=>rfl)⟩,0]<| .fz [449]<| .cl 3 (kT p u5.1 u0) fun u9=> .r<| .it (.a2 ((u4.length+[Fx u0 u2 u1].length)*24<=140737488355328) (u4.length+[Fx u0 u2 u1].length<=4611686018427387904)<| .rg {an:=[(4, .arr [Fx u0 u2 u1].length (UH u0 u2 u1)),(5, .arr (Qv u0 u2 u1 u4).length (Zr u0 u2 u1 u4))],fr:=[(4,450),(5,451)]} [.pf ⟨[Fx u0 u2 u1].length=1,rfl⟩, .pf ⟨av 1 3 (iY 3 [.int .i64 u0,.int .i64 ((at' u2 u1.toNat).kind),.int .i64 ((at' u2 u1.toNat).index)]) (UH u0 u2 u1),(by intro i hi j hj;match i,j,hi,hj with|0,0,_,_=>rfl|0,1,_,_=>rfl|0,2,_,_=>rfl)⟩, .e (u4.length),0,1, .pf ⟨(Qv u0 u2 u1 u4).length=u4.length+[Fx u0 u2 u1].length,b_⟩, .pf ⟨av (u4.length+[Fx u0 u2 u1].length) 3 (fQ (aj aL.cell u4) u4.length (UH u0 u2 u1)) (Zr u0 u2 u1 u4),aP _ _ _ _⟩]<| .r<| .en (.next (Qv u0 u2 u1 u4,k13 u1)) [] [(451,230)])
  (.r<| .e (.next (u4,k13 u1))))
  (.e (.done (.brk u4))))
  (fun u7=> .r<| .e (.next (u7,k13 u0))))))
  (.e (.done (.brk u3))))
  (fun u6=> .rg {fz:=[230]} []<| .e (u6,0))))
section
variable (p:ah) (s_:State) (l:List Transfer) (u1:List Part) (u2:List Bool) (u3:List Bool) (u4:List Bool) (u5:List Bool) (u6:List Bool) (u7:List Bool) (u8:List Bool)
abbrev aaU:List SV:=[.agg (k1 p),.agg (k25 s_),sD (LK l),.one (.own 0 true u1.length)]
abbrev ab4:List (Nat × Option Ob):=[(13,some (Yo u2 u3 u4 u5 u6 u7 u8))]
end
theorem Ct (p:ah) (s_:State) (l:List Transfer) (u1:List Part):cu Tryz.prog 22 (aaU p s_ l u1) (BD u1) (fun r=>(.dV [.agg [.d (aN none 1 af r.1.ap),.d (aN none 1 af r.1.aw),.d (aN none 1 af r.1.ag),.d (aN none 1 af r.1.on_),.d (aN none 1 af r.1.ae),.d (aN none 1 af r.1.am),.d (aN none 1 af r.1.al)],sI r.2])) (fun r=>(BD u1)) (gD p s_ l u1):=
  cZ tT mX Tryz.func22 (
  .rg {fr:=[(0,10),(1,11),(2,12)],fz:=[10]} []<| .cl 3 (d9 p s_ l) fun r_=> .r<| .r<| .it (.r<| .en (Xc r_) [12] [])
  (.rg {fr:=[(1,13)]} []<| .r<| .lp (σ:=((List Bool) × (List Bool) × (List Bool) × (List Bool) × (List Bool) × (List Bool) × (List Bool) × Int)) (β:=((List Bool) × (List Bool) × (List Bool) × (List Bool) × (List Bool) × (List Bool) × (List Bool))) (s_.ap,s_.aw,s_.ag,s_.on_,s_.ae,s_.am,s_.al,0) [] [] ⟨[2,3,4,8,11],[0,12],fun(u2,u3,u4,u5,u6,u7,u8,i)=>[(12,vI i)],fun(u2,u3,u4,u5,u6,u7,u8,i)=>(ab4 u2 u3 u4 u5 u6 u7 u8)⟩ ⟨[2,4,8,11],[0,12],fun(u9,v0,v1,v2,v3,v4,v5)=>[],fun(u9,v0,v1,v2,v3,v4,v5)=>(ab4 u9 v0 v1 v2 v3 v4 v5)⟩
  (fun(u2,u3,u4,u5,u6,u7,u8,i)=> .r<| .it (.cl 6 (nG p (Ng u2 u3 u4 u5 u6 u7 u8) (at' u1 i.toNat) true) fun u0=> .a1 (rC u1 i)<| .rg {fr:=[(10,17)]} [0, .t 0 i u1.length,1]<| .r<| .it (.r<| .en (.done (.ret (aa2 u0))) [12] [])
  (.r<| .r<| .e (.next (abD u0 i))))
  (.e (.done (.brk (u2,u3,u4,u5,u6,u7,u8)))))
  (fun(u9,v0,v1,v2,v3,v4,v5)=> .cl 3 (iT [(0,18)] (nL p (Ng u9 v0 v1 v2 v3 v4 v5) l)) fun v6=> .r<| .r<| .en (v6.1,0) [12] [])))
section
variable (u2:List aL)
abbrev X0:List (Nat × Option Ob):=[(77,some (aX 86 3 aL.cell u2))]
end
theorem DN (p:ah) (s_:State) (l:List Transfer):cu Tryz.prog 39 (k40 p s_ l) [] (fun r=>(.dV [sD (aN none 3 aL.cell r.1),sI r.2])) (fun _=>[]) (jG p s_ l):=
  cZ tT mX Tryz.func39 (
  .rg {fr:=[(0,74),(1,75)],fz:=[74,75]} []<| .cl 3 (d9 p s_ l) fun r_=> .r<| .r<| .it (.r<| .e (([]:List aL),r_))
  (.r<| .cl 2 (rE p s_) fun u1=> .r<| .r<| .im (.ad 9 148 86 3 (aj aL.cell ([]:List aL)))<| .lp (σ:=((List aL) × Int)) (β:=(List aL)) (([]:List aL),0) [] [(148,77)] ⟨[2,3,4,10],[],fun(u2,u0)=>[(9,vO 77 false u2.length),(11,vI u0)],fun(u2,u0)=>(X0 u2)⟩ ⟨[],[],fun u4=>[(9,vO 77 false u4.length)],fun u4=>(X0 u4)⟩
  (fun(u2,u0)=> .r<| .it (.a1 (JC p u0)<| .r<| .cg 6 [(decide (1<=((at' p.a_ u0.toNat).bk)),true)] (nQ p s_ u0) fun u7=> .r<| .it (.a2 ((u2.length+[EH u0].length)*24<=140737488355328) (u2.length+[EH u0].length<=4611686018427387904)<| .rg {an:=[(3, .arr [EH u0].length (Sz u0)),(4, .arr (QZ u2 u0).length (ZB u2 u0))],fr:=[(3,130),(4,131)]} [.pf ⟨[EH u0].length=1,rfl⟩, .pf ⟨av 1 3 (iY 3 [.int .i64 u0,.int .i64 0,.int .i64 0]) (Sz u0),(by intro i hi j hj;match i,j,hi,hj with|0,0,_,_=>rfl|0,1,_,_=>rfl|0,2,_,_=>rfl)⟩, .e (u2.length),0,1, .pf ⟨(QZ u2 u0).length=u2.length+[EH u0].length,b_⟩, .pf ⟨av (u2.length+[EH u0].length) 3 (fQ (aj aL.cell u2) u2.length (Sz u0)) (ZB u2 u0),aP _ _ _ _⟩]<| .r<| .en (.next (QZ u2 u0,k13 u0)) [] [(131,77)])
  (.r<| .lp (σ:=((List aL) × Int)) (β:=(List aL)) (u2,0) [] [] ⟨[2,3,4,10,11,12],[],fun(u3,i)=>[(9,vO 77 false u3.length),(13,vI i)],fun(u3,i)=>(X0 u3)⟩ ⟨[2,3,4,10,11],[],fun u5=>[(9,vO 77 false u5.length)],fun u5=>(X0 u5)⟩
  (fun(u3,i)=> .r<| .it (.cr 8 (iT [(0,144)] (Ct p s_ l [at' u1 i.toNat])) fun u6=> .a1 (rC u1 i)<| .rg {an:=[(7, .arr [at' u1 i.toNat].length (Cb u1 i))],fr:=[(7,144),(12,145)],fz:=[145]} [0, .pf ⟨[at' u1 i.toNat].length=1,rfl⟩, .pf ⟨av 1 2 (QC u1 i) (Cb u1 i),(by intro i hi j hj;match i,j,hi,hj with|0,0,_,_=>rfl|0,1,_,_=>rfl)⟩,1]<| .cl 3 (nQ p u6.1 u0) fun u8=> .r<| .it (.a3 (rC u1 i) ((u3.length+[Fx u0 u1 i].length)*24<=140737488355328) (u3.length+[Fx u0 u1 i].length<=4611686018427387904)<| .rg {an:=[(7, .arr [Fx u0 u1 i].length (UH u0 u1 i)),(8, .arr (Qv u0 u1 i u3).length (Zr u0 u1 i u3))],fr:=[(7,146),(8,147)]} [0, .pf ⟨[Fx u0 u1 i].length=1,rfl⟩, .pf ⟨av 1 3 (iY 3 [.int .i64 u0,.int .i64 ((at' u1 i.toNat).kind),.int .i64 ((at' u1 i.toNat).index)]) (UH u0 u1 i),(by intro i hi j hj;match i,j,hi,hj with|0,0,_,_=>rfl|0,1,_,_=>rfl|0,2,_,_=>rfl)⟩, .e (u3.length),1,2, .pf ⟨(Qv u0 u1 i u3).length=u3.length+[Fx u0 u1 i].length,b_⟩, .pf ⟨av (u3.length+[Fx u0 u1 i].length) 3 (fQ (aj aL.cell u3) u3.length (UH u0 u1 i)) (Zr u0 u1 i u3),aP _ _ _ _⟩]<| .r<| .en (.next (Qv u0 u1 i u3,k13 i)) [] [(147,77)])
  (.r<| .e (.next (u3,k13 i))))
  (.e (.done (.brk u3))))
  (fun u5=> .r<| .e (.next (u5,k13 u0)))))
  (.e (.done (.brk u2))))
  (fun u4=> .rg {fz:=[77]} []<| .e (u4,0))))
end
end Sg
