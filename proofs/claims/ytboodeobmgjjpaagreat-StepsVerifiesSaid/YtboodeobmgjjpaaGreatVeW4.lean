import Derived.Test.YtboodeobmgjjpaaGreatVeW3
set_option linter.all false
namespace Sg
open Go Go.Proofs
set_option maxRecDepth 20000
noncomputable section
section
variable (u1:(List aI)) (u2:(List (Int × Int)))
end
section
variable (u6:(List aA))
end
section
variable (u2:(List Bool)) (u3:(List Bool)) (u4:(List Bool)) (u5:(List Bool)) (u6:(List Bool)) (u7:(List Bool)) (u8:(List Bool)) (i:Int) (l:(List af)) (p:aj) (r_:Task) (u0:(Int × State × Int)) (u9:((List Bool) × Int)) (t:Task) (u1:Int)
abbrev abm:Ob:=(.cells 29 (Pw u2 u3 u4 u5 u6 u7 u8))
end
section
variable (u0:((List af) × (List State) × Int)) (i:Int)
end
theorem zf (l:(List iC)):cO Tryz.prog 159 [(sD (aR none 2 iC.cell l))] [] (fun r=>(vO 0 false r.length)) (fun r=>[(0,some (bg 220 2 iC.cell r))]) (rO l):=
  dG tT mX Tryz.func159 (
  .r<| .r<| .a2 (l.length*16≤140737488355328) (l.length≤4611686018427387904)<| .rg {an:=[(2, .arr l.length (ay iC.cell l))],fr:=[(2,1)]} [0,1, .e (l.length), .pf ⟨aK l.length 2 (ay iC.cell l) (ay iC.cell l),j6 _ _ _⟩]<| .en l [] [(1,0)])
theorem Dz (x:Link):cO Tryz.prog 120 [(.agg (k19 x))] [] (fun r=>(.v (.agg [(cI r.a),(cI r.b),(cI r.kind),(cI r.most),(cI r.ohm),(.d (aR none 2 iC.cell r.trip))]))) (fun _=>[]) (pY x):=
  dG tT mX Tryz.func120 (
  .rg {fr:=[(0,3),(1,4)]} []<| .cl 12 (dH [(0,5)] (zf x.trip)) fun r_=> .rg {fz:=[5]} []<| .fz [4]<| .e (⟨x.a,x.b,x.kind,x.most,x.ohm,r_⟩:Link))
theorem wN (l:(List Source)):cO Tryz.prog 81 [(sD (k9 l))] [] (fun r=>(vO 0 false r.length)) (fun r=>[(0,some (bg 58 5 Source.cell r))]) (pV l):=
  dG tT mX Tryz.func81 (
  .r<| .r<| .a2 (l.length*40≤140737488355328) (l.length≤4611686018427387904)<| .rg {an:=[(2, .arr l.length (ay Source.cell l))],fr:=[(2,1)]} [0,1, .e (l.length), .pf ⟨aK l.length 5 (ay Source.cell l) (ay Source.cell l),j6 _ _ _⟩]<| .en l [] [(1,0)])
theorem yZ (l:(List Link)):cO Tryz.prog 82 [(sD (aR none 6 Link.cell l))] [] (fun r=>(vO 0 false r.length)) (fun r=>[(0,some (bg 55 6 Link.cell r))]) (rQ l):=
  dG tT mX Tryz.func82 (
  .r<| .r<| .r<| .im (.ad 3 16 55 6 (ay Link.cell ([]:List Link)))<| .lp (σ:=((List Link) × Int)) (β:=(List Link)) (([]:List Link),0) [] [(16,9)] ⟨[0],[],fun(u0,i)=>[(3,(vO 9 false u0.length)),(4,(vI i))],fun(u0,i)=>[(9,some (bg 55 6 Link.cell u0))]⟩ ⟨[],[],fun u1=>[(3,(vO 9 false u1.length))],fun u1=>[(9,some (bg 55 6 Link.cell u1))]⟩
  (fun(u0,i)=> .r<| .it (.cl 5 (Dz (at' l i.toNat)) fun r_=> .a3 (k23 l i) ((u0.length+[r_].length)*64≤140737488355328) (u0.length+[r_].length≤4611686018427387904)<| .rg {an:=[(6, .arr [r_].length (ay Link.cell [r_])),(7, .arr (u0++[r_]).length (ay Link.cell (u0++[r_])))],fr:=[(6,14),(7,15)]} [0,3, .pf ⟨[r_].length=1,rfl⟩, .pf ⟨aK 1 6 (uY 6 [(.int .i64 r_.a),(.int .i64 r_.b),(.int .i64 r_.kind),(.int .i64 r_.most),(.int .i64 r_.ohm),(aR none 2 iC.cell r_.trip)]) (ay Link.cell [r_]),(by intro i hi j hj;match i,j,hi,hj with|0,0,_,_=>rfl|0,1,_,_=>rfl|0,2,_,_=>rfl|0,3,_,_=>rfl|0,4,_,_=>rfl|0,5,_,_=>rfl)⟩, .e (u0.length),1,2, .pf ⟨(u0++[r_]).length=u0.length+[r_].length,List.length_append⟩, .pf ⟨aK (u0.length+[r_].length) 6 (xY (ay Link.cell u0) u0.length (ay Link.cell [r_])) (ay Link.cell (u0++[r_])),gL _ _ _ _⟩]<| .r<| .en (.next ((u0++[r_]),(k18 i))) [] [(15,9)])
  (.e (.done (.brk u0))))
  (fun u1=> .r<| .en u1 [] [(9,0)]))
theorem y7 (l:(List aN)):cO Tryz.prog 83 [(sD (aR none 4 aN.cell l))] [] (fun r=>(vO 0 false r.length)) (fun r=>[(0,some (bg 119 4 aN.cell r))]) (rU l):=
  dG tT mX Tryz.func83 (
  .r<| .r<| .a2 (l.length*32≤140737488355328) (l.length≤4611686018427387904)<| .rg {an:=[(2, .arr l.length (ay aN.cell l))],fr:=[(2,1)]} [0,1, .e (l.length), .pf ⟨aK l.length 4 (ay aN.cell l) (ay aN.cell l),j6 _ _ _⟩]<| .en l [] [(1,0)])
theorem zu (s_:(List af)):cO Tryz.prog 85 (R3 s_) [] (fun r=>(vD (.fn 121 1 (bB [(DW [(aR none 2 af.cell r)] 0)])))) (fun _=>[]) (pR s_):=
  dG tT mX Tryz.func85 (
  .rg {fr:=[(0,1)],fz:=[1]} []<| .r<| .e s_)
noncomputable def uN:ig:=⟨[8,9],MC ([1,1,0,1,0]++[0]) (qB Tryz.f42),MC ([1,1,0,1,0]++[1]) (qB Tryz.f42),16,[]⟩
theorem BH (x:af):cO Tryz.prog 48 [(.agg (QT x))] [] (fun r=>(.v (.agg [(cI r.deed),(cI r.index)]))) (fun _=>[]) (oG x):=
  dG tT mX Tryz.func48 (
  .rg {fr:=[(0,2),(1,3)]} []<| .r<| .it (.r<| .rg {fz:=[3]} []<| .e (⟨(IntKind.wrap .i64 ((IntKind.wrap .i64 (((BitVec.ofInt (IntKind.bits .i64) (IntKind.wrap .i64 (x.deed - 1)) ^^^ BitVec.ofInt (IntKind.bits .i64) 1).toNat:Int)))+1)),x.index⟩:af))
  (.rg {fz:=[3]} []<| .e x))
section
variable (u0:(List af))
abbrev WK:Nat × Option Ob:=(0,some (.loop uN 0 [(3,(vP 1 0))]))
abbrev Yn:List (Nat × Option Ob):=[WK,(1,some (.cells 31 [(.own 2 false u0.length)])),(2,some (N7 u0))]
end
theorem xG (x8:Int) (x9:Int) (u1:Int) (u0:(List af)):Tz Tryz.prog 0 [(sI x8),(.agg [(cI x9),(cI u1)])] (Yn u0) (fun _=>vB true) (fun r=>[WK,(1,some (.cells 31 [(.own 3 false r.length)])),(2,none),(3,some (bg 61 2 af.cell r))]) (mg x8 x9 u1 u0):=
  Zt tT mX uN ⟨[3],[0,1,2],fun _=>[(5,(vD (DW [(.int .i64 x9),(.int .i64 u1)] 0)))],fun _=>[]⟩ (.rg {fr:=[(0,6)],fz:=[6]} []<| .e ())
  (.cl 2 (BH (⟨x9,u1⟩:af)) fun r_=> .a2 ((u0.length+[r_].length)*16≤140737488355328) (u0.length+[r_].length≤4611686018427387904)<| .rg {an:=[(3, .arr [r_].length (ay af.cell [r_])),(4, .arr (u0++[r_]).length (ay af.cell (u0++[r_])))],fr:=[(3,7),(4,8)]} [2, .pf ⟨[r_].length=1,rfl⟩, .pf ⟨aK 1 2 (uY 2 [(.int .i64 r_.deed),(.int .i64 r_.index)]) (ay af.cell [r_]),(by intro i hi j hj;match i,j,hi,hj with|0,0,_,_=>rfl|0,1,_,_=>rfl)⟩, .e (u0.length),0,1, .pf ⟨(u0++[r_]).length=u0.length+[r_].length,List.length_append⟩, .pf ⟨aK (u0.length+[r_].length) 2 (xY (ay af.cell u0) u0.length (ay af.cell [r_])) (ay af.cell (u0++[r_])),gL _ _ _ _⟩]<| .en (u0++[r_]) [] [(8,3)])
theorem xV (x1:(List af)) (u1:(List af)):cO Tryz.prog 121 [(.one (.yl 0)),(sD (DW [(Ns x1)] 0))] (Yn u1) (fun r=>(.iR [])) (fun r=>[WK,(1,some (.cells 31 [(.own 3 false r.length)])),(2,none),(3,some (bg 61 2 af.cell r))]) (nJ x1 u1):=
  dG tT mX Tryz.func121 (
  .r<| .im (.re 1 0 2 15)<| .lp (σ:=((List af) × Int)) (β:=(List af)) (u1,(IntKind.wrap .i64 ((x1.length:Int) - 1))) [] [(15,12)] ⟨[0,1],[0],fun(u0,i)=>[(3,(vI i))],fun(u0,i)=>[(1,some (.cells 31 [(.own 12 false u0.length)])),(2,none),(12,some (N7 u0))]⟩ ⟨[],[0],fun o301=>[],fun o301=>[(1,some (.cells 31 [(.own 12 false o301.length)])),(2,none),(12,some (bg 61 2 af.cell o301))]⟩
  (fun(u0,i)=> .r<| .it (.cy 6 (rkY [(2,12),(3,14)] (xG i ((at' x1 i.toNat).deed) ((at' x1 i.toNat).index) u0)) fun r_=> .a1 (SS x1 i)<| .rg {} [0,1]<| .f<| .r<| .en (.next (r_,(k10 i))) [] [(14,12)])
  (.e (.done (.brk u0))))
  (fun o301=> .en o301 [] [(12,3)]))
theorem BX (l:(List af)):cO Tryz.prog 42 (R3 l) [] (fun r=>(vD (aR none 2 af.cell r))) (fun _=>[]) (oD l):=
  dG tT mX Tryz.func42 (
  .r<| .rg {fr:=[(0,4)]} []<| .im (.iV 4 0 5 61 2 (ay af.cell ([]:List af)))<| .cl 1 (zu l) fun r_=> .r<| .cl 0 (dH [(0,6),(1,4),(2,5),(3,7)] (xV r_ ([]:List af))) fun u0=> .rf 6 [3] [] none 0 []<| .rg {fz:=[7]} []<| .e u0)
theorem Bv (x:af):cO Tryz.prog 49 [(.agg (QT x))] [] (fun r=>(.v (.agg [(cI r.deed),(cI r.index)]))) (fun _=>[]) (fJ x):=
  dG tT mX Tryz.func49 (
  .rg {fr:=[(0,3),(1,4)]} []<| .r<| .it (.rg {fz:=[4]} []<| .e x)
  (.rg {an:=[(0, .arr [0,2,1,4,3,6,5,8,7].length (ay (bL .i64) [0,2,1,4,3,6,5,8,7]))],fr:=[(0,5)]} [.pf ⟨[0,2,1,4,3,6,5,8,7].length=9,rfl⟩, .pf ⟨aK 9 1 (uY 1 [(.int .i64 0),(.int .i64 2),(.int .i64 1),(.int .i64 4),(.int .i64 3),(.int .i64 6),(.int .i64 5),(.int .i64 8),(.int .i64 7)]) (ay (bL .i64) [0,2,1,4,3,6,5,8,7]),(by intro i hi j hj;match i,j,hi,hj with|0,0,_,_=>rfl|1,0,_,_=>rfl|2,0,_,_=>rfl|3,0,_,_=>rfl|4,0,_,_=>rfl|5,0,_,_=>rfl|6,0,_,_=>rfl|7,0,_,_=>rfl|8,0,_,_=>rfl)⟩]<| .a1 ((0:Int)≤x.deed∧x.deed<([0,2,1,4,3,6,5,8,7].length:Int))<| .rg {fz:=[4]} [0, .t 0 x.deed ([0,2,1,4,3,6,5,8,7].length)]<| .e (⟨(at' [0,2,1,4,3,6,5,8,7] x.deed.toNat),x.index⟩:af)))
theorem BA (l:(List af)):cO Tryz.prog 43 (R3 l) [] (fun r=>(vD (aR none 2 af.cell r))) (fun _=>[]) (oh l):=
  dG tT mX Tryz.func43 (
  .r<| .r<| .r<| .im (.ad 3 16 61 2 (ay af.cell ([]:List af)))<| .lp (σ:=((List af) × Int)) (β:=(List af)) (([]:List af),(IntKind.wrap .i64 ((l.length:Int) - 1))) [] [(16,9)] ⟨[0],[],fun(u0,i)=>[(3,(vO 9 false u0.length)),(4,(vI i))],fun(u0,i)=>[(9,some (N7 u0))]⟩ ⟨[],[],fun u1=>[(3,(vO 9 false u1.length))],fun u1=>[(9,some (N7 u1))]⟩
  (fun(u0,i)=> .r<| .it (.cl 5 (Bv (at' l i.toNat)) fun r_=> .a3 (SS l i) ((u0.length+[r_].length)*16≤140737488355328) (u0.length+[r_].length≤4611686018427387904)<| .rg {an:=[(6, .arr [r_].length (ay af.cell [r_])),(7, .arr (u0++[r_]).length (ay af.cell (u0++[r_])))],fr:=[(6,14),(7,15)]} [0,3, .pf ⟨[r_].length=1,rfl⟩, .pf ⟨aK 1 2 (uY 2 [(.int .i64 r_.deed),(.int .i64 r_.index)]) (ay af.cell [r_]),(by intro i hi j hj;match i,j,hi,hj with|0,0,_,_=>rfl|0,1,_,_=>rfl)⟩, .e (u0.length),1,2, .pf ⟨(u0++[r_]).length=u0.length+[r_].length,List.length_append⟩, .pf ⟨aK (u0.length+[r_].length) 2 (xY (ay af.cell u0) u0.length (ay af.cell [r_])) (ay af.cell (u0++[r_])),gL _ _ _ _⟩]<| .r<| .en (.next ((u0++[r_]),(k10 i))) [] [(15,9)])
  (.e (.done (.brk u0))))
  (fun u1=> .rg {fz:=[9]} []<| .e u1))
theorem zZ (a:(List Source)) (b:(List Source)):cO Tryz.prog 86 [(sD (k9 a)),(sD (k9 b))] [] (fun r=>(vB r)) (fun _=>[]) (lV a b):=
  dG tT mX Tryz.func86 (
  .r<| .r<| .it (.r<| .e false)
  (.r<| .lp (σ:=Int) (β:=Unit) (0) [] [] ⟨[0,1],[],fun i=>[(5,(vI i))],fun i=>[]⟩ ⟨[],[],fun _=>[],fun _=>[]⟩
  (fun i=> .r<| .it (.a2 ((0:Int)≤i∧i<(a.length:Int)) ((0:Int)≤i∧i<(b.length:Int))<| .rg {} [0,1]<| .it (.r<| .e (.done (.ret false)))
  (.r<| .e (.next (k18 i))))
  (.e (.done (.brk ()))))
  (fun _=> .r<| .e true)))
theorem Ca (a:(List iC)) (b:(List iC)):cO Tryz.prog 160 [(sD (aR none 2 iC.cell a)),(sD (aR none 2 iC.cell b))] [] (fun r=>(vB r)) (fun _=>[]) (ol a b):=
  dG tT mX Tryz.func160 (
  .r<| .r<| .it (.r<| .e false)
  (.r<| .lp (σ:=Int) (β:=Unit) (0) [] [] ⟨[0,1],[],fun i=>[(5,(vI i))],fun i=>[]⟩ ⟨[],[],fun _=>[],fun _=>[]⟩
  (fun i=> .r<| .it (.a2 ((0:Int)≤i∧i<(a.length:Int)) ((0:Int)≤i∧i<(b.length:Int))<| .rg {} [0,1]<| .it (.r<| .e (.done (.ret false)))
  (.r<| .e (.next (k18 i))))
  (.e (.done (.brk ()))))
  (fun _=> .r<| .e true)))
section
variable (a:Link) (b:Link)
abbrev ZY:=(bif (bif (bif (bif (decide (a.a=b.a))then(decide (a.b=b.b))else false)then(decide (a.kind=b.kind))else false)then(decide (a.most=b.most))else false)then(decide (a.ohm=b.ohm))else false)
end
theorem CZ (a:Link) (b:Link):cO Tryz.prog 122 [(.agg (k19 a)),(.agg (k19 b))] [] (fun r=>(vB r)) (fun _=>[]) (pE a b):=
  dG tT mX Tryz.func122 (
  .rg {fr:=[(0,2),(1,3)],fz:=[2,3]} []<| .cg 38 [((ZY a b),true)] (Ca a.trip b.trip) fun r_=> .r<| .e (bif (ZY a b)then r_ else false))
theorem Bp (a:(List Link)) (b:(List Link)):cO Tryz.prog 87 [(sD (aR none 6 Link.cell a)),(sD (aR none 6 Link.cell b))] [] (fun r=>(vB r)) (fun _=>[]) (oo a b):=
  dG tT mX Tryz.func87 (
  .r<| .r<| .it (.r<| .e false)
  (.r<| .lp (σ:=Int) (β:=Unit) (0) [] [] ⟨[0,1],[],fun i=>[(5,(vI i))],fun i=>[]⟩ ⟨[],[],fun _=>[],fun _=>[]⟩
  (fun i=> .r<| .it (.cl 8 (CZ (at' a i.toNat) (at' b i.toNat)) fun r_=> .a2 (k23 a i) (k23 b i)<| .rg {} [0,1,2]<| .it (.r<| .e (.done (.ret false)))
  (.r<| .e (.next (k18 i))))
  (.e (.done (.brk ()))))
  (fun _=> .r<| .e true)))
theorem BV (a:(List aN)) (b:(List aN)):cO Tryz.prog 88 [(sD (aR none 4 aN.cell a)),(sD (aR none 4 aN.cell b))] [] (fun r=>(vB r)) (fun _=>[]) (ow a b):=
  dG tT mX Tryz.func88 (
  .r<| .r<| .it (.r<| .e false)
  (.r<| .lp (σ:=Int) (β:=Unit) (0) [] [] ⟨[0,1],[],fun i=>[(5,(vI i))],fun i=>[]⟩ ⟨[],[],fun _=>[],fun _=>[]⟩
  (fun i=> .r<| .it (.a2 ((0:Int)≤i∧i<(a.length:Int)) ((0:Int)≤i∧i<(b.length:Int))<| .rg {} [0,1]<| .it (.r<| .e (.done (.ret false)))
  (.r<| .e (.next (k18 i))))
  (.e (.done (.brk ()))))
  (fun _=> .r<| .e true)))
theorem Bt (a:aj) (b:aj):cO Tryz.prog 44 [(.agg (k1 a)),(.agg (k1 b))] [] (fun r=>(vB r)) (fun _=>[]) (om a b):=
  dG tT mX Tryz.func44 (
  .rg {fr:=[(0,2),(1,3)],fz:=[2,3]} []<| .cg 10 [((decide (a.buses=b.buses)),true)] (zZ a.sources b.sources) fun r_=> .cg 17 [((bif (decide (a.buses=b.buses))then r_ else false),true)] (Bp a.links b.links) fun u0=> .cg 24 [((bif (bif (decide (a.buses=b.buses))then r_ else false)then u0 else false),true)] (BV a.racks b.racks) fun u1=> .r<| .e (bif (bif (bif (decide (a.buses=b.buses))then r_ else false)then u0 else false)then u1 else false))
theorem y8 (x:aj):cO Tryz.prog 38 (k6 x) [] (fun r=>(.v (.agg [(cI r.buses),(.own 0 false r.sources.length),(.own 1 false r.links.length),(.own 2 false r.racks.length)]))) (fun r=>[(0,some (bg 58 5 Source.cell r.sources)),(1,some (bg 55 6 Link.cell r.links)),(2,some (bg 119 4 aN.cell r.racks)),(3,none)]) (oI x):=
  dG tT mX Tryz.func38 (
  .rg {fr:=[(0,5),(1,6)]} []<| .cl 4 (dH [(0,7)] (wN x.sources)) fun r_=> .cl 7 (dH [(0,8)] (yZ x.links)) fun u0=> .cl 10 (dH [(0,9)] (y7 x.racks)) fun u1=> .r<| .en (⟨x.buses,r_,u0,u1⟩:aj) [] [(7,0),(8,1),(9,2),(6,3)])
section
variable (u1:(List Bool)) (u2:(List Bool)) (u3:(List Bool)) (u4:(List Bool)) (u5:(List Bool)) (u6:(List Bool)) (u7:(List Bool)) (u0:(State × Int))
abbrev Z4:List (Nat × Option Ob):=[(45,some (abm u1 u2 u3 u4 u5 u6 u7))]
abbrev aaK:List (Nat × Option Ob):=[(73,some (bg 4 1 ah u0.1.closed)),(74,some (bg 4 1 ah u0.1.locked)),(75,some (bg 4 1 ah u0.1.badLink)),(76,some (bg 4 1 ah u0.1.on_)),(77,some (bg 4 1 ah u0.1.badSource)),(78,some (bg 4 1 ah u0.1.earthed)),(79,some (bg 4 1 ah u0.1.badBus))]
end
theorem zw (p:aj) (s_:State) (t:Task) (l:(List af)):cO Tryz.prog 41 (YJ p s_ t l) [] (fun r=>(.iR [(sI r.1),(.agg [(.d (aR none 1 ah r.2.1.closed)),(.d (aR none 1 ah r.2.1.locked)),(.d (aR none 1 ah r.2.1.badLink)),(.d (aR none 1 ah r.2.1.on_)),(.d (aR none 1 ah r.2.1.badSource)),(.d (aR none 1 ah r.2.1.earthed)),(.d (aR none 1 ah r.2.1.badBus))]),(sI r.2.2)])) (fun _=>[]) (jT p s_ t l):=
  dG tT mX Tryz.func41 (
  .rg {fr:=[(0,41),(1,42),(2,43),(4,44)],fz:=[41,43]} []<| .cl 3 (xq p s_ t) fun r_=> .r<| .r<| .it (.r<| .en (0,(⟨([]:List Bool),([]:List Bool),([]:List Bool),([]:List Bool),([]:List Bool),([]:List Bool),([]:List Bool)⟩:State),r_) [44] [])
  (.r<| .it (.r<| .en (0,(⟨([]:List Bool),([]:List Bool),([]:List Bool),([]:List Bool),([]:List Bool),([]:List Bool),([]:List Bool)⟩:State),2) [44] [])
  (.rg {fr:=[(1,45)]} []<| .r<| .lp (σ:=((List Bool) × (List Bool) × (List Bool) × (List Bool) × (List Bool) × (List Bool) × (List Bool) × Int)) (β:=((List Bool) × (List Bool) × (List Bool) × (List Bool) × (List Bool) × (List Bool) × (List Bool))) (s_.closed,s_.locked,s_.badLink,s_.on_,s_.badSource,s_.earthed,s_.badBus,0) [] [] ⟨[3,4,6,9,12],[44],fun(u1,u2,u3,u4,u5,u6,u7,i)=>[(13,(vI i))],fun(u1,u2,u3,u4,u5,u6,u7,i)=>(Z4 u1 u2 u3 u4 u5 u6 u7)⟩ ⟨[3,9,12],[44],fun(u8,u9,v0,v1,v2,v3,v4)=>[],fun(u8,u9,v0,v1,v2,v3,v4)=>(Z4 u8 u9 v0 v1 v2 v3 v4)⟩
  (fun(u1,u2,u3,u4,u5,u6,u7,i)=> .r<| .it (.cl 6 (dH [(0,73),(1,74),(2,75),(3,76),(4,77),(5,78),(6,79),(7,80)] (wP p (qg u1 u2 u3 u4 u5 u6 u7) (at' l i.toNat))) fun u0=> .a1 (SS l i)<| .rg {fr:=[(10,81)]} [0,1]<| .r<| .it (.cr 3 ⟨fun{v5} hr_2=>((Fn.MK (frz:=[73,74,75,76,77,78,79]) (p:=[u0.1.closed.length=u0.1.closed.length,u0.1.locked.length=u0.1.locked.length,u0.1.badLink.length=u0.1.badLink.length,u0.1.on_.length=u0.1.on_.length,u0.1.badSource.length=u0.1.badSource.length,u0.1.earthed.length=u0.1.earthed.length,u0.1.badBus.length=u0.1.badBus.length]) (xq p u0.1 t hr_2) (by kernel_rfl) ⟨rfl,rfl,rfl,rfl,rfl,rfl,rfl,trivial⟩ rfl):Fn Tryz.prog 24 [(.agg (k1 p)),(.agg [(.own 73 false u0.1.closed.length),(.own 74 false u0.1.locked.length),(.own 75 false u0.1.badLink.length),(.own 76 false u0.1.on_.length),(.own 77 false u0.1.badSource.length),(.own 78 false u0.1.earthed.length),(.own 79 false u0.1.badBus.length)]),(.agg (k2 t))] (aaK u0) (vI v5) (aaK u0))⟩ fun v5=> .r<| .r<| .it (.r<| .en (.done (.ret (i,(⟨([]:List Bool),([]:List Bool),([]:List Bool),([]:List Bool),([]:List Bool),([]:List Bool),([]:List Bool)⟩:State),v5))) [44] [])
  (.r<| .r<| .en (.next (WM i u0)) [73,74,75,76,77,78,79] []))
  (.r<| .it (.r<| .en (.done (.ret (Yr i u0))) [44] [])
  (.r<| .r<| .en (.next (WM i u0)) [73,74,75,76,77,78,79] [])))
  (.e (.done (.brk (u1,u2,u3,u4,u5,u6,u7)))))
  (fun(u8,u9,v0,v1,v2,v3,v4)=> .r<| .en ((l.length:Int),(qg u8 u9 v0 v1 v2 v3 v4),0) [44] []))))
section
variable (u1:(Int × State × Int)) (u0:(Int × State × Int)) (u2:Bool) (c1:(List Bool)) (i:Int)
abbrev aa9:List CV:=[(.d (aR none 1 ah u1.2.1.closed)),(.d (aR none 1 ah u1.2.1.locked)),(.d (aR none 1 ah u1.2.1.badLink)),(.d (aR none 1 ah u1.2.1.on_)),(.d (aR none 1 ah u1.2.1.badSource)),(.d (aR none 1 ah u1.2.1.earthed)),(.d (aR none 1 ah u1.2.1.badBus))]
abbrev Y0:List (Nat × Option Ob):=[(82,some (Vu u0)),(83,some (YZ u0)),(84,some (aaS u0)),(85,some (aaf u0)),(86,some (YO u0)),(87,some (YP u0)),(88,some (aaA u0))]
abbrev Xp:=((bif (bif (!decide (u0.2.2=u1.2.2))then true else(!decide (u0.1=u1.1)))then true else(!u2)),false)
abbrev ZL:List (Nat × Option Ob):=[(83,some (bg 4 1 ah c1)),(90,some (.cells 29 [(.own 82 false u0.2.1.closed.length),(.own 83 false c1.length),(.own 84 false u0.2.1.badLink.length),(.own 85 false u0.2.1.on_.length),(.own 86 false u0.2.1.badSource.length),(.own 87 false u0.2.1.earthed.length),(.own 88 false u0.2.1.badBus.length)]))]
abbrev TM:=(ay ah (c1.set i.toNat (!(at' c1 i.toNat))))
end
theorem wJ (p:aj) (s_:State) (t:Task) (x:af) (l:(List af)):cO Tryz.prog 8 [(.agg (k1 p)),(.agg (AB s_)),(.agg (k2 t)),(.agg (QT x)),(sD (Ns l))] [] (fun r=>(vB r)) (fun _=>[]) (iM p s_ t x l):=
  dG tT mX Tryz.func8 (
  .rg {fr:=[(0,46),(1,47),(2,48),(3,49)],fz:=[46,47,48,49]} []<| .cl 2 (Gf p t) fun r_=> .r<| .it (.cl 0 xE fun v2=> .r<| .e v2)
  (.cl 1 (dH [(0,50),(1,51),(2,52),(3,53)] (y8 p)) fun u5=> .cl 3 (dH [(0,54),(1,55),(2,56),(3,57),(4,58),(5,59),(6,60),(7,61)] (lC s_)) fun u6=> .cl 5 (BB l) fun u7=> .rg {fr:=[(6,62),(7,63)],fz:=[50,51,52,54,55,56,57,58,59,60]} []<| .fz [62,63]<| .cl 3 (dH [(0,64),(1,65),(2,66),(3,67),(4,68),(5,69),(6,70),(7,71)] (xA u5 u6 x)) fun u9=> .rg {fr:=[(7,72)],fz:=[64,65,66,67,68,69,70]} []<| .fz [72]<| .cl 3 (dH [(0,73),(1,74),(2,75),(3,76),(4,77),(5,78),(6,79),(7,80)] (wP p s_ x)) fun v0=> .rg {fr:=[(7,81)],fz:=[73,74,75,76,77,78,79]} []<| .fz [81]<| .cg 6 [((!decide (u9.2=v0.2)),false)] (oP u9.1 v0.1) fun v7=> .r<| .it (.r<| .e false)
  (.cl 3 (FM t) fun v3=> .cl 5 (dH [(0,82),(1,83),(2,84),(3,85),(4,86),(5,87),(6,88),(7,89)] (l9 u5 u6 v3 u7)) fun u0=> .rg {fr:=[(10,90)]} []<| .cl 4 (zw p s_ t l) fun u1=> .rg {fr:=[(9,91)],fz:=[91]} []<| .cgr 11 [((bif (!decide (u0.2.2=u1.2.2))then true else(!decide (u0.1=u1.1))),false)] ⟨fun{u2} hr_11=>((Fn.MK (frz:=[82,83,84,85,86,87,88]) (p:=[u0.2.1.closed.length=u0.2.1.closed.length,u0.2.1.locked.length=u0.2.1.locked.length,u0.2.1.badLink.length=u0.2.1.badLink.length,u0.2.1.on_.length=u0.2.1.on_.length,u0.2.1.badSource.length=u0.2.1.badSource.length,u0.2.1.earthed.length=u0.2.1.earthed.length,u0.2.1.badBus.length=u0.2.1.badBus.length]) (oP u0.2.1 u1.2.1 hr_11) (by kernel_rfl) ⟨rfl,rfl,rfl,rfl,rfl,rfl,rfl,trivial⟩ rfl):Fn Tryz.prog 27 [(.agg [(.own 82 false u0.2.1.closed.length),(.own 83 false u0.2.1.locked.length),(.own 84 false u0.2.1.badLink.length),(.own 85 false u0.2.1.on_.length),(.own 86 false u0.2.1.badSource.length),(.own 87 false u0.2.1.earthed.length),(.own 88 false u0.2.1.badBus.length)]),(.agg (aa9 u1))] (Y0 u0) (vB u2) (Y0 u0))⟩ fun u2=> .cg 16 [(Xp u1 u0 u2)] (BX u7) fun v4=> .cg 18 [(Xp u1 u0 u2)] (BA l) fun v5=> .cg 19 [(Xp u1 u0 u2)] (oU v4 v5) fun v8=> .r<| .it (.r<| .e false)
  (.r<| .lp (σ:=((List Bool) × Int)) (β:=(List Bool)) (u0.2.1.locked,0) [] [] ⟨[4,5,6,11,12,13,19],[82,84,85,86,87,88],fun(c1,i)=>[(22,(vI i))],fun(c1,i)=>(ZL u0 c1)⟩ ⟨[4,5,6,11,12,13,19],[82,84,85,86,87,88],fun u3=>[],fun u3=>(ZL u0 u3)⟩
  (fun(c1,i)=> .r<| .it (.a1 (Xb c1 i)<| .rg {an:=[(10, .arr 0 (TM c1 i))]} [0, .t 0 i c1.length,0, .t 0 i c1.length, .pf ⟨aK c1.length 1 (lJ (ay ah c1) i.toNat 0 [(.bool (!(at' c1 i.toNat)))]) (TM c1 i),aJ _ _ _ _ _ _ _ _ rfl (fun j hj=>(match j,hj with|0,_=>rfl))⟩]<| .im (.ll 83 c1 (c1.set i.toNat (!(at' c1 i.toNat))))<| .r<| .e (.next ((c1.set i.toNat (!(at' c1 i.toNat))),(k18 i))))
  (.e (.done (.brk c1))))
  (fun u3=> .r<| .lp (σ:=((List Bool) × Int)) (β:=Unit) (u0.2.1.earthed,0) [] [] ⟨[4,5,6,11,12,13,19],[82,83,84,85,86,88],fun(c5,i1)=>[(23,(vI i1))],fun(c5,i1)=>[(87,some (bg 4 1 ah c5)),(90,some (.cells 29 [(.own 82 false u0.2.1.closed.length),(.own 83 false u3.length),(.own 84 false u0.2.1.badLink.length),(.own 85 false u0.2.1.on_.length),(.own 86 false u0.2.1.badSource.length),(.own 87 false c5.length),(.own 88 false u0.2.1.badBus.length)]))]⟩ ⟨[4,5,6,11,12,13],[],fun _=>[],fun _=>[]⟩
  (fun(c5,i1)=> .r<| .it (.a1 (Xb c5 i1)<| .rg {an:=[(10, .arr 0 (TM c5 i1))]} [0, .t 0 i1 c5.length,0, .t 0 i1 c5.length, .pf ⟨aK c5.length 1 (lJ (ay ah c5) i1.toNat 0 [(.bool (!(at' c5 i1.toNat)))]) (TM c5 i1),aJ _ _ _ _ _ _ _ _ rfl (fun j hj=>(match j,hj with|0,_=>rfl))⟩]<| .im (.ll 87 c5 (c5.set i1.toNat (!(at' c5 i1.toNat))))<| .r<| .e (.next ((c5.set i1.toNat (!(at' c5 i1.toNat))),(k18 i1))))
  (.e (.done (.brk ()))))
  (fun _=> .cl 2 (Bt p u5) fun u4=> .cg 6 [(u4,true)] (oP s_ u6) fun u8=> .cg 11 [(k11 u4 u8)] (oU l u7) fun v1=> .cg 14 [(k12 u4 u8 v1)] xE fun v6=> .r<| .e (k13 u4 u8 v1 v6)))))))
section
variable (u0:(Int × State × Int)) (u1:(List af)) (l:(List af)) (i:Int) (u2:(Int × State × Int)) (u3:(Int × State × Int)) (v4:Bool)
end
section
variable (u0:(Bool × Int)) (u1:(Bool × Int)) (u2:Int) (u3:Int) (u6:Int) (u7:Int) (u4:af) (u5:af) (u9:Bool)
end
end
end Sg
