import Derived.Test.YtboodeobmgjjpaaGreatSaW2
set_option linter.all false
namespace Sg
open Go Go.Proofs
set_option maxRecDepth 20000
noncomputable section
theorem qR (l:(List Int)):eu Tryz.prog 58 [(sD (Q9 l))] [] (fun r=>(vO 0 false r.length)) (fun r=>[(0,some (bE 3 1 (aY .i64) r))]) (pu l):=
  fe tT mX Tryz.func58 (
  .r<| .r<| .a2 (l.length*8≤140737488355328) (l.length≤4611686018427387904)<| .rg {an:=[(2, .arr l.length (aC (aY .i64) l))],fr:=[(2,1)]} [0,1, .e (l.length), .pf ⟨aP l.length 1 (aC (aY .i64) l) (aC (aY .i64) l),sQ _ _ _⟩]<| .en l [] [(1,0)])
theorem pW (l:(List af)):eu Tryz.prog 40 (aaW l) [] (fun r=>(vO 0 false r.length)) (fun r=>[(0,some (bE 61 2 af.cell r))]) (gH l):=
  fe tT mX Tryz.func40 (
  .r<| .r<| .a2 (l.length*16≤140737488355328) (l.length≤4611686018427387904)<| .rg {an:=[(2, .arr l.length (aC af.cell l))],fr:=[(2,1)]} [0,1, .e (l.length), .pf ⟨aP l.length 2 (aC af.cell l) (aC af.cell l),sQ _ _ _⟩]<| .en l [] [(1,0)])
section
variable (t:Task)
abbrev aaP:List SV:=[(.agg (k2 t))]
end
section
variable (x:af) (p:aj)
end
section
variable (s_:State) (i:Int) (p:aj)
abbrev X5:=((gB [((at' s_.closed i.toNat),true)]=true→(0:Int)≤i∧i<(s_.badLink.length:Int)))
abbrev Zu:=(bif (at' s_.closed i.toNat)then(!(at' s_.badLink i.toNat))else false)
abbrev WS:=((Zu s_ i),true)
end
section
variable (p:aj) (b:Int) (u0:(List Bool)) (i:Int)
end
section
variable (u0:(List Bool)) (b:Int) (u2:(List Bool))
end
section
variable (u3:(List ay)) (u1:Bool) (u2:Bool) (u6:(List Bool)) (p:aj) (kz:Int)
end
section
variable (p:aj) (s_:State) (u0:(List Int)) (b:Int) (i:Int) (r_:Bool)
abbrev aaV:List SV:=[(.agg (k1 p)),(.agg (AP s_)),(sD (Q9 u0)),(sI b)]
end
section
variable (p:aj) (t:Task) (i:Int)
end
section
variable (x:af) (s_:State)
end
section
variable (r_:State) (i:Int)
end
section
variable (r_:State) (x:af)
end
section
variable (a:State) (b:State) (r_:Bool) (u0:Bool) (u1:Bool) (u2:Bool) (u3:Bool) (u4:Bool)
abbrev abf:List SV:=[(.agg (AP a)),(.agg (AP b))]
end
section
variable (x:af)
end
section
variable (s_:State) (l:(List State)) (u3:(List (List af))) (u1:(List af)) (t:Task) (kz:Int)
end
theorem BO (t:Task):eu Tryz.prog 14 (aaP t) [] (fun r=>(.v (.agg [(.own 0 false r.fed.length),(.own 1 false r.crew.length),(.own 2 false r.allowed.length),(.own 3 false r.goal.length)]))) (fun r=>[(0,some (bE 3 1 (aY .i64) r.fed)),(1,some (bE 3 1 (aY .i64) r.crew)),(2,some (bE 61 2 af.cell r.allowed)),(3,some (bE 61 2 af.cell r.goal)),(4,none)]) (uZ t):=
  fe tT mX Tryz.func14 (
  .rg {fr:=[(0,6),(1,7)],fz:=[6]} []<| .cl 2 (dQ [(0,8)] (qR t.fed)) fun r_=> .cl 5 (dQ [(0,9)] (qR t.crew)) fun u0=> .cl 8 (dQ [(0,10)] (pW t.allowed)) fun u1=> .cl 11 (dQ [(0,11)] (pW t.goal)) fun u2=> .r<| .en (⟨r_,u0,u1,u2⟩:Task) [] [(8,0),(9,1),(10,2),(11,3),(7,4)])
theorem BN (p:aj) (t:Task):eu Tryz.prog 29 (k0 p t) [] (fun r=>(vB r)) (fun _=>[]) (pM p t):=
  fe tT mX Tryz.func29 (
  .rg {fr:=[(0,2),(1,3)],fz:=[2,3]} []<| .r<| .lp (σ:=Int) (β:=Unit) (0) [] [] ⟨[2,3],[],fun i=>[(5,(vI i))],fun i=>[]⟩ ⟨[2,3],[],fun _=>[],fun _=>[]⟩
  (fun i=> .r<| .it (.a2 ((0:Int)≤i∧i<(t.fed.length:Int)) ((gB [((decide ((at' t.fed i.toNat)<0)),false)]=true→(0:Int)≤i∧i<(t.fed.length:Int)))<| .rg {} [0,1]<| .it (.r<| .e (.done (.ret false)))
  (.r<| .e (.next (k18 i))))
  (.e (.done (.brk ()))))
  (fun _=> .r<| .lp (σ:=Int) (β:=Unit) (0) [] [] ⟨[2,3],[],fun i1=>[(6,(vI i1))],fun i1=>[]⟩ ⟨[],[],fun _=>[],fun _=>[]⟩
  (fun i1=> .r<| .it (.a2 ((0:Int)≤i1∧i1<(t.crew.length:Int)) ((gB [((decide ((at' t.crew i1.toNat)<0)),false)]=true→(0:Int)≤i1∧i1<(t.crew.length:Int)))<| .rg {} [0,1]<| .it (.r<| .e (.done (.ret false)))
  (.r<| .e (.next (k18 i1))))
  (.e (.done (.brk ()))))
  (fun _=> .r<| .e true)))
theorem Dc (p:aj) (s_:State) (u2:(List Int)) (b:Int):eu Tryz.prog 33 (aaV p s_ u2 b) [] (fun r=>(vB r)) (fun _=>[]) (o7 p s_ u2 b):=
  fe tT mX Tryz.func33 (
  .rg {fr:=[(0,6),(1,7)],fz:=[7]} []<| .r<| .lp (σ:=Int) (β:=Unit) (0) [] [] ⟨[2,3,4,5],[6],fun i=>[(9,(vI i))],fun i=>[]⟩ ⟨[],[],fun _=>[],fun _=>[]⟩
  (fun i=> .r<| .it (.a1 (ZR p i)<| .rg {fr:=[(5,11)],fz:=[11]} []<| .r<| .it (.r<| .e (.next (k18 i)))
  (.r<| .r<| .lp (σ:=(Bool × Int)) (β:=Bool) (false,0) [] [] ⟨[2,3,4,5,9,10],[6],fun(u0,kz)=>[(11,(vB u0)),(12,(vI kz))],fun(u0,kz)=>[]⟩ ⟨[2,3,4,5,9],[6],fun u1=>[(11,(vB u1))],fun u1=>[]⟩
  (fun(u0,kz)=> .r<| .it (.a1 ((gB [(u0,false)]=true→(0:Int)≤kz∧kz<(u2.length:Int)))<| .r<| .r<| .e (.next ((bif u0 then true else(decide ((at' u2 kz.toNat)=(Yn p b i)))),(k18 kz))))
  (.e (.done (.brk u0))))
  (fun u1=> .a2 ((gB [((!u1),true)]=true→(0:Int)≤i∧i<(s_.closed.length:Int))) ((gB [((at' s_.closed i.toNat),false),((!u1),true)]=true→(0:Int)≤i∧i<(s_.locked.length:Int)))<| .rg {} [0,1]<| .it (.r<| .e (.done (.ret false)))
  (.r<| .e (.next (k18 i))))))
  (.e (.done (.brk ()))))
  (fun _=> .r<| .e true))
theorem wZ (p:aj) (s_:State) (x:af):eu Tryz.prog 34 (Jk p s_ x) [] (fun r=>(.gZ [(sB r.1),(sI r.2)])) (fun _=>[]) (jk p s_ x):=
  fe tT mX Tryz.func34 (
  .rg {fr:=[(0,3),(1,4),(2,5)],fz:=[3,4,5]} []<| .cl 2 (bK p s_) fun r_=> .r<| .r<| .it (.r<| .e (false,r_))
  (.cl 2 (oM p x) fun u1=> .r<| .it (.r<| .e (false,1))
  (.cl 2 (qw s_ x) fun u0=> .r<| .e (u0,0))))
section
variable (n2:Int) (kz:Int)
abbrev M7:List (Nat × TV):=[(7,(vI n2)),(9,(vI kz))]
abbrev Ns:=((k18 n2),(k18 kz))
abbrev ND:=(n2,(k18 kz))
end
theorem Ba (a:State) (b:State):eu Tryz.prog 35 (abf a b) [] (fun r=>(vI r)) (fun _=>[]) (kM a b):=
  fe tT mX Tryz.func35 (
  .rg {fr:=[(0,4),(1,5)]} []<| .rg {fr:=[(15,6)],fz:=[6]} []<| .rg {fr:=[(15,7)],fz:=[7]} []<| .r<| .r<| .lp (σ:=(Int × Int)) (β:=Int) (0,0) [] [] ⟨[5,6],[],fun(n,i)=>[(7,(vI n)),(8,(vI i))],fun(n,i)=>[]⟩ ⟨[],[],fun n1=>[(7,(vI n1))],fun n1=>[]⟩
  (fun(n,i)=> .r<| .it (.fk (decide (i=0)) (.si 8 i 0 0<| .rg {} [.pf ⟨(0:Int)≤0∧(0:Int)<(7:Nat),(by decide)⟩, .pf ⟨(0:Int)≤0∧(0:Int)<(7:Nat),(by decide)⟩]<| .it (.r<| .e (.done (.ret 100)))
  (.r<| .lp (σ:=(Int × Int)) (β:=Int) (n,0) [] [] ⟨[5,6,8],[],fun(n2,kz)=>(M7 n2 kz),fun(n2,kz)=>[]⟩ ⟨[5,6,8],[],fun n3=>[(7,(vI n3))],fun n3=>[]⟩
  (fun(n2,kz)=> .rg {} [.pf ⟨(0:Int)≤0∧(0:Int)<(7:Nat),(by decide)⟩]<| .it (.a2 (QJ a kz) (QJ b kz)<| .rg {} [.pf ⟨(0:Int)≤0∧(0:Int)<(7:Nat),(by decide)⟩,0, .pf ⟨(0:Int)≤0∧(0:Int)<(7:Nat),(by decide)⟩,1]<| .it (.r<| .r<| .e (.next (Ns n2 kz)))
  (.r<| .e (.next (ND n2 kz))))
  (.e (.done (.brk n2))))
  (fun n3=> .r<| .e (.next (n3,1)))))
  (.fk (decide (i=1)) (.si 8 i 1 0<| .rg {} [.pf ⟨(0:Int)≤1∧(1:Int)<(7:Nat),(by decide)⟩, .pf ⟨(0:Int)≤1∧(1:Int)<(7:Nat),(by decide)⟩]<| .it (.r<| .e (.done (.ret 100)))
  (.r<| .lp (σ:=(Int × Int)) (β:=Int) (n,0) [] [] ⟨[5,6,8],[],fun(n4,u0)=>(M7 n4 u0),fun(n4,u0)=>[]⟩ ⟨[5,6,8],[],fun n5=>[(7,(vI n5))],fun n5=>[]⟩
  (fun(n4,u0)=> .rg {} [.pf ⟨(0:Int)≤1∧(1:Int)<(7:Nat),(by decide)⟩]<| .it (.a2 ((0:Int)≤u0∧u0<(a.locked.length:Int)) ((0:Int)≤u0∧u0<(b.locked.length:Int))<| .rg {} [.pf ⟨(0:Int)≤1∧(1:Int)<(7:Nat),(by decide)⟩,0, .pf ⟨(0:Int)≤1∧(1:Int)<(7:Nat),(by decide)⟩,1]<| .it (.r<| .r<| .e (.next (Ns n4 u0)))
  (.r<| .e (.next (ND n4 u0))))
  (.e (.done (.brk n4))))
  (fun n5=> .r<| .e (.next (n5,2)))))
  (.fk (decide (i=2)) (.si 8 i 2 0<| .rg {} [.pf ⟨(0:Int)≤2∧(2:Int)<(7:Nat),(by decide)⟩, .pf ⟨(0:Int)≤2∧(2:Int)<(7:Nat),(by decide)⟩]<| .it (.r<| .e (.done (.ret 100)))
  (.r<| .lp (σ:=(Int × Int)) (β:=Int) (n,0) [] [] ⟨[5,6,8],[],fun(n6,u1)=>(M7 n6 u1),fun(n6,u1)=>[]⟩ ⟨[5,6,8],[],fun n7=>[(7,(vI n7))],fun n7=>[]⟩
  (fun(n6,u1)=> .rg {} [.pf ⟨(0:Int)≤2∧(2:Int)<(7:Nat),(by decide)⟩]<| .it (.a2 ((0:Int)≤u1∧u1<(a.badLink.length:Int)) ((0:Int)≤u1∧u1<(b.badLink.length:Int))<| .rg {} [.pf ⟨(0:Int)≤2∧(2:Int)<(7:Nat),(by decide)⟩,0, .pf ⟨(0:Int)≤2∧(2:Int)<(7:Nat),(by decide)⟩,1]<| .it (.r<| .r<| .e (.next (Ns n6 u1)))
  (.r<| .e (.next (ND n6 u1))))
  (.e (.done (.brk n6))))
  (fun n7=> .r<| .e (.next (n7,3)))))
  (.fk (decide (i=3)) (.si 8 i 3 0<| .rg {} [.pf ⟨(0:Int)≤3∧(3:Int)<(7:Nat),(by decide)⟩, .pf ⟨(0:Int)≤3∧(3:Int)<(7:Nat),(by decide)⟩]<| .it (.r<| .e (.done (.ret 100)))
  (.r<| .lp (σ:=(Int × Int)) (β:=Int) (n,0) [] [] ⟨[5,6,8],[],fun(n8,u2)=>(M7 n8 u2),fun(n8,u2)=>[]⟩ ⟨[5,6,8],[],fun n9=>[(7,(vI n9))],fun n9=>[]⟩
  (fun(n8,u2)=> .rg {} [.pf ⟨(0:Int)≤3∧(3:Int)<(7:Nat),(by decide)⟩]<| .it (.a2 (UQ a u2) (UQ b u2)<| .rg {} [.pf ⟨(0:Int)≤3∧(3:Int)<(7:Nat),(by decide)⟩,0, .pf ⟨(0:Int)≤3∧(3:Int)<(7:Nat),(by decide)⟩,1]<| .it (.r<| .r<| .e (.next (Ns n8 u2)))
  (.r<| .e (.next (ND n8 u2))))
  (.e (.done (.brk n8))))
  (fun n9=> .r<| .e (.next (n9,4)))))
  (.fk (decide (i=4)) (.si 8 i 4 0<| .rg {} [.pf ⟨(0:Int)≤4∧(4:Int)<(7:Nat),(by decide)⟩, .pf ⟨(0:Int)≤4∧(4:Int)<(7:Nat),(by decide)⟩]<| .it (.r<| .e (.done (.ret 100)))
  (.r<| .lp (σ:=(Int × Int)) (β:=Int) (n,0) [] [] ⟨[5,6,8],[],fun(u6,u3)=>(M7 u6 u3),fun(u6,u3)=>[]⟩ ⟨[5,6,8],[],fun u9=>[(7,(vI u9))],fun u9=>[]⟩
  (fun(u6,u3)=> .rg {} [.pf ⟨(0:Int)≤4∧(4:Int)<(7:Nat),(by decide)⟩]<| .it (.a2 ((0:Int)≤u3∧u3<(a.badSource.length:Int)) ((0:Int)≤u3∧u3<(b.badSource.length:Int))<| .rg {} [.pf ⟨(0:Int)≤4∧(4:Int)<(7:Nat),(by decide)⟩,0, .pf ⟨(0:Int)≤4∧(4:Int)<(7:Nat),(by decide)⟩,1]<| .it (.r<| .r<| .e (.next (Ns u6 u3)))
  (.r<| .e (.next (ND u6 u3))))
  (.e (.done (.brk u6))))
  (fun u9=> .r<| .e (.next (u9,5)))))
  (.fk (decide (i=5)) (.si 8 i 5 0<| .rg {} [.pf ⟨(0:Int)≤5∧(5:Int)<(7:Nat),(by decide)⟩, .pf ⟨(0:Int)≤5∧(5:Int)<(7:Nat),(by decide)⟩]<| .it (.r<| .e (.done (.ret 100)))
  (.r<| .lp (σ:=(Int × Int)) (β:=Int) (n,0) [] [] ⟨[5,6,8],[],fun(u7,u4)=>(M7 u7 u4),fun(u7,u4)=>[]⟩ ⟨[5,6,8],[],fun v0=>[(7,(vI v0))],fun v0=>[]⟩
  (fun(u7,u4)=> .rg {} [.pf ⟨(0:Int)≤5∧(5:Int)<(7:Nat),(by decide)⟩]<| .it (.a2 (V7 a u4) (V7 b u4)<| .rg {} [.pf ⟨(0:Int)≤5∧(5:Int)<(7:Nat),(by decide)⟩,0, .pf ⟨(0:Int)≤5∧(5:Int)<(7:Nat),(by decide)⟩,1]<| .it (.r<| .r<| .e (.next (Ns u7 u4)))
  (.r<| .e (.next (ND u7 u4))))
  (.e (.done (.brk u7))))
  (fun v0=> .r<| .e (.next (v0,6)))))
  (.a1 (i=6)<| .sj 8 i 6 0<| .rg {} [.pf ⟨(0:Int)≤6∧(6:Int)<(7:Nat),(by decide)⟩, .pf ⟨(0:Int)≤6∧(6:Int)<(7:Nat),(by decide)⟩]<| .it (.r<| .e (.done (.ret 100)))
  (.r<| .lp (σ:=(Int × Int)) (β:=Int) (n,0) [] [] ⟨[5,6,8],[],fun(u8,u5)=>(M7 u8 u5),fun(u8,u5)=>[]⟩ ⟨[5,6,8],[],fun v1=>[(7,(vI v1))],fun v1=>[]⟩
  (fun(u8,u5)=> .rg {} [.pf ⟨(0:Int)≤6∧(6:Int)<(7:Nat),(by decide)⟩]<| .it (.a2 (k74 u5 a) (k74 u5 b)<| .rg {} [.pf ⟨(0:Int)≤6∧(6:Int)<(7:Nat),(by decide)⟩,0, .pf ⟨(0:Int)≤6∧(6:Int)<(7:Nat),(by decide)⟩,1]<| .it (.r<| .r<| .e (.next (Ns u8 u5)))
  (.r<| .e (.next (ND u8 u5))))
  (.e (.done (.brk u8))))
  (fun v1=> .r<| .e (.next (v1,7)))))))))))
  (.e (.done (.brk n))))
  (fun n1=> .r<| .e n1))
section
variable (s_:State) (p:aj)
abbrev ZC:List CV:=[(.own 0 false s_.closed.length),(.own 1 false s_.locked.length),(.own 2 false s_.badLink.length),(.own 3 false s_.on_.length),(.own 4 false s_.badSource.length),(.own 5 false s_.earthed.length),(.own 6 false s_.badBus.length)]
abbrev Nk:List SV:=[(.agg (k1 p)),(.agg (ZC s_))]
abbrev Dw:List (Nat × Option Ob):=[(0,some (bE 4 1 ai s_.closed)),(1,some (bE 4 1 ai s_.locked)),(2,some (bE 4 1 ai s_.badLink)),(3,some (bE 4 1 ai s_.on_)),(4,some (bE 4 1 ai s_.badSource)),(5,some (bE 4 1 ai s_.earthed)),(6,some (bE 4 1 ai s_.badBus))]
end
theorem wF (p:aj) (s_:State):eu Tryz.prog 113 (Nk s_ p) (Dw s_) (fun r=>(.v (.one (.fn 143 0 2 (Rq [(.d (Eo [(.int .i64 r.1),(bB none 5 Source.cell r.2.1),(bB none 6 Link.cell r.2.2.1),(bB none 4 aV.cell r.2.2.2.1)] 0)),(.ptr 7 0)]))))) (fun r=>[(0,some (bE 4 1 ai s_.closed)),(1,some (bE 4 1 ai s_.locked)),(2,some (bE 4 1 ai s_.badLink)),(3,some (bE 4 1 ai s_.on_)),(4,some (bE 4 1 ai s_.badSource)),(5,some (bE 4 1 ai s_.earthed)),(6,some (bE 4 1 ai s_.badBus)),(7,some (.cells 29 (ZC s_)))]) (pX p s_):=
  fe tT mX Tryz.func113 (
  .rg {fr:=[(0,9),(1,10)],fz:=[9]} []<| .r<| .en (p.buses,p.sources,p.links,p.racks,s_) [] [(10,7)])
section
variable (u0:State) (t9:Int) (u1:(List Link))
abbrev aai:Nat × Option Ob:=(1,some (.cells 29 [(.own 3 false u0.closed.length),(.own 4 false u0.locked.length),(.own 5 false u0.badLink.length),(.own 6 false u0.on_.length),(.own 7 false u0.badSource.length),(.own 8 false u0.earthed.length),(.own 9 false u0.badBus.length)]))
abbrev Zn:=(bif (Zu u0 t9)then(!(at' u0.badBus (((at' u1 t9.toNat).a).toNat)))else false)
abbrev XW:=((gB [(WS u0 t9)]=true→(0:Int)≤(at' u1 t9.toNat).a∧(at' u1 t9.toNat).a<(u0.badBus.length:Int)))
abbrev WL:=((Zn u0 t9 u1),true)
abbrev Yq:=((gB [(WL u0 t9 u1)]=true→(0:Int)≤(at' u1 t9.toNat).b∧(at' u1 t9.toNat).b<(u0.badBus.length:Int)))
end
theorem tC (x1:Int) (u3:(List Source)) (u1:(List Link)) (u4:(List aV)) (u0:State) (o_:aK):eu Tryz.prog 143 [(.one (.yl 0)),(sD (k8 u3 x1 u1 u4)),(.one (.ptr 1 0))] [(0,some (.loop jZ 0 [(5,(vP 2 0))])),(aai u0),(2,some (.cells 172 [(.mp 10)])),(3,some (bE 4 1 ai u0.closed)),(4,some (bE 4 1 ai u0.locked)),(5,some (bE 4 1 ai u0.badLink)),(6,some (bE 4 1 ai u0.on_)),(7,some (bE 4 1 ai u0.badSource)),(8,some (bE 4 1 ai u0.earthed)),(9,some (bE 4 1 ai u0.badBus)),(10,some (k63 o_))] (fun r=>(.gZ [])) (fun r=>[(0,some (.loop jZ 0 [(5,(vP 2 0))])),(aai u0),(2,some (.cells 172 [(.mp 10)])),(3,some (bE 4 1 ai u0.closed)),(4,some (bE 4 1 ai u0.locked)),(5,some (bE 4 1 ai u0.badLink)),(6,some (bE 4 1 ai u0.on_)),(7,some (bE 4 1 ai u0.badSource)),(8,some (bE 4 1 ai u0.earthed)),(9,some (bE 4 1 ai u0.badBus)),(10,some (GR 3 3 false false 1 1 (aY .i64) (aY .i64) r.head))]) (oz x1 u3 u1 u4 u0 o_):=
  fe tT mX Tryz.func143 (
  .r<| .lp (σ:=((List (Int × Int)) × Int)) (β:=(List (Int × Int))) (o_.head,0) [] [] ⟨[0,2,7,8],[0,1,2,3,4,5,6,7,8,9],fun(u2,t9)=>[(9,(vI t9))],fun(u2,t9)=>[(10,some (k68 u2))]⟩ ⟨[],[0,1,2,3,4,5,6,7,8,9],fun o501=>[],fun o501=>[(10,some (GR 3 3 false false 1 1 (aY .i64) (aY .i64) o501))]⟩
  (fun(u2,t9)=> .r<| .it (.a1 (k23 u1 t9)<| .rg {fr:=[(3,18)],fz:=[18]} []<| .fk (bif (Zn u0 t9 u1)then(!(at' u0.badBus (((at' u1 t9.toNat).b).toNat)))else false) (.cy 34 (rkY [(1,2),(1,10)] (oH ((at' u1 t9.toNat).a) ((at' u1 t9.toNat).b) ((at' u1 t9.toNat).kind) ((at' u1 t9.toNat).most) ((at' u1 t9.toNat).ohm) ((at' u1 t9.toNat).trip) (⟨u2⟩:aK))) fun r_=> .a4 (QJ u0 t9) (X5 u0 t9) (XW u0 t9 u1) (Yq u0 t9 u1)<| .rg {ov:=[(31,true,5)]} [0, .t 0 t9 u0.closed.length,1, .tg 1 [((at' u0.closed t9.toNat),true)] t9 u0.badLink.length,2, .tg 2 [(WS u0 t9)] ((at' u1 t9.toNat).a) u0.badBus.length,3, .tg 3 [(WL u0 t9 u1)] ((at' u1 t9.toNat).b) u0.badBus.length, .k 4]<| .f<| .r<| .e (.next (r_.head,(k18 t9))))
  (.a4 (QJ u0 t9) (X5 u0 t9) (XW u0 t9 u1) (Yq u0 t9 u1)<| .rg {ov:=[(31,false,4)],sk:=[32,33,34,35]} [0, .t 0 t9 u0.closed.length,1, .tg 1 [((at' u0.closed t9.toNat),true)] t9 u0.badLink.length,2, .tg 2 [(WS u0 t9)] ((at' u1 t9.toNat).a) u0.badBus.length,3, .tg 3 [(WL u0 t9 u1)] ((at' u1 t9.toNat).b) u0.badBus.length]<| .f<| .r<| .e (.next (u2,(k18 t9)))))
  (.e (.done (.brk u2))))
  (fun o501=> .e (⟨o501⟩:aK)))
end
end Sg
