import Derived.Test.YtolddefbejdanaaGreatDoorChW0
set_option linter.all false
namespace Sg
open Go Go.Proofs
set_option maxRecDepth 20000
noncomputable section
section
variable (s0:(List Bool)) (u2:(List Bool)) (u3:(List Bool)) (u4:(List Bool)) (u5:(List Bool)) (u6:(List Bool)) (u7:(List Bool)) (u0:Int) (p:ai)
abbrev QF:List (Nat × Option Ob):=[(23,some (eT 4 1 aj s0)),(30,some (.cells 29 [(.own 23 true s0.length),(.own 24 true u2.length),(.own 25 true u3.length),(.own 26 true u4.length),(.own 27 true u5.length),(.own 28 true u6.length),(.own 29 true u7.length)]))]
abbrev NR:=(s0.set u0.toNat (decide (((at' p.links u0.toNat).kind)=1)))
end
theorem rz (p:ai):fP Tryz.prog 27 (k0 p) [] (fun r=>(.iG [(.agg [(.own 0 false r.1.closed.length),(.own 1 false r.1.locked.length),(.own 2 false r.1.badLink.length),(.own 3 false r.1.on_.length),(.own 4 false r.1.badSource.length),(.own 5 false r.1.earthed.length),(.own 6 false r.1.badBus.length)]),(sI r.2)])) (fun r=>[(0,some (eT 4 1 aj r.1.closed)),(1,some (eT 4 1 aj r.1.locked)),(2,some (eT 4 1 aj r.1.badLink)),(3,some (eT 4 1 aj r.1.on_)),(4,some (eT 4 1 aj r.1.badSource)),(5,some (eT 4 1 aj r.1.earthed)),(6,some (eT 4 1 aj r.1.badBus)),(7,none)]) (qX p):=
  iC tT mX Tryz.func27 (
  .rg {fr:=[(0,14),(1,15)]} []<| .cl 1 (jE p) fun r_=> .r<| .r<| .it (.r<| .im (.ML 15 0 16 4 1 (aB aj ([]:List Bool)))<| .im (.ML 15 1 17 4 1 (aB aj ([]:List Bool)))<| .im (.ML 15 2 18 4 1 (aB aj ([]:List Bool)))<| .im (.ML 15 3 19 4 1 (aB aj ([]:List Bool)))<| .im (.ML 15 4 20 4 1 (aB aj ([]:List Bool)))<| .im (.ML 15 5 21 4 1 (aB aj ([]:List Bool)))<| .im (.ML 15 6 22 4 1 (aB aj ([]:List Bool)))<| .en (Qa r_) [] [(16,0),(17,1),(18,2),(19,3),(20,4),(21,5),(22,6),(15,7)])
  (.r<| .r<| .cl 2 (oC [(0,23)] (bW (p.links.length:Int))) fun u8=> .cl 5 (oC [(0,24)] (bW (p.links.length:Int))) fun u2=> .cl 8 (oC [(0,25)] (bW (p.links.length:Int))) fun u3=> .cl 11 (oC [(0,26)] (bW (p.sources.length:Int))) fun u4=> .cl 14 (oC [(0,27)] (bW (p.sources.length:Int))) fun u5=> .cl 18 (oC [(0,28)] (bW p.buses)) fun u6=> .cl 22 (oC [(0,29)] (bW p.buses)) fun u7=> .rg {fr:=[(24,30)]} []<| .r<| .lp (σ:=((List Bool) × Int)) (β:=(List Bool)) (u8,0) [] [] ⟨[2,8,48,49],[15,24,25,26,27,28,29],fun(s0,u0)=>[(50,(vI u0))],fun(s0,u0)=>(QF s0 u2 u3 u4 u5 u6 u7)⟩ ⟨[2,8],[15,24,25,26,27,28,29],fun u1=>[],fun u1=>(QF u1 u2 u3 u4 u5 u6 u7)⟩
  (fun(s0,u0)=> .r<| .it (.a1 (k2 p u0)<| .rg {fr:=[(3,34)],fz:=[34]} []<| .a1 (O5 s0 u0)<| .rg {an:=[(7, .arr 0 (aB aj (NR s0 u0 p)))]} [0, .t 0 u0 s0.length, .pf ⟨aJ s0.length 1 (oh (aB aj s0) u0.toNat 0 [(.bool (decide (((at' p.links u0.toNat).kind)=1)))]) (aB aj (NR s0 u0 p)),eY _ _ _ _ _ _ _ _ rfl (fun j hj=>(match j,hj with|0,_=>rfl))⟩]<| .im (.ll 23 s0 (NR s0 u0 p))<| .r<| .e (.next ((NR s0 u0 p),(k3 u0))))
  (.e (.done (.brk s0))))
  (fun u1=> .r<| .en ((⟨u1,u2,u3,u4,u5,u6,u7⟩:State),0) [] [(23,0),(24,1),(25,2),(26,3),(27,4),(28,5),(29,6),(15,7)])))
section
variable (s_:State) (p:ai)
abbrev QH:List CV:=[(.own 0 true s_.closed.length),(.own 1 false s_.locked.length),(.own 2 false s_.badLink.length),(.own 3 true s_.on_.length),(.own 4 false s_.badSource.length),(.own 5 false s_.earthed.length),(.own 6 false s_.badBus.length)]
abbrev Gi:List SV:=[(.agg (k1 p)),(.agg (QH s_))]
abbrev vR:List (Nat × Option Ob):=[(0,some (eT 4 1 aj s_.closed)),(1,some (eT 4 1 aj s_.locked)),(2,some (eT 4 1 aj s_.badLink)),(3,some (eT 4 1 aj s_.on_)),(4,some (eT 4 1 aj s_.badSource)),(5,some (eT 4 1 aj s_.earthed)),(6,some (eT 4 1 aj s_.badBus))]
end
theorem jR (p:ai) (s_:State):fP Tryz.prog 84 (Gi s_ p) (vR s_) (fun r=>(.v (.one (.fn 99 0 2 (Nc [(.d (Kj [(.int .i64 r.1),(aX none 5 Source.cell r.2.1),(aX none 6 Link.cell r.2.2.1),(aX none 4 aN.cell r.2.2.2.1)] 0)),(.ptr 7 0)]))))) (fun r=>[(0,some (eT 4 1 aj s_.closed)),(1,some (eT 4 1 aj s_.locked)),(2,some (eT 4 1 aj s_.badLink)),(3,some (eT 4 1 aj s_.on_)),(4,some (eT 4 1 aj s_.badSource)),(5,some (eT 4 1 aj s_.earthed)),(6,some (eT 4 1 aj s_.badBus)),(7,some (.cells 29 (QH s_)))]) (lU p s_):=
  iC tT mX Tryz.func84 (
  .rg {fr:=[(0,9),(1,10)],fz:=[9]} []<| .r<| .en (p.buses,p.sources,p.links,p.racks,s_) [] [(10,7)])
section
variable (u0:State) (t9:Int) (u1:(List Link))
abbrev RJ:Nat × Option Ob:=(1,some (.cells 29 [(.own 3 true u0.closed.length),(.own 4 false u0.locked.length),(.own 5 false u0.badLink.length),(.own 6 true u0.on_.length),(.own 7 false u0.badSource.length),(.own 8 false u0.earthed.length),(.own 9 false u0.badBus.length)]))
abbrev OH:=(bif (at' u0.closed t9.toNat)then(!(at' u0.badLink t9.toNat))else false)
abbrev Rp:=(bif (OH u0 t9)then(!(at' u0.badBus (((at' u1 t9.toNat).a).toNat)))else false)
abbrev OJ:=((gB [((at' u0.closed t9.toNat),true)]=true→(0:Int)≤t9∧t9<(u0.badLink.length:Int)))
abbrev LM:=((OH u0 t9),true)
abbrev P8:=((gB [(LM u0 t9)]=true→(0:Int)≤(at' u1 t9.toNat).a∧(at' u1 t9.toNat).a<(u0.badBus.length:Int)))
abbrev Pf:=((Rp u0 t9 u1),true)
abbrev Qd:=((gB [(Pf u0 t9 u1)]=true→(0:Int)≤(at' u1 t9.toNat).b∧(at' u1 t9.toNat).b<(u0.badBus.length:Int)))
end
theorem nP (x1:Int) (u3:(List Source)) (u1:(List Link)) (u4:(List aN)) (u0:State) (o_:aF):fP Tryz.prog 99 [(.one (.yl 0)),(sD (k5 u3 x1 u1 u4)),(.one (.ptr 1 0))] [(0,some (.loop iQ 0 [(5,(vP 2 0))])),(RJ u0),(2,some (.cells 146 [(.mp 10)])),(3,some (eT 4 1 aj u0.closed)),(4,some (eT 4 1 aj u0.locked)),(5,some (eT 4 1 aj u0.badLink)),(6,some (eT 4 1 aj u0.on_)),(7,some (eT 4 1 aj u0.badSource)),(8,some (eT 4 1 aj u0.earthed)),(9,some (eT 4 1 aj u0.badBus)),(10,some (SL o_))] (fun r=>(.iG [])) (fun r=>[(0,some (.loop iQ 0 [(5,(vP 2 0))])),(RJ u0),(2,some (.cells 146 [(.mp 10)])),(3,some (eT 4 1 aj u0.closed)),(4,some (eT 4 1 aj u0.locked)),(5,some (eT 4 1 aj u0.badLink)),(6,some (eT 4 1 aj u0.on_)),(7,some (eT 4 1 aj u0.badSource)),(8,some (eT 4 1 aj u0.earthed)),(9,some (eT 4 1 aj u0.badBus)),(10,some (Oe 3 3 false false 1 1 (aH .i64) (aH .i64) r.head))]) (kL x1 u3 u1 u4 u0 o_):=
  iC tT mX Tryz.func99 (
  .r<| .lp (σ:=((List (Int × Int)) × Int)) (β:=(List (Int × Int))) (o_.head,0) [] [] ⟨[0,2,7,8],[0,1,2,3,4,5,6,7,8,9],fun(u2,t9)=>[(9,(vI t9))],fun(u2,t9)=>[(10,some (Sy u2))]⟩ ⟨[],[0,1,2,3,4,5,6,7,8,9],fun o501=>[],fun o501=>[(10,some (Oe 3 3 false false 1 1 (aH .i64) (aH .i64) o501))]⟩
  (fun(u2,t9)=> .r<| .it (.a1 (k17 u1 t9)<| .rg {fr:=[(3,18)],fz:=[18]} []<| .fk (bif (Rp u0 t9 u1)then(!(at' u0.badBus (((at' u1 t9.toNat).b).toNat)))else false) (.cy 34 (Ui [(1,2),(1,10)] (kJ ((at' u1 t9.toNat).a) ((at' u1 t9.toNat).b) ((at' u1 t9.toNat).kind) ((at' u1 t9.toNat).most) ((at' u1 t9.toNat).ohm) ((at' u1 t9.toNat).trip) (⟨u2⟩:aF))) fun r_=> .a4 ((0:Int)≤t9∧t9<(u0.closed.length:Int)) (OJ u0 t9) (P8 u0 t9 u1) (Qd u0 t9 u1)<| .rg {ov:=[(31,true,5)]} [0, .t 0 t9 u0.closed.length,1, .tg 1 [((at' u0.closed t9.toNat),true)] t9 u0.badLink.length,2, .tg 2 [(LM u0 t9)] ((at' u1 t9.toNat).a) u0.badBus.length,3, .tg 3 [(Pf u0 t9 u1)] ((at' u1 t9.toNat).b) u0.badBus.length, .k 4]<| .f<| .r<| .e (.next (r_.head,(k3 t9))))
  (.a4 ((0:Int)≤t9∧t9<(u0.closed.length:Int)) (OJ u0 t9) (P8 u0 t9 u1) (Qd u0 t9 u1)<| .rg {ov:=[(31,false,4)],sk:=[32,33,34,35]} [0, .t 0 t9 u0.closed.length,1, .tg 1 [((at' u0.closed t9.toNat),true)] t9 u0.badLink.length,2, .tg 2 [(LM u0 t9)] ((at' u1 t9.toNat).a) u0.badBus.length,3, .tg 3 [(Pf u0 t9 u1)] ((at' u1 t9.toNat).b) u0.badBus.length]<| .f<| .r<| .e (.next (u2,(k3 t9)))))
  (.e (.done (.brk u2))))
  (fun o501=> .e (⟨o501⟩:aF)))
section
variable (r_:(Int × (List Source) × (List Link) × (List aN) × State)) (s_:State) (u1:(List af)) (u2:(List (Int × Int))) (u0:Int) (u6:(List af)) (u7:Int) (u4:(List (Int × Int)))
abbrev Qr:=(oC [(0,68),(1,67),(2,66),(3,0),(4,1),(5,2),(6,3),(7,4),(8,5),(9,6),(10,65)] (nP r_.1 r_.2.1 r_.2.2.1 r_.2.2.2.1 s_ (⟨([]:(List (Int × Int)))⟩:aF)))
abbrev NJ:List (Nat × Option Ob):=[(69,some (.rows 108 2 u1.length (lT af.ev u1) none)),(70,some (Sy u2))]
abbrev Rs:=((some ((Ez u1 u2 u0).toNat,0,CV.own 97 false (Km u1 u2 u0).length)):Option (Nat × Nat × CV))
abbrev Ql:=((some ((qA u2 u0).toNat,0,CV.own 100 false (Kk u1 u2 u0).length)):Option (Nat × Nat × CV))
abbrev NT:List (Nat × Option Ob):=[(69,some (.rows 108 2 u6.length (lT af.ev u6) none))]
abbrev Rf:=((some ((qA u4 u7).toNat,1,CV.own 116 false (zb u6 u7 u4).length)):Option (Nat × Nat × CV))
end
theorem rM (p:ai) (s_:State):fP Tryz.prog 50 (Gi s_ p) (vR s_) (fun r=>(vD (aX none 2 af.cell r))) (fun r=>(vR s_)) (iN p s_):=
  iC tT mX Tryz.func50 (
  .rg {fr:=[(0,63),(1,64)]} []<| .rg {an:=[(0, .map 0 (pJ (aH .i64) ([]:(List (Int × Int)))) (qp (aH .i64) ([]:(List (Int × Int)))) [])],fr:=[(0,65),(2,66)]} []<| .cl 2 (oC [(7,67)] (jR p s_)) fun r_=> .r<| .cl 0 (Qr r_ s_) fun v0=> .rf 68 [5] [] none 0 []<| .r<| .im (.RP 7 69 108 2 (lT af.ev ([]:List af)))<| .rg {an:=[(0, .map 0 (pJ (aH .i64) ([]:(List (Int × Int)))) (qp (aH .i64) ([]:(List (Int × Int)))) [])],fr:=[(0,70)]} []<| .r<| .lp (σ:=((List af) × (List (Int × Int)) × Int)) (β:=((List af) × (List (Int × Int)))) (([]:List af),([]:(List (Int × Int))),0) [] [] ⟨[2,3,5,8,31],[0,1,2,3,4,5,6,63,64,65,66],fun(u1,u2,u3)=>[(7,(vO 69 false u1.length)),(32,(vI u3))],fun(u1,u2,u3)=>(NJ u1 u2)⟩ ⟨[2,3,5,8],[0,1,2,3,4,5,6,63,64,65,66],fun(u9,u4)=>[(7,(vO 69 false u9.length))],fun(u9,u4)=>(NJ u9 u4)⟩
  (fun(u1,u2,u3)=> .r<| .it (.r<| .a1 (Qc u3 s_)<| .rg {} [0, .t 0 u3 s_.badBus.length]<| .it (.r<| .e (.next (u1,u2,(k3 u3))))
  (.cr 2 (oC [(0,65)] (aP v0 u3)) fun u0=> .r<| .rg {an:=[(2, .look (aM bB u0 u2).isSome (zC u2 u0))]} [.pf ⟨fB [some .i64] 1 1 u2.length (pJ (aH .i64) u2) (qp (aH .i64) u2) [(.int .i64 u0)] [(.d (.int .i64 0))] (aM bB u0 u2).isSome (zC u2 u0),dA (fun _=>rfl) (fun _ _=>rfl) u2 u0 0 rfl rfl rfl⟩]<| .r<| .it (.rg {an:=[(4, .map (Dg u1 u2 u0).length (Kh u1 u2 u0) (Kl u1 u2 u0) [])]} [.pf ⟨lI [some .i64] 1 1 u2.length (pJ (aH .i64) u2) (qp (aH .i64) u2) [(.int .i64 u0)] [(cI (u1.length:Int))] [] (Dg u1 u2 u0).length (Kh u1 u2 u0) (Kl u1 u2 u0),sQ (fun _=>rfl) (fun _ _=>rfl) u2 u0 (u1.length:Int) rfl rfl⟩]<| .a2 (Sk u1) (SG u1)<| .rg {an:=[(2, .arr [(⟨([]:List Int),([]:List Int)⟩:af)].length (jZ 2 [nS,nS])),(3, .rows (BR u1).length (NA u1))],fr:=[(2,95),(3,96)]} [.pf ⟨[(⟨([]:List Int),([]:List Int)⟩:af)].length=1,rfl⟩, .pf ⟨aJ 1 2 (jZ 2 [nS,nS]) (jZ 2 [nS,nS]),fD _ _ _⟩, .e (u1.length),0,1, .pf ⟨(BR u1).length=u1.length+[(⟨([]:List Int),([]:List Int)⟩:af)].length,List.length_append⟩, .pf ⟨qJ u1.length [(⟨([]:List Int),([]:List Int)⟩:af)].length 2 (lT af.ev u1) (jZ 2 [nS,nS]) (NA u1),zH _ _ _ _ _ (by intro i hi j hj;match i,j,hi,hj with|0,0,_,_=>exact⟨rfl,_,_,_,rfl⟩|0,1,_,_=>exact⟨rfl,_,_,_,rfl⟩)⟩]<| .rg {an:=[(2, .look (Mt u1 u2 u0).isSome (Ol u1 u2 u0))]} [.pf ⟨fB [some .i64] 1 1 (Dg u1 u2 u0).length (Kh u1 u2 u0) (Kl u1 u2 u0) [(.int .i64 u0)] [(.d (.int .i64 0))] (Mt u1 u2 u0).isSome (Ol u1 u2 u0),dA (fun _=>rfl) (fun _ _=>rfl) (Dg u1 u2 u0) u0 0 rfl rfl rfl⟩]<| .a3 (R8 u1 u2 u0) (RV u1 u2 u3 u0) (R7 u1 u2 u3 u0)<| .rg {an:=[(6, .take 97),(8, .arr [u3].length (aB (aH .i64) [u3])),(9, .arr (Kn u1 u2 u3 u0).length (MU u1 u2 u3 u0)),(12, .rows 0 (Od u1 u2 u3 u0))],fr:=[(8,98),(9,99)]} [0, .t 0 (Ez u1 u2 u0) (Oi u1), .pf ⟨[u3].length=1,rfl⟩, .pf ⟨aJ 1 1 (Jw u3) (aB (aH .i64) [u3]),(by intro i hi j hj;match i,j,hi,hj with|0,0,_,_=>rfl)⟩, .e (R9 u1 u2 u0),1,2, .pf ⟨(Kn u1 u2 u3 u0).length=(Km u1 u2 u0).length+[u3].length,List.length_append⟩, .pf ⟨aJ (Rj u1 u2 u3 u0) 1 (R4 u1 u2 u3 u0) (MU u1 u2 u3 u0),bH _ _ _ _⟩,0, .t 0 (Ez u1 u2 u0) (Oi u1), .e (Sm u1 u2 u3 u0), .pf ⟨xB (BR u1).length 2 (RO u1 u2 u3 u0) (Od u1 u2 u3 u0),iV _ _ _ _ _ _ _ _ rfl (fun j hj=>(match j,hj with|0,_=>rfl|1,_=>rfl))⟩, .pf ⟨∀i0 j0 c0,(Rs u1 u2 u0)=some (i0,j0,c0)→i0=(Ez u1 u2 u0).toNat∧j0=0,(fun i0 j0 c0 e=>by cases e;exact⟨rfl,rfl⟩)⟩]<| .im (.ll 96 (BR u1) (PV u1 u2 u3 u0))<| .r<| .en (.next (Sw u1 u2 u3 u0)) [] [(96,69)])
  (.rg {an:=[(2, .look (aM bB u0 u2).isSome (zC u2 u0))]} [.pf ⟨fB [some .i64] 1 1 u2.length (pJ (aH .i64) u2) (qp (aH .i64) u2) [(.int .i64 u0)] [(.d (.int .i64 0))] (aM bB u0 u2).isSome (zC u2 u0),dA (fun _=>rfl) (fun _ _=>rfl) u2 u0 0 rfl rfl rfl⟩]<| .a3 (Ow u1 u2 u0) (SF u1 u2 u3 u0) (Sl u1 u2 u3 u0)<| .rg {an:=[(6, .take 100),(8, .arr [u3].length (aB (aH .i64) [u3])),(9, .arr (Ki u1 u2 u3 u0).length (MO u1 u2 u3 u0)),(12, .rows 0 (Oh u1 u2 u3 u0))],fr:=[(8,101),(9,102)]} [0, .t 0 (qA u2 u0) u1.length, .pf ⟨[u3].length=1,rfl⟩, .pf ⟨aJ 1 1 (Jw u3) (aB (aH .i64) [u3]),(by intro i hi j hj;match i,j,hi,hj with|0,0,_,_=>rfl)⟩, .e (Sj u1 u2 u0),1,2, .pf ⟨(Ki u1 u2 u3 u0).length=(Kk u1 u2 u0).length+[u3].length,List.length_append⟩, .pf ⟨aJ (Rm u1 u2 u3 u0) 1 (RQ u1 u2 u3 u0) (MO u1 u2 u3 u0),bH _ _ _ _⟩,0, .t 0 (qA u2 u0) u1.length, .e (R6 u1 u2 u3 u0), .pf ⟨xB u1.length 2 (Si u1 u2 u3 u0) (Oh u1 u2 u3 u0),iV _ _ _ _ _ _ _ _ rfl (fun j hj=>(match j,hj with|0,_=>rfl|1,_=>rfl))⟩, .pf ⟨∀i0 j0 c0,(Ql u1 u2 u0)=some (i0,j0,c0)→i0=(qA u2 u0).toNat∧j0=0,(fun i0 j0 c0 e=>by cases e;exact⟨rfl,rfl⟩)⟩]<| .im (.ll 69 u1 (PL u1 u2 u3 u0))<| .r<| .e (.next (SB u1 u2 u3 u0)))))
  (.e (.done (.brk (u1,u2)))))
  (fun(u9,u4)=> .r<| .lp (σ:=((List af) × Int)) (β:=(List af)) (u9,0) [] [] ⟨[3,5,8,76,77],[0,1,2,3,4,5,6,64,65,66,70],fun(u6,u5)=>[(7,(vO 69 false u6.length)),(78,(vI u5))],fun(u6,u5)=>(NT u6)⟩ ⟨[],[0,1,2,3,4,5,6],fun u8=>[(7,(vO 69 false u8.length))],fun u8=>(NT u8)⟩
  (fun(u6,u5)=> .r<| .it (.a1 (PG u5 p)<| .rg {fr:=[(3,115)],fz:=[115]} []<| .a3 (Qo s_ u5) (QZ s_ u5) (QK s_ u5 p)<| .rg {} [0, .t 0 u5 s_.on_.length,1, .tg 1 [((at' s_.on_ u5.toNat),true)] u5 s_.badSource.length,2, .tg 2 [(RZ s_ u5)] (Mi u5 p) s_.badBus.length]<| .it (.cr 4 (oC [(0,65)] (aP v0 (Mi u5 p))) fun u7=> .rg {an:=[(5, .look (aM bB u7 u4).isSome (zC u4 u7))]} [0, .pf ⟨fB [some .i64] 1 1 u4.length (pJ (aH .i64) u4) (qp (aH .i64) u4) [(.int .i64 u7)] [(.d (.int .i64 0))] (aM bB u7 u4).isSome (zC u4 u7),dA (fun _=>rfl) (fun _ _=>rfl) u4 u7 0 rfl rfl rfl⟩]<| .a3 (Ow u6 u4 u7) (Sz u6 u5 u7 u4) (Oa u6 u5 u7 u4)<| .rg {an:=[(6, .take 116),(8, .arr [u5].length (aB (aH .i64) [u5])),(9, .arr (zA u6 u5 u7 u4).length (DR u6 u5 u7 u4)),(12, .rows 0 (Ff u6 u5 u7 u4))],fr:=[(8,117),(9,118)]} [0, .t 0 (qA u4 u7) u6.length, .pf ⟨[u5].length=1,rfl⟩, .pf ⟨aJ 1 1 (Jw u5) (aB (aH .i64) [u5]),(by intro i hi j hj;match i,j,hi,hj with|0,0,_,_=>rfl)⟩, .e (MR u6 u7 u4),1,2, .pf ⟨(zA u6 u5 u7 u4).length=(zb u6 u7 u4).length+[u5].length,List.length_append⟩, .pf ⟨aJ (RD u6 u5 u7 u4) 1 (M9 u6 u5 u7 u4) (DR u6 u5 u7 u4),bH _ _ _ _⟩,0, .t 0 (qA u4 u7) u6.length, .e (NZ u6 u5 u7 u4), .pf ⟨xB u6.length 2 (NQ u6 u5 u7 u4) (Ff u6 u5 u7 u4),iV _ _ _ _ _ _ _ _ rfl (fun j hj=>(match j,hj with|0,_=>rfl|1,_=>rfl))⟩, .pf ⟨∀i0 j0 c0,(Rf u6 u7 u4)=some (i0,j0,c0)→i0=(qA u4 u7).toNat∧j0=1,(fun i0 j0 c0 e=>by cases e;exact⟨rfl,rfl⟩)⟩]<| .im (.ll 69 u6 (JQ u6 u5 u7 u4))<| .r<| .e (.next (MP u6 u5 u7 u4)))
  (.r<| .e (.next (Js u6 u5))))
  (.e (.done (.brk u6))))
  (fun u8=> .rg {fz:=[69]} []<| .im (.us 4 (vD (.sl none 2 u8.length (fun i j=>PX (lT af.ev u8 i j)))) (vD (aX none 2 af.cell u8)) (xR.v (xS.one (o8.d (mM.sl (.inr rfl) (fun i _ j hj=>match j,hj with|0,_=> .refl _|1,_=> .refl _))))))<| .e u8)))
section
variable (p:ai) (s_:State)
abbrev Qu:List SV:=[(.agg (k1 p)),(.agg [(.d (aX (some true) 1 aj s_.closed)),(.d (aX none 1 aj s_.locked)),(.d (aX none 1 aj s_.badLink)),(.d (aX (some true) 1 aj s_.on_)),(.d (aX none 1 aj s_.badSource)),(.d (aX none 1 aj s_.earthed)),(.d (aX none 1 aj s_.badBus))])]
end
theorem rD (p:ai) (s_:State):fP Tryz.prog 13 (Gi s_ p) (vR s_) (fun r=>(.iG [(sD (aX none 2 af.cell r.1)),(sI r.2)])) (fun r=>(vR s_)) (nT p s_):=
  iC tT mX Tryz.func13 (
  .rg {fr:=[(0,9),(1,10)],fz:=[9]} []<| .cr 2 ⟨fun{r_} hr_=>((Fn.KO (frz:=[0,1,2,3,4,5,6]) (p:=[s_.closed.length=s_.closed.length,s_.locked.length=s_.locked.length,s_.badLink.length=s_.badLink.length,s_.on_.length=s_.on_.length,s_.badSource.length=s_.badSource.length,s_.earthed.length=s_.earthed.length,s_.badBus.length=s_.badBus.length]) (Fn.le (args':=(Qu p s_)) (bO p s_ hr_) (by exact⟨xS.refl _,xS.agg ⟨o8.d mM.qW,o8.refl _,o8.refl _,o8.d mM.qW,o8.refl _,o8.refl _,o8.refl _,trivial⟩,trivial⟩)) (by kernel_rfl) ⟨rfl,rfl,rfl,rfl,rfl,rfl,rfl,trivial⟩ rfl):Fn Tryz.prog 11 (Gi s_ p) (vR s_) (vI r_) (vR s_))⟩ fun r_=> .r<| .r<| .it (.r<| .e (([]:List af),r_))
  (.cr 2 (rM p s_) fun u0=> .r<| .e (u0,0)))
theorem rE (p:ai) (s_:State):fP Tryz.prog 50 (Gi s_ p) (vR s_) (fun r=>(vD (aX none 2 af.cell r))) (fun r=>(vR s_)) (iN p s_):=
  iC tT mX Tryz.func50 (
  .rg {fr:=[(0,63),(1,64)]} []<| .rg {an:=[(0, .map 0 (pJ (aH .i64) ([]:(List (Int × Int)))) (qp (aH .i64) ([]:(List (Int × Int)))) [])],fr:=[(0,65),(2,66)]} []<| .cl 2 (oC [(7,67)] (jR p s_)) fun r_=> .r<| .cl 0 (Qr r_ s_) fun v0=> .rf 68 [5] [] none 0 []<| .r<| .im (.RP 7 69 108 2 (lT af.ev ([]:List af)))<| .rg {an:=[(0, .map 0 (pJ (aH .i64) ([]:(List (Int × Int)))) (qp (aH .i64) ([]:(List (Int × Int)))) [])],fr:=[(0,70)]} []<| .r<| .lp (σ:=((List af) × (List (Int × Int)) × Int)) (β:=((List af) × (List (Int × Int)))) (([]:List af),([]:(List (Int × Int))),0) [] [] ⟨[2,3,5,8,31],[0,1,2,3,4,5,6,63,64,65,66],fun(u1,u2,u3)=>[(7,(vO 69 false u1.length)),(32,(vI u3))],fun(u1,u2,u3)=>(NJ u1 u2)⟩ ⟨[2,3,5,8],[0,1,2,3,4,5,6,63,64,65,66],fun(u9,u4)=>[(7,(vO 69 false u9.length))],fun(u9,u4)=>(NJ u9 u4)⟩
  (fun(u1,u2,u3)=> .r<| .it (.r<| .a1 (Qc u3 s_)<| .rg {} [0, .t 0 u3 s_.badBus.length]<| .it (.r<| .e (.next (u1,u2,(k3 u3))))
  (.cr 2 (oC [(0,65)] (aP v0 u3)) fun u0=> .r<| .rg {an:=[(2, .look (aM bB u0 u2).isSome (zC u2 u0))]} [.pf ⟨fB [some .i64] 1 1 u2.length (pJ (aH .i64) u2) (qp (aH .i64) u2) [(.int .i64 u0)] [(.d (.int .i64 0))] (aM bB u0 u2).isSome (zC u2 u0),dA (fun _=>rfl) (fun _ _=>rfl) u2 u0 0 rfl rfl rfl⟩]<| .r<| .it (.rg {an:=[(4, .map (Dg u1 u2 u0).length (Kh u1 u2 u0) (Kl u1 u2 u0) [])]} [.pf ⟨lI [some .i64] 1 1 u2.length (pJ (aH .i64) u2) (qp (aH .i64) u2) [(.int .i64 u0)] [(cI (u1.length:Int))] [] (Dg u1 u2 u0).length (Kh u1 u2 u0) (Kl u1 u2 u0),sQ (fun _=>rfl) (fun _ _=>rfl) u2 u0 (u1.length:Int) rfl rfl⟩]<| .a2 (Sk u1) (SG u1)<| .rg {an:=[(2, .arr [(⟨([]:List Int),([]:List Int)⟩:af)].length (jZ 2 [nS,nS])),(3, .rows (BR u1).length (NA u1))],fr:=[(2,95),(3,96)]} [.pf ⟨[(⟨([]:List Int),([]:List Int)⟩:af)].length=1,rfl⟩, .pf ⟨aJ 1 2 (jZ 2 [nS,nS]) (jZ 2 [nS,nS]),fD _ _ _⟩, .e (u1.length),0,1, .pf ⟨(BR u1).length=u1.length+[(⟨([]:List Int),([]:List Int)⟩:af)].length,List.length_append⟩, .pf ⟨qJ u1.length [(⟨([]:List Int),([]:List Int)⟩:af)].length 2 (lT af.ev u1) (jZ 2 [nS,nS]) (NA u1),zH _ _ _ _ _ (by intro i hi j hj;match i,j,hi,hj with|0,0,_,_=>exact⟨rfl,_,_,_,rfl⟩|0,1,_,_=>exact⟨rfl,_,_,_,rfl⟩)⟩]<| .rg {an:=[(2, .look (Mt u1 u2 u0).isSome (Ol u1 u2 u0))]} [.pf ⟨fB [some .i64] 1 1 (Dg u1 u2 u0).length (Kh u1 u2 u0) (Kl u1 u2 u0) [(.int .i64 u0)] [(.d (.int .i64 0))] (Mt u1 u2 u0).isSome (Ol u1 u2 u0),dA (fun _=>rfl) (fun _ _=>rfl) (Dg u1 u2 u0) u0 0 rfl rfl rfl⟩]<| .a3 (R8 u1 u2 u0) (RV u1 u2 u3 u0) (R7 u1 u2 u3 u0)<| .rg {an:=[(6, .take 97),(8, .arr [u3].length (aB (aH .i64) [u3])),(9, .arr (Kn u1 u2 u3 u0).length (MU u1 u2 u3 u0)),(12, .rows 0 (Od u1 u2 u3 u0))],fr:=[(8,98),(9,99)]} [0, .t 0 (Ez u1 u2 u0) (Oi u1), .pf ⟨[u3].length=1,rfl⟩, .pf ⟨aJ 1 1 (Jw u3) (aB (aH .i64) [u3]),(by intro i hi j hj;match i,j,hi,hj with|0,0,_,_=>rfl)⟩, .e (R9 u1 u2 u0),1,2, .pf ⟨(Kn u1 u2 u3 u0).length=(Km u1 u2 u0).length+[u3].length,List.length_append⟩, .pf ⟨aJ (Rj u1 u2 u3 u0) 1 (R4 u1 u2 u3 u0) (MU u1 u2 u3 u0),bH _ _ _ _⟩,0, .t 0 (Ez u1 u2 u0) (Oi u1), .e (Sm u1 u2 u3 u0), .pf ⟨xB (BR u1).length 2 (RO u1 u2 u3 u0) (Od u1 u2 u3 u0),iV _ _ _ _ _ _ _ _ rfl (fun j hj=>(match j,hj with|0,_=>rfl|1,_=>rfl))⟩, .pf ⟨∀i0 j0 c0,(Rs u1 u2 u0)=some (i0,j0,c0)→i0=(Ez u1 u2 u0).toNat∧j0=0,(fun i0 j0 c0 e=>by cases e;exact⟨rfl,rfl⟩)⟩]<| .im (.ll 96 (BR u1) (PV u1 u2 u3 u0))<| .r<| .en (.next (Sw u1 u2 u3 u0)) [] [(96,69)])
  (.rg {an:=[(2, .look (aM bB u0 u2).isSome (zC u2 u0))]} [.pf ⟨fB [some .i64] 1 1 u2.length (pJ (aH .i64) u2) (qp (aH .i64) u2) [(.int .i64 u0)] [(.d (.int .i64 0))] (aM bB u0 u2).isSome (zC u2 u0),dA (fun _=>rfl) (fun _ _=>rfl) u2 u0 0 rfl rfl rfl⟩]<| .a3 (Ow u1 u2 u0) (SF u1 u2 u3 u0) (Sl u1 u2 u3 u0)<| .rg {an:=[(6, .take 100),(8, .arr [u3].length (aB (aH .i64) [u3])),(9, .arr (Ki u1 u2 u3 u0).length (MO u1 u2 u3 u0)),(12, .rows 0 (Oh u1 u2 u3 u0))],fr:=[(8,101),(9,102)]} [0, .t 0 (qA u2 u0) u1.length, .pf ⟨[u3].length=1,rfl⟩, .pf ⟨aJ 1 1 (Jw u3) (aB (aH .i64) [u3]),(by intro i hi j hj;match i,j,hi,hj with|0,0,_,_=>rfl)⟩, .e (Sj u1 u2 u0),1,2, .pf ⟨(Ki u1 u2 u3 u0).length=(Kk u1 u2 u0).length+[u3].length,List.length_append⟩, .pf ⟨aJ (Rm u1 u2 u3 u0) 1 (RQ u1 u2 u3 u0) (MO u1 u2 u3 u0),bH _ _ _ _⟩,0, .t 0 (qA u2 u0) u1.length, .e (R6 u1 u2 u3 u0), .pf ⟨xB u1.length 2 (Si u1 u2 u3 u0) (Oh u1 u2 u3 u0),iV _ _ _ _ _ _ _ _ rfl (fun j hj=>(match j,hj with|0,_=>rfl|1,_=>rfl))⟩, .pf ⟨∀i0 j0 c0,(Ql u1 u2 u0)=some (i0,j0,c0)→i0=(qA u2 u0).toNat∧j0=0,(fun i0 j0 c0 e=>by cases e;exact⟨rfl,rfl⟩)⟩]<| .im (.ll 69 u1 (PL u1 u2 u3 u0))<| .r<| .e (.next (SB u1 u2 u3 u0)))))
  (.e (.done (.brk (u1,u2)))))
  (fun(u9,u4)=> .r<| .lp (σ:=((List af) × Int)) (β:=(List af)) (u9,0) [] [] ⟨[3,5,8,76,77],[0,1,2,3,4,5,6,64,65,66,70],fun(u6,u5)=>[(7,(vO 69 false u6.length)),(78,(vI u5))],fun(u6,u5)=>(NT u6)⟩ ⟨[],[0,1,2,3,4,5,6],fun u8=>[(7,(vO 69 false u8.length))],fun u8=>(NT u8)⟩
  (fun(u6,u5)=> .r<| .it (.a1 (PG u5 p)<| .rg {fr:=[(3,115)],fz:=[115]} []<| .a3 (Qo s_ u5) (QZ s_ u5) (QK s_ u5 p)<| .rg {} [0, .t 0 u5 s_.on_.length,1, .tg 1 [((at' s_.on_ u5.toNat),true)] u5 s_.badSource.length,2, .tg 2 [(RZ s_ u5)] (Mi u5 p) s_.badBus.length]<| .it (.cr 4 (oC [(0,65)] (aP v0 (Mi u5 p))) fun u7=> .rg {an:=[(5, .look (aM bB u7 u4).isSome (zC u4 u7))]} [0, .pf ⟨fB [some .i64] 1 1 u4.length (pJ (aH .i64) u4) (qp (aH .i64) u4) [(.int .i64 u7)] [(.d (.int .i64 0))] (aM bB u7 u4).isSome (zC u4 u7),dA (fun _=>rfl) (fun _ _=>rfl) u4 u7 0 rfl rfl rfl⟩]<| .a3 (Ow u6 u4 u7) (Sz u6 u5 u7 u4) (Oa u6 u5 u7 u4)<| .rg {an:=[(6, .take 116),(8, .arr [u5].length (aB (aH .i64) [u5])),(9, .arr (zA u6 u5 u7 u4).length (DR u6 u5 u7 u4)),(12, .rows 0 (Ff u6 u5 u7 u4))],fr:=[(8,117),(9,118)]} [0, .t 0 (qA u4 u7) u6.length, .pf ⟨[u5].length=1,rfl⟩, .pf ⟨aJ 1 1 (Jw u5) (aB (aH .i64) [u5]),(by intro i hi j hj;match i,j,hi,hj with|0,0,_,_=>rfl)⟩, .e (MR u6 u7 u4),1,2, .pf ⟨(zA u6 u5 u7 u4).length=(zb u6 u7 u4).length+[u5].length,List.length_append⟩, .pf ⟨aJ (RD u6 u5 u7 u4) 1 (M9 u6 u5 u7 u4) (DR u6 u5 u7 u4),bH _ _ _ _⟩,0, .t 0 (qA u4 u7) u6.length, .e (NZ u6 u5 u7 u4), .pf ⟨xB u6.length 2 (NQ u6 u5 u7 u4) (Ff u6 u5 u7 u4),iV _ _ _ _ _ _ _ _ rfl (fun j hj=>(match j,hj with|0,_=>rfl|1,_=>rfl))⟩, .pf ⟨∀i0 j0 c0,(Rf u6 u7 u4)=some (i0,j0,c0)→i0=(qA u4 u7).toNat∧j0=1,(fun i0 j0 c0 e=>by cases e;exact⟨rfl,rfl⟩)⟩]<| .im (.ll 69 u6 (JQ u6 u5 u7 u4))<| .r<| .e (.next (MP u6 u5 u7 u4)))
  (.r<| .e (.next (Js u6 u5))))
  (.e (.done (.brk u6))))
  (fun u8=> .r<| .fz [69]<| .im (.us 4 (vD (.sl none 2 u8.length (fun i j=>PX (lT af.ev u8 i j)))) (vD (aX none 2 af.cell u8)) (xR.v (xS.one (o8.d (mM.sl (.inr rfl) (fun i _ j hj=>match j,hj with|0,_=> .refl _|1,_=> .refl _))))))<| .e u8)))
theorem vo (p:ai) (s_:State):fP Tryz.prog 16 (Gi s_ p) (vR s_) (fun r=>(.iG [(sD (aX none 1 aj r.1)),(sI r.2)])) (fun r=>(vR s_)) (qY p s_):=
  iC tT mX Tryz.func16 (
  .rg {fr:=[(0,14),(1,15)],fz:=[14]} []<| .cr 2 ⟨fun{r_} hr_=>((Fn.KO (frz:=[0,1,2,3,4,5,6]) (p:=[s_.closed.length=s_.closed.length,s_.locked.length=s_.locked.length,s_.badLink.length=s_.badLink.length,s_.on_.length=s_.on_.length,s_.badSource.length=s_.badSource.length,s_.earthed.length=s_.earthed.length,s_.badBus.length=s_.badBus.length]) (Fn.le (args':=(Qu p s_)) (bO p s_ hr_) (by exact⟨xS.refl _,xS.agg ⟨o8.d mM.qW,o8.refl _,o8.refl _,o8.d mM.qW,o8.refl _,o8.refl _,o8.refl _,trivial⟩,trivial⟩)) (by kernel_rfl) ⟨rfl,rfl,rfl,rfl,rfl,rfl,rfl,trivial⟩ rfl):Fn Tryz.prog 11 (Gi s_ p) (vR s_) (vI r_) (vR s_))⟩ fun r_=> .r<| .r<| .it (.r<| .e (([]:List Bool),r_))
  (.a3 ((0:Int)≤p.buses) (NY p) (Nl p)<| .rg {an:=[(2, .arr (tK p).length (Dy p))],fr:=[(2,16)]} [0, .e ((p.buses:Int)),1,2, .pf ⟨(tK p).length=p.buses.toNat,List.length_replicate⟩, .pf ⟨aJ p.buses.toNat 1 (fun _ j=>[(.bool false)].getD j .nilp) (Dy p),pQ _ _ _ _ _ (fun j hj=>(match j,hj with|0,_=>rfl))⟩]<| .cr 2 (rE p s_) fun u1=> .r<| .lp (σ:=((List Bool) × Int)) (β:=(List Bool)) ((tK p),0) [] [] ⟨[23,24],[0,1,2,3,4,5,6],fun(u4,u0)=>[(7,(vO 16 true u4.length)),(25,(vI u0))],fun(u4,u0)=>[(16,some (eT 4 1 aj u4))]⟩ ⟨[],[0,1,2,3,4,5,6],fun u5=>[(7,(vO 16 true u5.length))],fun u5=>[(16,some (eT 4 1 aj u5))]⟩
  (fun(u4,u0)=> .r<| .it (.a1 (LX u0 u1)<| .rg {fr:=[(2,20)]} []<| .rg {fz:=[20]} []<| .lp (σ:=((List Bool) × Int)) (β:=(List Bool)) (u4,0) [] [] ⟨[9,23,24,25,30,31],[0,1,2,3,4,5,6],fun(u2,u3)=>[(7,(vO 16 true u2.length)),(32,(vI u3))],fun(u2,u3)=>[(16,some (eT 4 1 aj u2))]⟩ ⟨[23,24,25],[0,1,2,3,4,5,6],fun u6=>[(7,(vO 16 true u6.length))],fun u6=>[(16,some (eT 4 1 aj u6))]⟩
  (fun(u2,u3)=> .r<| .it (.a1 ((0:Int)≤u3∧u3<(((at' u1 u0.toNat).buses).length:Int))<| .r<| .a1 (QM u1 u0 u3 u2)<| .rg {an:=[(7, .arr 0 (Mv u1 u0 u3 u2))]} [0, .t 0 (JG u1 u0 u3) u2.length, .pf ⟨aJ u2.length 1 (QS u1 u0 u3 u2) (Mv u1 u0 u3 u2),eY _ _ _ _ _ _ _ _ rfl (fun j hj=>(match j,hj with|0,_=>rfl))⟩]<| .im (.ll 16 u2 (Nu u1 u0 u3 u2))<| .r<| .e (.next (QN u1 u0 u3 u2)))
  (.e (.done (.brk u2))))
  (fun u6=> .r<| .e (.next (J4 u0 u6))))
  (.e (.done (.brk u4))))
  (fun u5=> .rg {fz:=[16]} []<| .e (u5,0))))
theorem xM (p:ai) (s_:State):fP Tryz.prog 19 (Gi s_ p) (vR s_) (fun r=>(.iG [(sD (aX none 2 av.cell r.1)),(sI r.2)])) (fun r=>(vR s_)) (su p s_):=
  iC tT mX Tryz.func19 (
  .rg {fr:=[(0,25),(1,26)]} []<| .cr 2 (vo p s_) fun r_=> .r<| .r<| .it (.r<| .e (([]:List av),r_.2))
  (.r<| .r<| .im (.ad 8 43 75 2 (aB av.cell ([]:List av)))<| .lp (σ:=((List av) × Int)) (β:=(List av)) (([]:List av),0) [] [(43,30)] ⟨[6,24,25],[0,1,2,3,4,5,6],fun(u1,u0)=>[(8,(vO 30 false u1.length)),(26,(vI u0))],fun(u1,u0)=>[(30,some (eT 75 2 av.cell u1))]⟩ ⟨[],[0,1,2,3,4,5,6],fun u2=>[(8,(vO 30 false u2.length))],fun u2=>[(30,some (eT 75 2 av.cell u2))]⟩
  (fun(u1,u0)=> .r<| .it (.a1 (NC u0 p)<| .rg {fr:=[(2,39)],fz:=[39]} []<| .rg {fr:=[(0,40)]} []<| .r<| .ul 11<| .r<| .t<| .rg {an:=[(1, .vals (N8 u0 p))]} [.pf ⟨(0:Int)≤0∧(0:Int)<(2:Nat),(by decide)⟩, .pf ⟨0*1+1≤(F5 u0 p).length,Nat.le_of_ble_eq_true rfl⟩, .pf ⟨((F5 u0 p).drop (0*1)).take 1=(N8 u0 p).map .d,rfl⟩]<| .a1 (Qx u0 p r_)<| .rg {} [0, .pf ⟨(0:Int)≤0∧(0:Int)<(2:Nat),(by decide)⟩]<| .r<| .im (.dp [6,8,11,24,25,26,31,32])<| .r<| .t<| .rg {an:=[(1, .vals (Nr u0 p))]} [.pf ⟨(0:Int)≤1∧(1:Int)<(2:Nat),(by decide)⟩, .pf ⟨1*1+1≤(F5 u0 p).length,Nat.le_of_ble_eq_true rfl⟩, .pf ⟨((F5 u0 p).drop (1*1)).take 1=(Nr u0 p).map .d,rfl⟩]<| .a1 (QE u0 p r_)<| .rg {} [0, .pf ⟨(0:Int)≤1∧(1:Int)<(2:Nat),(by decide)⟩]<| .r<| .im (.dp [6,8,11,24,25,26,31,32])<| .r<| .f<| .a2 (Qp u0 p r_ u1) (RF u0 p r_ u1)<| .rg {an:=[(2, .arr [(BK u0 p r_)].length (K8 u0 p r_)),(3, .arr (J5 u0 p r_ u1).length (N7 u0 p r_ u1))],fr:=[(2,41),(3,42)]} [.pf ⟨[(BK u0 p r_)].length=1,rfl⟩, .pf ⟨aJ 1 2 (Rv u0 p r_) (K8 u0 p r_),(by intro i hi j hj;match i,j,hi,hj with|0,0,_,_=>rfl|0,1,_,_=>rfl)⟩, .e (u1.length),0,1, .pf ⟨(J5 u0 p r_ u1).length=u1.length+[(BK u0 p r_)].length,List.length_append⟩, .pf ⟨aJ (OU u0 p r_ u1) 2 (P7 u0 p r_ u1) (N7 u0 p r_ u1),bH _ _ _ _⟩]<| .r<| .en (.next (Ra u0 p r_ u1)) [] [(42,30)])
  (.e (.done (.brk u1))))
  (fun u2=> .rg {fz:=[30]} []<| .e (u2,0))))
theorem mZ (p:ai) (s_:State) (x:Part):fP Tryz.prog 32 [(.agg (k1 p)),(.agg (k24 s_)),(.agg [(cI x.kind),(cI x.index)])] [] (fun r=>(.iG [(.agg [(.d (aX none 1 aj r.1.closed)),(.d (aX none 1 aj r.1.locked)),(.d (aX none 1 aj r.1.badLink)),(.d (aX none 1 aj r.1.on_)),(.d (aX none 1 aj r.1.badSource)),(.d (aX none 1 aj r.1.earthed)),(.d (aX none 1 aj r.1.badBus))]),(sI r.2)])) (fun _=>[]) (o7 p s_ x):=
  iC tT mX Tryz.func32 (
  .rg {fr:=[(0,4),(1,5),(2,6),(3,7)],fz:=[4,5,6]} []<| .cl 3 (xN p s_ x true) fun r_=> .r<| .en (r_.1,r_.2) [7] [])
section
variable (r_:ai) (u0:(State × Int)) (u4:((List af) × Int)) (u2:((List av) × Int)) (u3:(State × Int)) (u1:(State × Int)) (u5:((List av) × Int)) (u9:(ByteArray × Int))
abbrev JC:List CV:=[(cI r_.buses),(.d (aX (some true) 5 Source.cell r_.sources)),(.d (aX (some true) 6 Link.cell r_.links)),(.d (aX (some true) 4 aN.cell r_.racks))]
abbrev Rt:List SV:=[(.agg (JC r_))]
abbrev RL:List SV:=[(.agg (JC r_)),(.agg [(.own 44 true ([true,false].length)),(.own 35 false u0.1.locked.length),(.own 36 false u0.1.badLink.length),(.own 43 true ([true,true].length)),(.own 38 false u0.1.badSource.length),(.own 39 false u0.1.earthed.length),(.own 40 false u0.1.badBus.length)])]
abbrev Rb:=(⟨[true,false],u0.1.locked,u0.1.badLink,[true,true],u0.1.badSource,u0.1.earthed,u0.1.badBus⟩:State)
abbrev Qk:=(bif (bif (!decide (u4.2=0))then true else(!decide (u2.2=0)))then true else(!decide ((u2.1.length:Int)=1)))
abbrev Qn:=((gB [((Qk u4 u2),false)]=true→(0:Int)≤0∧0<(u2.1.length:Int)))
abbrev Kv:List DV:=[(aX (some true) 1 (aH .i64) [0,1]),(aX (some true) 1 (aH .i64) [0]),(aX (some true) 1 (aH .i64) [2]),(aX (some true) 1 (aH .i64) [1])]
abbrev Qj:List (Nat × Option Ob):=[(49,some (.arr 78 2 [(⟨[0,1],[0]⟩:af),(⟨[2],[1]⟩:af)].length (jZ 2 Kv)))]
abbrev Nb:List CV:=[(.d (aX (some true) 1 aj ([true,false].set 1 true))),(.d (aX none 1 aj u0.1.locked)),(.d (aX none 1 aj u0.1.badLink)),(.d (aX (some true) 1 aj [true,true])),(.d (aX none 1 aj u0.1.badSource)),(.d (aX none 1 aj u0.1.earthed)),(.d (aX none 1 aj u0.1.badBus))]
abbrev OX:=(⟨([true,false].set 1 true),u0.1.locked,u0.1.badLink,[true,true],u0.1.badSource,u0.1.earthed,u0.1.badBus⟩:State)
abbrev Qf:List SV:=[(.agg (JC r_)),(.agg [(.d (aX none 1 aj u3.1.closed)),(.d (aX none 1 aj u3.1.locked)),(.d (aX none 1 aj u3.1.badLink)),(.d (aX none 1 aj u3.1.on_)),(.d (aX none 1 aj u3.1.badSource)),(.d (aX none 1 aj u3.1.earthed)),(.d (aX none 1 aj u3.1.badBus))])]
abbrev Mg:List DV:=[(aX (some true) 1 (aH .i64) [0]),(aX (some true) 1 (aH .i64) [0]),(aX (some true) 1 (aH .i64) [1,2]),(aX (some true) 1 (aH .i64) [1])]
abbrev QB:List (Nat × Option Ob):=[(56,some (.arr 78 2 [(⟨[0],[0]⟩:af),(⟨[1,2],[1]⟩:af)].length (jZ 2 Mg)))]
abbrev Qw:=(bif (bif (bif (decide (u1.2=0))then(decide (u5.2=0))else false)then(decide (u9.2=0))else false)then(decide ((u5.1.length:Int)=1))else false)
end
theorem pO:fP Tryz.prog 6 [] [] (fun r=>(vB r)) (fun _=>[]) (mD):=
  iC tT mX Tryz.func6 (
  .r<| .cl 0 (oC [(0,29),(1,30),(2,31),(3,32)] rH) fun r_=> .rg {fr:=[(1,33)],fz:=[29,30,31]} []<| .fz [33]<| .cl 1 (ME (Rt r_) (oC [(0,34),(1,35),(2,36),(3,37),(4,38),(5,39),(6,40),(7,41)] (rz r_))) fun u0=> .rg {fr:=[(5,42)]} []<| .r<| .it (.r<| .e false)
  (.rg {an:=[(0, .arr [true,true].length (aB aj [true,true]))],fr:=[(0,43)]} [.pf ⟨[true,true].length=2,rfl⟩, .pf ⟨aJ 2 1 (jZ 1 [(.bool true),(.bool true)]) (aB aj [true,true]),(by intro i hi j hj;match i,j,hi,hj with|0,0,_,_=>rfl|1,0,_,_=>rfl)⟩]<| .rg {an:=[(0, .arr [true,false].length (aB aj [true,false]))],fr:=[(0,44)]} [.pf ⟨[true,false].length=2,rfl⟩, .pf ⟨aJ 2 1 (jZ 1 [(.bool true),(.bool false)]) (aB aj [true,false]),(by intro i hi j hj;match i,j,hi,hj with|0,0,_,_=>rfl|1,0,_,_=>rfl)⟩]<| .cr 2 (ME (RL r_ u0) (oC [(0,44),(1,35),(2,36),(3,43),(4,38),(5,39),(6,40)] (rD r_ (Rb u0)))) fun u4=> .r<| .cr 2 (ME (RL r_ u0) (oC [(0,44),(1,35),(2,36),(3,43),(4,38),(5,39),(6,40)] (xM r_ (Rb u0)))) fun u2=> .r<| .fk (bif (Qk u4 u2)then true else(!((at' u2.1 0).e0))) (.a1 (Qn u4 u2)<| .rg {ov:=[(18,true,1)],sk:=[19,20,21,22,23,24,25,26,27,28]} [0, .pf ⟨(0:Int)≤0∧(0:Int)<(2:Nat),(by decide)⟩]<| .t<| .r<| .e false)
  (.cr 27 ⟨fun{v0} hr_4=>((Fn.KO (frz:=[49]) (p:=[[(⟨[0,1],[0]⟩:af),(⟨[2],[1]⟩:af)].length=[(⟨[0,1],[0]⟩:af),(⟨[2],[1]⟩:af)].length]) (Fn.le (args':=[(sD (aX none 2 af.cell u4.1)),(sD (.sl (some true) 2 [(⟨[0,1],[0]⟩:af),(⟨[2],[1]⟩:af)].length (jZ 2 Kv)))]) (iL u4.1 [(⟨[0,1],[0]⟩:af),(⟨[2],[1]⟩:af)] hr_4) (by exact⟨xS.refl _,xS.one (o8.d (mM.sl (.inl rfl) (by intro i hi j hj;match i,j,hi,hj with|0,0,_,_=>exact mM.qW|0,1,_,_=>exact mM.qW|1,0,_,_=>exact mM.qW|1,1,_,_=>exact mM.qW))),trivial⟩)) (by kernel_rfl) ⟨rfl,trivial⟩ rfl):Fn Tryz.prog 15 [(sD (aX none 2 af.cell u4.1)),(.one (.own 49 true ([(⟨[0,1],[0]⟩:af),(⟨[2],[1]⟩:af)].length)))] Qj (vB v0) Qj)⟩ fun v0=> .a1 (Qn u4 u2)<| .rg {an:=[(20, .frz [0,1].length (aB (aH .i64) [0,1])),(21, .frz [0].length (aB (aH .i64) [0])),(23, .frz [2].length (aB (aH .i64) [2])),(24, .frz [1].length (aB (aH .i64) [1])),(26, .arr [(⟨[0,1],[0]⟩:af),(⟨[2],[1]⟩:af)].length (jZ 2 Kv))],fr:=[(26,49)],ov:=[(18,false,2)]} [0, .pf ⟨(0:Int)≤0∧(0:Int)<(2:Nat),(by decide)⟩, .pf ⟨[0,1].length=2,rfl⟩, .pf ⟨aJ 2 1 (jZ 1 [(.int .i64 0),(.int .i64 1)]) (aB (aH .i64) [0,1]),(by intro i hi j hj;match i,j,hi,hj with|0,0,_,_=>rfl|1,0,_,_=>rfl)⟩, .pf ⟨[0].length=1,rfl⟩, .pf ⟨aJ 1 1 (jZ 1 [(.int .i64 0)]) (aB (aH .i64) [0]),(by intro i hi j hj;match i,j,hi,hj with|0,0,_,_=>rfl)⟩, .pf ⟨[2].length=1,rfl⟩, .pf ⟨aJ 1 1 (jZ 1 [(.int .i64 2)]) (aB (aH .i64) [2]),(by intro i hi j hj;match i,j,hi,hj with|0,0,_,_=>rfl)⟩, .pf ⟨[1].length=1,rfl⟩, .pf ⟨aJ 1 1 (jZ 1 [(.int .i64 1)]) (aB (aH .i64) [1]),(by intro i hi j hj;match i,j,hi,hj with|0,0,_,_=>rfl)⟩, .pf ⟨[(⟨[0,1],[0]⟩:af),(⟨[2],[1]⟩:af)].length=2,rfl⟩, .pf ⟨aJ 2 2 (jZ 2 Kv) (jZ 2 Kv),fD _ _ _⟩, .k 1]<| .it (.r<| .e false)
  (.a1 ((0:Int)≤1∧1<([true,false].length:Int))<| .rg {an:=[(3, .arr 0 (aB aj ([true,false].set 1 true)))],fz:=[35,36,38,39,40,43,44]} [0, .t 0 1 ([true,false].length), .pf ⟨aJ [true,false].length 1 (oh (aB aj [true,false]) 1 0 [(.bool true)]) (aB aj ([true,false].set 1 true)),eY _ _ _ _ _ _ _ _ rfl (fun j hj=>(match j,hj with|0,_=>rfl))⟩]<| .im (.uh 42 (some (.cells 29 [(.d (.sl (some true) 1 [true,false].length (aB aj ([true,false].set 1 true)))),(.d (aX none 1 aj u0.1.locked)),(.d (aX none 1 aj u0.1.badLink)),(.d (aX (some true) 1 aj [true,true])),(.d (aX none 1 aj u0.1.badSource)),(.d (aX none 1 aj u0.1.earthed)),(.d (aX none 1 aj u0.1.badBus))])) (some (.cells 29 (Nb u0))) (Dr ⟨o8.d (mM.TG (by first|rw [List.length_append,List.length_drop]|simp only [List.length_set,List.length_drop,FL]) (.inr rfl) (fun _ _ _ _=> .refl _)),o8.refl _,o8.refl _,o8.refl _,o8.refl _,o8.refl _,o8.refl _,trivial⟩))<| .fz [42]<| .cl 2 (ME [(.agg (JC r_)),(.agg (Nb u0))] (om r_ (OX u0))) fun u6=> .r<| .cl 3 (ME [(.agg (JC r_)),(.agg (Nb u0)),(.agg [(cI 3),(cI 0)])] (mZ r_ (OX u0) (⟨3,0⟩:Part))) fun u3=> .rg {fr:=[(7,50)],fz:=[50]} []<| .cl 2 (ME (Qf r_ u3) (ol r_ u3.1)) fun u7=> .r<| .fk (bif (bif (!decide (u6.2=0))then true else(!decide (u3.2=0)))then true else(!decide (u7.2=0))) (.rg {ov:=[(10,true,0)],sk:=[11,12,13,14,15,18,19,20,21,22,23,24,25,26,27]} []<| .t<| .r<| .e false)
  (.cr 14 ⟨fun{u8} hr_8=>((Fn.KO (frz:=[51]) (p:=[[(⟨0,1⟩:ah)].length=[(⟨0,1⟩:ah)].length]) (Fn.le (args':=[(sD (aX none 2 ah.cell u6.1)),(sD (aX (some true) 2 ah.cell [(⟨0,1⟩:ah)]))]) (mI u6.1 [(⟨0,1⟩:ah)] hr_8) (by exact⟨xS.refl _,xS.one (o8.d mM.qW),trivial⟩)) (by kernel_rfl) ⟨rfl,trivial⟩ rfl):Fn Tryz.prog 24 [(sD (aX none 2 ah.cell u6.1)),(.one (.own 51 true ([(⟨0,1⟩:ah)].length)))] [(51,some (eT 79 2 ah.cell [(⟨0,1⟩:ah)]))] (vB u8) [(51,some (eT 79 2 ah.cell [(⟨0,1⟩:ah)]))])⟩ fun u8=> .fk (!u8) (.rg {an:=[(13, .arr [(⟨0,1⟩:ah)].length (aB ah.cell [(⟨0,1⟩:ah)]))],fr:=[(13,51)],ov:=[(10,false,2),(17,true,0)],sk:=[18,19,20,21,22,23,24,25,26,27]} [.pf ⟨[(⟨0,1⟩:ah)].length=1,rfl⟩, .pf ⟨aJ 1 2 (jZ 2 [(.int .i64 0),(.int .i64 1)]) (aB ah.cell [(⟨0,1⟩:ah)]),(by intro i hi j hj;match i,j,hi,hj with|0,0,_,_=>rfl|0,1,_,_=>rfl)⟩, .k 1]<| .t<| .r<| .e false)
  (.cr 26 ⟨fun{v1} hr_9=>((Fn.KO (frz:=[56]) (p:=[[(⟨[0],[0]⟩:af),(⟨[1,2],[1]⟩:af)].length=[(⟨[0],[0]⟩:af),(⟨[1,2],[1]⟩:af)].length]) (Fn.le (args':=[(sD (aX none 2 af.cell u7.1)),(sD (.sl (some true) 2 [(⟨[0],[0]⟩:af),(⟨[1,2],[1]⟩:af)].length (jZ 2 Mg)))]) (iL u7.1 [(⟨[0],[0]⟩:af),(⟨[1,2],[1]⟩:af)] hr_9) (by exact⟨xS.refl _,xS.one (o8.d (mM.sl (.inl rfl) (by intro i hi j hj;match i,j,hi,hj with|0,0,_,_=>exact mM.qW|0,1,_,_=>exact mM.qW|1,0,_,_=>exact mM.qW|1,1,_,_=>exact mM.qW))),trivial⟩)) (by kernel_rfl) ⟨rfl,trivial⟩ rfl):Fn Tryz.prog 15 [(sD (aX none 2 af.cell u7.1)),(.one (.own 56 true ([(⟨[0],[0]⟩:af),(⟨[1,2],[1]⟩:af)].length)))] QB (vB v1) QB)⟩ fun v1=> .rg {an:=[(13, .arr [(⟨0,1⟩:ah)].length (aB ah.cell [(⟨0,1⟩:ah)])),(19, .frz [0].length (aB (aH .i64) [0])),(20, .frz [0].length (aB (aH .i64) [0])),(22, .frz [1,2].length (aB (aH .i64) [1,2])),(23, .frz [1].length (aB (aH .i64) [1])),(25, .arr [(⟨[0],[0]⟩:af),(⟨[1,2],[1]⟩:af)].length (jZ 2 Mg))],fr:=[(13,51),(25,56)],ov:=[(10,false,3),(17,false,1)]} [.pf ⟨[(⟨0,1⟩:ah)].length=1,rfl⟩, .pf ⟨aJ 1 2 (jZ 2 [(.int .i64 0),(.int .i64 1)]) (aB ah.cell [(⟨0,1⟩:ah)]),(by intro i hi j hj;match i,j,hi,hj with|0,0,_,_=>rfl|0,1,_,_=>rfl)⟩, .k 2, .pf ⟨[0].length=1,rfl⟩, .pf ⟨aJ 1 1 (jZ 1 [(.int .i64 0)]) (aB (aH .i64) [0]),(by intro i hi j hj;match i,j,hi,hj with|0,0,_,_=>rfl)⟩, .pf ⟨[0].length=1,rfl⟩, .pf ⟨aJ 1 1 (jZ 1 [(.int .i64 0)]) (aB (aH .i64) [0]),(by intro i hi j hj;match i,j,hi,hj with|0,0,_,_=>rfl)⟩, .pf ⟨[1,2].length=2,rfl⟩, .pf ⟨aJ 2 1 (jZ 1 yj) (aB (aH .i64) [1,2]),(by intro i hi j hj;match i,j,hi,hj with|0,0,_,_=>rfl|1,0,_,_=>rfl)⟩, .pf ⟨[1].length=1,rfl⟩, .pf ⟨aJ 1 1 (jZ 1 [(.int .i64 1)]) (aB (aH .i64) [1]),(by intro i hi j hj;match i,j,hi,hj with|0,0,_,_=>rfl)⟩, .pf ⟨[(⟨[0],[0]⟩:af),(⟨[1,2],[1]⟩:af)].length=2,rfl⟩, .pf ⟨aJ 2 2 (jZ 2 Mg) (jZ 2 Mg),fD _ _ _⟩, .k 0]<| .it (.r<| .e false)
  (.cl 3 (ME [(.agg (JC r_)),(.agg (Nb u0)),(.agg [(cI 1),(cI 1)])] (mZ r_ (OX u0) (⟨1,1⟩:Part))) fun u1=> .rg {fr:=[(7,57)],fz:=[57]} []<| .cl 2 (ME (Qf r_ u1) (sM r_ u1.1)) fun u5=> .r<| .cl 1 (ME (Rt r_) ⟨fun h=>wI r_ h⟩) fun u9=> .r<| .a1 ((gB [((Qw u1 u5 u9),true)]=true→(0:Int)≤0∧0<(u5.1.length:Int)))<| .rg {} [0, .pf ⟨(0:Int)≤0∧(0:Int)<(2:Nat),(by decide)⟩]<| .e (bif (bif (Qw u1 u5 u9)then(!((at' u5.1 0).e0))else false)then((u9.1:ByteArray).toList==(⟨#[112,108,97,110,116,32,51,10,115,111,117,114,99,101,32,48,32,103,114,105,100,32,53,48,48,32,48,32,50,48,10,115,111,117,114,99,101,32,50,32,103,101,110,101,114,97,116,111,114,32,51,48,48,32,48,32,52,48,10,108,105,110,107,32,48,32,49,32,98,114,101,97,107,101,114,32,52,48,48,32,49,48,32,49,48,48,48,58,52,48,48,32,53,48,48,48,58,53,48,10,108,105,110,107,32,49,32,50,32,98,114,101,97,107,101,114,32,52,48,48,32,49,48,10,114,97,99,107,32,49,32,45,49,32,49,48,48,32,49,10]⟩:ByteArray).toList)else false))))))))
theorem rJ (l:(List bX)):fP Tryz.prog 95 [(sD (aX none 2 bX.cell l))] [] (fun r=>(vO 0 false r.length)) (fun r=>[(0,some (eT 119 2 bX.cell r))]) (mU l):=
  iC tT mX Tryz.func95 (
  .r<| .r<| .a2 (l.length*16≤140737488355328) (l.length≤4611686018427387904)<| .rg {an:=[(2, .arr l.length (aB bX.cell l))],fr:=[(2,1)]} [0,1, .e (l.length), .pf ⟨aJ l.length 2 (aB bX.cell l) (aB bX.cell l),fD _ _ _⟩]<| .en l [] [(1,0)])
theorem xL (x:Link):fP Tryz.prog 73 [(.agg (k13 x))] [] (fun r=>(.v (.agg [(cI r.a),(cI r.b),(cI r.kind),(cI r.most),(cI r.ohm),(.d (aX none 2 bX.cell r.trip))]))) (fun _=>[]) (lq x):=
  iC tT mX Tryz.func73 (
  .rg {fr:=[(0,3),(1,4)]} []<| .cl 12 (oC [(0,5)] (rJ x.trip)) fun r_=> .rg {fz:=[5]} []<| .fz [4]<| .e (⟨x.a,x.b,x.kind,x.most,x.ohm,r_⟩:Link))
theorem pI (l:(List Source)):fP Tryz.prog 37 [(sD (k6 l))] [] (fun r=>(vO 0 false r.length)) (fun r=>[(0,some (eT 90 5 Source.cell r))]) (kY l):=
  iC tT mX Tryz.func37 (
  .r<| .r<| .a2 (l.length*40≤140737488355328) (l.length≤4611686018427387904)<| .rg {an:=[(2, .arr l.length (aB Source.cell l))],fr:=[(2,1)]} [0,1, .e (l.length), .pf ⟨aJ l.length 5 (aB Source.cell l) (aB Source.cell l),fD _ _ _⟩]<| .en l [] [(1,0)])
theorem rA (l:(List Link)):fP Tryz.prog 38 [(sD (aX none 6 Link.cell l))] [] (fun r=>(vO 0 false r.length)) (fun r=>[(0,some (eT 73 6 Link.cell r))]) (ko l):=
  iC tT mX Tryz.func38 (
  .r<| .r<| .r<| .im (.ad 3 16 73 6 (aB Link.cell ([]:List Link)))<| .lp (σ:=((List Link) × Int)) (β:=(List Link)) (([]:List Link),0) [] [(16,9)] ⟨[0],[],fun(u0,i)=>[(3,(vO 9 false u0.length)),(4,(vI i))],fun(u0,i)=>[(9,some (eT 73 6 Link.cell u0))]⟩ ⟨[],[],fun u1=>[(3,(vO 9 false u1.length))],fun u1=>[(9,some (eT 73 6 Link.cell u1))]⟩
  (fun(u0,i)=> .r<| .it (.cl 5 (xL (at' l i.toNat)) fun r_=> .a3 (k17 l i) ((u0.length+[r_].length)*64≤140737488355328) (u0.length+[r_].length≤4611686018427387904)<| .rg {an:=[(6, .arr [r_].length (aB Link.cell [r_])),(7, .arr (u0++[r_]).length (aB Link.cell (u0++[r_])))],fr:=[(6,14),(7,15)]} [0,3, .pf ⟨[r_].length=1,rfl⟩, .pf ⟨aJ 1 6 (jZ 6 [(.int .i64 r_.a),(.int .i64 r_.b),(.int .i64 r_.kind),(.int .i64 r_.most),(.int .i64 r_.ohm),(aX none 2 bX.cell r_.trip)]) (aB Link.cell [r_]),(by intro i hi j hj;match i,j,hi,hj with|0,0,_,_=>rfl|0,1,_,_=>rfl|0,2,_,_=>rfl|0,3,_,_=>rfl|0,4,_,_=>rfl|0,5,_,_=>rfl)⟩, .e (u0.length),1,2, .pf ⟨(u0++[r_]).length=u0.length+[r_].length,List.length_append⟩, .pf ⟨aJ (u0.length+[r_].length) 6 (rR (aB Link.cell u0) u0.length (aB Link.cell [r_])) (aB Link.cell (u0++[r_])),bH _ _ _ _⟩]<| .r<| .en (.next ((u0++[r_]),(k3 i))) [] [(15,9)])
  (.e (.done (.brk u0))))
  (fun u1=> .r<| .en u1 [] [(9,0)]))
theorem rq (l:(List aN)):fP Tryz.prog 39 [(sD (aX none 4 aN.cell l))] [] (fun r=>(vO 0 false r.length)) (fun r=>[(0,some (eT 98 4 aN.cell r))]) (mV l):=
  iC tT mX Tryz.func39 (
  .r<| .r<| .a2 (l.length*32≤140737488355328) (l.length≤4611686018427387904)<| .rg {an:=[(2, .arr l.length (aB aN.cell l))],fr:=[(2,1)]} [0,1, .e (l.length), .pf ⟨aJ l.length 4 (aB aN.cell l) (aB aN.cell l),fD _ _ _⟩]<| .en l [] [(1,0)])
theorem bI (l:(List Bool)):fP Tryz.prog 40 [(sD (aX none 1 aj l))] [] (fun r=>(vO 0 false r.length)) (fun r=>[(0,some (eT 4 1 aj r))]) (bL l):=
  iC tT mX Tryz.func40 (
  .r<| .r<| .a2 (l.length*1≤140737488355328) (l.length≤4611686018427387904)<| .rg {an:=[(2, .arr l.length (aB aj l))],fr:=[(2,1)]} [0,1, .e (l.length), .pf ⟨aJ l.length 1 (aB aj l) (aB aj l),fD _ _ _⟩]<| .en l [] [(1,0)])
theorem zB (p:ai) (x:Link):fP Tryz.prog 48 [(.agg (k1 p)),(.agg (k13 x))] [] (fun r=>(vB r)) (fun _=>[]) (nI p x):=
  iC tT mX Tryz.func48 (
  .rg {fr:=[(0,6),(1,7)],fz:=[6]} []<| .r<| .it (.r<| .e false)
  (.r<| .it (.r<| .e false)
  (.r<| .lp (σ:=Int) (β:=Unit) (0) [] [] ⟨[3],[7],fun i=>[(5,(vI i))],fun i=>[]⟩ ⟨[],[],fun _=>[],fun _=>[]⟩
  (fun i=> .r<| .it (.a1 ((0:Int)≤i∧i<(x.trip.length:Int))<| .rg {fr:=[(5,11)],fz:=[11]} []<| .r<| .it (.r<| .e (.done (.ret false)))
  (.a2 ((gB [((decide (0<i)),true)]=true→(0:Int)≤(k7 i)∧(k7 i)<(x.trip.length:Int))) ((gB [(k14 x i),((decide (0<i)),true)]=true→(0:Int)≤(k7 i)∧(k7 i)<(x.trip.length:Int)))<| .rg {} [0,1]<| .it (.r<| .e (.done (.ret false)))
  (.r<| .e (.next (k3 i)))))
  (.e (.done (.brk ()))))
  (fun _=> .r<| .e true))))
theorem pz (p:ai):fP Tryz.prog 10 (k0 p) [] (fun r=>(vI r)) (fun _=>[]) (jV p):=
  iC tT mX Tryz.func10 (
  .rg {fr:=[(0,9)]} []<| .r<| .it (.r<| .e 10)
  (.r<| .it (.r<| .e 11)
  (.r<| .lp (σ:=Int) (β:=Unit) (0) [] [] ⟨[1],[9],fun i=>[(3,(vI i))],fun i=>[]⟩ ⟨[1],[9],fun _=>[],fun _=>[]⟩
  (fun i=> .r<| .it (.a1 (PG i p)<| .rg {fr:=[(5,13)],fz:=[13]} []<| .r<| .it (.r<| .e (.done (.ret 11)))
  (.r<| .e (.next (k3 i))))
  (.e (.done (.brk ()))))
  (fun _=> .r<| .it (.r<| .e 12)
  (.r<| .lp (σ:=Int) (β:=Unit) (0) [] [] ⟨[1],[9],fun i1=>[(5,(vI i1))],fun i1=>[]⟩ ⟨[1],[9],fun _=>[],fun _=>[]⟩
  (fun i1=> .r<| .it (.cl 6 (zB p (at' p.links i1.toNat)) fun r_=> .a1 (k2 p i1)<| .rg {} [0,1]<| .it (.r<| .e (.done (.ret 12)))
  (.r<| .e (.next (k3 i1))))
  (.e (.done (.brk ()))))
  (fun _=> .r<| .it (.r<| .e 13)
  (.r<| .lp (σ:=Int) (β:=Unit) (0) [] [] ⟨[1],[9],fun i2=>[(6,(vI i2))],fun i2=>[]⟩ ⟨[],[],fun _=>[],fun _=>[]⟩
  (fun i2=> .r<| .it (.a1 (NC i2 p)<| .rg {fr:=[(5,17)],fz:=[17]} []<| .rg {} [.pf ⟨(0:Int)≤0∧(0:Int)<(2:Nat),(by decide)⟩, .pf ⟨(0:Int)≤1∧(1:Int)<(2:Nat),(by decide)⟩]<| .r<| .r<| .it (.r<| .r<| .it (.r<| .e (.done (.ret 13)))
  (.r<| .e (.next (k3 i2))))
  (.r<| .it (.r<| .e (.done (.ret 13)))
  (.r<| .e (.next (k3 i2)))))
  (.e (.done (.brk ()))))
  (fun _=> .r<| .e 0))))))))
theorem xY (p:ai) (s_:State):fP Tryz.prog 49 (k23 s_ p) [] (fun r=>(vB r)) (fun _=>[]) (mr p s_):=
  iC tT mX Tryz.func49 (
  .rg {fr:=[(0,2),(1,3)],fz:=[2,3]} []<| .r<| .r<| .it (.r<| .e false)
  (.r<| .lp (σ:=Int) (β:=Unit) (0) [] [] ⟨[2,3,5],[],fun i=>[(8,(vI i))],fun i=>[]⟩ ⟨[],[],fun _=>[],fun _=>[]⟩
  (fun i=> .r<| .it (.a3 (k2 p i) (TD s_ p i) (TY s_ p i)<| .rg {} [0,1,2]<| .it (.r<| .e (.done (.ret false)))
  (.r<| .e (.next (k3 i))))
  (.e (.done (.brk ()))))
  (fun _=> .r<| .e true)))
theorem fF (p:ai) (s_:State):fP Tryz.prog 12 (k23 s_ p) [] (fun r=>(vI r)) (fun _=>[]) (bK p s_):=
  iC tT mX Tryz.func12 (
  .rg {fr:=[(0,2),(1,3)],fz:=[2,3]} []<| .cl 1 (pz p) fun r_=> .r<| .cg 5 [((decide (r_=0)),true)] (xY p s_) fun u0=> .r<| .it (.r<| .r<| .e 9)
  (.r<| .e r_))
section
variable (p:ai) (s_:State) (i:Int)
abbrev Pg:List SV:=[(.agg (k1 p)),(.agg (k24 s_)),(sI i)]
abbrev Rq:=(bif (OH s_ i)then(!(at' s_.badBus (((at' p.links i.toNat).a).toNat)))else false)
abbrev QX:=((Rq p s_ i),true)
end
theorem uw (p:ai) (s_:State) (i:Int):fP Tryz.prog 87 (Pg p s_ i) [] (fun r=>(vB r)) (fun _=>[]) (jO p s_ i):=
  iC tT mX Tryz.func87 (
  .rg {fr:=[(0,2),(1,3)],fz:=[2,3]} []<| .a6 ((0:Int)≤i∧i<(s_.closed.length:Int)) (OJ s_ i) ((gB [(LM s_ i)]=true→(0:Int)≤i∧i<(p.links.length:Int))) ((gB [(LM s_ i)]=true→(0:Int)≤(at' p.links i.toNat).a∧(at' p.links i.toNat).a<(s_.badBus.length:Int))) ((gB [(QX p s_ i)]=true→(0:Int)≤i∧i<(p.links.length:Int))) ((gB [(QX p s_ i)]=true→(0:Int)≤(at' p.links i.toNat).b∧(at' p.links i.toNat).b<(s_.badBus.length:Int)))<| .rg {} [0,1,2,3,4,5]<| .e (bif (Rq p s_ i)then(!(at' s_.badBus (((at' p.links i.toNat).b).toNat)))else false))
section
variable (p:ai) (b:Int) (u0:(List Bool)) (i:Int)
abbrev M4:=((tK p).set b.toNat true)
abbrev Iq:=(u0.set (((at' p.links i.toNat).a).toNat) true)
abbrev OQ:=(aB aj (Iq p u0 i))
abbrev Py:=((Iq p u0 i).set (((at' p.links i.toNat).b).toNat) true)
abbrev QD:=(aB aj (Py p u0 i))
end
theorem mh (p:ai) (s_:State) (b:Int):fP Tryz.prog 51 (Pg p s_ b) [] (fun r=>(vD (aX none 1 aj r))) (fun _=>[]) (eP p s_ b):=
  iC tT mX Tryz.func51 (
  .rg {fr:=[(0,19),(1,20)],fz:=[20]} []<| .a3 ((0:Int)≤p.buses) (NY p) (Nl p)<| .rg {an:=[(2, .arr (tK p).length (Dy p))],fr:=[(2,21)]} [0, .e ((p.buses:Int)),1,2, .pf ⟨(tK p).length=p.buses.toNat,List.length_replicate⟩, .pf ⟨aJ p.buses.toNat 1 (fun _ j=>[(.bool false)].getD j .nilp) (Dy p),pQ _ _ _ _ _ (fun j hj=>(match j,hj with|0,_=>rfl))⟩]<| .a1 ((0:Int)≤b∧b<((tK p).length:Int))<| .rg {an:=[(3, .arr 0 (aB aj (M4 p b)))]} [0, .t 0 b ((tK p).length), .pf ⟨aJ (tK p).length 1 (oh (Dy p) b.toNat 0 [(.bool true)]) (aB aj (M4 p b)),eY _ _ _ _ _ _ _ _ rfl (fun j hj=>(match j,hj with|0,_=>rfl))⟩]<| .im (.ll 21 (tK p) (M4 p b))<| .r<| .lp (σ:=((List Bool) × Int)) (β:=(List Bool)) ((M4 p b),0) [] [] ⟨[3,4],[19],fun(u1,n)=>[(7,(vO 21 true u1.length)),(8,(vI n))],fun(u1,n)=>[(21,some (eT 4 1 aj u1))]⟩ ⟨[],[],fun u2=>[(7,(vO 21 true u2.length))],fun u2=>[(21,some (eT 4 1 aj u2))]⟩
  (fun(u1,n)=> .r<| .it (.r<| .lp (σ:=((List Bool) × Int)) (β:=(List Bool)) (u1,0) [] [] ⟨[3,4,8],[19],fun(u0,i)=>[(7,(vO 21 true u0.length)),(9,(vI i))],fun(u0,i)=>[(21,some (eT 4 1 aj u0))]⟩ ⟨[3,4,8],[19],fun u3=>[(7,(vO 21 true u3.length))],fun u3=>[(21,some (eT 4 1 aj u3))]⟩
  (fun(u0,i)=> .r<| .it (.a1 (k2 p i)<| .rg {fr:=[(5,37)]} []<| .cl 3 (uw p s_ i) fun r_=> .a2 ((gB [(r_,true)]=true→(0:Int)≤(at' p.links i.toNat).a∧(at' p.links i.toNat).a<(u0.length:Int))) ((gB [((at' u0 (((at' p.links i.toNat).a).toNat)),false),(r_,true)]=true→(0:Int)≤(at' p.links i.toNat).b∧(at' p.links i.toNat).b<(u0.length:Int)))<| .rg {} [2,0, .tg 0 [(r_,true)] ((at' p.links i.toNat).a) u0.length,1, .tg 1 [((at' u0 (((at' p.links i.toNat).a).toNat)),false),(r_,true)] ((at' p.links i.toNat).b) u0.length]<| .it (.a1 ((0:Int)≤(at' p.links i.toNat).a∧(at' p.links i.toNat).a<(u0.length:Int))<| .rg {an:=[(4, .arr 0 (OQ p u0 i))]} [0, .t 0 ((at' p.links i.toNat).a) u0.length, .pf ⟨aJ u0.length 1 (oh (aB aj u0) (((at' p.links i.toNat).a).toNat) 0 [(.bool true)]) (OQ p u0 i),eY _ _ _ _ _ _ _ _ rfl (fun j hj=>(match j,hj with|0,_=>rfl))⟩]<| .im (.ll 21 u0 (Iq p u0 i))<| .a1 ((0:Int)≤(at' p.links i.toNat).b∧(at' p.links i.toNat).b<((Iq p u0 i).length:Int))<| .rg {an:=[(4, .arr 0 (QD p u0 i))]} [0, .t 0 ((at' p.links i.toNat).b) ((Iq p u0 i).length), .pf ⟨aJ (Iq p u0 i).length 1 (oh (OQ p u0 i) (((at' p.links i.toNat).b).toNat) 0 [(.bool true)]) (QD p u0 i),eY _ _ _ _ _ _ _ _ rfl (fun j hj=>(match j,hj with|0,_=>rfl))⟩]<| .im (.ll 21 (Iq p u0 i) (Py p u0 i))<| .r<| .e (.next ((Py p u0 i),(k3 i))))
  (.r<| .e (.next (J4 i u0))))
  (.e (.done (.brk u0))))
  (fun u3=> .r<| .e (.next (J4 n u3))))
  (.e (.done (.brk u1))))
  (fun u2=> .rg {fz:=[21]} []<| .e u2))
theorem jJ (p:ai) (s_:State) (kz:Int):fP Tryz.prog 52 (Pg p s_ kz) [] (fun r=>(vB r)) (fun _=>[]) (gM p s_ kz):=
  iC tT mX Tryz.func52 (
  .rg {fr:=[(0,2),(1,3)],fz:=[2,3]} []<| .a4 (Qo s_ kz) (QZ s_ kz) ((gB [(RZ s_ kz)]=true→(0:Int)≤kz∧kz<(p.sources.length:Int))) (QK s_ kz p)<| .rg {} [0,1,2,3]<| .e (bif (bif (at' s_.on_ kz.toNat)then(!(at' s_.badSource kz.toNat))else false)then(!(at' s_.badBus ((Mi kz p).toNat)))else false))
section
variable (x0:(List Int)) (u0:(List Int)) (x1:(List Int))
abbrev Qz:List (Nat × Option Ob):=[(137,some (.cells 78 [(.own 139 false x0.length),(.d nS)])),(139,some (eT 3 1 (aH .i64) x0))]
abbrev P9:List (Nat × Option Ob):=[(137,some (.cells 78 [(.own 139 false u0.length),(.own 148 false x1.length)])),(148,some (eT 3 1 (aH .i64) x1))]
end
theorem vL (p:ai) (s_:State):fP Tryz.prog 14 (k23 s_ p) [] (fun r=>(.iG [(sD (aX none 2 af.cell r.1)),(sI r.2)])) (fun _=>[]) (fZ p s_):=
  iC tT mX Tryz.func14 (
  .rg {fr:=[(0,78),(1,79)],fz:=[78,79]} []<| .cl 2 (fF p s_) fun r_=> .r<| .r<| .it (.r<| .e (([]:List af),r_))
  (.r<| .r<| .im (.ad 7 158 78 2 (aB af.cell ([]:List af)))<| .lp (σ:=((List af) × Int)) (β:=(List af)) (([]:List af),0) [] [(158,98)] ⟨[2,3],[],fun(u1,b)=>[(7,(vO 98 false u1.length)),(8,(vI b))],fun(u1,b)=>[(98,some (eT 78 2 af.cell u1))]⟩ ⟨[],[],fun u3=>[(7,(vO 98 false u3.length))],fun u3=>[(98,some (eT 78 2 af.cell u3))]⟩
  (fun(u1,b)=> .r<| .it (.a1 (Qc b s_)<| .r<| .it (.r<| .e (.next (Js u1 b)))
  (.cl 3 (mh p s_ b) fun u4=> .r<| .rg {fr:=[(0,137)]} []<| .r<| .im (.ML 137 0 146 3 1 (aB (aH .i64) ([]:List Int)))<| .lp (σ:=((List Int) × Int)) (β:=(List Int)) (([]:List Int),0) [] [(146,139)] ⟨[2,3,7,8,9,10],[98],fun(x0,c)=>[(11,(vI c))],fun(x0,c)=>(Qz x0)⟩ ⟨[2,3,7,8,9,10],[98],fun u0=>[],fun u0=>(Qz u0)⟩
  (fun(x0,c)=> .r<| .it (.a1 (O5 u4 c)<| .r<| .it (.a2 ((x0.length+[c].length)*8≤140737488355328) (x0.length+[c].length≤4611686018427387904)<| .rg {an:=[(3, .arr [c].length (aB (aH .i64) [c])),(4, .arr (x0++[c]).length (aB (aH .i64) (x0++[c])))],fr:=[(3,144),(4,145)]} [.pf ⟨[c].length=1,rfl⟩, .pf ⟨aJ 1 1 (jZ 1 [(.int .i64 c)]) (aB (aH .i64) [c]),(by intro i hi j hj;match i,j,hi,hj with|0,0,_,_=>rfl)⟩, .e (x0.length),0,1, .pf ⟨(x0++[c]).length=x0.length+[c].length,List.length_append⟩, .pf ⟨aJ (x0.length+[c].length) 1 (rR (aB (aH .i64) x0) x0.length (aB (aH .i64) [c])) (aB (aH .i64) (x0++[c])),bH _ _ _ _⟩]<| .r<| .en (.next ((x0++[c]),(k3 c))) [] [(145,139)])
  (.r<| .e (.next (x0,(k3 c)))))
  (.e (.done (.brk x0))))
  (fun u0=> .a1 ((0:Int)≤0∧0<(u0.length:Int))<| .rg {} [0, .t 0 0 u0.length]<| .it (.r<| .e (.next (Js u1 b)))
  (.r<| .im (.ML 137 1 155 3 1 (aB (aH .i64) ([]:List Int)))<| .lp (σ:=((List Int) × Int)) (β:=(List Int)) (([]:List Int),0) [] [(155,148)] ⟨[2,3,7,8,9,10],[98,139],fun(x1,kz)=>[(12,(vI kz))],fun(x1,kz)=>(P9 u0 x1)⟩ ⟨[2,3,7,8,10],[98,139],fun u2=>[],fun u2=>(P9 u0 u2)⟩
  (fun(x1,kz)=> .r<| .it (.cl 3 (jJ p s_ kz) fun u5=> .a2 ((gB [(u5,true)]=true→(0:Int)≤kz∧kz<(p.sources.length:Int))) ((gB [(u5,true)]=true→(0:Int)≤(at' p.sources kz.toNat).bus∧(at' p.sources kz.toNat).bus<(u4.length:Int)))<| .rg {} [2,0,1]<| .it (.a2 ((x1.length+[kz].length)*8≤140737488355328) (x1.length+[kz].length≤4611686018427387904)<| .rg {an:=[(3, .arr [kz].length (aB (aH .i64) [kz])),(4, .arr (x1++[kz]).length (aB (aH .i64) (x1++[kz])))],fr:=[(3,153),(4,154)]} [.pf ⟨[kz].length=1,rfl⟩, .pf ⟨aJ 1 1 (Jw kz) (aB (aH .i64) [kz]),(by intro i hi j hj;match i,j,hi,hj with|0,0,_,_=>rfl)⟩, .e (x1.length),0,1, .pf ⟨(x1++[kz]).length=x1.length+[kz].length,List.length_append⟩, .pf ⟨aJ (x1.length+[kz].length) 1 (rR (aB (aH .i64) x1) x1.length (aB (aH .i64) [kz])) (aB (aH .i64) (x1++[kz])),bH _ _ _ _⟩]<| .r<| .en (.next ((x1++[kz]),(k3 kz))) [] [(154,148)])
  (.r<| .e (.next (x1,(k3 kz)))))
  (.e (.done (.brk x1))))
  (fun u2=> .fz [139,148]<| .a2 ((u1.length+[(⟨u0,u2⟩:af)].length)*48≤140737488355328) (u1.length+[(⟨u0,u2⟩:af)].length≤4611686018427387904)<| .rg {an:=[(2, .arr [(⟨u0,u2⟩:af)].length (aB af.cell [(⟨u0,u2⟩:af)])),(3, .arr (u1++[(⟨u0,u2⟩:af)]).length (aB af.cell (u1++[(⟨u0,u2⟩:af)])))],fr:=[(2,156),(3,157)]} [.pf ⟨[(⟨u0,u2⟩:af)].length=1,rfl⟩, .pf ⟨aJ 1 2 (jZ 2 [(aX none 1 (aH .i64) u0),(aX none 1 (aH .i64) u2)]) (aB af.cell [(⟨u0,u2⟩:af)]),(by intro i hi j hj;match i,j,hi,hj with|0,0,_,_=>rfl|0,1,_,_=>rfl)⟩, .e (u1.length),0,1, .pf ⟨(u1++[(⟨u0,u2⟩:af)]).length=u1.length+[(⟨u0,u2⟩:af)].length,List.length_append⟩, .pf ⟨aJ (u1.length+[(⟨u0,u2⟩:af)].length) 2 (rR (aB af.cell u1) u1.length (aB af.cell [(⟨u0,u2⟩:af)])) (aB af.cell (u1++[(⟨u0,u2⟩:af)])),bH _ _ _ _⟩]<| .r<| .en (.next ((u1++[(⟨u0,u2⟩:af)]),(k3 b))) [] [(157,98)])))))
  (.e (.done (.brk u1))))
  (fun u3=> .rg {fz:=[98]} []<| .e (u3,0))))
section
variable (u0:(List Bool)) (b:Int) (u2:(List Bool))
abbrev NW:=(u0.set b.toNat (bif (at' u0 b.toNat)then true else(at' u2 b.toNat)))
end
theorem qP (p:ai) (s_:State):fP Tryz.prog 17 (k23 s_ p) [] (fun r=>(.iG [(sD (aX none 1 aj r.1)),(sI r.2)])) (fun _=>[]) (dP p s_):=
  iC tT mX Tryz.func17 (
  .rg {fr:=[(0,3),(1,4)],fz:=[3,4]} []<| .cl 2 (fF p s_) fun r_=> .r<| .r<| .it (.r<| .e (([]:List Bool),r_))
  (.a3 ((0:Int)≤p.buses) (NY p) (Nl p)<| .rg {an:=[(2, .arr (tK p).length (Dy p))],fr:=[(2,5)]} [0, .e ((p.buses:Int)),1,2, .pf ⟨(tK p).length=p.buses.toNat,List.length_replicate⟩, .pf ⟨aJ p.buses.toNat 1 (fun _ j=>[(.bool false)].getD j .nilp) (Dy p),pQ _ _ _ _ _ (fun j hj=>(match j,hj with|0,_=>rfl))⟩]<| .r<| .lp (σ:=((List Bool) × Int)) (β:=(List Bool)) ((tK p),0) [] [] ⟨[2,3],[],fun(u1,kz)=>[(7,(vO 5 true u1.length)),(8,(vI kz))],fun(u1,kz)=>[(5,some (eT 4 1 aj u1))]⟩ ⟨[],[],fun u3=>[(7,(vO 5 true u3.length))],fun u3=>[(5,some (eT 4 1 aj u3))]⟩
  (fun(u1,kz)=> .r<| .it (.cl 3 (jJ p s_ kz) fun u5=> .r<| .it (.r<| .e (.next (J4 kz u1)))
  (.cl 8 (mh p s_ (Mi kz p)) fun u2=> .a1 (PG kz p)<| .rg {} [0,1]<| .r<| .lp (σ:=((List Bool) × Int)) (β:=(List Bool)) (u1,0) [] [] ⟨[2,3,8,9],[],fun(u0,b)=>[(7,(vO 5 true u0.length)),(10,(vI b))],fun(u0,b)=>[(5,some (eT 4 1 aj u0))]⟩ ⟨[2,3,8],[],fun u4=>[(7,(vO 5 true u4.length))],fun u4=>[(5,some (eT 4 1 aj u4))]⟩
  (fun(u0,b)=> .r<| .it (.a2 (O5 u0 b) ((gB [((at' u0 b.toNat),false)]=true→(0:Int)≤b∧b<(u2.length:Int)))<| .rg {an:=[(13, .arr 0 (aB aj (NW u0 b u2)))]} [0, .t 0 b u0.length,1,0, .t 0 b u0.length, .pf ⟨aJ u0.length 1 (oh (aB aj u0) b.toNat 0 [(.bool (bif (at' u0 b.toNat)then true else(at' u2 b.toNat)))]) (aB aj (NW u0 b u2)),eY _ _ _ _ _ _ _ _ rfl (fun j hj=>(match j,hj with|0,_=>rfl))⟩]<| .im (.ll 5 u0 (NW u0 b u2))<| .r<| .e (.next ((NW u0 b u2),(k3 b))))
  (.e (.done (.brk u0))))
  (fun u4=> .r<| .e (.next (J4 kz u4)))))
  (.e (.done (.brk u1))))
  (fun u3=> .rg {fz:=[5]} []<| .e (u3,0))))
theorem bN (a:(List Bool)) (b:(List Bool)):fP Tryz.prog 18 [(sD (aX none 1 aj a)),(sD (aX none 1 aj b))] [] (fun r=>(vB r)) (fun _=>[]) (bC a b):=
  iC tT mX Tryz.func18 (
  .r<| .r<| .it (.r<| .e false)
  (.r<| .lp (σ:=Int) (β:=Unit) (0) [] [] ⟨[0,1],[],fun i=>[(5,(vI i))],fun i=>[]⟩ ⟨[],[],fun _=>[],fun _=>[]⟩
  (fun i=> .r<| .it (.a2 (O5 a i) (O5 b i)<| .rg {} [0,1]<| .it (.r<| .e (.done (.ret false)))
  (.r<| .e (.next (k3 i))))
  (.e (.done (.brk ()))))
  (fun _=> .r<| .e true)))
section
variable (p:ai) (u0:Int) (r_:((List Bool) × Int)) (u1:(List av))
abbrev Qq:=(bif (decide (0≤((mR u0 p).e1)))then(at' r_.1 ((if(mR u0 p).e1<0 then 0 else(mR u0 p).e1).toNat))else false)
abbrev Gy:=(⟨(at' r_.1 (((mR u0 p).e0).toNat)),(Qq p u0 r_)⟩:av)
abbrev Q5:=(u1.length+[(Gy p u0 r_)].length)
abbrev OM:=(aB av.cell [(Gy p u0 r_)])
abbrev Ni:=(u1++[(Gy p u0 r_)])
abbrev QJ:=(aB av.cell (Ni p u0 r_ u1))
end
theorem BH (p:ai) (s_:State):fP Tryz.prog 20 (k23 s_ p) [] (fun r=>(.iG [(sD (aX none 2 av.cell r.1)),(sI r.2)])) (fun _=>[]) (kK p s_):=
  iC tT mX Tryz.func20 (
  .rg {fr:=[(0,14),(1,15)],fz:=[15]} []<| .cl 2 (qP p s_) fun r_=> .r<| .r<| .it (.r<| .e (([]:List av),r_.2))
  (.r<| .r<| .im (.ad 8 28 75 2 (aB av.cell ([]:List av)))<| .lp (σ:=((List av) × Int)) (β:=(List av)) (([]:List av),0) [] [(28,18)] ⟨[2,6],[14],fun(u1,u0)=>[(8,(vO 18 false u1.length)),(9,(vI u0))],fun(u1,u0)=>[(18,some (eT 75 2 av.cell u1))]⟩ ⟨[],[],fun u2=>[(8,(vO 18 false u2.length))],fun u2=>[(18,some (eT 75 2 av.cell u2))]⟩
  (fun(u1,u0)=> .r<| .it (.a1 (NC u0 p)<| .rg {fr:=[(6,25)],fz:=[25]} []<| .a4 ((0:Int)≤(mR u0 p).e0∧(mR u0 p).e0<(r_.1.length:Int)) ((gB [((decide (0≤((mR u0 p).e1))),true)]=true→(0:Int)≤(if(mR u0 p).e1<0 then 0 else(mR u0 p).e1)∧(if(mR u0 p).e1<0 then 0 else(mR u0 p).e1)<(r_.1.length:Int))) ((Q5 p u0 r_ u1)*2≤140737488355328) (u1.length+[(Gy p u0 r_)].length≤4611686018427387904)<| .rg {an:=[(18, .arr [(Gy p u0 r_)].length (OM p u0 r_)),(19, .arr (Ni p u0 r_ u1).length (QJ p u0 r_ u1))],fr:=[(18,26),(19,27)]} [.pf ⟨(0:Int)≤0∧(0:Int)<(2:Nat),(by decide)⟩,0, .pf ⟨(0:Int)≤1∧(1:Int)<(2:Nat),(by decide)⟩, .pf ⟨(0:Int)≤1∧(1:Int)<(2:Nat),(by decide)⟩,1, .pf ⟨[(Gy p u0 r_)].length=1,rfl⟩, .pf ⟨aJ 1 2 (jZ 2 [(.bool (at' r_.1 (((mR u0 p).e0).toNat))),(.bool (Qq p u0 r_))]) (OM p u0 r_),(by intro i hi j hj;match i,j,hi,hj with|0,0,_,_=>rfl|0,1,_,_=>rfl)⟩, .e (u1.length),2,3, .pf ⟨(Ni p u0 r_ u1).length=u1.length+[(Gy p u0 r_)].length,List.length_append⟩, .pf ⟨aJ (Q5 p u0 r_ u1) 2 (rR (aB av.cell u1) u1.length (OM p u0 r_)) (QJ p u0 r_ u1),bH _ _ _ _⟩]<| .r<| .en (.next ((Ni p u0 r_ u1),(k3 u0))) [] [(27,18)])
  (.e (.done (.brk u1))))
  (fun u2=> .rg {fz:=[18]} []<| .e (u2,0))))
theorem rV (a:(List av)) (b:(List av)):fP Tryz.prog 21 [(sD (aX none 2 av.cell a)),(sD (aX none 2 av.cell b))] [] (fun r=>(vB r)) (fun _=>[]) (jl a b):=
  iC tT mX Tryz.func21 (
  .r<| .r<| .it (.r<| .e false)
  (.r<| .lp (σ:=Int) (β:=Unit) (0) [] [] ⟨[0,1],[],fun i=>[(5,(vI i))],fun i=>[]⟩ ⟨[],[],fun _=>[],fun _=>[]⟩
  (fun i=> .r<| .it (.a2 ((0:Int)≤i∧i<(a.length:Int)) ((0:Int)≤i∧i<(b.length:Int))<| .rg {} [0,1]<| .it (.r<| .e (.done (.ret false)))
  (.r<| .e (.next (k3 i))))
  (.e (.done (.brk ()))))
  (fun _=> .r<| .e true)))
theorem yB (a:Source) (b:Source):fP Tryz.prog 57 [(.agg (k4 a)),(.agg (k4 b))] [] (fun r=>(vB r)) (fun _=>[]) (mF a b):=
  iC tT mX Tryz.func57 (
  .rg {fr:=[(0,2),(1,3)],fz:=[2,3]} []<| .r<| .e (bif (!decide (a.sync=b.sync))then true else(decide (a.sync=0))))
section
variable (u3:(List ah)) (u1:Bool) (u2:Bool) (u6:(List Bool)) (p:ai) (kz:Int)
abbrev NI:List (Nat × Option Ob):=[(37,some (eT 79 2 ah.cell u3))]
abbrev OI:=((bif (bif u1 then u2 else false)then(at' u6 ((Mi kz p).toNat))else false),true)
end
theorem vV (p:ai) (s_:State):fP Tryz.prog 23 (k23 s_ p) [] (fun r=>(.iG [(sD (aX none 2 ah.cell r.1)),(sI r.2)])) (fun _=>[]) (fO p s_):=
  iC tT mX Tryz.func23 (
  .rg {fr:=[(0,34),(1,35)],fz:=[34,35]} []<| .cl 2 (fF p s_) fun r_=> .r<| .r<| .it (.r<| .e (([]:List ah),r_))
  (.r<| .r<| .im (.ad 7 68 79 2 (aB ah.cell ([]:List ah)))<| .lp (σ:=((List ah) × Int)) (β:=(List ah)) (([]:List ah),0) [] [(68,37)] ⟨[2,3],[],fun(u3,i)=>[(7,(vO 37 false u3.length)),(8,(vI i))],fun(u3,i)=>(NI u3)⟩ ⟨[],[],fun u4=>[(7,(vO 37 false u4.length))],fun u4=>(NI u4)⟩
  (fun(u3,i)=> .r<| .it (.r<| .lp (σ:=((List ah) × Int)) (β:=(List ah)) (Jo i u3) [] [] ⟨[2,3,8],[],fun(u0,kz)=>[(7,(vO 37 false u0.length)),(9,(vI kz))],fun(u0,kz)=>(NI u0)⟩ ⟨[2,3,8],[],fun u5=>[(7,(vO 37 false u5.length))],fun u5=>(NI u5)⟩
  (fun(u0,kz)=> .r<| .it (.cl 3 (jJ p s_ i) fun u1=> .cg 8 [(u1,true)] (jJ p s_ kz) fun u2=> .cg 19 [(k8 u1 u2)] (mh p s_ (Mi i p)) fun u6=> .cg 40 [(OI u1 u2 u6 p kz)] (yB (at' p.sources i.toNat) (at' p.sources kz.toNat)) fun u7=> .a5 ((gB [(k8 u1 u2)]=true→(0:Int)≤i∧i<(p.sources.length:Int))) ((gB [(k8 u1 u2)]=true→(0:Int)≤kz∧kz<(p.sources.length:Int))) ((gB [(k8 u1 u2)]=true→(0:Int)≤(at' p.sources kz.toNat).bus∧(at' p.sources kz.toNat).bus<(u6.length:Int))) ((gB [(OI u1 u2 u6 p kz)]=true→(0:Int)≤i∧i<(p.sources.length:Int))) ((gB [(OI u1 u2 u6 p kz)]=true→(0:Int)≤kz∧kz<(p.sources.length:Int)))<| .rg {} [8,7,0,6,1,2,3,4,5]<| .it (.a2 ((u0.length+[(⟨i,kz⟩:ah)].length)*16≤140737488355328) (u0.length+[(⟨i,kz⟩:ah)].length≤4611686018427387904)<| .rg {an:=[(4, .arr [(⟨i,kz⟩:ah)].length (aB ah.cell [(⟨i,kz⟩:ah)])),(5, .arr (u0++[(⟨i,kz⟩:ah)]).length (aB ah.cell (u0++[(⟨i,kz⟩:ah)])))],fr:=[(4,66),(5,67)]} [.pf ⟨[(⟨i,kz⟩:ah)].length=1,rfl⟩, .pf ⟨aJ 1 2 (jZ 2 [(.int .i64 i),(.int .i64 kz)]) (aB ah.cell [(⟨i,kz⟩:ah)]),(by intro i hi j hj;match i,j,hi,hj with|0,0,_,_=>rfl|0,1,_,_=>rfl)⟩, .e (u0.length),0,1, .pf ⟨(u0++[(⟨i,kz⟩:ah)]).length=u0.length+[(⟨i,kz⟩:ah)].length,List.length_append⟩, .pf ⟨aJ (u0.length+[(⟨i,kz⟩:ah)].length) 2 (rR (aB ah.cell u0) u0.length (aB ah.cell [(⟨i,kz⟩:ah)])) (aB ah.cell (u0++[(⟨i,kz⟩:ah)])),bH _ _ _ _⟩]<| .r<| .en (.next ((u0++[(⟨i,kz⟩:ah)]),(k3 kz))) [] [(67,37)])
  (.r<| .e (.next (Jo kz u0))))
  (.e (.done (.brk u0))))
  (fun u5=> .r<| .e (.next (Jo i u5))))
  (.e (.done (.brk u3))))
  (fun u4=> .rg {fz:=[37]} []<| .e (u4,0))))
theorem sZ (a:(List Source)) (b:(List Source)):fP Tryz.prog 58 [(sD (k6 a)),(sD (k6 b))] [] (fun r=>(vB r)) (fun _=>[]) (jk a b):=
  iC tT mX Tryz.func58 (
  .r<| .r<| .it (.r<| .e false)
  (.r<| .lp (σ:=Int) (β:=Unit) (0) [] [] ⟨[0,1],[],fun i=>[(5,(vI i))],fun i=>[]⟩ ⟨[],[],fun _=>[],fun _=>[]⟩
  (fun i=> .r<| .it (.a2 ((0:Int)≤i∧i<(a.length:Int)) ((0:Int)≤i∧i<(b.length:Int))<| .rg {} [0,1]<| .it (.r<| .e (.done (.ret false)))
  (.r<| .e (.next (k3 i))))
  (.e (.done (.brk ()))))
  (fun _=> .r<| .e true)))
theorem vN (a:(List bX)) (b:(List bX)):fP Tryz.prog 111 [(sD (aX none 2 bX.cell a)),(sD (aX none 2 bX.cell b))] [] (fun r=>(vB r)) (fun _=>[]) (kg a b):=
  iC tT mX Tryz.func111 (
  .r<| .r<| .it (.r<| .e false)
  (.r<| .lp (σ:=Int) (β:=Unit) (0) [] [] ⟨[0,1],[],fun i=>[(5,(vI i))],fun i=>[]⟩ ⟨[],[],fun _=>[],fun _=>[]⟩
  (fun i=> .r<| .it (.a2 ((0:Int)≤i∧i<(a.length:Int)) ((0:Int)≤i∧i<(b.length:Int))<| .rg {} [0,1]<| .it (.r<| .e (.done (.ret false)))
  (.r<| .e (.next (k3 i))))
  (.e (.done (.brk ()))))
  (fun _=> .r<| .e true)))
section
variable (a:Link) (b:Link)
abbrev Q9:=(bif (bif (bif (bif (decide (a.a=b.a))then(decide (a.b=b.b))else false)then(decide (a.kind=b.kind))else false)then(decide (a.most=b.most))else false)then(decide (a.ohm=b.ohm))else false)
end
theorem xJ (a:Link) (b:Link):fP Tryz.prog 91 [(.agg (k13 a)),(.agg (k13 b))] [] (fun r=>(vB r)) (fun _=>[]) (kZ a b):=
  iC tT mX Tryz.func91 (
  .rg {fr:=[(0,2),(1,3)],fz:=[2,3]} []<| .cg 38 [((Q9 a b),true)] (vN a.trip b.trip) fun r_=> .r<| .e (bif (Q9 a b)then r_ else false))
theorem vJ (a:(List Link)) (b:(List Link)):fP Tryz.prog 59 [(sD (aX none 6 Link.cell a)),(sD (aX none 6 Link.cell b))] [] (fun r=>(vB r)) (fun _=>[]) (ku a b):=
  iC tT mX Tryz.func59 (
  .r<| .r<| .it (.r<| .e false)
  (.r<| .lp (σ:=Int) (β:=Unit) (0) [] [] ⟨[0,1],[],fun i=>[(5,(vI i))],fun i=>[]⟩ ⟨[],[],fun _=>[],fun _=>[]⟩
  (fun i=> .r<| .it (.cl 8 (xJ (at' a i.toNat) (at' b i.toNat)) fun r_=> .a2 (k17 a i) (k17 b i)<| .rg {} [0,1,2]<| .it (.r<| .e (.done (.ret false)))
  (.r<| .e (.next (k3 i))))
  (.e (.done (.brk ()))))
  (fun _=> .r<| .e true)))
theorem wD (a:(List aN)) (b:(List aN)):fP Tryz.prog 60 [(sD (aX none 4 aN.cell a)),(sD (aX none 4 aN.cell b))] [] (fun r=>(vB r)) (fun _=>[]) (j4 a b):=
  iC tT mX Tryz.func60 (
  .r<| .r<| .it (.r<| .e false)
  (.r<| .lp (σ:=Int) (β:=Unit) (0) [] [] ⟨[0,1],[],fun i=>[(5,(vI i))],fun i=>[]⟩ ⟨[],[],fun _=>[],fun _=>[]⟩
  (fun i=> .r<| .it (.a2 ((0:Int)≤i∧i<(a.length:Int)) ((0:Int)≤i∧i<(b.length:Int))<| .rg {} [0,1]<| .it (.r<| .e (.done (.ret false)))
  (.r<| .e (.next (k3 i))))
  (.e (.done (.brk ()))))
  (fun _=> .r<| .e true)))
theorem vk (a:ai) (b:ai):fP Tryz.prog 25 [(.agg (k1 a)),(.agg (k1 b))] [] (fun r=>(vB r)) (fun _=>[]) (j6 a b):=
  iC tT mX Tryz.func25 (
  .rg {fr:=[(0,2),(1,3)],fz:=[2,3]} []<| .cg 10 [((decide (a.buses=b.buses)),true)] (sZ a.sources b.sources) fun r_=> .cg 17 [((bif (decide (a.buses=b.buses))then r_ else false),true)] (vJ a.links b.links) fun u0=> .cg 24 [((bif (bif (decide (a.buses=b.buses))then r_ else false)then u0 else false),true)] (wD a.racks b.racks) fun u1=> .r<| .e (bif (bif (bif (decide (a.buses=b.buses))then r_ else false)then u0 else false)then u1 else false))
section
variable (r_:Bool) (u0:Bool) (u1:Bool) (u2:Bool) (u3:Bool) (u4:Bool)
abbrev P5:=(bif (k9 r_ u0 u1 u2 u3)then u4 else false)
end
theorem vg (a:State) (b:State):fP Tryz.prog 26 [(.agg (k24 a)),(.agg (k24 b))] [] (fun r=>(vB r)) (fun _=>[]) (jX a b):=
  iC tT mX Tryz.func26 (
  .rg {fr:=[(0,2),(1,3)],fz:=[2,3]} []<| .cl 4 (bN a.closed b.closed) fun r_=> .cg 10 [(r_,true)] (bN a.locked b.locked) fun u0=> .cg 17 [(k8 r_ u0)] (bN a.badLink b.badLink) fun u1=> .cg 24 [((bif (bif r_ then u0 else false)then u1 else false),true)] (bN a.on_ b.on_) fun u2=> .cg 31 [((bif (bif (bif r_ then u0 else false)then u1 else false)then u2 else false),true)] (bN a.badSource b.badSource) fun u3=> .cg 38 [((k9 r_ u0 u1 u2 u3),true)] (bN a.earthed b.earthed) fun u4=> .cg 45 [((P5 r_ u0 u1 u2 u3 u4),true)] (bN a.badBus b.badBus) fun u5=> .r<| .e (bif (P5 r_ u0 u1 u2 u3 u4)then u5 else false))
theorem rC (x:ai):fP Tryz.prog 7 (k0 x) [] (fun r=>(.v (.agg [(cI r.buses),(.own 0 false r.sources.length),(.own 1 false r.links.length),(.own 2 false r.racks.length)]))) (fun r=>[(0,some (eT 90 5 Source.cell r.sources)),(1,some (eT 73 6 Link.cell r.links)),(2,some (eT 98 4 aN.cell r.racks)),(3,none)]) (jY x):=
  iC tT mX Tryz.func7 (
  .rg {fr:=[(0,5),(1,6)]} []<| .cl 4 (oC [(0,7)] (pI x.sources)) fun r_=> .cl 7 (oC [(0,8)] (rA x.links)) fun u0=> .cl 10 (oC [(0,9)] (rq x.racks)) fun u1=> .r<| .en (⟨x.buses,r_,u0,u1⟩:ai) [] [(7,0),(8,1),(9,2),(6,3)])
theorem ru (x:State):fP Tryz.prog 8 (RN x) [] (fun r=>(.v (.agg [(.own 0 false r.closed.length),(.own 1 false r.locked.length),(.own 2 false r.badLink.length),(.own 3 false r.on_.length),(.own 4 false r.badSource.length),(.own 5 false r.earthed.length),(.own 6 false r.badBus.length)]))) (fun r=>[(0,some (eT 4 1 aj r.closed)),(1,some (eT 4 1 aj r.locked)),(2,some (eT 4 1 aj r.badLink)),(3,some (eT 4 1 aj r.on_)),(4,some (eT 4 1 aj r.badSource)),(5,some (eT 4 1 aj r.earthed)),(6,some (eT 4 1 aj r.badBus)),(7,none)]) (kr x):=
  iC tT mX Tryz.func8 (
  .rg {fr:=[(0,9),(1,10)],fz:=[9]} []<| .cl 2 (oC [(0,11)] (bI x.closed)) fun r_=> .cl 5 (oC [(0,12)] (bI x.locked)) fun u0=> .cl 8 (oC [(0,13)] (bI x.badLink)) fun u1=> .cl 11 (oC [(0,14)] (bI x.on_)) fun u2=> .cl 14 (oC [(0,15)] (bI x.badSource)) fun u3=> .cl 17 (oC [(0,16)] (bI x.earthed)) fun u4=> .cl 20 (oC [(0,17)] (bI x.badBus)) fun u5=> .r<| .en (⟨r_,u0,u1,u2,u3,u4,u5⟩:State) [] [(11,0),(12,1),(13,2),(14,3),(15,4),(16,5),(17,6),(10,7)])
theorem qL (p:ai) (s_:State):fP Tryz.prog 3 (k23 s_ p) [] (fun r=>(vB r)) (fun _=>[]) (gX p s_):=
  iC tT mX Tryz.func3 (
  .rg {fr:=[(0,16),(1,17)],fz:=[16,17]} []<| .cl 1 (zL p) fun r_=> .r<| .it (.cl 0 pO fun v5=> .r<| .e v5)
  (.cl 1 (oC [(0,18),(1,19),(2,20),(3,21)] (rC p)) fun u0=> .cl 3 (oC [(0,22),(1,23),(2,24),(3,25),(4,26),(5,27),(6,28),(7,29)] (ru s_)) fun u1=> .rg {fr:=[(4,30),(5,31)],fz:=[18,19,20,22,23,24,25,26,27,28]} []<| .fz [30,31]<| .cl 1 (jE u0) fun u6=> .cl 3 (pz p) fun u7=> .cg 8 [((!decide (u6=u7)),false)] (bO u0 u1) fun v7=> .cg 11 [((!decide (u6=u7)),false)] (fF p s_) fun v8=> .r<| .it (.r<| .e false)
  (.cl 2 (ol u0 u1) fun u8=> .r<| .cl 2 (vL p s_) fun u9=> .r<| .cg 6 [((!decide (u8.2=u9.2)),false)] (iL u8.1 u9.1) fun v9=> .r<| .it (.r<| .e false)
  (.cl 2 (qM u0 u1) fun v0=> .r<| .cl 2 (qP p s_) fun v1=> .r<| .cg 6 [((!decide (v0.2=v1.2)),false)] (bN v0.1 v1.1) fun w0=> .r<| .it (.r<| .e false)
  (.cl 2 (sM u0 u1) fun v2=> .r<| .cl 2 (BH p s_) fun v3=> .r<| .cg 6 [((!decide (v2.2=v3.2)),false)] (rV v2.1 v3.1) fun w1=> .r<| .it (.r<| .e false)
  (.cl 2 (om u0 u1) fun u2=> .r<| .cl 2 (vV p s_) fun u3=> .r<| .cg 6 [((decide (u2.2=u3.2)),true)] (mI u2.1 u3.1) fun u4=> .cg 11 [((bif (decide (u2.2=u3.2))then u4 else false),true)] (vk p u0) fun u5=> .cg 16 [((bif (bif (decide (u2.2=u3.2))then u4 else false)then u5 else false),true)] (vg s_ u1) fun v4=> .cg 19 [((bif (bif (bif (decide (u2.2=u3.2))then u4 else false)then u5 else false)then v4 else false),true)] pO fun v6=> .r<| .e (bif (bif (bif (bif (decide (u2.2=u3.2))then u4 else false)then u5 else false)then v4 else false)then v6 else false)))))))
end
end Sg
