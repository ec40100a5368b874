import Derived.Test.YtpndenfhglaikaaGreatW1
set_option linter.all false
namespace Sg
open Go Go.Proofs
set_option maxRecDepth 20000
noncomputable section
section
variable (u0:(Int × (List Int))) (p:ai) (k:Int) (u1:(List Short))
abbrev M4:=(IntKind.wrap .i64 (u0.1+((at' p.sources k.toNat).aX)))
abbrev Tz:=(IntKind.wrap .i64 (Int.tdiv (400000:Int) (M4 u0 p k)))
abbrev UB:=(IntKind.wrap .i64 ((Tz u0 p k)+1))
abbrev Lg:=(⟨k,(M4 u0 p k),(UB u0 p k),u0.2⟩:Short)
abbrev VB:=(u1.length+[(Lg u0 p k)].length)
abbrev Ti:=(au Short.cell [(Lg u0 p k)])
abbrev QN:=(u1++[(Lg u0 p k)])
abbrev Wq:=(au Short.cell (QN u0 p k u1))
abbrev Le:=(⟨k,(M4 u0 p k),(Tz u0 p k),u0.2⟩:Short)
abbrev UI:=(u1.length+[(Le u0 p k)].length)
abbrev R5:=(au Short.cell [(Le u0 p k)])
abbrev Rm:=(u1++[(Le u0 p k)])
abbrev VZ:=(au Short.cell (Rm u0 p k u1))
end
theorem wG (p:ai) (s_:State) (u2:Int):eH Tryz.prog 39 (Qd s_ p u2) (AA s_) (fun r=>(.iq [(sD (aR none 4 Short.cell r.1)),(sI r.2)])) (fun r=>(AA s_)) (nP p s_ u2):=
  fC tT mX Tryz.func39 (
  .rg {fr:=[(0,49),(1,50)],fz:=[49]} []<| .cr 2 ⟨fun{r_} hr_=>((Fn.wX (frz:=[0,1,2,3,4,5,6]) (p:=[s_.closed.length=s_.closed.length,s_.locked.length=s_.locked.length,s_.badLink.length=s_.badLink.length,s_.on_.length=s_.on_.length,s_.badSource.length=s_.badSource.length,s_.earthed.length=s_.earthed.length,s_.badBus.length=s_.badBus.length]) (iJ p s_ hr_) (by kernel_rfl) ⟨rfl,rfl,rfl,rfl,rfl,rfl,rfl,trivial⟩ rfl):Fn Tryz.prog 38 (UW p s_) (AA s_) (vI r_) (AA s_))⟩ fun r_=> .r<| .r<| .it (.r<| .e (([]:List Short),r_))
  (.r<| .it (.r<| .e (([]:List Short),1))
  (.r<| .r<| .im (.ad 9 91 103 4 (au Short.cell ([]:List Short)))<| .lp (σ:=((List Short) × Int)) (β:=(List Short)) (([]:List Short),0) [] [(91,53)] ⟨[2,3,4],[0,1,2,3,4,5,6,50],fun(u1,k)=>[(9,(vO 53 false u1.length)),(10,(vI k))],fun(u1,k)=>[(53,some (aV 103 4 Short.cell u1))]⟩ ⟨[],[0,1,2,3,4,5,6],fun u3=>[(9,(vO 53 false u3.length))],fun u3=>[(53,some (aV 103 4 Short.cell u3))]⟩
  (fun(u1,k)=> .a1 ((gB [((decide (k<(p.sources.length:Int))),true)]=true→(0:Int)≤u2∧u2<(s_.badBus.length:Int)))<| .rg {} [0, .tg 0 [((decide (k<(p.sources.length:Int))),true)] u2 s_.badBus.length]<| .it (.jN (β:=(List Short)) 3 ⟨[2,3,4,10],[0,1,2,3,4,5,6,50],fun u4=>[(9,(vO 53 false u4.length))],fun u4=>[(53,some (aV 103 4 Short.cell u4))]⟩ (.cr 3 ⟨fun{u5} hr_1=>((Fn.wX (frz:=[0,1,2,3,4,5,6]) (p:=[s_.closed.length=s_.closed.length,s_.locked.length=s_.locked.length,s_.badLink.length=s_.badLink.length,s_.on_.length=s_.on_.length,s_.badSource.length=s_.badSource.length,s_.earthed.length=s_.earthed.length,s_.badBus.length=s_.badBus.length]) (tF p s_ k hr_1) (by kernel_rfl) ⟨rfl,rfl,rfl,rfl,rfl,rfl,rfl,trivial⟩ rfl):Fn Tryz.prog 88 (Qd s_ p k) (AA s_) (vB u5) (AA s_))⟩ fun u5=> .r<| .it (.e u1)
  (.cr 12 (Vj [(.agg (k0 p)),(.agg (Wt s_)),(sI (TK p k)),(sI u2),(sD (aR (some true) 1 af (vQ p)))] (r9 FUEL p s_ (TK p k) u2 (vQ p))) fun u0=> .a4 (k7 p k) ((0:Int)≤p.buses) (QJ p) (TY p)<| .rg {an:=[(11, .frz (vQ p).length (G5 p))],fr:=[(11,86)]} [0,1, .e ((p.buses:Int)),2,3, .pf ⟨(vQ p).length=p.buses.toNat,List.length_replicate⟩, .pf ⟨aB p.buses.toNat 1 (fun _ j=>[(.bool false)].getD j .nilp) (G5 p),bY _ _ _ _ _ (fun j hj=>(match j,hj with|0,_=>rfl))⟩,4]<| .r<| .it (.e u1)
  (.a1 (k7 p k)<| .r<| .a1 ((M4 u0 p k)≠(0:Int))<| .r<| .r<| .it (.r<| .a2 ((VB u0 p k u1)*48≤140737488355328) (u1.length+[(Lg u0 p k)].length≤4611686018427387904)<| .rg {an:=[(6, .arr [(Lg u0 p k)].length (Ti u0 p k)),(7, .arr (QN u0 p k u1).length (Wq u0 p k u1))],fr:=[(6,87),(7,88)]} [.pf ⟨[(Lg u0 p k)].length=1,rfl⟩, .pf ⟨aB 1 4 (lM 4 [(.int .i64 k),(.int .i64 (M4 u0 p k)),(.int .i64 (UB u0 p k)),(aR none 1 (aL .i64) u0.2)]) (Ti u0 p k),(by intro i hi j hj;match i,j,hi,hj with|0,0,_,_=>rfl|0,1,_,_=>rfl|0,2,_,_=>rfl|0,3,_,_=>rfl)⟩, .e (u1.length),0,1, .pf ⟨(QN u0 p k u1).length=u1.length+[(Lg u0 p k)].length,List.length_append⟩, .pf ⟨aB (VB u0 p k u1) 4 (oM (au Short.cell u1) u1.length (Ti u0 p k)) (Wq u0 p k u1),bD _ _ _ _⟩]<| .en (QN u0 p k u1) [] [(88,53)])
  (.a2 ((UI u0 p k u1)*48≤140737488355328) (u1.length+[(Le u0 p k)].length≤4611686018427387904)<| .rg {an:=[(6, .arr [(Le u0 p k)].length (R5 u0 p k)),(7, .arr (Rm u0 p k u1).length (VZ u0 p k u1))],fr:=[(6,89),(7,90)]} [.pf ⟨[(Le u0 p k)].length=1,rfl⟩, .pf ⟨aB 1 4 (lM 4 [(.int .i64 k),(.int .i64 (M4 u0 p k)),(.int .i64 (Tz u0 p k)),(aR none 1 (aL .i64) u0.2)]) (R5 u0 p k),(by intro i hi j hj;match i,j,hi,hj with|0,0,_,_=>rfl|0,1,_,_=>rfl|0,2,_,_=>rfl|0,3,_,_=>rfl)⟩, .e (u1.length),0,1, .pf ⟨(Rm u0 p k u1).length=u1.length+[(Le u0 p k)].length,List.length_append⟩, .pf ⟨aB (UI u0 p k u1) 4 (oM (au Short.cell u1) u1.length (R5 u0 p k)) (VZ u0 p k u1),bD _ _ _ _⟩]<| .en (Rm u0 p k u1) [] [(90,53)]))))
  (fun u4=> .r<| .e (.next (u4,(k5 k)))))
  (.e (.done (.brk u1))))
  (fun u3=> .rg {fz:=[53]} []<| .e (u3,0)))))
theorem dN (a:(List Bool)) (b:(List Bool)):eH Tryz.prog 52 [(sD (aR none 1 af a)),(sD (aR none 1 af b))] [] (fun r=>(vB r)) (fun _=>[]) (cK a b):=
  fC tT mX Tryz.func52 (
  .r<| .r<| .it (.r<| .e false)
  (.r<| .lp (σ:=Int) (β:=Unit) (0) [] [] ⟨[0,1],[],fun i=>[(5,(vI i))],fun i=>[]⟩ ⟨[],[],fun _=>[],fun _=>[]⟩
  (fun i=> .r<| .it (.a2 (Gx a i) (Gx b i)<| .rg {} [0,1]<| .it (.r<| .e (.done (.ret false)))
  (.r<| .e (.next (k5 i))))
  (.e (.done (.brk ()))))
  (fun _=> .r<| .e true)))
section
variable (r_:Bool) (u0:Bool) (u1:Bool) (u2:Bool) (u3:Bool) (u4:Bool)
abbrev Wm:=(bif (k13 r_ u0 u1 u2 u3)then u4 else false)
end
theorem qW (a:State) (b:State):eH Tryz.prog 20 [(.agg (k26 a)),(.agg (k26 b))] [] (fun r=>(vB r)) (fun _=>[]) (gI a b):=
  fC tT mX Tryz.func20 (
  .rg {fr:=[(0,2),(1,3)],fz:=[2,3]} []<| .cl 4 (dN a.closed b.closed) fun r_=> .cg 10 [(r_,true)] (dN a.locked b.locked) fun u0=> .cg 17 [((bif r_ then u0 else false),true)] (dN a.badLink b.badLink) fun u1=> .cg 24 [((bif (bif r_ then u0 else false)then u1 else false),true)] (dN a.on_ b.on_) fun u2=> .cg 31 [((bif (bif (bif r_ then u0 else false)then u1 else false)then u2 else false),true)] (dN a.badSource b.badSource) fun u3=> .cg 38 [((k13 r_ u0 u1 u2 u3),true)] (dN a.earthed b.earthed) fun u4=> .cg 45 [((Wm r_ u0 u1 u2 u3 u4),true)] (dN a.badBus b.badBus) fun u5=> .r<| .e (bif (Wm r_ u0 u1 u2 u3 u4)then u5 else false))
theorem vH (a:aA) (b:ah):eH Tryz.prog 13 [(.agg [(.d (aR none 2 Event.cell a.events)),(cB a.cleared),(cI a.millis),(cI a.energy),(.d (aR none 1 af a.state.closed)),(.d (aR none 1 af a.state.locked)),(.d (aR none 1 af a.state.badLink)),(.d (aR none 1 af a.state.on_)),(.d (aR none 1 af a.state.badSource)),(.d (aR none 1 af a.state.earthed)),(.d (aR none 1 af a.state.badBus))]),(.agg [(.d (aR none 2 Event.cell b.events)),(cB b.cleared),(cI b.millis),(cI b.energy),(.d (aR none 1 af b.state.closed)),(.d (aR none 1 af b.state.locked)),(.d (aR none 1 af b.state.badLink)),(.d (aR none 1 af b.state.on_)),(.d (aR none 1 af b.state.badSource)),(.d (aR none 1 af b.state.earthed)),(.d (aR none 1 af b.state.badBus))])] [] (fun r=>(vB r)) (fun _=>[]) (jq a b):=
  fC tT mX Tryz.func13 (
  .rg {fr:=[(0,2),(1,3)],fz:=[2,3]} []<| .cg 33 [((bif (bif (bif (!decide ((a.events.length:Int)=(b.events.length:Int)))then true else(!(a.cleared==b.cleared)))then true else(!decide (a.millis=b.millis)))then true else(!decide (a.energy=b.energy))),false)] (qW a.state b.state) fun r_=> .r<| .it (.r<| .e false)
  (.r<| .lp (σ:=Int) (β:=Unit) (0) [] [] ⟨[2,3],[],fun i=>[(5,(vI i))],fun i=>[]⟩ ⟨[],[],fun _=>[],fun _=>[]⟩
  (fun i=> .r<| .it (.a2 ((0:Int)≤i∧i<(a.events.length:Int)) ((0:Int)≤i∧i<(b.events.length:Int))<| .rg {} [0,1]<| .it (.r<| .e (.done (.ret false)))
  (.r<| .e (.next (k5 i))))
  (.e (.done (.brk ()))))
  (fun _=> .r<| .e true)))
section
variable (c4:(List Bool)) (u0:State) (i:Int) (u7:((List Int) × Int)) (p:ai) (u2:(List Int)) (c3:Int) (u8:Int) (u1:Int) (c2:Int) (u3:(List Bool)) (u5:(List Event)) (i1:Int)
abbrev Kq:=(⟨c4,u0.locked,u0.badLink,u0.on_,u0.badSource,u0.earthed,u0.badBus⟩:State)
abbrev O8:=((0:Int)≤i∧i<(u7.1.length:Int))
abbrev T9:List CV:=[(.own 97 false c4.length),(.own 98 false u0.locked.length),(.own 99 false u0.badLink.length),(.own 100 false u0.on_.length),(.own 101 false u0.badSource.length),(.own 102 false u0.earthed.length),(.own 103 false u0.badBus.length)]
abbrev Hz:List (Nat × Option Ob):=[(97,some (aV 4 1 af c4)),(98,some (aV 4 1 af u0.locked)),(99,some (aV 4 1 af u0.badLink)),(100,some (aV 4 1 af u0.on_)),(101,some (aV 4 1 af u0.badSource)),(102,some (aV 4 1 af u0.earthed)),(103,some (aV 4 1 af u0.badBus))]
abbrev Te:List SV:=[(.agg (k0 p)),(.agg (T9 c4 u0)),(sI i),(sI (at' u7.1 i.toNat)),(sI (at' u2 i.toNat))]
abbrev Uf:=(IntKind.wrap .i64 (c3+(IntKind.wrap .i64 ((IntKind.wrap .i64 ((IntKind.wrap .i64 (Int.tdiv (IntKind.wrap .i64 (u8*u8)) 1000))+1))*(IntKind.wrap .i64 ((if u1<c2 then c2 else u1) - c2))))))
abbrev VT:List (Nat × Option Ob):=[(97,some (aV 4 1 af u3)),(105,some (.cells 44 [(.own 109 false u5.length),(cB false),(cI (if u1<c2 then c2 else u1)),(cI (Uf c3 u8 u1 c2)),(.own 97 false u3.length),(.own 98 false u0.locked.length),(.own 99 false u0.badLink.length),(.own 100 false u0.on_.length),(.own 101 false u0.badSource.length),(.own 102 false u0.earthed.length),(.own 103 false u0.badBus.length)])),(109,some (aV 105 2 Event.cell u5))]
abbrev Dm:=(⟨(if u1<c2 then c2 else u1),i1⟩:Event)
abbrev QH:=(u5.length+[(Dm u1 c2 i1)].length)
abbrev Mh:=(au Event.cell [(Dm u1 c2 i1)])
abbrev KV:=(u5++[(Dm u1 c2 i1)])
abbrev QY:=(au Event.cell (KV u1 c2 u5 i1))
abbrev SN:=(IntKind.wrap .i64 (c3+(IntKind.wrap .i64 ((IntKind.wrap .i64 (Int.tdiv (IntKind.wrap .i64 (u8*u8)) 1000))*(IntKind.wrap .i64 ((if u1<c2 then c2 else u1) - c2))))))
end
theorem jH (p:ai) (s_:State) (v8:Int):eH Tryz.prog 12 (NE p s_ v8) [] (fun r=>(.iq [(.agg [(.own 0 false r.1.events.length),(cB r.1.cleared),(cI r.1.millis),(cI r.1.energy),(.own 1 false r.1.state.closed.length),(.own 2 false r.1.state.locked.length),(.own 3 false r.1.state.badLink.length),(.own 4 false r.1.state.on_.length),(.own 5 false r.1.state.badSource.length),(.own 6 false r.1.state.earthed.length),(.own 7 false r.1.state.badBus.length)]),(sI r.2)])) (fun r=>[(0,some (aV 105 2 Event.cell r.1.events)),(1,some (aV 4 1 af r.1.state.closed)),(2,some (aV 4 1 af r.1.state.locked)),(3,some (aV 4 1 af r.1.state.badLink)),(4,some (aV 4 1 af r.1.state.on_)),(5,some (aV 4 1 af r.1.state.badSource)),(6,some (aV 4 1 af r.1.state.earthed)),(7,some (aV 4 1 af r.1.state.badBus)),(8,none)]) (bT p s_ v8):=
  fC tT mX Tryz.func12 (
  .rg {fr:=[(0,78),(1,79),(2,80)],fz:=[78,79]} []<| .cl 2 (iJ p s_) fun r_=> .r<| .r<| .it (.r<| .im (.xk 80 0 81 105 2 (au Event.cell ([]:List Event)))<| .im (.xk 80 4 82 4 1 (au af ([]:List Bool)))<| .im (.xk 80 5 83 4 1 (au af ([]:List Bool)))<| .im (.xk 80 6 84 4 1 (au af ([]:List Bool)))<| .im (.xk 80 7 85 4 1 (au af ([]:List Bool)))<| .im (.xk 80 8 86 4 1 (au af ([]:List Bool)))<| .im (.xk 80 9 87 4 1 (au af ([]:List Bool)))<| .im (.xk 80 10 88 4 1 (au af ([]:List Bool)))<| .en ((⟨([]:List Event),false,0,0,(⟨([]:List Bool),([]:List Bool),([]:List Bool),([]:List Bool),([]:List Bool),([]:List Bool),([]:List Bool)⟩:State)⟩:ah),r_) [] [(81,0),(82,1),(83,2),(84,3),(85,4),(86,5),(87,6),(88,7),(80,8)])
  (.r<| .it (.r<| .im (.xk 80 0 89 105 2 (au Event.cell ([]:List Event)))<| .im (.xk 80 4 90 4 1 (au af ([]:List Bool)))<| .im (.xk 80 5 91 4 1 (au af ([]:List Bool)))<| .im (.xk 80 6 92 4 1 (au af ([]:List Bool)))<| .im (.xk 80 7 93 4 1 (au af ([]:List Bool)))<| .im (.xk 80 8 94 4 1 (au af ([]:List Bool)))<| .im (.xk 80 9 95 4 1 (au af ([]:List Bool)))<| .im (.xk 80 10 96 4 1 (au af ([]:List Bool)))<| .en ((⟨([]:List Event),false,0,0,(⟨([]:List Bool),([]:List Bool),([]:List Bool),([]:List Bool),([]:List Bool),([]:List Bool),([]:List Bool)⟩:State)⟩:ah),1) [] [(89,0),(90,1),(91,2),(92,3),(93,4),(94,5),(95,6),(96,7),(80,8)])
  (.cl 1 (nJ [(0,97),(1,98),(2,99),(3,100),(4,101),(5,102),(6,103),(7,104)] (oP s_)) fun u0=> .rg {fr:=[(3,105)]} []<| .a3 (UH p) (WK p) (Wj p)<| .rg {an:=[(3, .arr (MW p).length (RD p))],fr:=[(3,106)]} [0, .e (UE p),1,2, .pf ⟨(MW p).length=(NJ p),List.length_replicate⟩, .pf ⟨aB (NJ p) 1 (fun _ j=>[(.int .i64 0)].getD j .nilp) (RD p),bY _ _ _ _ _ (fun j hj=>(match j,hj with|0,_=>rfl))⟩]<| .a3 (UH p) (WK p) (Wj p)<| .rg {an:=[(3, .arr (MW p).length (RD p))],fr:=[(3,107)],fz:=[107]} [0, .e (UE p),1,2, .pf ⟨(MW p).length=(NJ p),List.length_replicate⟩, .pf ⟨aB (NJ p) 1 (fun _ j=>[(.int .i64 0)].getD j .nilp) (RD p),bY _ _ _ _ _ (fun j hj=>(match j,hj with|0,_=>rfl))⟩]<| .im (.xk 105 0 172 105 2 (au Event.cell ([]:List Event)))<| .lp (σ:=((List Event) × Int × Int × (List Bool) × (List Int) × (List Int))) (β:=Unit) (([]:List Event),0,0,u0.closed,(MW p),(MW p)) [] [(172,109)] ⟨[2,3,6,9],[80,98,99,100,101,102,103],fun(c0,c2,c3,c4,v1,v6)=>[(10,(vO 106 true v1.length)),(11,(vD (Lh v6)))],fun(c0,c2,c3,c4,v1,v6)=>[(97,some (aV 4 1 af c4)),(105,some (.cells 44 [(.own 109 false c0.length),(cB false),(cI c2),(cI c3),(.own 97 false c4.length),(.own 98 false u0.locked.length),(.own 99 false u0.badLink.length),(.own 100 false u0.on_.length),(.own 101 false u0.badSource.length),(.own 102 false u0.earthed.length),(.own 103 false u0.badBus.length)])),(106,some (Jg v1)),(109,some (aV 105 2 Event.cell c0))]⟩ ⟨[],[],fun _=>[],fun _=>[]⟩
  (fun(c0,c2,c3,c4,v1,v6)=> .cr 4 (nJ [(0,97),(1,98),(2,99),(3,100),(4,101),(5,102),(6,103)] (wG p (Kq c4 u0) v8)) fun v9=> .r<| .cl 2 (yG p v9.1) fun u7=> .r<| .r<| .r<| .lp (σ:=(Int × Int)) (β:=Int) (0,0) [] [] ⟨[2,3,6,9,10,11,12,14],[80,97,98,99,100,101,102,103,105,106,109],fun(v2,k)=>[(16,(vI v2)),(17,(vI k))],fun(v2,k)=>[]⟩ ⟨[2,3,6,9,10,11,14],[80,97,98,99,100,101,102,103,105,106,109],fun u8=>[(16,(vI u8))],fun u8=>[]⟩
  (fun(v2,k)=> .r<| .it (.a1 ((0:Int)≤k∧k<(v9.1.length:Int))<| .r<| .r<| .e (.next ((IntKind.wrap .i64 (v2+((at' v9.1 k.toNat).amps))),(k5 k))))
  (.e (.done (.brk v2))))
  (fun u8=> .r<| .it (.r<| .r<| .en (.done (.ret ((⟨c0,true,c2,c3,(Kq c4 u0)⟩:ah),0))) [] [(109,0),(97,1),(98,2),(99,3),(100,4),(101,5),(102,6),(103,7),(80,8)])
  (.r<| .r<| .lp (σ:=((List Int) × Int × Int)) (β:=((List Int) × Int)) (v1,(-1),0) [] [] ⟨[2,3,6,9,11,14,16],[80,97,98,99,100,101,102,103,105,109],fun(u2,v0,i)=>[(10,(vO 106 true u2.length)),(18,(vI v0)),(19,(vI i))],fun(u2,v0,i)=>[(106,some (Jg u2))]⟩ ⟨[2,3,6,9,14,16],[80,97,98,99,100,101,102,103,105,109],fun(u9,u1)=>[(10,(vO 106 true u9.length)),(18,(vI u1))],fun(u9,u1)=>[(106,some (Jg u9))]⟩
  (fun(u2,v0,i)=> .r<| .it (.jN (β:=((List Int) × Int)) 3 ⟨[2,3,6,9,11,14,16,19],[80,97,98,99,100,101,102,103,105,109],fun(v3,v7)=>[(10,(vO 106 true v3.length)),(18,(vI v7))],fun(v3,v7)=>[(106,some (Jg v3))]⟩ (.a2 (O8 i u7) (GJ v6 i)<| .rg {} [0,1]<| .it (.a1 (GJ u2 i)<| .rg {an:=[(5, .arr 0 (au (aL .i64) (u2.set i.toNat c2)))]} [0, .t 0 i u2.length, .pf ⟨aB u2.length 1 (iH (au (aL .i64) u2) i.toNat 0 [(.int .i64 c2)]) (au (aL .i64) (u2.set i.toNat c2)),bJ _ _ _ _ _ _ _ _ rfl (fun j hj=>(match j,hj with|0,_=>rfl))⟩]<| .im (.ll 106 u2 (u2.set i.toNat c2))<| .cr 12 ⟨fun{w0} hr_4=>((Fn.wX (frz:=[97,98,99,100,101,102,103]) (p:=[c4.length=c4.length,u0.locked.length=u0.locked.length,u0.badLink.length=u0.badLink.length,u0.on_.length=u0.on_.length,u0.badSource.length=u0.badSource.length,u0.earthed.length=u0.earthed.length,u0.badBus.length=u0.badBus.length]) (nW p (Kq c4 u0) i (at' u7.1 i.toNat) (at' (u2.set i.toNat c2) i.toNat) hr_4) (by kernel_rfl) ⟨rfl,rfl,rfl,rfl,rfl,rfl,rfl,trivial⟩ rfl):Fn Tryz.prog 41 [(.agg (k0 p)),(.agg (T9 c4 u0)),(sI i),(sI (at' u7.1 i.toNat)),(sI (at' (u2.set i.toNat c2) i.toNat))] (Hz c4 u0) (vI w0) (Hz c4 u0))⟩ fun w0=> .a2 (O8 i u7) ((0:Int)≤i∧i<((u2.set i.toNat c2).length:Int))<| .rg {} [0,1, .t 1 i ((u2.set i.toNat c2).length),2]<| .r<| .it (.r<| .e ((u2.set i.toNat c2),w0))
  (.e ((u2.set i.toNat c2),v0)))
  (.cr 12 ⟨fun{w1} hr_5=>((Fn.wX (frz:=[97,98,99,100,101,102,103]) (p:=[c4.length=c4.length,u0.locked.length=u0.locked.length,u0.badLink.length=u0.badLink.length,u0.on_.length=u0.on_.length,u0.badSource.length=u0.badSource.length,u0.earthed.length=u0.earthed.length,u0.badBus.length=u0.badBus.length]) (nW p (Kq c4 u0) i (at' u7.1 i.toNat) (at' u2 i.toNat) hr_5) (by kernel_rfl) ⟨rfl,rfl,rfl,rfl,rfl,rfl,rfl,trivial⟩ rfl):Fn Tryz.prog 41 (Te c4 u0 i u7 p u2) (Hz c4 u0) (vI w1) (Hz c4 u0))⟩ fun w1=> .a2 (O8 i u7) (GJ u2 i)<| .rg {} [0,1, .t 1 i u2.length,2]<| .r<| .it (.r<| .e (u2,w1))
  (.e (u2,v0))))
  (fun(v3,v7)=> .r<| .e (.next (v3,v7,(k5 i)))))
  (.e (.done (.brk (u2,v0)))))
  (fun(u9,u1)=> .r<| .r<| .it (.r<| .en (.done (.ret ((⟨c0,false,c2,c3,(Kq c4 u0)⟩:ah),0))) [] [(109,0),(97,1),(98,2),(99,3),(100,4),(101,5),(102,6),(103,7),(80,8)])
  (.r<| .a1 (1000≠(0:Int))<| .r<| .r<| .it (.r<| .r<| .r<| .r<| .lp (σ:=((List Event) × (List Bool) × Int)) (β:=((List Event) × (List Bool))) (c0,c4,0) [] [] ⟨[2,3,6,9,10,11,14,18],[80,98,99,100,101,102,103,106],fun(u5,u3,i1)=>[(22,(vI i1))],fun(u5,u3,i1)=>(VT u0 c3 u8 u1 c2 u3 u5)⟩ ⟨[2,3,6,9,10,11],[80,98,99,100,101,102,103,106],fun(v4,v5)=>[],fun(v4,v5)=>(VT u0 c3 u8 u1 c2 v5 v4)⟩
  (fun(u5,u3,i1)=> .r<| .it (.cr 12 ⟨fun{w2} hr_6=>((Fn.wX (frz:=[97,98,99,100,101,102,103]) (p:=[u3.length=u3.length,u0.locked.length=u0.locked.length,u0.badLink.length=u0.badLink.length,u0.on_.length=u0.on_.length,u0.badSource.length=u0.badSource.length,u0.earthed.length=u0.earthed.length,u0.badBus.length=u0.badBus.length]) (nW p (Kq u3 u0) i1 (at' u7.1 i1.toNat) (at' u9 i1.toNat) hr_6) (by kernel_rfl) ⟨rfl,rfl,rfl,rfl,rfl,rfl,rfl,trivial⟩ rfl):Fn Tryz.prog 41 (Te u3 u0 i1 u7 p u9) (Hz u3 u0) (vI w2) (Hz u3 u0))⟩ fun w2=> .a2 (O8 i1 u7) (GJ u9 i1)<| .rg {} [0,1, .t 1 i1 u9.length,2]<| .r<| .it (.r<| .a2 ((QH u1 c2 u5 i1)*16≤140737488355328) (u5.length+[(Dm u1 c2 i1)].length≤4611686018427387904)<| .rg {an:=[(4, .arr [(Dm u1 c2 i1)].length (Mh u1 c2 i1)),(5, .arr (KV u1 c2 u5 i1).length (QY u1 c2 u5 i1))],fr:=[(4,162),(5,163)]} [.pf ⟨[(Dm u1 c2 i1)].length=1,rfl⟩, .pf ⟨aB 1 2 (lM 2 [(.int .i64 (if u1<c2 then c2 else u1)),(.int .i64 i1)]) (Mh u1 c2 i1),(by intro i hi j hj;match i,j,hi,hj with|0,0,_,_=>rfl|0,1,_,_=>rfl)⟩, .e (u5.length),0,1, .pf ⟨(KV u1 c2 u5 i1).length=u5.length+[(Dm u1 c2 i1)].length,List.length_append⟩, .pf ⟨aB (QH u1 c2 u5 i1) 2 (oM (au Event.cell u5) u5.length (Mh u1 c2 i1)) (QY u1 c2 u5 i1),bD _ _ _ _⟩]<| .a1 (Gx u3 i1)<| .rg {an:=[(5, .arr 0 (au af (u3.set i1.toNat false)))]} [0, .t 0 i1 u3.length, .pf ⟨aB u3.length 1 (iH (au af u3) i1.toNat 0 [(.bool false)]) (au af (u3.set i1.toNat false)),bJ _ _ _ _ _ _ _ _ rfl (fun j hj=>(match j,hj with|0,_=>rfl))⟩]<| .im (.ll 97 u3 (u3.set i1.toNat false))<| .r<| .en (.next ((KV u1 c2 u5 i1),(u3.set i1.toNat false),(k5 i1))) [] [(163,109)])
  (.r<| .e (.next (u5,u3,(k5 i1)))))
  (.e (.done (.brk (u5,u3)))))
  (fun(v4,v5)=> .e (.next (v4,(if u1<c2 then c2 else u1),(Uf c3 u8 u1 c2),v5,u9,u7.1))))
  (.r<| .r<| .r<| .lp (σ:=((List Event) × (List Bool) × Int)) (β:=((List Event) × (List Bool))) (c0,c4,0) [] [] ⟨[2,3,6,9,10,11,14,18],[80,98,99,100,101,102,103,106],fun(u6,u4,i2)=>[(22,(vI i2))],fun(u6,u4,i2)=>[(97,some (aV 4 1 af u4)),(105,some (.cells 44 [(.own 109 false u6.length),(cB false),(cI (if u1<c2 then c2 else u1)),(cI (SN c3 u8 u1 c2)),(.own 97 false u4.length),(.own 98 false u0.locked.length),(.own 99 false u0.badLink.length),(.own 100 false u0.on_.length),(.own 101 false u0.badSource.length),(.own 102 false u0.earthed.length),(.own 103 false u0.badBus.length)])),(109,some (aV 105 2 Event.cell u6))]⟩ ⟨[2,3,6,9,10,11],[80,98,99,100,101,102,103,106],fun(c04,c44)=>[],fun(c04,c44)=>[(97,some (aV 4 1 af c44)),(105,some (.cells 44 [(.own 109 false c04.length),(cB false),(cI (if u1<c2 then c2 else u1)),(cI (SN c3 u8 u1 c2)),(.own 97 false c44.length),(.own 98 false u0.locked.length),(.own 99 false u0.badLink.length),(.own 100 false u0.on_.length),(.own 101 false u0.badSource.length),(.own 102 false u0.earthed.length),(.own 103 false u0.badBus.length)])),(109,some (aV 105 2 Event.cell c04))]⟩
  (fun(u6,u4,i2)=> .r<| .it (.cr 12 ⟨fun{w3} hr_7=>((Fn.wX (frz:=[97,98,99,100,101,102,103]) (p:=[u4.length=u4.length,u0.locked.length=u0.locked.length,u0.badLink.length=u0.badLink.length,u0.on_.length=u0.on_.length,u0.badSource.length=u0.badSource.length,u0.earthed.length=u0.earthed.length,u0.badBus.length=u0.badBus.length]) (nW p (Kq u4 u0) i2 (at' u7.1 i2.toNat) (at' u9 i2.toNat) hr_7) (by kernel_rfl) ⟨rfl,rfl,rfl,rfl,rfl,rfl,rfl,trivial⟩ rfl):Fn Tryz.prog 41 (Te u4 u0 i2 u7 p u9) (Hz u4 u0) (vI w3) (Hz u4 u0))⟩ fun w3=> .a2 (O8 i2 u7) (GJ u9 i2)<| .rg {} [0,1, .t 1 i2 u9.length,2]<| .r<| .it (.r<| .a2 ((QH u1 c2 u6 i2)*16≤140737488355328) (u6.length+[(Dm u1 c2 i2)].length≤4611686018427387904)<| .rg {an:=[(4, .arr [(Dm u1 c2 i2)].length (Mh u1 c2 i2)),(5, .arr (KV u1 c2 u6 i2).length (QY u1 c2 u6 i2))],fr:=[(4,170),(5,171)]} [.pf ⟨[(Dm u1 c2 i2)].length=1,rfl⟩, .pf ⟨aB 1 2 (lM 2 [(.int .i64 (if u1<c2 then c2 else u1)),(.int .i64 i2)]) (Mh u1 c2 i2),(by intro i hi j hj;match i,j,hi,hj with|0,0,_,_=>rfl|0,1,_,_=>rfl)⟩, .e (u6.length),0,1, .pf ⟨(KV u1 c2 u6 i2).length=u6.length+[(Dm u1 c2 i2)].length,List.length_append⟩, .pf ⟨aB (QH u1 c2 u6 i2) 2 (oM (au Event.cell u6) u6.length (Mh u1 c2 i2)) (QY u1 c2 u6 i2),bD _ _ _ _⟩]<| .a1 (Gx u4 i2)<| .rg {an:=[(5, .arr 0 (au af (u4.set i2.toNat false)))]} [0, .t 0 i2 u4.length, .pf ⟨aB u4.length 1 (iH (au af u4) i2.toNat 0 [(.bool false)]) (au af (u4.set i2.toNat false)),bJ _ _ _ _ _ _ _ _ rfl (fun j hj=>(match j,hj with|0,_=>rfl))⟩]<| .im (.ll 97 u4 (u4.set i2.toNat false))<| .r<| .en (.next ((KV u1 c2 u6 i2),(u4.set i2.toNat false),(k5 i2))) [] [(171,109)])
  (.r<| .e (.next (u6,u4,(k5 i2)))))
  (.e (.done (.brk (u6,u4)))))
  (fun(c04,c44)=> .e (.next (c04,(if u1<c2 then c2 else u1),(SN c3 u8 u1 c2),c44,u9,u7.1)))))))))
  (fun _=> .no))))
theorem wZ (p:ai) (s_:State) (u0:Int):eH Tryz.prog 15 (NE p s_ u0) [] (fun r=>(.iq [(sB r.1),(sI r.2)])) (fun _=>[]) (je p s_ u0):=
  fC tT mX Tryz.func15 (
  .rg {fr:=[(0,16),(1,17)],fz:=[17]} []<| .cl 3 (nJ [(0,18),(1,19),(2,20),(3,21),(4,22),(5,23),(6,24),(7,25),(8,26)] (jH p s_ u0)) fun r_=> .rg {fr:=[(7,27)]} []<| .r<| .it (.r<| .e (false,r_.2))
  (.r<| .lp (σ:=Int) (β:=Unit) (0) [] [] ⟨[2,3,8],[16,18,19,20,21,22,23,24,25,27],fun i=>[(10,(vI i))],fun i=>[]⟩ ⟨[],[],fun _=>[],fun _=>[]⟩
  (fun i=> .r<| .it (.a2 ((0:Int)≤i∧i<(r_.1.events.length:Int)) ((0:Int)≤(at' r_.1.events i.toNat).link∧(at' r_.1.events i.toNat).link<(p.links.length:Int))<| .rg {fr:=[(10,31)],fz:=[31]} [0, .t 0 i r_.1.events.length,1]<| .r<| .it (.r<| .e (.done (.ret (false,0))))
  (.r<| .e (.next (k5 i))))
  (.e (.done (.brk ()))))
  (fun _=> .r<| .e (true,0))))
section
variable (p:ai) (b:Int) (u0:(List Bool)) (i:Int)
abbrev QD:=((vQ p).set b.toNat true)
abbrev J4:=(u0.set (TN i p) true)
abbrev RH:=(au af (J4 p u0 i))
abbrev SE:=((J4 p u0 i).set ((NH i p).toNat) true)
abbrev Vn:=(au af (SE p u0 i))
end
theorem Ar (p:ai) (s_:State) (b:Int):eH Tryz.prog 119 (NE p s_ b) [] (fun r=>(vD (aR none 1 af r))) (fun _=>[]) (kM p s_ b):=
  fC tT mX Tryz.func119 (
  .rg {fr:=[(0,19),(1,20)],fz:=[20]} []<| .a3 ((0:Int)≤p.buses) (QJ p) (TY p)<| .rg {an:=[(2, .arr (vQ p).length (G5 p))],fr:=[(2,21)]} [0, .e ((p.buses:Int)),1,2, .pf ⟨(vQ p).length=p.buses.toNat,List.length_replicate⟩, .pf ⟨aB p.buses.toNat 1 (fun _ j=>[(.bool false)].getD j .nilp) (G5 p),bY _ _ _ _ _ (fun j hj=>(match j,hj with|0,_=>rfl))⟩]<| .a1 ((0:Int)≤b∧b<((vQ p).length:Int))<| .rg {an:=[(3, .arr 0 (au af (QD p b)))]} [0, .t 0 b ((vQ p).length), .pf ⟨aB (vQ p).length 1 (iH (G5 p) b.toNat 0 [(.bool true)]) (au af (QD p b)),bJ _ _ _ _ _ _ _ _ rfl (fun j hj=>(match j,hj with|0,_=>rfl))⟩]<| .im (.ll 21 (vQ p) (QD p b))<| .r<| .lp (σ:=((List Bool) × Int)) (β:=(List Bool)) ((QD p b),0) [] [] ⟨[3,4],[19],fun(u1,n)=>[(7,(vO 21 true u1.length)),(8,(vI n))],fun(u1,n)=>[(21,some (aV 4 1 af u1))]⟩ ⟨[],[],fun u2=>[(7,(vO 21 true u2.length))],fun u2=>[(21,some (aV 4 1 af u2))]⟩
  (fun(u1,n)=> .r<| .it (.r<| .lp (σ:=((List Bool) × Int)) (β:=(List Bool)) (u1,0) [] [] ⟨[3,4,8],[19],fun(u0,i)=>[(7,(vO 21 true u0.length)),(9,(vI i))],fun(u0,i)=>[(21,some (aV 4 1 af u0))]⟩ ⟨[3,4,8],[19],fun u3=>[(7,(vO 21 true u3.length))],fun u3=>[(21,some (aV 4 1 af u3))]⟩
  (fun(u0,i)=> .r<| .it (.a1 (k8 p i)<| .rg {fr:=[(5,37)]} []<| .cl 3 (jK p s_ i) fun r_=> .a2 ((gB [(r_,true)]=true→(0:Int)≤(at' p.links i.toNat).a∧(at' p.links i.toNat).a<(u0.length:Int))) ((gB [((at' u0 (TN i p)),false),(r_,true)]=true→(0:Int)≤(at' p.links i.toNat).b∧(at' p.links i.toNat).b<(u0.length:Int)))<| .rg {} [2,0, .tg 0 [(r_,true)] (NN i p) u0.length,1, .tg 1 [((at' u0 (TN i p)),false),(r_,true)] (NH i p) u0.length]<| .it (.a1 ((0:Int)≤(at' p.links i.toNat).a∧(at' p.links i.toNat).a<(u0.length:Int))<| .rg {an:=[(4, .arr 0 (RH p u0 i))]} [0, .t 0 (NN i p) u0.length, .pf ⟨aB u0.length 1 (iH (au af u0) (TN i p) 0 [(.bool true)]) (RH p u0 i),bJ _ _ _ _ _ _ _ _ rfl (fun j hj=>(match j,hj with|0,_=>rfl))⟩]<| .im (.ll 21 u0 (J4 p u0 i))<| .a1 ((0:Int)≤(at' p.links i.toNat).b∧(at' p.links i.toNat).b<((J4 p u0 i).length:Int))<| .rg {an:=[(4, .arr 0 (Vn p u0 i))]} [0, .t 0 (NH i p) ((J4 p u0 i).length), .pf ⟨aB (J4 p u0 i).length 1 (iH (RH p u0 i) ((NH i p).toNat) 0 [(.bool true)]) (Vn p u0 i),bJ _ _ _ _ _ _ _ _ rfl (fun j hj=>(match j,hj with|0,_=>rfl))⟩]<| .im (.ll 21 (J4 p u0 i) (SE p u0 i))<| .r<| .e (.next ((SE p u0 i),(k5 i))))
  (.r<| .e (.next (u0,(k5 i)))))
  (.e (.done (.brk u0))))
  (fun u3=> .r<| .e (.next (u3,(k5 n)))))
  (.e (.done (.brk u1))))
  (fun u2=> .rg {fz:=[21]} []<| .e u2))
section
variable (u0:(List Bool)) (b:Int) (u2:(List Bool))
abbrev Qu:=(u0.set b.toNat (bif (at' u0 b.toNat)then true else(at' u2 b.toNat)))
end
theorem BD (p:ai) (s_:State):eH Tryz.prog 93 (k25 s_ p) [] (fun r=>(.iq [(sD (aR none 1 af r.1)),(sI r.2)])) (fun _=>[]) (oD p s_):=
  fC tT mX Tryz.func93 (
  .rg {fr:=[(0,3),(1,4)],fz:=[3,4]} []<| .cl 2 (iJ p s_) fun r_=> .r<| .r<| .it (.r<| .e (([]:List Bool),r_))
  (.a3 ((0:Int)≤p.buses) (QJ p) (TY p)<| .rg {an:=[(2, .arr (vQ p).length (G5 p))],fr:=[(2,5)]} [0, .e ((p.buses:Int)),1,2, .pf ⟨(vQ p).length=p.buses.toNat,List.length_replicate⟩, .pf ⟨aB p.buses.toNat 1 (fun _ j=>[(.bool false)].getD j .nilp) (G5 p),bY _ _ _ _ _ (fun j hj=>(match j,hj with|0,_=>rfl))⟩]<| .r<| .lp (σ:=((List Bool) × Int)) (β:=(List Bool)) ((vQ p),0) [] [] ⟨[2,3],[],fun(u1,k)=>[(7,(vO 5 true u1.length)),(8,(vI k))],fun(u1,k)=>[(5,some (aV 4 1 af u1))]⟩ ⟨[],[],fun u3=>[(7,(vO 5 true u3.length))],fun u3=>[(5,some (aV 4 1 af u3))]⟩
  (fun(u1,k)=> .r<| .it (.cl 3 (tF p s_ k) fun u5=> .r<| .it (.r<| .e (.next (u1,(k5 k))))
  (.cl 8 (Ar p s_ (TK p k)) fun u2=> .a1 (k7 p k)<| .rg {} [0,1]<| .r<| .lp (σ:=((List Bool) × Int)) (β:=(List Bool)) (u1,0) [] [] ⟨[2,3,8,9],[],fun(u0,b)=>[(7,(vO 5 true u0.length)),(10,(vI b))],fun(u0,b)=>[(5,some (aV 4 1 af u0))]⟩ ⟨[2,3,8],[],fun u4=>[(7,(vO 5 true u4.length))],fun u4=>[(5,some (aV 4 1 af u4))]⟩
  (fun(u0,b)=> .r<| .it (.a2 (Gx u0 b) ((gB [((at' u0 b.toNat),false)]=true→(0:Int)≤b∧b<(u2.length:Int)))<| .rg {an:=[(13, .arr 0 (au af (Qu u0 b u2)))]} [0, .t 0 b u0.length,1,0, .t 0 b u0.length, .pf ⟨aB u0.length 1 (iH (au af u0) b.toNat 0 [(.bool (bif (at' u0 b.toNat)then true else(at' u2 b.toNat)))]) (au af (Qu u0 b u2)),bJ _ _ _ _ _ _ _ _ rfl (fun j hj=>(match j,hj with|0,_=>rfl))⟩]<| .im (.ll 5 u0 (Qu u0 b u2))<| .r<| .e (.next ((Qu u0 b u2),(k5 b))))
  (.e (.done (.brk u0))))
  (fun u4=> .r<| .e (.next (u4,(k5 k))))))
  (.e (.done (.brk u1))))
  (fun u3=> .rg {fz:=[5]} []<| .e (u3,0))))
section
variable (p:ai) (u0:Int) (r_:((List Bool) × Int)) (u1:(List aI))
abbrev VI:=(bif (decide (0≤((oN p u0).e1)))then(at' r_.1 ((if(oN p u0).e1<0 then 0 else(oN p u0).e1).toNat))else false)
abbrev Ky:=(⟨(at' r_.1 (((oN p u0).e0).toNat)),(VI p u0 r_)⟩:aI)
abbrev UG:=(u1.length+[(Ky p u0 r_)].length)
abbrev Tf:=(au aI.cell [(Ky p u0 r_)])
abbrev Q7:=(u1++[(Ky p u0 r_)])
abbrev Uj:=(au aI.cell (Q7 p u0 r_ u1))
end
theorem wF (p:ai) (s_:State):eH Tryz.prog 48 (k25 s_ p) [] (fun r=>(.iq [(sD (aR none 2 aI.cell r.1)),(sI r.2)])) (fun _=>[]) (qg p s_):=
  fC tT mX Tryz.func48 (
  .rg {fr:=[(0,14),(1,15)],fz:=[15]} []<| .cl 2 (BD p s_) fun r_=> .r<| .r<| .it (.r<| .e (([]:List aI),r_.2))
  (.r<| .r<| .im (.ad 8 28 116 2 (au aI.cell ([]:List aI)))<| .lp (σ:=((List aI) × Int)) (β:=(List aI)) (([]:List aI),0) [] [(28,18)] ⟨[2,6],[14],fun(u1,u0)=>[(8,(vO 18 false u1.length)),(9,(vI u0))],fun(u1,u0)=>[(18,some (aV 116 2 aI.cell u1))]⟩ ⟨[],[],fun u2=>[(8,(vO 18 false u2.length))],fun u2=>[(18,some (aV 116 2 aI.cell u2))]⟩
  (fun(u1,u0)=> .r<| .it (.a1 ((0:Int)≤u0∧u0<(p.racks.length:Int))<| .rg {fr:=[(6,25)],fz:=[25]} []<| .a4 ((0:Int)≤(oN p u0).e0∧(oN p u0).e0<(r_.1.length:Int)) ((gB [((decide (0≤((oN p u0).e1))),true)]=true→(0:Int)≤(if(oN p u0).e1<0 then 0 else(oN p u0).e1)∧(if(oN p u0).e1<0 then 0 else(oN p u0).e1)<(r_.1.length:Int))) ((UG p u0 r_ u1)*2≤140737488355328) (u1.length+[(Ky p u0 r_)].length≤4611686018427387904)<| .rg {an:=[(18, .arr [(Ky p u0 r_)].length (Tf p u0 r_)),(19, .arr (Q7 p u0 r_ u1).length (Uj p u0 r_ u1))],fr:=[(18,26),(19,27)]} [.pf ⟨(0:Int)≤0∧(0:Int)<(2:Nat),(by decide)⟩,0, .pf ⟨(0:Int)≤1∧(1:Int)<(2:Nat),(by decide)⟩, .pf ⟨(0:Int)≤1∧(1:Int)<(2:Nat),(by decide)⟩,1, .pf ⟨[(Ky p u0 r_)].length=1,rfl⟩, .pf ⟨aB 1 2 (lM 2 [(.bool (at' r_.1 (((oN p u0).e0).toNat))),(.bool (VI p u0 r_))]) (Tf p u0 r_),(by intro i hi j hj;match i,j,hi,hj with|0,0,_,_=>rfl|0,1,_,_=>rfl)⟩, .e (u1.length),2,3, .pf ⟨(Q7 p u0 r_ u1).length=u1.length+[(Ky p u0 r_)].length,List.length_append⟩, .pf ⟨aB (UG p u0 r_ u1) 2 (oM (au aI.cell u1) u1.length (Tf p u0 r_)) (Uj p u0 r_ u1),bD _ _ _ _⟩]<| .r<| .en (.next ((Q7 p u0 r_ u1),(k5 u0))) [] [(27,18)])
  (.e (.done (.brk u1))))
  (fun u2=> .rg {fz:=[18]} []<| .e (u2,0))))
section
variable (r_:(ah × Int))
abbrev Qm:DV:=(aR none 1 af r_.1.state.badSource)
end
theorem BN (p:ai) (s_:State) (u2:Int):eH Tryz.prog 17 (NE p s_ u2) [] (fun r=>(.iq [(sD (aR none 1 (aL .i64) r.1)),(sI r.2)])) (fun _=>[]) (lZ p s_ u2):=
  fC tT mX Tryz.func17 (
  .rg {fr:=[(0,20),(1,21)],fz:=[20,21]} []<| .cl 3 (nJ [(0,22),(1,23),(2,24),(3,25),(4,26),(5,27),(6,28),(7,29),(8,30)] (jH p s_ u2)) fun r_=> .rg {fr:=[(7,31)]} []<| .r<| .it (.r<| .e (([]:List Int),r_.2))
  (.r<| .it (.r<| .e (([]:List Int),4))
  (.a1 ((0:Int)≤u2∧u2<(r_.1.state.badBus.length:Int))<| .rg {an:=[(5, .arr 0 (au af (r_.1.state.badBus.set u2.toNat true)))],fz:=[22,23,24,25,26,27,28,29]} [0, .t 0 u2 r_.1.state.badBus.length, .pf ⟨aB r_.1.state.badBus.length 1 (iH (au af r_.1.state.badBus) u2.toNat 0 [(.bool true)]) (au af (r_.1.state.badBus.set u2.toNat true)),bJ _ _ _ _ _ _ _ _ rfl (fun j hj=>(match j,hj with|0,_=>rfl))⟩]<| .im (.uh 31 (some (.cells 44 [(.d (aR none 2 Event.cell r_.1.events)),(cB r_.1.cleared),(cI r_.1.millis),(cI r_.1.energy),(.d (aR none 1 af r_.1.state.closed)),(.d (aR none 1 af r_.1.state.locked)),(.d (aR none 1 af r_.1.state.badLink)),(.d (aR none 1 af r_.1.state.on_)),(.d (Qm r_)),(.d (aR none 1 af r_.1.state.earthed)),(.d (.sl none 1 r_.1.state.badBus.length (au af (r_.1.state.badBus.set u2.toNat true))))])) (some (.cells 44 [(.d (aR none 2 Event.cell r_.1.events)),(cB r_.1.cleared),(cI r_.1.millis),(cI r_.1.energy),(.d (aR none 1 af r_.1.state.closed)),(.d (aR none 1 af r_.1.state.locked)),(.d (aR none 1 af r_.1.state.badLink)),(.d (aR none 1 af r_.1.state.on_)),(.d (Qm r_)),(.d (aR none 1 af r_.1.state.earthed)),(.d (aR none 1 af (r_.1.state.badBus.set u2.toNat true)))])) (uq ⟨gN.refl _,gN.refl _,gN.refl _,gN.refl _,gN.refl _,gN.refl _,gN.refl _,gN.refl _,gN.refl _,gN.refl _,gN.d (iY.WV (by simp only [List.length_set]) (.inr rfl) (fun _ _ _ _=> .refl _)),trivial⟩))<| .fz [31]<| .cl 2 (wF p s_) fun u3=> .r<| .cl 3 (wF p (⟨r_.1.state.closed,r_.1.state.locked,r_.1.state.badLink,r_.1.state.on_,r_.1.state.badSource,r_.1.state.earthed,(r_.1.state.badBus.set u2.toNat true)⟩:State)) fun u5=> .r<| .r<| .r<| .im (.ad 14 40 3 1 (au (aL .i64) ([]:List Int)))<| .lp (σ:=((List Int) × Int)) (β:=(List Int)) (([]:List Int),0) [] [(40,33)] ⟨[3,10,12],[],fun(u1,u0)=>[(14,(vO 33 false u1.length)),(15,(vI u0))],fun(u1,u0)=>[(33,some (Jg u1))]⟩ ⟨[],[],fun u4=>[(14,(vO 33 false u4.length))],fun u4=>[(33,some (Jg u4))]⟩
  (fun(u1,u0)=> .r<| .it (.a4 ((0:Int)≤u0∧u0<(u3.1.length:Int)) ((gB [((at' u3.1 u0.toNat).e0,false)]=true→(0:Int)≤u0∧u0<(u3.1.length:Int))) ((gB [((bif (at' u3.1 u0.toNat).e0 then true else(at' u3.1 u0.toNat).e1),true)]=true→(0:Int)≤u0∧u0<(u5.1.length:Int))) ((gB [((bif (bif (at' u3.1 u0.toNat).e0 then true else(at' u3.1 u0.toNat).e1)then(!((at' u5.1 u0.toNat).e0))else false),true)]=true→(0:Int)≤u0∧u0<(u5.1.length:Int)))<| .rg {} [0, .pf ⟨(0:Int)≤0∧(0:Int)<(2:Nat),(by decide)⟩,1, .pf ⟨(0:Int)≤1∧(1:Int)<(2:Nat),(by decide)⟩,2, .pf ⟨(0:Int)≤0∧(0:Int)<(2:Nat),(by decide)⟩,3, .pf ⟨(0:Int)≤1∧(1:Int)<(2:Nat),(by decide)⟩]<| .it (.a2 (Wu u0 u1) (Wy u0 u1)<| .rg {an:=[(2, .arr [u0].length (au (aL .i64) [u0])),(3, .arr (u1++[u0]).length (Rz u0 u1))],fr:=[(2,38),(3,39)]} [.pf ⟨[u0].length=1,rfl⟩, .pf ⟨aB 1 1 (lM 1 [(.int .i64 u0)]) (au (aL .i64) [u0]),(by intro i hi j hj;match i,j,hi,hj with|0,0,_,_=>rfl)⟩, .e (u1.length),0,1, .pf ⟨(u1++[u0]).length=u1.length+[u0].length,List.length_append⟩, .pf ⟨aB (u1.length+[u0].length) 1 (WI u0 u1) (Rz u0 u1),bD _ _ _ _⟩]<| .r<| .en (.next ((u1++[u0]),(k5 u0))) [] [(39,33)])
  (.r<| .e (.next (P8 u1 u0))))
  (.e (.done (.brk u1))))
  (fun u4=> .rg {fz:=[33]} []<| .e (u4,0)))))
theorem wD (a:(List Source)) (b:(List Source)):eH Tryz.prog 49 [(sD (k10 a)),(sD (k10 b))] [] (fun r=>(vB r)) (fun _=>[]) (lg a b):=
  fC tT mX Tryz.func49 (
  .r<| .r<| .it (.r<| .e false)
  (.r<| .lp (σ:=Int) (β:=Unit) (0) [] [] ⟨[0,1],[],fun i=>[(5,(vI i))],fun i=>[]⟩ ⟨[],[],fun _=>[],fun _=>[]⟩
  (fun i=> .r<| .it (.a2 ((0:Int)≤i∧i<(a.length:Int)) ((0:Int)≤i∧i<(b.length:Int))<| .rg {} [0,1]<| .it (.r<| .e (.done (.ret false)))
  (.r<| .e (.next (k5 i))))
  (.e (.done (.brk ()))))
  (fun _=> .r<| .e true)))
theorem yU (a:(List aF)) (b:(List aF)):eH Tryz.prog 120 [(sD (aR none 2 aF.cell a)),(sD (aR none 2 aF.cell b))] [] (fun r=>(vB r)) (fun _=>[]) (mV a b):=
  fC tT mX Tryz.func120 (
  .r<| .r<| .it (.r<| .e false)
  (.r<| .lp (σ:=Int) (β:=Unit) (0) [] [] ⟨[0,1],[],fun i=>[(5,(vI i))],fun i=>[]⟩ ⟨[],[],fun _=>[],fun _=>[]⟩
  (fun i=> .r<| .it (.a2 ((0:Int)≤i∧i<(a.length:Int)) ((0:Int)≤i∧i<(b.length:Int))<| .rg {} [0,1]<| .it (.r<| .e (.done (.ret false)))
  (.r<| .e (.next (k5 i))))
  (.e (.done (.brk ()))))
  (fun _=> .r<| .e true)))
section
variable (a:Link) (b:Link)
abbrev Ub:=(bif (bif (bif (bif (decide (a.a=b.a))then(decide (a.b=b.b))else false)then(decide (a.kind=b.kind))else false)then(decide (a.most=b.most))else false)then(decide (a.aX=b.aX))else false)
end
theorem zn (a:Link) (b:Link):eH Tryz.prog 94 [(.agg (k1 a)),(.agg (k1 b))] [] (fun r=>(vB r)) (fun _=>[]) (nY a b):=
  fC tT mX Tryz.func94 (
  .rg {fr:=[(0,2),(1,3)],fz:=[2,3]} []<| .cg 38 [((Ub a b),true)] (yU a.trip b.trip) fun r_=> .r<| .e (bif (Ub a b)then r_ else false))
theorem yQ (a:(List Link)) (b:(List Link)):eH Tryz.prog 50 [(sD (k11 a)),(sD (k11 b))] [] (fun r=>(vB r)) (fun _=>[]) (mR a b):=
  fC tT mX Tryz.func50 (
  .r<| .r<| .it (.r<| .e false)
  (.r<| .lp (σ:=Int) (β:=Unit) (0) [] [] ⟨[0,1],[],fun i=>[(5,(vI i))],fun i=>[]⟩ ⟨[],[],fun _=>[],fun _=>[]⟩
  (fun i=> .r<| .it (.cl 8 (zn (at' a i.toNat) (at' b i.toNat)) fun r_=> .a2 (k19 a i) (k19 b i)<| .rg {} [0,1,2]<| .it (.r<| .e (.done (.ret false)))
  (.r<| .e (.next (k5 i))))
  (.e (.done (.brk ()))))
  (fun _=> .r<| .e true)))
theorem yK (a:(List aJ)) (b:(List aJ)):eH Tryz.prog 51 [(sD (k12 a)),(sD (k12 b))] [] (fun r=>(vB r)) (fun _=>[]) (mQ a b):=
  fC tT mX Tryz.func51 (
  .r<| .r<| .it (.r<| .e false)
  (.r<| .lp (σ:=Int) (β:=Unit) (0) [] [] ⟨[0,1],[],fun i=>[(5,(vI i))],fun i=>[]⟩ ⟨[],[],fun _=>[],fun _=>[]⟩
  (fun i=> .r<| .it (.a2 ((0:Int)≤i∧i<(a.length:Int)) ((0:Int)≤i∧i<(b.length:Int))<| .rg {} [0,1]<| .it (.r<| .e (.done (.ret false)))
  (.r<| .e (.next (k5 i))))
  (.e (.done (.brk ()))))
  (fun _=> .r<| .e true)))
theorem zb (a:ai) (b:ai):eH Tryz.prog 19 [(.agg (k0 a)),(.agg (k0 b))] [] (fun r=>(vB r)) (fun _=>[]) (mU a b):=
  fC tT mX Tryz.func19 (
  .rg {fr:=[(0,2),(1,3)],fz:=[2,3]} []<| .cg 10 [((decide (a.buses=b.buses)),true)] (wD a.sources b.sources) fun r_=> .cg 17 [((bif (decide (a.buses=b.buses))then r_ else false),true)] (yQ a.links b.links) fun u0=> .cg 24 [((bif (bif (decide (a.buses=b.buses))then r_ else false)then u0 else false),true)] (yK a.racks b.racks) fun u1=> .r<| .e (bif (bif (bif (decide (a.buses=b.buses))then r_ else false)then u0 else false)then u1 else false))
theorem vS (x:ai):eH Tryz.prog 8 (k6 x) [] (fun r=>(.v (.agg [(cI r.buses),(.own 0 false r.sources.length),(.own 1 false r.links.length),(.own 2 false r.racks.length)]))) (fun r=>[(0,some (aV 60 5 Source.cell r.sources)),(1,some (aV 66 6 Link.cell r.links)),(2,some (aV 71 4 aJ.cell r.racks)),(3,none)]) (mK x):=
  fC tT mX Tryz.func8 (
  .rg {fr:=[(0,5),(1,6)]} []<| .cl 4 (nJ [(0,7)] (uw x.sources)) fun r_=> .cl 7 (nJ [(0,8)] (vR x.links)) fun u0=> .cl 10 (nJ [(0,9)] (vY x.racks)) fun u1=> .r<| .en (⟨x.buses,r_,u0,u1⟩:ai) [] [(7,0),(8,1),(9,2),(6,3)])
section
variable (u0:(aA × Int))
abbrev V9:List (Nat × Option Ob):=[(181,some (aV 87 2 Event.cell u0.1.events)),(182,some (aV 4 1 af u0.1.state.closed)),(183,some (aV 4 1 af u0.1.state.locked)),(184,some (aV 4 1 af u0.1.state.badLink)),(185,some (aV 4 1 af u0.1.state.on_)),(186,some (aV 4 1 af u0.1.state.badSource)),(187,some (aV 4 1 af u0.1.state.earthed)),(188,some (aV 4 1 af u0.1.state.badBus))]
end
theorem ve (p:ai) (s_:State) (u1:Int):eH Tryz.prog 3 (NE p s_ u1) [] (fun r=>(vB r)) (fun _=>[]) (fw p s_ u1):=
  fC tT mX Tryz.func3 (
  .rg {fr:=[(0,101),(1,102)],fz:=[101,102]} []<| .cl 1 (wH p) fun r_=> .r<| .it (.cl 0 jS fun v2=> .r<| .e v2)
  (.cl 1 (nJ [(0,103),(1,104),(2,105),(3,106)] (vS p)) fun u5=> .cl 3 (nJ [(0,107),(1,108),(2,109),(3,110),(4,111),(5,112),(6,113),(7,114)] (oP s_)) fun u6=> .rg {fr:=[(4,115),(5,116)],fz:=[103,104,105,107,108,109,110,111,112,113]} []<| .fz [115,116]<| .cl 4 (EG u1 p.buses) fun u3=> .rg {an:=[(5, .arr [u1,u3].length (au (aL .i64) [u1,u3]))],fr:=[(5,117)],fz:=[117]} [0, .pf ⟨[u1,u3].length=2,rfl⟩, .pf ⟨aB 2 1 (lM 1 [(.int .i64 u1),(.int .i64 u3)]) (au (aL .i64) [u1,u3]),(by intro i hi j hj;match i,j,hi,hj with|0,0,_,_=>rfl|1,0,_,_=>rfl)⟩]<| .lp (σ:=Int) (β:=Unit) (0) [] [] ⟨[3,4,7,8,32,33],[],fun u4=>[(34,(vI u4))],fun u4=>[]⟩ ⟨[3,4,7,8],[],fun _=>[],fun _=>[]⟩
  (fun u4=> .r<| .it (.a1 ((0:Int)≤u4∧u4<([u1,u3].length:Int))<| .r<| .cl 3 (nJ [(0,181),(1,182),(2,183),(3,184),(4,185),(5,186),(6,187),(7,188),(8,189)] (fA u5 u6 (at' [u1,u3] u4.toNat))) fun u0=> .rg {fr:=[(7,190)]} []<| .cl 3 (nJ [(0,191),(1,192),(2,193),(3,194),(4,195),(5,196),(6,197),(7,198),(8,199)] (jH p s_ (at' [u1,u3] u4.toNat))) fun u2=> .rg {fr:=[(7,200)],fz:=[191,192,193,194,195,196,197,198]} []<| .fz [200]<| .TF 6 [((!decide (u0.2=u2.2)),false)] ⟨fun{u8} hr_7=>((Fn.wX (frz:=[181,182,183,184,185,186,187,188]) (p:=[u0.1.events.length=u0.1.events.length,u0.1.state.closed.length=u0.1.state.closed.length,u0.1.state.locked.length=u0.1.state.locked.length,u0.1.state.badLink.length=u0.1.state.badLink.length,u0.1.state.on_.length=u0.1.state.on_.length,u0.1.state.badSource.length=u0.1.state.badSource.length,u0.1.state.earthed.length=u0.1.state.earthed.length,u0.1.state.badBus.length=u0.1.state.badBus.length]) (vH u0.1 u2.1 hr_7) (by kernel_rfl) ⟨rfl,rfl,rfl,rfl,rfl,rfl,rfl,rfl,trivial⟩ rfl):Fn Tryz.prog 13 [(.agg [(.own 181 false u0.1.events.length),(cB u0.1.cleared),(cI u0.1.millis),(cI u0.1.energy),(.own 182 false u0.1.state.closed.length),(.own 183 false u0.1.state.locked.length),(.own 184 false u0.1.state.badLink.length),(.own 185 false u0.1.state.on_.length),(.own 186 false u0.1.state.badSource.length),(.own 187 false u0.1.state.earthed.length),(.own 188 false u0.1.state.badBus.length)]),(.agg [(.d (aR none 2 Event.cell u2.1.events)),(cB u2.1.cleared),(cI u2.1.millis),(cI u2.1.energy),(.d (aR none 1 af u2.1.state.closed)),(.d (aR none 1 af u2.1.state.locked)),(.d (aR none 1 af u2.1.state.badLink)),(.d (aR none 1 af u2.1.state.on_)),(.d (Qm u2)),(.d (aR none 1 af u2.1.state.earthed)),(.d (aR none 1 af u2.1.state.badBus))])] (V9 u0) (vB u8) (V9 u0))⟩ fun u8=> .r<| .it (.r<| .e (.done (.ret false)))
  (.r<| .lp (σ:=((List Bool) × Int)) (β:=Unit) (u0.1.state.locked,0) [] [] ⟨[3,4,7,8,10,11,32,33,34],[181,182,184,185,186,187,188],fun(a5,i)=>[(15,(vI i))],fun(a5,i)=>[(183,some (aV 4 1 af a5)),(190,some (.cells 38 [(.own 181 false u0.1.events.length),(cB u0.1.cleared),(cI u0.1.millis),(cI u0.1.energy),(.own 182 false u0.1.state.closed.length),(.own 183 false a5.length),(.own 184 false u0.1.state.badLink.length),(.own 185 false u0.1.state.on_.length),(.own 186 false u0.1.state.badSource.length),(.own 187 false u0.1.state.earthed.length),(.own 188 false u0.1.state.badBus.length)]))]⟩ ⟨[3,4,7,8,10,32,33,34],[],fun _=>[],fun _=>[]⟩
  (fun(a5,i)=> .r<| .it (.a1 (Gx a5 i)<| .rg {an:=[(12, .arr 0 (au af (a5.set i.toNat (!(at' a5 i.toNat)))))]} [0, .t 0 i a5.length,0, .t 0 i a5.length, .pf ⟨aB a5.length 1 (iH (au af a5) i.toNat 0 [(.bool (!(at' a5 i.toNat)))]) (au af (a5.set i.toNat (!(at' a5 i.toNat)))),bJ _ _ _ _ _ _ _ _ rfl (fun j hj=>(match j,hj with|0,_=>rfl))⟩]<| .im (.ll 183 a5 (a5.set i.toNat (!(at' a5 i.toNat))))<| .r<| .e (.next ((a5.set i.toNat (!(at' a5 i.toNat))),(k5 i))))
  (.e (.done (.brk ()))))
  (fun _=> .cl 3 (lF u5 u6 (at' [u1,u3] u4.toNat)) fun v4=> .r<| .cl 3 (wZ p s_ (at' [u1,u3] u4.toNat)) fun v5=> .r<| .r<| .it (.r<| .e (.done (.ret false)))
  (.cl 3 (nJ [(0,201)] (rE u5 u6 (at' [u1,u3] u4.toNat))) fun u9=> .rg {fz:=[201]} []<| .cl 3 (BN p s_ (at' [u1,u3] u4.toNat)) fun v0=> .r<| .cg 6 [((!decide (u9.2=v0.2)),false)] (si u9.1 v0.1) fun v6=> .r<| .it (.r<| .e (.done (.ret false)))
  (.r<| .e (.next (k5 u4)))))))
  (.e (.done (.brk ()))))
  (fun _=> .cl 2 (zb p u5) fun u7=> .cg 6 [(u7,true)] (qW s_ u6) fun v1=> .cg 9 [((bif u7 then v1 else false),true)] jS fun v3=> .r<| .e (bif (bif u7 then v1 else false)then v3 else false))))
theorem su (p:ai) (s_:State):eH Tryz.prog 54 (k25 s_ p) [] (fun r=>(.iq [(sD (aR none 11 ah.cell r.1)),(sI r.2)])) (fun _=>[]) (fU p s_):=
  fC tT mX Tryz.func54 (
  .rg {fr:=[(0,50),(1,51)],fz:=[50,51]} []<| .cl 2 (iJ p s_) fun r_=> .r<| .r<| .it (.r<| .e (([]:List ah),r_))
  (.r<| .r<| .im (.ad 7 100 44 11 (au ah.cell ([]:List ah)))<| .lp (σ:=((List ah) × Int)) (β:=(List ah)) (([]:List ah),0) [] [(100,63)] ⟨[2,3],[],fun(u1,b)=>[(7,(vO 63 false u1.length)),(8,(vI b))],fun(u1,b)=>[(63,some (aV 44 11 ah.cell u1))]⟩ ⟨[],[],fun u2=>[(7,(vO 63 false u2.length))],fun u2=>[(63,some (aV 44 11 ah.cell u2))]⟩
  (fun(u1,b)=> .r<| .it (.cl 3 (nJ [(0,88),(1,89),(2,90),(3,91),(4,92),(5,93),(6,94),(7,95),(8,96)] (jH p s_ b)) fun u0=> .rg {fr:=[(7,97)],fz:=[88,89,90,91,92,93,94,95]} []<| .fz [97]<| .a2 ((u1.length+[u0.1].length)*216≤140737488355328) (u1.length+[u0.1].length≤4611686018427387904)<| .rg {an:=[(2, .arr [u0.1].length (au ah.cell [u0.1])),(3, .arr (u1++[u0.1]).length (au ah.cell (u1++[u0.1])))],fr:=[(2,98),(3,99)]} [.pf ⟨[u0.1].length=1,rfl⟩, .pf ⟨aB 1 11 (lM 11 [(aR none 2 Event.cell u0.1.events),(.bool u0.1.cleared),(.int .i64 u0.1.millis),(.int .i64 u0.1.energy),(aR none 1 af u0.1.state.closed),(aR none 1 af u0.1.state.locked),(aR none 1 af u0.1.state.badLink),(aR none 1 af u0.1.state.on_),(Qm u0),(aR none 1 af u0.1.state.earthed),(aR none 1 af u0.1.state.badBus)]) (au ah.cell [u0.1]),(by intro i hi j hj;match i,j,hi,hj with|0,0,_,_=>rfl|0,1,_,_=>rfl|0,2,_,_=>rfl|0,3,_,_=>rfl|0,4,_,_=>rfl|0,5,_,_=>rfl|0,6,_,_=>rfl|0,7,_,_=>rfl|0,8,_,_=>rfl|0,9,_,_=>rfl|0,10,_,_=>rfl)⟩, .e (u1.length),0,1, .pf ⟨(u1++[u0.1]).length=u1.length+[u0.1].length,List.length_append⟩, .pf ⟨aB (u1.length+[u0.1].length) 11 (oM (au ah.cell u1) u1.length (au ah.cell [u0.1])) (au ah.cell (u1++[u0.1])),bD _ _ _ _⟩]<| .r<| .en (.next ((u1++[u0.1]),(k5 b))) [] [(99,63)])
  (.e (.done (.brk u1))))
  (fun u2=> .rg {fz:=[63]} []<| .e (u2,0))))
theorem pO (p:ai) (s_:State):eH Tryz.prog 53 (k25 s_ p) [] (fun r=>(.iq [(.one (.own 0 false r.1.length)),(sI r.2)])) (fun r=>[(0,some (aV 38 11 aA.cell r.1))]) (fZ p s_):=
  fC tT mX Tryz.func53 (
  .rg {fr:=[(0,50),(1,51)],fz:=[50,51]} []<| .cl 2 (fE p s_) fun r_=> .r<| .r<| .it (.r<| .im (.ad 4 52 38 11 (au aA.cell ([]:List aA)))<| .en (([]:List aA),r_) [] [(52,0)])
  (.r<| .r<| .im (.ad 7 101 38 11 (au aA.cell ([]:List aA)))<| .lp (σ:=((List aA) × Int)) (β:=(List aA)) (([]:List aA),0) [] [(101,64)] ⟨[2,3,18],[],fun(u1,u2)=>[(7,(vO 64 false u1.length)),(19,(vI u2))],fun(u1,u2)=>[(64,some (aV 38 11 aA.cell u1))]⟩ ⟨[],[],fun u3=>[(7,(vO 64 false u3.length))],fun u3=>[(64,some (aV 38 11 aA.cell u3))]⟩
  (fun(u1,u2)=> .r<| .it (.r<| .cl 3 (nJ [(0,89),(1,90),(2,91),(3,92),(4,93),(5,94),(6,95),(7,96),(8,97)] (fA p s_ u2)) fun u0=> .rg {fr:=[(7,98)],fz:=[89,90,91,92,93,94,95,96]} []<| .fz [98]<| .a2 ((u1.length+[u0.1].length)*216≤140737488355328) (u1.length+[u0.1].length≤4611686018427387904)<| .rg {an:=[(2, .arr [u0.1].length (au aA.cell [u0.1])),(3, .arr (u1++[u0.1]).length (au aA.cell (u1++[u0.1])))],fr:=[(2,99),(3,100)]} [.pf ⟨[u0.1].length=1,rfl⟩, .pf ⟨aB 1 11 (lM 11 [(aR none 2 Event.cell u0.1.events),(.bool u0.1.cleared),(.int .i64 u0.1.millis),(.int .i64 u0.1.energy),(aR none 1 af u0.1.state.closed),(aR none 1 af u0.1.state.locked),(aR none 1 af u0.1.state.badLink),(aR none 1 af u0.1.state.on_),(aR none 1 af u0.1.state.badSource),(aR none 1 af u0.1.state.earthed),(aR none 1 af u0.1.state.badBus)]) (au aA.cell [u0.1]),(by intro i hi j hj;match i,j,hi,hj with|0,0,_,_=>rfl|0,1,_,_=>rfl|0,2,_,_=>rfl|0,3,_,_=>rfl|0,4,_,_=>rfl|0,5,_,_=>rfl|0,6,_,_=>rfl|0,7,_,_=>rfl|0,8,_,_=>rfl|0,9,_,_=>rfl|0,10,_,_=>rfl)⟩, .e (u1.length),0,1, .pf ⟨(u1++[u0.1]).length=u1.length+[u0.1].length,List.length_append⟩, .pf ⟨aB (u1.length+[u0.1].length) 11 (oM (au aA.cell u1) u1.length (au aA.cell [u0.1])) (au aA.cell (u1++[u0.1])),bD _ _ _ _⟩]<| .r<| .en (.next ((u1++[u0.1]),(k5 u2))) [] [(100,64)])
  (.e (.done (.brk u1))))
  (fun u3=> .r<| .en (u3,0) [] [(64,0)])))
theorem Az (p:ai) (s_:State):eH Tryz.prog 55 (k25 s_ p) [] (fun r=>(.iq [(sI r.1),(sI r.2.1),(sI r.2.2)])) (fun _=>[]) (kN p s_):=
  fC tT mX Tryz.func55 (
  .rg {fr:=[(0,7),(1,8)],fz:=[7,8]} []<| .cl 2 (nJ [(0,9)] (pO p s_)) fun r_=> .r<| .r<| .it (.r<| .e (0,0,r_.2))
  (.r<| .r<| .lp (σ:=(Int × Int × Int)) (β:=(Int × Int)) ((-1),0,0) [] [] ⟨[22,23],[9],fun(u1,u2,u0)=>[(9,(vI u1)),(10,(vI u2)),(24,(vI u0))],fun(u1,u2,u0)=>[]⟩ ⟨[],[],fun(u3,u4)=>[(9,(vI u3)),(10,(vI u4))],fun(u3,u4)=>[]⟩
  (fun(u1,u2,u0)=> .r<| .it (.a1 ((0:Int)≤u0∧u0<(r_.1.length:Int))<| .rg {fr:=[(3,13)],fz:=[13]} [0, .t 0 u0 r_.1.length]<| .r<| .it (.r<| .r<| .e (.next (u0,(at' r_.1 u0.toNat).energy,(k5 u0))))
  (.r<| .e (.next (u1,u2,(k5 u0)))))
  (.e (.done (.brk (u1,u2)))))
  (fun(u3,u4)=> .r<| .e (u3,u4,0))))
section
variable (b:Int) (r_:((List ah) × Int))
abbrev QS:=((0:Int)≤b∧b<(r_.1.length:Int))
end
theorem Bb (p:ai) (s_:State):eH Tryz.prog 56 (k25 s_ p) [] (fun r=>(.iq [(sI r.1),(sI r.2.1),(sI r.2.2)])) (fun _=>[]) (kJ p s_):=
  fC tT mX Tryz.func56 (
  .rg {fr:=[(0,2),(1,3)],fz:=[2,3]} []<| .cl 2 (su p s_) fun r_=> .r<| .r<| .it (.r<| .e (0,0,r_.2))
  (.r<| .lp (σ:=Int) (β:=Unit) (0) [] [] ⟨[7],[],fun b=>[(9,(vI b))],fun b=>[]⟩ ⟨[],[],fun _=>[],fun _=>[]⟩
  (fun b=> .r<| .it (.a1 (QS b r_)<| .r<| .r<| .lp (σ:=(Bool × Int)) (β:=Bool) ((at' r_.1 b.toNat).cleared,0) [] [] ⟨[7,9],[],fun(u0,c)=>[(10,(vB u0)),(11,(vI c))],fun(u0,c)=>[]⟩ ⟨[7,9],[],fun u1=>[(10,(vB u1))],fun u1=>[]⟩
  (fun(u0,c)=> .r<| .it (.a5 (QS c r_) ((gB [((at' r_.1 c.toNat).cleared,true)]=true→(0:Int)≤c∧c<(r_.1.length:Int))) ((gB [((at' r_.1 c.toNat).cleared,true)]=true→(0:Int)≤b∧b<(r_.1.length:Int))) ((gB [((decide (((at' r_.1 b.toNat).energy)<((at' r_.1 c.toNat).energy))),false),((at' r_.1 c.toNat).cleared,true)]=true→(0:Int)≤c∧c<(r_.1.length:Int))) ((gB [((decide (((at' r_.1 b.toNat).energy)<((at' r_.1 c.toNat).energy))),false),((at' r_.1 c.toNat).cleared,true)]=true→(0:Int)≤b∧b<(r_.1.length:Int)))<| .rg {} [0,1,2,3,4]<| .it (.r<| .r<| .e (.next (false,(k5 c))))
  (.r<| .e (.next (u0,(k5 c)))))
  (.e (.done (.brk u0))))
  (fun u1=> .r<| .it (.a1 (QS b r_)<| .r<| .e (.done (.ret (b,(at' r_.1 b.toNat).energy,0))))
  (.r<| .e (.next (k5 b)))))
  (.e (.done (.brk ()))))
  (fun _=> .r<| .e ((-1),0,0))))
section
variable (u2:(Int × Int × Int)) (u3:(Int × Int × Int)) (u5:(Int × Bool)) (u6:(Int × Bool))
abbrev Vz:=(bif (bif (bif (bif (decide (u2.1=u3.1))then(decide (u2.2.1=u3.2.1))else false)then(decide (u2.2.2=u3.2.2))else false)then(decide (u5.1=u6.1))else false)then(u5.2==u6.2)else false)
end
theorem nA (p:ai) (s_:State) (x:Link) (u4:Int):eH Tryz.prog 22 [(.agg (k0 p)),(.agg (k26 s_)),(.agg (k1 x)),(sI u4)] [] (fun r=>(vB r)) (fun _=>[]) (dD p s_ x u4):=
  fC tT mX Tryz.func22 (
  .rg {fr:=[(0,4),(1,5),(2,6)],fz:=[4,5,6]} []<| .cl 1 (wH p) fun r_=> .r<| .it (.cl 0 jS fun u7=> .r<| .e u7)
  (.cl 2 (nJ [(0,7)] (pO p s_)) fun u0=> .rg {fz:=[7]} []<| .cl 2 (su p s_) fun u1=> .r<| .r<| .it (.r<| .e false)
  (.r<| .lp (σ:=Int) (β:=Unit) (0) [] [] ⟨[3,4,5,6,9,11],[],fun i=>[(13,(vI i))],fun i=>[]⟩ ⟨[3,4,5,6],[],fun _=>[],fun _=>[]⟩
  (fun i=> .r<| .it (.cl 8 (vH (⟨(at' u0.1 i.toNat).events,(at' u0.1 i.toNat).cleared,(at' u0.1 i.toNat).millis,(at' u0.1 i.toNat).energy,((at' u0.1 i.toNat).state)⟩:aA) (⟨(at' u1.1 i.toNat).events,(at' u1.1 i.toNat).cleared,(at' u1.1 i.toNat).millis,(at' u1.1 i.toNat).energy,((at' u1.1 i.toNat).state)⟩:ah)) fun u9=> .a2 ((0:Int)≤i∧i<(u0.1.length:Int)) (QS i u1)<| .rg {} [0,1,2]<| .it (.r<| .e (.done (.ret false)))
  (.r<| .e (.next (k5 i))))
  (.e (.done (.brk ()))))
  (fun _=> .cl 2 (Az p s_) fun u2=> .r<| .cl 2 (Bb p s_) fun u3=> .r<| .cl 2 (o5 x u4) fun u5=> .r<| .cl 2 (tu x u4) fun u6=> .r<| .cg 24 [((Vz u2 u3 u5 u6),true)] jS fun u8=> .r<| .e (bif (Vz u2 u3 u5 u6)then u8 else false)))))
theorem vV:eH Tryz.prog 21 [] [] (fun _=>(.iq [(.agg [(cI 3),(.own 0 true ([(⟨0,1,500,0,20⟩:Source)].length)),(.own 1 true 2),(.own 2 true ([(⟨(⟨2,(-1)⟩:aM),100,1⟩:aJ),(⟨(⟨1,2⟩:aM),100,0⟩:aJ)].length))]),(.agg [(.own 3 true ([true,true].length)),(.own 4 true ((List.replicate 2 (false:Bool)).length)),(.own 5 true ((List.replicate 2 (false:Bool)).length)),(.own 6 true ([true].length)),(.own 7 true ((List.replicate 1 (false:Bool)).length)),(.own 8 true ((List.replicate 3 (false:Bool)).length)),(.own 9 true ((List.replicate 3 (false:Bool)).length))])])) (fun _=>[(0,some (aV 60 5 Source.cell [(⟨0,1,500,0,20⟩:Source)])),(1,some (.rows 66 6 2 (UO 6 [.d (.int .i64 0), .d (.int .i64 1), .d (.int .i64 3), .d (.int .i64 400), .d (.int .i64 10), .d Kj, .d (.int .i64 1), .d (.int .i64 2), .d (.int .i64 3), .d (.int .i64 400), .d (.int .i64 10), .row 63 2 [(⟨1000,50⟩:aF)].length (au aF.cell [(⟨1000,50⟩:aF)])]) none)),(2,some (aV 71 4 aJ.cell [(⟨(⟨2,(-1)⟩:aM),100,1⟩:aJ),(⟨(⟨1,2⟩:aM),100,0⟩:aJ)])),(3,some (aV 4 1 af [true,true])),(4,some (aV 4 1 af (List.replicate 2 (false:Bool)))),(5,some (aV 4 1 af (List.replicate 2 (false:Bool)))),(6,some (aV 4 1 af [true])),(7,some (aV 4 1 af (List.replicate 1 (false:Bool)))),(8,some (aV 4 1 af (List.replicate 3 (false:Bool)))),(9,some (aV 4 1 af (List.replicate 3 (false:Bool)))),(10,none),(11,none)]) (qY):=
  fC tT mX Tryz.func21 (
  .rg {fr:=[(0,15),(1,16)]} []<| .rg {an:=[(1, .arr [(⟨0,1,500,0,20⟩:Source)].length (au Source.cell [(⟨0,1,500,0,20⟩:Source)])),(4, .frz [(⟨1000,400⟩:aF),(⟨10000,100⟩:aF)].length (au aF.cell [(⟨1000,400⟩:aF),(⟨10000,100⟩:aF)])),(7, .arr [(⟨1000,50⟩:aF)].length (au aF.cell [(⟨1000,50⟩:aF)])),(9, .take 11),(14, .arr [(⟨(⟨2,(-1)⟩:aM),100,1⟩:aJ),(⟨(⟨1,2⟩:aM),100,0⟩:aJ)].length (au aJ.cell [(⟨(⟨2,(-1)⟩:aM),100,1⟩:aJ),(⟨(⟨1,2⟩:aM),100,0⟩:aJ)]))],fr:=[(1,17),(7,19),(9,20),(14,21),(16,22)]} [.pf ⟨[(⟨0,1,500,0,20⟩:Source)].length=1,rfl⟩, .pf ⟨aB 1 5 (lM 5 [(.int .i64 0),(.int .i64 1),(.int .i64 500),(.int .i64 0),(.int .i64 20)]) (au Source.cell [(⟨0,1,500,0,20⟩:Source)]),(by intro i hi j hj;match i,j,hi,hj with|0,0,_,_=>rfl|0,1,_,_=>rfl|0,2,_,_=>rfl|0,3,_,_=>rfl|0,4,_,_=>rfl)⟩, .pf ⟨[(⟨1000,400⟩:aF),(⟨10000,100⟩:aF)].length=2,rfl⟩, .pf ⟨aB 2 2 (lM 2 [(.int .i64 1000),(.int .i64 400),(.int .i64 10000),(.int .i64 100)]) (au aF.cell [(⟨1000,400⟩:aF),(⟨10000,100⟩:aF)]),(by intro i hi j hj;match i,j,hi,hj with|0,0,_,_=>rfl|0,1,_,_=>rfl|1,0,_,_=>rfl|1,1,_,_=>rfl)⟩, .pf ⟨[(⟨1000,50⟩:aF)].length=1,rfl⟩, .pf ⟨aB 1 2 (lM 2 [(.int .i64 1000),(.int .i64 50)]) (au aF.cell [(⟨1000,50⟩:aF)]),(by intro i hi j hj;match i,j,hi,hj with|0,0,_,_=>rfl|0,1,_,_=>rfl)⟩, .pf ⟨[(⟨(⟨2,(-1)⟩:aM),100,1⟩:aJ),(⟨(⟨1,2⟩:aM),100,0⟩:aJ)].length=2,rfl⟩, .pf ⟨aB 2 4 (lM 4 Uy) (au aJ.cell [(⟨(⟨2,(-1)⟩:aM),100,1⟩:aJ),(⟨(⟨1,2⟩:aM),100,0⟩:aJ)]),(by intro i hi j hj;match i,j,hi,hj with|0,0,_,_=>rfl|0,1,_,_=>rfl|0,2,_,_=>rfl|0,3,_,_=>rfl|1,0,_,_=>rfl|1,1,_,_=>rfl|1,2,_,_=>rfl|1,3,_,_=>rfl)⟩]<| .im (.fo 20 19 66 6 2 1 5 63 2 [(⟨1000,50⟩:aF)].length true (fun i j=> .d (lM 6 [(.int .i64 0),(.int .i64 1),(.int .i64 3),(.int .i64 400),(.int .i64 10),Kj,(.int .i64 1),(.int .i64 2),(.int .i64 3),(.int .i64 400),(.int .i64 10), .nilp] i j)) (UO 6 [.d (.int .i64 0), .d (.int .i64 1), .d (.int .i64 3), .d (.int .i64 400), .d (.int .i64 10), .d Kj, .d (.int .i64 1), .d (.int .i64 2), .d (.int .i64 3), .d (.int .i64 400), .d (.int .i64 10), .row 63 2 [(⟨1000,50⟩:aF)].length (au aF.cell [(⟨1000,50⟩:aF)])]) (au aF.cell [(⟨1000,50⟩:aF)]) (by intro i hi j hj;match i,j,hi,hj with|0,0,_,_=>rfl|0,1,_,_=>rfl|0,2,_,_=>rfl|0,3,_,_=>rfl|0,4,_,_=>rfl|0,5,_,_=>rfl|1,0,_,_=>rfl|1,1,_,_=>rfl|1,2,_,_=>rfl|1,3,_,_=>rfl|1,4,_,_=>rfl|1,5,_,_=>rfl))<| .as _ inferInstance [(0:Int)≤2,(1:Int)*2≤281474976710656,(2:Int)≤9223372036854775807,(0:Int)≤1,(1:Int)*1≤281474976710656,(1:Int)≤9223372036854775807,(0:Int)≤3,(1:Int)*3≤281474976710656,(3:Int)≤9223372036854775807] (fun h=> ⟨h.1,h.2.1,h.2.2.1,h.2.2.2.1,h.2.2.2.2.1,h.2.2.2.2.2.1,h.2.2.2.2.2.2.1,h.2.2.2.2.2.2.2.1,h.2.2.2.2.2.2.2.2,trivial⟩:(((0:Int)≤2)∧((1:Int)*2≤281474976710656)∧((2:Int)≤9223372036854775807)∧((0:Int)≤1)∧((1:Int)*1≤281474976710656)∧((1:Int)≤9223372036854775807)∧((0:Int)≤3)∧((1:Int)*3≤281474976710656)∧((3:Int)≤9223372036854775807))→_)<| .rg {an:=[(1, .arr [true,true].length (au af [true,true])),(2, .arr (List.replicate 2 (false:Bool)).length (au af (List.replicate 2 (false:Bool)))),(3, .arr (List.replicate 2 (false:Bool)).length (au af (List.replicate 2 (false:Bool)))),(4, .arr [true].length (au af [true])),(5, .arr (List.replicate 1 (false:Bool)).length (au af (List.replicate 1 (false:Bool)))),(6, .arr (List.replicate 3 (false:Bool)).length (au af (List.replicate 3 (false:Bool)))),(7, .arr (List.replicate 3 (false:Bool)).length (au af (List.replicate 3 (false:Bool))))],fr:=[(1,23),(2,24),(3,25),(4,26),(5,27),(6,28),(7,29)]} [.pf ⟨[true,true].length=2,rfl⟩, .pf ⟨aB 2 1 (lM 1 [(.bool true),(.bool true)]) (au af [true,true]),(by intro i hi j hj;match i,j,hi,hj with|0,0,_,_=>rfl|1,0,_,_=>rfl)⟩,0, .e ((2:Int)),1,2, .pf ⟨(List.replicate 2 (false:Bool)).length=2,List.length_replicate⟩, .pf ⟨aB 2 1 (fun _ j=>[(.bool false)].getD j .nilp) (au af (List.replicate 2 (false:Bool))),bY _ _ _ _ _ (fun j hj=>(match j,hj with|0,_=>rfl))⟩,0, .e ((2:Int)),1,2, .pf ⟨(List.replicate 2 (false:Bool)).length=2,List.length_replicate⟩, .pf ⟨aB 2 1 (fun _ j=>[(.bool false)].getD j .nilp) (au af (List.replicate 2 (false:Bool))),bY _ _ _ _ _ (fun j hj=>(match j,hj with|0,_=>rfl))⟩, .pf ⟨[true].length=1,rfl⟩, .pf ⟨aB 1 1 (lM 1 [(.bool true)]) (au af [true]),(by intro i hi j hj;match i,j,hi,hj with|0,0,_,_=>rfl)⟩,3, .e ((1:Int)),4,5, .pf ⟨(List.replicate 1 (false:Bool)).length=1,List.length_replicate⟩, .pf ⟨aB 1 1 (fun _ j=>[(.bool false)].getD j .nilp) (au af (List.replicate 1 (false:Bool))),bY _ _ _ _ _ (fun j hj=>(match j,hj with|0,_=>rfl))⟩,6, .e ((3:Int)),7,8, .pf ⟨(List.replicate 3 (false:Bool)).length=3,List.length_replicate⟩, .pf ⟨aB 3 1 (fun _ j=>[(.bool false)].getD j .nilp) (au af (List.replicate 3 (false:Bool))),bY _ _ _ _ _ (fun j hj=>(match j,hj with|0,_=>rfl))⟩,6, .e ((3:Int)),7,8, .pf ⟨(List.replicate 3 (false:Bool)).length=3,List.length_replicate⟩, .pf ⟨aB 3 1 (fun _ j=>[(.bool false)].getD j .nilp) (au af (List.replicate 3 (false:Bool))),bY _ _ _ _ _ (fun j hj=>(match j,hj with|0,_=>rfl))⟩]<| .en () [] [(17,0),(20,1),(21,2),(23,3),(24,4),(25,5),(26,6),(27,7),(28,8),(29,9),(15,10),(16,11)])
end
end Sg
