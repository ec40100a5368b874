import Derived.Test.YtbjhjmcpfmhgdaaGreatWsW1
set_option linter.all false
namespace Sg
open Go Go.Proofs
set_option maxRecDepth 20000
noncomputable section
section
variable (x:aC)
abbrev Xm:List CV:=[(.d (aH none 2 Part.cell x.parts)),(cI x.hours),(cI x.from_),(cI x.to_),(cI x.people),(.d (aH none 1 (aA .i64) x.after))]
end
theorem BR (x:aC) (u0:Int):bN Tryz.prog 90 [(.agg (Xm x)),(sI u0)] [] (fun r=>(vB r)) (fun _=>[]) (xO x u0):=
  bO tT mX Tryz.func90 (
  .rg {fr:=[(0,1)],fz:=[1]} []<| .r<| .it (.r<| .e false)
  (.r<| .lp (σ:=Int) (β:=Unit) (0) [] [] ⟨[1,2],[],fun i=>[(5,(vI i))],fun i=>[]⟩ ⟨[1,2],[],fun _=>[],fun _=>[]⟩
  (fun i=> .r<| .it (.r<| .lp (σ:=Int) (β:=Unit) (0) [] [] ⟨[1,2,5],[],fun kz=>[(6,(vI kz))],fun kz=>[]⟩ ⟨[1,2,5],[],fun _=>[],fun _=>[]⟩
  (fun kz=> .r<| .it (.a2 ((0:Int)≤i∧i<(x.parts.length:Int)) ((0:Int)≤kz∧kz<(x.parts.length:Int))<| .rg {} [0,1]<| .it (.r<| .e (.done (.ret (.done (.ret false)))))
  (.r<| .e (.next (k18 kz))))
  (.e (.done (.brk ()))))
  (fun _=> .r<| .e (.next (k18 i))))
  (.e (.done (.brk ()))))
  (fun _=> .r<| .lp (σ:=Int) (β:=Unit) (0) [] [] ⟨[1,2],[],fun i1=>[(7,(vI i1))],fun i1=>[]⟩ ⟨[],[],fun _=>[],fun _=>[]⟩
  (fun i1=> .r<| .it (.a2 ((0:Int)≤i1∧i1<(x.after.length:Int)) ((gB [((decide ((at' x.after i1.toNat)<0)),false)]=true→(0:Int)≤i1∧i1<(x.after.length:Int)))<| .rg {} [0,1]<| .it (.r<| .e (.done (.ret false)))
  (.r<| .e (.next (k18 i1))))
  (.e (.done (.brk ()))))
  (fun _=> .r<| .e true))))
theorem jl (l:(List Bool)) (i:Int) (is:Bool):bN Tryz.prog 166 [(sD (aH none 1 af l)),(sI i),(sB is)] [] (fun r=>(vO 0 false r.length)) (fun r=>[(0,some (bg 4 1 af r))]) (nC l i is):=
  bO tT mX Tryz.func166 (
  .r<| .a2 ((([]:List Bool).length+l.length)*1≤140737488355328) (([]:List Bool).length+l.length≤4611686018427387904)<| .rg {an:=[(0, .arr ([]:List Bool).length (ah af ([]:List Bool))),(2, .arr (([]:List Bool)++l).length (YH l))],fr:=[(0,2),(2,3)]} [.pf ⟨([]:List Bool).length=0,rfl⟩, .pf ⟨av 0 1 (eO 1 []) (ah af ([]:List Bool)),(fun i hi=>absurd hi (Nat.not_lt_zero i))⟩, .e (([]:List Bool).length),0,1, .pf ⟨(([]:List Bool)++l).length=([]:List Bool).length+l.length,List.length_append⟩, .pf ⟨av (([]:List Bool).length+l.length) 1 (dQ (ah af ([]:List Bool)) ([]:List Bool).length (ah af l)) (YH l),aW _ _ _ _⟩]<| .a1 ((0:Int)≤i∧i<((([]:List Bool)++l).length:Int))<| .rg {an:=[(4, .arr 0 (ah af ((([]:List Bool)++l).set i.toNat is)))]} [0, .t 0 i ((([]:List Bool)++l).length), .pf ⟨av (([]:List Bool)++l).length 1 (bW (YH l) i.toNat 0 [(.bool is)]) (ah af ((([]:List Bool)++l).set i.toNat is)),aR _ _ _ _ _ _ _ _ rfl (fun j hj=>(match j,hj with|0,_=>rfl))⟩]<| .im (.ll 3 (([]:List Bool)++l) ((([]:List Bool)++l).set i.toNat is))<| .r<| .en ((([]:List Bool)++l).set i.toNat is) [] [(3,0)])
section
variable (u4:(List Bool)) (u5:(List Bool)) (u6:(List Bool)) (u7:(List Bool)) (u8:(List Bool)) (u9:(List Bool)) (v0:(List Bool)) (u0:(List Int))
abbrev VB:Ob:=(.cells 29 [(.d (aH none 1 af u4)),(.d (aH none 1 af u5)),(.d (aH none 1 af u6)),(.d (aH none 1 af u7)),(.d (aH none 1 af u8)),(.d (aH none 1 af u9)),(.d (aH none 1 af v0))])
abbrev Zh:Nat × Option Ob:=(56,some (VB u4 u5 u6 u7 u8 u9 v0))
abbrev Zm:List (Nat × Option Ob):=[(Zh u4 u5 u6 u7 u8 u9 v0),(65,some (rC u0))]
end
theorem lV (p:aF) (s_:State) (l:(List Transfer)):bN Tryz.prog 89 (ZH p s_ l) [] (fun r=>(.bZ [(.agg [(.d (aH none 1 af r.1.closed)),(.d (aH none 1 af r.1.locked)),(.d (aH none 1 af r.1.badLink)),(.d (aH none 1 af r.1.on_)),(.d (aH none 1 af r.1.badSource)),(.d (aH none 1 af r.1.earthed)),(.d (aH none 1 af r.1.badBus))]),(.one (.own 0 false r.2.1.length)),(sI r.2.2)])) (fun r=>[(0,some (bg 3 1 (aA .i64) r.2.1))]) (oD p s_ l):=
  bO tT mX Tryz.func89 (
  .rg {fr:=[(0,52),(1,53),(2,54)],fz:=[52,53]} []<| .cl 3 (iT p s_ l) fun r_=> .r<| .r<| .it (.r<| .im (.ad 7 55 3 1 (ah (aA .i64) ([]:List Int)))<| .en (XF r_) [54] [(55,0)])
  (.cl 1 (yI s_) fun u1=> .rg {fr:=[(2,56)]} []<| .r<| .r<| .im (.ad 11 105 3 1 (ah (aA .i64) ([]:List Int)))<| .lp (σ:=((List Bool) × (List Bool) × (List Bool) × (List Bool) × (List Bool) × (List Bool) × (List Bool) × (List Int) × Int)) (β:=((List Bool) × (List Bool) × (List Bool) × (List Bool) × (List Bool) × (List Bool) × (List Bool) × (List Int))) (u1.closed,u1.locked,u1.badLink,u1.on_,u1.badSource,u1.earthed,u1.badBus,([]:List Int),0) [] [(105,65)] ⟨[2,3,6,10],[54],fun(u4,u5,u6,u7,u8,u9,v0,u0,n)=>[(11,(vO 65 false u0.length)),(12,(vI n))],fun(u4,u5,u6,u7,u8,u9,v0,u0,n)=>(Zm u4 u5 u6 u7 u8 u9 v0 u0)⟩ ⟨[6,10],[54],fun(v3,v4,v5,v6,v7,v8,v9,v1)=>[(11,(vO 65 false v1.length))],fun(v3,v4,v5,v6,v7,v8,v9,v1)=>(Zm v3 v4 v5 v6 v7 v8 v9 v1)⟩
  (fun(u4,u5,u6,u7,u8,u9,v0,u0,n)=> .r<| .it (.r<| .lp (σ:=Int) (β:=((List Bool) × (List Bool) × (List Bool) × (List Bool) × (List Bool) × (List Bool) × (List Bool) × (List Int))) (0) [] [] ⟨[2,3,6,10,11,12],[54,56,65],fun i=>[(13,(vI i))],fun i=>[]⟩ ⟨[2,3,6,10,12],[54],fun(w0,w1,w2,w3,w4,w5,w6,v2)=>[(11,(vO 101 false v2.length))],fun(w0,w1,w2,w3,w4,w5,w6,v2)=>[(Zh w0 w1 w2 w3 w4 w5 w6),(101,some (rC v2))]⟩
  (fun i=> .r<| .it (.r<| .r<| .lp (σ:=(Bool × Int)) (β:=Bool) (false,0) [] [] ⟨[2,3,6,10,11,12,13],[54,56,65],fun(u2,kz)=>[(14,(vB u2)),(15,(vI kz))],fun(u2,kz)=>[]⟩ ⟨[2,3,6,10,11,12,13],[54,56,65],fun w7=>[(14,(vB w7))],fun w7=>[]⟩
  (fun(u2,kz)=> .r<| .it (.a1 ((gB [(u2,false)]=true→(0:Int)≤kz∧kz<(u0.length:Int)))<| .rg {} [0, .tg 0 [(u2,false)] kz u0.length]<| .r<| .e (.next ((bif u2 then true else(decide ((at' u0 kz.toNat)=i))),(k18 kz))))
  (.e (.done (.brk u2))))
  (fun w7=> .cl 6 (F5 p (⟨u4,u5,u6,u7,u8,u9,v0⟩:State) (at' l i.toNat)) fun u3=> .a1 ((0:Int)≤i∧i<(l.length:Int))<| .rg {fr:=[(10,102)]} [0,1]<| .r<| .it (.r<| .a2 (Ps u0 i) (QW u0 i)<| .rg {an:=[(2, .arr [i].length (ah (aA .i64) [i])),(3, .arr (u0++[i]).length (Gb u0 i))],fr:=[(2,103),(3,104)]} [.pf ⟨[i].length=1,rfl⟩, .pf ⟨av 1 1 (eO 1 [(.int .i64 i)]) (ah (aA .i64) [i]),(by intro i hi j hj;match i,j,hi,hj with|0,0,_,_=>rfl)⟩, .e (u0.length),0,1, .pf ⟨(u0++[i]).length=u0.length+[i].length,List.length_append⟩, .pf ⟨av (u0.length+[i].length) 1 (Qy u0 i) (Gb u0 i),aW _ _ _ _⟩]<| .en (.done (.brk (u3.1.closed,u3.1.locked,u3.1.badLink,u3.1.on_,u3.1.badSource,u3.1.earthed,u3.1.badBus,(u0++[i])))) [] [(104,101)])
  (.r<| .e (.next (k18 i)))))
  (.en (.done (.brk (u4,u5,u6,u7,u8,u9,v0,u0))) [] [(65,101)]))
  (fun(w0,w1,w2,w3,w4,w5,w6,v2)=> .r<| .en (.next (w0,w1,w2,w3,w4,w5,w6,v2,(k18 n))) [] [(101,65)]))
  (.e (.done (.brk (u4,u5,u6,u7,u8,u9,v0,u0)))))
  (fun(v3,v4,v5,v6,v7,v8,v9,v1)=> .r<| .en ((⟨v3,v4,v5,v6,v7,v8,v9⟩:State),v1,0) [54] [(65,0)])))
theorem lG (p:aF) (s_:State) (x:Part) (is:Bool):bN Tryz.prog 91 (WH p s_ x is) [] (fun r=>(.bZ [(.agg [(.d (aH none 1 af r.1.closed)),(.d (aH none 1 af r.1.locked)),(.d (aH none 1 af r.1.badLink)),(.d (aH none 1 af r.1.on_)),(.d (aH none 1 af r.1.badSource)),(.d (aH none 1 af r.1.earthed)),(.d (aH none 1 af r.1.badBus))]),(sI r.2)])) (fun _=>[]) (oN p s_ x is):=
  bO tT mX Tryz.func91 (
  .rg {fr:=[(0,7),(1,8),(2,9),(3,10)],fz:=[7,9]} []<| .cl 2 (cZ p s_) fun r_=> .r<| .r<| .it (.r<| .en (RF r_) [10] [])
  (.r<| .it (.r<| .en ((⟨([]:List Bool),([]:List Bool),([]:List Bool),([]:List Bool),([]:List Bool),([]:List Bool),([]:List Bool)⟩:State),14) [10] [])
  (.r<| .it (.cl 5 (fw [(0,11)] (jl s_.badBus x.index is)) fun u0=> .r<| .r<| .fz [11]<| .en ((⟨s_.closed,s_.locked,s_.badLink,s_.on_,s_.badSource,s_.earthed,u0⟩:State),0) [10] [])
  (.r<| .it (.cl 5 (fw [(0,12)] (jl s_.badSource x.index is)) fun u1=> .r<| .r<| .fz [12]<| .en ((⟨s_.closed,s_.locked,s_.badLink,s_.on_,u1,s_.earthed,s_.badBus⟩:State),0) [10] [])
  (.r<| .it (.cl 5 (fw [(0,13)] (jl s_.badLink x.index is)) fun u2=> .r<| .r<| .fz [13]<| .en ((⟨s_.closed,s_.locked,u2,s_.on_,s_.badSource,s_.earthed,s_.badBus⟩:State),0) [10] [])
  (.r<| .en ((⟨([]:List Bool),([]:List Bool),([]:List Bool),([]:List Bool),([]:List Bool),([]:List Bool),([]:List Bool)⟩:State),14) [10] []))))))
theorem iM (y:bE):bN Tryz.prog 26 (Pg y) [] (fun r=>(vI r)) (fun _=>[]) (iX y):=
  bO tT mX Tryz.func26 (
  .rg {fr:=[(0,19)],fz:=[19]} []<| .cl 6 (fw [(0,20)] (lV y.plant y.state y.transfers)) fun r_=> .rg {fr:=[(11,21)]} []<| .r<| .it (.r<| .e r_.2.2)
  (.r<| .it (.r<| .e 2)
  (.r<| .lp (σ:=Int) (β:=Unit) (0) [] [] ⟨[1],[],fun i=>[(6,(vI i))],fun i=>[]⟩ ⟨[1],[],fun _=>[],fun _=>[]⟩
  (fun i=> .r<| .it (.cl 6 (BR (at' y.jobs i.toNat) i) fun u1=> .a1 (Mk y i)<| .rg {} [0,1]<| .it (.r<| .e (.done (.ret 120)))
  (.r<| .lp (σ:=Int) (β:=Unit) (0) [] [] ⟨[1,6],[],fun kz=>[(7,(vI kz))],fun kz=>[]⟩ ⟨[1,6],[],fun _=>[],fun _=>[]⟩
  (fun kz=> .a1 (Mk y i)<| .r<| .it (.cl 13 (lG y.plant y.state (at' ((at' y.jobs i.toNat).parts) kz.toNat) true) fun u0=> .a2 (Mk y i) ((0:Int)≤kz∧kz<(((at' y.jobs i.toNat).parts).length:Int))<| .rg {fr:=[(17,37)]} [0,1,2]<| .r<| .it (.r<| .e (.done (.ret (.done (.ret u0.2)))))
  (.r<| .e (.next (k18 kz))))
  (.e (.done (.brk ()))))
  (fun _=> .r<| .e (.next (k18 i)))))
  (.e (.done (.brk ()))))
  (fun _=> .r<| .it (.r<| .e 1)
  (.r<| .e 0)))))
theorem dm (s_:Int):bN Tryz.prog 93 [(sD (.int .u8 s_))] [] (fun r=>(vD (.fn 173 1 (mh [(wT [(.int .u8 r)] 0)])))) (fun _=>[]) (fC s_):=
  bO tT mX Tryz.func93 (
  .rg {fr:=[(0,1)],fz:=[1]} []<| .r<| .e s_)
noncomputable def mM:dK:=⟨[29],Ef ([1,1,1,0,1,0,0,1,0,0,1,0,1,0]++[0]) (fT Tryz.f92),Ef ([1,1,1,0,1,0,0,1,0,0,1,0,1,0]++[1]) (fT Tryz.f92),51,[]⟩
theorem bT:bN Tryz.prog 94 [] [] (fun r=>(.v (.agg [(.d (.int .u8 r.e0)),(.d (.int .u8 r.e1)),(.d (.int .u8 r.e2)),(.d (.int .u8 r.e3)),(.d (.int .u8 r.e4))]))) (fun _=>[]) (dh):=
  bO tT mX Tryz.func94 (
  .rg {fr:=[(0,1)]} []<| .rg {fz:=[1]} []<| .e (⟨1,2,4,8,16⟩:jh))
section
variable (r_:jh) (i:Int)
abbrev NM:=(at' [r_.e0,r_.e1,r_.e2,r_.e3,r_.e4] i.toNat)
abbrev EY:List DV:=[(.int .u8 (NM r_ i))]
abbrev tV:List CV:=[(.d (.int .u8 r_.e0)),(.d (.int .u8 r_.e1)),(.d (.int .u8 r_.e2)),(.d (.int .u8 r_.e3)),(.d (.int .u8 r_.e4))]
end
theorem dR (s_:Int) (i:Int):bN Tryz.prog 113 [(sD (.int .u8 s_)),(sI i)] [] (fun r=>(vB r)) (fun _=>[]) (eZ s_ i):=
  bO tT mX Tryz.func113 (
  .r<| .cl 1 bT fun r_=> .a1 ((0:Int)≤i∧i<((5:Nat):Int))<| .rg {an:=[(3, .vals (EY r_ i))]} [1,0, .dv 0 ⟨(0:Int)≤i∧i<((5:Nat):Int),i.toNat*1+1≤(tV r_).length,fun ax=>IG (n:=5) (sz:=1) (Nat.le_refl _) ax⟩, .dv 0 ⟨(0:Int)≤i∧i<((5:Nat):Int),((tV r_).drop (i.toNat*1)).take 1=(EY r_ i).map .d,fun ax=>Iu (n:=5) (sz:=1) (g:=fun q=>[(.d (.int .u8 (at' [r_.e0,r_.e1,r_.e2,r_.e3,r_.e4] q)))]) (by intro q hq;match q,hq with|0,_=>rfl|1,_=>rfl|2,_=>rfl|3,_=>rfl|4,_=>rfl) ax⟩]<| .e (!decide ((IntKind.wrap .u8 (((BitVec.ofInt (IntKind.bits .u8) s_ &&& BitVec.ofInt (IntKind.bits .u8) (NM r_ i)).toNat:Int)))=0)))
section
variable (u1:Int) (o_:(List (Int × Bool))) (u2:Bool) (r_:jh) (u0:Int)
abbrev UJ:Nat × Option Ob:=(0,some (.loop mM 0 [(4,(vP 1 0)),(5,(vP 2 0)),(6,(vP 3 0))]))
abbrev Oa:Nat × Option Ob:=(1,some (.cells 196 [(.mp 4)]))
abbrev Q8:Ob:=(.cells 198 [(.d (.int .u8 u1))])
abbrev NI:Nat × Option Ob:=(2,some (Q8 u1))
abbrev JI:Ob:=(Ld 198 4 false false 1 1 (aA .u8) af o_)
abbrev Oz:Nat × Option Ob:=(4,some (JI o_))
abbrev Yy:List (Nat × Option Ob):=[UJ,Oa,(NI u1),(3,some (.cells 4 [(cB u2)])),(Oz o_)]
abbrev RO:=(IntKind.wrap .u8 (((BitVec.ofInt (IntKind.bits .u8) u1 &&& ~~~ BitVec.ofInt (IntKind.bits .u8) (NM r_ u0)).toNat:Int)))
abbrev Pk:=(bU dP (RO u1 r_ u0) o_)
abbrev WS:=((Pk u1 o_ r_ u0).getD false)
abbrev RG:List CV:=[(cB (WS u1 o_ r_ u0))]
abbrev Ya:List DV:=[(.int .u8 (RO u1 r_ u0))]
abbrev Zf:=(bif u2 then(WS u1 o_ r_ u0)else false)
end
theorem p9 (u0:Int) (o_:(List (Int × Bool))) (u1:Int) (u2:Bool):O1 Tryz.prog 0 [(sI u0)] (Yy u1 o_ u2) (fun _=>vB true) (fun r=>[UJ,Oa,(NI u1),(3,some (.cells 4 [(cB r)])),(Oz o_)]) (kD u0 o_ u1 u2):=
  U9 tT mX mM ⟨[4,5,6],[0,1,2,3,4],fun _=>[(7,(vI u0))],fun _=>[]⟩ (.r<| .e ())
  (.cg 4 [(u2,true)] bT fun r_=> .a1 ((gB [(u2,true)]=true→(0:Int)≤u0∧u0<((5:Nat):Int)))<| .rg {an:=[(6, .vals (EY r_ u0)),(8, .look (Pk u1 o_ r_ u0).isSome (RG u1 o_ r_ u0))]} [1,0, .dv 0 ⟨gB [(u2,true)]=true→(0:Int)≤u0∧u0<((5:Nat):Int),gB [(u2,true)]=true→u0.toNat*1+1≤(tV r_).length,fun ax hq=>IG (n:=5) (sz:=1) (Nat.le_refl _) (ax hq)⟩, .dv 0 ⟨gB [(u2,true)]=true→(0:Int)≤u0∧u0<((5:Nat):Int),gB [(u2,true)]=true→((tV r_).drop (u0.toNat*1)).take 1=(EY r_ u0).map .d,fun ax hq=>Iu (n:=5) (sz:=1) (g:=fun q=>[(.d (.int .u8 (at' [r_.e0,r_.e1,r_.e2,r_.e3,r_.e4] q)))]) (by intro q hq;match q,hq with|0,_=>rfl|1,_=>rfl|2,_=>rfl|3,_=>rfl|4,_=>rfl) (ax hq)⟩, .pf ⟨gF [some .u8] 1 1 o_.length (pK (aA .u8) o_) (qF af o_) (Ya u1 r_ u0) [(.d (.bool false))] (Pk u1 o_ r_ u0).isSome (RG u1 o_ r_ u0),fB (fun _=>rfl) (fun _ _=>rfl) o_ (RO u1 r_ u0) false rfl rfl rfl⟩]<| .e (Zf u1 o_ u2 r_ u0))
section
variable (x1:Int)
abbrev QC:List SV:=[(.one (.yl 0)),(sD (wT [(.int .u8 x1)] 0))]
end
theorem lC (x1:Int) (o_:(List (Int × Bool))) (u0:Int) (u1:Bool):bN Tryz.prog 173 (QC x1) (Yy u0 o_ u1) (fun r=>(.bZ [])) (fun r=>[UJ,Oa,(NI u0),(3,some (.cells 4 [(cB r)])),(Oz o_)]) (pQ x1 o_ u0 u1):=
  bO tT mX Tryz.func173 (
  .r<| .lp (σ:=(Bool × Int)) (β:=Bool) (u1,0) [] [] ⟨[0,1],[0,1,2,4],fun(o0,t4)=>[(4,(vI t4))],fun(o0,t4)=>[(3,some (.cells 4 [(cB o0)]))]⟩ ⟨[],[0,1,2,4],fun o01=>[],fun o01=>[(3,some (.cells 4 [(cB o01)]))]⟩
  (fun(o0,t4)=> .r<| .it (.r<| .cl 2 (dR x1 t4) fun r_=> .fk r_ (.cy 6 (p9 t4 o_ u0 o0) fun u2=> .rg {ov:=[(3,true,1)]} [2, .k 0]<| .f<| .r<| .e (.next (Ma u2 t4)))
  (.rg {ov:=[(3,false,0)],sk:=[4,5,6,7]} [1]<| .f<| .r<| .e (.next (Ma o0 t4))))
  (.e (.done (.brk o0))))
  (fun o01=> .e o01))
noncomputable def kE:dK:=⟨[9],Ef ([1,1,0,1,0]++[0]) (fT Tryz.f167),Ef ([1,1,0,1,0]++[1]) (fT Tryz.f167),22,[]⟩
section
variable (u0:aj) (u1:Int)
abbrev VZ:Nat × Option Ob:=(0,some (.loop kE 0 [(2,(vP 1 0)),(5,(vP 2 0))]))
abbrev Wh:Ob:=(.cells 73 (AP u0))
abbrev GJ:Nat × Option Ob:=(1,some (Wh u0))
abbrev YR:List (Nat × Option Ob):=[VZ,(GJ u0),(2,some (.cells 3 [(cI u1)]))]
end
theorem oI (x9:Int) (u0:aj) (u1:Int):O1 Tryz.prog 0 [(sI x9)] (YR u0 u1) (fun _=>vB true) (fun r=>[VZ,(GJ u0),(2,some (.cells 3 [(cI r)]))]) (jB x9 u0 u1):=
  U9 tT mX kE ⟨[2,5],[0,1,2],fun _=>[(6,(vI x9))],fun _=>[]⟩ (.r<| .e ())
  (.a1 (OI u0 x9)<| .r<| .e (IntKind.wrap .i64 (u1+((at' u0.jobs x9.toNat).people))))
theorem rT (x1:Int) (u0:aj) (u1:Int):bN Tryz.prog 173 (QC x1) (YR u0 u1) (fun r=>(.bZ [])) (fun r=>[VZ,(GJ u0),(2,some (.cells 3 [(cI r)]))]) (lH x1 u0 u1):=
  bO tT mX Tryz.func173 (
  .r<| .lp (σ:=(Int × Int)) (β:=Int) (u1,0) [] [] ⟨[0,1],[0,1],fun(o0,t4)=>[(4,(vI t4))],fun(o0,t4)=>[(2,some (.cells 3 [(cI o0)]))]⟩ ⟨[],[0,1],fun o01=>[],fun o01=>[(2,some (.cells 3 [(cI o01)]))]⟩
  (fun(o0,t4)=> .r<| .it (.r<| .cl 2 (dR x1 t4) fun r_=> .fk r_ (.cy 6 (oI t4 u0 o0) fun u2=> .rg {ov:=[(3,true,1)]} [2, .k 0]<| .f<| .r<| .e (.next (u2,(k18 t4))))
  (.rg {ov:=[(3,false,0)],sk:=[4,5,6,7]} [1]<| .f<| .r<| .e (.next (o0,(k18 t4)))))
  (.e (.done (.brk o0))))
  (fun o01=> .e o01))
section
variable (y:aj) (s_:Int)
abbrev OB:List SV:=[(.agg (AP y)),(sD (.int .u8 s_))]
end
theorem uj (y:aj) (s_:Int):bN Tryz.prog 167 (OB y s_) [] (fun r=>(vB r)) (fun _=>[]) (oF y s_):=
  bO tT mX Tryz.func167 (
  .rg {fr:=[(0,3)]} []<| .rg {fr:=[(0,4)]} []<| .cl 1 (dm s_) fun r_=> .r<| .cl 0 (fw [(0,5),(1,3),(2,4)] (rT r_ y 0)) fun u0=> .rf 5 [2,5] [] none 0 []<| .r<| .e (decide (u0≤y.people)))
section
variable (u0:aj) (u1:Int)
abbrev KY:=(mh [(.int .i64 u0.plant.buses),(Sr u0),(aH none 6 Link.cell u0.plant.links),(aH none 4 aO.cell u0.plant.racks),(aH none 1 af u0.state.closed),(aH none 1 af u0.state.locked),(Pm u0),(aH none 1 af u0.state.on_),(PL u0),(aH none 1 af u0.state.earthed),(Qo u0),(Tk u0),(aH none 6 aC.cell u0.jobs),(.int .i64 u0.people),(.bool u0.redundant)])
abbrev KF:List (Nat × Option Ob):=[(0,some (Q8 u1))]
end
theorem tN (u0:aj) (u1:Int):bN Tryz.prog 172 [(sD (.fna 167 15 (KY u0))),(.one (.ptr 0 0))] (KF u1) (fun r=>(vB r)) (fun r=>(KF u1)) (ow u0 u1):=
  bO tT mX Tryz.func172 (
  .r<| .cl 2 (uj u0 u1) fun r_=> .r<| .e (!r_))
noncomputable def jo:dK:=⟨[9],Ef ([1,1,0,1,0]++[0]) (fT Tryz.f230),Ef ([1,1,0,1,0]++[1]) (fT Tryz.f230),19,[]⟩
section
variable (u0:aj) (u1:(List Part))
abbrev U4:Nat × Option Ob:=(0,some (.loop jo 0 [(2,(vP 1 0)),(5,(vP 2 0))]))
abbrev YX:List (Nat × Option Ob):=[U4,(GJ u0),(2,some (.cells 79 [(.own 3 false u1.length)])),(3,some (bg 78 2 Part.cell u1))]
end
theorem rD (x9:Int) (u0:aj) (u1:(List Part)):O1 Tryz.prog 0 [(sI x9)] (YX u0 u1) (fun _=>vB true) (fun r=>[U4,(GJ u0),(2,some (.cells 79 [(.own 4 false r.length)])),(3,none),(4,some (bg 78 2 Part.cell r))]) (lJ x9 u0 u1):=
  U9 tT mX jo ⟨[2,5],[0,1,2,3],fun _=>[(6,(vI x9))],fun _=>[]⟩ (.r<| .e ())
  (.a3 (OI u0 x9) ((u1.length+(yG u0 x9).length)*16≤140737488355328) (u1.length+(yG u0 x9).length≤4611686018427387904)<| .rg {an:=[(7, .arr (u1++(yG u0 x9)).length (ah Part.cell (u1++(yG u0 x9))))],fr:=[(7,5)]} [0, .e (u1.length),1,2, .pf ⟨(u1++(yG u0 x9)).length=u1.length+(yG u0 x9).length,List.length_append⟩, .pf ⟨av (u1.length+(yG u0 x9).length) 2 (dQ (ah Part.cell u1) u1.length (ah Part.cell (yG u0 x9))) (ah Part.cell (u1++(yG u0 x9))),aW _ _ _ _⟩]<| .en (u1++(yG u0 x9)) [] [(5,4)])
theorem jJ (x1:Int) (u0:aj) (u1:(List Part)):bN Tryz.prog 173 (QC x1) (YX u0 u1) (fun r=>(.bZ [])) (fun r=>[U4,(GJ u0),(2,some (.cells 79 [(.own 4 false r.length)])),(3,none),(4,some (bg 78 2 Part.cell r))]) (lX x1 u0 u1):=
  bO tT mX Tryz.func173 (
  .r<| .im (.re 2 0 3 8)<| .lp (σ:=((List Part) × Int)) (β:=(List Part)) (u1,0) [] [(8,7)] ⟨[0,1],[0,1],fun(o0,t4)=>[(4,(vI t4))],fun(o0,t4)=>[(2,some (.cells 79 [(.own 7 false o0.length)])),(3,none),(7,some (bg 78 2 Part.cell o0))]⟩ ⟨[],[0,1],fun o01=>[],fun o01=>[(2,some (.cells 79 [(.own 7 false o01.length)])),(3,none),(7,some (bg 78 2 Part.cell o01))]⟩
  (fun(o0,t4)=> .r<| .it (.r<| .cl 2 (dR x1 t4) fun r_=> .fk r_ (.cy 6 (rkY [(3,7),(4,8)] (rD t4 u0 o0)) fun u2=> .rg {ov:=[(3,true,1)]} [2, .k 0]<| .f<| .r<| .en (.next (u2,(k18 t4))) [] [(8,7)])
  (.rg {ov:=[(3,false,0)],sk:=[4,5,6,7]} [1]<| .f<| .r<| .e (.next (o0,(k18 t4)))))
  (.e (.done (.brk o0))))
  (fun o01=> .en o01 [] [(7,4)]))
section
variable (r_:Int) (y:aj) (u0:(List Part))
abbrev NF:List SV:=[(.one (.yl 8)),(sD (wT [(.int .u8 r_)] 0))]
abbrev Vy:Nat × Option Ob:=(8,some (.loop jo 0 [(2,(vP 5 0)),(5,(vP 6 0))]))
abbrev Va:Nat × Option Ob:=(5,some (Wh y))
abbrev Zu:List (Nat × Option Ob):=[Vy,(Va y),(6,some (.cells 79 [(.own 7 false (([]:List Part).length))])),(7,some (bg 78 2 Part.cell ([]:List Part)))]
abbrev RZ:List (Nat × Option Ob):=[Vy,(Va y),(6,some (.cells 79 [(.own 7 false 0)])),(7,some (.arr 78 2 0 (ah Part.cell ([]:List Part))))]
abbrev YQ:List (Nat × Option Ob):=[Vy,(Va y),(6,some (.cells 79 [(.own 9 false u0.length)])),(7,none),(9,some (bg 78 2 Part.cell u0))]
end
theorem ol (y:aj) (s_:Int):bN Tryz.prog 230 (OB y s_) [] (fun r=>(vO 0 false r.length)) (fun r=>[(0,some (bg 78 2 Part.cell r))]) (gL y s_):=
  bO tT mX Tryz.func230 (
  .rg {fr:=[(0,5)]} []<| .rg {fr:=[(0,6)]} []<| .cl 1 (dm s_) fun r_=> .r<| .im (.xS 6 0 7 78 2 (ah Part.cell ([]:List Part)))<| .cl 0 ⟨fun{u0} hr_1=>((Fn.Uu (args:=(NF r_)) (args':=(NF r_)) (hin:=(Zu y)) (hin':=(RZ y)) (Fn.uO [(0,8),(1,5),(2,6),(3,7),(4,9)] (jJ r_ y ([]:List Part) hr_1) (by kernel_rfl) (by kernel_rfl) (by kernel_rfl) (by kernel_rfl)) ⟨mO.refl _,mO.refl _,trivial⟩ ⟨rfl, .refl _,⟨rfl, .refl _,⟨rfl,jL ⟨jG.of (congrArg (CV.own _ _) (by simp only [List.length_set,List.length_append,List.length_cons,List.length_nil,List.length_replicate,List.length_drop,dH])),trivial⟩,⟨rfl,Ak (by simp only [List.length_set,List.length_append,List.length_cons,List.length_nil,List.length_replicate,List.length_drop,dH]),trivial⟩⟩⟩⟩):Fn Tryz.prog 173 (NF r_) (RZ y) (.bZ []) (YQ y u0))⟩ fun u0=> .rf 8 [2,5] [] none 0 []<| .r<| .en u0 [] [(9,0)])
section
variable (u0:Int) (r_:(List Part))
abbrev XO:List SV:=[(sD (.sl none 2 u0.toNat (ah Part.cell r_))),(.agg [(cI ((at' r_ u0.toNat).kind)),(cI ((at' r_ u0.toNat).index))])]
end
theorem wB (y:aj) (s_:Int):bN Tryz.prog 168 (OB y s_) [] (fun r=>(vB r)) (fun _=>[]) (pE y s_):=
  bO tT mX Tryz.func168 (
  .rg {fr:=[(0,6)],fz:=[6]} []<| .cl 2 (fw [(0,7)] (ol y s_)) fun r_=> .r<| .fz [7]<| .r<| .lp (σ:=Int) (β:=Unit) (0) [] [] ⟨[5,11,12],[],fun u0=>[(13,(vI u0))],fun u0=>[]⟩ ⟨[],[],fun _=>[],fun _=>[]⟩
  (fun u0=> .r<| .it (.a1 (Mx u0 r_)<| .rg {fr:=[(3,11)],fz:=[11]} []<| .cl 4 ⟨fun{u1} hr_1=>((Fn.Uu (args:=[(sD (aH none 2 Part.cell (kU r_ 0 u0.toNat))),(.agg [(cI ((at' r_ u0.toNat).kind)),(cI ((at' r_ u0.toNat).index))])]) (args':=(XO u0 r_)) (hin:=[]) (hin':=[]) (jH (kU r_ 0 u0.toNat) (at' r_ u0.toNat) hr_1) ⟨mO.one (jG.d (dW.Wz (by first|rw [List.length_append,List.length_drop]|simp only [List.length_set,List.length_drop,dH]|exact List.length_replicate) (.inr rfl) (LP _ _ _ _))),mO.refl _,trivial⟩ trivial):Fn Tryz.prog 157 (XO u0 r_) [] (vB u1) [])⟩ fun u1=> .a1 ((0:Int)≤u0∧u0≤(r_.length:Int))<| .rg {} [0,1]<| .it (.r<| .e (.done (.ret false)))
  (.r<| .e (.next (k18 u0))))
  (.e (.done (.brk ()))))
  (fun _=> .r<| .e true))
theorem pU (u0:aj) (u1:Int):bN Tryz.prog 172 [(sD (.fna 168 15 (KY u0))),(.one (.ptr 0 0))] (KF u1) (fun r=>(vB r)) (fun r=>(KF u1)) (ko u0 u1):=
  bO tT mX Tryz.func172 (
  .r<| .cl 2 (wB u0 u1) fun r_=> .r<| .e (!r_))
theorem tX (y:aj) (s_:Int):bN Tryz.prog 230 (OB y s_) [] (fun r=>(vD (aH none 2 Part.cell r))) (fun _=>[]) (gL y s_):=
  bO tT mX Tryz.func230 (
  .rg {fr:=[(0,5)]} []<| .rg {fr:=[(0,6)]} []<| .cl 1 (dm s_) fun r_=> .r<| .im (.xS 6 0 7 78 2 (ah Part.cell ([]:List Part)))<| .cl 0 ⟨fun{u0} hr_1=>((Fn.Uu (args:=(NF r_)) (args':=(NF r_)) (hin:=(Zu y)) (hin':=(RZ y)) (Fn.uO [(0,8),(1,5),(2,6),(3,7),(4,9)] (jJ r_ y ([]:List Part) hr_1) (by kernel_rfl) (by kernel_rfl) (by kernel_rfl) (by kernel_rfl)) ⟨mO.refl _,mO.refl _,trivial⟩ ⟨rfl, .refl _,⟨rfl, .refl _,⟨rfl,jL ⟨jG.of (congrArg (CV.own _ _) (by simp only [List.length_set,List.length_append,List.length_cons,List.length_nil,List.length_replicate,List.length_drop,dH])),trivial⟩,⟨rfl,Ak (by simp only [List.length_set,List.length_append,List.length_cons,List.length_nil,List.length_replicate,List.length_drop,dH]),trivial⟩⟩⟩⟩):Fn Tryz.prog 173 (NF r_) (RZ y) (.bZ []) (YQ y u0))⟩ fun u0=> .rf 8 [2,5] [] none 0 []<| .rg {fz:=[9]} []<| .e u0)
section
variable (p:aF) (s_:State) (l:(List Transfer)) (u2:(List Part)) (s0:(List Bool)) (s1:(List Bool)) (s2:(List Bool)) (s3:(List Bool)) (s4:(List Bool)) (s5:(List Bool)) (s6:(List Bool)) (u0:(State × Int)) (u1:Int)
abbrev YN:List SV:=[(.agg (k9 p)),(.agg (UC s_)),(sD (Wu l)),(sD (aH none 2 Part.cell u2))]
abbrev YZ:List (Nat × Option Ob):=[(17,some (VB s0 s1 s2 s3 s4 s5 s6))]
abbrev XA:=((⟨([]:List Bool),([]:List Bool),([]:List Bool),([]:List Bool),([]:List Bool),([]:List Bool),([]:List Bool)⟩:State),u0.2)
abbrev XE:=(u0.1.closed,u0.1.locked,u0.1.badLink,u0.1.on_,u0.1.badSource,u0.1.earthed,u0.1.badBus,(k18 u1))
end
theorem Ca (p:aF) (s_:State) (l:(List Transfer)) (u2:(List Part)):bN Tryz.prog 247 (YN p s_ l u2) [] (fun r=>(.bZ [(.agg [(.own 0 false r.1.closed.length),(.own 1 false r.1.locked.length),(.own 2 false r.1.badLink.length),(.own 3 false r.1.on_.length),(.own 4 false r.1.badSource.length),(.own 5 false r.1.earthed.length),(.own 6 false r.1.badBus.length)]),(sI r.2)])) (fun r=>[(0,some (bg 4 1 af r.1.closed)),(1,some (bg 4 1 af r.1.locked)),(2,some (bg 4 1 af r.1.badLink)),(3,some (bg 4 1 af r.1.on_)),(4,some (bg 4 1 af r.1.badSource)),(5,some (bg 4 1 af r.1.earthed)),(6,some (bg 4 1 af r.1.badBus)),(7,none)]) (xL p s_ l u2):=
  bO tT mX Tryz.func247 (
  .rg {fr:=[(0,16),(1,17),(2,18)],fz:=[16]} []<| .cl 3 (iO p s_ l) fun r_=> .r<| .r<| .it (.r<| .im (.xS 18 0 19 4 1 (ah af ([]:List Bool)))<| .im (.xS 18 1 20 4 1 (ah af ([]:List Bool)))<| .im (.xS 18 2 21 4 1 (ah af ([]:List Bool)))<| .im (.xS 18 3 22 4 1 (ah af ([]:List Bool)))<| .im (.xS 18 4 23 4 1 (ah af ([]:List Bool)))<| .im (.xS 18 5 24 4 1 (ah af ([]:List Bool)))<| .im (.xS 18 6 25 4 1 (ah af ([]:List Bool)))<| .en (RF r_) [] [(19,0),(20,1),(21,2),(22,3),(23,4),(24,5),(25,6),(18,7)])
  (.r<| .lp (σ:=((List Bool) × (List Bool) × (List Bool) × (List Bool) × (List Bool) × (List Bool) × (List Bool) × Int)) (β:=((List Bool) × (List Bool) × (List Bool) × (List Bool) × (List Bool) × (List Bool) × (List Bool))) (s_.closed,s_.locked,s_.badLink,s_.on_,s_.badSource,s_.earthed,s_.badBus,0) [] [] ⟨[2,4,5,8,24,25],[18],fun(s0,s1,s2,s3,s4,s5,s6,u1)=>[(26,(vI u1))],fun(s0,s1,s2,s3,s4,s5,s6,u1)=>(YZ s0 s1 s2 s3 s4 s5 s6)⟩ ⟨[2,4,5,8],[18],fun(u3,u4,u5,u6,u7,u8,u9)=>[],fun(u3,u4,u5,u6,u7,u8,u9)=>(YZ u3 u4 u5 u6 u7 u8 u9)⟩
  (fun(s0,s1,s2,s3,s4,s5,s6,u1)=> .r<| .it (.a1 (Mx u1 u2)<| .rg {fr:=[(2,29)],fz:=[29]} []<| .r<| .cl 3 (mI p (⟨s0,s1,s2,s3,s4,s5,s6⟩:State) (at' u2 u1.toNat)) fun u0=> .r<| .r<| .it (.r<| .im (.xS 18 0 30 4 1 (ah af ([]:List Bool)))<| .im (.xS 18 1 31 4 1 (ah af ([]:List Bool)))<| .im (.xS 18 2 32 4 1 (ah af ([]:List Bool)))<| .im (.xS 18 3 33 4 1 (ah af ([]:List Bool)))<| .im (.xS 18 4 34 4 1 (ah af ([]:List Bool)))<| .im (.xS 18 5 35 4 1 (ah af ([]:List Bool)))<| .im (.xS 18 6 36 4 1 (ah af ([]:List Bool)))<| .en (.done (.ret (XA u0))) [] [(30,0),(31,1),(32,2),(33,3),(34,4),(35,5),(36,6),(18,7)])
  (.r<| .e (.next (XE u0 u1))))
  (.e (.done (.brk (s0,s1,s2,s3,s4,s5,s6)))))
  (fun(u3,u4,u5,u6,u7,u8,u9)=> .cl 3 (fw [(0,37),(1,38),(2,39),(3,40),(4,41),(5,42),(6,43),(7,44),(8,45)] (lF p (⟨u3,u4,u5,u6,u7,u8,u9⟩:State) l)) fun v0=> .r<| .r<| .en (v0.1,v0.2.2) [] [(37,0),(38,1),(39,2),(40,3),(41,4),(42,5),(43,6),(18,7)])))
theorem yK (p:aF) (s_:State):bN Tryz.prog 126 (k28 s_ p) [] (fun r=>(.bZ [(sD (aH none 1 af r.1)),(sI r.2)])) (fun _=>[]) (iF p s_):=
  bO tT mX Tryz.func126 (
  .rg {fr:=[(0,7),(1,8)],fz:=[7,8]} []<| .cl 2 (dL p s_) fun r_=> .r<| .r<| .it (.r<| .e (([]:List Bool),r_))
  (.a3 ((0:Int)≤p.buses) (Wo p) (Wt p)<| .rg {an:=[(2, .arr (Dk p).length (MW p))],fr:=[(2,9)]} [0, .e ((p.buses:Int)),1,2, .pf ⟨(Dk p).length=p.buses.toNat,List.length_replicate⟩, .pf ⟨av p.buses.toNat 1 (fun _ j=>[(.bool false)].getD j .nilp) (MW p),bY _ _ _ _ _ (fun j hj=>(match j,hj with|0,_=>rfl))⟩]<| .cl 2 (jy p s_) fun u1=> .r<| .lp (σ:=((List Bool) × Int)) (β:=(List Bool)) ((Dk p),0) [] [] ⟨[23,24],[],fun(u4,u0)=>[(7,(vO 9 true u4.length)),(25,(vI u0))],fun(u4,u0)=>[(9,some (bg 4 1 af u4))]⟩ ⟨[],[],fun u5=>[(7,(vO 9 true u5.length))],fun u5=>[(9,some (bg 4 1 af u5))]⟩
  (fun(u4,u0)=> .r<| .it (.a1 ((0:Int)≤u0∧u0<(u1.length:Int))<| .rg {fr:=[(2,13)]} []<| .rg {fz:=[13]} []<| .lp (σ:=((List Bool) × Int)) (β:=(List Bool)) (u4,0) [] [] ⟨[9,23,24,25,30,31],[],fun(u2,u3)=>[(7,(vO 9 true u2.length)),(32,(vI u3))],fun(u2,u3)=>[(9,some (bg 4 1 af u2))]⟩ ⟨[23,24,25],[],fun u6=>[(7,(vO 9 true u6.length))],fun u6=>[(9,some (bg 4 1 af u6))]⟩
  (fun(u2,u3)=> .r<| .it (.a1 ((0:Int)≤u3∧u3<(((at' u1 u0.toNat).buses).length:Int))<| .r<| .a1 (k95 u1 u0 u3 u2)<| .rg {an:=[(7, .arr 0 (ZK u1 u0 u3 u2))]} [0, .t 0 (Wv u1 u0 u3) u2.length, .pf ⟨av u2.length 1 (k99 u1 u0 u3 u2) (ZK u1 u0 u3 u2),aR _ _ _ _ _ _ _ _ rfl (fun j hj=>(match j,hj with|0,_=>rfl))⟩]<| .im (.ll 9 u2 (ZF u1 u0 u3 u2))<| .r<| .e (.next (XY u1 u0 u3 u2)))
  (.e (.done (.brk u2))))
  (fun u6=> .r<| .e (.next (D7 u0 u6))))
  (.e (.done (.brk u4))))
  (fun u5=> .rg {fz:=[9]} []<| .e (u5,0))))
section
variable (p:aF) (u0:Int) (r_:((List Bool) × Int)) (u1:(List aM))
abbrev jX:=((at' p.racks u0.toNat).feeds)
abbrev SK:List CV:=[(cI ((jX p u0).e0)),(cI ((jX p u0).e1))]
abbrev Y5:=(bif (decide (0≤((jX p u0).e0)))then(at' r_.1 (((jX p u0).e0).toNat))else false)
abbrev YG:=(bif (decide (0≤((jX p u0).e1)))then(at' r_.1 (((jX p u0).e1).toNat))else false)
abbrev LK:=(⟨(Y5 p u0 r_),(YG p u0 r_)⟩:aM)
abbrev Yn:=(u1.length+[(LK p u0 r_)].length)
abbrev U6:=(ah aM.cell [(LK p u0 r_)])
abbrev SL:=(u1++[(LK p u0 r_)])
abbrev Zn:=(ah aM.cell (SL p u0 r_ u1))
end
theorem Fw (p:aF) (s_:State):bN Tryz.prog 56 (k28 s_ p) [] (fun r=>(.bZ [(sD (aH none 2 aM.cell r.1)),(sI r.2)])) (fun _=>[]) (Dj p s_):=
  bO tT mX Tryz.func56 (
  .rg {fr:=[(0,18),(1,19)],fz:=[19]} []<| .cl 2 (yK p s_) fun r_=> .r<| .r<| .it (.r<| .e (([]:List aM),r_.2))
  (.r<| .r<| .im (.ad 8 36 133 2 (ah aM.cell ([]:List aM)))<| .lp (σ:=((List aM) × Int)) (β:=(List aM)) (([]:List aM),0) [] [(36,23)] ⟨[6,24,25],[],fun(u1,u0)=>[(8,(vO 23 false u1.length)),(26,(vI u0))],fun(u1,u0)=>[(23,some (bg 133 2 aM.cell u1))]⟩ ⟨[],[],fun u2=>[(8,(vO 23 false u2.length))],fun u2=>[(23,some (bg 133 2 aM.cell u2))]⟩
  (fun(u1,u0)=> .r<| .it (.a1 ((0:Int)≤u0∧u0<(p.racks.length:Int))<| .rg {fr:=[(2,32)],fz:=[32]} []<| .rg {fr:=[(0,33)]} []<| .r<| .ul 11<| .r<| .t<| .rg {an:=[(1, .vals [(.int .i64 ((jX p u0).e0))])]} [.pf ⟨(0:Int)≤0∧(0:Int)<(2:Nat),(by decide)⟩, .pf ⟨0*1+1≤(SK p u0).length,Nat.le_of_ble_eq_true rfl⟩, .pf ⟨((SK p u0).drop (0*1)).take 1=[(.int .i64 ((jX p u0).e0))].map .d,rfl⟩]<| .a1 ((gB [((decide (0≤((jX p u0).e0))),true)]=true→(0:Int)≤(jX p u0).e0∧(jX p u0).e0<(r_.1.length:Int)))<| .rg {} [0, .pf ⟨(0:Int)≤0∧(0:Int)<(2:Nat),(by decide)⟩]<| .r<| .im (.dp [6,8,11,24,25,26,31,32])<| .r<| .t<| .rg {an:=[(1, .vals [(.int .i64 ((jX p u0).e1))])]} [.pf ⟨(0:Int)≤1∧(1:Int)<(2:Nat),(by decide)⟩, .pf ⟨1*1+1≤(SK p u0).length,Nat.le_of_ble_eq_true rfl⟩, .pf ⟨((SK p u0).drop (1*1)).take 1=[(.int .i64 ((jX p u0).e1))].map .d,rfl⟩]<| .a1 ((gB [((decide (0≤((jX p u0).e1))),true)]=true→(0:Int)≤(jX p u0).e1∧(jX p u0).e1<(r_.1.length:Int)))<| .rg {} [0, .pf ⟨(0:Int)≤1∧(1:Int)<(2:Nat),(by decide)⟩]<| .r<| .im (.dp [6,8,11,24,25,26,31,32])<| .r<| .f<| .a2 ((Yn p u0 r_ u1)*2≤140737488355328) (u1.length+[(LK p u0 r_)].length≤4611686018427387904)<| .rg {an:=[(2, .arr [(LK p u0 r_)].length (U6 p u0 r_)),(3, .arr (SL p u0 r_ u1).length (Zn p u0 r_ u1))],fr:=[(2,34),(3,35)]} [.pf ⟨[(LK p u0 r_)].length=1,rfl⟩, .pf ⟨av 1 2 (eO 2 [(.bool (Y5 p u0 r_)),(.bool (YG p u0 r_))]) (U6 p u0 r_),(by intro i hi j hj;match i,j,hi,hj with|0,0,_,_=>rfl|0,1,_,_=>rfl)⟩, .e (u1.length),0,1, .pf ⟨(SL p u0 r_ u1).length=u1.length+[(LK p u0 r_)].length,List.length_append⟩, .pf ⟨av (Yn p u0 r_ u1) 2 (dQ (ah aM.cell u1) u1.length (U6 p u0 r_)) (Zn p u0 r_ u1),aW _ _ _ _⟩]<| .r<| .en (.next ((SL p u0 r_ u1),(k18 u0))) [] [(35,23)])
  (.e (.done (.brk u1))))
  (fun u2=> .rg {fz:=[23]} []<| .e (u2,0))))
theorem om (y:aj) (u2:(List Part)) (u1:Int):bN Tryz.prog 231 [(.agg (AP y)),(sD (aH none 2 Part.cell u2)),(sI u1)] [] (fun r=>(vB r)) (fun _=>[]) (lY y u2 u1):=
  bO tT mX Tryz.func231 (
  .rg {fr:=[(0,14)]} []<| .cl 7 (fw [(0,15),(1,16),(2,17),(3,18),(4,19),(5,20),(6,21),(7,22)] (Ca y.plant y.state y.transfers u2)) fun r_=> .rg {fr:=[(11,23)],fz:=[15,16,17,18,19,20,21]} []<| .fz [23]<| .cl 3 (Fw y.plant r_.1) fun u3=> .r<| .r<| .lp (σ:=Int) (β:=Unit) (0) [] [] ⟨[2,9,33,34],[],fun u0=>[(35,(vI u0))],fun u0=>[]⟩ ⟨[],[],fun _=>[],fun _=>[]⟩
  (fun u0=> .r<| .it (.a1 ((0:Int)≤u0∧u0<(y.plant.racks.length:Int))<| .rg {fr:=[(3,27)],fz:=[27]} []<| .a2 ((gB [((decide (u1≤((at' y.plant.racks u0.toNat).paths))),true)]=true→(0:Int)≤u0∧u0<(u3.1.length:Int))) ((gB [((bif (decide (u1≤((at' y.plant.racks u0.toNat).paths)))then(!((at' u3.1 u0.toNat).e0))else false),true)]=true→(0:Int)≤u0∧u0<(u3.1.length:Int)))<| .rg {} [0, .pf ⟨(0:Int)≤0∧(0:Int)<(2:Nat),(by decide)⟩,1, .pf ⟨(0:Int)≤1∧(1:Int)<(2:Nat),(by decide)⟩]<| .it (.r<| .e (.done (.ret false)))
  (.r<| .e (.next (k18 u0))))
  (.e (.done (.brk ()))))
  (fun _=> .r<| .e true))
theorem yT (y:aj) (s_:Int):bN Tryz.prog 169 (OB y s_) [] (fun r=>(vB r)) (fun _=>[]) (sV y s_):=
  bO tT mX Tryz.func169 (
  .rg {fr:=[(0,1)],fz:=[1]} []<| .cl 3 (tX y s_) fun r_=> .cl 4 (om y r_ 1) fun u0=> .r<| .e u0)
theorem qd (u0:aj) (u1:Int):bN Tryz.prog 172 [(sD (.fna 169 15 (KY u0))),(.one (.ptr 0 0))] (KF u1) (fun r=>(vB r)) (fun r=>(KF u1)) (ku u0 u1):=
  bO tT mX Tryz.func172 (
  .r<| .cl 2 (yT u0 u1) fun r_=> .r<| .e (!r_))
section
variable (u0:Int) (u1:Int) (u2:(List Part))
abbrev J2:=(⟨(k18 u0),u1⟩:Part)
abbrev Vq:=(ah Part.cell [(J2 u0 u1)])
abbrev Qm:=(u2++[(J2 u0 u1)])
end
theorem CB (p:aF):bN Tryz.prog 185 (k8 p) [] (fun r=>(.bZ [(.one (.own 0 false r.1.length)),(sI r.2)])) (fun r=>[(0,some (bg 78 2 Part.cell r.1))]) (xW p):=
  bO tT mX Tryz.func185 (
  .rg {fr:=[(0,34)],fz:=[34]} []<| .cl 1 (qL p) fun r_=> .r<| .r<| .it (.r<| .im (.ad 2 35 78 2 (ah Part.cell ([]:List Part)))<| .en (([]:List Part),r_) [] [(35,0)])
  (.r<| .rg {an:=[(8, .arr [p.buses,(p.sources.length:Int),(p.links.length:Int)].length (ah (aA .i64) [p.buses,(p.sources.length:Int),(p.links.length:Int)]))],fr:=[(8,36)],fz:=[36]} [.pf ⟨[p.buses,(p.sources.length:Int),(p.links.length:Int)].length=3,rfl⟩, .pf ⟨av 3 1 (eO 1 [(.int .i64 p.buses),(.int .i64 (p.sources.length:Int)),(.int .i64 (p.links.length:Int))]) (ah (aA .i64) [p.buses,(p.sources.length:Int),(p.links.length:Int)]),(by intro i hi j hj;match i,j,hi,hj with|0,0,_,_=>rfl|1,0,_,_=>rfl|2,0,_,_=>rfl)⟩]<| .im (.ad 5 69 78 2 (ah Part.cell ([]:List Part)))<| .lp (σ:=((List Part) × Int)) (β:=(List Part)) (([]:List Part),0) [] [(69,38)] ⟨[22,23],[],fun(u3,u0)=>[(5,(vO 38 false u3.length)),(24,(vI u0))],fun(u3,u0)=>[(38,some (bg 78 2 Part.cell u3))]⟩ ⟨[],[],fun u4=>[(5,(vO 38 false u4.length))],fun u4=>[(38,some (bg 78 2 Part.cell u4))]⟩
  (fun(u3,u0)=> .r<| .it (.a1 ((0:Int)≤u0∧u0<([p.buses,(p.sources.length:Int),(p.links.length:Int)].length:Int))<| .r<| .r<| .lp (σ:=((List Part) × Int)) (β:=(List Part)) (u3,0) [] [] ⟨[6,22,23,24,29],[],fun(u2,u1)=>[(5,(vO 38 false u2.length)),(30,(vI u1))],fun(u2,u1)=>[(38,some (bg 78 2 Part.cell u2))]⟩ ⟨[22,23,24],[],fun u5=>[(5,(vO 38 false u5.length))],fun u5=>[(38,some (bg 78 2 Part.cell u5))]⟩
  (fun(u2,u1)=> .r<| .it (.r<| .a2 ((u2.length+[(J2 u0 u1)].length)*16≤140737488355328) (u2.length+[(J2 u0 u1)].length≤4611686018427387904)<| .rg {an:=[(5, .arr [(J2 u0 u1)].length (Vq u0 u1)),(6, .arr (Qm u0 u1 u2).length (ah Part.cell (Qm u0 u1 u2)))],fr:=[(5,67),(6,68)]} [.pf ⟨[(J2 u0 u1)].length=1,rfl⟩, .pf ⟨av 1 2 (eO 2 [(.int .i64 (k18 u0)),(.int .i64 u1)]) (Vq u0 u1),(by intro i hi j hj;match i,j,hi,hj with|0,0,_,_=>rfl|0,1,_,_=>rfl)⟩, .e (u2.length),0,1, .pf ⟨(Qm u0 u1 u2).length=u2.length+[(J2 u0 u1)].length,List.length_append⟩, .pf ⟨av (u2.length+[(J2 u0 u1)].length) 2 (dQ (ah Part.cell u2) u2.length (Vq u0 u1)) (ah Part.cell (Qm u0 u1 u2)),aW _ _ _ _⟩]<| .r<| .en (.next ((Qm u0 u1 u2),(k18 u1))) [] [(68,38)])
  (.e (.done (.brk u2))))
  (fun u5=> .r<| .e (.next (u5,(k18 u0)))))
  (.e (.done (.brk u3))))
  (fun u4=> .r<| .en (u4,0) [] [(38,0)])))
section
variable (y:aj) (r_:((List Part) × Int)) (u0:Int) (u1:(List Part))
abbrev Ym:=(at' [([]:List Bool),y.state.badBus,y.state.badSource,y.state.badLink] (((at' r_.1 u0.toNat).kind).toNat))
abbrev Yz:=(ah (wF 1 af) [([]:List Bool),y.state.badBus,y.state.badSource,y.state.badLink])
abbrev DJ:=(u1++[(at' r_.1 u0.toNat)])
abbrev N7:=(ah Part.cell [(at' r_.1 u0.toNat)])
abbrev TB:=(ah Part.cell (DJ r_ u0 u1))
end
theorem qD (y:aj) (s_:Int):bN Tryz.prog 170 (OB y s_) [] (fun r=>(vB r)) (fun _=>[]) (kr y s_):=
  bO tT mX Tryz.func170 (
  .rg {fr:=[(0,10)],fz:=[10]} []<| .r<| .it (.r<| .e true)
  (.cl 2 (fw [(0,11)] (CB y.plant)) fun r_=> .r<| .r<| .lp (σ:=Int) (β:=Unit) (0) [] [] ⟨[1,2,19,20],[11],fun u0=>[(21,(vI u0))],fun u0=>[]⟩ ⟨[],[],fun _=>[],fun _=>[]⟩
  (fun u0=> .r<| .it (.a1 ((0:Int)≤u0∧u0<(r_.1.length:Int))<| .rg {fr:=[(2,18)],fz:=[18]} [0, .t 0 u0 r_.1.length]<| .a2 ((0:Int)≤(at' r_.1 u0.toNat).kind∧(at' r_.1 u0.toNat).kind<([([]:List Bool),y.state.badBus,y.state.badSource,y.state.badLink].length:Int)) ((0:Int)≤(at' r_.1 u0.toNat).index∧(at' r_.1 u0.toNat).index<((Ym y r_ u0).length:Int))<| .rg {an:=[(9, .arrL [([]:List Bool),y.state.badBus,y.state.badSource,y.state.badLink].length (Yz y))],fr:=[(9,19)]} [.pf ⟨[([]:List Bool),y.state.badBus,y.state.badSource,y.state.badLink].length=4,rfl⟩, .pf ⟨QR 4 1 (eO 1 [nS,(Qo y),(PL y),(Pm y)]) (Yz y),Rf (by intro i hi j hj;match i,j,hi,hj with|0,0,_,_=>exact dW.nil'|1,0,_,_=>exact .refl _|2,0,_,_=>exact .refl _|3,0,_,_=>exact .refl _)⟩,0, .t 0 ((at' r_.1 u0.toNat).kind) ([([]:List Bool),y.state.badBus,y.state.badSource,y.state.badLink].length),1]<| .fk (!(at' (Ym y r_ u0) (((at' r_.1 u0.toNat).index).toNat))) (.cl 6 (fw [(0,20)] (ol y s_)) fun u1=> .cr 10 ⟨fun{u2} hr_2=>((Fn.vE (frz:=[22]) (p:=[(DJ r_ u0 u1).length=(DJ r_ u0 u1).length]) (om y (DJ r_ u0 u1) 2 hr_2) (by kernel_rfl) ⟨rfl,trivial⟩ rfl):Fn Tryz.prog 231 [(.agg (AP y)),(.one (.own 22 false ((DJ r_ u0 u1).length))),(sI 2)] [(22,some (bg 78 2 Part.cell (DJ r_ u0 u1)))] (vB u2) [(22,some (bg 78 2 Part.cell (DJ r_ u0 u1)))])⟩ fun u2=> .a2 ((gB [(true,true)]=true→(u1.length+[(at' r_.1 u0.toNat)].length)*16≤140737488355328)) ((gB [(true,true)]=true→u1.length+[(at' r_.1 u0.toNat)].length≤4611686018427387904))<| .rg {an:=[(8, .arr [(at' r_.1 u0.toNat)].length (N7 r_ u0)),(9, .arr (DJ r_ u0 u1).length (TB r_ u0 u1))],fr:=[(8,21),(9,22)],ov:=[(2,true,4)]} [.k 3, .pf ⟨[(at' r_.1 u0.toNat)].length=1,rfl⟩, .pf ⟨av 1 2 (eO 2 [(.int .i64 ((at' r_.1 u0.toNat).kind)),(.int .i64 ((at' r_.1 u0.toNat).index))]) (N7 r_ u0),(by intro i hi j hj;match i,j,hi,hj with|0,0,_,_=>rfl|0,1,_,_=>rfl)⟩, .e (u1.length),0,1, .pf ⟨(DJ r_ u0 u1).length=u1.length+[(at' r_.1 u0.toNat)].length,List.length_append⟩, .pf ⟨av (u1.length+[(at' r_.1 u0.toNat)].length) 2 (dQ (ah Part.cell u1) u1.length (N7 r_ u0)) (TB r_ u0 u1),aW _ _ _ _⟩, .k 2]<| .it (.r<| .e (.done (.ret false)))
  (.r<| .e (.next (k18 u0))))
  (.rg {ov:=[(2,false,0)],sk:=[3,4,5,6,7,8,9,10,11]} []<| .f<| .r<| .e (.next (k18 u0))))
  (.e (.done (.brk ()))))
  (fun _=> .r<| .e true)))
theorem qf (u0:aj) (u1:Int):bN Tryz.prog 172 [(sD (.fna 170 15 (KY u0))),(.one (.ptr 0 0))] (KF u1) (fun r=>(vB r)) (fun r=>(KF u1)) (kG u0 u1):=
  bO tT mX Tryz.func172 (
  .r<| .cl 2 (qD u0 u1) fun r_=> .r<| .e (!r_))
section
variable (o_:aj) (u0:aj) (u1:aj) (u2:aj) (u3:Int)
abbrev Sq:List (Nat × Option Ob):=[(0,some (.cells 265 [(.d (.fna 167 15 (KY o_))),(.d (.fna 168 15 (KY u0))),(.d (.fna 169 15 (KY u1))),(.d (.fna 170 15 (KY u2)))])),(1,some (Q8 u3))]
end
theorem pX (o_:aj) (u0:aj) (u1:aj) (u2:aj) (u3:Int):bN Tryz.prog 232 [(.one (.own 0 true 4)),(.one (.fn 172 0 1 (y8 [(.ptr 1 0)])))] (Sq o_ u0 u1 u2 u3) (fun r=>(vI r)) (fun r=>(Sq o_ u0 u1 u2 u3)) (j3 o_ u0 u1 u2 u3):=
  bO tT mX Tryz.func232 (
  .r<| .r<| .ul 11<| .r<| .t<| .r<| .cr 5 (fw [(0,1)] (tN o_ u3)) fun r_=> .a1 ((0:Int)≤0∧0<(4:Int))<| .rg {} [0,1]<| .it (.r<| .e 0)
  (.r<| .im (.dp [0,1,7,8])<| .r<| .t<| .r<| .cr 5 (fw [(0,1)] (pU u0 u3)) fun u4=> .a1 ((0:Int)≤1∧1<(4:Int))<| .rg {} [0,1]<| .it (.r<| .e 1)
  (.r<| .im (.dp [0,1,7,8])<| .r<| .t<| .r<| .cr 5 (fw [(0,1)] (qd u1 u3)) fun u5=> .a1 ((0:Int)≤2∧2<(4:Int))<| .rg {} [0,1]<| .it (.r<| .e 2)
  (.r<| .im (.dp [0,1,7,8])<| .r<| .t<| .r<| .cr 5 (fw [(0,1)] (qf u2 u3)) fun u6=> .a1 ((0:Int)≤3∧3<(4:Int))<| .rg {} [0,1]<| .it (.r<| .e 3)
  (.r<| .im (.dp [0,1,7,8])<| .r<| .f<| .r<| .e (-1))))))
theorem gZ (o_:aj) (u0:aj) (u1:aj) (u2:aj) (u3:Int):bN Tryz.prog 171 [(.one (.own 0 true 4)),(.one (.fn 172 0 1 (y8 [(.ptr 1 0)])))] (Sq o_ u0 u1 u2 u3) (fun r=>(vB r)) (fun r=>(Sq o_ u0 u1 u2 u3)) (iW o_ u0 u1 u2 u3):=
  bO tT mX Tryz.func171 (
  .r<| .cr 2 (pX o_ u0 u1 u2 u3) fun r_=> .r<| .e (decide (0≤r_)))
section
variable (u0:(List (Int × Bool))) (s0:Int) (u1:Bool) (u2:Bool)
abbrev Xa:List (Nat × Option Ob):=[(19,some (JI u0)),(21,some (Q8 s0))]
abbrev Kc:=(fO dP s0 (bif u1 then(!u2)else false) u0)
abbrev TL:=(pK (aA .u8) (Kc u0 s0 u1 u2))
abbrev Sk:=(qF af (Kc u0 s0 u1 u2))
end
theorem mH (y:aj):bN Tryz.prog 92 (QG y) [] (fun r=>(.v (.one (.mp 0)))) (fun r=>[(0,some (Ld 198 4 false false 1 1 (aA .u8) af r))]) (eG y):=
  bO tT mX Tryz.func92 (
  .rg {fr:=[(0,17)],fz:=[17]} []<| .rg {an:=[(8, .cells)],fr:=[(8,18)]} []<| .rg {an:=[(0, .map 0 (pK (aA .u8) ([]:(List (Int × Bool)))) (qF af ([]:(List (Int × Bool)))) []),(1, .map (fO dP 0 true ([]:(List (Int × Bool)))).length (pK (aA .u8) (fO dP 0 true ([]:(List (Int × Bool))))) (qF af (fO dP 0 true ([]:(List (Int × Bool))))) [])],fr:=[(0,19),(3,20)]} [.pf ⟨jE [some .u8] 1 1 ([]:(List (Int × Bool))).length (pK (aA .u8) ([]:(List (Int × Bool)))) (qF af ([]:(List (Int × Bool)))) [(.int .u8 0)] [(cB true)] [] (fO dP 0 true ([]:(List (Int × Bool)))).length (pK (aA .u8) (fO dP 0 true ([]:(List (Int × Bool))))) (qF af (fO dP 0 true ([]:(List (Int × Bool))))),rz (fun _=>rfl) (fun _ _=>rfl) ([]:(List (Int × Bool))) 0 true rfl rfl⟩]<| .rg {fr:=[(0,21)]} []<| .lp (σ:=((List (Int × Bool)) × Int)) (β:=(List (Int × Bool))) ((fO dP 0 true ([]:(List (Int × Bool)))),1) [] [] ⟨[1,3,4,5],[18,20],fun(u0,s0)=>[],fun(u0,s0)=>(Xa u0 s0)⟩ ⟨[4],[20],fun u3=>[],fun u3=>[(19,some (JI u3))]⟩
  (fun(u0,s0)=> .a1 ((0:Int)≤(y.jobs.length:Int))<| .r<| .it (.rg {fr:=[(0,31)]} []<| .cl 1 (dm s0) fun r_=> .r<| .cl 0 (fw [(0,32),(1,20),(2,21),(3,31),(4,19)] (lC r_ u0 s0 true)) fun u1=> .rf 32 [4,5,6] [] none 0 []<| .ZO 6 [(u1,true)] (fw [(0,18),(1,21)] (gZ y y y y s0)) fun u2=> .rg {an:=[(9, .map (Kc u0 s0 u1 u2).length (TL u0 s0 u1 u2) (Sk u0 s0 u1 u2) [])]} [0, .pf ⟨jE [some .u8] 1 1 u0.length (pK (aA .u8) u0) (qF af u0) [(.int .u8 s0)] [(cB (bif u1 then(!u2)else false))] [] (Kc u0 s0 u1 u2).length (TL u0 s0 u1 u2) (Sk u0 s0 u1 u2),rz (fun _=>rfl) (fun _ _=>rfl) u0 s0 (bif u1 then(!u2)else false) rfl rfl⟩]<| .r<| .rg {fr:=[(0,33)]} []<| .r<| .en (.next ((Kc u0 s0 u1 u2),(IntKind.wrap .u8 (s0+1)))) [] [(33,21)])
  (.e (.done (.brk u0))))
  (fun u3=> .r<| .en u3 [] [(19,0)]))
theorem jP (y:aj):bN Tryz.prog 92 (QG y) [] (fun r=>(.v (.one (.mp 0)))) (fun r=>[(0,some (Ld 198 4 false false 1 1 (aA .u8) af r))]) (eG y):=
  bO tT mX Tryz.func92 (
  .rg {fr:=[(0,17)],fz:=[17]} []<| .rg {an:=[(8, .cells)],fr:=[(8,18)]} []<| .rg {an:=[(0, .map 0 (pK (aA .u8) ([]:(List (Int × Bool)))) (qF af ([]:(List (Int × Bool)))) []),(1, .map (fO dP 0 true ([]:(List (Int × Bool)))).length (pK (aA .u8) (fO dP 0 true ([]:(List (Int × Bool))))) (qF af (fO dP 0 true ([]:(List (Int × Bool))))) [])],fr:=[(0,19),(3,20)]} [.pf ⟨jE [some .u8] 1 1 ([]:(List (Int × Bool))).length (pK (aA .u8) ([]:(List (Int × Bool)))) (qF af ([]:(List (Int × Bool)))) [(.int .u8 0)] [(cB true)] [] (fO dP 0 true ([]:(List (Int × Bool)))).length (pK (aA .u8) (fO dP 0 true ([]:(List (Int × Bool))))) (qF af (fO dP 0 true ([]:(List (Int × Bool))))),rz (fun _=>rfl) (fun _ _=>rfl) ([]:(List (Int × Bool))) 0 true rfl rfl⟩]<| .rg {fr:=[(0,21)]} []<| .lp (σ:=((List (Int × Bool)) × Int)) (β:=(List (Int × Bool))) ((fO dP 0 true ([]:(List (Int × Bool)))),1) [] [] ⟨[1,3,4,5],[18,20],fun(u0,s0)=>[],fun(u0,s0)=>(Xa u0 s0)⟩ ⟨[4],[20],fun u3=>[],fun u3=>[(19,some (JI u3))]⟩
  (fun(u0,s0)=> .a1 ((0:Int)≤(y.jobs.length:Int))<| .r<| .it (.rg {fr:=[(0,31)]} []<| .cl 1 (dm s0) fun r_=> .r<| .cl 0 (fw [(0,32),(1,20),(2,21),(3,31),(4,19)] (lC r_ u0 s0 true)) fun u1=> .rf 32 [4,5,6] [] none 0 []<| .ZO 6 [(u1,true)] (fw [(0,18),(1,21)] (gZ y y y y s0)) fun u2=> .rg {an:=[(9, .map (Kc u0 s0 u1 u2).length (TL u0 s0 u1 u2) (Sk u0 s0 u1 u2) [])]} [0, .pf ⟨jE [some .u8] 1 1 u0.length (pK (aA .u8) u0) (qF af u0) [(.int .u8 s0)] [(cB (bif u1 then(!u2)else false))] [] (Kc u0 s0 u1 u2).length (TL u0 s0 u1 u2) (Sk u0 s0 u1 u2),rz (fun _=>rfl) (fun _ _=>rfl) u0 s0 (bif u1 then(!u2)else false) rfl rfl⟩]<| .r<| .rg {fr:=[(0,33)]} []<| .r<| .en (.next ((Kc u0 s0 u1 u2),(IntKind.wrap .u8 (s0+1)))) [] [(33,21)])
  (.e (.done (.brk u0))))
  (fun u3=> .r<| .en u3 [] [(19,0)]))
noncomputable def xM:dK:=⟨[31],Ef ([1,1,1,1,0,1,0,0,1,0,0,1,0,1,0]++[0]) (fT Tryz.f27),Ef ([1,1,1,1,0,1,0,0,1,0,0,1,0,1,0]++[1]) (fT Tryz.f27),53,[]⟩
section
variable (u1:Int) (u2:Bool) (o_:(List (Int × Bool)))
abbrev UN:Nat × Option Ob:=(0,some (.loop xM 0 [(5,(vP 1 0)),(7,(vP 2 0)),(8,(vP 3 0))]))
abbrev Xk:List (Nat × Option Ob):=[UN,Oa,(NI u1),(3,some (.cells 4 [(cB u2)])),(Oz o_)]
end
theorem zA (u0:Int) (o_:(List (Int × Bool))) (u1:Int) (u2:Bool):O1 Tryz.prog 0 [(sI u0)] (Xk u1 u2 o_) (fun _=>vB true) (fun r=>[UN,Oa,(NI u1),(3,some (.cells 4 [(cB r)])),(Oz o_)]) (tJ u0 o_ u1 u2):=
  U9 tT mX xM ⟨[5,7,8],[0,1,2,3,4],fun _=>[(9,(vI u0))],fun _=>[]⟩ (.r<| .e ())
  (.cg 4 [(u2,true)] bT fun r_=> .a1 ((gB [(u2,true)]=true→(0:Int)≤u0∧u0<((5:Nat):Int)))<| .rg {an:=[(6, .vals (EY r_ u0)),(8, .look (Pk u1 o_ r_ u0).isSome (RG u1 o_ r_ u0))]} [1,0, .dv 0 ⟨gB [(u2,true)]=true→(0:Int)≤u0∧u0<((5:Nat):Int),gB [(u2,true)]=true→u0.toNat*1+1≤(tV r_).length,fun ax hq=>IG (n:=5) (sz:=1) (Nat.le_refl _) (ax hq)⟩, .dv 0 ⟨gB [(u2,true)]=true→(0:Int)≤u0∧u0<((5:Nat):Int),gB [(u2,true)]=true→((tV r_).drop (u0.toNat*1)).take 1=(EY r_ u0).map .d,fun ax hq=>Iu (n:=5) (sz:=1) (g:=fun q=>[(.d (.int .u8 (at' [r_.e0,r_.e1,r_.e2,r_.e3,r_.e4] q)))]) (by intro q hq;match q,hq with|0,_=>rfl|1,_=>rfl|2,_=>rfl|3,_=>rfl|4,_=>rfl) (ax hq)⟩, .pf ⟨gF [some .u8] 1 1 o_.length (pK (aA .u8) o_) (qF af o_) (Ya u1 r_ u0) [(.d (.bool false))] (Pk u1 o_ r_ u0).isSome (RG u1 o_ r_ u0),fB (fun _=>rfl) (fun _ _=>rfl) o_ (RO u1 r_ u0) false rfl rfl rfl⟩]<| .e (Zf u1 o_ u2 r_ u0))
theorem qI (x1:Int) (o_:(List (Int × Bool))) (u0:Int) (u1:Bool):bN Tryz.prog 173 (QC x1) (Xk u0 u1 o_) (fun r=>(.bZ [])) (fun r=>[UN,Oa,(NI u0),(3,some (.cells 4 [(cB r)])),(Oz o_)]) (lQ x1 o_ u0 u1):=
  bO tT mX Tryz.func173 (
  .r<| .lp (σ:=(Bool × Int)) (β:=Bool) (u1,0) [] [] ⟨[0,1],[0,1,2,4],fun(o0,t4)=>[(4,(vI t4))],fun(o0,t4)=>[(3,some (.cells 4 [(cB o0)]))]⟩ ⟨[],[0,1,2,4],fun o01=>[],fun o01=>[(3,some (.cells 4 [(cB o01)]))]⟩
  (fun(o0,t4)=> .r<| .it (.r<| .cl 2 (dR x1 t4) fun r_=> .fk r_ (.cy 6 (zA t4 o_ u0 o0) fun u2=> .rg {ov:=[(3,true,1)]} [2, .k 0]<| .f<| .r<| .e (.next (Ma u2 t4)))
  (.rg {ov:=[(3,false,0)],sk:=[4,5,6,7]} [1]<| .f<| .r<| .e (.next (Ma o0 t4))))
  (.e (.done (.brk o0))))
  (fun o01=> .e o01))
noncomputable def gT:dK:=⟨[7],Ef ([1,0,1,0]++[0]) (fT Tryz.f174),Ef ([1,0,1,0]++[1]) (fT Tryz.f174),13,[]⟩
section
variable (o_:(List Int))
abbrev Wi:Nat × Option Ob:=(0,some (.loop gT 0 [(2,(vP 1 0))]))
abbrev XM:List (Nat × Option Ob):=[Wi,(1,some (.cells 39 [(.own 2 false o_.length)])),(2,some (rC o_))]
end
theorem oL (x7:Int) (o_:(List Int)):O1 Tryz.prog 0 [(sI x7)] (XM o_) (fun _=>vB true) (fun r=>[Wi,(1,some (.cells 39 [(.own 3 false r.length)])),(2,none),(3,some (bg 3 1 (aA .i64) r))]) (jI x7 o_):=
  U9 tT mX gT ⟨[2],[0,1,2],fun _=>[(5,(vI x7))],fun _=>[]⟩ (.r<| .e ())
  (.a2 (Ps o_ x7) (QW o_ x7)<| .rg {an:=[(2, .arr [x7].length (ah (aA .i64) [x7])),(3, .arr (o_++[x7]).length (Gb o_ x7))],fr:=[(2,5),(3,6)]} [.pf ⟨[x7].length=1,rfl⟩, .pf ⟨av 1 1 (Tj x7) (ah (aA .i64) [x7]),(by intro i hi j hj;match i,j,hi,hj with|0,0,_,_=>rfl)⟩, .e (o_.length),0,1, .pf ⟨(o_++[x7]).length=o_.length+[x7].length,List.length_append⟩, .pf ⟨av (o_.length+[x7].length) 1 (Qy o_ x7) (Gb o_ x7),aW _ _ _ _⟩]<| .en (o_++[x7]) [] [(6,3)])
theorem rQ (x1:Int) (o_:(List Int)):bN Tryz.prog 173 (QC x1) (XM o_) (fun r=>(.bZ [])) (fun r=>[Wi,(1,some (.cells 39 [(.own 3 false r.length)])),(2,none),(3,some (bg 3 1 (aA .i64) r))]) (lW x1 o_):=
  bO tT mX Tryz.func173 (
  .r<| .im (.re 1 0 2 7)<| .lp (σ:=((List Int) × Int)) (β:=(List Int)) (o_,0) [] [(7,6)] ⟨[0,1],[0],fun(o0,t4)=>[(4,(vI t4))],fun(o0,t4)=>[(1,some (.cells 39 [(.own 6 false o0.length)])),(2,none),(6,some (rC o0))]⟩ ⟨[],[0],fun o01=>[],fun o01=>[(1,some (.cells 39 [(.own 6 false o01.length)])),(2,none),(6,some (bg 3 1 (aA .i64) o01))]⟩
  (fun(o0,t4)=> .r<| .it (.r<| .cl 2 (dR x1 t4) fun r_=> .fk r_ (.cy 6 (rkY [(2,6),(3,7)] (oL t4 o0)) fun u0=> .rg {ov:=[(3,true,1)]} [2, .k 0]<| .f<| .r<| .en (.next (u0,(k18 t4))) [] [(7,6)])
  (.rg {ov:=[(3,false,0)],sk:=[4,5,6,7]} [1]<| .f<| .r<| .e (.next (o0,(k18 t4)))))
  (.e (.done (.brk o0))))
  (fun o01=> .en o01 [] [(6,3)]))
abbrev V8:Nat × Option Ob:=(6,some (.loop gT 0 [(2,(vP 4 0))]))
abbrev XT:List (Nat × Option Ob):=[V8,(4,some (.cells 39 [(.own 5 false 0)])),(5,some (.arr 3 1 0 (ah (aA .i64) ([]:List Int))))]
theorem um (u0:Int):bN Tryz.prog 174 [(sD nS),(sD (.fn 173 1 (mh [(wT [(.int .u8 u0)] 0)])))] [] (fun r=>(vD (aH none 1 (aA .i64) r))) (fun _=>[]) (og u0):=
  bO tT mX Tryz.func174 (
  .rg {fr:=[(0,4)]} []<| .r<| .im (.xS 4 0 5 3 1 (ah (aA .i64) ([]:List Int)))<| .cl 0 ⟨fun{r_} hr_=>((Fn.Uu (args:=[(.one (.yl 6)),(sD (wT [(.int .u8 u0)] 0))]) (args':=[(.one (.yl 6)),(sD (wT [(.int .u8 u0)] 0))]) (hin:=[V8,(4,some (.cells 39 [(.own 5 false (([]:List Int).length))])),(5,some (bg 3 1 (aA .i64) ([]:List Int)))]) (hin':=XT) (Fn.uO [(0,6),(1,4),(2,5),(3,7)] (rQ u0 ([]:List Int) hr_) (by kernel_rfl) (by kernel_rfl) (by kernel_rfl) (by kernel_rfl)) ⟨mO.refl _,mO.refl _,trivial⟩ ⟨rfl, .refl _,⟨rfl,jL ⟨jG.of (congrArg (CV.own _ _) (by simp only [List.length_set,List.length_append,List.length_cons,List.length_nil,List.length_replicate,List.length_drop,dH])),trivial⟩,⟨rfl,Ak (by simp only [List.length_set,List.length_append,List.length_cons,List.length_nil,List.length_replicate,List.length_drop,dH]),trivial⟩⟩⟩):Fn Tryz.prog 173 [(.one (.yl 6)),(sD (wT [(.int .u8 u0)] 0))] XT (.bZ []) [V8,(4,some (.cells 39 [(.own 7 false r_.length)])),(5,none),(7,some (rC r_))])⟩ fun r_=> .rf 6 [2] [] none 0 []<| .rg {fz:=[7]} []<| .e r_)
theorem xg (u0:Int):bN Tryz.prog 95 [(sD (.fn 173 1 (mh [(wT [(.int .u8 u0)] 0)])))] [] (fun r=>(vD (aH none 1 (aA .i64) r))) (fun _=>[]) (rq u0):=
  bO tT mX Tryz.func95 (
  .r<| .cl 1 (um u0) fun r_=> .r<| .e r_)
theorem vT (x:Int):bN Tryz.prog 243 [(sI x)] [] (fun r=>(vB r)) (fun _=>[]) (pI x):=
  bO tT mX Tryz.func243 (
  .r<| .r<| .e (!decide (x=x)))
theorem Cx (x:Int) (y:Int):bN Tryz.prog 177 [(sI x),(sI y)] [] (fun r=>(vI r)) (fun _=>[]) (lg x y):=
  bO tT mX Tryz.func177 (
  .r<| .cl 1 (vT x) fun r_=> .r<| .cl 1 (vT y) fun u0=> .r<| .r<| .it (.r<| .it (.r<| .e 0)
  (.r<| .e (-1)))
  (.r<| .it (.r<| .e 1)
  (.r<| .it (.r<| .e (-1))
  (.r<| .it (.r<| .e 1)
  (.r<| .e 0)))))
section
variable (s1:(List Int)) (s2:(List Int))
abbrev Qi:List SV:=[(sD (wC s1)),(sD (wC s2))]
end
theorem wX (s1:(List Int)) (s2:(List Int)):bN Tryz.prog 98 (Qi s1 s2) [] (fun r=>(vI r)) (fun _=>[]) (kQ s1 s2):=
  bO tT mX Tryz.func98 (
  .r<| .r<| .lp (σ:=Int) (β:=Unit) (0) [] [] ⟨[0,1,9,10],[],fun u0=>[(11,(vI u0))],fun u0=>[]⟩ ⟨[0,1],[],fun _=>[],fun _=>[]⟩
  (fun u0=> .r<| .it (.a1 (nD s1 u0)<| .r<| .r<| .it (.r<| .e (.done (.ret 1)))
  (.a1 (nD s2 u0)<| .r<| .cl 2 (Cx (at' s1 u0.toNat) (at' s2 u0.toNat)) fun r_=> .r<| .r<| .it (.r<| .e (.done (.ret r_)))
  (.r<| .e (.next (k18 u0)))))
  (.e (.done (.brk ()))))
  (fun _=> .r<| .it (.r<| .e (-1))
  (.r<| .e 0)))
theorem DR (a:(List Int)) (b:(List Int)):bN Tryz.prog 97 (Qi a b) [] (fun r=>(vI r)) (fun _=>[]) (sN a b):=
  bO tT mX Tryz.func97 (
  .r<| .r<| .it (.r<| .e (IntKind.wrap .i64 ((a.length:Int) - (b.length:Int))))
  (.cl 2 (wX a b) fun r_=> .r<| .e r_))
theorem qX (x y:(List Int)) (hx:x.length≤1000000) (hy:y.length≤1000000):sN x y=some (cmpL x y):=by
 have hc: ∀a b:Int,lg a b=some (if a<b then -1 else if b<a then 1 else 0):=by
  intro a b
  unfold lg pI
  by_cases h:a<b<;>by_cases g:b<a<;>simp [h,g]
 have wr1: ∀x:Int, -9223372036854775808≤x∧x≤9223372036854775807→IntKind.wrap .i64 x=x:=fun x h=>by rw [IntKind.wrap_i64];omega
 unfold sN cmpL
 by_cases h:x.length=y.length
 ·rw [decide_eq_true (by omega),Bool.not_true,cond_false,if_pos h]
  unfold kQ
  have key:=Kb h (body:=dZ x y) (fun i hi=>by
   unfold dZ
   simp only [Int.toNat_natCast]
   rw [decide_eq_true (by omega),cond_true,MP (by omega),decide_eq_false (by omega),cond_false,MP (by omega),hc,Option.bind_some,wr1 _ (by omega)]
   by_cases h1:at' x i<at' y i
   ·rw [if_pos h1,if_pos h1];rfl
   ·rw [if_neg h1,if_neg h1]
    by_cases h2:at' y i<at' x i
    ·rw [if_pos h2,if_pos h2];rfl
    ·rw [if_neg h2,if_neg h2];rfl) (by
   unfold dZ
   rw [decide_eq_false (by omega),cond_false]) x.length 0 FUEL (by omega) (by unfold FUEL;omega)
  rw [List.drop_zero,List.drop_zero]at key
  rw [show aD (dZ x y) FUEL 0=_ from key]
  by_cases h0:nY x y=0
  ·rw [if_pos h0,Option.bind_some,h0]
   simp only
   rw [decide_eq_false (by omega),cond_false];rfl
  ·rw [if_neg h0];rfl
 ·rw [decide_eq_false (by omega),Bool.not_false,cond_true,if_neg h,wr1 _ (by omega)]
theorem sF (s:(List (List Int))) {r:(List (List Int))} (h:dI s=some r):Fn Tryz.prog 96 [(.one (.own 0 false s.length)),(sD (.fn 97 0 (mh [])))] [(0,some (.arr 39 1 s.length (ah (wF 1 (aA .i64)) s)))] (.bZ []) [(0,some (.arr 39 1 r.length (ah (wF 1 (aA .i64)) r)))]:=by
 unfold dI at h
 cases hb:(decide (s.length<4611686018427387904) && (decide s.Nodup && s.all fun x=>decide (x.length≤1000000)))with
 |false=>rw [hb]at h;cases h
 |true=>
  rw [hb]at h
  simp only [Bool.and_eq_true,decide_eq_true_iff,List.all_eq_true]at hb
  exact TQ Oq cmpL Ac JM s (fun x hx y hy=>DR x y (qX x y (hb.2.2 x hx) (hb.2.2 y hy))) hb.2.1 (enters_of Tryz.func97 (by kernel_rfl) rfl) 96 rfl ⟨_,Tryz.func96,rfl,rfl⟩ hb.1 (Option.some.inj h)
theorem oz (n:Int):bN Tryz.prog 100 [(sI n)] [] (fun r=>(vD (aH none 1 (aA .i64) r))) (fun _=>[]) (mg n):=
  bO tT mX Tryz.func100 (
  .r<| .r<| .r<| .im (.ad 3 16 3 1 (ah (aA .i64) ([]:List Int)))<| .lp (σ:=((List Int) × Int)) (β:=(List Int)) (([]:List Int),0) [] [(16,9)] ⟨[0],[],fun(u0,i)=>[(3,(vO 9 false u0.length)),(4,(vI i))],fun(u0,i)=>[(9,some (rC u0))]⟩ ⟨[],[],fun u1=>[(3,(vO 9 false u1.length))],fun u1=>[(9,some (rC u1))]⟩
  (fun(u0,i)=> .r<| .it (.a2 ((0:Int)≤i) (2≠(0:Int))<| .rg {} [0,1]<| .it (.a2 (Ps u0 i) (QW u0 i)<| .rg {an:=[(2, .arr [i].length (ah (aA .i64) [i])),(3, .arr (u0++[i]).length (Gb u0 i))],fr:=[(2,14),(3,15)]} [.pf ⟨[i].length=1,rfl⟩, .pf ⟨av 1 1 (eO 1 [(.int .i64 i)]) (ah (aA .i64) [i]),(by intro i hi j hj;match i,j,hi,hj with|0,0,_,_=>rfl)⟩, .e (u0.length),0,1, .pf ⟨(u0++[i]).length=u0.length+[i].length,List.length_append⟩, .pf ⟨av (u0.length+[i].length) 1 (Qy u0 i) (Gb u0 i),aW _ _ _ _⟩]<| .r<| .en (.next ((u0++[i]),(k18 i))) [] [(15,9)])
  (.r<| .e (.next (u0,(k18 i)))))
  (.e (.done (.brk u0))))
  (fun u1=> .rg {fz:=[9]} []<| .e u1))
section
variable (y:bE) (u1:(List Int)) (i:Int) (u0:(List Part))
abbrev Qx:List SV:=[(.agg (Pt y)),(sD (wC u1))]
abbrev N9:=((at' y.jobs ((at' u1 i.toNat).toNat)).parts)
abbrev O6:=(u0++(N9 y u1 i))
end
theorem Cu (y:bE) (u1:(List Int)):bN Tryz.prog 244 (Qx y u1) [] (fun r=>(vD (aH none 2 Part.cell r))) (fun _=>[]) (yA y u1):=
  bO tT mX Tryz.func244 (
  .rg {fr:=[(0,5)],fz:=[5]} []<| .r<| .r<| .im (.ad 5 10 78 2 (ah Part.cell ([]:List Part)))<| .lp (σ:=((List Part) × Int)) (β:=(List Part)) (([]:List Part),0) [] [(10,6)] ⟨[1,2],[],fun(u0,i)=>[(5,(vO 6 false u0.length)),(6,(vI i))],fun(u0,i)=>[(6,some (bg 78 2 Part.cell u0))]⟩ ⟨[],[],fun u2=>[(5,(vO 6 false u2.length))],fun u2=>[(6,some (bg 78 2 Part.cell u2))]⟩
  (fun(u0,i)=> .r<| .it (.a4 (nD u1 i) ((0:Int)≤(at' u1 i.toNat)∧(at' u1 i.toNat)<(y.jobs.length:Int)) ((u0.length+(N9 y u1 i).length)*16≤140737488355328) (u0.length+(N9 y u1 i).length≤4611686018427387904)<| .rg {an:=[(10, .arr (O6 y u1 i u0).length (ah Part.cell (O6 y u1 i u0)))],fr:=[(10,9)]} [0,1, .e (u0.length),2,3, .pf ⟨(O6 y u1 i u0).length=u0.length+(N9 y u1 i).length,List.length_append⟩, .pf ⟨av (u0.length+(N9 y u1 i).length) 2 (dQ (ah Part.cell u0) u0.length (ah Part.cell (N9 y u1 i))) (ah Part.cell (O6 y u1 i u0)),aW _ _ _ _⟩]<| .r<| .en (.next ((O6 y u1 i u0),(k18 i))) [] [(9,6)])
  (.e (.done (.brk u0))))
  (fun u2=> .rg {fz:=[6]} []<| .e u2))
section
variable (p:aF) (u0:Int) (r_:((List Bool) × Int)) (u1:(List aM))
abbrev Zr:=(bif (decide (0≤((jX p u0).e1)))then(at' r_.1 ((if(jX p u0).e1<0 then 0 else(jX p u0).e1).toNat))else false)
abbrev MH:=(⟨(at' r_.1 (((jX p u0).e0).toNat)),(Zr p u0 r_)⟩:aM)
abbrev Xn:=(u1.length+[(MH p u0 r_)].length)
abbrev VQ:=(ah aM.cell [(MH p u0 r_)])
abbrev TD:=(u1++[(MH p u0 r_)])
abbrev X3:=(ah aM.cell (TD p u0 r_ u1))
end
theorem FM (p:aF) (s_:State):bN Tryz.prog 282 (k28 s_ p) [] (fun r=>(.bZ [(sD (aH none 2 aM.cell r.1)),(sI r.2)])) (fun _=>[]) (Dm p s_):=
  bO tT mX Tryz.func282 (
  .rg {fr:=[(0,14),(1,15)],fz:=[15]} []<| .cl 2 (tC p s_) fun r_=> .r<| .r<| .it (.r<| .e (([]:List aM),r_.2))
  (.r<| .r<| .im (.ad 8 28 133 2 (ah aM.cell ([]:List aM)))<| .lp (σ:=((List aM) × Int)) (β:=(List aM)) (([]:List aM),0) [] [(28,18)] ⟨[2,6],[14],fun(u1,u0)=>[(8,(vO 18 false u1.length)),(9,(vI u0))],fun(u1,u0)=>[(18,some (bg 133 2 aM.cell u1))]⟩ ⟨[],[],fun u2=>[(8,(vO 18 false u2.length))],fun u2=>[(18,some (bg 133 2 aM.cell u2))]⟩
  (fun(u1,u0)=> .r<| .it (.a1 ((0:Int)≤u0∧u0<(p.racks.length:Int))<| .rg {fr:=[(6,25)],fz:=[25]} []<| .a4 ((0:Int)≤(jX p u0).e0∧(jX p u0).e0<(r_.1.length:Int)) ((gB [((decide (0≤((jX p u0).e1))),true)]=true→(0:Int)≤(if(jX p u0).e1<0 then 0 else(jX p u0).e1)∧(if(jX p u0).e1<0 then 0 else(jX p u0).e1)<(r_.1.length:Int))) ((Xn p u0 r_ u1)*2≤140737488355328) (u1.length+[(MH p u0 r_)].length≤4611686018427387904)<| .rg {an:=[(18, .arr [(MH p u0 r_)].length (VQ p u0 r_)),(19, .arr (TD p u0 r_ u1).length (X3 p u0 r_ u1))],fr:=[(18,26),(19,27)]} [.pf ⟨(0:Int)≤0∧(0:Int)<(2:Nat),(by decide)⟩,0, .pf ⟨(0:Int)≤1∧(1:Int)<(2:Nat),(by decide)⟩, .pf ⟨(0:Int)≤1∧(1:Int)<(2:Nat),(by decide)⟩,1, .pf ⟨[(MH p u0 r_)].length=1,rfl⟩, .pf ⟨av 1 2 (eO 2 [(.bool (at' r_.1 (((jX p u0).e0).toNat))),(.bool (Zr p u0 r_))]) (VQ p u0 r_),(by intro i hi j hj;match i,j,hi,hj with|0,0,_,_=>rfl|0,1,_,_=>rfl)⟩, .e (u1.length),2,3, .pf ⟨(TD p u0 r_ u1).length=u1.length+[(MH p u0 r_)].length,List.length_append⟩, .pf ⟨av (Xn p u0 r_ u1) 2 (dQ (ah aM.cell u1) u1.length (VQ p u0 r_)) (X3 p u0 r_ u1),aW _ _ _ _⟩]<| .r<| .en (.next ((TD p u0 r_ u1),(k18 u0))) [] [(27,18)])
  (.e (.done (.brk u1))))
  (fun u2=> .rg {fz:=[18]} []<| .e (u2,0))))
section
variable (u1:(List Bool)) (u2:(List Bool)) (u3:(List Bool)) (u4:(List Bool)) (u5:(List Bool)) (u6:(List Bool)) (u7:(List Bool))
abbrev YJ:List (Nat × Option Ob):=[(12,some (VB u1 u2 u3 u4 u5 u6 u7))]
end
theorem xk (p:aF) (s_:State) (l:(List Transfer)) (u8:(List Part)):bN Tryz.prog 281 (YN p s_ l u8) [] (fun r=>(.bZ [(.agg [(.d (aH none 1 af r.1.closed)),(.d (aH none 1 af r.1.locked)),(.d (aH none 1 af r.1.badLink)),(.d (aH none 1 af r.1.on_)),(.d (aH none 1 af r.1.badSource)),(.d (aH none 1 af r.1.earthed)),(.d (aH none 1 af r.1.badBus))]),(sI r.2)])) (fun _=>[]) (xQ p s_ l u8):=
  bO tT mX Tryz.func281 (
  .rg {fr:=[(0,9),(1,10),(2,11)],fz:=[9]} []<| .cl 3 (iT p s_ l) fun r_=> .r<| .r<| .it (.r<| .en (RF r_) [11] [])
  (.rg {fr:=[(1,12)]} []<| .r<| .lp (σ:=((List Bool) × (List Bool) × (List Bool) × (List Bool) × (List Bool) × (List Bool) × (List Bool) × Int)) (β:=((List Bool) × (List Bool) × (List Bool) × (List Bool) × (List Bool) × (List Bool) × (List Bool))) (s_.closed,s_.locked,s_.badLink,s_.on_,s_.badSource,s_.earthed,s_.badBus,0) [] [] ⟨[2,3,4,8,11],[11],fun(u1,u2,u3,u4,u5,u6,u7,i)=>[(12,(vI i))],fun(u1,u2,u3,u4,u5,u6,u7,i)=>(YJ u1 u2 u3 u4 u5 u6 u7)⟩ ⟨[2,4,8,11],[11],fun(u9,v0,v1,v2,v3,v4,v5)=>[],fun(u9,v0,v1,v2,v3,v4,v5)=>(YJ u9 v0 v1 v2 v3 v4 v5)⟩
  (fun(u1,u2,u3,u4,u5,u6,u7,i)=> .r<| .it (.cl 6 (lG p (⟨u1,u2,u3,u4,u5,u6,u7⟩:State) (at' u8 i.toNat) true) fun u0=> .a1 (Mx i u8)<| .rg {fr:=[(10,16)]} [0,1]<| .r<| .it (.r<| .en (.done (.ret (XA u0))) [11] [])
  (.r<| .r<| .e (.next (XE u0 i))))
  (.e (.done (.brk (u1,u2,u3,u4,u5,u6,u7)))))
  (fun(u9,v0,v1,v2,v3,v4,v5)=> .cl 3 (fw [(0,17)] (lV p (⟨u9,v0,v1,v2,v3,v4,v5⟩:State) l)) fun v6=> .r<| .r<| .en (v6.1,0) [11] [])))
theorem vC (y:bE) (u2:(List Part)) (u1:Int):bN Tryz.prog 245 [(.agg (Pt y)),(sD (aH none 2 Part.cell u2)),(sI u1)] [] (fun r=>(vB r)) (fun _=>[]) (uP y u2 u1):=
  bO tT mX Tryz.func245 (
  .rg {fr:=[(0,2)],fz:=[2]} []<| .cl 7 (xk y.plant y.state y.transfers u2) fun r_=> .rg {fr:=[(11,3)],fz:=[3]} []<| .cl 3 (FM y.plant r_.1) fun u3=> .r<| .r<| .lp (σ:=Int) (β:=Unit) (0) [] [] ⟨[2,3,9],[],fun u0=>[(11,(vI u0))],fun u0=>[]⟩ ⟨[],[],fun _=>[],fun _=>[]⟩
  (fun u0=> .r<| .it (.a3 ((0:Int)≤u0∧u0<(y.plant.racks.length:Int)) ((gB [((decide (u1≤((at' y.plant.racks u0.toNat).paths))),true)]=true→(0:Int)≤u0∧u0<(u3.1.length:Int))) ((gB [((bif (decide (u1≤((at' y.plant.racks u0.toNat).paths)))then(!((at' u3.1 u0.toNat).e0))else false),true)]=true→(0:Int)≤u0∧u0<(u3.1.length:Int)))<| .rg {} [0,1, .pf ⟨(0:Int)≤0∧(0:Int)<(2:Nat),(by decide)⟩,2, .pf ⟨(0:Int)≤1∧(1:Int)<(2:Nat),(by decide)⟩]<| .it (.r<| .e (.done (.ret false)))
  (.r<| .e (.next (k18 u0))))
  (.e (.done (.brk ()))))
  (fun _=> .r<| .e true))
section
variable (u0:(List Part)) (i:Int)
abbrev O0:List (Nat × Option Ob):=[(28,some (bg 78 2 Part.cell u0))]
abbrev Pb:=(ah Part.cell [(⟨1,i⟩:Part)])
end
theorem xA (p:aF):bN Tryz.prog 283 (k8 p) [] (fun r=>(.bZ [(.one (.own 0 false r.1.length)),(sI r.2)])) (fun r=>[(0,some (bg 78 2 Part.cell r.1))]) (xK p):=
  bO tT mX Tryz.func283 (
  .rg {fr:=[(0,25)],fz:=[25]} []<| .cl 1 (qW p) fun r_=> .r<| .r<| .it (.r<| .im (.ad 2 26 78 2 (ah Part.cell ([]:List Part)))<| .en (([]:List Part),r_) [] [(26,0)])
  (.r<| .r<| .im (.ad 5 35 78 2 (ah Part.cell ([]:List Part)))<| .lp (σ:=((List Part) × Int)) (β:=(List Part)) (([]:List Part),0) [] [(35,28)] ⟨[1],[],fun(u0,i)=>[(5,(vO 28 false u0.length)),(6,(vI i))],fun(u0,i)=>(O0 u0)⟩ ⟨[1],[],fun u3=>[(5,(vO 28 false u3.length))],fun u3=>(O0 u3)⟩
  (fun(u0,i)=> .r<| .it (.a2 ((u0.length+[(⟨1,i⟩:Part)].length)*16≤140737488355328) (u0.length+[(⟨1,i⟩:Part)].length≤4611686018427387904)<| .rg {an:=[(3, .arr [(⟨1,i⟩:Part)].length (Pb i)),(4, .arr (u0++[(⟨1,i⟩:Part)]).length (ah Part.cell (u0++[(⟨1,i⟩:Part)])))],fr:=[(3,33),(4,34)]} [.pf ⟨[(⟨1,i⟩:Part)].length=1,rfl⟩, .pf ⟨av 1 2 (eO 2 [(.int .i64 1),(.int .i64 i)]) (Pb i),(by intro i hi j hj;match i,j,hi,hj with|0,0,_,_=>rfl|0,1,_,_=>rfl)⟩, .e (u0.length),0,1, .pf ⟨(u0++[(⟨1,i⟩:Part)]).length=u0.length+[(⟨1,i⟩:Part)].length,List.length_append⟩, .pf ⟨av (u0.length+[(⟨1,i⟩:Part)].length) 2 (dQ (ah Part.cell u0) u0.length (Pb i)) (ah Part.cell (u0++[(⟨1,i⟩:Part)])),aW _ _ _ _⟩]<| .r<| .en (.next ((u0++[(⟨1,i⟩:Part)]),(k18 i))) [] [(34,28)])
  (.e (.done (.brk u0))))
  (fun u3=> .r<| .lp (σ:=((List Part) × Int)) (β:=(List Part)) (u3,0) [] [] ⟨[1],[],fun(u1,i1)=>[(5,(vO 28 false u1.length)),(7,(vI i1))],fun(u1,i1)=>(O0 u1)⟩ ⟨[1],[],fun u4=>[(5,(vO 28 false u4.length))],fun u4=>(O0 u4)⟩
  (fun(u1,i1)=> .r<| .it (.a2 ((u1.length+[(⟨2,i1⟩:Part)].length)*16≤140737488355328) (u1.length+[(⟨2,i1⟩:Part)].length≤4611686018427387904)<| .rg {an:=[(3, .arr [(⟨2,i1⟩:Part)].length (ah Part.cell [(⟨2,i1⟩:Part)])),(4, .arr (u1++[(⟨2,i1⟩:Part)]).length (ah Part.cell (u1++[(⟨2,i1⟩:Part)])))],fr:=[(3,42),(4,43)]} [.pf ⟨[(⟨2,i1⟩:Part)].length=1,rfl⟩, .pf ⟨av 1 2 (eO 2 [(.int .i64 2),(.int .i64 i1)]) (ah Part.cell [(⟨2,i1⟩:Part)]),(by intro i hi j hj;match i,j,hi,hj with|0,0,_,_=>rfl|0,1,_,_=>rfl)⟩, .e (u1.length),0,1, .pf ⟨(u1++[(⟨2,i1⟩:Part)]).length=u1.length+[(⟨2,i1⟩:Part)].length,List.length_append⟩, .pf ⟨av (u1.length+[(⟨2,i1⟩:Part)].length) 2 (dQ (ah Part.cell u1) u1.length (ah Part.cell [(⟨2,i1⟩:Part)])) (ah Part.cell (u1++[(⟨2,i1⟩:Part)])),aW _ _ _ _⟩]<| .r<| .en (.next ((u1++[(⟨2,i1⟩:Part)]),(k18 i1))) [] [(43,28)])
  (.e (.done (.brk u1))))
  (fun u4=> .r<| .lp (σ:=((List Part) × Int)) (β:=(List Part)) (u4,0) [] [] ⟨[1],[],fun(u2,i2)=>[(5,(vO 28 false u2.length)),(8,(vI i2))],fun(u2,i2)=>(O0 u2)⟩ ⟨[],[],fun u5=>[(5,(vO 28 false u5.length))],fun u5=>(O0 u5)⟩
  (fun(u2,i2)=> .r<| .it (.a2 ((u2.length+[(⟨3,i2⟩:Part)].length)*16≤140737488355328) (u2.length+[(⟨3,i2⟩:Part)].length≤4611686018427387904)<| .rg {an:=[(3, .arr [(⟨3,i2⟩:Part)].length (ah Part.cell [(⟨3,i2⟩:Part)])),(4, .arr (u2++[(⟨3,i2⟩:Part)]).length (ah Part.cell (u2++[(⟨3,i2⟩:Part)])))],fr:=[(3,50),(4,51)]} [.pf ⟨[(⟨3,i2⟩:Part)].length=1,rfl⟩, .pf ⟨av 1 2 (eO 2 [(.int .i64 3),(.int .i64 i2)]) (ah Part.cell [(⟨3,i2⟩:Part)]),(by intro i hi j hj;match i,j,hi,hj with|0,0,_,_=>rfl|0,1,_,_=>rfl)⟩, .e (u2.length),0,1, .pf ⟨(u2++[(⟨3,i2⟩:Part)]).length=u2.length+[(⟨3,i2⟩:Part)].length,List.length_append⟩, .pf ⟨av (u2.length+[(⟨3,i2⟩:Part)].length) 2 (dQ (ah Part.cell u2) u2.length (ah Part.cell [(⟨3,i2⟩:Part)])) (ah Part.cell (u2++[(⟨3,i2⟩:Part)])),aW _ _ _ _⟩]<| .r<| .en (.next ((u2++[(⟨3,i2⟩:Part)]),(k18 i2))) [] [(51,28)])
  (.e (.done (.brk u2))))
  (fun u5=> .r<| .en (u5,0) [] [(28,0)])))))
section
variable (r_:((List Part) × Int)) (i:Int) (s_:State)
abbrev YT:=(bif (decide (((at' r_.1 i.toNat).kind)=1))then(!(at' s_.badBus (((at' r_.1 i.toNat).index).toNat)))else false)
end
theorem BZ (p:aF) (s_:State):bN Tryz.prog 246 (k28 s_ p) [] (fun r=>(vD (aH none 2 Part.cell r))) (fun _=>[]) (xJ p s_):=
  bO tT mX Tryz.func246 (
  .rg {fr:=[(0,15),(1,16)],fz:=[15,16]} []<| .r<| .cl 1 (fw [(0,17)] (xA p)) fun r_=> .r<| .r<| .im (.ad 5 30 78 2 (ah Part.cell ([]:List Part)))<| .lp (σ:=((List Part) × Int)) (β:=(List Part)) (([]:List Part),0) [] [(30,20)] ⟨[3,6],[17],fun(u0,i)=>[(5,(vO 20 false u0.length)),(8,(vI i))],fun(u0,i)=>[(20,some (bg 78 2 Part.cell u0))]⟩ ⟨[],[],fun u1=>[(5,(vO 20 false u1.length))],fun u1=>[(20,some (bg 78 2 Part.cell u1))]⟩
  (fun(u0,i)=> .r<| .it (.a1 ((0:Int)≤i∧i<(r_.1.length:Int))<| .rg {fr:=[(4,27)],fz:=[27]} [0, .t 0 i r_.1.length]<| .a3 ((gB [((decide (((at' r_.1 i.toNat).kind)=1)),true)]=true→(0:Int)≤(at' r_.1 i.toNat).index∧(at' r_.1 i.toNat).index<(s_.badBus.length:Int))) ((gB [((decide (((at' r_.1 i.toNat).kind)=2)),true),((YT r_ i s_),false)]=true→(0:Int)≤(at' r_.1 i.toNat).index∧(at' r_.1 i.toNat).index<(s_.badSource.length:Int))) ((gB [((decide (((at' r_.1 i.toNat).kind)=3)),true),((bif (YT r_ i s_)then true else(bif (decide (((at' r_.1 i.toNat).kind)=2))then(!(at' s_.badSource (((at' r_.1 i.toNat).index).toNat)))else false)),false)]=true→(0:Int)≤(at' r_.1 i.toNat).index∧(at' r_.1 i.toNat).index<(s_.badLink.length:Int)))<| .rg {} [0,1,2]<| .it (.a2 ((u0.length+[(at' r_.1 i.toNat)].length)*16≤140737488355328) (u0.length+[(at' r_.1 i.toNat)].length≤4611686018427387904)<| .rg {an:=[(2, .arr [(at' r_.1 i.toNat)].length (N7 r_ i)),(3, .arr (DJ r_ i u0).length (TB r_ i u0))],fr:=[(2,28),(3,29)]} [.pf ⟨[(at' r_.1 i.toNat)].length=1,rfl⟩, .pf ⟨av 1 2 (eO 2 [(.int .i64 ((at' r_.1 i.toNat).kind)),(.int .i64 ((at' r_.1 i.toNat).index))]) (N7 r_ i),(by intro i hi j hj;match i,j,hi,hj with|0,0,_,_=>rfl|0,1,_,_=>rfl)⟩, .e (u0.length),0,1, .pf ⟨(DJ r_ i u0).length=u0.length+[(at' r_.1 i.toNat)].length,List.length_append⟩, .pf ⟨av (u0.length+[(at' r_.1 i.toNat)].length) 2 (dQ (ah Part.cell u0) u0.length (N7 r_ i)) (TB r_ i u0),aW _ _ _ _⟩]<| .r<| .en (.next ((DJ r_ i u0),(k18 i))) [] [(29,20)])
  (.r<| .e (.next (u0,(k18 i)))))
  (.e (.done (.brk u0))))
  (fun u1=> .rg {fz:=[20]} []<| .e u1))
section
variable (y:bE) (u2:Int)
abbrev UK:=(⟨y.plant,y.state,y.transfers,y.jobs,u2,y.redundant⟩:bE)
end
theorem Bj (y:bE) (u3:(List Int)):bN Tryz.prog 178 (Qx y u3) [] (fun r=>(vB r)) (fun _=>[]) (yh y u3):=
  bO tT mX Tryz.func178 (
  .rg {fr:=[(0,13)],fz:=[13]} []<| .r<| .r<| .lp (σ:=(Int × Int)) (β:=(Int × Int)) (0,0) [] [] ⟨[1,2],[],fun(u4,i)=>[(5,(vI u4)),(6,(vI i))],fun(u4,i)=>[]⟩ ⟨[1],[],fun(u2,u5)=>[(2,(vD (wT [(.int .i64 y.plant.buses),(Fu y),(F8 y),(EU y),(Gp y),(Er y),(Fs y),(FD y),(Gq y),(Gh y),(FE y),(Fz y),(aH none 6 aC.cell y.jobs),(.int .i64 u2),(.bool y.redundant)] 0))),(5,(vI u5))],fun(u2,u5)=>[]⟩
  (fun(u4,i)=> .r<| .it (.a2 (nD u3 i) ((0:Int)≤(at' u3 i.toNat)∧(at' u3 i.toNat)<(y.jobs.length:Int))<| .rg {} [0,1]<| .r<| .e (.next ((IntKind.wrap .i64 (u4+((at' y.jobs ((at' u3 i.toNat).toNat)).people))),(k18 i))))
  (.e (.done (.brk (y.people,u4)))))
  (fun(u2,u5)=> .cl 2 (Cu (UK y u2) u3) fun r_=> .r<| .r<| .lp (σ:=Int) (β:=Unit) (0) [] [] ⟨[2,5,7],[],fun i1=>[(8,(vI i1))],fun i1=>[]⟩ ⟨[2,5,7],[],fun _=>[],fun _=>[]⟩
  (fun i1=> .r<| .it (.r<| .lp (σ:=Int) (β:=Unit) (0) [] [] ⟨[2,5,7,8],[],fun kz=>[(9,(vI kz))],fun kz=>[]⟩ ⟨[2,5,7,8],[],fun _=>[],fun _=>[]⟩
  (fun kz=> .r<| .it (.a2 (Mx i1 r_) (Mx kz r_)<| .rg {} [0,1]<| .it (.r<| .e (.done (.ret (.done (.ret false)))))
  (.r<| .e (.next (k18 kz))))
  (.e (.done (.brk ()))))
  (fun _=> .r<| .e (.next (k18 i1))))
  (.e (.done (.brk ()))))
  (fun _=> .cg 7 [((decide (u2<u5)),false)] (vC (UK y u2) r_ 1) fun u7=> .r<| .it (.r<| .e false)
  (.cl 4 (BZ y.plant y.state) fun u0=> .r<| .r<| .lp (σ:=Int) (β:=Unit) (0) [] [] ⟨[2,7,10],[],fun i2=>[(11,(vI i2))],fun i2=>[]⟩ ⟨[],[],fun _=>[],fun _=>[]⟩
  (fun i2=> .r<| .it (.cl 2 (fw [(0,23)] (gU r_)) fun u1=> .cr 9 ⟨fun{u6} hr_4=>((Fn.vE (frz:=[25]) (p:=[(u1++[(at' u0 i2.toNat)]).length=(u1++[(at' u0 i2.toNat)]).length]) (vC (UK y u2) (u1++[(at' u0 i2.toNat)]) 2 hr_4) (by kernel_rfl) ⟨rfl,trivial⟩ rfl):Fn Tryz.prog 245 [(.agg [(cI y.plant.buses),(.d (Fu y)),(.d (F8 y)),(.d (EU y)),(.d (Gp y)),(.d (Er y)),(.d (Fs y)),(.d (FD y)),(.d (Gq y)),(.d (Gh y)),(.d (FE y)),(.d (Fz y)),(.d (aH none 6 aC.cell y.jobs)),(cI u2),(cB y.redundant)]),(.one (.own 25 false ((u1++[(at' u0 i2.toNat)]).length))),(sI 2)] [(25,some (bg 78 2 Part.cell (u1++[(at' u0 i2.toNat)])))] (vB u6) [(25,some (bg 78 2 Part.cell (u1++[(at' u0 i2.toNat)])))])⟩ fun u6=> .a3 (Mx i2 u0) ((u1.length+[(at' u0 i2.toNat)].length)*16≤140737488355328) (u1.length+[(at' u0 i2.toNat)].length≤4611686018427387904)<| .rg {an:=[(7, .arr [(at' u0 i2.toNat)].length (ah Part.cell [(at' u0 i2.toNat)])),(8, .arr (u1++[(at' u0 i2.toNat)]).length (ah Part.cell (u1++[(at' u0 i2.toNat)])))],fr:=[(7,24),(8,25)]} [4,0, .pf ⟨[(at' u0 i2.toNat)].length=1,rfl⟩, .pf ⟨av 1 2 (eO 2 [(.int .i64 ((at' u0 i2.toNat).kind)),(.int .i64 ((at' u0 i2.toNat).index))]) (ah Part.cell [(at' u0 i2.toNat)]),(by intro i hi j hj;match i,j,hi,hj with|0,0,_,_=>rfl|0,1,_,_=>rfl)⟩, .e (u1.length),1,2, .pf ⟨(u1++[(at' u0 i2.toNat)]).length=u1.length+[(at' u0 i2.toNat)].length,List.length_append⟩, .pf ⟨av (u1.length+[(at' u0 i2.toNat)].length) 2 (dQ (ah Part.cell u1) u1.length (ah Part.cell [(at' u0 i2.toNat)])) (ah Part.cell (u1++[(at' u0 i2.toNat)])),aW _ _ _ _⟩,3]<| .it (.r<| .e (.done (.ret false)))
  (.r<| .e (.next (k18 i2))))
  (.e (.done (.brk ()))))
  (fun _=> .r<| .e true)))))
section
variable (y:bE) (m:Int) (n1:Int) (u3:(List Bool))
abbrev Td:=(IntKind.wrap .i64 ((1:Int)*2 ^ min (y.jobs.length:Int).toNat (IntKind.bits .i64)))
abbrev Y2:=((0:Int)≤(Td y))
abbrev XR:=((1:Int)*(Td y)≤281474976710656)
abbrev Xv:=((Td y):Int)
abbrev YU:=((Xv y)≤9223372036854775807)
abbrev Qn:=((Td y).toNat)
abbrev MJ:=(List.replicate (Qn y) (false:Bool))
abbrev SN:=(ah af (MJ y))
abbrev XZ:=((Xv y))
abbrev Zc:=((gB [((decide ((IntKind.wrap .i64 (((BitVec.ofInt (IntKind.bits .i64) m &&& BitVec.ofInt (IntKind.bits .i64) n1).toNat:Int)))=m)),true)]=true→(0:Int)≤m∧m<(u3.length:Int)))
end
theorem kT (y:bE):bN Tryz.prog 99 (Pg y) [] (fun r=>(vD (aH none 1 af r))) (fun _=>[]) (kZ y):=
  bO tT mX Tryz.func99 (
  .rg {fr:=[(0,3)],fz:=[3]} []<| .a4 ((0:Int)≤(y.jobs.length:Int)) (Y2 y) (XR y) (YU y)<| .rg {an:=[(4, .arr (MJ y).length (SN y))],fr:=[(4,4)]} [0,1, .e (XZ y),2,3, .pf ⟨(MJ y).length=(Qn y),List.length_replicate⟩, .pf ⟨av (Qn y) 1 (fun _ j=>[(.bool false)].getD j .nilp) (SN y),bY _ _ _ _ _ (fun j hj=>(match j,hj with|0,_=>rfl))⟩]<| .a4 ((0:Int)≤(y.jobs.length:Int)) (Y2 y) (XR y) (YU y)<| .rg {an:=[(4, .arr (MJ y).length (SN y))],fr:=[(4,5)]} [0,1, .e (XZ y),2,3, .pf ⟨(MJ y).length=(Qn y),List.length_replicate⟩, .pf ⟨av (Qn y) 1 (fun _ j=>[(.bool false)].getD j .nilp) (SN y),bY _ _ _ _ _ (fun j hj=>(match j,hj with|0,_=>rfl))⟩]<| .r<| .lp (σ:=((List Bool) × Int)) (β:=(List Bool)) ((MJ y),0) [] [] ⟨[1,4],[5],fun(u1,n)=>[(3,(vO 4 true u1.length)),(5,(vI n))],fun(u1,n)=>[(4,some (bg 4 1 af u1))]⟩ ⟨[4],[5],fun u3=>[(3,(vO 4 true u3.length))],fun u3=>[(4,some (bg 4 1 af u3))]⟩
  (fun(u1,n)=> .r<| .it (.cg 7 [((decide (n=0)),false)] (oz n) fun r_=> .cg 8 [((decide (n=0)),false)] (Bj y r_) fun u4=> .a1 (O5 u1 n)<| .rg {an:=[(11, .arr 0 (ah af (u1.set n.toNat (bif (decide (n=0))then true else u4))))]} [2,1,0, .t 0 n u1.length, .pf ⟨av u1.length 1 (bW (ah af u1) n.toNat 0 [(.bool (bif (decide (n=0))then true else u4))]) (ah af (u1.set n.toNat (bif (decide (n=0))then true else u4))),aR _ _ _ _ _ _ _ _ rfl (fun j hj=>(match j,hj with|0,_=>rfl))⟩]<| .im (.ll 4 u1 (u1.set n.toNat (bif (decide (n=0))then true else u4)))<| .r<| .e (.next ((u1.set n.toNat (bif (decide (n=0))then true else u4)),(k18 n))))
  (.e (.done (.brk u1))))
  (fun u3=> .rg {fz:=[4]} []<| .lp (σ:=((List Bool) × Int)) (β:=(List Bool)) ((MJ y),0) [] [] ⟨[3],[],fun(u2,n1)=>[(4,(vO 5 true u2.length)),(6,(vI n1))],fun(u2,n1)=>(Kz u2)⟩ ⟨[],[],fun u5=>[(4,(vO 5 true u5.length))],fun u5=>(Kz u5)⟩
  (fun(u2,n1)=> .r<| .it (.a1 (O5 u2 n1)<| .rg {an:=[(3, .arr 0 (ah af (u2.set n1.toNat true)))]} [0, .t 0 n1 u2.length, .pf ⟨av u2.length 1 (bW (ah af u2) n1.toNat 0 [(.bool true)]) (ah af (u2.set n1.toNat true)),aR _ _ _ _ _ _ _ _ rfl (fun j hj=>(match j,hj with|0,_=>rfl))⟩]<| .im (.ll 5 u2 (u2.set n1.toNat true))<| .r<| .lp (σ:=((List Bool) × Int)) (β:=(List Bool)) ((u2.set n1.toNat true),1) [] [] ⟨[3,6],[],fun(u0,m)=>[(4,(vO 5 true u0.length)),(7,(vI m))],fun(u0,m)=>(Kz u0)⟩ ⟨[3,6],[],fun u6=>[(4,(vO 5 true u6.length))],fun u6=>(Kz u6)⟩
  (fun(u0,m)=> .r<| .it (.a1 (Zc m n1 u3)<| .r<| .it (.a1 (O5 u0 n1)<| .rg {an:=[(3, .arr 0 (ah af (u0.set n1.toNat false)))]} [0, .t 0 n1 u0.length, .pf ⟨av u0.length 1 (bW (ah af u0) n1.toNat 0 [(.bool false)]) (ah af (u0.set n1.toNat false)),aR _ _ _ _ _ _ _ _ rfl (fun j hj=>(match j,hj with|0,_=>rfl))⟩]<| .im (.ll 5 u0 (u0.set n1.toNat false))<| .r<| .e (.next ((u0.set n1.toNat false),(k18 m))))
  (.r<| .e (.next (D7 m u0))))
  (.e (.done (.brk u0))))
  (fun u6=> .r<| .e (.next (D7 n1 u6))))
  (.e (.done (.brk u2))))
  (fun u5=> .rg {fz:=[5]} []<| .e u5)))
theorem zZ (a:(List Int)) (b:(List Int)):bN Tryz.prog 101 (Qi a b) [] (fun r=>(vB r)) (fun _=>[]) (vM a b):=
  bO tT mX Tryz.func101 (
  .r<| .r<| .it (.r<| .e (decide ((a.length:Int)<(b.length:Int))))
  (.r<| .lp (σ:=Int) (β:=Unit) (0) [] [] ⟨[0,1],[],fun i=>[(5,(vI i))],fun i=>[]⟩ ⟨[],[],fun _=>[],fun _=>[]⟩
  (fun i=> .r<| .it (.a2 (nD a i) (nD b i)<| .rg {} [0,1]<| .it (.a2 (nD a i) (nD b i)<| .rg {} [0,1]<| .e (.done (.ret (decide ((at' a i.toNat)<(at' b i.toNat))))))
  (.r<| .e (.next (k18 i))))
  (.e (.done (.brk ()))))
  (fun _=> .r<| .e false)))
end
end Sg
