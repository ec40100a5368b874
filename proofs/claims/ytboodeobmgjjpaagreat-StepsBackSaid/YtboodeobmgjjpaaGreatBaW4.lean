import Derived.Test.YtboodeobmgjjpaaGreatBaW3
set_option linter.all false
namespace Sg
open Go Go.Proofs
set_option maxRecDepth 20000
noncomputable section
section
variable (u1:(List aI)) (u2:(List (Int × Int)))
end
section
variable (u6:(List aC))
end
section
variable (u2:(List Bool)) (u3:(List Bool)) (u4:(List Bool)) (u5:(List Bool)) (u6:(List Bool)) (u7:(List Bool)) (u8:(List Bool)) (i:Int) (l:(List af)) (p:au) (r_:Task) (u0:(Int × State × Int)) (u9:((List Bool) × Int)) (t:Task) (u1:Int)
abbrev aar:Ob:=(.cells 29 (I8 u2 u3 u4 u5 u6 u7 u8))
abbrev Wo:=((TS i) - i.toNat)
abbrev Yr:=(FV l i.toNat (Wo i))
abbrev aaf:List SV:=[(.agg (k1 p)),(.agg (I8 u2 u3 u4 u5 u6 u7 u8)),(.agg (k2 r_)),(sD (bg none 2 af.cell (Yr i l)))]
abbrev aav:=((0:Int)≤i∧i≤(k18 i)∧(k18 i)≤(l.length:Int))
end
section
variable (u0:((List af) × (List State) × Int)) (i:Int)
end
theorem yx (s_:(List af)):eu Tryz.prog 85 (Vo s_) [] (fun r=>(vD (.fn 121 1 (bn [(Da [(bg none 2 af.cell r)] 0)])))) (fun _=>[]) (gJ s_):=
  eZ tT mX Tryz.func85 (
  .rg {fr:=[(0,1)],fz:=[1]} []<| .r<| .e s_)
noncomputable def j6:gV:=⟨[8,9],K9 ([1,1,0,1,0]++[0]) (qb Tryz.f42),K9 ([1,1,0,1,0]++[1]) (qb Tryz.f42),16,[]⟩
theorem Aw (x:af):eu Tryz.prog 48 [(.agg (RA x))] [] (fun r=>(.v (.agg [(cI r.deed),(cI r.index)]))) (fun _=>[]) (nJ x):=
  eZ tT mX Tryz.func48 (
  .rg {fr:=[(0,2),(1,3)]} []<| .r<| .it (.r<| .rg {fz:=[3]} []<| .e (⟨(IntKind.wrap .i64 ((IntKind.wrap .i64 (((BitVec.ofInt (IntKind.bits .i64) (IntKind.wrap .i64 (x.deed - 1)) ^^^ BitVec.ofInt (IntKind.bits .i64) 1).toNat:Int)))+1)),x.index⟩:af))
  (.rg {fz:=[3]} []<| .e x))
section
variable (u0:(List af))
abbrev U1:Nat × Option Ob:=(0,some (.loop j6 0 [(3,(vP 1 0))]))
abbrev XI:List (Nat × Option Ob):=[U1,(1,some (.cells 31 [(.own 2 false u0.length)])),(2,some (FJ u0))]
end
theorem oo (x8:Int) (x9:Int) (u1:Int) (u0:(List af)):RD Tryz.prog 0 [(sI x8),(.agg [(cI x9),(cI u1)])] (XI u0) (fun _=>vB true) (fun r=>[U1,(1,some (.cells 31 [(.own 3 false r.length)])),(2,none),(3,some (bO 61 2 af.cell r))]) (l8 x8 x9 u1 u0):=
  WG tT mX j6 ⟨[3],[0,1,2],fun _=>[(5,(vD (Da [(.int .i64 x9),(.int .i64 u1)] 0)))],fun _=>[]⟩ (.rg {fr:=[(0,6)],fz:=[6]} []<| .e ())
  (.cl 2 (Aw (⟨x9,u1⟩:af)) fun r_=> .a2 ((u0.length+[r_].length)*16≤140737488355328) (u0.length+[r_].length≤4611686018427387904)<| .rg {an:=[(3, .arr [r_].length (ay af.cell [r_])),(4, .arr (u0++[r_]).length (ay af.cell (u0++[r_])))],fr:=[(3,7),(4,8)]} [2, .pf ⟨[r_].length=1,rfl⟩, .pf ⟨aR 1 2 (vE 2 [(.int .i64 r_.deed),(.int .i64 r_.index)]) (ay af.cell [r_]),(by intro i hi j hj;match i,j,hi,hj with|0,0,_,_=>rfl|0,1,_,_=>rfl)⟩, .e (u0.length),0,1, .pf ⟨(u0++[r_]).length=u0.length+[r_].length,List.length_append⟩, .pf ⟨aR (u0.length+[r_].length) 2 (yt (ay af.cell u0) u0.length (ay af.cell [r_])) (ay af.cell (u0++[r_])),iU _ _ _ _⟩]<| .en (u0++[r_]) [] [(8,3)])
theorem wU (x1:(List af)) (u1:(List af)):eu Tryz.prog 121 [(.one (.yl 0)),(sD (Da [(KJ x1)] 0))] (XI u1) (fun r=>(.iI [])) (fun r=>[U1,(1,some (.cells 31 [(.own 3 false r.length)])),(2,none),(3,some (bO 61 2 af.cell r))]) (gQ x1 u1):=
  eZ tT mX Tryz.func121 (
  .r<| .im (.re 1 0 2 15)<| .lp (σ:=((List af) × Int)) (β:=(List af)) (u1,(IntKind.wrap .i64 ((x1.length:Int) - 1))) [] [(15,12)] ⟨[0,1],[0],fun(u0,i)=>[(3,(vI i))],fun(u0,i)=>[(1,some (.cells 31 [(.own 12 false u0.length)])),(2,none),(12,some (FJ u0))]⟩ ⟨[],[0],fun o301=>[],fun o301=>[(1,some (.cells 31 [(.own 12 false o301.length)])),(2,none),(12,some (bO 61 2 af.cell o301))]⟩
  (fun(u0,i)=> .r<| .it (.cy 6 (YO [(2,12),(3,14)] (oo i ((at' x1 i.toNat).deed) ((at' x1 i.toNat).index) u0)) fun r_=> .a1 (Ry x1 i)<| .rg {} [0,1]<| .f<| .r<| .en (.next (r_,(k10 i))) [] [(14,12)])
  (.e (.done (.brk u0))))
  (fun o301=> .en o301 [] [(12,3)]))
theorem Az (l:(List af)):eu Tryz.prog 42 (Vo l) [] (fun r=>(vD (bg none 2 af.cell r))) (fun _=>[]) (iO l):=
  eZ tT mX Tryz.func42 (
  .r<| .rg {fr:=[(0,4)]} []<| .im (.jS 4 0 5 61 2 (ay af.cell ([]:List af)))<| .cl 1 (yx l) fun r_=> .r<| .cl 0 (dV [(0,6),(1,4),(2,5),(3,7)] (wU r_ ([]:List af))) fun u0=> .rf 6 [3] [] none 0 []<| .rg {fz:=[7]} []<| .e u0)
section
variable (a:Link) (b:Link)
end
section
variable (u1:(List Bool)) (u2:(List Bool)) (u3:(List Bool)) (u4:(List Bool)) (u5:(List Bool)) (u6:(List Bool)) (u7:(List Bool)) (u0:(State × Int))
end
section
variable (u1:(Int × State × Int)) (u0:(Int × State × Int)) (u2:Bool) (c1:(List Bool)) (i:Int)
abbrev YU:List CV:=[(.d (bg none 1 ai u1.2.1.closed)),(.d (bg none 1 ai u1.2.1.locked)),(.d (bg none 1 ai u1.2.1.badLink)),(.d (bg none 1 ai u1.2.1.on_)),(.d (bg none 1 ai u1.2.1.badSource)),(.d (bg none 1 ai u1.2.1.earthed)),(.d (bg none 1 ai u1.2.1.badBus))]
end
theorem vS (s_:(List af)):eu Tryz.prog 85 [(.one (.own 0 false s_.length))] (Qs s_) (fun r=>(.v (.one (.fn 121 0 1 (Qz [(.ptr 1 0)]))))) (fun r=>[(0,some (FJ s_)),(1,some (.cells 31 [(.own 0 false s_.length)]))]) (gJ s_):=
  eZ tT mX Tryz.func85 (
  .rg {fr:=[(0,2)]} []<| .r<| .en s_ [] [(2,1)])
theorem uq (u0:(List af)) (u2:(List af)):eu Tryz.prog 121 Ua [(0,some (.loop j6 0 [(3,(vP 2 0))])),(1,some (.cells 31 [(.own 3 false u0.length)])),(2,some (.cells 31 [(.own 4 false u2.length)])),(3,some (FJ u0)),(4,some (FJ u2))] (fun r=>(.iI [])) (fun r=>[(0,some (.loop j6 0 [(3,(vP 2 0))])),(1,some (.cells 31 [(.own 3 false u0.length)])),(2,some (.cells 31 [(.own 5 false r.length)])),(3,some (FJ u0)),(4,none),(5,some (bO 61 2 af.cell r))]) (gQ u0 u2):=
  eZ tT mX Tryz.func121 (
  .r<| .im (.re 2 0 4 17)<| .lp (σ:=((List af) × Int)) (β:=(List af)) (u2,(IntKind.wrap .i64 ((u0.length:Int) - 1))) [] [(17,14)] ⟨[0,1],[0,1,3],fun(u1,i)=>[(3,(vI i))],fun(u1,i)=>[(2,some (.cells 31 [(.own 14 false u1.length)])),(4,none),(14,some (FJ u1))]⟩ ⟨[],[0,1,3],fun o301=>[],fun o301=>[(2,some (.cells 31 [(.own 14 false o301.length)])),(4,none),(14,some (bO 61 2 af.cell o301))]⟩
  (fun(u1,i)=> .r<| .it (.cy 6 (YO [(1,2),(1,14),(3,16)] (oo i ((at' u0 i.toNat).deed) ((at' u0 i.toNat).index) u1)) fun r_=> .a1 (Ry u0 i)<| .rg {} [0, .t 0 i u0.length,1]<| .f<| .r<| .en (.next (r_,(k10 i))) [] [(16,14)])
  (.e (.done (.brk u1))))
  (fun o301=> .en o301 [] [(14,5)]))
theorem xU (l:(List af)):eu Tryz.prog 42 [(.one (.own 0 false l.length))] (Qs l) (fun r=>(vD (bg none 2 af.cell r))) (fun r=>(Qs l)) (j3 l):=
  eZ tT mX Tryz.func42 (
  .r<| .rg {fr:=[(0,6)]} []<| .im (.jS 6 0 7 61 2 (ay af.cell ([]:List af)))<| .cl 1 (dV [(1,8)] (vS l)) fun r_=> .r<| .cl 0 (dV [(0,9),(1,8),(2,6),(3,0),(4,7),(5,10)] (uq l ([]:List af))) fun u0=> .rf 9 [3] [] none 0 []<| .rg {fz:=[10]} []<| .e u0)
section
variable (u0:(Int × State × Int)) (u1:(List af)) (l:(List af)) (i:Int) (u2:(Int × State × Int)) (u3:(Int × State × Int)) (v4:Bool)
abbrev Vu:List CV:=[(.own 223 false u0.2.1.closed.length),(.own 224 false u0.2.1.locked.length),(.own 225 false u0.2.1.badLink.length),(.own 226 false u0.2.1.on_.length),(.own 227 false u0.2.1.badSource.length),(.own 228 false u0.2.1.earthed.length),(.own 229 false u0.2.1.badBus.length)]
abbrev xH:=(u1++[(at' l i.toNat)])
abbrev VJ:List (Nat × Option Ob):=[(233,some (bO 61 2 af.cell (xH u1 l i)))]
abbrev Yj:=((bif (!decide (u2.2.2=0))then true else(!decide (u2.1=((xH u1 l i).length:Int)))),false)
abbrev Vf:List (Nat × Option Ob):=[(223,some (JX u0)),(224,some (Oi u0)),(225,some (Pf u0)),(226,some (Og u0)),(227,some (Oc u0)),(228,some (OQ u0)),(229,some (OB u0))]
abbrev Yh:=((bif (bif (!decide (u3.2.2=0))then true else(!decide (u3.1=((xH u1 l i).length:Int))))then true else(!v4)),false)
end
theorem y9 (p:au) (s_:State) (t:Task) (l:(List af)):eu Tryz.prog 9 (Yi p s_ t l) [] (fun r=>(vB r)) (fun _=>[]) (lm p s_ t l):=
  eZ tT mX Tryz.func9 (
  .rg {fr:=[(0,126),(1,127),(2,128)],fz:=[126,128]} []<| .cl 1 (dV [(0,129),(1,130),(2,131),(3,132),(4,133)] (BA t)) fun r_=> .rg {fr:=[(2,134)],fz:=[129,130,131,132]} []<| .fz [134]<| .cl 2 (F7 p t) fun v2=> .cg 6 [(v2,false)] (BM p t) fun v7=> .cg 18 [((bif (bif v2 then true else(!v7))then true else(decide (40<(l.length:Int)))),false)] (fO p s_ r_) fun w0=> .r<| .it (.cl 0 vT fun v8=> .r<| .e v8)
  (.r<| .rg {fr:=[(1,135)],fz:=[127]} []<| .r<| .im (.ad 10 252 61 2 (ay af.cell ([]:List af)))<| .lp (σ:=((List af) × (List Bool) × (List Bool) × (List Bool) × (List Bool) × (List Bool) × (List Bool) × (List Bool) × Int)) (β:=Unit) (([]:List af),s_.closed,s_.locked,s_.badLink,s_.on_,s_.badSource,s_.earthed,s_.badBus,0) [] [(252,146)] ⟨[3,4,5,9,11],[],fun(u1,u4,u5,u6,u7,u8,u9,v0,i)=>[(10,(vO 146 false u1.length)),(12,(vI i))],fun(u1,u4,u5,u6,u7,u8,u9,v0,i)=>[(135,some (aar u4 u5 u6 u7 u8 u9 v0)),(146,some (FJ u1))]⟩ ⟨[],[],fun _=>[],fun _=>[]⟩
  (fun(u1,u4,u5,u6,u7,u8,u9,v0,i)=> .r<| .it (.cl 8 ⟨fun{u0} hr_5=>((Fn.RY (args:=(aaf u4 u5 u6 u7 u8 u9 v0 i l p r_)) (args':=[(.agg (k1 p)),(.agg (I8 u4 u5 u6 u7 u8 u9 v0)),(.agg (k2 r_)),(sD (.sl none 2 (Wo i) (fun iq jq=>ay af.cell l (iq+i.toNat) jq)))]) (hin:=[]) (hin':=[]) (Fn.CB [(0,223),(1,224),(2,225),(3,226),(4,227),(5,228),(6,229),(7,230)] (gu p (pM u4 u5 u6 u7 u8 u9 v0) r_ (Yr i l) hr_5) (by kernel_rfl) (by kernel_rfl) (by kernel_rfl) (by kernel_rfl)) ⟨qX.refl _,qX.refl _,qX.refl _,qX.one (lT.d (kI.Zg (by first|rw [List.length_append,List.length_drop]|simp only [List.length_set,List.length_drop,Cm]) (.inr rfl) (WC _ _ _ _ _))),trivial⟩ trivial):Fn Tryz.prog 28 [(.agg (k1 p)),(.agg (I8 u4 u5 u6 u7 u8 u9 v0)),(.agg (k2 r_)),(sD (.sl none 2 (Wo i) (fun iq jq=>ay af.cell l (iq+i.toNat) jq)))] [] (.iI [(sI u0.1),(.agg (Vu u0)),(sI u0.2.2)]) [(223,some (JX u0)),(224,some (Oi u0)),(225,some (Pf u0)),(226,some (Og u0)),(227,some (Oc u0)),(228,some (OQ u0)),(229,some (OB u0)),(230,none)])⟩ fun u0=> .a1 (aav i l)<| .rg {fr:=[(13,231)]} [0,1]<| .r<| .it (.r<| .it (.r<| .e (.done (.ret false)))
  (.r<| .e (.next (u1,u4,u5,u6,u7,u8,u9,v0,(k18 i)))))
  (.a3 (Ry l i) ((u1.length+[(at' l i.toNat)].length)*16≤140737488355328) (u1.length+[(at' l i.toNat)].length≤4611686018427387904)<| .rg {an:=[(5, .arr [(at' l i.toNat)].length (ay af.cell [(at' l i.toNat)])),(6, .arr (xH u1 l i).length (ay af.cell (xH u1 l i)))],fr:=[(5,232),(6,233)]} [0, .pf ⟨[(at' l i.toNat)].length=1,rfl⟩, .pf ⟨aR 1 2 (vE 2 (VE l i)) (ay af.cell [(at' l i.toNat)]),(by intro i hi j hj;match i,j,hi,hj with|0,0,_,_=>rfl|0,1,_,_=>rfl)⟩, .e (u1.length),1,2, .pf ⟨(xH u1 l i).length=u1.length+[(at' l i.toNat)].length,List.length_append⟩, .pf ⟨aR (u1.length+[(at' l i.toNat)].length) 2 (yt (ay af.cell u1) u1.length (ay af.cell [(at' l i.toNat)])) (ay af.cell (xH u1 l i)),iU _ _ _ _⟩]<| .r<| .cl 4 ⟨fun{u2} hr_6=>((Fn.Ki (args:=[(.agg (k1 p)),(.agg (zP s_)),(.agg (k2 r_)),(sD (bg none 2 af.cell (xH u1 l i)))]) (frz:=[233]) (p:=[(xH u1 l i).length=(xH u1 l i).length]) (Fn.CB [(0,234),(1,235),(2,236),(3,237),(4,238),(5,239),(6,240),(7,241)] (gu p s_ r_ (xH u1 l i) hr_6) (by kernel_rfl) (by kernel_rfl) (by kernel_rfl) (by kernel_rfl)) (by kernel_rfl) ⟨rfl,trivial⟩ (by kernel_rfl) ⟨(fun _ _=>rfl),⟨(fun _ _=>rfl),⟨(fun _ _=>rfl),⟨(fun _ _=>rfl),⟨(fun _ _=>rfl),⟨(fun _ _=>rfl),⟨(fun _ _=>rfl),trivial⟩⟩⟩⟩⟩⟩⟩ (by kernel_rfl)):Fn Tryz.prog 28 [(.agg (k1 p)),(.agg (zP s_)),(.agg (k2 r_)),(.one (.own 233 false ((xH u1 l i).length)))] (VJ u1 l i) (.iI [(sI u2.1),(.agg [(.own 234 false u2.2.1.closed.length),(.own 235 false u2.2.1.locked.length),(.own 236 false u2.2.1.badLink.length),(.own 237 false u2.2.1.on_.length),(.own 238 false u2.2.1.badSource.length),(.own 239 false u2.2.1.earthed.length),(.own 240 false u2.2.1.badBus.length)]),(sI u2.2.2)]) [(233,some (bO 61 2 af.cell (xH u1 l i))),(234,some (JX u2)),(235,some (Oi u2)),(236,some (Pf u2)),(237,some (Og u2)),(238,some (Oc u2)),(239,some (OQ u2)),(240,some (OB u2)),(241,none)])⟩ fun u2=> .rg {fr:=[(9,242)],fz:=[234,235,236,237,238,239,240]} []<| .fz [242]<| .cgr 11 [(Yj u1 l i u2)] ⟨fun{v3} hr_7=>((Fn.LA (frz:=[223,224,225,226,227,228,229]) (p:=[u0.2.1.closed.length=u0.2.1.closed.length,u0.2.1.locked.length=u0.2.1.locked.length,u0.2.1.badLink.length=u0.2.1.badLink.length,u0.2.1.on_.length=u0.2.1.on_.length,u0.2.1.badSource.length=u0.2.1.badSource.length,u0.2.1.earthed.length=u0.2.1.earthed.length,u0.2.1.badBus.length=u0.2.1.badBus.length]) (sG u2.2.1 u0.2.1 hr_7) (by kernel_rfl) ⟨rfl,rfl,rfl,rfl,rfl,rfl,rfl,trivial⟩ rfl):Fn Tryz.prog 27 [(.agg (YU u2)),(.agg (Vu u0))] (Vf u0) (vB v3) (Vf u0))⟩ fun v3=> .r<| .it (.r<| .e (.done (.ret false)))
  (.cr 1 (dV [(0,233)] (xU (xH u1 l i))) fun v1=> .r<| .cl 4 ⟨fun{u3} hr_9=>((Fn.Ki (args:=[(.agg (k1 p)),(.agg (YU u0)),(.agg (k2 r_)),(sD (KJ v1))]) (frz:=[223,224,225,226,227,228,229]) (p:=[u0.2.1.closed.length=u0.2.1.closed.length,u0.2.1.locked.length=u0.2.1.locked.length,u0.2.1.badLink.length=u0.2.1.badLink.length,u0.2.1.on_.length=u0.2.1.on_.length,u0.2.1.badSource.length=u0.2.1.badSource.length,u0.2.1.earthed.length=u0.2.1.earthed.length,u0.2.1.badBus.length=u0.2.1.badBus.length]) (Fn.CB [(0,243),(1,244),(2,245),(3,246),(4,247),(5,248),(6,249),(7,250)] (gu p u0.2.1 r_ v1 hr_9) (by kernel_rfl) (by kernel_rfl) (by kernel_rfl) (by kernel_rfl)) (by kernel_rfl) ⟨rfl,rfl,rfl,rfl,rfl,rfl,rfl,trivial⟩ (by kernel_rfl) ⟨(fun _ _=>rfl),⟨(fun _ _=>rfl),⟨(fun _ _=>rfl),⟨(fun _ _=>rfl),⟨(fun _ _=>rfl),⟨(fun _ _=>rfl),⟨(fun _ _=>rfl),trivial⟩⟩⟩⟩⟩⟩⟩ (by kernel_rfl)):Fn Tryz.prog 28 [(.agg (k1 p)),(.agg (Vu u0)),(.agg (k2 r_)),(sD (KJ v1))] (Vf u0) (.iI [(sI u3.1),(.agg [(.own 243 false u3.2.1.closed.length),(.own 244 false u3.2.1.locked.length),(.own 245 false u3.2.1.badLink.length),(.own 246 false u3.2.1.on_.length),(.own 247 false u3.2.1.badSource.length),(.own 248 false u3.2.1.earthed.length),(.own 249 false u3.2.1.badBus.length)]),(sI u3.2.2)]) [(223,some (JX u0)),(224,some (Oi u0)),(225,some (Pf u0)),(226,some (Og u0)),(227,some (Oc u0)),(228,some (OQ u0)),(229,some (OB u0)),(243,some (JX u3)),(244,some (Oi u3)),(245,some (Pf u3)),(246,some (Og u3)),(247,some (Oc u3)),(248,some (OQ u3)),(249,some (OB u3)),(250,none)])⟩ fun u3=> .rg {fr:=[(9,251)],fz:=[243,244,245,246,247,248,249]} []<| .fz [251]<| .cg 11 [(Yj u1 l i u3)] (sG u3.2.1 s_) fun v4=> .cg 16 [(Yh u1 l i u3 v4)] (Az v1) fun v5=> .cgr 18 [(Yh u1 l i u3 v4)] ⟨fun{v6} hr_12=>((Fn.LA (frz:=[233]) (p:=[(xH u1 l i).length=(xH u1 l i).length]) (tF v5 (xH u1 l i) hr_12) (by kernel_rfl) ⟨rfl,trivial⟩ rfl):Fn Tryz.prog 16 [(sD (KJ v5)),(.one (.own 233 false ((xH u1 l i).length)))] (VJ u1 l i) (vB v6) (VJ u1 l i))⟩ fun v6=> .r<| .it (.r<| .e (.done (.ret false)))
  (.r<| .en (.next ((xH u1 l i),u0.2.1.closed,u0.2.1.locked,u0.2.1.badLink,u0.2.1.on_,u0.2.1.badSource,u0.2.1.earthed,u0.2.1.badBus,(k18 i))) [223,224,225,226,227,228,229] [(233,146)]))))
  (.e (.done (.brk ()))))
  (fun _=> .cl 0 vT fun v9=> .r<| .e v9)))
section
variable (u0:(Bool × Int)) (u1:(Bool × Int)) (u2:Int) (u3:Int) (u6:Int) (u7:Int) (u4:af) (u5:af) (u9:Bool)
end
end
end Sg
