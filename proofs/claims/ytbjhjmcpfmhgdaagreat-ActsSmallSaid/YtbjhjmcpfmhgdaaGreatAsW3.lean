import Derived.Test.YtbjhjmcpfmhgdaaGreatAsW2
set_option linter.all false
namespace Sg
open Go Go.Proofs
set_option maxRecDepth 20000
noncomputable section
section
variable (u0:Run)
abbrev Gp:=(List.replicate ((u0.log.length:Int).toNat) ((⟨0,(⟨0,0⟩:aj),(⟨0,0⟩:Part),0⟩:ai):ai))
abbrev Ti:=(aD ai.cell (Gp u0))
abbrev XL:List DV:=[(.int .i64 0),(.int .i64 0),(.int .i64 0),(.int .i64 0),(.int .i64 0),(.int .i64 0)]
abbrev WS:=((Gp u0).length)
end
theorem Ct (u0:Run):bX Tryz.prog 53 [(.one (.ptr 0 0))] (pR u0) (fun r=>(.dL [(sD (ax none 6 ai.cell r.1)),(sI r.2)])) (fun r=>(pR u0)) (jA u0):=
  dm tT mX Tryz.func53 (
  .r<| .cr 1 (ig u0) fun r_=> .r<| .it (.r<| .e (([]:List ai),5))
  (.a3 ((0:Int)≤(u0.log.length:Int)) ((48:Int)*(u0.log.length:Int)≤281474976710656) (((u0.log.length:Int):Int)≤9223372036854775807)<| .rg {an:=[(5, .arr (Gp u0).length (Ti u0))],fr:=[(5,3)]} [0, .e (((u0.log.length:Int):Int)),1,2, .pf ⟨(Gp u0).length=((u0.log.length:Int).toNat),List.length_replicate⟩, .pf ⟨aP ((u0.log.length:Int).toNat) 6 (fun _ j=>XL.getD j .nilp) (Ti u0),lG _ _ _ _ _ (fun j hj=>(match j,hj with|0,_=>rfl|1,_=>rfl|2,_=>rfl|3,_=>rfl|4,_=>rfl|5,_=>rfl))⟩]<| .rg {an:=[(5, .take 1)],fz:=[3]} [.e (WS u0), .e (u0.log.length), .pf ⟨u0.log.length=(Gp u0).length,List.length_replicate.symm⟩]<| .im (.us 4 (vD (.sl (some true) 6 (Gp u0).length (aD ai.cell u0.log))) (vD (ax (some true) 6 ai.cell u0.log)) (Di.v (Gg.one (zi.d (oo.Ze (by first|rw [List.length_append,List.length_drop]|simp only [List.length_set,List.length_drop,zo]|exact List.length_replicate) (.inr rfl) (fun _ _ _ _=> .refl _))))))<| .r<| .e (u0.log,0)))
section
variable (r_:(ay × State × (List Item))) (u0:(Bool × Int × Int × Run))
abbrev QB:List CV:=[(cI r_.1.buses),(.d (ax (some true) 5 Source.cell r_.1.sources)),(.d (ax (some true) 6 Link.cell r_.1.links)),(.d (ax (some true) 4 aL.cell r_.1.racks))]
abbrev OH:List CV:=[(.d (ax (some true) 1 af r_.2.1.closed)),(.d (ax (some true) 1 af r_.2.1.locked)),(.d (ax (some true) 1 af r_.2.1.badLink)),(.d (ax (some true) 1 af r_.2.1.on_)),(.d (ax (some true) 1 af r_.2.1.badSource)),(.d (ax (some true) 1 af r_.2.1.earthed)),(.d (ax (some true) 1 af r_.2.1.badBus))]
abbrev Rw:List CV:=[(.d nS),(.d nS),(.d nS),(.d nS)]
abbrev MU:List SV:=[(.agg (QB r_)),(.agg (OH r_)),(.agg Rw),(sD (ax (some true) 3 Item.cell r_.2.2))]
abbrev OI:DV:=(tQ [(.int .i64 u0.2.2.2.setting.plant.buses),(ax none 5 Source.cell u0.2.2.2.setting.plant.sources),(ax none 6 Link.cell u0.2.2.2.setting.plant.links),(ax none 4 aL.cell u0.2.2.2.setting.plant.racks),(ax none 1 af u0.2.2.2.setting.begin.closed),(ax none 1 af u0.2.2.2.setting.begin.locked),(ax none 1 af u0.2.2.2.setting.begin.badLink),(ax none 1 af u0.2.2.2.setting.begin.on_),(ax none 1 af u0.2.2.2.setting.begin.badSource),(ax none 1 af u0.2.2.2.setting.begin.earthed),(ax none 1 af u0.2.2.2.setting.begin.badBus),(ax none 1 (aU .i64) u0.2.2.2.setting.task.fed),(ax none 1 (aU .i64) u0.2.2.2.setting.task.crew),(ax none 2 aj.cell u0.2.2.2.setting.task.allowed),(ax none 2 aj.cell u0.2.2.2.setting.task.goal),(ax none 3 Item.cell u0.2.2.2.setting.items)] 0)
abbrev NU:DV:=(ax none 1 af u0.2.2.2.now.closed)
abbrev NP:DV:=(ax none 1 af u0.2.2.2.now.locked)
abbrev N7:DV:=(ax none 1 af u0.2.2.2.now.badLink)
abbrev OT:DV:=(ax none 1 af u0.2.2.2.now.on_)
abbrev Oc:DV:=(ax none 1 af u0.2.2.2.now.badSource)
abbrev Pn:DV:=(ax none 1 af u0.2.2.2.now.earthed)
abbrev Oy:DV:=(ax none 1 af u0.2.2.2.now.badBus)
abbrev pG:Ob:=(bK 140 6 ai.cell u0.2.2.2.log)
abbrev PG:TV:=(.dL [(.one (bif u0.1 then .ptr 0 0 else .d .nilp)),(sI u0.2.1),(sI u0.2.2.1)])
abbrev Dq:Ob:=(.cells 143 [(.d (OI u0)),(.d (NU u0)),(.d (NP u0)),(.d (N7 u0)),(.d (OT u0)),(.d (Oc u0)),(.d (Pn u0)),(.d (Oy u0)),(cI u0.2.2.2.done),(cB u0.2.2.2.wait),(cB u0.2.2.2.back),(.own 1 false u0.2.2.2.log.length)])
abbrev Ym:=(iX (swp [(0,32),(1,33)]) [(0,bif u0.1 then some (Dq u0)else none),(1,bif u0.1 then some (pG u0)else none)])
abbrev Tj:TV:=(.dL [(sD .nilp),(sI u0.2.1),(sI u0.2.2.1)])
abbrev VD:TV:=(.dL [(.one (bif false then .ptr 0 0 else .d .nilp)),(sI u0.2.1),(sI u0.2.2.1)])
end
theorem Dr:bX Tryz.prog 40 [] [] (fun r=>(vB r)) (fun _=>[]) (uP):=
  dm tT mX Tryz.func40 (
  .r<| .cl 0 (cZ [(0,17),(1,18),(2,19),(3,20),(4,21),(5,22),(6,23),(7,24),(8,25),(9,26),(10,27),(11,28),(12,29)] ou) fun r_=> .rg {fr:=[(5,30),(6,31)],fz:=[17,18,19,20,21,22,23,24,25,26,27]} []<| .fz [30,31]<| .cl 4 (Xm (MU r_) (cZ [(0,32),(1,33)] (mH r_.1 r_.2.1 (⟨([]:List Int),([]:List Int),([]:List aj),([]:List aj)⟩:Task) r_.2.2))) fun u0=> .fk u0.1 (.rg {an:=[(4, .call [] (.dL [(.one (.ptr 32 0)),(sI u0.2.1),(sI u0.2.2.1)]) [(32,some (.cells 143 [(.d (OI u0)),(.d (NU u0)),(.d (NP u0)),(.d (N7 u0)),(.d (OT u0)),(.d (Oc u0)),(.d (Pn u0)),(.d (Oy u0)),(cI u0.2.2.2.done),(cB u0.2.2.2.wait),(cB u0.2.2.2.back),(.own 33 false u0.2.2.2.log.length)])),(33,some (pG u0))])]} [.m [1,0] [Fn Tryz.prog 41 (MU r_) [] (TV.ren (swp [(0,32),(1,33)]) (PG u0)) (Ym u0),u0.1=true] (Fn Tryz.prog 41 (MU r_) [] (TV.ren (swp [(0,32),(1,33)]) (.dL [(.one (bif true then .ptr 0 0 else .d .nilp)),(sI u0.2.1),(sI u0.2.2.1)])) (iX (swp [(0,32),(1,33)]) [(0,bif true then some (Dq u0)else none),(1,bif true then some (pG u0)else none)])) (fun⟨hy,hb,_⟩=>(congrArg (fun bq=>Fn Tryz.prog 41 (MU r_) [] (TV.ren (swp [(0,32),(1,33)]) (.dL [(.one (bif bq then .ptr 0 0 else .d .nilp)),(sI u0.2.1),(sI u0.2.2.1)])) (iX (swp [(0,32),(1,33)]) [(0,bif bq then some (Dq u0)else none),(1,bif bq then some (pG u0)else none)])) hb).mp hy)]<| .r<| .it (.r<| .e false)
  (.cl 1 (cZ [(0,32),(1,33),(2,34)] (dN u0.2.2.2)) fun u5=> .cl 3 (cZ [(0,32),(1,34),(2,35)] (dN u5.2)) fun u6=> .cl 5 (cZ [(0,32),(1,35),(2,36)] (kK 7 u6.2)) fun u7=> .cl 7 (cZ [(0,32),(1,36),(2,37)] (dN u7.2)) fun u2=> .r<| .cr 1 (cZ [(0,32),(1,37)] (yK u2.2)) fun u3=> .r<| .a1 ((gB [((bif (bif (bif (bif (bif (!decide (u5.1=0))then true else(!decide (u6.1=130)))then true else(!decide (u7.1=0)))then true else(!decide (u2.1=0)))then true else(!decide (u3.2=0)))then true else(!decide ((u3.1.length:Int)=1))),false)]=true→(0:Int)≤0∧0<(u3.1.length:Int)))<| .r<| .it (.r<| .e false)
  (.cl 1 (cZ [(0,32),(1,37),(2,38)] (fF u2.2)) fun u8=> .cl 4 (cZ [(0,32),(1,38),(2,39)] (jH (⟨3,0⟩:Part) u8.2)) fun u9=> .cl 6 (cZ [(0,32),(1,39),(2,40)] (fF u9.2)) fun v0=> .cl 9 (cZ [(0,32),(1,40),(2,41)] (sP (⟨3,0⟩:Part) v0.2)) fun v1=> .r<| .fk (bif (bif (bif (!decide (u8.1=0))then true else(!decide (u9.1=0)))then true else(!decide (v0.1=47)))then true else(!decide (v1.1=0))) (.rg {ov:=[(14,true,0)],sk:=[15,16,17,20,21,22,25,26,27]} []<| .t<| .r<| .e false)
  (.cl 16 (cZ [(0,32),(1,41),(2,42)] (fF v1.2)) fun v2=> .fk (!decide (v2.1=0)) (.rg {ov:=[(14,false,2),(19,true,0)],sk:=[20,21,22,25,26,27]} [.k 1]<| .t<| .r<| .e false)
  (.cl 21 (cZ [(0,32),(1,42),(2,43)] (fF v2.2)) fun v3=> .fk (!decide (v3.1=4)) (.rg {ov:=[(14,false,4),(19,false,2),(24,true,0)],sk:=[25,26,27]} [.k 3, .k 1]<| .t<| .r<| .e false)
  (.cl 26 (cZ [(0,32),(1,43),(2,44)] (dN v3.2)) fun v4=> .rg {ov:=[(14,false,5),(19,false,3),(24,false,1)]} [.k 4, .k 2, .k 0]<| .it (.r<| .e false)
  (.cr 1 (cZ [(0,32),(1,44)] (zW v4.2)) fun u1=> .rg {fr:=[(5,45)],fz:=[45]} []<| .cr 1 (cZ [(0,32),(1,44)] (Ct v4.2)) fun u4=> .r<| .cg 9 [((bif (decide (u1.2=0))then(decide (u4.2=0))else false),true)] (Xm [(.agg [(.d (ax none 1 af u1.1.closed)),(.d (ax none 1 af u1.1.locked)),(.d (ax none 1 af u1.1.badLink)),(.d (ax none 1 af u1.1.on_)),(.d (ax none 1 af u1.1.badSource)),(.d (ax none 1 af u1.1.earthed)),(.d (ax none 1 af u1.1.badBus))]),(.agg (OH r_))] (Bj u1.1 r_.2.1)) fun v5=> .r<| .e (bif (bif (bif (decide (u1.2=0))then(decide (u4.2=0))else false)then v5 else false)then(decide ((u4.1.length:Int)=7))else false))))))))
  (.rg {an:=[(4, .call [] (Tj u0) [(32,none),(33,none)])]} [.m [1,0] [Fn Tryz.prog 41 (MU r_) [] (TV.ren (swp [(0,32),(1,33)]) (PG u0)) (Ym u0),u0.1=false] (Fn Tryz.prog 41 (MU r_) [] (TV.ren (swp [(0,32),(1,33)]) (VD u0)) (iX (swp [(0,32),(1,33)]) [(0,bif false then some (Dq u0)else none),(1,bif false then some (pG u0)else none)])) (fun⟨hy,hb,_⟩=>(congrArg (fun bq=>Fn Tryz.prog 41 (MU r_) [] (TV.ren (swp [(0,32),(1,33)]) (.dL [(.one (bif bq then .ptr 0 0 else .d .nilp)),(sI u0.2.1),(sI u0.2.2.1)])) (iX (swp [(0,32),(1,33)]) [(0,bif bq then some (Dq u0)else none),(1,bif bq then some (pG u0)else none)])) hb).mp hy)]<| .r<| .tf true [.pf ⟨(bif (bif (!decide (u0.2.2.1=0))then true else(!decide (u0.2.1=2)))then true else true)=true,(Zo rfl rfl)⟩]<| .r<| .e false))
section
variable (x:ai)
abbrev Yj:List CV:=[(cI x.kind),(cI x.step.deed),(cI x.step.index),(cI x.part.kind),(cI x.part.index),(cI x.who)]
abbrev Yh:=((decide (x.kind=x.kind)) && ((decide (x.step.deed=x.step.deed)) && ((decide (x.step.index=x.step.index)) && ((decide (x.part.kind=0)) && ((decide (x.part.index=0)) && ((decide (x.who=0)) && true))))))
abbrev X4:=((decide (x.kind=x.kind)) && ((decide (x.step.deed=0)) && ((decide (x.step.index=0)) && ((decide (x.part.kind=0)) && ((decide (x.part.index=0)) && ((decide (x.who=x.who)) && true))))))
abbrev SA:=((decide (x.kind=x.kind)) && ((decide (x.step.deed=0)) && ((decide (x.step.index=0)) && ((decide (x.part.kind=x.part.kind)) && ((decide (x.part.index=x.part.index)) && ((decide (x.who=0)) && true))))))
end
theorem DZ (x:ai):bX Tryz.prog 123 [(.agg (Yj x))] [] (fun r=>(vB r)) (fun _=>[]) (lH x):=
  dm tT mX Tryz.func123 (
  .rg {fr:=[(0,2)]} []<| .rg {fr:=[(3,3)],fz:=[2]} []<| .r<| .r<| .it (.it (.rg {fz:=[3]} []<| .r<| .e (Yh x))
  (.r<| .it (.rg {fz:=[3]} []<| .r<| .e (X4 x))
  (.r<| .it (.it (.rg {fz:=[3]} []<| .r<| .e (SA x))
  (.r<| .e false))
  (.r<| .it (.rg {fz:=[3]} []<| .r<| .e (SA x))
  (.r<| .e false)))))
  (.r<| .it (.rg {fz:=[3]} []<| .r<| .e (Yh x))
  (.r<| .it (.rg {fz:=[3]} []<| .r<| .e (X4 x))
  (.r<| .it (.it (.rg {fz:=[3]} []<| .r<| .e (SA x))
  (.r<| .e false))
  (.r<| .it (.rg {fz:=[3]} []<| .r<| .e (SA x))
  (.r<| .e false))))))
section
variable (l:(List Item))
abbrev MW:Nat × Option Ob:=(0,some (bK 137 3 Item.cell l))
end
theorem AV (p:ay) (s_:State) (t:Task) (l:(List Item)):bX Tryz.prog 41 [(.agg (k7 p)),(.agg (k1 s_)),(.agg (Ox t)),(.one (.own 0 false l.length))] [(MW l)] (fun r=>(.dL [(.one (bif r.1 then .ptr 1 0 else .d .nilp)),(sI r.2.1),(sI r.2.2.1)])) (fun r=>[(MW l),(1,bif r.1 then some (.cells 143 [(.d (tQ [(.int .i64 r.2.2.2.setting.plant.buses),(ax none 5 Source.cell r.2.2.2.setting.plant.sources),(ax none 6 Link.cell r.2.2.2.setting.plant.links),(ax none 4 aL.cell r.2.2.2.setting.plant.racks),(ax none 1 af r.2.2.2.setting.begin.closed),(ax none 1 af r.2.2.2.setting.begin.locked),(ax none 1 af r.2.2.2.setting.begin.badLink),(ax none 1 af r.2.2.2.setting.begin.on_),(ax none 1 af r.2.2.2.setting.begin.badSource),(ax none 1 af r.2.2.2.setting.begin.earthed),(ax none 1 af r.2.2.2.setting.begin.badBus),(ax none 1 (aU .i64) r.2.2.2.setting.task.fed),(ax none 1 (aU .i64) r.2.2.2.setting.task.crew),(ax none 2 aj.cell r.2.2.2.setting.task.allowed),(ax none 2 aj.cell r.2.2.2.setting.task.goal),(ax none 3 Item.cell r.2.2.2.setting.items)] 0)),(.d (ax none 1 af r.2.2.2.now.closed)),(.d (ax none 1 af r.2.2.2.now.locked)),(.d (ax none 1 af r.2.2.2.now.badLink)),(.d (ax none 1 af r.2.2.2.now.on_)),(.d (ax none 1 af r.2.2.2.now.badSource)),(.d (ax none 1 af r.2.2.2.now.earthed)),(.d (ax none 1 af r.2.2.2.now.badBus)),(cI r.2.2.2.done),(cB r.2.2.2.wait),(cB r.2.2.2.back),(.own 2 false r.2.2.2.log.length)])else none),(2,bif r.1 then some (bK 140 6 ai.cell r.2.2.2.log)else none)]) (bH p s_ t l):=
  dm tT mX Tryz.func41 (
  .rg {fr:=[(0,29),(1,30),(2,31)],fz:=[29,30]} []<| .r<| .it (.r<| .im (.dn 1)<| .im (.dn 2)<| .e (false,0,2,(default:Run)))
  (.r<| .r<| .im (.ad 11 44 45 2 (aD aj.cell ([]:List aj)))<| .lp (σ:=((List aj) × Int)) (β:=(List aj)) (([]:List aj),0) [] [(44,34)] ⟨[3,4,5,6,20,21],[0,31],fun(u1,u0)=>[(11,(vO 34 false u1.length)),(22,(vI u0))],fun(u1,u0)=>[(34,some (bK 45 2 aj.cell u1))]⟩ ⟨[3,4,5,6],[0,31],fun u2=>[(11,(vO 34 false u2.length))],fun u2=>[(34,some (bK 45 2 aj.cell u2))]⟩
  (fun(u1,u0)=> .r<| .it (.a1 ((0:Int)≤u0∧u0<(l.length:Int))<| .rg {fr:=[(2,41)],fz:=[41]} [0, .t 0 u0 l.length]<| .a2 ((u1.length+[((at' l u0.toNat).step)].length)*16≤140737488355328) (u1.length+[((at' l u0.toNat).step)].length≤4611686018427387904)<| .rg {an:=[(3, .arr [((at' l u0.toNat).step)].length (Pv l u0)),(4, .arr (M5 l u0 u1).length (Sk l u0 u1))],fr:=[(3,42),(4,43)]} [.pf ⟨[((at' l u0.toNat).step)].length=1,rfl⟩, .pf ⟨aP 1 2 (Xh l u0) (Pv l u0),(by intro i hi j hj;match i,j,hi,hj with|0,0,_,_=>rfl|0,1,_,_=>rfl)⟩, .e (u1.length),0,1, .pf ⟨(M5 l u0 u1).length=u1.length+[((at' l u0.toNat).step)].length,List.length_append⟩, .pf ⟨aP (u1.length+[((at' l u0.toNat).step)].length) 2 (jY (aD aj.cell u1) u1.length (Pv l u0)) (Sk l u0 u1),bV _ _ _ _⟩]<| .r<| .en (.next ((M5 l u0 u1),(k0 u0))) [] [(43,34)])
  (.e (.done (.brk u1))))
  (fun u2=> .cl 4 ⟨fun{r_} hr_=>((Fn.NA (args:=(Wo p s_ t u2)) (frz:=[34]) (p:=[u2.length=u2.length]) (Fn.GD [(0,45),(1,46),(2,47),(3,48),(4,49),(5,50),(6,51),(7,52)] (pu p s_ t u2 hr_) (by kernel_rfl) (by kernel_rfl) (by kernel_rfl) (by kernel_rfl)) (by kernel_rfl) ⟨rfl,trivial⟩ (by kernel_rfl) ⟨(fun _ _=>rfl),⟨(fun _ _=>rfl),⟨(fun _ _=>rfl),⟨(fun _ _=>rfl),⟨(fun _ _=>rfl),⟨(fun _ _=>rfl),⟨(fun _ _=>rfl),trivial⟩⟩⟩⟩⟩⟩⟩ (by kernel_rfl)):Fn Tryz.prog 18 [(.agg (k7 p)),(.agg (k1 s_)),(.agg (Ox t)),(.one (.own 34 false u2.length))] [(34,some (bK 45 2 aj.cell u2))] (.dL [(sI r_.1),(.agg [(.own 45 false r_.2.1.closed.length),(.own 46 false r_.2.1.locked.length),(.own 47 false r_.2.1.badLink.length),(.own 48 false r_.2.1.on_.length),(.own 49 false r_.2.1.badSource.length),(.own 50 false r_.2.1.earthed.length),(.own 51 false r_.2.1.badBus.length)]),(sI r_.2.2)]) [(34,some (bK 45 2 aj.cell u2)),(45,some (bK 4 1 af r_.2.1.closed)),(46,some (bK 4 1 af r_.2.1.locked)),(47,some (bK 4 1 af r_.2.1.badLink)),(48,some (bK 4 1 af r_.2.1.on_)),(49,some (bK 4 1 af r_.2.1.badSource)),(50,some (bK 4 1 af r_.2.1.earthed)),(51,some (bK 4 1 af r_.2.1.badBus)),(52,none)])⟩ fun r_=> .rg {fr:=[(9,53)]} []<| .r<| .it (.r<| .im (.dn 1)<| .im (.dn 2)<| .e (false,r_.1,r_.2.2,(default:Run)))
  (.cl 2 ⟨fun h=>gW t.fed h⟩ fun u4=> .cl 5 ⟨fun h=>gW t.crew h⟩ fun u5=> .r<| .cl 1 (ow p) fun u6=> .cl 3 (iE s_) fun u7=> .cl 6 ⟨fun{u3} hr_5=>((Fn.NA (args:=[(sD (ax none 3 Item.cell l))]) (frz:=[0]) (p:=[l.length=l.length]) (Fn.GD [(0,54)] (lQ l hr_5) (by kernel_rfl) (by kernel_rfl) (by kernel_rfl) (by kernel_rfl)) (by kernel_rfl) ⟨rfl,trivial⟩ (by kernel_rfl) ⟨(fun _ j=>match j with|0=>rfl|1=>rfl|2=>rfl|_+3=>rfl),trivial⟩ (by kernel_rfl)):Fn Tryz.prog 116 [(.one (.own 0 false l.length))] [(MW l)] (vO 54 false u3.length) [(MW l),(54,some (bK 137 3 Item.cell u3))])⟩ fun u3=> .cl 10 (iE s_) fun u8=> .rg {fr:=[(8,55),(12,56)],fz:=[54]} []<| .fz [55]<| .im (.gN 56 11 57 140 6 (aD ai.cell ([]:List ai)))<| .en (true,r_.1,0,(YA u6 u7 u4 u5 u3 u8)) [] [(56,1),(57,2)]))))
theorem yH (u0:Run):bX Tryz.prog 53 [(.one (.ptr 0 0))] (pR u0) (fun r=>(.dL [(.one (.own 2 false r.1.length)),(sI r.2)])) (fun r=>[(JI u0),(Gm u0),(2,some (bK 140 6 ai.cell r.1))]) (jA u0):=
  dm tT mX Tryz.func53 (
  .r<| .cr 1 (ig u0) fun r_=> .r<| .it (.r<| .im (.ad 2 3 140 6 (aD ai.cell ([]:List ai)))<| .en (([]:List ai),5) [] [(3,2)])
  (.a3 ((0:Int)≤(u0.log.length:Int)) ((48:Int)*(u0.log.length:Int)≤281474976710656) (((u0.log.length:Int):Int)≤9223372036854775807)<| .rg {an:=[(5, .arr (Gp u0).length (Ti u0))],fr:=[(5,4)]} [0, .e (((u0.log.length:Int):Int)),1,2, .pf ⟨(Gp u0).length=((u0.log.length:Int).toNat),List.length_replicate⟩, .pf ⟨aP ((u0.log.length:Int).toNat) 6 (fun _ j=>XL.getD j .nilp) (Ti u0),lG _ _ _ _ _ (fun j hj=>(match j,hj with|0,_=>rfl|1,_=>rfl|2,_=>rfl|3,_=>rfl|4,_=>rfl|5,_=>rfl))⟩]<| .rg {an:=[(5, .take 1)]} [.e (WS u0), .e (u0.log.length), .pf ⟨u0.log.length=(Gp u0).length,List.length_replicate.symm⟩]<| .im (.ll 4 (Gp u0) u0.log (by simp only [List.length_set,List.length_append,List.length_replicate,Int.toNat_natCast]))<| .r<| .en (u0.log,0) [] [(4,2)]))
abbrev JV:List CV:=[(.d (.fn 191 0 (aQ []))),(.d (.fn 192 0 (aQ []))),(.d (.fn 193 0 (aQ []))),(.d (.fn 194 0 (aQ []))),(.d (.fn 195 0 (aQ [])))]
abbrev O5:List CV:=[(.d (.fn 191 0 (aQ [])))]
abbrev Wt:List CV:=[(.d (.fn 191 0 (aQ []))),(.d (.fn 192 0 (aQ [])))]
abbrev Vb:List CV:=[(.d (.fn 191 0 (aQ []))),(.d (.fn 192 0 (aQ []))),(.d (.fn 193 0 (aQ [])))]
abbrev V9:List CV:=[(.d (.fn 191 0 (aQ []))),(.d (.fn 192 0 (aQ []))),(.d (.fn 193 0 (aQ []))),(.d (.fn 194 0 (aQ [])))]
theorem AJ:bX Tryz.prog 124 [] [] (fun _=>(.v (.one (.mp 0)))) (fun _=>[(0,some (.map ⟨138,226,false,false,1,1,5,(dA Fe),(iW 1 JV),[]⟩))]) (qa):=
  dm tT mX Tryz.func124 (
  .r<| .rg {an:=[(0, .map 0 (dA []) (iW 1 []) []),(1, .map 1 (dA [(.int .i64 1)]) (iW 1 O5) []),(2, .map 2 (dA mV) (iW 1 Wt) []),(3, .map 3 (dA mW) (iW 1 Vb) []),(4, .map 4 (dA OW) (iW 1 V9) []),(5, .map 5 (dA Fe) (iW 1 JV) [])],fr:=[(0,1)]} [.pf ⟨dY [some .i64] 1 1 0 (dA []) (iW 1 []) [(.int .i64 1)] O5 [] 1 (dA [(.int .i64 1)]) (iW 1 O5),⟨(fun i hi=>absurd hi (Nat.not_lt_zero i)),(by intro i hi j hj;match i,j,hi,hj with|0,0,_,_=>exact av.1 (show aN (CV.aI (.d (.fn 191 0 (aQ [])))) []=true from by kernel_rfl)),0,(fun i hi=>absurd hi (Nat.not_lt_zero i)), .inr ⟨rfl,rfl⟩,rfl,rfl,(fun i hi=>absurd hi (Nat.not_lt_zero i))⟩⟩, .pf ⟨dY [some .i64] 1 1 1 (dA [(.int .i64 1)]) (iW 1 O5) [(.int .i64 2)] [(.d (.fn 192 0 (aQ [])))] [] 2 (dA mV) (iW 1 Wt),⟨(by intro i hi;match i,hi with|0,_=>rfl),(by intro i hi j hj;match i,j,hi,hj with|0,0,_,_=>exact av.1 (show aN (CV.aI (.d (.fn 191 0 (aQ [])))) []=true from by kernel_rfl)|1,0,_,_=>exact av.1 (show aN (CV.aI (.d (.fn 192 0 (aQ [])))) []=true from by kernel_rfl)),1,(by intro i hi;match i,hi with|0,_=>rfl), .inr ⟨rfl,rfl⟩,rfl,rfl,(by intro i hi;match i,hi with|0,_=>exact fun _=> ⟨rfl,rfl⟩)⟩⟩, .pf ⟨dY [some .i64] 1 1 2 (dA mV) (iW 1 Wt) [(.int .i64 3)] [(.d (.fn 193 0 (aQ [])))] [] 3 (dA mW) (iW 1 Vb),⟨(by intro i hi;match i,hi with|0,_=>rfl|1,_=>rfl),(by intro i hi j hj;match i,j,hi,hj with|0,0,_,_=>exact av.1 (show aN (CV.aI (.d (.fn 191 0 (aQ [])))) []=true from by kernel_rfl)|1,0,_,_=>exact av.1 (show aN (CV.aI (.d (.fn 192 0 (aQ [])))) []=true from by kernel_rfl)|2,0,_,_=>exact av.1 (show aN (CV.aI (.d (.fn 193 0 (aQ [])))) []=true from by kernel_rfl)),2,(by intro i hi;match i,hi with|0,_=>rfl|1,_=>rfl), .inr ⟨rfl,rfl⟩,rfl,rfl,(by intro i hi;match i,hi with|0,_=>exact fun _=> ⟨rfl,rfl⟩|1,_=>exact fun _=> ⟨rfl,rfl⟩)⟩⟩, .pf ⟨dY [some .i64] 1 1 3 (dA mW) (iW 1 Vb) [(.int .i64 4)] [(.d (.fn 194 0 (aQ [])))] [] 4 (dA OW) (iW 1 V9),⟨(by intro i hi;match i,hi with|0,_=>rfl|1,_=>rfl|2,_=>rfl),(by intro i hi j hj;match i,j,hi,hj with|0,0,_,_=>exact av.1 (show aN (CV.aI (.d (.fn 191 0 (aQ [])))) []=true from by kernel_rfl)|1,0,_,_=>exact av.1 (show aN (CV.aI (.d (.fn 192 0 (aQ [])))) []=true from by kernel_rfl)|2,0,_,_=>exact av.1 (show aN (CV.aI (.d (.fn 193 0 (aQ [])))) []=true from by kernel_rfl)|3,0,_,_=>exact av.1 (show aN (CV.aI (.d (.fn 194 0 (aQ [])))) []=true from by kernel_rfl)),3,(by intro i hi;match i,hi with|0,_=>rfl|1,_=>rfl|2,_=>rfl), .inr ⟨rfl,rfl⟩,rfl,rfl,(by intro i hi;match i,hi with|0,_=>exact fun _=> ⟨rfl,rfl⟩|1,_=>exact fun _=> ⟨rfl,rfl⟩|2,_=>exact fun _=> ⟨rfl,rfl⟩)⟩⟩, .pf ⟨dY [some .i64] 1 1 4 (dA OW) (iW 1 V9) [(.int .i64 5)] [(.d (.fn 195 0 (aQ [])))] [] 5 (dA Fe) (iW 1 JV),⟨(by intro i hi;match i,hi with|0,_=>rfl|1,_=>rfl|2,_=>rfl|3,_=>rfl),(by intro i hi j hj;match i,j,hi,hj with|0,0,_,_=>exact av.1 (show aN (CV.aI (.d (.fn 191 0 (aQ [])))) []=true from by kernel_rfl)|1,0,_,_=>exact av.1 (show aN (CV.aI (.d (.fn 192 0 (aQ [])))) []=true from by kernel_rfl)|2,0,_,_=>exact av.1 (show aN (CV.aI (.d (.fn 193 0 (aQ [])))) []=true from by kernel_rfl)|3,0,_,_=>exact av.1 (show aN (CV.aI (.d (.fn 194 0 (aQ [])))) []=true from by kernel_rfl)|4,0,_,_=>exact av.1 (show aN (CV.aI (.d (.fn 195 0 (aQ [])))) []=true from by kernel_rfl)),4,(by intro i hi;match i,hi with|0,_=>rfl|1,_=>rfl|2,_=>rfl|3,_=>rfl), .inr ⟨rfl,rfl⟩,rfl,rfl,(by intro i hi;match i,hi with|0,_=>exact fun _=> ⟨rfl,rfl⟩|1,_=>exact fun _=> ⟨rfl,rfl⟩|2,_=>exact fun _=> ⟨rfl,rfl⟩|3,_=>exact fun _=> ⟨rfl,rfl⟩)⟩⟩]<| .en () [] [(1,0)])
section
variable (x:ai)
abbrev Q6:List SV:=[(.one (.ptr 0 0)),(.agg (Yj x))]
end
theorem Cx (x:ai) (u0:Run):bX Tryz.prog 191 (Q6 x) (pR u0) (fun r=>(vI r.1)) (fun r=>[(0,some (.cells 143 [(.d (tQ [(.int .i64 r.2.setting.plant.buses),(ax none 5 Source.cell r.2.setting.plant.sources),(ax none 6 Link.cell r.2.setting.plant.links),(ax none 4 aL.cell r.2.setting.plant.racks),(ax none 1 af r.2.setting.begin.closed),(ax none 1 af r.2.setting.begin.locked),(ax none 1 af r.2.setting.begin.badLink),(ax none 1 af r.2.setting.begin.on_),(ax none 1 af r.2.setting.begin.badSource),(ax none 1 af r.2.setting.begin.earthed),(ax none 1 af r.2.setting.begin.badBus),(ax none 1 (aU .i64) r.2.setting.task.fed),(ax none 1 (aU .i64) r.2.setting.task.crew),(ax none 2 aj.cell r.2.setting.task.allowed),(ax none 2 aj.cell r.2.setting.task.goal),(ax none 3 Item.cell r.2.setting.items)] 0)),(.d (ax none 1 af r.2.now.closed)),(.d (ax none 1 af r.2.now.locked)),(.d (ax none 1 af r.2.now.badLink)),(.d (ax none 1 af r.2.now.on_)),(.d (ax none 1 af r.2.now.badSource)),(.d (ax none 1 af r.2.now.earthed)),(.d (ax none 1 af r.2.now.badBus)),(cI r.2.done),(cB r.2.wait),(cB r.2.back),(.own 2 false r.2.log.length)])),(1,none),(2,some (bK 140 6 ai.cell r.2.log))]) (nE x u0):=
  dm tT mX Tryz.func191 (
  .rg {fr:=[(0,4)]} []<| .cl 1 (cZ [(2,5)] (dN u0)) fun r_=> .r<| .en (r_.1,r_.2) [] [(5,2)])
theorem zR (x:ai) (u0:Run):bX Tryz.prog 192 (Q6 x) (pR u0) (fun r=>(vI r.1)) (fun r=>[(0,some (.cells 143 [(.d (tQ [(.int .i64 r.2.setting.plant.buses),(ax none 5 Source.cell r.2.setting.plant.sources),(ax none 6 Link.cell r.2.setting.plant.links),(ax none 4 aL.cell r.2.setting.plant.racks),(ax none 1 af r.2.setting.begin.closed),(ax none 1 af r.2.setting.begin.locked),(ax none 1 af r.2.setting.begin.badLink),(ax none 1 af r.2.setting.begin.on_),(ax none 1 af r.2.setting.begin.badSource),(ax none 1 af r.2.setting.begin.earthed),(ax none 1 af r.2.setting.begin.badBus),(ax none 1 (aU .i64) r.2.setting.task.fed),(ax none 1 (aU .i64) r.2.setting.task.crew),(ax none 2 aj.cell r.2.setting.task.allowed),(ax none 2 aj.cell r.2.setting.task.goal),(ax none 3 Item.cell r.2.setting.items)] 0)),(.d (ax none 1 af r.2.now.closed)),(.d (ax none 1 af r.2.now.locked)),(.d (ax none 1 af r.2.now.badLink)),(.d (ax none 1 af r.2.now.on_)),(.d (ax none 1 af r.2.now.badSource)),(.d (ax none 1 af r.2.now.earthed)),(.d (ax none 1 af r.2.now.badBus)),(cI r.2.done),(cB r.2.wait),(cB r.2.back),(.own 2 false r.2.log.length)])),(1,none),(2,some (bK 140 6 ai.cell r.2.log))]) (lm x u0):=
  dm tT mX Tryz.func192 (
  .rg {fr:=[(0,4)],fz:=[4]} []<| .cl 3 (cZ [(2,5)] (kK x.who u0)) fun r_=> .r<| .en (r_.1,r_.2) [] [(5,2)])
theorem zZ (x:ai) (u0:Run):bX Tryz.prog 193 (Q6 x) (pR u0) (fun r=>(vI r.1)) (fun r=>[(0,some (.cells 143 [(.d (tQ [(.int .i64 r.2.setting.plant.buses),(ax none 5 Source.cell r.2.setting.plant.sources),(ax none 6 Link.cell r.2.setting.plant.links),(ax none 4 aL.cell r.2.setting.plant.racks),(ax none 1 af r.2.setting.begin.closed),(ax none 1 af r.2.setting.begin.locked),(ax none 1 af r.2.setting.begin.badLink),(ax none 1 af r.2.setting.begin.on_),(ax none 1 af r.2.setting.begin.badSource),(ax none 1 af r.2.setting.begin.earthed),(ax none 1 af r.2.setting.begin.badBus),(ax none 1 (aU .i64) r.2.setting.task.fed),(ax none 1 (aU .i64) r.2.setting.task.crew),(ax none 2 aj.cell r.2.setting.task.allowed),(ax none 2 aj.cell r.2.setting.task.goal),(ax none 3 Item.cell r.2.setting.items)] 0)),(.d (ax none 1 af r.2.now.closed)),(.d (ax none 1 af r.2.now.locked)),(.d (ax none 1 af r.2.now.badLink)),(.d (ax none 1 af r.2.now.on_)),(.d (ax none 1 af r.2.now.badSource)),(.d (ax none 1 af r.2.now.earthed)),(.d (ax none 1 af r.2.now.badBus)),(cI r.2.done),(cB r.2.wait),(cB r.2.back),(.own 2 false r.2.log.length)])),(1,none),(2,some (bK 140 6 ai.cell r.2.log))]) (oJ x u0):=
  dm tT mX Tryz.func193 (
  .rg {fr:=[(0,4)]} []<| .cl 1 (cZ [(2,5)] (fF u0)) fun r_=> .r<| .en (r_.1,r_.2) [] [(5,2)])
theorem yG (x:ai) (u0:Run):bX Tryz.prog 194 (Q6 x) (pR u0) (fun r=>(vI r.1)) (fun r=>[(0,some (.cells 143 [(.d (tQ [(.int .i64 r.2.setting.plant.buses),(ax none 5 Source.cell r.2.setting.plant.sources),(ax none 6 Link.cell r.2.setting.plant.links),(ax none 4 aL.cell r.2.setting.plant.racks),(ax none 1 af r.2.setting.begin.closed),(ax none 1 af r.2.setting.begin.locked),(ax none 1 af r.2.setting.begin.badLink),(ax none 1 af r.2.setting.begin.on_),(ax none 1 af r.2.setting.begin.badSource),(ax none 1 af r.2.setting.begin.earthed),(ax none 1 af r.2.setting.begin.badBus),(ax none 1 (aU .i64) r.2.setting.task.fed),(ax none 1 (aU .i64) r.2.setting.task.crew),(ax none 2 aj.cell r.2.setting.task.allowed),(ax none 2 aj.cell r.2.setting.task.goal),(ax none 3 Item.cell r.2.setting.items)] 0)),(.d (ax none 1 af r.2.now.closed)),(.d (ax none 1 af r.2.now.locked)),(.d (ax none 1 af r.2.now.badLink)),(.d (ax none 1 af r.2.now.on_)),(.d (ax none 1 af r.2.now.badSource)),(.d (ax none 1 af r.2.now.earthed)),(.d (ax none 1 af r.2.now.badBus)),(cI r.2.done),(cB r.2.wait),(cB r.2.back),(.own 2 false r.2.log.length)])),(1,none),(2,some (bK 140 6 ai.cell r.2.log))]) (kJ x u0):=
  dm tT mX Tryz.func194 (
  .rg {fr:=[(0,4)],fz:=[4]} []<| .cl 3 (cZ [(2,5)] (jH x.part u0)) fun r_=> .r<| .en (r_.1,r_.2) [] [(5,2)])
theorem yI (x:ai) (u0:Run):bX Tryz.prog 195 (Q6 x) (pR u0) (fun r=>(vI r.1)) (fun r=>[(0,some (.cells 143 [(.d (tQ [(.int .i64 r.2.setting.plant.buses),(ax none 5 Source.cell r.2.setting.plant.sources),(ax none 6 Link.cell r.2.setting.plant.links),(ax none 4 aL.cell r.2.setting.plant.racks),(ax none 1 af r.2.setting.begin.closed),(ax none 1 af r.2.setting.begin.locked),(ax none 1 af r.2.setting.begin.badLink),(ax none 1 af r.2.setting.begin.on_),(ax none 1 af r.2.setting.begin.badSource),(ax none 1 af r.2.setting.begin.earthed),(ax none 1 af r.2.setting.begin.badBus),(ax none 1 (aU .i64) r.2.setting.task.fed),(ax none 1 (aU .i64) r.2.setting.task.crew),(ax none 2 aj.cell r.2.setting.task.allowed),(ax none 2 aj.cell r.2.setting.task.goal),(ax none 3 Item.cell r.2.setting.items)] 0)),(.d (ax none 1 af r.2.now.closed)),(.d (ax none 1 af r.2.now.locked)),(.d (ax none 1 af r.2.now.badLink)),(.d (ax none 1 af r.2.now.on_)),(.d (ax none 1 af r.2.now.badSource)),(.d (ax none 1 af r.2.now.earthed)),(.d (ax none 1 af r.2.now.badBus)),(cI r.2.done),(cB r.2.wait),(cB r.2.back),(.own 2 false r.2.log.length)])),(1,none),(2,some (bK 140 6 ai.cell r.2.log))]) (nC x u0):=
  dm tT mX Tryz.func195 (
  .rg {fr:=[(0,4)],fz:=[4]} []<| .cl 3 (cZ [(2,5)] (sP x.part u0)) fun r_=> .r<| .en (r_.1,r_.2) [] [(5,2)])
section
variable (r_:(Bool × Int × Int × Run)) (u2:Run) (u1:(List ai)) (u0:Int) (u4:(Int × Run))
abbrev Yu:=(iX (swp [(0,9),(1,10)]) [(0,bif r_.1 then some (Dq r_)else none),(1,bif r_.1 then some (pG r_)else none)])
abbrev XD:List (Nat × Option Ob):=[(9,some (.cells 143 [(.d (Kk u2)),(.d (Km u2)),(.d (KL u2)),(.d (KF u2)),(.d (K3 u2)),(.d (J4 u2)),(.d (KM u2)),(.d (Jv u2)),(cI u2.done),(cB u2.wait),(cB u2.back),(.own 10 false u2.log.length)])),(10,some (Gi u2))]
abbrev NQ:=(⟨(at' u1 u0.toNat).kind,((at' u1 u0.toNat).step),((at' u1 u0.toNat).part),(at' u1 u0.toNat).who⟩:ai)
abbrev NR:=(aS ((at' u1 u0.toNat).kind) 1)
abbrev RV:List DV:=[(.int .i64 ((at' u1 u0.toNat).kind))]
abbrev RJ:=((0:Int)≤u0∧u0<(u4.2.log.length:Int))
abbrev J6:=(u4.2,(k0 u0))
end
theorem qb (p:ay) (s_:State) (t:Task) (l:(List Item)) (u1:(List ai)):bX Tryz.prog 54 [(.agg (k7 p)),(.agg (k1 s_)),(.agg (Ox t)),(sD (ax none 3 Item.cell l)),(.one (.own 0 false u1.length))] [(0,some (bK 140 6 ai.cell u1))] (fun r=>(.dL [(.one (bif r.1 then .ptr 1 0 else .d .nilp)),(sI r.2.1),(sI r.2.2.1)])) (fun r=>[(0,some (bK 140 6 ai.cell u1)),(1,bif r.1 then some (.cells 143 [(.d (tQ [(.int .i64 r.2.2.2.setting.plant.buses),(ax none 5 Source.cell r.2.2.2.setting.plant.sources),(ax none 6 Link.cell r.2.2.2.setting.plant.links),(ax none 4 aL.cell r.2.2.2.setting.plant.racks),(ax none 1 af r.2.2.2.setting.begin.closed),(ax none 1 af r.2.2.2.setting.begin.locked),(ax none 1 af r.2.2.2.setting.begin.badLink),(ax none 1 af r.2.2.2.setting.begin.on_),(ax none 1 af r.2.2.2.setting.begin.badSource),(ax none 1 af r.2.2.2.setting.begin.earthed),(ax none 1 af r.2.2.2.setting.begin.badBus),(ax none 1 (aU .i64) r.2.2.2.setting.task.fed),(ax none 1 (aU .i64) r.2.2.2.setting.task.crew),(ax none 2 aj.cell r.2.2.2.setting.task.allowed),(ax none 2 aj.cell r.2.2.2.setting.task.goal),(ax none 3 Item.cell r.2.2.2.setting.items)] 0)),(.d (ax none 1 af r.2.2.2.now.closed)),(.d (ax none 1 af r.2.2.2.now.locked)),(.d (ax none 1 af r.2.2.2.now.badLink)),(.d (ax none 1 af r.2.2.2.now.on_)),(.d (ax none 1 af r.2.2.2.now.badSource)),(.d (ax none 1 af r.2.2.2.now.earthed)),(.d (ax none 1 af r.2.2.2.now.badBus)),(cI r.2.2.2.done),(cB r.2.2.2.wait),(cB r.2.2.2.back),(.own 2 false r.2.2.2.log.length)])else none),(2,bif r.1 then some (bK 140 6 ai.cell r.2.2.2.log)else none)]) (eF p s_ t l u1):=
  dm tT mX Tryz.func54 (
  .rg {fr:=[(0,6),(1,7),(2,8)],fz:=[6,7,8]} []<| .cl 4 (cZ [(0,9),(1,10)] (mH p s_ t l)) fun r_=> .fk r_.1 (.rg {an:=[(4, .call [] (.dL [(.one (.ptr 9 0)),(sI r_.2.1),(sI r_.2.2.1)]) [(9,some (.cells 143 [(.d (OI r_)),(.d (NU r_)),(.d (NP r_)),(.d (N7 r_)),(.d (OT r_)),(.d (Oc r_)),(.d (Pn r_)),(.d (Oy r_)),(cI r_.2.2.2.done),(cB r_.2.2.2.wait),(cB r_.2.2.2.back),(.own 10 false r_.2.2.2.log.length)])),(10,some (pG r_))])]} [.m [1,0] [Fn Tryz.prog 41 (Mv p s_ t l) [] (TV.ren (swp [(0,9),(1,10)]) (PG r_)) (Yu r_),r_.1=true] (Fn Tryz.prog 41 (Mv p s_ t l) [] (TV.ren (swp [(0,9),(1,10)]) (.dL [(.one (bif true then .ptr 0 0 else .d .nilp)),(sI r_.2.1),(sI r_.2.2.1)])) (iX (swp [(0,9),(1,10)]) [(0,bif true then some (Dq r_)else none),(1,bif true then some (pG r_)else none)])) (fun⟨hy,hb,_⟩=>(congrArg (fun bq=>Fn Tryz.prog 41 (Mv p s_ t l) [] (TV.ren (swp [(0,9),(1,10)]) (.dL [(.one (bif bq then .ptr 0 0 else .d .nilp)),(sI r_.2.1),(sI r_.2.2.1)])) (iX (swp [(0,9),(1,10)]) [(0,bif bq then some (Dq r_)else none),(1,bif bq then some (pG r_)else none)])) hb).mp hy)]<| .r<| .it (.r<| .im (.dn 1)<| .im (.dn 2)<| .e (false,r_.2.1,r_.2.2.1,(default:Run)))
  (.r<| .it (.r<| .im (.dn 1)<| .im (.dn 2)<| .e (false,0,2,(default:Run)))
  (.r<| .lp (σ:=(Run × Int)) (β:=Run) (r_.2.2.2,0) [] [] ⟨[4,13,35,36],[0],fun(u2,u0)=>[(37,(vI u0))],fun(u2,u0)=>(XD u2)⟩ ⟨[4,13],[0],fun u3=>[],fun u3=>(XD u3)⟩
  (fun(u2,u0)=> .r<| .it (.a1 ((0:Int)≤u0∧u0<(u1.length:Int))<| .rg {fr:=[(3,17)],fz:=[17]} [0, .t 0 u0 u1.length]<| .cl 1 (DZ (NQ u1 u0)) fun u9=> .r<| .it (.r<| .im (.dn 1)<| .im (.dn 2)<| .e (.done (.ret (false,u0,3,(default:Run)))))
  (.cl 0 (cZ [(0,18)] AJ) fun v0=> .fk (NR u1 u0) (.cl 6 (cZ [(0,9),(1,10),(2,19)] (Cx (NQ u1 u0) u2)) fun u4=> .rg {an:=[(3, .look true O5)]} [2, .m [1] [(NR u1 u0)=true] (cO [some .i64] 1 1 5 (dA Fe) (fun i j=>CV.ren (swp [(0,18)]) ((iW 1 JV) i j)) (RV u1 u0) [(.d .nilf)] true O5) (fun⟨hb5,_⟩=> ⟨(by intro i hi;match i,hi with|0,_=>rfl|1,_=>rfl|2,_=>rfl|3,_=>rfl|4,_=>rfl), .inl ⟨rfl,0,by decide,congrArg some hb5,(fun i hi=>absurd hi (Nat.not_lt_zero i)),rfl⟩⟩),0]<| .r<| .it (.r<| .im (.dn 1)<| .im (.dn 2)<| .e (.done (.ret (false,u0,u4.1,(default:Run)))))
  (.a1 (RJ u0 u4)<| .rg {} [0, .t 0 u0 u4.2.log.length]<| .it (.r<| .im (.dn 1)<| .im (.dn 2)<| .e (.done (.ret (false,u0,3,(default:Run)))))
  (.r<| .en (.next (J6 u0 u4)) [] [(19,10)])))
  (.fk (aS ((at' u1 u0.toNat).kind) 2) (.cl 6 (cZ [(0,9),(1,10),(2,19)] (zR (NQ u1 u0) u2)) fun u5=> .rg {an:=[(3, .look true [(.d (.fn 192 0 (aQ [])))])]} [3, .m [1,2] [(aS ((at' u1 u0.toNat).kind) 2)=true,(NR u1 u0)=false] (cO [some .i64] 1 1 5 (dA Fe) (fun i j=>CV.ren (swp [(0,18)]) ((iW 1 JV) i j)) (RV u1 u0) [(.d .nilf)] true [(.d (.fn 192 0 (aQ [])))]) (fun⟨hb8,hb5,_⟩=> ⟨(by intro i hi;match i,hi with|0,_=>rfl|1,_=>rfl|2,_=>rfl|3,_=>rfl|4,_=>rfl), .inl ⟨rfl,1,by decide,congrArg some hb8,(by intro i hi;match i,hi with|0,_=>exact congrArg some hb5),rfl⟩⟩),0]<| .r<| .it (.r<| .im (.dn 1)<| .im (.dn 2)<| .e (.done (.ret (false,u0,u5.1,(default:Run)))))
  (.a1 (RJ u0 u5)<| .rg {} [0, .t 0 u0 u5.2.log.length]<| .it (.r<| .im (.dn 1)<| .im (.dn 2)<| .e (.done (.ret (false,u0,3,(default:Run)))))
  (.r<| .en (.next (J6 u0 u5)) [] [(19,10)])))
  (.fk (aS ((at' u1 u0.toNat).kind) 3) (.cl 6 (cZ [(0,9),(1,10),(2,19)] (zZ (NQ u1 u0) u2)) fun u6=> .rg {an:=[(3, .look true [(.d (.fn 193 0 (aQ [])))])]} [4, .m [1,3,2] [(aS ((at' u1 u0.toNat).kind) 3)=true,(NR u1 u0)=false,(aS ((at' u1 u0.toNat).kind) 2)=false] (cO [some .i64] 1 1 5 (dA Fe) (fun i j=>CV.ren (swp [(0,18)]) ((iW 1 JV) i j)) (RV u1 u0) [(.d .nilf)] true [(.d (.fn 193 0 (aQ [])))]) (fun⟨hb11,hb5,hb8,_⟩=> ⟨(by intro i hi;match i,hi with|0,_=>rfl|1,_=>rfl|2,_=>rfl|3,_=>rfl|4,_=>rfl), .inl ⟨rfl,2,by decide,congrArg some hb11,(by intro i hi;match i,hi with|0,_=>exact congrArg some hb5|1,_=>exact congrArg some hb8),rfl⟩⟩),0]<| .r<| .it (.r<| .im (.dn 1)<| .im (.dn 2)<| .e (.done (.ret (false,u0,u6.1,(default:Run)))))
  (.a1 (RJ u0 u6)<| .rg {} [0, .t 0 u0 u6.2.log.length]<| .it (.r<| .im (.dn 1)<| .im (.dn 2)<| .e (.done (.ret (false,u0,3,(default:Run)))))
  (.r<| .en (.next (J6 u0 u6)) [] [(19,10)])))
  (.fk (aS ((at' u1 u0.toNat).kind) 4) (.cl 6 (cZ [(0,9),(1,10),(2,19)] (yG (NQ u1 u0) u2)) fun u7=> .rg {an:=[(3, .look true [(.d (.fn 194 0 (aQ [])))])]} [5, .m [1,4,3,2] [(aS ((at' u1 u0.toNat).kind) 4)=true,(NR u1 u0)=false,(aS ((at' u1 u0.toNat).kind) 2)=false,(aS ((at' u1 u0.toNat).kind) 3)=false] (cO [some .i64] 1 1 5 (dA Fe) (fun i j=>CV.ren (swp [(0,18)]) ((iW 1 JV) i j)) (RV u1 u0) [(.d .nilf)] true [(.d (.fn 194 0 (aQ [])))]) (fun⟨hb14,hb5,hb8,hb11,_⟩=> ⟨(by intro i hi;match i,hi with|0,_=>rfl|1,_=>rfl|2,_=>rfl|3,_=>rfl|4,_=>rfl), .inl ⟨rfl,3,by decide,congrArg some hb14,(by intro i hi;match i,hi with|0,_=>exact congrArg some hb5|1,_=>exact congrArg some hb8|2,_=>exact congrArg some hb11),rfl⟩⟩),0]<| .r<| .it (.r<| .im (.dn 1)<| .im (.dn 2)<| .e (.done (.ret (false,u0,u7.1,(default:Run)))))
  (.a1 (RJ u0 u7)<| .rg {} [0, .t 0 u0 u7.2.log.length]<| .it (.r<| .im (.dn 1)<| .im (.dn 2)<| .e (.done (.ret (false,u0,3,(default:Run)))))
  (.r<| .en (.next (J6 u0 u7)) [] [(19,10)])))
  (.fk (aS ((at' u1 u0.toNat).kind) 5) (.cl 6 (cZ [(0,9),(1,10),(2,19)] (yI (NQ u1 u0) u2)) fun u8=> .rg {an:=[(3, .look true [(.d (.fn 195 0 (aQ [])))])]} [6, .m [1,5,4,3,2] [(aS ((at' u1 u0.toNat).kind) 5)=true,(NR u1 u0)=false,(aS ((at' u1 u0.toNat).kind) 2)=false,(aS ((at' u1 u0.toNat).kind) 3)=false,(aS ((at' u1 u0.toNat).kind) 4)=false] (cO [some .i64] 1 1 5 (dA Fe) (fun i j=>CV.ren (swp [(0,18)]) ((iW 1 JV) i j)) (RV u1 u0) [(.d .nilf)] true [(.d (.fn 195 0 (aQ [])))]) (fun⟨hb17,hb5,hb8,hb11,hb14,_⟩=> ⟨(by intro i hi;match i,hi with|0,_=>rfl|1,_=>rfl|2,_=>rfl|3,_=>rfl|4,_=>rfl), .inl ⟨rfl,4,by decide,congrArg some hb17,(by intro i hi;match i,hi with|0,_=>exact congrArg some hb5|1,_=>exact congrArg some hb8|2,_=>exact congrArg some hb11|3,_=>exact congrArg some hb14),rfl⟩⟩),0]<| .r<| .it (.r<| .im (.dn 1)<| .im (.dn 2)<| .e (.done (.ret (false,u0,u8.1,(default:Run)))))
  (.a1 (RJ u0 u8)<| .rg {} [0, .t 0 u0 u8.2.log.length]<| .it (.r<| .im (.dn 1)<| .im (.dn 2)<| .e (.done (.ret (false,u0,3,(default:Run)))))
  (.r<| .en (.next (J6 u0 u8)) [] [(19,10)])))
  (.no)))))))
  (.e (.done (.brk u2))))
  (fun u3=> .r<| .en (true,(u1.length:Int),0,u3) [] [(9,1),(10,2)]))))
  (.rg {an:=[(4, .call [] (Tj r_) [(9,none),(10,none)])]} [.m [1,0] [Fn Tryz.prog 41 (Mv p s_ t l) [] (TV.ren (swp [(0,9),(1,10)]) (PG r_)) (Yu r_),r_.1=false] (Fn Tryz.prog 41 (Mv p s_ t l) [] (TV.ren (swp [(0,9),(1,10)]) (VD r_)) (iX (swp [(0,9),(1,10)]) [(0,bif false then some (Dq r_)else none),(1,bif false then some (pG r_)else none)])) (fun⟨hy,hb,_⟩=>(congrArg (fun bq=>Fn Tryz.prog 41 (Mv p s_ t l) [] (TV.ren (swp [(0,9),(1,10)]) (.dL [(.one (bif bq then .ptr 0 0 else .d .nilp)),(sI r_.2.1),(sI r_.2.2.1)])) (iX (swp [(0,9),(1,10)]) [(0,bif bq then some (Dq r_)else none),(1,bif bq then some (pG r_)else none)])) hb).mp hy)]<| .r<| .a1 ((!decide (r_.2.2.1=0))=true)<| .tf true [0]<| .r<| .im (.dn 1)<| .im (.dn 2)<| .e (false,r_.2.1,r_.2.2.1,(default:Run))))
theorem dX:bX Tryz.prog 119 [(sD .nilp)] [] (fun _=>(vB true)) (fun _=>[]) (eD):=
  dm tT mX Tryz.func119 (
  .r<| .rg {sk:=[3,4,5,6,7]} []<| .e ())
theorem zq:bX Tryz.prog 47 [(sD .nilp)] [] (fun r=>(.dL [(.agg [(cI r.1.done),(cI r.1.left),(cB r.1.waiting),(cB r.1.back)]),(sI r.2)])) (fun _=>[]) (uF):=
  dm tT mX Tryz.func47 (
  .rg {fr:=[(0,1)]} []<| .cl 1 dX fun r_=> .r<| .t<| .rg {fz:=[1]} []<| .e ((⟨0,0,false,false⟩:Status),5))
theorem wL:bX Tryz.prog 49 [(sD .nilp)] [] (fun r=>(.dL [(.agg [(.d (ax none 1 af r.1.closed)),(.d (ax none 1 af r.1.locked)),(.d (ax none 1 af r.1.badLink)),(.d (ax none 1 af r.1.on_)),(.d (ax none 1 af r.1.badSource)),(.d (ax none 1 af r.1.earthed)),(.d (ax none 1 af r.1.badBus))]),(sI r.2)])) (fun _=>[]) (qg):=
  dm tT mX Tryz.func49 (
  .rg {fr:=[(0,1)]} []<| .cl 1 dX fun r_=> .r<| .t<| .r<| .en ((⟨([]:List Bool),([]:List Bool),([]:List Bool),([]:List Bool),([]:List Bool),([]:List Bool),([]:List Bool)⟩:State),5) [1] [])
theorem zw:bX Tryz.prog 53 [(sD .nilp)] [] (fun r=>(.dL [(sD (ax none 6 ai.cell r.1)),(sI r.2)])) (fun _=>[]) (uE):=
  dm tT mX Tryz.func53 (
  .r<| .cl 1 dX fun r_=> .r<| .t<| .r<| .e (([]:List ai),5))
theorem vZ:bX Tryz.prog 55 [(sD .nilp)] [] (fun r=>(.dL [(sD (ax none 2 fD.cell r.1)),(sI r.2)])) (fun _=>[]) (pJ):=
  dm tT mX Tryz.func55 (
  .rg {fr:=[(0,1)]} []<| .cl 1 dX fun r_=> .r<| .t<| .r<| .e (([]:List fD),5))
theorem eZ:bX Tryz.prog 117 [(sD .nilp)] [] (fun r=>(vI r)) (fun _=>[]) (gM):=
  dm tT mX Tryz.func117 (
  .r<| .cl 1 dX fun r_=> .r<| .t<| .r<| .e 5)
theorem xI:bX Tryz.prog 44 [(sD .nilp)] [] (fun r=>(vI r)) (fun _=>[]) (sM):=
  dm tT mX Tryz.func44 (
  .r<| .cl 1 eZ fun r_=> .r<| .r<| .it (.r<| .e r_)
  (.no))
theorem zC (u0:Int):bX Tryz.prog 46 [(sD .nilp),(sI u0)] [] (fun r=>(vI r)) (fun _=>[]) (tN u0):=
  dm tT mX Tryz.func46 (
  .r<| .cl 1 eZ fun r_=> .r<| .r<| .it (.r<| .e r_)
  (.no))
theorem yc:bX Tryz.prog 48 [(sD .nilp)] [] (fun r=>(vI r)) (fun _=>[]) (r9):=
  dm tT mX Tryz.func48 (
  .r<| .cl 1 eZ fun r_=> .r<| .r<| .it (.r<| .e r_)
  (.no))
theorem xE (x:Part) (u0:Int):bX Tryz.prog 121 [(sD .nilp),(.agg (EK x)),(sI u0),(sD (.fn 85 0 (aQ [])))] [] (fun r=>(vI r)) (fun _=>[]) (jG x u0):=
  dm tT mX Tryz.func121 (
  .rg {fr:=[(0,1)],fz:=[1]} []<| .cl 1 eZ fun r_=> .r<| .r<| .it (.r<| .e r_)
  (.no))
theorem xQ (x:Part):bX Tryz.prog 51 [(sD .nilp),(.agg (EK x))] [] (fun r=>(vI r)) (fun _=>[]) (qW x):=
  dm tT mX Tryz.func51 (
  .rg {fr:=[(0,1)],fz:=[1]} []<| .cl 2 (xE x 4) fun r_=> .r<| .e r_)
theorem xC (x:Part) (u0:Int):bX Tryz.prog 121 [(sD .nilp),(.agg (EK x)),(sI u0),(sD (.fn 122 0 (aQ [])))] [] (fun r=>(vI r)) (fun _=>[]) (jG x u0):=
  dm tT mX Tryz.func121 (
  .rg {fr:=[(0,1)],fz:=[1]} []<| .cl 1 eZ fun r_=> .r<| .r<| .it (.r<| .e r_)
  (.no))
theorem xU (x:Part):bX Tryz.prog 52 [(sD .nilp),(.agg (EK x))] [] (fun r=>(vI r)) (fun _=>[]) (rV x):=
  dm tT mX Tryz.func52 (
  .rg {fr:=[(0,1)],fz:=[1]} []<| .cl 2 (xC x 5) fun r_=> .r<| .e r_)
theorem zX:bX Tryz.prog 45 [(sD .nilp)] [] (fun r=>(vI r)) (fun _=>[]) (vJ):=
  dm tT mX Tryz.func45 (
  .r<| .cl 1 dX fun r_=> .r<| .t<| .r<| .e 5)
section
variable (u1:Int) (u2:Bool) (u3:Bool) (u0:(List ai))
abbrev oC:List (Nat × Option Ob):=[(0,some (.cells 143 [(.d .nilp),(.d nS),(.d nS),(.d nS),(.d nS),(.d nS),(.d nS),(.d nS),(cI u1),(cB u2),(cB u3),(.own 1 false u0.length)])),(1,some (bK 140 6 ai.cell u0))]
end
theorem dW (u1:Int) (u2:Bool) (u3:Bool) (u0:(List ai)):bX Tryz.prog 119 [(.one (.ptr 0 0))] (oC u1 u2 u3 u0) (fun _=>(vB true)) (fun _=>(oC u1 u2 u3 u0)) (eB u1 u2 u3 u0):=
  dm tT mX Tryz.func119 (
  .r<| .r<| .e ())
theorem vN (u1:Int) (u2:Bool) (u3:Bool) (u0:(List ai)):bX Tryz.prog 47 [(.one (.ptr 0 0))] (oC u1 u2 u3 u0) (fun r=>(.dL [(.agg [(cI r.1.done),(cI r.1.left),(cB r.1.waiting),(cB r.1.back)]),(sI r.2)])) (fun r=>(oC u1 u2 u3 u0)) (oV u1 u2 u3 u0):=
  dm tT mX Tryz.func47 (
  .rg {fr:=[(0,3)]} []<| .cr 1 (dW u1 u2 u3 u0) fun r_=> .r<| .t<| .rg {fz:=[3]} []<| .e ((⟨0,0,false,false⟩:Status),5))
theorem wu (u1:Int) (u2:Bool) (u3:Bool) (u0:(List ai)):bX Tryz.prog 49 [(.one (.ptr 0 0))] (oC u1 u2 u3 u0) (fun r=>(.dL [(.agg [(.d (ax none 1 af r.1.closed)),(.d (ax none 1 af r.1.locked)),(.d (ax none 1 af r.1.badLink)),(.d (ax none 1 af r.1.on_)),(.d (ax none 1 af r.1.badSource)),(.d (ax none 1 af r.1.earthed)),(.d (ax none 1 af r.1.badBus))]),(sI r.2)])) (fun r=>(oC u1 u2 u3 u0)) (qj u1 u2 u3 u0):=
  dm tT mX Tryz.func49 (
  .rg {fr:=[(0,3)]} []<| .cr 1 (dW u1 u2 u3 u0) fun r_=> .r<| .t<| .r<| .en ((⟨([]:List Bool),([]:List Bool),([]:List Bool),([]:List Bool),([]:List Bool),([]:List Bool),([]:List Bool)⟩:State),5) [3] [])
theorem yV (u1:Int) (u2:Bool) (u3:Bool) (u0:(List ai)):bX Tryz.prog 53 [(.one (.ptr 0 0))] (oC u1 u2 u3 u0) (fun r=>(.dL [(sD (ax none 6 ai.cell r.1)),(sI r.2)])) (fun r=>(oC u1 u2 u3 u0)) (tH u1 u2 u3 u0):=
  dm tT mX Tryz.func53 (
  .r<| .cr 1 (dW u1 u2 u3 u0) fun r_=> .r<| .t<| .r<| .e (([]:List ai),5))
theorem vz (u1:Int) (u2:Bool) (u3:Bool) (u0:(List ai)):bX Tryz.prog 55 [(.one (.ptr 0 0))] (oC u1 u2 u3 u0) (fun r=>(.dL [(sD (ax none 2 fD.cell r.1)),(sI r.2)])) (fun r=>(oC u1 u2 u3 u0)) (o6 u1 u2 u3 u0):=
  dm tT mX Tryz.func55 (
  .rg {fr:=[(0,3)]} []<| .cr 1 (dW u1 u2 u3 u0) fun r_=> .r<| .t<| .r<| .e (([]:List fD),5))
theorem eY (u1:Int) (u2:Bool) (u3:Bool) (u0:(List ai)):bX Tryz.prog 117 [(.one (.ptr 0 0))] (oC u1 u2 u3 u0) (fun r=>(vI r)) (fun r=>(oC u1 u2 u3 u0)) (gL u1 u2 u3 u0):=
  dm tT mX Tryz.func117 (
  .r<| .cr 1 (dW u1 u2 u3 u0) fun r_=> .r<| .t<| .r<| .e 5)
theorem yh (u1:Int) (u2:Bool) (u3:Bool) (u0:(List ai)):bX Tryz.prog 44 [(.one (.ptr 0 0))] (oC u1 u2 u3 u0) (fun r=>(vI r)) (fun r=>(oC u1 u2 u3 u0)) (ru u1 u2 u3 u0):=
  dm tT mX Tryz.func44 (
  .r<| .cr 1 (eY u1 u2 u3 u0) fun r_=> .r<| .r<| .it (.r<| .e r_)
  (.r<| .it (.r<| .e 9)
  (.r<| .it (.r<| .e 130)
  (.no))))
section
variable (u0:(List ai)) (u1:Int)
abbrev QY:=(u0++[(AX u1)])
end
theorem yZ (u1:Int) (u2:Int) (u4:Bool) (u3:Bool) (u0:(List ai)):bX Tryz.prog 46 [(.one (.ptr 0 0)),(sI u1)] (oC u2 u4 u3 u0) (fun r=>(vI r.1)) (fun r=>[(0,some (.cells 143 [(.d .nilp),(.d nS),(.d nS),(.d nS),(.d nS),(.d nS),(.d nS),(.d nS),(cI r.2.1),(cB r.2.2.1),(cB r.2.2.2.1),(.own 2 false r.2.2.2.2.length)])),(1,none),(2,some (bK 140 6 ai.cell r.2.2.2.2))]) (tL u1 u2 u4 u3 u0):=
  dm tT mX Tryz.func46 (
  .r<| .cr 1 (eY u2 u4 u3 u0) fun r_=> .r<| .r<| .it (.r<| .im (.re 0 11 1 4)<| .en (r_,u2,u4,u3,u0) [] [(4,2)])
  (.r<| .it (.r<| .im (.re 0 11 1 5)<| .en (9,u2,u4,u3,u0) [] [(5,2)])
  (.r<| .it (.r<| .im (.re 0 11 1 6)<| .en (1,u2,u4,u3,u0) [] [(6,2)])
  (.r<| .a2 ((u0.length+[(AX u1)].length)*48≤140737488355328) (u0.length+[(AX u1)].length≤4611686018427387904)<| .rg {an:=[(7, .arr [(AX u1)].length (OX u1)),(8, .arr (QY u0 u1).length (aD ai.cell (QY u0 u1)))],fr:=[(7,7),(8,8)]} [.pf ⟨[(AX u1)].length=1,rfl⟩, .pf ⟨aP 1 6 (WT u1) (OX u1),(by intro i hi j hj;match i,j,hi,hj with|0,0,_,_=>rfl|0,1,_,_=>rfl|0,2,_,_=>rfl|0,3,_,_=>rfl|0,4,_,_=>rfl|0,5,_,_=>rfl)⟩, .e (u0.length),0,1, .pf ⟨(QY u0 u1).length=u0.length+[(AX u1)].length,List.length_append⟩, .pf ⟨aP (u0.length+[(AX u1)].length) 6 (jY (aD ai.cell u0) u0.length (OX u1)) (aD ai.cell (QY u0 u1)),bV _ _ _ _⟩]<| .r<| .en (0,u2,false,u3,(QY u0 u1)) [] [(8,2)]))))
theorem xZ (u1:Int) (u2:Bool) (u3:Bool) (u0:(List ai)):bX Tryz.prog 48 [(.one (.ptr 0 0))] (oC u1 u2 u3 u0) (fun r=>(vI r)) (fun r=>(oC u1 u2 u3 u0)) (rP u1 u2 u3 u0):=
  dm tT mX Tryz.func48 (
  .r<| .cr 1 (eY u1 u2 u3 u0) fun r_=> .r<| .r<| .it (.r<| .e r_)
  (.r<| .it (.r<| .e 4)
  (.no)))
theorem xL (x:Part) (u4:Int) (u1:Int) (u2:Bool) (u3:Bool) (u0:(List ai)):bX Tryz.prog 121 [(.one (.ptr 0 0)),(.agg (EK x)),(sI u4),(sD (.fn 85 0 (aQ [])))] (oC u1 u2 u3 u0) (fun r=>(vI r)) (fun r=>(oC u1 u2 u3 u0)) (jO x u4 u1 u2 u3 u0):=
  dm tT mX Tryz.func121 (
  .rg {fr:=[(0,3)],fz:=[3]} []<| .cr 1 (eY u1 u2 u3 u0) fun r_=> .r<| .r<| .it (.r<| .e r_)
  (.no))
theorem xV (x:Part) (u1:Int) (u2:Bool) (u3:Bool) (u0:(List ai)):bX Tryz.prog 51 (Sn x) (oC u1 u2 u3 u0) (fun r=>(vI r)) (fun r=>(oC u1 u2 u3 u0)) (qV x u1 u2 u3 u0):=
  dm tT mX Tryz.func51 (
  .rg {fr:=[(0,3)],fz:=[3]} []<| .cr 2 (xL x 4 u1 u2 u3 u0) fun r_=> .r<| .e r_)
theorem yg (x:Part) (u4:Int) (u1:Int) (u2:Bool) (u3:Bool) (u0:(List ai)):bX Tryz.prog 121 [(.one (.ptr 0 0)),(.agg (EK x)),(sI u4),(sD (.fn 122 0 (aQ [])))] (oC u1 u2 u3 u0) (fun r=>(vI r)) (fun r=>(oC u1 u2 u3 u0)) (jO x u4 u1 u2 u3 u0):=
  dm tT mX Tryz.func121 (
  .rg {fr:=[(0,3)],fz:=[3]} []<| .cr 1 (eY u1 u2 u3 u0) fun r_=> .r<| .r<| .it (.r<| .e r_)
  (.no))
theorem xD (x:Part) (u1:Int) (u2:Bool) (u3:Bool) (u0:(List ai)):bX Tryz.prog 52 (Sn x) (oC u1 u2 u3 u0) (fun r=>(vI r)) (fun r=>(oC u1 u2 u3 u0)) (rM x u1 u2 u3 u0):=
  dm tT mX Tryz.func52 (
  .rg {fr:=[(0,3)],fz:=[3]} []<| .cr 2 (yg x 5 u1 u2 u3 u0) fun r_=> .r<| .e r_)
theorem wC (u1:Int) (u2:Bool) (u3:Bool) (u0:(List ai)):bX Tryz.prog 45 [(.one (.ptr 0 0))] (oC u1 u2 u3 u0) (fun r=>(vI r)) (fun r=>(oC u1 u2 u3 u0)) (qd u1 u2 u3 u0):=
  dm tT mX Tryz.func45 (
  .r<| .cr 1 (dW u1 u2 u3 u0) fun r_=> .r<| .t<| .r<| .e 5)
section
variable (l:(List Item)) (i:Int) (r_:(ay × State × (List Item))) (l1:(List Item)) (u1:(Bool × Int × Int × Run)) (u5:Run) (u6:Run) (u0:((List ai) × Int)) (v0:(Status × Int)) (v2:(State × Int)) (v3:((List ai) × Int)) (v4:((List fD) × Int)) (x0:Int)
abbrev PO:List (Nat × Option Ob):=[(73,some (bK 137 3 Item.cell l))]
abbrev ML:=(⟨(⟨2,0⟩:aj),(decide ((Int.tmod i 2)=0))⟩:Item)
abbrev WO:=(l.length+[(⟨(⟨1,0⟩:aj),false⟩:Item),(ML i)].length)
abbrev Wi:=(aD Item.cell [(⟨(⟨1,0⟩:aj),false⟩:Item),(ML i)])
abbrev TP:=(l++[(⟨(⟨1,0⟩:aj),false⟩:Item),(ML i)])
abbrev XO:=(aD Item.cell (TP l i))
abbrev Tq:List SV:=[(.agg (QB r_)),(.agg (OH r_)),(.agg Rw),(.one (.own 73 false l1.length))]
abbrev Vf:TV:=(.dL [(.one (bif u1.1 then .ptr 1 0 else .d .nilp)),(sI u1.2.1),(sI u1.2.2.1)])
abbrev Jq:Ob:=(.cells 143 [(.d (OI u1)),(.d (NU u1)),(.d (NP u1)),(.d (N7 u1)),(.d (OT u1)),(.d (Oc u1)),(.d (Pn u1)),(.d (Oy u1)),(cI u1.2.2.2.done),(cB u1.2.2.2.wait),(cB u1.2.2.2.back),(.own 2 false u1.2.2.2.log.length)])
abbrev IE:=(⟨((at' l1 0).step),(at' l1 0).ack⟩:Item)
abbrev Qk:=(l1.length+([(IE l1)].length))
abbrev VF:=(aD Item.cell [(IE l1)])
abbrev SY:=(jY (aD Item.cell l1) l1.length (VF l1))
abbrev Tc:List SV:=[(.agg (QB r_)),(.agg (OH r_)),(.agg Rw),(sD (.sl (some true) 3 (Qk l1) (SY l1)))]
abbrev WU:List (Nat × Option Ob):=[(81,some (.cells 143 [(.d (Kk u5)),(.d (Km u5)),(.d (KL u5)),(.d (KF u5)),(.d (K3 u5)),(.d (J4 u5)),(.d (KM u5)),(.d (Jv u5)),(cI u5.done),(cB u5.wait),(cB u5.back),(.own 82 false u5.log.length)])),(82,some (Gi u5))]
abbrev XA:List (Nat × Option Ob):=[(81,some (.cells 143 [(.d (Kk u6)),(.d (Km u6)),(.d (KL u6)),(.d (KF u6)),(.d (K3 u6)),(.d (J4 u6)),(.d (KM u6)),(.d (Jv u6)),(cI u6.done),(cB u6.wait),(cB u6.back),(.own 91 false u6.log.length)])),(91,some (Gi u6))]
abbrev SS:List SV:=[(.agg (QB r_)),(.agg (OH r_)),(.agg Rw),(sD (ax (some true) 3 Item.cell l1)),(.one (.own 96 false u0.1.length))]
abbrev LK:=(⟨(at' u0.1 0).kind,((at' u0.1 0).step),((at' u0.1 0).part),(at' u0.1 0).who⟩:ai)
abbrev Pm:=(u0.1++[(LK u0)])
abbrev TH:List SV:=[(.agg (QB r_)),(.agg (OH r_)),(.agg Rw),(sD (ax (some true) 3 Item.cell l1)),(.one (.own 104 false ((Pm u0).length)))]
abbrev XF:=(u0.1.length+[(LK u0)].length)
abbrev UW:=(aD ai.cell [(LK u0)])
abbrev Xj:=(aD ai.cell (Pm u0))
abbrev XM:Ob:=(bK 140 6 ai.cell (Pm u0))
abbrev Yp:Nat × Option Ob:=(104,some (XM u0))
abbrev U7:List (Nat × Option Ob):=[(Yp u0)]
abbrev V5:Nat × Option Ob:=(0,some (XM u0))
abbrev Ya:=(bif (bif (bif (bif (bif (bif (bif (!((decide (v0.1.done=0)) && ((decide (v0.1.left=0)) && ((v0.1.waiting==false) && ((v0.1.back==false) && true)))))then true else(!decide (v0.2=5)))then true else(!decide ((v2.1.closed.length:Int)=0)))then true else(!decide (v2.2=5)))then true else(!decide ((v3.1.length:Int)=0)))then true else(!decide (v3.2=5)))then true else(!decide ((v4.1.length:Int)=0)))then true else(!decide (v4.2=5)))
abbrev WN:=((Ya v0 v2 v3 v4),false)
abbrev X5:=(bif (Ya v0 v2 v3 v4)then true else(!decide (x0=5)))
end
theorem yP:bX Tryz.prog 9 [] [] (fun r=>(vB r)) (fun _=>[]) (kL):=
  dm tT mX Tryz.func9 (
  .r<| .cl 0 (cZ [(0,57),(1,58),(2,59),(3,60),(4,61),(5,62),(6,63),(7,64),(8,65),(9,66),(10,67),(11,68),(12,69)] ou) fun r_=> .rg {fr:=[(5,70),(6,71)],fz:=[57,58,59,60,61,62,63,64,65,66]} []<| .fz [70,71]<| .r<| .r<| .im (.ad 4 80 137 3 (aD Item.cell ([]:List Item)))<| .lp (σ:=((List Item) × Int)) (β:=(List Item)) (([]:List Item),0) [] [(80,73)] ⟨[1,2],[],fun(l,i)=>[(4,(vO 73 false l.length)),(5,(vI i))],fun(l,i)=>(PO l)⟩ ⟨[1,2],[],fun l1=>[(4,(vO 73 false l1.length))],fun l1=>(PO l1)⟩
  (fun(l,i)=> .r<| .it (.a3 (2≠(0:Int)) ((WO l i)*24≤140737488355328) (l.length+[(⟨(⟨1,0⟩:aj),false⟩:Item),(ML i)].length≤4611686018427387904)<| .rg {an:=[(8, .arr [(⟨(⟨1,0⟩:aj),false⟩:Item),(ML i)].length (Wi i)),(9, .arr (TP l i).length (XO l i))],fr:=[(8,78),(9,79)]} [0, .pf ⟨[(⟨(⟨1,0⟩:aj),false⟩:Item),(ML i)].length=2,rfl⟩, .pf ⟨aP 2 3 (sQ 3 [(.int .i64 1),(.int .i64 0),(.bool false),(.int .i64 2),(.int .i64 0),(.bool (decide ((Int.tmod i 2)=0)))]) (Wi i),(by intro i hi j hj;match i,j,hi,hj with|0,0,_,_=>rfl|0,1,_,_=>rfl|0,2,_,_=>rfl|1,0,_,_=>rfl|1,1,_,_=>rfl|1,2,_,_=>rfl)⟩, .e (l.length),1,2, .pf ⟨(TP l i).length=l.length+[(⟨(⟨1,0⟩:aj),false⟩:Item),(ML i)].length,List.length_append⟩, .pf ⟨aP (WO l i) 3 (jY (aD Item.cell l) l.length (Wi i)) (XO l i),bV _ _ _ _⟩]<| .r<| .en (.next ((TP l i),(k0 i))) [] [(79,73)])
  (.e (.done (.brk l))))
  (fun l1=> .cl 4 (Xm (Tq r_ l1) (cZ [(0,73),(1,81),(2,82)] (AV r_.1 r_.2.1 (⟨([]:List Int),([]:List Int),([]:List aj),([]:List aj)⟩:Task) l1))) fun u1=> .a1 (u1.1=true)<| .rg {an:=[(4, .call [73] (.dL [(.one (.ptr 81 0)),(sI u1.2.1),(sI u1.2.2.1)]) [(73,some (bK 137 3 Item.cell l1)),(81,some (.cells 143 [(.d (OI u1)),(.d (NU u1)),(.d (NP u1)),(.d (N7 u1)),(.d (OT u1)),(.d (Oc u1)),(.d (Pn u1)),(.d (Oy u1)),(cI u1.2.2.2.done),(cB u1.2.2.2.wait),(cB u1.2.2.2.back),(.own 82 false u1.2.2.2.log.length)])),(82,some (pG u1))])]} [.m [1,0] [Fn Tryz.prog 41 (Tq r_ l1) (PO l1) (TV.ren (swp [(0,73),(1,81),(2,82)]) (Vf u1)) (iX (swp [(0,73),(1,81),(2,82)]) [(MW l1),(1,bif u1.1 then some (Jq u1)else none),(2,bif u1.1 then some (pG u1)else none)]),u1.1=true] (Fn Tryz.prog 41 (Tq r_ l1) (PO l1) (TV.ren (swp [(0,73),(1,81),(2,82)]) (.dL [(.one (bif true then .ptr 1 0 else .d .nilp)),(sI u1.2.1),(sI u1.2.2.1)])) (iX (swp [(0,73),(1,81),(2,82)]) [(MW l1),(1,bif true then some (Jq u1)else none),(2,bif true then some (pG u1)else none)])) (fun⟨hy,hb1,_⟩=>(congrArg (fun bq=>Fn Tryz.prog 41 (Tq r_ l1) (PO l1) (TV.ren (swp [(0,73),(1,81),(2,82)]) (.dL [(.one (bif bq then .ptr 1 0 else .d .nilp)),(sI u1.2.1),(sI u1.2.2.1)])) (iX (swp [(0,73),(1,81),(2,82)]) [(MW l1),(1,bif bq then some (Jq u1)else none),(2,bif bq then some (pG u1)else none)])) hb1).mp hy)]<| .cl 9 ⟨fun{u3} hr_2=>(Fn.ZF (args:=[(.agg [(cI r_.1.buses),(.d (ax none 5 Source.cell r_.1.sources)),(.d (ax none 6 Link.cell r_.1.links)),(.d (ax none 4 aL.cell r_.1.racks))]),(.agg [(.d (ax none 1 af r_.2.1.closed)),(.d (ax none 1 af r_.2.1.locked)),(.d (ax none 1 af r_.2.1.badLink)),(.d (ax none 1 af r_.2.1.on_)),(.d (ax none 1 af r_.2.1.badSource)),(.d (ax none 1 af r_.2.1.earthed)),(.d (ax none 1 af r_.2.1.badBus))]),(.agg [(.d (ax none 1 (aU .i64) ([]:List Int))),(.d (ax none 1 (aU .i64) ([]:List Int))),(.d (ax none 2 aj.cell ([]:List aj))),(.d (ax none 2 aj.cell ([]:List aj)))]),(sD (ax none 3 Item.cell (l1++[(IE l1)])))]) (args':=(Tc r_ l1)) (hin:=[]) (hin':=[]) ((cZ [(0,85),(1,86)] (mH r_.1 r_.2.1 (⟨([]:List Int),([]:List Int),([]:List aj),([]:List aj)⟩:Task) (l1++[(IE l1)]))) hr_2) ⟨Gg.agg ⟨zi.refl _,zi.d oo.yo,zi.d oo.yo,zi.d oo.yo,trivial⟩,Gg.agg ⟨zi.d oo.yo,zi.d oo.yo,zi.d oo.yo,zi.d oo.yo,zi.d oo.yo,zi.d oo.yo,zi.d oo.yo,trivial⟩,Gg.agg ⟨zi.d oo.nil',zi.d oo.nil',zi.d oo.nil',zi.d oo.nil',trivial⟩,Gg.one (zi.d (oo.Ze (by first|(rw [List.length_append,List.length_drop];done)|(simp only [List.length_set,List.length_drop,zo];done)|(simp only [List.length_append,zo];done)|exact(List.length_append.trans (congrArg (_+ ·) (zo _ _ _))).symm) (.inl rfl) (XR Item.cell l1 [(IE l1)] ([(IE l1)].length) _ (fun _ _ _ _=> .refl _)))),trivial⟩ trivial)⟩ fun u3=> .a1 (u3.1=false)<| .a3 ((0:Int)≤0∧0<(l1.length:Int)) ((Qk l1)*24≤140737488355328) (l1.length+([(IE l1)].length)≤4611686018427387904)<| .rg {an:=[(7, .arr [(IE l1)].length (VF l1)),(8, .frz (Qk l1) (SY l1)),(9, .call [] (Tj u3) [(85,none),(86,none)])],fr:=[(7,83),(8,84)]} [0, .t 0 0 l1.length, .pf ⟨[(IE l1)].length=1,rfl⟩, .pf ⟨aP 1 3 (sQ 3 [(.int .i64 (((at' l1 0).step).deed)),(.int .i64 (((at' l1 0).step).index)),(.bool ((at' l1 0).ack))]) (VF l1),(by intro i hi j hj;match i,j,hi,hj with|0,0,_,_=>rfl|0,1,_,_=>rfl|0,2,_,_=>rfl)⟩, .e (l1.length), .t 0 0 l1.length,1,2, .e ((Qk l1)), .pf ⟨aP (Qk l1) 3 (SY l1) (SY l1),Bc _ _ _⟩, .m [4,3] [Fn Tryz.prog 41 (Tc r_ l1) [] (TV.ren (swp [(0,85),(1,86)]) (PG u3)) (iX (swp [(0,85),(1,86)]) [(0,bif u3.1 then some (Dq u3)else none),(1,bif u3.1 then some (pG u3)else none)]),u3.1=false] (Fn Tryz.prog 41 (Tc r_ l1) [] (TV.ren (swp [(0,85),(1,86)]) (VD u3)) (iX (swp [(0,85),(1,86)]) [(0,bif false then some (Dq u3)else none),(1,bif false then some (pG u3)else none)])) (fun⟨hy,hb2,_⟩=>(congrArg (fun bq=>Fn Tryz.prog 41 (Tc r_ l1) [] (TV.ren (swp [(0,85),(1,86)]) (.dL [(.one (bif bq then .ptr 0 0 else .d .nilp)),(sI u3.2.1),(sI u3.2.2.1)])) (iX (swp [(0,85),(1,86)]) [(0,bif bq then some (Dq u3)else none),(1,bif bq then some (pG u3)else none)])) hb2).mp hy)]<| .im (.tw 4 73 137 3 l1.length false false (aD Item.cell l1))<| .r<| .it (.r<| .e false)
  (.r<| .lp (σ:=(Run × Int)) (β:=Run) (u1.2.2.2,0) [] [] ⟨[1,2,4,6],[],fun(u5,i1)=>[(12,(vI i1))],fun(u5,i1)=>(WU u5)⟩ ⟨[1,2,4,6],[],fun u8=>[],fun u8=>(WU u8)⟩
  (fun(u5,i1)=> .r<| .it (.cl 1 (cZ [(0,81),(1,82),(2,90)] (dN u5)) fun v9=> .fk (!decide (v9.1=0)) (.rg {ov:=[(3,true,0)],sk:=[4,5,6,7,8,9,10]} [1]<| .t<| .r<| .e (.done (.ret false)))
  (.fk (decide ((Int.tmod i1 4)=1)) (.cl 9 (cZ [(0,81),(1,90),(2,91)] (kK 1000 v9.2)) fun w7=> .a1 ((gB [(false,false)]=true→4≠(0:Int)))<| .rg {ov:=[(3,false,3),(7,true,2)]} [4,0, .k 1]<| .it (.r<| .e (.done (.ret false)))
  (.r<| .en (.next (J6 i1 w7)) [] [(91,82)]))
  (.a1 ((gB [(false,false)]=true→4≠(0:Int)))<| .rg {ov:=[(3,false,2),(7,false,1)],sk:=[8,9,10]} [3,0]<| .f<| .r<| .en (.next (J6 i1 v9)) [] [(90,82)])))
  (.e (.done (.brk u5))))
  (fun u8=> .cl 1 (cZ [(0,81),(1,82),(2,91)] (dN u8)) fun w8=> .r<| .it (.r<| .e false)
  (.r<| .lp (σ:=(Run × Int)) (β:=Run) (w8.2,80) [] [] ⟨[1,2,4,6],[],fun(u6,i2)=>[(13,(vI i2))],fun(u6,i2)=>(XA u6)⟩ ⟨[1,2,4,6],[],fun u7=>[],fun u7=>(XA u7)⟩
  (fun(u6,i2)=> .r<| .it (.cl 2 (cZ [(0,81),(1,91),(2,95)] (jH (⟨1,2⟩:Part) u6)) fun w9=> .r<| .it (.r<| .e (.done (.ret false)))
  (.r<| .en (.next (J6 i2 w9)) [] [(95,91)]))
  (.e (.done (.brk u6))))
  (fun u7=> .cl 1 (cZ [(0,81),(1,91),(2,96)] (yH u7)) fun u0=> .r<| .fk (bif (!decide (u0.2=0))then true else(!decide ((u0.1.length:Int)=1000))) (.rg {ov:=[(7,true,0)],sk:=[8,9,10,11,14,15,16,19,20,21,24,25,26]} []<| .t<| .r<| .e false)
  (.cl 10 (cZ [(0,81),(1,91),(2,97)] (jH (⟨1,2⟩:Part) u7)) fun w2=> .fk (!decide (w2.1=2)) (.rg {ov:=[(7,false,2),(13,true,0)],sk:=[14,15,16,19,20,21,24,25,26]} [.k 1]<| .t<| .r<| .e false)
  (.cl 15 (cZ [(0,81),(1,97),(2,98)] (fF w2.2)) fun w3=> .fk (!decide (w3.1=2)) (.rg {ov:=[(7,false,4),(13,false,2),(18,true,0)],sk:=[19,20,21,24,25,26]} [.k 3, .k 1]<| .t<| .r<| .e false)
  (.cl 20 (cZ [(0,81),(1,98),(2,99)] (dN w3.2)) fun w4=> .fk (!decide (w4.1=2)) (.rg {ov:=[(7,false,6),(13,false,4),(18,false,2),(23,true,0)],sk:=[24,25,26]} [.k 5, .k 3, .k 1]<| .t<| .r<| .e false)
  (.cl 25 (cZ [(0,81),(1,99),(2,100)] (kK 1 w4.2)) fun x5=> .rg {ov:=[(7,false,7),(13,false,5),(18,false,3),(23,false,1)]} [.k 6, .k 4, .k 2, .k 0]<| .it (.r<| .e false)
  (.cl 5 (Xm (SS r_ l1 u0) (cZ [(0,96),(1,101),(2,102)] (qb r_.1 r_.2.1 (⟨([]:List Int),([]:List Int),([]:List aj),([]:List aj)⟩:Task) l1 u0.1))) fun u2=> .a1 (u2.1=true)<| .rg {an:=[(5, .call [96] (.dL [(.one (.ptr 101 0)),(sI u2.2.1),(sI u2.2.2.1)]) [(96,some (bK 140 6 ai.cell u0.1)),(101,some (.cells 143 [(.d (OI u2)),(.d (NU u2)),(.d (NP u2)),(.d (N7 u2)),(.d (OT u2)),(.d (Oc u2)),(.d (Pn u2)),(.d (Oy u2)),(cI u2.2.2.2.done),(cB u2.2.2.2.wait),(cB u2.2.2.2.back),(.own 102 false u2.2.2.2.log.length)])),(102,some (pG u2))])],fz:=[102]} [.m [1,0] [Fn Tryz.prog 54 (SS r_ l1 u0) [(96,some (bK 140 6 ai.cell u0.1))] (TV.ren (swp [(0,96),(1,101),(2,102)]) (Vf u2)) (iX (swp [(0,96),(1,101),(2,102)]) [(0,some (bK 140 6 ai.cell u0.1)),(1,bif u2.1 then some (Jq u2)else none),(2,bif u2.1 then some (pG u2)else none)]),u2.1=true] (Fn Tryz.prog 54 (SS r_ l1 u0) [(96,some (bK 140 6 ai.cell u0.1))] (TV.ren (swp [(0,96),(1,101),(2,102)]) (.dL [(.one (bif true then .ptr 1 0 else .d .nilp)),(sI u2.2.1),(sI u2.2.2.1)])) (iX (swp [(0,96),(1,101),(2,102)]) [(0,some (bK 140 6 ai.cell u0.1)),(1,bif true then some (Jq u2)else none),(2,bif true then some (pG u2)else none)])) (fun⟨hy,hb16,_⟩=>(congrArg (fun bq=>Fn Tryz.prog 54 (SS r_ l1 u0) [(96,some (bK 140 6 ai.cell u0.1))] (TV.ren (swp [(0,96),(1,101),(2,102)]) (.dL [(.one (bif bq then .ptr 1 0 else .d .nilp)),(sI u2.2.1),(sI u2.2.2.1)])) (iX (swp [(0,96),(1,101),(2,102)]) [(0,some (bK 140 6 ai.cell u0.1)),(1,bif bq then some (Jq u2)else none),(2,bif bq then some (pG u2)else none)])) hb16).mp hy)]<| .fz [101]<| .cl 10 (Xm (TH r_ l1 u0) (cZ [(0,104),(1,105),(2,106)] (qb r_.1 r_.2.1 (⟨([]:List Int),([]:List Int),([]:List aj),([]:List aj)⟩:Task) l1 (Pm u0)))) fun u4=> .a1 (u4.1=false)<| .a3 ((0:Int)≤0∧0<(u0.1.length:Int)) ((XF u0)*48≤140737488355328) (u0.1.length+[(LK u0)].length≤4611686018427387904)<| .rg {an:=[(8, .arr [(LK u0)].length (UW u0)),(9, .arr (Pm u0).length (Xj u0)),(10, .call [104] (Tj u4) [(Yp u0),(105,none),(106,none)])],fr:=[(8,103),(9,104)]} [0, .t 0 0 u0.1.length, .pf ⟨[(LK u0)].length=1,rfl⟩, .pf ⟨aP 1 6 (sQ 6 [(.int .i64 ((at' u0.1 0).kind)),(.int .i64 (((at' u0.1 0).step).deed)),(.int .i64 (((at' u0.1 0).step).index)),(.int .i64 (((at' u0.1 0).part).kind)),(.int .i64 (((at' u0.1 0).part).index)),(.int .i64 ((at' u0.1 0).who))]) (UW u0),(by intro i hi j hj;match i,j,hi,hj with|0,0,_,_=>rfl|0,1,_,_=>rfl|0,2,_,_=>rfl|0,3,_,_=>rfl|0,4,_,_=>rfl|0,5,_,_=>rfl)⟩, .e (u0.1.length),1,2, .pf ⟨(Pm u0).length=u0.1.length+[(LK u0)].length,List.length_append⟩, .pf ⟨aP (XF u0) 6 (jY (aD ai.cell u0.1) u0.1.length (UW u0)) (Xj u0),bV _ _ _ _⟩, .m [4,3] [Fn Tryz.prog 54 (TH r_ l1 u0) (U7 u0) (TV.ren (swp [(0,104),(1,105),(2,106)]) (Vf u4)) (iX (swp [(0,104),(1,105),(2,106)]) [(V5 u0),(1,bif u4.1 then some (Jq u4)else none),(2,bif u4.1 then some (pG u4)else none)]),u4.1=false] (Fn Tryz.prog 54 (TH r_ l1 u0) (U7 u0) (TV.ren (swp [(0,104),(1,105),(2,106)]) (.dL [(.one (bif false then .ptr 1 0 else .d .nilp)),(sI u4.2.1),(sI u4.2.2.1)])) (iX (swp [(0,104),(1,105),(2,106)]) [(V5 u0),(1,bif false then some (Jq u4)else none),(2,bif false then some (pG u4)else none)])) (fun⟨hy,hb17,_⟩=>(congrArg (fun bq=>Fn Tryz.prog 54 (TH r_ l1 u0) (U7 u0) (TV.ren (swp [(0,104),(1,105),(2,106)]) (.dL [(.one (bif bq then .ptr 1 0 else .d .nilp)),(sI u4.2.1),(sI u4.2.2.1)])) (iX (swp [(0,104),(1,105),(2,106)]) [(V5 u0),(1,bif bq then some (Jq u4)else none),(2,bif bq then some (pG u4)else none)])) hb17).mp hy)]<| .r<| .it (.r<| .e false)
  (.rg {an:=[(2, .cells)],fr:=[(1,107),(2,108)]} []<| .im (.gN 107 11 109 140 6 (aD ai.cell ([]:List ai)))<| .ul 11<| .r<| .t<| .a1 ((0:Int)≤0∧0<(2:Int))<| .r<| .cl 1 zq fun v0=> .rg {fr:=[(5,110)],fz:=[110]} []<| .cl 1 wL fun v2=> .rg {fr:=[(5,111)],fz:=[111]} []<| .cl 1 zw fun v3=> .r<| .cl 1 vZ fun v4=> .r<| .cg 37 [(WN v0 v2 v3 v4)] xI fun x0=> .fk (X5 v0 v2 v3 v4 x0) (.rg {ov:=[(40,true,0)],sk:=[41,42,43,46,47,48,51,52,53,54,57,58,59,60,63,64,65]} [1]<| .t<| .r<| .e false)
  (.cl 42 (zC 1) fun v5=> .cg 47 [((!decide (v5=5)),false)] yc fun w0=> .cg 53 [((bif (!decide (v5=5))then true else(!decide (w0=5))),false)] (xQ (⟨0,0⟩:Part)) fun w5=> .cg 59 [((bif (bif (!decide (v5=5))then true else(!decide (w0=5)))then true else(!decide (w5=5))),false)] (xU (⟨0,0⟩:Part)) fun x1=> .cg 64 [((bif (bif (bif (!decide (v5=5))then true else(!decide (w0=5)))then true else(!decide (w5=5)))then true else(!decide (x1=5))),false)] zX fun x6=> .rg {ov:=[(40,false,5)]} [6, .k 4,3,2,1,0]<| .it (.r<| .e false)
  (.r<| .im (.dp [192,193,194])<| .r<| .t<| .a1 ((0:Int)≤1∧1<(2:Int))<| .r<| .cr 1 (cZ [(0,107),(1,109)] (vN 0 false false ([]:List ai))) fun v1=> .rg {fr:=[(5,112)],fz:=[112]} []<| .cr 1 (cZ [(0,107),(1,109)] (wu 0 false false ([]:List ai))) fun v6=> .rg {fr:=[(5,113)],fz:=[113]} []<| .cr 1 (cZ [(0,107),(1,109)] (yV 0 false false ([]:List ai))) fun v7=> .r<| .cr 1 (cZ [(0,107),(1,109)] (vz 0 false false ([]:List ai))) fun v8=> .r<| .X0 37 [(WN v1 v6 v7 v8)] (cZ [(0,107),(1,109)] (yh 0 false false ([]:List ai))) fun x2=> .fk (X5 v1 v6 v7 v8 x2) (.rg {ov:=[(40,true,0)],sk:=[41,42,43,46,47,48,51,52,53,54,57,58,59,60,63,64,65]} [1]<| .t<| .r<| .e false)
  (.cl 42 (cZ [(0,107),(1,109),(2,114)] (yZ 1 0 false false ([]:List ai))) fun u9=> .X0 47 [((!decide (u9.1=5)),false)] (cZ [(0,107),(1,114)] (xZ u9.2.1 u9.2.2.1 u9.2.2.2.1 u9.2.2.2.2)) fun w1=> .X0 53 [((bif (!decide (u9.1=5))then true else(!decide (w1=5))),false)] (cZ [(0,107),(1,114)] (xV (⟨0,0⟩:Part) u9.2.1 u9.2.2.1 u9.2.2.2.1 u9.2.2.2.2)) fun w6=> .X0 59 [((bif (bif (!decide (u9.1=5))then true else(!decide (w1=5)))then true else(!decide (w6=5))),false)] (cZ [(0,107),(1,114)] (xD (⟨0,0⟩:Part) u9.2.1 u9.2.2.1 u9.2.2.2.1 u9.2.2.2.2)) fun x3=> .X0 64 [((bif (bif (bif (!decide (u9.1=5))then true else(!decide (w1=5)))then true else(!decide (w6=5)))then true else(!decide (x3=5))),false)] (cZ [(0,107),(1,114)] (wC u9.2.1 u9.2.2.1 u9.2.2.2.1 u9.2.2.2.2)) fun x7=> .rg {ov:=[(40,false,5)]} [6, .k 4,3,2,1,0]<| .it (.r<| .e false)
  (.r<| .im (.dp [192,193,194])<| .r<| .f<| .cl 0 Dr fun x4=> .r<| .e x4))))))))))))))))
end
end Sg
