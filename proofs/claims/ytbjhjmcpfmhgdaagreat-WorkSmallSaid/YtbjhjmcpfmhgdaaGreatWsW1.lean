import Derived.Test.YtbjhjmcpfmhgdaaGreatWsW0
set_option linter.all false
namespace Sg
open Go Go.Proofs
set_option maxRecDepth 20000
noncomputable section
section
variable (u0:State) (x1:(List Transfer)) (o0:(List Bool)) (r_:(State × Bool)) (x2:Int) (u3:(List Source)) (u4:(List Link)) (u5:(List aO)) (u1:Int)
abbrev X6:Ob:=(.cells 29 [(.own 4 false u0.closed.length),(.own 5 false u0.locked.length),(.own 6 false u0.badLink.length),(.own 7 false u0.on_.length),(.own 8 false u0.badSource.length),(.own 9 false u0.earthed.length),(.own 10 false u0.badBus.length)])
abbrev QU:Nat × Option Ob:=(5,some (bg 4 1 af u0.locked))
abbrev Qu:Nat × Option Ob:=(6,some (bg 4 1 af u0.badLink))
abbrev Qb:Nat × Option Ob:=(7,some (bg 4 1 af u0.on_))
abbrev Rb:Nat × Option Ob:=(8,some (bg 4 1 af u0.badSource))
abbrev Qg:Nat × Option Ob:=(9,some (bg 4 1 af u0.earthed))
abbrev QH:Nat × Option Ob:=(10,some (bg 4 1 af u0.badBus))
abbrev QS:=(List.replicate ((x1.length:Int).toNat) (false:Bool))
abbrev X5:List CV:=[(.own 99 false o0.length),(.own 5 false u0.locked.length),(.own 6 false u0.badLink.length),(.own 7 false u0.on_.length),(.own 8 false u0.badSource.length),(.own 9 false u0.earthed.length),(.own 10 false u0.badBus.length)]
abbrev Ze:Ob:=(.cells 29 (X5 u0 o0))
abbrev XV:Nat × Option Ob:=(1,some (Ze u0 o0))
abbrev Zp:Nat × Option Ob:=(2,some (Ze u0 o0))
abbrev Uf:=(⟨o0,u0.locked,u0.badLink,u0.on_,u0.badSource,u0.earthed,u0.badBus⟩:State)
abbrev YO:List CV:=[(.own 148 false r_.1.closed.length),(.own 5 false u0.locked.length),(.own 6 false u0.badLink.length),(.own 7 false u0.on_.length),(.own 8 false u0.badSource.length),(.own 9 false u0.earthed.length),(.own 10 false u0.badBus.length)]
abbrev NK:Ob:=(bg 4 1 af r_.1.closed)
abbrev NZ:List SV:=[(.agg [(cI x2),(.d (k12 u3)),(.d (aH none 6 Link.cell u4)),(.d (aH none 4 aO.cell u5))]),(.agg (X5 u0 o0)),(.agg [(cI ((at' x1 u1.toNat).watch)),(cI ((at' x1 u1.toNat).open_)),(cI ((at' x1 u1.toNat).close))])]
abbrev Nu:List (Nat × Option Ob):=[(99,some (bg 4 1 af o0)),(QU u0),(Qu u0),(Qb u0),(Rb u0),(Qg u0),(QH u0)]
abbrev QK:List CV:=[(.own 7 false r_.1.closed.length),(.own 1 false u0.locked.length),(.own 2 false u0.badLink.length),(.own 3 false u0.on_.length),(.own 4 false u0.badSource.length),(.own 5 false u0.earthed.length),(.own 6 false u0.badBus.length)]
abbrev YI:TV:=(.bZ [(.agg (QK u0 r_)),(sB r_.2)])
abbrev YF:=(lq (swp [(0,99),(1,5),(2,6),(3,7),(4,8),(1,9),(2,10),(3,148),(4,149)]) [(0,some (bg 4 1 af o0)),(Kn u0),(J4 u0),(JN u0),(JO u0),(JD u0),(Ky u0),(7,bif r_.2 then some (NK r_)else none),(8,none)])
end
theorem xu (x1:(List Transfer)) (x2:Int) (u3:(List Source)) (u4:(List Link)) (u5:(List aO)) (u0:State) (u9:State) (o_:(List Int)):bN Tryz.prog 224 [(.one (.yl 0)),(sD (wT [(Wu x1)] 0)),(sD (k11 u3 x2 u4 u5)),(.one (.ptr 1 0))] [(0,some (.loop fJ 0 [(10,(vP 2 0)),(11,(vP 3 0))])),(1,some (X6 u0)),(2,some (X6 u0)),(3,some (.cells 39 [(.own 11 false o_.length)])),(4,some (bg 4 1 af u0.closed)),(QU u0),(Qu u0),(Qb u0),(Rb u0),(Qg u0),(QH u0),(11,some (rC o_))] (fun r=>(.bZ [])) (fun r=>[(0,some (.loop fJ 0 [(10,(vP 2 0)),(11,(vP 3 0))])),(1,some (.cells 29 [(.own 12 false r.1.closed.length),(.own 5 false u0.locked.length),(.own 6 false u0.badLink.length),(.own 7 false u0.on_.length),(.own 8 false u0.badSource.length),(.own 9 false u0.earthed.length),(.own 10 false u0.badBus.length)])),(2,some (.cells 29 [(.own 12 false r.1.closed.length),(.own 5 false u0.locked.length),(.own 6 false u0.badLink.length),(.own 7 false u0.on_.length),(.own 8 false u0.badSource.length),(.own 9 false u0.earthed.length),(.own 10 false u0.badBus.length)])),(3,some (.cells 39 [(.own 13 false r.2.2.length)])),(4,none),(QU u0),(Qu u0),(Qb u0),(Rb u0),(Qg u0),(QH u0),(11,none),(12,some (bg 4 1 af r.1.closed)),(13,some (bg 3 1 (aA .i64) r.2.2))]) (qZ x1 x2 u3 u4 u5 u0 u9 o_):=
  bO tT mX Tryz.func224 (
  .sp (σ:=((List Bool) × (List Int) × (List Bool))) (β:=((List Bool) × (List Int))) (u0.closed,o_,(QS x1)) ⟨[0,1,2,3],[0,5,6,7,8,9,10],fun(o0,u7,u2)=>[(5,(vO 82 true u2.length))],fun(o0,u7,u2)=>[(XV u0 o0),(Zp u0 o0),(3,some (.cells 39 [(.own 100 false u7.length)])),(4,none),(11,none),(82,some (bg 4 1 af u2)),(99,some (bg 4 1 af o0)),(100,some (rC u7))]⟩ ⟨[],[0,5,6,7,8,9,10],fun(u6,u8)=>[],fun(u6,u8)=>[(XV u0 u6),(Zp u0 u6),(3,some (.cells 39 [(.own 100 false u8.length)])),(4,none),(11,none),(99,some (bg 4 1 af u6)),(100,some (rC u8))]⟩ (.a3 ((0:Int)≤(x1.length:Int)) ((1:Int)*(x1.length:Int)≤281474976710656) (((x1.length:Int):Int)≤9223372036854775807)<| .rg {an:=[(2, .arr (QS x1).length (ah af (QS x1)))],fr:=[(2,151)]} [0, .e (((x1.length:Int):Int)),1,2, .pf ⟨(QS x1).length=((x1.length:Int).toNat),List.length_replicate⟩, .pf ⟨av ((x1.length:Int).toNat) 1 (fun _ j=>[(.bool false)].getD j .nilp) (ah af (QS x1)),bY _ _ _ _ _ (fun j hj=>(match j,hj with|0,_=>rfl))⟩]<| .im (.ra 4 152)<| .im (.re 3 0 11 153)<| .en () [] [(151,82),(152,99),(153,100)])
  (fun(o0,u7,u2)=> .r<| .lp (σ:=Int) (β:=Unit) (0) [] [] ⟨[0,1,2,3,5,13,14],[0,1,2,3,4,5,6,7,8,9,10,11,82,99,100],fun u1=>[(15,(vI u1))],fun u1=>[]⟩ ⟨[],[0,1,2,3,4,5,6,7,8,9,10,11,99,100],fun _=>[],fun _=>[]⟩
  (fun u1=> .r<| .it (.a1 ((0:Int)≤u1∧u1<(x1.length:Int))<| .rg {fr:=[(3,147)],fz:=[147]} []<| .a1 (O5 u2 u1)<| .rg {} [0, .t 0 u1 u2.length]<| .it (.r<| .e (.next (k18 u1)))
  (.cl 3 (fw [(0,99),(1,5),(2,6),(3,7),(4,8),(1,9),(2,10),(3,148),(4,149)] (CX (⟨x2,u3,u4,u5⟩:aF) (Uf u0 o0) (at' x1 u1.toNat))) fun r_=> .fk r_.2 (.rg {an:=[(3, .call [99,5,6,7,8,9,10] (.bZ [(.agg (YO u0 r_)),(sB true)]) [(99,some (bg 4 1 af o0)),(QU u0),(Qu u0),(Qb u0),(Rb u0),(Qg u0),(QH u0),(148,some (NK r_)),(149,none)])],fr:=[(7,150)]} [.m [1,0] [Fn Tryz.prog 225 (NZ u0 x1 o0 x2 u3 u4 u5 u1) (Nu u0 o0) (TV.ren (swp [(0,99),(1,5),(2,6),(3,7),(4,8),(1,9),(2,10),(3,148),(4,149)]) (YI u0 r_)) (YF u0 o0 r_),r_.2=true] (Fn Tryz.prog 225 (NZ u0 x1 o0 x2 u3 u4 u5 u1) (Nu u0 o0) (TV.ren (swp [(0,99),(1,5),(2,6),(3,7),(4,8),(1,9),(2,10),(3,148),(4,149)]) (.bZ [(.agg (QK u0 r_)),(sB true)])) (lq (swp [(0,99),(1,5),(2,6),(3,7),(4,8),(1,9),(2,10),(3,148),(4,149)]) [(0,some (bg 4 1 af o0)),(Kn u0),(J4 u0),(JN u0),(JO u0),(JD u0),(Ky u0),(7,bif true then some (NK r_)else none),(8,none)])) (fun⟨hy,hb2,_⟩=>(congrArg (fun bq=>Fn Tryz.prog 225 (NZ u0 x1 o0 x2 u3 u4 u5 u1) (Nu u0 o0) (TV.ren (swp [(0,99),(1,5),(2,6),(3,7),(4,8),(1,9),(2,10),(3,148),(4,149)]) (.bZ [(.agg (QK u0 r_)),(sB bq)])) (lq (swp [(0,99),(1,5),(2,6),(3,7),(4,8),(1,9),(2,10),(3,148),(4,149)]) [(0,some (bg 4 1 af o0)),(Kn u0),(J4 u0),(JN u0),(JO u0),(JD u0),(Ky u0),(7,bif bq then some (NK r_)else none),(8,none)])) hb2).mp hy)]<| .r<| .t<| .a1 (O5 u2 u1)<| .rg {an:=[(5, .arr 0 (ah af (u2.set u1.toNat true)))]} [0, .t 0 u1 u2.length, .pf ⟨av u2.length 1 (bW (ah af u2) u1.toNat 0 [(.bool true)]) (ah af (u2.set u1.toNat true)),aR _ _ _ _ _ _ _ _ rfl (fun j hj=>(match j,hj with|0,_=>rfl))⟩]<| .im (.ll 82 u2 (u2.set u1.toNat true))<| .cy 3 (rkY [(1,148),(2,5),(3,6),(4,7),(2,8),(3,9),(4,10),(4,99),(11,100),(12,151)] (sQ u1 r_.1.closed u0.locked u0.badLink u0.on_ u0.badSource u0.earthed u0.badBus (Uf u0 o0) u7)) fun v0=> .r<| .f<| .en (.done (.ret (.next (r_.1.closed,v0.2,(u2.set u1.toNat true))))) [] [(148,99),(151,100)])
  (.rg {an:=[(3, .call [99,5,6,7,8,9,10] (.bZ [(.agg (YO u0 r_)),(sB false)]) [(99,some (bg 4 1 af o0)),(QU u0),(Qu u0),(Qb u0),(Rb u0),(Qg u0),(QH u0),(148,none),(149,none)])],fr:=[(7,150)]} [.m [1,0] [Fn Tryz.prog 225 (NZ u0 x1 o0 x2 u3 u4 u5 u1) (Nu u0 o0) (TV.ren (swp [(0,99),(1,5),(2,6),(3,7),(4,8),(1,9),(2,10),(3,148),(4,149)]) (YI u0 r_)) (YF u0 o0 r_),r_.2=false] (Fn Tryz.prog 225 (NZ u0 x1 o0 x2 u3 u4 u5 u1) (Nu u0 o0) (TV.ren (swp [(0,99),(1,5),(2,6),(3,7),(4,8),(1,9),(2,10),(3,148),(4,149)]) (.bZ [(.agg (QK u0 r_)),(sB false)])) (lq (swp [(0,99),(1,5),(2,6),(3,7),(4,8),(1,9),(2,10),(3,148),(4,149)]) [(0,some (bg 4 1 af o0)),(Kn u0),(J4 u0),(JN u0),(JO u0),(JD u0),(Ky u0),(7,bif false then some (NK r_)else none),(8,none)])) (fun⟨hy,hb2,_⟩=>(congrArg (fun bq=>Fn Tryz.prog 225 (NZ u0 x1 o0 x2 u3 u4 u5 u1) (Nu u0 o0) (TV.ren (swp [(0,99),(1,5),(2,6),(3,7),(4,8),(1,9),(2,10),(3,148),(4,149)]) (.bZ [(.agg (QK u0 r_)),(sB bq)])) (lq (swp [(0,99),(1,5),(2,6),(3,7),(4,8),(1,9),(2,10),(3,148),(4,149)]) [(0,some (bg 4 1 af o0)),(Kn u0),(J4 u0),(JN u0),(JO u0),(JD u0),(Ky u0),(7,bif bq then some (NK r_)else none),(8,none)])) hb2).mp hy)]<| .r<| .f<| .r<| .e (.next (k18 u1)))))
  (.e (.done (.brk ()))))
  (fun _=> .e (.done (.brk (o0,u7)))))
  (fun(u6,u8)=> .en ((Uf u0 u6),(Uf u0 u6),u8) [] [(99,12),(100,13)]))
section
variable (t8:Int) (s_:(List Part))
abbrev Mx:=((0:Int)≤t8∧t8<(s_.length:Int))
end
theorem uN (s_:(List Part)) (v_:Part):bN Tryz.prog 226 [(sD (aH none 2 Part.cell s_)),(.agg [(cI v_.kind),(cI v_.index)])] [] (fun r=>(vI r)) (fun _=>[]) (pu s_ v_):=
  bO tT mX Tryz.func226 (
  .rg {fr:=[(0,1)],fz:=[1]} []<| .r<| .lp (σ:=Int) (β:=Unit) (0) [] [] ⟨[0,3,7],[],fun t8=>[(8,(vI t8))],fun t8=>[]⟩ ⟨[],[],fun _=>[],fun _=>[]⟩
  (fun t8=> .r<| .it (.r<| .a1 (Mx t8 s_)<| .r<| .it (.r<| .e (.done (.ret t8)))
  (.r<| .e (.next (k18 t8))))
  (.e (.done (.brk ()))))
  (fun _=> .r<| .e (-1)))
theorem jH (s_:(List Part)) (v_:Part):bN Tryz.prog 157 [(sD (aH none 2 Part.cell s_)),(.agg [(cI v_.kind),(cI v_.index)])] [] (fun r=>(vB r)) (fun _=>[]) (iD s_ v_):=
  bO tT mX Tryz.func157 (
  .rg {fr:=[(0,1)],fz:=[1]} []<| .cl 2 (uN s_ v_) fun r_=> .r<| .e (decide (0≤r_)))
theorem Ar (kz:Int) (x1:Int):bN Tryz.prog 158 [(sI kz),(sD (wT [(.int .i64 x1)] 0))] [] (fun r=>(vB r)) (fun _=>[]) (vU kz x1):=
  bO tT mX Tryz.func158 (
  .r<| .r<| .e (bif (decide (kz<0))then true else(decide (x1≤kz))))
section
variable (s_:(List Int)) (t8:Int)
abbrev wC:DV:=(aH none 1 (aA .i64) s_)
abbrev nD:=((0:Int)≤t8∧t8<(s_.length:Int))
end
theorem qm (s_:(List Int)) (f_:Int):bN Tryz.prog 205 [(sD (wC s_)),(sD (.fn 158 1 (mh [(wT [(.int .i64 f_)] 0)])))] [] (fun r=>(vI r)) (fun _=>[]) (j6 s_ f_):=
  bO tT mX Tryz.func205 (
  .r<| .r<| .lp (σ:=Int) (β:=Unit) (0) [] [] ⟨[0,1,7],[],fun t8=>[(8,(vI t8))],fun t8=>[]⟩ ⟨[],[],fun _=>[],fun _=>[]⟩
  (fun t8=> .r<| .it (.r<| .cl 5 (Ar (at' s_ t8.toNat) f_) fun r_=> .a1 (nD s_ t8)<| .rg {} [0,1]<| .it (.r<| .e (.done (.ret t8)))
  (.r<| .e (.next (k18 t8))))
  (.e (.done (.brk ()))))
  (fun _=> .r<| .e (-1)))
theorem mY (s_:(List Int)) (f_:Int):bN Tryz.prog 129 [(sD (wC s_)),(sD (.fn 158 1 (mh [(wT [(.int .i64 f_)] 0)])))] [] (fun r=>(vB r)) (fun _=>[]) (iV s_ f_):=
  bO tT mX Tryz.func129 (
  .r<| .cl 2 (qm s_ f_) fun r_=> .r<| .e (decide (0≤r_)))
section
variable (y:aj) (i:Int) (u0:Int)
abbrev Sr:DV:=(aH none 5 Source.cell y.plant.sources)
abbrev Pm:DV:=(aH none 1 af y.state.badLink)
abbrev PL:DV:=(aH none 1 af y.state.badSource)
abbrev Qo:DV:=(aH none 1 af y.state.badBus)
abbrev Tk:DV:=(aH none 3 Transfer.cell y.transfers)
abbrev AP:List CV:=[(cI y.plant.buses),(.d (Sr y)),(.d (aH none 6 Link.cell y.plant.links)),(.d (aH none 4 aO.cell y.plant.racks)),(.d (aH none 1 af y.state.closed)),(.d (aH none 1 af y.state.locked)),(.d (Pm y)),(.d (aH none 1 af y.state.on_)),(.d (PL y)),(.d (aH none 1 af y.state.earthed)),(.d (Qo y)),(.d (Tk y)),(.d (aH none 6 aC.cell y.jobs)),(cI y.people),(cB y.redundant)]
abbrev OI:=((0:Int)≤i∧i<(y.jobs.length:Int))
abbrev yG:=((at' y.jobs i.toNat).parts)
abbrev Q6:=((yG y i).length:Int)
abbrev Tv:=(at' (yG y i) u0.toNat)
abbrev Zl:List CV:=[(cI ((Tv y i u0).kind)),(cI ((Tv y i u0).index))]
abbrev Zq:List SV:=[(sD (.sl none 2 u0.toNat (ah Part.cell (yG y i)))),(.agg (Zl y i u0))]
abbrev YE:=(bif (bif (bif (bif (bif (bif (bif (bif (bif (bif (decide (1≤(Q6 y i)))then(decide ((Q6 y i)≤8))else false)then(decide (1≤((at' y.jobs i.toNat).hours)))else false)then(decide (((at' y.jobs i.toNat).hours)≤48))else false)then(decide (0≤((at' y.jobs i.toNat).from_)))else false)then(decide (1≤((at' y.jobs i.toNat).to_)))else false)then(decide (((at' y.jobs i.toNat).to_)≤48))else false)then(decide (((at' y.jobs i.toNat).from_)≤(IntKind.wrap .i64 (((at' y.jobs i.toNat).to_) - ((at' y.jobs i.toNat).hours)))))else false)then(decide (1≤((at' y.jobs i.toNat).people)))else false)then(decide (((at' y.jobs i.toNat).people)≤20))else false)then(decide ((((at' y.jobs i.toNat).after).length:Int)≤8))else false)
end
theorem DU (y:aj) (i:Int):bN Tryz.prog 84 [(.agg (AP y)),(sI i)] [] (fun r=>(vB r)) (fun _=>[]) (zU y i):=
  bO tT mX Tryz.func84 (
  .rg {fr:=[(0,7),(1,8)]} []<| .a1 (OI y i)<| .rg {fr:=[(5,9)],fz:=[8]} []<| .rg {fz:=[9]} []<| .lp (σ:=Int) (β:=Unit) (0) [] [] ⟨[3,5,14,15],[],fun u0=>[(16,(vI u0))],fun u0=>[]⟩ ⟨[3,5],[],fun _=>[],fun _=>[]⟩
  (fun u0=> .r<| .it (.a1 ((0:Int)≤u0∧u0<(Q6 y i))<| .rg {fr:=[(3,13)],fz:=[13]} []<| .cl 5 ⟨fun{r_} hr_=>((Fn.Uu (args:=[(sD (aH none 2 Part.cell (kU (yG y i) 0 u0.toNat))),(.agg (Zl y i u0))]) (args':=(Zq y i u0)) (hin:=[]) (hin':=[]) (jH (kU (yG y i) 0 u0.toNat) (Tv y i u0) hr_) ⟨mO.one (jG.d (dW.Wz (by first|rw [List.length_append,List.length_drop]|simp only [List.length_set,List.length_drop,dH]|exact List.length_replicate) (.inr rfl) (LP _ _ _ _))),mO.refl _,trivial⟩ trivial):Fn Tryz.prog 157 (Zq y i u0) [] (vB r_) [])⟩ fun r_=> .a1 ((0:Int)≤u0∧u0≤(Q6 y i))<| .rg {} [0,1]<| .it (.r<| .e (.done (.ret false)))
  (.r<| .e (.next (k18 u0))))
  (.e (.done (.brk ()))))
  (fun _=> .cg 65 [((YE y i),true)] (mY ((at' y.jobs i.toNat).after) i) fun u1=> .r<| .e (bif (YE y i)then(!u1)else false)))
theorem uU (s_:State):bN Tryz.prog 227 (ZJ s_) [] (fun r=>(.v (.agg [(.own 0 false r.closed.length),(.own 1 false r.locked.length),(.own 2 false r.badLink.length),(.own 3 false r.on_.length),(.own 4 false r.badSource.length),(.own 5 false r.earthed.length),(.own 6 false r.badBus.length)]))) (fun r=>[(0,some (bg 4 1 af r.closed)),(1,some (bg 4 1 af r.locked)),(2,some (bg 4 1 af r.badLink)),(3,some (bg 4 1 af r.on_)),(4,some (bg 4 1 af r.badSource)),(5,some (bg 4 1 af r.earthed)),(6,some (bg 4 1 af r.badBus)),(7,none)]) (uJ s_):=
  bO tT mX Tryz.func227 (
  .rg {fr:=[(0,10),(1,11)]} []<| .rg {an:=[(7, .cells)],fr:=[(7,12)]} []<| .ul 11<| .r<| .t<| .a1 ((0:Int)≤0∧0<(7:Int))<| .r<| .cl 4 (fw [(0,13)] ⟨fun h=>aN s_.closed h⟩) fun r_=> .r<| .r<| .im (.dp [1,2,12,13,14])<| .r<| .t<| .a1 ((0:Int)≤1∧1<(7:Int))<| .r<| .cl 4 (fw [(0,14)] ⟨fun h=>aN s_.locked h⟩) fun u0=> .r<| .r<| .im (.dp [1,2,12,13,14])<| .r<| .t<| .a1 ((0:Int)≤2∧2<(7:Int))<| .r<| .cl 4 (fw [(0,15)] ⟨fun h=>aN s_.badLink h⟩) fun u1=> .r<| .r<| .im (.dp [1,2,12,13,14])<| .r<| .t<| .a1 ((0:Int)≤3∧3<(7:Int))<| .r<| .cl 4 (fw [(0,16)] ⟨fun h=>aN s_.on_ h⟩) fun u2=> .r<| .r<| .im (.dp [1,2,12,13,14])<| .r<| .t<| .a1 ((0:Int)≤4∧4<(7:Int))<| .r<| .cl 4 (fw [(0,17)] ⟨fun h=>aN s_.badSource h⟩) fun u3=> .r<| .r<| .im (.dp [1,2,12,13,14])<| .r<| .t<| .a1 ((0:Int)≤5∧5<(7:Int))<| .r<| .cl 4 (fw [(0,18)] ⟨fun h=>aN s_.earthed h⟩) fun u4=> .r<| .r<| .im (.dp [1,2,12,13,14])<| .r<| .t<| .a1 ((0:Int)≤6∧6<(7:Int))<| .r<| .cl 4 (fw [(0,19)] ⟨fun h=>aN s_.badBus h⟩) fun u5=> .r<| .r<| .im (.dp [1,2,12,13,14])<| .r<| .f<| .r<| .en (⟨r_,u0,u1,u2,u3,u4,u5⟩:State) [] [(13,0),(14,1),(15,2),(16,3),(17,4),(18,5),(19,6),(11,7)])
section
variable (p:aF) (s_:State) (x:Part) (is:Bool) (r_:Int) (u0:State)
abbrev WH:List SV:=[(.agg (k9 p)),(.agg (UC s_)),(.agg [(cI x.kind),(cI x.index)]),(sB is)]
abbrev RF:=((⟨([]:List Bool),([]:List Bool),([]:List Bool),([]:List Bool),([]:List Bool),([]:List Bool),([]:List Bool)⟩:State),r_)
abbrev Mg:List CV:=[(.own 23 false u0.badBus.length)]
abbrev DL:=(PZ 1 (Mg u0))
abbrev DZ:List DV:=[(.int .i64 1),(.int .i64 2)]
abbrev D8:=(PZ 1 [(.own 23 false u0.badBus.length),(.own 21 false u0.badSource.length)])
abbrev D5:List DV:=[(.int .i64 1),(.int .i64 2),(.int .i64 3)]
abbrev DX:=(PZ 1 [(.own 23 false u0.badBus.length),(.own 21 false u0.badSource.length),(.own 19 false u0.badLink.length)])
abbrev Oe:List CV:=[(.own 21 false u0.badSource.length)]
abbrev Ox:List CV:=[(.own 19 false u0.badLink.length)]
end
theorem AY (p:aF) (s_:State) (x:Part) (is:Bool):bN Tryz.prog 159 (WH p s_ x is) [] (fun r=>(.bZ [(.agg [(.d (aH none 1 af r.1.closed)),(.d (aH none 1 af r.1.locked)),(.d (aH none 1 af r.1.badLink)),(.d (aH none 1 af r.1.on_)),(.d (aH none 1 af r.1.badSource)),(.d (aH none 1 af r.1.earthed)),(.d (aH none 1 af r.1.badBus))]),(sI r.2)])) (fun _=>[]) (uK p s_ x is):=
  bO tT mX Tryz.func159 (
  .rg {fr:=[(0,13),(1,14),(2,15),(3,16)],fz:=[13]} []<| .cl 2 (dL p s_) fun r_=> .r<| .r<| .it (.rg {fz:=[16]} []<| .e (RF r_))
  (.cl 1 (fw [(0,17),(1,18),(2,19),(3,20),(4,21),(5,22),(6,23),(7,24)] (uU s_)) fun u0=> .r<| .fk (dP x.kind 1) (.rg {an:=[(0, .map 0 (pG []) (PZ 1 []) []),(3, .map 1 (pG [(.int .i64 1)]) (DL u0) [23]),(6, .map 2 (pG DZ) (D8 u0) [23,21]),(9, .map 3 (pG D5) (DX u0) [23,21,19]),(13, .look true (Mg u0))],fr:=[(0,25)]} [.pf ⟨jE [some .i64] 1 1 0 (pG []) (PZ 1 []) [(.int .i64 1)] (Mg u0) [23] 1 (pG [(.int .i64 1)]) (DL u0),⟨(fun i hi=>absurd hi (Nat.not_lt_zero i)),(by intro i hi j hj;match i,j,hi,hj with|0,0,_,_=>exact bK.1 (show dD (CV.bJ (.own 23 false u0.badBus.length)) [23]=true from by kernel_rfl)),0,(fun i hi=>absurd hi (Nat.not_lt_zero i)), .inr ⟨rfl,rfl⟩,rfl,rfl,(fun i hi=>absurd hi (Nat.not_lt_zero i))⟩⟩, .pf ⟨jE [some .i64] 1 1 1 (pG [(.int .i64 1)]) (DL u0) [(.int .i64 2)] (Oe u0) [23,21] 2 (pG DZ) (D8 u0),⟨(by intro i hi;match i,hi with|0,_=>rfl),(by intro i hi j hj;match i,j,hi,hj with|0,0,_,_=>exact bK.1 (show dD (CV.bJ (.own 23 false u0.badBus.length)) [23,21]=true from by kernel_rfl)|1,0,_,_=>exact bK.1 (show dD (CV.bJ (.own 21 false u0.badSource.length)) [23,21]=true from by kernel_rfl)),1,(by intro i hi;match i,hi with|0,_=>rfl), .inr ⟨rfl,rfl⟩,rfl,rfl,(by intro i hi;match i,hi with|0,_=>exact fun _=> ⟨rfl,rfl⟩)⟩⟩, .pf ⟨jE [some .i64] 1 1 2 (pG DZ) (D8 u0) [(.int .i64 3)] (Ox u0) [23,21,19] 3 (pG D5) (DX u0),⟨(by intro i hi;match i,hi with|0,_=>rfl|1,_=>rfl),(by intro i hi j hj;match i,j,hi,hj with|0,0,_,_=>exact bK.1 (show dD (CV.bJ (.own 23 false u0.badBus.length)) [23,21,19]=true from by kernel_rfl)|1,0,_,_=>exact bK.1 (show dD (CV.bJ (.own 21 false u0.badSource.length)) [23,21,19]=true from by kernel_rfl)|2,0,_,_=>exact bK.1 (show dD (CV.bJ (.own 19 false u0.badLink.length)) [23,21,19]=true from by kernel_rfl)),2,(by intro i hi;match i,hi with|0,_=>rfl|1,_=>rfl), .inr ⟨rfl,rfl⟩,rfl,rfl,(by intro i hi;match i,hi with|0,_=>exact fun _=> ⟨rfl,rfl⟩|1,_=>exact fun _=> ⟨rfl,rfl⟩)⟩⟩, .m [0] [(dP x.kind 1)=true] (gF [some .i64] 1 1 3 (pG D5) (DX u0) [(.int .i64 x.kind)] [(.d nS)] true (Mg u0)) (fun⟨hb1,_⟩=> ⟨(by intro i hi;match i,hi with|0,_=>rfl|1,_=>rfl|2,_=>rfl), .inl ⟨rfl,0,by decide,congrArg some hb1,(fun i hi=>absurd hi (Nat.not_lt_zero i)),rfl⟩⟩)]<| .cl 5 (aL x.index 0 (IntKind.wrap .i64 ((u0.badBus.length:Int) - 1))) fun u1=> .r<| .it (.rg {fz:=[16]} []<| .e ((⟨([]:List Bool),([]:List Bool),([]:List Bool),([]:List Bool),([]:List Bool),([]:List Bool),([]:List Bool)⟩:State),14))
  (.a1 ((0:Int)≤x.index∧x.index<(u0.badBus.length:Int))<| .rg {an:=[(5, .arr 0 (ah af (u0.badBus.set x.index.toNat is)))]} [0, .t 0 x.index u0.badBus.length, .pf ⟨av u0.badBus.length 1 (bW (ah af u0.badBus) x.index.toNat 0 [(.bool is)]) (ah af (u0.badBus.set x.index.toNat is)),aR _ _ _ _ _ _ _ _ rfl (fun j hj=>(match j,hj with|0,_=>rfl))⟩]<| .im (.ll 23 u0.badBus (u0.badBus.set x.index.toNat is))<| .rg {fz:=[17,18,19,20,21,22,23]} []<| .fz [16]<| .e ((⟨u0.closed,u0.locked,u0.badLink,u0.on_,u0.badSource,u0.earthed,(u0.badBus.set x.index.toNat is)⟩:State),0)))
  (.fk (dP x.kind 2) (.rg {an:=[(0, .map 0 (pG []) (PZ 1 []) []),(3, .map 1 (pG [(.int .i64 1)]) (DL u0) [23]),(6, .map 2 (pG DZ) (D8 u0) [23,21]),(9, .map 3 (pG D5) (DX u0) [23,21,19]),(13, .look true (Oe u0))],fr:=[(0,25)]} [.pf ⟨jE [some .i64] 1 1 0 (pG []) (PZ 1 []) [(.int .i64 1)] (Mg u0) [23] 1 (pG [(.int .i64 1)]) (DL u0),⟨(fun i hi=>absurd hi (Nat.not_lt_zero i)),(by intro i hi j hj;match i,j,hi,hj with|0,0,_,_=>exact bK.1 (show dD (CV.bJ (.own 23 false u0.badBus.length)) [23]=true from by kernel_rfl)),0,(fun i hi=>absurd hi (Nat.not_lt_zero i)), .inr ⟨rfl,rfl⟩,rfl,rfl,(fun i hi=>absurd hi (Nat.not_lt_zero i))⟩⟩, .pf ⟨jE [some .i64] 1 1 1 (pG [(.int .i64 1)]) (DL u0) [(.int .i64 2)] (Oe u0) [23,21] 2 (pG DZ) (D8 u0),⟨(by intro i hi;match i,hi with|0,_=>rfl),(by intro i hi j hj;match i,j,hi,hj with|0,0,_,_=>exact bK.1 (show dD (CV.bJ (.own 23 false u0.badBus.length)) [23,21]=true from by kernel_rfl)|1,0,_,_=>exact bK.1 (show dD (CV.bJ (.own 21 false u0.badSource.length)) [23,21]=true from by kernel_rfl)),1,(by intro i hi;match i,hi with|0,_=>rfl), .inr ⟨rfl,rfl⟩,rfl,rfl,(by intro i hi;match i,hi with|0,_=>exact fun _=> ⟨rfl,rfl⟩)⟩⟩, .pf ⟨jE [some .i64] 1 1 2 (pG DZ) (D8 u0) [(.int .i64 3)] (Ox u0) [23,21,19] 3 (pG D5) (DX u0),⟨(by intro i hi;match i,hi with|0,_=>rfl|1,_=>rfl),(by intro i hi j hj;match i,j,hi,hj with|0,0,_,_=>exact bK.1 (show dD (CV.bJ (.own 23 false u0.badBus.length)) [23,21,19]=true from by kernel_rfl)|1,0,_,_=>exact bK.1 (show dD (CV.bJ (.own 21 false u0.badSource.length)) [23,21,19]=true from by kernel_rfl)|2,0,_,_=>exact bK.1 (show dD (CV.bJ (.own 19 false u0.badLink.length)) [23,21,19]=true from by kernel_rfl)),2,(by intro i hi;match i,hi with|0,_=>rfl|1,_=>rfl), .inr ⟨rfl,rfl⟩,rfl,rfl,(by intro i hi;match i,hi with|0,_=>exact fun _=> ⟨rfl,rfl⟩|1,_=>exact fun _=> ⟨rfl,rfl⟩)⟩⟩, .m [0,1] [(dP x.kind 2)=true,(dP x.kind 1)=false] (gF [some .i64] 1 1 3 (pG D5) (DX u0) [(.int .i64 x.kind)] [(.d nS)] true (Oe u0)) (fun⟨hb3,hb1,_⟩=> ⟨(by intro i hi;match i,hi with|0,_=>rfl|1,_=>rfl|2,_=>rfl), .inl ⟨rfl,1,by decide,congrArg some hb3,(by intro i hi;match i,hi with|0,_=>exact congrArg some hb1),rfl⟩⟩)]<| .cl 5 (aL x.index 0 (IntKind.wrap .i64 ((u0.badSource.length:Int) - 1))) fun u2=> .r<| .it (.rg {fz:=[16]} []<| .e ((⟨([]:List Bool),([]:List Bool),([]:List Bool),([]:List Bool),([]:List Bool),([]:List Bool),([]:List Bool)⟩:State),14))
  (.a1 ((0:Int)≤x.index∧x.index<(u0.badSource.length:Int))<| .rg {an:=[(5, .arr 0 (ah af (u0.badSource.set x.index.toNat is)))]} [0, .t 0 x.index u0.badSource.length, .pf ⟨av u0.badSource.length 1 (bW (ah af u0.badSource) x.index.toNat 0 [(.bool is)]) (ah af (u0.badSource.set x.index.toNat is)),aR _ _ _ _ _ _ _ _ rfl (fun j hj=>(match j,hj with|0,_=>rfl))⟩]<| .im (.ll 21 u0.badSource (u0.badSource.set x.index.toNat is))<| .rg {fz:=[17,18,19,20,21,22,23]} []<| .fz [16]<| .e ((⟨u0.closed,u0.locked,u0.badLink,u0.on_,(u0.badSource.set x.index.toNat is),u0.earthed,u0.badBus⟩:State),0)))
  (.fk (dP x.kind 3) (.rg {an:=[(0, .map 0 (pG []) (PZ 1 []) []),(3, .map 1 (pG [(.int .i64 1)]) (DL u0) [23]),(6, .map 2 (pG DZ) (D8 u0) [23,21]),(9, .map 3 (pG D5) (DX u0) [23,21,19]),(13, .look true (Ox u0))],fr:=[(0,25)]} [.pf ⟨jE [some .i64] 1 1 0 (pG []) (PZ 1 []) [(.int .i64 1)] (Mg u0) [23] 1 (pG [(.int .i64 1)]) (DL u0),⟨(fun i hi=>absurd hi (Nat.not_lt_zero i)),(by intro i hi j hj;match i,j,hi,hj with|0,0,_,_=>exact bK.1 (show dD (CV.bJ (.own 23 false u0.badBus.length)) [23]=true from by kernel_rfl)),0,(fun i hi=>absurd hi (Nat.not_lt_zero i)), .inr ⟨rfl,rfl⟩,rfl,rfl,(fun i hi=>absurd hi (Nat.not_lt_zero i))⟩⟩, .pf ⟨jE [some .i64] 1 1 1 (pG [(.int .i64 1)]) (DL u0) [(.int .i64 2)] (Oe u0) [23,21] 2 (pG DZ) (D8 u0),⟨(by intro i hi;match i,hi with|0,_=>rfl),(by intro i hi j hj;match i,j,hi,hj with|0,0,_,_=>exact bK.1 (show dD (CV.bJ (.own 23 false u0.badBus.length)) [23,21]=true from by kernel_rfl)|1,0,_,_=>exact bK.1 (show dD (CV.bJ (.own 21 false u0.badSource.length)) [23,21]=true from by kernel_rfl)),1,(by intro i hi;match i,hi with|0,_=>rfl), .inr ⟨rfl,rfl⟩,rfl,rfl,(by intro i hi;match i,hi with|0,_=>exact fun _=> ⟨rfl,rfl⟩)⟩⟩, .pf ⟨jE [some .i64] 1 1 2 (pG DZ) (D8 u0) [(.int .i64 3)] (Ox u0) [23,21,19] 3 (pG D5) (DX u0),⟨(by intro i hi;match i,hi with|0,_=>rfl|1,_=>rfl),(by intro i hi j hj;match i,j,hi,hj with|0,0,_,_=>exact bK.1 (show dD (CV.bJ (.own 23 false u0.badBus.length)) [23,21,19]=true from by kernel_rfl)|1,0,_,_=>exact bK.1 (show dD (CV.bJ (.own 21 false u0.badSource.length)) [23,21,19]=true from by kernel_rfl)|2,0,_,_=>exact bK.1 (show dD (CV.bJ (.own 19 false u0.badLink.length)) [23,21,19]=true from by kernel_rfl)),2,(by intro i hi;match i,hi with|0,_=>rfl|1,_=>rfl), .inr ⟨rfl,rfl⟩,rfl,rfl,(by intro i hi;match i,hi with|0,_=>exact fun _=> ⟨rfl,rfl⟩|1,_=>exact fun _=> ⟨rfl,rfl⟩)⟩⟩, .m [0,2,1] [(dP x.kind 3)=true,(dP x.kind 1)=false,(dP x.kind 2)=false] (gF [some .i64] 1 1 3 (pG D5) (DX u0) [(.int .i64 x.kind)] [(.d nS)] true (Ox u0)) (fun⟨hb5,hb1,hb3,_⟩=> ⟨(by intro i hi;match i,hi with|0,_=>rfl|1,_=>rfl|2,_=>rfl), .inl ⟨rfl,2,by decide,congrArg some hb5,(by intro i hi;match i,hi with|0,_=>exact congrArg some hb1|1,_=>exact congrArg some hb3),rfl⟩⟩)]<| .cl 5 (aL x.index 0 (IntKind.wrap .i64 ((u0.badLink.length:Int) - 1))) fun u3=> .r<| .it (.rg {fz:=[16]} []<| .e ((⟨([]:List Bool),([]:List Bool),([]:List Bool),([]:List Bool),([]:List Bool),([]:List Bool),([]:List Bool)⟩:State),14))
  (.a1 ((0:Int)≤x.index∧x.index<(u0.badLink.length:Int))<| .rg {an:=[(5, .arr 0 (ah af (u0.badLink.set x.index.toNat is)))]} [0, .t 0 x.index u0.badLink.length, .pf ⟨av u0.badLink.length 1 (bW (ah af u0.badLink) x.index.toNat 0 [(.bool is)]) (ah af (u0.badLink.set x.index.toNat is)),aR _ _ _ _ _ _ _ _ rfl (fun j hj=>(match j,hj with|0,_=>rfl))⟩]<| .im (.ll 19 u0.badLink (u0.badLink.set x.index.toNat is))<| .rg {fz:=[17,18,19,20,21,22,23]} []<| .fz [16]<| .e ((⟨u0.closed,u0.locked,(u0.badLink.set x.index.toNat is),u0.on_,u0.badSource,u0.earthed,u0.badBus⟩:State),0)))
  (.rg {an:=[(0, .map 0 (pG []) (PZ 1 []) []),(3, .map 1 (pG [(.int .i64 1)]) (DL u0) [23]),(6, .map 2 (pG DZ) (D8 u0) [23,21]),(9, .map 3 (pG D5) (DX u0) [23,21,19]),(13, .look false [(.d nS)])],fr:=[(0,25)]} [.pf ⟨jE [some .i64] 1 1 0 (pG []) (PZ 1 []) [(.int .i64 1)] (Mg u0) [23] 1 (pG [(.int .i64 1)]) (DL u0),⟨(fun i hi=>absurd hi (Nat.not_lt_zero i)),(by intro i hi j hj;match i,j,hi,hj with|0,0,_,_=>exact bK.1 (show dD (CV.bJ (.own 23 false u0.badBus.length)) [23]=true from by kernel_rfl)),0,(fun i hi=>absurd hi (Nat.not_lt_zero i)), .inr ⟨rfl,rfl⟩,rfl,rfl,(fun i hi=>absurd hi (Nat.not_lt_zero i))⟩⟩, .pf ⟨jE [some .i64] 1 1 1 (pG [(.int .i64 1)]) (DL u0) [(.int .i64 2)] (Oe u0) [23,21] 2 (pG DZ) (D8 u0),⟨(by intro i hi;match i,hi with|0,_=>rfl),(by intro i hi j hj;match i,j,hi,hj with|0,0,_,_=>exact bK.1 (show dD (CV.bJ (.own 23 false u0.badBus.length)) [23,21]=true from by kernel_rfl)|1,0,_,_=>exact bK.1 (show dD (CV.bJ (.own 21 false u0.badSource.length)) [23,21]=true from by kernel_rfl)),1,(by intro i hi;match i,hi with|0,_=>rfl), .inr ⟨rfl,rfl⟩,rfl,rfl,(by intro i hi;match i,hi with|0,_=>exact fun _=> ⟨rfl,rfl⟩)⟩⟩, .pf ⟨jE [some .i64] 1 1 2 (pG DZ) (D8 u0) [(.int .i64 3)] (Ox u0) [23,21,19] 3 (pG D5) (DX u0),⟨(by intro i hi;match i,hi with|0,_=>rfl|1,_=>rfl),(by intro i hi j hj;match i,j,hi,hj with|0,0,_,_=>exact bK.1 (show dD (CV.bJ (.own 23 false u0.badBus.length)) [23,21,19]=true from by kernel_rfl)|1,0,_,_=>exact bK.1 (show dD (CV.bJ (.own 21 false u0.badSource.length)) [23,21,19]=true from by kernel_rfl)|2,0,_,_=>exact bK.1 (show dD (CV.bJ (.own 19 false u0.badLink.length)) [23,21,19]=true from by kernel_rfl)),2,(by intro i hi;match i,hi with|0,_=>rfl|1,_=>rfl), .inr ⟨rfl,rfl⟩,rfl,rfl,(by intro i hi;match i,hi with|0,_=>exact fun _=> ⟨rfl,rfl⟩|1,_=>exact fun _=> ⟨rfl,rfl⟩)⟩⟩, .m [2,1,0] [(dP x.kind 1)=false,(dP x.kind 2)=false,(dP x.kind 3)=false] (gF [some .i64] 1 1 3 (pG D5) (DX u0) [(.int .i64 x.kind)] [(.d nS)] false [(.d nS)]) (fun⟨hb1,hb3,hb5,_⟩=> ⟨(by intro i hi;match i,hi with|0,_=>rfl|1,_=>rfl|2,_=>rfl), .inr ⟨rfl,(by intro i hi;match i,hi with|0,_=>exact congrArg some hb1|1,_=>exact congrArg some hb3|2,_=>exact congrArg some hb5), .refl _⟩⟩)]<| .cl 5 (aL x.index 0 (-1)) fun u4=> .r<| .it (.rg {fz:=[16]} []<| .e ((⟨([]:List Bool),([]:List Bool),([]:List Bool),([]:List Bool),([]:List Bool),([]:List Bool),([]:List Bool)⟩:State),14))
  (.no))))))
section
variable (r_:Int)
abbrev XF:=((⟨([]:List Bool),([]:List Bool),([]:List Bool),([]:List Bool),([]:List Bool),([]:List Bool),([]:List Bool)⟩:State),([]:List Int),r_)
end
theorem lF (p:aF) (s_:State) (l:(List Transfer)):bN Tryz.prog 83 (ZH p s_ l) [] (fun r=>(.bZ [(.agg [(.own 0 false r.1.closed.length),(.own 1 false r.1.locked.length),(.own 2 false r.1.badLink.length),(.own 3 false r.1.on_.length),(.own 4 false r.1.badSource.length),(.own 5 false r.1.earthed.length),(.own 6 false r.1.badBus.length)]),(.one (.own 7 false r.2.1.length)),(sI r.2.2)])) (fun r=>[(0,some (bg 4 1 af r.1.closed)),(1,some (bg 4 1 af r.1.locked)),(2,some (bg 4 1 af r.1.badLink)),(3,some (bg 4 1 af r.1.on_)),(4,some (bg 4 1 af r.1.badSource)),(5,some (bg 4 1 af r.1.earthed)),(6,some (bg 4 1 af r.1.badBus)),(7,some (bg 3 1 (aA .i64) r.2.1)),(8,none)]) (oU p s_ l):=
  bO tT mX Tryz.func83 (
  .rg {fr:=[(0,18),(1,19),(2,20)],fz:=[18,19]} []<| .cl 3 (iO p s_ l) fun r_=> .r<| .r<| .it (.r<| .im (.ad 7 21 3 1 (ah (aA .i64) ([]:List Int)))<| .im (.xS 20 0 22 4 1 (ah af ([]:List Bool)))<| .im (.xS 20 1 23 4 1 (ah af ([]:List Bool)))<| .im (.xS 20 2 24 4 1 (ah af ([]:List Bool)))<| .im (.xS 20 3 25 4 1 (ah af ([]:List Bool)))<| .im (.xS 20 4 26 4 1 (ah af ([]:List Bool)))<| .im (.xS 20 5 27 4 1 (ah af ([]:List Bool)))<| .im (.xS 20 6 28 4 1 (ah af ([]:List Bool)))<| .en (XF r_) [] [(22,0),(23,1),(24,2),(25,3),(26,4),(27,5),(28,6),(21,7),(20,8)])
  (.cl 1 (fw [(0,29),(1,30),(2,31),(3,32),(4,33),(5,34),(6,35),(7,36)] (uL s_)) fun u0=> .rg {fr:=[(2,37)]} []<| .rg {fr:=[(0,38)]} []<| .im (.xS 38 0 39 3 1 (ah (aA .i64) ([]:List Int)))<| .cl 3 (fw [(0,29),(1,30),(2,31),(3,32),(4,33),(5,34),(6,35),(7,40)] (vk p u0 l)) fun u1=> .r<| .cl 0 (fw [(0,41),(1,40),(2,37),(3,38),(4,29),(5,30),(6,31),(7,32),(8,33),(9,34),(10,35),(11,39),(12,42),(13,43)] (xu u1.1 u1.2.1 u1.2.2.1 u1.2.2.2.1 u1.2.2.2.2.1 u0 u0 ([]:List Int))) fun u2=> .rf 41 [10,11] [] none 0 []<| .r<| .en ((⟨u2.1.closed,u0.locked,u0.badLink,u0.on_,u0.badSource,u0.earthed,u0.badBus⟩:State),u2.2.2,0) [] [(42,0),(30,1),(31,2),(32,3),(33,4),(34,5),(35,6),(43,7),(20,8)]))
theorem mI (p:aF) (s_:State) (x:Part):bN Tryz.prog 85 [(.agg (k9 p)),(.agg (UC s_)),(.agg [(cI x.kind),(cI x.index)])] [] (fun r=>(.bZ [(.agg [(.d (aH none 1 af r.1.closed)),(.d (aH none 1 af r.1.locked)),(.d (aH none 1 af r.1.badLink)),(.d (aH none 1 af r.1.on_)),(.d (aH none 1 af r.1.badSource)),(.d (aH none 1 af r.1.earthed)),(.d (aH none 1 af r.1.badBus))]),(sI r.2)])) (fun _=>[]) (qp p s_ x):=
  bO tT mX Tryz.func85 (
  .rg {fr:=[(0,4),(1,5),(2,6),(3,7)],fz:=[4,5,6]} []<| .cl 3 (AY p s_ x true) fun r_=> .r<| .en (r_.1,r_.2) [7] [])
section
variable (y:aj)
abbrev QG:List SV:=[(.agg (AP y))]
end
theorem gJ (y:aj):bN Tryz.prog 24 (QG y) [] (fun r=>(vI r)) (fun _=>[]) (iJ y):=
  bO tT mX Tryz.func24 (
  .rg {fr:=[(0,47)]} []<| .cl 6 (fw [(0,48),(1,49),(2,50),(3,51),(4,52),(5,53),(6,54),(7,55),(8,56)] (lF y.plant y.state y.transfers)) fun r_=> .rg {fr:=[(11,57)]} []<| .r<| .it (.r<| .e r_.2.2)
  (.r<| .it (.r<| .e 2)
  (.rg {fz:=[47]} []<| .lp (σ:=Int) (β:=Unit) (0) [] [] ⟨[1,31,32],[],fun u0=>[(33,(vI u0))],fun u0=>[]⟩ ⟨[1],[],fun _=>[],fun _=>[]⟩
  (fun u0=> .r<| .it (.a1 (OI y u0)<| .rg {fr:=[(3,85)]} []<| .cl 2 (DU y u0) fun u3=> .r<| .it (.r<| .e (.done (.ret 120)))
  (.r<| .lp (σ:=Int) (β:=Unit) (0) [] [] ⟨[1,31,32,33,43,44],[],fun u1=>[(45,(vI u1))],fun u1=>[]⟩ ⟨[1,31,32,33],[],fun _=>[],fun _=>[]⟩
  (fun u1=> .r<| .it (.a1 ((0:Int)≤u1∧u1<(Q6 y u0))<| .rg {fr:=[(2,92)],fz:=[92]} []<| .cl 5 (mI y.plant y.state (Tv y u0 u1)) fun u2=> .rg {fr:=[(9,93)]} []<| .r<| .it (.r<| .e (.done (.ret (.done (.ret u2.2)))))
  (.r<| .e (.next (k18 u1))))
  (.e (.done (.brk ()))))
  (fun _=> .r<| .e (.next (k18 u0)))))
  (.e (.done (.brk ()))))
  (fun _=> .r<| .it (.r<| .e 1)
  (.r<| .e 0)))))
theorem pz (l:(List Int)):bN Tryz.prog 58 [(sD (wC l))] [] (fun r=>(vD (aH none 1 (aA .i64) r))) (fun _=>[]) (vQ l):=
  bO tT mX Tryz.func58 (
  .r<| .r<| .a2 (l.length*8≤140737488355328) (l.length≤4611686018427387904)<| .rg {an:=[(2, .arr l.length (ah (aA .i64) l))],fr:=[(2,1)],fz:=[1]} [0,1, .e (l.length), .pf ⟨av l.length 1 (ah (aA .i64) l) (ah (aA .i64) l),bI _ _ _⟩]<| .e l)
theorem tO (l:(List lI)):bN Tryz.prog 275 [(sD (aH none 2 lI.cell l))] [] (fun r=>(vO 0 false r.length)) (fun r=>[(0,some (bg 282 2 lI.cell r))]) (tu l):=
  bO tT mX Tryz.func275 (
  .r<| .r<| .a2 (l.length*16≤140737488355328) (l.length≤4611686018427387904)<| .rg {an:=[(2, .arr l.length (ah lI.cell l))],fr:=[(2,1)]} [0,1, .e (l.length), .pf ⟨av l.length 2 (ah lI.cell l) (ah lI.cell l),bI _ _ _⟩]<| .en l [] [(1,0)])
theorem AA (x:Link):bN Tryz.prog 228 [(.agg (k19 x))] [] (fun r=>(.v (.agg [(cI r.a),(cI r.b),(cI r.kind),(cI r.most),(cI r.ohm),(.d (aH none 2 lI.cell r.trip))]))) (fun _=>[]) (vv x):=
  bO tT mX Tryz.func228 (
  .rg {fr:=[(0,3),(1,4)]} []<| .cl 12 (fw [(0,5)] (tO x.trip)) fun r_=> .rg {fz:=[5]} []<| .fz [4]<| .e (⟨x.a,x.b,x.kind,x.most,x.ohm,r_⟩:Link))
theorem rA (l:(List Source)):bN Tryz.prog 160 [(sD (k12 l))] [] (fun r=>(vO 0 false r.length)) (fun r=>[(0,some (bg 38 5 Source.cell r))]) (o9 l):=
  bO tT mX Tryz.func160 (
  .r<| .r<| .a2 (l.length*40≤140737488355328) (l.length≤4611686018427387904)<| .rg {an:=[(2, .arr l.length (ah Source.cell l))],fr:=[(2,1)]} [0,1, .e (l.length), .pf ⟨av l.length 5 (ah Source.cell l) (ah Source.cell l),bI _ _ _⟩]<| .en l [] [(1,0)])
theorem uy (l:(List Link)):bN Tryz.prog 161 [(sD (aH none 6 Link.cell l))] [] (fun r=>(vO 0 false r.length)) (fun r=>[(0,some (bg 35 6 Link.cell r))]) (tq l):=
  bO tT mX Tryz.func161 (
  .r<| .r<| .r<| .im (.ad 3 16 35 6 (ah Link.cell ([]:List Link)))<| .lp (σ:=((List Link) × Int)) (β:=(List Link)) (([]:List Link),0) [] [(16,9)] ⟨[0],[],fun(u0,i)=>[(3,(vO 9 false u0.length)),(4,(vI i))],fun(u0,i)=>[(9,some (bg 35 6 Link.cell u0))]⟩ ⟨[],[],fun u1=>[(3,(vO 9 false u1.length))],fun u1=>[(9,some (bg 35 6 Link.cell u1))]⟩
  (fun(u0,i)=> .r<| .it (.cl 5 (AA (at' l i.toNat)) fun r_=> .a3 ((0:Int)≤i∧i<(l.length:Int)) ((u0.length+[r_].length)*64≤140737488355328) (u0.length+[r_].length≤4611686018427387904)<| .rg {an:=[(6, .arr [r_].length (ah Link.cell [r_])),(7, .arr (u0++[r_]).length (ah Link.cell (u0++[r_])))],fr:=[(6,14),(7,15)]} [0,3, .pf ⟨[r_].length=1,rfl⟩, .pf ⟨av 1 6 (eO 6 [(.int .i64 r_.a),(.int .i64 r_.b),(.int .i64 r_.kind),(.int .i64 r_.most),(.int .i64 r_.ohm),(aH none 2 lI.cell r_.trip)]) (ah Link.cell [r_]),(by intro i hi j hj;match i,j,hi,hj with|0,0,_,_=>rfl|0,1,_,_=>rfl|0,2,_,_=>rfl|0,3,_,_=>rfl|0,4,_,_=>rfl|0,5,_,_=>rfl)⟩, .e (u0.length),1,2, .pf ⟨(u0++[r_]).length=u0.length+[r_].length,List.length_append⟩, .pf ⟨av (u0.length+[r_].length) 6 (dQ (ah Link.cell u0) u0.length (ah Link.cell [r_])) (ah Link.cell (u0++[r_])),aW _ _ _ _⟩]<| .r<| .en (.next ((u0++[r_]),(k18 i))) [] [(15,9)])
  (.e (.done (.brk u0))))
  (fun u1=> .r<| .en u1 [] [(9,0)]))
theorem uz (l:(List aO)):bN Tryz.prog 162 [(sD (aH none 4 aO.cell l))] [] (fun r=>(vO 0 false r.length)) (fun r=>[(0,some (bg 147 4 aO.cell r))]) (sZ l):=
  bO tT mX Tryz.func162 (
  .r<| .r<| .a2 (l.length*32≤140737488355328) (l.length≤4611686018427387904)<| .rg {an:=[(2, .arr l.length (ah aO.cell l))],fr:=[(2,1)]} [0,1, .e (l.length), .pf ⟨av l.length 4 (ah aO.cell l) (ah aO.cell l),bI _ _ _⟩]<| .en l [] [(1,0)])
theorem aQ (l:(List Bool)):bN Tryz.prog 163 [(sD (aH none 1 af l))] [] (fun r=>(vO 0 false r.length)) (fun r=>[(0,some (bg 4 1 af r))]) (dz l):=
  bO tT mX Tryz.func163 (
  .r<| .r<| .a2 (l.length*1≤140737488355328) (l.length≤4611686018427387904)<| .rg {an:=[(2, .arr l.length (ah af l))],fr:=[(2,1)]} [0,1, .e (l.length), .pf ⟨av l.length 1 (ah af l) (ah af l),bI _ _ _⟩]<| .en l [] [(1,0)])
theorem yI (x:State):bN Tryz.prog 87 (ZJ x) [] (fun r=>(.v (.agg [(.d (aH none 1 af r.closed)),(.d (aH none 1 af r.locked)),(.d (aH none 1 af r.badLink)),(.d (aH none 1 af r.on_)),(.d (aH none 1 af r.badSource)),(.d (aH none 1 af r.earthed)),(.d (aH none 1 af r.badBus))]))) (fun _=>[]) (gK x):=
  bO tT mX Tryz.func87 (
  .rg {fr:=[(0,9),(1,10)],fz:=[9]} []<| .cl 2 (fw [(0,11)] (aQ x.closed)) fun r_=> .cl 5 (fw [(0,12)] (aQ x.locked)) fun u0=> .cl 8 (fw [(0,13)] (aQ x.badLink)) fun u1=> .cl 11 (fw [(0,14)] (aQ x.on_)) fun u2=> .cl 14 (fw [(0,15)] (aQ x.badSource)) fun u3=> .cl 17 (fw [(0,16)] (aQ x.earthed)) fun u4=> .cl 20 (fw [(0,17)] (aQ x.badBus)) fun u5=> .rg {fz:=[11,12,13,14,15,16,17]} []<| .fz [10]<| .e (⟨r_,u0,u1,u2,u3,u4,u5⟩:State))
theorem kF (x:aF):bN Tryz.prog 86 (k8 x) [] (fun r=>(.v (.agg [(cI r.buses),(.own 0 false r.sources.length),(.own 1 false r.links.length),(.own 2 false r.racks.length)]))) (fun r=>[(0,some (bg 38 5 Source.cell r.sources)),(1,some (bg 35 6 Link.cell r.links)),(2,some (bg 147 4 aO.cell r.racks)),(3,none)]) (tF x):=
  bO tT mX Tryz.func86 (
  .rg {fr:=[(0,5),(1,6)]} []<| .cl 4 (fw [(0,7)] (rA x.sources)) fun r_=> .cl 7 (fw [(0,8)] (uy x.links)) fun u0=> .cl 10 (fw [(0,9)] (uz x.racks)) fun u1=> .r<| .en (⟨x.buses,r_,u0,u1⟩:aF) [] [(7,0),(8,1),(9,2),(6,3)])
theorem kL (x:State):bN Tryz.prog 87 (ZJ x) [] (fun r=>(.v (.agg [(.own 0 false r.closed.length),(.own 1 false r.locked.length),(.own 2 false r.badLink.length),(.own 3 false r.on_.length),(.own 4 false r.badSource.length),(.own 5 false r.earthed.length),(.own 6 false r.badBus.length)]))) (fun r=>[(0,some (bg 4 1 af r.closed)),(1,some (bg 4 1 af r.locked)),(2,some (bg 4 1 af r.badLink)),(3,some (bg 4 1 af r.on_)),(4,some (bg 4 1 af r.badSource)),(5,some (bg 4 1 af r.earthed)),(6,some (bg 4 1 af r.badBus)),(7,none)]) (gK x):=
  bO tT mX Tryz.func87 (
  .rg {fr:=[(0,9),(1,10)],fz:=[9]} []<| .cl 2 (fw [(0,11)] (aQ x.closed)) fun r_=> .cl 5 (fw [(0,12)] (aQ x.locked)) fun u0=> .cl 8 (fw [(0,13)] (aQ x.badLink)) fun u1=> .cl 11 (fw [(0,14)] (aQ x.on_)) fun u2=> .cl 14 (fw [(0,15)] (aQ x.badSource)) fun u3=> .cl 17 (fw [(0,16)] (aQ x.earthed)) fun u4=> .cl 20 (fw [(0,17)] (aQ x.badBus)) fun u5=> .r<| .en (⟨r_,u0,u1,u2,u3,u4,u5⟩:State) [] [(11,0),(12,1),(13,2),(14,3),(15,4),(16,5),(17,6),(10,7)])
theorem gU (l:(List Part)):bN Tryz.prog 88 [(sD (aH none 2 Part.cell l))] [] (fun r=>(vO 0 false r.length)) (fun r=>[(0,some (bg 78 2 Part.cell r))]) (mo l):=
  bO tT mX Tryz.func88 (
  .r<| .r<| .a2 (l.length*16≤140737488355328) (l.length≤4611686018427387904)<| .rg {an:=[(2, .arr l.length (ah Part.cell l))],fr:=[(2,1)]} [0,1, .e (l.length), .pf ⟨av l.length 2 (ah Part.cell l) (ah Part.cell l),bI _ _ _⟩]<| .en l [] [(1,0)])
section
variable (y:bE) (r_:aF) (u0:State) (u1:(List Transfer)) (i:Int) (u5:(List Transfer)) (u2:(List aC)) (i1:Int) (u3:(List Part)) (u4:(List Int))
abbrev Fu:DV:=(aH none 5 Source.cell y.plant.sources)
abbrev F8:DV:=(aH none 6 Link.cell y.plant.links)
abbrev EU:DV:=(aH none 4 aO.cell y.plant.racks)
abbrev Gp:DV:=(aH none 1 af y.state.closed)
abbrev Er:DV:=(aH none 1 af y.state.locked)
abbrev Fs:DV:=(aH none 1 af y.state.badLink)
abbrev FD:DV:=(aH none 1 af y.state.on_)
abbrev Gq:DV:=(aH none 1 af y.state.badSource)
abbrev Gh:DV:=(aH none 1 af y.state.earthed)
abbrev FE:DV:=(aH none 1 af y.state.badBus)
abbrev Fz:DV:=(aH none 3 Transfer.cell y.transfers)
abbrev Pt:List CV:=[(cI y.plant.buses),(.d (Fu y)),(.d (F8 y)),(.d (EU y)),(.d (Gp y)),(.d (Er y)),(.d (Fs y)),(.d (FD y)),(.d (Gq y)),(.d (Gh y)),(.d (FE y)),(.d (Fz y)),(.d (aH none 6 aC.cell y.jobs)),(cI y.people),(cB y.redundant)]
abbrev Pg:List SV:=[(.agg (Pt y))]
abbrev WR:=(fw [(0,45),(1,46),(2,47),(3,48),(4,49),(5,50),(6,51),(7,52)] (kL y.state))
abbrev SF:List (Nat × Option Ob):=[(53,some (.cells 73 [(cI r_.buses),(.own 41 false r_.sources.length),(.own 42 false r_.links.length),(.own 43 false r_.racks.length),(.own 45 false u0.closed.length),(.own 46 false u0.locked.length),(.own 47 false u0.badLink.length),(.own 48 false u0.on_.length),(.own 49 false u0.badSource.length),(.own 50 false u0.earthed.length),(.own 51 false u0.badBus.length),(.own 55 false u1.length),(.d nS),(cI y.people),(cB y.redundant)])),(55,some (bg 190 3 Transfer.cell u1))]
abbrev uH:=(at' y.transfers i.toNat)
abbrev NN:=(ah Transfer.cell [(uH y i)])
abbrev LD:=(u1++[(uH y i)])
abbrev R4:=(ah Transfer.cell (LD y u1 i))
abbrev YW:=(eO 3 [(.int .i64 ((uH y i).watch)),(.int .i64 ((uH y i).open_)),(.int .i64 ((uH y i).close))])
abbrev TP:List (Nat × Option Ob):=[(53,some (.cells 73 [(cI r_.buses),(.own 41 false r_.sources.length),(.own 42 false r_.links.length),(.own 43 false r_.racks.length),(.own 45 false u0.closed.length),(.own 46 false u0.locked.length),(.own 47 false u0.badLink.length),(.own 48 false u0.on_.length),(.own 49 false u0.badSource.length),(.own 50 false u0.earthed.length),(.own 51 false u0.badBus.length),(.own 55 false u5.length),(.own 66 false u2.length),(cI y.people),(cB y.redundant)])),(66,some (bg 185 6 aC.cell u2))]
abbrev Mk:=((0:Int)≤i1∧i1<(y.jobs.length:Int))
abbrev GA:=(⟨u3,(at' y.jobs i1.toNat).hours,(at' y.jobs i1.toNat).from_,(at' y.jobs i1.toNat).to_,(at' y.jobs i1.toNat).people,u4⟩:aC)
abbrev Wm:=(u2.length+[(GA y i1 u3 u4)].length)
abbrev XQ:=((Wm y u2 i1 u3 u4)*80≤140737488355328)
abbrev Xq:=(u2.length+[(GA y i1 u3 u4)].length≤4611686018427387904)
abbrev PO:=(ah aC.cell [(GA y i1 u3 u4)])
abbrev NJ:=(u2++[(GA y i1 u3 u4)])
abbrev RL:=(ah aC.cell (NJ y u2 i1 u3 u4))
abbrev WZ:=(eO 6 [(aH none 2 Part.cell u3),(.int .i64 ((at' y.jobs i1.toNat).hours)),(.int .i64 ((at' y.jobs i1.toNat).from_)),(.int .i64 ((at' y.jobs i1.toNat).to_)),(.int .i64 ((at' y.jobs i1.toNat).people)),(wC u4)])
abbrev Yu:=(dQ (ah aC.cell u2) u2.length (PO y i1 u3 u4))
abbrev XC:=((NJ y u2 i1 u3 u4),(k18 i1))
end
theorem ET (y:bE):bN Tryz.prog 25 (Pg y) [] (fun r=>(.v (.agg [(cI r.plant.buses),(.d (aH none 5 Source.cell r.plant.sources)),(.d (aH none 6 Link.cell r.plant.links)),(.d (aH none 4 aO.cell r.plant.racks)),(.d (aH none 1 af r.state.closed)),(.d (aH none 1 af r.state.locked)),(.d (aH none 1 af r.state.badLink)),(.d (aH none 1 af r.state.on_)),(.d (aH none 1 af r.state.badSource)),(.d (aH none 1 af r.state.earthed)),(.d (aH none 1 af r.state.badBus)),(.d (aH none 3 Transfer.cell r.transfers)),(.d (aH none 6 aC.cell r.jobs)),(cI r.people),(cB r.redundant)]))) (fun _=>[]) (eD y):=
  bO tT mX Tryz.func25 (
  .rg {fr:=[(0,39),(1,40)]} []<| .cl 2 (fw [(0,41),(1,42),(2,43),(3,44)] (kF y.plant)) fun r_=> .cl 5 (WR y) fun u0=> .rg {fr:=[(11,53)]} []<| .r<| .im (.xS 53 11 62 190 3 (ah Transfer.cell ([]:List Transfer)))<| .lp (σ:=((List Transfer) × Int)) (β:=(List Transfer)) (([]:List Transfer),0) [] [(62,55)] ⟨[1,2,3],[39,40,41,42,43,45,46,47,48,49,50,51],fun(u1,i)=>[(4,(vI i))],fun(u1,i)=>(SF y r_ u0 u1)⟩ ⟨[1,2,3],[39,40,41,42,43,45,46,47,48,49,50,51],fun u5=>[],fun u5=>(SF y r_ u0 u5)⟩
  (fun(u1,i)=> .r<| .it (.r<| .a3 ((0:Int)≤i∧i<(y.transfers.length:Int)) ((u1.length+[(uH y i)].length)*24≤140737488355328) (u1.length+[(uH y i)].length≤4611686018427387904)<| .rg {an:=[(6, .arr [(uH y i)].length (NN y i)),(7, .arr (LD y u1 i).length (R4 y u1 i))],fr:=[(6,60),(7,61)]} [0, .pf ⟨[(uH y i)].length=1,rfl⟩, .pf ⟨av 1 3 (YW y i) (NN y i),(by intro i hi j hj;match i,j,hi,hj with|0,0,_,_=>rfl|0,1,_,_=>rfl|0,2,_,_=>rfl)⟩, .e (u1.length),1,2, .pf ⟨(LD y u1 i).length=u1.length+[(uH y i)].length,List.length_append⟩, .pf ⟨av (u1.length+[(uH y i)].length) 3 (dQ (ah Transfer.cell u1) u1.length (NN y i)) (R4 y u1 i),aW _ _ _ _⟩]<| .r<| .en (.next ((LD y u1 i),(k18 i))) [] [(61,55)])
  (.e (.done (.brk u1))))
  (fun u5=> .r<| .im (.xS 53 12 79 185 6 (ah aC.cell ([]:List aC)))<| .lp (σ:=((List aC) × Int)) (β:=(List aC)) (([]:List aC),0) [] [(79,66)] ⟨[1,2,3],[39,40,41,42,43,45,46,47,48,49,50,51,55],fun(u2,i1)=>[(6,(vI i1))],fun(u2,i1)=>(TP y r_ u0 u5 u2)⟩ ⟨[2,3],[40,41,42,43,45,46,47,48,49,50,51,55],fun u6=>[],fun u6=>(TP y r_ u0 u5 u6)⟩
  (fun(u2,i1)=> .r<| .it (.a1 (Mk y i1)<| .rg {fr:=[(5,75)]} []<| .cl 2 (fw [(0,76)] (gU ((at' y.jobs i1.toNat).parts))) fun u3=> .r<| .cl 2 (pz ((at' y.jobs i1.toNat).after)) fun u4=> .rg {fz:=[76]} []<| .fz [75]<| .r<| .a2 (XQ y u2 i1 u3 u4) (Xq y u2 i1 u3 u4)<| .rg {an:=[(2, .arr [(GA y i1 u3 u4)].length (PO y i1 u3 u4)),(3, .arr (NJ y u2 i1 u3 u4).length (RL y u2 i1 u3 u4))],fr:=[(2,77),(3,78)]} [.pf ⟨[(GA y i1 u3 u4)].length=1,rfl⟩, .pf ⟨av 1 6 (WZ y i1 u3 u4) (PO y i1 u3 u4),(by intro i hi j hj;match i,j,hi,hj with|0,0,_,_=>rfl|0,1,_,_=>rfl|0,2,_,_=>rfl|0,3,_,_=>rfl|0,4,_,_=>rfl|0,5,_,_=>rfl)⟩, .e (u2.length),0,1, .pf ⟨(NJ y u2 i1 u3 u4).length=u2.length+[(GA y i1 u3 u4)].length,List.length_append⟩, .pf ⟨av (Wm y u2 i1 u3 u4) 6 (Yu y u2 i1 u3 u4) (RL y u2 i1 u3 u4),aW _ _ _ _⟩]<| .r<| .en (.next (XC y u2 i1 u3 u4)) [] [(78,66)])
  (.e (.done (.brk u2))))
  (fun u6=> .rg {fz:=[41,42,43,45,46,47,48,49,50,51,55,66]} []<| .fz [40]<| .e (⟨r_,u0,u5,u6,y.people,y.redundant⟩:aj))))
theorem DW (p:aF) (x:Link):bN Tryz.prog 210 [(.agg (k9 p)),(.agg (k19 x))] [] (fun r=>(vB r)) (fun _=>[]) (Af p x):=
  bO tT mX Tryz.func210 (
  .rg {fr:=[(0,6),(1,7)],fz:=[6]} []<| .r<| .it (.r<| .e false)
  (.r<| .it (.r<| .e false)
  (.r<| .lp (σ:=Int) (β:=Unit) (0) [] [] ⟨[3],[7],fun i=>[(5,(vI i))],fun i=>[]⟩ ⟨[],[],fun _=>[],fun _=>[]⟩
  (fun i=> .r<| .it (.a1 ((0:Int)≤i∧i<(x.trip.length:Int))<| .rg {fr:=[(5,11)],fz:=[11]} []<| .r<| .it (.r<| .e (.done (.ret false)))
  (.a2 ((gB [((decide (0<i)),true)]=true→(0:Int)≤(k13 i)∧(k13 i)<(x.trip.length:Int))) ((gB [(k20 x i),((decide (0<i)),true)]=true→(0:Int)≤(k13 i)∧(k13 i)<(x.trip.length:Int)))<| .rg {} [0,1]<| .it (.r<| .e (.done (.ret false)))
  (.r<| .e (.next (k18 i)))))
  (.e (.done (.brk ()))))
  (fun _=> .r<| .e true))))
theorem qW (p:aF):bN Tryz.prog 139 (k8 p) [] (fun r=>(vI r)) (fun _=>[]) (qA p):=
  bO tT mX Tryz.func139 (
  .rg {fr:=[(0,9)]} []<| .r<| .it (.r<| .e 10)
  (.r<| .it (.r<| .e 11)
  (.r<| .lp (σ:=Int) (β:=Unit) (0) [] [] ⟨[1],[9],fun i=>[(3,(vI i))],fun i=>[]⟩ ⟨[1],[9],fun _=>[],fun _=>[]⟩
  (fun i=> .r<| .it (.a1 (Zx i p)<| .rg {fr:=[(5,13)],fz:=[13]} []<| .r<| .it (.r<| .e (.done (.ret 11)))
  (.r<| .e (.next (k18 i))))
  (.e (.done (.brk ()))))
  (fun _=> .r<| .it (.r<| .e 12)
  (.r<| .lp (σ:=Int) (β:=Unit) (0) [] [] ⟨[1],[9],fun i1=>[(5,(vI i1))],fun i1=>[]⟩ ⟨[1],[9],fun _=>[],fun _=>[]⟩
  (fun i1=> .r<| .it (.cl 6 (DW p (at' p.links i1.toNat)) fun r_=> .a1 (Y8 p i1)<| .rg {} [0,1]<| .it (.r<| .e (.done (.ret 12)))
  (.r<| .e (.next (k18 i1))))
  (.e (.done (.brk ()))))
  (fun _=> .r<| .it (.r<| .e 13)
  (.r<| .lp (σ:=Int) (β:=Unit) (0) [] [] ⟨[1],[9],fun i2=>[(6,(vI i2))],fun i2=>[]⟩ ⟨[],[],fun _=>[],fun _=>[]⟩
  (fun i2=> .r<| .it (.a1 ((0:Int)≤i2∧i2<(p.racks.length:Int))<| .rg {fr:=[(5,17)],fz:=[17]} []<| .rg {} [.pf ⟨(0:Int)≤0∧(0:Int)<(2:Nat),(by decide)⟩, .pf ⟨(0:Int)≤1∧(1:Int)<(2:Nat),(by decide)⟩]<| .r<| .r<| .it (.r<| .r<| .it (.r<| .e (.done (.ret 13)))
  (.r<| .e (.next (k18 i2))))
  (.r<| .it (.r<| .e (.done (.ret 13)))
  (.r<| .e (.next (k18 i2)))))
  (.e (.done (.brk ()))))
  (fun _=> .r<| .e 0))))))))
theorem Bq (p:aF) (s_:State):bN Tryz.prog 140 (k28 s_ p) [] (fun r=>(vB r)) (fun _=>[]) (xV p s_):=
  bO tT mX Tryz.func140 (
  .rg {fr:=[(0,2),(1,3)],fz:=[2,3]} []<| .r<| .r<| .it (.r<| .e false)
  (.r<| .lp (σ:=Int) (β:=Unit) (0) [] [] ⟨[2,3,5],[],fun i=>[(8,(vI i))],fun i=>[]⟩ ⟨[],[],fun _=>[],fun _=>[]⟩
  (fun i=> .r<| .it (.a3 (Y8 p i) (k37 s_ p i) (k38 s_ p i)<| .rg {} [0,1,2]<| .it (.r<| .e (.done (.ret false)))
  (.r<| .e (.next (k18 i))))
  (.e (.done (.brk ()))))
  (fun _=> .r<| .e true)))
theorem cZ (p:aF) (s_:State):bN Tryz.prog 63 (k28 s_ p) [] (fun r=>(vI r)) (fun _=>[]) (fe p s_):=
  bO tT mX Tryz.func63 (
  .rg {fr:=[(0,2),(1,3)],fz:=[2,3]} []<| .cl 1 (qW p) fun r_=> .r<| .cg 5 [((decide (r_=0)),true)] (Bq p s_) fun u0=> .r<| .it (.r<| .r<| .e 9)
  (.r<| .e r_))
theorem rP (p:aF) (i:Int):bN Tryz.prog 229 [(.agg (k9 p)),(sI i)] [] (fun r=>(vB r)) (fun _=>[]) (pV p i):=
  bO tT mX Tryz.func229 (
  .rg {fr:=[(0,1)],fz:=[1]} []<| .a1 ((gB [((bif (decide (0≤i))then(decide (i<(p.links.length:Int)))else false),true)]=true→(0:Int)≤i∧i<(p.links.length:Int)))<| .r<| .e (bif (bif (decide (0≤i))then(decide (i<(p.links.length:Int)))else false)then(!decide (((at' p.links i.toNat).kind)=1))else false))
section
variable (l:(List Transfer)) (i:Int) (p:aF)
abbrev Xb:=(bif (decide (((at' l i.toNat).watch)<0))then true else(decide (p.buses≤((at' l i.toNat).watch))))
end
theorem iT (p:aF) (s_:State) (l:(List Transfer)):bN Tryz.prog 164 (ZH p s_ l) [] (fun r=>(vI r)) (fun _=>[]) (gV p s_ l):=
  bO tT mX Tryz.func164 (
  .rg {fr:=[(0,6),(1,7)],fz:=[6,7]} []<| .cl 2 (cZ p s_) fun r_=> .r<| .r<| .it (.r<| .e r_)
  (.r<| .it (.r<| .e 1)
  (.r<| .lp (σ:=Int) (β:=Unit) (0) [] [] ⟨[2,3],[],fun i=>[(8,(vI i))],fun i=>[]⟩ ⟨[],[],fun _=>[],fun _=>[]⟩
  (fun i=> .r<| .it (.a1 ((0:Int)≤i∧i<(l.length:Int))<| .rg {fr:=[(4,11)],fz:=[11]} []<| .cg 14 [((Xb l i p),false)] (rP p ((at' l i.toNat).close)) fun u0=> .cg 25 [((!decide (((at' l i.toNat).open_)=(-1))),true),((bif (Xb l i p)then true else(!u0)),false)] (rP p ((at' l i.toNat).open_)) fun u1=> .r<| .it (.r<| .e (.done (.ret 1)))
  (.r<| .e (.next (k18 i))))
  (.e (.done (.brk ()))))
  (fun _=> .r<| .e 0))))
section
variable (p:aF) (s_:State) (kz:Int)
abbrev VU:List SV:=[(.agg (k9 p)),(.agg (UC s_)),(sI kz)]
end
theorem eH (p:aF) (s_:State) (kz:Int):bN Tryz.prog 143 (VU p s_ kz) [] (fun r=>(vB r)) (fun _=>[]) (kY p s_ kz):=
  bO tT mX Tryz.func143 (
  .rg {fr:=[(0,2),(1,3)],fz:=[2,3]} []<| .a4 ((0:Int)≤kz∧kz<(s_.on_.length:Int)) (k83 kz s_) ((gB [((bif (at' s_.on_ kz.toNat)then(!(at' s_.badSource kz.toNat))else false),true)]=true→(0:Int)≤kz∧kz<(p.sources.length:Int))) (k84 kz p s_)<| .rg {} [0,1,2,3]<| .e (bif (bif (at' s_.on_ kz.toNat)then(!(at' s_.badSource kz.toNat))else false)then(!(at' s_.badBus ((Vu kz p).toNat)))else false))
section
variable (s_:State) (i:Int) (p:aF)
abbrev Xw:=(bif (bif (at' s_.closed i.toNat)then(!(at' s_.badLink i.toNat))else false)then(!(at' s_.badBus (((at' p.links i.toNat).a).toNat)))else false)
abbrev Xi:=((Xw s_ i p),true)
end
theorem mJ (p:aF) (s_:State) (i:Int):bN Tryz.prog 211 (VU p s_ i) [] (fun r=>(vB r)) (fun _=>[]) (qQ p s_ i):=
  bO tT mX Tryz.func211 (
  .rg {fr:=[(0,2),(1,3)],fz:=[2,3]} []<| .a6 ((0:Int)≤i∧i<(s_.closed.length:Int)) ((gB [((at' s_.closed i.toNat),true)]=true→(0:Int)≤i∧i<(s_.badLink.length:Int))) ((gB [((bif (at' s_.closed i.toNat)then(!(at' s_.badLink i.toNat))else false),true)]=true→(0:Int)≤i∧i<(p.links.length:Int))) ((gB [((bif (at' s_.closed i.toNat)then(!(at' s_.badLink i.toNat))else false),true)]=true→(0:Int)≤(at' p.links i.toNat).a∧(at' p.links i.toNat).a<(s_.badBus.length:Int))) ((gB [(Xi s_ i p)]=true→(0:Int)≤i∧i<(p.links.length:Int))) ((gB [(Xi s_ i p)]=true→(0:Int)≤(at' p.links i.toNat).b∧(at' p.links i.toNat).b<(s_.badBus.length:Int)))<| .rg {} [0,1,2,3,4,5]<| .e (bif (Xw s_ i p)then(!(at' s_.badBus (((at' p.links i.toNat).b).toNat)))else false))
section
variable (p:aF) (b:Int) (r_:Bool) (i:Int) (u0:(List Bool))
abbrev QN:=((Dk p).set b.toNat true)
abbrev Sz:=(ah af (QN p b))
abbrev Y7:=((gB [(r_,true)]=true→(0:Int)≤(at' p.links i.toNat).a∧(at' p.links i.toNat).a<(u0.length:Int)))
abbrev Yo:=((gB [((at' u0 (((at' p.links i.toNat).a).toNat)),false),(r_,true)]=true→(0:Int)≤(at' p.links i.toNat).b∧(at' p.links i.toNat).b<(u0.length:Int)))
abbrev FY:=(u0.set (((at' p.links i.toNat).a).toNat) true)
abbrev PY:=(ah af (FY p i u0))
abbrev Y3:=((0:Int)≤(at' p.links i.toNat).b∧(at' p.links i.toNat).b<((FY p i u0).length:Int))
abbrev Uc:=((FY p i u0).set (((at' p.links i.toNat).b).toNat) true)
abbrev Ul:=(ah af (Uc p i u0))
abbrev Y0:=(bW (PY p i u0) (((at' p.links i.toNat).b).toNat) 0 [(.bool true)])
abbrev Y6:=((Uc p i u0),(k18 i))
end
theorem rU (p:aF) (s_:State) (b:Int):bN Tryz.prog 144 (VU p s_ b) [] (fun r=>(vD (aH none 1 af r))) (fun _=>[]) (kW p s_ b):=
  bO tT mX Tryz.func144 (
  .rg {fr:=[(0,19),(1,20)],fz:=[20]} []<| .a3 ((0:Int)≤p.buses) (Wo p) (Wt p)<| .rg {an:=[(2, .arr (Dk p).length (MW p))],fr:=[(2,21)]} [0, .e ((p.buses:Int)),1,2, .pf ⟨(Dk p).length=p.buses.toNat,List.length_replicate⟩, .pf ⟨av p.buses.toNat 1 (fun _ j=>[(.bool false)].getD j .nilp) (MW p),bY _ _ _ _ _ (fun j hj=>(match j,hj with|0,_=>rfl))⟩]<| .a1 ((0:Int)≤b∧b<((Dk p).length:Int))<| .rg {an:=[(3, .arr 0 (Sz p b))]} [0, .t 0 b ((Dk p).length), .pf ⟨av (Dk p).length 1 (bW (MW p) b.toNat 0 [(.bool true)]) (Sz p b),aR _ _ _ _ _ _ _ _ rfl (fun j hj=>(match j,hj with|0,_=>rfl))⟩]<| .im (.ll 21 (Dk p) (QN p b) (by simp only [List.length_set,List.length_append,List.length_replicate,Int.toNat_natCast]))<| .r<| .lp (σ:=((List Bool) × Int)) (β:=(List Bool)) ((QN p b),0) [] [] ⟨[3,4],[19],fun(u1,n)=>[(7,(vO 21 true u1.length)),(8,(vI n))],fun(u1,n)=>[(21,some (bg 4 1 af u1))]⟩ ⟨[],[],fun u2=>[(7,(vO 21 true u2.length))],fun u2=>[(21,some (bg 4 1 af u2))]⟩
  (fun(u1,n)=> .r<| .it (.r<| .lp (σ:=((List Bool) × Int)) (β:=(List Bool)) (u1,0) [] [] ⟨[3,4,8],[19],fun(u0,i)=>[(7,(vO 21 true u0.length)),(9,(vI i))],fun(u0,i)=>[(21,some (bg 4 1 af u0))]⟩ ⟨[3,4,8],[19],fun u3=>[(7,(vO 21 true u3.length))],fun u3=>[(21,some (bg 4 1 af u3))]⟩
  (fun(u0,i)=> .r<| .it (.a1 (Y8 p i)<| .rg {fr:=[(5,37)]} []<| .cl 3 (mJ p s_ i) fun r_=> .a2 (Y7 p r_ i u0) (Yo p r_ i u0)<| .rg {} [2,0, .tg 0 [(r_,true)] ((at' p.links i.toNat).a) u0.length,1, .tg 1 [((at' u0 (((at' p.links i.toNat).a).toNat)),false),(r_,true)] ((at' p.links i.toNat).b) u0.length]<| .it (.a1 ((0:Int)≤(at' p.links i.toNat).a∧(at' p.links i.toNat).a<(u0.length:Int))<| .rg {an:=[(4, .arr 0 (PY p i u0))]} [0, .t 0 ((at' p.links i.toNat).a) u0.length, .pf ⟨av u0.length 1 (bW (ah af u0) (((at' p.links i.toNat).a).toNat) 0 [(.bool true)]) (PY p i u0),aR _ _ _ _ _ _ _ _ rfl (fun j hj=>(match j,hj with|0,_=>rfl))⟩]<| .im (.ll 21 u0 (FY p i u0))<| .a1 (Y3 p i u0)<| .rg {an:=[(4, .arr 0 (Ul p i u0))]} [0, .t 0 ((at' p.links i.toNat).b) ((FY p i u0).length), .pf ⟨av (FY p i u0).length 1 (Y0 p i u0) (Ul p i u0),aR _ _ _ _ _ _ _ _ rfl (fun j hj=>(match j,hj with|0,_=>rfl))⟩]<| .im (.ll 21 (FY p i u0) (Uc p i u0))<| .r<| .e (.next (Y6 p i u0)))
  (.r<| .e (.next (D7 i u0))))
  (.e (.done (.brk u0))))
  (fun u3=> .r<| .e (.next (D7 n u3))))
  (.e (.done (.brk u1))))
  (fun u2=> .rg {fz:=[21]} []<| .e u2))
section
variable (u1:(List Bool)) (u0:(List Bool)) (b:Int) (u2:(List Bool))
abbrev Kz:List (Nat × Option Ob):=[(5,some (bg 4 1 af u1))]
abbrev Rw:=(u0.set b.toNat (bif (at' u0 b.toNat)then true else(at' u2 b.toNat)))
abbrev TF:=(ah af (Rw u0 b u2))
abbrev WX:=((Rw u0 b u2),(k18 b))
end
theorem tC (p:aF) (s_:State):bN Tryz.prog 65 (k28 s_ p) [] (fun r=>(.bZ [(sD (aH none 1 af r.1)),(sI r.2)])) (fun _=>[]) (iL p s_):=
  bO tT mX Tryz.func65 (
  .rg {fr:=[(0,3),(1,4)],fz:=[3,4]} []<| .cl 2 (cZ p s_) fun r_=> .r<| .r<| .it (.r<| .e (([]:List Bool),r_))
  (.a3 ((0:Int)≤p.buses) (Wo p) (Wt p)<| .rg {an:=[(2, .arr (Dk p).length (MW p))],fr:=[(2,5)]} [0, .e ((p.buses:Int)),1,2, .pf ⟨(Dk p).length=p.buses.toNat,List.length_replicate⟩, .pf ⟨av p.buses.toNat 1 (fun _ j=>[(.bool false)].getD j .nilp) (MW p),bY _ _ _ _ _ (fun j hj=>(match j,hj with|0,_=>rfl))⟩]<| .r<| .lp (σ:=((List Bool) × Int)) (β:=(List Bool)) ((Dk p),0) [] [] ⟨[2,3],[],fun(u1,kz)=>[(7,(vO 5 true u1.length)),(8,(vI kz))],fun(u1,kz)=>(Kz u1)⟩ ⟨[],[],fun u3=>[(7,(vO 5 true u3.length))],fun u3=>(Kz u3)⟩
  (fun(u1,kz)=> .r<| .it (.cl 3 (eH p s_ kz) fun u5=> .r<| .it (.r<| .e (.next (D7 kz u1)))
  (.cl 8 (rU p s_ (Vu kz p)) fun u2=> .a1 (Zx kz p)<| .rg {} [0,1]<| .r<| .lp (σ:=((List Bool) × Int)) (β:=(List Bool)) (u1,0) [] [] ⟨[2,3,8,9],[],fun(u0,b)=>[(7,(vO 5 true u0.length)),(10,(vI b))],fun(u0,b)=>(Kz u0)⟩ ⟨[2,3,8],[],fun u4=>[(7,(vO 5 true u4.length))],fun u4=>(Kz u4)⟩
  (fun(u0,b)=> .r<| .it (.a2 (O5 u0 b) ((gB [((at' u0 b.toNat),false)]=true→(0:Int)≤b∧b<(u2.length:Int)))<| .rg {an:=[(13, .arr 0 (TF u0 b u2))]} [0, .t 0 b u0.length,1,0, .t 0 b u0.length, .pf ⟨av u0.length 1 (bW (ah af u0) b.toNat 0 [(.bool (bif (at' u0 b.toNat)then true else(at' u2 b.toNat)))]) (TF u0 b u2),aR _ _ _ _ _ _ _ _ rfl (fun j hj=>(match j,hj with|0,_=>rfl))⟩]<| .im (.ll 5 u0 (Rw u0 b u2))<| .r<| .e (.next (WX u0 b u2)))
  (.e (.done (.brk u0))))
  (fun u4=> .r<| .e (.next (D7 kz u4)))))
  (.e (.done (.brk u1))))
  (fun u3=> .rg {fz:=[5]} []<| .e (u3,0))))
theorem rR (a:Source) (b:Source):bN Tryz.prog 145 [(.agg (k10 a)),(.agg (k10 b))] [] (fun r=>(vB r)) (fun _=>[]) (yx a b):=
  bO tT mX Tryz.func145 (
  .rg {fr:=[(0,2),(1,3)],fz:=[2,3]} []<| .r<| .e (bif (!decide (a.sync=b.sync))then true else(decide (a.sync=0))))
section
variable (u3:(List ai)) (u1:Bool) (u2:Bool) (u6:(List Bool)) (p:aF) (kz:Int) (i:Int) (u0:(List ai))
abbrev Sm:List (Nat × Option Ob):=[(37,some (bg 145 2 ai.cell u3))]
abbrev Ti:=((bif (bif u1 then u2 else false)then(at' u6 ((Vu kz p).toNat))else false),true)
abbrev SY:=((gB [(k14 u1 u2)]=true→(0:Int)≤i∧i<(p.sources.length:Int)))
abbrev Yx:=((gB [(k14 u1 u2)]=true→(0:Int)≤(at' p.sources kz.toNat).bus∧(at' p.sources kz.toNat).bus<(u6.length:Int)))
abbrev WO:=((gB [(Ti u1 u2 u6 p kz)]=true→(0:Int)≤i∧i<(p.sources.length:Int)))
abbrev X0:=((gB [(Ti u1 u2 u6 p kz)]=true→(0:Int)≤kz∧kz<(p.sources.length:Int)))
abbrev OV:=(ah ai.cell [(⟨i,kz⟩:ai)])
abbrev Sn:=(ah ai.cell (u0++[(⟨i,kz⟩:ai)]))
end
theorem nV (p:aF) (s_:State):bN Tryz.prog 66 (k28 s_ p) [] (fun r=>(.bZ [(sD (aH none 2 ai.cell r.1)),(sI r.2)])) (fun _=>[]) (fD p s_):=
  bO tT mX Tryz.func66 (
  .rg {fr:=[(0,34),(1,35)],fz:=[34,35]} []<| .cl 2 (cZ p s_) fun r_=> .r<| .r<| .it (.r<| .e (([]:List ai),r_))
  (.r<| .r<| .im (.ad 7 68 145 2 (ah ai.cell ([]:List ai)))<| .lp (σ:=((List ai) × Int)) (β:=(List ai)) (([]:List ai),0) [] [(68,37)] ⟨[2,3],[],fun(u3,i)=>[(7,(vO 37 false u3.length)),(8,(vI i))],fun(u3,i)=>(Sm u3)⟩ ⟨[],[],fun u4=>[(7,(vO 37 false u4.length))],fun u4=>(Sm u4)⟩
  (fun(u3,i)=> .r<| .it (.r<| .lp (σ:=((List ai) × Int)) (β:=(List ai)) (IA i u3) [] [] ⟨[2,3,8],[],fun(u0,kz)=>[(7,(vO 37 false u0.length)),(9,(vI kz))],fun(u0,kz)=>(Sm u0)⟩ ⟨[2,3,8],[],fun u5=>[(7,(vO 37 false u5.length))],fun u5=>(Sm u5)⟩
  (fun(u0,kz)=> .r<| .it (.cl 3 (eH p s_ i) fun u1=> .cg 8 [(u1,true)] (eH p s_ kz) fun u2=> .cg 19 [(k14 u1 u2)] (rU p s_ (Vu i p)) fun u6=> .cg 40 [(Ti u1 u2 u6 p kz)] (rR (at' p.sources i.toNat) (at' p.sources kz.toNat)) fun u7=> .a5 (SY u1 u2 p i) (SY u1 u2 p kz) (Yx u1 u2 u6 p kz) (WO u1 u2 u6 p kz i) (X0 u1 u2 u6 p kz)<| .rg {} [8,7,0,6,1,2,3,4,5]<| .it (.a2 ((u0.length+[(⟨i,kz⟩:ai)].length)*16≤140737488355328) (u0.length+[(⟨i,kz⟩:ai)].length≤4611686018427387904)<| .rg {an:=[(4, .arr [(⟨i,kz⟩:ai)].length (OV kz i)),(5, .arr (u0++[(⟨i,kz⟩:ai)]).length (Sn kz i u0))],fr:=[(4,66),(5,67)]} [.pf ⟨[(⟨i,kz⟩:ai)].length=1,rfl⟩, .pf ⟨av 1 2 (eO 2 [(.int .i64 i),(.int .i64 kz)]) (OV kz i),(by intro i hi j hj;match i,j,hi,hj with|0,0,_,_=>rfl|0,1,_,_=>rfl)⟩, .e (u0.length),0,1, .pf ⟨(u0++[(⟨i,kz⟩:ai)]).length=u0.length+[(⟨i,kz⟩:ai)].length,List.length_append⟩, .pf ⟨av (u0.length+[(⟨i,kz⟩:ai)].length) 2 (dQ (ah ai.cell u0) u0.length (OV kz i)) (Sn kz i u0),aW _ _ _ _⟩]<| .r<| .en (.next ((u0++[(⟨i,kz⟩:ai)]),(k18 kz))) [] [(67,37)])
  (.r<| .e (.next (IA kz u0))))
  (.e (.done (.brk u0))))
  (fun u5=> .r<| .e (.next (IA i u5))))
  (.e (.done (.brk u3))))
  (fun u4=> .rg {fz:=[37]} []<| .e (u4,0))))
section
variable (p:aF) (s_:State) (b:Int)
abbrev PK:List SV:=[(.agg (k9 p)),(.agg (YA s_)),(sI b)]
end
theorem mq (p:aF) (s_:State) (b:Int):bN Tryz.prog 144 (PK p s_ b) (FI s_) (fun r=>(vD (aH none 1 af r))) (fun r=>(FI s_)) (kW p s_ b):=
  bO tT mX Tryz.func144 (
  .rg {fr:=[(0,26),(1,27)]} []<| .a3 ((0:Int)≤p.buses) (Wo p) (Wt p)<| .rg {an:=[(2, .arr (Dk p).length (MW p))],fr:=[(2,28)]} [0, .e ((p.buses:Int)),1,2, .pf ⟨(Dk p).length=p.buses.toNat,List.length_replicate⟩, .pf ⟨av p.buses.toNat 1 (fun _ j=>[(.bool false)].getD j .nilp) (MW p),bY _ _ _ _ _ (fun j hj=>(match j,hj with|0,_=>rfl))⟩]<| .a1 ((0:Int)≤b∧b<((Dk p).length:Int))<| .rg {an:=[(3, .arr 0 (Sz p b))]} [0, .t 0 b ((Dk p).length), .pf ⟨av (Dk p).length 1 (bW (MW p) b.toNat 0 [(.bool true)]) (Sz p b),aR _ _ _ _ _ _ _ _ rfl (fun j hj=>(match j,hj with|0,_=>rfl))⟩]<| .im (.ll 28 (Dk p) (QN p b) (by simp only [List.length_set,List.length_append,List.length_replicate,Int.toNat_natCast]))<| .r<| .lp (σ:=((List Bool) × Int)) (β:=(List Bool)) ((QN p b),0) [] [] ⟨[3,4],[0,1,2,3,4,5,6,26,27],fun(u1,n)=>[(7,(vO 28 true u1.length)),(8,(vI n))],fun(u1,n)=>[(28,some (bg 4 1 af u1))]⟩ ⟨[],[0,1,2,3,4,5,6],fun u2=>[(7,(vO 28 true u2.length))],fun u2=>[(28,some (bg 4 1 af u2))]⟩
  (fun(u1,n)=> .r<| .it (.r<| .lp (σ:=((List Bool) × Int)) (β:=(List Bool)) (u1,0) [] [] ⟨[3,4,8],[0,1,2,3,4,5,6,26,27],fun(u0,i)=>[(7,(vO 28 true u0.length)),(9,(vI i))],fun(u0,i)=>[(28,some (bg 4 1 af u0))]⟩ ⟨[3,4,8],[0,1,2,3,4,5,6,26,27],fun u3=>[(7,(vO 28 true u3.length))],fun u3=>[(28,some (bg 4 1 af u3))]⟩
  (fun(u0,i)=> .r<| .it (.a1 (Y8 p i)<| .rg {fr:=[(5,44)]} []<| .cr 3 ⟨fun{r_} hr_=>((Fn.vE (frz:=[0,1,2,3,4,5,6]) (p:=[s_.closed.length=s_.closed.length,s_.locked.length=s_.locked.length,s_.badLink.length=s_.badLink.length,s_.on_.length=s_.on_.length,s_.badSource.length=s_.badSource.length,s_.earthed.length=s_.earthed.length,s_.badBus.length=s_.badBus.length]) (mJ p s_ i hr_) (by kernel_rfl) ⟨rfl,rfl,rfl,rfl,rfl,rfl,rfl,trivial⟩ rfl):Fn Tryz.prog 211 (PK p s_ i) (FI s_) (vB r_) (FI s_))⟩ fun r_=> .a2 (Y7 p r_ i u0) (Yo p r_ i u0)<| .rg {} [2,0, .tg 0 [(r_,true)] ((at' p.links i.toNat).a) u0.length,1, .tg 1 [((at' u0 (((at' p.links i.toNat).a).toNat)),false),(r_,true)] ((at' p.links i.toNat).b) u0.length]<| .it (.a1 ((0:Int)≤(at' p.links i.toNat).a∧(at' p.links i.toNat).a<(u0.length:Int))<| .rg {an:=[(4, .arr 0 (PY p i u0))]} [0, .t 0 ((at' p.links i.toNat).a) u0.length, .pf ⟨av u0.length 1 (bW (ah af u0) (((at' p.links i.toNat).a).toNat) 0 [(.bool true)]) (PY p i u0),aR _ _ _ _ _ _ _ _ rfl (fun j hj=>(match j,hj with|0,_=>rfl))⟩]<| .im (.ll 28 u0 (FY p i u0))<| .a1 (Y3 p i u0)<| .rg {an:=[(4, .arr 0 (Ul p i u0))]} [0, .t 0 ((at' p.links i.toNat).b) ((FY p i u0).length), .pf ⟨av (FY p i u0).length 1 (Y0 p i u0) (Ul p i u0),aR _ _ _ _ _ _ _ _ rfl (fun j hj=>(match j,hj with|0,_=>rfl))⟩]<| .im (.ll 28 (FY p i u0) (Uc p i u0))<| .r<| .e (.next (Y6 p i u0)))
  (.r<| .e (.next (D7 i u0))))
  (.e (.done (.brk u0))))
  (fun u3=> .r<| .e (.next (D7 n u3))))
  (.e (.done (.brk u1))))
  (fun u2=> .rg {fz:=[28]} []<| .e u2))
theorem oK (p:aF) (s_:State):bN Tryz.prog 65 (Ls p s_) (FI s_) (fun r=>(.bZ [(sD (aH none 1 af r.1)),(sI r.2)])) (fun r=>(FI s_)) (iL p s_):=
  bO tT mX Tryz.func65 (
  .rg {fr:=[(0,10),(1,11)],fz:=[10]} []<| .cr 2 ⟨fun{r_} hr_=>((Fn.vE (frz:=[0,1,2,3,4,5,6]) (p:=[s_.closed.length=s_.closed.length,s_.locked.length=s_.locked.length,s_.badLink.length=s_.badLink.length,s_.on_.length=s_.on_.length,s_.badSource.length=s_.badSource.length,s_.earthed.length=s_.earthed.length,s_.badBus.length=s_.badBus.length]) (cZ p s_ hr_) (by kernel_rfl) ⟨rfl,rfl,rfl,rfl,rfl,rfl,rfl,trivial⟩ rfl):Fn Tryz.prog 63 (Ls p s_) (FI s_) (vI r_) (FI s_))⟩ fun r_=> .r<| .r<| .it (.r<| .e (([]:List Bool),r_))
  (.a3 ((0:Int)≤p.buses) (Wo p) (Wt p)<| .rg {an:=[(2, .arr (Dk p).length (MW p))],fr:=[(2,12)]} [0, .e ((p.buses:Int)),1,2, .pf ⟨(Dk p).length=p.buses.toNat,List.length_replicate⟩, .pf ⟨av p.buses.toNat 1 (fun _ j=>[(.bool false)].getD j .nilp) (MW p),bY _ _ _ _ _ (fun j hj=>(match j,hj with|0,_=>rfl))⟩]<| .r<| .lp (σ:=((List Bool) × Int)) (β:=(List Bool)) ((Dk p),0) [] [] ⟨[2,3],[0,1,2,3,4,5,6,11],fun(u1,kz)=>[(7,(vO 12 true u1.length)),(8,(vI kz))],fun(u1,kz)=>[(12,some (bg 4 1 af u1))]⟩ ⟨[],[0,1,2,3,4,5,6],fun u3=>[(7,(vO 12 true u3.length))],fun u3=>[(12,some (bg 4 1 af u3))]⟩
  (fun(u1,kz)=> .r<| .it (.cr 3 ⟨fun{u5} hr_1=>((Fn.vE (frz:=[0,1,2,3,4,5,6]) (p:=[s_.closed.length=s_.closed.length,s_.locked.length=s_.locked.length,s_.badLink.length=s_.badLink.length,s_.on_.length=s_.on_.length,s_.badSource.length=s_.badSource.length,s_.earthed.length=s_.earthed.length,s_.badBus.length=s_.badBus.length]) (eH p s_ kz hr_1) (by kernel_rfl) ⟨rfl,rfl,rfl,rfl,rfl,rfl,rfl,trivial⟩ rfl):Fn Tryz.prog 143 (PK p s_ kz) (FI s_) (vB u5) (FI s_))⟩ fun u5=> .r<| .it (.r<| .e (.next (D7 kz u1)))
  (.cr 8 (mq p s_ (Vu kz p)) fun u2=> .a1 (Zx kz p)<| .rg {} [0,1]<| .r<| .lp (σ:=((List Bool) × Int)) (β:=(List Bool)) (u1,0) [] [] ⟨[2,3,8,9],[0,1,2,3,4,5,6,11],fun(u0,b)=>[(7,(vO 12 true u0.length)),(10,(vI b))],fun(u0,b)=>[(12,some (bg 4 1 af u0))]⟩ ⟨[2,3,8],[0,1,2,3,4,5,6,11],fun u4=>[(7,(vO 12 true u4.length))],fun u4=>[(12,some (bg 4 1 af u4))]⟩
  (fun(u0,b)=> .r<| .it (.a2 (O5 u0 b) ((gB [((at' u0 b.toNat),false)]=true→(0:Int)≤b∧b<(u2.length:Int)))<| .rg {an:=[(13, .arr 0 (TF u0 b u2))]} [0, .t 0 b u0.length,1,0, .t 0 b u0.length, .pf ⟨av u0.length 1 (bW (ah af u0) b.toNat 0 [(.bool (bif (at' u0 b.toNat)then true else(at' u2 b.toNat)))]) (TF u0 b u2),aR _ _ _ _ _ _ _ _ rfl (fun j hj=>(match j,hj with|0,_=>rfl))⟩]<| .im (.ll 12 u0 (Rw u0 b u2))<| .r<| .e (.next (WX u0 b u2)))
  (.e (.done (.brk u0))))
  (fun u4=> .r<| .e (.next (D7 kz u4)))))
  (.e (.done (.brk u1))))
  (fun u3=> .rg {fz:=[12]} []<| .e (u3,0))))
section
variable (u3:(List ai))
abbrev SX:List (Nat × Option Ob):=[(44,some (bg 145 2 ai.cell u3))]
end
theorem j5 (p:aF) (s_:State):bN Tryz.prog 66 (Ls p s_) (FI s_) (fun r=>(.bZ [(sD (aH none 2 ai.cell r.1)),(sI r.2)])) (fun r=>(FI s_)) (fD p s_):=
  bO tT mX Tryz.func66 (
  .rg {fr:=[(0,41),(1,42)],fz:=[41]} []<| .cr 2 ⟨fun{r_} hr_=>((Fn.vE (frz:=[0,1,2,3,4,5,6]) (p:=[s_.closed.length=s_.closed.length,s_.locked.length=s_.locked.length,s_.badLink.length=s_.badLink.length,s_.on_.length=s_.on_.length,s_.badSource.length=s_.badSource.length,s_.earthed.length=s_.earthed.length,s_.badBus.length=s_.badBus.length]) (cZ p s_ hr_) (by kernel_rfl) ⟨rfl,rfl,rfl,rfl,rfl,rfl,rfl,trivial⟩ rfl):Fn Tryz.prog 63 (Ls p s_) (FI s_) (vI r_) (FI s_))⟩ fun r_=> .r<| .r<| .it (.r<| .e (([]:List ai),r_))
  (.r<| .r<| .im (.ad 7 75 145 2 (ah ai.cell ([]:List ai)))<| .lp (σ:=((List ai) × Int)) (β:=(List ai)) (([]:List ai),0) [] [(75,44)] ⟨[2,3],[0,1,2,3,4,5,6,42],fun(u3,i)=>[(7,(vO 44 false u3.length)),(8,(vI i))],fun(u3,i)=>(SX u3)⟩ ⟨[],[0,1,2,3,4,5,6],fun u4=>[(7,(vO 44 false u4.length))],fun u4=>(SX u4)⟩
  (fun(u3,i)=> .r<| .it (.r<| .lp (σ:=((List ai) × Int)) (β:=(List ai)) (IA i u3) [] [] ⟨[2,3,8],[0,1,2,3,4,5,6,42],fun(u0,kz)=>[(7,(vO 44 false u0.length)),(9,(vI kz))],fun(u0,kz)=>(SX u0)⟩ ⟨[2,3,8],[0,1,2,3,4,5,6,42],fun u5=>[(7,(vO 44 false u5.length))],fun u5=>(SX u5)⟩
  (fun(u0,kz)=> .r<| .it (.cr 3 ⟨fun{u1} hr_1=>((Fn.vE (frz:=[0,1,2,3,4,5,6]) (p:=[s_.closed.length=s_.closed.length,s_.locked.length=s_.locked.length,s_.badLink.length=s_.badLink.length,s_.on_.length=s_.on_.length,s_.badSource.length=s_.badSource.length,s_.earthed.length=s_.earthed.length,s_.badBus.length=s_.badBus.length]) (eH p s_ i hr_1) (by kernel_rfl) ⟨rfl,rfl,rfl,rfl,rfl,rfl,rfl,trivial⟩ rfl):Fn Tryz.prog 143 (PK p s_ i) (FI s_) (vB u1) (FI s_))⟩ fun u1=> .ZO 8 [(u1,true)] ⟨fun{u2} hr_2=>((Fn.vE (frz:=[0,1,2,3,4,5,6]) (p:=[s_.closed.length=s_.closed.length,s_.locked.length=s_.locked.length,s_.badLink.length=s_.badLink.length,s_.on_.length=s_.on_.length,s_.badSource.length=s_.badSource.length,s_.earthed.length=s_.earthed.length,s_.badBus.length=s_.badBus.length]) (eH p s_ kz hr_2) (by kernel_rfl) ⟨rfl,rfl,rfl,rfl,rfl,rfl,rfl,trivial⟩ rfl):Fn Tryz.prog 143 (PK p s_ kz) (FI s_) (vB u2) (FI s_))⟩ fun u2=> .ZO 19 [(k14 u1 u2)] (mq p s_ (Vu i p)) fun u6=> .cg 40 [(Ti u1 u2 u6 p kz)] (rR (at' p.sources i.toNat) (at' p.sources kz.toNat)) fun u7=> .a5 (SY u1 u2 p i) (SY u1 u2 p kz) (Yx u1 u2 u6 p kz) (WO u1 u2 u6 p kz i) (X0 u1 u2 u6 p kz)<| .rg {} [8,7,0,6,1,2,3,4,5]<| .it (.a2 ((u0.length+[(⟨i,kz⟩:ai)].length)*16≤140737488355328) (u0.length+[(⟨i,kz⟩:ai)].length≤4611686018427387904)<| .rg {an:=[(4, .arr [(⟨i,kz⟩:ai)].length (OV kz i)),(5, .arr (u0++[(⟨i,kz⟩:ai)]).length (Sn kz i u0))],fr:=[(4,73),(5,74)]} [.pf ⟨[(⟨i,kz⟩:ai)].length=1,rfl⟩, .pf ⟨av 1 2 (eO 2 [(.int .i64 i),(.int .i64 kz)]) (OV kz i),(by intro i hi j hj;match i,j,hi,hj with|0,0,_,_=>rfl|0,1,_,_=>rfl)⟩, .e (u0.length),0,1, .pf ⟨(u0++[(⟨i,kz⟩:ai)]).length=u0.length+[(⟨i,kz⟩:ai)].length,List.length_append⟩, .pf ⟨av (u0.length+[(⟨i,kz⟩:ai)].length) 2 (dQ (ah ai.cell u0) u0.length (OV kz i)) (Sn kz i u0),aW _ _ _ _⟩]<| .r<| .en (.next ((u0++[(⟨i,kz⟩:ai)]),(k18 kz))) [] [(74,44)])
  (.r<| .e (.next (IA kz u0))))
  (.e (.done (.brk u0))))
  (fun u5=> .r<| .e (.next (IA i u5))))
  (.e (.done (.brk u3))))
  (fun u4=> .rg {fz:=[44]} []<| .e (u4,0))))
section
variable (u0:State) (x:Transfer) (s_:State) (r_:((List Bool) × Int)) (u6:Bool) (b:Int) (u4:Bool) (kz:Int) (v6:((List ai) × Int)) (v7:((List ai) × Int)) (i:Int)
abbrev GR:=(u0.closed.set x.close.toNat true)
abbrev WK:=(bif (bif (!(at' s_.badBus x.watch.toNat))then(!(at' r_.1 x.watch.toNat))else false)then(!(at' s_.closed x.close.toNat))else false)
abbrev Xu:=(bif (WK x s_ r_)then(!(at' s_.badLink x.close.toNat))else false)
abbrev TW:=((GR u0 x).set x.open_.toNat false)
abbrev VG:=(bif (Xu x s_ r_)then(!(at' s_.locked x.close.toNat))else false)
abbrev Yh:=((VG x s_ r_),true)
abbrev WG:=(bif (VG x s_ r_)then(!(at' s_.badLink x.open_.toNat))else false)
abbrev VF:=(⟨(TW u0 x),u0.locked,u0.badLink,u0.on_,u0.badSource,u0.earthed,u0.badBus⟩:State)
abbrev YM:=(bif (WG x s_ r_)then(!(at' s_.locked x.open_.toNat))else false)
abbrev Ma:=(u6,(k18 b))
abbrev SI:=((gB [(u4,false)]=true→(0:Int)≤kz∧kz<(v6.1.length:Int)))
abbrev Yd:=((bif u4 then true else((decide (((at' v6.1 kz.toNat).e0)=((at' v7.1 i.toNat).e0))) && ((decide (((at' v6.1 kz.toNat).e1)=((at' v7.1 i.toNat).e1))) && true))),(k18 kz))
abbrev VJ:=(⟨(GR u0 x),u0.locked,u0.badLink,u0.on_,u0.badSource,u0.earthed,u0.badBus⟩:State)
end
theorem F5 (p:aF) (s_:State) (x:Transfer):bN Tryz.prog 165 [(.agg (k9 p)),(.agg (UC s_)),(.agg [(cI x.watch),(cI x.open_),(cI x.close)])] [] (fun r=>(.bZ [(.agg [(.d (aH none 1 af r.1.closed)),(.d (aH none 1 af r.1.locked)),(.d (aH none 1 af r.1.badLink)),(.d (aH none 1 af r.1.on_)),(.d (aH none 1 af r.1.badSource)),(.d (aH none 1 af r.1.earthed)),(.d (aH none 1 af r.1.badBus))]),(sB r.2)])) (fun _=>[]) (Di p s_ x):=
  bO tT mX Tryz.func165 (
  .rg {fr:=[(0,13),(1,14),(2,15),(3,16)],fz:=[13,14]} []<| .cl 2 (tC p s_) fun r_=> .r<| .cl 1 (fw [(0,17),(1,18),(2,19),(3,20),(4,21),(5,22),(6,23),(7,24)] (kL s_)) fun u0=> .rg {fr:=[(2,25)]} []<| .a1 ((0:Int)≤x.close∧x.close<(u0.closed.length:Int))<| .rg {an:=[(5, .arr 0 (ah af (GR u0 x)))]} [0, .t 0 x.close u0.closed.length, .pf ⟨av u0.closed.length 1 (bW (ah af u0.closed) x.close.toNat 0 [(.bool true)]) (ah af (GR u0 x)),aR _ _ _ _ _ _ _ _ rfl (fun j hj=>(match j,hj with|0,_=>rfl))⟩]<| .im (.ll 17 u0.closed (GR u0 x))<| .a5 ((0:Int)≤x.watch∧x.watch<(s_.badBus.length:Int)) ((gB [((!(at' s_.badBus x.watch.toNat)),true)]=true→(0:Int)≤x.watch∧x.watch<(r_.1.length:Int))) ((gB [((bif (!(at' s_.badBus x.watch.toNat))then(!(at' r_.1 x.watch.toNat))else false),true)]=true→(0:Int)≤x.close∧x.close<(s_.closed.length:Int))) ((gB [((WK x s_ r_),true)]=true→(0:Int)≤x.close∧x.close<(s_.badLink.length:Int))) ((gB [((Xu x s_ r_),true)]=true→(0:Int)≤x.close∧x.close<(s_.locked.length:Int)))<| .rg {} [0,1,2,3,4]<| .r<| .it (.a1 ((0:Int)≤x.open_∧x.open_<((GR u0 x).length:Int))<| .rg {an:=[(5, .arr 0 (ah af (TW u0 x)))],fz:=[15]} [0, .t 0 x.open_ ((GR u0 x).length), .pf ⟨av (GR u0 x).length 1 (bW (ah af (GR u0 x)) x.open_.toNat 0 [(.bool false)]) (ah af (TW u0 x)),aR _ _ _ _ _ _ _ _ rfl (fun j hj=>(match j,hj with|0,_=>rfl))⟩]<| .im (.ll 17 (GR u0 x) (TW u0 x))<| .a2 ((gB [(Yh x s_ r_)]=true→(0:Int)≤x.open_∧x.open_<(s_.badLink.length:Int))) ((gB [((WG x s_ r_),true)]=true→(0:Int)≤x.open_∧x.open_<(s_.locked.length:Int)))<| .rg {} [0,1]<| .cr 2 (fw [(0,17),(1,18),(2,19),(3,20),(4,21),(5,22),(6,23)] (oK p (VF u0 x))) fun u1=> .r<| .a1 ((gB [((YM x s_ r_),true)]=true→(0:Int)≤x.watch∧x.watch<(u1.1.length:Int)))<| .r<| .r<| .lp (σ:=(Bool × Int)) (β:=Bool) ((bif (YM x s_ r_)then(at' u1.1 x.watch.toNat)else false),0) [] [] ⟨[3,4,6,8,10,12],[16,17,18,19,20,21,22,23,25],fun(u6,b)=>[(11,(vB u6)),(14,(vI b))],fun(u6,b)=>[]⟩ ⟨[3,4,6,10],[16,17,18,19,20,21,22,23,25],fun v0=>[(11,(vB v0))],fun v0=>[]⟩
  (fun(u6,b)=> .r<| .it (.a5 (Rx r_ b) (Sj r_ b u1) (RD r_ b u1) (Uj s_ r_ b u1) (Ub s_ r_ b u1)<| .rg {} [0,1,2,3,4]<| .it (.r<| .r<| .e (.next (false,(k18 b))))
  (.r<| .e (.next (Ma u6 b))))
  (.e (.done (.brk u6))))
  (fun v0=> .cl 2 (nV p s_) fun v6=> .r<| .cr 2 (fw [(0,17),(1,18),(2,19),(3,20),(4,21),(5,22),(6,23)] (j5 p (VF u0 x))) fun v7=> .r<| .r<| .lp (σ:=(Bool × Int)) (β:=Bool) (v0,0) [] [] ⟨[6,10,15,17],[16,17,18,19,20,21,22,23,25],fun(u7,i)=>[(11,(vB u7)),(19,(vI i))],fun(u7,i)=>[]⟩ ⟨[6,10],[16,17,18,19,20,21,22,23,25],fun v1=>[(11,(vB v1))],fun v1=>[]⟩
  (fun(u7,i)=> .r<| .it (.r<| .r<| .lp (σ:=(Bool × Int)) (β:=Bool) (false,0) [] [] ⟨[6,10,11,15,17,19],[16,17,18,19,20,21,22,23,25],fun(u4,kz)=>[(20,(vB u4)),(21,(vI kz))],fun(u4,kz)=>[]⟩ ⟨[6,10,11,15,17,19],[16,17,18,19,20,21,22,23,25],fun v2=>[(20,(vB v2))],fun v2=>[]⟩
  (fun(u4,kz)=> .r<| .it (.a2 (SI u4 kz v6) (SI u4 i v7)<| .rg {} [0,1]<| .r<| .e (.next (Yd u4 kz v6 v7 i)))
  (.e (.done (.brk u4))))
  (fun v2=> .r<| .r<| .e (.next ((bif u7 then v2 else false),(k18 i)))))
  (.e (.done (.brk u7))))
  (fun v1=> .rg {fz:=[17,18,19,20,21,22,23]} []<| .fz [16]<| .e ((VF u0 x),v1))))
  (.cr 2 (fw [(0,17),(1,18),(2,19),(3,20),(4,21),(5,22),(6,23)] (oK p (VJ u0 x))) fun u2=> .rg {fz:=[15]} []<| .a1 ((gB [(Yh x s_ r_)]=true→(0:Int)≤x.watch∧x.watch<(u2.1.length:Int)))<| .r<| .r<| .lp (σ:=(Bool × Int)) (β:=Bool) ((bif (VG x s_ r_)then(at' u2.1 x.watch.toNat)else false),0) [] [] ⟨[3,4,6,8,10,12],[16,17,18,19,20,21,22,23,25],fun(u8,b1)=>[(11,(vB u8)),(14,(vI b1))],fun(u8,b1)=>[]⟩ ⟨[3,4,6,10],[16,17,18,19,20,21,22,23,25],fun v3=>[(11,(vB v3))],fun v3=>[]⟩
  (fun(u8,b1)=> .r<| .it (.a5 (Rx r_ b1) (Sj r_ b1 u2) (RD r_ b1 u2) (Uj s_ r_ b1 u2) (Ub s_ r_ b1 u2)<| .rg {} [0,1,2,3,4]<| .it (.r<| .r<| .e (.next (false,(k18 b1))))
  (.r<| .e (.next (Ma u8 b1))))
  (.e (.done (.brk u8))))
  (fun v3=> .cl 2 (nV p s_) fun v8=> .r<| .cr 2 (fw [(0,17),(1,18),(2,19),(3,20),(4,21),(5,22),(6,23)] (j5 p (VJ u0 x))) fun v9=> .r<| .r<| .lp (σ:=(Bool × Int)) (β:=Bool) (v3,0) [] [] ⟨[6,10,15,17],[16,17,18,19,20,21,22,23,25],fun(u9,i1)=>[(11,(vB u9)),(19,(vI i1))],fun(u9,i1)=>[]⟩ ⟨[6,10],[16,17,18,19,20,21,22,23,25],fun v4=>[(11,(vB v4))],fun v4=>[]⟩
  (fun(u9,i1)=> .r<| .it (.r<| .r<| .lp (σ:=(Bool × Int)) (β:=Bool) (false,0) [] [] ⟨[6,10,11,15,17,19],[16,17,18,19,20,21,22,23,25],fun(u5,u3)=>[(20,(vB u5)),(21,(vI u3))],fun(u5,u3)=>[]⟩ ⟨[6,10,11,15,17,19],[16,17,18,19,20,21,22,23,25],fun v5=>[(20,(vB v5))],fun v5=>[]⟩
  (fun(u5,u3)=> .r<| .it (.a2 (SI u5 u3 v8) (SI u5 i1 v9)<| .rg {} [0,1]<| .r<| .e (.next (Yd u5 u3 v8 v9 i1)))
  (.e (.done (.brk u5))))
  (fun v5=> .r<| .r<| .e (.next ((bif u9 then v5 else false),(k18 i1)))))
  (.e (.done (.brk u9))))
  (fun v4=> .rg {fz:=[17,18,19,20,21,22,23]} []<| .fz [16]<| .e ((VJ u0 x),v4)))))
end
end Sg
