import Derived.Test.YtolddefbejdanaaDoorLoW1
set_option linter.all false
namespace Sg
open Go Go.Proofs
set_option maxRecDepth 20000
noncomputable section
theorem sO (p:au) (s_:State) (x:Part):iL Tryd.prog 16 (Ow p s_ x) [] (fun r=>(.gJ [(.agg [(.own 0 false r.1.closed.length),(.own 1 false r.1.locked.length),(.own 2 false r.1.badLink.length),(.own 3 false r.1.on_.length),(.own 4 false r.1.badSource.length),(.own 5 false r.1.earthed.length),(.own 6 false r.1.badBus.length)]),(sI r.2)])) (fun r=>[(0,some (eZ 4 1 ah r.1.closed)),(1,some (eZ 4 1 ah r.1.locked)),(2,some (eZ 4 1 ah r.1.badLink)),(3,some (eZ 4 1 ah r.1.on_)),(4,some (eZ 4 1 ah r.1.badSource)),(5,some (eZ 4 1 ah r.1.earthed)),(6,some (eZ 4 1 ah r.1.badBus)),(7,none)]) (oC p s_ x):=
  jC tT mX Tryd.func16 (
  .rg {fr:=[(0,12),(1,13),(2,14),(3,15)],fz:=[12,13,14]} []<| .cl 3 (mF [(0,16),(1,17),(2,18),(3,19),(4,20),(5,21),(6,22),(7,23)] (pY p s_ x false)) fun r_=> .r<| .en (r_.1,r_.2) [] [(16,0),(17,1),(18,2),(19,3),(20,4),(21,5),(22,6),(15,7)])
theorem o9 (x:State):iL Tryd.prog 18 (Nk x) [] (fun r=>(.v (.agg [(.own 0 false r.closed.length),(.own 1 false r.locked.length),(.own 2 false r.badLink.length),(.own 3 false r.on_.length),(.own 4 false r.badSource.length),(.own 5 false r.earthed.length),(.own 6 false r.badBus.length)]))) (fun r=>[(0,some (eZ 4 1 ah r.closed)),(1,some (eZ 4 1 ah r.locked)),(2,some (eZ 4 1 ah r.badLink)),(3,some (eZ 4 1 ah r.on_)),(4,some (eZ 4 1 ah r.badSource)),(5,some (eZ 4 1 ah r.earthed)),(6,some (eZ 4 1 ah r.badBus)),(7,none)]) (fo x):=
  jC tT mX Tryd.func18 (
  .rg {fr:=[(0,9),(1,10)],fz:=[9]} []<| .cl 2 (mF [(0,11)] (bH x.closed)) fun r_=> .cl 5 (mF [(0,12)] (bH x.locked)) fun u0=> .cl 8 (mF [(0,13)] (bH x.badLink)) fun u1=> .cl 11 (mF [(0,14)] (bH x.on_)) fun u2=> .cl 14 (mF [(0,15)] (bH x.badSource)) fun u3=> .cl 17 (mF [(0,16)] (bH x.earthed)) fun u4=> .cl 20 (mF [(0,17)] (bH x.badBus)) fun u5=> .r<| .en (⟨r_,u0,u1,u2,u3,u4,u5⟩:State) [] [(11,0),(12,1),(13,2),(14,3),(15,4),(16,5),(17,6),(10,7)])
section
variable (u1:((List Part) × Int)) (u2:Int) (s_:State)
abbrev Oj:=(bif (decide (((at' u1.1 u2.toNat).kind)=1))then(at' s_.badBus (((at' u1.1 u2.toNat).index).toNat))else false)
abbrev Ns:=(bif (Oj u1 u2 s_)then true else(bif (decide (((at' u1.1 u2.toNat).kind)=2))then(at' s_.badSource (((at' u1.1 u2.toNat).index).toNat))else false))
end
theorem pz (p:au) (s_:State) (n:Int) (kz:Int):iL Tryd.prog 4 [(.agg (k1 p)),(.agg (k20 s_)),(sI n),(sI kz)] [] (fun r=>(vB r)) (fun _=>[]) (gH p s_ n kz):=
  jC tT mX Tryd.func4 (
  .rg {fr:=[(0,23),(1,24)],fz:=[23,24]} []<| .cl 1 (yV p) fun r_=> .cg 5 [(r_,false)] (aY p s_) fun v6=> .r<| .it (.cl 0 ko fun v2=> .r<| .e v2)
  (.cl 1 (mF [(0,25)] (qL p)) fun u1=> .r<| .r<| .it (.r<| .e false)
  (.cl 4 (rq n (u1.1.length:Int)) fun u2=> .a1 ((0:Int)≤u2∧u2<(u1.1.length:Int))<| .rg {fr:=[(7,26)],fz:=[26]} [1,0, .t 0 u2 u1.1.length]<| .cl 3 (iT p s_ (at' u1.1 u2.toNat)) fun u5=> .rg {fr:=[(7,27)],fz:=[27]} []<| .cg 5 [((!decide (u5.2=0)),false)] (aY p u5.1) fun v7=> .r<| .it (.r<| .e false)
  (.cl 2 (jb p s_) fun u6=> .r<| .cl 2 (jb p u5.1) fun v0=> .r<| .cl 2 (je p s_) fun u7=> .r<| .cl 2 (je p u5.1) fun u8=> .r<| .r<| .it (.r<| .e false)
  (.r<| .lp (σ:=Int) (β:=Unit) (0) [] [] ⟨[3,4,5,11,12,13,14,16,18],[],fun i=>[(20,(vI i))],fun i=>[]⟩ ⟨[3,4,5,11,12,13,16,18],[],fun _=>[],fun _=>[]⟩
  (fun i=> .r<| .it (.a2 ((0:Int)≤i∧i<(v0.1.length:Int)) ((gB [((at' v0.1 i.toNat),true)]=true→(0:Int)≤i∧i<(u6.1.length:Int)))<| .rg {} [0,1]<| .it (.r<| .e (.done (.ret false)))
  (.r<| .e (.next (k3 i))))
  (.e (.done (.brk ()))))
  (fun _=> .r<| .lp (σ:=Int) (β:=Unit) (0) [] [] ⟨[3,4,5,11,12,13,16,18],[],fun i1=>[(21,(vI i1))],fun i1=>[]⟩ ⟨[3,4,5,11,12,13],[],fun _=>[],fun _=>[]⟩
  (fun i1=> .r<| .it (.r<| .r<| .lp (σ:=(Bool × Int)) (β:=Bool) (false,0) [] [] ⟨[3,4,5,11,12,13,16,18,21],[],fun(u4,j)=>[(22,(vB u4)),(23,(vI j))],fun(u4,j)=>[]⟩ ⟨[3,4,5,11,12,13,16,18,21],[],fun u9=>[(22,(vB u9))],fun u9=>[]⟩
  (fun(u4,j)=> .r<| .it (.a2 ((gB [(u4,false)]=true→(0:Int)≤j∧j<(u7.1.length:Int))) ((gB [(u4,false)]=true→(0:Int)≤i1∧i1<(u8.1.length:Int)))<| .rg {} [0,1]<| .r<| .e (.next ((bif u4 then true else((decide (((at' u7.1 j.toNat).e0)=((at' u8.1 i1.toNat).e0))) && ((decide (((at' u7.1 j.toNat).e1)=((at' u8.1 i1.toNat).e1))) && true))),(k3 j))))
  (.e (.done (.brk u4))))
  (fun u9=> .r<| .it (.r<| .e (.done (.ret false)))
  (.r<| .e (.next (k3 i1)))))
  (.e (.done (.brk ()))))
  (fun _=> .cl 3 (mF [(0,28),(1,29),(2,30),(3,31),(4,32),(5,33),(6,34),(7,35)] (sO p u5.1 (at' u1.1 u2.toNat))) fun v1=> .rg {fr:=[(7,36)],fz:=[28,29,30,31,32,33,34]} []<| .fz [36]<| .a3 ((gB [((decide (((at' u1.1 u2.toNat).kind)=1)),true)]=true→(0:Int)≤(at' u1.1 u2.toNat).index∧(at' u1.1 u2.toNat).index<(s_.badBus.length:Int))) ((gB [((decide (((at' u1.1 u2.toNat).kind)=2)),true),((Oj u1 u2 s_),false)]=true→(0:Int)≤(at' u1.1 u2.toNat).index∧(at' u1.1 u2.toNat).index<(s_.badSource.length:Int))) ((gB [((decide (((at' u1.1 u2.toNat).kind)=3)),true),((Ns u1 u2 s_),false)]=true→(0:Int)≤(at' u1.1 u2.toNat).index∧(at' u1.1 u2.toNat).index<(s_.badLink.length:Int)))<| .rg {} [0,1,2]<| .cg 8 [((!(bif (Ns u1 u2 s_)then true else(bif (decide (((at' u1.1 u2.toNat).kind)=3))then(at' s_.badLink (((at' u1.1 u2.toNat).index).toNat))else false))),true),((!decide (v1.2=0)),false)] (su v1.1 s_) fun v8=> .r<| .it (.r<| .e false)
  (.r<| .it (.cl 4 (rq kz (p.links.length:Int)) fun u3=> .r<| .cl 1 (mF [(0,37),(1,38),(2,39),(3,40),(4,41),(5,42),(6,43),(7,44)] (o9 s_)) fun u0=> .rg {fr:=[(2,45)]} []<| .a1 (MH u0 u3)<| .rg {an:=[(4, .arr 0 (ay ah (u0.closed.set u3.toNat true)))],fz:=[37,38,39,40,41,42,43]} [0, .t 0 u3 u0.closed.length, .pf ⟨aI u0.closed.length 1 (mq (ay ah u0.closed) u3.toNat 0 [(.bool true)]) (ay ah (u0.closed.set u3.toNat true)),eF _ _ _ _ _ _ _ _ rfl (fun j hj=>(match j,hj with|0,_=>rfl))⟩]<| .im (.uh 45 (some (.cells 29 [(.d (.sl none 1 u0.closed.length (ay ah (u0.closed.set u3.toNat true)))),(.d (bC none 1 ah u0.locked)),(.d (bC none 1 ah u0.badLink)),(.d (bC none 1 ah u0.on_)),(.d (k21 u0)),(.d (bC none 1 ah u0.earthed)),(.d (bC none 1 ah u0.badBus))])) (some (.cells 29 [(.d (bC none 1 ah (u0.closed.set u3.toNat true))),(.d (bC none 1 ah u0.locked)),(.d (bC none 1 ah u0.badLink)),(.d (bC none 1 ah u0.on_)),(.d (k21 u0)),(.d (bC none 1 ah u0.earthed)),(.d (bC none 1 ah u0.badBus))])) (vS ⟨kW.d (kJ.P7 (by first|rw [List.length_append,List.length_drop]|simp only [List.length_set,List.length_drop,yN]) (.inr rfl) (fun _ _ _ _=> .refl _)),kW.refl _,kW.refl _,kW.refl _,kW.refl _,kW.refl _,kW.refl _,trivial⟩))<| .fz [45]<| .cl 2 (jb p (⟨(u0.closed.set u3.toNat true),u0.locked,u0.badLink,u0.on_,u0.badSource,u0.earthed,u0.badBus⟩:State)) fun v3=> .r<| .r<| .it (.r<| .e false)
  (.r<| .lp (σ:=Int) (β:=Unit) (0) [] [] ⟨[13,28],[],fun i2=>[(30,(vI i2))],fun i2=>[]⟩ ⟨[],[],fun _=>[],fun _=>[]⟩
  (fun i2=> .r<| .it (.a2 ((0:Int)≤i2∧i2<(u6.1.length:Int)) ((gB [((at' u6.1 i2.toNat),true)]=true→(0:Int)≤i2∧i2<(v3.1.length:Int)))<| .rg {} [0,1]<| .it (.r<| .e (.done (.ret false)))
  (.r<| .e (.next (k3 i2))))
  (.e (.done (.brk ()))))
  (fun _=> .cl 0 ko fun v4=> .r<| .e v4)))
  (.cl 0 ko fun v5=> .r<| .e v5)))))))))
end
end Sg
