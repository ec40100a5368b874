import Derived.Test.YtbjhjmcpfmhgdaaGreatWnW0
set_option linter.all false
namespace Sg
open Go Go.Proofs
set_option maxRecDepth 20000
noncomputable section
section
variable (y:ah) (i:Int) (u0:Int)
abbrev NN:DV:=(aQ none 5 Source.cell y.plant.sources)
abbrev Nb:DV:=(aQ none 6 Link.cell y.plant.links)
abbrev Nc:DV:=(aQ none 4 aM.cell y.plant.racks)
abbrev NH:DV:=(aQ none 1 af y.state.closed)
abbrev Oa:DV:=(aQ none 1 af y.state.locked)
abbrev Le:DV:=(aQ none 1 af y.state.badLink)
abbrev Nw:DV:=(aQ none 1 af y.state.on_)
abbrev K8:DV:=(aQ none 1 af y.state.badSource)
abbrev Ow:DV:=(aQ none 1 af y.state.earthed)
abbrev Lj:DV:=(aQ none 1 af y.state.badBus)
abbrev NK:DV:=(aQ none 3 Transfer.cell y.transfers)
abbrev BK:List CV:=[(cI y.plant.buses),(.d (NN y)),(.d (Nb y)),(.d (Nc y)),(.d (NH y)),(.d (Oa y)),(.d (Le y)),(.d (Nw y)),(.d (K8 y)),(.d (Ow y)),(.d (Lj y)),(.d (NK y)),(.d (aQ none 6 dP.cell y.jobs)),(cI y.people),(cB y.redundant)]
abbrev Nh:=((0:Int)≤i∧i<(y.jobs.length:Int))
abbrev Aa:=((at' y.jobs i.toNat).parts)
abbrev O8:=((Aa y i).length:Int)
abbrev Tz:=(at' (Aa y i) u0.toNat)
abbrev WY:List CV:=[(cI ((Tz y i u0).kind)),(cI ((Tz y i u0).index))]
abbrev XZ:List SV:=[(sD (.sl none 2 u0.toNat (av Part.cell (Aa y i)))),(.agg (WY y i u0))]
abbrev Yu:=(bif (bif (bif (bif (bif (bif (bif (bif (bif (bif (decide (1≤(O8 y i)))then(decide ((O8 y i)≤8))else false)then(decide (1≤((at' y.jobs i.toNat).hours)))else false)then(decide (((at' y.jobs i.toNat).hours)≤48))else false)then(decide (0≤((at' y.jobs i.toNat).from_)))else false)then(decide (1≤((at' y.jobs i.toNat).to_)))else false)then(decide (((at' y.jobs i.toNat).to_)≤48))else false)then(decide (((at' y.jobs i.toNat).from_)≤(IntKind.wrap .i64 (((at' y.jobs i.toNat).to_) - ((at' y.jobs i.toNat).hours)))))else false)then(decide (1≤((at' y.jobs i.toNat).people)))else false)then(decide (((at' y.jobs i.toNat).people)≤20))else false)then(decide ((((at' y.jobs i.toNat).after).length:Int)≤8))else false)
end
theorem Dq (y:ah) (i:Int):dF Tryz.prog 84 [(.agg (BK y)),(sI i)] [] (fun r=>(vB r)) (fun _=>[]) (qw y i):=
  dZ tT mX Tryz.func84 (
  .rg {fr:=[(0,7),(1,8)]} []<| .a1 (Nh y i)<| .rg {fr:=[(5,9)],fz:=[8]} []<| .rg {fz:=[9]} []<| .lp (σ:=Int) (β:=Unit) (0) [] [] ⟨[3,5,14,15],[],fun u0=>[(16,(vI u0))],fun u0=>[]⟩ ⟨[3,5],[],fun _=>[],fun _=>[]⟩
  (fun u0=> .r<| .it (.a1 ((0:Int)≤u0∧u0<(O8 y i))<| .rg {fr:=[(3,13)],fz:=[13]} []<| .cl 5 ⟨fun{r_} hr_=>((Fn.Uz (args:=[(sD (aQ none 2 Part.cell (Au (Aa y i) 0 u0.toNat))),(.agg (WY y i u0))]) (args':=(XZ y i u0)) (hin:=[]) (hin':=[]) (mM (Au (Aa y i) 0 u0.toNat) (Tz y i u0) hr_) ⟨rZ.one (mZ.d (ow.WO (by first|rw [List.length_append,List.length_drop]|simp only [List.length_set,List.length_drop,fD]|exact List.length_replicate) (.inr rfl) (Pb _ _ _ _))),rZ.refl _,trivial⟩ trivial):Fn Tryz.prog 157 (XZ y i u0) [] (vB r_) [])⟩ fun r_=> .a1 ((0:Int)≤u0∧u0≤(O8 y i))<| .rg {} [0,1]<| .it (.r<| .e (.done (.ret false)))
  (.r<| .e (.next (k8 u0))))
  (.e (.done (.brk ()))))
  (fun _=> .cg 65 [((Yu y i),true)] (qf ((at' y.jobs i.toNat).after) i) fun u1=> .r<| .e (bif (Yu y i)then(!u1)else false)))
theorem xw (s_:State):dF Tryz.prog 227 (ZF s_) [] (fun r=>(.v (.agg [(.own 0 false r.closed.length),(.own 1 false r.locked.length),(.own 2 false r.badLink.length),(.own 3 false r.on_.length),(.own 4 false r.badSource.length),(.own 5 false r.earthed.length),(.own 6 false r.badBus.length)]))) (fun r=>[(0,some (bC 4 1 af r.closed)),(1,some (bC 4 1 af r.locked)),(2,some (bC 4 1 af r.badLink)),(3,some (bC 4 1 af r.on_)),(4,some (bC 4 1 af r.badSource)),(5,some (bC 4 1 af r.earthed)),(6,some (bC 4 1 af r.badBus)),(7,none)]) (nW s_):=
  dZ tT mX Tryz.func227 (
  .rg {fr:=[(0,10),(1,11)]} []<| .rg {an:=[(7, .cells)],fr:=[(7,12)]} []<| .ul 11<| .r<| .t<| .a1 ((0:Int)≤0∧0<(7:Int))<| .r<| .cl 4 (kX [(0,13)] ⟨fun h=>aL s_.closed h⟩) fun r_=> .r<| .r<| .im (.dp [1,2,12,13,14])<| .r<| .t<| .a1 ((0:Int)≤1∧1<(7:Int))<| .r<| .cl 4 (kX [(0,14)] ⟨fun h=>aL s_.locked h⟩) fun u0=> .r<| .r<| .im (.dp [1,2,12,13,14])<| .r<| .t<| .a1 ((0:Int)≤2∧2<(7:Int))<| .r<| .cl 4 (kX [(0,15)] ⟨fun h=>aL s_.badLink h⟩) fun u1=> .r<| .r<| .im (.dp [1,2,12,13,14])<| .r<| .t<| .a1 ((0:Int)≤3∧3<(7:Int))<| .r<| .cl 4 (kX [(0,16)] ⟨fun h=>aL s_.on_ h⟩) fun u2=> .r<| .r<| .im (.dp [1,2,12,13,14])<| .r<| .t<| .a1 ((0:Int)≤4∧4<(7:Int))<| .r<| .cl 4 (kX [(0,17)] ⟨fun h=>aL s_.badSource h⟩) fun u3=> .r<| .r<| .im (.dp [1,2,12,13,14])<| .r<| .t<| .a1 ((0:Int)≤5∧5<(7:Int))<| .r<| .cl 4 (kX [(0,18)] ⟨fun h=>aL s_.earthed h⟩) fun u4=> .r<| .r<| .im (.dp [1,2,12,13,14])<| .r<| .t<| .a1 ((0:Int)≤6∧6<(7:Int))<| .r<| .cl 4 (kX [(0,19)] ⟨fun h=>aL s_.badBus h⟩) fun u5=> .r<| .r<| .im (.dp [1,2,12,13,14])<| .r<| .f<| .r<| .en (⟨r_,u0,u1,u2,u3,u4,u5⟩:State) [] [(13,0),(14,1),(15,2),(16,3),(17,4),(18,5),(19,6),(11,7)])
section
variable (r_:Int) (u0:State)
abbrev Yh:=((⟨([]:List Bool),([]:List Bool),([]:List Bool),([]:List Bool),([]:List Bool),([]:List Bool),([]:List Bool)⟩:State),r_)
abbrev LY:List CV:=[(.own 23 false u0.badBus.length)]
abbrev Dp:=(O5 1 (LY u0))
abbrev Dy:List DV:=[(.int .i64 1),(.int .i64 2)]
abbrev Dt:=(O5 1 [(.own 23 false u0.badBus.length),(.own 21 false u0.badSource.length)])
abbrev Du:List DV:=[(.int .i64 1),(.int .i64 2),(.int .i64 3)]
abbrev Dr:=(O5 1 [(.own 23 false u0.badBus.length),(.own 21 false u0.badSource.length),(.own 19 false u0.badLink.length)])
abbrev N8:List CV:=[(.own 21 false u0.badSource.length)]
abbrev NM:List CV:=[(.own 19 false u0.badLink.length)]
end
theorem BO (p:aC) (s_:State) (x:Part) (is:Bool):dF Tryz.prog 159 [(.agg (k1 p)),(.agg (k18 s_)),(.agg [(cI x.kind),(cI x.index)]),(sB is)] [] (fun r=>(.dX [(.agg [(.d (aQ none 1 af r.1.closed)),(.d (aQ none 1 af r.1.locked)),(.d (aQ none 1 af r.1.badLink)),(.d (aQ none 1 af r.1.on_)),(.d (aQ none 1 af r.1.badSource)),(.d (aQ none 1 af r.1.earthed)),(.d (aQ none 1 af r.1.badBus))]),(sI r.2)])) (fun _=>[]) (jg p s_ x is):=
  dZ tT mX Tryz.func159 (
  .rg {fr:=[(0,13),(1,14),(2,15),(3,16)],fz:=[13]} []<| .cl 2 (eT p s_) fun r_=> .r<| .r<| .it (.rg {fz:=[16]} []<| .e (Yh r_))
  (.cl 1 (kX [(0,17),(1,18),(2,19),(3,20),(4,21),(5,22),(6,23),(7,24)] (xw s_)) fun u0=> .r<| .fk (bM x.kind 1) (.rg {an:=[(0, .map 0 (sP []) (O5 1 []) []),(3, .map 1 (sP [(.int .i64 1)]) (Dp u0) [23]),(6, .map 2 (sP Dy) (Dt u0) [23,21]),(9, .map 3 (sP Du) (Dr u0) [23,21,19]),(13, .look true (LY u0))],fr:=[(0,25)]} [.pf ⟨mO [some .i64] 1 1 0 (sP []) (O5 1 []) [(.int .i64 1)] (LY u0) [23] 1 (sP [(.int .i64 1)]) (Dp u0),⟨(fun i hi=>absurd hi (Nat.not_lt_zero i)),(by intro i hi j hj;match i,j,hi,hj with|0,0,_,_=>exact bI.1 (show d9 (CV.bL (.own 23 false u0.badBus.length)) [23]=true from by kernel_rfl)),0,(fun i hi=>absurd hi (Nat.not_lt_zero i)), .inr ⟨rfl,rfl⟩,rfl,rfl,(fun i hi=>absurd hi (Nat.not_lt_zero i))⟩⟩, .pf ⟨mO [some .i64] 1 1 1 (sP [(.int .i64 1)]) (Dp u0) [(.int .i64 2)] (N8 u0) [23,21] 2 (sP Dy) (Dt u0),⟨(by intro i hi;match i,hi with|0,_=>rfl),(by intro i hi j hj;match i,j,hi,hj with|0,0,_,_=>exact bI.1 (show d9 (CV.bL (.own 23 false u0.badBus.length)) [23,21]=true from by kernel_rfl)|1,0,_,_=>exact bI.1 (show d9 (CV.bL (.own 21 false u0.badSource.length)) [23,21]=true from by kernel_rfl)),1,(by intro i hi;match i,hi with|0,_=>rfl), .inr ⟨rfl,rfl⟩,rfl,rfl,(by intro i hi;match i,hi with|0,_=>exact fun _=> ⟨rfl,rfl⟩)⟩⟩, .pf ⟨mO [some .i64] 1 1 2 (sP Dy) (Dt u0) [(.int .i64 3)] (NM u0) [23,21,19] 3 (sP Du) (Dr u0),⟨(by intro i hi;match i,hi with|0,_=>rfl|1,_=>rfl),(by intro i hi j hj;match i,j,hi,hj with|0,0,_,_=>exact bI.1 (show d9 (CV.bL (.own 23 false u0.badBus.length)) [23,21,19]=true from by kernel_rfl)|1,0,_,_=>exact bI.1 (show d9 (CV.bL (.own 21 false u0.badSource.length)) [23,21,19]=true from by kernel_rfl)|2,0,_,_=>exact bI.1 (show d9 (CV.bL (.own 19 false u0.badLink.length)) [23,21,19]=true from by kernel_rfl)),2,(by intro i hi;match i,hi with|0,_=>rfl|1,_=>rfl), .inr ⟨rfl,rfl⟩,rfl,rfl,(by intro i hi;match i,hi with|0,_=>exact fun _=> ⟨rfl,rfl⟩|1,_=>exact fun _=> ⟨rfl,rfl⟩)⟩⟩, .m [0] [(bM x.kind 1)=true] (jw [some .i64] 1 1 3 (sP Du) (Dr u0) [(.int .i64 x.kind)] [(.d nS)] true (LY u0)) (fun⟨hb1,_⟩=> ⟨(by intro i hi;match i,hi with|0,_=>rfl|1,_=>rfl|2,_=>rfl), .inl ⟨rfl,0,by decide,congrArg some hb1,(fun i hi=>absurd hi (Nat.not_lt_zero i)),rfl⟩⟩)]<| .cl 5 (aK x.index 0 (IntKind.wrap .i64 ((u0.badBus.length:Int) - 1))) fun u1=> .r<| .it (.rg {fz:=[16]} []<| .e ((⟨([]:List Bool),([]:List Bool),([]:List Bool),([]:List Bool),([]:List Bool),([]:List Bool),([]:List Bool)⟩:State),14))
  (.a1 ((0:Int)≤x.index∧x.index<(u0.badBus.length:Int))<| .rg {an:=[(5, .arr 0 (av af (u0.badBus.set x.index.toNat is)))]} [0, .t 0 x.index u0.badBus.length, .pf ⟨aI u0.badBus.length 1 (nk (av af u0.badBus) x.index.toNat 0 [(.bool is)]) (av af (u0.badBus.set x.index.toNat is)),fM _ _ _ _ _ _ _ _ rfl (fun j hj=>(match j,hj with|0,_=>rfl))⟩]<| .im (.ll 23 u0.badBus (u0.badBus.set x.index.toNat is))<| .rg {fz:=[17,18,19,20,21,22,23]} []<| .fz [16]<| .e ((⟨u0.closed,u0.locked,u0.badLink,u0.on_,u0.badSource,u0.earthed,(u0.badBus.set x.index.toNat is)⟩:State),0)))
  (.fk (bM x.kind 2) (.rg {an:=[(0, .map 0 (sP []) (O5 1 []) []),(3, .map 1 (sP [(.int .i64 1)]) (Dp u0) [23]),(6, .map 2 (sP Dy) (Dt u0) [23,21]),(9, .map 3 (sP Du) (Dr u0) [23,21,19]),(13, .look true (N8 u0))],fr:=[(0,25)]} [.pf ⟨mO [some .i64] 1 1 0 (sP []) (O5 1 []) [(.int .i64 1)] (LY u0) [23] 1 (sP [(.int .i64 1)]) (Dp u0),⟨(fun i hi=>absurd hi (Nat.not_lt_zero i)),(by intro i hi j hj;match i,j,hi,hj with|0,0,_,_=>exact bI.1 (show d9 (CV.bL (.own 23 false u0.badBus.length)) [23]=true from by kernel_rfl)),0,(fun i hi=>absurd hi (Nat.not_lt_zero i)), .inr ⟨rfl,rfl⟩,rfl,rfl,(fun i hi=>absurd hi (Nat.not_lt_zero i))⟩⟩, .pf ⟨mO [some .i64] 1 1 1 (sP [(.int .i64 1)]) (Dp u0) [(.int .i64 2)] (N8 u0) [23,21] 2 (sP Dy) (Dt u0),⟨(by intro i hi;match i,hi with|0,_=>rfl),(by intro i hi j hj;match i,j,hi,hj with|0,0,_,_=>exact bI.1 (show d9 (CV.bL (.own 23 false u0.badBus.length)) [23,21]=true from by kernel_rfl)|1,0,_,_=>exact bI.1 (show d9 (CV.bL (.own 21 false u0.badSource.length)) [23,21]=true from by kernel_rfl)),1,(by intro i hi;match i,hi with|0,_=>rfl), .inr ⟨rfl,rfl⟩,rfl,rfl,(by intro i hi;match i,hi with|0,_=>exact fun _=> ⟨rfl,rfl⟩)⟩⟩, .pf ⟨mO [some .i64] 1 1 2 (sP Dy) (Dt u0) [(.int .i64 3)] (NM u0) [23,21,19] 3 (sP Du) (Dr u0),⟨(by intro i hi;match i,hi with|0,_=>rfl|1,_=>rfl),(by intro i hi j hj;match i,j,hi,hj with|0,0,_,_=>exact bI.1 (show d9 (CV.bL (.own 23 false u0.badBus.length)) [23,21,19]=true from by kernel_rfl)|1,0,_,_=>exact bI.1 (show d9 (CV.bL (.own 21 false u0.badSource.length)) [23,21,19]=true from by kernel_rfl)|2,0,_,_=>exact bI.1 (show d9 (CV.bL (.own 19 false u0.badLink.length)) [23,21,19]=true from by kernel_rfl)),2,(by intro i hi;match i,hi with|0,_=>rfl|1,_=>rfl), .inr ⟨rfl,rfl⟩,rfl,rfl,(by intro i hi;match i,hi with|0,_=>exact fun _=> ⟨rfl,rfl⟩|1,_=>exact fun _=> ⟨rfl,rfl⟩)⟩⟩, .m [0,1] [(bM x.kind 2)=true,(bM x.kind 1)=false] (jw [some .i64] 1 1 3 (sP Du) (Dr u0) [(.int .i64 x.kind)] [(.d nS)] true (N8 u0)) (fun⟨hb3,hb1,_⟩=> ⟨(by intro i hi;match i,hi with|0,_=>rfl|1,_=>rfl|2,_=>rfl), .inl ⟨rfl,1,by decide,congrArg some hb3,(by intro i hi;match i,hi with|0,_=>exact congrArg some hb1),rfl⟩⟩)]<| .cl 5 (aK x.index 0 (IntKind.wrap .i64 ((u0.badSource.length:Int) - 1))) fun u2=> .r<| .it (.rg {fz:=[16]} []<| .e ((⟨([]:List Bool),([]:List Bool),([]:List Bool),([]:List Bool),([]:List Bool),([]:List Bool),([]:List Bool)⟩:State),14))
  (.a1 ((0:Int)≤x.index∧x.index<(u0.badSource.length:Int))<| .rg {an:=[(5, .arr 0 (av af (u0.badSource.set x.index.toNat is)))]} [0, .t 0 x.index u0.badSource.length, .pf ⟨aI u0.badSource.length 1 (nk (av af u0.badSource) x.index.toNat 0 [(.bool is)]) (av af (u0.badSource.set x.index.toNat is)),fM _ _ _ _ _ _ _ _ rfl (fun j hj=>(match j,hj with|0,_=>rfl))⟩]<| .im (.ll 21 u0.badSource (u0.badSource.set x.index.toNat is))<| .rg {fz:=[17,18,19,20,21,22,23]} []<| .fz [16]<| .e ((⟨u0.closed,u0.locked,u0.badLink,u0.on_,(u0.badSource.set x.index.toNat is),u0.earthed,u0.badBus⟩:State),0)))
  (.fk (bM x.kind 3) (.rg {an:=[(0, .map 0 (sP []) (O5 1 []) []),(3, .map 1 (sP [(.int .i64 1)]) (Dp u0) [23]),(6, .map 2 (sP Dy) (Dt u0) [23,21]),(9, .map 3 (sP Du) (Dr u0) [23,21,19]),(13, .look true (NM u0))],fr:=[(0,25)]} [.pf ⟨mO [some .i64] 1 1 0 (sP []) (O5 1 []) [(.int .i64 1)] (LY u0) [23] 1 (sP [(.int .i64 1)]) (Dp u0),⟨(fun i hi=>absurd hi (Nat.not_lt_zero i)),(by intro i hi j hj;match i,j,hi,hj with|0,0,_,_=>exact bI.1 (show d9 (CV.bL (.own 23 false u0.badBus.length)) [23]=true from by kernel_rfl)),0,(fun i hi=>absurd hi (Nat.not_lt_zero i)), .inr ⟨rfl,rfl⟩,rfl,rfl,(fun i hi=>absurd hi (Nat.not_lt_zero i))⟩⟩, .pf ⟨mO [some .i64] 1 1 1 (sP [(.int .i64 1)]) (Dp u0) [(.int .i64 2)] (N8 u0) [23,21] 2 (sP Dy) (Dt u0),⟨(by intro i hi;match i,hi with|0,_=>rfl),(by intro i hi j hj;match i,j,hi,hj with|0,0,_,_=>exact bI.1 (show d9 (CV.bL (.own 23 false u0.badBus.length)) [23,21]=true from by kernel_rfl)|1,0,_,_=>exact bI.1 (show d9 (CV.bL (.own 21 false u0.badSource.length)) [23,21]=true from by kernel_rfl)),1,(by intro i hi;match i,hi with|0,_=>rfl), .inr ⟨rfl,rfl⟩,rfl,rfl,(by intro i hi;match i,hi with|0,_=>exact fun _=> ⟨rfl,rfl⟩)⟩⟩, .pf ⟨mO [some .i64] 1 1 2 (sP Dy) (Dt u0) [(.int .i64 3)] (NM u0) [23,21,19] 3 (sP Du) (Dr u0),⟨(by intro i hi;match i,hi with|0,_=>rfl|1,_=>rfl),(by intro i hi j hj;match i,j,hi,hj with|0,0,_,_=>exact bI.1 (show d9 (CV.bL (.own 23 false u0.badBus.length)) [23,21,19]=true from by kernel_rfl)|1,0,_,_=>exact bI.1 (show d9 (CV.bL (.own 21 false u0.badSource.length)) [23,21,19]=true from by kernel_rfl)|2,0,_,_=>exact bI.1 (show d9 (CV.bL (.own 19 false u0.badLink.length)) [23,21,19]=true from by kernel_rfl)),2,(by intro i hi;match i,hi with|0,_=>rfl|1,_=>rfl), .inr ⟨rfl,rfl⟩,rfl,rfl,(by intro i hi;match i,hi with|0,_=>exact fun _=> ⟨rfl,rfl⟩|1,_=>exact fun _=> ⟨rfl,rfl⟩)⟩⟩, .m [0,2,1] [(bM x.kind 3)=true,(bM x.kind 1)=false,(bM x.kind 2)=false] (jw [some .i64] 1 1 3 (sP Du) (Dr u0) [(.int .i64 x.kind)] [(.d nS)] true (NM u0)) (fun⟨hb5,hb1,hb3,_⟩=> ⟨(by intro i hi;match i,hi with|0,_=>rfl|1,_=>rfl|2,_=>rfl), .inl ⟨rfl,2,by decide,congrArg some hb5,(by intro i hi;match i,hi with|0,_=>exact congrArg some hb1|1,_=>exact congrArg some hb3),rfl⟩⟩)]<| .cl 5 (aK x.index 0 (IntKind.wrap .i64 ((u0.badLink.length:Int) - 1))) fun u3=> .r<| .it (.rg {fz:=[16]} []<| .e ((⟨([]:List Bool),([]:List Bool),([]:List Bool),([]:List Bool),([]:List Bool),([]:List Bool),([]:List Bool)⟩:State),14))
  (.a1 ((0:Int)≤x.index∧x.index<(u0.badLink.length:Int))<| .rg {an:=[(5, .arr 0 (av af (u0.badLink.set x.index.toNat is)))]} [0, .t 0 x.index u0.badLink.length, .pf ⟨aI u0.badLink.length 1 (nk (av af u0.badLink) x.index.toNat 0 [(.bool is)]) (av af (u0.badLink.set x.index.toNat is)),fM _ _ _ _ _ _ _ _ rfl (fun j hj=>(match j,hj with|0,_=>rfl))⟩]<| .im (.ll 19 u0.badLink (u0.badLink.set x.index.toNat is))<| .rg {fz:=[17,18,19,20,21,22,23]} []<| .fz [16]<| .e ((⟨u0.closed,u0.locked,(u0.badLink.set x.index.toNat is),u0.on_,u0.badSource,u0.earthed,u0.badBus⟩:State),0)))
  (.rg {an:=[(0, .map 0 (sP []) (O5 1 []) []),(3, .map 1 (sP [(.int .i64 1)]) (Dp u0) [23]),(6, .map 2 (sP Dy) (Dt u0) [23,21]),(9, .map 3 (sP Du) (Dr u0) [23,21,19]),(13, .look false [(.d nS)])],fr:=[(0,25)]} [.pf ⟨mO [some .i64] 1 1 0 (sP []) (O5 1 []) [(.int .i64 1)] (LY u0) [23] 1 (sP [(.int .i64 1)]) (Dp u0),⟨(fun i hi=>absurd hi (Nat.not_lt_zero i)),(by intro i hi j hj;match i,j,hi,hj with|0,0,_,_=>exact bI.1 (show d9 (CV.bL (.own 23 false u0.badBus.length)) [23]=true from by kernel_rfl)),0,(fun i hi=>absurd hi (Nat.not_lt_zero i)), .inr ⟨rfl,rfl⟩,rfl,rfl,(fun i hi=>absurd hi (Nat.not_lt_zero i))⟩⟩, .pf ⟨mO [some .i64] 1 1 1 (sP [(.int .i64 1)]) (Dp u0) [(.int .i64 2)] (N8 u0) [23,21] 2 (sP Dy) (Dt u0),⟨(by intro i hi;match i,hi with|0,_=>rfl),(by intro i hi j hj;match i,j,hi,hj with|0,0,_,_=>exact bI.1 (show d9 (CV.bL (.own 23 false u0.badBus.length)) [23,21]=true from by kernel_rfl)|1,0,_,_=>exact bI.1 (show d9 (CV.bL (.own 21 false u0.badSource.length)) [23,21]=true from by kernel_rfl)),1,(by intro i hi;match i,hi with|0,_=>rfl), .inr ⟨rfl,rfl⟩,rfl,rfl,(by intro i hi;match i,hi with|0,_=>exact fun _=> ⟨rfl,rfl⟩)⟩⟩, .pf ⟨mO [some .i64] 1 1 2 (sP Dy) (Dt u0) [(.int .i64 3)] (NM u0) [23,21,19] 3 (sP Du) (Dr u0),⟨(by intro i hi;match i,hi with|0,_=>rfl|1,_=>rfl),(by intro i hi j hj;match i,j,hi,hj with|0,0,_,_=>exact bI.1 (show d9 (CV.bL (.own 23 false u0.badBus.length)) [23,21,19]=true from by kernel_rfl)|1,0,_,_=>exact bI.1 (show d9 (CV.bL (.own 21 false u0.badSource.length)) [23,21,19]=true from by kernel_rfl)|2,0,_,_=>exact bI.1 (show d9 (CV.bL (.own 19 false u0.badLink.length)) [23,21,19]=true from by kernel_rfl)),2,(by intro i hi;match i,hi with|0,_=>rfl|1,_=>rfl), .inr ⟨rfl,rfl⟩,rfl,rfl,(by intro i hi;match i,hi with|0,_=>exact fun _=> ⟨rfl,rfl⟩|1,_=>exact fun _=> ⟨rfl,rfl⟩)⟩⟩, .m [2,1,0] [(bM x.kind 1)=false,(bM x.kind 2)=false,(bM x.kind 3)=false] (jw [some .i64] 1 1 3 (sP Du) (Dr u0) [(.int .i64 x.kind)] [(.d nS)] false [(.d nS)]) (fun⟨hb1,hb3,hb5,_⟩=> ⟨(by intro i hi;match i,hi with|0,_=>rfl|1,_=>rfl|2,_=>rfl), .inr ⟨rfl,(by intro i hi;match i,hi with|0,_=>exact congrArg some hb1|1,_=>exact congrArg some hb3|2,_=>exact congrArg some hb5), .refl _⟩⟩)]<| .cl 5 (aK x.index 0 (-1)) fun u4=> .r<| .it (.rg {fz:=[16]} []<| .e ((⟨([]:List Bool),([]:List Bool),([]:List Bool),([]:List Bool),([]:List Bool),([]:List Bool),([]:List Bool)⟩:State),14))
  (.no))))))
theorem pq (p:aC) (s_:State) (l:(List Transfer)):dF Tryz.prog 83 (k28 p s_ l) [] (fun r=>(.dX [(.agg [(.own 0 false r.1.closed.length),(.own 1 false r.1.locked.length),(.own 2 false r.1.badLink.length),(.own 3 false r.1.on_.length),(.own 4 false r.1.badSource.length),(.own 5 false r.1.earthed.length),(.own 6 false r.1.badBus.length)]),(.one (.own 7 false r.2.1.length)),(sI r.2.2)])) (fun r=>[(0,some (bC 4 1 af r.1.closed)),(1,some (bC 4 1 af r.1.locked)),(2,some (bC 4 1 af r.1.badLink)),(3,some (bC 4 1 af r.1.on_)),(4,some (bC 4 1 af r.1.badSource)),(5,some (bC 4 1 af r.1.earthed)),(6,some (bC 4 1 af r.1.badBus)),(7,some (bC 3 1 (aB .i64) r.2.1)),(8,none)]) (jd p s_ l):=
  dZ tT mX Tryz.func83 (
  .rg {fr:=[(0,18),(1,19),(2,20)],fz:=[18,19]} []<| .cl 3 (lD p s_ l) fun r_=> .r<| .r<| .it (.r<| .im (.ad 7 21 3 1 (av (aB .i64) ([]:List Int)))<| .im (.BH 20 0 22 4 1 (av af ([]:List Bool)))<| .im (.BH 20 1 23 4 1 (av af ([]:List Bool)))<| .im (.BH 20 2 24 4 1 (av af ([]:List Bool)))<| .im (.BH 20 3 25 4 1 (av af ([]:List Bool)))<| .im (.BH 20 4 26 4 1 (av af ([]:List Bool)))<| .im (.BH 20 5 27 4 1 (av af ([]:List Bool)))<| .im (.BH 20 6 28 4 1 (av af ([]:List Bool)))<| .en ((⟨([]:List Bool),([]:List Bool),([]:List Bool),([]:List Bool),([]:List Bool),([]:List Bool),([]:List Bool)⟩:State),([]:List Int),r_) [] [(22,0),(23,1),(24,2),(25,3),(26,4),(27,5),(28,6),(21,7),(20,8)])
  (.cl 1 (kX [(0,29),(1,30),(2,31),(3,32),(4,33),(5,34),(6,35),(7,36)] (w9 s_)) fun u0=> .rg {fr:=[(2,37)]} []<| .rg {fr:=[(0,38)]} []<| .im (.BH 38 0 39 3 1 (av (aB .i64) ([]:List Int)))<| .cl 3 (kX [(0,29),(1,30),(2,31),(3,32),(4,33),(5,34),(6,35),(7,40)] (yj p u0 l)) fun u1=> .r<| .cl 0 (kX [(0,41),(1,40),(2,37),(3,38),(4,29),(5,30),(6,31),(7,32),(8,33),(9,34),(10,35),(11,39),(12,42),(13,43)] (yU u1.1 u1.2.1 u1.2.2.1 u1.2.2.2.1 u1.2.2.2.2.1 u0 u0 ([]:List Int))) fun u2=> .rf 41 [10,11] [] none 0 []<| .r<| .en ((⟨u2.1.closed,u0.locked,u0.badLink,u0.on_,u0.badSource,u0.earthed,u0.badBus⟩:State),u2.2.2,0) [] [(42,0),(30,1),(31,2),(32,3),(33,4),(34,5),(35,6),(43,7),(20,8)]))
theorem pY (p:aC) (s_:State) (x:Part):dF Tryz.prog 85 [(.agg (k1 p)),(.agg (k18 s_)),(.agg [(cI x.kind),(cI x.index)])] [] (fun r=>(.dX [(.agg [(.d (aQ none 1 af r.1.closed)),(.d (aQ none 1 af r.1.locked)),(.d (aQ none 1 af r.1.badLink)),(.d (aQ none 1 af r.1.on_)),(.d (aQ none 1 af r.1.badSource)),(.d (aQ none 1 af r.1.earthed)),(.d (aQ none 1 af r.1.badBus))]),(sI r.2)])) (fun _=>[]) (gH p s_ x):=
  dZ tT mX Tryz.func85 (
  .rg {fr:=[(0,4),(1,5),(2,6),(3,7)],fz:=[4,5,6]} []<| .cl 3 (BO p s_ x true) fun r_=> .r<| .en (r_.1,r_.2) [7] [])
section
variable (y:ah)
abbrev Rl:List SV:=[(.agg (BK y))]
end
theorem jK (y:ah):dF Tryz.prog 24 (Rl y) [] (fun r=>(vI r)) (fun _=>[]) (dL y):=
  dZ tT mX Tryz.func24 (
  .rg {fr:=[(0,47)]} []<| .cl 6 (kX [(0,48),(1,49),(2,50),(3,51),(4,52),(5,53),(6,54),(7,55),(8,56)] (pq y.plant y.state y.transfers)) fun r_=> .rg {fr:=[(11,57)]} []<| .r<| .it (.r<| .e r_.2.2)
  (.r<| .it (.r<| .e 2)
  (.rg {fz:=[47]} []<| .lp (σ:=Int) (β:=Unit) (0) [] [] ⟨[1,31,32],[],fun u0=>[(33,(vI u0))],fun u0=>[]⟩ ⟨[1],[],fun _=>[],fun _=>[]⟩
  (fun u0=> .r<| .it (.a1 (Nh y u0)<| .rg {fr:=[(3,85)]} []<| .cl 2 (Dq y u0) fun u3=> .r<| .it (.r<| .e (.done (.ret 120)))
  (.r<| .lp (σ:=Int) (β:=Unit) (0) [] [] ⟨[1,31,32,33,43,44],[],fun u1=>[(45,(vI u1))],fun u1=>[]⟩ ⟨[1,31,32,33],[],fun _=>[],fun _=>[]⟩
  (fun u1=> .r<| .it (.a1 ((0:Int)≤u1∧u1<(O8 y u0))<| .rg {fr:=[(2,92)],fz:=[92]} []<| .cl 5 (pY y.plant y.state (Tz y u0 u1)) fun u2=> .rg {fr:=[(9,93)]} []<| .r<| .it (.r<| .e (.done (.ret (.done (.ret u2.2)))))
  (.r<| .e (.next (k8 u1))))
  (.e (.done (.brk ()))))
  (fun _=> .r<| .e (.next (k8 u0)))))
  (.e (.done (.brk ()))))
  (fun _=> .r<| .it (.r<| .e 1)
  (.r<| .e 0)))))
theorem BI (l:(List Int)):dF Tryz.prog 58 [(sD (Cb l))] [] (fun r=>(vD (aQ none 1 (aB .i64) r))) (fun _=>[]) (ru l):=
  dZ tT mX Tryz.func58 (
  .r<| .r<| .a2 (l.length*8≤140737488355328) (l.length≤4611686018427387904)<| .rg {an:=[(2, .arr l.length (av (aB .i64) l))],fr:=[(2,1)],fz:=[1]} [0,1, .e (l.length), .pf ⟨aI l.length 1 (av (aB .i64) l) (av (aB .i64) l),gW _ _ _⟩]<| .e l)
theorem wJ (l:(List mE)):dF Tryz.prog 275 [(sD (aQ none 2 mE.cell l))] [] (fun r=>(vO 0 false r.length)) (fun r=>[(0,some (bC 282 2 mE.cell r))]) (pV l):=
  dZ tT mX Tryz.func275 (
  .r<| .r<| .a2 (l.length*16≤140737488355328) (l.length≤4611686018427387904)<| .rg {an:=[(2, .arr l.length (av mE.cell l))],fr:=[(2,1)]} [0,1, .e (l.length), .pf ⟨aI l.length 2 (av mE.cell l) (av mE.cell l),gW _ _ _⟩]<| .en l [] [(1,0)])
theorem BN (x:Link):dF Tryz.prog 228 [(.agg (k9 x))] [] (fun r=>(.v (.agg [(cI r.a),(cI r.b),(cI r.kind),(cI r.most),(cI r.ohm),(.d (aQ none 2 mE.cell r.trip))]))) (fun _=>[]) (nX x):=
  dZ tT mX Tryz.func228 (
  .rg {fr:=[(0,3),(1,4)]} []<| .cl 12 (kX [(0,5)] (wJ x.trip)) fun r_=> .rg {fz:=[5]} []<| .fz [4]<| .e (⟨x.a,x.b,x.kind,x.most,x.ohm,r_⟩:Link))
theorem vz (l:(List Source)):dF Tryz.prog 160 [(sD (k3 l))] [] (fun r=>(vO 0 false r.length)) (fun r=>[(0,some (bC 38 5 Source.cell r))]) (ny l):=
  dZ tT mX Tryz.func160 (
  .r<| .r<| .a2 (l.length*40≤140737488355328) (l.length≤4611686018427387904)<| .rg {an:=[(2, .arr l.length (av Source.cell l))],fr:=[(2,1)]} [0,1, .e (l.length), .pf ⟨aI l.length 5 (av Source.cell l) (av Source.cell l),gW _ _ _⟩]<| .en l [] [(1,0)])
theorem wH (l:(List Link)):dF Tryz.prog 161 [(sD (aQ none 6 Link.cell l))] [] (fun r=>(vO 0 false r.length)) (fun r=>[(0,some (bC 35 6 Link.cell r))]) (pQ l):=
  dZ tT mX Tryz.func161 (
  .r<| .r<| .r<| .im (.ad 3 16 35 6 (av Link.cell ([]:List Link)))<| .lp (σ:=((List Link) × Int)) (β:=(List Link)) (([]:List Link),0) [] [(16,9)] ⟨[0],[],fun(u0,i)=>[(3,(vO 9 false u0.length)),(4,(vI i))],fun(u0,i)=>[(9,some (bC 35 6 Link.cell u0))]⟩ ⟨[],[],fun u1=>[(3,(vO 9 false u1.length))],fun u1=>[(9,some (bC 35 6 Link.cell u1))]⟩
  (fun(u0,i)=> .r<| .it (.cl 5 (BN (at' l i.toNat)) fun r_=> .a3 ((0:Int)≤i∧i<(l.length:Int)) ((u0.length+[r_].length)*64≤140737488355328) (u0.length+[r_].length≤4611686018427387904)<| .rg {an:=[(6, .arr [r_].length (av Link.cell [r_])),(7, .arr (u0++[r_]).length (av Link.cell (u0++[r_])))],fr:=[(6,14),(7,15)]} [0,3, .pf ⟨[r_].length=1,rfl⟩, .pf ⟨aI 1 6 (mo 6 [(.int .i64 r_.a),(.int .i64 r_.b),(.int .i64 r_.kind),(.int .i64 r_.most),(.int .i64 r_.ohm),(aQ none 2 mE.cell r_.trip)]) (av Link.cell [r_]),(by intro i hi j hj;match i,j,hi,hj with|0,0,_,_=>rfl|0,1,_,_=>rfl|0,2,_,_=>rfl|0,3,_,_=>rfl|0,4,_,_=>rfl|0,5,_,_=>rfl)⟩, .e (u0.length),1,2, .pf ⟨(u0++[r_]).length=u0.length+[r_].length,List.length_append⟩, .pf ⟨aI (u0.length+[r_].length) 6 (oG (av Link.cell u0) u0.length (av Link.cell [r_])) (av Link.cell (u0++[r_])),dG _ _ _ _⟩]<| .r<| .en (.next ((u0++[r_]),(k8 i))) [] [(15,9)])
  (.e (.done (.brk u0))))
  (fun u1=> .r<| .en u1 [] [(9,0)]))
theorem wW (l:(List aM)):dF Tryz.prog 162 [(sD (aQ none 4 aM.cell l))] [] (fun r=>(vO 0 false r.length)) (fun r=>[(0,some (bC 147 4 aM.cell r))]) (pM l):=
  dZ tT mX Tryz.func162 (
  .r<| .r<| .a2 (l.length*32≤140737488355328) (l.length≤4611686018427387904)<| .rg {an:=[(2, .arr l.length (av aM.cell l))],fr:=[(2,1)]} [0,1, .e (l.length), .pf ⟨aI l.length 4 (av aM.cell l) (av aM.cell l),gW _ _ _⟩]<| .en l [] [(1,0)])
theorem bS (l:(List Bool)):dF Tryz.prog 163 [(sD (aQ none 1 af l))] [] (fun r=>(vO 0 false r.length)) (fun r=>[(0,some (bC 4 1 af r))]) (bZ l):=
  dZ tT mX Tryz.func163 (
  .r<| .r<| .a2 (l.length*1≤140737488355328) (l.length≤4611686018427387904)<| .rg {an:=[(2, .arr l.length (av af l))],fr:=[(2,1)]} [0,1, .e (l.length), .pf ⟨aI l.length 1 (av af l) (av af l),gW _ _ _⟩]<| .en l [] [(1,0)])
theorem wP (x:aC):dF Tryz.prog 86 (k0 x) [] (fun r=>(.v (.agg [(cI r.buses),(.own 0 false r.sources.length),(.own 1 false r.links.length),(.own 2 false r.racks.length)]))) (fun r=>[(0,some (bC 38 5 Source.cell r.sources)),(1,some (bC 35 6 Link.cell r.links)),(2,some (bC 147 4 aM.cell r.racks)),(3,none)]) (lN x):=
  dZ tT mX Tryz.func86 (
  .rg {fr:=[(0,5),(1,6)]} []<| .cl 4 (kX [(0,7)] (vz x.sources)) fun r_=> .cl 7 (kX [(0,8)] (wH x.links)) fun u0=> .cl 10 (kX [(0,9)] (wW x.racks)) fun u1=> .r<| .en (⟨x.buses,r_,u0,u1⟩:aC) [] [(7,0),(8,1),(9,2),(6,3)])
theorem wN (x:State):dF Tryz.prog 87 (ZF x) [] (fun r=>(.v (.agg [(.own 0 false r.closed.length),(.own 1 false r.locked.length),(.own 2 false r.badLink.length),(.own 3 false r.on_.length),(.own 4 false r.badSource.length),(.own 5 false r.earthed.length),(.own 6 false r.badBus.length)]))) (fun r=>[(0,some (bC 4 1 af r.closed)),(1,some (bC 4 1 af r.locked)),(2,some (bC 4 1 af r.badLink)),(3,some (bC 4 1 af r.on_)),(4,some (bC 4 1 af r.badSource)),(5,some (bC 4 1 af r.earthed)),(6,some (bC 4 1 af r.badBus)),(7,none)]) (lT x):=
  dZ tT mX Tryz.func87 (
  .rg {fr:=[(0,9),(1,10)],fz:=[9]} []<| .cl 2 (kX [(0,11)] (bS x.closed)) fun r_=> .cl 5 (kX [(0,12)] (bS x.locked)) fun u0=> .cl 8 (kX [(0,13)] (bS x.badLink)) fun u1=> .cl 11 (kX [(0,14)] (bS x.on_)) fun u2=> .cl 14 (kX [(0,15)] (bS x.badSource)) fun u3=> .cl 17 (kX [(0,16)] (bS x.earthed)) fun u4=> .cl 20 (kX [(0,17)] (bS x.badBus)) fun u5=> .r<| .en (⟨r_,u0,u1,u2,u3,u4,u5⟩:State) [] [(11,0),(12,1),(13,2),(14,3),(15,4),(16,5),(17,6),(10,7)])
theorem wO (l:(List Part)):dF Tryz.prog 88 [(sD (aQ none 2 Part.cell l))] [] (fun r=>(vO 0 false r.length)) (fun r=>[(0,some (bC 78 2 Part.cell r))]) (pU l):=
  dZ tT mX Tryz.func88 (
  .r<| .r<| .a2 (l.length*16≤140737488355328) (l.length≤4611686018427387904)<| .rg {an:=[(2, .arr l.length (av Part.cell l))],fr:=[(2,1)]} [0,1, .e (l.length), .pf ⟨aI l.length 2 (av Part.cell l) (av Part.cell l),gW _ _ _⟩]<| .en l [] [(1,0)])
theorem dO (s_:Int):dF Tryz.prog 93 [(sD (.int .u8 s_))] [] (fun r=>(vD (.fn 173 1 (pO [(yP [(.int .u8 r)] 0)])))) (fun _=>[]) (dB s_):=
  dZ tT mX Tryz.func93 (
  .rg {fr:=[(0,1)],fz:=[1]} []<| .r<| .e s_)
noncomputable def qa:eO:=⟨[29],Fh ([1,1,1,0,1,0,0,1,0,0,1,0,1,0]++[0]) (jB Tryz.f92),Fh ([1,1,1,0,1,0,0,1,0,0,1,0,1,0]++[1]) (jB Tryz.f92),51,[]⟩
theorem cO:dF Tryz.prog 94 [] [] (fun r=>(.v (.agg [(.d (.int .u8 r.e0)),(.d (.int .u8 r.e1)),(.d (.int .u8 r.e2)),(.d (.int .u8 r.e3)),(.d (.int .u8 r.e4))]))) (fun _=>[]) (dm):=
  dZ tT mX Tryz.func94 (
  .rg {fr:=[(0,1)]} []<| .rg {fz:=[1]} []<| .e (⟨1,2,4,8,16⟩:lV))
section
variable (r_:lV) (i:Int)
abbrev Oe:=(at' [r_.e0,r_.e1,r_.e2,r_.e3,r_.e4] i.toNat)
abbrev Fb:List DV:=[(.int .u8 (Oe r_ i))]
abbrev wU:List CV:=[(.d (.int .u8 r_.e0)),(.d (.int .u8 r_.e1)),(.d (.int .u8 r_.e2)),(.d (.int .u8 r_.e3)),(.d (.int .u8 r_.e4))]
end
theorem fK (s_:Int) (i:Int):dF Tryz.prog 113 [(sD (.int .u8 s_)),(sI i)] [] (fun r=>(vB r)) (fun _=>[]) (eD s_ i):=
  dZ tT mX Tryz.func113 (
  .r<| .cl 1 cO fun r_=> .a1 ((0:Int)≤i∧i<((5:Nat):Int))<| .rg {an:=[(3, .vals (Fb r_ i))]} [1,0, .dv 0 ⟨(0:Int)≤i∧i<((5:Nat):Int),i.toNat*1+1≤(wU r_).length,fun ax=>IV (n:=5) (sz:=1) (Nat.le_refl _) ax⟩, .dv 0 ⟨(0:Int)≤i∧i<((5:Nat):Int),((wU r_).drop (i.toNat*1)).take 1=(Fb r_ i).map .d,fun ax=>IC (n:=5) (sz:=1) (g:=fun q=>[(.d (.int .u8 (at' [r_.e0,r_.e1,r_.e2,r_.e3,r_.e4] q)))]) (by intro q hq;match q,hq with|0,_=>rfl|1,_=>rfl|2,_=>rfl|3,_=>rfl|4,_=>rfl) ax⟩]<| .e (!decide ((IntKind.wrap .u8 (((BitVec.ofInt (IntKind.bits .u8) s_ &&& BitVec.ofInt (IntKind.bits .u8) (Oe r_ i)).toNat:Int)))=0)))
section
variable (u1:Int) (o_:(List (Int × Bool))) (u2:Bool) (r_:lV) (u0:Int)
abbrev VN:Nat × Option Ob:=(0,some (.loop qa 0 [(4,(vP 1 0)),(5,(vP 2 0)),(6,(vP 3 0))]))
abbrev OL:Nat × Option Ob:=(1,some (.cells 196 [(.mp 4)]))
abbrev QV:Ob:=(.cells 198 [(.d (.int .u8 u1))])
abbrev OE:Nat × Option Ob:=(2,some (QV u1))
abbrev Kv:Ob:=(KT 198 4 false false 1 1 (aB .u8) af o_)
abbrev NZ:Nat × Option Ob:=(4,some (Kv o_))
abbrev XF:List (Nat × Option Ob):=[VN,OL,(OE u1),(3,some (.cells 4 [(cB u2)])),(NZ o_)]
abbrev SX:=(IntKind.wrap .u8 (((BitVec.ofInt (IntKind.bits .u8) u1 &&& ~~~ BitVec.ofInt (IntKind.bits .u8) (Oe r_ u0)).toNat:Int)))
abbrev Q7:=(aS bM (SX u1 r_ u0) o_)
abbrev Xz:=((Q7 u1 o_ r_ u0).getD false)
abbrev Ue:List CV:=[(cB (Xz u1 o_ r_ u0))]
abbrev XG:List DV:=[(.int .u8 (SX u1 r_ u0))]
abbrev YB:=(bif u2 then(Xz u1 o_ r_ u0)else false)
end
theorem sU (u0:Int) (o_:(List (Int × Bool))) (u1:Int) (u2:Bool):OW Tryz.prog 0 [(sI u0)] (XF u1 o_ u2) (fun _=>vB true) (fun r=>[VN,OL,(OE u1),(3,some (.cells 4 [(cB r)])),(NZ o_)]) (jV u0 o_ u1 u2):=
  VB tT mX qa ⟨[4,5,6],[0,1,2,3,4],fun _=>[(7,(vI u0))],fun _=>[]⟩ (.r<| .e ())
  (.cg 4 [(u2,true)] cO fun r_=> .a1 ((gB [(u2,true)]=true→(0:Int)≤u0∧u0<((5:Nat):Int)))<| .rg {an:=[(6, .vals (Fb r_ u0)),(8, .look (Q7 u1 o_ r_ u0).isSome (Ue u1 o_ r_ u0))]} [1,0, .dv 0 ⟨gB [(u2,true)]=true→(0:Int)≤u0∧u0<((5:Nat):Int),gB [(u2,true)]=true→u0.toNat*1+1≤(wU r_).length,fun ax hq=>IV (n:=5) (sz:=1) (Nat.le_refl _) (ax hq)⟩, .dv 0 ⟨gB [(u2,true)]=true→(0:Int)≤u0∧u0<((5:Nat):Int),gB [(u2,true)]=true→((wU r_).drop (u0.toNat*1)).take 1=(Fb r_ u0).map .d,fun ax hq=>IC (n:=5) (sz:=1) (g:=fun q=>[(.d (.int .u8 (at' [r_.e0,r_.e1,r_.e2,r_.e3,r_.e4] q)))]) (by intro q hq;match q,hq with|0,_=>rfl|1,_=>rfl|2,_=>rfl|3,_=>rfl|4,_=>rfl) (ax hq)⟩, .pf ⟨jw [some .u8] 1 1 o_.length (si (aB .u8) o_) (uz af o_) (XG u1 r_ u0) [(.d (.bool false))] (Q7 u1 o_ r_ u0).isSome (Ue u1 o_ r_ u0),iF (fun _=>rfl) (fun _ _=>rfl) o_ (SX u1 r_ u0) false rfl rfl rfl⟩]<| .e (YB u1 o_ u2 r_ u0))
section
variable (x1:Int)
abbrev QS:List SV:=[(.one (.yl 0)),(sD (yP [(.int .u8 x1)] 0))]
end
theorem pE (x1:Int) (o_:(List (Int × Bool))) (u0:Int) (u1:Bool):dF Tryz.prog 173 (QS x1) (XF u0 o_ u1) (fun r=>(.dX [])) (fun r=>[VN,OL,(OE u0),(3,some (.cells 4 [(cB r)])),(NZ o_)]) (j6 x1 o_ u0 u1):=
  dZ tT mX Tryz.func173 (
  .r<| .lp (σ:=(Bool × Int)) (β:=Bool) (u1,0) [] [] ⟨[0,1],[0,1,2,4],fun(o0,t4)=>[(4,(vI t4))],fun(o0,t4)=>[(3,some (.cells 4 [(cB o0)]))]⟩ ⟨[],[0,1,2,4],fun o01=>[],fun o01=>[(3,some (.cells 4 [(cB o01)]))]⟩
  (fun(o0,t4)=> .r<| .it (.r<| .cl 2 (fK x1 t4) fun r_=> .fk r_ (.cy 6 (sU t4 o_ u0 o0) fun u2=> .rg {ov:=[(3,true,1)]} [2, .k 0]<| .f<| .r<| .e (.next (u2,(k8 t4))))
  (.rg {ov:=[(3,false,0)],sk:=[4,5,6,7]} [1]<| .f<| .r<| .e (.next (o0,(k8 t4)))))
  (.e (.done (.brk o0))))
  (fun o01=> .e o01))
noncomputable def om:eO:=⟨[9],Fh ([1,1,0,1,0]++[0]) (jB Tryz.f167),Fh ([1,1,0,1,0]++[1]) (jB Tryz.f167),22,[]⟩
section
variable (u0:ah) (u1:Int)
abbrev U7:Nat × Option Ob:=(0,some (.loop om 0 [(2,(vP 1 0)),(5,(vP 2 0))]))
abbrev VA:Ob:=(.cells 73 (BK u0))
abbrev FV:Nat × Option Ob:=(1,some (VA u0))
abbrev Ym:List (Nat × Option Ob):=[U7,(FV u0),(2,some (.cells 3 [(cI u1)]))]
end
theorem rO (x9:Int) (u0:ah) (u1:Int):OW Tryz.prog 0 [(sI x9)] (Ym u0 u1) (fun _=>vB true) (fun r=>[U7,(FV u0),(2,some (.cells 3 [(cI r)]))]) (ja x9 u0 u1):=
  VB tT mX om ⟨[2,5],[0,1,2],fun _=>[(6,(vI x9))],fun _=>[]⟩ (.r<| .e ())
  (.a1 (Nh u0 x9)<| .r<| .e (IntKind.wrap .i64 (u1+((at' u0.jobs x9.toNat).people))))
theorem uV (x1:Int) (u0:ah) (u1:Int):dF Tryz.prog 173 (QS x1) (Ym u0 u1) (fun r=>(.dX [])) (fun r=>[U7,(FV u0),(2,some (.cells 3 [(cI r)]))]) (kS x1 u0 u1):=
  dZ tT mX Tryz.func173 (
  .r<| .lp (σ:=(Int × Int)) (β:=Int) (u1,0) [] [] ⟨[0,1],[0,1],fun(o0,t4)=>[(4,(vI t4))],fun(o0,t4)=>[(2,some (.cells 3 [(cI o0)]))]⟩ ⟨[],[0,1],fun o01=>[],fun o01=>[(2,some (.cells 3 [(cI o01)]))]⟩
  (fun(o0,t4)=> .r<| .it (.r<| .cl 2 (fK x1 t4) fun r_=> .fk r_ (.cy 6 (rO t4 u0 o0) fun u2=> .rg {ov:=[(3,true,1)]} [2, .k 0]<| .f<| .r<| .e (.next (u2,(k8 t4))))
  (.rg {ov:=[(3,false,0)],sk:=[4,5,6,7]} [1]<| .f<| .r<| .e (.next (o0,(k8 t4)))))
  (.e (.done (.brk o0))))
  (fun o01=> .e o01))
section
variable (y:ah) (s_:Int)
abbrev NJ:List SV:=[(.agg (BK y)),(sD (.int .u8 s_))]
end
theorem wI (y:ah) (s_:Int):dF Tryz.prog 167 (NJ y s_) [] (fun r=>(vB r)) (fun _=>[]) (jC y s_):=
  dZ tT mX Tryz.func167 (
  .rg {fr:=[(0,3)]} []<| .rg {fr:=[(0,4)]} []<| .cl 1 (dO s_) fun r_=> .r<| .cl 0 (kX [(0,5),(1,3),(2,4)] (uV r_ y 0)) fun u0=> .rf 5 [2,5] [] none 0 []<| .r<| .e (decide (u0≤y.people)))
section
variable (u0:ah) (u1:Int)
abbrev Jf:=(pO [(.int .i64 u0.plant.buses),(NN u0),(Nb u0),(Nc u0),(NH u0),(Oa u0),(Le u0),(Nw u0),(K8 u0),(Ow u0),(Lj u0),(NK u0),(aQ none 6 dP.cell u0.jobs),(.int .i64 u0.people),(.bool u0.redundant)])
abbrev JQ:List (Nat × Option Ob):=[(0,some (QV u1))]
end
theorem wT (u0:ah) (u1:Int):dF Tryz.prog 172 [(sD (.fna 167 15 (Jf u0))),(.one (.ptr 0 0))] (JQ u1) (fun r=>(vB r)) (fun r=>(JQ u1)) (mr u0 u1):=
  dZ tT mX Tryz.func172 (
  .r<| .cl 2 (wI u0 u1) fun r_=> .r<| .e (!r_))
noncomputable def mg:eO:=⟨[9],Fh ([1,1,0,1,0]++[0]) (jB Tryz.f230),Fh ([1,1,0,1,0]++[1]) (jB Tryz.f230),19,[]⟩
section
variable (u0:ah) (u1:(List Part))
abbrev VY:Nat × Option Ob:=(0,some (.loop mg 0 [(2,(vP 1 0)),(5,(vP 2 0))]))
abbrev XV:List (Nat × Option Ob):=[VY,(FV u0),(2,some (.cells 79 [(.own 3 false u1.length)])),(3,some (bC 78 2 Part.cell u1))]
end
theorem uJ (x9:Int) (u0:ah) (u1:(List Part)):OW Tryz.prog 0 [(sI x9)] (XV u0 u1) (fun _=>vB true) (fun r=>[VY,(FV u0),(2,some (.cells 79 [(.own 4 false r.length)])),(3,none),(4,some (bC 78 2 Part.cell r))]) (kP x9 u0 u1):=
  VB tT mX mg ⟨[2,5],[0,1,2,3],fun _=>[(6,(vI x9))],fun _=>[]⟩ (.r<| .e ())
  (.a3 (Nh u0 x9) ((u1.length+(Aa u0 x9).length)*16≤140737488355328) (u1.length+(Aa u0 x9).length≤4611686018427387904)<| .rg {an:=[(7, .arr (u1++(Aa u0 x9)).length (av Part.cell (u1++(Aa u0 x9))))],fr:=[(7,5)]} [0, .e (u1.length),1,2, .pf ⟨(u1++(Aa u0 x9)).length=u1.length+(Aa u0 x9).length,List.length_append⟩, .pf ⟨aI (u1.length+(Aa u0 x9).length) 2 (oG (av Part.cell u1) u1.length (av Part.cell (Aa u0 x9))) (av Part.cell (u1++(Aa u0 x9))),dG _ _ _ _⟩]<| .en (u1++(Aa u0 x9)) [] [(5,4)])
theorem mH (x1:Int) (u0:ah) (u1:(List Part)):dF Tryz.prog 173 (QS x1) (XV u0 u1) (fun r=>(.dX [])) (fun r=>[VY,(FV u0),(2,some (.cells 79 [(.own 4 false r.length)])),(3,none),(4,some (bC 78 2 Part.cell r))]) (kT x1 u0 u1):=
  dZ tT mX Tryz.func173 (
  .r<| .im (.re 2 0 3 8)<| .lp (σ:=((List Part) × Int)) (β:=(List Part)) (u1,0) [] [(8,7)] ⟨[0,1],[0,1],fun(o0,t4)=>[(4,(vI t4))],fun(o0,t4)=>[(2,some (.cells 79 [(.own 7 false o0.length)])),(3,none),(7,some (bC 78 2 Part.cell o0))]⟩ ⟨[],[0,1],fun o01=>[],fun o01=>[(2,some (.cells 79 [(.own 7 false o01.length)])),(3,none),(7,some (bC 78 2 Part.cell o01))]⟩
  (fun(o0,t4)=> .r<| .it (.r<| .cl 2 (fK x1 t4) fun r_=> .fk r_ (.cy 6 (Y3 [(3,7),(4,8)] (uJ t4 u0 o0)) fun u2=> .rg {ov:=[(3,true,1)]} [2, .k 0]<| .f<| .r<| .en (.next (u2,(k8 t4))) [] [(8,7)])
  (.rg {ov:=[(3,false,0)],sk:=[4,5,6,7]} [1]<| .f<| .r<| .e (.next (o0,(k8 t4)))))
  (.e (.done (.brk o0))))
  (fun o01=> .en o01 [] [(7,4)]))
section
variable (r_:Int) (y:ah) (u0:(List Part))
abbrev Oh:List SV:=[(.one (.yl 8)),(sD (yP [(.int .u8 r_)] 0))]
abbrev V9:Nat × Option Ob:=(8,some (.loop mg 0 [(2,(vP 5 0)),(5,(vP 6 0))]))
abbrev Vy:Nat × Option Ob:=(5,some (VA y))
abbrev Ya:List (Nat × Option Ob):=[V9,(Vy y),(6,some (.cells 79 [(.own 7 false (([]:List Part).length))])),(7,some (bC 78 2 Part.cell ([]:List Part)))]
abbrev Sy:List (Nat × Option Ob):=[V9,(Vy y),(6,some (.cells 79 [(.own 7 false 0)])),(7,some (.arr 78 2 0 (av Part.cell ([]:List Part))))]
abbrev WX:List (Nat × Option Ob):=[V9,(Vy y),(6,some (.cells 79 [(.own 9 false u0.length)])),(7,none),(9,some (bC 78 2 Part.cell u0))]
end
theorem rq (y:ah) (s_:Int):dF Tryz.prog 230 (NJ y s_) [] (fun r=>(vO 0 false r.length)) (fun r=>[(0,some (bC 78 2 Part.cell r))]) (fP y s_):=
  dZ tT mX Tryz.func230 (
  .rg {fr:=[(0,5)]} []<| .rg {fr:=[(0,6)]} []<| .cl 1 (dO s_) fun r_=> .r<| .im (.BH 6 0 7 78 2 (av Part.cell ([]:List Part)))<| .cl 0 ⟨fun{u0} hr_1=>((Fn.Uz (args:=(Oh r_)) (args':=(Oh r_)) (hin:=(Ya y)) (hin':=(Sy y)) (Fn.yh [(0,8),(1,5),(2,6),(3,7),(4,9)] (mH r_ y ([]:List Part) hr_1) (by kernel_rfl) (by kernel_rfl) (by kernel_rfl) (by kernel_rfl)) ⟨rZ.refl _,rZ.refl _,trivial⟩ ⟨rfl, .refl _,⟨rfl, .refl _,⟨rfl,mQ ⟨mZ.of (congrArg (CV.own _ _) (by simp only [List.length_set,List.length_append,List.length_cons,List.length_nil,List.length_replicate,List.length_drop,fD])),trivial⟩,⟨rfl,Bl (by simp only [List.length_set,List.length_append,List.length_cons,List.length_nil,List.length_replicate,List.length_drop,fD]),trivial⟩⟩⟩⟩):Fn Tryz.prog 173 (Oh r_) (Sy y) (.dX []) (WX y u0))⟩ fun u0=> .rf 8 [2,5] [] none 0 []<| .r<| .en u0 [] [(9,0)])
section
variable (u0:Int) (r_:(List Part))
abbrev Xp:List SV:=[(sD (.sl none 2 u0.toNat (av Part.cell r_))),(.agg [(cI ((at' r_ u0.toNat).kind)),(cI ((at' r_ u0.toNat).index))])]
end
theorem xq (y:ah) (s_:Int):dF Tryz.prog 168 (NJ y s_) [] (fun r=>(vB r)) (fun _=>[]) (j4 y s_):=
  dZ tT mX Tryz.func168 (
  .rg {fr:=[(0,6)],fz:=[6]} []<| .cl 2 (kX [(0,7)] (rq y s_)) fun r_=> .r<| .fz [7]<| .r<| .lp (σ:=Int) (β:=Unit) (0) [] [] ⟨[5,11,12],[],fun u0=>[(13,(vI u0))],fun u0=>[]⟩ ⟨[],[],fun _=>[],fun _=>[]⟩
  (fun u0=> .r<| .it (.a1 ((0:Int)≤u0∧u0<(r_.length:Int))<| .rg {fr:=[(3,11)],fz:=[11]} []<| .cl 4 ⟨fun{u1} hr_1=>((Fn.Uz (args:=[(sD (aQ none 2 Part.cell (Au r_ 0 u0.toNat))),(.agg [(cI ((at' r_ u0.toNat).kind)),(cI ((at' r_ u0.toNat).index))])]) (args':=(Xp u0 r_)) (hin:=[]) (hin':=[]) (mM (Au r_ 0 u0.toNat) (at' r_ u0.toNat) hr_1) ⟨rZ.one (mZ.d (ow.WO (by first|rw [List.length_append,List.length_drop]|simp only [List.length_set,List.length_drop,fD]|exact List.length_replicate) (.inr rfl) (Pb _ _ _ _))),rZ.refl _,trivial⟩ trivial):Fn Tryz.prog 157 (Xp u0 r_) [] (vB u1) [])⟩ fun u1=> .a1 ((0:Int)≤u0∧u0≤(r_.length:Int))<| .rg {} [0,1]<| .it (.r<| .e (.done (.ret false)))
  (.r<| .e (.next (k8 u0))))
  (.e (.done (.brk ()))))
  (fun _=> .r<| .e true))
theorem tV (u0:ah) (u1:Int):dF Tryz.prog 172 [(sD (.fna 168 15 (Jf u0))),(.one (.ptr 0 0))] (JQ u1) (fun r=>(vB r)) (fun r=>(JQ u1)) (jX u0 u1):=
  dZ tT mX Tryz.func172 (
  .r<| .cl 2 (xq u0 u1) fun r_=> .r<| .e (!r_))
theorem wG (y:ah) (s_:Int):dF Tryz.prog 230 (NJ y s_) [] (fun r=>(vD (aQ none 2 Part.cell r))) (fun _=>[]) (fP y s_):=
  dZ tT mX Tryz.func230 (
  .rg {fr:=[(0,5)]} []<| .rg {fr:=[(0,6)]} []<| .cl 1 (dO s_) fun r_=> .r<| .im (.BH 6 0 7 78 2 (av Part.cell ([]:List Part)))<| .cl 0 ⟨fun{u0} hr_1=>((Fn.Uz (args:=(Oh r_)) (args':=(Oh r_)) (hin:=(Ya y)) (hin':=(Sy y)) (Fn.yh [(0,8),(1,5),(2,6),(3,7),(4,9)] (mH r_ y ([]:List Part) hr_1) (by kernel_rfl) (by kernel_rfl) (by kernel_rfl) (by kernel_rfl)) ⟨rZ.refl _,rZ.refl _,trivial⟩ ⟨rfl, .refl _,⟨rfl, .refl _,⟨rfl,mQ ⟨mZ.of (congrArg (CV.own _ _) (by simp only [List.length_set,List.length_append,List.length_cons,List.length_nil,List.length_replicate,List.length_drop,fD])),trivial⟩,⟨rfl,Bl (by simp only [List.length_set,List.length_append,List.length_cons,List.length_nil,List.length_replicate,List.length_drop,fD]),trivial⟩⟩⟩⟩):Fn Tryz.prog 173 (Oh r_) (Sy y) (.dX []) (WX y u0))⟩ fun u0=> .rf 8 [2,5] [] none 0 []<| .rg {fz:=[9]} []<| .e u0)
section
variable (s0:(List Bool)) (s1:(List Bool)) (s2:(List Bool)) (s3:(List Bool)) (s4:(List Bool)) (s5:(List Bool)) (s6:(List Bool))
abbrev WV:List (Nat × Option Ob):=[(17,some (.cells 29 [(.d (aQ none 1 af s0)),(.d (aQ none 1 af s1)),(.d (aQ none 1 af s2)),(.d (aQ none 1 af s3)),(.d (aQ none 1 af s4)),(.d (aQ none 1 af s5)),(.d (aQ none 1 af s6))]))]
end
theorem CU (p:aC) (s_:State) (l:(List Transfer)) (u2:(List Part)):dF Tryz.prog 247 [(.agg (k1 p)),(.agg (k18 s_)),(sD (k27 l)),(sD (aQ none 2 Part.cell u2))] [] (fun r=>(.dX [(.agg [(.own 0 false r.1.closed.length),(.own 1 false r.1.locked.length),(.own 2 false r.1.badLink.length),(.own 3 false r.1.on_.length),(.own 4 false r.1.badSource.length),(.own 5 false r.1.earthed.length),(.own 6 false r.1.badBus.length)]),(sI r.2)])) (fun r=>[(0,some (bC 4 1 af r.1.closed)),(1,some (bC 4 1 af r.1.locked)),(2,some (bC 4 1 af r.1.badLink)),(3,some (bC 4 1 af r.1.on_)),(4,some (bC 4 1 af r.1.badSource)),(5,some (bC 4 1 af r.1.earthed)),(6,some (bC 4 1 af r.1.badBus)),(7,none)]) (oP p s_ l u2):=
  dZ tT mX Tryz.func247 (
  .rg {fr:=[(0,16),(1,17),(2,18)],fz:=[16]} []<| .cl 3 (lD p s_ l) fun r_=> .r<| .r<| .it (.r<| .im (.BH 18 0 19 4 1 (av af ([]:List Bool)))<| .im (.BH 18 1 20 4 1 (av af ([]:List Bool)))<| .im (.BH 18 2 21 4 1 (av af ([]:List Bool)))<| .im (.BH 18 3 22 4 1 (av af ([]:List Bool)))<| .im (.BH 18 4 23 4 1 (av af ([]:List Bool)))<| .im (.BH 18 5 24 4 1 (av af ([]:List Bool)))<| .im (.BH 18 6 25 4 1 (av af ([]:List Bool)))<| .en (Yh r_) [] [(19,0),(20,1),(21,2),(22,3),(23,4),(24,5),(25,6),(18,7)])
  (.r<| .lp (σ:=((List Bool) × (List Bool) × (List Bool) × (List Bool) × (List Bool) × (List Bool) × (List Bool) × Int)) (β:=((List Bool) × (List Bool) × (List Bool) × (List Bool) × (List Bool) × (List Bool) × (List Bool))) (s_.closed,s_.locked,s_.badLink,s_.on_,s_.badSource,s_.earthed,s_.badBus,0) [] [] ⟨[2,4,5,8,24,25],[18],fun(s0,s1,s2,s3,s4,s5,s6,u1)=>[(26,(vI u1))],fun(s0,s1,s2,s3,s4,s5,s6,u1)=>(WV s0 s1 s2 s3 s4 s5 s6)⟩ ⟨[2,4,5,8],[18],fun(u3,u4,u5,u6,u7,u8,u9)=>[],fun(u3,u4,u5,u6,u7,u8,u9)=>(WV u3 u4 u5 u6 u7 u8 u9)⟩
  (fun(s0,s1,s2,s3,s4,s5,s6,u1)=> .r<| .it (.a1 ((0:Int)≤u1∧u1<(u2.length:Int))<| .rg {fr:=[(2,29)],fz:=[29]} []<| .r<| .cl 3 (pY p (⟨s0,s1,s2,s3,s4,s5,s6⟩:State) (at' u2 u1.toNat)) fun u0=> .r<| .r<| .it (.r<| .im (.BH 18 0 30 4 1 (av af ([]:List Bool)))<| .im (.BH 18 1 31 4 1 (av af ([]:List Bool)))<| .im (.BH 18 2 32 4 1 (av af ([]:List Bool)))<| .im (.BH 18 3 33 4 1 (av af ([]:List Bool)))<| .im (.BH 18 4 34 4 1 (av af ([]:List Bool)))<| .im (.BH 18 5 35 4 1 (av af ([]:List Bool)))<| .im (.BH 18 6 36 4 1 (av af ([]:List Bool)))<| .en (.done (.ret ((⟨([]:List Bool),([]:List Bool),([]:List Bool),([]:List Bool),([]:List Bool),([]:List Bool),([]:List Bool)⟩:State),u0.2))) [] [(30,0),(31,1),(32,2),(33,3),(34,4),(35,5),(36,6),(18,7)])
  (.r<| .e (.next (u0.1.closed,u0.1.locked,u0.1.badLink,u0.1.on_,u0.1.badSource,u0.1.earthed,u0.1.badBus,(k8 u1)))))
  (.e (.done (.brk (s0,s1,s2,s3,s4,s5,s6)))))
  (fun(u3,u4,u5,u6,u7,u8,u9)=> .cl 3 (kX [(0,37),(1,38),(2,39),(3,40),(4,41),(5,42),(6,43),(7,44),(8,45)] (pq p (⟨u3,u4,u5,u6,u7,u8,u9⟩:State) l)) fun v0=> .r<| .r<| .en (v0.1,v0.2.2) [] [(37,0),(38,1),(39,2),(40,3),(41,4),(42,5),(43,6),(18,7)])))
theorem Ad (p:aC) (s_:State):dF Tryz.prog 126 (k17 s_ p) [] (fun r=>(.dX [(sD (aQ none 1 af r.1)),(sI r.2)])) (fun _=>[]) (dJ p s_):=
  dZ tT mX Tryz.func126 (
  .rg {fr:=[(0,7),(1,8)],fz:=[7,8]} []<| .cl 2 (eT p s_) fun r_=> .r<| .r<| .it (.r<| .e (([]:List Bool),r_))
  (.a3 ((0:Int)≤p.buses) ((1:Int)*p.buses≤281474976710656) ((p.buses:Int)≤9223372036854775807)<| .rg {an:=[(2, .arr (Va p).length (YJ p))],fr:=[(2,9)]} [0, .e ((p.buses:Int)),1,2, .pf ⟨(Va p).length=p.buses.toNat,List.length_replicate⟩, .pf ⟨aI p.buses.toNat 1 (fun _ j=>[(.bool false)].getD j .nilp) (YJ p),mU _ _ _ _ _ (fun j hj=>(match j,hj with|0,_=>rfl))⟩]<| .cl 2 (lZ p s_) fun u1=> .r<| .lp (σ:=((List Bool) × Int)) (β:=(List Bool)) ((Va p),0) [] [] ⟨[23,24],[],fun(u4,u0)=>[(7,(vO 9 true u4.length)),(25,(vI u0))],fun(u4,u0)=>[(9,some (bC 4 1 af u4))]⟩ ⟨[],[],fun u5=>[(7,(vO 9 true u5.length))],fun u5=>[(9,some (bC 4 1 af u5))]⟩
  (fun(u4,u0)=> .r<| .it (.a1 ((0:Int)≤u0∧u0<(u1.length:Int))<| .rg {fr:=[(2,13)]} []<| .rg {fz:=[13]} []<| .lp (σ:=((List Bool) × Int)) (β:=(List Bool)) (u4,0) [] [] ⟨[9,23,24,25,30,31],[],fun(u2,u3)=>[(7,(vO 9 true u2.length)),(32,(vI u3))],fun(u2,u3)=>[(9,some (bC 4 1 af u2))]⟩ ⟨[23,24,25],[],fun u6=>[(7,(vO 9 true u6.length))],fun u6=>[(9,some (bC 4 1 af u6))]⟩
  (fun(u2,u3)=> .r<| .it (.a1 ((0:Int)≤u3∧u3<(((at' u1 u0.toNat).buses).length:Int))<| .r<| .a1 (ZR u1 u0 u3 u2)<| .rg {an:=[(7, .arr 0 (YN u1 u0 u3 u2))]} [0, .t 0 (Wi u1 u0 u3) u2.length, .pf ⟨aI u2.length 1 (ZT u1 u0 u3 u2) (YN u1 u0 u3 u2),fM _ _ _ _ _ _ _ _ rfl (fun j hj=>(match j,hj with|0,_=>rfl))⟩]<| .im (.ll 9 u2 (YP u1 u0 u3 u2))<| .r<| .e (.next (k77 u1 u0 u3 u2)))
  (.e (.done (.brk u2))))
  (fun u6=> .r<| .e (.next (u6,(k8 u0)))))
  (.e (.done (.brk u4))))
  (fun u5=> .rg {fz:=[9]} []<| .e (u5,0))))
section
variable (p:aC) (u0:Int) (r_:((List Bool) × Int)) (u1:(List bJ))
abbrev yY:=((at' p.racks u0.toNat).feeds)
abbrev SC:List CV:=[(cI ((yY p u0).e0)),(cI ((yY p u0).e1))]
abbrev X9:=(bif (decide (0≤((yY p u0).e0)))then(at' r_.1 (((yY p u0).e0).toNat))else false)
abbrev XP:=(bif (decide (0≤((yY p u0).e1)))then(at' r_.1 (((yY p u0).e1).toNat))else false)
abbrev La:=(⟨(X9 p u0 r_),(XP p u0 r_)⟩:bJ)
abbrev Yo:=(u1.length+[(La p u0 r_)].length)
abbrev Wd:=(av bJ.cell [(La p u0 r_)])
abbrev Ud:=(u1++[(La p u0 r_)])
abbrev X7:=(av bJ.cell (Ud p u0 r_ u1))
end
theorem Fq (p:aC) (s_:State):dF Tryz.prog 56 (k17 s_ p) [] (fun r=>(.dX [(sD (aQ none 2 bJ.cell r.1)),(sI r.2)])) (fun _=>[]) (sH p s_):=
  dZ tT mX Tryz.func56 (
  .rg {fr:=[(0,18),(1,19)],fz:=[19]} []<| .cl 2 (Ad p s_) fun r_=> .r<| .r<| .it (.r<| .e (([]:List bJ),r_.2))
  (.r<| .r<| .im (.ad 8 36 133 2 (av bJ.cell ([]:List bJ)))<| .lp (σ:=((List bJ) × Int)) (β:=(List bJ)) (([]:List bJ),0) [] [(36,23)] ⟨[6,24,25],[],fun(u1,u0)=>[(8,(vO 23 false u1.length)),(26,(vI u0))],fun(u1,u0)=>[(23,some (bC 133 2 bJ.cell u1))]⟩ ⟨[],[],fun u2=>[(8,(vO 23 false u2.length))],fun u2=>[(23,some (bC 133 2 bJ.cell u2))]⟩
  (fun(u1,u0)=> .r<| .it (.a1 ((0:Int)≤u0∧u0<(p.racks.length:Int))<| .rg {fr:=[(2,32)],fz:=[32]} []<| .rg {fr:=[(0,33)]} []<| .r<| .ul 11<| .r<| .t<| .rg {an:=[(1, .vals [(.int .i64 ((yY p u0).e0))])]} [.pf ⟨(0:Int)≤0∧(0:Int)<(2:Nat),(by decide)⟩, .pf ⟨0*1+1≤(SC p u0).length,Nat.le_of_ble_eq_true rfl⟩, .pf ⟨((SC p u0).drop (0*1)).take 1=[(.int .i64 ((yY p u0).e0))].map .d,rfl⟩]<| .a1 ((gB [((decide (0≤((yY p u0).e0))),true)]=true→(0:Int)≤(yY p u0).e0∧(yY p u0).e0<(r_.1.length:Int)))<| .rg {} [0, .pf ⟨(0:Int)≤0∧(0:Int)<(2:Nat),(by decide)⟩]<| .r<| .im (.dp [6,8,11,24,25,26,31,32])<| .r<| .t<| .rg {an:=[(1, .vals [(.int .i64 ((yY p u0).e1))])]} [.pf ⟨(0:Int)≤1∧(1:Int)<(2:Nat),(by decide)⟩, .pf ⟨1*1+1≤(SC p u0).length,Nat.le_of_ble_eq_true rfl⟩, .pf ⟨((SC p u0).drop (1*1)).take 1=[(.int .i64 ((yY p u0).e1))].map .d,rfl⟩]<| .a1 ((gB [((decide (0≤((yY p u0).e1))),true)]=true→(0:Int)≤(yY p u0).e1∧(yY p u0).e1<(r_.1.length:Int)))<| .rg {} [0, .pf ⟨(0:Int)≤1∧(1:Int)<(2:Nat),(by decide)⟩]<| .r<| .im (.dp [6,8,11,24,25,26,31,32])<| .r<| .f<| .a2 ((Yo p u0 r_ u1)*2≤140737488355328) (u1.length+[(La p u0 r_)].length≤4611686018427387904)<| .rg {an:=[(2, .arr [(La p u0 r_)].length (Wd p u0 r_)),(3, .arr (Ud p u0 r_ u1).length (X7 p u0 r_ u1))],fr:=[(2,34),(3,35)]} [.pf ⟨[(La p u0 r_)].length=1,rfl⟩, .pf ⟨aI 1 2 (mo 2 [(.bool (X9 p u0 r_)),(.bool (XP p u0 r_))]) (Wd p u0 r_),(by intro i hi j hj;match i,j,hi,hj with|0,0,_,_=>rfl|0,1,_,_=>rfl)⟩, .e (u1.length),0,1, .pf ⟨(Ud p u0 r_ u1).length=u1.length+[(La p u0 r_)].length,List.length_append⟩, .pf ⟨aI (Yo p u0 r_ u1) 2 (oG (av bJ.cell u1) u1.length (Wd p u0 r_)) (X7 p u0 r_ u1),dG _ _ _ _⟩]<| .r<| .en (.next ((Ud p u0 r_ u1),(k8 u0))) [] [(35,23)])
  (.e (.done (.brk u1))))
  (fun u2=> .rg {fz:=[23]} []<| .e (u2,0))))
theorem qY (y:ah) (u2:(List Part)) (u1:Int):dF Tryz.prog 231 [(.agg (BK y)),(sD (aQ none 2 Part.cell u2)),(sI u1)] [] (fun r=>(vB r)) (fun _=>[]) (jH y u2 u1):=
  dZ tT mX Tryz.func231 (
  .rg {fr:=[(0,14)]} []<| .cl 7 (kX [(0,15),(1,16),(2,17),(3,18),(4,19),(5,20),(6,21),(7,22)] (CU y.plant y.state y.transfers u2)) fun r_=> .rg {fr:=[(11,23)],fz:=[15,16,17,18,19,20,21]} []<| .fz [23]<| .cl 3 (Fq y.plant r_.1) fun u3=> .r<| .r<| .lp (σ:=Int) (β:=Unit) (0) [] [] ⟨[2,9,33,34],[],fun u0=>[(35,(vI u0))],fun u0=>[]⟩ ⟨[],[],fun _=>[],fun _=>[]⟩
  (fun u0=> .r<| .it (.a1 ((0:Int)≤u0∧u0<(y.plant.racks.length:Int))<| .rg {fr:=[(3,27)],fz:=[27]} []<| .a2 ((gB [((decide (u1≤((at' y.plant.racks u0.toNat).paths))),true)]=true→(0:Int)≤u0∧u0<(u3.1.length:Int))) ((gB [((bif (decide (u1≤((at' y.plant.racks u0.toNat).paths)))then(!((at' u3.1 u0.toNat).e0))else false),true)]=true→(0:Int)≤u0∧u0<(u3.1.length:Int)))<| .rg {} [0, .pf ⟨(0:Int)≤0∧(0:Int)<(2:Nat),(by decide)⟩,1, .pf ⟨(0:Int)≤1∧(1:Int)<(2:Nat),(by decide)⟩]<| .it (.r<| .e (.done (.ret false)))
  (.r<| .e (.next (k8 u0))))
  (.e (.done (.brk ()))))
  (fun _=> .r<| .e true))
theorem Am (y:ah) (s_:Int):dF Tryz.prog 169 (NJ y s_) [] (fun r=>(vB r)) (fun _=>[]) (lW y s_):=
  dZ tT mX Tryz.func169 (
  .rg {fr:=[(0,1)],fz:=[1]} []<| .cl 3 (wG y s_) fun r_=> .cl 4 (qY y r_ 1) fun u0=> .r<| .e u0)
theorem sW (u0:ah) (u1:Int):dF Tryz.prog 172 [(sD (.fna 169 15 (Jf u0))),(.one (.ptr 0 0))] (JQ u1) (fun r=>(vB r)) (fun r=>(JQ u1)) (jW u0 u1):=
  dZ tT mX Tryz.func172 (
  .r<| .cl 2 (Am u0 u1) fun r_=> .r<| .e (!r_))
section
variable (u0:Int) (u1:Int) (u2:(List Part))
abbrev J2:=(⟨(k8 u0),u1⟩:Part)
abbrev UQ:=(av Part.cell [(J2 u0 u1)])
abbrev PG:=(u2++[(J2 u0 u1)])
end
theorem Cg (p:aC):dF Tryz.prog 185 (k0 p) [] (fun r=>(.dX [(.one (.own 0 false r.1.length)),(sI r.2)])) (fun r=>[(0,some (bC 78 2 Part.cell r.1))]) (oO p):=
  dZ tT mX Tryz.func185 (
  .rg {fr:=[(0,34)],fz:=[34]} []<| .cl 1 (uT p) fun r_=> .r<| .r<| .it (.r<| .im (.ad 2 35 78 2 (av Part.cell ([]:List Part)))<| .en (([]:List Part),r_) [] [(35,0)])
  (.r<| .rg {an:=[(8, .arr [p.buses,(p.sources.length:Int),(p.links.length:Int)].length (av (aB .i64) [p.buses,(p.sources.length:Int),(p.links.length:Int)]))],fr:=[(8,36)],fz:=[36]} [.pf ⟨[p.buses,(p.sources.length:Int),(p.links.length:Int)].length=3,rfl⟩, .pf ⟨aI 3 1 (mo 1 [(.int .i64 p.buses),(.int .i64 (p.sources.length:Int)),(.int .i64 (p.links.length:Int))]) (av (aB .i64) [p.buses,(p.sources.length:Int),(p.links.length:Int)]),(by intro i hi j hj;match i,j,hi,hj with|0,0,_,_=>rfl|1,0,_,_=>rfl|2,0,_,_=>rfl)⟩]<| .im (.ad 5 69 78 2 (av Part.cell ([]:List Part)))<| .lp (σ:=((List Part) × Int)) (β:=(List Part)) (([]:List Part),0) [] [(69,38)] ⟨[22,23],[],fun(u3,u0)=>[(5,(vO 38 false u3.length)),(24,(vI u0))],fun(u3,u0)=>[(38,some (bC 78 2 Part.cell u3))]⟩ ⟨[],[],fun u4=>[(5,(vO 38 false u4.length))],fun u4=>[(38,some (bC 78 2 Part.cell u4))]⟩
  (fun(u3,u0)=> .r<| .it (.a1 ((0:Int)≤u0∧u0<([p.buses,(p.sources.length:Int),(p.links.length:Int)].length:Int))<| .r<| .r<| .lp (σ:=((List Part) × Int)) (β:=(List Part)) (u3,0) [] [] ⟨[6,22,23,24,29],[],fun(u2,u1)=>[(5,(vO 38 false u2.length)),(30,(vI u1))],fun(u2,u1)=>[(38,some (bC 78 2 Part.cell u2))]⟩ ⟨[22,23,24],[],fun u5=>[(5,(vO 38 false u5.length))],fun u5=>[(38,some (bC 78 2 Part.cell u5))]⟩
  (fun(u2,u1)=> .r<| .it (.r<| .a2 ((u2.length+[(J2 u0 u1)].length)*16≤140737488355328) (u2.length+[(J2 u0 u1)].length≤4611686018427387904)<| .rg {an:=[(5, .arr [(J2 u0 u1)].length (UQ u0 u1)),(6, .arr (PG u0 u1 u2).length (av Part.cell (PG u0 u1 u2)))],fr:=[(5,67),(6,68)]} [.pf ⟨[(J2 u0 u1)].length=1,rfl⟩, .pf ⟨aI 1 2 (mo 2 [(.int .i64 (k8 u0)),(.int .i64 u1)]) (UQ u0 u1),(by intro i hi j hj;match i,j,hi,hj with|0,0,_,_=>rfl|0,1,_,_=>rfl)⟩, .e (u2.length),0,1, .pf ⟨(PG u0 u1 u2).length=u2.length+[(J2 u0 u1)].length,List.length_append⟩, .pf ⟨aI (u2.length+[(J2 u0 u1)].length) 2 (oG (av Part.cell u2) u2.length (UQ u0 u1)) (av Part.cell (PG u0 u1 u2)),dG _ _ _ _⟩]<| .r<| .en (.next ((PG u0 u1 u2),(k8 u1))) [] [(68,38)])
  (.e (.done (.brk u2))))
  (fun u5=> .r<| .e (.next (u5,(k8 u0)))))
  (.e (.done (.brk u3))))
  (fun u4=> .r<| .en (u4,0) [] [(38,0)])))
section
variable (y:ah) (r_:((List Part) × Int)) (u0:Int)
abbrev XM:=(at' [([]:List Bool),y.state.badBus,y.state.badSource,y.state.badLink] (((at' r_.1 u0.toNat).kind).toNat))
abbrev WJ:=(av (zR 1 af) [([]:List Bool),y.state.badBus,y.state.badSource,y.state.badLink])
end
theorem uo (y:ah) (s_:Int):dF Tryz.prog 170 (NJ y s_) [] (fun r=>(vB r)) (fun _=>[]) (iy y s_):=
  dZ tT mX Tryz.func170 (
  .rg {fr:=[(0,10)],fz:=[10]} []<| .r<| .it (.r<| .e true)
  (.cl 2 (kX [(0,11)] (Cg y.plant)) fun r_=> .r<| .r<| .lp (σ:=Int) (β:=Unit) (0) [] [] ⟨[1,2,19,20],[11],fun u0=>[(21,(vI u0))],fun u0=>[]⟩ ⟨[],[],fun _=>[],fun _=>[]⟩
  (fun u0=> .r<| .it (.a1 ((0:Int)≤u0∧u0<(r_.1.length:Int))<| .rg {fr:=[(2,18)],fz:=[18]} [0, .t 0 u0 r_.1.length]<| .a2 ((0:Int)≤(at' r_.1 u0.toNat).kind∧(at' r_.1 u0.toNat).kind<([([]:List Bool),y.state.badBus,y.state.badSource,y.state.badLink].length:Int)) ((0:Int)≤(at' r_.1 u0.toNat).index∧(at' r_.1 u0.toNat).index<((XM y r_ u0).length:Int))<| .rg {an:=[(9, .arrL [([]:List Bool),y.state.badBus,y.state.badSource,y.state.badLink].length (WJ y))],fr:=[(9,19)]} [.pf ⟨[([]:List Bool),y.state.badBus,y.state.badSource,y.state.badLink].length=4,rfl⟩, .pf ⟨Qc 4 1 (mo 1 [nS,(Lj y),(K8 y),(Le y)]) (WJ y),Qo (by intro i hi j hj;match i,j,hi,hj with|0,0,_,_=>exact ow.nil'|1,0,_,_=>exact .refl _|2,0,_,_=>exact .refl _|3,0,_,_=>exact .refl _)⟩,0, .t 0 ((at' r_.1 u0.toNat).kind) ([([]:List Bool),y.state.badBus,y.state.badSource,y.state.badLink].length),1]<| .fk (!(at' (XM y r_ u0) (((at' r_.1 u0.toNat).index).toNat))) (.cl 6 (kX [(0,20)] (rq y s_)) fun u1=> .cr 10 ⟨fun{u2} hr_2=>((Fn.Ie (frz:=[22]) (p:=[(u1++[(at' r_.1 u0.toNat)]).length=(u1++[(at' r_.1 u0.toNat)]).length]) (qY y (u1++[(at' r_.1 u0.toNat)]) 2 hr_2) (by kernel_rfl) ⟨rfl,trivial⟩ rfl):Fn Tryz.prog 231 [(.agg (BK y)),(.one (.own 22 false ((u1++[(at' r_.1 u0.toNat)]).length))),(sI 2)] [(22,some (bC 78 2 Part.cell (u1++[(at' r_.1 u0.toNat)])))] (vB u2) [(22,some (bC 78 2 Part.cell (u1++[(at' r_.1 u0.toNat)])))])⟩ fun u2=> .a2 ((gB [(true,true)]=true→(u1.length+[(at' r_.1 u0.toNat)].length)*16≤140737488355328)) ((gB [(true,true)]=true→u1.length+[(at' r_.1 u0.toNat)].length≤4611686018427387904))<| .rg {an:=[(8, .arr [(at' r_.1 u0.toNat)].length (av Part.cell [(at' r_.1 u0.toNat)])),(9, .arr (u1++[(at' r_.1 u0.toNat)]).length (av Part.cell (u1++[(at' r_.1 u0.toNat)])))],fr:=[(8,21),(9,22)],ov:=[(2,true,4)]} [.k 3, .pf ⟨[(at' r_.1 u0.toNat)].length=1,rfl⟩, .pf ⟨aI 1 2 (mo 2 [(.int .i64 ((at' r_.1 u0.toNat).kind)),(.int .i64 ((at' r_.1 u0.toNat).index))]) (av Part.cell [(at' r_.1 u0.toNat)]),(by intro i hi j hj;match i,j,hi,hj with|0,0,_,_=>rfl|0,1,_,_=>rfl)⟩, .e (u1.length),0,1, .pf ⟨(u1++[(at' r_.1 u0.toNat)]).length=u1.length+[(at' r_.1 u0.toNat)].length,List.length_append⟩, .pf ⟨aI (u1.length+[(at' r_.1 u0.toNat)].length) 2 (oG (av Part.cell u1) u1.length (av Part.cell [(at' r_.1 u0.toNat)])) (av Part.cell (u1++[(at' r_.1 u0.toNat)])),dG _ _ _ _⟩, .k 2]<| .it (.r<| .e (.done (.ret false)))
  (.r<| .e (.next (k8 u0))))
  (.rg {ov:=[(2,false,0)],sk:=[3,4,5,6,7,8,9,10,11]} []<| .f<| .r<| .e (.next (k8 u0))))
  (.e (.done (.brk ()))))
  (fun _=> .r<| .e true)))
theorem uj (u0:ah) (u1:Int):dF Tryz.prog 172 [(sD (.fna 170 15 (Jf u0))),(.one (.ptr 0 0))] (JQ u1) (fun r=>(vB r)) (fun r=>(JQ u1)) (jY u0 u1):=
  dZ tT mX Tryz.func172 (
  .r<| .cl 2 (uo u0 u1) fun r_=> .r<| .e (!r_))
section
variable (o_:ah) (u0:ah) (u1:ah) (u2:ah) (u3:Int)
abbrev R9:List (Nat × Option Ob):=[(0,some (.cells 265 [(.d (.fna 167 15 (Jf o_))),(.d (.fna 168 15 (Jf u0))),(.d (.fna 169 15 (Jf u1))),(.d (.fna 170 15 (Jf u2)))])),(1,some (QV u3))]
end
theorem tL (o_:ah) (u0:ah) (u1:ah) (u2:ah) (u3:Int):dF Tryz.prog 232 [(.one (.own 0 true 4)),(.one (.fn 172 0 1 (zU [(.ptr 1 0)])))] (R9 o_ u0 u1 u2 u3) (fun r=>(vI r)) (fun r=>(R9 o_ u0 u1 u2 u3)) (j3 o_ u0 u1 u2 u3):=
  dZ tT mX Tryz.func232 (
  .r<| .r<| .ul 11<| .r<| .t<| .r<| .cr 5 (kX [(0,1)] (wT o_ u3)) fun r_=> .a1 ((0:Int)≤0∧0<(4:Int))<| .rg {} [0,1]<| .it (.r<| .e 0)
  (.r<| .im (.dp [0,1,7,8])<| .r<| .t<| .r<| .cr 5 (kX [(0,1)] (tV u0 u3)) fun u4=> .a1 ((0:Int)≤1∧1<(4:Int))<| .rg {} [0,1]<| .it (.r<| .e 1)
  (.r<| .im (.dp [0,1,7,8])<| .r<| .t<| .r<| .cr 5 (kX [(0,1)] (sW u1 u3)) fun u5=> .a1 ((0:Int)≤2∧2<(4:Int))<| .rg {} [0,1]<| .it (.r<| .e 2)
  (.r<| .im (.dp [0,1,7,8])<| .r<| .t<| .r<| .cr 5 (kX [(0,1)] (uj u2 u3)) fun u6=> .a1 ((0:Int)≤3∧3<(4:Int))<| .rg {} [0,1]<| .it (.r<| .e 3)
  (.r<| .im (.dp [0,1,7,8])<| .r<| .f<| .r<| .e (-1))))))
theorem kD (o_:ah) (u0:ah) (u1:ah) (u2:ah) (u3:Int):dF Tryz.prog 171 [(.one (.own 0 true 4)),(.one (.fn 172 0 1 (zU [(.ptr 1 0)])))] (R9 o_ u0 u1 u2 u3) (fun r=>(vB r)) (fun r=>(R9 o_ u0 u1 u2 u3)) (dH o_ u0 u1 u2 u3):=
  dZ tT mX Tryz.func171 (
  .r<| .cr 2 (tL o_ u0 u1 u2 u3) fun r_=> .r<| .e (decide (0≤r_)))
section
variable (u0:(List (Int × Bool))) (s0:Int) (u1:Bool) (u2:Bool)
abbrev WQ:List (Nat × Option Ob):=[(19,some (Kv u0)),(21,some (QV s0))]
abbrev Jj:=(dQ bM s0 (bif u1 then(!u2)else false) u0)
abbrev RZ:=(si (aB .u8) (Jj u0 s0 u1 u2))
abbrev Ua:=(uz af (Jj u0 s0 u1 u2))
end
theorem pX (y:ah):dF Tryz.prog 92 (Rl y) [] (fun r=>(.v (.one (.mp 0)))) (fun r=>[(0,some (KT 198 4 false false 1 1 (aB .u8) af r))]) (bY y):=
  dZ tT mX Tryz.func92 (
  .rg {fr:=[(0,17)],fz:=[17]} []<| .rg {an:=[(8, .cells)],fr:=[(8,18)]} []<| .rg {an:=[(0, .map 0 (si (aB .u8) ([]:(List (Int × Bool)))) (uz af ([]:(List (Int × Bool)))) []),(1, .map (dQ bM 0 true ([]:(List (Int × Bool)))).length (si (aB .u8) (dQ bM 0 true ([]:(List (Int × Bool))))) (uz af (dQ bM 0 true ([]:(List (Int × Bool))))) [])],fr:=[(0,19),(3,20)]} [.pf ⟨mO [some .u8] 1 1 ([]:(List (Int × Bool))).length (si (aB .u8) ([]:(List (Int × Bool)))) (uz af ([]:(List (Int × Bool)))) [(.int .u8 0)] [(cB true)] [] (dQ bM 0 true ([]:(List (Int × Bool)))).length (si (aB .u8) (dQ bM 0 true ([]:(List (Int × Bool))))) (uz af (dQ bM 0 true ([]:(List (Int × Bool))))),vw (fun _=>rfl) (fun _ _=>rfl) ([]:(List (Int × Bool))) 0 true rfl rfl⟩]<| .rg {fr:=[(0,21)]} []<| .lp (σ:=((List (Int × Bool)) × Int)) (β:=(List (Int × Bool))) ((dQ bM 0 true ([]:(List (Int × Bool)))),1) [] [] ⟨[1,3,4,5],[18,20],fun(u0,s0)=>[],fun(u0,s0)=>(WQ u0 s0)⟩ ⟨[4],[20],fun u3=>[],fun u3=>[(19,some (Kv u3))]⟩
  (fun(u0,s0)=> .a1 ((0:Int)≤(y.jobs.length:Int))<| .r<| .it (.rg {fr:=[(0,31)]} []<| .cl 1 (dO s0) fun r_=> .r<| .cl 0 (kX [(0,32),(1,20),(2,21),(3,31),(4,19)] (pE r_ u0 s0 true)) fun u1=> .rf 32 [4,5,6] [] none 0 []<| .cgr 6 [(u1,true)] (kX [(0,18),(1,21)] (kD y y y y s0)) fun u2=> .rg {an:=[(9, .map (Jj u0 s0 u1 u2).length (RZ u0 s0 u1 u2) (Ua u0 s0 u1 u2) [])]} [0, .pf ⟨mO [some .u8] 1 1 u0.length (si (aB .u8) u0) (uz af u0) [(.int .u8 s0)] [(cB (bif u1 then(!u2)else false))] [] (Jj u0 s0 u1 u2).length (RZ u0 s0 u1 u2) (Ua u0 s0 u1 u2),vw (fun _=>rfl) (fun _ _=>rfl) u0 s0 (bif u1 then(!u2)else false) rfl rfl⟩]<| .r<| .rg {fr:=[(0,33)]} []<| .r<| .en (.next ((Jj u0 s0 u1 u2),(IntKind.wrap .u8 (s0+1)))) [] [(33,21)])
  (.e (.done (.brk u0))))
  (fun u3=> .r<| .en u3 [] [(19,0)]))
theorem nA (y:ah):dF Tryz.prog 92 (Rl y) [] (fun r=>(.v (.one (.mp 0)))) (fun r=>[(0,some (KT 198 4 false false 1 1 (aB .u8) af r))]) (bY y):=
  dZ tT mX Tryz.func92 (
  .rg {fr:=[(0,17)],fz:=[17]} []<| .rg {an:=[(8, .cells)],fr:=[(8,18)]} []<| .rg {an:=[(0, .map 0 (si (aB .u8) ([]:(List (Int × Bool)))) (uz af ([]:(List (Int × Bool)))) []),(1, .map (dQ bM 0 true ([]:(List (Int × Bool)))).length (si (aB .u8) (dQ bM 0 true ([]:(List (Int × Bool))))) (uz af (dQ bM 0 true ([]:(List (Int × Bool))))) [])],fr:=[(0,19),(3,20)]} [.pf ⟨mO [some .u8] 1 1 ([]:(List (Int × Bool))).length (si (aB .u8) ([]:(List (Int × Bool)))) (uz af ([]:(List (Int × Bool)))) [(.int .u8 0)] [(cB true)] [] (dQ bM 0 true ([]:(List (Int × Bool)))).length (si (aB .u8) (dQ bM 0 true ([]:(List (Int × Bool))))) (uz af (dQ bM 0 true ([]:(List (Int × Bool))))),vw (fun _=>rfl) (fun _ _=>rfl) ([]:(List (Int × Bool))) 0 true rfl rfl⟩]<| .rg {fr:=[(0,21)]} []<| .lp (σ:=((List (Int × Bool)) × Int)) (β:=(List (Int × Bool))) ((dQ bM 0 true ([]:(List (Int × Bool)))),1) [] [] ⟨[1,3,4,5],[18,20],fun(u0,s0)=>[],fun(u0,s0)=>(WQ u0 s0)⟩ ⟨[4],[20],fun u3=>[],fun u3=>[(19,some (Kv u3))]⟩
  (fun(u0,s0)=> .a1 ((0:Int)≤(y.jobs.length:Int))<| .r<| .it (.rg {fr:=[(0,31)]} []<| .cl 1 (dO s0) fun r_=> .r<| .cl 0 (kX [(0,32),(1,20),(2,21),(3,31),(4,19)] (pE r_ u0 s0 true)) fun u1=> .rf 32 [4,5,6] [] none 0 []<| .cgr 6 [(u1,true)] (kX [(0,18),(1,21)] (kD y y y y s0)) fun u2=> .rg {an:=[(9, .map (Jj u0 s0 u1 u2).length (RZ u0 s0 u1 u2) (Ua u0 s0 u1 u2) [])]} [0, .pf ⟨mO [some .u8] 1 1 u0.length (si (aB .u8) u0) (uz af u0) [(.int .u8 s0)] [(cB (bif u1 then(!u2)else false))] [] (Jj u0 s0 u1 u2).length (RZ u0 s0 u1 u2) (Ua u0 s0 u1 u2),vw (fun _=>rfl) (fun _ _=>rfl) u0 s0 (bif u1 then(!u2)else false) rfl rfl⟩]<| .r<| .rg {fr:=[(0,33)]} []<| .r<| .en (.next ((Jj u0 s0 u1 u2),(IntKind.wrap .u8 (s0+1)))) [] [(33,21)])
  (.e (.done (.brk u0))))
  (fun u3=> .r<| .en u3 [] [(19,0)]))
noncomputable def zI:eO:=⟨[31],Fh ([1,1,1,1,0,1,0,0,1,0,0,1,0,1,0]++[0]) (jB Tryz.f27),Fh ([1,1,1,1,0,1,0,0,1,0,0,1,0,1,0]++[1]) (jB Tryz.f27),53,[]⟩
section
variable (u1:Int) (u2:Bool) (o_:(List (Int × Bool)))
abbrev VT:Nat × Option Ob:=(0,some (.loop zI 0 [(5,(vP 1 0)),(7,(vP 2 0)),(8,(vP 3 0))]))
abbrev YD:List (Nat × Option Ob):=[VT,OL,(OE u1),(3,some (.cells 4 [(cB u2)])),(NZ o_)]
end
theorem Af (u0:Int) (o_:(List (Int × Bool))) (u1:Int) (u2:Bool):OW Tryz.prog 0 [(sI u0)] (YD u1 u2 o_) (fun _=>vB true) (fun r=>[VT,OL,(OE u1),(3,some (.cells 4 [(cB r)])),(NZ o_)]) (wC u0 o_ u1 u2):=
  VB tT mX zI ⟨[5,7,8],[0,1,2,3,4],fun _=>[(9,(vI u0))],fun _=>[]⟩ (.r<| .e ())
  (.cg 4 [(u2,true)] cO fun r_=> .a1 ((gB [(u2,true)]=true→(0:Int)≤u0∧u0<((5:Nat):Int)))<| .rg {an:=[(6, .vals (Fb r_ u0)),(8, .look (Q7 u1 o_ r_ u0).isSome (Ue u1 o_ r_ u0))]} [1,0, .dv 0 ⟨gB [(u2,true)]=true→(0:Int)≤u0∧u0<((5:Nat):Int),gB [(u2,true)]=true→u0.toNat*1+1≤(wU r_).length,fun ax hq=>IV (n:=5) (sz:=1) (Nat.le_refl _) (ax hq)⟩, .dv 0 ⟨gB [(u2,true)]=true→(0:Int)≤u0∧u0<((5:Nat):Int),gB [(u2,true)]=true→((wU r_).drop (u0.toNat*1)).take 1=(Fb r_ u0).map .d,fun ax hq=>IC (n:=5) (sz:=1) (g:=fun q=>[(.d (.int .u8 (at' [r_.e0,r_.e1,r_.e2,r_.e3,r_.e4] q)))]) (by intro q hq;match q,hq with|0,_=>rfl|1,_=>rfl|2,_=>rfl|3,_=>rfl|4,_=>rfl) (ax hq)⟩, .pf ⟨jw [some .u8] 1 1 o_.length (si (aB .u8) o_) (uz af o_) (XG u1 r_ u0) [(.d (.bool false))] (Q7 u1 o_ r_ u0).isSome (Ue u1 o_ r_ u0),iF (fun _=>rfl) (fun _ _=>rfl) o_ (SX u1 r_ u0) false rfl rfl rfl⟩]<| .e (YB u1 o_ u2 r_ u0))
theorem uL (x1:Int) (o_:(List (Int × Bool))) (u0:Int) (u1:Bool):dF Tryz.prog 173 (QS x1) (YD u0 u1 o_) (fun r=>(.dX [])) (fun r=>[VT,OL,(OE u0),(3,some (.cells 4 [(cB r)])),(NZ o_)]) (kN x1 o_ u0 u1):=
  dZ tT mX Tryz.func173 (
  .r<| .lp (σ:=(Bool × Int)) (β:=Bool) (u1,0) [] [] ⟨[0,1],[0,1,2,4],fun(o0,t4)=>[(4,(vI t4))],fun(o0,t4)=>[(3,some (.cells 4 [(cB o0)]))]⟩ ⟨[],[0,1,2,4],fun o01=>[],fun o01=>[(3,some (.cells 4 [(cB o01)]))]⟩
  (fun(o0,t4)=> .r<| .it (.r<| .cl 2 (fK x1 t4) fun r_=> .fk r_ (.cy 6 (Af t4 o_ u0 o0) fun u2=> .rg {ov:=[(3,true,1)]} [2, .k 0]<| .f<| .r<| .e (.next (u2,(k8 t4))))
  (.rg {ov:=[(3,false,0)],sk:=[4,5,6,7]} [1]<| .f<| .r<| .e (.next (o0,(k8 t4)))))
  (.e (.done (.brk o0))))
  (fun o01=> .e o01))
noncomputable def jO:eO:=⟨[7],Fh ([1,0,1,0]++[0]) (jB Tryz.f174),Fh ([1,0,1,0]++[1]) (jB Tryz.f174),13,[]⟩
section
variable (o_:(List Int))
abbrev Vv:Nat × Option Ob:=(0,some (.loop jO 0 [(2,(vP 1 0))]))
abbrev Xg:List (Nat × Option Ob):=[Vv,(1,some (.cells 39 [(.own 2 false o_.length)])),(2,some (uQ o_))]
end
theorem rV (x7:Int) (o_:(List Int)):OW Tryz.prog 0 [(sI x7)] (Xg o_) (fun _=>vB true) (fun r=>[Vv,(1,some (.cells 39 [(.own 3 false r.length)])),(2,none),(3,some (bC 3 1 (aB .i64) r))]) (mI x7 o_):=
  VB tT mX jO ⟨[2],[0,1,2],fun _=>[(5,(vI x7))],fun _=>[]⟩ (.r<| .e ())
  (.a2 (TN o_ x7) (T9 o_ x7)<| .rg {an:=[(2, .arr [x7].length (av (aB .i64) [x7])),(3, .arr (o_++[x7]).length (IK o_ x7))],fr:=[(2,5),(3,6)]} [.pf ⟨[x7].length=1,rfl⟩, .pf ⟨aI 1 1 (mo 1 [(.int .i64 x7)]) (av (aB .i64) [x7]),(by intro i hi j hj;match i,j,hi,hj with|0,0,_,_=>rfl)⟩, .e (o_.length),0,1, .pf ⟨(o_++[x7]).length=o_.length+[x7].length,List.length_append⟩, .pf ⟨aI (o_.length+[x7].length) 1 (TD o_ x7) (IK o_ x7),dG _ _ _ _⟩]<| .en (o_++[x7]) [] [(6,3)])
theorem vv (x1:Int) (o_:(List Int)):dF Tryz.prog 173 (QS x1) (Xg o_) (fun r=>(.dX [])) (fun r=>[Vv,(1,some (.cells 39 [(.own 3 false r.length)])),(2,none),(3,some (bC 3 1 (aB .i64) r))]) (oV x1 o_):=
  dZ tT mX Tryz.func173 (
  .r<| .im (.re 1 0 2 7)<| .lp (σ:=((List Int) × Int)) (β:=(List Int)) (o_,0) [] [(7,6)] ⟨[0,1],[0],fun(o0,t4)=>[(4,(vI t4))],fun(o0,t4)=>[(1,some (.cells 39 [(.own 6 false o0.length)])),(2,none),(6,some (uQ o0))]⟩ ⟨[],[0],fun o01=>[],fun o01=>[(1,some (.cells 39 [(.own 6 false o01.length)])),(2,none),(6,some (bC 3 1 (aB .i64) o01))]⟩
  (fun(o0,t4)=> .r<| .it (.r<| .cl 2 (fK x1 t4) fun r_=> .fk r_ (.cy 6 (Y3 [(2,6),(3,7)] (rV t4 o0)) fun u0=> .rg {ov:=[(3,true,1)]} [2, .k 0]<| .f<| .r<| .en (.next (u0,(k8 t4))) [] [(7,6)])
  (.rg {ov:=[(3,false,0)],sk:=[4,5,6,7]} [1]<| .f<| .r<| .e (.next (o0,(k8 t4)))))
  (.e (.done (.brk o0))))
  (fun o01=> .en o01 [] [(6,3)]))
abbrev V5:Nat × Option Ob:=(6,some (.loop jO 0 [(2,(vP 4 0))]))
abbrev Yi:List (Nat × Option Ob):=[V5,(4,some (.cells 39 [(.own 5 false 0)])),(5,some (.arr 3 1 0 (av (aB .i64) ([]:List Int))))]
theorem wY (u0:Int):dF Tryz.prog 174 [(sD nS),(sD (.fn 173 1 (pO [(yP [(.int .u8 u0)] 0)])))] [] (fun r=>(vD (aQ none 1 (aB .i64) r))) (fun _=>[]) (qP u0):=
  dZ tT mX Tryz.func174 (
  .rg {fr:=[(0,4)]} []<| .r<| .im (.BH 4 0 5 3 1 (av (aB .i64) ([]:List Int)))<| .cl 0 ⟨fun{r_} hr_=>((Fn.Uz (args:=[(.one (.yl 6)),(sD (yP [(.int .u8 u0)] 0))]) (args':=[(.one (.yl 6)),(sD (yP [(.int .u8 u0)] 0))]) (hin:=[V5,(4,some (.cells 39 [(.own 5 false (([]:List Int).length))])),(5,some (bC 3 1 (aB .i64) ([]:List Int)))]) (hin':=Yi) (Fn.yh [(0,6),(1,4),(2,5),(3,7)] (vv u0 ([]:List Int) hr_) (by kernel_rfl) (by kernel_rfl) (by kernel_rfl) (by kernel_rfl)) ⟨rZ.refl _,rZ.refl _,trivial⟩ ⟨rfl, .refl _,⟨rfl,mQ ⟨mZ.of (congrArg (CV.own _ _) (by simp only [List.length_set,List.length_append,List.length_cons,List.length_nil,List.length_replicate,List.length_drop,fD])),trivial⟩,⟨rfl,Bl (by simp only [List.length_set,List.length_append,List.length_cons,List.length_nil,List.length_replicate,List.length_drop,fD]),trivial⟩⟩⟩):Fn Tryz.prog 173 [(.one (.yl 6)),(sD (yP [(.int .u8 u0)] 0))] Yi (.dX []) [V5,(4,some (.cells 39 [(.own 7 false r_.length)])),(5,none),(7,some (uQ r_))])⟩ fun r_=> .rf 6 [2] [] none 0 []<| .rg {fz:=[7]} []<| .e r_)
theorem y9 (u0:Int):dF Tryz.prog 95 [(sD (.fn 173 1 (pO [(yP [(.int .u8 u0)] 0)])))] [] (fun r=>(vD (aQ none 1 (aB .i64) r))) (fun _=>[]) (kV u0):=
  dZ tT mX Tryz.func95 (
  .r<| .cl 1 (wY u0) fun r_=> .r<| .e r_)
theorem xu (x:Int):dF Tryz.prog 243 [(sI x)] [] (fun r=>(vB r)) (fun _=>[]) (sN x):=
  dZ tT mX Tryz.func243 (
  .r<| .r<| .e (!decide (x=x)))
theorem Cq (x:Int) (y:Int):dF Tryz.prog 177 [(sI x),(sI y)] [] (fun r=>(vI r)) (fun _=>[]) (oM x y):=
  dZ tT mX Tryz.func177 (
  .r<| .cl 1 (xu x) fun r_=> .r<| .cl 1 (xu y) fun u0=> .r<| .r<| .it (.r<| .it (.r<| .e 0)
  (.r<| .e (-1)))
  (.r<| .it (.r<| .e 1)
  (.r<| .it (.r<| .e (-1))
  (.r<| .it (.r<| .e 1)
  (.r<| .e 0)))))
section
variable (s1:(List Int)) (s2:(List Int))
abbrev Q6:List SV:=[(sD (Cb s1)),(sD (Cb s2))]
end
theorem yX (s1:(List Int)) (s2:(List Int)):dF Tryz.prog 98 (Q6 s1 s2) [] (fun r=>(vI r)) (fun _=>[]) (oH s1 s2):=
  dZ tT mX Tryz.func98 (
  .r<| .r<| .lp (σ:=Int) (β:=Unit) (0) [] [] ⟨[0,1,9,10],[],fun u0=>[(11,(vI u0))],fun u0=>[]⟩ ⟨[0,1],[],fun _=>[],fun _=>[]⟩
  (fun u0=> .r<| .it (.a1 (Dv s1 u0)<| .r<| .r<| .it (.r<| .e (.done (.ret 1)))
  (.a1 (Dv s2 u0)<| .r<| .cl 2 (Cq (at' s1 u0.toNat) (at' s2 u0.toNat)) fun r_=> .r<| .r<| .it (.r<| .e (.done (.ret r_)))
  (.r<| .e (.next (k8 u0)))))
  (.e (.done (.brk ()))))
  (fun _=> .r<| .it (.r<| .e (-1))
  (.r<| .e 0)))
theorem Dn (a:(List Int)) (b:(List Int)):dF Tryz.prog 97 (Q6 a b) [] (fun r=>(vI r)) (fun _=>[]) (vW a b):=
  dZ tT mX Tryz.func97 (
  .r<| .r<| .it (.r<| .e (IntKind.wrap .i64 ((a.length:Int) - (b.length:Int))))
  (.cl 2 (yX a b) fun r_=> .r<| .e r_))
theorem uO (x y:(List Int)) (hx:x.length≤1000000) (hy:y.length≤1000000):vW x y=some (cmpL x y):=by
 have hc: ∀a b:Int,oM a b=some (if a<b then -1 else if b<a then 1 else 0):=by
  intro a b
  unfold oM sN
  by_cases h:a<b<;>by_cases g:b<a<;>simp [h,g]
 have wr1: ∀x:Int, -9223372036854775808≤x∧x≤9223372036854775807→IntKind.wrap .i64 x=x:=fun x h=>by rw [IntKind.wrap_i64];omega
 unfold vW cmpL
 by_cases h:x.length=y.length
 ·rw [decide_eq_true (by omega),Bool.not_true,cond_false,if_pos h]
  unfold oH
  have key:=Ko h (body:=fZ x y) (fun i hi=>by
   unfold fZ
   simp only [Int.toNat_natCast]
   rw [decide_eq_true (by omega),cond_true,aA (by omega),decide_eq_false (by omega),cond_false,aA (by omega),hc,Option.bind_some,wr1 _ (by omega)]
   by_cases h1:at' x i<at' y i
   ·rw [if_pos h1,if_pos h1];rfl
   ·rw [if_neg h1,if_neg h1]
    by_cases h2:at' y i<at' x i
    ·rw [if_pos h2,if_pos h2];rfl
    ·rw [if_neg h2,if_neg h2];rfl) (by
   unfold fZ
   rw [decide_eq_false (by omega),cond_false]) x.length 0 FUEL (by omega) (by unfold FUEL;omega)
  rw [List.drop_zero,List.drop_zero]at key
  rw [show aD (fZ x y) FUEL 0=_ from key]
  by_cases h0:rF x y=0
  ·rw [if_pos h0,Option.bind_some,h0]
   simp only
   rw [decide_eq_false (by omega),cond_false];rfl
  ·rw [if_neg h0];rfl
 ·rw [decide_eq_false (by omega),Bool.not_false,cond_true,if_neg h,wr1 _ (by omega)]
theorem vN (s:(List (List Int))) {r:(List (List Int))} (h:bP s=some r):Fn Tryz.prog 96 [(.one (.own 0 false s.length)),(sD (.fn 97 0 (pO [])))] [(0,some (.arr 39 1 s.length (av (zR 1 (aB .i64)) s)))] (.dX []) [(0,some (.arr 39 1 r.length (av (zR 1 (aB .i64)) r)))]:=by
 unfold bP at h
 cases hb:(decide (s.length<4611686018427387904) && (decide s.Nodup && s.all fun x=>decide (x.length≤1000000)))with
 |false=>rw [hb]at h;cases h
 |true=>
  rw [hb]at h
  simp only [Bool.and_eq_true,decide_eq_true_iff,List.all_eq_true]at hb
  exact Sn Od cmpL PW Rt s (fun x hx y hy=>Dn x y (uO x y (hb.2.2 x hx) (hb.2.2 y hy))) hb.2.1 (enters_of Tryz.func97 (by kernel_rfl) rfl) 96 rfl ⟨_,Tryz.func96,rfl,rfl⟩ hb.1 (Option.some.inj h)
theorem r9 (a:(List Int)) (b:(List Int)):dF Tryz.prog 11 (Q6 a b) [] (fun r=>(vB r)) (fun _=>[]) (qJ a b):=
  dZ tT mX Tryz.func11 (
  .r<| .r<| .it (.r<| .e false)
  (.r<| .lp (σ:=Int) (β:=Unit) (0) [] [] ⟨[0,1],[],fun i=>[(5,(vI i))],fun i=>[]⟩ ⟨[],[],fun _=>[],fun _=>[]⟩
  (fun i=> .r<| .it (.a2 (Dv a i) (Dv b i)<| .rg {} [0,1]<| .it (.r<| .e (.done (.ret false)))
  (.r<| .e (.next (k8 i))))
  (.e (.done (.brk ()))))
  (fun _=> .r<| .e true)))
theorem kH (a:Int) (b:Int):dF Tryz.prog 82 [(sI a),(sI b)] [] (fun r=>(.v (.agg [(cI r.a),(cI r.b),(cI r.kind),(cI r.most),(cI r.ohm),(.d (aQ none 2 mE.cell r.trip))]))) (fun _=>[]) (ko a b):=
  dZ tT mX Tryz.func82 (
  .rg {fr:=[(0,1)]} []<| .r<| .en (⟨a,b,3,500,10,([]:List mE)⟩:Link) [1] [])
end
end Sg
