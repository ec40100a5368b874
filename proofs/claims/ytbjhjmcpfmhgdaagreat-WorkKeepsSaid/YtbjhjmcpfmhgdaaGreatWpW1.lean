import Derived.Test.YtbjhjmcpfmhgdaaGreatWpW0
set_option linter.all false
namespace Sg
open Go Go.Proofs
set_option maxRecDepth 20000
noncomputable section
section
variable (y:ah) (i:Int) (u0:Int)
abbrev QV:DV:=(aS none 5 Source.cell y.plant.sources)
abbrev Qx:DV:=(aS none 6 Link.cell y.plant.links)
abbrev RD:DV:=(aS none 4 aN.cell y.plant.racks)
abbrev Sn:DV:=(aS none 1 ai y.state.closed)
abbrev Qy:DV:=(aS none 1 ai y.state.locked)
abbrev OQ:DV:=(aS none 1 ai y.state.badLink)
abbrev QG:DV:=(aS none 1 ai y.state.on_)
abbrev OO:DV:=(aS none 1 ai y.state.badSource)
abbrev R9:DV:=(aS none 1 ai y.state.earthed)
abbrev Pb:DV:=(aS none 1 ai y.state.badBus)
abbrev P8:DV:=(aS none 3 Transfer.cell y.transfers)
abbrev zP:List CV:=[(cI y.plant.buses),(.d (QV y)),(.d (Qx y)),(.d (RD y)),(.d (Sn y)),(.d (Qy y)),(.d (OQ y)),(.d (QG y)),(.d (OO y)),(.d (R9 y)),(.d (Pb y)),(.d (P8 y)),(.d (aS none 6 eP.cell y.jobs)),(cI y.people),(cB y.redundant)]
abbrev Gg:=((0:Int)≤i∧i<(y.jobs.length:Int))
abbrev zT:=((at' y.jobs i.toNat).parts)
abbrev PY:=((zT y i).length:Int)
abbrev TS:=(at' (zT y i) u0.toNat)
abbrev XA:List CV:=[(cI ((TS y i u0).kind)),(cI ((TS y i u0).index))]
abbrev Xx:List SV:=[(sD (.sl none 2 u0.toNat (aA Part.cell (zT y i)))),(.agg (XA y i u0))]
abbrev YR:=(bif (bif (bif (bif (bif (bif (bif (bif (bif (bif (decide (1≤(PY y i)))then(decide ((PY y i)≤8))else false)then(decide (1≤((at' y.jobs i.toNat).hours)))else false)then(decide (((at' y.jobs i.toNat).hours)≤48))else false)then(decide (0≤((at' y.jobs i.toNat).from_)))else false)then(decide (1≤((at' y.jobs i.toNat).to_)))else false)then(decide (((at' y.jobs i.toNat).to_)≤48))else false)then(decide (((at' y.jobs i.toNat).from_)≤(IntKind.wrap .i64 (((at' y.jobs i.toNat).to_) - ((at' y.jobs i.toNat).hours)))))else false)then(decide (1≤((at' y.jobs i.toNat).people)))else false)then(decide (((at' y.jobs i.toNat).people)≤20))else false)then(decide ((((at' y.jobs i.toNat).after).length:Int)≤8))else false)
end
theorem DU (y:ah) (i:Int):dJ Tryz.prog 84 [(.agg (zP y)),(sI i)] [] (fun r=>(vB r)) (fun _=>[]) (rq y i):=
  dY tT mX Tryz.func84 (
  .rg {fr:=[(0,7),(1,8)]} []<| .a1 (Gg y i)<| .rg {fr:=[(5,9)],fz:=[8]} []<| .rg {fz:=[9]} []<| .lp (σ:=Int) (β:=Unit) (0) [] [] ⟨[3,5,14,15],[],fun u0=>[(16,(vI u0))],fun u0=>[]⟩ ⟨[3,5],[],fun _=>[],fun _=>[]⟩
  (fun u0=> .r<| .it (.a1 ((0:Int)≤u0∧u0<(PY y i))<| .rg {fr:=[(3,13)],fz:=[13]} []<| .cl 5 ⟨fun{r_} hr_=>((Fn.Vg (args:=[(sD (aS none 2 Part.cell (yF (zT y i) 0 u0.toNat))),(.agg (XA y i u0))]) (args':=(Xx y i u0)) (hin:=[]) (hin':=[]) (og (yF (zT y i) 0 u0.toNat) (TS y i u0) hr_) ⟨tK.one (oo.d (pK.YU (by first|rw [List.length_append,List.length_drop]|simp only [List.length_set,List.length_drop,eX]|exact List.length_replicate) (.inr rfl) (QD _ _ _ _))),tK.refl _,trivial⟩ trivial):Fn Tryz.prog 157 (Xx y i u0) [] (vB r_) [])⟩ fun r_=> .a1 ((0:Int)≤u0∧u0≤(PY y i))<| .rg {} [0,1]<| .it (.r<| .e (.done (.ret false)))
  (.r<| .e (.next (k8 u0))))
  (.e (.done (.brk ()))))
  (fun _=> .cg 65 [((YR y i),true)] (ru ((at' y.jobs i.toNat).after) i) fun u1=> .r<| .e (bif (YR y i)then(!u1)else false)))
theorem y9 (s_:State):dJ Tryz.prog 227 (k29 s_) [] (fun r=>(.v (.agg [(.own 0 false r.closed.length),(.own 1 false r.locked.length),(.own 2 false r.badLink.length),(.own 3 false r.on_.length),(.own 4 false r.badSource.length),(.own 5 false r.earthed.length),(.own 6 false r.badBus.length)]))) (fun r=>[(0,some (bJ 4 1 ai r.closed)),(1,some (bJ 4 1 ai r.locked)),(2,some (bJ 4 1 ai r.badLink)),(3,some (bJ 4 1 ai r.on_)),(4,some (bJ 4 1 ai r.badSource)),(5,some (bJ 4 1 ai r.earthed)),(6,some (bJ 4 1 ai r.badBus)),(7,none)]) (oF s_):=
  dY tT mX Tryz.func227 (
  .rg {fr:=[(0,10),(1,11)]} []<| .rg {an:=[(7, .cells)],fr:=[(7,12)]} []<| .ul 11<| .r<| .t<| .a1 ((0:Int)≤0∧0<(7:Int))<| .r<| .cl 4 (lK [(0,13)] ⟨fun h=>aM s_.closed h⟩) fun r_=> .r<| .r<| .im (.dp [1,2,12,13,14])<| .r<| .t<| .a1 ((0:Int)≤1∧1<(7:Int))<| .r<| .cl 4 (lK [(0,14)] ⟨fun h=>aM s_.locked h⟩) fun u0=> .r<| .r<| .im (.dp [1,2,12,13,14])<| .r<| .t<| .a1 ((0:Int)≤2∧2<(7:Int))<| .r<| .cl 4 (lK [(0,15)] ⟨fun h=>aM s_.badLink h⟩) fun u1=> .r<| .r<| .im (.dp [1,2,12,13,14])<| .r<| .t<| .a1 ((0:Int)≤3∧3<(7:Int))<| .r<| .cl 4 (lK [(0,16)] ⟨fun h=>aM s_.on_ h⟩) fun u2=> .r<| .r<| .im (.dp [1,2,12,13,14])<| .r<| .t<| .a1 ((0:Int)≤4∧4<(7:Int))<| .r<| .cl 4 (lK [(0,17)] ⟨fun h=>aM s_.badSource h⟩) fun u3=> .r<| .r<| .im (.dp [1,2,12,13,14])<| .r<| .t<| .a1 ((0:Int)≤5∧5<(7:Int))<| .r<| .cl 4 (lK [(0,18)] ⟨fun h=>aM s_.earthed h⟩) fun u4=> .r<| .r<| .im (.dp [1,2,12,13,14])<| .r<| .t<| .a1 ((0:Int)≤6∧6<(7:Int))<| .r<| .cl 4 (lK [(0,19)] ⟨fun h=>aM s_.badBus h⟩) fun u5=> .r<| .r<| .im (.dp [1,2,12,13,14])<| .r<| .f<| .r<| .en (⟨r_,u0,u1,u2,u3,u4,u5⟩:State) [] [(13,0),(14,1),(15,2),(16,3),(17,4),(18,5),(19,6),(11,7)])
section
variable (r_:Int) (u0:State)
abbrev YW:=((⟨([]:List Bool),([]:List Bool),([]:List Bool),([]:List Bool),([]:List Bool),([]:List Bool),([]:List Bool)⟩:State),r_)
abbrev MS:List CV:=[(.own 23 false u0.badBus.length)]
abbrev D9:=(Si 1 (MS u0))
abbrev DT:List DV:=[(.int .i64 1),(.int .i64 2)]
abbrev Ed:=(Si 1 [(.own 23 false u0.badBus.length),(.own 21 false u0.badSource.length)])
abbrev D7:List DV:=[(.int .i64 1),(.int .i64 2),(.int .i64 3)]
abbrev D8:=(Si 1 [(.own 23 false u0.badBus.length),(.own 21 false u0.badSource.length),(.own 19 false u0.badLink.length)])
abbrev Oj:List CV:=[(.own 21 false u0.badSource.length)]
abbrev OY:List CV:=[(.own 19 false u0.badLink.length)]
end
theorem BL (p:aD) (s_:State) (x:Part) (is:Bool):dJ Tryz.prog 159 [(.agg (k1 p)),(.agg (k18 s_)),(.agg [(cI x.kind),(cI x.index)]),(sB is)] [] (fun r=>(.eT [(.agg [(.d (aS none 1 ai r.1.closed)),(.d (aS none 1 ai r.1.locked)),(.d (aS none 1 ai r.1.badLink)),(.d (aS none 1 ai r.1.on_)),(.d (aS none 1 ai r.1.badSource)),(.d (aS none 1 ai r.1.earthed)),(.d (aS none 1 ai r.1.badBus))]),(sI r.2)])) (fun _=>[]) (jV p s_ x is):=
  dY tT mX Tryz.func159 (
  .rg {fr:=[(0,13),(1,14),(2,15),(3,16)],fz:=[13]} []<| .cl 2 (fD p s_) fun r_=> .r<| .r<| .it (.rg {fz:=[16]} []<| .e (YW r_))
  (.cl 1 (lK [(0,17),(1,18),(2,19),(3,20),(4,21),(5,22),(6,23),(7,24)] (y9 s_)) fun u0=> .r<| .fk (bP x.kind 1) (.rg {an:=[(0, .map 0 (tX []) (Si 1 []) []),(3, .map 1 (tX [(.int .i64 1)]) (D9 u0) [23]),(6, .map 2 (tX DT) (Ed u0) [23,21]),(9, .map 3 (tX D7) (D8 u0) [23,21,19]),(13, .look true (MS u0))],fr:=[(0,25)]} [.pf ⟨nV [some .i64] 1 1 0 (tX []) (Si 1 []) [(.int .i64 1)] (MS u0) [23] 1 (tX [(.int .i64 1)]) (D9 u0),⟨(fun i hi=>absurd hi (Nat.not_lt_zero i)),(by intro i hi j hj;match i,j,hi,hj with|0,0,_,_=>exact bN.1 (show eU (CV.bM (.own 23 false u0.badBus.length)) [23]=true from by kernel_rfl)),0,(fun i hi=>absurd hi (Nat.not_lt_zero i)), .inr ⟨rfl,rfl⟩,rfl,rfl,(fun i hi=>absurd hi (Nat.not_lt_zero i))⟩⟩, .pf ⟨nV [some .i64] 1 1 1 (tX [(.int .i64 1)]) (D9 u0) [(.int .i64 2)] (Oj u0) [23,21] 2 (tX DT) (Ed u0),⟨(by intro i hi;match i,hi with|0,_=>rfl),(by intro i hi j hj;match i,j,hi,hj with|0,0,_,_=>exact bN.1 (show eU (CV.bM (.own 23 false u0.badBus.length)) [23,21]=true from by kernel_rfl)|1,0,_,_=>exact bN.1 (show eU (CV.bM (.own 21 false u0.badSource.length)) [23,21]=true from by kernel_rfl)),1,(by intro i hi;match i,hi with|0,_=>rfl), .inr ⟨rfl,rfl⟩,rfl,rfl,(by intro i hi;match i,hi with|0,_=>exact fun _=> ⟨rfl,rfl⟩)⟩⟩, .pf ⟨nV [some .i64] 1 1 2 (tX DT) (Ed u0) [(.int .i64 3)] (OY u0) [23,21,19] 3 (tX D7) (D8 u0),⟨(by intro i hi;match i,hi with|0,_=>rfl|1,_=>rfl),(by intro i hi j hj;match i,j,hi,hj with|0,0,_,_=>exact bN.1 (show eU (CV.bM (.own 23 false u0.badBus.length)) [23,21,19]=true from by kernel_rfl)|1,0,_,_=>exact bN.1 (show eU (CV.bM (.own 21 false u0.badSource.length)) [23,21,19]=true from by kernel_rfl)|2,0,_,_=>exact bN.1 (show eU (CV.bM (.own 19 false u0.badLink.length)) [23,21,19]=true from by kernel_rfl)),2,(by intro i hi;match i,hi with|0,_=>rfl|1,_=>rfl), .inr ⟨rfl,rfl⟩,rfl,rfl,(by intro i hi;match i,hi with|0,_=>exact fun _=> ⟨rfl,rfl⟩|1,_=>exact fun _=> ⟨rfl,rfl⟩)⟩⟩, .m [0] [(bP x.kind 1)=true] (kD [some .i64] 1 1 3 (tX D7) (D8 u0) [(.int .i64 x.kind)] [(.d nS)] true (MS u0)) (fun⟨hb1,_⟩=> ⟨(by intro i hi;match i,hi with|0,_=>rfl|1,_=>rfl|2,_=>rfl), .inl ⟨rfl,0,by decide,congrArg some hb1,(fun i hi=>absurd hi (Nat.not_lt_zero i)),rfl⟩⟩)]<| .cl 5 (aL x.index 0 (IntKind.wrap .i64 ((u0.badBus.length:Int) - 1))) fun u1=> .r<| .it (.rg {fz:=[16]} []<| .e ((⟨([]:List Bool),([]:List Bool),([]:List Bool),([]:List Bool),([]:List Bool),([]:List Bool),([]:List Bool)⟩:State),14))
  (.a1 ((0:Int)≤x.index∧x.index<(u0.badBus.length:Int))<| .rg {an:=[(5, .arr 0 (aA ai (u0.badBus.set x.index.toNat is)))]} [0, .t 0 x.index u0.badBus.length, .pf ⟨aI u0.badBus.length 1 (oN (aA ai u0.badBus) x.index.toNat 0 [(.bool is)]) (aA ai (u0.badBus.set x.index.toNat is)),gI _ _ _ _ _ _ _ _ rfl (fun j hj=>(match j,hj with|0,_=>rfl))⟩]<| .im (.ll 23 u0.badBus (u0.badBus.set x.index.toNat is))<| .rg {fz:=[17,18,19,20,21,22,23]} []<| .fz [16]<| .e ((⟨u0.closed,u0.locked,u0.badLink,u0.on_,u0.badSource,u0.earthed,(u0.badBus.set x.index.toNat is)⟩:State),0)))
  (.fk (bP x.kind 2) (.rg {an:=[(0, .map 0 (tX []) (Si 1 []) []),(3, .map 1 (tX [(.int .i64 1)]) (D9 u0) [23]),(6, .map 2 (tX DT) (Ed u0) [23,21]),(9, .map 3 (tX D7) (D8 u0) [23,21,19]),(13, .look true (Oj u0))],fr:=[(0,25)]} [.pf ⟨nV [some .i64] 1 1 0 (tX []) (Si 1 []) [(.int .i64 1)] (MS u0) [23] 1 (tX [(.int .i64 1)]) (D9 u0),⟨(fun i hi=>absurd hi (Nat.not_lt_zero i)),(by intro i hi j hj;match i,j,hi,hj with|0,0,_,_=>exact bN.1 (show eU (CV.bM (.own 23 false u0.badBus.length)) [23]=true from by kernel_rfl)),0,(fun i hi=>absurd hi (Nat.not_lt_zero i)), .inr ⟨rfl,rfl⟩,rfl,rfl,(fun i hi=>absurd hi (Nat.not_lt_zero i))⟩⟩, .pf ⟨nV [some .i64] 1 1 1 (tX [(.int .i64 1)]) (D9 u0) [(.int .i64 2)] (Oj u0) [23,21] 2 (tX DT) (Ed u0),⟨(by intro i hi;match i,hi with|0,_=>rfl),(by intro i hi j hj;match i,j,hi,hj with|0,0,_,_=>exact bN.1 (show eU (CV.bM (.own 23 false u0.badBus.length)) [23,21]=true from by kernel_rfl)|1,0,_,_=>exact bN.1 (show eU (CV.bM (.own 21 false u0.badSource.length)) [23,21]=true from by kernel_rfl)),1,(by intro i hi;match i,hi with|0,_=>rfl), .inr ⟨rfl,rfl⟩,rfl,rfl,(by intro i hi;match i,hi with|0,_=>exact fun _=> ⟨rfl,rfl⟩)⟩⟩, .pf ⟨nV [some .i64] 1 1 2 (tX DT) (Ed u0) [(.int .i64 3)] (OY u0) [23,21,19] 3 (tX D7) (D8 u0),⟨(by intro i hi;match i,hi with|0,_=>rfl|1,_=>rfl),(by intro i hi j hj;match i,j,hi,hj with|0,0,_,_=>exact bN.1 (show eU (CV.bM (.own 23 false u0.badBus.length)) [23,21,19]=true from by kernel_rfl)|1,0,_,_=>exact bN.1 (show eU (CV.bM (.own 21 false u0.badSource.length)) [23,21,19]=true from by kernel_rfl)|2,0,_,_=>exact bN.1 (show eU (CV.bM (.own 19 false u0.badLink.length)) [23,21,19]=true from by kernel_rfl)),2,(by intro i hi;match i,hi with|0,_=>rfl|1,_=>rfl), .inr ⟨rfl,rfl⟩,rfl,rfl,(by intro i hi;match i,hi with|0,_=>exact fun _=> ⟨rfl,rfl⟩|1,_=>exact fun _=> ⟨rfl,rfl⟩)⟩⟩, .m [0,1] [(bP x.kind 2)=true,(bP x.kind 1)=false] (kD [some .i64] 1 1 3 (tX D7) (D8 u0) [(.int .i64 x.kind)] [(.d nS)] true (Oj u0)) (fun⟨hb3,hb1,_⟩=> ⟨(by intro i hi;match i,hi with|0,_=>rfl|1,_=>rfl|2,_=>rfl), .inl ⟨rfl,1,by decide,congrArg some hb3,(by intro i hi;match i,hi with|0,_=>exact congrArg some hb1),rfl⟩⟩)]<| .cl 5 (aL x.index 0 (IntKind.wrap .i64 ((u0.badSource.length:Int) - 1))) fun u2=> .r<| .it (.rg {fz:=[16]} []<| .e ((⟨([]:List Bool),([]:List Bool),([]:List Bool),([]:List Bool),([]:List Bool),([]:List Bool),([]:List Bool)⟩:State),14))
  (.a1 ((0:Int)≤x.index∧x.index<(u0.badSource.length:Int))<| .rg {an:=[(5, .arr 0 (aA ai (u0.badSource.set x.index.toNat is)))]} [0, .t 0 x.index u0.badSource.length, .pf ⟨aI u0.badSource.length 1 (oN (aA ai u0.badSource) x.index.toNat 0 [(.bool is)]) (aA ai (u0.badSource.set x.index.toNat is)),gI _ _ _ _ _ _ _ _ rfl (fun j hj=>(match j,hj with|0,_=>rfl))⟩]<| .im (.ll 21 u0.badSource (u0.badSource.set x.index.toNat is))<| .rg {fz:=[17,18,19,20,21,22,23]} []<| .fz [16]<| .e ((⟨u0.closed,u0.locked,u0.badLink,u0.on_,(u0.badSource.set x.index.toNat is),u0.earthed,u0.badBus⟩:State),0)))
  (.fk (bP x.kind 3) (.rg {an:=[(0, .map 0 (tX []) (Si 1 []) []),(3, .map 1 (tX [(.int .i64 1)]) (D9 u0) [23]),(6, .map 2 (tX DT) (Ed u0) [23,21]),(9, .map 3 (tX D7) (D8 u0) [23,21,19]),(13, .look true (OY u0))],fr:=[(0,25)]} [.pf ⟨nV [some .i64] 1 1 0 (tX []) (Si 1 []) [(.int .i64 1)] (MS u0) [23] 1 (tX [(.int .i64 1)]) (D9 u0),⟨(fun i hi=>absurd hi (Nat.not_lt_zero i)),(by intro i hi j hj;match i,j,hi,hj with|0,0,_,_=>exact bN.1 (show eU (CV.bM (.own 23 false u0.badBus.length)) [23]=true from by kernel_rfl)),0,(fun i hi=>absurd hi (Nat.not_lt_zero i)), .inr ⟨rfl,rfl⟩,rfl,rfl,(fun i hi=>absurd hi (Nat.not_lt_zero i))⟩⟩, .pf ⟨nV [some .i64] 1 1 1 (tX [(.int .i64 1)]) (D9 u0) [(.int .i64 2)] (Oj u0) [23,21] 2 (tX DT) (Ed u0),⟨(by intro i hi;match i,hi with|0,_=>rfl),(by intro i hi j hj;match i,j,hi,hj with|0,0,_,_=>exact bN.1 (show eU (CV.bM (.own 23 false u0.badBus.length)) [23,21]=true from by kernel_rfl)|1,0,_,_=>exact bN.1 (show eU (CV.bM (.own 21 false u0.badSource.length)) [23,21]=true from by kernel_rfl)),1,(by intro i hi;match i,hi with|0,_=>rfl), .inr ⟨rfl,rfl⟩,rfl,rfl,(by intro i hi;match i,hi with|0,_=>exact fun _=> ⟨rfl,rfl⟩)⟩⟩, .pf ⟨nV [some .i64] 1 1 2 (tX DT) (Ed u0) [(.int .i64 3)] (OY u0) [23,21,19] 3 (tX D7) (D8 u0),⟨(by intro i hi;match i,hi with|0,_=>rfl|1,_=>rfl),(by intro i hi j hj;match i,j,hi,hj with|0,0,_,_=>exact bN.1 (show eU (CV.bM (.own 23 false u0.badBus.length)) [23,21,19]=true from by kernel_rfl)|1,0,_,_=>exact bN.1 (show eU (CV.bM (.own 21 false u0.badSource.length)) [23,21,19]=true from by kernel_rfl)|2,0,_,_=>exact bN.1 (show eU (CV.bM (.own 19 false u0.badLink.length)) [23,21,19]=true from by kernel_rfl)),2,(by intro i hi;match i,hi with|0,_=>rfl|1,_=>rfl), .inr ⟨rfl,rfl⟩,rfl,rfl,(by intro i hi;match i,hi with|0,_=>exact fun _=> ⟨rfl,rfl⟩|1,_=>exact fun _=> ⟨rfl,rfl⟩)⟩⟩, .m [0,2,1] [(bP x.kind 3)=true,(bP x.kind 1)=false,(bP x.kind 2)=false] (kD [some .i64] 1 1 3 (tX D7) (D8 u0) [(.int .i64 x.kind)] [(.d nS)] true (OY u0)) (fun⟨hb5,hb1,hb3,_⟩=> ⟨(by intro i hi;match i,hi with|0,_=>rfl|1,_=>rfl|2,_=>rfl), .inl ⟨rfl,2,by decide,congrArg some hb5,(by intro i hi;match i,hi with|0,_=>exact congrArg some hb1|1,_=>exact congrArg some hb3),rfl⟩⟩)]<| .cl 5 (aL x.index 0 (IntKind.wrap .i64 ((u0.badLink.length:Int) - 1))) fun u3=> .r<| .it (.rg {fz:=[16]} []<| .e ((⟨([]:List Bool),([]:List Bool),([]:List Bool),([]:List Bool),([]:List Bool),([]:List Bool),([]:List Bool)⟩:State),14))
  (.a1 ((0:Int)≤x.index∧x.index<(u0.badLink.length:Int))<| .rg {an:=[(5, .arr 0 (aA ai (u0.badLink.set x.index.toNat is)))]} [0, .t 0 x.index u0.badLink.length, .pf ⟨aI u0.badLink.length 1 (oN (aA ai u0.badLink) x.index.toNat 0 [(.bool is)]) (aA ai (u0.badLink.set x.index.toNat is)),gI _ _ _ _ _ _ _ _ rfl (fun j hj=>(match j,hj with|0,_=>rfl))⟩]<| .im (.ll 19 u0.badLink (u0.badLink.set x.index.toNat is))<| .rg {fz:=[17,18,19,20,21,22,23]} []<| .fz [16]<| .e ((⟨u0.closed,u0.locked,(u0.badLink.set x.index.toNat is),u0.on_,u0.badSource,u0.earthed,u0.badBus⟩:State),0)))
  (.rg {an:=[(0, .map 0 (tX []) (Si 1 []) []),(3, .map 1 (tX [(.int .i64 1)]) (D9 u0) [23]),(6, .map 2 (tX DT) (Ed u0) [23,21]),(9, .map 3 (tX D7) (D8 u0) [23,21,19]),(13, .look false [(.d nS)])],fr:=[(0,25)]} [.pf ⟨nV [some .i64] 1 1 0 (tX []) (Si 1 []) [(.int .i64 1)] (MS u0) [23] 1 (tX [(.int .i64 1)]) (D9 u0),⟨(fun i hi=>absurd hi (Nat.not_lt_zero i)),(by intro i hi j hj;match i,j,hi,hj with|0,0,_,_=>exact bN.1 (show eU (CV.bM (.own 23 false u0.badBus.length)) [23]=true from by kernel_rfl)),0,(fun i hi=>absurd hi (Nat.not_lt_zero i)), .inr ⟨rfl,rfl⟩,rfl,rfl,(fun i hi=>absurd hi (Nat.not_lt_zero i))⟩⟩, .pf ⟨nV [some .i64] 1 1 1 (tX [(.int .i64 1)]) (D9 u0) [(.int .i64 2)] (Oj u0) [23,21] 2 (tX DT) (Ed u0),⟨(by intro i hi;match i,hi with|0,_=>rfl),(by intro i hi j hj;match i,j,hi,hj with|0,0,_,_=>exact bN.1 (show eU (CV.bM (.own 23 false u0.badBus.length)) [23,21]=true from by kernel_rfl)|1,0,_,_=>exact bN.1 (show eU (CV.bM (.own 21 false u0.badSource.length)) [23,21]=true from by kernel_rfl)),1,(by intro i hi;match i,hi with|0,_=>rfl), .inr ⟨rfl,rfl⟩,rfl,rfl,(by intro i hi;match i,hi with|0,_=>exact fun _=> ⟨rfl,rfl⟩)⟩⟩, .pf ⟨nV [some .i64] 1 1 2 (tX DT) (Ed u0) [(.int .i64 3)] (OY u0) [23,21,19] 3 (tX D7) (D8 u0),⟨(by intro i hi;match i,hi with|0,_=>rfl|1,_=>rfl),(by intro i hi j hj;match i,j,hi,hj with|0,0,_,_=>exact bN.1 (show eU (CV.bM (.own 23 false u0.badBus.length)) [23,21,19]=true from by kernel_rfl)|1,0,_,_=>exact bN.1 (show eU (CV.bM (.own 21 false u0.badSource.length)) [23,21,19]=true from by kernel_rfl)|2,0,_,_=>exact bN.1 (show eU (CV.bM (.own 19 false u0.badLink.length)) [23,21,19]=true from by kernel_rfl)),2,(by intro i hi;match i,hi with|0,_=>rfl|1,_=>rfl), .inr ⟨rfl,rfl⟩,rfl,rfl,(by intro i hi;match i,hi with|0,_=>exact fun _=> ⟨rfl,rfl⟩|1,_=>exact fun _=> ⟨rfl,rfl⟩)⟩⟩, .m [2,1,0] [(bP x.kind 1)=false,(bP x.kind 2)=false,(bP x.kind 3)=false] (kD [some .i64] 1 1 3 (tX D7) (D8 u0) [(.int .i64 x.kind)] [(.d nS)] false [(.d nS)]) (fun⟨hb1,hb3,hb5,_⟩=> ⟨(by intro i hi;match i,hi with|0,_=>rfl|1,_=>rfl|2,_=>rfl), .inr ⟨rfl,(by intro i hi;match i,hi with|0,_=>exact congrArg some hb1|1,_=>exact congrArg some hb3|2,_=>exact congrArg some hb5), .refl _⟩⟩)]<| .cl 5 (aL x.index 0 (-1)) fun u4=> .r<| .it (.rg {fz:=[16]} []<| .e ((⟨([]:List Bool),([]:List Bool),([]:List Bool),([]:List Bool),([]:List Bool),([]:List Bool),([]:List Bool)⟩:State),14))
  (.no))))))
theorem ql (p:aD) (s_:State) (l:(List Transfer)):dJ Tryz.prog 83 (k28 p s_ l) [] (fun r=>(.eT [(.agg [(.own 0 false r.1.closed.length),(.own 1 false r.1.locked.length),(.own 2 false r.1.badLink.length),(.own 3 false r.1.on_.length),(.own 4 false r.1.badSource.length),(.own 5 false r.1.earthed.length),(.own 6 false r.1.badBus.length)]),(.one (.own 7 false r.2.1.length)),(sI r.2.2)])) (fun r=>[(0,some (bJ 4 1 ai r.1.closed)),(1,some (bJ 4 1 ai r.1.locked)),(2,some (bJ 4 1 ai r.1.badLink)),(3,some (bJ 4 1 ai r.1.on_)),(4,some (bJ 4 1 ai r.1.badSource)),(5,some (bJ 4 1 ai r.1.earthed)),(6,some (bJ 4 1 ai r.1.badBus)),(7,some (bJ 3 1 (aF .i64) r.2.1)),(8,none)]) (jM p s_ l):=
  dY tT mX Tryz.func83 (
  .rg {fr:=[(0,18),(1,19),(2,20)],fz:=[18,19]} []<| .cl 3 (mZ p s_ l) fun r_=> .r<| .r<| .it (.r<| .im (.ad 7 21 3 1 (aA (aF .i64) ([]:List Int)))<| .im (.BS 20 0 22 4 1 (aA ai ([]:List Bool)))<| .im (.BS 20 1 23 4 1 (aA ai ([]:List Bool)))<| .im (.BS 20 2 24 4 1 (aA ai ([]:List Bool)))<| .im (.BS 20 3 25 4 1 (aA ai ([]:List Bool)))<| .im (.BS 20 4 26 4 1 (aA ai ([]:List Bool)))<| .im (.BS 20 5 27 4 1 (aA ai ([]:List Bool)))<| .im (.BS 20 6 28 4 1 (aA ai ([]:List Bool)))<| .en ((⟨([]:List Bool),([]:List Bool),([]:List Bool),([]:List Bool),([]:List Bool),([]:List Bool),([]:List Bool)⟩:State),([]:List Int),r_) [] [(22,0),(23,1),(24,2),(25,3),(26,4),(27,5),(28,6),(21,7),(20,8)])
  (.cl 1 (lK [(0,29),(1,30),(2,31),(3,32),(4,33),(5,34),(6,35),(7,36)] (yB s_)) fun u0=> .rg {fr:=[(2,37)]} []<| .rg {fr:=[(0,38)]} []<| .im (.BS 38 0 39 3 1 (aA (aF .i64) ([]:List Int)))<| .cl 3 (lK [(0,29),(1,30),(2,31),(3,32),(4,33),(5,34),(6,35),(7,40)] (yC p u0 l)) fun u1=> .r<| .cl 0 (lK [(0,41),(1,40),(2,37),(3,38),(4,29),(5,30),(6,31),(7,32),(8,33),(9,34),(10,35),(11,39),(12,42),(13,43)] (zQ u1.1 u1.2.1 u1.2.2.1 u1.2.2.2.1 u1.2.2.2.2.1 u0 u0 ([]:List Int))) fun u2=> .rf 41 [10,11] [] none 0 []<| .r<| .en ((⟨u2.1.closed,u0.locked,u0.badLink,u0.on_,u0.badSource,u0.earthed,u0.badBus⟩:State),u2.2.2,0) [] [(42,0),(30,1),(31,2),(32,3),(33,4),(34,5),(35,6),(43,7),(20,8)]))
theorem qM (p:aD) (s_:State) (x:Part):dJ Tryz.prog 85 [(.agg (k1 p)),(.agg (k18 s_)),(.agg [(cI x.kind),(cI x.index)])] [] (fun r=>(.eT [(.agg [(.d (aS none 1 ai r.1.closed)),(.d (aS none 1 ai r.1.locked)),(.d (aS none 1 ai r.1.badLink)),(.d (aS none 1 ai r.1.on_)),(.d (aS none 1 ai r.1.badSource)),(.d (aS none 1 ai r.1.earthed)),(.d (aS none 1 ai r.1.badBus))]),(sI r.2)])) (fun _=>[]) (gW p s_ x):=
  dY tT mX Tryz.func85 (
  .rg {fr:=[(0,4),(1,5),(2,6),(3,7)],fz:=[4,5,6]} []<| .cl 3 (BL p s_ x true) fun r_=> .r<| .en (r_.1,r_.2) [7] [])
section
variable (y:ah)
abbrev SY:List SV:=[(.agg (zP y))]
end
theorem kJ (y:ah):dJ Tryz.prog 24 (SY y) [] (fun r=>(vI r)) (fun _=>[]) (dS y):=
  dY tT mX Tryz.func24 (
  .rg {fr:=[(0,47)]} []<| .cl 6 (lK [(0,48),(1,49),(2,50),(3,51),(4,52),(5,53),(6,54),(7,55),(8,56)] (ql y.plant y.state y.transfers)) fun r_=> .rg {fr:=[(11,57)]} []<| .r<| .it (.r<| .e r_.2.2)
  (.r<| .it (.r<| .e 2)
  (.rg {fz:=[47]} []<| .lp (σ:=Int) (β:=Unit) (0) [] [] ⟨[1,31,32],[],fun u0=>[(33,(vI u0))],fun u0=>[]⟩ ⟨[1],[],fun _=>[],fun _=>[]⟩
  (fun u0=> .r<| .it (.a1 (Gg y u0)<| .rg {fr:=[(3,85)]} []<| .cl 2 (DU y u0) fun u3=> .r<| .it (.r<| .e (.done (.ret 120)))
  (.r<| .lp (σ:=Int) (β:=Unit) (0) [] [] ⟨[1,31,32,33,43,44],[],fun u1=>[(45,(vI u1))],fun u1=>[]⟩ ⟨[1,31,32,33],[],fun _=>[],fun _=>[]⟩
  (fun u1=> .r<| .it (.a1 ((0:Int)≤u1∧u1<(PY y u0))<| .rg {fr:=[(2,92)],fz:=[92]} []<| .cl 5 (qM y.plant y.state (TS y u0 u1)) fun u2=> .rg {fr:=[(9,93)]} []<| .r<| .it (.r<| .e (.done (.ret (.done (.ret u2.2)))))
  (.r<| .e (.next (k8 u1))))
  (.e (.done (.brk ()))))
  (fun _=> .r<| .e (.next (k8 u0)))))
  (.e (.done (.brk ()))))
  (fun _=> .r<| .it (.r<| .e 1)
  (.r<| .e 0)))))
theorem CG (l:(List Int)):dJ Tryz.prog 58 [(sD (BI l))] [] (fun r=>(vD (aS none 1 (aF .i64) r))) (fun _=>[]) (sN l):=
  dY tT mX Tryz.func58 (
  .r<| .r<| .a2 (l.length*8≤140737488355328) (l.length≤4611686018427387904)<| .rg {an:=[(2, .arr l.length (aA (aF .i64) l))],fr:=[(2,1)],fz:=[1]} [0,1, .e (l.length), .pf ⟨aI l.length 1 (aA (aF .i64) l) (aA (aF .i64) l),iB _ _ _⟩]<| .e l)
theorem xP (l:(List nJ)):dJ Tryz.prog 275 [(sD (aS none 2 nJ.cell l))] [] (fun r=>(vO 0 false r.length)) (fun r=>[(0,some (bJ 282 2 nJ.cell r))]) (qE l):=
  dY tT mX Tryz.func275 (
  .r<| .r<| .a2 (l.length*16≤140737488355328) (l.length≤4611686018427387904)<| .rg {an:=[(2, .arr l.length (aA nJ.cell l))],fr:=[(2,1)]} [0,1, .e (l.length), .pf ⟨aI l.length 2 (aA nJ.cell l) (aA nJ.cell l),iB _ _ _⟩]<| .en l [] [(1,0)])
theorem Ct (x:Link):dJ Tryz.prog 228 [(.agg (k9 x))] [] (fun r=>(.v (.agg [(cI r.a),(cI r.b),(cI r.kind),(cI r.most),(cI r.ohm),(.d (aS none 2 nJ.cell r.trip))]))) (fun _=>[]) (oZ x):=
  dY tT mX Tryz.func228 (
  .rg {fr:=[(0,3),(1,4)]} []<| .cl 12 (lK [(0,5)] (xP x.trip)) fun r_=> .rg {fz:=[5]} []<| .fz [4]<| .e (⟨x.a,x.b,x.kind,x.most,x.ohm,r_⟩:Link))
theorem wu (l:(List Source)):dJ Tryz.prog 160 [(sD (k3 l))] [] (fun r=>(vO 0 false r.length)) (fun r=>[(0,some (bJ 38 5 Source.cell r))]) (oz l):=
  dY tT mX Tryz.func160 (
  .r<| .r<| .a2 (l.length*40≤140737488355328) (l.length≤4611686018427387904)<| .rg {an:=[(2, .arr l.length (aA Source.cell l))],fr:=[(2,1)]} [0,1, .e (l.length), .pf ⟨aI l.length 5 (aA Source.cell l) (aA Source.cell l),iB _ _ _⟩]<| .en l [] [(1,0)])
theorem xX (l:(List Link)):dJ Tryz.prog 161 [(sD (aS none 6 Link.cell l))] [] (fun r=>(vO 0 false r.length)) (fun r=>[(0,some (bJ 35 6 Link.cell r))]) (qH l):=
  dY tT mX Tryz.func161 (
  .r<| .r<| .r<| .im (.ad 3 16 35 6 (aA Link.cell ([]:List Link)))<| .lp (σ:=((List Link) × Int)) (β:=(List Link)) (([]:List Link),0) [] [(16,9)] ⟨[0],[],fun(u0,i)=>[(3,(vO 9 false u0.length)),(4,(vI i))],fun(u0,i)=>[(9,some (bJ 35 6 Link.cell u0))]⟩ ⟨[],[],fun u1=>[(3,(vO 9 false u1.length))],fun u1=>[(9,some (bJ 35 6 Link.cell u1))]⟩
  (fun(u0,i)=> .r<| .it (.cl 5 (Ct (at' l i.toNat)) fun r_=> .a3 ((0:Int)≤i∧i<(l.length:Int)) ((u0.length+[r_].length)*64≤140737488355328) (u0.length+[r_].length≤4611686018427387904)<| .rg {an:=[(6, .arr [r_].length (aA Link.cell [r_])),(7, .arr (u0++[r_]).length (aA Link.cell (u0++[r_])))],fr:=[(6,14),(7,15)]} [0,3, .pf ⟨[r_].length=1,rfl⟩, .pf ⟨aI 1 6 (nN 6 [(.int .i64 r_.a),(.int .i64 r_.b),(.int .i64 r_.kind),(.int .i64 r_.most),(.int .i64 r_.ohm),(aS none 2 nJ.cell r_.trip)]) (aA Link.cell [r_]),(by intro i hi j hj;match i,j,hi,hj with|0,0,_,_=>rfl|0,1,_,_=>rfl|0,2,_,_=>rfl|0,3,_,_=>rfl|0,4,_,_=>rfl|0,5,_,_=>rfl)⟩, .e (u0.length),1,2, .pf ⟨(u0++[r_]).length=u0.length+[r_].length,List.length_append⟩, .pf ⟨aI (u0.length+[r_].length) 6 (oW (aA Link.cell u0) u0.length (aA Link.cell [r_])) (aA Link.cell (u0++[r_])),dG _ _ _ _⟩]<| .r<| .en (.next ((u0++[r_]),(k8 i))) [] [(15,9)])
  (.e (.done (.brk u0))))
  (fun u1=> .r<| .en u1 [] [(9,0)]))
theorem xQ (l:(List aN)):dJ Tryz.prog 162 [(sD (aS none 4 aN.cell l))] [] (fun r=>(vO 0 false r.length)) (fun r=>[(0,some (bJ 147 4 aN.cell r))]) (qJ l):=
  dY tT mX Tryz.func162 (
  .r<| .r<| .a2 (l.length*32≤140737488355328) (l.length≤4611686018427387904)<| .rg {an:=[(2, .arr l.length (aA aN.cell l))],fr:=[(2,1)]} [0,1, .e (l.length), .pf ⟨aI l.length 4 (aA aN.cell l) (aA aN.cell l),iB _ _ _⟩]<| .en l [] [(1,0)])
theorem bW (l:(List Bool)):dJ Tryz.prog 163 [(sD (aS none 1 ai l))] [] (fun r=>(vO 0 false r.length)) (fun r=>[(0,some (bJ 4 1 ai r))]) (cu l):=
  dY tT mX Tryz.func163 (
  .r<| .r<| .a2 (l.length*1≤140737488355328) (l.length≤4611686018427387904)<| .rg {an:=[(2, .arr l.length (aA ai l))],fr:=[(2,1)]} [0,1, .e (l.length), .pf ⟨aI l.length 1 (aA ai l) (aA ai l),iB _ _ _⟩]<| .en l [] [(1,0)])
theorem xK (x:aD):dJ Tryz.prog 86 (k0 x) [] (fun r=>(.v (.agg [(cI r.buses),(.own 0 false r.sources.length),(.own 1 false r.links.length),(.own 2 false r.racks.length)]))) (fun r=>[(0,some (bJ 38 5 Source.cell r.sources)),(1,some (bJ 35 6 Link.cell r.links)),(2,some (bJ 147 4 aN.cell r.racks)),(3,none)]) (nk x):=
  dY tT mX Tryz.func86 (
  .rg {fr:=[(0,5),(1,6)]} []<| .cl 4 (lK [(0,7)] (wu x.sources)) fun r_=> .cl 7 (lK [(0,8)] (xX x.links)) fun u0=> .cl 10 (lK [(0,9)] (xQ x.racks)) fun u1=> .r<| .en (⟨x.buses,r_,u0,u1⟩:aD) [] [(7,0),(8,1),(9,2),(6,3)])
theorem xV (x:State):dJ Tryz.prog 87 (k29 x) [] (fun r=>(.v (.agg [(.own 0 false r.closed.length),(.own 1 false r.locked.length),(.own 2 false r.badLink.length),(.own 3 false r.on_.length),(.own 4 false r.badSource.length),(.own 5 false r.earthed.length),(.own 6 false r.badBus.length)]))) (fun r=>[(0,some (bJ 4 1 ai r.closed)),(1,some (bJ 4 1 ai r.locked)),(2,some (bJ 4 1 ai r.badLink)),(3,some (bJ 4 1 ai r.on_)),(4,some (bJ 4 1 ai r.badSource)),(5,some (bJ 4 1 ai r.earthed)),(6,some (bJ 4 1 ai r.badBus)),(7,none)]) (nD x):=
  dY tT mX Tryz.func87 (
  .rg {fr:=[(0,9),(1,10)],fz:=[9]} []<| .cl 2 (lK [(0,11)] (bW x.closed)) fun r_=> .cl 5 (lK [(0,12)] (bW x.locked)) fun u0=> .cl 8 (lK [(0,13)] (bW x.badLink)) fun u1=> .cl 11 (lK [(0,14)] (bW x.on_)) fun u2=> .cl 14 (lK [(0,15)] (bW x.badSource)) fun u3=> .cl 17 (lK [(0,16)] (bW x.earthed)) fun u4=> .cl 20 (lK [(0,17)] (bW x.badBus)) fun u5=> .r<| .en (⟨r_,u0,u1,u2,u3,u4,u5⟩:State) [] [(11,0),(12,1),(13,2),(14,3),(15,4),(16,5),(17,6),(10,7)])
theorem pG (l:(List Part)):dJ Tryz.prog 88 [(sD (Gw l))] [] (fun r=>(vO 0 false r.length)) (fun r=>[(0,some (bJ 78 2 Part.cell r))]) (iW l):=
  dY tT mX Tryz.func88 (
  .r<| .r<| .a2 (l.length*16≤140737488355328) (l.length≤4611686018427387904)<| .rg {an:=[(2, .arr l.length (aA Part.cell l))],fr:=[(2,1)]} [0,1, .e (l.length), .pf ⟨aI l.length 2 (aA Part.cell l) (aA Part.cell l),iB _ _ _⟩]<| .en l [] [(1,0)])
theorem dW (s_:Int):dJ Tryz.prog 93 [(sD (.int .u8 s_))] [] (fun r=>(vD (.fn 173 1 (qA [(zq [(.int .u8 r)] 0)])))) (fun _=>[]) (dQ s_):=
  dY tT mX Tryz.func93 (
  .rg {fr:=[(0,1)],fz:=[1]} []<| .r<| .e s_)
noncomputable def qO:fA:=⟨[29],F6 ([1,1,1,0,1,0,0,1,0,0,1,0,1,0]++[0]) (kr Tryz.f92),F6 ([1,1,1,0,1,0,0,1,0,0,1,0,1,0]++[1]) (kr Tryz.f92),51,[]⟩
theorem dm:dJ Tryz.prog 94 [] [] (fun r=>(.v (.agg [(.d (.int .u8 r.e0)),(.d (.int .u8 r.e1)),(.d (.int .u8 r.e2)),(.d (.int .u8 r.e3)),(.d (.int .u8 r.e4))]))) (fun _=>[]) (bC):=
  dY tT mX Tryz.func94 (
  .rg {fr:=[(0,1)]} []<| .rg {fz:=[1]} []<| .e (⟨1,2,4,8,16⟩:nC))
section
variable (r_:nC) (i:Int)
abbrev OV:=(at' [r_.e0,r_.e1,r_.e2,r_.e3,r_.e4] i.toNat)
abbrev Gb:List DV:=[(.int .u8 (OV r_ i))]
abbrev xI:List CV:=[(.d (.int .u8 r_.e0)),(.d (.int .u8 r_.e1)),(.d (.int .u8 r_.e2)),(.d (.int .u8 r_.e3)),(.d (.int .u8 r_.e4))]
end
theorem gy (s_:Int) (i:Int):dJ Tryz.prog 113 [(sD (.int .u8 s_)),(sI i)] [] (fun r=>(vB r)) (fun _=>[]) (fe s_ i):=
  dY tT mX Tryz.func113 (
  .r<| .cl 1 dm fun r_=> .a1 ((0:Int)≤i∧i<((5:Nat):Int))<| .rg {an:=[(3, .vals (Gb r_ i))]} [1,0, .dv 0 ⟨(0:Int)≤i∧i<((5:Nat):Int),i.toNat*1+1≤(xI r_).length,fun ax=>IU (n:=5) (sz:=1) (Nat.le_refl _) ax⟩, .dv 0 ⟨(0:Int)≤i∧i<((5:Nat):Int),((xI r_).drop (i.toNat*1)).take 1=(Gb r_ i).map .d,fun ax=>JD (n:=5) (sz:=1) (g:=fun q=>[(.d (.int .u8 (at' [r_.e0,r_.e1,r_.e2,r_.e3,r_.e4] q)))]) (by intro q hq;match q,hq with|0,_=>rfl|1,_=>rfl|2,_=>rfl|3,_=>rfl|4,_=>rfl) ax⟩]<| .e (!decide ((IntKind.wrap .u8 (((BitVec.ofInt (IntKind.bits .u8) s_ &&& BitVec.ofInt (IntKind.bits .u8) (OV r_ i)).toNat:Int)))=0)))
section
variable (u1:Int) (o_:(List (Int × Bool))) (u2:Bool) (r_:nC) (u0:Int)
abbrev WX:Nat × Option Ob:=(0,some (.loop qO 0 [(4,(vP 1 0)),(5,(vP 2 0)),(6,(vP 3 0))]))
abbrev OX:Nat × Option Ob:=(1,some (.cells 196 [(.mp 4)]))
abbrev SH:Ob:=(.cells 198 [(.d (.int .u8 u1))])
abbrev OH:Nat × Option Ob:=(2,some (SH u1))
abbrev Kk:Ob:=(LV 198 4 false false 1 1 (aF .u8) ai o_)
abbrev OC:Nat × Option Ob:=(4,some (Kk o_))
abbrev YN:List (Nat × Option Ob):=[WX,OX,(OH u1),(3,some (.cells 4 [(cB u2)])),(OC o_)]
abbrev UY:=(IntKind.wrap .u8 (((BitVec.ofInt (IntKind.bits .u8) u1 &&& ~~~ BitVec.ofInt (IntKind.bits .u8) (OV r_ u0)).toNat:Int)))
abbrev Sz:=(aV bP (UY u1 r_ u0) o_)
abbrev Zd:=((Sz u1 o_ r_ u0).getD false)
abbrev Uu:List CV:=[(cB (Zd u1 o_ r_ u0))]
abbrev XU:List DV:=[(.int .u8 (UY u1 r_ u0))]
abbrev Yh:=(bif u2 then(Zd u1 o_ r_ u0)else false)
end
theorem ve (u0:Int) (o_:(List (Int × Bool))) (u1:Int) (u2:Bool):PG Tryz.prog 0 [(sI u0)] (YN u1 o_ u2) (fun _=>vB true) (fun r=>[WX,OX,(OH u1),(3,some (.cells 4 [(cB r)])),(OC o_)]) (lm u0 o_ u1 u2):=
  WE tT mX qO ⟨[4,5,6],[0,1,2,3,4],fun _=>[(7,(vI u0))],fun _=>[]⟩ (.r<| .e ())
  (.cg 4 [(u2,true)] dm fun r_=> .a1 ((gB [(u2,true)]=true→(0:Int)≤u0∧u0<((5:Nat):Int)))<| .rg {an:=[(6, .vals (Gb r_ u0)),(8, .look (Sz u1 o_ r_ u0).isSome (Uu u1 o_ r_ u0))]} [1,0, .dv 0 ⟨gB [(u2,true)]=true→(0:Int)≤u0∧u0<((5:Nat):Int),gB [(u2,true)]=true→u0.toNat*1+1≤(xI r_).length,fun ax hq=>IU (n:=5) (sz:=1) (Nat.le_refl _) (ax hq)⟩, .dv 0 ⟨gB [(u2,true)]=true→(0:Int)≤u0∧u0<((5:Nat):Int),gB [(u2,true)]=true→((xI r_).drop (u0.toNat*1)).take 1=(Gb r_ u0).map .d,fun ax hq=>JD (n:=5) (sz:=1) (g:=fun q=>[(.d (.int .u8 (at' [r_.e0,r_.e1,r_.e2,r_.e3,r_.e4] q)))]) (by intro q hq;match q,hq with|0,_=>rfl|1,_=>rfl|2,_=>rfl|3,_=>rfl|4,_=>rfl) (ax hq)⟩, .pf ⟨kD [some .u8] 1 1 o_.length (uo (aF .u8) o_) (vk ai o_) (XU u1 r_ u0) [(.d (.bool false))] (Sz u1 o_ r_ u0).isSome (Uu u1 o_ r_ u0),ja (fun _=>rfl) (fun _ _=>rfl) o_ (UY u1 r_ u0) false rfl rfl rfl⟩]<| .e (Yh u1 o_ u2 r_ u0))
section
variable (x1:Int)
abbrev R4:List SV:=[(.one (.yl 0)),(sD (zq [(.int .u8 x1)] 0))]
end
theorem qy (x1:Int) (o_:(List (Int × Bool))) (u0:Int) (u1:Bool):dJ Tryz.prog 173 (R4 x1) (YN u0 o_ u1) (fun r=>(.eT [])) (fun r=>[WX,OX,(OH u0),(3,some (.cells 4 [(cB r)])),(OC o_)]) (lH x1 o_ u0 u1):=
  dY tT mX Tryz.func173 (
  .r<| .lp (σ:=(Bool × Int)) (β:=Bool) (u1,0) [] [] ⟨[0,1],[0,1,2,4],fun(o0,t4)=>[(4,(vI t4))],fun(o0,t4)=>[(3,some (.cells 4 [(cB o0)]))]⟩ ⟨[],[0,1,2,4],fun o01=>[],fun o01=>[(3,some (.cells 4 [(cB o01)]))]⟩
  (fun(o0,t4)=> .r<| .it (.r<| .cl 2 (gy x1 t4) fun r_=> .fk r_ (.cy 6 (ve t4 o_ u0 o0) fun u2=> .rg {ov:=[(3,true,1)]} [2, .k 0]<| .f<| .r<| .e (.next (u2,(k8 t4))))
  (.rg {ov:=[(3,false,0)],sk:=[4,5,6,7]} [1]<| .f<| .r<| .e (.next (o0,(k8 t4)))))
  (.e (.done (.brk o0))))
  (fun o01=> .e o01))
noncomputable def pI:fA:=⟨[9],F6 ([1,1,0,1,0]++[0]) (kr Tryz.f167),F6 ([1,1,0,1,0]++[1]) (kr Tryz.f167),22,[]⟩
section
variable (u0:ah) (u1:Int)
abbrev V6:Nat × Option Ob:=(0,some (.loop pI 0 [(2,(vP 1 0)),(5,(vP 2 0))]))
abbrev Wp:Ob:=(.cells 73 (zP u0))
abbrev Gy:Nat × Option Ob:=(1,some (Wp u0))
abbrev Y7:List (Nat × Option Ob):=[V6,(Gy u0),(2,some (.cells 3 [(cI u1)]))]
end
theorem tF (x9:Int) (u0:ah) (u1:Int):PG Tryz.prog 0 [(sI x9)] (Y7 u0 u1) (fun _=>vB true) (fun r=>[V6,(Gy u0),(2,some (.cells 3 [(cI r)]))]) (jR x9 u0 u1):=
  WE tT mX pI ⟨[2,5],[0,1,2],fun _=>[(6,(vI x9))],fun _=>[]⟩ (.r<| .e ())
  (.a1 (Gg u0 x9)<| .r<| .e (IntKind.wrap .i64 (u1+((at' u0.jobs x9.toNat).people))))
theorem wB (x1:Int) (u0:ah) (u1:Int):dJ Tryz.prog 173 (R4 x1) (Y7 u0 u1) (fun r=>(.eT [])) (fun r=>[V6,(Gy u0),(2,some (.cells 3 [(cI r)]))]) (lZ x1 u0 u1):=
  dY tT mX Tryz.func173 (
  .r<| .lp (σ:=(Int × Int)) (β:=Int) (u1,0) [] [] ⟨[0,1],[0,1],fun(o0,t4)=>[(4,(vI t4))],fun(o0,t4)=>[(2,some (.cells 3 [(cI o0)]))]⟩ ⟨[],[0,1],fun o01=>[],fun o01=>[(2,some (.cells 3 [(cI o01)]))]⟩
  (fun(o0,t4)=> .r<| .it (.r<| .cl 2 (gy x1 t4) fun r_=> .fk r_ (.cy 6 (tF t4 u0 o0) fun u2=> .rg {ov:=[(3,true,1)]} [2, .k 0]<| .f<| .r<| .e (.next (u2,(k8 t4))))
  (.rg {ov:=[(3,false,0)],sk:=[4,5,6,7]} [1]<| .f<| .r<| .e (.next (o0,(k8 t4)))))
  (.e (.done (.brk o0))))
  (fun o01=> .e o01))
section
variable (y:ah) (s_:Int)
abbrev OW:List SV:=[(.agg (zP y)),(sD (.int .u8 s_))]
end
theorem xR (y:ah) (s_:Int):dJ Tryz.prog 167 (OW y s_) [] (fun r=>(vB r)) (fun _=>[]) (iH y s_):=
  dY tT mX Tryz.func167 (
  .rg {fr:=[(0,3)]} []<| .rg {fr:=[(0,4)]} []<| .cl 1 (dW s_) fun r_=> .r<| .cl 0 (lK [(0,5),(1,3),(2,4)] (wB r_ y 0)) fun u0=> .rf 5 [2,5] [] none 0 []<| .r<| .e (decide (u0≤y.people)))
section
variable (u0:ah) (u1:Int)
abbrev KZ:=(qA [(.int .i64 u0.plant.buses),(QV u0),(Qx u0),(RD u0),(Sn u0),(Qy u0),(OQ u0),(QG u0),(OO u0),(R9 u0),(Pb u0),(P8 u0),(aS none 6 eP.cell u0.jobs),(.int .i64 u0.people),(.bool u0.redundant)])
abbrev KW:List (Nat × Option Ob):=[(0,some (SH u1))]
end
theorem xN (u0:ah) (u1:Int):dJ Tryz.prog 172 [(sD (.fna 167 15 (KZ u0))),(.one (.ptr 0 0))] (KW u1) (fun r=>(vB r)) (fun r=>(KW u1)) (ko u0 u1):=
  dY tT mX Tryz.func172 (
  .r<| .cl 2 (xR u0 u1) fun r_=> .r<| .e (!r_))
noncomputable def nE:fA:=⟨[9],F6 ([1,1,0,1,0]++[0]) (kr Tryz.f230),F6 ([1,1,0,1,0]++[1]) (kr Tryz.f230),19,[]⟩
section
variable (u0:ah) (u1:(List Part)) (x9:Int)
abbrev WT:Nat × Option Ob:=(0,some (.loop nE 0 [(2,(vP 1 0)),(5,(vP 2 0))]))
abbrev YE:List (Nat × Option Ob):=[WT,(Gy u0),(2,some (.cells 79 [(.own 3 false u1.length)])),(3,some (bJ 78 2 Part.cell u1))]
abbrev Mf:=(u1++(zT u0 x9))
abbrev TR:=(aA Part.cell (Mf u0 u1 x9))
end
theorem vM (x9:Int) (u0:ah) (u1:(List Part)):PG Tryz.prog 0 [(sI x9)] (YE u0 u1) (fun _=>vB true) (fun r=>[WT,(Gy u0),(2,some (.cells 79 [(.own 4 false r.length)])),(3,none),(4,some (bJ 78 2 Part.cell r))]) (lV x9 u0 u1):=
  WE tT mX nE ⟨[2,5],[0,1,2,3],fun _=>[(6,(vI x9))],fun _=>[]⟩ (.r<| .e ())
  (.a3 (Gg u0 x9) ((u1.length+(zT u0 x9).length)*16≤140737488355328) (u1.length+(zT u0 x9).length≤4611686018427387904)<| .rg {an:=[(7, .arr (Mf u0 u1 x9).length (TR u0 u1 x9))],fr:=[(7,5)]} [0, .e (u1.length),1,2, .pf ⟨(Mf u0 u1 x9).length=u1.length+(zT u0 x9).length,List.length_append⟩, .pf ⟨aI (u1.length+(zT u0 x9).length) 2 (oW (aA Part.cell u1) u1.length (aA Part.cell (zT u0 x9))) (TR u0 u1 x9),dG _ _ _ _⟩]<| .en (Mf u0 u1 x9) [] [(5,4)])
theorem nU (x1:Int) (u0:ah) (u1:(List Part)):dJ Tryz.prog 173 (R4 x1) (YE u0 u1) (fun r=>(.eT [])) (fun r=>[WT,(Gy u0),(2,some (.cells 79 [(.own 4 false r.length)])),(3,none),(4,some (bJ 78 2 Part.cell r))]) (l9 x1 u0 u1):=
  dY tT mX Tryz.func173 (
  .r<| .im (.re 2 0 3 8)<| .lp (σ:=((List Part) × Int)) (β:=(List Part)) (u1,0) [] [(8,7)] ⟨[0,1],[0,1],fun(o0,t4)=>[(4,(vI t4))],fun(o0,t4)=>[(2,some (.cells 79 [(.own 7 false o0.length)])),(3,none),(7,some (bJ 78 2 Part.cell o0))]⟩ ⟨[],[0,1],fun o01=>[],fun o01=>[(2,some (.cells 79 [(.own 7 false o01.length)])),(3,none),(7,some (bJ 78 2 Part.cell o01))]⟩
  (fun(o0,t4)=> .r<| .it (.r<| .cl 2 (gy x1 t4) fun r_=> .fk r_ (.cy 6 (Z9 [(3,7),(4,8)] (vM t4 u0 o0)) fun u2=> .rg {ov:=[(3,true,1)]} [2, .k 0]<| .f<| .r<| .en (.next (u2,(k8 t4))) [] [(8,7)])
  (.rg {ov:=[(3,false,0)],sk:=[4,5,6,7]} [1]<| .f<| .r<| .e (.next (o0,(k8 t4)))))
  (.e (.done (.brk o0))))
  (fun o01=> .en o01 [] [(7,4)]))
section
variable (r_:Int) (y:ah) (u0:(List Part))
abbrev Ot:List SV:=[(.one (.yl 8)),(sD (zq [(.int .u8 r_)] 0))]
abbrev Wi:Nat × Option Ob:=(8,some (.loop nE 0 [(2,(vP 5 0)),(5,(vP 6 0))]))
abbrev WV:Nat × Option Ob:=(5,some (Wp y))
abbrev YJ:List (Nat × Option Ob):=[Wi,(WV y),(6,some (.cells 79 [(.own 7 false (([]:List Part).length))])),(7,some (bJ 78 2 Part.cell ([]:List Part)))]
abbrev UA:List (Nat × Option Ob):=[Wi,(WV y),(6,some (.cells 79 [(.own 7 false 0)])),(7,some (.arr 78 2 0 (aA Part.cell ([]:List Part))))]
abbrev Y8:List (Nat × Option Ob):=[Wi,(WV y),(6,some (.cells 79 [(.own 9 false u0.length)])),(7,none),(9,some (bJ 78 2 Part.cell u0))]
end
theorem sM (y:ah) (s_:Int):dJ Tryz.prog 230 (OW y s_) [] (fun r=>(vO 0 false r.length)) (fun r=>[(0,some (bJ 78 2 Part.cell r))]) (gH y s_):=
  dY tT mX Tryz.func230 (
  .rg {fr:=[(0,5)]} []<| .rg {fr:=[(0,6)]} []<| .cl 1 (dW s_) fun r_=> .r<| .im (.BS 6 0 7 78 2 (aA Part.cell ([]:List Part)))<| .cl 0 ⟨fun{u0} hr_1=>((Fn.Vg (args:=(Ot r_)) (args':=(Ot r_)) (hin:=(YJ y)) (hin':=(UA y)) (Fn.yL [(0,8),(1,5),(2,6),(3,7),(4,9)] (nU r_ y ([]:List Part) hr_1) (by kernel_rfl) (by kernel_rfl) (by kernel_rfl) (by kernel_rfl)) ⟨tK.refl _,tK.refl _,trivial⟩ ⟨rfl, .refl _,⟨rfl, .refl _,⟨rfl,nQ ⟨oo.of (congrArg (CV.own _ _) (by simp only [List.length_set,List.length_append,List.length_cons,List.length_nil,List.length_replicate,List.length_drop,eX])),trivial⟩,⟨rfl,Bn (by simp only [List.length_set,List.length_append,List.length_cons,List.length_nil,List.length_replicate,List.length_drop,eX]),trivial⟩⟩⟩⟩):Fn Tryz.prog 173 (Ot r_) (UA y) (.eT []) (Y8 y u0))⟩ fun u0=> .rf 8 [2,5] [] none 0 []<| .r<| .en u0 [] [(9,0)])
section
variable (u0:Int) (r_:(List Part))
abbrev Zv:List SV:=[(sD (.sl none 2 u0.toNat (aA Part.cell r_))),(.agg [(cI ((at' r_ u0.toNat).kind)),(cI ((at' r_ u0.toNat).index))])]
end
theorem yg (y:ah) (s_:Int):dJ Tryz.prog 168 (OW y s_) [] (fun r=>(vB r)) (fun _=>[]) (jk y s_):=
  dY tT mX Tryz.func168 (
  .rg {fr:=[(0,6)],fz:=[6]} []<| .cl 2 (lK [(0,7)] (sM y s_)) fun r_=> .r<| .fz [7]<| .r<| .lp (σ:=Int) (β:=Unit) (0) [] [] ⟨[5,11,12],[],fun u0=>[(13,(vI u0))],fun u0=>[]⟩ ⟨[],[],fun _=>[],fun _=>[]⟩
  (fun u0=> .r<| .it (.a1 (Mg r_ u0)<| .rg {fr:=[(3,11)],fz:=[11]} []<| .cl 4 ⟨fun{u1} hr_1=>((Fn.Vg (args:=[(sD (aS none 2 Part.cell (yF r_ 0 u0.toNat))),(.agg [(cI ((at' r_ u0.toNat).kind)),(cI ((at' r_ u0.toNat).index))])]) (args':=(Zv u0 r_)) (hin:=[]) (hin':=[]) (og (yF r_ 0 u0.toNat) (at' r_ u0.toNat) hr_1) ⟨tK.one (oo.d (pK.YU (by first|rw [List.length_append,List.length_drop]|simp only [List.length_set,List.length_drop,eX]|exact List.length_replicate) (.inr rfl) (QD _ _ _ _))),tK.refl _,trivial⟩ trivial):Fn Tryz.prog 157 (Zv u0 r_) [] (vB u1) [])⟩ fun u1=> .a1 ((0:Int)≤u0∧u0≤(r_.length:Int))<| .rg {} [0,1]<| .it (.r<| .e (.done (.ret false)))
  (.r<| .e (.next (k8 u0))))
  (.e (.done (.brk ()))))
  (fun _=> .r<| .e true))
theorem uH (u0:ah) (u1:Int):dJ Tryz.prog 172 [(sD (.fna 168 15 (KZ u0))),(.one (.ptr 0 0))] (KW u1) (fun r=>(vB r)) (fun r=>(KW u1)) (iL u0 u1):=
  dY tT mX Tryz.func172 (
  .r<| .cl 2 (yg u0 u1) fun r_=> .r<| .e (!r_))
theorem xW (y:ah) (s_:Int):dJ Tryz.prog 230 (OW y s_) [] (fun r=>(vD (aS none 2 Part.cell r))) (fun _=>[]) (gH y s_):=
  dY tT mX Tryz.func230 (
  .rg {fr:=[(0,5)]} []<| .rg {fr:=[(0,6)]} []<| .cl 1 (dW s_) fun r_=> .r<| .im (.BS 6 0 7 78 2 (aA Part.cell ([]:List Part)))<| .cl 0 ⟨fun{u0} hr_1=>((Fn.Vg (args:=(Ot r_)) (args':=(Ot r_)) (hin:=(YJ y)) (hin':=(UA y)) (Fn.yL [(0,8),(1,5),(2,6),(3,7),(4,9)] (nU r_ y ([]:List Part) hr_1) (by kernel_rfl) (by kernel_rfl) (by kernel_rfl) (by kernel_rfl)) ⟨tK.refl _,tK.refl _,trivial⟩ ⟨rfl, .refl _,⟨rfl, .refl _,⟨rfl,nQ ⟨oo.of (congrArg (CV.own _ _) (by simp only [List.length_set,List.length_append,List.length_cons,List.length_nil,List.length_replicate,List.length_drop,eX])),trivial⟩,⟨rfl,Bn (by simp only [List.length_set,List.length_append,List.length_cons,List.length_nil,List.length_replicate,List.length_drop,eX]),trivial⟩⟩⟩⟩):Fn Tryz.prog 173 (Ot r_) (UA y) (.eT []) (Y8 y u0))⟩ fun u0=> .rf 8 [2,5] [] none 0 []<| .rg {fz:=[9]} []<| .e u0)
section
variable (s0:(List Bool)) (s1:(List Bool)) (s2:(List Bool)) (s3:(List Bool)) (s4:(List Bool)) (s5:(List Bool)) (s6:(List Bool))
abbrev Yb:List (Nat × Option Ob):=[(17,some (.cells 29 [(.d (aS none 1 ai s0)),(.d (aS none 1 ai s1)),(.d (aS none 1 ai s2)),(.d (aS none 1 ai s3)),(.d (aS none 1 ai s4)),(.d (aS none 1 ai s5)),(.d (aS none 1 ai s6))]))]
end
theorem vv (p:aD) (s_:State) (l:(List Transfer)) (u2:(List Part)):dJ Tryz.prog 247 [(.agg (k1 p)),(.agg (k18 s_)),(sD (k27 l)),(sD (Gw u2))] [] (fun r=>(.eT [(.agg [(.own 0 false r.1.closed.length),(.own 1 false r.1.locked.length),(.own 2 false r.1.badLink.length),(.own 3 false r.1.on_.length),(.own 4 false r.1.badSource.length),(.own 5 false r.1.earthed.length),(.own 6 false r.1.badBus.length)]),(sI r.2)])) (fun r=>[(0,some (bJ 4 1 ai r.1.closed)),(1,some (bJ 4 1 ai r.1.locked)),(2,some (bJ 4 1 ai r.1.badLink)),(3,some (bJ 4 1 ai r.1.on_)),(4,some (bJ 4 1 ai r.1.badSource)),(5,some (bJ 4 1 ai r.1.earthed)),(6,some (bJ 4 1 ai r.1.badBus)),(7,none)]) (mM p s_ l u2):=
  dY tT mX Tryz.func247 (
  .rg {fr:=[(0,16),(1,17),(2,18)],fz:=[16]} []<| .cl 3 (mZ p s_ l) fun r_=> .r<| .r<| .it (.r<| .im (.BS 18 0 19 4 1 (aA ai ([]:List Bool)))<| .im (.BS 18 1 20 4 1 (aA ai ([]:List Bool)))<| .im (.BS 18 2 21 4 1 (aA ai ([]:List Bool)))<| .im (.BS 18 3 22 4 1 (aA ai ([]:List Bool)))<| .im (.BS 18 4 23 4 1 (aA ai ([]:List Bool)))<| .im (.BS 18 5 24 4 1 (aA ai ([]:List Bool)))<| .im (.BS 18 6 25 4 1 (aA ai ([]:List Bool)))<| .en (YW r_) [] [(19,0),(20,1),(21,2),(22,3),(23,4),(24,5),(25,6),(18,7)])
  (.r<| .lp (σ:=((List Bool) × (List Bool) × (List Bool) × (List Bool) × (List Bool) × (List Bool) × (List Bool) × Int)) (β:=((List Bool) × (List Bool) × (List Bool) × (List Bool) × (List Bool) × (List Bool) × (List Bool))) (s_.closed,s_.locked,s_.badLink,s_.on_,s_.badSource,s_.earthed,s_.badBus,0) [] [] ⟨[2,4,5,8,24,25],[18],fun(s0,s1,s2,s3,s4,s5,s6,u1)=>[(26,(vI u1))],fun(s0,s1,s2,s3,s4,s5,s6,u1)=>(Yb s0 s1 s2 s3 s4 s5 s6)⟩ ⟨[2,4,5,8],[18],fun(u3,u4,u5,u6,u7,u8,u9)=>[],fun(u3,u4,u5,u6,u7,u8,u9)=>(Yb u3 u4 u5 u6 u7 u8 u9)⟩
  (fun(s0,s1,s2,s3,s4,s5,s6,u1)=> .r<| .it (.a1 (Mg u2 u1)<| .rg {fr:=[(2,29)],fz:=[29]} []<| .r<| .cl 3 (qM p (⟨s0,s1,s2,s3,s4,s5,s6⟩:State) (at' u2 u1.toNat)) fun u0=> .r<| .r<| .it (.r<| .im (.BS 18 0 30 4 1 (aA ai ([]:List Bool)))<| .im (.BS 18 1 31 4 1 (aA ai ([]:List Bool)))<| .im (.BS 18 2 32 4 1 (aA ai ([]:List Bool)))<| .im (.BS 18 3 33 4 1 (aA ai ([]:List Bool)))<| .im (.BS 18 4 34 4 1 (aA ai ([]:List Bool)))<| .im (.BS 18 5 35 4 1 (aA ai ([]:List Bool)))<| .im (.BS 18 6 36 4 1 (aA ai ([]:List Bool)))<| .en (.done (.ret ((⟨([]:List Bool),([]:List Bool),([]:List Bool),([]:List Bool),([]:List Bool),([]:List Bool),([]:List Bool)⟩:State),u0.2))) [] [(30,0),(31,1),(32,2),(33,3),(34,4),(35,5),(36,6),(18,7)])
  (.r<| .e (.next (u0.1.closed,u0.1.locked,u0.1.badLink,u0.1.on_,u0.1.badSource,u0.1.earthed,u0.1.badBus,(k8 u1)))))
  (.e (.done (.brk (s0,s1,s2,s3,s4,s5,s6)))))
  (fun(u3,u4,u5,u6,u7,u8,u9)=> .cl 3 (lK [(0,37),(1,38),(2,39),(3,40),(4,41),(5,42),(6,43),(7,44),(8,45)] (ql p (⟨u3,u4,u5,u6,u7,u8,u9⟩:State) l)) fun v0=> .r<| .r<| .en (v0.1,v0.2.2) [] [(37,0),(38,1),(39,2),(40,3),(41,4),(42,5),(43,6),(18,7)])))
theorem Bd (p:aD) (s_:State):dJ Tryz.prog 126 (k17 s_ p) [] (fun r=>(.eT [(sD (aS none 1 ai r.1)),(sI r.2)])) (fun _=>[]) (dP p s_):=
  dY tT mX Tryz.func126 (
  .rg {fr:=[(0,7),(1,8)],fz:=[7,8]} []<| .cl 2 (fD p s_) fun r_=> .r<| .r<| .it (.r<| .e (([]:List Bool),r_))
  (.a3 ((0:Int)≤p.buses) ((1:Int)*p.buses≤281474976710656) ((p.buses:Int)≤9223372036854775807)<| .rg {an:=[(2, .arr (V5 p).length (ZB p))],fr:=[(2,9)]} [0, .e ((p.buses:Int)),1,2, .pf ⟨(V5 p).length=p.buses.toNat,List.length_replicate⟩, .pf ⟨aI p.buses.toNat 1 (fun _ j=>[(.bool false)].getD j .nilp) (ZB p),oh _ _ _ _ _ (fun j hj=>(match j,hj with|0,_=>rfl))⟩]<| .cl 2 (nG p s_) fun u1=> .r<| .lp (σ:=((List Bool) × Int)) (β:=(List Bool)) ((V5 p),0) [] [] ⟨[23,24],[],fun(u4,u0)=>[(7,(vO 9 true u4.length)),(25,(vI u0))],fun(u4,u0)=>[(9,some (bJ 4 1 ai u4))]⟩ ⟨[],[],fun u5=>[(7,(vO 9 true u5.length))],fun u5=>[(9,some (bJ 4 1 ai u5))]⟩
  (fun(u4,u0)=> .r<| .it (.a1 ((0:Int)≤u0∧u0<(u1.length:Int))<| .rg {fr:=[(2,13)]} []<| .rg {fz:=[13]} []<| .lp (σ:=((List Bool) × Int)) (β:=(List Bool)) (u4,0) [] [] ⟨[9,23,24,25,30,31],[],fun(u2,u3)=>[(7,(vO 9 true u2.length)),(32,(vI u3))],fun(u2,u3)=>[(9,some (bJ 4 1 ai u2))]⟩ ⟨[23,24,25],[],fun u6=>[(7,(vO 9 true u6.length))],fun u6=>[(9,some (bJ 4 1 ai u6))]⟩
  (fun(u2,u3)=> .r<| .it (.a1 ((0:Int)≤u3∧u3<(((at' u1 u0.toNat).buses).length:Int))<| .r<| .a1 (k72 u1 u0 u3 u2)<| .rg {an:=[(7, .arr 0 (ZQ u1 u0 u3 u2))]} [0, .t 0 (Xm u1 u0 u3) u2.length, .pf ⟨aI u2.length 1 (k76 u1 u0 u3 u2) (ZQ u1 u0 u3 u2),gI _ _ _ _ _ _ _ _ rfl (fun j hj=>(match j,hj with|0,_=>rfl))⟩]<| .im (.ll 9 u2 (ZT u1 u0 u3 u2))<| .r<| .e (.next (k77 u1 u0 u3 u2)))
  (.e (.done (.brk u2))))
  (fun u6=> .r<| .e (.next (u6,(k8 u0)))))
  (.e (.done (.brk u4))))
  (fun u5=> .rg {fz:=[9]} []<| .e (u5,0))))
section
variable (p:aD) (u0:Int) (r_:((List Bool) × Int)) (u1:(List bG))
abbrev zI:=((at' p.racks u0.toNat).feeds)
abbrev TM:List CV:=[(cI ((zI p u0).e0)),(cI ((zI p u0).e1))]
abbrev Zq:=(bif (decide (0≤((zI p u0).e0)))then(at' r_.1 (((zI p u0).e0).toNat))else false)
abbrev Yy:=(bif (decide (0≤((zI p u0).e1)))then(at' r_.1 (((zI p u0).e1).toNat))else false)
abbrev M0:=(⟨(Zq p u0 r_),(Yy p u0 r_)⟩:bG)
abbrev XJ:=(u1.length+[(M0 p u0 r_)].length)
abbrev WW:=(aA bG.cell [(M0 p u0 r_)])
abbrev Ug:=(u1++[(M0 p u0 r_)])
abbrev XE:=(aA bG.cell (Ug p u0 r_ u1))
end
theorem yU (p:aD) (s_:State):dJ Tryz.prog 56 (k17 s_ p) [] (fun r=>(.eT [(sD (aS none 2 bG.cell r.1)),(sI r.2)])) (fun _=>[]) (qd p s_):=
  dY tT mX Tryz.func56 (
  .rg {fr:=[(0,18),(1,19)],fz:=[19]} []<| .cl 2 (Bd p s_) fun r_=> .r<| .r<| .it (.r<| .e (([]:List bG),r_.2))
  (.r<| .r<| .im (.ad 8 36 133 2 (aA bG.cell ([]:List bG)))<| .lp (σ:=((List bG) × Int)) (β:=(List bG)) (([]:List bG),0) [] [(36,23)] ⟨[6,24,25],[],fun(u1,u0)=>[(8,(vO 23 false u1.length)),(26,(vI u0))],fun(u1,u0)=>[(23,some (bJ 133 2 bG.cell u1))]⟩ ⟨[],[],fun u2=>[(8,(vO 23 false u2.length))],fun u2=>[(23,some (bJ 133 2 bG.cell u2))]⟩
  (fun(u1,u0)=> .r<| .it (.a1 ((0:Int)≤u0∧u0<(p.racks.length:Int))<| .rg {fr:=[(2,32)],fz:=[32]} []<| .rg {fr:=[(0,33)]} []<| .r<| .ul 11<| .r<| .t<| .rg {an:=[(1, .vals [(.int .i64 ((zI p u0).e0))])]} [.pf ⟨(0:Int)≤0∧(0:Int)<(2:Nat),(by decide)⟩, .pf ⟨0*1+1≤(TM p u0).length,Nat.le_of_ble_eq_true rfl⟩, .pf ⟨((TM p u0).drop (0*1)).take 1=[(.int .i64 ((zI p u0).e0))].map .d,rfl⟩]<| .a1 ((gB [((decide (0≤((zI p u0).e0))),true)]=true→(0:Int)≤(zI p u0).e0∧(zI p u0).e0<(r_.1.length:Int)))<| .rg {} [0, .pf ⟨(0:Int)≤0∧(0:Int)<(2:Nat),(by decide)⟩]<| .r<| .im (.dp [6,8,11,24,25,26,31,32])<| .r<| .t<| .rg {an:=[(1, .vals [(.int .i64 ((zI p u0).e1))])]} [.pf ⟨(0:Int)≤1∧(1:Int)<(2:Nat),(by decide)⟩, .pf ⟨1*1+1≤(TM p u0).length,Nat.le_of_ble_eq_true rfl⟩, .pf ⟨((TM p u0).drop (1*1)).take 1=[(.int .i64 ((zI p u0).e1))].map .d,rfl⟩]<| .a1 ((gB [((decide (0≤((zI p u0).e1))),true)]=true→(0:Int)≤(zI p u0).e1∧(zI p u0).e1<(r_.1.length:Int)))<| .rg {} [0, .pf ⟨(0:Int)≤1∧(1:Int)<(2:Nat),(by decide)⟩]<| .r<| .im (.dp [6,8,11,24,25,26,31,32])<| .r<| .f<| .a2 ((XJ p u0 r_ u1)*2≤140737488355328) (u1.length+[(M0 p u0 r_)].length≤4611686018427387904)<| .rg {an:=[(2, .arr [(M0 p u0 r_)].length (WW p u0 r_)),(3, .arr (Ug p u0 r_ u1).length (XE p u0 r_ u1))],fr:=[(2,34),(3,35)]} [.pf ⟨[(M0 p u0 r_)].length=1,rfl⟩, .pf ⟨aI 1 2 (nN 2 [(.bool (Zq p u0 r_)),(.bool (Yy p u0 r_))]) (WW p u0 r_),(by intro i hi j hj;match i,j,hi,hj with|0,0,_,_=>rfl|0,1,_,_=>rfl)⟩, .e (u1.length),0,1, .pf ⟨(Ug p u0 r_ u1).length=u1.length+[(M0 p u0 r_)].length,List.length_append⟩, .pf ⟨aI (XJ p u0 r_ u1) 2 (oW (aA bG.cell u1) u1.length (WW p u0 r_)) (XE p u0 r_ u1),dG _ _ _ _⟩]<| .r<| .en (.next ((Ug p u0 r_ u1),(k8 u0))) [] [(35,23)])
  (.e (.done (.brk u1))))
  (fun u2=> .rg {fz:=[23]} []<| .e (u2,0))))
section
variable (y:ah) (u2:(List Part)) (u1:Int) (u0:Int) (u3:((List bG) × Int))
abbrev Xu:List SV:=[(.agg (zP y)),(sD (Gw u2)),(sI u1)]
abbrev Xt:=((gB [((decide (u1≤((at' y.plant.racks u0.toNat).paths))),true)]=true→(0:Int)≤u0∧u0<(u3.1.length:Int)))
abbrev Yq:=((gB [((bif (decide (u1≤((at' y.plant.racks u0.toNat).paths)))then(!((at' u3.1 u0.toNat).e0))else false),true)]=true→(0:Int)≤u0∧u0<(u3.1.length:Int)))
end
theorem sP (y:ah) (u2:(List Part)) (u1:Int):dJ Tryz.prog 231 (Xu y u2 u1) [] (fun r=>(vB r)) (fun _=>[]) (dN y u2 u1):=
  dY tT mX Tryz.func231 (
  .rg {fr:=[(0,14)]} []<| .cl 7 (lK [(0,15),(1,16),(2,17),(3,18),(4,19),(5,20),(6,21),(7,22)] (vv y.plant y.state y.transfers u2)) fun r_=> .rg {fr:=[(11,23)],fz:=[15,16,17,18,19,20,21]} []<| .fz [23]<| .cl 3 (yU y.plant r_.1) fun u3=> .r<| .r<| .lp (σ:=Int) (β:=Unit) (0) [] [] ⟨[2,9,33,34],[],fun u0=>[(35,(vI u0))],fun u0=>[]⟩ ⟨[],[],fun _=>[],fun _=>[]⟩
  (fun u0=> .r<| .it (.a1 ((0:Int)≤u0∧u0<(y.plant.racks.length:Int))<| .rg {fr:=[(3,27)],fz:=[27]} []<| .a2 (Xt y u1 u0 u3) (Yq y u1 u0 u3)<| .rg {} [0, .pf ⟨(0:Int)≤0∧(0:Int)<(2:Nat),(by decide)⟩,1, .pf ⟨(0:Int)≤1∧(1:Int)<(2:Nat),(by decide)⟩]<| .it (.r<| .e (.done (.ret false)))
  (.r<| .e (.next (k8 u0))))
  (.e (.done (.brk ()))))
  (fun _=> .r<| .e true))
theorem A9 (y:ah) (s_:Int):dJ Tryz.prog 169 (OW y s_) [] (fun r=>(vB r)) (fun _=>[]) (iZ y s_):=
  dY tT mX Tryz.func169 (
  .rg {fr:=[(0,1)],fz:=[1]} []<| .cl 3 (xW y s_) fun r_=> .cl 4 (sP y r_ 1) fun u0=> .r<| .e u0)
theorem uZ (u0:ah) (u1:Int):dJ Tryz.prog 172 [(sD (.fna 169 15 (KZ u0))),(.one (.ptr 0 0))] (KW u1) (fun r=>(vB r)) (fun r=>(KW u1)) (iJ u0 u1):=
  dY tT mX Tryz.func172 (
  .r<| .cl 2 (A9 u0 u1) fun r_=> .r<| .e (!r_))
section
variable (u3:(List Part)) (u0:Int) (u1:Int) (u2:(List Part))
abbrev Ox:List (Nat × Option Ob):=[(38,some (bJ 78 2 Part.cell u3))]
abbrev Lx:=(⟨(k8 u0),u1⟩:Part)
abbrev WK:=(aA Part.cell [(Lx u0 u1)])
abbrev Rk:=(u2++[(Lx u0 u1)])
end
theorem vH (p:aD):dJ Tryz.prog 185 (k0 p) [] (fun r=>(.eT [(.one (.own 0 false r.1.length)),(sI r.2)])) (fun r=>[(0,some (bJ 78 2 Part.cell r.1))]) (mY p):=
  dY tT mX Tryz.func185 (
  .rg {fr:=[(0,34)],fz:=[34]} []<| .cl 1 (vU p) fun r_=> .r<| .r<| .it (.r<| .im (.ad 2 35 78 2 (aA Part.cell ([]:List Part)))<| .en (([]:List Part),r_) [] [(35,0)])
  (.r<| .rg {an:=[(8, .arr [p.buses,(p.sources.length:Int),(p.links.length:Int)].length (aA (aF .i64) [p.buses,(p.sources.length:Int),(p.links.length:Int)]))],fr:=[(8,36)],fz:=[36]} [.pf ⟨[p.buses,(p.sources.length:Int),(p.links.length:Int)].length=3,rfl⟩, .pf ⟨aI 3 1 (nN 1 [(.int .i64 p.buses),(.int .i64 (p.sources.length:Int)),(.int .i64 (p.links.length:Int))]) (aA (aF .i64) [p.buses,(p.sources.length:Int),(p.links.length:Int)]),(by intro i hi j hj;match i,j,hi,hj with|0,0,_,_=>rfl|1,0,_,_=>rfl|2,0,_,_=>rfl)⟩]<| .im (.ad 5 69 78 2 (aA Part.cell ([]:List Part)))<| .lp (σ:=((List Part) × Int)) (β:=(List Part)) (([]:List Part),0) [] [(69,38)] ⟨[22,23],[],fun(u3,u0)=>[(5,(vO 38 false u3.length)),(24,(vI u0))],fun(u3,u0)=>(Ox u3)⟩ ⟨[],[],fun u4=>[(5,(vO 38 false u4.length))],fun u4=>(Ox u4)⟩
  (fun(u3,u0)=> .r<| .it (.a1 ((0:Int)≤u0∧u0<([p.buses,(p.sources.length:Int),(p.links.length:Int)].length:Int))<| .r<| .r<| .lp (σ:=((List Part) × Int)) (β:=(List Part)) (u3,0) [] [] ⟨[6,22,23,24,29],[],fun(u2,u1)=>[(5,(vO 38 false u2.length)),(30,(vI u1))],fun(u2,u1)=>(Ox u2)⟩ ⟨[22,23,24],[],fun u5=>[(5,(vO 38 false u5.length))],fun u5=>(Ox u5)⟩
  (fun(u2,u1)=> .r<| .it (.r<| .a2 ((u2.length+[(Lx u0 u1)].length)*16≤140737488355328) (u2.length+[(Lx u0 u1)].length≤4611686018427387904)<| .rg {an:=[(5, .arr [(Lx u0 u1)].length (WK u0 u1)),(6, .arr (Rk u0 u1 u2).length (aA Part.cell (Rk u0 u1 u2)))],fr:=[(5,67),(6,68)]} [.pf ⟨[(Lx u0 u1)].length=1,rfl⟩, .pf ⟨aI 1 2 (nN 2 [(.int .i64 (k8 u0)),(.int .i64 u1)]) (WK u0 u1),(by intro i hi j hj;match i,j,hi,hj with|0,0,_,_=>rfl|0,1,_,_=>rfl)⟩, .e (u2.length),0,1, .pf ⟨(Rk u0 u1 u2).length=u2.length+[(Lx u0 u1)].length,List.length_append⟩, .pf ⟨aI (u2.length+[(Lx u0 u1)].length) 2 (oW (aA Part.cell u2) u2.length (WK u0 u1)) (aA Part.cell (Rk u0 u1 u2)),dG _ _ _ _⟩]<| .r<| .en (.next ((Rk u0 u1 u2),(k8 u1))) [] [(68,38)])
  (.e (.done (.brk u2))))
  (fun u5=> .r<| .e (.next (u5,(k8 u0)))))
  (.e (.done (.brk u3))))
  (fun u4=> .r<| .en (u4,0) [] [(38,0)])))
section
variable (y:ah) (r_:((List Part) × Int)) (u0:Int) (u1:(List Part))
abbrev Zm:=(at' [([]:List Bool),y.state.badBus,y.state.badSource,y.state.badLink] (((at' r_.1 u0.toNat).kind).toNat))
abbrev Zg:=(aA (Az 1 ai) [([]:List Bool),y.state.badBus,y.state.badSource,y.state.badLink])
abbrev yP:=(u1++[(at' r_.1 u0.toNat)])
abbrev Pg:=(aA Part.cell [(at' r_.1 u0.toNat)])
abbrev UI:=(aA Part.cell (yP r_ u0 u1))
end
theorem uN (y:ah) (s_:Int):dJ Tryz.prog 170 (OW y s_) [] (fun r=>(vB r)) (fun _=>[]) (dL y s_):=
  dY tT mX Tryz.func170 (
  .rg {fr:=[(0,10)],fz:=[10]} []<| .r<| .it (.r<| .e true)
  (.cl 2 (lK [(0,11)] (vH y.plant)) fun r_=> .r<| .r<| .lp (σ:=Int) (β:=Unit) (0) [] [] ⟨[1,2,19,20],[11],fun u0=>[(21,(vI u0))],fun u0=>[]⟩ ⟨[],[],fun _=>[],fun _=>[]⟩
  (fun u0=> .r<| .it (.a1 ((0:Int)≤u0∧u0<(r_.1.length:Int))<| .rg {fr:=[(2,18)],fz:=[18]} [0, .t 0 u0 r_.1.length]<| .a2 ((0:Int)≤(at' r_.1 u0.toNat).kind∧(at' r_.1 u0.toNat).kind<([([]:List Bool),y.state.badBus,y.state.badSource,y.state.badLink].length:Int)) ((0:Int)≤(at' r_.1 u0.toNat).index∧(at' r_.1 u0.toNat).index<((Zm y r_ u0).length:Int))<| .rg {an:=[(9, .arrL [([]:List Bool),y.state.badBus,y.state.badSource,y.state.badLink].length (Zg y))],fr:=[(9,19)]} [.pf ⟨[([]:List Bool),y.state.badBus,y.state.badSource,y.state.badLink].length=4,rfl⟩, .pf ⟨R5 4 1 (nN 1 [nS,(Pb y),(OO y),(OQ y)]) (Zg y),SF (by intro i hi j hj;match i,j,hi,hj with|0,0,_,_=>exact pK.nil'|1,0,_,_=>exact .refl _|2,0,_,_=>exact .refl _|3,0,_,_=>exact .refl _)⟩,0, .t 0 ((at' r_.1 u0.toNat).kind) ([([]:List Bool),y.state.badBus,y.state.badSource,y.state.badLink].length),1]<| .fk (!(at' (Zm y r_ u0) (((at' r_.1 u0.toNat).index).toNat))) (.cl 6 (lK [(0,20)] (sM y s_)) fun u1=> .cr 10 ⟨fun{u2} hr_2=>((Fn.IW (frz:=[22]) (p:=[(yP r_ u0 u1).length=(yP r_ u0 u1).length]) (sP y (yP r_ u0 u1) 2 hr_2) (by kernel_rfl) ⟨rfl,trivial⟩ rfl):Fn Tryz.prog 231 [(.agg (zP y)),(.one (.own 22 false ((yP r_ u0 u1).length))),(sI 2)] [(22,some (bJ 78 2 Part.cell (yP r_ u0 u1)))] (vB u2) [(22,some (bJ 78 2 Part.cell (yP r_ u0 u1)))])⟩ fun u2=> .a2 ((gB [(true,true)]=true→(u1.length+[(at' r_.1 u0.toNat)].length)*16≤140737488355328)) ((gB [(true,true)]=true→u1.length+[(at' r_.1 u0.toNat)].length≤4611686018427387904))<| .rg {an:=[(8, .arr [(at' r_.1 u0.toNat)].length (Pg r_ u0)),(9, .arr (yP r_ u0 u1).length (UI r_ u0 u1))],fr:=[(8,21),(9,22)],ov:=[(2,true,4)]} [.k 3, .pf ⟨[(at' r_.1 u0.toNat)].length=1,rfl⟩, .pf ⟨aI 1 2 (nN 2 [(.int .i64 ((at' r_.1 u0.toNat).kind)),(.int .i64 ((at' r_.1 u0.toNat).index))]) (Pg r_ u0),(by intro i hi j hj;match i,j,hi,hj with|0,0,_,_=>rfl|0,1,_,_=>rfl)⟩, .e (u1.length),0,1, .pf ⟨(yP r_ u0 u1).length=u1.length+[(at' r_.1 u0.toNat)].length,List.length_append⟩, .pf ⟨aI (u1.length+[(at' r_.1 u0.toNat)].length) 2 (oW (aA Part.cell u1) u1.length (Pg r_ u0)) (UI r_ u0 u1),dG _ _ _ _⟩, .k 2]<| .it (.r<| .e (.done (.ret false)))
  (.r<| .e (.next (k8 u0))))
  (.rg {ov:=[(2,false,0)],sk:=[3,4,5,6,7,8,9,10,11]} []<| .f<| .r<| .e (.next (k8 u0))))
  (.e (.done (.brk ()))))
  (fun _=> .r<| .e true)))
theorem uS (u0:ah) (u1:Int):dJ Tryz.prog 172 [(sD (.fna 170 15 (KZ u0))),(.one (.ptr 0 0))] (KW u1) (fun r=>(vB r)) (fun r=>(KW u1)) (iP u0 u1):=
  dY tT mX Tryz.func172 (
  .r<| .cl 2 (uN u0 u1) fun r_=> .r<| .e (!r_))
section
variable (o_:ah) (u0:ah) (u1:ah) (u2:ah) (u3:Int)
abbrev TA:List (Nat × Option Ob):=[(0,some (.cells 265 [(.d (.fna 167 15 (KZ o_))),(.d (.fna 168 15 (KZ u0))),(.d (.fna 169 15 (KZ u1))),(.d (.fna 170 15 (KZ u2)))])),(1,some (SH u3))]
end
theorem uI (o_:ah) (u0:ah) (u1:ah) (u2:ah) (u3:Int):dJ Tryz.prog 232 [(.one (.own 0 true 4)),(.one (.fn 172 0 1 (Ay [(.ptr 1 0)])))] (TA o_ u0 u1 u2 u3) (fun r=>(vI r)) (fun r=>(TA o_ u0 u1 u2 u3)) (iI o_ u0 u1 u2 u3):=
  dY tT mX Tryz.func232 (
  .r<| .r<| .ul 11<| .r<| .t<| .r<| .cr 5 (lK [(0,1)] (xN o_ u3)) fun r_=> .a1 ((0:Int)≤0∧0<(4:Int))<| .rg {} [0,1]<| .it (.r<| .e 0)
  (.r<| .im (.dp [0,1,7,8])<| .r<| .t<| .r<| .cr 5 (lK [(0,1)] (uH u0 u3)) fun u4=> .a1 ((0:Int)≤1∧1<(4:Int))<| .rg {} [0,1]<| .it (.r<| .e 1)
  (.r<| .im (.dp [0,1,7,8])<| .r<| .t<| .r<| .cr 5 (lK [(0,1)] (uZ u1 u3)) fun u5=> .a1 ((0:Int)≤2∧2<(4:Int))<| .rg {} [0,1]<| .it (.r<| .e 2)
  (.r<| .im (.dp [0,1,7,8])<| .r<| .t<| .r<| .cr 5 (lK [(0,1)] (uS u2 u3)) fun u6=> .a1 ((0:Int)≤3∧3<(4:Int))<| .rg {} [0,1]<| .it (.r<| .e 3)
  (.r<| .im (.dp [0,1,7,8])<| .r<| .f<| .r<| .e (-1))))))
theorem lq (o_:ah) (u0:ah) (u1:ah) (u2:ah) (u3:Int):dJ Tryz.prog 171 [(.one (.own 0 true 4)),(.one (.fn 172 0 1 (Ay [(.ptr 1 0)])))] (TA o_ u0 u1 u2 u3) (fun r=>(vB r)) (fun r=>(TA o_ u0 u1 u2 u3)) (bZ o_ u0 u1 u2 u3):=
  dY tT mX Tryz.func171 (
  .r<| .cr 2 (uI o_ u0 u1 u2 u3) fun r_=> .r<| .e (decide (0≤r_)))
section
variable (u0:(List (Int × Bool))) (s0:Int) (u1:Bool) (u2:Bool)
abbrev XO:List (Nat × Option Ob):=[(19,some (Kk u0)),(21,some (SH s0))]
abbrev Kr:=(eD bP s0 (bif u1 then(!u2)else false) u0)
abbrev Uy:=(uo (aF .u8) (Kr u0 s0 u1 u2))
abbrev U3:=(vk ai (Kr u0 s0 u1 u2))
end
theorem qN (y:ah):dJ Tryz.prog 92 (SY y) [] (fun r=>(.v (.one (.mp 0)))) (fun r=>[(0,some (LV 198 4 false false 1 1 (aF .u8) ai r))]) (cO y):=
  dY tT mX Tryz.func92 (
  .rg {fr:=[(0,17)],fz:=[17]} []<| .rg {an:=[(8, .cells)],fr:=[(8,18)]} []<| .rg {an:=[(0, .map 0 (uo (aF .u8) ([]:(List (Int × Bool)))) (vk ai ([]:(List (Int × Bool)))) []),(1, .map (eD bP 0 true ([]:(List (Int × Bool)))).length (uo (aF .u8) (eD bP 0 true ([]:(List (Int × Bool))))) (vk ai (eD bP 0 true ([]:(List (Int × Bool))))) [])],fr:=[(0,19),(3,20)]} [.pf ⟨nV [some .u8] 1 1 ([]:(List (Int × Bool))).length (uo (aF .u8) ([]:(List (Int × Bool)))) (vk ai ([]:(List (Int × Bool)))) [(.int .u8 0)] [(cB true)] [] (eD bP 0 true ([]:(List (Int × Bool)))).length (uo (aF .u8) (eD bP 0 true ([]:(List (Int × Bool))))) (vk ai (eD bP 0 true ([]:(List (Int × Bool))))),vK (fun _=>rfl) (fun _ _=>rfl) ([]:(List (Int × Bool))) 0 true rfl rfl⟩]<| .rg {fr:=[(0,21)]} []<| .lp (σ:=((List (Int × Bool)) × Int)) (β:=(List (Int × Bool))) ((eD bP 0 true ([]:(List (Int × Bool)))),1) [] [] ⟨[1,3,4,5],[18,20],fun(u0,s0)=>[],fun(u0,s0)=>(XO u0 s0)⟩ ⟨[4],[20],fun u3=>[],fun u3=>[(19,some (Kk u3))]⟩
  (fun(u0,s0)=> .a1 ((0:Int)≤(y.jobs.length:Int))<| .r<| .it (.rg {fr:=[(0,31)]} []<| .cl 1 (dW s0) fun r_=> .r<| .cl 0 (lK [(0,32),(1,20),(2,21),(3,31),(4,19)] (qy r_ u0 s0 true)) fun u1=> .rf 32 [4,5,6] [] none 0 []<| .cgr 6 [(u1,true)] (lK [(0,18),(1,21)] (lq y y y y s0)) fun u2=> .rg {an:=[(9, .map (Kr u0 s0 u1 u2).length (Uy u0 s0 u1 u2) (U3 u0 s0 u1 u2) [])]} [0, .pf ⟨nV [some .u8] 1 1 u0.length (uo (aF .u8) u0) (vk ai u0) [(.int .u8 s0)] [(cB (bif u1 then(!u2)else false))] [] (Kr u0 s0 u1 u2).length (Uy u0 s0 u1 u2) (U3 u0 s0 u1 u2),vK (fun _=>rfl) (fun _ _=>rfl) u0 s0 (bif u1 then(!u2)else false) rfl rfl⟩]<| .r<| .rg {fr:=[(0,33)]} []<| .r<| .en (.next ((Kr u0 s0 u1 u2),(IntKind.wrap .u8 (s0+1)))) [] [(33,21)])
  (.e (.done (.brk u0))))
  (fun u3=> .r<| .en u3 [] [(19,0)]))
theorem o9 (y:ah):dJ Tryz.prog 92 (SY y) [] (fun r=>(.v (.one (.mp 0)))) (fun r=>[(0,some (LV 198 4 false false 1 1 (aF .u8) ai r))]) (cO y):=
  dY tT mX Tryz.func92 (
  .rg {fr:=[(0,17)],fz:=[17]} []<| .rg {an:=[(8, .cells)],fr:=[(8,18)]} []<| .rg {an:=[(0, .map 0 (uo (aF .u8) ([]:(List (Int × Bool)))) (vk ai ([]:(List (Int × Bool)))) []),(1, .map (eD bP 0 true ([]:(List (Int × Bool)))).length (uo (aF .u8) (eD bP 0 true ([]:(List (Int × Bool))))) (vk ai (eD bP 0 true ([]:(List (Int × Bool))))) [])],fr:=[(0,19),(3,20)]} [.pf ⟨nV [some .u8] 1 1 ([]:(List (Int × Bool))).length (uo (aF .u8) ([]:(List (Int × Bool)))) (vk ai ([]:(List (Int × Bool)))) [(.int .u8 0)] [(cB true)] [] (eD bP 0 true ([]:(List (Int × Bool)))).length (uo (aF .u8) (eD bP 0 true ([]:(List (Int × Bool))))) (vk ai (eD bP 0 true ([]:(List (Int × Bool))))),vK (fun _=>rfl) (fun _ _=>rfl) ([]:(List (Int × Bool))) 0 true rfl rfl⟩]<| .rg {fr:=[(0,21)]} []<| .lp (σ:=((List (Int × Bool)) × Int)) (β:=(List (Int × Bool))) ((eD bP 0 true ([]:(List (Int × Bool)))),1) [] [] ⟨[1,3,4,5],[18,20],fun(u0,s0)=>[],fun(u0,s0)=>(XO u0 s0)⟩ ⟨[4],[20],fun u3=>[],fun u3=>[(19,some (Kk u3))]⟩
  (fun(u0,s0)=> .a1 ((0:Int)≤(y.jobs.length:Int))<| .r<| .it (.rg {fr:=[(0,31)]} []<| .cl 1 (dW s0) fun r_=> .r<| .cl 0 (lK [(0,32),(1,20),(2,21),(3,31),(4,19)] (qy r_ u0 s0 true)) fun u1=> .rf 32 [4,5,6] [] none 0 []<| .cgr 6 [(u1,true)] (lK [(0,18),(1,21)] (lq y y y y s0)) fun u2=> .rg {an:=[(9, .map (Kr u0 s0 u1 u2).length (Uy u0 s0 u1 u2) (U3 u0 s0 u1 u2) [])]} [0, .pf ⟨nV [some .u8] 1 1 u0.length (uo (aF .u8) u0) (vk ai u0) [(.int .u8 s0)] [(cB (bif u1 then(!u2)else false))] [] (Kr u0 s0 u1 u2).length (Uy u0 s0 u1 u2) (U3 u0 s0 u1 u2),vK (fun _=>rfl) (fun _ _=>rfl) u0 s0 (bif u1 then(!u2)else false) rfl rfl⟩]<| .r<| .rg {fr:=[(0,33)]} []<| .r<| .en (.next ((Kr u0 s0 u1 u2),(IntKind.wrap .u8 (s0+1)))) [] [(33,21)])
  (.e (.done (.brk u0))))
  (fun u3=> .r<| .en u3 [] [(19,0)]))
section
variable (u0:Int)
abbrev O4:List (Nat × Option Ob):=[(0,some (.cells 3 [(cI u0)]))]
end
theorem CQ (x:eP) (u0:Int):dJ Tryz.prog 103 [(.agg [(.d (aS none 2 Part.cell x.parts)),(cI x.hours),(cI x.from_),(cI x.to_),(cI x.people),(.d (aS none 1 (aF .i64) x.after))]),(.one (.ptr 0 0))] (O4 u0) (fun r=>(vB r)) (fun r=>(O4 u0)) (uV x u0):=
  dY tT mX Tryz.func103 (
  .rg {fr:=[(0,2)],fz:=[2]} []<| .r<| .e (decide (u0≤(IntKind.wrap .i64 (x.from_+x.hours)))))
theorem uW (s_:(List eP)) (u0:Int):dJ Tryz.prog 179 [(sD (aS none 6 eP.cell s_)),(.one (.fn 103 0 1 (Ay [(.ptr 0 0)])))] (O4 u0) (fun r=>(vI r)) (fun r=>(O4 u0)) (kS s_ u0):=
  dY tT mX Tryz.func179 (
  .r<| .r<| .lp (σ:=Int) (β:=Unit) (0) [] [] ⟨[0,1,7],[0],fun t8=>[(8,(vI t8))],fun t8=>[]⟩ ⟨[],[0],fun _=>[],fun _=>[]⟩
  (fun t8=> .r<| .it (.r<| .cr 5 (CQ (at' s_ t8.toNat) u0) fun r_=> .a1 ((0:Int)≤t8∧t8<(s_.length:Int))<| .rg {} [0,1]<| .it (.r<| .e (.done (.ret t8)))
  (.r<| .e (.next (k8 t8))))
  (.e (.done (.brk ()))))
  (fun _=> .r<| .e (-1)))
theorem qU (s_:(List eP)) (u0:Int):dJ Tryz.prog 105 [(sD (aS none 6 eP.cell s_)),(.one (.fn 103 0 1 (Ay [(.ptr 0 0)])))] (O4 u0) (fun r=>(vB r)) (fun r=>(O4 u0)) (fM s_ u0):=
  dY tT mX Tryz.func105 (
  .r<| .cr 2 (uW s_ u0) fun r_=> .r<| .e (decide (0≤r_)))
section
variable (y:ah) (u1:(List Int)) (n:Int) (u0:Int)
abbrev Q0:List SV:=[(.agg (zP y)),(sD (BI u1))]
abbrev Zh:=((if n<(IntKind.wrap .i64 ((at' u1 u0.toNat)+((at' y.jobs u0.toNat).hours)))then(IntKind.wrap .i64 ((at' u1 u0.toNat)+((at' y.jobs u0.toNat).hours)))else n),(k8 u0))
end
theorem nL (y:ah) (u1:(List Int)):dJ Tryz.prog 106 (Q0 y u1) [] (fun r=>(vI r)) (fun _=>[]) (iU y u1):=
  dY tT mX Tryz.func106 (
  .rg {fr:=[(0,1)],fz:=[1]} []<| .r<| .r<| .lp (σ:=(Int × Int)) (β:=Int) (0,0) [] [] ⟨[2,8,9],[],fun(n,u0)=>[(5,(vI n)),(10,(vI u0))],fun(n,u0)=>[]⟩ ⟨[],[],fun n1=>[(5,(vI n1))],fun n1=>[]⟩
  (fun(n,u0)=> .r<| .it (.a1 (Av u1 u0)<| .r<| .a1 (Gg y u0)<| .r<| .r<| .e (.next (Zh y u1 n u0)))
  (.e (.done (.brk n))))
  (fun n1=> .r<| .e n1))
theorem qw (s_:(List Int)) (u0:Bool):dJ Tryz.prog 107 [(sD (aS (some u0) 1 (aF .i64) s_))] [] (fun r=>(vO 0 false r.length)) (fun r=>[(0,some (bJ 3 1 (aF .i64) r))]) (oq s_ u0):=
  dY tT mX Tryz.func107 (
  .r<| .r<| .it (.r<| .im (.ad 2 2 3 1 (aA (aF .i64) ([]:List Int)))<| .en ([]:List Int) [] [(2,0)])
  (.a2 ((([]:List Int).length+s_.length)*8≤140737488355328) (([]:List Int).length+s_.length≤4611686018427387904)<| .rg {an:=[(0, .arr ([]:List Int).length (aA (aF .i64) ([]:List Int))),(2, .arr (([]:List Int)++s_).length (aA (aF .i64) (([]:List Int)++s_)))],fr:=[(0,3),(2,4)]} [.pf ⟨([]:List Int).length=0,rfl⟩, .pf ⟨aI 0 1 (nN 1 []) (aA (aF .i64) ([]:List Int)),(fun i hi=>absurd hi (Nat.not_lt_zero i))⟩, .e (([]:List Int).length),0,1, .pf ⟨(([]:List Int)++s_).length=([]:List Int).length+s_.length,List.length_append⟩, .pf ⟨aI (([]:List Int).length+s_.length) 1 (oW (aA (aF .i64) ([]:List Int)) ([]:List Int).length (aA (aF .i64) s_)) (aA (aF .i64) (([]:List Int)++s_)),dG _ _ _ _⟩]<| .en (([]:List Int)++s_) [] [(4,0)]))
theorem wL (s:(List Int)) {r:(List Int)} (h:mJ s=some r):Fn Tryz.prog 107 [(sD (aS none 1 (aF .i64) s))] [] (vO 0 false r.length) [(0,some (bJ 3 1 (aF .i64) r))]:=by
 refine Fn.nn (qw s true h) fun hl=> ?_
 have hs:s=[]:=List.eq_nil_of_length_eq_zero hl
 subst hs
 exact qw [] false (by rw [←h];kernel_rfl)
section
variable (x2:Int) (u1:(List Source)) (u2:(List Link)) (u3:(List aN)) (u4:(List Bool)) (u5:(List Bool)) (u6:(List Bool)) (u7:(List Bool)) (u8:(List Bool)) (u9:(List Bool)) (v0:(List Bool)) (v1:(List Transfer)) (u0:(List eP)) (v2:Int) (v3:Bool)
abbrev YD:DV:=(zq [(.int .i64 x2),(k3 u1),(aS none 6 Link.cell u2),(aS none 4 aN.cell u3),(aS none 1 ai u4),(aS none 1 ai u5),(aS none 1 ai u6),(aS none 1 ai u7),(aS none 1 ai u8),(aS none 1 ai u9),(aS none 1 ai v0),(k27 v1),(aS none 6 eP.cell u0),(.int .i64 v2),(.bool v3)] 0)
end
theorem wo (kz:Int) (x1:(List Int)) (x2:Int) (u1:(List Source)) (u2:(List Link)) (u3:(List aN)) (u4:(List Bool)) (u5:(List Bool)) (u6:(List Bool)) (u7:(List Bool)) (u8:(List Bool)) (u9:(List Bool)) (v0:(List Bool)) (v1:(List Transfer)) (u0:(List eP)) (v2:Int) (v3:Bool) (x3:Int):dJ Tryz.prog 180 [(sI kz),(sD (zq [(BI x1)] 0)),(sD (YD x2 u1 u2 u3 u4 u5 u6 u7 u8 u9 v0 v1 u0 v2 v3)),(sD (zq [(.int .i64 x3)] 0))] [] (fun r=>(vB r)) (fun _=>[]) (lM kz x1 x2 u1 u2 u3 u4 u5 u6 u7 u8 u9 v0 v1 u0 v2 v3 x3):=
  dY tT mX Tryz.func180 (
  .r<| .a3 (Av x1 kz) ((0:Int)≤kz∧kz<(u0.length:Int)) (Av x1 x3)<| .rg {} [0,1,2]<| .e (decide ((at' x1 x3.toNat)<(IntKind.wrap .i64 ((at' x1 kz.toNat)+((at' u0 kz.toNat).hours))))))
section
variable (s_:(List Int)) (f_:(List Int)) (u0:Int) (u1:(List Source)) (u2:(List Link)) (u3:(List aN)) (u4:(List Bool)) (u5:(List Bool)) (u6:(List Bool)) (u7:(List Bool)) (u8:(List Bool)) (u9:(List Bool)) (v0:(List Bool)) (v1:(List Transfer)) (v2:(List eP)) (v3:Int) (v4:Bool) (v5:Int)
abbrev XM:List SV:=[(sD (BI s_)),(sD (.fn 180 3 (qA [(zq [(BI f_)] 0),(YD u0 u1 u2 u3 u4 u5 u6 u7 u8 u9 v0 v1 v2 v3 v4),(zq [(.int .i64 v5)] 0)])))]
end
theorem qP (s_:(List Int)) (f_:(List Int)) (u0:Int) (u1:(List Source)) (u2:(List Link)) (u3:(List aN)) (u4:(List Bool)) (u5:(List Bool)) (u6:(List Bool)) (u7:(List Bool)) (u8:(List Bool)) (u9:(List Bool)) (v0:(List Bool)) (v1:(List Transfer)) (v2:(List eP)) (v3:Int) (v4:Bool) (v5:Int):dJ Tryz.prog 205 (XM s_ f_ u0 u1 u2 u3 u4 u5 u6 u7 u8 u9 v0 v1 v2 v3 v4 v5) [] (fun r=>(vI r)) (fun _=>[]) (jB s_ f_ u0 u1 u2 u3 u4 u5 u6 u7 u8 u9 v0 v1 v2 v3 v4 v5):=
  dY tT mX Tryz.func205 (
  .r<| .r<| .lp (σ:=Int) (β:=Unit) (0) [] [] ⟨[0,1,7],[],fun t8=>[(8,(vI t8))],fun t8=>[]⟩ ⟨[],[],fun _=>[],fun _=>[]⟩
  (fun t8=> .r<| .it (.r<| .cl 5 (wo (at' s_ t8.toNat) f_ u0 u1 u2 u3 u4 u5 u6 u7 u8 u9 v0 v1 v2 v3 v4 v5) fun r_=> .a1 (Av s_ t8)<| .rg {} [0,1]<| .it (.r<| .e (.done (.ret t8)))
  (.r<| .e (.next (k8 t8))))
  (.e (.done (.brk ()))))
  (fun _=> .r<| .e (-1)))
theorem p8 (s_:(List Int)) (f_:(List Int)) (u0:Int) (u1:(List Source)) (u2:(List Link)) (u3:(List aN)) (u4:(List Bool)) (u5:(List Bool)) (u6:(List Bool)) (u7:(List Bool)) (u8:(List Bool)) (u9:(List Bool)) (v0:(List Bool)) (v1:(List Transfer)) (v2:(List eP)) (v3:Int) (v4:Bool) (v5:Int):dJ Tryz.prog 129 (XM s_ f_ u0 u1 u2 u3 u4 u5 u6 u7 u8 u9 v0 v1 v2 v3 v4 v5) [] (fun r=>(vB r)) (fun _=>[]) (eG s_ f_ u0 u1 u2 u3 u4 u5 u6 u7 u8 u9 v0 v1 v2 v3 v4 v5):=
  dY tT mX Tryz.func129 (
  .r<| .cl 2 (qP s_ f_ u0 u1 u2 u3 u4 u5 u6 u7 u8 u9 v0 v1 v2 v3 v4 v5) fun r_=> .r<| .e (decide (0≤r_)))
section
variable (y:ah) (u0:(List Int)) (i:Int)
abbrev XK:List SV:=[(.agg (zP y)),(sD (BI u0)),(sI i)]
abbrev Yu:=(bif (decide (((at' y.jobs i.toNat).from_)≤(at' u0 i.toNat)))then(decide ((at' u0 i.toNat)≤(IntKind.wrap .i64 (((at' y.jobs i.toNat).to_) - ((at' y.jobs i.toNat).hours)))))else false)
end
theorem pF (y:ah) (u0:(List Int)) (i:Int):dJ Tryz.prog 108 (XK y u0 i) [] (fun r=>(vB r)) (fun _=>[]) (iF y u0 i):=
  dY tT mX Tryz.func108 (
  .rg {fr:=[(0,4),(1,5),(2,6)],fz:=[5]} []<| .a1 (Gg y i)<| .rg {fr:=[(5,7)],fz:=[4,6,7]} []<| .cg 23 [((Yu y u0 i),true)] (p8 ((at' y.jobs i.toNat).after) u0 y.plant.buses y.plant.sources y.plant.links y.plant.racks y.state.closed y.state.locked y.state.badLink y.state.on_ y.state.badSource y.state.earthed y.state.badBus y.transfers y.jobs y.people y.redundant i) fun r_=> .a2 (Av u0 i) ((gB [((decide (((at' y.jobs i.toNat).from_)≤(at' u0 i.toNat))),true)]=true→(0:Int)≤i∧i<(u0.length:Int)))<| .rg {} [0,1,2]<| .e (bif (Yu y u0 i)then(!r_)else false))
end
end Sg
