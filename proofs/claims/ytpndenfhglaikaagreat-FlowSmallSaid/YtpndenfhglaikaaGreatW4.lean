import Derived.Test.YtpndenfhglaikaaGreatW3
set_option linter.all false
namespace Sg
open Go Go.Proofs
set_option maxRecDepth 20000
noncomputable section
theorem Ad (u0:(List Int)):fD Tryz.prog 23 [(.one (.own 0 true u0.length))] (Rh u0) (fun r=>(.iP [(.agg [(cI r.1.buses),(.own 1 true r.1.sources.length),(.own 2 true r.1.links.length),(.own 3 false r.1.racks.length)]),(.agg [(.own 4 true r.2.closed.length),(.own 5 true r.2.locked.length),(.own 6 true r.2.badLink.length),(.own 7 true r.2.on_.length),(.own 8 true r.2.badSource.length),(.own 9 true r.2.earthed.length),(.own 10 true r.2.badBus.length)])])) (fun r=>[(0,some (Fw u0)),(1,some (bZ 60 5 Source.cell r.1.sources)),(2,some (bZ 66 6 Link.cell r.1.links)),(3,some (bZ 71 4 aD.cell r.1.racks)),(4,some (bZ 4 1 aj r.2.closed)),(5,some (bZ 4 1 aj r.2.locked)),(6,some (bZ 4 1 aj r.2.badLink)),(7,some (bZ 4 1 aj r.2.on_)),(8,some (bZ 4 1 aj r.2.badSource)),(9,some (bZ 4 1 aj r.2.earthed)),(10,some (bZ 4 1 aj r.2.badBus)),(11,none),(12,none)]) (lW u0):=
  gI tT mX Tryz.func23 (
  .rg {fr:=[(0,21),(1,22)]} []<| .rg {an:=[(2, .arr [(⟨0,1,500,0,20⟩:Source),(⟨2,2,300,0,40⟩:Source)].length (au Source.cell [(⟨0,1,500,0,20⟩:Source),(⟨2,2,300,0,40⟩:Source)])),(5, .arr [(⟨0,1,3,400,10,([]:List gD)⟩:Link),(⟨1,2,3,400,10,([]:List gD)⟩:Link)].length (ou 6 [(.int .i64 0),(.int .i64 1),(.int .i64 3),(.int .i64 400),(.int .i64 10),nS,(.int .i64 1),(.int .i64 2),(.int .i64 3),(.int .i64 400),(.int .i64 10),nS]))],fr:=[(2,23),(5,24),(7,25)]} [.pf ⟨[(⟨0,1,500,0,20⟩:Source),(⟨2,2,300,0,40⟩:Source)].length=2,rfl⟩, .pf ⟨aC 2 5 (ou 5 ac9) (au Source.cell [(⟨0,1,500,0,20⟩:Source),(⟨2,2,300,0,40⟩:Source)]),(by intro i hi j hj;match i,j,hi,hj with|0,0,_,_=>rfl|0,1,_,_=>rfl|0,2,_,_=>rfl|0,3,_,_=>rfl|0,4,_,_=>rfl|1,0,_,_=>rfl|1,1,_,_=>rfl|1,2,_,_=>rfl|1,3,_,_=>rfl|1,4,_,_=>rfl)⟩, .pf ⟨[(⟨0,1,3,400,10,([]:List gD)⟩:Link),(⟨1,2,3,400,10,([]:List gD)⟩:Link)].length=2,rfl⟩, .pf ⟨aC 2 6 (ou 6 [(.int .i64 0),(.int .i64 1),(.int .i64 3),(.int .i64 400),(.int .i64 10),nS,(.int .i64 1),(.int .i64 2),(.int .i64 3),(.int .i64 400),(.int .i64 10),nS]) (ou 6 [(.int .i64 0),(.int .i64 1),(.int .i64 3),(.int .i64 400),(.int .i64 10),nS,(.int .i64 1),(.int .i64 2),(.int .i64 3),(.int .i64 400),(.int .i64 10),nS]),fI _ _ _⟩]<| .im (.uh 24 (some (.arr 66 6 [(⟨0,1,3,400,10,([]:List gD)⟩:Link),(⟨1,2,3,400,10,([]:List gD)⟩:Link)].length (ou 6 [(.int .i64 0),(.int .i64 1),(.int .i64 3),(.int .i64 400),(.int .i64 10),nS,(.int .i64 1),(.int .i64 2),(.int .i64 3),(.int .i64 400),(.int .i64 10),nS]))) (some (.arr 66 6 [(⟨0,1,3,400,10,([]:List gD)⟩:Link),(⟨1,2,3,400,10,([]:List gD)⟩:Link)].length (au Link.cell [(⟨0,1,3,400,10,([]:List gD)⟩:Link),(⟨1,2,3,400,10,([]:List gD)⟩:Link)]))) (Hu (by intro i hi j hj;match i,j,hi,hj with|0,0,_,_=>exact .refl _|0,1,_,_=>exact .refl _|0,2,_,_=>exact .refl _|0,3,_,_=>exact .refl _|0,4,_,_=>exact .refl _|0,5,_,_=>exact jL.nil'|1,0,_,_=>exact .refl _|1,1,_,_=>exact .refl _|1,2,_,_=>exact .refl _|1,3,_,_=>exact .refl _|1,4,_,_=>exact .refl _|1,5,_,_=>exact jL.nil')))<| .r<| .im (.P5 25 3 34 71 4 (au aD.cell ([]:List aD)))<| .lp (σ:=((List aD) × Int)) (β:=(List aD)) (([]:List aD),0) [] [(34,27)] ⟨[0,2,3,4],[0,21,22,23,24],fun(p3,i)=>[(5,(vI i))],fun(p3,i)=>(Xy p3)⟩ ⟨[2,3,4],[0,21,22,23,24],fun u1=>[],fun u1=>(Xy u1)⟩
  (fun(p3,i)=> .r<| .it (.r<| .a3 (Nz u0 i) (ad3 p3 u0 i) (p3.length+[(Jf u0 i)].length≤4611686018427387904)<| .rg {an:=[(7, .arr [(Jf u0 i)].length (Wp u0 i)),(8, .arr (Qc p3 u0 i).length (Xw p3 u0 i))],fr:=[(7,32),(8,33)]} [0, .t 0 i u0.length, .pf ⟨[(Jf u0 i)].length=1,rfl⟩, .pf ⟨aC 1 4 (ou 4 [(.int .i64 1),(.int .i64 (-1)),(.int .i64 (at' u0 i.toNat)),(.int .i64 1)]) (Wp u0 i),(by intro i hi j hj;match i,j,hi,hj with|0,0,_,_=>rfl|0,1,_,_=>rfl|0,2,_,_=>rfl|0,3,_,_=>rfl)⟩, .e (p3.length),1,2, .pf ⟨(Qc p3 u0 i).length=p3.length+[(Jf u0 i)].length,List.length_append⟩, .pf ⟨aC (ZO p3 u0 i) 4 (afB p3 u0 i) (Xw p3 u0 i),dw _ _ _ _⟩]<| .r<| .en (.next ((Qc p3 u0 i),(k4 i))) [] [(33,27)])
  (.e (.done (.brk p3))))
  (fun u1=> .a6 ((0:Int)≤2) ((1:Int)*2≤281474976710656) ((2:Int)≤9223372036854775807) ((0:Int)≤3) ((1:Int)*3≤281474976710656) ((3:Int)≤9223372036854775807)<| .rg {an:=[(1, .arr [true,true].length (au aj [true,true])),(2, .arr (List.replicate 2 (false:Bool)).length (au aj (List.replicate 2 (false:Bool)))),(3, .arr (List.replicate 2 (false:Bool)).length (au aj (List.replicate 2 (false:Bool)))),(4, .arr [true,true].length (au aj [true,true])),(5, .arr (List.replicate 2 (false:Bool)).length (au aj (List.replicate 2 (false:Bool)))),(6, .arr (List.replicate 3 (false:Bool)).length (au aj (List.replicate 3 (false:Bool)))),(7, .arr (List.replicate 3 (false:Bool)).length (au aj (List.replicate 3 (false:Bool))))],fr:=[(1,35),(2,36),(3,37),(4,38),(5,39),(6,40),(7,41)]} [.pf ⟨[true,true].length=2,rfl⟩, .pf ⟨aC 2 1 (ou 1 [(.bool true),(.bool true)]) (au aj [true,true]),(by intro i hi j hj;match i,j,hi,hj with|0,0,_,_=>rfl|1,0,_,_=>rfl)⟩,0, .e ((2:Int)),1,2, .pf ⟨(List.replicate 2 (false:Bool)).length=2,List.length_replicate⟩, .pf ⟨aC 2 1 (fun _ j=>[(.bool false)].getD j .nilp) (au aj (List.replicate 2 (false:Bool))),aW _ _ _ _ _ (fun j hj=>(match j,hj with|0,_=>rfl))⟩,0, .e ((2:Int)),1,2, .pf ⟨(List.replicate 2 (false:Bool)).length=2,List.length_replicate⟩, .pf ⟨aC 2 1 (fun _ j=>[(.bool false)].getD j .nilp) (au aj (List.replicate 2 (false:Bool))),aW _ _ _ _ _ (fun j hj=>(match j,hj with|0,_=>rfl))⟩, .pf ⟨[true,true].length=2,rfl⟩, .pf ⟨aC 2 1 (ou 1 [(.bool true),(.bool true)]) (au aj [true,true]),(by intro i hi j hj;match i,j,hi,hj with|0,0,_,_=>rfl|1,0,_,_=>rfl)⟩,0, .e ((2:Int)),1,2, .pf ⟨(List.replicate 2 (false:Bool)).length=2,List.length_replicate⟩, .pf ⟨aC 2 1 (fun _ j=>[(.bool false)].getD j .nilp) (au aj (List.replicate 2 (false:Bool))),aW _ _ _ _ _ (fun j hj=>(match j,hj with|0,_=>rfl))⟩,3, .e ((3:Int)),4,5, .pf ⟨(List.replicate 3 (false:Bool)).length=3,List.length_replicate⟩, .pf ⟨aC 3 1 (fun _ j=>[(.bool false)].getD j .nilp) (au aj (List.replicate 3 (false:Bool))),aW _ _ _ _ _ (fun j hj=>(match j,hj with|0,_=>rfl))⟩,3, .e ((3:Int)),4,5, .pf ⟨(List.replicate 3 (false:Bool)).length=3,List.length_replicate⟩, .pf ⟨aC 3 1 (fun _ j=>[(.bool false)].getD j .nilp) (au aj (List.replicate 3 (false:Bool))),aW _ _ _ _ _ (fun j hj=>(match j,hj with|0,_=>rfl))⟩]<| .en (agd u1) [] [(23,1),(24,2),(27,3),(35,4),(36,5),(37,6),(38,7),(39,8),(40,9),(41,10),(21,11),(22,12)]))
section
variable (p:ah) (s0:(List Bool))
abbrev ady:List SV:=[(.agg [(cI p.buses),(.own 0 false p.sources.length),(.own 1 false p.links.length),(.own 2 false p.racks.length)])]
abbrev abZ:List (Nat × Option Ob):=[(0,some (bZ 60 5 Source.cell p.sources)),(1,some (bZ 66 6 Link.cell p.links)),(2,some (bZ 71 4 aD.cell p.racks))]
abbrev L8:=(List.replicate (GN p) (false:Bool))
abbrev Yr:=(au aj (L8 p))
abbrev afk:List (Nat × Option Ob):=[(22,some (bZ 4 1 aj s0)),(29,some (.cells 29 [(.own 22 true s0.length),(.own 23 true ((Dh p).length)),(.own 24 true ((Dh p).length)),(.own 25 true ((L8 p).length)),(.own 26 true ((L8 p).length)),(.own 27 true (UZ p)),(.own 28 true (UZ p))]))]
end
theorem Am (p:ah):fD Tryz.prog 26 (ady p) (abZ p) (fun r=>(.iP [(.agg [(.own 3 false r.1.closed.length),(.own 4 false r.1.locked.length),(.own 5 false r.1.badLink.length),(.own 6 false r.1.on_.length),(.own 7 false r.1.badSource.length),(.own 8 false r.1.earthed.length),(.own 9 false r.1.badBus.length)]),(sI r.2)])) (fun r=>[(0,some (bZ 60 5 Source.cell p.sources)),(1,some (bZ 66 6 Link.cell p.links)),(2,some (bZ 71 4 aD.cell p.racks)),(3,some (bZ 4 1 aj r.1.closed)),(4,some (bZ 4 1 aj r.1.locked)),(5,some (bZ 4 1 aj r.1.badLink)),(6,some (bZ 4 1 aj r.1.on_)),(7,some (bZ 4 1 aj r.1.badSource)),(8,some (bZ 4 1 aj r.1.earthed)),(9,some (bZ 4 1 aj r.1.badBus)),(10,none)]) (qb p):=
  gI tT mX Tryz.func26 (
  .rg {fr:=[(0,13),(1,14)]} []<| .cr 1 ⟨fun{r_} hr_=>((Fn.Ep (frz:=[0,1,2]) (p:=[p.sources.length=p.sources.length,p.links.length=p.links.length,p.racks.length=p.racks.length]) (oh p hr_) (by kernel_rfl) ⟨rfl,rfl,rfl,trivial⟩ rfl):Fn Tryz.prog 30 (ady p) (abZ p) (vI r_) (abZ p))⟩ fun r_=> .r<| .r<| .it (.r<| .im (.P5 14 0 15 4 1 (au aj ([]:List Bool)))<| .im (.P5 14 1 16 4 1 (au aj ([]:List Bool)))<| .im (.P5 14 2 17 4 1 (au aj ([]:List Bool)))<| .im (.P5 14 3 18 4 1 (au aj ([]:List Bool)))<| .im (.P5 14 4 19 4 1 (au aj ([]:List Bool)))<| .im (.P5 14 5 20 4 1 (au aj ([]:List Bool)))<| .im (.P5 14 6 21 4 1 (au aj ([]:List Bool)))<| .en ((⟨([]:List Bool),([]:List Bool),([]:List Bool),([]:List Bool),([]:List Bool),([]:List Bool),([]:List Bool)⟩:State),r_) [] [(15,3),(16,4),(17,5),(18,6),(19,7),(20,8),(21,9),(14,10)])
  (.r<| .as _ inferInstance [(0:Int)≤(p.links.length:Int),(1:Int)*(p.links.length:Int)≤281474976710656,(Sk p)≤9223372036854775807,(0:Int)≤(p.sources.length:Int),(1:Int)*(p.sources.length:Int)≤281474976710656,(QA p)≤9223372036854775807,(0:Int)≤p.buses,(1:Int)*p.buses≤281474976710656,(p.buses:Int)≤9223372036854775807] (fun h=> ⟨h.1,h.2.1,h.2.2.1,h.2.2.2.1,h.2.2.2.2.1,h.2.2.2.2.2.1,h.2.2.2.2.2.2.1,h.2.2.2.2.2.2.2.1,h.2.2.2.2.2.2.2.2,trivial⟩:(((0:Int)≤(p.links.length:Int))∧((1:Int)*(p.links.length:Int)≤281474976710656)∧(YZ p)∧((0:Int)≤(p.sources.length:Int))∧((1:Int)*(p.sources.length:Int)≤281474976710656)∧((QA p)≤9223372036854775807)∧((0:Int)≤p.buses)∧(Xx p)∧(Tc p))→_)<| .rg {an:=[(1, .arr (Dh p).length (Oe p)),(3, .arr (Dh p).length (Oe p)),(5, .arr (Dh p).length (Oe p)),(7, .arr (L8 p).length (Yr p)),(9, .arr (L8 p).length (Yr p)),(12, .arr (rY p).length (BR p)),(15, .arr (rY p).length (BR p))],fr:=[(1,22),(3,23),(5,24),(7,25),(9,26),(12,27),(15,28),(17,29)]} [0, .e (SH p),1,2, .pf ⟨(Dh p).length=(yP p),List.length_replicate⟩, .pf ⟨aC (yP p) 1 (fun _ j=>[(.bool false)].getD j .nilp) (Oe p),aW _ _ _ _ _ (fun j hj=>(match j,hj with|0,_=>rfl))⟩,0, .e (SH p),1,2, .pf ⟨(Dh p).length=(yP p),List.length_replicate⟩, .pf ⟨aC (yP p) 1 (fun _ j=>[(.bool false)].getD j .nilp) (Oe p),aW _ _ _ _ _ (fun j hj=>(match j,hj with|0,_=>rfl))⟩,0, .e (SH p),1,2, .pf ⟨(Dh p).length=(yP p),List.length_replicate⟩, .pf ⟨aC (yP p) 1 (fun _ j=>[(.bool false)].getD j .nilp) (Oe p),aW _ _ _ _ _ (fun j hj=>(match j,hj with|0,_=>rfl))⟩,3, .e ((QA p)),4,5, .pf ⟨(L8 p).length=(GN p),List.length_replicate⟩, .pf ⟨aC (GN p) 1 (fun _ j=>[(.bool false)].getD j .nilp) (Yr p),aW _ _ _ _ _ (fun j hj=>(match j,hj with|0,_=>rfl))⟩,3, .e ((QA p)),4,5, .pf ⟨(L8 p).length=(GN p),List.length_replicate⟩, .pf ⟨aC (GN p) 1 (fun _ j=>[(.bool false)].getD j .nilp) (Yr p),aW _ _ _ _ _ (fun j hj=>(match j,hj with|0,_=>rfl))⟩,6, .e ((p.buses:Int)),7,8, .pf ⟨(rY p).length=p.buses.toNat,List.length_replicate⟩, .pf ⟨aC p.buses.toNat 1 (fun _ j=>[(.bool false)].getD j .nilp) (BR p),aW _ _ _ _ _ (fun j hj=>(match j,hj with|0,_=>rfl))⟩,6, .e ((p.buses:Int)),7,8, .pf ⟨(rY p).length=p.buses.toNat,List.length_replicate⟩, .pf ⟨aC p.buses.toNat 1 (fun _ j=>[(.bool false)].getD j .nilp) (BR p),aW _ _ _ _ _ (fun j hj=>(match j,hj with|0,_=>rfl))⟩]<| .r<| .lp (σ:=((List Bool) × Int)) (β:=(List Bool)) ((Dh p),0) [] [] ⟨[1,2,5,7],[0,1,2,13,14,23,24,25,26,27,28],fun(s0,i)=>[(8,(vI i))],fun(s0,i)=>(afk p s0)⟩ ⟨[2,7],[0,1,2,14,23,24,25,26,27,28],fun u0=>[],fun u0=>(afk p u0)⟩
  (fun(s0,i)=> .r<| .it (.a1 (Qv p i)<| .rg {} [0, .t 0 i p.links.length]<| .it (.a1 (k10 i s0)<| .rg {an:=[(4, .arr 0 (au aj (s0.set i.toNat true)))]} [0, .t 0 i s0.length, .pf ⟨aC s0.length 1 (fe (au aj s0) i.toNat 0 [(.bool true)]) (au aj (s0.set i.toNat true)),aK _ _ _ _ _ _ _ _ rfl (fun j hj=>(match j,hj with|0,_=>rfl))⟩]<| .im (.ll 22 s0 (s0.set i.toNat true))<| .r<| .e (.next ((s0.set i.toNat true),(k4 i))))
  (.r<| .e (.next (s0,(k4 i)))))
  (.e (.done (.brk s0))))
  (fun u0=> .r<| .en ((⟨u0,(Dh p),(Dh p),(L8 p),(L8 p),(rY p),(rY p)⟩:State),0) [] [(22,3),(23,4),(24,5),(25,6),(26,7),(27,8),(28,9),(14,10)])))
section
variable (s_:State)
abbrev fQ:Nat × Option Ob:=(0,some (bZ 4 1 aj s_.closed))
abbrev fV:Nat × Option Ob:=(1,some (bZ 4 1 aj s_.locked))
abbrev fJ:Nat × Option Ob:=(2,some (bZ 4 1 aj s_.badLink))
abbrev fK:Nat × Option Ob:=(3,some (bZ 4 1 aj s_.on_))
abbrev fH:Nat × Option Ob:=(4,some (bZ 4 1 aj s_.badSource))
abbrev fU:Nat × Option Ob:=(5,some (bZ 4 1 aj s_.earthed))
abbrev fG:Nat × Option Ob:=(6,some (bZ 4 1 aj s_.badBus))
end
def fT (s_:State):(aA × (List Bool) × Int)→Exit→St→Prop:=
  fun r=>Kw TT [.cell 4 80, .tmp 5, .tmp 6] (.iP [(.agg [(.own 7 false r.1.sources.length),(.own 8 false r.1.links.length),(.own 9 false r.1.racks.length)]),(.one (.own 10 false r.2.1.length)),(sI r.2.2)]) [(fQ s_),(fV s_),(fJ s_),(fK s_),(fH s_),(fU s_),(fG s_),(7,some (bZ 3 1 (aG .i64) r.1.sources)),(8,some (bZ 3 1 (aG .i64) r.1.links)),(9,some (bZ 69 2 af.cell r.1.racks)),(10,some (bZ 4 1 aj r.2.1)),(11,none)]
section
variable (p:ah) (u1:Int) (s_:State) (n1:(List (List Int))) (n0:(List bg)) (u0:(List (Int × Int)))
abbrev uz:Nat × TV:=(11,(.v (.one (.mp 84))))
abbrev rF:Nat × TV:=(12,(.v (.one (.mp 85))))
abbrev pR:Nat × TV:=(13,(.v (.one (.mp 86))))
abbrev afp:List (Nat × TV):=[(2,(vP 70 0)),(3,(vP 71 0)),(4,(vP 72 0)),(iV p),(9,(vP 78 0)),(10,(vP 83 0)),uz,rF,pR,(Ah p),(Ag p),(68,(vI u1))]
abbrev Kj:Nat × Option Ob:=(70,some (abm p))
abbrev U4:List CV:=[(.own 0 false s_.closed.length),(.own 1 false s_.locked.length),(.own 2 false s_.badLink.length),(.own 3 false s_.on_.length),(.own 4 false s_.badSource.length),(.own 5 false s_.earthed.length),(.own 6 false s_.badBus.length)]
abbrev xW:Nat × Option Ob:=(71,some (.cells 29 (U4 s_)))
abbrev ji:Nat × Option Ob:=(72,some (.cells 80 [(.d nS),(.d nS),(.d nS)]))
abbrev Qa:Nat × Option Ob:=(77,some (.rows 35 1 n1.length (xQ sM n1) none))
abbrev Sz:Nat × Option Ob:=(78,some (.cells 151 [(.own 79 false n0.length),(.own 77 true n1.length)]))
abbrev J6:Nat × Option Ob:=(79,some (bZ 157 2 bg.cell n0))
abbrev Wi:Nat × Option Ob:=(80,some (aap p))
abbrev Nb:Nat × Option Ob:=(81,some (aay p))
abbrev Ky:Nat × Option Ob:=(82,some (ZX p))
abbrev V4:Nat × Option Ob:=(83,some (.cells 80 [(.own 80 true (abD p)),(.own 81 true (TA p)),(.own 82 true (Nj p))]))
abbrev BP:Nat × Option Ob:=(84,some (TK u0))
abbrev Xi:Nat × Option Ob:=(85,some Tq)
abbrev L6:Nat × Option Ob:=(86,some abR)
abbrev TU:List (Nat × Option Ob):=[(fQ s_),(fV s_),(fJ s_),(fK s_),(fH s_),(fU s_),(fG s_),(Kj p),(xW s_),ji,(Qa n1),(Sz n1 n0),(J6 n0),(Wi p),(Nb p),(Ky p),(V4 p),(BP u0),Xi,L6]
end
def wB (p:ah) (s_:State):((List bg) × (List (List Int)) × (List (Int × Int)) × Int)→St:=
  fun zz=>match zz with|(n0,n1,u0,u1)=> ⟨(afp p u1),(TU p s_ n1 n0 u0)⟩
section
variable (p:ah) (p1:(List Source)) (x0:(List Int)) (s_:State) (u0:(List (List Int))) (u1:(List bg)) (u2:(List (Int × Int)))
abbrev Vi:List (Nat × TV):=[(2,(vP 70 0)),(3,(vP 71 0)),(4,(vP 72 0)),(iV p),(9,(vP 78 0)),(10,(vP 83 0)),uz,rF,pR]
abbrev Y0:Nat × Option Ob:=(70,some (ack p p1))
abbrev mY:Nat × Option Ob:=(80,some (Fw x0))
abbrev Yq:Nat × Option Ob:=(83,some (.cells 80 [(.own 80 true x0.length),(.own 81 true (TA p)),(.own 82 true (Nj p))]))
abbrev ae1:List (Nat × Option Ob):=[(fQ s_),(fV s_),(fJ s_),(fK s_),(fH s_),(fU s_),(fG s_),(Y0 p p1),(xW s_),ji,(Qa u0),(Sz u0 u1),(J6 u1),(mY x0),(Nb p),(Ky p),(Yq p x0),(BP u2),Xi,L6]
end
def wK (p:ah) (s_:State):((List Source) × (List bg) × (List (List Int)) × (List Int) × (List (Int × Int)))→St:=
  fun zz=>match zz with|(p1,u1,u0,x0,u2)=> ⟨(Vi p),(ae1 p p1 x0 s_ u0 u1 u2)⟩
def CK (p:ah) (s_:State):(aM ((List bg) × (List (List Int)) × (List (Int × Int)) × Int) (Ex ((List Source) × (List bg) × (List (List Int)) × (List Int) × (List (Int × Int))) (aA × (List Bool) × Int)))→Exit→St→Prop:=
  LQ 0 [] (wB p s_) (wK p s_) (fT s_)
section
variable (p:ah) (u4:Int) (u3:(List (Int × Int))) (s_:State) (p1:(List Source)) (u0:(List (List Int))) (u1:(List bg)) (x0:(List Int)) (u2:(List (Int × Int)))
abbrev ac8:List (Nat × TV):=[(2,(vP 70 0)),(3,(vP 71 0)),(4,(vP 72 0)),(iV p),(9,(vP 78 0)),(10,(vP 83 0)),uz,rF,pR,(Ap p),(Af p),(90,(vI u4))]
abbrev BS:Nat × Option Ob:=(85,some (TK u3))
abbrev TR:List (Nat × Option Ob):=[(fQ s_),(fV s_),(fJ s_),(fK s_),(fH s_),(fU s_),(fG s_),(Y0 p p1),(xW s_),ji,(Qa u0),(Sz u0 u1),(J6 u1),(mY x0),(Nb p),(Ky p),(Yq p x0),(BP u2),(BS u3),L6]
end
def wQ (p:ah) (s_:State) (p1:(List Source)) (x0:(List Int)) (u2:(List (Int × Int))):((List bg) × (List (List Int)) × (List (Int × Int)) × Int)→St:=
  fun zz=>match zz with|(u1,u0,u3,u4)=> ⟨(ac8 p u4),(TR p u3 s_ p1 u0 u1 x0 u2)⟩
section
variable (x1:(List Int)) (s_:State) (p:ah) (p1:(List Source)) (p2:(List Link)) (u0:(List (List Int))) (u1:(List bg)) (x0:(List Int)) (u2:(List (Int × Int))) (u3:(List (Int × Int)))
abbrev pO:Nat × Option Ob:=(81,some (Fw x1))
abbrev acP:List (Nat × Option Ob):=[(fQ s_),(fV s_),(fJ s_),(fK s_),(fH s_),(fU s_),(fG s_),(70,some (aev p p1 p2)),(xW s_),ji,(Qa u0),(Sz u0 u1),(J6 u1),(mY x0),(pO x1),(Ky p),(83,some (.cells 80 [(.own 80 true x0.length),(.own 81 true x1.length),(.own 82 true (Nj p))])),(BP u2),(BS u3),L6]
end
def wm (p:ah) (s_:State) (p1:(List Source)) (x0:(List Int)) (u2:(List (Int × Int))):((List Link) × (List bg) × (List (List Int)) × (List Int) × (List (Int × Int)))→St:=
  fun zz=>match zz with|(p2,u1,u0,x1,u3)=> ⟨(Vi p),(acP x1 s_ p p1 p2 u0 u1 x0 u2 u3)⟩
def CX (p:ah) (s_:State) (p1:(List Source)) (x0:(List Int)) (u0:(List (Int × Int))):(aM ((List bg) × (List (List Int)) × (List (Int × Int)) × Int) (Ex ((List Link) × (List bg) × (List (List Int)) × (List Int) × (List (Int × Int))) (aA × (List Bool) × Int)))→Exit→St→Prop:=
  LQ 2 [] (wQ p s_ p1 x0 u0) (wm p s_ p1 x0 u0) (fT s_)
section
variable (u4:Int) (u6:(List aD)) (u7:Int) (u8:Int) (p:ah) (p1:(List Source)) (p2:(List Link)) (p3:(List aD)) (x2:(List af)) (x0:(List Int)) (x1:(List Int)) (u5:(List (af × Int))) (s_:State) (u0:(List (List Int))) (u1:(List bg)) (u2:(List (Int × Int))) (u3:(List (Int × Int)))
abbrev afl:List (Nat × TV):=[(2,(vP 70 0)),(3,(vP 71 0)),(4,(vP 72 0)),(8,(vI u4)),(9,(vP 78 0)),(10,(vP 83 0)),uz,rF,pR,(qI u6),(116,(vI u7)),(117,(vI u8))]
abbrev oO:Nat × Option Ob:=(70,some (acs p p1 p2 p3))
abbrev qJ:Nat × Option Ob:=(82,some (WW x2))
abbrev r9:Nat × Option Ob:=(83,some (.cells 80 [(.own 80 true x0.length),(.own 81 true x1.length),(.own 82 true x2.length)]))
abbrev Dy:Nat × Option Ob:=(86,some (aaY u5))
abbrev Yk:List (Nat × Option Ob):=[(fQ s_),(fV s_),(fJ s_),(fK s_),(fH s_),(fU s_),(fG s_),(oO p p1 p2 p3),(xW s_),ji,(Qa u0),(Sz u0 u1),(J6 u1),(mY x0),(pO x1),(qJ x2),(r9 x2 x0 x1),(BP u2),(BS u3),(Dy u5)]
end
def vZ (p:ah) (s_:State) (p1:(List Source)) (x0:(List Int)) (u2:(List (Int × Int))) (p2:(List Link)) (x1:(List Int)) (u3:(List (Int × Int))):((List aD) × Int × (List bg) × (List (List Int)) × (List af) × (List (af × Int)) × (List aD) × Int × Int)→St:=
  fun zz=>match zz with|(p3,u4,u1,u0,x2,u5,u6,u7,u8)=> ⟨(afl u4 u6 u7 u8),(Yk p p1 p2 p3 x2 x0 x1 u5 s_ u0 u1 u2 u3)⟩
section
variable (u6:Int) (s_:State) (p:ah) (p1:(List Source)) (p2:(List Link)) (u5:(List aD)) (u0:(List (List Int))) (u1:(List bg)) (x0:(List Int)) (x1:(List Int)) (u2:(List af)) (u3:(List (Int × Int))) (u4:(List (Int × Int))) (u7:(List (af × Int)))
abbrev abI:List (Nat × TV):=[(2,(vP 70 0)),(4,(vP 72 0)),(8,(vI u6)),(9,(vP 78 0)),(10,(vP 83 0)),uz,rF,pR]
abbrev ae6:St:=⟨(abI u6),[(fQ s_),(fV s_),(fJ s_),(fK s_),(fH s_),(fU s_),(fG s_),(oO p p1 p2 u5),ji,(Qa u0),(Sz u0 u1),(J6 u1),(mY x0),(pO x1),(qJ u2),(r9 u2 x0 x1),(BP u3),(BS u4),(Dy u7)]⟩
end
def wJ (p:ah) (s_:State) (p1:(List Source)) (x0:(List Int)) (u3:(List (Int × Int))) (p2:(List Link)) (x1:(List Int)) (u4:(List (Int × Int))):((List aD) × Int × (List bg) × (List (List Int)) × (List af) × (List (af × Int)))→St:=
  fun zz=>match zz with|(u5,u6,u1,u0,u2,u7)=>(ae6 u6 s_ p p1 p2 u5 u0 u1 x0 x1 u2 u3 u4 u7)
def qg (p:ah) (s_:State) (p1:(List Source)) (x0:(List Int)) (u0:(List (Int × Int))) (p2:(List Link)) (x1:(List Int)) (u1:(List (Int × Int))):(aM ((List aD) × Int × (List bg) × (List (List Int)) × (List af) × (List (af × Int)) × (List aD) × Int × Int) (Ex ((List aD) × Int × (List bg) × (List (List Int)) × (List af) × (List (af × Int))) (aA × (List Bool) × Int)))→Exit→St→Prop:=
  LQ 4 [] (vZ p s_ p1 x0 u0 p2 x1 u1) (wJ p s_ p1 x0 u0 p2 x1 u1) (fT s_)
section
variable (u6:Int) (u0:Int) (u1:(List aD)) (u7:Int) (u9:Int) (s_:State) (p:ah) (p1:(List Source)) (p2:(List Link)) (p3:(List aD)) (u2:(List (List Int))) (u3:(List bg)) (x0:(List Int)) (x1:(List Int)) (x2:(List af)) (u4:(List (Int × Int))) (u5:(List (Int × Int))) (u8:(List (af × Int)))
abbrev afW:List (Nat × TV):=[(2,(vP 70 0)),(3,(vP 71 0)),(4,(vP 72 0)),(8,(vI u6)),(9,(vP 78 0)),(10,(vP 83 0)),uz,rF,pR,(18,(vI u0)),(xJ u1 u0),(qI u1),(116,(vI u7)),(117,(vI u0)),(Ae u1 u0),(134,(vI u9))]
abbrev QT:List (Nat × Option Ob):=[(fQ s_),(fV s_),(fJ s_),(fK s_),(fH s_),(fU s_),(fG s_),(oO p p1 p2 p3),(xW s_),ji,(Qa u2),(78,some (.cells 151 [(.own 122 false u3.length),(.own 77 true u2.length)])),(mY x0),(pO x1),(qJ x2),(r9 x2 x0 x1),(BP u4),(BS u5),(Dy u8),(122,some (bZ 157 2 bg.cell u3))]
end
def vM (p:ah) (s_:State) (p1:(List Source)) (x0:(List Int)) (u4:(List (Int × Int))) (p2:(List Link)) (x1:(List Int)) (u5:(List (Int × Int))) (p3:(List aD)) (u6:Int) (x2:(List af)) (u1:(List aD)) (u7:Int) (u0:Int):((List bg) × (List (List Int)) × (List (af × Int)) × Int)→St:=
  fun zz=>match zz with|(u3,u2,u8,u9)=> ⟨(afW u6 u0 u1 u7 u9),(QT s_ p p1 p2 p3 u2 u3 x0 x1 x2 u4 u5 u8)⟩
section
variable (u4:Int) (u5:(List aD)) (u6:Int) (u7:Int) (s_:State) (p:ah) (p1:(List Source)) (p2:(List Link)) (p3:(List aD)) (u0:(List (List Int))) (u1:(List bg)) (x0:(List Int)) (x1:(List Int)) (x2:(List af)) (u2:(List (Int × Int))) (u3:(List (Int × Int))) (u8:(List (af × Int)))
abbrev af0:St:=⟨(afl u4 u5 u6 u7),(QT s_ p p1 p2 p3 u0 u1 x0 x1 x2 u2 u3 u8)⟩
end
def vW (p:ah) (s_:State) (p1:(List Source)) (x0:(List Int)) (u2:(List (Int × Int))) (p2:(List Link)) (x1:(List Int)) (u3:(List (Int × Int))) (p3:(List aD)) (u4:Int) (x2:(List af)) (u5:(List aD)) (u6:Int) (u7:Int):((List bg) × (List (List Int)) × (List (af × Int)))→St:=
  fun zz=>match zz with|(u1,u0,u8)=>(af0 u4 u5 u6 u7 s_ p p1 p2 p3 u0 u1 x0 x1 x2 u2 u3 u8)
def Da (p:ah) (s_:State) (p1:(List Source)) (x0:(List Int)) (u0:(List (Int × Int))) (p2:(List Link)) (x1:(List Int)) (u1:(List (Int × Int))) (p3:(List aD)) (u2:Int) (x2:(List af)) (u3:(List aD)) (u4:Int) (u5:Int):(aM ((List bg) × (List (List Int)) × (List (af × Int)) × Int) (Ex ((List bg) × (List (List Int)) × (List (af × Int))) (aM ((List aD) × Int × (List bg) × (List (List Int)) × (List af) × (List (af × Int)) × (List aD) × Int × Int) (Ex ((List aD) × Int × (List bg) × (List (List Int)) × (List af) × (List (af × Int))) (aA × (List Bool) × Int)))))→Exit→St→Prop:=
  LQ 6 [5] (vM p s_ p1 x0 u0 p2 x1 u1 p3 u2 x2 u3 u4 u5) (vW p s_ p1 x0 u0 p2 x1 u1 p3 u2 x2 u3 u4 u5) (qg p s_ p1 x0 u0 p2 x1 u1)
section
variable (u0:Network) (s_:State) (p:ah) (p1:(List Source)) (p2:(List Link)) (u4:(List aD)) (u2:(List Int)) (x1:(List Int)) (u1:(List af)) (u3:(List (Int × Int))) (u5:(List (af × Int)))
abbrev aah:List (Nat × TV):=[(2,(vP 70 0)),(4,(vP 72 0)),(9,(vP 78 0)),(10,(vP 83 0)),rF,pR,(162,(vP 127 0))]
abbrev yL:Nat × Option Ob:=(78,some (.cells 151 [(.own 79 false u0.arcs.length),(.d (Xo u0))]))
abbrev yS:Nat × Option Ob:=(79,some (Zb u0))
abbrev ads:List (Nat × Option Ob):=[(fQ s_),(fV s_),(fJ s_),(fK s_),(fH s_),(fU s_),(fG s_),(oO p p1 p2 u4),ji,(yL u0),(yS u0),(mY u2),(pO x1),(qJ u1),(r9 u1 u2 x1),(BS u3),(Dy u5),(127,none)]
abbrev aes:St:=⟨aah,(ads u0 s_ p p1 p2 u4 u2 x1 u1 u3 u5)⟩
end
def Db (p:ah) (s_:State) (p1:(List Source)) (p2:(List Link)) (x1:(List Int)) (u3:(List (Int × Int))) (u4:(List aD)) (u1:(List af)) (u5:(List (af × Int))) (u0:Network):(List Int)→St:=
  fun u2=>(aes u0 s_ p p1 p2 u4 u2 x1 u1 u3 u5)
section
variable (s_:State) (p:ah) (p1:(List Source)) (p2:(List Link)) (u4:(List aD)) (u0:Network) (u2:(List Int)) (u3:(List Int)) (u1:(List af)) (u5:(List (af × Int)))
abbrev aa7:List (Nat × TV):=[(2,(vP 70 0)),(4,(vP 72 0)),(9,(vP 78 0)),(10,(vP 83 0)),pR,(182,(vP 128 0))]
abbrev adA:List (Nat × Option Ob):=[(fQ s_),(fV s_),(fJ s_),(fK s_),(fH s_),(fU s_),(fG s_),(oO p p1 p2 u4),ji,(yL u0),(yS u0),(mY u2),(pO u3),(qJ u1),(r9 u1 u2 u3),(Dy u5),(128,none)]
abbrev acy:St:=⟨aa7,(adA s_ p p1 p2 u4 u0 u2 u3 u1 u5)⟩
end
def DN (p:ah) (s_:State) (p1:(List Source)) (p2:(List Link)) (u4:(List aD)) (u1:(List af)) (u5:(List (af × Int))) (u0:Network) (u2:(List Int)):(List Int)→St:=
  fun u3=>(acy s_ p p1 p2 u4 u0 u2 u3 u1 u5)
section
variable (s_:State) (p:ah) (p1:(List Source)) (p2:(List Link)) (u4:(List aD)) (u0:Network) (u1:(List Int)) (u2:(List Int)) (u3:(List af))
abbrev Wj:List (Nat × TV):=[(2,(vP 70 0)),(4,(vP 72 0)),(9,(vP 78 0)),(10,(vP 83 0)),(208,(vP 129 0))]
abbrev adY:St:=⟨Wj,[(fQ s_),(fV s_),(fJ s_),(fK s_),(fH s_),(fU s_),(fG s_),(oO p p1 p2 u4),ji,(yL u0),(yS u0),(mY u1),(pO u2),(qJ u3),(r9 u3 u1 u2),(129,none)]⟩
end
def Dn (p:ah) (s_:State) (p1:(List Source)) (p2:(List Link)) (u4:(List aD)) (u0:Network) (u1:(List Int)) (u2:(List Int)):(List af)→St:=
  fun u3=>(adY s_ p p1 p2 u4 u0 u1 u2 u3)
section
variable (p:ah) (s_:State) (r_:Int) (v4:(Int × Network)) (u9:Int) (v9:(List (Int × Int))) (p1:(List Source)) (v5:(Int × Network)) (x0:(List Int)) (u4:(List (Int × Int))) (u7:Int) (w0:(List (Int × Int))) (v7:Int) (u0:Int) (u2:(List aD)) (w1:Int) (x5:(Int × Network)) (p2:(List Link)) (p3:(List aD)) (x1:(List Int)) (x2:(List af)) (u5:(List (Int × Int))) (ua:(List (af × Int))) (v6:(Int × Network)) (v3:Int) (w9:(List bg)) (x6:(List (List Int))) (u1:Network) (u3:(List (af × Int))) (i2:Nat)
abbrev adP:List SV:=[(.agg (k9 p)),(.agg (U4 s_))]
abbrev MQ:List (Nat × Option Ob):=[(fQ s_),(fV s_),(fJ s_),(fK s_),(fH s_),(fU s_),(fG s_)]
abbrev YI:List (Nat × Option Ob):=[(fQ s_),(fV s_),(fJ s_),(fK s_),(fH s_),(fU s_),(fG s_),(Kj p),(xW s_),ji]
abbrev abP:List (Nat × TV):=[(4,(vP 72 0)),(5,(vO 73 false 0)),(6,(vI r_))]
abbrev abf:Nat × Option Ob:=(73,some (.arr 4 1 0 (au aj ([]:List Bool))))
abbrev aaF:Nat × Option Ob:=(74,some (.arr 3 1 0 (au (aG .i64) ([]:List Int))))
abbrev aeR:List CV:=[(.own 7 false (([]:List Int).length)),(.own 8 false (([]:List Int).length)),(.own 9 false (([]:List af).length))]
abbrev XI:List (Nat × TV):=[(2,(vP 70 0)),(3,(vP 71 0)),(4,(vP 72 0)),(iV p),(9,(vP 78 0))]
abbrev ad4:List CV:=[(.d nS),(.own 77 true (Mh p))]
abbrev afK:Nat × Option Ob:=(78,some (.cells 151 (ad4 p)))
abbrev UX:Nat × Option Ob:=(77,some (.rows 35 1 (yo p).length (aaO p) none))
abbrev aaj:Nat × Option Ob:=(78,some (.cells 151 [(.own 79 false (([]:List bg).length)),(.own 77 true (Mh p))]))
abbrev aaV:Nat × Option Ob:=(79,some (bZ 157 2 bg.cell ([]:List bg)))
abbrev aff:List (Nat × Option Ob):=[(fQ s_),(fV s_),(fJ s_),(fK s_),(fH s_),(fU s_),(fG s_),(Kj p),(xW s_),ji,(UX p),(aaj p),aaV,(Wi p),(Nb p),(Ky p),(V4 p),(84,some Tq),Xi,L6]
abbrev Pb:Nat × Option Ob:=(77,some (.rows 35 1 v4.2.from_.length (xQ sM v4.2.from_) none))
abbrev acB:List (Nat × Option Ob):=[(fQ s_),(fV s_),(fJ s_),(fK s_),(fH s_),(fU s_),(fG s_),(Kj p),(xW s_),ji,(Pb v4),(78,some (.cells 151 [(.own 94 false v4.2.arcs.length),(.own 77 true v4.2.from_.length)])),(Wi p),(Nb p),(Ky p),(V4 p),(84,some (G5 u9 v4 v9)),Xi,L6,(94,some (xU v4))]
abbrev abF:List (Nat × TV):=[(2,(vP 70 0)),(3,(vP 71 0)),(4,(vP 72 0)),(iV p),(9,(vP 78 0)),(10,(vP 83 0)),uz,rF,pR,(Ah p),(Ag p),(68,(vI (k4 u9)))]
abbrev acV:Nat × Option Ob:=(78,some (.cells 151 [(.own 79 false v4.2.arcs.length),(.own 77 true v4.2.from_.length)]))
abbrev adM:List (Nat × Option Ob):=[(fQ s_),(fV s_),(fJ s_),(fK s_),(fH s_),(fU s_),(fG s_),(Y0 p p1),(xW s_),ji,(Pb v5),(78,some (.cells 151 [(.own 102 false v5.2.arcs.length),(.own 77 true v5.2.from_.length)])),(mY x0),(Nb p),(Ky p),(Yq p x0),(BP u4),(85,some (G5 u7 v5 w0)),L6,(102,some (xU v5))]
abbrev aac:List (Nat × TV):=[(2,(vP 70 0)),(3,(vP 71 0)),(4,(vP 72 0)),(iV p),(9,(vP 78 0)),(10,(vP 83 0)),uz,rF,pR,(Ap p),(Af p),(90,(vI (k4 u7)))]
abbrev afy:List (Nat × TV):=[(2,(vP 70 0)),(3,(vP 71 0)),(4,(vP 72 0)),(8,(vI v7)),(9,(vP 78 0)),(10,(vP 83 0)),uz,rF,pR,(18,(vI u0)),(xJ u2 u0),(qI u2),(116,(vI w1)),(117,(vI u0))]
abbrev agc:Nat × Option Ob:=(78,some (.cells 151 [(.own 122 false x5.2.arcs.length),(.own 77 true x5.2.from_.length)]))
abbrev acQ:List (Nat × Option Ob):=[(fQ s_),(fV s_),(fJ s_),(fK s_),(fH s_),(fU s_),(fG s_),(oO p p1 p2 p3),(xW s_),ji,(Pb x5),(agc x5),(mY x0),(pO x1),(qJ x2),(r9 x2 x0 x1),(BP u4),(BS u5),(Dy ua),(122,some (xU x5))]
abbrev aeA:Nat × Option Ob:=(78,some (.cells 151 [(.own 126 false v6.2.arcs.length),(.own 77 true v6.2.from_.length)]))
abbrev aaQ:List (Nat × TV):=[(2,(vP 70 0)),(3,(vP 71 0)),(4,(vP 72 0)),(8,(vI v7)),(9,(vP 78 0)),(10,(vP 83 0)),uz,rF,pR,(18,(vI u0)),(xJ u2 u0),(qI u2),(116,(vI w1)),(117,(vI u0)),(Ae u2 u0),(134,(vI (k4 v3)))]
abbrev ad5:List (Nat × TV):=[(2,(vP 70 0)),(3,(vP 71 0)),(4,(vP 72 0)),(8,(vI v7)),(9,(vP 78 0)),(10,(vP 83 0)),uz,rF,pR,(qI u2),(116,(vI w1)),(117,(vI (k4 u0)))]
abbrev acv:Nat × Option Ob:=(78,some (.cells 151 [(.own 79 false w9.length),(.d (bM (some true) 1 (UO 1 (aG .i64)) x6))]))
abbrev adL:List (Nat × Option Ob):=[(acv w9 x6),(J6 w9)]
abbrev ac0:List (Nat × Option Ob):=[(yL u1),(yS u1)]
abbrev Z4:List (Nat × TV):=[(2,(vP 70 0)),(4,(vP 72 0)),(9,(vP 78 0)),(10,(vP 83 0)),(26,(vP 132 0)),(27,(vI (at' (u3.map Prod.snd) i2))),(208,(vP 129 0))]
abbrev UW:Nat × Option Ob:=(133,some (ZT p))
abbrev WY:Nat × Option Ob:=(134,some (.cells 27 [(.own 133 true (UZ p))]))
abbrev afN:List (Nat × TV):=[(2,(vP 70 0)),(4,(vP 72 0)),(10,(vP 83 0)),(28,(vP 134 0)),(235,(.v (.one (.fn 103 0 1 (Mv [(.ptr 135 0)])))))]
abbrev ad6:List (Nat × TV):=[(2,(vP 70 0)),(4,(vP 72 0)),(10,(vP 83 0)),(28,(vP 134 0)),(aaS u1)]
end
theorem CS (p:ah) (s_:State) {r:(aA × (List Bool) × Int)} (h:bN p s_=some r):Fn Tryz.prog 27 (adP p s_) (MQ s_) (.iP [(.agg [(.own 7 false r.1.sources.length),(.own 8 false r.1.links.length),(.own 9 false r.1.racks.length)]),(.one (.own 10 false r.2.1.length)),(sI r.2.2)]) [(fQ s_),(fV s_),(fJ s_),(fK s_),(fH s_),(fU s_),(fG s_),(7,some (bZ 3 1 (aG .i64) r.1.sources)),(8,some (bZ 3 1 (aG .i64) r.1.links)),(9,some (bZ 69 2 af.cell r.1.racks)),(10,some (bZ 4 1 aj r.2.1)),(11,none)]:=by
 refine fN tT Tryz.func27 rfl rfl fun B=> ?_
 show jE _ _ _ _ _ _ ((fT s_) r) _
 unfold bN at h
 refine sz tT ⟨[(2,(vP 70 0)),(3,(vP 71 0)),(4,(vP 72 0))],(YI p s_)⟩ {fr:=[(0,70),(1,71),(2,72)] } [] ?_
 refine aQ (aQ (bE h fun r_ hr_ h=> ?_))
 refine rg tT ⟨[(2,(vP 70 0)),(3,(vP 71 0)),(4,(vP 72 0)),(7,(vI r_))],(YI p s_)⟩ [Fn Tryz.prog 35 (adP p s_) (MQ s_) (vI r_) (MQ s_)] {an:=[(2, .callR [0,1,2,3,4,5,6] (vI r_))] } [] ⟨(Fn.Ep (frz:=[0,1,2,3,4,5,6]) (p:=[s_.closed.length=s_.closed.length,s_.locked.length=s_.locked.length,s_.badLink.length=s_.badLink.length,s_.on_.length=s_.on_.length,s_.badSource.length=s_.badSource.length,s_.earthed.length=s_.earthed.length,s_.badBus.length=s_.badBus.length]) (eT p s_ hr_) (by kernel_rfl) ⟨rfl,rfl,rfl,rfl,rfl,rfl,rfl,trivial⟩ rfl),trivial⟩ ?_
 refine sz tT ⟨[(2,(vP 70 0)),(3,(vP 71 0)),(4,(vP 72 0)),(7,(vI r_)),(34,(vB (!decide (r_=0))))],(YI p s_)⟩ {} [] ?_
 refine bI h (fun hb9 h=> ?_) (fun hb9 h=> ?_)
 ·refine ct hb9 ?_
  refine sz tT ⟨[(4,(vP 72 0)),(5,(vD nS)),(6,(vI r_))],[(fQ s_),(fV s_),(fJ s_),(fK s_),(fH s_),(fU s_),(fG s_),ji]⟩ {} [] ?_
  refine aI (.trans (d9.WH (t:=5) (b:=73) (esz0:=0) (el0:=fun _ _=> .nilp) (E:=4) (esz:=1) (el:=au aj ([]:List Bool)) (by kernel_rfl) (by kernel_rfl)) (.trans (d9.xY (E:=0) (esz:=0) (E0:=80) (cs:=[(.d nS),(.d nS),(.d nS)]) (p:=72) (q:=0) (b:=74) (esz0:=0) (el0:=fun _ _=> .nilp) (ob:= .arr 3 1 0 (au (aG .i64) ([]:List Int))) (fun _ _ _ _ h=> .inl ⟨h,rfl⟩) (by kernel_rfl) (by kernel_rfl) (by kernel_rfl)) (.trans (fz ⟨(abP r_),[(fQ s_),(fV s_),(fJ s_),(fK s_),(fH s_),(fU s_),(fG s_),(72,some (.cells 80 [(.own 74 false 0),(.d nS),(.d nS)])),abf,aaF]⟩ []) (.trans (d9.xY (E:=0) (esz:=0) (E0:=80) (cs:=[(.own 74 false 0),(.d nS),(.d nS)]) (p:=72) (q:=1) (b:=75) (esz0:=0) (el0:=fun _ _=> .nilp) (ob:= .arr 3 1 0 (au (aG .i64) ([]:List Int))) (fun _ _ _ _ h=> .inl ⟨h,rfl⟩) (by kernel_rfl) (by kernel_rfl) (by kernel_rfl)) (.trans (fz ⟨(abP r_),[(fQ s_),(fV s_),(fJ s_),(fK s_),(fH s_),(fU s_),(fG s_),(72,some (.cells 80 [(.own 74 false 0),(.own 75 false 0),(.d nS)])),abf,aaF,(75,some (.arr 3 1 0 (au (aG .i64) ([]:List Int))))]⟩ []) (.trans (d9.xY (E:=0) (esz:=0) (E0:=80) (cs:=[(.own 74 false 0),(.own 75 false 0),(.d nS)]) (p:=72) (q:=2) (b:=76) (esz0:=0) (el0:=fun _ _=> .nilp) (ob:= .arr 69 2 0 (au af.cell ([]:List af))) (fun _ _ _ _ h=> .inl ⟨h,rfl⟩) (by kernel_rfl) (by kernel_rfl) (by kernel_rfl)) (.trans (fz ⟨(abP r_),[(fQ s_),(fV s_),(fJ s_),(fK s_),(fH s_),(fU s_),(fG s_),(72,some (.cells 80 [(.own 74 false 0),(.own 75 false 0),(.own 76 false 0)])),abf,aaF,(75,some (.arr 3 1 0 (au (aG .i64) ([]:List Int)))),(76,some (.arr 69 2 0 (au af.cell ([]:List af))))]⟩ []) (.trans (d9.fin (st':=⟨[(4,(vP 11 0)),(5,(vO 10 false 0)),(6,(vI r_))],[(fQ s_),(fV s_),(fJ s_),(fK s_),(fH s_),(fU s_),(fG s_),(7,some (.arr 3 1 0 (au (aG .i64) ([]:List Int)))),(8,some (.arr 3 1 0 (au (aG .i64) ([]:List Int)))),(9,some (.arr 69 2 0 (au af.cell ([]:List af)))),(10,some (.arr 4 1 0 (au aj ([]:List Bool)))),(11,some (.cells 80 [(.own 7 false 0),(.own 8 false 0),(.own 9 false 0)]))]⟩) (cs:=[]) ⟨[],[(0,0),(1,1),(2,2),(3,3),(4,4),(5,5),(6,6),(74,7),(75,8),(76,9),(73,10),(72,11)]⟩ [4,5,6] (by kernel_rfl) trivial) (d9.le (st':=⟨[(4,(vP 11 0)),(5,(vO 10 false (([]:List Bool).length))),(6,(vI r_))],[(fQ s_),(fV s_),(fJ s_),(fK s_),(fH s_),(fU s_),(fG s_),(7,some Yn),(8,some Yn),(9,some (bZ 69 2 af.cell ([]:List af))),(10,some (bZ 4 1 aj ([]:List Bool))),(11,some (.cells 80 aeR))]⟩) ⟨⟨tR,⟨_,rfl,zu.v (uI.one cW)⟩,tR,trivial⟩,(hN 7 ⟨rfl,oW,⟨rfl,oW,⟨rfl,oW,⟨rfl,oW,⟨rfl,bH ⟨cW,cW,cW,trivial⟩,trivial⟩⟩⟩⟩⟩)⟩))))))))) ?_
  refine aR ?_
  obtain rfl:=oi h
  exact rh [(.agg aeR),(.one (.own 10 false (([]:List Bool).length))),(sI r_)] (.refl _) (hN 11 ⟨rfl,trivial,trivial⟩)
 ·refine cf hb9 ?_
  refine aP (sz tT ⟨[(2,(vP 70 0)),(3,(vP 71 0)),(4,(vP 72 0)),(iV p)],(YI p s_)⟩ {} [] ?_)
  refine aQ (aO h fun⟨a1,a2,a3⟩ h=> ?_)
  refine ri tT ⟨(XI p),[(fQ s_),(fV s_),(fJ s_),(fK s_),(fH s_),(fU s_),(fG s_),(Kj p),(xW s_),ji,(77,some (.arr 35 1 (yo p).length (fun _ j=>[nS].getD j .nilp))),(afK p)]⟩ [_,(ZH p)=(Vw p),_,_,(yo p).length=(QG p),aC (QG p) 1 (fun _ j=>[nS].getD j .nilp) (fun _ j=>[nS].getD j .nilp)] {an:=[(2, .arr (yo p).length (fun _ j=>[nS].getD j .nilp))],fr:=[(2,77),(4,78)] } [] ⟨a1,rfl,a2,a3,(List.length_replicate),(fI _ _ _),trivial⟩ (.trans (d9.M7 (b:=77) (E:=35) (esz:=1) (len:=(yo p).length) (el:=(fun _ j=>[nS].getD j .nilp)) (el':=xQ sM (yo p)) (by kernel_rfl) (fun i hi j hj=>match j,hj with|0,_=>Ju _ _ _ _ _ _ _ _)) (.trans (fz ⟨(XI p),[(fQ s_),(fV s_),(fJ s_),(fK s_),(fH s_),(fU s_),(fG s_),(Kj p),(xW s_),ji,(UX p),(afK p)]⟩ []) (.trans (d9.xY (E:=0) (esz:=0) (E0:=151) (cs:=(ad4 p)) (p:=78) (q:=0) (b:=79) (esz0:=0) (el0:=fun _ _=> .nilp) (ob:= .arr 157 2 0 (au bg.cell ([]:List bg))) (fun _ _ _ _ h=> .inl ⟨h,rfl⟩) (by kernel_rfl) (by kernel_rfl) (by kernel_rfl)) (.trans (fz ⟨(XI p),[(fQ s_),(fV s_),(fJ s_),(fK s_),(fH s_),(fU s_),(fG s_),(Kj p),(xW s_),ji,(UX p),(78,some (.cells 151 [(.own 79 false 0),(.own 77 true (Mh p))])),(79,some (.arr 157 2 0 (au bg.cell ([]:List bg))))]⟩ []) (d9.le (st':=⟨(XI p),[(fQ s_),(fV s_),(fJ s_),(fK s_),(fH s_),(fU s_),(fG s_),(Kj p),(xW s_),ji,(UX p),(aaj p),aaV]⟩) ⟨⟨tR,tR,tR,tR,tR,trivial⟩,(hN 11 ⟨rfl,bH ⟨cW,gV.refl _,trivial⟩,⟨rfl,oW,trivial⟩⟩)⟩))))) ?_
  refine aQ (aO h fun⟨a1,a2,a3,a4,a5,a6,a7,a8,a9⟩ h=> ?_)
  refine dg tT mX ⟨[(2,(vP 70 0)),(3,(vP 71 0)),(4,(vP 72 0)),(iV p),(9,(vP 78 0)),(10,(vP 83 0))],[(fQ s_),(fV s_),(fJ s_),(fK s_),(fH s_),(fU s_),(fG s_),(Kj p),(xW s_),ji,(UX p),(aaj p),aaV,(Wi p),(Nb p),(Ky p),(V4 p)]⟩ [_,(QA p)=(p.sources.length:Int),_,_,(Ng p).length=(GN p),aC (GN p) 1 (fun _ j=>[(.int .i64 0)].getD j .nilp) (Tp p),_,(Sk p)=(p.links.length:Int),_,_,(CY p).length=(yP p),aC (yP p) 1 (fun _ j=>[(.int .i64 0)].getD j .nilp) (J9 p),_,((p.racks.length:Int):Int)=(p.racks.length:Int),_,_,(Mc p).length=(QK p),aC (QK p) 2 (fun _ j=>[(.int .i64 0),(.int .i64 0)].getD j .nilp) (Ta p)] {an:=[(3, .arr (Ng p).length (Tp p)),(7, .arr (CY p).length (J9 p)),(11, .arr (Mc p).length (Ta p))],fr:=[(3,80),(7,81),(11,82),(13,83)] } [] ⟨a1,rfl,a2,a3,(List.length_replicate),(aW _ _ _ _ _ (fun j hj=>(match j,hj with|0,_=>rfl))),a4,rfl,a5,a6,(List.length_replicate),(aW _ _ _ _ _ (fun j hj=>(match j,hj with|0,_=>rfl))),a7,rfl,a8,a9,(List.length_replicate),(aW _ _ _ _ _ (fun j hj=>(match j,hj with|0,_=>rfl|1,_=>rfl))),trivial⟩ ?_
  refine sz tT ⟨(Vi p),(aff p s_)⟩ {an:=[(0, .map 0 (yg (aG .i64) ([]:(List (Int × Int)))) (yc (aG .i64) ([]:(List (Int × Int)))) []),(1, .map 0 (yg (aG .i64) ([]:(List (Int × Int)))) (yc (aG .i64) ([]:(List (Int × Int)))) []),(2, .map 0 (yg af.cell ([]:(List (af × Int)))) (yc (aG .i64) ([]:(List (af × Int)))) [])],fr:=[(0,84),(1,85),(2,86)] } [] ?_
  refine aQ (sz tT ⟨[(2,(vP 70 0)),(3,(vP 71 0)),(4,(vP 72 0)),(iV p),(9,(vP 78 0)),(10,(vP 83 0)),uz,rF,pR,(Ah p),(Ag p),(68,(vI 0))],(aff p s_)⟩ {} [] ?_)
  refine bE h fun y hy h=> ?_
  refine aL [] (wB p s_) (wK p s_) (fT s_) hy (fun s f h=> ?_) ?_
  ·clear hy
   show jE _ _ _ _ _ _ ((CK p s_) f) _
   unfold iJ at h
   obtain⟨n0,n1,v9,u9⟩:=s
   refine sz tT ⟨[(2,(vP 70 0)),(3,(vP 71 0)),(4,(vP 72 0)),(iV p),(9,(vP 78 0)),(10,(vP 83 0)),uz,rF,pR,(Ah p),(Ag p),(68,(vI u9)),(69,(vB (decide (u9<(p.sources.length:Int)))))],(TU p s_ n1 n0 v9)⟩ {} [] ?_
   refine aQ ?_
   refine bI h (fun hb1 h=> ?_) (fun hb1 h=> ?_)
   ·refine ct hb1 ?_
    refine aP (aQ (aB (aQ (aO h fun a1 h=> ?_))))
    refine rg tT ⟨[(2,(vP 70 0)),(3,(vP 71 0)),(4,(vP 72 0)),(iV p),(9,(vP 78 0)),(10,(vP 83 0)),uz,rF,pR,(14,(vI u9)),(Tz p u9),(Ah p),(Ag p),(68,(vI u9))],(TU p s_ n1 n0 v9)⟩ [_] {fr:=[(3,93)] } [93] ⟨a1,trivial⟩ ?_
    refine aQ (bE h fun uc hr_1 h=> ?_)
    refine rg tT ⟨[(2,(vP 70 0)),(3,(vP 71 0)),(4,(vP 72 0)),(iV p),(9,(vP 78 0)),(10,(vP 83 0)),uz,rF,pR,(14,(vI u9)),(Tz p u9),(Ah p),(Ag p),(68,(vI u9)),(76,(vB uc))],(TU p s_ n1 n0 v9)⟩ [Fn Tryz.prog 71 [(.agg (k9 p)),(.agg (U4 s_)),(sI u9)] (MQ s_) (vB uc) (MQ s_)] {an:=[(3, .callR [0,1,2,3,4,5,6] (vB uc))] } [] ⟨(Fn.Ep (frz:=[0,1,2,3,4,5,6]) (p:=[s_.closed.length=s_.closed.length,s_.locked.length=s_.locked.length,s_.badLink.length=s_.badLink.length,s_.on_.length=s_.on_.length,s_.badSource.length=s_.badSource.length,s_.earthed.length=s_.earthed.length,s_.badBus.length=s_.badBus.length]) (iK p s_ u9 hr_1) (by kernel_rfl) ⟨rfl,rfl,rfl,rfl,rfl,rfl,rfl,trivial⟩ rfl),trivial⟩ ?_
    refine bI h (fun hb h=> ?_) (fun hb h=> ?_)
    ·refine ct hb ?_
     refine bE h fun v4 hr_2 h=> ?_
     have q0:=rk [(0,78),(1,79),(2,77),(3,94)] (bG 0 (aa5 p u9) (UD p u9) 0 (⟨n0,n1⟩:Network) hr_2)
     refine rg tT ⟨(afp p u9),(acB p s_ v4 u9 v9)⟩ [_,Au [some .i64] 1 1 v9.length (yg (aG .i64) v9) (yc (aG .i64) v9) [(.int .i64 u9)] [(cI v4.1)] [] (gJ J4 u9 v4.1 v9).length (G7 u9 v4 v9) (GZ u9 v4 v9)] {an:=[(8,cA q0 [78,79,77]),(9, .map (gJ J4 u9 v4.1 v9).length (G7 u9 v4 v9) (GZ u9 v4 v9) [])] } [] ⟨q0,(q9 (fun _=>rfl) (fun _ _=>rfl) v9 u9 v4.1 rfl rfl),trivial⟩ ?_
     refine ri tT ⟨(abF p u9),(acB p s_ v4 u9 v9)⟩ [] {} [] trivial (d9.fin (st':=⟨(abF p u9),[(fQ s_),(fV s_),(fJ s_),(fK s_),(fH s_),(fU s_),(fG s_),(Kj p),(xW s_),ji,(Pb v4),(acV v4),(79,some (xU v4)),(Wi p),(Nb p),(Ky p),(V4 p),(84,some (G5 u9 v4 v9)),Xi,L6]⟩) (cs:=[]) ⟨[],[(0,0),(1,1),(2,2),(3,3),(4,4),(5,5),(6,6),(70,70),(71,71),(72,72),(77,77),(78,78),(94,79),(80,80),(81,81),(82,82),(83,83),(84,84),(85,85),(86,86)]⟩ [2,3,4,8,9,10,11,12,13,66,67,68] (by kernel_rfl) trivial) ?_
     obtain rfl:=oi h
     exact lN
    ·refine cf hb ?_
     refine aP (rz tT ⟨(abF p u9),(TU p s_ n1 n0 v9)⟩ {} [] ?_)
     obtain rfl:=oi h
     exact lN
   ·refine cf hb1 ?_
    refine aI (fz ⟨(Vi p),(TU p s_ n1 n0 v9)⟩ []) ?_
    refine aX ?_
    obtain rfl:=oi h
    exact lB
  ·clear hy
   cases y with
   |brk z=>
    obtain⟨p1,ui,ud,x0,u4⟩:=z
    unfold GI
    refine⟨_, .refl, ?_⟩
    refine aQ (sz tT ⟨[(2,(vP 70 0)),(3,(vP 71 0)),(4,(vP 72 0)),(iV p),(9,(vP 78 0)),(10,(vP 83 0)),uz,rF,pR,(Ap p),(Af p),(90,(vI 0))],(ae1 p p1 x0 s_ ud ui u4)⟩ {} [] ?_)
    refine bE h fun y1 hy h=> ?_
    refine aL [] (wQ p s_ p1 x0 u4) (wm p s_ p1 x0 u4) (fT s_) hy (fun s f h=> ?_) ?_
    ·clear hy
     show jE _ _ _ _ _ _ ((CX p s_ p1 x0 u4) f) _
     unfold iI at h
     obtain⟨w7,w3,w0,u7⟩:=s
     refine sz tT ⟨[(2,(vP 70 0)),(3,(vP 71 0)),(4,(vP 72 0)),(iV p),(9,(vP 78 0)),(10,(vP 83 0)),uz,rF,pR,(Ap p),(Af p),(90,(vI u7)),(91,(vB (decide (u7<(p.links.length:Int)))))],(TR p w0 s_ p1 w3 w7 x0 u4)⟩ {} [] ?_
     refine aQ ?_
     refine bI h (fun hb3 h=> ?_) (fun hb3 h=> ?_)
     ·refine ct hb3 ?_
      refine aP (aQ (aB (aQ (aO h fun a1 h=> ?_))))
      refine rg tT ⟨[(2,(vP 70 0)),(3,(vP 71 0)),(4,(vP 72 0)),(iV p),(9,(vP 78 0)),(10,(vP 83 0)),uz,rF,pR,(16,(vI u7)),(Tj p u7),(Ap p),(Af p),(90,(vI u7))],(TR p w0 s_ p1 w3 w7 x0 u4)⟩ [_] {fr:=[(3,101)] } [101] ⟨a1,trivial⟩ ?_
      refine aQ (bE h fun ue hr_3 h=> ?_)
      refine rg tT ⟨[(2,(vP 70 0)),(3,(vP 71 0)),(4,(vP 72 0)),(iV p),(9,(vP 78 0)),(10,(vP 83 0)),uz,rF,pR,(16,(vI u7)),(Tj p u7),(Ap p),(Af p),(90,(vI u7)),(98,(vB ue))],(TR p w0 s_ p1 w3 w7 x0 u4)⟩ [Fn Tryz.prog 73 [(.agg (afQ p p1)),(.agg (U4 s_)),(sI u7)] (MQ s_) (vB ue) (MQ s_)] {an:=[(3, .callR [0,1,2,3,4,5,6] (vB ue))] } [] ⟨(Fn.Ep (frz:=[0,1,2,3,4,5,6]) (p:=[s_.closed.length=s_.closed.length,s_.locked.length=s_.locked.length,s_.badLink.length=s_.badLink.length,s_.on_.length=s_.on_.length,s_.badSource.length=s_.badSource.length,s_.earthed.length=s_.earthed.length,s_.badBus.length=s_.badBus.length]) (fq (⟨p.buses,p1,p.links,p.racks⟩:ah) s_ u7 hr_3) (by kernel_rfl) ⟨rfl,rfl,rfl,rfl,rfl,rfl,rfl,trivial⟩ rfl),trivial⟩ ?_
      refine bI h (fun hb2 h=> ?_) (fun hb2 h=> ?_)
      ·refine ct hb2 ?_
       refine bE h fun v5 hr_4 h=> ?_
       have q0:=rk [(0,78),(1,79),(2,77),(3,102)] (bG (Z0 p u7) (abO p u7) (IW p u7) (IW p u7) (⟨w7,w3⟩:Network) hr_4)
       refine rg tT ⟨(ac8 p u7),(adM p s_ p1 v5 x0 u4 u7 w0)⟩ [_,Au [some .i64] 1 1 w0.length (yg (aG .i64) w0) (yc (aG .i64) w0) [(.int .i64 u7)] [(cI v5.1)] [] (gJ J4 u7 v5.1 w0).length (G7 u7 v5 w0) (GZ u7 v5 w0)] {an:=[(13,cA q0 [78,79,77]),(14, .map (gJ J4 u7 v5.1 w0).length (G7 u7 v5 w0) (GZ u7 v5 w0) [])] } [] ⟨q0,(q9 (fun _=>rfl) (fun _ _=>rfl) w0 u7 v5.1 rfl rfl),trivial⟩ ?_
       refine ri tT ⟨(aac p u7),(adM p s_ p1 v5 x0 u4 u7 w0)⟩ [] {} [] trivial (d9.fin (st':=⟨(aac p u7),[(fQ s_),(fV s_),(fJ s_),(fK s_),(fH s_),(fU s_),(fG s_),(Y0 p p1),(xW s_),ji,(Pb v5),(acV v5),(79,some (xU v5)),(mY x0),(Nb p),(Ky p),(Yq p x0),(BP u4),(85,some (G5 u7 v5 w0)),L6]⟩) (cs:=[]) ⟨[],[(0,0),(1,1),(2,2),(3,3),(4,4),(5,5),(6,6),(70,70),(71,71),(72,72),(77,77),(78,78),(102,79),(80,80),(81,81),(82,82),(83,83),(84,84),(85,85),(86,86)]⟩ [2,3,4,8,9,10,11,12,13,88,89,90] (by kernel_rfl) trivial) ?_
       obtain rfl:=oi h
       exact lN
      ·refine cf hb2 ?_
       refine aP (rz tT ⟨(aac p u7),(TR p w0 s_ p1 w3 w7 x0 u4)⟩ {} [] ?_)
       obtain rfl:=oi h
       exact lN
     ·refine cf hb3 ?_
      refine aI (fz ⟨(Vi p),(TR p w0 s_ p1 w3 w7 x0 u4)⟩ []) ?_
      refine aX ?_
      obtain rfl:=oi h
      exact lB
    ·clear hy
     cases y1 with
     |brk z=>
      obtain⟨p2,uj,uf,x1,u5⟩:=z
      unfold GI
      refine⟨_, .refl, ?_⟩
      refine aQ (sz tT ⟨[(2,(vP 70 0)),(3,(vP 71 0)),(4,(vP 72 0)),(iV p),(9,(vP 78 0)),(10,(vP 83 0)),uz,rF,pR,(115,(vD (bM none 4 aD.cell p.racks))),(116,(vI (p.racks.length:Int))),(117,(vI 0))],(acP x1 s_ p p1 p2 uf uj x0 u4 u5)⟩ {} [] ?_)
      refine bE h fun y3 hy h=> ?_
      refine aL [] (vZ p s_ p1 x0 u4 p2 x1 u5) (wJ p s_ p1 x0 u4 p2 x1 u5) (fT s_) hy (fun s f h=> ?_) ?_
      ·clear hy
       show jE _ _ _ _ _ _ ((qg p s_ p1 x0 u4 p2 x1 u5) f) _
       unfold iO at h
       obtain⟨p3,v7,x7,x4,x2,ua,u2,w1,u0⟩:=s
       refine sz tT ⟨[(2,(vP 70 0)),(3,(vP 71 0)),(4,(vP 72 0)),(8,(vI v7)),(9,(vP 78 0)),(10,(vP 83 0)),uz,rF,pR,(qI u2),(116,(vI w1)),(117,(vI u0)),(118,(vB (decide (u0<w1))))],(Yk p p1 p2 p3 x2 x0 x1 ua s_ x4 x7 u4 u5)⟩ {} [] ?_
       refine aQ ?_
       refine bI h (fun hb6 h=> ?_) (fun hb6 h=> ?_)
       ·refine ct hb6 ?_
        refine aP (aQ (aB (aQ (aO h fun a1 h=> ?_))))
        refine rg tT ⟨(afy v7 u0 u2 w1),(Yk p p1 p2 p3 x2 x0 x1 ua s_ x4 x7 u4 u5)⟩ [_] {fr:=[(3,121)] } [121] ⟨a1,trivial⟩ ?_
        refine aQ (bE h fun x5 hr_5 h=> ?_)
        have q0:=rk [(0,78),(1,79),(2,77),(3,122)] (bG (Ur p u0) v7 (LX u2 u0) 0 (⟨x7,x4⟩:Network) hr_5)
        refine rg tT ⟨(afy v7 u0 u2 w1),(acQ p s_ p1 x0 u4 x5 p2 p3 x1 x2 u5 ua)⟩ [_] {an:=[(9,cA q0 [78,79,77])] } [] ⟨q0,trivial⟩ ?_
        refine sz tT ⟨[(2,(vP 70 0)),(3,(vP 71 0)),(4,(vP 72 0)),(8,(vI v7)),(9,(vP 78 0)),(10,(vP 83 0)),uz,rF,pR,(18,(vI u0)),(xJ u2 u0),(qI u2),(116,(vI w1)),(117,(vI u0)),(Ae u2 u0),(134,(vI 0))],(acQ p s_ p1 x0 u4 x5 p2 p3 x1 x2 u5 ua)⟩ {} [] ?_
        refine bE h fun y2 hy h=> ?_
        refine aL [5] (vM p s_ p1 x0 u4 p2 x1 u5 p3 v7 x2 u2 w1 u0) (vW p s_ p1 x0 u4 p2 x1 u5 p3 v7 x2 u2 w1 u0) (qg p s_ p1 x0 u4 p2 x1 u5) hy (fun s f h=> ?_) ?_
        ·clear hy
         show jE _ _ _ _ _ _ ((Da p s_ p1 x0 u4 p2 x1 u5 p3 v7 x2 u2 w1 u0) f) _
         unfold eY at h
         obtain⟨w8,w4,w2,v3⟩:=s
         refine sz tT ⟨[(2,(vP 70 0)),(3,(vP 71 0)),(4,(vP 72 0)),(8,(vI v7)),(9,(vP 78 0)),(10,(vP 83 0)),uz,rF,pR,(18,(vI u0)),(xJ u2 u0),(qI u2),(116,(vI w1)),(117,(vI u0)),(Ae u2 u0),(134,(vI v3)),(135,(vB (decide (v3<2))))],(QT s_ p p1 p2 p3 w4 w8 x0 x1 x2 u4 u5 w2)⟩ {} [] ?_
         refine aQ ?_
         refine bI h (fun hb5 h=> ?_) (fun hb5 h=> ?_)
         ·refine ct hb5 ?_
          refine aP (aQ (aB (aQ (aO h fun a1 h=> ?_))))
          refine rg tT ⟨[(2,(vP 70 0)),(3,(vP 71 0)),(4,(vP 72 0)),(8,(vI v7)),(9,(vP 78 0)),(10,(vP 83 0)),uz,rF,pR,(18,(vI u0)),(xJ u2 u0),(20,(vI v3)),(Ub u0 u2 v3),(qI u2),(116,(vI w1)),(117,(vI u0)),(Ae u2 u0),(134,(vI v3))],(QT s_ p p1 p2 p3 w4 w8 x0 x1 x2 u4 u5 w2)⟩ [_,v3.toNat*1+1≤(QH u2 u0).length,((QH u2 u0).drop (v3.toNat*1)).take 1=(TQ u0 u2 v3).map .d] {an:=[(1, .vals (TQ u0 u2 v3))] } [] ⟨a1,(Tx (n:=2) (sz:=1) (Nat.le_refl _) a1),(Sj (n:=2) (sz:=1) (g:=fun q=>[(cI (at' [(k28 u2 u0).e0,(k28 u2 u0).e1] q))]) (by intro q hq;match q,hq with|0,_=>rfl|1,_=>rfl) a1),trivial⟩ ?_
          refine aQ (bE h fun ug hr_6 h=> ?_)
          refine rg tT ⟨[(2,(vP 70 0)),(3,(vP 71 0)),(4,(vP 72 0)),(8,(vI v7)),(9,(vP 78 0)),(10,(vP 83 0)),uz,rF,pR,(18,(vI u0)),(xJ u2 u0),(20,(vI v3)),(Ub u0 u2 v3),(qI u2),(116,(vI w1)),(117,(vI u0)),(Ae u2 u0),(134,(vI v3)),(140,(vB ug))],(QT s_ p p1 p2 p3 w4 w8 x0 x1 x2 u4 u5 w2)⟩ [Fn Tryz.prog 74 [(.agg (U4 s_)),(sI (Qi u0 u2 v3))] (MQ s_) (vB ug) (MQ s_)] {an:=[(2, .callR [0,1,2,3,4,5,6] (vB ug))] } [] ⟨(Fn.Ep (frz:=[0,1,2,3,4,5,6]) (p:=[s_.closed.length=s_.closed.length,s_.locked.length=s_.locked.length,s_.badLink.length=s_.badLink.length,s_.on_.length=s_.on_.length,s_.badSource.length=s_.badSource.length,s_.earthed.length=s_.earthed.length,s_.badBus.length=s_.badBus.length]) (jR s_ (Qi u0 u2 v3) hr_6) (by kernel_rfl) ⟨rfl,rfl,rfl,rfl,rfl,rfl,rfl,trivial⟩ rfl),trivial⟩ ?_
          refine bI h (fun hb4 h=> ?_) (fun hb4 h=> ?_)
          ·refine ct hb4 ?_
           refine bE h fun v6 hr_7 h=> ?_
           have q0:=rk [(0,78),(1,122),(2,77),(3,126)] (bG (aaR u0 u2 v3) (Ur p u0) (LX u2 u0) 0 (⟨w8,w4⟩:Network) hr_7)
           refine rg tT ⟨(afW v7 u0 u2 w1 v3),[(fQ s_),(fV s_),(fJ s_),(fK s_),(fH s_),(fU s_),(fG s_),(oO p p1 p2 p3),(xW s_),ji,(Pb v6),(aeA v6),(mY x0),(pO x1),(qJ x2),(r9 x2 x0 x1),(BP u4),(BS u5),(86,some (Ry 69 3 true false 2 1 af.cell (aG .i64) (gJ (fun a b=>(decide (a.e0=b.e0) && (decide (a.e1=b.e1) && true))) (⟨u0,v3⟩:af) v6.1 w2))),(126,some (xU v6))]⟩ [_,Au [some .i64,some .i64] 2 1 w2.length (yg af.cell w2) (yc (aG .i64) w2) (Tw u0 v3) [(cI v6.1)] [] (gJ (fun a b=>(decide (a.e0=b.e0) && (decide (a.e1=b.e1) && true))) (⟨u0,v3⟩:af) v6.1 w2).length (yg af.cell (gJ (fun a b=>(decide (a.e0=b.e0) && (decide (a.e1=b.e1) && true))) (⟨u0,v3⟩:af) v6.1 w2)) (yc (aG .i64) (gJ (fun a b=>(decide (a.e0=b.e0) && (decide (a.e1=b.e1) && true))) (⟨u0,v3⟩:af) v6.1 w2))] {an:=[(14,cA q0 [78,122,77]),(15, .map (gJ (fun a b=>(decide (a.e0=b.e0) && (decide (a.e1=b.e1) && true))) (⟨u0,v3⟩:af) v6.1 w2).length (yg af.cell (gJ (fun a b=>(decide (a.e0=b.e0) && (decide (a.e1=b.e1) && true))) (⟨u0,v3⟩:af) v6.1 w2)) (yc (aG .i64) (gJ (fun a b=>(decide (a.e0=b.e0) && (decide (a.e1=b.e1) && true))) (⟨u0,v3⟩:af) v6.1 w2)) [])] } [] ⟨q0,(q9 (fun _=>rfl) (fun _ _=>rfl) w2 (⟨u0,v3⟩:af) v6.1 rfl rfl),trivial⟩ ?_
           refine ri tT ⟨(aaQ v7 u0 u2 w1 v3),[(fQ s_),(fV s_),(fJ s_),(fK s_),(fH s_),(fU s_),(fG s_),(oO p p1 p2 p3),(xW s_),ji,(Pb v6),(aeA v6),(mY x0),(pO x1),(qJ x2),(r9 x2 x0 x1),(BP u4),(BS u5),(86,some (Ry 69 3 true false 2 1 af.cell (aG .i64) (gJ (fun a b=>(decide (a.e0=b.e0) && (decide (a.e1=b.e1) && true))) (⟨u0,v3⟩:af) v6.1 w2))),(126,some (xU v6))]⟩ [] {} [] trivial (d9.fin (st':=⟨(aaQ v7 u0 u2 w1 v3),[(fQ s_),(fV s_),(fJ s_),(fK s_),(fH s_),(fU s_),(fG s_),(oO p p1 p2 p3),(xW s_),ji,(Pb v6),(agc v6),(mY x0),(pO x1),(qJ x2),(r9 x2 x0 x1),(BP u4),(BS u5),(86,some (Ry 69 3 true false 2 1 af.cell (aG .i64) (gJ (fun a b=>(decide (a.e0=b.e0) && (decide (a.e1=b.e1) && true))) (⟨u0,v3⟩:af) v6.1 w2))),(122,some (xU v6))]⟩) (cs:=[]) ⟨[],[(0,0),(1,1),(2,2),(3,3),(4,4),(5,5),(6,6),(70,70),(71,71),(72,72),(77,77),(78,78),(80,80),(81,81),(82,82),(83,83),(84,84),(85,85),(86,86),(126,122)]⟩ [2,3,4,8,9,10,11,12,13,18,19,115,116,117,133,134] (by kernel_rfl) trivial) ?_
           obtain rfl:=oi h
           exact lN
          ·refine cf hb4 ?_
           refine aP (rz tT ⟨(aaQ v7 u0 u2 w1 v3),(QT s_ p p1 p2 p3 w4 w8 x0 x1 x2 u4 u5 w2)⟩ {} [] ?_)
           obtain rfl:=oi h
           exact lN
         ·refine cf hb5 ?_
          refine aI (fz (af0 v7 u2 w1 u0 s_ p p1 p2 p3 w4 w8 x0 x1 x2 u4 u5 w2) []) ?_
          refine aX ?_
          obtain rfl:=oi h
          exact lB
        ·clear hy
         cases y2 with
         |brk z=>
          obtain⟨ub,x8,ul⟩:=z
          unfold GI
          refine⟨_, .refl, ?_⟩
          refine ri tT ⟨(ad5 v7 u0 u2 w1),(QT s_ p p1 p2 p3 x8 ub x0 x1 x2 u4 u5 ul)⟩ [] {} [] trivial (d9.fin (st':=⟨(ad5 v7 u0 u2 w1),(Yk p p1 p2 p3 x2 x0 x1 ul s_ x8 ub u4 u5)⟩) (cs:=[]) ⟨[],[(0,0),(1,1),(2,2),(3,3),(4,4),(5,5),(6,6),(70,70),(71,71),(72,72),(77,77),(78,78),(122,79),(80,80),(81,81),(82,82),(83,83),(84,84),(85,85),(86,86)]⟩ [2,3,4,8,9,10,11,12,13,115,116,117] (by kernel_rfl) trivial) ?_
          obtain rfl:=oi h
          exact lN
         |ret v=>
          obtain rfl:=oi h
          unfold GI
          intro e st hn ha hR
          cases e with
          |normal=>exact absurd rfl hn
          |exit id=>simp only [Q9 (b:=5) ha rfl,cond_false];exact hR
          |goto l=>exact hR
          |ret=>exact hR
          |panic c=>exact hR
          |outgrown=>exact hR
       ·refine cf hb6 ?_
        refine aI (fz (ae6 v7 s_ p p1 p2 p3 x4 x7 x0 x1 x2 u4 u5 ua) []) ?_
        refine aX ?_
        obtain rfl:=oi h
        exact lB
      ·clear hy
       cases y3 with
       |brk z=>
        obtain⟨v1,x9,w9,x6,v2,u3⟩:=z
        unfold GI
        refine⟨_, .refl, ?_⟩
        refine aQ (aI (.trans (fi ⟨(abI x9),[(fQ s_),(fV s_),(fJ s_),(fK s_),(fH s_),(fU s_),(fG s_),(oO p p1 p2 v1),ji,(78,some (.cells 151 [(.own 79 false w9.length),(.d (.sl (some true) 1 x6.length (fun i j=>evD (xQ sM x6 i j))))])),(J6 w9),(mY x0),(pO x1),(qJ v2),(r9 v2 x0 x1),(BP u4),(BS u5),(Dy u3)]⟩ [x6.length=x6.length] [77] ⟨rfl,trivial⟩) (d9.le (st':=⟨(abI x9),[(fQ s_),(fV s_),(fJ s_),(fK s_),(fH s_),(fU s_),(fG s_),(oO p p1 p2 v1),ji,(acv w9 x6),(J6 w9),(mY x0),(pO x1),(qJ v2),(r9 v2 x0 x1),(BP u4),(BS u5),(Dy u3)]⟩) ⟨⟨tR,tR,tR,tR,tR,tR,tR,tR,trivial⟩,(hN 9 ⟨rfl,bH ⟨gV.refl _,gV.d (jL.sl (.inr rfl) (fun i _ j hj=>match j,hj with|0,_=> .refl _)),trivial⟩,(.refl _)⟩)⟩)) ?_)
        refine bE h fun u1 hr_8 h=> ?_
        refine rg tT ⟨[(2,(vP 70 0)),(4,(vP 72 0)),(9,(vP 78 0)),(10,(vP 83 0)),uz,rF,pR],[(fQ s_),(fV s_),(fJ s_),(fK s_),(fH s_),(fU s_),(fG s_),(oO p p1 p2 v1),ji,(yL u1),(yS u1),(mY x0),(pO x1),(qJ v2),(r9 v2 x0 x1),(BP u4),(BS u5),(Dy u3)]⟩ [Fn Tryz.prog 75 [(.one (.ptr 78 0)),(sI x9)] (adL w9 x6) (.iP []) (ac0 u1)] {an:=[(2, .call [78,79] (.iP []) (ac0 u1))] } [] ⟨(Fn.leH (args:=[(.one (.ptr 78 0)),(sI x9)]) (args':=[(.one (.ptr 78 0)),(sI x9)]) (hin:=[(78,some (.cells 151 [(.own 79 false w9.length),(.d (k91 x6))])),(J6 w9)]) (hin':=(adL w9 x6)) (rK [(0,78),(1,79)] (lu x9 (⟨w9,x6⟩:Network) hr_8)) ⟨uI.refl _,uI.refl _,trivial⟩ ⟨rfl,bH ⟨gV.refl _,gV.d jL.rX,trivial⟩,(.refl _)⟩),trivial⟩ ?_
        refine aQ (bE h fun y4 hy h=> ?_)
        refine ja (Db p s_ p1 p2 x1 u5 v1 v2 u3 u1) (K:=3) (V:=3) (s0:=(x0)) ⟨3,3,false,false,1,1,u4.length,yg (aG .i64) u4,yc (aG .i64) u4,[]⟩ 84 127 (fun i=>(sI (Az u4 i))) (fun i=>(sI (Ez u4 i))) hy [3,4] (by kernel_rfl) (by kernel_rfl) (by kernel_rfl) (fun _ _=> ⟨rfl,rfl⟩) (fun _ _=> ⟨lJ _ _,lJ _ _⟩) (fun _=>(d9.fin (st':=(aes u1 s_ p p1 p2 v1 x0 x1 v2 u5 u3)) (cs:=[]) ⟨[],[(0,0),(1,1),(2,2),(3,3),(4,4),(5,5),(6,6),(70,70),(72,72),(78,78),(79,79),(80,80),(81,81),(82,82),(83,83),(85,85),(86,86),(127,127)]⟩ [2,4,9,10,12,13,162] (by kernel_rfl) trivial)) (fun s=>by obtain⟨w5,rfl⟩: ∃q,q=s:=⟨_,rfl⟩;kernel_rfl) (fun B s i s' hi h=> ?_) ?_
        ·clear hy
         unfold jO at h
         obtain⟨w5,rfl⟩: ∃q,q=s:=⟨_,rfl⟩
         refine Yi tT (⟨[(2,(vP 70 0)),(4,(vP 72 0)),(9,(vP 78 0)),(10,(vP 83 0)),rF,pR,(22,(vI (Az u4 i))),(23,(vI (Ez u4 i))),(162,(vP 127 0))],(ads u1 s_ p p1 p2 v1 w5 x1 v2 u5 u3)⟩) {fin:=⟨[],[(0,0),(1,1),(2,2),(3,3),(4,4),(5,5),(6,6),(70,70),(72,72),(78,78),(79,79),(80,80),(81,81),(82,82),(83,83),(85,85),(86,86),(127,127)]⟩,ts:=[2,4,9,10,12,13,22,23,162] } (cs:=[]) (by kernel_rfl) trivial .refl ?_
         refine aO h fun⟨a1,a2⟩ h=> ?_
         refine di tT mX ⟨aah,[(fQ s_),(fV s_),(fJ s_),(fK s_),(fH s_),(fU s_),(fG s_),(oO p p1 p2 v1),ji,(yL u1),(yS u1),(80,some (.arr 3 1 w5.length (LP u4 u1 i w5))),(pO x1),(qJ v2),(r9 v2 w5 x1),(BS u5),(Dy u3),(127,none)]⟩ [_,_,_,_,aC w5.length 1 (aby u4 u1 i w5) (LP u4 u1 i w5)] {an:=[(13, .arr 0 (LP u4 u1 i w5))] } [] ⟨a1,(tL a1),a2,(tL a2),(aK _ _ _ _ _ _ _ _ rfl (fun j hj=>(match j,hj with|0,_=>rfl))),trivial⟩ (d9.le (st':=⟨aah,[(fQ s_),(fV s_),(fJ s_),(fK s_),(fH s_),(fU s_),(fG s_),(oO p p1 p2 v1),ji,(yL u1),(yS u1),(80,some (abh u4 u1 i w5)),(pO x1),(qJ v2),(83,some (.cells 80 [(.own 80 true (ZI u4 u1 i w5)),(.own 81 true x1.length),(.own 82 true v2.length)])),(BS u5),(Dy u3),(127,none)]⟩) ⟨⟨tR,tR,tR,tR,tR,tR,tR,trivial⟩,(hN 11 ⟨rfl,oW,(hN 2 ⟨rfl,bH ⟨cW,gV.refl _,gV.refl _,trivial⟩,(.refl _)⟩)⟩)⟩) ?_
         obtain rfl:=oi h
         exact⟨.inl rfl,by kernel_rfl⟩
        ·clear hy
         obtain⟨u6,rfl⟩: ∃q,q=y4:=⟨_,rfl⟩
         refine aI (fz ⟨[(2,(vP 70 0)),(4,(vP 72 0)),(9,(vP 78 0)),(10,(vP 83 0)),rF,pR],[(fQ s_),(fV s_),(fJ s_),(fK s_),(fH s_),(fU s_),(fG s_),(oO p p1 p2 v1),ji,(yL u1),(yS u1),(mY u6),(pO x1),(qJ v2),(r9 v2 u6 x1),(BS u5),(Dy u3)]⟩ []) ?_
         refine aQ (bE h fun y5 hy h=> ?_)
         refine ja (DN p s_ p1 p2 v1 v2 u3 u1 u6) (K:=3) (V:=3) (s0:=(x1)) ⟨3,3,false,false,1,1,u5.length,yg (aG .i64) u5,yc (aG .i64) u5,[]⟩ 85 128 (fun i1=>(sI (Az u5 i1))) (fun i1=>(sI (Ez u5 i1))) hy [3,4] (by kernel_rfl) (by kernel_rfl) (by kernel_rfl) (fun _ _=> ⟨rfl,rfl⟩) (fun _ _=> ⟨lJ _ _,lJ _ _⟩) (fun _=>(d9.fin (st':=(acy s_ p p1 p2 v1 u1 u6 x1 v2 u3)) (cs:=[]) ⟨[],[(0,0),(1,1),(2,2),(3,3),(4,4),(5,5),(6,6),(70,70),(72,72),(78,78),(79,79),(80,80),(81,81),(82,82),(83,83),(86,86),(128,128)]⟩ [2,4,9,10,13,182] (by kernel_rfl) trivial)) (fun s=>by obtain⟨w6,rfl⟩: ∃q,q=s:=⟨_,rfl⟩;kernel_rfl) (fun B s i1 s' hi h=> ?_) ?_
         ·clear hy
          unfold jM at h
          obtain⟨w6,rfl⟩: ∃q,q=s:=⟨_,rfl⟩
          refine Yi tT (⟨[(2,(vP 70 0)),(4,(vP 72 0)),(9,(vP 78 0)),(10,(vP 83 0)),pR,(24,(vI (Az u5 i1))),(25,(vI (Ez u5 i1))),(182,(vP 128 0))],(adA s_ p p1 p2 v1 u1 u6 w6 v2 u3)⟩) {fin:=⟨[],[(0,0),(1,1),(2,2),(3,3),(4,4),(5,5),(6,6),(70,70),(72,72),(78,78),(79,79),(80,80),(81,81),(82,82),(83,83),(86,86),(128,128)]⟩,ts:=[2,4,9,10,13,24,25,182] } (cs:=[]) (by kernel_rfl) trivial .refl ?_
          refine aO h fun⟨a1,a2,a3⟩ h=> ?_
          refine di tT mX ⟨aa7,[(fQ s_),(fV s_),(fJ s_),(fK s_),(fH s_),(fU s_),(fG s_),(oO p p1 p2 v1),ji,(yL u1),(yS u1),(mY u6),(81,some (.arr 3 1 w6.length (Me p2 u5 u1 i1 w6))),(qJ v2),(r9 v2 u6 w6),(Dy u3),(128,none)]⟩ [_,_,_,_,_,aC w6.length 1 (abb p2 u5 u1 i1 w6) (Me p2 u5 u1 i1 w6)] {an:=[(19, .arr 0 (Me p2 u5 u1 i1 w6))] } [] ⟨a1,a2,(tL a2),a3,(tL a3),(aK _ _ _ _ _ _ _ _ rfl (fun j hj=>(match j,hj with|0,_=>rfl))),trivial⟩ (d9.le (st':=⟨aa7,[(fQ s_),(fV s_),(fJ s_),(fK s_),(fH s_),(fU s_),(fG s_),(oO p p1 p2 v1),ji,(yL u1),(yS u1),(mY u6),(81,some (aas p2 u5 u1 i1 w6)),(qJ v2),(83,some (.cells 80 [(.own 80 true u6.length),(.own 81 true (abg p2 u5 u1 i1 w6)),(.own 82 true v2.length)])),(Dy u3),(128,none)]⟩) ⟨⟨tR,tR,tR,tR,tR,tR,trivial⟩,(hN 12 ⟨rfl,oW,⟨rfl, .refl _,⟨rfl,bH ⟨gV.refl _,cW,gV.refl _,trivial⟩,⟨rfl, .refl _,⟨rfl, .refl _,trivial⟩⟩⟩⟩⟩)⟩) ?_
          obtain rfl:=oi h
          exact⟨.inl rfl,by kernel_rfl⟩
         ·clear hy
          obtain⟨u8,rfl⟩: ∃q,q=y5:=⟨_,rfl⟩
          refine aI (fz ⟨[(2,(vP 70 0)),(4,(vP 72 0)),(9,(vP 78 0)),(10,(vP 83 0)),pR],[(fQ s_),(fV s_),(fJ s_),(fK s_),(fH s_),(fU s_),(fG s_),(oO p p1 p2 v1),ji,(yL u1),(yS u1),(mY u6),(pO u8),(qJ v2),(r9 v2 u6 u8),(Dy u3)]⟩ []) ?_
          refine aQ (bE h fun y6 hy h=> ?_)
          refine ja (Dn p s_ p1 p2 v1 u1 u6 u8) (K:=69) (V:=3) (s0:=(v2)) ⟨69,3,true,false,2,1,u3.length,yg af.cell u3,yc (aG .i64) u3,[]⟩ 86 129 (fun i2=>(.agg (XF u3 i2))) (fun i2=>(sI (at' (u3.map Prod.snd) i2))) hy [3,4,5] (by kernel_rfl) (by kernel_rfl) (by kernel_rfl) (fun _ _=> ⟨rfl,rfl⟩) (fun _ _=> ⟨ML rfl,lJ _ _⟩) (fun _=>(d9.fin (st':=(adY s_ p p1 p2 v1 u1 u6 u8 v2)) (cs:=[]) ⟨[],[(0,0),(1,1),(2,2),(3,3),(4,4),(5,5),(6,6),(70,70),(72,72),(78,78),(79,79),(80,80),(81,81),(82,82),(83,83),(129,129)]⟩ [2,4,9,10,208] (by kernel_rfl) trivial)) (fun s=>by obtain⟨v0,rfl⟩: ∃q,q=s:=⟨_,rfl⟩;kernel_rfl) (fun B s i2 s' hi h=> ?_) ?_
          ·clear hy
           unfold jP at h
           obtain⟨v0,rfl⟩: ∃q,q=s:=⟨_,rfl⟩
           refine Yi tT (⟨(Z4 u3 i2),[(fQ s_),(fV s_),(fJ s_),(fK s_),(fH s_),(fU s_),(fG s_),(oO p p1 p2 v1),ji,(yL u1),(yS u1),(mY u6),(pO u8),(qJ v0),(r9 v0 u6 u8),(129,none),(132,some (ZU u3 i2))]⟩) {fr:=Xr [(3,132)],fin:=⟨[],[(0,0),(1,1),(2,2),(3,3),(4,4),(5,5),(6,6),(70,70),(72,72),(78,78),(79,79),(80,80),(81,81),(82,82),(83,83),(129,129),(132,132)]⟩,ts:=[2,4,9,10,26,27,208] } (cs:=[]) (by kernel_rfl) trivial .refl ?_
           refine bI h (fun hb7 h=> ?_) (fun _ h=> ?_)
           ·skip
            refine aI (d9.le (st':=⟨(Z4 u3 i2),[(fQ s_),(fV s_),(fJ s_),(fK s_),(fH s_),(fU s_),(fG s_),(oO p p1 p2 v1),ji,(yL u1),(yS u1),(mY u6),(pO u8),(qJ v0),(r9 v0 u6 u8),(129,none),(132,some (aav u3 i2))]⟩) ⟨⟨tR,tR,tR,tR,tR,tR,tR,trivial⟩,(hN 16 ⟨rfl,bH ⟨gV.refl _,gV.of (congrArg (fun n=>CV.d (.int .i64 n)) (of_decide_eq_true hb7)),trivial⟩,trivial⟩)⟩) ?_
            refine aO h fun⟨a1,a2⟩ h=> ?_
            refine di tT mX ⟨Wj,[(fQ s_),(fV s_),(fJ s_),(fK s_),(fH s_),(fU s_),(fG s_),(oO p p1 p2 v1),ji,(yL u1),(yS u1),(mY u6),(pO u8),(82,some (.arr 69 2 v0.length (Nw u1 u3 i2 v0))),(r9 v0 u6 u8),(129,none)]⟩ [(0:Int)≤0∧(0:Int)<(2:Nat),(0:Int)≤1∧(1:Int)<(2:Nat),_,_,_,(0:Int)≤0∧(0:Int)<(2:Nat),_,aC v0.length 2 (aa1 u1 u3 i2 v0) (Nw u1 u3 i2 v0)] {an:=[(17, .arr 0 (Nw u1 u3 i2 v0))] } [] ⟨((by decide)),((by decide)),a1,(tL a1),a2,((by decide)),(tL a2),(aK _ _ _ _ _ _ _ _ rfl (fun j hj=>(match j,hj with|0,_=>rfl|1,_=>rfl))),trivial⟩ (d9.le (st':=⟨Wj,[(fQ s_),(fV s_),(fJ s_),(fK s_),(fH s_),(fU s_),(fG s_),(oO p p1 p2 v1),ji,(yL u1),(yS u1),(mY u6),(pO u8),(82,some (Z8 u1 u3 i2 v0)),(83,some (.cells 80 [(.own 80 true u6.length),(.own 81 true u8.length),(.own 82 true (Zz u1 u3 i2 v0))])),(129,none)]⟩) ⟨⟨tR,tR,tR,tR,tR,trivial⟩,(hN 13 ⟨rfl,oW,⟨rfl,bH ⟨gV.refl _,gV.refl _,cW,trivial⟩,(.refl _)⟩⟩)⟩) ?_
            obtain rfl:=oi h
            exact⟨.inl rfl,by kernel_rfl⟩
           ·skip
            refine aO h fun a1 h=> ?_
            refine aI (d9.le (st':=⟨(Z4 u3 i2),[(fQ s_),(fV s_),(fJ s_),(fK s_),(fH s_),(fU s_),(fG s_),(oO p p1 p2 v1),ji,(yL u1),(yS u1),(mY u6),(pO u8),(qJ v0),(r9 v0 u6 u8),(129,none),(132,some (abr u3 i2))]⟩) ⟨⟨tR,tR,tR,tR,tR,tR,tR,trivial⟩,(hN 16 ⟨rfl,bH ⟨gV.refl _,gV.of (congrArg (fun n=>CV.d (.int .i64 n)) a1),trivial⟩,trivial⟩)⟩) ?_
            refine aO h fun⟨a1,a2⟩ h=> ?_
            refine di tT mX ⟨Wj,[(fQ s_),(fV s_),(fJ s_),(fK s_),(fH s_),(fU s_),(fG s_),(oO p p1 p2 v1),ji,(yL u1),(yS u1),(mY u6),(pO u8),(82,some (.arr 69 2 v0.length (Mr u1 u3 i2 v0))),(r9 v0 u6 u8),(129,none)]⟩ [(0:Int)≤0∧(0:Int)<(2:Nat),(0:Int)≤1∧(1:Int)<(2:Nat),_,_,_,(0:Int)≤1∧(1:Int)<(2:Nat),_,aC v0.length 2 (abS u1 u3 i2 v0) (Mr u1 u3 i2 v0)] {an:=[(17, .arr 0 (Mr u1 u3 i2 v0))] } [] ⟨((by decide)),((by decide)),a1,(tL a1),a2,((by decide)),(tL a2),(aK _ _ _ _ _ _ _ _ rfl (fun j hj=>(match j,hj with|0,_=>rfl|1,_=>rfl))),trivial⟩ (d9.le (st':=⟨Wj,[(fQ s_),(fV s_),(fJ s_),(fK s_),(fH s_),(fU s_),(fG s_),(oO p p1 p2 v1),ji,(yL u1),(yS u1),(mY u6),(pO u8),(82,some (ZE u1 u3 i2 v0)),(83,some (.cells 80 [(.own 80 true u6.length),(.own 81 true u8.length),(.own 82 true (ZP u1 u3 i2 v0))])),(129,none)]⟩) ⟨⟨tR,tR,tR,tR,tR,trivial⟩,(hN 13 ⟨rfl,oW,⟨rfl,bH ⟨gV.refl _,gV.refl _,cW,trivial⟩,(.refl _)⟩⟩)⟩) ?_
            obtain rfl:=oi h
            exact⟨.inl rfl,by kernel_rfl⟩
          ·clear hy
           obtain⟨v8,rfl⟩: ∃q,q=y6:=⟨_,rfl⟩
           refine aI (fz ⟨[(2,(vP 70 0)),(4,(vP 72 0)),(9,(vP 78 0)),(10,(vP 83 0))],[(fQ s_),(fV s_),(fJ s_),(fK s_),(fH s_),(fU s_),(fG s_),(oO p p1 p2 v1),ji,(yL u1),(yS u1),(mY u6),(pO u8),(qJ v8),(r9 v8 u6 u8)]⟩ []) ?_
           refine aQ (aO h fun⟨a1,a2,a3⟩ h=> ?_)
           refine rg tT ⟨[(2,(vP 70 0)),(4,(vP 72 0)),(9,(vP 78 0)),(10,(vP 83 0)),(28,(vP 134 0))],[(fQ s_),(fV s_),(fJ s_),(fK s_),(fH s_),(fU s_),(fG s_),(oO p p1 p2 v1),ji,(yL u1),(yS u1),(mY u6),(pO u8),(qJ v8),(r9 v8 u6 u8),(UW p),(WY p)]⟩ [_,(p.buses:Int)=p.buses,_,_,(rY p).length=p.buses.toNat,aC p.buses.toNat 1 (fun _ j=>[(.bool false)].getD j .nilp) (BR p)] {an:=[(2, .arr (rY p).length (BR p))],fr:=[(2,133),(3,134)] } [] ⟨a1,rfl,a2,a3,(List.length_replicate),(aW _ _ _ _ _ (fun j hj=>(match j,hj with|0,_=>rfl))),trivial⟩ ?_
           refine aQ (aQ (bE h fun um hr_9 h=> ?_))
           have q0:=rk [(0,78),(1,79),(2,135)] (gF u1 hr_9)
           refine ri tT ⟨afN,[(fQ s_),(fV s_),(fJ s_),(fK s_),(fH s_),(fU s_),(fG s_),(oO p p1 p2 v1),ji,(78,some (ZA u1)),(mY u6),(pO u8),(qJ v8),(r9 v8 u6 u8),(UW p),(WY p),(135,some (.cells 147 [(.ptr 78 0)]))]⟩ [_,u1.arcs.length=u1.arcs.length] {an:=[(1,cA q0 [78,79])] } [79] ⟨q0,rfl,trivial⟩ (.trans (fz ⟨afN,[(fQ s_),(fV s_),(fJ s_),(fK s_),(fH s_),(fU s_),(fG s_),(oO p p1 p2 v1),ji,(mY u6),(pO u8),(qJ v8),(r9 v8 u6 u8),(UW p),(WY p),(135,some (ab0 u1))]⟩ [78]) (fz ⟨(ad6 u1),[(fQ s_),(fV s_),(fJ s_),(fK s_),(fH s_),(fU s_),(fG s_),(oO p p1 p2 v1),ji,(mY u6),(pO u8),(qJ v8),(r9 v8 u6 u8),(UW p),(WY p)]⟩ [135])) ?_
           refine aB (bE h fun x3 hr_10 h=> ?_)
           refine wE 136 [(2,(vP 70 0)),(28,(vP 134 0))] [] [136,70,134,133] (.iP []) [(136,some (.loop dF 0 [(2,(vP 70 0)),(28,(vP 134 0))])),(oO p p1 p2 v1),(134,some (.cells 27 [(.own 133 true x3.length)])),(133,some (bZ 4 1 aj x3))] (Yc u1) 103 [] (abM u1) [(136,some (.loop dF 0 [(2,(vP 70 0)),(28,(vP 134 0))])),(oO p p1 p2 v1),(WY p),(UW p)] [(.one (.yl 136)),(sD (WX u1))] dF 0 [(2,(vP 70 0)),(28,(vP 134 0))] (by kernel_rfl) (by kernel_rfl) (by kernel_rfl) (by kernel_rfl) (by kernel_rfl) (by kernel_rfl) (by kernel_rfl) (rK [(0,136),(1,70),(2,134),(3,133)] (gK u1.arcs u1.from_ (⟨p.buses,p1,p2,v1⟩:ah) (rY p) hr_10)) (by kernel_rfl) rfl (Kh.zero rfl) (d9.fin (st':=⟨(ad6 u1),[(fQ s_),(fV s_),(fJ s_),(fK s_),(fH s_),(fU s_),(fG s_),(oO p p1 p2 v1),ji,(mY u6),(pO u8),(qJ v8),(r9 v8 u6 u8),(133,some (bZ 4 1 aj x3)),(134,some (.cells 27 [(.own 133 true x3.length)]))]⟩) (cs:=[]) ⟨[],[(0,0),(1,1),(2,2),(3,3),(4,4),(5,5),(6,6),(70,70),(72,72),(80,80),(81,81),(82,82),(83,83),(133,133),(134,134)]⟩ [2,4,10,28,235] (by kernel_rfl) trivial) ?_
           refine sd tT mX ⟨[(4,(vP 72 0)),(5,(vO 133 true x3.length)),(6,(vI 0))],[(fQ s_),(fV s_),(fJ s_),(fK s_),(fH s_),(fU s_),(fG s_),(72,some (.cells 80 [(.own 80 true u6.length),(.own 81 true u8.length),(.own 82 true v8.length)])),(mY u6),(pO u8),(qJ v8),(133,some (bZ 4 1 aj x3))]⟩ [] {} [] trivial ?_
           refine aI (.trans (d9.fin (st':=⟨[(4,(vP 11 0)),(5,(vO 10 true x3.length)),(6,(vI 0))],[(fQ s_),(fV s_),(fJ s_),(fK s_),(fH s_),(fU s_),(fG s_),(7,some (Fw u6)),(8,some (Fw u8)),(9,some (WW v8)),(10,some (bZ 4 1 aj x3)),(11,some (.cells 80 [(.own 7 true u6.length),(.own 8 true u8.length),(.own 9 true v8.length)]))]⟩) (cs:=[]) ⟨[],[(0,0),(1,1),(2,2),(3,3),(4,4),(5,5),(6,6),(80,7),(81,8),(82,9),(133,10),(72,11)]⟩ [4,5,6] (by kernel_rfl) trivial) (d9.le (st':=⟨[(4,(vP 11 0)),(5,(vO 10 false x3.length)),(6,(vI 0))],[(fQ s_),(fV s_),(fJ s_),(fK s_),(fH s_),(fU s_),(fG s_),(7,some (Fw u6)),(8,some (Fw u8)),(9,some (WW v8)),(10,some (bZ 4 1 aj x3)),(11,some (.cells 80 [(.own 7 false u6.length),(.own 8 false u8.length),(.own 9 false v8.length)]))]⟩) ⟨⟨tR,⟨_,rfl,zu.v (uI.one (cN))⟩,tR,trivial⟩,(hN 11 ⟨rfl,bH ⟨cN,cN,cN,trivial⟩,trivial⟩)⟩)) ?_
           refine aR ?_
           obtain rfl:=oi h
           exact rh [(.agg [(.own 7 false u6.length),(.own 8 false u8.length),(.own 9 false v8.length)]),(.one (.own 10 false x3.length)),(sI 0)] (.refl _) (hN 11 ⟨rfl,trivial,trivial⟩)
       |ret v=>
        obtain rfl:=oi h
        unfold GI
        intro e st hn ha hR
        cases e with
        |normal=>exact absurd rfl hn
        |exit id=>exact hR
        |goto l=>exact hR
        |ret=>exact hR
        |panic c=>exact hR
        |outgrown=>exact hR
     |ret v=>
      obtain rfl:=oi h
      unfold GI
      intro e st hn ha hR
      cases e with
      |normal=>exact absurd rfl hn
      |exit id=>exact hR
      |goto l=>exact hR
      |ret=>exact hR
      |panic c=>exact hR
      |outgrown=>exact hR
   |ret v=>
    obtain rfl:=oi h
    unfold GI
    intro e st hn ha hR
    cases e with
    |normal=>exact absurd rfl hn
    |exit id=>exact hR
    |goto l=>exact hR
    |ret=>exact hR
    |panic c=>exact hR
    |outgrown=>exact hR
end
end Sg
