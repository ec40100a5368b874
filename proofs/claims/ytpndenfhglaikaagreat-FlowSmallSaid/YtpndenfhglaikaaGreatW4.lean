import Derived.Test.YtpndenfhglaikaaGreatW3
set_option linter.all false
namespace Sg
open Go Go.Proofs
set_option maxRecDepth 20000
noncomputable section
theorem Ak (u0:(List Int)):fC Tryz.prog 23 [(.one (.own 0 true u0.length))] (Q6 u0) (fun r=>(.iV [(.agg [(cI r.1.buses),(.own 1 true r.1.sources.length),(.own 2 true r.1.links.length),(.own 3 false r.1.racks.length)]),(.agg [(.own 4 true r.2.closed.length),(.own 5 true r.2.locked.length),(.own 6 true r.2.badLink.length),(.own 7 true r.2.on_.length),(.own 8 true r.2.badSource.length),(.own 9 true r.2.earthed.length),(.own 10 true r.2.badBus.length)])])) (fun r=>[(0,some (Fv u0)),(1,some (bZ 60 5 Source.cell r.1.sources)),(2,some (bZ 66 6 Link.cell r.1.links)),(3,some (bZ 71 4 aC.cell r.1.racks)),(4,some (bZ 4 1 aj r.2.closed)),(5,some (bZ 4 1 aj r.2.locked)),(6,some (bZ 4 1 aj r.2.badLink)),(7,some (bZ 4 1 aj r.2.on_)),(8,some (bZ 4 1 aj r.2.badSource)),(9,some (bZ 4 1 aj r.2.earthed)),(10,some (bZ 4 1 aj r.2.badBus)),(11,none),(12,none)]) (lT u0):=
  gJ tT mX Tryz.func23 (
  .rg {fr:=[(0,21),(1,22)]} []<| .rg {an:=[(2, .arr [(⟨0,1,500,0,20⟩:Source),(⟨2,2,300,0,40⟩:Source)].length (au Source.cell [(⟨0,1,500,0,20⟩:Source),(⟨2,2,300,0,40⟩:Source)])),(5, .arr [(⟨0,1,3,400,10,([]:List gD)⟩:Link),(⟨1,2,3,400,10,([]:List gD)⟩:Link)].length (pz 6 [(.int .i64 0),(.int .i64 1),(.int .i64 3),(.int .i64 400),(.int .i64 10),nS,(.int .i64 1),(.int .i64 2),(.int .i64 3),(.int .i64 400),(.int .i64 10),nS]))],fr:=[(2,23),(5,24),(7,25)]} [.pf ⟨[(⟨0,1,500,0,20⟩:Source),(⟨2,2,300,0,40⟩:Source)].length=2,rfl⟩, .pf ⟨aD 2 5 (pz 5 acG) (au Source.cell [(⟨0,1,500,0,20⟩:Source),(⟨2,2,300,0,40⟩:Source)]),(by intro i hi j hj;match i,j,hi,hj with|0,0,_,_=>rfl|0,1,_,_=>rfl|0,2,_,_=>rfl|0,3,_,_=>rfl|0,4,_,_=>rfl|1,0,_,_=>rfl|1,1,_,_=>rfl|1,2,_,_=>rfl|1,3,_,_=>rfl|1,4,_,_=>rfl)⟩, .pf ⟨[(⟨0,1,3,400,10,([]:List gD)⟩:Link),(⟨1,2,3,400,10,([]:List gD)⟩:Link)].length=2,rfl⟩, .pf ⟨aD 2 6 (pz 6 [(.int .i64 0),(.int .i64 1),(.int .i64 3),(.int .i64 400),(.int .i64 10),nS,(.int .i64 1),(.int .i64 2),(.int .i64 3),(.int .i64 400),(.int .i64 10),nS]) (pz 6 [(.int .i64 0),(.int .i64 1),(.int .i64 3),(.int .i64 400),(.int .i64 10),nS,(.int .i64 1),(.int .i64 2),(.int .i64 3),(.int .i64 400),(.int .i64 10),nS]),gm _ _ _⟩]<| .im (.uh 24 (some (.arr 66 6 [(⟨0,1,3,400,10,([]:List gD)⟩:Link),(⟨1,2,3,400,10,([]:List gD)⟩:Link)].length (pz 6 [(.int .i64 0),(.int .i64 1),(.int .i64 3),(.int .i64 400),(.int .i64 10),nS,(.int .i64 1),(.int .i64 2),(.int .i64 3),(.int .i64 400),(.int .i64 10),nS]))) (some (.arr 66 6 [(⟨0,1,3,400,10,([]:List gD)⟩:Link),(⟨1,2,3,400,10,([]:List gD)⟩:Link)].length (au Link.cell [(⟨0,1,3,400,10,([]:List gD)⟩:Link),(⟨1,2,3,400,10,([]:List gD)⟩:Link)]))) (Hz (by intro i hi j hj;match i,j,hi,hj with|0,0,_,_=>exact .refl _|0,1,_,_=>exact .refl _|0,2,_,_=>exact .refl _|0,3,_,_=>exact .refl _|0,4,_,_=>exact .refl _|0,5,_,_=>exact jK.nil'|1,0,_,_=>exact .refl _|1,1,_,_=>exact .refl _|1,2,_,_=>exact .refl _|1,3,_,_=>exact .refl _|1,4,_,_=>exact .refl _|1,5,_,_=>exact jK.nil')))<| .r<| .im (.QF 25 3 34 71 4 (au aC.cell ([]:List aC)))<| .lp (σ:=((List aC) × Int)) (β:=(List aC)) (([]:List aC),0) [] [(34,27)] ⟨[0,2,3,4],[0,21,22,23,24],fun(p3,i)=>[(5,(vI i))],fun(p3,i)=>(Xv p3)⟩ ⟨[2,3,4],[0,21,22,23,24],fun u1=>[],fun u1=>(Xv u1)⟩
  (fun(p3,i)=> .r<| .it (.r<| .a3 (Ns u0 i) (aeU p3 u0 i) (p3.length+[(JC u0 i)].length≤4611686018427387904)<| .rg {an:=[(7, .arr [(JC u0 i)].length (UI u0 i)),(8, .arr (QX p3 u0 i).length (YJ p3 u0 i))],fr:=[(7,32),(8,33)]} [0, .t 0 i u0.length, .pf ⟨[(JC u0 i)].length=1,rfl⟩, .pf ⟨aD 1 4 (pz 4 [(.int .i64 1),(.int .i64 (-1)),(.int .i64 (at' u0 i.toNat)),(.int .i64 1)]) (UI u0 i),(by intro i hi j hj;match i,j,hi,hj with|0,0,_,_=>rfl|0,1,_,_=>rfl|0,2,_,_=>rfl|0,3,_,_=>rfl)⟩, .e (p3.length),1,2, .pf ⟨(QX p3 u0 i).length=p3.length+[(JC u0 i)].length,List.length_append⟩, .pf ⟨aD (aaB p3 u0 i) 4 (afe p3 u0 i) (YJ p3 u0 i),dw _ _ _ _⟩]<| .r<| .en (.next ((QX p3 u0 i),(k4 i))) [] [(33,27)])
  (.e (.done (.brk p3))))
  (fun u1=> .a6 ((0:Int)≤2) ((1:Int)*2≤281474976710656) ((2:Int)≤9223372036854775807) ((0:Int)≤3) ((1:Int)*3≤281474976710656) ((3:Int)≤9223372036854775807)<| .rg {an:=[(1, .arr [true,true].length (au aj [true,true])),(2, .arr (List.replicate 2 (false:Bool)).length (au aj (List.replicate 2 (false:Bool)))),(3, .arr (List.replicate 2 (false:Bool)).length (au aj (List.replicate 2 (false:Bool)))),(4, .arr [true,true].length (au aj [true,true])),(5, .arr (List.replicate 2 (false:Bool)).length (au aj (List.replicate 2 (false:Bool)))),(6, .arr (List.replicate 3 (false:Bool)).length (au aj (List.replicate 3 (false:Bool)))),(7, .arr (List.replicate 3 (false:Bool)).length (au aj (List.replicate 3 (false:Bool))))],fr:=[(1,35),(2,36),(3,37),(4,38),(5,39),(6,40),(7,41)]} [.pf ⟨[true,true].length=2,rfl⟩, .pf ⟨aD 2 1 (pz 1 [(.bool true),(.bool true)]) (au aj [true,true]),(by intro i hi j hj;match i,j,hi,hj with|0,0,_,_=>rfl|1,0,_,_=>rfl)⟩,0, .e ((2:Int)),1,2, .pf ⟨(List.replicate 2 (false:Bool)).length=2,List.length_replicate⟩, .pf ⟨aD 2 1 (fun _ j=>[(.bool false)].getD j .nilp) (au aj (List.replicate 2 (false:Bool))),aW _ _ _ _ _ (fun j hj=>(match j,hj with|0,_=>rfl))⟩,0, .e ((2:Int)),1,2, .pf ⟨(List.replicate 2 (false:Bool)).length=2,List.length_replicate⟩, .pf ⟨aD 2 1 (fun _ j=>[(.bool false)].getD j .nilp) (au aj (List.replicate 2 (false:Bool))),aW _ _ _ _ _ (fun j hj=>(match j,hj with|0,_=>rfl))⟩, .pf ⟨[true,true].length=2,rfl⟩, .pf ⟨aD 2 1 (pz 1 [(.bool true),(.bool true)]) (au aj [true,true]),(by intro i hi j hj;match i,j,hi,hj with|0,0,_,_=>rfl|1,0,_,_=>rfl)⟩,0, .e ((2:Int)),1,2, .pf ⟨(List.replicate 2 (false:Bool)).length=2,List.length_replicate⟩, .pf ⟨aD 2 1 (fun _ j=>[(.bool false)].getD j .nilp) (au aj (List.replicate 2 (false:Bool))),aW _ _ _ _ _ (fun j hj=>(match j,hj with|0,_=>rfl))⟩,3, .e ((3:Int)),4,5, .pf ⟨(List.replicate 3 (false:Bool)).length=3,List.length_replicate⟩, .pf ⟨aD 3 1 (fun _ j=>[(.bool false)].getD j .nilp) (au aj (List.replicate 3 (false:Bool))),aW _ _ _ _ _ (fun j hj=>(match j,hj with|0,_=>rfl))⟩,3, .e ((3:Int)),4,5, .pf ⟨(List.replicate 3 (false:Bool)).length=3,List.length_replicate⟩, .pf ⟨aD 3 1 (fun _ j=>[(.bool false)].getD j .nilp) (au aj (List.replicate 3 (false:Bool))),aW _ _ _ _ _ (fun j hj=>(match j,hj with|0,_=>rfl))⟩]<| .en (aeD u1) [] [(23,1),(24,2),(27,3),(35,4),(36,5),(37,6),(38,7),(39,8),(40,9),(41,10),(21,11),(22,12)]))
section
variable (p:ah) (s0:(List Bool))
abbrev aeu:List SV:=[(.agg [(cI p.buses),(.own 0 false p.sources.length),(.own 1 false p.links.length),(.own 2 false p.racks.length)])]
abbrev aaR:List (Nat × Option Ob):=[(0,some (bZ 60 5 Source.cell p.sources)),(1,some (bZ 66 6 Link.cell p.links)),(2,some (bZ 71 4 aC.cell p.racks))]
abbrev Nn:=(List.replicate (Hg p) (false:Bool))
abbrev YS:=(au aj (Nn p))
abbrev aeN:List (Nat × Option Ob):=[(22,some (bZ 4 1 aj s0)),(29,some (.cells 29 [(.own 22 true s0.length),(.own 23 true ((DR p).length)),(.own 24 true ((DR p).length)),(.own 25 true ((Nn p).length)),(.own 26 true ((Nn p).length)),(.own 27 true (Wj p)),(.own 28 true (Wj p))]))]
end
theorem Aj (p:ah):fC Tryz.prog 26 (aeu p) (aaR p) (fun r=>(.iV [(.agg [(.own 3 false r.1.closed.length),(.own 4 false r.1.locked.length),(.own 5 false r.1.badLink.length),(.own 6 false r.1.on_.length),(.own 7 false r.1.badSource.length),(.own 8 false r.1.earthed.length),(.own 9 false r.1.badBus.length)]),(sI r.2)])) (fun r=>[(0,some (bZ 60 5 Source.cell p.sources)),(1,some (bZ 66 6 Link.cell p.links)),(2,some (bZ 71 4 aC.cell p.racks)),(3,some (bZ 4 1 aj r.1.closed)),(4,some (bZ 4 1 aj r.1.locked)),(5,some (bZ 4 1 aj r.1.badLink)),(6,some (bZ 4 1 aj r.1.on_)),(7,some (bZ 4 1 aj r.1.badSource)),(8,some (bZ 4 1 aj r.1.earthed)),(9,some (bZ 4 1 aj r.1.badBus)),(10,none)]) (pX p):=
  gJ tT mX Tryz.func26 (
  .rg {fr:=[(0,13),(1,14)]} []<| .cr 1 ⟨fun{r_} hr_=>((Fn.Eo (frz:=[0,1,2]) (p:=[p.sources.length=p.sources.length,p.links.length=p.links.length,p.racks.length=p.racks.length]) (oD p hr_) (by kernel_rfl) ⟨rfl,rfl,rfl,trivial⟩ rfl):Fn Tryz.prog 30 (aeu p) (aaR p) (vI r_) (aaR p))⟩ fun r_=> .r<| .r<| .it (.r<| .im (.QF 14 0 15 4 1 (au aj ([]:List Bool)))<| .im (.QF 14 1 16 4 1 (au aj ([]:List Bool)))<| .im (.QF 14 2 17 4 1 (au aj ([]:List Bool)))<| .im (.QF 14 3 18 4 1 (au aj ([]:List Bool)))<| .im (.QF 14 4 19 4 1 (au aj ([]:List Bool)))<| .im (.QF 14 5 20 4 1 (au aj ([]:List Bool)))<| .im (.QF 14 6 21 4 1 (au aj ([]:List Bool)))<| .en ((⟨([]:List Bool),([]:List Bool),([]:List Bool),([]:List Bool),([]:List Bool),([]:List Bool),([]:List Bool)⟩:State),r_) [] [(15,3),(16,4),(17,5),(18,6),(19,7),(20,8),(21,9),(14,10)])
  (.r<| .as _ inferInstance [(0:Int)≤(p.links.length:Int),(1:Int)*(p.links.length:Int)≤281474976710656,(R6 p)≤9223372036854775807,(0:Int)≤(p.sources.length:Int),(1:Int)*(p.sources.length:Int)≤281474976710656,(PN p)≤9223372036854775807,(0:Int)≤p.buses,(1:Int)*p.buses≤281474976710656,(p.buses:Int)≤9223372036854775807] (fun h=> ⟨h.1,h.2.1,h.2.2.1,h.2.2.2.1,h.2.2.2.2.1,h.2.2.2.2.2.1,h.2.2.2.2.2.2.1,h.2.2.2.2.2.2.2.1,h.2.2.2.2.2.2.2.2,trivial⟩:(((0:Int)≤(p.links.length:Int))∧((1:Int)*(p.links.length:Int)≤281474976710656)∧(XE p)∧((0:Int)≤(p.sources.length:Int))∧((1:Int)*(p.sources.length:Int)≤281474976710656)∧((PN p)≤9223372036854775807)∧((0:Int)≤p.buses)∧(XF p)∧(Uw p))→_)<| .rg {an:=[(1, .arr (DR p).length (OA p)),(3, .arr (DR p).length (OA p)),(5, .arr (DR p).length (OA p)),(7, .arr (Nn p).length (YS p)),(9, .arr (Nn p).length (YS p)),(12, .arr (rX p).length (Ca p)),(15, .arr (rX p).length (Ca p))],fr:=[(1,22),(3,23),(5,24),(7,25),(9,26),(12,27),(15,28),(17,29)]} [0, .e (TM p),1,2, .pf ⟨(DR p).length=(yI p),List.length_replicate⟩, .pf ⟨aD (yI p) 1 (fun _ j=>[(.bool false)].getD j .nilp) (OA p),aW _ _ _ _ _ (fun j hj=>(match j,hj with|0,_=>rfl))⟩,0, .e (TM p),1,2, .pf ⟨(DR p).length=(yI p),List.length_replicate⟩, .pf ⟨aD (yI p) 1 (fun _ j=>[(.bool false)].getD j .nilp) (OA p),aW _ _ _ _ _ (fun j hj=>(match j,hj with|0,_=>rfl))⟩,0, .e (TM p),1,2, .pf ⟨(DR p).length=(yI p),List.length_replicate⟩, .pf ⟨aD (yI p) 1 (fun _ j=>[(.bool false)].getD j .nilp) (OA p),aW _ _ _ _ _ (fun j hj=>(match j,hj with|0,_=>rfl))⟩,3, .e ((PN p)),4,5, .pf ⟨(Nn p).length=(Hg p),List.length_replicate⟩, .pf ⟨aD (Hg p) 1 (fun _ j=>[(.bool false)].getD j .nilp) (YS p),aW _ _ _ _ _ (fun j hj=>(match j,hj with|0,_=>rfl))⟩,3, .e ((PN p)),4,5, .pf ⟨(Nn p).length=(Hg p),List.length_replicate⟩, .pf ⟨aD (Hg p) 1 (fun _ j=>[(.bool false)].getD j .nilp) (YS p),aW _ _ _ _ _ (fun j hj=>(match j,hj with|0,_=>rfl))⟩,6, .e ((p.buses:Int)),7,8, .pf ⟨(rX p).length=p.buses.toNat,List.length_replicate⟩, .pf ⟨aD p.buses.toNat 1 (fun _ j=>[(.bool false)].getD j .nilp) (Ca p),aW _ _ _ _ _ (fun j hj=>(match j,hj with|0,_=>rfl))⟩,6, .e ((p.buses:Int)),7,8, .pf ⟨(rX p).length=p.buses.toNat,List.length_replicate⟩, .pf ⟨aD p.buses.toNat 1 (fun _ j=>[(.bool false)].getD j .nilp) (Ca p),aW _ _ _ _ _ (fun j hj=>(match j,hj with|0,_=>rfl))⟩]<| .r<| .lp (σ:=((List Bool) × Int)) (β:=(List Bool)) ((DR p),0) [] [] ⟨[1,2,5,7],[0,1,2,13,14,23,24,25,26,27,28],fun(s0,i)=>[(8,(vI i))],fun(s0,i)=>(aeN p s0)⟩ ⟨[2,7],[0,1,2,14,23,24,25,26,27,28],fun u0=>[],fun u0=>(aeN p u0)⟩
  (fun(s0,i)=> .r<| .it (.a1 (Qg p i)<| .rg {} [0, .t 0 i p.links.length]<| .it (.a1 (k10 i s0)<| .rg {an:=[(4, .arr 0 (au aj (s0.set i.toNat true)))]} [0, .t 0 i s0.length, .pf ⟨aD s0.length 1 (eX (au aj s0) i.toNat 0 [(.bool true)]) (au aj (s0.set i.toNat true)),aK _ _ _ _ _ _ _ _ rfl (fun j hj=>(match j,hj with|0,_=>rfl))⟩]<| .im (.ll 22 s0 (s0.set i.toNat true))<| .r<| .e (.next ((s0.set i.toNat true),(k4 i))))
  (.r<| .e (.next (s0,(k4 i)))))
  (.e (.done (.brk s0))))
  (fun u0=> .r<| .en ((⟨u0,(DR p),(DR p),(Nn p),(Nn p),(rX p),(rX p)⟩:State),0) [] [(22,3),(23,4),(24,5),(25,6),(26,7),(27,8),(28,9),(14,10)])))
section
variable (s_:State)
abbrev fI:Nat × Option Ob:=(0,some (bZ 4 1 aj s_.closed))
abbrev fH:Nat × Option Ob:=(1,some (bZ 4 1 aj s_.locked))
abbrev fQ:Nat × Option Ob:=(2,some (bZ 4 1 aj s_.badLink))
abbrev fZ:Nat × Option Ob:=(3,some (bZ 4 1 aj s_.on_))
abbrev fK:Nat × Option Ob:=(4,some (bZ 4 1 aj s_.badSource))
abbrev fG:Nat × Option Ob:=(5,some (bZ 4 1 aj s_.earthed))
abbrev fF:Nat × Option Ob:=(6,some (bZ 4 1 aj s_.badBus))
end
def fJ (s_:State):(aA × (List Bool) × Int)→Exit→St→Prop:=
  fun r=>J6 TT [.cell 4 80, .tmp 5, .tmp 6] (.iV [(.agg [(.own 7 false r.1.sources.length),(.own 8 false r.1.links.length),(.own 9 false r.1.racks.length)]),(.one (.own 10 false r.2.1.length)),(sI r.2.2)]) [(fI s_),(fH s_),(fQ s_),(fZ s_),(fK s_),(fG s_),(fF s_),(7,some (bZ 3 1 (aG .i64) r.1.sources)),(8,some (bZ 3 1 (aG .i64) r.1.links)),(9,some (bZ 69 2 af.cell r.1.racks)),(10,some (bZ 4 1 aj r.2.1)),(11,none)]
section
variable (p:ah) (u1:Int) (s_:State) (n1:(List (List Int))) (n0:(List bg)) (u0:(List (Int × Int)))
abbrev uF:Nat × TV:=(11,(.v (.one (.mp 84))))
abbrev qP:Nat × TV:=(12,(.v (.one (.mp 85))))
abbrev pQ:Nat × TV:=(13,(.v (.one (.mp 86))))
abbrev adz:List (Nat × TV):=[(2,(vP 70 0)),(3,(vP 71 0)),(4,(vP 72 0)),(iP p),(9,(vP 78 0)),(10,(vP 83 0)),uF,qP,pQ,(Ab p),(Ao p),(68,(vI u1))]
abbrev JY:Nat × Option Ob:=(70,some (abC p))
abbrev Vf:List CV:=[(.own 0 false s_.closed.length),(.own 1 false s_.locked.length),(.own 2 false s_.badLink.length),(.own 3 false s_.on_.length),(.own 4 false s_.badSource.length),(.own 5 false s_.earthed.length),(.own 6 false s_.badBus.length)]
abbrev xP:Nat × Option Ob:=(71,some (.cells 29 (Vf s_)))
abbrev jl:Nat × Option Ob:=(72,some (.cells 80 [(.d nS),(.d nS),(.d nS)]))
abbrev Qa:Nat × Option Ob:=(77,some (.rows 35 1 n1.length (xN sH n1) none))
abbrev SK:Nat × Option Ob:=(78,some (.cells 151 [(.own 79 false n0.length),(.own 77 true n1.length)]))
abbrev J4:Nat × Option Ob:=(79,some (bZ 157 2 bg.cell n0))
abbrev Wz:Nat × Option Ob:=(80,some (aaY p))
abbrev Me:Nat × Option Ob:=(81,some (aaE p))
abbrev Kq:Nat × Option Ob:=(82,some (Zw p))
abbrev Xb:Nat × Option Ob:=(83,some (.cells 80 [(.own 80 true (Zz p)),(.own 81 true (Uo p)),(.own 82 true (MQ p))]))
abbrev BM:Nat × Option Ob:=(84,some (SB u0))
abbrev Vi:Nat × Option Ob:=(85,some TJ)
abbrev LV:Nat × Option Ob:=(86,some aaC)
abbrev TD:List (Nat × Option Ob):=[(fI s_),(fH s_),(fQ s_),(fZ s_),(fK s_),(fG s_),(fF s_),(JY p),(xP s_),jl,(Qa n1),(SK n1 n0),(J4 n0),(Wz p),(Me p),(Kq p),(Xb p),(BM u0),Vi,LV]
end
def vE (p:ah) (s_:State):((List bg) × (List (List Int)) × (List (Int × Int)) × Int)→St:=
  fun zz=>match zz with|(n0,n1,u0,u1)=> ⟨(adz p u1),(TD p s_ n1 n0 u0)⟩
section
variable (p:ah) (p1:(List Source)) (x0:(List Int)) (s_:State) (u0:(List (List Int))) (u1:(List bg)) (u2:(List (Int × Int)))
abbrev Vp:List (Nat × TV):=[(2,(vP 70 0)),(3,(vP 71 0)),(4,(vP 72 0)),(iP p),(9,(vP 78 0)),(10,(vP 83 0)),uF,qP,pQ]
abbrev XO:Nat × Option Ob:=(70,some (afc p p1))
abbrev mV:Nat × Option Ob:=(80,some (Fv x0))
abbrev Yb:Nat × Option Ob:=(83,some (.cells 80 [(.own 80 true x0.length),(.own 81 true (Uo p)),(.own 82 true (MQ p))]))
abbrev aec:List (Nat × Option Ob):=[(fI s_),(fH s_),(fQ s_),(fZ s_),(fK s_),(fG s_),(fF s_),(XO p p1),(xP s_),jl,(Qa u0),(SK u0 u1),(J4 u1),(mV x0),(Me p),(Kq p),(Yb p x0),(BM u2),Vi,LV]
end
def vZ (p:ah) (s_:State):((List Source) × (List bg) × (List (List Int)) × (List Int) × (List (Int × Int)))→St:=
  fun zz=>match zz with|(p1,u1,u0,x0,u2)=> ⟨(Vp p),(aec p p1 x0 s_ u0 u1 u2)⟩
def DC (p:ah) (s_:State):(aM ((List bg) × (List (List Int)) × (List (Int × Int)) × Int) (Ex ((List Source) × (List bg) × (List (List Int)) × (List Int) × (List (Int × Int))) (aA × (List Bool) × Int)))→Exit→St→Prop:=
  LQ 0 [] (vE p s_) (vZ p s_) (fJ s_)
section
variable (p:ah) (u4:Int) (u3:(List (Int × Int))) (s_:State) (p1:(List Source)) (u0:(List (List Int))) (u1:(List bg)) (x0:(List Int)) (u2:(List (Int × Int)))
abbrev aed:List (Nat × TV):=[(2,(vP 70 0)),(3,(vP 71 0)),(4,(vP 72 0)),(iP p),(9,(vP 78 0)),(10,(vP 83 0)),uF,qP,pQ,(Af p),(Ae p),(90,(vI u4))]
abbrev BX:Nat × Option Ob:=(85,some (SB u3))
abbrev TH:List (Nat × Option Ob):=[(fI s_),(fH s_),(fQ s_),(fZ s_),(fK s_),(fG s_),(fF s_),(XO p p1),(xP s_),jl,(Qa u0),(SK u0 u1),(J4 u1),(mV x0),(Me p),(Kq p),(Yb p x0),(BM u2),(BX u3),LV]
end
def wC (p:ah) (s_:State) (p1:(List Source)) (x0:(List Int)) (u2:(List (Int × Int))):((List bg) × (List (List Int)) × (List (Int × Int)) × Int)→St:=
  fun zz=>match zz with|(u1,u0,u3,u4)=> ⟨(aed p u4),(TH p u3 s_ p1 u0 u1 x0 u2)⟩
section
variable (x1:(List Int)) (s_:State) (p:ah) (p1:(List Source)) (p2:(List Link)) (u0:(List (List Int))) (u1:(List bg)) (x0:(List Int)) (u2:(List (Int × Int))) (u3:(List (Int × Int)))
abbrev pE:Nat × Option Ob:=(81,some (Fv x1))
abbrev afx:List (Nat × Option Ob):=[(fI s_),(fH s_),(fQ s_),(fZ s_),(fK s_),(fG s_),(fF s_),(70,some (adh p p1 p2)),(xP s_),jl,(Qa u0),(SK u0 u1),(J4 u1),(mV x0),(pE x1),(Kq p),(83,some (.cells 80 [(.own 80 true x0.length),(.own 81 true x1.length),(.own 82 true (MQ p))])),(BM u2),(BX u3),LV]
end
def wK (p:ah) (s_:State) (p1:(List Source)) (x0:(List Int)) (u2:(List (Int × Int))):((List Link) × (List bg) × (List (List Int)) × (List Int) × (List (Int × Int)))→St:=
  fun zz=>match zz with|(p2,u1,u0,x1,u3)=> ⟨(Vp p),(afx x1 s_ p p1 p2 u0 u1 x0 u2 u3)⟩
def DT (p:ah) (s_:State) (p1:(List Source)) (x0:(List Int)) (u0:(List (Int × Int))):(aM ((List bg) × (List (List Int)) × (List (Int × Int)) × Int) (Ex ((List Link) × (List bg) × (List (List Int)) × (List Int) × (List (Int × Int))) (aA × (List Bool) × Int)))→Exit→St→Prop:=
  LQ 2 [] (wC p s_ p1 x0 u0) (wK p s_ p1 x0 u0) (fJ s_)
section
variable (u4:Int) (u6:(List aC)) (u7:Int) (u8:Int) (p:ah) (p1:(List Source)) (p2:(List Link)) (p3:(List aC)) (x2:(List af)) (x0:(List Int)) (x1:(List Int)) (u5:(List (af × Int))) (s_:State) (u0:(List (List Int))) (u1:(List bg)) (u2:(List (Int × Int))) (u3:(List (Int × Int)))
abbrev adU:List (Nat × TV):=[(2,(vP 70 0)),(3,(vP 71 0)),(4,(vP 72 0)),(8,(vI u4)),(9,(vP 78 0)),(10,(vP 83 0)),uF,qP,pQ,(qG u6),(116,(vI u7)),(117,(vI u8))]
abbrev oO:Nat × Option Ob:=(70,some (adp p p1 p2 p3))
abbrev qL:Nat × Option Ob:=(82,some (Wx x2))
abbrev r9:Nat × Option Ob:=(83,some (.cells 80 [(.own 80 true x0.length),(.own 81 true x1.length),(.own 82 true x2.length)]))
abbrev CR:Nat × Option Ob:=(86,some (aaq u5))
abbrev Yj:List (Nat × Option Ob):=[(fI s_),(fH s_),(fQ s_),(fZ s_),(fK s_),(fG s_),(fF s_),(oO p p1 p2 p3),(xP s_),jl,(Qa u0),(SK u0 u1),(J4 u1),(mV x0),(pE x1),(qL x2),(r9 x2 x0 x1),(BM u2),(BX u3),(CR u5)]
end
def vF (p:ah) (s_:State) (p1:(List Source)) (x0:(List Int)) (u2:(List (Int × Int))) (p2:(List Link)) (x1:(List Int)) (u3:(List (Int × Int))):((List aC) × Int × (List bg) × (List (List Int)) × (List af) × (List (af × Int)) × (List aC) × Int × Int)→St:=
  fun zz=>match zz with|(p3,u4,u1,u0,x2,u5,u6,u7,u8)=> ⟨(adU u4 u6 u7 u8),(Yj p p1 p2 p3 x2 x0 x1 u5 s_ u0 u1 u2 u3)⟩
section
variable (u6:Int) (s_:State) (p:ah) (p1:(List Source)) (p2:(List Link)) (u5:(List aC)) (u0:(List (List Int))) (u1:(List bg)) (x0:(List Int)) (x1:(List Int)) (u2:(List af)) (u3:(List (Int × Int))) (u4:(List (Int × Int))) (u7:(List (af × Int)))
abbrev ZY:List (Nat × TV):=[(2,(vP 70 0)),(4,(vP 72 0)),(8,(vI u6)),(9,(vP 78 0)),(10,(vP 83 0)),uF,qP,pQ]
abbrev adR:St:=⟨(ZY u6),[(fI s_),(fH s_),(fQ s_),(fZ s_),(fK s_),(fG s_),(fF s_),(oO p p1 p2 u5),jl,(Qa u0),(SK u0 u1),(J4 u1),(mV x0),(pE x1),(qL u2),(r9 u2 x0 x1),(BM u3),(BX u4),(CR u7)]⟩
end
def wh (p:ah) (s_:State) (p1:(List Source)) (x0:(List Int)) (u3:(List (Int × Int))) (p2:(List Link)) (x1:(List Int)) (u4:(List (Int × Int))):((List aC) × Int × (List bg) × (List (List Int)) × (List af) × (List (af × Int)))→St:=
  fun zz=>match zz with|(u5,u6,u1,u0,u2,u7)=>(adR u6 s_ p p1 p2 u5 u0 u1 x0 x1 u2 u3 u4 u7)
def qi (p:ah) (s_:State) (p1:(List Source)) (x0:(List Int)) (u0:(List (Int × Int))) (p2:(List Link)) (x1:(List Int)) (u1:(List (Int × Int))):(aM ((List aC) × Int × (List bg) × (List (List Int)) × (List af) × (List (af × Int)) × (List aC) × Int × Int) (Ex ((List aC) × Int × (List bg) × (List (List Int)) × (List af) × (List (af × Int))) (aA × (List Bool) × Int)))→Exit→St→Prop:=
  LQ 4 [] (vF p s_ p1 x0 u0 p2 x1 u1) (wh p s_ p1 x0 u0 p2 x1 u1) (fJ s_)
section
variable (u6:Int) (u0:Int) (u1:(List aC)) (u7:Int) (u9:Int) (s_:State) (p:ah) (p1:(List Source)) (p2:(List Link)) (p3:(List aC)) (u2:(List (List Int))) (u3:(List bg)) (x0:(List Int)) (x1:(List Int)) (x2:(List af)) (u4:(List (Int × Int))) (u5:(List (Int × Int))) (u8:(List (af × Int)))
abbrev adG:List (Nat × TV):=[(2,(vP 70 0)),(3,(vP 71 0)),(4,(vP 72 0)),(8,(vI u6)),(9,(vP 78 0)),(10,(vP 83 0)),uF,qP,pQ,(18,(vI u0)),(xM u1 u0),(qG u1),(116,(vI u7)),(117,(vI u0)),(zY u1 u0),(134,(vI u9))]
abbrev Rc:List (Nat × Option Ob):=[(fI s_),(fH s_),(fQ s_),(fZ s_),(fK s_),(fG s_),(fF s_),(oO p p1 p2 p3),(xP s_),jl,(Qa u2),(78,some (.cells 151 [(.own 122 false u3.length),(.own 77 true u2.length)])),(mV x0),(pE x1),(qL x2),(r9 x2 x0 x1),(BM u4),(BX u5),(CR u8),(122,some (bZ 157 2 bg.cell u3))]
end
def wO (p:ah) (s_:State) (p1:(List Source)) (x0:(List Int)) (u4:(List (Int × Int))) (p2:(List Link)) (x1:(List Int)) (u5:(List (Int × Int))) (p3:(List aC)) (u6:Int) (x2:(List af)) (u1:(List aC)) (u7:Int) (u0:Int):((List bg) × (List (List Int)) × (List (af × Int)) × Int)→St:=
  fun zz=>match zz with|(u3,u2,u8,u9)=> ⟨(adG u6 u0 u1 u7 u9),(Rc s_ p p1 p2 p3 u2 u3 x0 x1 x2 u4 u5 u8)⟩
section
variable (u4:Int) (u5:(List aC)) (u6:Int) (u7:Int) (s_:State) (p:ah) (p1:(List Source)) (p2:(List Link)) (p3:(List aC)) (u0:(List (List Int))) (u1:(List bg)) (x0:(List Int)) (x1:(List Int)) (x2:(List af)) (u2:(List (Int × Int))) (u3:(List (Int × Int))) (u8:(List (af × Int)))
abbrev aei:St:=⟨(adU u4 u5 u6 u7),(Rc s_ p p1 p2 p3 u0 u1 x0 x1 x2 u2 u3 u8)⟩
end
def vN (p:ah) (s_:State) (p1:(List Source)) (x0:(List Int)) (u2:(List (Int × Int))) (p2:(List Link)) (x1:(List Int)) (u3:(List (Int × Int))) (p3:(List aC)) (u4:Int) (x2:(List af)) (u5:(List aC)) (u6:Int) (u7:Int):((List bg) × (List (List Int)) × (List (af × Int)))→St:=
  fun zz=>match zz with|(u1,u0,u8)=>(aei u4 u5 u6 u7 s_ p p1 p2 p3 u0 u1 x0 x1 x2 u2 u3 u8)
def CK (p:ah) (s_:State) (p1:(List Source)) (x0:(List Int)) (u0:(List (Int × Int))) (p2:(List Link)) (x1:(List Int)) (u1:(List (Int × Int))) (p3:(List aC)) (u2:Int) (x2:(List af)) (u3:(List aC)) (u4:Int) (u5:Int):(aM ((List bg) × (List (List Int)) × (List (af × Int)) × Int) (Ex ((List bg) × (List (List Int)) × (List (af × Int))) (aM ((List aC) × Int × (List bg) × (List (List Int)) × (List af) × (List (af × Int)) × (List aC) × Int × Int) (Ex ((List aC) × Int × (List bg) × (List (List Int)) × (List af) × (List (af × Int))) (aA × (List Bool) × Int)))))→Exit→St→Prop:=
  LQ 6 [5] (wO p s_ p1 x0 u0 p2 x1 u1 p3 u2 x2 u3 u4 u5) (vN p s_ p1 x0 u0 p2 x1 u1 p3 u2 x2 u3 u4 u5) (qi p s_ p1 x0 u0 p2 x1 u1)
section
variable (u0:Network) (s_:State) (p:ah) (p1:(List Source)) (p2:(List Link)) (u4:(List aC)) (u2:(List Int)) (x1:(List Int)) (u1:(List af)) (u3:(List (Int × Int))) (u5:(List (af × Int)))
abbrev abF:List (Nat × TV):=[(2,(vP 70 0)),(4,(vP 72 0)),(9,(vP 78 0)),(10,(vP 83 0)),qP,pQ,(162,(vP 127 0))]
abbrev yK:Nat × Option Ob:=(78,some (.cells 151 [(.own 79 false u0.arcs.length),(.d (Xc u0))]))
abbrev yE:Nat × Option Ob:=(79,some (Y9 u0))
abbrev acs:List (Nat × Option Ob):=[(fI s_),(fH s_),(fQ s_),(fZ s_),(fK s_),(fG s_),(fF s_),(oO p p1 p2 u4),jl,(yK u0),(yE u0),(mV u2),(pE x1),(qL u1),(r9 u1 u2 x1),(BX u3),(CR u5),(127,none)]
abbrev adj:St:=⟨abF,(acs u0 s_ p p1 p2 u4 u2 x1 u1 u3 u5)⟩
end
def CW (p:ah) (s_:State) (p1:(List Source)) (p2:(List Link)) (x1:(List Int)) (u3:(List (Int × Int))) (u4:(List aC)) (u1:(List af)) (u5:(List (af × Int))) (u0:Network):(List Int)→St:=
  fun u2=>(adj u0 s_ p p1 p2 u4 u2 x1 u1 u3 u5)
section
variable (s_:State) (p:ah) (p1:(List Source)) (p2:(List Link)) (u4:(List aC)) (u0:Network) (u2:(List Int)) (u3:(List Int)) (u1:(List af)) (u5:(List (af × Int)))
abbrev aav:List (Nat × TV):=[(2,(vP 70 0)),(4,(vP 72 0)),(9,(vP 78 0)),(10,(vP 83 0)),pQ,(182,(vP 128 0))]
abbrev adB:List (Nat × Option Ob):=[(fI s_),(fH s_),(fQ s_),(fZ s_),(fK s_),(fG s_),(fF s_),(oO p p1 p2 u4),jl,(yK u0),(yE u0),(mV u2),(pE u3),(qL u1),(r9 u1 u2 u3),(CR u5),(128,none)]
abbrev acB:St:=⟨aav,(adB s_ p p1 p2 u4 u0 u2 u3 u1 u5)⟩
end
def Dc (p:ah) (s_:State) (p1:(List Source)) (p2:(List Link)) (u4:(List aC)) (u1:(List af)) (u5:(List (af × Int))) (u0:Network) (u2:(List Int)):(List Int)→St:=
  fun u3=>(acB s_ p p1 p2 u4 u0 u2 u3 u1 u5)
section
variable (s_:State) (p:ah) (p1:(List Source)) (p2:(List Link)) (u4:(List aC)) (u0:Network) (u1:(List Int)) (u2:(List Int)) (u3:(List af))
abbrev V7:List (Nat × TV):=[(2,(vP 70 0)),(4,(vP 72 0)),(9,(vP 78 0)),(10,(vP 83 0)),(208,(vP 129 0))]
abbrev af3:St:=⟨V7,[(fI s_),(fH s_),(fQ s_),(fZ s_),(fK s_),(fG s_),(fF s_),(oO p p1 p2 u4),jl,(yK u0),(yE u0),(mV u1),(pE u2),(qL u3),(r9 u3 u1 u2),(129,none)]⟩
end
def Dy (p:ah) (s_:State) (p1:(List Source)) (p2:(List Link)) (u4:(List aC)) (u0:Network) (u1:(List Int)) (u2:(List Int)):(List af)→St:=
  fun u3=>(af3 s_ p p1 p2 u4 u0 u1 u2 u3)
section
variable (p:ah) (s_:State) (r_:Int) (v4:(Int × Network)) (u9:Int) (v9:(List (Int × Int))) (p1:(List Source)) (v5:(Int × Network)) (x0:(List Int)) (u4:(List (Int × Int))) (u7:Int) (w0:(List (Int × Int))) (v7:Int) (u0:Int) (u2:(List aC)) (w1:Int) (x5:(Int × Network)) (p2:(List Link)) (p3:(List aC)) (x1:(List Int)) (x2:(List af)) (u5:(List (Int × Int))) (ua:(List (af × Int))) (v6:(Int × Network)) (v3:Int) (w9:(List bg)) (x6:(List (List Int))) (u1:Network) (u3:(List (af × Int))) (i2:Nat)
abbrev adi:List SV:=[(.agg (k9 p)),(.agg (Vf s_))]
abbrev MF:List (Nat × Option Ob):=[(fI s_),(fH s_),(fQ s_),(fZ s_),(fK s_),(fG s_),(fF s_)]
abbrev Yz:List (Nat × Option Ob):=[(fI s_),(fH s_),(fQ s_),(fZ s_),(fK s_),(fG s_),(fF s_),(JY p),(xP s_),jl]
abbrev Zu:List (Nat × TV):=[(4,(vP 72 0)),(5,(vO 73 false 0)),(6,(vI r_))]
abbrev aaP:Nat × Option Ob:=(73,some (.arr 4 1 0 (au aj ([]:List Bool))))
abbrev abq:Nat × Option Ob:=(74,some (.arr 3 1 0 (au (aG .i64) ([]:List Int))))
abbrev ad4:List CV:=[(.own 7 false (([]:List Int).length)),(.own 8 false (([]:List Int).length)),(.own 9 false (([]:List af).length))]
abbrev XK:List (Nat × TV):=[(2,(vP 70 0)),(3,(vP 71 0)),(4,(vP 72 0)),(iP p),(9,(vP 78 0))]
abbrev afA:List CV:=[(.d nS),(.own 77 true (MW p))]
abbrev aeY:Nat × Option Ob:=(78,some (.cells 151 (afA p)))
abbrev UC:Nat × Option Ob:=(77,some (.rows 35 1 (yc p).length (ZA p) none))
abbrev ZW:Nat × Option Ob:=(78,some (.cells 151 [(.own 79 false (([]:List bg).length)),(.own 77 true (MW p))]))
abbrev abI:Nat × Option Ob:=(79,some (bZ 157 2 bg.cell ([]:List bg)))
abbrev acN:List (Nat × Option Ob):=[(fI s_),(fH s_),(fQ s_),(fZ s_),(fK s_),(fG s_),(fF s_),(JY p),(xP s_),jl,(UC p),(ZW p),abI,(Wz p),(Me p),(Kq p),(Xb p),(84,some TJ),Vi,LV]
abbrev OI:Nat × Option Ob:=(77,some (.rows 35 1 v4.2.from_.length (xN sH v4.2.from_) none))
abbrev ach:List (Nat × Option Ob):=[(fI s_),(fH s_),(fQ s_),(fZ s_),(fK s_),(fG s_),(fF s_),(JY p),(xP s_),jl,(OI v4),(78,some (.cells 151 [(.own 94 false v4.2.arcs.length),(.own 77 true v4.2.from_.length)])),(Wz p),(Me p),(Kq p),(Xb p),(84,some (GZ u9 v4 v9)),Vi,LV,(94,some (xH v4))]
abbrev aa7:List (Nat × TV):=[(2,(vP 70 0)),(3,(vP 71 0)),(4,(vP 72 0)),(iP p),(9,(vP 78 0)),(10,(vP 83 0)),uF,qP,pQ,(Ab p),(Ao p),(68,(vI (k4 u9)))]
abbrev afa:Nat × Option Ob:=(78,some (.cells 151 [(.own 79 false v4.2.arcs.length),(.own 77 true v4.2.from_.length)]))
abbrev acM:List (Nat × Option Ob):=[(fI s_),(fH s_),(fQ s_),(fZ s_),(fK s_),(fG s_),(fF s_),(XO p p1),(xP s_),jl,(OI v5),(78,some (.cells 151 [(.own 102 false v5.2.arcs.length),(.own 77 true v5.2.from_.length)])),(mV x0),(Me p),(Kq p),(Yb p x0),(BM u4),(85,some (GZ u7 v5 w0)),LV,(102,some (xH v5))]
abbrev abh:List (Nat × TV):=[(2,(vP 70 0)),(3,(vP 71 0)),(4,(vP 72 0)),(iP p),(9,(vP 78 0)),(10,(vP 83 0)),uF,qP,pQ,(Af p),(Ae p),(90,(vI (k4 u7)))]
abbrev aer:List (Nat × TV):=[(2,(vP 70 0)),(3,(vP 71 0)),(4,(vP 72 0)),(8,(vI v7)),(9,(vP 78 0)),(10,(vP 83 0)),uF,qP,pQ,(18,(vI u0)),(xM u2 u0),(qG u2),(116,(vI w1)),(117,(vI u0))]
abbrev adm:Nat × Option Ob:=(78,some (.cells 151 [(.own 122 false x5.2.arcs.length),(.own 77 true x5.2.from_.length)]))
abbrev ade:List (Nat × Option Ob):=[(fI s_),(fH s_),(fQ s_),(fZ s_),(fK s_),(fG s_),(fF s_),(oO p p1 p2 p3),(xP s_),jl,(OI x5),(adm x5),(mV x0),(pE x1),(qL x2),(r9 x2 x0 x1),(BM u4),(BX u5),(CR ua),(122,some (xH x5))]
abbrev aem:Nat × Option Ob:=(78,some (.cells 151 [(.own 126 false v6.2.arcs.length),(.own 77 true v6.2.from_.length)]))
abbrev abb:List (Nat × TV):=[(2,(vP 70 0)),(3,(vP 71 0)),(4,(vP 72 0)),(8,(vI v7)),(9,(vP 78 0)),(10,(vP 83 0)),uF,qP,pQ,(18,(vI u0)),(xM u2 u0),(qG u2),(116,(vI w1)),(117,(vI u0)),(zY u2 u0),(134,(vI (k4 v3)))]
abbrev adx:List (Nat × TV):=[(2,(vP 70 0)),(3,(vP 71 0)),(4,(vP 72 0)),(8,(vI v7)),(9,(vP 78 0)),(10,(vP 83 0)),uF,qP,pQ,(qG u2),(116,(vI w1)),(117,(vI (k4 u0)))]
abbrev afK:Nat × Option Ob:=(78,some (.cells 151 [(.own 79 false w9.length),(.d (bM (some true) 1 (UO 1 (aG .i64)) x6))]))
abbrev afh:List (Nat × Option Ob):=[(afK w9 x6),(J4 w9)]
abbrev afX:List (Nat × Option Ob):=[(yK u1),(yE u1)]
abbrev aat:List (Nat × TV):=[(2,(vP 70 0)),(4,(vP 72 0)),(9,(vP 78 0)),(10,(vP 83 0)),(26,(vP 132 0)),(27,(vI (at' (u3.map Prod.snd) i2))),(208,(vP 129 0))]
abbrev Vw:Nat × Option Ob:=(133,some (Z5 p))
abbrev UM:Nat × Option Ob:=(134,some (.cells 27 [(.own 133 true (Wj p))]))
abbrev afH:List (Nat × TV):=[(2,(vP 70 0)),(4,(vP 72 0)),(10,(vP 83 0)),(28,(vP 134 0)),(235,(.v (.one (.fn 103 0 1 (MK [(.ptr 135 0)])))))]
abbrev adQ:List (Nat × TV):=[(2,(vP 70 0)),(4,(vP 72 0)),(10,(vP 83 0)),(28,(vP 134 0)),(Z0 u1)]
end
theorem CU (p:ah) (s_:State) {r:(aA × (List Bool) × Int)} (h:bN p s_=some r):Fn Tryz.prog 27 (adi p s_) (MF s_) (.iV [(.agg [(.own 7 false r.1.sources.length),(.own 8 false r.1.links.length),(.own 9 false r.1.racks.length)]),(.one (.own 10 false r.2.1.length)),(sI r.2.2)]) [(fI s_),(fH s_),(fQ s_),(fZ s_),(fK s_),(fG s_),(fF s_),(7,some (bZ 3 1 (aG .i64) r.1.sources)),(8,some (bZ 3 1 (aG .i64) r.1.links)),(9,some (bZ 69 2 af.cell r.1.racks)),(10,some (bZ 4 1 aj r.2.1)),(11,none)]:=by
 refine fN tT Tryz.func27 rfl rfl fun B=> ?_
 show jq _ _ _ _ _ _ ((fJ s_) r) _
 unfold bN at h
 refine sz tT ⟨[(2,(vP 70 0)),(3,(vP 71 0)),(4,(vP 72 0))],(Yz p s_)⟩ {fr:=[(0,70),(1,71),(2,72)] } [] ?_
 refine aQ (aQ (bE h fun r_ hr_ h=> ?_))
 refine rg tT ⟨[(2,(vP 70 0)),(3,(vP 71 0)),(4,(vP 72 0)),(7,(vI r_))],(Yz p s_)⟩ [Fn Tryz.prog 35 (adi p s_) (MF s_) (vI r_) (MF s_)] {an:=[(2, .callR [0,1,2,3,4,5,6] (vI r_))] } [] ⟨(Fn.Eo (frz:=[0,1,2,3,4,5,6]) (p:=[s_.closed.length=s_.closed.length,s_.locked.length=s_.locked.length,s_.badLink.length=s_.badLink.length,s_.on_.length=s_.on_.length,s_.badSource.length=s_.badSource.length,s_.earthed.length=s_.earthed.length,s_.badBus.length=s_.badBus.length]) (eH p s_ hr_) (by kernel_rfl) ⟨rfl,rfl,rfl,rfl,rfl,rfl,rfl,trivial⟩ rfl),trivial⟩ ?_
 refine sz tT ⟨[(2,(vP 70 0)),(3,(vP 71 0)),(4,(vP 72 0)),(7,(vI r_)),(34,(vB (!decide (r_=0))))],(Yz p s_)⟩ {} [] ?_
 refine bI h (fun hb9 h=> ?_) (fun hb9 h=> ?_)
 ·refine ct hb9 ?_
  refine sz tT ⟨[(4,(vP 72 0)),(5,(vD nS)),(6,(vI r_))],[(fI s_),(fH s_),(fQ s_),(fZ s_),(fK s_),(fG s_),(fF s_),jl]⟩ {} [] ?_
  refine aI (.trans (dX.Vb (t:=5) (b:=73) (esz0:=0) (el0:=fun _ _=> .nilp) (E:=4) (esz:=1) (el:=au aj ([]:List Bool)) (by kernel_rfl) (by kernel_rfl)) (.trans (dX.xQ (E:=0) (esz:=0) (E0:=80) (cs:=[(.d nS),(.d nS),(.d nS)]) (p:=72) (q:=0) (b:=74) (esz0:=0) (el0:=fun _ _=> .nilp) (ob:= .arr 3 1 0 (au (aG .i64) ([]:List Int))) (fun _ _ _ _ h=> .inl ⟨h,rfl⟩) (by kernel_rfl) (by kernel_rfl) (by kernel_rfl)) (.trans (fz ⟨(Zu r_),[(fI s_),(fH s_),(fQ s_),(fZ s_),(fK s_),(fG s_),(fF s_),(72,some (.cells 80 [(.own 74 false 0),(.d nS),(.d nS)])),aaP,abq]⟩ []) (.trans (dX.xQ (E:=0) (esz:=0) (E0:=80) (cs:=[(.own 74 false 0),(.d nS),(.d nS)]) (p:=72) (q:=1) (b:=75) (esz0:=0) (el0:=fun _ _=> .nilp) (ob:= .arr 3 1 0 (au (aG .i64) ([]:List Int))) (fun _ _ _ _ h=> .inl ⟨h,rfl⟩) (by kernel_rfl) (by kernel_rfl) (by kernel_rfl)) (.trans (fz ⟨(Zu r_),[(fI s_),(fH s_),(fQ s_),(fZ s_),(fK s_),(fG s_),(fF s_),(72,some (.cells 80 [(.own 74 false 0),(.own 75 false 0),(.d nS)])),aaP,abq,(75,some (.arr 3 1 0 (au (aG .i64) ([]:List Int))))]⟩ []) (.trans (dX.xQ (E:=0) (esz:=0) (E0:=80) (cs:=[(.own 74 false 0),(.own 75 false 0),(.d nS)]) (p:=72) (q:=2) (b:=76) (esz0:=0) (el0:=fun _ _=> .nilp) (ob:= .arr 69 2 0 (au af.cell ([]:List af))) (fun _ _ _ _ h=> .inl ⟨h,rfl⟩) (by kernel_rfl) (by kernel_rfl) (by kernel_rfl)) (.trans (fz ⟨(Zu r_),[(fI s_),(fH s_),(fQ s_),(fZ s_),(fK s_),(fG s_),(fF s_),(72,some (.cells 80 [(.own 74 false 0),(.own 75 false 0),(.own 76 false 0)])),aaP,abq,(75,some (.arr 3 1 0 (au (aG .i64) ([]:List Int)))),(76,some (.arr 69 2 0 (au af.cell ([]:List af))))]⟩ []) (.trans (dX.fin (st':=⟨[(4,(vP 11 0)),(5,(vO 10 false 0)),(6,(vI r_))],[(fI s_),(fH s_),(fQ s_),(fZ s_),(fK s_),(fG s_),(fF s_),(7,some (.arr 3 1 0 (au (aG .i64) ([]:List Int)))),(8,some (.arr 3 1 0 (au (aG .i64) ([]:List Int)))),(9,some (.arr 69 2 0 (au af.cell ([]:List af)))),(10,some (.arr 4 1 0 (au aj ([]:List Bool)))),(11,some (.cells 80 [(.own 7 false 0),(.own 8 false 0),(.own 9 false 0)]))]⟩) (cs:=[]) ⟨[],[(0,0),(1,1),(2,2),(3,3),(4,4),(5,5),(6,6),(74,7),(75,8),(76,9),(73,10),(72,11)]⟩ [4,5,6] (by kernel_rfl) trivial) (dX.le (st':=⟨[(4,(vP 11 0)),(5,(vO 10 false (([]:List Bool).length))),(6,(vI r_))],[(fI s_),(fH s_),(fQ s_),(fZ s_),(fK s_),(fG s_),(fF s_),(7,some YR),(8,some YR),(9,some (bZ 69 2 af.cell ([]:List af))),(10,some (bZ 4 1 aj ([]:List Bool))),(11,some (.cells 80 ad4))]⟩) ⟨⟨tR,⟨_,rfl,zo.v (uG.one cW)⟩,tR,trivial⟩,(hN 7 ⟨rfl,oW,⟨rfl,oW,⟨rfl,oW,⟨rfl,oW,⟨rfl,bH ⟨cW,cW,cW,trivial⟩,trivial⟩⟩⟩⟩⟩)⟩))))))))) ?_
  refine aR ?_
  obtain rfl:=oi h
  exact rh [(.agg ad4),(.one (.own 10 false (([]:List Bool).length))),(sI r_)] (.refl _) (hN 11 ⟨rfl,trivial,trivial⟩)
 ·refine cf hb9 ?_
  refine aP (sz tT ⟨[(2,(vP 70 0)),(3,(vP 71 0)),(4,(vP 72 0)),(iP p)],(Yz p s_)⟩ {} [] ?_)
  refine aQ (aO h fun⟨a1,a2,a3⟩ h=> ?_)
  refine ri tT ⟨(XK p),[(fI s_),(fH s_),(fQ s_),(fZ s_),(fK s_),(fG s_),(fF s_),(JY p),(xP s_),jl,(77,some (.arr 35 1 (yc p).length (fun _ j=>[nS].getD j .nilp))),(aeY p)]⟩ [_,(aaW p)=(VX p),_,_,(yc p).length=(Qk p),aD (Qk p) 1 (fun _ j=>[nS].getD j .nilp) (fun _ j=>[nS].getD j .nilp)] {an:=[(2, .arr (yc p).length (fun _ j=>[nS].getD j .nilp))],fr:=[(2,77),(4,78)] } [] ⟨a1,rfl,a2,a3,(List.length_replicate),(gm _ _ _),trivial⟩ (.trans (dX.LU (b:=77) (E:=35) (esz:=1) (len:=(yc p).length) (el:=(fun _ j=>[nS].getD j .nilp)) (el':=xN sH (yc p)) (by kernel_rfl) (fun i hi j hj=>match j,hj with|0,_=>JO _ _ _ _ _ _ _ _)) (.trans (fz ⟨(XK p),[(fI s_),(fH s_),(fQ s_),(fZ s_),(fK s_),(fG s_),(fF s_),(JY p),(xP s_),jl,(UC p),(aeY p)]⟩ []) (.trans (dX.xQ (E:=0) (esz:=0) (E0:=151) (cs:=(afA p)) (p:=78) (q:=0) (b:=79) (esz0:=0) (el0:=fun _ _=> .nilp) (ob:= .arr 157 2 0 (au bg.cell ([]:List bg))) (fun _ _ _ _ h=> .inl ⟨h,rfl⟩) (by kernel_rfl) (by kernel_rfl) (by kernel_rfl)) (.trans (fz ⟨(XK p),[(fI s_),(fH s_),(fQ s_),(fZ s_),(fK s_),(fG s_),(fF s_),(JY p),(xP s_),jl,(UC p),(78,some (.cells 151 [(.own 79 false 0),(.own 77 true (MW p))])),(79,some (.arr 157 2 0 (au bg.cell ([]:List bg))))]⟩ []) (dX.le (st':=⟨(XK p),[(fI s_),(fH s_),(fQ s_),(fZ s_),(fK s_),(fG s_),(fF s_),(JY p),(xP s_),jl,(UC p),(ZW p),abI]⟩) ⟨⟨tR,tR,tR,tR,tR,trivial⟩,(hN 11 ⟨rfl,bH ⟨cW,gW.refl _,trivial⟩,⟨rfl,oW,trivial⟩⟩)⟩))))) ?_
  refine aQ (aO h fun⟨a1,a2,a3,a4,a5,a6,a7,a8,a9⟩ h=> ?_)
  refine dg tT mX ⟨[(2,(vP 70 0)),(3,(vP 71 0)),(4,(vP 72 0)),(iP p),(9,(vP 78 0)),(10,(vP 83 0))],[(fI s_),(fH s_),(fQ s_),(fZ s_),(fK s_),(fG s_),(fF s_),(JY p),(xP s_),jl,(UC p),(ZW p),abI,(Wz p),(Me p),(Kq p),(Xb p)]⟩ [_,(PN p)=(p.sources.length:Int),_,_,(ME p).length=(Hg p),aD (Hg p) 1 (fun _ j=>[(.int .i64 0)].getD j .nilp) (SH p),_,(R6 p)=(p.links.length:Int),_,_,(Db p).length=(yI p),aD (yI p) 1 (fun _ j=>[(.int .i64 0)].getD j .nilp) (Kb p),_,((p.racks.length:Int):Int)=(p.racks.length:Int),_,_,(LJ p).length=(QJ p),aD (QJ p) 2 (fun _ j=>[(.int .i64 0),(.int .i64 0)].getD j .nilp) (TF p)] {an:=[(3, .arr (ME p).length (SH p)),(7, .arr (Db p).length (Kb p)),(11, .arr (LJ p).length (TF p))],fr:=[(3,80),(7,81),(11,82),(13,83)] } [] ⟨a1,rfl,a2,a3,(List.length_replicate),(aW _ _ _ _ _ (fun j hj=>(match j,hj with|0,_=>rfl))),a4,rfl,a5,a6,(List.length_replicate),(aW _ _ _ _ _ (fun j hj=>(match j,hj with|0,_=>rfl))),a7,rfl,a8,a9,(List.length_replicate),(aW _ _ _ _ _ (fun j hj=>(match j,hj with|0,_=>rfl|1,_=>rfl))),trivial⟩ ?_
  refine sz tT ⟨(Vp p),(acN p s_)⟩ {an:=[(0, .map 0 (xW (aG .i64) ([]:(List (Int × Int)))) (xY (aG .i64) ([]:(List (Int × Int)))) []),(1, .map 0 (xW (aG .i64) ([]:(List (Int × Int)))) (xY (aG .i64) ([]:(List (Int × Int)))) []),(2, .map 0 (xW af.cell ([]:(List (af × Int)))) (xY (aG .i64) ([]:(List (af × Int)))) [])],fr:=[(0,84),(1,85),(2,86)] } [] ?_
  refine aQ (sz tT ⟨[(2,(vP 70 0)),(3,(vP 71 0)),(4,(vP 72 0)),(iP p),(9,(vP 78 0)),(10,(vP 83 0)),uF,qP,pQ,(Ab p),(Ao p),(68,(vI 0))],(acN p s_)⟩ {} [] ?_)
  refine bE h fun y hy h=> ?_
  refine aL [] (vE p s_) (vZ p s_) (fJ s_) hy (fun s f h=> ?_) ?_
  ·clear hy
   show jq _ _ _ _ _ _ ((DC p s_) f) _
   unfold iL at h
   obtain⟨n0,n1,v9,u9⟩:=s
   refine sz tT ⟨[(2,(vP 70 0)),(3,(vP 71 0)),(4,(vP 72 0)),(iP p),(9,(vP 78 0)),(10,(vP 83 0)),uF,qP,pQ,(Ab p),(Ao p),(68,(vI u9)),(69,(vB (decide (u9<(p.sources.length:Int)))))],(TD p s_ n1 n0 v9)⟩ {} [] ?_
   refine aQ ?_
   refine bI h (fun hb1 h=> ?_) (fun hb1 h=> ?_)
   ·refine ct hb1 ?_
    refine aP (aQ (aB (aQ (aO h fun a1 h=> ?_))))
    refine rg tT ⟨[(2,(vP 70 0)),(3,(vP 71 0)),(4,(vP 72 0)),(iP p),(9,(vP 78 0)),(10,(vP 83 0)),uF,qP,pQ,(14,(vI u9)),(SA p u9),(Ab p),(Ao p),(68,(vI u9))],(TD p s_ n1 n0 v9)⟩ [_] {fr:=[(3,93)] } [93] ⟨a1,trivial⟩ ?_
    refine aQ (bE h fun uc hr_1 h=> ?_)
    refine rg tT ⟨[(2,(vP 70 0)),(3,(vP 71 0)),(4,(vP 72 0)),(iP p),(9,(vP 78 0)),(10,(vP 83 0)),uF,qP,pQ,(14,(vI u9)),(SA p u9),(Ab p),(Ao p),(68,(vI u9)),(76,(vB uc))],(TD p s_ n1 n0 v9)⟩ [Fn Tryz.prog 71 [(.agg (k9 p)),(.agg (Vf s_)),(sI u9)] (MF s_) (vB uc) (MF s_)] {an:=[(3, .callR [0,1,2,3,4,5,6] (vB uc))] } [] ⟨(Fn.Eo (frz:=[0,1,2,3,4,5,6]) (p:=[s_.closed.length=s_.closed.length,s_.locked.length=s_.locked.length,s_.badLink.length=s_.badLink.length,s_.on_.length=s_.on_.length,s_.badSource.length=s_.badSource.length,s_.earthed.length=s_.earthed.length,s_.badBus.length=s_.badBus.length]) (iK p s_ u9 hr_1) (by kernel_rfl) ⟨rfl,rfl,rfl,rfl,rfl,rfl,rfl,trivial⟩ rfl),trivial⟩ ?_
    refine bI h (fun hb h=> ?_) (fun hb h=> ?_)
    ·refine ct hb ?_
     refine bE h fun v4 hr_2 h=> ?_
     have q0:=rk [(0,78),(1,79),(2,77),(3,94)] (bD 0 (aaI p u9) (Tt p u9) 0 (⟨n0,n1⟩:Network) hr_2)
     refine rg tT ⟨(adz p u9),(ach p s_ v4 u9 v9)⟩ [_,Bb [some .i64] 1 1 v9.length (xW (aG .i64) v9) (xY (aG .i64) v9) [(.int .i64 u9)] [(cI v4.1)] [] (gG J3 u9 v4.1 v9).length (GH u9 v4 v9) (GN u9 v4 v9)] {an:=[(8,cA q0 [78,79,77]),(9, .map (gG J3 u9 v4.1 v9).length (GH u9 v4 v9) (GN u9 v4 v9) [])] } [] ⟨q0,(rD (fun _=>rfl) (fun _ _=>rfl) v9 u9 v4.1 rfl rfl),trivial⟩ ?_
     refine ri tT ⟨(aa7 p u9),(ach p s_ v4 u9 v9)⟩ [] {} [] trivial (dX.fin (st':=⟨(aa7 p u9),[(fI s_),(fH s_),(fQ s_),(fZ s_),(fK s_),(fG s_),(fF s_),(JY p),(xP s_),jl,(OI v4),(afa v4),(79,some (xH v4)),(Wz p),(Me p),(Kq p),(Xb p),(84,some (GZ u9 v4 v9)),Vi,LV]⟩) (cs:=[]) ⟨[],[(0,0),(1,1),(2,2),(3,3),(4,4),(5,5),(6,6),(70,70),(71,71),(72,72),(77,77),(78,78),(94,79),(80,80),(81,81),(82,82),(83,83),(84,84),(85,85),(86,86)]⟩ [2,3,4,8,9,10,11,12,13,66,67,68] (by kernel_rfl) trivial) ?_
     obtain rfl:=oi h
     exact lN
    ·refine cf hb ?_
     refine aP (rz tT ⟨(aa7 p u9),(TD p s_ n1 n0 v9)⟩ {} [] ?_)
     obtain rfl:=oi h
     exact lN
   ·refine cf hb1 ?_
    refine aI (fz ⟨(Vp p),(TD p s_ n1 n0 v9)⟩ []) ?_
    refine aX ?_
    obtain rfl:=oi h
    exact lB
  ·clear hy
   cases y with
   |brk z=>
    obtain⟨p1,ui,ud,x0,u4⟩:=z
    unfold GK
    refine⟨_, .refl, ?_⟩
    refine aQ (sz tT ⟨[(2,(vP 70 0)),(3,(vP 71 0)),(4,(vP 72 0)),(iP p),(9,(vP 78 0)),(10,(vP 83 0)),uF,qP,pQ,(Af p),(Ae p),(90,(vI 0))],(aec p p1 x0 s_ ud ui u4)⟩ {} [] ?_)
    refine bE h fun y1 hy h=> ?_
    refine aL [] (wC p s_ p1 x0 u4) (wK p s_ p1 x0 u4) (fJ s_) hy (fun s f h=> ?_) ?_
    ·clear hy
     show jq _ _ _ _ _ _ ((DT p s_ p1 x0 u4) f) _
     unfold iO at h
     obtain⟨w7,w3,w0,u7⟩:=s
     refine sz tT ⟨[(2,(vP 70 0)),(3,(vP 71 0)),(4,(vP 72 0)),(iP p),(9,(vP 78 0)),(10,(vP 83 0)),uF,qP,pQ,(Af p),(Ae p),(90,(vI u7)),(91,(vB (decide (u7<(p.links.length:Int)))))],(TH p w0 s_ p1 w3 w7 x0 u4)⟩ {} [] ?_
     refine aQ ?_
     refine bI h (fun hb3 h=> ?_) (fun hb3 h=> ?_)
     ·refine ct hb3 ?_
      refine aP (aQ (aB (aQ (aO h fun a1 h=> ?_))))
      refine rg tT ⟨[(2,(vP 70 0)),(3,(vP 71 0)),(4,(vP 72 0)),(iP p),(9,(vP 78 0)),(10,(vP 83 0)),uF,qP,pQ,(16,(vI u7)),(R8 p u7),(Af p),(Ae p),(90,(vI u7))],(TH p w0 s_ p1 w3 w7 x0 u4)⟩ [_] {fr:=[(3,101)] } [101] ⟨a1,trivial⟩ ?_
      refine aQ (bE h fun ue hr_3 h=> ?_)
      refine rg tT ⟨[(2,(vP 70 0)),(3,(vP 71 0)),(4,(vP 72 0)),(iP p),(9,(vP 78 0)),(10,(vP 83 0)),uF,qP,pQ,(16,(vI u7)),(R8 p u7),(Af p),(Ae p),(90,(vI u7)),(98,(vB ue))],(TH p w0 s_ p1 w3 w7 x0 u4)⟩ [Fn Tryz.prog 73 [(.agg (acR p p1)),(.agg (Vf s_)),(sI u7)] (MF s_) (vB ue) (MF s_)] {an:=[(3, .callR [0,1,2,3,4,5,6] (vB ue))] } [] ⟨(Fn.Eo (frz:=[0,1,2,3,4,5,6]) (p:=[s_.closed.length=s_.closed.length,s_.locked.length=s_.locked.length,s_.badLink.length=s_.badLink.length,s_.on_.length=s_.on_.length,s_.badSource.length=s_.badSource.length,s_.earthed.length=s_.earthed.length,s_.badBus.length=s_.badBus.length]) (eY (⟨p.buses,p1,p.links,p.racks⟩:ah) s_ u7 hr_3) (by kernel_rfl) ⟨rfl,rfl,rfl,rfl,rfl,rfl,rfl,trivial⟩ rfl),trivial⟩ ?_
      refine bI h (fun hb2 h=> ?_) (fun hb2 h=> ?_)
      ·refine ct hb2 ?_
       refine bE h fun v5 hr_4 h=> ?_
       have q0:=rk [(0,78),(1,79),(2,77),(3,102)] (bD (Zq p u7) (abR p u7) (IX p u7) (IX p u7) (⟨w7,w3⟩:Network) hr_4)
       refine rg tT ⟨(aed p u7),(acM p s_ p1 v5 x0 u4 u7 w0)⟩ [_,Bb [some .i64] 1 1 w0.length (xW (aG .i64) w0) (xY (aG .i64) w0) [(.int .i64 u7)] [(cI v5.1)] [] (gG J3 u7 v5.1 w0).length (GH u7 v5 w0) (GN u7 v5 w0)] {an:=[(13,cA q0 [78,79,77]),(14, .map (gG J3 u7 v5.1 w0).length (GH u7 v5 w0) (GN u7 v5 w0) [])] } [] ⟨q0,(rD (fun _=>rfl) (fun _ _=>rfl) w0 u7 v5.1 rfl rfl),trivial⟩ ?_
       refine ri tT ⟨(abh p u7),(acM p s_ p1 v5 x0 u4 u7 w0)⟩ [] {} [] trivial (dX.fin (st':=⟨(abh p u7),[(fI s_),(fH s_),(fQ s_),(fZ s_),(fK s_),(fG s_),(fF s_),(XO p p1),(xP s_),jl,(OI v5),(afa v5),(79,some (xH v5)),(mV x0),(Me p),(Kq p),(Yb p x0),(BM u4),(85,some (GZ u7 v5 w0)),LV]⟩) (cs:=[]) ⟨[],[(0,0),(1,1),(2,2),(3,3),(4,4),(5,5),(6,6),(70,70),(71,71),(72,72),(77,77),(78,78),(102,79),(80,80),(81,81),(82,82),(83,83),(84,84),(85,85),(86,86)]⟩ [2,3,4,8,9,10,11,12,13,88,89,90] (by kernel_rfl) trivial) ?_
       obtain rfl:=oi h
       exact lN
      ·refine cf hb2 ?_
       refine aP (rz tT ⟨(abh p u7),(TH p w0 s_ p1 w3 w7 x0 u4)⟩ {} [] ?_)
       obtain rfl:=oi h
       exact lN
     ·refine cf hb3 ?_
      refine aI (fz ⟨(Vp p),(TH p w0 s_ p1 w3 w7 x0 u4)⟩ []) ?_
      refine aX ?_
      obtain rfl:=oi h
      exact lB
    ·clear hy
     cases y1 with
     |brk z=>
      obtain⟨p2,uj,uf,x1,u5⟩:=z
      unfold GK
      refine⟨_, .refl, ?_⟩
      refine aQ (sz tT ⟨[(2,(vP 70 0)),(3,(vP 71 0)),(4,(vP 72 0)),(iP p),(9,(vP 78 0)),(10,(vP 83 0)),uF,qP,pQ,(115,(vD (bM none 4 aC.cell p.racks))),(116,(vI (p.racks.length:Int))),(117,(vI 0))],(afx x1 s_ p p1 p2 uf uj x0 u4 u5)⟩ {} [] ?_)
      refine bE h fun y3 hy h=> ?_
      refine aL [] (vF p s_ p1 x0 u4 p2 x1 u5) (wh p s_ p1 x0 u4 p2 x1 u5) (fJ s_) hy (fun s f h=> ?_) ?_
      ·clear hy
       show jq _ _ _ _ _ _ ((qi p s_ p1 x0 u4 p2 x1 u5) f) _
       unfold iN at h
       obtain⟨p3,v7,x7,x4,x2,ua,u2,w1,u0⟩:=s
       refine sz tT ⟨[(2,(vP 70 0)),(3,(vP 71 0)),(4,(vP 72 0)),(8,(vI v7)),(9,(vP 78 0)),(10,(vP 83 0)),uF,qP,pQ,(qG u2),(116,(vI w1)),(117,(vI u0)),(118,(vB (decide (u0<w1))))],(Yj p p1 p2 p3 x2 x0 x1 ua s_ x4 x7 u4 u5)⟩ {} [] ?_
       refine aQ ?_
       refine bI h (fun hb6 h=> ?_) (fun hb6 h=> ?_)
       ·refine ct hb6 ?_
        refine aP (aQ (aB (aQ (aO h fun a1 h=> ?_))))
        refine rg tT ⟨(aer v7 u0 u2 w1),(Yj p p1 p2 p3 x2 x0 x1 ua s_ x4 x7 u4 u5)⟩ [_] {fr:=[(3,121)] } [121] ⟨a1,trivial⟩ ?_
        refine aQ (bE h fun x5 hr_5 h=> ?_)
        have q0:=rk [(0,78),(1,79),(2,77),(3,122)] (bD (TU p u0) v7 (L8 u2 u0) 0 (⟨x7,x4⟩:Network) hr_5)
        refine rg tT ⟨(aer v7 u0 u2 w1),(ade p s_ p1 x0 u4 x5 p2 p3 x1 x2 u5 ua)⟩ [_] {an:=[(9,cA q0 [78,79,77])] } [] ⟨q0,trivial⟩ ?_
        refine sz tT ⟨[(2,(vP 70 0)),(3,(vP 71 0)),(4,(vP 72 0)),(8,(vI v7)),(9,(vP 78 0)),(10,(vP 83 0)),uF,qP,pQ,(18,(vI u0)),(xM u2 u0),(qG u2),(116,(vI w1)),(117,(vI u0)),(zY u2 u0),(134,(vI 0))],(ade p s_ p1 x0 u4 x5 p2 p3 x1 x2 u5 ua)⟩ {} [] ?_
        refine bE h fun y2 hy h=> ?_
        refine aL [5] (wO p s_ p1 x0 u4 p2 x1 u5 p3 v7 x2 u2 w1 u0) (vN p s_ p1 x0 u4 p2 x1 u5 p3 v7 x2 u2 w1 u0) (qi p s_ p1 x0 u4 p2 x1 u5) hy (fun s f h=> ?_) ?_
        ·clear hy
         show jq _ _ _ _ _ _ ((CK p s_ p1 x0 u4 p2 x1 u5 p3 v7 x2 u2 w1 u0) f) _
         unfold eU at h
         obtain⟨w8,w4,w2,v3⟩:=s
         refine sz tT ⟨[(2,(vP 70 0)),(3,(vP 71 0)),(4,(vP 72 0)),(8,(vI v7)),(9,(vP 78 0)),(10,(vP 83 0)),uF,qP,pQ,(18,(vI u0)),(xM u2 u0),(qG u2),(116,(vI w1)),(117,(vI u0)),(zY u2 u0),(134,(vI v3)),(135,(vB (decide (v3<2))))],(Rc s_ p p1 p2 p3 w4 w8 x0 x1 x2 u4 u5 w2)⟩ {} [] ?_
         refine aQ ?_
         refine bI h (fun hb5 h=> ?_) (fun hb5 h=> ?_)
         ·refine ct hb5 ?_
          refine aP (aQ (aB (aQ (aO h fun a1 h=> ?_))))
          refine rg tT ⟨[(2,(vP 70 0)),(3,(vP 71 0)),(4,(vP 72 0)),(8,(vI v7)),(9,(vP 78 0)),(10,(vP 83 0)),uF,qP,pQ,(18,(vI u0)),(xM u2 u0),(20,(vI v3)),(TR u0 u2 v3),(qG u2),(116,(vI w1)),(117,(vI u0)),(zY u2 u0),(134,(vI v3))],(Rc s_ p p1 p2 p3 w4 w8 x0 x1 x2 u4 u5 w2)⟩ [_,v3.toNat*1+1≤(Qq u2 u0).length,((Qq u2 u0).drop (v3.toNat*1)).take 1=(Te u0 u2 v3).map .d] {an:=[(1, .vals (Te u0 u2 v3))] } [] ⟨a1,(SN (n:=2) (sz:=1) (Nat.le_refl _) a1),(R9 (n:=2) (sz:=1) (g:=fun q=>[(cI (at' [(k28 u2 u0).e0,(k28 u2 u0).e1] q))]) (by intro q hq;match q,hq with|0,_=>rfl|1,_=>rfl) a1),trivial⟩ ?_
          refine aQ (bE h fun ug hr_6 h=> ?_)
          refine rg tT ⟨[(2,(vP 70 0)),(3,(vP 71 0)),(4,(vP 72 0)),(8,(vI v7)),(9,(vP 78 0)),(10,(vP 83 0)),uF,qP,pQ,(18,(vI u0)),(xM u2 u0),(20,(vI v3)),(TR u0 u2 v3),(qG u2),(116,(vI w1)),(117,(vI u0)),(zY u2 u0),(134,(vI v3)),(140,(vB ug))],(Rc s_ p p1 p2 p3 w4 w8 x0 x1 x2 u4 u5 w2)⟩ [Fn Tryz.prog 74 [(.agg (Vf s_)),(sI (Rb u0 u2 v3))] (MF s_) (vB ug) (MF s_)] {an:=[(2, .callR [0,1,2,3,4,5,6] (vB ug))] } [] ⟨(Fn.Eo (frz:=[0,1,2,3,4,5,6]) (p:=[s_.closed.length=s_.closed.length,s_.locked.length=s_.locked.length,s_.badLink.length=s_.badLink.length,s_.on_.length=s_.on_.length,s_.badSource.length=s_.badSource.length,s_.earthed.length=s_.earthed.length,s_.badBus.length=s_.badBus.length]) (jQ s_ (Rb u0 u2 v3) hr_6) (by kernel_rfl) ⟨rfl,rfl,rfl,rfl,rfl,rfl,rfl,trivial⟩ rfl),trivial⟩ ?_
          refine bI h (fun hb4 h=> ?_) (fun hb4 h=> ?_)
          ·refine ct hb4 ?_
           refine bE h fun v6 hr_7 h=> ?_
           have q0:=rk [(0,78),(1,122),(2,77),(3,126)] (bD (Zo u0 u2 v3) (TU p u0) (L8 u2 u0) 0 (⟨w8,w4⟩:Network) hr_7)
           refine rg tT ⟨(adG v7 u0 u2 w1 v3),[(fI s_),(fH s_),(fQ s_),(fZ s_),(fK s_),(fG s_),(fF s_),(oO p p1 p2 p3),(xP s_),jl,(OI v6),(aem v6),(mV x0),(pE x1),(qL x2),(r9 x2 x0 x1),(BM u4),(BX u5),(86,some (Ru 69 3 true false 2 1 af.cell (aG .i64) (gG (fun a b=>(decide (a.e0=b.e0) && (decide (a.e1=b.e1) && true))) (⟨u0,v3⟩:af) v6.1 w2))),(126,some (xH v6))]⟩ [_,Bb [some .i64,some .i64] 2 1 w2.length (xW af.cell w2) (xY (aG .i64) w2) (SY u0 v3) [(cI v6.1)] [] (gG (fun a b=>(decide (a.e0=b.e0) && (decide (a.e1=b.e1) && true))) (⟨u0,v3⟩:af) v6.1 w2).length (xW af.cell (gG (fun a b=>(decide (a.e0=b.e0) && (decide (a.e1=b.e1) && true))) (⟨u0,v3⟩:af) v6.1 w2)) (xY (aG .i64) (gG (fun a b=>(decide (a.e0=b.e0) && (decide (a.e1=b.e1) && true))) (⟨u0,v3⟩:af) v6.1 w2))] {an:=[(14,cA q0 [78,122,77]),(15, .map (gG (fun a b=>(decide (a.e0=b.e0) && (decide (a.e1=b.e1) && true))) (⟨u0,v3⟩:af) v6.1 w2).length (xW af.cell (gG (fun a b=>(decide (a.e0=b.e0) && (decide (a.e1=b.e1) && true))) (⟨u0,v3⟩:af) v6.1 w2)) (xY (aG .i64) (gG (fun a b=>(decide (a.e0=b.e0) && (decide (a.e1=b.e1) && true))) (⟨u0,v3⟩:af) v6.1 w2)) [])] } [] ⟨q0,(rD (fun _=>rfl) (fun _ _=>rfl) w2 (⟨u0,v3⟩:af) v6.1 rfl rfl),trivial⟩ ?_
           refine ri tT ⟨(abb v7 u0 u2 w1 v3),[(fI s_),(fH s_),(fQ s_),(fZ s_),(fK s_),(fG s_),(fF s_),(oO p p1 p2 p3),(xP s_),jl,(OI v6),(aem v6),(mV x0),(pE x1),(qL x2),(r9 x2 x0 x1),(BM u4),(BX u5),(86,some (Ru 69 3 true false 2 1 af.cell (aG .i64) (gG (fun a b=>(decide (a.e0=b.e0) && (decide (a.e1=b.e1) && true))) (⟨u0,v3⟩:af) v6.1 w2))),(126,some (xH v6))]⟩ [] {} [] trivial (dX.fin (st':=⟨(abb v7 u0 u2 w1 v3),[(fI s_),(fH s_),(fQ s_),(fZ s_),(fK s_),(fG s_),(fF s_),(oO p p1 p2 p3),(xP s_),jl,(OI v6),(adm v6),(mV x0),(pE x1),(qL x2),(r9 x2 x0 x1),(BM u4),(BX u5),(86,some (Ru 69 3 true false 2 1 af.cell (aG .i64) (gG (fun a b=>(decide (a.e0=b.e0) && (decide (a.e1=b.e1) && true))) (⟨u0,v3⟩:af) v6.1 w2))),(122,some (xH v6))]⟩) (cs:=[]) ⟨[],[(0,0),(1,1),(2,2),(3,3),(4,4),(5,5),(6,6),(70,70),(71,71),(72,72),(77,77),(78,78),(80,80),(81,81),(82,82),(83,83),(84,84),(85,85),(86,86),(126,122)]⟩ [2,3,4,8,9,10,11,12,13,18,19,115,116,117,133,134] (by kernel_rfl) trivial) ?_
           obtain rfl:=oi h
           exact lN
          ·refine cf hb4 ?_
           refine aP (rz tT ⟨(abb v7 u0 u2 w1 v3),(Rc s_ p p1 p2 p3 w4 w8 x0 x1 x2 u4 u5 w2)⟩ {} [] ?_)
           obtain rfl:=oi h
           exact lN
         ·refine cf hb5 ?_
          refine aI (fz (aei v7 u2 w1 u0 s_ p p1 p2 p3 w4 w8 x0 x1 x2 u4 u5 w2) []) ?_
          refine aX ?_
          obtain rfl:=oi h
          exact lB
        ·clear hy
         cases y2 with
         |brk z=>
          obtain⟨ub,x8,ul⟩:=z
          unfold GK
          refine⟨_, .refl, ?_⟩
          refine ri tT ⟨(adx v7 u0 u2 w1),(Rc s_ p p1 p2 p3 x8 ub x0 x1 x2 u4 u5 ul)⟩ [] {} [] trivial (dX.fin (st':=⟨(adx v7 u0 u2 w1),(Yj p p1 p2 p3 x2 x0 x1 ul s_ x8 ub u4 u5)⟩) (cs:=[]) ⟨[],[(0,0),(1,1),(2,2),(3,3),(4,4),(5,5),(6,6),(70,70),(71,71),(72,72),(77,77),(78,78),(122,79),(80,80),(81,81),(82,82),(83,83),(84,84),(85,85),(86,86)]⟩ [2,3,4,8,9,10,11,12,13,115,116,117] (by kernel_rfl) trivial) ?_
          obtain rfl:=oi h
          exact lN
         |ret v=>
          obtain rfl:=oi h
          unfold GK
          intro e st hn ha hR
          cases e with
          |normal=>exact absurd rfl hn
          |exit id=>simp only [Qv (b:=5) ha rfl,cond_false];exact hR
          |goto l=>exact hR
          |ret=>exact hR
          |panic c=>exact hR
          |outgrown=>exact hR
       ·refine cf hb6 ?_
        refine aI (fz (adR v7 s_ p p1 p2 p3 x4 x7 x0 x1 x2 u4 u5 ua) []) ?_
        refine aX ?_
        obtain rfl:=oi h
        exact lB
      ·clear hy
       cases y3 with
       |brk z=>
        obtain⟨v1,x9,w9,x6,v2,u3⟩:=z
        unfold GK
        refine⟨_, .refl, ?_⟩
        refine aQ (aI (.trans (fi ⟨(ZY x9),[(fI s_),(fH s_),(fQ s_),(fZ s_),(fK s_),(fG s_),(fF s_),(oO p p1 p2 v1),jl,(78,some (.cells 151 [(.own 79 false w9.length),(.d (.sl (some true) 1 x6.length (fun i j=>evD (xN sH x6 i j))))])),(J4 w9),(mV x0),(pE x1),(qL v2),(r9 v2 x0 x1),(BM u4),(BX u5),(CR u3)]⟩ [x6.length=x6.length] [77] ⟨rfl,trivial⟩) (dX.le (st':=⟨(ZY x9),[(fI s_),(fH s_),(fQ s_),(fZ s_),(fK s_),(fG s_),(fF s_),(oO p p1 p2 v1),jl,(afK w9 x6),(J4 w9),(mV x0),(pE x1),(qL v2),(r9 v2 x0 x1),(BM u4),(BX u5),(CR u3)]⟩) ⟨⟨tR,tR,tR,tR,tR,tR,tR,tR,trivial⟩,(hN 9 ⟨rfl,bH ⟨gW.refl _,gW.d (jK.sl (.inr rfl) (fun i _ j hj=>match j,hj with|0,_=> .refl _)),trivial⟩,(.refl _)⟩)⟩)) ?_)
        refine bE h fun u1 hr_8 h=> ?_
        refine rg tT ⟨[(2,(vP 70 0)),(4,(vP 72 0)),(9,(vP 78 0)),(10,(vP 83 0)),uF,qP,pQ],[(fI s_),(fH s_),(fQ s_),(fZ s_),(fK s_),(fG s_),(fF s_),(oO p p1 p2 v1),jl,(yK u1),(yE u1),(mV x0),(pE x1),(qL v2),(r9 v2 x0 x1),(BM u4),(BX u5),(CR u3)]⟩ [Fn Tryz.prog 75 [(.one (.ptr 78 0)),(sI x9)] (afh w9 x6) (.iV []) (afX u1)] {an:=[(2, .call [78,79] (.iV []) (afX u1))] } [] ⟨(Fn.leH (args:=[(.one (.ptr 78 0)),(sI x9)]) (args':=[(.one (.ptr 78 0)),(sI x9)]) (hin:=[(78,some (.cells 151 [(.own 79 false w9.length),(.d (k91 x6))])),(J4 w9)]) (hin':=(afh w9 x6)) (rK [(0,78),(1,79)] (lm x9 (⟨w9,x6⟩:Network) hr_8)) ⟨uG.refl _,uG.refl _,trivial⟩ ⟨rfl,bH ⟨gW.refl _,gW.d jK.rW,trivial⟩,(.refl _)⟩),trivial⟩ ?_
        refine aQ (bE h fun y4 hy h=> ?_)
        refine iX (CW p s_ p1 p2 x1 u5 v1 v2 u3 u1) (K:=3) (V:=3) (s0:=(x0)) ⟨3,3,false,false,1,1,u4.length,xW (aG .i64) u4,xY (aG .i64) u4,[]⟩ 84 127 (fun i=>(sI (AV u4 i))) (fun i=>(sI (E5 u4 i))) hy [3,4] (by kernel_rfl) (by kernel_rfl) (by kernel_rfl) (fun _ _=> ⟨rfl,rfl⟩) (fun _ _=> ⟨kW _ _,kW _ _⟩) (fun _=>(dX.fin (st':=(adj u1 s_ p p1 p2 v1 x0 x1 v2 u5 u3)) (cs:=[]) ⟨[],[(0,0),(1,1),(2,2),(3,3),(4,4),(5,5),(6,6),(70,70),(72,72),(78,78),(79,79),(80,80),(81,81),(82,82),(83,83),(85,85),(86,86),(127,127)]⟩ [2,4,9,10,12,13,162] (by kernel_rfl) trivial)) (fun s=>by obtain⟨w5,rfl⟩: ∃q,q=s:=⟨_,rfl⟩;kernel_rfl) (fun B s i s' hi h=> ?_) ?_
        ·clear hy
         unfold jM at h
         obtain⟨w5,rfl⟩: ∃q,q=s:=⟨_,rfl⟩
         refine Yy tT (⟨[(2,(vP 70 0)),(4,(vP 72 0)),(9,(vP 78 0)),(10,(vP 83 0)),qP,pQ,(22,(vI (AV u4 i))),(23,(vI (E5 u4 i))),(162,(vP 127 0))],(acs u1 s_ p p1 p2 v1 w5 x1 v2 u5 u3)⟩) {fin:=⟨[],[(0,0),(1,1),(2,2),(3,3),(4,4),(5,5),(6,6),(70,70),(72,72),(78,78),(79,79),(80,80),(81,81),(82,82),(83,83),(85,85),(86,86),(127,127)]⟩,ts:=[2,4,9,10,12,13,22,23,162] } (cs:=[]) (by kernel_rfl) trivial .refl ?_
         refine aO h fun⟨a1,a2⟩ h=> ?_
         refine di tT mX ⟨abF,[(fI s_),(fH s_),(fQ s_),(fZ s_),(fK s_),(fG s_),(fF s_),(oO p p1 p2 v1),jl,(yK u1),(yE u1),(80,some (.arr 3 1 w5.length (Ms u4 u1 i w5))),(pE x1),(qL v2),(r9 v2 w5 x1),(BX u5),(CR u3),(127,none)]⟩ [_,_,_,_,aD w5.length 1 (ZX u4 u1 i w5) (Ms u4 u1 i w5)] {an:=[(13, .arr 0 (Ms u4 u1 i w5))] } [] ⟨a1,(tL a1),a2,(tL a2),(aK _ _ _ _ _ _ _ _ rfl (fun j hj=>(match j,hj with|0,_=>rfl))),trivial⟩ (dX.le (st':=⟨abF,[(fI s_),(fH s_),(fQ s_),(fZ s_),(fK s_),(fG s_),(fF s_),(oO p p1 p2 v1),jl,(yK u1),(yE u1),(80,some (aaV u4 u1 i w5)),(pE x1),(qL v2),(83,some (.cells 80 [(.own 80 true (ZF u4 u1 i w5)),(.own 81 true x1.length),(.own 82 true v2.length)])),(BX u5),(CR u3),(127,none)]⟩) ⟨⟨tR,tR,tR,tR,tR,tR,tR,trivial⟩,(hN 11 ⟨rfl,oW,(hN 2 ⟨rfl,bH ⟨cW,gW.refl _,gW.refl _,trivial⟩,(.refl _)⟩)⟩)⟩) ?_
         obtain rfl:=oi h
         exact⟨.inl rfl,by kernel_rfl⟩
        ·clear hy
         obtain⟨u6,rfl⟩: ∃q,q=y4:=⟨_,rfl⟩
         refine aI (fz ⟨[(2,(vP 70 0)),(4,(vP 72 0)),(9,(vP 78 0)),(10,(vP 83 0)),qP,pQ],[(fI s_),(fH s_),(fQ s_),(fZ s_),(fK s_),(fG s_),(fF s_),(oO p p1 p2 v1),jl,(yK u1),(yE u1),(mV u6),(pE x1),(qL v2),(r9 v2 u6 x1),(BX u5),(CR u3)]⟩ []) ?_
         refine aQ (bE h fun y5 hy h=> ?_)
         refine iX (Dc p s_ p1 p2 v1 v2 u3 u1 u6) (K:=3) (V:=3) (s0:=(x1)) ⟨3,3,false,false,1,1,u5.length,xW (aG .i64) u5,xY (aG .i64) u5,[]⟩ 85 128 (fun i1=>(sI (AV u5 i1))) (fun i1=>(sI (E5 u5 i1))) hy [3,4] (by kernel_rfl) (by kernel_rfl) (by kernel_rfl) (fun _ _=> ⟨rfl,rfl⟩) (fun _ _=> ⟨kW _ _,kW _ _⟩) (fun _=>(dX.fin (st':=(acB s_ p p1 p2 v1 u1 u6 x1 v2 u3)) (cs:=[]) ⟨[],[(0,0),(1,1),(2,2),(3,3),(4,4),(5,5),(6,6),(70,70),(72,72),(78,78),(79,79),(80,80),(81,81),(82,82),(83,83),(86,86),(128,128)]⟩ [2,4,9,10,13,182] (by kernel_rfl) trivial)) (fun s=>by obtain⟨w6,rfl⟩: ∃q,q=s:=⟨_,rfl⟩;kernel_rfl) (fun B s i1 s' hi h=> ?_) ?_
         ·clear hy
          unfold jO at h
          obtain⟨w6,rfl⟩: ∃q,q=s:=⟨_,rfl⟩
          refine Yy tT (⟨[(2,(vP 70 0)),(4,(vP 72 0)),(9,(vP 78 0)),(10,(vP 83 0)),pQ,(24,(vI (AV u5 i1))),(25,(vI (E5 u5 i1))),(182,(vP 128 0))],(adB s_ p p1 p2 v1 u1 u6 w6 v2 u3)⟩) {fin:=⟨[],[(0,0),(1,1),(2,2),(3,3),(4,4),(5,5),(6,6),(70,70),(72,72),(78,78),(79,79),(80,80),(81,81),(82,82),(83,83),(86,86),(128,128)]⟩,ts:=[2,4,9,10,13,24,25,182] } (cs:=[]) (by kernel_rfl) trivial .refl ?_
          refine aO h fun⟨a1,a2,a3⟩ h=> ?_
          refine di tT mX ⟨aav,[(fI s_),(fH s_),(fQ s_),(fZ s_),(fK s_),(fG s_),(fF s_),(oO p p1 p2 v1),jl,(yK u1),(yE u1),(mV u6),(81,some (.arr 3 1 w6.length (M6 p2 u5 u1 i1 w6))),(qL v2),(r9 v2 u6 w6),(CR u3),(128,none)]⟩ [_,_,_,_,_,aD w6.length 1 (aaA p2 u5 u1 i1 w6) (M6 p2 u5 u1 i1 w6)] {an:=[(19, .arr 0 (M6 p2 u5 u1 i1 w6))] } [] ⟨a1,a2,(tL a2),a3,(tL a3),(aK _ _ _ _ _ _ _ _ rfl (fun j hj=>(match j,hj with|0,_=>rfl))),trivial⟩ (dX.le (st':=⟨aav,[(fI s_),(fH s_),(fQ s_),(fZ s_),(fK s_),(fG s_),(fF s_),(oO p p1 p2 v1),jl,(yK u1),(yE u1),(mV u6),(81,some (aas p2 u5 u1 i1 w6)),(qL v2),(83,some (.cells 80 [(.own 80 true u6.length),(.own 81 true (ZP p2 u5 u1 i1 w6)),(.own 82 true v2.length)])),(CR u3),(128,none)]⟩) ⟨⟨tR,tR,tR,tR,tR,tR,trivial⟩,(hN 12 ⟨rfl,oW,⟨rfl, .refl _,⟨rfl,bH ⟨gW.refl _,cW,gW.refl _,trivial⟩,⟨rfl, .refl _,⟨rfl, .refl _,trivial⟩⟩⟩⟩⟩)⟩) ?_
          obtain rfl:=oi h
          exact⟨.inl rfl,by kernel_rfl⟩
         ·clear hy
          obtain⟨u8,rfl⟩: ∃q,q=y5:=⟨_,rfl⟩
          refine aI (fz ⟨[(2,(vP 70 0)),(4,(vP 72 0)),(9,(vP 78 0)),(10,(vP 83 0)),pQ],[(fI s_),(fH s_),(fQ s_),(fZ s_),(fK s_),(fG s_),(fF s_),(oO p p1 p2 v1),jl,(yK u1),(yE u1),(mV u6),(pE u8),(qL v2),(r9 v2 u6 u8),(CR u3)]⟩ []) ?_
          refine aQ (bE h fun y6 hy h=> ?_)
          refine iX (Dy p s_ p1 p2 v1 u1 u6 u8) (K:=69) (V:=3) (s0:=(v2)) ⟨69,3,true,false,2,1,u3.length,xW af.cell u3,xY (aG .i64) u3,[]⟩ 86 129 (fun i2=>(.agg (XM u3 i2))) (fun i2=>(sI (at' (u3.map Prod.snd) i2))) hy [3,4,5] (by kernel_rfl) (by kernel_rfl) (by kernel_rfl) (fun _ _=> ⟨rfl,rfl⟩) (fun _ _=> ⟨Nc rfl,kW _ _⟩) (fun _=>(dX.fin (st':=(af3 s_ p p1 p2 v1 u1 u6 u8 v2)) (cs:=[]) ⟨[],[(0,0),(1,1),(2,2),(3,3),(4,4),(5,5),(6,6),(70,70),(72,72),(78,78),(79,79),(80,80),(81,81),(82,82),(83,83),(129,129)]⟩ [2,4,9,10,208] (by kernel_rfl) trivial)) (fun s=>by obtain⟨v0,rfl⟩: ∃q,q=s:=⟨_,rfl⟩;kernel_rfl) (fun B s i2 s' hi h=> ?_) ?_
          ·clear hy
           unfold jL at h
           obtain⟨v0,rfl⟩: ∃q,q=s:=⟨_,rfl⟩
           refine Yy tT (⟨(aat u3 i2),[(fI s_),(fH s_),(fQ s_),(fZ s_),(fK s_),(fG s_),(fF s_),(oO p p1 p2 v1),jl,(yK u1),(yE u1),(mV u6),(pE u8),(qL v0),(r9 v0 u6 u8),(129,none),(132,some (ZV u3 i2))]⟩) {fr:=Xd [(3,132)],fin:=⟨[],[(0,0),(1,1),(2,2),(3,3),(4,4),(5,5),(6,6),(70,70),(72,72),(78,78),(79,79),(80,80),(81,81),(82,82),(83,83),(129,129),(132,132)]⟩,ts:=[2,4,9,10,26,27,208] } (cs:=[]) (by kernel_rfl) trivial .refl ?_
           refine bI h (fun hb7 h=> ?_) (fun _ h=> ?_)
           ·skip
            refine aI (dX.le (st':=⟨(aat u3 i2),[(fI s_),(fH s_),(fQ s_),(fZ s_),(fK s_),(fG s_),(fF s_),(oO p p1 p2 v1),jl,(yK u1),(yE u1),(mV u6),(pE u8),(qL v0),(r9 v0 u6 u8),(129,none),(132,some (ZU u3 i2))]⟩) ⟨⟨tR,tR,tR,tR,tR,tR,tR,trivial⟩,(hN 16 ⟨rfl,bH ⟨gW.refl _,gW.of (congrArg (fun n=>CV.d (.int .i64 n)) (of_decide_eq_true hb7)),trivial⟩,trivial⟩)⟩) ?_
            refine aO h fun⟨a1,a2⟩ h=> ?_
            refine di tT mX ⟨V7,[(fI s_),(fH s_),(fQ s_),(fZ s_),(fK s_),(fG s_),(fF s_),(oO p p1 p2 v1),jl,(yK u1),(yE u1),(mV u6),(pE u8),(82,some (.arr 69 2 v0.length (MG u1 u3 i2 v0))),(r9 v0 u6 u8),(129,none)]⟩ [(0:Int)≤0∧(0:Int)<(2:Nat),(0:Int)≤1∧(1:Int)<(2:Nat),_,_,_,(0:Int)≤0∧(0:Int)<(2:Nat),_,aD v0.length 2 (ZG u1 u3 i2 v0) (MG u1 u3 i2 v0)] {an:=[(17, .arr 0 (MG u1 u3 i2 v0))] } [] ⟨((by decide)),((by decide)),a1,(tL a1),a2,((by decide)),(tL a2),(aK _ _ _ _ _ _ _ _ rfl (fun j hj=>(match j,hj with|0,_=>rfl|1,_=>rfl))),trivial⟩ (dX.le (st':=⟨V7,[(fI s_),(fH s_),(fQ s_),(fZ s_),(fK s_),(fG s_),(fF s_),(oO p p1 p2 v1),jl,(yK u1),(yE u1),(mV u6),(pE u8),(82,some (ZN u1 u3 i2 v0)),(83,some (.cells 80 [(.own 80 true u6.length),(.own 81 true u8.length),(.own 82 true (aac u1 u3 i2 v0))])),(129,none)]⟩) ⟨⟨tR,tR,tR,tR,tR,trivial⟩,(hN 13 ⟨rfl,oW,⟨rfl,bH ⟨gW.refl _,gW.refl _,cW,trivial⟩,(.refl _)⟩⟩)⟩) ?_
            obtain rfl:=oi h
            exact⟨.inl rfl,by kernel_rfl⟩
           ·skip
            refine aO h fun a1 h=> ?_
            refine aI (dX.le (st':=⟨(aat u3 i2),[(fI s_),(fH s_),(fQ s_),(fZ s_),(fK s_),(fG s_),(fF s_),(oO p p1 p2 v1),jl,(yK u1),(yE u1),(mV u6),(pE u8),(qL v0),(r9 v0 u6 u8),(129,none),(132,some (ZK u3 i2))]⟩) ⟨⟨tR,tR,tR,tR,tR,tR,tR,trivial⟩,(hN 16 ⟨rfl,bH ⟨gW.refl _,gW.of (congrArg (fun n=>CV.d (.int .i64 n)) a1),trivial⟩,trivial⟩)⟩) ?_
            refine aO h fun⟨a1,a2⟩ h=> ?_
            refine di tT mX ⟨V7,[(fI s_),(fH s_),(fQ s_),(fZ s_),(fK s_),(fG s_),(fF s_),(oO p p1 p2 v1),jl,(yK u1),(yE u1),(mV u6),(pE u8),(82,some (.arr 69 2 v0.length (Mv u1 u3 i2 v0))),(r9 v0 u6 u8),(129,none)]⟩ [(0:Int)≤0∧(0:Int)<(2:Nat),(0:Int)≤1∧(1:Int)<(2:Nat),_,_,_,(0:Int)≤1∧(1:Int)<(2:Nat),_,aD v0.length 2 (abo u1 u3 i2 v0) (Mv u1 u3 i2 v0)] {an:=[(17, .arr 0 (Mv u1 u3 i2 v0))] } [] ⟨((by decide)),((by decide)),a1,(tL a1),a2,((by decide)),(tL a2),(aK _ _ _ _ _ _ _ _ rfl (fun j hj=>(match j,hj with|0,_=>rfl|1,_=>rfl))),trivial⟩ (dX.le (st':=⟨V7,[(fI s_),(fH s_),(fQ s_),(fZ s_),(fK s_),(fG s_),(fF s_),(oO p p1 p2 v1),jl,(yK u1),(yE u1),(mV u6),(pE u8),(82,some (aao u1 u3 i2 v0)),(83,some (.cells 80 [(.own 80 true u6.length),(.own 81 true u8.length),(.own 82 true (Zr u1 u3 i2 v0))])),(129,none)]⟩) ⟨⟨tR,tR,tR,tR,tR,trivial⟩,(hN 13 ⟨rfl,oW,⟨rfl,bH ⟨gW.refl _,gW.refl _,cW,trivial⟩,(.refl _)⟩⟩)⟩) ?_
            obtain rfl:=oi h
            exact⟨.inl rfl,by kernel_rfl⟩
          ·clear hy
           obtain⟨v8,rfl⟩: ∃q,q=y6:=⟨_,rfl⟩
           refine aI (fz ⟨[(2,(vP 70 0)),(4,(vP 72 0)),(9,(vP 78 0)),(10,(vP 83 0))],[(fI s_),(fH s_),(fQ s_),(fZ s_),(fK s_),(fG s_),(fF s_),(oO p p1 p2 v1),jl,(yK u1),(yE u1),(mV u6),(pE u8),(qL v8),(r9 v8 u6 u8)]⟩ []) ?_
           refine aQ (aO h fun⟨a1,a2,a3⟩ h=> ?_)
           refine rg tT ⟨[(2,(vP 70 0)),(4,(vP 72 0)),(9,(vP 78 0)),(10,(vP 83 0)),(28,(vP 134 0))],[(fI s_),(fH s_),(fQ s_),(fZ s_),(fK s_),(fG s_),(fF s_),(oO p p1 p2 v1),jl,(yK u1),(yE u1),(mV u6),(pE u8),(qL v8),(r9 v8 u6 u8),(Vw p),(UM p)]⟩ [_,(p.buses:Int)=p.buses,_,_,(rX p).length=p.buses.toNat,aD p.buses.toNat 1 (fun _ j=>[(.bool false)].getD j .nilp) (Ca p)] {an:=[(2, .arr (rX p).length (Ca p))],fr:=[(2,133),(3,134)] } [] ⟨a1,rfl,a2,a3,(List.length_replicate),(aW _ _ _ _ _ (fun j hj=>(match j,hj with|0,_=>rfl))),trivial⟩ ?_
           refine aQ (aQ (bE h fun um hr_9 h=> ?_))
           have q0:=rk [(0,78),(1,79),(2,135)] (gF u1 hr_9)
           refine ri tT ⟨afH,[(fI s_),(fH s_),(fQ s_),(fZ s_),(fK s_),(fG s_),(fF s_),(oO p p1 p2 v1),jl,(78,some (aap u1)),(mV u6),(pE u8),(qL v8),(r9 v8 u6 u8),(Vw p),(UM p),(135,some (.cells 147 [(.ptr 78 0)]))]⟩ [_,u1.arcs.length=u1.arcs.length] {an:=[(1,cA q0 [78,79])] } [79] ⟨q0,rfl,trivial⟩ (.trans (fz ⟨afH,[(fI s_),(fH s_),(fQ s_),(fZ s_),(fK s_),(fG s_),(fF s_),(oO p p1 p2 v1),jl,(mV u6),(pE u8),(qL v8),(r9 v8 u6 u8),(Vw p),(UM p),(135,some (abu u1))]⟩ [78]) (fz ⟨(adQ u1),[(fI s_),(fH s_),(fQ s_),(fZ s_),(fK s_),(fG s_),(fF s_),(oO p p1 p2 v1),jl,(mV u6),(pE u8),(qL v8),(r9 v8 u6 u8),(Vw p),(UM p)]⟩ [135])) ?_
           refine aB (bE h fun x3 hr_10 h=> ?_)
           refine wN 136 [(2,(vP 70 0)),(28,(vP 134 0))] [] [136,70,134,133] (.iV []) [(136,some (.loop dF 0 [(2,(vP 70 0)),(28,(vP 134 0))])),(oO p p1 p2 v1),(134,some (.cells 27 [(.own 133 true x3.length)])),(133,some (bZ 4 1 aj x3))] (YI u1) 103 [] (aaD u1) [(136,some (.loop dF 0 [(2,(vP 70 0)),(28,(vP 134 0))])),(oO p p1 p2 v1),(UM p),(Vw p)] [(.one (.yl 136)),(sD (Ww u1))] dF 0 [(2,(vP 70 0)),(28,(vP 134 0))] (by kernel_rfl) (by kernel_rfl) (by kernel_rfl) (by kernel_rfl) (by kernel_rfl) (by kernel_rfl) (by kernel_rfl) (rK [(0,136),(1,70),(2,134),(3,133)] (gM u1.arcs u1.from_ (⟨p.buses,p1,p2,v1⟩:ah) (rX p) hr_10)) (by kernel_rfl) rfl (Kc.zero rfl) (dX.fin (st':=⟨(adQ u1),[(fI s_),(fH s_),(fQ s_),(fZ s_),(fK s_),(fG s_),(fF s_),(oO p p1 p2 v1),jl,(mV u6),(pE u8),(qL v8),(r9 v8 u6 u8),(133,some (bZ 4 1 aj x3)),(134,some (.cells 27 [(.own 133 true x3.length)]))]⟩) (cs:=[]) ⟨[],[(0,0),(1,1),(2,2),(3,3),(4,4),(5,5),(6,6),(70,70),(72,72),(80,80),(81,81),(82,82),(83,83),(133,133),(134,134)]⟩ [2,4,10,28,235] (by kernel_rfl) trivial) ?_
           refine sd tT mX ⟨[(4,(vP 72 0)),(5,(vO 133 true x3.length)),(6,(vI 0))],[(fI s_),(fH s_),(fQ s_),(fZ s_),(fK s_),(fG s_),(fF s_),(72,some (.cells 80 [(.own 80 true u6.length),(.own 81 true u8.length),(.own 82 true v8.length)])),(mV u6),(pE u8),(qL v8),(133,some (bZ 4 1 aj x3))]⟩ [] {} [] trivial ?_
           refine aI (.trans (dX.fin (st':=⟨[(4,(vP 11 0)),(5,(vO 10 true x3.length)),(6,(vI 0))],[(fI s_),(fH s_),(fQ s_),(fZ s_),(fK s_),(fG s_),(fF s_),(7,some (Fv u6)),(8,some (Fv u8)),(9,some (Wx v8)),(10,some (bZ 4 1 aj x3)),(11,some (.cells 80 [(.own 7 true u6.length),(.own 8 true u8.length),(.own 9 true v8.length)]))]⟩) (cs:=[]) ⟨[],[(0,0),(1,1),(2,2),(3,3),(4,4),(5,5),(6,6),(80,7),(81,8),(82,9),(133,10),(72,11)]⟩ [4,5,6] (by kernel_rfl) trivial) (dX.le (st':=⟨[(4,(vP 11 0)),(5,(vO 10 false x3.length)),(6,(vI 0))],[(fI s_),(fH s_),(fQ s_),(fZ s_),(fK s_),(fG s_),(fF s_),(7,some (Fv u6)),(8,some (Fv u8)),(9,some (Wx v8)),(10,some (bZ 4 1 aj x3)),(11,some (.cells 80 [(.own 7 false u6.length),(.own 8 false u8.length),(.own 9 false v8.length)]))]⟩) ⟨⟨tR,⟨_,rfl,zo.v (uG.one (cN))⟩,tR,trivial⟩,(hN 11 ⟨rfl,bH ⟨cN,cN,cN,trivial⟩,trivial⟩)⟩)) ?_
           refine aR ?_
           obtain rfl:=oi h
           exact rh [(.agg [(.own 7 false u6.length),(.own 8 false u8.length),(.own 9 false v8.length)]),(.one (.own 10 false x3.length)),(sI 0)] (.refl _) (hN 11 ⟨rfl,trivial,trivial⟩)
       |ret v=>
        obtain rfl:=oi h
        unfold GK
        intro e st hn ha hR
        cases e with
        |normal=>exact absurd rfl hn
        |exit id=>exact hR
        |goto l=>exact hR
        |ret=>exact hR
        |panic c=>exact hR
        |outgrown=>exact hR
     |ret v=>
      obtain rfl:=oi h
      unfold GK
      intro e st hn ha hR
      cases e with
      |normal=>exact absurd rfl hn
      |exit id=>exact hR
      |goto l=>exact hR
      |ret=>exact hR
      |panic c=>exact hR
      |outgrown=>exact hR
   |ret v=>
    obtain rfl:=oi h
    unfold GK
    intro e st hn ha hR
    cases e with
    |normal=>exact absurd rfl hn
    |exit id=>exact hR
    |goto l=>exact hR
    |ret=>exact hR
    |panic c=>exact hR
    |outgrown=>exact hR
end
end Sg
