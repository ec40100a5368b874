import Derived.Test.YtpndenfhglaikaaGreatW4
set_option linter.all false
namespace Sg
open Go Go.Proofs
set_option maxRecDepth 20000
noncomputable section
section
variable (n:Int) (r_:(ah × State)) (p1:(List Source)) (n1:Int) (k:Int) (u3:(List Source)) (p2:(List Link)) (i:Int) (u1:(List Link)) (i1:Int) (u4:(List Link)) (p3:(List aD)) (u0:Int) (s3:(List Bool)) (u2:(State × Int)) (u6:(List Bool))
abbrev Uq:=(IntKind.wrap .i64 ((1:Int)+(Int.tmod n 700)))
abbrev Zx:=(r_.1.racks.set 1 (⟨(⟨((at' r_.1.racks 1).feeds).e0,2⟩:af),(at' r_.1.racks 1).power,(at' r_.1.racks 1).paths⟩:aD))
abbrev aag:=(au aD.cell (Zx r_))
abbrev Xf:List CV:=[(cI r_.1.buses),(.d (bM (some true) 5 Source.cell r_.1.sources)),(.d (bM (some true) 6 Link.cell r_.1.links)),(.d (bM none 4 aD.cell (Zx r_)))]
abbrev adQ:=(decide ((IntKind.wrap .i64 (((BitVec.ofInt (IntKind.bits .i64) (Int.fdiv n (2 ^ min 0 (IntKind.bits .i64))) &&& BitVec.ofInt (IntKind.bits .i64) 1).toNat:Int)))=1))
abbrev Sl:=(r_.2.closed.set 0 (adQ n))
abbrev aaH:=(au aj (Sl n r_))
abbrev aep:=(decide ((IntKind.wrap .i64 (((BitVec.ofInt (IntKind.bits .i64) (Int.fdiv n (2 ^ min 1 (IntKind.bits .i64))) &&& BitVec.ofInt (IntKind.bits .i64) 1).toNat:Int)))=1))
abbrev Kt:=((Sl n r_).set 1 (aep n))
abbrev afP:=(au aj (Kt n r_))
abbrev aey:=(decide ((IntKind.wrap .i64 (((BitVec.ofInt (IntKind.bits .i64) (Int.fdiv n (2 ^ min 2 (IntKind.bits .i64))) &&& BitVec.ofInt (IntKind.bits .i64) 1).toNat:Int)))=1))
abbrev Ko:=(r_.2.badLink.set 0 (aey n))
abbrev afC:=(au aj (Ko n r_))
abbrev aeF:=(decide ((IntKind.wrap .i64 (((BitVec.ofInt (IntKind.bits .i64) (Int.fdiv n (2 ^ min 3 (IntKind.bits .i64))) &&& BitVec.ofInt (IntKind.bits .i64) 1).toNat:Int)))=1))
abbrev TJ:=(r_.2.on_.set 0 (aeF n))
abbrev abo:=(au aj (TJ n r_))
abbrev acO:=(decide ((IntKind.wrap .i64 (((BitVec.ofInt (IntKind.bits .i64) (Int.fdiv n (2 ^ min 4 (IntKind.bits .i64))) &&& BitVec.ofInt (IntKind.bits .i64) 1).toNat:Int)))=1))
abbrev Kl:=((TJ n r_).set 1 (acO n))
abbrev afH:=(au aj (Kl n r_))
abbrev afv:=(decide ((IntKind.wrap .i64 (((BitVec.ofInt (IntKind.bits .i64) (Int.fdiv n (2 ^ min 5 (IntKind.bits .i64))) &&& BitVec.ofInt (IntKind.bits .i64) 1).toNat:Int)))=1))
abbrev J7:=(r_.2.badSource.set 0 (afv n))
abbrev adt:=(au aj (J7 n r_))
abbrev adi:=(decide ((IntKind.wrap .i64 (((BitVec.ofInt (IntKind.bits .i64) (Int.fdiv n (2 ^ min 6 (IntKind.bits .i64))) &&& BitVec.ofInt (IntKind.bits .i64) 1).toNat:Int)))=1))
abbrev Ui:=(r_.2.badBus.set 0 (adi n))
abbrev aaA:=(au aj (Ui n r_))
abbrev aea:=(decide ((IntKind.wrap .i64 (((BitVec.ofInt (IntKind.bits .i64) (Int.fdiv n (2 ^ min 7 (IntKind.bits .i64))) &&& BitVec.ofInt (IntKind.bits .i64) 1).toNat:Int)))=1))
abbrev Sq:=((Ui n r_).set 1 (aea n))
abbrev aai:=(au aj (Sq n r_))
abbrev acT:=(decide ((IntKind.wrap .i64 (((BitVec.ofInt (IntKind.bits .i64) (Int.fdiv n (2 ^ min 8 (IntKind.bits .i64))) &&& BitVec.ofInt (IntKind.bits .i64) 1).toNat:Int)))=1))
abbrev Kv:=((Sq n r_).set 2 (acT n))
abbrev afx:=(au aj (Kv n r_))
abbrev adH:List CV:=[(.d (bM (some true) 1 aj (Kt n r_))),(.d (bM (some true) 1 aj r_.2.locked)),(.d (bM (some true) 1 aj (Ko n r_))),(.d (bM (some true) 1 aj (Kl n r_))),(.d (bM (some true) 1 aj (J7 n r_))),(.d (bM (some true) 1 aj r_.2.earthed)),(.d (bM (some true) 1 aj (Kv n r_)))]
abbrev aeB:=(⟨r_.1.buses,r_.1.sources,r_.1.links,(Zx r_)⟩:ah)
abbrev ael:=(⟨(Kt n r_),r_.2.locked,(Ko n r_),(Kl n r_),(J7 n r_),r_.2.earthed,(Kv n r_)⟩:State)
abbrev adB:List CV:=[(.own 276 true ((Kt n r_).length)),(.own 277 true r_.2.locked.length),(.own 278 true ((Ko n r_).length)),(.own 279 true ((Kl n r_).length)),(.own 280 true ((J7 n r_).length)),(.own 281 true r_.2.earthed.length),(.own 282 true ((Kv n r_).length))]
abbrev XG:List (Nat × Option Ob):=[(276,some (bZ 4 1 aj (Kt n r_))),(277,some (bZ 4 1 aj r_.2.locked)),(278,some (bZ 4 1 aj (Ko n r_))),(279,some (bZ 4 1 aj (Kl n r_))),(280,some (bZ 4 1 aj (J7 n r_))),(281,some (bZ 4 1 aj r_.2.earthed)),(282,some (bZ 4 1 aj (Kv n r_)))]
abbrev af5:List (Nat × Option Ob):=[(408,some (.cells 26 [(cI 24),(.own 410 false p1.length),(.d nS),(.d nS)])),(410,some (bZ 60 5 Source.cell p1))]
abbrev UE:=(IntKind.wrap .i64 ((100000:Int) - (IntKind.wrap .i64 (n1*k))))
abbrev Ra:=(⟨(IntKind.wrap .i64 ((3:Int)*k)),1,(UE n1 k),0,(IntKind.wrap .i64 ((10:Int)+n1))⟩:Source)
abbrev ach:=(p1.length+[(Ra n1 k)].length)
abbrev aaN:=(au Source.cell [(Ra n1 k)])
abbrev Xu:=(p1++[(Ra n1 k)])
abbrev afz:=(au Source.cell (Xu p1 n1 k))
abbrev Yz:List (Nat × Option Ob):=[(408,some (.cells 26 [(cI 24),(.own 410 false u3.length),(.own 419 false p2.length),(.d nS)])),(419,some (bZ 66 6 Link.cell p2))]
abbrev aeC:=(Int.tmod (IntKind.wrap .i64 ((IntKind.wrap .i64 ((IntKind.wrap .i64 (i*(k4 n1)))+1))+(IntKind.wrap .i64 (Int.tdiv i 24)))) 24)
abbrev acK:=(IntKind.wrap .i64 ((100000:Int) - (IntKind.wrap .i64 ((IntKind.wrap .i64 (i*n1))*100))))
abbrev Rl:=(⟨(Int.tmod i 24),(aeC n1 i),1,(acK n1 i),(UE i n1),([]:List gD)⟩:Link)
abbrev aew:=(p2.length+[(Rl n1 i)].length)
abbrev XU:=(ou 6 [(.int .i64 (Int.tmod i 24)),(.int .i64 (aeC n1 i)),(.int .i64 1),(.int .i64 (acK n1 i)),(.int .i64 (UE i n1)),nS])
abbrev Te:=(p2++[(Rl n1 i)])
abbrev XR:=(sV (au Link.cell p2) p2.length (XU n1 i))
abbrev aam:=(u1.set i1.toNat (⟨(at' u1 i1.toNat).a,(Int.tmod (IntKind.wrap .i64 (((at' u1 i1.toNat).a)+1)) 24),(at' u1 i1.toNat).kind,(at' u1 i1.toNat).most,(at' u1 i1.toNat).bJ,(at' u1 i1.toNat).trip⟩:Link))
abbrev adS:=(au Link.cell (aam u1 i1))
abbrev afn:List (Nat × Option Ob):=[(408,some (.cells 26 [(cI 24),(.own 410 false u3.length),(.own 419 false u4.length),(.own 428 false p3.length)])),(428,some (bZ 71 4 aD.cell p3))]
abbrev QX:=(⟨(⟨u0,(Int.tmod (IntKind.wrap .i64 (u0+7)) 24)⟩:af),(UE u0 n1),2⟩:aD)
abbrev acR:=(p3.length+[(QX n1 u0)].length)
abbrev ZG:=(au aD.cell [(QX n1 u0)])
abbrev Xv:=(p3++[(QX n1 u0)])
abbrev aem:=(au aD.cell (Xv n1 p3 u0))
abbrev afo:List (Nat × Option Ob):=[(439,some (bZ 4 1 aj s3)),(444,some (.cells 29 [(.own 436 false u2.1.closed.length),(.own 437 false u2.1.locked.length),(.own 438 false u2.1.badLink.length),(.own 439 false s3.length),(.own 440 false u2.1.badSource.length),(.own 441 false u2.1.earthed.length),(.own 442 false u2.1.badBus.length)]))]
abbrev adj:=(⟨u2.1.closed,u2.1.locked,u2.1.badLink,u6,u2.1.badSource,u2.1.earthed,u2.1.badBus⟩:State)
end
theorem Bc:fD Tryz.prog 5 [] [] (fun r=>(vB r)) (fun _=>[]) (mO):=
  gI tT mX Tryz.func5 (
  .r<| .r<| .lp (σ:=Int) (β:=Unit) (0) [] [] ⟨[],[],fun n=>[(1,(vI n))],fun n=>[]⟩ ⟨[],[],fun _=>[],fun _=>[]⟩
  (fun n=> .r<| .it (.cl 4 (BB [(0,272),(1,273),(2,274),(3,275),(4,276),(5,277),(6,278),(7,279),(8,280),(9,281),(10,282),(11,283),(12,284)] (Ad [100,350,(Uq n)])) fun r_=> .a1 (700≠(0:Int))<| .rg {an:=[(3, .arr [100,350,(Uq n)].length (au (aG .i64) [100,350,(Uq n)]))],fr:=[(3,272),(8,285),(9,286)]} [0, .pf ⟨[100,350,(Uq n)].length=3,rfl⟩, .pf ⟨aC 3 1 (ou 1 [(.int .i64 100),(.int .i64 350),(.int .i64 (Uq n))]) (au (aG .i64) [100,350,(Uq n)]),(by intro i hi j hj;match i,j,hi,hj with|0,0,_,_=>rfl|1,0,_,_=>rfl|2,0,_,_=>rfl)⟩,1]<| .a1 ((0:Int)≤1∧1<(r_.1.racks.length:Int))<| .rg {an:=[(5, .arr 0 (aag r_))],fz:=[273,274,275]} [0, .pf ⟨(0:Int)≤1∧(1:Int)<(2:Nat),(by decide)⟩, .t 0 1 r_.1.racks.length, .pf ⟨aC r_.1.racks.length 4 (fe (au aD.cell r_.1.racks) 1 1 [(.int .i64 2)]) (aag r_),aK _ _ _ _ _ _ _ _ rfl (fun j hj=>(match j,hj with|0,_=>rfl|1,_=>rfl|2,_=>rfl|3,_=>rfl))⟩]<| .im (.uh 285 (some (.cells 26 [(cI r_.1.buses),(.d (bM (some true) 5 Source.cell r_.1.sources)),(.d (bM (some true) 6 Link.cell r_.1.links)),(.d (.sl none 4 r_.1.racks.length (aag r_)))])) (some (.cells 26 (Xf r_))) (bH ⟨gV.refl _,gV.refl _,gV.refl _,gV.d (jL.slN (by simp only [List.length_set]) (.inr rfl) (fun _ _ _ _=> .refl _)),trivial⟩))<| .fz [285]<| .as _ inferInstance [(0:Int)≤0∧0<(r_.2.closed.length:Int),(0:Int)≤1∧1<(r_.2.closed.length:Int),(0:Int)≤0∧0<(r_.2.badLink.length:Int),(0:Int)≤0∧0<(r_.2.on_.length:Int),(0:Int)≤1∧1<(r_.2.on_.length:Int),(0:Int)≤0∧0<(r_.2.badSource.length:Int),(0:Int)≤0∧0<(r_.2.badBus.length:Int),(0:Int)≤1∧1<(r_.2.badBus.length:Int),(0:Int)≤2∧2<(r_.2.badBus.length:Int)] (fun h=> ⟨h.1,h.2.1,h.2.2.1,h.2.2.2.1,h.2.2.2.2.1,h.2.2.2.2.2.1,h.2.2.2.2.2.2.1,h.2.2.2.2.2.2.2.1,h.2.2.2.2.2.2.2.2,trivial⟩:(((0:Int)≤0∧0<(r_.2.closed.length:Int))∧((0:Int)≤1∧1<(r_.2.closed.length:Int))∧((0:Int)≤0∧0<(r_.2.badLink.length:Int))∧((0:Int)≤0∧0<(r_.2.on_.length:Int))∧((0:Int)≤1∧1<(r_.2.on_.length:Int))∧((0:Int)≤0∧0<(r_.2.badSource.length:Int))∧((0:Int)≤0∧0<(r_.2.badBus.length:Int))∧((0:Int)≤1∧1<(r_.2.badBus.length:Int))∧((0:Int)≤2∧2<(r_.2.badBus.length:Int)))→_)<| .rg {an:=[(27, .cells)],fr:=[(27,287)]} [0,1,2,3,4,5,6,7,8]<| .r<| .ul 11<| .r<| .t<| .a3 ((0:Int)≤0∧0<(9:Int)) ((0:Int)≤0) (0<r_.2.closed.length)<| .rg {an:=[(10, .arr 0 (aaH n r_))]} [0,1,2, .pf ⟨aC r_.2.closed.length 1 (fe (au aj r_.2.closed) 0 0 [(.bool (adQ n))]) (aaH n r_),aK _ _ _ _ _ _ _ _ rfl (fun j hj=>(match j,hj with|0,_=>rfl))⟩]<| .im (.ll 276 r_.2.closed (Sl n r_))<| .r<| .r<| .t<| .a3 ((0:Int)≤1∧1<(9:Int)) ((0:Int)≤1) (1<(Sl n r_).length)<| .rg {an:=[(10, .arr 0 (afP n r_))]} [0,1,2, .pf ⟨aC (Sl n r_).length 1 (fe (aaH n r_) 1 0 [(.bool (aep n))]) (afP n r_),aK _ _ _ _ _ _ _ _ rfl (fun j hj=>(match j,hj with|0,_=>rfl))⟩]<| .im (.ll 276 (Sl n r_) (Kt n r_))<| .r<| .r<| .t<| .a3 ((0:Int)≤2∧2<(9:Int)) ((0:Int)≤2) (0<r_.2.badLink.length)<| .rg {an:=[(10, .arr 0 (afC n r_))]} [0,1,2, .pf ⟨aC r_.2.badLink.length 1 (fe (au aj r_.2.badLink) 0 0 [(.bool (aey n))]) (afC n r_),aK _ _ _ _ _ _ _ _ rfl (fun j hj=>(match j,hj with|0,_=>rfl))⟩]<| .im (.ll 278 r_.2.badLink (Ko n r_))<| .r<| .r<| .t<| .a3 ((0:Int)≤3∧3<(9:Int)) ((0:Int)≤3) (0<r_.2.on_.length)<| .rg {an:=[(10, .arr 0 (abo n r_))]} [0,1,2, .pf ⟨aC r_.2.on_.length 1 (fe (au aj r_.2.on_) 0 0 [(.bool (aeF n))]) (abo n r_),aK _ _ _ _ _ _ _ _ rfl (fun j hj=>(match j,hj with|0,_=>rfl))⟩]<| .im (.ll 279 r_.2.on_ (TJ n r_))<| .r<| .r<| .t<| .a3 ((0:Int)≤4∧4<(9:Int)) ((0:Int)≤4) (1<(TJ n r_).length)<| .rg {an:=[(10, .arr 0 (afH n r_))]} [0,1,2, .pf ⟨aC (TJ n r_).length 1 (fe (abo n r_) 1 0 [(.bool (acO n))]) (afH n r_),aK _ _ _ _ _ _ _ _ rfl (fun j hj=>(match j,hj with|0,_=>rfl))⟩]<| .im (.ll 279 (TJ n r_) (Kl n r_))<| .r<| .r<| .t<| .a3 ((0:Int)≤5∧5<(9:Int)) ((0:Int)≤5) (0<r_.2.badSource.length)<| .rg {an:=[(10, .arr 0 (adt n r_))]} [0,1,2, .pf ⟨aC r_.2.badSource.length 1 (fe (au aj r_.2.badSource) 0 0 [(.bool (afv n))]) (adt n r_),aK _ _ _ _ _ _ _ _ rfl (fun j hj=>(match j,hj with|0,_=>rfl))⟩]<| .im (.ll 280 r_.2.badSource (J7 n r_))<| .r<| .r<| .t<| .a3 ((0:Int)≤6∧6<(9:Int)) ((0:Int)≤6) (0<r_.2.badBus.length)<| .rg {an:=[(10, .arr 0 (aaA n r_))]} [0,1,2, .pf ⟨aC r_.2.badBus.length 1 (fe (au aj r_.2.badBus) 0 0 [(.bool (adi n))]) (aaA n r_),aK _ _ _ _ _ _ _ _ rfl (fun j hj=>(match j,hj with|0,_=>rfl))⟩]<| .im (.ll 282 r_.2.badBus (Ui n r_))<| .r<| .r<| .t<| .a3 ((0:Int)≤7∧7<(9:Int)) ((0:Int)≤7) (1<(Ui n r_).length)<| .rg {an:=[(10, .arr 0 (aai n r_))]} [0,1,2, .pf ⟨aC (Ui n r_).length 1 (fe (aaA n r_) 1 0 [(.bool (aea n))]) (aai n r_),aK _ _ _ _ _ _ _ _ rfl (fun j hj=>(match j,hj with|0,_=>rfl))⟩]<| .im (.ll 282 (Ui n r_) (Sq n r_))<| .r<| .r<| .t<| .a3 ((0:Int)≤8∧8<(9:Int)) ((0:Int)≤8) (2<(Sq n r_).length)<| .rg {an:=[(10, .arr 0 (afx n r_))]} [0,1,2, .pf ⟨aC (Sq n r_).length 1 (fe (aai n r_) 2 0 [(.bool (acT n))]) (afx n r_),aK _ _ _ _ _ _ _ _ rfl (fun j hj=>(match j,hj with|0,_=>rfl))⟩]<| .im (.ll 282 (Sq n r_) (Kv n r_))<| .r<| .r<| .f<| .cr 2 ⟨fun{u8} hr_1=>((Fn.Ep (frz:=[276,277,278,279,280,281,282]) (p:=[(Kt n r_).length=(Kt n r_).length,r_.2.locked.length=r_.2.locked.length,(Ko n r_).length=(Ko n r_).length,(Kl n r_).length=(Kl n r_).length,(J7 n r_).length=(J7 n r_).length,r_.2.earthed.length=r_.2.earthed.length,(Kv n r_).length=(Kv n r_).length]) (Fn.le (args':=[(.agg (Xf r_)),(.agg (adH n r_))]) (z8 (aeB r_) (ael n r_) hr_1) (by exact⟨uI.agg ⟨gV.refl _,gV.d jL.rX,gV.d jL.rX,gV.refl _,trivial⟩,uI.agg ⟨gV.d jL.rX,gV.d jL.rX,gV.d jL.rX,gV.d jL.rX,gV.d jL.rX,gV.d jL.rX,gV.d jL.rX,trivial⟩,trivial⟩)) (by kernel_rfl) ⟨rfl,rfl,rfl,rfl,rfl,rfl,rfl,trivial⟩ rfl):Fn Tryz.prog 24 [(.agg (Xf r_)),(.agg (adB n r_))] (XG n r_) (vB u8) (XG n r_))⟩ fun u8=> .cgr 10 [((!u8),false)] ⟨fun{v0} hr_2=>((Fn.Ep (frz:=[276,277,278,279,280,281,282]) (p:=[(Kt n r_).length=(Kt n r_).length,r_.2.locked.length=r_.2.locked.length,(Ko n r_).length=(Ko n r_).length,(Kl n r_).length=(Kl n r_).length,(J7 n r_).length=(J7 n r_).length,r_.2.earthed.length=r_.2.earthed.length,(Kv n r_).length=(Kv n r_).length]) (Fn.le (args':=[(.agg (Xf r_)),(.agg (adH n r_)),(sI (IntKind.wrap .i64 ((Int.tmod n 5) - 1))),(sD nS)]) (Ai (aeB r_) (ael n r_) (IntKind.wrap .i64 ((Int.tmod n 5) - 1)) ([]:List Short) hr_2) (by exact⟨uI.agg ⟨gV.refl _,gV.d jL.rX,gV.d jL.rX,gV.refl _,trivial⟩,uI.agg ⟨gV.d jL.rX,gV.d jL.rX,gV.d jL.rX,gV.d jL.rX,gV.d jL.rX,gV.d jL.rX,gV.d jL.rX,trivial⟩,uI.refl _,uI.one (gV.d jL.nil'),trivial⟩)) (by kernel_rfl) ⟨rfl,rfl,rfl,rfl,rfl,rfl,rfl,trivial⟩ rfl):Fn Tryz.prog 25 [(.agg (Xf r_)),(.agg (adB n r_)),(sI (IntKind.wrap .i64 ((Int.tmod n 5) - 1))),(sD nS)] (XG n r_) (vB v0) (XG n r_))⟩ fun v0=> .a1 ((gB [((!u8),false)]=true→5≠(0:Int)))<| .rg {} [2,0,1]<| .it (.r<| .e (.done (.ret false)))
  (.r<| .e (.next (k4 n))))
  (.e (.done (.brk ()))))
  (fun _=> .r<| .lp (σ:=Int) (β:=Unit) (0) [] [] ⟨[],[],fun n1=>[(6,(vI n1))],fun n1=>[]⟩ ⟨[],[],fun _=>[],fun _=>[]⟩
  (fun n1=> .r<| .it (.rg {fr:=[(1,408)]} []<| .r<| .im (.P5 408 1 417 60 5 (au Source.cell ([]:List Source)))<| .lp (σ:=((List Source) × Int)) (β:=(List Source)) (([]:List Source),0) [] [(417,410)] ⟨[6,7],[],fun(p1,k)=>[(8,(vI k))],fun(p1,k)=>(af5 p1)⟩ ⟨[6,7],[],fun u3=>[],fun u3=>(af5 u3)⟩
  (fun(p1,k)=> .r<| .it (.r<| .a2 ((ach p1 n1 k)*40≤140737488355328) (p1.length+[(Ra n1 k)].length≤4611686018427387904)<| .rg {an:=[(10, .arr [(Ra n1 k)].length (aaN n1 k)),(11, .arr (Xu p1 n1 k).length (afz p1 n1 k))],fr:=[(10,415),(11,416)]} [.pf ⟨[(Ra n1 k)].length=1,rfl⟩, .pf ⟨aC 1 5 (ou 5 [(.int .i64 (IntKind.wrap .i64 ((3:Int)*k))),(.int .i64 1),(.int .i64 (UE n1 k)),(.int .i64 0),(.int .i64 (IntKind.wrap .i64 ((10:Int)+n1)))]) (aaN n1 k),(by intro i hi j hj;match i,j,hi,hj with|0,0,_,_=>rfl|0,1,_,_=>rfl|0,2,_,_=>rfl|0,3,_,_=>rfl|0,4,_,_=>rfl)⟩, .e (p1.length),0,1, .pf ⟨(Xu p1 n1 k).length=p1.length+[(Ra n1 k)].length,List.length_append⟩, .pf ⟨aC (ach p1 n1 k) 5 (sV (au Source.cell p1) p1.length (aaN n1 k)) (afz p1 n1 k),dw _ _ _ _⟩]<| .r<| .en (.next ((Xu p1 n1 k),(k4 k))) [] [(416,410)])
  (.e (.done (.brk p1))))
  (fun u3=> .r<| .im (.P5 408 2 426 66 6 (au Link.cell ([]:List Link)))<| .lp (σ:=((List Link) × Int)) (β:=(List Link)) (([]:List Link),0) [] [(426,419)] ⟨[6,7],[410],fun(p2,i)=>[(10,(vI i))],fun(p2,i)=>(Yz u3 p2)⟩ ⟨[6,7],[410],fun u7=>[],fun u7=>(Yz u3 u7)⟩
  (fun(p2,i)=> .r<| .it (.r<| .a3 (24≠(0:Int)) ((aew n1 p2 i)*64≤140737488355328) (p2.length+[(Rl n1 i)].length≤4611686018427387904)<| .rg {an:=[(22, .arr [(Rl n1 i)].length (XU n1 i)),(23, .arr (Te n1 p2 i).length (XR n1 p2 i))],fr:=[(22,424),(23,425)]} [0,0,0, .pf ⟨[(Rl n1 i)].length=1,rfl⟩, .pf ⟨aC 1 6 (XU n1 i) (XU n1 i),fI _ _ _⟩, .e (p2.length),1,2, .pf ⟨(Te n1 p2 i).length=p2.length+[(Rl n1 i)].length,List.length_append⟩, .pf ⟨aC (aew n1 p2 i) 6 (XR n1 p2 i) (XR n1 p2 i),fI _ _ _⟩]<| .im (.uh 425 (some (.arr 66 6 (Te n1 p2 i).length (XR n1 p2 i))) (some (.arr 66 6 (Te n1 p2 i).length (au Link.cell (Te n1 p2 i)))) (Hu (agV Link.cell p2 [(Rl n1 i)] _ (by intro i hi j hj;match i,j,hi,hj with|0,0,_,_=>exact .refl _|0,1,_,_=>exact .refl _|0,2,_,_=>exact .refl _|0,3,_,_=>exact .refl _|0,4,_,_=>exact .refl _|0,5,_,_=>exact jL.nil'))))<| .r<| .en (.next ((Te n1 p2 i),(k4 i))) [] [(425,419)])
  (.e (.done (.brk p2))))
  (fun u7=> .r<| .lp (σ:=((List Link) × Int)) (β:=(List Link)) (u7,0) [] [] ⟨[6,7],[410],fun(u1,i1)=>[(12,(vI i1))],fun(u1,i1)=>(Yz u3 u1)⟩ ⟨[6,7],[410],fun u4=>[],fun u4=>(Yz u3 u4)⟩
  (fun(u1,i1)=> .r<| .it (.a1 (k3 u1 i1)<| .rg {} [0, .t 0 i1 u1.length,0, .t 0 i1 u1.length]<| .it (.a2 (k3 u1 i1) (24≠(0:Int))<| .rg {an:=[(13, .arr 0 (adS u1 i1))]} [0, .t 0 i1 u1.length,1,0, .t 0 i1 u1.length, .pf ⟨aC u1.length 6 (fe (au Link.cell u1) i1.toNat 1 [(.int .i64 (Int.tmod (IntKind.wrap .i64 (((at' u1 i1.toNat).a)+1)) 24))]) (adS u1 i1),aK _ _ _ _ _ _ _ _ rfl (fun j hj=>(match j,hj with|0,_=>rfl|1,_=>rfl|2,_=>rfl|3,_=>rfl|4,_=>rfl|5,_=>rfl))⟩]<| .im (.ll 419 u1 (aam u1 i1))<| .r<| .e (.next ((aam u1 i1),(k4 i1))))
  (.r<| .e (.next (u1,(k4 i1)))))
  (.e (.done (.brk u1))))
  (fun u4=> .r<| .im (.P5 408 3 435 71 4 (au aD.cell ([]:List aD)))<| .lp (σ:=((List aD) × Int)) (β:=(List aD)) (([]:List aD),0) [] [(435,428)] ⟨[6,7],[410,419],fun(p3,u0)=>[(13,(vI u0))],fun(p3,u0)=>(afn u3 u4 p3)⟩ ⟨[6,7],[410,419],fun u5=>[],fun u5=>(afn u3 u4 u5)⟩
  (fun(p3,u0)=> .r<| .it (.r<| .a3 (24≠(0:Int)) ((acR n1 p3 u0)*32≤140737488355328) (p3.length+[(QX n1 u0)].length≤4611686018427387904)<| .rg {an:=[(11, .arr [(QX n1 u0)].length (ZG n1 u0)),(12, .arr (Xv n1 p3 u0).length (aem n1 p3 u0))],fr:=[(11,433),(12,434)]} [0, .pf ⟨[(QX n1 u0)].length=1,rfl⟩, .pf ⟨aC 1 4 (ou 4 [(.int .i64 u0),(.int .i64 (Int.tmod (IntKind.wrap .i64 (u0+7)) 24)),(.int .i64 (UE u0 n1)),(.int .i64 2)]) (ZG n1 u0),(by intro i hi j hj;match i,j,hi,hj with|0,0,_,_=>rfl|0,1,_,_=>rfl|0,2,_,_=>rfl|0,3,_,_=>rfl)⟩, .e (p3.length),1,2, .pf ⟨(Xv n1 p3 u0).length=p3.length+[(QX n1 u0)].length,List.length_append⟩, .pf ⟨aC (acR n1 p3 u0) 4 (sV (au aD.cell p3) p3.length (ZG n1 u0)) (aem n1 p3 u0),dw _ _ _ _⟩]<| .r<| .en (.next ((Xv n1 p3 u0),(k4 u0))) [] [(434,428)])
  (.e (.done (.brk p3))))
  (fun u5=> .cl 1 (BB [(0,410),(1,419),(2,428),(3,436),(4,437),(5,438),(6,439),(7,440),(8,441),(9,442),(10,443)] (Am (⟨24,u3,u4,u5⟩:ah))) fun u2=> .rg {fr:=[(5,444)],fz:=[410,419,428]} []<| .fz [408]<| .r<| .it (.r<| .e (.done (.ret false)))
  (.r<| .lp (σ:=((List Bool) × Int)) (β:=(List Bool)) (u2.1.on_,0) [] [] ⟨[6,7,15],[436,437,438,440,441,442],fun(s3,k1)=>[(17,(vI k1))],fun(s3,k1)=>(afo s3 u2)⟩ ⟨[6,7,15],[436,437,438,440,441,442],fun u6=>[],fun u6=>(afo u6 u2)⟩
  (fun(s3,k1)=> .r<| .it (.a1 (k10 k1 s3)<| .rg {an:=[(7, .arr 0 (au aj (s3.set k1.toNat (!decide (k1=n1)))))]} [0, .t 0 k1 s3.length, .pf ⟨aC s3.length 1 (fe (au aj s3) k1.toNat 0 [(.bool (!decide (k1=n1)))]) (au aj (s3.set k1.toNat (!decide (k1=n1)))),aK _ _ _ _ _ _ _ _ rfl (fun j hj=>(match j,hj with|0,_=>rfl))⟩]<| .im (.ll 439 s3 (s3.set k1.toNat (!decide (k1=n1))))<| .r<| .e (.next ((s3.set k1.toNat (!decide (k1=n1))),(k4 k1))))
  (.e (.done (.brk s3))))
  (fun u6=> .cl 2 (BB [(0,436),(1,437),(2,438),(3,439),(4,440),(5,441),(6,442),(7,445),(8,446),(9,447),(10,448),(11,449)] ⟨fun h=>CS (⟨24,u3,u4,u5⟩:ah) (adj u2 u6) h⟩) fun u9=> .rg {fr:=[(7,450)],fz:=[436,437,438,439,440,441,442,445,446,447,448]} []<| .fz [444,450]<| .cg 7 [((!decide (u9.2.2=0)),false)] (DC (⟨24,u3,u4,u5⟩:ah) (adj u2 u6) u9.1 u9.2.1) fun v2=> .r<| .it (.r<| .e (.done (.ret false)))
  (.r<| .e (.next (k4 n1))))))))))
  (.e (.done (.brk ()))))
  (fun _=> .cl 0 gM fun v1=> .r<| .e v1)))
end
end Sg
