import Derived.Test.YtpndenfhglaikaaGreatW4
set_option linter.all false
namespace Sg
open Go Go.Proofs
set_option maxRecDepth 20000
noncomputable section
section
variable (n:Int) (r_:(ah × State)) (p1:(List Source)) (n1:Int) (k:Int) (u3:(List Source)) (p2:(List Link)) (i:Int) (u1:(List Link)) (i1:Int) (u4:(List Link)) (p3:(List aC)) (u0:Int) (s3:(List Bool)) (u2:(State × Int)) (u6:(List Bool))
abbrev Tn:=(IntKind.wrap .i64 ((1:Int)+(Int.tmod n 700)))
abbrev aat:=(r_.1.racks.set 1 (⟨(⟨((at' r_.1.racks 1).feeds).e0,2⟩:af),(at' r_.1.racks 1).power,(at' r_.1.racks 1).paths⟩:aC))
abbrev ZH:=(au aC.cell (aat r_))
abbrev VH:List CV:=[(cI r_.1.buses),(.d (bM (some true) 5 Source.cell r_.1.sources)),(.d (bM (some true) 6 Link.cell r_.1.links)),(.d (bM none 4 aC.cell (aat r_)))]
abbrev aeE:=(decide ((IntKind.wrap .i64 (((BitVec.ofInt (IntKind.bits .i64) (Int.fdiv n (2 ^ min 0 (IntKind.bits .i64))) &&& BitVec.ofInt (IntKind.bits .i64) 1).toNat:Int)))=1))
abbrev TM:=(r_.2.closed.set 0 (aeE n))
abbrev Z9:=(au aj (TM n r_))
abbrev afK:=(decide ((IntKind.wrap .i64 (((BitVec.ofInt (IntKind.bits .i64) (Int.fdiv n (2 ^ min 1 (IntKind.bits .i64))) &&& BitVec.ofInt (IntKind.bits .i64) 1).toNat:Int)))=1))
abbrev Ka:=((TM n r_).set 1 (afK n))
abbrev ade:=(au aj (Ka n r_))
abbrev afy:=(decide ((IntKind.wrap .i64 (((BitVec.ofInt (IntKind.bits .i64) (Int.fdiv n (2 ^ min 2 (IntKind.bits .i64))) &&& BitVec.ofInt (IntKind.bits .i64) 1).toNat:Int)))=1))
abbrev Kr:=(r_.2.badLink.set 0 (afy n))
abbrev ad6:=(au aj (Kr n r_))
abbrev adE:=(decide ((IntKind.wrap .i64 (((BitVec.ofInt (IntKind.bits .i64) (Int.fdiv n (2 ^ min 3 (IntKind.bits .i64))) &&& BitVec.ofInt (IntKind.bits .i64) 1).toNat:Int)))=1))
abbrev TR:=(r_.2.on_.set 0 (adE n))
abbrev aaK:=(au aj (TR n r_))
abbrev adx:=(decide ((IntKind.wrap .i64 (((BitVec.ofInt (IntKind.bits .i64) (Int.fdiv n (2 ^ min 4 (IntKind.bits .i64))) &&& BitVec.ofInt (IntKind.bits .i64) 1).toNat:Int)))=1))
abbrev JZ:=((TR n r_).set 1 (adx n))
abbrev afL:=(au aj (JZ n r_))
abbrev aew:=(decide ((IntKind.wrap .i64 (((BitVec.ofInt (IntKind.bits .i64) (Int.fdiv n (2 ^ min 5 (IntKind.bits .i64))) &&& BitVec.ofInt (IntKind.bits .i64) 1).toNat:Int)))=1))
abbrev JY:=(r_.2.badSource.set 0 (aew n))
abbrev ae7:=(au aj (JY n r_))
abbrev ae1:=(decide ((IntKind.wrap .i64 (((BitVec.ofInt (IntKind.bits .i64) (Int.fdiv n (2 ^ min 6 (IntKind.bits .i64))) &&& BitVec.ofInt (IntKind.bits .i64) 1).toNat:Int)))=1))
abbrev Si:=(r_.2.badBus.set 0 (ae1 n))
abbrev ZG:=(au aj (Si n r_))
abbrev aef:=(decide ((IntKind.wrap .i64 (((BitVec.ofInt (IntKind.bits .i64) (Int.fdiv n (2 ^ min 7 (IntKind.bits .i64))) &&& BitVec.ofInt (IntKind.bits .i64) 1).toNat:Int)))=1))
abbrev TH:=((Si n r_).set 1 (aef n))
abbrev aa9:=(au aj (TH n r_))
abbrev aeb:=(decide ((IntKind.wrap .i64 (((BitVec.ofInt (IntKind.bits .i64) (Int.fdiv n (2 ^ min 8 (IntKind.bits .i64))) &&& BitVec.ofInt (IntKind.bits .i64) 1).toNat:Int)))=1))
abbrev Ky:=((TH n r_).set 2 (aeb n))
abbrev aeK:=(au aj (Ky n r_))
abbrev adB:List CV:=[(.d (bM (some true) 1 aj (Ka n r_))),(.d (bM (some true) 1 aj r_.2.locked)),(.d (bM (some true) 1 aj (Kr n r_))),(.d (bM (some true) 1 aj (JZ n r_))),(.d (bM (some true) 1 aj (JY n r_))),(.d (bM (some true) 1 aj r_.2.earthed)),(.d (bM (some true) 1 aj (Ky n r_)))]
abbrev aeL:=(⟨r_.1.buses,r_.1.sources,r_.1.links,(aat r_)⟩:ah)
abbrev acX:=(⟨(Ka n r_),r_.2.locked,(Kr n r_),(JZ n r_),(JY n r_),r_.2.earthed,(Ky n r_)⟩:State)
abbrev afv:List CV:=[(.own 276 true ((Ka n r_).length)),(.own 277 true r_.2.locked.length),(.own 278 true ((Kr n r_).length)),(.own 279 true ((JZ n r_).length)),(.own 280 true ((JY n r_).length)),(.own 281 true r_.2.earthed.length),(.own 282 true ((Ky n r_).length))]
abbrev XU:List (Nat × Option Ob):=[(276,some (bZ 4 1 aj (Ka n r_))),(277,some (bZ 4 1 aj r_.2.locked)),(278,some (bZ 4 1 aj (Kr n r_))),(279,some (bZ 4 1 aj (JZ n r_))),(280,some (bZ 4 1 aj (JY n r_))),(281,some (bZ 4 1 aj r_.2.earthed)),(282,some (bZ 4 1 aj (Ky n r_)))]
abbrev aeT:List (Nat × Option Ob):=[(408,some (.cells 26 [(cI 24),(.own 410 false p1.length),(.d nS),(.d nS)])),(410,some (bZ 60 5 Source.cell p1))]
abbrev Uq:=(IntKind.wrap .i64 ((100000:Int) - (IntKind.wrap .i64 (n1*k))))
abbrev PN:=(⟨(IntKind.wrap .i64 ((3:Int)*k)),1,(Uq n1 k),0,(IntKind.wrap .i64 ((10:Int)+n1))⟩:Source)
abbrev aff:=(p1.length+[(PN n1 k)].length)
abbrev aaU:=(au Source.cell [(PN n1 k)])
abbrev Y0:=(p1++[(PN n1 k)])
abbrev acN:=(au Source.cell (Y0 p1 n1 k))
abbrev XG:List (Nat × Option Ob):=[(408,some (.cells 26 [(cI 24),(.own 410 false u3.length),(.own 419 false p2.length),(.d nS)])),(419,some (bZ 66 6 Link.cell p2))]
abbrev af5:=(Int.tmod (IntKind.wrap .i64 ((IntKind.wrap .i64 ((IntKind.wrap .i64 (i*(k4 n1)))+1))+(IntKind.wrap .i64 (Int.tdiv i 24)))) 24)
abbrev afQ:=(IntKind.wrap .i64 ((100000:Int) - (IntKind.wrap .i64 ((IntKind.wrap .i64 (i*n1))*100))))
abbrev Q5:=(⟨(Int.tmod i 24),(af5 n1 i),1,(afQ n1 i),(Uq i n1),([]:List gD)⟩:Link)
abbrev aeu:=(p2.length+[(Q5 n1 i)].length)
abbrev XQ:=(pz 6 [(.int .i64 (Int.tmod i 24)),(.int .i64 (af5 n1 i)),(.int .i64 1),(.int .i64 (afQ n1 i)),(.int .i64 (Uq i n1)),nS])
abbrev R9:=(p2++[(Q5 n1 i)])
abbrev XI:=(sW (au Link.cell p2) p2.length (XQ n1 i))
abbrev Z7:=(u1.set i1.toNat (⟨(at' u1 i1.toNat).a,(Int.tmod (IntKind.wrap .i64 (((at' u1 i1.toNat).a)+1)) 24),(at' u1 i1.toNat).kind,(at' u1 i1.toNat).most,(at' u1 i1.toNat).bJ,(at' u1 i1.toNat).trip⟩:Link))
abbrev afm:=(au Link.cell (Z7 u1 i1))
abbrev adz:List (Nat × Option Ob):=[(408,some (.cells 26 [(cI 24),(.own 410 false u3.length),(.own 419 false u4.length),(.own 428 false p3.length)])),(428,some (bZ 71 4 aC.cell p3))]
abbrev QK:=(⟨(⟨u0,(Int.tmod (IntKind.wrap .i64 (u0+7)) 24)⟩:af),(Uq u0 n1),2⟩:aC)
abbrev afP:=(p3.length+[(QK n1 u0)].length)
abbrev abz:=(au aC.cell [(QK n1 u0)])
abbrev Xk:=(p3++[(QK n1 u0)])
abbrev aeG:=(au aC.cell (Xk n1 p3 u0))
abbrev afB:List (Nat × Option Ob):=[(439,some (bZ 4 1 aj s3)),(444,some (.cells 29 [(.own 436 false u2.1.closed.length),(.own 437 false u2.1.locked.length),(.own 438 false u2.1.badLink.length),(.own 439 false s3.length),(.own 440 false u2.1.badSource.length),(.own 441 false u2.1.earthed.length),(.own 442 false u2.1.badBus.length)]))]
abbrev afA:=(⟨u2.1.closed,u2.1.locked,u2.1.badLink,u6,u2.1.badSource,u2.1.earthed,u2.1.badBus⟩:State)
end
theorem Az:fB Tryz.prog 5 [] [] (fun r=>(vB r)) (fun _=>[]) (mR):=
  gJ tT mX Tryz.func5 (
  .r<| .r<| .lp (σ:=Int) (β:=Unit) (0) [] [] ⟨[],[],fun n=>[(1,(vI n))],fun n=>[]⟩ ⟨[],[],fun _=>[],fun _=>[]⟩
  (fun n=> .r<| .it (.cl 4 (BD [(0,272),(1,273),(2,274),(3,275),(4,276),(5,277),(6,278),(7,279),(8,280),(9,281),(10,282),(11,283),(12,284)] (zZ [100,350,(Tn n)])) fun r_=> .a1 (700≠(0:Int))<| .rg {an:=[(3, .arr [100,350,(Tn n)].length (au (aG .i64) [100,350,(Tn n)]))],fr:=[(3,272),(8,285),(9,286)]} [0, .pf ⟨[100,350,(Tn n)].length=3,rfl⟩, .pf ⟨aD 3 1 (pz 1 [(.int .i64 100),(.int .i64 350),(.int .i64 (Tn n))]) (au (aG .i64) [100,350,(Tn n)]),(by intro i hi j hj;match i,j,hi,hj with|0,0,_,_=>rfl|1,0,_,_=>rfl|2,0,_,_=>rfl)⟩,1]<| .a1 ((0:Int)≤1∧1<(r_.1.racks.length:Int))<| .rg {an:=[(5, .arr 0 (ZH r_))],fz:=[273,274,275]} [0, .pf ⟨(0:Int)≤1∧(1:Int)<(2:Nat),(by decide)⟩, .t 0 1 r_.1.racks.length, .pf ⟨aD r_.1.racks.length 4 (eX (au aC.cell r_.1.racks) 1 1 [(.int .i64 2)]) (ZH r_),aK _ _ _ _ _ _ _ _ rfl (fun j hj=>(match j,hj with|0,_=>rfl|1,_=>rfl|2,_=>rfl|3,_=>rfl))⟩]<| .im (.uh 285 (some (.cells 26 [(cI r_.1.buses),(.d (bM (some true) 5 Source.cell r_.1.sources)),(.d (bM (some true) 6 Link.cell r_.1.links)),(.d (.sl none 4 r_.1.racks.length (ZH r_)))])) (some (.cells 26 (VH r_))) (bH ⟨gV.refl _,gV.refl _,gV.refl _,gV.d (jK.slN (by simp only [List.length_set]) (.inr rfl) (fun _ _ _ _=> .refl _)),trivial⟩))<| .fz [285]<| .as _ inferInstance [(0:Int)≤0∧0<(r_.2.closed.length:Int),(0:Int)≤1∧1<(r_.2.closed.length:Int),(0:Int)≤0∧0<(r_.2.badLink.length:Int),(0:Int)≤0∧0<(r_.2.on_.length:Int),(0:Int)≤1∧1<(r_.2.on_.length:Int),(0:Int)≤0∧0<(r_.2.badSource.length:Int),(0:Int)≤0∧0<(r_.2.badBus.length:Int),(0:Int)≤1∧1<(r_.2.badBus.length:Int),(0:Int)≤2∧2<(r_.2.badBus.length:Int)] (fun h=> ⟨h.1,h.2.1,h.2.2.1,h.2.2.2.1,h.2.2.2.2.1,h.2.2.2.2.2.1,h.2.2.2.2.2.2.1,h.2.2.2.2.2.2.2.1,h.2.2.2.2.2.2.2.2,trivial⟩:(((0:Int)≤0∧0<(r_.2.closed.length:Int))∧((0:Int)≤1∧1<(r_.2.closed.length:Int))∧((0:Int)≤0∧0<(r_.2.badLink.length:Int))∧((0:Int)≤0∧0<(r_.2.on_.length:Int))∧((0:Int)≤1∧1<(r_.2.on_.length:Int))∧((0:Int)≤0∧0<(r_.2.badSource.length:Int))∧((0:Int)≤0∧0<(r_.2.badBus.length:Int))∧((0:Int)≤1∧1<(r_.2.badBus.length:Int))∧((0:Int)≤2∧2<(r_.2.badBus.length:Int)))→_)<| .rg {an:=[(27, .cells)],fr:=[(27,287)]} [0,1,2,3,4,5,6,7,8]<| .r<| .ul 11<| .r<| .t<| .a3 ((0:Int)≤0∧0<(9:Int)) ((0:Int)≤0) (0<r_.2.closed.length)<| .rg {an:=[(10, .arr 0 (Z9 n r_))]} [0,1,2, .pf ⟨aD r_.2.closed.length 1 (eX (au aj r_.2.closed) 0 0 [(.bool (aeE n))]) (Z9 n r_),aK _ _ _ _ _ _ _ _ rfl (fun j hj=>(match j,hj with|0,_=>rfl))⟩]<| .im (.ll 276 r_.2.closed (TM n r_))<| .r<| .r<| .t<| .a3 ((0:Int)≤1∧1<(9:Int)) ((0:Int)≤1) (1<(TM n r_).length)<| .rg {an:=[(10, .arr 0 (ade n r_))]} [0,1,2, .pf ⟨aD (TM n r_).length 1 (eX (Z9 n r_) 1 0 [(.bool (afK n))]) (ade n r_),aK _ _ _ _ _ _ _ _ rfl (fun j hj=>(match j,hj with|0,_=>rfl))⟩]<| .im (.ll 276 (TM n r_) (Ka n r_))<| .r<| .r<| .t<| .a3 ((0:Int)≤2∧2<(9:Int)) ((0:Int)≤2) (0<r_.2.badLink.length)<| .rg {an:=[(10, .arr 0 (ad6 n r_))]} [0,1,2, .pf ⟨aD r_.2.badLink.length 1 (eX (au aj r_.2.badLink) 0 0 [(.bool (afy n))]) (ad6 n r_),aK _ _ _ _ _ _ _ _ rfl (fun j hj=>(match j,hj with|0,_=>rfl))⟩]<| .im (.ll 278 r_.2.badLink (Kr n r_))<| .r<| .r<| .t<| .a3 ((0:Int)≤3∧3<(9:Int)) ((0:Int)≤3) (0<r_.2.on_.length)<| .rg {an:=[(10, .arr 0 (aaK n r_))]} [0,1,2, .pf ⟨aD r_.2.on_.length 1 (eX (au aj r_.2.on_) 0 0 [(.bool (adE n))]) (aaK n r_),aK _ _ _ _ _ _ _ _ rfl (fun j hj=>(match j,hj with|0,_=>rfl))⟩]<| .im (.ll 279 r_.2.on_ (TR n r_))<| .r<| .r<| .t<| .a3 ((0:Int)≤4∧4<(9:Int)) ((0:Int)≤4) (1<(TR n r_).length)<| .rg {an:=[(10, .arr 0 (afL n r_))]} [0,1,2, .pf ⟨aD (TR n r_).length 1 (eX (aaK n r_) 1 0 [(.bool (adx n))]) (afL n r_),aK _ _ _ _ _ _ _ _ rfl (fun j hj=>(match j,hj with|0,_=>rfl))⟩]<| .im (.ll 279 (TR n r_) (JZ n r_))<| .r<| .r<| .t<| .a3 ((0:Int)≤5∧5<(9:Int)) ((0:Int)≤5) (0<r_.2.badSource.length)<| .rg {an:=[(10, .arr 0 (ae7 n r_))]} [0,1,2, .pf ⟨aD r_.2.badSource.length 1 (eX (au aj r_.2.badSource) 0 0 [(.bool (aew n))]) (ae7 n r_),aK _ _ _ _ _ _ _ _ rfl (fun j hj=>(match j,hj with|0,_=>rfl))⟩]<| .im (.ll 280 r_.2.badSource (JY n r_))<| .r<| .r<| .t<| .a3 ((0:Int)≤6∧6<(9:Int)) ((0:Int)≤6) (0<r_.2.badBus.length)<| .rg {an:=[(10, .arr 0 (ZG n r_))]} [0,1,2, .pf ⟨aD r_.2.badBus.length 1 (eX (au aj r_.2.badBus) 0 0 [(.bool (ae1 n))]) (ZG n r_),aK _ _ _ _ _ _ _ _ rfl (fun j hj=>(match j,hj with|0,_=>rfl))⟩]<| .im (.ll 282 r_.2.badBus (Si n r_))<| .r<| .r<| .t<| .a3 ((0:Int)≤7∧7<(9:Int)) ((0:Int)≤7) (1<(Si n r_).length)<| .rg {an:=[(10, .arr 0 (aa9 n r_))]} [0,1,2, .pf ⟨aD (Si n r_).length 1 (eX (ZG n r_) 1 0 [(.bool (aef n))]) (aa9 n r_),aK _ _ _ _ _ _ _ _ rfl (fun j hj=>(match j,hj with|0,_=>rfl))⟩]<| .im (.ll 282 (Si n r_) (TH n r_))<| .r<| .r<| .t<| .a3 ((0:Int)≤8∧8<(9:Int)) ((0:Int)≤8) (2<(TH n r_).length)<| .rg {an:=[(10, .arr 0 (aeK n r_))]} [0,1,2, .pf ⟨aD (TH n r_).length 1 (eX (aa9 n r_) 2 0 [(.bool (aeb n))]) (aeK n r_),aK _ _ _ _ _ _ _ _ rfl (fun j hj=>(match j,hj with|0,_=>rfl))⟩]<| .im (.ll 282 (TH n r_) (Ky n r_))<| .r<| .r<| .f<| .cr 2 ⟨fun{u8} hr_1=>((Fn.EP (frz:=[276,277,278,279,280,281,282]) (p:=[(Ka n r_).length=(Ka n r_).length,r_.2.locked.length=r_.2.locked.length,(Kr n r_).length=(Kr n r_).length,(JZ n r_).length=(JZ n r_).length,(JY n r_).length=(JY n r_).length,r_.2.earthed.length=r_.2.earthed.length,(Ky n r_).length=(Ky n r_).length]) (Fn.le (args':=[(.agg (VH r_)),(.agg (adB n r_))]) (Ao (aeL r_) (acX n r_) hr_1) ⟨uG.agg ⟨gV.refl _,gV.d jK.rW,gV.d jK.rW,gV.refl _,trivial⟩,uG.agg ⟨gV.d jK.rW,gV.d jK.rW,gV.d jK.rW,gV.d jK.rW,gV.d jK.rW,gV.d jK.rW,gV.d jK.rW,trivial⟩,trivial⟩) (by kernel_rfl) ⟨rfl,rfl,rfl,rfl,rfl,rfl,rfl,trivial⟩ rfl):Fn Tryz.prog 24 [(.agg (VH r_)),(.agg (afv n r_))] (XU n r_) (vB u8) (XU n r_))⟩ fun u8=> .cgr 10 [((!u8),false)] ⟨fun{v0} hr_2=>((Fn.EP (frz:=[276,277,278,279,280,281,282]) (p:=[(Ka n r_).length=(Ka n r_).length,r_.2.locked.length=r_.2.locked.length,(Kr n r_).length=(Kr n r_).length,(JZ n r_).length=(JZ n r_).length,(JY n r_).length=(JY n r_).length,r_.2.earthed.length=r_.2.earthed.length,(Ky n r_).length=(Ky n r_).length]) (Fn.le (args':=[(.agg (VH r_)),(.agg (adB n r_)),(sI (IntKind.wrap .i64 ((Int.tmod n 5) - 1))),(sD nS)]) (Ad (aeL r_) (acX n r_) (IntKind.wrap .i64 ((Int.tmod n 5) - 1)) ([]:List Short) hr_2) ⟨uG.agg ⟨gV.refl _,gV.d jK.rW,gV.d jK.rW,gV.refl _,trivial⟩,uG.agg ⟨gV.d jK.rW,gV.d jK.rW,gV.d jK.rW,gV.d jK.rW,gV.d jK.rW,gV.d jK.rW,gV.d jK.rW,trivial⟩,uG.refl _,uG.one (gV.d jK.nil'),trivial⟩) (by kernel_rfl) ⟨rfl,rfl,rfl,rfl,rfl,rfl,rfl,trivial⟩ rfl):Fn Tryz.prog 25 [(.agg (VH r_)),(.agg (afv n r_)),(sI (IntKind.wrap .i64 ((Int.tmod n 5) - 1))),(sD nS)] (XU n r_) (vB v0) (XU n r_))⟩ fun v0=> .a1 ((gB [((!u8),false)]=true→5≠(0:Int)))<| .rg {} [2,0,1]<| .it (.r<| .e (.done (.ret false)))
  (.r<| .e (.next (k4 n))))
  (.e (.done (.brk ()))))
  (fun _=> .r<| .lp (σ:=Int) (β:=Unit) (0) [] [] ⟨[],[],fun n1=>[(6,(vI n1))],fun n1=>[]⟩ ⟨[],[],fun _=>[],fun _=>[]⟩
  (fun n1=> .r<| .it (.rg {fr:=[(1,408)]} []<| .r<| .im (.Qx 408 1 417 60 5 (au Source.cell ([]:List Source)))<| .lp (σ:=((List Source) × Int)) (β:=(List Source)) (([]:List Source),0) [] [(417,410)] ⟨[6,7],[],fun(p1,k)=>[(8,(vI k))],fun(p1,k)=>(aeT p1)⟩ ⟨[6,7],[],fun u3=>[],fun u3=>(aeT u3)⟩
  (fun(p1,k)=> .r<| .it (.r<| .a2 ((aff p1 n1 k)*40≤140737488355328) (p1.length+[(PN n1 k)].length≤4611686018427387904)<| .rg {an:=[(10, .arr [(PN n1 k)].length (aaU n1 k)),(11, .arr (Y0 p1 n1 k).length (acN p1 n1 k))],fr:=[(10,415),(11,416)]} [.pf ⟨[(PN n1 k)].length=1,rfl⟩, .pf ⟨aD 1 5 (pz 5 [(.int .i64 (IntKind.wrap .i64 ((3:Int)*k))),(.int .i64 1),(.int .i64 (Uq n1 k)),(.int .i64 0),(.int .i64 (IntKind.wrap .i64 ((10:Int)+n1)))]) (aaU n1 k),(by intro i hi j hj;match i,j,hi,hj with|0,0,_,_=>rfl|0,1,_,_=>rfl|0,2,_,_=>rfl|0,3,_,_=>rfl|0,4,_,_=>rfl)⟩, .e (p1.length),0,1, .pf ⟨(Y0 p1 n1 k).length=p1.length+[(PN n1 k)].length,List.length_append⟩, .pf ⟨aD (aff p1 n1 k) 5 (sW (au Source.cell p1) p1.length (aaU n1 k)) (acN p1 n1 k),dw _ _ _ _⟩]<| .r<| .en (.next ((Y0 p1 n1 k),(k4 k))) [] [(416,410)])
  (.e (.done (.brk p1))))
  (fun u3=> .r<| .im (.Qx 408 2 426 66 6 (au Link.cell ([]:List Link)))<| .lp (σ:=((List Link) × Int)) (β:=(List Link)) (([]:List Link),0) [] [(426,419)] ⟨[6,7],[410],fun(p2,i)=>[(10,(vI i))],fun(p2,i)=>(XG u3 p2)⟩ ⟨[6,7],[410],fun u7=>[],fun u7=>(XG u3 u7)⟩
  (fun(p2,i)=> .r<| .it (.r<| .a3 (24≠(0:Int)) ((aeu n1 p2 i)*64≤140737488355328) (p2.length+[(Q5 n1 i)].length≤4611686018427387904)<| .rg {an:=[(22, .arr [(Q5 n1 i)].length (XQ n1 i)),(23, .arr (R9 n1 p2 i).length (XI n1 p2 i))],fr:=[(22,424),(23,425)]} [0,0,0, .pf ⟨[(Q5 n1 i)].length=1,rfl⟩, .pf ⟨aD 1 6 (XQ n1 i) (XQ n1 i),fG _ _ _⟩, .e (p2.length),1,2, .pf ⟨(R9 n1 p2 i).length=p2.length+[(Q5 n1 i)].length,List.length_append⟩, .pf ⟨aD (aeu n1 p2 i) 6 (XI n1 p2 i) (XI n1 p2 i),fG _ _ _⟩]<| .im (.uh 425 (some (.arr 66 6 (R9 n1 p2 i).length (XI n1 p2 i))) (some (.arr 66 6 (R9 n1 p2 i).length (au Link.cell (R9 n1 p2 i)))) (Hw (agO Link.cell p2 [(Q5 n1 i)] _ (by intro i hi j hj;match i,j,hi,hj with|0,0,_,_=>exact .refl _|0,1,_,_=>exact .refl _|0,2,_,_=>exact .refl _|0,3,_,_=>exact .refl _|0,4,_,_=>exact .refl _|0,5,_,_=>exact jK.nil'))))<| .r<| .en (.next ((R9 n1 p2 i),(k4 i))) [] [(425,419)])
  (.e (.done (.brk p2))))
  (fun u7=> .r<| .lp (σ:=((List Link) × Int)) (β:=(List Link)) (u7,0) [] [] ⟨[6,7],[410],fun(u1,i1)=>[(12,(vI i1))],fun(u1,i1)=>(XG u3 u1)⟩ ⟨[6,7],[410],fun u4=>[],fun u4=>(XG u3 u4)⟩
  (fun(u1,i1)=> .r<| .it (.a1 (k3 u1 i1)<| .rg {} [0, .t 0 i1 u1.length,0, .t 0 i1 u1.length]<| .it (.a2 (k3 u1 i1) (24≠(0:Int))<| .rg {an:=[(13, .arr 0 (afm u1 i1))]} [0, .t 0 i1 u1.length,1,0, .t 0 i1 u1.length, .pf ⟨aD u1.length 6 (eX (au Link.cell u1) i1.toNat 1 [(.int .i64 (Int.tmod (IntKind.wrap .i64 (((at' u1 i1.toNat).a)+1)) 24))]) (afm u1 i1),aK _ _ _ _ _ _ _ _ rfl (fun j hj=>(match j,hj with|0,_=>rfl|1,_=>rfl|2,_=>rfl|3,_=>rfl|4,_=>rfl|5,_=>rfl))⟩]<| .im (.ll 419 u1 (Z7 u1 i1))<| .r<| .e (.next ((Z7 u1 i1),(k4 i1))))
  (.r<| .e (.next (u1,(k4 i1)))))
  (.e (.done (.brk u1))))
  (fun u4=> .r<| .im (.Qx 408 3 435 71 4 (au aC.cell ([]:List aC)))<| .lp (σ:=((List aC) × Int)) (β:=(List aC)) (([]:List aC),0) [] [(435,428)] ⟨[6,7],[410,419],fun(p3,u0)=>[(13,(vI u0))],fun(p3,u0)=>(adz u3 u4 p3)⟩ ⟨[6,7],[410,419],fun u5=>[],fun u5=>(adz u3 u4 u5)⟩
  (fun(p3,u0)=> .r<| .it (.r<| .a3 (24≠(0:Int)) ((afP n1 p3 u0)*32≤140737488355328) (p3.length+[(QK n1 u0)].length≤4611686018427387904)<| .rg {an:=[(11, .arr [(QK n1 u0)].length (abz n1 u0)),(12, .arr (Xk n1 p3 u0).length (aeG n1 p3 u0))],fr:=[(11,433),(12,434)]} [0, .pf ⟨[(QK n1 u0)].length=1,rfl⟩, .pf ⟨aD 1 4 (pz 4 [(.int .i64 u0),(.int .i64 (Int.tmod (IntKind.wrap .i64 (u0+7)) 24)),(.int .i64 (Uq u0 n1)),(.int .i64 2)]) (abz n1 u0),(by intro i hi j hj;match i,j,hi,hj with|0,0,_,_=>rfl|0,1,_,_=>rfl|0,2,_,_=>rfl|0,3,_,_=>rfl)⟩, .e (p3.length),1,2, .pf ⟨(Xk n1 p3 u0).length=p3.length+[(QK n1 u0)].length,List.length_append⟩, .pf ⟨aD (afP n1 p3 u0) 4 (sW (au aC.cell p3) p3.length (abz n1 u0)) (aeG n1 p3 u0),dw _ _ _ _⟩]<| .r<| .en (.next ((Xk n1 p3 u0),(k4 u0))) [] [(434,428)])
  (.e (.done (.brk p3))))
  (fun u5=> .cl 1 (BD [(0,410),(1,419),(2,428),(3,436),(4,437),(5,438),(6,439),(7,440),(8,441),(9,442),(10,443)] (Ah (⟨24,u3,u4,u5⟩:ah))) fun u2=> .rg {fr:=[(5,444)],fz:=[410,419,428]} []<| .fz [408]<| .r<| .it (.r<| .e (.done (.ret false)))
  (.r<| .lp (σ:=((List Bool) × Int)) (β:=(List Bool)) (u2.1.on_,0) [] [] ⟨[6,7,15],[436,437,438,440,441,442],fun(s3,k1)=>[(17,(vI k1))],fun(s3,k1)=>(afB s3 u2)⟩ ⟨[6,7,15],[436,437,438,440,441,442],fun u6=>[],fun u6=>(afB u6 u2)⟩
  (fun(s3,k1)=> .r<| .it (.a1 (k10 k1 s3)<| .rg {an:=[(7, .arr 0 (au aj (s3.set k1.toNat (!decide (k1=n1)))))]} [0, .t 0 k1 s3.length, .pf ⟨aD s3.length 1 (eX (au aj s3) k1.toNat 0 [(.bool (!decide (k1=n1)))]) (au aj (s3.set k1.toNat (!decide (k1=n1)))),aK _ _ _ _ _ _ _ _ rfl (fun j hj=>(match j,hj with|0,_=>rfl))⟩]<| .im (.ll 439 s3 (s3.set k1.toNat (!decide (k1=n1))))<| .r<| .e (.next ((s3.set k1.toNat (!decide (k1=n1))),(k4 k1))))
  (.e (.done (.brk s3))))
  (fun u6=> .cl 2 (BD [(0,436),(1,437),(2,438),(3,439),(4,440),(5,441),(6,442),(7,445),(8,446),(9,447),(10,448),(11,449)] ⟨fun h=>Dm (⟨24,u3,u4,u5⟩:ah) (afA u2 u6) h⟩) fun u9=> .rg {fr:=[(7,450)],fz:=[436,437,438,439,440,441,442,445,446,447,448]} []<| .fz [444,450]<| .cg 7 [((!decide (u9.2.2=0)),false)] (CB (⟨24,u3,u4,u5⟩:ah) (afA u2 u6) u9.1 u9.2.1) fun v2=> .r<| .it (.r<| .e (.done (.ret false)))
  (.r<| .e (.next (k4 n1))))))))))
  (.e (.done (.brk ()))))
  (fun _=> .cl 0 gM fun v1=> .r<| .e v1)))
end
end Sg
