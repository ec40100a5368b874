import Derived.Test.YtpndenfhglaikaaGreatW4
set_option linter.all false
namespace Sg
open Go Go.Proofs
set_option maxRecDepth 20000
noncomputable section
section
variable (n:Int) (r_:(ah × State)) (p1:(List Source)) (n1:Int) (k:Int) (u3:(List Source)) (p2:(List Link)) (i:Int) (u1:(List Link)) (i1:Int) (u4:(List Link)) (p3:(List aC)) (u0:Int) (s3:(List Bool)) (u2:(State × Int)) (u6:(List Bool))
abbrev Tc:=(IntKind.wrap .i64 ((1:Int)+(Int.tmod n 700)))
abbrev abB:=(r_.1.racks.set 1 (⟨(⟨((at' r_.1.racks 1).feeds).e0,2⟩:af),(at' r_.1.racks 1).power,(at' r_.1.racks 1).paths⟩:aC))
abbrev Zt:=(au aC.cell (abB r_))
abbrev U9:List CV:=[(cI r_.1.buses),(.d (bM (some true) 5 Source.cell r_.1.sources)),(.d (bM (some true) 6 Link.cell r_.1.links)),(.d (bM none 4 aC.cell (abB r_)))]
abbrev aeV:=(decide ((IntKind.wrap .i64 (((BitVec.ofInt (IntKind.bits .i64) (Int.fdiv n (2 ^ min 0 (IntKind.bits .i64))) &&& BitVec.ofInt (IntKind.bits .i64) 1).toNat:Int)))=1))
abbrev Uv:=(r_.2.closed.set 0 (aeV n))
abbrev aaF:=(au aj (Uv n r_))
abbrev acd:=(decide ((IntKind.wrap .i64 (((BitVec.ofInt (IntKind.bits .i64) (Int.fdiv n (2 ^ min 1 (IntKind.bits .i64))) &&& BitVec.ofInt (IntKind.bits .i64) 1).toNat:Int)))=1))
abbrev Kt:=((Uv n r_).set 1 (acd n))
abbrev ab5:=(au aj (Kt n r_))
abbrev aft:=(decide ((IntKind.wrap .i64 (((BitVec.ofInt (IntKind.bits .i64) (Int.fdiv n (2 ^ min 2 (IntKind.bits .i64))) &&& BitVec.ofInt (IntKind.bits .i64) 1).toNat:Int)))=1))
abbrev Kw:=(r_.2.badLink.set 0 (aft n))
abbrev aeA:=(au aj (Kw n r_))
abbrev ab3:=(decide ((IntKind.wrap .i64 (((BitVec.ofInt (IntKind.bits .i64) (Int.fdiv n (2 ^ min 3 (IntKind.bits .i64))) &&& BitVec.ofInt (IntKind.bits .i64) 1).toNat:Int)))=1))
abbrev Sr:=(r_.2.on_.set 0 (ab3 n))
abbrev aa8:=(au aj (Sr n r_))
abbrev acJ:=(decide ((IntKind.wrap .i64 (((BitVec.ofInt (IntKind.bits .i64) (Int.fdiv n (2 ^ min 4 (IntKind.bits .i64))) &&& BitVec.ofInt (IntKind.bits .i64) 1).toNat:Int)))=1))
abbrev Kh:=((Sr n r_).set 1 (acJ n))
abbrev adf:=(au aj (Kh n r_))
abbrev aen:=(decide ((IntKind.wrap .i64 (((BitVec.ofInt (IntKind.bits .i64) (Int.fdiv n (2 ^ min 5 (IntKind.bits .i64))) &&& BitVec.ofInt (IntKind.bits .i64) 1).toNat:Int)))=1))
abbrev Ke:=(r_.2.badSource.set 0 (aen n))
abbrev aez:=(au aj (Ke n r_))
abbrev ac6:=(decide ((IntKind.wrap .i64 (((BitVec.ofInt (IntKind.bits .i64) (Int.fdiv n (2 ^ min 6 (IntKind.bits .i64))) &&& BitVec.ofInt (IntKind.bits .i64) 1).toNat:Int)))=1))
abbrev R5:=(r_.2.badBus.set 0 (ac6 n))
abbrev aaN:=(au aj (R5 n r_))
abbrev aeQ:=(decide ((IntKind.wrap .i64 (((BitVec.ofInt (IntKind.bits .i64) (Int.fdiv n (2 ^ min 7 (IntKind.bits .i64))) &&& BitVec.ofInt (IntKind.bits .i64) 1).toNat:Int)))=1))
abbrev SX:=((R5 n r_).set 1 (aeQ n))
abbrev aaw:=(au aj (SX n r_))
abbrev acT:=(decide ((IntKind.wrap .i64 (((BitVec.ofInt (IntKind.bits .i64) (Int.fdiv n (2 ^ min 8 (IntKind.bits .i64))) &&& BitVec.ofInt (IntKind.bits .i64) 1).toNat:Int)))=1))
abbrev Kz:=((SX n r_).set 2 (acT n))
abbrev acj:=(au aj (Kz n r_))
abbrev acv:List CV:=[(.d (bM (some true) 1 aj (Kt n r_))),(.d (bM (some true) 1 aj r_.2.locked)),(.d (bM (some true) 1 aj (Kw n r_))),(.d (bM (some true) 1 aj (Kh n r_))),(.d (bM (some true) 1 aj (Ke n r_))),(.d (bM (some true) 1 aj r_.2.earthed)),(.d (bM (some true) 1 aj (Kz n r_)))]
abbrev afb:=(⟨r_.1.buses,r_.1.sources,r_.1.links,(abB r_)⟩:ah)
abbrev afJ:=(⟨(Kt n r_),r_.2.locked,(Kw n r_),(Kh n r_),(Ke n r_),r_.2.earthed,(Kz n r_)⟩:State)
abbrev afB:List CV:=[(.own 276 true ((Kt n r_).length)),(.own 277 true r_.2.locked.length),(.own 278 true ((Kw n r_).length)),(.own 279 true ((Kh n r_).length)),(.own 280 true ((Ke n r_).length)),(.own 281 true r_.2.earthed.length),(.own 282 true ((Kz n r_).length))]
abbrev XQ:List (Nat × Option Ob):=[(276,some (bZ 4 1 aj (Kt n r_))),(277,some (bZ 4 1 aj r_.2.locked)),(278,some (bZ 4 1 aj (Kw n r_))),(279,some (bZ 4 1 aj (Kh n r_))),(280,some (bZ 4 1 aj (Ke n r_))),(281,some (bZ 4 1 aj r_.2.earthed)),(282,some (bZ 4 1 aj (Kz n r_)))]
abbrev ac5:List (Nat × Option Ob):=[(408,some (.cells 26 [(cI 24),(.own 410 false p1.length),(.d nS),(.d nS)])),(410,some (bZ 60 5 Source.cell p1))]
abbrev Tw:=(IntKind.wrap .i64 ((100000:Int) - (IntKind.wrap .i64 (n1*k))))
abbrev Q5:=(⟨(IntKind.wrap .i64 ((3:Int)*k)),1,(Tw n1 k),0,(IntKind.wrap .i64 ((10:Int)+n1))⟩:Source)
abbrev afE:=(p1.length+[(Q5 n1 k)].length)
abbrev abx:=(au Source.cell [(Q5 n1 k)])
abbrev YO:=(p1++[(Q5 n1 k)])
abbrev afu:=(au Source.cell (YO p1 n1 k))
abbrev X7:List (Nat × Option Ob):=[(408,some (.cells 26 [(cI 24),(.own 410 false u3.length),(.own 419 false p2.length),(.d nS)])),(419,some (bZ 66 6 Link.cell p2))]
abbrev adX:=(Int.tmod (IntKind.wrap .i64 ((IntKind.wrap .i64 ((IntKind.wrap .i64 (i*(k4 n1)))+1))+(IntKind.wrap .i64 (Int.tdiv i 24)))) 24)
abbrev adN:=(IntKind.wrap .i64 ((100000:Int) - (IntKind.wrap .i64 ((IntKind.wrap .i64 (i*n1))*100))))
abbrev Qi:=(⟨(Int.tmod i 24),(adX n1 i),1,(adN n1 i),(Tw i n1),([]:List gD)⟩:Link)
abbrev af0:=(p2.length+[(Qi n1 i)].length)
abbrev Yw:=(pz 6 [(.int .i64 (Int.tmod i 24)),(.int .i64 (adX n1 i)),(.int .i64 1),(.int .i64 (adN n1 i)),(.int .i64 (Tw i n1)),nS])
abbrev SI:=(p2++[(Qi n1 i)])
abbrev Yf:=(tN (au Link.cell p2) p2.length (Yw n1 i))
abbrev Zy:=(u1.set i1.toNat (⟨(at' u1 i1.toNat).a,(Int.tmod (IntKind.wrap .i64 (((at' u1 i1.toNat).a)+1)) 24),(at' u1 i1.toNat).kind,(at' u1 i1.toNat).most,(at' u1 i1.toNat).bJ,(at' u1 i1.toNat).trip⟩:Link))
abbrev aco:=(au Link.cell (Zy u1 i1))
abbrev afg:List (Nat × Option Ob):=[(408,some (.cells 26 [(cI 24),(.own 410 false u3.length),(.own 419 false u4.length),(.own 428 false p3.length)])),(428,some (bZ 71 4 aC.cell p3))]
abbrev PX:=(⟨(⟨u0,(Int.tmod (IntKind.wrap .i64 (u0+7)) 24)⟩:af),(Tw u0 n1),2⟩:aC)
abbrev aeb:=(p3.length+[(PX n1 u0)].length)
abbrev abO:=(au aC.cell [(PX n1 u0)])
abbrev Xm:=(p3++[(PX n1 u0)])
abbrev aff:=(au aC.cell (Xm n1 p3 u0))
abbrev adO:List (Nat × Option Ob):=[(439,some (bZ 4 1 aj s3)),(444,some (.cells 29 [(.own 436 false u2.1.closed.length),(.own 437 false u2.1.locked.length),(.own 438 false u2.1.badLink.length),(.own 439 false s3.length),(.own 440 false u2.1.badSource.length),(.own 441 false u2.1.earthed.length),(.own 442 false u2.1.badBus.length)]))]
abbrev ads:=(⟨u2.1.closed,u2.1.locked,u2.1.badLink,u6,u2.1.badSource,u2.1.earthed,u2.1.badBus⟩:State)
end
theorem Ar:fC Tryz.prog 5 [] [] (fun r=>(vB r)) (fun _=>[]) (mQ):=
  gJ tT mX Tryz.func5 (
  .r<| .r<| .lp (σ:=Int) (β:=Unit) (0) [] [] ⟨[],[],fun n=>[(1,(vI n))],fun n=>[]⟩ ⟨[],[],fun _=>[],fun _=>[]⟩
  (fun n=> .r<| .it (.cl 4 (BF [(0,272),(1,273),(2,274),(3,275),(4,276),(5,277),(6,278),(7,279),(8,280),(9,281),(10,282),(11,283),(12,284)] (Ak [100,350,(Tc n)])) fun r_=> .a1 (700≠(0:Int))<| .rg {an:=[(3, .arr [100,350,(Tc n)].length (au (aG .i64) [100,350,(Tc n)]))],fr:=[(3,272),(8,285),(9,286)]} [0, .pf ⟨[100,350,(Tc n)].length=3,rfl⟩, .pf ⟨aD 3 1 (pz 1 [(.int .i64 100),(.int .i64 350),(.int .i64 (Tc n))]) (au (aG .i64) [100,350,(Tc n)]),(by intro i hi j hj;match i,j,hi,hj with|0,0,_,_=>rfl|1,0,_,_=>rfl|2,0,_,_=>rfl)⟩,1]<| .a1 ((0:Int)≤1∧1<(r_.1.racks.length:Int))<| .rg {an:=[(5, .arr 0 (Zt r_))],fz:=[273,274,275]} [0, .pf ⟨(0:Int)≤1∧(1:Int)<(2:Nat),(by decide)⟩, .t 0 1 r_.1.racks.length, .pf ⟨aD r_.1.racks.length 4 (eX (au aC.cell r_.1.racks) 1 1 [(.int .i64 2)]) (Zt r_),aK _ _ _ _ _ _ _ _ rfl (fun j hj=>(match j,hj with|0,_=>rfl|1,_=>rfl|2,_=>rfl|3,_=>rfl))⟩]<| .im (.uh 285 (some (.cells 26 [(cI r_.1.buses),(.d (bM (some true) 5 Source.cell r_.1.sources)),(.d (bM (some true) 6 Link.cell r_.1.links)),(.d (.sl none 4 r_.1.racks.length (Zt r_)))])) (some (.cells 26 (U9 r_))) (bH ⟨gW.refl _,gW.refl _,gW.refl _,gW.d (jK.slN (by simp only [List.length_set]) (.inr rfl) (fun _ _ _ _=> .refl _)),trivial⟩))<| .fz [285]<| .as _ inferInstance [(0:Int)≤0∧0<(r_.2.closed.length:Int),(0:Int)≤1∧1<(r_.2.closed.length:Int),(0:Int)≤0∧0<(r_.2.badLink.length:Int),(0:Int)≤0∧0<(r_.2.on_.length:Int),(0:Int)≤1∧1<(r_.2.on_.length:Int),(0:Int)≤0∧0<(r_.2.badSource.length:Int),(0:Int)≤0∧0<(r_.2.badBus.length:Int),(0:Int)≤1∧1<(r_.2.badBus.length:Int),(0:Int)≤2∧2<(r_.2.badBus.length:Int)] (fun h=> ⟨h.1,h.2.1,h.2.2.1,h.2.2.2.1,h.2.2.2.2.1,h.2.2.2.2.2.1,h.2.2.2.2.2.2.1,h.2.2.2.2.2.2.2.1,h.2.2.2.2.2.2.2.2,trivial⟩:(((0:Int)≤0∧0<(r_.2.closed.length:Int))∧((0:Int)≤1∧1<(r_.2.closed.length:Int))∧((0:Int)≤0∧0<(r_.2.badLink.length:Int))∧((0:Int)≤0∧0<(r_.2.on_.length:Int))∧((0:Int)≤1∧1<(r_.2.on_.length:Int))∧((0:Int)≤0∧0<(r_.2.badSource.length:Int))∧((0:Int)≤0∧0<(r_.2.badBus.length:Int))∧((0:Int)≤1∧1<(r_.2.badBus.length:Int))∧((0:Int)≤2∧2<(r_.2.badBus.length:Int)))→_)<| .rg {an:=[(27, .cells)],fr:=[(27,287)]} [0,1,2,3,4,5,6,7,8]<| .r<| .ul 11<| .r<| .t<| .a3 ((0:Int)≤0∧0<(9:Int)) ((0:Int)≤0) (0<r_.2.closed.length)<| .rg {an:=[(10, .arr 0 (aaF n r_))]} [0,1,2, .pf ⟨aD r_.2.closed.length 1 (eX (au aj r_.2.closed) 0 0 [(.bool (aeV n))]) (aaF n r_),aK _ _ _ _ _ _ _ _ rfl (fun j hj=>(match j,hj with|0,_=>rfl))⟩]<| .im (.ll 276 r_.2.closed (Uv n r_))<| .r<| .r<| .t<| .a3 ((0:Int)≤1∧1<(9:Int)) ((0:Int)≤1) (1<(Uv n r_).length)<| .rg {an:=[(10, .arr 0 (ab5 n r_))]} [0,1,2, .pf ⟨aD (Uv n r_).length 1 (eX (aaF n r_) 1 0 [(.bool (acd n))]) (ab5 n r_),aK _ _ _ _ _ _ _ _ rfl (fun j hj=>(match j,hj with|0,_=>rfl))⟩]<| .im (.ll 276 (Uv n r_) (Kt n r_))<| .r<| .r<| .t<| .a3 ((0:Int)≤2∧2<(9:Int)) ((0:Int)≤2) (0<r_.2.badLink.length)<| .rg {an:=[(10, .arr 0 (aeA n r_))]} [0,1,2, .pf ⟨aD r_.2.badLink.length 1 (eX (au aj r_.2.badLink) 0 0 [(.bool (aft n))]) (aeA n r_),aK _ _ _ _ _ _ _ _ rfl (fun j hj=>(match j,hj with|0,_=>rfl))⟩]<| .im (.ll 278 r_.2.badLink (Kw n r_))<| .r<| .r<| .t<| .a3 ((0:Int)≤3∧3<(9:Int)) ((0:Int)≤3) (0<r_.2.on_.length)<| .rg {an:=[(10, .arr 0 (aa8 n r_))]} [0,1,2, .pf ⟨aD r_.2.on_.length 1 (eX (au aj r_.2.on_) 0 0 [(.bool (ab3 n))]) (aa8 n r_),aK _ _ _ _ _ _ _ _ rfl (fun j hj=>(match j,hj with|0,_=>rfl))⟩]<| .im (.ll 279 r_.2.on_ (Sr n r_))<| .r<| .r<| .t<| .a3 ((0:Int)≤4∧4<(9:Int)) ((0:Int)≤4) (1<(Sr n r_).length)<| .rg {an:=[(10, .arr 0 (adf n r_))]} [0,1,2, .pf ⟨aD (Sr n r_).length 1 (eX (aa8 n r_) 1 0 [(.bool (acJ n))]) (adf n r_),aK _ _ _ _ _ _ _ _ rfl (fun j hj=>(match j,hj with|0,_=>rfl))⟩]<| .im (.ll 279 (Sr n r_) (Kh n r_))<| .r<| .r<| .t<| .a3 ((0:Int)≤5∧5<(9:Int)) ((0:Int)≤5) (0<r_.2.badSource.length)<| .rg {an:=[(10, .arr 0 (aez n r_))]} [0,1,2, .pf ⟨aD r_.2.badSource.length 1 (eX (au aj r_.2.badSource) 0 0 [(.bool (aen n))]) (aez n r_),aK _ _ _ _ _ _ _ _ rfl (fun j hj=>(match j,hj with|0,_=>rfl))⟩]<| .im (.ll 280 r_.2.badSource (Ke n r_))<| .r<| .r<| .t<| .a3 ((0:Int)≤6∧6<(9:Int)) ((0:Int)≤6) (0<r_.2.badBus.length)<| .rg {an:=[(10, .arr 0 (aaN n r_))]} [0,1,2, .pf ⟨aD r_.2.badBus.length 1 (eX (au aj r_.2.badBus) 0 0 [(.bool (ac6 n))]) (aaN n r_),aK _ _ _ _ _ _ _ _ rfl (fun j hj=>(match j,hj with|0,_=>rfl))⟩]<| .im (.ll 282 r_.2.badBus (R5 n r_))<| .r<| .r<| .t<| .a3 ((0:Int)≤7∧7<(9:Int)) ((0:Int)≤7) (1<(R5 n r_).length)<| .rg {an:=[(10, .arr 0 (aaw n r_))]} [0,1,2, .pf ⟨aD (R5 n r_).length 1 (eX (aaN n r_) 1 0 [(.bool (aeQ n))]) (aaw n r_),aK _ _ _ _ _ _ _ _ rfl (fun j hj=>(match j,hj with|0,_=>rfl))⟩]<| .im (.ll 282 (R5 n r_) (SX n r_))<| .r<| .r<| .t<| .a3 ((0:Int)≤8∧8<(9:Int)) ((0:Int)≤8) (2<(SX n r_).length)<| .rg {an:=[(10, .arr 0 (acj n r_))]} [0,1,2, .pf ⟨aD (SX n r_).length 1 (eX (aaw n r_) 2 0 [(.bool (acT n))]) (acj n r_),aK _ _ _ _ _ _ _ _ rfl (fun j hj=>(match j,hj with|0,_=>rfl))⟩]<| .im (.ll 282 (SX n r_) (Kz n r_))<| .r<| .r<| .f<| .cr 2 ⟨fun{u8} hr_1=>((Fn.Eo (frz:=[276,277,278,279,280,281,282]) (p:=[(Kt n r_).length=(Kt n r_).length,r_.2.locked.length=r_.2.locked.length,(Kw n r_).length=(Kw n r_).length,(Kh n r_).length=(Kh n r_).length,(Ke n r_).length=(Ke n r_).length,r_.2.earthed.length=r_.2.earthed.length,(Kz n r_).length=(Kz n r_).length]) (Fn.le (args':=[(.agg (U9 r_)),(.agg (acv n r_))]) (z8 (afb r_) (afJ n r_) hr_1) ⟨uG.agg ⟨gW.refl _,gW.d jK.rW,gW.d jK.rW,gW.refl _,trivial⟩,uG.agg ⟨gW.d jK.rW,gW.d jK.rW,gW.d jK.rW,gW.d jK.rW,gW.d jK.rW,gW.d jK.rW,gW.d jK.rW,trivial⟩,trivial⟩) (by kernel_rfl) ⟨rfl,rfl,rfl,rfl,rfl,rfl,rfl,trivial⟩ rfl):Fn Tryz.prog 24 [(.agg (U9 r_)),(.agg (afB n r_))] (XQ n r_) (vB u8) (XQ n r_))⟩ fun u8=> .cgr 10 [((!u8),false)] ⟨fun{v0} hr_2=>((Fn.Eo (frz:=[276,277,278,279,280,281,282]) (p:=[(Kt n r_).length=(Kt n r_).length,r_.2.locked.length=r_.2.locked.length,(Kw n r_).length=(Kw n r_).length,(Kh n r_).length=(Kh n r_).length,(Ke n r_).length=(Ke n r_).length,r_.2.earthed.length=r_.2.earthed.length,(Kz n r_).length=(Kz n r_).length]) (Fn.le (args':=[(.agg (U9 r_)),(.agg (acv n r_)),(sI (IntKind.wrap .i64 ((Int.tmod n 5) - 1))),(sD nS)]) (Al (afb r_) (afJ n r_) (IntKind.wrap .i64 ((Int.tmod n 5) - 1)) ([]:List Short) hr_2) ⟨uG.agg ⟨gW.refl _,gW.d jK.rW,gW.d jK.rW,gW.refl _,trivial⟩,uG.agg ⟨gW.d jK.rW,gW.d jK.rW,gW.d jK.rW,gW.d jK.rW,gW.d jK.rW,gW.d jK.rW,gW.d jK.rW,trivial⟩,uG.refl _,uG.one (gW.d jK.nil'),trivial⟩) (by kernel_rfl) ⟨rfl,rfl,rfl,rfl,rfl,rfl,rfl,trivial⟩ rfl):Fn Tryz.prog 25 [(.agg (U9 r_)),(.agg (afB n r_)),(sI (IntKind.wrap .i64 ((Int.tmod n 5) - 1))),(sD nS)] (XQ n r_) (vB v0) (XQ n r_))⟩ fun v0=> .a1 ((gB [((!u8),false)]=true→5≠(0:Int)))<| .rg {} [2,0,1]<| .it (.r<| .e (.done (.ret false)))
  (.r<| .e (.next (k4 n))))
  (.e (.done (.brk ()))))
  (fun _=> .r<| .lp (σ:=Int) (β:=Unit) (0) [] [] ⟨[],[],fun n1=>[(6,(vI n1))],fun n1=>[]⟩ ⟨[],[],fun _=>[],fun _=>[]⟩
  (fun n1=> .r<| .it (.rg {fr:=[(1,408)]} []<| .r<| .im (.QF 408 1 417 60 5 (au Source.cell ([]:List Source)))<| .lp (σ:=((List Source) × Int)) (β:=(List Source)) (([]:List Source),0) [] [(417,410)] ⟨[6,7],[],fun(p1,k)=>[(8,(vI k))],fun(p1,k)=>(ac5 p1)⟩ ⟨[6,7],[],fun u3=>[],fun u3=>(ac5 u3)⟩
  (fun(p1,k)=> .r<| .it (.r<| .a2 ((afE p1 n1 k)*40≤140737488355328) (p1.length+[(Q5 n1 k)].length≤4611686018427387904)<| .rg {an:=[(10, .arr [(Q5 n1 k)].length (abx n1 k)),(11, .arr (YO p1 n1 k).length (afu p1 n1 k))],fr:=[(10,415),(11,416)]} [.pf ⟨[(Q5 n1 k)].length=1,rfl⟩, .pf ⟨aD 1 5 (pz 5 [(.int .i64 (IntKind.wrap .i64 ((3:Int)*k))),(.int .i64 1),(.int .i64 (Tw n1 k)),(.int .i64 0),(.int .i64 (IntKind.wrap .i64 ((10:Int)+n1)))]) (abx n1 k),(by intro i hi j hj;match i,j,hi,hj with|0,0,_,_=>rfl|0,1,_,_=>rfl|0,2,_,_=>rfl|0,3,_,_=>rfl|0,4,_,_=>rfl)⟩, .e (p1.length),0,1, .pf ⟨(YO p1 n1 k).length=p1.length+[(Q5 n1 k)].length,List.length_append⟩, .pf ⟨aD (afE p1 n1 k) 5 (tN (au Source.cell p1) p1.length (abx n1 k)) (afu p1 n1 k),dw _ _ _ _⟩]<| .r<| .en (.next ((YO p1 n1 k),(k4 k))) [] [(416,410)])
  (.e (.done (.brk p1))))
  (fun u3=> .r<| .im (.QF 408 2 426 66 6 (au Link.cell ([]:List Link)))<| .lp (σ:=((List Link) × Int)) (β:=(List Link)) (([]:List Link),0) [] [(426,419)] ⟨[6,7],[410],fun(p2,i)=>[(10,(vI i))],fun(p2,i)=>(X7 u3 p2)⟩ ⟨[6,7],[410],fun u7=>[],fun u7=>(X7 u3 u7)⟩
  (fun(p2,i)=> .r<| .it (.r<| .a3 (24≠(0:Int)) ((af0 n1 p2 i)*64≤140737488355328) (p2.length+[(Qi n1 i)].length≤4611686018427387904)<| .rg {an:=[(22, .arr [(Qi n1 i)].length (Yw n1 i)),(23, .arr (SI n1 p2 i).length (Yf n1 p2 i))],fr:=[(22,424),(23,425)]} [0,0,0, .pf ⟨[(Qi n1 i)].length=1,rfl⟩, .pf ⟨aD 1 6 (Yw n1 i) (Yw n1 i),gm _ _ _⟩, .e (p2.length),1,2, .pf ⟨(SI n1 p2 i).length=p2.length+[(Qi n1 i)].length,List.length_append⟩, .pf ⟨aD (af0 n1 p2 i) 6 (Yf n1 p2 i) (Yf n1 p2 i),gm _ _ _⟩]<| .im (.uh 425 (some (.arr 66 6 (SI n1 p2 i).length (Yf n1 p2 i))) (some (.arr 66 6 (SI n1 p2 i).length (au Link.cell (SI n1 p2 i)))) (Hz (agA Link.cell p2 [(Qi n1 i)] _ (by intro i hi j hj;match i,j,hi,hj with|0,0,_,_=>exact .refl _|0,1,_,_=>exact .refl _|0,2,_,_=>exact .refl _|0,3,_,_=>exact .refl _|0,4,_,_=>exact .refl _|0,5,_,_=>exact jK.nil'))))<| .r<| .en (.next ((SI n1 p2 i),(k4 i))) [] [(425,419)])
  (.e (.done (.brk p2))))
  (fun u7=> .r<| .lp (σ:=((List Link) × Int)) (β:=(List Link)) (u7,0) [] [] ⟨[6,7],[410],fun(u1,i1)=>[(12,(vI i1))],fun(u1,i1)=>(X7 u3 u1)⟩ ⟨[6,7],[410],fun u4=>[],fun u4=>(X7 u3 u4)⟩
  (fun(u1,i1)=> .r<| .it (.a1 (k3 u1 i1)<| .rg {} [0, .t 0 i1 u1.length,0, .t 0 i1 u1.length]<| .it (.a2 (k3 u1 i1) (24≠(0:Int))<| .rg {an:=[(13, .arr 0 (aco u1 i1))]} [0, .t 0 i1 u1.length,1,0, .t 0 i1 u1.length, .pf ⟨aD u1.length 6 (eX (au Link.cell u1) i1.toNat 1 [(.int .i64 (Int.tmod (IntKind.wrap .i64 (((at' u1 i1.toNat).a)+1)) 24))]) (aco u1 i1),aK _ _ _ _ _ _ _ _ rfl (fun j hj=>(match j,hj with|0,_=>rfl|1,_=>rfl|2,_=>rfl|3,_=>rfl|4,_=>rfl|5,_=>rfl))⟩]<| .im (.ll 419 u1 (Zy u1 i1))<| .r<| .e (.next ((Zy u1 i1),(k4 i1))))
  (.r<| .e (.next (u1,(k4 i1)))))
  (.e (.done (.brk u1))))
  (fun u4=> .r<| .im (.QF 408 3 435 71 4 (au aC.cell ([]:List aC)))<| .lp (σ:=((List aC) × Int)) (β:=(List aC)) (([]:List aC),0) [] [(435,428)] ⟨[6,7],[410,419],fun(p3,u0)=>[(13,(vI u0))],fun(p3,u0)=>(afg u3 u4 p3)⟩ ⟨[6,7],[410,419],fun u5=>[],fun u5=>(afg u3 u4 u5)⟩
  (fun(p3,u0)=> .r<| .it (.r<| .a3 (24≠(0:Int)) ((aeb n1 p3 u0)*32≤140737488355328) (p3.length+[(PX n1 u0)].length≤4611686018427387904)<| .rg {an:=[(11, .arr [(PX n1 u0)].length (abO n1 u0)),(12, .arr (Xm n1 p3 u0).length (aff n1 p3 u0))],fr:=[(11,433),(12,434)]} [0, .pf ⟨[(PX n1 u0)].length=1,rfl⟩, .pf ⟨aD 1 4 (pz 4 [(.int .i64 u0),(.int .i64 (Int.tmod (IntKind.wrap .i64 (u0+7)) 24)),(.int .i64 (Tw u0 n1)),(.int .i64 2)]) (abO n1 u0),(by intro i hi j hj;match i,j,hi,hj with|0,0,_,_=>rfl|0,1,_,_=>rfl|0,2,_,_=>rfl|0,3,_,_=>rfl)⟩, .e (p3.length),1,2, .pf ⟨(Xm n1 p3 u0).length=p3.length+[(PX n1 u0)].length,List.length_append⟩, .pf ⟨aD (aeb n1 p3 u0) 4 (tN (au aC.cell p3) p3.length (abO n1 u0)) (aff n1 p3 u0),dw _ _ _ _⟩]<| .r<| .en (.next ((Xm n1 p3 u0),(k4 u0))) [] [(434,428)])
  (.e (.done (.brk p3))))
  (fun u5=> .cl 1 (BF [(0,410),(1,419),(2,428),(3,436),(4,437),(5,438),(6,439),(7,440),(8,441),(9,442),(10,443)] (Aj (⟨24,u3,u4,u5⟩:ah))) fun u2=> .rg {fr:=[(5,444)],fz:=[410,419,428]} []<| .fz [408]<| .r<| .it (.r<| .e (.done (.ret false)))
  (.r<| .lp (σ:=((List Bool) × Int)) (β:=(List Bool)) (u2.1.on_,0) [] [] ⟨[6,7,15],[436,437,438,440,441,442],fun(s3,k1)=>[(17,(vI k1))],fun(s3,k1)=>(adO s3 u2)⟩ ⟨[6,7,15],[436,437,438,440,441,442],fun u6=>[],fun u6=>(adO u6 u2)⟩
  (fun(s3,k1)=> .r<| .it (.a1 (k10 k1 s3)<| .rg {an:=[(7, .arr 0 (au aj (s3.set k1.toNat (!decide (k1=n1)))))]} [0, .t 0 k1 s3.length, .pf ⟨aD s3.length 1 (eX (au aj s3) k1.toNat 0 [(.bool (!decide (k1=n1)))]) (au aj (s3.set k1.toNat (!decide (k1=n1)))),aK _ _ _ _ _ _ _ _ rfl (fun j hj=>(match j,hj with|0,_=>rfl))⟩]<| .im (.ll 439 s3 (s3.set k1.toNat (!decide (k1=n1))))<| .r<| .e (.next ((s3.set k1.toNat (!decide (k1=n1))),(k4 k1))))
  (.e (.done (.brk s3))))
  (fun u6=> .cl 2 (BF [(0,436),(1,437),(2,438),(3,439),(4,440),(5,441),(6,442),(7,445),(8,446),(9,447),(10,448),(11,449)] ⟨fun h=>CU (⟨24,u3,u4,u5⟩:ah) (ads u2 u6) h⟩) fun u9=> .rg {fr:=[(7,450)],fz:=[436,437,438,439,440,441,442,445,446,447,448]} []<| .fz [444,450]<| .cg 7 [((!decide (u9.2.2=0)),false)] (Dk (⟨24,u3,u4,u5⟩:ah) (ads u2 u6) u9.1 u9.2.1) fun v2=> .r<| .it (.r<| .e (.done (.ret false)))
  (.r<| .e (.next (k4 n1))))))))))
  (.e (.done (.brk ()))))
  (fun _=> .cl 0 gQ fun v1=> .r<| .e v1)))
end
end Sg
