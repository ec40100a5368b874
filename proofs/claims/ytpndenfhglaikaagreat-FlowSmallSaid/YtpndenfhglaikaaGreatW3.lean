import Derived.Test.YtpndenfhglaikaaGreatW2
set_option linter.all false
namespace Sg
open Go Go.Proofs
set_option maxRecDepth 20000
noncomputable section
theorem wB (p:ah) (s_:State) (u2:(List Bool)):fB Tryz.prog 79 (YS p s_ u2) [] (fun r=>(.iV [(sI r.1),(sI r.2)])) (fun _=>[]) (lV p s_ u2):=
  gJ tT mX Tryz.func79 (
  .rg {fr:=[(0,4),(1,5)],fz:=[4,5]} []<| .cl 2 (eP p s_) fun r_=> .r<| .r<| .it (.r<| .e (0,r_))
  (.r<| .it (.r<| .e (0,1))
  (.r<| .lp (σ:=Int) (β:=Unit) (0) [] [] ⟨[2,3,4,25,26],[],fun u1=>[(27,(vI u1))],fun u1=>[]⟩ ⟨[2,3,4],[],fun _=>[],fun _=>[]⟩
  (fun u1=> .r<| .it (.a1 (k10 u1 u2)<| .r<| .a1 ((gB [((at' u2 u1.toNat),true)]=true→(0:Int)≤u1∧u1<(s_.badBus.length:Int)))<| .r<| .it (.r<| .e (.done (.ret (0,1))))
  (.r<| .e (.next (k4 u1))))
  (.e (.done (.brk ()))))
  (fun _=> .rg {fr:=[(0,6)]} []<| .cl 3 (wY p s_ u2) fun u0=> .r<| .cl 0 (BD [(0,7),(1,6)] (zx u0.1 u0.2.1 u0.2.2.1 u0.2.2.2.1 u0.2.2.2.2.1 u0.2.2.2.2.2.1 u0.2.2.2.2.2.2.1 u0.2.2.2.2.2.2.2.1 u0.2.2.2.2.2.2.2.2.1 u0.2.2.2.2.2.2.2.2.2.1 u0.2.2.2.2.2.2.2.2.2.2.1 u0.2.2.2.2.2.2.2.2.2.2.2 0)) fun u3=> .rf 7 [11] [] none 0 []<| .r<| .e (u3,0)))))
theorem Dn:fB Tryz.prog 130 [] [] (fun _=>(vO 0 true 3)) (fun _=>[(0,some (.cells 228 [(.d (.fn 146 0 (yC []))),(.d (.fn 147 0 (yC []))),(.d (.fn 148 0 (yC [])))]))]) (y8):=
  gJ tT mX Tryz.func130 (
  .r<| .rg {an:=[(3, .cells)],fr:=[(3,1)]} []<| .en () [] [(1,0)])
section
variable (p:ah) (s_:State) (x:aA) (u1:Int) (u0:Int)
abbrev R5:List SV:=[(.agg (k9 p)),(.agg (k11 s_)),(.agg (XL x))]
abbrev WS:=((0:Int)≤u1∧u1<(x.sources.length:Int))
abbrev QF:=((0:Int)≤u0∧u0<(x.links.length:Int))
abbrev acR:=((decide ((at' x.links u0.toNat)<(IntKind.wrap .i64 (0 - (I4 p u0))))),false)
end
theorem Ed (p:ah) (s_:State) (x:aA):fB Tryz.prog 146 (R5 p s_ x) [] (fun r=>(vB r)) (fun _=>[]) (qM p s_ x):=
  gJ tT mX Tryz.func146 (
  .rg {fr:=[(0,3),(1,4),(2,5)],fz:=[3,4,5]} []<| .r<| .lp (σ:=Int) (β:=Unit) (0) [] [] ⟨[3,4,5,12,13],[],fun u1=>[(14,(vI u1))],fun u1=>[]⟩ ⟨[3,4,5],[],fun _=>[],fun _=>[]⟩
  (fun u1=> .r<| .it (.a1 (WS x u1)<| .r<| .cg 19 [((decide (0<(at' x.sources u1.toNat))),true),((bif (decide ((at' x.sources u1.toNat)<0))then true else(decide ((TF p u1)<(at' x.sources u1.toNat)))),false)] (iN p s_ u1) fun r_=> .a1 ((gB [((decide ((at' x.sources u1.toNat)<0)),false)]=true→(0:Int)≤u1∧u1<(p.sources.length:Int)))<| .rg {} [0,1]<| .it (.r<| .e (.done (.ret false)))
  (.r<| .e (.next (k4 u1))))
  (.e (.done (.brk ()))))
  (fun _=> .r<| .lp (σ:=Int) (β:=Unit) (0) [] [] ⟨[3,4,44,45],[],fun u0=>[(46,(vI u0))],fun u0=>[]⟩ ⟨[],[],fun _=>[],fun _=>[]⟩
  (fun u0=> .r<| .it (.a1 (QF x u0)<| .r<| .cg 26 [((!decide ((at' x.links u0.toNat)=0)),true),((bif (decide ((at' x.links u0.toNat)<(IntKind.wrap .i64 (0 - (I4 p u0)))))then true else(decide ((I4 p u0)<(at' x.links u0.toNat)))),false)] (fo p s_ u0) fun u2=> .a2 (Qn p u0) ((gB [(acR p x u0)]=true→(0:Int)≤u0∧u0<(p.links.length:Int)))<| .rg {} [0,1,2]<| .it (.r<| .e (.done (.ret false)))
  (.r<| .e (.next (k4 u0))))
  (.e (.done (.brk ()))))
  (fun _=> .r<| .e true)))
section
variable (x:aA) (u0:Int) (u1:Int) (p:ah)
abbrev SY:=(at' [(at' x.racks u0.toNat).e0,(at' x.racks u0.toNat).e1] u1.toNat)
abbrev abG:=((decide (0<(SY x u0 u1))),true)
abbrev Zt:=((bif (decide ((SY x u0 u1)<0))then true else(decide (((at' p.racks u0.toNat).power)<(SY x u0 u1)))),false)
abbrev su:=((at' p.racks u0.toNat).feeds)
abbrev ae0:=((gB [((decide ((SY x u0 u1)<0)),false)]=true→(0:Int)≤u0∧u0<(p.racks.length:Int)))
abbrev af2:=((gB [(abG x u0 u1),(Zt x u0 u1 p)]=true→(0:Int)≤u0∧u0<(p.racks.length:Int)))
end
theorem GJ (p:ah) (s_:State) (x:aA):fB Tryz.prog 147 (R5 p s_ x) [] (fun r=>(vB r)) (fun _=>[]) (vo p s_ x):=
  gJ tT mX Tryz.func147 (
  .rg {fr:=[(0,7),(1,8),(2,9)],fz:=[7,8]} []<| .r<| .lp (σ:=Int) (β:=Unit) (0) [] [] ⟨[3,4,12,13],[],fun u0=>[(14,(vI u0))],fun u0=>[]⟩ ⟨[],[],fun _=>[],fun _=>[]⟩
  (fun u0=> .r<| .it (.a1 (DX x u0)<| .rg {fr:=[(3,13)],fz:=[13]} []<| .r<| .lp (σ:=Int) (β:=Unit) (0) [] [] ⟨[3,4,7,8,12,13,14,19],[],fun u1=>[(20,(vI u1))],fun u1=>[]⟩ ⟨[3,4,7,8,12,13,14],[],fun _=>[],fun _=>[]⟩
  (fun u1=> .r<| .it (.a1 ((0:Int)≤u1∧u1<((2:Nat):Int))<| .rg {an:=[(1, .vals [(.int .i64 (SY x u0 u1))])]} [0, .dv 0 ⟨(0:Int)≤u1∧u1<((2:Nat):Int),u1.toNat*1+1≤[(cI ((at' x.racks u0.toNat).e0)),(cI (Np x u0))].length,fun ax=>TK (n:=2) (sz:=1) (Nat.le_refl _) ax⟩, .dv 0 ⟨(0:Int)≤u1∧u1<((2:Nat):Int),([(cI ((at' x.racks u0.toNat).e0)),(cI (Np x u0))].drop (u1.toNat*1)).take 1=[(.int .i64 (SY x u0 u1))].map .d,fun ax=>Tq (n:=2) (sz:=1) (g:=fun q=>[(cI (at' [(at' x.racks u0.toNat).e0,(at' x.racks u0.toNat).e1] q))]) (by intro q hq;match q,hq with|0,_=>rfl|1,_=>rfl) ax⟩]<| .fk (decide (u1=0)) (.si 9 u1 0 0<| .si 20 u1 0 0<| .cg 25 [(abG x u0 u1),(Zt x u0 u1 p)] (jP s_ ((su u0 p).e0)) fun r_=> .a2 (ae0 x u0 u1 p) (af2 x u0 u1 p)<| .rg {} [0,1, .pf ⟨(0:Int)≤0∧(0:Int)<(2:Nat),(by decide)⟩,2]<| .it (.r<| .e (.done (.ret (.done (.ret false)))))
  (.r<| .e (.next 1)))
  (.a1 (u1=1)<| .sj 9 u1 1 0<| .sj 20 u1 1 0<| .cg 25 [(abG x u0 u1),(Zt x u0 u1 p)] (jP s_ ((su u0 p).e1)) fun u2=> .a2 (ae0 x u0 u1 p) (af2 x u0 u1 p)<| .rg {} [0,1, .pf ⟨(0:Int)≤1∧(1:Int)<(2:Nat),(by decide)⟩,2]<| .it (.r<| .e (.done (.ret (.done (.ret false)))))
  (.r<| .e (.next 2))))
  (.e (.done (.brk ()))))
  (fun _=> .a1 (D5 u0 p)<| .rg {} [.pf ⟨(0:Int)≤0∧(0:Int)<(2:Nat),(by decide)⟩, .pf ⟨(0:Int)≤1∧(1:Int)<(2:Nat),(by decide)⟩,0]<| .it (.r<| .e (.done (.ret false)))
  (.r<| .e (.next (k4 u0)))))
  (.e (.done (.brk ()))))
  (fun _=> .r<| .e true))
theorem Bl (n:Int):fB Tryz.prog 154 [(sI n)] [] (fun r=>(vB r)) (fun _=>[]) (qO n):=
  gJ tT mX Tryz.func154 (
  .r<| .r<| .e (!decide (n=0)))
section
variable (s_:(List Int))
abbrev Qg:List (Nat × Option Ob):=[(0,some (F7 s_))]
end
theorem vg (s_:(List Int)):fB Tryz.prog 128 [(.one (.own 0 true s_.length)),(sD (.fn 154 0 (yC [])))] (Qg s_) (fun r=>(vI r)) (fun r=>(Qg s_)) (jW s_):=
  gJ tT mX Tryz.func128 (
  .r<| .r<| .lp (σ:=Int) (β:=Unit) (0) [] [] ⟨[0,1,7],[0],fun t8=>[(8,(vI t8))],fun t8=>[]⟩ ⟨[],[0],fun _=>[],fun _=>[]⟩
  (fun t8=> .r<| .it (.r<| .cl 5 (Bl (at' s_ t8.toNat)) fun r_=> .a1 (Ns s_ t8)<| .rg {} [0, .t 0 t8 s_.length,1]<| .it (.r<| .e (.done (.ret t8)))
  (.r<| .e (.next (k4 t8))))
  (.e (.done (.brk ()))))
  (fun _=> .r<| .e (-1)))
theorem tZ (s_:(List Int)):fB Tryz.prog 100 [(.one (.own 0 true s_.length)),(sD (.fn 154 0 (yC [])))] (Qg s_) (fun r=>(vB r)) (fun r=>(Qg s_)) (dV s_):=
  gJ tT mX Tryz.func100 (
  .r<| .cr 2 (vg s_) fun r_=> .r<| .e (decide (0≤r_)))
section
variable (p:ah) (u6:(List Int)) (u5:Int) (x:aA) (u2:(List Int)) (u0:Int) (u1:Int) (u3:Int) (u4:(List Int))
abbrev VX:=(List.replicate p.buses.toNat (0:Int))
abbrev Pp:List (Nat × Option Ob):=[(11,some (F7 u6))]
abbrev abI:=(u6.set ((Uz p u5).toNat) (IntKind.wrap .i64 ((at' u6 ((Uz p u5).toNat))+(at' x.sources u5.toNat))))
abbrev afi:=(au (aG .i64) (abI p u6 u5 x))
abbrev Ow:=(u2.set (k49 u0 p) (IntKind.wrap .i64 ((at' u2 (k49 u0 p)) - (at' x.links u0.toNat))))
abbrev abK:=(au (aG .i64) (Ow p x u2 u0))
abbrev adN:=(IntKind.wrap .i64 ((at' (Ow p x u2 u0) (k52 u0 p))+(at' x.links u0.toNat)))
abbrev aak:=((Ow p x u2 u0).set (k52 u0 p) (adN p x u2 u0))
abbrev adh:=(au (aG .i64) (aak p x u2 u0))
abbrev adl:=((Ow p x u2 u0).length)
abbrev Mv:=(at' [(su u1 p).e0,(su u1 p).e1] u3.toNat)
abbrev afV:=((0:Int)≤(Mv p u1 u3)∧(Mv p u1 u3)<(u4.length:Int))
abbrev Uw:=((Mv p u1 u3).toNat)
abbrev aeR:=(IntKind.wrap .i64 ((at' u4 (Uw p u1 u3)) - ((at' x.racks u1.toNat).e0)))
abbrev ZB:=(u4.set (Uw p u1 u3) (aeR p x u1 u3 u4))
abbrev adZ:=(au (aG .i64) (ZB p x u1 u3 u4))
abbrev aer:=(IntKind.wrap .i64 ((at' u4 (Uw p u1 u3)) - (Np x u1)))
abbrev aaC:=(u4.set (Uw p u1 u3) (aer p x u1 u3 u4))
abbrev aeC:=(au (aG .i64) (aaC p x u1 u3 u4))
end
theorem DJ (p:ah) (s_:State) (x:aA):fB Tryz.prog 148 (R5 p s_ x) [] (fun r=>(vB r)) (fun _=>[]) (pU p s_ x):=
  gJ tT mX Tryz.func148 (
  .rg {fr:=[(0,8),(1,9),(2,10)]} []<| .a3 ((0:Int)≤p.buses) ((8:Int)*p.buses≤281474976710656) (Uv p)<| .rg {an:=[(2, .arr (VX p).length (au (aG .i64) (VX p)))],fr:=[(2,11)]} [0, .e ((p.buses:Int)),1,2, .pf ⟨(VX p).length=p.buses.toNat,List.length_replicate⟩, .pf ⟨aD p.buses.toNat 1 (fun _ j=>[(.int .i64 0)].getD j .nilp) (au (aG .i64) (VX p)),aW _ _ _ _ _ (fun j hj=>(match j,hj with|0,_=>rfl))⟩]<| .r<| .lp (σ:=((List Int) × Int)) (β:=(List Int)) ((VX p),0) [] [] ⟨[3,5,20,21],[8,10],fun(u6,u5)=>[(7,(vO 11 true u6.length)),(22,(vI u5))],fun(u6,u5)=>(Pp u6)⟩ ⟨[3,5],[8,10],fun u8=>[(7,(vO 11 true u8.length))],fun u8=>(Pp u8)⟩
  (fun(u6,u5)=> .r<| .it (.a1 (WS x u5)<| .r<| .a2 (O5 u5 p) ((0:Int)≤(at' p.sources u5.toNat).bus∧(at' p.sources u5.toNat).bus<(u6.length:Int))<| .rg {an:=[(12, .arr 0 (afi p u6 u5 x))]} [0,1, .t 1 (Uz p u5) u6.length,1, .t 1 (Uz p u5) u6.length, .pf ⟨aD u6.length 1 (eX (au (aG .i64) u6) ((Uz p u5).toNat) 0 [(.int .i64 (IntKind.wrap .i64 ((at' u6 ((Uz p u5).toNat))+(at' x.sources u5.toNat))))]) (afi p u6 u5 x),aK _ _ _ _ _ _ _ _ rfl (fun j hj=>(match j,hj with|0,_=>rfl))⟩]<| .im (.ll 11 u6 (abI p u6 u5 x))<| .r<| .e (.next ((abI p u6 u5 x),(k4 u5))))
  (.e (.done (.brk u6))))
  (fun u8=> .r<| .lp (σ:=((List Int) × Int)) (β:=(List Int)) (u8,0) [] [] ⟨[3,5,41,42],[8,10],fun(u2,u0)=>[(7,(vO 11 true u2.length)),(43,(vI u0))],fun(u2,u0)=>(Pp u2)⟩ ⟨[3,5],[8,10],fun u9=>[(7,(vO 11 true u9.length))],fun u9=>(Pp u9)⟩
  (fun(u2,u0)=> .r<| .it (.a1 (QF x u0)<| .r<| .a2 (Qn p u0) ((0:Int)≤(at' p.links u0.toNat).a∧(at' p.links u0.toNat).a<(u2.length:Int))<| .rg {an:=[(12, .arr 0 (abK p x u2 u0))]} [0,1, .t 1 (U8 u0 p) u2.length,1, .t 1 (U8 u0 p) u2.length, .pf ⟨aD u2.length 1 (eX (au (aG .i64) u2) (k49 u0 p) 0 [(.int .i64 (IntKind.wrap .i64 ((at' u2 (k49 u0 p)) - (at' x.links u0.toNat))))]) (abK p x u2 u0),aK _ _ _ _ _ _ _ _ rfl (fun j hj=>(match j,hj with|0,_=>rfl))⟩]<| .im (.ll 11 u2 (Ow p x u2 u0))<| .a2 (Qn p u0) ((0:Int)≤(at' p.links u0.toNat).b∧(at' p.links u0.toNat).b<((Ow p x u2 u0).length:Int))<| .rg {an:=[(12, .arr 0 (adh p x u2 u0))]} [0,1, .t 1 (Xf u0 p) (adl p x u2 u0),1, .t 1 (Xf u0 p) (adl p x u2 u0), .pf ⟨aD (Ow p x u2 u0).length 1 (eX (abK p x u2 u0) (k52 u0 p) 0 [(.int .i64 (adN p x u2 u0))]) (adh p x u2 u0),aK _ _ _ _ _ _ _ _ rfl (fun j hj=>(match j,hj with|0,_=>rfl))⟩]<| .im (.ll 11 (Ow p x u2 u0) (aak p x u2 u0))<| .r<| .e (.next ((aak p x u2 u0),(k4 u0))))
  (.e (.done (.brk u2))))
  (fun u9=> .rg {fz:=[8]} []<| .lp (σ:=((List Int) × Int)) (β:=(List Int)) (u9,0) [] [] ⟨[3,74,75],[],fun(u7,u1)=>[(7,(vO 11 true u7.length)),(76,(vI u1))],fun(u7,u1)=>(Pp u7)⟩ ⟨[],[],fun v0=>[(7,(vO 11 true v0.length))],fun v0=>(Pp v0)⟩
  (fun(u7,u1)=> .r<| .it (.a1 (DX x u1)<| .rg {fr:=[(3,15)],fz:=[15]} []<| .a1 (D5 u1 p)<| .r<| .lp (σ:=((List Int) × Int)) (β:=(List Int)) (u7,0) [] [] ⟨[3,13,74,75,76,86],[],fun(u4,u3)=>[(7,(vO 11 true u4.length)),(87,(vI u3))],fun(u4,u3)=>(Pp u4)⟩ ⟨[3,74,75,76],[],fun v1=>[(7,(vO 11 true v1.length))],fun v1=>(Pp v1)⟩
  (fun(u4,u3)=> .r<| .it (.a1 ((0:Int)≤u3∧u3<((2:Nat):Int))<| .rg {an:=[(1, .vals [(.int .i64 (Mv p u1 u3))])]} [0, .dv 0 ⟨(0:Int)≤u3∧u3<((2:Nat):Int),u3.toNat*1+1≤[(cI ((su u1 p).e0)),(cI ((su u1 p).e1))].length,fun ax=>TK (n:=2) (sz:=1) (Nat.le_refl _) ax⟩, .dv 0 ⟨(0:Int)≤u3∧u3<((2:Nat):Int),([(cI ((su u1 p).e0)),(cI ((su u1 p).e1))].drop (u3.toNat*1)).take 1=[(.int .i64 (Mv p u1 u3))].map .d,fun ax=>Tq (n:=2) (sz:=1) (g:=fun q=>[(cI (at' [(su u1 p).e0,(su u1 p).e1] q))]) (by intro q hq;match q,hq with|0,_=>rfl|1,_=>rfl) ax⟩]<| .r<| .it (.fk (decide (u3=0)) (.si 14 u3 0 0<| .si 87 u3 0 0<| .a1 (afV p u1 u3 u4)<| .rg {an:=[(9, .arr 0 (adZ p x u1 u3 u4))]} [0, .t 0 (Mv p u1 u3) u4.length, .pf ⟨(0:Int)≤0∧(0:Int)<(2:Nat),(by decide)⟩,0, .t 0 (Mv p u1 u3) u4.length, .pf ⟨aD u4.length 1 (eX (au (aG .i64) u4) (Uw p u1 u3) 0 [(.int .i64 (aeR p x u1 u3 u4))]) (adZ p x u1 u3 u4),aK _ _ _ _ _ _ _ _ rfl (fun j hj=>(match j,hj with|0,_=>rfl))⟩]<| .im (.ll 11 u4 (ZB p x u1 u3 u4))<| .r<| .e (.next ((ZB p x u1 u3 u4),1)))
  (.a1 (u3=1)<| .sj 14 u3 1 0<| .sj 87 u3 1 0<| .a1 (afV p u1 u3 u4)<| .rg {an:=[(9, .arr 0 (aeC p x u1 u3 u4))]} [0, .t 0 (Mv p u1 u3) u4.length, .pf ⟨(0:Int)≤1∧(1:Int)<(2:Nat),(by decide)⟩,0, .t 0 (Mv p u1 u3) u4.length, .pf ⟨aD u4.length 1 (eX (au (aG .i64) u4) (Uw p u1 u3) 0 [(.int .i64 (aer p x u1 u3 u4))]) (aeC p x u1 u3 u4),aK _ _ _ _ _ _ _ _ rfl (fun j hj=>(match j,hj with|0,_=>rfl))⟩]<| .im (.ll 11 u4 (aaC p x u1 u3 u4))<| .r<| .e (.next ((aaC p x u1 u3 u4),2))))
  (.r<| .e (.next (Sl u4 u3))))
  (.e (.done (.brk u4))))
  (fun v1=> .r<| .e (.next (Sl v1 u1))))
  (.e (.done (.brk u7))))
  (fun v0=> .cr 1 (BD [(0,11)] (tZ v0)) fun r_=> .r<| .e (!r_)))))
theorem zi (p:ah) (s_:State) (x:aA):fB Tryz.prog 106 (R5 p s_ x) [] (fun r=>(vI r)) (fun _=>[]) (kH p s_ x):=
  gJ tT mX Tryz.func106 (
  .rg {fr:=[(0,7),(1,8),(2,9)],fz:=[7,8,9]} []<| .cl 2 (eP p s_) fun r_=> .r<| .r<| .it (.r<| .e r_)
  (.r<| .it (.r<| .e 20)
  (.cl 0 (BD [(0,10)] Dn) fun u0=> .r<| .ul 11<| .r<| .t<| .a1 ((0:Int)≤0∧0<(3:Int))<| .rg {fr:=[(2,11)],fz:=[11]} []<| .cl 5 (Ed p s_ x) fun u1=> .r<| .it (.r<| .e 20)
  (.r<| .r<| .t<| .a1 ((0:Int)≤1∧1<(3:Int))<| .rg {fr:=[(2,12)],fz:=[12]} []<| .cl 5 (GJ p s_ x) fun u2=> .r<| .it (.r<| .e 20)
  (.r<| .r<| .t<| .a1 ((0:Int)≤2∧2<(3:Int))<| .rg {fr:=[(2,13)],fz:=[13]} []<| .cl 5 (DJ p s_ x) fun u3=> .r<| .it (.r<| .e 20)
  (.r<| .r<| .f<| .r<| .e 0))))))
section
variable (p:ah) (s_:State) (x:aA) (u0:(List Bool))
abbrev acF:List SV:=[(.agg (k9 p)),(.agg (k11 s_)),(.agg (XL x)),(sD (bM none 1 aj u0))]
end
theorem Fb (p:ah) (s_:State) (x:aA) (u0:(List Bool)):fB Tryz.prog 80 (acF p s_ x u0) [] (fun r=>(vI r)) (fun _=>[]) (nu p s_ x u0):=
  gJ tT mX Tryz.func80 (
  .rg {fr:=[(0,3),(1,4),(2,5)],fz:=[3,4,5]} []<| .cl 3 (zi p s_ x) fun r_=> .r<| .r<| .it (.r<| .e r_)
  (.cl 3 (wB p s_ u0) fun u1=> .r<| .cg 5 [((decide (u1.2=0)),true)] (kR x) fun u2=> .r<| .it (.r<| .r<| .e 7)
  (.r<| .e u1.2)))
section
variable (p3:(List aC)) (u0:(List Int)) (i:Int) (u1:(List aC))
abbrev ab3:List DV:=[(.int .i64 0),(.int .i64 1),(.int .i64 500),(.int .i64 0),(.int .i64 20),(.int .i64 2),(.int .i64 2),(.int .i64 300),(.int .i64 0),(.int .i64 40)]
abbrev YG:List (Nat × Option Ob):=[(25,some (.cells 26 [(cI 3),(.own 23 true ([(⟨0,1,500,0,20⟩:Source),(⟨2,2,300,0,40⟩:Source)].length)),(.own 24 true ([(⟨0,1,3,400,10,([]:List gD)⟩:Link),(⟨1,2,3,400,10,([]:List gD)⟩:Link)].length)),(.own 27 false p3.length)])),(27,some (bZ 71 4 aC.cell p3))]
abbrev IK:=(⟨(⟨1,(-1)⟩:af),(at' u0 i.toNat),1⟩:aC)
abbrev ZU:=(p3.length+[(IK u0 i)].length)
abbrev afW:=((ZU p3 u0 i)*32≤140737488355328)
abbrev WN:=(au aC.cell [(IK u0 i)])
abbrev QW:=(p3++[(IK u0 i)])
abbrev Xt:=(au aC.cell (QW p3 u0 i))
abbrev aeW:=(sW (au aC.cell p3) p3.length (WN u0 i))
abbrev aeP:=((⟨3,[(⟨0,1,500,0,20⟩:Source),(⟨2,2,300,0,40⟩:Source)],[(⟨0,1,3,400,10,([]:List gD)⟩:Link),(⟨1,2,3,400,10,([]:List gD)⟩:Link)],u1⟩:ah),(⟨[true,true],(List.replicate 2 (false:Bool)),(List.replicate 2 (false:Bool)),[true,true],(List.replicate 2 (false:Bool)),(List.replicate 3 (false:Bool)),(List.replicate 3 (false:Bool))⟩:State))
end
theorem sK (u0:(List Int)):fB Tryz.prog 23 [(.one (.own 0 true u0.length))] (Qg u0) (fun r=>(.iV [(.agg [(cI r.1.buses),(.d (bM none 5 Source.cell r.1.sources)),(.d (bM none 6 Link.cell r.1.links)),(.d (bM none 4 aC.cell r.1.racks))]),(.agg [(.d (bM none 1 aj r.2.closed)),(.d (bM none 1 aj r.2.locked)),(.d (bM none 1 aj r.2.badLink)),(.d (bM none 1 aj r.2.on_)),(.d (bM none 1 aj r.2.badSource)),(.d (bM none 1 aj r.2.earthed)),(.d (bM none 1 aj r.2.badBus))])])) (fun r=>(Qg u0)) (lX u0):=
  gJ tT mX Tryz.func23 (
  .rg {fr:=[(0,21),(1,22)]} []<| .rg {an:=[(2, .arr [(⟨0,1,500,0,20⟩:Source),(⟨2,2,300,0,40⟩:Source)].length (au Source.cell [(⟨0,1,500,0,20⟩:Source),(⟨2,2,300,0,40⟩:Source)])),(5, .arr [(⟨0,1,3,400,10,([]:List gD)⟩:Link),(⟨1,2,3,400,10,([]:List gD)⟩:Link)].length (pz 6 [(.int .i64 0),(.int .i64 1),(.int .i64 3),(.int .i64 400),(.int .i64 10),nS,(.int .i64 1),(.int .i64 2),(.int .i64 3),(.int .i64 400),(.int .i64 10),nS]))],fr:=[(2,23),(5,24),(7,25)]} [.pf ⟨[(⟨0,1,500,0,20⟩:Source),(⟨2,2,300,0,40⟩:Source)].length=2,rfl⟩, .pf ⟨aD 2 5 (pz 5 ab3) (au Source.cell [(⟨0,1,500,0,20⟩:Source),(⟨2,2,300,0,40⟩:Source)]),(by intro i hi j hj;match i,j,hi,hj with|0,0,_,_=>rfl|0,1,_,_=>rfl|0,2,_,_=>rfl|0,3,_,_=>rfl|0,4,_,_=>rfl|1,0,_,_=>rfl|1,1,_,_=>rfl|1,2,_,_=>rfl|1,3,_,_=>rfl|1,4,_,_=>rfl)⟩, .pf ⟨[(⟨0,1,3,400,10,([]:List gD)⟩:Link),(⟨1,2,3,400,10,([]:List gD)⟩:Link)].length=2,rfl⟩, .pf ⟨aD 2 6 (pz 6 [(.int .i64 0),(.int .i64 1),(.int .i64 3),(.int .i64 400),(.int .i64 10),nS,(.int .i64 1),(.int .i64 2),(.int .i64 3),(.int .i64 400),(.int .i64 10),nS]) (pz 6 [(.int .i64 0),(.int .i64 1),(.int .i64 3),(.int .i64 400),(.int .i64 10),nS,(.int .i64 1),(.int .i64 2),(.int .i64 3),(.int .i64 400),(.int .i64 10),nS]),fG _ _ _⟩]<| .im (.uh 24 (some (.arr 66 6 [(⟨0,1,3,400,10,([]:List gD)⟩:Link),(⟨1,2,3,400,10,([]:List gD)⟩:Link)].length (pz 6 [(.int .i64 0),(.int .i64 1),(.int .i64 3),(.int .i64 400),(.int .i64 10),nS,(.int .i64 1),(.int .i64 2),(.int .i64 3),(.int .i64 400),(.int .i64 10),nS]))) (some (.arr 66 6 [(⟨0,1,3,400,10,([]:List gD)⟩:Link),(⟨1,2,3,400,10,([]:List gD)⟩:Link)].length (au Link.cell [(⟨0,1,3,400,10,([]:List gD)⟩:Link),(⟨1,2,3,400,10,([]:List gD)⟩:Link)]))) (Hw (by intro i hi j hj;match i,j,hi,hj with|0,0,_,_=>exact .refl _|0,1,_,_=>exact .refl _|0,2,_,_=>exact .refl _|0,3,_,_=>exact .refl _|0,4,_,_=>exact .refl _|0,5,_,_=>exact jK.nil'|1,0,_,_=>exact .refl _|1,1,_,_=>exact .refl _|1,2,_,_=>exact .refl _|1,3,_,_=>exact .refl _|1,4,_,_=>exact .refl _|1,5,_,_=>exact jK.nil')))<| .r<| .im (.Qx 25 3 34 71 4 (au aC.cell ([]:List aC)))<| .lp (σ:=((List aC) × Int)) (β:=(List aC)) (([]:List aC),0) [] [(34,27)] ⟨[0,2,3,4],[0,21,22,23,24],fun(p3,i)=>[(5,(vI i))],fun(p3,i)=>(YG p3)⟩ ⟨[2,3,4],[0,21,22,23,24],fun u1=>[],fun u1=>(YG u1)⟩
  (fun(p3,i)=> .r<| .it (.r<| .a3 (Ns u0 i) (afW p3 u0 i) (p3.length+[(IK u0 i)].length≤4611686018427387904)<| .rg {an:=[(7, .arr [(IK u0 i)].length (WN u0 i)),(8, .arr (QW p3 u0 i).length (Xt p3 u0 i))],fr:=[(7,32),(8,33)]} [0, .t 0 i u0.length, .pf ⟨[(IK u0 i)].length=1,rfl⟩, .pf ⟨aD 1 4 (pz 4 [(.int .i64 1),(.int .i64 (-1)),(.int .i64 (at' u0 i.toNat)),(.int .i64 1)]) (WN u0 i),(by intro i hi j hj;match i,j,hi,hj with|0,0,_,_=>rfl|0,1,_,_=>rfl|0,2,_,_=>rfl|0,3,_,_=>rfl)⟩, .e (p3.length),1,2, .pf ⟨(QW p3 u0 i).length=p3.length+[(IK u0 i)].length,List.length_append⟩, .pf ⟨aD (ZU p3 u0 i) 4 (aeW p3 u0 i) (Xt p3 u0 i),dw _ _ _ _⟩]<| .r<| .en (.next ((QW p3 u0 i),(k4 i))) [] [(33,27)])
  (.e (.done (.brk p3))))
  (fun u1=> .a6 ((0:Int)≤2) ((1:Int)*2≤281474976710656) ((2:Int)≤9223372036854775807) ((0:Int)≤3) ((1:Int)*3≤281474976710656) ((3:Int)≤9223372036854775807)<| .rg {an:=[(1, .arr [true,true].length (au aj [true,true])),(2, .arr (List.replicate 2 (false:Bool)).length (au aj (List.replicate 2 (false:Bool)))),(3, .arr (List.replicate 2 (false:Bool)).length (au aj (List.replicate 2 (false:Bool)))),(4, .arr [true,true].length (au aj [true,true])),(5, .arr (List.replicate 2 (false:Bool)).length (au aj (List.replicate 2 (false:Bool)))),(6, .arr (List.replicate 3 (false:Bool)).length (au aj (List.replicate 3 (false:Bool)))),(7, .arr (List.replicate 3 (false:Bool)).length (au aj (List.replicate 3 (false:Bool))))],fr:=[(1,35),(2,36),(3,37),(4,38),(5,39),(6,40),(7,41)],fz:=[23,24,27,35,36,37,38,39,40,41]} [.pf ⟨[true,true].length=2,rfl⟩, .pf ⟨aD 2 1 (pz 1 [(.bool true),(.bool true)]) (au aj [true,true]),(by intro i hi j hj;match i,j,hi,hj with|0,0,_,_=>rfl|1,0,_,_=>rfl)⟩,0, .e ((2:Int)),1,2, .pf ⟨(List.replicate 2 (false:Bool)).length=2,List.length_replicate⟩, .pf ⟨aD 2 1 (fun _ j=>[(.bool false)].getD j .nilp) (au aj (List.replicate 2 (false:Bool))),aW _ _ _ _ _ (fun j hj=>(match j,hj with|0,_=>rfl))⟩,0, .e ((2:Int)),1,2, .pf ⟨(List.replicate 2 (false:Bool)).length=2,List.length_replicate⟩, .pf ⟨aD 2 1 (fun _ j=>[(.bool false)].getD j .nilp) (au aj (List.replicate 2 (false:Bool))),aW _ _ _ _ _ (fun j hj=>(match j,hj with|0,_=>rfl))⟩, .pf ⟨[true,true].length=2,rfl⟩, .pf ⟨aD 2 1 (pz 1 [(.bool true),(.bool true)]) (au aj [true,true]),(by intro i hi j hj;match i,j,hi,hj with|0,0,_,_=>rfl|1,0,_,_=>rfl)⟩,0, .e ((2:Int)),1,2, .pf ⟨(List.replicate 2 (false:Bool)).length=2,List.length_replicate⟩, .pf ⟨aD 2 1 (fun _ j=>[(.bool false)].getD j .nilp) (au aj (List.replicate 2 (false:Bool))),aW _ _ _ _ _ (fun j hj=>(match j,hj with|0,_=>rfl))⟩,3, .e ((3:Int)),4,5, .pf ⟨(List.replicate 3 (false:Bool)).length=3,List.length_replicate⟩, .pf ⟨aD 3 1 (fun _ j=>[(.bool false)].getD j .nilp) (au aj (List.replicate 3 (false:Bool))),aW _ _ _ _ _ (fun j hj=>(match j,hj with|0,_=>rfl))⟩,3, .e ((3:Int)),4,5, .pf ⟨(List.replicate 3 (false:Bool)).length=3,List.length_replicate⟩, .pf ⟨aD 3 1 (fun _ j=>[(.bool false)].getD j .nilp) (au aj (List.replicate 3 (false:Bool))),aW _ _ _ _ _ (fun j hj=>(match j,hj with|0,_=>rfl))⟩]<| .fz [21,22]<| .e (aeP u1)))
section
variable (u1:(aA × (List Bool) × Int)) (u7:(Int × Int)) (u4:((List Part) × Int))
abbrev aeJ:=(bif (bif (!decide (u1.2.2=0))then true else(!decide (u7.2=0)))then true else(!decide (u4.2=0)))
abbrev OX:List DV:=[(.int .i64 0),(.int .i64 30),(.int .i64 13334),(bM (some true) 1 (aG .i64) [0]),(.int .i64 1),(.int .i64 50),(.int .i64 8000),(bM (some true) 1 (aG .i64) [1])]
abbrev ac4:List (Nat × Option Ob):=[(18,some (.arr 103 4 [(⟨0,30,13334,[0]⟩:Short),(⟨1,50,8000,[1]⟩:Short)].length (pz 4 OX)))]
end
theorem gM:fB Tryz.prog 29 [] [] (fun r=>(vB r)) (fun _=>[]) (fE):=
  gJ tT mX Tryz.func29 (
  .r<| .cr 1 (BD [(0,8)] (sK [100])) fun r_=> .rg {an:=[(0, .arr [100].length (au (aG .i64) [100]))],fr:=[(0,8),(5,9),(6,10)]} [.pf ⟨[100].length=1,rfl⟩, .pf ⟨aD 1 1 (pz 1 [(.int .i64 100)]) (au (aG .i64) [100]),(by intro i hi j hj;match i,j,hi,hj with|0,0,_,_=>rfl)⟩,0]<| .cl 2 ⟨fun h=>zS r_.1 r_.2 h⟩ fun u2=> .rg {fr:=[(7,11)]} []<| .cl 2 (Bq r_.1 r_.2) fun u6=> .r<| .cg 8 [((bif (!decide (u2.2.2=0))then true else(!decide (u6.2=0))),false)] (kR u2.1) fun v3=> .fk (bif (bif (bif (!decide (u2.2.2=0))then true else(!decide (u6.2=0)))then true else(!decide (v3=100)))then true else(!u6.1)) (.rg {ov:=[(15,true,0)],sk:=[16,17,18,19]} [1]<| .t<| .r<| .e false)
  (.cr 18 ⟨fun{v2} hr_4=>((Fn.EP (frz:=[12]) (p:=[[true,true,true].length=[true,true,true].length]) (Fn.le (args':=[(sD (bM none 1 aj u2.2.1)),(sD (bM (some true) 1 aj [true,true,true]))]) (bV u2.2.1 [true,true,true] hr_4) ⟨uG.refl _,uG.one (gV.d jK.rW),trivial⟩) (by kernel_rfl) ⟨rfl,trivial⟩ rfl):Fn Tryz.prog 52 [(sD (bM none 1 aj u2.2.1)),(.one (.own 12 true ([true,true,true].length)))] [(12,some (bZ 4 1 aj [true,true,true]))] (vB v2) [(12,some (bZ 4 1 aj [true,true,true]))])⟩ fun v2=> .rg {an:=[(17, .arr [true,true,true].length (au aj [true,true,true]))],fr:=[(17,12)],ov:=[(15,false,1)]} [2, .pf ⟨[true,true,true].length=3,rfl⟩, .pf ⟨aD 3 1 (pz 1 [(.bool true),(.bool true),(.bool true)]) (au aj [true,true,true]),(by intro i hi j hj;match i,j,hi,hj with|0,0,_,_=>rfl|1,0,_,_=>rfl|2,0,_,_=>rfl)⟩, .k 0]<| .it (.r<| .e false)
  (.cr 1 (BD [(0,13)] (sK [300,600])) fun u0=> .rg {an:=[(0, .arr [300,600].length (au (aG .i64) [300,600]))],fr:=[(0,13)],fz:=[9,10]} [.pf ⟨[300,600].length=2,rfl⟩, .pf ⟨aD 2 1 (pz 1 [(.int .i64 300),(.int .i64 600)]) (au (aG .i64) [300,600]),(by intro i hi j hj;match i,j,hi,hj with|0,0,_,_=>rfl|1,0,_,_=>rfl)⟩,0]<| .cl 2 ⟨fun h=>zS u0.1 u0.2 h⟩ fun u1=> .rg {fz:=[11]} []<| .cl 3 (wB u0.1 u0.2 u1.2.1) fun u7=> .r<| .cl 2 (zQ u0.1 u0.2) fun u4=> .r<| .cg 12 [((aeJ u1 u7 u4),false)] (kR u1.1) fun v4=> .fk (bif (bif (aeJ u1 u7 u4)then true else(!decide (v4=700)))then true else(!decide (u7.1=700))) (.rg {ov:=[(19,true,0)],sk:=[20,21,22,23,26,27,28,29,30,31,34,35,36,37,38,39]} [1]<| .t<| .r<| .e false)
  (.cr 22 ⟨fun{u8} hr_10=>((Fn.EP (frz:=[14]) (p:=[[true,false,false].length=[true,false,false].length]) (Fn.le (args':=[(sD (bM none 1 aj u1.2.1)),(sD (bM (some true) 1 aj [true,false,false]))]) (bV u1.2.1 [true,false,false] hr_10) ⟨uG.refl _,uG.one (gV.d jK.rW),trivial⟩) (by kernel_rfl) ⟨rfl,trivial⟩ rfl):Fn Tryz.prog 52 [(sD (bM none 1 aj u1.2.1)),(.one (.own 14 true ([true,false,false].length)))] [(14,some (bZ 4 1 aj [true,false,false]))] (vB u8) [(14,some (bZ 4 1 aj [true,false,false]))])⟩ fun u8=> .fk (!u8) (.rg {an:=[(21, .arr [true,false,false].length (au aj [true,false,false]))],fr:=[(21,14)],ov:=[(19,false,2),(25,true,0)],sk:=[26,27,28,29,30,31,34,35,36,37,38,39]} [3, .pf ⟨[true,false,false].length=3,rfl⟩, .pf ⟨aD 3 1 (pz 1 [(.bool true),(.bool false),(.bool false)]) (au aj [true,false,false]),(by intro i hi j hj;match i,j,hi,hj with|0,0,_,_=>rfl|1,0,_,_=>rfl|2,0,_,_=>rfl)⟩, .k 1]<| .t<| .r<| .e false)
  (.cr 30 ⟨fun{u9} hr_11=>((Fn.EP (frz:=[15]) (p:=[[(⟨2,1⟩:Part),(⟨3,0⟩:Part)].length=[(⟨2,1⟩:Part),(⟨3,0⟩:Part)].length]) (Fn.le (args':=[(sD (bM none 2 Part.cell u4.1)),(sD (bM (some true) 2 Part.cell [(⟨2,1⟩:Part),(⟨3,0⟩:Part)]))]) (wJ u4.1 [(⟨2,1⟩:Part),(⟨3,0⟩:Part)] hr_11) ⟨uG.refl _,uG.one (gV.d jK.rW),trivial⟩) (by kernel_rfl) ⟨rfl,trivial⟩ rfl):Fn Tryz.prog 64 [(sD (bM none 2 Part.cell u4.1)),(.one (.own 15 true ([(⟨2,1⟩:Part),(⟨3,0⟩:Part)].length)))] [(15,some (bZ 112 2 Part.cell [(⟨2,1⟩:Part),(⟨3,0⟩:Part)]))] (vB u9) [(15,some (bZ 112 2 Part.cell [(⟨2,1⟩:Part),(⟨3,0⟩:Part)]))])⟩ fun u9=> .cg 38 [((!u9),false)] (Fb u0.1 u0.2 u1.1 u1.2.1) fun v5=> .rg {an:=[(21, .arr [true,false,false].length (au aj [true,false,false])),(29, .arr [(⟨2,1⟩:Part),(⟨3,0⟩:Part)].length (au Part.cell [(⟨2,1⟩:Part),(⟨3,0⟩:Part)]))],fr:=[(21,14),(29,15)],ov:=[(19,false,4),(25,false,2)]} [5, .pf ⟨[true,false,false].length=3,rfl⟩, .pf ⟨aD 3 1 (pz 1 [(.bool true),(.bool false),(.bool false)]) (au aj [true,false,false]),(by intro i hi j hj;match i,j,hi,hj with|0,0,_,_=>rfl|1,0,_,_=>rfl|2,0,_,_=>rfl)⟩, .k 3, .pf ⟨[(⟨2,1⟩:Part),(⟨3,0⟩:Part)].length=2,rfl⟩, .pf ⟨aD 2 2 (pz 2 [(.int .i64 2),(.int .i64 1),(.int .i64 3),(.int .i64 0)]) (au Part.cell [(⟨2,1⟩:Part),(⟨3,0⟩:Part)]),(by intro i hi j hj;match i,j,hi,hj with|0,0,_,_=>rfl|0,1,_,_=>rfl|1,0,_,_=>rfl|1,1,_,_=>rfl)⟩, .k 1,0]<| .it (.r<| .e false)
  (.cl 2 (yg u0.1 u0.2 1) fun u5=> .r<| .cl 2 (rM u0.1 u5.1) fun u3=> .r<| .fk (bif (decide (u5.2=0))then(decide (u3.2.2=0))else false) (.cr 13 ⟨fun{v0} hr_15=>((Fn.EP (frz:=[18]) (p:=[[(⟨0,30,13334,[0]⟩:Short),(⟨1,50,8000,[1]⟩:Short)].length=[(⟨0,30,13334,[0]⟩:Short),(⟨1,50,8000,[1]⟩:Short)].length]) (Fn.le (args':=[(sD (bM none 4 Short.cell u5.1)),(sD (.sl (some true) 4 [(⟨0,30,13334,[0]⟩:Short),(⟨1,50,8000,[1]⟩:Short)].length (pz 4 OX)))]) (sM u5.1 [(⟨0,30,13334,[0]⟩:Short),(⟨1,50,8000,[1]⟩:Short)] hr_15) ⟨uG.refl _,uG.one (gV.d (jK.sl (.inl rfl) (by intro i hi j hj;match i,j,hi,hj with|0,0,_,_=>exact .refl _|0,1,_,_=>exact .refl _|0,2,_,_=>exact .refl _|0,3,_,_=>exact jK.rW|1,0,_,_=>exact .refl _|1,1,_,_=>exact .refl _|1,2,_,_=>exact .refl _|1,3,_,_=>exact jK.rW))),trivial⟩) (by kernel_rfl) ⟨rfl,trivial⟩ rfl):Fn Tryz.prog 69 [(sD (bM none 4 Short.cell u5.1)),(.one (.own 18 true ([(⟨0,30,13334,[0]⟩:Short),(⟨1,50,8000,[1]⟩:Short)].length)))] ac4 (vB v0) ac4)⟩ fun v0=> .fk v0 (.cr 18 ⟨fun{v1} hr_16=>((Fn.EP (frz:=[19]) (p:=[[13334,8000].length=[13334,8000].length]) (Fn.le (args':=[(sD (bM (some u3.2.1) 1 (aG .i64) u3.1)),(sD (bM (some true) 1 (aG .i64) [13334,8000]))]) (qZ u3.1 [13334,8000] hr_16) ⟨uG.one (gV.d jK.rW),uG.one (gV.d jK.rW),trivial⟩) (by kernel_rfl) ⟨rfl,trivial⟩ rfl):Fn Tryz.prog 18 [(sD (bM (some u3.2.1) 1 (aG .i64) u3.1)),(.one (.own 19 true ([13334,8000].length)))] [(19,some (bZ 3 1 (aG .i64) [13334,8000]))] (vB v1) [(19,some (bZ 3 1 (aG .i64) [13334,8000]))])⟩ fun v1=> .rg {an:=[(8, .frz [0].length (au (aG .i64) [0])),(10, .frz [1].length (au (aG .i64) [1])),(12, .arr [(⟨0,30,13334,[0]⟩:Short),(⟨1,50,8000,[1]⟩:Short)].length (pz 4 OX)),(17, .arr [13334,8000].length (au (aG .i64) [13334,8000]))],fr:=[(12,18),(17,19)],ov:=[(6,true,3),(15,true,1)]} [.pf ⟨[0].length=1,rfl⟩, .pf ⟨aD 1 1 (pz 1 [(.int .i64 0)]) (au (aG .i64) [0]),(by intro i hi j hj;match i,j,hi,hj with|0,0,_,_=>rfl)⟩, .pf ⟨[1].length=1,rfl⟩, .pf ⟨aD 1 1 (pz 1 [(.int .i64 1)]) (au (aG .i64) [1]),(by intro i hi j hj;match i,j,hi,hj with|0,0,_,_=>rfl)⟩, .pf ⟨[(⟨0,30,13334,[0]⟩:Short),(⟨1,50,8000,[1]⟩:Short)].length=2,rfl⟩, .pf ⟨aD 2 4 (pz 4 OX) (pz 4 OX),fG _ _ _⟩, .k 2, .pf ⟨[13334,8000].length=2,rfl⟩, .pf ⟨aD 2 1 (pz 1 [(.int .i64 13334),(.int .i64 8000)]) (au (aG .i64) [13334,8000]),(by intro i hi j hj;match i,j,hi,hj with|0,0,_,_=>rfl|1,0,_,_=>rfl)⟩, .k 0]<| .e v1)
  (.rg {an:=[(8, .frz [0].length (au (aG .i64) [0])),(10, .frz [1].length (au (aG .i64) [1])),(12, .arr [(⟨0,30,13334,[0]⟩:Short),(⟨1,50,8000,[1]⟩:Short)].length (pz 4 OX))],fr:=[(12,18)],ov:=[(6,true,2),(15,false,0)],sk:=[16,17,18]} [.pf ⟨[0].length=1,rfl⟩, .pf ⟨aD 1 1 (pz 1 [(.int .i64 0)]) (au (aG .i64) [0]),(by intro i hi j hj;match i,j,hi,hj with|0,0,_,_=>rfl)⟩, .pf ⟨[1].length=1,rfl⟩, .pf ⟨aD 1 1 (pz 1 [(.int .i64 1)]) (au (aG .i64) [1]),(by intro i hi j hj;match i,j,hi,hj with|0,0,_,_=>rfl)⟩, .pf ⟨[(⟨0,30,13334,[0]⟩:Short),(⟨1,50,8000,[1]⟩:Short)].length=2,rfl⟩, .pf ⟨aD 2 4 (pz 4 OX) (pz 4 OX),fG _ _ _⟩, .k 1]<| .e false))
  (.rg {ov:=[(6,false,0)],sk:=[7,8,9,10,11,12,13,16,17,18]} []<| .e false)))))))
theorem G8 (p:ah) (x:Link):fB Tryz.prog 81 [(.agg (k9 p)),(.agg (k0 x))] [] (fun r=>(vB r)) (fun _=>[]) (uY p x):=
  gJ tT mX Tryz.func81 (
  .rg {fr:=[(0,6),(1,7)],fz:=[6]} []<| .r<| .it (.r<| .e false)
  (.r<| .it (.r<| .e false)
  (.r<| .lp (σ:=Int) (β:=Unit) (0) [] [] ⟨[3],[7],fun i=>[(5,(vI i))],fun i=>[]⟩ ⟨[],[],fun _=>[],fun _=>[]⟩
  (fun i=> .r<| .it (.a1 ((0:Int)≤i∧i<(x.trip.length:Int))<| .rg {fr:=[(5,11)],fz:=[11]} []<| .r<| .it (.r<| .e (.done (.ret false)))
  (.a2 ((gB [((decide (0<i)),true)]=true→(0:Int)≤(k16 i)∧(k16 i)<(x.trip.length:Int))) ((gB [(k20 x i),((decide (0<i)),true)]=true→(0:Int)≤(k16 i)∧(k16 i)<(x.trip.length:Int)))<| .rg {} [0,1]<| .it (.r<| .e (.done (.ret false)))
  (.r<| .e (.next (k4 i)))))
  (.e (.done (.brk ()))))
  (fun _=> .r<| .e true))))
theorem oK (p:ah):fB Tryz.prog 30 (k14 p) [] (fun r=>(vI r)) (fun _=>[]) (jX p):=
  gJ tT mX Tryz.func30 (
  .rg {fr:=[(0,9)]} []<| .r<| .it (.r<| .e 10)
  (.r<| .it (.r<| .e 11)
  (.r<| .lp (σ:=Int) (β:=Unit) (0) [] [] ⟨[1],[9],fun i=>[(3,(vI i))],fun i=>[]⟩ ⟨[1],[9],fun _=>[],fun _=>[]⟩
  (fun i=> .r<| .it (.a1 (O5 i p)<| .rg {fr:=[(5,13)],fz:=[13]} []<| .r<| .it (.r<| .e (.done (.ret 11)))
  (.r<| .e (.next (k4 i))))
  (.e (.done (.brk ()))))
  (fun _=> .r<| .it (.r<| .e 12)
  (.r<| .lp (σ:=Int) (β:=Unit) (0) [] [] ⟨[1],[9],fun i1=>[(5,(vI i1))],fun i1=>[]⟩ ⟨[1],[9],fun _=>[],fun _=>[]⟩
  (fun i1=> .r<| .it (.cl 6 (G8 p (at' p.links i1.toNat)) fun r_=> .a1 (Qn p i1)<| .rg {} [0,1]<| .it (.r<| .e (.done (.ret 12)))
  (.r<| .e (.next (k4 i1))))
  (.e (.done (.brk ()))))
  (fun _=> .r<| .it (.r<| .e 13)
  (.r<| .lp (σ:=Int) (β:=Unit) (0) [] [] ⟨[1],[9],fun i2=>[(6,(vI i2))],fun i2=>[]⟩ ⟨[],[],fun _=>[],fun _=>[]⟩
  (fun i2=> .r<| .it (.a1 (D5 i2 p)<| .rg {fr:=[(5,17)],fz:=[17]} []<| .rg {} [.pf ⟨(0:Int)≤0∧(0:Int)<(2:Nat),(by decide)⟩, .pf ⟨(0:Int)≤1∧(1:Int)<(2:Nat),(by decide)⟩]<| .r<| .r<| .it (.r<| .r<| .it (.r<| .e (.done (.ret 13)))
  (.r<| .e (.next (k4 i2))))
  (.r<| .it (.r<| .e (.done (.ret 13)))
  (.r<| .e (.next (k4 i2)))))
  (.e (.done (.brk ()))))
  (fun _=> .r<| .e 0))))))))
theorem FN (p:ah) (s_:State):fB Tryz.prog 87 (U3 p s_) [] (fun r=>(vB r)) (fun _=>[]) (tV p s_):=
  gJ tT mX Tryz.func87 (
  .rg {fr:=[(0,2),(1,3)],fz:=[2,3]} []<| .r<| .r<| .it (.r<| .e false)
  (.r<| .lp (σ:=Int) (β:=Unit) (0) [] [] ⟨[2,3,5],[],fun i=>[(8,(vI i))],fun i=>[]⟩ ⟨[],[],fun _=>[],fun _=>[]⟩
  (fun i=> .r<| .it (.a3 (Qn p i) (k37 p s_ i) (k38 p s_ i)<| .rg {} [0,1,2]<| .it (.r<| .e (.done (.ret false)))
  (.r<| .e (.next (k4 i))))
  (.e (.done (.brk ()))))
  (fun _=> .r<| .e true)))
theorem eH (p:ah) (s_:State):fB Tryz.prog 38 (U3 p s_) [] (fun r=>(vI r)) (fun _=>[]) (dB p s_):=
  gJ tT mX Tryz.func38 (
  .rg {fr:=[(0,2),(1,3)],fz:=[2,3]} []<| .cl 1 (oK p) fun r_=> .r<| .cg 5 [((decide (r_=0)),true)] (FN p s_) fun u0=> .r<| .it (.r<| .r<| .e 9)
  (.r<| .e r_))
theorem Ap (p:ah):fB Tryz.prog 59 (k14 p) [] (fun r=>(vB r)) (fun _=>[]) (qy p):=
  gJ tT mX Tryz.func59 (
  .rg {fr:=[(0,1)],fz:=[1]} []<| .r<| .it (.r<| .e true)
  (.cl 1 (oK p) fun r_=> .r<| .e (bif (decide (r_=0))then(bif (decide (10<p.buses))then true else(decide (16<(p.links.length:Int))))else false)))
theorem nV (p:ah) (s_:State) (k:Int):fB Tryz.prog 88 (k39 p s_ k) [] (fun r=>(vB r)) (fun _=>[]) (kg p s_ k):=
  gJ tT mX Tryz.func88 (
  .rg {fr:=[(0,2),(1,3)],fz:=[2,3]} []<| .a4 ((0:Int)≤k∧k<(s_.on_.length:Int)) ((gB [((at' s_.on_ k.toNat),true)]=true→(0:Int)≤k∧k<(s_.badSource.length:Int))) (k40 p s_ k) (k41 p s_ k)<| .rg {} [0,1,2,3]<| .e (k42 p s_ k))
theorem gq (p:ah) (s_:State) (i:Int):fB Tryz.prog 96 (k39 p s_ i) [] (fun r=>(vB r)) (fun _=>[]) (dJ p s_ i):=
  gJ tT mX Tryz.func96 (
  .rg {fr:=[(0,2),(1,3)],fz:=[2,3]} []<| .a6 ((0:Int)≤i∧i<(s_.closed.length:Int)) (k44 s_ i) ((gB [((bif (at' s_.closed i.toNat)then(!(at' s_.badLink i.toNat))else false),true)]=true→(0:Int)≤i∧i<(p.links.length:Int))) (k45 s_ i p) ((gB [(k47 s_ i p)]=true→(0:Int)≤i∧i<(p.links.length:Int))) (k46 s_ i p)<| .rg {} [0,1,2,3,4,5]<| .e (k51 s_ i p))
theorem uO (p:ah) (s_:State) (u1:(List Bool)):fB Tryz.prog 97 (YS p s_ u1) [] (fun r=>(vI r)) (fun _=>[]) (jk p s_ u1):=
  gJ tT mX Tryz.func97 (
  .rg {fr:=[(0,2),(1,3)],fz:=[2,3]} []<| .r<| .r<| .lp (σ:=(Int × Int)) (β:=Int) (0,0) [] [] ⟨[2,3,4],[],fun(n,k)=>[(7,(vI n)),(8,(vI k))],fun(n,k)=>[]⟩ ⟨[2,3,4],[],fun n1=>[(7,(vI n1))],fun n1=>[]⟩
  (fun(n,k)=> .r<| .it (.cl 3 (nV p s_ k) fun r_=> .a2 ((gB [(r_,true)]=true→(0:Int)≤k∧k<(p.sources.length:Int))) ((gB [(r_,true)]=true→(0:Int)≤(at' p.sources k.toNat).bus∧(at' p.sources k.toNat).bus<(u1.length:Int)))<| .rg {} [2,0,1]<| .it (.a1 (O5 k p)<| .r<| .r<| .e (.next ((IntKind.wrap .i64 (n+(TF p k))),(k4 k))))
  (.r<| .e (.next (Gw n k))))
  (.e (.done (.brk n))))
  (fun n1=> .r<| .lp (σ:=(Int × Int)) (β:=Int) (n1,0) [] [] ⟨[2,3,4],[],fun(n2,i)=>[(7,(vI n2)),(9,(vI i))],fun(n2,i)=>[]⟩ ⟨[2,3],[],fun n3=>[(7,(vI n3))],fun n3=>[]⟩
  (fun(n2,i)=> .r<| .it (.cl 3 (gq p s_ i) fun u2=> .a3 ((gB [(u2,true)]=true→(0:Int)≤i∧i<(p.links.length:Int))) ((gB [(u2,true)]=true→(0:Int)≤(at' p.links i.toNat).a∧(at' p.links i.toNat).a<(u1.length:Int))) ((gB [(u2,true)]=true→(0:Int)≤(at' p.links i.toNat).b∧(at' p.links i.toNat).b<(u1.length:Int)))<| .rg {} [3,0,1,0,2]<| .it (.a1 (Qn p i)<| .r<| .r<| .e (.next ((IntKind.wrap .i64 (n2+(I4 p i))),(k4 i))))
  (.r<| .e (.next (Gw n2 i))))
  (.e (.done (.brk n2))))
  (fun n3=> .r<| .lp (σ:=(Int × Int)) (β:=Int) (n3,0) [] [] ⟨[2,3],[],fun(n4,u0)=>[(7,(vI n4)),(10,(vI u0))],fun(n4,u0)=>[]⟩ ⟨[],[],fun n5=>[(7,(vI n5))],fun n5=>[]⟩
  (fun(n4,u0)=> .r<| .it (.a1 (D5 u0 p)<| .rg {} [0, .pf ⟨(0:Int)≤0∧(0:Int)<(2:Nat),(by decide)⟩,0, .pf ⟨(0:Int)≤1∧(1:Int)<(2:Nat),(by decide)⟩]<| .a2 ((0:Int)≤(su u0 p).e0∧(su u0 p).e0<(u1.length:Int)) ((gB [((decide (0≤((su u0 p).e1))),true),((at' u1 (((su u0 p).e0).toNat)),false)]=true→(0:Int)≤(if(su u0 p).e1<0 then 0 else(su u0 p).e1)∧(if(su u0 p).e1<0 then 0 else(su u0 p).e1)<(u1.length:Int)))<| .rg {} [0,1]<| .it (.a1 (D5 u0 p)<| .r<| .r<| .e (.next (abw u0 p n4)))
  (.r<| .e (.next (Gw n4 u0))))
  (.e (.done (.brk n4))))
  (fun n5=> .r<| .e n5))))
section
variable (p:ah) (u1:(List Bool)) (b:Int) (n:Int) (u0:(List Bool)) (b1:Int) (u2:(List Bool))
abbrev Xo:=((1:Int)*p.buses≤281474976710656)
abbrev TW:=(u1.set b.toNat (decide ((Int.tmod (Int.fdiv n (2 ^ min b.toNat (IntKind.bits .i64))) 2)=1)))
abbrev af7:=(au aj (TW u1 b n))
abbrev adW:=(at' (TW u1 b n) b.toNat)
abbrev XJ:=(u0.set b1.toNat (bif (at' u0 b1.toNat)then(at' u2 b1.toNat)else false))
end
theorem tN (p:ah) (s_:State):fB Tryz.prog 65 (U3 p s_) [] (fun r=>(.iV [(sI r.1),(sD (bM none 1 aj r.2))])) (fun _=>[]) (l8 p s_):=
  gJ tT mX Tryz.func65 (
  .rg {fr:=[(0,11),(1,12)],fz:=[11,12]} []<| .r<| .a3 ((0:Int)≤p.buses) (Xo p) (Uv p)<| .rg {an:=[(2, .arr (sF p).length (BX p))],fr:=[(2,13)]} [0, .e ((p.buses:Int)),1,2, .pf ⟨(sF p).length=p.buses.toNat,List.length_replicate⟩, .pf ⟨aD p.buses.toNat 1 (fun _ j=>[(.bool false)].getD j .nilp) (BX p),aW _ _ _ _ _ (fun j hj=>(match j,hj with|0,_=>rfl))⟩]<| .r<| .lp (σ:=(Int × (List Bool) × Int)) (β:=(Int × (List Bool))) ((-1),(sF p),0) [] [] ⟨[2,3],[],fun(u5,u3,n)=>[(6,(vI u5)),(7,(vO 13 true u3.length)),(8,(vI n))],fun(u5,u3,n)=>[(13,some (bZ 4 1 aj u3))]⟩ ⟨[],[],fun(u8,u6)=>[(6,(vI u8)),(7,(vO 13 true u6.length))],fun(u8,u6)=>[(13,some (bZ 4 1 aj u6))]⟩
  (fun(u5,u3,n)=> .a1 ((0:Int)≤p.buses)<| .r<| .it (.jN (β:=(Int × (List Bool))) 2 ⟨[2,3,8],[],fun(u9,u7)=>[(6,(vI u9)),(7,(vO 13 true u7.length))],fun(u9,u7)=>[(13,some (bZ 4 1 aj u7))]⟩ (.a3 ((0:Int)≤p.buses) (Xo p) (Uv p)<| .rg {an:=[(2, .arr (sF p).length (BX p))],fr:=[(2,21)]} [0, .e ((p.buses:Int)),1,2, .pf ⟨(sF p).length=p.buses.toNat,List.length_replicate⟩, .pf ⟨aD p.buses.toNat 1 (fun _ j=>[(.bool false)].getD j .nilp) (BX p),aW _ _ _ _ _ (fun j hj=>(match j,hj with|0,_=>rfl))⟩]<| .r<| .r<| .lp (σ:=((List Bool) × Bool × Int)) (β:=((List Bool) × Bool)) ((sF p),true,0) [] [] ⟨[2,3,6,7,8],[13],fun(u1,u4,b)=>[(9,(vO 21 true u1.length)),(10,(vB u4)),(11,(vI b))],fun(u1,u4,b)=>[(21,some (bZ 4 1 aj u1))]⟩ ⟨[2,3,6,7,8],[13],fun(u2,v0)=>[(9,(vO 21 true u2.length)),(10,(vB v0))],fun(u2,v0)=>[(21,some (bZ 4 1 aj u2))]⟩
  (fun(u1,u4,b)=> .r<| .it (.a3 ((0:Int)≤b) (2≠(0:Int)) (k10 b u1)<| .rg {an:=[(8, .arr 0 (af7 u1 b n))]} [0,1,2, .t 2 b u1.length, .pf ⟨aD u1.length 1 (eX (au aj u1) b.toNat 0 [(.bool (decide ((Int.tmod (Int.fdiv n (2 ^ min b.toNat (IntKind.bits .i64))) 2)=1)))]) (af7 u1 b n),aK _ _ _ _ _ _ _ _ rfl (fun j hj=>(match j,hj with|0,_=>rfl))⟩]<| .im (.ll 21 u1 (TW u1 b n))<| .a2 ((gB [(u4,true)]=true→(0:Int)≤b∧b<((TW u1 b n).length:Int))) ((gB [((adW u1 b n),true),(u4,true)]=true→(0:Int)≤b∧b<(s_.badBus.length:Int)))<| .rg {} [0, .tg 0 [(u4,true)] b ((TW u1 b n).length),1]<| .r<| .e (.next ((TW u1 b n),(bif u4 then(!(bif (adW u1 b n)then(at' s_.badBus b.toNat)else false))else false),(k4 b))))
  (.e (.done (.brk (u1,u4)))))
  (fun(u2,v0)=> .r<| .it (.e (u5,u3))
  (.cr 3 ⟨fun{r_} hr_=>((Fn.EP (frz:=[21]) (p:=[u2.length=u2.length]) (Fn.le (args':=[(.agg (k9 p)),(.agg (k11 s_)),(sD (bM (some true) 1 aj u2))]) (uO p s_ u2 hr_) ⟨uG.refl _,uG.refl _,uG.one (gV.d jK.rW),trivial⟩) (by kernel_rfl) ⟨rfl,trivial⟩ rfl):Fn Tryz.prog 97 [(.agg (k9 p)),(.agg (k11 s_)),(.one (.own 21 true u2.length))] [(21,some (bZ 4 1 aj u2))] (vI r_) [(21,some (bZ 4 1 aj u2))])⟩ fun r_=> .r<| .r<| .it (.r<| .r<| .en (r_,u2) [] [(21,13)])
  (.rg {fz:=[21]} []<| .it (.r<| .lp (σ:=((List Bool) × Int)) (β:=(List Bool)) (u3,0) [] [] ⟨[2,3,6,8,9],[],fun(u0,b1)=>[(7,(vO 13 true u0.length)),(13,(vI b1))],fun(u0,b1)=>[(13,some (bZ 4 1 aj u0))]⟩ ⟨[2,3,6,8],[],fun out4=>[(7,(vO 13 true out4.length))],fun out4=>[(13,some (bZ 4 1 aj out4))]⟩
  (fun(u0,b1)=> .r<| .it (.a2 (k10 b1 u0) ((gB [((at' u0 b1.toNat),true)]=true→(0:Int)≤b1∧b1<(u2.length:Int)))<| .rg {an:=[(13, .arr 0 (au aj (XJ u0 b1 u2)))]} [0, .t 0 b1 u0.length,1,0, .t 0 b1 u0.length, .pf ⟨aD u0.length 1 (eX (au aj u0) b1.toNat 0 [(.bool (bif (at' u0 b1.toNat)then(at' u2 b1.toNat)else false))]) (au aj (XJ u0 b1 u2)),aK _ _ _ _ _ _ _ _ rfl (fun j hj=>(match j,hj with|0,_=>rfl))⟩]<| .im (.ll 13 u0 (XJ u0 b1 u2))<| .r<| .e (.next ((XJ u0 b1 u2),(k4 b1))))
  (.e (.done (.brk u0))))
  (fun out4=> .e (u5,out4)))
  (.e (u5,u3))))))
  (fun(u9,u7)=> .r<| .e (.next (u9,u7,(k4 n)))))
  (.e (.done (.brk (u5,u3)))))
  (fun(u8,u6)=> .rg {fz:=[13]} []<| .e (u8,u6)))
theorem Fh (p:ah) (s_:State):fB Tryz.prog 62 (U3 p s_) [] (fun r=>(.iV [(sD (bM none 2 Part.cell r.1)),(sI r.2)])) (fun _=>[]) (mg p s_):=
  gJ tT mX Tryz.func62 (
  .rg {fr:=[(0,18),(1,19)],fz:=[18,19]} []<| .cl 2 (eH p s_) fun r_=> .r<| .r<| .it (.r<| .e (([]:List Part),r_))
  (.cl 2 (tN p s_) fun u4=> .r<| .r<| .r<| .im (.ad 9 28 112 2 (au Part.cell ([]:List Part)))<| .lp (σ:=((List Part) × Int)) (β:=(List Part)) (([]:List Part),0) [] [(28,21)] ⟨[2,3,8],[],fun(u0,k)=>[(9,(vO 21 false u0.length)),(10,(vI k))],fun(u0,k)=>[(21,some (bZ 112 2 Part.cell u0))]⟩ ⟨[2,3,8],[],fun u2=>[(9,(vO 21 false u2.length))],fun u2=>[(21,some (bZ 112 2 Part.cell u2))]⟩
  (fun(u0,k)=> .r<| .it (.cl 3 (nV p s_ k) fun u6=> .a2 ((gB [(u6,true)]=true→(0:Int)≤k∧k<(p.sources.length:Int))) ((gB [(u6,true)]=true→(0:Int)≤(at' p.sources k.toNat).bus∧(at' p.sources k.toNat).bus<(u4.2.length:Int)))<| .rg {} [2,0,1]<| .it (.a2 ((u0.length+[(⟨2,k⟩:Part)].length)*16≤140737488355328) (u0.length+[(⟨2,k⟩:Part)].length≤4611686018427387904)<| .rg {an:=[(3, .arr [(⟨2,k⟩:Part)].length (au Part.cell [(⟨2,k⟩:Part)])),(4, .arr (u0++[(⟨2,k⟩:Part)]).length (au Part.cell (u0++[(⟨2,k⟩:Part)])))],fr:=[(3,26),(4,27)]} [.pf ⟨[(⟨2,k⟩:Part)].length=1,rfl⟩, .pf ⟨aD 1 2 (pz 2 [(.int .i64 2),(.int .i64 k)]) (au Part.cell [(⟨2,k⟩:Part)]),(by intro i hi j hj;match i,j,hi,hj with|0,0,_,_=>rfl|0,1,_,_=>rfl)⟩, .e (u0.length),0,1, .pf ⟨(u0++[(⟨2,k⟩:Part)]).length=u0.length+[(⟨2,k⟩:Part)].length,List.length_append⟩, .pf ⟨aD (u0.length+[(⟨2,k⟩:Part)].length) 2 (sW (au Part.cell u0) u0.length (au Part.cell [(⟨2,k⟩:Part)])) (au Part.cell (u0++[(⟨2,k⟩:Part)])),dw _ _ _ _⟩]<| .r<| .en (.next ((u0++[(⟨2,k⟩:Part)]),(k4 k))) [] [(27,21)])
  (.r<| .e (.next (Ot k u0))))
  (.e (.done (.brk u0))))
  (fun u2=> .r<| .lp (σ:=((List Part) × Int)) (β:=(List Part)) (u2,0) [] [] ⟨[2,3,8],[],fun(u1,i)=>[(9,(vO 21 false u1.length)),(11,(vI i))],fun(u1,i)=>[(21,some (bZ 112 2 Part.cell u1))]⟩ ⟨[],[],fun u3=>[(9,(vO 21 false u3.length))],fun u3=>[(21,some (bZ 112 2 Part.cell u3))]⟩
  (fun(u1,i)=> .r<| .it (.cl 3 (gq p s_ i) fun u5=> .a3 ((gB [(u5,true)]=true→(0:Int)≤i∧i<(p.links.length:Int))) ((gB [(u5,true)]=true→(0:Int)≤(at' p.links i.toNat).a∧(at' p.links i.toNat).a<(u4.2.length:Int))) ((gB [(u5,true)]=true→(0:Int)≤(at' p.links i.toNat).b∧(at' p.links i.toNat).b<(u4.2.length:Int)))<| .rg {} [3,0,1,0,2]<| .it (.a2 ((u1.length+[(⟨3,i⟩:Part)].length)*16≤140737488355328) (u1.length+[(⟨3,i⟩:Part)].length≤4611686018427387904)<| .rg {an:=[(3, .arr [(⟨3,i⟩:Part)].length (au Part.cell [(⟨3,i⟩:Part)])),(4, .arr (u1++[(⟨3,i⟩:Part)]).length (au Part.cell (u1++[(⟨3,i⟩:Part)])))],fr:=[(3,35),(4,36)]} [.pf ⟨[(⟨3,i⟩:Part)].length=1,rfl⟩, .pf ⟨aD 1 2 (pz 2 [(.int .i64 3),(.int .i64 i)]) (au Part.cell [(⟨3,i⟩:Part)]),(by intro i hi j hj;match i,j,hi,hj with|0,0,_,_=>rfl|0,1,_,_=>rfl)⟩, .e (u1.length),0,1, .pf ⟨(u1++[(⟨3,i⟩:Part)]).length=u1.length+[(⟨3,i⟩:Part)].length,List.length_append⟩, .pf ⟨aD (u1.length+[(⟨3,i⟩:Part)].length) 2 (sW (au Part.cell u1) u1.length (au Part.cell [(⟨3,i⟩:Part)])) (au Part.cell (u1++[(⟨3,i⟩:Part)])),dw _ _ _ _⟩]<| .r<| .en (.next ((u1++[(⟨3,i⟩:Part)]),(k4 i))) [] [(36,21)])
  (.r<| .e (.next (Ot i u1))))
  (.e (.done (.brk u1))))
  (fun u3=> .rg {fz:=[21]} []<| .e (u3,0)))))
theorem Gz (p:ah) (s_:State):fB Tryz.prog 63 (U3 p s_) [] (fun r=>(.iV [(sB r.1),(sI r.2)])) (fun _=>[]) (oF p s_):=
  gJ tT mX Tryz.func63 (
  .rg {fr:=[(0,2),(1,3)],fz:=[2,3]} []<| .cl 2 (eH p s_) fun r_=> .r<| .r<| .it (.r<| .e (false,r_))
  (.r<| .r<| .lp (σ:=(Int × Int)) (β:=Int) (0,0) [] [] ⟨[2,3],[],fun(u1,u0)=>[(7,(vI u1)),(8,(vI u0))],fun(u1,u0)=>[]⟩ ⟨[2,3],[],fun u2=>[(7,(vI u2))],fun u2=>[]⟩
  (fun(u1,u0)=> .r<| .it (.a1 (D5 u0 p)<| .r<| .r<| .e (.next (abw u0 p u1)))
  (.e (.done (.brk u1))))
  (fun u2=> .cl 2 (tN p s_) fun u3=> .r<| .r<| .e ((decide (u3.1=u2)),0))))
theorem DL (p:ah) (x:aA) (b:Int):fB Tryz.prog 123 [(.agg (k9 p)),(.agg (XL x)),(sI b)] [] (fun r=>(vI r)) (fun _=>[]) (p8 p x b):=
  gJ tT mX Tryz.func123 (
  .rg {fr:=[(0,2),(1,3)],fz:=[2,3]} []<| .r<| .r<| .lp (σ:=(Int × Int)) (β:=Int) (0,0) [] [] ⟨[2,3,4],[],fun(n,k)=>[(7,(vI n)),(8,(vI k))],fun(n,k)=>[]⟩ ⟨[2,3,4],[],fun n1=>[(7,(vI n1))],fun n1=>[]⟩
  (fun(n,k)=> .r<| .it (.a1 (O5 k p)<| .r<| .it (.a1 (WS x k)<| .r<| .r<| .e (.next ((IntKind.wrap .i64 (n+(at' x.sources k.toNat))),(k4 k))))
  (.r<| .e (.next (Gw n k))))
  (.e (.done (.brk n))))
  (fun n1=> .r<| .lp (σ:=(Int × Int)) (β:=Int) (n1,0) [] [] ⟨[2,3,4],[],fun(n2,i)=>[(7,(vI n2)),(9,(vI i))],fun(n2,i)=>[]⟩ ⟨[2,3,4],[],fun n3=>[(7,(vI n3))],fun n3=>[]⟩
  (fun(n2,i)=> .r<| .it (.jN (β:=Int) 3 ⟨[2,3,4,9],[],fun n4=>[(7,(vI n4))],fun n4=>[]⟩ (.a1 (Qn p i)<| .r<| .it (.a1 (QF x i)<| .r<| .a1 (Qn p i)<| .r<| .it (.a1 (QF x i)<| .r<| .e (IntKind.wrap .i64 ((IntKind.wrap .i64 (n2 - (at' x.links i.toNat)))+(at' x.links i.toNat))))
  (.e (IntKind.wrap .i64 (n2 - (at' x.links i.toNat)))))
  (.a1 (Qn p i)<| .r<| .it (.a1 (QF x i)<| .r<| .e (IntKind.wrap .i64 (n2+(at' x.links i.toNat))))
  (.e n2)))
  (fun n4=> .r<| .e (.next (Gw n4 i))))
  (.e (.done (.brk n2))))
  (fun n3=> .r<| .lp (σ:=(Int × Int)) (β:=Int) (n3,0) [] [] ⟨[2,3,4],[],fun(n5,r_)=>[(7,(vI n5)),(10,(vI r_))],fun(n5,r_)=>[]⟩ ⟨[],[],fun n6=>[(7,(vI n6))],fun n6=>[]⟩
  (fun(n5,r_)=> .r<| .it (.r<| .lp (σ:=(Int × Int)) (β:=Int) (n5,0) [] [] ⟨[2,3,4,10],[],fun(n7,k1)=>[(7,(vI n7)),(11,(vI k1))],fun(n7,k1)=>[]⟩ ⟨[2,3,4,10],[],fun n8=>[(7,(vI n8))],fun n8=>[]⟩
  (fun(n7,k1)=> .r<| .it (.fk (decide (k1=0)) (.si 11 k1 0 0<| .a1 (D5 r_ p)<| .rg {} [0, .pf ⟨(0:Int)≤0∧(0:Int)<(2:Nat),(by decide)⟩]<| .it (.a1 (DX x r_)<| .rg {} [0, .pf ⟨(0:Int)≤0∧(0:Int)<(2:Nat),(by decide)⟩]<| .r<| .e (.next ((IntKind.wrap .i64 (n7 - ((at' x.racks r_.toNat).e0))),1)))
  (.r<| .e (.next (n7,1))))
  (.a1 (k1=1)<| .sj 11 k1 1 0<| .a1 (D5 r_ p)<| .rg {} [0, .pf ⟨(0:Int)≤1∧(1:Int)<(2:Nat),(by decide)⟩]<| .it (.a1 (DX x r_)<| .rg {} [0, .pf ⟨(0:Int)≤1∧(1:Int)<(2:Nat),(by decide)⟩]<| .r<| .e (.next ((IntKind.wrap .i64 (n7 - (Np x r_))),2)))
  (.r<| .e (.next (n7,2)))))
  (.e (.done (.brk n7))))
  (fun n8=> .r<| .e (.next (Gw n8 r_))))
  (.e (.done (.brk n5))))
  (fun n6=> .r<| .e n6))))
section
variable (x:aA) (k:Int) (u0:Int)
abbrev afR:=((gB [((decide ((at' x.sources k.toNat)<0)),false)]=true→(0:Int)≤k∧k<(x.sources.length:Int)))
abbrev aft:=((gB [((decide (((at' x.racks u0.toNat).e0)<0)),false)]=true→(0:Int)≤u0∧u0<(x.racks.length:Int)))
abbrev afb:=((gB [((decide ((Np x u0)<0)),false)]=true→(0:Int)≤u0∧u0<(x.racks.length:Int)))
end
theorem BZ (p:ah) (s_:State) (x:aA):fB Tryz.prog 98 (R5 p s_ x) [] (fun r=>(vB r)) (fun _=>[]) (nY p s_ x):=
  gJ tT mX Tryz.func98 (
  .rg {fr:=[(0,3),(1,4),(2,5)],fz:=[3,4,5]} []<| .r<| .it (.r<| .e false)
  (.r<| .lp (σ:=Int) (β:=Unit) (0) [] [] ⟨[3,4,5],[],fun k=>[(7,(vI k))],fun k=>[]⟩ ⟨[3,4,5],[],fun _=>[],fun _=>[]⟩
  (fun k=> .r<| .it (.r<| .cl 3 (nV p s_ k) fun r_=> .r<| .it (.a1 (O5 k p)<| .r<| .a2 (WS x k) (afR x k)<| .rg {} [0,1]<| .it (.r<| .e (.done (.ret false)))
  (.r<| .e (.next (k4 k))))
  (.a2 (WS x k) (afR x k)<| .rg {} [0,1]<| .it (.r<| .e (.done (.ret false)))
  (.r<| .e (.next (k4 k)))))
  (.e (.done (.brk ()))))
  (fun _=> .r<| .lp (σ:=Int) (β:=Unit) (0) [] [] ⟨[3,4,5],[],fun i=>[(9,(vI i))],fun i=>[]⟩ ⟨[3,4,5],[],fun _=>[],fun _=>[]⟩
  (fun i=> .r<| .it (.r<| .cl 3 (gq p s_ i) fun u3=> .r<| .it (.a1 (Qn p i)<| .r<| .a2 (QF x i) ((gB [(acR p x i)]=true→(0:Int)≤i∧i<(x.links.length:Int)))<| .rg {} [0,1]<| .it (.r<| .e (.done (.ret false)))
  (.r<| .e (.next (k4 i))))
  (.a2 (QF x i) ((gB [((decide ((at' x.links i.toNat)<(IntKind.wrap .i64 (0 - 0)))),false)]=true→(0:Int)≤i∧i<(x.links.length:Int)))<| .rg {} [0,1]<| .it (.r<| .e (.done (.ret false)))
  (.r<| .e (.next (k4 i)))))
  (.e (.done (.brk ()))))
  (fun _=> .r<| .lp (σ:=Int) (β:=Unit) (0) [] [] ⟨[3,4,5],[],fun u0=>[(11,(vI u0))],fun u0=>[]⟩ ⟨[3,5],[],fun _=>[],fun _=>[]⟩
  (fun u0=> .r<| .it (.r<| .r<| .lp (σ:=(Int × Int)) (β:=Int) (0,0) [] [] ⟨[3,4,5,11],[],fun(u1,k1)=>[(12,(vI u1)),(13,(vI k1))],fun(u1,k1)=>[]⟩ ⟨[3,4,5,11],[],fun u2=>[(12,(vI u2))],fun u2=>[]⟩
  (fun(u1,k1)=> .r<| .it (.fk (decide (k1=0)) (.si 13 k1 0 0<| .a1 (D5 u0 p)<| .rg {} [0, .pf ⟨(0:Int)≤0∧(0:Int)<(2:Nat),(by decide)⟩]<| .r<| .a1 ((gB [((decide (0≤((su u0 p).e0))),true)]=true→(0:Int)≤(if(su u0 p).e0<0 then 0 else(su u0 p).e0)∧(if(su u0 p).e0<0 then 0 else(su u0 p).e0)<(s_.badBus.length:Int)))<| .r<| .it (.a1 (D5 u0 p)<| .r<| .a2 (DX x u0) (aft x u0)<| .rg {} [0, .pf ⟨(0:Int)≤0∧(0:Int)<(2:Nat),(by decide)⟩,1, .pf ⟨(0:Int)≤0∧(0:Int)<(2:Nat),(by decide)⟩]<| .it (.r<| .e (.done (.ret (.done (.ret false)))))
  (.a1 (DX x u0)<| .rg {} [0, .pf ⟨(0:Int)≤0∧(0:Int)<(2:Nat),(by decide)⟩]<| .r<| .e (.next ((IntKind.wrap .i64 (u1+((at' x.racks u0.toNat).e0))),1))))
  (.a2 (DX x u0) (aft x u0)<| .rg {} [0, .pf ⟨(0:Int)≤0∧(0:Int)<(2:Nat),(by decide)⟩,1, .pf ⟨(0:Int)≤0∧(0:Int)<(2:Nat),(by decide)⟩]<| .it (.r<| .e (.done (.ret (.done (.ret false)))))
  (.a1 (DX x u0)<| .rg {} [0, .pf ⟨(0:Int)≤0∧(0:Int)<(2:Nat),(by decide)⟩]<| .r<| .e (.next ((IntKind.wrap .i64 (u1+((at' x.racks u0.toNat).e0))),1)))))
  (.a1 (k1=1)<| .sj 13 k1 1 0<| .a1 (D5 u0 p)<| .rg {} [0, .pf ⟨(0:Int)≤1∧(1:Int)<(2:Nat),(by decide)⟩]<| .r<| .a1 ((gB [((decide (0≤((su u0 p).e1))),true)]=true→(0:Int)≤(if(su u0 p).e1<0 then 0 else(su u0 p).e1)∧(if(su u0 p).e1<0 then 0 else(su u0 p).e1)<(s_.badBus.length:Int)))<| .r<| .it (.a1 (D5 u0 p)<| .r<| .a2 (DX x u0) (afb x u0)<| .rg {} [0, .pf ⟨(0:Int)≤1∧(1:Int)<(2:Nat),(by decide)⟩,1, .pf ⟨(0:Int)≤1∧(1:Int)<(2:Nat),(by decide)⟩]<| .it (.r<| .e (.done (.ret (.done (.ret false)))))
  (.a1 (DX x u0)<| .rg {} [0, .pf ⟨(0:Int)≤1∧(1:Int)<(2:Nat),(by decide)⟩]<| .r<| .e (.next ((IntKind.wrap .i64 (u1+(Np x u0))),2))))
  (.a2 (DX x u0) (afb x u0)<| .rg {} [0, .pf ⟨(0:Int)≤1∧(1:Int)<(2:Nat),(by decide)⟩,1, .pf ⟨(0:Int)≤1∧(1:Int)<(2:Nat),(by decide)⟩]<| .it (.r<| .e (.done (.ret (.done (.ret false)))))
  (.a1 (DX x u0)<| .rg {} [0, .pf ⟨(0:Int)≤1∧(1:Int)<(2:Nat),(by decide)⟩]<| .r<| .e (.next ((IntKind.wrap .i64 (u1+(Np x u0))),2))))))
  (.e (.done (.brk u1))))
  (fun u2=> .a1 (D5 u0 p)<| .r<| .it (.r<| .e (.done (.ret false)))
  (.r<| .e (.next (k4 u0)))))
  (.e (.done (.brk ()))))
  (fun _=> .r<| .lp (σ:=Int) (β:=Unit) (0) [] [] ⟨[3,5],[],fun b=>[(16,(vI b))],fun b=>[]⟩ ⟨[],[],fun _=>[],fun _=>[]⟩
  (fun b=> .r<| .it (.cl 3 (DL p x b) fun u4=> .r<| .it (.r<| .e (.done (.ret false)))
  (.r<| .e (.next (k4 b))))
  (.e (.done (.brk ()))))
  (fun _=> .r<| .e true))))))
theorem qD (p:ah) (s_:State) (x:aA):fB Tryz.prog 67 (R5 p s_ x) [] (fun r=>(vI r)) (fun _=>[]) (iA p s_ x):=
  gJ tT mX Tryz.func67 (
  .rg {fr:=[(0,3),(1,4),(2,5)],fz:=[3,4,5]} []<| .cl 2 (eH p s_) fun r_=> .r<| .cg 6 [((decide (r_=0)),true)] (BZ p s_ x) fun u0=> .r<| .it (.r<| .r<| .e 20)
  (.r<| .e r_))
theorem zY (x:ah):fB Tryz.prog 8 (k14 x) [] (fun r=>(.v (.agg [(cI r.buses),(.own 0 false r.sources.length),(.own 1 false r.links.length),(.own 2 false r.racks.length)]))) (fun r=>[(0,some (bZ 60 5 Source.cell r.sources)),(1,some (bZ 66 6 Link.cell r.links)),(2,some (bZ 71 4 aC.cell r.racks)),(3,none)]) (pX x):=
  gJ tT mX Tryz.func8 (
  .rg {fr:=[(0,5),(1,6)]} []<| .cl 4 (BD [(0,7)] (yA x.sources)) fun r_=> .cl 7 (BD [(0,8)] (Ac x.links)) fun u0=> .cl 10 (BD [(0,9)] (Ab x.racks)) fun u1=> .r<| .en (⟨x.buses,r_,u0,u1⟩:ah) [] [(7,0),(8,1),(9,2),(6,3)])
theorem zX (x:State):fB Tryz.prog 9 [(.agg (k11 x))] [] (fun r=>(.v (.agg [(.own 0 false r.closed.length),(.own 1 false r.locked.length),(.own 2 false r.badLink.length),(.own 3 false r.on_.length),(.own 4 false r.badSource.length),(.own 5 false r.earthed.length),(.own 6 false r.badBus.length)]))) (fun r=>[(0,some (bZ 4 1 aj r.closed)),(1,some (bZ 4 1 aj r.locked)),(2,some (bZ 4 1 aj r.badLink)),(3,some (bZ 4 1 aj r.on_)),(4,some (bZ 4 1 aj r.badSource)),(5,some (bZ 4 1 aj r.earthed)),(6,some (bZ 4 1 aj r.badBus)),(7,none)]) (qb x):=
  gJ tT mX Tryz.func9 (
  .rg {fr:=[(0,9),(1,10)],fz:=[9]} []<| .cl 2 (BD [(0,11)] (dD x.closed)) fun r_=> .cl 5 (BD [(0,12)] (dD x.locked)) fun u0=> .cl 8 (BD [(0,13)] (dD x.badLink)) fun u1=> .cl 11 (BD [(0,14)] (dD x.on_)) fun u2=> .cl 14 (BD [(0,15)] (dD x.badSource)) fun u3=> .cl 17 (BD [(0,16)] (dD x.earthed)) fun u4=> .cl 20 (BD [(0,17)] (dD x.badBus)) fun u5=> .r<| .en (⟨r_,u0,u1,u2,u3,u4,u5⟩:State) [] [(11,0),(12,1),(13,2),(14,3),(15,4),(16,5),(17,6),(10,7)])
section
variable (u0:(aA × (List Bool) × Int)) (u9:Int) (u6:((List Part) × Int)) (u7:((List Part) × Int)) (u1:(Bool × Int)) (u2:(Bool × Int)) (v1:Bool)
abbrev afl:=(bif (bif (bif (bif (!decide (u0.2.2=u9))then true else(!decide (u6.2=u7.2)))then true else(!decide (u1.2=u2.2)))then true else(!v1))then true else(!(u1.1==u2.1)))
abbrev ad2:=(decide ((IntKind.wrap .i64 ((IntKind.wrap .i64 ((IntKind.wrap .i64 ((u0.1.sources.length:Int)+(u0.1.links.length:Int)))+(u0.1.racks.length:Int)))+(u0.2.1.length:Int)))=0))
end
theorem Ao (p:ah) (s_:State):fB Tryz.prog 24 (U3 p s_) [] (fun r=>(vB r)) (fun _=>[]) (jv p s_):=
  gJ tT mX Tryz.func24 (
  .rg {fr:=[(0,22),(1,23)],fz:=[22,23]} []<| .cl 1 (Ap p) fun r_=> .r<| .it (.cl 0 gM fun v3=> .r<| .e v3)
  (.cl 1 (BD [(0,24),(1,25),(2,26),(3,27)] (zY p)) fun u4=> .cl 3 (BD [(0,28),(1,29),(2,30),(3,31),(4,32),(5,33),(6,34),(7,35)] (zX s_)) fun u5=> .rg {fr:=[(4,36),(5,37)],fz:=[24,25,26,28,29,30,31,32,33,34]} []<| .fz [36,37]<| .cl 2 (BD [(0,38),(1,39),(2,40),(3,41),(4,42)] ⟨fun h=>qd u4 u5 h⟩) fun u0=> .rg {fr:=[(7,43)],fz:=[38,39,40,41]} []<| .fz [43]<| .cl 2 (zQ u4 u5) fun u6=> .r<| .cl 2 (Bq u4 u5) fun u1=> .r<| .cl 2 (Fh p s_) fun u7=> .r<| .cl 2 (Gz p s_) fun u2=> .r<| .cl 3 (eH p s_) fun u9=> .cg 18 [((bif (bif (!decide (u0.2.2=u9))then true else(!decide (u6.2=u7.2)))then true else(!decide (u1.2=u2.2))),false)] (wJ u6.1 u7.1) fun v1=> .cg 29 [((afl u0 u9 u6 u7 u1 u2 v1),false)] (Du p u4) fun v4=> .cg 35 [((bif (afl u0 u9 u6 u7 u1 u2 v1)then true else(!v4)),false)] (CO s_ u5) fun v7=> .r<| .it (.r<| .e false)
  (.r<| .it (.cg 16 [((ad2 u0),true)] gM fun v5=> .r<| .e (bif (ad2 u0)then v5 else false))
  (.cl 2 (tN p s_) fun u3=> .r<| .cl 1 (kR u0.1) fun u8=> .cg 7 [((decide (u8=u3.1)),true)] (bV u0.2.1 u3.2) fun v0=> .cg 13 [((bif (decide (u8=u3.1))then v0 else false),true)] (qD p s_ u0.1) fun v2=> .cg 17 [((bif (bif (decide (u8=u3.1))then v0 else false)then(decide (v2=0))else false),true)] gM fun v6=> .r<| .e (bif (bif (bif (decide (u8=u3.1))then v0 else false)then(decide (v2=0))else false)then v6 else false)))))
theorem Km (x:Int) (n:Int):fB Tryz.prog 10 [(sI x),(sI n)] [] (fun r=>(vI r)) (fun _=>[]) (zk x n):=
  gJ tT mX Tryz.func10 (
  .r<| .r<| .it (.r<| .e 0)
  (.a1 (n≠(0:Int))<| .r<| .r<| .it (.r<| .r<| .e (IntKind.wrap .i64 ((Int.tmod x n)+n)))
  (.r<| .e (Int.tmod x n))))
theorem qm (u1:Int) (l:(List Int)) (u2:Int) (u0:(List Int)):fB Tryz.prog 116 [(sI u1),(sD (yJ l)),(sI u2),(sD (yJ u0))] [] (fun r=>(vB r)) (fun _=>[]) (iO u1 l u2 u0):=
  gJ tT mX Tryz.func116 (
  .r<| .r<| .it (.r<| .e (decide (u1<u2)))
  (.r<| .it (.r<| .e (decide ((l.length:Int)<(u0.length:Int))))
  (.r<| .lp (σ:=Int) (β:=Unit) (0) [] [] ⟨[1,3],[],fun i=>[(9,(vI i))],fun i=>[]⟩ ⟨[],[],fun _=>[],fun _=>[]⟩
  (fun i=> .r<| .it (.a2 (Ns l i) (Ns u0 i)<| .rg {} [0,1]<| .it (.a2 (Ns l i) (Ns u0 i)<| .rg {} [0,1]<| .e (.done (.ret (decide ((at' l i.toNat)<(at' u0 i.toNat))))))
  (.r<| .e (.next (k4 i))))
  (.e (.done (.brk ()))))
  (fun _=> .r<| .e false))))
section
variable (p:ah) (s_:State) (u1:Int) (u7:Int) (u0:(List Bool)) (i:Int) (u4:(Int × (List Int)))
abbrev ZN:List SV:=[(.agg (k9 p)),(.agg (k11 s_)),(sI u1),(sI u7),(sD (bM none 1 aj u0))]
abbrev Ko:=(([]:List Bool)++u0)
abbrev MQ:=((Ko u0).set u1.toNat true)
abbrev aa7:=(au aj (MQ u1 u0))
abbrev ado:=((bif (decide ((U8 i p)<0))then true else(at' (MQ u1 u0) (k49 i p))),false)
abbrev aey:=((gB [((decide ((U8 i p)<0)),false)]=true→(0:Int)≤(at' p.links i.toNat).a∧(at' p.links i.toNat).a<((MQ u1 u0).length:Int)))
abbrev Uj:=(au (aG .i64) ([i]++u4.2))
abbrev Z6:=(sW (au (aG .i64) [i]) [i].length (au (aG .i64) u4.2))
abbrev Xn:=(IntKind.wrap .i64 (((at' p.links i.toNat).bJ)+u4.1))
abbrev ZW:=((Xn p i u4),([i]++u4.2))
end
theorem BL (v2:ah→State→Int→Int→(List Bool)→Option (Int × (List Int))) (rec_ok: ∀(p:ah) (s_:State) (u1:Int) (u7:Int) (u0:(List Bool)) (r:(Int × (List Int))),v2 p s_ u1 u7 u0=some r→Fn Tryz.prog 89 (ZN p s_ u1 u7 u0) [] ((fun r=>(.iV [(sI r.1),(sD (bM none 1 (aG .i64) r.2))])) r) ((fun _=>[]) r)) (p:ah) (s_:State) (u1:Int) (u7:Int) (u0:(List Bool)):fB Tryz.prog 89 (ZN p s_ u1 u7 u0) [] (fun r=>(.iV [(sI r.1),(sD (bM none 1 (aG .i64) r.2))])) (fun _=>[]) (nX v2 p s_ u1 u7 u0):=
  gJ tT mX Tryz.func89 (
  .rg {fr:=[(0,60),(1,61)],fz:=[61]} []<| .r<| .it (.r<| .e (0,([]:List Int)))
  (.r<| .r<| .a2 ((([]:List Bool).length+u0.length)*1≤140737488355328) (([]:List Bool).length+u0.length≤4611686018427387904)<| .rg {an:=[(0, .arr ([]:List Bool).length (au aj ([]:List Bool))),(2, .arr (Ko u0).length (au aj (Ko u0)))],fr:=[(0,62),(2,63)]} [.pf ⟨([]:List Bool).length=0,rfl⟩, .pf ⟨aD 0 1 (pz 1 []) (au aj ([]:List Bool)),(fun i hi=>absurd hi (Nat.not_lt_zero i))⟩, .e (([]:List Bool).length),0,1, .pf ⟨(Ko u0).length=([]:List Bool).length+u0.length,List.length_append⟩, .pf ⟨aD (([]:List Bool).length+u0.length) 1 (sW (au aj ([]:List Bool)) ([]:List Bool).length (au aj u0)) (au aj (Ko u0)),dw _ _ _ _⟩]<| .a1 ((0:Int)≤u1∧u1<((Ko u0).length:Int))<| .rg {an:=[(3, .arr 0 (aa7 u1 u0))],fz:=[63]} [0, .t 0 u1 ((Ko u0).length), .pf ⟨aD (Ko u0).length 1 (eX (au aj (Ko u0)) u1.toNat 0 [(.bool true)]) (aa7 u1 u0),aK _ _ _ _ _ _ _ _ rfl (fun j hj=>(match j,hj with|0,_=>rfl))⟩]<| .im (.us 14 (vD (.sl none 1 (Ko u0).length (aa7 u1 u0))) (vD (bM none 1 aj (MQ u1 u0))) (y7.v (uG.one (gV.d (jK.slN (by simp only [List.length_set]) (.inr rfl) (fun _ _ _ _=> .refl _))))))<| .r<| .lp (σ:=(Int × (List Int) × Int)) (β:=(Int × (List Int))) ((-1),([]:List Int),0) [] [] ⟨[2,3,5,6,14],[60],fun(u2,u3,i)=>[(12,(vI u2)),(13,(vD (yJ u3))),(15,(vI i))],fun(u2,u3,i)=>[]⟩ ⟨[],[],fun(u8,u9)=>[(12,(vI u8)),(13,(vD (yJ u9)))],fun(u8,u9)=>[]⟩
  (fun(u2,u3,i)=> .r<| .it (.jN (β:=(Int × (List Int))) 2 ⟨[2,3,5,6,14,15],[60],fun(v0,v1)=>[(12,(vI v0)),(13,(vD (yJ v1)))],fun(v0,v1)=>[]⟩ (.a1 (Qn p i)<| .rg {fr:=[(5,113)],fz:=[113]} []<| .r<| .r<| .it (.r<| .r<| .it (.r<| .cg 12 [(ado p u1 u0 i)] (gq p s_ i) fun r_=> .a1 (aey p u1 u0 i)<| .rg {} [0,1]<| .it (.e (u2,u3))
  (.cl 5 ⟨fun h=>rec_ok p s_ (U8 i p) u7 (MQ u1 u0) _ h⟩ fun u4=> .r<| .r<| .it (.e (u2,u3))
  (.a2 (([i].length+u4.2.length)*8≤140737488355328) ([i].length+u4.2.length≤4611686018427387904)<| .rg {an:=[(1, .arr [i].length (au (aG .i64) [i])),(3, .arr ([i]++u4.2).length (Uj i u4))],fr:=[(1,114),(3,115)],fz:=[115]} [.pf ⟨[i].length=1,rfl⟩, .pf ⟨aD 1 1 (pz 1 [(.int .i64 i)]) (au (aG .i64) [i]),(by intro i hi j hj;match i,j,hi,hj with|0,0,_,_=>rfl)⟩, .e ([i].length),0,1, .pf ⟨([i]++u4.2).length=[i].length+u4.2.length,List.length_append⟩, .pf ⟨aD ([i].length+u4.2.length) 1 (Z6 i u4) (Uj i u4),dw _ _ _ _⟩]<| .cg 10 [((decide (u2<0)),false)] (qm (Xn p i u4) ([i]++u4.2) u2 u3) fun v3=> .r<| .it (.r<| .r<| .e (ZW p i u4))
  (.e (u2,u3)))))
  (.cg 12 [((bif (decide ((Xf i p)<0))then true else(at' (MQ u1 u0) (k52 i p))),false)] (gq p s_ i) fun v4=> .a1 ((gB [((decide ((Xf i p)<0)),false)]=true→(0:Int)≤(at' p.links i.toNat).b∧(at' p.links i.toNat).b<((MQ u1 u0).length:Int)))<| .rg {} [0,1]<| .it (.e (u2,u3))
  (.cl 5 ⟨fun h=>rec_ok p s_ (Xf i p) u7 (MQ u1 u0) _ h⟩ fun u5=> .r<| .r<| .it (.e (u2,u3))
  (.a2 (([i].length+u5.2.length)*8≤140737488355328) ([i].length+u5.2.length≤4611686018427387904)<| .rg {an:=[(1, .arr [i].length (au (aG .i64) [i])),(3, .arr ([i]++u5.2).length (Uj i u5))],fr:=[(1,116),(3,117)],fz:=[117]} [.pf ⟨[i].length=1,rfl⟩, .pf ⟨aD 1 1 (pz 1 [(.int .i64 i)]) (au (aG .i64) [i]),(by intro i hi j hj;match i,j,hi,hj with|0,0,_,_=>rfl)⟩, .e ([i].length),0,1, .pf ⟨([i]++u5.2).length=[i].length+u5.2.length,List.length_append⟩, .pf ⟨aD ([i].length+u5.2.length) 1 (Z6 i u5) (Uj i u5),dw _ _ _ _⟩]<| .cg 10 [((decide (u2<0)),false)] (qm (Xn p i u5) ([i]++u5.2) u2 u3) fun v5=> .r<| .it (.r<| .r<| .e (ZW p i u5))
  (.e (u2,u3))))))
  (.r<| .it (.r<| .cg 12 [(ado p u1 u0 i)] (gq p s_ i) fun v6=> .a1 (aey p u1 u0 i)<| .rg {} [0,1]<| .it (.e (u2,u3))
  (.cl 5 ⟨fun h=>rec_ok p s_ (U8 i p) u7 (MQ u1 u0) _ h⟩ fun u6=> .r<| .r<| .it (.e (u2,u3))
  (.a2 (([i].length+u6.2.length)*8≤140737488355328) ([i].length+u6.2.length≤4611686018427387904)<| .rg {an:=[(1, .arr [i].length (au (aG .i64) [i])),(3, .arr ([i]++u6.2).length (Uj i u6))],fr:=[(1,118),(3,119)],fz:=[119]} [.pf ⟨[i].length=1,rfl⟩, .pf ⟨aD 1 1 (pz 1 [(.int .i64 i)]) (au (aG .i64) [i]),(by intro i hi j hj;match i,j,hi,hj with|0,0,_,_=>rfl)⟩, .e ([i].length),0,1, .pf ⟨([i]++u6.2).length=[i].length+u6.2.length,List.length_append⟩, .pf ⟨aD ([i].length+u6.2.length) 1 (Z6 i u6) (Uj i u6),dw _ _ _ _⟩]<| .cg 10 [((decide (u2<0)),false)] (qm (Xn p i u6) ([i]++u6.2) u2 u3) fun v7=> .r<| .it (.r<| .r<| .e (ZW p i u6))
  (.e (u2,u3)))))
  (.rg {sk:=[3,4,5,6,9,10,11,12,13]} []<| .t<| .e (u2,u3))))
  (fun(v0,v1)=> .r<| .e (.next (v0,v1,(k4 i)))))
  (.e (.done (.brk (u2,u3)))))
  (fun(u8,u9)=> .r<| .e (u8,u9))))
theorem AL: ∀(n:Nat) (p:ah) (s_:State) (u0:Int) (u1:Int) (u2:(List Bool)),fB Tryz.prog 89 (ZN p s_ u0 u1 u2) [] (fun r=>(.iV [(sI r.1),(sD (bM none 1 (aG .i64) r.2))])) (fun _=>[]) (je n p s_ u0 u1 u2)
 |0,_,_,_,_,_=> ⟨fun h=>by cases h⟩
 |n+1,p,s_,u0,u1,u2=>BL (je n) (fun p s_ u0 u1 u2 _ h=>AL n p s_ u0 u1 u2 h) p s_ u0 u1 u2
section
variable (u0:(Int × (List Int))) (p:ah) (k:Int) (u1:(List Short))
abbrev TS:=(IntKind.wrap .i64 (u0.1+((at' p.sources k.toNat).bJ)))
abbrev abq:=(IntKind.wrap .i64 (Int.tdiv (400000:Int) (TS u0 p k)))
abbrev ada:=(IntKind.wrap .i64 ((abq u0 p k)+1))
abbrev Q9:=(⟨k,(TS u0 p k),(ada u0 p k),u0.2⟩:Short)
abbrev ac6:=(u1.length+[(Q9 u0 p k)].length)
abbrev abt:=(au Short.cell [(Q9 u0 p k)])
abbrev Yp:=(u1++[(Q9 u0 p k)])
abbrev adi:=(au Short.cell (Yp u0 p k u1))
abbrev PU:=(⟨k,(TS u0 p k),(abq u0 p k),u0.2⟩:Short)
abbrev aej:=(u1.length+[(PU u0 p k)].length)
abbrev aan:=(au Short.cell [(PU u0 p k)])
abbrev YL:=(u1++[(PU u0 p k)])
abbrev ab5:=(au Short.cell (YL u0 p k u1))
end
theorem EU (p:ah) (s_:State) (u2:Int):fB Tryz.prog 39 (k39 p s_ u2) [] (fun r=>(.iV [(sD (bM none 4 Short.cell r.1)),(sI r.2)])) (fun _=>[]) (jo p s_ u2):=
  gJ tT mX Tryz.func39 (
  .rg {fr:=[(0,42),(1,43)],fz:=[42,43]} []<| .cl 2 (eH p s_) fun r_=> .r<| .r<| .it (.r<| .e (([]:List Short),r_))
  (.r<| .it (.r<| .e (([]:List Short),1))
  (.r<| .r<| .im (.ad 9 84 103 4 (au Short.cell ([]:List Short)))<| .lp (σ:=((List Short) × Int)) (β:=(List Short)) (([]:List Short),0) [] [(84,46)] ⟨[2,3,4],[],fun(u1,k)=>[(9,(vO 46 false u1.length)),(10,(vI k))],fun(u1,k)=>[(46,some (bZ 103 4 Short.cell u1))]⟩ ⟨[],[],fun u3=>[(9,(vO 46 false u3.length))],fun u3=>[(46,some (bZ 103 4 Short.cell u3))]⟩
  (fun(u1,k)=> .a1 ((gB [((decide (k<(p.sources.length:Int))),true)]=true→(0:Int)≤u2∧u2<(s_.badBus.length:Int)))<| .r<| .it (.jN (β:=(List Short)) 3 ⟨[2,3,4,10],[],fun u4=>[(9,(vO 46 false u4.length))],fun u4=>[(46,some (bZ 103 4 Short.cell u4))]⟩ (.cl 3 (nV p s_ k) fun u5=> .r<| .it (.e u1)
  (.cl 12 (leO [(.agg (k9 p)),(.agg (k11 s_)),(sI (Uz p k)),(sI u2),(sD (bM (some true) 1 aj (sF p)))] (AL FUEL p s_ (Uz p k) u2 (sF p))) fun u0=> .a4 (O5 k p) ((0:Int)≤p.buses) (Xo p) (Uv p)<| .rg {an:=[(11, .frz (sF p).length (BX p))],fr:=[(11,79)]} [0,1, .e ((p.buses:Int)),2,3, .pf ⟨(sF p).length=p.buses.toNat,List.length_replicate⟩, .pf ⟨aD p.buses.toNat 1 (fun _ j=>[(.bool false)].getD j .nilp) (BX p),aW _ _ _ _ _ (fun j hj=>(match j,hj with|0,_=>rfl))⟩,4]<| .r<| .it (.e u1)
  (.a1 (O5 k p)<| .r<| .a1 ((TS u0 p k)≠(0:Int))<| .r<| .r<| .it (.r<| .a2 ((ac6 u0 p k u1)*48≤140737488355328) (u1.length+[(Q9 u0 p k)].length≤4611686018427387904)<| .rg {an:=[(6, .arr [(Q9 u0 p k)].length (abt u0 p k)),(7, .arr (Yp u0 p k u1).length (adi u0 p k u1))],fr:=[(6,80),(7,81)]} [.pf ⟨[(Q9 u0 p k)].length=1,rfl⟩, .pf ⟨aD 1 4 (pz 4 [(.int .i64 k),(.int .i64 (TS u0 p k)),(.int .i64 (ada u0 p k)),(bM none 1 (aG .i64) u0.2)]) (abt u0 p k),(by intro i hi j hj;match i,j,hi,hj with|0,0,_,_=>rfl|0,1,_,_=>rfl|0,2,_,_=>rfl|0,3,_,_=>rfl)⟩, .e (u1.length),0,1, .pf ⟨(Yp u0 p k u1).length=u1.length+[(Q9 u0 p k)].length,List.length_append⟩, .pf ⟨aD (ac6 u0 p k u1) 4 (sW (au Short.cell u1) u1.length (abt u0 p k)) (adi u0 p k u1),dw _ _ _ _⟩]<| .en (Yp u0 p k u1) [] [(81,46)])
  (.a2 ((aej u0 p k u1)*48≤140737488355328) (u1.length+[(PU u0 p k)].length≤4611686018427387904)<| .rg {an:=[(6, .arr [(PU u0 p k)].length (aan u0 p k)),(7, .arr (YL u0 p k u1).length (ab5 u0 p k u1))],fr:=[(6,82),(7,83)]} [.pf ⟨[(PU u0 p k)].length=1,rfl⟩, .pf ⟨aD 1 4 (pz 4 [(.int .i64 k),(.int .i64 (TS u0 p k)),(.int .i64 (abq u0 p k)),(bM none 1 (aG .i64) u0.2)]) (aan u0 p k),(by intro i hi j hj;match i,j,hi,hj with|0,0,_,_=>rfl|0,1,_,_=>rfl|0,2,_,_=>rfl|0,3,_,_=>rfl)⟩, .e (u1.length),0,1, .pf ⟨(YL u0 p k u1).length=u1.length+[(PU u0 p k)].length,List.length_append⟩, .pf ⟨aD (aej u0 p k u1) 4 (sW (au Short.cell u1) u1.length (aan u0 p k)) (ab5 u0 p k u1),dw _ _ _ _⟩]<| .en (YL u0 p k u1) [] [(83,46)]))))
  (fun u4=> .r<| .e (.next (u4,(k4 k)))))
  (.e (.done (.brk u1))))
  (fun u3=> .rg {fz:=[46]} []<| .e (u3,0)))))
section
variable (p:ah)
abbrev DF:=(List.replicate (yu p) (false:Bool))
abbrev OG:=(au aj (DF p))
end
theorem vK (p:ah) (l:(List Short)):fB Tryz.prog 40 (aco p l) [] (fun r=>(.iV [(sD (bM none 1 (aG .i64) r.1)),(sI r.2)])) (fun _=>[]) (lU p l):=
  gJ tT mX Tryz.func40 (
  .rg {fr:=[(0,6)],fz:=[6]} []<| .cl 1 (oK p) fun r_=> .r<| .r<| .it (.r<| .e (([]:List Int),r_))
  (.r<| .it (.r<| .e (([]:List Int),1))
  (.a3 ((0:Int)≤(p.links.length:Int)) ((8:Int)*(p.links.length:Int)≤281474976710656) (YK p)<| .rg {an:=[(3, .arr (Cx p).length (Kk p))],fr:=[(3,7)]} [0, .e (TP p),1,2, .pf ⟨(Cx p).length=(yu p),List.length_replicate⟩, .pf ⟨aD (yu p) 1 (fun _ j=>[(.int .i64 0)].getD j .nilp) (Kk p),aW _ _ _ _ _ (fun j hj=>(match j,hj with|0,_=>rfl))⟩]<| .r<| .lp (σ:=((List Int) × Int)) (β:=(List Int)) ((Cx p),0) [] [] ⟨[1,2],[],fun(u2,n)=>[(7,(vO 7 true u2.length)),(8,(vI n))],fun(u2,n)=>[(7,some (F7 u2))]⟩ ⟨[],[],fun u3=>[(7,(vO 7 true u3.length))],fun u3=>[(7,some (F7 u3))]⟩
  (fun(u2,n)=> .r<| .it (.a2 (ML l n) ((gB [((decide (((at' l n.toNat).amps)<0)),false)]=true→(0:Int)≤n∧n<(l.length:Int)))<| .rg {} [0,1]<| .it (.r<| .e (.done (.ret (([]:List Int),1))))
  (.a3 ((0:Int)≤(p.links.length:Int)) ((1:Int)*(p.links.length:Int)≤281474976710656) (YK p)<| .rg {an:=[(3, .arr (DF p).length (OG p))],fr:=[(3,11)]} [0, .e (TP p),1,2, .pf ⟨(DF p).length=(yu p),List.length_replicate⟩, .pf ⟨aD (yu p) 1 (fun _ j=>[(.bool false)].getD j .nilp) (OG p),aW _ _ _ _ _ (fun j hj=>(match j,hj with|0,_=>rfl))⟩]<| .r<| .lp (σ:=((List Bool) × Int)) (β:=(List Bool)) ((DF p),0) [] [] ⟨[1,2,7,8],[7],fun(u1,i)=>[(9,(vO 11 true u1.length)),(10,(vI i))],fun(u1,i)=>[(11,some (bZ 4 1 aj u1))]⟩ ⟨[1,2,7,8],[7],fun u4=>[(9,(vO 11 true u4.length))],fun u4=>[(11,some (bZ 4 1 aj u4))]⟩
  (fun(u1,i)=> .a1 (ML l n)<| .r<| .it (.a2 (ML l n) ((0:Int)≤i∧i<(((at' l n.toNat).links).length:Int))<| .rg {} [0,1]<| .r<| .it (.r<| .e (.done (.ret (.done (.ret (([]:List Int),1))))))
  (.a1 ((0:Int)≤(at' ((at' l n.toNat).links) i.toNat)∧(at' ((at' l n.toNat).links) i.toNat)<(u1.length:Int))<| .rg {an:=[(3, .arr 0 (au aj (u1.set ((at' ((at' l n.toNat).links) i.toNat).toNat) true)))]} [0, .t 0 (at' ((at' l n.toNat).links) i.toNat) u1.length, .pf ⟨aD u1.length 1 (eX (au aj u1) ((at' ((at' l n.toNat).links) i.toNat).toNat) 0 [(.bool true)]) (au aj (u1.set ((at' ((at' l n.toNat).links) i.toNat).toNat) true)),aK _ _ _ _ _ _ _ _ rfl (fun j hj=>(match j,hj with|0,_=>rfl))⟩]<| .im (.ll 11 u1 (u1.set ((at' ((at' l n.toNat).links) i.toNat).toNat) true))<| .r<| .e (.next ((u1.set ((at' ((at' l n.toNat).links) i.toNat).toNat) true),(k4 i)))))
  (.e (.done (.brk u1))))
  (fun u4=> .rg {fz:=[11]} []<| .lp (σ:=((List Int) × Int)) (β:=(List Int)) (u2,0) [] [] ⟨[1,2,8,9],[],fun(u0,k)=>[(7,(vO 7 true u0.length)),(12,(vI k))],fun(u0,k)=>[(7,some (F7 u0))]⟩ ⟨[1,2,8],[],fun u5=>[(7,(vO 7 true u5.length))],fun u5=>[(7,some (F7 u5))]⟩
  (fun(u0,k)=> .r<| .it (.a1 (k10 k u4)<| .r<| .it (.a2 (Ns u0 k) (ML l n)<| .rg {an:=[(13, .arr 0 (YM l u0 k n))]} [0, .t 0 k u0.length,1,0, .t 0 k u0.length, .pf ⟨aD u0.length 1 (acv l u0 k n) (YM l u0 k n),aK _ _ _ _ _ _ _ _ rfl (fun j hj=>(match j,hj with|0,_=>rfl))⟩]<| .im (.ll 7 u0 (YF l u0 k n))<| .r<| .e (.next (aeH l u0 k n)))
  (.r<| .e (.next (Sl u0 k))))
  (.e (.done (.brk u0))))
  (fun u5=> .r<| .e (.next (Sl u5 n))))))
  (.e (.done (.brk u2))))
  (fun u3=> .rg {fz:=[7]} []<| .e (u3,0)))))
section
variable (u7:((List Int) × Bool × Int)) (v0:((List Int) × Int))
abbrev acT:=(leO [(sD (bM (some u7.2.1) 1 (aG .i64) u7.1)),(sD (bM none 1 (aG .i64) v0.1))] (qZ u7.1 v0.1))
end
theorem Ad (p:ah) (s_:State) (u1:Int) (l:(List Short)):fB Tryz.prog 25 [(.agg (k9 p)),(.agg (k11 s_)),(sI u1),(sD (bM none 4 Short.cell l))] [] (fun r=>(vB r)) (fun _=>[]) (jr p s_ u1 l):=
  gJ tT mX Tryz.func25 (
  .rg {fr:=[(0,11),(1,12)],fz:=[11,12]} []<| .cl 1 (Ap p) fun r_=> .r<| .it (.cl 0 gM fun v2=> .r<| .e v2)
  (.r<| .r<| .im (.ad 9 21 142 4 (au Short.cell ([]:List Short)))<| .lp (σ:=((List Short) × Int)) (β:=(List Short)) (([]:List Short),0) [] [(21,14)] ⟨[2,3,4,5],[],fun(u0,i)=>[(9,(vO 14 false u0.length)),(10,(vI i))],fun(u0,i)=>[(14,some (bZ 142 4 Short.cell u0))]⟩ ⟨[2,3,4,5],[],fun u5=>[(9,(vO 14 false u5.length))],fun u5=>[(14,some (bZ 142 4 Short.cell u5))]⟩
  (fun(u0,i)=> .r<| .it (.a1 (ML l i)<| .r<| .it (.cl 0 gM fun v3=> .r<| .e (.done (.ret v3)))
  (.a3 (ML l i) ((u0.length+[(at' l i.toNat)].length)*48≤140737488355328) (u0.length+[(at' l i.toNat)].length≤4611686018427387904)<| .rg {an:=[(5, .arr [(at' l i.toNat)].length (au Short.cell [(at' l i.toNat)])),(6, .arr (u0++[(at' l i.toNat)]).length (au Short.cell (u0++[(at' l i.toNat)])))],fr:=[(5,19),(6,20)]} [0, .pf ⟨[(at' l i.toNat)].length=1,rfl⟩, .pf ⟨aD 1 4 (pz 4 [(.int .i64 ((at' l i.toNat).source)),(.int .i64 ((at' l i.toNat).bJ)),(.int .i64 ((at' l i.toNat).amps)),(bM none 1 (aG .i64) ((at' l i.toNat).links))]) (au Short.cell [(at' l i.toNat)]),(by intro i hi j hj;match i,j,hi,hj with|0,0,_,_=>rfl|0,1,_,_=>rfl|0,2,_,_=>rfl|0,3,_,_=>rfl)⟩, .e (u0.length),1,2, .pf ⟨(u0++[(at' l i.toNat)]).length=u0.length+[(at' l i.toNat)].length,List.length_append⟩, .pf ⟨aD (u0.length+[(at' l i.toNat)].length) 4 (sW (au Short.cell u0) u0.length (au Short.cell [(at' l i.toNat)])) (au Short.cell (u0++[(at' l i.toNat)])),dw _ _ _ _⟩]<| .r<| .en (.next ((u0++[(at' l i.toNat)]),(k4 i))) [] [(20,14)]))
  (.e (.done (.brk u0))))
  (fun u5=> .cl 4 (Km u1 p.buses) fun u2=> .rg {an:=[(5, .arr [u1,u2].length (au (aG .i64) [u1,u2]))],fr:=[(5,22)],fz:=[14,22]} [0, .pf ⟨[u1,u2].length=2,rfl⟩, .pf ⟨aD 2 1 (pz 1 (SL u1 u2)) (au (aG .i64) [u1,u2]),(by intro i hi j hj;match i,j,hi,hj with|0,0,_,_=>rfl|1,0,_,_=>rfl)⟩]<| .lp (σ:=Int) (β:=Unit) (0) [] [] ⟨[3,4,5,9,57,58],[],fun u3=>[(59,(vI u3))],fun u3=>[]⟩ ⟨[3,4,9],[],fun _=>[],fun _=>[]⟩
  (fun u3=> .r<| .it (.a1 ((0:Int)≤u3∧u3<([u1,u2].length:Int))<| .r<| .cl 3 (yg p s_ (at' [u1,u2] u3.toNat)) fun u8=> .r<| .cl 3 (EU p s_ (at' [u1,u2] u3.toNat)) fun u9=> .r<| .cg 6 [((!decide (u8.2=u9.2)),false)] (sM u8.1 u9.1) fun v5=> .r<| .it (.r<| .e (.done (.ret false)))
  (.cl 2 (rM p u8.1) fun u7=> .r<| .cl 2 (vK p u9.1) fun v0=> .r<| .cg 6 [((!decide (u7.2.2=v0.2)),false)] (acT u7 v0) fun v6=> .r<| .it (.r<| .e (.done (.ret false)))
  (.r<| .e (.next (k4 u3)))))
  (.e (.done (.brk ()))))
  (fun _=> .cl 2 (rM p u5) fun u4=> .r<| .cl 2 (vK p l) fun u6=> .r<| .cg 6 [((decide (u4.2.2=u6.2)),true)] (acT u4 u6) fun v1=> .cg 9 [((bif (decide (u4.2.2=u6.2))then v1 else false),true)] gM fun v4=> .r<| .e (bif (bif (decide (u4.2.2=u6.2))then v1 else false)then v4 else false)))))
theorem BR (p:ah) (s_:State) (u0:(List Bool)):fB Tryz.prog 77 (YS p s_ u0) [] (fun r=>(.iV [(sI r.1),(sI r.2)])) (fun _=>[]) (nZ p s_ u0):=
  gJ tT mX Tryz.func77 (
  .rg {fr:=[(0,2),(1,3)],fz:=[2,3]} []<| .cl 2 (eH p s_) fun r_=> .r<| .r<| .it (.r<| .e (0,r_))
  (.r<| .it (.r<| .e (0,1))
  (.r<| .lp (σ:=Int) (β:=Unit) (0) [] [] ⟨[2,3,4],[],fun b=>[(9,(vI b))],fun b=>[]⟩ ⟨[2,3,4],[],fun _=>[],fun _=>[]⟩
  (fun b=> .r<| .it (.a2 (k10 b u0) ((gB [((at' u0 b.toNat),true)]=true→(0:Int)≤b∧b<(s_.badBus.length:Int)))<| .rg {} [0,1]<| .it (.r<| .e (.done (.ret (0,1))))
  (.r<| .e (.next (k4 b))))
  (.e (.done (.brk ()))))
  (fun _=> .cl 3 (uO p s_ u0) fun u1=> .r<| .e (u1,0)))))
theorem Fe (x:aA):fB Tryz.prog 78 (afr x) [] (fun r=>(vI r)) (fun _=>[]) (rq x):=
  gJ tT mX Tryz.func78 (
  .rg {fr:=[(0,1)],fz:=[1]} []<| .r<| .r<| .lp (σ:=(Int × Int)) (β:=Int) (0,0) [] [] ⟨[1],[],fun(n,r_)=>[(3,(vI n)),(4,(vI r_))],fun(n,r_)=>[]⟩ ⟨[],[],fun n1=>[(3,(vI n1))],fun n1=>[]⟩
  (fun(n,r_)=> .r<| .it (.a1 (DX x r_)<| .rg {} [0, .pf ⟨(0:Int)≤0∧(0:Int)<(2:Nat),(by decide)⟩,0, .pf ⟨(0:Int)≤1∧(1:Int)<(2:Nat),(by decide)⟩]<| .r<| .e (.next ((IntKind.wrap .i64 ((IntKind.wrap .i64 (n+((at' x.racks r_.toNat).e0)))+(Np x r_))),(k4 r_))))
  (.e (.done (.brk n))))
  (fun n1=> .r<| .e n1))
theorem CB (p:ah) (s_:State) (x:aA) (u0:(List Bool)):fB Tryz.prog 28 (acF p s_ x u0) [] (fun r=>(vI r)) (fun _=>[]) (lY p s_ x u0):=
  gJ tT mX Tryz.func28 (
  .rg {fr:=[(0,3),(1,4),(2,5)],fz:=[3,4,5]} []<| .cl 3 (qD p s_ x) fun r_=> .r<| .r<| .it (.r<| .e r_)
  (.cl 3 (BR p s_ u0) fun u1=> .r<| .cg 5 [((decide (u1.2=0)),true)] (Fe x) fun u2=> .r<| .it (.r<| .r<| .e 7)
  (.r<| .e u1.2)))
end
end Sg
