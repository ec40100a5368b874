import Derived.Test.YtpndenfhglaikaaGreatW2
set_option linter.all false
namespace Sg
open Go Go.Proofs
set_option maxRecDepth 20000
noncomputable section
theorem vL (p:ah) (s_:State) (u2:(List Bool)):fD Tryz.prog 79 (X7 p s_ u2) [] (fun r=>(.iP [(sI r.1),(sI r.2)])) (fun _=>[]) (lZ p s_ u2):=
  gI tT mX Tryz.func79 (
  .rg {fr:=[(0,4),(1,5)],fz:=[4,5]} []<| .cl 2 (eT p s_) fun r_=> .r<| .r<| .it (.r<| .e (0,r_))
  (.r<| .it (.r<| .e (0,1))
  (.r<| .lp (σ:=Int) (β:=Unit) (0) [] [] ⟨[2,3,4,25,26],[],fun u1=>[(27,(vI u1))],fun u1=>[]⟩ ⟨[2,3,4],[],fun _=>[],fun _=>[]⟩
  (fun u1=> .r<| .it (.a1 (k10 u1 u2)<| .r<| .a1 ((gB [((at' u2 u1.toNat),true)]=true→(0:Int)≤u1∧u1<(s_.badBus.length:Int)))<| .r<| .it (.r<| .e (.done (.ret (0,1))))
  (.r<| .e (.next (k4 u1))))
  (.e (.done (.brk ()))))
  (fun _=> .rg {fr:=[(0,6)]} []<| .cl 3 (xh p s_ u2) fun u0=> .r<| .cl 0 (BB [(0,7),(1,6)] (zf u0.1 u0.2.1 u0.2.2.1 u0.2.2.2.1 u0.2.2.2.2.1 u0.2.2.2.2.2.1 u0.2.2.2.2.2.2.1 u0.2.2.2.2.2.2.2.1 u0.2.2.2.2.2.2.2.2.1 u0.2.2.2.2.2.2.2.2.2.1 u0.2.2.2.2.2.2.2.2.2.2.1 u0.2.2.2.2.2.2.2.2.2.2.2 0)) fun u3=> .rf 7 [11] [] none 0 []<| .r<| .e (u3,0)))))
theorem CG:fD Tryz.prog 130 [] [] (fun _=>(vO 0 true 3)) (fun _=>[(0,some (.cells 228 [(.d (.fn 146 0 (yY []))),(.d (.fn 147 0 (yY []))),(.d (.fn 148 0 (yY [])))]))]) (zq):=
  gI tT mX Tryz.func130 (
  .r<| .rg {an:=[(3, .cells)],fr:=[(3,1)]} []<| .en () [] [(1,0)])
section
variable (p:ah) (s_:State) (x:aA) (u1:Int) (u0:Int)
abbrev TB:List SV:=[(.agg (k9 p)),(.agg (k11 s_)),(.agg (YE x))]
abbrev VB:=((0:Int)≤u1∧u1<(x.sources.length:Int))
abbrev Qd:=((0:Int)≤u0∧u0<(x.links.length:Int))
abbrev aeX:=((decide ((at' x.links u0.toNat)<(IntKind.wrap .i64 (0 - (IW p u0))))),false)
end
theorem Fb (p:ah) (s_:State) (x:aA):fD Tryz.prog 146 (TB p s_ x) [] (fun r=>(vB r)) (fun _=>[]) (qL p s_ x):=
  gI tT mX Tryz.func146 (
  .rg {fr:=[(0,3),(1,4),(2,5)],fz:=[3,4,5]} []<| .r<| .lp (σ:=Int) (β:=Unit) (0) [] [] ⟨[3,4,5,12,13],[],fun u1=>[(14,(vI u1))],fun u1=>[]⟩ ⟨[3,4,5],[],fun _=>[],fun _=>[]⟩
  (fun u1=> .r<| .it (.a1 (VB x u1)<| .r<| .cg 19 [((decide (0<(at' x.sources u1.toNat))),true),((bif (decide ((at' x.sources u1.toNat)<0))then true else(decide ((UD p u1)<(at' x.sources u1.toNat)))),false)] (iK p s_ u1) fun r_=> .a1 ((gB [((decide ((at' x.sources u1.toNat)<0)),false)]=true→(0:Int)≤u1∧u1<(p.sources.length:Int)))<| .rg {} [0,1]<| .it (.r<| .e (.done (.ret false)))
  (.r<| .e (.next (k4 u1))))
  (.e (.done (.brk ()))))
  (fun _=> .r<| .lp (σ:=Int) (β:=Unit) (0) [] [] ⟨[3,4,44,45],[],fun u0=>[(46,(vI u0))],fun u0=>[]⟩ ⟨[],[],fun _=>[],fun _=>[]⟩
  (fun u0=> .r<| .it (.a1 (Qd x u0)<| .r<| .cg 26 [((!decide ((at' x.links u0.toNat)=0)),true),((bif (decide ((at' x.links u0.toNat)<(IntKind.wrap .i64 (0 - (IW p u0)))))then true else(decide ((IW p u0)<(at' x.links u0.toNat)))),false)] (fq p s_ u0) fun u2=> .a2 (Qv p u0) ((gB [(aeX p x u0)]=true→(0:Int)≤u0∧u0<(p.links.length:Int)))<| .rg {} [0,1,2]<| .it (.r<| .e (.done (.ret false)))
  (.r<| .e (.next (k4 u0))))
  (.e (.done (.brk ()))))
  (fun _=> .r<| .e true)))
section
variable (x:aA) (u0:Int) (u1:Int) (p:ah)
abbrev SB:=(at' [(at' x.racks u0.toNat).e0,(at' x.racks u0.toNat).e1] u1.toNat)
abbrev aao:=((decide (0<(SB x u0 u1))),true)
abbrev abY:=((bif (decide ((SB x u0 u1)<0))then true else(decide (((at' p.racks u0.toNat).power)<(SB x u0 u1)))),false)
abbrev rZ:=((at' p.racks u0.toNat).feeds)
abbrev acZ:=((gB [((decide ((SB x u0 u1)<0)),false)]=true→(0:Int)≤u0∧u0<(p.racks.length:Int)))
abbrev afa:=((gB [(aao x u0 u1),(abY x u0 u1 p)]=true→(0:Int)≤u0∧u0<(p.racks.length:Int)))
end
theorem Hl (p:ah) (s_:State) (x:aA):fD Tryz.prog 147 (TB p s_ x) [] (fun r=>(vB r)) (fun _=>[]) (vk p s_ x):=
  gI tT mX Tryz.func147 (
  .rg {fr:=[(0,7),(1,8),(2,9)],fz:=[7,8]} []<| .r<| .lp (σ:=Int) (β:=Unit) (0) [] [] ⟨[3,4,12,13],[],fun u0=>[(14,(vI u0))],fun u0=>[]⟩ ⟨[],[],fun _=>[],fun _=>[]⟩
  (fun u0=> .r<| .it (.a1 (EP x u0)<| .rg {fr:=[(3,13)],fz:=[13]} []<| .r<| .lp (σ:=Int) (β:=Unit) (0) [] [] ⟨[3,4,7,8,12,13,14,19],[],fun u1=>[(20,(vI u1))],fun u1=>[]⟩ ⟨[3,4,7,8,12,13,14],[],fun _=>[],fun _=>[]⟩
  (fun u1=> .r<| .it (.a1 ((0:Int)≤u1∧u1<((2:Nat):Int))<| .rg {an:=[(1, .vals [(.int .i64 (SB x u0 u1))])]} [0, .dv 0 ⟨(0:Int)≤u1∧u1<((2:Nat):Int),u1.toNat*1+1≤[(cI ((at' x.racks u0.toNat).e0)),(cI (Ma x u0))].length,fun ax=>Tx (n:=2) (sz:=1) (Nat.le_refl _) ax⟩, .dv 0 ⟨(0:Int)≤u1∧u1<((2:Nat):Int),([(cI ((at' x.racks u0.toNat).e0)),(cI (Ma x u0))].drop (u1.toNat*1)).take 1=[(.int .i64 (SB x u0 u1))].map .d,fun ax=>Sj (n:=2) (sz:=1) (g:=fun q=>[(cI (at' [(at' x.racks u0.toNat).e0,(at' x.racks u0.toNat).e1] q))]) (by intro q hq;match q,hq with|0,_=>rfl|1,_=>rfl) ax⟩]<| .fk (decide (u1=0)) (.si 9 u1 0 0<| .si 20 u1 0 0<| .cg 25 [(aao x u0 u1),(abY x u0 u1 p)] (jR s_ ((rZ u0 p).e0)) fun r_=> .a2 (acZ x u0 u1 p) (afa x u0 u1 p)<| .rg {} [0,1, .pf ⟨(0:Int)≤0∧(0:Int)<(2:Nat),(by decide)⟩,2]<| .it (.r<| .e (.done (.ret (.done (.ret false)))))
  (.r<| .e (.next 1)))
  (.a1 (u1=1)<| .sj 9 u1 1 0<| .sj 20 u1 1 0<| .cg 25 [(aao x u0 u1),(abY x u0 u1 p)] (jR s_ ((rZ u0 p).e1)) fun u2=> .a2 (acZ x u0 u1 p) (afa x u0 u1 p)<| .rg {} [0,1, .pf ⟨(0:Int)≤1∧(1:Int)<(2:Nat),(by decide)⟩,2]<| .it (.r<| .e (.done (.ret (.done (.ret false)))))
  (.r<| .e (.next 2))))
  (.e (.done (.brk ()))))
  (fun _=> .a1 (Ej u0 p)<| .rg {} [.pf ⟨(0:Int)≤0∧(0:Int)<(2:Nat),(by decide)⟩, .pf ⟨(0:Int)≤1∧(1:Int)<(2:Nat),(by decide)⟩,0]<| .it (.r<| .e (.done (.ret false)))
  (.r<| .e (.next (k4 u0)))))
  (.e (.done (.brk ()))))
  (fun _=> .r<| .e true))
theorem AR (n:Int):fD Tryz.prog 154 [(sI n)] [] (fun r=>(vB r)) (fun _=>[]) (qQ n):=
  gI tT mX Tryz.func154 (
  .r<| .r<| .e (!decide (n=0)))
section
variable (s_:(List Int))
abbrev Rh:List (Nat × Option Ob):=[(0,some (Fw s_))]
end
theorem vv (s_:(List Int)):fD Tryz.prog 128 [(.one (.own 0 true s_.length)),(sD (.fn 154 0 (yY [])))] (Rh s_) (fun r=>(vI r)) (fun r=>(Rh s_)) (jZ s_):=
  gI tT mX Tryz.func128 (
  .r<| .r<| .lp (σ:=Int) (β:=Unit) (0) [] [] ⟨[0,1,7],[0],fun t8=>[(8,(vI t8))],fun t8=>[]⟩ ⟨[],[0],fun _=>[],fun _=>[]⟩
  (fun t8=> .r<| .it (.r<| .cl 5 (AR (at' s_ t8.toNat)) fun r_=> .a1 (Nz s_ t8)<| .rg {} [0, .t 0 t8 s_.length,1]<| .it (.r<| .e (.done (.ret t8)))
  (.r<| .e (.next (k4 t8))))
  (.e (.done (.brk ()))))
  (fun _=> .r<| .e (-1)))
theorem uo (s_:(List Int)):fD Tryz.prog 100 [(.one (.own 0 true s_.length)),(sD (.fn 154 0 (yY [])))] (Rh s_) (fun r=>(vB r)) (fun r=>(Rh s_)) (dY s_):=
  gI tT mX Tryz.func100 (
  .r<| .cr 2 (vv s_) fun r_=> .r<| .e (decide (0≤r_)))
section
variable (p:ah) (u6:(List Int)) (u5:Int) (x:aA) (u2:(List Int)) (u0:Int) (u1:Int) (u3:Int) (u4:(List Int))
abbrev VG:=(List.replicate p.buses.toNat (0:Int))
abbrev Oi:List (Nat × Option Ob):=[(11,some (Fw u6))]
abbrev aa2:=(u6.set ((UH p u5).toNat) (IntKind.wrap .i64 ((at' u6 ((UH p u5).toNat))+(at' x.sources u5.toNat))))
abbrev aec:=(au (aG .i64) (aa2 p u6 u5 x))
abbrev PL:=(u2.set (k49 u0 p) (IntKind.wrap .i64 ((at' u2 (k49 u0 p)) - (at' x.links u0.toNat))))
abbrev Z5:=(au (aG .i64) (PL p x u2 u0))
abbrev acU:=(IntKind.wrap .i64 ((at' (PL p x u2 u0) (k52 u0 p))+(at' x.links u0.toNat)))
abbrev aau:=((PL p x u2 u0).set (k52 u0 p) (acU p x u2 u0))
abbrev ae3:=(au (aG .i64) (aau p x u2 u0))
abbrev acz:=((PL p x u2 u0).length)
abbrev MO:=(at' [(rZ u1 p).e0,(rZ u1 p).e1] u3.toNat)
abbrev ade:=((0:Int)≤(MO p u1 u3)∧(MO p u1 u3)<(u4.length:Int))
abbrev Un:=((MO p u1 u3).toNat)
abbrev afV:=(IntKind.wrap .i64 ((at' u4 (Un p u1 u3)) - ((at' x.racks u1.toNat).e0)))
abbrev Z6:=(u4.set (Un p u1 u3) (afV p x u1 u3 u4))
abbrev adW:=(au (aG .i64) (Z6 p x u1 u3 u4))
abbrev acS:=(IntKind.wrap .i64 ((at' u4 (Un p u1 u3)) - (Ma x u1)))
abbrev abG:=(u4.set (Un p u1 u3) (acS p x u1 u3 u4))
abbrev aeh:=(au (aG .i64) (abG p x u1 u3 u4))
end
theorem Cz (p:ah) (s_:State) (x:aA):fD Tryz.prog 148 (TB p s_ x) [] (fun r=>(vB r)) (fun _=>[]) (pV p s_ x):=
  gI tT mX Tryz.func148 (
  .rg {fr:=[(0,8),(1,9),(2,10)]} []<| .a3 ((0:Int)≤p.buses) ((8:Int)*p.buses≤281474976710656) (Tc p)<| .rg {an:=[(2, .arr (VG p).length (au (aG .i64) (VG p)))],fr:=[(2,11)]} [0, .e ((p.buses:Int)),1,2, .pf ⟨(VG p).length=p.buses.toNat,List.length_replicate⟩, .pf ⟨aC p.buses.toNat 1 (fun _ j=>[(.int .i64 0)].getD j .nilp) (au (aG .i64) (VG p)),aW _ _ _ _ _ (fun j hj=>(match j,hj with|0,_=>rfl))⟩]<| .r<| .lp (σ:=((List Int) × Int)) (β:=(List Int)) ((VG p),0) [] [] ⟨[3,5,20,21],[8,10],fun(u6,u5)=>[(7,(vO 11 true u6.length)),(22,(vI u5))],fun(u6,u5)=>(Oi u6)⟩ ⟨[3,5],[8,10],fun u8=>[(7,(vO 11 true u8.length))],fun u8=>(Oi u8)⟩
  (fun(u6,u5)=> .r<| .it (.a1 (VB x u5)<| .r<| .a2 (O3 u5 p) ((0:Int)≤(at' p.sources u5.toNat).bus∧(at' p.sources u5.toNat).bus<(u6.length:Int))<| .rg {an:=[(12, .arr 0 (aec p u6 u5 x))]} [0,1, .t 1 (UH p u5) u6.length,1, .t 1 (UH p u5) u6.length, .pf ⟨aC u6.length 1 (fe (au (aG .i64) u6) ((UH p u5).toNat) 0 [(.int .i64 (IntKind.wrap .i64 ((at' u6 ((UH p u5).toNat))+(at' x.sources u5.toNat))))]) (aec p u6 u5 x),aK _ _ _ _ _ _ _ _ rfl (fun j hj=>(match j,hj with|0,_=>rfl))⟩]<| .im (.ll 11 u6 (aa2 p u6 u5 x))<| .r<| .e (.next ((aa2 p u6 u5 x),(k4 u5))))
  (.e (.done (.brk u6))))
  (fun u8=> .r<| .lp (σ:=((List Int) × Int)) (β:=(List Int)) (u8,0) [] [] ⟨[3,5,41,42],[8,10],fun(u2,u0)=>[(7,(vO 11 true u2.length)),(43,(vI u0))],fun(u2,u0)=>(Oi u2)⟩ ⟨[3,5],[8,10],fun u9=>[(7,(vO 11 true u9.length))],fun u9=>(Oi u9)⟩
  (fun(u2,u0)=> .r<| .it (.a1 (Qd x u0)<| .r<| .a2 (Qv p u0) ((0:Int)≤(at' p.links u0.toNat).a∧(at' p.links u0.toNat).a<(u2.length:Int))<| .rg {an:=[(12, .arr 0 (Z5 p x u2 u0))]} [0,1, .t 1 (VE u0 p) u2.length,1, .t 1 (VE u0 p) u2.length, .pf ⟨aC u2.length 1 (fe (au (aG .i64) u2) (k49 u0 p) 0 [(.int .i64 (IntKind.wrap .i64 ((at' u2 (k49 u0 p)) - (at' x.links u0.toNat))))]) (Z5 p x u2 u0),aK _ _ _ _ _ _ _ _ rfl (fun j hj=>(match j,hj with|0,_=>rfl))⟩]<| .im (.ll 11 u2 (PL p x u2 u0))<| .a2 (Qv p u0) ((0:Int)≤(at' p.links u0.toNat).b∧(at' p.links u0.toNat).b<((PL p x u2 u0).length:Int))<| .rg {an:=[(12, .arr 0 (ae3 p x u2 u0))]} [0,1, .t 1 (Xm u0 p) (acz p x u2 u0),1, .t 1 (Xm u0 p) (acz p x u2 u0), .pf ⟨aC (PL p x u2 u0).length 1 (fe (Z5 p x u2 u0) (k52 u0 p) 0 [(.int .i64 (acU p x u2 u0))]) (ae3 p x u2 u0),aK _ _ _ _ _ _ _ _ rfl (fun j hj=>(match j,hj with|0,_=>rfl))⟩]<| .im (.ll 11 (PL p x u2 u0) (aau p x u2 u0))<| .r<| .e (.next ((aau p x u2 u0),(k4 u0))))
  (.e (.done (.brk u2))))
  (fun u9=> .rg {fz:=[8]} []<| .lp (σ:=((List Int) × Int)) (β:=(List Int)) (u9,0) [] [] ⟨[3,74,75],[],fun(u7,u1)=>[(7,(vO 11 true u7.length)),(76,(vI u1))],fun(u7,u1)=>(Oi u7)⟩ ⟨[],[],fun v0=>[(7,(vO 11 true v0.length))],fun v0=>(Oi v0)⟩
  (fun(u7,u1)=> .r<| .it (.a1 (EP x u1)<| .rg {fr:=[(3,15)],fz:=[15]} []<| .a1 (Ej u1 p)<| .r<| .lp (σ:=((List Int) × Int)) (β:=(List Int)) (u7,0) [] [] ⟨[3,13,74,75,76,86],[],fun(u4,u3)=>[(7,(vO 11 true u4.length)),(87,(vI u3))],fun(u4,u3)=>(Oi u4)⟩ ⟨[3,74,75,76],[],fun v1=>[(7,(vO 11 true v1.length))],fun v1=>(Oi v1)⟩
  (fun(u4,u3)=> .r<| .it (.a1 ((0:Int)≤u3∧u3<((2:Nat):Int))<| .rg {an:=[(1, .vals [(.int .i64 (MO p u1 u3))])]} [0, .dv 0 ⟨(0:Int)≤u3∧u3<((2:Nat):Int),u3.toNat*1+1≤[(cI ((rZ u1 p).e0)),(cI ((rZ u1 p).e1))].length,fun ax=>Tx (n:=2) (sz:=1) (Nat.le_refl _) ax⟩, .dv 0 ⟨(0:Int)≤u3∧u3<((2:Nat):Int),([(cI ((rZ u1 p).e0)),(cI ((rZ u1 p).e1))].drop (u3.toNat*1)).take 1=[(.int .i64 (MO p u1 u3))].map .d,fun ax=>Sj (n:=2) (sz:=1) (g:=fun q=>[(cI (at' [(rZ u1 p).e0,(rZ u1 p).e1] q))]) (by intro q hq;match q,hq with|0,_=>rfl|1,_=>rfl) ax⟩]<| .r<| .it (.fk (decide (u3=0)) (.si 14 u3 0 0<| .si 87 u3 0 0<| .a1 (ade p u1 u3 u4)<| .rg {an:=[(9, .arr 0 (adW p x u1 u3 u4))]} [0, .t 0 (MO p u1 u3) u4.length, .pf ⟨(0:Int)≤0∧(0:Int)<(2:Nat),(by decide)⟩,0, .t 0 (MO p u1 u3) u4.length, .pf ⟨aC u4.length 1 (fe (au (aG .i64) u4) (Un p u1 u3) 0 [(.int .i64 (afV p x u1 u3 u4))]) (adW p x u1 u3 u4),aK _ _ _ _ _ _ _ _ rfl (fun j hj=>(match j,hj with|0,_=>rfl))⟩]<| .im (.ll 11 u4 (Z6 p x u1 u3 u4))<| .r<| .e (.next ((Z6 p x u1 u3 u4),1)))
  (.a1 (u3=1)<| .sj 14 u3 1 0<| .sj 87 u3 1 0<| .a1 (ade p u1 u3 u4)<| .rg {an:=[(9, .arr 0 (aeh p x u1 u3 u4))]} [0, .t 0 (MO p u1 u3) u4.length, .pf ⟨(0:Int)≤1∧(1:Int)<(2:Nat),(by decide)⟩,0, .t 0 (MO p u1 u3) u4.length, .pf ⟨aC u4.length 1 (fe (au (aG .i64) u4) (Un p u1 u3) 0 [(.int .i64 (acS p x u1 u3 u4))]) (aeh p x u1 u3 u4),aK _ _ _ _ _ _ _ _ rfl (fun j hj=>(match j,hj with|0,_=>rfl))⟩]<| .im (.ll 11 u4 (abG p x u1 u3 u4))<| .r<| .e (.next ((abG p x u1 u3 u4),2))))
  (.r<| .e (.next (SY u4 u3))))
  (.e (.done (.brk u4))))
  (fun v1=> .r<| .e (.next (SY v1 u1))))
  (.e (.done (.brk u7))))
  (fun v0=> .cr 1 (BB [(0,11)] (uo v0)) fun r_=> .r<| .e (!r_)))))
theorem zy (p:ah) (s_:State) (x:aA):fD Tryz.prog 106 (TB p s_ x) [] (fun r=>(vI r)) (fun _=>[]) (kI p s_ x):=
  gI tT mX Tryz.func106 (
  .rg {fr:=[(0,7),(1,8),(2,9)],fz:=[7,8,9]} []<| .cl 2 (eT p s_) fun r_=> .r<| .r<| .it (.r<| .e r_)
  (.r<| .it (.r<| .e 20)
  (.cl 0 (BB [(0,10)] CG) fun u0=> .r<| .ul 11<| .r<| .t<| .a1 ((0:Int)≤0∧0<(3:Int))<| .rg {fr:=[(2,11)],fz:=[11]} []<| .cl 5 (Fb p s_ x) fun u1=> .r<| .it (.r<| .e 20)
  (.r<| .r<| .t<| .a1 ((0:Int)≤1∧1<(3:Int))<| .rg {fr:=[(2,12)],fz:=[12]} []<| .cl 5 (Hl p s_ x) fun u2=> .r<| .it (.r<| .e 20)
  (.r<| .r<| .t<| .a1 ((0:Int)≤2∧2<(3:Int))<| .rg {fr:=[(2,13)],fz:=[13]} []<| .cl 5 (Cz p s_ x) fun u3=> .r<| .it (.r<| .e 20)
  (.r<| .r<| .f<| .r<| .e 0))))))
section
variable (p:ah) (s_:State) (x:aA) (u0:(List Bool))
abbrev adG:List SV:=[(.agg (k9 p)),(.agg (k11 s_)),(.agg (YE x)),(sD (bM none 1 aj u0))]
end
theorem Fh (p:ah) (s_:State) (x:aA) (u0:(List Bool)):fD Tryz.prog 80 (adG p s_ x u0) [] (fun r=>(vI r)) (fun _=>[]) (nQ p s_ x u0):=
  gI tT mX Tryz.func80 (
  .rg {fr:=[(0,3),(1,4),(2,5)],fz:=[3,4,5]} []<| .cl 3 (zy p s_ x) fun r_=> .r<| .r<| .it (.r<| .e r_)
  (.cl 3 (vL p s_ u0) fun u1=> .r<| .cg 5 [((decide (u1.2=0)),true)] (kS x) fun u2=> .r<| .it (.r<| .r<| .e 7)
  (.r<| .e u1.2)))
section
variable (p3:(List aD)) (u0:(List Int)) (i:Int) (u1:(List aD))
abbrev ac9:List DV:=[(.int .i64 0),(.int .i64 1),(.int .i64 500),(.int .i64 0),(.int .i64 20),(.int .i64 2),(.int .i64 2),(.int .i64 300),(.int .i64 0),(.int .i64 40)]
abbrev Xy:List (Nat × Option Ob):=[(25,some (.cells 26 [(cI 3),(.own 23 true ([(⟨0,1,500,0,20⟩:Source),(⟨2,2,300,0,40⟩:Source)].length)),(.own 24 true ([(⟨0,1,3,400,10,([]:List gD)⟩:Link),(⟨1,2,3,400,10,([]:List gD)⟩:Link)].length)),(.own 27 false p3.length)])),(27,some (bZ 71 4 aD.cell p3))]
abbrev Jf:=(⟨(⟨1,(-1)⟩:af),(at' u0 i.toNat),1⟩:aD)
abbrev ZO:=(p3.length+[(Jf u0 i)].length)
abbrev ad3:=((ZO p3 u0 i)*32≤140737488355328)
abbrev Wp:=(au aD.cell [(Jf u0 i)])
abbrev Qc:=(p3++[(Jf u0 i)])
abbrev Xw:=(au aD.cell (Qc p3 u0 i))
abbrev afB:=(sV (au aD.cell p3) p3.length (Wp u0 i))
abbrev agd:=((⟨3,[(⟨0,1,500,0,20⟩:Source),(⟨2,2,300,0,40⟩:Source)],[(⟨0,1,3,400,10,([]:List gD)⟩:Link),(⟨1,2,3,400,10,([]:List gD)⟩:Link)],u1⟩:ah),(⟨[true,true],(List.replicate 2 (false:Bool)),(List.replicate 2 (false:Bool)),[true,true],(List.replicate 2 (false:Bool)),(List.replicate 3 (false:Bool)),(List.replicate 3 (false:Bool))⟩:State))
end
theorem sK (u0:(List Int)):fD Tryz.prog 23 [(.one (.own 0 true u0.length))] (Rh u0) (fun r=>(.iP [(.agg [(cI r.1.buses),(.d (bM none 5 Source.cell r.1.sources)),(.d (bM none 6 Link.cell r.1.links)),(.d (bM none 4 aD.cell r.1.racks))]),(.agg [(.d (bM none 1 aj r.2.closed)),(.d (bM none 1 aj r.2.locked)),(.d (bM none 1 aj r.2.badLink)),(.d (bM none 1 aj r.2.on_)),(.d (bM none 1 aj r.2.badSource)),(.d (bM none 1 aj r.2.earthed)),(.d (bM none 1 aj r.2.badBus))])])) (fun r=>(Rh u0)) (lW u0):=
  gI tT mX Tryz.func23 (
  .rg {fr:=[(0,21),(1,22)]} []<| .rg {an:=[(2, .arr [(⟨0,1,500,0,20⟩:Source),(⟨2,2,300,0,40⟩:Source)].length (au Source.cell [(⟨0,1,500,0,20⟩:Source),(⟨2,2,300,0,40⟩:Source)])),(5, .arr [(⟨0,1,3,400,10,([]:List gD)⟩:Link),(⟨1,2,3,400,10,([]:List gD)⟩:Link)].length (ou 6 [(.int .i64 0),(.int .i64 1),(.int .i64 3),(.int .i64 400),(.int .i64 10),nS,(.int .i64 1),(.int .i64 2),(.int .i64 3),(.int .i64 400),(.int .i64 10),nS]))],fr:=[(2,23),(5,24),(7,25)]} [.pf ⟨[(⟨0,1,500,0,20⟩:Source),(⟨2,2,300,0,40⟩:Source)].length=2,rfl⟩, .pf ⟨aC 2 5 (ou 5 ac9) (au Source.cell [(⟨0,1,500,0,20⟩:Source),(⟨2,2,300,0,40⟩:Source)]),(by intro i hi j hj;match i,j,hi,hj with|0,0,_,_=>rfl|0,1,_,_=>rfl|0,2,_,_=>rfl|0,3,_,_=>rfl|0,4,_,_=>rfl|1,0,_,_=>rfl|1,1,_,_=>rfl|1,2,_,_=>rfl|1,3,_,_=>rfl|1,4,_,_=>rfl)⟩, .pf ⟨[(⟨0,1,3,400,10,([]:List gD)⟩:Link),(⟨1,2,3,400,10,([]:List gD)⟩:Link)].length=2,rfl⟩, .pf ⟨aC 2 6 (ou 6 [(.int .i64 0),(.int .i64 1),(.int .i64 3),(.int .i64 400),(.int .i64 10),nS,(.int .i64 1),(.int .i64 2),(.int .i64 3),(.int .i64 400),(.int .i64 10),nS]) (ou 6 [(.int .i64 0),(.int .i64 1),(.int .i64 3),(.int .i64 400),(.int .i64 10),nS,(.int .i64 1),(.int .i64 2),(.int .i64 3),(.int .i64 400),(.int .i64 10),nS]),fI _ _ _⟩]<| .im (.uh 24 (some (.arr 66 6 [(⟨0,1,3,400,10,([]:List gD)⟩:Link),(⟨1,2,3,400,10,([]:List gD)⟩:Link)].length (ou 6 [(.int .i64 0),(.int .i64 1),(.int .i64 3),(.int .i64 400),(.int .i64 10),nS,(.int .i64 1),(.int .i64 2),(.int .i64 3),(.int .i64 400),(.int .i64 10),nS]))) (some (.arr 66 6 [(⟨0,1,3,400,10,([]:List gD)⟩:Link),(⟨1,2,3,400,10,([]:List gD)⟩:Link)].length (au Link.cell [(⟨0,1,3,400,10,([]:List gD)⟩:Link),(⟨1,2,3,400,10,([]:List gD)⟩:Link)]))) (Hu (by intro i hi j hj;match i,j,hi,hj with|0,0,_,_=>exact .refl _|0,1,_,_=>exact .refl _|0,2,_,_=>exact .refl _|0,3,_,_=>exact .refl _|0,4,_,_=>exact .refl _|0,5,_,_=>exact jL.nil'|1,0,_,_=>exact .refl _|1,1,_,_=>exact .refl _|1,2,_,_=>exact .refl _|1,3,_,_=>exact .refl _|1,4,_,_=>exact .refl _|1,5,_,_=>exact jL.nil')))<| .r<| .im (.P5 25 3 34 71 4 (au aD.cell ([]:List aD)))<| .lp (σ:=((List aD) × Int)) (β:=(List aD)) (([]:List aD),0) [] [(34,27)] ⟨[0,2,3,4],[0,21,22,23,24],fun(p3,i)=>[(5,(vI i))],fun(p3,i)=>(Xy p3)⟩ ⟨[2,3,4],[0,21,22,23,24],fun u1=>[],fun u1=>(Xy u1)⟩
  (fun(p3,i)=> .r<| .it (.r<| .a3 (Nz u0 i) (ad3 p3 u0 i) (p3.length+[(Jf u0 i)].length≤4611686018427387904)<| .rg {an:=[(7, .arr [(Jf u0 i)].length (Wp u0 i)),(8, .arr (Qc p3 u0 i).length (Xw p3 u0 i))],fr:=[(7,32),(8,33)]} [0, .t 0 i u0.length, .pf ⟨[(Jf u0 i)].length=1,rfl⟩, .pf ⟨aC 1 4 (ou 4 [(.int .i64 1),(.int .i64 (-1)),(.int .i64 (at' u0 i.toNat)),(.int .i64 1)]) (Wp u0 i),(by intro i hi j hj;match i,j,hi,hj with|0,0,_,_=>rfl|0,1,_,_=>rfl|0,2,_,_=>rfl|0,3,_,_=>rfl)⟩, .e (p3.length),1,2, .pf ⟨(Qc p3 u0 i).length=p3.length+[(Jf u0 i)].length,List.length_append⟩, .pf ⟨aC (ZO p3 u0 i) 4 (afB p3 u0 i) (Xw p3 u0 i),dw _ _ _ _⟩]<| .r<| .en (.next ((Qc p3 u0 i),(k4 i))) [] [(33,27)])
  (.e (.done (.brk p3))))
  (fun u1=> .a6 ((0:Int)≤2) ((1:Int)*2≤281474976710656) ((2:Int)≤9223372036854775807) ((0:Int)≤3) ((1:Int)*3≤281474976710656) ((3:Int)≤9223372036854775807)<| .rg {an:=[(1, .arr [true,true].length (au aj [true,true])),(2, .arr (List.replicate 2 (false:Bool)).length (au aj (List.replicate 2 (false:Bool)))),(3, .arr (List.replicate 2 (false:Bool)).length (au aj (List.replicate 2 (false:Bool)))),(4, .arr [true,true].length (au aj [true,true])),(5, .arr (List.replicate 2 (false:Bool)).length (au aj (List.replicate 2 (false:Bool)))),(6, .arr (List.replicate 3 (false:Bool)).length (au aj (List.replicate 3 (false:Bool)))),(7, .arr (List.replicate 3 (false:Bool)).length (au aj (List.replicate 3 (false:Bool))))],fr:=[(1,35),(2,36),(3,37),(4,38),(5,39),(6,40),(7,41)],fz:=[23,24,27,35,36,37,38,39,40,41]} [.pf ⟨[true,true].length=2,rfl⟩, .pf ⟨aC 2 1 (ou 1 [(.bool true),(.bool true)]) (au aj [true,true]),(by intro i hi j hj;match i,j,hi,hj with|0,0,_,_=>rfl|1,0,_,_=>rfl)⟩,0, .e ((2:Int)),1,2, .pf ⟨(List.replicate 2 (false:Bool)).length=2,List.length_replicate⟩, .pf ⟨aC 2 1 (fun _ j=>[(.bool false)].getD j .nilp) (au aj (List.replicate 2 (false:Bool))),aW _ _ _ _ _ (fun j hj=>(match j,hj with|0,_=>rfl))⟩,0, .e ((2:Int)),1,2, .pf ⟨(List.replicate 2 (false:Bool)).length=2,List.length_replicate⟩, .pf ⟨aC 2 1 (fun _ j=>[(.bool false)].getD j .nilp) (au aj (List.replicate 2 (false:Bool))),aW _ _ _ _ _ (fun j hj=>(match j,hj with|0,_=>rfl))⟩, .pf ⟨[true,true].length=2,rfl⟩, .pf ⟨aC 2 1 (ou 1 [(.bool true),(.bool true)]) (au aj [true,true]),(by intro i hi j hj;match i,j,hi,hj with|0,0,_,_=>rfl|1,0,_,_=>rfl)⟩,0, .e ((2:Int)),1,2, .pf ⟨(List.replicate 2 (false:Bool)).length=2,List.length_replicate⟩, .pf ⟨aC 2 1 (fun _ j=>[(.bool false)].getD j .nilp) (au aj (List.replicate 2 (false:Bool))),aW _ _ _ _ _ (fun j hj=>(match j,hj with|0,_=>rfl))⟩,3, .e ((3:Int)),4,5, .pf ⟨(List.replicate 3 (false:Bool)).length=3,List.length_replicate⟩, .pf ⟨aC 3 1 (fun _ j=>[(.bool false)].getD j .nilp) (au aj (List.replicate 3 (false:Bool))),aW _ _ _ _ _ (fun j hj=>(match j,hj with|0,_=>rfl))⟩,3, .e ((3:Int)),4,5, .pf ⟨(List.replicate 3 (false:Bool)).length=3,List.length_replicate⟩, .pf ⟨aC 3 1 (fun _ j=>[(.bool false)].getD j .nilp) (au aj (List.replicate 3 (false:Bool))),aW _ _ _ _ _ (fun j hj=>(match j,hj with|0,_=>rfl))⟩]<| .fz [21,22]<| .e (agd u1)))
section
variable (u1:(aA × (List Bool) × Int)) (u7:(Int × Int)) (u4:((List Part) × Int))
abbrev acG:=(bif (bif (!decide (u1.2.2=0))then true else(!decide (u7.2=0)))then true else(!decide (u4.2=0)))
abbrev Ox:List DV:=[(.int .i64 0),(.int .i64 30),(.int .i64 13334),(bM (some true) 1 (aG .i64) [0]),(.int .i64 1),(.int .i64 50),(.int .i64 8000),(bM (some true) 1 (aG .i64) [1])]
abbrev aez:List (Nat × Option Ob):=[(18,some (.arr 103 4 [(⟨0,30,13334,[0]⟩:Short),(⟨1,50,8000,[1]⟩:Short)].length (ou 4 Ox)))]
end
theorem gM:fD Tryz.prog 29 [] [] (fun r=>(vB r)) (fun _=>[]) (fF):=
  gI tT mX Tryz.func29 (
  .r<| .cr 1 (BB [(0,8)] (sK [100])) fun r_=> .rg {an:=[(0, .arr [100].length (au (aG .i64) [100]))],fr:=[(0,8),(5,9),(6,10)]} [.pf ⟨[100].length=1,rfl⟩, .pf ⟨aC 1 1 (ou 1 [(.int .i64 100)]) (au (aG .i64) [100]),(by intro i hi j hj;match i,j,hi,hj with|0,0,_,_=>rfl)⟩,0]<| .cl 2 ⟨fun h=>zX r_.1 r_.2 h⟩ fun u2=> .rg {fr:=[(7,11)]} []<| .cl 2 (Br r_.1 r_.2) fun u6=> .r<| .cg 8 [((bif (!decide (u2.2.2=0))then true else(!decide (u6.2=0))),false)] (kS u2.1) fun v3=> .fk (bif (bif (bif (!decide (u2.2.2=0))then true else(!decide (u6.2=0)))then true else(!decide (v3=100)))then true else(!u6.1)) (.rg {ov:=[(15,true,0)],sk:=[16,17,18,19]} [1]<| .t<| .r<| .e false)
  (.cr 18 ⟨fun{v2} hr_4=>((Fn.Ep (frz:=[12]) (p:=[[true,true,true].length=[true,true,true].length]) (Fn.le (args':=[(sD (bM none 1 aj u2.2.1)),(sD (bM (some true) 1 aj [true,true,true]))]) (bW u2.2.1 [true,true,true] hr_4) (by exact⟨uI.refl _,uI.one (gV.d jL.rX),trivial⟩)) (by kernel_rfl) ⟨rfl,trivial⟩ rfl):Fn Tryz.prog 52 [(sD (bM none 1 aj u2.2.1)),(.one (.own 12 true ([true,true,true].length)))] [(12,some (bZ 4 1 aj [true,true,true]))] (vB v2) [(12,some (bZ 4 1 aj [true,true,true]))])⟩ fun v2=> .rg {an:=[(17, .arr [true,true,true].length (au aj [true,true,true]))],fr:=[(17,12)],ov:=[(15,false,1)]} [2, .pf ⟨[true,true,true].length=3,rfl⟩, .pf ⟨aC 3 1 (ou 1 [(.bool true),(.bool true),(.bool true)]) (au aj [true,true,true]),(by intro i hi j hj;match i,j,hi,hj with|0,0,_,_=>rfl|1,0,_,_=>rfl|2,0,_,_=>rfl)⟩, .k 0]<| .it (.r<| .e false)
  (.cr 1 (BB [(0,13)] (sK [300,600])) fun u0=> .rg {an:=[(0, .arr [300,600].length (au (aG .i64) [300,600]))],fr:=[(0,13)],fz:=[9,10]} [.pf ⟨[300,600].length=2,rfl⟩, .pf ⟨aC 2 1 (ou 1 [(.int .i64 300),(.int .i64 600)]) (au (aG .i64) [300,600]),(by intro i hi j hj;match i,j,hi,hj with|0,0,_,_=>rfl|1,0,_,_=>rfl)⟩,0]<| .cl 2 ⟨fun h=>zX u0.1 u0.2 h⟩ fun u1=> .rg {fz:=[11]} []<| .cl 3 (vL u0.1 u0.2 u1.2.1) fun u7=> .r<| .cl 2 (zW u0.1 u0.2) fun u4=> .r<| .cg 12 [((acG u1 u7 u4),false)] (kS u1.1) fun v4=> .fk (bif (bif (acG u1 u7 u4)then true else(!decide (v4=700)))then true else(!decide (u7.1=700))) (.rg {ov:=[(19,true,0)],sk:=[20,21,22,23,26,27,28,29,30,31,34,35,36,37,38,39]} [1]<| .t<| .r<| .e false)
  (.cr 22 ⟨fun{u8} hr_10=>((Fn.Ep (frz:=[14]) (p:=[[true,false,false].length=[true,false,false].length]) (Fn.le (args':=[(sD (bM none 1 aj u1.2.1)),(sD (bM (some true) 1 aj [true,false,false]))]) (bW u1.2.1 [true,false,false] hr_10) (by exact⟨uI.refl _,uI.one (gV.d jL.rX),trivial⟩)) (by kernel_rfl) ⟨rfl,trivial⟩ rfl):Fn Tryz.prog 52 [(sD (bM none 1 aj u1.2.1)),(.one (.own 14 true ([true,false,false].length)))] [(14,some (bZ 4 1 aj [true,false,false]))] (vB u8) [(14,some (bZ 4 1 aj [true,false,false]))])⟩ fun u8=> .fk (!u8) (.rg {an:=[(21, .arr [true,false,false].length (au aj [true,false,false]))],fr:=[(21,14)],ov:=[(19,false,2),(25,true,0)],sk:=[26,27,28,29,30,31,34,35,36,37,38,39]} [3, .pf ⟨[true,false,false].length=3,rfl⟩, .pf ⟨aC 3 1 (ou 1 [(.bool true),(.bool false),(.bool false)]) (au aj [true,false,false]),(by intro i hi j hj;match i,j,hi,hj with|0,0,_,_=>rfl|1,0,_,_=>rfl|2,0,_,_=>rfl)⟩, .k 1]<| .t<| .r<| .e false)
  (.cr 30 ⟨fun{u9} hr_11=>((Fn.Ep (frz:=[15]) (p:=[[(⟨2,1⟩:Part),(⟨3,0⟩:Part)].length=[(⟨2,1⟩:Part),(⟨3,0⟩:Part)].length]) (Fn.le (args':=[(sD (bM none 2 Part.cell u4.1)),(sD (bM (some true) 2 Part.cell [(⟨2,1⟩:Part),(⟨3,0⟩:Part)]))]) (vG u4.1 [(⟨2,1⟩:Part),(⟨3,0⟩:Part)] hr_11) (by exact⟨uI.refl _,uI.one (gV.d jL.rX),trivial⟩)) (by kernel_rfl) ⟨rfl,trivial⟩ rfl):Fn Tryz.prog 64 [(sD (bM none 2 Part.cell u4.1)),(.one (.own 15 true ([(⟨2,1⟩:Part),(⟨3,0⟩:Part)].length)))] [(15,some (bZ 112 2 Part.cell [(⟨2,1⟩:Part),(⟨3,0⟩:Part)]))] (vB u9) [(15,some (bZ 112 2 Part.cell [(⟨2,1⟩:Part),(⟨3,0⟩:Part)]))])⟩ fun u9=> .cg 38 [((!u9),false)] (Fh u0.1 u0.2 u1.1 u1.2.1) fun v5=> .rg {an:=[(21, .arr [true,false,false].length (au aj [true,false,false])),(29, .arr [(⟨2,1⟩:Part),(⟨3,0⟩:Part)].length (au Part.cell [(⟨2,1⟩:Part),(⟨3,0⟩:Part)]))],fr:=[(21,14),(29,15)],ov:=[(19,false,4),(25,false,2)]} [5, .pf ⟨[true,false,false].length=3,rfl⟩, .pf ⟨aC 3 1 (ou 1 [(.bool true),(.bool false),(.bool false)]) (au aj [true,false,false]),(by intro i hi j hj;match i,j,hi,hj with|0,0,_,_=>rfl|1,0,_,_=>rfl|2,0,_,_=>rfl)⟩, .k 3, .pf ⟨[(⟨2,1⟩:Part),(⟨3,0⟩:Part)].length=2,rfl⟩, .pf ⟨aC 2 2 (ou 2 [(.int .i64 2),(.int .i64 1),(.int .i64 3),(.int .i64 0)]) (au Part.cell [(⟨2,1⟩:Part),(⟨3,0⟩:Part)]),(by intro i hi j hj;match i,j,hi,hj with|0,0,_,_=>rfl|0,1,_,_=>rfl|1,0,_,_=>rfl|1,1,_,_=>rfl)⟩, .k 1,0]<| .it (.r<| .e false)
  (.cl 2 (yA u0.1 u0.2 1) fun u5=> .r<| .cl 2 (rD u0.1 u5.1) fun u3=> .r<| .fk (bif (decide (u5.2=0))then(decide (u3.2.2=0))else false) (.cr 13 ⟨fun{v0} hr_15=>((Fn.Ep (frz:=[18]) (p:=[[(⟨0,30,13334,[0]⟩:Short),(⟨1,50,8000,[1]⟩:Short)].length=[(⟨0,30,13334,[0]⟩:Short),(⟨1,50,8000,[1]⟩:Short)].length]) (Fn.le (args':=[(sD (bM none 4 Short.cell u5.1)),(sD (.sl (some true) 4 [(⟨0,30,13334,[0]⟩:Short),(⟨1,50,8000,[1]⟩:Short)].length (ou 4 Ox)))]) (sN u5.1 [(⟨0,30,13334,[0]⟩:Short),(⟨1,50,8000,[1]⟩:Short)] hr_15) (by exact⟨uI.refl _,uI.one (gV.d (jL.sl (.inl rfl) (by intro i hi j hj;match i,j,hi,hj with|0,0,_,_=>exact .refl _|0,1,_,_=>exact .refl _|0,2,_,_=>exact .refl _|0,3,_,_=>exact jL.rX|1,0,_,_=>exact .refl _|1,1,_,_=>exact .refl _|1,2,_,_=>exact .refl _|1,3,_,_=>exact jL.rX))),trivial⟩)) (by kernel_rfl) ⟨rfl,trivial⟩ rfl):Fn Tryz.prog 69 [(sD (bM none 4 Short.cell u5.1)),(.one (.own 18 true ([(⟨0,30,13334,[0]⟩:Short),(⟨1,50,8000,[1]⟩:Short)].length)))] aez (vB v0) aez)⟩ fun v0=> .fk v0 (.cr 18 ⟨fun{v1} hr_16=>((Fn.Ep (frz:=[19]) (p:=[[13334,8000].length=[13334,8000].length]) (Fn.le (args':=[(sD (bM (some u3.2.1) 1 (aG .i64) u3.1)),(sD (bM (some true) 1 (aG .i64) [13334,8000]))]) (rq u3.1 [13334,8000] hr_16) (by exact⟨uI.one (gV.d jL.rX),uI.one (gV.d jL.rX),trivial⟩)) (by kernel_rfl) ⟨rfl,trivial⟩ rfl):Fn Tryz.prog 18 [(sD (bM (some u3.2.1) 1 (aG .i64) u3.1)),(.one (.own 19 true ([13334,8000].length)))] [(19,some (bZ 3 1 (aG .i64) [13334,8000]))] (vB v1) [(19,some (bZ 3 1 (aG .i64) [13334,8000]))])⟩ fun v1=> .rg {an:=[(8, .frz [0].length (au (aG .i64) [0])),(10, .frz [1].length (au (aG .i64) [1])),(12, .arr [(⟨0,30,13334,[0]⟩:Short),(⟨1,50,8000,[1]⟩:Short)].length (ou 4 Ox)),(17, .arr [13334,8000].length (au (aG .i64) [13334,8000]))],fr:=[(12,18),(17,19)],ov:=[(6,true,3),(15,true,1)]} [.pf ⟨[0].length=1,rfl⟩, .pf ⟨aC 1 1 (ou 1 [(.int .i64 0)]) (au (aG .i64) [0]),(by intro i hi j hj;match i,j,hi,hj with|0,0,_,_=>rfl)⟩, .pf ⟨[1].length=1,rfl⟩, .pf ⟨aC 1 1 (ou 1 [(.int .i64 1)]) (au (aG .i64) [1]),(by intro i hi j hj;match i,j,hi,hj with|0,0,_,_=>rfl)⟩, .pf ⟨[(⟨0,30,13334,[0]⟩:Short),(⟨1,50,8000,[1]⟩:Short)].length=2,rfl⟩, .pf ⟨aC 2 4 (ou 4 Ox) (ou 4 Ox),fI _ _ _⟩, .k 2, .pf ⟨[13334,8000].length=2,rfl⟩, .pf ⟨aC 2 1 (ou 1 [(.int .i64 13334),(.int .i64 8000)]) (au (aG .i64) [13334,8000]),(by intro i hi j hj;match i,j,hi,hj with|0,0,_,_=>rfl|1,0,_,_=>rfl)⟩, .k 0]<| .e v1)
  (.rg {an:=[(8, .frz [0].length (au (aG .i64) [0])),(10, .frz [1].length (au (aG .i64) [1])),(12, .arr [(⟨0,30,13334,[0]⟩:Short),(⟨1,50,8000,[1]⟩:Short)].length (ou 4 Ox))],fr:=[(12,18)],ov:=[(6,true,2),(15,false,0)],sk:=[16,17,18]} [.pf ⟨[0].length=1,rfl⟩, .pf ⟨aC 1 1 (ou 1 [(.int .i64 0)]) (au (aG .i64) [0]),(by intro i hi j hj;match i,j,hi,hj with|0,0,_,_=>rfl)⟩, .pf ⟨[1].length=1,rfl⟩, .pf ⟨aC 1 1 (ou 1 [(.int .i64 1)]) (au (aG .i64) [1]),(by intro i hi j hj;match i,j,hi,hj with|0,0,_,_=>rfl)⟩, .pf ⟨[(⟨0,30,13334,[0]⟩:Short),(⟨1,50,8000,[1]⟩:Short)].length=2,rfl⟩, .pf ⟨aC 2 4 (ou 4 Ox) (ou 4 Ox),fI _ _ _⟩, .k 1]<| .e false))
  (.rg {ov:=[(6,false,0)],sk:=[7,8,9,10,11,12,13,16,17,18]} []<| .e false)))))))
theorem GH (p:ah) (x:Link):fD Tryz.prog 81 [(.agg (k9 p)),(.agg (k0 x))] [] (fun r=>(vB r)) (fun _=>[]) (uS p x):=
  gI tT mX Tryz.func81 (
  .rg {fr:=[(0,6),(1,7)],fz:=[6]} []<| .r<| .it (.r<| .e false)
  (.r<| .it (.r<| .e false)
  (.r<| .lp (σ:=Int) (β:=Unit) (0) [] [] ⟨[3],[7],fun i=>[(5,(vI i))],fun i=>[]⟩ ⟨[],[],fun _=>[],fun _=>[]⟩
  (fun i=> .r<| .it (.a1 ((0:Int)≤i∧i<(x.trip.length:Int))<| .rg {fr:=[(5,11)],fz:=[11]} []<| .r<| .it (.r<| .e (.done (.ret false)))
  (.a2 ((gB [((decide (0<i)),true)]=true→(0:Int)≤(k16 i)∧(k16 i)<(x.trip.length:Int))) ((gB [(k20 x i),((decide (0<i)),true)]=true→(0:Int)≤(k16 i)∧(k16 i)<(x.trip.length:Int)))<| .rg {} [0,1]<| .it (.r<| .e (.done (.ret false)))
  (.r<| .e (.next (k4 i)))))
  (.e (.done (.brk ()))))
  (fun _=> .r<| .e true))))
theorem oh (p:ah):fD Tryz.prog 30 (k14 p) [] (fun r=>(vI r)) (fun _=>[]) (ko p):=
  gI tT mX Tryz.func30 (
  .rg {fr:=[(0,9)]} []<| .r<| .it (.r<| .e 10)
  (.r<| .it (.r<| .e 11)
  (.r<| .lp (σ:=Int) (β:=Unit) (0) [] [] ⟨[1],[9],fun i=>[(3,(vI i))],fun i=>[]⟩ ⟨[1],[9],fun _=>[],fun _=>[]⟩
  (fun i=> .r<| .it (.a1 (O3 i p)<| .rg {fr:=[(5,13)],fz:=[13]} []<| .r<| .it (.r<| .e (.done (.ret 11)))
  (.r<| .e (.next (k4 i))))
  (.e (.done (.brk ()))))
  (fun _=> .r<| .it (.r<| .e 12)
  (.r<| .lp (σ:=Int) (β:=Unit) (0) [] [] ⟨[1],[9],fun i1=>[(5,(vI i1))],fun i1=>[]⟩ ⟨[1],[9],fun _=>[],fun _=>[]⟩
  (fun i1=> .r<| .it (.cl 6 (GH p (at' p.links i1.toNat)) fun r_=> .a1 (Qv p i1)<| .rg {} [0,1]<| .it (.r<| .e (.done (.ret 12)))
  (.r<| .e (.next (k4 i1))))
  (.e (.done (.brk ()))))
  (fun _=> .r<| .it (.r<| .e 13)
  (.r<| .lp (σ:=Int) (β:=Unit) (0) [] [] ⟨[1],[9],fun i2=>[(6,(vI i2))],fun i2=>[]⟩ ⟨[],[],fun _=>[],fun _=>[]⟩
  (fun i2=> .r<| .it (.a1 (Ej i2 p)<| .rg {fr:=[(5,17)],fz:=[17]} []<| .rg {} [.pf ⟨(0:Int)≤0∧(0:Int)<(2:Nat),(by decide)⟩, .pf ⟨(0:Int)≤1∧(1:Int)<(2:Nat),(by decide)⟩]<| .r<| .r<| .it (.r<| .r<| .it (.r<| .e (.done (.ret 13)))
  (.r<| .e (.next (k4 i2))))
  (.r<| .it (.r<| .e (.done (.ret 13)))
  (.r<| .e (.next (k4 i2)))))
  (.e (.done (.brk ()))))
  (fun _=> .r<| .e 0))))))))
theorem FH (p:ah) (s_:State):fD Tryz.prog 87 (WQ p s_) [] (fun r=>(vB r)) (fun _=>[]) (tY p s_):=
  gI tT mX Tryz.func87 (
  .rg {fr:=[(0,2),(1,3)],fz:=[2,3]} []<| .r<| .r<| .it (.r<| .e false)
  (.r<| .lp (σ:=Int) (β:=Unit) (0) [] [] ⟨[2,3,5],[],fun i=>[(8,(vI i))],fun i=>[]⟩ ⟨[],[],fun _=>[],fun _=>[]⟩
  (fun i=> .r<| .it (.a3 (Qv p i) (k37 p s_ i) (k38 p s_ i)<| .rg {} [0,1,2]<| .it (.r<| .e (.done (.ret false)))
  (.r<| .e (.next (k4 i))))
  (.e (.done (.brk ()))))
  (fun _=> .r<| .e true)))
theorem eP (p:ah) (s_:State):fD Tryz.prog 38 (WQ p s_) [] (fun r=>(vI r)) (fun _=>[]) (dz p s_):=
  gI tT mX Tryz.func38 (
  .rg {fr:=[(0,2),(1,3)],fz:=[2,3]} []<| .cl 1 (oh p) fun r_=> .r<| .cg 5 [((decide (r_=0)),true)] (FH p s_) fun u0=> .r<| .it (.r<| .r<| .e 9)
  (.r<| .e r_))
theorem Bu (p:ah):fD Tryz.prog 59 (k14 p) [] (fun r=>(vB r)) (fun _=>[]) (qF p):=
  gI tT mX Tryz.func59 (
  .rg {fr:=[(0,1)],fz:=[1]} []<| .r<| .it (.r<| .e true)
  (.cl 1 (oh p) fun r_=> .r<| .e (bif (decide (r_=0))then(bif (decide (10<p.buses))then true else(decide (16<(p.links.length:Int))))else false)))
theorem oJ (p:ah) (s_:State) (k:Int):fD Tryz.prog 88 (k39 p s_ k) [] (fun r=>(vB r)) (fun _=>[]) (kz p s_ k):=
  gI tT mX Tryz.func88 (
  .rg {fr:=[(0,2),(1,3)],fz:=[2,3]} []<| .a4 ((0:Int)≤k∧k<(s_.on_.length:Int)) ((gB [((at' s_.on_ k.toNat),true)]=true→(0:Int)≤k∧k<(s_.badSource.length:Int))) (k40 p s_ k) (k41 p s_ k)<| .rg {} [0,1,2,3]<| .e (k42 p s_ k))
theorem gu (p:ah) (s_:State) (i:Int):fD Tryz.prog 96 (k39 p s_ i) [] (fun r=>(vB r)) (fun _=>[]) (dJ p s_ i):=
  gI tT mX Tryz.func96 (
  .rg {fr:=[(0,2),(1,3)],fz:=[2,3]} []<| .a6 ((0:Int)≤i∧i<(s_.closed.length:Int)) (k44 s_ i) ((gB [((bif (at' s_.closed i.toNat)then(!(at' s_.badLink i.toNat))else false),true)]=true→(0:Int)≤i∧i<(p.links.length:Int))) (k45 s_ i p) ((gB [(k47 s_ i p)]=true→(0:Int)≤i∧i<(p.links.length:Int))) (k46 s_ i p)<| .rg {} [0,1,2,3,4,5]<| .e (k51 s_ i p))
theorem uR (p:ah) (s_:State) (u1:(List Bool)):fD Tryz.prog 97 (X7 p s_ u1) [] (fun r=>(vI r)) (fun _=>[]) (jk p s_ u1):=
  gI tT mX Tryz.func97 (
  .rg {fr:=[(0,2),(1,3)],fz:=[2,3]} []<| .r<| .r<| .lp (σ:=(Int × Int)) (β:=Int) (0,0) [] [] ⟨[2,3,4],[],fun(n,k)=>[(7,(vI n)),(8,(vI k))],fun(n,k)=>[]⟩ ⟨[2,3,4],[],fun n1=>[(7,(vI n1))],fun n1=>[]⟩
  (fun(n,k)=> .r<| .it (.cl 3 (oJ p s_ k) fun r_=> .a2 ((gB [(r_,true)]=true→(0:Int)≤k∧k<(p.sources.length:Int))) ((gB [(r_,true)]=true→(0:Int)≤(at' p.sources k.toNat).bus∧(at' p.sources k.toNat).bus<(u1.length:Int)))<| .rg {} [2,0,1]<| .it (.a1 (O3 k p)<| .r<| .r<| .e (.next ((IntKind.wrap .i64 (n+(UD p k))),(k4 k))))
  (.r<| .e (.next (Gz n k))))
  (.e (.done (.brk n))))
  (fun n1=> .r<| .lp (σ:=(Int × Int)) (β:=Int) (n1,0) [] [] ⟨[2,3,4],[],fun(n2,i)=>[(7,(vI n2)),(9,(vI i))],fun(n2,i)=>[]⟩ ⟨[2,3],[],fun n3=>[(7,(vI n3))],fun n3=>[]⟩
  (fun(n2,i)=> .r<| .it (.cl 3 (gu p s_ i) fun u2=> .a3 ((gB [(u2,true)]=true→(0:Int)≤i∧i<(p.links.length:Int))) ((gB [(u2,true)]=true→(0:Int)≤(at' p.links i.toNat).a∧(at' p.links i.toNat).a<(u1.length:Int))) ((gB [(u2,true)]=true→(0:Int)≤(at' p.links i.toNat).b∧(at' p.links i.toNat).b<(u1.length:Int)))<| .rg {} [3,0,1,0,2]<| .it (.a1 (Qv p i)<| .r<| .r<| .e (.next ((IntKind.wrap .i64 (n2+(IW p i))),(k4 i))))
  (.r<| .e (.next (Gz n2 i))))
  (.e (.done (.brk n2))))
  (fun n3=> .r<| .lp (σ:=(Int × Int)) (β:=Int) (n3,0) [] [] ⟨[2,3],[],fun(n4,u0)=>[(7,(vI n4)),(10,(vI u0))],fun(n4,u0)=>[]⟩ ⟨[],[],fun n5=>[(7,(vI n5))],fun n5=>[]⟩
  (fun(n4,u0)=> .r<| .it (.a1 (Ej u0 p)<| .rg {} [0, .pf ⟨(0:Int)≤0∧(0:Int)<(2:Nat),(by decide)⟩,0, .pf ⟨(0:Int)≤1∧(1:Int)<(2:Nat),(by decide)⟩]<| .a2 ((0:Int)≤(rZ u0 p).e0∧(rZ u0 p).e0<(u1.length:Int)) ((gB [((decide (0≤((rZ u0 p).e1))),true),((at' u1 (((rZ u0 p).e0).toNat)),false)]=true→(0:Int)≤(if(rZ u0 p).e1<0 then 0 else(rZ u0 p).e1)∧(if(rZ u0 p).e1<0 then 0 else(rZ u0 p).e1)<(u1.length:Int)))<| .rg {} [0,1]<| .it (.a1 (Ej u0 p)<| .r<| .r<| .e (.next (aa3 u0 p n4)))
  (.r<| .e (.next (Gz n4 u0))))
  (.e (.done (.brk n4))))
  (fun n5=> .r<| .e n5))))
section
variable (p:ah) (u1:(List Bool)) (b:Int) (n:Int) (u0:(List Bool)) (b1:Int) (u2:(List Bool))
abbrev Xx:=((1:Int)*p.buses≤281474976710656)
abbrev Tv:=(u1.set b.toNat (decide ((Int.tmod (Int.fdiv n (2 ^ min b.toNat (IntKind.bits .i64))) 2)=1)))
abbrev adk:=(au aj (Tv u1 b n))
abbrev adE:=(at' (Tv u1 b n) b.toNat)
abbrev YX:=(u0.set b1.toNat (bif (at' u0 b1.toNat)then(at' u2 b1.toNat)else false))
end
theorem tq (p:ah) (s_:State):fD Tryz.prog 65 (WQ p s_) [] (fun r=>(.iP [(sI r.1),(sD (bM none 1 aj r.2))])) (fun _=>[]) (l9 p s_):=
  gI tT mX Tryz.func65 (
  .rg {fr:=[(0,11),(1,12)],fz:=[11,12]} []<| .r<| .a3 ((0:Int)≤p.buses) (Xx p) (Tc p)<| .rg {an:=[(2, .arr (rY p).length (BR p))],fr:=[(2,13)]} [0, .e ((p.buses:Int)),1,2, .pf ⟨(rY p).length=p.buses.toNat,List.length_replicate⟩, .pf ⟨aC p.buses.toNat 1 (fun _ j=>[(.bool false)].getD j .nilp) (BR p),aW _ _ _ _ _ (fun j hj=>(match j,hj with|0,_=>rfl))⟩]<| .r<| .lp (σ:=(Int × (List Bool) × Int)) (β:=(Int × (List Bool))) ((-1),(rY p),0) [] [] ⟨[2,3],[],fun(u5,u3,n)=>[(6,(vI u5)),(7,(vO 13 true u3.length)),(8,(vI n))],fun(u5,u3,n)=>[(13,some (bZ 4 1 aj u3))]⟩ ⟨[],[],fun(u8,u6)=>[(6,(vI u8)),(7,(vO 13 true u6.length))],fun(u8,u6)=>[(13,some (bZ 4 1 aj u6))]⟩
  (fun(u5,u3,n)=> .a1 ((0:Int)≤p.buses)<| .r<| .it (.jN (β:=(Int × (List Bool))) 2 ⟨[2,3,8],[],fun(u9,u7)=>[(6,(vI u9)),(7,(vO 13 true u7.length))],fun(u9,u7)=>[(13,some (bZ 4 1 aj u7))]⟩ (.a3 ((0:Int)≤p.buses) (Xx p) (Tc p)<| .rg {an:=[(2, .arr (rY p).length (BR p))],fr:=[(2,21)]} [0, .e ((p.buses:Int)),1,2, .pf ⟨(rY p).length=p.buses.toNat,List.length_replicate⟩, .pf ⟨aC p.buses.toNat 1 (fun _ j=>[(.bool false)].getD j .nilp) (BR p),aW _ _ _ _ _ (fun j hj=>(match j,hj with|0,_=>rfl))⟩]<| .r<| .r<| .lp (σ:=((List Bool) × Bool × Int)) (β:=((List Bool) × Bool)) ((rY p),true,0) [] [] ⟨[2,3,6,7,8],[13],fun(u1,u4,b)=>[(9,(vO 21 true u1.length)),(10,(vB u4)),(11,(vI b))],fun(u1,u4,b)=>[(21,some (bZ 4 1 aj u1))]⟩ ⟨[2,3,6,7,8],[13],fun(u2,v0)=>[(9,(vO 21 true u2.length)),(10,(vB v0))],fun(u2,v0)=>[(21,some (bZ 4 1 aj u2))]⟩
  (fun(u1,u4,b)=> .r<| .it (.a3 ((0:Int)≤b) (2≠(0:Int)) (k10 b u1)<| .rg {an:=[(8, .arr 0 (adk u1 b n))]} [0,1,2, .t 2 b u1.length, .pf ⟨aC u1.length 1 (fe (au aj u1) b.toNat 0 [(.bool (decide ((Int.tmod (Int.fdiv n (2 ^ min b.toNat (IntKind.bits .i64))) 2)=1)))]) (adk u1 b n),aK _ _ _ _ _ _ _ _ rfl (fun j hj=>(match j,hj with|0,_=>rfl))⟩]<| .im (.ll 21 u1 (Tv u1 b n))<| .a2 ((gB [(u4,true)]=true→(0:Int)≤b∧b<((Tv u1 b n).length:Int))) ((gB [((adE u1 b n),true),(u4,true)]=true→(0:Int)≤b∧b<(s_.badBus.length:Int)))<| .rg {} [0, .tg 0 [(u4,true)] b ((Tv u1 b n).length),1]<| .r<| .e (.next ((Tv u1 b n),(bif u4 then(!(bif (adE u1 b n)then(at' s_.badBus b.toNat)else false))else false),(k4 b))))
  (.e (.done (.brk (u1,u4)))))
  (fun(u2,v0)=> .r<| .it (.e (u5,u3))
  (.cr 3 ⟨fun{r_} hr_=>((Fn.Ep (frz:=[21]) (p:=[u2.length=u2.length]) (Fn.le (args':=[(.agg (k9 p)),(.agg (k11 s_)),(sD (bM (some true) 1 aj u2))]) (uR p s_ u2 hr_) (by exact⟨uI.refl _,uI.refl _,uI.one (gV.d jL.rX),trivial⟩)) (by kernel_rfl) ⟨rfl,trivial⟩ rfl):Fn Tryz.prog 97 [(.agg (k9 p)),(.agg (k11 s_)),(.one (.own 21 true u2.length))] [(21,some (bZ 4 1 aj u2))] (vI r_) [(21,some (bZ 4 1 aj u2))])⟩ fun r_=> .r<| .r<| .it (.r<| .r<| .en (r_,u2) [] [(21,13)])
  (.rg {fz:=[21]} []<| .it (.r<| .lp (σ:=((List Bool) × Int)) (β:=(List Bool)) (u3,0) [] [] ⟨[2,3,6,8,9],[],fun(u0,b1)=>[(7,(vO 13 true u0.length)),(13,(vI b1))],fun(u0,b1)=>[(13,some (bZ 4 1 aj u0))]⟩ ⟨[2,3,6,8],[],fun out4=>[(7,(vO 13 true out4.length))],fun out4=>[(13,some (bZ 4 1 aj out4))]⟩
  (fun(u0,b1)=> .r<| .it (.a2 (k10 b1 u0) ((gB [((at' u0 b1.toNat),true)]=true→(0:Int)≤b1∧b1<(u2.length:Int)))<| .rg {an:=[(13, .arr 0 (au aj (YX u0 b1 u2)))]} [0, .t 0 b1 u0.length,1,0, .t 0 b1 u0.length, .pf ⟨aC u0.length 1 (fe (au aj u0) b1.toNat 0 [(.bool (bif (at' u0 b1.toNat)then(at' u2 b1.toNat)else false))]) (au aj (YX u0 b1 u2)),aK _ _ _ _ _ _ _ _ rfl (fun j hj=>(match j,hj with|0,_=>rfl))⟩]<| .im (.ll 13 u0 (YX u0 b1 u2))<| .r<| .e (.next ((YX u0 b1 u2),(k4 b1))))
  (.e (.done (.brk u0))))
  (fun out4=> .e (u5,out4)))
  (.e (u5,u3))))))
  (fun(u9,u7)=> .r<| .e (.next (u9,u7,(k4 n)))))
  (.e (.done (.brk (u5,u3)))))
  (fun(u8,u6)=> .rg {fz:=[13]} []<| .e (u8,u6)))
theorem F9 (p:ah) (s_:State):fD Tryz.prog 62 (WQ p s_) [] (fun r=>(.iP [(sD (bM none 2 Part.cell r.1)),(sI r.2)])) (fun _=>[]) (mg p s_):=
  gI tT mX Tryz.func62 (
  .rg {fr:=[(0,18),(1,19)],fz:=[18,19]} []<| .cl 2 (eP p s_) fun r_=> .r<| .r<| .it (.r<| .e (([]:List Part),r_))
  (.cl 2 (tq p s_) fun u4=> .r<| .r<| .r<| .im (.ad 9 28 112 2 (au Part.cell ([]:List Part)))<| .lp (σ:=((List Part) × Int)) (β:=(List Part)) (([]:List Part),0) [] [(28,21)] ⟨[2,3,8],[],fun(u0,k)=>[(9,(vO 21 false u0.length)),(10,(vI k))],fun(u0,k)=>[(21,some (bZ 112 2 Part.cell u0))]⟩ ⟨[2,3,8],[],fun u2=>[(9,(vO 21 false u2.length))],fun u2=>[(21,some (bZ 112 2 Part.cell u2))]⟩
  (fun(u0,k)=> .r<| .it (.cl 3 (oJ p s_ k) fun u6=> .a2 ((gB [(u6,true)]=true→(0:Int)≤k∧k<(p.sources.length:Int))) ((gB [(u6,true)]=true→(0:Int)≤(at' p.sources k.toNat).bus∧(at' p.sources k.toNat).bus<(u4.2.length:Int)))<| .rg {} [2,0,1]<| .it (.a2 ((u0.length+[(⟨2,k⟩:Part)].length)*16≤140737488355328) (u0.length+[(⟨2,k⟩:Part)].length≤4611686018427387904)<| .rg {an:=[(3, .arr [(⟨2,k⟩:Part)].length (au Part.cell [(⟨2,k⟩:Part)])),(4, .arr (u0++[(⟨2,k⟩:Part)]).length (au Part.cell (u0++[(⟨2,k⟩:Part)])))],fr:=[(3,26),(4,27)]} [.pf ⟨[(⟨2,k⟩:Part)].length=1,rfl⟩, .pf ⟨aC 1 2 (ou 2 [(.int .i64 2),(.int .i64 k)]) (au Part.cell [(⟨2,k⟩:Part)]),(by intro i hi j hj;match i,j,hi,hj with|0,0,_,_=>rfl|0,1,_,_=>rfl)⟩, .e (u0.length),0,1, .pf ⟨(u0++[(⟨2,k⟩:Part)]).length=u0.length+[(⟨2,k⟩:Part)].length,List.length_append⟩, .pf ⟨aC (u0.length+[(⟨2,k⟩:Part)].length) 2 (sV (au Part.cell u0) u0.length (au Part.cell [(⟨2,k⟩:Part)])) (au Part.cell (u0++[(⟨2,k⟩:Part)])),dw _ _ _ _⟩]<| .r<| .en (.next ((u0++[(⟨2,k⟩:Part)]),(k4 k))) [] [(27,21)])
  (.r<| .e (.next (NY k u0))))
  (.e (.done (.brk u0))))
  (fun u2=> .r<| .lp (σ:=((List Part) × Int)) (β:=(List Part)) (u2,0) [] [] ⟨[2,3,8],[],fun(u1,i)=>[(9,(vO 21 false u1.length)),(11,(vI i))],fun(u1,i)=>[(21,some (bZ 112 2 Part.cell u1))]⟩ ⟨[],[],fun u3=>[(9,(vO 21 false u3.length))],fun u3=>[(21,some (bZ 112 2 Part.cell u3))]⟩
  (fun(u1,i)=> .r<| .it (.cl 3 (gu p s_ i) fun u5=> .a3 ((gB [(u5,true)]=true→(0:Int)≤i∧i<(p.links.length:Int))) ((gB [(u5,true)]=true→(0:Int)≤(at' p.links i.toNat).a∧(at' p.links i.toNat).a<(u4.2.length:Int))) ((gB [(u5,true)]=true→(0:Int)≤(at' p.links i.toNat).b∧(at' p.links i.toNat).b<(u4.2.length:Int)))<| .rg {} [3,0,1,0,2]<| .it (.a2 ((u1.length+[(⟨3,i⟩:Part)].length)*16≤140737488355328) (u1.length+[(⟨3,i⟩:Part)].length≤4611686018427387904)<| .rg {an:=[(3, .arr [(⟨3,i⟩:Part)].length (au Part.cell [(⟨3,i⟩:Part)])),(4, .arr (u1++[(⟨3,i⟩:Part)]).length (au Part.cell (u1++[(⟨3,i⟩:Part)])))],fr:=[(3,35),(4,36)]} [.pf ⟨[(⟨3,i⟩:Part)].length=1,rfl⟩, .pf ⟨aC 1 2 (ou 2 [(.int .i64 3),(.int .i64 i)]) (au Part.cell [(⟨3,i⟩:Part)]),(by intro i hi j hj;match i,j,hi,hj with|0,0,_,_=>rfl|0,1,_,_=>rfl)⟩, .e (u1.length),0,1, .pf ⟨(u1++[(⟨3,i⟩:Part)]).length=u1.length+[(⟨3,i⟩:Part)].length,List.length_append⟩, .pf ⟨aC (u1.length+[(⟨3,i⟩:Part)].length) 2 (sV (au Part.cell u1) u1.length (au Part.cell [(⟨3,i⟩:Part)])) (au Part.cell (u1++[(⟨3,i⟩:Part)])),dw _ _ _ _⟩]<| .r<| .en (.next ((u1++[(⟨3,i⟩:Part)]),(k4 i))) [] [(36,21)])
  (.r<| .e (.next (NY i u1))))
  (.e (.done (.brk u1))))
  (fun u3=> .rg {fz:=[21]} []<| .e (u3,0)))))
theorem G6 (p:ah) (s_:State):fD Tryz.prog 63 (WQ p s_) [] (fun r=>(.iP [(sB r.1),(sI r.2)])) (fun _=>[]) (oD p s_):=
  gI tT mX Tryz.func63 (
  .rg {fr:=[(0,2),(1,3)],fz:=[2,3]} []<| .cl 2 (eP p s_) fun r_=> .r<| .r<| .it (.r<| .e (false,r_))
  (.r<| .r<| .lp (σ:=(Int × Int)) (β:=Int) (0,0) [] [] ⟨[2,3],[],fun(u1,u0)=>[(7,(vI u1)),(8,(vI u0))],fun(u1,u0)=>[]⟩ ⟨[2,3],[],fun u2=>[(7,(vI u2))],fun u2=>[]⟩
  (fun(u1,u0)=> .r<| .it (.a1 (Ej u0 p)<| .r<| .r<| .e (.next (aa3 u0 p u1)))
  (.e (.done (.brk u1))))
  (fun u2=> .cl 2 (tq p s_) fun u3=> .r<| .r<| .e ((decide (u3.1=u2)),0))))
theorem Dv (p:ah) (x:aA) (b:Int):fD Tryz.prog 123 [(.agg (k9 p)),(.agg (YE x)),(sI b)] [] (fun r=>(vI r)) (fun _=>[]) (p9 p x b):=
  gI tT mX Tryz.func123 (
  .rg {fr:=[(0,2),(1,3)],fz:=[2,3]} []<| .r<| .r<| .lp (σ:=(Int × Int)) (β:=Int) (0,0) [] [] ⟨[2,3,4],[],fun(n,k)=>[(7,(vI n)),(8,(vI k))],fun(n,k)=>[]⟩ ⟨[2,3,4],[],fun n1=>[(7,(vI n1))],fun n1=>[]⟩
  (fun(n,k)=> .r<| .it (.a1 (O3 k p)<| .r<| .it (.a1 (VB x k)<| .r<| .r<| .e (.next ((IntKind.wrap .i64 (n+(at' x.sources k.toNat))),(k4 k))))
  (.r<| .e (.next (Gz n k))))
  (.e (.done (.brk n))))
  (fun n1=> .r<| .lp (σ:=(Int × Int)) (β:=Int) (n1,0) [] [] ⟨[2,3,4],[],fun(n2,i)=>[(7,(vI n2)),(9,(vI i))],fun(n2,i)=>[]⟩ ⟨[2,3,4],[],fun n3=>[(7,(vI n3))],fun n3=>[]⟩
  (fun(n2,i)=> .r<| .it (.jN (β:=Int) 3 ⟨[2,3,4,9],[],fun n4=>[(7,(vI n4))],fun n4=>[]⟩ (.a1 (Qv p i)<| .r<| .it (.a1 (Qd x i)<| .r<| .a1 (Qv p i)<| .r<| .it (.a1 (Qd x i)<| .r<| .e (IntKind.wrap .i64 ((IntKind.wrap .i64 (n2 - (at' x.links i.toNat)))+(at' x.links i.toNat))))
  (.e (IntKind.wrap .i64 (n2 - (at' x.links i.toNat)))))
  (.a1 (Qv p i)<| .r<| .it (.a1 (Qd x i)<| .r<| .e (IntKind.wrap .i64 (n2+(at' x.links i.toNat))))
  (.e n2)))
  (fun n4=> .r<| .e (.next (Gz n4 i))))
  (.e (.done (.brk n2))))
  (fun n3=> .r<| .lp (σ:=(Int × Int)) (β:=Int) (n3,0) [] [] ⟨[2,3,4],[],fun(n5,r_)=>[(7,(vI n5)),(10,(vI r_))],fun(n5,r_)=>[]⟩ ⟨[],[],fun n6=>[(7,(vI n6))],fun n6=>[]⟩
  (fun(n5,r_)=> .r<| .it (.r<| .lp (σ:=(Int × Int)) (β:=Int) (n5,0) [] [] ⟨[2,3,4,10],[],fun(n7,k1)=>[(7,(vI n7)),(11,(vI k1))],fun(n7,k1)=>[]⟩ ⟨[2,3,4,10],[],fun n8=>[(7,(vI n8))],fun n8=>[]⟩
  (fun(n7,k1)=> .r<| .it (.fk (decide (k1=0)) (.si 11 k1 0 0<| .a1 (Ej r_ p)<| .rg {} [0, .pf ⟨(0:Int)≤0∧(0:Int)<(2:Nat),(by decide)⟩]<| .it (.a1 (EP x r_)<| .rg {} [0, .pf ⟨(0:Int)≤0∧(0:Int)<(2:Nat),(by decide)⟩]<| .r<| .e (.next ((IntKind.wrap .i64 (n7 - ((at' x.racks r_.toNat).e0))),1)))
  (.r<| .e (.next (n7,1))))
  (.a1 (k1=1)<| .sj 11 k1 1 0<| .a1 (Ej r_ p)<| .rg {} [0, .pf ⟨(0:Int)≤1∧(1:Int)<(2:Nat),(by decide)⟩]<| .it (.a1 (EP x r_)<| .rg {} [0, .pf ⟨(0:Int)≤1∧(1:Int)<(2:Nat),(by decide)⟩]<| .r<| .e (.next ((IntKind.wrap .i64 (n7 - (Ma x r_))),2)))
  (.r<| .e (.next (n7,2)))))
  (.e (.done (.brk n7))))
  (fun n8=> .r<| .e (.next (Gz n8 r_))))
  (.e (.done (.brk n5))))
  (fun n6=> .r<| .e n6))))
section
variable (x:aA) (k:Int) (u0:Int)
abbrev aeV:=((gB [((decide ((at' x.sources k.toNat)<0)),false)]=true→(0:Int)≤k∧k<(x.sources.length:Int)))
abbrev af8:=((gB [((decide (((at' x.racks u0.toNat).e0)<0)),false)]=true→(0:Int)≤u0∧u0<(x.racks.length:Int)))
abbrev ae4:=((gB [((decide ((Ma x u0)<0)),false)]=true→(0:Int)≤u0∧u0<(x.racks.length:Int)))
end
theorem BX (p:ah) (s_:State) (x:aA):fD Tryz.prog 98 (TB p s_ x) [] (fun r=>(vB r)) (fun _=>[]) (oF p s_ x):=
  gI tT mX Tryz.func98 (
  .rg {fr:=[(0,3),(1,4),(2,5)],fz:=[3,4,5]} []<| .r<| .it (.r<| .e false)
  (.r<| .lp (σ:=Int) (β:=Unit) (0) [] [] ⟨[3,4,5],[],fun k=>[(7,(vI k))],fun k=>[]⟩ ⟨[3,4,5],[],fun _=>[],fun _=>[]⟩
  (fun k=> .r<| .it (.r<| .cl 3 (oJ p s_ k) fun r_=> .r<| .it (.a1 (O3 k p)<| .r<| .a2 (VB x k) (aeV x k)<| .rg {} [0,1]<| .it (.r<| .e (.done (.ret false)))
  (.r<| .e (.next (k4 k))))
  (.a2 (VB x k) (aeV x k)<| .rg {} [0,1]<| .it (.r<| .e (.done (.ret false)))
  (.r<| .e (.next (k4 k)))))
  (.e (.done (.brk ()))))
  (fun _=> .r<| .lp (σ:=Int) (β:=Unit) (0) [] [] ⟨[3,4,5],[],fun i=>[(9,(vI i))],fun i=>[]⟩ ⟨[3,4,5],[],fun _=>[],fun _=>[]⟩
  (fun i=> .r<| .it (.r<| .cl 3 (gu p s_ i) fun u3=> .r<| .it (.a1 (Qv p i)<| .r<| .a2 (Qd x i) ((gB [(aeX p x i)]=true→(0:Int)≤i∧i<(x.links.length:Int)))<| .rg {} [0,1]<| .it (.r<| .e (.done (.ret false)))
  (.r<| .e (.next (k4 i))))
  (.a2 (Qd x i) ((gB [((decide ((at' x.links i.toNat)<(IntKind.wrap .i64 (0 - 0)))),false)]=true→(0:Int)≤i∧i<(x.links.length:Int)))<| .rg {} [0,1]<| .it (.r<| .e (.done (.ret false)))
  (.r<| .e (.next (k4 i)))))
  (.e (.done (.brk ()))))
  (fun _=> .r<| .lp (σ:=Int) (β:=Unit) (0) [] [] ⟨[3,4,5],[],fun u0=>[(11,(vI u0))],fun u0=>[]⟩ ⟨[3,5],[],fun _=>[],fun _=>[]⟩
  (fun u0=> .r<| .it (.r<| .r<| .lp (σ:=(Int × Int)) (β:=Int) (0,0) [] [] ⟨[3,4,5,11],[],fun(u1,k1)=>[(12,(vI u1)),(13,(vI k1))],fun(u1,k1)=>[]⟩ ⟨[3,4,5,11],[],fun u2=>[(12,(vI u2))],fun u2=>[]⟩
  (fun(u1,k1)=> .r<| .it (.fk (decide (k1=0)) (.si 13 k1 0 0<| .a1 (Ej u0 p)<| .rg {} [0, .pf ⟨(0:Int)≤0∧(0:Int)<(2:Nat),(by decide)⟩]<| .r<| .a1 ((gB [((decide (0≤((rZ u0 p).e0))),true)]=true→(0:Int)≤(if(rZ u0 p).e0<0 then 0 else(rZ u0 p).e0)∧(if(rZ u0 p).e0<0 then 0 else(rZ u0 p).e0)<(s_.badBus.length:Int)))<| .r<| .it (.a1 (Ej u0 p)<| .r<| .a2 (EP x u0) (af8 x u0)<| .rg {} [0, .pf ⟨(0:Int)≤0∧(0:Int)<(2:Nat),(by decide)⟩,1, .pf ⟨(0:Int)≤0∧(0:Int)<(2:Nat),(by decide)⟩]<| .it (.r<| .e (.done (.ret (.done (.ret false)))))
  (.a1 (EP x u0)<| .rg {} [0, .pf ⟨(0:Int)≤0∧(0:Int)<(2:Nat),(by decide)⟩]<| .r<| .e (.next ((IntKind.wrap .i64 (u1+((at' x.racks u0.toNat).e0))),1))))
  (.a2 (EP x u0) (af8 x u0)<| .rg {} [0, .pf ⟨(0:Int)≤0∧(0:Int)<(2:Nat),(by decide)⟩,1, .pf ⟨(0:Int)≤0∧(0:Int)<(2:Nat),(by decide)⟩]<| .it (.r<| .e (.done (.ret (.done (.ret false)))))
  (.a1 (EP x u0)<| .rg {} [0, .pf ⟨(0:Int)≤0∧(0:Int)<(2:Nat),(by decide)⟩]<| .r<| .e (.next ((IntKind.wrap .i64 (u1+((at' x.racks u0.toNat).e0))),1)))))
  (.a1 (k1=1)<| .sj 13 k1 1 0<| .a1 (Ej u0 p)<| .rg {} [0, .pf ⟨(0:Int)≤1∧(1:Int)<(2:Nat),(by decide)⟩]<| .r<| .a1 ((gB [((decide (0≤((rZ u0 p).e1))),true)]=true→(0:Int)≤(if(rZ u0 p).e1<0 then 0 else(rZ u0 p).e1)∧(if(rZ u0 p).e1<0 then 0 else(rZ u0 p).e1)<(s_.badBus.length:Int)))<| .r<| .it (.a1 (Ej u0 p)<| .r<| .a2 (EP x u0) (ae4 x u0)<| .rg {} [0, .pf ⟨(0:Int)≤1∧(1:Int)<(2:Nat),(by decide)⟩,1, .pf ⟨(0:Int)≤1∧(1:Int)<(2:Nat),(by decide)⟩]<| .it (.r<| .e (.done (.ret (.done (.ret false)))))
  (.a1 (EP x u0)<| .rg {} [0, .pf ⟨(0:Int)≤1∧(1:Int)<(2:Nat),(by decide)⟩]<| .r<| .e (.next ((IntKind.wrap .i64 (u1+(Ma x u0))),2))))
  (.a2 (EP x u0) (ae4 x u0)<| .rg {} [0, .pf ⟨(0:Int)≤1∧(1:Int)<(2:Nat),(by decide)⟩,1, .pf ⟨(0:Int)≤1∧(1:Int)<(2:Nat),(by decide)⟩]<| .it (.r<| .e (.done (.ret (.done (.ret false)))))
  (.a1 (EP x u0)<| .rg {} [0, .pf ⟨(0:Int)≤1∧(1:Int)<(2:Nat),(by decide)⟩]<| .r<| .e (.next ((IntKind.wrap .i64 (u1+(Ma x u0))),2))))))
  (.e (.done (.brk u1))))
  (fun u2=> .a1 (Ej u0 p)<| .r<| .it (.r<| .e (.done (.ret false)))
  (.r<| .e (.next (k4 u0)))))
  (.e (.done (.brk ()))))
  (fun _=> .r<| .lp (σ:=Int) (β:=Unit) (0) [] [] ⟨[3,5],[],fun b=>[(16,(vI b))],fun b=>[]⟩ ⟨[],[],fun _=>[],fun _=>[]⟩
  (fun b=> .r<| .it (.cl 3 (Dv p x b) fun u4=> .r<| .it (.r<| .e (.done (.ret false)))
  (.r<| .e (.next (k4 b))))
  (.e (.done (.brk ()))))
  (fun _=> .r<| .e true))))))
theorem qy (p:ah) (s_:State) (x:aA):fD Tryz.prog 67 (TB p s_ x) [] (fun r=>(vI r)) (fun _=>[]) (iF p s_ x):=
  gI tT mX Tryz.func67 (
  .rg {fr:=[(0,3),(1,4),(2,5)],fz:=[3,4,5]} []<| .cl 2 (eP p s_) fun r_=> .r<| .cg 6 [((decide (r_=0)),true)] (BX p s_ x) fun u0=> .r<| .it (.r<| .r<| .e 20)
  (.r<| .e r_))
theorem Al (x:ah):fD Tryz.prog 8 (k14 x) [] (fun r=>(.v (.agg [(cI r.buses),(.own 0 false r.sources.length),(.own 1 false r.links.length),(.own 2 false r.racks.length)]))) (fun r=>[(0,some (bZ 60 5 Source.cell r.sources)),(1,some (bZ 66 6 Link.cell r.links)),(2,some (bZ 71 4 aD.cell r.racks)),(3,none)]) (qa x):=
  gI tT mX Tryz.func8 (
  .rg {fr:=[(0,5),(1,6)]} []<| .cl 4 (BB [(0,7)] (yu x.sources)) fun r_=> .cl 7 (BB [(0,8)] (Aa x.links)) fun u0=> .cl 10 (BB [(0,9)] (Aq x.racks)) fun u1=> .r<| .en (⟨x.buses,r_,u0,u1⟩:ah) [] [(7,0),(8,1),(9,2),(6,3)])
theorem Ab (x:State):fD Tryz.prog 9 [(.agg (k11 x))] [] (fun r=>(.v (.agg [(.own 0 false r.closed.length),(.own 1 false r.locked.length),(.own 2 false r.badLink.length),(.own 3 false r.on_.length),(.own 4 false r.badSource.length),(.own 5 false r.earthed.length),(.own 6 false r.badBus.length)]))) (fun r=>[(0,some (bZ 4 1 aj r.closed)),(1,some (bZ 4 1 aj r.locked)),(2,some (bZ 4 1 aj r.badLink)),(3,some (bZ 4 1 aj r.on_)),(4,some (bZ 4 1 aj r.badSource)),(5,some (bZ 4 1 aj r.earthed)),(6,some (bZ 4 1 aj r.badBus)),(7,none)]) (pW x):=
  gI tT mX Tryz.func9 (
  .rg {fr:=[(0,9),(1,10)],fz:=[9]} []<| .cl 2 (BB [(0,11)] (dD x.closed)) fun r_=> .cl 5 (BB [(0,12)] (dD x.locked)) fun u0=> .cl 8 (BB [(0,13)] (dD x.badLink)) fun u1=> .cl 11 (BB [(0,14)] (dD x.on_)) fun u2=> .cl 14 (BB [(0,15)] (dD x.badSource)) fun u3=> .cl 17 (BB [(0,16)] (dD x.earthed)) fun u4=> .cl 20 (BB [(0,17)] (dD x.badBus)) fun u5=> .r<| .en (⟨r_,u0,u1,u2,u3,u4,u5⟩:State) [] [(11,0),(12,1),(13,2),(14,3),(15,4),(16,5),(17,6),(10,7)])
section
variable (u0:(aA × (List Bool) × Int)) (u9:Int) (u6:((List Part) × Int)) (u7:((List Part) × Int)) (u1:(Bool × Int)) (u2:(Bool × Int)) (v1:Bool)
abbrev af4:=(bif (bif (bif (bif (!decide (u0.2.2=u9))then true else(!decide (u6.2=u7.2)))then true else(!decide (u1.2=u2.2)))then true else(!v1))then true else(!(u1.1==u2.1)))
abbrev afD:=(decide ((IntKind.wrap .i64 ((IntKind.wrap .i64 ((IntKind.wrap .i64 ((u0.1.sources.length:Int)+(u0.1.links.length:Int)))+(u0.1.racks.length:Int)))+(u0.2.1.length:Int)))=0))
end
theorem z8 (p:ah) (s_:State):fD Tryz.prog 24 (WQ p s_) [] (fun r=>(vB r)) (fun _=>[]) (jy p s_):=
  gI tT mX Tryz.func24 (
  .rg {fr:=[(0,22),(1,23)],fz:=[22,23]} []<| .cl 1 (Bu p) fun r_=> .r<| .it (.cl 0 gM fun v3=> .r<| .e v3)
  (.cl 1 (BB [(0,24),(1,25),(2,26),(3,27)] (Al p)) fun u4=> .cl 3 (BB [(0,28),(1,29),(2,30),(3,31),(4,32),(5,33),(6,34),(7,35)] (Ab s_)) fun u5=> .rg {fr:=[(4,36),(5,37)],fz:=[24,25,26,28,29,30,31,32,33,34]} []<| .fz [36,37]<| .cl 2 (BB [(0,38),(1,39),(2,40),(3,41),(4,42)] ⟨fun h=>qi u4 u5 h⟩) fun u0=> .rg {fr:=[(7,43)],fz:=[38,39,40,41]} []<| .fz [43]<| .cl 2 (zW u4 u5) fun u6=> .r<| .cl 2 (Br u4 u5) fun u1=> .r<| .cl 2 (F9 p s_) fun u7=> .r<| .cl 2 (G6 p s_) fun u2=> .r<| .cl 3 (eP p s_) fun u9=> .cg 18 [((bif (bif (!decide (u0.2.2=u9))then true else(!decide (u6.2=u7.2)))then true else(!decide (u1.2=u2.2))),false)] (vG u6.1 u7.1) fun v1=> .cg 29 [((af4 u0 u9 u6 u7 u1 u2 v1),false)] (DK p u4) fun v4=> .cg 35 [((bif (af4 u0 u9 u6 u7 u1 u2 v1)then true else(!v4)),false)] (Dw s_ u5) fun v7=> .r<| .it (.r<| .e false)
  (.r<| .it (.cg 16 [((afD u0),true)] gM fun v5=> .r<| .e (bif (afD u0)then v5 else false))
  (.cl 2 (tq p s_) fun u3=> .r<| .cl 1 (kS u0.1) fun u8=> .cg 7 [((decide (u8=u3.1)),true)] (bW u0.2.1 u3.2) fun v0=> .cg 13 [((bif (decide (u8=u3.1))then v0 else false),true)] (qy p s_ u0.1) fun v2=> .cg 17 [((bif (bif (decide (u8=u3.1))then v0 else false)then(decide (v2=0))else false),true)] gM fun v6=> .r<| .e (bif (bif (bif (decide (u8=u3.1))then v0 else false)then(decide (v2=0))else false)then v6 else false)))))
theorem J8 (x:Int) (n:Int):fD Tryz.prog 10 [(sI x),(sI n)] [] (fun r=>(vI r)) (fun _=>[]) (zD x n):=
  gI tT mX Tryz.func10 (
  .r<| .r<| .it (.r<| .e 0)
  (.a1 (n≠(0:Int))<| .r<| .r<| .it (.r<| .r<| .e (IntKind.wrap .i64 ((Int.tmod x n)+n)))
  (.r<| .e (Int.tmod x n))))
theorem qw (u1:Int) (l:(List Int)) (u2:Int) (u0:(List Int)):fD Tryz.prog 116 [(sI u1),(sD (yV l)),(sI u2),(sD (yV u0))] [] (fun r=>(vB r)) (fun _=>[]) (iM u1 l u2 u0):=
  gI tT mX Tryz.func116 (
  .r<| .r<| .it (.r<| .e (decide (u1<u2)))
  (.r<| .it (.r<| .e (decide ((l.length:Int)<(u0.length:Int))))
  (.r<| .lp (σ:=Int) (β:=Unit) (0) [] [] ⟨[1,3],[],fun i=>[(9,(vI i))],fun i=>[]⟩ ⟨[],[],fun _=>[],fun _=>[]⟩
  (fun i=> .r<| .it (.a2 (Nz l i) (Nz u0 i)<| .rg {} [0,1]<| .it (.a2 (Nz l i) (Nz u0 i)<| .rg {} [0,1]<| .e (.done (.ret (decide ((at' l i.toNat)<(at' u0 i.toNat))))))
  (.r<| .e (.next (k4 i))))
  (.e (.done (.brk ()))))
  (fun _=> .r<| .e false))))
section
variable (p:ah) (s_:State) (u1:Int) (u7:Int) (u0:(List Bool)) (i:Int) (u4:(Int × (List Int)))
abbrev abq:List SV:=[(.agg (k9 p)),(.agg (k11 s_)),(sI u1),(sI u7),(sD (bM none 1 aj u0))]
abbrev KI:=(([]:List Bool)++u0)
abbrev MK:=((KI u0).set u1.toNat true)
abbrev aaz:=(au aj (MK u1 u0))
abbrev adu:=((bif (decide ((VE i p)<0))then true else(at' (MK u1 u0) (k49 i p))),false)
abbrev adh:=((gB [((decide ((VE i p)<0)),false)]=true→(0:Int)≤(at' p.links i.toNat).a∧(at' p.links i.toNat).a<((MK u1 u0).length:Int)))
abbrev SI:=(au (aG .i64) ([i]++u4.2))
abbrev abW:=(sV (au (aG .i64) [i]) [i].length (au (aG .i64) u4.2))
abbrev YG:=(IntKind.wrap .i64 (((at' p.links i.toNat).bJ)+u4.1))
abbrev aan:=((YG p i u4),([i]++u4.2))
end
theorem BU (v2:ah→State→Int→Int→(List Bool)→Option (Int × (List Int))) (rec_ok: ∀(p:ah) (s_:State) (u1:Int) (u7:Int) (u0:(List Bool)) (r:(Int × (List Int))),v2 p s_ u1 u7 u0=some r→Fn Tryz.prog 89 (abq p s_ u1 u7 u0) [] ((fun r=>(.iP [(sI r.1),(sD (bM none 1 (aG .i64) r.2))])) r) ((fun _=>[]) r)) (p:ah) (s_:State) (u1:Int) (u7:Int) (u0:(List Bool)):fD Tryz.prog 89 (abq p s_ u1 u7 u0) [] (fun r=>(.iP [(sI r.1),(sD (bM none 1 (aG .i64) r.2))])) (fun _=>[]) (oQ v2 p s_ u1 u7 u0):=
  gI tT mX Tryz.func89 (
  .rg {fr:=[(0,60),(1,61)],fz:=[61]} []<| .r<| .it (.r<| .e (0,([]:List Int)))
  (.r<| .r<| .a2 ((([]:List Bool).length+u0.length)*1≤140737488355328) (([]:List Bool).length+u0.length≤4611686018427387904)<| .rg {an:=[(0, .arr ([]:List Bool).length (au aj ([]:List Bool))),(2, .arr (KI u0).length (au aj (KI u0)))],fr:=[(0,62),(2,63)]} [.pf ⟨([]:List Bool).length=0,rfl⟩, .pf ⟨aC 0 1 (ou 1 []) (au aj ([]:List Bool)),(fun i hi=>absurd hi (Nat.not_lt_zero i))⟩, .e (([]:List Bool).length),0,1, .pf ⟨(KI u0).length=([]:List Bool).length+u0.length,List.length_append⟩, .pf ⟨aC (([]:List Bool).length+u0.length) 1 (sV (au aj ([]:List Bool)) ([]:List Bool).length (au aj u0)) (au aj (KI u0)),dw _ _ _ _⟩]<| .a1 ((0:Int)≤u1∧u1<((KI u0).length:Int))<| .rg {an:=[(3, .arr 0 (aaz u1 u0))],fz:=[63]} [0, .t 0 u1 ((KI u0).length), .pf ⟨aC (KI u0).length 1 (fe (au aj (KI u0)) u1.toNat 0 [(.bool true)]) (aaz u1 u0),aK _ _ _ _ _ _ _ _ rfl (fun j hj=>(match j,hj with|0,_=>rfl))⟩]<| .im (.us 14 (vD (.sl none 1 (KI u0).length (aaz u1 u0))) (vD (bM none 1 aj (MK u1 u0))) (zu.v (uI.one (gV.d (jL.slN (by simp only [List.length_set]) (.inr rfl) (fun _ _ _ _=> .refl _))))))<| .r<| .lp (σ:=(Int × (List Int) × Int)) (β:=(Int × (List Int))) ((-1),([]:List Int),0) [] [] ⟨[2,3,5,6,14],[60],fun(u2,u3,i)=>[(12,(vI u2)),(13,(vD (yV u3))),(15,(vI i))],fun(u2,u3,i)=>[]⟩ ⟨[],[],fun(u8,u9)=>[(12,(vI u8)),(13,(vD (yV u9)))],fun(u8,u9)=>[]⟩
  (fun(u2,u3,i)=> .r<| .it (.jN (β:=(Int × (List Int))) 2 ⟨[2,3,5,6,14,15],[60],fun(v0,v1)=>[(12,(vI v0)),(13,(vD (yV v1)))],fun(v0,v1)=>[]⟩ (.a1 (Qv p i)<| .rg {fr:=[(5,113)],fz:=[113]} []<| .r<| .r<| .it (.r<| .r<| .it (.r<| .cg 12 [(adu p u1 u0 i)] (gu p s_ i) fun r_=> .a1 (adh p u1 u0 i)<| .rg {} [0,1]<| .it (.e (u2,u3))
  (.cl 5 ⟨fun h=>rec_ok p s_ (VE i p) u7 (MK u1 u0) _ h⟩ fun u4=> .r<| .r<| .it (.e (u2,u3))
  (.a2 (([i].length+u4.2.length)*8≤140737488355328) ([i].length+u4.2.length≤4611686018427387904)<| .rg {an:=[(1, .arr [i].length (au (aG .i64) [i])),(3, .arr ([i]++u4.2).length (SI i u4))],fr:=[(1,114),(3,115)],fz:=[115]} [.pf ⟨[i].length=1,rfl⟩, .pf ⟨aC 1 1 (ou 1 [(.int .i64 i)]) (au (aG .i64) [i]),(by intro i hi j hj;match i,j,hi,hj with|0,0,_,_=>rfl)⟩, .e ([i].length),0,1, .pf ⟨([i]++u4.2).length=[i].length+u4.2.length,List.length_append⟩, .pf ⟨aC ([i].length+u4.2.length) 1 (abW i u4) (SI i u4),dw _ _ _ _⟩]<| .cg 10 [((decide (u2<0)),false)] (qw (YG p i u4) ([i]++u4.2) u2 u3) fun v3=> .r<| .it (.r<| .r<| .e (aan p i u4))
  (.e (u2,u3)))))
  (.cg 12 [((bif (decide ((Xm i p)<0))then true else(at' (MK u1 u0) (k52 i p))),false)] (gu p s_ i) fun v4=> .a1 ((gB [((decide ((Xm i p)<0)),false)]=true→(0:Int)≤(at' p.links i.toNat).b∧(at' p.links i.toNat).b<((MK u1 u0).length:Int)))<| .rg {} [0,1]<| .it (.e (u2,u3))
  (.cl 5 ⟨fun h=>rec_ok p s_ (Xm i p) u7 (MK u1 u0) _ h⟩ fun u5=> .r<| .r<| .it (.e (u2,u3))
  (.a2 (([i].length+u5.2.length)*8≤140737488355328) ([i].length+u5.2.length≤4611686018427387904)<| .rg {an:=[(1, .arr [i].length (au (aG .i64) [i])),(3, .arr ([i]++u5.2).length (SI i u5))],fr:=[(1,116),(3,117)],fz:=[117]} [.pf ⟨[i].length=1,rfl⟩, .pf ⟨aC 1 1 (ou 1 [(.int .i64 i)]) (au (aG .i64) [i]),(by intro i hi j hj;match i,j,hi,hj with|0,0,_,_=>rfl)⟩, .e ([i].length),0,1, .pf ⟨([i]++u5.2).length=[i].length+u5.2.length,List.length_append⟩, .pf ⟨aC ([i].length+u5.2.length) 1 (abW i u5) (SI i u5),dw _ _ _ _⟩]<| .cg 10 [((decide (u2<0)),false)] (qw (YG p i u5) ([i]++u5.2) u2 u3) fun v5=> .r<| .it (.r<| .r<| .e (aan p i u5))
  (.e (u2,u3))))))
  (.r<| .it (.r<| .cg 12 [(adu p u1 u0 i)] (gu p s_ i) fun v6=> .a1 (adh p u1 u0 i)<| .rg {} [0,1]<| .it (.e (u2,u3))
  (.cl 5 ⟨fun h=>rec_ok p s_ (VE i p) u7 (MK u1 u0) _ h⟩ fun u6=> .r<| .r<| .it (.e (u2,u3))
  (.a2 (([i].length+u6.2.length)*8≤140737488355328) ([i].length+u6.2.length≤4611686018427387904)<| .rg {an:=[(1, .arr [i].length (au (aG .i64) [i])),(3, .arr ([i]++u6.2).length (SI i u6))],fr:=[(1,118),(3,119)],fz:=[119]} [.pf ⟨[i].length=1,rfl⟩, .pf ⟨aC 1 1 (ou 1 [(.int .i64 i)]) (au (aG .i64) [i]),(by intro i hi j hj;match i,j,hi,hj with|0,0,_,_=>rfl)⟩, .e ([i].length),0,1, .pf ⟨([i]++u6.2).length=[i].length+u6.2.length,List.length_append⟩, .pf ⟨aC ([i].length+u6.2.length) 1 (abW i u6) (SI i u6),dw _ _ _ _⟩]<| .cg 10 [((decide (u2<0)),false)] (qw (YG p i u6) ([i]++u6.2) u2 u3) fun v7=> .r<| .it (.r<| .r<| .e (aan p i u6))
  (.e (u2,u3)))))
  (.rg {sk:=[3,4,5,6,9,10,11,12,13]} []<| .t<| .e (u2,u3))))
  (fun(v0,v1)=> .r<| .e (.next (v0,v1,(k4 i)))))
  (.e (.done (.brk (u2,u3)))))
  (fun(u8,u9)=> .r<| .e (u8,u9))))
theorem Ba: ∀(n:Nat) (p:ah) (s_:State) (u0:Int) (u1:Int) (u2:(List Bool)),fD Tryz.prog 89 (abq p s_ u0 u1 u2) [] (fun r=>(.iP [(sI r.1),(sD (bM none 1 (aG .i64) r.2))])) (fun _=>[]) (jh n p s_ u0 u1 u2)
 |0,_,_,_,_,_=> ⟨fun h=>by cases h⟩
 |n+1,p,s_,u0,u1,u2=>BU (jh n) (fun p s_ u0 u1 u2 _ h=>Ba n p s_ u0 u1 u2 h) p s_ u0 u1 u2
section
variable (u0:(Int × (List Int))) (p:ah) (k:Int) (u1:(List Short))
abbrev Ue:=(IntKind.wrap .i64 (u0.1+((at' p.sources k.toNat).bJ)))
abbrev abC:=(IntKind.wrap .i64 (Int.tdiv (400000:Int) (Ue u0 p k)))
abbrev afj:=(IntKind.wrap .i64 ((abC u0 p k)+1))
abbrev Qe:=(⟨k,(Ue u0 p k),(afj u0 p k),u0.2⟩:Short)
abbrev adr:=(u1.length+[(Qe u0 p k)].length)
abbrev aak:=(au Short.cell [(Qe u0 p k)])
abbrev XA:=(u1++[(Qe u0 p k)])
abbrev adX:=(au Short.cell (XA u0 p k u1))
abbrev P7:=(⟨k,(Ue u0 p k),(abC u0 p k),u0.2⟩:Short)
abbrev ad9:=(u1.length+[(P7 u0 p k)].length)
abbrev abK:=(au Short.cell [(P7 u0 p k)])
abbrev XM:=(u1++[(P7 u0 p k)])
abbrev ae7:=(au Short.cell (XM u0 p k u1))
end
theorem El (p:ah) (s_:State) (u2:Int):fD Tryz.prog 39 (k39 p s_ u2) [] (fun r=>(.iP [(sD (bM none 4 Short.cell r.1)),(sI r.2)])) (fun _=>[]) (jv p s_ u2):=
  gI tT mX Tryz.func39 (
  .rg {fr:=[(0,42),(1,43)],fz:=[42,43]} []<| .cl 2 (eP p s_) fun r_=> .r<| .r<| .it (.r<| .e (([]:List Short),r_))
  (.r<| .it (.r<| .e (([]:List Short),1))
  (.r<| .r<| .im (.ad 9 84 103 4 (au Short.cell ([]:List Short)))<| .lp (σ:=((List Short) × Int)) (β:=(List Short)) (([]:List Short),0) [] [(84,46)] ⟨[2,3,4],[],fun(u1,k)=>[(9,(vO 46 false u1.length)),(10,(vI k))],fun(u1,k)=>[(46,some (bZ 103 4 Short.cell u1))]⟩ ⟨[],[],fun u3=>[(9,(vO 46 false u3.length))],fun u3=>[(46,some (bZ 103 4 Short.cell u3))]⟩
  (fun(u1,k)=> .a1 ((gB [((decide (k<(p.sources.length:Int))),true)]=true→(0:Int)≤u2∧u2<(s_.badBus.length:Int)))<| .r<| .it (.jN (β:=(List Short)) 3 ⟨[2,3,4,10],[],fun u4=>[(9,(vO 46 false u4.length))],fun u4=>[(46,some (bZ 103 4 Short.cell u4))]⟩ (.cl 3 (oJ p s_ k) fun u5=> .r<| .it (.e u1)
  (.cl 12 (leO [(.agg (k9 p)),(.agg (k11 s_)),(sI (UH p k)),(sI u2),(sD (bM (some true) 1 aj (rY p)))] (Ba FUEL p s_ (UH p k) u2 (rY p))) fun u0=> .a4 (O3 k p) ((0:Int)≤p.buses) (Xx p) (Tc p)<| .rg {an:=[(11, .frz (rY p).length (BR p))],fr:=[(11,79)]} [0,1, .e ((p.buses:Int)),2,3, .pf ⟨(rY p).length=p.buses.toNat,List.length_replicate⟩, .pf ⟨aC p.buses.toNat 1 (fun _ j=>[(.bool false)].getD j .nilp) (BR p),aW _ _ _ _ _ (fun j hj=>(match j,hj with|0,_=>rfl))⟩,4]<| .r<| .it (.e u1)
  (.a1 (O3 k p)<| .r<| .a1 ((Ue u0 p k)≠(0:Int))<| .r<| .r<| .it (.r<| .a2 ((adr u0 p k u1)*48≤140737488355328) (u1.length+[(Qe u0 p k)].length≤4611686018427387904)<| .rg {an:=[(6, .arr [(Qe u0 p k)].length (aak u0 p k)),(7, .arr (XA u0 p k u1).length (adX u0 p k u1))],fr:=[(6,80),(7,81)]} [.pf ⟨[(Qe u0 p k)].length=1,rfl⟩, .pf ⟨aC 1 4 (ou 4 [(.int .i64 k),(.int .i64 (Ue u0 p k)),(.int .i64 (afj u0 p k)),(bM none 1 (aG .i64) u0.2)]) (aak u0 p k),(by intro i hi j hj;match i,j,hi,hj with|0,0,_,_=>rfl|0,1,_,_=>rfl|0,2,_,_=>rfl|0,3,_,_=>rfl)⟩, .e (u1.length),0,1, .pf ⟨(XA u0 p k u1).length=u1.length+[(Qe u0 p k)].length,List.length_append⟩, .pf ⟨aC (adr u0 p k u1) 4 (sV (au Short.cell u1) u1.length (aak u0 p k)) (adX u0 p k u1),dw _ _ _ _⟩]<| .en (XA u0 p k u1) [] [(81,46)])
  (.a2 ((ad9 u0 p k u1)*48≤140737488355328) (u1.length+[(P7 u0 p k)].length≤4611686018427387904)<| .rg {an:=[(6, .arr [(P7 u0 p k)].length (abK u0 p k)),(7, .arr (XM u0 p k u1).length (ae7 u0 p k u1))],fr:=[(6,82),(7,83)]} [.pf ⟨[(P7 u0 p k)].length=1,rfl⟩, .pf ⟨aC 1 4 (ou 4 [(.int .i64 k),(.int .i64 (Ue u0 p k)),(.int .i64 (abC u0 p k)),(bM none 1 (aG .i64) u0.2)]) (abK u0 p k),(by intro i hi j hj;match i,j,hi,hj with|0,0,_,_=>rfl|0,1,_,_=>rfl|0,2,_,_=>rfl|0,3,_,_=>rfl)⟩, .e (u1.length),0,1, .pf ⟨(XM u0 p k u1).length=u1.length+[(P7 u0 p k)].length,List.length_append⟩, .pf ⟨aC (ad9 u0 p k u1) 4 (sV (au Short.cell u1) u1.length (abK u0 p k)) (ae7 u0 p k u1),dw _ _ _ _⟩]<| .en (XM u0 p k u1) [] [(83,46)]))))
  (fun u4=> .r<| .e (.next (u4,(k4 k)))))
  (.e (.done (.brk u1))))
  (fun u3=> .rg {fz:=[46]} []<| .e (u3,0)))))
section
variable (p:ah)
abbrev Dh:=(List.replicate (yP p) (false:Bool))
abbrev Oe:=(au aj (Dh p))
end
theorem vK (p:ah) (l:(List Short)):fD Tryz.prog 40 (aeG p l) [] (fun r=>(.iP [(sD (bM none 1 (aG .i64) r.1)),(sI r.2)])) (fun _=>[]) (lU p l):=
  gI tT mX Tryz.func40 (
  .rg {fr:=[(0,6)],fz:=[6]} []<| .cl 1 (oh p) fun r_=> .r<| .r<| .it (.r<| .e (([]:List Int),r_))
  (.r<| .it (.r<| .e (([]:List Int),1))
  (.a3 ((0:Int)≤(p.links.length:Int)) ((8:Int)*(p.links.length:Int)≤281474976710656) (YZ p)<| .rg {an:=[(3, .arr (CY p).length (J9 p))],fr:=[(3,7)]} [0, .e (SH p),1,2, .pf ⟨(CY p).length=(yP p),List.length_replicate⟩, .pf ⟨aC (yP p) 1 (fun _ j=>[(.int .i64 0)].getD j .nilp) (J9 p),aW _ _ _ _ _ (fun j hj=>(match j,hj with|0,_=>rfl))⟩]<| .r<| .lp (σ:=((List Int) × Int)) (β:=(List Int)) ((CY p),0) [] [] ⟨[1,2],[],fun(u2,n)=>[(7,(vO 7 true u2.length)),(8,(vI n))],fun(u2,n)=>[(7,some (Fw u2))]⟩ ⟨[],[],fun u3=>[(7,(vO 7 true u3.length))],fun u3=>[(7,some (Fw u3))]⟩
  (fun(u2,n)=> .r<| .it (.a2 (M8 l n) ((gB [((decide (((at' l n.toNat).amps)<0)),false)]=true→(0:Int)≤n∧n<(l.length:Int)))<| .rg {} [0,1]<| .it (.r<| .e (.done (.ret (([]:List Int),1))))
  (.a3 ((0:Int)≤(p.links.length:Int)) ((1:Int)*(p.links.length:Int)≤281474976710656) (YZ p)<| .rg {an:=[(3, .arr (Dh p).length (Oe p))],fr:=[(3,11)]} [0, .e (SH p),1,2, .pf ⟨(Dh p).length=(yP p),List.length_replicate⟩, .pf ⟨aC (yP p) 1 (fun _ j=>[(.bool false)].getD j .nilp) (Oe p),aW _ _ _ _ _ (fun j hj=>(match j,hj with|0,_=>rfl))⟩]<| .r<| .lp (σ:=((List Bool) × Int)) (β:=(List Bool)) ((Dh p),0) [] [] ⟨[1,2,7,8],[7],fun(u1,i)=>[(9,(vO 11 true u1.length)),(10,(vI i))],fun(u1,i)=>[(11,some (bZ 4 1 aj u1))]⟩ ⟨[1,2,7,8],[7],fun u4=>[(9,(vO 11 true u4.length))],fun u4=>[(11,some (bZ 4 1 aj u4))]⟩
  (fun(u1,i)=> .a1 (M8 l n)<| .r<| .it (.a2 (M8 l n) ((0:Int)≤i∧i<(((at' l n.toNat).links).length:Int))<| .rg {} [0,1]<| .r<| .it (.r<| .e (.done (.ret (.done (.ret (([]:List Int),1))))))
  (.a1 ((0:Int)≤(at' ((at' l n.toNat).links) i.toNat)∧(at' ((at' l n.toNat).links) i.toNat)<(u1.length:Int))<| .rg {an:=[(3, .arr 0 (au aj (u1.set ((at' ((at' l n.toNat).links) i.toNat).toNat) true)))]} [0, .t 0 (at' ((at' l n.toNat).links) i.toNat) u1.length, .pf ⟨aC u1.length 1 (fe (au aj u1) ((at' ((at' l n.toNat).links) i.toNat).toNat) 0 [(.bool true)]) (au aj (u1.set ((at' ((at' l n.toNat).links) i.toNat).toNat) true)),aK _ _ _ _ _ _ _ _ rfl (fun j hj=>(match j,hj with|0,_=>rfl))⟩]<| .im (.ll 11 u1 (u1.set ((at' ((at' l n.toNat).links) i.toNat).toNat) true))<| .r<| .e (.next ((u1.set ((at' ((at' l n.toNat).links) i.toNat).toNat) true),(k4 i)))))
  (.e (.done (.brk u1))))
  (fun u4=> .rg {fz:=[11]} []<| .lp (σ:=((List Int) × Int)) (β:=(List Int)) (u2,0) [] [] ⟨[1,2,8,9],[],fun(u0,k)=>[(7,(vO 7 true u0.length)),(12,(vI k))],fun(u0,k)=>[(7,some (Fw u0))]⟩ ⟨[1,2,8],[],fun u5=>[(7,(vO 7 true u5.length))],fun u5=>[(7,some (Fw u5))]⟩
  (fun(u0,k)=> .r<| .it (.a1 (k10 k u4)<| .r<| .it (.a2 (Nz u0 k) (M8 l n)<| .rg {an:=[(13, .arr 0 (YB l u0 k n))]} [0, .t 0 k u0.length,1,0, .t 0 k u0.length, .pf ⟨aC u0.length 1 (afO l u0 k n) (YB l u0 k n),aK _ _ _ _ _ _ _ _ rfl (fun j hj=>(match j,hj with|0,_=>rfl))⟩]<| .im (.ll 7 u0 (YD l u0 k n))<| .r<| .e (.next (adF l u0 k n)))
  (.r<| .e (.next (SY u0 k))))
  (.e (.done (.brk u0))))
  (fun u5=> .r<| .e (.next (SY u5 n))))))
  (.e (.done (.brk u2))))
  (fun u3=> .rg {fz:=[7]} []<| .e (u3,0)))))
section
variable (u7:((List Int) × Bool × Int)) (v0:((List Int) × Int))
abbrev adn:=(leO [(sD (bM (some u7.2.1) 1 (aG .i64) u7.1)),(sD (bM none 1 (aG .i64) v0.1))] (rq u7.1 v0.1))
end
theorem Ai (p:ah) (s_:State) (u1:Int) (l:(List Short)):fD Tryz.prog 25 [(.agg (k9 p)),(.agg (k11 s_)),(sI u1),(sD (bM none 4 Short.cell l))] [] (fun r=>(vB r)) (fun _=>[]) (jw p s_ u1 l):=
  gI tT mX Tryz.func25 (
  .rg {fr:=[(0,11),(1,12)],fz:=[11,12]} []<| .cl 1 (Bu p) fun r_=> .r<| .it (.cl 0 gM fun v2=> .r<| .e v2)
  (.r<| .r<| .im (.ad 9 21 142 4 (au Short.cell ([]:List Short)))<| .lp (σ:=((List Short) × Int)) (β:=(List Short)) (([]:List Short),0) [] [(21,14)] ⟨[2,3,4,5],[],fun(u0,i)=>[(9,(vO 14 false u0.length)),(10,(vI i))],fun(u0,i)=>[(14,some (bZ 142 4 Short.cell u0))]⟩ ⟨[2,3,4,5],[],fun u5=>[(9,(vO 14 false u5.length))],fun u5=>[(14,some (bZ 142 4 Short.cell u5))]⟩
  (fun(u0,i)=> .r<| .it (.a1 (M8 l i)<| .r<| .it (.cl 0 gM fun v3=> .r<| .e (.done (.ret v3)))
  (.a3 (M8 l i) ((u0.length+[(at' l i.toNat)].length)*48≤140737488355328) (u0.length+[(at' l i.toNat)].length≤4611686018427387904)<| .rg {an:=[(5, .arr [(at' l i.toNat)].length (au Short.cell [(at' l i.toNat)])),(6, .arr (u0++[(at' l i.toNat)]).length (au Short.cell (u0++[(at' l i.toNat)])))],fr:=[(5,19),(6,20)]} [0, .pf ⟨[(at' l i.toNat)].length=1,rfl⟩, .pf ⟨aC 1 4 (ou 4 [(.int .i64 ((at' l i.toNat).source)),(.int .i64 ((at' l i.toNat).bJ)),(.int .i64 ((at' l i.toNat).amps)),(bM none 1 (aG .i64) ((at' l i.toNat).links))]) (au Short.cell [(at' l i.toNat)]),(by intro i hi j hj;match i,j,hi,hj with|0,0,_,_=>rfl|0,1,_,_=>rfl|0,2,_,_=>rfl|0,3,_,_=>rfl)⟩, .e (u0.length),1,2, .pf ⟨(u0++[(at' l i.toNat)]).length=u0.length+[(at' l i.toNat)].length,List.length_append⟩, .pf ⟨aC (u0.length+[(at' l i.toNat)].length) 4 (sV (au Short.cell u0) u0.length (au Short.cell [(at' l i.toNat)])) (au Short.cell (u0++[(at' l i.toNat)])),dw _ _ _ _⟩]<| .r<| .en (.next ((u0++[(at' l i.toNat)]),(k4 i))) [] [(20,14)]))
  (.e (.done (.brk u0))))
  (fun u5=> .cl 4 (J8 u1 p.buses) fun u2=> .rg {an:=[(5, .arr [u1,u2].length (au (aG .i64) [u1,u2]))],fr:=[(5,22)],fz:=[14,22]} [0, .pf ⟨[u1,u2].length=2,rfl⟩, .pf ⟨aC 2 1 (ou 1 (Tw u1 u2)) (au (aG .i64) [u1,u2]),(by intro i hi j hj;match i,j,hi,hj with|0,0,_,_=>rfl|1,0,_,_=>rfl)⟩]<| .lp (σ:=Int) (β:=Unit) (0) [] [] ⟨[3,4,5,9,57,58],[],fun u3=>[(59,(vI u3))],fun u3=>[]⟩ ⟨[3,4,9],[],fun _=>[],fun _=>[]⟩
  (fun u3=> .r<| .it (.a1 ((0:Int)≤u3∧u3<([u1,u2].length:Int))<| .r<| .cl 3 (yA p s_ (at' [u1,u2] u3.toNat)) fun u8=> .r<| .cl 3 (El p s_ (at' [u1,u2] u3.toNat)) fun u9=> .r<| .cg 6 [((!decide (u8.2=u9.2)),false)] (sN u8.1 u9.1) fun v5=> .r<| .it (.r<| .e (.done (.ret false)))
  (.cl 2 (rD p u8.1) fun u7=> .r<| .cl 2 (vK p u9.1) fun v0=> .r<| .cg 6 [((!decide (u7.2.2=v0.2)),false)] (adn u7 v0) fun v6=> .r<| .it (.r<| .e (.done (.ret false)))
  (.r<| .e (.next (k4 u3)))))
  (.e (.done (.brk ()))))
  (fun _=> .cl 2 (rD p u5) fun u4=> .r<| .cl 2 (vK p l) fun u6=> .r<| .cg 6 [((decide (u4.2.2=u6.2)),true)] (adn u4 u6) fun v1=> .cg 9 [((bif (decide (u4.2.2=u6.2))then v1 else false),true)] gM fun v4=> .r<| .e (bif (bif (decide (u4.2.2=u6.2))then v1 else false)then v4 else false)))))
theorem Cc (p:ah) (s_:State) (u0:(List Bool)):fD Tryz.prog 77 (X7 p s_ u0) [] (fun r=>(.iP [(sI r.1),(sI r.2)])) (fun _=>[]) (oM p s_ u0):=
  gI tT mX Tryz.func77 (
  .rg {fr:=[(0,2),(1,3)],fz:=[2,3]} []<| .cl 2 (eP p s_) fun r_=> .r<| .r<| .it (.r<| .e (0,r_))
  (.r<| .it (.r<| .e (0,1))
  (.r<| .lp (σ:=Int) (β:=Unit) (0) [] [] ⟨[2,3,4],[],fun b=>[(9,(vI b))],fun b=>[]⟩ ⟨[2,3,4],[],fun _=>[],fun _=>[]⟩
  (fun b=> .r<| .it (.a2 (k10 b u0) ((gB [((at' u0 b.toNat),true)]=true→(0:Int)≤b∧b<(s_.badBus.length:Int)))<| .rg {} [0,1]<| .it (.r<| .e (.done (.ret (0,1))))
  (.r<| .e (.next (k4 b))))
  (.e (.done (.brk ()))))
  (fun _=> .cl 3 (uR p s_ u0) fun u1=> .r<| .e (u1,0)))))
theorem Fe (x:aA):fD Tryz.prog 78 (agb x) [] (fun r=>(vI r)) (fun _=>[]) (rH x):=
  gI tT mX Tryz.func78 (
  .rg {fr:=[(0,1)],fz:=[1]} []<| .r<| .r<| .lp (σ:=(Int × Int)) (β:=Int) (0,0) [] [] ⟨[1],[],fun(n,r_)=>[(3,(vI n)),(4,(vI r_))],fun(n,r_)=>[]⟩ ⟨[],[],fun n1=>[(3,(vI n1))],fun n1=>[]⟩
  (fun(n,r_)=> .r<| .it (.a1 (EP x r_)<| .rg {} [0, .pf ⟨(0:Int)≤0∧(0:Int)<(2:Nat),(by decide)⟩,0, .pf ⟨(0:Int)≤1∧(1:Int)<(2:Nat),(by decide)⟩]<| .r<| .e (.next ((IntKind.wrap .i64 ((IntKind.wrap .i64 (n+((at' x.racks r_.toNat).e0)))+(Ma x r_))),(k4 r_))))
  (.e (.done (.brk n))))
  (fun n1=> .r<| .e n1))
theorem DC (p:ah) (s_:State) (x:aA) (u0:(List Bool)):fD Tryz.prog 28 (adG p s_ x u0) [] (fun r=>(vI r)) (fun _=>[]) (lY p s_ x u0):=
  gI tT mX Tryz.func28 (
  .rg {fr:=[(0,3),(1,4),(2,5)],fz:=[3,4,5]} []<| .cl 3 (qy p s_ x) fun r_=> .r<| .r<| .it (.r<| .e r_)
  (.cl 3 (Cc p s_ u0) fun u1=> .r<| .cg 5 [((decide (u1.2=0)),true)] (Fe x) fun u2=> .r<| .it (.r<| .r<| .e 7)
  (.r<| .e u1.2)))
end
end Sg
