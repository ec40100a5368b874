import Derived.Test.YtfndnfioogkdaaaGreatSvW2
set_option linter.all false
namespace Sg
open Go Go.Proofs
set_option maxRecDepth 20000
noncomputable section
section
variable (p:au) (r_:Int) (s_:State) (v0:Int) (v4:(Int × Network)) (v9:(List (Int × Int))) (u7:Int) (p1:(List Source)) (v5:(Int × Network)) (x0:(List Int)) (u4:(List (Int × Int))) (w0:(List (Int × Int))) (v7:Int) (u0:Int) (u2:(List aT)) (w1:Int) (x5:(Int × Network)) (p2:(List Link)) (p3:(List aT)) (x1:(List Int)) (x2:(List ah)) (u5:(List (Int × Int))) (ua:(List (ah × Int))) (v3:Int) (v6:(Int × Network)) (w9:(List bY)) (x6:(List (List Int))) (u1:Network) (i:Nat) (w5:(List Int)) (i1:Nat) (w6:(List Int)) (u3:(List (ah × Int))) (i2:Nat) (u9:(List ah))
abbrev UG:List (Nat × Option Ob):=[(Hq p),iQ]
abbrev Ym:List (Nat × TV):=[(4,(vP 65 0)),(5,(vO 66 false 0)),(6,(vI r_))]
abbrev X3:Nat × Option Ob:=(66,some (.arr 4 1 0 (aA ai ([]:List Bool))))
abbrev WE:Nat × Option Ob:=(67,some (.arr 3 1 0 (aA (aF .i64) ([]:List Int))))
abbrev Zu:List CV:=[(.own 0 false (([]:List Int).length)),(.own 1 false (([]:List Int).length)),(.own 2 false (([]:List ah).length))]
abbrev UW:List (Nat × TV):=[(2,(vP 63 0)),(nE s_),(4,(vP 65 0)),(zu p),(9,(vP 71 0))]
abbrev X6:=(IntKind.wrap .i64 ((IntKind.wrap .i64 ((IntKind.wrap .i64 ((1:Int)+p.buses))+(p.racks.length:Int)))+1))
abbrev XW:=((X6 p).toNat)
abbrev Ko:=(List.replicate (XW p) (([]:List Int):(List Int)))
abbrev Wz:=((Ko p).length)
abbrev aau:List CV:=[(.d nS),(.own 70 true (Wz p))]
abbrev aaG:Nat × Option Ob:=(71,some (.cells 93 (aau p)))
abbrev Ra:Nat × Option Ob:=(70,some (.rows 44 1 (Ko p).length (ol Ap (Ko p)) none))
abbrev Yw:Nat × Option Ob:=(71,some (.cells 93 [(.own 72 false (([]:List bY).length)),(.own 70 true (Wz p))]))
abbrev Yr:Nat × Option Ob:=(72,some (bQ 103 2 bY.cell ([]:List bY)))
abbrev aa9:=(aA ah.cell (Tv p))
abbrev aaz:List (Nat × Option Ob):=[(Hq p),iQ,(Ra p),(Yw p),Yr,(Ru p),(JY p),(Hr p),(Rk p),(77,some (BH 3 3 false false 1 1 (aF .i64) (aF .i64) ([]:(List (Int × Int))))),SC,JK]
abbrev ZB:Nat × TV:=(15,(vD (zL [(.int .i64 (YN v0 p)),(.int .i64 ((at' p.sources v0.toNat).kind)),(.int .i64 ((at' p.sources v0.toNat).power)),(.int .i64 ((at' p.sources v0.toNat).sync)),(.int .i64 ((at' p.sources v0.toNat).ohm))] 0)))
abbrev K6:Nat × Option Ob:=(70,some (.rows 44 1 v4.2.from_.length (ol Ap v4.2.from_) none))
abbrev YW:List (Nat × Option Ob):=[(Hq p),iQ,(K6 v4),(71,some (.cells 93 [(.own 87 false v4.2.ay.length),(.own 70 true v4.2.from_.length)])),(Ru p),(JY p),(Hr p),(Rk p),(77,some (BH 3 3 false false 1 1 (aF .i64) (aF .i64) (dL bA v0 v4.1 v9))),SC,JK,(87,some (bQ 103 2 bY.cell v4.2.ay))]
abbrev Xk:List (Nat × TV):=[(2,(vP 63 0)),(nE s_),(4,(vP 65 0)),(zu p),(9,(vP 71 0)),(10,(vP 76 0)),pG,nY,mo,(Pe p),(P8 p),(68,(vI (k10 v0)))]
abbrev YX:Nat × Option Ob:=(71,some (.cells 93 [(.own 72 false v4.2.ay.length),(.own 70 true v4.2.from_.length)]))
abbrev aae:Nat × TV:=(17,(vD (zL [(.int .i64 (Uc p u7)),(.int .i64 (VH p u7)),(.int .i64 ((at' p.links u7.toNat).kind)),(.int .i64 ((at' p.links u7.toNat).most)),(.int .i64 ((at' p.links u7.toNat).ohm)),(bN none 2 lW.cell ((at' p.links u7.toNat).trip))] 0)))
abbrev aaF:List (Nat × Option Ob):=[(UQ p p1),iQ,(K6 v5),(71,some (.cells 93 [(.own 95 false v5.2.ay.length),(.own 70 true v5.2.from_.length)])),(kV x0),(JY p),(Hr p),(Ut p x0),(Ay u4),(78,some (BH 3 3 false false 1 1 (aF .i64) (aF .i64) (dL bA u7 v5.1 w0))),JK,(95,some (bQ 103 2 bY.cell v5.2.ay))]
abbrev WN:List (Nat × TV):=[(2,(vP 63 0)),(nE s_),(4,(vP 65 0)),(zu p),(9,(vP 71 0)),(10,(vP 76 0)),pG,nY,mo,(Pz p),(QH p),(90,(vI (k10 u7)))]
abbrev aaM:List (Nat × TV):=[(2,(vP 63 0)),(nE s_),(4,(vP 65 0)),(8,(vI v7)),(9,(vP 71 0)),(10,(vP 76 0)),pG,nY,mo,(18,(vI u0)),(Nt u2 u0),(H6 u2),(116,(vI w1)),(117,(vI u0))]
abbrev YZ:Nat × Option Ob:=(71,some (.cells 93 [(.own 115 false x5.2.ay.length),(.own 70 true x5.2.from_.length)]))
abbrev aaK:List (Nat × Option Ob):=[(lX p p1 p2 p3),iQ,(K6 x5),(YZ x5),(kV x0),(nk x1),(ow x2),(o6 x2 x0 x1),(Ay u4),(AO u5),(Dg ua),(115,some (bQ 103 2 bY.cell x5.2.ay))]
abbrev Pp:=(at' [((at' u2 u0.toNat).feeds).e0,((at' u2 u0.toNat).feeds).e1] v3.toNat)
abbrev Zb:Nat × Option Ob:=(71,some (.cells 93 [(.own 119 false v6.2.ay.length),(.own 70 true v6.2.from_.length)]))
abbrev Yj:List (Nat × TV):=[(2,(vP 63 0)),(nE s_),(4,(vP 65 0)),(8,(vI v7)),(9,(vP 71 0)),(10,(vP 76 0)),pG,nY,mo,(18,(vI u0)),(Nt u2 u0),(H6 u2),(116,(vI w1)),(117,(vI u0)),(O9 u2 u0),(134,(vI (k10 v3)))]
abbrev Y0:List (Nat × TV):=[(2,(vP 63 0)),(nE s_),(4,(vP 65 0)),(8,(vI v7)),(9,(vP 71 0)),(10,(vP 76 0)),pG,nY,mo,(H6 u2),(116,(vI w1)),(117,(vI (k10 u0)))]
abbrev aad:Nat × Option Ob:=(71,some (.cells 93 [(.own 72 false w9.length),(.d (bN (some true) 1 (zX 1 (aF .i64)) x6))]))
abbrev aaR:List (Nat × Option Ob):=[(aad w9 x6),(J7 w9)]
abbrev Y7:List (Nat × Option Ob):=[(vJ u1),(vS u1)]
abbrev ZC:=((at' u1.ay ((IntKind.wrap .i64 (((BitVec.ofInt (IntKind.bits .i64) (at' (u4.map Prod.snd) i) ^^^ BitVec.ofInt (IntKind.bits .i64) 1).toNat:Int))).toNat)).left)
abbrev XZ:=(w5.set ((at' (u4.map Prod.fst) i).toNat) (ZC u4 u1 i))
abbrev WJ:=(aA (aF .i64) (XZ u4 u1 i w5))
abbrev ZJ:=(IntKind.wrap .i64 (((at' p2 ((at' (u5.map Prod.fst) i1).toNat)).most) - ((at' u1.ay ((at' (u5.map Prod.snd) i1).toNat)).left)))
abbrev XD:=(w6.set ((at' (u5.map Prod.fst) i1).toNat) (ZJ p2 u5 u1 i1))
abbrev WX:=(aA (aF .i64) (XD p2 u5 u1 i1 w6))
abbrev Xv:List (Nat × TV):=[(2,(vP 63 0)),(4,(vP 65 0)),(9,(vP 71 0)),(10,(vP 76 0)),(26,(vP 125 0)),(27,(vI (at' (u3.map Prod.snd) i2))),(208,(vP 122 0))]
abbrev QF:=(((at' (u3.map Prod.fst) i2).e0).toNat)
abbrev Yv:=(at' u1.ay ((IntKind.wrap .i64 (((BitVec.ofInt (IntKind.bits .i64) (at' (u3.map Prod.snd) i2) ^^^ BitVec.ofInt (IntKind.bits .i64) 1).toNat:Int))).toNat))
abbrev XV:=(u9.set (QF u3 i2) (⟨(Yv u1 u3 i2).left,(at' u9 (QF u3 i2)).e1⟩:ah))
abbrev Yf:=(aA ah.cell (XV u1 u3 i2 u9))
abbrev aak:List DV:=[(.int .i64 ((Yv u1 u3 i2).left))]
abbrev WQ:=(u9.set (QF u3 i2) (⟨(at' u9 (QF u3 i2)).e0,(Yv u1 u3 i2).left⟩:ah))
abbrev WY:=(aA ah.cell (WQ u1 u3 i2 u9))
abbrev Tz:Nat × Option Ob:=(126,some (bQ 4 1 ai (EI p)))
abbrev QY:Nat × Option Ob:=(127,some (.cells 27 [(.own 126 true ((EI p).length))]))
abbrev ZX:List (Nat × TV):=[(2,(vP 63 0)),(4,(vP 65 0)),(10,(vP 76 0)),(28,(vP 127 0)),(235,(.v (.one (.fn 58 0 1 (QC [(.ptr 128 0)])))))]
abbrev Yx:DV:=(zL [(zL [(bN none 2 bY.cell u1.ay),(VU u1)] 0)] 0)
abbrev Zz:TV:=(vD (.fn 58 1 (bT [(Yx u1)])))
abbrev Y2:List (Nat × TV):=[(2,(vP 63 0)),(4,(vP 65 0)),(10,(vP 76 0)),(28,(vP 127 0)),(235,(Zz u1))]
end
theorem sG (p:au) (s_:State) {r:(bX × (List Bool) × Int)} (h:jd p s_=some r):Fn Tryz.prog 12 (k19 s_ p) [] (.iw [(.agg [(.own 0 false r.1.sources.length),(.own 1 false r.1.links.length),(.own 2 false r.1.racks.length)]),(.one (.own 3 false r.2.1.length)),(sI r.2.2)]) [(0,some (bQ 3 1 (aF .i64) r.1.sources)),(1,some (bQ 3 1 (aF .i64) r.1.links)),(2,some (bQ 41 2 ah.cell r.1.racks)),(3,some (bQ 4 1 ai r.2.1)),(4,none)]:=by
 refine fN tT Tryz.func12 rfl rfl fun B=> ?_
 show jm _ _ _ _ _ _ (fT r) _
 unfold jd at h
 refine sz tT ⟨[(2,(vP 63 0)),(nE s_),(4,(vP 65 0))],(UG p)⟩ {fr:=[(0,63),(1,64),(2,65)] } [64] ?_
 refine aQ (aQ (bE h fun r_ hr_ h=> ?_))
 have q0:=dK p s_ hr_
 refine rg tT ⟨[(2,(vP 63 0)),(nE s_),(4,(vP 65 0)),(7,(vI r_))],(UG p)⟩ [_] {an:=[(2,cA q0 [])] } [] ⟨q0,trivial⟩ ?_
 refine sz tT ⟨[(2,(vP 63 0)),(nE s_),(4,(vP 65 0)),(7,(vI r_)),(34,(vB (!decide (r_=0))))],(UG p)⟩ {} [] ?_
 refine bI h (fun hb9 h=> ?_) (fun hb9 h=> ?_)
 ·refine ct hb9 ?_
  refine sz tT ⟨[(4,(vP 65 0)),(5,(vD nS)),(6,(vI r_))],[iQ]⟩ {} [] ?_
  refine aI (.trans (gQ.V3 (t:=5) (b:=66) (esz0:=0) (el0:=fun _ _=> .nilp) (E:=4) (esz:=1) (el:=aA ai ([]:List Bool)) (by kernel_rfl) (by kernel_rfl)) (.trans (gQ.Gc (E:=0) (esz:=0) (E0:=47) (cs:=[(.d nS),(.d nS),(.d nS)]) (p:=65) (q:=0) (b:=67) (esz0:=0) (el0:=fun _ _=> .nilp) (ob:= .arr 3 1 0 (aA (aF .i64) ([]:List Int))) (fun _ _ _ _ h=> .inl ⟨h,rfl⟩) (by kernel_rfl) (by kernel_rfl) (by kernel_rfl)) (.trans (fz ⟨(Ym r_),[(65,some (.cells 47 [(.own 67 false 0),(.d nS),(.d nS)])),X3,WE]⟩ []) (.trans (gQ.Gc (E:=0) (esz:=0) (E0:=47) (cs:=[(.own 67 false 0),(.d nS),(.d nS)]) (p:=65) (q:=1) (b:=68) (esz0:=0) (el0:=fun _ _=> .nilp) (ob:= .arr 3 1 0 (aA (aF .i64) ([]:List Int))) (fun _ _ _ _ h=> .inl ⟨h,rfl⟩) (by kernel_rfl) (by kernel_rfl) (by kernel_rfl)) (.trans (fz ⟨(Ym r_),[(65,some (.cells 47 [(.own 67 false 0),(.own 68 false 0),(.d nS)])),X3,WE,(68,some (.arr 3 1 0 (aA (aF .i64) ([]:List Int))))]⟩ []) (.trans (gQ.Gc (E:=0) (esz:=0) (E0:=47) (cs:=[(.own 67 false 0),(.own 68 false 0),(.d nS)]) (p:=65) (q:=2) (b:=69) (esz0:=0) (el0:=fun _ _=> .nilp) (ob:= .arr 41 2 0 (aA ah.cell ([]:List ah))) (fun _ _ _ _ h=> .inl ⟨h,rfl⟩) (by kernel_rfl) (by kernel_rfl) (by kernel_rfl)) (.trans (fz ⟨(Ym r_),[(65,some (.cells 47 [(.own 67 false 0),(.own 68 false 0),(.own 69 false 0)])),X3,WE,(68,some (.arr 3 1 0 (aA (aF .i64) ([]:List Int)))),(69,some (.arr 41 2 0 (aA ah.cell ([]:List ah))))]⟩ []) (.trans (gQ.fin (st':=⟨[(4,(vP 4 0)),(5,(vO 3 false 0)),(6,(vI r_))],[(0,some (.arr 3 1 0 (aA (aF .i64) ([]:List Int)))),(1,some (.arr 3 1 0 (aA (aF .i64) ([]:List Int)))),(2,some (.arr 41 2 0 (aA ah.cell ([]:List ah)))),(3,some (.arr 4 1 0 (aA ai ([]:List Bool)))),(4,some (.cells 47 [(.own 0 false 0),(.own 1 false 0),(.own 2 false 0)]))]⟩) (cs:=[]) ⟨[],[(67,0),(68,1),(69,2),(66,3),(65,4)]⟩ [4,5,6] (by kernel_rfl) trivial) (gQ.le (st':=⟨[(4,(vP 4 0)),(5,(vO 3 false (([]:List Bool).length))),(6,(vI r_))],[(0,some (bQ 3 1 (aF .i64) ([]:List Int))),(1,some (bQ 3 1 (aF .i64) ([]:List Int))),(2,some (bQ 41 2 ah.cell ([]:List ah))),(3,some (bQ 4 1 ai ([]:List Bool))),(4,some (.cells 47 Zu))]⟩) ⟨⟨tR,⟨_,rfl,zC.v (F5.one (mV.of (congrArg (CV.own _ _) (by simp only [List.length_set,List.length_append,List.length_cons,List.length_nil,List.length_replicate,List.length_drop,fq]))))⟩,tR,trivial⟩,⟨rfl,qA (by simp only [List.length_set,List.length_append,List.length_cons,List.length_nil,List.length_replicate,List.length_drop,fq]),⟨rfl,qA (by simp only [List.length_set,List.length_append,List.length_cons,List.length_nil,List.length_replicate,List.length_drop,fq]),⟨rfl,qA (by simp only [List.length_set,List.length_append,List.length_cons,List.length_nil,List.length_replicate,List.length_drop,fq]),⟨rfl,qA (by simp only [List.length_set,List.length_append,List.length_cons,List.length_nil,List.length_replicate,List.length_drop,fq]),⟨rfl,iK ⟨mV.of (congrArg (CV.own _ _) (by simp only [List.length_set,List.length_append,List.length_cons,List.length_nil,List.length_replicate,List.length_drop,fq])),mV.of (congrArg (CV.own _ _) (by simp only [List.length_set,List.length_append,List.length_cons,List.length_nil,List.length_replicate,List.length_drop,fq])),mV.of (congrArg (CV.own _ _) (by simp only [List.length_set,List.length_append,List.length_cons,List.length_nil,List.length_replicate,List.length_drop,fq])),trivial⟩,trivial⟩⟩⟩⟩⟩⟩))))))))) ?_
  refine aR ?_
  obtain rfl:=oi h
  exact rh [(.agg Zu),(.one (.own 3 false (([]:List Bool).length))),(sI r_)] (.refl _) (hN 4 ⟨rfl,trivial,trivial⟩)
 ·refine cf hb9 ?_
  refine aP (sz tT ⟨[(2,(vP 63 0)),(nE s_),(4,(vP 65 0)),(zu p)],(UG p)⟩ {} [] ?_)
  refine aQ (aO h fun⟨a1,a2,a3⟩ h=> ?_)
  refine ri tT ⟨(UW p s_),[(Hq p),iQ,(70,some (.arr 44 1 (Ko p).length (fun _ j=>[nS].getD j .nilp))),(aaG p)]⟩ [_,((X6 p):Int)=(X6 p),_,_,(Ko p).length=(XW p),aU (XW p) 1 (fun _ j=>[nS].getD j .nilp) (fun _ j=>[nS].getD j .nilp)] {an:=[(2, .arr (Ko p).length (fun _ j=>[nS].getD j .nilp))],fr:=[(2,70),(4,71)] } [] ⟨a1,rfl,a2,a3,(List.length_replicate),(oZ _ _ _),trivial⟩ (.trans (gQ.Rq (b:=70) (E:=44) (esz:=1) (len:=(Ko p).length) (el:=(fun _ j=>[nS].getD j .nilp)) (el':=ol Ap (Ko p)) (by kernel_rfl) (fun i hi j hj=>match j,hj with|0,_=>RA _ _ _ _ _ _ _ _)) (.trans (fz ⟨(UW p s_),[(Hq p),iQ,(Ra p),(aaG p)]⟩ []) (.trans (gQ.Gc (E:=0) (esz:=0) (E0:=93) (cs:=(aau p)) (p:=71) (q:=0) (b:=72) (esz0:=0) (el0:=fun _ _=> .nilp) (ob:= .arr 103 2 0 (aA bY.cell ([]:List bY))) (fun _ _ _ _ h=> .inl ⟨h,rfl⟩) (by kernel_rfl) (by kernel_rfl) (by kernel_rfl)) (.trans (fz ⟨(UW p s_),[(Hq p),iQ,(Ra p),(71,some (.cells 93 [(.own 72 false 0),(.own 70 true (Wz p))])),(72,some (.arr 103 2 0 (aA bY.cell ([]:List bY))))]⟩ []) (gQ.le (st':=⟨(UW p s_),[(Hq p),iQ,(Ra p),(Yw p),Yr]⟩) ⟨⟨tR,tR,tR,tR,tR,trivial⟩,(hN 3 ⟨rfl,iK ⟨mV.of (congrArg (CV.own _ _) (by simp only [List.length_set,List.length_append,List.length_cons,List.length_nil,List.length_replicate,List.length_drop,fq])),mV.refl _,trivial⟩,⟨rfl,qA (by simp only [List.length_set,List.length_append,List.length_cons,List.length_nil,List.length_replicate,List.length_drop,fq]),trivial⟩⟩)⟩))))) ?_
  refine aQ (aO h fun⟨a1,a2,a3,a4,a5,a6,a7,a8,a9⟩ h=> ?_)
  refine dg tT mX ⟨[(2,(vP 63 0)),(nE s_),(4,(vP 65 0)),(zu p),(9,(vP 71 0)),(10,(vP 76 0))],[(Hq p),iQ,(Ra p),(Yw p),Yr,(Ru p),(JY p),(Hr p),(Rk p)]⟩ [_,((p.sources.length:Int):Int)=(p.sources.length:Int),_,_,(PU p).length=((p.sources.length:Int).toNat),aU ((p.sources.length:Int).toNat) 1 (fun _ j=>[(.int .i64 0)].getD j .nilp) (aA (aF .i64) (PU p)),_,((p.links.length:Int):Int)=(p.links.length:Int),_,_,(Ny p).length=((p.links.length:Int).toNat),aU ((p.links.length:Int).toNat) 1 (fun _ j=>[(.int .i64 0)].getD j .nilp) (aA (aF .i64) (Ny p)),_,((p.racks.length:Int):Int)=(p.racks.length:Int),_,_,(Tv p).length=((p.racks.length:Int).toNat),aU ((p.racks.length:Int).toNat) 2 (fun _ j=>[(.int .i64 0),(.int .i64 0)].getD j .nilp) (aa9 p)] {an:=[(3, .arr (PU p).length (aA (aF .i64) (PU p))),(7, .arr (Ny p).length (aA (aF .i64) (Ny p))),(11, .arr (Tv p).length (aa9 p))],fr:=[(3,73),(7,74),(11,75),(13,76)] } [] ⟨a1,rfl,a2,a3,(List.length_replicate),(lH _ _ _ _ _ (fun j hj=>(match j,hj with|0,_=>rfl))),a4,rfl,a5,a6,(List.length_replicate),(lH _ _ _ _ _ (fun j hj=>(match j,hj with|0,_=>rfl))),a7,rfl,a8,a9,(List.length_replicate),(lH _ _ _ _ _ (fun j hj=>(match j,hj with|0,_=>rfl|1,_=>rfl))),trivial⟩ ?_
  refine sz tT ⟨(SB s_ p),(aaz p)⟩ {an:=[(0, .map 0 (pO (aF .i64) ([]:(List (Int × Int)))) (pY (aF .i64) ([]:(List (Int × Int)))) []),(1, .map 0 (pO (aF .i64) ([]:(List (Int × Int)))) (pY (aF .i64) ([]:(List (Int × Int)))) []),(2, .map 0 (pO ah.cell ([]:(List (ah × Int)))) (pY (aF .i64) ([]:(List (ah × Int)))) [])],fr:=[(0,77),(1,78),(2,79)] } [] ?_
  refine aQ (sz tT ⟨[(2,(vP 63 0)),(nE s_),(4,(vP 65 0)),(zu p),(9,(vP 71 0)),(10,(vP 76 0)),pG,nY,mo,(Pe p),(P8 p),(68,(vI 0))],(aaz p)⟩ {} [] ?_)
  refine bE h fun y hy h=> ?_
  refine aL [] (rZ p s_) (sF p s_) fT hy (fun s f h=> ?_) ?_
  ·clear hy
   show jm _ _ _ _ _ _ ((Bn p s_) f) _
   unfold jY at h
   obtain⟨n0,n1,v9,v0⟩:=s
   refine sz tT ⟨[(2,(vP 63 0)),(nE s_),(4,(vP 65 0)),(zu p),(9,(vP 71 0)),(10,(vP 76 0)),pG,nY,mo,(Pe p),(P8 p),(68,(vI v0)),(69,(vB (decide (v0<(p.sources.length:Int)))))],(Py p n1 n0 v9)⟩ {} [] ?_
   refine aQ ?_
   refine bI h (fun hb1 h=> ?_) (fun hb1 h=> ?_)
   ·refine ct hb1 ?_
    refine aP (aQ (aB (aQ (aO h fun a1 h=> ?_))))
    refine rg tT ⟨[(2,(vP 63 0)),(nE s_),(4,(vP 65 0)),(zu p),(9,(vP 71 0)),(10,(vP 76 0)),pG,nY,mo,(14,(vI v0)),(ZB p v0),(Pe p),(P8 p),(68,(vI v0))],(Py p n1 n0 v9)⟩ [_] {fr:=[(3,86)] } [86] ⟨a1,trivial⟩ ?_
    refine aQ (bE h fun ui hr_1 h=> ?_)
    have q0:=EB p s_ v0 hr_1
    refine rg tT ⟨[(2,(vP 63 0)),(nE s_),(4,(vP 65 0)),(zu p),(9,(vP 71 0)),(10,(vP 76 0)),pG,nY,mo,(14,(vI v0)),(ZB p v0),(Pe p),(P8 p),(68,(vI v0)),(76,(vB ui))],(Py p n1 n0 v9)⟩ [_] {an:=[(3,cA q0 [])] } [] ⟨q0,trivial⟩ ?_
    refine bI h (fun hb h=> ?_) (fun hb h=> ?_)
    ·refine ct hb ?_
     refine bE h fun v4 hr_2 h=> ?_
     have q0:=rk [(0,71),(1,72),(2,70),(3,87)] (iU 0 (IntKind.wrap .i64 ((1:Int)+(YN v0 p))) ((at' p.sources v0.toNat).power) 0 (⟨n0,n1⟩:Network) hr_2)
     refine rg tT ⟨(ZW s_ p v0),(YW p v0 v4 v9)⟩ [_,qf [some .i64] 1 1 v9.length (pO (aF .i64) v9) (pY (aF .i64) v9) [(.int .i64 v0)] [(cI v4.1)] [] (dL bA v0 v4.1 v9).length (pO (aF .i64) (dL bA v0 v4.1 v9)) (pY (aF .i64) (dL bA v0 v4.1 v9))] {an:=[(8,cA q0 [71,72,70]),(9, .map (dL bA v0 v4.1 v9).length (pO (aF .i64) (dL bA v0 v4.1 v9)) (pY (aF .i64) (dL bA v0 v4.1 v9)) [])] } [] ⟨q0,(vU (fun _=>rfl) (fun _ _=>rfl) v9 v0 v4.1 rfl rfl),trivial⟩ ?_
     refine ri tT ⟨(Xk p s_ v0),(YW p v0 v4 v9)⟩ [] {} [] trivial (gQ.fin (st':=⟨(Xk p s_ v0),[(Hq p),iQ,(K6 v4),(YX v4),(72,some (bQ 103 2 bY.cell v4.2.ay)),(Ru p),(JY p),(Hr p),(Rk p),(77,some (BH 3 3 false false 1 1 (aF .i64) (aF .i64) (dL bA v0 v4.1 v9))),SC,JK]⟩) (cs:=[]) ⟨[],[(63,63),(65,65),(70,70),(71,71),(87,72),(73,73),(74,74),(75,75),(76,76),(77,77),(78,78),(79,79)]⟩ [2,3,4,8,9,10,11,12,13,66,67,68] (by kernel_rfl) trivial) ?_
     obtain rfl:=oi h
     exact lN
    ·refine cf hb ?_
     refine aP (rz tT ⟨(Xk p s_ v0),(Py p n1 n0 v9)⟩ {} [] ?_)
     obtain rfl:=oi h
     exact lN
   ·refine cf hb1 ?_
    refine aI (fz ⟨(SB s_ p),(Py p n1 n0 v9)⟩ []) ?_
    refine aX ?_
    obtain rfl:=oi h
    exact lB
  ·clear hy
   cases y with
   |brk z=>
    obtain⟨p1,ue,uc,x0,u4⟩:=z
    unfold VQ
    refine⟨_, .refl, ?_⟩
    refine aQ (sz tT ⟨[(2,(vP 63 0)),(nE s_),(4,(vP 65 0)),(zu p),(9,(vP 71 0)),(10,(vP 76 0)),pG,nY,mo,(Pz p),(QH p),(90,(vI 0))],(aaH p p1 x0 uc ue u4)⟩ {} [] ?_)
    refine bE h fun y1 hy h=> ?_
    refine aL [] (rV p s_ p1 x0 u4) (rA p s_ p1 x0 u4) fT hy (fun s f h=> ?_) ?_
    ·clear hy
     show jm _ _ _ _ _ _ ((Bj p s_ p1 x0 u4) f) _
     unfold jZ at h
     obtain⟨w7,w3,w0,u7⟩:=s
     refine sz tT ⟨[(2,(vP 63 0)),(nE s_),(4,(vP 65 0)),(zu p),(9,(vP 71 0)),(10,(vP 76 0)),pG,nY,mo,(Pz p),(QH p),(90,(vI u7)),(91,(vB (decide (u7<(p.links.length:Int)))))],(PD p w0 p1 w3 w7 x0 u4)⟩ {} [] ?_
     refine aQ ?_
     refine bI h (fun hb3 h=> ?_) (fun hb3 h=> ?_)
     ·refine ct hb3 ?_
      refine aP (aQ (aB (aQ (aO h fun a1 h=> ?_))))
      refine rg tT ⟨[(2,(vP 63 0)),(nE s_),(4,(vP 65 0)),(zu p),(9,(vP 71 0)),(10,(vP 76 0)),pG,nY,mo,(16,(vI u7)),(aae p u7),(Pz p),(QH p),(90,(vI u7))],(PD p w0 p1 w3 w7 x0 u4)⟩ [_] {fr:=[(3,94)] } [94] ⟨a1,trivial⟩ ?_
      refine aQ (bE h fun uj hr_3 h=> ?_)
      have q0:=Bl (⟨p.buses,p1,p.links,p.racks⟩:au) s_ u7 hr_3
      refine rg tT ⟨[(2,(vP 63 0)),(nE s_),(4,(vP 65 0)),(zu p),(9,(vP 71 0)),(10,(vP 76 0)),pG,nY,mo,(16,(vI u7)),(aae p u7),(Pz p),(QH p),(90,(vI u7)),(98,(vB uj))],(PD p w0 p1 w3 w7 x0 u4)⟩ [_] {an:=[(3,cA q0 [])] } [] ⟨q0,trivial⟩ ?_
      refine bI h (fun hb2 h=> ?_) (fun hb2 h=> ?_)
      ·refine ct hb2 ?_
       refine bE h fun v5 hr_4 h=> ?_
       have q0:=rk [(0,71),(1,72),(2,70),(3,95)] (iU (IntKind.wrap .i64 ((1:Int)+(Uc p u7))) (IntKind.wrap .i64 ((1:Int)+(VH p u7))) ((at' p.links u7.toNat).most) ((at' p.links u7.toNat).most) (⟨w7,w3⟩:Network) hr_4)
       refine rg tT ⟨(Y1 p s_ u7),(aaF p u7 p1 v5 x0 u4 w0)⟩ [_,qf [some .i64] 1 1 w0.length (pO (aF .i64) w0) (pY (aF .i64) w0) [(.int .i64 u7)] [(cI v5.1)] [] (dL bA u7 v5.1 w0).length (pO (aF .i64) (dL bA u7 v5.1 w0)) (pY (aF .i64) (dL bA u7 v5.1 w0))] {an:=[(13,cA q0 [71,72,70]),(14, .map (dL bA u7 v5.1 w0).length (pO (aF .i64) (dL bA u7 v5.1 w0)) (pY (aF .i64) (dL bA u7 v5.1 w0)) [])] } [] ⟨q0,(vU (fun _=>rfl) (fun _ _=>rfl) w0 u7 v5.1 rfl rfl),trivial⟩ ?_
       refine ri tT ⟨(WN p s_ u7),(aaF p u7 p1 v5 x0 u4 w0)⟩ [] {} [] trivial (gQ.fin (st':=⟨(WN p s_ u7),[(UQ p p1),iQ,(K6 v5),(YX v5),(72,some (bQ 103 2 bY.cell v5.2.ay)),(kV x0),(JY p),(Hr p),(Ut p x0),(Ay u4),(78,some (BH 3 3 false false 1 1 (aF .i64) (aF .i64) (dL bA u7 v5.1 w0))),JK]⟩) (cs:=[]) ⟨[],[(63,63),(65,65),(70,70),(71,71),(95,72),(73,73),(74,74),(75,75),(76,76),(77,77),(78,78),(79,79)]⟩ [2,3,4,8,9,10,11,12,13,88,89,90] (by kernel_rfl) trivial) ?_
       obtain rfl:=oi h
       exact lN
      ·refine cf hb2 ?_
       refine aP (rz tT ⟨(WN p s_ u7),(PD p w0 p1 w3 w7 x0 u4)⟩ {} [] ?_)
       obtain rfl:=oi h
       exact lN
     ·refine cf hb3 ?_
      refine aI (fz ⟨(SB s_ p),(PD p w0 p1 w3 w7 x0 u4)⟩ []) ?_
      refine aX ?_
      obtain rfl:=oi h
      exact lB
    ·clear hy
     cases y1 with
     |brk z=>
      obtain⟨p2,uf,ud,x1,u5⟩:=z
      unfold VQ
      refine⟨_, .refl, ?_⟩
      refine aQ (sz tT ⟨[(2,(vP 63 0)),(nE s_),(4,(vP 65 0)),(zu p),(9,(vP 71 0)),(10,(vP 76 0)),pG,nY,mo,(115,(vD (bN none 4 aT.cell p.racks))),(116,(vI (p.racks.length:Int))),(117,(vI 0))],(ZG x1 p p1 p2 ud uf x0 u4 u5)⟩ {} [] ?_)
      refine bE h fun y3 hy h=> ?_
      refine aL [] (sP p s_ p1 x0 u4 p2 x1 u5) (rC p p1 x0 u4 p2 x1 u5) fT hy (fun s f h=> ?_) ?_
      ·clear hy
       show jm _ _ _ _ _ _ ((ni p s_ p1 x0 u4 p2 x1 u5) f) _
       unfold jV at h
       obtain⟨p3,v7,x7,x4,x2,ua,u2,w1,u0⟩:=s
       refine sz tT ⟨[(2,(vP 63 0)),(nE s_),(4,(vP 65 0)),(8,(vI v7)),(9,(vP 71 0)),(10,(vP 76 0)),pG,nY,mo,(H6 u2),(116,(vI w1)),(117,(vI u0)),(118,(vB (decide (u0<w1))))],(S9 p p1 p2 p3 x2 x0 x1 ua x4 x7 u4 u5)⟩ {} [] ?_
       refine aQ ?_
       refine bI h (fun hb6 h=> ?_) (fun hb6 h=> ?_)
       ·refine ct hb6 ?_
        refine aP (aQ (aB (aQ (aO h fun a1 h=> ?_))))
        refine rg tT ⟨(aaM s_ v7 u0 u2 w1),(S9 p p1 p2 p3 x2 x0 x1 ua x4 x7 u4 u5)⟩ [_] {fr:=[(3,114)] } [114] ⟨a1,trivial⟩ ?_
        refine aQ (bE h fun x5 hr_5 h=> ?_)
        have q0:=rk [(0,71),(1,72),(2,70),(3,115)] (iU (IntKind.wrap .i64 ((IntKind.wrap .i64 ((1:Int)+p.buses))+u0)) v7 ((at' u2 u0.toNat).power) 0 (⟨x7,x4⟩:Network) hr_5)
        refine rg tT ⟨(aaM s_ v7 u0 u2 w1),(aaK p p1 x0 u4 x5 p2 p3 x1 x2 u5 ua)⟩ [_] {an:=[(9,cA q0 [71,72,70])] } [] ⟨q0,trivial⟩ ?_
        refine sz tT ⟨[(2,(vP 63 0)),(nE s_),(4,(vP 65 0)),(8,(vI v7)),(9,(vP 71 0)),(10,(vP 76 0)),pG,nY,mo,(18,(vI u0)),(Nt u2 u0),(H6 u2),(116,(vI w1)),(117,(vI u0)),(O9 u2 u0),(134,(vI 0))],(aaK p p1 x0 u4 x5 p2 p3 x1 x2 u5 ua)⟩ {} [] ?_
        refine bE h fun y2 hy h=> ?_
        refine aL [5] (rH p s_ p1 x0 u4 p2 x1 u5 p3 v7 x2 u2 w1 u0) (rY p s_ p1 x0 u4 p2 x1 u5 p3 v7 x2 u2 w1 u0) (ni p s_ p1 x0 u4 p2 x1 u5) hy (fun s f h=> ?_) ?_
        ·clear hy
         show jm _ _ _ _ _ _ ((Az p s_ p1 x0 u4 p2 x1 u5 p3 v7 x2 u2 w1 u0) f) _
         unfold ig at h
         obtain⟨w8,w4,w2,v3⟩:=s
         refine sz tT ⟨[(2,(vP 63 0)),(nE s_),(4,(vP 65 0)),(8,(vI v7)),(9,(vP 71 0)),(10,(vP 76 0)),pG,nY,mo,(18,(vI u0)),(Nt u2 u0),(H6 u2),(116,(vI w1)),(117,(vI u0)),(O9 u2 u0),(134,(vI v3)),(135,(vB (decide (v3<2))))],(Oe p p1 p2 p3 w4 w8 x0 x1 x2 u4 u5 w2)⟩ {} [] ?_
         refine aQ ?_
         refine bI h (fun hb5 h=> ?_) (fun hb5 h=> ?_)
         ·refine ct hb5 ?_
          refine aP (aQ (aB (aQ (aO h fun a1 h=> ?_))))
          refine rg tT ⟨[(2,(vP 63 0)),(nE s_),(4,(vP 65 0)),(8,(vI v7)),(9,(vP 71 0)),(10,(vP 76 0)),pG,nY,mo,(18,(vI u0)),(Nt u2 u0),(20,(vI v3)),(21,(vI (Pp u0 u2 v3))),(H6 u2),(116,(vI w1)),(117,(vI u0)),(O9 u2 u0),(134,(vI v3))],(Oe p p1 p2 p3 w4 w8 x0 x1 x2 u4 u5 w2)⟩ [_,v3.toNat*1+1≤(WV u2 u0).length,((WV u2 u0).drop (v3.toNat*1)).take 1=[(.int .i64 (Pp u0 u2 v3))].map .d] {an:=[(1, .vals [(.int .i64 (Pp u0 u2 v3))])] } [] ⟨a1,(Xn (n:=2) (sz:=1) (Nat.le_refl _) a1),(Yc (n:=2) (sz:=1) (g:=fun q=>[(cI (at' [((at' u2 u0.toNat).feeds).e0,((at' u2 u0.toNat).feeds).e1] q))]) (by intro q hq;match q,hq with|0,_=>rfl|1,_=>rfl) a1),trivial⟩ ?_
          refine aQ (bE h fun ul hr_6 h=> ?_)
          have q0:=Cm s_ (Pp u0 u2 v3) hr_6
          refine rg tT ⟨[(2,(vP 63 0)),(nE s_),(4,(vP 65 0)),(8,(vI v7)),(9,(vP 71 0)),(10,(vP 76 0)),pG,nY,mo,(18,(vI u0)),(Nt u2 u0),(20,(vI v3)),(21,(vI (Pp u0 u2 v3))),(H6 u2),(116,(vI w1)),(117,(vI u0)),(O9 u2 u0),(134,(vI v3)),(140,(vB ul))],(Oe p p1 p2 p3 w4 w8 x0 x1 x2 u4 u5 w2)⟩ [_] {an:=[(2,cA q0 [])] } [] ⟨q0,trivial⟩ ?_
          refine bI h (fun hb4 h=> ?_) (fun hb4 h=> ?_)
          ·refine ct hb4 ?_
           refine bE h fun v6 hr_7 h=> ?_
           have q0:=rk [(0,71),(1,115),(2,70),(3,119)] (iU (IntKind.wrap .i64 ((1:Int)+(Pp u0 u2 v3))) (IntKind.wrap .i64 ((IntKind.wrap .i64 ((1:Int)+p.buses))+u0)) ((at' u2 u0.toNat).power) 0 (⟨w8,w4⟩:Network) hr_7)
           refine rg tT ⟨(aa2 u2 u0 s_ v7 w1 v3),[(lX p p1 p2 p3),iQ,(K6 v6),(Zb v6),(kV x0),(nk x1),(ow x2),(o6 x2 x0 x1),(Ay u4),(AO u5),(79,some (BH 41 3 true false 2 1 ah.cell (aF .i64) (dL (fun a b=>(decide (a.e0=b.e0) && (decide (a.e1=b.e1) && true))) (⟨u0,v3⟩:ah) v6.1 w2))),(119,some (bQ 103 2 bY.cell v6.2.ay))]⟩ [_,qf [some .i64,some .i64] 2 1 w2.length (pO ah.cell w2) (pY (aF .i64) w2) [(.int .i64 u0),(.int .i64 v3)] [(cI v6.1)] [] (dL (fun a b=>(decide (a.e0=b.e0) && (decide (a.e1=b.e1) && true))) (⟨u0,v3⟩:ah) v6.1 w2).length (pO ah.cell (dL (fun a b=>(decide (a.e0=b.e0) && (decide (a.e1=b.e1) && true))) (⟨u0,v3⟩:ah) v6.1 w2)) (pY (aF .i64) (dL (fun a b=>(decide (a.e0=b.e0) && (decide (a.e1=b.e1) && true))) (⟨u0,v3⟩:ah) v6.1 w2))] {an:=[(14,cA q0 [71,115,70]),(15, .map (dL (fun a b=>(decide (a.e0=b.e0) && (decide (a.e1=b.e1) && true))) (⟨u0,v3⟩:ah) v6.1 w2).length (pO ah.cell (dL (fun a b=>(decide (a.e0=b.e0) && (decide (a.e1=b.e1) && true))) (⟨u0,v3⟩:ah) v6.1 w2)) (pY (aF .i64) (dL (fun a b=>(decide (a.e0=b.e0) && (decide (a.e1=b.e1) && true))) (⟨u0,v3⟩:ah) v6.1 w2)) [])] } [] ⟨q0,(vU (fun _=>rfl) (fun _ _=>rfl) w2 (⟨u0,v3⟩:ah) v6.1 rfl rfl),trivial⟩ ?_
           refine ri tT ⟨(Yj s_ v7 u0 u2 w1 v3),[(lX p p1 p2 p3),iQ,(K6 v6),(Zb v6),(kV x0),(nk x1),(ow x2),(o6 x2 x0 x1),(Ay u4),(AO u5),(79,some (BH 41 3 true false 2 1 ah.cell (aF .i64) (dL (fun a b=>(decide (a.e0=b.e0) && (decide (a.e1=b.e1) && true))) (⟨u0,v3⟩:ah) v6.1 w2))),(119,some (bQ 103 2 bY.cell v6.2.ay))]⟩ [] {} [] trivial (gQ.fin (st':=⟨(Yj s_ v7 u0 u2 w1 v3),[(lX p p1 p2 p3),iQ,(K6 v6),(YZ v6),(kV x0),(nk x1),(ow x2),(o6 x2 x0 x1),(Ay u4),(AO u5),(79,some (BH 41 3 true false 2 1 ah.cell (aF .i64) (dL (fun a b=>(decide (a.e0=b.e0) && (decide (a.e1=b.e1) && true))) (⟨u0,v3⟩:ah) v6.1 w2))),(115,some (bQ 103 2 bY.cell v6.2.ay))]⟩) (cs:=[]) ⟨[],[(63,63),(65,65),(70,70),(71,71),(73,73),(74,74),(75,75),(76,76),(77,77),(78,78),(79,79),(119,115)]⟩ [2,3,4,8,9,10,11,12,13,18,19,115,116,117,133,134] (by kernel_rfl) trivial) ?_
           obtain rfl:=oi h
           exact lN
          ·refine cf hb4 ?_
           refine aP (rz tT ⟨(Yj s_ v7 u0 u2 w1 v3),(Oe p p1 p2 p3 w4 w8 x0 x1 x2 u4 u5 w2)⟩ {} [] ?_)
           obtain rfl:=oi h
           exact lN
         ·refine cf hb5 ?_
          refine aI (fz (abj s_ v7 u2 w1 u0 p p1 p2 p3 w4 w8 x0 x1 x2 u4 u5 w2) []) ?_
          refine aX ?_
          obtain rfl:=oi h
          exact lB
        ·clear hy
         cases y2 with
         |brk z=>
          obtain⟨ub,x8,ug⟩:=z
          unfold VQ
          refine⟨_, .refl, ?_⟩
          refine ri tT ⟨(Y0 s_ v7 u0 u2 w1),(Oe p p1 p2 p3 x8 ub x0 x1 x2 u4 u5 ug)⟩ [] {} [] trivial (gQ.fin (st':=⟨(Y0 s_ v7 u0 u2 w1),(S9 p p1 p2 p3 x2 x0 x1 ug x8 ub u4 u5)⟩) (cs:=[]) ⟨[],[(63,63),(65,65),(70,70),(71,71),(115,72),(73,73),(74,74),(75,75),(76,76),(77,77),(78,78),(79,79)]⟩ [2,3,4,8,9,10,11,12,13,115,116,117] (by kernel_rfl) trivial) ?_
          obtain rfl:=oi h
          exact lN
         |ret v=>
          obtain rfl:=oi h
          unfold VQ
          intro e st hn ha hR
          cases e with
          |normal=>exact absurd rfl hn
          |exit id=>simp only [W9 (b:=5) ha rfl,cond_false];exact hR
          |goto l=>exact hR
          |ret=>exact hR
          |panic c=>exact hR
          |outgrown=>exact hR
       ·refine cf hb6 ?_
        refine aI (fz (aaT v7 p p1 p2 p3 x4 x7 x0 x1 x2 u4 u5 ua) []) ?_
        refine aX ?_
        obtain rfl:=oi h
        exact lB
      ·clear hy
       cases y3 with
       |brk z=>
        obtain⟨v1,x9,w9,x6,v2,u3⟩:=z
        unfold VQ
        refine⟨_, .refl, ?_⟩
        refine aQ (aI (.trans (fi ⟨(Ww x9),[(lX p p1 p2 v1),iQ,(71,some (.cells 93 [(.own 72 false w9.length),(.d (.sl (some true) 1 x6.length (fun i j=>evD (ol Ap x6 i j))))])),(J7 w9),(kV x0),(nk x1),(ow v2),(o6 v2 x0 x1),(Ay u4),(AO u5),(Dg u3)]⟩ [x6.length=x6.length] [70] ⟨rfl,trivial⟩) (gQ.le (st':=⟨(Ww x9),[(lX p p1 p2 v1),iQ,(aad w9 x6),(J7 w9),(kV x0),(nk x1),(ow v2),(o6 v2 x0 x1),(Ay u4),(AO u5),(Dg u3)]⟩) ⟨⟨tR,tR,tR,tR,tR,tR,tR,tR,trivial⟩,(hN 2 ⟨rfl,iK ⟨mV.refl _,mV.d (pW.sl (.inr rfl) (fun i _ j hj=>match j,hj with|0,_=> .refl _)),trivial⟩,(.refl _)⟩)⟩)) ?_)
        refine bE h fun u1 hr_8 h=> ?_
        refine rg tT ⟨[(2,(vP 63 0)),(4,(vP 65 0)),(9,(vP 71 0)),(10,(vP 76 0)),pG,nY,mo],[(lX p p1 p2 v1),iQ,(vJ u1),(vS u1),(kV x0),(nk x1),(ow v2),(o6 v2 x0 x1),(Ay u4),(AO u5),(Dg u3)]⟩ [Fn Tryz.prog 30 [(.one (.ptr 71 0)),(sI x9)] (aaR w9 x6) (.iw []) (Y7 u1)] {an:=[(2, .call [71,72] (.iw []) (Y7 u1))] } [] ⟨(Fn.leH (args:=[(.one (.ptr 71 0)),(sI x9)]) (args':=[(.one (.ptr 71 0)),(sI x9)]) (hin:=[(71,some (.cells 93 [(.own 72 false w9.length),(.d (bN none 1 (zX 1 (aF .i64)) x6))])),(J7 w9)]) (hin':=(aaR w9 x6)) (rK [(0,71),(1,72)] (wP x9 (⟨w9,x6⟩:Network) hr_8)) ⟨F5.refl _,F5.refl _,trivial⟩ ⟨rfl,iK ⟨mV.refl _,mV.d pW.xX,trivial⟩,(.refl _)⟩),trivial⟩ ?_
        refine aQ (bE h fun y4 hy h=> ?_)
        refine wS (AQ p p1 p2 x1 u5 v1 v2 u3 u1) (K:=3) (V:=3) (s0:=(x0)) ⟨3,3,false,false,1,1,u4.length,pO (aF .i64) u4,pY (aF .i64) u4,[]⟩ 77 120 (fun i=>(sI (at' (u4.map Prod.fst) i))) (fun i=>(sI (at' (u4.map Prod.snd) i))) hy [3,4] (by kernel_rfl) (by kernel_rfl) (by kernel_rfl) (fun _ _=> ⟨rfl,rfl⟩) (fun _ _=> ⟨Cx _ _,Cx _ _⟩) (fun _=>(gQ.fin (st':=(ZY u1 p p1 p2 v1 x0 x1 v2 u5 u3)) (cs:=[]) ⟨[],[(63,63),(65,65),(71,71),(72,72),(73,73),(74,74),(75,75),(76,76),(78,78),(79,79),(120,120)]⟩ [2,4,9,10,12,13,162] (by kernel_rfl) trivial)) (fun s=>by obtain⟨w5,rfl⟩: ∃q,q=s:=⟨_,rfl⟩;kernel_rfl) (fun B s i s' hi h=> ?_) ?_
        ·clear hy
         unfold mG at h
         obtain⟨w5,rfl⟩: ∃q,q=s:=⟨_,rfl⟩
         refine rwp tT (⟨[(2,(vP 63 0)),(4,(vP 65 0)),(9,(vP 71 0)),(10,(vP 76 0)),nY,mo,(22,(vI (at' (u4.map Prod.fst) i))),(23,(vI (at' (u4.map Prod.snd) i))),(162,(vP 120 0))],(aa6 u1 p p1 p2 v1 w5 x1 v2 u5 u3)⟩) {fin:=⟨[],[(63,63),(65,65),(71,71),(72,72),(73,73),(74,74),(75,75),(76,76),(78,78),(79,79),(120,120)]⟩,ts:=[2,4,9,10,12,13,22,23,162] } (cs:=[]) (by kernel_rfl) trivial .refl ?_
         refine aO h fun⟨a1,a2⟩ h=> ?_
         refine di tT mX ⟨WK,[(lX p p1 p2 v1),iQ,(vJ u1),(vS u1),(73,some (.arr 3 1 w5.length (WJ u4 u1 i w5))),(nk x1),(ow v2),(o6 v2 w5 x1),(AO u5),(Dg u3),(120,none)]⟩ [_,_,_,_,aU w5.length 1 (mh (aA (aF .i64) w5) ((at' (u4.map Prod.fst) i).toNat) 0 [(.int .i64 (ZC u4 u1 i))]) (WJ u4 u1 i w5)] {an:=[(13, .arr 0 (WJ u4 u1 i w5))] } [] ⟨a1,(tL a1),a2,(tL a2),(dB _ _ _ _ _ _ _ _ rfl (fun j hj=>(match j,hj with|0,_=>rfl))),trivial⟩ (gQ.le (st':=⟨WK,[(lX p p1 p2 v1),iQ,(vJ u1),(vS u1),(73,some (bQ 3 1 (aF .i64) (XZ u4 u1 i w5))),(nk x1),(ow v2),(76,some (.cells 47 [(.own 73 true ((XZ u4 u1 i w5).length)),(.own 74 true x1.length),(.own 75 true v2.length)])),(AO u5),(Dg u3),(120,none)]⟩) ⟨⟨tR,tR,tR,tR,tR,tR,tR,trivial⟩,(hN 4 ⟨rfl,qA (by simp only [List.length_set,List.length_append,List.length_cons,List.length_nil,List.length_replicate,List.length_drop,fq]),(hN 2 ⟨rfl,iK ⟨mV.of (congrArg (CV.own _ _) (by simp only [List.length_set,List.length_append,List.length_cons,List.length_nil,List.length_replicate,List.length_drop,fq])),mV.refl _,mV.refl _,trivial⟩,(.refl _)⟩)⟩)⟩) ?_
         obtain rfl:=oi h
         exact⟨.inl rfl,by kernel_rfl⟩
        ·clear hy
         obtain⟨u6,rfl⟩: ∃q,q=y4:=⟨_,rfl⟩
         refine aI (fz ⟨[(2,(vP 63 0)),(4,(vP 65 0)),(9,(vP 71 0)),(10,(vP 76 0)),nY,mo],[(lX p p1 p2 v1),iQ,(vJ u1),(vS u1),(kV u6),(nk x1),(ow v2),(o6 v2 u6 x1),(AO u5),(Dg u3)]⟩ []) ?_
         refine aQ (bE h fun y5 hy h=> ?_)
         refine wS (BD p p1 p2 v1 v2 u3 u1 u6) (K:=3) (V:=3) (s0:=(x1)) ⟨3,3,false,false,1,1,u5.length,pO (aF .i64) u5,pY (aF .i64) u5,[]⟩ 78 121 (fun i1=>(sI (at' (u5.map Prod.fst) i1))) (fun i1=>(sI (at' (u5.map Prod.snd) i1))) hy [3,4] (by kernel_rfl) (by kernel_rfl) (by kernel_rfl) (fun _ _=> ⟨rfl,rfl⟩) (fun _ _=> ⟨Cx _ _,Cx _ _⟩) (fun _=>(gQ.fin (st':=(ZF p p1 p2 v1 u1 u6 x1 v2 u3)) (cs:=[]) ⟨[],[(63,63),(65,65),(71,71),(72,72),(73,73),(74,74),(75,75),(76,76),(79,79),(121,121)]⟩ [2,4,9,10,13,182] (by kernel_rfl) trivial)) (fun s=>by obtain⟨w6,rfl⟩: ∃q,q=s:=⟨_,rfl⟩;kernel_rfl) (fun B s i1 s' hi h=> ?_) ?_
         ·clear hy
          unfold mF at h
          obtain⟨w6,rfl⟩: ∃q,q=s:=⟨_,rfl⟩
          refine rwp tT (⟨[(2,(vP 63 0)),(4,(vP 65 0)),(9,(vP 71 0)),(10,(vP 76 0)),mo,(24,(vI (at' (u5.map Prod.fst) i1))),(25,(vI (at' (u5.map Prod.snd) i1))),(182,(vP 121 0))],(aaJ p p1 p2 v1 u1 u6 w6 v2 u3)⟩) {fin:=⟨[],[(63,63),(65,65),(71,71),(72,72),(73,73),(74,74),(75,75),(76,76),(79,79),(121,121)]⟩,ts:=[2,4,9,10,13,24,25,182] } (cs:=[]) (by kernel_rfl) trivial .refl ?_
          refine aO h fun⟨a1,a2,a3⟩ h=> ?_
          refine di tT mX ⟨Ye,[(lX p p1 p2 v1),iQ,(vJ u1),(vS u1),(kV u6),(74,some (.arr 3 1 w6.length (WX p2 u5 u1 i1 w6))),(ow v2),(o6 v2 u6 w6),(Dg u3),(121,none)]⟩ [_,_,_,_,_,aU w6.length 1 (mh (aA (aF .i64) w6) ((at' (u5.map Prod.fst) i1).toNat) 0 [(.int .i64 (ZJ p2 u5 u1 i1))]) (WX p2 u5 u1 i1 w6)] {an:=[(19, .arr 0 (WX p2 u5 u1 i1 w6))] } [] ⟨a1,a2,(tL a2),a3,(tL a3),(dB _ _ _ _ _ _ _ _ rfl (fun j hj=>(match j,hj with|0,_=>rfl))),trivial⟩ (gQ.le (st':=⟨Ye,[(lX p p1 p2 v1),iQ,(vJ u1),(vS u1),(kV u6),(74,some (bQ 3 1 (aF .i64) (XD p2 u5 u1 i1 w6))),(ow v2),(76,some (.cells 47 [(.own 73 true u6.length),(.own 74 true ((XD p2 u5 u1 i1 w6).length)),(.own 75 true v2.length)])),(Dg u3),(121,none)]⟩) ⟨⟨tR,tR,tR,tR,tR,tR,trivial⟩,(hN 5 ⟨rfl,qA (by simp only [List.length_set,List.length_append,List.length_cons,List.length_nil,List.length_replicate,List.length_drop,fq]),⟨rfl, .refl _,⟨rfl,iK ⟨mV.refl _,mV.of (congrArg (CV.own _ _) (by simp only [List.length_set,List.length_append,List.length_cons,List.length_nil,List.length_replicate,List.length_drop,fq])),mV.refl _,trivial⟩,⟨rfl, .refl _,⟨rfl, .refl _,trivial⟩⟩⟩⟩⟩)⟩) ?_
          obtain rfl:=oi h
          exact⟨.inl rfl,by kernel_rfl⟩
         ·clear hy
          obtain⟨u8,rfl⟩: ∃q,q=y5:=⟨_,rfl⟩
          refine aI (fz ⟨[(2,(vP 63 0)),(4,(vP 65 0)),(9,(vP 71 0)),(10,(vP 76 0)),mo],[(lX p p1 p2 v1),iQ,(vJ u1),(vS u1),(kV u6),(nk u8),(ow v2),(o6 v2 u6 u8),(Dg u3)]⟩ []) ?_
          refine aQ (bE h fun y6 hy h=> ?_)
          refine wS (Bz p p1 p2 v1 u1 u6 u8) (K:=41) (V:=3) (s0:=(v2)) ⟨41,3,true,false,2,1,u3.length,pO ah.cell u3,pY (aF .i64) u3,[]⟩ 79 122 (fun i2=>(.agg [(cI ((at' (u3.map Prod.fst) i2).e0)),(cI ((at' (u3.map Prod.fst) i2).e1))])) (fun i2=>(sI (at' (u3.map Prod.snd) i2))) hy [3,4,5] (by kernel_rfl) (by kernel_rfl) (by kernel_rfl) (fun _ _=> ⟨rfl,rfl⟩) (fun _ _=> ⟨Vr rfl,Cx _ _⟩) (fun _=>(gQ.fin (st':=(Zk p p1 p2 v1 u1 u6 u8 v2)) (cs:=[]) ⟨[],[(63,63),(65,65),(71,71),(72,72),(73,73),(74,74),(75,75),(76,76),(122,122)]⟩ [2,4,9,10,208] (by kernel_rfl) trivial)) (fun s=>by obtain⟨u9,rfl⟩: ∃q,q=s:=⟨_,rfl⟩;kernel_rfl) (fun B s i2 s' hi h=> ?_) ?_
          ·clear hy
           unfold mI at h
           obtain⟨u9,rfl⟩: ∃q,q=s:=⟨_,rfl⟩
           refine rwp tT (⟨(Xv u3 i2),[(lX p p1 p2 v1),iQ,(vJ u1),(vS u1),(kV u6),(nk u8),(ow u9),(o6 u9 u6 u8),(122,none),(125,some (.cells 41 [(cI ((at' (u3.map Prod.fst) i2).e0)),(cI ((at' (u3.map Prod.fst) i2).e1))]))]⟩) {fr:=QM [(3,125)],fin:=⟨[],[(63,63),(65,65),(71,71),(72,72),(73,73),(74,74),(75,75),(76,76),(122,122),(125,125)]⟩,ts:=[2,4,9,10,26,27,208] } (cs:=[]) (by kernel_rfl) trivial .refl ?_
           refine bI h (fun hb7 h=> ?_) (fun _ h=> ?_)
           ·skip
            refine aI (gQ.le (st':=⟨(Xv u3 i2),[(lX p p1 p2 v1),iQ,(vJ u1),(vS u1),(kV u6),(nk u8),(ow u9),(o6 u9 u6 u8),(122,none),(125,some (.cells 41 [(cI ((at' (u3.map Prod.fst) i2).e0)),(cI 0)]))]⟩) ⟨⟨tR,tR,tR,tR,tR,tR,tR,trivial⟩,(hN 9 ⟨rfl,iK ⟨mV.refl _,mV.of (congrArg (fun n=>CV.d (.int .i64 n)) (of_decide_eq_true hb7)),trivial⟩,trivial⟩)⟩) ?_
            refine aO h fun⟨a1,a2⟩ h=> ?_
            refine di tT mX ⟨TG,[(lX p p1 p2 v1),iQ,(vJ u1),(vS u1),(kV u6),(nk u8),(75,some (.arr 41 2 u9.length (Yf u1 u3 i2 u9))),(o6 u9 u6 u8),(122,none)]⟩ [(0:Int)≤0∧(0:Int)<(2:Nat),(0:Int)≤1∧(1:Int)<(2:Nat),_,_,_,(0:Int)≤0∧(0:Int)<(2:Nat),_,aU u9.length 2 (mh (aA ah.cell u9) (QF u3 i2) 0 (aak u1 u3 i2)) (Yf u1 u3 i2 u9)] {an:=[(17, .arr 0 (Yf u1 u3 i2 u9))] } [] ⟨((by decide)),((by decide)),a1,(tL a1),a2,((by decide)),(tL a2),(dB _ _ _ _ _ _ _ _ rfl (fun j hj=>(match j,hj with|0,_=>rfl|1,_=>rfl))),trivial⟩ (gQ.le (st':=⟨TG,[(lX p p1 p2 v1),iQ,(vJ u1),(vS u1),(kV u6),(nk u8),(75,some (bQ 41 2 ah.cell (XV u1 u3 i2 u9))),(76,some (.cells 47 [(.own 73 true u6.length),(.own 74 true u8.length),(.own 75 true ((XV u1 u3 i2 u9).length))])),(122,none)]⟩) ⟨⟨tR,tR,tR,tR,tR,trivial⟩,(hN 6 ⟨rfl,qA (by simp only [List.length_set,List.length_append,List.length_cons,List.length_nil,List.length_replicate,List.length_drop,fq]),⟨rfl,iK ⟨mV.refl _,mV.refl _,mV.of (congrArg (CV.own _ _) (by simp only [List.length_set,List.length_append,List.length_cons,List.length_nil,List.length_replicate,List.length_drop,fq])),trivial⟩,(.refl _)⟩⟩)⟩) ?_
            obtain rfl:=oi h
            exact⟨.inl rfl,by kernel_rfl⟩
           ·skip
            refine aO h fun a1 h=> ?_
            refine aI (gQ.le (st':=⟨(Xv u3 i2),[(lX p p1 p2 v1),iQ,(vJ u1),(vS u1),(kV u6),(nk u8),(ow u9),(o6 u9 u6 u8),(122,none),(125,some (.cells 41 [(cI ((at' (u3.map Prod.fst) i2).e0)),(cI 1)]))]⟩) ⟨⟨tR,tR,tR,tR,tR,tR,tR,trivial⟩,(hN 9 ⟨rfl,iK ⟨mV.refl _,mV.of (congrArg (fun n=>CV.d (.int .i64 n)) a1),trivial⟩,trivial⟩)⟩) ?_
            refine aO h fun⟨a1,a2⟩ h=> ?_
            refine di tT mX ⟨TG,[(lX p p1 p2 v1),iQ,(vJ u1),(vS u1),(kV u6),(nk u8),(75,some (.arr 41 2 u9.length (WY u1 u3 i2 u9))),(o6 u9 u6 u8),(122,none)]⟩ [(0:Int)≤0∧(0:Int)<(2:Nat),(0:Int)≤1∧(1:Int)<(2:Nat),_,_,_,(0:Int)≤1∧(1:Int)<(2:Nat),_,aU u9.length 2 (mh (aA ah.cell u9) (QF u3 i2) 1 (aak u1 u3 i2)) (WY u1 u3 i2 u9)] {an:=[(17, .arr 0 (WY u1 u3 i2 u9))] } [] ⟨((by decide)),((by decide)),a1,(tL a1),a2,((by decide)),(tL a2),(dB _ _ _ _ _ _ _ _ rfl (fun j hj=>(match j,hj with|0,_=>rfl|1,_=>rfl))),trivial⟩ (gQ.le (st':=⟨TG,[(lX p p1 p2 v1),iQ,(vJ u1),(vS u1),(kV u6),(nk u8),(75,some (bQ 41 2 ah.cell (WQ u1 u3 i2 u9))),(76,some (.cells 47 [(.own 73 true u6.length),(.own 74 true u8.length),(.own 75 true ((WQ u1 u3 i2 u9).length))])),(122,none)]⟩) ⟨⟨tR,tR,tR,tR,tR,trivial⟩,(hN 6 ⟨rfl,qA (by simp only [List.length_set,List.length_append,List.length_cons,List.length_nil,List.length_replicate,List.length_drop,fq]),⟨rfl,iK ⟨mV.refl _,mV.refl _,mV.of (congrArg (CV.own _ _) (by simp only [List.length_set,List.length_append,List.length_cons,List.length_nil,List.length_replicate,List.length_drop,fq])),trivial⟩,(.refl _)⟩⟩)⟩) ?_
            obtain rfl:=oi h
            exact⟨.inl rfl,by kernel_rfl⟩
          ·clear hy
           obtain⟨v8,rfl⟩: ∃q,q=y6:=⟨_,rfl⟩
           refine aI (fz ⟨[(2,(vP 63 0)),(4,(vP 65 0)),(9,(vP 71 0)),(10,(vP 76 0))],[(lX p p1 p2 v1),iQ,(vJ u1),(vS u1),(kV u6),(nk u8),(ow v8),(o6 v8 u6 u8)]⟩ []) ?_
           refine aQ (aO h fun⟨a1,a2,a3⟩ h=> ?_)
           refine rg tT ⟨[(2,(vP 63 0)),(4,(vP 65 0)),(9,(vP 71 0)),(10,(vP 76 0)),(28,(vP 127 0))],[(lX p p1 p2 v1),iQ,(vJ u1),(vS u1),(kV u6),(nk u8),(ow v8),(o6 v8 u6 u8),(Tz p),(QY p)]⟩ [_,(p.buses:Int)=p.buses,_,_,(EI p).length=p.buses.toNat,aU p.buses.toNat 1 (fun _ j=>[(.bool false)].getD j .nilp) (Pb p)] {an:=[(2, .arr (EI p).length (Pb p))],fr:=[(2,126),(3,127)] } [] ⟨a1,rfl,a2,a3,(List.length_replicate),(lH _ _ _ _ _ (fun j hj=>(match j,hj with|0,_=>rfl))),trivial⟩ ?_
           refine aQ (aQ (bE h fun um hr_9 h=> ?_))
           have q0:=rk [(0,71),(1,72),(2,128)] (lT u1 hr_9)
           refine ri tT ⟨ZX,[(lX p p1 p2 v1),iQ,(71,some (.cells 93 [(.d (bN none 2 bY.cell u1.ay)),(.d (VU u1))])),(kV u6),(nk u8),(ow v8),(o6 v8 u6 u8),(Tz p),(QY p),(128,some (.cells 89 [(.ptr 71 0)]))]⟩ [_,u1.ay.length=u1.ay.length] {an:=[(1,cA q0 [71,72])] } [72] ⟨q0,rfl,trivial⟩ (.trans (fz ⟨ZX,[(lX p p1 p2 v1),iQ,(kV u6),(nk u8),(ow v8),(o6 v8 u6 u8),(Tz p),(QY p),(128,some (.cells 89 [(.d (zL [(bN none 2 bY.cell u1.ay),(VU u1)] 0))]))]⟩ [71]) (fz ⟨(Y2 u1),[(lX p p1 p2 v1),iQ,(kV u6),(nk u8),(ow v8),(o6 v8 u6 u8),(Tz p),(QY p)]⟩ [128])) ?_
           refine aB (bE h fun x3 hr_10 h=> ?_)
           refine GA 129 [(2,(vP 63 0)),(28,(vP 127 0))] [] [129,63,127,126] (.iw []) [(129,some (.loop jT 0 [(2,(vP 63 0)),(28,(vP 127 0))])),(lX p p1 p2 v1),(127,some (.cells 27 [(.own 126 true x3.length)])),(126,some (bQ 4 1 ai x3))] (Zz u1) 58 [] [(.d (Yx u1))] [(129,some (.loop jT 0 [(2,(vP 63 0)),(28,(vP 127 0))])),(lX p p1 p2 v1),(QY p),(Tz p)] [(.one (.yl 129)),(sD (Yx u1))] jT 0 [(2,(vP 63 0)),(28,(vP 127 0))] (by kernel_rfl) (by kernel_rfl) (by kernel_rfl) (by kernel_rfl) (by kernel_rfl) (by kernel_rfl) (by kernel_rfl) (rK [(0,129),(1,63),(2,127),(3,126)] (oQ u1.ay u1.from_ (⟨p.buses,p1,p2,v1⟩:au) (EI p) hr_10)) (by kernel_rfl) rfl (KU.zero rfl) (gQ.fin (st':=⟨(Y2 u1),[(lX p p1 p2 v1),iQ,(kV u6),(nk u8),(ow v8),(o6 v8 u6 u8),(126,some (bQ 4 1 ai x3)),(127,some (.cells 27 [(.own 126 true x3.length)]))]⟩) (cs:=[]) ⟨[],[(63,63),(65,65),(73,73),(74,74),(75,75),(76,76),(126,126),(127,127)]⟩ [2,4,10,28,235] (by kernel_rfl) trivial) ?_
           refine sd tT mX ⟨[(4,(vP 65 0)),(5,(vO 126 true x3.length)),(6,(vI 0))],[(65,some (.cells 47 [(.own 73 true u6.length),(.own 74 true u8.length),(.own 75 true v8.length)])),(kV u6),(nk u8),(ow v8),(126,some (bQ 4 1 ai x3))]⟩ [] {} [] trivial ?_
           refine aI (.trans (gQ.fin (st':=⟨[(4,(vP 4 0)),(5,(vO 3 true x3.length)),(6,(vI 0))],[(0,some (bQ 3 1 (aF .i64) u6)),(1,some (bQ 3 1 (aF .i64) u8)),(2,some (bQ 41 2 ah.cell v8)),(3,some (bQ 4 1 ai x3)),(4,some (.cells 47 [(.own 0 true u6.length),(.own 1 true u8.length),(.own 2 true v8.length)]))]⟩) (cs:=[]) ⟨[],[(73,0),(74,1),(75,2),(126,3),(65,4)]⟩ [4,5,6] (by kernel_rfl) trivial) (gQ.le (st':=⟨[(4,(vP 4 0)),(5,(vO 3 false x3.length)),(6,(vI 0))],[(0,some (bQ 3 1 (aF .i64) u6)),(1,some (bQ 3 1 (aF .i64) u8)),(2,some (bQ 41 2 ah.cell v8)),(3,some (bQ 4 1 ai x3)),(4,some (.cells 47 [(.own 0 false u6.length),(.own 1 false u8.length),(.own 2 false v8.length)]))]⟩) ⟨⟨tR,⟨_,rfl,zC.v (F5.one (cN))⟩,tR,trivial⟩,(hN 4 ⟨rfl,iK ⟨cN,cN,cN,trivial⟩,trivial⟩)⟩)) ?_
           refine aR ?_
           obtain rfl:=oi h
           exact rh [(.agg [(.own 0 false u6.length),(.own 1 false u8.length),(.own 2 false v8.length)]),(.one (.own 3 false x3.length)),(sI 0)] (.refl _) (hN 4 ⟨rfl,trivial,trivial⟩)
       |ret v=>
        obtain rfl:=oi h
        unfold VQ
        intro e st hn ha hR
        cases e with
        |normal=>exact absurd rfl hn
        |exit id=>exact hR
        |goto l=>exact hR
        |ret=>exact hR
        |panic c=>exact hR
        |outgrown=>exact hR
     |ret v=>
      obtain rfl:=oi h
      unfold VQ
      intro e st hn ha hR
      cases e with
      |normal=>exact absurd rfl hn
      |exit id=>exact hR
      |goto l=>exact hR
      |ret=>exact hR
      |panic c=>exact hR
      |outgrown=>exact hR
   |ret v=>
    obtain rfl:=oi h
    unfold VQ
    intro e st hn ha hR
    cases e with
    |normal=>exact absurd rfl hn
    |exit id=>exact hR
    |goto l=>exact hR
    |ret=>exact hR
    |panic c=>exact hR
    |outgrown=>exact hR
section
variable (s0:(List Bool)) (s1:(List Bool)) (s2:(List Bool)) (s3:(List Bool)) (s4:(List Bool)) (s5:(List Bool)) (s6:(List Bool))
abbrev aa1:List CV:=[(.own 66 false s0.length),(.own 67 false s1.length),(.own 68 false s2.length),(.own 69 false s3.length),(.own 70 false s4.length),(.own 71 false s5.length),(.own 72 false s6.length)]
abbrev Zv:List (Nat × Option Ob):=[(49,some (.cells 29 (aa1 s0 s1 s2 s3 s4 s5 s6))),(66,some (bQ 4 1 ai s0)),(67,some (bQ 4 1 ai s1)),(68,some (bQ 4 1 ai s2)),(69,some (bQ 4 1 ai s3)),(70,some (bQ 4 1 ai s4)),(71,some (bQ 4 1 ai s5)),(72,some (bQ 4 1 ai s6))]
end
theorem yS (p:au) (s_:State) (t:Task) (l:(List aJ)):fA Tryz.prog 20 [(.agg (k1 p)),(.agg (k20 s_)),(.agg (Mr t)),(sD (bN none 2 aJ.cell l))] [] (fun r=>(.iw [(sI r.1),(.agg [(.own 0 false r.2.1.closed.length),(.own 1 false r.2.1.locked.length),(.own 2 false r.2.1.badLink.length),(.own 3 false r.2.1.on_.length),(.own 4 false r.2.1.badSource.length),(.own 5 false r.2.1.earthed.length),(.own 6 false r.2.1.badBus.length)]),(sI r.2.2)])) (fun r=>[(0,some (bQ 4 1 ai r.2.1.closed)),(1,some (bQ 4 1 ai r.2.1.locked)),(2,some (bQ 4 1 ai r.2.1.badLink)),(3,some (bQ 4 1 ai r.2.1.on_)),(4,some (bQ 4 1 ai r.2.1.badSource)),(5,some (bQ 4 1 ai r.2.1.earthed)),(6,some (bQ 4 1 ai r.2.1.badBus)),(7,none)]) (yg p s_ t l):=
  gu tT mX Tryz.func20 (
  .rg {fr:=[(0,48),(1,49),(2,50),(4,51)],fz:=[48,50]} []<| .cl 3 (Dq p s_ t) fun r_=> .r<| .r<| .it (.r<| .im (.ou 51 0 52 4 1 (aA ai ([]:List Bool)))<| .im (.ou 51 1 53 4 1 (aA ai ([]:List Bool)))<| .im (.ou 51 2 54 4 1 (aA ai ([]:List Bool)))<| .im (.ou 51 3 55 4 1 (aA ai ([]:List Bool)))<| .im (.ou 51 4 56 4 1 (aA ai ([]:List Bool)))<| .im (.ou 51 5 57 4 1 (aA ai ([]:List Bool)))<| .im (.ou 51 6 58 4 1 (aA ai ([]:List Bool)))<| .en (0,(⟨([]:List Bool),([]:List Bool),([]:List Bool),([]:List Bool),([]:List Bool),([]:List Bool),([]:List Bool)⟩:State),r_) [] [(52,0),(53,1),(54,2),(55,3),(56,4),(57,5),(58,6),(51,7)])
  (.r<| .it (.r<| .im (.ou 51 0 59 4 1 (aA ai ([]:List Bool)))<| .im (.ou 51 1 60 4 1 (aA ai ([]:List Bool)))<| .im (.ou 51 2 61 4 1 (aA ai ([]:List Bool)))<| .im (.ou 51 3 62 4 1 (aA ai ([]:List Bool)))<| .im (.ou 51 4 63 4 1 (aA ai ([]:List Bool)))<| .im (.ou 51 5 64 4 1 (aA ai ([]:List Bool)))<| .im (.ou 51 6 65 4 1 (aA ai ([]:List Bool)))<| .en (0,(⟨([]:List Bool),([]:List Bool),([]:List Bool),([]:List Bool),([]:List Bool),([]:List Bool),([]:List Bool)⟩:State),2) [] [(59,0),(60,1),(61,2),(62,3),(63,4),(64,5),(65,6),(51,7)])
  (.cl 1 (fI [(0,66),(1,67),(2,68),(3,69),(4,70),(5,71),(6,72),(7,73)] (yF s_)) fun u2=> .r<| .r<| .lp (σ:=((List Bool) × (List Bool) × (List Bool) × (List Bool) × (List Bool) × (List Bool) × (List Bool) × Int)) (β:=((List Bool) × (List Bool) × (List Bool) × (List Bool) × (List Bool) × (List Bool) × (List Bool))) (u2.closed,u2.locked,u2.badLink,u2.on_,u2.badSource,u2.earthed,u2.badBus,0) [] [] ⟨[3,4,5,6,9,29,30],[51],fun(s0,s1,s2,s3,s4,s5,s6,u1)=>[(31,(vI u1))],fun(s0,s1,s2,s3,s4,s5,s6,u1)=>(Zv s0 s1 s2 s3 s4 s5 s6)⟩ ⟨[3,5,9],[51],fun(u3,u4,u5,u6,u7,u8,u9)=>[],fun(u3,u4,u5,u6,u7,u8,u9)=>(Zv u3 u4 u5 u6 u7 u8 u9)⟩
  (fun(s0,s1,s2,s3,s4,s5,s6,u1)=> .r<| .it (.a1 ((0:Int)≤u1∧u1<(l.length:Int))<| .rg {fr:=[(3,101)],fz:=[101]} []<| .r<| .cl 4 ⟨fun{u0} hr_2=>((Fn.Tj (args:=[(.agg (k1 p)),(.agg [(.d (bN none 1 ai s0)),(.d (bN none 1 ai s1)),(.d (bN none 1 ai s2)),(.d (bN none 1 ai s3)),(.d (bN none 1 ai s4)),(.d (bN none 1 ai s5)),(.d (bN none 1 ai s6))]),(.agg (Mr t)),(.agg [(cI ((at' l u1.toNat).deed)),(cI ((at' l u1.toNat).index))])]) (frz:=[66,67,68,69,70,71,72]) (p:=[s0.length=s0.length,s1.length=s1.length,s2.length=s2.length,s3.length=s3.length,s4.length=s4.length,s5.length=s5.length,s6.length=s6.length]) (Fn.KJ [(0,102),(1,103),(2,104),(3,105),(4,106),(5,107),(6,108),(7,109)] (AL p (⟨s0,s1,s2,s3,s4,s5,s6⟩:State) t (at' l u1.toNat) hr_2) (by kernel_rfl) (by kernel_rfl) (by kernel_rfl) (by kernel_rfl)) (by kernel_rfl) ⟨rfl,rfl,rfl,rfl,rfl,rfl,rfl,trivial⟩ (by kernel_rfl) ⟨(fun _ _=>rfl),⟨(fun _ _=>rfl),⟨(fun _ _=>rfl),⟨(fun _ _=>rfl),⟨(fun _ _=>rfl),⟨(fun _ _=>rfl),⟨(fun _ _=>rfl),trivial⟩⟩⟩⟩⟩⟩⟩ (by kernel_rfl)):Fn Tryz.prog 52 [(.agg (k1 p)),(.agg (aa1 s0 s1 s2 s3 s4 s5 s6)),(.agg (Mr t)),(.agg [(cI ((at' l u1.toNat).deed)),(cI ((at' l u1.toNat).index))])] [(66,some (bQ 4 1 ai s0)),(67,some (bQ 4 1 ai s1)),(68,some (bQ 4 1 ai s2)),(69,some (bQ 4 1 ai s3)),(70,some (bQ 4 1 ai s4)),(71,some (bQ 4 1 ai s5)),(72,some (bQ 4 1 ai s6))] (.iw [(.agg [(.own 102 false u0.1.closed.length),(.own 103 false u0.1.locked.length),(.own 104 false u0.1.badLink.length),(.own 105 false u0.1.on_.length),(.own 106 false u0.1.badSource.length),(.own 107 false u0.1.earthed.length),(.own 108 false u0.1.badBus.length)]),(sI u0.2)]) [(66,some (bQ 4 1 ai s0)),(67,some (bQ 4 1 ai s1)),(68,some (bQ 4 1 ai s2)),(69,some (bQ 4 1 ai s3)),(70,some (bQ 4 1 ai s4)),(71,some (bQ 4 1 ai s5)),(72,some (bQ 4 1 ai s6)),(102,some (bQ 4 1 ai u0.1.closed)),(103,some (bQ 4 1 ai u0.1.locked)),(104,some (bQ 4 1 ai u0.1.badLink)),(105,some (bQ 4 1 ai u0.1.on_)),(106,some (bQ 4 1 ai u0.1.badSource)),(107,some (bQ 4 1 ai u0.1.earthed)),(108,some (bQ 4 1 ai u0.1.badBus)),(109,none)])⟩ fun u0=> .r<| .r<| .it (.r<| .im (.ou 51 0 110 4 1 (aA ai ([]:List Bool)))<| .im (.ou 51 1 111 4 1 (aA ai ([]:List Bool)))<| .im (.ou 51 2 112 4 1 (aA ai ([]:List Bool)))<| .im (.ou 51 3 113 4 1 (aA ai ([]:List Bool)))<| .im (.ou 51 4 114 4 1 (aA ai ([]:List Bool)))<| .im (.ou 51 5 115 4 1 (aA ai ([]:List Bool)))<| .im (.ou 51 6 116 4 1 (aA ai ([]:List Bool)))<| .en (.done (.ret (u1,(⟨([]:List Bool),([]:List Bool),([]:List Bool),([]:List Bool),([]:List Bool),([]:List Bool),([]:List Bool)⟩:State),u0.2))) [] [(110,0),(111,1),(112,2),(113,3),(114,4),(115,5),(116,6),(51,7)])
  (.r<| .en (.next (u0.1.closed,u0.1.locked,u0.1.badLink,u0.1.on_,u0.1.badSource,u0.1.earthed,u0.1.badBus,(k10 u1))) [] [(102,66),(103,67),(104,68),(105,69),(106,70),(107,71),(108,72)]))
  (.e (.done (.brk (s0,s1,s2,s3,s4,s5,s6)))))
  (fun(u3,u4,u5,u6,u7,u8,u9)=> .r<| .en ((l.length:Int),(⟨u3,u4,u5,u6,u7,u8,u9⟩:State),0) [] [(66,0),(67,1),(68,2),(69,3),(70,4),(71,5),(72,6),(51,7)]))))
section
variable (r_:(au × State)) (u1:(bX × (List Bool) × Int)) (u2:(Int × Int)) (u0:(Int × State × Int))
abbrev UO:List CV:=[(cI r_.1.buses),(.d (bN (some true) 5 Source.cell r_.1.sources)),(.d (bN (some true) 6 Link.cell r_.1.links)),(.d (bN (some true) 4 aT.cell r_.1.racks))]
abbrev Ur:List CV:=[(.d (bN (some true) 1 ai r_.2.closed)),(.d (bN (some true) 1 ai r_.2.locked)),(.d (bN (some true) 1 ai r_.2.badLink)),(.d (bN (some true) 1 ai r_.2.on_)),(.d (bN (some true) 1 ai r_.2.badSource)),(.d (bN (some true) 1 ai r_.2.earthed)),(.d (bN (some true) 1 ai r_.2.badBus))]
abbrev aaD:=(bif (bif (decide (u1.2.2=0))then(decide (u2.2=0))else false)then(decide (u0.2.2=42))else false)
end
theorem yB:fA Tryz.prog 7 [] [] (fun r=>(vB r)) (fun _=>[]) (uy):=
  gu tT mX Tryz.func7 (
  .r<| .cl 0 (fI [(0,31),(1,32),(2,33),(3,34),(4,35),(5,36),(6,37),(7,38),(8,39),(9,40),(10,41),(11,42)] CS) fun r_=> .rg {fr:=[(4,43),(5,44)],fz:=[31,32,33,34,35,36,37,38,39,40]} []<| .fz [43,44]<| .cl 2 (leO [(.agg (UO r_)),(.agg (Ur r_))] (fI [(0,45),(1,46),(2,47),(3,48),(4,49)] ⟨fun h=>sG r_.1 r_.2 h⟩)) fun u1=> .rg {fr:=[(7,50)],fz:=[45,46,47]} []<| .fz [50]<| .cl 2 (leO [(.agg (UO r_)),(.agg (Ur r_)),(sI 0)] (qi r_.1 r_.2 0)) fun u2=> .r<| .cl 6 ⟨fun{u0} hr_3=>((Fn.Tj (frz:=[51,52]) (p:=[[0].length=[0].length,[(⟨1,0⟩:aJ)].length=[(⟨1,0⟩:aJ)].length]) (Fn.leH (args:=[(.agg [(cI r_.1.buses),(.d (bN none 5 Source.cell r_.1.sources)),(.d (bN none 6 Link.cell r_.1.links)),(.d (bN none 4 aT.cell r_.1.racks))]),(.agg [(.d (bN none 1 ai r_.2.closed)),(.d (bN none 1 ai r_.2.locked)),(.d (bN none 1 ai r_.2.badLink)),(.d (bN none 1 ai r_.2.on_)),(.d (bN none 1 ai r_.2.badSource)),(.d (bN none 1 ai r_.2.earthed)),(.d (bN none 1 ai r_.2.badBus))]),(.agg [(.d (bN none 1 (aF .i64) [0])),(.d (bN none 1 (aF .i64) ([]:List Int))),(.d (bN none 2 aJ.cell ([]:List aJ))),(.d (bN none 2 aJ.cell ([]:List aJ)))]),(sD (bN none 2 aJ.cell [(⟨1,0⟩:aJ)]))]) (args':=[(.agg (UO r_)),(.agg (Ur r_)),(.agg [(.d (bN (some true) 1 (aF .i64) [0])),(.d nS),(.d nS),(.d nS)]),(sD (bN (some true) 2 aJ.cell [(⟨1,0⟩:aJ)]))]) (hin:=[]) (Fn.KJ [(0,53),(1,54),(2,55),(3,56),(4,57),(5,58),(6,59),(7,60)] (yS r_.1 r_.2 (⟨[0],([]:List Int),([]:List aJ),([]:List aJ)⟩:Task) [(⟨1,0⟩:aJ)] hr_3) (by kernel_rfl) (by kernel_rfl) (by kernel_rfl) (by kernel_rfl)) ⟨F5.agg ⟨mV.refl _,mV.d pW.xX,mV.d pW.xX,mV.d pW.xX,trivial⟩,F5.agg ⟨mV.d pW.xX,mV.d pW.xX,mV.d pW.xX,mV.d pW.xX,mV.d pW.xX,mV.d pW.xX,mV.d pW.xX,trivial⟩,F5.agg ⟨mV.d pW.xX,mV.d pW.nil',mV.d pW.nil',mV.d pW.nil',trivial⟩,F5.one (mV.d pW.xX),trivial⟩ trivial) (by kernel_rfl) ⟨rfl,rfl,trivial⟩ (by kernel_rfl) ⟨(fun _ _=>rfl),⟨(fun _ _=>rfl),⟨(fun _ _=>rfl),⟨(fun _ _=>rfl),⟨(fun _ _=>rfl),⟨(fun _ _=>rfl),⟨(fun _ _=>rfl),trivial⟩⟩⟩⟩⟩⟩⟩ (by kernel_rfl)):Fn Tryz.prog 20 [(.agg (UO r_)),(.agg (Ur r_)),(.agg [(.own 51 true ([0].length)),(.d nS),(.d nS),(.d nS)]),(.one (.own 52 true ([(⟨1,0⟩:aJ)].length)))] [(51,some (bQ 3 1 (aF .i64) [0])),(52,some (bQ 80 2 aJ.cell [(⟨1,0⟩:aJ)]))] (.iw [(sI u0.1),(.agg [(.own 53 false u0.2.1.closed.length),(.own 54 false u0.2.1.locked.length),(.own 55 false u0.2.1.badLink.length),(.own 56 false u0.2.1.on_.length),(.own 57 false u0.2.1.badSource.length),(.own 58 false u0.2.1.earthed.length),(.own 59 false u0.2.1.badBus.length)]),(sI u0.2.2)]) [(51,some (bQ 3 1 (aF .i64) [0])),(52,some (bQ 80 2 aJ.cell [(⟨1,0⟩:aJ)])),(53,some (bQ 4 1 ai u0.2.1.closed)),(54,some (bQ 4 1 ai u0.2.1.locked)),(55,some (bQ 4 1 ai u0.2.1.badLink)),(56,some (bQ 4 1 ai u0.2.1.on_)),(57,some (bQ 4 1 ai u0.2.1.badSource)),(58,some (bQ 4 1 ai u0.2.1.earthed)),(59,some (bQ 4 1 ai u0.2.1.badBus)),(60,none)])⟩ fun u0=> .rg {an:=[(2, .arr [0].length (aA (aF .i64) [0])),(5, .arr [(⟨1,0⟩:aJ)].length (aA aJ.cell [(⟨1,0⟩:aJ)]))],fr:=[(2,51),(5,52),(11,61)]} [.pf ⟨[0].length=1,rfl⟩, .pf ⟨aU 1 1 (qg 1 [(.int .i64 0)]) (aA (aF .i64) [0]),(by intro i hi j hj;match i,j,hi,hj with|0,0,_,_=>rfl)⟩, .pf ⟨[(⟨1,0⟩:aJ)].length=1,rfl⟩, .pf ⟨aU 1 2 (qg 2 [(.int .i64 1),(.int .i64 0)]) (aA aJ.cell [(⟨1,0⟩:aJ)]),(by intro i hi j hj;match i,j,hi,hj with|0,0,_,_=>rfl|0,1,_,_=>rfl)⟩,0]<| .cg 12 [((aaD u1 u2 u0),true)] (wo u1.1) fun u3=> .r<| .e (bif (bif (aaD u1 u2 u0)then(decide (u3=5))else false)then(decide (u2.1=1))else false))
theorem Hl (x:Int) (n:Int):fA Tryz.prog 8 [(sI x),(sI n)] [] (fun r=>(vI r)) (fun _=>[]) (wT x n):=
  gu tT mX Tryz.func8 (
  .r<| .r<| .it (.r<| .e 0)
  (.a1 (n≠(0:Int))<| .r<| .r<| .it (.r<| .r<| .e (IntKind.wrap .i64 ((Int.tmod x n)+n)))
  (.r<| .e (Int.tmod x n))))
theorem xW (l:(List lW)):fA Tryz.prog 93 [(sD (bN none 2 lW.cell l))] [] (fun r=>(vO 0 false r.length)) (fun r=>[(0,some (bQ 163 2 lW.cell r))]) (p8 l):=
  gu tT mX Tryz.func93 (
  .r<| .r<| .a2 (l.length*16≤140737488355328) (l.length≤4611686018427387904)<| .rg {an:=[(2, .arr l.length (aA lW.cell l))],fr:=[(2,1)]} [0,1, .e (l.length), .pf ⟨aU l.length 2 (aA lW.cell l) (aA lW.cell l),oZ _ _ _⟩]<| .en l [] [(1,0)])
theorem CX (x:Link):fA Tryz.prog 57 [(.agg (k11 x))] [] (fun r=>(.v (.agg [(cI r.a),(cI r.b),(cI r.kind),(cI r.most),(cI r.ohm),(.d (bN none 2 lW.cell r.trip))]))) (fun _=>[]) (nM x):=
  gu tT mX Tryz.func57 (
  .rg {fr:=[(0,3),(1,4)]} []<| .cl 12 (fI [(0,5)] (xW x.trip)) fun r_=> .rg {fz:=[5]} []<| .fz [4]<| .e (⟨x.a,x.b,x.kind,x.most,x.ohm,r_⟩:Link))
theorem vW (l:(List Source)):fA Tryz.prog 23 [(sD (k4 l))] [] (fun r=>(vO 0 false r.length)) (fun r=>[(0,some (bQ 98 5 Source.cell r))]) (nT l):=
  gu tT mX Tryz.func23 (
  .r<| .r<| .a2 (l.length*40≤140737488355328) (l.length≤4611686018427387904)<| .rg {an:=[(2, .arr l.length (aA Source.cell l))],fr:=[(2,1)]} [0,1, .e (l.length), .pf ⟨aU l.length 5 (aA Source.cell l) (aA Source.cell l),oZ _ _ _⟩]<| .en l [] [(1,0)])
theorem xY (l:(List Link)):fA Tryz.prog 24 [(sD (bN none 6 Link.cell l))] [] (fun r=>(vO 0 false r.length)) (fun r=>[(0,some (bQ 70 6 Link.cell r))]) (pU l):=
  gu tT mX Tryz.func24 (
  .r<| .r<| .r<| .im (.ad 3 16 70 6 (aA Link.cell ([]:List Link)))<| .lp (σ:=((List Link) × Int)) (β:=(List Link)) (([]:List Link),0) [] [(16,9)] ⟨[0],[],fun(u0,i)=>[(3,(vO 9 false u0.length)),(4,(vI i))],fun(u0,i)=>[(9,some (bQ 70 6 Link.cell u0))]⟩ ⟨[],[],fun u1=>[(3,(vO 9 false u1.length))],fun u1=>[(9,some (bQ 70 6 Link.cell u1))]⟩
  (fun(u0,i)=> .r<| .it (.cl 5 (CX (at' l i.toNat)) fun r_=> .a3 ((0:Int)≤i∧i<(l.length:Int)) ((u0.length+[r_].length)*64≤140737488355328) (u0.length+[r_].length≤4611686018427387904)<| .rg {an:=[(6, .arr [r_].length (aA Link.cell [r_])),(7, .arr (u0++[r_]).length (aA Link.cell (u0++[r_])))],fr:=[(6,14),(7,15)]} [0,3, .pf ⟨[r_].length=1,rfl⟩, .pf ⟨aU 1 6 (qg 6 [(.int .i64 r_.a),(.int .i64 r_.b),(.int .i64 r_.kind),(.int .i64 r_.most),(.int .i64 r_.ohm),(bN none 2 lW.cell r_.trip)]) (aA Link.cell [r_]),(by intro i hi j hj;match i,j,hi,hj with|0,0,_,_=>rfl|0,1,_,_=>rfl|0,2,_,_=>rfl|0,3,_,_=>rfl|0,4,_,_=>rfl|0,5,_,_=>rfl)⟩, .e (u0.length),1,2, .pf ⟨(u0++[r_]).length=u0.length+[r_].length,List.length_append⟩, .pf ⟨aU (u0.length+[r_].length) 6 (rW (aA Link.cell u0) u0.length (aA Link.cell [r_])) (aA Link.cell (u0++[r_])),eT _ _ _ _⟩]<| .r<| .en (.next ((u0++[r_]),(k10 i))) [] [(15,9)])
  (.e (.done (.brk u0))))
  (fun u1=> .r<| .en u1 [] [(9,0)]))
theorem xH (l:(List aT)):fA Tryz.prog 25 [(sD (bN none 4 aT.cell l))] [] (fun r=>(vO 0 false r.length)) (fun r=>[(0,some (bQ 43 4 aT.cell r))]) (qc l):=
  gu tT mX Tryz.func25 (
  .r<| .r<| .a2 (l.length*32≤140737488355328) (l.length≤4611686018427387904)<| .rg {an:=[(2, .arr l.length (aA aT.cell l))],fr:=[(2,1)]} [0,1, .e (l.length), .pf ⟨aU l.length 4 (aA aT.cell l) (aA aT.cell l),oZ _ _ _⟩]<| .en l [] [(1,0)])
theorem xN (x:au):fA Tryz.prog 11 (k0 x) [] (fun r=>(.v (.agg [(cI r.buses),(.own 0 false r.sources.length),(.own 1 false r.links.length),(.own 2 false r.racks.length)]))) (fun r=>[(0,some (bQ 98 5 Source.cell r.sources)),(1,some (bQ 70 6 Link.cell r.links)),(2,some (bQ 43 4 aT.cell r.racks)),(3,none)]) (mJ x):=
  gu tT mX Tryz.func11 (
  .rg {fr:=[(0,5),(1,6)]} []<| .cl 4 (fI [(0,7)] (vW x.sources)) fun r_=> .cl 7 (fI [(0,8)] (xY x.links)) fun u0=> .cl 10 (fI [(0,9)] (xH x.racks)) fun u1=> .r<| .en (⟨x.buses,r_,u0,u1⟩:au) [] [(7,0),(8,1),(9,2),(6,3)])
section
variable (p:au) (u0:Int) (u1:au) (u2:((List aY) × Int)) (u5:Int) (u4:(Int × Int))
abbrev Gi:=(⟨(SY p u0),(at' p.racks u0.toNat).power,(at' p.racks u0.toNat).paths⟩:aT)
abbrev Xr:=(aA aT.cell [(Gi p u0)])
abbrev aaV:=(at' [(Gi p u0)] 0)
abbrev WO:=(⟨((aaV p u0).feeds),1,(aaV p u0).paths⟩:aT)
abbrev WL:=(aA aT.cell ([(Gi p u0)].set 0 (WO p u0)))
abbrev Y5:List CV:=[(cI u1.buses),(.d (bN none 5 Source.cell u1.sources)),(.d (k2 u1)),(.d (bN (some true) 4 aT.cell ([(Gi p u0)].set 0 (WO p u0))))]
abbrev Zl:=(bif ((bif (at' u2.1 u0.toNat).e0 then true else(at' u2.1 u0.toNat).e1)==(decide (u5=1)))then((bif (at' u2.1 u0.toNat).e0 then true else(at' u2.1 u0.toNat).e1)==(decide (0<u4.1)))else false)
end
theorem Bt (p:au) (s_:State) (u3:Int):fA Tryz.prog 3 (k28 p s_ u3) [] (fun r=>(vB r)) (fun _=>[]) (mE p s_ u3):=
  gu tT mX Tryz.func3 (
  .rg {fr:=[(0,14),(1,15)],fz:=[15]} []<| .cl 1 (HY p) fun r_=> .cg 11 [((bif r_ then true else(decide ((p.racks.length:Int)=0))),false)] (dK p s_) fun u9=> .r<| .it (.cl 0 yB fun u6=> .r<| .e u6)
  (.cl 4 (Hl u3 (p.racks.length:Int)) fun u0=> .r<| .cl 2 (Fh p s_) fun u2=> .r<| .cl 3 (qi p s_ u0) fun u4=> .r<| .cl 1 (fI [(0,16),(1,17),(2,18),(3,19)] (xN p)) fun u1=> .rg {fr:=[(2,20)]} []<| .a1 (k49 p u0)<| .rg {an:=[(5, .arr [(Gi p u0)].length (Xr p u0))],fr:=[(5,21)],fz:=[14]} [0, .pf ⟨[(Gi p u0)].length=1,rfl⟩, .pf ⟨aU 1 4 (qg 4 [(.int .i64 (YR p u0)),(.int .i64 (YK p u0)),(.int .i64 ((at' p.racks u0.toNat).power)),(.int .i64 ((at' p.racks u0.toNat).paths))]) (Xr p u0),(by intro i hi j hj;match i,j,hi,hj with|0,0,_,_=>rfl|0,1,_,_=>rfl|0,2,_,_=>rfl|0,3,_,_=>rfl)⟩]<| .a1 ((0:Int)≤0∧0<([(Gi p u0)].length:Int))<| .rg {an:=[(4, .arr 0 (WL p u0))],fz:=[16,17,21]} [0, .t 0 0 ([(Gi p u0)].length), .pf ⟨aU [(Gi p u0)].length 4 (mh (Xr p u0) 0 2 [(.int .i64 1)]) (WL p u0),dB _ _ _ _ _ _ _ _ rfl (fun j hj=>(match j,hj with|0,_=>rfl|1,_=>rfl|2,_=>rfl|3,_=>rfl))⟩]<| .im (.uh 20 (some (.cells 26 [(cI u1.buses),(.d (bN none 5 Source.cell u1.sources)),(.d (k2 u1)),(.d (.sl (some true) 4 [(Gi p u0)].length (WL p u0)))])) (some (.cells 26 (Y5 p u0 u1))) (iK ⟨mV.refl _,mV.refl _,mV.refl _,mV.d (pW.slN (by first|rw [List.length_append,List.length_drop]|simp only [List.length_set,List.length_drop,fq]) (.inr rfl) (fun _ _ _ _=> .refl _)),trivial⟩))<| .fz [20]<| .cl 2 (leO [(.agg (Y5 p u0 u1)),(.agg (k20 s_))] (fI [(0,22),(1,23),(2,24),(3,25),(4,26)] ⟨fun h=>sG (⟨u1.buses,u1.sources,u1.links,([(Gi p u0)].set 0 (WO p u0))⟩:au) s_ h⟩)) fun u7=> .rg {fr:=[(7,27)],fz:=[22,23,24]} []<| .fz [27]<| .r<| .it (.r<| .e false)
  (.a2 ((0:Int)≤u0∧u0<(u2.1.length:Int)) ((gB [((at' u2.1 u0.toNat).e0,false)]=true→(0:Int)≤u0∧u0<(u2.1.length:Int)))<| .rg {} [0, .pf ⟨(0:Int)≤0∧(0:Int)<(2:Nat),(by decide)⟩,1, .pf ⟨(0:Int)≤1∧(1:Int)<(2:Nat),(by decide)⟩]<| .cl 2 (wo u7.1) fun u5=> .cg 12 [((Zl u0 u2 u5 u4),true)] yB fun u8=> .r<| .e (bif (Zl u0 u2 u5 u4)then u8 else false))))
end
end Sg
