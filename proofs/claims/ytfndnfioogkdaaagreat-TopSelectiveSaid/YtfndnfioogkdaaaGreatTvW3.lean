import Derived.Test.YtfndnfioogkdaaaGreatTvW2
set_option linter.all false
namespace Sg
open Go Go.Proofs
set_option maxRecDepth 20000
noncomputable section
section
variable (p:au) (r_:Int) (s_:State) (v0:Int) (v4:(Int × Network)) (v9:(List (Int × Int))) (u7:Int) (p1:(List Source)) (v5:(Int × Network)) (x0:(List Int)) (u4:(List (Int × Int))) (w0:(List (Int × Int))) (v7:Int) (u0:Int) (u2:(List aU)) (w1:Int) (x5:(Int × Network)) (p2:(List Link)) (p3:(List aU)) (x1:(List Int)) (x2:(List ai)) (u5:(List (Int × Int))) (ua:(List (ai × Int))) (v3:Int) (v6:(Int × Network)) (w9:(List dK)) (x6:(List (List Int))) (u1:Network) (i:Nat) (w5:(List Int)) (i1:Nat) (w6:(List Int)) (u3:(List (ai × Int))) (i2:Nat) (u9:(List ai))
abbrev Yf:List (Nat × Option Ob):=[(J6 p),iP]
abbrev ZQ:List (Nat × TV):=[(4,(vP 65 0)),(5,(vO 66 false 0)),(6,(vI r_))]
abbrev Zp:Nat × Option Ob:=(66,some (.arr 4 1 0 (ay ah ([]:List Bool))))
abbrev Zq:Nat × Option Ob:=(67,some (.arr 3 1 0 (ay (aC .i64) ([]:List Int))))
abbrev abv:List CV:=[(.own 0 false (([]:List Int).length)),(.own 1 false (([]:List Int).length)),(.own 2 false (([]:List ai).length))]
abbrev Xu:List (Nat × TV):=[(2,(vP 63 0)),(nZ s_),(4,(vP 65 0)),(Al p),(9,(vP 71 0))]
abbrev Y2:=(IntKind.wrap .i64 ((IntKind.wrap .i64 ((IntKind.wrap .i64 ((1:Int)+p.buses))+(p.racks.length:Int)))+1))
abbrev Zi:=((Y2 p).toNat)
abbrev NM:=(List.replicate (Zi p) (([]:List Int):(List Int)))
abbrev aaC:=((NM p).length)
abbrev acW:List CV:=[(.d nS),(.own 70 true (aaC p))]
abbrev adk:Nat × Option Ob:=(71,some (.cells 93 (acW p)))
abbrev V5:Nat × Option Ob:=(70,some (.rows 44 1 (NM p).length (o7 BU (NM p)) none))
abbrev ZL:Nat × Option Ob:=(71,some (.cells 93 [(.own 72 false (([]:List dK).length)),(.own 70 true (aaC p))]))
abbrev aat:Nat × Option Ob:=(72,some (aV 103 2 dK.cell ([]:List dK)))
abbrev Wx:=(ay (aC .i64) (Lp p))
abbrev adA:=(ay ai.cell (Ue p))
abbrev ab3:List (Nat × Option Ob):=[(J6 p),iP,(V5 p),(ZL p),aat,(Vg p),(Mf p),(J3 p),(Uy p),(77,some aac),V8,Lm]
abbrev abD:Nat × TV:=(15,(vD (zB [(.int .i64 (k47 v0 p)),(.int .i64 ((at' p.sources v0.toNat).kind)),(.int .i64 ((at' p.sources v0.toNat).power)),(.int .i64 ((at' p.sources v0.toNat).sync)),(.int .i64 ((at' p.sources v0.toNat).fq))] 0)))
abbrev MB:Nat × Option Ob:=(70,some (.rows 44 1 v4.2.from_.length (o7 BU v4.2.from_) none))
abbrev acr:List (Nat × Option Ob):=[(J6 p),iP,(MB v4),(71,some (.cells 93 [(.own 87 false v4.2.aA.length),(.own 70 true v4.2.from_.length)])),(Vg p),(Mf p),(J3 p),(Uy p),(77,some (Cg 3 3 false false 1 1 (aC .i64) (aC .i64) (dG bn v0 v4.1 v9))),V8,Lm,(87,some (aV 103 2 dK.cell v4.2.aA))]
abbrev aaK:List (Nat × TV):=[(2,(vP 63 0)),(nZ s_),(4,(vP 65 0)),(Al p),(9,(vP 71 0)),(10,(vP 76 0)),qH,oP,nu,(SF p),(Tk p),(68,(vI (k11 v0)))]
abbrev abF:Nat × Option Ob:=(71,some (.cells 93 [(.own 72 false v4.2.aA.length),(.own 70 true v4.2.from_.length)]))
abbrev aci:Nat × TV:=(17,(vD (zB [(.int .i64 (Rs p u7)),(.int .i64 (TY p u7)),(.int .i64 ((at' p.links u7.toNat).kind)),(.int .i64 ((at' p.links u7.toNat).most)),(.int .i64 ((at' p.links u7.toNat).fq)),(bJ none 2 qQ.cell ((at' p.links u7.toNat).trip))] 0)))
abbrev abQ:List (Nat × Option Ob):=[(XD p p1),iP,(MB v5),(71,some (.cells 93 [(.own 95 false v5.2.aA.length),(.own 70 true v5.2.from_.length)])),(lI x0),(Mf p),(J3 p),(WA p x0),(C8 u4),(78,some (Cg 3 3 false false 1 1 (aC .i64) (aC .i64) (dG bn u7 v5.1 w0))),Lm,(95,some (aV 103 2 dK.cell v5.2.aA))]
abbrev ZO:List (Nat × TV):=[(2,(vP 63 0)),(nZ s_),(4,(vP 65 0)),(Al p),(9,(vP 71 0)),(10,(vP 76 0)),qH,oP,nu,(Tz p),(TG p),(90,(vI (k11 u7)))]
abbrev adT:List (Nat × TV):=[(2,(vP 63 0)),(nZ s_),(4,(vP 65 0)),(8,(vI v7)),(9,(vP 71 0)),(10,(vP 76 0)),qH,oP,nu,(18,(vI u0)),(Pg u2 u0),(JG u2),(116,(vI w1)),(117,(vI u0))]
abbrev aco:Nat × Option Ob:=(71,some (.cells 93 [(.own 115 false x5.2.aA.length),(.own 70 true x5.2.from_.length)]))
abbrev acX:List (Nat × Option Ob):=[(mH p p1 p2 p3),iP,(MB x5),(aco x5),(lI x0),(nM x1),(pu x2),(pY x2 x0 x1),(C8 u4),(CZ u5),(DW ua),(115,some (aV 103 2 dK.cell x5.2.aA))]
abbrev Sm:=(at' [((at' u2 u0.toNat).feeds).e0,((at' u2 u0.toNat).feeds).e1] v3.toNat)
abbrev abI:Nat × Option Ob:=(71,some (.cells 93 [(.own 119 false v6.2.aA.length),(.own 70 true v6.2.from_.length)]))
abbrev Zu:List (Nat × TV):=[(2,(vP 63 0)),(nZ s_),(4,(vP 65 0)),(8,(vI v7)),(9,(vP 71 0)),(10,(vP 76 0)),qH,oP,nu,(18,(vI u0)),(Pg u2 u0),(JG u2),(116,(vI w1)),(117,(vI u0)),(RU u2 u0),(134,(vI (k11 v3)))]
abbrev adH:List (Nat × TV):=[(2,(vP 63 0)),(nZ s_),(4,(vP 65 0)),(8,(vI v7)),(9,(vP 71 0)),(10,(vP 76 0)),qH,oP,nu,(JG u2),(116,(vI w1)),(117,(vI (k11 u0)))]
abbrev abq:Nat × Option Ob:=(71,some (.cells 93 [(.own 72 false w9.length),(.d (bJ (some true) 1 (Ae 1 (aC .i64)) x6))]))
abbrev acA:List (Nat × Option Ob):=[(abq w9 x6),(LD w9)]
abbrev abf:List (Nat × Option Ob):=[(xP u1),(xA u1)]
abbrev adm:=((at' u1.aA ((IntKind.wrap .i64 (((BitVec.ofInt (IntKind.bits .i64) (at' (u4.map Prod.snd) i) ^^^ BitVec.ofInt (IntKind.bits .i64) 1).toNat:Int))).toNat)).left)
abbrev Zz:=(w5.set ((at' (u4.map Prod.fst) i).toNat) (adm u4 u1 i))
abbrev aap:=(ay (aC .i64) (Zz u4 u1 i w5))
abbrev ab1:=(IntKind.wrap .i64 (((at' p2 ((at' (u5.map Prod.fst) i1).toNat)).most) - ((at' u1.aA ((at' (u5.map Prod.snd) i1).toNat)).left)))
abbrev Y4:=(w6.set ((at' (u5.map Prod.fst) i1).toNat) (ab1 p2 u5 u1 i1))
abbrev aax:=(ay (aC .i64) (Y4 p2 u5 u1 i1 w6))
abbrev ZU:List (Nat × TV):=[(2,(vP 63 0)),(4,(vP 65 0)),(9,(vP 71 0)),(10,(vP 76 0)),(26,(vP 125 0)),(27,(vI (at' (u3.map Prod.snd) i2))),(208,(vP 122 0))]
abbrev RO:=(((at' (u3.map Prod.fst) i2).e0).toNat)
abbrev Z7:=(at' u1.aA ((IntKind.wrap .i64 (((BitVec.ofInt (IntKind.bits .i64) (at' (u3.map Prod.snd) i2) ^^^ BitVec.ofInt (IntKind.bits .i64) 1).toNat:Int))).toNat))
abbrev Z5:=(u9.set (RO u3 i2) (⟨(Z7 u1 u3 i2).left,(at' u9 (RO u3 i2)).e1⟩:ai))
abbrev Z0:=(ay ai.cell (Z5 u1 u3 i2 u9))
abbrev abg:List DV:=[(.int .i64 ((Z7 u1 u3 i2).left))]
abbrev Za:=(u9.set (RO u3 i2) (⟨(at' u9 (RO u3 i2)).e0,(Z7 u1 u3 i2).left⟩:ai))
abbrev aaD:=(ay ai.cell (Za u1 u3 i2 u9))
abbrev Uw:Nat × Option Ob:=(126,some (aV 4 1 ah (Gu p)))
abbrev Uq:Nat × Option Ob:=(127,some (.cells 27 [(.own 126 true ((Gu p).length))]))
abbrev ac0:List (Nat × TV):=[(2,(vP 63 0)),(4,(vP 65 0)),(10,(vP 76 0)),(28,(vP 127 0)),(235,(.v (.one (.fn 58 0 1 (JS [(.ptr 128 0)])))))]
abbrev ZC:DV:=(zB [(zB [(bJ none 2 dK.cell u1.aA),(YQ u1)] 0)] 0)
abbrev abR:TV:=(vD (.fn 58 1 (bT [(ZC u1)])))
abbrev abA:List (Nat × TV):=[(2,(vP 63 0)),(4,(vP 65 0)),(10,(vP 76 0)),(28,(vP 127 0)),(235,(abR u1))]
end
theorem CJ (p:au) (s_:State) {r:(gV × (List Bool) × Int)} (h:yu p s_=some r):Fn Tryz.prog 12 (k20 s_ p) [] (.fU [(.agg [(.own 0 false r.1.sources.length),(.own 1 false r.1.links.length),(.own 2 false r.1.racks.length)]),(.one (.own 3 false r.2.1.length)),(sI r.2.2)]) [(0,some (aV 3 1 (aC .i64) r.1.sources)),(1,some (aV 3 1 (aC .i64) r.1.links)),(2,some (aV 41 2 ai.cell r.1.racks)),(3,some (aV 4 1 ah r.2.1)),(4,none)]:=by
 refine fN tT Tryz.func12 rfl rfl fun B=> ?_
 show jC _ _ _ _ _ _ (fO r) _
 unfold yu at h
 refine sz tT ⟨[(2,(vP 63 0)),(nZ s_),(4,(vP 65 0))],(Yf p)⟩ {fr:=[(0,63),(1,64),(2,65)] } [64] ?_
 refine aQ (aQ (bE h fun r_ hr_ h=> ?_))
 have q0:=bU p s_ hr_
 refine rg tT ⟨[(2,(vP 63 0)),(nZ s_),(4,(vP 65 0)),(7,(vI r_))],(Yf p)⟩ [_] {an:=[(2,cA q0 [])] } [] ⟨q0,trivial⟩ ?_
 refine sz tT ⟨[(2,(vP 63 0)),(nZ s_),(4,(vP 65 0)),(7,(vI r_)),(34,(vB (!decide (r_=0))))],(Yf p)⟩ {} [] ?_
 refine bI h (fun hb9 h=> ?_) (fun hb9 h=> ?_)
 ·refine ct hb9 ?_
  refine sz tT ⟨[(4,(vP 65 0)),(5,(vD nS)),(6,(vI r_))],[iP]⟩ {} [] ?_
  refine aI (.trans (gF.YI (t:=5) (b:=66) (esz0:=0) (el0:=fun _ _=> .nilp) (E:=4) (esz:=1) (el:=ay ah ([]:List Bool)) (by kernel_rfl) (by kernel_rfl)) (.trans (gF.Ib (E:=0) (esz:=0) (E0:=47) (cs:=[(.d nS),(.d nS),(.d nS)]) (p:=65) (q:=0) (b:=67) (esz0:=0) (el0:=fun _ _=> .nilp) (ob:= .arr 3 1 0 (ay (aC .i64) ([]:List Int))) (fun _ _ _ _ h=> .inl ⟨h,rfl⟩) (by kernel_rfl) (by kernel_rfl) (by kernel_rfl)) (.trans (fz ⟨(ZQ r_),[(65,some (.cells 47 [(.own 67 false 0),(.d nS),(.d nS)])),Zp,Zq]⟩ []) (.trans (gF.Ib (E:=0) (esz:=0) (E0:=47) (cs:=[(.own 67 false 0),(.d nS),(.d nS)]) (p:=65) (q:=1) (b:=68) (esz0:=0) (el0:=fun _ _=> .nilp) (ob:= .arr 3 1 0 (ay (aC .i64) ([]:List Int))) (fun _ _ _ _ h=> .inl ⟨h,rfl⟩) (by kernel_rfl) (by kernel_rfl) (by kernel_rfl)) (.trans (fz ⟨(ZQ r_),[(65,some (.cells 47 [(.own 67 false 0),(.own 68 false 0),(.d nS)])),Zp,Zq,(68,some (.arr 3 1 0 (ay (aC .i64) ([]:List Int))))]⟩ []) (.trans (gF.Ib (E:=0) (esz:=0) (E0:=47) (cs:=[(.own 67 false 0),(.own 68 false 0),(.d nS)]) (p:=65) (q:=2) (b:=69) (esz0:=0) (el0:=fun _ _=> .nilp) (ob:= .arr 41 2 0 (ay ai.cell ([]:List ai))) (fun _ _ _ _ h=> .inl ⟨h,rfl⟩) (by kernel_rfl) (by kernel_rfl) (by kernel_rfl)) (.trans (fz ⟨(ZQ r_),[(65,some (.cells 47 [(.own 67 false 0),(.own 68 false 0),(.own 69 false 0)])),Zp,Zq,(68,some (.arr 3 1 0 (ay (aC .i64) ([]:List Int)))),(69,some (.arr 41 2 0 (ay ai.cell ([]:List ai))))]⟩ []) (.trans (gF.fin (st':=⟨[(4,(vP 4 0)),(5,(vO 3 false 0)),(6,(vI r_))],[(0,some (.arr 3 1 0 (ay (aC .i64) ([]:List Int)))),(1,some (.arr 3 1 0 (ay (aC .i64) ([]:List Int)))),(2,some (.arr 41 2 0 (ay ai.cell ([]:List ai)))),(3,some (.arr 4 1 0 (ay ah ([]:List Bool)))),(4,some (.cells 47 [(.own 0 false 0),(.own 1 false 0),(.own 2 false 0)]))]⟩) (cs:=[]) ⟨[],[(67,0),(68,1),(69,2),(66,3),(65,4)]⟩ [4,5,6] (by kernel_rfl) trivial) (gF.le (st':=⟨[(4,(vP 4 0)),(5,(vO 3 false (([]:List Bool).length))),(6,(vI r_))],[(0,some (aV 3 1 (aC .i64) ([]:List Int))),(1,some (aV 3 1 (aC .i64) ([]:List Int))),(2,some (aV 41 2 ai.cell ([]:List ai))),(3,some (aV 4 1 ah ([]:List Bool))),(4,some (.cells 47 abv))]⟩) ⟨⟨tR,⟨_,rfl,Bp.v (Gi.one (j5.of (congrArg (CV.own _ _) (by simp only [List.length_set,List.length_append,List.length_cons,List.length_nil,List.length_replicate,List.length_drop,fC]))))⟩,tR,trivial⟩,⟨rfl,sO (by simp only [List.length_set,List.length_append,List.length_cons,List.length_nil,List.length_replicate,List.length_drop,fC]),⟨rfl,sO (by simp only [List.length_set,List.length_append,List.length_cons,List.length_nil,List.length_replicate,List.length_drop,fC]),⟨rfl,sO (by simp only [List.length_set,List.length_append,List.length_cons,List.length_nil,List.length_replicate,List.length_drop,fC]),⟨rfl,sO (by simp only [List.length_set,List.length_append,List.length_cons,List.length_nil,List.length_replicate,List.length_drop,fC]),⟨rfl,iL ⟨j5.of (congrArg (CV.own _ _) (by simp only [List.length_set,List.length_append,List.length_cons,List.length_nil,List.length_replicate,List.length_drop,fC])),j5.of (congrArg (CV.own _ _) (by simp only [List.length_set,List.length_append,List.length_cons,List.length_nil,List.length_replicate,List.length_drop,fC])),j5.of (congrArg (CV.own _ _) (by simp only [List.length_set,List.length_append,List.length_cons,List.length_nil,List.length_replicate,List.length_drop,fC])),trivial⟩,trivial⟩⟩⟩⟩⟩⟩))))))))) ?_
  refine aR ?_
  obtain rfl:=oi h
  exact rh [(.agg abv),(.one (.own 3 false (([]:List Bool).length))),(sI r_)] (.refl _) (hN 4 ⟨rfl,trivial,trivial⟩)
 ·refine cf hb9 ?_
  refine aP (sz tT ⟨[(2,(vP 63 0)),(nZ s_),(4,(vP 65 0)),(Al p)],(Yf p)⟩ {} [] ?_)
  refine aQ (aO h fun⟨a1,a2,a3⟩ h=> ?_)
  refine ri tT ⟨(Xu p s_),[(J6 p),iP,(70,some (.arr 44 1 (NM p).length (fun _ j=>[nS].getD j .nilp))),(adk p)]⟩ [_,((Y2 p):Int)=(Y2 p),_,_,(NM p).length=(Zi p),aS (Zi p) 1 (fun _ j=>[nS].getD j .nilp) (fun _ j=>[nS].getD j .nilp)] {an:=[(2, .arr (NM p).length (fun _ j=>[nS].getD j .nilp))],fr:=[(2,70),(4,71)] } [] ⟨a1,rfl,a2,a3,(List.length_replicate),(yK _ _ _),trivial⟩ (.trans (gF.V6 (b:=70) (E:=44) (esz:=1) (len:=(NM p).length) (el:=(fun _ j=>[nS].getD j .nilp)) (el':=o7 BU (NM p)) (by kernel_rfl) (fun i hi j hj=>match j,hj with|0,_=>Vl _ _ _ _ _ _ _ _)) (.trans (fz ⟨(Xu p s_),[(J6 p),iP,(V5 p),(adk p)]⟩ []) (.trans (gF.Ib (E:=0) (esz:=0) (E0:=93) (cs:=(acW p)) (p:=71) (q:=0) (b:=72) (esz0:=0) (el0:=fun _ _=> .nilp) (ob:= .arr 103 2 0 (ay dK.cell ([]:List dK))) (fun _ _ _ _ h=> .inl ⟨h,rfl⟩) (by kernel_rfl) (by kernel_rfl) (by kernel_rfl)) (.trans (fz ⟨(Xu p s_),[(J6 p),iP,(V5 p),(71,some (.cells 93 [(.own 72 false 0),(.own 70 true (aaC p))])),(72,some (.arr 103 2 0 (ay dK.cell ([]:List dK))))]⟩ []) (gF.le (st':=⟨(Xu p s_),[(J6 p),iP,(V5 p),(ZL p),aat]⟩) ⟨⟨tR,tR,tR,tR,tR,trivial⟩,(hN 3 ⟨rfl,iL ⟨j5.of (congrArg (CV.own _ _) (by simp only [List.length_set,List.length_append,List.length_cons,List.length_nil,List.length_replicate,List.length_drop,fC])),j5.refl _,trivial⟩,⟨rfl,sO (by simp only [List.length_set,List.length_append,List.length_cons,List.length_nil,List.length_replicate,List.length_drop,fC]),trivial⟩⟩)⟩))))) ?_
  refine aQ (aO h fun⟨a1,a2,a3,a4,a5,a6,a7,a8,a9⟩ h=> ?_)
  refine dg tT mX ⟨[(2,(vP 63 0)),(nZ s_),(4,(vP 65 0)),(Al p),(9,(vP 71 0)),(10,(vP 76 0))],[(J6 p),iP,(V5 p),(ZL p),aat,(Vg p),(Mf p),(J3 p),(Uy p)]⟩ [_,((p.sources.length:Int):Int)=(p.sources.length:Int),_,_,(Tv p).length=((p.sources.length:Int).toNat),aS ((p.sources.length:Int).toNat) 1 (fun _ j=>[(.int .i64 0)].getD j .nilp) (ay (aC .i64) (Tv p)),_,((p.links.length:Int):Int)=(p.links.length:Int),_,_,(Lp p).length=(UI p),aS (UI p) 1 (fun _ j=>[(.int .i64 0)].getD j .nilp) (Wx p),_,((p.racks.length:Int):Int)=(p.racks.length:Int),_,_,(Ue p).length=((p.racks.length:Int).toNat),aS ((p.racks.length:Int).toNat) 2 (fun _ j=>[(.int .i64 0),(.int .i64 0)].getD j .nilp) (adA p)] {an:=[(3, .arr (Tv p).length (ay (aC .i64) (Tv p))),(7, .arr (Lp p).length (Wx p)),(11, .arr (Ue p).length (adA p))],fr:=[(3,73),(7,74),(11,75),(13,76)] } [] ⟨a1,rfl,a2,a3,(List.length_replicate),(kN _ _ _ _ _ (fun j hj=>(match j,hj with|0,_=>rfl))),a4,rfl,a5,a6,(List.length_replicate),(kN _ _ _ _ _ (fun j hj=>(match j,hj with|0,_=>rfl))),a7,rfl,a8,a9,(List.length_replicate),(kN _ _ _ _ _ (fun j hj=>(match j,hj with|0,_=>rfl|1,_=>rfl))),trivial⟩ ?_
  refine sz tT ⟨(U6 s_ p),(ab3 p)⟩ {an:=[(0, .map 0 (o9 (aC .i64) ([]:(List (Int × Int)))) (pz (aC .i64) ([]:(List (Int × Int)))) []),(1, .map 0 (o9 (aC .i64) ([]:(List (Int × Int)))) (pz (aC .i64) ([]:(List (Int × Int)))) []),(2, .map 0 (o9 ai.cell ([]:(List (ai × Int)))) (pz (aC .i64) ([]:(List (ai × Int)))) [])],fr:=[(0,77),(1,78),(2,79)] } [] ?_
  refine aQ (sz tT ⟨[(2,(vP 63 0)),(nZ s_),(4,(vP 65 0)),(Al p),(9,(vP 71 0)),(10,(vP 76 0)),qH,oP,nu,(SF p),(Tk p),(68,(vI 0))],(ab3 p)⟩ {} [] ?_)
  refine bE h fun y hy h=> ?_
  refine aL [] (uN p s_) (tZ p s_) fO hy (fun s f h=> ?_) ?_
  ·clear hy
   show jC _ _ _ _ _ _ ((Dl p s_) f) _
   unfold zf at h
   obtain⟨n0,n1,v9,v0⟩:=s
   refine sz tT ⟨[(2,(vP 63 0)),(nZ s_),(4,(vP 65 0)),(Al p),(9,(vP 71 0)),(10,(vP 76 0)),qH,oP,nu,(SF p),(Tk p),(68,(vI v0)),(69,(vB (decide (v0<(p.sources.length:Int)))))],(SH p n1 n0 v9)⟩ {} [] ?_
   refine aQ ?_
   refine bI h (fun hb1 h=> ?_) (fun hb1 h=> ?_)
   ·refine ct hb1 ?_
    refine aP (aQ (aB (aQ (aO h fun a1 h=> ?_))))
    refine rg tT ⟨[(2,(vP 63 0)),(nZ s_),(4,(vP 65 0)),(Al p),(9,(vP 71 0)),(10,(vP 76 0)),qH,oP,nu,(14,(vI v0)),(abD p v0),(SF p),(Tk p),(68,(vI v0))],(SH p n1 n0 v9)⟩ [_] {fr:=[(3,86)] } [86] ⟨a1,trivial⟩ ?_
    refine aQ (bE h fun ui hr_1 h=> ?_)
    have q0:=yQ p s_ v0 hr_1
    refine rg tT ⟨[(2,(vP 63 0)),(nZ s_),(4,(vP 65 0)),(Al p),(9,(vP 71 0)),(10,(vP 76 0)),qH,oP,nu,(14,(vI v0)),(abD p v0),(SF p),(Tk p),(68,(vI v0)),(76,(vB ui))],(SH p n1 n0 v9)⟩ [_] {an:=[(3,cA q0 [])] } [] ⟨q0,trivial⟩ ?_
    refine bI h (fun hb h=> ?_) (fun hb h=> ?_)
    ·refine ct hb ?_
     refine bE h fun v4 hr_2 h=> ?_
     have q0:=rk [(0,71),(1,72),(2,70),(3,87)] (iW 0 (IntKind.wrap .i64 ((1:Int)+(k47 v0 p))) ((at' p.sources v0.toNat).power) 0 (⟨n0,n1⟩:Network) hr_2)
     refine rg tT ⟨(acv s_ p v0),(acr p v0 v4 v9)⟩ [_,ji [some .i64] 1 1 v9.length (o9 (aC .i64) v9) (pz (aC .i64) v9) [(.int .i64 v0)] [(cI v4.1)] [] (dG bn v0 v4.1 v9).length (o9 (aC .i64) (dG bn v0 v4.1 v9)) (pz (aC .i64) (dG bn v0 v4.1 v9))] {an:=[(8,cA q0 [71,72,70]),(9, .map (dG bn v0 v4.1 v9).length (o9 (aC .i64) (dG bn v0 v4.1 v9)) (pz (aC .i64) (dG bn v0 v4.1 v9)) [])] } [] ⟨q0,(tH (fun _=>rfl) (fun _ _=>rfl) v9 v0 v4.1 rfl rfl),trivial⟩ ?_
     refine ri tT ⟨(aaK p s_ v0),(acr p v0 v4 v9)⟩ [] {} [] trivial (gF.fin (st':=⟨(aaK p s_ v0),[(J6 p),iP,(MB v4),(abF v4),(72,some (aV 103 2 dK.cell v4.2.aA)),(Vg p),(Mf p),(J3 p),(Uy p),(77,some (Cg 3 3 false false 1 1 (aC .i64) (aC .i64) (dG bn v0 v4.1 v9))),V8,Lm]⟩) (cs:=[]) ⟨[],[(63,63),(65,65),(70,70),(71,71),(87,72),(73,73),(74,74),(75,75),(76,76),(77,77),(78,78),(79,79)]⟩ [2,3,4,8,9,10,11,12,13,66,67,68] (by kernel_rfl) trivial) ?_
     obtain rfl:=oi h
     exact lN
    ·refine cf hb ?_
     refine aP (rz tT ⟨(aaK p s_ v0),(SH p n1 n0 v9)⟩ {} [] ?_)
     obtain rfl:=oi h
     exact lN
   ·refine cf hb1 ?_
    refine aI (fz ⟨(U6 s_ p),(SH p n1 n0 v9)⟩ []) ?_
    refine aX ?_
    obtain rfl:=oi h
    exact lB
  ·clear hy
   cases y with
   |brk z=>
    obtain⟨p1,ue,uc,x0,u4⟩:=z
    unfold WV
    refine⟨_, .refl, ?_⟩
    refine aQ (sz tT ⟨[(2,(vP 63 0)),(nZ s_),(4,(vP 65 0)),(Al p),(9,(vP 71 0)),(10,(vP 76 0)),qH,oP,nu,(Tz p),(TG p),(90,(vI 0))],(acK p p1 x0 uc ue u4)⟩ {} [] ?_)
    refine bE h fun y1 hy h=> ?_
    refine aL [] (uI p s_ p1 x0 u4) (tN p s_ p1 x0 u4) fO hy (fun s f h=> ?_) ?_
    ·clear hy
     show jC _ _ _ _ _ _ ((Dg p s_ p1 x0 u4) f) _
     unfold zh at h
     obtain⟨w7,w3,w0,u7⟩:=s
     refine sz tT ⟨[(2,(vP 63 0)),(nZ s_),(4,(vP 65 0)),(Al p),(9,(vP 71 0)),(10,(vP 76 0)),qH,oP,nu,(Tz p),(TG p),(90,(vI u7)),(91,(vB (decide (u7<(p.links.length:Int)))))],(TA p w0 p1 w3 w7 x0 u4)⟩ {} [] ?_
     refine aQ ?_
     refine bI h (fun hb3 h=> ?_) (fun hb3 h=> ?_)
     ·refine ct hb3 ?_
      refine aP (aQ (aB (aQ (aO h fun a1 h=> ?_))))
      refine rg tT ⟨[(2,(vP 63 0)),(nZ s_),(4,(vP 65 0)),(Al p),(9,(vP 71 0)),(10,(vP 76 0)),qH,oP,nu,(16,(vI u7)),(aci p u7),(Tz p),(TG p),(90,(vI u7))],(TA p w0 p1 w3 w7 x0 u4)⟩ [_] {fr:=[(3,94)] } [94] ⟨a1,trivial⟩ ?_
      refine aQ (bE h fun uj hr_3 h=> ?_)
      have q0:=vv (⟨p.buses,p1,p.links,p.racks⟩:au) s_ u7 hr_3
      refine rg tT ⟨[(2,(vP 63 0)),(nZ s_),(4,(vP 65 0)),(Al p),(9,(vP 71 0)),(10,(vP 76 0)),qH,oP,nu,(16,(vI u7)),(aci p u7),(Tz p),(TG p),(90,(vI u7)),(98,(vB uj))],(TA p w0 p1 w3 w7 x0 u4)⟩ [_] {an:=[(3,cA q0 [])] } [] ⟨q0,trivial⟩ ?_
      refine bI h (fun hb2 h=> ?_) (fun hb2 h=> ?_)
      ·refine ct hb2 ?_
       refine bE h fun v5 hr_4 h=> ?_
       have q0:=rk [(0,71),(1,72),(2,70),(3,95)] (iW (IntKind.wrap .i64 ((1:Int)+(Rs p u7))) (IntKind.wrap .i64 ((1:Int)+(TY p u7))) ((at' p.links u7.toNat).most) ((at' p.links u7.toNat).most) (⟨w7,w3⟩:Network) hr_4)
       refine rg tT ⟨(adE p s_ u7),(abQ p u7 p1 v5 x0 u4 w0)⟩ [_,ji [some .i64] 1 1 w0.length (o9 (aC .i64) w0) (pz (aC .i64) w0) [(.int .i64 u7)] [(cI v5.1)] [] (dG bn u7 v5.1 w0).length (o9 (aC .i64) (dG bn u7 v5.1 w0)) (pz (aC .i64) (dG bn u7 v5.1 w0))] {an:=[(13,cA q0 [71,72,70]),(14, .map (dG bn u7 v5.1 w0).length (o9 (aC .i64) (dG bn u7 v5.1 w0)) (pz (aC .i64) (dG bn u7 v5.1 w0)) [])] } [] ⟨q0,(tH (fun _=>rfl) (fun _ _=>rfl) w0 u7 v5.1 rfl rfl),trivial⟩ ?_
       refine ri tT ⟨(ZO p s_ u7),(abQ p u7 p1 v5 x0 u4 w0)⟩ [] {} [] trivial (gF.fin (st':=⟨(ZO p s_ u7),[(XD p p1),iP,(MB v5),(abF v5),(72,some (aV 103 2 dK.cell v5.2.aA)),(lI x0),(Mf p),(J3 p),(WA p x0),(C8 u4),(78,some (Cg 3 3 false false 1 1 (aC .i64) (aC .i64) (dG bn u7 v5.1 w0))),Lm]⟩) (cs:=[]) ⟨[],[(63,63),(65,65),(70,70),(71,71),(95,72),(73,73),(74,74),(75,75),(76,76),(77,77),(78,78),(79,79)]⟩ [2,3,4,8,9,10,11,12,13,88,89,90] (by kernel_rfl) trivial) ?_
       obtain rfl:=oi h
       exact lN
      ·refine cf hb2 ?_
       refine aP (rz tT ⟨(ZO p s_ u7),(TA p w0 p1 w3 w7 x0 u4)⟩ {} [] ?_)
       obtain rfl:=oi h
       exact lN
     ·refine cf hb3 ?_
      refine aI (fz ⟨(U6 s_ p),(TA p w0 p1 w3 w7 x0 u4)⟩ []) ?_
      refine aX ?_
      obtain rfl:=oi h
      exact lB
    ·clear hy
     cases y1 with
     |brk z=>
      obtain⟨p2,uf,ud,x1,u5⟩:=z
      unfold WV
      refine⟨_, .refl, ?_⟩
      refine aQ (sz tT ⟨[(2,(vP 63 0)),(nZ s_),(4,(vP 65 0)),(Al p),(9,(vP 71 0)),(10,(vP 76 0)),qH,oP,nu,(115,(vD (k3 p))),(116,(vI (p.racks.length:Int))),(117,(vI 0))],(ac7 x1 p p1 p2 ud uf x0 u4 u5)⟩ {} [] ?_)
      refine bE h fun y3 hy h=> ?_
      refine aL [] (uD p s_ p1 x0 u4 p2 x1 u5) (uO p p1 x0 u4 p2 x1 u5) fO hy (fun s f h=> ?_) ?_
      ·clear hy
       show jC _ _ _ _ _ _ ((nL p s_ p1 x0 u4 p2 x1 u5) f) _
       unfold yR at h
       obtain⟨p3,v7,x7,x4,x2,ua,u2,w1,u0⟩:=s
       refine sz tT ⟨[(2,(vP 63 0)),(nZ s_),(4,(vP 65 0)),(8,(vI v7)),(9,(vP 71 0)),(10,(vP 76 0)),qH,oP,nu,(JG u2),(116,(vI w1)),(117,(vI u0)),(118,(vB (decide (u0<w1))))],(Uz p p1 p2 p3 x2 x0 x1 ua x4 x7 u4 u5)⟩ {} [] ?_
       refine aQ ?_
       refine bI h (fun hb6 h=> ?_) (fun hb6 h=> ?_)
       ·refine ct hb6 ?_
        refine aP (aQ (aB (aQ (aO h fun a1 h=> ?_))))
        refine rg tT ⟨(adT s_ v7 u0 u2 w1),(Uz p p1 p2 p3 x2 x0 x1 ua x4 x7 u4 u5)⟩ [_] {fr:=[(3,114)] } [114] ⟨a1,trivial⟩ ?_
        refine aQ (bE h fun x5 hr_5 h=> ?_)
        have q0:=rk [(0,71),(1,72),(2,70),(3,115)] (iW (IntKind.wrap .i64 ((IntKind.wrap .i64 ((1:Int)+p.buses))+u0)) v7 ((at' u2 u0.toNat).power) 0 (⟨x7,x4⟩:Network) hr_5)
        refine rg tT ⟨(adT s_ v7 u0 u2 w1),(acX p p1 x0 u4 x5 p2 p3 x1 x2 u5 ua)⟩ [_] {an:=[(9,cA q0 [71,72,70])] } [] ⟨q0,trivial⟩ ?_
        refine sz tT ⟨[(2,(vP 63 0)),(nZ s_),(4,(vP 65 0)),(8,(vI v7)),(9,(vP 71 0)),(10,(vP 76 0)),qH,oP,nu,(18,(vI u0)),(Pg u2 u0),(JG u2),(116,(vI w1)),(117,(vI u0)),(RU u2 u0),(134,(vI 0))],(acX p p1 x0 u4 x5 p2 p3 x1 x2 u5 ua)⟩ {} [] ?_
        refine bE h fun y2 hy h=> ?_
        refine aL [5] (uG p s_ p1 x0 u4 p2 x1 u5 p3 v7 x2 u2 w1 u0) (uE p s_ p1 x0 u4 p2 x1 u5 p3 v7 x2 u2 w1 u0) (nL p s_ p1 x0 u4 p2 x1 u5) hy (fun s f h=> ?_) ?_
        ·clear hy
         show jC _ _ _ _ _ _ ((Dr p s_ p1 x0 u4 p2 x1 u5 p3 v7 x2 u2 w1 u0) f) _
         unfold y9 at h
         obtain⟨w8,w4,w2,v3⟩:=s
         refine sz tT ⟨[(2,(vP 63 0)),(nZ s_),(4,(vP 65 0)),(8,(vI v7)),(9,(vP 71 0)),(10,(vP 76 0)),qH,oP,nu,(18,(vI u0)),(Pg u2 u0),(JG u2),(116,(vI w1)),(117,(vI u0)),(RU u2 u0),(134,(vI v3)),(135,(vB (decide (v3<2))))],(QJ p p1 p2 p3 w4 w8 x0 x1 x2 u4 u5 w2)⟩ {} [] ?_
         refine aQ ?_
         refine bI h (fun hb5 h=> ?_) (fun hb5 h=> ?_)
         ·refine ct hb5 ?_
          refine aP (aQ (aB (aQ (aO h fun a1 h=> ?_))))
          refine rg tT ⟨[(2,(vP 63 0)),(nZ s_),(4,(vP 65 0)),(8,(vI v7)),(9,(vP 71 0)),(10,(vP 76 0)),qH,oP,nu,(18,(vI u0)),(Pg u2 u0),(20,(vI v3)),(21,(vI (Sm u0 u2 v3))),(JG u2),(116,(vI w1)),(117,(vI u0)),(RU u2 u0),(134,(vI v3))],(QJ p p1 p2 p3 w4 w8 x0 x1 x2 u4 u5 w2)⟩ [_,v3.toNat*1+1≤(aan u2 u0).length,((aan u2 u0).drop (v3.toNat*1)).take 1=[(.int .i64 (Sm u0 u2 v3))].map .d] {an:=[(1, .vals [(.int .i64 (Sm u0 u2 v3))])] } [] ⟨a1,(Xf (n:=2) (sz:=1) (Nat.le_refl _) a1),(XC (n:=2) (sz:=1) (g:=fun q=>[(cI (at' [((at' u2 u0.toNat).feeds).e0,((at' u2 u0.toNat).feeds).e1] q))]) (by intro q hq;match q,hq with|0,_=>rfl|1,_=>rfl) a1),trivial⟩ ?_
          refine aQ (bE h fun ul hr_6 h=> ?_)
          have q0:=Ev s_ (Sm u0 u2 v3) hr_6
          refine rg tT ⟨[(2,(vP 63 0)),(nZ s_),(4,(vP 65 0)),(8,(vI v7)),(9,(vP 71 0)),(10,(vP 76 0)),qH,oP,nu,(18,(vI u0)),(Pg u2 u0),(20,(vI v3)),(21,(vI (Sm u0 u2 v3))),(JG u2),(116,(vI w1)),(117,(vI u0)),(RU u2 u0),(134,(vI v3)),(140,(vB ul))],(QJ p p1 p2 p3 w4 w8 x0 x1 x2 u4 u5 w2)⟩ [_] {an:=[(2,cA q0 [])] } [] ⟨q0,trivial⟩ ?_
          refine bI h (fun hb4 h=> ?_) (fun hb4 h=> ?_)
          ·refine ct hb4 ?_
           refine bE h fun v6 hr_7 h=> ?_
           have q0:=rk [(0,71),(1,115),(2,70),(3,119)] (iW (IntKind.wrap .i64 ((1:Int)+(Sm u0 u2 v3))) (IntKind.wrap .i64 ((IntKind.wrap .i64 ((1:Int)+p.buses))+u0)) ((at' u2 u0.toNat).power) 0 (⟨w8,w4⟩:Network) hr_7)
           refine rg tT ⟨(adl u2 u0 s_ v7 w1 v3),[(mH p p1 p2 p3),iP,(MB v6),(abI v6),(lI x0),(nM x1),(pu x2),(pY x2 x0 x1),(C8 u4),(CZ u5),(79,some (Cg 41 3 true false 2 1 ai.cell (aC .i64) (dG (fun a b=>(decide (a.e0=b.e0) && (decide (a.e1=b.e1) && true))) (⟨u0,v3⟩:ai) v6.1 w2))),(119,some (aV 103 2 dK.cell v6.2.aA))]⟩ [_,ji [some .i64,some .i64] 2 1 w2.length (o9 ai.cell w2) (pz (aC .i64) w2) [(.int .i64 u0),(.int .i64 v3)] [(cI v6.1)] [] (dG (fun a b=>(decide (a.e0=b.e0) && (decide (a.e1=b.e1) && true))) (⟨u0,v3⟩:ai) v6.1 w2).length (o9 ai.cell (dG (fun a b=>(decide (a.e0=b.e0) && (decide (a.e1=b.e1) && true))) (⟨u0,v3⟩:ai) v6.1 w2)) (pz (aC .i64) (dG (fun a b=>(decide (a.e0=b.e0) && (decide (a.e1=b.e1) && true))) (⟨u0,v3⟩:ai) v6.1 w2))] {an:=[(14,cA q0 [71,115,70]),(15, .map (dG (fun a b=>(decide (a.e0=b.e0) && (decide (a.e1=b.e1) && true))) (⟨u0,v3⟩:ai) v6.1 w2).length (o9 ai.cell (dG (fun a b=>(decide (a.e0=b.e0) && (decide (a.e1=b.e1) && true))) (⟨u0,v3⟩:ai) v6.1 w2)) (pz (aC .i64) (dG (fun a b=>(decide (a.e0=b.e0) && (decide (a.e1=b.e1) && true))) (⟨u0,v3⟩:ai) v6.1 w2)) [])] } [] ⟨q0,(tH (fun _=>rfl) (fun _ _=>rfl) w2 (⟨u0,v3⟩:ai) v6.1 rfl rfl),trivial⟩ ?_
           refine ri tT ⟨(Zu s_ v7 u0 u2 w1 v3),[(mH p p1 p2 p3),iP,(MB v6),(abI v6),(lI x0),(nM x1),(pu x2),(pY x2 x0 x1),(C8 u4),(CZ u5),(79,some (Cg 41 3 true false 2 1 ai.cell (aC .i64) (dG (fun a b=>(decide (a.e0=b.e0) && (decide (a.e1=b.e1) && true))) (⟨u0,v3⟩:ai) v6.1 w2))),(119,some (aV 103 2 dK.cell v6.2.aA))]⟩ [] {} [] trivial (gF.fin (st':=⟨(Zu s_ v7 u0 u2 w1 v3),[(mH p p1 p2 p3),iP,(MB v6),(aco v6),(lI x0),(nM x1),(pu x2),(pY x2 x0 x1),(C8 u4),(CZ u5),(79,some (Cg 41 3 true false 2 1 ai.cell (aC .i64) (dG (fun a b=>(decide (a.e0=b.e0) && (decide (a.e1=b.e1) && true))) (⟨u0,v3⟩:ai) v6.1 w2))),(115,some (aV 103 2 dK.cell v6.2.aA))]⟩) (cs:=[]) ⟨[],[(63,63),(65,65),(70,70),(71,71),(73,73),(74,74),(75,75),(76,76),(77,77),(78,78),(79,79),(119,115)]⟩ [2,3,4,8,9,10,11,12,13,18,19,115,116,117,133,134] (by kernel_rfl) trivial) ?_
           obtain rfl:=oi h
           exact lN
          ·refine cf hb4 ?_
           refine aP (rz tT ⟨(Zu s_ v7 u0 u2 w1 v3),(QJ p p1 p2 p3 w4 w8 x0 x1 x2 u4 u5 w2)⟩ {} [] ?_)
           obtain rfl:=oi h
           exact lN
         ·refine cf hb5 ?_
          refine aI (fz (acf s_ v7 u2 w1 u0 p p1 p2 p3 w4 w8 x0 x1 x2 u4 u5 w2) []) ?_
          refine aX ?_
          obtain rfl:=oi h
          exact lB
        ·clear hy
         cases y2 with
         |brk z=>
          obtain⟨ub,x8,ug⟩:=z
          unfold WV
          refine⟨_, .refl, ?_⟩
          refine ri tT ⟨(adH s_ v7 u0 u2 w1),(QJ p p1 p2 p3 x8 ub x0 x1 x2 u4 u5 ug)⟩ [] {} [] trivial (gF.fin (st':=⟨(adH s_ v7 u0 u2 w1),(Uz p p1 p2 p3 x2 x0 x1 ug x8 ub u4 u5)⟩) (cs:=[]) ⟨[],[(63,63),(65,65),(70,70),(71,71),(115,72),(73,73),(74,74),(75,75),(76,76),(77,77),(78,78),(79,79)]⟩ [2,3,4,8,9,10,11,12,13,115,116,117] (by kernel_rfl) trivial) ?_
          obtain rfl:=oi h
          exact lN
         |ret v=>
          obtain rfl:=oi h
          unfold WV
          intro e st hn ha hR
          cases e with
          |normal=>exact absurd rfl hn
          |exit id=>simp only [Y3 (b:=5) ha rfl,cond_false];exact hR
          |goto l=>exact hR
          |ret=>exact hR
          |panic c=>exact hR
          |outgrown=>exact hR
       ·refine cf hb6 ?_
        refine aI (fz (abM v7 p p1 p2 p3 x4 x7 x0 x1 x2 u4 u5 ua) []) ?_
        refine aX ?_
        obtain rfl:=oi h
        exact lB
      ·clear hy
       cases y3 with
       |brk z=>
        obtain⟨v1,x9,w9,x6,v2,u3⟩:=z
        unfold WV
        refine⟨_, .refl, ?_⟩
        refine aQ (aI (.trans (fi ⟨(Zg x9),[(mH p p1 p2 v1),iP,(71,some (.cells 93 [(.own 72 false w9.length),(.d (.sl (some true) 1 x6.length (fun i j=>evD (o7 BU x6 i j))))])),(LD w9),(lI x0),(nM x1),(pu v2),(pY v2 x0 x1),(C8 u4),(CZ u5),(DW u3)]⟩ [x6.length=x6.length] [70] ⟨rfl,trivial⟩) (gF.le (st':=⟨(Zg x9),[(mH p p1 p2 v1),iP,(abq w9 x6),(LD w9),(lI x0),(nM x1),(pu v2),(pY v2 x0 x1),(C8 u4),(CZ u5),(DW u3)]⟩) ⟨⟨tR,tR,tR,tR,tR,tR,tR,tR,trivial⟩,(hN 2 ⟨rfl,iL ⟨j5.refl _,j5.d (nA.sl (.inr rfl) (fun i _ j hj=>match j,hj with|0,_=> .refl _)),trivial⟩,(.refl _)⟩)⟩)) ?_)
        refine bE h fun u1 hr_8 h=> ?_
        refine rg tT ⟨[(2,(vP 63 0)),(4,(vP 65 0)),(9,(vP 71 0)),(10,(vP 76 0)),qH,oP,nu],[(mH p p1 p2 v1),iP,(xP u1),(xA u1),(lI x0),(nM x1),(pu v2),(pY v2 x0 x1),(C8 u4),(CZ u5),(DW u3)]⟩ [Fn Tryz.prog 30 [(.one (.ptr 71 0)),(sI x9)] (acA w9 x6) (.fU []) (abf u1)] {an:=[(2, .call [71,72] (.fU []) (abf u1))] } [] ⟨(Fn.leH (args:=[(.one (.ptr 71 0)),(sI x9)]) (args':=[(.one (.ptr 71 0)),(sI x9)]) (hin:=[(71,some (.cells 93 [(.own 72 false w9.length),(.d (bJ none 1 (Ae 1 (aC .i64)) x6))])),(LD w9)]) (hin':=(acA w9 x6)) (rK [(0,71),(1,72)] (yB x9 (⟨w9,x6⟩:Network) hr_8)) ⟨Gi.refl _,Gi.refl _,trivial⟩ ⟨rfl,iL ⟨j5.refl _,j5.d nA.yS,trivial⟩,(.refl _)⟩),trivial⟩ ?_
        refine aQ (bE h fun y4 hy h=> ?_)
        refine yN (Dp p p1 p2 x1 u5 v1 v2 u3 u1) (K:=3) (V:=3) (s0:=(x0)) ⟨3,3,false,false,1,1,u4.length,o9 (aC .i64) u4,pz (aC .i64) u4,[]⟩ 77 120 (fun i=>(sI (at' (u4.map Prod.fst) i))) (fun i=>(sI (at' (u4.map Prod.snd) i))) hy [3,4] (by kernel_rfl) (by kernel_rfl) (by kernel_rfl) (fun _ _=> ⟨rfl,rfl⟩) (fun _ _=> ⟨DF _ _,DF _ _⟩) (fun _=>(gF.fin (st':=(abB u1 p p1 p2 v1 x0 x1 v2 u5 u3)) (cs:=[]) ⟨[],[(63,63),(65,65),(71,71),(72,72),(73,73),(74,74),(75,75),(76,76),(78,78),(79,79),(120,120)]⟩ [2,4,9,10,12,13,162] (by kernel_rfl) trivial)) (fun s=>by obtain⟨w5,rfl⟩: ∃q,q=s:=⟨_,rfl⟩;kernel_rfl) (fun B s i s' hi h=> ?_) ?_
        ·clear hy
         unfold yO at h
         obtain⟨w5,rfl⟩: ∃q,q=s:=⟨_,rfl⟩
         refine rwp tT (⟨[(2,(vP 63 0)),(4,(vP 65 0)),(9,(vP 71 0)),(10,(vP 76 0)),oP,nu,(22,(vI (at' (u4.map Prod.fst) i))),(23,(vI (at' (u4.map Prod.snd) i))),(162,(vP 120 0))],(acS u1 p p1 p2 v1 w5 x1 v2 u5 u3)⟩) {fin:=⟨[],[(63,63),(65,65),(71,71),(72,72),(73,73),(74,74),(75,75),(76,76),(78,78),(79,79),(120,120)]⟩,ts:=[2,4,9,10,12,13,22,23,162] } (cs:=[]) (by kernel_rfl) trivial .refl ?_
         refine aO h fun⟨a1,a2⟩ h=> ?_
         refine di tT mX ⟨ZF,[(mH p p1 p2 v1),iP,(xP u1),(xA u1),(73,some (.arr 3 1 w5.length (aap u4 u1 i w5))),(nM x1),(pu v2),(pY v2 w5 x1),(CZ u5),(DW u3),(120,none)]⟩ [_,_,_,_,aS w5.length 1 (jK (ay (aC .i64) w5) ((at' (u4.map Prod.fst) i).toNat) 0 [(.int .i64 (adm u4 u1 i))]) (aap u4 u1 i w5)] {an:=[(13, .arr 0 (aap u4 u1 i w5))] } [] ⟨a1,(tL a1),a2,(tL a2),(bO _ _ _ _ _ _ _ _ rfl (fun j hj=>(match j,hj with|0,_=>rfl))),trivial⟩ (gF.le (st':=⟨ZF,[(mH p p1 p2 v1),iP,(xP u1),(xA u1),(73,some (aV 3 1 (aC .i64) (Zz u4 u1 i w5))),(nM x1),(pu v2),(76,some (.cells 47 [(.own 73 true ((Zz u4 u1 i w5).length)),(.own 74 true x1.length),(.own 75 true v2.length)])),(CZ u5),(DW u3),(120,none)]⟩) ⟨⟨tR,tR,tR,tR,tR,tR,tR,trivial⟩,(hN 4 ⟨rfl,sO (by simp only [List.length_set,List.length_append,List.length_cons,List.length_nil,List.length_replicate,List.length_drop,fC]),(hN 2 ⟨rfl,iL ⟨j5.of (congrArg (CV.own _ _) (by simp only [List.length_set,List.length_append,List.length_cons,List.length_nil,List.length_replicate,List.length_drop,fC])),j5.refl _,j5.refl _,trivial⟩,(.refl _)⟩)⟩)⟩) ?_
         obtain rfl:=oi h
         exact⟨.inl rfl,by kernel_rfl⟩
        ·clear hy
         obtain⟨u6,rfl⟩: ∃q,q=y4:=⟨_,rfl⟩
         refine aI (fz ⟨[(2,(vP 63 0)),(4,(vP 65 0)),(9,(vP 71 0)),(10,(vP 76 0)),oP,nu],[(mH p p1 p2 v1),iP,(xP u1),(xA u1),(lI u6),(nM x1),(pu v2),(pY v2 u6 x1),(CZ u5),(DW u3)]⟩ []) ?_
         refine aQ (bE h fun y5 hy h=> ?_)
         refine yN (CS p p1 p2 v1 v2 u3 u1 u6) (K:=3) (V:=3) (s0:=(x1)) ⟨3,3,false,false,1,1,u5.length,o9 (aC .i64) u5,pz (aC .i64) u5,[]⟩ 78 121 (fun i1=>(sI (at' (u5.map Prod.fst) i1))) (fun i1=>(sI (at' (u5.map Prod.snd) i1))) hy [3,4] (by kernel_rfl) (by kernel_rfl) (by kernel_rfl) (fun _ _=> ⟨rfl,rfl⟩) (fun _ _=> ⟨DF _ _,DF _ _⟩) (fun _=>(gF.fin (st':=(abn p p1 p2 v1 u1 u6 x1 v2 u3)) (cs:=[]) ⟨[],[(63,63),(65,65),(71,71),(72,72),(73,73),(74,74),(75,75),(76,76),(79,79),(121,121)]⟩ [2,4,9,10,13,182] (by kernel_rfl) trivial)) (fun s=>by obtain⟨w6,rfl⟩: ∃q,q=s:=⟨_,rfl⟩;kernel_rfl) (fun B s i1 s' hi h=> ?_) ?_
         ·clear hy
          unfold y7 at h
          obtain⟨w6,rfl⟩: ∃q,q=s:=⟨_,rfl⟩
          refine rwp tT (⟨[(2,(vP 63 0)),(4,(vP 65 0)),(9,(vP 71 0)),(10,(vP 76 0)),nu,(24,(vI (at' (u5.map Prod.fst) i1))),(25,(vI (at' (u5.map Prod.snd) i1))),(182,(vP 121 0))],(abV p p1 p2 v1 u1 u6 w6 v2 u3)⟩) {fin:=⟨[],[(63,63),(65,65),(71,71),(72,72),(73,73),(74,74),(75,75),(76,76),(79,79),(121,121)]⟩,ts:=[2,4,9,10,13,24,25,182] } (cs:=[]) (by kernel_rfl) trivial .refl ?_
          refine aO h fun⟨a1,a2,a3⟩ h=> ?_
          refine di tT mX ⟨aaw,[(mH p p1 p2 v1),iP,(xP u1),(xA u1),(lI u6),(74,some (.arr 3 1 w6.length (aax p2 u5 u1 i1 w6))),(pu v2),(pY v2 u6 w6),(DW u3),(121,none)]⟩ [_,_,_,_,_,aS w6.length 1 (jK (ay (aC .i64) w6) ((at' (u5.map Prod.fst) i1).toNat) 0 [(.int .i64 (ab1 p2 u5 u1 i1))]) (aax p2 u5 u1 i1 w6)] {an:=[(19, .arr 0 (aax p2 u5 u1 i1 w6))] } [] ⟨a1,a2,(tL a2),a3,(tL a3),(bO _ _ _ _ _ _ _ _ rfl (fun j hj=>(match j,hj with|0,_=>rfl))),trivial⟩ (gF.le (st':=⟨aaw,[(mH p p1 p2 v1),iP,(xP u1),(xA u1),(lI u6),(74,some (aV 3 1 (aC .i64) (Y4 p2 u5 u1 i1 w6))),(pu v2),(76,some (.cells 47 [(.own 73 true u6.length),(.own 74 true ((Y4 p2 u5 u1 i1 w6).length)),(.own 75 true v2.length)])),(DW u3),(121,none)]⟩) ⟨⟨tR,tR,tR,tR,tR,tR,trivial⟩,(hN 5 ⟨rfl,sO (by simp only [List.length_set,List.length_append,List.length_cons,List.length_nil,List.length_replicate,List.length_drop,fC]),⟨rfl, .refl _,⟨rfl,iL ⟨j5.refl _,j5.of (congrArg (CV.own _ _) (by simp only [List.length_set,List.length_append,List.length_cons,List.length_nil,List.length_replicate,List.length_drop,fC])),j5.refl _,trivial⟩,⟨rfl, .refl _,⟨rfl, .refl _,trivial⟩⟩⟩⟩⟩)⟩) ?_
          obtain rfl:=oi h
          exact⟨.inl rfl,by kernel_rfl⟩
         ·clear hy
          obtain⟨u8,rfl⟩: ∃q,q=y5:=⟨_,rfl⟩
          refine aI (fz ⟨[(2,(vP 63 0)),(4,(vP 65 0)),(9,(vP 71 0)),(10,(vP 76 0)),nu],[(mH p p1 p2 v1),iP,(xP u1),(xA u1),(lI u6),(nM u8),(pu v2),(pY v2 u6 u8),(DW u3)]⟩ []) ?_
          refine aQ (bE h fun y6 hy h=> ?_)
          refine yN (CK p p1 p2 v1 u1 u6 u8) (K:=41) (V:=3) (s0:=(v2)) ⟨41,3,true,false,2,1,u3.length,o9 ai.cell u3,pz (aC .i64) u3,[]⟩ 79 122 (fun i2=>(.agg [(cI ((at' (u3.map Prod.fst) i2).e0)),(cI ((at' (u3.map Prod.fst) i2).e1))])) (fun i2=>(sI (at' (u3.map Prod.snd) i2))) hy [3,4,5] (by kernel_rfl) (by kernel_rfl) (by kernel_rfl) (fun _ _=> ⟨rfl,rfl⟩) (fun _ _=> ⟨Yd rfl,DF _ _⟩) (fun _=>(gF.fin (st':=(adQ p p1 p2 v1 u1 u6 u8 v2)) (cs:=[]) ⟨[],[(63,63),(65,65),(71,71),(72,72),(73,73),(74,74),(75,75),(76,76),(122,122)]⟩ [2,4,9,10,208] (by kernel_rfl) trivial)) (fun s=>by obtain⟨u9,rfl⟩: ∃q,q=s:=⟨_,rfl⟩;kernel_rfl) (fun B s i2 s' hi h=> ?_) ?_
          ·clear hy
           unfold yZ at h
           obtain⟨u9,rfl⟩: ∃q,q=s:=⟨_,rfl⟩
           refine rwp tT (⟨(ZU u3 i2),[(mH p p1 p2 v1),iP,(xP u1),(xA u1),(lI u6),(nM u8),(pu u9),(pY u9 u6 u8),(122,none),(125,some (.cells 41 [(cI ((at' (u3.map Prod.fst) i2).e0)),(cI ((at' (u3.map Prod.fst) i2).e1))]))]⟩) {fr:=TW [(3,125)],fin:=⟨[],[(63,63),(65,65),(71,71),(72,72),(73,73),(74,74),(75,75),(76,76),(122,122),(125,125)]⟩,ts:=[2,4,9,10,26,27,208] } (cs:=[]) (by kernel_rfl) trivial .refl ?_
           refine bI h (fun hb7 h=> ?_) (fun _ h=> ?_)
           ·skip
            refine aI (gF.le (st':=⟨(ZU u3 i2),[(mH p p1 p2 v1),iP,(xP u1),(xA u1),(lI u6),(nM u8),(pu u9),(pY u9 u6 u8),(122,none),(125,some (.cells 41 [(cI ((at' (u3.map Prod.fst) i2).e0)),(cI 0)]))]⟩) ⟨⟨tR,tR,tR,tR,tR,tR,tR,trivial⟩,(hN 9 ⟨rfl,iL ⟨j5.refl _,j5.of (congrArg (fun n=>CV.d (.int .i64 n)) (of_decide_eq_true hb7)),trivial⟩,trivial⟩)⟩) ?_
            refine aO h fun⟨a1,a2⟩ h=> ?_
            refine di tT mX ⟨Vk,[(mH p p1 p2 v1),iP,(xP u1),(xA u1),(lI u6),(nM u8),(75,some (.arr 41 2 u9.length (Z0 u1 u3 i2 u9))),(pY u9 u6 u8),(122,none)]⟩ [(0:Int)≤0∧(0:Int)<(2:Nat),(0:Int)≤1∧(1:Int)<(2:Nat),_,_,_,(0:Int)≤0∧(0:Int)<(2:Nat),_,aS u9.length 2 (jK (ay ai.cell u9) (RO u3 i2) 0 (abg u1 u3 i2)) (Z0 u1 u3 i2 u9)] {an:=[(17, .arr 0 (Z0 u1 u3 i2 u9))] } [] ⟨((by decide)),((by decide)),a1,(tL a1),a2,((by decide)),(tL a2),(bO _ _ _ _ _ _ _ _ rfl (fun j hj=>(match j,hj with|0,_=>rfl|1,_=>rfl))),trivial⟩ (gF.le (st':=⟨Vk,[(mH p p1 p2 v1),iP,(xP u1),(xA u1),(lI u6),(nM u8),(75,some (aV 41 2 ai.cell (Z5 u1 u3 i2 u9))),(76,some (.cells 47 [(.own 73 true u6.length),(.own 74 true u8.length),(.own 75 true ((Z5 u1 u3 i2 u9).length))])),(122,none)]⟩) ⟨⟨tR,tR,tR,tR,tR,trivial⟩,(hN 6 ⟨rfl,sO (by simp only [List.length_set,List.length_append,List.length_cons,List.length_nil,List.length_replicate,List.length_drop,fC]),⟨rfl,iL ⟨j5.refl _,j5.refl _,j5.of (congrArg (CV.own _ _) (by simp only [List.length_set,List.length_append,List.length_cons,List.length_nil,List.length_replicate,List.length_drop,fC])),trivial⟩,(.refl _)⟩⟩)⟩) ?_
            obtain rfl:=oi h
            exact⟨.inl rfl,by kernel_rfl⟩
           ·skip
            refine aO h fun a1 h=> ?_
            refine aI (gF.le (st':=⟨(ZU u3 i2),[(mH p p1 p2 v1),iP,(xP u1),(xA u1),(lI u6),(nM u8),(pu u9),(pY u9 u6 u8),(122,none),(125,some (.cells 41 [(cI ((at' (u3.map Prod.fst) i2).e0)),(cI 1)]))]⟩) ⟨⟨tR,tR,tR,tR,tR,tR,tR,trivial⟩,(hN 9 ⟨rfl,iL ⟨j5.refl _,j5.of (congrArg (fun n=>CV.d (.int .i64 n)) a1),trivial⟩,trivial⟩)⟩) ?_
            refine aO h fun⟨a1,a2⟩ h=> ?_
            refine di tT mX ⟨Vk,[(mH p p1 p2 v1),iP,(xP u1),(xA u1),(lI u6),(nM u8),(75,some (.arr 41 2 u9.length (aaD u1 u3 i2 u9))),(pY u9 u6 u8),(122,none)]⟩ [(0:Int)≤0∧(0:Int)<(2:Nat),(0:Int)≤1∧(1:Int)<(2:Nat),_,_,_,(0:Int)≤1∧(1:Int)<(2:Nat),_,aS u9.length 2 (jK (ay ai.cell u9) (RO u3 i2) 1 (abg u1 u3 i2)) (aaD u1 u3 i2 u9)] {an:=[(17, .arr 0 (aaD u1 u3 i2 u9))] } [] ⟨((by decide)),((by decide)),a1,(tL a1),a2,((by decide)),(tL a2),(bO _ _ _ _ _ _ _ _ rfl (fun j hj=>(match j,hj with|0,_=>rfl|1,_=>rfl))),trivial⟩ (gF.le (st':=⟨Vk,[(mH p p1 p2 v1),iP,(xP u1),(xA u1),(lI u6),(nM u8),(75,some (aV 41 2 ai.cell (Za u1 u3 i2 u9))),(76,some (.cells 47 [(.own 73 true u6.length),(.own 74 true u8.length),(.own 75 true ((Za u1 u3 i2 u9).length))])),(122,none)]⟩) ⟨⟨tR,tR,tR,tR,tR,trivial⟩,(hN 6 ⟨rfl,sO (by simp only [List.length_set,List.length_append,List.length_cons,List.length_nil,List.length_replicate,List.length_drop,fC]),⟨rfl,iL ⟨j5.refl _,j5.refl _,j5.of (congrArg (CV.own _ _) (by simp only [List.length_set,List.length_append,List.length_cons,List.length_nil,List.length_replicate,List.length_drop,fC])),trivial⟩,(.refl _)⟩⟩)⟩) ?_
            obtain rfl:=oi h
            exact⟨.inl rfl,by kernel_rfl⟩
          ·clear hy
           obtain⟨v8,rfl⟩: ∃q,q=y6:=⟨_,rfl⟩
           refine aI (fz ⟨[(2,(vP 63 0)),(4,(vP 65 0)),(9,(vP 71 0)),(10,(vP 76 0))],[(mH p p1 p2 v1),iP,(xP u1),(xA u1),(lI u6),(nM u8),(pu v8),(pY v8 u6 u8)]⟩ []) ?_
           refine aQ (aO h fun⟨a1,a2,a3⟩ h=> ?_)
           refine rg tT ⟨[(2,(vP 63 0)),(4,(vP 65 0)),(9,(vP 71 0)),(10,(vP 76 0)),(28,(vP 127 0))],[(mH p p1 p2 v1),iP,(xP u1),(xA u1),(lI u6),(nM u8),(pu v8),(pY v8 u6 u8),(Uw p),(Uq p)]⟩ [_,(p.buses:Int)=p.buses,_,_,(Gu p).length=p.buses.toNat,aS p.buses.toNat 1 (fun _ j=>[(.bool false)].getD j .nilp) (SA p)] {an:=[(2, .arr (Gu p).length (SA p))],fr:=[(2,126),(3,127)] } [] ⟨a1,rfl,a2,a3,(List.length_replicate),(kN _ _ _ _ _ (fun j hj=>(match j,hj with|0,_=>rfl))),trivial⟩ ?_
           refine aQ (aQ (bE h fun um hr_9 h=> ?_))
           have q0:=rk [(0,71),(1,72),(2,128)] (mF u1 hr_9)
           refine ri tT ⟨ac0,[(mH p p1 p2 v1),iP,(71,some (.cells 93 [(.d (bJ none 2 dK.cell u1.aA)),(.d (YQ u1))])),(lI u6),(nM u8),(pu v8),(pY v8 u6 u8),(Uw p),(Uq p),(128,some (.cells 89 [(.ptr 71 0)]))]⟩ [_,u1.aA.length=u1.aA.length] {an:=[(1,cA q0 [71,72])] } [72] ⟨q0,rfl,trivial⟩ (.trans (fz ⟨ac0,[(mH p p1 p2 v1),iP,(lI u6),(nM u8),(pu v8),(pY v8 u6 u8),(Uw p),(Uq p),(128,some (.cells 89 [(.d (zB [(bJ none 2 dK.cell u1.aA),(YQ u1)] 0))]))]⟩ [71]) (fz ⟨(abA u1),[(mH p p1 p2 v1),iP,(lI u6),(nM u8),(pu v8),(pY v8 u6 u8),(Uw p),(Uq p)]⟩ [128])) ?_
           refine aB (bE h fun x3 hr_10 h=> ?_)
           refine GY 129 [(2,(vP 63 0)),(28,(vP 127 0))] [] [129,63,127,126] (.fU []) [(129,some (.loop kH 0 [(2,(vP 63 0)),(28,(vP 127 0))])),(mH p p1 p2 v1),(127,some (.cells 27 [(.own 126 true x3.length)])),(126,some (aV 4 1 ah x3))] (abR u1) 58 [] [(.d (ZC u1))] [(129,some (.loop kH 0 [(2,(vP 63 0)),(28,(vP 127 0))])),(mH p p1 p2 v1),(Uq p),(Uw p)] [(.one (.yl 129)),(sD (ZC u1))] kH 0 [(2,(vP 63 0)),(28,(vP 127 0))] (by kernel_rfl) (by kernel_rfl) (by kernel_rfl) (by kernel_rfl) (by kernel_rfl) (by kernel_rfl) (by kernel_rfl) (rK [(0,129),(1,63),(2,127),(3,126)] (qj u1.aA u1.from_ (⟨p.buses,p1,p2,v1⟩:au) (Gu p) hr_10)) (by kernel_rfl) rfl (Om.zero rfl) (gF.fin (st':=⟨(abA u1),[(mH p p1 p2 v1),iP,(lI u6),(nM u8),(pu v8),(pY v8 u6 u8),(126,some (aV 4 1 ah x3)),(127,some (.cells 27 [(.own 126 true x3.length)]))]⟩) (cs:=[]) ⟨[],[(63,63),(65,65),(73,73),(74,74),(75,75),(76,76),(126,126),(127,127)]⟩ [2,4,10,28,235] (by kernel_rfl) trivial) ?_
           refine sd tT mX ⟨[(4,(vP 65 0)),(5,(vO 126 true x3.length)),(6,(vI 0))],[(65,some (.cells 47 [(.own 73 true u6.length),(.own 74 true u8.length),(.own 75 true v8.length)])),(lI u6),(nM u8),(pu v8),(126,some (aV 4 1 ah x3))]⟩ [] {} [] trivial ?_
           refine aI (.trans (gF.fin (st':=⟨[(4,(vP 4 0)),(5,(vO 3 true x3.length)),(6,(vI 0))],[(0,some (Mt u6)),(1,some (Mt u8)),(2,some (aV 41 2 ai.cell v8)),(3,some (aV 4 1 ah x3)),(4,some (.cells 47 [(.own 0 true u6.length),(.own 1 true u8.length),(.own 2 true v8.length)]))]⟩) (cs:=[]) ⟨[],[(73,0),(74,1),(75,2),(126,3),(65,4)]⟩ [4,5,6] (by kernel_rfl) trivial) (gF.le (st':=⟨[(4,(vP 4 0)),(5,(vO 3 false x3.length)),(6,(vI 0))],[(0,some (Mt u6)),(1,some (Mt u8)),(2,some (aV 41 2 ai.cell v8)),(3,some (aV 4 1 ah x3)),(4,some (.cells 47 [(.own 0 false u6.length),(.own 1 false u8.length),(.own 2 false v8.length)]))]⟩) ⟨⟨tR,⟨_,rfl,Bp.v (Gi.one (cN))⟩,tR,trivial⟩,(hN 4 ⟨rfl,iL ⟨cN,cN,cN,trivial⟩,trivial⟩)⟩)) ?_
           refine aR ?_
           obtain rfl:=oi h
           exact rh [(.agg [(.own 0 false u6.length),(.own 1 false u8.length),(.own 2 false v8.length)]),(.one (.own 3 false x3.length)),(sI 0)] (.refl _) (hN 4 ⟨rfl,trivial,trivial⟩)
       |ret v=>
        obtain rfl:=oi h
        unfold WV
        intro e st hn ha hR
        cases e with
        |normal=>exact absurd rfl hn
        |exit id=>exact hR
        |goto l=>exact hR
        |ret=>exact hR
        |panic c=>exact hR
        |outgrown=>exact hR
     |ret v=>
      obtain rfl:=oi h
      unfold WV
      intro e st hn ha hR
      cases e with
      |normal=>exact absurd rfl hn
      |exit id=>exact hR
      |goto l=>exact hR
      |ret=>exact hR
      |panic c=>exact hR
      |outgrown=>exact hR
   |ret v=>
    obtain rfl:=oi h
    unfold WV
    intro e st hn ha hR
    cases e with
    |normal=>exact absurd rfl hn
    |exit id=>exact hR
    |goto l=>exact hR
    |ret=>exact hR
    |panic c=>exact hR
    |outgrown=>exact hR
section
variable (s0:(List Bool)) (s1:(List Bool)) (s2:(List Bool)) (s3:(List Bool)) (s4:(List Bool)) (s5:(List Bool)) (s6:(List Bool))
abbrev abH:List CV:=[(.own 66 false s0.length),(.own 67 false s1.length),(.own 68 false s2.length),(.own 69 false s3.length),(.own 70 false s4.length),(.own 71 false s5.length),(.own 72 false s6.length)]
abbrev abo:List (Nat × Option Ob):=[(49,some (.cells 29 (abH s0 s1 s2 s3 s4 s5 s6))),(66,some (aV 4 1 ah s0)),(67,some (aV 4 1 ah s1)),(68,some (aV 4 1 ah s2)),(69,some (aV 4 1 ah s3)),(70,some (aV 4 1 ah s4)),(71,some (aV 4 1 ah s5)),(72,some (aV 4 1 ah s6))]
end
theorem AY (p:au) (s_:State) (t:Task) (l:(List aJ)):dJ Tryz.prog 20 [(.agg (k1 p)),(.agg (k21 s_)),(.agg (OG t)),(sD (bJ none 2 aJ.cell l))] [] (fun r=>(.fU [(sI r.1),(.agg [(.own 0 false r.2.1.closed.length),(.own 1 false r.2.1.locked.length),(.own 2 false r.2.1.badLink.length),(.own 3 false r.2.1.on_.length),(.own 4 false r.2.1.badSource.length),(.own 5 false r.2.1.earthed.length),(.own 6 false r.2.1.badBus.length)]),(sI r.2.2)])) (fun r=>[(0,some (aV 4 1 ah r.2.1.closed)),(1,some (aV 4 1 ah r.2.1.locked)),(2,some (aV 4 1 ah r.2.1.badLink)),(3,some (aV 4 1 ah r.2.1.on_)),(4,some (aV 4 1 ah r.2.1.badSource)),(5,some (aV 4 1 ah r.2.1.earthed)),(6,some (aV 4 1 ah r.2.1.badBus)),(7,none)]) (Ap p s_ t l):=
  dR tT mX Tryz.func20 (
  .rg {fr:=[(0,48),(1,49),(2,50),(4,51)],fz:=[48,50]} []<| .cl 3 (Fv p s_ t) fun r_=> .r<| .r<| .it (.r<| .im (.kP 51 0 52 4 1 (ay ah ([]:List Bool)))<| .im (.kP 51 1 53 4 1 (ay ah ([]:List Bool)))<| .im (.kP 51 2 54 4 1 (ay ah ([]:List Bool)))<| .im (.kP 51 3 55 4 1 (ay ah ([]:List Bool)))<| .im (.kP 51 4 56 4 1 (ay ah ([]:List Bool)))<| .im (.kP 51 5 57 4 1 (ay ah ([]:List Bool)))<| .im (.kP 51 6 58 4 1 (ay ah ([]:List Bool)))<| .en (0,(⟨([]:List Bool),([]:List Bool),([]:List Bool),([]:List Bool),([]:List Bool),([]:List Bool),([]:List Bool)⟩:State),r_) [] [(52,0),(53,1),(54,2),(55,3),(56,4),(57,5),(58,6),(51,7)])
  (.r<| .it (.r<| .im (.kP 51 0 59 4 1 (ay ah ([]:List Bool)))<| .im (.kP 51 1 60 4 1 (ay ah ([]:List Bool)))<| .im (.kP 51 2 61 4 1 (ay ah ([]:List Bool)))<| .im (.kP 51 3 62 4 1 (ay ah ([]:List Bool)))<| .im (.kP 51 4 63 4 1 (ay ah ([]:List Bool)))<| .im (.kP 51 5 64 4 1 (ay ah ([]:List Bool)))<| .im (.kP 51 6 65 4 1 (ay ah ([]:List Bool)))<| .en (0,(⟨([]:List Bool),([]:List Bool),([]:List Bool),([]:List Bool),([]:List Bool),([]:List Bool),([]:List Bool)⟩:State),2) [] [(59,0),(60,1),(61,2),(62,3),(63,4),(64,5),(65,6),(51,7)])
  (.cl 1 (dS [(0,66),(1,67),(2,68),(3,69),(4,70),(5,71),(6,72),(7,73)] (A7 s_)) fun u2=> .r<| .r<| .lp (σ:=((List Bool) × (List Bool) × (List Bool) × (List Bool) × (List Bool) × (List Bool) × (List Bool) × Int)) (β:=((List Bool) × (List Bool) × (List Bool) × (List Bool) × (List Bool) × (List Bool) × (List Bool))) (u2.closed,u2.locked,u2.badLink,u2.on_,u2.badSource,u2.earthed,u2.badBus,0) [] [] ⟨[3,4,5,6,9,29,30],[51],fun(s0,s1,s2,s3,s4,s5,s6,u1)=>[(31,(vI u1))],fun(s0,s1,s2,s3,s4,s5,s6,u1)=>(abo s0 s1 s2 s3 s4 s5 s6)⟩ ⟨[3,5,9],[51],fun(u3,u4,u5,u6,u7,u8,u9)=>[],fun(u3,u4,u5,u6,u7,u8,u9)=>(abo u3 u4 u5 u6 u7 u8 u9)⟩
  (fun(s0,s1,s2,s3,s4,s5,s6,u1)=> .r<| .it (.a1 ((0:Int)≤u1∧u1<(l.length:Int))<| .rg {fr:=[(3,101)],fz:=[101]} []<| .r<| .cl 4 ⟨fun{u0} hr_2=>((Fn.Rq (args:=[(.agg (k1 p)),(.agg [(.d (bJ none 1 ah s0)),(.d (bJ none 1 ah s1)),(.d (bJ none 1 ah s2)),(.d (bJ none 1 ah s3)),(.d (bJ none 1 ah s4)),(.d (bJ none 1 ah s5)),(.d (bJ none 1 ah s6))]),(.agg (OG t)),(.agg [(cI ((at' l u1.toNat).deed)),(cI ((at' l u1.toNat).index))])]) (frz:=[66,67,68,69,70,71,72]) (p:=[s0.length=s0.length,s1.length=s1.length,s2.length=s2.length,s3.length=s3.length,s4.length=s4.length,s5.length=s5.length,s6.length=s6.length]) (Fn.JD [(0,102),(1,103),(2,104),(3,105),(4,106),(5,107),(6,108),(7,109)] (Db p (Gh s0 s1 s2 s3 s4 s5 s6) t (at' l u1.toNat) hr_2) (by kernel_rfl) (by kernel_rfl) (by kernel_rfl) (by kernel_rfl)) (by kernel_rfl) ⟨rfl,rfl,rfl,rfl,rfl,rfl,rfl,trivial⟩ (by kernel_rfl) ⟨(fun _ _=>rfl),⟨(fun _ _=>rfl),⟨(fun _ _=>rfl),⟨(fun _ _=>rfl),⟨(fun _ _=>rfl),⟨(fun _ _=>rfl),⟨(fun _ _=>rfl),trivial⟩⟩⟩⟩⟩⟩⟩ (by kernel_rfl)):Fn Tryz.prog 52 [(.agg (k1 p)),(.agg (abH s0 s1 s2 s3 s4 s5 s6)),(.agg (OG t)),(.agg [(cI ((at' l u1.toNat).deed)),(cI ((at' l u1.toNat).index))])] [(66,some (aV 4 1 ah s0)),(67,some (aV 4 1 ah s1)),(68,some (aV 4 1 ah s2)),(69,some (aV 4 1 ah s3)),(70,some (aV 4 1 ah s4)),(71,some (aV 4 1 ah s5)),(72,some (aV 4 1 ah s6))] (.fU [(.agg [(.own 102 false u0.1.closed.length),(.own 103 false u0.1.locked.length),(.own 104 false u0.1.badLink.length),(.own 105 false u0.1.on_.length),(.own 106 false u0.1.badSource.length),(.own 107 false u0.1.earthed.length),(.own 108 false u0.1.badBus.length)]),(sI u0.2)]) [(66,some (aV 4 1 ah s0)),(67,some (aV 4 1 ah s1)),(68,some (aV 4 1 ah s2)),(69,some (aV 4 1 ah s3)),(70,some (aV 4 1 ah s4)),(71,some (aV 4 1 ah s5)),(72,some (aV 4 1 ah s6)),(102,some (aV 4 1 ah u0.1.closed)),(103,some (aV 4 1 ah u0.1.locked)),(104,some (aV 4 1 ah u0.1.badLink)),(105,some (aV 4 1 ah u0.1.on_)),(106,some (aV 4 1 ah u0.1.badSource)),(107,some (aV 4 1 ah u0.1.earthed)),(108,some (aV 4 1 ah u0.1.badBus)),(109,none)])⟩ fun u0=> .r<| .r<| .it (.r<| .im (.kP 51 0 110 4 1 (ay ah ([]:List Bool)))<| .im (.kP 51 1 111 4 1 (ay ah ([]:List Bool)))<| .im (.kP 51 2 112 4 1 (ay ah ([]:List Bool)))<| .im (.kP 51 3 113 4 1 (ay ah ([]:List Bool)))<| .im (.kP 51 4 114 4 1 (ay ah ([]:List Bool)))<| .im (.kP 51 5 115 4 1 (ay ah ([]:List Bool)))<| .im (.kP 51 6 116 4 1 (ay ah ([]:List Bool)))<| .en (.done (.ret (u1,(⟨([]:List Bool),([]:List Bool),([]:List Bool),([]:List Bool),([]:List Bool),([]:List Bool),([]:List Bool)⟩:State),u0.2))) [] [(110,0),(111,1),(112,2),(113,3),(114,4),(115,5),(116,6),(51,7)])
  (.r<| .en (.next (u0.1.closed,u0.1.locked,u0.1.badLink,u0.1.on_,u0.1.badSource,u0.1.earthed,u0.1.badBus,(k11 u1))) [] [(102,66),(103,67),(104,68),(105,69),(106,70),(107,71),(108,72)]))
  (.e (.done (.brk (s0,s1,s2,s3,s4,s5,s6)))))
  (fun(u3,u4,u5,u6,u7,u8,u9)=> .r<| .en ((l.length:Int),(Gh u3 u4 u5 u6 u7 u8 u9),0) [] [(66,0),(67,1),(68,2),(69,3),(70,4),(71,5),(72,6),(51,7)]))))
section
variable (r_:(au × State)) (u1:(gV × (List Bool) × Int)) (u2:(Int × Int)) (u0:(Int × State × Int))
abbrev X5:List CV:=[(cI r_.1.buses),(.d (bJ (some true) 5 Source.cell r_.1.sources)),(.d (bJ (some true) 6 Link.cell r_.1.links)),(.d (bJ (some true) 4 aU.cell r_.1.racks))]
abbrev XU:List CV:=[(.d (bJ (some true) 1 ah r_.2.closed)),(.d (bJ (some true) 1 ah r_.2.locked)),(.d (bJ (some true) 1 ah r_.2.badLink)),(.d (bJ (some true) 1 ah r_.2.on_)),(.d (bJ (some true) 1 ah r_.2.badSource)),(.d (bJ (some true) 1 ah r_.2.earthed)),(.d (bJ (some true) 1 ah r_.2.badBus))]
abbrev acQ:=(bif (bif (decide (u1.2.2=0))then(decide (u2.2=0))else false)then(decide (u0.2.2=42))else false)
end
theorem uy:dJ Tryz.prog 7 [] [] (fun r=>(vB r)) (fun _=>[]) (qN):=
  dR tT mX Tryz.func7 (
  .r<| .cl 0 (dS [(0,31),(1,32),(2,33),(3,34),(4,35),(5,36),(6,37),(7,38),(8,39),(9,40),(10,41),(11,42)] Dy) fun r_=> .rg {fr:=[(4,43),(5,44)],fz:=[31,32,33,34,35,36,37,38,39,40]} []<| .fz [43,44]<| .cl 2 (leO [(.agg (X5 r_)),(.agg (XU r_))] (dS [(0,45),(1,46),(2,47),(3,48),(4,49)] ⟨fun h=>CJ r_.1 r_.2 h⟩)) fun u1=> .rg {fr:=[(7,50)],fz:=[45,46,47]} []<| .fz [50]<| .cl 2 (leO [(.agg (X5 r_)),(.agg (XU r_)),(sI 0)] (Bu r_.1 r_.2 0)) fun u2=> .r<| .cl 6 ⟨fun{u0} hr_3=>((Fn.Rq (frz:=[51,52]) (p:=[[0].length=[0].length,[(⟨1,0⟩:aJ)].length=[(⟨1,0⟩:aJ)].length]) (Fn.leH (args:=[(.agg [(cI r_.1.buses),(.d (bJ none 5 Source.cell r_.1.sources)),(.d (bJ none 6 Link.cell r_.1.links)),(.d (bJ none 4 aU.cell r_.1.racks))]),(.agg [(.d (bJ none 1 ah r_.2.closed)),(.d (bJ none 1 ah r_.2.locked)),(.d (bJ none 1 ah r_.2.badLink)),(.d (bJ none 1 ah r_.2.on_)),(.d (bJ none 1 ah r_.2.badSource)),(.d (bJ none 1 ah r_.2.earthed)),(.d (bJ none 1 ah r_.2.badBus))]),(.agg [(.d (bJ none 1 (aC .i64) [0])),(.d (bJ none 1 (aC .i64) ([]:List Int))),(.d (bJ none 2 aJ.cell ([]:List aJ))),(.d (bJ none 2 aJ.cell ([]:List aJ)))]),(sD (bJ none 2 aJ.cell [(⟨1,0⟩:aJ)]))]) (args':=[(.agg (X5 r_)),(.agg (XU r_)),(.agg [(.d (bJ (some true) 1 (aC .i64) [0])),(.d nS),(.d nS),(.d nS)]),(sD (bJ (some true) 2 aJ.cell [(⟨1,0⟩:aJ)]))]) (hin:=[]) (Fn.JD [(0,53),(1,54),(2,55),(3,56),(4,57),(5,58),(6,59),(7,60)] (AY r_.1 r_.2 (⟨[0],([]:List Int),([]:List aJ),([]:List aJ)⟩:Task) [(⟨1,0⟩:aJ)] hr_3) (by kernel_rfl) (by kernel_rfl) (by kernel_rfl) (by kernel_rfl)) ⟨Gi.agg ⟨j5.refl _,j5.d nA.yS,j5.d nA.yS,j5.d nA.yS,trivial⟩,Gi.agg ⟨j5.d nA.yS,j5.d nA.yS,j5.d nA.yS,j5.d nA.yS,j5.d nA.yS,j5.d nA.yS,j5.d nA.yS,trivial⟩,Gi.agg ⟨j5.d nA.yS,j5.d nA.nil',j5.d nA.nil',j5.d nA.nil',trivial⟩,Gi.one (j5.d nA.yS),trivial⟩ trivial) (by kernel_rfl) ⟨rfl,rfl,trivial⟩ (by kernel_rfl) ⟨(fun _ _=>rfl),⟨(fun _ _=>rfl),⟨(fun _ _=>rfl),⟨(fun _ _=>rfl),⟨(fun _ _=>rfl),⟨(fun _ _=>rfl),⟨(fun _ _=>rfl),trivial⟩⟩⟩⟩⟩⟩⟩ (by kernel_rfl)):Fn Tryz.prog 20 [(.agg (X5 r_)),(.agg (XU r_)),(.agg [(.own 51 true ([0].length)),(.d nS),(.d nS),(.d nS)]),(.one (.own 52 true ([(⟨1,0⟩:aJ)].length)))] [(51,some (aV 3 1 (aC .i64) [0])),(52,some (aV 80 2 aJ.cell [(⟨1,0⟩:aJ)]))] (.fU [(sI u0.1),(.agg [(.own 53 false u0.2.1.closed.length),(.own 54 false u0.2.1.locked.length),(.own 55 false u0.2.1.badLink.length),(.own 56 false u0.2.1.on_.length),(.own 57 false u0.2.1.badSource.length),(.own 58 false u0.2.1.earthed.length),(.own 59 false u0.2.1.badBus.length)]),(sI u0.2.2)]) [(51,some (aV 3 1 (aC .i64) [0])),(52,some (aV 80 2 aJ.cell [(⟨1,0⟩:aJ)])),(53,some (aV 4 1 ah u0.2.1.closed)),(54,some (aV 4 1 ah u0.2.1.locked)),(55,some (aV 4 1 ah u0.2.1.badLink)),(56,some (aV 4 1 ah u0.2.1.on_)),(57,some (aV 4 1 ah u0.2.1.badSource)),(58,some (aV 4 1 ah u0.2.1.earthed)),(59,some (aV 4 1 ah u0.2.1.badBus)),(60,none)])⟩ fun u0=> .rg {an:=[(2, .arr [0].length (ay (aC .i64) [0])),(5, .arr [(⟨1,0⟩:aJ)].length (ay aJ.cell [(⟨1,0⟩:aJ)]))],fr:=[(2,51),(5,52),(11,61)]} [.pf ⟨[0].length=1,rfl⟩, .pf ⟨aS 1 1 (pK 1 [(.int .i64 0)]) (ay (aC .i64) [0]),(by intro i hi j hj;match i,j,hi,hj with|0,0,_,_=>rfl)⟩, .pf ⟨[(⟨1,0⟩:aJ)].length=1,rfl⟩, .pf ⟨aS 1 2 (pK 2 [(.int .i64 1),(.int .i64 0)]) (ay aJ.cell [(⟨1,0⟩:aJ)]),(by intro i hi j hj;match i,j,hi,hj with|0,0,_,_=>rfl|0,1,_,_=>rfl)⟩,0]<| .cg 12 [((acQ u1 u2 u0),true)] (E8 u1.1) fun u3=> .r<| .e (bif (bif (acQ u1 u2 u0)then(decide (u3=5))else false)then(decide (u2.1=1))else false))
theorem JX (x:Int) (n:Int):dJ Tryz.prog 8 [(sI x),(sI n)] [] (fun r=>(vI r)) (fun _=>[]) (yI x n):=
  dR tT mX Tryz.func8 (
  .r<| .r<| .it (.r<| .e 0)
  (.a1 (n≠(0:Int))<| .r<| .r<| .it (.r<| .r<| .e (IntKind.wrap .i64 ((Int.tmod x n)+n)))
  (.r<| .e (Int.tmod x n))))
theorem zY (x:Int):dJ Tryz.prog 161 [(sI x)] [] (fun r=>(vB r)) (fun _=>[]) (wD x):=
  dR tT mX Tryz.func161 (
  .r<| .r<| .e (!decide (x=x)))
theorem Fy (x:Int) (y:Int):dJ Tryz.prog 140 [(sI x),(sI y)] [] (fun r=>(vI r)) (fun _=>[]) (qy x y):=
  dR tT mX Tryz.func140 (
  .r<| .cl 1 (zY x) fun r_=> .r<| .cl 1 (zY y) fun u0=> .r<| .r<| .it (.r<| .it (.r<| .e 0)
  (.r<| .e (-1)))
  (.r<| .it (.r<| .e 1)
  (.r<| .it (.r<| .e (-1))
  (.r<| .it (.r<| .e 1)
  (.r<| .e 0)))))
theorem BL (s1:(List Int)) (s2:(List Int)):dJ Tryz.prog 123 [(sD (O8 s1)),(sD (O8 s2))] [] (fun r=>(vI r)) (fun _=>[]) (qd s1 s2):=
  dR tT mX Tryz.func123 (
  .r<| .r<| .lp (σ:=Int) (β:=Unit) (0) [] [] ⟨[0,1,9,10],[],fun u0=>[(11,(vI u0))],fun u0=>[]⟩ ⟨[0,1],[],fun _=>[],fun _=>[]⟩
  (fun u0=> .r<| .it (.a1 (Rx s1 u0)<| .r<| .r<| .it (.r<| .e (.done (.ret 1)))
  (.a1 (Rx s2 u0)<| .r<| .cl 2 (Fy (at' s1 u0.toNat) (at' s2 u0.toNat)) fun r_=> .r<| .r<| .it (.r<| .e (.done (.ret r_)))
  (.r<| .e (.next (k11 u0)))))
  (.e (.done (.brk ()))))
  (fun _=> .r<| .it (.r<| .e (-1))
  (.r<| .e 0)))
theorem OQ (u0:(List Int)):dJ Tryz.prog 150 [(sD (O8 u0))] [] (fun r=>(vI r)) (fun _=>[]) (Ej u0):=
  dR tT mX Tryz.func150 (
  .r<| .r<| .r<| .lp (σ:=Int) (β:=Unit) (0) [] [] ⟨[3,6,7],[],fun t8=>[(8,(vI t8))],fun t8=>[]⟩ ⟨[3],[],fun _=>[],fun _=>[]⟩
  (fun t8=> .r<| .it (.a1 (Rx u0 t8)<| .r<| .r<| .it (.r<| .e (.done (.ret (at' u0 t8.toNat))))
  (.r<| .e (.next (k11 t8))))
  (.e (.done (.brk ()))))
  (fun _=> .r<| .e 0))
section
variable (a:Way) (b:Way) (r_:Int)
abbrev J2:=(IntKind.wrap .i64 (a.fq - b.fq))
abbrev JY:=(IntKind.wrap .i64 ((a.links.length:Int) - (b.links.length:Int)))
abbrev ac9:List (Nat × Option Ob):=[(5,some (aV 3 1 (aC .i64) [(J2 a b),(JY a b),r_]))]
abbrev abC:=(ay (aC .i64) [(J2 a b),(JY a b),r_])
end
theorem E9 (a:Way) (b:Way):dJ Tryz.prog 149 [(.agg [(cB a.there),(cI a.fq),(.d (bJ none 1 (aC .i64) a.links))]),(.agg [(cB b.there),(cI b.fq),(.d (bJ none 1 (aC .i64) b.links))])] [] (fun r=>(vB r)) (fun _=>[]) (jE a b):=
  dR tT mX Tryz.func149 (
  .rg {fr:=[(0,3),(1,4)],fz:=[3,4]} []<| .fk (!b.there) (.rg {ov:=[(3,true,0)],sk:=[4,5,6,7,8,9,10,11,12,13,14,15,16,17,18,19,20,21,22,23]} []<| .e true)
  (.cl 20 (BL a.links b.links) fun r_=> .cr 22 ⟨fun{u0} hr_1=>((Fn.JE (frz:=[5]) (p:=[[(J2 a b),(JY a b),r_].length=[(J2 a b),(JY a b),r_].length]) (Fn.le (args':=[(sD (bJ (some true) 1 (aC .i64) [(J2 a b),(JY a b),r_]))]) (OQ [(J2 a b),(JY a b),r_] hr_1) (by exact⟨Gi.one (j5.d nA.yS),trivial⟩)) (by kernel_rfl) ⟨rfl,trivial⟩ rfl):Fn Tryz.prog 150 [(.one (.own 5 true ([(J2 a b),(JY a b),r_].length)))] (ac9 a b r_) (vI u0) (ac9 a b r_))⟩ fun u0=> .rg {an:=[(21, .arr [(J2 a b),(JY a b),r_].length (abC a b r_))],fr:=[(21,5)],ov:=[(3,false,2)]} [.k 1, .pf ⟨[(J2 a b),(JY a b),r_].length=3,rfl⟩, .pf ⟨aS 3 1 (pK 1 [(.int .i64 (J2 a b)),(.int .i64 (JY a b)),(.int .i64 r_)]) (abC a b r_),(by intro i hi j hj;match i,j,hi,hj with|0,0,_,_=>rfl|1,0,_,_=>rfl|2,0,_,_=>rfl)⟩, .k 0]<| .e (decide (u0<0))))
section
variable (o_:(List Int))
abbrev Tn:List (Nat × Option Ob):=[(0,some (.cells 44 [(.own 1 true o_.length)])),(1,some (Mt o_))]
end
theorem Bt (i:Int) (o_:(List Int)):dJ Tryz.prog 137 [(sI i),(.one (.ptr 0 0))] (Tn o_) (fun r=>(vB r)) (fun r=>(Tn o_)) (qo i o_):=
  dR tT mX Tryz.func137 (
  .r<| .r<| .e (bif (decide (i<0))then true else(decide ((o_.length:Int)≤i))))
theorem rZ (s_:(List Int)) (o_:(List Int)):dJ Tryz.prog 119 [(sD (O8 s_)),(.one (.fn 137 0 1 (JS [(.ptr 0 0)])))] (Tn o_) (fun r=>(vI r)) (fun r=>(Tn o_)) (jI s_ o_):=
  dR tT mX Tryz.func119 (
  .r<| .r<| .lp (σ:=Int) (β:=Unit) (0) [] [] ⟨[0,1,7],[0,1],fun t8=>[(8,(vI t8))],fun t8=>[]⟩ ⟨[],[0,1],fun _=>[],fun _=>[]⟩
  (fun t8=> .r<| .it (.r<| .cr 5 (Bt (at' s_ t8.toNat) o_) fun r_=> .a1 (Rx s_ t8)<| .rg {} [0,1]<| .it (.r<| .e (.done (.ret t8)))
  (.r<| .e (.next (k11 t8))))
  (.e (.done (.brk ()))))
  (fun _=> .r<| .e (-1)))
theorem qb (s_:(List Int)) (o_:(List Int)):dJ Tryz.prog 101 [(sD (O8 s_)),(.one (.fn 137 0 1 (JS [(.ptr 0 0)])))] (Tn o_) (fun r=>(vB r)) (fun r=>(Tn o_)) (fG s_ o_):=
  dR tT mX Tryz.func101 (
  .r<| .cr 2 (rZ s_ o_) fun r_=> .r<| .e (decide (0≤r_)))
section
variable (u3:(List Int)) (u0:(List Int)) (u1:Int) (l:(List Short)) (u2:Int)
abbrev Wz:List (Nat × Option Ob):=[(8,some (Mt u3)),(9,some (.cells 44 [(.own 8 true u3.length)]))]
abbrev Xl:=(u0.set u1.toNat (IntKind.wrap .i64 ((at' u0 u1.toNat)+((at' l u2.toNat).amps))))
abbrev Ot:=(u0,(k11 u1))
end
theorem Em (p:au) (l:(List Short)):dJ Tryz.prog 118 [(.agg (k1 p)),(sD (bJ none 4 Short.cell l))] [] (fun r=>(.fU [(sD (bJ (some r.2.1) 1 (aC .i64) r.1)),(sI r.2.2)])) (fun _=>[]) (lX p l):=
  dR tT mX Tryz.func118 (
  .rg {fr:=[(0,7)],fz:=[7]} []<| .cl 1 (ql p) fun r_=> .r<| .r<| .it (.r<| .e (([]:List Int),false,r_))
  (.r<| .it (.r<| .e (([]:List Int),false,1))
  (.a3 ((0:Int)≤(p.links.length:Int)) ((8:Int)*(p.links.length:Int)≤281474976710656) (((p.links.length:Int):Int)≤9223372036854775807)<| .rg {an:=[(3, .arr (Lp p).length (Wx p))],fr:=[(3,8),(4,9)]} [0, .e (((p.links.length:Int):Int)),1,2, .pf ⟨(Lp p).length=(UI p),List.length_replicate⟩, .pf ⟨aS (UI p) 1 (fun _ j=>[(.int .i64 0)].getD j .nilp) (Wx p),kN _ _ _ _ _ (fun j hj=>(match j,hj with|0,_=>rfl))⟩]<| .r<| .lp (σ:=((List Int) × Int)) (β:=(List Int)) ((Lp p),0) [] [] ⟨[7,23,24],[],fun(u3,u2)=>[(25,(vI u2))],fun(u3,u2)=>(Wz u3)⟩ ⟨[7],[],fun u4=>[],fun u4=>(Wz u4)⟩
  (fun(u3,u2)=> .r<| .it (.a1 ((0:Int)≤u2∧u2<(l.length:Int))<| .rg {fr:=[(2,13)],fz:=[13]} []<| .cgr 12 [((bif (decide (((at' l u2.toNat).amps)<0))then true else(decide (1000000<((at' l u2.toNat).amps)))),false)] (dS [(0,9),(1,8)] (qb ((at' l u2.toNat).links) u3)) fun u6=> .r<| .it (.r<| .e (.done (.ret (([]:List Int),false,1))))
  (.r<| .lp (σ:=((List Int) × Int)) (β:=(List Int)) (u3,0) [] [] ⟨[7,9,23,24,25,44],[],fun(u0,u1)=>[(45,(vI u1))],fun(u0,u1)=>(Wz u0)⟩ ⟨[7,23,24,25],[],fun u5=>[],fun u5=>(Wz u5)⟩
  (fun(u0,u1)=> .r<| .it (.r<| .cl 3 (gX ((at' l u2.toNat).links) u1) fun u7=> .r<| .it (.a1 (Rx u0 u1)<| .rg {an:=[(8, .arr 0 (ay (aC .i64) (Xl u0 u1 l u2)))]} [0, .t 0 u1 u0.length,0, .t 0 u1 u0.length, .pf ⟨aS u0.length 1 (jK (ay (aC .i64) u0) u1.toNat 0 [(.int .i64 (IntKind.wrap .i64 ((at' u0 u1.toNat)+((at' l u2.toNat).amps))))]) (ay (aC .i64) (Xl u0 u1 l u2)),bO _ _ _ _ _ _ _ _ rfl (fun j hj=>(match j,hj with|0,_=>rfl))⟩]<| .im (.ll 8 u0 (Xl u0 u1 l u2))<| .r<| .e (.next ((Xl u0 u1 l u2),(k11 u1))))
  (.r<| .e (.next (Ot u0 u1))))
  (.e (.done (.brk u0))))
  (fun u5=> .r<| .e (.next (Ot u5 u2)))))
  (.e (.done (.brk u3))))
  (fun u4=> .rg {fz:=[8]} []<| .e (u4,true,0)))))
theorem zV (s_:State):dJ Tryz.prog 61 (Ze s_) [] (fun r=>(.v (.agg [(.own 0 false r.closed.length),(.own 1 false r.locked.length),(.own 2 false r.badLink.length),(.own 3 false r.on_.length),(.own 4 false r.badSource.length),(.own 5 false r.earthed.length),(.own 6 false r.badBus.length)]))) (fun r=>[(0,some (aV 4 1 ah r.closed)),(1,some (aV 4 1 ah r.locked)),(2,some (aV 4 1 ah r.badLink)),(3,some (aV 4 1 ah r.on_)),(4,some (aV 4 1 ah r.badSource)),(5,some (aV 4 1 ah r.earthed)),(6,some (aV 4 1 ah r.badBus)),(7,none)]) (oV s_):=
  dR tT mX Tryz.func61 (
  .rg {fr:=[(0,9),(1,10)],fz:=[9]} []<| .cl 2 (dS [(0,11)] ⟨fun h=>af s_.closed h⟩) fun r_=> .cl 5 (dS [(0,12)] ⟨fun h=>af s_.locked h⟩) fun u0=> .cl 8 (dS [(0,13)] ⟨fun h=>af s_.badLink h⟩) fun u1=> .cl 11 (dS [(0,14)] ⟨fun h=>af s_.on_ h⟩) fun u2=> .cl 14 (dS [(0,15)] ⟨fun h=>af s_.badSource h⟩) fun u3=> .cl 17 (dS [(0,16)] ⟨fun h=>af s_.earthed h⟩) fun u4=> .cl 20 (dS [(0,17)] ⟨fun h=>af s_.badBus h⟩) fun u5=> .r<| .en (Gh r_ u0 u1 u2 u3 u4 u5) [] [(11,0),(12,1),(13,2),(14,3),(15,4),(16,5),(17,6),(10,7)])
section
variable (s_:State) (p:au) (u3:Int) (u6:(List Way)) (u0:Int) (u1:Int) (u2:(List Way)) (u4:(List Int))
abbrev ab0:List CV:=[(.own 0 false s_.closed.length),(.own 1 false s_.locked.length),(.own 2 false s_.badLink.length),(.own 3 false s_.on_.length),(.own 4 false s_.badSource.length),(.own 5 false s_.earthed.length),(.own 6 false s_.badBus.length)]
abbrev Xw:List SV:=[(.agg (k1 p)),(.agg (ab0 s_)),(sI u3)]
abbrev Ls:List (Nat × Option Ob):=[(0,some (aV 4 1 ah s_.closed)),(1,some (aV 4 1 ah s_.locked)),(2,some (aV 4 1 ah s_.badLink)),(3,some (aV 4 1 ah s_.on_)),(4,some (aV 4 1 ah s_.badSource)),(5,some (aV 4 1 ah s_.earthed)),(6,some (aV 4 1 ah s_.badBus))]
abbrev Gm:=(List.replicate p.buses.toNat ((⟨false,0,([]:List Int)⟩:Way):Way))
abbrev abr:=(ay Way.cell (Gm p))
abbrev Zr:=((Gm p).set u3.toNat (⟨true,(at' (Gm p) u3.toNat).fq,(at' (Gm p) u3.toNat).links⟩:Way))
abbrev adi:=(ay Way.cell (Zr p u3))
abbrev SI:List (Nat × Option Ob):=[(412,some (aV 233 3 Way.cell u6))]
abbrev ZW:=(⟨(at' p.links u0.toNat).a,(at' p.links u0.toNat).b⟩:ai)
abbrev Zf:=(⟨(at' p.links u0.toNat).b,(at' p.links u0.toNat).a⟩:ai)
abbrev R6:=(at' [(ZW p u0),(Zf p u0)] u1.toNat)
abbrev aar:=((R6 p u0 u1).e0)
abbrev XB:=((R6 p u0 u1).e1)
abbrev adu:List DV:=[(.int .i64 (aar p u0 u1)),(.int .i64 (XB p u0 u1))]
abbrev ac6:List CV:=[(cI (Rs p u0)),(cI (TY p u0)),(cI (TY p u0)),(cI (Rs p u0))]
abbrev adb:=(at' u2 ((aar p u0 u1).toNat))
abbrev Xj:=((u4.length+[u0].length)*8≤140737488355328)
abbrev Yh:=(u4.length+[u0].length≤4611686018427387904)
abbrev Od:=(ay (aC .i64) (u4++[u0]))
abbrev X9:=(qW (ay (aC .i64) u4) u4.length (ay (aC .i64) [u0]))
abbrev abN:=(IntKind.wrap .i64 (((adb p u0 u1 u2).fq)+((at' p.links u0.toNat).fq)))
abbrev acw:=(⟨true,(abN p u0 u1 u2),(u4++[u0])⟩:Way)
abbrev Zj:=((XB p u0 u1).toNat)
abbrev acR:=((0:Int)≤(R6 p u0 u1).e1∧(R6 p u0 u1).e1<(u2.length:Int))
abbrev Zn:=(u2.set (Zj p u0 u1) (acw p u0 u1 u2 u4))
abbrev acg:=(ay Way.cell (Zn p u0 u1 u2 u4))
end
theorem DU (p:au) (s_:State) (u3:Int):dJ Tryz.prog 136 (Xw s_ p u3) (Ls s_) (fun r=>(vO 7 true r.length)) (fun r=>[(0,some (aV 4 1 ah s_.closed)),(1,some (aV 4 1 ah s_.locked)),(2,some (aV 4 1 ah s_.badLink)),(3,some (aV 4 1 ah s_.on_)),(4,some (aV 4 1 ah s_.badSource)),(5,some (aV 4 1 ah s_.earthed)),(6,some (aV 4 1 ah s_.badBus)),(7,some (aV 233 3 Way.cell r))]) (nY p s_ u3):=
  dR tT mX Tryz.func136 (
  .rg {fr:=[(0,410),(1,411)]} []<| .r<| .a3 ((0:Int)≤p.buses) ((40:Int)*p.buses≤281474976710656) ((p.buses:Int)≤9223372036854775807)<| .rg {an:=[(2, .arr (Gm p).length (fun _ j=>[(.bool false),(.int .i64 0),nS].getD j .nilp))],fr:=[(2,412)]} [0, .e ((p.buses:Int)),1,2, .pf ⟨(Gm p).length=p.buses.toNat,List.length_replicate⟩, .pf ⟨aS p.buses.toNat 3 (fun _ j=>[(.bool false),(.int .i64 0),nS].getD j .nilp) (fun _ j=>[(.bool false),(.int .i64 0),nS].getD j .nilp),yK _ _ _⟩]<| .im (.uh 412 (some (.arr 233 3 (Gm p).length (fun _ j=>[(.bool false),(.int .i64 0),nS].getD j .nilp))) (some (.arr 233 3 (Gm p).length (abr p))) (GK (ade _ _ _ _ _ (fun j hj=>match j,hj with|0,_=> .refl _|1,_=> .refl _|2,_=>nA.nil'))))<| .a1 ((0:Int)≤u3∧u3<((Gm p).length:Int))<| .rg {an:=[(4, .arr 0 (adi p u3))]} [0, .t 0 u3 ((Gm p).length), .pf ⟨aS (Gm p).length 3 (jK (abr p) u3.toNat 0 [(.bool true)]) (adi p u3),bO _ _ _ _ _ _ _ _ rfl (fun j hj=>(match j,hj with|0,_=>rfl|1,_=>rfl|2,_=>rfl))⟩]<| .im (.ll 412 (Gm p) (Zr p u3))<| .r<| .lp (σ:=((List Way) × Bool)) (β:=(List Way)) ((Zr p u3),true) [] [] ⟨[3,4,7],[0,1,2,3,4,5,6,410,411],fun(u6,v4)=>[(8,(vO 412 true u6.length)),(9,(vB v4))],fun(u6,v4)=>(SI u6)⟩ ⟨[],[0,1,2,3,4,5,6],fun u9=>[(8,(vO 412 true u9.length))],fun u9=>(SI u9)⟩
  (fun(u6,v4)=> .r<| .it (.r<| .r<| .lp (σ:=((List Way) × Bool × Int)) (β:=((List Way) × Bool)) (u6,false,0) [] [] ⟨[3,4,7,26,27],[0,1,2,3,4,5,6,410,411],fun(u5,u7,u0)=>[(8,(vO 412 true u5.length)),(9,(vB u7)),(28,(vI u0))],fun(u5,u7,u0)=>(SI u5)⟩ ⟨[3,4,7],[0,1,2,3,4,5,6,410,411],fun(v0,v2)=>[(8,(vO 412 true v0.length)),(9,(vB v2))],fun(v0,v2)=>(SI v0)⟩
  (fun(u5,u7,u0)=> .r<| .it (.a1 (k28 p u0)<| .rg {fr:=[(3,788)],fz:=[788]} []<| .cr 3 ⟨fun{r_} hr_=>((Fn.JE (frz:=[0,1,2,3,4,5,6]) (p:=[s_.closed.length=s_.closed.length,s_.locked.length=s_.locked.length,s_.badLink.length=s_.badLink.length,s_.on_.length=s_.on_.length,s_.badSource.length=s_.badSource.length,s_.earthed.length=s_.earthed.length,s_.badBus.length=s_.badBus.length]) (vv p s_ u0 hr_) (by kernel_rfl) ⟨rfl,rfl,rfl,rfl,rfl,rfl,rfl,trivial⟩ rfl):Fn Tryz.prog 28 (Xw s_ p u0) (Ls s_) (vB r_) (Ls s_))⟩ fun r_=> .r<| .it (.r<| .e (.next (u5,u7,(k11 u0))))
  (.r<| .lp (σ:=((List Way) × Bool × Int)) (β:=((List Way) × Bool)) (u5,u7,0) [] [] ⟨[3,4,7,10,11,26,27,28,48],[0,1,2,3,4,5,6,410,411],fun(u2,u8,u1)=>[(8,(vO 412 true u2.length)),(9,(vB u8)),(49,(vI u1))],fun(u2,u8,u1)=>(SI u2)⟩ ⟨[3,4,7,26,27,28],[0,1,2,3,4,5,6,410,411],fun(v1,v3)=>[(8,(vO 412 true v1.length)),(9,(vB v3))],fun(v1,v3)=>(SI v1)⟩
  (fun(u2,u8,u1)=> .r<| .it (.a1 ((0:Int)≤u1∧u1<((2:Nat):Int))<| .rg {an:=[(0, .vals (adu p u0 u1))],fr:=[(1,807)]} [0, .dv 0 ⟨(0:Int)≤u1∧u1<((2:Nat):Int),u1.toNat*2+2≤(ac6 p u0).length,fun ax=>Xf (n:=2) (sz:=2) (Nat.le_refl _) ax⟩, .dv 0 ⟨(0:Int)≤u1∧u1<((2:Nat):Int),((ac6 p u0).drop (u1.toNat*2)).take 2=(adu p u0 u1).map .d,fun ax=>XC (n:=2) (sz:=2) (g:=fun q=>[(cI ((at' [(ZW p u0),(Zf p u0)] q).e0)),(cI ((at' [(ZW p u0),(Zf p u0)] q).e1))]) (by intro q hq;match q,hq with|0,_=>rfl|1,_=>rfl) ax⟩]<| .a1 ((0:Int)≤(R6 p u0 u1).e0∧(R6 p u0 u1).e0<(u2.length:Int))<| .rg {fr:=[(7,808)],fz:=[808]} [.pf ⟨(0:Int)≤0∧(0:Int)<(2:Nat),(by decide)⟩,0, .t 0 (aar p u0 u1) u2.length, .pf ⟨(0:Int)≤1∧(1:Int)<(2:Nat),(by decide)⟩]<| .r<| .it (.r<| .e (.next (u2,u8,(k11 u1))))
  (.cl 7 (dS [(0,809)] ⟨fun h=>oq ((adb p u0 u1 u2).links) h⟩) fun u4=> .a2 (Xj u0 u4) (Yh u0 u4)<| .rg {an:=[(9, .arr [u0].length (ay (aC .i64) [u0])),(10, .arr (u4++[u0]).length (Od u0 u4))],fr:=[(9,810),(10,811),(12,812)],fz:=[811]} [2, .pf ⟨[u0].length=1,rfl⟩, .pf ⟨aS 1 1 (pK 1 [(.int .i64 u0)]) (ay (aC .i64) [u0]),(by intro i hi j hj;match i,j,hi,hj with|0,0,_,_=>rfl)⟩, .e (u4.length),0,1, .pf ⟨(u4++[u0]).length=u4.length+[u0].length,List.length_append⟩, .pf ⟨aS (u4.length+[u0].length) 1 (X9 u0 u4) (Od u0 u4),dD _ _ _ _⟩]<| .fz [812]<| .cl 6 (E9 (acw p u0 u1 u2 u4) (at' u2 (Zj p u0 u1))) fun v5=> .a1 (acR p u0 u1 u2)<| .rg {} [0, .t 0 (XB p u0 u1) u2.length,1]<| .it (.a1 (acR p u0 u1 u2)<| .rg {an:=[(4, .arr 0 (acg p u0 u1 u2 u4))]} [0, .t 0 (XB p u0 u1) u2.length, .pf ⟨aS u2.length 3 (jK (ay Way.cell u2) (Zj p u0 u1) 0 [(.bool true),(.int .i64 (abN p u0 u1 u2)),(bJ none 1 (aC .i64) (u4++[u0]))]) (acg p u0 u1 u2 u4),bO _ _ _ _ _ _ _ _ rfl (fun j hj=>(match j,hj with|0,_=>rfl|1,_=>rfl|2,_=>rfl))⟩]<| .im (.ll 412 u2 (Zn p u0 u1 u2 u4))<| .r<| .r<| .e (.next ((Zn p u0 u1 u2 u4),true,(k11 u1))))
  (.r<| .e (.next (u2,u8,(k11 u1))))))
  (.e (.done (.brk (u2,u8)))))
  (fun(v1,v3)=> .r<| .e (.next (v1,v3,(k11 u0))))))
  (.e (.done (.brk (u5,u7)))))
  (fun(v0,v2)=> .e (.next (v0,v2))))
  (.e (.done (.brk u6))))
  (fun u9=> .r<| .en u9 [] [(412,7)]))
section
variable (p:au) (u0:Int) (u2:(List Way)) (u1:Int) (u3:(List Short))
abbrev Vh:=(IntKind.wrap .i64 (((at' p.sources u0.toNat).fq)+((at' u2 u1.toNat).fq)))
abbrev abj:=(IntKind.wrap .i64 (Int.tdiv (IntKind.wrap .i64 ((IntKind.wrap .i64 ((400000:Int)+(Vh p u0 u2 u1))) - 1)) (Vh p u0 u2 u1)))
abbrev QF:=(⟨u0,(Vh p u0 u2 u1),(abj p u0 u2 u1),(at' u2 u1.toNat).links⟩:Short)
abbrev acH:=(u3.length+[(QF p u0 u2 u1)].length)
abbrev aaG:=(ay Short.cell [(QF p u0 u2 u1)])
abbrev Yp:=(u3++[(QF p u0 u2 u1)])
abbrev adP:=(ay Short.cell (Yp p u0 u2 u1 u3))
end
theorem BO (p:au) (s_:State) (u1:Int):dJ Tryz.prog 117 (Xw s_ p u1) (Ls s_) (fun r=>(.fU [(sD (bJ none 4 Short.cell r.1)),(sI r.2)])) (fun r=>(Ls s_)) (qw p s_ u1):=
  dR tT mX Tryz.func117 (
  .rg {fr:=[(0,29),(1,30)]} []<| .cr 2 ⟨fun{r_} hr_=>((Fn.JE (frz:=[0,1,2,3,4,5,6]) (p:=[s_.closed.length=s_.closed.length,s_.locked.length=s_.locked.length,s_.badLink.length=s_.badLink.length,s_.on_.length=s_.on_.length,s_.badSource.length=s_.badSource.length,s_.earthed.length=s_.earthed.length,s_.badBus.length=s_.badBus.length]) (bU p s_ hr_) (by kernel_rfl) ⟨rfl,rfl,rfl,rfl,rfl,rfl,rfl,trivial⟩ rfl):Fn Tryz.prog 6 [(.agg (k1 p)),(.agg (ab0 s_))] (Ls s_) (vI r_) (Ls s_))⟩ fun r_=> .r<| .r<| .it (.r<| .e (([]:List Short),r_))
  (.r<| .it (.r<| .e (([]:List Short),1))
  (.r<| .rg {fz:=[29]} []<| .im (.ad 9 51 218 4 (ay Short.cell ([]:List Short)))<| .lp (σ:=((List Short) × Int)) (β:=(List Short)) (([]:List Short),0) [] [(51,35)] ⟨[2,3,4,29,30],[0,1,2,3,4,5,6,30],fun(u3,u0)=>[(9,(vO 35 false u3.length)),(31,(vI u0))],fun(u3,u0)=>[(35,some (aV 218 4 Short.cell u3))]⟩ ⟨[],[0,1,2,3,4,5,6],fun u4=>[(9,(vO 35 false u4.length))],fun u4=>[(35,some (aV 218 4 Short.cell u4))]⟩
  (fun(u3,u0)=> .r<| .it (.a1 (k44 u0 p)<| .rg {fr:=[(3,46)],fz:=[46]} []<| .cgr 9 [((at' s_.badBus u1.toNat),false)] ⟨fun{u5} hr_1=>((Fn.JE (frz:=[0,1,2,3,4,5,6]) (p:=[s_.closed.length=s_.closed.length,s_.locked.length=s_.locked.length,s_.badLink.length=s_.badLink.length,s_.on_.length=s_.on_.length,s_.badSource.length=s_.badSource.length,s_.earthed.length=s_.earthed.length,s_.badBus.length=s_.badBus.length]) (yQ p s_ u0 hr_1) (by kernel_rfl) ⟨rfl,rfl,rfl,rfl,rfl,rfl,rfl,trivial⟩ rfl):Fn Tryz.prog 26 (Xw s_ p u0) (Ls s_) (vB u5) (Ls s_))⟩ fun u5=> .a1 ((0:Int)≤u1∧u1<(s_.badBus.length:Int))<| .rg {} [0, .t 0 u1 s_.badBus.length,1]<| .it (.r<| .e (.next (u3,(k11 u0))))
  (.cl 4 (dS [(7,47)] (DU p s_ (k47 u0 p))) fun u2=> .a1 ((0:Int)≤u1∧u1<(u2.length:Int))<| .rg {fr:=[(8,48)],fz:=[48]} [1,0, .t 0 u1 u2.length]<| .r<| .it (.r<| .a3 ((Vh p u0 u2 u1)≠(0:Int)) ((acH p u0 u2 u1 u3)*48≤140737488355328) (u3.length+[(QF p u0 u2 u1)].length≤4611686018427387904)<| .rg {an:=[(11, .arr [(QF p u0 u2 u1)].length (aaG p u0 u2 u1)),(12, .arr (Yp p u0 u2 u1 u3).length (adP p u0 u2 u1 u3))],fr:=[(11,49),(12,50)]} [0, .pf ⟨[(QF p u0 u2 u1)].length=1,rfl⟩, .pf ⟨aS 1 4 (pK 4 [(.int .i64 u0),(.int .i64 (Vh p u0 u2 u1)),(.int .i64 (abj p u0 u2 u1)),(bJ none 1 (aC .i64) ((at' u2 u1.toNat).links))]) (aaG p u0 u2 u1),(by intro i hi j hj;match i,j,hi,hj with|0,0,_,_=>rfl|0,1,_,_=>rfl|0,2,_,_=>rfl|0,3,_,_=>rfl)⟩, .e (u3.length),1,2, .pf ⟨(Yp p u0 u2 u1 u3).length=u3.length+[(QF p u0 u2 u1)].length,List.length_append⟩, .pf ⟨aS (acH p u0 u2 u1 u3) 4 (qW (ay Short.cell u3) u3.length (aaG p u0 u2 u1)) (adP p u0 u2 u1 u3),dD _ _ _ _⟩]<| .r<| .en (.next ((Yp p u0 u2 u1 u3),(k11 u0))) [] [(50,35)])
  (.r<| .e (.next (u3,(k11 u0))))))
  (.e (.done (.brk u3))))
  (fun u4=> .rg {fz:=[35]} []<| .e (u4,0)))))
end
end Sg
