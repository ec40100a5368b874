import Derived.Test.YtpndenfhglaikaaGreatW0
set_option linter.all false
namespace Sg
open Go Go.Proofs
set_option maxRecDepth 20000
noncomputable section
section
variable (p:ah) (s_:State) (r_:Int) (v0:Int) (v4:(Int × Network)) (v8:(List (Int × Int))) (u7:Int) (p1:(List Source)) (v5:(Int × Network)) (x0:(List Int)) (u4:(List (Int × Int))) (v9:(List (Int × Int))) (v7:Int) (u0:Int) (u2:(List aC)) (w0:Int) (x4:(Int × Network)) (p2:(List Link)) (p3:(List aC)) (x1:(List Int)) (x2:(List af)) (u5:(List (Int × Int))) (ua:(List (af × Int))) (v3:Int) (v6:(Int × Network)) (w9:(List bg)) (x6:(List (List Int))) (u1:Network) (i:Nat) (w5:(List Int)) (i1:Nat) (w6:(List Int)) (u3:(List (af × Int))) (i2:Nat) (u9:(List af)) (u6:(List Int))
abbrev XD:List (Nat × Option Ob):=[(zF p),bX]
abbrev afT:St:=⟨[(2,(vP 63 0)),(gI s_),(4,(vP 65 0))],(XD p)⟩
abbrev aek:St:=⟨[(2,(vP 63 0)),(gI s_),(4,(vP 65 0)),(7,(vI r_))],(XD p)⟩
abbrev afG:St:=⟨[(2,(vP 63 0)),(gI s_),(4,(vP 65 0)),(7,(vI r_)),(34,(vB (!decide (r_=0))))],(XD p)⟩
abbrev YA:DV:=(bM none 1 (aG .i64) ([]:List Int))
abbrev adV:St:=⟨[(2,(vP 63 0)),(gI s_),(4,(vP 65 0)),(iQ p)],(XD p)⟩
abbrev YC:List (Nat × TV):=[(2,(vP 63 0)),(gI s_),(4,(vP 65 0)),(iQ p),(9,(vP 67 0))]
abbrev WL:=(IntKind.wrap .i64 ((IntKind.wrap .i64 ((IntKind.wrap .i64 ((1:Int)+p.buses))+(p.racks.length:Int)))+1))
abbrev P5:=((WL p).toNat)
abbrev yT:=(List.replicate (P5 p) (([]:List Int):(List Int)))
abbrev MZ:=((yT p).length)
abbrev adR:List CV:=[(.d nS),(.own 66 true (MZ p))]
abbrev afo:Nat × Option Ob:=(67,some (.cells 151 (adR p)))
abbrev aam:=((WL p):Int)
abbrev ZX:=(xC sG (yT p))
abbrev VD:Nat × Option Ob:=(66,some (.rows 35 1 (yT p).length (ZX p) none))
abbrev abu:Nat × Option Ob:=(67,some (.cells 151 [(.own 68 false (([]:List bg).length)),(.own 66 true (MZ p))]))
abbrev Z5:Nat × Option Ob:=(68,some (bZ 157 2 bg.cell ([]:List bg)))
abbrev P7:=((p.sources.length:Int):Int)
abbrev SC:=(au (aG .i64) (Mc p))
abbrev Tj:=((p.links.length:Int):Int)
abbrev Kk:=(au (aG .i64) (Cx p))
abbrev Ug:=(au af.cell (Nb p))
abbrev adn:List (Nat × Option Ob):=[(zF p),bX,(VD p),(abu p),Z5,(UQ p),(LJ p),(J7 p),(U7 p),(73,some Sr),Ww,M0]
abbrev TF:=((at' p.sources v0.toNat).power)
abbrev Tv:Nat × TV:=(15,(vD (Da [(.int .i64 (Uz p v0)),(.int .i64 ((at' p.sources v0.toNat).kind)),(.int .i64 (TF p v0)),(.int .i64 ((at' p.sources v0.toNat).sync)),(.int .i64 ((at' p.sources v0.toNat).bJ))] 0)))
abbrev abH:=(IntKind.wrap .i64 ((1:Int)+(Uz p v0)))
abbrev Og:Nat × Option Ob:=(66,some (.rows 35 1 v4.2.from_.length (xC sG v4.2.from_) none))
abbrev GI:Ob:=(RU 3 3 false false 1 1 (aG .i64) (aG .i64) (gG Kb v0 v4.1 v8))
abbrev xI:Ob:=(bZ 157 2 bg.cell v4.2.arcs)
abbrev acY:List (Nat × Option Ob):=[(zF p),bX,(Og v4),(67,some (.cells 151 [(.own 83 false v4.2.arcs.length),(.own 66 true v4.2.from_.length)])),(UQ p),(LJ p),(J7 p),(U7 p),(73,some (GI v0 v4 v8)),Ww,M0,(83,some (xI v4))]
abbrev G9:=(xX (aG .i64) (gG Kb v0 v4.1 v8))
abbrev Gy:=(xY (aG .i64) (gG Kb v0 v4.1 v8))
abbrev ZA:List (Nat × TV):=[(2,(vP 63 0)),(gI s_),(4,(vP 65 0)),(iQ p),(9,(vP 67 0)),(10,(vP 72 0)),uq,rC,pO,(Ae p),(Am p),(68,(vI (k4 v0)))]
abbrev adD:Nat × Option Ob:=(67,some (.cells 151 [(.own 68 false v4.2.arcs.length),(.own 66 true v4.2.from_.length)]))
abbrev I4:=((at' p.links u7.toNat).most)
abbrev TL:Nat × TV:=(17,(vD (Da [(.int .i64 (U8 u7 p)),(.int .i64 (Xf u7 p)),(.int .i64 ((at' p.links u7.toNat).kind)),(.int .i64 (I4 p u7)),(.int .i64 ((at' p.links u7.toNat).bJ)),(bM none 2 gD.cell ((at' p.links u7.toNat).trip))] 0)))
abbrev Zz:=(IntKind.wrap .i64 ((1:Int)+(U8 u7 p)))
abbrev abr:=(IntKind.wrap .i64 ((1:Int)+(Xf u7 p)))
abbrev acf:List (Nat × Option Ob):=[(OC p p1),bX,(Og v5),(67,some (.cells 151 [(.own 91 false v5.2.arcs.length),(.own 66 true v5.2.from_.length)])),(oo x0),(LJ p),(J7 p),(Yg p x0),(Db u4),(74,some (GI u7 v5 v9)),M0,(91,some (xI v5))]
abbrev abS:List (Nat × TV):=[(2,(vP 63 0)),(gI s_),(4,(vP 65 0)),(iQ p),(9,(vP 67 0)),(10,(vP 72 0)),uq,rC,pO,(Ai p),(Aa p),(90,(vI (k4 u7)))]
abbrev afN:List (Nat × TV):=[(2,(vP 63 0)),(gI s_),(4,(vP 65 0)),(8,(vI v7)),(9,(vP 67 0)),(10,(vP 72 0)),uq,rC,pO,(18,(vI u0)),(xD u2 u0),(qG u2),(116,(vI w0)),(117,(vI u0))]
abbrev Tz:=(IntKind.wrap .i64 ((IntKind.wrap .i64 ((1:Int)+p.buses))+u0))
abbrev afI:Nat × Option Ob:=(67,some (.cells 151 [(.own 111 false x4.2.arcs.length),(.own 66 true x4.2.from_.length)]))
abbrev acV:List (Nat × Option Ob):=[(eG p p1 p2 p3),bX,(Og x4),(afI x4),(oo x0),(qE x1),(sP x2),(tu x2 x0 x1),(Db u4),(CX u5),(Eb ua),(111,some (xI x4))]
abbrev PO:=(at' [(k28 u2 u0).e0,(k28 u2 u0).e1] v3.toNat)
abbrev Tk:Nat × TV:=(21,(vI (PO u0 u2 v3)))
abbrev Uk:List DV:=[(.int .i64 (PO u0 u2 v3))]
abbrev aai:=(IntKind.wrap .i64 ((1:Int)+(PO u0 u2 v3)))
abbrev afd:Nat × Option Ob:=(67,some (.cells 151 [(.own 115 false v6.2.arcs.length),(.own 66 true v6.2.from_.length)]))
abbrev Xx:Nat × Option Ob:=(115,some (xI v6))
abbrev SL:List DV:=[(.int .i64 u0),(.int .i64 v3)]
abbrev Zx:List (Nat × TV):=[(2,(vP 63 0)),(gI s_),(4,(vP 65 0)),(8,(vI v7)),(9,(vP 67 0)),(10,(vP 72 0)),uq,rC,pO,(18,(vI u0)),(xD u2 u0),(qG u2),(116,(vI w0)),(117,(vI u0)),(Ag u2 u0),(134,(vI (k4 v3)))]
abbrev aeX:List (Nat × TV):=[(2,(vP 63 0)),(gI s_),(4,(vP 65 0)),(8,(vI v7)),(9,(vP 67 0)),(10,(vP 72 0)),uq,rC,pO,(qG u2),(116,(vI w0)),(117,(vI (k4 u0)))]
abbrev ack:Nat × Option Ob:=(67,some (.cells 151 [(.own 68 false w9.length),(.d (bM (some true) 1 (Vn 1 (aG .i64)) x6))]))
abbrev afz:List (Nat × Option Ob):=[(ack w9 x6),(MX w9)]
abbrev afq:List (Nat × Option Ob):=[(yo u1),(yN u1)]
abbrev Aw:=(at' (u4.map Prod.fst) i)
abbrev Ea:=(at' (u4.map Prod.snd) i)
abbrev adq:=((at' u1.arcs ((IntKind.wrap .i64 (((BitVec.ofInt (IntKind.bits .i64) (Ea u4 i) ^^^ BitVec.ofInt (IntKind.bits .i64) 1).toNat:Int))).toNat)).left)
abbrev Z4:=(w5.set ((Aw u4 i).toNat) (adq u4 u1 i))
abbrev Mf:=(au (aG .i64) (Z4 u4 u1 i w5))
abbrev aaJ:=(eX (au (aG .i64) w5) ((Aw u4 i).toNat) 0 [(.int .i64 (adq u4 u1 i))])
abbrev abJ:Ob:=(bZ 3 1 (aG .i64) (Z4 u4 u1 i w5))
abbrev aao:=((Z4 u4 u1 i w5).length)
abbrev ac1:=(IntKind.wrap .i64 (((at' p2 ((Aw u5 i1).toNat)).most) - ((at' u1.arcs ((Ea u5 i1).toNat)).left)))
abbrev abF:=(w6.set ((Aw u5 i1).toNat) (ac1 p2 u5 u1 i1))
abbrev Mk:=(au (aG .i64) (abF p2 u5 u1 i1 w6))
abbrev Zu:=(eX (au (aG .i64) w6) ((Aw u5 i1).toNat) 0 [(.int .i64 (ac1 p2 u5 u1 i1))])
abbrev aaF:Ob:=(bZ 3 1 (aG .i64) (abF p2 u5 u1 i1 w6))
abbrev aac:=((abF p2 u5 u1 i1 w6).length)
abbrev Yq:List CV:=[(cI ((at' (u3.map Prod.fst) i2).e0)),(cI ((at' (u3.map Prod.fst) i2).e1))]
abbrev abk:List (Nat × TV):=[(2,(vP 63 0)),(4,(vP 65 0)),(9,(vP 67 0)),(10,(vP 72 0)),(26,(vP 121 0)),(27,(vI (at' (u3.map Prod.snd) i2))),(208,(vP 118 0))]
abbrev aaA:Ob:=(.cells 69 (Yq u3 i2))
abbrev abD:Ob:=(.cells 69 [(cI ((at' (u3.map Prod.fst) i2).e0)),(cI 0)])
abbrev TU:=(((at' (u3.map Prod.fst) i2).e0).toNat)
abbrev ZT:=(at' u1.arcs ((IntKind.wrap .i64 (((BitVec.ofInt (IntKind.bits .i64) (at' (u3.map Prod.snd) i2) ^^^ BitVec.ofInt (IntKind.bits .i64) 1).toNat:Int))).toNat))
abbrev abM:=(u9.set (TU u3 i2) (⟨(ZT u1 u3 i2).left,(at' u9 (TU u3 i2)).e1⟩:af))
abbrev MB:=(au af.cell (abM u1 u3 i2 u9))
abbrev adS:List DV:=[(.int .i64 ((ZT u1 u3 i2).left))]
abbrev aas:=(eX (au af.cell u9) (TU u3 i2) 0 (adS u1 u3 i2))
abbrev aal:Ob:=(bZ 69 2 af.cell (abM u1 u3 i2 u9))
abbrev ZV:=((abM u1 u3 i2 u9).length)
abbrev Zy:Ob:=(.cells 69 [(cI ((at' (u3.map Prod.fst) i2).e0)),(cI 1)])
abbrev aaQ:=(u9.set (TU u3 i2) (⟨(at' u9 (TU u3 i2)).e0,(ZT u1 u3 i2).left⟩:af))
abbrev LX:=(au af.cell (aaQ u1 u3 i2 u9))
abbrev aaS:=(eX (au af.cell u9) (TU u3 i2) 1 (adS u1 u3 i2))
abbrev aaL:Ob:=(bZ 69 2 af.cell (aaQ u1 u3 i2 u9))
abbrev ZY:=((aaQ u1 u3 i2 u9).length)
abbrev sF:=(List.replicate p.buses.toNat (false:Bool))
abbrev aaZ:Ob:=(bZ 4 1 aj (sF p))
abbrev Vq:Nat × Option Ob:=(122,some (aaZ p))
abbrev VU:=((sF p).length)
abbrev WU:Nat × Option Ob:=(123,some (.cells 27 [(.own 122 true (VU p))]))
abbrev BX:=(au aj (sF p))
abbrev adK:List (Nat × TV):=[(2,(vP 63 0)),(4,(vP 65 0)),(10,(vP 72 0)),(28,(vP 123 0)),(235,(.v (.one (.fn 103 0 1 (Ml [(.ptr 124 0)])))))]
abbrev ZR:Ob:=(.cells 151 [(.d (bM none 2 bg.cell u1.arcs)),(.d (Xd u1))])
abbrev aby:Ob:=(.cells 147 [(.d (Da [(bM none 2 bg.cell u1.arcs),(Xd u1)] 0))])
abbrev UW:DV:=(Da [(Da [(bM none 2 bg.cell u1.arcs),(Xd u1)] 0)] 0)
abbrev Xp:TV:=(vD (.fn 103 1 (yC [(UW u1)])))
abbrev aaw:Nat × TV:=(235,(Xp u1))
abbrev acu:List (Nat × TV):=[(2,(vP 63 0)),(4,(vP 65 0)),(10,(vP 72 0)),(28,(vP 123 0)),(aaw u1)]
abbrev ZQ:List CV:=[(.d (UW u1))]
abbrev yJ:DV:=(bM none 1 (aG .i64) u6)
end
theorem zS (p:ah) (s_:State) {r:(aA × (List Bool) × Int)} (h:bO p s_=some r):Fn Tryz.prog 27 (U3 p s_) [] (.iV [(.agg [(.d (bM none 1 (aG .i64) r.1.sources)),(.d (bM none 1 (aG .i64) r.1.links)),(.d (bM none 2 af.cell r.1.racks))]),(sD (bM none 1 aj r.2.1)),(sI r.2.2)]) []:=by
 refine fN tT Tryz.func27 rfl rfl fun B=> ?_
 show jy _ _ _ _ _ _ (jB r) _
 unfold bO at h
 refine sz tT (afT p s_) {fr:=[(0,63),(1,64),(2,65)] } [64] ?_
 refine aQ (aQ (bE h fun r_ hr_ h=> ?_))
 have q0:=eP p s_ hr_
 refine rg tT (aek p s_ r_) [_] {an:=[(2,cA q0 [])] } [] ⟨q0,trivial⟩ ?_
 refine sz tT (afG p s_ r_) {} [] ?_
 refine bI h (fun hb9 h=> ?_) (fun hb9 h=> ?_)
 ·refine ct hb9 ?_
  refine sz tT ⟨[(4,(vD (Da [nS,nS,nS] 0))),(5,(vD nS)),(6,(vI r_))],[]⟩ {} [65] ?_
  refine aI (dX.le (st':=⟨[(4,(vD (Da [YA,YA,(bM none 2 af.cell ([]:List af))] 0))),(5,(vD (bM none 1 aj ([]:List Bool)))),(6,(vI r_))],[]⟩) ⟨⟨⟨_,rfl,y7.v (uG.one (gV.d (UZ ⟨jK.nil',jK.nil',jK.nil',trivial⟩)))⟩,⟨_,rfl,y7.v (uG.one (gV.d jK.nil'))⟩,tR,trivial⟩,trivial⟩) ?_
  refine aR ?_
  obtain rfl:=oi h
  exact rl [(.agg [(.d YA),(.d YA),(.d (bM none 2 af.cell ([]:List af)))]),(sD (bM none 1 aj ([]:List Bool))),(sI r_)]
 ·refine cf hb9 ?_
  refine aP (sz tT (adV p s_) {} [] ?_)
  refine aQ (aO h fun⟨a1,a2,a3⟩ h=> ?_)
  refine ri tT ⟨(YC p s_),[(zF p),bX,(66,some (.arr 35 1 (yT p).length (fun _ j=>[nS].getD j .nilp))),(afo p)]⟩ [_,(aam p)=(WL p),_,_,(yT p).length=(P5 p),aD (P5 p) 1 (fun _ j=>[nS].getD j .nilp) (fun _ j=>[nS].getD j .nilp)] {an:=[(2, .arr (yT p).length (fun _ j=>[nS].getD j .nilp))],fr:=[(2,66),(4,67)] } [] ⟨a1,rfl,a2,a3,(List.length_replicate),(fG _ _ _),trivial⟩ (.trans (dX.MN (b:=66) (E:=35) (esz:=1) (len:=(yT p).length) (el:=(fun _ j=>[nS].getD j .nilp)) (el':=xC sG (yT p)) (by kernel_rfl) (fun i hi j hj=>match j,hj with|0,_=>Jz _ _ _ _ _ _ _ _)) (.trans (fz ⟨(YC p s_),[(zF p),bX,(VD p),(afo p)]⟩ []) (.trans (dX.xG (E:=0) (esz:=0) (E0:=151) (cs:=(adR p)) (p:=67) (q:=0) (b:=68) (esz0:=0) (el0:=fun _ _=> .nilp) (ob:= .arr 157 2 0 (au bg.cell ([]:List bg))) (fun _ _ _ _ h=> .inl ⟨h,rfl⟩) (by kernel_rfl) (by kernel_rfl) (by kernel_rfl)) (.trans (fz ⟨(YC p s_),[(zF p),bX,(VD p),(67,some (.cells 151 [(.own 68 false 0),(.own 66 true (MZ p))])),(68,some (.arr 157 2 0 (au bg.cell ([]:List bg))))]⟩ []) (dX.le (st':=⟨(YC p s_),[(zF p),bX,(VD p),(abu p),Z5]⟩) ⟨⟨tR,tR,tR,tR,tR,trivial⟩,(hN 3 ⟨rfl,bH ⟨cW,gV.refl _,trivial⟩,⟨rfl,oW,trivial⟩⟩)⟩))))) ?_
  refine aQ (aO h fun⟨a1,a2,a3,a4,a5,a6,a7,a8,a9⟩ h=> ?_)
  refine dg tT mX ⟨[(2,(vP 63 0)),(gI s_),(4,(vP 65 0)),(iQ p),(9,(vP 67 0)),(10,(vP 72 0))],[(zF p),bX,(VD p),(abu p),Z5,(UQ p),(LJ p),(J7 p),(U7 p)]⟩ [_,(P7 p)=(p.sources.length:Int),_,_,(Mc p).length=(GZ p),aD (GZ p) 1 (fun _ j=>[(.int .i64 0)].getD j .nilp) (SC p),_,(Tj p)=(p.links.length:Int),_,_,(Cx p).length=(yu p),aD (yu p) 1 (fun _ j=>[(.int .i64 0)].getD j .nilp) (Kk p),_,((p.racks.length:Int):Int)=(p.racks.length:Int),_,_,(Nb p).length=(Qq p),aD (Qq p) 2 (fun _ j=>[(.int .i64 0),(.int .i64 0)].getD j .nilp) (Ug p)] {an:=[(3, .arr (Mc p).length (SC p)),(7, .arr (Cx p).length (Kk p)),(11, .arr (Nb p).length (Ug p))],fr:=[(3,69),(7,70),(11,71),(13,72)] } [] ⟨a1,rfl,a2,a3,(List.length_replicate),(aW _ _ _ _ _ (fun j hj=>(match j,hj with|0,_=>rfl))),a4,rfl,a5,a6,(List.length_replicate),(aW _ _ _ _ _ (fun j hj=>(match j,hj with|0,_=>rfl))),a7,rfl,a8,a9,(List.length_replicate),(aW _ _ _ _ _ (fun j hj=>(match j,hj with|0,_=>rfl|1,_=>rfl))),trivial⟩ ?_
  refine sz tT ⟨(VG s_ p),(adn p)⟩ {an:=[(0, .map 0 (xX (aG .i64) ([]:(List (Int × Int)))) (xY (aG .i64) ([]:(List (Int × Int)))) []),(1, .map 0 (xX (aG .i64) ([]:(List (Int × Int)))) (xY (aG .i64) ([]:(List (Int × Int)))) []),(2, .map 0 (xX af.cell ([]:(List (af × Int)))) (xY (aG .i64) ([]:(List (af × Int)))) [])],fr:=[(0,73),(1,74),(2,75)] } [] ?_
  refine aQ (sz tT ⟨[(2,(vP 63 0)),(gI s_),(4,(vP 65 0)),(iQ p),(9,(vP 67 0)),(10,(vP 72 0)),uq,rC,pO,(Ae p),(Am p),(68,(vI 0))],(adn p)⟩ {} [] ?_)
  refine bE h fun y hy h=> ?_
  refine aL [] (zW p s_) (zP p s_) jB hy (fun s f h=> ?_) ?_
  ·clear hy
   show jy _ _ _ _ _ _ ((G7 p s_) f) _
   unfold iK at h
   obtain⟨n0,n1,v8,v0⟩:=s
   refine sz tT ⟨[(2,(vP 63 0)),(gI s_),(4,(vP 65 0)),(iQ p),(9,(vP 67 0)),(10,(vP 72 0)),uq,rC,pO,(Ae p),(Am p),(68,(vI v0)),(69,(vB (decide (v0<(p.sources.length:Int)))))],(Sz p n1 n0 v8)⟩ {} [] ?_
   refine aQ ?_
   refine bI h (fun hb1 h=> ?_) (fun hb1 h=> ?_)
   ·refine ct hb1 ?_
    refine aP (aQ (aB (aQ (aO h fun a1 h=> ?_))))
    refine rg tT ⟨[(2,(vP 63 0)),(gI s_),(4,(vP 65 0)),(iQ p),(9,(vP 67 0)),(10,(vP 72 0)),uq,rC,pO,(14,(vI v0)),(Tv p v0),(Ae p),(Am p),(68,(vI v0))],(Sz p n1 n0 v8)⟩ [_] {fr:=[(3,82)] } [82] ⟨a1,trivial⟩ ?_
    refine aQ (bE h fun ui hr_1 h=> ?_)
    have q0:=iN p s_ v0 hr_1
    refine rg tT ⟨[(2,(vP 63 0)),(gI s_),(4,(vP 65 0)),(iQ p),(9,(vP 67 0)),(10,(vP 72 0)),uq,rC,pO,(14,(vI v0)),(Tv p v0),(Ae p),(Am p),(68,(vI v0)),(76,(vB ui))],(Sz p n1 n0 v8)⟩ [_] {an:=[(3,cA q0 [])] } [] ⟨q0,trivial⟩ ?_
    refine bI h (fun hb h=> ?_) (fun hb h=> ?_)
    ·refine ct hb ?_
     refine bE h fun v4 hr_2 h=> ?_
     have q0:=rk [(0,67),(1,68),(2,66),(3,83)] (bG 0 (abH p v0) (TF p v0) 0 (⟨n0,n1⟩:Network) hr_2)
     refine rg tT ⟨(acJ s_ p v0),(acY p v0 v4 v8)⟩ [_,AB [some .i64] 1 1 v8.length (xX (aG .i64) v8) (xY (aG .i64) v8) [(.int .i64 v0)] [(cI v4.1)] [] (gG Kb v0 v4.1 v8).length (G9 v0 v4 v8) (Gy v0 v4 v8)] {an:=[(8,cA q0 [67,68,66]),(9, .map (gG Kb v0 v4.1 v8).length (G9 v0 v4 v8) (Gy v0 v4 v8) [])] } [] ⟨q0,(rD (fun _=>rfl) (fun _ _=>rfl) v8 v0 v4.1 rfl rfl),trivial⟩ ?_
     refine ri tT ⟨(ZA p s_ v0),(acY p v0 v4 v8)⟩ [] {} [] trivial (dX.fin (st':=⟨(ZA p s_ v0),[(zF p),bX,(Og v4),(adD v4),(68,some (xI v4)),(UQ p),(LJ p),(J7 p),(U7 p),(73,some (GI v0 v4 v8)),Ww,M0]⟩) (cs:=[]) ⟨[],[(63,63),(65,65),(66,66),(67,67),(83,68),(69,69),(70,70),(71,71),(72,72),(73,73),(74,74),(75,75)]⟩ [2,3,4,8,9,10,11,12,13,66,67,68] (by kernel_rfl) trivial) ?_
     obtain rfl:=oi h
     exact lN
    ·refine cf hb ?_
     refine aP (rz tT ⟨(ZA p s_ v0),(Sz p n1 n0 v8)⟩ {} [] ?_)
     obtain rfl:=oi h
     exact lN
   ·refine cf hb1 ?_
    refine aI (fz ⟨(VG s_ p),(Sz p n1 n0 v8)⟩ []) ?_
    refine aX ?_
    obtain rfl:=oi h
    exact lB
  ·clear hy
   cases y with
   |brk z=>
    obtain⟨p1,ue,uc,x0,u4⟩:=z
    unfold G6
    refine⟨_, .refl, ?_⟩
    refine aQ (sz tT ⟨[(2,(vP 63 0)),(gI s_),(4,(vP 65 0)),(iQ p),(9,(vP 67 0)),(10,(vP 72 0)),uq,rC,pO,(Ai p),(Aa p),(90,(vI 0))],(adv p p1 x0 uc ue u4)⟩ {} [] ?_)
    refine bE h fun y1 hy h=> ?_
    refine aL [] (zR p s_ p1 x0 u4) (zV p s_ p1 x0 u4) jB hy (fun s f h=> ?_) ?_
    ·clear hy
     show jy _ _ _ _ _ _ ((GD p s_ p1 x0 u4) f) _
     unfold iM at h
     obtain⟨w7,w3,v9,u7⟩:=s
     refine sz tT ⟨[(2,(vP 63 0)),(gI s_),(4,(vP 65 0)),(iQ p),(9,(vP 67 0)),(10,(vP 72 0)),uq,rC,pO,(Ai p),(Aa p),(90,(vI u7)),(91,(vB (decide (u7<(p.links.length:Int)))))],(SH p v9 p1 w3 w7 x0 u4)⟩ {} [] ?_
     refine aQ ?_
     refine bI h (fun hb3 h=> ?_) (fun hb3 h=> ?_)
     ·refine ct hb3 ?_
      refine aP (aQ (aB (aQ (aO h fun a1 h=> ?_))))
      refine rg tT ⟨[(2,(vP 63 0)),(gI s_),(4,(vP 65 0)),(iQ p),(9,(vP 67 0)),(10,(vP 72 0)),uq,rC,pO,(16,(vI u7)),(TL p u7),(Ai p),(Aa p),(90,(vI u7))],(SH p v9 p1 w3 w7 x0 u4)⟩ [_] {fr:=[(3,90)] } [90] ⟨a1,trivial⟩ ?_
      refine aQ (bE h fun uj hr_3 h=> ?_)
      have q0:=fo (⟨p.buses,p1,p.links,p.racks⟩:ah) s_ u7 hr_3
      refine rg tT ⟨[(2,(vP 63 0)),(gI s_),(4,(vP 65 0)),(iQ p),(9,(vP 67 0)),(10,(vP 72 0)),uq,rC,pO,(16,(vI u7)),(TL p u7),(Ai p),(Aa p),(90,(vI u7)),(98,(vB uj))],(SH p v9 p1 w3 w7 x0 u4)⟩ [_] {an:=[(3,cA q0 [])] } [] ⟨q0,trivial⟩ ?_
      refine bI h (fun hb2 h=> ?_) (fun hb2 h=> ?_)
      ·refine ct hb2 ?_
       refine bE h fun v5 hr_4 h=> ?_
       have q0:=rk [(0,67),(1,68),(2,66),(3,91)] (bG (Zz p u7) (abr p u7) (I4 p u7) (I4 p u7) (⟨w7,w3⟩:Network) hr_4)
       refine rg tT ⟨(acL p s_ u7),(acf p u7 p1 v5 x0 u4 v9)⟩ [_,AB [some .i64] 1 1 v9.length (xX (aG .i64) v9) (xY (aG .i64) v9) [(.int .i64 u7)] [(cI v5.1)] [] (gG Kb u7 v5.1 v9).length (G9 u7 v5 v9) (Gy u7 v5 v9)] {an:=[(13,cA q0 [67,68,66]),(14, .map (gG Kb u7 v5.1 v9).length (G9 u7 v5 v9) (Gy u7 v5 v9) [])] } [] ⟨q0,(rD (fun _=>rfl) (fun _ _=>rfl) v9 u7 v5.1 rfl rfl),trivial⟩ ?_
       refine ri tT ⟨(abS p s_ u7),(acf p u7 p1 v5 x0 u4 v9)⟩ [] {} [] trivial (dX.fin (st':=⟨(abS p s_ u7),[(OC p p1),bX,(Og v5),(adD v5),(68,some (xI v5)),(oo x0),(LJ p),(J7 p),(Yg p x0),(Db u4),(74,some (GI u7 v5 v9)),M0]⟩) (cs:=[]) ⟨[],[(63,63),(65,65),(66,66),(67,67),(91,68),(69,69),(70,70),(71,71),(72,72),(73,73),(74,74),(75,75)]⟩ [2,3,4,8,9,10,11,12,13,88,89,90] (by kernel_rfl) trivial) ?_
       obtain rfl:=oi h
       exact lN
      ·refine cf hb2 ?_
       refine aP (rz tT ⟨(abS p s_ u7),(SH p v9 p1 w3 w7 x0 u4)⟩ {} [] ?_)
       obtain rfl:=oi h
       exact lN
     ·refine cf hb3 ?_
      refine aI (fz ⟨(VG s_ p),(SH p v9 p1 w3 w7 x0 u4)⟩ []) ?_
      refine aX ?_
      obtain rfl:=oi h
      exact lB
    ·clear hy
     cases y1 with
     |brk z=>
      obtain⟨p2,uf,ud,x1,u5⟩:=z
      unfold G6
      refine⟨_, .refl, ?_⟩
      refine aQ (sz tT ⟨[(2,(vP 63 0)),(gI s_),(4,(vP 65 0)),(iQ p),(9,(vP 67 0)),(10,(vP 72 0)),uq,rC,pO,(115,(vD (bM none 4 aC.cell p.racks))),(116,(vI (p.racks.length:Int))),(117,(vI 0))],(adu p p1 p2 x1 ud uf x0 u4 u5)⟩ {} [] ?_)
      refine bE h fun y3 hy h=> ?_
      refine aL [] (zM p s_ p1 x0 u4 p2 x1 u5) (zI p p1 x0 u4 p2 x1 u5) jB hy (fun s f h=> ?_) ?_
      ·clear hy
       show jy _ _ _ _ _ _ ((uL p s_ p1 x0 u4 p2 x1 u5) f) _
       unfold iL at h
       obtain⟨p3,v7,x7,x3,x2,ua,u2,w0,u0⟩:=s
       refine sz tT ⟨[(2,(vP 63 0)),(gI s_),(4,(vP 65 0)),(8,(vI v7)),(9,(vP 67 0)),(10,(vP 72 0)),uq,rC,pO,(qG u2),(116,(vI w0)),(117,(vI u0)),(118,(vB (decide (u0<w0))))],(Wi p p1 p2 p3 x2 x0 x1 ua x3 x7 u4 u5)⟩ {} [] ?_
       refine aQ ?_
       refine bI h (fun hb6 h=> ?_) (fun hb6 h=> ?_)
       ·refine ct hb6 ?_
        refine aP (aQ (aB (aQ (aO h fun a1 h=> ?_))))
        refine rg tT ⟨(afN s_ v7 u0 u2 w0),(Wi p p1 p2 p3 x2 x0 x1 ua x3 x7 u4 u5)⟩ [_] {fr:=[(3,110)] } [110] ⟨a1,trivial⟩ ?_
        refine aQ (bE h fun x4 hr_5 h=> ?_)
        have q0:=rk [(0,67),(1,68),(2,66),(3,111)] (bG (Tz p u0) v7 (LV u2 u0) 0 (⟨x7,x3⟩:Network) hr_5)
        refine rg tT ⟨(afN s_ v7 u0 u2 w0),(acV p p1 x0 u4 x4 p2 p3 x1 x2 u5 ua)⟩ [_] {an:=[(9,cA q0 [67,68,66])] } [] ⟨q0,trivial⟩ ?_
        refine sz tT ⟨[(2,(vP 63 0)),(gI s_),(4,(vP 65 0)),(8,(vI v7)),(9,(vP 67 0)),(10,(vP 72 0)),uq,rC,pO,(18,(vI u0)),(xD u2 u0),(qG u2),(116,(vI w0)),(117,(vI u0)),(Ag u2 u0),(134,(vI 0))],(acV p p1 x0 u4 x4 p2 p3 x1 x2 u5 ua)⟩ {} [] ?_
        refine bE h fun y2 hy h=> ?_
        refine aL [5] (zH p s_ p1 x0 u4 p2 x1 u5 p3 v7 x2 u2 w0 u0) (zO p s_ p1 x0 u4 p2 x1 u5 p3 v7 x2 u2 w0 u0) (uL p s_ p1 x0 u4 p2 x1 u5) hy (fun s f h=> ?_) ?_
        ·clear hy
         show jy _ _ _ _ _ _ ((GL p s_ p1 x0 u4 p2 x1 u5 p3 v7 x2 u2 w0 u0) f) _
         unfold eT at h
         obtain⟨w8,w4,w1,v3⟩:=s
         refine sz tT ⟨[(2,(vP 63 0)),(gI s_),(4,(vP 65 0)),(8,(vI v7)),(9,(vP 67 0)),(10,(vP 72 0)),uq,rC,pO,(18,(vI u0)),(xD u2 u0),(qG u2),(116,(vI w0)),(117,(vI u0)),(Ag u2 u0),(134,(vI v3)),(135,(vB (decide (v3<2))))],(Qj p p1 p2 p3 w4 w8 x0 x1 x2 u4 u5 w1)⟩ {} [] ?_
         refine aQ ?_
         refine bI h (fun hb5 h=> ?_) (fun hb5 h=> ?_)
         ·refine ct hb5 ?_
          refine aP (aQ (aB (aQ (aO h fun a1 h=> ?_))))
          refine rg tT ⟨[(2,(vP 63 0)),(gI s_),(4,(vP 65 0)),(8,(vI v7)),(9,(vP 67 0)),(10,(vP 72 0)),uq,rC,pO,(18,(vI u0)),(xD u2 u0),(20,(vI v3)),(Tk u0 u2 v3),(qG u2),(116,(vI w0)),(117,(vI u0)),(Ag u2 u0),(134,(vI v3))],(Qj p p1 p2 p3 w4 w8 x0 x1 x2 u4 u5 w1)⟩ [_,v3.toNat*1+1≤(QX u2 u0).length,((QX u2 u0).drop (v3.toNat*1)).take 1=(Uk u0 u2 v3).map .d] {an:=[(1, .vals (Uk u0 u2 v3))] } [] ⟨a1,(TK (n:=2) (sz:=1) (Nat.le_refl _) a1),(Tq (n:=2) (sz:=1) (g:=fun q=>[(cI (at' [(k28 u2 u0).e0,(k28 u2 u0).e1] q))]) (by intro q hq;match q,hq with|0,_=>rfl|1,_=>rfl) a1),trivial⟩ ?_
          refine aQ (bE h fun ul hr_6 h=> ?_)
          have q0:=jP s_ (PO u0 u2 v3) hr_6
          refine rg tT ⟨[(2,(vP 63 0)),(gI s_),(4,(vP 65 0)),(8,(vI v7)),(9,(vP 67 0)),(10,(vP 72 0)),uq,rC,pO,(18,(vI u0)),(xD u2 u0),(20,(vI v3)),(Tk u0 u2 v3),(qG u2),(116,(vI w0)),(117,(vI u0)),(Ag u2 u0),(134,(vI v3)),(140,(vB ul))],(Qj p p1 p2 p3 w4 w8 x0 x1 x2 u4 u5 w1)⟩ [_] {an:=[(2,cA q0 [])] } [] ⟨q0,trivial⟩ ?_
          refine bI h (fun hb4 h=> ?_) (fun hb4 h=> ?_)
          ·refine ct hb4 ?_
           refine bE h fun v6 hr_7 h=> ?_
           have q0:=rk [(0,67),(1,111),(2,66),(3,115)] (bG (aai u0 u2 v3) (Tz p u0) (LV u2 u0) 0 (⟨w8,w4⟩:Network) hr_7)
           refine rg tT ⟨(afD u2 u0 s_ v7 w0 v3),[(eG p p1 p2 p3),bX,(Og v6),(afd v6),(oo x0),(qE x1),(sP x2),(tu x2 x0 x1),(Db u4),(CX u5),(75,some (RU 69 3 true false 2 1 af.cell (aG .i64) (gG (fun a b=>(decide (a.e0=b.e0) && (decide (a.e1=b.e1) && true))) (⟨u0,v3⟩:af) v6.1 w1))),(Xx v6)]⟩ [_,AB [some .i64,some .i64] 2 1 w1.length (xX af.cell w1) (xY (aG .i64) w1) (SL u0 v3) [(cI v6.1)] [] (gG (fun a b=>(decide (a.e0=b.e0) && (decide (a.e1=b.e1) && true))) (⟨u0,v3⟩:af) v6.1 w1).length (xX af.cell (gG (fun a b=>(decide (a.e0=b.e0) && (decide (a.e1=b.e1) && true))) (⟨u0,v3⟩:af) v6.1 w1)) (xY (aG .i64) (gG (fun a b=>(decide (a.e0=b.e0) && (decide (a.e1=b.e1) && true))) (⟨u0,v3⟩:af) v6.1 w1))] {an:=[(14,cA q0 [67,111,66]),(15, .map (gG (fun a b=>(decide (a.e0=b.e0) && (decide (a.e1=b.e1) && true))) (⟨u0,v3⟩:af) v6.1 w1).length (xX af.cell (gG (fun a b=>(decide (a.e0=b.e0) && (decide (a.e1=b.e1) && true))) (⟨u0,v3⟩:af) v6.1 w1)) (xY (aG .i64) (gG (fun a b=>(decide (a.e0=b.e0) && (decide (a.e1=b.e1) && true))) (⟨u0,v3⟩:af) v6.1 w1)) [])] } [] ⟨q0,(rD (fun _=>rfl) (fun _ _=>rfl) w1 (⟨u0,v3⟩:af) v6.1 rfl rfl),trivial⟩ ?_
           refine ri tT ⟨(Zx s_ v7 u0 u2 w0 v3),[(eG p p1 p2 p3),bX,(Og v6),(afd v6),(oo x0),(qE x1),(sP x2),(tu x2 x0 x1),(Db u4),(CX u5),(75,some (RU 69 3 true false 2 1 af.cell (aG .i64) (gG (fun a b=>(decide (a.e0=b.e0) && (decide (a.e1=b.e1) && true))) (⟨u0,v3⟩:af) v6.1 w1))),(Xx v6)]⟩ [] {} [] trivial (dX.fin (st':=⟨(Zx s_ v7 u0 u2 w0 v3),[(eG p p1 p2 p3),bX,(Og v6),(afI v6),(oo x0),(qE x1),(sP x2),(tu x2 x0 x1),(Db u4),(CX u5),(75,some (RU 69 3 true false 2 1 af.cell (aG .i64) (gG (fun a b=>(decide (a.e0=b.e0) && (decide (a.e1=b.e1) && true))) (⟨u0,v3⟩:af) v6.1 w1))),(111,some (xI v6))]⟩) (cs:=[]) ⟨[],[(63,63),(65,65),(66,66),(67,67),(69,69),(70,70),(71,71),(72,72),(73,73),(74,74),(75,75),(115,111)]⟩ [2,3,4,8,9,10,11,12,13,18,19,115,116,117,133,134] (by kernel_rfl) trivial) ?_
           obtain rfl:=oi h
           exact lN
          ·refine cf hb4 ?_
           refine aP (rz tT ⟨(Zx s_ v7 u0 u2 w0 v3),(Qj p p1 p2 p3 w4 w8 x0 x1 x2 u4 u5 w1)⟩ {} [] ?_)
           obtain rfl:=oi h
           exact lN
         ·refine cf hb5 ?_
          refine aI (fz (ac7 s_ v7 u2 w0 u0 p p1 p2 p3 w4 w8 x0 x1 x2 u4 u5 w1) []) ?_
          refine aX ?_
          obtain rfl:=oi h
          exact lB
        ·clear hy
         cases y2 with
         |brk z=>
          obtain⟨ub,x8,ug⟩:=z
          unfold G6
          refine⟨_, .refl, ?_⟩
          refine ri tT ⟨(aeX s_ v7 u0 u2 w0),(Qj p p1 p2 p3 x8 ub x0 x1 x2 u4 u5 ug)⟩ [] {} [] trivial (dX.fin (st':=⟨(aeX s_ v7 u0 u2 w0),(Wi p p1 p2 p3 x2 x0 x1 ug x8 ub u4 u5)⟩) (cs:=[]) ⟨[],[(63,63),(65,65),(66,66),(67,67),(111,68),(69,69),(70,70),(71,71),(72,72),(73,73),(74,74),(75,75)]⟩ [2,3,4,8,9,10,11,12,13,115,116,117] (by kernel_rfl) trivial) ?_
          obtain rfl:=oi h
          exact lN
         |ret v=>
          obtain rfl:=oi h
          unfold G6
          intro e st hn ha hR
          cases e with
          |normal=>exact absurd rfl hn
          |exit id=>simp only [Qu (b:=5) ha rfl,cond_false];exact hR
          |goto l=>exact hR
          |ret=>exact hR
          |panic c=>exact hR
          |outgrown=>exact hR
       ·refine cf hb6 ?_
        refine aI (fz (ad1 v7 p p1 p2 p3 x3 x7 x0 x1 x2 u4 u5 ua) []) ?_
        refine aX ?_
        obtain rfl:=oi h
        exact lB
      ·clear hy
       cases y3 with
       |brk z=>
        obtain⟨v1,x9,w9,x6,v2,u3⟩:=z
        unfold G6
        refine⟨_, .refl, ?_⟩
        refine aQ (aI (.trans (fi ⟨(aaD x9),[(eG p p1 p2 v1),bX,(67,some (.cells 151 [(.own 68 false w9.length),(.d (.sl (some true) 1 x6.length (fun i j=>evD (xC sG x6 i j))))])),(MX w9),(oo x0),(qE x1),(sP v2),(tu v2 x0 x1),(Db u4),(CX u5),(Eb u3)]⟩ [x6.length=x6.length] [66] ⟨rfl,trivial⟩) (dX.le (st':=⟨(aaD x9),[(eG p p1 p2 v1),bX,(ack w9 x6),(MX w9),(oo x0),(qE x1),(sP v2),(tu v2 x0 x1),(Db u4),(CX u5),(Eb u3)]⟩) ⟨⟨tR,tR,tR,tR,tR,tR,tR,tR,trivial⟩,(hN 2 ⟨rfl,bH ⟨gV.refl _,gV.d (jK.sl (.inr rfl) (fun i _ j hj=>match j,hj with|0,_=> .refl _)),trivial⟩,(.refl _)⟩)⟩)) ?_)
        refine bE h fun u1 hr_8 h=> ?_
        refine rg tT ⟨[(2,(vP 63 0)),(4,(vP 65 0)),(9,(vP 67 0)),(10,(vP 72 0)),uq,rC,pO],[(eG p p1 p2 v1),bX,(yo u1),(yN u1),(oo x0),(qE x1),(sP v2),(tu v2 x0 x1),(Db u4),(CX u5),(Eb u3)]⟩ [Fn Tryz.prog 75 [(.one (.ptr 67 0)),(sI x9)] (afz w9 x6) (.iV []) (afq u1)] {an:=[(2, .call [67,68] (.iV []) (afq u1))] } [] ⟨(Fn.leH (args:=[(.one (.ptr 67 0)),(sI x9)]) (args':=[(.one (.ptr 67 0)),(sI x9)]) (hin:=[(67,some (.cells 151 [(.own 68 false w9.length),(.d (k91 x6))])),(MX w9)]) (hin':=(afz w9 x6)) (rK [(0,67),(1,68)] (lC x9 (⟨w9,x6⟩:Network) hr_8)) ⟨uG.refl _,uG.refl _,trivial⟩ ⟨rfl,bH ⟨gV.refl _,gV.d jK.rW,trivial⟩,(.refl _)⟩),trivial⟩ ?_
        refine aQ (bE h fun y4 hy h=> ?_)
        refine jb (Gx p p1 p2 x1 u5 v1 v2 u3 u1) (K:=3) (V:=3) (s0:=(x0)) ⟨3,3,false,false,1,1,u4.length,xX (aG .i64) u4,xY (aG .i64) u4,[]⟩ 73 116 (fun i=>(sI (Aw u4 i))) (fun i=>(sI (Ea u4 i))) hy [3,4] (by kernel_rfl) (by kernel_rfl) (by kernel_rfl) (fun _ _=> ⟨rfl,rfl⟩) (fun _ _=> ⟨lG _ _,lG _ _⟩) (fun _=>(dX.fin (st':=(adH u1 p p1 p2 v1 x0 x1 v2 u5 u3)) (cs:=[]) ⟨[],[(63,63),(65,65),(67,67),(68,68),(69,69),(70,70),(71,71),(72,72),(74,74),(75,75),(116,116)]⟩ [2,4,9,10,12,13,162] (by kernel_rfl) trivial)) (fun s=>by obtain⟨w5,rfl⟩: ∃q,q=s:=⟨_,rfl⟩;kernel_rfl) (fun B s i s' hi h=> ?_) ?_
        ·clear hy
         unfold jO at h
         obtain⟨w5,rfl⟩: ∃q,q=s:=⟨_,rfl⟩
         refine Yo tT (⟨[(2,(vP 63 0)),(4,(vP 65 0)),(9,(vP 67 0)),(10,(vP 72 0)),rC,pO,(22,(vI (Aw u4 i))),(23,(vI (Ea u4 i))),(162,(vP 116 0))],(aeQ u1 p p1 p2 v1 w5 x1 v2 u5 u3)⟩) {fin:=⟨[],[(63,63),(65,65),(67,67),(68,68),(69,69),(70,70),(71,71),(72,72),(74,74),(75,75),(116,116)]⟩,ts:=[2,4,9,10,12,13,22,23,162] } (cs:=[]) (by kernel_rfl) trivial .refl ?_
         refine aO h fun⟨a1,a2⟩ h=> ?_
         refine di tT mX ⟨aaE,[(eG p p1 p2 v1),bX,(yo u1),(yN u1),(69,some (.arr 3 1 w5.length (Mf u4 u1 i w5))),(qE x1),(sP v2),(tu v2 w5 x1),(CX u5),(Eb u3),(116,none)]⟩ [_,_,_,_,aD w5.length 1 (aaJ u4 u1 i w5) (Mf u4 u1 i w5)] {an:=[(13, .arr 0 (Mf u4 u1 i w5))] } [] ⟨a1,(tL a1),a2,(tL a2),(aK _ _ _ _ _ _ _ _ rfl (fun j hj=>(match j,hj with|0,_=>rfl))),trivial⟩ (dX.le (st':=⟨aaE,[(eG p p1 p2 v1),bX,(yo u1),(yN u1),(69,some (abJ u4 u1 i w5)),(qE x1),(sP v2),(72,some (.cells 80 [(.own 69 true (aao u4 u1 i w5)),(.own 70 true x1.length),(.own 71 true v2.length)])),(CX u5),(Eb u3),(116,none)]⟩) ⟨⟨tR,tR,tR,tR,tR,tR,tR,trivial⟩,(hN 4 ⟨rfl,oW,(hN 2 ⟨rfl,bH ⟨cW,gV.refl _,gV.refl _,trivial⟩,(.refl _)⟩)⟩)⟩) ?_
         obtain rfl:=oi h
         exact⟨.inl rfl,by kernel_rfl⟩
        ·clear hy
         obtain⟨u6,rfl⟩: ∃q,q=y4:=⟨_,rfl⟩
         refine aI (fz ⟨[(2,(vP 63 0)),(4,(vP 65 0)),(9,(vP 67 0)),(10,(vP 72 0)),rC,pO],[(eG p p1 p2 v1),bX,(yo u1),(yN u1),(oo u6),(qE x1),(sP v2),(tu v2 u6 x1),(CX u5),(Eb u3)]⟩ []) ?_
         refine aQ (bE h fun y5 hy h=> ?_)
         refine jb (GX p p1 p2 v1 v2 u3 u1 u6) (K:=3) (V:=3) (s0:=(x1)) ⟨3,3,false,false,1,1,u5.length,xX (aG .i64) u5,xY (aG .i64) u5,[]⟩ 74 117 (fun i1=>(sI (Aw u5 i1))) (fun i1=>(sI (Ea u5 i1))) hy [3,4] (by kernel_rfl) (by kernel_rfl) (by kernel_rfl) (fun _ _=> ⟨rfl,rfl⟩) (fun _ _=> ⟨lG _ _,lG _ _⟩) (fun _=>(dX.fin (st':=(aei p p1 p2 v1 u1 u6 x1 v2 u3)) (cs:=[]) ⟨[],[(63,63),(65,65),(67,67),(68,68),(69,69),(70,70),(71,71),(72,72),(75,75),(117,117)]⟩ [2,4,9,10,13,182] (by kernel_rfl) trivial)) (fun s=>by obtain⟨w6,rfl⟩: ∃q,q=s:=⟨_,rfl⟩;kernel_rfl) (fun B s i1 s' hi h=> ?_) ?_
         ·clear hy
          unfold jM at h
          obtain⟨w6,rfl⟩: ∃q,q=s:=⟨_,rfl⟩
          refine Yo tT (⟨[(2,(vP 63 0)),(4,(vP 65 0)),(9,(vP 67 0)),(10,(vP 72 0)),pO,(24,(vI (Aw u5 i1))),(25,(vI (Ea u5 i1))),(182,(vP 117 0))],(afC p p1 p2 v1 u1 u6 w6 v2 u3)⟩) {fin:=⟨[],[(63,63),(65,65),(67,67),(68,68),(69,69),(70,70),(71,71),(72,72),(75,75),(117,117)]⟩,ts:=[2,4,9,10,13,24,25,182] } (cs:=[]) (by kernel_rfl) trivial .refl ?_
          refine aO h fun⟨a1,a2,a3⟩ h=> ?_
          refine di tT mX ⟨aaY,[(eG p p1 p2 v1),bX,(yo u1),(yN u1),(oo u6),(70,some (.arr 3 1 w6.length (Mk p2 u5 u1 i1 w6))),(sP v2),(tu v2 u6 w6),(Eb u3),(117,none)]⟩ [_,_,_,_,_,aD w6.length 1 (Zu p2 u5 u1 i1 w6) (Mk p2 u5 u1 i1 w6)] {an:=[(19, .arr 0 (Mk p2 u5 u1 i1 w6))] } [] ⟨a1,a2,(tL a2),a3,(tL a3),(aK _ _ _ _ _ _ _ _ rfl (fun j hj=>(match j,hj with|0,_=>rfl))),trivial⟩ (dX.le (st':=⟨aaY,[(eG p p1 p2 v1),bX,(yo u1),(yN u1),(oo u6),(70,some (aaF p2 u5 u1 i1 w6)),(sP v2),(72,some (.cells 80 [(.own 69 true u6.length),(.own 70 true (aac p2 u5 u1 i1 w6)),(.own 71 true v2.length)])),(Eb u3),(117,none)]⟩) ⟨⟨tR,tR,tR,tR,tR,tR,trivial⟩,(hN 5 ⟨rfl,oW,⟨rfl, .refl _,⟨rfl,bH ⟨gV.refl _,cW,gV.refl _,trivial⟩,⟨rfl, .refl _,⟨rfl, .refl _,trivial⟩⟩⟩⟩⟩)⟩) ?_
          obtain rfl:=oi h
          exact⟨.inl rfl,by kernel_rfl⟩
         ·clear hy
          obtain⟨u8,rfl⟩: ∃q,q=y5:=⟨_,rfl⟩
          refine aI (fz ⟨[(2,(vP 63 0)),(4,(vP 65 0)),(9,(vP 67 0)),(10,(vP 72 0)),pO],[(eG p p1 p2 v1),bX,(yo u1),(yN u1),(oo u6),(qE u8),(sP v2),(tu v2 u6 u8),(Eb u3)]⟩ []) ?_
          refine aQ (bE h fun y6 hy h=> ?_)
          refine jb (GH p p1 p2 v1 u1 u6 u8) (K:=69) (V:=3) (s0:=(v2)) ⟨69,3,true,false,2,1,u3.length,xX af.cell u3,xY (aG .i64) u3,[]⟩ 75 118 (fun i2=>(.agg (Yq u3 i2))) (fun i2=>(sI (at' (u3.map Prod.snd) i2))) hy [3,4,5] (by kernel_rfl) (by kernel_rfl) (by kernel_rfl) (fun _ _=> ⟨rfl,rfl⟩) (fun _ _=> ⟨MP rfl,lG _ _⟩) (fun _=>(dX.fin (st':=(afJ p p1 p2 v1 u1 u6 u8 v2)) (cs:=[]) ⟨[],[(63,63),(65,65),(67,67),(68,68),(69,69),(70,70),(71,71),(72,72),(118,118)]⟩ [2,4,9,10,208] (by kernel_rfl) trivial)) (fun s=>by obtain⟨u9,rfl⟩: ∃q,q=s:=⟨_,rfl⟩;kernel_rfl) (fun B s i2 s' hi h=> ?_) ?_
          ·clear hy
           unfold jL at h
           obtain⟨u9,rfl⟩: ∃q,q=s:=⟨_,rfl⟩
           refine Yo tT (⟨(abk u3 i2),[(eG p p1 p2 v1),bX,(yo u1),(yN u1),(oo u6),(qE u8),(sP u9),(tu u9 u6 u8),(118,none),(121,some (aaA u3 i2))]⟩) {fr:=Xi [(3,121)],fin:=⟨[],[(63,63),(65,65),(67,67),(68,68),(69,69),(70,70),(71,71),(72,72),(118,118),(121,121)]⟩,ts:=[2,4,9,10,26,27,208] } (cs:=[]) (by kernel_rfl) trivial .refl ?_
           refine bI h (fun hb7 h=> ?_) (fun _ h=> ?_)
           ·skip
            refine aI (dX.le (st':=⟨(abk u3 i2),[(eG p p1 p2 v1),bX,(yo u1),(yN u1),(oo u6),(qE u8),(sP u9),(tu u9 u6 u8),(118,none),(121,some (abD u3 i2))]⟩) ⟨⟨tR,tR,tR,tR,tR,tR,tR,trivial⟩,(hN 9 ⟨rfl,bH ⟨gV.refl _,gV.of (congrArg (fun n=>CV.d (.int .i64 n)) (of_decide_eq_true hb7)),trivial⟩,trivial⟩)⟩) ?_
            refine aO h fun⟨a1,a2⟩ h=> ?_
            refine di tT mX ⟨V4,[(eG p p1 p2 v1),bX,(yo u1),(yN u1),(oo u6),(qE u8),(71,some (.arr 69 2 u9.length (MB u1 u3 i2 u9))),(tu u9 u6 u8),(118,none)]⟩ [(0:Int)≤0∧(0:Int)<(2:Nat),(0:Int)≤1∧(1:Int)<(2:Nat),_,_,_,(0:Int)≤0∧(0:Int)<(2:Nat),_,aD u9.length 2 (aas u1 u3 i2 u9) (MB u1 u3 i2 u9)] {an:=[(17, .arr 0 (MB u1 u3 i2 u9))] } [] ⟨((by decide)),((by decide)),a1,(tL a1),a2,((by decide)),(tL a2),(aK _ _ _ _ _ _ _ _ rfl (fun j hj=>(match j,hj with|0,_=>rfl|1,_=>rfl))),trivial⟩ (dX.le (st':=⟨V4,[(eG p p1 p2 v1),bX,(yo u1),(yN u1),(oo u6),(qE u8),(71,some (aal u1 u3 i2 u9)),(72,some (.cells 80 [(.own 69 true u6.length),(.own 70 true u8.length),(.own 71 true (ZV u1 u3 i2 u9))])),(118,none)]⟩) ⟨⟨tR,tR,tR,tR,tR,trivial⟩,(hN 6 ⟨rfl,oW,⟨rfl,bH ⟨gV.refl _,gV.refl _,cW,trivial⟩,(.refl _)⟩⟩)⟩) ?_
            obtain rfl:=oi h
            exact⟨.inl rfl,by kernel_rfl⟩
           ·skip
            refine aO h fun a1 h=> ?_
            refine aI (dX.le (st':=⟨(abk u3 i2),[(eG p p1 p2 v1),bX,(yo u1),(yN u1),(oo u6),(qE u8),(sP u9),(tu u9 u6 u8),(118,none),(121,some (Zy u3 i2))]⟩) ⟨⟨tR,tR,tR,tR,tR,tR,tR,trivial⟩,(hN 9 ⟨rfl,bH ⟨gV.refl _,gV.of (congrArg (fun n=>CV.d (.int .i64 n)) a1),trivial⟩,trivial⟩)⟩) ?_
            refine aO h fun⟨a1,a2⟩ h=> ?_
            refine di tT mX ⟨V4,[(eG p p1 p2 v1),bX,(yo u1),(yN u1),(oo u6),(qE u8),(71,some (.arr 69 2 u9.length (LX u1 u3 i2 u9))),(tu u9 u6 u8),(118,none)]⟩ [(0:Int)≤0∧(0:Int)<(2:Nat),(0:Int)≤1∧(1:Int)<(2:Nat),_,_,_,(0:Int)≤1∧(1:Int)<(2:Nat),_,aD u9.length 2 (aaS u1 u3 i2 u9) (LX u1 u3 i2 u9)] {an:=[(17, .arr 0 (LX u1 u3 i2 u9))] } [] ⟨((by decide)),((by decide)),a1,(tL a1),a2,((by decide)),(tL a2),(aK _ _ _ _ _ _ _ _ rfl (fun j hj=>(match j,hj with|0,_=>rfl|1,_=>rfl))),trivial⟩ (dX.le (st':=⟨V4,[(eG p p1 p2 v1),bX,(yo u1),(yN u1),(oo u6),(qE u8),(71,some (aaL u1 u3 i2 u9)),(72,some (.cells 80 [(.own 69 true u6.length),(.own 70 true u8.length),(.own 71 true (ZY u1 u3 i2 u9))])),(118,none)]⟩) ⟨⟨tR,tR,tR,tR,tR,trivial⟩,(hN 6 ⟨rfl,oW,⟨rfl,bH ⟨gV.refl _,gV.refl _,cW,trivial⟩,(.refl _)⟩⟩)⟩) ?_
            obtain rfl:=oi h
            exact⟨.inl rfl,by kernel_rfl⟩
          ·clear hy
           obtain⟨w2,rfl⟩: ∃q,q=y6:=⟨_,rfl⟩
           refine aI (fz ⟨[(2,(vP 63 0)),(4,(vP 65 0)),(9,(vP 67 0)),(10,(vP 72 0))],[(eG p p1 p2 v1),bX,(yo u1),(yN u1),(oo u6),(qE u8),(sP w2),(tu w2 u6 u8)]⟩ []) ?_
           refine aQ (aO h fun⟨a1,a2,a3⟩ h=> ?_)
           refine rg tT ⟨[(2,(vP 63 0)),(4,(vP 65 0)),(9,(vP 67 0)),(10,(vP 72 0)),(28,(vP 123 0))],[(eG p p1 p2 v1),bX,(yo u1),(yN u1),(oo u6),(qE u8),(sP w2),(tu w2 u6 u8),(Vq p),(WU p)]⟩ [_,(p.buses:Int)=p.buses,_,_,(sF p).length=p.buses.toNat,aD p.buses.toNat 1 (fun _ j=>[(.bool false)].getD j .nilp) (BX p)] {an:=[(2, .arr (sF p).length (BX p))],fr:=[(2,122),(3,123)] } [] ⟨a1,rfl,a2,a3,(List.length_replicate),(aW _ _ _ _ _ (fun j hj=>(match j,hj with|0,_=>rfl))),trivial⟩ ?_
           refine aQ (aQ (bE h fun um hr_9 h=> ?_))
           have q0:=rk [(0,67),(1,68),(2,124)] (gF u1 hr_9)
           refine ri tT ⟨adK,[(eG p p1 p2 v1),bX,(67,some (ZR u1)),(oo u6),(qE u8),(sP w2),(tu w2 u6 u8),(Vq p),(WU p),(124,some (.cells 147 [(.ptr 67 0)]))]⟩ [_,u1.arcs.length=u1.arcs.length] {an:=[(1,cA q0 [67,68])] } [68] ⟨q0,rfl,trivial⟩ (.trans (fz ⟨adK,[(eG p p1 p2 v1),bX,(oo u6),(qE u8),(sP w2),(tu w2 u6 u8),(Vq p),(WU p),(124,some (aby u1))]⟩ [67]) (fz ⟨(acu u1),[(eG p p1 p2 v1),bX,(oo u6),(qE u8),(sP w2),(tu w2 u6 u8),(Vq p),(WU p)]⟩ [124])) ?_
           refine aB (bE h fun x5 hr_10 h=> ?_)
           refine vW 125 [(2,(vP 63 0)),(28,(vP 123 0))] [] [125,63,123,122] (.iV []) [(125,some (.loop dF 0 [(2,(vP 63 0)),(28,(vP 123 0))])),(eG p p1 p2 v1),(123,some (.cells 27 [(.own 122 true x5.length)])),(122,some (bZ 4 1 aj x5))] (Xp u1) 103 [] (ZQ u1) [(125,some (.loop dF 0 [(2,(vP 63 0)),(28,(vP 123 0))])),(eG p p1 p2 v1),(WU p),(Vq p)] [(.one (.yl 125)),(sD (UW u1))] dF 0 [(2,(vP 63 0)),(28,(vP 123 0))] (by kernel_rfl) (by kernel_rfl) (by kernel_rfl) (by kernel_rfl) (by kernel_rfl) (by kernel_rfl) (by kernel_rfl) (rK [(0,125),(1,63),(2,123),(3,122)] (gU u1.arcs u1.from_ (⟨p.buses,p1,p2,v1⟩:ah) (sF p) hr_10)) (by kernel_rfl) rfl (KC.zero rfl) (dX.fin (st':=⟨(acu u1),[(eG p p1 p2 v1),bX,(oo u6),(qE u8),(sP w2),(tu w2 u6 u8),(122,some (bZ 4 1 aj x5)),(123,some (.cells 27 [(.own 122 true x5.length)]))]⟩) (cs:=[]) ⟨[],[(63,63),(65,65),(69,69),(70,70),(71,71),(72,72),(122,122),(123,123)]⟩ [2,4,10,28,235] (by kernel_rfl) trivial) ?_
           refine sj tT mX ⟨[(4,(vP 65 0)),(5,(vD (bM (some true) 1 aj x5))),(6,(vI 0))],[(65,some (.cells 80 [(.d (bM (some true) 1 (aG .i64) u6)),(.d (bM (some true) 1 (aG .i64) u8)),(.d (bM (some true) 2 af.cell w2))]))]⟩ [x5.length=x5.length,u6.length=u6.length,u8.length=u8.length,w2.length=w2.length] {} [69,70,71,122] ⟨rfl,rfl,rfl,rfl,trivial⟩ (fz ⟨[(4,(vD (Da [(bM (some true) 1 (aG .i64) u6),(bM (some true) 1 (aG .i64) u8),(bM (some true) 2 af.cell w2)] 0))),(5,(vD (bM (some true) 1 aj x5))),(6,(vI 0))],[]⟩ [65]) ?_
           refine aI (dX.le (st':=⟨[(4,(vD (Da [(yJ u6),(yJ u8),(bM none 2 af.cell w2)] 0))),(5,(vD (bM none 1 aj x5))),(6,(vI 0))],[]⟩) ⟨⟨⟨_,rfl,y7.v (uG.one (gV.d (UZ ⟨jK.rW,jK.rW,jK.rW,trivial⟩)))⟩,⟨_,rfl,y7.v (uG.one (gV.d jK.rW))⟩,tR,trivial⟩,trivial⟩) ?_
           refine aR ?_
           obtain rfl:=oi h
           exact rl [(.agg [(.d (yJ u6)),(.d (yJ u8)),(.d (bM none 2 af.cell w2))]),(sD (bM none 1 aj x5)),(sI 0)]
       |ret v=>
        obtain rfl:=oi h
        unfold G6
        intro e st hn ha hR
        cases e with
        |normal=>exact absurd rfl hn
        |exit id=>exact hR
        |goto l=>exact hR
        |ret=>exact hR
        |panic c=>exact hR
        |outgrown=>exact hR
     |ret v=>
      obtain rfl:=oi h
      unfold G6
      intro e st hn ha hR
      cases e with
      |normal=>exact absurd rfl hn
      |exit id=>exact hR
      |goto l=>exact hR
      |ret=>exact hR
      |panic c=>exact hR
      |outgrown=>exact hR
   |ret v=>
    obtain rfl:=oi h
    unfold G6
    intro e st hn ha hR
    cases e with
    |normal=>exact absurd rfl hn
    |exit id=>exact hR
    |goto l=>exact hR
    |ret=>exact hR
    |panic c=>exact hR
    |outgrown=>exact hR
theorem qZ (a:(List Int)) (b:(List Int)):fB Tryz.prog 18 [(sD (yJ a)),(sD (yJ b))] [] (fun r=>(vB r)) (fun _=>[]) (jA a b):=
  gJ tT mX Tryz.func18 (
  .r<| .r<| .it (.r<| .e false)
  (.r<| .lp (σ:=Int) (β:=Unit) (0) [] [] ⟨[0,1],[],fun i=>[(5,(vI i))],fun i=>[]⟩ ⟨[],[],fun _=>[],fun _=>[]⟩
  (fun i=> .r<| .it (.a2 (Ns a i) (Ns b i)<| .rg {} [0,1]<| .it (.r<| .e (.done (.ret false)))
  (.r<| .e (.next (k4 i))))
  (.e (.done (.brk ()))))
  (fun _=> .r<| .e true)))
section
variable (p:ah) (s_:State) (u0:(List Bool))
abbrev YS:List SV:=[(.agg (k9 p)),(.agg (k11 s_)),(sD (bM none 1 aj u0))]
end
theorem wY (p:ah) (s_:State) (u0:(List Bool)):fB Tryz.prog 95 (YS p s_ u0) [] (fun r=>(vD (.fn 121 3 (yC [(Da [(.int .i64 r.1),(bM none 5 Source.cell r.2.1),(bM none 6 Link.cell r.2.2.1),(bM none 4 aC.cell r.2.2.2.1)] 0),(Da [(bM none 1 aj r.2.2.2.2.1),(bM none 1 aj r.2.2.2.2.2.1),(bM none 1 aj r.2.2.2.2.2.2.1),(bM none 1 aj r.2.2.2.2.2.2.2.1),(bM none 1 aj r.2.2.2.2.2.2.2.2.1),(bM none 1 aj r.2.2.2.2.2.2.2.2.2.1),(bM none 1 aj r.2.2.2.2.2.2.2.2.2.2.1)] 0),(Da [(bM none 1 aj r.2.2.2.2.2.2.2.2.2.2.2)] 0)])))) (fun _=>[]) (nR p s_ u0):=
  gJ tT mX Tryz.func95 (
  .rg {fr:=[(0,3),(1,4),(2,5)],fz:=[3,4,5]} []<| .r<| .e (p.buses,p.sources,p.links,p.racks,s_.closed,s_.locked,s_.badLink,s_.on_,s_.badSource,s_.earthed,s_.badBus,u0))
def fH  :(aA × (List Bool) × Int)→Exit→St→Prop:=
  fun r=>J3 TT [.cell 4 80, .tmp 5, .tmp 6] (.iV [(.agg [(.own 0 false r.1.sources.length),(.own 1 false r.1.links.length),(.own 2 false r.1.racks.length)]),(.one (.own 3 false r.2.1.length)),(sI r.2.2)]) [(0,some (bZ 3 1 (aG .i64) r.1.sources)),(1,some (bZ 3 1 (aG .i64) r.1.links)),(2,some (bZ 69 2 af.cell r.1.racks)),(3,some (bZ 4 1 aj r.2.1)),(4,none)]
section
variable (s_:State) (p:ah) (u1:Int) (n1:(List (List Int))) (n0:(List bg)) (u0:(List (Int × Int)))
abbrev uE:Nat × TV:=(11,(.v (.one (.mp 77))))
abbrev qP:Nat × TV:=(12,(.v (.one (.mp 78))))
abbrev pF:Nat × TV:=(13,(.v (.one (.mp 79))))
abbrev adT:List (Nat × TV):=[(2,(vP 63 0)),(gI s_),(4,(vP 65 0)),(iQ p),(9,(vP 71 0)),(10,(vP 76 0)),uE,qP,pF,(Ae p),(Am p),(68,(vI u1))]
abbrev TG:Nat × Option Ob:=(70,some (.rows 35 1 n1.length (xC sG n1) none))
abbrev UG:Nat × Option Ob:=(71,some (.cells 151 [(.own 72 false n0.length),(.own 70 true n1.length)]))
abbrev MS:Nat × Option Ob:=(72,some (bZ 157 2 bg.cell n0))
abbrev Xb:Nat × Option Ob:=(73,some (abN p))
abbrev Mq:Nat × Option Ob:=(74,some (abg p))
abbrev KF:Nat × Option Ob:=(75,some (aa4 p))
abbrev V8:Nat × Option Ob:=(76,some (.cells 80 [(.own 73 true (aa8 p)),(.own 74 true (SB p)),(.own 75 true (LU p))]))
abbrev DC:Nat × Option Ob:=(77,some (TN u0))
abbrev WJ:Nat × Option Ob:=(78,some Sr)
abbrev Mi:Nat × Option Ob:=(79,some aag)
abbrev S9:List (Nat × Option Ob):=[(zF p),bX,(TG n1),(UG n1 n0),(MS n0),(Xb p),(Mq p),(KF p),(V8 p),(DC u0),WJ,Mi]
end
def vX (p:ah) (s_:State):((List bg) × (List (List Int)) × (List (Int × Int)) × Int)→St:=
  fun zz=>match zz with|(n0,n1,u0,u1)=> ⟨(adT s_ p u1),(S9 p n1 n0 u0)⟩
section
variable (s_:State) (p:ah) (x0:(List Int)) (p1:(List Source)) (u0:(List (List Int))) (u1:(List bg)) (u2:(List (Int × Int)))
abbrev Wz:List (Nat × TV):=[(2,(vP 63 0)),(gI s_),(4,(vP 65 0)),(iQ p),(9,(vP 71 0)),(10,(vP 76 0)),uE,qP,pF]
abbrev nP:Nat × Option Ob:=(73,some (F7 x0))
abbrev Xw:Nat × Option Ob:=(76,some (.cells 80 [(.own 73 true x0.length),(.own 74 true (SB p)),(.own 75 true (LU p))]))
abbrev afH:List (Nat × Option Ob):=[(OC p p1),bX,(TG u0),(UG u0 u1),(MS u1),(nP x0),(Mq p),(KF p),(Xw p x0),(DC u2),WJ,Mi]
end
def wF (p:ah) (s_:State):((List Source) × (List bg) × (List (List Int)) × (List Int) × (List (Int × Int)))→St:=
  fun zz=>match zz with|(p1,u1,u0,x0,u2)=> ⟨(Wz s_ p),(afH p x0 p1 u0 u1 u2)⟩
def Cv (p:ah) (s_:State):(aM ((List bg) × (List (List Int)) × (List (Int × Int)) × Int) (Ex ((List Source) × (List bg) × (List (List Int)) × (List Int) × (List (Int × Int))) (aA × (List Bool) × Int)))→Exit→St→Prop:=
  LQ 0 [] (vX p s_) (wF p s_) fH
section
variable (s_:State) (p:ah) (u4:Int) (u3:(List (Int × Int))) (p1:(List Source)) (u0:(List (List Int))) (u1:(List bg)) (x0:(List Int)) (u2:(List (Int × Int)))
abbrev ac8:List (Nat × TV):=[(2,(vP 63 0)),(gI s_),(4,(vP 65 0)),(iQ p),(9,(vP 71 0)),(10,(vP 76 0)),uE,qP,pF,(Ai p),(Aa p),(90,(vI u4))]
abbrev CF:Nat × Option Ob:=(78,some (TN u3))
abbrev Tt:List (Nat × Option Ob):=[(OC p p1),bX,(TG u0),(UG u0 u1),(MS u1),(nP x0),(Mq p),(KF p),(Xw p x0),(DC u2),(CF u3),Mi]
end
def vH (p:ah) (s_:State) (p1:(List Source)) (x0:(List Int)) (u2:(List (Int × Int))):((List bg) × (List (List Int)) × (List (Int × Int)) × Int)→St:=
  fun zz=>match zz with|(u1,u0,u3,u4)=> ⟨(ac8 s_ p u4),(Tt p u3 p1 u0 u1 x0 u2)⟩
section
variable (x1:(List Int)) (p:ah) (p1:(List Source)) (p2:(List Link)) (u0:(List (List Int))) (u1:(List bg)) (x0:(List Int)) (u2:(List (Int × Int))) (u3:(List (Int × Int)))
abbrev qg:Nat × Option Ob:=(74,some (F7 x1))
abbrev acI:List (Nat × Option Ob):=[(ae2 p p1 p2),bX,(TG u0),(UG u0 u1),(MS u1),(nP x0),(qg x1),(KF p),(76,some (.cells 80 [(.own 73 true x0.length),(.own 74 true x1.length),(.own 75 true (LU p))])),(DC u2),(CF u3),Mi]
end
def vF (p:ah) (s_:State) (p1:(List Source)) (x0:(List Int)) (u2:(List (Int × Int))):((List Link) × (List bg) × (List (List Int)) × (List Int) × (List (Int × Int)))→St:=
  fun zz=>match zz with|(p2,u1,u0,x1,u3)=> ⟨(Wz s_ p),(acI x1 p p1 p2 u0 u1 x0 u2 u3)⟩
def CW (p:ah) (s_:State) (p1:(List Source)) (x0:(List Int)) (u0:(List (Int × Int))):(aM ((List bg) × (List (List Int)) × (List (Int × Int)) × Int) (Ex ((List Link) × (List bg) × (List (List Int)) × (List Int) × (List (Int × Int))) (aA × (List Bool) × Int)))→Exit→St→Prop:=
  LQ 2 [] (vH p s_ p1 x0 u0) (vF p s_ p1 x0 u0) fH
section
variable (s_:State) (u4:Int) (u6:(List aC)) (u7:Int) (u8:Int) (x2:(List af)) (x0:(List Int)) (x1:(List Int)) (u5:(List (af × Int))) (p:ah) (p1:(List Source)) (p2:(List Link)) (p3:(List aC)) (u0:(List (List Int))) (u1:(List bg)) (u2:(List (Int × Int))) (u3:(List (Int × Int)))
abbrev ad8:List (Nat × TV):=[(2,(vP 63 0)),(gI s_),(4,(vP 65 0)),(8,(vI u4)),(9,(vP 71 0)),(10,(vP 76 0)),uE,qP,pF,(qG u6),(116,(vI u7)),(117,(vI u8))]
abbrev rY:Nat × Option Ob:=(75,some (WQ x2))
abbrev tJ:Nat × Option Ob:=(76,some (.cells 80 [(.own 73 true x0.length),(.own 74 true x1.length),(.own 75 true x2.length)]))
abbrev EI:Nat × Option Ob:=(79,some (aaH u5))
abbrev WY:List (Nat × Option Ob):=[(eG p p1 p2 p3),bX,(TG u0),(UG u0 u1),(MS u1),(nP x0),(qg x1),(rY x2),(tJ x2 x0 x1),(DC u2),(CF u3),(EI u5)]
end
def vN (p:ah) (s_:State) (p1:(List Source)) (x0:(List Int)) (u2:(List (Int × Int))) (p2:(List Link)) (x1:(List Int)) (u3:(List (Int × Int))):((List aC) × Int × (List bg) × (List (List Int)) × (List af) × (List (af × Int)) × (List aC) × Int × Int)→St:=
  fun zz=>match zz with|(p3,u4,u1,u0,x2,u5,u6,u7,u8)=> ⟨(ad8 s_ u4 u6 u7 u8),(WY x2 x0 x1 u5 p p1 p2 p3 u0 u1 u2 u3)⟩
section
variable (u6:Int) (p:ah) (p1:(List Source)) (p2:(List Link)) (u5:(List aC)) (u0:(List (List Int))) (u1:(List bg)) (x0:(List Int)) (x1:(List Int)) (u2:(List af)) (u3:(List (Int × Int))) (u4:(List (Int × Int))) (u7:(List (af × Int)))
abbrev aa6:List (Nat × TV):=[(2,(vP 63 0)),(4,(vP 65 0)),(8,(vI u6)),(9,(vP 71 0)),(10,(vP 76 0)),uE,qP,pF]
abbrev adG:St:=⟨(aa6 u6),(WY u2 x0 x1 u7 p p1 p2 u5 u0 u1 u3 u4)⟩
end
def wu (p:ah) (p1:(List Source)) (x0:(List Int)) (u3:(List (Int × Int))) (p2:(List Link)) (x1:(List Int)) (u4:(List (Int × Int))):((List aC) × Int × (List bg) × (List (List Int)) × (List af) × (List (af × Int)))→St:=
  fun zz=>match zz with|(u5,u6,u1,u0,u2,u7)=>(adG u6 p p1 p2 u5 u0 u1 x0 x1 u2 u3 u4 u7)
def qp (p:ah) (s_:State) (p1:(List Source)) (x0:(List Int)) (u0:(List (Int × Int))) (p2:(List Link)) (x1:(List Int)) (u1:(List (Int × Int))):(aM ((List aC) × Int × (List bg) × (List (List Int)) × (List af) × (List (af × Int)) × (List aC) × Int × Int) (Ex ((List aC) × Int × (List bg) × (List (List Int)) × (List af) × (List (af × Int))) (aA × (List Bool) × Int)))→Exit→St→Prop:=
  LQ 4 [] (vN p s_ p1 x0 u0 p2 x1 u1) (wu p p1 x0 u0 p2 x1 u1) fH
section
variable (s_:State) (u6:Int) (u0:Int) (u1:(List aC)) (u7:Int) (u9:Int) (p:ah) (p1:(List Source)) (p2:(List Link)) (p3:(List aC)) (u2:(List (List Int))) (u3:(List bg)) (x0:(List Int)) (x1:(List Int)) (x2:(List af)) (u4:(List (Int × Int))) (u5:(List (Int × Int))) (u8:(List (af × Int)))
abbrev aez:List (Nat × TV):=[(2,(vP 63 0)),(gI s_),(4,(vP 65 0)),(8,(vI u6)),(9,(vP 71 0)),(10,(vP 76 0)),uE,qP,pF,(18,(vI u0)),(xD u1 u0),(qG u1),(116,(vI u7)),(117,(vI u0)),(Ag u1 u0),(134,(vI u9))]
abbrev Rj:List (Nat × Option Ob):=[(eG p p1 p2 p3),bX,(TG u2),(71,some (.cells 151 [(.own 115 false u3.length),(.own 70 true u2.length)])),(nP x0),(qg x1),(rY x2),(tJ x2 x0 x1),(DC u4),(CF u5),(EI u8),(115,some (bZ 157 2 bg.cell u3))]
end
def wQ (p:ah) (s_:State) (p1:(List Source)) (x0:(List Int)) (u4:(List (Int × Int))) (p2:(List Link)) (x1:(List Int)) (u5:(List (Int × Int))) (p3:(List aC)) (u6:Int) (x2:(List af)) (u1:(List aC)) (u7:Int) (u0:Int):((List bg) × (List (List Int)) × (List (af × Int)) × Int)→St:=
  fun zz=>match zz with|(u3,u2,u8,u9)=> ⟨(aez s_ u6 u0 u1 u7 u9),(Rj p p1 p2 p3 u2 u3 x0 x1 x2 u4 u5 u8)⟩
section
variable (s_:State) (u4:Int) (u5:(List aC)) (u6:Int) (u7:Int) (p:ah) (p1:(List Source)) (p2:(List Link)) (p3:(List aC)) (u0:(List (List Int))) (u1:(List bg)) (x0:(List Int)) (x1:(List Int)) (x2:(List af)) (u2:(List (Int × Int))) (u3:(List (Int × Int))) (u8:(List (af × Int)))
abbrev acQ:St:=⟨(ad8 s_ u4 u5 u6 u7),(Rj p p1 p2 p3 u0 u1 x0 x1 x2 u2 u3 u8)⟩
end
def vJ (p:ah) (s_:State) (p1:(List Source)) (x0:(List Int)) (u2:(List (Int × Int))) (p2:(List Link)) (x1:(List Int)) (u3:(List (Int × Int))) (p3:(List aC)) (u4:Int) (x2:(List af)) (u5:(List aC)) (u6:Int) (u7:Int):((List bg) × (List (List Int)) × (List (af × Int)))→St:=
  fun zz=>match zz with|(u1,u0,u8)=>(acQ s_ u4 u5 u6 u7 p p1 p2 p3 u0 u1 x0 x1 x2 u2 u3 u8)
def DR (p:ah) (s_:State) (p1:(List Source)) (x0:(List Int)) (u0:(List (Int × Int))) (p2:(List Link)) (x1:(List Int)) (u1:(List (Int × Int))) (p3:(List aC)) (u2:Int) (x2:(List af)) (u3:(List aC)) (u4:Int) (u5:Int):(aM ((List bg) × (List (List Int)) × (List (af × Int)) × Int) (Ex ((List bg) × (List (List Int)) × (List (af × Int))) (aM ((List aC) × Int × (List bg) × (List (List Int)) × (List af) × (List (af × Int)) × (List aC) × Int × Int) (Ex ((List aC) × Int × (List bg) × (List (List Int)) × (List af) × (List (af × Int))) (aA × (List Bool) × Int)))))→Exit→St→Prop:=
  LQ 6 [5] (wQ p s_ p1 x0 u0 p2 x1 u1 p3 u2 x2 u3 u4 u5) (vJ p s_ p1 x0 u0 p2 x1 u1 p3 u2 x2 u3 u4 u5) (qp p s_ p1 x0 u0 p2 x1 u1)
section
variable (u0:Network) (p:ah) (p1:(List Source)) (p2:(List Link)) (u4:(List aC)) (u2:(List Int)) (x1:(List Int)) (u1:(List af)) (u3:(List (Int × Int))) (u5:(List (af × Int)))
abbrev abL:List (Nat × TV):=[(2,(vP 63 0)),(4,(vP 65 0)),(9,(vP 71 0)),(10,(vP 76 0)),qP,pF,(162,(vP 120 0))]
abbrev yc:Nat × Option Ob:=(71,some (.cells 151 [(.own 72 false u0.arcs.length),(.d (Xd u0))]))
abbrev yS:Nat × Option Ob:=(72,some (Zh u0))
abbrev adX:List (Nat × Option Ob):=[(eG p p1 p2 u4),bX,(yc u0),(yS u0),(nP u2),(qg x1),(rY u1),(tJ u1 u2 x1),(CF u3),(EI u5),(120,none)]
abbrev aeM:St:=⟨abL,(adX u0 p p1 p2 u4 u2 x1 u1 u3 u5)⟩
end
def Dt (p:ah) (p1:(List Source)) (p2:(List Link)) (x1:(List Int)) (u3:(List (Int × Int))) (u4:(List aC)) (u1:(List af)) (u5:(List (af × Int))) (u0:Network):(List Int)→St:=
  fun u2=>(aeM u0 p p1 p2 u4 u2 x1 u1 u3 u5)
section
variable (p:ah) (p1:(List Source)) (p2:(List Link)) (u4:(List aC)) (u0:Network) (u2:(List Int)) (u3:(List Int)) (u1:(List af)) (u5:(List (af × Int)))
abbrev aax:List (Nat × TV):=[(2,(vP 63 0)),(4,(vP 65 0)),(9,(vP 71 0)),(10,(vP 76 0)),pF,(182,(vP 121 0))]
abbrev ad5:List (Nat × Option Ob):=[(eG p p1 p2 u4),bX,(yc u0),(yS u0),(nP u2),(qg u3),(rY u1),(tJ u1 u2 u3),(EI u5),(121,none)]
abbrev aen:St:=⟨aax,(ad5 p p1 p2 u4 u0 u2 u3 u1 u5)⟩
end
def CU (p:ah) (p1:(List Source)) (p2:(List Link)) (u4:(List aC)) (u1:(List af)) (u5:(List (af × Int))) (u0:Network) (u2:(List Int)):(List Int)→St:=
  fun u3=>(aen p p1 p2 u4 u0 u2 u3 u1 u5)
section
variable (p:ah) (p1:(List Source)) (p2:(List Link)) (u4:(List aC)) (u0:Network) (u1:(List Int)) (u2:(List Int)) (u3:(List af))
abbrev VF:List (Nat × TV):=[(2,(vP 63 0)),(4,(vP 65 0)),(9,(vP 71 0)),(10,(vP 76 0)),(208,(vP 122 0))]
abbrev adw:St:=⟨VF,[(eG p p1 p2 u4),bX,(yc u0),(yS u0),(nP u1),(qg u2),(rY u3),(tJ u3 u1 u2),(122,none)]⟩
end
def Dy (p:ah) (p1:(List Source)) (p2:(List Link)) (u4:(List aC)) (u0:Network) (u1:(List Int)) (u2:(List Int)):(List af)→St:=
  fun u3=>(adw p p1 p2 u4 u0 u1 u2 u3)
end
end Sg
