import Derived.Test.YtpndenfhglaikaaGreatW0
set_option linter.all false
namespace Sg
open Go Go.Proofs
set_option maxRecDepth 20000
noncomputable section
section
variable (p:ah) (s_:State) (r_:Int) (v0:Int) (v4:(Int × Network)) (v8:(List (Int × Int))) (u7:Int) (p1:(List Source)) (v5:(Int × Network)) (x0:(List Int)) (u4:(List (Int × Int))) (v9:(List (Int × Int))) (v7:Int) (u0:Int) (u2:(List aD)) (w0:Int) (x4:(Int × Network)) (p2:(List Link)) (p3:(List aD)) (x1:(List Int)) (x2:(List af)) (u5:(List (Int × Int))) (ua:(List (af × Int))) (v3:Int) (v6:(Int × Network)) (w9:(List bg)) (x6:(List (List Int))) (u1:Network) (i:Nat) (w5:(List Int)) (i1:Nat) (w6:(List Int)) (u3:(List (af × Int))) (i2:Nat) (u9:(List af)) (u6:(List Int))
abbrev Y4:List (Nat × Option Ob):=[(y9 p),bY]
abbrev ac6:St:=⟨[(2,(vP 63 0)),(gH s_),(4,(vP 65 0))],(Y4 p)⟩
abbrev aeS:St:=⟨[(2,(vP 63 0)),(gH s_),(4,(vP 65 0)),(7,(vI r_))],(Y4 p)⟩
abbrev ada:St:=⟨[(2,(vP 63 0)),(gH s_),(4,(vP 65 0)),(7,(vI r_)),(34,(vB (!decide (r_=0))))],(Y4 p)⟩
abbrev YH:DV:=(bM none 1 (aG .i64) ([]:List Int))
abbrev aer:St:=⟨[(2,(vP 63 0)),(gH s_),(4,(vP 65 0)),(iV p)],(Y4 p)⟩
abbrev YV:List (Nat × TV):=[(2,(vP 63 0)),(gH s_),(4,(vP 65 0)),(iV p),(9,(vP 67 0))]
abbrev Vw:=(IntKind.wrap .i64 ((IntKind.wrap .i64 ((IntKind.wrap .i64 ((1:Int)+p.buses))+(p.racks.length:Int)))+1))
abbrev QG:=((Vw p).toNat)
abbrev yo:=(List.replicate (QG p) (([]:List Int):(List Int)))
abbrev Mh:=((yo p).length)
abbrev afL:List CV:=[(.d nS),(.own 66 true (Mh p))]
abbrev aex:Nat × Option Ob:=(67,some (.cells 151 (afL p)))
abbrev ZH:=((Vw p):Int)
abbrev aaO:=(xQ sM (yo p))
abbrev WK:Nat × Option Ob:=(66,some (.rows 35 1 (yo p).length (aaO p) none))
abbrev ZM:Nat × Option Ob:=(67,some (.cells 151 [(.own 68 false (([]:List bg).length)),(.own 66 true (Mh p))]))
abbrev aaD:Nat × Option Ob:=(68,some (bZ 157 2 bg.cell ([]:List bg)))
abbrev QA:=((p.sources.length:Int):Int)
abbrev Tp:=(au (aG .i64) (Ng p))
abbrev Sk:=((p.links.length:Int):Int)
abbrev J9:=(au (aG .i64) (CY p))
abbrev Ta:=(au af.cell (Mc p))
abbrev ac4:List (Nat × Option Ob):=[(y9 p),bY,(WK p),(ZM p),aaD,(UY p),(MV p),(Ka p),(V3 p),(73,some Tq),UK,Nr]
abbrev UD:=((at' p.sources v0.toNat).power)
abbrev Tz:Nat × TV:=(15,(vD (CR [(.int .i64 (UH p v0)),(.int .i64 ((at' p.sources v0.toNat).kind)),(.int .i64 (UD p v0)),(.int .i64 ((at' p.sources v0.toNat).sync)),(.int .i64 ((at' p.sources v0.toNat).bJ))] 0)))
abbrev aa5:=(IntKind.wrap .i64 ((1:Int)+(UH p v0)))
abbrev OU:Nat × Option Ob:=(66,some (.rows 35 1 v4.2.from_.length (xQ sM v4.2.from_) none))
abbrev G5:Ob:=(Ry 3 3 false false 1 1 (aG .i64) (aG .i64) (gJ J4 v0 v4.1 v8))
abbrev xU:Ob:=(bZ 157 2 bg.cell v4.2.arcs)
abbrev acD:List (Nat × Option Ob):=[(y9 p),bY,(OU v4),(67,some (.cells 151 [(.own 83 false v4.2.arcs.length),(.own 66 true v4.2.from_.length)])),(UY p),(MV p),(Ka p),(V3 p),(73,some (G5 v0 v4 v8)),UK,Nr,(83,some (xU v4))]
abbrev G7:=(yg (aG .i64) (gJ J4 v0 v4.1 v8))
abbrev GZ:=(yc (aG .i64) (gJ J4 v0 v4.1 v8))
abbrev aar:List (Nat × TV):=[(2,(vP 63 0)),(gH s_),(4,(vP 65 0)),(iV p),(9,(vP 67 0)),(10,(vP 72 0)),uG,qX,pI,(Ah p),(Ag p),(68,(vI (k4 v0)))]
abbrev afX:Nat × Option Ob:=(67,some (.cells 151 [(.own 68 false v4.2.arcs.length),(.own 66 true v4.2.from_.length)]))
abbrev IW:=((at' p.links u7.toNat).most)
abbrev Tj:Nat × TV:=(17,(vD (CR [(.int .i64 (VE u7 p)),(.int .i64 (Xm u7 p)),(.int .i64 ((at' p.links u7.toNat).kind)),(.int .i64 (IW p u7)),(.int .i64 ((at' p.links u7.toNat).bJ)),(bM none 2 gD.cell ((at' p.links u7.toNat).trip))] 0)))
abbrev Z0:=(IntKind.wrap .i64 ((1:Int)+(VE u7 p)))
abbrev abO:=(IntKind.wrap .i64 ((1:Int)+(Xm u7 p)))
abbrev ac3:List (Nat × Option Ob):=[(N8 p p1),bY,(OU v5),(67,some (.cells 151 [(.own 91 false v5.2.arcs.length),(.own 66 true v5.2.from_.length)])),(nZ x0),(MV p),(Ka p),(Yt p x0),(DF u4),(74,some (G5 u7 v5 v9)),Nr,(91,some (xU v5))]
abbrev ZQ:List (Nat × TV):=[(2,(vP 63 0)),(gH s_),(4,(vP 65 0)),(iV p),(9,(vP 67 0)),(10,(vP 72 0)),uG,qX,pI,(Ap p),(Af p),(90,(vI (k4 u7)))]
abbrev af6:List (Nat × TV):=[(2,(vP 63 0)),(gH s_),(4,(vP 65 0)),(8,(vI v7)),(9,(vP 67 0)),(10,(vP 72 0)),uG,qX,pI,(18,(vI u0)),(xJ u2 u0),(qI u2),(116,(vI w0)),(117,(vI u0))]
abbrev Ur:=(IntKind.wrap .i64 ((IntKind.wrap .i64 ((1:Int)+p.buses))+u0))
abbrev agh:Nat × Option Ob:=(67,some (.cells 151 [(.own 111 false x4.2.arcs.length),(.own 66 true x4.2.from_.length)]))
abbrev acf:List (Nat × Option Ob):=[(eO p p1 p2 p3),bY,(OU x4),(agh x4),(nZ x0),(qH x1),(sU x2),(sZ x2 x0 x1),(DF u4),(Dm u5),(Eh ua),(111,some (xU x4))]
abbrev Qi:=(at' [(k28 u2 u0).e0,(k28 u2 u0).e1] v3.toNat)
abbrev Ub:Nat × TV:=(21,(vI (Qi u0 u2 v3)))
abbrev TQ:List DV:=[(.int .i64 (Qi u0 u2 v3))]
abbrev aaR:=(IntKind.wrap .i64 ((1:Int)+(Qi u0 u2 v3)))
abbrev afT:Nat × Option Ob:=(67,some (.cells 151 [(.own 115 false v6.2.arcs.length),(.own 66 true v6.2.from_.length)]))
abbrev YM:Nat × Option Ob:=(115,some (xU v6))
abbrev Tw:List DV:=[(.int .i64 u0),(.int .i64 v3)]
abbrev abB:List (Nat × TV):=[(2,(vP 63 0)),(gH s_),(4,(vP 65 0)),(8,(vI v7)),(9,(vP 67 0)),(10,(vP 72 0)),uG,qX,pI,(18,(vI u0)),(xJ u2 u0),(qI u2),(116,(vI w0)),(117,(vI u0)),(Ae u2 u0),(134,(vI (k4 v3)))]
abbrev afF:List (Nat × TV):=[(2,(vP 63 0)),(gH s_),(4,(vP 65 0)),(8,(vI v7)),(9,(vP 67 0)),(10,(vP 72 0)),uG,qX,pI,(qI u2),(116,(vI w0)),(117,(vI (k4 u0)))]
abbrev afi:Nat × Option Ob:=(67,some (.cells 151 [(.own 68 false w9.length),(.d (bM (some true) 1 (UO 1 (aG .i64)) x6))]))
abbrev aeW:List (Nat × Option Ob):=[(afi w9 x6),(Mt w9)]
abbrev ad7:List (Nat × Option Ob):=[(yM u1),(yE u1)]
abbrev Az:=(at' (u4.map Prod.fst) i)
abbrev Ez:=(at' (u4.map Prod.snd) i)
abbrev afm:=((at' u1.arcs ((IntKind.wrap .i64 (((BitVec.ofInt (IntKind.bits .i64) (Ez u4 i) ^^^ BitVec.ofInt (IntKind.bits .i64) 1).toNat:Int))).toNat)).left)
abbrev ZK:=(w5.set ((Az u4 i).toNat) (afm u4 u1 i))
abbrev LP:=(au (aG .i64) (ZK u4 u1 i w5))
abbrev aby:=(fe (au (aG .i64) w5) ((Az u4 i).toNat) 0 [(.int .i64 (afm u4 u1 i))])
abbrev abh:Ob:=(bZ 3 1 (aG .i64) (ZK u4 u1 i w5))
abbrev ZI:=((ZK u4 u1 i w5).length)
abbrev ad1:=(IntKind.wrap .i64 (((at' p2 ((Az u5 i1).toNat)).most) - ((at' u1.arcs ((Ez u5 i1).toNat)).left)))
abbrev abN:=(w6.set ((Az u5 i1).toNat) (ad1 p2 u5 u1 i1))
abbrev Me:=(au (aG .i64) (abN p2 u5 u1 i1 w6))
abbrev abb:=(fe (au (aG .i64) w6) ((Az u5 i1).toNat) 0 [(.int .i64 (ad1 p2 u5 u1 i1))])
abbrev aas:Ob:=(bZ 3 1 (aG .i64) (abN p2 u5 u1 i1 w6))
abbrev abg:=((abN p2 u5 u1 i1 w6).length)
abbrev XF:List CV:=[(cI ((at' (u3.map Prod.fst) i2).e0)),(cI ((at' (u3.map Prod.fst) i2).e1))]
abbrev abX:List (Nat × TV):=[(2,(vP 63 0)),(4,(vP 65 0)),(9,(vP 67 0)),(10,(vP 72 0)),(26,(vP 121 0)),(27,(vI (at' (u3.map Prod.snd) i2))),(208,(vP 118 0))]
abbrev ZU:Ob:=(.cells 69 (XF u3 i2))
abbrev aav:Ob:=(.cells 69 [(cI ((at' (u3.map Prod.fst) i2).e0)),(cI 0)])
abbrev Sy:=(((at' (u3.map Prod.fst) i2).e0).toNat)
abbrev abz:=(at' u1.arcs ((IntKind.wrap .i64 (((BitVec.ofInt (IntKind.bits .i64) (at' (u3.map Prod.snd) i2) ^^^ BitVec.ofInt (IntKind.bits .i64) 1).toNat:Int))).toNat))
abbrev ZF:=(u9.set (Sy u3 i2) (⟨(abz u1 u3 i2).left,(at' u9 (Sy u3 i2)).e1⟩:af))
abbrev Nw:=(au af.cell (ZF u1 u3 i2 u9))
abbrev ae2:List DV:=[(.int .i64 ((abz u1 u3 i2).left))]
abbrev aa1:=(fe (au af.cell u9) (Sy u3 i2) 0 (ae2 u1 u3 i2))
abbrev Z8:Ob:=(bZ 69 2 af.cell (ZF u1 u3 i2 u9))
abbrev Zz:=((ZF u1 u3 i2 u9).length)
abbrev abr:Ob:=(.cells 69 [(cI ((at' (u3.map Prod.fst) i2).e0)),(cI 1)])
abbrev aax:=(u9.set (Sy u3 i2) (⟨(at' u9 (Sy u3 i2)).e0,(abz u1 u3 i2).left⟩:af))
abbrev Mr:=(au af.cell (aax u1 u3 i2 u9))
abbrev abS:=(fe (au af.cell u9) (Sy u3 i2) 1 (ae2 u1 u3 i2))
abbrev ZE:Ob:=(bZ 69 2 af.cell (aax u1 u3 i2 u9))
abbrev ZP:=((aax u1 u3 i2 u9).length)
abbrev rY:=(List.replicate p.buses.toNat (false:Bool))
abbrev ZT:Ob:=(bZ 4 1 aj (rY p))
abbrev Vz:Nat × Option Ob:=(122,some (ZT p))
abbrev UZ:=((rY p).length)
abbrev Vl:Nat × Option Ob:=(123,some (.cells 27 [(.own 122 true (UZ p))]))
abbrev BR:=(au aj (rY p))
abbrev afR:List (Nat × TV):=[(2,(vP 63 0)),(4,(vP 65 0)),(10,(vP 72 0)),(28,(vP 123 0)),(235,(.v (.one (.fn 103 0 1 (Mv [(.ptr 124 0)])))))]
abbrev ZA:Ob:=(.cells 151 [(.d (bM none 2 bg.cell u1.arcs)),(.d (Xo u1))])
abbrev ab0:Ob:=(.cells 147 [(.d (CR [(bM none 2 bg.cell u1.arcs),(Xo u1)] 0))])
abbrev WX:DV:=(CR [(CR [(bM none 2 bg.cell u1.arcs),(Xo u1)] 0)] 0)
abbrev Yc:TV:=(vD (.fn 103 1 (yY [(WX u1)])))
abbrev aaS:Nat × TV:=(235,(Yc u1))
abbrev ado:List (Nat × TV):=[(2,(vP 63 0)),(4,(vP 65 0)),(10,(vP 72 0)),(28,(vP 123 0)),(aaS u1)]
abbrev abM:List CV:=[(.d (WX u1))]
abbrev yV:DV:=(bM none 1 (aG .i64) u6)
end
theorem zX (p:ah) (s_:State) {r:(aA × (List Bool) × Int)} (h:bN p s_=some r):Fn Tryz.prog 27 (WQ p s_) [] (.iP [(.agg [(.d (bM none 1 (aG .i64) r.1.sources)),(.d (bM none 1 (aG .i64) r.1.links)),(.d (bM none 2 af.cell r.1.racks))]),(sD (bM none 1 aj r.2.1)),(sI r.2.2)]) []:=by
 refine fN tT Tryz.func27 rfl rfl fun B=> ?_
 show jE _ _ _ _ _ _ (jo r) _
 unfold bN at h
 refine sz tT (ac6 p s_) {fr:=[(0,63),(1,64),(2,65)] } [64] ?_
 refine aQ (aQ (bE h fun r_ hr_ h=> ?_))
 have q0:=eT p s_ hr_
 refine rg tT (aeS p s_ r_) [_] {an:=[(2,cA q0 [])] } [] ⟨q0,trivial⟩ ?_
 refine sz tT (ada p s_ r_) {} [] ?_
 refine bI h (fun hb9 h=> ?_) (fun hb9 h=> ?_)
 ·refine ct hb9 ?_
  refine sz tT ⟨[(4,(vD (CR [nS,nS,nS] 0))),(5,(vD nS)),(6,(vI r_))],[]⟩ {} [65] ?_
  refine aI (d9.le (st':=⟨[(4,(vD (CR [YH,YH,(bM none 2 af.cell ([]:List af))] 0))),(5,(vD (bM none 1 aj ([]:List Bool)))),(6,(vI r_))],[]⟩) ⟨⟨⟨_,rfl,zu.v (uI.one (gV.d (UN ⟨jL.nil',jL.nil',jL.nil',trivial⟩)))⟩,⟨_,rfl,zu.v (uI.one (gV.d jL.nil'))⟩,tR,trivial⟩,trivial⟩) ?_
  refine aR ?_
  obtain rfl:=oi h
  exact rl [(.agg [(.d YH),(.d YH),(.d (bM none 2 af.cell ([]:List af)))]),(sD (bM none 1 aj ([]:List Bool))),(sI r_)]
 ·refine cf hb9 ?_
  refine aP (sz tT (aer p s_) {} [] ?_)
  refine aQ (aO h fun⟨a1,a2,a3⟩ h=> ?_)
  refine ri tT ⟨(YV p s_),[(y9 p),bY,(66,some (.arr 35 1 (yo p).length (fun _ j=>[nS].getD j .nilp))),(aex p)]⟩ [_,(ZH p)=(Vw p),_,_,(yo p).length=(QG p),aC (QG p) 1 (fun _ j=>[nS].getD j .nilp) (fun _ j=>[nS].getD j .nilp)] {an:=[(2, .arr (yo p).length (fun _ j=>[nS].getD j .nilp))],fr:=[(2,66),(4,67)] } [] ⟨a1,rfl,a2,a3,(List.length_replicate),(fI _ _ _),trivial⟩ (.trans (d9.M7 (b:=66) (E:=35) (esz:=1) (len:=(yo p).length) (el:=(fun _ j=>[nS].getD j .nilp)) (el':=xQ sM (yo p)) (by kernel_rfl) (fun i hi j hj=>match j,hj with|0,_=>Ju _ _ _ _ _ _ _ _)) (.trans (fz ⟨(YV p s_),[(y9 p),bY,(WK p),(aex p)]⟩ []) (.trans (d9.xY (E:=0) (esz:=0) (E0:=151) (cs:=(afL p)) (p:=67) (q:=0) (b:=68) (esz0:=0) (el0:=fun _ _=> .nilp) (ob:= .arr 157 2 0 (au bg.cell ([]:List bg))) (fun _ _ _ _ h=> .inl ⟨h,rfl⟩) (by kernel_rfl) (by kernel_rfl) (by kernel_rfl)) (.trans (fz ⟨(YV p s_),[(y9 p),bY,(WK p),(67,some (.cells 151 [(.own 68 false 0),(.own 66 true (Mh p))])),(68,some (.arr 157 2 0 (au bg.cell ([]:List bg))))]⟩ []) (d9.le (st':=⟨(YV p s_),[(y9 p),bY,(WK p),(ZM p),aaD]⟩) ⟨⟨tR,tR,tR,tR,tR,trivial⟩,(hN 3 ⟨rfl,bH ⟨cW,gV.refl _,trivial⟩,⟨rfl,oW,trivial⟩⟩)⟩))))) ?_
  refine aQ (aO h fun⟨a1,a2,a3,a4,a5,a6,a7,a8,a9⟩ h=> ?_)
  refine dg tT mX ⟨[(2,(vP 63 0)),(gH s_),(4,(vP 65 0)),(iV p),(9,(vP 67 0)),(10,(vP 72 0))],[(y9 p),bY,(WK p),(ZM p),aaD,(UY p),(MV p),(Ka p),(V3 p)]⟩ [_,(QA p)=(p.sources.length:Int),_,_,(Ng p).length=(GN p),aC (GN p) 1 (fun _ j=>[(.int .i64 0)].getD j .nilp) (Tp p),_,(Sk p)=(p.links.length:Int),_,_,(CY p).length=(yP p),aC (yP p) 1 (fun _ j=>[(.int .i64 0)].getD j .nilp) (J9 p),_,((p.racks.length:Int):Int)=(p.racks.length:Int),_,_,(Mc p).length=(QK p),aC (QK p) 2 (fun _ j=>[(.int .i64 0),(.int .i64 0)].getD j .nilp) (Ta p)] {an:=[(3, .arr (Ng p).length (Tp p)),(7, .arr (CY p).length (J9 p)),(11, .arr (Mc p).length (Ta p))],fr:=[(3,69),(7,70),(11,71),(13,72)] } [] ⟨a1,rfl,a2,a3,(List.length_replicate),(aW _ _ _ _ _ (fun j hj=>(match j,hj with|0,_=>rfl))),a4,rfl,a5,a6,(List.length_replicate),(aW _ _ _ _ _ (fun j hj=>(match j,hj with|0,_=>rfl))),a7,rfl,a8,a9,(List.length_replicate),(aW _ _ _ _ _ (fun j hj=>(match j,hj with|0,_=>rfl|1,_=>rfl))),trivial⟩ ?_
  refine sz tT ⟨(WT s_ p),(ac4 p)⟩ {an:=[(0, .map 0 (yg (aG .i64) ([]:(List (Int × Int)))) (yc (aG .i64) ([]:(List (Int × Int)))) []),(1, .map 0 (yg (aG .i64) ([]:(List (Int × Int)))) (yc (aG .i64) ([]:(List (Int × Int)))) []),(2, .map 0 (yg af.cell ([]:(List (af × Int)))) (yc (aG .i64) ([]:(List (af × Int)))) [])],fr:=[(0,73),(1,74),(2,75)] } [] ?_
  refine aQ (sz tT ⟨[(2,(vP 63 0)),(gH s_),(4,(vP 65 0)),(iV p),(9,(vP 67 0)),(10,(vP 72 0)),uG,qX,pI,(Ah p),(Ag p),(68,(vI 0))],(ac4 p)⟩ {} [] ?_)
  refine bE h fun y hy h=> ?_
  refine aL [] (zR p s_) (zT p s_) jo hy (fun s f h=> ?_) ?_
  ·clear hy
   show jE _ _ _ _ _ _ ((G9 p s_) f) _
   unfold iJ at h
   obtain⟨n0,n1,v8,v0⟩:=s
   refine sz tT ⟨[(2,(vP 63 0)),(gH s_),(4,(vP 65 0)),(iV p),(9,(vP 67 0)),(10,(vP 72 0)),uG,qX,pI,(Ah p),(Ag p),(68,(vI v0)),(69,(vB (decide (v0<(p.sources.length:Int)))))],(TH p n1 n0 v8)⟩ {} [] ?_
   refine aQ ?_
   refine bI h (fun hb1 h=> ?_) (fun hb1 h=> ?_)
   ·refine ct hb1 ?_
    refine aP (aQ (aB (aQ (aO h fun a1 h=> ?_))))
    refine rg tT ⟨[(2,(vP 63 0)),(gH s_),(4,(vP 65 0)),(iV p),(9,(vP 67 0)),(10,(vP 72 0)),uG,qX,pI,(14,(vI v0)),(Tz p v0),(Ah p),(Ag p),(68,(vI v0))],(TH p n1 n0 v8)⟩ [_] {fr:=[(3,82)] } [82] ⟨a1,trivial⟩ ?_
    refine aQ (bE h fun ui hr_1 h=> ?_)
    have q0:=iK p s_ v0 hr_1
    refine rg tT ⟨[(2,(vP 63 0)),(gH s_),(4,(vP 65 0)),(iV p),(9,(vP 67 0)),(10,(vP 72 0)),uG,qX,pI,(14,(vI v0)),(Tz p v0),(Ah p),(Ag p),(68,(vI v0)),(76,(vB ui))],(TH p n1 n0 v8)⟩ [_] {an:=[(3,cA q0 [])] } [] ⟨q0,trivial⟩ ?_
    refine bI h (fun hb h=> ?_) (fun hb h=> ?_)
    ·refine ct hb ?_
     refine bE h fun v4 hr_2 h=> ?_
     have q0:=rk [(0,67),(1,68),(2,66),(3,83)] (bG 0 (aa5 p v0) (UD p v0) 0 (⟨n0,n1⟩:Network) hr_2)
     refine rg tT ⟨(aeT s_ p v0),(acD p v0 v4 v8)⟩ [_,Au [some .i64] 1 1 v8.length (yg (aG .i64) v8) (yc (aG .i64) v8) [(.int .i64 v0)] [(cI v4.1)] [] (gJ J4 v0 v4.1 v8).length (G7 v0 v4 v8) (GZ v0 v4 v8)] {an:=[(8,cA q0 [67,68,66]),(9, .map (gJ J4 v0 v4.1 v8).length (G7 v0 v4 v8) (GZ v0 v4 v8) [])] } [] ⟨q0,(q9 (fun _=>rfl) (fun _ _=>rfl) v8 v0 v4.1 rfl rfl),trivial⟩ ?_
     refine ri tT ⟨(aar p s_ v0),(acD p v0 v4 v8)⟩ [] {} [] trivial (d9.fin (st':=⟨(aar p s_ v0),[(y9 p),bY,(OU v4),(afX v4),(68,some (xU v4)),(UY p),(MV p),(Ka p),(V3 p),(73,some (G5 v0 v4 v8)),UK,Nr]⟩) (cs:=[]) ⟨[],[(63,63),(65,65),(66,66),(67,67),(83,68),(69,69),(70,70),(71,71),(72,72),(73,73),(74,74),(75,75)]⟩ [2,3,4,8,9,10,11,12,13,66,67,68] (by kernel_rfl) trivial) ?_
     obtain rfl:=oi h
     exact lN
    ·refine cf hb ?_
     refine aP (rz tT ⟨(aar p s_ v0),(TH p n1 n0 v8)⟩ {} [] ?_)
     obtain rfl:=oi h
     exact lN
   ·refine cf hb1 ?_
    refine aI (fz ⟨(WT s_ p),(TH p n1 n0 v8)⟩ []) ?_
    refine aX ?_
    obtain rfl:=oi h
    exact lB
  ·clear hy
   cases y with
   |brk z=>
    obtain⟨p1,ue,uc,x0,u4⟩:=z
    unfold GI
    refine⟨_, .refl, ?_⟩
    refine aQ (sz tT ⟨[(2,(vP 63 0)),(gH s_),(4,(vP 65 0)),(iV p),(9,(vP 67 0)),(10,(vP 72 0)),uG,qX,pI,(Ap p),(Af p),(90,(vI 0))],(adl p p1 x0 uc ue u4)⟩ {} [] ?_)
    refine bE h fun y1 hy h=> ?_
    refine aL [] (zY p s_ p1 x0 u4) (zI p s_ p1 x0 u4) jo hy (fun s f h=> ?_) ?_
    ·clear hy
     show jE _ _ _ _ _ _ ((Gx p s_ p1 x0 u4) f) _
     unfold iI at h
     obtain⟨w7,w3,v9,u7⟩:=s
     refine sz tT ⟨[(2,(vP 63 0)),(gH s_),(4,(vP 65 0)),(iV p),(9,(vP 67 0)),(10,(vP 72 0)),uG,qX,pI,(Ap p),(Af p),(90,(vI u7)),(91,(vB (decide (u7<(p.links.length:Int)))))],(Uy p v9 p1 w3 w7 x0 u4)⟩ {} [] ?_
     refine aQ ?_
     refine bI h (fun hb3 h=> ?_) (fun hb3 h=> ?_)
     ·refine ct hb3 ?_
      refine aP (aQ (aB (aQ (aO h fun a1 h=> ?_))))
      refine rg tT ⟨[(2,(vP 63 0)),(gH s_),(4,(vP 65 0)),(iV p),(9,(vP 67 0)),(10,(vP 72 0)),uG,qX,pI,(16,(vI u7)),(Tj p u7),(Ap p),(Af p),(90,(vI u7))],(Uy p v9 p1 w3 w7 x0 u4)⟩ [_] {fr:=[(3,90)] } [90] ⟨a1,trivial⟩ ?_
      refine aQ (bE h fun uj hr_3 h=> ?_)
      have q0:=fq (⟨p.buses,p1,p.links,p.racks⟩:ah) s_ u7 hr_3
      refine rg tT ⟨[(2,(vP 63 0)),(gH s_),(4,(vP 65 0)),(iV p),(9,(vP 67 0)),(10,(vP 72 0)),uG,qX,pI,(16,(vI u7)),(Tj p u7),(Ap p),(Af p),(90,(vI u7)),(98,(vB uj))],(Uy p v9 p1 w3 w7 x0 u4)⟩ [_] {an:=[(3,cA q0 [])] } [] ⟨q0,trivial⟩ ?_
      refine bI h (fun hb2 h=> ?_) (fun hb2 h=> ?_)
      ·refine ct hb2 ?_
       refine bE h fun v5 hr_4 h=> ?_
       have q0:=rk [(0,67),(1,68),(2,66),(3,91)] (bG (Z0 p u7) (abO p u7) (IW p u7) (IW p u7) (⟨w7,w3⟩:Network) hr_4)
       refine rg tT ⟨(ae9 p s_ u7),(ac3 p u7 p1 v5 x0 u4 v9)⟩ [_,Au [some .i64] 1 1 v9.length (yg (aG .i64) v9) (yc (aG .i64) v9) [(.int .i64 u7)] [(cI v5.1)] [] (gJ J4 u7 v5.1 v9).length (G7 u7 v5 v9) (GZ u7 v5 v9)] {an:=[(13,cA q0 [67,68,66]),(14, .map (gJ J4 u7 v5.1 v9).length (G7 u7 v5 v9) (GZ u7 v5 v9) [])] } [] ⟨q0,(q9 (fun _=>rfl) (fun _ _=>rfl) v9 u7 v5.1 rfl rfl),trivial⟩ ?_
       refine ri tT ⟨(ZQ p s_ u7),(ac3 p u7 p1 v5 x0 u4 v9)⟩ [] {} [] trivial (d9.fin (st':=⟨(ZQ p s_ u7),[(N8 p p1),bY,(OU v5),(afX v5),(68,some (xU v5)),(nZ x0),(MV p),(Ka p),(Yt p x0),(DF u4),(74,some (G5 u7 v5 v9)),Nr]⟩) (cs:=[]) ⟨[],[(63,63),(65,65),(66,66),(67,67),(91,68),(69,69),(70,70),(71,71),(72,72),(73,73),(74,74),(75,75)]⟩ [2,3,4,8,9,10,11,12,13,88,89,90] (by kernel_rfl) trivial) ?_
       obtain rfl:=oi h
       exact lN
      ·refine cf hb2 ?_
       refine aP (rz tT ⟨(ZQ p s_ u7),(Uy p v9 p1 w3 w7 x0 u4)⟩ {} [] ?_)
       obtain rfl:=oi h
       exact lN
     ·refine cf hb3 ?_
      refine aI (fz ⟨(WT s_ p),(Uy p v9 p1 w3 w7 x0 u4)⟩ []) ?_
      refine aX ?_
      obtain rfl:=oi h
      exact lB
    ·clear hy
     cases y1 with
     |brk z=>
      obtain⟨p2,uf,ud,x1,u5⟩:=z
      unfold GI
      refine⟨_, .refl, ?_⟩
      refine aQ (sz tT ⟨[(2,(vP 63 0)),(gH s_),(4,(vP 65 0)),(iV p),(9,(vP 67 0)),(10,(vP 72 0)),uG,qX,pI,(115,(vD (bM none 4 aD.cell p.racks))),(116,(vI (p.racks.length:Int))),(117,(vI 0))],(aci p p1 p2 x1 ud uf x0 u4 u5)⟩ {} [] ?_)
      refine bE h fun y3 hy h=> ?_
      refine aL [] (zM p s_ p1 x0 u4 p2 x1 u5) (zN p p1 x0 u4 p2 x1 u5) jo hy (fun s f h=> ?_) ?_
      ·clear hy
       show jE _ _ _ _ _ _ ((uP p s_ p1 x0 u4 p2 x1 u5) f) _
       unfold iO at h
       obtain⟨p3,v7,x7,x3,x2,ua,u2,w0,u0⟩:=s
       refine sz tT ⟨[(2,(vP 63 0)),(gH s_),(4,(vP 65 0)),(8,(vI v7)),(9,(vP 67 0)),(10,(vP 72 0)),uG,qX,pI,(qI u2),(116,(vI w0)),(117,(vI u0)),(118,(vB (decide (u0<w0))))],(Vd p p1 p2 p3 x2 x0 x1 ua x3 x7 u4 u5)⟩ {} [] ?_
       refine aQ ?_
       refine bI h (fun hb6 h=> ?_) (fun hb6 h=> ?_)
       ·refine ct hb6 ?_
        refine aP (aQ (aB (aQ (aO h fun a1 h=> ?_))))
        refine rg tT ⟨(af6 s_ v7 u0 u2 w0),(Vd p p1 p2 p3 x2 x0 x1 ua x3 x7 u4 u5)⟩ [_] {fr:=[(3,110)] } [110] ⟨a1,trivial⟩ ?_
        refine aQ (bE h fun x4 hr_5 h=> ?_)
        have q0:=rk [(0,67),(1,68),(2,66),(3,111)] (bG (Ur p u0) v7 (LX u2 u0) 0 (⟨x7,x3⟩:Network) hr_5)
        refine rg tT ⟨(af6 s_ v7 u0 u2 w0),(acf p p1 x0 u4 x4 p2 p3 x1 x2 u5 ua)⟩ [_] {an:=[(9,cA q0 [67,68,66])] } [] ⟨q0,trivial⟩ ?_
        refine sz tT ⟨[(2,(vP 63 0)),(gH s_),(4,(vP 65 0)),(8,(vI v7)),(9,(vP 67 0)),(10,(vP 72 0)),uG,qX,pI,(18,(vI u0)),(xJ u2 u0),(qI u2),(116,(vI w0)),(117,(vI u0)),(Ae u2 u0),(134,(vI 0))],(acf p p1 x0 u4 x4 p2 p3 x1 x2 u5 ua)⟩ {} [] ?_
        refine bE h fun y2 hy h=> ?_
        refine aL [5] (zV p s_ p1 x0 u4 p2 x1 u5 p3 v7 x2 u2 w0 u0) (zQ p s_ p1 x0 u4 p2 x1 u5 p3 v7 x2 u2 w0 u0) (uP p s_ p1 x0 u4 p2 x1 u5) hy (fun s f h=> ?_) ?_
        ·clear hy
         show jE _ _ _ _ _ _ ((GU p s_ p1 x0 u4 p2 x1 u5 p3 v7 x2 u2 w0 u0) f) _
         unfold eY at h
         obtain⟨w8,w4,w1,v3⟩:=s
         refine sz tT ⟨[(2,(vP 63 0)),(gH s_),(4,(vP 65 0)),(8,(vI v7)),(9,(vP 67 0)),(10,(vP 72 0)),uG,qX,pI,(18,(vI u0)),(xJ u2 u0),(qI u2),(116,(vI w0)),(117,(vI u0)),(Ae u2 u0),(134,(vI v3)),(135,(vB (decide (v3<2))))],(QJ p p1 p2 p3 w4 w8 x0 x1 x2 u4 u5 w1)⟩ {} [] ?_
         refine aQ ?_
         refine bI h (fun hb5 h=> ?_) (fun hb5 h=> ?_)
         ·refine ct hb5 ?_
          refine aP (aQ (aB (aQ (aO h fun a1 h=> ?_))))
          refine rg tT ⟨[(2,(vP 63 0)),(gH s_),(4,(vP 65 0)),(8,(vI v7)),(9,(vP 67 0)),(10,(vP 72 0)),uG,qX,pI,(18,(vI u0)),(xJ u2 u0),(20,(vI v3)),(Ub u0 u2 v3),(qI u2),(116,(vI w0)),(117,(vI u0)),(Ae u2 u0),(134,(vI v3))],(QJ p p1 p2 p3 w4 w8 x0 x1 x2 u4 u5 w1)⟩ [_,v3.toNat*1+1≤(QH u2 u0).length,((QH u2 u0).drop (v3.toNat*1)).take 1=(TQ u0 u2 v3).map .d] {an:=[(1, .vals (TQ u0 u2 v3))] } [] ⟨a1,(Tx (n:=2) (sz:=1) (Nat.le_refl _) a1),(Sj (n:=2) (sz:=1) (g:=fun q=>[(cI (at' [(k28 u2 u0).e0,(k28 u2 u0).e1] q))]) (by intro q hq;match q,hq with|0,_=>rfl|1,_=>rfl) a1),trivial⟩ ?_
          refine aQ (bE h fun ul hr_6 h=> ?_)
          have q0:=jR s_ (Qi u0 u2 v3) hr_6
          refine rg tT ⟨[(2,(vP 63 0)),(gH s_),(4,(vP 65 0)),(8,(vI v7)),(9,(vP 67 0)),(10,(vP 72 0)),uG,qX,pI,(18,(vI u0)),(xJ u2 u0),(20,(vI v3)),(Ub u0 u2 v3),(qI u2),(116,(vI w0)),(117,(vI u0)),(Ae u2 u0),(134,(vI v3)),(140,(vB ul))],(QJ p p1 p2 p3 w4 w8 x0 x1 x2 u4 u5 w1)⟩ [_] {an:=[(2,cA q0 [])] } [] ⟨q0,trivial⟩ ?_
          refine bI h (fun hb4 h=> ?_) (fun hb4 h=> ?_)
          ·refine ct hb4 ?_
           refine bE h fun v6 hr_7 h=> ?_
           have q0:=rk [(0,67),(1,111),(2,66),(3,115)] (bG (aaR u0 u2 v3) (Ur p u0) (LX u2 u0) 0 (⟨w8,w4⟩:Network) hr_7)
           refine rg tT ⟨(aei u2 u0 s_ v7 w0 v3),[(eO p p1 p2 p3),bY,(OU v6),(afT v6),(nZ x0),(qH x1),(sU x2),(sZ x2 x0 x1),(DF u4),(Dm u5),(75,some (Ry 69 3 true false 2 1 af.cell (aG .i64) (gJ (fun a b=>(decide (a.e0=b.e0) && (decide (a.e1=b.e1) && true))) (⟨u0,v3⟩:af) v6.1 w1))),(YM v6)]⟩ [_,Au [some .i64,some .i64] 2 1 w1.length (yg af.cell w1) (yc (aG .i64) w1) (Tw u0 v3) [(cI v6.1)] [] (gJ (fun a b=>(decide (a.e0=b.e0) && (decide (a.e1=b.e1) && true))) (⟨u0,v3⟩:af) v6.1 w1).length (yg af.cell (gJ (fun a b=>(decide (a.e0=b.e0) && (decide (a.e1=b.e1) && true))) (⟨u0,v3⟩:af) v6.1 w1)) (yc (aG .i64) (gJ (fun a b=>(decide (a.e0=b.e0) && (decide (a.e1=b.e1) && true))) (⟨u0,v3⟩:af) v6.1 w1))] {an:=[(14,cA q0 [67,111,66]),(15, .map (gJ (fun a b=>(decide (a.e0=b.e0) && (decide (a.e1=b.e1) && true))) (⟨u0,v3⟩:af) v6.1 w1).length (yg af.cell (gJ (fun a b=>(decide (a.e0=b.e0) && (decide (a.e1=b.e1) && true))) (⟨u0,v3⟩:af) v6.1 w1)) (yc (aG .i64) (gJ (fun a b=>(decide (a.e0=b.e0) && (decide (a.e1=b.e1) && true))) (⟨u0,v3⟩:af) v6.1 w1)) [])] } [] ⟨q0,(q9 (fun _=>rfl) (fun _ _=>rfl) w1 (⟨u0,v3⟩:af) v6.1 rfl rfl),trivial⟩ ?_
           refine ri tT ⟨(abB s_ v7 u0 u2 w0 v3),[(eO p p1 p2 p3),bY,(OU v6),(afT v6),(nZ x0),(qH x1),(sU x2),(sZ x2 x0 x1),(DF u4),(Dm u5),(75,some (Ry 69 3 true false 2 1 af.cell (aG .i64) (gJ (fun a b=>(decide (a.e0=b.e0) && (decide (a.e1=b.e1) && true))) (⟨u0,v3⟩:af) v6.1 w1))),(YM v6)]⟩ [] {} [] trivial (d9.fin (st':=⟨(abB s_ v7 u0 u2 w0 v3),[(eO p p1 p2 p3),bY,(OU v6),(agh v6),(nZ x0),(qH x1),(sU x2),(sZ x2 x0 x1),(DF u4),(Dm u5),(75,some (Ry 69 3 true false 2 1 af.cell (aG .i64) (gJ (fun a b=>(decide (a.e0=b.e0) && (decide (a.e1=b.e1) && true))) (⟨u0,v3⟩:af) v6.1 w1))),(111,some (xU v6))]⟩) (cs:=[]) ⟨[],[(63,63),(65,65),(66,66),(67,67),(69,69),(70,70),(71,71),(72,72),(73,73),(74,74),(75,75),(115,111)]⟩ [2,3,4,8,9,10,11,12,13,18,19,115,116,117,133,134] (by kernel_rfl) trivial) ?_
           obtain rfl:=oi h
           exact lN
          ·refine cf hb4 ?_
           refine aP (rz tT ⟨(abB s_ v7 u0 u2 w0 v3),(QJ p p1 p2 p3 w4 w8 x0 x1 x2 u4 u5 w1)⟩ {} [] ?_)
           obtain rfl:=oi h
           exact lN
         ·refine cf hb5 ?_
          refine aI (fz (afg s_ v7 u2 w0 u0 p p1 p2 p3 w4 w8 x0 x1 x2 u4 u5 w1) []) ?_
          refine aX ?_
          obtain rfl:=oi h
          exact lB
        ·clear hy
         cases y2 with
         |brk z=>
          obtain⟨ub,x8,ug⟩:=z
          unfold GI
          refine⟨_, .refl, ?_⟩
          refine ri tT ⟨(afF s_ v7 u0 u2 w0),(QJ p p1 p2 p3 x8 ub x0 x1 x2 u4 u5 ug)⟩ [] {} [] trivial (d9.fin (st':=⟨(afF s_ v7 u0 u2 w0),(Vd p p1 p2 p3 x2 x0 x1 ug x8 ub u4 u5)⟩) (cs:=[]) ⟨[],[(63,63),(65,65),(66,66),(67,67),(111,68),(69,69),(70,70),(71,71),(72,72),(73,73),(74,74),(75,75)]⟩ [2,3,4,8,9,10,11,12,13,115,116,117] (by kernel_rfl) trivial) ?_
          obtain rfl:=oi h
          exact lN
         |ret v=>
          obtain rfl:=oi h
          unfold GI
          intro e st hn ha hR
          cases e with
          |normal=>exact absurd rfl hn
          |exit id=>simp only [Q9 (b:=5) ha rfl,cond_false];exact hR
          |goto l=>exact hR
          |ret=>exact hR
          |panic c=>exact hR
          |outgrown=>exact hR
       ·refine cf hb6 ?_
        refine aI (fz (afM v7 p p1 p2 p3 x3 x7 x0 x1 x2 u4 u5 ua) []) ?_
        refine aX ?_
        obtain rfl:=oi h
        exact lB
      ·clear hy
       cases y3 with
       |brk z=>
        obtain⟨v1,x9,w9,x6,v2,u3⟩:=z
        unfold GI
        refine⟨_, .refl, ?_⟩
        refine aQ (aI (.trans (fi ⟨(abe x9),[(eO p p1 p2 v1),bY,(67,some (.cells 151 [(.own 68 false w9.length),(.d (.sl (some true) 1 x6.length (fun i j=>evD (xQ sM x6 i j))))])),(Mt w9),(nZ x0),(qH x1),(sU v2),(sZ v2 x0 x1),(DF u4),(Dm u5),(Eh u3)]⟩ [x6.length=x6.length] [66] ⟨rfl,trivial⟩) (d9.le (st':=⟨(abe x9),[(eO p p1 p2 v1),bY,(afi w9 x6),(Mt w9),(nZ x0),(qH x1),(sU v2),(sZ v2 x0 x1),(DF u4),(Dm u5),(Eh u3)]⟩) ⟨⟨tR,tR,tR,tR,tR,tR,tR,tR,trivial⟩,(hN 2 ⟨rfl,bH ⟨gV.refl _,gV.d (jL.sl (.inr rfl) (fun i _ j hj=>match j,hj with|0,_=> .refl _)),trivial⟩,(.refl _)⟩)⟩)) ?_)
        refine bE h fun u1 hr_8 h=> ?_
        refine rg tT ⟨[(2,(vP 63 0)),(4,(vP 65 0)),(9,(vP 67 0)),(10,(vP 72 0)),uG,qX,pI],[(eO p p1 p2 v1),bY,(yM u1),(yE u1),(nZ x0),(qH x1),(sU v2),(sZ v2 x0 x1),(DF u4),(Dm u5),(Eh u3)]⟩ [Fn Tryz.prog 75 [(.one (.ptr 67 0)),(sI x9)] (aeW w9 x6) (.iP []) (ad7 u1)] {an:=[(2, .call [67,68] (.iP []) (ad7 u1))] } [] ⟨(Fn.leH (args:=[(.one (.ptr 67 0)),(sI x9)]) (args':=[(.one (.ptr 67 0)),(sI x9)]) (hin:=[(67,some (.cells 151 [(.own 68 false w9.length),(.d (k91 x6))])),(Mt w9)]) (hin':=(aeW w9 x6)) (rK [(0,67),(1,68)] (lu x9 (⟨w9,x6⟩:Network) hr_8)) ⟨uI.refl _,uI.refl _,trivial⟩ ⟨rfl,bH ⟨gV.refl _,gV.d jL.rX,trivial⟩,(.refl _)⟩),trivial⟩ ?_
        refine aQ (bE h fun y4 hy h=> ?_)
        refine ja (Gy p p1 p2 x1 u5 v1 v2 u3 u1) (K:=3) (V:=3) (s0:=(x0)) ⟨3,3,false,false,1,1,u4.length,yg (aG .i64) u4,yc (aG .i64) u4,[]⟩ 73 116 (fun i=>(sI (Az u4 i))) (fun i=>(sI (Ez u4 i))) hy [3,4] (by kernel_rfl) (by kernel_rfl) (by kernel_rfl) (fun _ _=> ⟨rfl,rfl⟩) (fun _ _=> ⟨lJ _ _,lJ _ _⟩) (fun _=>(d9.fin (st':=(adm u1 p p1 p2 v1 x0 x1 v2 u5 u3)) (cs:=[]) ⟨[],[(63,63),(65,65),(67,67),(68,68),(69,69),(70,70),(71,71),(72,72),(74,74),(75,75),(116,116)]⟩ [2,4,9,10,12,13,162] (by kernel_rfl) trivial)) (fun s=>by obtain⟨w5,rfl⟩: ∃q,q=s:=⟨_,rfl⟩;kernel_rfl) (fun B s i s' hi h=> ?_) ?_
        ·clear hy
         unfold jO at h
         obtain⟨w5,rfl⟩: ∃q,q=s:=⟨_,rfl⟩
         refine Yi tT (⟨[(2,(vP 63 0)),(4,(vP 65 0)),(9,(vP 67 0)),(10,(vP 72 0)),qX,pI,(22,(vI (Az u4 i))),(23,(vI (Ez u4 i))),(162,(vP 116 0))],(adw u1 p p1 p2 v1 w5 x1 v2 u5 u3)⟩) {fin:=⟨[],[(63,63),(65,65),(67,67),(68,68),(69,69),(70,70),(71,71),(72,72),(74,74),(75,75),(116,116)]⟩,ts:=[2,4,9,10,12,13,22,23,162] } (cs:=[]) (by kernel_rfl) trivial .refl ?_
         refine aO h fun⟨a1,a2⟩ h=> ?_
         refine di tT mX ⟨aae,[(eO p p1 p2 v1),bY,(yM u1),(yE u1),(69,some (.arr 3 1 w5.length (LP u4 u1 i w5))),(qH x1),(sU v2),(sZ v2 w5 x1),(Dm u5),(Eh u3),(116,none)]⟩ [_,_,_,_,aC w5.length 1 (aby u4 u1 i w5) (LP u4 u1 i w5)] {an:=[(13, .arr 0 (LP u4 u1 i w5))] } [] ⟨a1,(tL a1),a2,(tL a2),(aK _ _ _ _ _ _ _ _ rfl (fun j hj=>(match j,hj with|0,_=>rfl))),trivial⟩ (d9.le (st':=⟨aae,[(eO p p1 p2 v1),bY,(yM u1),(yE u1),(69,some (abh u4 u1 i w5)),(qH x1),(sU v2),(72,some (.cells 80 [(.own 69 true (ZI u4 u1 i w5)),(.own 70 true x1.length),(.own 71 true v2.length)])),(Dm u5),(Eh u3),(116,none)]⟩) ⟨⟨tR,tR,tR,tR,tR,tR,tR,trivial⟩,(hN 4 ⟨rfl,oW,(hN 2 ⟨rfl,bH ⟨cW,gV.refl _,gV.refl _,trivial⟩,(.refl _)⟩)⟩)⟩) ?_
         obtain rfl:=oi h
         exact⟨.inl rfl,by kernel_rfl⟩
        ·clear hy
         obtain⟨u6,rfl⟩: ∃q,q=y4:=⟨_,rfl⟩
         refine aI (fz ⟨[(2,(vP 63 0)),(4,(vP 65 0)),(9,(vP 67 0)),(10,(vP 72 0)),qX,pI],[(eO p p1 p2 v1),bY,(yM u1),(yE u1),(nZ u6),(qH x1),(sU v2),(sZ v2 u6 x1),(Dm u5),(Eh u3)]⟩ []) ?_
         refine aQ (bE h fun y5 hy h=> ?_)
         refine ja (Hg p p1 p2 v1 v2 u3 u1 u6) (K:=3) (V:=3) (s0:=(x1)) ⟨3,3,false,false,1,1,u5.length,yg (aG .i64) u5,yc (aG .i64) u5,[]⟩ 74 117 (fun i1=>(sI (Az u5 i1))) (fun i1=>(sI (Ez u5 i1))) hy [3,4] (by kernel_rfl) (by kernel_rfl) (by kernel_rfl) (fun _ _=> ⟨rfl,rfl⟩) (fun _ _=> ⟨lJ _ _,lJ _ _⟩) (fun _=>(d9.fin (st':=(aeP p p1 p2 v1 u1 u6 x1 v2 u3)) (cs:=[]) ⟨[],[(63,63),(65,65),(67,67),(68,68),(69,69),(70,70),(71,71),(72,72),(75,75),(117,117)]⟩ [2,4,9,10,13,182] (by kernel_rfl) trivial)) (fun s=>by obtain⟨w6,rfl⟩: ∃q,q=s:=⟨_,rfl⟩;kernel_rfl) (fun B s i1 s' hi h=> ?_) ?_
         ·clear hy
          unfold jM at h
          obtain⟨w6,rfl⟩: ∃q,q=s:=⟨_,rfl⟩
          refine Yi tT (⟨[(2,(vP 63 0)),(4,(vP 65 0)),(9,(vP 67 0)),(10,(vP 72 0)),pI,(24,(vI (Az u5 i1))),(25,(vI (Ez u5 i1))),(182,(vP 117 0))],(aeb p p1 p2 v1 u1 u6 w6 v2 u3)⟩) {fin:=⟨[],[(63,63),(65,65),(67,67),(68,68),(69,69),(70,70),(71,71),(72,72),(75,75),(117,117)]⟩,ts:=[2,4,9,10,13,24,25,182] } (cs:=[]) (by kernel_rfl) trivial .refl ?_
          refine aO h fun⟨a1,a2,a3⟩ h=> ?_
          refine di tT mX ⟨aat,[(eO p p1 p2 v1),bY,(yM u1),(yE u1),(nZ u6),(70,some (.arr 3 1 w6.length (Me p2 u5 u1 i1 w6))),(sU v2),(sZ v2 u6 w6),(Eh u3),(117,none)]⟩ [_,_,_,_,_,aC w6.length 1 (abb p2 u5 u1 i1 w6) (Me p2 u5 u1 i1 w6)] {an:=[(19, .arr 0 (Me p2 u5 u1 i1 w6))] } [] ⟨a1,a2,(tL a2),a3,(tL a3),(aK _ _ _ _ _ _ _ _ rfl (fun j hj=>(match j,hj with|0,_=>rfl))),trivial⟩ (d9.le (st':=⟨aat,[(eO p p1 p2 v1),bY,(yM u1),(yE u1),(nZ u6),(70,some (aas p2 u5 u1 i1 w6)),(sU v2),(72,some (.cells 80 [(.own 69 true u6.length),(.own 70 true (abg p2 u5 u1 i1 w6)),(.own 71 true v2.length)])),(Eh u3),(117,none)]⟩) ⟨⟨tR,tR,tR,tR,tR,tR,trivial⟩,(hN 5 ⟨rfl,oW,⟨rfl, .refl _,⟨rfl,bH ⟨gV.refl _,cW,gV.refl _,trivial⟩,⟨rfl, .refl _,⟨rfl, .refl _,trivial⟩⟩⟩⟩⟩)⟩) ?_
          obtain rfl:=oi h
          exact⟨.inl rfl,by kernel_rfl⟩
         ·clear hy
          obtain⟨u8,rfl⟩: ∃q,q=y5:=⟨_,rfl⟩
          refine aI (fz ⟨[(2,(vP 63 0)),(4,(vP 65 0)),(9,(vP 67 0)),(10,(vP 72 0)),pI],[(eO p p1 p2 v1),bY,(yM u1),(yE u1),(nZ u6),(qH u8),(sU v2),(sZ v2 u6 u8),(Eh u3)]⟩ []) ?_
          refine aQ (bE h fun y6 hy h=> ?_)
          refine ja (G8 p p1 p2 v1 u1 u6 u8) (K:=69) (V:=3) (s0:=(v2)) ⟨69,3,true,false,2,1,u3.length,yg af.cell u3,yc (aG .i64) u3,[]⟩ 75 118 (fun i2=>(.agg (XF u3 i2))) (fun i2=>(sI (at' (u3.map Prod.snd) i2))) hy [3,4,5] (by kernel_rfl) (by kernel_rfl) (by kernel_rfl) (fun _ _=> ⟨rfl,rfl⟩) (fun _ _=> ⟨ML rfl,lJ _ _⟩) (fun _=>(d9.fin (st':=(aef p p1 p2 v1 u1 u6 u8 v2)) (cs:=[]) ⟨[],[(63,63),(65,65),(67,67),(68,68),(69,69),(70,70),(71,71),(72,72),(118,118)]⟩ [2,4,9,10,208] (by kernel_rfl) trivial)) (fun s=>by obtain⟨u9,rfl⟩: ∃q,q=s:=⟨_,rfl⟩;kernel_rfl) (fun B s i2 s' hi h=> ?_) ?_
          ·clear hy
           unfold jP at h
           obtain⟨u9,rfl⟩: ∃q,q=s:=⟨_,rfl⟩
           refine Yi tT (⟨(abX u3 i2),[(eO p p1 p2 v1),bY,(yM u1),(yE u1),(nZ u6),(qH u8),(sU u9),(sZ u9 u6 u8),(118,none),(121,some (ZU u3 i2))]⟩) {fr:=Xr [(3,121)],fin:=⟨[],[(63,63),(65,65),(67,67),(68,68),(69,69),(70,70),(71,71),(72,72),(118,118),(121,121)]⟩,ts:=[2,4,9,10,26,27,208] } (cs:=[]) (by kernel_rfl) trivial .refl ?_
           refine bI h (fun hb7 h=> ?_) (fun _ h=> ?_)
           ·skip
            refine aI (d9.le (st':=⟨(abX u3 i2),[(eO p p1 p2 v1),bY,(yM u1),(yE u1),(nZ u6),(qH u8),(sU u9),(sZ u9 u6 u8),(118,none),(121,some (aav u3 i2))]⟩) ⟨⟨tR,tR,tR,tR,tR,tR,tR,trivial⟩,(hN 9 ⟨rfl,bH ⟨gV.refl _,gV.of (congrArg (fun n=>CV.d (.int .i64 n)) (of_decide_eq_true hb7)),trivial⟩,trivial⟩)⟩) ?_
            refine aO h fun⟨a1,a2⟩ h=> ?_
            refine di tT mX ⟨VX,[(eO p p1 p2 v1),bY,(yM u1),(yE u1),(nZ u6),(qH u8),(71,some (.arr 69 2 u9.length (Nw u1 u3 i2 u9))),(sZ u9 u6 u8),(118,none)]⟩ [(0:Int)≤0∧(0:Int)<(2:Nat),(0:Int)≤1∧(1:Int)<(2:Nat),_,_,_,(0:Int)≤0∧(0:Int)<(2:Nat),_,aC u9.length 2 (aa1 u1 u3 i2 u9) (Nw u1 u3 i2 u9)] {an:=[(17, .arr 0 (Nw u1 u3 i2 u9))] } [] ⟨((by decide)),((by decide)),a1,(tL a1),a2,((by decide)),(tL a2),(aK _ _ _ _ _ _ _ _ rfl (fun j hj=>(match j,hj with|0,_=>rfl|1,_=>rfl))),trivial⟩ (d9.le (st':=⟨VX,[(eO p p1 p2 v1),bY,(yM u1),(yE u1),(nZ u6),(qH u8),(71,some (Z8 u1 u3 i2 u9)),(72,some (.cells 80 [(.own 69 true u6.length),(.own 70 true u8.length),(.own 71 true (Zz u1 u3 i2 u9))])),(118,none)]⟩) ⟨⟨tR,tR,tR,tR,tR,trivial⟩,(hN 6 ⟨rfl,oW,⟨rfl,bH ⟨gV.refl _,gV.refl _,cW,trivial⟩,(.refl _)⟩⟩)⟩) ?_
            obtain rfl:=oi h
            exact⟨.inl rfl,by kernel_rfl⟩
           ·skip
            refine aO h fun a1 h=> ?_
            refine aI (d9.le (st':=⟨(abX u3 i2),[(eO p p1 p2 v1),bY,(yM u1),(yE u1),(nZ u6),(qH u8),(sU u9),(sZ u9 u6 u8),(118,none),(121,some (abr u3 i2))]⟩) ⟨⟨tR,tR,tR,tR,tR,tR,tR,trivial⟩,(hN 9 ⟨rfl,bH ⟨gV.refl _,gV.of (congrArg (fun n=>CV.d (.int .i64 n)) a1),trivial⟩,trivial⟩)⟩) ?_
            refine aO h fun⟨a1,a2⟩ h=> ?_
            refine di tT mX ⟨VX,[(eO p p1 p2 v1),bY,(yM u1),(yE u1),(nZ u6),(qH u8),(71,some (.arr 69 2 u9.length (Mr u1 u3 i2 u9))),(sZ u9 u6 u8),(118,none)]⟩ [(0:Int)≤0∧(0:Int)<(2:Nat),(0:Int)≤1∧(1:Int)<(2:Nat),_,_,_,(0:Int)≤1∧(1:Int)<(2:Nat),_,aC u9.length 2 (abS u1 u3 i2 u9) (Mr u1 u3 i2 u9)] {an:=[(17, .arr 0 (Mr u1 u3 i2 u9))] } [] ⟨((by decide)),((by decide)),a1,(tL a1),a2,((by decide)),(tL a2),(aK _ _ _ _ _ _ _ _ rfl (fun j hj=>(match j,hj with|0,_=>rfl|1,_=>rfl))),trivial⟩ (d9.le (st':=⟨VX,[(eO p p1 p2 v1),bY,(yM u1),(yE u1),(nZ u6),(qH u8),(71,some (ZE u1 u3 i2 u9)),(72,some (.cells 80 [(.own 69 true u6.length),(.own 70 true u8.length),(.own 71 true (ZP u1 u3 i2 u9))])),(118,none)]⟩) ⟨⟨tR,tR,tR,tR,tR,trivial⟩,(hN 6 ⟨rfl,oW,⟨rfl,bH ⟨gV.refl _,gV.refl _,cW,trivial⟩,(.refl _)⟩⟩)⟩) ?_
            obtain rfl:=oi h
            exact⟨.inl rfl,by kernel_rfl⟩
          ·clear hy
           obtain⟨w2,rfl⟩: ∃q,q=y6:=⟨_,rfl⟩
           refine aI (fz ⟨[(2,(vP 63 0)),(4,(vP 65 0)),(9,(vP 67 0)),(10,(vP 72 0))],[(eO p p1 p2 v1),bY,(yM u1),(yE u1),(nZ u6),(qH u8),(sU w2),(sZ w2 u6 u8)]⟩ []) ?_
           refine aQ (aO h fun⟨a1,a2,a3⟩ h=> ?_)
           refine rg tT ⟨[(2,(vP 63 0)),(4,(vP 65 0)),(9,(vP 67 0)),(10,(vP 72 0)),(28,(vP 123 0))],[(eO p p1 p2 v1),bY,(yM u1),(yE u1),(nZ u6),(qH u8),(sU w2),(sZ w2 u6 u8),(Vz p),(Vl p)]⟩ [_,(p.buses:Int)=p.buses,_,_,(rY p).length=p.buses.toNat,aC p.buses.toNat 1 (fun _ j=>[(.bool false)].getD j .nilp) (BR p)] {an:=[(2, .arr (rY p).length (BR p))],fr:=[(2,122),(3,123)] } [] ⟨a1,rfl,a2,a3,(List.length_replicate),(aW _ _ _ _ _ (fun j hj=>(match j,hj with|0,_=>rfl))),trivial⟩ ?_
           refine aQ (aQ (bE h fun um hr_9 h=> ?_))
           have q0:=rk [(0,67),(1,68),(2,124)] (gF u1 hr_9)
           refine ri tT ⟨afR,[(eO p p1 p2 v1),bY,(67,some (ZA u1)),(nZ u6),(qH u8),(sU w2),(sZ w2 u6 u8),(Vz p),(Vl p),(124,some (.cells 147 [(.ptr 67 0)]))]⟩ [_,u1.arcs.length=u1.arcs.length] {an:=[(1,cA q0 [67,68])] } [68] ⟨q0,rfl,trivial⟩ (.trans (fz ⟨afR,[(eO p p1 p2 v1),bY,(nZ u6),(qH u8),(sU w2),(sZ w2 u6 u8),(Vz p),(Vl p),(124,some (ab0 u1))]⟩ [67]) (fz ⟨(ado u1),[(eO p p1 p2 v1),bY,(nZ u6),(qH u8),(sU w2),(sZ w2 u6 u8),(Vz p),(Vl p)]⟩ [124])) ?_
           refine aB (bE h fun x5 hr_10 h=> ?_)
           refine wE 125 [(2,(vP 63 0)),(28,(vP 123 0))] [] [125,63,123,122] (.iP []) [(125,some (.loop dF 0 [(2,(vP 63 0)),(28,(vP 123 0))])),(eO p p1 p2 v1),(123,some (.cells 27 [(.own 122 true x5.length)])),(122,some (bZ 4 1 aj x5))] (Yc u1) 103 [] (abM u1) [(125,some (.loop dF 0 [(2,(vP 63 0)),(28,(vP 123 0))])),(eO p p1 p2 v1),(Vl p),(Vz p)] [(.one (.yl 125)),(sD (WX u1))] dF 0 [(2,(vP 63 0)),(28,(vP 123 0))] (by kernel_rfl) (by kernel_rfl) (by kernel_rfl) (by kernel_rfl) (by kernel_rfl) (by kernel_rfl) (by kernel_rfl) (rK [(0,125),(1,63),(2,123),(3,122)] (gK u1.arcs u1.from_ (⟨p.buses,p1,p2,v1⟩:ah) (rY p) hr_10)) (by kernel_rfl) rfl (Kh.zero rfl) (d9.fin (st':=⟨(ado u1),[(eO p p1 p2 v1),bY,(nZ u6),(qH u8),(sU w2),(sZ w2 u6 u8),(122,some (bZ 4 1 aj x5)),(123,some (.cells 27 [(.own 122 true x5.length)]))]⟩) (cs:=[]) ⟨[],[(63,63),(65,65),(69,69),(70,70),(71,71),(72,72),(122,122),(123,123)]⟩ [2,4,10,28,235] (by kernel_rfl) trivial) ?_
           refine sj tT mX ⟨[(4,(vP 65 0)),(5,(vD (bM (some true) 1 aj x5))),(6,(vI 0))],[(65,some (.cells 80 [(.d (bM (some true) 1 (aG .i64) u6)),(.d (bM (some true) 1 (aG .i64) u8)),(.d (bM (some true) 2 af.cell w2))]))]⟩ [x5.length=x5.length,u6.length=u6.length,u8.length=u8.length,w2.length=w2.length] {} [69,70,71,122] ⟨rfl,rfl,rfl,rfl,trivial⟩ (fz ⟨[(4,(vD (CR [(bM (some true) 1 (aG .i64) u6),(bM (some true) 1 (aG .i64) u8),(bM (some true) 2 af.cell w2)] 0))),(5,(vD (bM (some true) 1 aj x5))),(6,(vI 0))],[]⟩ [65]) ?_
           refine aI (d9.le (st':=⟨[(4,(vD (CR [(yV u6),(yV u8),(bM none 2 af.cell w2)] 0))),(5,(vD (bM none 1 aj x5))),(6,(vI 0))],[]⟩) ⟨⟨⟨_,rfl,zu.v (uI.one (gV.d (UN ⟨jL.rX,jL.rX,jL.rX,trivial⟩)))⟩,⟨_,rfl,zu.v (uI.one (gV.d jL.rX))⟩,tR,trivial⟩,trivial⟩) ?_
           refine aR ?_
           obtain rfl:=oi h
           exact rl [(.agg [(.d (yV u6)),(.d (yV u8)),(.d (bM none 2 af.cell w2))]),(sD (bM none 1 aj x5)),(sI 0)]
       |ret v=>
        obtain rfl:=oi h
        unfold GI
        intro e st hn ha hR
        cases e with
        |normal=>exact absurd rfl hn
        |exit id=>exact hR
        |goto l=>exact hR
        |ret=>exact hR
        |panic c=>exact hR
        |outgrown=>exact hR
     |ret v=>
      obtain rfl:=oi h
      unfold GI
      intro e st hn ha hR
      cases e with
      |normal=>exact absurd rfl hn
      |exit id=>exact hR
      |goto l=>exact hR
      |ret=>exact hR
      |panic c=>exact hR
      |outgrown=>exact hR
   |ret v=>
    obtain rfl:=oi h
    unfold GI
    intro e st hn ha hR
    cases e with
    |normal=>exact absurd rfl hn
    |exit id=>exact hR
    |goto l=>exact hR
    |ret=>exact hR
    |panic c=>exact hR
    |outgrown=>exact hR
theorem rq (a:(List Int)) (b:(List Int)):fD Tryz.prog 18 [(sD (yV a)),(sD (yV b))] [] (fun r=>(vB r)) (fun _=>[]) (jA a b):=
  gI tT mX Tryz.func18 (
  .r<| .r<| .it (.r<| .e false)
  (.r<| .lp (σ:=Int) (β:=Unit) (0) [] [] ⟨[0,1],[],fun i=>[(5,(vI i))],fun i=>[]⟩ ⟨[],[],fun _=>[],fun _=>[]⟩
  (fun i=> .r<| .it (.a2 (Nz a i) (Nz b i)<| .rg {} [0,1]<| .it (.r<| .e (.done (.ret false)))
  (.r<| .e (.next (k4 i))))
  (.e (.done (.brk ()))))
  (fun _=> .r<| .e true)))
section
variable (p:ah) (s_:State) (u0:(List Bool))
abbrev X7:List SV:=[(.agg (k9 p)),(.agg (k11 s_)),(sD (bM none 1 aj u0))]
end
theorem xh (p:ah) (s_:State) (u0:(List Bool)):fD Tryz.prog 95 (X7 p s_ u0) [] (fun r=>(vD (.fn 121 3 (yY [(CR [(.int .i64 r.1),(bM none 5 Source.cell r.2.1),(bM none 6 Link.cell r.2.2.1),(bM none 4 aD.cell r.2.2.2.1)] 0),(CR [(bM none 1 aj r.2.2.2.2.1),(bM none 1 aj r.2.2.2.2.2.1),(bM none 1 aj r.2.2.2.2.2.2.1),(bM none 1 aj r.2.2.2.2.2.2.2.1),(bM none 1 aj r.2.2.2.2.2.2.2.2.1),(bM none 1 aj r.2.2.2.2.2.2.2.2.2.1),(bM none 1 aj r.2.2.2.2.2.2.2.2.2.2.1)] 0),(CR [(bM none 1 aj r.2.2.2.2.2.2.2.2.2.2.2)] 0)])))) (fun _=>[]) (nu p s_ u0):=
  gI tT mX Tryz.func95 (
  .rg {fr:=[(0,3),(1,4),(2,5)],fz:=[3,4,5]} []<| .r<| .e (p.buses,p.sources,p.links,p.racks,s_.closed,s_.locked,s_.badLink,s_.on_,s_.badSource,s_.earthed,s_.badBus,u0))
def gq  :(aA × (List Bool) × Int)→Exit→St→Prop:=
  fun r=>Kw TT [.cell 4 80, .tmp 5, .tmp 6] (.iP [(.agg [(.own 0 false r.1.sources.length),(.own 1 false r.1.links.length),(.own 2 false r.1.racks.length)]),(.one (.own 3 false r.2.1.length)),(sI r.2.2)]) [(0,some (bZ 3 1 (aG .i64) r.1.sources)),(1,some (bZ 3 1 (aG .i64) r.1.links)),(2,some (bZ 69 2 af.cell r.1.racks)),(3,some (bZ 4 1 aj r.2.1)),(4,none)]
section
variable (s_:State) (p:ah) (u1:Int) (n1:(List (List Int))) (n0:(List bg)) (u0:(List (Int × Int)))
abbrev uq:Nat × TV:=(11,(.v (.one (.mp 77))))
abbrev qR:Nat × TV:=(12,(.v (.one (.mp 78))))
abbrev pJ:Nat × TV:=(13,(.v (.one (.mp 79))))
abbrev afw:List (Nat × TV):=[(2,(vP 63 0)),(gH s_),(4,(vP 65 0)),(iV p),(9,(vP 71 0)),(10,(vP 76 0)),uq,qR,pJ,(Ah p),(Ag p),(68,(vI u1))]
abbrev T9:Nat × Option Ob:=(70,some (.rows 35 1 n1.length (xQ sM n1) none))
abbrev W9:Nat × Option Ob:=(71,some (.cells 151 [(.own 72 false n0.length),(.own 70 true n1.length)]))
abbrev Mg:Nat × Option Ob:=(72,some (bZ 157 2 bg.cell n0))
abbrev Vy:Nat × Option Ob:=(73,some (aap p))
abbrev Ml:Nat × Option Ob:=(74,some (aay p))
abbrev Kz:Nat × Option Ob:=(75,some (ZX p))
abbrev Xc:Nat × Option Ob:=(76,some (.cells 80 [(.own 73 true (abD p)),(.own 74 true (TA p)),(.own 75 true (Nj p))]))
abbrev DJ:Nat × Option Ob:=(77,some (TK u0))
abbrev UQ:Nat × Option Ob:=(78,some Tq)
abbrev MU:Nat × Option Ob:=(79,some abR)
abbrev UB:List (Nat × Option Ob):=[(y9 p),bY,(T9 n1),(W9 n1 n0),(Mg n0),(Vy p),(Ml p),(Kz p),(Xc p),(DJ u0),UQ,MU]
end
def wF (p:ah) (s_:State):((List bg) × (List (List Int)) × (List (Int × Int)) × Int)→St:=
  fun zz=>match zz with|(n0,n1,u0,u1)=> ⟨(afw s_ p u1),(UB p n1 n0 u0)⟩
section
variable (s_:State) (p:ah) (x0:(List Int)) (p1:(List Source)) (u0:(List (List Int))) (u1:(List bg)) (u2:(List (Int × Int)))
abbrev VA:List (Nat × TV):=[(2,(vP 63 0)),(gH s_),(4,(vP 65 0)),(iV p),(9,(vP 71 0)),(10,(vP 76 0)),uq,qR,pJ]
abbrev nN:Nat × Option Ob:=(73,some (Fw x0))
abbrev YR:Nat × Option Ob:=(76,some (.cells 80 [(.own 73 true x0.length),(.own 74 true (TA p)),(.own 75 true (Nj p))]))
abbrev afZ:List (Nat × Option Ob):=[(N8 p p1),bY,(T9 u0),(W9 u0 u1),(Mg u1),(nN x0),(Ml p),(Kz p),(YR p x0),(DJ u2),UQ,MU]
end
def wu (p:ah) (s_:State):((List Source) × (List bg) × (List (List Int)) × (List Int) × (List (Int × Int)))→St:=
  fun zz=>match zz with|(p1,u1,u0,x0,u2)=> ⟨(VA s_ p),(afZ p x0 p1 u0 u1 u2)⟩
def C9 (p:ah) (s_:State):(aM ((List bg) × (List (List Int)) × (List (Int × Int)) × Int) (Ex ((List Source) × (List bg) × (List (List Int)) × (List Int) × (List (Int × Int))) (aA × (List Bool) × Int)))→Exit→St→Prop:=
  LQ 0 [] (wF p s_) (wu p s_) gq
section
variable (s_:State) (p:ah) (u4:Int) (u3:(List (Int × Int))) (p1:(List Source)) (u0:(List (List Int))) (u1:(List bg)) (x0:(List Int)) (u2:(List (Int × Int)))
abbrev adI:List (Nat × TV):=[(2,(vP 63 0)),(gH s_),(4,(vP 65 0)),(iV p),(9,(vP 71 0)),(10,(vP 76 0)),uq,qR,pJ,(Ap p),(Af p),(90,(vI u4))]
abbrev CZ:Nat × Option Ob:=(78,some (TK u3))
abbrev Ut:List (Nat × Option Ob):=[(N8 p p1),bY,(T9 u0),(W9 u0 u1),(Mg u1),(nN x0),(Ml p),(Kz p),(YR p x0),(DJ u2),(CZ u3),MU]
end
def vR (p:ah) (s_:State) (p1:(List Source)) (x0:(List Int)) (u2:(List (Int × Int))):((List bg) × (List (List Int)) × (List (Int × Int)) × Int)→St:=
  fun zz=>match zz with|(u1,u0,u3,u4)=> ⟨(adI s_ p u4),(Ut p u3 p1 u0 u1 x0 u2)⟩
section
variable (x1:(List Int)) (p:ah) (p1:(List Source)) (p2:(List Link)) (u0:(List (List Int))) (u1:(List bg)) (x0:(List Int)) (u2:(List (Int × Int))) (u3:(List (Int × Int)))
abbrev qp:Nat × Option Ob:=(74,some (Fw x1))
abbrev afs:List (Nat × Option Ob):=[(afh p p1 p2),bY,(T9 u0),(W9 u0 u1),(Mg u1),(nN x0),(qp x1),(Kz p),(76,some (.cells 80 [(.own 73 true x0.length),(.own 74 true x1.length),(.own 75 true (Nj p))])),(DJ u2),(CZ u3),MU]
end
def vY (p:ah) (s_:State) (p1:(List Source)) (x0:(List Int)) (u2:(List (Int × Int))):((List Link) × (List bg) × (List (List Int)) × (List Int) × (List (Int × Int)))→St:=
  fun zz=>match zz with|(p2,u1,u0,x1,u3)=> ⟨(VA s_ p),(afs x1 p p1 p2 u0 u1 x0 u2 u3)⟩
def CO (p:ah) (s_:State) (p1:(List Source)) (x0:(List Int)) (u0:(List (Int × Int))):(aM ((List bg) × (List (List Int)) × (List (Int × Int)) × Int) (Ex ((List Link) × (List bg) × (List (List Int)) × (List Int) × (List (Int × Int))) (aA × (List Bool) × Int)))→Exit→St→Prop:=
  LQ 2 [] (vR p s_ p1 x0 u0) (vY p s_ p1 x0 u0) gq
section
variable (s_:State) (u4:Int) (u6:(List aD)) (u7:Int) (u8:Int) (x2:(List af)) (x0:(List Int)) (x1:(List Int)) (u5:(List (af × Int))) (p:ah) (p1:(List Source)) (p2:(List Link)) (p3:(List aD)) (u0:(List (List Int))) (u1:(List bg)) (u2:(List (Int × Int))) (u3:(List (Int × Int)))
abbrev afr:List (Nat × TV):=[(2,(vP 63 0)),(gH s_),(4,(vP 65 0)),(8,(vI u4)),(9,(vP 71 0)),(10,(vP 76 0)),uq,qR,pJ,(qI u6),(116,(vI u7)),(117,(vI u8))]
abbrev sF:Nat × Option Ob:=(75,some (WW x2))
abbrev tF:Nat × Option Ob:=(76,some (.cells 80 [(.own 73 true x0.length),(.own 74 true x1.length),(.own 75 true x2.length)]))
abbrev Eb:Nat × Option Ob:=(79,some (aaY u5))
abbrev WL:List (Nat × Option Ob):=[(eO p p1 p2 p3),bY,(T9 u0),(W9 u0 u1),(Mg u1),(nN x0),(qp x1),(sF x2),(tF x2 x0 x1),(DJ u2),(CZ u3),(Eb u5)]
end
def vV (p:ah) (s_:State) (p1:(List Source)) (x0:(List Int)) (u2:(List (Int × Int))) (p2:(List Link)) (x1:(List Int)) (u3:(List (Int × Int))):((List aD) × Int × (List bg) × (List (List Int)) × (List af) × (List (af × Int)) × (List aD) × Int × Int)→St:=
  fun zz=>match zz with|(p3,u4,u1,u0,x2,u5,u6,u7,u8)=> ⟨(afr s_ u4 u6 u7 u8),(WL x2 x0 x1 u5 p p1 p2 p3 u0 u1 u2 u3)⟩
section
variable (u6:Int) (p:ah) (p1:(List Source)) (p2:(List Link)) (u5:(List aD)) (u0:(List (List Int))) (u1:(List bg)) (x0:(List Int)) (x1:(List Int)) (u2:(List af)) (u3:(List (Int × Int))) (u4:(List (Int × Int))) (u7:(List (af × Int)))
abbrev aaB:List (Nat × TV):=[(2,(vP 63 0)),(4,(vP 65 0)),(8,(vI u6)),(9,(vP 71 0)),(10,(vP 76 0)),uq,qR,pJ]
abbrev acA:St:=⟨(aaB u6),(WL u2 x0 x1 u7 p p1 p2 u5 u0 u1 u3 u4)⟩
end
def wU (p:ah) (p1:(List Source)) (x0:(List Int)) (u3:(List (Int × Int))) (p2:(List Link)) (x1:(List Int)) (u4:(List (Int × Int))):((List aD) × Int × (List bg) × (List (List Int)) × (List af) × (List (af × Int)))→St:=
  fun zz=>match zz with|(u5,u6,u1,u0,u2,u7)=>(acA u6 p p1 p2 u5 u0 u1 x0 x1 u2 u3 u4 u7)
def qj (p:ah) (s_:State) (p1:(List Source)) (x0:(List Int)) (u0:(List (Int × Int))) (p2:(List Link)) (x1:(List Int)) (u1:(List (Int × Int))):(aM ((List aD) × Int × (List bg) × (List (List Int)) × (List af) × (List (af × Int)) × (List aD) × Int × Int) (Ex ((List aD) × Int × (List bg) × (List (List Int)) × (List af) × (List (af × Int))) (aA × (List Bool) × Int)))→Exit→St→Prop:=
  LQ 4 [] (vV p s_ p1 x0 u0 p2 x1 u1) (wU p p1 x0 u0 p2 x1 u1) gq
section
variable (s_:State) (u6:Int) (u0:Int) (u1:(List aD)) (u7:Int) (u9:Int) (p:ah) (p1:(List Source)) (p2:(List Link)) (p3:(List aD)) (u2:(List (List Int))) (u3:(List bg)) (x0:(List Int)) (x1:(List Int)) (x2:(List af)) (u4:(List (Int × Int))) (u5:(List (Int × Int))) (u8:(List (af × Int)))
abbrev adO:List (Nat × TV):=[(2,(vP 63 0)),(gH s_),(4,(vP 65 0)),(8,(vI u6)),(9,(vP 71 0)),(10,(vP 76 0)),uq,qR,pJ,(18,(vI u0)),(xJ u1 u0),(qI u1),(116,(vI u7)),(117,(vI u0)),(Ae u1 u0),(134,(vI u9))]
abbrev QV:List (Nat × Option Ob):=[(eO p p1 p2 p3),bY,(T9 u2),(71,some (.cells 151 [(.own 115 false u3.length),(.own 70 true u2.length)])),(nN x0),(qp x1),(sF x2),(tF x2 x0 x1),(DJ u4),(CZ u5),(Eb u8),(115,some (bZ 157 2 bg.cell u3))]
end
def wN (p:ah) (s_:State) (p1:(List Source)) (x0:(List Int)) (u4:(List (Int × Int))) (p2:(List Link)) (x1:(List Int)) (u5:(List (Int × Int))) (p3:(List aD)) (u6:Int) (x2:(List af)) (u1:(List aD)) (u7:Int) (u0:Int):((List bg) × (List (List Int)) × (List (af × Int)) × Int)→St:=
  fun zz=>match zz with|(u3,u2,u8,u9)=> ⟨(adO s_ u6 u0 u1 u7 u9),(QV p p1 p2 p3 u2 u3 x0 x1 x2 u4 u5 u8)⟩
section
variable (s_:State) (u4:Int) (u5:(List aD)) (u6:Int) (u7:Int) (p:ah) (p1:(List Source)) (p2:(List Link)) (p3:(List aD)) (u0:(List (List Int))) (u1:(List bg)) (x0:(List Int)) (x1:(List Int)) (x2:(List af)) (u2:(List (Int × Int))) (u3:(List (Int × Int))) (u8:(List (af × Int)))
abbrev afq:St:=⟨(afr s_ u4 u5 u6 u7),(QV p p1 p2 p3 u0 u1 x0 x1 x2 u2 u3 u8)⟩
end
def vJ (p:ah) (s_:State) (p1:(List Source)) (x0:(List Int)) (u2:(List (Int × Int))) (p2:(List Link)) (x1:(List Int)) (u3:(List (Int × Int))) (p3:(List aD)) (u4:Int) (x2:(List af)) (u5:(List aD)) (u6:Int) (u7:Int):((List bg) × (List (List Int)) × (List (af × Int)))→St:=
  fun zz=>match zz with|(u1,u0,u8)=>(afq s_ u4 u5 u6 u7 p p1 p2 p3 u0 u1 x0 x1 x2 u2 u3 u8)
def Di (p:ah) (s_:State) (p1:(List Source)) (x0:(List Int)) (u0:(List (Int × Int))) (p2:(List Link)) (x1:(List Int)) (u1:(List (Int × Int))) (p3:(List aD)) (u2:Int) (x2:(List af)) (u3:(List aD)) (u4:Int) (u5:Int):(aM ((List bg) × (List (List Int)) × (List (af × Int)) × Int) (Ex ((List bg) × (List (List Int)) × (List (af × Int))) (aM ((List aD) × Int × (List bg) × (List (List Int)) × (List af) × (List (af × Int)) × (List aD) × Int × Int) (Ex ((List aD) × Int × (List bg) × (List (List Int)) × (List af) × (List (af × Int))) (aA × (List Bool) × Int)))))→Exit→St→Prop:=
  LQ 6 [5] (wN p s_ p1 x0 u0 p2 x1 u1 p3 u2 x2 u3 u4 u5) (vJ p s_ p1 x0 u0 p2 x1 u1 p3 u2 x2 u3 u4 u5) (qj p s_ p1 x0 u0 p2 x1 u1)
section
variable (u0:Network) (p:ah) (p1:(List Source)) (p2:(List Link)) (u4:(List aD)) (u2:(List Int)) (x1:(List Int)) (u1:(List af)) (u3:(List (Int × Int))) (u5:(List (af × Int)))
abbrev abn:List (Nat × TV):=[(2,(vP 63 0)),(4,(vP 65 0)),(9,(vP 71 0)),(10,(vP 76 0)),qR,pJ,(162,(vP 120 0))]
abbrev yQ:Nat × Option Ob:=(71,some (.cells 151 [(.own 72 false u0.arcs.length),(.d (Xo u0))]))
abbrev yR:Nat × Option Ob:=(72,some (Zb u0))
abbrev acJ:List (Nat × Option Ob):=[(eO p p1 p2 u4),bY,(yQ u0),(yR u0),(nN u2),(qp x1),(sF u1),(tF u1 u2 x1),(CZ u3),(Eb u5),(120,none)]
abbrev afY:St:=⟨abn,(acJ u0 p p1 p2 u4 u2 x1 u1 u3 u5)⟩
end
def DY (p:ah) (p1:(List Source)) (p2:(List Link)) (x1:(List Int)) (u3:(List (Int × Int))) (u4:(List aD)) (u1:(List af)) (u5:(List (af × Int))) (u0:Network):(List Int)→St:=
  fun u2=>(afY u0 p p1 p2 u4 u2 x1 u1 u3 u5)
section
variable (p:ah) (p1:(List Source)) (p2:(List Link)) (u4:(List aD)) (u0:Network) (u2:(List Int)) (u3:(List Int)) (u1:(List af)) (u5:(List (af × Int)))
abbrev ZC:List (Nat × TV):=[(2,(vP 63 0)),(4,(vP 65 0)),(9,(vP 71 0)),(10,(vP 76 0)),pJ,(182,(vP 121 0))]
abbrev aeg:List (Nat × Option Ob):=[(eO p p1 p2 u4),bY,(yQ u0),(yR u0),(nN u2),(qp u3),(sF u1),(tF u1 u2 u3),(Eb u5),(121,none)]
abbrev ac7:St:=⟨ZC,(aeg p p1 p2 u4 u0 u2 u3 u1 u5)⟩
end
def CW (p:ah) (p1:(List Source)) (p2:(List Link)) (u4:(List aD)) (u1:(List af)) (u5:(List (af × Int))) (u0:Network) (u2:(List Int)):(List Int)→St:=
  fun u3=>(ac7 p p1 p2 u4 u0 u2 u3 u1 u5)
section
variable (p:ah) (p1:(List Source)) (p2:(List Link)) (u4:(List aD)) (u0:Network) (u1:(List Int)) (u2:(List Int)) (u3:(List af))
abbrev Vr:List (Nat × TV):=[(2,(vP 63 0)),(4,(vP 65 0)),(9,(vP 71 0)),(10,(vP 76 0)),(208,(vP 122 0))]
abbrev acu:St:=⟨Vr,[(eO p p1 p2 u4),bY,(yQ u0),(yR u0),(nN u1),(qp u2),(sF u3),(tF u3 u1 u2),(122,none)]⟩
end
def Dg (p:ah) (p1:(List Source)) (p2:(List Link)) (u4:(List aD)) (u0:Network) (u1:(List Int)) (u2:(List Int)):(List af)→St:=
  fun u3=>(acu p p1 p2 u4 u0 u1 u2 u3)
end
end Sg
