import Derived.Test.YtpndenfhglaikaaW0
set_option linter.all false
namespace Sg
open Go Go.Proofs
set_option maxRecDepth 20000
noncomputable section
section
variable (p:ah) (s_:State) (r_:Int) (v0:Int) (v4:(Int × Network)) (v8:(List (Int × Int))) (u7:Int) (p1:(List Source)) (v5:(Int × Network)) (x0:(List Int)) (u4:(List (Int × Int))) (v9:(List (Int × Int))) (v7:Int) (u0:Int) (u2:(List ay)) (w0:Int) (x3:(Int × Network)) (p2:(List Link)) (p3:(List ay)) (x1:(List Int)) (x2:(List af)) (u5:(List (Int × Int))) (x9:(List (af × Int))) (v3:Int) (v6:(Int × Network)) (x5:(List aY)) (x6:(List (List Int))) (u1:Network) (i:Nat) (w5:(List Int)) (i1:Nat) (w6:(List Int)) (u3:(List (af × Int))) (i2:Nat) (u9:(List af))
abbrev X9:List (Nat × Option Ob):=[(zk p),bP]
abbrev aeh:St:=⟨[(2,(vP 63 0)),(lF s_),(4,(vP 65 0))],(X9 p)⟩
abbrev adJ:St:=⟨[(2,(vP 63 0)),(lF s_),(4,(vP 65 0)),(7,(vI r_))],(X9 p)⟩
abbrev adb:St:=⟨[(2,(vP 63 0)),(lF s_),(4,(vP 65 0)),(7,(vI r_)),(34,(vB (!decide (r_=0))))],(X9 p)⟩
abbrev XV:DV:=(aK none 1 (au .i64) ([]:List Int))
abbrev afy:St:=⟨[(2,(vP 63 0)),(lF s_),(4,(vP 65 0)),(mZ p)],(X9 p)⟩
abbrev XU:List (Nat × TV):=[(2,(vP 63 0)),(lF s_),(4,(vP 65 0)),(mZ p),(9,(vP 67 0))]
abbrev Wj:=(IntKind.wrap .i64 ((IntKind.wrap .i64 ((IntKind.wrap .i64 ((1:Int)+p.buses))+(p.racks.length:Int)))+1))
abbrev VB:=((Wj p).toNat)
abbrev DL:=(List.replicate (VB p) (([]:List Int):(List Int)))
abbrev QF:=((DL p).length)
abbrev acU:List CV:=[(.d nS),(.own 66 true (QF p))]
abbrev af9:Nat × Option Ob:=(67,some (.cells 161 (acU p)))
abbrev agh:=((Wj p):Int)
abbrev acv:=(yI rW (DL p))
abbrev TR:Nat × Option Ob:=(66,some (.rows 40 1 (DL p).length (acv p) none))
abbrev aac:Nat × Option Ob:=(67,some (.cells 161 [(.own 68 false (([]:List aY).length)),(.own 66 true (QF p))]))
abbrev abg:Nat × Option Ob:=(68,some (cu 170 2 aY.cell ([]:List aY)))
abbrev WQ:=(aC (au .i64) (L6 p))
abbrev WJ:=(aC af.cell (Pg p))
abbrev ack:List (Nat × Option Ob):=[(zk p),bP,(TR p),(aac p),abg,(UG p),(LV p),(JH p),(UM p),(73,some Xt),Ut,Lu]
abbrev Xo:Nat × TV:=(15,(adu p v0))
abbrev MB:Nat × Option Ob:=(66,some (.rows 40 1 v4.2.from_.length (yI rW v4.2.from_) none))
abbrev MU:Ob:=(QW 3 3 false false 1 1 (au .i64) (au .i64) (jF NP v0 v4.1 v8))
abbrev FB:Ob:=(cu 170 2 aY.cell v4.2.arcs)
abbrev adH:List (Nat × Option Ob):=[(zk p),bP,(MB v4),(67,some (.cells 161 [(.own 83 false v4.2.arcs.length),(.own 66 true v4.2.from_.length)])),(UG p),(LV p),(JH p),(UM p),(73,some (MU v0 v4 v8)),Ut,Lu,(83,some (FB v4))]
abbrev Oe:=(CY (au .i64) (jF NP v0 v4.1 v8))
abbrev Na:=(CU (au .i64) (jF NP v0 v4.1 v8))
abbrev aah:List (Nat × TV):=[(2,(vP 63 0)),(lF s_),(4,(vP 65 0)),(mZ p),(9,(vP 67 0)),(10,(vP 72 0)),qV,pG,nH,(GV p),(Gy p),(68,(k3 v0))]
abbrev aeN:Nat × Option Ob:=(67,some (.cells 161 [(.own 68 false v4.2.arcs.length),(.own 66 true v4.2.from_.length)]))
abbrev X7:Nat × TV:=(17,(k99 p u7))
abbrev af5:List (Nat × Option Ob):=[(M8 p p1),bP,(MB v5),(67,some (.cells 161 [(.own 91 false v5.2.arcs.length),(.own 66 true v5.2.from_.length)])),(mU x0),(LV p),(JH p),(XQ p x0),(CP u4),(74,some (MU u7 v5 v9)),Lu,(91,some (FB v5))]
abbrev aaT:List (Nat × TV):=[(2,(vP 63 0)),(lF s_),(4,(vP 65 0)),(mZ p),(9,(vP 67 0)),(10,(vP 72 0)),qV,pG,nH,(GA p),(G7 p),(90,(k3 u7))]
abbrev agN:List (Nat × TV):=[(2,(vP 63 0)),(lF s_),(4,(vP 65 0)),(8,(vI v7)),(9,(vP 67 0)),(10,(vP 72 0)),qV,pG,nH,(18,(vI u0)),(Eg u2 u0),(xZ u2),(116,(vI w0)),(117,(vI u0))]
abbrev XF:=(IntKind.wrap .i64 ((IntKind.wrap .i64 ((1:Int)+p.buses))+u0))
abbrev af7:Nat × Option Ob:=(67,some (.cells 161 [(.own 111 false x3.2.arcs.length),(.own 66 true x3.2.from_.length)]))
abbrev abS:List (Nat × Option Ob):=[(eF p p1 p2 p3),bP,(MB x3),(af7 x3),(mU x0),(oD x1),(qJ x2),(qD x2 x0 x1),(CP u4),(Da u5),(EM x9),(111,some (FB x3))]
abbrev Uj:=(at' [(JZ u2 u0).e0,(JZ u2 u0).e1] v3.toNat)
abbrev Wz:Nat × TV:=(21,(vI (Uj u0 u2 v3)))
abbrev V6:List DV:=[(.int .i64 (Uj u0 u2 v3))]
abbrev agq:=(IntKind.wrap .i64 ((1:Int)+(Uj u0 u2 v3)))
abbrev acQ:Nat × Option Ob:=(67,some (.cells 161 [(.own 115 false v6.2.arcs.length),(.own 66 true v6.2.from_.length)]))
abbrev XO:Nat × Option Ob:=(115,some (FB v6))
abbrev aa5:List (Nat × TV):=[(2,(vP 63 0)),(lF s_),(4,(vP 65 0)),(8,(vI v7)),(9,(vP 67 0)),(10,(vP 72 0)),qV,pG,nH,(18,(vI u0)),(Eg u2 u0),(xZ u2),(116,(vI w0)),(117,(vI u0)),(Gz u2 u0),(134,(k3 v3))]
abbrev adF:List (Nat × TV):=[(2,(vP 63 0)),(lF s_),(4,(vP 65 0)),(8,(vI v7)),(9,(vP 67 0)),(10,(vP 72 0)),qV,pG,nH,(xZ u2),(116,(vI w0)),(117,(k3 u0))]
abbrev acV:Nat × Option Ob:=(67,some (.cells 161 [(.own 68 false x5.length),(.d (aK (some true) 1 (Jl 1 (au .i64)) x6))]))
abbrev agt:List (Nat × Option Ob):=[(yu u1),(xU u1)]
abbrev afo:=((at' u1.arcs ((IntKind.wrap .i64 (((BitVec.ofInt (IntKind.bits .i64) (at' (u4.map Prod.snd) i) ^^^ BitVec.ofInt (IntKind.bits .i64) 1).toNat:Int))).toNat)).left)
abbrev aaO:=(w5.set ((at' (u4.map Prod.fst) i).toNat) (afo u4 u1 i))
abbrev RV:=(aC (au .i64) (aaO u4 u1 i w5))
abbrev agy:=(jZ (aC (au .i64) w5) ((at' (u4.map Prod.fst) i).toNat) 0 [(.int .i64 (afo u4 u1 i))])
abbrev acJ:Ob:=(cu 3 1 (au .i64) (aaO u4 u1 i w5))
abbrev ac0:=((aaO u4 u1 i w5).length)
abbrev aeS:=(IntKind.wrap .i64 (((at' p2 ((at' (u5.map Prod.fst) i1).toNat)).most) - ((at' u1.arcs ((at' (u5.map Prod.snd) i1).toNat)).left)))
abbrev Zm:=(w6.set ((at' (u5.map Prod.fst) i1).toNat) (aeS p2 u5 u1 i1))
abbrev Sc:=(aC (au .i64) (Zm p2 u5 u1 i1 w6))
abbrev adZ:=(jZ (aC (au .i64) w6) ((at' (u5.map Prod.fst) i1).toNat) 0 [(.int .i64 (aeS p2 u5 u1 i1))])
abbrev ac1:Ob:=(cu 3 1 (au .i64) (Zm p2 u5 u1 i1 w6))
abbrev abK:=((Zm p2 u5 u1 i1 w6).length)
abbrev XY:List CV:=[(cI ((at' (u3.map Prod.fst) i2).e0)),(cI ((at' (u3.map Prod.fst) i2).e1))]
abbrev ZE:List (Nat × TV):=[(2,(vP 63 0)),(4,(vP 65 0)),(9,(vP 67 0)),(10,(vP 72 0)),(26,(vP 121 0)),(27,(vI (at' (u3.map Prod.snd) i2))),(208,(vP 118 0))]
abbrev SH:=(((at' (u3.map Prod.fst) i2).e0).toNat)
abbrev aaL:=(at' u1.arcs ((IntKind.wrap .i64 (((BitVec.ofInt (IntKind.bits .i64) (at' (u3.map Prod.snd) i2) ^^^ BitVec.ofInt (IntKind.bits .i64) 1).toNat:Int))).toNat))
abbrev YC:=(u9.set (SH u3 i2) (⟨(aaL u1 u3 i2).left,(at' u9 (SH u3 i2)).e1⟩:af))
abbrev Rc:=(aC af.cell (YC u1 u3 i2 u9))
abbrev aed:List DV:=[(.int .i64 ((aaL u1 u3 i2).left))]
abbrev aes:=(jZ (aC af.cell u9) (SH u3 i2) 0 (aed u1 u3 i2))
abbrev afW:Ob:=(cu 164 2 af.cell (YC u1 u3 i2 u9))
abbrev afl:=((YC u1 u3 i2 u9).length)
abbrev Z6:=(u9.set (SH u3 i2) (⟨(at' u9 (SH u3 i2)).e0,(aaL u1 u3 i2).left⟩:af))
abbrev Rv:=(aC af.cell (Z6 u1 u3 i2 u9))
abbrev ac2:=(jZ (aC af.cell u9) (SH u3 i2) 1 (aed u1 u3 i2))
abbrev afa:Ob:=(cu 164 2 af.cell (Z6 u1 u3 i2 u9))
abbrev afZ:=((Z6 u1 u3 i2 u9).length)
abbrev IY:=(List.replicate p.buses.toNat (false:Bool))
abbrev WX:Ob:=(cu 4 1 aj (IY p))
abbrev TH:Nat × Option Ob:=(122,some (WX p))
abbrev WE:=((IY p).length)
abbrev U7:Nat × Option Ob:=(123,some (.cells 27 [(.own 122 true (WE p))]))
abbrev Q8:=(aC aj (IY p))
abbrev aex:List (Nat × TV):=[(2,(vP 63 0)),(4,(vP 65 0)),(10,(vP 72 0)),(28,(vP 123 0)),(235,(.v (.one (.fn 121 0 1 (AU [(.ptr 124 0)])))))]
abbrev abO:Ob:=(.cells 161 [(.d (aK none 2 aY.cell u1.arcs)),(.d (Jw u1))])
abbrev acd:Ob:=(.cells 157 [(.d (lV [(aK none 2 aY.cell u1.arcs),(Jw u1)] 0))])
abbrev WB:DV:=(lV [(lV [(aK none 2 aY.cell u1.arcs),(Jw u1)] 0)] 0)
abbrev YT:TV:=(vD (.fn 121 1 (nN [(WB u1)])))
abbrev agn:Nat × TV:=(235,(YT u1))
abbrev adg:List (Nat × TV):=[(2,(vP 63 0)),(4,(vP 65 0)),(10,(vP 72 0)),(28,(vP 123 0)),(agn u1)]
abbrev acL:List CV:=[(.d (WB u1))]
end
theorem zy (p:ah) (s_:State) {r:(ai × (List Bool) × Int)} (h:fo p s_=some r):Fn Try.prog 32 (k91 s_ p) [] (.iP [(.agg [(.d (aK none 1 (au .i64) r.1.sources)),(.d (aK none 1 (au .i64) r.1.links)),(.d (aK none 2 af.cell r.1.racks))]),(sD (aK none 1 aj r.2.1)),(sI r.2.2)]) []:=by
 refine fN tT Try.func32 rfl rfl fun B=> ?_
 show bJ _ _ _ _ _ _ (iU r) _
 unfold fo at h
 refine sz tT (aeh p s_) {fr:=[(0,63),(1,64),(2,65)] } [64] ?_
 refine aQ (aQ (bE h fun r_ hr_ h=> ?_))
 have q0:=eH p s_ hr_
 refine rg tT (adJ p s_ r_) [_] {an:=[(2,cA q0 [])] } [] ⟨q0,trivial⟩ ?_
 refine sz tT (adb p s_ r_) {} [] ?_
 refine bI h (fun hb9 h=> ?_) (fun hb9 h=> ?_)
 ·refine ct hb9 ?_
  refine sz tT ⟨[(4,(vD (lV [nS,nS,nS] 0))),(5,(vD nS)),(6,(vI r_))],[]⟩ {} [65] ?_
  refine aI (bM.le (st':=⟨[(4,(vD (lV [XV,XV,(aK none 2 af.cell ([]:List af))] 0))),(5,(vD (aK none 1 aj ([]:List Bool)))),(6,(vI r_))],[]⟩) ⟨⟨⟨_,rfl,eO.v (eG.one (dO.d (K8 ⟨gV.nil',gV.nil',gV.nil',trivial⟩)))⟩,⟨_,rfl,eO.v (eG.one (dO.d gV.nil'))⟩,tR,trivial⟩,trivial⟩) ?_
  refine aR ?_
  obtain rfl:=oi h
  exact rl [(.agg [(.d XV),(.d XV),(.d (aK none 2 af.cell ([]:List af)))]),(sD (aK none 1 aj ([]:List Bool))),(sI r_)]
 ·refine cf hb9 ?_
  refine aP (sz tT (afy p s_) {} [] ?_)
  refine aQ (aO h fun⟨a1,a2,a3⟩ h=> ?_)
  refine ri tT ⟨(XU p s_),[(zk p),bP,(66,some (.arr 40 1 (DL p).length (fun _ j=>[nS].getD j .nilp))),(af9 p)]⟩ [_,(agh p)=(Wj p),_,_,(DL p).length=(VB p),aG (VB p) 1 (fun _ j=>[nS].getD j .nilp) (fun _ j=>[nS].getD j .nilp)] {an:=[(2, .arr (DL p).length (fun _ j=>[nS].getD j .nilp))],fr:=[(2,66),(4,67)] } [] ⟨a1,rfl,a2,a3,(List.length_replicate),(iq _ _ _),trivial⟩ (.trans (bM.Tz (b:=66) (E:=40) (esz:=1) (len:=(DL p).length) (el:=(fun _ j=>[nS].getD j .nilp)) (el':=yI rW (DL p)) (by kernel_rfl) (fun i hi j hj=>match j,hj with|0,_=>Mi _ _ _ _ _ _ _ _)) (.trans (fz ⟨(XU p s_),[(zk p),bP,(TR p),(af9 p)]⟩ []) (.trans (bM.zi (E:=0) (esz:=0) (E0:=161) (cs:=(acU p)) (p:=67) (q:=0) (b:=68) (esz0:=0) (el0:=fun _ _=> .nilp) (ob:= .arr 170 2 0 (aC aY.cell ([]:List aY))) (fun _ _ _ _ h=> .inl ⟨h,rfl⟩) (by kernel_rfl) (by kernel_rfl) (by kernel_rfl)) (.trans (fz ⟨(XU p s_),[(zk p),bP,(TR p),(67,some (.cells 161 [(.own 68 false 0),(.own 66 true (QF p))])),(68,some (.arr 170 2 0 (aC aY.cell ([]:List aY))))]⟩ []) (bM.le (st':=⟨(XU p s_),[(zk p),bP,(TR p),(aac p),abg]⟩) ⟨⟨tR,tR,tR,tR,tR,trivial⟩,(hN 3 ⟨rfl,bA ⟨cW,dO.refl _,trivial⟩,⟨rfl,oW,trivial⟩⟩)⟩))))) ?_
  refine aQ (aO h fun⟨a1,a2,a3,a4,a5,a6,a7,a8,a9⟩ h=> ?_)
  refine dg tT mX ⟨[(2,(vP 63 0)),(lF s_),(4,(vP 65 0)),(mZ p),(9,(vP 67 0)),(10,(vP 72 0))],[(zk p),bP,(TR p),(aac p),abg,(UG p),(LV p),(JH p),(UM p)]⟩ [_,((p.sources.length:Int):Int)=(p.sources.length:Int),_,_,(L6 p).length=(Ux p),aG (Ux p) 1 (fun _ j=>[(.int .i64 0)].getD j .nilp) (WQ p),_,((p.links.length:Int):Int)=(p.links.length:Int),_,_,(Lx p).length=(O6 p),aG (O6 p) 1 (fun _ j=>[(.int .i64 0)].getD j .nilp) (RL p),_,((p.racks.length:Int):Int)=(p.racks.length:Int),_,_,(Pg p).length=(Vb p),aG (Vb p) 2 (fun _ j=>[(.int .i64 0),(.int .i64 0)].getD j .nilp) (WJ p)] {an:=[(3, .arr (L6 p).length (WQ p)),(7, .arr (Lx p).length (RL p)),(11, .arr (Pg p).length (WJ p))],fr:=[(3,69),(7,70),(11,71),(13,72)] } [] ⟨a1,rfl,a2,a3,(List.length_replicate),(dQ _ _ _ _ _ (fun j hj=>(match j,hj with|0,_=>rfl))),a4,rfl,a5,a6,(List.length_replicate),(dQ _ _ _ _ _ (fun j hj=>(match j,hj with|0,_=>rfl))),a7,rfl,a8,a9,(List.length_replicate),(dQ _ _ _ _ _ (fun j hj=>(match j,hj with|0,_=>rfl|1,_=>rfl))),trivial⟩ ?_
  refine sz tT ⟨(U5 s_ p),(ack p)⟩ {an:=[(0, .map 0 (CY (au .i64) ([]:(List (Int × Int)))) (CU (au .i64) ([]:(List (Int × Int)))) []),(1, .map 0 (CY (au .i64) ([]:(List (Int × Int)))) (CU (au .i64) ([]:(List (Int × Int)))) []),(2, .map 0 (CY af.cell ([]:(List (af × Int)))) (CU (au .i64) ([]:(List (af × Int)))) [])],fr:=[(0,73),(1,74),(2,75)] } [] ?_
  refine aQ (sz tT ⟨[(2,(vP 63 0)),(lF s_),(4,(vP 65 0)),(mZ p),(9,(vP 67 0)),(10,(vP 72 0)),qV,pG,nH,(GV p),(Gy p),(68,(vI 0))],(ack p)⟩ {} [] ?_)
  refine bE h fun y hy h=> ?_
  refine aL [] (zK p s_) (zM p s_) iU hy (fun s f h=> ?_) ?_
  ·clear hy
   show bJ _ _ _ _ _ _ ((G6 p s_) f) _
   unfold jr at h
   obtain⟨n0,n1,v8,v0⟩:=s
   refine sz tT ⟨[(2,(vP 63 0)),(lF s_),(4,(vP 65 0)),(mZ p),(9,(vP 67 0)),(10,(vP 72 0)),qV,pG,nH,(GV p),(Gy p),(68,(vI v0)),(69,(vB (decide (v0<(p.sources.length:Int)))))],(RJ p n1 n0 v8)⟩ {} [] ?_
   refine aQ ?_
   refine bI h (fun hb1 h=> ?_) (fun hb1 h=> ?_)
   ·refine ct hb1 ?_
    refine aP (aQ (aB (aQ (aO h fun a1 h=> ?_))))
    refine rg tT ⟨[(2,(vP 63 0)),(lF s_),(4,(vP 65 0)),(mZ p),(9,(vP 67 0)),(10,(vP 72 0)),qV,pG,nH,(14,(vI v0)),(Xo p v0),(GV p),(Gy p),(68,(vI v0))],(RJ p n1 n0 v8)⟩ [_] {fr:=[(3,82)] } [82] ⟨a1,trivial⟩ ?_
    refine aQ (bE h fun ui hr_1 h=> ?_)
    have q0:=fU p s_ v0 hr_1
    refine rg tT ⟨[(2,(vP 63 0)),(lF s_),(4,(vP 65 0)),(mZ p),(9,(vP 67 0)),(10,(vP 72 0)),qV,pG,nH,(14,(vI v0)),(Xo p v0),(GV p),(Gy p),(68,(vI v0)),(76,(vB ui))],(RJ p n1 n0 v8)⟩ [_] {an:=[(3,cA q0 [])] } [] ⟨q0,trivial⟩ ?_
    refine bI h (fun hb h=> ?_) (fun hb h=> ?_)
    ·refine ct hb ?_
     refine bE h fun v4 hr_2 h=> ?_
     have q0:=rk [(0,67),(1,68),(2,66),(3,83)] (bY 0 (IntKind.wrap .i64 ((1:Int)+((at' p.sources v0.toNat).bus))) ((at' p.sources v0.toNat).power) 0 (⟨n0,n1⟩:Network) hr_2)
     refine rg tT ⟨(aeR p s_ v0),(adH p v0 v4 v8)⟩ [_,FU [some .i64] 1 1 v8.length (CY (au .i64) v8) (CU (au .i64) v8) [(.int .i64 v0)] [(cI v4.1)] [] (jF NP v0 v4.1 v8).length (Oe v0 v4 v8) (Na v0 v4 v8)] {an:=[(8,cA q0 [67,68,66]),(9, .map (jF NP v0 v4.1 v8).length (Oe v0 v4 v8) (Na v0 v4 v8) [])] } [] ⟨q0,(yg (fun _=>rfl) (fun _ _=>rfl) v8 v0 v4.1 rfl rfl),trivial⟩ ?_
     refine ri tT ⟨(aah p s_ v0),(adH p v0 v4 v8)⟩ [] {} [] trivial (bM.fin (st':=⟨(aah p s_ v0),[(zk p),bP,(MB v4),(aeN v4),(68,some (FB v4)),(UG p),(LV p),(JH p),(UM p),(73,some (MU v0 v4 v8)),Ut,Lu]⟩) (cs:=[]) ⟨[],[(63,63),(65,65),(66,66),(67,67),(83,68),(69,69),(70,70),(71,71),(72,72),(73,73),(74,74),(75,75)]⟩ [2,3,4,8,9,10,11,12,13,66,67,68] (by kernel_rfl) trivial) ?_
     obtain rfl:=oi h
     exact lN
    ·refine cf hb ?_
     refine aP (rz tT ⟨(aah p s_ v0),(RJ p n1 n0 v8)⟩ {} [] ?_)
     obtain rfl:=oi h
     exact lN
   ·refine cf hb1 ?_
    refine aI (fz ⟨(U5 s_ p),(RJ p n1 n0 v8)⟩ []) ?_
    refine aX ?_
    obtain rfl:=oi h
    exact lB
  ·clear hy
   cases y with
   |brk z=>
    obtain⟨p1,ue,uc,x0,u4⟩:=z
    unfold gm
    refine⟨_, .refl, ?_⟩
    refine aQ (sz tT ⟨[(2,(vP 63 0)),(lF s_),(4,(vP 65 0)),(mZ p),(9,(vP 67 0)),(10,(vP 72 0)),qV,pG,nH,(GA p),(G7 p),(90,(vI 0))],(acT p p1 x0 uc ue u4)⟩ {} [] ?_)
    refine bE h fun y1 hy h=> ?_
    refine aL [] (zD p s_ p1 x0 u4) (zG p s_ p1 x0 u4) iU hy (fun s f h=> ?_) ?_
    ·clear hy
     show bJ _ _ _ _ _ _ ((Gt p s_ p1 x0 u4) f) _
     unfold jo at h
     obtain⟨w7,w3,v9,u7⟩:=s
     refine sz tT ⟨[(2,(vP 63 0)),(lF s_),(4,(vP 65 0)),(mZ p),(9,(vP 67 0)),(10,(vP 72 0)),qV,pG,nH,(GA p),(G7 p),(90,(vI u7)),(91,(vB (decide (u7<(p.links.length:Int)))))],(QY p v9 p1 w3 w7 x0 u4)⟩ {} [] ?_
     refine aQ ?_
     refine bI h (fun hb3 h=> ?_) (fun hb3 h=> ?_)
     ·refine ct hb3 ?_
      refine aP (aQ (aB (aQ (aO h fun a1 h=> ?_))))
      refine rg tT ⟨[(2,(vP 63 0)),(lF s_),(4,(vP 65 0)),(mZ p),(9,(vP 67 0)),(10,(vP 72 0)),qV,pG,nH,(16,(vI u7)),(X7 p u7),(GA p),(G7 p),(90,(vI u7))],(QY p v9 p1 w3 w7 x0 u4)⟩ [_] {fr:=[(3,90)] } [90] ⟨a1,trivial⟩ ?_
      refine aQ (bE h fun uj hr_3 h=> ?_)
      have q0:=dL (⟨p.buses,p1,p.links,p.racks⟩:ah) s_ u7 hr_3
      refine rg tT ⟨[(2,(vP 63 0)),(lF s_),(4,(vP 65 0)),(mZ p),(9,(vP 67 0)),(10,(vP 72 0)),qV,pG,nH,(16,(vI u7)),(X7 p u7),(GA p),(G7 p),(90,(vI u7)),(98,(vB uj))],(QY p v9 p1 w3 w7 x0 u4)⟩ [_] {an:=[(3,cA q0 [])] } [] ⟨q0,trivial⟩ ?_
      refine bI h (fun hb2 h=> ?_) (fun hb2 h=> ?_)
      ·refine ct hb2 ?_
       refine bE h fun v5 hr_4 h=> ?_
       have q0:=rk [(0,67),(1,68),(2,66),(3,91)] (bY (IntKind.wrap .i64 ((1:Int)+((at' p.links u7.toNat).a))) (IntKind.wrap .i64 ((1:Int)+((at' p.links u7.toNat).b))) (OT p u7) (OT p u7) (⟨w7,w3⟩:Network) hr_4)
       refine rg tT ⟨(aej p s_ u7),(af5 p u7 p1 v5 x0 u4 v9)⟩ [_,FU [some .i64] 1 1 v9.length (CY (au .i64) v9) (CU (au .i64) v9) [(.int .i64 u7)] [(cI v5.1)] [] (jF NP u7 v5.1 v9).length (Oe u7 v5 v9) (Na u7 v5 v9)] {an:=[(13,cA q0 [67,68,66]),(14, .map (jF NP u7 v5.1 v9).length (Oe u7 v5 v9) (Na u7 v5 v9) [])] } [] ⟨q0,(yg (fun _=>rfl) (fun _ _=>rfl) v9 u7 v5.1 rfl rfl),trivial⟩ ?_
       refine ri tT ⟨(aaT p s_ u7),(af5 p u7 p1 v5 x0 u4 v9)⟩ [] {} [] trivial (bM.fin (st':=⟨(aaT p s_ u7),[(M8 p p1),bP,(MB v5),(aeN v5),(68,some (FB v5)),(mU x0),(LV p),(JH p),(XQ p x0),(CP u4),(74,some (MU u7 v5 v9)),Lu]⟩) (cs:=[]) ⟨[],[(63,63),(65,65),(66,66),(67,67),(91,68),(69,69),(70,70),(71,71),(72,72),(73,73),(74,74),(75,75)]⟩ [2,3,4,8,9,10,11,12,13,88,89,90] (by kernel_rfl) trivial) ?_
       obtain rfl:=oi h
       exact lN
      ·refine cf hb2 ?_
       refine aP (rz tT ⟨(aaT p s_ u7),(QY p v9 p1 w3 w7 x0 u4)⟩ {} [] ?_)
       obtain rfl:=oi h
       exact lN
     ·refine cf hb3 ?_
      refine aI (fz ⟨(U5 s_ p),(QY p v9 p1 w3 w7 x0 u4)⟩ []) ?_
      refine aX ?_
      obtain rfl:=oi h
      exact lB
    ·clear hy
     cases y1 with
     |brk z=>
      obtain⟨p2,uf,ud,x1,u5⟩:=z
      unfold gm
      refine⟨_, .refl, ?_⟩
      refine aQ (sz tT ⟨[(2,(vP 63 0)),(lF s_),(4,(vP 65 0)),(mZ p),(9,(vP 67 0)),(10,(vP 72 0)),qV,pG,nH,(115,(vD (k6 p))),(116,(vI (p.racks.length:Int))),(117,(vI 0))],(acg p p1 p2 x1 ud uf x0 u4 u5)⟩ {} [] ?_)
      refine bE h fun y3 hy h=> ?_
      refine aL [] (zx p s_ p1 x0 u4 p2 x1 u5) (zO p p1 x0 u4 p2 x1 u5) iU hy (fun s f h=> ?_) ?_
      ·clear hy
       show bJ _ _ _ _ _ _ ((rJ p s_ p1 x0 u4 p2 x1 u5) f) _
       unfold jq at h
       obtain⟨p3,v7,x7,w9,x2,x9,u2,w0,u0⟩:=s
       refine sz tT ⟨[(2,(vP 63 0)),(lF s_),(4,(vP 65 0)),(8,(vI v7)),(9,(vP 67 0)),(10,(vP 72 0)),qV,pG,nH,(xZ u2),(116,(vI w0)),(117,(vI u0)),(118,(vB (decide (u0<w0))))],(Vt p p1 p2 p3 x2 x0 x1 x9 w9 x7 u4 u5)⟩ {} [] ?_
       refine aQ ?_
       refine bI h (fun hb6 h=> ?_) (fun hb6 h=> ?_)
       ·refine ct hb6 ?_
        refine aP (aQ (aB (aQ (aO h fun a1 h=> ?_))))
        refine rg tT ⟨(agN s_ v7 u0 u2 w0),(Vt p p1 p2 p3 x2 x0 x1 x9 w9 x7 u4 u5)⟩ [_] {fr:=[(3,110)] } [110] ⟨a1,trivial⟩ ?_
        refine aQ (bE h fun x3 hr_5 h=> ?_)
        have q0:=rk [(0,67),(1,68),(2,66),(3,111)] (bY (XF p u0) v7 ((at' u2 u0.toNat).power) 0 (⟨x7,w9⟩:Network) hr_5)
        refine rg tT ⟨(agN s_ v7 u0 u2 w0),(abS p p1 x0 u4 x3 p2 p3 x1 x2 u5 x9)⟩ [_] {an:=[(9,cA q0 [67,68,66])] } [] ⟨q0,trivial⟩ ?_
        refine sz tT ⟨[(2,(vP 63 0)),(lF s_),(4,(vP 65 0)),(8,(vI v7)),(9,(vP 67 0)),(10,(vP 72 0)),qV,pG,nH,(18,(vI u0)),(Eg u2 u0),(xZ u2),(116,(vI w0)),(117,(vI u0)),(Gz u2 u0),(134,(vI 0))],(abS p p1 x0 u4 x3 p2 p3 x1 x2 u5 x9)⟩ {} [] ?_
        refine bE h fun y2 hy h=> ?_
        refine aL [5] (zI p s_ p1 x0 u4 p2 x1 u5 p3 v7 x2 u2 w0 u0) (zL p s_ p1 x0 u4 p2 x1 u5 p3 v7 x2 u2 w0 u0) (rJ p s_ p1 x0 u4 p2 x1 u5) hy (fun s f h=> ?_) ?_
        ·clear hy
         show bJ _ _ _ _ _ _ ((GL p s_ p1 x0 u4 p2 x1 u5 p3 v7 x2 u2 w0 u0) f) _
         unfold fV at h
         obtain⟨w8,w4,w1,v3⟩:=s
         refine sz tT ⟨[(2,(vP 63 0)),(lF s_),(4,(vP 65 0)),(8,(vI v7)),(9,(vP 67 0)),(10,(vP 72 0)),qV,pG,nH,(18,(vI u0)),(Eg u2 u0),(xZ u2),(116,(vI w0)),(117,(vI u0)),(Gz u2 u0),(134,(vI v3)),(135,(vB (decide (v3<2))))],(Pe p p1 p2 p3 w4 w8 x0 x1 x2 u4 u5 w1)⟩ {} [] ?_
         refine aQ ?_
         refine bI h (fun hb5 h=> ?_) (fun hb5 h=> ?_)
         ·refine ct hb5 ?_
          refine aP (aQ (aB (aQ (aO h fun a1 h=> ?_))))
          refine rg tT ⟨[(2,(vP 63 0)),(lF s_),(4,(vP 65 0)),(8,(vI v7)),(9,(vP 67 0)),(10,(vP 72 0)),qV,pG,nH,(18,(vI u0)),(Eg u2 u0),(20,(vI v3)),(Wz u0 u2 v3),(xZ u2),(116,(vI w0)),(117,(vI u0)),(Gz u2 u0),(134,(vI v3))],(Pe p p1 p2 p3 w4 w8 x0 x1 x2 u4 u5 w1)⟩ [_,v3.toNat*1+1≤(Ti u2 u0).length,((Ti u2 u0).drop (v3.toNat*1)).take 1=(V6 u0 u2 v3).map .d] {an:=[(1, .vals (V6 u0 u2 v3))] } [] ⟨a1,(Uo (n:=2) (sz:=1) (Nat.le_refl _) a1),(Ub (n:=2) (sz:=1) (g:=fun q=>[(cI (at' [(JZ u2 u0).e0,(JZ u2 u0).e1] q))]) (by intro q hq;match q,hq with|0,_=>rfl|1,_=>rfl) a1),trivial⟩ ?_
          refine aQ (bE h fun ul hr_6 h=> ?_)
          have q0:=kR s_ (Uj u0 u2 v3) hr_6
          refine rg tT ⟨[(2,(vP 63 0)),(lF s_),(4,(vP 65 0)),(8,(vI v7)),(9,(vP 67 0)),(10,(vP 72 0)),qV,pG,nH,(18,(vI u0)),(Eg u2 u0),(20,(vI v3)),(Wz u0 u2 v3),(xZ u2),(116,(vI w0)),(117,(vI u0)),(Gz u2 u0),(134,(vI v3)),(140,(vB ul))],(Pe p p1 p2 p3 w4 w8 x0 x1 x2 u4 u5 w1)⟩ [_] {an:=[(2,cA q0 [])] } [] ⟨q0,trivial⟩ ?_
          refine bI h (fun hb4 h=> ?_) (fun hb4 h=> ?_)
          ·refine ct hb4 ?_
           refine bE h fun v6 hr_7 h=> ?_
           have q0:=rk [(0,67),(1,111),(2,66),(3,115)] (bY (agq u0 u2 v3) (XF p u0) ((at' u2 u0.toNat).power) 0 (⟨w8,w4⟩:Network) hr_7)
           refine rg tT ⟨(acY u2 u0 s_ v7 w0 v3),[(eF p p1 p2 p3),bP,(MB v6),(acQ v6),(mU x0),(oD x1),(qJ x2),(qD x2 x0 x1),(CP u4),(Da u5),(75,some (QW 164 3 true false 2 1 af.cell (au .i64) (jF (fun a b=>(decide (a.e0=b.e0) && (decide (a.e1=b.e1) && true))) (⟨u0,v3⟩:af) v6.1 w1))),(XO v6)]⟩ [_,FU [some .i64,some .i64] 2 1 w1.length (CY af.cell w1) (CU (au .i64) w1) [(.int .i64 u0),(.int .i64 v3)] [(cI v6.1)] [] (jF (fun a b=>(decide (a.e0=b.e0) && (decide (a.e1=b.e1) && true))) (⟨u0,v3⟩:af) v6.1 w1).length (CY af.cell (jF (fun a b=>(decide (a.e0=b.e0) && (decide (a.e1=b.e1) && true))) (⟨u0,v3⟩:af) v6.1 w1)) (CU (au .i64) (jF (fun a b=>(decide (a.e0=b.e0) && (decide (a.e1=b.e1) && true))) (⟨u0,v3⟩:af) v6.1 w1))] {an:=[(14,cA q0 [67,111,66]),(15, .map (jF (fun a b=>(decide (a.e0=b.e0) && (decide (a.e1=b.e1) && true))) (⟨u0,v3⟩:af) v6.1 w1).length (CY af.cell (jF (fun a b=>(decide (a.e0=b.e0) && (decide (a.e1=b.e1) && true))) (⟨u0,v3⟩:af) v6.1 w1)) (CU (au .i64) (jF (fun a b=>(decide (a.e0=b.e0) && (decide (a.e1=b.e1) && true))) (⟨u0,v3⟩:af) v6.1 w1)) [])] } [] ⟨q0,(yg (fun _=>rfl) (fun _ _=>rfl) w1 (⟨u0,v3⟩:af) v6.1 rfl rfl),trivial⟩ ?_
           refine ri tT ⟨(aa5 s_ v7 u0 u2 w0 v3),[(eF p p1 p2 p3),bP,(MB v6),(acQ v6),(mU x0),(oD x1),(qJ x2),(qD x2 x0 x1),(CP u4),(Da u5),(75,some (QW 164 3 true false 2 1 af.cell (au .i64) (jF (fun a b=>(decide (a.e0=b.e0) && (decide (a.e1=b.e1) && true))) (⟨u0,v3⟩:af) v6.1 w1))),(XO v6)]⟩ [] {} [] trivial (bM.fin (st':=⟨(aa5 s_ v7 u0 u2 w0 v3),[(eF p p1 p2 p3),bP,(MB v6),(af7 v6),(mU x0),(oD x1),(qJ x2),(qD x2 x0 x1),(CP u4),(Da u5),(75,some (QW 164 3 true false 2 1 af.cell (au .i64) (jF (fun a b=>(decide (a.e0=b.e0) && (decide (a.e1=b.e1) && true))) (⟨u0,v3⟩:af) v6.1 w1))),(111,some (FB v6))]⟩) (cs:=[]) ⟨[],[(63,63),(65,65),(66,66),(67,67),(69,69),(70,70),(71,71),(72,72),(73,73),(74,74),(75,75),(115,111)]⟩ [2,3,4,8,9,10,11,12,13,18,19,115,116,117,133,134] (by kernel_rfl) trivial) ?_
           obtain rfl:=oi h
           exact lN
          ·refine cf hb4 ?_
           refine aP (rz tT ⟨(aa5 s_ v7 u0 u2 w0 v3),(Pe p p1 p2 p3 w4 w8 x0 x1 x2 u4 u5 w1)⟩ {} [] ?_)
           obtain rfl:=oi h
           exact lN
         ·refine cf hb5 ?_
          refine aI (fz (afw s_ v7 u2 w0 u0 p p1 p2 p3 w4 w8 x0 x1 x2 u4 u5 w1) []) ?_
          refine aX ?_
          obtain rfl:=oi h
          exact lB
        ·clear hy
         cases y2 with
         |brk z=>
          obtain⟨ub,x8,ug⟩:=z
          unfold gm
          refine⟨_, .refl, ?_⟩
          refine ri tT ⟨(adF s_ v7 u0 u2 w0),(Pe p p1 p2 p3 x8 ub x0 x1 x2 u4 u5 ug)⟩ [] {} [] trivial (bM.fin (st':=⟨(adF s_ v7 u0 u2 w0),(Vt p p1 p2 p3 x2 x0 x1 ug x8 ub u4 u5)⟩) (cs:=[]) ⟨[],[(63,63),(65,65),(66,66),(67,67),(111,68),(69,69),(70,70),(71,71),(72,72),(73,73),(74,74),(75,75)]⟩ [2,3,4,8,9,10,11,12,13,115,116,117] (by kernel_rfl) trivial) ?_
          obtain rfl:=oi h
          exact lN
         |ret v=>
          obtain rfl:=oi h
          unfold gm
          intro e st hn ha hR
          cases e with
          |normal=>exact absurd rfl hn
          |exit id=>simp only [qA (b:=5) ha rfl,cond_false];exact hR
          |goto l=>exact hR
          |ret=>exact hR
          |panic c=>exact hR
          |outgrown=>exact hR
       ·refine cf hb6 ?_
        refine aI (fz (aek v7 p p1 p2 p3 w9 x7 x0 x1 x2 u4 u5 x9) []) ?_
        refine aX ?_
        obtain rfl:=oi h
        exact lB
      ·clear hy
       cases y3 with
       |brk z=>
        obtain⟨v1,ua,x5,x6,v2,u3⟩:=z
        unfold gm
        refine⟨_, .refl, ?_⟩
        refine aQ (aI (.trans (fi ⟨(aa4 ua),[(eF p p1 p2 v1),bP,(67,some (.cells 161 [(.own 68 false x5.length),(.d (.sl (some true) 1 x6.length (fun i j=>evD (yI rW x6 i j))))])),(KS x5),(mU x0),(oD x1),(qJ v2),(qD v2 x0 x1),(CP u4),(Da u5),(EM u3)]⟩ [x6.length=x6.length] [66] ⟨rfl,trivial⟩) (bM.le (st':=⟨(aa4 ua),[(eF p p1 p2 v1),bP,(acV x5 x6),(KS x5),(mU x0),(oD x1),(qJ v2),(qD v2 x0 x1),(CP u4),(Da u5),(EM u3)]⟩) ⟨⟨tR,tR,tR,tR,tR,tR,tR,tR,trivial⟩,(hN 2 ⟨rfl,bA ⟨dO.refl _,dO.d (gV.sl (.inr rfl) (fun i _ j hj=>match j,hj with|0,_=> .refl _)),trivial⟩,(.refl _)⟩)⟩)) ?_)
        refine bE h fun u1 hr_8 h=> ?_
        refine rg tT ⟨[(2,(vP 63 0)),(4,(vP 65 0)),(9,(vP 67 0)),(10,(vP 72 0)),qV,pG,nH],[(eF p p1 p2 v1),bP,(yu u1),(xU u1),(mU x0),(oD x1),(qJ v2),(qD v2 x0 x1),(CP u4),(Da u5),(EM u3)]⟩ [Fn Try.prog 80 [(.one (.ptr 67 0)),(sI ua)] [(acV x5 x6),(KS x5)] (.iP []) (agt u1)] {an:=[(2, .call [67,68] (.iP []) (agt u1))] } [] ⟨(Fn.leH (args:=[(.one (.ptr 67 0)),(sI ua)]) (hin:=[(67,some (.cells 161 [(.own 68 false x5.length),(.d (Po x6))])),(KS x5)]) (rK [(0,67),(1,68)] (o6 ua (⟨x5,x6⟩:Network) hr_8)) ⟨eG.refl _,eG.refl _,trivial⟩ ⟨rfl,bA ⟨dO.refl _,dO.d gV.nV,trivial⟩,(.refl _)⟩),trivial⟩ ?_
        refine aQ (bE h fun y4 hy h=> ?_)
        refine mI (Gq p p1 p2 x1 u5 v1 v2 u3 u1) (K:=3) (V:=3) (s0:=(x0)) ⟨3,3,false,false,1,1,u4.length,CY (au .i64) u4,CU (au .i64) u4,[]⟩ 73 116 (fun i=>(sI (at' (u4.map Prod.fst) i))) (fun i=>(sI (at' (u4.map Prod.snd) i))) hy [3,4] (by kernel_rfl) (by kernel_rfl) (by kernel_rfl) (fun _ _=> ⟨rfl,rfl⟩) (fun _ _=> ⟨qP _ _,qP _ _⟩) (fun _=>(bM.fin (st':=(adq u1 p p1 p2 v1 x0 x1 v2 u5 u3)) (cs:=[]) ⟨[],[(63,63),(65,65),(67,67),(68,68),(69,69),(70,70),(71,71),(72,72),(74,74),(75,75),(116,116)]⟩ [2,4,9,10,12,13,162] (by kernel_rfl) trivial)) (fun s=>by obtain⟨w5,rfl⟩: ∃q,q=s:=⟨_,rfl⟩;kernel_rfl) (fun B s i s' hi h=> ?_) ?_
        ·clear hy
         unfold kH at h
         obtain⟨w5,rfl⟩: ∃q,q=s:=⟨_,rfl⟩
         refine rwp tT (⟨[(2,(vP 63 0)),(4,(vP 65 0)),(9,(vP 67 0)),(10,(vP 72 0)),pG,nH,(22,(vI (at' (u4.map Prod.fst) i))),(23,(vI (at' (u4.map Prod.snd) i))),(162,(vP 116 0))],(acZ u1 p p1 p2 v1 w5 x1 v2 u5 u3)⟩) {fin:=⟨[],[(63,63),(65,65),(67,67),(68,68),(69,69),(70,70),(71,71),(72,72),(74,74),(75,75),(116,116)]⟩,ts:=[2,4,9,10,12,13,22,23,162] } (cs:=[]) (by kernel_rfl) trivial .refl ?_
         refine aO h fun⟨a1,a2⟩ h=> ?_
         refine di tT mX ⟨Zg,[(eF p p1 p2 v1),bP,(yu u1),(xU u1),(69,some (.arr 3 1 w5.length (RV u4 u1 i w5))),(oD x1),(qJ v2),(qD v2 w5 x1),(Da u5),(EM u3),(116,none)]⟩ [_,_,_,_,aG w5.length 1 (agy u4 u1 i w5) (RV u4 u1 i w5)] {an:=[(13, .arr 0 (RV u4 u1 i w5))] } [] ⟨a1,(tL a1),a2,(tL a2),(bL _ _ _ _ _ _ _ _ rfl (fun j hj=>(match j,hj with|0,_=>rfl))),trivial⟩ (bM.le (st':=⟨Zg,[(eF p p1 p2 v1),bP,(yu u1),(xU u1),(69,some (acJ u4 u1 i w5)),(oD x1),(qJ v2),(72,some (.cells 77 [(.own 69 true (ac0 u4 u1 i w5)),(.own 70 true x1.length),(.own 71 true v2.length)])),(Da u5),(EM u3),(116,none)]⟩) ⟨⟨tR,tR,tR,tR,tR,tR,tR,trivial⟩,(hN 4 ⟨rfl,oW,(hN 2 ⟨rfl,bA ⟨cW,dO.refl _,dO.refl _,trivial⟩,(.refl _)⟩)⟩)⟩) ?_
         obtain rfl:=oi h
         exact⟨.inl rfl,by kernel_rfl⟩
        ·clear hy
         obtain⟨u6,rfl⟩: ∃q,q=y4:=⟨_,rfl⟩
         refine aI (fz ⟨[(2,(vP 63 0)),(4,(vP 65 0)),(9,(vP 67 0)),(10,(vP 72 0)),pG,nH],[(eF p p1 p2 v1),bP,(yu u1),(xU u1),(mU u6),(oD x1),(qJ v2),(qD v2 u6 x1),(Da u5),(EM u3)]⟩ []) ?_
         refine aQ (bE h fun y5 hy h=> ?_)
         refine mI (G8 p p1 p2 v1 v2 u3 u1 u6) (K:=3) (V:=3) (s0:=(x1)) ⟨3,3,false,false,1,1,u5.length,CY (au .i64) u5,CU (au .i64) u5,[]⟩ 74 117 (fun i1=>(sI (at' (u5.map Prod.fst) i1))) (fun i1=>(sI (at' (u5.map Prod.snd) i1))) hy [3,4] (by kernel_rfl) (by kernel_rfl) (by kernel_rfl) (fun _ _=> ⟨rfl,rfl⟩) (fun _ _=> ⟨qP _ _,qP _ _⟩) (fun _=>(bM.fin (st':=(acn p p1 p2 v1 u1 u6 x1 v2 u3)) (cs:=[]) ⟨[],[(63,63),(65,65),(67,67),(68,68),(69,69),(70,70),(71,71),(72,72),(75,75),(117,117)]⟩ [2,4,9,10,13,182] (by kernel_rfl) trivial)) (fun s=>by obtain⟨w6,rfl⟩: ∃q,q=s:=⟨_,rfl⟩;kernel_rfl) (fun B s i1 s' hi h=> ?_) ?_
         ·clear hy
          unfold kI at h
          obtain⟨w6,rfl⟩: ∃q,q=s:=⟨_,rfl⟩
          refine rwp tT (⟨[(2,(vP 63 0)),(4,(vP 65 0)),(9,(vP 67 0)),(10,(vP 72 0)),nH,(24,(vI (at' (u5.map Prod.fst) i1))),(25,(vI (at' (u5.map Prod.snd) i1))),(182,(vP 117 0))],(aeu p p1 p2 v1 u1 u6 w6 v2 u3)⟩) {fin:=⟨[],[(63,63),(65,65),(67,67),(68,68),(69,69),(70,70),(71,71),(72,72),(75,75),(117,117)]⟩,ts:=[2,4,9,10,13,24,25,182] } (cs:=[]) (by kernel_rfl) trivial .refl ?_
          refine aO h fun⟨a1,a2,a3⟩ h=> ?_
          refine di tT mX ⟨aay,[(eF p p1 p2 v1),bP,(yu u1),(xU u1),(mU u6),(70,some (.arr 3 1 w6.length (Sc p2 u5 u1 i1 w6))),(qJ v2),(qD v2 u6 w6),(EM u3),(117,none)]⟩ [_,_,_,_,_,aG w6.length 1 (adZ p2 u5 u1 i1 w6) (Sc p2 u5 u1 i1 w6)] {an:=[(19, .arr 0 (Sc p2 u5 u1 i1 w6))] } [] ⟨a1,a2,(tL a2),a3,(tL a3),(bL _ _ _ _ _ _ _ _ rfl (fun j hj=>(match j,hj with|0,_=>rfl))),trivial⟩ (bM.le (st':=⟨aay,[(eF p p1 p2 v1),bP,(yu u1),(xU u1),(mU u6),(70,some (ac1 p2 u5 u1 i1 w6)),(qJ v2),(72,some (.cells 77 [(.own 69 true u6.length),(.own 70 true (abK p2 u5 u1 i1 w6)),(.own 71 true v2.length)])),(EM u3),(117,none)]⟩) ⟨⟨tR,tR,tR,tR,tR,tR,trivial⟩,(hN 5 ⟨rfl,oW,⟨rfl, .refl _,⟨rfl,bA ⟨dO.refl _,cW,dO.refl _,trivial⟩,⟨rfl, .refl _,⟨rfl, .refl _,trivial⟩⟩⟩⟩⟩)⟩) ?_
          obtain rfl:=oi h
          exact⟨.inl rfl,by kernel_rfl⟩
         ·clear hy
          obtain⟨u8,rfl⟩: ∃q,q=y5:=⟨_,rfl⟩
          refine aI (fz ⟨[(2,(vP 63 0)),(4,(vP 65 0)),(9,(vP 67 0)),(10,(vP 72 0)),nH],[(eF p p1 p2 v1),bP,(yu u1),(xU u1),(mU u6),(oD u8),(qJ v2),(qD v2 u6 u8),(EM u3)]⟩ []) ?_
          refine aQ (bE h fun y6 hy h=> ?_)
          refine mI (G9 p p1 p2 v1 u1 u6 u8) (K:=164) (V:=3) (s0:=(v2)) ⟨164,3,true,false,2,1,u3.length,CY af.cell u3,CU (au .i64) u3,[]⟩ 75 118 (fun i2=>(.agg (XY u3 i2))) (fun i2=>(sI (at' (u3.map Prod.snd) i2))) hy [3,4,5] (by kernel_rfl) (by kernel_rfl) (by kernel_rfl) (fun _ _=> ⟨rfl,rfl⟩) (fun _ _=> ⟨Qk rfl,qP _ _⟩) (fun _=>(bM.fin (st':=(abQ p p1 p2 v1 u1 u6 u8 v2)) (cs:=[]) ⟨[],[(63,63),(65,65),(67,67),(68,68),(69,69),(70,70),(71,71),(72,72),(118,118)]⟩ [2,4,9,10,208] (by kernel_rfl) trivial)) (fun s=>by obtain⟨u9,rfl⟩: ∃q,q=s:=⟨_,rfl⟩;kernel_rfl) (fun B s i2 s' hi h=> ?_) ?_
          ·clear hy
           unfold kG at h
           obtain⟨u9,rfl⟩: ∃q,q=s:=⟨_,rfl⟩
           refine rwp tT (⟨(ZE u3 i2),[(eF p p1 p2 v1),bP,(yu u1),(xU u1),(mU u6),(oD u8),(qJ u9),(qD u9 u6 u8),(118,none),(121,some (.cells 164 (XY u3 i2)))]⟩) {fr:=frf [(3,121)],fin:=⟨[],[(63,63),(65,65),(67,67),(68,68),(69,69),(70,70),(71,71),(72,72),(118,118),(121,121)]⟩,ts:=[2,4,9,10,26,27,208] } (cs:=[]) (by kernel_rfl) trivial .refl ?_
           refine bI h (fun hb7 h=> ?_) (fun _ h=> ?_)
           ·skip
            refine aI (bM.le (st':=⟨(ZE u3 i2),[(eF p p1 p2 v1),bP,(yu u1),(xU u1),(mU u6),(oD u8),(qJ u9),(qD u9 u6 u8),(118,none),(121,some (.cells 164 [(cI ((at' (u3.map Prod.fst) i2).e0)),(cI 0)]))]⟩) ⟨⟨tR,tR,tR,tR,tR,tR,tR,trivial⟩,(hN 9 ⟨rfl,bA ⟨dO.refl _,dO.of (congrArg (fun n=>CV.d (.int .i64 n)) (of_decide_eq_true hb7)),trivial⟩,trivial⟩)⟩) ?_
            refine aO h fun⟨a1,a2⟩ h=> ?_
            refine di tT mX ⟨TW,[(eF p p1 p2 v1),bP,(yu u1),(xU u1),(mU u6),(oD u8),(71,some (.arr 164 2 u9.length (Rc u1 u3 i2 u9))),(qD u9 u6 u8),(118,none)]⟩ [(0:Int)≤0∧(0:Int)<(2:Nat),(0:Int)≤1∧(1:Int)<(2:Nat),_,_,_,(0:Int)≤0∧(0:Int)<(2:Nat),_,aG u9.length 2 (aes u1 u3 i2 u9) (Rc u1 u3 i2 u9)] {an:=[(17, .arr 0 (Rc u1 u3 i2 u9))] } [] ⟨((by decide)),((by decide)),a1,(tL a1),a2,((by decide)),(tL a2),(bL _ _ _ _ _ _ _ _ rfl (fun j hj=>(match j,hj with|0,_=>rfl|1,_=>rfl))),trivial⟩ (bM.le (st':=⟨TW,[(eF p p1 p2 v1),bP,(yu u1),(xU u1),(mU u6),(oD u8),(71,some (afW u1 u3 i2 u9)),(72,some (.cells 77 [(.own 69 true u6.length),(.own 70 true u8.length),(.own 71 true (afl u1 u3 i2 u9))])),(118,none)]⟩) ⟨⟨tR,tR,tR,tR,tR,trivial⟩,(hN 6 ⟨rfl,oW,⟨rfl,bA ⟨dO.refl _,dO.refl _,cW,trivial⟩,(.refl _)⟩⟩)⟩) ?_
            obtain rfl:=oi h
            exact⟨.inl rfl,by kernel_rfl⟩
           ·skip
            refine aO h fun a1 h=> ?_
            refine aI (bM.le (st':=⟨(ZE u3 i2),[(eF p p1 p2 v1),bP,(yu u1),(xU u1),(mU u6),(oD u8),(qJ u9),(qD u9 u6 u8),(118,none),(121,some (.cells 164 [(cI ((at' (u3.map Prod.fst) i2).e0)),(cI 1)]))]⟩) ⟨⟨tR,tR,tR,tR,tR,tR,tR,trivial⟩,(hN 9 ⟨rfl,bA ⟨dO.refl _,dO.of (congrArg (fun n=>CV.d (.int .i64 n)) a1),trivial⟩,trivial⟩)⟩) ?_
            refine aO h fun⟨a1,a2⟩ h=> ?_
            refine di tT mX ⟨TW,[(eF p p1 p2 v1),bP,(yu u1),(xU u1),(mU u6),(oD u8),(71,some (.arr 164 2 u9.length (Rv u1 u3 i2 u9))),(qD u9 u6 u8),(118,none)]⟩ [(0:Int)≤0∧(0:Int)<(2:Nat),(0:Int)≤1∧(1:Int)<(2:Nat),_,_,_,(0:Int)≤1∧(1:Int)<(2:Nat),_,aG u9.length 2 (ac2 u1 u3 i2 u9) (Rv u1 u3 i2 u9)] {an:=[(17, .arr 0 (Rv u1 u3 i2 u9))] } [] ⟨((by decide)),((by decide)),a1,(tL a1),a2,((by decide)),(tL a2),(bL _ _ _ _ _ _ _ _ rfl (fun j hj=>(match j,hj with|0,_=>rfl|1,_=>rfl))),trivial⟩ (bM.le (st':=⟨TW,[(eF p p1 p2 v1),bP,(yu u1),(xU u1),(mU u6),(oD u8),(71,some (afa u1 u3 i2 u9)),(72,some (.cells 77 [(.own 69 true u6.length),(.own 70 true u8.length),(.own 71 true (afZ u1 u3 i2 u9))])),(118,none)]⟩) ⟨⟨tR,tR,tR,tR,tR,trivial⟩,(hN 6 ⟨rfl,oW,⟨rfl,bA ⟨dO.refl _,dO.refl _,cW,trivial⟩,(.refl _)⟩⟩)⟩) ?_
            obtain rfl:=oi h
            exact⟨.inl rfl,by kernel_rfl⟩
          ·clear hy
           obtain⟨w2,rfl⟩: ∃q,q=y6:=⟨_,rfl⟩
           refine aI (fz ⟨[(2,(vP 63 0)),(4,(vP 65 0)),(9,(vP 67 0)),(10,(vP 72 0))],[(eF p p1 p2 v1),bP,(yu u1),(xU u1),(mU u6),(oD u8),(qJ w2),(qD w2 u6 u8)]⟩ []) ?_
           refine aQ (aO h fun⟨a1,a2,a3⟩ h=> ?_)
           refine rg tT ⟨[(2,(vP 63 0)),(4,(vP 65 0)),(9,(vP 67 0)),(10,(vP 72 0)),(28,(vP 123 0))],[(eF p p1 p2 v1),bP,(yu u1),(xU u1),(mU u6),(oD u8),(qJ w2),(qD w2 u6 u8),(TH p),(U7 p)]⟩ [_,(p.buses:Int)=p.buses,_,_,(IY p).length=p.buses.toNat,aG p.buses.toNat 1 (fun _ j=>[(.bool false)].getD j .nilp) (Q8 p)] {an:=[(2, .arr (IY p).length (Q8 p))],fr:=[(2,122),(3,123)] } [] ⟨a1,rfl,a2,a3,(List.length_replicate),(dQ _ _ _ _ _ (fun j hj=>(match j,hj with|0,_=>rfl))),trivial⟩ ?_
           refine aQ (aQ (bE h fun um hr_9 h=> ?_))
           have q0:=rk [(0,67),(1,68),(2,124)] (jm u1 hr_9)
           refine ri tT ⟨aex,[(eF p p1 p2 v1),bP,(67,some (abO u1)),(mU u6),(oD u8),(qJ w2),(qD w2 u6 u8),(TH p),(U7 p),(124,some (.cells 157 [(.ptr 67 0)]))]⟩ [_,u1.arcs.length=u1.arcs.length] {an:=[(1,cA q0 [67,68])] } [68] ⟨q0,rfl,trivial⟩ (.trans (fz ⟨aex,[(eF p p1 p2 v1),bP,(mU u6),(oD u8),(qJ w2),(qD w2 u6 u8),(TH p),(U7 p),(124,some (acd u1))]⟩ [67]) (fz ⟨(adg u1),[(eF p p1 p2 v1),bP,(mU u6),(oD u8),(qJ w2),(qD w2 u6 u8),(TH p),(U7 p)]⟩ [124])) ?_
           refine aB (bE h fun x4 hr_10 h=> ?_)
           refine jT 125 [(2,(vP 63 0)),(28,(vP 123 0))] [] [125,63,123,122] (.iP []) [(125,some (.loop dN 0 [(2,(vP 63 0)),(28,(vP 123 0))])),(eF p p1 p2 v1),(123,some (.cells 27 [(.own 122 true x4.length)])),(122,some (cu 4 1 aj x4))] (YT u1) 121 [] (acL u1) [(125,some (.loop dN 0 [(2,(vP 63 0)),(28,(vP 123 0))])),(eF p p1 p2 v1),(U7 p),(TH p)] [(.one (.yl 125)),(sD (WB u1))] dN 0 [(2,(vP 63 0)),(28,(vP 123 0))] (by kernel_rfl) (by kernel_rfl) (by kernel_rfl) (by kernel_rfl) (by kernel_rfl) (by kernel_rfl) (by kernel_rfl) (rK [(0,125),(1,63),(2,123),(3,122)] (jI u1.arcs u1.from_ (⟨p.buses,p1,p2,v1⟩:ah) (IY p) hr_10)) (by kernel_rfl) rfl (CR.zero rfl) (bM.fin (st':=⟨(adg u1),[(eF p p1 p2 v1),bP,(mU u6),(oD u8),(qJ w2),(qD w2 u6 u8),(122,some (cu 4 1 aj x4)),(123,some (.cells 27 [(.own 122 true x4.length)]))]⟩) (cs:=[]) ⟨[],[(63,63),(65,65),(69,69),(70,70),(71,71),(72,72),(122,122),(123,123)]⟩ [2,4,10,28,235] (by kernel_rfl) trivial) ?_
           refine sj tT mX ⟨[(4,(vP 65 0)),(5,(vD (aK (some true) 1 aj x4))),(6,(vI 0))],[(65,some (.cells 77 [(.d (Rm u6)),(.d (Rm u8)),(.d (aK (some true) 2 af.cell w2))]))]⟩ [x4.length=x4.length,u6.length=u6.length,u8.length=u8.length,w2.length=w2.length] {} [69,70,71,122] ⟨rfl,rfl,rfl,rfl,trivial⟩ (fz ⟨[(4,(vD (lV [(Rm u6),(Rm u8),(aK (some true) 2 af.cell w2)] 0))),(5,(vD (aK (some true) 1 aj x4))),(6,(vI 0))],[]⟩ [65]) ?_
           refine aI (bM.le (st':=⟨[(4,(vD (lV [(yN u6),(yN u8),(aK none 2 af.cell w2)] 0))),(5,(vD (aK none 1 aj x4))),(6,(vI 0))],[]⟩) ⟨⟨⟨_,rfl,eO.v (eG.one (dO.d (K8 ⟨gV.nV,gV.nV,gV.nV,trivial⟩)))⟩,⟨_,rfl,eO.v (eG.one (dO.d gV.nV))⟩,tR,trivial⟩,trivial⟩) ?_
           refine aR ?_
           obtain rfl:=oi h
           exact rl [(.agg [(.d (yN u6)),(.d (yN u8)),(.d (aK none 2 af.cell w2))]),(sD (aK none 1 aj x4)),(sI 0)]
       |ret v=>
        obtain rfl:=oi h
        unfold gm
        intro e st hn ha hR
        cases e with
        |normal=>exact absurd rfl hn
        |exit id=>exact hR
        |goto l=>exact hR
        |ret=>exact hR
        |panic c=>exact hR
        |outgrown=>exact hR
     |ret v=>
      obtain rfl:=oi h
      unfold gm
      intro e st hn ha hR
      cases e with
      |normal=>exact absurd rfl hn
      |exit id=>exact hR
      |goto l=>exact hR
      |ret=>exact hR
      |panic c=>exact hR
      |outgrown=>exact hR
   |ret v=>
    obtain rfl:=oi h
    unfold gm
    intro e st hn ha hR
    cases e with
    |normal=>exact absurd rfl hn
    |exit id=>exact hR
    |goto l=>exact hR
    |ret=>exact hR
    |panic c=>exact hR
    |outgrown=>exact hR
def Fp  :(Int × (List Source) × (List Link) × (List ay) × (List Bool) × (List Bool) × (List Bool) × (List Bool) × (List Bool) × (List Bool) × (List Bool) × (List Bool))→Exit→St→Prop:=
  fun r=>bB TT [.tmp 6] (vD (.fn 124 3 (nN [(lV [(.int .i64 r.1),(aK none 5 Source.cell r.2.1),(aK none 6 Link.cell r.2.2.1),(aK none 4 ay.cell r.2.2.2.1)] 0),(lV [(aK none 1 aj r.2.2.2.2.1),(aK none 1 aj r.2.2.2.2.2.1),(aK none 1 aj r.2.2.2.2.2.2.1),(aK none 1 aj r.2.2.2.2.2.2.2.1),(aK none 1 aj r.2.2.2.2.2.2.2.2.1),(aK none 1 aj r.2.2.2.2.2.2.2.2.2.1),(aK none 1 aj r.2.2.2.2.2.2.2.2.2.2.1)] 0),(lV [(aK none 1 aj r.2.2.2.2.2.2.2.2.2.2.2)] 0)]))) []
section
variable (p:ah) (s_:State) (u0:(List Bool))
abbrev aez:List SV:=[(.agg (k5 p)),(.agg (SG s_)),(sD (aK none 1 aj u0))]
abbrev Pz:DV:=(lV [(aK none 1 aj u0)] 0)
abbrev ade:=(nN [(k10 p),(k75 s_),(Pz u0)])
end
theorem wG (p:ah) (s_:State) (u0:(List Bool)) {r:(Int × (List Source) × (List Link) × (List ay) × (List Bool) × (List Bool) × (List Bool) × (List Bool) × (List Bool) × (List Bool) × (List Bool) × (List Bool))} (h:mo p s_ u0=some r):Fn Try.prog 82 (aez p s_ u0) [] (vD (.fn 124 3 (nN [(lV [(.int .i64 r.1),(aK none 5 Source.cell r.2.1),(aK none 6 Link.cell r.2.2.1),(aK none 4 ay.cell r.2.2.2.1)] 0),(lV [(aK none 1 aj r.2.2.2.2.1),(aK none 1 aj r.2.2.2.2.2.1),(aK none 1 aj r.2.2.2.2.2.2.1),(aK none 1 aj r.2.2.2.2.2.2.2.1),(aK none 1 aj r.2.2.2.2.2.2.2.2.1),(aK none 1 aj r.2.2.2.2.2.2.2.2.2.1),(aK none 1 aj r.2.2.2.2.2.2.2.2.2.2.1)] 0),(lV [(aK none 1 aj r.2.2.2.2.2.2.2.2.2.2.2)] 0)]))) []:=by
 refine fN tT Try.func82 rfl rfl fun B=> ?_
 show bJ _ _ _ _ _ _ (Fp r) _
 unfold mo at h
 refine sz tT ⟨[(bn p),(aV s_),(5,(vD (Pz u0)))],[]⟩ {fr:=[(0,3),(1,4),(2,5)] } [3,4,5] ?_
 refine sz tT ⟨[(6,(vD (.fn 124 3 (ade p s_ u0))))],[]⟩ {} [] ?_
 refine aR ?_
 obtain rfl:=oi h
 exact rl [(sD (.fn 124 3 (ade p s_ u0)))]
def fI  :(ai × (List Bool) × Int)→Exit→St→Prop:=
  fun r=>bB TT [.cell 4 77, .tmp 5, .tmp 6] (.iP [(.agg [(.own 0 false r.1.sources.length),(.own 1 false r.1.links.length),(.own 2 false r.1.racks.length)]),(.one (.own 3 false r.2.1.length)),(sI r.2.2)]) [(0,some (cu 3 1 (au .i64) r.1.sources)),(1,some (cu 3 1 (au .i64) r.1.links)),(2,some (cu 164 2 af.cell r.1.racks)),(3,some (cu 4 1 aj r.2.1)),(4,none)]
section
variable (s_:State) (p:ah) (u1:Int) (n1:(List (List Int))) (n0:(List aY)) (u0:(List (Int × Int)))
abbrev qY:Nat × TV:=(11,(.v (.one (.mp 77))))
abbrev pM:Nat × TV:=(12,(.v (.one (.mp 78))))
abbrev nO:Nat × TV:=(13,(.v (.one (.mp 79))))
abbrev aeB:List (Nat × TV):=[(2,(vP 63 0)),(lF s_),(4,(vP 65 0)),(mZ p),(9,(vP 71 0)),(10,(vP 76 0)),qY,pM,nO,(GV p),(Gy p),(68,(vI u1))]
abbrev Si:Nat × Option Ob:=(70,some (.rows 40 1 n1.length (yI rW n1) none))
abbrev Vs:Nat × Option Ob:=(71,some (.cells 161 [(.own 72 false n0.length),(.own 70 true n1.length)]))
abbrev LP:Nat × Option Ob:=(72,some (cu 170 2 aY.cell n0))
abbrev TA:Nat × Option Ob:=(73,some (cu 3 1 (au .i64) (L6 p)))
abbrev LJ:Nat × Option Ob:=(74,some (aaW p))
abbrev JF:Nat × Option Ob:=(75,some (acw p))
abbrev UL:Nat × Option Ob:=(76,some (.cells 77 [(.own 73 true ((L6 p).length)),(.own 74 true (TS p)),(.own 75 true (Rk p))]))
abbrev Dt:Nat × Option Ob:=(77,some (X4 u0))
abbrev UR:Nat × Option Ob:=(78,some Xt)
abbrev LY:Nat × Option Ob:=(79,some (QW 164 3 true false 2 1 af.cell (au .i64) ([]:(List (af × Int)))))
abbrev QH:List (Nat × Option Ob):=[(zk p),bP,(Si n1),(Vs n1 n0),(LP n0),(TA p),(LJ p),(JF p),(UL p),(Dt u0),UR,LY]
end
def uw (p:ah) (s_:State):((List aY) × (List (List Int)) × (List (Int × Int)) × Int)→St:=
  fun zz=>match zz with|(n0,n1,u0,u1)=> ⟨(aeB s_ p u1),(QH p n1 n0 u0)⟩
section
variable (s_:State) (p:ah) (x0:(List Int)) (p1:(List Source)) (u0:(List (List Int))) (u1:(List aY)) (u2:(List (Int × Int)))
abbrev UF:List (Nat × TV):=[(2,(vP 63 0)),(lF s_),(4,(vP 65 0)),(mZ p),(9,(vP 71 0)),(10,(vP 76 0)),qY,pM,nO]
abbrev lY:Nat × Option Ob:=(73,some (Bt x0))
abbrev WZ:Nat × Option Ob:=(76,some (.cells 77 [(.own 73 true x0.length),(.own 74 true (TS p)),(.own 75 true (Rk p))]))
abbrev adG:List (Nat × Option Ob):=[(M8 p p1),bP,(Si u0),(Vs u0 u1),(LP u1),(lY x0),(LJ p),(JF p),(WZ p x0),(Dt u2),UR,LY]
end
def vg (p:ah) (s_:State):((List Source) × (List aY) × (List (List Int)) × (List Int) × (List (Int × Int)))→St:=
  fun zz=>match zz with|(p1,u1,u0,x0,u2)=> ⟨(UF s_ p),(adG p x0 p1 u0 u1 u2)⟩
def CB (p:ah) (s_:State):(aM ((List aY) × (List (List Int)) × (List (Int × Int)) × Int) (Ex ((List Source) × (List aY) × (List (List Int)) × (List Int) × (List (Int × Int))) (ai × (List Bool) × Int)))→Exit→St→Prop:=
  LQ 0 [] (uw p s_) (vg p s_) fI
section
variable (s_:State) (p:ah) (u4:Int) (u3:(List (Int × Int))) (p1:(List Source)) (u0:(List (List Int))) (u1:(List aY)) (x0:(List Int)) (u2:(List (Int × Int)))
abbrev ace:List (Nat × TV):=[(2,(vP 63 0)),(lF s_),(4,(vP 65 0)),(mZ p),(9,(vP 71 0)),(10,(vP 76 0)),qY,pM,nO,(GA p),(G7 p),(90,(vI u4))]
abbrev CW:Nat × Option Ob:=(78,some (X4 u3))
abbrev RG:List (Nat × Option Ob):=[(M8 p p1),bP,(Si u0),(Vs u0 u1),(LP u1),(lY x0),(LJ p),(JF p),(WZ p x0),(Dt u2),(CW u3),LY]
end
def uO (p:ah) (s_:State) (p1:(List Source)) (x0:(List Int)) (u2:(List (Int × Int))):((List aY) × (List (List Int)) × (List (Int × Int)) × Int)→St:=
  fun zz=>match zz with|(u1,u0,u3,u4)=> ⟨(ace s_ p u4),(RG p u3 p1 u0 u1 x0 u2)⟩
section
variable (x1:(List Int)) (p:ah) (p1:(List Source)) (p2:(List Link)) (u0:(List (List Int))) (u1:(List aY)) (x0:(List Int)) (u2:(List (Int × Int))) (u3:(List (Int × Int)))
abbrev nY:Nat × Option Ob:=(74,some (Bt x1))
abbrev ad4:List (Nat × Option Ob):=[(acS p p1 p2),bP,(Si u0),(Vs u0 u1),(LP u1),(lY x0),(nY x1),(JF p),(76,some (.cells 77 [(.own 73 true x0.length),(.own 74 true x1.length),(.own 75 true (Rk p))])),(Dt u2),(CW u3),LY]
end
def tV (p:ah) (s_:State) (p1:(List Source)) (x0:(List Int)) (u2:(List (Int × Int))):((List Link) × (List aY) × (List (List Int)) × (List Int) × (List (Int × Int)))→St:=
  fun zz=>match zz with|(p2,u1,u0,x1,u3)=> ⟨(UF s_ p),(ad4 x1 p p1 p2 u0 u1 x0 u2 u3)⟩
def CF (p:ah) (s_:State) (p1:(List Source)) (x0:(List Int)) (u0:(List (Int × Int))):(aM ((List aY) × (List (List Int)) × (List (Int × Int)) × Int) (Ex ((List Link) × (List aY) × (List (List Int)) × (List Int) × (List (Int × Int))) (ai × (List Bool) × Int)))→Exit→St→Prop:=
  LQ 2 [] (uO p s_ p1 x0 u0) (tV p s_ p1 x0 u0) fI
section
variable (s_:State) (u4:Int) (u6:(List ay)) (u7:Int) (u8:Int) (x2:(List af)) (x0:(List Int)) (x1:(List Int)) (u5:(List (af × Int))) (p:ah) (p1:(List Source)) (p2:(List Link)) (p3:(List ay)) (u0:(List (List Int))) (u1:(List aY)) (u2:(List (Int × Int))) (u3:(List (Int × Int)))
abbrev aey:List (Nat × TV):=[(2,(vP 63 0)),(lF s_),(4,(vP 65 0)),(8,(vI u4)),(9,(vP 71 0)),(10,(vP 76 0)),qY,pM,nO,(xZ u6),(116,(vI u7)),(117,(vI u8))]
abbrev pR:Nat × Option Ob:=(75,some (cu 164 2 af.cell x2))
abbrev qz:Nat × Option Ob:=(76,some (.cells 77 [(.own 73 true x0.length),(.own 74 true x1.length),(.own 75 true x2.length)]))
abbrev EP:Nat × Option Ob:=(79,some (QW 164 3 true false 2 1 af.cell (au .i64) u5))
abbrev VA:List (Nat × Option Ob):=[(eF p p1 p2 p3),bP,(Si u0),(Vs u0 u1),(LP u1),(lY x0),(nY x1),(pR x2),(qz x2 x0 x1),(Dt u2),(CW u3),(EP u5)]
end
def uo (p:ah) (s_:State) (p1:(List Source)) (x0:(List Int)) (u2:(List (Int × Int))) (p2:(List Link)) (x1:(List Int)) (u3:(List (Int × Int))):((List ay) × Int × (List aY) × (List (List Int)) × (List af) × (List (af × Int)) × (List ay) × Int × Int)→St:=
  fun zz=>match zz with|(p3,u4,u1,u0,x2,u5,u6,u7,u8)=> ⟨(aey s_ u4 u6 u7 u8),(VA x2 x0 x1 u5 p p1 p2 p3 u0 u1 u2 u3)⟩
section
variable (u6:Int) (p:ah) (p1:(List Source)) (p2:(List Link)) (u5:(List ay)) (u0:(List (List Int))) (u1:(List aY)) (x0:(List Int)) (x1:(List Int)) (u2:(List af)) (u3:(List (Int × Int))) (u4:(List (Int × Int))) (u7:(List (af × Int)))
abbrev ZV:List (Nat × TV):=[(2,(vP 63 0)),(4,(vP 65 0)),(8,(vI u6)),(9,(vP 71 0)),(10,(vP 76 0)),qY,pM,nO]
abbrev acO:St:=⟨(ZV u6),(VA u2 x0 x1 u7 p p1 p2 u5 u0 u1 u3 u4)⟩
end
def tY (p:ah) (p1:(List Source)) (x0:(List Int)) (u3:(List (Int × Int))) (p2:(List Link)) (x1:(List Int)) (u4:(List (Int × Int))):((List ay) × Int × (List aY) × (List (List Int)) × (List af) × (List (af × Int)))→St:=
  fun zz=>match zz with|(u5,u6,u1,u0,u2,u7)=>(acO u6 p p1 p2 u5 u0 u1 x0 x1 u2 u3 u4 u7)
def nX (p:ah) (s_:State) (p1:(List Source)) (x0:(List Int)) (u0:(List (Int × Int))) (p2:(List Link)) (x1:(List Int)) (u1:(List (Int × Int))):(aM ((List ay) × Int × (List aY) × (List (List Int)) × (List af) × (List (af × Int)) × (List ay) × Int × Int) (Ex ((List ay) × Int × (List aY) × (List (List Int)) × (List af) × (List (af × Int))) (ai × (List Bool) × Int)))→Exit→St→Prop:=
  LQ 4 [] (uo p s_ p1 x0 u0 p2 x1 u1) (tY p p1 x0 u0 p2 x1 u1) fI
section
variable (s_:State) (u6:Int) (u0:Int) (u1:(List ay)) (u7:Int) (u9:Int) (p:ah) (p1:(List Source)) (p2:(List Link)) (p3:(List ay)) (u2:(List (List Int))) (u3:(List aY)) (x0:(List Int)) (x1:(List Int)) (x2:(List af)) (u4:(List (Int × Int))) (u5:(List (Int × Int))) (u8:(List (af × Int)))
abbrev aef:List (Nat × TV):=[(2,(vP 63 0)),(lF s_),(4,(vP 65 0)),(8,(vI u6)),(9,(vP 71 0)),(10,(vP 76 0)),qY,pM,nO,(18,(vI u0)),(Eg u1 u0),(xZ u1),(116,(vI u7)),(117,(vI u0)),(Gz u1 u0),(134,(vI u9))]
abbrev P7:List (Nat × Option Ob):=[(eF p p1 p2 p3),bP,(Si u2),(71,some (.cells 161 [(.own 115 false u3.length),(.own 70 true u2.length)])),(lY x0),(nY x1),(pR x2),(qz x2 x0 x1),(Dt u4),(CW u5),(EP u8),(115,some (cu 170 2 aY.cell u3))]
end
def tZ (p:ah) (s_:State) (p1:(List Source)) (x0:(List Int)) (u4:(List (Int × Int))) (p2:(List Link)) (x1:(List Int)) (u5:(List (Int × Int))) (p3:(List ay)) (u6:Int) (x2:(List af)) (u1:(List ay)) (u7:Int) (u0:Int):((List aY) × (List (List Int)) × (List (af × Int)) × Int)→St:=
  fun zz=>match zz with|(u3,u2,u8,u9)=> ⟨(aef s_ u6 u0 u1 u7 u9),(P7 p p1 p2 p3 u2 u3 x0 x1 x2 u4 u5 u8)⟩
section
variable (s_:State) (u4:Int) (u5:(List ay)) (u6:Int) (u7:Int) (p:ah) (p1:(List Source)) (p2:(List Link)) (p3:(List ay)) (u0:(List (List Int))) (u1:(List aY)) (x0:(List Int)) (x1:(List Int)) (x2:(List af)) (u2:(List (Int × Int))) (u3:(List (Int × Int))) (u8:(List (af × Int)))
abbrev adn:St:=⟨(aey s_ u4 u5 u6 u7),(P7 p p1 p2 p3 u0 u1 x0 x1 x2 u2 u3 u8)⟩
end
def uy (p:ah) (s_:State) (p1:(List Source)) (x0:(List Int)) (u2:(List (Int × Int))) (p2:(List Link)) (x1:(List Int)) (u3:(List (Int × Int))) (p3:(List ay)) (u4:Int) (x2:(List af)) (u5:(List ay)) (u6:Int) (u7:Int):((List aY) × (List (List Int)) × (List (af × Int)))→St:=
  fun zz=>match zz with|(u1,u0,u8)=>(adn s_ u4 u5 u6 u7 p p1 p2 p3 u0 u1 x0 x1 x2 u2 u3 u8)
def Cz (p:ah) (s_:State) (p1:(List Source)) (x0:(List Int)) (u0:(List (Int × Int))) (p2:(List Link)) (x1:(List Int)) (u1:(List (Int × Int))) (p3:(List ay)) (u2:Int) (x2:(List af)) (u3:(List ay)) (u4:Int) (u5:Int):(aM ((List aY) × (List (List Int)) × (List (af × Int)) × Int) (Ex ((List aY) × (List (List Int)) × (List (af × Int))) (aM ((List ay) × Int × (List aY) × (List (List Int)) × (List af) × (List (af × Int)) × (List ay) × Int × Int) (Ex ((List ay) × Int × (List aY) × (List (List Int)) × (List af) × (List (af × Int))) (ai × (List Bool) × Int)))))→Exit→St→Prop:=
  LQ 6 [5] (tZ p s_ p1 x0 u0 p2 x1 u1 p3 u2 x2 u3 u4 u5) (uy p s_ p1 x0 u0 p2 x1 u1 p3 u2 x2 u3 u4 u5) (nX p s_ p1 x0 u0 p2 x1 u1)
section
variable (u0:Network) (p:ah) (p1:(List Source)) (p2:(List Link)) (u4:(List ay)) (u2:(List Int)) (x1:(List Int)) (u1:(List af)) (u3:(List (Int × Int))) (u5:(List (af × Int)))
abbrev Zu:List (Nat × TV):=[(2,(vP 63 0)),(4,(vP 65 0)),(9,(vP 71 0)),(10,(vP 76 0)),pM,nO,(162,(vP 120 0))]
abbrev yB:Nat × Option Ob:=(71,some (.cells 161 [(.own 72 false u0.arcs.length),(.d (Jw u0))]))
abbrev xI:Nat × Option Ob:=(72,some (cu 170 2 aY.cell u0.arcs))
abbrev agu:List (Nat × Option Ob):=[(eF p p1 p2 u4),bP,(yB u0),(xI u0),(lY u2),(nY x1),(pR u1),(qz u1 u2 x1),(CW u3),(EP u5),(120,none)]
abbrev adO:St:=⟨Zu,(agu u0 p p1 p2 u4 u2 x1 u1 u3 u5)⟩
end
def C8 (p:ah) (p1:(List Source)) (p2:(List Link)) (x1:(List Int)) (u3:(List (Int × Int))) (u4:(List ay)) (u1:(List af)) (u5:(List (af × Int))) (u0:Network):(List Int)→St:=
  fun u2=>(adO u0 p p1 p2 u4 u2 x1 u1 u3 u5)
section
variable (p:ah) (p1:(List Source)) (p2:(List Link)) (u4:(List ay)) (u0:Network) (u2:(List Int)) (u3:(List Int)) (u1:(List af)) (u5:(List (af × Int)))
abbrev aa7:List (Nat × TV):=[(2,(vP 63 0)),(4,(vP 65 0)),(9,(vP 71 0)),(10,(vP 76 0)),nO,(182,(vP 121 0))]
abbrev aeO:List (Nat × Option Ob):=[(eF p p1 p2 u4),bP,(yB u0),(xI u0),(lY u2),(nY u3),(pR u1),(qz u1 u2 u3),(EP u5),(121,none)]
abbrev adf:St:=⟨aa7,(aeO p p1 p2 u4 u0 u2 u3 u1 u5)⟩
end
def Cw (p:ah) (p1:(List Source)) (p2:(List Link)) (u4:(List ay)) (u1:(List af)) (u5:(List (af × Int))) (u0:Network) (u2:(List Int)):(List Int)→St:=
  fun u3=>(adf p p1 p2 u4 u0 u2 u3 u1 u5)
section
variable (p:ah) (p1:(List Source)) (p2:(List Link)) (u4:(List ay)) (u0:Network) (u1:(List Int)) (u2:(List Int)) (u3:(List af))
abbrev Tq:List (Nat × TV):=[(2,(vP 63 0)),(4,(vP 65 0)),(9,(vP 71 0)),(10,(vP 76 0)),(208,(vP 122 0))]
abbrev agO:St:=⟨Tq,[(eF p p1 p2 u4),bP,(yB u0),(xI u0),(lY u1),(nY u2),(pR u3),(qz u3 u1 u2),(122,none)]⟩
end
def Db (p:ah) (p1:(List Source)) (p2:(List Link)) (u4:(List ay)) (u0:Network) (u1:(List Int)) (u2:(List Int)):(List af)→St:=
  fun u3=>(agO p p1 p2 u4 u0 u1 u2 u3)
section
variable (r_:Int) (s_:State) (p:ah) (v4:(Int × Network)) (v0:Int) (v9:(List (Int × Int))) (p1:(List Source)) (v5:(Int × Network)) (x0:(List Int)) (u4:(List (Int × Int))) (u7:Int) (w0:(List (Int × Int))) (v7:Int) (u0:Int) (u2:(List ay)) (w1:Int) (x4:(Int × Network)) (p2:(List Link)) (p3:(List ay)) (x1:(List Int)) (x2:(List af)) (u5:(List (Int × Int))) (x9:(List (af × Int))) (v6:(Int × Network)) (v3:Int) (x5:(List aY)) (x6:(List (List Int))) (u1:Network) (u3:(List (af × Int))) (i2:Nat) (u6:(List Int))
abbrev YD:List (Nat × TV):=[(4,(vP 65 0)),(5,(vO 66 false 0)),(6,(vI r_))]
abbrev YE:Nat × Option Ob:=(66,some (.arr 4 1 0 (aC aj ([]:List Bool))))
abbrev YX:Nat × Option Ob:=(67,some (.arr 3 1 0 (aC (au .i64) ([]:List Int))))
abbrev acf:List CV:=[(.own 0 false (([]:List Int).length)),(.own 1 false (([]:List Int).length)),(.own 2 false (([]:List af).length))]
abbrev Xb:List (Nat × TV):=[(2,(vP 63 0)),(lF s_),(4,(vP 65 0)),(mZ p),(9,(vP 71 0))]
abbrev afI:List CV:=[(.d nS),(.own 70 true (QF p))]
abbrev ach:Nat × Option Ob:=(71,some (.cells 161 (afI p)))
abbrev Va:Nat × Option Ob:=(70,some (.rows 40 1 (DL p).length (acv p) none))
abbrev Zx:Nat × Option Ob:=(71,some (.cells 161 [(.own 72 false (([]:List aY).length)),(.own 70 true (QF p))]))
abbrev ZU:Nat × Option Ob:=(72,some (cu 170 2 aY.cell ([]:List aY)))
abbrev ab1:List (Nat × Option Ob):=[(zk p),bP,(Va p),(Zx p),ZU,(TA p),(LJ p),(JF p),(UL p),(77,some Xt),UR,LY]
abbrev M5:Nat × Option Ob:=(70,some (.rows 40 1 v4.2.from_.length (yI rW v4.2.from_) none))
abbrev abW:List (Nat × Option Ob):=[(zk p),bP,(M5 v4),(71,some (.cells 161 [(.own 87 false v4.2.arcs.length),(.own 70 true v4.2.from_.length)])),(TA p),(LJ p),(JF p),(UL p),(77,some (MU v0 v4 v9)),UR,LY,(87,some (FB v4))]
abbrev ZF:List (Nat × TV):=[(2,(vP 63 0)),(lF s_),(4,(vP 65 0)),(mZ p),(9,(vP 71 0)),(10,(vP 76 0)),qY,pM,nO,(GV p),(Gy p),(68,(k3 v0))]
abbrev afn:Nat × Option Ob:=(71,some (.cells 161 [(.own 72 false v4.2.arcs.length),(.own 70 true v4.2.from_.length)]))
abbrev agF:List (Nat × Option Ob):=[(M8 p p1),bP,(M5 v5),(71,some (.cells 161 [(.own 95 false v5.2.arcs.length),(.own 70 true v5.2.from_.length)])),(lY x0),(LJ p),(JF p),(WZ p x0),(Dt u4),(78,some (MU u7 v5 w0)),LY,(95,some (FB v5))]
abbrev Z9:List (Nat × TV):=[(2,(vP 63 0)),(lF s_),(4,(vP 65 0)),(mZ p),(9,(vP 71 0)),(10,(vP 76 0)),qY,pM,nO,(GA p),(G7 p),(90,(k3 u7))]
abbrev acH:List (Nat × TV):=[(2,(vP 63 0)),(lF s_),(4,(vP 65 0)),(8,(vI v7)),(9,(vP 71 0)),(10,(vP 76 0)),qY,pM,nO,(18,(vI u0)),(Eg u2 u0),(xZ u2),(116,(vI w1)),(117,(vI u0))]
abbrev aeo:Nat × Option Ob:=(71,some (.cells 161 [(.own 115 false x4.2.arcs.length),(.own 70 true x4.2.from_.length)]))
abbrev agP:List (Nat × Option Ob):=[(eF p p1 p2 p3),bP,(M5 x4),(aeo x4),(lY x0),(nY x1),(pR x2),(qz x2 x0 x1),(Dt u4),(CW u5),(EP x9),(XO x4)]
abbrev acX:Nat × Option Ob:=(71,some (.cells 161 [(.own 119 false v6.2.arcs.length),(.own 70 true v6.2.from_.length)]))
abbrev abk:List (Nat × TV):=[(2,(vP 63 0)),(lF s_),(4,(vP 65 0)),(8,(vI v7)),(9,(vP 71 0)),(10,(vP 76 0)),qY,pM,nO,(18,(vI u0)),(Eg u2 u0),(xZ u2),(116,(vI w1)),(117,(vI u0)),(Gz u2 u0),(134,(k3 v3))]
abbrev ac9:List (Nat × TV):=[(2,(vP 63 0)),(lF s_),(4,(vP 65 0)),(8,(vI v7)),(9,(vP 71 0)),(10,(vP 76 0)),qY,pM,nO,(xZ u2),(116,(vI w1)),(117,(k3 u0))]
abbrev aea:Nat × Option Ob:=(71,some (.cells 161 [(.own 72 false x5.length),(.d (aK (some true) 1 (Jl 1 (au .i64)) x6))]))
abbrev aeQ:List (Nat × Option Ob):=[(yB u1),(xI u1)]
abbrev aap:List (Nat × TV):=[(2,(vP 63 0)),(4,(vP 65 0)),(9,(vP 71 0)),(10,(vP 76 0)),(26,(vP 125 0)),(27,(vI (at' (u3.map Prod.snd) i2))),(208,(vP 122 0))]
abbrev TN:Nat × Option Ob:=(126,some (WX p))
abbrev Ur:Nat × Option Ob:=(127,some (.cells 27 [(.own 126 true (WE p))]))
abbrev agL:List (Nat × TV):=[(2,(vP 63 0)),(4,(vP 65 0)),(10,(vP 76 0)),(28,(vP 127 0)),(235,(.v (.one (.fn 121 0 1 (AU [(.ptr 128 0)])))))]
abbrev acz:List (Nat × TV):=[(2,(vP 63 0)),(4,(vP 65 0)),(10,(vP 76 0)),(28,(vP 127 0)),(agn u1)]
abbrev EY:Nat × Option Ob:=(0,some (Bt u6))
end
theorem oh (p:ah) (s_:State) {r:(ai × (List Bool) × Int)} (h:fo p s_=some r):Fn Try.prog 32 (k91 s_ p) [] (.iP [(.agg [(.own 0 false r.1.sources.length),(.own 1 false r.1.links.length),(.own 2 false r.1.racks.length)]),(.one (.own 3 false r.2.1.length)),(sI r.2.2)]) [(0,some (cu 3 1 (au .i64) r.1.sources)),(1,some (cu 3 1 (au .i64) r.1.links)),(2,some (cu 164 2 af.cell r.1.racks)),(3,some (cu 4 1 aj r.2.1)),(4,none)]:=by
 refine fN tT Try.func32 rfl rfl fun B=> ?_
 show bJ _ _ _ _ _ _ (fI r) _
 unfold fo at h
 refine sz tT (aeh p s_) {fr:=[(0,63),(1,64),(2,65)] } [64] ?_
 refine aQ (aQ (bE h fun r_ hr_ h=> ?_))
 have q0:=eH p s_ hr_
 refine rg tT (adJ p s_ r_) [_] {an:=[(2,cA q0 [])] } [] ⟨q0,trivial⟩ ?_
 refine sz tT (adb p s_ r_) {} [] ?_
 refine bI h (fun hb9 h=> ?_) (fun hb9 h=> ?_)
 ·refine ct hb9 ?_
  refine sz tT ⟨[(4,(vP 65 0)),(5,(vD nS)),(6,(vI r_))],[bP]⟩ {} [] ?_
  refine aI (.trans (bM.Vu (t:=5) (b:=66) (esz0:=0) (el0:=fun _ _=> .nilp) (E:=4) (esz:=1) (el:=aC aj ([]:List Bool)) (by kernel_rfl) (by kernel_rfl)) (.trans (bM.zi (E:=0) (esz:=0) (E0:=77) (cs:=[(.d nS),(.d nS),(.d nS)]) (p:=65) (q:=0) (b:=67) (esz0:=0) (el0:=fun _ _=> .nilp) (ob:= .arr 3 1 0 (aC (au .i64) ([]:List Int))) (fun _ _ _ _ h=> .inl ⟨h,rfl⟩) (by kernel_rfl) (by kernel_rfl) (by kernel_rfl)) (.trans (fz ⟨(YD r_),[(65,some (.cells 77 [(.own 67 false 0),(.d nS),(.d nS)])),YE,YX]⟩ []) (.trans (bM.zi (E:=0) (esz:=0) (E0:=77) (cs:=[(.own 67 false 0),(.d nS),(.d nS)]) (p:=65) (q:=1) (b:=68) (esz0:=0) (el0:=fun _ _=> .nilp) (ob:= .arr 3 1 0 (aC (au .i64) ([]:List Int))) (fun _ _ _ _ h=> .inl ⟨h,rfl⟩) (by kernel_rfl) (by kernel_rfl) (by kernel_rfl)) (.trans (fz ⟨(YD r_),[(65,some (.cells 77 [(.own 67 false 0),(.own 68 false 0),(.d nS)])),YE,YX,(68,some (.arr 3 1 0 (aC (au .i64) ([]:List Int))))]⟩ []) (.trans (bM.zi (E:=0) (esz:=0) (E0:=77) (cs:=[(.own 67 false 0),(.own 68 false 0),(.d nS)]) (p:=65) (q:=2) (b:=69) (esz0:=0) (el0:=fun _ _=> .nilp) (ob:= .arr 164 2 0 (aC af.cell ([]:List af))) (fun _ _ _ _ h=> .inl ⟨h,rfl⟩) (by kernel_rfl) (by kernel_rfl) (by kernel_rfl)) (.trans (fz ⟨(YD r_),[(65,some (.cells 77 [(.own 67 false 0),(.own 68 false 0),(.own 69 false 0)])),YE,YX,(68,some (.arr 3 1 0 (aC (au .i64) ([]:List Int)))),(69,some (.arr 164 2 0 (aC af.cell ([]:List af))))]⟩ []) (.trans (bM.fin (st':=⟨[(4,(vP 4 0)),(5,(vO 3 false 0)),(6,(vI r_))],[(0,some (.arr 3 1 0 (aC (au .i64) ([]:List Int)))),(1,some (.arr 3 1 0 (aC (au .i64) ([]:List Int)))),(2,some (.arr 164 2 0 (aC af.cell ([]:List af)))),(3,some (.arr 4 1 0 (aC aj ([]:List Bool)))),(4,some (.cells 77 [(.own 0 false 0),(.own 1 false 0),(.own 2 false 0)]))]⟩) (cs:=[]) ⟨[],[(67,0),(68,1),(69,2),(66,3),(65,4)]⟩ [4,5,6] (by kernel_rfl) trivial) (bM.le (st':=⟨[(4,(vP 4 0)),(5,(vO 3 false (([]:List Bool).length))),(6,(vI r_))],[(0,some (cu 3 1 (au .i64) ([]:List Int))),(1,some (cu 3 1 (au .i64) ([]:List Int))),(2,some (cu 164 2 af.cell ([]:List af))),(3,some (cu 4 1 aj ([]:List Bool))),(4,some (.cells 77 acf))]⟩) ⟨⟨tR,⟨_,rfl,eO.v (eG.one cW)⟩,tR,trivial⟩,⟨rfl,oW,⟨rfl,oW,⟨rfl,oW,⟨rfl,oW,⟨rfl,bA ⟨cW,cW,cW,trivial⟩,trivial⟩⟩⟩⟩⟩⟩))))))))) ?_
  refine aR ?_
  obtain rfl:=oi h
  exact rh [(.agg acf),(.one (.own 3 false (([]:List Bool).length))),(sI r_)] (.refl _) (hN 4 ⟨rfl,trivial,trivial⟩)
 ·refine cf hb9 ?_
  refine aP (sz tT (afy p s_) {} [] ?_)
  refine aQ (aO h fun⟨a1,a2,a3⟩ h=> ?_)
  refine ri tT ⟨(Xb s_ p),[(zk p),bP,(70,some (.arr 40 1 (DL p).length (fun _ j=>[nS].getD j .nilp))),(ach p)]⟩ [_,(agh p)=(Wj p),_,_,(DL p).length=(VB p),aG (VB p) 1 (fun _ j=>[nS].getD j .nilp) (fun _ j=>[nS].getD j .nilp)] {an:=[(2, .arr (DL p).length (fun _ j=>[nS].getD j .nilp))],fr:=[(2,70),(4,71)] } [] ⟨a1,rfl,a2,a3,(List.length_replicate),(iq _ _ _),trivial⟩ (.trans (bM.Tz (b:=70) (E:=40) (esz:=1) (len:=(DL p).length) (el:=(fun _ j=>[nS].getD j .nilp)) (el':=yI rW (DL p)) (by kernel_rfl) (fun i hi j hj=>match j,hj with|0,_=>Mi _ _ _ _ _ _ _ _)) (.trans (fz ⟨(Xb s_ p),[(zk p),bP,(Va p),(ach p)]⟩ []) (.trans (bM.zi (E:=0) (esz:=0) (E0:=161) (cs:=(afI p)) (p:=71) (q:=0) (b:=72) (esz0:=0) (el0:=fun _ _=> .nilp) (ob:= .arr 170 2 0 (aC aY.cell ([]:List aY))) (fun _ _ _ _ h=> .inl ⟨h,rfl⟩) (by kernel_rfl) (by kernel_rfl) (by kernel_rfl)) (.trans (fz ⟨(Xb s_ p),[(zk p),bP,(Va p),(71,some (.cells 161 [(.own 72 false 0),(.own 70 true (QF p))])),(72,some (.arr 170 2 0 (aC aY.cell ([]:List aY))))]⟩ []) (bM.le (st':=⟨(Xb s_ p),[(zk p),bP,(Va p),(Zx p),ZU]⟩) ⟨⟨tR,tR,tR,tR,tR,trivial⟩,(hN 3 ⟨rfl,bA ⟨cW,dO.refl _,trivial⟩,⟨rfl,oW,trivial⟩⟩)⟩))))) ?_
  refine aQ (aO h fun⟨a1,a2,a3,a4,a5,a6,a7,a8,a9⟩ h=> ?_)
  refine dg tT mX ⟨[(2,(vP 63 0)),(lF s_),(4,(vP 65 0)),(mZ p),(9,(vP 71 0)),(10,(vP 76 0))],[(zk p),bP,(Va p),(Zx p),ZU,(TA p),(LJ p),(JF p),(UL p)]⟩ [_,((p.sources.length:Int):Int)=(p.sources.length:Int),_,_,(L6 p).length=(Ux p),aG (Ux p) 1 (fun _ j=>[(.int .i64 0)].getD j .nilp) (WQ p),_,((p.links.length:Int):Int)=(p.links.length:Int),_,_,(Lx p).length=(O6 p),aG (O6 p) 1 (fun _ j=>[(.int .i64 0)].getD j .nilp) (RL p),_,((p.racks.length:Int):Int)=(p.racks.length:Int),_,_,(Pg p).length=(Vb p),aG (Vb p) 2 (fun _ j=>[(.int .i64 0),(.int .i64 0)].getD j .nilp) (WJ p)] {an:=[(3, .arr (L6 p).length (WQ p)),(7, .arr (Lx p).length (RL p)),(11, .arr (Pg p).length (WJ p))],fr:=[(3,73),(7,74),(11,75),(13,76)] } [] ⟨a1,rfl,a2,a3,(List.length_replicate),(dQ _ _ _ _ _ (fun j hj=>(match j,hj with|0,_=>rfl))),a4,rfl,a5,a6,(List.length_replicate),(dQ _ _ _ _ _ (fun j hj=>(match j,hj with|0,_=>rfl))),a7,rfl,a8,a9,(List.length_replicate),(dQ _ _ _ _ _ (fun j hj=>(match j,hj with|0,_=>rfl|1,_=>rfl))),trivial⟩ ?_
  refine sz tT ⟨(UF s_ p),(ab1 p)⟩ {an:=[(0, .map 0 (CY (au .i64) ([]:(List (Int × Int)))) (CU (au .i64) ([]:(List (Int × Int)))) []),(1, .map 0 (CY (au .i64) ([]:(List (Int × Int)))) (CU (au .i64) ([]:(List (Int × Int)))) []),(2, .map 0 (CY af.cell ([]:(List (af × Int)))) (CU (au .i64) ([]:(List (af × Int)))) [])],fr:=[(0,77),(1,78),(2,79)] } [] ?_
  refine aQ (sz tT ⟨[(2,(vP 63 0)),(lF s_),(4,(vP 65 0)),(mZ p),(9,(vP 71 0)),(10,(vP 76 0)),qY,pM,nO,(GV p),(Gy p),(68,(vI 0))],(ab1 p)⟩ {} [] ?_)
  refine bE h fun y hy h=> ?_
  refine aL [] (uw p s_) (vg p s_) fI hy (fun s f h=> ?_) ?_
  ·clear hy
   show bJ _ _ _ _ _ _ ((CB p s_) f) _
   unfold jr at h
   obtain⟨n0,n1,v9,v0⟩:=s
   refine sz tT ⟨[(2,(vP 63 0)),(lF s_),(4,(vP 65 0)),(mZ p),(9,(vP 71 0)),(10,(vP 76 0)),qY,pM,nO,(GV p),(Gy p),(68,(vI v0)),(69,(vB (decide (v0<(p.sources.length:Int)))))],(QH p n1 n0 v9)⟩ {} [] ?_
   refine aQ ?_
   refine bI h (fun hb1 h=> ?_) (fun hb1 h=> ?_)
   ·refine ct hb1 ?_
    refine aP (aQ (aB (aQ (aO h fun a1 h=> ?_))))
    refine rg tT ⟨[(2,(vP 63 0)),(lF s_),(4,(vP 65 0)),(mZ p),(9,(vP 71 0)),(10,(vP 76 0)),qY,pM,nO,(14,(vI v0)),(Xo p v0),(GV p),(Gy p),(68,(vI v0))],(QH p n1 n0 v9)⟩ [_] {fr:=[(3,86)] } [86] ⟨a1,trivial⟩ ?_
    refine aQ (bE h fun ui hr_1 h=> ?_)
    have q0:=fU p s_ v0 hr_1
    refine rg tT ⟨[(2,(vP 63 0)),(lF s_),(4,(vP 65 0)),(mZ p),(9,(vP 71 0)),(10,(vP 76 0)),qY,pM,nO,(14,(vI v0)),(Xo p v0),(GV p),(Gy p),(68,(vI v0)),(76,(vB ui))],(QH p n1 n0 v9)⟩ [_] {an:=[(3,cA q0 [])] } [] ⟨q0,trivial⟩ ?_
    refine bI h (fun hb h=> ?_) (fun hb h=> ?_)
    ·refine ct hb ?_
     refine bE h fun v4 hr_2 h=> ?_
     have q0:=rk [(0,71),(1,72),(2,70),(3,87)] (bY 0 (IntKind.wrap .i64 ((1:Int)+((at' p.sources v0.toNat).bus))) ((at' p.sources v0.toNat).power) 0 (⟨n0,n1⟩:Network) hr_2)
     refine rg tT ⟨(aeB s_ p v0),(abW p v4 v0 v9)⟩ [_,FU [some .i64] 1 1 v9.length (CY (au .i64) v9) (CU (au .i64) v9) [(.int .i64 v0)] [(cI v4.1)] [] (jF NP v0 v4.1 v9).length (Oe v0 v4 v9) (Na v0 v4 v9)] {an:=[(8,cA q0 [71,72,70]),(9, .map (jF NP v0 v4.1 v9).length (Oe v0 v4 v9) (Na v0 v4 v9) [])] } [] ⟨q0,(yg (fun _=>rfl) (fun _ _=>rfl) v9 v0 v4.1 rfl rfl),trivial⟩ ?_
     refine ri tT ⟨(ZF s_ p v0),(abW p v4 v0 v9)⟩ [] {} [] trivial (bM.fin (st':=⟨(ZF s_ p v0),[(zk p),bP,(M5 v4),(afn v4),(72,some (FB v4)),(TA p),(LJ p),(JF p),(UL p),(77,some (MU v0 v4 v9)),UR,LY]⟩) (cs:=[]) ⟨[],[(63,63),(65,65),(70,70),(71,71),(87,72),(73,73),(74,74),(75,75),(76,76),(77,77),(78,78),(79,79)]⟩ [2,3,4,8,9,10,11,12,13,66,67,68] (by kernel_rfl) trivial) ?_
     obtain rfl:=oi h
     exact lN
    ·refine cf hb ?_
     refine aP (rz tT ⟨(ZF s_ p v0),(QH p n1 n0 v9)⟩ {} [] ?_)
     obtain rfl:=oi h
     exact lN
   ·refine cf hb1 ?_
    refine aI (fz ⟨(UF s_ p),(QH p n1 n0 v9)⟩ []) ?_
    refine aX ?_
    obtain rfl:=oi h
    exact lB
  ·clear hy
   cases y with
   |brk z=>
    obtain⟨p1,ue,uc,x0,u4⟩:=z
    unfold gm
    refine⟨_, .refl, ?_⟩
    refine aQ (sz tT ⟨[(2,(vP 63 0)),(lF s_),(4,(vP 65 0)),(mZ p),(9,(vP 71 0)),(10,(vP 76 0)),qY,pM,nO,(GA p),(G7 p),(90,(vI 0))],(adG p x0 p1 uc ue u4)⟩ {} [] ?_)
    refine bE h fun y1 hy h=> ?_
    refine aL [] (uO p s_ p1 x0 u4) (tV p s_ p1 x0 u4) fI hy (fun s f h=> ?_) ?_
    ·clear hy
     show bJ _ _ _ _ _ _ ((CF p s_ p1 x0 u4) f) _
     unfold jo at h
     obtain⟨w7,w3,w0,u7⟩:=s
     refine sz tT ⟨[(2,(vP 63 0)),(lF s_),(4,(vP 65 0)),(mZ p),(9,(vP 71 0)),(10,(vP 76 0)),qY,pM,nO,(GA p),(G7 p),(90,(vI u7)),(91,(vB (decide (u7<(p.links.length:Int)))))],(RG p w0 p1 w3 w7 x0 u4)⟩ {} [] ?_
     refine aQ ?_
     refine bI h (fun hb3 h=> ?_) (fun hb3 h=> ?_)
     ·refine ct hb3 ?_
      refine aP (aQ (aB (aQ (aO h fun a1 h=> ?_))))
      refine rg tT ⟨[(2,(vP 63 0)),(lF s_),(4,(vP 65 0)),(mZ p),(9,(vP 71 0)),(10,(vP 76 0)),qY,pM,nO,(16,(vI u7)),(X7 p u7),(GA p),(G7 p),(90,(vI u7))],(RG p w0 p1 w3 w7 x0 u4)⟩ [_] {fr:=[(3,94)] } [94] ⟨a1,trivial⟩ ?_
      refine aQ (bE h fun uj hr_3 h=> ?_)
      have q0:=dL (⟨p.buses,p1,p.links,p.racks⟩:ah) s_ u7 hr_3
      refine rg tT ⟨[(2,(vP 63 0)),(lF s_),(4,(vP 65 0)),(mZ p),(9,(vP 71 0)),(10,(vP 76 0)),qY,pM,nO,(16,(vI u7)),(X7 p u7),(GA p),(G7 p),(90,(vI u7)),(98,(vB uj))],(RG p w0 p1 w3 w7 x0 u4)⟩ [_] {an:=[(3,cA q0 [])] } [] ⟨q0,trivial⟩ ?_
      refine bI h (fun hb2 h=> ?_) (fun hb2 h=> ?_)
      ·refine ct hb2 ?_
       refine bE h fun v5 hr_4 h=> ?_
       have q0:=rk [(0,71),(1,72),(2,70),(3,95)] (bY (IntKind.wrap .i64 ((1:Int)+((at' p.links u7.toNat).a))) (IntKind.wrap .i64 ((1:Int)+((at' p.links u7.toNat).b))) (OT p u7) (OT p u7) (⟨w7,w3⟩:Network) hr_4)
       refine rg tT ⟨(ace s_ p u7),(agF p p1 v5 x0 u4 u7 w0)⟩ [_,FU [some .i64] 1 1 w0.length (CY (au .i64) w0) (CU (au .i64) w0) [(.int .i64 u7)] [(cI v5.1)] [] (jF NP u7 v5.1 w0).length (Oe u7 v5 w0) (Na u7 v5 w0)] {an:=[(13,cA q0 [71,72,70]),(14, .map (jF NP u7 v5.1 w0).length (Oe u7 v5 w0) (Na u7 v5 w0) [])] } [] ⟨q0,(yg (fun _=>rfl) (fun _ _=>rfl) w0 u7 v5.1 rfl rfl),trivial⟩ ?_
       refine ri tT ⟨(Z9 s_ p u7),(agF p p1 v5 x0 u4 u7 w0)⟩ [] {} [] trivial (bM.fin (st':=⟨(Z9 s_ p u7),[(M8 p p1),bP,(M5 v5),(afn v5),(72,some (FB v5)),(lY x0),(LJ p),(JF p),(WZ p x0),(Dt u4),(78,some (MU u7 v5 w0)),LY]⟩) (cs:=[]) ⟨[],[(63,63),(65,65),(70,70),(71,71),(95,72),(73,73),(74,74),(75,75),(76,76),(77,77),(78,78),(79,79)]⟩ [2,3,4,8,9,10,11,12,13,88,89,90] (by kernel_rfl) trivial) ?_
       obtain rfl:=oi h
       exact lN
      ·refine cf hb2 ?_
       refine aP (rz tT ⟨(Z9 s_ p u7),(RG p w0 p1 w3 w7 x0 u4)⟩ {} [] ?_)
       obtain rfl:=oi h
       exact lN
     ·refine cf hb3 ?_
      refine aI (fz ⟨(UF s_ p),(RG p w0 p1 w3 w7 x0 u4)⟩ []) ?_
      refine aX ?_
      obtain rfl:=oi h
      exact lB
    ·clear hy
     cases y1 with
     |brk z=>
      obtain⟨p2,uf,ud,x1,u5⟩:=z
      unfold gm
      refine⟨_, .refl, ?_⟩
      refine aQ (sz tT ⟨[(2,(vP 63 0)),(lF s_),(4,(vP 65 0)),(mZ p),(9,(vP 71 0)),(10,(vP 76 0)),qY,pM,nO,(115,(vD (k6 p))),(116,(vI (p.racks.length:Int))),(117,(vI 0))],(ad4 x1 p p1 p2 ud uf x0 u4 u5)⟩ {} [] ?_)
      refine bE h fun y3 hy h=> ?_
      refine aL [] (uo p s_ p1 x0 u4 p2 x1 u5) (tY p p1 x0 u4 p2 x1 u5) fI hy (fun s f h=> ?_) ?_
      ·clear hy
       show bJ _ _ _ _ _ _ ((nX p s_ p1 x0 u4 p2 x1 u5) f) _
       unfold jq at h
       obtain⟨p3,v7,x7,x3,x2,x9,u2,w1,u0⟩:=s
       refine sz tT ⟨[(2,(vP 63 0)),(lF s_),(4,(vP 65 0)),(8,(vI v7)),(9,(vP 71 0)),(10,(vP 76 0)),qY,pM,nO,(xZ u2),(116,(vI w1)),(117,(vI u0)),(118,(vB (decide (u0<w1))))],(VA x2 x0 x1 x9 p p1 p2 p3 x3 x7 u4 u5)⟩ {} [] ?_
       refine aQ ?_
       refine bI h (fun hb6 h=> ?_) (fun hb6 h=> ?_)
       ·refine ct hb6 ?_
        refine aP (aQ (aB (aQ (aO h fun a1 h=> ?_))))
        refine rg tT ⟨(acH s_ v7 u0 u2 w1),(VA x2 x0 x1 x9 p p1 p2 p3 x3 x7 u4 u5)⟩ [_] {fr:=[(3,114)] } [114] ⟨a1,trivial⟩ ?_
        refine aQ (bE h fun x4 hr_5 h=> ?_)
        have q0:=rk [(0,71),(1,72),(2,70),(3,115)] (bY (XF p u0) v7 ((at' u2 u0.toNat).power) 0 (⟨x7,x3⟩:Network) hr_5)
        refine rg tT ⟨(acH s_ v7 u0 u2 w1),(agP p p1 x0 u4 x4 p2 p3 x1 x2 u5 x9)⟩ [_] {an:=[(9,cA q0 [71,72,70])] } [] ⟨q0,trivial⟩ ?_
        refine sz tT ⟨[(2,(vP 63 0)),(lF s_),(4,(vP 65 0)),(8,(vI v7)),(9,(vP 71 0)),(10,(vP 76 0)),qY,pM,nO,(18,(vI u0)),(Eg u2 u0),(xZ u2),(116,(vI w1)),(117,(vI u0)),(Gz u2 u0),(134,(vI 0))],(agP p p1 x0 u4 x4 p2 p3 x1 x2 u5 x9)⟩ {} [] ?_
        refine bE h fun y2 hy h=> ?_
        refine aL [5] (tZ p s_ p1 x0 u4 p2 x1 u5 p3 v7 x2 u2 w1 u0) (uy p s_ p1 x0 u4 p2 x1 u5 p3 v7 x2 u2 w1 u0) (nX p s_ p1 x0 u4 p2 x1 u5) hy (fun s f h=> ?_) ?_
        ·clear hy
         show bJ _ _ _ _ _ _ ((Cz p s_ p1 x0 u4 p2 x1 u5 p3 v7 x2 u2 w1 u0) f) _
         unfold fV at h
         obtain⟨w8,w4,w2,v3⟩:=s
         refine sz tT ⟨[(2,(vP 63 0)),(lF s_),(4,(vP 65 0)),(8,(vI v7)),(9,(vP 71 0)),(10,(vP 76 0)),qY,pM,nO,(18,(vI u0)),(Eg u2 u0),(xZ u2),(116,(vI w1)),(117,(vI u0)),(Gz u2 u0),(134,(vI v3)),(135,(vB (decide (v3<2))))],(P7 p p1 p2 p3 w4 w8 x0 x1 x2 u4 u5 w2)⟩ {} [] ?_
         refine aQ ?_
         refine bI h (fun hb5 h=> ?_) (fun hb5 h=> ?_)
         ·refine ct hb5 ?_
          refine aP (aQ (aB (aQ (aO h fun a1 h=> ?_))))
          refine rg tT ⟨[(2,(vP 63 0)),(lF s_),(4,(vP 65 0)),(8,(vI v7)),(9,(vP 71 0)),(10,(vP 76 0)),qY,pM,nO,(18,(vI u0)),(Eg u2 u0),(20,(vI v3)),(Wz u0 u2 v3),(xZ u2),(116,(vI w1)),(117,(vI u0)),(Gz u2 u0),(134,(vI v3))],(P7 p p1 p2 p3 w4 w8 x0 x1 x2 u4 u5 w2)⟩ [_,v3.toNat*1+1≤(Ti u2 u0).length,((Ti u2 u0).drop (v3.toNat*1)).take 1=(V6 u0 u2 v3).map .d] {an:=[(1, .vals (V6 u0 u2 v3))] } [] ⟨a1,(Uo (n:=2) (sz:=1) (Nat.le_refl _) a1),(Ub (n:=2) (sz:=1) (g:=fun q=>[(cI (at' [(JZ u2 u0).e0,(JZ u2 u0).e1] q))]) (by intro q hq;match q,hq with|0,_=>rfl|1,_=>rfl) a1),trivial⟩ ?_
          refine aQ (bE h fun ul hr_6 h=> ?_)
          have q0:=kR s_ (Uj u0 u2 v3) hr_6
          refine rg tT ⟨[(2,(vP 63 0)),(lF s_),(4,(vP 65 0)),(8,(vI v7)),(9,(vP 71 0)),(10,(vP 76 0)),qY,pM,nO,(18,(vI u0)),(Eg u2 u0),(20,(vI v3)),(Wz u0 u2 v3),(xZ u2),(116,(vI w1)),(117,(vI u0)),(Gz u2 u0),(134,(vI v3)),(140,(vB ul))],(P7 p p1 p2 p3 w4 w8 x0 x1 x2 u4 u5 w2)⟩ [_] {an:=[(2,cA q0 [])] } [] ⟨q0,trivial⟩ ?_
          refine bI h (fun hb4 h=> ?_) (fun hb4 h=> ?_)
          ·refine ct hb4 ?_
           refine bE h fun v6 hr_7 h=> ?_
           have q0:=rk [(0,71),(1,115),(2,70),(3,119)] (bY (agq u0 u2 v3) (XF p u0) ((at' u2 u0.toNat).power) 0 (⟨w8,w4⟩:Network) hr_7)
           refine rg tT ⟨(aef s_ v7 u0 u2 w1 v3),[(eF p p1 p2 p3),bP,(M5 v6),(acX v6),(lY x0),(nY x1),(pR x2),(qz x2 x0 x1),(Dt u4),(CW u5),(79,some (QW 164 3 true false 2 1 af.cell (au .i64) (jF (fun a b=>(decide (a.e0=b.e0) && (decide (a.e1=b.e1) && true))) (⟨u0,v3⟩:af) v6.1 w2))),(119,some (FB v6))]⟩ [_,FU [some .i64,some .i64] 2 1 w2.length (CY af.cell w2) (CU (au .i64) w2) [(.int .i64 u0),(.int .i64 v3)] [(cI v6.1)] [] (jF (fun a b=>(decide (a.e0=b.e0) && (decide (a.e1=b.e1) && true))) (⟨u0,v3⟩:af) v6.1 w2).length (CY af.cell (jF (fun a b=>(decide (a.e0=b.e0) && (decide (a.e1=b.e1) && true))) (⟨u0,v3⟩:af) v6.1 w2)) (CU (au .i64) (jF (fun a b=>(decide (a.e0=b.e0) && (decide (a.e1=b.e1) && true))) (⟨u0,v3⟩:af) v6.1 w2))] {an:=[(14,cA q0 [71,115,70]),(15, .map (jF (fun a b=>(decide (a.e0=b.e0) && (decide (a.e1=b.e1) && true))) (⟨u0,v3⟩:af) v6.1 w2).length (CY af.cell (jF (fun a b=>(decide (a.e0=b.e0) && (decide (a.e1=b.e1) && true))) (⟨u0,v3⟩:af) v6.1 w2)) (CU (au .i64) (jF (fun a b=>(decide (a.e0=b.e0) && (decide (a.e1=b.e1) && true))) (⟨u0,v3⟩:af) v6.1 w2)) [])] } [] ⟨q0,(yg (fun _=>rfl) (fun _ _=>rfl) w2 (⟨u0,v3⟩:af) v6.1 rfl rfl),trivial⟩ ?_
           refine ri tT ⟨(abk s_ v7 u0 u2 w1 v3),[(eF p p1 p2 p3),bP,(M5 v6),(acX v6),(lY x0),(nY x1),(pR x2),(qz x2 x0 x1),(Dt u4),(CW u5),(79,some (QW 164 3 true false 2 1 af.cell (au .i64) (jF (fun a b=>(decide (a.e0=b.e0) && (decide (a.e1=b.e1) && true))) (⟨u0,v3⟩:af) v6.1 w2))),(119,some (FB v6))]⟩ [] {} [] trivial (bM.fin (st':=⟨(abk s_ v7 u0 u2 w1 v3),[(eF p p1 p2 p3),bP,(M5 v6),(aeo v6),(lY x0),(nY x1),(pR x2),(qz x2 x0 x1),(Dt u4),(CW u5),(79,some (QW 164 3 true false 2 1 af.cell (au .i64) (jF (fun a b=>(decide (a.e0=b.e0) && (decide (a.e1=b.e1) && true))) (⟨u0,v3⟩:af) v6.1 w2))),(XO v6)]⟩) (cs:=[]) ⟨[],[(63,63),(65,65),(70,70),(71,71),(73,73),(74,74),(75,75),(76,76),(77,77),(78,78),(79,79),(119,115)]⟩ [2,3,4,8,9,10,11,12,13,18,19,115,116,117,133,134] (by kernel_rfl) trivial) ?_
           obtain rfl:=oi h
           exact lN
          ·refine cf hb4 ?_
           refine aP (rz tT ⟨(abk s_ v7 u0 u2 w1 v3),(P7 p p1 p2 p3 w4 w8 x0 x1 x2 u4 u5 w2)⟩ {} [] ?_)
           obtain rfl:=oi h
           exact lN
         ·refine cf hb5 ?_
          refine aI (fz (adn s_ v7 u2 w1 u0 p p1 p2 p3 w4 w8 x0 x1 x2 u4 u5 w2) []) ?_
          refine aX ?_
          obtain rfl:=oi h
          exact lB
        ·clear hy
         cases y2 with
         |brk z=>
          obtain⟨ub,x8,ug⟩:=z
          unfold gm
          refine⟨_, .refl, ?_⟩
          refine ri tT ⟨(ac9 s_ v7 u0 u2 w1),(P7 p p1 p2 p3 x8 ub x0 x1 x2 u4 u5 ug)⟩ [] {} [] trivial (bM.fin (st':=⟨(ac9 s_ v7 u0 u2 w1),(VA x2 x0 x1 ug p p1 p2 p3 x8 ub u4 u5)⟩) (cs:=[]) ⟨[],[(63,63),(65,65),(70,70),(71,71),(115,72),(73,73),(74,74),(75,75),(76,76),(77,77),(78,78),(79,79)]⟩ [2,3,4,8,9,10,11,12,13,115,116,117] (by kernel_rfl) trivial) ?_
          obtain rfl:=oi h
          exact lN
         |ret v=>
          obtain rfl:=oi h
          unfold gm
          intro e st hn ha hR
          cases e with
          |normal=>exact absurd rfl hn
          |exit id=>simp only [qA (b:=5) ha rfl,cond_false];exact hR
          |goto l=>exact hR
          |ret=>exact hR
          |panic c=>exact hR
          |outgrown=>exact hR
       ·refine cf hb6 ?_
        refine aI (fz (acO v7 p p1 p2 p3 x3 x7 x0 x1 x2 u4 u5 x9) []) ?_
        refine aX ?_
        obtain rfl:=oi h
        exact lB
      ·clear hy
       cases y3 with
       |brk z=>
        obtain⟨v1,ua,x5,x6,v2,u3⟩:=z
        unfold gm
        refine⟨_, .refl, ?_⟩
        refine aQ (aI (.trans (fi ⟨(ZV ua),[(eF p p1 p2 v1),bP,(71,some (.cells 161 [(.own 72 false x5.length),(.d (.sl (some true) 1 x6.length (fun i j=>evD (yI rW x6 i j))))])),(LP x5),(lY x0),(nY x1),(pR v2),(qz v2 x0 x1),(Dt u4),(CW u5),(EP u3)]⟩ [x6.length=x6.length] [70] ⟨rfl,trivial⟩) (bM.le (st':=⟨(ZV ua),[(eF p p1 p2 v1),bP,(aea x5 x6),(LP x5),(lY x0),(nY x1),(pR v2),(qz v2 x0 x1),(Dt u4),(CW u5),(EP u3)]⟩) ⟨⟨tR,tR,tR,tR,tR,tR,tR,tR,trivial⟩,(hN 2 ⟨rfl,bA ⟨dO.refl _,dO.d (gV.sl (.inr rfl) (fun i _ j hj=>match j,hj with|0,_=> .refl _)),trivial⟩,(.refl _)⟩)⟩)) ?_)
        refine bE h fun u1 hr_8 h=> ?_
        refine rg tT ⟨[(2,(vP 63 0)),(4,(vP 65 0)),(9,(vP 71 0)),(10,(vP 76 0)),qY,pM,nO],[(eF p p1 p2 v1),bP,(yB u1),(xI u1),(lY x0),(nY x1),(pR v2),(qz v2 x0 x1),(Dt u4),(CW u5),(EP u3)]⟩ [Fn Try.prog 80 [(.one (.ptr 71 0)),(sI ua)] [(aea x5 x6),(LP x5)] (.iP []) (aeQ u1)] {an:=[(2, .call [71,72] (.iP []) (aeQ u1))] } [] ⟨(Fn.leH (args:=[(.one (.ptr 71 0)),(sI ua)]) (hin:=[(71,some (.cells 161 [(.own 72 false x5.length),(.d (Po x6))])),(LP x5)]) (rK [(0,71),(1,72)] (o6 ua (⟨x5,x6⟩:Network) hr_8)) ⟨eG.refl _,eG.refl _,trivial⟩ ⟨rfl,bA ⟨dO.refl _,dO.d gV.nV,trivial⟩,(.refl _)⟩),trivial⟩ ?_
        refine aQ (bE h fun y4 hy h=> ?_)
        refine mI (C8 p p1 p2 x1 u5 v1 v2 u3 u1) (K:=3) (V:=3) (s0:=(x0)) ⟨3,3,false,false,1,1,u4.length,CY (au .i64) u4,CU (au .i64) u4,[]⟩ 77 120 (fun i=>(sI (at' (u4.map Prod.fst) i))) (fun i=>(sI (at' (u4.map Prod.snd) i))) hy [3,4] (by kernel_rfl) (by kernel_rfl) (by kernel_rfl) (fun _ _=> ⟨rfl,rfl⟩) (fun _ _=> ⟨qP _ _,qP _ _⟩) (fun _=>(bM.fin (st':=(adO u1 p p1 p2 v1 x0 x1 v2 u5 u3)) (cs:=[]) ⟨[],[(63,63),(65,65),(71,71),(72,72),(73,73),(74,74),(75,75),(76,76),(78,78),(79,79),(120,120)]⟩ [2,4,9,10,12,13,162] (by kernel_rfl) trivial)) (fun s=>by obtain⟨w5,rfl⟩: ∃q,q=s:=⟨_,rfl⟩;kernel_rfl) (fun B s i s' hi h=> ?_) ?_
        ·clear hy
         unfold kH at h
         obtain⟨w5,rfl⟩: ∃q,q=s:=⟨_,rfl⟩
         refine rwp tT (⟨[(2,(vP 63 0)),(4,(vP 65 0)),(9,(vP 71 0)),(10,(vP 76 0)),pM,nO,(22,(vI (at' (u4.map Prod.fst) i))),(23,(vI (at' (u4.map Prod.snd) i))),(162,(vP 120 0))],(agu u1 p p1 p2 v1 w5 x1 v2 u5 u3)⟩) {fin:=⟨[],[(63,63),(65,65),(71,71),(72,72),(73,73),(74,74),(75,75),(76,76),(78,78),(79,79),(120,120)]⟩,ts:=[2,4,9,10,12,13,22,23,162] } (cs:=[]) (by kernel_rfl) trivial .refl ?_
         refine aO h fun⟨a1,a2⟩ h=> ?_
         refine di tT mX ⟨Zu,[(eF p p1 p2 v1),bP,(yB u1),(xI u1),(73,some (.arr 3 1 w5.length (RV u4 u1 i w5))),(nY x1),(pR v2),(qz v2 w5 x1),(CW u5),(EP u3),(120,none)]⟩ [_,_,_,_,aG w5.length 1 (agy u4 u1 i w5) (RV u4 u1 i w5)] {an:=[(13, .arr 0 (RV u4 u1 i w5))] } [] ⟨a1,(tL a1),a2,(tL a2),(bL _ _ _ _ _ _ _ _ rfl (fun j hj=>(match j,hj with|0,_=>rfl))),trivial⟩ (bM.le (st':=⟨Zu,[(eF p p1 p2 v1),bP,(yB u1),(xI u1),(73,some (acJ u4 u1 i w5)),(nY x1),(pR v2),(76,some (.cells 77 [(.own 73 true (ac0 u4 u1 i w5)),(.own 74 true x1.length),(.own 75 true v2.length)])),(CW u5),(EP u3),(120,none)]⟩) ⟨⟨tR,tR,tR,tR,tR,tR,tR,trivial⟩,(hN 4 ⟨rfl,oW,(hN 2 ⟨rfl,bA ⟨cW,dO.refl _,dO.refl _,trivial⟩,(.refl _)⟩)⟩)⟩) ?_
         obtain rfl:=oi h
         exact⟨.inl rfl,by kernel_rfl⟩
        ·clear hy
         obtain⟨u6,rfl⟩: ∃q,q=y4:=⟨_,rfl⟩
         refine aI (fz ⟨[(2,(vP 63 0)),(4,(vP 65 0)),(9,(vP 71 0)),(10,(vP 76 0)),pM,nO],[(eF p p1 p2 v1),bP,(yB u1),(xI u1),(lY u6),(nY x1),(pR v2),(qz v2 u6 x1),(CW u5),(EP u3)]⟩ []) ?_
         refine aQ (bE h fun y5 hy h=> ?_)
         refine mI (Cw p p1 p2 v1 v2 u3 u1 u6) (K:=3) (V:=3) (s0:=(x1)) ⟨3,3,false,false,1,1,u5.length,CY (au .i64) u5,CU (au .i64) u5,[]⟩ 78 121 (fun i1=>(sI (at' (u5.map Prod.fst) i1))) (fun i1=>(sI (at' (u5.map Prod.snd) i1))) hy [3,4] (by kernel_rfl) (by kernel_rfl) (by kernel_rfl) (fun _ _=> ⟨rfl,rfl⟩) (fun _ _=> ⟨qP _ _,qP _ _⟩) (fun _=>(bM.fin (st':=(adf p p1 p2 v1 u1 u6 x1 v2 u3)) (cs:=[]) ⟨[],[(63,63),(65,65),(71,71),(72,72),(73,73),(74,74),(75,75),(76,76),(79,79),(121,121)]⟩ [2,4,9,10,13,182] (by kernel_rfl) trivial)) (fun s=>by obtain⟨w6,rfl⟩: ∃q,q=s:=⟨_,rfl⟩;kernel_rfl) (fun B s i1 s' hi h=> ?_) ?_
         ·clear hy
          unfold kI at h
          obtain⟨w6,rfl⟩: ∃q,q=s:=⟨_,rfl⟩
          refine rwp tT (⟨[(2,(vP 63 0)),(4,(vP 65 0)),(9,(vP 71 0)),(10,(vP 76 0)),nO,(24,(vI (at' (u5.map Prod.fst) i1))),(25,(vI (at' (u5.map Prod.snd) i1))),(182,(vP 121 0))],(aeO p p1 p2 v1 u1 u6 w6 v2 u3)⟩) {fin:=⟨[],[(63,63),(65,65),(71,71),(72,72),(73,73),(74,74),(75,75),(76,76),(79,79),(121,121)]⟩,ts:=[2,4,9,10,13,24,25,182] } (cs:=[]) (by kernel_rfl) trivial .refl ?_
          refine aO h fun⟨a1,a2,a3⟩ h=> ?_
          refine di tT mX ⟨aa7,[(eF p p1 p2 v1),bP,(yB u1),(xI u1),(lY u6),(74,some (.arr 3 1 w6.length (Sc p2 u5 u1 i1 w6))),(pR v2),(qz v2 u6 w6),(EP u3),(121,none)]⟩ [_,_,_,_,_,aG w6.length 1 (adZ p2 u5 u1 i1 w6) (Sc p2 u5 u1 i1 w6)] {an:=[(19, .arr 0 (Sc p2 u5 u1 i1 w6))] } [] ⟨a1,a2,(tL a2),a3,(tL a3),(bL _ _ _ _ _ _ _ _ rfl (fun j hj=>(match j,hj with|0,_=>rfl))),trivial⟩ (bM.le (st':=⟨aa7,[(eF p p1 p2 v1),bP,(yB u1),(xI u1),(lY u6),(74,some (ac1 p2 u5 u1 i1 w6)),(pR v2),(76,some (.cells 77 [(.own 73 true u6.length),(.own 74 true (abK p2 u5 u1 i1 w6)),(.own 75 true v2.length)])),(EP u3),(121,none)]⟩) ⟨⟨tR,tR,tR,tR,tR,tR,trivial⟩,(hN 5 ⟨rfl,oW,⟨rfl, .refl _,⟨rfl,bA ⟨dO.refl _,cW,dO.refl _,trivial⟩,⟨rfl, .refl _,⟨rfl, .refl _,trivial⟩⟩⟩⟩⟩)⟩) ?_
          obtain rfl:=oi h
          exact⟨.inl rfl,by kernel_rfl⟩
         ·clear hy
          obtain⟨u8,rfl⟩: ∃q,q=y5:=⟨_,rfl⟩
          refine aI (fz ⟨[(2,(vP 63 0)),(4,(vP 65 0)),(9,(vP 71 0)),(10,(vP 76 0)),nO],[(eF p p1 p2 v1),bP,(yB u1),(xI u1),(lY u6),(nY u8),(pR v2),(qz v2 u6 u8),(EP u3)]⟩ []) ?_
          refine aQ (bE h fun y6 hy h=> ?_)
          refine mI (Db p p1 p2 v1 u1 u6 u8) (K:=164) (V:=3) (s0:=(v2)) ⟨164,3,true,false,2,1,u3.length,CY af.cell u3,CU (au .i64) u3,[]⟩ 79 122 (fun i2=>(.agg (XY u3 i2))) (fun i2=>(sI (at' (u3.map Prod.snd) i2))) hy [3,4,5] (by kernel_rfl) (by kernel_rfl) (by kernel_rfl) (fun _ _=> ⟨rfl,rfl⟩) (fun _ _=> ⟨Qk rfl,qP _ _⟩) (fun _=>(bM.fin (st':=(agO p p1 p2 v1 u1 u6 u8 v2)) (cs:=[]) ⟨[],[(63,63),(65,65),(71,71),(72,72),(73,73),(74,74),(75,75),(76,76),(122,122)]⟩ [2,4,9,10,208] (by kernel_rfl) trivial)) (fun s=>by obtain⟨u9,rfl⟩: ∃q,q=s:=⟨_,rfl⟩;kernel_rfl) (fun B s i2 s' hi h=> ?_) ?_
          ·clear hy
           unfold kG at h
           obtain⟨u9,rfl⟩: ∃q,q=s:=⟨_,rfl⟩
           refine rwp tT (⟨(aap u3 i2),[(eF p p1 p2 v1),bP,(yB u1),(xI u1),(lY u6),(nY u8),(pR u9),(qz u9 u6 u8),(122,none),(125,some (.cells 164 (XY u3 i2)))]⟩) {fr:=frf [(3,125)],fin:=⟨[],[(63,63),(65,65),(71,71),(72,72),(73,73),(74,74),(75,75),(76,76),(122,122),(125,125)]⟩,ts:=[2,4,9,10,26,27,208] } (cs:=[]) (by kernel_rfl) trivial .refl ?_
           refine bI h (fun hb7 h=> ?_) (fun _ h=> ?_)
           ·skip
            refine aI (bM.le (st':=⟨(aap u3 i2),[(eF p p1 p2 v1),bP,(yB u1),(xI u1),(lY u6),(nY u8),(pR u9),(qz u9 u6 u8),(122,none),(125,some (.cells 164 [(cI ((at' (u3.map Prod.fst) i2).e0)),(cI 0)]))]⟩) ⟨⟨tR,tR,tR,tR,tR,tR,tR,trivial⟩,(hN 9 ⟨rfl,bA ⟨dO.refl _,dO.of (congrArg (fun n=>CV.d (.int .i64 n)) (of_decide_eq_true hb7)),trivial⟩,trivial⟩)⟩) ?_
            refine aO h fun⟨a1,a2⟩ h=> ?_
            refine di tT mX ⟨Tq,[(eF p p1 p2 v1),bP,(yB u1),(xI u1),(lY u6),(nY u8),(75,some (.arr 164 2 u9.length (Rc u1 u3 i2 u9))),(qz u9 u6 u8),(122,none)]⟩ [(0:Int)≤0∧(0:Int)<(2:Nat),(0:Int)≤1∧(1:Int)<(2:Nat),_,_,_,(0:Int)≤0∧(0:Int)<(2:Nat),_,aG u9.length 2 (aes u1 u3 i2 u9) (Rc u1 u3 i2 u9)] {an:=[(17, .arr 0 (Rc u1 u3 i2 u9))] } [] ⟨((by decide)),((by decide)),a1,(tL a1),a2,((by decide)),(tL a2),(bL _ _ _ _ _ _ _ _ rfl (fun j hj=>(match j,hj with|0,_=>rfl|1,_=>rfl))),trivial⟩ (bM.le (st':=⟨Tq,[(eF p p1 p2 v1),bP,(yB u1),(xI u1),(lY u6),(nY u8),(75,some (afW u1 u3 i2 u9)),(76,some (.cells 77 [(.own 73 true u6.length),(.own 74 true u8.length),(.own 75 true (afl u1 u3 i2 u9))])),(122,none)]⟩) ⟨⟨tR,tR,tR,tR,tR,trivial⟩,(hN 6 ⟨rfl,oW,⟨rfl,bA ⟨dO.refl _,dO.refl _,cW,trivial⟩,(.refl _)⟩⟩)⟩) ?_
            obtain rfl:=oi h
            exact⟨.inl rfl,by kernel_rfl⟩
           ·skip
            refine aO h fun a1 h=> ?_
            refine aI (bM.le (st':=⟨(aap u3 i2),[(eF p p1 p2 v1),bP,(yB u1),(xI u1),(lY u6),(nY u8),(pR u9),(qz u9 u6 u8),(122,none),(125,some (.cells 164 [(cI ((at' (u3.map Prod.fst) i2).e0)),(cI 1)]))]⟩) ⟨⟨tR,tR,tR,tR,tR,tR,tR,trivial⟩,(hN 9 ⟨rfl,bA ⟨dO.refl _,dO.of (congrArg (fun n=>CV.d (.int .i64 n)) a1),trivial⟩,trivial⟩)⟩) ?_
            refine aO h fun⟨a1,a2⟩ h=> ?_
            refine di tT mX ⟨Tq,[(eF p p1 p2 v1),bP,(yB u1),(xI u1),(lY u6),(nY u8),(75,some (.arr 164 2 u9.length (Rv u1 u3 i2 u9))),(qz u9 u6 u8),(122,none)]⟩ [(0:Int)≤0∧(0:Int)<(2:Nat),(0:Int)≤1∧(1:Int)<(2:Nat),_,_,_,(0:Int)≤1∧(1:Int)<(2:Nat),_,aG u9.length 2 (ac2 u1 u3 i2 u9) (Rv u1 u3 i2 u9)] {an:=[(17, .arr 0 (Rv u1 u3 i2 u9))] } [] ⟨((by decide)),((by decide)),a1,(tL a1),a2,((by decide)),(tL a2),(bL _ _ _ _ _ _ _ _ rfl (fun j hj=>(match j,hj with|0,_=>rfl|1,_=>rfl))),trivial⟩ (bM.le (st':=⟨Tq,[(eF p p1 p2 v1),bP,(yB u1),(xI u1),(lY u6),(nY u8),(75,some (afa u1 u3 i2 u9)),(76,some (.cells 77 [(.own 73 true u6.length),(.own 74 true u8.length),(.own 75 true (afZ u1 u3 i2 u9))])),(122,none)]⟩) ⟨⟨tR,tR,tR,tR,tR,trivial⟩,(hN 6 ⟨rfl,oW,⟨rfl,bA ⟨dO.refl _,dO.refl _,cW,trivial⟩,(.refl _)⟩⟩)⟩) ?_
            obtain rfl:=oi h
            exact⟨.inl rfl,by kernel_rfl⟩
          ·clear hy
           obtain⟨v8,rfl⟩: ∃q,q=y6:=⟨_,rfl⟩
           refine aI (fz ⟨[(2,(vP 63 0)),(4,(vP 65 0)),(9,(vP 71 0)),(10,(vP 76 0))],[(eF p p1 p2 v1),bP,(yB u1),(xI u1),(lY u6),(nY u8),(pR v8),(qz v8 u6 u8)]⟩ []) ?_
           refine aQ (aO h fun⟨a1,a2,a3⟩ h=> ?_)
           refine rg tT ⟨[(2,(vP 63 0)),(4,(vP 65 0)),(9,(vP 71 0)),(10,(vP 76 0)),(28,(vP 127 0))],[(eF p p1 p2 v1),bP,(yB u1),(xI u1),(lY u6),(nY u8),(pR v8),(qz v8 u6 u8),(TN p),(Ur p)]⟩ [_,(p.buses:Int)=p.buses,_,_,(IY p).length=p.buses.toNat,aG p.buses.toNat 1 (fun _ j=>[(.bool false)].getD j .nilp) (Q8 p)] {an:=[(2, .arr (IY p).length (Q8 p))],fr:=[(2,126),(3,127)] } [] ⟨a1,rfl,a2,a3,(List.length_replicate),(dQ _ _ _ _ _ (fun j hj=>(match j,hj with|0,_=>rfl))),trivial⟩ ?_
           refine aQ (aQ (bE h fun um hr_9 h=> ?_))
           have q0:=rk [(0,71),(1,72),(2,128)] (jm u1 hr_9)
           refine ri tT ⟨agL,[(eF p p1 p2 v1),bP,(71,some (abO u1)),(lY u6),(nY u8),(pR v8),(qz v8 u6 u8),(TN p),(Ur p),(128,some (.cells 157 [(.ptr 71 0)]))]⟩ [_,u1.arcs.length=u1.arcs.length] {an:=[(1,cA q0 [71,72])] } [72] ⟨q0,rfl,trivial⟩ (.trans (fz ⟨agL,[(eF p p1 p2 v1),bP,(lY u6),(nY u8),(pR v8),(qz v8 u6 u8),(TN p),(Ur p),(128,some (acd u1))]⟩ [71]) (fz ⟨(acz u1),[(eF p p1 p2 v1),bP,(lY u6),(nY u8),(pR v8),(qz v8 u6 u8),(TN p),(Ur p)]⟩ [128])) ?_
           refine aB (bE h fun w9 hr_10 h=> ?_)
           refine jT 129 [(2,(vP 63 0)),(28,(vP 127 0))] [] [129,63,127,126] (.iP []) [(129,some (.loop dN 0 [(2,(vP 63 0)),(28,(vP 127 0))])),(eF p p1 p2 v1),(127,some (.cells 27 [(.own 126 true w9.length)])),(126,some (cu 4 1 aj w9))] (YT u1) 121 [] (acL u1) [(129,some (.loop dN 0 [(2,(vP 63 0)),(28,(vP 127 0))])),(eF p p1 p2 v1),(Ur p),(TN p)] [(.one (.yl 129)),(sD (WB u1))] dN 0 [(2,(vP 63 0)),(28,(vP 127 0))] (by kernel_rfl) (by kernel_rfl) (by kernel_rfl) (by kernel_rfl) (by kernel_rfl) (by kernel_rfl) (by kernel_rfl) (rK [(0,129),(1,63),(2,127),(3,126)] (jI u1.arcs u1.from_ (⟨p.buses,p1,p2,v1⟩:ah) (IY p) hr_10)) (by kernel_rfl) rfl (CR.zero rfl) (bM.fin (st':=⟨(acz u1),[(eF p p1 p2 v1),bP,(lY u6),(nY u8),(pR v8),(qz v8 u6 u8),(126,some (cu 4 1 aj w9)),(127,some (.cells 27 [(.own 126 true w9.length)]))]⟩) (cs:=[]) ⟨[],[(63,63),(65,65),(73,73),(74,74),(75,75),(76,76),(126,126),(127,127)]⟩ [2,4,10,28,235] (by kernel_rfl) trivial) ?_
           refine sd tT mX ⟨[(4,(vP 65 0)),(5,(vO 126 true w9.length)),(6,(vI 0))],[(65,some (.cells 77 [(.own 73 true u6.length),(.own 74 true u8.length),(.own 75 true v8.length)])),(lY u6),(nY u8),(pR v8),(126,some (cu 4 1 aj w9))]⟩ [] {} [] trivial ?_
           refine aI (.trans (bM.fin (st':=⟨[(4,(vP 4 0)),(5,(vO 3 true w9.length)),(6,(vI 0))],[(EY u6),(1,some (Bt u8)),(2,some (cu 164 2 af.cell v8)),(vK w9),(4,some (.cells 77 [(.own 0 true u6.length),(.own 1 true u8.length),(.own 2 true v8.length)]))]⟩) (cs:=[]) ⟨[],[(73,0),(74,1),(75,2),(126,3),(65,4)]⟩ [4,5,6] (by kernel_rfl) trivial) (bM.le (st':=⟨[(4,(vP 4 0)),(5,(vO 3 false w9.length)),(6,(vI 0))],[(EY u6),(1,some (Bt u8)),(2,some (cu 164 2 af.cell v8)),(vK w9),(4,some (.cells 77 [(.own 0 false u6.length),(.own 1 false u8.length),(.own 2 false v8.length)]))]⟩) ⟨⟨tR,⟨_,rfl,eO.v (eG.one (cN))⟩,tR,trivial⟩,(hN 4 ⟨rfl,bA ⟨cN,cN,cN,trivial⟩,trivial⟩)⟩)) ?_
           refine aR ?_
           obtain rfl:=oi h
           exact rh [(.agg [(.own 0 false u6.length),(.own 1 false u8.length),(.own 2 false v8.length)]),(.one (.own 3 false w9.length)),(sI 0)] (.refl _) (hN 4 ⟨rfl,trivial,trivial⟩)
       |ret v=>
        obtain rfl:=oi h
        unfold gm
        intro e st hn ha hR
        cases e with
        |normal=>exact absurd rfl hn
        |exit id=>exact hR
        |goto l=>exact hR
        |ret=>exact hR
        |panic c=>exact hR
        |outgrown=>exact hR
     |ret v=>
      obtain rfl:=oi h
      unfold gm
      intro e st hn ha hR
      cases e with
      |normal=>exact absurd rfl hn
      |exit id=>exact hR
      |goto l=>exact hR
      |ret=>exact hR
      |panic c=>exact hR
      |outgrown=>exact hR
   |ret v=>
    obtain rfl:=oi h
    unfold gm
    intro e st hn ha hR
    cases e with
    |normal=>exact absurd rfl hn
    |exit id=>exact hR
    |goto l=>exact hR
    |ret=>exact hR
    |panic c=>exact hR
    |outgrown=>exact hR
noncomputable def iw:nR:=⟨[25,26],GN ([1,1,1,1,0,1,0]++[0]) (mY Try.f33),GN ([1,1,1,1,0,1,0]++[1]) (mY Try.f33),35,[]⟩
abbrev Bw:Nat × Option Ob:=(0,some (.loop iw 0 [(9,(vP 1 0))]))
def Ce  :(List Part)→Exit→St→Prop:=
  fun r=>ng 0 iw (vB true) [Bw,(1,some (.cells 80 [(.own 3 false r.length)])),(2,none),(3,some (cu 117 2 Part.cell r))]
section
variable (u0:(List Part)) (u1:Int) (u2:Int)
abbrev Dc:Ob:=(cu 117 2 Part.cell u0)
abbrev QT:List (Nat × Option Ob):=[Bw,(1,some (.cells 80 [(.own 2 false u0.length)])),(2,some (Dc u0))]
abbrev Z4:List (Nat × TV):=[(9,(vP 1 0)),(10,(vD (lV [(.int .i64 u1),(.int .i64 u2)] 0)))]
abbrev UX:Nat × Option Ob:=(0,some (.loop iw 1 [(9,(vP 1 0))]))
abbrev aeT:List (Nat × Option Ob):=[UX,(1,some (.cells 80 [(.own 2 false u0.length)])),(2,some (Dc u0))]
abbrev abX:List (Nat × TV):=[(9,(vP 1 0)),(10,(vD (lV [(.int .i64 u1),(.int .i64 u2)] 0))),(29,(vB (!decide (u1=0))))]
end
theorem mE (u1:Int) (u2:Int) (u3:Int) (u0:(List Part)) {r:(List Part)} (h:jA u1 u2 u3 u0=some r):Yl Try.prog 0 [(.agg [(cI u1),(cI u2)]),(sI u3)] (QT u0) (vB true) [Bw,(1,some (.cells 80 [(.own 3 false r.length)])),(2,none),(3,some (cu 117 2 Part.cell r))]:=by
 refine DC (r:=iw) (sl:=[(9,(vP 1 0))]) (sl1:=(Z4 u1 u2)) (h1:=(QT u0)) (sl2:=[(9,(vP 1 0))]) (by kernel_rfl) rfl rfl (by kernel_rfl) (fun rd B=> ?_) (by kernel_rfl) (fun rd B=> ?_)
 ·refine qR (c:=GN ([1,1,1,1,0,1,0]++[0]) (mY Try.f33)) rfl ?_
  refine oq (st:=⟨[(25,(.v (.agg [(cI u1),(cI u2)]))),(26,(vI u3)),(9,(vP 1 0))],(QT u0)⟩) (by kernel_rfl) ?_
  refine rz tT ⟨(Z4 u1 u2),(QT u0)⟩ {fr:=[(0,6)] } [6] ?_
  exact⟨rfl,rfl⟩
 ·refine qR (c:=GN ([1,1,1,1,0,1,0]++[1]) (mY Try.f33)) rfl ?_
  refine oq (st:=⟨(Z4 u1 u2),(aeT u0)⟩) (by kernel_rfl) ?_
  show bJ _ _ _ _ _ _ (Ce r) _
  unfold jA at h
  refine aB (sz tT ⟨(abX u1 u2),(aeT u0)⟩ {} [] ?_)
  refine bI h (fun hb h=> ?_) (fun hb h=> ?_)
  ·refine ct hb ?_
   refine aO h fun⟨a1,a2⟩ h=> ?_
   refine ri tT ⟨[],[UX,(1,some (.cells 80 [(.own 8 false ((u0++[(⟨u1,u2⟩:Part)]).length))])),(2,none),(8,some (cu 117 2 Part.cell (u0++[(⟨u1,u2⟩:Part)])))]⟩ [[(⟨u1,u2⟩:Part)].length=1,aG 1 2 (jD 2 [(.int .i64 u1),(.int .i64 u2)]) (aC Part.cell [(⟨u1,u2⟩:Part)]),u0.length=u0.length,_,_,(u0++[(⟨u1,u2⟩:Part)]).length=u0.length+[(⟨u1,u2⟩:Part)].length,aG (u0.length+[(⟨u1,u2⟩:Part)].length) 2 (D8 (aC Part.cell u0) u0.length (aC Part.cell [(⟨u1,u2⟩:Part)])) (aC Part.cell (u0++[(⟨u1,u2⟩:Part)]))] {an:=[(2, .arr [(⟨u1,u2⟩:Part)].length (aC Part.cell [(⟨u1,u2⟩:Part)])),(3, .arr (u0++[(⟨u1,u2⟩:Part)]).length (aC Part.cell (u0++[(⟨u1,u2⟩:Part)])))],fr:=[(2,7),(3,8)] } [] ⟨(rfl),((by intro i hi j hj;match i,j,hi,hj with|0,0,_,_=>rfl|0,1,_,_=>rfl)),rfl,a1,a2,(List.length_append),(mR _ _ _ _),trivial⟩ (bM.fin (st':=⟨[],[UX,(1,some (.cells 80 [(.own 3 false ((u0++[(⟨u1,u2⟩:Part)]).length))])),(2,none),(3,some (cu 117 2 Part.cell (u0++[(⟨u1,u2⟩:Part)])))]⟩) (cs:=[]) ⟨[],[(0,0),(1,1),(2,2),(8,3)]⟩ [] (by kernel_rfl) trivial) ?_
   obtain rfl:=oi h
   exact ng.on (sl:=[(9,(vP 1 0))]) (by kernel_rfl) (zn (by kernel_rfl)) (eO.refl _)
  ·refine cf hb ?_
   refine aI (.trans (bM.U3 (E0:=80) (cs:=[(.own 2 false u0.length)]) (nn:=false) (len:=u0.length) (E:=117) (esz:=2) (n:=u0.length) (el:=aC Part.cell u0) (p:=1) (q:=0) (b:=2) (b':=9) (by kernel_rfl) (by kernel_rfl) (by kernel_rfl) (by kernel_rfl)) (.trans (fz ⟨(abX u1 u2),[UX,(1,some (.cells 80 [(.own 9 false u0.length)])),(2,none),(9,some (Dc u0))]⟩ []) (bM.fin (st':=⟨[],[UX,(1,some (.cells 80 [(.own 3 false u0.length)])),(2,none),(3,some (Dc u0))]⟩) (cs:=[]) ⟨[],[(0,0),(1,1),(2,2),(9,3)]⟩ [] (by kernel_rfl) trivial))) ?_
   refine aP ?_
   obtain rfl:=oi h
   exact ng.on (sl:=[(9,(vP 1 0))]) (by kernel_rfl) (zn (by kernel_rfl)) (eO.refl _)
def Ay  :Bool→Exit→St→Prop:=
  fun r=>bB TT [.tmp 3] (vB r) []
theorem zU (b:Int) (x1:(List Bool)) {r:Bool} (h:kE b x1=some r):Fn Try.prog 125 [(sI b),(sD (Pz x1))] [] (vB r) []:=by
 refine fN tT Try.func125 rfl rfl fun B=> ?_
 show bJ _ _ _ _ _ _ (Ay r) _
 unfold kE at h
 refine sz tT ⟨[(0,(vI b)),(1,(vD (Pz x1)))],[]⟩ {} [] ?_
 refine aQ (aO h fun a1 h=> ?_)
 refine rg tT ⟨[(3,(vB (bif (decide (0≤b))then(at' x1 b.toNat)else false)))],[]⟩ (eqs (decide (0≤b)) 3 ((gP (jl [(2,(decide (0≤b)))]) [(2,true)]→All [(0:Int)≤b∧b<(x1.length:Int)])::(eqs (decide (0≤b)) 2 []))) {yb:=[(2,(decide (0≤b)))] } [] (ae ⟨(fun hg=> ⟨(a1 (aZ hg)),trivial⟩),(ae trivial)⟩) ?_
 refine aR ?_
 obtain rfl:=oi h
 exact rl [(sB (bif (decide (0≤b))then(at' x1 b.toNat)else false))]
def iV  :Int→Exit→St→Prop:=
  fun r=>bB TT [.tmp 4] (vI r) []
section
variable (f_:(List Bool))
abbrev R4:=(nN [(Pz f_)])
abbrev PU:Nat × TV:=(1,(vD (.fn 125 1 (R4 f_))))
end
def kU (s_:(List Int)) (f_:(List Bool)):Int→St:=
  fun t8=> ⟨[(jX s_),(PU f_),(oC s_),(8,(vI t8))],[]⟩
def kW  :Unit→St:=
  fun _=> ⟨[],[]⟩
def sU (s_:(List Int)) (f_:(List Bool)):(aM Int (Ex Unit Int))→Exit→St→Prop:=
  LQ 0 [] (kU s_ f_) kW iV
section
variable (s_:(List Int)) (f_:(List Bool))
abbrev aeG:St:=⟨[(jX s_),(PU f_)],[]⟩
end
theorem tK (s_:(List Int)) (f_:(List Bool)) {r:Int} (h:gT s_ f_=some r):Fn Try.prog 113 [(sD (yN s_)),(sD (.fn 125 1 (R4 f_)))] [] (vI r) []:=by
 refine fN tT Try.func113 rfl rfl fun B=> ?_
 show bJ _ _ _ _ _ _ (iV r) _
 unfold gT at h
 refine sz tT (aeG s_ f_) {} [] ?_
 refine aQ (sz tT ⟨[(jX s_),(PU f_),(oC s_),(8,(vI 0))],[]⟩ {} [] ?_)
 refine bE h fun y hy h=> ?_
 refine aL [] (kU s_ f_) kW iV hy (fun s f h=> ?_) ?_
 ·clear hy
  show bJ _ _ _ _ _ _ ((sU s_ f_) f) _
  unfold fD at h
  obtain⟨t8,rfl⟩: ∃q,q=s:=⟨_,rfl⟩
  refine sz tT ⟨[(jX s_),(PU f_),(oC s_),(8,(vI t8)),(UH t8 s_)],[]⟩ {} [] ?_
  refine aQ ?_
  refine bI h (fun hb1 h=> ?_) (fun hb1 h=> ?_)
  ·refine ct hb1 ?_
   refine aP (aQ (aB (sz tT ⟨[(jX s_),(PU f_),(5,(vI t8)),(oC s_),(8,(vI t8))],[]⟩ {} [] ?_)))
   refine aQ (bE h fun r_ hr_ h=> ?_)
   refine aO h fun a1 h=> ?_
   have q1:=zU (at' s_ t8.toNat) f_ hr_
   refine rg tT ⟨[(jX s_),(PU f_),(5,(vI t8)),(oC s_),(8,(vI t8)),(16,(vB r_))],[]⟩ [_,_] {an:=[(5,cA q1 [])] } [] ⟨a1,q1,trivial⟩ ?_
   refine bI h (fun hb h=> ?_) (fun hb h=> ?_)
   ·refine ct hb ?_
    refine sz tT ⟨[(4,(vI t8))],[]⟩ {} [] ?_
    refine aR ?_
    obtain rfl:=oi h
    exact lR dY (dX 0) dW (bB.mk (.inr rfl) (p:=[]) (l:=[(sI t8)]) (by kernel_rfl) trivial (eO.refl _) trivial)
   ·refine cf hb ?_
    refine aP (rz tT ⟨[(jX s_),(PU f_),(oC s_),(Yv t8)],[]⟩ {} [] ?_)
    obtain rfl:=oi h
    exact lN
  ·refine cf hb1 ?_
   refine aI (fz ⟨[],[]⟩ []) ?_
   refine aX ?_
   obtain rfl:=oi h
   exact lB
 ·clear hy
  cases y with
  |brk z=>
   unfold gm
   refine⟨_, .refl, ?_⟩
   refine sz tT ⟨[(4,(vI (-1)))],[]⟩ {} [] ?_
   refine aR ?_
   obtain rfl:=oi h
   exact rl [(sI (-1))]
  |ret v=>
   obtain rfl:=oi h
   unfold gm
   intro e st hn ha hR
   cases e with
   |normal=>exact absurd rfl hn
   |exit id=>exact hR
   |goto l=>exact hR
   |ret=>exact hR
   |panic c=>exact hR
   |outgrown=>exact hR
def rE  :Bool→Exit→St→Prop:=
  fun r=>bB TT [.tmp 4] (vB r) []
theorem j5 (s_:(List Int)) (f_:(List Bool)) {r:Bool} (h:cK s_ f_=some r):Fn Try.prog 67 [(sD (yN s_)),(sD (.fn 125 1 (R4 f_)))] [] (vB r) []:=by
 refine fN tT Try.func67 rfl rfl fun B=> ?_
 show bJ _ _ _ _ _ _ (rE r) _
 unfold cK at h
 refine sz tT (aeG s_ f_) {} [] ?_
 refine aQ (bE h fun r_ hr_ h=> ?_)
 have q0:=tK s_ f_ hr_
 refine rg tT (k32 r_) [_] {an:=[(2,cA q0 [])] } [] ⟨q0,trivial⟩ ?_
 refine aR ?_
 obtain rfl:=oi h
 exact rl [(sB (decide (0≤r_)))]
def fA  :(List Part)→Exit→St→Prop:=
  fun r=>bB TT [] (.iP []) [Bw,(1,some (.cells 80 [(.own 3 false r.length)])),(2,none),(3,some (cu 117 2 Part.cell r))]
section
variable (x2:(List Bool)) (u4:(List Bool)) (u5:(List Bool)) (u6:(List Bool)) (u7:(List Bool)) (u8:(List Bool)) (u9:(List Bool)) (x3:(List Bool)) (u0:(List Source)) (x1:Int) (u2:(List Link)) (u3:(List ay)) (v0:Int) (u1:(List Part))
abbrev ac4:DV:=(lV [(aK none 1 aj x2),(aK none 1 aj u4),(aK none 1 aj u5),(aK none 1 aj u6),(aK none 1 aj u7),(aK none 1 aj u8),(aK none 1 aj u9)] 0)
abbrev Cy:Nat × TV:=(2,(vD (ac4 x2 u4 u5 u6 u7 u8 u9)))
abbrev tu:Nat × TV:=(3,(vD (Pz x3)))
abbrev Qd:Nat × TV:=(13,(vD (k13 u0)))
abbrev PI:Nat × TV:=(14,(vI (u0.length:Int)))
abbrev agM:List (Nat × TV):=[dZ,(k15 u0 u3 x1 u2),(Cy x2 u4 u5 u6 u7 u8 u9),(tu x3),(Qd u0),(PI u0),(15,(vI v0))]
abbrev rM:List (Nat × Option Ob):=[Bw,(1,some (.cells 80 [(.own 37 false u1.length)])),(2,none),(37,some (Dc u1))]
end
def su (x1:Int) (u0:(List Source)) (u2:(List Link)) (u3:(List ay)) (x2:(List Bool)) (u4:(List Bool)) (u5:(List Bool)) (u6:(List Bool)) (u7:(List Bool)) (u8:(List Bool)) (u9:(List Bool)) (x3:(List Bool)):((List Part) × Int)→St:=
  fun zz=>match zz with|(u1,v0)=> ⟨(agM x2 u4 u5 u6 u7 u8 u9 x3 u0 x1 u2 u3 v0),(rM u1)⟩
section
variable (x1:Int) (u1:(List Source)) (u2:(List Link)) (u3:(List ay)) (x2:(List Bool)) (u4:(List Bool)) (u5:(List Bool)) (u6:(List Bool)) (u7:(List Bool)) (u8:(List Bool)) (u9:(List Bool)) (x3:(List Bool)) (u0:(List Part))
abbrev acs:List (Nat × TV):=[dZ,(k15 u1 u3 x1 u2),(Cy x2 u4 u5 u6 u7 u8 u9),(tu x3)]
abbrev acM:St:=⟨(acs x1 u1 u2 u3 x2 u4 u5 u6 u7 u8 u9 x3),(rM u0)⟩
end
def rX (x1:Int) (u1:(List Source)) (u2:(List Link)) (u3:(List ay)) (x2:(List Bool)) (u4:(List Bool)) (u5:(List Bool)) (u6:(List Bool)) (u7:(List Bool)) (u8:(List Bool)) (u9:(List Bool)) (x3:(List Bool)):(List Part)→St:=
  fun u0=>(acM x1 u1 u2 u3 x2 u4 u5 u6 u7 u8 u9 x3 u0)
def Cb (x1:Int) (u0:(List Source)) (u1:(List Link)) (u2:(List ay)) (x2:(List Bool)) (u3:(List Bool)) (u4:(List Bool)) (u5:(List Bool)) (u6:(List Bool)) (u7:(List Bool)) (u8:(List Bool)) (x3:(List Bool)):(aM ((List Part) × Int) (Ex (List Part) (List Part)))→Exit→St→Prop:=
  LQ 0 [] (su x1 u0 u1 u2 x2 u3 u4 u5 u6 u7 u8 x3) (rX x1 u0 u1 u2 x2 u3 u4 u5 u6 u7 u8 x3) fA
section
variable (u0:(List Link)) (x1:Int) (u2:(List Source)) (u3:(List ay)) (x2:(List Bool)) (u4:(List Bool)) (u5:(List Bool)) (u6:(List Bool)) (u7:(List Bool)) (u8:(List Bool)) (u9:(List Bool)) (x3:(List Bool)) (v0:Int)
abbrev PN:Nat × TV:=(43,(vD (aK none 6 Link.cell u0)))
abbrev PO:Nat × TV:=(44,(vI (u0.length:Int)))
abbrev adI:List (Nat × TV):=[dZ,(k15 u2 u3 x1 u0),(Cy x2 u4 u5 u6 u7 u8 u9),(tu x3),(PN u0),(PO u0),(45,(vI v0))]
end
def sH (x1:Int) (u2:(List Source)) (u0:(List Link)) (u3:(List ay)) (x2:(List Bool)) (u4:(List Bool)) (u5:(List Bool)) (u6:(List Bool)) (u7:(List Bool)) (u8:(List Bool)) (u9:(List Bool)) (x3:(List Bool)):((List Part) × Int)→St:=
  fun zz=>match zz with|(u1,v0)=> ⟨(adI u0 x1 u2 u3 x2 u4 u5 u6 u7 u8 u9 x3 v0),(rM u1)⟩
section
variable (x1:Int) (u1:(List Source)) (u2:(List Link)) (u3:(List ay)) (x3:(List Bool)) (u0:(List Part))
abbrev adD:List (Nat × TV):=[dZ,(k15 u1 u3 x1 u2),(tu x3)]
abbrev af6:St:=⟨(adD x1 u1 u2 u3 x3),(rM u0)⟩
end
def rQ (x1:Int) (u1:(List Source)) (u2:(List Link)) (u3:(List ay)) (x3:(List Bool)):(List Part)→St:=
  fun u0=>(af6 x1 u1 u2 u3 x3 u0)
def BK (x1:Int) (u0:(List Source)) (u1:(List Link)) (u2:(List ay)) (x2:(List Bool)) (u3:(List Bool)) (u4:(List Bool)) (u5:(List Bool)) (u6:(List Bool)) (u7:(List Bool)) (u8:(List Bool)) (x3:(List Bool)):(aM ((List Part) × Int) (Ex (List Part) (List Part)))→Exit→St→Prop:=
  LQ 2 [] (sH x1 u0 u1 u2 x2 u3 u4 u5 u6 u7 u8 x3) (rQ x1 u0 u1 u2 x3) fA
section
variable (u0:(List ay)) (x3:(List Bool)) (u2:Int)
abbrev NV:Nat × TV:=(78,(vD (k14 u0)))
abbrev Nu:Nat × TV:=(79,(vI (u0.length:Int)))
abbrev abM:List (Nat × TV):=[dZ,(tu x3),(NV u0),(Nu u0),(80,(vI u2))]
end
def rZ (u0:(List ay)) (x3:(List Bool)):((List Part) × Int)→St:=
  fun zz=>match zz with|(u1,u2)=> ⟨(abM u0 x3 u2),(rM u1)⟩
def sF  :(List Part)→St:=
  fun o905=> ⟨[],[Bw,(1,some (.cells 80 [(.own 37 false o905.length)])),(2,none),(37,some (cu 117 2 Part.cell o905))]⟩
def BZ (u0:(List ay)) (x3:(List Bool)):(aM ((List Part) × Int) (Ex (List Part) (List Part)))→Exit→St→Prop:=
  LQ 4 [] (rZ u0 x3) sF fA
section
variable (x1:Int) (u1:(List Source)) (u0:(List Link)) (u2:(List ay)) (x2:(List Bool)) (u7:(List Bool)) (u8:(List Bool)) (u9:(List Bool)) (v0:(List Bool)) (v1:(List Bool)) (v2:(List Bool)) (x3:(List Bool)) (u4:Int) (r_:Bool) (v8:(List Part)) (v5:(List Part)) (u3:Int) (u5:Bool) (v9:(List Part)) (u6:Int) (v3:Bool) (w0:(List Part))
abbrev af2:List SV:=[(.one (.yl 0)),(sD (k12 u1 u2 x1 u0)),(sD (ac4 x2 u7 u8 u9 v0 v1 v2)),(sD (Pz x3))]
abbrev Wn:List (Nat × TV):=[dZ,(k15 u1 u2 x1 u0),(Cy x2 u7 u8 u9 v0 v1 v2),(tu x3),(Qd u1),(PI u1),(15,(vI 0))]
abbrev adt:List (Nat × TV):=[dZ,(k15 u1 u2 x1 u0),(Cy x2 u7 u8 u9 v0 v1 v2),(tu x3),(Qd u1),(PI u1),(15,(vI u4)),(16,(vB (decide (u4<(u1.length:Int)))))]
abbrev adY:List (Nat × TV):=[dZ,(k15 u1 u2 x1 u0),(Cy x2 u7 u8 u9 v0 v1 v2),(tu x3),(5,(vI u4)),(6,(vD (lV [(.int .i64 ((at' u1 u4.toNat).bus)),(.int .i64 ((at' u1 u4.toNat).kind)),(.int .i64 ((at' u1 u4.toNat).power)),(.int .i64 ((at' u1 u4.toNat).sync)),(.int .i64 ((at' u1 u4.toNat).iH))] 0))),(Qd u1),(PI u1),(15,(vI u4))]
abbrev rA:=(bif r_ then(!(at' x3 (((at' u1 u4.toNat).bus).toNat)))else false)
abbrev aaJ:List (Nat × TV):=[dZ,(k15 u1 u2 x1 u0),(Cy x2 u7 u8 u9 v0 v1 v2),(tu x3),(Qd u1),(PI u1),(15,(vI u4)),(40,(vB (bif (rA u1 x3 u4 r_)then false else false)))]
abbrev Zq:List (Nat × Option Ob):=[Bw,(1,some (.cells 80 [(.own 41 false v8.length)])),(2,none),(41,some (Dc v8))]
abbrev agJ:=(gP (jl [(4,r_),(12,true)]) [(4,true)]→All [(0:Int)≤(at' u1 u4.toNat).bus∧(at' u1 u4.toNat).bus<(x3.length:Int)])
abbrev aaw:List (Nat × Option Ob):=[Bw,(1,some (.cells 80 [(.own 37 false v5.length)])),(37,some (Dc v5))]
abbrev adm:List (Nat × Option Ob):=[Bw,(1,some (.cells 80 [(.own 41 false v8.length)])),(37,none),(41,some (Dc v8))]
abbrev Zi:List (Nat × TV):=[dZ,(k15 u1 u2 x1 u0),(Cy x2 u7 u8 u9 v0 v1 v2),(tu x3),(Qd u1),(PI u1),(15,(vI u4)),(40,(vB false))]
abbrev abt:List (Nat × TV):=[dZ,(k15 u1 u2 x1 u0),(Cy x2 u7 u8 u9 v0 v1 v2),(tu x3),(Qd u1),(PI u1),(15,(k3 u4))]
abbrev afB:St:=⟨(abt x1 u1 u0 u2 x2 u7 u8 u9 v0 v1 v2 x3 u4),(rM v8)⟩
abbrev Mg:=(jl [(4,r_),(12,false)])
abbrev aeL:=(eqs r_ 4 ((gP (Mg r_) [(4,true)]→All [(0:Int)≤(at' u1 u4.toNat).bus∧(at' u1 u4.toNat).bus<(x3.length:Int)])::(eqs r_ 3 [(rA u1 x3 u4 r_)=false, ¬ gP (Mg r_) [(12,true)],(rA u1 x3 u4 r_)=false, ¬ gP (Mg r_) [(12,true)],(rA u1 x3 u4 r_)=false, ¬ gP (Mg r_) [(12,true)],(rA u1 x3 u4 r_)=false, ¬ gP (Mg r_) [(12,true)],(rA u1 x3 u4 r_)=false, ¬ gP (Mg r_) [(12,true)],(rA u1 x3 u4 r_)=false, ¬ gP (Mg r_) [(12,true)],(rA u1 x3 u4 r_)=false, ¬ gP (Mg r_) [(12,true)],(rA u1 x3 u4 r_)=false])))
abbrev adM:List (Nat × TV):=[dZ,(k15 u1 u2 x1 u0),(Cy x2 u7 u8 u9 v0 v1 v2),(tu x3),(PN u0),(PO u0),(45,(vI 0))]
abbrev aeY:List (Nat × TV):=[dZ,(k15 u1 u2 x1 u0),(Cy x2 u7 u8 u9 v0 v1 v2),(tu x3),(PN u0),(PO u0),(45,(vI u3)),(46,(vB (decide (u3<(u0.length:Int)))))]
abbrev afk:List (Nat × TV):=[dZ,(k15 u1 u2 x1 u0),(Cy x2 u7 u8 u9 v0 v1 v2),(tu x3),(7,(vI u3)),(8,(vD (lV [(.int .i64 ((at' u0 u3.toNat).a)),(.int .i64 ((at' u0 u3.toNat).b)),(.int .i64 ((at' u0 u3.toNat).kind)),(.int .i64 ((at' u0 u3.toNat).most)),(.int .i64 ((at' u0 u3.toNat).iH)),(aK none 2 iY.cell ((at' u0 u3.toNat).trip))] 0))),(PN u0),(PO u0),(45,(vI u3))]
abbrev ru:=(bif u5 then(!((at' x3 (((at' u0 u3.toNat).a).toNat))==(at' x3 (((at' u0 u3.toNat).b).toNat))))else false)
abbrev aar:List (Nat × TV):=[dZ,(k15 u1 u2 x1 u0),(Cy x2 u7 u8 u9 v0 v1 v2),(tu x3),(PN u0),(PO u0),(45,(vI u3)),(75,(vB (bif (ru u0 x3 u3 u5)then false else false)))]
abbrev Y2:List (Nat × Option Ob):=[Bw,(1,some (.cells 80 [(.own 50 false v9.length)])),(2,none),(50,some (Dc v9))]
abbrev Rw:=(jl [(4,u5),(17,true)])
abbrev adL:=(gP (Rw u5) [(4,true)]→All [(0:Int)≤(at' u0 u3.toNat).a∧(at' u0 u3.toNat).a<(x3.length:Int)])
abbrev agb:=(gP (Rw u5) [(4,true)]→All [(0:Int)≤(at' u0 u3.toNat).b∧(at' u0 u3.toNat).b<(x3.length:Int)])
abbrev afK:List (Nat × Option Ob):=[Bw,(1,some (.cells 80 [(.own 50 false v9.length)])),(37,none),(50,some (Dc v9))]
abbrev YM:List (Nat × TV):=[dZ,(k15 u1 u2 x1 u0),(Cy x2 u7 u8 u9 v0 v1 v2),(tu x3),(PN u0),(PO u0),(45,(vI u3)),(75,(vB false))]
abbrev aaH:List (Nat × TV):=[dZ,(k15 u1 u2 x1 u0),(Cy x2 u7 u8 u9 v0 v1 v2),(tu x3),(PN u0),(PO u0),(45,(k3 u3))]
abbrev ae7:St:=⟨(aaH x1 u1 u0 u2 x2 u7 u8 u9 v0 v1 v2 x3 u3),(rM v9)⟩
abbrev KZ:=(jl [(4,u5),(17,false)])
abbrev abP:=(eqs u5 4 ((gP (KZ u5) [(4,true)]→All [(0:Int)≤(at' u0 u3.toNat).a∧(at' u0 u3.toNat).a<(x3.length:Int)])::(eqs u5 5 ((gP (KZ u5) [(4,true)]→All [(0:Int)≤(at' u0 u3.toNat).b∧(at' u0 u3.toNat).b<(x3.length:Int)])::(eqs u5 3 [(ru u0 x3 u3 u5)=false, ¬ gP (KZ u5) [(17,true)],(ru u0 x3 u3 u5)=false, ¬ gP (KZ u5) [(17,true)],(ru u0 x3 u3 u5)=false, ¬ gP (KZ u5) [(17,true)],(ru u0 x3 u3 u5)=false, ¬ gP (KZ u5) [(17,true)],(ru u0 x3 u3 u5)=false, ¬ gP (KZ u5) [(17,true)],(ru u0 x3 u3 u5)=false, ¬ gP (KZ u5) [(17,true)],(ru u0 x3 u3 u5)=false, ¬ gP (KZ u5) [(17,true)],(ru u0 x3 u3 u5)=false])))))
abbrev af8:List (Nat × TV):=[dZ,(tu x3),(NV u2),(Nu u2),(80,(vI 0))]
abbrev ae5:List (Nat × TV):=[dZ,(tu x3),(NV u2),(Nu u2),(80,(vI u6)),(81,(vB (decide (u6<(u2.length:Int)))))]
abbrev afP:Nat × TV:=(10,(aeV u2 u6))
abbrev agz:List (Nat × TV):=[dZ,(tu x3),(9,(vI u6)),(afP u2 u6),(NV u2),(Nu u2),(80,(vI u6))]
abbrev ad5:List (Nat × TV):=[dZ,(tu x3),(9,(vI u6)),(afP u2 u6),(11,(vB v3)),(NV u2),(Nu u2),(80,(vI u6))]
abbrev afd:List SV:=[(sD (aK none 1 (au .i64) [(JZ u2 u6).e0,(JZ u2 u6).e1])),(sD (.fn 125 1 (R4 x3)))]
abbrev aa1:List (Nat × TV):=[dZ,(tu x3),(NV u2),(Nu u2),(80,(vI u6)),(98,(vB (bif v3 then false else false)))]
abbrev Z7:List (Nat × Option Ob):=[Bw,(1,some (.cells 80 [(.own 58 false w0.length)])),(2,none),(58,some (Dc w0))]
abbrev aeb:List (Nat × Option Ob):=[Bw,(1,some (.cells 80 [(.own 58 false w0.length)])),(37,none),(58,some (Dc w0))]
abbrev YJ:List (Nat × TV):=[dZ,(tu x3),(NV u2),(Nu u2),(80,(vI u6)),(98,(vB false))]
abbrev aaI:List (Nat × TV):=[dZ,(tu x3),(NV u2),(Nu u2),(80,(k3 u6))]
abbrev agA:St:=⟨(aaI u2 x3 u6),(rM w0)⟩
end
theorem BL (x1:Int) (u1:(List Source)) (u0:(List Link)) (u2:(List ay)) (x2:(List Bool)) (u7:(List Bool)) (u8:(List Bool)) (u9:(List Bool)) (v0:(List Bool)) (v1:(List Bool)) (v2:(List Bool)) (x3:(List Bool)) (v7:(List Part)) {r:(List Part)} (h:qK x1 u1 u0 u2 x2 u7 u8 u9 v0 v1 v2 x3 v7=some r):Fn Try.prog 124 (af2 x1 u1 u0 u2 x2 u7 u8 u9 v0 v1 v2 x3) (QT v7) (.iP []) [Bw,(1,some (.cells 80 [(.own 3 false r.length)])),(2,none),(3,some (cu 117 2 Part.cell r))]:=by
 refine fN tT Try.func124 rfl rfl fun B=> ?_
 show bJ _ _ _ _ _ _ (fA r) _
 unfold qK at h
 refine aQ (sz tT ⟨(Wn x1 u1 u0 u2 x2 u7 u8 u9 v0 v1 v2 x3),(QT v7)⟩ {} [] ?_)
 refine bE h fun y hy h=> ?_
 refine aI (.trans (bM.U3 (E0:=80) (cs:=[(.own 2 false v7.length)]) (nn:=false) (len:=v7.length) (E:=117) (esz:=2) (n:=v7.length) (el:=aC Part.cell v7) (p:=1) (q:=0) (b:=2) (b':=42) (by kernel_rfl) (by kernel_rfl) (by kernel_rfl) (by kernel_rfl)) (.trans (fz ⟨(Wn x1 u1 u0 u2 x2 u7 u8 u9 v0 v1 v2 x3),[Bw,(1,some (.cells 80 [(.own 42 false v7.length)])),(2,none),(42,some (Dc v7))]⟩ []) (bM.fin (st':=⟨(Wn x1 u1 u0 u2 x2 u7 u8 u9 v0 v1 v2 x3),(rM v7)⟩) (cs:=[]) ⟨[],[(0,0),(1,1),(2,2),(42,37)]⟩ [0,1,2,3,13,14,15] (by kernel_rfl) trivial))) ?_
 refine aL [] (su x1 u1 u0 u2 x2 u7 u8 u9 v0 v1 v2 x3) (rX x1 u1 u0 u2 x2 u7 u8 u9 v0 v1 v2 x3) fA hy (fun s f h=> ?_) ?_
 ·clear hy
  show bJ _ _ _ _ _ _ ((Cb x1 u1 u0 u2 x2 u7 u8 u9 v0 v1 v2 x3) f) _
  unfold sM at h
  obtain⟨v5,u4⟩:=s
  refine sz tT ⟨(adt x1 u1 u0 u2 x2 u7 u8 u9 v0 v1 v2 x3 u4),(rM v5)⟩ {} [] ?_
  refine aQ ?_
  refine bI h (fun hb1 h=> ?_) (fun hb1 h=> ?_)
  ·refine ct hb1 ?_
   refine aP (aQ (aB (aQ (aO h fun a1 h=> ?_))))
   refine rg tT ⟨(adY x1 u1 u0 u2 x2 u7 u8 u9 v0 v1 v2 x3 u4),(rM v5)⟩ [_] {fr:=[(3,40)] } [40] ⟨a1,trivial⟩ ?_
   refine aQ (bE h fun r_ hr_ h=> ?_)
   refine bI h (fun hb h=> ?_) (fun hb h=> ?_)
   ·skip
    refine bE h fun v8 hr_1 h=> ?_
    refine aO h fun a1 h=> ?_
    have q0:=fU (⟨x1,u1,u0,u2⟩:ah) (⟨x2,u7,u8,u9,v0,v1,v2⟩:State) u4 hr_
    refine ri tT ⟨(aaJ x1 u1 u0 u2 x2 u7 u8 u9 v0 v1 v2 x3 u4 r_),(Zq v8)⟩ (_::(eqs r_ 4 ((agJ u1 x3 u4 r_)::(eqs r_ 3 [(rA u1 x3 u4 r_)=true,(rA u1 x3 u4 r_)=true,(rA u1 x3 u4 r_)=true,(rA u1 x3 u4 r_)=true,(rA u1 x3 u4 r_)=true,(rA u1 x3 u4 r_)=true,gP (jl [(4,r_),(12,true)]) [(12,true)]→All [Yl Try.prog 0 [(.agg [(cI 2),(cI u4)]),(sI ((at' u1 u4.toNat).power))] (aaw v5) (vB true) (adm v8)],gP (jl [(4,r_),(12,true)]) [(12,true)],(rA u1 x3 u4 r_)=true,(rA u1 x3 u4 r_)=true])))) {yb:=[(4,r_),(12,true)],an:=[(3,cA q0 []),(18, .call [0,1,37] (vB true) (adm v8))] } [] ⟨q0,(ae ⟨(fun hg=> ⟨(a1 (aZ hg)),trivial⟩),(ae ⟨(hb),(hb),(hb),(hb),(hb),(hb),(fun hg=> ⟨(yK [(2,37),(3,41)] (mE 2 u4 ((at' u1 u4.toNat).power) v5 hr_1)),trivial⟩),(⟨rfl,trivial⟩),(hb),(hb),trivial⟩)⟩)⟩ (bM.le (st':=⟨(Zi x1 u1 u0 u2 x2 u7 u8 u9 v0 v1 v2 x3 u4),(Zq v8)⟩) ⟨⟨tR,tR,tR,tR,tR,tR,tR,⟨_,rfl,eO.v (eG.one (dO.of (congrArg (fun b=>CV.d (.bool b)) (BQ hb))))⟩,trivial⟩,(.refl _)⟩) ?_
    refine cn (aP (ri tT ⟨(abt x1 u1 u0 u2 x2 u7 u8 u9 v0 v1 v2 x3 u4),(Zq v8)⟩ [] {} [] trivial (bM.fin (st':=(afB x1 u1 u0 u2 x2 u7 u8 u9 v0 v1 v2 x3 u4 v8)) (cs:=[]) ⟨[],[(0,0),(1,1),(2,2),(41,37)]⟩ [0,1,2,3,13,14,15] (by kernel_rfl) trivial) ?_))
    obtain rfl:=oi h
    exact lN
   ·skip
    refine aO h fun a1 h=> ?_
    have q0:=fU (⟨x1,u1,u0,u2⟩:ah) (⟨x2,u7,u8,u9,v0,v1,v2⟩:State) u4 hr_
    refine ri tT ⟨(aaJ x1 u1 u0 u2 x2 u7 u8 u9 v0 v1 v2 x3 u4 r_),(rM v5)⟩ (_::(aeL u1 x3 u4 r_)) {yb:=[(4,r_),(12,false)],an:=[(3,cA q0 []),(13, .skip),(14, .skip),(15, .skip),(16, .skip),(17, .skip),(18, .skip),(19, .skip)] } [] ⟨q0,(ae ⟨(fun hg=> ⟨(a1 (aZ hg)),trivial⟩),(ae ⟨(hb),((fun h=>Bool.noConfusion (show false=true from h.1))),(hb),((fun h=>Bool.noConfusion (show false=true from h.1))),(hb),((fun h=>Bool.noConfusion (show false=true from h.1))),(hb),((fun h=>Bool.noConfusion (show false=true from h.1))),(hb),((fun h=>Bool.noConfusion (show false=true from h.1))),(hb),((fun h=>Bool.noConfusion (show false=true from h.1))),(hb),((fun h=>Bool.noConfusion (show false=true from h.1))),(hb),trivial⟩)⟩)⟩ (bM.le (st':=⟨(Zi x1 u1 u0 u2 x2 u7 u8 u9 v0 v1 v2 x3 u4),(rM v5)⟩) ⟨⟨tR,tR,tR,tR,tR,tR,tR,⟨_,rfl,eO.v (eG.one (dO.of (congrArg (fun b=>CV.d (.bool b)) (BP hb))))⟩,trivial⟩,(.refl _)⟩) ?_
    refine cn (aP (rz tT (afB x1 u1 u0 u2 x2 u7 u8 u9 v0 v1 v2 x3 u4 v5) {} [] ?_))
    obtain rfl:=oi h
    exact lN
  ·refine cf hb1 ?_
   refine aI (fz (acM x1 u1 u0 u2 x2 u7 u8 u9 v0 v1 v2 x3 v5) []) ?_
   refine aX ?_
   obtain rfl:=oi h
   exact lB
 ·clear hy
  cases y with
  |brk z=>
   obtain⟨w1,rfl⟩: ∃q,q=z:=⟨_,rfl⟩
   unfold gm
   refine⟨_, .refl, ?_⟩
   refine aQ (sz tT ⟨(adM x1 u1 u0 u2 x2 u7 u8 u9 v0 v1 v2 x3),(rM w1)⟩ {} [] ?_)
   refine bE h fun y1 hy h=> ?_
   refine aL [] (sH x1 u1 u0 u2 x2 u7 u8 u9 v0 v1 v2 x3) (rQ x1 u1 u0 u2 x3) fA hy (fun s f h=> ?_) ?_
   ·clear hy
    show bJ _ _ _ _ _ _ ((BK x1 u1 u0 u2 x2 u7 u8 u9 v0 v1 v2 x3) f) _
    unfold rP at h
    obtain⟨v6,u3⟩:=s
    refine sz tT ⟨(aeY x1 u1 u0 u2 x2 u7 u8 u9 v0 v1 v2 x3 u3),(rM v6)⟩ {} [] ?_
    refine aQ ?_
    refine bI h (fun hb3 h=> ?_) (fun hb3 h=> ?_)
    ·refine ct hb3 ?_
     refine aP (aQ (aB (aQ (aO h fun a1 h=> ?_))))
     refine rg tT ⟨(afk x1 u1 u0 u2 x2 u7 u8 u9 v0 v1 v2 x3 u3),(rM v6)⟩ [_] {fr:=[(3,49)] } [49] ⟨a1,trivial⟩ ?_
     refine aQ (bE h fun u5 hr_2 h=> ?_)
     refine bI h (fun hb2 h=> ?_) (fun hb2 h=> ?_)
     ·skip
      refine bE h fun v9 hr_3 h=> ?_
      refine aO h fun⟨a1,a2⟩ h=> ?_
      have q0:=dL (⟨x1,u1,u0,u2⟩:ah) (⟨x2,u7,u8,u9,v0,v1,v2⟩:State) u3 hr_2
      refine di tT mX ⟨(aar x1 u1 u0 u2 x2 u7 u8 u9 v0 v1 v2 x3 u3 u5),(Y2 v9)⟩ (_::(eqs u5 4 ((adL u0 x3 u3 u5)::(eqs u5 5 ((agb u0 x3 u3 u5)::(eqs u5 3 [(ru u0 x3 u3 u5)=true,(ru u0 x3 u3 u5)=true,(ru u0 x3 u3 u5)=true,(ru u0 x3 u3 u5)=true,(ru u0 x3 u3 u5)=true,(ru u0 x3 u3 u5)=true,gP (Rw u5) [(17,true)]→All [Yl Try.prog 0 [(.agg [(cI 3),(cI u3)]),(sI ((at' u0 u3.toNat).most))] (aaw v6) (vB true) (afK v9)],gP (Rw u5) [(17,true)],(ru u0 x3 u3 u5)=true,(ru u0 x3 u3 u5)=true])))))) {yb:=[(4,u5),(17,true)],an:=[(3,cA q0 []),(23, .call [0,1,37] (vB true) (afK v9))] } [] ⟨q0,(ae ⟨(fun hg=> ⟨(a1 (aZ hg)),trivial⟩),(ae ⟨(fun hg=> ⟨(a2 (aZ hg)),trivial⟩),(ae ⟨(hb2),(hb2),(hb2),(hb2),(hb2),(hb2),(fun hg=> ⟨(yK [(2,37),(3,50)] (mE 3 u3 ((at' u0 u3.toNat).most) v6 hr_3)),trivial⟩),(⟨rfl,trivial⟩),(hb2),(hb2),trivial⟩)⟩)⟩)⟩ (bM.le (st':=⟨(YM x1 u1 u0 u2 x2 u7 u8 u9 v0 v1 v2 x3 u3),(Y2 v9)⟩) ⟨⟨tR,tR,tR,tR,tR,tR,tR,⟨_,rfl,eO.v (eG.one (dO.of (congrArg (fun b=>CV.d (.bool b)) (BQ hb2))))⟩,trivial⟩,(.refl _)⟩) ?_
      refine cn (aP (ri tT ⟨(aaH x1 u1 u0 u2 x2 u7 u8 u9 v0 v1 v2 x3 u3),(Y2 v9)⟩ [] {} [] trivial (bM.fin (st':=(ae7 x1 u1 u0 u2 x2 u7 u8 u9 v0 v1 v2 x3 u3 v9)) (cs:=[]) ⟨[],[(0,0),(1,1),(2,2),(50,37)]⟩ [0,1,2,3,43,44,45] (by kernel_rfl) trivial) ?_))
      obtain rfl:=oi h
      exact lN
     ·skip
      refine aO h fun⟨a1,a2⟩ h=> ?_
      have q0:=dL (⟨x1,u1,u0,u2⟩:ah) (⟨x2,u7,u8,u9,v0,v1,v2⟩:State) u3 hr_2
      refine di tT mX ⟨(aar x1 u1 u0 u2 x2 u7 u8 u9 v0 v1 v2 x3 u3 u5),(rM v6)⟩ (_::(abP u0 x3 u3 u5)) {yb:=[(4,u5),(17,false)],an:=[(3,cA q0 []),(18, .skip),(19, .skip),(20, .skip),(21, .skip),(22, .skip),(23, .skip),(24, .skip)] } [] ⟨q0,(ae ⟨(fun hg=> ⟨(a1 (aZ hg)),trivial⟩),(ae ⟨(fun hg=> ⟨(a2 (aZ hg)),trivial⟩),(ae ⟨(hb2),((fun h=>Bool.noConfusion (show false=true from h.1))),(hb2),((fun h=>Bool.noConfusion (show false=true from h.1))),(hb2),((fun h=>Bool.noConfusion (show false=true from h.1))),(hb2),((fun h=>Bool.noConfusion (show false=true from h.1))),(hb2),((fun h=>Bool.noConfusion (show false=true from h.1))),(hb2),((fun h=>Bool.noConfusion (show false=true from h.1))),(hb2),((fun h=>Bool.noConfusion (show false=true from h.1))),(hb2),trivial⟩)⟩)⟩)⟩ (bM.le (st':=⟨(YM x1 u1 u0 u2 x2 u7 u8 u9 v0 v1 v2 x3 u3),(rM v6)⟩) ⟨⟨tR,tR,tR,tR,tR,tR,tR,⟨_,rfl,eO.v (eG.one (dO.of (congrArg (fun b=>CV.d (.bool b)) (BP hb2))))⟩,trivial⟩,(.refl _)⟩) ?_
      refine cn (aP (rz tT (ae7 x1 u1 u0 u2 x2 u7 u8 u9 v0 v1 v2 x3 u3 v6) {} [] ?_))
      obtain rfl:=oi h
      exact lN
    ·refine cf hb3 ?_
     refine aI (fz (af6 x1 u1 u0 u2 x3 v6) []) ?_
     refine aX ?_
     obtain rfl:=oi h
     exact lB
   ·clear hy
    cases y1 with
    |brk z=>
     obtain⟨w2,rfl⟩: ∃q,q=z:=⟨_,rfl⟩
     unfold gm
     refine⟨_, .refl, ?_⟩
     refine sz tT ⟨(af8 u2 x3),(rM w2)⟩ {} [] ?_
     refine bE h fun y2 hy h=> ?_
     refine aL [] (rZ u2 x3) sF fA hy (fun s f h=> ?_) ?_
     ·clear hy
      show bJ _ _ _ _ _ _ ((BZ u2 x3) f) _
      unfold sJ at h
      obtain⟨v4,u6⟩:=s
      refine sz tT ⟨(ae5 u2 x3 u6),(rM v4)⟩ {} [] ?_
      refine aQ ?_
      refine bI h (fun hb5 h=> ?_) (fun hb5 h=> ?_)
      ·refine ct hb5 ?_
       refine aP (aQ (aB (aQ (aO h fun a1 h=> ?_))))
       refine rg tT ⟨(agz u2 x3 u6),(rM v4)⟩ [_] {fr:=[(3,57)] } [57] ⟨a1,trivial⟩ ?_
       refine aQ (bE h fun v3 hr_4 h=> ?_)
       refine rg tT ⟨(ad5 u2 x3 u6 v3),(rM v4)⟩ [Fn Try.prog 67 [(sD (.sl (some true) 1 [(JZ u2 u6).e0,(JZ u2 u6).e1].length (fun i j=>((Zn u2 u6).getD (0+(0+(i*1+j))) .nilp)))),(sD (.fn 125 1 (R4 x3)))] [] (vB v3) []] {an:=[(3, .call [] (vB v3) [])] } [] ⟨(Fn.leH (args:=(afd u2 x3 u6)) (hin:=[]) (j5 [(JZ u2 u6).e0,(JZ u2 u6).e1] x3 hr_4) ⟨eG.one (dO.d (gV.sl (.inl rfl) (by intro i hi j hj;match i,j,hi,hj with|0,0,_,_=>exact .refl _|1,0,_,_=>exact .refl _))),eG.refl _,trivial⟩ trivial),trivial⟩ ?_
       refine aQ ?_
       refine bI h (fun hb4 h=> ?_) (fun hb4 h=> ?_)
       ·skip
        refine bE h fun w0 hr_5 h=> ?_
        refine ri tT ⟨(aa1 u2 x3 u6 v3),(Z7 w0)⟩ [v3=true,v3=true,v3=true,v3=true,v3=true,v3=true,gP (jl [(1,true)]) [(1,true)]→All [Yl Try.prog 0 [(.agg [(cI 0),(cI u6)]),(sI ((at' u2 u6.toNat).power))] (aaw v4) (vB true) (aeb w0)],gP (jl [(1,true)]) [(1,true)],v3=true,v3=true] {yb:=[(1,true)],an:=[(7, .call [0,1,37] (vB true) (aeb w0))] } [] ⟨(hb4),(hb4),(hb4),(hb4),(hb4),(hb4),(fun hg=> ⟨(yK [(2,37),(3,58)] (mE 0 u6 ((at' u2 u6.toNat).power) v4 hr_5)),trivial⟩),(⟨rfl,trivial⟩),(hb4),(hb4),trivial⟩ (bM.le (st':=⟨(YJ u2 x3 u6),(Z7 w0)⟩) ⟨⟨tR,tR,tR,tR,tR,⟨_,rfl,eO.v (eG.one (dO.of (congrArg (fun b=>CV.d (.bool b)) (BQ hb4))))⟩,trivial⟩,(.refl _)⟩) ?_
        refine cn (aP (ri tT ⟨(aaI u2 x3 u6),(Z7 w0)⟩ [] {} [] trivial (bM.fin (st':=(agA u2 x3 u6 w0)) (cs:=[]) ⟨[],[(0,0),(1,1),(2,2),(58,37)]⟩ [0,3,78,79,80] (by kernel_rfl) trivial) ?_))
        obtain rfl:=oi h
        exact lN
       ·skip
        refine ri tT ⟨(aa1 u2 x3 u6 v3),(rM v4)⟩ [v3=false, ¬ gP (jl [(1,false)]) [(1,true)],v3=false, ¬ gP (jl [(1,false)]) [(1,true)],v3=false, ¬ gP (jl [(1,false)]) [(1,true)],v3=false, ¬ gP (jl [(1,false)]) [(1,true)],v3=false, ¬ gP (jl [(1,false)]) [(1,true)],v3=false, ¬ gP (jl [(1,false)]) [(1,true)],v3=false, ¬ gP (jl [(1,false)]) [(1,true)],v3=false] {yb:=[(1,false)],an:=[(2, .skip),(3, .skip),(4, .skip),(5, .skip),(6, .skip),(7, .skip),(8, .skip)] } [] ⟨(hb4),((fun h=>Bool.noConfusion (show false=true from h.1))),(hb4),((fun h=>Bool.noConfusion (show false=true from h.1))),(hb4),((fun h=>Bool.noConfusion (show false=true from h.1))),(hb4),((fun h=>Bool.noConfusion (show false=true from h.1))),(hb4),((fun h=>Bool.noConfusion (show false=true from h.1))),(hb4),((fun h=>Bool.noConfusion (show false=true from h.1))),(hb4),((fun h=>Bool.noConfusion (show false=true from h.1))),(hb4),trivial⟩ (bM.le (st':=⟨(YJ u2 x3 u6),(rM v4)⟩) ⟨⟨tR,tR,tR,tR,tR,⟨_,rfl,eO.v (eG.one (dO.of (congrArg (fun b=>CV.d (.bool b)) (BP hb4))))⟩,trivial⟩,(.refl _)⟩) ?_
        refine cn (aP (rz tT (agA u2 x3 u6 v4) {} [] ?_))
        obtain rfl:=oi h
        exact lN
      ·refine cf hb5 ?_
       refine aI (fz ⟨[],(rM v4)⟩ []) ?_
       refine aX ?_
       obtain rfl:=oi h
       exact lB
     ·clear hy
      cases y2 with
      |brk z=>
       obtain⟨o905,rfl⟩: ∃q,q=z:=⟨_,rfl⟩
       unfold gm
       refine⟨_,(bM.fin (st':=⟨[],[Bw,(1,some (.cells 80 [(.own 3 false o905.length)])),(2,none),(3,some (cu 117 2 Part.cell o905))]⟩) (cs:=[]) ⟨[],[(0,0),(1,1),(2,2),(37,3)]⟩ [] (by kernel_rfl) trivial), ?_⟩
       obtain rfl:=oi h
       exact bB.mk (.inl rfl) (p:=[]) (l:=[]) (by kernel_rfl) trivial (eO.refl _) (hN 2 ⟨rfl,trivial,(.refl _)⟩)
      |ret v=>
       obtain rfl:=oi h
       unfold gm
       intro e st hn ha hR
       cases e with
       |normal=>exact absurd rfl hn
       |exit id=>exact hR
       |goto l=>exact hR
       |ret=>exact hR
       |panic c=>exact hR
       |outgrown=>exact hR
    |ret v=>
     obtain rfl:=oi h
     unfold gm
     intro e st hn ha hR
     cases e with
     |normal=>exact absurd rfl hn
     |exit id=>exact hR
     |goto l=>exact hR
     |ret=>exact hR
     |panic c=>exact hR
     |outgrown=>exact hR
  |ret v=>
   obtain rfl:=oi h
   unfold gm
   intro e st hn ha hR
   cases e with
   |normal=>exact absurd rfl hn
   |exit id=>exact hR
   |goto l=>exact hR
   |ret=>exact hR
   |panic c=>exact hR
   |outgrown=>exact hR
def Ja  :((List Part) × Int)→Exit→St→Prop:=
  fun r=>bB TT [.tmp 4, .tmp 5] (.iP [(sD (aK none 2 Part.cell r.1)),(sI r.2)]) []
section
variable (r_:(ai × (List Bool) × Int)) (p:ah) (s_:State) (u0:(Int × (List Source) × (List Link) × (List ay) × (List Bool) × (List Bool) × (List Bool) × (List Bool) × (List Bool) × (List Bool) × (List Bool) × (List Bool)))
abbrev Fq:DV:=(aK none 1 aj r_.2.1)
abbrev YQ:List (Nat × TV):=[(Mr p),(lF s_),(7,(vD (Fq r_))),(9,(vP 20 0))]
abbrev aeM:List (Nat × Option Ob):=[(20,some (.cells 80 [(.own 21 false (([]:List Part).length))])),(21,some (cu 117 2 Part.cell ([]:List Part)))]
abbrev XJ:DV:=(lV [(.int .i64 u0.1),(aK none 5 Source.cell u0.2.1),(aK none 6 Link.cell u0.2.2.1),(aK none 4 ay.cell u0.2.2.2.1)] 0)
abbrev Xu:DV:=(lV [(aK none 1 aj u0.2.2.2.2.1),(aK none 1 aj u0.2.2.2.2.2.1),(aK none 1 aj u0.2.2.2.2.2.2.1),(aK none 1 aj u0.2.2.2.2.2.2.2.1),(aK none 1 aj u0.2.2.2.2.2.2.2.2.1),(aK none 1 aj u0.2.2.2.2.2.2.2.2.2.1),(aK none 1 aj u0.2.2.2.2.2.2.2.2.2.2.1)] 0)
abbrev Xc:DV:=(lV [(aK none 1 aj u0.2.2.2.2.2.2.2.2.2.2.2)] 0)
abbrev Wi:TV:=(vD (.fn 124 3 (nN [(XJ u0),(Xu u0),(Xc u0)])))
abbrev adl:List (Nat × TV):=[(9,(vP 20 0)),(24,(Wi u0))]
abbrev afO:List CV:=[(.d (XJ u0)),(.d (Xu u0)),(.d (Xc u0))]
end
theorem Gu (p:ah) (s_:State) {r:((List Part) × Int)} (h:yT p s_=some r):Fn Try.prog 33 (k91 s_ p) [] (.iP [(sD (aK none 2 Part.cell r.1)),(sI r.2)]) []:=by
 refine fN tT Try.func33 rfl rfl fun B=> ?_
 show bJ _ _ _ _ _ _ (Ja r) _
 unfold yT at h
 refine sz tT ⟨[(Mr p),(lF s_)],[]⟩ {fr:=[(0,12),(1,13)] } [12,13] ?_
 refine aQ (bE h fun r_ hr_ h=> ?_)
 have q0:=rk [(0,14),(1,15),(2,16),(3,17),(4,18)] (oh p s_ hr_)
 refine rg tT ⟨[(Mr p),(lF s_),(7,(vD (Fq r_))),(8,(vI r_.2.2))],[]⟩ [_,r_.2.1.length=r_.2.1.length] {an:=[(2,cA q0 [])],fr:=[(7,19)] } [17] ⟨q0,rfl,trivial⟩ ?_
 refine aQ (sz tT ⟨[(Mr p),(lF s_),(7,(vD (Fq r_))),(8,(vI r_.2.2)),(19,(vB (!decide (r_.2.2=0))))],[]⟩ {} [] ?_)
 refine bI h (fun hb h=> ?_) (fun hb h=> ?_)
 ·refine ct hb ?_
  refine sz tT ⟨[(4,(vD nS)),(5,(vI r_.2.2))],[]⟩ {} [] ?_
  refine aI (bM.le (st':=⟨[(4,(vD (aK none 2 Part.cell ([]:List Part)))),(5,(vI r_.2.2))],[]⟩) ⟨⟨⟨_,rfl,eO.v (eG.one (dO.d gV.nil'))⟩,tR,trivial⟩,trivial⟩) ?_
  refine aR ?_
  obtain rfl:=oi h
  exact rl [(sD (aK none 2 Part.cell ([]:List Part))),(sI r_.2.2)]
 ·refine cf hb ?_
  refine aP (si tT ⟨(YQ r_ p s_),[(20,some (.cells 80 [(.d nS)]))]⟩ [] {fr:=[(0,20)] } [] trivial (.trans (bM.zi (E:=0) (esz:=0) (E0:=80) (cs:=[(.d nS)]) (p:=20) (q:=0) (b:=21) (esz0:=0) (el0:=fun _ _=> .nilp) (ob:= .arr 117 2 0 (aC Part.cell ([]:List Part))) (fun _ _ _ _ h=> .inl ⟨h,rfl⟩) (by kernel_rfl) (by kernel_rfl) (by kernel_rfl)) (.trans (fz ⟨(YQ r_ p s_),[(20,some (.cells 80 [(.own 21 false 0)])),(21,some (.arr 117 2 0 (aC Part.cell ([]:List Part))))]⟩ []) (bM.le (st':=⟨(YQ r_ p s_),aeM⟩) ⟨⟨tR,tR,tR,tR,trivial⟩,⟨rfl,bA ⟨cW,trivial⟩,⟨rfl,oW,trivial⟩⟩⟩))) ?_)
  refine aQ (aQ (bE h fun u0 hr_1 h=> ?_))
  have q0:=wG p s_ r_.2.1 hr_1
  refine rg tT ⟨(adl u0),aeM⟩ [_] {an:=[(3,cA q0 [])] } [] ⟨q0,trivial⟩ ?_
  refine aB (bE h fun u1 hr_2 h=> ?_)
  refine jT 22 [(9,(vP 20 0))] [] [22,20,21] (.iP []) [(22,some (.loop iw 0 [(9,(vP 20 0))])),(20,some (.cells 80 [(.own 23 false u1.length)])),(21,none),(23,some (Dc u1))] (Wi u0) 124 [] (afO u0) [(22,some (.loop iw 0 [(9,(vP 20 0))])),(20,some (.cells 80 [(.own 21 false (([]:List Part).length))])),(21,some (cu 117 2 Part.cell ([]:List Part)))] [(.one (.yl 22)),(sD (XJ u0)),(sD (Xu u0)),(sD (Xc u0))] iw 0 [(9,(vP 20 0))] (by kernel_rfl) (by kernel_rfl) (by kernel_rfl) (by kernel_rfl) (by kernel_rfl) (by kernel_rfl) (by kernel_rfl) (rK [(0,22),(1,20),(2,21),(3,23)] (BL u0.1 u0.2.1 u0.2.2.1 u0.2.2.2.1 u0.2.2.2.2.1 u0.2.2.2.2.2.1 u0.2.2.2.2.2.2.1 u0.2.2.2.2.2.2.2.1 u0.2.2.2.2.2.2.2.2.1 u0.2.2.2.2.2.2.2.2.2.1 u0.2.2.2.2.2.2.2.2.2.2.1 u0.2.2.2.2.2.2.2.2.2.2.2 ([]:List Part) hr_2)) (by kernel_rfl) rfl (CR.zero rfl) (bM.fin (st':=⟨(adl u0),[(20,some (.cells 80 [(.own 23 false u1.length)])),(21,none),(23,some (Dc u1))]⟩) (cs:=[]) ⟨[],[(20,20),(21,21),(23,23)]⟩ [9,24] (by kernel_rfl) trivial) ?_
  refine sg tT ⟨[(4,(vD (aK none 2 Part.cell u1))),(5,(vI 0))],[]⟩ [u1.length=u1.length] {} [23] ⟨rfl,trivial⟩ ?_
  refine aR ?_
  obtain rfl:=oi h
  exact rl [(sD (aK none 2 Part.cell u1)),(sI 0)]
def rG  :Int→Exit→St→Prop:=
  fun r=>bB TT [.tmp 2] (vI r) []
section
variable (x:ai)
abbrev R9:Nat × TV:=(7,(vD (aK none 2 af.cell x.racks)))
abbrev QV:Nat × TV:=(8,(vI (x.racks.length:Int)))
end
def xN (x:ai):(Int × Int)→St:=
  fun zz=>match zz with|(n,t9)=> ⟨[(3,(vI n)),(R9 x),(QV x),(9,(vI t9))],[]⟩
def xW  :Int→St:=
  fun n1=> ⟨[(3,(vI n1))],[]⟩
def FJ (x:ai):(aM (Int × Int) (Ex Int Int))→Exit→St→Prop:=
  LQ 0 [] (xN x) xW rG
section
variable (x:ai) (t9:Int) (n:Int)
abbrev XT:List CV:=[(.d (aK none 1 (au .i64) x.sources)),(.d (aK none 1 (au .i64) x.links)),(.d (aK none 2 af.cell x.racks))]
abbrev ae9:List SV:=[(.agg (XT x))]
abbrev aaq:Ob:=(.cells 77 (XT x))
abbrev adK:List (Nat × Option Ob):=[(5,some (aaq x))]
abbrev aal:TV:=(vD (lV [(.int .i64 ((at' x.racks t9.toNat).e0)),(.int .i64 ((at' x.racks t9.toNat).e1))] 0))
abbrev ags:Nat × TV:=(3,(vI (IntKind.wrap .i64 (n+(IntKind.wrap .i64 (((at' x.racks t9.toNat).e0)+((at' x.racks t9.toNat).e1)))))))
end
theorem dA (x:ai) {r:Int} (h:eT x=some r):Fn Try.prog 41 (ae9 x) [] (vI r) []:=by
 refine fN tT Try.func41 rfl rfl fun B=> ?_
 show bJ _ _ _ _ _ _ (rG r) _
 unfold eT at h
 refine sz tT ⟨[(1,(vP 5 0))],(adK x)⟩ {fr:=[(0,5)] } [] ?_
 refine sz tT ⟨[(1,(vP 5 0)),(3,(vI 0))],(adK x)⟩ {} [] ?_
 refine aQ (sz tT ⟨[(3,(vI 0)),(R9 x),(QV x),(9,(vI 0))],[]⟩ {} [] ?_)
 refine bE h fun y hy h=> ?_
 refine aL [] (xN x) xW rG hy (fun s f h=> ?_) ?_
 ·clear hy
  show bJ _ _ _ _ _ _ ((FJ x) f) _
  unfold iO at h
  obtain⟨n,t9⟩:=s
  refine sz tT ⟨[(3,(vI n)),(R9 x),(QV x),(9,(vI t9)),(10,(vB (decide (t9<(x.racks.length:Int)))))],[]⟩ {} [] ?_
  refine aQ ?_
  refine bI h (fun hb h=> ?_) (fun hb h=> ?_)
  ·refine ct hb ?_
   refine aP (aQ (aB (aQ (aO h fun a1 h=> ?_))))
   refine rg tT ⟨[(3,(vI n)),(5,(aal x t9)),(R9 x),(QV x),(9,(vI t9))],[]⟩ [_] {fr:=[(2,9)] } [9] ⟨a1,trivial⟩ ?_
   refine rg tT ⟨[(ags x t9 n),(R9 x),(QV x),(9,(vI t9))],[]⟩ [(0:Int)≤0∧(0:Int)<(2:Nat),(0:Int)≤1∧(1:Int)<(2:Nat)] {} [] ⟨((by decide)),((by decide)),trivial⟩ ?_
   refine rz tT ⟨[(ags x t9 n),(R9 x),(QV x),(9,(k3 t9))],[]⟩ {} [] ?_
   obtain rfl:=oi h
   exact lN
  ·refine cf hb ?_
   refine aI (fz ⟨[(3,(vI n))],[]⟩ []) ?_
   refine aX ?_
   obtain rfl:=oi h
   exact lB
 ·clear hy
  cases y with
  |brk z=>
   obtain⟨n1,rfl⟩: ∃q,q=z:=⟨_,rfl⟩
   unfold gm
   refine⟨_, .refl, ?_⟩
   refine sz tT ⟨[(2,(vI n1))],[]⟩ {} [] ?_
   refine aR ?_
   obtain rfl:=oi h
   exact rl [(sI n1)]
  |ret v=>
   obtain rfl:=oi h
   unfold gm
   intro e st hn ha hR
   cases e with
   |normal=>exact absurd rfl hn
   |exit id=>exact hR
   |goto l=>exact hR
   |ret=>exact hR
   |panic c=>exact hR
   |outgrown=>exact hR
def xk  :(Bool × Int)→Exit→St→Prop:=
  fun r=>bB TT [.tmp 4, .tmp 5] (.iP [(sB r.1),(sI r.2)]) []
section
variable (r_:(ai × (List Bool) × Int)) (p:ah)
abbrev Zl:TV:=(vD (lV [(aK none 1 (au .i64) r_.1.sources),(aK none 1 (au .i64) r_.1.links),(aK none 2 af.cell r_.1.racks)] 0))
abbrev JC:Nat × TV:=(6,(Zl r_))
abbrev R8:Nat × TV:=(23,(vD (k6 p)))
abbrev Q6:Nat × TV:=(24,(vI (p.racks.length:Int)))
end
def Ag (p:ah) (r_:(ai × (List Bool) × Int)):(Int × Int)→St:=
  fun zz=>match zz with|(n,u0)=> ⟨[(JC r_),(9,(vI n)),(R8 p),(Q6 p),(25,(vI u0))],[]⟩
section
variable (r_:(ai × (List Bool) × Int)) (n1:Int)
abbrev ae6:St:=⟨[(JC r_),(9,(vI n1))],[]⟩
end
def AO (r_:(ai × (List Bool) × Int)):Int→St:=
  fun n1=>(ae6 r_ n1)
def IE (p:ah) (r_:(ai × (List Bool) × Int)):(aM (Int × Int) (Ex Int (Bool × Int)))→Exit→St→Prop:=
  LQ 0 [] (Ag p r_) (AO r_) xk
section
variable (p:ah) (r_:(ai × (List Bool) × Int)) (u0:Int)
abbrev aeX:Nat × Option Ob:=(12,some (Yf p))
abbrev X3:List (Nat × Option Ob):=[(aeX p)]
abbrev Xv:List CV:=[(.d (aK none 1 (au .i64) r_.1.sources)),(.d (aK none 1 (au .i64) r_.1.links)),(.d (aK none 2 af.cell r_.1.racks))]
abbrev afs:Ob:=(.cells 77 (Xv r_))
abbrev aco:Nat × Option Ob:=(19,some (afs r_))
abbrev GX:=((at' p.racks u0.toNat).feeds)
end
theorem Iu (p:ah) (s_:State) {r:(Bool × Int)} (h:Av p s_=some r):Fn Try.prog 34 (k91 s_ p) [] (.iP [(sB r.1),(sI r.2)]) []:=by
 refine fN tT Try.func34 rfl rfl fun B=> ?_
 show bJ _ _ _ _ _ _ (xk r) _
 unfold Av at h
 refine sz tT ⟨[(2,(vP 12 0)),(lF s_)],(X3 p)⟩ {fr:=[(0,12),(1,13)] } [13] ?_
 refine aQ (bE h fun r_ hr_ h=> ?_)
 have q0:=rk [(0,14),(1,15),(2,16),(3,17),(4,18)] (oh p s_ hr_)
 refine ri tT ⟨[(2,(vP 12 0)),(6,(vP 19 0)),(8,(vI r_.2.2))],[(aeX p),(aco r_)]⟩ [_,r_.1.sources.length=r_.1.sources.length,r_.1.links.length=r_.1.links.length,r_.1.racks.length=r_.1.racks.length] {an:=[(2,cA q0 [])],fr:=[(7,19)] } [14,15,16] ⟨q0,rfl,rfl,rfl,trivial⟩ (fz ⟨[(2,(vP 12 0)),(JC r_),(8,(vI r_.2.2))],(X3 p)⟩ [19]) ?_
 refine aQ (sz tT ⟨[(2,(vP 12 0)),(JC r_),(8,(vI r_.2.2)),(20,(vB (!decide (r_.2.2=0))))],(X3 p)⟩ {} [] ?_)
 refine bI h (fun hb1 h=> ?_) (fun hb1 h=> ?_)
 ·refine ct hb1 ?_
  refine sz tT ⟨[(4,(vB false)),(5,(vI r_.2.2))],[]⟩ {} [] ?_
  refine aR ?_
  obtain rfl:=oi h
  exact rl [(sB false),(sI r_.2.2)]
 ·refine cf hb1 ?_
  refine aP (sz tT ⟨[(2,(vP 12 0)),(JC r_),(9,(vI 0))],(X3 p)⟩ {} [] ?_)
  refine aQ (sz tT ⟨[(JC r_),(9,(vI 0)),(R8 p),(Q6 p),(25,(vI 0))],[]⟩ {} [] ?_)
  refine bE h fun y hy h=> ?_
  refine aL [] (Ag p r_) (AO r_) xk hy (fun s f h=> ?_) ?_
  ·clear hy
   show bJ _ _ _ _ _ _ ((IE p r_) f) _
   unfold Ak at h
   obtain⟨n,u0⟩:=s
   refine sz tT ⟨[(JC r_),(9,(vI n)),(R8 p),(Q6 p),(25,(vI u0)),(26,(vB (decide (u0<(p.racks.length:Int)))))],[]⟩ {} [] ?_
   refine aQ ?_
   refine bI h (fun hb h=> ?_) (fun hb h=> ?_)
   ·refine ct hb ?_
    refine aP (aQ (aB (aQ (aO h fun a1 h=> ?_))))
    refine rg tT ⟨[(JC r_),(9,(vI n)),(11,(vD (lV [(.int .i64 ((GX p u0).e0)),(.int .i64 ((GX p u0).e1)),(.int .i64 ((at' p.racks u0.toNat).power)),(.int .i64 ((at' p.racks u0.toNat).paths))] 0))),(R8 p),(Q6 p),(25,(vI u0))],[]⟩ [_] {fr:=[(2,23)] } [23] ⟨a1,trivial⟩ ?_
    refine rz tT ⟨[(JC r_),(9,(vI (IntKind.wrap .i64 (n+((at' p.racks u0.toNat).power))))),(R8 p),(Q6 p),(25,(vI u0))],[]⟩ {} [] ?_
    refine rz tT ⟨[(JC r_),(9,(vI (IntKind.wrap .i64 (n+((at' p.racks u0.toNat).power))))),(R8 p),(Q6 p),(25,(k3 u0))],[]⟩ {} [] ?_
    obtain rfl:=oi h
    exact lN
   ·refine cf hb ?_
    refine aI (fz (ae6 r_ n) []) ?_
    refine aX ?_
    obtain rfl:=oi h
    exact lB
  ·clear hy
   cases y with
   |brk z=>
    obtain⟨n1,rfl⟩: ∃q,q=z:=⟨_,rfl⟩
    unfold gm
    refine⟨_, .refl, ?_⟩
    refine aQ (bE h fun u1 hr_1 h=> ?_)
    have q0:=dA r_.1 hr_1
    refine rg tT ⟨[(4,(vB (decide (u1=n1)))),(5,(vI 0))],[]⟩ [_] {an:=[(1,cA q0 [])] } [] ⟨q0,trivial⟩ ?_
    refine aR ?_
    obtain rfl:=oi h
    exact rl [(sB (decide (u1=n1))),(sI 0)]
   |ret v=>
    obtain rfl:=oi h
    unfold gm
    intro e st hn ha hR
    cases e with
    |normal=>exact absurd rfl hn
    |exit id=>exact hR
    |goto l=>exact hR
    |ret=>exact hR
    |panic c=>exact hR
    |outgrown=>exact hR
def oF  :Bool→Exit→St→Prop:=
  fun r=>bB TT [.tmp 4] (vB r) []
section
variable (a:(List Part)) (b:(List Part))
abbrev P5:Nat × TV:=(0,(vD (aK none 2 Part.cell a)))
abbrev O8:Nat × TV:=(1,(vD (aK none 2 Part.cell b)))
end
def vk (a:(List Part)) (b:(List Part)):Int→St:=
  fun i=> ⟨[(P5 a),(O8 b),(5,(vI i))],[]⟩
def uL  :Unit→St:=
  fun _=> ⟨[],[]⟩
def Dj (a:(List Part)) (b:(List Part)):(aM Int (Ex Unit Bool))→Exit→St→Prop:=
  LQ 0 [] (vk a b) uL oF
theorem uN (a:(List Part)) (b:(List Part)) {r:Bool} (h:nT a b=some r):Fn Try.prog 38 [(sD (aK none 2 Part.cell a)),(sD (aK none 2 Part.cell b))] [] (vB r) []:=by
 refine fN tT Try.func38 rfl rfl fun B=> ?_
 show bJ _ _ _ _ _ _ (oF r) _
 unfold nT at h
 refine sz tT ⟨[(P5 a),(O8 b)],[]⟩ {} [] ?_
 refine aQ (sz tT ⟨[(P5 a),(O8 b),(10,(vB (!decide ((a.length:Int)=(b.length:Int)))))],[]⟩ {} [] ?_)
 refine bI h (fun hb2 h=> ?_) (fun hb2 h=> ?_)
 ·refine ct hb2 ?_
  refine sz tT ⟨[(4,(vB false))],[]⟩ {} [] ?_
  refine aR ?_
  obtain rfl:=oi h
  exact rl [(sB false)]
 ·refine cf hb2 ?_
  refine aP (aQ (sz tT ⟨[(P5 a),(O8 b),(5,(vI 0))],[]⟩ {} [] ?_))
  refine bE h fun y hy h=> ?_
  refine aL [] (vk a b) uL oF hy (fun s f h=> ?_) ?_
  ·clear hy
   show bJ _ _ _ _ _ _ ((Dj a b) f) _
   unfold uQ at h
   obtain⟨i,rfl⟩: ∃q,q=s:=⟨_,rfl⟩
   refine aQ (sz tT ⟨[(P5 a),(O8 b),(5,(vI i)),(14,(vB (decide (i<(a.length:Int)))))],[]⟩ {} [] ?_)
   refine bI h (fun hb1 h=> ?_) (fun hb1 h=> ?_)
   ·refine ct hb1 ?_
    refine aP (aQ (aB (aQ (aO h fun⟨a1,a2⟩ h=> ?_))))
    refine dg tT mX ⟨[(P5 a),(O8 b),(5,(vI i)),(25,(vB (!((decide (((at' a i.toNat).kind)=((at' b i.toNat).kind))) && ((decide (((at' a i.toNat).index)=((at' b i.toNat).index))) && true)))))],[]⟩ [_,_] {} [] ⟨a1,a2,trivial⟩ ?_
    refine bI h (fun hb h=> ?_) (fun hb h=> ?_)
    ·refine ct hb ?_
     refine sz tT ⟨[(4,(vB false))],[]⟩ {} [] ?_
     refine aR ?_
     obtain rfl:=oi h
     exact lR dY (dX 0) dW (bB.mk (.inr rfl) (p:=[]) (l:=[(sB false)]) (by kernel_rfl) trivial (eO.refl _) trivial)
    ·refine cf hb ?_
     refine aP (rz tT ⟨[(P5 a),(O8 b),(k2 i)],[]⟩ {} [] ?_)
     obtain rfl:=oi h
     exact lN
   ·refine cf hb1 ?_
    refine aI (fz ⟨[],[]⟩ []) ?_
    refine aX ?_
    obtain rfl:=oi h
    exact lB
  ·clear hy
   cases y with
   |brk z=>
    unfold gm
    refine⟨_, .refl, ?_⟩
    refine sz tT ⟨[(4,(vB true))],[]⟩ {} [] ?_
    refine aR ?_
    obtain rfl:=oi h
    exact rl [(sB true)]
   |ret v=>
    obtain rfl:=oi h
    unfold gm
    intro e st hn ha hR
    cases e with
    |normal=>exact absurd rfl hn
    |exit id=>exact hR
    |goto l=>exact hR
    |ret=>exact hR
    |panic c=>exact hR
    |outgrown=>exact hR
noncomputable def dI:nR:=⟨[45,46],GN ([1,1,1,1,1,0,1,0]++[0]) (mY Try.f45),GN ([1,1,1,1,1,0,1,0]++[1]) (mY Try.f45),51,[]⟩
abbrev QK:Nat × Option Ob:=(0,some (.loop dI 0 [(11,(vP 1 0))]))
def yH  :Int→Exit→St→Prop:=
  fun r=>ng 0 dI (vB true) [QK,(1,some (.cells 3 [(cI r)]))]
section
variable (u1:Int)
abbrev kz:List (Nat × Option Ob):=[QK,(1,some (.cells 3 [(cI u1)]))]
end
theorem jH (u2:Int) (u3:Int) (u0:Int) (u1:Int) {r:Int} (h:cZ u2 u3 u0 u1=some r):Yl Try.prog 0 [(.agg [(cI u2),(cI u3)]),(sI u0)] (kz u1) (vB true) [QK,(1,some (.cells 3 [(cI r)]))]:=by
 refine DC (r:=dI) (sl:=[(11,(vP 1 0))]) (sl1:=[(11,(vP 1 0)),(13,(vI u0))]) (h1:=(kz u1)) (sl2:=[(11,(vP 1 0))]) (by kernel_rfl) rfl rfl (by kernel_rfl) (fun rd B=> ?_) (by kernel_rfl) (fun rd B=> ?_)
 ·refine qR (c:=GN ([1,1,1,1,1,0,1,0]++[0]) (mY Try.f45)) rfl ?_
  refine oq (st:=⟨[(45,(.v (.agg [(cI u2),(cI u3)]))),(46,(vI u0)),(11,(vP 1 0))],(kz u1)⟩) (by kernel_rfl) ?_
  refine rz tT ⟨[(11,(vP 1 0)),(13,(vI u0))],(kz u1)⟩ {} [] ?_
  exact⟨rfl,rfl⟩
 ·refine qR (c:=GN ([1,1,1,1,1,0,1,0]++[1]) (mY Try.f45)) rfl ?_
  refine oq (st:=⟨[(11,(vP 1 0)),(13,(vI u0))],[(0,some (.loop dI 1 [(11,(vP 1 0))])),(1,some (.cells 3 [(cI u1)]))]⟩) (by kernel_rfl) ?_
  show bJ _ _ _ _ _ _ (yH r) _
  unfold cZ at h
  refine aB (rz tT ⟨[],[(0,some (.loop dI 1 [(11,(vP 1 0))])),(1,some (.cells 3 [(cI (IntKind.wrap .i64 (u1+u0)))]))]⟩ {} [] ?_)
  obtain rfl:=oi h
  exact ng.on (sl:=[(11,(vP 1 0))]) (by kernel_rfl) (zn (by kernel_rfl)) (eO.refl _)
def dF  :Int→Exit→St→Prop:=
  fun r=>bB TT [] (.iP []) [QK,(1,some (.cells 3 [(cI r)]))]
def oJ (x1:Int) (u0:(List Source)) (u1:(List Link)) (u2:(List ay)) (x2:(List Bool)) (u3:(List Bool)) (u4:(List Bool)) (u5:(List Bool)) (u6:(List Bool)) (u7:(List Bool)) (u8:(List Bool)) (x3:(List Bool)) (v1:Int):(Int × Int)→St:=
  fun zz=>match zz with|(u9,v0)=> ⟨(agM x2 u3 u4 u5 u6 u7 u8 x3 u0 x1 u1 u2 v0),(kz u9)⟩
section
variable (x1:Int) (u0:(List Source)) (u1:(List Link)) (u2:(List ay)) (x2:(List Bool)) (u3:(List Bool)) (u4:(List Bool)) (u5:(List Bool)) (u6:(List Bool)) (u7:(List Bool)) (u8:(List Bool)) (x3:(List Bool)) (u9:Int)
abbrev afv:St:=⟨(acs x1 u0 u1 u2 x2 u3 u4 u5 u6 u7 u8 x3),(kz u9)⟩
end
def o5 (x1:Int) (u0:(List Source)) (u1:(List Link)) (u2:(List ay)) (x2:(List Bool)) (u3:(List Bool)) (u4:(List Bool)) (u5:(List Bool)) (u6:(List Bool)) (u7:(List Bool)) (u8:(List Bool)) (x3:(List Bool)) (v0:Int):Int→St:=
  fun u9=>(afv x1 u0 u1 u2 x2 u3 u4 u5 u6 u7 u8 x3 u9)
def zq (x1:Int) (u0:(List Source)) (u1:(List Link)) (u2:(List ay)) (x2:(List Bool)) (u3:(List Bool)) (u4:(List Bool)) (u5:(List Bool)) (u6:(List Bool)) (u7:(List Bool)) (u8:(List Bool)) (x3:(List Bool)) (u9:Int):(aM (Int × Int) (Ex Int Int))→Exit→St→Prop:=
  LQ 0 [] (oJ x1 u0 u1 u2 x2 u3 u4 u5 u6 u7 u8 x3 u9) (o5 x1 u0 u1 u2 x2 u3 u4 u5 u6 u7 u8 x3 u9) dF
def o9 (x1:Int) (u1:(List Source)) (u0:(List Link)) (u2:(List ay)) (x2:(List Bool)) (u3:(List Bool)) (u4:(List Bool)) (u5:(List Bool)) (u6:(List Bool)) (u7:(List Bool)) (u8:(List Bool)) (x3:(List Bool)) (v1:Int):(Int × Int)→St:=
  fun zz=>match zz with|(u9,v0)=> ⟨(adI u0 x1 u1 u2 x2 u3 u4 u5 u6 u7 u8 x3 v0),(kz u9)⟩
section
variable (x1:Int) (u0:(List Source)) (u1:(List Link)) (u2:(List ay)) (x3:(List Bool)) (u3:Int)
abbrev aep:St:=⟨(adD x1 u0 u1 u2 x3),(kz u3)⟩
end
def pE (x1:Int) (u0:(List Source)) (u1:(List Link)) (u2:(List ay)) (x3:(List Bool)) (u4:Int):Int→St:=
  fun u3=>(aep x1 u0 u1 u2 x3 u3)
def zu (x1:Int) (u0:(List Source)) (u1:(List Link)) (u2:(List ay)) (x2:(List Bool)) (u4:(List Bool)) (u5:(List Bool)) (u6:(List Bool)) (u7:(List Bool)) (u8:(List Bool)) (u9:(List Bool)) (x3:(List Bool)) (u3:Int):(aM (Int × Int) (Ex Int Int))→Exit→St→Prop:=
  LQ 2 [] (o9 x1 u0 u1 u2 x2 u4 u5 u6 u7 u8 u9 x3 u3) (pE x1 u0 u1 u2 x3 u3) dF
def pO (u0:(List ay)) (x3:(List Bool)):(Int × Int)→St:=
  fun zz=>match zz with|(u1,u2)=> ⟨(abM u0 x3 u2),(kz u1)⟩
def oZ  :Int→St:=
  fun o1105=> ⟨[],[QK,(1,some (.cells 3 [(cI o1105)]))]⟩
def yX (u0:(List ay)) (x3:(List Bool)):(aM (Int × Int) (Ex Int Int))→Exit→St→Prop:=
  LQ 4 [] (pO u0 x3) oZ dF
section
variable (x1:Int) (u1:(List Source)) (u0:(List Link)) (u2:(List ay)) (x2:(List Bool)) (u7:(List Bool)) (u8:(List Bool)) (u9:(List Bool)) (v0:(List Bool)) (v1:(List Bool)) (v2:(List Bool)) (x3:(List Bool)) (u4:Int) (r_:Bool) (v8:Int) (u3:Int) (u5:Bool) (v9:Int) (u6:Int) (v3:Bool) (w0:Int)
abbrev afR:St:=⟨(aaJ x1 u1 u0 u2 x2 u7 u8 u9 v0 v1 v2 x3 u4 r_),(kz v8)⟩
abbrev aeP:St:=⟨(Zi x1 u1 u0 u2 x2 u7 u8 u9 v0 v1 v2 x3 u4),(kz v8)⟩
abbrev afJ:St:=⟨(abt x1 u1 u0 u2 x2 u7 u8 u9 v0 v1 v2 x3 u4),(kz v8)⟩
abbrev agI:St:=⟨(aar x1 u1 u0 u2 x2 u7 u8 u9 v0 v1 v2 x3 u3 u5),(kz v9)⟩
abbrev ab3:St:=⟨(YM x1 u1 u0 u2 x2 u7 u8 u9 v0 v1 v2 x3 u3),(kz v9)⟩
abbrev afC:St:=⟨(aaH x1 u1 u0 u2 x2 u7 u8 u9 v0 v1 v2 x3 u3),(kz v9)⟩
abbrev afH:St:=⟨(aa1 u2 x3 u6 v3),(kz w0)⟩
abbrev af0:St:=⟨(YJ u2 x3 u6),(kz w0)⟩
abbrev acu:St:=⟨(aaI u2 x3 u6),(kz w0)⟩
end
theorem yL (x1:Int) (u1:(List Source)) (u0:(List Link)) (u2:(List ay)) (x2:(List Bool)) (u7:(List Bool)) (u8:(List Bool)) (u9:(List Bool)) (v0:(List Bool)) (v1:(List Bool)) (v2:(List Bool)) (x3:(List Bool)) (v4:Int) {r:Int} (h:iE x1 u1 u0 u2 x2 u7 u8 u9 v0 v1 v2 x3 v4=some r):Fn Try.prog 124 (af2 x1 u1 u0 u2 x2 u7 u8 u9 v0 v1 v2 x3) (kz v4) (.iP []) [QK,(1,some (.cells 3 [(cI r)]))]:=by
 refine fN tT Try.func124 rfl rfl fun B=> ?_
 show bJ _ _ _ _ _ _ (dF r) _
 unfold iE at h
 refine aQ (sz tT ⟨(Wn x1 u1 u0 u2 x2 u7 u8 u9 v0 v1 v2 x3),(kz v4)⟩ {} [] ?_)
 refine bE h fun y hy h=> ?_
 refine aL [] (oJ x1 u1 u0 u2 x2 u7 u8 u9 v0 v1 v2 x3 v4) (o5 x1 u1 u0 u2 x2 u7 u8 u9 v0 v1 v2 x3 v4) dF hy (fun s f h=> ?_) ?_
 ·clear hy
  show bJ _ _ _ _ _ _ ((zq x1 u1 u0 u2 x2 u7 u8 u9 v0 v1 v2 x3 v4) f) _
  unfold iG at h
  obtain⟨v6,u4⟩:=s
  refine sz tT ⟨(adt x1 u1 u0 u2 x2 u7 u8 u9 v0 v1 v2 x3 u4),(kz v6)⟩ {} [] ?_
  refine aQ ?_
  refine bI h (fun hb1 h=> ?_) (fun hb1 h=> ?_)
  ·refine ct hb1 ?_
   refine aP (aQ (aB (aQ (aO h fun a1 h=> ?_))))
   refine rg tT ⟨(adY x1 u1 u0 u2 x2 u7 u8 u9 v0 v1 v2 x3 u4),(kz v6)⟩ [_] {fr:=[(3,17)] } [17] ⟨a1,trivial⟩ ?_
   refine aQ (bE h fun r_ hr_ h=> ?_)
   refine bI h (fun hb h=> ?_) (fun hb h=> ?_)
   ·skip
    refine bE h fun v8 hr_1 h=> ?_
    refine aO h fun a1 h=> ?_
    have q0:=fU (⟨x1,u1,u0,u2⟩:ah) (⟨x2,u7,u8,u9,v0,v1,v2⟩:State) u4 hr_
    refine ri tT (afR x1 u1 u0 u2 x2 u7 u8 u9 v0 v1 v2 x3 u4 r_ v8) (_::(eqs r_ 4 ((agJ u1 x3 u4 r_)::(eqs r_ 3 [(rA u1 x3 u4 r_)=true,(rA u1 x3 u4 r_)=true,(rA u1 x3 u4 r_)=true,(rA u1 x3 u4 r_)=true,(rA u1 x3 u4 r_)=true,(rA u1 x3 u4 r_)=true,gP (jl [(4,r_),(12,true)]) [(12,true)]→All [Yl Try.prog 0 [(.agg [(cI 2),(cI u4)]),(sI ((at' u1 u4.toNat).power))] (kz v6) (vB true) (kz v8)],gP (jl [(4,r_),(12,true)]) [(12,true)],(rA u1 x3 u4 r_)=true,(rA u1 x3 u4 r_)=true])))) {yb:=[(4,r_),(12,true)],an:=[(3,cA q0 []),(18, .call [0,1] (vB true) (kz v8))] } [] ⟨q0,(ae ⟨(fun hg=> ⟨(a1 (aZ hg)),trivial⟩),(ae ⟨(hb),(hb),(hb),(hb),(hb),(hb),(fun hg=> ⟨(jH 2 u4 ((at' u1 u4.toNat).power) v6 hr_1),trivial⟩),(⟨rfl,trivial⟩),(hb),(hb),trivial⟩)⟩)⟩ (bM.le (st':=(aeP x1 u1 u0 u2 x2 u7 u8 u9 v0 v1 v2 x3 u4 v8)) ⟨⟨tR,tR,tR,tR,tR,tR,tR,⟨_,rfl,eO.v (eG.one (dO.of (congrArg (fun b=>CV.d (.bool b)) (BQ hb))))⟩,trivial⟩,(.refl _)⟩) ?_
    refine cn (aP (rz tT (afJ x1 u1 u0 u2 x2 u7 u8 u9 v0 v1 v2 x3 u4 v8) {} [] ?_))
    obtain rfl:=oi h
    exact lN
   ·skip
    refine aO h fun a1 h=> ?_
    have q0:=fU (⟨x1,u1,u0,u2⟩:ah) (⟨x2,u7,u8,u9,v0,v1,v2⟩:State) u4 hr_
    refine ri tT (afR x1 u1 u0 u2 x2 u7 u8 u9 v0 v1 v2 x3 u4 r_ v6) (_::(aeL u1 x3 u4 r_)) {yb:=[(4,r_),(12,false)],an:=[(3,cA q0 []),(13, .skip),(14, .skip),(15, .skip),(16, .skip),(17, .skip),(18, .skip),(19, .skip)] } [] ⟨q0,(ae ⟨(fun hg=> ⟨(a1 (aZ hg)),trivial⟩),(ae ⟨(hb),((fun h=>Bool.noConfusion (show false=true from h.1))),(hb),((fun h=>Bool.noConfusion (show false=true from h.1))),(hb),((fun h=>Bool.noConfusion (show false=true from h.1))),(hb),((fun h=>Bool.noConfusion (show false=true from h.1))),(hb),((fun h=>Bool.noConfusion (show false=true from h.1))),(hb),((fun h=>Bool.noConfusion (show false=true from h.1))),(hb),((fun h=>Bool.noConfusion (show false=true from h.1))),(hb),trivial⟩)⟩)⟩ (bM.le (st':=(aeP x1 u1 u0 u2 x2 u7 u8 u9 v0 v1 v2 x3 u4 v6)) ⟨⟨tR,tR,tR,tR,tR,tR,tR,⟨_,rfl,eO.v (eG.one (dO.of (congrArg (fun b=>CV.d (.bool b)) (BP hb))))⟩,trivial⟩,(.refl _)⟩) ?_
    refine cn (aP (rz tT (afJ x1 u1 u0 u2 x2 u7 u8 u9 v0 v1 v2 x3 u4 v6) {} [] ?_))
    obtain rfl:=oi h
    exact lN
  ·refine cf hb1 ?_
   refine aI (fz (afv x1 u1 u0 u2 x2 u7 u8 u9 v0 v1 v2 x3 v6) []) ?_
   refine aX ?_
   obtain rfl:=oi h
   exact lB
 ·clear hy
  cases y with
  |brk z=>
   obtain⟨w1,rfl⟩: ∃q,q=z:=⟨_,rfl⟩
   unfold gm
   refine⟨_, .refl, ?_⟩
   refine aQ (sz tT ⟨(adM x1 u1 u0 u2 x2 u7 u8 u9 v0 v1 v2 x3),(kz w1)⟩ {} [] ?_)
   refine bE h fun y1 hy h=> ?_
   refine aL [] (o9 x1 u1 u0 u2 x2 u7 u8 u9 v0 v1 v2 x3 v4) (pE x1 u1 u0 u2 x3 v4) dF hy (fun s f h=> ?_) ?_
   ·clear hy
    show bJ _ _ _ _ _ _ ((zu x1 u1 u0 u2 x2 u7 u8 u9 v0 v1 v2 x3 v4) f) _
    unfold iM at h
    obtain⟨v7,u3⟩:=s
    refine sz tT ⟨(aeY x1 u1 u0 u2 x2 u7 u8 u9 v0 v1 v2 x3 u3),(kz v7)⟩ {} [] ?_
    refine aQ ?_
    refine bI h (fun hb3 h=> ?_) (fun hb3 h=> ?_)
    ·refine ct hb3 ?_
     refine aP (aQ (aB (aQ (aO h fun a1 h=> ?_))))
     refine rg tT ⟨(afk x1 u1 u0 u2 x2 u7 u8 u9 v0 v1 v2 x3 u3),(kz v7)⟩ [_] {fr:=[(3,21)] } [21] ⟨a1,trivial⟩ ?_
     refine aQ (bE h fun u5 hr_2 h=> ?_)
     refine bI h (fun hb2 h=> ?_) (fun hb2 h=> ?_)
     ·skip
      refine bE h fun v9 hr_3 h=> ?_
      refine aO h fun⟨a1,a2⟩ h=> ?_
      have q0:=dL (⟨x1,u1,u0,u2⟩:ah) (⟨x2,u7,u8,u9,v0,v1,v2⟩:State) u3 hr_2
      refine di tT mX (agI x1 u1 u0 u2 x2 u7 u8 u9 v0 v1 v2 x3 u3 u5 v9) (_::(eqs u5 4 ((adL u0 x3 u3 u5)::(eqs u5 5 ((agb u0 x3 u3 u5)::(eqs u5 3 [(ru u0 x3 u3 u5)=true,(ru u0 x3 u3 u5)=true,(ru u0 x3 u3 u5)=true,(ru u0 x3 u3 u5)=true,(ru u0 x3 u3 u5)=true,(ru u0 x3 u3 u5)=true,gP (Rw u5) [(17,true)]→All [Yl Try.prog 0 [(.agg [(cI 3),(cI u3)]),(sI ((at' u0 u3.toNat).most))] (kz v7) (vB true) (kz v9)],gP (Rw u5) [(17,true)],(ru u0 x3 u3 u5)=true,(ru u0 x3 u3 u5)=true])))))) {yb:=[(4,u5),(17,true)],an:=[(3,cA q0 []),(23, .call [0,1] (vB true) (kz v9))] } [] ⟨q0,(ae ⟨(fun hg=> ⟨(a1 (aZ hg)),trivial⟩),(ae ⟨(fun hg=> ⟨(a2 (aZ hg)),trivial⟩),(ae ⟨(hb2),(hb2),(hb2),(hb2),(hb2),(hb2),(fun hg=> ⟨(jH 3 u3 ((at' u0 u3.toNat).most) v7 hr_3),trivial⟩),(⟨rfl,trivial⟩),(hb2),(hb2),trivial⟩)⟩)⟩)⟩ (bM.le (st':=(ab3 x1 u1 u0 u2 x2 u7 u8 u9 v0 v1 v2 x3 u3 v9)) ⟨⟨tR,tR,tR,tR,tR,tR,tR,⟨_,rfl,eO.v (eG.one (dO.of (congrArg (fun b=>CV.d (.bool b)) (BQ hb2))))⟩,trivial⟩,(.refl _)⟩) ?_
      refine cn (aP (rz tT (afC x1 u1 u0 u2 x2 u7 u8 u9 v0 v1 v2 x3 u3 v9) {} [] ?_))
      obtain rfl:=oi h
      exact lN
     ·skip
      refine aO h fun⟨a1,a2⟩ h=> ?_
      have q0:=dL (⟨x1,u1,u0,u2⟩:ah) (⟨x2,u7,u8,u9,v0,v1,v2⟩:State) u3 hr_2
      refine di tT mX (agI x1 u1 u0 u2 x2 u7 u8 u9 v0 v1 v2 x3 u3 u5 v7) (_::(abP u0 x3 u3 u5)) {yb:=[(4,u5),(17,false)],an:=[(3,cA q0 []),(18, .skip),(19, .skip),(20, .skip),(21, .skip),(22, .skip),(23, .skip),(24, .skip)] } [] ⟨q0,(ae ⟨(fun hg=> ⟨(a1 (aZ hg)),trivial⟩),(ae ⟨(fun hg=> ⟨(a2 (aZ hg)),trivial⟩),(ae ⟨(hb2),((fun h=>Bool.noConfusion (show false=true from h.1))),(hb2),((fun h=>Bool.noConfusion (show false=true from h.1))),(hb2),((fun h=>Bool.noConfusion (show false=true from h.1))),(hb2),((fun h=>Bool.noConfusion (show false=true from h.1))),(hb2),((fun h=>Bool.noConfusion (show false=true from h.1))),(hb2),((fun h=>Bool.noConfusion (show false=true from h.1))),(hb2),((fun h=>Bool.noConfusion (show false=true from h.1))),(hb2),trivial⟩)⟩)⟩)⟩ (bM.le (st':=(ab3 x1 u1 u0 u2 x2 u7 u8 u9 v0 v1 v2 x3 u3 v7)) ⟨⟨tR,tR,tR,tR,tR,tR,tR,⟨_,rfl,eO.v (eG.one (dO.of (congrArg (fun b=>CV.d (.bool b)) (BP hb2))))⟩,trivial⟩,(.refl _)⟩) ?_
      refine cn (aP (rz tT (afC x1 u1 u0 u2 x2 u7 u8 u9 v0 v1 v2 x3 u3 v7) {} [] ?_))
      obtain rfl:=oi h
      exact lN
    ·refine cf hb3 ?_
     refine aI (fz (aep x1 u1 u0 u2 x3 v7) []) ?_
     refine aX ?_
     obtain rfl:=oi h
     exact lB
   ·clear hy
    cases y1 with
    |brk z=>
     obtain⟨w2,rfl⟩: ∃q,q=z:=⟨_,rfl⟩
     unfold gm
     refine⟨_, .refl, ?_⟩
     refine sz tT ⟨(af8 u2 x3),(kz w2)⟩ {} [] ?_
     refine bE h fun y2 hy h=> ?_
     refine aL [] (pO u2 x3) oZ dF hy (fun s f h=> ?_) ?_
     ·clear hy
      show bJ _ _ _ _ _ _ ((yX u2 x3) f) _
      unfold iI at h
      obtain⟨v5,u6⟩:=s
      refine sz tT ⟨(ae5 u2 x3 u6),(kz v5)⟩ {} [] ?_
      refine aQ ?_
      refine bI h (fun hb5 h=> ?_) (fun hb5 h=> ?_)
      ·refine ct hb5 ?_
       refine aP (aQ (aB (aQ (aO h fun a1 h=> ?_))))
       refine rg tT ⟨(agz u2 x3 u6),(kz v5)⟩ [_] {fr:=[(3,25)] } [25] ⟨a1,trivial⟩ ?_
       refine aQ (bE h fun v3 hr_4 h=> ?_)
       refine rg tT ⟨(ad5 u2 x3 u6 v3),(kz v5)⟩ [Fn Try.prog 67 [(sD (.sl (some true) 1 [(JZ u2 u6).e0,(JZ u2 u6).e1].length (fun i j=>((Zn u2 u6).getD (0+(0+(i*1+j))) .nilp)))),(sD (.fn 125 1 (R4 x3)))] [] (vB v3) []] {an:=[(3, .call [] (vB v3) [])] } [] ⟨(Fn.leH (args:=(afd u2 x3 u6)) (hin:=[]) (j5 [(JZ u2 u6).e0,(JZ u2 u6).e1] x3 hr_4) ⟨eG.one (dO.d (gV.sl (.inl rfl) (by intro i hi j hj;match i,j,hi,hj with|0,0,_,_=>exact .refl _|1,0,_,_=>exact .refl _))),eG.refl _,trivial⟩ trivial),trivial⟩ ?_
       refine aQ ?_
       refine bI h (fun hb4 h=> ?_) (fun hb4 h=> ?_)
       ·skip
        refine bE h fun w0 hr_5 h=> ?_
        refine ri tT (afH u2 x3 u6 v3 w0) [v3=true,v3=true,v3=true,v3=true,v3=true,v3=true,gP (jl [(1,true)]) [(1,true)]→All [Yl Try.prog 0 [(.agg [(cI 0),(cI u6)]),(sI ((at' u2 u6.toNat).power))] (kz v5) (vB true) (kz w0)],gP (jl [(1,true)]) [(1,true)],v3=true,v3=true] {yb:=[(1,true)],an:=[(7, .call [0,1] (vB true) (kz w0))] } [] ⟨(hb4),(hb4),(hb4),(hb4),(hb4),(hb4),(fun hg=> ⟨(jH 0 u6 ((at' u2 u6.toNat).power) v5 hr_5),trivial⟩),(⟨rfl,trivial⟩),(hb4),(hb4),trivial⟩ (bM.le (st':=(af0 u2 x3 u6 w0)) ⟨⟨tR,tR,tR,tR,tR,⟨_,rfl,eO.v (eG.one (dO.of (congrArg (fun b=>CV.d (.bool b)) (BQ hb4))))⟩,trivial⟩,(.refl _)⟩) ?_
        refine cn (aP (rz tT (acu u2 x3 u6 w0) {} [] ?_))
        obtain rfl:=oi h
        exact lN
       ·skip
        refine ri tT (afH u2 x3 u6 v3 v5) [v3=false, ¬ gP (jl [(1,false)]) [(1,true)],v3=false, ¬ gP (jl [(1,false)]) [(1,true)],v3=false, ¬ gP (jl [(1,false)]) [(1,true)],v3=false, ¬ gP (jl [(1,false)]) [(1,true)],v3=false, ¬ gP (jl [(1,false)]) [(1,true)],v3=false, ¬ gP (jl [(1,false)]) [(1,true)],v3=false, ¬ gP (jl [(1,false)]) [(1,true)],v3=false] {yb:=[(1,false)],an:=[(2, .skip),(3, .skip),(4, .skip),(5, .skip),(6, .skip),(7, .skip),(8, .skip)] } [] ⟨(hb4),((fun h=>Bool.noConfusion (show false=true from h.1))),(hb4),((fun h=>Bool.noConfusion (show false=true from h.1))),(hb4),((fun h=>Bool.noConfusion (show false=true from h.1))),(hb4),((fun h=>Bool.noConfusion (show false=true from h.1))),(hb4),((fun h=>Bool.noConfusion (show false=true from h.1))),(hb4),((fun h=>Bool.noConfusion (show false=true from h.1))),(hb4),((fun h=>Bool.noConfusion (show false=true from h.1))),(hb4),trivial⟩ (bM.le (st':=(af0 u2 x3 u6 v5)) ⟨⟨tR,tR,tR,tR,tR,⟨_,rfl,eO.v (eG.one (dO.of (congrArg (fun b=>CV.d (.bool b)) (BP hb4))))⟩,trivial⟩,(.refl _)⟩) ?_
        refine cn (aP (rz tT (acu u2 x3 u6 v5) {} [] ?_))
        obtain rfl:=oi h
        exact lN
      ·refine cf hb5 ?_
       refine aI (fz ⟨[],(kz v5)⟩ []) ?_
       refine aX ?_
       obtain rfl:=oi h
       exact lB
     ·clear hy
      cases y2 with
      |brk z=>
       obtain⟨o1105,rfl⟩: ∃q,q=z:=⟨_,rfl⟩
       unfold gm
       refine⟨_, .refl, ?_⟩
       obtain rfl:=oi h
       exact bB.mk (.inl rfl) (p:=[]) (l:=[]) (by kernel_rfl) trivial (eO.refl _) (.refl _)
      |ret v=>
       obtain rfl:=oi h
       unfold gm
       intro e st hn ha hR
       cases e with
       |normal=>exact absurd rfl hn
       |exit id=>exact hR
       |goto l=>exact hR
       |ret=>exact hR
       |panic c=>exact hR
       |outgrown=>exact hR
    |ret v=>
     obtain rfl:=oi h
     unfold gm
     intro e st hn ha hR
     cases e with
     |normal=>exact absurd rfl hn
     |exit id=>exact hR
     |goto l=>exact hR
     |ret=>exact hR
     |panic c=>exact hR
     |outgrown=>exact hR
  |ret v=>
   obtain rfl:=oi h
   unfold gm
   intro e st hn ha hR
   cases e with
   |normal=>exact absurd rfl hn
   |exit id=>exact hR
   |goto l=>exact hR
   |ret=>exact hR
   |panic c=>exact hR
   |outgrown=>exact hR
def pF  :(Int × Int)→Exit→St→Prop:=
  fun r=>bB TT [.tmp 6, .tmp 7] (.iP [(sI r.1),(sI r.2)]) []
section
variable (u0:(List Bool))
abbrev Io:Nat × TV:=(2,(vD (aK none 1 aj u0)))
abbrev QI:Nat × TV:=(25,(vD (aK none 1 aj u0)))
abbrev RH:Nat × TV:=(26,(vI (u0.length:Int)))
end
def uz (p:ah) (s_:State) (u0:(List Bool)):Int→St:=
  fun u1=> ⟨[(Io u0),(bn p),(aV s_),(QI u0),(RH u0),(27,(vI u1))],[]⟩
section
variable (u0:(List Bool)) (p:ah) (s_:State)
abbrev Y9:St:=⟨[(Io u0),(bn p),(aV s_)],[]⟩
end
def uX (p:ah) (s_:State) (u0:(List Bool)):Unit→St:=
  fun _=>(Y9 u0 p s_)
def CZ (p:ah) (s_:State) (u0:(List Bool)):(aM Int (Ex Unit (Int × Int)))→Exit→St→Prop:=
  LQ 0 [] (uz p s_ u0) (uX p s_ u0) pF
section
variable (u0:(Int × (List Source) × (List Link) × (List ay) × (List Bool) × (List Bool) × (List Bool) × (List Bool) × (List Bool) × (List Bool) × (List Bool) × (List Bool)))
abbrev adh:List (Nat × TV):=[(11,(vP 6 0)),(44,(Wi u0))]
end
theorem ol (p:ah) (s_:State) (u1:(List Bool)) {r:(Int × Int)} (h:iy p s_ u1=some r):Fn Try.prog 45 (aez p s_ u1) [] (.iP [(sI r.1),(sI r.2)]) []:=by
 refine fN tT Try.func45 rfl rfl fun B=> ?_
 show bJ _ _ _ _ _ _ (pF r) _
 unfold iy at h
 refine sz tT (Y9 u1 p s_) {fr:=[(0,4),(1,5)] } [4,5] ?_
 refine aQ (aQ (bE h fun r_ hr_ h=> ?_))
 have q0:=eH p s_ hr_
 refine rg tT ⟨[(Io u1),(bn p),(aV s_),(8,(vI r_))],[]⟩ [_] {an:=[(2,cA q0 [])] } [] ⟨q0,trivial⟩ ?_
 refine sz tT ⟨[(Io u1),(bn p),(aV s_),(8,(vI r_)),(18,(vB (!decide (r_=0))))],[]⟩ {} [] ?_
 refine bI h (fun hb3 h=> ?_) (fun hb3 h=> ?_)
 ·refine ct hb3 ?_
  refine sz tT ⟨[(6,(vI 0)),(7,(vI r_))],[]⟩ {} [] ?_
  refine aR ?_
  obtain rfl:=oi h
  exact rl [(sI 0),(sI r_)]
 ·refine cf hb3 ?_
  refine aP (aQ (sz tT ⟨[(Io u1),(bn p),(aV s_),(24,(vB (!decide ((u1.length:Int)=p.buses))))],[]⟩ {} [] ?_))
  refine bI h (fun hb2 h=> ?_) (fun hb2 h=> ?_)
  ·refine ct hb2 ?_
   refine sz tT ⟨[(6,(vI 0)),(7,(vI 1))],[]⟩ {} [] ?_
   refine aR ?_
   obtain rfl:=oi h
   exact rl [(sI 0),(sI 1)]
  ·refine cf hb2 ?_
   refine aP (aQ (sz tT ⟨[(Io u1),(bn p),(aV s_),(QI u1),(RH u1),(27,(vI 0))],[]⟩ {} [] ?_))
   refine bE h fun y hy h=> ?_
   refine aL [] (uz p s_ u1) (uX p s_ u1) pF hy (fun s f h=> ?_) ?_
   ·clear hy
    show bJ _ _ _ _ _ _ ((CZ p s_ u1) f) _
    unfold ku at h
    obtain⟨u2,rfl⟩: ∃q,q=s:=⟨_,rfl⟩
    refine sz tT ⟨[(Io u1),(bn p),(aV s_),(QI u1),(RH u1),(27,(vI u2)),(28,(vB (decide (u2<(u1.length:Int)))))],[]⟩ {} [] ?_
    refine aQ ?_
    refine bI h (fun hb1 h=> ?_) (fun hb1 h=> ?_)
    ·refine ct hb1 ?_
     refine aP (aQ (aB (aQ (aO h fun a1 h=> ?_))))
     refine rg tT ⟨[(Io u1),(bn p),(aV s_),(9,(vI u2)),(10,(vB (at' u1 u2.toNat))),(QI u1),(RH u1),(27,(vI u2))],[]⟩ [_] {} [] ⟨a1,trivial⟩ ?_
     refine aQ (aO h fun a1 h=> ?_)
     refine rg tT ⟨[(Io u1),(bn p),(aV s_),(QI u1),(RH u1),(27,(vI u2)),(39,(vB (bif (at' u1 u2.toNat)then(at' s_.badBus u2.toNat)else false)))],[]⟩ (eqs (at' u1 u2.toNat) 4 ((gP (jl [(1,(at' u1 u2.toNat))]) [(1,true)]→All [(0:Int)≤u2∧u2<(s_.badBus.length:Int)])::(eqs (at' u1 u2.toNat) 2 []))) {yb:=[(1,(at' u1 u2.toNat))] } [] (ae ⟨(fun hg=> ⟨(a1 (aZ hg)),trivial⟩),(ae trivial)⟩) ?_
     refine bI h (fun hb h=> ?_) (fun hb h=> ?_)
     ·refine ct hb ?_
      refine sz tT ⟨[(6,(vI 0)),(7,(vI 1))],[]⟩ {} [] ?_
      refine aR ?_
      obtain rfl:=oi h
      exact lR dY (dX 0) dW (bB.mk (.inr rfl) (p:=[]) (l:=[(sI 0),(sI 1)]) (by kernel_rfl) trivial (eO.refl _) trivial)
     ·refine cf hb ?_
      refine aP (rz tT ⟨[(Io u1),(bn p),(aV s_),(QI u1),(RH u1),(27,(k3 u2))],[]⟩ {} [] ?_)
      obtain rfl:=oi h
      exact lN
    ·refine cf hb1 ?_
     refine aI (fz (Y9 u1 p s_) []) ?_
     refine aX ?_
     obtain rfl:=oi h
     exact lB
   ·clear hy
    cases y with
    |brk z=>
     unfold gm
     refine⟨_, .refl, ?_⟩
     refine sz tT ⟨[(Io u1),(bn p),(aV s_),(11,(vP 6 0))],[(6,some (.cells 3 [(cI 0)]))]⟩ {fr:=[(0,6)] } [] ?_
     refine aQ (aQ (bE h fun u0 hr_1 h=> ?_))
     have q0:=wG p s_ u1 hr_1
     refine rg tT ⟨(adh u0),[(6,some (.cells 3 [(cI 0)]))]⟩ [_] {an:=[(3,cA q0 [])] } [] ⟨q0,trivial⟩ ?_
     refine aB (bE h fun u3 hr_2 h=> ?_)
     refine jT 7 [(11,(vP 6 0))] [] [7,6] (.iP []) [(7,some (.loop dI 0 [(11,(vP 6 0))])),(6,some (.cells 3 [(cI u3)]))] (Wi u0) 124 [] (afO u0) [(7,some (.loop dI 0 [(11,(vP 6 0))])),(6,some (.cells 3 [(cI 0)]))] [(.one (.yl 7)),(sD (XJ u0)),(sD (Xu u0)),(sD (Xc u0))] dI 0 [(11,(vP 6 0))] (by kernel_rfl) (by kernel_rfl) (by kernel_rfl) (by kernel_rfl) (by kernel_rfl) (by kernel_rfl) (by kernel_rfl) (rK [(0,7),(1,6)] (yL u0.1 u0.2.1 u0.2.2.1 u0.2.2.2.1 u0.2.2.2.2.1 u0.2.2.2.2.2.1 u0.2.2.2.2.2.2.1 u0.2.2.2.2.2.2.2.1 u0.2.2.2.2.2.2.2.2.1 u0.2.2.2.2.2.2.2.2.2.1 u0.2.2.2.2.2.2.2.2.2.2.1 u0.2.2.2.2.2.2.2.2.2.2.2 0 hr_2)) (by kernel_rfl) rfl (CR.zero rfl) (bM.fin (st':=⟨(adh u0),[(6,some (.cells 3 [(cI u3)]))]⟩) (cs:=[]) ⟨[],[(6,6)]⟩ [11,44] (by kernel_rfl) trivial) ?_
     refine sz tT ⟨[(6,(vI u3)),(7,(vI 0))],[]⟩ {} [] ?_
     refine aR ?_
     obtain rfl:=oi h
     exact rl [(sI u3),(sI 0)]
    |ret v=>
     obtain rfl:=oi h
     unfold gm
     intro e st hn ha hR
     cases e with
     |normal=>exact absurd rfl hn
     |exit id=>exact hR
     |goto l=>exact hR
     |ret=>exact hR
     |panic c=>exact hR
     |outgrown=>exact hR
abbrev aaf:Ob:=(.cells 186 [(.d (.fn 128 0 (nN []))),(.d (.fn 129 0 (nN []))),(.d (.fn 130 0 (nN [])))])
abbrev Zd:List (Nat × Option Ob):=[(0,some aaf)]
def Ej  :Unit→Exit→St→Prop:=
  fun _=>bB TT [.tmp 0] (vO 0 true 3) Zd
theorem Cu  {r:Unit} (h:sZ=some r):Fn Try.prog 91 [] [] (vO 0 true 3) Zd:=by
 refine fN tT Try.func91 rfl rfl fun B=> ?_
 show bJ _ _ _ _ _ _ (Ej r) _
 unfold sZ at h
 refine sz tT ⟨[],[]⟩ {} [] ?_
 refine sz tT ⟨[(0,(vO 1 true 3))],[(1,some aaf)]⟩ {an:=[(3, .cells)],fr:=[(3,1)] } [] ?_
 refine aI (bM.fin (st':=⟨[(0,(vO 0 true 3))],Zd⟩) (cs:=[]) ⟨[],[(1,0)]⟩ [0] (by kernel_rfl) trivial) ?_
 refine aR ?_
 obtain rfl:=oi h
 exact rl [(.one (.own 0 true 3))]
def jR  :Bool→Exit→St→Prop:=
  fun r=>bB TT [.tmp 6] (vB r) []
section
variable (x:ai)
abbrev agm:TV:=(vD (lV [(aK none 1 (au .i64) x.sources),(aK none 1 (au .i64) x.links),(aK none 2 af.cell x.racks)] 0))
abbrev tN:Nat × TV:=(5,(agm x))
abbrev RF:Nat × TV:=(12,(vD (aK none 1 (au .i64) x.sources)))
abbrev SC:Nat × TV:=(13,(vI (x.sources.length:Int)))
end
def wK (p:ah) (s_:State) (x:ai):Int→St:=
  fun u0=> ⟨[(bn p),(aV s_),(tN x),(RF x),(SC x),(14,(vI u0))],[]⟩
section
variable (p:ah) (s_:State) (x:ai)
abbrev Xm:St:=⟨[(bn p),(aV s_),(tN x)],[]⟩
end
def wI (p:ah) (s_:State) (x:ai):Unit→St:=
  fun _=>(Xm p s_ x)
def EQ (p:ah) (s_:State) (x:ai):(aM Int (Ex Unit Bool))→Exit→St→Prop:=
  LQ 0 [] (wK p s_ x) (wI p s_ x) jR
section
variable (x:ai)
abbrev Q0:Nat × TV:=(44,(vD (aK none 1 (au .i64) x.links)))
abbrev QX:Nat × TV:=(45,(vI (x.links.length:Int)))
end
def wh (p:ah) (s_:State) (x:ai):Int→St:=
  fun u0=> ⟨[(bn p),(aV s_),(Q0 x),(QX x),(46,(vI u0))],[]⟩
def wu  :Unit→St:=
  fun _=> ⟨[],[]⟩
def D5 (p:ah) (s_:State) (x:ai):(aM Int (Ex Unit Bool))→Exit→St→Prop:=
  LQ 2 [] (wh p s_ x) wu jR
section
variable (p:ah) (s_:State) (x:ai) (u1:Int) (u0:Int)
abbrev XE:List SV:=[(.agg (k5 p)),(.agg (SG s_)),(.agg (XT x))]
abbrev Un:=(decide ((at' x.sources u1.toNat)<0))
abbrev M9:=(bif (Un x u1)then true else(decide (((at' p.sources u1.toNat).power)<(at' x.sources u1.toNat))))
abbrev Oj:=(decide (0<(at' x.sources u1.toNat)))
abbrev Zh:=(jl [(2,(Un x u1)),(12,(M9 p x u1)),(15,(Oj x u1))])
abbrev Vm:=(decide ((at' x.links u0.toNat)<(IntKind.wrap .i64 (0 - (OT p u0)))))
abbrev Ou:=(bif (Vm p x u0)then true else(decide ((OT p u0)<(at' x.links u0.toNat))))
abbrev NM:=(!decide ((at' x.links u0.toNat)=0))
abbrev YW:=(jl [(9,(Vm p x u0)),(19,(Ou p x u0)),(22,(NM x u0))])
end
theorem DY (p:ah) (s_:State) (x:ai) {r:Bool} (h:lZ p s_ x=some r):Fn Try.prog 128 (XE p s_ x) [] (vB r) []:=by
 refine fN tT Try.func128 rfl rfl fun B=> ?_
 show bJ _ _ _ _ _ _ (jR r) _
 unfold lZ at h
 refine sz tT (Xm p s_ x) {fr:=[(0,3),(1,4),(2,5)] } [3,4,5] ?_
 refine aQ (sz tT ⟨[(bn p),(aV s_),(tN x),(RF x),(SC x),(14,(vI 0))],[]⟩ {} [] ?_)
 refine bE h fun y hy h=> ?_
 refine aL [] (wK p s_ x) (wI p s_ x) jR hy (fun s f h=> ?_) ?_
 ·clear hy
  show bJ _ _ _ _ _ _ ((EQ p s_ x) f) _
  unfold kT at h
  obtain⟨u1,rfl⟩: ∃q,q=s:=⟨_,rfl⟩
  refine sz tT ⟨[(bn p),(aV s_),(tN x),(RF x),(SC x),(14,(vI u1)),(15,(vB (decide (u1<(x.sources.length:Int)))))],[]⟩ {} [] ?_
  refine aQ ?_
  refine bI h (fun hb1 h=> ?_) (fun hb1 h=> ?_)
  ·refine ct hb1 ?_
   refine aP (aQ (aB (aQ (aO h fun a1 h=> ?_))))
   refine rg tT ⟨[(bn p),(aV s_),(tN x),(7,(vI u1)),(8,(vI (at' x.sources u1.toNat))),(RF x),(SC x),(14,(vI u1))],[]⟩ [_] {} [] ⟨a1,trivial⟩ ?_
   refine aQ (bE h fun r_ hr_ h=> ?_)
   refine aO h fun a1 h=> ?_
   refine rg tT ⟨[(bn p),(aV s_),(tN x),(RF x),(SC x),(14,(vI u1)),(41,(vB (bif (M9 p x u1)then true else(bif (Oj x u1)then(!r_)else false))))],[]⟩ (eqs (Un x u1) 5 ((gP (Zh p x u1) [(2,false)]→All [(0:Int)≤u1∧u1<(p.sources.length:Int)])::(eqs (Un x u1) 4 (eqs (M9 p x u1) 3 (eqs (Oj x u1) 4 [gP (Zh p x u1) [(15,true),(12,false)]→All [Fn Try.prog 65 (OU p s_ u1) [] (vB r_) []],(Oj x u1)=(Oj x u1),(M9 p x u1)=(M9 p x u1),gP (Zh p x u1) [(12,false)]→All [(Oj x u1)=(Oj x u1)],(M9 p x u1)=(M9 p x u1)]))))) {yb:=[(2,(Un x u1)),(12,(M9 p x u1)),(15,(Oj x u1))],an:=[(19, .call [] (vB r_) [])] } [] (ae ⟨(fun hg=> ⟨(a1 (aZ hg)),trivial⟩),(ae (ae (ae ⟨(fun hg=> ⟨(fU p s_ u1 (gI hr_ (aZ hg))),trivial⟩),rfl,rfl,(fun hg=> ⟨rfl,trivial⟩),rfl,trivial⟩)))⟩) ?_
   refine bI h (fun hb h=> ?_) (fun hb h=> ?_)
   ·refine ct hb ?_
    refine sz tT ⟨[(6,(vB false))],[]⟩ {} [] ?_
    refine aR ?_
    obtain rfl:=oi h
    exact lR dY (dX 0) dW (bB.mk (.inr rfl) (p:=[]) (l:=[(sB false)]) (by kernel_rfl) trivial (eO.refl _) trivial)
   ·refine cf hb ?_
    refine aP (rz tT ⟨[(bn p),(aV s_),(tN x),(RF x),(SC x),(14,(k3 u1))],[]⟩ {} [] ?_)
    obtain rfl:=oi h
    exact lN
  ·refine cf hb1 ?_
   refine aI (fz (Xm p s_ x) []) ?_
   refine aX ?_
   obtain rfl:=oi h
   exact lB
 ·clear hy
  cases y with
  |brk z=>
   unfold gm
   refine⟨_, .refl, ?_⟩
   refine aQ (sz tT ⟨[(bn p),(aV s_),(Q0 x),(QX x),(46,(vI 0))],[]⟩ {} [] ?_)
   refine bE h fun y1 hy h=> ?_
   refine aL [] (wh p s_ x) wu jR hy (fun s f h=> ?_) ?_
   ·clear hy
    show bJ _ _ _ _ _ _ ((D5 p s_ x) f) _
    unfold lI at h
    obtain⟨u0,rfl⟩: ∃q,q=s:=⟨_,rfl⟩
    refine sz tT ⟨[(bn p),(aV s_),(Q0 x),(QX x),(46,(vI u0)),(47,(vB (decide (u0<(x.links.length:Int)))))],[]⟩ {} [] ?_
    refine aQ ?_
    refine bI h (fun hb3 h=> ?_) (fun hb3 h=> ?_)
    ·refine ct hb3 ?_
     refine aP (aQ (aB (aQ (aO h fun a1 h=> ?_))))
     refine rg tT ⟨[(bn p),(aV s_),(9,(vI u0)),(10,(vI (at' x.links u0.toNat))),(Q0 x),(QX x),(46,(vI u0))],[]⟩ [_] {} [] ⟨a1,trivial⟩ ?_
     refine aQ (bE h fun u2 hr_1 h=> ?_)
     refine aO h fun⟨a1,a2⟩ h=> ?_
     refine rg tT ⟨[(bn p),(aV s_),(Q0 x),(QX x),(46,(vI u0)),(80,(vB (bif (Ou p x u0)then true else(bif (NM x u0)then(!u2)else false))))],[]⟩ (_::(eqs (Vm p x u0) 5 ((gP (YW p x u0) [(9,false)]→All [(0:Int)≤u0∧u0<(p.links.length:Int)])::(eqs (Vm p x u0) 4 (eqs (Ou p x u0) 3 (eqs (NM x u0) 4 [gP (YW p x u0) [(22,true),(19,false)]→All [Fn Try.prog 78 (OU p s_ u0) [] (vB u2) []],(NM x u0)=(NM x u0),(Ou p x u0)=(Ou p x u0),gP (YW p x u0) [(19,false)]→All [(NM x u0)=(NM x u0)],(Ou p x u0)=(Ou p x u0)])))))) {yb:=[(9,(Vm p x u0)),(19,(Ou p x u0)),(22,(NM x u0))],an:=[(26, .call [] (vB u2) [])] } [] ⟨a1,(ae ⟨(fun hg=> ⟨(a2 (aZ hg)),trivial⟩),(ae (ae (ae ⟨(fun hg=> ⟨(dL p s_ u0 (gI hr_1 (aZ hg))),trivial⟩),rfl,rfl,(fun hg=> ⟨rfl,trivial⟩),rfl,trivial⟩)))⟩)⟩ ?_
     refine bI h (fun hb2 h=> ?_) (fun hb2 h=> ?_)
     ·refine ct hb2 ?_
      refine sz tT ⟨[(6,(vB false))],[]⟩ {} [] ?_
      refine aR ?_
      obtain rfl:=oi h
      exact lR dY (dX 2) dW (bB.mk (.inr rfl) (p:=[]) (l:=[(sB false)]) (by kernel_rfl) trivial (eO.refl _) trivial)
     ·refine cf hb2 ?_
      refine aP (rz tT ⟨[(bn p),(aV s_),(Q0 x),(QX x),(46,(k3 u0))],[]⟩ {} [] ?_)
      obtain rfl:=oi h
      exact lN
    ·refine cf hb3 ?_
     refine aI (fz ⟨[],[]⟩ []) ?_
     refine aX ?_
     obtain rfl:=oi h
     exact lB
   ·clear hy
    cases y1 with
    |brk z=>
     unfold gm
     refine⟨_, .refl, ?_⟩
     refine sz tT ⟨[(6,(vB true))],[]⟩ {} [] ?_
     refine aR ?_
     obtain rfl:=oi h
     exact rl [(sB true)]
    |ret v=>
     obtain rfl:=oi h
     unfold gm
     intro e st hn ha hR
     cases e with
     |normal=>exact absurd rfl hn
     |exit id=>exact hR
     |goto l=>exact hR
     |ret=>exact hR
     |panic c=>exact hR
     |outgrown=>exact hR
  |ret v=>
   obtain rfl:=oi h
   unfold gm
   intro e st hn ha hR
   cases e with
   |normal=>exact absurd rfl hn
   |exit id=>exact hR
   |goto l=>exact hR
   |ret=>exact hR
   |panic c=>exact hR
   |outgrown=>exact hR
def uP  :Bool→Exit→St→Prop:=
  fun r=>bB TT [.tmp 6] (vB r) []
section
variable (x:ai)
abbrev BO:Nat × TV:=(12,(vD (aK none 2 af.cell x.racks)))
abbrev BR:Nat × TV:=(13,(vI (x.racks.length:Int)))
end
def zA (p:ah) (s_:State) (x:ai):Int→St:=
  fun u0=> ⟨[(bn p),(aV s_),(BO x),(BR x),(14,(vI u0))],[]⟩
def zF  :Unit→St:=
  fun _=> ⟨[],[]⟩
def rF (p:ah) (s_:State) (x:ai):(aM Int (Ex Unit Bool))→Exit→St→Prop:=
  LQ 0 [] (zA p s_ x) zF uP
section
variable (x:ai) (u0:Int)
abbrev Iq:Nat × TV:=(8,(aal x u0))
abbrev aa6:List CV:=[(cI ((at' x.racks u0.toNat).e0)),(cI ((at' x.racks u0.toNat).e1))]
abbrev JM:Nat × TV:=(19,(.v (.agg (aa6 x u0))))
end
def zH (p:ah) (s_:State) (x:ai) (u0:Int):Int→St:=
  fun u1=> ⟨[(bn p),(aV s_),(7,(vI u0)),(Iq x u0),(BO x),(BR x),(14,(vI u0)),(JM x u0),(20,(vI u1))],[]⟩
section
variable (p:ah) (s_:State) (u0:Int) (x:ai)
abbrev YK:St:=⟨[(bn p),(aV s_),(7,(vI u0)),(Iq x u0),(BO x),(BR x),(14,(vI u0))],[]⟩
end
def zC (p:ah) (s_:State) (x:ai) (u0:Int):Unit→St:=
  fun _=>(YK p s_ u0 x)
def Gm (p:ah) (s_:State) (x:ai) (u0:Int):(aM Int (Ex Unit (aM Int (Ex Unit Bool))))→Exit→St→Prop:=
  LQ 2 [1] (zH p s_ x u0) (zC p s_ x u0) (rF p s_ x)
section
variable (x:ai) (u0:Int) (u1:Int) (p:ah) (r_:Bool)
abbrev Sq:=(at' [(at' x.racks u0.toNat).e0,(at' x.racks u0.toNat).e1] u1.toNat)
abbrev abu:Nat × TV:=(10,(vI (Sq x u0 u1)))
abbrev Nr:=(decide ((Sq x u0 u1)<0))
abbrev DX:=(bif (Nr x u0 u1)then true else(decide (((at' p.racks u0.toNat).power)<(Sq x u0 u1))))
abbrev zR:=(decide (0<(Sq x u0 u1)))
abbrev aeD:Nat × TV:=(52,(vB (bif (DX x u0 u1 p)then true else(bif (zR x u0 u1)then(!r_)else false))))
abbrev Oh:=(jl [(2,(Nr x u0 u1)),(12,(DX x u0 u1 p)),(15,(zR x u0 u1))])
abbrev ad2:=(gP (Oh x u0 u1 p) [(2,false)]→All [(0:Int)≤u0∧u0<(p.racks.length:Int)])
abbrev acK:=(gP (Oh x u0 u1 p) [(15,true),(12,false)]→All [(0:Int)≤u0∧u0<(p.racks.length:Int)])
end
theorem GZ (p:ah) (s_:State) (x:ai) {r:Bool} (h:o8 p s_ x=some r):Fn Try.prog 129 (XE p s_ x) [] (vB r) []:=by
 refine fN tT Try.func129 rfl rfl fun B=> ?_
 show bJ _ _ _ _ _ _ (uP r) _
 unfold o8 at h
 refine sz tT ⟨[(bn p),(aV s_),(5,(vP 9 0))],[(9,some (aaq x))]⟩ {fr:=[(0,7),(1,8),(2,9)] } [7,8] ?_
 refine aQ (sz tT ⟨[(bn p),(aV s_),(BO x),(BR x),(14,(vI 0))],[]⟩ {} [] ?_)
 refine bE h fun y1 hy h=> ?_
 refine aL [] (zA p s_ x) zF uP hy (fun s f h=> ?_) ?_
 ·clear hy
  show bJ _ _ _ _ _ _ ((rF p s_ x) f) _
  unfold nQ at h
  obtain⟨u0,rfl⟩: ∃q,q=s:=⟨_,rfl⟩
  refine sz tT ⟨[(bn p),(aV s_),(BO x),(BR x),(14,(vI u0)),(15,(vB (decide (u0<(x.racks.length:Int)))))],[]⟩ {} [] ?_
  refine aQ ?_
  refine bI h (fun hb6 h=> ?_) (fun hb6 h=> ?_)
  ·refine ct hb6 ?_
   refine aP (aQ (aB (aQ (aO h fun a1 h=> ?_))))
   refine rg tT (YK p s_ u0 x) [_] {fr:=[(3,13)] } [13] ⟨a1,trivial⟩ ?_
   refine aQ (sz tT ⟨[(bn p),(aV s_),(7,(vI u0)),(Iq x u0),(BO x),(BR x),(14,(vI u0)),(JM x u0),(20,(vI 0))],[]⟩ {} [] ?_)
   refine bE h fun y hy h=> ?_
   refine aL [1] (zH p s_ x u0) (zC p s_ x u0) (rF p s_ x) hy (fun s f h=> ?_) ?_
   ·clear hy
    show bJ _ _ _ _ _ _ ((Gm p s_ x u0) f) _
    unfold fq at h
    obtain⟨u1,rfl⟩: ∃q,q=s:=⟨_,rfl⟩
    refine sz tT ⟨[(bn p),(aV s_),(7,(vI u0)),(Iq x u0),(BO x),(BR x),(14,(vI u0)),(JM x u0),(20,(vI u1)),(21,(vB (decide (u1<2))))],[]⟩ {} [] ?_
    refine aQ ?_
    refine bI h (fun hb4 h=> ?_) (fun hb4 h=> ?_)
    ·refine ct hb4 ?_
     refine aP (aQ (aB (aQ (aO h fun a1 h=> ?_))))
     refine rg tT ⟨[(bn p),(aV s_),(7,(vI u0)),(Iq x u0),(9,(vI u1)),(abu x u0 u1),(BO x),(BR x),(14,(vI u0)),(JM x u0),(20,(vI u1))],[]⟩ [_,u1.toNat*1+1≤(aa6 x u0).length,((aa6 x u0).drop (u1.toNat*1)).take 1=[(.int .i64 (Sq x u0 u1))].map .d] {an:=[(1, .vals [(.int .i64 (Sq x u0 u1))])] } [] ⟨a1,(Uo (n:=2) (sz:=1) (Nat.le_refl _) a1),(Ub (n:=2) (sz:=1) (g:=fun q=>[(cI (at' [(at' x.racks u0.toNat).e0,(at' x.racks u0.toNat).e1] q))]) (by intro q hq;match q,hq with|0,_=>rfl|1,_=>rfl) a1),trivial⟩ ?_
     refine aQ ?_
     refine bI h (fun hb h=> ?_) (fun _ h=> ?_)
     ·skip
      refine aI (bM.le (st':=⟨[(bn p),(aV s_),(7,(vI u0)),(Iq x u0),(9,(vI 0)),(abu x u0 u1),(BO x),(BR x),(14,(vI u0)),(JM x u0),(20,(vI 0))],[]⟩) ⟨⟨tR,tR,tR,tR,⟨_,rfl,eO.v (eG.one (dO.of (congrArg (fun n=>CV.d (.int .i64 n)) (of_decide_eq_true hb))))⟩,tR,tR,tR,tR,tR,⟨_,rfl,eO.v (eG.one (dO.of (congrArg (fun n=>CV.d (.int .i64 n)) (of_decide_eq_true hb))))⟩,trivial⟩,trivial⟩) ?_
      refine bE h fun r_ hr_ h=> ?_
      refine aO h fun⟨a1,a2⟩ h=> ?_
      refine dg tT mX ⟨[(bn p),(aV s_),(7,(vI u0)),(Iq x u0),(BO x),(BR x),(14,(vI u0)),(JM x u0),(20,(vI 0)),(aeD x u0 u1 p r_)],[]⟩ (eqs (Nr x u0 u1) 5 ((ad2 x u0 u1 p)::(eqs (Nr x u0 u1) 4 (eqs (DX x u0 u1 p) 3 (eqs (zR x u0 u1) 6 ((acK x u0 u1 p)::(eqs (zR x u0 u1) 2 ((gP (Oh x u0 u1 p) [(15,true),(12,false)]→All [(0:Int)≤0∧(0:Int)<(2:Nat)])::(eqs (zR x u0 u1) 2 [gP (Oh x u0 u1 p) [(15,true),(12,false)]→All [Fn Try.prog 79 [(.agg (SG s_)),(sI ((GX p u0).e0))] [] (vB r_) []],(zR x u0 u1)=(zR x u0 u1),(DX x u0 u1 p)=(DX x u0 u1 p),gP (Oh x u0 u1 p) [(12,false)]→All [(zR x u0 u1)=(zR x u0 u1)],(DX x u0 u1 p)=(DX x u0 u1 p)]))))))))) {yb:=[(2,(Nr x u0 u1)),(12,(DX x u0 u1 p)),(15,(zR x u0 u1))],an:=[(25, .call [] (vB r_) [])] } [] (ae ⟨(fun hg=> ⟨(a1 (aZ hg)),trivial⟩),(ae (ae (ae ⟨(fun hg=> ⟨(a2 (aZ hg)),trivial⟩),(ae ⟨(fun hg=> ⟨((by decide)),trivial⟩),(ae ⟨(fun hg=> ⟨(kR s_ ((GX p u0).e0) (gI hr_ (aZ hg))),trivial⟩),rfl,rfl,(fun hg=> ⟨rfl,trivial⟩),rfl,trivial⟩)⟩)⟩)))⟩) ?_
      refine bI h (fun hb1 h=> ?_) (fun hb1 h=> ?_)
      ·refine ct hb1 ?_
       refine sz tT ⟨[(6,(vB false))],[]⟩ {} [] ?_
       refine aR ?_
       obtain rfl:=oi h
       exact lR dY (dX 2) dW (lR dY (dX 0) dW (bB.mk (.inr rfl) (p:=[]) (l:=[(sB false)]) (by kernel_rfl) trivial (eO.refl _) trivial))
      ·refine cf hb1 ?_
       refine aP (rz tT ⟨[(bn p),(aV s_),(7,(vI u0)),(Iq x u0),(BO x),(BR x),(14,(vI u0)),(JM x u0),(20,(vI 1))],[]⟩ {} [] ?_)
       obtain rfl:=oi h
       exact lN
     ·skip
      refine aO h fun a1 h=> ?_
      refine aI (bM.le (st':=⟨[(bn p),(aV s_),(7,(vI u0)),(Iq x u0),(9,(vI 1)),(abu x u0 u1),(BO x),(BR x),(14,(vI u0)),(JM x u0),(20,(vI 1))],[]⟩) ⟨⟨tR,tR,tR,tR,⟨_,rfl,eO.v (eG.one (dO.of (congrArg (fun n=>CV.d (.int .i64 n)) a1)))⟩,tR,tR,tR,tR,tR,⟨_,rfl,eO.v (eG.one (dO.of (congrArg (fun n=>CV.d (.int .i64 n)) a1)))⟩,trivial⟩,trivial⟩) ?_
      refine bE h fun u2 hr_1 h=> ?_
      refine aO h fun⟨a1,a2⟩ h=> ?_
      refine dg tT mX ⟨[(bn p),(aV s_),(7,(vI u0)),(Iq x u0),(BO x),(BR x),(14,(vI u0)),(JM x u0),(20,(vI 1)),(aeD x u0 u1 p u2)],[]⟩ (eqs (Nr x u0 u1) 5 ((ad2 x u0 u1 p)::(eqs (Nr x u0 u1) 4 (eqs (DX x u0 u1 p) 3 (eqs (zR x u0 u1) 6 ((acK x u0 u1 p)::(eqs (zR x u0 u1) 2 ((gP (Oh x u0 u1 p) [(15,true),(12,false)]→All [(0:Int)≤1∧(1:Int)<(2:Nat)])::(eqs (zR x u0 u1) 2 [gP (Oh x u0 u1 p) [(15,true),(12,false)]→All [Fn Try.prog 79 [(.agg (SG s_)),(sI ((GX p u0).e1))] [] (vB u2) []],(zR x u0 u1)=(zR x u0 u1),(DX x u0 u1 p)=(DX x u0 u1 p),gP (Oh x u0 u1 p) [(12,false)]→All [(zR x u0 u1)=(zR x u0 u1)],(DX x u0 u1 p)=(DX x u0 u1 p)]))))))))) {yb:=[(2,(Nr x u0 u1)),(12,(DX x u0 u1 p)),(15,(zR x u0 u1))],an:=[(25, .call [] (vB u2) [])] } [] (ae ⟨(fun hg=> ⟨(a1 (aZ hg)),trivial⟩),(ae (ae (ae ⟨(fun hg=> ⟨(a2 (aZ hg)),trivial⟩),(ae ⟨(fun hg=> ⟨((by decide)),trivial⟩),(ae ⟨(fun hg=> ⟨(kR s_ ((GX p u0).e1) (gI hr_1 (aZ hg))),trivial⟩),rfl,rfl,(fun hg=> ⟨rfl,trivial⟩),rfl,trivial⟩)⟩)⟩)))⟩) ?_
      refine bI h (fun hb3 h=> ?_) (fun hb3 h=> ?_)
      ·refine ct hb3 ?_
       refine sz tT ⟨[(6,(vB false))],[]⟩ {} [] ?_
       refine aR ?_
       obtain rfl:=oi h
       exact lR dY (dX 2) dW (lR dY (dX 0) dW (bB.mk (.inr rfl) (p:=[]) (l:=[(sB false)]) (by kernel_rfl) trivial (eO.refl _) trivial))
      ·refine cf hb3 ?_
       refine aP (rz tT ⟨[(bn p),(aV s_),(7,(vI u0)),(Iq x u0),(BO x),(BR x),(14,(vI u0)),(JM x u0),(20,(vI 2))],[]⟩ {} [] ?_)
       obtain rfl:=oi h
       exact lN
    ·refine cf hb4 ?_
     refine aI (fz (YK p s_ u0 x) []) ?_
     refine aX ?_
     obtain rfl:=oi h
     exact lB
   ·clear hy
    cases y with
    |brk z=>
     unfold gm
     refine⟨_, .refl, ?_⟩
     refine aQ (aO h fun a1 h=> ?_)
     refine dg tT mX ⟨[(bn p),(aV s_),(BO x),(BR x),(14,(vI u0)),(65,(vB (decide (((at' p.racks u0.toNat).power)<(IntKind.wrap .i64 (((at' x.racks u0.toNat).e0)+((at' x.racks u0.toNat).e1)))))))],[]⟩ [(0:Int)≤0∧(0:Int)<(2:Nat),(0:Int)≤1∧(1:Int)<(2:Nat),_] {} [] ⟨((by decide)),((by decide)),a1,trivial⟩ ?_
     refine bI h (fun hb5 h=> ?_) (fun hb5 h=> ?_)
     ·refine ct hb5 ?_
      refine sz tT ⟨[(6,(vB false))],[]⟩ {} [] ?_
      refine aR ?_
      obtain rfl:=oi h
      exact lR dY (dX 0) dW (bB.mk (.inr rfl) (p:=[]) (l:=[(sB false)]) (by kernel_rfl) trivial (eO.refl _) trivial)
     ·refine cf hb5 ?_
      refine aP (rz tT ⟨[(bn p),(aV s_),(BO x),(BR x),(14,(k3 u0))],[]⟩ {} [] ?_)
      obtain rfl:=oi h
      exact lN
    |ret v=>
     obtain rfl:=oi h
     unfold gm
     intro e st hn ha hR
     cases e with
     |normal=>exact absurd rfl hn
     |exit id=>simp only [qA (b:=1) ha rfl,cond_false];exact hR
     |goto l=>exact hR
     |ret=>exact hR
     |panic c=>exact hR
     |outgrown=>exact hR
  ·refine cf hb6 ?_
   refine aI (fz ⟨[],[]⟩ []) ?_
   refine aX ?_
   obtain rfl:=oi h
   exact lB
 ·clear hy
  cases y1 with
  |brk z=>
   unfold gm
   refine⟨_, .refl, ?_⟩
   refine sz tT ⟨[(6,(vB true))],[]⟩ {} [] ?_
   refine aR ?_
   obtain rfl:=oi h
   exact rl [(sB true)]
  |ret v=>
   obtain rfl:=oi h
   unfold gm
   intro e st hn ha hR
   cases e with
   |normal=>exact absurd rfl hn
   |exit id=>exact hR
   |goto l=>exact hR
   |ret=>exact hR
   |panic c=>exact hR
   |outgrown=>exact hR
def Cf  :Bool→Exit→St→Prop:=
  fun r=>bB TT [.tmp 2] (vB r) []
theorem Ap (n:Int) {r:Bool} (h:lH n=some r):Fn Try.prog 149 [(sI n)] [] (vB r) []:=by
 refine fN tT Try.func149 rfl rfl fun B=> ?_
 show bJ _ _ _ _ _ _ (Cf r) _
 unfold lH at h
 refine sz tT ⟨[(0,(vI n))],[]⟩ {} [] ?_
 refine sz tT ⟨[(2,(vB (!decide (n=0))))],[]⟩ {} [] ?_
 refine aR ?_
 obtain rfl:=oi h
 exact rl [(sB (!decide (n=0)))]
section
variable (s_:(List Int))
abbrev uR:List (Nat × Option Ob):=[(EY s_)]
end
def iX (s_:(List Int)):Int→Exit→St→Prop:=
  fun r=>bB TT [.tmp 4] (vI r) (uR s_)
section
variable (s_:(List Int))
abbrev BU:Nat × TV:=(0,(vO 0 true s_.length))
abbrev Ph:Nat × TV:=(1,(vD (.fn 149 0 (nN []))))
end
def lD (s_:(List Int)):Int→St:=
  fun t8=> ⟨[(BU s_),Ph,(oC s_),(8,(vI t8))],(uR s_)⟩
def kX (s_:(List Int)):Unit→St:=
  fun _=> ⟨[],(uR s_)⟩
def tO (s_:(List Int)):(aM Int (Ex Unit Int))→Exit→St→Prop:=
  LQ 0 [] (lD s_) (kX s_) (iX s_)
section
variable (s_:(List Int))
abbrev adp:St:=⟨[(BU s_),Ph],(uR s_)⟩
end
theorem sW (s_:(List Int)) {r:Int} (h:gN s_=some r):Fn Try.prog 113 [(.one (.own 0 true s_.length)),(sD (.fn 149 0 (nN [])))] (uR s_) (vI r) (uR s_):=by
 refine fN tT Try.func113 rfl rfl fun B=> ?_
 show bJ _ _ _ _ _ _ ((iX s_) r) _
 unfold gN at h
 refine sz tT (adp s_) {} [] ?_
 refine aQ (sz tT ⟨[(BU s_),Ph,(oC s_),(8,(vI 0))],(uR s_)⟩ {} [] ?_)
 refine bE h fun y hy h=> ?_
 refine aL [] (lD s_) (kX s_) (iX s_) hy (fun s f h=> ?_) ?_
 ·clear hy
  show bJ _ _ _ _ _ _ ((tO s_) f) _
  unfold fF at h
  obtain⟨t8,rfl⟩: ∃q,q=s:=⟨_,rfl⟩
  refine sz tT ⟨[(BU s_),Ph,(oC s_),(8,(vI t8)),(UH t8 s_)],(uR s_)⟩ {} [] ?_
  refine aQ ?_
  refine bI h (fun hb1 h=> ?_) (fun hb1 h=> ?_)
  ·refine ct hb1 ?_
   refine aP (aQ (aB (sz tT ⟨[(BU s_),Ph,(5,(vI t8)),(oC s_),(8,(vI t8))],(uR s_)⟩ {} [] ?_)))
   refine aQ (bE h fun r_ hr_ h=> ?_)
   refine aO h fun a1 h=> ?_
   have q2:=Ap (at' s_ t8.toNat) hr_
   refine rg tT ⟨[(BU s_),Ph,(5,(vI t8)),(oC s_),(8,(vI t8)),(16,(vB r_))],(uR s_)⟩ [_,_,_] {an:=[(5,cA q2 [])] } [] ⟨a1,(tL a1),q2,trivial⟩ ?_
   refine bI h (fun hb h=> ?_) (fun hb h=> ?_)
   ·refine ct hb ?_
    refine sz tT ⟨[(4,(vI t8))],(uR s_)⟩ {} [] ?_
    refine aR ?_
    obtain rfl:=oi h
    exact lR dY (dX 0) dW (bB.mk (.inr rfl) (p:=[]) (l:=[(sI t8)]) (by kernel_rfl) trivial (eO.refl _) (.refl _))
   ·refine cf hb ?_
    refine aP (rz tT ⟨[(BU s_),Ph,(oC s_),(Yv t8)],(uR s_)⟩ {} [] ?_)
    obtain rfl:=oi h
    exact lN
  ·refine cf hb1 ?_
   refine aI (fz ⟨[],(uR s_)⟩ []) ?_
   refine aX ?_
   obtain rfl:=oi h
   exact lB
 ·clear hy
  cases y with
  |brk z=>
   unfold gm
   refine⟨_, .refl, ?_⟩
   refine sz tT ⟨[(4,(vI (-1)))],(uR s_)⟩ {} [] ?_
   refine aR ?_
   obtain rfl:=oi h
   exact rl [(sI (-1))]
  |ret v=>
   obtain rfl:=oi h
   unfold gm
   intro e st hn ha hR
   cases e with
   |normal=>exact absurd rfl hn
   |exit id=>exact hR
   |goto l=>exact hR
   |ret=>exact hR
   |panic c=>exact hR
   |outgrown=>exact hR
def rH (s_:(List Int)):Bool→Exit→St→Prop:=
  fun r=>bB TT [.tmp 4] (vB r) (uR s_)
theorem rf (s_:(List Int)) {r:Bool} (h:bZ s_=some r):Fn Try.prog 67 [(.one (.own 0 true s_.length)),(sD (.fn 149 0 (nN [])))] (uR s_) (vB r) (uR s_):=by
 refine fN tT Try.func67 rfl rfl fun B=> ?_
 show bJ _ _ _ _ _ _ ((rH s_) r) _
 unfold bZ at h
 refine sz tT (adp s_) {} [] ?_
 refine aQ (bE h fun r_ hr_ h=> ?_)
 have q0:=sW s_ hr_
 refine rg tT ⟨[(4,(vB (decide (0≤r_))))],(uR s_)⟩ [_] {an:=[(2,cR q0 [0])] } [] ⟨q0,trivial⟩ ?_
 refine aR ?_
 obtain rfl:=oi h
 exact rl [(sB (decide (0≤r_)))]
def fQ  :Bool→Exit→St→Prop:=
  fun r=>bB TT [.tmp 6] (vB r) []
section
variable (u0:(List Int)) (x:ai) (u1:Int) (p:ah)
abbrev sP:Nat × TV:=(7,(vO 11 true u0.length))
abbrev Sj:Nat × TV:=(20,(vD (aK none 1 (au .i64) x.sources)))
abbrev Ro:Nat × TV:=(21,(vI (x.sources.length:Int)))
abbrev ae3:List (Nat × TV):=[(3,(vP 8 0)),(5,(vP 10 0)),(sP u0),(Sj x),(Ro x),(22,(vI u1))]
abbrev LC:Nat × Option Ob:=(8,some (Yf p))
abbrev Li:Nat × Option Ob:=(10,some (aaq x))
abbrev NC:List (Nat × Option Ob):=[(LC p),(Li x),(11,some (Bt u0))]
end
def vo (p:ah) (x:ai):((List Int) × Int)→St:=
  fun zz=>match zz with|(u0,u1)=> ⟨(ae3 u0 x u1),(NC u0 x p)⟩
section
variable (u0:(List Int)) (p:ah) (x:ai)
abbrev Wv:St:=⟨[(3,(vP 8 0)),(5,(vP 10 0)),(sP u0)],(NC u0 x p)⟩
end
def uU (p:ah) (x:ai):(List Int)→St:=
  fun u0=>(Wv u0 p x)
def CG (p:ah) (x:ai):(aM ((List Int) × Int) (Ex (List Int) Bool))→Exit→St→Prop:=
  LQ 0 [] (vo p x) (uU p x) fQ
section
variable (x:ai)
abbrev MC:Nat × TV:=(41,(vD (aK none 1 (au .i64) x.links)))
abbrev NR:Nat × TV:=(42,(vI (x.links.length:Int)))
end
def vv (p:ah) (x:ai):((List Int) × Int)→St:=
  fun zz=>match zz with|(u0,u1)=> ⟨[(3,(vP 8 0)),(5,(vP 10 0)),(sP u0),(MC x),(NR x),(43,(vI u1))],(NC u0 x p)⟩
def uJ (p:ah) (x:ai):(List Int)→St:=
  fun u0=>(Wv u0 p x)
def Dq (p:ah) (x:ai):(aM ((List Int) × Int) (Ex (List Int) Bool))→Exit→St→Prop:=
  LQ 2 [] (vv p x) (uJ p x) fQ
section
variable (x:ai) (u0:(List Int)) (p:ah) (u1:Int)
abbrev zQ:Nat × TV:=(74,(vD (aK none 2 af.cell x.racks)))
abbrev zZ:Nat × TV:=(75,(vI (x.racks.length:Int)))
abbrev CQ:List (Nat × Option Ob):=[(11,some (Bt u0))]
abbrev ZC:St:=⟨[(bn p),(sP u0),(zQ x),(zZ x),(76,(vI u1))],(CQ u0)⟩
end
def vF (p:ah) (x:ai):((List Int) × Int)→St:=
  fun zz=>match zz with|(u0,u1)=>(ZC x u0 p u1)
def uK  :(List Int)→St:=
  fun u0=> ⟨[(sP u0)],(CQ u0)⟩
def nW (p:ah) (x:ai):(aM ((List Int) × Int) (Ex (List Int) Bool))→Exit→St→Prop:=
  LQ 4 [] (vF p x) uK fQ
section
variable (x:ai) (u0:Int) (p:ah)
abbrev EI:Nat × TV:=(13,(aal x u0))
abbrev aaA:List CV:=[(cI ((GX p u0).e0)),(cI ((GX p u0).e1))]
abbrev Fb:Nat × TV:=(86,(.v (.agg (aaA u0 p))))
end
def uM (p:ah) (x:ai) (u0:Int):((List Int) × Int)→St:=
  fun zz=>match zz with|(u1,u2)=> ⟨[(bn p),(sP u1),(EI x u0),(zQ x),(zZ x),(76,(vI u0)),(Fb u0 p),(87,(vI u2))],(CQ u1)⟩
def vz (p:ah) (x:ai) (u1:Int):(List Int)→St:=
  fun u0=>(ZC x u0 p u1)
def Df (p:ah) (x:ai) (u0:Int):(aM ((List Int) × Int) (Ex (List Int) (aM ((List Int) × Int) (Ex (List Int) Bool))))→Exit→St→Prop:=
  LQ 6 [5] (uM p x u0) (vz p x u0) (nW p x)
section
variable (p:ah) (x:ai) (u6:(List Int)) (u5:Int) (u2:(List Int)) (u1:Int) (u7:(List Int)) (u0:Int) (u4:Int) (u3:(List Int))
abbrev OB:=(List.replicate p.buses.toNat (0:Int))
abbrev adW:List (Nat × Option Ob):=[(LC p),(Li x),(11,some (cu 3 1 (au .i64) (OB p)))]
abbrev Zz:=(u6.set (((at' p.sources u5.toNat).bus).toNat) (IntKind.wrap .i64 ((at' u6 (((at' p.sources u5.toNat).bus).toNat))+(at' x.sources u5.toNat))))
abbrev aa8:=(aC (au .i64) (Zz p x u6 u5))
abbrev aeE:Nat × TV:=(7,(vO 11 true ((Zz p x u6 u5).length)))
abbrev ab0:List (Nat × Option Ob):=[(LC p),(Li x),(11,some (cu 3 1 (au .i64) (Zz p x u6 u5)))]
abbrev afF:List (Nat × TV):=[(3,(vP 8 0)),(5,(vP 10 0)),(sP u2),(10,(vI u1)),(11,(vI (at' x.links u1.toNat))),(MC x),(NR x),(43,(vI u1))]
abbrev PX:=(u2.set (((at' p.links u1.toNat).a).toNat) (IntKind.wrap .i64 ((at' u2 (((at' p.links u1.toNat).a).toNat)) - (at' x.links u1.toNat))))
abbrev WA:=(aC (au .i64) (PX p x u2 u1))
abbrev afS:Nat × TV:=(7,(vO 11 true ((PX p x u2 u1).length)))
abbrev afD:=(IntKind.wrap .i64 ((at' (PX p x u2 u1) (((at' p.links u1.toNat).b).toNat))+(at' x.links u1.toNat)))
abbrev YV:=((PX p x u2 u1).set (((at' p.links u1.toNat).b).toNat) (afD p x u2 u1))
abbrev aag:=(aC (au .i64) (YV p x u2 u1))
abbrev adj:Nat × TV:=(7,(vO 11 true ((YV p x u2 u1).length)))
abbrev agk:List (Nat × Option Ob):=[(LC p),(Li x),(11,some (cu 3 1 (au .i64) (YV p x u2 u1)))]
abbrev aeg:List (Nat × TV):=[(bn p),(sP u7),(EI x u0),(zQ x),(zZ x),(76,(vI u0)),(Fb u0 p),(87,(vI 0))]
abbrev VF:=(at' [(GX p u0).e0,(GX p u0).e1] u4.toNat)
abbrev Wt:Nat × TV:=(15,(vI (VF p u0 u4)))
abbrev YR:Nat × TV:=(92,(vB (decide (0≤(VF p u0 u4)))))
abbrev QL:=((VF p u0 u4).toNat)
abbrev adi:=(IntKind.wrap .i64 ((at' u3 (QL p u0 u4)) - ((at' x.racks u0.toNat).e0)))
abbrev Zc:=(u3.set (QL p u0 u4) (adi p x u0 u4 u3))
abbrev YF:=(aC (au .i64) (Zc p x u0 u4 u3))
abbrev agD:Nat × TV:=(7,(vO 11 true ((Zc p x u0 u4 u3).length)))
abbrev af3:List (Nat × Option Ob):=[(11,some (cu 3 1 (au .i64) (Zc p x u0 u4 u3)))]
abbrev acE:=(IntKind.wrap .i64 ((at' u3 (QL p u0 u4)) - ((at' x.racks u0.toNat).e1)))
abbrev aat:=(u3.set (QL p u0 u4) (acE p x u0 u4 u3))
abbrev aav:=(aC (au .i64) (aat p x u0 u4 u3))
abbrev aeZ:Nat × TV:=(7,(vO 11 true ((aat p x u0 u4 u3).length)))
abbrev agw:List (Nat × Option Ob):=[(11,some (cu 3 1 (au .i64) (aat p x u0 u4 u3)))]
end
theorem Cv (p:ah) (s_:State) (x:ai) {r:Bool} (h:kJ p s_ x=some r):Fn Try.prog 130 (XE p s_ x) [] (vB r) []:=by
 refine fN tT Try.func130 rfl rfl fun B=> ?_
 show bJ _ _ _ _ _ _ (fQ r) _
 unfold kJ at h
 refine sz tT ⟨[(3,(vP 8 0)),(5,(vP 10 0))],[(LC p),(Li x)]⟩ {fr:=[(0,8),(1,9),(2,10)] } [] ?_
 refine aQ (aO h fun⟨a1,a2,a3⟩ h=> ?_)
 refine rg tT ⟨[(3,(vP 8 0)),(5,(vP 10 0)),(7,(vO 11 true ((OB p).length)))],(adW p x)⟩ [_,(p.buses:Int)=p.buses,_,_,(OB p).length=p.buses.toNat,aG p.buses.toNat 1 (fun _ j=>[(.int .i64 0)].getD j .nilp) (aC (au .i64) (OB p))] {an:=[(2, .arr (OB p).length (aC (au .i64) (OB p)))],fr:=[(2,11)] } [] ⟨a1,rfl,a2,a3,(List.length_replicate),(dQ _ _ _ _ _ (fun j hj=>(match j,hj with|0,_=>rfl))),trivial⟩ ?_
 refine aQ (sz tT ⟨[(3,(vP 8 0)),(5,(vP 10 0)),(7,(vO 11 true ((OB p).length))),(Sj x),(Ro x),(22,(vI 0))],(adW p x)⟩ {} [] ?_)
 refine bE h fun y hy h=> ?_
 refine aL [] (vo p x) (uU p x) fQ hy (fun s f h=> ?_) ?_
 ·clear hy
  show bJ _ _ _ _ _ _ ((CG p x) f) _
  unfold iR at h
  obtain⟨u6,u5⟩:=s
  refine sz tT ⟨[(3,(vP 8 0)),(5,(vP 10 0)),(sP u6),(Sj x),(Ro x),(22,(vI u5)),(23,(vB (decide (u5<(x.sources.length:Int)))))],(NC u6 x p)⟩ {} [] ?_
  refine aQ ?_
  refine bI h (fun hb h=> ?_) (fun hb h=> ?_)
  ·refine ct hb ?_
   refine aP (aQ (aB (aQ (aO h fun a1 h=> ?_))))
   refine rg tT ⟨[(3,(vP 8 0)),(5,(vP 10 0)),(sP u6),(8,(vI u5)),(9,(vI (at' x.sources u5.toNat))),(Sj x),(Ro x),(22,(vI u5))],(NC u6 x p)⟩ [_] {} [] ⟨a1,trivial⟩ ?_
   refine aO h fun⟨a1,a2⟩ h=> ?_
   refine ri tT ⟨(ae3 u6 x u5),[(LC p),(Li x),(11,some (.arr 3 1 u6.length (aa8 p x u6 u5)))]⟩ [_,_,_,_,_,aG u6.length 1 (jZ (aC (au .i64) u6) (((at' p.sources u5.toNat).bus).toNat) 0 [(.int .i64 (IntKind.wrap .i64 ((at' u6 (((at' p.sources u5.toNat).bus).toNat))+(at' x.sources u5.toNat))))]) (aa8 p x u6 u5)] {an:=[(12, .arr 0 (aa8 p x u6 u5))] } [] ⟨a1,a2,(tL a2),a2,(tL a2),(bL _ _ _ _ _ _ _ _ rfl (fun j hj=>(match j,hj with|0,_=>rfl))),trivial⟩ (bM.le (st':=⟨[(3,(vP 8 0)),(5,(vP 10 0)),(aeE p x u6 u5),(Sj x),(Ro x),(22,(vI u5))],(ab0 p x u6 u5)⟩) ⟨⟨tR,tR,⟨_,rfl,eO.v (eG.one cW)⟩,tR,tR,tR,trivial⟩,(hN 2 ⟨rfl,oW,trivial⟩)⟩) ?_
   refine rz tT ⟨[(3,(vP 8 0)),(5,(vP 10 0)),(aeE p x u6 u5),(Sj x),(Ro x),(22,(k3 u5))],(ab0 p x u6 u5)⟩ {} [] ?_
   obtain rfl:=oi h
   exact lN
  ·refine cf hb ?_
   refine aI (fz (Wv u6 p x) []) ?_
   refine aX ?_
   obtain rfl:=oi h
   exact lB
 ·clear hy
  cases y with
  |brk z=>
   obtain⟨u8,rfl⟩: ∃q,q=z:=⟨_,rfl⟩
   unfold gm
   refine⟨_, .refl, ?_⟩
   refine aQ (sz tT ⟨[(3,(vP 8 0)),(5,(vP 10 0)),(sP u8),(MC x),(NR x),(43,(vI 0))],(NC u8 x p)⟩ {} [] ?_)
   refine bE h fun y1 hy h=> ?_
   refine aL [] (vv p x) (uJ p x) fQ hy (fun s f h=> ?_) ?_
   ·clear hy
    show bJ _ _ _ _ _ _ ((Dq p x) f) _
    unfold iQ at h
    obtain⟨u2,u1⟩:=s
    refine sz tT ⟨[(3,(vP 8 0)),(5,(vP 10 0)),(sP u2),(MC x),(NR x),(43,(vI u1)),(44,(vB (decide (u1<(x.links.length:Int)))))],(NC u2 x p)⟩ {} [] ?_
    refine aQ ?_
    refine bI h (fun hb1 h=> ?_) (fun hb1 h=> ?_)
    ·refine ct hb1 ?_
     refine aP (aQ (aB (aQ (aO h fun a1 h=> ?_))))
     refine rg tT ⟨(afF x u2 u1),(NC u2 x p)⟩ [_] {} [] ⟨a1,trivial⟩ ?_
     refine aQ (aO h fun⟨a1,a2⟩ h=> ?_)
     refine ri tT ⟨(afF x u2 u1),[(LC p),(Li x),(11,some (.arr 3 1 u2.length (WA p x u2 u1)))]⟩ [_,_,_,_,_,aG u2.length 1 (jZ (aC (au .i64) u2) (((at' p.links u1.toNat).a).toNat) 0 [(.int .i64 (IntKind.wrap .i64 ((at' u2 (((at' p.links u1.toNat).a).toNat)) - (at' x.links u1.toNat))))]) (WA p x u2 u1)] {an:=[(12, .arr 0 (WA p x u2 u1))] } [] ⟨a1,a2,(tL a2),a2,(tL a2),(bL _ _ _ _ _ _ _ _ rfl (fun j hj=>(match j,hj with|0,_=>rfl))),trivial⟩ (bM.le (st':=⟨[(3,(vP 8 0)),(5,(vP 10 0)),(afS p x u2 u1),(10,(vI u1)),(11,(vI (at' x.links u1.toNat))),(MC x),(NR x),(43,(vI u1))],[(LC p),(Li x),(11,some (cu 3 1 (au .i64) (PX p x u2 u1)))]⟩) ⟨⟨tR,tR,⟨_,rfl,eO.v (eG.one cW)⟩,tR,tR,tR,tR,tR,trivial⟩,(hN 2 ⟨rfl,oW,trivial⟩)⟩) ?_
     refine aO h fun⟨a1,a2⟩ h=> ?_
     refine ri tT ⟨[(3,(vP 8 0)),(5,(vP 10 0)),(afS p x u2 u1),(MC x),(NR x),(43,(vI u1))],[(LC p),(Li x),(11,some (.arr 3 1 (PX p x u2 u1).length (aag p x u2 u1)))]⟩ [_,_,_,_,_,aG (PX p x u2 u1).length 1 (jZ (WA p x u2 u1) (((at' p.links u1.toNat).b).toNat) 0 [(.int .i64 (afD p x u2 u1))]) (aag p x u2 u1)] {an:=[(12, .arr 0 (aag p x u2 u1))] } [] ⟨a1,a2,(tL a2),a2,(tL a2),(bL _ _ _ _ _ _ _ _ rfl (fun j hj=>(match j,hj with|0,_=>rfl))),trivial⟩ (bM.le (st':=⟨[(3,(vP 8 0)),(5,(vP 10 0)),(adj p x u2 u1),(MC x),(NR x),(43,(vI u1))],(agk p x u2 u1)⟩) ⟨⟨tR,tR,⟨_,rfl,eO.v (eG.one cW)⟩,tR,tR,tR,trivial⟩,(hN 2 ⟨rfl,oW,trivial⟩)⟩) ?_
     refine rz tT ⟨[(3,(vP 8 0)),(5,(vP 10 0)),(adj p x u2 u1),(MC x),(NR x),(43,(k3 u1))],(agk p x u2 u1)⟩ {} [] ?_
     obtain rfl:=oi h
     exact lN
    ·refine cf hb1 ?_
     refine aI (fz (Wv u2 p x) []) ?_
     refine aX ?_
     obtain rfl:=oi h
     exact lB
   ·clear hy
    cases y1 with
    |brk z=>
     obtain⟨u9,rfl⟩: ∃q,q=z:=⟨_,rfl⟩
     unfold gm
     refine⟨_, .refl, ?_⟩
     refine aQ (sz tT ⟨[(bn p),(sP u9),(zQ x),(zZ x),(76,(vI 0))],(CQ u9)⟩ {} [8] ?_)
     refine bE h fun y3 hy h=> ?_
     refine aL [] (vF p x) uK fQ hy (fun s f h=> ?_) ?_
     ·clear hy
      show bJ _ _ _ _ _ _ ((nW p x) f) _
      unfold ja at h
      obtain⟨u7,u0⟩:=s
      refine sz tT ⟨[(bn p),(sP u7),(zQ x),(zZ x),(76,(vI u0)),(77,(vB (decide (u0<(x.racks.length:Int)))))],(CQ u7)⟩ {} [] ?_
      refine aQ ?_
      refine bI h (fun hb6 h=> ?_) (fun hb6 h=> ?_)
      ·refine ct hb6 ?_
       refine aP (aQ (aB (aQ (aO h fun a1 h=> ?_))))
       refine rg tT ⟨[(bn p),(sP u7),(12,(vI u0)),(EI x u0),(zQ x),(zZ x),(76,(vI u0))],(CQ u7)⟩ [_] {fr:=[(3,15)] } [15] ⟨a1,trivial⟩ ?_
       refine aQ (aO h fun a1 h=> ?_)
       refine rg tT ⟨(aeg p x u7 u0),(CQ u7)⟩ [_] {} [] ⟨a1,trivial⟩ ?_
       refine bE h fun y2 hy h=> ?_
       refine aL [5] (uM p x u0) (vz p x u0) (nW p x) hy (fun s f h=> ?_) ?_
       ·clear hy
        show bJ _ _ _ _ _ _ ((Df p x u0) f) _
        unfold dM at h
        obtain⟨u3,u4⟩:=s
        refine sz tT ⟨[(bn p),(sP u3),(EI x u0),(zQ x),(zZ x),(76,(vI u0)),(Fb u0 p),(87,(vI u4)),(88,(vB (decide (u4<2))))],(CQ u3)⟩ {} [] ?_
        refine aQ ?_
        refine bI h (fun hb5 h=> ?_) (fun hb5 h=> ?_)
        ·refine ct hb5 ?_
         refine aP (aQ (aB (aQ (aO h fun a1 h=> ?_))))
         refine rg tT ⟨[(bn p),(sP u3),(EI x u0),(14,(vI u4)),(Wt p u0 u4),(zQ x),(zZ x),(76,(vI u0)),(Fb u0 p),(87,(vI u4))],(CQ u3)⟩ [_,u4.toNat*1+1≤(aaA u0 p).length,((aaA u0 p).drop (u4.toNat*1)).take 1=[(.int .i64 (VF p u0 u4))].map .d] {an:=[(1, .vals [(.int .i64 (VF p u0 u4))])] } [] ⟨a1,(Uo (n:=2) (sz:=1) (Nat.le_refl _) a1),(Ub (n:=2) (sz:=1) (g:=fun q=>[(cI (at' [(GX p u0).e0,(GX p u0).e1] q))]) (by intro q hq;match q,hq with|0,_=>rfl|1,_=>rfl) a1),trivial⟩ ?_
         refine sz tT ⟨[(bn p),(sP u3),(EI x u0),(14,(vI u4)),(Wt p u0 u4),(zQ x),(zZ x),(76,(vI u0)),(Fb u0 p),(87,(vI u4)),(YR p u0 u4)],(CQ u3)⟩ {} [] ?_
         refine bI h (fun hb4 h=> ?_) (fun hb4 h=> ?_)
         ·refine ct hb4 ?_
          refine bI h (fun hb2 h=> ?_) (fun _ h=> ?_)
          ·skip
           refine aI (bM.le (st':=⟨[(bn p),(sP u3),(EI x u0),(14,(vI 0)),(Wt p u0 u4),(zQ x),(zZ x),(76,(vI u0)),(Fb u0 p),(87,(vI 0)),(YR p u0 u4)],(CQ u3)⟩) ⟨⟨tR,tR,tR,⟨_,rfl,eO.v (eG.one (dO.of (congrArg (fun n=>CV.d (.int .i64 n)) (of_decide_eq_true hb2))))⟩,tR,tR,tR,tR,tR,⟨_,rfl,eO.v (eG.one (dO.of (congrArg (fun n=>CV.d (.int .i64 n)) (of_decide_eq_true hb2))))⟩,tR,trivial⟩,(.refl _)⟩) ?_
           refine aO h fun a1 h=> ?_
           refine di tT mX ⟨(aeg p x u3 u0),[(11,some (.arr 3 1 u3.length (YF p x u0 u4 u3)))]⟩ [_,_,(0:Int)≤0∧(0:Int)<(2:Nat),_,_,aG u3.length 1 (jZ (aC (au .i64) u3) (QL p u0 u4) 0 [(.int .i64 (adi p x u0 u4 u3))]) (YF p x u0 u4 u3)] {an:=[(9, .arr 0 (YF p x u0 u4 u3))] } [] ⟨a1,(tL a1),((by decide)),a1,(tL a1),(bL _ _ _ _ _ _ _ _ rfl (fun j hj=>(match j,hj with|0,_=>rfl))),trivial⟩ (bM.le (st':=⟨[(bn p),(agD p x u0 u4 u3),(EI x u0),(zQ x),(zZ x),(76,(vI u0)),(Fb u0 p),(87,(vI 0))],(af3 p x u0 u4 u3)⟩) ⟨⟨tR,⟨_,rfl,eO.v (eG.one cW)⟩,tR,tR,tR,tR,tR,tR,trivial⟩,⟨rfl,oW,trivial⟩⟩) ?_
           refine rz tT ⟨[(bn p),(agD p x u0 u4 u3),(EI x u0),(zQ x),(zZ x),(76,(vI u0)),(Fb u0 p),(87,(vI 1))],(af3 p x u0 u4 u3)⟩ {} [] ?_
           obtain rfl:=oi h
           exact lN
          ·skip
           refine aO h fun a1 h=> ?_
           refine aI (bM.le (st':=⟨[(bn p),(sP u3),(EI x u0),(14,(vI 1)),(Wt p u0 u4),(zQ x),(zZ x),(76,(vI u0)),(Fb u0 p),(87,(vI 1)),(YR p u0 u4)],(CQ u3)⟩) ⟨⟨tR,tR,tR,⟨_,rfl,eO.v (eG.one (dO.of (congrArg (fun n=>CV.d (.int .i64 n)) a1)))⟩,tR,tR,tR,tR,tR,⟨_,rfl,eO.v (eG.one (dO.of (congrArg (fun n=>CV.d (.int .i64 n)) a1)))⟩,tR,trivial⟩,(.refl _)⟩) ?_
           refine aO h fun a1 h=> ?_
           refine di tT mX ⟨[(bn p),(sP u3),(EI x u0),(zQ x),(zZ x),(76,(vI u0)),(Fb u0 p),(87,(vI 1))],[(11,some (.arr 3 1 u3.length (aav p x u0 u4 u3)))]⟩ [_,_,(0:Int)≤1∧(1:Int)<(2:Nat),_,_,aG u3.length 1 (jZ (aC (au .i64) u3) (QL p u0 u4) 0 [(.int .i64 (acE p x u0 u4 u3))]) (aav p x u0 u4 u3)] {an:=[(9, .arr 0 (aav p x u0 u4 u3))] } [] ⟨a1,(tL a1),((by decide)),a1,(tL a1),(bL _ _ _ _ _ _ _ _ rfl (fun j hj=>(match j,hj with|0,_=>rfl))),trivial⟩ (bM.le (st':=⟨[(bn p),(aeZ p x u0 u4 u3),(EI x u0),(zQ x),(zZ x),(76,(vI u0)),(Fb u0 p),(87,(vI 1))],(agw p x u0 u4 u3)⟩) ⟨⟨tR,⟨_,rfl,eO.v (eG.one cW)⟩,tR,tR,tR,tR,tR,tR,trivial⟩,⟨rfl,oW,trivial⟩⟩) ?_
           refine rz tT ⟨[(bn p),(aeZ p x u0 u4 u3),(EI x u0),(zQ x),(zZ x),(76,(vI u0)),(Fb u0 p),(87,(vI 2))],(agw p x u0 u4 u3)⟩ {} [] ?_
           obtain rfl:=oi h
           exact lN
         ·refine cf hb4 ?_
          refine aP (rz tT ⟨[(bn p),(sP u3),(EI x u0),(zQ x),(zZ x),(76,(vI u0)),(Fb u0 p),(87,(k3 u4))],(CQ u3)⟩ {} [] ?_)
          obtain rfl:=oi h
          exact lN
        ·refine cf hb5 ?_
         refine aI (fz (ZC x u3 p u0) []) ?_
         refine aX ?_
         obtain rfl:=oi h
         exact lB
       ·clear hy
        cases y2 with
        |brk z=>
         obtain⟨v0,rfl⟩: ∃q,q=z:=⟨_,rfl⟩
         unfold gm
         refine⟨_, .refl, ?_⟩
         refine rz tT ⟨[(bn p),(sP v0),(zQ x),(zZ x),(76,(k3 u0))],(CQ v0)⟩ {} [] ?_
         obtain rfl:=oi h
         exact lN
        |ret v=>
         obtain rfl:=oi h
         unfold gm
         intro e st hn ha hR
         cases e with
         |normal=>exact absurd rfl hn
         |exit id=>simp only [qA (b:=5) ha rfl,cond_false];exact hR
         |goto l=>exact hR
         |ret=>exact hR
         |panic c=>exact hR
         |outgrown=>exact hR
      ·refine cf hb6 ?_
       refine aI (fz ⟨[(sP u7)],(CQ u7)⟩ []) ?_
       refine aX ?_
       obtain rfl:=oi h
       exact lB
     ·clear hy
      cases y3 with
      |brk z=>
       obtain⟨v1,rfl⟩: ∃q,q=z:=⟨_,rfl⟩
       unfold gm
       refine⟨_, .refl, ?_⟩
       refine aQ (bE h fun r_ hr_ h=> ?_)
       have q0:=rk [(0,11)] (rf v1 hr_)
       refine rg tT ⟨[(6,(vB (!r_)))],[]⟩ [_] {an:=[(1,cR q0 [11])] } [] ⟨q0,trivial⟩ ?_
       refine aR ?_
       obtain rfl:=oi h
       exact rl [(sB (!r_))]
      |ret v=>
       obtain rfl:=oi h
       unfold gm
       intro e st hn ha hR
       cases e with
       |normal=>exact absurd rfl hn
       |exit id=>exact hR
       |goto l=>exact hR
       |ret=>exact hR
       |panic c=>exact hR
       |outgrown=>exact hR
    |ret v=>
     obtain rfl:=oi h
     unfold gm
     intro e st hn ha hR
     cases e with
     |normal=>exact absurd rfl hn
     |exit id=>exact hR
     |goto l=>exact hR
     |ret=>exact hR
     |panic c=>exact hR
     |outgrown=>exact hR
  |ret v=>
   obtain rfl:=oi h
   unfold gm
   intro e st hn ha hR
   cases e with
   |normal=>exact absurd rfl hn
   |exit id=>exact hR
   |goto l=>exact hR
   |ret=>exact hR
   |panic c=>exact hR
   |outgrown=>exact hR
def z8  :Int→Exit→St→Prop:=
  fun r=>bB TT [.tmp 6] (vI r) []
section
variable (x:ai) (p:ah)
abbrev aa9:=(!decide ((x.sources.length:Int)=(p.sources.length:Int)))
abbrev ZW:=(bif (aa9 x p)then true else(!decide ((x.links.length:Int)=(p.links.length:Int))))
abbrev DZ:List (Nat × Option Ob):=[(10,some aaf)]
end
theorem zw (p:ah) (s_:State) (x:ai) {r:Int} (h:iD p s_ x=some r):Fn Try.prog 48 (XE p s_ x) [] (vI r) []:=by
 refine fN tT Try.func48 rfl rfl fun B=> ?_
 show bJ _ _ _ _ _ _ (z8 r) _
 unfold iD at h
 refine sz tT (Xm p s_ x) {fr:=[(0,7),(1,8),(2,9)] } [7,8,9] ?_
 refine aQ (aQ (bE h fun r_ hr_ h=> ?_))
 have q0:=eH p s_ hr_
 refine rg tT ⟨[(bn p),(aV s_),(tN x),(7,(vI r_))],[]⟩ [_] {an:=[(2,cA q0 [])] } [] ⟨q0,trivial⟩ ?_
 refine sz tT ⟨[(bn p),(aV s_),(tN x),(7,(vI r_)),(14,(vB (!decide (r_=0))))],[]⟩ {} [] ?_
 refine bI h (fun hb4 h=> ?_) (fun hb4 h=> ?_)
 ·refine ct hb4 ?_
  refine sz tT ⟨[(6,(vI r_))],[]⟩ {} [] ?_
  refine aR ?_
  obtain rfl:=oi h
  exact rl [(sI r_)]
 ·refine cf hb4 ?_
  refine aP (aQ (sg tT ⟨[(bn p),(aV s_),(tN x),(40,(vB (bif (ZW x p)then true else(!decide ((x.racks.length:Int)=(p.racks.length:Int))))))],[]⟩ (eqs (aa9 x p) 8 (eqs (ZW x p) 8 [])) {yb:=[(7,(aa9 x p)),(16,(ZW x p))] } [] (ae (ae trivial)) ?_))
  refine bI h (fun hb3 h=> ?_) (fun hb3 h=> ?_)
  ·refine ct hb3 ?_
   refine sz tT ⟨[(6,(vI 20))],[]⟩ {} [] ?_
   refine aR ?_
   obtain rfl:=oi h
   exact rl [(sI 20)]
  ·refine cf hb3 ?_
   refine aP (aQ (aQ (bE h fun u3 hr_1 h=> ?_)))
   have q0:=rk [(0,10)] (Cu hr_1)
   refine rg tT ⟨[(bn p),(aV s_),(tN x),(41,(vO 10 true 3)),(42,(vI (3:Int))),(43,(vI 0))],DZ⟩ [_] {an:=[(0,cA q0 [])] } [] ⟨q0,trivial⟩ ?_
   refine aB (Rj 12 (yS 11 (sz tT ⟨[(bn p),(aV s_),(tN x),(41,(vO 10 true 3)),(42,(vI (3:Int))),(43,(vI 0)),(44,(vB true))],DZ⟩ {} [] ?_)))
   refine aQ (ck (aP (aQ (aB (aQ (aO h fun a1 h=> ?_))))))
   refine rg tT ⟨[(bn p),(aV s_),(tN x),(9,(vD (lV [(.fn 128 0 (nN []))] 0))),(41,(vO 10 true 3)),(42,(vI (3:Int))),(43,(vI 0))],DZ⟩ [_] {fr:=[(2,11)] } [11] ⟨a1,trivial⟩ ?_
   refine aQ (bE h fun u0 hr_2 h=> ?_)
   have q0:=DY p s_ x hr_2
   refine rg tT ⟨[(bn p),(aV s_),(tN x),(41,(vO 10 true 3)),(42,(vI (3:Int))),(43,(vI 0)),(53,(vB (!u0)))],DZ⟩ [_] {an:=[(5,cA q0 [])] } [] ⟨q0,trivial⟩ ?_
   refine bI h (fun hb2 h=> ?_) (fun hb2 h=> ?_)
   ·refine ct hb2 ?_
    refine sz tT ⟨[(6,(vI 20))],[]⟩ {} [] ?_
    refine aR ?_
    obtain rfl:=oi h
    exact rl [(sI 20)]
   ·refine cf hb2 ?_
    refine aP (rz tT ⟨[(bn p),(aV s_),(tN x),(41,(vO 10 true 3)),(42,(vI (3:Int))),(43,(vI 1))],DZ⟩ {} [] ?_)
    refine yS 10 (sz tT ⟨[(bn p),(aV s_),(tN x),(41,(vO 10 true 3)),(42,(vI (3:Int))),(43,(vI 1)),(44,(vB true))],DZ⟩ {} [] ?_)
    refine aQ (ck (aP (aQ (aB (aQ (aO h fun a1 h=> ?_))))))
    refine rg tT ⟨[(bn p),(aV s_),(tN x),(9,(vD (lV [(.fn 129 0 (nN []))] 0))),(41,(vO 10 true 3)),(42,(vI (3:Int))),(43,(vI 1))],DZ⟩ [_] {fr:=[(2,12)] } [12] ⟨a1,trivial⟩ ?_
    refine aQ (bE h fun u1 hr_3 h=> ?_)
    have q0:=GZ p s_ x hr_3
    refine rg tT ⟨[(bn p),(aV s_),(tN x),(41,(vO 10 true 3)),(42,(vI (3:Int))),(43,(vI 1)),(53,(vB (!u1)))],DZ⟩ [_] {an:=[(5,cA q0 [])] } [] ⟨q0,trivial⟩ ?_
    refine bI h (fun hb1 h=> ?_) (fun hb1 h=> ?_)
    ·refine ct hb1 ?_
     refine sz tT ⟨[(6,(vI 20))],[]⟩ {} [] ?_
     refine aR ?_
     obtain rfl:=oi h
     exact rl [(sI 20)]
    ·refine cf hb1 ?_
     refine aP (rz tT ⟨[(bn p),(aV s_),(tN x),(41,(vO 10 true 3)),(42,(vI (3:Int))),(43,(vI 2))],DZ⟩ {} [] ?_)
     refine yS 9 (sz tT ⟨[(bn p),(aV s_),(tN x),(41,(vO 10 true 3)),(42,(vI (3:Int))),(43,(vI 2)),(44,(vB true))],DZ⟩ {} [] ?_)
     refine aQ (ck (aP (aQ (aB (aQ (aO h fun a1 h=> ?_))))))
     refine rg tT ⟨[(bn p),(aV s_),(tN x),(9,(vD (lV [(.fn 130 0 (nN []))] 0))),(41,(vO 10 true 3)),(42,(vI (3:Int))),(43,(vI 2))],DZ⟩ [_] {fr:=[(2,13)] } [13] ⟨a1,trivial⟩ ?_
     refine aQ (bE h fun u2 hr_4 h=> ?_)
     have q0:=Cv p s_ x hr_4
     refine rg tT ⟨[(bn p),(aV s_),(tN x),(41,(vO 10 true 3)),(42,(vI (3:Int))),(43,(vI 2)),(53,(vB (!u2)))],DZ⟩ [_] {an:=[(5,cA q0 [])] } [] ⟨q0,trivial⟩ ?_
     refine bI h (fun hb h=> ?_) (fun hb h=> ?_)
     ·refine ct hb ?_
      refine sz tT ⟨[(6,(vI 20))],[]⟩ {} [] ?_
      refine aR ?_
      obtain rfl:=oi h
      exact rl [(sI 20)]
     ·refine cf hb ?_
      refine aP (rz tT ⟨[(bn p),(aV s_),(tN x),(41,(vO 10 true 3)),(42,(vI (3:Int))),(43,(vI 3))],DZ⟩ {} [] ?_)
      refine yS 8 (sz tT ⟨[(bn p),(aV s_),(tN x),(41,(vO 10 true 3)),(42,(vI (3:Int))),(43,(vI 3)),(44,(vB false))],DZ⟩ {} [] ?_)
      refine aQ (cn (aX (sz tT ⟨[(6,(vI 0))],[]⟩ {} [] ?_)))
      refine aR ?_
      obtain rfl:=oi h
      exact rl [(sI 0)]
def E9  :Int→Exit→St→Prop:=
  fun r=>bB TT [.tmp 8] (vI r) []
section
variable (p:ah) (s_:State) (x:ai)
abbrev Zp:Nat × TV:=(4,(k9 p))
abbrev aaD:Nat × TV:=(5,(k74 s_))
abbrev Ws:Nat × TV:=(6,(agm x))
end
theorem jw (p:ah) (s_:State) (x:ai) (u1:(List Bool)) {r:Int} (h:eY p s_ x u1=some r):Fn Try.prog 49 [(.agg (k5 p)),(.agg (SG s_)),(.agg (XT x)),(sD (aK none 1 aj u1))] [] (vI r) []:=by
 refine fN tT Try.func49 rfl rfl fun B=> ?_
 show bJ _ _ _ _ _ _ (E9 r) _
 unfold eY at h
 refine sz tT ⟨[(3,(vD (aK none 1 aj u1))),(Zp p),(aaD s_),(Ws x)],[]⟩ {fr:=[(0,3),(1,4),(2,5)] } [3,4,5] ?_
 refine aQ (aQ (bE h fun r_ hr_ h=> ?_))
 have q0:=zw p s_ x hr_
 refine rg tT ⟨[(3,(vD (aK none 1 aj u1))),(Zp p),(aaD s_),(Ws x),(9,(vI r_))],[]⟩ [_] {an:=[(3,cA q0 [])] } [] ⟨q0,trivial⟩ ?_
 refine sz tT ⟨[(3,(vD (aK none 1 aj u1))),(Zp p),(aaD s_),(Ws x),(9,(vI r_)),(17,(vB (!decide (r_=0))))],[]⟩ {} [] ?_
 refine bI h (fun hb1 h=> ?_) (fun hb1 h=> ?_)
 ·refine ct hb1 ?_
  refine sz tT ⟨[(8,(vI r_))],[]⟩ {} [] ?_
  refine aR ?_
  obtain rfl:=oi h
  exact rl [(sI r_)]
 ·refine cf hb1 ?_
  refine aP (aQ (bE h fun u0 hr_1 h=> ?_))
  have q0:=ol p s_ u1 hr_1
  refine rg tT ⟨[(Ws x),(10,(vI u0.1)),(11,(vI u0.2))],[]⟩ [_] {an:=[(3,cA q0 [])] } [] ⟨q0,trivial⟩ ?_
  refine aQ (aQ (bE h fun u2 hr_2 h=> ?_))
  refine rg tT ⟨[(11,(vI u0.2)),(33,(vB (bif (decide (u0.2=0))then(!decide (u0.1=u2))else false)))],[]⟩ (eqs (decide (u0.2=0)) 3 ((gP (jl [(2,(decide (u0.2=0)))]) [(2,true)]→All [Fn Try.prog 41 (ae9 x) [] (vI u2) []])::(eqs (decide (u0.2=0)) 2 []))) {yb:=[(2,(decide (u0.2=0)))],an:=[(5, .call [] (vI u2) [])] } [] (ae ⟨(fun hg=> ⟨(dA x (gI hr_2 (aZ hg))),trivial⟩),(ae trivial)⟩) ?_
  refine bI h (fun hb h=> ?_) (fun hb h=> ?_)
  ·refine ct hb ?_
   refine rz tT ⟨[(11,(vI 7))],[]⟩ {} [] ?_
   refine sz tT ⟨[(8,(vI 7))],[]⟩ {} [] ?_
   refine aR ?_
   obtain rfl:=oi h
   exact rl [(sI 7)]
  ·refine cf hb ?_
   refine aP (sz tT ⟨[(8,(vI u0.2))],[]⟩ {} [] ?_)
   refine aR ?_
   obtain rfl:=oi h
   exact rl [(sI u0.2)]
def qC  :Bool→Exit→St→Prop:=
  fun r=>bB TT [.tmp 4] (vB r) []
def vZ (a:(List Int)) (b:(List Int)):Int→St:=
  fun i=> ⟨[(jX a),(Bv b),(5,(vI i))],[]⟩
def vQ  :Unit→St:=
  fun _=> ⟨[],[]⟩
def EJ (a:(List Int)) (b:(List Int)):(aM Int (Ex Unit Bool))→Exit→St→Prop:=
  LQ 0 [] (vZ a b) vQ qC
theorem dG (a:(List Int)) (b:(List Int)) {r:Bool} (h:dJ a b=some r):Fn Try.prog 54 [(sD (yN a)),(sD (yN b))] [] (vB r) []:=by
 refine fN tT Try.func54 rfl rfl fun B=> ?_
 show bJ _ _ _ _ _ _ (qC r) _
 unfold dJ at h
 refine sz tT (WU a b) {} [] ?_
 refine aQ (sz tT ⟨[(jX a),(Bv b),(10,(vB (!decide ((a.length:Int)=(b.length:Int)))))],[]⟩ {} [] ?_)
 refine bI h (fun hb2 h=> ?_) (fun hb2 h=> ?_)
 ·refine ct hb2 ?_
  refine sz tT ⟨[(4,(vB false))],[]⟩ {} [] ?_
  refine aR ?_
  obtain rfl:=oi h
  exact rl [(sB false)]
 ·refine cf hb2 ?_
  refine aP (aQ (sz tT ⟨[(jX a),(Bv b),(5,(vI 0))],[]⟩ {} [] ?_))
  refine bE h fun y hy h=> ?_
  refine aL [] (vZ a b) vQ qC hy (fun s f h=> ?_) ?_
  ·clear hy
   show bJ _ _ _ _ _ _ ((EJ a b) f) _
   unfold wD at h
   obtain⟨i,rfl⟩: ∃q,q=s:=⟨_,rfl⟩
   refine aQ (sz tT ⟨[(jX a),(Bv b),(5,(vI i)),(14,(Uu i a))],[]⟩ {} [] ?_)
   refine bI h (fun hb1 h=> ?_) (fun hb1 h=> ?_)
   ·refine ct hb1 ?_
    refine aP (aQ (aB (aQ (aO h fun⟨a1,a2⟩ h=> ?_))))
    refine dg tT mX ⟨[(jX a),(Bv b),(5,(vI i)),(25,(vB (!decide ((at' a i.toNat)=(at' b i.toNat)))))],[]⟩ [_,_] {} [] ⟨a1,a2,trivial⟩ ?_
    refine bI h (fun hb h=> ?_) (fun hb h=> ?_)
    ·refine ct hb ?_
     refine sz tT ⟨[(4,(vB false))],[]⟩ {} [] ?_
     refine aR ?_
     obtain rfl:=oi h
     exact lR dY (dX 0) dW (bB.mk (.inr rfl) (p:=[]) (l:=[(sB false)]) (by kernel_rfl) trivial (eO.refl _) trivial)
    ·refine cf hb ?_
     refine aP (rz tT ⟨[(jX a),(Bv b),(k2 i)],[]⟩ {} [] ?_)
     obtain rfl:=oi h
     exact lN
   ·refine cf hb1 ?_
    refine aI (fz ⟨[],[]⟩ []) ?_
    refine aX ?_
    obtain rfl:=oi h
    exact lB
  ·clear hy
   cases y with
   |brk z=>
    unfold gm
    refine⟨_, .refl, ?_⟩
    refine sz tT ⟨[(4,(vB true))],[]⟩ {} [] ?_
    refine aR ?_
    obtain rfl:=oi h
    exact rl [(sB true)]
   |ret v=>
    obtain rfl:=oi h
    unfold gm
    intro e st hn ha hR
    cases e with
    |normal=>exact absurd rfl hn
    |exit id=>exact hR
    |goto l=>exact hR
    |ret=>exact hR
    |panic c=>exact hR
    |outgrown=>exact hR
def lX  :Bool→Exit→St→Prop:=
  fun r=>bB TT [.tmp 4] (vB r) []
section
variable (a:(List Short))
abbrev Pj:Nat × TV:=(0,(vD (aK none 4 Short.cell a)))
end
def p9 (a:(List Short)) (b:(List Short)):Int→St:=
  fun i=> ⟨[(Pj a),(G5 b),(5,(vI i))],[]⟩
def qp  :Unit→St:=
  fun _=> ⟨[],[]⟩
def zP (a:(List Short)) (b:(List Short)):(aM Int (Ex Unit Bool))→Exit→St→Prop:=
  LQ 0 [] (p9 a b) qp lX
end
end Sg
