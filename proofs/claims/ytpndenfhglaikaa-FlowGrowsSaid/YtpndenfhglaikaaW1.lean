import Derived.Test.YtpndenfhglaikaaW0
set_option linter.all false
namespace Sg
open Go Go.Proofs
set_option maxRecDepth 20000
noncomputable section
section
variable (p:ai) (s_:State) (r_:Int) (v0:Int) (v4:(Int × Network)) (v8:(List (Int × Int))) (u7:Int) (p1:(List Source)) (v5:(Int × Network)) (x0:(List Int)) (u4:(List (Int × Int))) (v9:(List (Int × Int))) (v7:Int) (u0:Int) (u2:(List ax)) (w0:Int) (x3:(Int × Network)) (p2:(List Link)) (p3:(List ax)) (x1:(List Int)) (x2:(List af)) (u5:(List (Int × Int))) (x9:(List (af × Int))) (v3:Int) (v6:(Int × Network)) (x5:(List aV)) (x6:(List (List Int))) (u1:Network) (i:Nat) (w5:(List Int)) (i1:Nat) (w6:(List Int)) (u3:(List (af × Int))) (i2:Nat) (u9:(List af))
abbrev Z9:List (Nat × Option Ob):=[(Ae p),bW]
abbrev agF:St:=⟨[(2,(vP 63 0)),(lW s_),(4,(vP 65 0))],(Z9 p)⟩
abbrev afA:St:=⟨[(2,(vP 63 0)),(lW s_),(4,(vP 65 0)),(7,(vI r_))],(Z9 p)⟩
abbrev agQ:St:=⟨[(2,(vP 63 0)),(lW s_),(4,(vP 65 0)),(7,(vI r_)),(34,(vB (!decide (r_=0))))],(Z9 p)⟩
abbrev Y2:DV:=(aG none 1 (au .i64) ([]:List Int))
abbrev Dq:DV:=(aG none 1 ah ([]:List Bool))
abbrev ajl:St:=⟨[(2,(vP 63 0)),(lW s_),(4,(vP 65 0)),(iN p)],(Z9 p)⟩
abbrev Zo:List (Nat × TV):=[(2,(vP 63 0)),(lW s_),(4,(vP 65 0)),(iN p),(9,(vP 67 0))]
abbrev Wp:=(IntKind.wrap .i64 ((IntKind.wrap .i64 ((IntKind.wrap .i64 ((1:Int)+p.buses))+(p.racks.length:Int)))+1))
abbrev R9:=((Wp p).toNat)
abbrev zo:=(List.replicate (R9 p) (([]:List Int):(List Int)))
abbrev Oz:=((zo p).length)
abbrev ake:List CV:=[(.d nS),(.own 66 true (Oz p))]
abbrev agN:Nat × Option Ob:=(67,some (.cells 161 (ake p)))
abbrev ae0:=((Wp p):Int)
abbrev ab4:=(uS oZ (zo p))
abbrev Ya:Nat × Option Ob:=(66,some (.rows 40 1 (zo p).length (ab4 p) none))
abbrev acW:Nat × Option Ob:=(67,some (.cells 161 [(.own 68 false (([]:List aV).length)),(.own 66 true (Oz p))]))
abbrev adi:Nat × Option Ob:=(68,some (bg 170 2 aV.cell ([]:List aV)))
abbrev U4:=(ay (au .i64) (NR p))
abbrev UX:=(ay af.cell (Ni p))
abbrev aiL:List (Nat × Option Ob):=[(Ae p),bW,(Ya p),(acW p),adi,(Xp p),(NA p),(LV p),(WC p),(73,some U9),XP,Nt]
abbrev Va:Nat × TV:=(15,(ag5 p v0))
abbrev aed:=(IntKind.wrap .i64 ((1:Int)+((at' p.sources v0.toNat).bus)))
abbrev PZ:Nat × Option Ob:=(66,some (.rows 40 1 v4.2.from_.length (uS oZ v4.2.from_) none))
abbrev Jq:Ob:=(TR 3 3 false false 1 1 (au .i64) (au .i64) (gN Ff v0 v4.1 v8))
abbrev yE:Ob:=(bg 170 2 aV.cell v4.2.arcs)
abbrev ah4:List (Nat × Option Ob):=[(Ae p),bW,(PZ v4),(67,some (.cells 161 [(.own 83 false v4.2.arcs.length),(.own 66 true v4.2.from_.length)])),(Xp p),(NA p),(LV p),(WC p),(73,some (Jq v0 v4 v8)),XP,Nt,(83,some (yE v4))]
abbrev IX:=(yT (au .i64) (gN Ff v0 v4.1 v8))
abbrev I9:=(yS (au .i64) (gN Ff v0 v4.1 v8))
abbrev acJ:List (Nat × TV):=[(2,(vP 63 0)),(lW s_),(4,(vP 65 0)),(iN p),(9,(vP 67 0)),(10,(vP 72 0)),rV,p9,nZ,(Bu p),(Bg p),(68,(k3 v0))]
abbrev aiT:Nat × Option Ob:=(67,some (.cells 161 [(.own 68 false v4.2.arcs.length),(.own 66 true v4.2.from_.length)]))
abbrev VJ:Nat × TV:=(17,(aei p u7))
abbrev acr:=(IntKind.wrap .i64 ((1:Int)+((at' p.links u7.toNat).a)))
abbrev adp:=(IntKind.wrap .i64 ((1:Int)+((at' p.links u7.toNat).b)))
abbrev ai8:List (Nat × Option Ob):=[(Qi p p1),bW,(PZ v5),(67,some (.cells 161 [(.own 91 false v5.2.arcs.length),(.own 66 true v5.2.from_.length)])),(nG x0),(NA p),(LV p),(aaK p x0),(EK u4),(74,some (Jq u7 v5 v9)),Nt,(91,some (yE v5))]
abbrev adn:List (Nat × TV):=[(2,(vP 63 0)),(lW s_),(4,(vP 65 0)),(iN p),(9,(vP 67 0)),(10,(vP 72 0)),rV,p9,nZ,(Bn p),(Bo p),(90,(k3 u7))]
abbrev agu:List (Nat × TV):=[(2,(vP 63 0)),(lW s_),(4,(vP 65 0)),(8,(vI v7)),(9,(vP 67 0)),(10,(vP 72 0)),rV,p9,nZ,(18,(vI u0)),(yB u2 u0),(pu u2),(116,(vI w0)),(117,(vI u0))]
abbrev VQ:=(IntKind.wrap .i64 ((IntKind.wrap .i64 ((1:Int)+p.buses))+u0))
abbrev ag4:Nat × Option Ob:=(67,some (.cells 161 [(.own 111 false x3.2.arcs.length),(.own 66 true x3.2.from_.length)]))
abbrev aju:List (Nat × Option Ob):=[(fq p p1 p2 p3),bW,(PZ x3),(ag4 x3),(nG x0),(pq x1),(rG x2),(rH x2 x0 x1),(EK u4),(Ez u5),(GH x9),(111,some (yE x3))]
abbrev Tc:=(at' [(Ko u2 u0).e0,(Ko u2 u0).e1] v3.toNat)
abbrev UF:Nat × TV:=(21,(vI (Tc u0 u2 v3)))
abbrev V5:List DV:=[(.int .i64 (Tc u0 u2 v3))]
abbrev ac0:=(IntKind.wrap .i64 ((1:Int)+(Tc u0 u2 v3)))
abbrev ait:Nat × Option Ob:=(67,some (.cells 161 [(.own 115 false v6.2.arcs.length),(.own 66 true v6.2.from_.length)]))
abbrev Zm:Nat × Option Ob:=(115,some (yE v6))
abbrev aer:List (Nat × TV):=[(2,(vP 63 0)),(lW s_),(4,(vP 65 0)),(8,(vI v7)),(9,(vP 67 0)),(10,(vP 72 0)),rV,p9,nZ,(18,(vI u0)),(yB u2 u0),(pu u2),(116,(vI w0)),(117,(vI u0)),(Bz u2 u0),(134,(k3 v3))]
abbrev afw:List (Nat × TV):=[(2,(vP 63 0)),(lW s_),(4,(vP 65 0)),(8,(vI v7)),(9,(vP 67 0)),(10,(vP 72 0)),rV,p9,nZ,(pu u2),(116,(vI w0)),(117,(k3 u0))]
abbrev afz:Nat × Option Ob:=(67,some (.cells 161 [(.own 68 false x5.length),(.d (aG (some true) 1 (ML 1 (au .i64)) x6))]))
abbrev agY:List (Nat × Option Ob):=[(zb u1),(zy u1)]
abbrev Cn:=(at' (u4.map Prod.fst) i)
abbrev FR:=(at' (u4.map Prod.snd) i)
abbrev af9:=((at' u1.arcs ((IntKind.wrap .i64 (((BitVec.ofInt (IntKind.bits .i64) (FR u4 i) ^^^ BitVec.ofInt (IntKind.bits .i64) 1).toNat:Int))).toNat)).left)
abbrev ab7:=(w5.set ((Cn u4 i).toNat) (af9 u4 u1 i))
abbrev Nv:=(ay (au .i64) (ab7 u4 u1 i w5))
abbrev aeY:=(jo (ay (au .i64) w5) ((Cn u4 i).toNat) 0 [(.int .i64 (af9 u4 u1 i))])
abbrev abX:Ob:=(bg 3 1 (au .i64) (ab7 u4 u1 i w5))
abbrev adk:=((ab7 u4 u1 i w5).length)
abbrev ajf:=(IntKind.wrap .i64 (((at' p2 ((Cn u5 i1).toNat)).most) - ((at' u1.arcs ((FR u5 i1).toNat)).left)))
abbrev aeb:=(w6.set ((Cn u5 i1).toNat) (ajf p2 u5 u1 i1))
abbrev Nc:=(ay (au .i64) (aeb p2 u5 u1 i1 w6))
abbrev ab5:=(jo (ay (au .i64) w6) ((Cn u5 i1).toNat) 0 [(.int .i64 (ajf p2 u5 u1 i1))])
abbrev acD:Ob:=(bg 3 1 (au .i64) (aeb p2 u5 u1 i1 w6))
abbrev acO:=((aeb p2 u5 u1 i1 w6).length)
abbrev aaM:List CV:=[(cI ((at' (u3.map Prod.fst) i2).e0)),(cI ((at' (u3.map Prod.fst) i2).e1))]
abbrev ads:List (Nat × TV):=[(2,(vP 63 0)),(4,(vP 65 0)),(9,(vP 67 0)),(10,(vP 72 0)),(26,(vP 121 0)),(27,(vI (at' (u3.map Prod.snd) i2))),(208,(vP 118 0))]
abbrev ac8:Ob:=(.cells 164 (aaM u3 i2))
abbrev adH:Ob:=(.cells 164 [(cI ((at' (u3.map Prod.fst) i2).e0)),(cI 0)])
abbrev U0:=(((at' (u3.map Prod.fst) i2).e0).toNat)
abbrev adB:=(at' u1.arcs ((IntKind.wrap .i64 (((BitVec.ofInt (IntKind.bits .i64) (at' (u3.map Prod.snd) i2) ^^^ BitVec.ofInt (IntKind.bits .i64) 1).toNat:Int))).toNat))
abbrev adu:=(u9.set (U0 u3 i2) (⟨(adB u1 u3 i2).left,(at' u9 (U0 u3 i2)).e1⟩:af))
abbrev NP:=(ay af.cell (adu u1 u3 i2 u9))
abbrev ajH:List DV:=[(.int .i64 ((adB u1 u3 i2).left))]
abbrev acy:=(jo (ay af.cell u9) (U0 u3 i2) 0 (ajH u1 u3 i2))
abbrev acU:Ob:=(bg 164 2 af.cell (adu u1 u3 i2 u9))
abbrev aeN:=((adu u1 u3 i2 u9).length)
abbrev aeg:Ob:=(.cells 164 [(cI ((at' (u3.map Prod.fst) i2).e0)),(cI 1)])
abbrev ac9:=(u9.set (U0 u3 i2) (⟨(at' u9 (U0 u3 i2)).e0,(adB u1 u3 i2).left⟩:af))
abbrev NV:=(ay af.cell (ac9 u1 u3 i2 u9))
abbrev acR:=(jo (ay af.cell u9) (U0 u3 i2) 1 (ajH u1 u3 i2))
abbrev adr:Ob:=(bg 164 2 af.cell (ac9 u1 u3 i2 u9))
abbrev ace:=((ac9 u1 u3 i2 u9).length)
abbrev IZ:=(List.replicate p.buses.toNat (false:Bool))
abbrev ac1:Ob:=(bg 4 1 ah (IZ p))
abbrev WH:Nat × Option Ob:=(122,some (ac1 p))
abbrev acn:=((IZ p).length)
abbrev Yc:Nat × Option Ob:=(123,some (.cells 27 [(.own 122 true (acn p))]))
abbrev Ul:=(ay ah (IZ p))
abbrev aix:List (Nat × TV):=[(2,(vP 63 0)),(4,(vP 65 0)),(10,(vP 72 0)),(28,(vP 123 0)),(235,(.v (.one (.fn 121 0 1 (Bq [(.ptr 124 0)])))))]
abbrev aci:Ob:=(.cells 161 [(.d (aG none 2 aV.cell u1.arcs)),(.d (Jc u1))])
abbrev aco:Ob:=(.cells 157 [(.d (kH [(aG none 2 aV.cell u1.arcs),(Jc u1)] 0))])
abbrev Xj:DV:=(kH [(kH [(aG none 2 aV.cell u1.arcs),(Jc u1)] 0)] 0)
abbrev Zb:TV:=(vD (.fn 121 1 (og [(Xj u1)])))
abbrev aeV:Nat × TV:=(235,(Zb u1))
abbrev aj2:List (Nat × TV):=[(2,(vP 63 0)),(4,(vP 65 0)),(10,(vP 72 0)),(28,(vP 123 0)),(aeV u1)]
abbrev acd:List CV:=[(.d (Xj u1))]
end
theorem Bb (p:ai) (s_:State) {r:(aj × (List Bool) × Int)} (h:bQ p s_=some r):Fn Try.prog 32 (k98 s_ p) [] (.iC [(.agg [(.d (aG none 1 (au .i64) r.1.sources)),(.d (aG none 1 (au .i64) r.1.links)),(.d (aG none 2 af.cell r.1.racks))]),(sD (aG none 1 ah r.2.1)),(sI r.2.2)]) []:=by
 refine fN tT Try.func32 rfl rfl fun B=> ?_
 show bL _ _ _ _ _ _ (jk r) _
 unfold bQ at h
 refine sz tT (agF p s_) {fr:=[(0,63),(1,64),(2,65)] } [64] ?_
 refine aQ (aQ (bE h fun r_ hr_ h=> ?_))
 have q0:=dL p s_ hr_
 refine rg tT (afA p s_ r_) [_] {an:=[(2,cA q0 [])] } [] ⟨q0,trivial⟩ ?_
 refine sz tT (agQ p s_ r_) {} [] ?_
 refine bI h (fun hb9 h=> ?_) (fun hb9 h=> ?_)
 ·refine ct hb9 ?_
  refine sz tT ⟨[(4,(vD (kH [nS,nS,nS] 0))),(5,(vD nS)),(6,(vI r_))],[]⟩ {} [65] ?_
  refine aI (bB.le (st':=⟨[(4,(vD (kH [Y2,Y2,(aG none 2 af.cell ([]:List af))] 0))),(5,(vD Dq)),(6,(vI r_))],[]⟩) ⟨⟨⟨_,rfl,eX.v (eO.one (bR.d (Aj ⟨dX.nil',dX.nil',dX.nil',trivial⟩)))⟩,⟨_,rfl,eX.v (eO.one (bR.d dX.nil'))⟩,tR,trivial⟩,trivial⟩) ?_
  refine aR ?_
  obtain rfl:=oi h
  exact rl [(.agg [(.d Y2),(.d Y2),(.d (aG none 2 af.cell ([]:List af)))]),(sD Dq),(sI r_)]
 ·refine cf hb9 ?_
  refine aP (sz tT (ajl p s_) {} [] ?_)
  refine aQ (aO h fun⟨a1,a2,a3⟩ h=> ?_)
  refine ri tT ⟨(Zo p s_),[(Ae p),bW,(66,some (.arr 40 1 (zo p).length (fun _ j=>[nS].getD j .nilp))),(agN p)]⟩ [_,(ae0 p)=(Wp p),_,_,(zo p).length=(R9 p),aC (R9 p) 1 (fun _ j=>[nS].getD j .nilp) (fun _ j=>[nS].getD j .nilp)] {an:=[(2, .arr (zo p).length (fun _ j=>[nS].getD j .nilp))],fr:=[(2,66),(4,67)] } [] ⟨a1,rfl,a2,a3,(List.length_replicate),(gy _ _ _),trivial⟩ (.trans (bB.RL (b:=66) (E:=40) (esz:=1) (len:=(zo p).length) (el:=(fun _ j=>[nS].getD j .nilp)) (el':=uS oZ (zo p)) (by kernel_rfl) (fun i hi j hj=>match j,hj with|0,_=>JL _ _ _ _ _ _ _ _)) (.trans (fz ⟨(Zo p s_),[(Ae p),bW,(Ya p),(agN p)]⟩ []) (.trans (bB.rA (E:=0) (esz:=0) (E0:=161) (cs:=(ake p)) (p:=67) (q:=0) (b:=68) (esz0:=0) (el0:=fun _ _=> .nilp) (ob:= .arr 170 2 0 (ay aV.cell ([]:List aV))) (fun _ _ _ _ h=> .inl ⟨h,rfl⟩) (by kernel_rfl) (by kernel_rfl) (by kernel_rfl)) (.trans (fz ⟨(Zo p s_),[(Ae p),bW,(Ya p),(67,some (.cells 161 [(.own 68 false 0),(.own 66 true (Oz p))])),(68,some (.arr 170 2 0 (ay aV.cell ([]:List aV))))]⟩ []) (bB.le (st':=⟨(Zo p s_),[(Ae p),bW,(Ya p),(acW p),adi]⟩) ⟨⟨tR,tR,tR,tR,tR,trivial⟩,(hN 3 ⟨rfl,aJ ⟨cW,bR.refl _,trivial⟩,⟨rfl,oW,trivial⟩⟩)⟩))))) ?_
  refine aQ (aO h fun⟨a1,a2,a3,a4,a5,a6,a7,a8,a9⟩ h=> ?_)
  refine dg tT mX ⟨[(2,(vP 63 0)),(lW s_),(4,(vP 65 0)),(iN p),(9,(vP 67 0)),(10,(vP 72 0))],[(Ae p),bW,(Ya p),(acW p),adi,(Xp p),(NA p),(LV p),(WC p)]⟩ [_,((p.sources.length:Int):Int)=(p.sources.length:Int),_,_,(NR p).length=(RB p),aC (RB p) 1 (fun _ j=>[(.int .i64 0)].getD j .nilp) (U4 p),_,((p.links.length:Int):Int)=(p.links.length:Int),_,_,(JJ p).length=(Ot p),aC (Ot p) 1 (fun _ j=>[(.int .i64 0)].getD j .nilp) (OW p),_,((p.racks.length:Int):Int)=(p.racks.length:Int),_,_,(Ni p).length=(Sw p),aC (Sw p) 2 (fun _ j=>[(.int .i64 0),(.int .i64 0)].getD j .nilp) (UX p)] {an:=[(3, .arr (NR p).length (U4 p)),(7, .arr (JJ p).length (OW p)),(11, .arr (Ni p).length (UX p))],fr:=[(3,69),(7,70),(11,71),(13,72)] } [] ⟨a1,rfl,a2,a3,(List.length_replicate),(dO _ _ _ _ _ (fun j hj=>(match j,hj with|0,_=>rfl))),a4,rfl,a5,a6,(List.length_replicate),(dO _ _ _ _ _ (fun j hj=>(match j,hj with|0,_=>rfl))),a7,rfl,a8,a9,(List.length_replicate),(dO _ _ _ _ _ (fun j hj=>(match j,hj with|0,_=>rfl|1,_=>rfl))),trivial⟩ ?_
  refine sz tT ⟨(Yw s_ p),(aiL p)⟩ {an:=[(0, .map 0 (yT (au .i64) ([]:(List (Int × Int)))) (yS (au .i64) ([]:(List (Int × Int)))) []),(1, .map 0 (yT (au .i64) ([]:(List (Int × Int)))) (yS (au .i64) ([]:(List (Int × Int)))) []),(2, .map 0 (yT af.cell ([]:(List (af × Int)))) (yS (au .i64) ([]:(List (af × Int)))) [])],fr:=[(0,73),(1,74),(2,75)] } [] ?_
  refine aQ (sz tT ⟨[(2,(vP 63 0)),(lW s_),(4,(vP 65 0)),(iN p),(9,(vP 67 0)),(10,(vP 72 0)),rV,p9,nZ,(Bu p),(Bg p),(68,(vI 0))],(aiL p)⟩ {} [] ?_)
  refine bE h fun y hy h=> ?_
  refine aL [] (Au p s_) (AX p s_) jk hy (fun s f h=> ?_) ?_
  ·clear hy
   show bL _ _ _ _ _ _ ((Js p s_) f) _
   unfold iM at h
   obtain⟨n0,n1,v8,v0⟩:=s
   refine sz tT ⟨[(2,(vP 63 0)),(lW s_),(4,(vP 65 0)),(iN p),(9,(vP 67 0)),(10,(vP 72 0)),rV,p9,nZ,(Bu p),(Bg p),(68,(vI v0)),(69,(vB (decide (v0<(p.sources.length:Int)))))],(VI p n1 n0 v8)⟩ {} [] ?_
   refine aQ ?_
   refine bI h (fun hb1 h=> ?_) (fun hb1 h=> ?_)
   ·refine ct hb1 ?_
    refine aP (aQ (aB (aQ (aO h fun a1 h=> ?_))))
    refine rg tT ⟨[(2,(vP 63 0)),(lW s_),(4,(vP 65 0)),(iN p),(9,(vP 67 0)),(10,(vP 72 0)),rV,p9,nZ,(14,(vI v0)),(Va p v0),(Bu p),(Bg p),(68,(vI v0))],(VI p n1 n0 v8)⟩ [_] {fr:=[(3,82)] } [82] ⟨a1,trivial⟩ ?_
    refine aQ (bE h fun ui hr_1 h=> ?_)
    have q0:=fF p s_ v0 hr_1
    refine rg tT ⟨[(2,(vP 63 0)),(lW s_),(4,(vP 65 0)),(iN p),(9,(vP 67 0)),(10,(vP 72 0)),rV,p9,nZ,(14,(vI v0)),(Va p v0),(Bu p),(Bg p),(68,(vI v0)),(76,(vB ui))],(VI p n1 n0 v8)⟩ [_] {an:=[(3,cA q0 [])] } [] ⟨q0,trivial⟩ ?_
    refine bI h (fun hb h=> ?_) (fun hb h=> ?_)
    ·refine ct hb ?_
     refine bE h fun v4 hr_2 h=> ?_
     have q0:=rk [(0,67),(1,68),(2,66),(3,83)] (bG 0 (aed p v0) ((at' p.sources v0.toNat).power) 0 (⟨n0,n1⟩:Network) hr_2)
     refine rg tT ⟨(agR p s_ v0),(ah4 p v0 v4 v8)⟩ [_,mI [some .i64] 1 1 v8.length (yT (au .i64) v8) (yS (au .i64) v8) [(.int .i64 v0)] [(cI v4.1)] [] (gN Ff v0 v4.1 v8).length (IX v0 v4 v8) (I9 v0 v4 v8)] {an:=[(8,cA q0 [67,68,66]),(9, .map (gN Ff v0 v4.1 v8).length (IX v0 v4 v8) (I9 v0 v4 v8) [])] } [] ⟨q0,(qm (fun _=>rfl) (fun _ _=>rfl) v8 v0 v4.1 rfl rfl),trivial⟩ ?_
     refine ri tT ⟨(acJ p s_ v0),(ah4 p v0 v4 v8)⟩ [] {} [] trivial (bB.fin (st':=⟨(acJ p s_ v0),[(Ae p),bW,(PZ v4),(aiT v4),(68,some (yE v4)),(Xp p),(NA p),(LV p),(WC p),(73,some (Jq v0 v4 v8)),XP,Nt]⟩) (cs:=[]) ⟨[],[(63,63),(65,65),(66,66),(67,67),(83,68),(69,69),(70,70),(71,71),(72,72),(73,73),(74,74),(75,75)]⟩ [2,3,4,8,9,10,11,12,13,66,67,68] (by kernel_rfl) trivial) ?_
     obtain rfl:=oi h
     exact lN
    ·refine cf hb ?_
     refine aP (rz tT ⟨(acJ p s_ v0),(VI p n1 n0 v8)⟩ {} [] ?_)
     obtain rfl:=oi h
     exact lN
   ·refine cf hb1 ?_
    refine aI (fz ⟨(Yw s_ p),(VI p n1 n0 v8)⟩ []) ?_
    refine aX ?_
    obtain rfl:=oi h
    exact lB
  ·clear hy
   cases y with
   |brk z=>
    obtain⟨p1,ue,uc,x0,u4⟩:=z
    unfold fZ
    refine⟨_, .refl, ?_⟩
    refine aQ (sz tT ⟨[(2,(vP 63 0)),(lW s_),(4,(vP 65 0)),(iN p),(9,(vP 67 0)),(10,(vP 72 0)),rV,p9,nZ,(Bn p),(Bo p),(90,(vI 0))],(aiG p p1 x0 uc ue u4)⟩ {} [] ?_)
    refine bE h fun y1 hy h=> ?_
    refine aL [] (AO p s_ p1 x0 u4) (Az p s_ p1 x0 u4) jk hy (fun s f h=> ?_) ?_
    ·clear hy
     show bL _ _ _ _ _ _ ((IV p s_ p1 x0 u4) f) _
     unfold iG at h
     obtain⟨w7,w3,v9,u7⟩:=s
     refine sz tT ⟨[(2,(vP 63 0)),(lW s_),(4,(vP 65 0)),(iN p),(9,(vP 67 0)),(10,(vP 72 0)),rV,p9,nZ,(Bn p),(Bo p),(90,(vI u7)),(91,(vB (decide (u7<(p.links.length:Int)))))],(Ur p v9 p1 w3 w7 x0 u4)⟩ {} [] ?_
     refine aQ ?_
     refine bI h (fun hb3 h=> ?_) (fun hb3 h=> ?_)
     ·refine ct hb3 ?_
      refine aP (aQ (aB (aQ (aO h fun a1 h=> ?_))))
      refine rg tT ⟨[(2,(vP 63 0)),(lW s_),(4,(vP 65 0)),(iN p),(9,(vP 67 0)),(10,(vP 72 0)),rV,p9,nZ,(16,(vI u7)),(VJ p u7),(Bn p),(Bo p),(90,(vI u7))],(Ur p v9 p1 w3 w7 x0 u4)⟩ [_] {fr:=[(3,90)] } [90] ⟨a1,trivial⟩ ?_
      refine aQ (bE h fun uj hr_3 h=> ?_)
      have q0:=dP (⟨p.buses,p1,p.links,p.racks⟩:ai) s_ u7 hr_3
      refine rg tT ⟨[(2,(vP 63 0)),(lW s_),(4,(vP 65 0)),(iN p),(9,(vP 67 0)),(10,(vP 72 0)),rV,p9,nZ,(16,(vI u7)),(VJ p u7),(Bn p),(Bo p),(90,(vI u7)),(98,(vB uj))],(Ur p v9 p1 w3 w7 x0 u4)⟩ [_] {an:=[(3,cA q0 [])] } [] ⟨q0,trivial⟩ ?_
      refine bI h (fun hb2 h=> ?_) (fun hb2 h=> ?_)
      ·refine ct hb2 ?_
       refine bE h fun v5 hr_4 h=> ?_
       have q0:=rk [(0,67),(1,68),(2,66),(3,91)] (bG (acr p u7) (adp p u7) (NG p u7) (NG p u7) (⟨w7,w3⟩:Network) hr_4)
       refine rg tT ⟨(aht p s_ u7),(ai8 p u7 p1 v5 x0 u4 v9)⟩ [_,mI [some .i64] 1 1 v9.length (yT (au .i64) v9) (yS (au .i64) v9) [(.int .i64 u7)] [(cI v5.1)] [] (gN Ff u7 v5.1 v9).length (IX u7 v5 v9) (I9 u7 v5 v9)] {an:=[(13,cA q0 [67,68,66]),(14, .map (gN Ff u7 v5.1 v9).length (IX u7 v5 v9) (I9 u7 v5 v9) [])] } [] ⟨q0,(qm (fun _=>rfl) (fun _ _=>rfl) v9 u7 v5.1 rfl rfl),trivial⟩ ?_
       refine ri tT ⟨(adn p s_ u7),(ai8 p u7 p1 v5 x0 u4 v9)⟩ [] {} [] trivial (bB.fin (st':=⟨(adn p s_ u7),[(Qi p p1),bW,(PZ v5),(aiT v5),(68,some (yE v5)),(nG x0),(NA p),(LV p),(aaK p x0),(EK u4),(74,some (Jq u7 v5 v9)),Nt]⟩) (cs:=[]) ⟨[],[(63,63),(65,65),(66,66),(67,67),(91,68),(69,69),(70,70),(71,71),(72,72),(73,73),(74,74),(75,75)]⟩ [2,3,4,8,9,10,11,12,13,88,89,90] (by kernel_rfl) trivial) ?_
       obtain rfl:=oi h
       exact lN
      ·refine cf hb2 ?_
       refine aP (rz tT ⟨(adn p s_ u7),(Ur p v9 p1 w3 w7 x0 u4)⟩ {} [] ?_)
       obtain rfl:=oi h
       exact lN
     ·refine cf hb3 ?_
      refine aI (fz ⟨(Yw s_ p),(Ur p v9 p1 w3 w7 x0 u4)⟩ []) ?_
      refine aX ?_
      obtain rfl:=oi h
      exact lB
    ·clear hy
     cases y1 with
     |brk z=>
      obtain⟨p2,uf,ud,x1,u5⟩:=z
      unfold fZ
      refine⟨_, .refl, ?_⟩
      refine aQ (sz tT ⟨[(2,(vP 63 0)),(lW s_),(4,(vP 65 0)),(iN p),(9,(vP 67 0)),(10,(vP 72 0)),rV,p9,nZ,(115,(vD (k6 p))),(116,(vI (p.racks.length:Int))),(117,(vI 0))],(ajs p p1 p2 x1 ud uf x0 u4 u5)⟩ {} [] ?_)
      refine bE h fun y3 hy h=> ?_
      refine aL [] (Ar p s_ p1 x0 u4 p2 x1 u5) (AB p p1 x0 u4 p2 x1 u5) jk hy (fun s f h=> ?_) ?_
      ·clear hy
       show bL _ _ _ _ _ _ ((sO p s_ p1 x0 u4 p2 x1 u5) f) _
       unfold iF at h
       obtain⟨p3,v7,x7,w9,x2,x9,u2,w0,u0⟩:=s
       refine sz tT ⟨[(2,(vP 63 0)),(lW s_),(4,(vP 65 0)),(8,(vI v7)),(9,(vP 67 0)),(10,(vP 72 0)),rV,p9,nZ,(pu u2),(116,(vI w0)),(117,(vI u0)),(118,(vB (decide (u0<w0))))],(XK p p1 p2 p3 x2 x0 x1 x9 w9 x7 u4 u5)⟩ {} [] ?_
       refine aQ ?_
       refine bI h (fun hb6 h=> ?_) (fun hb6 h=> ?_)
       ·refine ct hb6 ?_
        refine aP (aQ (aB (aQ (aO h fun a1 h=> ?_))))
        refine rg tT ⟨(agu s_ v7 u0 u2 w0),(XK p p1 p2 p3 x2 x0 x1 x9 w9 x7 u4 u5)⟩ [_] {fr:=[(3,110)] } [110] ⟨a1,trivial⟩ ?_
        refine aQ (bE h fun x3 hr_5 h=> ?_)
        have q0:=rk [(0,67),(1,68),(2,66),(3,111)] (bG (VQ p u0) v7 (Ld u2 u0) 0 (⟨x7,w9⟩:Network) hr_5)
        refine rg tT ⟨(agu s_ v7 u0 u2 w0),(aju p p1 x0 u4 x3 p2 p3 x1 x2 u5 x9)⟩ [_] {an:=[(9,cA q0 [67,68,66])] } [] ⟨q0,trivial⟩ ?_
        refine sz tT ⟨[(2,(vP 63 0)),(lW s_),(4,(vP 65 0)),(8,(vI v7)),(9,(vP 67 0)),(10,(vP 72 0)),rV,p9,nZ,(18,(vI u0)),(yB u2 u0),(pu u2),(116,(vI w0)),(117,(vI u0)),(Bz u2 u0),(134,(vI 0))],(aju p p1 x0 u4 x3 p2 p3 x1 x2 u5 x9)⟩ {} [] ?_
        refine bE h fun y2 hy h=> ?_
        refine aL [5] (AY p s_ p1 x0 u4 p2 x1 u5 p3 v7 x2 u2 w0 u0) (AU p s_ p1 x0 u4 p2 x1 u5 p3 v7 x2 u2 w0 u0) (sO p s_ p1 x0 u4 p2 x1 u5) hy (fun s f h=> ?_) ?_
        ·clear hy
         show bL _ _ _ _ _ _ ((Jp p s_ p1 x0 u4 p2 x1 u5 p3 v7 x2 u2 w0 u0) f) _
         unfold fG at h
         obtain⟨w8,w4,w1,v3⟩:=s
         refine sz tT ⟨[(2,(vP 63 0)),(lW s_),(4,(vP 65 0)),(8,(vI v7)),(9,(vP 67 0)),(10,(vP 72 0)),rV,p9,nZ,(18,(vI u0)),(yB u2 u0),(pu u2),(116,(vI w0)),(117,(vI u0)),(Bz u2 u0),(134,(vI v3)),(135,(vB (decide (v3<2))))],(Td p p1 p2 p3 w4 w8 x0 x1 x2 u4 u5 w1)⟩ {} [] ?_
         refine aQ ?_
         refine bI h (fun hb5 h=> ?_) (fun hb5 h=> ?_)
         ·refine ct hb5 ?_
          refine aP (aQ (aB (aQ (aO h fun a1 h=> ?_))))
          refine rg tT ⟨[(2,(vP 63 0)),(lW s_),(4,(vP 65 0)),(8,(vI v7)),(9,(vP 67 0)),(10,(vP 72 0)),rV,p9,nZ,(18,(vI u0)),(yB u2 u0),(20,(vI v3)),(UF u0 u2 v3),(pu u2),(116,(vI w0)),(117,(vI u0)),(Bz u2 u0),(134,(vI v3))],(Td p p1 p2 p3 w4 w8 x0 x1 x2 u4 u5 w1)⟩ [_,v3.toNat*1+1≤(SF u2 u0).length,((SF u2 u0).drop (v3.toNat*1)).take 1=(V5 u0 u2 v3).map .d] {an:=[(1, .vals (V5 u0 u2 v3))] } [] ⟨a1,(Vz (n:=2) (sz:=1) (Nat.le_refl _) a1),(VZ (n:=2) (sz:=1) (g:=fun q=>[(cI (at' [(Ko u2 u0).e0,(Ko u2 u0).e1] q))]) (by intro q hq;match q,hq with|0,_=>rfl|1,_=>rfl) a1),trivial⟩ ?_
          refine aQ (bE h fun ul hr_6 h=> ?_)
          have q0:=jR s_ (Tc u0 u2 v3) hr_6
          refine rg tT ⟨[(2,(vP 63 0)),(lW s_),(4,(vP 65 0)),(8,(vI v7)),(9,(vP 67 0)),(10,(vP 72 0)),rV,p9,nZ,(18,(vI u0)),(yB u2 u0),(20,(vI v3)),(UF u0 u2 v3),(pu u2),(116,(vI w0)),(117,(vI u0)),(Bz u2 u0),(134,(vI v3)),(140,(vB ul))],(Td p p1 p2 p3 w4 w8 x0 x1 x2 u4 u5 w1)⟩ [_] {an:=[(2,cA q0 [])] } [] ⟨q0,trivial⟩ ?_
          refine bI h (fun hb4 h=> ?_) (fun hb4 h=> ?_)
          ·refine ct hb4 ?_
           refine bE h fun v6 hr_7 h=> ?_
           have q0:=rk [(0,67),(1,111),(2,66),(3,115)] (bG (ac0 u0 u2 v3) (VQ p u0) (Ld u2 u0) 0 (⟨w8,w4⟩:Network) hr_7)
           refine rg tT ⟨(akj u2 u0 s_ v7 w0 v3),[(fq p p1 p2 p3),bW,(PZ v6),(ait v6),(nG x0),(pq x1),(rG x2),(rH x2 x0 x1),(EK u4),(Ez u5),(75,some (TR 164 3 true false 2 1 af.cell (au .i64) (gN (fun a b=>(decide (a.e0=b.e0) && (decide (a.e1=b.e1) && true))) (⟨u0,v3⟩:af) v6.1 w1))),(Zm v6)]⟩ [_,mI [some .i64,some .i64] 2 1 w1.length (yT af.cell w1) (yS (au .i64) w1) [(.int .i64 u0),(.int .i64 v3)] [(cI v6.1)] [] (gN (fun a b=>(decide (a.e0=b.e0) && (decide (a.e1=b.e1) && true))) (⟨u0,v3⟩:af) v6.1 w1).length (yT af.cell (gN (fun a b=>(decide (a.e0=b.e0) && (decide (a.e1=b.e1) && true))) (⟨u0,v3⟩:af) v6.1 w1)) (yS (au .i64) (gN (fun a b=>(decide (a.e0=b.e0) && (decide (a.e1=b.e1) && true))) (⟨u0,v3⟩:af) v6.1 w1))] {an:=[(14,cA q0 [67,111,66]),(15, .map (gN (fun a b=>(decide (a.e0=b.e0) && (decide (a.e1=b.e1) && true))) (⟨u0,v3⟩:af) v6.1 w1).length (yT af.cell (gN (fun a b=>(decide (a.e0=b.e0) && (decide (a.e1=b.e1) && true))) (⟨u0,v3⟩:af) v6.1 w1)) (yS (au .i64) (gN (fun a b=>(decide (a.e0=b.e0) && (decide (a.e1=b.e1) && true))) (⟨u0,v3⟩:af) v6.1 w1)) [])] } [] ⟨q0,(qm (fun _=>rfl) (fun _ _=>rfl) w1 (⟨u0,v3⟩:af) v6.1 rfl rfl),trivial⟩ ?_
           refine ri tT ⟨(aer s_ v7 u0 u2 w0 v3),[(fq p p1 p2 p3),bW,(PZ v6),(ait v6),(nG x0),(pq x1),(rG x2),(rH x2 x0 x1),(EK u4),(Ez u5),(75,some (TR 164 3 true false 2 1 af.cell (au .i64) (gN (fun a b=>(decide (a.e0=b.e0) && (decide (a.e1=b.e1) && true))) (⟨u0,v3⟩:af) v6.1 w1))),(Zm v6)]⟩ [] {} [] trivial (bB.fin (st':=⟨(aer s_ v7 u0 u2 w0 v3),[(fq p p1 p2 p3),bW,(PZ v6),(ag4 v6),(nG x0),(pq x1),(rG x2),(rH x2 x0 x1),(EK u4),(Ez u5),(75,some (TR 164 3 true false 2 1 af.cell (au .i64) (gN (fun a b=>(decide (a.e0=b.e0) && (decide (a.e1=b.e1) && true))) (⟨u0,v3⟩:af) v6.1 w1))),(111,some (yE v6))]⟩) (cs:=[]) ⟨[],[(63,63),(65,65),(66,66),(67,67),(69,69),(70,70),(71,71),(72,72),(73,73),(74,74),(75,75),(115,111)]⟩ [2,3,4,8,9,10,11,12,13,18,19,115,116,117,133,134] (by kernel_rfl) trivial) ?_
           obtain rfl:=oi h
           exact lN
          ·refine cf hb4 ?_
           refine aP (rz tT ⟨(aer s_ v7 u0 u2 w0 v3),(Td p p1 p2 p3 w4 w8 x0 x1 x2 u4 u5 w1)⟩ {} [] ?_)
           obtain rfl:=oi h
           exact lN
         ·refine cf hb5 ?_
          refine aI (fz (ahC s_ v7 u2 w0 u0 p p1 p2 p3 w4 w8 x0 x1 x2 u4 u5 w1) []) ?_
          refine aX ?_
          obtain rfl:=oi h
          exact lB
        ·clear hy
         cases y2 with
         |brk z=>
          obtain⟨ub,x8,ug⟩:=z
          unfold fZ
          refine⟨_, .refl, ?_⟩
          refine ri tT ⟨(afw s_ v7 u0 u2 w0),(Td p p1 p2 p3 x8 ub x0 x1 x2 u4 u5 ug)⟩ [] {} [] trivial (bB.fin (st':=⟨(afw s_ v7 u0 u2 w0),(XK p p1 p2 p3 x2 x0 x1 ug x8 ub u4 u5)⟩) (cs:=[]) ⟨[],[(63,63),(65,65),(66,66),(67,67),(111,68),(69,69),(70,70),(71,71),(72,72),(73,73),(74,74),(75,75)]⟩ [2,3,4,8,9,10,11,12,13,115,116,117] (by kernel_rfl) trivial) ?_
          obtain rfl:=oi h
          exact lN
         |ret v=>
          obtain rfl:=oi h
          unfold fZ
          intro e st hn ha hR
          cases e with
          |normal=>exact absurd rfl hn
          |exit id=>simp only [rF (b:=5) ha rfl,cond_false];exact hR
          |goto l=>exact hR
          |ret=>exact hR
          |panic c=>exact hR
          |outgrown=>exact hR
       ·refine cf hb6 ?_
        refine aI (fz (afD v7 p p1 p2 p3 w9 x7 x0 x1 x2 u4 u5 x9) []) ?_
        refine aX ?_
        obtain rfl:=oi h
        exact lB
      ·clear hy
       cases y3 with
       |brk z=>
        obtain⟨v1,ua,x5,x6,v2,u3⟩:=z
        unfold fZ
        refine⟨_, .refl, ?_⟩
        refine aQ (aI (.trans (fi ⟨(adz ua),[(fq p p1 p2 v1),bW,(67,some (.cells 161 [(.own 68 false x5.length),(.d (.sl (some true) 1 x6.length (fun i j=>evD (uS oZ x6 i j))))])),(N7 x5),(nG x0),(pq x1),(rG v2),(rH v2 x0 x1),(EK u4),(Ez u5),(GH u3)]⟩ [x6.length=x6.length] [66] ⟨rfl,trivial⟩) (bB.le (st':=⟨(adz ua),[(fq p p1 p2 v1),bW,(afz x5 x6),(N7 x5),(nG x0),(pq x1),(rG v2),(rH v2 x0 x1),(EK u4),(Ez u5),(GH u3)]⟩) ⟨⟨tR,tR,tR,tR,tR,tR,tR,tR,trivial⟩,(hN 2 ⟨rfl,aJ ⟨bR.refl _,bR.d (dX.sl (.inr rfl) (fun i _ j hj=>match j,hj with|0,_=> .refl _)),trivial⟩,(.refl _)⟩)⟩)) ?_)
        refine bE h fun u1 hr_8 h=> ?_
        refine rg tT ⟨[(2,(vP 63 0)),(4,(vP 65 0)),(9,(vP 67 0)),(10,(vP 72 0)),rV,p9,nZ],[(fq p p1 p2 v1),bW,(zb u1),(zy u1),(nG x0),(pq x1),(rG v2),(rH v2 x0 x1),(EK u4),(Ez u5),(GH u3)]⟩ [Fn Try.prog 80 [(.one (.ptr 67 0)),(sI ua)] [(afz x5 x6),(N7 x5)] (.iC []) (agY u1)] {an:=[(2, .call [67,68] (.iC []) (agY u1))] } [] ⟨(Fn.leH (args:=[(.one (.ptr 67 0)),(sI ua)]) (hin:=[(67,some (.cells 161 [(.own 68 false x5.length),(.d (OU x6))])),(N7 x5)]) (rK [(0,67),(1,68)] (kW ua (⟨x5,x6⟩:Network) hr_8)) ⟨eO.refl _,eO.refl _,trivial⟩ ⟨rfl,aJ ⟨bR.refl _,bR.d dX.nL,trivial⟩,(.refl _)⟩),trivial⟩ ?_
        refine aQ (bE h fun y4 hy h=> ?_)
        refine iU (I6 p p1 p2 x1 u5 v1 v2 u3 u1) (K:=3) (V:=3) (s0:=(x0)) ⟨3,3,false,false,1,1,u4.length,yT (au .i64) u4,yS (au .i64) u4,[]⟩ 73 116 (fun i=>(sI (Cn u4 i))) (fun i=>(sI (FR u4 i))) hy [3,4] (by kernel_rfl) (by kernel_rfl) (by kernel_rfl) (fun _ _=> ⟨rfl,rfl⟩) (fun _ _=> ⟨kT _ _,kT _ _⟩) (fun _=>(bB.fin (st':=(afF u1 p p1 p2 v1 x0 x1 v2 u5 u3)) (cs:=[]) ⟨[],[(63,63),(65,65),(67,67),(68,68),(69,69),(70,70),(71,71),(72,72),(74,74),(75,75),(116,116)]⟩ [2,4,9,10,12,13,162] (by kernel_rfl) trivial)) (fun s=>by obtain⟨w5,rfl⟩: ∃q,q=s:=⟨_,rfl⟩;kernel_rfl) (fun B s i s' hi h=> ?_) ?_
        ·clear hy
         unfold jJ at h
         obtain⟨w5,rfl⟩: ∃q,q=s:=⟨_,rfl⟩
         refine Y5 tT (⟨[(2,(vP 63 0)),(4,(vP 65 0)),(9,(vP 67 0)),(10,(vP 72 0)),p9,nZ,(22,(vI (Cn u4 i))),(23,(vI (FR u4 i))),(162,(vP 116 0))],(ain u1 p p1 p2 v1 w5 x1 v2 u5 u3)⟩) {fin:=⟨[],[(63,63),(65,65),(67,67),(68,68),(69,69),(70,70),(71,71),(72,72),(74,74),(75,75),(116,116)]⟩,ts:=[2,4,9,10,12,13,22,23,162] } (cs:=[]) (by kernel_rfl) trivial .refl ?_
         refine aO h fun⟨a1,a2⟩ h=> ?_
         refine di tT mX ⟨aeR,[(fq p p1 p2 v1),bW,(zb u1),(zy u1),(69,some (.arr 3 1 w5.length (Nv u4 u1 i w5))),(pq x1),(rG v2),(rH v2 w5 x1),(Ez u5),(GH u3),(116,none)]⟩ [_,_,_,_,aC w5.length 1 (aeY u4 u1 i w5) (Nv u4 u1 i w5)] {an:=[(13, .arr 0 (Nv u4 u1 i w5))] } [] ⟨a1,(tL a1),a2,(tL a2),(aW _ _ _ _ _ _ _ _ rfl (fun j hj=>(match j,hj with|0,_=>rfl))),trivial⟩ (bB.le (st':=⟨aeR,[(fq p p1 p2 v1),bW,(zb u1),(zy u1),(69,some (abX u4 u1 i w5)),(pq x1),(rG v2),(72,some (.cells 77 [(.own 69 true (adk u4 u1 i w5)),(.own 70 true x1.length),(.own 71 true v2.length)])),(Ez u5),(GH u3),(116,none)]⟩) ⟨⟨tR,tR,tR,tR,tR,tR,tR,trivial⟩,(hN 4 ⟨rfl,oW,(hN 2 ⟨rfl,aJ ⟨cW,bR.refl _,bR.refl _,trivial⟩,(.refl _)⟩)⟩)⟩) ?_
         obtain rfl:=oi h
         exact⟨.inl rfl,by kernel_rfl⟩
        ·clear hy
         obtain⟨u6,rfl⟩: ∃q,q=y4:=⟨_,rfl⟩
         refine aI (fz ⟨[(2,(vP 63 0)),(4,(vP 65 0)),(9,(vP 67 0)),(10,(vP 72 0)),p9,nZ],[(fq p p1 p2 v1),bW,(zb u1),(zy u1),(nG u6),(pq x1),(rG v2),(rH v2 u6 x1),(Ez u5),(GH u3)]⟩ []) ?_
         refine aQ (bE h fun y5 hy h=> ?_)
         refine iU (Jr p p1 p2 v1 v2 u3 u1 u6) (K:=3) (V:=3) (s0:=(x1)) ⟨3,3,false,false,1,1,u5.length,yT (au .i64) u5,yS (au .i64) u5,[]⟩ 74 117 (fun i1=>(sI (Cn u5 i1))) (fun i1=>(sI (FR u5 i1))) hy [3,4] (by kernel_rfl) (by kernel_rfl) (by kernel_rfl) (fun _ _=> ⟨rfl,rfl⟩) (fun _ _=> ⟨kT _ _,kT _ _⟩) (fun _=>(bB.fin (st':=(afS p p1 p2 v1 u1 u6 x1 v2 u3)) (cs:=[]) ⟨[],[(63,63),(65,65),(67,67),(68,68),(69,69),(70,70),(71,71),(72,72),(75,75),(117,117)]⟩ [2,4,9,10,13,182] (by kernel_rfl) trivial)) (fun s=>by obtain⟨w6,rfl⟩: ∃q,q=s:=⟨_,rfl⟩;kernel_rfl) (fun B s i1 s' hi h=> ?_) ?_
         ·clear hy
          unfold jI at h
          obtain⟨w6,rfl⟩: ∃q,q=s:=⟨_,rfl⟩
          refine Y5 tT (⟨[(2,(vP 63 0)),(4,(vP 65 0)),(9,(vP 67 0)),(10,(vP 72 0)),nZ,(24,(vI (Cn u5 i1))),(25,(vI (FR u5 i1))),(182,(vP 117 0))],(ahl p p1 p2 v1 u1 u6 w6 v2 u3)⟩) {fin:=⟨[],[(63,63),(65,65),(67,67),(68,68),(69,69),(70,70),(71,71),(72,72),(75,75),(117,117)]⟩,ts:=[2,4,9,10,13,24,25,182] } (cs:=[]) (by kernel_rfl) trivial .refl ?_
          refine aO h fun⟨a1,a2,a3⟩ h=> ?_
          refine di tT mX ⟨aeu,[(fq p p1 p2 v1),bW,(zb u1),(zy u1),(nG u6),(70,some (.arr 3 1 w6.length (Nc p2 u5 u1 i1 w6))),(rG v2),(rH v2 u6 w6),(GH u3),(117,none)]⟩ [_,_,_,_,_,aC w6.length 1 (ab5 p2 u5 u1 i1 w6) (Nc p2 u5 u1 i1 w6)] {an:=[(19, .arr 0 (Nc p2 u5 u1 i1 w6))] } [] ⟨a1,a2,(tL a2),a3,(tL a3),(aW _ _ _ _ _ _ _ _ rfl (fun j hj=>(match j,hj with|0,_=>rfl))),trivial⟩ (bB.le (st':=⟨aeu,[(fq p p1 p2 v1),bW,(zb u1),(zy u1),(nG u6),(70,some (acD p2 u5 u1 i1 w6)),(rG v2),(72,some (.cells 77 [(.own 69 true u6.length),(.own 70 true (acO p2 u5 u1 i1 w6)),(.own 71 true v2.length)])),(GH u3),(117,none)]⟩) ⟨⟨tR,tR,tR,tR,tR,tR,trivial⟩,(hN 5 ⟨rfl,oW,⟨rfl, .refl _,⟨rfl,aJ ⟨bR.refl _,cW,bR.refl _,trivial⟩,⟨rfl, .refl _,⟨rfl, .refl _,trivial⟩⟩⟩⟩⟩)⟩) ?_
          obtain rfl:=oi h
          exact⟨.inl rfl,by kernel_rfl⟩
         ·clear hy
          obtain⟨u8,rfl⟩: ∃q,q=y5:=⟨_,rfl⟩
          refine aI (fz ⟨[(2,(vP 63 0)),(4,(vP 65 0)),(9,(vP 67 0)),(10,(vP 72 0)),nZ],[(fq p p1 p2 v1),bW,(zb u1),(zy u1),(nG u6),(pq u8),(rG v2),(rH v2 u6 u8),(GH u3)]⟩ []) ?_
          refine aQ (bE h fun y6 hy h=> ?_)
          refine iU (I4 p p1 p2 v1 u1 u6 u8) (K:=164) (V:=3) (s0:=(v2)) ⟨164,3,true,false,2,1,u3.length,yT af.cell u3,yS (au .i64) u3,[]⟩ 75 118 (fun i2=>(.agg (aaM u3 i2))) (fun i2=>(sI (at' (u3.map Prod.snd) i2))) hy [3,4,5] (by kernel_rfl) (by kernel_rfl) (by kernel_rfl) (fun _ _=> ⟨rfl,rfl⟩) (fun _ _=> ⟨Ow rfl,kT _ _⟩) (fun _=>(bB.fin (st':=(ah6 p p1 p2 v1 u1 u6 u8 v2)) (cs:=[]) ⟨[],[(63,63),(65,65),(67,67),(68,68),(69,69),(70,70),(71,71),(72,72),(118,118)]⟩ [2,4,9,10,208] (by kernel_rfl) trivial)) (fun s=>by obtain⟨u9,rfl⟩: ∃q,q=s:=⟨_,rfl⟩;kernel_rfl) (fun B s i2 s' hi h=> ?_) ?_
          ·clear hy
           unfold jH at h
           obtain⟨u9,rfl⟩: ∃q,q=s:=⟨_,rfl⟩
           refine Y5 tT (⟨(ads u3 i2),[(fq p p1 p2 v1),bW,(zb u1),(zy u1),(nG u6),(pq u8),(rG u9),(rH u9 u6 u8),(118,none),(121,some (ac8 u3 i2))]⟩) {fr:=frf [(3,121)],fin:=⟨[],[(63,63),(65,65),(67,67),(68,68),(69,69),(70,70),(71,71),(72,72),(118,118),(121,121)]⟩,ts:=[2,4,9,10,26,27,208] } (cs:=[]) (by kernel_rfl) trivial .refl ?_
           refine bI h (fun hb7 h=> ?_) (fun _ h=> ?_)
           ·skip
            refine aI (bB.le (st':=⟨(ads u3 i2),[(fq p p1 p2 v1),bW,(zb u1),(zy u1),(nG u6),(pq u8),(rG u9),(rH u9 u6 u8),(118,none),(121,some (adH u3 i2))]⟩) ⟨⟨tR,tR,tR,tR,tR,tR,tR,trivial⟩,(hN 9 ⟨rfl,aJ ⟨bR.refl _,bR.of (congrArg (fun n=>CV.d (.int .i64 n)) (of_decide_eq_true hb7)),trivial⟩,trivial⟩)⟩) ?_
            refine aO h fun⟨a1,a2⟩ h=> ?_
            refine di tT mX ⟨Xm,[(fq p p1 p2 v1),bW,(zb u1),(zy u1),(nG u6),(pq u8),(71,some (.arr 164 2 u9.length (NP u1 u3 i2 u9))),(rH u9 u6 u8),(118,none)]⟩ [(0:Int)≤0∧(0:Int)<(2:Nat),(0:Int)≤1∧(1:Int)<(2:Nat),_,_,_,(0:Int)≤0∧(0:Int)<(2:Nat),_,aC u9.length 2 (acy u1 u3 i2 u9) (NP u1 u3 i2 u9)] {an:=[(17, .arr 0 (NP u1 u3 i2 u9))] } [] ⟨((by decide)),((by decide)),a1,(tL a1),a2,((by decide)),(tL a2),(aW _ _ _ _ _ _ _ _ rfl (fun j hj=>(match j,hj with|0,_=>rfl|1,_=>rfl))),trivial⟩ (bB.le (st':=⟨Xm,[(fq p p1 p2 v1),bW,(zb u1),(zy u1),(nG u6),(pq u8),(71,some (acU u1 u3 i2 u9)),(72,some (.cells 77 [(.own 69 true u6.length),(.own 70 true u8.length),(.own 71 true (aeN u1 u3 i2 u9))])),(118,none)]⟩) ⟨⟨tR,tR,tR,tR,tR,trivial⟩,(hN 6 ⟨rfl,oW,⟨rfl,aJ ⟨bR.refl _,bR.refl _,cW,trivial⟩,(.refl _)⟩⟩)⟩) ?_
            obtain rfl:=oi h
            exact⟨.inl rfl,by kernel_rfl⟩
           ·skip
            refine aO h fun a1 h=> ?_
            refine aI (bB.le (st':=⟨(ads u3 i2),[(fq p p1 p2 v1),bW,(zb u1),(zy u1),(nG u6),(pq u8),(rG u9),(rH u9 u6 u8),(118,none),(121,some (aeg u3 i2))]⟩) ⟨⟨tR,tR,tR,tR,tR,tR,tR,trivial⟩,(hN 9 ⟨rfl,aJ ⟨bR.refl _,bR.of (congrArg (fun n=>CV.d (.int .i64 n)) a1),trivial⟩,trivial⟩)⟩) ?_
            refine aO h fun⟨a1,a2⟩ h=> ?_
            refine di tT mX ⟨Xm,[(fq p p1 p2 v1),bW,(zb u1),(zy u1),(nG u6),(pq u8),(71,some (.arr 164 2 u9.length (NV u1 u3 i2 u9))),(rH u9 u6 u8),(118,none)]⟩ [(0:Int)≤0∧(0:Int)<(2:Nat),(0:Int)≤1∧(1:Int)<(2:Nat),_,_,_,(0:Int)≤1∧(1:Int)<(2:Nat),_,aC u9.length 2 (acR u1 u3 i2 u9) (NV u1 u3 i2 u9)] {an:=[(17, .arr 0 (NV u1 u3 i2 u9))] } [] ⟨((by decide)),((by decide)),a1,(tL a1),a2,((by decide)),(tL a2),(aW _ _ _ _ _ _ _ _ rfl (fun j hj=>(match j,hj with|0,_=>rfl|1,_=>rfl))),trivial⟩ (bB.le (st':=⟨Xm,[(fq p p1 p2 v1),bW,(zb u1),(zy u1),(nG u6),(pq u8),(71,some (adr u1 u3 i2 u9)),(72,some (.cells 77 [(.own 69 true u6.length),(.own 70 true u8.length),(.own 71 true (ace u1 u3 i2 u9))])),(118,none)]⟩) ⟨⟨tR,tR,tR,tR,tR,trivial⟩,(hN 6 ⟨rfl,oW,⟨rfl,aJ ⟨bR.refl _,bR.refl _,cW,trivial⟩,(.refl _)⟩⟩)⟩) ?_
            obtain rfl:=oi h
            exact⟨.inl rfl,by kernel_rfl⟩
          ·clear hy
           obtain⟨w2,rfl⟩: ∃q,q=y6:=⟨_,rfl⟩
           refine aI (fz ⟨[(2,(vP 63 0)),(4,(vP 65 0)),(9,(vP 67 0)),(10,(vP 72 0))],[(fq p p1 p2 v1),bW,(zb u1),(zy u1),(nG u6),(pq u8),(rG w2),(rH w2 u6 u8)]⟩ []) ?_
           refine aQ (aO h fun⟨a1,a2,a3⟩ h=> ?_)
           refine rg tT ⟨[(2,(vP 63 0)),(4,(vP 65 0)),(9,(vP 67 0)),(10,(vP 72 0)),(28,(vP 123 0))],[(fq p p1 p2 v1),bW,(zb u1),(zy u1),(nG u6),(pq u8),(rG w2),(rH w2 u6 u8),(WH p),(Yc p)]⟩ [_,(p.buses:Int)=p.buses,_,_,(IZ p).length=p.buses.toNat,aC p.buses.toNat 1 (fun _ j=>[(.bool false)].getD j .nilp) (Ul p)] {an:=[(2, .arr (IZ p).length (Ul p))],fr:=[(2,122),(3,123)] } [] ⟨a1,rfl,a2,a3,(List.length_replicate),(dO _ _ _ _ _ (fun j hj=>(match j,hj with|0,_=>rfl))),trivial⟩ ?_
           refine aQ (aQ (bE h fun um hr_9 h=> ?_))
           have q0:=rk [(0,67),(1,68),(2,124)] (gI u1 hr_9)
           refine ri tT ⟨aix,[(fq p p1 p2 v1),bW,(67,some (aci u1)),(nG u6),(pq u8),(rG w2),(rH w2 u6 u8),(WH p),(Yc p),(124,some (.cells 157 [(.ptr 67 0)]))]⟩ [_,u1.arcs.length=u1.arcs.length] {an:=[(1,cA q0 [67,68])] } [68] ⟨q0,rfl,trivial⟩ (.trans (fz ⟨aix,[(fq p p1 p2 v1),bW,(nG u6),(pq u8),(rG w2),(rH w2 u6 u8),(WH p),(Yc p),(124,some (aco u1))]⟩ [67]) (fz ⟨(aj2 u1),[(fq p p1 p2 v1),bW,(nG u6),(pq u8),(rG w2),(rH w2 u6 u8),(WH p),(Yc p)]⟩ [124])) ?_
           refine aB (bE h fun x4 hr_10 h=> ?_)
           refine jq 125 [(2,(vP 63 0)),(28,(vP 123 0))] [] [125,63,123,122] (.iC []) [(125,some (.loop bY 0 [(2,(vP 63 0)),(28,(vP 123 0))])),(fq p p1 p2 v1),(123,some (.cells 27 [(.own 122 true x4.length)])),(122,some (bg 4 1 ah x4))] (Zb u1) 121 [] (acd u1) [(125,some (.loop bY 0 [(2,(vP 63 0)),(28,(vP 123 0))])),(fq p p1 p2 v1),(Yc p),(WH p)] [(.one (.yl 125)),(sD (Xj u1))] bY 0 [(2,(vP 63 0)),(28,(vP 123 0))] (by kernel_rfl) (by kernel_rfl) (by kernel_rfl) (by kernel_rfl) (by kernel_rfl) (by kernel_rfl) (by kernel_rfl) (rK [(0,125),(1,63),(2,123),(3,122)] (gU u1.arcs u1.from_ (⟨p.buses,p1,p2,v1⟩:ai) (IZ p) hr_10)) (by kernel_rfl) rfl (DL.zero rfl) (bB.fin (st':=⟨(aj2 u1),[(fq p p1 p2 v1),bW,(nG u6),(pq u8),(rG w2),(rH w2 u6 u8),(122,some (bg 4 1 ah x4)),(123,some (.cells 27 [(.own 122 true x4.length)]))]⟩) (cs:=[]) ⟨[],[(63,63),(65,65),(69,69),(70,70),(71,71),(72,72),(122,122),(123,123)]⟩ [2,4,10,28,235] (by kernel_rfl) trivial) ?_
           refine sj tT mX ⟨[(4,(vP 65 0)),(5,(vD (aG (some true) 1 ah x4))),(6,(vI 0))],[(65,some (.cells 77 [(.d (Vd u6)),(.d (Vd u8)),(.d (aG (some true) 2 af.cell w2))]))]⟩ [x4.length=x4.length,u6.length=u6.length,u8.length=u8.length,w2.length=w2.length] {} [69,70,71,122] ⟨rfl,rfl,rfl,rfl,trivial⟩ (fz ⟨[(4,(vD (kH [(Vd u6),(Vd u8),(aG (some true) 2 af.cell w2)] 0))),(5,(vD (aG (some true) 1 ah x4))),(6,(vI 0))],[]⟩ [65]) ?_
           refine aI (bB.le (st':=⟨[(4,(vD (kH [(zR u6),(zR u8),(aG none 2 af.cell w2)] 0))),(5,(vD (aG none 1 ah x4))),(6,(vI 0))],[]⟩) ⟨⟨⟨_,rfl,eX.v (eO.one (bR.d (Aj ⟨dX.nL,dX.nL,dX.nL,trivial⟩)))⟩,⟨_,rfl,eX.v (eO.one (bR.d dX.nL))⟩,tR,trivial⟩,trivial⟩) ?_
           refine aR ?_
           obtain rfl:=oi h
           exact rl [(.agg [(.d (zR u6)),(.d (zR u8)),(.d (aG none 2 af.cell w2))]),(sD (aG none 1 ah x4)),(sI 0)]
       |ret v=>
        obtain rfl:=oi h
        unfold fZ
        intro e st hn ha hR
        cases e with
        |normal=>exact absurd rfl hn
        |exit id=>exact hR
        |goto l=>exact hR
        |ret=>exact hR
        |panic c=>exact hR
        |outgrown=>exact hR
     |ret v=>
      obtain rfl:=oi h
      unfold fZ
      intro e st hn ha hR
      cases e with
      |normal=>exact absurd rfl hn
      |exit id=>exact hR
      |goto l=>exact hR
      |ret=>exact hR
      |panic c=>exact hR
      |outgrown=>exact hR
   |ret v=>
    obtain rfl:=oi h
    unfold fZ
    intro e st hn ha hR
    cases e with
    |normal=>exact absurd rfl hn
    |exit id=>exact hR
    |goto l=>exact hR
    |ret=>exact hR
    |panic c=>exact hR
    |outgrown=>exact hR
def GY  :(Int × (List Source) × (List Link) × (List ax) × (List Bool) × (List Bool) × (List Bool) × (List Bool) × (List Bool) × (List Bool) × (List Bool) × (List Bool))→Exit→St→Prop:=
  fun r=>bJ TT [.tmp 6] (vD (.fn 124 3 (og [(kH [(.int .i64 r.1),(aG none 5 Source.cell r.2.1),(aG none 6 Link.cell r.2.2.1),(aG none 4 ax.cell r.2.2.2.1)] 0),(kH [(aG none 1 ah r.2.2.2.2.1),(aG none 1 ah r.2.2.2.2.2.1),(aG none 1 ah r.2.2.2.2.2.2.1),(aG none 1 ah r.2.2.2.2.2.2.2.1),(aG none 1 ah r.2.2.2.2.2.2.2.2.1),(aG none 1 ah r.2.2.2.2.2.2.2.2.2.1),(aG none 1 ah r.2.2.2.2.2.2.2.2.2.2.1)] 0),(kH [(aG none 1 ah r.2.2.2.2.2.2.2.2.2.2.2)] 0)]))) []
section
variable (p:ai) (s_:State) (u0:(List Bool))
abbrev ahN:List SV:=[(.agg (k5 p)),(.agg (Vl s_)),(sD (aG none 1 ah u0))]
abbrev Tk:DV:=(kH [(aG none 1 ah u0)] 0)
abbrev ag6:=(og [(k10 p),(k75 s_),(Tk u0)])
end
theorem xU (p:ai) (s_:State) (u0:(List Bool)) {r:(Int × (List Source) × (List Link) × (List ax) × (List Bool) × (List Bool) × (List Bool) × (List Bool) × (List Bool) × (List Bool) × (List Bool) × (List Bool))} (h:qc p s_ u0=some r):Fn Try.prog 82 (ahN p s_ u0) [] (vD (.fn 124 3 (og [(kH [(.int .i64 r.1),(aG none 5 Source.cell r.2.1),(aG none 6 Link.cell r.2.2.1),(aG none 4 ax.cell r.2.2.2.1)] 0),(kH [(aG none 1 ah r.2.2.2.2.1),(aG none 1 ah r.2.2.2.2.2.1),(aG none 1 ah r.2.2.2.2.2.2.1),(aG none 1 ah r.2.2.2.2.2.2.2.1),(aG none 1 ah r.2.2.2.2.2.2.2.2.1),(aG none 1 ah r.2.2.2.2.2.2.2.2.2.1),(aG none 1 ah r.2.2.2.2.2.2.2.2.2.2.1)] 0),(kH [(aG none 1 ah r.2.2.2.2.2.2.2.2.2.2.2)] 0)]))) []:=by
 refine fN tT Try.func82 rfl rfl fun B=> ?_
 show bL _ _ _ _ _ _ (GY r) _
 unfold qc at h
 refine sz tT ⟨[(bU p),(bO s_),(5,(vD (Tk u0)))],[]⟩ {fr:=[(0,3),(1,4),(2,5)] } [3,4,5] ?_
 refine sz tT ⟨[(6,(vD (.fn 124 3 (ag6 p s_ u0))))],[]⟩ {} [] ?_
 refine aR ?_
 obtain rfl:=oi h
 exact rl [(sD (.fn 124 3 (ag6 p s_ u0)))]
def gD  :(aj × (List Bool) × Int)→Exit→St→Prop:=
  fun r=>bJ TT [.cell 4 77, .tmp 5, .tmp 6] (.iC [(.agg [(.own 0 false r.1.sources.length),(.own 1 false r.1.links.length),(.own 2 false r.1.racks.length)]),(.one (.own 3 false r.2.1.length)),(sI r.2.2)]) [(0,some (bg 3 1 (au .i64) r.1.sources)),(1,some (bg 3 1 (au .i64) r.1.links)),(2,some (bg 164 2 af.cell r.1.racks)),(3,some (bg 4 1 ah r.2.1)),(4,none)]
section
variable (s_:State) (p:ai) (u1:Int) (n1:(List (List Int))) (n0:(List aV)) (u0:(List (Int × Int)))
abbrev rZ:Nat × TV:=(11,(.v (.one (.mp 77))))
abbrev qa:Nat × TV:=(12,(.v (.one (.mp 78))))
abbrev ou:Nat × TV:=(13,(.v (.one (.mp 79))))
abbrev af5:List (Nat × TV):=[(2,(vP 63 0)),(lW s_),(4,(vP 65 0)),(iN p),(9,(vP 71 0)),(10,(vP 76 0)),rZ,qa,ou,(Bu p),(Bg p),(68,(vI u1))]
abbrev Vv:Nat × Option Ob:=(70,some (.rows 40 1 n1.length (uS oZ n1) none))
abbrev Xf:Nat × Option Ob:=(71,some (.cells 161 [(.own 72 false n0.length),(.own 70 true n1.length)]))
abbrev Oa:Nat × Option Ob:=(72,some (bg 170 2 aV.cell n0))
abbrev Yk:Nat × Option Ob:=(73,some (aeS p))
abbrev NY:Nat × Option Ob:=(74,some (ZB p))
abbrev LU:Nat × Option Ob:=(75,some (aev p))
abbrev WJ:Nat × Option Ob:=(76,some (.cells 77 [(.own 73 true (ac7 p)),(.own 74 true (Sk p)),(.own 75 true (Nr p))]))
abbrev EL:Nat × Option Ob:=(77,some (Vr u0))
abbrev WY:Nat × Option Ob:=(78,some U9)
abbrev N8:Nat × Option Ob:=(79,some ae9)
abbrev Vy:List (Nat × Option Ob):=[(Ae p),bW,(Vv n1),(Xf n1 n0),(Oa n0),(Yk p),(NY p),(LU p),(WJ p),(EL u0),WY,N8]
end
def wG (p:ai) (s_:State):((List aV) × (List (List Int)) × (List (Int × Int)) × Int)→St:=
  fun zz=>match zz with|(n0,n1,u0,u1)=> ⟨(af5 s_ p u1),(Vy p n1 n0 u0)⟩
section
variable (s_:State) (p:ai) (x0:(List Int)) (p1:(List Source)) (u0:(List (List Int))) (u1:(List aV)) (u2:(List (Int × Int)))
abbrev Xh:List (Nat × TV):=[(2,(vP 63 0)),(lW s_),(4,(vP 65 0)),(iN p),(9,(vP 71 0)),(10,(vP 76 0)),rZ,qa,ou]
abbrev mU:Nat × Option Ob:=(73,some (wW x0))
abbrev aaw:Nat × Option Ob:=(76,some (.cells 77 [(.own 73 true x0.length),(.own 74 true (Sk p)),(.own 75 true (Nr p))]))
abbrev agO:List (Nat × Option Ob):=[(Qi p p1),bW,(Vv u0),(Xf u0 u1),(Oa u1),(mU x0),(NY p),(LU p),(aaw p x0),(EL u2),WY,N8]
end
def wD (p:ai) (s_:State):((List Source) × (List aV) × (List (List Int)) × (List Int) × (List (Int × Int)))→St:=
  fun zz=>match zz with|(p1,u1,u0,x0,u2)=> ⟨(Xh s_ p),(agO p x0 p1 u0 u1 u2)⟩
def EB (p:ai) (s_:State):(aU ((List aV) × (List (List Int)) × (List (Int × Int)) × Int) (Ex ((List Source) × (List aV) × (List (List Int)) × (List Int) × (List (Int × Int))) (aj × (List Bool) × Int)))→Exit→St→Prop:=
  LQ 0 [] (wG p s_) (wD p s_) gD
section
variable (s_:State) (p:ai) (u4:Int) (u3:(List (Int × Int))) (p1:(List Source)) (u0:(List (List Int))) (u1:(List aV)) (x0:(List Int)) (u2:(List (Int × Int)))
abbrev ag7:List (Nat × TV):=[(2,(vP 63 0)),(lW s_),(4,(vP 65 0)),(iN p),(9,(vP 71 0)),(10,(vP 76 0)),rZ,qa,ou,(Bn p),(Bo p),(90,(vI u4))]
abbrev Ey:Nat × Option Ob:=(78,some (Vr u3))
abbrev Vo:List (Nat × Option Ob):=[(Qi p p1),bW,(Vv u0),(Xf u0 u1),(Oa u1),(mU x0),(NY p),(LU p),(aaw p x0),(EL u2),(Ey u3),N8]
end
def wL (p:ai) (s_:State) (p1:(List Source)) (x0:(List Int)) (u2:(List (Int × Int))):((List aV) × (List (List Int)) × (List (Int × Int)) × Int)→St:=
  fun zz=>match zz with|(u1,u0,u3,u4)=> ⟨(ag7 s_ p u4),(Vo p u3 p1 u0 u1 x0 u2)⟩
section
variable (x1:(List Int)) (p:ai) (p1:(List Source)) (p2:(List Link)) (u0:(List (List Int))) (u1:(List aV)) (x0:(List Int)) (u2:(List (Int × Int))) (u3:(List (Int × Int)))
abbrev oN:Nat × Option Ob:=(74,some (wW x1))
abbrev ahm:List (Nat × Option Ob):=[(agM p p1 p2),bW,(Vv u0),(Xf u0 u1),(Oa u1),(mU x0),(oN x1),(LU p),(76,some (.cells 77 [(.own 73 true x0.length),(.own 74 true x1.length),(.own 75 true (Nr p))])),(EL u2),(Ey u3),N8]
end
def wN (p:ai) (s_:State) (p1:(List Source)) (x0:(List Int)) (u2:(List (Int × Int))):((List Link) × (List aV) × (List (List Int)) × (List Int) × (List (Int × Int)))→St:=
  fun zz=>match zz with|(p2,u1,u0,x1,u3)=> ⟨(Xh s_ p),(ahm x1 p p1 p2 u0 u1 x0 u2 u3)⟩
def Ej (p:ai) (s_:State) (p1:(List Source)) (x0:(List Int)) (u0:(List (Int × Int))):(aU ((List aV) × (List (List Int)) × (List (Int × Int)) × Int) (Ex ((List Link) × (List aV) × (List (List Int)) × (List Int) × (List (Int × Int))) (aj × (List Bool) × Int)))→Exit→St→Prop:=
  LQ 2 [] (wL p s_ p1 x0 u0) (wN p s_ p1 x0 u0) gD
section
variable (s_:State) (u4:Int) (u6:(List ax)) (u7:Int) (u8:Int) (x2:(List af)) (x0:(List Int)) (x1:(List Int)) (u5:(List (af × Int))) (p:ai) (p1:(List Source)) (p2:(List Link)) (p3:(List ax)) (u0:(List (List Int))) (u1:(List aV)) (u2:(List (Int × Int))) (u3:(List (Int × Int)))
abbrev aho:List (Nat × TV):=[(2,(vP 63 0)),(lW s_),(4,(vP 65 0)),(8,(vI u4)),(9,(vP 71 0)),(10,(vP 76 0)),rZ,qa,ou,(pu u6),(116,(vI u7)),(117,(vI u8))]
abbrev qD:Nat × Option Ob:=(75,some (Ou x2))
abbrev qX:Nat × Option Ob:=(76,some (.cells 77 [(.own 73 true x0.length),(.own 74 true x1.length),(.own 75 true x2.length)]))
abbrev F9:Nat × Option Ob:=(79,some (aeX u5))
abbrev YA:List (Nat × Option Ob):=[(fq p p1 p2 p3),bW,(Vv u0),(Xf u0 u1),(Oa u1),(mU x0),(oN x1),(qD x2),(qX x2 x0 x1),(EL u2),(Ey u3),(F9 u5)]
end
def vz (p:ai) (s_:State) (p1:(List Source)) (x0:(List Int)) (u2:(List (Int × Int))) (p2:(List Link)) (x1:(List Int)) (u3:(List (Int × Int))):((List ax) × Int × (List aV) × (List (List Int)) × (List af) × (List (af × Int)) × (List ax) × Int × Int)→St:=
  fun zz=>match zz with|(p3,u4,u1,u0,x2,u5,u6,u7,u8)=> ⟨(aho s_ u4 u6 u7 u8),(YA x2 x0 x1 u5 p p1 p2 p3 u0 u1 u2 u3)⟩
section
variable (u6:Int) (p:ai) (p1:(List Source)) (p2:(List Link)) (u5:(List ax)) (u0:(List (List Int))) (u1:(List aV)) (x0:(List Int)) (x1:(List Int)) (u2:(List af)) (u3:(List (Int × Int))) (u4:(List (Int × Int))) (u7:(List (af × Int)))
abbrev acB:List (Nat × TV):=[(2,(vP 63 0)),(4,(vP 65 0)),(8,(vI u6)),(9,(vP 71 0)),(10,(vP 76 0)),rZ,qa,ou]
abbrev aiy:St:=⟨(acB u6),(YA u2 x0 x1 u7 p p1 p2 u5 u0 u1 u3 u4)⟩
end
def vR (p:ai) (p1:(List Source)) (x0:(List Int)) (u3:(List (Int × Int))) (p2:(List Link)) (x1:(List Int)) (u4:(List (Int × Int))):((List ax) × Int × (List aV) × (List (List Int)) × (List af) × (List (af × Int)))→St:=
  fun zz=>match zz with|(u5,u6,u1,u0,u2,u7)=>(aiy u6 p p1 p2 u5 u0 u1 x0 x1 u2 u3 u4 u7)
def oK (p:ai) (s_:State) (p1:(List Source)) (x0:(List Int)) (u0:(List (Int × Int))) (p2:(List Link)) (x1:(List Int)) (u1:(List (Int × Int))):(aU ((List ax) × Int × (List aV) × (List (List Int)) × (List af) × (List (af × Int)) × (List ax) × Int × Int) (Ex ((List ax) × Int × (List aV) × (List (List Int)) × (List af) × (List (af × Int))) (aj × (List Bool) × Int)))→Exit→St→Prop:=
  LQ 4 [] (vz p s_ p1 x0 u0 p2 x1 u1) (vR p p1 x0 u0 p2 x1 u1) gD
section
variable (s_:State) (u6:Int) (u0:Int) (u1:(List ax)) (u7:Int) (u9:Int) (p:ai) (p1:(List Source)) (p2:(List Link)) (p3:(List ax)) (u2:(List (List Int))) (u3:(List aV)) (x0:(List Int)) (x1:(List Int)) (x2:(List af)) (u4:(List (Int × Int))) (u5:(List (Int × Int))) (u8:(List (af × Int)))
abbrev ah3:List (Nat × TV):=[(2,(vP 63 0)),(lW s_),(4,(vP 65 0)),(8,(vI u6)),(9,(vP 71 0)),(10,(vP 76 0)),rZ,qa,ou,(18,(vI u0)),(yB u1 u0),(pu u1),(116,(vI u7)),(117,(vI u0)),(Bz u1 u0),(134,(vI u9))]
abbrev Tf:List (Nat × Option Ob):=[(fq p p1 p2 p3),bW,(Vv u2),(71,some (.cells 161 [(.own 115 false u3.length),(.own 70 true u2.length)])),(mU x0),(oN x1),(qD x2),(qX x2 x0 x1),(EL u4),(Ey u5),(F9 u8),(115,some (bg 170 2 aV.cell u3))]
end
def vZ (p:ai) (s_:State) (p1:(List Source)) (x0:(List Int)) (u4:(List (Int × Int))) (p2:(List Link)) (x1:(List Int)) (u5:(List (Int × Int))) (p3:(List ax)) (u6:Int) (x2:(List af)) (u1:(List ax)) (u7:Int) (u0:Int):((List aV) × (List (List Int)) × (List (af × Int)) × Int)→St:=
  fun zz=>match zz with|(u3,u2,u8,u9)=> ⟨(ah3 s_ u6 u0 u1 u7 u9),(Tf p p1 p2 p3 u2 u3 x0 x1 x2 u4 u5 u8)⟩
section
variable (s_:State) (u4:Int) (u5:(List ax)) (u6:Int) (u7:Int) (p:ai) (p1:(List Source)) (p2:(List Link)) (p3:(List ax)) (u0:(List (List Int))) (u1:(List aV)) (x0:(List Int)) (x1:(List Int)) (x2:(List af)) (u2:(List (Int × Int))) (u3:(List (Int × Int))) (u8:(List (af × Int)))
abbrev agA:St:=⟨(aho s_ u4 u5 u6 u7),(Tf p p1 p2 p3 u0 u1 x0 x1 x2 u2 u3 u8)⟩
end
def wR (p:ai) (s_:State) (p1:(List Source)) (x0:(List Int)) (u2:(List (Int × Int))) (p2:(List Link)) (x1:(List Int)) (u3:(List (Int × Int))) (p3:(List ax)) (u4:Int) (x2:(List af)) (u5:(List ax)) (u6:Int) (u7:Int):((List aV) × (List (List Int)) × (List (af × Int)))→St:=
  fun zz=>match zz with|(u1,u0,u8)=>(agA s_ u4 u5 u6 u7 p p1 p2 p3 u0 u1 x0 x1 x2 u2 u3 u8)
def Ep (p:ai) (s_:State) (p1:(List Source)) (x0:(List Int)) (u0:(List (Int × Int))) (p2:(List Link)) (x1:(List Int)) (u1:(List (Int × Int))) (p3:(List ax)) (u2:Int) (x2:(List af)) (u3:(List ax)) (u4:Int) (u5:Int):(aU ((List aV) × (List (List Int)) × (List (af × Int)) × Int) (Ex ((List aV) × (List (List Int)) × (List (af × Int))) (aU ((List ax) × Int × (List aV) × (List (List Int)) × (List af) × (List (af × Int)) × (List ax) × Int × Int) (Ex ((List ax) × Int × (List aV) × (List (List Int)) × (List af) × (List (af × Int))) (aj × (List Bool) × Int)))))→Exit→St→Prop:=
  LQ 6 [5] (vZ p s_ p1 x0 u0 p2 x1 u1 p3 u2 x2 u3 u4 u5) (wR p s_ p1 x0 u0 p2 x1 u1 p3 u2 x2 u3 u4 u5) (oK p s_ p1 x0 u0 p2 x1 u1)
section
variable (u0:Network) (p:ai) (p1:(List Source)) (p2:(List Link)) (u4:(List ax)) (u2:(List Int)) (x1:(List Int)) (u1:(List af)) (u3:(List (Int × Int))) (u5:(List (af × Int)))
abbrev acC:List (Nat × TV):=[(2,(vP 63 0)),(4,(vP 65 0)),(9,(vP 71 0)),(10,(vP 76 0)),qa,ou,(162,(vP 120 0))]
abbrev zu:Nat × Option Ob:=(71,some (.cells 161 [(.own 72 false u0.arcs.length),(.d (Jc u0))]))
abbrev y7:Nat × Option Ob:=(72,some (Vb u0))
abbrev aj1:List (Nat × Option Ob):=[(fq p p1 p2 u4),bW,(zu u0),(y7 u0),(mU u2),(oN x1),(qD u1),(qX u1 u2 x1),(Ey u3),(F9 u5),(120,none)]
abbrev ahj:St:=⟨acC,(aj1 u0 p p1 p2 u4 u2 x1 u1 u3 u5)⟩
end
def E8 (p:ai) (p1:(List Source)) (p2:(List Link)) (x1:(List Int)) (u3:(List (Int × Int))) (u4:(List ax)) (u1:(List af)) (u5:(List (af × Int))) (u0:Network):(List Int)→St:=
  fun u2=>(ahj u0 p p1 p2 u4 u2 x1 u1 u3 u5)
section
variable (p:ai) (p1:(List Source)) (p2:(List Link)) (u4:(List ax)) (u0:Network) (u2:(List Int)) (u3:(List Int)) (u1:(List af)) (u5:(List (af × Int)))
abbrev acw:List (Nat × TV):=[(2,(vP 63 0)),(4,(vP 65 0)),(9,(vP 71 0)),(10,(vP 76 0)),ou,(182,(vP 121 0))]
abbrev ajK:List (Nat × Option Ob):=[(fq p p1 p2 u4),bW,(zu u0),(y7 u0),(mU u2),(oN u3),(qD u1),(qX u1 u2 u3),(F9 u5),(121,none)]
abbrev ahW:St:=⟨acw,(ajK p p1 p2 u4 u0 u2 u3 u1 u5)⟩
end
def ES (p:ai) (p1:(List Source)) (p2:(List Link)) (u4:(List ax)) (u1:(List af)) (u5:(List (af × Int))) (u0:Network) (u2:(List Int)):(List Int)→St:=
  fun u3=>(ahW p p1 p2 u4 u0 u2 u3 u1 u5)
section
variable (p:ai) (p1:(List Source)) (p2:(List Link)) (u4:(List ax)) (u0:Network) (u1:(List Int)) (u2:(List Int)) (u3:(List af))
abbrev Xq:List (Nat × TV):=[(2,(vP 63 0)),(4,(vP 65 0)),(9,(vP 71 0)),(10,(vP 76 0)),(208,(vP 122 0))]
abbrev ail:St:=⟨Xq,[(fq p p1 p2 u4),bW,(zu u0),(y7 u0),(mU u1),(oN u2),(qD u3),(qX u3 u1 u2),(122,none)]⟩
end
def Fa (p:ai) (p1:(List Source)) (p2:(List Link)) (u4:(List ax)) (u0:Network) (u1:(List Int)) (u2:(List Int)):(List af)→St:=
  fun u3=>(ail p p1 p2 u4 u0 u1 u2 u3)
section
variable (r_:Int) (s_:State) (p:ai) (v4:(Int × Network)) (v0:Int) (v9:(List (Int × Int))) (p1:(List Source)) (v5:(Int × Network)) (x0:(List Int)) (u4:(List (Int × Int))) (u7:Int) (w0:(List (Int × Int))) (v7:Int) (u0:Int) (u2:(List ax)) (w1:Int) (x4:(Int × Network)) (p2:(List Link)) (p3:(List ax)) (x1:(List Int)) (x2:(List af)) (u5:(List (Int × Int))) (x9:(List (af × Int))) (v6:(Int × Network)) (v3:Int) (x5:(List aV)) (x6:(List (List Int))) (u1:Network) (u3:(List (af × Int))) (i2:Nat) (u6:(List Int))
abbrev acV:List (Nat × TV):=[(4,(vP 65 0)),(5,(vO 66 false 0)),(6,(vI r_))]
abbrev aeK:Nat × Option Ob:=(66,some (.arr 4 1 0 (ay ah ([]:List Bool))))
abbrev afb:Nat × Option Ob:=(67,some (.arr 3 1 0 (ay (au .i64) ([]:List Int))))
abbrev akg:List CV:=[(.own 0 false (([]:List Int).length)),(.own 1 false (([]:List Int).length)),(.own 2 false (([]:List af).length))]
abbrev aak:List (Nat × TV):=[(2,(vP 63 0)),(lW s_),(4,(vP 65 0)),(iN p),(9,(vP 71 0))]
abbrev ahK:List CV:=[(.d nS),(.own 70 true (Oz p))]
abbrev aij:Nat × Option Ob:=(71,some (.cells 161 (ahK p)))
abbrev Xl:Nat × Option Ob:=(70,some (.rows 40 1 (zo p).length (ab4 p) none))
abbrev aeZ:Nat × Option Ob:=(71,some (.cells 161 [(.own 72 false (([]:List aV).length)),(.own 70 true (Oz p))]))
abbrev adh:Nat × Option Ob:=(72,some (bg 170 2 aV.cell ([]:List aV)))
abbrev ajT:List (Nat × Option Ob):=[(Ae p),bW,(Xl p),(aeZ p),adh,(Yk p),(NY p),(LU p),(WJ p),(77,some U9),WY,N8]
abbrev OH:Nat × Option Ob:=(70,some (.rows 40 1 v4.2.from_.length (uS oZ v4.2.from_) none))
abbrev afO:List (Nat × Option Ob):=[(Ae p),bW,(OH v4),(71,some (.cells 161 [(.own 87 false v4.2.arcs.length),(.own 70 true v4.2.from_.length)])),(Yk p),(NY p),(LU p),(WJ p),(77,some (Jq v0 v4 v9)),WY,N8,(87,some (yE v4))]
abbrev adE:List (Nat × TV):=[(2,(vP 63 0)),(lW s_),(4,(vP 65 0)),(iN p),(9,(vP 71 0)),(10,(vP 76 0)),rZ,qa,ou,(Bu p),(Bg p),(68,(k3 v0))]
abbrev aj7:Nat × Option Ob:=(71,some (.cells 161 [(.own 72 false v4.2.arcs.length),(.own 70 true v4.2.from_.length)]))
abbrev ajw:List (Nat × Option Ob):=[(Qi p p1),bW,(OH v5),(71,some (.cells 161 [(.own 95 false v5.2.arcs.length),(.own 70 true v5.2.from_.length)])),(mU x0),(NY p),(LU p),(aaw p x0),(EL u4),(78,some (Jq u7 v5 w0)),N8,(95,some (yE v5))]
abbrev ad3:List (Nat × TV):=[(2,(vP 63 0)),(lW s_),(4,(vP 65 0)),(iN p),(9,(vP 71 0)),(10,(vP 76 0)),rZ,qa,ou,(Bn p),(Bo p),(90,(k3 u7))]
abbrev ajg:List (Nat × TV):=[(2,(vP 63 0)),(lW s_),(4,(vP 65 0)),(8,(vI v7)),(9,(vP 71 0)),(10,(vP 76 0)),rZ,qa,ou,(18,(vI u0)),(yB u2 u0),(pu u2),(116,(vI w1)),(117,(vI u0))]
abbrev ah7:Nat × Option Ob:=(71,some (.cells 161 [(.own 115 false x4.2.arcs.length),(.own 70 true x4.2.from_.length)]))
abbrev aik:List (Nat × Option Ob):=[(fq p p1 p2 p3),bW,(OH x4),(ah7 x4),(mU x0),(oN x1),(qD x2),(qX x2 x0 x1),(EL u4),(Ey u5),(F9 x9),(Zm x4)]
abbrev agd:Nat × Option Ob:=(71,some (.cells 161 [(.own 119 false v6.2.arcs.length),(.own 70 true v6.2.from_.length)]))
abbrev afd:List (Nat × TV):=[(2,(vP 63 0)),(lW s_),(4,(vP 65 0)),(8,(vI v7)),(9,(vP 71 0)),(10,(vP 76 0)),rZ,qa,ou,(18,(vI u0)),(yB u2 u0),(pu u2),(116,(vI w1)),(117,(vI u0)),(Bz u2 u0),(134,(k3 v3))]
abbrev ahv:List (Nat × TV):=[(2,(vP 63 0)),(lW s_),(4,(vP 65 0)),(8,(vI v7)),(9,(vP 71 0)),(10,(vP 76 0)),rZ,qa,ou,(pu u2),(116,(vI w1)),(117,(k3 u0))]
abbrev ajn:Nat × Option Ob:=(71,some (.cells 161 [(.own 72 false x5.length),(.d (aG (some true) 1 (ML 1 (au .i64)) x6))]))
abbrev ajU:List (Nat × Option Ob):=[(zu u1),(y7 u1)]
abbrev ack:List (Nat × TV):=[(2,(vP 63 0)),(4,(vP 65 0)),(9,(vP 71 0)),(10,(vP 76 0)),(26,(vP 125 0)),(27,(vI (at' (u3.map Prod.snd) i2))),(208,(vP 122 0))]
abbrev WB:Nat × Option Ob:=(126,some (ac1 p))
abbrev Yj:Nat × Option Ob:=(127,some (.cells 27 [(.own 126 true (acn p))]))
abbrev agJ:List (Nat × TV):=[(2,(vP 63 0)),(4,(vP 65 0)),(10,(vP 76 0)),(28,(vP 127 0)),(235,(.v (.one (.fn 121 0 1 (Bq [(.ptr 128 0)])))))]
abbrev ahP:List (Nat × TV):=[(2,(vP 63 0)),(4,(vP 65 0)),(10,(vP 76 0)),(28,(vP 127 0)),(aeV u1)]
abbrev HY:Nat × Option Ob:=(0,some (wW u6))
end
theorem gQ (p:ai) (s_:State) {r:(aj × (List Bool) × Int)} (h:bQ p s_=some r):Fn Try.prog 32 (k98 s_ p) [] (.iC [(.agg [(.own 0 false r.1.sources.length),(.own 1 false r.1.links.length),(.own 2 false r.1.racks.length)]),(.one (.own 3 false r.2.1.length)),(sI r.2.2)]) [(0,some (bg 3 1 (au .i64) r.1.sources)),(1,some (bg 3 1 (au .i64) r.1.links)),(2,some (bg 164 2 af.cell r.1.racks)),(3,some (bg 4 1 ah r.2.1)),(4,none)]:=by
 refine fN tT Try.func32 rfl rfl fun B=> ?_
 show bL _ _ _ _ _ _ (gD r) _
 unfold bQ at h
 refine sz tT (agF p s_) {fr:=[(0,63),(1,64),(2,65)] } [64] ?_
 refine aQ (aQ (bE h fun r_ hr_ h=> ?_))
 have q0:=dL p s_ hr_
 refine rg tT (afA p s_ r_) [_] {an:=[(2,cA q0 [])] } [] ⟨q0,trivial⟩ ?_
 refine sz tT (agQ p s_ r_) {} [] ?_
 refine bI h (fun hb9 h=> ?_) (fun hb9 h=> ?_)
 ·refine ct hb9 ?_
  refine sz tT ⟨[(4,(vP 65 0)),(5,(vD nS)),(6,(vI r_))],[bW]⟩ {} [] ?_
  refine aI (.trans (bB.MQ (t:=5) (b:=66) (esz0:=0) (el0:=fun _ _=> .nilp) (E:=4) (esz:=1) (el:=ay ah ([]:List Bool)) (by kernel_rfl) (by kernel_rfl)) (.trans (bB.rA (E:=0) (esz:=0) (E0:=77) (cs:=[(.d nS),(.d nS),(.d nS)]) (p:=65) (q:=0) (b:=67) (esz0:=0) (el0:=fun _ _=> .nilp) (ob:= .arr 3 1 0 (ay (au .i64) ([]:List Int))) (fun _ _ _ _ h=> .inl ⟨h,rfl⟩) (by kernel_rfl) (by kernel_rfl) (by kernel_rfl)) (.trans (fz ⟨(acV r_),[(65,some (.cells 77 [(.own 67 false 0),(.d nS),(.d nS)])),aeK,afb]⟩ []) (.trans (bB.rA (E:=0) (esz:=0) (E0:=77) (cs:=[(.own 67 false 0),(.d nS),(.d nS)]) (p:=65) (q:=1) (b:=68) (esz0:=0) (el0:=fun _ _=> .nilp) (ob:= .arr 3 1 0 (ay (au .i64) ([]:List Int))) (fun _ _ _ _ h=> .inl ⟨h,rfl⟩) (by kernel_rfl) (by kernel_rfl) (by kernel_rfl)) (.trans (fz ⟨(acV r_),[(65,some (.cells 77 [(.own 67 false 0),(.own 68 false 0),(.d nS)])),aeK,afb,(68,some (.arr 3 1 0 (ay (au .i64) ([]:List Int))))]⟩ []) (.trans (bB.rA (E:=0) (esz:=0) (E0:=77) (cs:=[(.own 67 false 0),(.own 68 false 0),(.d nS)]) (p:=65) (q:=2) (b:=69) (esz0:=0) (el0:=fun _ _=> .nilp) (ob:= .arr 164 2 0 (ay af.cell ([]:List af))) (fun _ _ _ _ h=> .inl ⟨h,rfl⟩) (by kernel_rfl) (by kernel_rfl) (by kernel_rfl)) (.trans (fz ⟨(acV r_),[(65,some (.cells 77 [(.own 67 false 0),(.own 68 false 0),(.own 69 false 0)])),aeK,afb,(68,some (.arr 3 1 0 (ay (au .i64) ([]:List Int)))),(69,some (.arr 164 2 0 (ay af.cell ([]:List af))))]⟩ []) (.trans (bB.fin (st':=⟨[(4,(vP 4 0)),(5,(vO 3 false 0)),(6,(vI r_))],[(0,some (.arr 3 1 0 (ay (au .i64) ([]:List Int)))),(1,some (.arr 3 1 0 (ay (au .i64) ([]:List Int)))),(2,some (.arr 164 2 0 (ay af.cell ([]:List af)))),(3,some (.arr 4 1 0 (ay ah ([]:List Bool)))),(4,some (.cells 77 [(.own 0 false 0),(.own 1 false 0),(.own 2 false 0)]))]⟩) (cs:=[]) ⟨[],[(67,0),(68,1),(69,2),(66,3),(65,4)]⟩ [4,5,6] (by kernel_rfl) trivial) (bB.le (st':=⟨[(4,(vP 4 0)),(5,(vO 3 false (([]:List Bool).length))),(6,(vI r_))],[(0,some Ye),(1,some Ye),(2,some V6),(3,some (bg 4 1 ah ([]:List Bool))),(4,some (.cells 77 akg))]⟩) ⟨⟨tR,⟨_,rfl,eX.v (eO.one cW)⟩,tR,trivial⟩,⟨rfl,oW,⟨rfl,oW,⟨rfl,oW,⟨rfl,oW,⟨rfl,aJ ⟨cW,cW,cW,trivial⟩,trivial⟩⟩⟩⟩⟩⟩))))))))) ?_
  refine aR ?_
  obtain rfl:=oi h
  exact rh [(.agg akg),(.one (.own 3 false (([]:List Bool).length))),(sI r_)] (.refl _) (hN 4 ⟨rfl,trivial,trivial⟩)
 ·refine cf hb9 ?_
  refine aP (sz tT (ajl p s_) {} [] ?_)
  refine aQ (aO h fun⟨a1,a2,a3⟩ h=> ?_)
  refine ri tT ⟨(aak s_ p),[(Ae p),bW,(70,some (.arr 40 1 (zo p).length (fun _ j=>[nS].getD j .nilp))),(aij p)]⟩ [_,(ae0 p)=(Wp p),_,_,(zo p).length=(R9 p),aC (R9 p) 1 (fun _ j=>[nS].getD j .nilp) (fun _ j=>[nS].getD j .nilp)] {an:=[(2, .arr (zo p).length (fun _ j=>[nS].getD j .nilp))],fr:=[(2,70),(4,71)] } [] ⟨a1,rfl,a2,a3,(List.length_replicate),(gy _ _ _),trivial⟩ (.trans (bB.RL (b:=70) (E:=40) (esz:=1) (len:=(zo p).length) (el:=(fun _ j=>[nS].getD j .nilp)) (el':=uS oZ (zo p)) (by kernel_rfl) (fun i hi j hj=>match j,hj with|0,_=>JL _ _ _ _ _ _ _ _)) (.trans (fz ⟨(aak s_ p),[(Ae p),bW,(Xl p),(aij p)]⟩ []) (.trans (bB.rA (E:=0) (esz:=0) (E0:=161) (cs:=(ahK p)) (p:=71) (q:=0) (b:=72) (esz0:=0) (el0:=fun _ _=> .nilp) (ob:= .arr 170 2 0 (ay aV.cell ([]:List aV))) (fun _ _ _ _ h=> .inl ⟨h,rfl⟩) (by kernel_rfl) (by kernel_rfl) (by kernel_rfl)) (.trans (fz ⟨(aak s_ p),[(Ae p),bW,(Xl p),(71,some (.cells 161 [(.own 72 false 0),(.own 70 true (Oz p))])),(72,some (.arr 170 2 0 (ay aV.cell ([]:List aV))))]⟩ []) (bB.le (st':=⟨(aak s_ p),[(Ae p),bW,(Xl p),(aeZ p),adh]⟩) ⟨⟨tR,tR,tR,tR,tR,trivial⟩,(hN 3 ⟨rfl,aJ ⟨cW,bR.refl _,trivial⟩,⟨rfl,oW,trivial⟩⟩)⟩))))) ?_
  refine aQ (aO h fun⟨a1,a2,a3,a4,a5,a6,a7,a8,a9⟩ h=> ?_)
  refine dg tT mX ⟨[(2,(vP 63 0)),(lW s_),(4,(vP 65 0)),(iN p),(9,(vP 71 0)),(10,(vP 76 0))],[(Ae p),bW,(Xl p),(aeZ p),adh,(Yk p),(NY p),(LU p),(WJ p)]⟩ [_,((p.sources.length:Int):Int)=(p.sources.length:Int),_,_,(NR p).length=(RB p),aC (RB p) 1 (fun _ j=>[(.int .i64 0)].getD j .nilp) (U4 p),_,((p.links.length:Int):Int)=(p.links.length:Int),_,_,(JJ p).length=(Ot p),aC (Ot p) 1 (fun _ j=>[(.int .i64 0)].getD j .nilp) (OW p),_,((p.racks.length:Int):Int)=(p.racks.length:Int),_,_,(Ni p).length=(Sw p),aC (Sw p) 2 (fun _ j=>[(.int .i64 0),(.int .i64 0)].getD j .nilp) (UX p)] {an:=[(3, .arr (NR p).length (U4 p)),(7, .arr (JJ p).length (OW p)),(11, .arr (Ni p).length (UX p))],fr:=[(3,73),(7,74),(11,75),(13,76)] } [] ⟨a1,rfl,a2,a3,(List.length_replicate),(dO _ _ _ _ _ (fun j hj=>(match j,hj with|0,_=>rfl))),a4,rfl,a5,a6,(List.length_replicate),(dO _ _ _ _ _ (fun j hj=>(match j,hj with|0,_=>rfl))),a7,rfl,a8,a9,(List.length_replicate),(dO _ _ _ _ _ (fun j hj=>(match j,hj with|0,_=>rfl|1,_=>rfl))),trivial⟩ ?_
  refine sz tT ⟨(Xh s_ p),(ajT p)⟩ {an:=[(0, .map 0 (yT (au .i64) ([]:(List (Int × Int)))) (yS (au .i64) ([]:(List (Int × Int)))) []),(1, .map 0 (yT (au .i64) ([]:(List (Int × Int)))) (yS (au .i64) ([]:(List (Int × Int)))) []),(2, .map 0 (yT af.cell ([]:(List (af × Int)))) (yS (au .i64) ([]:(List (af × Int)))) [])],fr:=[(0,77),(1,78),(2,79)] } [] ?_
  refine aQ (sz tT ⟨[(2,(vP 63 0)),(lW s_),(4,(vP 65 0)),(iN p),(9,(vP 71 0)),(10,(vP 76 0)),rZ,qa,ou,(Bu p),(Bg p),(68,(vI 0))],(ajT p)⟩ {} [] ?_)
  refine bE h fun y hy h=> ?_
  refine aL [] (wG p s_) (wD p s_) gD hy (fun s f h=> ?_) ?_
  ·clear hy
   show bL _ _ _ _ _ _ ((EB p s_) f) _
   unfold iM at h
   obtain⟨n0,n1,v9,v0⟩:=s
   refine sz tT ⟨[(2,(vP 63 0)),(lW s_),(4,(vP 65 0)),(iN p),(9,(vP 71 0)),(10,(vP 76 0)),rZ,qa,ou,(Bu p),(Bg p),(68,(vI v0)),(69,(vB (decide (v0<(p.sources.length:Int)))))],(Vy p n1 n0 v9)⟩ {} [] ?_
   refine aQ ?_
   refine bI h (fun hb1 h=> ?_) (fun hb1 h=> ?_)
   ·refine ct hb1 ?_
    refine aP (aQ (aB (aQ (aO h fun a1 h=> ?_))))
    refine rg tT ⟨[(2,(vP 63 0)),(lW s_),(4,(vP 65 0)),(iN p),(9,(vP 71 0)),(10,(vP 76 0)),rZ,qa,ou,(14,(vI v0)),(Va p v0),(Bu p),(Bg p),(68,(vI v0))],(Vy p n1 n0 v9)⟩ [_] {fr:=[(3,86)] } [86] ⟨a1,trivial⟩ ?_
    refine aQ (bE h fun ui hr_1 h=> ?_)
    have q0:=fF p s_ v0 hr_1
    refine rg tT ⟨[(2,(vP 63 0)),(lW s_),(4,(vP 65 0)),(iN p),(9,(vP 71 0)),(10,(vP 76 0)),rZ,qa,ou,(14,(vI v0)),(Va p v0),(Bu p),(Bg p),(68,(vI v0)),(76,(vB ui))],(Vy p n1 n0 v9)⟩ [_] {an:=[(3,cA q0 [])] } [] ⟨q0,trivial⟩ ?_
    refine bI h (fun hb h=> ?_) (fun hb h=> ?_)
    ·refine ct hb ?_
     refine bE h fun v4 hr_2 h=> ?_
     have q0:=rk [(0,71),(1,72),(2,70),(3,87)] (bG 0 (aed p v0) ((at' p.sources v0.toNat).power) 0 (⟨n0,n1⟩:Network) hr_2)
     refine rg tT ⟨(af5 s_ p v0),(afO p v4 v0 v9)⟩ [_,mI [some .i64] 1 1 v9.length (yT (au .i64) v9) (yS (au .i64) v9) [(.int .i64 v0)] [(cI v4.1)] [] (gN Ff v0 v4.1 v9).length (IX v0 v4 v9) (I9 v0 v4 v9)] {an:=[(8,cA q0 [71,72,70]),(9, .map (gN Ff v0 v4.1 v9).length (IX v0 v4 v9) (I9 v0 v4 v9) [])] } [] ⟨q0,(qm (fun _=>rfl) (fun _ _=>rfl) v9 v0 v4.1 rfl rfl),trivial⟩ ?_
     refine ri tT ⟨(adE s_ p v0),(afO p v4 v0 v9)⟩ [] {} [] trivial (bB.fin (st':=⟨(adE s_ p v0),[(Ae p),bW,(OH v4),(aj7 v4),(72,some (yE v4)),(Yk p),(NY p),(LU p),(WJ p),(77,some (Jq v0 v4 v9)),WY,N8]⟩) (cs:=[]) ⟨[],[(63,63),(65,65),(70,70),(71,71),(87,72),(73,73),(74,74),(75,75),(76,76),(77,77),(78,78),(79,79)]⟩ [2,3,4,8,9,10,11,12,13,66,67,68] (by kernel_rfl) trivial) ?_
     obtain rfl:=oi h
     exact lN
    ·refine cf hb ?_
     refine aP (rz tT ⟨(adE s_ p v0),(Vy p n1 n0 v9)⟩ {} [] ?_)
     obtain rfl:=oi h
     exact lN
   ·refine cf hb1 ?_
    refine aI (fz ⟨(Xh s_ p),(Vy p n1 n0 v9)⟩ []) ?_
    refine aX ?_
    obtain rfl:=oi h
    exact lB
  ·clear hy
   cases y with
   |brk z=>
    obtain⟨p1,ue,uc,x0,u4⟩:=z
    unfold fZ
    refine⟨_, .refl, ?_⟩
    refine aQ (sz tT ⟨[(2,(vP 63 0)),(lW s_),(4,(vP 65 0)),(iN p),(9,(vP 71 0)),(10,(vP 76 0)),rZ,qa,ou,(Bn p),(Bo p),(90,(vI 0))],(agO p x0 p1 uc ue u4)⟩ {} [] ?_)
    refine bE h fun y1 hy h=> ?_
    refine aL [] (wL p s_ p1 x0 u4) (wN p s_ p1 x0 u4) gD hy (fun s f h=> ?_) ?_
    ·clear hy
     show bL _ _ _ _ _ _ ((Ej p s_ p1 x0 u4) f) _
     unfold iG at h
     obtain⟨w7,w3,w0,u7⟩:=s
     refine sz tT ⟨[(2,(vP 63 0)),(lW s_),(4,(vP 65 0)),(iN p),(9,(vP 71 0)),(10,(vP 76 0)),rZ,qa,ou,(Bn p),(Bo p),(90,(vI u7)),(91,(vB (decide (u7<(p.links.length:Int)))))],(Vo p w0 p1 w3 w7 x0 u4)⟩ {} [] ?_
     refine aQ ?_
     refine bI h (fun hb3 h=> ?_) (fun hb3 h=> ?_)
     ·refine ct hb3 ?_
      refine aP (aQ (aB (aQ (aO h fun a1 h=> ?_))))
      refine rg tT ⟨[(2,(vP 63 0)),(lW s_),(4,(vP 65 0)),(iN p),(9,(vP 71 0)),(10,(vP 76 0)),rZ,qa,ou,(16,(vI u7)),(VJ p u7),(Bn p),(Bo p),(90,(vI u7))],(Vo p w0 p1 w3 w7 x0 u4)⟩ [_] {fr:=[(3,94)] } [94] ⟨a1,trivial⟩ ?_
      refine aQ (bE h fun uj hr_3 h=> ?_)
      have q0:=dP (⟨p.buses,p1,p.links,p.racks⟩:ai) s_ u7 hr_3
      refine rg tT ⟨[(2,(vP 63 0)),(lW s_),(4,(vP 65 0)),(iN p),(9,(vP 71 0)),(10,(vP 76 0)),rZ,qa,ou,(16,(vI u7)),(VJ p u7),(Bn p),(Bo p),(90,(vI u7)),(98,(vB uj))],(Vo p w0 p1 w3 w7 x0 u4)⟩ [_] {an:=[(3,cA q0 [])] } [] ⟨q0,trivial⟩ ?_
      refine bI h (fun hb2 h=> ?_) (fun hb2 h=> ?_)
      ·refine ct hb2 ?_
       refine bE h fun v5 hr_4 h=> ?_
       have q0:=rk [(0,71),(1,72),(2,70),(3,95)] (bG (acr p u7) (adp p u7) (NG p u7) (NG p u7) (⟨w7,w3⟩:Network) hr_4)
       refine rg tT ⟨(ag7 s_ p u7),(ajw p p1 v5 x0 u4 u7 w0)⟩ [_,mI [some .i64] 1 1 w0.length (yT (au .i64) w0) (yS (au .i64) w0) [(.int .i64 u7)] [(cI v5.1)] [] (gN Ff u7 v5.1 w0).length (IX u7 v5 w0) (I9 u7 v5 w0)] {an:=[(13,cA q0 [71,72,70]),(14, .map (gN Ff u7 v5.1 w0).length (IX u7 v5 w0) (I9 u7 v5 w0) [])] } [] ⟨q0,(qm (fun _=>rfl) (fun _ _=>rfl) w0 u7 v5.1 rfl rfl),trivial⟩ ?_
       refine ri tT ⟨(ad3 s_ p u7),(ajw p p1 v5 x0 u4 u7 w0)⟩ [] {} [] trivial (bB.fin (st':=⟨(ad3 s_ p u7),[(Qi p p1),bW,(OH v5),(aj7 v5),(72,some (yE v5)),(mU x0),(NY p),(LU p),(aaw p x0),(EL u4),(78,some (Jq u7 v5 w0)),N8]⟩) (cs:=[]) ⟨[],[(63,63),(65,65),(70,70),(71,71),(95,72),(73,73),(74,74),(75,75),(76,76),(77,77),(78,78),(79,79)]⟩ [2,3,4,8,9,10,11,12,13,88,89,90] (by kernel_rfl) trivial) ?_
       obtain rfl:=oi h
       exact lN
      ·refine cf hb2 ?_
       refine aP (rz tT ⟨(ad3 s_ p u7),(Vo p w0 p1 w3 w7 x0 u4)⟩ {} [] ?_)
       obtain rfl:=oi h
       exact lN
     ·refine cf hb3 ?_
      refine aI (fz ⟨(Xh s_ p),(Vo p w0 p1 w3 w7 x0 u4)⟩ []) ?_
      refine aX ?_
      obtain rfl:=oi h
      exact lB
    ·clear hy
     cases y1 with
     |brk z=>
      obtain⟨p2,uf,ud,x1,u5⟩:=z
      unfold fZ
      refine⟨_, .refl, ?_⟩
      refine aQ (sz tT ⟨[(2,(vP 63 0)),(lW s_),(4,(vP 65 0)),(iN p),(9,(vP 71 0)),(10,(vP 76 0)),rZ,qa,ou,(115,(vD (k6 p))),(116,(vI (p.racks.length:Int))),(117,(vI 0))],(ahm x1 p p1 p2 ud uf x0 u4 u5)⟩ {} [] ?_)
      refine bE h fun y3 hy h=> ?_
      refine aL [] (vz p s_ p1 x0 u4 p2 x1 u5) (vR p p1 x0 u4 p2 x1 u5) gD hy (fun s f h=> ?_) ?_
      ·clear hy
       show bL _ _ _ _ _ _ ((oK p s_ p1 x0 u4 p2 x1 u5) f) _
       unfold iF at h
       obtain⟨p3,v7,x7,x3,x2,x9,u2,w1,u0⟩:=s
       refine sz tT ⟨[(2,(vP 63 0)),(lW s_),(4,(vP 65 0)),(8,(vI v7)),(9,(vP 71 0)),(10,(vP 76 0)),rZ,qa,ou,(pu u2),(116,(vI w1)),(117,(vI u0)),(118,(vB (decide (u0<w1))))],(YA x2 x0 x1 x9 p p1 p2 p3 x3 x7 u4 u5)⟩ {} [] ?_
       refine aQ ?_
       refine bI h (fun hb6 h=> ?_) (fun hb6 h=> ?_)
       ·refine ct hb6 ?_
        refine aP (aQ (aB (aQ (aO h fun a1 h=> ?_))))
        refine rg tT ⟨(ajg s_ v7 u0 u2 w1),(YA x2 x0 x1 x9 p p1 p2 p3 x3 x7 u4 u5)⟩ [_] {fr:=[(3,114)] } [114] ⟨a1,trivial⟩ ?_
        refine aQ (bE h fun x4 hr_5 h=> ?_)
        have q0:=rk [(0,71),(1,72),(2,70),(3,115)] (bG (VQ p u0) v7 (Ld u2 u0) 0 (⟨x7,x3⟩:Network) hr_5)
        refine rg tT ⟨(ajg s_ v7 u0 u2 w1),(aik p p1 x0 u4 x4 p2 p3 x1 x2 u5 x9)⟩ [_] {an:=[(9,cA q0 [71,72,70])] } [] ⟨q0,trivial⟩ ?_
        refine sz tT ⟨[(2,(vP 63 0)),(lW s_),(4,(vP 65 0)),(8,(vI v7)),(9,(vP 71 0)),(10,(vP 76 0)),rZ,qa,ou,(18,(vI u0)),(yB u2 u0),(pu u2),(116,(vI w1)),(117,(vI u0)),(Bz u2 u0),(134,(vI 0))],(aik p p1 x0 u4 x4 p2 p3 x1 x2 u5 x9)⟩ {} [] ?_
        refine bE h fun y2 hy h=> ?_
        refine aL [5] (vZ p s_ p1 x0 u4 p2 x1 u5 p3 v7 x2 u2 w1 u0) (wR p s_ p1 x0 u4 p2 x1 u5 p3 v7 x2 u2 w1 u0) (oK p s_ p1 x0 u4 p2 x1 u5) hy (fun s f h=> ?_) ?_
        ·clear hy
         show bL _ _ _ _ _ _ ((Ep p s_ p1 x0 u4 p2 x1 u5 p3 v7 x2 u2 w1 u0) f) _
         unfold fG at h
         obtain⟨w8,w4,w2,v3⟩:=s
         refine sz tT ⟨[(2,(vP 63 0)),(lW s_),(4,(vP 65 0)),(8,(vI v7)),(9,(vP 71 0)),(10,(vP 76 0)),rZ,qa,ou,(18,(vI u0)),(yB u2 u0),(pu u2),(116,(vI w1)),(117,(vI u0)),(Bz u2 u0),(134,(vI v3)),(135,(vB (decide (v3<2))))],(Tf p p1 p2 p3 w4 w8 x0 x1 x2 u4 u5 w2)⟩ {} [] ?_
         refine aQ ?_
         refine bI h (fun hb5 h=> ?_) (fun hb5 h=> ?_)
         ·refine ct hb5 ?_
          refine aP (aQ (aB (aQ (aO h fun a1 h=> ?_))))
          refine rg tT ⟨[(2,(vP 63 0)),(lW s_),(4,(vP 65 0)),(8,(vI v7)),(9,(vP 71 0)),(10,(vP 76 0)),rZ,qa,ou,(18,(vI u0)),(yB u2 u0),(20,(vI v3)),(UF u0 u2 v3),(pu u2),(116,(vI w1)),(117,(vI u0)),(Bz u2 u0),(134,(vI v3))],(Tf p p1 p2 p3 w4 w8 x0 x1 x2 u4 u5 w2)⟩ [_,v3.toNat*1+1≤(SF u2 u0).length,((SF u2 u0).drop (v3.toNat*1)).take 1=(V5 u0 u2 v3).map .d] {an:=[(1, .vals (V5 u0 u2 v3))] } [] ⟨a1,(Vz (n:=2) (sz:=1) (Nat.le_refl _) a1),(VZ (n:=2) (sz:=1) (g:=fun q=>[(cI (at' [(Ko u2 u0).e0,(Ko u2 u0).e1] q))]) (by intro q hq;match q,hq with|0,_=>rfl|1,_=>rfl) a1),trivial⟩ ?_
          refine aQ (bE h fun ul hr_6 h=> ?_)
          have q0:=jR s_ (Tc u0 u2 v3) hr_6
          refine rg tT ⟨[(2,(vP 63 0)),(lW s_),(4,(vP 65 0)),(8,(vI v7)),(9,(vP 71 0)),(10,(vP 76 0)),rZ,qa,ou,(18,(vI u0)),(yB u2 u0),(20,(vI v3)),(UF u0 u2 v3),(pu u2),(116,(vI w1)),(117,(vI u0)),(Bz u2 u0),(134,(vI v3)),(140,(vB ul))],(Tf p p1 p2 p3 w4 w8 x0 x1 x2 u4 u5 w2)⟩ [_] {an:=[(2,cA q0 [])] } [] ⟨q0,trivial⟩ ?_
          refine bI h (fun hb4 h=> ?_) (fun hb4 h=> ?_)
          ·refine ct hb4 ?_
           refine bE h fun v6 hr_7 h=> ?_
           have q0:=rk [(0,71),(1,115),(2,70),(3,119)] (bG (ac0 u0 u2 v3) (VQ p u0) (Ld u2 u0) 0 (⟨w8,w4⟩:Network) hr_7)
           refine rg tT ⟨(ah3 s_ v7 u0 u2 w1 v3),[(fq p p1 p2 p3),bW,(OH v6),(agd v6),(mU x0),(oN x1),(qD x2),(qX x2 x0 x1),(EL u4),(Ey u5),(79,some (TR 164 3 true false 2 1 af.cell (au .i64) (gN (fun a b=>(decide (a.e0=b.e0) && (decide (a.e1=b.e1) && true))) (⟨u0,v3⟩:af) v6.1 w2))),(119,some (yE v6))]⟩ [_,mI [some .i64,some .i64] 2 1 w2.length (yT af.cell w2) (yS (au .i64) w2) [(.int .i64 u0),(.int .i64 v3)] [(cI v6.1)] [] (gN (fun a b=>(decide (a.e0=b.e0) && (decide (a.e1=b.e1) && true))) (⟨u0,v3⟩:af) v6.1 w2).length (yT af.cell (gN (fun a b=>(decide (a.e0=b.e0) && (decide (a.e1=b.e1) && true))) (⟨u0,v3⟩:af) v6.1 w2)) (yS (au .i64) (gN (fun a b=>(decide (a.e0=b.e0) && (decide (a.e1=b.e1) && true))) (⟨u0,v3⟩:af) v6.1 w2))] {an:=[(14,cA q0 [71,115,70]),(15, .map (gN (fun a b=>(decide (a.e0=b.e0) && (decide (a.e1=b.e1) && true))) (⟨u0,v3⟩:af) v6.1 w2).length (yT af.cell (gN (fun a b=>(decide (a.e0=b.e0) && (decide (a.e1=b.e1) && true))) (⟨u0,v3⟩:af) v6.1 w2)) (yS (au .i64) (gN (fun a b=>(decide (a.e0=b.e0) && (decide (a.e1=b.e1) && true))) (⟨u0,v3⟩:af) v6.1 w2)) [])] } [] ⟨q0,(qm (fun _=>rfl) (fun _ _=>rfl) w2 (⟨u0,v3⟩:af) v6.1 rfl rfl),trivial⟩ ?_
           refine ri tT ⟨(afd s_ v7 u0 u2 w1 v3),[(fq p p1 p2 p3),bW,(OH v6),(agd v6),(mU x0),(oN x1),(qD x2),(qX x2 x0 x1),(EL u4),(Ey u5),(79,some (TR 164 3 true false 2 1 af.cell (au .i64) (gN (fun a b=>(decide (a.e0=b.e0) && (decide (a.e1=b.e1) && true))) (⟨u0,v3⟩:af) v6.1 w2))),(119,some (yE v6))]⟩ [] {} [] trivial (bB.fin (st':=⟨(afd s_ v7 u0 u2 w1 v3),[(fq p p1 p2 p3),bW,(OH v6),(ah7 v6),(mU x0),(oN x1),(qD x2),(qX x2 x0 x1),(EL u4),(Ey u5),(79,some (TR 164 3 true false 2 1 af.cell (au .i64) (gN (fun a b=>(decide (a.e0=b.e0) && (decide (a.e1=b.e1) && true))) (⟨u0,v3⟩:af) v6.1 w2))),(Zm v6)]⟩) (cs:=[]) ⟨[],[(63,63),(65,65),(70,70),(71,71),(73,73),(74,74),(75,75),(76,76),(77,77),(78,78),(79,79),(119,115)]⟩ [2,3,4,8,9,10,11,12,13,18,19,115,116,117,133,134] (by kernel_rfl) trivial) ?_
           obtain rfl:=oi h
           exact lN
          ·refine cf hb4 ?_
           refine aP (rz tT ⟨(afd s_ v7 u0 u2 w1 v3),(Tf p p1 p2 p3 w4 w8 x0 x1 x2 u4 u5 w2)⟩ {} [] ?_)
           obtain rfl:=oi h
           exact lN
         ·refine cf hb5 ?_
          refine aI (fz (agA s_ v7 u2 w1 u0 p p1 p2 p3 w4 w8 x0 x1 x2 u4 u5 w2) []) ?_
          refine aX ?_
          obtain rfl:=oi h
          exact lB
        ·clear hy
         cases y2 with
         |brk z=>
          obtain⟨ub,x8,ug⟩:=z
          unfold fZ
          refine⟨_, .refl, ?_⟩
          refine ri tT ⟨(ahv s_ v7 u0 u2 w1),(Tf p p1 p2 p3 x8 ub x0 x1 x2 u4 u5 ug)⟩ [] {} [] trivial (bB.fin (st':=⟨(ahv s_ v7 u0 u2 w1),(YA x2 x0 x1 ug p p1 p2 p3 x8 ub u4 u5)⟩) (cs:=[]) ⟨[],[(63,63),(65,65),(70,70),(71,71),(115,72),(73,73),(74,74),(75,75),(76,76),(77,77),(78,78),(79,79)]⟩ [2,3,4,8,9,10,11,12,13,115,116,117] (by kernel_rfl) trivial) ?_
          obtain rfl:=oi h
          exact lN
         |ret v=>
          obtain rfl:=oi h
          unfold fZ
          intro e st hn ha hR
          cases e with
          |normal=>exact absurd rfl hn
          |exit id=>simp only [rF (b:=5) ha rfl,cond_false];exact hR
          |goto l=>exact hR
          |ret=>exact hR
          |panic c=>exact hR
          |outgrown=>exact hR
       ·refine cf hb6 ?_
        refine aI (fz (aiy v7 p p1 p2 p3 x3 x7 x0 x1 x2 u4 u5 x9) []) ?_
        refine aX ?_
        obtain rfl:=oi h
        exact lB
      ·clear hy
       cases y3 with
       |brk z=>
        obtain⟨v1,ua,x5,x6,v2,u3⟩:=z
        unfold fZ
        refine⟨_, .refl, ?_⟩
        refine aQ (aI (.trans (fi ⟨(acB ua),[(fq p p1 p2 v1),bW,(71,some (.cells 161 [(.own 72 false x5.length),(.d (.sl (some true) 1 x6.length (fun i j=>evD (uS oZ x6 i j))))])),(Oa x5),(mU x0),(oN x1),(qD v2),(qX v2 x0 x1),(EL u4),(Ey u5),(F9 u3)]⟩ [x6.length=x6.length] [70] ⟨rfl,trivial⟩) (bB.le (st':=⟨(acB ua),[(fq p p1 p2 v1),bW,(ajn x5 x6),(Oa x5),(mU x0),(oN x1),(qD v2),(qX v2 x0 x1),(EL u4),(Ey u5),(F9 u3)]⟩) ⟨⟨tR,tR,tR,tR,tR,tR,tR,tR,trivial⟩,(hN 2 ⟨rfl,aJ ⟨bR.refl _,bR.d (dX.sl (.inr rfl) (fun i _ j hj=>match j,hj with|0,_=> .refl _)),trivial⟩,(.refl _)⟩)⟩)) ?_)
        refine bE h fun u1 hr_8 h=> ?_
        refine rg tT ⟨[(2,(vP 63 0)),(4,(vP 65 0)),(9,(vP 71 0)),(10,(vP 76 0)),rZ,qa,ou],[(fq p p1 p2 v1),bW,(zu u1),(y7 u1),(mU x0),(oN x1),(qD v2),(qX v2 x0 x1),(EL u4),(Ey u5),(F9 u3)]⟩ [Fn Try.prog 80 [(.one (.ptr 71 0)),(sI ua)] [(ajn x5 x6),(Oa x5)] (.iC []) (ajU u1)] {an:=[(2, .call [71,72] (.iC []) (ajU u1))] } [] ⟨(Fn.leH (args:=[(.one (.ptr 71 0)),(sI ua)]) (hin:=[(71,some (.cells 161 [(.own 72 false x5.length),(.d (OU x6))])),(Oa x5)]) (rK [(0,71),(1,72)] (kW ua (⟨x5,x6⟩:Network) hr_8)) ⟨eO.refl _,eO.refl _,trivial⟩ ⟨rfl,aJ ⟨bR.refl _,bR.d dX.nL,trivial⟩,(.refl _)⟩),trivial⟩ ?_
        refine aQ (bE h fun y4 hy h=> ?_)
        refine iU (E8 p p1 p2 x1 u5 v1 v2 u3 u1) (K:=3) (V:=3) (s0:=(x0)) ⟨3,3,false,false,1,1,u4.length,yT (au .i64) u4,yS (au .i64) u4,[]⟩ 77 120 (fun i=>(sI (Cn u4 i))) (fun i=>(sI (FR u4 i))) hy [3,4] (by kernel_rfl) (by kernel_rfl) (by kernel_rfl) (fun _ _=> ⟨rfl,rfl⟩) (fun _ _=> ⟨kT _ _,kT _ _⟩) (fun _=>(bB.fin (st':=(ahj u1 p p1 p2 v1 x0 x1 v2 u5 u3)) (cs:=[]) ⟨[],[(63,63),(65,65),(71,71),(72,72),(73,73),(74,74),(75,75),(76,76),(78,78),(79,79),(120,120)]⟩ [2,4,9,10,12,13,162] (by kernel_rfl) trivial)) (fun s=>by obtain⟨w5,rfl⟩: ∃q,q=s:=⟨_,rfl⟩;kernel_rfl) (fun B s i s' hi h=> ?_) ?_
        ·clear hy
         unfold jJ at h
         obtain⟨w5,rfl⟩: ∃q,q=s:=⟨_,rfl⟩
         refine Y5 tT (⟨[(2,(vP 63 0)),(4,(vP 65 0)),(9,(vP 71 0)),(10,(vP 76 0)),qa,ou,(22,(vI (Cn u4 i))),(23,(vI (FR u4 i))),(162,(vP 120 0))],(aj1 u1 p p1 p2 v1 w5 x1 v2 u5 u3)⟩) {fin:=⟨[],[(63,63),(65,65),(71,71),(72,72),(73,73),(74,74),(75,75),(76,76),(78,78),(79,79),(120,120)]⟩,ts:=[2,4,9,10,12,13,22,23,162] } (cs:=[]) (by kernel_rfl) trivial .refl ?_
         refine aO h fun⟨a1,a2⟩ h=> ?_
         refine di tT mX ⟨acC,[(fq p p1 p2 v1),bW,(zu u1),(y7 u1),(73,some (.arr 3 1 w5.length (Nv u4 u1 i w5))),(oN x1),(qD v2),(qX v2 w5 x1),(Ey u5),(F9 u3),(120,none)]⟩ [_,_,_,_,aC w5.length 1 (aeY u4 u1 i w5) (Nv u4 u1 i w5)] {an:=[(13, .arr 0 (Nv u4 u1 i w5))] } [] ⟨a1,(tL a1),a2,(tL a2),(aW _ _ _ _ _ _ _ _ rfl (fun j hj=>(match j,hj with|0,_=>rfl))),trivial⟩ (bB.le (st':=⟨acC,[(fq p p1 p2 v1),bW,(zu u1),(y7 u1),(73,some (abX u4 u1 i w5)),(oN x1),(qD v2),(76,some (.cells 77 [(.own 73 true (adk u4 u1 i w5)),(.own 74 true x1.length),(.own 75 true v2.length)])),(Ey u5),(F9 u3),(120,none)]⟩) ⟨⟨tR,tR,tR,tR,tR,tR,tR,trivial⟩,(hN 4 ⟨rfl,oW,(hN 2 ⟨rfl,aJ ⟨cW,bR.refl _,bR.refl _,trivial⟩,(.refl _)⟩)⟩)⟩) ?_
         obtain rfl:=oi h
         exact⟨.inl rfl,by kernel_rfl⟩
        ·clear hy
         obtain⟨u6,rfl⟩: ∃q,q=y4:=⟨_,rfl⟩
         refine aI (fz ⟨[(2,(vP 63 0)),(4,(vP 65 0)),(9,(vP 71 0)),(10,(vP 76 0)),qa,ou],[(fq p p1 p2 v1),bW,(zu u1),(y7 u1),(mU u6),(oN x1),(qD v2),(qX v2 u6 x1),(Ey u5),(F9 u3)]⟩ []) ?_
         refine aQ (bE h fun y5 hy h=> ?_)
         refine iU (ES p p1 p2 v1 v2 u3 u1 u6) (K:=3) (V:=3) (s0:=(x1)) ⟨3,3,false,false,1,1,u5.length,yT (au .i64) u5,yS (au .i64) u5,[]⟩ 78 121 (fun i1=>(sI (Cn u5 i1))) (fun i1=>(sI (FR u5 i1))) hy [3,4] (by kernel_rfl) (by kernel_rfl) (by kernel_rfl) (fun _ _=> ⟨rfl,rfl⟩) (fun _ _=> ⟨kT _ _,kT _ _⟩) (fun _=>(bB.fin (st':=(ahW p p1 p2 v1 u1 u6 x1 v2 u3)) (cs:=[]) ⟨[],[(63,63),(65,65),(71,71),(72,72),(73,73),(74,74),(75,75),(76,76),(79,79),(121,121)]⟩ [2,4,9,10,13,182] (by kernel_rfl) trivial)) (fun s=>by obtain⟨w6,rfl⟩: ∃q,q=s:=⟨_,rfl⟩;kernel_rfl) (fun B s i1 s' hi h=> ?_) ?_
         ·clear hy
          unfold jI at h
          obtain⟨w6,rfl⟩: ∃q,q=s:=⟨_,rfl⟩
          refine Y5 tT (⟨[(2,(vP 63 0)),(4,(vP 65 0)),(9,(vP 71 0)),(10,(vP 76 0)),ou,(24,(vI (Cn u5 i1))),(25,(vI (FR u5 i1))),(182,(vP 121 0))],(ajK p p1 p2 v1 u1 u6 w6 v2 u3)⟩) {fin:=⟨[],[(63,63),(65,65),(71,71),(72,72),(73,73),(74,74),(75,75),(76,76),(79,79),(121,121)]⟩,ts:=[2,4,9,10,13,24,25,182] } (cs:=[]) (by kernel_rfl) trivial .refl ?_
          refine aO h fun⟨a1,a2,a3⟩ h=> ?_
          refine di tT mX ⟨acw,[(fq p p1 p2 v1),bW,(zu u1),(y7 u1),(mU u6),(74,some (.arr 3 1 w6.length (Nc p2 u5 u1 i1 w6))),(qD v2),(qX v2 u6 w6),(F9 u3),(121,none)]⟩ [_,_,_,_,_,aC w6.length 1 (ab5 p2 u5 u1 i1 w6) (Nc p2 u5 u1 i1 w6)] {an:=[(19, .arr 0 (Nc p2 u5 u1 i1 w6))] } [] ⟨a1,a2,(tL a2),a3,(tL a3),(aW _ _ _ _ _ _ _ _ rfl (fun j hj=>(match j,hj with|0,_=>rfl))),trivial⟩ (bB.le (st':=⟨acw,[(fq p p1 p2 v1),bW,(zu u1),(y7 u1),(mU u6),(74,some (acD p2 u5 u1 i1 w6)),(qD v2),(76,some (.cells 77 [(.own 73 true u6.length),(.own 74 true (acO p2 u5 u1 i1 w6)),(.own 75 true v2.length)])),(F9 u3),(121,none)]⟩) ⟨⟨tR,tR,tR,tR,tR,tR,trivial⟩,(hN 5 ⟨rfl,oW,⟨rfl, .refl _,⟨rfl,aJ ⟨bR.refl _,cW,bR.refl _,trivial⟩,⟨rfl, .refl _,⟨rfl, .refl _,trivial⟩⟩⟩⟩⟩)⟩) ?_
          obtain rfl:=oi h
          exact⟨.inl rfl,by kernel_rfl⟩
         ·clear hy
          obtain⟨u8,rfl⟩: ∃q,q=y5:=⟨_,rfl⟩
          refine aI (fz ⟨[(2,(vP 63 0)),(4,(vP 65 0)),(9,(vP 71 0)),(10,(vP 76 0)),ou],[(fq p p1 p2 v1),bW,(zu u1),(y7 u1),(mU u6),(oN u8),(qD v2),(qX v2 u6 u8),(F9 u3)]⟩ []) ?_
          refine aQ (bE h fun y6 hy h=> ?_)
          refine iU (Fa p p1 p2 v1 u1 u6 u8) (K:=164) (V:=3) (s0:=(v2)) ⟨164,3,true,false,2,1,u3.length,yT af.cell u3,yS (au .i64) u3,[]⟩ 79 122 (fun i2=>(.agg (aaM u3 i2))) (fun i2=>(sI (at' (u3.map Prod.snd) i2))) hy [3,4,5] (by kernel_rfl) (by kernel_rfl) (by kernel_rfl) (fun _ _=> ⟨rfl,rfl⟩) (fun _ _=> ⟨Ow rfl,kT _ _⟩) (fun _=>(bB.fin (st':=(ail p p1 p2 v1 u1 u6 u8 v2)) (cs:=[]) ⟨[],[(63,63),(65,65),(71,71),(72,72),(73,73),(74,74),(75,75),(76,76),(122,122)]⟩ [2,4,9,10,208] (by kernel_rfl) trivial)) (fun s=>by obtain⟨u9,rfl⟩: ∃q,q=s:=⟨_,rfl⟩;kernel_rfl) (fun B s i2 s' hi h=> ?_) ?_
          ·clear hy
           unfold jH at h
           obtain⟨u9,rfl⟩: ∃q,q=s:=⟨_,rfl⟩
           refine Y5 tT (⟨(ack u3 i2),[(fq p p1 p2 v1),bW,(zu u1),(y7 u1),(mU u6),(oN u8),(qD u9),(qX u9 u6 u8),(122,none),(125,some (ac8 u3 i2))]⟩) {fr:=frf [(3,125)],fin:=⟨[],[(63,63),(65,65),(71,71),(72,72),(73,73),(74,74),(75,75),(76,76),(122,122),(125,125)]⟩,ts:=[2,4,9,10,26,27,208] } (cs:=[]) (by kernel_rfl) trivial .refl ?_
           refine bI h (fun hb7 h=> ?_) (fun _ h=> ?_)
           ·skip
            refine aI (bB.le (st':=⟨(ack u3 i2),[(fq p p1 p2 v1),bW,(zu u1),(y7 u1),(mU u6),(oN u8),(qD u9),(qX u9 u6 u8),(122,none),(125,some (adH u3 i2))]⟩) ⟨⟨tR,tR,tR,tR,tR,tR,tR,trivial⟩,(hN 9 ⟨rfl,aJ ⟨bR.refl _,bR.of (congrArg (fun n=>CV.d (.int .i64 n)) (of_decide_eq_true hb7)),trivial⟩,trivial⟩)⟩) ?_
            refine aO h fun⟨a1,a2⟩ h=> ?_
            refine di tT mX ⟨Xq,[(fq p p1 p2 v1),bW,(zu u1),(y7 u1),(mU u6),(oN u8),(75,some (.arr 164 2 u9.length (NP u1 u3 i2 u9))),(qX u9 u6 u8),(122,none)]⟩ [(0:Int)≤0∧(0:Int)<(2:Nat),(0:Int)≤1∧(1:Int)<(2:Nat),_,_,_,(0:Int)≤0∧(0:Int)<(2:Nat),_,aC u9.length 2 (acy u1 u3 i2 u9) (NP u1 u3 i2 u9)] {an:=[(17, .arr 0 (NP u1 u3 i2 u9))] } [] ⟨((by decide)),((by decide)),a1,(tL a1),a2,((by decide)),(tL a2),(aW _ _ _ _ _ _ _ _ rfl (fun j hj=>(match j,hj with|0,_=>rfl|1,_=>rfl))),trivial⟩ (bB.le (st':=⟨Xq,[(fq p p1 p2 v1),bW,(zu u1),(y7 u1),(mU u6),(oN u8),(75,some (acU u1 u3 i2 u9)),(76,some (.cells 77 [(.own 73 true u6.length),(.own 74 true u8.length),(.own 75 true (aeN u1 u3 i2 u9))])),(122,none)]⟩) ⟨⟨tR,tR,tR,tR,tR,trivial⟩,(hN 6 ⟨rfl,oW,⟨rfl,aJ ⟨bR.refl _,bR.refl _,cW,trivial⟩,(.refl _)⟩⟩)⟩) ?_
            obtain rfl:=oi h
            exact⟨.inl rfl,by kernel_rfl⟩
           ·skip
            refine aO h fun a1 h=> ?_
            refine aI (bB.le (st':=⟨(ack u3 i2),[(fq p p1 p2 v1),bW,(zu u1),(y7 u1),(mU u6),(oN u8),(qD u9),(qX u9 u6 u8),(122,none),(125,some (aeg u3 i2))]⟩) ⟨⟨tR,tR,tR,tR,tR,tR,tR,trivial⟩,(hN 9 ⟨rfl,aJ ⟨bR.refl _,bR.of (congrArg (fun n=>CV.d (.int .i64 n)) a1),trivial⟩,trivial⟩)⟩) ?_
            refine aO h fun⟨a1,a2⟩ h=> ?_
            refine di tT mX ⟨Xq,[(fq p p1 p2 v1),bW,(zu u1),(y7 u1),(mU u6),(oN u8),(75,some (.arr 164 2 u9.length (NV u1 u3 i2 u9))),(qX u9 u6 u8),(122,none)]⟩ [(0:Int)≤0∧(0:Int)<(2:Nat),(0:Int)≤1∧(1:Int)<(2:Nat),_,_,_,(0:Int)≤1∧(1:Int)<(2:Nat),_,aC u9.length 2 (acR u1 u3 i2 u9) (NV u1 u3 i2 u9)] {an:=[(17, .arr 0 (NV u1 u3 i2 u9))] } [] ⟨((by decide)),((by decide)),a1,(tL a1),a2,((by decide)),(tL a2),(aW _ _ _ _ _ _ _ _ rfl (fun j hj=>(match j,hj with|0,_=>rfl|1,_=>rfl))),trivial⟩ (bB.le (st':=⟨Xq,[(fq p p1 p2 v1),bW,(zu u1),(y7 u1),(mU u6),(oN u8),(75,some (adr u1 u3 i2 u9)),(76,some (.cells 77 [(.own 73 true u6.length),(.own 74 true u8.length),(.own 75 true (ace u1 u3 i2 u9))])),(122,none)]⟩) ⟨⟨tR,tR,tR,tR,tR,trivial⟩,(hN 6 ⟨rfl,oW,⟨rfl,aJ ⟨bR.refl _,bR.refl _,cW,trivial⟩,(.refl _)⟩⟩)⟩) ?_
            obtain rfl:=oi h
            exact⟨.inl rfl,by kernel_rfl⟩
          ·clear hy
           obtain⟨v8,rfl⟩: ∃q,q=y6:=⟨_,rfl⟩
           refine aI (fz ⟨[(2,(vP 63 0)),(4,(vP 65 0)),(9,(vP 71 0)),(10,(vP 76 0))],[(fq p p1 p2 v1),bW,(zu u1),(y7 u1),(mU u6),(oN u8),(qD v8),(qX v8 u6 u8)]⟩ []) ?_
           refine aQ (aO h fun⟨a1,a2,a3⟩ h=> ?_)
           refine rg tT ⟨[(2,(vP 63 0)),(4,(vP 65 0)),(9,(vP 71 0)),(10,(vP 76 0)),(28,(vP 127 0))],[(fq p p1 p2 v1),bW,(zu u1),(y7 u1),(mU u6),(oN u8),(qD v8),(qX v8 u6 u8),(WB p),(Yj p)]⟩ [_,(p.buses:Int)=p.buses,_,_,(IZ p).length=p.buses.toNat,aC p.buses.toNat 1 (fun _ j=>[(.bool false)].getD j .nilp) (Ul p)] {an:=[(2, .arr (IZ p).length (Ul p))],fr:=[(2,126),(3,127)] } [] ⟨a1,rfl,a2,a3,(List.length_replicate),(dO _ _ _ _ _ (fun j hj=>(match j,hj with|0,_=>rfl))),trivial⟩ ?_
           refine aQ (aQ (bE h fun um hr_9 h=> ?_))
           have q0:=rk [(0,71),(1,72),(2,128)] (gI u1 hr_9)
           refine ri tT ⟨agJ,[(fq p p1 p2 v1),bW,(71,some (aci u1)),(mU u6),(oN u8),(qD v8),(qX v8 u6 u8),(WB p),(Yj p),(128,some (.cells 157 [(.ptr 71 0)]))]⟩ [_,u1.arcs.length=u1.arcs.length] {an:=[(1,cA q0 [71,72])] } [72] ⟨q0,rfl,trivial⟩ (.trans (fz ⟨agJ,[(fq p p1 p2 v1),bW,(mU u6),(oN u8),(qD v8),(qX v8 u6 u8),(WB p),(Yj p),(128,some (aco u1))]⟩ [71]) (fz ⟨(ahP u1),[(fq p p1 p2 v1),bW,(mU u6),(oN u8),(qD v8),(qX v8 u6 u8),(WB p),(Yj p)]⟩ [128])) ?_
           refine aB (bE h fun w9 hr_10 h=> ?_)
           refine jq 129 [(2,(vP 63 0)),(28,(vP 127 0))] [] [129,63,127,126] (.iC []) [(129,some (.loop bY 0 [(2,(vP 63 0)),(28,(vP 127 0))])),(fq p p1 p2 v1),(127,some (.cells 27 [(.own 126 true w9.length)])),(126,some (bg 4 1 ah w9))] (Zb u1) 121 [] (acd u1) [(129,some (.loop bY 0 [(2,(vP 63 0)),(28,(vP 127 0))])),(fq p p1 p2 v1),(Yj p),(WB p)] [(.one (.yl 129)),(sD (Xj u1))] bY 0 [(2,(vP 63 0)),(28,(vP 127 0))] (by kernel_rfl) (by kernel_rfl) (by kernel_rfl) (by kernel_rfl) (by kernel_rfl) (by kernel_rfl) (by kernel_rfl) (rK [(0,129),(1,63),(2,127),(3,126)] (gU u1.arcs u1.from_ (⟨p.buses,p1,p2,v1⟩:ai) (IZ p) hr_10)) (by kernel_rfl) rfl (DL.zero rfl) (bB.fin (st':=⟨(ahP u1),[(fq p p1 p2 v1),bW,(mU u6),(oN u8),(qD v8),(qX v8 u6 u8),(126,some (bg 4 1 ah w9)),(127,some (.cells 27 [(.own 126 true w9.length)]))]⟩) (cs:=[]) ⟨[],[(63,63),(65,65),(73,73),(74,74),(75,75),(76,76),(126,126),(127,127)]⟩ [2,4,10,28,235] (by kernel_rfl) trivial) ?_
           refine sd tT mX ⟨[(4,(vP 65 0)),(5,(vO 126 true w9.length)),(6,(vI 0))],[(65,some (.cells 77 [(.own 73 true u6.length),(.own 74 true u8.length),(.own 75 true v8.length)])),(mU u6),(oN u8),(qD v8),(126,some (bg 4 1 ah w9))]⟩ [] {} [] trivial ?_
           refine aI (.trans (bB.fin (st':=⟨[(4,(vP 4 0)),(5,(vO 3 true w9.length)),(6,(vI 0))],[(HY u6),(1,some (wW u8)),(2,some (Ou v8)),(vQ w9),(4,some (.cells 77 [(.own 0 true u6.length),(.own 1 true u8.length),(.own 2 true v8.length)]))]⟩) (cs:=[]) ⟨[],[(73,0),(74,1),(75,2),(126,3),(65,4)]⟩ [4,5,6] (by kernel_rfl) trivial) (bB.le (st':=⟨[(4,(vP 4 0)),(5,(vO 3 false w9.length)),(6,(vI 0))],[(HY u6),(1,some (wW u8)),(2,some (Ou v8)),(vQ w9),(4,some (.cells 77 [(.own 0 false u6.length),(.own 1 false u8.length),(.own 2 false v8.length)]))]⟩) ⟨⟨tR,⟨_,rfl,eX.v (eO.one (cN))⟩,tR,trivial⟩,(hN 4 ⟨rfl,aJ ⟨cN,cN,cN,trivial⟩,trivial⟩)⟩)) ?_
           refine aR ?_
           obtain rfl:=oi h
           exact rh [(.agg [(.own 0 false u6.length),(.own 1 false u8.length),(.own 2 false v8.length)]),(.one (.own 3 false w9.length)),(sI 0)] (.refl _) (hN 4 ⟨rfl,trivial,trivial⟩)
       |ret v=>
        obtain rfl:=oi h
        unfold fZ
        intro e st hn ha hR
        cases e with
        |normal=>exact absurd rfl hn
        |exit id=>exact hR
        |goto l=>exact hR
        |ret=>exact hR
        |panic c=>exact hR
        |outgrown=>exact hR
     |ret v=>
      obtain rfl:=oi h
      unfold fZ
      intro e st hn ha hR
      cases e with
      |normal=>exact absurd rfl hn
      |exit id=>exact hR
      |goto l=>exact hR
      |ret=>exact hR
      |panic c=>exact hR
      |outgrown=>exact hR
   |ret v=>
    obtain rfl:=oi h
    unfold fZ
    intro e st hn ha hR
    cases e with
    |normal=>exact absurd rfl hn
    |exit id=>exact hR
    |goto l=>exact hR
    |ret=>exact hR
    |panic c=>exact hR
    |outgrown=>exact hR
noncomputable def iH:oG:=⟨[25,26],IW ([1,1,1,1,0,1,0]++[0]) (nP Try.f33),IW ([1,1,1,1,0,1,0]++[1]) (nP Try.f33),35,[]⟩
abbrev DR:Nat × Option Ob:=(0,some (.loop iH 0 [(9,(vP 1 0))]))
def DJ  :(List Part)→Exit→St→Prop:=
  fun r=>nO 0 iH (vB true) [DR,(1,some (.cells 80 [(.own 3 false r.length)])),(2,none),(3,some (bg 117 2 Part.cell r))]
section
variable (u0:(List Part)) (u1:Int) (u2:Int)
abbrev DX:Ob:=(bg 117 2 Part.cell u0)
abbrev Vf:List (Nat × Option Ob):=[DR,(1,some (.cells 80 [(.own 2 false u0.length)])),(2,some (DX u0))]
abbrev acj:List (Nat × TV):=[(9,(vP 1 0)),(10,(vD (kH [(.int .i64 u1),(.int .i64 u2)] 0)))]
abbrev YC:Nat × Option Ob:=(0,some (.loop iH 1 [(9,(vP 1 0))]))
abbrev agj:List (Nat × Option Ob):=[YC,(1,some (.cells 80 [(.own 2 false u0.length)])),(2,some (DX u0))]
abbrev akd:List (Nat × TV):=[(9,(vP 1 0)),(10,(vD (kH [(.int .i64 u1),(.int .i64 u2)] 0))),(29,(vB (!decide (u1=0))))]
end
theorem mY (u1:Int) (u2:Int) (u3:Int) (u0:(List Part)) {r:(List Part)} (h:jO u1 u2 u3 u0=some r):Yl Try.prog 0 [(.agg [(cI u1),(cI u2)]),(sI u3)] (Vf u0) (vB true) [DR,(1,some (.cells 80 [(.own 3 false r.length)])),(2,none),(3,some (bg 117 2 Part.cell r))]:=by
 refine FH (r:=iH) (sl:=[(9,(vP 1 0))]) (sl1:=(acj u1 u2)) (h1:=(Vf u0)) (sl2:=[(9,(vP 1 0))]) (by kernel_rfl) rfl rfl (by kernel_rfl) (fun rd B=> ?_) (by kernel_rfl) (fun rd B=> ?_)
 ·refine r9 (c:=IW ([1,1,1,1,0,1,0]++[0]) (nP Try.f33)) rfl ?_
  refine o7 (st:=⟨[(25,(.v (.agg [(cI u1),(cI u2)]))),(26,(vI u3)),(9,(vP 1 0))],(Vf u0)⟩) (by kernel_rfl) ?_
  refine rz tT ⟨(acj u1 u2),(Vf u0)⟩ {fr:=[(0,6)] } [6] ?_
  exact⟨rfl,rfl⟩
 ·refine r9 (c:=IW ([1,1,1,1,0,1,0]++[1]) (nP Try.f33)) rfl ?_
  refine o7 (st:=⟨(acj u1 u2),(agj u0)⟩) (by kernel_rfl) ?_
  show bL _ _ _ _ _ _ (DJ r) _
  unfold jO at h
  refine aB (sz tT ⟨(akd u1 u2),(agj u0)⟩ {} [] ?_)
  refine bI h (fun hb h=> ?_) (fun hb h=> ?_)
  ·refine ct hb ?_
   refine aO h fun⟨a1,a2⟩ h=> ?_
   refine ri tT ⟨[],[YC,(1,some (.cells 80 [(.own 8 false ((u0++[(⟨u1,u2⟩:Part)]).length))])),(2,none),(8,some (bg 117 2 Part.cell (u0++[(⟨u1,u2⟩:Part)])))]⟩ [[(⟨u1,u2⟩:Part)].length=1,aC 1 2 (jG 2 [(.int .i64 u1),(.int .i64 u2)]) (ay Part.cell [(⟨u1,u2⟩:Part)]),u0.length=u0.length,_,_,(u0++[(⟨u1,u2⟩:Part)]).length=u0.length+[(⟨u1,u2⟩:Part)].length,aC (u0.length+[(⟨u1,u2⟩:Part)].length) 2 (Dn (ay Part.cell u0) u0.length (ay Part.cell [(⟨u1,u2⟩:Part)])) (ay Part.cell (u0++[(⟨u1,u2⟩:Part)]))] {an:=[(2, .arr [(⟨u1,u2⟩:Part)].length (ay Part.cell [(⟨u1,u2⟩:Part)])),(3, .arr (u0++[(⟨u1,u2⟩:Part)]).length (ay Part.cell (u0++[(⟨u1,u2⟩:Part)])))],fr:=[(2,7),(3,8)] } [] ⟨(rfl),((by intro i hi j hj;match i,j,hi,hj with|0,0,_,_=>rfl|0,1,_,_=>rfl)),rfl,a1,a2,(List.length_append),(jY _ _ _ _),trivial⟩ (bB.fin (st':=⟨[],[YC,(1,some (.cells 80 [(.own 3 false ((u0++[(⟨u1,u2⟩:Part)]).length))])),(2,none),(3,some (bg 117 2 Part.cell (u0++[(⟨u1,u2⟩:Part)])))]⟩) (cs:=[]) ⟨[],[(0,0),(1,1),(2,2),(8,3)]⟩ [] (by kernel_rfl) trivial) ?_
   obtain rfl:=oi h
   exact nO.on (sl:=[(9,(vP 1 0))]) (by kernel_rfl) (Ab (by kernel_rfl)) (eX.refl _)
  ·refine cf hb ?_
   refine aI (.trans (bB.XG (E0:=80) (cs:=[(.own 2 false u0.length)]) (nn:=false) (len:=u0.length) (E:=117) (esz:=2) (n:=u0.length) (el:=ay Part.cell u0) (p:=1) (q:=0) (b:=2) (b':=9) (by kernel_rfl) (by kernel_rfl) (by kernel_rfl) (by kernel_rfl)) (.trans (fz ⟨(akd u1 u2),[YC,(1,some (.cells 80 [(.own 9 false u0.length)])),(2,none),(9,some (DX u0))]⟩ []) (bB.fin (st':=⟨[],[YC,(1,some (.cells 80 [(.own 3 false u0.length)])),(2,none),(3,some (DX u0))]⟩) (cs:=[]) ⟨[],[(0,0),(1,1),(2,2),(9,3)]⟩ [] (by kernel_rfl) trivial))) ?_
   refine aP ?_
   obtain rfl:=oi h
   exact nO.on (sl:=[(9,(vP 1 0))]) (by kernel_rfl) (Ab (by kernel_rfl)) (eX.refl _)
def Cr  :Bool→Exit→St→Prop:=
  fun r=>bJ TT [.tmp 3] (vB r) []
theorem Be (b:Int) (x1:(List Bool)) {r:Bool} (h:oJ b x1=some r):Fn Try.prog 125 [(sI b),(sD (Tk x1))] [] (vB r) []:=by
 refine fN tT Try.func125 rfl rfl fun B=> ?_
 show bL _ _ _ _ _ _ (Cr r) _
 unfold oJ at h
 refine sz tT ⟨[(0,(vI b)),(1,(vD (Tk x1)))],[]⟩ {} [] ?_
 refine aQ (aO h fun a1 h=> ?_)
 refine rg tT ⟨[(3,(vB (bif (decide (0≤b))then(at' x1 b.toNat)else false)))],[]⟩ (eqs (decide (0≤b)) 3 ((gP (jP [(2,(decide (0≤b)))]) [(2,true)]→All [(0:Int)≤b∧b<(x1.length:Int)])::(eqs (decide (0≤b)) 2 []))) {yb:=[(2,(decide (0≤b)))] } [] (ae ⟨(fun hg=> ⟨(a1 (aY hg)),trivial⟩),(ae trivial)⟩) ?_
 refine aR ?_
 obtain rfl:=oi h
 exact rl [(sB (bif (decide (0≤b))then(at' x1 b.toNat)else false))]
def jl  :Int→Exit→St→Prop:=
  fun r=>bJ TT [.tmp 4] (vI r) []
section
variable (f_:(List Bool))
abbrev VW:=(og [(Tk f_)])
abbrev Sr:Nat × TV:=(1,(vD (.fn 125 1 (VW f_))))
end
def lQ (s_:(List Int)) (f_:(List Bool)):Int→St:=
  fun t8=> ⟨[(kP s_),(Sr f_),(pz s_),(8,(vI t8))],[]⟩
def l9  :Unit→St:=
  fun _=> ⟨[],[]⟩
def uP (s_:(List Int)) (f_:(List Bool)):(aU Int (Ex Unit Int))→Exit→St→Prop:=
  LQ 0 [] (lQ s_ f_) l9 jl
section
variable (s_:(List Int)) (f_:(List Bool))
abbrev ajY:St:=⟨[(kP s_),(Sr f_)],[]⟩
end
theorem uK (s_:(List Int)) (f_:(List Bool)) {r:Int} (h:jW s_ f_=some r):Fn Try.prog 113 [(sD (zR s_)),(sD (.fn 125 1 (VW f_)))] [] (vI r) []:=by
 refine fN tT Try.func113 rfl rfl fun B=> ?_
 show bL _ _ _ _ _ _ (jl r) _
 unfold jW at h
 refine sz tT (ajY s_ f_) {} [] ?_
 refine aQ (sz tT ⟨[(kP s_),(Sr f_),(pz s_),(8,(vI 0))],[]⟩ {} [] ?_)
 refine bE h fun y hy h=> ?_
 refine aL [] (lQ s_ f_) l9 jl hy (fun s f h=> ?_) ?_
 ·clear hy
  show bL _ _ _ _ _ _ ((uP s_ f_) f) _
  unfold lT at h
  obtain⟨t8,rfl⟩: ∃q,q=s:=⟨_,rfl⟩
  refine sz tT ⟨[(kP s_),(Sr f_),(pz s_),(8,(vI t8)),(WG t8 s_)],[]⟩ {} [] ?_
  refine aQ ?_
  refine bI h (fun hb1 h=> ?_) (fun hb1 h=> ?_)
  ·refine ct hb1 ?_
   refine aP (aQ (aB (sz tT ⟨[(kP s_),(Sr f_),(5,(vI t8)),(pz s_),(8,(vI t8))],[]⟩ {} [] ?_)))
   refine aQ (bE h fun r_ hr_ h=> ?_)
   refine aO h fun a1 h=> ?_
   have q1:=Be (at' s_ t8.toNat) f_ hr_
   refine rg tT ⟨[(kP s_),(Sr f_),(5,(vI t8)),(pz s_),(8,(vI t8)),(16,(vB r_))],[]⟩ [_,_] {an:=[(5,cA q1 [])] } [] ⟨a1,q1,trivial⟩ ?_
   refine bI h (fun hb h=> ?_) (fun hb h=> ?_)
   ·refine ct hb ?_
    refine sz tT ⟨[(4,(vI t8))],[]⟩ {} [] ?_
    refine aR ?_
    obtain rfl:=oi h
    exact lR fQ (fT 0) fU (bJ.mk (.inr rfl) (p:=[]) (l:=[(sI t8)]) (by kernel_rfl) trivial (eX.refl _) trivial)
   ·refine cf hb ?_
    refine aP (rz tT ⟨[(kP s_),(Sr f_),(pz s_),(k31 t8)],[]⟩ {} [] ?_)
    obtain rfl:=oi h
    exact lN
  ·refine cf hb1 ?_
   refine aI (fz ⟨[],[]⟩ []) ?_
   refine aX ?_
   obtain rfl:=oi h
   exact lB
 ·clear hy
  cases y with
  |brk z=>
   unfold fZ
   refine⟨_, .refl, ?_⟩
   refine sz tT ⟨[(4,(vI (-1)))],[]⟩ {} [] ?_
   refine aR ?_
   obtain rfl:=oi h
   exact rl [(sI (-1))]
  |ret v=>
   obtain rfl:=oi h
   unfold fZ
   intro e st hn ha hR
   cases e with
   |normal=>exact absurd rfl hn
   |exit id=>exact hR
   |goto l=>exact hR
   |ret=>exact hR
   |panic c=>exact hR
   |outgrown=>exact hR
def sQ  :Bool→Exit→St→Prop:=
  fun r=>bJ TT [.tmp 4] (vB r) []
theorem kR (s_:(List Int)) (f_:(List Bool)) {r:Bool} (h:gG s_ f_=some r):Fn Try.prog 67 [(sD (zR s_)),(sD (.fn 125 1 (VW f_)))] [] (vB r) []:=by
 refine fN tT Try.func67 rfl rfl fun B=> ?_
 show bL _ _ _ _ _ _ (sQ r) _
 unfold gG at h
 refine sz tT (ajY s_ f_) {} [] ?_
 refine aQ (bE h fun r_ hr_ h=> ?_)
 have q0:=uK s_ f_ hr_
 refine rg tT (k32 r_) [_] {an:=[(2,cA q0 [])] } [] ⟨q0,trivial⟩ ?_
 refine aR ?_
 obtain rfl:=oi h
 exact rl [(sB (decide (0≤r_)))]
def fJ  :(List Part)→Exit→St→Prop:=
  fun r=>bJ TT [] (.iC []) [DR,(1,some (.cells 80 [(.own 3 false r.length)])),(2,none),(3,some (bg 117 2 Part.cell r))]
section
variable (x2:(List Bool)) (u4:(List Bool)) (u5:(List Bool)) (u6:(List Bool)) (u7:(List Bool)) (u8:(List Bool)) (u9:(List Bool)) (x3:(List Bool)) (u0:(List Source)) (x1:Int) (u2:(List Link)) (u3:(List ax)) (v0:Int) (u1:(List Part))
abbrev ajR:DV:=(kH [(aG none 1 ah x2),(aG none 1 ah u4),(aG none 1 ah u5),(aG none 1 ah u6),(aG none 1 ah u7),(aG none 1 ah u8),(aG none 1 ah u9)] 0)
abbrev EZ:Nat × TV:=(2,(vD (ajR x2 u4 u5 u6 u7 u8 u9)))
abbrev uD:Nat × TV:=(3,(vD (Tk x3)))
abbrev SL:Nat × TV:=(13,(vD (k13 u0)))
abbrev SY:Nat × TV:=(14,(vI (u0.length:Int)))
abbrev ag1:List (Nat × TV):=[eZ,(k15 u0 u3 x1 u2),(EZ x2 u4 u5 u6 u7 u8 u9),(uD x3),(SL u0),(SY u0),(15,(vI v0))]
abbrev sN:List (Nat × Option Ob):=[DR,(1,some (.cells 80 [(.own 37 false u1.length)])),(2,none),(37,some (DX u1))]
end
def uq (x1:Int) (u0:(List Source)) (u2:(List Link)) (u3:(List ax)) (x2:(List Bool)) (u4:(List Bool)) (u5:(List Bool)) (u6:(List Bool)) (u7:(List Bool)) (u8:(List Bool)) (u9:(List Bool)) (x3:(List Bool)):((List Part) × Int)→St:=
  fun zz=>match zz with|(u1,v0)=> ⟨(ag1 x2 u4 u5 u6 u7 u8 u9 x3 u0 x1 u2 u3 v0),(sN u1)⟩
section
variable (x1:Int) (u1:(List Source)) (u2:(List Link)) (u3:(List ax)) (x2:(List Bool)) (u4:(List Bool)) (u5:(List Bool)) (u6:(List Bool)) (u7:(List Bool)) (u8:(List Bool)) (u9:(List Bool)) (x3:(List Bool)) (u0:(List Part))
abbrev akb:List (Nat × TV):=[eZ,(k15 u1 u3 x1 u2),(EZ x2 u4 u5 u6 u7 u8 u9),(uD x3)]
abbrev agq:St:=⟨(akb x1 u1 u2 u3 x2 u4 u5 u6 u7 u8 u9 x3),(sN u0)⟩
end
def uh (x1:Int) (u1:(List Source)) (u2:(List Link)) (u3:(List ax)) (x2:(List Bool)) (u4:(List Bool)) (u5:(List Bool)) (u6:(List Bool)) (u7:(List Bool)) (u8:(List Bool)) (u9:(List Bool)) (x3:(List Bool)):(List Part)→St:=
  fun u0=>(agq x1 u1 u2 u3 x2 u4 u5 u6 u7 u8 u9 x3 u0)
def DK (x1:Int) (u0:(List Source)) (u1:(List Link)) (u2:(List ax)) (x2:(List Bool)) (u3:(List Bool)) (u4:(List Bool)) (u5:(List Bool)) (u6:(List Bool)) (u7:(List Bool)) (u8:(List Bool)) (x3:(List Bool)):(aU ((List Part) × Int) (Ex (List Part) (List Part)))→Exit→St→Prop:=
  LQ 0 [] (uq x1 u0 u1 u2 x2 u3 u4 u5 u6 u7 u8 x3) (uh x1 u0 u1 u2 x2 u3 u4 u5 u6 u7 u8 x3) fJ
section
variable (u0:(List Link)) (x1:Int) (u2:(List Source)) (u3:(List ax)) (x2:(List Bool)) (u4:(List Bool)) (u5:(List Bool)) (u6:(List Bool)) (u7:(List Bool)) (u8:(List Bool)) (u9:(List Bool)) (x3:(List Bool)) (v0:Int)
abbrev Tg:Nat × TV:=(43,(vD (aG none 6 Link.cell u0)))
abbrev Rf:Nat × TV:=(44,(vI (u0.length:Int)))
abbrev ahn:List (Nat × TV):=[eZ,(k15 u2 u3 x1 u0),(EZ x2 u4 u5 u6 u7 u8 u9),(uD x3),(Tg u0),(Rf u0),(45,(vI v0))]
end
def tJ (x1:Int) (u2:(List Source)) (u0:(List Link)) (u3:(List ax)) (x2:(List Bool)) (u4:(List Bool)) (u5:(List Bool)) (u6:(List Bool)) (u7:(List Bool)) (u8:(List Bool)) (u9:(List Bool)) (x3:(List Bool)):((List Part) × Int)→St:=
  fun zz=>match zz with|(u1,v0)=> ⟨(ahn u0 x1 u2 u3 x2 u4 u5 u6 u7 u8 u9 x3 v0),(sN u1)⟩
section
variable (x1:Int) (u1:(List Source)) (u2:(List Link)) (u3:(List ax)) (x3:(List Bool)) (u0:(List Part))
abbrev aiU:List (Nat × TV):=[eZ,(k15 u1 u3 x1 u2),(uD x3)]
abbrev ahO:St:=⟨(aiU x1 u1 u2 u3 x3),(sN u0)⟩
end
def uw (x1:Int) (u1:(List Source)) (u2:(List Link)) (u3:(List ax)) (x3:(List Bool)):(List Part)→St:=
  fun u0=>(ahO x1 u1 u2 u3 x3 u0)
def Dy (x1:Int) (u0:(List Source)) (u1:(List Link)) (u2:(List ax)) (x2:(List Bool)) (u3:(List Bool)) (u4:(List Bool)) (u5:(List Bool)) (u6:(List Bool)) (u7:(List Bool)) (u8:(List Bool)) (x3:(List Bool)):(aU ((List Part) × Int) (Ex (List Part) (List Part)))→Exit→St→Prop:=
  LQ 2 [] (tJ x1 u0 u1 u2 x2 u3 u4 u5 u6 u7 u8 x3) (uw x1 u0 u1 u2 x3) fJ
section
variable (u0:(List ax)) (x3:(List Bool)) (u2:Int)
abbrev Pj:Nat × TV:=(78,(vD (k14 u0)))
abbrev QU:Nat × TV:=(79,(vI (u0.length:Int)))
abbrev ah0:List (Nat × TV):=[eZ,(uD x3),(Pj u0),(QU u0),(80,(vI u2))]
end
def tQ (u0:(List ax)) (x3:(List Bool)):((List Part) × Int)→St:=
  fun zz=>match zz with|(u1,u2)=> ⟨(ah0 u0 x3 u2),(sN u1)⟩
def tu  :(List Part)→St:=
  fun o905=> ⟨[],[DR,(1,some (.cells 80 [(.own 37 false o905.length)])),(2,none),(37,some (bg 117 2 Part.cell o905))]⟩
def Dj (u0:(List ax)) (x3:(List Bool)):(aU ((List Part) × Int) (Ex (List Part) (List Part)))→Exit→St→Prop:=
  LQ 4 [] (tQ u0 x3) tu fJ
section
variable (x1:Int) (u1:(List Source)) (u0:(List Link)) (u2:(List ax)) (x2:(List Bool)) (u7:(List Bool)) (u8:(List Bool)) (u9:(List Bool)) (v0:(List Bool)) (v1:(List Bool)) (v2:(List Bool)) (x3:(List Bool)) (u4:Int) (r_:Bool) (v8:(List Part)) (v5:(List Part)) (u3:Int) (u5:Bool) (v9:(List Part)) (u6:Int) (v3:Bool) (w0:(List Part))
abbrev ajb:List SV:=[(.one (.yl 0)),(sD (k12 u1 u2 x1 u0)),(sD (ajR x2 u7 u8 u9 v0 v1 v2)),(sD (Tk x3))]
abbrev aaP:List (Nat × TV):=[eZ,(k15 u1 u2 x1 u0),(EZ x2 u7 u8 u9 v0 v1 v2),(uD x3),(SL u1),(SY u1),(15,(vI 0))]
abbrev ahI:List (Nat × TV):=[eZ,(k15 u1 u2 x1 u0),(EZ x2 u7 u8 u9 v0 v1 v2),(uD x3),(SL u1),(SY u1),(15,(vI u4)),(16,(vB (decide (u4<(u1.length:Int)))))]
abbrev agy:List (Nat × TV):=[eZ,(k15 u1 u2 x1 u0),(EZ x2 u7 u8 u9 v0 v1 v2),(uD x3),(5,(vI u4)),(6,(vD (kH [(.int .i64 ((at' u1 u4.toNat).bus)),(.int .i64 ((at' u1 u4.toNat).kind)),(.int .i64 ((at' u1 u4.toNat).power)),(.int .i64 ((at' u1 u4.toNat).sync)),(.int .i64 ((at' u1 u4.toNat).iR))] 0))),(SL u1),(SY u1),(15,(vI u4))]
abbrev sM:=(bif r_ then(!(at' x3 (((at' u1 u4.toNat).bus).toNat)))else false)
abbrev acQ:List (Nat × TV):=[eZ,(k15 u1 u2 x1 u0),(EZ x2 u7 u8 u9 v0 v1 v2),(uD x3),(SL u1),(SY u1),(15,(vI u4)),(40,(vB (bif (sM u1 x3 u4 r_)then false else false)))]
abbrev adO:List (Nat × Option Ob):=[DR,(1,some (.cells 80 [(.own 41 false v8.length)])),(2,none),(41,some (DX v8))]
abbrev afG:=(gP (jP [(4,r_),(12,true)]) [(4,true)]→All [(0:Int)≤(at' u1 u4.toNat).bus∧(at' u1 u4.toNat).bus<(x3.length:Int)])
abbrev aeG:List (Nat × Option Ob):=[DR,(1,some (.cells 80 [(.own 37 false v5.length)])),(37,some (DX v5))]
abbrev afL:List (Nat × Option Ob):=[DR,(1,some (.cells 80 [(.own 41 false v8.length)])),(37,none),(41,some (DX v8))]
abbrev acP:List (Nat × TV):=[eZ,(k15 u1 u2 x1 u0),(EZ x2 u7 u8 u9 v0 v1 v2),(uD x3),(SL u1),(SY u1),(15,(vI u4)),(40,(vB false))]
abbrev aeE:List (Nat × TV):=[eZ,(k15 u1 u2 x1 u0),(EZ x2 u7 u8 u9 v0 v1 v2),(uD x3),(SL u1),(SY u1),(15,(k3 u4))]
abbrev ajL:St:=⟨(aeE x1 u1 u0 u2 x2 u7 u8 u9 v0 v1 v2 x3 u4),(sN v8)⟩
abbrev QG:=(jP [(4,r_),(12,false)])
abbrev agL:=(eqs r_ 4 ((gP (QG r_) [(4,true)]→All [(0:Int)≤(at' u1 u4.toNat).bus∧(at' u1 u4.toNat).bus<(x3.length:Int)])::(eqs r_ 3 [(sM u1 x3 u4 r_)=false, ¬ gP (QG r_) [(12,true)],(sM u1 x3 u4 r_)=false, ¬ gP (QG r_) [(12,true)],(sM u1 x3 u4 r_)=false, ¬ gP (QG r_) [(12,true)],(sM u1 x3 u4 r_)=false, ¬ gP (QG r_) [(12,true)],(sM u1 x3 u4 r_)=false, ¬ gP (QG r_) [(12,true)],(sM u1 x3 u4 r_)=false, ¬ gP (QG r_) [(12,true)],(sM u1 x3 u4 r_)=false, ¬ gP (QG r_) [(12,true)],(sM u1 x3 u4 r_)=false])))
abbrev aga:List (Nat × TV):=[eZ,(k15 u1 u2 x1 u0),(EZ x2 u7 u8 u9 v0 v1 v2),(uD x3),(Tg u0),(Rf u0),(45,(vI 0))]
abbrev aif:List (Nat × TV):=[eZ,(k15 u1 u2 x1 u0),(EZ x2 u7 u8 u9 v0 v1 v2),(uD x3),(Tg u0),(Rf u0),(45,(vI u3)),(46,(vB (decide (u3<(u0.length:Int)))))]
abbrev ajj:List (Nat × TV):=[eZ,(k15 u1 u2 x1 u0),(EZ x2 u7 u8 u9 v0 v1 v2),(uD x3),(7,(vI u3)),(8,(vD (kH [(.int .i64 ((at' u0 u3.toNat).a)),(.int .i64 ((at' u0 u3.toNat).b)),(.int .i64 ((at' u0 u3.toNat).kind)),(.int .i64 ((at' u0 u3.toNat).most)),(.int .i64 ((at' u0 u3.toNat).iR)),(aG none 2 je.cell ((at' u0 u3.toNat).trip))] 0))),(Tg u0),(Rf u0),(45,(vI u3))]
abbrev sK:=(bif u5 then(!((at' x3 (((at' u0 u3.toNat).a).toNat))==(at' x3 (((at' u0 u3.toNat).b).toNat))))else false)
abbrev aeT:List (Nat × TV):=[eZ,(k15 u1 u2 x1 u0),(EZ x2 u7 u8 u9 v0 v1 v2),(uD x3),(Tg u0),(Rf u0),(45,(vI u3)),(75,(vB (bif (sK u0 x3 u3 u5)then false else false)))]
abbrev aeI:List (Nat × Option Ob):=[DR,(1,some (.cells 80 [(.own 50 false v9.length)])),(2,none),(50,some (DX v9))]
abbrev Uu:=(jP [(4,u5),(17,true)])
abbrev ajq:=(gP (Uu u5) [(4,true)]→All [(0:Int)≤(at' u0 u3.toNat).a∧(at' u0 u3.toNat).a<(x3.length:Int)])
abbrev afH:=(gP (Uu u5) [(4,true)]→All [(0:Int)≤(at' u0 u3.toNat).b∧(at' u0 u3.toNat).b<(x3.length:Int)])
abbrev aiA:List (Nat × Option Ob):=[DR,(1,some (.cells 80 [(.own 50 false v9.length)])),(37,none),(50,some (DX v9))]
abbrev aeC:List (Nat × TV):=[eZ,(k15 u1 u2 x1 u0),(EZ x2 u7 u8 u9 v0 v1 v2),(uD x3),(Tg u0),(Rf u0),(45,(vI u3)),(75,(vB false))]
abbrev ae2:List (Nat × TV):=[eZ,(k15 u1 u2 x1 u0),(EZ x2 u7 u8 u9 v0 v1 v2),(uD x3),(Tg u0),(Rf u0),(45,(k3 u3))]
abbrev aiR:St:=⟨(ae2 x1 u1 u0 u2 x2 u7 u8 u9 v0 v1 v2 x3 u3),(sN v9)⟩
abbrev Ng:=(jP [(4,u5),(17,false)])
abbrev aiu:=(eqs u5 4 ((gP (Ng u5) [(4,true)]→All [(0:Int)≤(at' u0 u3.toNat).a∧(at' u0 u3.toNat).a<(x3.length:Int)])::(eqs u5 5 ((gP (Ng u5) [(4,true)]→All [(0:Int)≤(at' u0 u3.toNat).b∧(at' u0 u3.toNat).b<(x3.length:Int)])::(eqs u5 3 [(sK u0 x3 u3 u5)=false, ¬ gP (Ng u5) [(17,true)],(sK u0 x3 u3 u5)=false, ¬ gP (Ng u5) [(17,true)],(sK u0 x3 u3 u5)=false, ¬ gP (Ng u5) [(17,true)],(sK u0 x3 u3 u5)=false, ¬ gP (Ng u5) [(17,true)],(sK u0 x3 u3 u5)=false, ¬ gP (Ng u5) [(17,true)],(sK u0 x3 u3 u5)=false, ¬ gP (Ng u5) [(17,true)],(sK u0 x3 u3 u5)=false, ¬ gP (Ng u5) [(17,true)],(sK u0 x3 u3 u5)=false])))))
abbrev agc:List (Nat × TV):=[eZ,(uD x3),(Pj u2),(QU u2),(80,(vI 0))]
abbrev ahM:List (Nat × TV):=[eZ,(uD x3),(Pj u2),(QU u2),(80,(vI u6)),(81,(vB (decide (u6<(u2.length:Int)))))]
abbrev agE:Nat × TV:=(10,(ajX u2 u6))
abbrev aiM:List (Nat × TV):=[eZ,(uD x3),(9,(vI u6)),(agE u2 u6),(Pj u2),(QU u2),(80,(vI u6))]
abbrev agr:List (Nat × TV):=[eZ,(uD x3),(9,(vI u6)),(agE u2 u6),(11,(vB v3)),(Pj u2),(QU u2),(80,(vI u6))]
abbrev ah8:List SV:=[(sD (aG none 1 (au .i64) [(Ko u2 u6).e0,(Ko u2 u6).e1])),(sD (.fn 125 1 (VW x3)))]
abbrev adP:List (Nat × TV):=[eZ,(uD x3),(Pj u2),(QU u2),(80,(vI u6)),(98,(vB (bif v3 then false else false)))]
abbrev aes:List (Nat × Option Ob):=[DR,(1,some (.cells 80 [(.own 58 false w0.length)])),(2,none),(58,some (DX w0))]
abbrev aiW:List (Nat × Option Ob):=[DR,(1,some (.cells 80 [(.own 58 false w0.length)])),(37,none),(58,some (DX w0))]
abbrev adb:List (Nat × TV):=[eZ,(uD x3),(Pj u2),(QU u2),(80,(vI u6)),(98,(vB false))]
abbrev adl:List (Nat × TV):=[eZ,(uD x3),(Pj u2),(QU u2),(80,(k3 u6))]
abbrev ajt:St:=⟨(adl u2 x3 u6),(sN w0)⟩
end
theorem Dz (x1:Int) (u1:(List Source)) (u0:(List Link)) (u2:(List ax)) (x2:(List Bool)) (u7:(List Bool)) (u8:(List Bool)) (u9:(List Bool)) (v0:(List Bool)) (v1:(List Bool)) (v2:(List Bool)) (x3:(List Bool)) (v7:(List Part)) {r:(List Part)} (h:rE x1 u1 u0 u2 x2 u7 u8 u9 v0 v1 v2 x3 v7=some r):Fn Try.prog 124 (ajb x1 u1 u0 u2 x2 u7 u8 u9 v0 v1 v2 x3) (Vf v7) (.iC []) [DR,(1,some (.cells 80 [(.own 3 false r.length)])),(2,none),(3,some (bg 117 2 Part.cell r))]:=by
 refine fN tT Try.func124 rfl rfl fun B=> ?_
 show bL _ _ _ _ _ _ (fJ r) _
 unfold rE at h
 refine aQ (sz tT ⟨(aaP x1 u1 u0 u2 x2 u7 u8 u9 v0 v1 v2 x3),(Vf v7)⟩ {} [] ?_)
 refine bE h fun y hy h=> ?_
 refine aI (.trans (bB.XG (E0:=80) (cs:=[(.own 2 false v7.length)]) (nn:=false) (len:=v7.length) (E:=117) (esz:=2) (n:=v7.length) (el:=ay Part.cell v7) (p:=1) (q:=0) (b:=2) (b':=42) (by kernel_rfl) (by kernel_rfl) (by kernel_rfl) (by kernel_rfl)) (.trans (fz ⟨(aaP x1 u1 u0 u2 x2 u7 u8 u9 v0 v1 v2 x3),[DR,(1,some (.cells 80 [(.own 42 false v7.length)])),(2,none),(42,some (DX v7))]⟩ []) (bB.fin (st':=⟨(aaP x1 u1 u0 u2 x2 u7 u8 u9 v0 v1 v2 x3),(sN v7)⟩) (cs:=[]) ⟨[],[(0,0),(1,1),(2,2),(42,37)]⟩ [0,1,2,3,13,14,15] (by kernel_rfl) trivial))) ?_
 refine aL [] (uq x1 u1 u0 u2 x2 u7 u8 u9 v0 v1 v2 x3) (uh x1 u1 u0 u2 x2 u7 u8 u9 v0 v1 v2 x3) fJ hy (fun s f h=> ?_) ?_
 ·clear hy
  show bL _ _ _ _ _ _ ((DK x1 u1 u0 u2 x2 u7 u8 u9 v0 v1 v2 x3) f) _
  unfold tO at h
  obtain⟨v5,u4⟩:=s
  refine sz tT ⟨(ahI x1 u1 u0 u2 x2 u7 u8 u9 v0 v1 v2 x3 u4),(sN v5)⟩ {} [] ?_
  refine aQ ?_
  refine bI h (fun hb1 h=> ?_) (fun hb1 h=> ?_)
  ·refine ct hb1 ?_
   refine aP (aQ (aB (aQ (aO h fun a1 h=> ?_))))
   refine rg tT ⟨(agy x1 u1 u0 u2 x2 u7 u8 u9 v0 v1 v2 x3 u4),(sN v5)⟩ [_] {fr:=[(3,40)] } [40] ⟨a1,trivial⟩ ?_
   refine aQ (bE h fun r_ hr_ h=> ?_)
   refine bI h (fun hb h=> ?_) (fun hb h=> ?_)
   ·skip
    refine bE h fun v8 hr_1 h=> ?_
    refine aO h fun a1 h=> ?_
    have q0:=fF (⟨x1,u1,u0,u2⟩:ai) (⟨x2,u7,u8,u9,v0,v1,v2⟩:State) u4 hr_
    refine ri tT ⟨(acQ x1 u1 u0 u2 x2 u7 u8 u9 v0 v1 v2 x3 u4 r_),(adO v8)⟩ (_::(eqs r_ 4 ((afG u1 x3 u4 r_)::(eqs r_ 3 [(sM u1 x3 u4 r_)=true,(sM u1 x3 u4 r_)=true,(sM u1 x3 u4 r_)=true,(sM u1 x3 u4 r_)=true,(sM u1 x3 u4 r_)=true,(sM u1 x3 u4 r_)=true,gP (jP [(4,r_),(12,true)]) [(12,true)]→All [Yl Try.prog 0 [(.agg [(cI 2),(cI u4)]),(sI ((at' u1 u4.toNat).power))] (aeG v5) (vB true) (afL v8)],gP (jP [(4,r_),(12,true)]) [(12,true)],(sM u1 x3 u4 r_)=true,(sM u1 x3 u4 r_)=true])))) {yb:=[(4,r_),(12,true)],an:=[(3,cA q0 []),(18, .call [0,1,37] (vB true) (afL v8))] } [] ⟨q0,(ae ⟨(fun hg=> ⟨(a1 (aY hg)),trivial⟩),(ae ⟨(hb),(hb),(hb),(hb),(hb),(hb),(fun hg=> ⟨(yK [(2,37),(3,41)] (mY 2 u4 ((at' u1 u4.toNat).power) v5 hr_1)),trivial⟩),(⟨rfl,trivial⟩),(hb),(hb),trivial⟩)⟩)⟩ (bB.le (st':=⟨(acP x1 u1 u0 u2 x2 u7 u8 u9 v0 v1 v2 x3 u4),(adO v8)⟩) ⟨⟨tR,tR,tR,tR,tR,tR,tR,⟨_,rfl,eX.v (eO.one (bR.of (congrArg (fun b=>CV.d (.bool b)) (DI hb))))⟩,trivial⟩,(.refl _)⟩) ?_
    refine cn (aP (ri tT ⟨(aeE x1 u1 u0 u2 x2 u7 u8 u9 v0 v1 v2 x3 u4),(adO v8)⟩ [] {} [] trivial (bB.fin (st':=(ajL x1 u1 u0 u2 x2 u7 u8 u9 v0 v1 v2 x3 u4 v8)) (cs:=[]) ⟨[],[(0,0),(1,1),(2,2),(41,37)]⟩ [0,1,2,3,13,14,15] (by kernel_rfl) trivial) ?_))
    obtain rfl:=oi h
    exact lN
   ·skip
    refine aO h fun a1 h=> ?_
    have q0:=fF (⟨x1,u1,u0,u2⟩:ai) (⟨x2,u7,u8,u9,v0,v1,v2⟩:State) u4 hr_
    refine ri tT ⟨(acQ x1 u1 u0 u2 x2 u7 u8 u9 v0 v1 v2 x3 u4 r_),(sN v5)⟩ (_::(agL u1 x3 u4 r_)) {yb:=[(4,r_),(12,false)],an:=[(3,cA q0 []),(13, .skip),(14, .skip),(15, .skip),(16, .skip),(17, .skip),(18, .skip),(19, .skip)] } [] ⟨q0,(ae ⟨(fun hg=> ⟨(a1 (aY hg)),trivial⟩),(ae ⟨(hb),((fun h=>Bool.noConfusion (show false=true from h.1))),(hb),((fun h=>Bool.noConfusion (show false=true from h.1))),(hb),((fun h=>Bool.noConfusion (show false=true from h.1))),(hb),((fun h=>Bool.noConfusion (show false=true from h.1))),(hb),((fun h=>Bool.noConfusion (show false=true from h.1))),(hb),((fun h=>Bool.noConfusion (show false=true from h.1))),(hb),((fun h=>Bool.noConfusion (show false=true from h.1))),(hb),trivial⟩)⟩)⟩ (bB.le (st':=⟨(acP x1 u1 u0 u2 x2 u7 u8 u9 v0 v1 v2 x3 u4),(sN v5)⟩) ⟨⟨tR,tR,tR,tR,tR,tR,tR,⟨_,rfl,eX.v (eO.one (bR.of (congrArg (fun b=>CV.d (.bool b)) (Df hb))))⟩,trivial⟩,(.refl _)⟩) ?_
    refine cn (aP (rz tT (ajL x1 u1 u0 u2 x2 u7 u8 u9 v0 v1 v2 x3 u4 v5) {} [] ?_))
    obtain rfl:=oi h
    exact lN
  ·refine cf hb1 ?_
   refine aI (fz (agq x1 u1 u0 u2 x2 u7 u8 u9 v0 v1 v2 x3 v5) []) ?_
   refine aX ?_
   obtain rfl:=oi h
   exact lB
 ·clear hy
  cases y with
  |brk z=>
   obtain⟨w1,rfl⟩: ∃q,q=z:=⟨_,rfl⟩
   unfold fZ
   refine⟨_, .refl, ?_⟩
   refine aQ (sz tT ⟨(aga x1 u1 u0 u2 x2 u7 u8 u9 v0 v1 v2 x3),(sN w1)⟩ {} [] ?_)
   refine bE h fun y1 hy h=> ?_
   refine aL [] (tJ x1 u1 u0 u2 x2 u7 u8 u9 v0 v1 v2 x3) (uw x1 u1 u0 u2 x3) fJ hy (fun s f h=> ?_) ?_
   ·clear hy
    show bL _ _ _ _ _ _ ((Dy x1 u1 u0 u2 x2 u7 u8 u9 v0 v1 v2 x3) f) _
    unfold tK at h
    obtain⟨v6,u3⟩:=s
    refine sz tT ⟨(aif x1 u1 u0 u2 x2 u7 u8 u9 v0 v1 v2 x3 u3),(sN v6)⟩ {} [] ?_
    refine aQ ?_
    refine bI h (fun hb3 h=> ?_) (fun hb3 h=> ?_)
    ·refine ct hb3 ?_
     refine aP (aQ (aB (aQ (aO h fun a1 h=> ?_))))
     refine rg tT ⟨(ajj x1 u1 u0 u2 x2 u7 u8 u9 v0 v1 v2 x3 u3),(sN v6)⟩ [_] {fr:=[(3,49)] } [49] ⟨a1,trivial⟩ ?_
     refine aQ (bE h fun u5 hr_2 h=> ?_)
     refine bI h (fun hb2 h=> ?_) (fun hb2 h=> ?_)
     ·skip
      refine bE h fun v9 hr_3 h=> ?_
      refine aO h fun⟨a1,a2⟩ h=> ?_
      have q0:=dP (⟨x1,u1,u0,u2⟩:ai) (⟨x2,u7,u8,u9,v0,v1,v2⟩:State) u3 hr_2
      refine di tT mX ⟨(aeT x1 u1 u0 u2 x2 u7 u8 u9 v0 v1 v2 x3 u3 u5),(aeI v9)⟩ (_::(eqs u5 4 ((ajq u0 x3 u3 u5)::(eqs u5 5 ((afH u0 x3 u3 u5)::(eqs u5 3 [(sK u0 x3 u3 u5)=true,(sK u0 x3 u3 u5)=true,(sK u0 x3 u3 u5)=true,(sK u0 x3 u3 u5)=true,(sK u0 x3 u3 u5)=true,(sK u0 x3 u3 u5)=true,gP (Uu u5) [(17,true)]→All [Yl Try.prog 0 [(.agg [(cI 3),(cI u3)]),(sI ((at' u0 u3.toNat).most))] (aeG v6) (vB true) (aiA v9)],gP (Uu u5) [(17,true)],(sK u0 x3 u3 u5)=true,(sK u0 x3 u3 u5)=true])))))) {yb:=[(4,u5),(17,true)],an:=[(3,cA q0 []),(23, .call [0,1,37] (vB true) (aiA v9))] } [] ⟨q0,(ae ⟨(fun hg=> ⟨(a1 (aY hg)),trivial⟩),(ae ⟨(fun hg=> ⟨(a2 (aY hg)),trivial⟩),(ae ⟨(hb2),(hb2),(hb2),(hb2),(hb2),(hb2),(fun hg=> ⟨(yK [(2,37),(3,50)] (mY 3 u3 ((at' u0 u3.toNat).most) v6 hr_3)),trivial⟩),(⟨rfl,trivial⟩),(hb2),(hb2),trivial⟩)⟩)⟩)⟩ (bB.le (st':=⟨(aeC x1 u1 u0 u2 x2 u7 u8 u9 v0 v1 v2 x3 u3),(aeI v9)⟩) ⟨⟨tR,tR,tR,tR,tR,tR,tR,⟨_,rfl,eX.v (eO.one (bR.of (congrArg (fun b=>CV.d (.bool b)) (DI hb2))))⟩,trivial⟩,(.refl _)⟩) ?_
      refine cn (aP (ri tT ⟨(ae2 x1 u1 u0 u2 x2 u7 u8 u9 v0 v1 v2 x3 u3),(aeI v9)⟩ [] {} [] trivial (bB.fin (st':=(aiR x1 u1 u0 u2 x2 u7 u8 u9 v0 v1 v2 x3 u3 v9)) (cs:=[]) ⟨[],[(0,0),(1,1),(2,2),(50,37)]⟩ [0,1,2,3,43,44,45] (by kernel_rfl) trivial) ?_))
      obtain rfl:=oi h
      exact lN
     ·skip
      refine aO h fun⟨a1,a2⟩ h=> ?_
      have q0:=dP (⟨x1,u1,u0,u2⟩:ai) (⟨x2,u7,u8,u9,v0,v1,v2⟩:State) u3 hr_2
      refine di tT mX ⟨(aeT x1 u1 u0 u2 x2 u7 u8 u9 v0 v1 v2 x3 u3 u5),(sN v6)⟩ (_::(aiu u0 x3 u3 u5)) {yb:=[(4,u5),(17,false)],an:=[(3,cA q0 []),(18, .skip),(19, .skip),(20, .skip),(21, .skip),(22, .skip),(23, .skip),(24, .skip)] } [] ⟨q0,(ae ⟨(fun hg=> ⟨(a1 (aY hg)),trivial⟩),(ae ⟨(fun hg=> ⟨(a2 (aY hg)),trivial⟩),(ae ⟨(hb2),((fun h=>Bool.noConfusion (show false=true from h.1))),(hb2),((fun h=>Bool.noConfusion (show false=true from h.1))),(hb2),((fun h=>Bool.noConfusion (show false=true from h.1))),(hb2),((fun h=>Bool.noConfusion (show false=true from h.1))),(hb2),((fun h=>Bool.noConfusion (show false=true from h.1))),(hb2),((fun h=>Bool.noConfusion (show false=true from h.1))),(hb2),((fun h=>Bool.noConfusion (show false=true from h.1))),(hb2),trivial⟩)⟩)⟩)⟩ (bB.le (st':=⟨(aeC x1 u1 u0 u2 x2 u7 u8 u9 v0 v1 v2 x3 u3),(sN v6)⟩) ⟨⟨tR,tR,tR,tR,tR,tR,tR,⟨_,rfl,eX.v (eO.one (bR.of (congrArg (fun b=>CV.d (.bool b)) (Df hb2))))⟩,trivial⟩,(.refl _)⟩) ?_
      refine cn (aP (rz tT (aiR x1 u1 u0 u2 x2 u7 u8 u9 v0 v1 v2 x3 u3 v6) {} [] ?_))
      obtain rfl:=oi h
      exact lN
    ·refine cf hb3 ?_
     refine aI (fz (ahO x1 u1 u0 u2 x3 v6) []) ?_
     refine aX ?_
     obtain rfl:=oi h
     exact lB
   ·clear hy
    cases y1 with
    |brk z=>
     obtain⟨w2,rfl⟩: ∃q,q=z:=⟨_,rfl⟩
     unfold fZ
     refine⟨_, .refl, ?_⟩
     refine sz tT ⟨(agc u2 x3),(sN w2)⟩ {} [] ?_
     refine bE h fun y2 hy h=> ?_
     refine aL [] (tQ u2 x3) tu fJ hy (fun s f h=> ?_) ?_
     ·clear hy
      show bL _ _ _ _ _ _ ((Dj u2 x3) f) _
      unfold tZ at h
      obtain⟨v4,u6⟩:=s
      refine sz tT ⟨(ahM u2 x3 u6),(sN v4)⟩ {} [] ?_
      refine aQ ?_
      refine bI h (fun hb5 h=> ?_) (fun hb5 h=> ?_)
      ·refine ct hb5 ?_
       refine aP (aQ (aB (aQ (aO h fun a1 h=> ?_))))
       refine rg tT ⟨(aiM u2 x3 u6),(sN v4)⟩ [_] {fr:=[(3,57)] } [57] ⟨a1,trivial⟩ ?_
       refine aQ (bE h fun v3 hr_4 h=> ?_)
       refine rg tT ⟨(agr u2 x3 u6 v3),(sN v4)⟩ [Fn Try.prog 67 [(sD (.sl (some true) 1 [(Ko u2 u6).e0,(Ko u2 u6).e1].length (fun i j=>((acT u2 u6).getD (0+(0+(i*1+j))) .nilp)))),(sD (.fn 125 1 (VW x3)))] [] (vB v3) []] {an:=[(3, .call [] (vB v3) [])] } [] ⟨(Fn.leH (args:=(ah8 u2 x3 u6)) (hin:=[]) (kR [(Ko u2 u6).e0,(Ko u2 u6).e1] x3 hr_4) ⟨eO.one (bR.d (dX.sl (.inl rfl) (by intro i hi j hj;match i,j,hi,hj with|0,0,_,_=>exact .refl _|1,0,_,_=>exact .refl _))),eO.refl _,trivial⟩ trivial),trivial⟩ ?_
       refine aQ ?_
       refine bI h (fun hb4 h=> ?_) (fun hb4 h=> ?_)
       ·skip
        refine bE h fun w0 hr_5 h=> ?_
        refine ri tT ⟨(adP u2 x3 u6 v3),(aes w0)⟩ [v3=true,v3=true,v3=true,v3=true,v3=true,v3=true,gP (jP [(1,true)]) [(1,true)]→All [Yl Try.prog 0 [(.agg [(cI 0),(cI u6)]),(sI (Ld u2 u6))] (aeG v4) (vB true) (aiW w0)],gP (jP [(1,true)]) [(1,true)],v3=true,v3=true] {yb:=[(1,true)],an:=[(7, .call [0,1,37] (vB true) (aiW w0))] } [] ⟨(hb4),(hb4),(hb4),(hb4),(hb4),(hb4),(fun hg=> ⟨(yK [(2,37),(3,58)] (mY 0 u6 (Ld u2 u6) v4 hr_5)),trivial⟩),(⟨rfl,trivial⟩),(hb4),(hb4),trivial⟩ (bB.le (st':=⟨(adb u2 x3 u6),(aes w0)⟩) ⟨⟨tR,tR,tR,tR,tR,⟨_,rfl,eX.v (eO.one (bR.of (congrArg (fun b=>CV.d (.bool b)) (DI hb4))))⟩,trivial⟩,(.refl _)⟩) ?_
        refine cn (aP (ri tT ⟨(adl u2 x3 u6),(aes w0)⟩ [] {} [] trivial (bB.fin (st':=(ajt u2 x3 u6 w0)) (cs:=[]) ⟨[],[(0,0),(1,1),(2,2),(58,37)]⟩ [0,3,78,79,80] (by kernel_rfl) trivial) ?_))
        obtain rfl:=oi h
        exact lN
       ·skip
        refine ri tT ⟨(adP u2 x3 u6 v3),(sN v4)⟩ [v3=false, ¬ gP (jP [(1,false)]) [(1,true)],v3=false, ¬ gP (jP [(1,false)]) [(1,true)],v3=false, ¬ gP (jP [(1,false)]) [(1,true)],v3=false, ¬ gP (jP [(1,false)]) [(1,true)],v3=false, ¬ gP (jP [(1,false)]) [(1,true)],v3=false, ¬ gP (jP [(1,false)]) [(1,true)],v3=false, ¬ gP (jP [(1,false)]) [(1,true)],v3=false] {yb:=[(1,false)],an:=[(2, .skip),(3, .skip),(4, .skip),(5, .skip),(6, .skip),(7, .skip),(8, .skip)] } [] ⟨(hb4),((fun h=>Bool.noConfusion (show false=true from h.1))),(hb4),((fun h=>Bool.noConfusion (show false=true from h.1))),(hb4),((fun h=>Bool.noConfusion (show false=true from h.1))),(hb4),((fun h=>Bool.noConfusion (show false=true from h.1))),(hb4),((fun h=>Bool.noConfusion (show false=true from h.1))),(hb4),((fun h=>Bool.noConfusion (show false=true from h.1))),(hb4),((fun h=>Bool.noConfusion (show false=true from h.1))),(hb4),trivial⟩ (bB.le (st':=⟨(adb u2 x3 u6),(sN v4)⟩) ⟨⟨tR,tR,tR,tR,tR,⟨_,rfl,eX.v (eO.one (bR.of (congrArg (fun b=>CV.d (.bool b)) (Df hb4))))⟩,trivial⟩,(.refl _)⟩) ?_
        refine cn (aP (rz tT (ajt u2 x3 u6 v4) {} [] ?_))
        obtain rfl:=oi h
        exact lN
      ·refine cf hb5 ?_
       refine aI (fz ⟨[],(sN v4)⟩ []) ?_
       refine aX ?_
       obtain rfl:=oi h
       exact lB
     ·clear hy
      cases y2 with
      |brk z=>
       obtain⟨o905,rfl⟩: ∃q,q=z:=⟨_,rfl⟩
       unfold fZ
       refine⟨_,(bB.fin (st':=⟨[],[DR,(1,some (.cells 80 [(.own 3 false o905.length)])),(2,none),(3,some (bg 117 2 Part.cell o905))]⟩) (cs:=[]) ⟨[],[(0,0),(1,1),(2,2),(37,3)]⟩ [] (by kernel_rfl) trivial), ?_⟩
       obtain rfl:=oi h
       exact bJ.mk (.inl rfl) (p:=[]) (l:=[]) (by kernel_rfl) trivial (eX.refl _) (hN 2 ⟨rfl,trivial,(.refl _)⟩)
      |ret v=>
       obtain rfl:=oi h
       unfold fZ
       intro e st hn ha hR
       cases e with
       |normal=>exact absurd rfl hn
       |exit id=>exact hR
       |goto l=>exact hR
       |ret=>exact hR
       |panic c=>exact hR
       |outgrown=>exact hR
    |ret v=>
     obtain rfl:=oi h
     unfold fZ
     intro e st hn ha hR
     cases e with
     |normal=>exact absurd rfl hn
     |exit id=>exact hR
     |goto l=>exact hR
     |ret=>exact hR
     |panic c=>exact hR
     |outgrown=>exact hR
  |ret v=>
   obtain rfl:=oi h
   unfold fZ
   intro e st hn ha hR
   cases e with
   |normal=>exact absurd rfl hn
   |exit id=>exact hR
   |goto l=>exact hR
   |ret=>exact hR
   |panic c=>exact hR
   |outgrown=>exact hR
def K4  :((List Part) × Int)→Exit→St→Prop:=
  fun r=>bJ TT [.tmp 4, .tmp 5] (.iC [(sD (aG none 2 Part.cell r.1)),(sI r.2)]) []
section
variable (r_:(aj × (List Bool) × Int)) (p:ai) (s_:State) (u0:(Int × (List Source) × (List Link) × (List ax) × (List Bool) × (List Bool) × (List Bool) × (List Bool) × (List Bool) × (List Bool) × (List Bool) × (List Bool)))
abbrev JX:DV:=(aG none 1 ah r_.2.1)
abbrev acZ:List (Nat × TV):=[(P9 p),(lW s_),(7,(vD (JX r_))),(9,(vP 20 0))]
abbrev ajB:List (Nat × Option Ob):=[(20,some (.cells 80 [(.own 21 false (([]:List Part).length))])),(21,some (bg 117 2 Part.cell ([]:List Part)))]
abbrev Zy:DV:=(kH [(.int .i64 u0.1),(aG none 5 Source.cell u0.2.1),(aG none 6 Link.cell u0.2.2.1),(aG none 4 ax.cell u0.2.2.2.1)] 0)
abbrev Y4:DV:=(kH [(aG none 1 ah u0.2.2.2.2.1),(aG none 1 ah u0.2.2.2.2.2.1),(aG none 1 ah u0.2.2.2.2.2.2.1),(aG none 1 ah u0.2.2.2.2.2.2.2.1),(aG none 1 ah u0.2.2.2.2.2.2.2.2.1),(aG none 1 ah u0.2.2.2.2.2.2.2.2.2.1),(aG none 1 ah u0.2.2.2.2.2.2.2.2.2.2.1)] 0)
abbrev aaH:DV:=(kH [(aG none 1 ah u0.2.2.2.2.2.2.2.2.2.2.2)] 0)
abbrev ZG:TV:=(vD (.fn 124 3 (og [(Zy u0),(Y4 u0),(aaH u0)])))
abbrev ajM:List (Nat × TV):=[(9,(vP 20 0)),(24,(ZG u0))]
abbrev aiq:List CV:=[(.d (Zy u0)),(.d (Y4 u0)),(.d (aaH u0))]
end
theorem Jv (p:ai) (s_:State) {r:((List Part) × Int)} (h:zV p s_=some r):Fn Try.prog 33 (k98 s_ p) [] (.iC [(sD (aG none 2 Part.cell r.1)),(sI r.2)]) []:=by
 refine fN tT Try.func33 rfl rfl fun B=> ?_
 show bL _ _ _ _ _ _ (K4 r) _
 unfold zV at h
 refine sz tT ⟨[(P9 p),(lW s_)],[]⟩ {fr:=[(0,12),(1,13)] } [12,13] ?_
 refine aQ (bE h fun r_ hr_ h=> ?_)
 have q0:=rk [(0,14),(1,15),(2,16),(3,17),(4,18)] (gQ p s_ hr_)
 refine rg tT ⟨[(P9 p),(lW s_),(7,(vD (JX r_))),(8,(vI r_.2.2))],[]⟩ [_,r_.2.1.length=r_.2.1.length] {an:=[(2,cA q0 [])],fr:=[(7,19)] } [17] ⟨q0,rfl,trivial⟩ ?_
 refine aQ (sz tT ⟨[(P9 p),(lW s_),(7,(vD (JX r_))),(8,(vI r_.2.2)),(19,(vB (!decide (r_.2.2=0))))],[]⟩ {} [] ?_)
 refine bI h (fun hb h=> ?_) (fun hb h=> ?_)
 ·refine ct hb ?_
  refine sz tT ⟨[(4,(vD nS)),(5,(vI r_.2.2))],[]⟩ {} [] ?_
  refine aI (bB.le (st':=⟨[(4,(vD (aG none 2 Part.cell ([]:List Part)))),(5,(vI r_.2.2))],[]⟩) ⟨⟨⟨_,rfl,eX.v (eO.one (bR.d dX.nil'))⟩,tR,trivial⟩,trivial⟩) ?_
  refine aR ?_
  obtain rfl:=oi h
  exact rl [(sD (aG none 2 Part.cell ([]:List Part))),(sI r_.2.2)]
 ·refine cf hb ?_
  refine aP (si tT ⟨(acZ r_ p s_),[(20,some (.cells 80 [(.d nS)]))]⟩ [] {fr:=[(0,20)] } [] trivial (.trans (bB.rA (E:=0) (esz:=0) (E0:=80) (cs:=[(.d nS)]) (p:=20) (q:=0) (b:=21) (esz0:=0) (el0:=fun _ _=> .nilp) (ob:= .arr 117 2 0 (ay Part.cell ([]:List Part))) (fun _ _ _ _ h=> .inl ⟨h,rfl⟩) (by kernel_rfl) (by kernel_rfl) (by kernel_rfl)) (.trans (fz ⟨(acZ r_ p s_),[(20,some (.cells 80 [(.own 21 false 0)])),(21,some (.arr 117 2 0 (ay Part.cell ([]:List Part))))]⟩ []) (bB.le (st':=⟨(acZ r_ p s_),ajB⟩) ⟨⟨tR,tR,tR,tR,trivial⟩,⟨rfl,aJ ⟨cW,trivial⟩,⟨rfl,oW,trivial⟩⟩⟩))) ?_)
  refine aQ (aQ (bE h fun u0 hr_1 h=> ?_))
  have q0:=xU p s_ r_.2.1 hr_1
  refine rg tT ⟨(ajM u0),ajB⟩ [_] {an:=[(3,cA q0 [])] } [] ⟨q0,trivial⟩ ?_
  refine aB (bE h fun u1 hr_2 h=> ?_)
  refine jq 22 [(9,(vP 20 0))] [] [22,20,21] (.iC []) [(22,some (.loop iH 0 [(9,(vP 20 0))])),(20,some (.cells 80 [(.own 23 false u1.length)])),(21,none),(23,some (DX u1))] (ZG u0) 124 [] (aiq u0) [(22,some (.loop iH 0 [(9,(vP 20 0))])),(20,some (.cells 80 [(.own 21 false (([]:List Part).length))])),(21,some (bg 117 2 Part.cell ([]:List Part)))] [(.one (.yl 22)),(sD (Zy u0)),(sD (Y4 u0)),(sD (aaH u0))] iH 0 [(9,(vP 20 0))] (by kernel_rfl) (by kernel_rfl) (by kernel_rfl) (by kernel_rfl) (by kernel_rfl) (by kernel_rfl) (by kernel_rfl) (rK [(0,22),(1,20),(2,21),(3,23)] (Dz u0.1 u0.2.1 u0.2.2.1 u0.2.2.2.1 u0.2.2.2.2.1 u0.2.2.2.2.2.1 u0.2.2.2.2.2.2.1 u0.2.2.2.2.2.2.2.1 u0.2.2.2.2.2.2.2.2.1 u0.2.2.2.2.2.2.2.2.2.1 u0.2.2.2.2.2.2.2.2.2.2.1 u0.2.2.2.2.2.2.2.2.2.2.2 ([]:List Part) hr_2)) (by kernel_rfl) rfl (DL.zero rfl) (bB.fin (st':=⟨(ajM u0),[(20,some (.cells 80 [(.own 23 false u1.length)])),(21,none),(23,some (DX u1))]⟩) (cs:=[]) ⟨[],[(20,20),(21,21),(23,23)]⟩ [9,24] (by kernel_rfl) trivial) ?_
  refine sg tT ⟨[(4,(vD (aG none 2 Part.cell u1))),(5,(vI 0))],[]⟩ [u1.length=u1.length] {} [23] ⟨rfl,trivial⟩ ?_
  refine aR ?_
  obtain rfl:=oi h
  exact rl [(sD (aG none 2 Part.cell u1)),(sI 0)]
def sF  :Int→Exit→St→Prop:=
  fun r=>bJ TT [.tmp 2] (vI r) []
section
variable (x:aj)
abbrev Vw:Nat × TV:=(7,(vD (aG none 2 af.cell x.racks)))
abbrev V4:Nat × TV:=(8,(vI (x.racks.length:Int)))
end
def yZ (x:aj):(Int × Int)→St:=
  fun zz=>match zz with|(n,t9)=> ⟨[(3,(vI n)),(Vw x),(V4 x),(9,(vI t9))],[]⟩
def zk  :Int→St:=
  fun n1=> ⟨[(3,(vI n1))],[]⟩
def Ih (x:aj):(aU (Int × Int) (Ex Int Int))→Exit→St→Prop:=
  LQ 0 [] (yZ x) zk sF
section
variable (x:aj) (t9:Int) (n:Int)
abbrev Ze:List CV:=[(.d (aG none 1 (au .i64) x.sources)),(.d (aG none 1 (au .i64) x.links)),(.d (aG none 2 af.cell x.racks))]
abbrev aiZ:List SV:=[(.agg (Ze x))]
abbrev adf:Ob:=(.cells 77 (Ze x))
abbrev agk:List (Nat × Option Ob):=[(5,some (adf x))]
abbrev ad6:TV:=(vD (kH [(.int .i64 ((at' x.racks t9.toNat).e0)),(.int .i64 ((at' x.racks t9.toNat).e1))] 0))
abbrev ahx:Nat × TV:=(3,(vI (IntKind.wrap .i64 (n+(IntKind.wrap .i64 (((at' x.racks t9.toNat).e0)+((at' x.racks t9.toNat).e1)))))))
end
theorem bn (x:aj) {r:Int} (h:bK x=some r):Fn Try.prog 41 (aiZ x) [] (vI r) []:=by
 refine fN tT Try.func41 rfl rfl fun B=> ?_
 show bL _ _ _ _ _ _ (sF r) _
 unfold bK at h
 refine sz tT ⟨[(1,(vP 5 0))],(agk x)⟩ {fr:=[(0,5)] } [] ?_
 refine sz tT ⟨[(1,(vP 5 0)),(3,(vI 0))],(agk x)⟩ {} [] ?_
 refine aQ (sz tT ⟨[(3,(vI 0)),(Vw x),(V4 x),(9,(vI 0))],[]⟩ {} [] ?_)
 refine bE h fun y hy h=> ?_
 refine aL [] (yZ x) zk sF hy (fun s f h=> ?_) ?_
 ·clear hy
  show bL _ _ _ _ _ _ ((Ih x) f) _
  unfold jb at h
  obtain⟨n,t9⟩:=s
  refine sz tT ⟨[(3,(vI n)),(Vw x),(V4 x),(9,(vI t9)),(10,(vB (decide (t9<(x.racks.length:Int)))))],[]⟩ {} [] ?_
  refine aQ ?_
  refine bI h (fun hb h=> ?_) (fun hb h=> ?_)
  ·refine ct hb ?_
   refine aP (aQ (aB (aQ (aO h fun a1 h=> ?_))))
   refine rg tT ⟨[(3,(vI n)),(5,(ad6 x t9)),(Vw x),(V4 x),(9,(vI t9))],[]⟩ [_] {fr:=[(2,9)] } [9] ⟨a1,trivial⟩ ?_
   refine rg tT ⟨[(ahx x t9 n),(Vw x),(V4 x),(9,(vI t9))],[]⟩ [(0:Int)≤0∧(0:Int)<(2:Nat),(0:Int)≤1∧(1:Int)<(2:Nat)] {} [] ⟨((by decide)),((by decide)),trivial⟩ ?_
   refine rz tT ⟨[(ahx x t9 n),(Vw x),(V4 x),(9,(k3 t9))],[]⟩ {} [] ?_
   obtain rfl:=oi h
   exact lN
  ·refine cf hb ?_
   refine aI (fz ⟨[(3,(vI n))],[]⟩ []) ?_
   refine aX ?_
   obtain rfl:=oi h
   exact lB
 ·clear hy
  cases y with
  |brk z=>
   obtain⟨n1,rfl⟩: ∃q,q=z:=⟨_,rfl⟩
   unfold fZ
   refine⟨_, .refl, ?_⟩
   refine sz tT ⟨[(2,(vI n1))],[]⟩ {} [] ?_
   refine aR ?_
   obtain rfl:=oi h
   exact rl [(sI n1)]
  |ret v=>
   obtain rfl:=oi h
   unfold fZ
   intro e st hn ha hR
   cases e with
   |normal=>exact absurd rfl hn
   |exit id=>exact hR
   |goto l=>exact hR
   |ret=>exact hR
   |panic c=>exact hR
   |outgrown=>exact hR
def yD  :(Bool × Int)→Exit→St→Prop:=
  fun r=>bJ TT [.tmp 4, .tmp 5] (.iC [(sB r.1),(sI r.2)]) []
section
variable (r_:(aj × (List Bool) × Int)) (p:ai)
abbrev Yz:TV:=(vD (kH [(aG none 1 (au .i64) r_.1.sources),(aG none 1 (au .i64) r_.1.links),(aG none 2 af.cell r_.1.racks)] 0))
abbrev LM:Nat × TV:=(6,(Yz r_))
abbrev Ve:Nat × TV:=(23,(vD (k6 p)))
abbrev Ut:Nat × TV:=(24,(vI (p.racks.length:Int)))
end
def Ca (p:ai) (r_:(aj × (List Bool) × Int)):(Int × Int)→St:=
  fun zz=>match zz with|(n,u0)=> ⟨[(LM r_),(9,(vI n)),(Ve p),(Ut p),(25,(vI u0))],[]⟩
section
variable (r_:(aj × (List Bool) × Int)) (n1:Int)
abbrev aio:St:=⟨[(LM r_),(9,(vI n1))],[]⟩
end
def Cg (r_:(aj × (List Bool) × Int)):Int→St:=
  fun n1=>(aio r_ n1)
def KL (p:ai) (r_:(aj × (List Bool) × Int)):(aU (Int × Int) (Ex Int (Bool × Int)))→Exit→St→Prop:=
  LQ 0 [] (Ca p r_) (Cg r_) yD
section
variable (p:ai) (r_:(aj × (List Bool) × Int)) (u0:Int)
abbrev ajv:Nat × Option Ob:=(12,some (ZW p))
abbrev aaA:List (Nat × Option Ob):=[(ajv p)]
abbrev ado:List CV:=[(.d (aG none 1 (au .i64) r_.1.sources)),(.d (aG none 1 (au .i64) r_.1.links)),(.d (aG none 2 af.cell r_.1.racks))]
abbrev PL:Ob:=(.cells 77 (ado r_))
abbrev Jt:=((at' p.racks u0.toNat).feeds)
end
theorem JG (p:ai) (s_:State) {r:(Bool × Int)} (h:Cx p s_=some r):Fn Try.prog 34 (k98 s_ p) [] (.iC [(sB r.1),(sI r.2)]) []:=by
 refine fN tT Try.func34 rfl rfl fun B=> ?_
 show bL _ _ _ _ _ _ (yD r) _
 unfold Cx at h
 refine sz tT ⟨[(2,(vP 12 0)),(lW s_)],(aaA p)⟩ {fr:=[(0,12),(1,13)] } [13] ?_
 refine aQ (bE h fun r_ hr_ h=> ?_)
 have q0:=rk [(0,14),(1,15),(2,16),(3,17),(4,18)] (gQ p s_ hr_)
 refine ri tT ⟨[(2,(vP 12 0)),(6,(vP 19 0)),(8,(vI r_.2.2))],[(ajv p),(19,some (PL r_))]⟩ [_,r_.1.sources.length=r_.1.sources.length,r_.1.links.length=r_.1.links.length,r_.1.racks.length=r_.1.racks.length] {an:=[(2,cA q0 [])],fr:=[(7,19)] } [14,15,16] ⟨q0,rfl,rfl,rfl,trivial⟩ (fz ⟨[(2,(vP 12 0)),(LM r_),(8,(vI r_.2.2))],(aaA p)⟩ [19]) ?_
 refine aQ (sz tT ⟨[(2,(vP 12 0)),(LM r_),(8,(vI r_.2.2)),(20,(vB (!decide (r_.2.2=0))))],(aaA p)⟩ {} [] ?_)
 refine bI h (fun hb1 h=> ?_) (fun hb1 h=> ?_)
 ·refine ct hb1 ?_
  refine sz tT ⟨[(4,(vB false)),(5,(vI r_.2.2))],[]⟩ {} [] ?_
  refine aR ?_
  obtain rfl:=oi h
  exact rl [(sB false),(sI r_.2.2)]
 ·refine cf hb1 ?_
  refine aP (sz tT ⟨[(2,(vP 12 0)),(LM r_),(9,(vI 0))],(aaA p)⟩ {} [] ?_)
  refine aQ (sz tT ⟨[(LM r_),(9,(vI 0)),(Ve p),(Ut p),(25,(vI 0))],[]⟩ {} [] ?_)
  refine bE h fun y hy h=> ?_
  refine aL [] (Ca p r_) (Cg r_) yD hy (fun s f h=> ?_) ?_
  ·clear hy
   show bL _ _ _ _ _ _ ((KL p r_) f) _
   unfold CF at h
   obtain⟨n,u0⟩:=s
   refine sz tT ⟨[(LM r_),(9,(vI n)),(Ve p),(Ut p),(25,(vI u0)),(26,(vB (decide (u0<(p.racks.length:Int)))))],[]⟩ {} [] ?_
   refine aQ ?_
   refine bI h (fun hb h=> ?_) (fun hb h=> ?_)
   ·refine ct hb ?_
    refine aP (aQ (aB (aQ (aO h fun a1 h=> ?_))))
    refine rg tT ⟨[(LM r_),(9,(vI n)),(11,(vD (kH [(.int .i64 ((Jt p u0).e0)),(.int .i64 ((Jt p u0).e1)),(.int .i64 ((at' p.racks u0.toNat).power)),(.int .i64 ((at' p.racks u0.toNat).paths))] 0))),(Ve p),(Ut p),(25,(vI u0))],[]⟩ [_] {fr:=[(2,23)] } [23] ⟨a1,trivial⟩ ?_
    refine rz tT ⟨[(LM r_),(9,(vI (IntKind.wrap .i64 (n+((at' p.racks u0.toNat).power))))),(Ve p),(Ut p),(25,(vI u0))],[]⟩ {} [] ?_
    refine rz tT ⟨[(LM r_),(9,(vI (IntKind.wrap .i64 (n+((at' p.racks u0.toNat).power))))),(Ve p),(Ut p),(25,(k3 u0))],[]⟩ {} [] ?_
    obtain rfl:=oi h
    exact lN
   ·refine cf hb ?_
    refine aI (fz (aio r_ n) []) ?_
    refine aX ?_
    obtain rfl:=oi h
    exact lB
  ·clear hy
   cases y with
   |brk z=>
    obtain⟨n1,rfl⟩: ∃q,q=z:=⟨_,rfl⟩
    unfold fZ
    refine⟨_, .refl, ?_⟩
    refine aQ (bE h fun u1 hr_1 h=> ?_)
    have q0:=bn r_.1 hr_1
    refine rg tT ⟨[(4,(vB (decide (u1=n1)))),(5,(vI 0))],[]⟩ [_] {an:=[(1,cA q0 [])] } [] ⟨q0,trivial⟩ ?_
    refine aR ?_
    obtain rfl:=oi h
    exact rl [(sB (decide (u1=n1))),(sI 0)]
   |ret v=>
    obtain rfl:=oi h
    unfold fZ
    intro e st hn ha hR
    cases e with
    |normal=>exact absurd rfl hn
    |exit id=>exact hR
    |goto l=>exact hR
    |ret=>exact hR
    |panic c=>exact hR
    |outgrown=>exact hR
def qp  :Bool→Exit→St→Prop:=
  fun r=>bJ TT [.tmp 4] (vB r) []
section
variable (a:(List Part)) (b:(List Part))
abbrev RQ:Nat × TV:=(0,(vD (aG none 2 Part.cell a)))
abbrev Tj:Nat × TV:=(1,(vD (aG none 2 Part.cell b)))
end
def ve (a:(List Part)) (b:(List Part)):Int→St:=
  fun i=> ⟨[(RQ a),(Tj b),(5,(vI i))],[]⟩
def vk  :Unit→St:=
  fun _=> ⟨[],[]⟩
def EH (a:(List Part)) (b:(List Part)):(aU Int (Ex Unit Bool))→Exit→St→Prop:=
  LQ 0 [] (ve a b) vk qp
theorem vG (a:(List Part)) (b:(List Part)) {r:Bool} (h:oC a b=some r):Fn Try.prog 38 [(sD (aG none 2 Part.cell a)),(sD (aG none 2 Part.cell b))] [] (vB r) []:=by
 refine fN tT Try.func38 rfl rfl fun B=> ?_
 show bL _ _ _ _ _ _ (qp r) _
 unfold oC at h
 refine sz tT ⟨[(RQ a),(Tj b)],[]⟩ {} [] ?_
 refine aQ (sz tT ⟨[(RQ a),(Tj b),(10,(vB (!decide ((a.length:Int)=(b.length:Int)))))],[]⟩ {} [] ?_)
 refine bI h (fun hb2 h=> ?_) (fun hb2 h=> ?_)
 ·refine ct hb2 ?_
  refine sz tT ⟨[(4,(vB false))],[]⟩ {} [] ?_
  refine aR ?_
  obtain rfl:=oi h
  exact rl [(sB false)]
 ·refine cf hb2 ?_
  refine aP (aQ (sz tT ⟨[(RQ a),(Tj b),(5,(vI 0))],[]⟩ {} [] ?_))
  refine bE h fun y hy h=> ?_
  refine aL [] (ve a b) vk qp hy (fun s f h=> ?_) ?_
  ·clear hy
   show bL _ _ _ _ _ _ ((EH a b) f) _
   unfold uW at h
   obtain⟨i,rfl⟩: ∃q,q=s:=⟨_,rfl⟩
   refine aQ (sz tT ⟨[(RQ a),(Tj b),(5,(vI i)),(14,(vB (decide (i<(a.length:Int)))))],[]⟩ {} [] ?_)
   refine bI h (fun hb1 h=> ?_) (fun hb1 h=> ?_)
   ·refine ct hb1 ?_
    refine aP (aQ (aB (aQ (aO h fun⟨a1,a2⟩ h=> ?_))))
    refine dg tT mX ⟨[(RQ a),(Tj b),(5,(vI i)),(25,(vB (!((decide (((at' a i.toNat).kind)=((at' b i.toNat).kind))) && ((decide (((at' a i.toNat).index)=((at' b i.toNat).index))) && true)))))],[]⟩ [_,_] {} [] ⟨a1,a2,trivial⟩ ?_
    refine bI h (fun hb h=> ?_) (fun hb h=> ?_)
    ·refine ct hb ?_
     refine sz tT ⟨[(4,(vB false))],[]⟩ {} [] ?_
     refine aR ?_
     obtain rfl:=oi h
     exact lR fQ (fT 0) fU (bJ.mk (.inr rfl) (p:=[]) (l:=[(sB false)]) (by kernel_rfl) trivial (eX.refl _) trivial)
    ·refine cf hb ?_
     refine aP (rz tT ⟨[(RQ a),(Tj b),(k2 i)],[]⟩ {} [] ?_)
     obtain rfl:=oi h
     exact lN
   ·refine cf hb1 ?_
    refine aI (fz ⟨[],[]⟩ []) ?_
    refine aX ?_
    obtain rfl:=oi h
    exact lB
  ·clear hy
   cases y with
   |brk z=>
    unfold fZ
    refine⟨_, .refl, ?_⟩
    refine sz tT ⟨[(4,(vB true))],[]⟩ {} [] ?_
    refine aR ?_
    obtain rfl:=oi h
    exact rl [(sB true)]
   |ret v=>
    obtain rfl:=oi h
    unfold fZ
    intro e st hn ha hR
    cases e with
    |normal=>exact absurd rfl hn
    |exit id=>exact hR
    |goto l=>exact hR
    |ret=>exact hR
    |panic c=>exact hR
    |outgrown=>exact hR
noncomputable def eD:oG:=⟨[45,46],IW ([1,1,1,1,1,0,1,0]++[0]) (nP Try.f45),IW ([1,1,1,1,1,0,1,0]++[1]) (nP Try.f45),51,[]⟩
abbrev Vm:Nat × Option Ob:=(0,some (.loop eD 0 [(11,(vP 1 0))]))
def Ad  :Int→Exit→St→Prop:=
  fun r=>nO 0 eD (vB true) [Vm,(1,some (.cells 3 [(cI r)]))]
section
variable (u1:Int)
abbrev kX:List (Nat × Option Ob):=[Vm,(1,some (.cells 3 [(cI u1)]))]
end
theorem kD (u2:Int) (u3:Int) (u0:Int) (u1:Int) {r:Int} (h:iq u2 u3 u0 u1=some r):Yl Try.prog 0 [(.agg [(cI u2),(cI u3)]),(sI u0)] (kX u1) (vB true) [Vm,(1,some (.cells 3 [(cI r)]))]:=by
 refine FH (r:=eD) (sl:=[(11,(vP 1 0))]) (sl1:=[(11,(vP 1 0)),(13,(vI u0))]) (h1:=(kX u1)) (sl2:=[(11,(vP 1 0))]) (by kernel_rfl) rfl rfl (by kernel_rfl) (fun rd B=> ?_) (by kernel_rfl) (fun rd B=> ?_)
 ·refine r9 (c:=IW ([1,1,1,1,1,0,1,0]++[0]) (nP Try.f45)) rfl ?_
  refine o7 (st:=⟨[(45,(.v (.agg [(cI u2),(cI u3)]))),(46,(vI u0)),(11,(vP 1 0))],(kX u1)⟩) (by kernel_rfl) ?_
  refine rz tT ⟨[(11,(vP 1 0)),(13,(vI u0))],(kX u1)⟩ {} [] ?_
  exact⟨rfl,rfl⟩
 ·refine r9 (c:=IW ([1,1,1,1,1,0,1,0]++[1]) (nP Try.f45)) rfl ?_
  refine o7 (st:=⟨[(11,(vP 1 0)),(13,(vI u0))],[(0,some (.loop eD 1 [(11,(vP 1 0))])),(1,some (.cells 3 [(cI u1)]))]⟩) (by kernel_rfl) ?_
  show bL _ _ _ _ _ _ (Ad r) _
  unfold iq at h
  refine aB (rz tT ⟨[],[(0,some (.loop eD 1 [(11,(vP 1 0))])),(1,some (.cells 3 [(cI (IntKind.wrap .i64 (u1+u0)))]))]⟩ {} [] ?_)
  obtain rfl:=oi h
  exact nO.on (sl:=[(11,(vP 1 0))]) (by kernel_rfl) (Ab (by kernel_rfl)) (eX.refl _)
def dU  :Int→Exit→St→Prop:=
  fun r=>bJ TT [] (.iC []) [Vm,(1,some (.cells 3 [(cI r)]))]
def pG (x1:Int) (u0:(List Source)) (u1:(List Link)) (u2:(List ax)) (x2:(List Bool)) (u3:(List Bool)) (u4:(List Bool)) (u5:(List Bool)) (u6:(List Bool)) (u7:(List Bool)) (u8:(List Bool)) (x3:(List Bool)) (v1:Int):(Int × Int)→St:=
  fun zz=>match zz with|(u9,v0)=> ⟨(ag1 x2 u3 u4 u5 u6 u7 u8 x3 u0 x1 u1 u2 v0),(kX u9)⟩
section
variable (x1:Int) (u0:(List Source)) (u1:(List Link)) (u2:(List ax)) (x2:(List Bool)) (u3:(List Bool)) (u4:(List Bool)) (u5:(List Bool)) (u6:(List Bool)) (u7:(List Bool)) (u8:(List Bool)) (x3:(List Bool)) (u9:Int)
abbrev agv:St:=⟨(akb x1 u0 u1 u2 x2 u3 u4 u5 u6 u7 u8 x3),(kX u9)⟩
end
def pI (x1:Int) (u0:(List Source)) (u1:(List Link)) (u2:(List ax)) (x2:(List Bool)) (u3:(List Bool)) (u4:(List Bool)) (u5:(List Bool)) (u6:(List Bool)) (u7:(List Bool)) (u8:(List Bool)) (x3:(List Bool)) (v0:Int):Int→St:=
  fun u9=>(agv x1 u0 u1 u2 x2 u3 u4 u5 u6 u7 u8 x3 u9)
def zQ (x1:Int) (u0:(List Source)) (u1:(List Link)) (u2:(List ax)) (x2:(List Bool)) (u3:(List Bool)) (u4:(List Bool)) (u5:(List Bool)) (u6:(List Bool)) (u7:(List Bool)) (u8:(List Bool)) (x3:(List Bool)) (u9:Int):(aU (Int × Int) (Ex Int Int))→Exit→St→Prop:=
  LQ 0 [] (pG x1 u0 u1 u2 x2 u3 u4 u5 u6 u7 u8 x3 u9) (pI x1 u0 u1 u2 x2 u3 u4 u5 u6 u7 u8 x3 u9) dU
def pQ (x1:Int) (u1:(List Source)) (u0:(List Link)) (u2:(List ax)) (x2:(List Bool)) (u3:(List Bool)) (u4:(List Bool)) (u5:(List Bool)) (u6:(List Bool)) (u7:(List Bool)) (u8:(List Bool)) (x3:(List Bool)) (v1:Int):(Int × Int)→St:=
  fun zz=>match zz with|(u9,v0)=> ⟨(ahn u0 x1 u1 u2 x2 u3 u4 u5 u6 u7 u8 x3 v0),(kX u9)⟩
section
variable (x1:Int) (u0:(List Source)) (u1:(List Link)) (u2:(List ax)) (x3:(List Bool)) (u3:Int)
abbrev afx:St:=⟨(aiU x1 u0 u1 u2 x3),(kX u3)⟩
end
def qx (x1:Int) (u0:(List Source)) (u1:(List Link)) (u2:(List ax)) (x3:(List Bool)) (u4:Int):Int→St:=
  fun u3=>(afx x1 u0 u1 u2 x3 u3)
def Ap (x1:Int) (u0:(List Source)) (u1:(List Link)) (u2:(List ax)) (x2:(List Bool)) (u4:(List Bool)) (u5:(List Bool)) (u6:(List Bool)) (u7:(List Bool)) (u8:(List Bool)) (u9:(List Bool)) (x3:(List Bool)) (u3:Int):(aU (Int × Int) (Ex Int Int))→Exit→St→Prop:=
  LQ 2 [] (pQ x1 u0 u1 u2 x2 u4 u5 u6 u7 u8 u9 x3 u3) (qx x1 u0 u1 u2 x3 u3) dU
def qA (u0:(List ax)) (x3:(List Bool)):(Int × Int)→St:=
  fun zz=>match zz with|(u1,u2)=> ⟨(ah0 u0 x3 u2),(kX u1)⟩
def qj  :Int→St:=
  fun o1105=> ⟨[],[Vm,(1,some (.cells 3 [(cI o1105)]))]⟩
def zZ (u0:(List ax)) (x3:(List Bool)):(aU (Int × Int) (Ex Int Int))→Exit→St→Prop:=
  LQ 4 [] (qA u0 x3) qj dU
section
variable (x1:Int) (u1:(List Source)) (u0:(List Link)) (u2:(List ax)) (x2:(List Bool)) (u7:(List Bool)) (u8:(List Bool)) (u9:(List Bool)) (v0:(List Bool)) (v1:(List Bool)) (v2:(List Bool)) (x3:(List Bool)) (u4:Int) (r_:Bool) (v8:Int) (u3:Int) (u5:Bool) (v9:Int) (u6:Int) (v3:Bool) (w0:Int)
abbrev ah1:St:=⟨(acQ x1 u1 u0 u2 x2 u7 u8 u9 v0 v1 v2 x3 u4 r_),(kX v8)⟩
abbrev ajP:St:=⟨(acP x1 u1 u0 u2 x2 u7 u8 u9 v0 v1 v2 x3 u4),(kX v8)⟩
abbrev agV:St:=⟨(aeE x1 u1 u0 u2 x2 u7 u8 u9 v0 v1 v2 x3 u4),(kX v8)⟩
abbrev ahE:St:=⟨(aeT x1 u1 u0 u2 x2 u7 u8 u9 v0 v1 v2 x3 u3 u5),(kX v9)⟩
abbrev ajV:St:=⟨(aeC x1 u1 u0 u2 x2 u7 u8 u9 v0 v1 v2 x3 u3),(kX v9)⟩
abbrev agx:St:=⟨(ae2 x1 u1 u0 u2 x2 u7 u8 u9 v0 v1 v2 x3 u3),(kX v9)⟩
abbrev aiO:St:=⟨(adP u2 x3 u6 v3),(kX w0)⟩
abbrev ajZ:St:=⟨(adb u2 x3 u6),(kX w0)⟩
abbrev af4:St:=⟨(adl u2 x3 u6),(kX w0)⟩
end
theorem zH (x1:Int) (u1:(List Source)) (u0:(List Link)) (u2:(List ax)) (x2:(List Bool)) (u7:(List Bool)) (u8:(List Bool)) (u9:(List Bool)) (v0:(List Bool)) (v1:(List Bool)) (v2:(List Bool)) (x3:(List Bool)) (v4:Int) {r:Int} (h:nM x1 u1 u0 u2 x2 u7 u8 u9 v0 v1 v2 x3 v4=some r):Fn Try.prog 124 (ajb x1 u1 u0 u2 x2 u7 u8 u9 v0 v1 v2 x3) (kX v4) (.iC []) [Vm,(1,some (.cells 3 [(cI r)]))]:=by
 refine fN tT Try.func124 rfl rfl fun B=> ?_
 show bL _ _ _ _ _ _ (dU r) _
 unfold nM at h
 refine aQ (sz tT ⟨(aaP x1 u1 u0 u2 x2 u7 u8 u9 v0 v1 v2 x3),(kX v4)⟩ {} [] ?_)
 refine bE h fun y hy h=> ?_
 refine aL [] (pG x1 u1 u0 u2 x2 u7 u8 u9 v0 v1 v2 x3 v4) (pI x1 u1 u0 u2 x2 u7 u8 u9 v0 v1 v2 x3 v4) dU hy (fun s f h=> ?_) ?_
 ·clear hy
  show bL _ _ _ _ _ _ ((zQ x1 u1 u0 u2 x2 u7 u8 u9 v0 v1 v2 x3 v4) f) _
  unfold p8 at h
  obtain⟨v6,u4⟩:=s
  refine sz tT ⟨(ahI x1 u1 u0 u2 x2 u7 u8 u9 v0 v1 v2 x3 u4),(kX v6)⟩ {} [] ?_
  refine aQ ?_
  refine bI h (fun hb1 h=> ?_) (fun hb1 h=> ?_)
  ·refine ct hb1 ?_
   refine aP (aQ (aB (aQ (aO h fun a1 h=> ?_))))
   refine rg tT ⟨(agy x1 u1 u0 u2 x2 u7 u8 u9 v0 v1 v2 x3 u4),(kX v6)⟩ [_] {fr:=[(3,17)] } [17] ⟨a1,trivial⟩ ?_
   refine aQ (bE h fun r_ hr_ h=> ?_)
   refine bI h (fun hb h=> ?_) (fun hb h=> ?_)
   ·skip
    refine bE h fun v8 hr_1 h=> ?_
    refine aO h fun a1 h=> ?_
    have q0:=fF (⟨x1,u1,u0,u2⟩:ai) (⟨x2,u7,u8,u9,v0,v1,v2⟩:State) u4 hr_
    refine ri tT (ah1 x1 u1 u0 u2 x2 u7 u8 u9 v0 v1 v2 x3 u4 r_ v8) (_::(eqs r_ 4 ((afG u1 x3 u4 r_)::(eqs r_ 3 [(sM u1 x3 u4 r_)=true,(sM u1 x3 u4 r_)=true,(sM u1 x3 u4 r_)=true,(sM u1 x3 u4 r_)=true,(sM u1 x3 u4 r_)=true,(sM u1 x3 u4 r_)=true,gP (jP [(4,r_),(12,true)]) [(12,true)]→All [Yl Try.prog 0 [(.agg [(cI 2),(cI u4)]),(sI ((at' u1 u4.toNat).power))] (kX v6) (vB true) (kX v8)],gP (jP [(4,r_),(12,true)]) [(12,true)],(sM u1 x3 u4 r_)=true,(sM u1 x3 u4 r_)=true])))) {yb:=[(4,r_),(12,true)],an:=[(3,cA q0 []),(18, .call [0,1] (vB true) (kX v8))] } [] ⟨q0,(ae ⟨(fun hg=> ⟨(a1 (aY hg)),trivial⟩),(ae ⟨(hb),(hb),(hb),(hb),(hb),(hb),(fun hg=> ⟨(kD 2 u4 ((at' u1 u4.toNat).power) v6 hr_1),trivial⟩),(⟨rfl,trivial⟩),(hb),(hb),trivial⟩)⟩)⟩ (bB.le (st':=(ajP x1 u1 u0 u2 x2 u7 u8 u9 v0 v1 v2 x3 u4 v8)) ⟨⟨tR,tR,tR,tR,tR,tR,tR,⟨_,rfl,eX.v (eO.one (bR.of (congrArg (fun b=>CV.d (.bool b)) (DI hb))))⟩,trivial⟩,(.refl _)⟩) ?_
    refine cn (aP (rz tT (agV x1 u1 u0 u2 x2 u7 u8 u9 v0 v1 v2 x3 u4 v8) {} [] ?_))
    obtain rfl:=oi h
    exact lN
   ·skip
    refine aO h fun a1 h=> ?_
    have q0:=fF (⟨x1,u1,u0,u2⟩:ai) (⟨x2,u7,u8,u9,v0,v1,v2⟩:State) u4 hr_
    refine ri tT (ah1 x1 u1 u0 u2 x2 u7 u8 u9 v0 v1 v2 x3 u4 r_ v6) (_::(agL u1 x3 u4 r_)) {yb:=[(4,r_),(12,false)],an:=[(3,cA q0 []),(13, .skip),(14, .skip),(15, .skip),(16, .skip),(17, .skip),(18, .skip),(19, .skip)] } [] ⟨q0,(ae ⟨(fun hg=> ⟨(a1 (aY hg)),trivial⟩),(ae ⟨(hb),((fun h=>Bool.noConfusion (show false=true from h.1))),(hb),((fun h=>Bool.noConfusion (show false=true from h.1))),(hb),((fun h=>Bool.noConfusion (show false=true from h.1))),(hb),((fun h=>Bool.noConfusion (show false=true from h.1))),(hb),((fun h=>Bool.noConfusion (show false=true from h.1))),(hb),((fun h=>Bool.noConfusion (show false=true from h.1))),(hb),((fun h=>Bool.noConfusion (show false=true from h.1))),(hb),trivial⟩)⟩)⟩ (bB.le (st':=(ajP x1 u1 u0 u2 x2 u7 u8 u9 v0 v1 v2 x3 u4 v6)) ⟨⟨tR,tR,tR,tR,tR,tR,tR,⟨_,rfl,eX.v (eO.one (bR.of (congrArg (fun b=>CV.d (.bool b)) (Df hb))))⟩,trivial⟩,(.refl _)⟩) ?_
    refine cn (aP (rz tT (agV x1 u1 u0 u2 x2 u7 u8 u9 v0 v1 v2 x3 u4 v6) {} [] ?_))
    obtain rfl:=oi h
    exact lN
  ·refine cf hb1 ?_
   refine aI (fz (agv x1 u1 u0 u2 x2 u7 u8 u9 v0 v1 v2 x3 v6) []) ?_
   refine aX ?_
   obtain rfl:=oi h
   exact lB
 ·clear hy
  cases y with
  |brk z=>
   obtain⟨w1,rfl⟩: ∃q,q=z:=⟨_,rfl⟩
   unfold fZ
   refine⟨_, .refl, ?_⟩
   refine aQ (sz tT ⟨(aga x1 u1 u0 u2 x2 u7 u8 u9 v0 v1 v2 x3),(kX w1)⟩ {} [] ?_)
   refine bE h fun y1 hy h=> ?_
   refine aL [] (pQ x1 u1 u0 u2 x2 u7 u8 u9 v0 v1 v2 x3 v4) (qx x1 u1 u0 u2 x3 v4) dU hy (fun s f h=> ?_) ?_
   ·clear hy
    show bL _ _ _ _ _ _ ((Ap x1 u1 u0 u2 x2 u7 u8 u9 v0 v1 v2 x3 v4) f) _
    unfold qw at h
    obtain⟨v7,u3⟩:=s
    refine sz tT ⟨(aif x1 u1 u0 u2 x2 u7 u8 u9 v0 v1 v2 x3 u3),(kX v7)⟩ {} [] ?_
    refine aQ ?_
    refine bI h (fun hb3 h=> ?_) (fun hb3 h=> ?_)
    ·refine ct hb3 ?_
     refine aP (aQ (aB (aQ (aO h fun a1 h=> ?_))))
     refine rg tT ⟨(ajj x1 u1 u0 u2 x2 u7 u8 u9 v0 v1 v2 x3 u3),(kX v7)⟩ [_] {fr:=[(3,21)] } [21] ⟨a1,trivial⟩ ?_
     refine aQ (bE h fun u5 hr_2 h=> ?_)
     refine bI h (fun hb2 h=> ?_) (fun hb2 h=> ?_)
     ·skip
      refine bE h fun v9 hr_3 h=> ?_
      refine aO h fun⟨a1,a2⟩ h=> ?_
      have q0:=dP (⟨x1,u1,u0,u2⟩:ai) (⟨x2,u7,u8,u9,v0,v1,v2⟩:State) u3 hr_2
      refine di tT mX (ahE x1 u1 u0 u2 x2 u7 u8 u9 v0 v1 v2 x3 u3 u5 v9) (_::(eqs u5 4 ((ajq u0 x3 u3 u5)::(eqs u5 5 ((afH u0 x3 u3 u5)::(eqs u5 3 [(sK u0 x3 u3 u5)=true,(sK u0 x3 u3 u5)=true,(sK u0 x3 u3 u5)=true,(sK u0 x3 u3 u5)=true,(sK u0 x3 u3 u5)=true,(sK u0 x3 u3 u5)=true,gP (Uu u5) [(17,true)]→All [Yl Try.prog 0 [(.agg [(cI 3),(cI u3)]),(sI ((at' u0 u3.toNat).most))] (kX v7) (vB true) (kX v9)],gP (Uu u5) [(17,true)],(sK u0 x3 u3 u5)=true,(sK u0 x3 u3 u5)=true])))))) {yb:=[(4,u5),(17,true)],an:=[(3,cA q0 []),(23, .call [0,1] (vB true) (kX v9))] } [] ⟨q0,(ae ⟨(fun hg=> ⟨(a1 (aY hg)),trivial⟩),(ae ⟨(fun hg=> ⟨(a2 (aY hg)),trivial⟩),(ae ⟨(hb2),(hb2),(hb2),(hb2),(hb2),(hb2),(fun hg=> ⟨(kD 3 u3 ((at' u0 u3.toNat).most) v7 hr_3),trivial⟩),(⟨rfl,trivial⟩),(hb2),(hb2),trivial⟩)⟩)⟩)⟩ (bB.le (st':=(ajV x1 u1 u0 u2 x2 u7 u8 u9 v0 v1 v2 x3 u3 v9)) ⟨⟨tR,tR,tR,tR,tR,tR,tR,⟨_,rfl,eX.v (eO.one (bR.of (congrArg (fun b=>CV.d (.bool b)) (DI hb2))))⟩,trivial⟩,(.refl _)⟩) ?_
      refine cn (aP (rz tT (agx x1 u1 u0 u2 x2 u7 u8 u9 v0 v1 v2 x3 u3 v9) {} [] ?_))
      obtain rfl:=oi h
      exact lN
     ·skip
      refine aO h fun⟨a1,a2⟩ h=> ?_
      have q0:=dP (⟨x1,u1,u0,u2⟩:ai) (⟨x2,u7,u8,u9,v0,v1,v2⟩:State) u3 hr_2
      refine di tT mX (ahE x1 u1 u0 u2 x2 u7 u8 u9 v0 v1 v2 x3 u3 u5 v7) (_::(aiu u0 x3 u3 u5)) {yb:=[(4,u5),(17,false)],an:=[(3,cA q0 []),(18, .skip),(19, .skip),(20, .skip),(21, .skip),(22, .skip),(23, .skip),(24, .skip)] } [] ⟨q0,(ae ⟨(fun hg=> ⟨(a1 (aY hg)),trivial⟩),(ae ⟨(fun hg=> ⟨(a2 (aY hg)),trivial⟩),(ae ⟨(hb2),((fun h=>Bool.noConfusion (show false=true from h.1))),(hb2),((fun h=>Bool.noConfusion (show false=true from h.1))),(hb2),((fun h=>Bool.noConfusion (show false=true from h.1))),(hb2),((fun h=>Bool.noConfusion (show false=true from h.1))),(hb2),((fun h=>Bool.noConfusion (show false=true from h.1))),(hb2),((fun h=>Bool.noConfusion (show false=true from h.1))),(hb2),((fun h=>Bool.noConfusion (show false=true from h.1))),(hb2),trivial⟩)⟩)⟩)⟩ (bB.le (st':=(ajV x1 u1 u0 u2 x2 u7 u8 u9 v0 v1 v2 x3 u3 v7)) ⟨⟨tR,tR,tR,tR,tR,tR,tR,⟨_,rfl,eX.v (eO.one (bR.of (congrArg (fun b=>CV.d (.bool b)) (Df hb2))))⟩,trivial⟩,(.refl _)⟩) ?_
      refine cn (aP (rz tT (agx x1 u1 u0 u2 x2 u7 u8 u9 v0 v1 v2 x3 u3 v7) {} [] ?_))
      obtain rfl:=oi h
      exact lN
    ·refine cf hb3 ?_
     refine aI (fz (afx x1 u1 u0 u2 x3 v7) []) ?_
     refine aX ?_
     obtain rfl:=oi h
     exact lB
   ·clear hy
    cases y1 with
    |brk z=>
     obtain⟨w2,rfl⟩: ∃q,q=z:=⟨_,rfl⟩
     unfold fZ
     refine⟨_, .refl, ?_⟩
     refine sz tT ⟨(agc u2 x3),(kX w2)⟩ {} [] ?_
     refine bE h fun y2 hy h=> ?_
     refine aL [] (qA u2 x3) qj dU hy (fun s f h=> ?_) ?_
     ·clear hy
      show bL _ _ _ _ _ _ ((zZ u2 x3) f) _
      unfold qf at h
      obtain⟨v5,u6⟩:=s
      refine sz tT ⟨(ahM u2 x3 u6),(kX v5)⟩ {} [] ?_
      refine aQ ?_
      refine bI h (fun hb5 h=> ?_) (fun hb5 h=> ?_)
      ·refine ct hb5 ?_
       refine aP (aQ (aB (aQ (aO h fun a1 h=> ?_))))
       refine rg tT ⟨(aiM u2 x3 u6),(kX v5)⟩ [_] {fr:=[(3,25)] } [25] ⟨a1,trivial⟩ ?_
       refine aQ (bE h fun v3 hr_4 h=> ?_)
       refine rg tT ⟨(agr u2 x3 u6 v3),(kX v5)⟩ [Fn Try.prog 67 [(sD (.sl (some true) 1 [(Ko u2 u6).e0,(Ko u2 u6).e1].length (fun i j=>((acT u2 u6).getD (0+(0+(i*1+j))) .nilp)))),(sD (.fn 125 1 (VW x3)))] [] (vB v3) []] {an:=[(3, .call [] (vB v3) [])] } [] ⟨(Fn.leH (args:=(ah8 u2 x3 u6)) (hin:=[]) (kR [(Ko u2 u6).e0,(Ko u2 u6).e1] x3 hr_4) ⟨eO.one (bR.d (dX.sl (.inl rfl) (by intro i hi j hj;match i,j,hi,hj with|0,0,_,_=>exact .refl _|1,0,_,_=>exact .refl _))),eO.refl _,trivial⟩ trivial),trivial⟩ ?_
       refine aQ ?_
       refine bI h (fun hb4 h=> ?_) (fun hb4 h=> ?_)
       ·skip
        refine bE h fun w0 hr_5 h=> ?_
        refine ri tT (aiO u2 x3 u6 v3 w0) [v3=true,v3=true,v3=true,v3=true,v3=true,v3=true,gP (jP [(1,true)]) [(1,true)]→All [Yl Try.prog 0 [(.agg [(cI 0),(cI u6)]),(sI (Ld u2 u6))] (kX v5) (vB true) (kX w0)],gP (jP [(1,true)]) [(1,true)],v3=true,v3=true] {yb:=[(1,true)],an:=[(7, .call [0,1] (vB true) (kX w0))] } [] ⟨(hb4),(hb4),(hb4),(hb4),(hb4),(hb4),(fun hg=> ⟨(kD 0 u6 (Ld u2 u6) v5 hr_5),trivial⟩),(⟨rfl,trivial⟩),(hb4),(hb4),trivial⟩ (bB.le (st':=(ajZ u2 x3 u6 w0)) ⟨⟨tR,tR,tR,tR,tR,⟨_,rfl,eX.v (eO.one (bR.of (congrArg (fun b=>CV.d (.bool b)) (DI hb4))))⟩,trivial⟩,(.refl _)⟩) ?_
        refine cn (aP (rz tT (af4 u2 x3 u6 w0) {} [] ?_))
        obtain rfl:=oi h
        exact lN
       ·skip
        refine ri tT (aiO u2 x3 u6 v3 v5) [v3=false, ¬ gP (jP [(1,false)]) [(1,true)],v3=false, ¬ gP (jP [(1,false)]) [(1,true)],v3=false, ¬ gP (jP [(1,false)]) [(1,true)],v3=false, ¬ gP (jP [(1,false)]) [(1,true)],v3=false, ¬ gP (jP [(1,false)]) [(1,true)],v3=false, ¬ gP (jP [(1,false)]) [(1,true)],v3=false, ¬ gP (jP [(1,false)]) [(1,true)],v3=false] {yb:=[(1,false)],an:=[(2, .skip),(3, .skip),(4, .skip),(5, .skip),(6, .skip),(7, .skip),(8, .skip)] } [] ⟨(hb4),((fun h=>Bool.noConfusion (show false=true from h.1))),(hb4),((fun h=>Bool.noConfusion (show false=true from h.1))),(hb4),((fun h=>Bool.noConfusion (show false=true from h.1))),(hb4),((fun h=>Bool.noConfusion (show false=true from h.1))),(hb4),((fun h=>Bool.noConfusion (show false=true from h.1))),(hb4),((fun h=>Bool.noConfusion (show false=true from h.1))),(hb4),((fun h=>Bool.noConfusion (show false=true from h.1))),(hb4),trivial⟩ (bB.le (st':=(ajZ u2 x3 u6 v5)) ⟨⟨tR,tR,tR,tR,tR,⟨_,rfl,eX.v (eO.one (bR.of (congrArg (fun b=>CV.d (.bool b)) (Df hb4))))⟩,trivial⟩,(.refl _)⟩) ?_
        refine cn (aP (rz tT (af4 u2 x3 u6 v5) {} [] ?_))
        obtain rfl:=oi h
        exact lN
      ·refine cf hb5 ?_
       refine aI (fz ⟨[],(kX v5)⟩ []) ?_
       refine aX ?_
       obtain rfl:=oi h
       exact lB
     ·clear hy
      cases y2 with
      |brk z=>
       obtain⟨o1105,rfl⟩: ∃q,q=z:=⟨_,rfl⟩
       unfold fZ
       refine⟨_, .refl, ?_⟩
       obtain rfl:=oi h
       exact bJ.mk (.inl rfl) (p:=[]) (l:=[]) (by kernel_rfl) trivial (eX.refl _) (.refl _)
      |ret v=>
       obtain rfl:=oi h
       unfold fZ
       intro e st hn ha hR
       cases e with
       |normal=>exact absurd rfl hn
       |exit id=>exact hR
       |goto l=>exact hR
       |ret=>exact hR
       |panic c=>exact hR
       |outgrown=>exact hR
    |ret v=>
     obtain rfl:=oi h
     unfold fZ
     intro e st hn ha hR
     cases e with
     |normal=>exact absurd rfl hn
     |exit id=>exact hR
     |goto l=>exact hR
     |ret=>exact hR
     |panic c=>exact hR
     |outgrown=>exact hR
  |ret v=>
   obtain rfl:=oi h
   unfold fZ
   intro e st hn ha hR
   cases e with
   |normal=>exact absurd rfl hn
   |exit id=>exact hR
   |goto l=>exact hR
   |ret=>exact hR
   |panic c=>exact hR
   |outgrown=>exact hR
def qg  :(Int × Int)→Exit→St→Prop:=
  fun r=>bJ TT [.tmp 6, .tmp 7] (.iC [(sI r.1),(sI r.2)]) []
section
variable (u0:(List Bool))
abbrev JE:Nat × TV:=(2,(vD (aG none 1 ah u0)))
abbrev Uw:Nat × TV:=(25,(vD (aG none 1 ah u0)))
abbrev Uy:Nat × TV:=(26,(vI (u0.length:Int)))
end
def vN (p:ai) (s_:State) (u0:(List Bool)):Int→St:=
  fun u1=> ⟨[(JE u0),(bU p),(bO s_),(Uw u0),(Uy u0),(27,(vI u1))],[]⟩
section
variable (u0:(List Bool)) (p:ai) (s_:State)
abbrev ae7:St:=⟨[(JE u0),(bU p),(bO s_)],[]⟩
end
def wP (p:ai) (s_:State) (u0:(List Bool)):Unit→St:=
  fun _=>(ae7 u0 p s_)
def EO (p:ai) (s_:State) (u0:(List Bool)):(aU Int (Ex Unit (Int × Int)))→Exit→St→Prop:=
  LQ 0 [] (vN p s_ u0) (wP p s_ u0) qg
section
variable (u0:(Int × (List Source) × (List Link) × (List ax) × (List Bool) × (List Bool) × (List Bool) × (List Bool) × (List Bool) × (List Bool) × (List Bool) × (List Bool)))
abbrev aha:List (Nat × TV):=[(11,(vP 6 0)),(44,(ZG u0))]
end
theorem vv (p:ai) (s_:State) (u1:(List Bool)) {r:(Int × Int)} (h:oF p s_ u1=some r):Fn Try.prog 45 (ahN p s_ u1) [] (.iC [(sI r.1),(sI r.2)]) []:=by
 refine fN tT Try.func45 rfl rfl fun B=> ?_
 show bL _ _ _ _ _ _ (qg r) _
 unfold oF at h
 refine sz tT (ae7 u1 p s_) {fr:=[(0,4),(1,5)] } [4,5] ?_
 refine aQ (aQ (bE h fun r_ hr_ h=> ?_))
 have q0:=dL p s_ hr_
 refine rg tT ⟨[(JE u1),(bU p),(bO s_),(8,(vI r_))],[]⟩ [_] {an:=[(2,cA q0 [])] } [] ⟨q0,trivial⟩ ?_
 refine sz tT ⟨[(JE u1),(bU p),(bO s_),(8,(vI r_)),(18,(vB (!decide (r_=0))))],[]⟩ {} [] ?_
 refine bI h (fun hb3 h=> ?_) (fun hb3 h=> ?_)
 ·refine ct hb3 ?_
  refine sz tT ⟨[(6,(vI 0)),(7,(vI r_))],[]⟩ {} [] ?_
  refine aR ?_
  obtain rfl:=oi h
  exact rl [(sI 0),(sI r_)]
 ·refine cf hb3 ?_
  refine aP (aQ (sz tT ⟨[(JE u1),(bU p),(bO s_),(24,(vB (!decide ((u1.length:Int)=p.buses))))],[]⟩ {} [] ?_))
  refine bI h (fun hb2 h=> ?_) (fun hb2 h=> ?_)
  ·refine ct hb2 ?_
   refine sz tT ⟨[(6,(vI 0)),(7,(vI 1))],[]⟩ {} [] ?_
   refine aR ?_
   obtain rfl:=oi h
   exact rl [(sI 0),(sI 1)]
  ·refine cf hb2 ?_
   refine aP (aQ (sz tT ⟨[(JE u1),(bU p),(bO s_),(Uw u1),(Uy u1),(27,(vI 0))],[]⟩ {} [] ?_))
   refine bE h fun y hy h=> ?_
   refine aL [] (vN p s_ u1) (wP p s_ u1) qg hy (fun s f h=> ?_) ?_
   ·clear hy
    show bL _ _ _ _ _ _ ((EO p s_ u1) f) _
    unfold vE at h
    obtain⟨u2,rfl⟩: ∃q,q=s:=⟨_,rfl⟩
    refine sz tT ⟨[(JE u1),(bU p),(bO s_),(Uw u1),(Uy u1),(27,(vI u2)),(28,(vB (decide (u2<(u1.length:Int)))))],[]⟩ {} [] ?_
    refine aQ ?_
    refine bI h (fun hb1 h=> ?_) (fun hb1 h=> ?_)
    ·refine ct hb1 ?_
     refine aP (aQ (aB (aQ (aO h fun a1 h=> ?_))))
     refine rg tT ⟨[(JE u1),(bU p),(bO s_),(9,(vI u2)),(10,(vB (at' u1 u2.toNat))),(Uw u1),(Uy u1),(27,(vI u2))],[]⟩ [_] {} [] ⟨a1,trivial⟩ ?_
     refine aQ (aO h fun a1 h=> ?_)
     refine rg tT ⟨[(JE u1),(bU p),(bO s_),(Uw u1),(Uy u1),(27,(vI u2)),(39,(vB (bif (at' u1 u2.toNat)then(at' s_.badBus u2.toNat)else false)))],[]⟩ (eqs (at' u1 u2.toNat) 4 ((gP (jP [(1,(at' u1 u2.toNat))]) [(1,true)]→All [(0:Int)≤u2∧u2<(s_.badBus.length:Int)])::(eqs (at' u1 u2.toNat) 2 []))) {yb:=[(1,(at' u1 u2.toNat))] } [] (ae ⟨(fun hg=> ⟨(a1 (aY hg)),trivial⟩),(ae trivial)⟩) ?_
     refine bI h (fun hb h=> ?_) (fun hb h=> ?_)
     ·refine ct hb ?_
      refine sz tT ⟨[(6,(vI 0)),(7,(vI 1))],[]⟩ {} [] ?_
      refine aR ?_
      obtain rfl:=oi h
      exact lR fQ (fT 0) fU (bJ.mk (.inr rfl) (p:=[]) (l:=[(sI 0),(sI 1)]) (by kernel_rfl) trivial (eX.refl _) trivial)
     ·refine cf hb ?_
      refine aP (rz tT ⟨[(JE u1),(bU p),(bO s_),(Uw u1),(Uy u1),(27,(k3 u2))],[]⟩ {} [] ?_)
      obtain rfl:=oi h
      exact lN
    ·refine cf hb1 ?_
     refine aI (fz (ae7 u1 p s_) []) ?_
     refine aX ?_
     obtain rfl:=oi h
     exact lB
   ·clear hy
    cases y with
    |brk z=>
     unfold fZ
     refine⟨_, .refl, ?_⟩
     refine sz tT ⟨[(JE u1),(bU p),(bO s_),(11,(vP 6 0))],[(6,some (.cells 3 [(cI 0)]))]⟩ {fr:=[(0,6)] } [] ?_
     refine aQ (aQ (bE h fun u0 hr_1 h=> ?_))
     have q0:=xU p s_ u1 hr_1
     refine rg tT ⟨(aha u0),[(6,some (.cells 3 [(cI 0)]))]⟩ [_] {an:=[(3,cA q0 [])] } [] ⟨q0,trivial⟩ ?_
     refine aB (bE h fun u3 hr_2 h=> ?_)
     refine jq 7 [(11,(vP 6 0))] [] [7,6] (.iC []) [(7,some (.loop eD 0 [(11,(vP 6 0))])),(6,some (.cells 3 [(cI u3)]))] (ZG u0) 124 [] (aiq u0) [(7,some (.loop eD 0 [(11,(vP 6 0))])),(6,some (.cells 3 [(cI 0)]))] [(.one (.yl 7)),(sD (Zy u0)),(sD (Y4 u0)),(sD (aaH u0))] eD 0 [(11,(vP 6 0))] (by kernel_rfl) (by kernel_rfl) (by kernel_rfl) (by kernel_rfl) (by kernel_rfl) (by kernel_rfl) (by kernel_rfl) (rK [(0,7),(1,6)] (zH u0.1 u0.2.1 u0.2.2.1 u0.2.2.2.1 u0.2.2.2.2.1 u0.2.2.2.2.2.1 u0.2.2.2.2.2.2.1 u0.2.2.2.2.2.2.2.1 u0.2.2.2.2.2.2.2.2.1 u0.2.2.2.2.2.2.2.2.2.1 u0.2.2.2.2.2.2.2.2.2.2.1 u0.2.2.2.2.2.2.2.2.2.2.2 0 hr_2)) (by kernel_rfl) rfl (DL.zero rfl) (bB.fin (st':=⟨(aha u0),[(6,some (.cells 3 [(cI u3)]))]⟩) (cs:=[]) ⟨[],[(6,6)]⟩ [11,44] (by kernel_rfl) trivial) ?_
     refine sz tT ⟨[(6,(vI u3)),(7,(vI 0))],[]⟩ {} [] ?_
     refine aR ?_
     obtain rfl:=oi h
     exact rl [(sI u3),(sI 0)]
    |ret v=>
     obtain rfl:=oi h
     unfold fZ
     intro e st hn ha hR
     cases e with
     |normal=>exact absurd rfl hn
     |exit id=>exact hR
     |goto l=>exact hR
     |ret=>exact hR
     |panic c=>exact hR
     |outgrown=>exact hR
abbrev aey:Ob:=(.cells 186 [(.d (.fn 128 0 (og []))),(.d (.fn 129 0 (og []))),(.d (.fn 130 0 (og [])))])
abbrev adv:List (Nat × Option Ob):=[(0,some aey)]
def Gm  :Unit→Exit→St→Prop:=
  fun _=>bJ TT [.tmp 0] (vO 0 true 3) adv
theorem Fe  {r:Unit} (h:Ao=some r):Fn Try.prog 91 [] [] (vO 0 true 3) adv:=by
 refine fN tT Try.func91 rfl rfl fun B=> ?_
 show bL _ _ _ _ _ _ (Gm r) _
 unfold Ao at h
 refine sz tT ⟨[],[]⟩ {} [] ?_
 refine sz tT ⟨[(0,(vO 1 true 3))],[(1,some aey)]⟩ {an:=[(3, .cells)],fr:=[(3,1)] } [] ?_
 refine aI (bB.fin (st':=⟨[(0,(vO 0 true 3))],adv⟩) (cs:=[]) ⟨[],[(1,0)]⟩ [0] (by kernel_rfl) trivial) ?_
 refine aR ?_
 obtain rfl:=oi h
 exact rl [(.one (.own 0 true 3))]
def kG  :Bool→Exit→St→Prop:=
  fun r=>bJ TT [.tmp 6] (vB r) []
section
variable (x:aj)
abbrev agK:TV:=(vD (kH [(aG none 1 (au .i64) x.sources),(aG none 1 (au .i64) x.links),(aG none 2 af.cell x.racks)] 0))
abbrev uI:Nat × TV:=(5,(agK x))
abbrev Uv:Nat × TV:=(12,(vD (aG none 1 (au .i64) x.sources)))
abbrev VK:Nat × TV:=(13,(vI (x.sources.length:Int)))
end
def xB (p:ai) (s_:State) (x:aj):Int→St:=
  fun u0=> ⟨[(bU p),(bO s_),(uI x),(Uv x),(VK x),(14,(vI u0))],[]⟩
section
variable (p:ai) (s_:State) (x:aj)
abbrev aat:St:=⟨[(bU p),(bO s_),(uI x)],[]⟩
end
def xw (p:ai) (s_:State) (x:aj):Unit→St:=
  fun _=>(aat p s_ x)
def Gt (p:ai) (s_:State) (x:aj):(aU Int (Ex Unit Bool))→Exit→St→Prop:=
  LQ 0 [] (xB p s_ x) (xw p s_ x) kG
section
variable (x:aj)
abbrev Vs:Nat × TV:=(44,(vD (aG none 1 (au .i64) x.links)))
abbrev UG:Nat × TV:=(45,(vI (x.links.length:Int)))
end
def xP (p:ai) (s_:State) (x:aj):Int→St:=
  fun u0=> ⟨[(bU p),(bO s_),(Vs x),(UG x),(46,(vI u0))],[]⟩
def xk  :Unit→St:=
  fun _=> ⟨[],[]⟩
def FK (p:ai) (s_:State) (x:aj):(aU Int (Ex Unit Bool))→Exit→St→Prop:=
  LQ 2 [] (xP p s_ x) xk kG
section
variable (p:ai) (s_:State) (x:aj) (u1:Int) (u0:Int)
abbrev aaq:List SV:=[(.agg (k5 p)),(.agg (Vl s_)),(.agg (Ze x))]
abbrev WU:=(decide ((at' x.sources u1.toNat)<0))
abbrev PI:=(bif (WU x u1)then true else(decide (((at' p.sources u1.toNat).power)<(at' x.sources u1.toNat))))
abbrev PD:=(decide (0<(at' x.sources u1.toNat)))
abbrev afc:=(jP [(2,(WU x u1)),(12,(PI p x u1)),(15,(PD x u1))])
abbrev WS:=(decide ((at' x.links u0.toNat)<(IntKind.wrap .i64 (0 - (NG p u0)))))
abbrev PG:=(bif (WS p x u0)then true else(decide ((NG p u0)<(at' x.links u0.toNat))))
abbrev O7:=(!decide ((at' x.links u0.toNat)=0))
abbrev ac4:=(jP [(9,(WS p x u0)),(19,(PG p x u0)),(22,(O7 x u0))])
end
theorem F4 (p:ai) (s_:State) (x:aj) {r:Bool} (h:uU p s_ x=some r):Fn Try.prog 128 (aaq p s_ x) [] (vB r) []:=by
 refine fN tT Try.func128 rfl rfl fun B=> ?_
 show bL _ _ _ _ _ _ (kG r) _
 unfold uU at h
 refine sz tT (aat p s_ x) {fr:=[(0,3),(1,4),(2,5)] } [3,4,5] ?_
 refine aQ (sz tT ⟨[(bU p),(bO s_),(uI x),(Uv x),(VK x),(14,(vI 0))],[]⟩ {} [] ?_)
 refine bE h fun y hy h=> ?_
 refine aL [] (xB p s_ x) (xw p s_ x) kG hy (fun s f h=> ?_) ?_
 ·clear hy
  show bL _ _ _ _ _ _ ((Gt p s_ x) f) _
  unfold yj at h
  obtain⟨u1,rfl⟩: ∃q,q=s:=⟨_,rfl⟩
  refine sz tT ⟨[(bU p),(bO s_),(uI x),(Uv x),(VK x),(14,(vI u1)),(15,(vB (decide (u1<(x.sources.length:Int)))))],[]⟩ {} [] ?_
  refine aQ ?_
  refine bI h (fun hb1 h=> ?_) (fun hb1 h=> ?_)
  ·refine ct hb1 ?_
   refine aP (aQ (aB (aQ (aO h fun a1 h=> ?_))))
   refine rg tT ⟨[(bU p),(bO s_),(uI x),(7,(vI u1)),(8,(vI (at' x.sources u1.toNat))),(Uv x),(VK x),(14,(vI u1))],[]⟩ [_] {} [] ⟨a1,trivial⟩ ?_
   refine aQ (bE h fun r_ hr_ h=> ?_)
   refine aO h fun a1 h=> ?_
   refine rg tT ⟨[(bU p),(bO s_),(uI x),(Uv x),(VK x),(14,(vI u1)),(41,(vB (bif (PI p x u1)then true else(bif (PD x u1)then(!r_)else false))))],[]⟩ (eqs (WU x u1) 5 ((gP (afc p x u1) [(2,false)]→All [(0:Int)≤u1∧u1<(p.sources.length:Int)])::(eqs (WU x u1) 4 (eqs (PI p x u1) 3 (eqs (PD x u1) 4 [gP (afc p x u1) [(15,true),(12,false)]→All [Fn Try.prog 65 (Tn p s_ u1) [] (vB r_) []],(PD x u1)=(PD x u1),(PI p x u1)=(PI p x u1),gP (afc p x u1) [(12,false)]→All [(PD x u1)=(PD x u1)],(PI p x u1)=(PI p x u1)]))))) {yb:=[(2,(WU x u1)),(12,(PI p x u1)),(15,(PD x u1))],an:=[(19, .call [] (vB r_) [])] } [] (ae ⟨(fun hg=> ⟨(a1 (aY hg)),trivial⟩),(ae (ae (ae ⟨(fun hg=> ⟨(fF p s_ u1 (dZ hr_ (aY hg))),trivial⟩),rfl,rfl,(fun hg=> ⟨rfl,trivial⟩),rfl,trivial⟩)))⟩) ?_
   refine bI h (fun hb h=> ?_) (fun hb h=> ?_)
   ·refine ct hb ?_
    refine sz tT ⟨[(6,(vB false))],[]⟩ {} [] ?_
    refine aR ?_
    obtain rfl:=oi h
    exact lR fQ (fT 0) fU (bJ.mk (.inr rfl) (p:=[]) (l:=[(sB false)]) (by kernel_rfl) trivial (eX.refl _) trivial)
   ·refine cf hb ?_
    refine aP (rz tT ⟨[(bU p),(bO s_),(uI x),(Uv x),(VK x),(14,(k3 u1))],[]⟩ {} [] ?_)
    obtain rfl:=oi h
    exact lN
  ·refine cf hb1 ?_
   refine aI (fz (aat p s_ x) []) ?_
   refine aX ?_
   obtain rfl:=oi h
   exact lB
 ·clear hy
  cases y with
  |brk z=>
   unfold fZ
   refine⟨_, .refl, ?_⟩
   refine aQ (sz tT ⟨[(bU p),(bO s_),(Vs x),(UG x),(46,(vI 0))],[]⟩ {} [] ?_)
   refine bE h fun y1 hy h=> ?_
   refine aL [] (xP p s_ x) xk kG hy (fun s f h=> ?_) ?_
   ·clear hy
    show bL _ _ _ _ _ _ ((FK p s_ x) f) _
    unfold yo at h
    obtain⟨u0,rfl⟩: ∃q,q=s:=⟨_,rfl⟩
    refine sz tT ⟨[(bU p),(bO s_),(Vs x),(UG x),(46,(vI u0)),(47,(vB (decide (u0<(x.links.length:Int)))))],[]⟩ {} [] ?_
    refine aQ ?_
    refine bI h (fun hb3 h=> ?_) (fun hb3 h=> ?_)
    ·refine ct hb3 ?_
     refine aP (aQ (aB (aQ (aO h fun a1 h=> ?_))))
     refine rg tT ⟨[(bU p),(bO s_),(9,(vI u0)),(10,(vI (at' x.links u0.toNat))),(Vs x),(UG x),(46,(vI u0))],[]⟩ [_] {} [] ⟨a1,trivial⟩ ?_
     refine aQ (bE h fun u2 hr_1 h=> ?_)
     refine aO h fun⟨a1,a2⟩ h=> ?_
     refine rg tT ⟨[(bU p),(bO s_),(Vs x),(UG x),(46,(vI u0)),(80,(vB (bif (PG p x u0)then true else(bif (O7 x u0)then(!u2)else false))))],[]⟩ (_::(eqs (WS p x u0) 5 ((gP (ac4 p x u0) [(9,false)]→All [(0:Int)≤u0∧u0<(p.links.length:Int)])::(eqs (WS p x u0) 4 (eqs (PG p x u0) 3 (eqs (O7 x u0) 4 [gP (ac4 p x u0) [(22,true),(19,false)]→All [Fn Try.prog 78 (Tn p s_ u0) [] (vB u2) []],(O7 x u0)=(O7 x u0),(PG p x u0)=(PG p x u0),gP (ac4 p x u0) [(19,false)]→All [(O7 x u0)=(O7 x u0)],(PG p x u0)=(PG p x u0)])))))) {yb:=[(9,(WS p x u0)),(19,(PG p x u0)),(22,(O7 x u0))],an:=[(26, .call [] (vB u2) [])] } [] ⟨a1,(ae ⟨(fun hg=> ⟨(a2 (aY hg)),trivial⟩),(ae (ae (ae ⟨(fun hg=> ⟨(dP p s_ u0 (dZ hr_1 (aY hg))),trivial⟩),rfl,rfl,(fun hg=> ⟨rfl,trivial⟩),rfl,trivial⟩)))⟩)⟩ ?_
     refine bI h (fun hb2 h=> ?_) (fun hb2 h=> ?_)
     ·refine ct hb2 ?_
      refine sz tT ⟨[(6,(vB false))],[]⟩ {} [] ?_
      refine aR ?_
      obtain rfl:=oi h
      exact lR fQ (fT 2) fU (bJ.mk (.inr rfl) (p:=[]) (l:=[(sB false)]) (by kernel_rfl) trivial (eX.refl _) trivial)
     ·refine cf hb2 ?_
      refine aP (rz tT ⟨[(bU p),(bO s_),(Vs x),(UG x),(46,(k3 u0))],[]⟩ {} [] ?_)
      obtain rfl:=oi h
      exact lN
    ·refine cf hb3 ?_
     refine aI (fz ⟨[],[]⟩ []) ?_
     refine aX ?_
     obtain rfl:=oi h
     exact lB
   ·clear hy
    cases y1 with
    |brk z=>
     unfold fZ
     refine⟨_, .refl, ?_⟩
     refine sz tT ⟨[(6,(vB true))],[]⟩ {} [] ?_
     refine aR ?_
     obtain rfl:=oi h
     exact rl [(sB true)]
    |ret v=>
     obtain rfl:=oi h
     unfold fZ
     intro e st hn ha hR
     cases e with
     |normal=>exact absurd rfl hn
     |exit id=>exact hR
     |goto l=>exact hR
     |ret=>exact hR
     |panic c=>exact hR
     |outgrown=>exact hR
  |ret v=>
   obtain rfl:=oi h
   unfold fZ
   intro e st hn ha hR
   cases e with
   |normal=>exact absurd rfl hn
   |exit id=>exact hR
   |goto l=>exact hR
   |ret=>exact hR
   |panic c=>exact hR
   |outgrown=>exact hR
def wz  :Bool→Exit→St→Prop:=
  fun r=>bJ TT [.tmp 6] (vB r) []
section
variable (x:aj)
abbrev Du:Nat × TV:=(12,(vD (aG none 2 af.cell x.racks)))
abbrev Dv:Nat × TV:=(13,(vI (x.racks.length:Int)))
end
def AV (p:ai) (s_:State) (x:aj):Int→St:=
  fun u0=> ⟨[(bU p),(bO s_),(Du x),(Dv x),(14,(vI u0))],[]⟩
def Aw  :Unit→St:=
  fun _=> ⟨[],[]⟩
def sU (p:ai) (s_:State) (x:aj):(aU Int (Ex Unit Bool))→Exit→St→Prop:=
  LQ 0 [] (AV p s_ x) Aw wz
section
variable (x:aj) (u0:Int)
abbrev J8:Nat × TV:=(8,(ad6 x u0))
abbrev aeM:List CV:=[(cI ((at' x.racks u0.toNat).e0)),(cI ((at' x.racks u0.toNat).e1))]
abbrev LK:Nat × TV:=(19,(.v (.agg (aeM x u0))))
end
def AA (p:ai) (s_:State) (x:aj) (u0:Int):Int→St:=
  fun u1=> ⟨[(bU p),(bO s_),(7,(vI u0)),(J8 x u0),(Du x),(Dv x),(14,(vI u0)),(LK x u0),(20,(vI u1))],[]⟩
section
variable (p:ai) (s_:State) (u0:Int) (x:aj)
abbrev adS:St:=⟨[(bU p),(bO s_),(7,(vI u0)),(J8 x u0),(Du x),(Dv x),(14,(vI u0))],[]⟩
end
def Ba (p:ai) (s_:State) (x:aj) (u0:Int):Unit→St:=
  fun _=>(adS p s_ u0 x)
def Jw (p:ai) (s_:State) (x:aj) (u0:Int):(aU Int (Ex Unit (aU Int (Ex Unit Bool))))→Exit→St→Prop:=
  LQ 2 [1] (AA p s_ x u0) (Ba p s_ x u0) (sU p s_ x)
section
variable (x:aj) (u0:Int) (u1:Int) (p:ai) (r_:Bool)
abbrev U2:=(at' [(at' x.racks u0.toNat).e0,(at' x.racks u0.toNat).e1] u1.toNat)
abbrev acK:Nat × TV:=(10,(vI (U2 x u0 u1)))
abbrev OP:=(decide ((U2 x u0 u1)<0))
abbrev FQ:=(bif (OP x u0 u1)then true else(decide (((at' p.racks u0.toNat).power)<(U2 x u0 u1))))
abbrev Bj:=(decide (0<(U2 x u0 u1)))
abbrev aiC:Nat × TV:=(52,(vB (bif (FQ x u0 u1 p)then true else(bif (Bj x u0 u1)then(!r_)else false))))
abbrev OJ:=(jP [(2,(OP x u0 u1)),(12,(FQ x u0 u1 p)),(15,(Bj x u0 u1))])
abbrev afZ:=(gP (OJ x u0 u1 p) [(2,false)]→All [(0:Int)≤u0∧u0<(p.racks.length:Int)])
abbrev aie:=(gP (OJ x u0 u1 p) [(15,true),(12,false)]→All [(0:Int)≤u0∧u0<(p.racks.length:Int)])
end
theorem I5 (p:ai) (s_:State) (x:aj) {r:Bool} (h:zP p s_ x=some r):Fn Try.prog 129 (aaq p s_ x) [] (vB r) []:=by
 refine fN tT Try.func129 rfl rfl fun B=> ?_
 show bL _ _ _ _ _ _ (wz r) _
 unfold zP at h
 refine sz tT ⟨[(bU p),(bO s_),(5,(vP 9 0))],[(9,some (adf x))]⟩ {fr:=[(0,7),(1,8),(2,9)] } [7,8] ?_
 refine aQ (sz tT ⟨[(bU p),(bO s_),(Du x),(Dv x),(14,(vI 0))],[]⟩ {} [] ?_)
 refine bE h fun y1 hy h=> ?_
 refine aL [] (AV p s_ x) Aw wz hy (fun s f h=> ?_) ?_
 ·clear hy
  show bL _ _ _ _ _ _ ((sU p s_ x) f) _
  unfold AL at h
  obtain⟨u0,rfl⟩: ∃q,q=s:=⟨_,rfl⟩
  refine sz tT ⟨[(bU p),(bO s_),(Du x),(Dv x),(14,(vI u0)),(15,(vB (decide (u0<(x.racks.length:Int)))))],[]⟩ {} [] ?_
  refine aQ ?_
  refine bI h (fun hb6 h=> ?_) (fun hb6 h=> ?_)
  ·refine ct hb6 ?_
   refine aP (aQ (aB (aQ (aO h fun a1 h=> ?_))))
   refine rg tT (adS p s_ u0 x) [_] {fr:=[(3,13)] } [13] ⟨a1,trivial⟩ ?_
   refine aQ (sz tT ⟨[(bU p),(bO s_),(7,(vI u0)),(J8 x u0),(Du x),(Dv x),(14,(vI u0)),(LK x u0),(20,(vI 0))],[]⟩ {} [] ?_)
   refine bE h fun y hy h=> ?_
   refine aL [1] (AA p s_ x u0) (Ba p s_ x u0) (sU p s_ x) hy (fun s f h=> ?_) ?_
   ·clear hy
    show bL _ _ _ _ _ _ ((Jw p s_ x u0) f) _
    unfold AQ at h
    obtain⟨u1,rfl⟩: ∃q,q=s:=⟨_,rfl⟩
    refine sz tT ⟨[(bU p),(bO s_),(7,(vI u0)),(J8 x u0),(Du x),(Dv x),(14,(vI u0)),(LK x u0),(20,(vI u1)),(21,(vB (decide (u1<2))))],[]⟩ {} [] ?_
    refine aQ ?_
    refine bI h (fun hb4 h=> ?_) (fun hb4 h=> ?_)
    ·refine ct hb4 ?_
     refine aP (aQ (aB (aQ (aO h fun a1 h=> ?_))))
     refine rg tT ⟨[(bU p),(bO s_),(7,(vI u0)),(J8 x u0),(9,(vI u1)),(acK x u0 u1),(Du x),(Dv x),(14,(vI u0)),(LK x u0),(20,(vI u1))],[]⟩ [_,u1.toNat*1+1≤(aeM x u0).length,((aeM x u0).drop (u1.toNat*1)).take 1=[(.int .i64 (U2 x u0 u1))].map .d] {an:=[(1, .vals [(.int .i64 (U2 x u0 u1))])] } [] ⟨a1,(Vz (n:=2) (sz:=1) (Nat.le_refl _) a1),(VZ (n:=2) (sz:=1) (g:=fun q=>[(cI (at' [(at' x.racks u0.toNat).e0,(at' x.racks u0.toNat).e1] q))]) (by intro q hq;match q,hq with|0,_=>rfl|1,_=>rfl) a1),trivial⟩ ?_
     refine aQ ?_
     refine bI h (fun hb h=> ?_) (fun _ h=> ?_)
     ·skip
      refine aI (bB.le (st':=⟨[(bU p),(bO s_),(7,(vI u0)),(J8 x u0),(9,(vI 0)),(acK x u0 u1),(Du x),(Dv x),(14,(vI u0)),(LK x u0),(20,(vI 0))],[]⟩) ⟨⟨tR,tR,tR,tR,⟨_,rfl,eX.v (eO.one (bR.of (congrArg (fun n=>CV.d (.int .i64 n)) (of_decide_eq_true hb))))⟩,tR,tR,tR,tR,tR,⟨_,rfl,eX.v (eO.one (bR.of (congrArg (fun n=>CV.d (.int .i64 n)) (of_decide_eq_true hb))))⟩,trivial⟩,trivial⟩) ?_
      refine bE h fun r_ hr_ h=> ?_
      refine aO h fun⟨a1,a2⟩ h=> ?_
      refine dg tT mX ⟨[(bU p),(bO s_),(7,(vI u0)),(J8 x u0),(Du x),(Dv x),(14,(vI u0)),(LK x u0),(20,(vI 0)),(aiC x u0 u1 p r_)],[]⟩ (eqs (OP x u0 u1) 5 ((afZ x u0 u1 p)::(eqs (OP x u0 u1) 4 (eqs (FQ x u0 u1 p) 3 (eqs (Bj x u0 u1) 6 ((aie x u0 u1 p)::(eqs (Bj x u0 u1) 2 ((gP (OJ x u0 u1 p) [(15,true),(12,false)]→All [(0:Int)≤0∧(0:Int)<(2:Nat)])::(eqs (Bj x u0 u1) 2 [gP (OJ x u0 u1 p) [(15,true),(12,false)]→All [Fn Try.prog 79 [(.agg (Vl s_)),(sI ((Jt p u0).e0))] [] (vB r_) []],(Bj x u0 u1)=(Bj x u0 u1),(FQ x u0 u1 p)=(FQ x u0 u1 p),gP (OJ x u0 u1 p) [(12,false)]→All [(Bj x u0 u1)=(Bj x u0 u1)],(FQ x u0 u1 p)=(FQ x u0 u1 p)]))))))))) {yb:=[(2,(OP x u0 u1)),(12,(FQ x u0 u1 p)),(15,(Bj x u0 u1))],an:=[(25, .call [] (vB r_) [])] } [] (ae ⟨(fun hg=> ⟨(a1 (aY hg)),trivial⟩),(ae (ae (ae ⟨(fun hg=> ⟨(a2 (aY hg)),trivial⟩),(ae ⟨(fun hg=> ⟨((by decide)),trivial⟩),(ae ⟨(fun hg=> ⟨(jR s_ ((Jt p u0).e0) (dZ hr_ (aY hg))),trivial⟩),rfl,rfl,(fun hg=> ⟨rfl,trivial⟩),rfl,trivial⟩)⟩)⟩)))⟩) ?_
      refine bI h (fun hb1 h=> ?_) (fun hb1 h=> ?_)
      ·refine ct hb1 ?_
       refine sz tT ⟨[(6,(vB false))],[]⟩ {} [] ?_
       refine aR ?_
       obtain rfl:=oi h
       exact lR fQ (fT 2) fU (lR fQ (fT 0) fU (bJ.mk (.inr rfl) (p:=[]) (l:=[(sB false)]) (by kernel_rfl) trivial (eX.refl _) trivial))
      ·refine cf hb1 ?_
       refine aP (rz tT ⟨[(bU p),(bO s_),(7,(vI u0)),(J8 x u0),(Du x),(Dv x),(14,(vI u0)),(LK x u0),(20,(vI 1))],[]⟩ {} [] ?_)
       obtain rfl:=oi h
       exact lN
     ·skip
      refine aO h fun a1 h=> ?_
      refine aI (bB.le (st':=⟨[(bU p),(bO s_),(7,(vI u0)),(J8 x u0),(9,(vI 1)),(acK x u0 u1),(Du x),(Dv x),(14,(vI u0)),(LK x u0),(20,(vI 1))],[]⟩) ⟨⟨tR,tR,tR,tR,⟨_,rfl,eX.v (eO.one (bR.of (congrArg (fun n=>CV.d (.int .i64 n)) a1)))⟩,tR,tR,tR,tR,tR,⟨_,rfl,eX.v (eO.one (bR.of (congrArg (fun n=>CV.d (.int .i64 n)) a1)))⟩,trivial⟩,trivial⟩) ?_
      refine bE h fun u2 hr_1 h=> ?_
      refine aO h fun⟨a1,a2⟩ h=> ?_
      refine dg tT mX ⟨[(bU p),(bO s_),(7,(vI u0)),(J8 x u0),(Du x),(Dv x),(14,(vI u0)),(LK x u0),(20,(vI 1)),(aiC x u0 u1 p u2)],[]⟩ (eqs (OP x u0 u1) 5 ((afZ x u0 u1 p)::(eqs (OP x u0 u1) 4 (eqs (FQ x u0 u1 p) 3 (eqs (Bj x u0 u1) 6 ((aie x u0 u1 p)::(eqs (Bj x u0 u1) 2 ((gP (OJ x u0 u1 p) [(15,true),(12,false)]→All [(0:Int)≤1∧(1:Int)<(2:Nat)])::(eqs (Bj x u0 u1) 2 [gP (OJ x u0 u1 p) [(15,true),(12,false)]→All [Fn Try.prog 79 [(.agg (Vl s_)),(sI ((Jt p u0).e1))] [] (vB u2) []],(Bj x u0 u1)=(Bj x u0 u1),(FQ x u0 u1 p)=(FQ x u0 u1 p),gP (OJ x u0 u1 p) [(12,false)]→All [(Bj x u0 u1)=(Bj x u0 u1)],(FQ x u0 u1 p)=(FQ x u0 u1 p)]))))))))) {yb:=[(2,(OP x u0 u1)),(12,(FQ x u0 u1 p)),(15,(Bj x u0 u1))],an:=[(25, .call [] (vB u2) [])] } [] (ae ⟨(fun hg=> ⟨(a1 (aY hg)),trivial⟩),(ae (ae (ae ⟨(fun hg=> ⟨(a2 (aY hg)),trivial⟩),(ae ⟨(fun hg=> ⟨((by decide)),trivial⟩),(ae ⟨(fun hg=> ⟨(jR s_ ((Jt p u0).e1) (dZ hr_1 (aY hg))),trivial⟩),rfl,rfl,(fun hg=> ⟨rfl,trivial⟩),rfl,trivial⟩)⟩)⟩)))⟩) ?_
      refine bI h (fun hb3 h=> ?_) (fun hb3 h=> ?_)
      ·refine ct hb3 ?_
       refine sz tT ⟨[(6,(vB false))],[]⟩ {} [] ?_
       refine aR ?_
       obtain rfl:=oi h
       exact lR fQ (fT 2) fU (lR fQ (fT 0) fU (bJ.mk (.inr rfl) (p:=[]) (l:=[(sB false)]) (by kernel_rfl) trivial (eX.refl _) trivial))
      ·refine cf hb3 ?_
       refine aP (rz tT ⟨[(bU p),(bO s_),(7,(vI u0)),(J8 x u0),(Du x),(Dv x),(14,(vI u0)),(LK x u0),(20,(vI 2))],[]⟩ {} [] ?_)
       obtain rfl:=oi h
       exact lN
    ·refine cf hb4 ?_
     refine aI (fz (adS p s_ u0 x) []) ?_
     refine aX ?_
     obtain rfl:=oi h
     exact lB
   ·clear hy
    cases y with
    |brk z=>
     unfold fZ
     refine⟨_, .refl, ?_⟩
     refine aQ (aO h fun a1 h=> ?_)
     refine dg tT mX ⟨[(bU p),(bO s_),(Du x),(Dv x),(14,(vI u0)),(65,(vB (decide (((at' p.racks u0.toNat).power)<(IntKind.wrap .i64 (((at' x.racks u0.toNat).e0)+((at' x.racks u0.toNat).e1)))))))],[]⟩ [(0:Int)≤0∧(0:Int)<(2:Nat),(0:Int)≤1∧(1:Int)<(2:Nat),_] {} [] ⟨((by decide)),((by decide)),a1,trivial⟩ ?_
     refine bI h (fun hb5 h=> ?_) (fun hb5 h=> ?_)
     ·refine ct hb5 ?_
      refine sz tT ⟨[(6,(vB false))],[]⟩ {} [] ?_
      refine aR ?_
      obtain rfl:=oi h
      exact lR fQ (fT 0) fU (bJ.mk (.inr rfl) (p:=[]) (l:=[(sB false)]) (by kernel_rfl) trivial (eX.refl _) trivial)
     ·refine cf hb5 ?_
      refine aP (rz tT ⟨[(bU p),(bO s_),(Du x),(Dv x),(14,(k3 u0))],[]⟩ {} [] ?_)
      obtain rfl:=oi h
      exact lN
    |ret v=>
     obtain rfl:=oi h
     unfold fZ
     intro e st hn ha hR
     cases e with
     |normal=>exact absurd rfl hn
     |exit id=>simp only [rF (b:=1) ha rfl,cond_false];exact hR
     |goto l=>exact hR
     |ret=>exact hR
     |panic c=>exact hR
     |outgrown=>exact hR
  ·refine cf hb6 ?_
   refine aI (fz ⟨[],[]⟩ []) ?_
   refine aX ?_
   obtain rfl:=oi h
   exact lB
 ·clear hy
  cases y1 with
  |brk z=>
   unfold fZ
   refine⟨_, .refl, ?_⟩
   refine sz tT ⟨[(6,(vB true))],[]⟩ {} [] ?_
   refine aR ?_
   obtain rfl:=oi h
   exact rl [(sB true)]
  |ret v=>
   obtain rfl:=oi h
   unfold fZ
   intro e st hn ha hR
   cases e with
   |normal=>exact absurd rfl hn
   |exit id=>exact hR
   |goto l=>exact hR
   |ret=>exact hR
   |panic c=>exact hR
   |outgrown=>exact hR
def DN  :Bool→Exit→St→Prop:=
  fun r=>bJ TT [.tmp 2] (vB r) []
theorem CB (n:Int) {r:Bool} (h:pF n=some r):Fn Try.prog 149 [(sI n)] [] (vB r) []:=by
 refine fN tT Try.func149 rfl rfl fun B=> ?_
 show bL _ _ _ _ _ _ (DN r) _
 unfold pF at h
 refine sz tT ⟨[(0,(vI n))],[]⟩ {} [] ?_
 refine sz tT ⟨[(2,(vB (!decide (n=0))))],[]⟩ {} [] ?_
 refine aR ?_
 obtain rfl:=oi h
 exact rl [(sB (!decide (n=0)))]
section
variable (s_:(List Int))
abbrev vV:List (Nat × Option Ob):=[(HY s_)]
end
def jv (s_:(List Int)):Int→Exit→St→Prop:=
  fun r=>bJ TT [.tmp 4] (vI r) (vV s_)
section
variable (s_:(List Int))
abbrev Di:Nat × TV:=(0,(vO 0 true s_.length))
abbrev R7:Nat × TV:=(1,(vD (.fn 149 0 (og []))))
end
def mE (s_:(List Int)):Int→St:=
  fun t8=> ⟨[(Di s_),R7,(pz s_),(8,(vI t8))],(vV s_)⟩
def mF (s_:(List Int)):Unit→St:=
  fun _=> ⟨[],(vV s_)⟩
def uM (s_:(List Int)):(aU Int (Ex Unit Int))→Exit→St→Prop:=
  LQ 0 [] (mE s_) (mF s_) (jv s_)
section
variable (s_:(List Int))
abbrev akk:St:=⟨[(Di s_),R7],(vV s_)⟩
end
theorem uO (s_:(List Int)) {r:Int} (h:jT s_=some r):Fn Try.prog 113 [(.one (.own 0 true s_.length)),(sD (.fn 149 0 (og [])))] (vV s_) (vI r) (vV s_):=by
 refine fN tT Try.func113 rfl rfl fun B=> ?_
 show bL _ _ _ _ _ _ ((jv s_) r) _
 unfold jT at h
 refine sz tT (akk s_) {} [] ?_
 refine aQ (sz tT ⟨[(Di s_),R7,(pz s_),(8,(vI 0))],(vV s_)⟩ {} [] ?_)
 refine bE h fun y hy h=> ?_
 refine aL [] (mE s_) (mF s_) (jv s_) hy (fun s f h=> ?_) ?_
 ·clear hy
  show bL _ _ _ _ _ _ ((uM s_) f) _
  unfold lK at h
  obtain⟨t8,rfl⟩: ∃q,q=s:=⟨_,rfl⟩
  refine sz tT ⟨[(Di s_),R7,(pz s_),(8,(vI t8)),(WG t8 s_)],(vV s_)⟩ {} [] ?_
  refine aQ ?_
  refine bI h (fun hb1 h=> ?_) (fun hb1 h=> ?_)
  ·refine ct hb1 ?_
   refine aP (aQ (aB (sz tT ⟨[(Di s_),R7,(5,(vI t8)),(pz s_),(8,(vI t8))],(vV s_)⟩ {} [] ?_)))
   refine aQ (bE h fun r_ hr_ h=> ?_)
   refine aO h fun a1 h=> ?_
   have q2:=CB (at' s_ t8.toNat) hr_
   refine rg tT ⟨[(Di s_),R7,(5,(vI t8)),(pz s_),(8,(vI t8)),(16,(vB r_))],(vV s_)⟩ [_,_,_] {an:=[(5,cA q2 [])] } [] ⟨a1,(tL a1),q2,trivial⟩ ?_
   refine bI h (fun hb h=> ?_) (fun hb h=> ?_)
   ·refine ct hb ?_
    refine sz tT ⟨[(4,(vI t8))],(vV s_)⟩ {} [] ?_
    refine aR ?_
    obtain rfl:=oi h
    exact lR fQ (fT 0) fU (bJ.mk (.inr rfl) (p:=[]) (l:=[(sI t8)]) (by kernel_rfl) trivial (eX.refl _) (.refl _))
   ·refine cf hb ?_
    refine aP (rz tT ⟨[(Di s_),R7,(pz s_),(k31 t8)],(vV s_)⟩ {} [] ?_)
    obtain rfl:=oi h
    exact lN
  ·refine cf hb1 ?_
   refine aI (fz ⟨[],(vV s_)⟩ []) ?_
   refine aX ?_
   obtain rfl:=oi h
   exact lB
 ·clear hy
  cases y with
  |brk z=>
   unfold fZ
   refine⟨_, .refl, ?_⟩
   refine sz tT ⟨[(4,(vI (-1)))],(vV s_)⟩ {} [] ?_
   refine aR ?_
   obtain rfl:=oi h
   exact rl [(sI (-1))]
  |ret v=>
   obtain rfl:=oi h
   unfold fZ
   intro e st hn ha hR
   cases e with
   |normal=>exact absurd rfl hn
   |exit id=>exact hR
   |goto l=>exact hR
   |ret=>exact hR
   |panic c=>exact hR
   |outgrown=>exact hR
def sP (s_:(List Int)):Bool→Exit→St→Prop:=
  fun r=>bJ TT [.tmp 4] (vB r) (vV s_)
theorem rX (s_:(List Int)) {r:Bool} (h:jh s_=some r):Fn Try.prog 67 [(.one (.own 0 true s_.length)),(sD (.fn 149 0 (og [])))] (vV s_) (vB r) (vV s_):=by
 refine fN tT Try.func67 rfl rfl fun B=> ?_
 show bL _ _ _ _ _ _ ((sP s_) r) _
 unfold jh at h
 refine sz tT (akk s_) {} [] ?_
 refine aQ (bE h fun r_ hr_ h=> ?_)
 have q0:=uO s_ hr_
 refine rg tT ⟨[(4,(vB (decide (0≤r_))))],(vV s_)⟩ [_] {an:=[(2,cR q0 [0])] } [] ⟨q0,trivial⟩ ?_
 refine aR ?_
 obtain rfl:=oi h
 exact rl [(sB (decide (0≤r_)))]
def gq  :Bool→Exit→St→Prop:=
  fun r=>bJ TT [.tmp 6] (vB r) []
section
variable (u0:(List Int)) (x:aj) (u1:Int) (p:ai)
abbrev uL:Nat × TV:=(7,(vO 11 true u0.length))
abbrev VT:Nat × TV:=(20,(vD (aG none 1 (au .i64) x.sources)))
abbrev Ux:Nat × TV:=(21,(vI (x.sources.length:Int)))
abbrev af0:List (Nat × TV):=[(3,(vP 8 0)),(5,(vP 10 0)),(uL u0),(VT x),(Ux x),(22,(vI u1))]
abbrev NH:Nat × Option Ob:=(8,some (ZW p))
abbrev M9:Nat × Option Ob:=(10,some (adf x))
abbrev Qm:List (Nat × Option Ob):=[(NH p),(M9 x),(11,some (wW u0))]
end
def wo (p:ai) (x:aj):((List Int) × Int)→St:=
  fun zz=>match zz with|(u0,u1)=> ⟨(af0 u0 x u1),(Qm u0 x p)⟩
section
variable (u0:(List Int)) (p:ai) (x:aj)
abbrev Zg:St:=⟨[(3,(vP 8 0)),(5,(vP 10 0)),(uL u0)],(Qm u0 x p)⟩
end
def vJ (p:ai) (x:aj):(List Int)→St:=
  fun u0=>(Zg u0 p x)
def EW (p:ai) (x:aj):(aU ((List Int) × Int) (Ex (List Int) Bool))→Exit→St→Prop:=
  LQ 0 [] (wo p x) (vJ p x) gq
section
variable (x:aj)
abbrev OL:Nat × TV:=(41,(vD (aG none 1 (au .i64) x.links)))
abbrev QA:Nat × TV:=(42,(vI (x.links.length:Int)))
end
def uT (p:ai) (x:aj):((List Int) × Int)→St:=
  fun zz=>match zz with|(u0,u1)=> ⟨[(3,(vP 8 0)),(5,(vP 10 0)),(uL u0),(OL x),(QA x),(43,(vI u1))],(Qm u0 x p)⟩
def wF (p:ai) (x:aj):(List Int)→St:=
  fun u0=>(Zg u0 p x)
def Et (p:ai) (x:aj):(aU ((List Int) × Int) (Ex (List Int) Bool))→Exit→St→Prop:=
  LQ 2 [] (uT p x) (wF p x) gq
section
variable (x:aj) (u0:(List Int)) (p:ai) (u1:Int)
abbrev Bl:Nat × TV:=(74,(vD (aG none 2 af.cell x.racks)))
abbrev Bc:Nat × TV:=(75,(vI (x.racks.length:Int)))
abbrev EF:List (Nat × Option Ob):=[(11,some (wW u0))]
abbrev adT:St:=⟨[(bU p),(uL u0),(Bl x),(Bc x),(76,(vI u1))],(EF u0)⟩
end
def wE (p:ai) (x:aj):((List Int) × Int)→St:=
  fun zz=>match zz with|(u0,u1)=>(adT x u0 p u1)
def wK  :(List Int)→St:=
  fun u0=> ⟨[(uL u0)],(EF u0)⟩
def oH (p:ai) (x:aj):(aU ((List Int) × Int) (Ex (List Int) Bool))→Exit→St→Prop:=
  LQ 4 [] (wE p x) wK gq
section
variable (x:aj) (u0:Int) (p:ai)
abbrev GA:Nat × TV:=(13,(ad6 x u0))
abbrev adQ:List CV:=[(cI ((Jt p u0).e0)),(cI ((Jt p u0).e1))]
abbrev Hl:Nat × TV:=(86,(.v (.agg (adQ u0 p))))
end
def wC (p:ai) (x:aj) (u0:Int):((List Int) × Int)→St:=
  fun zz=>match zz with|(u1,u2)=> ⟨[(bU p),(uL u1),(GA x u0),(Bl x),(Bc x),(76,(vI u0)),(Hl u0 p),(87,(vI u2))],(EF u1)⟩
def vM (p:ai) (x:aj) (u1:Int):(List Int)→St:=
  fun u0=>(adT x u0 p u1)
def EA (p:ai) (x:aj) (u0:Int):(aU ((List Int) × Int) (Ex (List Int) (aU ((List Int) × Int) (Ex (List Int) Bool))))→Exit→St→Prop:=
  LQ 6 [5] (wC p x u0) (vM p x u0) (oH p x)
section
variable (p:ai) (x:aj) (u6:(List Int)) (u5:Int) (u2:(List Int)) (u1:Int) (u7:(List Int)) (u0:Int) (u4:Int) (u3:(List Int))
abbrev RO:=(List.replicate p.buses.toNat (0:Int))
abbrev afT:List (Nat × Option Ob):=[(NH p),(M9 x),(11,some (bg 3 1 (au .i64) (RO p)))]
abbrev aew:=(u6.set (((at' p.sources u5.toNat).bus).toNat) (IntKind.wrap .i64 ((at' u6 (((at' p.sources u5.toNat).bus).toNat))+(at' x.sources u5.toNat))))
abbrev adG:=(ay (au .i64) (aew p x u6 u5))
abbrev ai6:Nat × TV:=(7,(vO 11 true ((aew p x u6 u5).length)))
abbrev aiw:List (Nat × Option Ob):=[(NH p),(M9 x),(11,some (bg 3 1 (au .i64) (aew p x u6 u5)))]
abbrev ai7:List (Nat × TV):=[(3,(vP 8 0)),(5,(vP 10 0)),(uL u2),(10,(vI u1)),(11,(vI (at' x.links u1.toNat))),(OL x),(QA x),(43,(vI u1))]
abbrev Tm:=(u2.set (((at' p.links u1.toNat).a).toNat) (IntKind.wrap .i64 ((at' u2 (((at' p.links u1.toNat).a).toNat)) - (at' x.links u1.toNat))))
abbrev Z0:=(ay (au .i64) (Tm p x u2 u1))
abbrev aiS:Nat × TV:=(7,(vO 11 true ((Tm p x u2 u1).length)))
abbrev ahL:=(IntKind.wrap .i64 ((at' (Tm p x u2 u1) (((at' p.links u1.toNat).b).toNat))+(at' x.links u1.toNat)))
abbrev ad7:=((Tm p x u2 u1).set (((at' p.links u1.toNat).b).toNat) (ahL p x u2 u1))
abbrev adV:=(ay (au .i64) (ad7 p x u2 u1))
abbrev akh:Nat × TV:=(7,(vO 11 true ((ad7 p x u2 u1).length)))
abbrev aiV:List (Nat × Option Ob):=[(NH p),(M9 x),(11,some (bg 3 1 (au .i64) (ad7 p x u2 u1)))]
abbrev ahw:List (Nat × TV):=[(bU p),(uL u7),(GA x u0),(Bl x),(Bc x),(76,(vI u0)),(Hl u0 p),(87,(vI 0))]
abbrev Xw:=(at' [(Jt p u0).e0,(Jt p u0).e1] u4.toNat)
abbrev ZM:Nat × TV:=(15,(vI (Xw p u0 u4)))
abbrev afe:Nat × TV:=(92,(vB (decide (0≤(Xw p u0 u4)))))
abbrev VF:=((Xw p u0 u4).toNat)
abbrev afV:=(IntKind.wrap .i64 ((at' u3 (VF p u0 u4)) - ((at' x.racks u0.toNat).e0)))
abbrev ae6:=(u3.set (VF p u0 u4) (afV p x u0 u4 u3))
abbrev aeD:=(ay (au .i64) (ae6 p x u0 u4 u3))
abbrev aji:Nat × TV:=(7,(vO 11 true ((ae6 p x u0 u4 u3).length)))
abbrev afB:List (Nat × Option Ob):=[(11,some (bg 3 1 (au .i64) (ae6 p x u0 u4 u3)))]
abbrev aiN:=(IntKind.wrap .i64 ((at' u3 (VF p u0 u4)) - ((at' x.racks u0.toNat).e1)))
abbrev adj:=(u3.set (VF p u0 u4) (aiN p x u0 u4 u3))
abbrev ab2:=(ay (au .i64) (adj p x u0 u4 u3))
abbrev aiB:Nat × TV:=(7,(vO 11 true ((adj p x u0 u4 u3).length)))
abbrev ag0:List (Nat × Option Ob):=[(11,some (bg 3 1 (au .i64) (adj p x u0 u4 u3)))]
end
theorem EX (p:ai) (s_:State) (x:aj) {r:Bool} (h:sJ p s_ x=some r):Fn Try.prog 130 (aaq p s_ x) [] (vB r) []:=by
 refine fN tT Try.func130 rfl rfl fun B=> ?_
 show bL _ _ _ _ _ _ (gq r) _
 unfold sJ at h
 refine sz tT ⟨[(3,(vP 8 0)),(5,(vP 10 0))],[(NH p),(M9 x)]⟩ {fr:=[(0,8),(1,9),(2,10)] } [] ?_
 refine aQ (aO h fun⟨a1,a2,a3⟩ h=> ?_)
 refine rg tT ⟨[(3,(vP 8 0)),(5,(vP 10 0)),(7,(vO 11 true ((RO p).length)))],(afT p x)⟩ [_,(p.buses:Int)=p.buses,_,_,(RO p).length=p.buses.toNat,aC p.buses.toNat 1 (fun _ j=>[(.int .i64 0)].getD j .nilp) (ay (au .i64) (RO p))] {an:=[(2, .arr (RO p).length (ay (au .i64) (RO p)))],fr:=[(2,11)] } [] ⟨a1,rfl,a2,a3,(List.length_replicate),(dO _ _ _ _ _ (fun j hj=>(match j,hj with|0,_=>rfl))),trivial⟩ ?_
 refine aQ (sz tT ⟨[(3,(vP 8 0)),(5,(vP 10 0)),(7,(vO 11 true ((RO p).length))),(VT x),(Ux x),(22,(vI 0))],(afT p x)⟩ {} [] ?_)
 refine bE h fun y hy h=> ?_
 refine aL [] (wo p x) (vJ p x) gq hy (fun s f h=> ?_) ?_
 ·clear hy
  show bL _ _ _ _ _ _ ((EW p x) f) _
  unfold wI at h
  obtain⟨u6,u5⟩:=s
  refine sz tT ⟨[(3,(vP 8 0)),(5,(vP 10 0)),(uL u6),(VT x),(Ux x),(22,(vI u5)),(23,(vB (decide (u5<(x.sources.length:Int)))))],(Qm u6 x p)⟩ {} [] ?_
  refine aQ ?_
  refine bI h (fun hb h=> ?_) (fun hb h=> ?_)
  ·refine ct hb ?_
   refine aP (aQ (aB (aQ (aO h fun a1 h=> ?_))))
   refine rg tT ⟨[(3,(vP 8 0)),(5,(vP 10 0)),(uL u6),(8,(vI u5)),(9,(vI (at' x.sources u5.toNat))),(VT x),(Ux x),(22,(vI u5))],(Qm u6 x p)⟩ [_] {} [] ⟨a1,trivial⟩ ?_
   refine aO h fun⟨a1,a2⟩ h=> ?_
   refine ri tT ⟨(af0 u6 x u5),[(NH p),(M9 x),(11,some (.arr 3 1 u6.length (adG p x u6 u5)))]⟩ [_,_,_,_,_,aC u6.length 1 (jo (ay (au .i64) u6) (((at' p.sources u5.toNat).bus).toNat) 0 [(.int .i64 (IntKind.wrap .i64 ((at' u6 (((at' p.sources u5.toNat).bus).toNat))+(at' x.sources u5.toNat))))]) (adG p x u6 u5)] {an:=[(12, .arr 0 (adG p x u6 u5))] } [] ⟨a1,a2,(tL a2),a2,(tL a2),(aW _ _ _ _ _ _ _ _ rfl (fun j hj=>(match j,hj with|0,_=>rfl))),trivial⟩ (bB.le (st':=⟨[(3,(vP 8 0)),(5,(vP 10 0)),(ai6 p x u6 u5),(VT x),(Ux x),(22,(vI u5))],(aiw p x u6 u5)⟩) ⟨⟨tR,tR,⟨_,rfl,eX.v (eO.one cW)⟩,tR,tR,tR,trivial⟩,(hN 2 ⟨rfl,oW,trivial⟩)⟩) ?_
   refine rz tT ⟨[(3,(vP 8 0)),(5,(vP 10 0)),(ai6 p x u6 u5),(VT x),(Ux x),(22,(k3 u5))],(aiw p x u6 u5)⟩ {} [] ?_
   obtain rfl:=oi h
   exact lN
  ·refine cf hb ?_
   refine aI (fz (Zg u6 p x) []) ?_
   refine aX ?_
   obtain rfl:=oi h
   exact lB
 ·clear hy
  cases y with
  |brk z=>
   obtain⟨u8,rfl⟩: ∃q,q=z:=⟨_,rfl⟩
   unfold fZ
   refine⟨_, .refl, ?_⟩
   refine aQ (sz tT ⟨[(3,(vP 8 0)),(5,(vP 10 0)),(uL u8),(OL x),(QA x),(43,(vI 0))],(Qm u8 x p)⟩ {} [] ?_)
   refine bE h fun y1 hy h=> ?_
   refine aL [] (uT p x) (wF p x) gq hy (fun s f h=> ?_) ?_
   ·clear hy
    show bL _ _ _ _ _ _ ((Et p x) f) _
    unfold vY at h
    obtain⟨u2,u1⟩:=s
    refine sz tT ⟨[(3,(vP 8 0)),(5,(vP 10 0)),(uL u2),(OL x),(QA x),(43,(vI u1)),(44,(vB (decide (u1<(x.links.length:Int)))))],(Qm u2 x p)⟩ {} [] ?_
    refine aQ ?_
    refine bI h (fun hb1 h=> ?_) (fun hb1 h=> ?_)
    ·refine ct hb1 ?_
     refine aP (aQ (aB (aQ (aO h fun a1 h=> ?_))))
     refine rg tT ⟨(ai7 x u2 u1),(Qm u2 x p)⟩ [_] {} [] ⟨a1,trivial⟩ ?_
     refine aQ (aO h fun⟨a1,a2⟩ h=> ?_)
     refine ri tT ⟨(ai7 x u2 u1),[(NH p),(M9 x),(11,some (.arr 3 1 u2.length (Z0 p x u2 u1)))]⟩ [_,_,_,_,_,aC u2.length 1 (jo (ay (au .i64) u2) (((at' p.links u1.toNat).a).toNat) 0 [(.int .i64 (IntKind.wrap .i64 ((at' u2 (((at' p.links u1.toNat).a).toNat)) - (at' x.links u1.toNat))))]) (Z0 p x u2 u1)] {an:=[(12, .arr 0 (Z0 p x u2 u1))] } [] ⟨a1,a2,(tL a2),a2,(tL a2),(aW _ _ _ _ _ _ _ _ rfl (fun j hj=>(match j,hj with|0,_=>rfl))),trivial⟩ (bB.le (st':=⟨[(3,(vP 8 0)),(5,(vP 10 0)),(aiS p x u2 u1),(10,(vI u1)),(11,(vI (at' x.links u1.toNat))),(OL x),(QA x),(43,(vI u1))],[(NH p),(M9 x),(11,some (bg 3 1 (au .i64) (Tm p x u2 u1)))]⟩) ⟨⟨tR,tR,⟨_,rfl,eX.v (eO.one cW)⟩,tR,tR,tR,tR,tR,trivial⟩,(hN 2 ⟨rfl,oW,trivial⟩)⟩) ?_
     refine aO h fun⟨a1,a2⟩ h=> ?_
     refine ri tT ⟨[(3,(vP 8 0)),(5,(vP 10 0)),(aiS p x u2 u1),(OL x),(QA x),(43,(vI u1))],[(NH p),(M9 x),(11,some (.arr 3 1 (Tm p x u2 u1).length (adV p x u2 u1)))]⟩ [_,_,_,_,_,aC (Tm p x u2 u1).length 1 (jo (Z0 p x u2 u1) (((at' p.links u1.toNat).b).toNat) 0 [(.int .i64 (ahL p x u2 u1))]) (adV p x u2 u1)] {an:=[(12, .arr 0 (adV p x u2 u1))] } [] ⟨a1,a2,(tL a2),a2,(tL a2),(aW _ _ _ _ _ _ _ _ rfl (fun j hj=>(match j,hj with|0,_=>rfl))),trivial⟩ (bB.le (st':=⟨[(3,(vP 8 0)),(5,(vP 10 0)),(akh p x u2 u1),(OL x),(QA x),(43,(vI u1))],(aiV p x u2 u1)⟩) ⟨⟨tR,tR,⟨_,rfl,eX.v (eO.one cW)⟩,tR,tR,tR,trivial⟩,(hN 2 ⟨rfl,oW,trivial⟩)⟩) ?_
     refine rz tT ⟨[(3,(vP 8 0)),(5,(vP 10 0)),(akh p x u2 u1),(OL x),(QA x),(43,(k3 u1))],(aiV p x u2 u1)⟩ {} [] ?_
     obtain rfl:=oi h
     exact lN
    ·refine cf hb1 ?_
     refine aI (fz (Zg u2 p x) []) ?_
     refine aX ?_
     obtain rfl:=oi h
     exact lB
   ·clear hy
    cases y1 with
    |brk z=>
     obtain⟨u9,rfl⟩: ∃q,q=z:=⟨_,rfl⟩
     unfold fZ
     refine⟨_, .refl, ?_⟩
     refine aQ (sz tT ⟨[(bU p),(uL u9),(Bl x),(Bc x),(76,(vI 0))],(EF u9)⟩ {} [8] ?_)
     refine bE h fun y3 hy h=> ?_
     refine aL [] (wE p x) wK gq hy (fun s f h=> ?_) ?_
     ·clear hy
      show bL _ _ _ _ _ _ ((oH p x) f) _
      unfold wh at h
      obtain⟨u7,u0⟩:=s
      refine sz tT ⟨[(bU p),(uL u7),(Bl x),(Bc x),(76,(vI u0)),(77,(vB (decide (u0<(x.racks.length:Int)))))],(EF u7)⟩ {} [] ?_
      refine aQ ?_
      refine bI h (fun hb6 h=> ?_) (fun hb6 h=> ?_)
      ·refine ct hb6 ?_
       refine aP (aQ (aB (aQ (aO h fun a1 h=> ?_))))
       refine rg tT ⟨[(bU p),(uL u7),(12,(vI u0)),(GA x u0),(Bl x),(Bc x),(76,(vI u0))],(EF u7)⟩ [_] {fr:=[(3,15)] } [15] ⟨a1,trivial⟩ ?_
       refine aQ (aO h fun a1 h=> ?_)
       refine rg tT ⟨(ahw p x u7 u0),(EF u7)⟩ [_] {} [] ⟨a1,trivial⟩ ?_
       refine bE h fun y2 hy h=> ?_
       refine aL [5] (wC p x u0) (vM p x u0) (oH p x) hy (fun s f h=> ?_) ?_
       ·clear hy
        show bL _ _ _ _ _ _ ((EA p x u0) f) _
        unfold vF at h
        obtain⟨u3,u4⟩:=s
        refine sz tT ⟨[(bU p),(uL u3),(GA x u0),(Bl x),(Bc x),(76,(vI u0)),(Hl u0 p),(87,(vI u4)),(88,(vB (decide (u4<2))))],(EF u3)⟩ {} [] ?_
        refine aQ ?_
        refine bI h (fun hb5 h=> ?_) (fun hb5 h=> ?_)
        ·refine ct hb5 ?_
         refine aP (aQ (aB (aQ (aO h fun a1 h=> ?_))))
         refine rg tT ⟨[(bU p),(uL u3),(GA x u0),(14,(vI u4)),(ZM p u0 u4),(Bl x),(Bc x),(76,(vI u0)),(Hl u0 p),(87,(vI u4))],(EF u3)⟩ [_,u4.toNat*1+1≤(adQ u0 p).length,((adQ u0 p).drop (u4.toNat*1)).take 1=[(.int .i64 (Xw p u0 u4))].map .d] {an:=[(1, .vals [(.int .i64 (Xw p u0 u4))])] } [] ⟨a1,(Vz (n:=2) (sz:=1) (Nat.le_refl _) a1),(VZ (n:=2) (sz:=1) (g:=fun q=>[(cI (at' [(Jt p u0).e0,(Jt p u0).e1] q))]) (by intro q hq;match q,hq with|0,_=>rfl|1,_=>rfl) a1),trivial⟩ ?_
         refine sz tT ⟨[(bU p),(uL u3),(GA x u0),(14,(vI u4)),(ZM p u0 u4),(Bl x),(Bc x),(76,(vI u0)),(Hl u0 p),(87,(vI u4)),(afe p u0 u4)],(EF u3)⟩ {} [] ?_
         refine bI h (fun hb4 h=> ?_) (fun hb4 h=> ?_)
         ·refine ct hb4 ?_
          refine bI h (fun hb2 h=> ?_) (fun _ h=> ?_)
          ·skip
           refine aI (bB.le (st':=⟨[(bU p),(uL u3),(GA x u0),(14,(vI 0)),(ZM p u0 u4),(Bl x),(Bc x),(76,(vI u0)),(Hl u0 p),(87,(vI 0)),(afe p u0 u4)],(EF u3)⟩) ⟨⟨tR,tR,tR,⟨_,rfl,eX.v (eO.one (bR.of (congrArg (fun n=>CV.d (.int .i64 n)) (of_decide_eq_true hb2))))⟩,tR,tR,tR,tR,tR,⟨_,rfl,eX.v (eO.one (bR.of (congrArg (fun n=>CV.d (.int .i64 n)) (of_decide_eq_true hb2))))⟩,tR,trivial⟩,(.refl _)⟩) ?_
           refine aO h fun a1 h=> ?_
           refine di tT mX ⟨(ahw p x u3 u0),[(11,some (.arr 3 1 u3.length (aeD p x u0 u4 u3)))]⟩ [_,_,(0:Int)≤0∧(0:Int)<(2:Nat),_,_,aC u3.length 1 (jo (ay (au .i64) u3) (VF p u0 u4) 0 [(.int .i64 (afV p x u0 u4 u3))]) (aeD p x u0 u4 u3)] {an:=[(9, .arr 0 (aeD p x u0 u4 u3))] } [] ⟨a1,(tL a1),((by decide)),a1,(tL a1),(aW _ _ _ _ _ _ _ _ rfl (fun j hj=>(match j,hj with|0,_=>rfl))),trivial⟩ (bB.le (st':=⟨[(bU p),(aji p x u0 u4 u3),(GA x u0),(Bl x),(Bc x),(76,(vI u0)),(Hl u0 p),(87,(vI 0))],(afB p x u0 u4 u3)⟩) ⟨⟨tR,⟨_,rfl,eX.v (eO.one cW)⟩,tR,tR,tR,tR,tR,tR,trivial⟩,⟨rfl,oW,trivial⟩⟩) ?_
           refine rz tT ⟨[(bU p),(aji p x u0 u4 u3),(GA x u0),(Bl x),(Bc x),(76,(vI u0)),(Hl u0 p),(87,(vI 1))],(afB p x u0 u4 u3)⟩ {} [] ?_
           obtain rfl:=oi h
           exact lN
          ·skip
           refine aO h fun a1 h=> ?_
           refine aI (bB.le (st':=⟨[(bU p),(uL u3),(GA x u0),(14,(vI 1)),(ZM p u0 u4),(Bl x),(Bc x),(76,(vI u0)),(Hl u0 p),(87,(vI 1)),(afe p u0 u4)],(EF u3)⟩) ⟨⟨tR,tR,tR,⟨_,rfl,eX.v (eO.one (bR.of (congrArg (fun n=>CV.d (.int .i64 n)) a1)))⟩,tR,tR,tR,tR,tR,⟨_,rfl,eX.v (eO.one (bR.of (congrArg (fun n=>CV.d (.int .i64 n)) a1)))⟩,tR,trivial⟩,(.refl _)⟩) ?_
           refine aO h fun a1 h=> ?_
           refine di tT mX ⟨[(bU p),(uL u3),(GA x u0),(Bl x),(Bc x),(76,(vI u0)),(Hl u0 p),(87,(vI 1))],[(11,some (.arr 3 1 u3.length (ab2 p x u0 u4 u3)))]⟩ [_,_,(0:Int)≤1∧(1:Int)<(2:Nat),_,_,aC u3.length 1 (jo (ay (au .i64) u3) (VF p u0 u4) 0 [(.int .i64 (aiN p x u0 u4 u3))]) (ab2 p x u0 u4 u3)] {an:=[(9, .arr 0 (ab2 p x u0 u4 u3))] } [] ⟨a1,(tL a1),((by decide)),a1,(tL a1),(aW _ _ _ _ _ _ _ _ rfl (fun j hj=>(match j,hj with|0,_=>rfl))),trivial⟩ (bB.le (st':=⟨[(bU p),(aiB p x u0 u4 u3),(GA x u0),(Bl x),(Bc x),(76,(vI u0)),(Hl u0 p),(87,(vI 1))],(ag0 p x u0 u4 u3)⟩) ⟨⟨tR,⟨_,rfl,eX.v (eO.one cW)⟩,tR,tR,tR,tR,tR,tR,trivial⟩,⟨rfl,oW,trivial⟩⟩) ?_
           refine rz tT ⟨[(bU p),(aiB p x u0 u4 u3),(GA x u0),(Bl x),(Bc x),(76,(vI u0)),(Hl u0 p),(87,(vI 2))],(ag0 p x u0 u4 u3)⟩ {} [] ?_
           obtain rfl:=oi h
           exact lN
         ·refine cf hb4 ?_
          refine aP (rz tT ⟨[(bU p),(uL u3),(GA x u0),(Bl x),(Bc x),(76,(vI u0)),(Hl u0 p),(87,(k3 u4))],(EF u3)⟩ {} [] ?_)
          obtain rfl:=oi h
          exact lN
        ·refine cf hb5 ?_
         refine aI (fz (adT x u3 p u0) []) ?_
         refine aX ?_
         obtain rfl:=oi h
         exact lB
       ·clear hy
        cases y2 with
        |brk z=>
         obtain⟨v0,rfl⟩: ∃q,q=z:=⟨_,rfl⟩
         unfold fZ
         refine⟨_, .refl, ?_⟩
         refine rz tT ⟨[(bU p),(uL v0),(Bl x),(Bc x),(76,(k3 u0))],(EF v0)⟩ {} [] ?_
         obtain rfl:=oi h
         exact lN
        |ret v=>
         obtain rfl:=oi h
         unfold fZ
         intro e st hn ha hR
         cases e with
         |normal=>exact absurd rfl hn
         |exit id=>simp only [rF (b:=5) ha rfl,cond_false];exact hR
         |goto l=>exact hR
         |ret=>exact hR
         |panic c=>exact hR
         |outgrown=>exact hR
      ·refine cf hb6 ?_
       refine aI (fz ⟨[(uL u7)],(EF u7)⟩ []) ?_
       refine aX ?_
       obtain rfl:=oi h
       exact lB
     ·clear hy
      cases y3 with
      |brk z=>
       obtain⟨v1,rfl⟩: ∃q,q=z:=⟨_,rfl⟩
       unfold fZ
       refine⟨_, .refl, ?_⟩
       refine aQ (bE h fun r_ hr_ h=> ?_)
       have q0:=rk [(0,11)] (rX v1 hr_)
       refine rg tT ⟨[(6,(vB (!r_)))],[]⟩ [_] {an:=[(1,cR q0 [11])] } [] ⟨q0,trivial⟩ ?_
       refine aR ?_
       obtain rfl:=oi h
       exact rl [(sB (!r_))]
      |ret v=>
       obtain rfl:=oi h
       unfold fZ
       intro e st hn ha hR
       cases e with
       |normal=>exact absurd rfl hn
       |exit id=>exact hR
       |goto l=>exact hR
       |ret=>exact hR
       |panic c=>exact hR
       |outgrown=>exact hR
    |ret v=>
     obtain rfl:=oi h
     unfold fZ
     intro e st hn ha hR
     cases e with
     |normal=>exact absurd rfl hn
     |exit id=>exact hR
     |goto l=>exact hR
     |ret=>exact hR
     |panic c=>exact hR
     |outgrown=>exact hR
  |ret v=>
   obtain rfl:=oi h
   unfold fZ
   intro e st hn ha hR
   cases e with
   |normal=>exact absurd rfl hn
   |exit id=>exact hR
   |goto l=>exact hR
   |ret=>exact hR
   |panic c=>exact hR
   |outgrown=>exact hR
def Bt  :Int→Exit→St→Prop:=
  fun r=>bJ TT [.tmp 6] (vI r) []
section
variable (x:aj) (p:ai)
abbrev adU:=(!decide ((x.sources.length:Int)=(p.sources.length:Int)))
abbrev aeO:=(bif (adU x p)then true else(!decide ((x.links.length:Int)=(p.links.length:Int))))
abbrev GJ:List (Nat × Option Ob):=[(10,some aey)]
end
theorem zS (p:ai) (s_:State) (x:aj) {r:Int} (h:nQ p s_ x=some r):Fn Try.prog 48 (aaq p s_ x) [] (vI r) []:=by
 refine fN tT Try.func48 rfl rfl fun B=> ?_
 show bL _ _ _ _ _ _ (Bt r) _
 unfold nQ at h
 refine sz tT (aat p s_ x) {fr:=[(0,7),(1,8),(2,9)] } [7,8,9] ?_
 refine aQ (aQ (bE h fun r_ hr_ h=> ?_))
 have q0:=dL p s_ hr_
 refine rg tT ⟨[(bU p),(bO s_),(uI x),(7,(vI r_))],[]⟩ [_] {an:=[(2,cA q0 [])] } [] ⟨q0,trivial⟩ ?_
 refine sz tT ⟨[(bU p),(bO s_),(uI x),(7,(vI r_)),(14,(vB (!decide (r_=0))))],[]⟩ {} [] ?_
 refine bI h (fun hb4 h=> ?_) (fun hb4 h=> ?_)
 ·refine ct hb4 ?_
  refine sz tT ⟨[(6,(vI r_))],[]⟩ {} [] ?_
  refine aR ?_
  obtain rfl:=oi h
  exact rl [(sI r_)]
 ·refine cf hb4 ?_
  refine aP (aQ (sg tT ⟨[(bU p),(bO s_),(uI x),(40,(vB (bif (aeO x p)then true else(!decide ((x.racks.length:Int)=(p.racks.length:Int))))))],[]⟩ (eqs (adU x p) 8 (eqs (aeO x p) 8 [])) {yb:=[(7,(adU x p)),(16,(aeO x p))] } [] (ae (ae trivial)) ?_))
  refine bI h (fun hb3 h=> ?_) (fun hb3 h=> ?_)
  ·refine ct hb3 ?_
   refine sz tT ⟨[(6,(vI 20))],[]⟩ {} [] ?_
   refine aR ?_
   obtain rfl:=oi h
   exact rl [(sI 20)]
  ·refine cf hb3 ?_
   refine aP (aQ (aQ (bE h fun u3 hr_1 h=> ?_)))
   have q0:=rk [(0,10)] (Fe hr_1)
   refine rg tT ⟨[(bU p),(bO s_),(uI x),(41,(vO 10 true 3)),(42,(vI (3:Int))),(43,(vI 0))],GJ⟩ [_] {an:=[(0,cA q0 [])] } [] ⟨q0,trivial⟩ ?_
   refine aB (MV 12 (iL 11 (sz tT ⟨[(bU p),(bO s_),(uI x),(41,(vO 10 true 3)),(42,(vI (3:Int))),(43,(vI 0)),(44,(vB true))],GJ⟩ {} [] ?_)))
   refine aQ (ck (aP (aQ (aB (aQ (aO h fun a1 h=> ?_))))))
   refine rg tT ⟨[(bU p),(bO s_),(uI x),(9,(vD (kH [(.fn 128 0 (og []))] 0))),(41,(vO 10 true 3)),(42,(vI (3:Int))),(43,(vI 0))],GJ⟩ [_] {fr:=[(2,11)] } [11] ⟨a1,trivial⟩ ?_
   refine aQ (bE h fun u0 hr_2 h=> ?_)
   have q0:=F4 p s_ x hr_2
   refine rg tT ⟨[(bU p),(bO s_),(uI x),(41,(vO 10 true 3)),(42,(vI (3:Int))),(43,(vI 0)),(53,(vB (!u0)))],GJ⟩ [_] {an:=[(5,cA q0 [])] } [] ⟨q0,trivial⟩ ?_
   refine bI h (fun hb2 h=> ?_) (fun hb2 h=> ?_)
   ·refine ct hb2 ?_
    refine sz tT ⟨[(6,(vI 20))],[]⟩ {} [] ?_
    refine aR ?_
    obtain rfl:=oi h
    exact rl [(sI 20)]
   ·refine cf hb2 ?_
    refine aP (rz tT ⟨[(bU p),(bO s_),(uI x),(41,(vO 10 true 3)),(42,(vI (3:Int))),(43,(vI 1))],GJ⟩ {} [] ?_)
    refine iL 10 (sz tT ⟨[(bU p),(bO s_),(uI x),(41,(vO 10 true 3)),(42,(vI (3:Int))),(43,(vI 1)),(44,(vB true))],GJ⟩ {} [] ?_)
    refine aQ (ck (aP (aQ (aB (aQ (aO h fun a1 h=> ?_))))))
    refine rg tT ⟨[(bU p),(bO s_),(uI x),(9,(vD (kH [(.fn 129 0 (og []))] 0))),(41,(vO 10 true 3)),(42,(vI (3:Int))),(43,(vI 1))],GJ⟩ [_] {fr:=[(2,12)] } [12] ⟨a1,trivial⟩ ?_
    refine aQ (bE h fun u1 hr_3 h=> ?_)
    have q0:=I5 p s_ x hr_3
    refine rg tT ⟨[(bU p),(bO s_),(uI x),(41,(vO 10 true 3)),(42,(vI (3:Int))),(43,(vI 1)),(53,(vB (!u1)))],GJ⟩ [_] {an:=[(5,cA q0 [])] } [] ⟨q0,trivial⟩ ?_
    refine bI h (fun hb1 h=> ?_) (fun hb1 h=> ?_)
    ·refine ct hb1 ?_
     refine sz tT ⟨[(6,(vI 20))],[]⟩ {} [] ?_
     refine aR ?_
     obtain rfl:=oi h
     exact rl [(sI 20)]
    ·refine cf hb1 ?_
     refine aP (rz tT ⟨[(bU p),(bO s_),(uI x),(41,(vO 10 true 3)),(42,(vI (3:Int))),(43,(vI 2))],GJ⟩ {} [] ?_)
     refine iL 9 (sz tT ⟨[(bU p),(bO s_),(uI x),(41,(vO 10 true 3)),(42,(vI (3:Int))),(43,(vI 2)),(44,(vB true))],GJ⟩ {} [] ?_)
     refine aQ (ck (aP (aQ (aB (aQ (aO h fun a1 h=> ?_))))))
     refine rg tT ⟨[(bU p),(bO s_),(uI x),(9,(vD (kH [(.fn 130 0 (og []))] 0))),(41,(vO 10 true 3)),(42,(vI (3:Int))),(43,(vI 2))],GJ⟩ [_] {fr:=[(2,13)] } [13] ⟨a1,trivial⟩ ?_
     refine aQ (bE h fun u2 hr_4 h=> ?_)
     have q0:=EX p s_ x hr_4
     refine rg tT ⟨[(bU p),(bO s_),(uI x),(41,(vO 10 true 3)),(42,(vI (3:Int))),(43,(vI 2)),(53,(vB (!u2)))],GJ⟩ [_] {an:=[(5,cA q0 [])] } [] ⟨q0,trivial⟩ ?_
     refine bI h (fun hb h=> ?_) (fun hb h=> ?_)
     ·refine ct hb ?_
      refine sz tT ⟨[(6,(vI 20))],[]⟩ {} [] ?_
      refine aR ?_
      obtain rfl:=oi h
      exact rl [(sI 20)]
     ·refine cf hb ?_
      refine aP (rz tT ⟨[(bU p),(bO s_),(uI x),(41,(vO 10 true 3)),(42,(vI (3:Int))),(43,(vI 3))],GJ⟩ {} [] ?_)
      refine iL 8 (sz tT ⟨[(bU p),(bO s_),(uI x),(41,(vO 10 true 3)),(42,(vI (3:Int))),(43,(vI 3)),(44,(vB false))],GJ⟩ {} [] ?_)
      refine aQ (cn (aX (sz tT ⟨[(6,(vI 0))],[]⟩ {} [] ?_)))
      refine aR ?_
      obtain rfl:=oi h
      exact rl [(sI 0)]
def G9  :Int→Exit→St→Prop:=
  fun r=>bJ TT [.tmp 8] (vI r) []
section
variable (p:ai) (s_:State) (x:aj)
abbrev aau:Nat × TV:=(4,(k9 p))
abbrev aee:Nat × TV:=(5,(k74 s_))
abbrev Zd:Nat × TV:=(6,(agK x))
end
theorem mo (p:ai) (s_:State) (x:aj) (u1:(List Bool)) {r:Int} (h:j6 p s_ x u1=some r):Fn Try.prog 49 [(.agg (k5 p)),(.agg (Vl s_)),(.agg (Ze x)),(sD (aG none 1 ah u1))] [] (vI r) []:=by
 refine fN tT Try.func49 rfl rfl fun B=> ?_
 show bL _ _ _ _ _ _ (G9 r) _
 unfold j6 at h
 refine sz tT ⟨[(3,(vD (aG none 1 ah u1))),(aau p),(aee s_),(Zd x)],[]⟩ {fr:=[(0,3),(1,4),(2,5)] } [3,4,5] ?_
 refine aQ (aQ (bE h fun r_ hr_ h=> ?_))
 have q0:=zS p s_ x hr_
 refine rg tT ⟨[(3,(vD (aG none 1 ah u1))),(aau p),(aee s_),(Zd x),(9,(vI r_))],[]⟩ [_] {an:=[(3,cA q0 [])] } [] ⟨q0,trivial⟩ ?_
 refine sz tT ⟨[(3,(vD (aG none 1 ah u1))),(aau p),(aee s_),(Zd x),(9,(vI r_)),(17,(vB (!decide (r_=0))))],[]⟩ {} [] ?_
 refine bI h (fun hb1 h=> ?_) (fun hb1 h=> ?_)
 ·refine ct hb1 ?_
  refine sz tT ⟨[(8,(vI r_))],[]⟩ {} [] ?_
  refine aR ?_
  obtain rfl:=oi h
  exact rl [(sI r_)]
 ·refine cf hb1 ?_
  refine aP (aQ (bE h fun u0 hr_1 h=> ?_))
  have q0:=vv p s_ u1 hr_1
  refine rg tT ⟨[(Zd x),(10,(vI u0.1)),(11,(vI u0.2))],[]⟩ [_] {an:=[(3,cA q0 [])] } [] ⟨q0,trivial⟩ ?_
  refine aQ (aQ (bE h fun u2 hr_2 h=> ?_))
  refine rg tT ⟨[(11,(vI u0.2)),(33,(vB (bif (decide (u0.2=0))then(!decide (u0.1=u2))else false)))],[]⟩ (eqs (decide (u0.2=0)) 3 ((gP (jP [(2,(decide (u0.2=0)))]) [(2,true)]→All [Fn Try.prog 41 (aiZ x) [] (vI u2) []])::(eqs (decide (u0.2=0)) 2 []))) {yb:=[(2,(decide (u0.2=0)))],an:=[(5, .call [] (vI u2) [])] } [] (ae ⟨(fun hg=> ⟨(bn x (dZ hr_2 (aY hg))),trivial⟩),(ae trivial)⟩) ?_
  refine bI h (fun hb h=> ?_) (fun hb h=> ?_)
  ·refine ct hb ?_
   refine rz tT ⟨[(11,(vI 7))],[]⟩ {} [] ?_
   refine sz tT ⟨[(8,(vI 7))],[]⟩ {} [] ?_
   refine aR ?_
   obtain rfl:=oi h
   exact rl [(sI 7)]
  ·refine cf hb ?_
   refine aP (sz tT ⟨[(8,(vI u0.2))],[]⟩ {} [] ?_)
   refine aR ?_
   obtain rfl:=oi h
   exact rl [(sI u0.2)]
def rC  :Bool→Exit→St→Prop:=
  fun r=>bJ TT [.tmp 4] (vB r) []
def yc (a:(List Int)) (b:(List Int)):Int→St:=
  fun i=> ⟨[(kP a),(DC b),(5,(vI i))],[]⟩
def xH  :Unit→St:=
  fun _=> ⟨[],[]⟩
def Fh (a:(List Int)) (b:(List Int)):(aU Int (Ex Unit Bool))→Exit→St→Prop:=
  LQ 0 [] (yc a b) xH rC
theorem dY (a:(List Int)) (b:(List Int)) {r:Bool} (h:eB a b=some r):Fn Try.prog 54 [(sD (zR a)),(sD (zR b))] [] (vB r) []:=by
 refine fN tT Try.func54 rfl rfl fun B=> ?_
 show bL _ _ _ _ _ _ (rC r) _
 unfold eB at h
 refine sz tT (Y6 a b) {} [] ?_
 refine aQ (sz tT ⟨[(kP a),(DC b),(10,(vB (!decide ((a.length:Int)=(b.length:Int)))))],[]⟩ {} [] ?_)
 refine bI h (fun hb2 h=> ?_) (fun hb2 h=> ?_)
 ·refine ct hb2 ?_
  refine sz tT ⟨[(4,(vB false))],[]⟩ {} [] ?_
  refine aR ?_
  obtain rfl:=oi h
  exact rl [(sB false)]
 ·refine cf hb2 ?_
  refine aP (aQ (sz tT ⟨[(kP a),(DC b),(5,(vI 0))],[]⟩ {} [] ?_))
  refine bE h fun y hy h=> ?_
  refine aL [] (yc a b) xH rC hy (fun s f h=> ?_) ?_
  ·clear hy
   show bL _ _ _ _ _ _ ((Fh a b) f) _
   unfold xK at h
   obtain⟨i,rfl⟩: ∃q,q=s:=⟨_,rfl⟩
   refine aQ (sz tT ⟨[(kP a),(DC b),(5,(vI i)),(14,(WN i a))],[]⟩ {} [] ?_)
   refine bI h (fun hb1 h=> ?_) (fun hb1 h=> ?_)
   ·refine ct hb1 ?_
    refine aP (aQ (aB (aQ (aO h fun⟨a1,a2⟩ h=> ?_))))
    refine dg tT mX ⟨[(kP a),(DC b),(5,(vI i)),(25,(vB (!decide ((at' a i.toNat)=(at' b i.toNat)))))],[]⟩ [_,_] {} [] ⟨a1,a2,trivial⟩ ?_
    refine bI h (fun hb h=> ?_) (fun hb h=> ?_)
    ·refine ct hb ?_
     refine sz tT ⟨[(4,(vB false))],[]⟩ {} [] ?_
     refine aR ?_
     obtain rfl:=oi h
     exact lR fQ (fT 0) fU (bJ.mk (.inr rfl) (p:=[]) (l:=[(sB false)]) (by kernel_rfl) trivial (eX.refl _) trivial)
    ·refine cf hb ?_
     refine aP (rz tT ⟨[(kP a),(DC b),(k2 i)],[]⟩ {} [] ?_)
     obtain rfl:=oi h
     exact lN
   ·refine cf hb1 ?_
    refine aI (fz ⟨[],[]⟩ []) ?_
    refine aX ?_
    obtain rfl:=oi h
    exact lB
  ·clear hy
   cases y with
   |brk z=>
    unfold fZ
    refine⟨_, .refl, ?_⟩
    refine sz tT ⟨[(4,(vB true))],[]⟩ {} [] ?_
    refine aR ?_
    obtain rfl:=oi h
    exact rl [(sB true)]
   |ret v=>
    obtain rfl:=oi h
    unfold fZ
    intro e st hn ha hR
    cases e with
    |normal=>exact absurd rfl hn
    |exit id=>exact hR
    |goto l=>exact hR
    |ret=>exact hR
    |panic c=>exact hR
    |outgrown=>exact hR
def ng  :Bool→Exit→St→Prop:=
  fun r=>bJ TT [.tmp 4] (vB r) []
section
variable (a:(List Short))
abbrev Ti:Nat × TV:=(0,(vD (aG none 4 Short.cell a)))
end
def qV (a:(List Short)) (b:(List Short)):Int→St:=
  fun i=> ⟨[(Ti a),(Jh b),(5,(vI i))],[]⟩
def qO  :Unit→St:=
  fun _=> ⟨[],[]⟩
def Bh (a:(List Short)) (b:(List Short)):(aU Int (Ex Unit Bool))→Exit→St→Prop:=
  LQ 0 [] (qV a b) qO ng
end
end Sg
