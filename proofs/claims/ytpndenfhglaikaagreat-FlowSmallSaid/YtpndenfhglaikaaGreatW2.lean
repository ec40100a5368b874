import Derived.Test.YtpndenfhglaikaaGreatW1
set_option linter.all false
namespace Sg
open Go Go.Proofs
set_option maxRecDepth 20000
noncomputable section
section
variable (r_:Int) (s_:State) (p:ah) (v4:(Int × Network)) (v0:Int) (v9:(List (Int × Int))) (p1:(List Source)) (v5:(Int × Network)) (x0:(List Int)) (u4:(List (Int × Int))) (u7:Int) (w0:(List (Int × Int))) (v7:Int) (u0:Int) (u2:(List aD)) (w1:Int) (x5:(Int × Network)) (p2:(List Link)) (p3:(List aD)) (x1:(List Int)) (x2:(List af)) (u5:(List (Int × Int))) (ua:(List (af × Int))) (v6:(Int × Network)) (v3:Int) (w9:(List bg)) (x6:(List (List Int))) (u1:Network) (u3:(List (af × Int))) (i2:Nat)
abbrev ZN:List (Nat × TV):=[(4,(vP 65 0)),(5,(vO 66 false 0)),(6,(vI r_))]
abbrev aa8:Nat × Option Ob:=(66,some (.arr 4 1 0 (au aj ([]:List Bool))))
abbrev aaU:Nat × Option Ob:=(67,some (.arr 3 1 0 (au (aG .i64) ([]:List Int))))
abbrev Yn:Ob:=(bZ 3 1 (aG .i64) ([]:List Int))
abbrev acE:List CV:=[(.own 0 false (([]:List Int).length)),(.own 1 false (([]:List Int).length)),(.own 2 false (([]:List af).length))]
abbrev Ym:List (Nat × TV):=[(2,(vP 63 0)),(gH s_),(4,(vP 65 0)),(iV p),(9,(vP 71 0))]
abbrev adg:List CV:=[(.d nS),(.own 70 true (Mh p))]
abbrev acX:Nat × Option Ob:=(71,some (.cells 151 (adg p)))
abbrev Wh:Nat × Option Ob:=(70,some (.rows 35 1 (yo p).length (aaO p) none))
abbrev abA:Nat × Option Ob:=(71,some (.cells 151 [(.own 72 false (([]:List bg).length)),(.own 70 true (Mh p))]))
abbrev ZB:Nat × Option Ob:=(72,some (bZ 157 2 bg.cell ([]:List bg)))
abbrev aeK:List (Nat × Option Ob):=[(y9 p),bY,(Wh p),(abA p),ZB,(Vy p),(Ml p),(Kz p),(Xc p),(77,some Tq),UQ,MU]
abbrev OV:Nat × Option Ob:=(70,some (.rows 35 1 v4.2.from_.length (xQ sM v4.2.from_) none))
abbrev ac5:List (Nat × Option Ob):=[(y9 p),bY,(OV v4),(71,some (.cells 151 [(.own 87 false v4.2.arcs.length),(.own 70 true v4.2.from_.length)])),(Vy p),(Ml p),(Kz p),(Xc p),(77,some (G5 v0 v4 v9)),UQ,MU,(87,some (xU v4))]
abbrev aaG:List (Nat × TV):=[(2,(vP 63 0)),(gH s_),(4,(vP 65 0)),(iV p),(9,(vP 71 0)),(10,(vP 76 0)),uq,qR,pJ,(Ah p),(Ag p),(68,(vI (k4 v0)))]
abbrev agi:Nat × Option Ob:=(71,some (.cells 151 [(.own 72 false v4.2.arcs.length),(.own 70 true v4.2.from_.length)]))
abbrev aeE:List (Nat × Option Ob):=[(N8 p p1),bY,(OV v5),(71,some (.cells 151 [(.own 95 false v5.2.arcs.length),(.own 70 true v5.2.from_.length)])),(nN x0),(Ml p),(Kz p),(YR p x0),(DJ u4),(78,some (G5 u7 v5 w0)),MU,(95,some (xU v5))]
abbrev aad:List (Nat × TV):=[(2,(vP 63 0)),(gH s_),(4,(vP 65 0)),(iV p),(9,(vP 71 0)),(10,(vP 76 0)),uq,qR,pJ,(Ap p),(Af p),(90,(vI (k4 u7)))]
abbrev ae8:List (Nat × TV):=[(2,(vP 63 0)),(gH s_),(4,(vP 65 0)),(8,(vI v7)),(9,(vP 71 0)),(10,(vP 76 0)),uq,qR,pJ,(18,(vI u0)),(xJ u2 u0),(qI u2),(116,(vI w1)),(117,(vI u0))]
abbrev afc:Nat × Option Ob:=(71,some (.cells 151 [(.own 115 false x5.2.arcs.length),(.own 70 true x5.2.from_.length)]))
abbrev acH:List (Nat × Option Ob):=[(eO p p1 p2 p3),bY,(OV x5),(afc x5),(nN x0),(qp x1),(sF x2),(tF x2 x0 x1),(DJ u4),(CZ u5),(Eb ua),(YM x5)]
abbrev aee:Nat × Option Ob:=(71,some (.cells 151 [(.own 119 false v6.2.arcs.length),(.own 70 true v6.2.from_.length)]))
abbrev abu:List (Nat × TV):=[(2,(vP 63 0)),(gH s_),(4,(vP 65 0)),(8,(vI v7)),(9,(vP 71 0)),(10,(vP 76 0)),uq,qR,pJ,(18,(vI u0)),(xJ u2 u0),(qI u2),(116,(vI w1)),(117,(vI u0)),(Ae u2 u0),(134,(vI (k4 v3)))]
abbrev aeL:List (Nat × TV):=[(2,(vP 63 0)),(gH s_),(4,(vP 65 0)),(8,(vI v7)),(9,(vP 71 0)),(10,(vP 76 0)),uq,qR,pJ,(qI u2),(116,(vI w1)),(117,(vI (k4 u0)))]
abbrev afG:Nat × Option Ob:=(71,some (.cells 151 [(.own 72 false w9.length),(.d (bM (some true) 1 (UO 1 (aG .i64)) x6))]))
abbrev aeQ:List (Nat × Option Ob):=[(afG w9 x6),(Mg w9)]
abbrev adJ:List (Nat × Option Ob):=[(yQ u1),(yR u1)]
abbrev abE:List (Nat × TV):=[(2,(vP 63 0)),(4,(vP 65 0)),(9,(vP 71 0)),(10,(vP 76 0)),(26,(vP 125 0)),(27,(vI (at' (u3.map Prod.snd) i2))),(208,(vP 122 0))]
abbrev WO:Nat × Option Ob:=(126,some (ZT p))
abbrev VK:Nat × Option Ob:=(127,some (.cells 27 [(.own 126 true (UZ p))]))
abbrev af9:List (Nat × TV):=[(2,(vP 63 0)),(4,(vP 65 0)),(10,(vP 76 0)),(28,(vP 127 0)),(235,(.v (.one (.fn 103 0 1 (Mv [(.ptr 128 0)])))))]
abbrev ad8:List (Nat × TV):=[(2,(vP 63 0)),(4,(vP 65 0)),(10,(vP 76 0)),(28,(vP 127 0)),(aaS u1)]
end
theorem qi (p:ah) (s_:State) {r:(aA × (List Bool) × Int)} (h:bN p s_=some r):Fn Tryz.prog 27 (WQ p s_) [] (.iP [(.agg [(.own 0 false r.1.sources.length),(.own 1 false r.1.links.length),(.own 2 false r.1.racks.length)]),(.one (.own 3 false r.2.1.length)),(sI r.2.2)]) [(0,some (bZ 3 1 (aG .i64) r.1.sources)),(1,some (bZ 3 1 (aG .i64) r.1.links)),(2,some (bZ 69 2 af.cell r.1.racks)),(3,some (bZ 4 1 aj r.2.1)),(4,none)]:=by
 refine fN tT Tryz.func27 rfl rfl fun B=> ?_
 show jE _ _ _ _ _ _ (gq r) _
 unfold bN at h
 refine sz tT (ac6 p s_) {fr:=[(0,63),(1,64),(2,65)] } [64] ?_
 refine aQ (aQ (bE h fun r_ hr_ h=> ?_))
 have q0:=eT p s_ hr_
 refine rg tT (aeS p s_ r_) [_] {an:=[(2,cA q0 [])] } [] ⟨q0,trivial⟩ ?_
 refine sz tT (ada p s_ r_) {} [] ?_
 refine bI h (fun hb9 h=> ?_) (fun hb9 h=> ?_)
 ·refine ct hb9 ?_
  refine sz tT ⟨[(4,(vP 65 0)),(5,(vD nS)),(6,(vI r_))],[bY]⟩ {} [] ?_
  refine aI (.trans (d9.WH (t:=5) (b:=66) (esz0:=0) (el0:=fun _ _=> .nilp) (E:=4) (esz:=1) (el:=au aj ([]:List Bool)) (by kernel_rfl) (by kernel_rfl)) (.trans (d9.xY (E:=0) (esz:=0) (E0:=80) (cs:=[(.d nS),(.d nS),(.d nS)]) (p:=65) (q:=0) (b:=67) (esz0:=0) (el0:=fun _ _=> .nilp) (ob:= .arr 3 1 0 (au (aG .i64) ([]:List Int))) (fun _ _ _ _ h=> .inl ⟨h,rfl⟩) (by kernel_rfl) (by kernel_rfl) (by kernel_rfl)) (.trans (fz ⟨(ZN r_),[(65,some (.cells 80 [(.own 67 false 0),(.d nS),(.d nS)])),aa8,aaU]⟩ []) (.trans (d9.xY (E:=0) (esz:=0) (E0:=80) (cs:=[(.own 67 false 0),(.d nS),(.d nS)]) (p:=65) (q:=1) (b:=68) (esz0:=0) (el0:=fun _ _=> .nilp) (ob:= .arr 3 1 0 (au (aG .i64) ([]:List Int))) (fun _ _ _ _ h=> .inl ⟨h,rfl⟩) (by kernel_rfl) (by kernel_rfl) (by kernel_rfl)) (.trans (fz ⟨(ZN r_),[(65,some (.cells 80 [(.own 67 false 0),(.own 68 false 0),(.d nS)])),aa8,aaU,(68,some (.arr 3 1 0 (au (aG .i64) ([]:List Int))))]⟩ []) (.trans (d9.xY (E:=0) (esz:=0) (E0:=80) (cs:=[(.own 67 false 0),(.own 68 false 0),(.d nS)]) (p:=65) (q:=2) (b:=69) (esz0:=0) (el0:=fun _ _=> .nilp) (ob:= .arr 69 2 0 (au af.cell ([]:List af))) (fun _ _ _ _ h=> .inl ⟨h,rfl⟩) (by kernel_rfl) (by kernel_rfl) (by kernel_rfl)) (.trans (fz ⟨(ZN r_),[(65,some (.cells 80 [(.own 67 false 0),(.own 68 false 0),(.own 69 false 0)])),aa8,aaU,(68,some (.arr 3 1 0 (au (aG .i64) ([]:List Int)))),(69,some (.arr 69 2 0 (au af.cell ([]:List af))))]⟩ []) (.trans (d9.fin (st':=⟨[(4,(vP 4 0)),(5,(vO 3 false 0)),(6,(vI r_))],[(0,some (.arr 3 1 0 (au (aG .i64) ([]:List Int)))),(1,some (.arr 3 1 0 (au (aG .i64) ([]:List Int)))),(2,some (.arr 69 2 0 (au af.cell ([]:List af)))),(3,some (.arr 4 1 0 (au aj ([]:List Bool)))),(4,some (.cells 80 [(.own 0 false 0),(.own 1 false 0),(.own 2 false 0)]))]⟩) (cs:=[]) ⟨[],[(67,0),(68,1),(69,2),(66,3),(65,4)]⟩ [4,5,6] (by kernel_rfl) trivial) (d9.le (st':=⟨[(4,(vP 4 0)),(5,(vO 3 false (([]:List Bool).length))),(6,(vI r_))],[(0,some Yn),(1,some Yn),(2,some (bZ 69 2 af.cell ([]:List af))),(3,some (bZ 4 1 aj ([]:List Bool))),(4,some (.cells 80 acE))]⟩) ⟨⟨tR,⟨_,rfl,zu.v (uI.one cW)⟩,tR,trivial⟩,⟨rfl,oW,⟨rfl,oW,⟨rfl,oW,⟨rfl,oW,⟨rfl,bH ⟨cW,cW,cW,trivial⟩,trivial⟩⟩⟩⟩⟩⟩))))))))) ?_
  refine aR ?_
  obtain rfl:=oi h
  exact rh [(.agg acE),(.one (.own 3 false (([]:List Bool).length))),(sI r_)] (.refl _) (hN 4 ⟨rfl,trivial,trivial⟩)
 ·refine cf hb9 ?_
  refine aP (sz tT (aer p s_) {} [] ?_)
  refine aQ (aO h fun⟨a1,a2,a3⟩ h=> ?_)
  refine ri tT ⟨(Ym s_ p),[(y9 p),bY,(70,some (.arr 35 1 (yo p).length (fun _ j=>[nS].getD j .nilp))),(acX p)]⟩ [_,(ZH p)=(Vw p),_,_,(yo p).length=(QG p),aC (QG p) 1 (fun _ j=>[nS].getD j .nilp) (fun _ j=>[nS].getD j .nilp)] {an:=[(2, .arr (yo p).length (fun _ j=>[nS].getD j .nilp))],fr:=[(2,70),(4,71)] } [] ⟨a1,rfl,a2,a3,(List.length_replicate),(fI _ _ _),trivial⟩ (.trans (d9.M7 (b:=70) (E:=35) (esz:=1) (len:=(yo p).length) (el:=(fun _ j=>[nS].getD j .nilp)) (el':=xQ sM (yo p)) (by kernel_rfl) (fun i hi j hj=>match j,hj with|0,_=>Ju _ _ _ _ _ _ _ _)) (.trans (fz ⟨(Ym s_ p),[(y9 p),bY,(Wh p),(acX p)]⟩ []) (.trans (d9.xY (E:=0) (esz:=0) (E0:=151) (cs:=(adg p)) (p:=71) (q:=0) (b:=72) (esz0:=0) (el0:=fun _ _=> .nilp) (ob:= .arr 157 2 0 (au bg.cell ([]:List bg))) (fun _ _ _ _ h=> .inl ⟨h,rfl⟩) (by kernel_rfl) (by kernel_rfl) (by kernel_rfl)) (.trans (fz ⟨(Ym s_ p),[(y9 p),bY,(Wh p),(71,some (.cells 151 [(.own 72 false 0),(.own 70 true (Mh p))])),(72,some (.arr 157 2 0 (au bg.cell ([]:List bg))))]⟩ []) (d9.le (st':=⟨(Ym s_ p),[(y9 p),bY,(Wh p),(abA p),ZB]⟩) ⟨⟨tR,tR,tR,tR,tR,trivial⟩,(hN 3 ⟨rfl,bH ⟨cW,gV.refl _,trivial⟩,⟨rfl,oW,trivial⟩⟩)⟩))))) ?_
  refine aQ (aO h fun⟨a1,a2,a3,a4,a5,a6,a7,a8,a9⟩ h=> ?_)
  refine dg tT mX ⟨[(2,(vP 63 0)),(gH s_),(4,(vP 65 0)),(iV p),(9,(vP 71 0)),(10,(vP 76 0))],[(y9 p),bY,(Wh p),(abA p),ZB,(Vy p),(Ml p),(Kz p),(Xc p)]⟩ [_,(QA p)=(p.sources.length:Int),_,_,(Ng p).length=(GN p),aC (GN p) 1 (fun _ j=>[(.int .i64 0)].getD j .nilp) (Tp p),_,(Sk p)=(p.links.length:Int),_,_,(CY p).length=(yP p),aC (yP p) 1 (fun _ j=>[(.int .i64 0)].getD j .nilp) (J9 p),_,((p.racks.length:Int):Int)=(p.racks.length:Int),_,_,(Mc p).length=(QK p),aC (QK p) 2 (fun _ j=>[(.int .i64 0),(.int .i64 0)].getD j .nilp) (Ta p)] {an:=[(3, .arr (Ng p).length (Tp p)),(7, .arr (CY p).length (J9 p)),(11, .arr (Mc p).length (Ta p))],fr:=[(3,73),(7,74),(11,75),(13,76)] } [] ⟨a1,rfl,a2,a3,(List.length_replicate),(aW _ _ _ _ _ (fun j hj=>(match j,hj with|0,_=>rfl))),a4,rfl,a5,a6,(List.length_replicate),(aW _ _ _ _ _ (fun j hj=>(match j,hj with|0,_=>rfl))),a7,rfl,a8,a9,(List.length_replicate),(aW _ _ _ _ _ (fun j hj=>(match j,hj with|0,_=>rfl|1,_=>rfl))),trivial⟩ ?_
  refine sz tT ⟨(VA s_ p),(aeK p)⟩ {an:=[(0, .map 0 (yg (aG .i64) ([]:(List (Int × Int)))) (yc (aG .i64) ([]:(List (Int × Int)))) []),(1, .map 0 (yg (aG .i64) ([]:(List (Int × Int)))) (yc (aG .i64) ([]:(List (Int × Int)))) []),(2, .map 0 (yg af.cell ([]:(List (af × Int)))) (yc (aG .i64) ([]:(List (af × Int)))) [])],fr:=[(0,77),(1,78),(2,79)] } [] ?_
  refine aQ (sz tT ⟨[(2,(vP 63 0)),(gH s_),(4,(vP 65 0)),(iV p),(9,(vP 71 0)),(10,(vP 76 0)),uq,qR,pJ,(Ah p),(Ag p),(68,(vI 0))],(aeK p)⟩ {} [] ?_)
  refine bE h fun y hy h=> ?_
  refine aL [] (wF p s_) (wu p s_) gq hy (fun s f h=> ?_) ?_
  ·clear hy
   show jE _ _ _ _ _ _ ((C9 p s_) f) _
   unfold iJ at h
   obtain⟨n0,n1,v9,v0⟩:=s
   refine sz tT ⟨[(2,(vP 63 0)),(gH s_),(4,(vP 65 0)),(iV p),(9,(vP 71 0)),(10,(vP 76 0)),uq,qR,pJ,(Ah p),(Ag p),(68,(vI v0)),(69,(vB (decide (v0<(p.sources.length:Int)))))],(UB p n1 n0 v9)⟩ {} [] ?_
   refine aQ ?_
   refine bI h (fun hb1 h=> ?_) (fun hb1 h=> ?_)
   ·refine ct hb1 ?_
    refine aP (aQ (aB (aQ (aO h fun a1 h=> ?_))))
    refine rg tT ⟨[(2,(vP 63 0)),(gH s_),(4,(vP 65 0)),(iV p),(9,(vP 71 0)),(10,(vP 76 0)),uq,qR,pJ,(14,(vI v0)),(Tz p v0),(Ah p),(Ag p),(68,(vI v0))],(UB p n1 n0 v9)⟩ [_] {fr:=[(3,86)] } [86] ⟨a1,trivial⟩ ?_
    refine aQ (bE h fun ui hr_1 h=> ?_)
    have q0:=iK p s_ v0 hr_1
    refine rg tT ⟨[(2,(vP 63 0)),(gH s_),(4,(vP 65 0)),(iV p),(9,(vP 71 0)),(10,(vP 76 0)),uq,qR,pJ,(14,(vI v0)),(Tz p v0),(Ah p),(Ag p),(68,(vI v0)),(76,(vB ui))],(UB p n1 n0 v9)⟩ [_] {an:=[(3,cA q0 [])] } [] ⟨q0,trivial⟩ ?_
    refine bI h (fun hb h=> ?_) (fun hb h=> ?_)
    ·refine ct hb ?_
     refine bE h fun v4 hr_2 h=> ?_
     have q0:=rk [(0,71),(1,72),(2,70),(3,87)] (bG 0 (aa5 p v0) (UD p v0) 0 (⟨n0,n1⟩:Network) hr_2)
     refine rg tT ⟨(afw s_ p v0),(ac5 p v4 v0 v9)⟩ [_,Au [some .i64] 1 1 v9.length (yg (aG .i64) v9) (yc (aG .i64) v9) [(.int .i64 v0)] [(cI v4.1)] [] (gJ J4 v0 v4.1 v9).length (G7 v0 v4 v9) (GZ v0 v4 v9)] {an:=[(8,cA q0 [71,72,70]),(9, .map (gJ J4 v0 v4.1 v9).length (G7 v0 v4 v9) (GZ v0 v4 v9) [])] } [] ⟨q0,(q9 (fun _=>rfl) (fun _ _=>rfl) v9 v0 v4.1 rfl rfl),trivial⟩ ?_
     refine ri tT ⟨(aaG s_ p v0),(ac5 p v4 v0 v9)⟩ [] {} [] trivial (d9.fin (st':=⟨(aaG s_ p v0),[(y9 p),bY,(OV v4),(agi v4),(72,some (xU v4)),(Vy p),(Ml p),(Kz p),(Xc p),(77,some (G5 v0 v4 v9)),UQ,MU]⟩) (cs:=[]) ⟨[],[(63,63),(65,65),(70,70),(71,71),(87,72),(73,73),(74,74),(75,75),(76,76),(77,77),(78,78),(79,79)]⟩ [2,3,4,8,9,10,11,12,13,66,67,68] (by kernel_rfl) trivial) ?_
     obtain rfl:=oi h
     exact lN
    ·refine cf hb ?_
     refine aP (rz tT ⟨(aaG s_ p v0),(UB p n1 n0 v9)⟩ {} [] ?_)
     obtain rfl:=oi h
     exact lN
   ·refine cf hb1 ?_
    refine aI (fz ⟨(VA s_ p),(UB p n1 n0 v9)⟩ []) ?_
    refine aX ?_
    obtain rfl:=oi h
    exact lB
  ·clear hy
   cases y with
   |brk z=>
    obtain⟨p1,ue,uc,x0,u4⟩:=z
    unfold GI
    refine⟨_, .refl, ?_⟩
    refine aQ (sz tT ⟨[(2,(vP 63 0)),(gH s_),(4,(vP 65 0)),(iV p),(9,(vP 71 0)),(10,(vP 76 0)),uq,qR,pJ,(Ap p),(Af p),(90,(vI 0))],(afZ p x0 p1 uc ue u4)⟩ {} [] ?_)
    refine bE h fun y1 hy h=> ?_
    refine aL [] (vR p s_ p1 x0 u4) (vY p s_ p1 x0 u4) gq hy (fun s f h=> ?_) ?_
    ·clear hy
     show jE _ _ _ _ _ _ ((CO p s_ p1 x0 u4) f) _
     unfold iI at h
     obtain⟨w7,w3,w0,u7⟩:=s
     refine sz tT ⟨[(2,(vP 63 0)),(gH s_),(4,(vP 65 0)),(iV p),(9,(vP 71 0)),(10,(vP 76 0)),uq,qR,pJ,(Ap p),(Af p),(90,(vI u7)),(91,(vB (decide (u7<(p.links.length:Int)))))],(Ut p w0 p1 w3 w7 x0 u4)⟩ {} [] ?_
     refine aQ ?_
     refine bI h (fun hb3 h=> ?_) (fun hb3 h=> ?_)
     ·refine ct hb3 ?_
      refine aP (aQ (aB (aQ (aO h fun a1 h=> ?_))))
      refine rg tT ⟨[(2,(vP 63 0)),(gH s_),(4,(vP 65 0)),(iV p),(9,(vP 71 0)),(10,(vP 76 0)),uq,qR,pJ,(16,(vI u7)),(Tj p u7),(Ap p),(Af p),(90,(vI u7))],(Ut p w0 p1 w3 w7 x0 u4)⟩ [_] {fr:=[(3,94)] } [94] ⟨a1,trivial⟩ ?_
      refine aQ (bE h fun uj hr_3 h=> ?_)
      have q0:=fq (⟨p.buses,p1,p.links,p.racks⟩:ah) s_ u7 hr_3
      refine rg tT ⟨[(2,(vP 63 0)),(gH s_),(4,(vP 65 0)),(iV p),(9,(vP 71 0)),(10,(vP 76 0)),uq,qR,pJ,(16,(vI u7)),(Tj p u7),(Ap p),(Af p),(90,(vI u7)),(98,(vB uj))],(Ut p w0 p1 w3 w7 x0 u4)⟩ [_] {an:=[(3,cA q0 [])] } [] ⟨q0,trivial⟩ ?_
      refine bI h (fun hb2 h=> ?_) (fun hb2 h=> ?_)
      ·refine ct hb2 ?_
       refine bE h fun v5 hr_4 h=> ?_
       have q0:=rk [(0,71),(1,72),(2,70),(3,95)] (bG (Z0 p u7) (abO p u7) (IW p u7) (IW p u7) (⟨w7,w3⟩:Network) hr_4)
       refine rg tT ⟨(adI s_ p u7),(aeE p p1 v5 x0 u4 u7 w0)⟩ [_,Au [some .i64] 1 1 w0.length (yg (aG .i64) w0) (yc (aG .i64) w0) [(.int .i64 u7)] [(cI v5.1)] [] (gJ J4 u7 v5.1 w0).length (G7 u7 v5 w0) (GZ u7 v5 w0)] {an:=[(13,cA q0 [71,72,70]),(14, .map (gJ J4 u7 v5.1 w0).length (G7 u7 v5 w0) (GZ u7 v5 w0) [])] } [] ⟨q0,(q9 (fun _=>rfl) (fun _ _=>rfl) w0 u7 v5.1 rfl rfl),trivial⟩ ?_
       refine ri tT ⟨(aad s_ p u7),(aeE p p1 v5 x0 u4 u7 w0)⟩ [] {} [] trivial (d9.fin (st':=⟨(aad s_ p u7),[(N8 p p1),bY,(OV v5),(agi v5),(72,some (xU v5)),(nN x0),(Ml p),(Kz p),(YR p x0),(DJ u4),(78,some (G5 u7 v5 w0)),MU]⟩) (cs:=[]) ⟨[],[(63,63),(65,65),(70,70),(71,71),(95,72),(73,73),(74,74),(75,75),(76,76),(77,77),(78,78),(79,79)]⟩ [2,3,4,8,9,10,11,12,13,88,89,90] (by kernel_rfl) trivial) ?_
       obtain rfl:=oi h
       exact lN
      ·refine cf hb2 ?_
       refine aP (rz tT ⟨(aad s_ p u7),(Ut p w0 p1 w3 w7 x0 u4)⟩ {} [] ?_)
       obtain rfl:=oi h
       exact lN
     ·refine cf hb3 ?_
      refine aI (fz ⟨(VA s_ p),(Ut p w0 p1 w3 w7 x0 u4)⟩ []) ?_
      refine aX ?_
      obtain rfl:=oi h
      exact lB
    ·clear hy
     cases y1 with
     |brk z=>
      obtain⟨p2,uf,ud,x1,u5⟩:=z
      unfold GI
      refine⟨_, .refl, ?_⟩
      refine aQ (sz tT ⟨[(2,(vP 63 0)),(gH s_),(4,(vP 65 0)),(iV p),(9,(vP 71 0)),(10,(vP 76 0)),uq,qR,pJ,(115,(vD (bM none 4 aD.cell p.racks))),(116,(vI (p.racks.length:Int))),(117,(vI 0))],(afs x1 p p1 p2 ud uf x0 u4 u5)⟩ {} [] ?_)
      refine bE h fun y3 hy h=> ?_
      refine aL [] (vV p s_ p1 x0 u4 p2 x1 u5) (wU p p1 x0 u4 p2 x1 u5) gq hy (fun s f h=> ?_) ?_
      ·clear hy
       show jE _ _ _ _ _ _ ((qj p s_ p1 x0 u4 p2 x1 u5) f) _
       unfold iO at h
       obtain⟨p3,v7,x7,x4,x2,ua,u2,w1,u0⟩:=s
       refine sz tT ⟨[(2,(vP 63 0)),(gH s_),(4,(vP 65 0)),(8,(vI v7)),(9,(vP 71 0)),(10,(vP 76 0)),uq,qR,pJ,(qI u2),(116,(vI w1)),(117,(vI u0)),(118,(vB (decide (u0<w1))))],(WL x2 x0 x1 ua p p1 p2 p3 x4 x7 u4 u5)⟩ {} [] ?_
       refine aQ ?_
       refine bI h (fun hb6 h=> ?_) (fun hb6 h=> ?_)
       ·refine ct hb6 ?_
        refine aP (aQ (aB (aQ (aO h fun a1 h=> ?_))))
        refine rg tT ⟨(ae8 s_ v7 u0 u2 w1),(WL x2 x0 x1 ua p p1 p2 p3 x4 x7 u4 u5)⟩ [_] {fr:=[(3,114)] } [114] ⟨a1,trivial⟩ ?_
        refine aQ (bE h fun x5 hr_5 h=> ?_)
        have q0:=rk [(0,71),(1,72),(2,70),(3,115)] (bG (Ur p u0) v7 (LX u2 u0) 0 (⟨x7,x4⟩:Network) hr_5)
        refine rg tT ⟨(ae8 s_ v7 u0 u2 w1),(acH p p1 x0 u4 x5 p2 p3 x1 x2 u5 ua)⟩ [_] {an:=[(9,cA q0 [71,72,70])] } [] ⟨q0,trivial⟩ ?_
        refine sz tT ⟨[(2,(vP 63 0)),(gH s_),(4,(vP 65 0)),(8,(vI v7)),(9,(vP 71 0)),(10,(vP 76 0)),uq,qR,pJ,(18,(vI u0)),(xJ u2 u0),(qI u2),(116,(vI w1)),(117,(vI u0)),(Ae u2 u0),(134,(vI 0))],(acH p p1 x0 u4 x5 p2 p3 x1 x2 u5 ua)⟩ {} [] ?_
        refine bE h fun y2 hy h=> ?_
        refine aL [5] (wN p s_ p1 x0 u4 p2 x1 u5 p3 v7 x2 u2 w1 u0) (vJ p s_ p1 x0 u4 p2 x1 u5 p3 v7 x2 u2 w1 u0) (qj p s_ p1 x0 u4 p2 x1 u5) hy (fun s f h=> ?_) ?_
        ·clear hy
         show jE _ _ _ _ _ _ ((Di p s_ p1 x0 u4 p2 x1 u5 p3 v7 x2 u2 w1 u0) f) _
         unfold eY at h
         obtain⟨w8,w4,w2,v3⟩:=s
         refine sz tT ⟨[(2,(vP 63 0)),(gH s_),(4,(vP 65 0)),(8,(vI v7)),(9,(vP 71 0)),(10,(vP 76 0)),uq,qR,pJ,(18,(vI u0)),(xJ u2 u0),(qI u2),(116,(vI w1)),(117,(vI u0)),(Ae u2 u0),(134,(vI v3)),(135,(vB (decide (v3<2))))],(QV p p1 p2 p3 w4 w8 x0 x1 x2 u4 u5 w2)⟩ {} [] ?_
         refine aQ ?_
         refine bI h (fun hb5 h=> ?_) (fun hb5 h=> ?_)
         ·refine ct hb5 ?_
          refine aP (aQ (aB (aQ (aO h fun a1 h=> ?_))))
          refine rg tT ⟨[(2,(vP 63 0)),(gH s_),(4,(vP 65 0)),(8,(vI v7)),(9,(vP 71 0)),(10,(vP 76 0)),uq,qR,pJ,(18,(vI u0)),(xJ u2 u0),(20,(vI v3)),(Ub u0 u2 v3),(qI u2),(116,(vI w1)),(117,(vI u0)),(Ae u2 u0),(134,(vI v3))],(QV p p1 p2 p3 w4 w8 x0 x1 x2 u4 u5 w2)⟩ [_,v3.toNat*1+1≤(QH u2 u0).length,((QH u2 u0).drop (v3.toNat*1)).take 1=(TQ u0 u2 v3).map .d] {an:=[(1, .vals (TQ u0 u2 v3))] } [] ⟨a1,(Tx (n:=2) (sz:=1) (Nat.le_refl _) a1),(Sj (n:=2) (sz:=1) (g:=fun q=>[(cI (at' [(k28 u2 u0).e0,(k28 u2 u0).e1] q))]) (by intro q hq;match q,hq with|0,_=>rfl|1,_=>rfl) a1),trivial⟩ ?_
          refine aQ (bE h fun ul hr_6 h=> ?_)
          have q0:=jR s_ (Qi u0 u2 v3) hr_6
          refine rg tT ⟨[(2,(vP 63 0)),(gH s_),(4,(vP 65 0)),(8,(vI v7)),(9,(vP 71 0)),(10,(vP 76 0)),uq,qR,pJ,(18,(vI u0)),(xJ u2 u0),(20,(vI v3)),(Ub u0 u2 v3),(qI u2),(116,(vI w1)),(117,(vI u0)),(Ae u2 u0),(134,(vI v3)),(140,(vB ul))],(QV p p1 p2 p3 w4 w8 x0 x1 x2 u4 u5 w2)⟩ [_] {an:=[(2,cA q0 [])] } [] ⟨q0,trivial⟩ ?_
          refine bI h (fun hb4 h=> ?_) (fun hb4 h=> ?_)
          ·refine ct hb4 ?_
           refine bE h fun v6 hr_7 h=> ?_
           have q0:=rk [(0,71),(1,115),(2,70),(3,119)] (bG (aaR u0 u2 v3) (Ur p u0) (LX u2 u0) 0 (⟨w8,w4⟩:Network) hr_7)
           refine rg tT ⟨(adO s_ v7 u0 u2 w1 v3),[(eO p p1 p2 p3),bY,(OV v6),(aee v6),(nN x0),(qp x1),(sF x2),(tF x2 x0 x1),(DJ u4),(CZ u5),(79,some (Ry 69 3 true false 2 1 af.cell (aG .i64) (gJ (fun a b=>(decide (a.e0=b.e0) && (decide (a.e1=b.e1) && true))) (⟨u0,v3⟩:af) v6.1 w2))),(119,some (xU v6))]⟩ [_,Au [some .i64,some .i64] 2 1 w2.length (yg af.cell w2) (yc (aG .i64) w2) (Tw u0 v3) [(cI v6.1)] [] (gJ (fun a b=>(decide (a.e0=b.e0) && (decide (a.e1=b.e1) && true))) (⟨u0,v3⟩:af) v6.1 w2).length (yg af.cell (gJ (fun a b=>(decide (a.e0=b.e0) && (decide (a.e1=b.e1) && true))) (⟨u0,v3⟩:af) v6.1 w2)) (yc (aG .i64) (gJ (fun a b=>(decide (a.e0=b.e0) && (decide (a.e1=b.e1) && true))) (⟨u0,v3⟩:af) v6.1 w2))] {an:=[(14,cA q0 [71,115,70]),(15, .map (gJ (fun a b=>(decide (a.e0=b.e0) && (decide (a.e1=b.e1) && true))) (⟨u0,v3⟩:af) v6.1 w2).length (yg af.cell (gJ (fun a b=>(decide (a.e0=b.e0) && (decide (a.e1=b.e1) && true))) (⟨u0,v3⟩:af) v6.1 w2)) (yc (aG .i64) (gJ (fun a b=>(decide (a.e0=b.e0) && (decide (a.e1=b.e1) && true))) (⟨u0,v3⟩:af) v6.1 w2)) [])] } [] ⟨q0,(q9 (fun _=>rfl) (fun _ _=>rfl) w2 (⟨u0,v3⟩:af) v6.1 rfl rfl),trivial⟩ ?_
           refine ri tT ⟨(abu s_ v7 u0 u2 w1 v3),[(eO p p1 p2 p3),bY,(OV v6),(aee v6),(nN x0),(qp x1),(sF x2),(tF x2 x0 x1),(DJ u4),(CZ u5),(79,some (Ry 69 3 true false 2 1 af.cell (aG .i64) (gJ (fun a b=>(decide (a.e0=b.e0) && (decide (a.e1=b.e1) && true))) (⟨u0,v3⟩:af) v6.1 w2))),(119,some (xU v6))]⟩ [] {} [] trivial (d9.fin (st':=⟨(abu s_ v7 u0 u2 w1 v3),[(eO p p1 p2 p3),bY,(OV v6),(afc v6),(nN x0),(qp x1),(sF x2),(tF x2 x0 x1),(DJ u4),(CZ u5),(79,some (Ry 69 3 true false 2 1 af.cell (aG .i64) (gJ (fun a b=>(decide (a.e0=b.e0) && (decide (a.e1=b.e1) && true))) (⟨u0,v3⟩:af) v6.1 w2))),(YM v6)]⟩) (cs:=[]) ⟨[],[(63,63),(65,65),(70,70),(71,71),(73,73),(74,74),(75,75),(76,76),(77,77),(78,78),(79,79),(119,115)]⟩ [2,3,4,8,9,10,11,12,13,18,19,115,116,117,133,134] (by kernel_rfl) trivial) ?_
           obtain rfl:=oi h
           exact lN
          ·refine cf hb4 ?_
           refine aP (rz tT ⟨(abu s_ v7 u0 u2 w1 v3),(QV p p1 p2 p3 w4 w8 x0 x1 x2 u4 u5 w2)⟩ {} [] ?_)
           obtain rfl:=oi h
           exact lN
         ·refine cf hb5 ?_
          refine aI (fz (afq s_ v7 u2 w1 u0 p p1 p2 p3 w4 w8 x0 x1 x2 u4 u5 w2) []) ?_
          refine aX ?_
          obtain rfl:=oi h
          exact lB
        ·clear hy
         cases y2 with
         |brk z=>
          obtain⟨ub,x8,ug⟩:=z
          unfold GI
          refine⟨_, .refl, ?_⟩
          refine ri tT ⟨(aeL s_ v7 u0 u2 w1),(QV p p1 p2 p3 x8 ub x0 x1 x2 u4 u5 ug)⟩ [] {} [] trivial (d9.fin (st':=⟨(aeL s_ v7 u0 u2 w1),(WL x2 x0 x1 ug p p1 p2 p3 x8 ub u4 u5)⟩) (cs:=[]) ⟨[],[(63,63),(65,65),(70,70),(71,71),(115,72),(73,73),(74,74),(75,75),(76,76),(77,77),(78,78),(79,79)]⟩ [2,3,4,8,9,10,11,12,13,115,116,117] (by kernel_rfl) trivial) ?_
          obtain rfl:=oi h
          exact lN
         |ret v=>
          obtain rfl:=oi h
          unfold GI
          intro e st hn ha hR
          cases e with
          |normal=>exact absurd rfl hn
          |exit id=>simp only [Q9 (b:=5) ha rfl,cond_false];exact hR
          |goto l=>exact hR
          |ret=>exact hR
          |panic c=>exact hR
          |outgrown=>exact hR
       ·refine cf hb6 ?_
        refine aI (fz (acA v7 p p1 p2 p3 x4 x7 x0 x1 x2 u4 u5 ua) []) ?_
        refine aX ?_
        obtain rfl:=oi h
        exact lB
      ·clear hy
       cases y3 with
       |brk z=>
        obtain⟨v1,x9,w9,x6,v2,u3⟩:=z
        unfold GI
        refine⟨_, .refl, ?_⟩
        refine aQ (aI (.trans (fi ⟨(aaB x9),[(eO p p1 p2 v1),bY,(71,some (.cells 151 [(.own 72 false w9.length),(.d (.sl (some true) 1 x6.length (fun i j=>evD (xQ sM x6 i j))))])),(Mg w9),(nN x0),(qp x1),(sF v2),(tF v2 x0 x1),(DJ u4),(CZ u5),(Eb u3)]⟩ [x6.length=x6.length] [70] ⟨rfl,trivial⟩) (d9.le (st':=⟨(aaB x9),[(eO p p1 p2 v1),bY,(afG w9 x6),(Mg w9),(nN x0),(qp x1),(sF v2),(tF v2 x0 x1),(DJ u4),(CZ u5),(Eb u3)]⟩) ⟨⟨tR,tR,tR,tR,tR,tR,tR,tR,trivial⟩,(hN 2 ⟨rfl,bH ⟨gV.refl _,gV.d (jL.sl (.inr rfl) (fun i _ j hj=>match j,hj with|0,_=> .refl _)),trivial⟩,(.refl _)⟩)⟩)) ?_)
        refine bE h fun u1 hr_8 h=> ?_
        refine rg tT ⟨[(2,(vP 63 0)),(4,(vP 65 0)),(9,(vP 71 0)),(10,(vP 76 0)),uq,qR,pJ],[(eO p p1 p2 v1),bY,(yQ u1),(yR u1),(nN x0),(qp x1),(sF v2),(tF v2 x0 x1),(DJ u4),(CZ u5),(Eb u3)]⟩ [Fn Tryz.prog 75 [(.one (.ptr 71 0)),(sI x9)] (aeQ w9 x6) (.iP []) (adJ u1)] {an:=[(2, .call [71,72] (.iP []) (adJ u1))] } [] ⟨(Fn.leH (args:=[(.one (.ptr 71 0)),(sI x9)]) (args':=[(.one (.ptr 71 0)),(sI x9)]) (hin:=[(71,some (.cells 151 [(.own 72 false w9.length),(.d (k91 x6))])),(Mg w9)]) (hin':=(aeQ w9 x6)) (rK [(0,71),(1,72)] (lu x9 (⟨w9,x6⟩:Network) hr_8)) ⟨uI.refl _,uI.refl _,trivial⟩ ⟨rfl,bH ⟨gV.refl _,gV.d jL.rX,trivial⟩,(.refl _)⟩),trivial⟩ ?_
        refine aQ (bE h fun y4 hy h=> ?_)
        refine ja (DY p p1 p2 x1 u5 v1 v2 u3 u1) (K:=3) (V:=3) (s0:=(x0)) ⟨3,3,false,false,1,1,u4.length,yg (aG .i64) u4,yc (aG .i64) u4,[]⟩ 77 120 (fun i=>(sI (Az u4 i))) (fun i=>(sI (Ez u4 i))) hy [3,4] (by kernel_rfl) (by kernel_rfl) (by kernel_rfl) (fun _ _=> ⟨rfl,rfl⟩) (fun _ _=> ⟨lJ _ _,lJ _ _⟩) (fun _=>(d9.fin (st':=(afY u1 p p1 p2 v1 x0 x1 v2 u5 u3)) (cs:=[]) ⟨[],[(63,63),(65,65),(71,71),(72,72),(73,73),(74,74),(75,75),(76,76),(78,78),(79,79),(120,120)]⟩ [2,4,9,10,12,13,162] (by kernel_rfl) trivial)) (fun s=>by obtain⟨w5,rfl⟩: ∃q,q=s:=⟨_,rfl⟩;kernel_rfl) (fun B s i s' hi h=> ?_) ?_
        ·clear hy
         unfold jO at h
         obtain⟨w5,rfl⟩: ∃q,q=s:=⟨_,rfl⟩
         refine Yi tT (⟨[(2,(vP 63 0)),(4,(vP 65 0)),(9,(vP 71 0)),(10,(vP 76 0)),qR,pJ,(22,(vI (Az u4 i))),(23,(vI (Ez u4 i))),(162,(vP 120 0))],(acJ u1 p p1 p2 v1 w5 x1 v2 u5 u3)⟩) {fin:=⟨[],[(63,63),(65,65),(71,71),(72,72),(73,73),(74,74),(75,75),(76,76),(78,78),(79,79),(120,120)]⟩,ts:=[2,4,9,10,12,13,22,23,162] } (cs:=[]) (by kernel_rfl) trivial .refl ?_
         refine aO h fun⟨a1,a2⟩ h=> ?_
         refine di tT mX ⟨abn,[(eO p p1 p2 v1),bY,(yQ u1),(yR u1),(73,some (.arr 3 1 w5.length (LP u4 u1 i w5))),(qp x1),(sF v2),(tF v2 w5 x1),(CZ u5),(Eb u3),(120,none)]⟩ [_,_,_,_,aC w5.length 1 (aby u4 u1 i w5) (LP u4 u1 i w5)] {an:=[(13, .arr 0 (LP u4 u1 i w5))] } [] ⟨a1,(tL a1),a2,(tL a2),(aK _ _ _ _ _ _ _ _ rfl (fun j hj=>(match j,hj with|0,_=>rfl))),trivial⟩ (d9.le (st':=⟨abn,[(eO p p1 p2 v1),bY,(yQ u1),(yR u1),(73,some (abh u4 u1 i w5)),(qp x1),(sF v2),(76,some (.cells 80 [(.own 73 true (ZI u4 u1 i w5)),(.own 74 true x1.length),(.own 75 true v2.length)])),(CZ u5),(Eb u3),(120,none)]⟩) ⟨⟨tR,tR,tR,tR,tR,tR,tR,trivial⟩,(hN 4 ⟨rfl,oW,(hN 2 ⟨rfl,bH ⟨cW,gV.refl _,gV.refl _,trivial⟩,(.refl _)⟩)⟩)⟩) ?_
         obtain rfl:=oi h
         exact⟨.inl rfl,by kernel_rfl⟩
        ·clear hy
         obtain⟨u6,rfl⟩: ∃q,q=y4:=⟨_,rfl⟩
         refine aI (fz ⟨[(2,(vP 63 0)),(4,(vP 65 0)),(9,(vP 71 0)),(10,(vP 76 0)),qR,pJ],[(eO p p1 p2 v1),bY,(yQ u1),(yR u1),(nN u6),(qp x1),(sF v2),(tF v2 u6 x1),(CZ u5),(Eb u3)]⟩ []) ?_
         refine aQ (bE h fun y5 hy h=> ?_)
         refine ja (CW p p1 p2 v1 v2 u3 u1 u6) (K:=3) (V:=3) (s0:=(x1)) ⟨3,3,false,false,1,1,u5.length,yg (aG .i64) u5,yc (aG .i64) u5,[]⟩ 78 121 (fun i1=>(sI (Az u5 i1))) (fun i1=>(sI (Ez u5 i1))) hy [3,4] (by kernel_rfl) (by kernel_rfl) (by kernel_rfl) (fun _ _=> ⟨rfl,rfl⟩) (fun _ _=> ⟨lJ _ _,lJ _ _⟩) (fun _=>(d9.fin (st':=(ac7 p p1 p2 v1 u1 u6 x1 v2 u3)) (cs:=[]) ⟨[],[(63,63),(65,65),(71,71),(72,72),(73,73),(74,74),(75,75),(76,76),(79,79),(121,121)]⟩ [2,4,9,10,13,182] (by kernel_rfl) trivial)) (fun s=>by obtain⟨w6,rfl⟩: ∃q,q=s:=⟨_,rfl⟩;kernel_rfl) (fun B s i1 s' hi h=> ?_) ?_
         ·clear hy
          unfold jM at h
          obtain⟨w6,rfl⟩: ∃q,q=s:=⟨_,rfl⟩
          refine Yi tT (⟨[(2,(vP 63 0)),(4,(vP 65 0)),(9,(vP 71 0)),(10,(vP 76 0)),pJ,(24,(vI (Az u5 i1))),(25,(vI (Ez u5 i1))),(182,(vP 121 0))],(aeg p p1 p2 v1 u1 u6 w6 v2 u3)⟩) {fin:=⟨[],[(63,63),(65,65),(71,71),(72,72),(73,73),(74,74),(75,75),(76,76),(79,79),(121,121)]⟩,ts:=[2,4,9,10,13,24,25,182] } (cs:=[]) (by kernel_rfl) trivial .refl ?_
          refine aO h fun⟨a1,a2,a3⟩ h=> ?_
          refine di tT mX ⟨ZC,[(eO p p1 p2 v1),bY,(yQ u1),(yR u1),(nN u6),(74,some (.arr 3 1 w6.length (Me p2 u5 u1 i1 w6))),(sF v2),(tF v2 u6 w6),(Eb u3),(121,none)]⟩ [_,_,_,_,_,aC w6.length 1 (abb p2 u5 u1 i1 w6) (Me p2 u5 u1 i1 w6)] {an:=[(19, .arr 0 (Me p2 u5 u1 i1 w6))] } [] ⟨a1,a2,(tL a2),a3,(tL a3),(aK _ _ _ _ _ _ _ _ rfl (fun j hj=>(match j,hj with|0,_=>rfl))),trivial⟩ (d9.le (st':=⟨ZC,[(eO p p1 p2 v1),bY,(yQ u1),(yR u1),(nN u6),(74,some (aas p2 u5 u1 i1 w6)),(sF v2),(76,some (.cells 80 [(.own 73 true u6.length),(.own 74 true (abg p2 u5 u1 i1 w6)),(.own 75 true v2.length)])),(Eb u3),(121,none)]⟩) ⟨⟨tR,tR,tR,tR,tR,tR,trivial⟩,(hN 5 ⟨rfl,oW,⟨rfl, .refl _,⟨rfl,bH ⟨gV.refl _,cW,gV.refl _,trivial⟩,⟨rfl, .refl _,⟨rfl, .refl _,trivial⟩⟩⟩⟩⟩)⟩) ?_
          obtain rfl:=oi h
          exact⟨.inl rfl,by kernel_rfl⟩
         ·clear hy
          obtain⟨u8,rfl⟩: ∃q,q=y5:=⟨_,rfl⟩
          refine aI (fz ⟨[(2,(vP 63 0)),(4,(vP 65 0)),(9,(vP 71 0)),(10,(vP 76 0)),pJ],[(eO p p1 p2 v1),bY,(yQ u1),(yR u1),(nN u6),(qp u8),(sF v2),(tF v2 u6 u8),(Eb u3)]⟩ []) ?_
          refine aQ (bE h fun y6 hy h=> ?_)
          refine ja (Dg p p1 p2 v1 u1 u6 u8) (K:=69) (V:=3) (s0:=(v2)) ⟨69,3,true,false,2,1,u3.length,yg af.cell u3,yc (aG .i64) u3,[]⟩ 79 122 (fun i2=>(.agg (XF u3 i2))) (fun i2=>(sI (at' (u3.map Prod.snd) i2))) hy [3,4,5] (by kernel_rfl) (by kernel_rfl) (by kernel_rfl) (fun _ _=> ⟨rfl,rfl⟩) (fun _ _=> ⟨ML rfl,lJ _ _⟩) (fun _=>(d9.fin (st':=(acu p p1 p2 v1 u1 u6 u8 v2)) (cs:=[]) ⟨[],[(63,63),(65,65),(71,71),(72,72),(73,73),(74,74),(75,75),(76,76),(122,122)]⟩ [2,4,9,10,208] (by kernel_rfl) trivial)) (fun s=>by obtain⟨u9,rfl⟩: ∃q,q=s:=⟨_,rfl⟩;kernel_rfl) (fun B s i2 s' hi h=> ?_) ?_
          ·clear hy
           unfold jP at h
           obtain⟨u9,rfl⟩: ∃q,q=s:=⟨_,rfl⟩
           refine Yi tT (⟨(abE u3 i2),[(eO p p1 p2 v1),bY,(yQ u1),(yR u1),(nN u6),(qp u8),(sF u9),(tF u9 u6 u8),(122,none),(125,some (ZU u3 i2))]⟩) {fr:=Xr [(3,125)],fin:=⟨[],[(63,63),(65,65),(71,71),(72,72),(73,73),(74,74),(75,75),(76,76),(122,122),(125,125)]⟩,ts:=[2,4,9,10,26,27,208] } (cs:=[]) (by kernel_rfl) trivial .refl ?_
           refine bI h (fun hb7 h=> ?_) (fun _ h=> ?_)
           ·skip
            refine aI (d9.le (st':=⟨(abE u3 i2),[(eO p p1 p2 v1),bY,(yQ u1),(yR u1),(nN u6),(qp u8),(sF u9),(tF u9 u6 u8),(122,none),(125,some (aav u3 i2))]⟩) ⟨⟨tR,tR,tR,tR,tR,tR,tR,trivial⟩,(hN 9 ⟨rfl,bH ⟨gV.refl _,gV.of (congrArg (fun n=>CV.d (.int .i64 n)) (of_decide_eq_true hb7)),trivial⟩,trivial⟩)⟩) ?_
            refine aO h fun⟨a1,a2⟩ h=> ?_
            refine di tT mX ⟨Vr,[(eO p p1 p2 v1),bY,(yQ u1),(yR u1),(nN u6),(qp u8),(75,some (.arr 69 2 u9.length (Nw u1 u3 i2 u9))),(tF u9 u6 u8),(122,none)]⟩ [(0:Int)≤0∧(0:Int)<(2:Nat),(0:Int)≤1∧(1:Int)<(2:Nat),_,_,_,(0:Int)≤0∧(0:Int)<(2:Nat),_,aC u9.length 2 (aa1 u1 u3 i2 u9) (Nw u1 u3 i2 u9)] {an:=[(17, .arr 0 (Nw u1 u3 i2 u9))] } [] ⟨((by decide)),((by decide)),a1,(tL a1),a2,((by decide)),(tL a2),(aK _ _ _ _ _ _ _ _ rfl (fun j hj=>(match j,hj with|0,_=>rfl|1,_=>rfl))),trivial⟩ (d9.le (st':=⟨Vr,[(eO p p1 p2 v1),bY,(yQ u1),(yR u1),(nN u6),(qp u8),(75,some (Z8 u1 u3 i2 u9)),(76,some (.cells 80 [(.own 73 true u6.length),(.own 74 true u8.length),(.own 75 true (Zz u1 u3 i2 u9))])),(122,none)]⟩) ⟨⟨tR,tR,tR,tR,tR,trivial⟩,(hN 6 ⟨rfl,oW,⟨rfl,bH ⟨gV.refl _,gV.refl _,cW,trivial⟩,(.refl _)⟩⟩)⟩) ?_
            obtain rfl:=oi h
            exact⟨.inl rfl,by kernel_rfl⟩
           ·skip
            refine aO h fun a1 h=> ?_
            refine aI (d9.le (st':=⟨(abE u3 i2),[(eO p p1 p2 v1),bY,(yQ u1),(yR u1),(nN u6),(qp u8),(sF u9),(tF u9 u6 u8),(122,none),(125,some (abr u3 i2))]⟩) ⟨⟨tR,tR,tR,tR,tR,tR,tR,trivial⟩,(hN 9 ⟨rfl,bH ⟨gV.refl _,gV.of (congrArg (fun n=>CV.d (.int .i64 n)) a1),trivial⟩,trivial⟩)⟩) ?_
            refine aO h fun⟨a1,a2⟩ h=> ?_
            refine di tT mX ⟨Vr,[(eO p p1 p2 v1),bY,(yQ u1),(yR u1),(nN u6),(qp u8),(75,some (.arr 69 2 u9.length (Mr u1 u3 i2 u9))),(tF u9 u6 u8),(122,none)]⟩ [(0:Int)≤0∧(0:Int)<(2:Nat),(0:Int)≤1∧(1:Int)<(2:Nat),_,_,_,(0:Int)≤1∧(1:Int)<(2:Nat),_,aC u9.length 2 (abS u1 u3 i2 u9) (Mr u1 u3 i2 u9)] {an:=[(17, .arr 0 (Mr u1 u3 i2 u9))] } [] ⟨((by decide)),((by decide)),a1,(tL a1),a2,((by decide)),(tL a2),(aK _ _ _ _ _ _ _ _ rfl (fun j hj=>(match j,hj with|0,_=>rfl|1,_=>rfl))),trivial⟩ (d9.le (st':=⟨Vr,[(eO p p1 p2 v1),bY,(yQ u1),(yR u1),(nN u6),(qp u8),(75,some (ZE u1 u3 i2 u9)),(76,some (.cells 80 [(.own 73 true u6.length),(.own 74 true u8.length),(.own 75 true (ZP u1 u3 i2 u9))])),(122,none)]⟩) ⟨⟨tR,tR,tR,tR,tR,trivial⟩,(hN 6 ⟨rfl,oW,⟨rfl,bH ⟨gV.refl _,gV.refl _,cW,trivial⟩,(.refl _)⟩⟩)⟩) ?_
            obtain rfl:=oi h
            exact⟨.inl rfl,by kernel_rfl⟩
          ·clear hy
           obtain⟨v8,rfl⟩: ∃q,q=y6:=⟨_,rfl⟩
           refine aI (fz ⟨[(2,(vP 63 0)),(4,(vP 65 0)),(9,(vP 71 0)),(10,(vP 76 0))],[(eO p p1 p2 v1),bY,(yQ u1),(yR u1),(nN u6),(qp u8),(sF v8),(tF v8 u6 u8)]⟩ []) ?_
           refine aQ (aO h fun⟨a1,a2,a3⟩ h=> ?_)
           refine rg tT ⟨[(2,(vP 63 0)),(4,(vP 65 0)),(9,(vP 71 0)),(10,(vP 76 0)),(28,(vP 127 0))],[(eO p p1 p2 v1),bY,(yQ u1),(yR u1),(nN u6),(qp u8),(sF v8),(tF v8 u6 u8),(WO p),(VK p)]⟩ [_,(p.buses:Int)=p.buses,_,_,(rY p).length=p.buses.toNat,aC p.buses.toNat 1 (fun _ j=>[(.bool false)].getD j .nilp) (BR p)] {an:=[(2, .arr (rY p).length (BR p))],fr:=[(2,126),(3,127)] } [] ⟨a1,rfl,a2,a3,(List.length_replicate),(aW _ _ _ _ _ (fun j hj=>(match j,hj with|0,_=>rfl))),trivial⟩ ?_
           refine aQ (aQ (bE h fun um hr_9 h=> ?_))
           have q0:=rk [(0,71),(1,72),(2,128)] (gF u1 hr_9)
           refine ri tT ⟨af9,[(eO p p1 p2 v1),bY,(71,some (ZA u1)),(nN u6),(qp u8),(sF v8),(tF v8 u6 u8),(WO p),(VK p),(128,some (.cells 147 [(.ptr 71 0)]))]⟩ [_,u1.arcs.length=u1.arcs.length] {an:=[(1,cA q0 [71,72])] } [72] ⟨q0,rfl,trivial⟩ (.trans (fz ⟨af9,[(eO p p1 p2 v1),bY,(nN u6),(qp u8),(sF v8),(tF v8 u6 u8),(WO p),(VK p),(128,some (ab0 u1))]⟩ [71]) (fz ⟨(ad8 u1),[(eO p p1 p2 v1),bY,(nN u6),(qp u8),(sF v8),(tF v8 u6 u8),(WO p),(VK p)]⟩ [128])) ?_
           refine aB (bE h fun x3 hr_10 h=> ?_)
           refine wE 129 [(2,(vP 63 0)),(28,(vP 127 0))] [] [129,63,127,126] (.iP []) [(129,some (.loop dF 0 [(2,(vP 63 0)),(28,(vP 127 0))])),(eO p p1 p2 v1),(127,some (.cells 27 [(.own 126 true x3.length)])),(126,some (bZ 4 1 aj x3))] (Yc u1) 103 [] (abM u1) [(129,some (.loop dF 0 [(2,(vP 63 0)),(28,(vP 127 0))])),(eO p p1 p2 v1),(VK p),(WO p)] [(.one (.yl 129)),(sD (WX u1))] dF 0 [(2,(vP 63 0)),(28,(vP 127 0))] (by kernel_rfl) (by kernel_rfl) (by kernel_rfl) (by kernel_rfl) (by kernel_rfl) (by kernel_rfl) (by kernel_rfl) (rK [(0,129),(1,63),(2,127),(3,126)] (gK u1.arcs u1.from_ (⟨p.buses,p1,p2,v1⟩:ah) (rY p) hr_10)) (by kernel_rfl) rfl (Kh.zero rfl) (d9.fin (st':=⟨(ad8 u1),[(eO p p1 p2 v1),bY,(nN u6),(qp u8),(sF v8),(tF v8 u6 u8),(126,some (bZ 4 1 aj x3)),(127,some (.cells 27 [(.own 126 true x3.length)]))]⟩) (cs:=[]) ⟨[],[(63,63),(65,65),(73,73),(74,74),(75,75),(76,76),(126,126),(127,127)]⟩ [2,4,10,28,235] (by kernel_rfl) trivial) ?_
           refine sd tT mX ⟨[(4,(vP 65 0)),(5,(vO 126 true x3.length)),(6,(vI 0))],[(65,some (.cells 80 [(.own 73 true u6.length),(.own 74 true u8.length),(.own 75 true v8.length)])),(nN u6),(qp u8),(sF v8),(126,some (bZ 4 1 aj x3))]⟩ [] {} [] trivial ?_
           refine aI (.trans (d9.fin (st':=⟨[(4,(vP 4 0)),(5,(vO 3 true x3.length)),(6,(vI 0))],[(0,some (Fw u6)),(1,some (Fw u8)),(2,some (WW v8)),(3,some (bZ 4 1 aj x3)),(4,some (.cells 80 [(.own 0 true u6.length),(.own 1 true u8.length),(.own 2 true v8.length)]))]⟩) (cs:=[]) ⟨[],[(73,0),(74,1),(75,2),(126,3),(65,4)]⟩ [4,5,6] (by kernel_rfl) trivial) (d9.le (st':=⟨[(4,(vP 4 0)),(5,(vO 3 false x3.length)),(6,(vI 0))],[(0,some (Fw u6)),(1,some (Fw u8)),(2,some (WW v8)),(3,some (bZ 4 1 aj x3)),(4,some (.cells 80 [(.own 0 false u6.length),(.own 1 false u8.length),(.own 2 false v8.length)]))]⟩) ⟨⟨tR,⟨_,rfl,zu.v (uI.one (cN))⟩,tR,trivial⟩,(hN 4 ⟨rfl,bH ⟨cN,cN,cN,trivial⟩,trivial⟩)⟩)) ?_
           refine aR ?_
           obtain rfl:=oi h
           exact rh [(.agg [(.own 0 false u6.length),(.own 1 false u8.length),(.own 2 false v8.length)]),(.one (.own 3 false x3.length)),(sI 0)] (.refl _) (hN 4 ⟨rfl,trivial,trivial⟩)
       |ret v=>
        obtain rfl:=oi h
        unfold GI
        intro e st hn ha hR
        cases e with
        |normal=>exact absurd rfl hn
        |exit id=>exact hR
        |goto l=>exact hR
        |ret=>exact hR
        |panic c=>exact hR
        |outgrown=>exact hR
     |ret v=>
      obtain rfl:=oi h
      unfold GI
      intro e st hn ha hR
      cases e with
      |normal=>exact absurd rfl hn
      |exit id=>exact hR
      |goto l=>exact hR
      |ret=>exact hR
      |panic c=>exact hR
      |outgrown=>exact hR
   |ret v=>
    obtain rfl:=oi h
    unfold GI
    intro e st hn ha hR
    cases e with
    |normal=>exact absurd rfl hn
    |exit id=>exact hR
    |goto l=>exact hR
    |ret=>exact hR
    |panic c=>exact hR
    |outgrown=>exact hR
noncomputable def zO:iG:=⟨[25,26],NM ([1,1,1,1,0,1,0]++[0]) (sW Tryz.f60),NM ([1,1,1,1,0,1,0]++[1]) (sW Tryz.f60),35,[]⟩
section
variable (u2:(List Part))
abbrev Z7:Nat × Option Ob:=(0,some (.loop zO 0 [(9,(vP 1 0))]))
abbrev adV:List (Nat × Option Ob):=[Z7,(1,some (.cells 132 [(.own 2 false u2.length)])),(2,some (bZ 112 2 Part.cell u2))]
end
theorem nA (u0:Int) (u1:Int) (u3:Int) (u2:(List Part)):X8 Tryz.prog 0 [(.agg [(cI u0),(cI u1)]),(sI u3)] (adV u2) (fun _=>vB true) (fun r=>[Z7,(1,some (.cells 132 [(.own 3 false r.length)])),(2,none),(3,some (bZ 112 2 Part.cell r))]) (fP u0 u1 u3 u2):=
  scY tT mX zO ⟨[9],[0,1,2],fun _=>[(10,(vD (CR (Tw u0 u1) 0)))],fun _=>[]⟩ (.rg {fr:=[(0,6)],fz:=[6]} []<| .e ())
  (.r<| .it (.a2 ((u2.length+[(⟨u0,u1⟩:Part)].length)*16≤140737488355328) (u2.length+[(⟨u0,u1⟩:Part)].length≤4611686018427387904)<| .rg {an:=[(2, .arr [(⟨u0,u1⟩:Part)].length (au Part.cell [(⟨u0,u1⟩:Part)])),(3, .arr (u2++[(⟨u0,u1⟩:Part)]).length (au Part.cell (u2++[(⟨u0,u1⟩:Part)])))],fr:=[(2,7),(3,8)]} [.pf ⟨[(⟨u0,u1⟩:Part)].length=1,rfl⟩, .pf ⟨aC 1 2 (ou 2 (Tw u0 u1)) (au Part.cell [(⟨u0,u1⟩:Part)]),(by intro i hi j hj;match i,j,hi,hj with|0,0,_,_=>rfl|0,1,_,_=>rfl)⟩, .e (u2.length),0,1, .pf ⟨(u2++[(⟨u0,u1⟩:Part)]).length=u2.length+[(⟨u0,u1⟩:Part)].length,List.length_append⟩, .pf ⟨aC (u2.length+[(⟨u0,u1⟩:Part)].length) 2 (sV (au Part.cell u2) u2.length (au Part.cell [(⟨u0,u1⟩:Part)])) (au Part.cell (u2++[(⟨u0,u1⟩:Part)])),dw _ _ _ _⟩]<| .en (u2++[(⟨u0,u1⟩:Part)]) [] [(8,3)])
(.im (.re 1 0 2 9)<| .en u2 [] [(9,3)]))
theorem Ao (b:Int) (x1:(List Bool)):fD Tryz.prog 122 [(sI b),(sD (CR [(bM none 1 aj x1)] 0))] [] (fun r=>(vB r)) (fun _=>[]) (lT b x1):=
  gI tT mX Tryz.func122 (
  .r<| .a1 ((gB [((decide (0≤b)),true)]=true→(0:Int)≤b∧b<(x1.length:Int)))<| .r<| .e (bif (decide (0≤b))then(at' x1 b.toNat)else false))
section
variable (f_:(List Bool))
abbrev Q0:=(yY [(CR [(bM none 1 aj f_)] 0)])
end
theorem uW (s_:(List Int)) (f_:(List Bool)):fD Tryz.prog 128 [(sD (yV s_)),(sD (.fn 122 1 (Q0 f_)))] [] (fun r=>(vI r)) (fun _=>[]) (iq s_ f_):=
  gI tT mX Tryz.func128 (
  .r<| .r<| .lp (σ:=Int) (β:=Unit) (0) [] [] ⟨[0,1,7],[],fun t8=>[(8,(vI t8))],fun t8=>[]⟩ ⟨[],[],fun _=>[],fun _=>[]⟩
  (fun t8=> .r<| .it (.r<| .cl 5 (Ao (at' s_ t8.toNat) f_) fun r_=> .a1 (Nz s_ t8)<| .rg {} [0,1]<| .it (.r<| .e (.done (.ret t8)))
  (.r<| .e (.next (k4 t8))))
  (.e (.done (.brk ()))))
  (fun _=> .r<| .e (-1)))
theorem kX (s_:(List Int)) (f_:(List Bool)):fD Tryz.prog 100 [(sD (yV s_)),(sD (.fn 122 1 (Q0 f_)))] [] (fun r=>(vB r)) (fun _=>[]) (bV s_ f_):=
  gI tT mX Tryz.func100 (
  .r<| .cl 2 (uW s_ f_) fun r_=> .r<| .e (decide (0≤r_)))
section
variable (x1:Int) (u5:(List Source)) (u3:(List Link)) (u1:(List aD)) (x2:(List Bool)) (v2:(List Bool)) (v3:(List Bool)) (v4:(List Bool)) (v5:(List Bool)) (v6:(List Bool)) (v7:(List Bool)) (x3:(List Bool)) (u6:(List Part)) (r_:Bool) (u4:Int) (w0:(List Part)) (u7:(List Part)) (v1:Bool) (u2:Int) (u0:Int)
abbrev acI:List SV:=[(.one (.yl 0)),(sD (k15 x1 u5 u3 u1)),(sD (CR [(bM none 1 aj x2),(bM none 1 aj v2),(bM none 1 aj v3),(bM none 1 aj v4),(bM none 1 aj v5),(bM none 1 aj v6),(bM none 1 aj v7)] 0)),(sD (CR [(bM none 1 aj x3)] 0))]
abbrev aeJ:List (Nat × Option Ob):=[(1,some (.cells 132 [(.own 20 false u6.length)])),(2,none),(20,some (bZ 112 2 Part.cell u6))]
abbrev Yu:=((gB [(r_,true)]=true→(0:Int)≤(at' u5 u4.toNat).bus∧(at' u5 u4.toNat).bus<(x3.length:Int)))
abbrev NY:=(w0,(k4 u4))
abbrev aa4:List (Nat × Option Ob):=[(1,some (.cells 132 [(.own 20 false u7.length)])),(20,some (bZ 112 2 Part.cell u7))]
abbrev acp:=(bif v1 then(!((at' x3 (((at' u3 u2.toNat).a).toNat))==(at' x3 (((at' u3 u2.toNat).b).toNat))))else false)
abbrev YT:=((gB [(v1,true)]=true→(0:Int)≤(at' u3 u2.toNat).a∧(at' u3 u2.toNat).a<(x3.length:Int)))
abbrev XQ:=((gB [(v1,true)]=true→(0:Int)≤(at' u3 u2.toNat).b∧(at' u3 u2.toNat).b<(x3.length:Int)))
abbrev acC:List SV:=[(sD (bM none 1 (aG .i64) [(k28 u1 u0).e0,(k28 u1 u0).e1])),(sD (.fn 122 1 (Q0 x3)))]
end
theorem Ce (x1:Int) (u5:(List Source)) (u3:(List Link)) (u1:(List aD)) (x2:(List Bool)) (v2:(List Bool)) (v3:(List Bool)) (v4:(List Bool)) (v5:(List Bool)) (v6:(List Bool)) (v7:(List Bool)) (x3:(List Bool)) (v8:(List Part)):fD Tryz.prog 121 (acI x1 u5 u3 u1 x2 v2 v3 v4 v5 v6 v7 x3) (adV v8) (fun r=>(.iP [])) (fun r=>[Z7,(1,some (.cells 132 [(.own 3 false r.length)])),(2,none),(3,some (bZ 112 2 Part.cell r))]) (oP x1 u5 u3 u1 x2 v2 v3 v4 v5 v6 v7 x3 v8):=
  gI tT mX Tryz.func121 (
  .r<| .im (.re 1 0 2 23)<| .lp (σ:=((List Part) × Int)) (β:=(List Part)) (v8,0) [] [(23,20)] ⟨[0,1,2,3,13,14],[0],fun(u6,u4)=>[(15,(vI u4))],fun(u6,u4)=>(aeJ u6)⟩ ⟨[0,1,2,3],[0],fun u9=>[],fun u9=>(aeJ u9)⟩
  (fun(u6,u4)=> .r<| .it (.a1 (k6 u4 u5)<| .rg {fr:=[(3,22)],fz:=[22]} []<| .cl 3 (iK (⟨x1,u5,u3,u1⟩:ah) (⟨x2,v2,v3,v4,v5,v6,v7⟩:State) u4) fun r_=> .fk (bif r_ then(!(at' x3 (((at' u5 u4.toNat).bus).toNat)))else false) (.cy 18 (rkY [(2,20),(3,23)] (nA 2 u4 ((at' u5 u4.toNat).power) u6)) fun w0=> .a1 (Yu u5 x3 r_ u4)<| .rg {ov:=[(12,true,2)]} [3,0, .k 1]<| .f<| .r<| .en (.next (NY u4 w0)) [] [(23,20)])
  (.a1 (Yu u5 x3 r_ u4)<| .rg {ov:=[(12,false,1)],sk:=[13,14,15,16,17,18,19]} [2,0]<| .f<| .r<| .e (.next (NY u4 u6))))
  (.e (.done (.brk u6))))
  (fun u9=> .r<| .lp (σ:=((List Part) × Int)) (β:=(List Part)) (u9,0) [] [] ⟨[0,1,2,3,43,44],[0,2],fun(u7,u2)=>[(45,(vI u2))],fun(u7,u2)=>(aa4 u7)⟩ ⟨[0,1,3],[0,2],fun v0=>[],fun v0=>(aa4 v0)⟩
  (fun(u7,u2)=> .r<| .it (.a1 (k3 u3 u2)<| .rg {fr:=[(3,27)],fz:=[27]} []<| .cl 3 (fq (⟨x1,u5,u3,u1⟩:ah) (⟨x2,v2,v3,v4,v5,v6,v7⟩:State) u2) fun v1=> .fk (acp u3 x3 v1 u2) (.cy 23 (rkY [(2,20),(3,28)] (nA 3 u2 ((at' u3 u2.toNat).most) u7)) fun w1=> .a2 (YT u3 x3 v1 u2) (XQ u3 x3 v1 u2)<| .rg {ov:=[(17,true,3)]} [4,0,1, .k 2]<| .f<| .r<| .en (.next (NY u2 w1)) [] [(28,20)])
  (.a2 (YT u3 x3 v1 u2) (XQ u3 x3 v1 u2)<| .rg {ov:=[(17,false,2)],sk:=[18,19,20,21,22,23,24]} [3,0,1]<| .f<| .r<| .e (.next (NY u2 u7))))
  (.e (.done (.brk u7))))
  (fun v0=> .r<| .lp (σ:=((List Part) × Int)) (β:=(List Part)) (v0,0) [] [] ⟨[0,3,78,79],[0,2],fun(u8,u0)=>[(80,(vI u0))],fun(u8,u0)=>(aa4 u8)⟩ ⟨[],[0,2],fun o905=>[],fun o905=>[(1,some (.cells 132 [(.own 20 false o905.length)])),(20,some (bZ 112 2 Part.cell o905))]⟩
  (fun(u8,u0)=> .r<| .it (.a1 (k8 u0 u1)<| .rg {fr:=[(3,31)],fz:=[31]} []<| .cl 3 ⟨fun{v9} hr_4=>((Fn.leH (args:=(acC u1 x3 u0)) (args':=[(sD (.sl (some true) 1 [(k28 u1 u0).e0,(k28 u1 u0).e1].length (fun i j=>((U5 u1 u0).getD (0+(0+(i*1+j))) .nilp)))),(sD (.fn 122 1 (Q0 x3)))]) (hin:=[]) (hin':=[]) (kX [(k28 u1 u0).e0,(k28 u1 u0).e1] x3 hr_4) ⟨uI.one (gV.d (jL.sl (.inl rfl) (by intro i hi j hj;match i,j,hi,hj with|0,0,_,_=>exact .refl _|1,0,_,_=>exact .refl _))),uI.refl _,trivial⟩ trivial):Fn Tryz.prog 100 [(sD (.sl (some true) 1 [(k28 u1 u0).e0,(k28 u1 u0).e1].length (fun i j=>((U5 u1 u0).getD (0+(0+(i*1+j))) .nilp)))),(sD (.fn 122 1 (Q0 x3)))] [] (vB v9) [])⟩ fun v9=> .r<| .fk v9 (.cy 7 (rkY [(2,20),(3,32)] (nA 0 u0 (LX u1 u0) u8)) fun w2=> .rg {ov:=[(1,true,1)]} [.k 0]<| .f<| .r<| .en (.next (NY u0 w2)) [] [(32,20)])
  (.rg {ov:=[(1,false,0)],sk:=[2,3,4,5,6,7,8]} []<| .f<| .r<| .e (.next (NY u0 u8))))
  (.e (.done (.brk u8))))
  (fun o905=> .en o905 [] [(20,3)]))))
theorem zW (p:ah) (s_:State):fD Tryz.prog 60 (WQ p s_) [] (fun r=>(.iP [(sD (bM none 2 Part.cell r.1)),(sI r.2)])) (fun _=>[]) (kY p s_):=
  gI tT mX Tryz.func60 (
  .rg {fr:=[(0,12),(1,13)],fz:=[12,13]} []<| .cl 2 (BB [(0,14),(1,15),(2,16),(3,17),(4,18)] ⟨fun h=>qi p s_ h⟩) fun r_=> .rg {fr:=[(7,19)],fz:=[17]} []<| .r<| .it (.r<| .e (([]:List Part),r_.2.2))
  (.rg {fr:=[(0,20)]} []<| .im (.P5 20 0 21 112 2 (au Part.cell ([]:List Part)))<| .cl 3 (xh p s_ r_.2.1) fun u0=> .r<| .cl 0 (BB [(0,22),(1,20),(2,21),(3,23)] (Ce u0.1 u0.2.1 u0.2.2.1 u0.2.2.2.1 u0.2.2.2.2.1 u0.2.2.2.2.2.1 u0.2.2.2.2.2.2.1 u0.2.2.2.2.2.2.2.1 u0.2.2.2.2.2.2.2.2.1 u0.2.2.2.2.2.2.2.2.2.1 u0.2.2.2.2.2.2.2.2.2.2.1 u0.2.2.2.2.2.2.2.2.2.2.2 ([]:List Part))) fun u1=> .rf 22 [9] [] none 0 []<| .rg {fz:=[23]} []<| .e (u1,0)))
section
variable (x:aA) (t9:Int)
abbrev YE:List CV:=[(.d (bM none 1 (aG .i64) x.sources)),(.d (bM none 1 (aG .i64) x.links)),(.d (bM none 2 af.cell x.racks))]
abbrev agb:List SV:=[(.agg (YE x))]
abbrev EP:=((0:Int)≤t9∧t9<(x.racks.length:Int))
abbrev Ma:=((at' x.racks t9.toNat).e1)
end
theorem kS (x:aA):fD Tryz.prog 66 (agb x) [] (fun r=>(vI r)) (fun _=>[]) (gX x):=
  gI tT mX Tryz.func66 (
  .rg {fr:=[(0,5)]} []<| .r<| .r<| .lp (σ:=(Int × Int)) (β:=Int) (0,0) [] [] ⟨[7,8],[],fun(n,t9)=>[(3,(vI n)),(9,(vI t9))],fun(n,t9)=>[]⟩ ⟨[],[],fun n1=>[(3,(vI n1))],fun n1=>[]⟩
  (fun(n,t9)=> .r<| .it (.a1 (EP x t9)<| .rg {fr:=[(2,9)],fz:=[9]} []<| .rg {} [.pf ⟨(0:Int)≤0∧(0:Int)<(2:Nat),(by decide)⟩, .pf ⟨(0:Int)≤1∧(1:Int)<(2:Nat),(by decide)⟩]<| .r<| .e (.next ((IntKind.wrap .i64 (n+(IntKind.wrap .i64 (((at' x.racks t9.toNat).e0)+(Ma x t9))))),(k4 t9))))
  (.e (.done (.brk n))))
  (fun n1=> .r<| .e n1))
section
variable (u0:Int) (p:ah) (n:Int)
abbrev Ej:=((0:Int)≤u0∧u0<(p.racks.length:Int))
abbrev aa3:=((IntKind.wrap .i64 (n+((at' p.racks u0.toNat).power))),(k4 u0))
end
theorem Br (p:ah) (s_:State):fD Tryz.prog 61 (WQ p s_) [] (fun r=>(.iP [(sB r.1),(sI r.2)])) (fun _=>[]) (nT p s_):=
  gI tT mX Tryz.func61 (
  .rg {fr:=[(0,12),(1,13)],fz:=[13]} []<| .cl 2 (BB [(0,14),(1,15),(2,16),(3,17),(4,18)] ⟨fun h=>qi p s_ h⟩) fun r_=> .rg {fr:=[(7,19)],fz:=[14,15,16]} []<| .fz [19]<| .r<| .it (.r<| .e (false,r_.2.2))
  (.r<| .r<| .lp (σ:=(Int × Int)) (β:=Int) (0,0) [] [] ⟨[6,23,24],[],fun(n,u0)=>[(9,(vI n)),(25,(vI u0))],fun(n,u0)=>[]⟩ ⟨[6],[],fun n1=>[(9,(vI n1))],fun n1=>[]⟩
  (fun(n,u0)=> .r<| .it (.a1 (Ej u0 p)<| .rg {fr:=[(2,23)],fz:=[23]} []<| .r<| .r<| .e (.next (aa3 u0 p n)))
  (.e (.done (.brk n))))
  (fun n1=> .cl 1 (kS r_.1) fun u1=> .r<| .e ((decide (u1=n1)),0))))
theorem vG (a:(List Part)) (b:(List Part)):fD Tryz.prog 64 [(sD (bM none 2 Part.cell a)),(sD (bM none 2 Part.cell b))] [] (fun r=>(vB r)) (fun _=>[]) (lV a b):=
  gI tT mX Tryz.func64 (
  .r<| .r<| .it (.r<| .e false)
  (.r<| .lp (σ:=Int) (β:=Unit) (0) [] [] ⟨[0,1],[],fun i=>[(5,(vI i))],fun i=>[]⟩ ⟨[],[],fun _=>[],fun _=>[]⟩
  (fun i=> .r<| .it (.a2 ((0:Int)≤i∧i<(a.length:Int)) ((0:Int)≤i∧i<(b.length:Int))<| .rg {} [0,1]<| .it (.r<| .e (.done (.ret false)))
  (.r<| .e (.next (k4 i))))
  (.e (.done (.brk ()))))
  (fun _=> .r<| .e true)))
theorem qx (s_:(List Int)) (u0:Bool):fD Tryz.prog 127 [(sD (bM (some u0) 1 (aG .i64) s_))] [] (fun r=>(vO 0 false r.length)) (fun r=>[(0,some (bZ 3 1 (aG .i64) r))]) (qN s_ u0):=
  gI tT mX Tryz.func127 (
  .r<| .r<| .it (.r<| .im (.ad 2 2 3 1 (au (aG .i64) ([]:List Int)))<| .en ([]:List Int) [] [(2,0)])
  (.a2 ((([]:List Int).length+s_.length)*8≤140737488355328) (([]:List Int).length+s_.length≤4611686018427387904)<| .rg {an:=[(0, .arr ([]:List Int).length (au (aG .i64) ([]:List Int))),(2, .arr (([]:List Int)++s_).length (au (aG .i64) (([]:List Int)++s_)))],fr:=[(0,3),(2,4)]} [.pf ⟨([]:List Int).length=0,rfl⟩, .pf ⟨aC 0 1 (ou 1 []) (au (aG .i64) ([]:List Int)),(fun i hi=>absurd hi (Nat.not_lt_zero i))⟩, .e (([]:List Int).length),0,1, .pf ⟨(([]:List Int)++s_).length=([]:List Int).length+s_.length,List.length_append⟩, .pf ⟨aC (([]:List Int).length+s_.length) 1 (sV (au (aG .i64) ([]:List Int)) ([]:List Int).length (au (aG .i64) s_)) (au (aG .i64) (([]:List Int)++s_)),dw _ _ _ _⟩]<| .en (([]:List Int)++s_) [] [(4,0)]))
theorem wY (s:(List Int)) {r:(List Int)} (h:iT s=some r):Fn Tryz.prog 127 [(sD (bM none 1 (aG .i64) s))] [] (vO 0 false r.length) [(0,some (bZ 3 1 (aG .i64) r))]:=by
 refine Fn.nn (qx s true h) fun hl=> ?_
 have hs:s=[]:=List.eq_nil_of_length_eq_zero hl
 subst hs
 exact qx [] false (by rw [←h];kernel_rfl)
theorem Bw (x:Int):fD Tryz.prog 153 [(sI x)] [] (fun r=>(vB r)) (fun _=>[]) (xA x):=
  gI tT mX Tryz.func153 (
  .r<| .r<| .e (!decide (x=x)))
theorem FL (x:Int) (y:Int):fD Tryz.prog 145 [(sI x),(sI y)] [] (fun r=>(vI r)) (fun _=>[]) (tX x y):=
  gI tT mX Tryz.func145 (
  .r<| .cl 1 (Bw x) fun r_=> .r<| .cl 1 (Bw y) fun u0=> .r<| .r<| .it (.r<| .it (.r<| .e 0)
  (.r<| .e (-1)))
  (.r<| .it (.r<| .e 1)
  (.r<| .it (.r<| .e (-1))
  (.r<| .it (.r<| .e 1)
  (.r<| .e 0)))))
theorem BQ (s1:(List Int)) (s2:(List Int)):fD Tryz.prog 126 [(sD (yV s1)),(sD (yV s2))] [] (fun r=>(vI r)) (fun _=>[]) (sP s1 s2):=
  gI tT mX Tryz.func126 (
  .r<| .r<| .lp (σ:=Int) (β:=Unit) (0) [] [] ⟨[0,1,9,10],[],fun u0=>[(11,(vI u0))],fun u0=>[]⟩ ⟨[0,1],[],fun _=>[],fun _=>[]⟩
  (fun u0=> .r<| .it (.a1 (Nz s1 u0)<| .r<| .r<| .it (.r<| .e (.done (.ret 1)))
  (.a1 (Nz s2 u0)<| .r<| .cl 2 (FL (at' s1 u0.toNat) (at' s2 u0.toNat)) fun r_=> .r<| .r<| .it (.r<| .e (.done (.ret r_)))
  (.r<| .e (.next (k4 u0)))))
  (.e (.done (.brk ()))))
  (fun _=> .r<| .it (.r<| .e (-1))
  (.r<| .e 0)))
theorem OG (u0:(List Int)):fD Tryz.prog 125 [(sD (yV u0))] [] (fun r=>(vI r)) (fun _=>[]) (EK u0):=
  gI tT mX Tryz.func125 (
  .r<| .r<| .r<| .lp (σ:=Int) (β:=Unit) (0) [] [] ⟨[3,6,7],[],fun t8=>[(8,(vI t8))],fun t8=>[]⟩ ⟨[3],[],fun _=>[],fun _=>[]⟩
  (fun t8=> .r<| .it (.a1 (Nz u0 t8)<| .r<| .r<| .it (.r<| .e (.done (.ret (at' u0 t8.toNat))))
  (.r<| .e (.next (k4 t8))))
  (.e (.done (.brk ()))))
  (fun _=> .r<| .e 0))
section
variable (a:Way) (b:Way) (r_:Int)
abbrev Kc:=(IntKind.wrap .i64 (a.bJ - b.bJ))
abbrev J5:=(IntKind.wrap .i64 ((a.links.length:Int) - (b.links.length:Int)))
abbrev adb:List (Nat × Option Ob):=[(5,some (bZ 3 1 (aG .i64) [(Kc a b),(J5 a b),r_]))]
abbrev acn:=(au (aG .i64) [(Kc a b),(J5 a b),r_])
end
theorem FO (a:Way) (b:Way):fD Tryz.prog 124 [(.agg [(cB a.there),(cI a.bJ),(.d (bM none 1 (aG .i64) a.links))]),(.agg [(cB b.there),(cI b.bJ),(.d (bM none 1 (aG .i64) b.links))])] [] (fun r=>(vB r)) (fun _=>[]) (ku a b):=
  gI tT mX Tryz.func124 (
  .rg {fr:=[(0,3),(1,4)],fz:=[3,4]} []<| .fk (!b.there) (.rg {ov:=[(3,true,0)],sk:=[4,5,6,7,8,9,10,11,12,13,14,15,16,17,18,19,20,21,22,23]} []<| .e true)
  (.cl 20 (BQ a.links b.links) fun r_=> .cr 22 ⟨fun{u0} hr_1=>((Fn.Ep (frz:=[5]) (p:=[[(Kc a b),(J5 a b),r_].length=[(Kc a b),(J5 a b),r_].length]) (Fn.le (args':=[(sD (bM (some true) 1 (aG .i64) [(Kc a b),(J5 a b),r_]))]) (OG [(Kc a b),(J5 a b),r_] hr_1) (by exact⟨uI.one (gV.d jL.rX),trivial⟩)) (by kernel_rfl) ⟨rfl,trivial⟩ rfl):Fn Tryz.prog 125 [(.one (.own 5 true ([(Kc a b),(J5 a b),r_].length)))] (adb a b r_) (vI u0) (adb a b r_))⟩ fun u0=> .rg {an:=[(21, .arr [(Kc a b),(J5 a b),r_].length (acn a b r_))],fr:=[(21,5)],ov:=[(3,false,2)]} [.k 1, .pf ⟨[(Kc a b),(J5 a b),r_].length=3,rfl⟩, .pf ⟨aC 3 1 (ou 1 [(.int .i64 (Kc a b)),(.int .i64 (J5 a b)),(.int .i64 r_)]) (acn a b r_),(by intro i hi j hj;match i,j,hi,hj with|0,0,_,_=>rfl|1,0,_,_=>rfl|2,0,_,_=>rfl)⟩, .k 0]<| .e (decide (u0<0))))
section
variable (p:ah) (u3:Int) (u6:(List Way)) (u0:Int) (u1:Int) (u2:(List Way)) (u4:(List Int))
abbrev Tc:=((p.buses:Int)≤9223372036854775807)
abbrev GL:=(List.replicate p.buses.toNat ((⟨false,0,([]:List Int)⟩:Way):Way))
abbrev af2:=(au Way.cell (GL p))
abbrev abT:=((GL p).set u3.toNat (⟨true,(at' (GL p) u3.toNat).bJ,(at' (GL p) u3.toNat).links⟩:Way))
abbrev aco:=(au Way.cell (abT p u3))
abbrev Sn:List (Nat × Option Ob):=[(405,some (bZ 182 3 Way.cell u6))]
abbrev aaw:=(⟨(at' p.links u0.toNat).a,(at' p.links u0.toNat).b⟩:af)
abbrev aaT:=(⟨(at' p.links u0.toNat).b,(at' p.links u0.toNat).a⟩:af)
abbrev Ux:=(at' [(aaw p u0),(aaT p u0)] u1.toNat)
abbrev aaP:=((Ux p u0 u1).e0)
abbrev Y8:=((Ux p u0 u1).e1)
abbrev afe:List DV:=[(.int .i64 (aaP p u0 u1)),(.int .i64 (Y8 p u0 u1))]
abbrev adx:List CV:=[(cI (VE u0 p)),(cI (Xm u0 p)),(cI (Xm u0 p)),(cI (VE u0 p))]
abbrev adU:=(at' u2 ((aaP p u0 u1).toNat))
abbrev af3:=(IntKind.wrap .i64 (((adU p u0 u1 u2).bJ)+((at' p.links u0.toNat).bJ)))
abbrev afE:=(⟨true,(af3 p u0 u1 u2),(u4++[u0])⟩:Way)
abbrev abx:=((Y8 p u0 u1).toNat)
abbrev adZ:=((0:Int)≤(Ux p u0 u1).e1∧(Ux p u0 u1).e1<(u2.length:Int))
abbrev aaJ:=(u2.set (abx p u0 u1) (afE p u0 u1 u2 u4))
abbrev aek:=(au Way.cell (aaJ p u0 u1 u2 u4))
end
theorem EW (p:ah) (s_:State) (u3:Int):fD Tryz.prog 99 (k39 p s_ u3) [] (fun r=>(vO 0 true r.length)) (fun r=>[(0,some (bZ 182 3 Way.cell r))]) (qz p s_ u3):=
  gI tT mX Tryz.func99 (
  .rg {fr:=[(0,403),(1,404)],fz:=[404]} []<| .r<| .a3 ((0:Int)≤p.buses) ((40:Int)*p.buses≤281474976710656) (Tc p)<| .rg {an:=[(2, .arr (GL p).length (fun _ j=>[(.bool false),(.int .i64 0),nS].getD j .nilp))],fr:=[(2,405)]} [0, .e ((p.buses:Int)),1,2, .pf ⟨(GL p).length=p.buses.toNat,List.length_replicate⟩, .pf ⟨aC p.buses.toNat 3 (fun _ j=>[(.bool false),(.int .i64 0),nS].getD j .nilp) (fun _ j=>[(.bool false),(.int .i64 0),nS].getD j .nilp),fI _ _ _⟩]<| .im (.uh 405 (some (.arr 182 3 (GL p).length (fun _ j=>[(.bool false),(.int .i64 0),nS].getD j .nilp))) (some (.arr 182 3 (GL p).length (af2 p))) (Hu (afA _ _ _ _ _ (fun j hj=>match j,hj with|0,_=> .refl _|1,_=> .refl _|2,_=>jL.nil'))))<| .a1 ((0:Int)≤u3∧u3<((GL p).length:Int))<| .rg {an:=[(4, .arr 0 (aco p u3))]} [0, .t 0 u3 ((GL p).length), .pf ⟨aC (GL p).length 3 (fe (af2 p) u3.toNat 0 [(.bool true)]) (aco p u3),aK _ _ _ _ _ _ _ _ rfl (fun j hj=>(match j,hj with|0,_=>rfl|1,_=>rfl|2,_=>rfl))⟩]<| .im (.ll 405 (GL p) (abT p u3))<| .r<| .lp (σ:=((List Way) × Bool)) (β:=(List Way)) ((abT p u3),true) [] [] ⟨[3,4,7],[403],fun(u6,v4)=>[(8,(vO 405 true u6.length)),(9,(vB v4))],fun(u6,v4)=>(Sn u6)⟩ ⟨[],[],fun u9=>[(8,(vO 405 true u9.length))],fun u9=>(Sn u9)⟩
  (fun(u6,v4)=> .r<| .it (.r<| .r<| .lp (σ:=((List Way) × Bool × Int)) (β:=((List Way) × Bool)) (u6,false,0) [] [] ⟨[3,4,7,26,27],[403],fun(u5,u7,u0)=>[(8,(vO 405 true u5.length)),(9,(vB u7)),(28,(vI u0))],fun(u5,u7,u0)=>(Sn u5)⟩ ⟨[3,4,7],[403],fun(v0,v2)=>[(8,(vO 405 true v0.length)),(9,(vB v2))],fun(v0,v2)=>(Sn v0)⟩
  (fun(u5,u7,u0)=> .r<| .it (.a1 (Qv p u0)<| .rg {fr:=[(3,781)],fz:=[781]} []<| .cl 3 (fq p s_ u0) fun r_=> .r<| .it (.r<| .e (.next (u5,u7,(k4 u0))))
  (.r<| .lp (σ:=((List Way) × Bool × Int)) (β:=((List Way) × Bool)) (u5,u7,0) [] [] ⟨[3,4,7,10,11,26,27,28,48],[403],fun(u2,u8,u1)=>[(8,(vO 405 true u2.length)),(9,(vB u8)),(49,(vI u1))],fun(u2,u8,u1)=>(Sn u2)⟩ ⟨[3,4,7,26,27,28],[403],fun(v1,v3)=>[(8,(vO 405 true v1.length)),(9,(vB v3))],fun(v1,v3)=>(Sn v1)⟩
  (fun(u2,u8,u1)=> .r<| .it (.a1 ((0:Int)≤u1∧u1<((2:Nat):Int))<| .rg {an:=[(0, .vals (afe p u0 u1))],fr:=[(1,800)]} [0, .dv 0 ⟨(0:Int)≤u1∧u1<((2:Nat):Int),u1.toNat*2+2≤(adx p u0).length,fun ax=>Tx (n:=2) (sz:=2) (Nat.le_refl _) ax⟩, .dv 0 ⟨(0:Int)≤u1∧u1<((2:Nat):Int),((adx p u0).drop (u1.toNat*2)).take 2=(afe p u0 u1).map .d,fun ax=>Sj (n:=2) (sz:=2) (g:=fun q=>[(cI ((at' [(aaw p u0),(aaT p u0)] q).e0)),(cI ((at' [(aaw p u0),(aaT p u0)] q).e1))]) (by intro q hq;match q,hq with|0,_=>rfl|1,_=>rfl) ax⟩]<| .a1 ((0:Int)≤(Ux p u0 u1).e0∧(Ux p u0 u1).e0<(u2.length:Int))<| .rg {fr:=[(7,801)],fz:=[801]} [.pf ⟨(0:Int)≤0∧(0:Int)<(2:Nat),(by decide)⟩,0, .t 0 (aaP p u0 u1) u2.length, .pf ⟨(0:Int)≤1∧(1:Int)<(2:Nat),(by decide)⟩]<| .r<| .it (.r<| .e (.next (u2,u8,(k4 u1))))
  (.cl 7 (BB [(0,802)] ⟨fun h=>wY ((adU p u0 u1 u2).links) h⟩) fun u4=> .a2 ((u4.length+[u0].length)*8≤140737488355328) (u4.length+[u0].length≤4611686018427387904)<| .rg {an:=[(9, .arr [u0].length (au (aG .i64) [u0])),(10, .arr (u4++[u0]).length (au (aG .i64) (u4++[u0])))],fr:=[(9,803),(10,804),(12,805)],fz:=[804]} [2, .pf ⟨[u0].length=1,rfl⟩, .pf ⟨aC 1 1 (ou 1 [(.int .i64 u0)]) (au (aG .i64) [u0]),(by intro i hi j hj;match i,j,hi,hj with|0,0,_,_=>rfl)⟩, .e (u4.length),0,1, .pf ⟨(u4++[u0]).length=u4.length+[u0].length,List.length_append⟩, .pf ⟨aC (u4.length+[u0].length) 1 (sV (au (aG .i64) u4) u4.length (au (aG .i64) [u0])) (au (aG .i64) (u4++[u0])),dw _ _ _ _⟩]<| .fz [805]<| .cl 6 (FO (afE p u0 u1 u2 u4) (at' u2 (abx p u0 u1))) fun v5=> .a1 (adZ p u0 u1 u2)<| .rg {} [0, .t 0 (Y8 p u0 u1) u2.length,1]<| .it (.a1 (adZ p u0 u1 u2)<| .rg {an:=[(4, .arr 0 (aek p u0 u1 u2 u4))]} [0, .t 0 (Y8 p u0 u1) u2.length, .pf ⟨aC u2.length 3 (fe (au Way.cell u2) (abx p u0 u1) 0 [(.bool true),(.int .i64 (af3 p u0 u1 u2)),(bM none 1 (aG .i64) (u4++[u0]))]) (aek p u0 u1 u2 u4),aK _ _ _ _ _ _ _ _ rfl (fun j hj=>(match j,hj with|0,_=>rfl|1,_=>rfl|2,_=>rfl))⟩]<| .im (.ll 405 u2 (aaJ p u0 u1 u2 u4))<| .r<| .r<| .e (.next ((aaJ p u0 u1 u2 u4),true,(k4 u1))))
  (.r<| .e (.next (u2,u8,(k4 u1))))))
  (.e (.done (.brk (u2,u8)))))
  (fun(v1,v3)=> .r<| .e (.next (v1,v3,(k4 u0))))))
  (.e (.done (.brk (u5,u7)))))
  (fun(v0,v2)=> .e (.next (v0,v2))))
  (.e (.done (.brk u6))))
  (fun u9=> .r<| .en u9 [] [(405,0)]))
section
variable (u0:Int) (p:ah) (u2:(List Way)) (u1:Int) (u3:(List Short))
abbrev O3:=((0:Int)≤u0∧u0<(p.sources.length:Int))
abbrev U9:=(IntKind.wrap .i64 (((at' p.sources u0.toNat).bJ)+((at' u2 u1.toNat).bJ)))
abbrev aeI:=(IntKind.wrap .i64 (Int.tdiv (IntKind.wrap .i64 ((IntKind.wrap .i64 ((400000:Int)+(U9 u0 p u2 u1))) - 1)) (U9 u0 p u2 u1)))
abbrev Qp:=(⟨u0,(U9 u0 p u2 u1),(aeI u0 p u2 u1),(at' u2 u1.toNat).links⟩:Short)
abbrev afI:=(u3.length+[(Qp u0 p u2 u1)].length)
abbrev abk:=(au Short.cell [(Qp u0 p u2 u1)])
abbrev XB:=(u3++[(Qp u0 p u2 u1)])
abbrev adf:=(au Short.cell (XB u0 p u2 u1 u3))
end
theorem yA (p:ah) (s_:State) (u1:Int):fD Tryz.prog 68 (k39 p s_ u1) [] (fun r=>(.iP [(sD (bM none 4 Short.cell r.1)),(sI r.2)])) (fun _=>[]) (jg p s_ u1):=
  gI tT mX Tryz.func68 (
  .rg {fr:=[(0,22),(1,23)],fz:=[23]} []<| .cl 2 (eT p s_) fun r_=> .r<| .r<| .it (.r<| .e (([]:List Short),r_))
  (.r<| .it (.r<| .e (([]:List Short),1))
  (.r<| .rg {fz:=[22]} []<| .im (.ad 9 44 142 4 (au Short.cell ([]:List Short)))<| .lp (σ:=((List Short) × Int)) (β:=(List Short)) (([]:List Short),0) [] [(44,28)] ⟨[2,3,4,29,30],[],fun(u3,u0)=>[(9,(vO 28 false u3.length)),(31,(vI u0))],fun(u3,u0)=>[(28,some (bZ 142 4 Short.cell u3))]⟩ ⟨[],[],fun u4=>[(9,(vO 28 false u4.length))],fun u4=>[(28,some (bZ 142 4 Short.cell u4))]⟩
  (fun(u3,u0)=> .r<| .it (.a1 (O3 u0 p)<| .rg {fr:=[(3,39)],fz:=[39]} []<| .cg 9 [((at' s_.badBus u1.toNat),false)] (iK p s_ u0) fun u5=> .a1 ((0:Int)≤u1∧u1<(s_.badBus.length:Int))<| .rg {} [0,1]<| .it (.r<| .e (.next (u3,(k4 u0))))
  (.cl 4 (BB [(0,40)] (EW p s_ (UH p u0))) fun u2=> .a1 ((0:Int)≤u1∧u1<(u2.length:Int))<| .rg {fr:=[(8,41)],fz:=[41]} [1,0, .t 0 u1 u2.length]<| .r<| .it (.r<| .a3 ((U9 u0 p u2 u1)≠(0:Int)) ((afI u0 p u2 u1 u3)*48≤140737488355328) (u3.length+[(Qp u0 p u2 u1)].length≤4611686018427387904)<| .rg {an:=[(11, .arr [(Qp u0 p u2 u1)].length (abk u0 p u2 u1)),(12, .arr (XB u0 p u2 u1 u3).length (adf u0 p u2 u1 u3))],fr:=[(11,42),(12,43)]} [0, .pf ⟨[(Qp u0 p u2 u1)].length=1,rfl⟩, .pf ⟨aC 1 4 (ou 4 [(.int .i64 u0),(.int .i64 (U9 u0 p u2 u1)),(.int .i64 (aeI u0 p u2 u1)),(bM none 1 (aG .i64) ((at' u2 u1.toNat).links))]) (abk u0 p u2 u1),(by intro i hi j hj;match i,j,hi,hj with|0,0,_,_=>rfl|0,1,_,_=>rfl|0,2,_,_=>rfl|0,3,_,_=>rfl)⟩, .e (u3.length),1,2, .pf ⟨(XB u0 p u2 u1 u3).length=u3.length+[(Qp u0 p u2 u1)].length,List.length_append⟩, .pf ⟨aC (afI u0 p u2 u1 u3) 4 (sV (au Short.cell u3) u3.length (abk u0 p u2 u1)) (adf u0 p u2 u1 u3),dw _ _ _ _⟩]<| .r<| .en (.next ((XB u0 p u2 u1 u3),(k4 u0))) [] [(43,28)])
  (.r<| .e (.next (u3,(k4 u0))))))
  (.e (.done (.brk u3))))
  (fun u4=> .rg {fz:=[28]} []<| .e (u4,0)))))
section
variable (a:(List Short)) (i:Int) (b:(List Short))
abbrev aeU:=(bif (!decide (((at' a i.toNat).source)=((at' b i.toNat).source)))then true else(!decide (((at' a i.toNat).bJ)=((at' b i.toNat).bJ))))
abbrev abL:=((bif (aeU a i b)then true else(!decide (((at' a i.toNat).amps)=((at' b i.toNat).amps)))),false)
abbrev aeo:=(gB [((!decide (((at' a i.toNat).source)=((at' b i.toNat).source))),false)]=true→(0:Int)≤i∧i<(a.length:Int))
abbrev adT:=(gB [((!decide (((at' a i.toNat).source)=((at' b i.toNat).source))),false)]=true→(0:Int)≤i∧i<(b.length:Int))
abbrev adv:=((aeU a i b),false)
abbrev aeu:=(gB [(adv a i b)]=true→(0:Int)≤i∧i<(a.length:Int))
abbrev agj:=(gB [(adv a i b)]=true→(0:Int)≤i∧i<(b.length:Int))
abbrev ac2:=(gB [(abL a i b)]=true→(0:Int)≤i∧i<(a.length:Int))
abbrev aeO:=(gB [(abL a i b)]=true→(0:Int)≤i∧i<(b.length:Int))
abbrev M8:=((0:Int)≤i∧i<(a.length:Int))
end
theorem sN (a:(List Short)) (b:(List Short)):fD Tryz.prog 69 [(sD (bM none 4 Short.cell a)),(sD (bM none 4 Short.cell b))] [] (fun r=>(vB r)) (fun _=>[]) (jD a b):=
  gI tT mX Tryz.func69 (
  .r<| .r<| .it (.r<| .e false)
  (.r<| .lp (σ:=Int) (β:=Unit) (0) [] [] ⟨[0,1],[],fun i=>[(5,(vI i))],fun i=>[]⟩ ⟨[],[],fun _=>[],fun _=>[]⟩
  (fun i=> .r<| .it (.cg 48 [(abL a i b)] (rq ((at' a i.toNat).links) ((at' b i.toNat).links)) fun r_=> .as _ inferInstance [(0:Int)≤i∧i<(a.length:Int),(0:Int)≤i∧i<(b.length:Int),(aeo a i b),(adT a i b),(aeu a i b),(agj a i b),(ac2 a i b),(aeO a i b)] (fun h=> ⟨h.1,h.2.1,h.2.2.1,h.2.2.2.1,h.2.2.2.2.1,h.2.2.2.2.2.1,h.2.2.2.2.2.2.1,h.2.2.2.2.2.2.2,trivial⟩:((M8 a i)∧(M8 b i)∧(aeo a i b)∧(adT a i b)∧(aeu a i b)∧(agj a i b)∧(ac2 a i b)∧(aeO a i b))→_)<| .rg {} [0,1,2,3,4,5,6,7,8]<| .it (.r<| .e (.done (.ret false)))
  (.r<| .e (.next (k4 i))))
  (.e (.done (.brk ()))))
  (fun _=> .r<| .e true)))
theorem EM (s_:(List Int)) (v_:Int):fD Tryz.prog 129 [(sD (yV s_)),(sI v_)] [] (fun r=>(vI r)) (fun _=>[]) (wL s_ v_):=
  gI tT mX Tryz.func129 (
  .r<| .r<| .lp (σ:=Int) (β:=Unit) (0) [] [] ⟨[0,1,7],[],fun t8=>[(8,(vI t8))],fun t8=>[]⟩ ⟨[],[],fun _=>[],fun _=>[]⟩
  (fun t8=> .r<| .it (.r<| .a1 (Nz s_ t8)<| .r<| .it (.r<| .e (.done (.ret t8)))
  (.r<| .e (.next (k4 t8))))
  (.e (.done (.brk ()))))
  (fun _=> .r<| .e (-1)))
theorem AA (s_:(List Int)) (v_:Int):fD Tryz.prog 102 [(sD (yV s_)),(sI v_)] [] (fun r=>(vB r)) (fun _=>[]) (mQ s_ v_):=
  gI tT mX Tryz.func102 (
  .r<| .cl 2 (EM s_ v_) fun r_=> .r<| .e (decide (0≤r_)))
section
variable (o_:(List Int))
abbrev SF:List (Nat × Option Ob):=[(0,some (.cells 35 [(.own 1 true o_.length)])),(1,some (Fw o_))]
end
theorem BO (i:Int) (o_:(List Int)):fD Tryz.prog 101 [(sI i),(.one (.ptr 0 0))] (SF o_) (fun r=>(vB r)) (fun r=>(SF o_)) (tH i o_):=
  gI tT mX Tryz.func101 (
  .r<| .r<| .e (bif (decide (i<0))then true else(decide ((o_.length:Int)≤i))))
theorem xI (s_:(List Int)) (o_:(List Int)):fD Tryz.prog 128 [(sD (yV s_)),(.one (.fn 101 0 1 (Mv [(.ptr 0 0)])))] (SF o_) (fun r=>(vI r)) (fun r=>(SF o_)) (mr s_ o_):=
  gI tT mX Tryz.func128 (
  .r<| .r<| .lp (σ:=Int) (β:=Unit) (0) [] [] ⟨[0,1,7],[0,1],fun t8=>[(8,(vI t8))],fun t8=>[]⟩ ⟨[],[0,1],fun _=>[],fun _=>[]⟩
  (fun t8=> .r<| .it (.r<| .cr 5 (BO (at' s_ t8.toNat) o_) fun r_=> .a1 (Nz s_ t8)<| .rg {} [0,1]<| .it (.r<| .e (.done (.ret t8)))
  (.r<| .e (.next (k4 t8))))
  (.e (.done (.brk ()))))
  (fun _=> .r<| .e (-1)))
theorem wS (s_:(List Int)) (o_:(List Int)):fD Tryz.prog 100 [(sD (yV s_)),(.one (.fn 101 0 1 (Mv [(.ptr 0 0)])))] (SF o_) (fun r=>(vB r)) (fun r=>(SF o_)) (iH s_ o_):=
  gI tT mX Tryz.func100 (
  .r<| .cr 2 (xI s_ o_) fun r_=> .r<| .e (decide (0≤r_)))
section
variable (p:ah) (l:(List Short)) (u3:(List Int)) (u0:(List Int)) (u1:Int) (u2:Int)
abbrev aeG:List SV:=[(.agg (k9 p)),(sD (bM none 4 Short.cell l))]
abbrev YZ:=((Sk p)≤9223372036854775807)
abbrev SH:=((Sk p))
abbrev YA:List (Nat × Option Ob):=[(8,some (Fw u3)),(9,some (.cells 35 [(.own 8 true u3.length)]))]
abbrev YD:=(u0.set u1.toNat (IntKind.wrap .i64 ((at' u0 u1.toNat)+((at' l u2.toNat).amps))))
abbrev YB:=(au (aG .i64) (YD l u0 u1 u2))
abbrev afO:=(fe (au (aG .i64) u0) u1.toNat 0 [(.int .i64 (IntKind.wrap .i64 ((at' u0 u1.toNat)+((at' l u2.toNat).amps))))])
abbrev adF:=((YD l u0 u1 u2),(k4 u1))
abbrev SY:=(u0,(k4 u1))
end
theorem rD (p:ah) (l:(List Short)):fD Tryz.prog 70 (aeG p l) [] (fun r=>(.iP [(sD (bM (some r.2.1) 1 (aG .i64) r.1)),(sI r.2.2)])) (fun _=>[]) (kM p l):=
  gI tT mX Tryz.func70 (
  .rg {fr:=[(0,7)],fz:=[7]} []<| .cl 1 (yK p) fun r_=> .r<| .r<| .it (.r<| .e (([]:List Int),false,r_))
  (.r<| .it (.r<| .e (([]:List Int),false,1))
  (.a3 ((0:Int)≤(p.links.length:Int)) ((8:Int)*(p.links.length:Int)≤281474976710656) (YZ p)<| .rg {an:=[(3, .arr (CY p).length (J9 p))],fr:=[(3,8),(4,9)]} [0, .e (SH p),1,2, .pf ⟨(CY p).length=(yP p),List.length_replicate⟩, .pf ⟨aC (yP p) 1 (fun _ j=>[(.int .i64 0)].getD j .nilp) (J9 p),aW _ _ _ _ _ (fun j hj=>(match j,hj with|0,_=>rfl))⟩]<| .r<| .lp (σ:=((List Int) × Int)) (β:=(List Int)) ((CY p),0) [] [] ⟨[7,23,24],[],fun(u3,u2)=>[(25,(vI u2))],fun(u3,u2)=>(YA u3)⟩ ⟨[7],[],fun u4=>[],fun u4=>(YA u4)⟩
  (fun(u3,u2)=> .r<| .it (.a1 (M8 l u2)<| .rg {fr:=[(2,13)],fz:=[13]} []<| .cgr 12 [((bif (decide (((at' l u2.toNat).amps)<0))then true else(decide (1000000<((at' l u2.toNat).amps)))),false)] (BB [(0,9),(1,8)] (wS ((at' l u2.toNat).links) u3)) fun u6=> .r<| .it (.r<| .e (.done (.ret (([]:List Int),false,1))))
  (.r<| .lp (σ:=((List Int) × Int)) (β:=(List Int)) (u3,0) [] [] ⟨[7,9,23,24,25,44],[],fun(u0,u1)=>[(45,(vI u1))],fun(u0,u1)=>(YA u0)⟩ ⟨[7,23,24,25],[],fun u5=>[],fun u5=>(YA u5)⟩
  (fun(u0,u1)=> .r<| .it (.r<| .cl 3 (AA ((at' l u2.toNat).links) u1) fun u7=> .r<| .it (.a1 (Nz u0 u1)<| .rg {an:=[(8, .arr 0 (YB l u0 u1 u2))]} [0, .t 0 u1 u0.length,0, .t 0 u1 u0.length, .pf ⟨aC u0.length 1 (afO l u0 u1 u2) (YB l u0 u1 u2),aK _ _ _ _ _ _ _ _ rfl (fun j hj=>(match j,hj with|0,_=>rfl))⟩]<| .im (.ll 8 u0 (YD l u0 u1 u2))<| .r<| .e (.next (adF l u0 u1 u2)))
  (.r<| .e (.next (SY u0 u1))))
  (.e (.done (.brk u0))))
  (fun u5=> .r<| .e (.next (SY u5 u2)))))
  (.e (.done (.brk u3))))
  (fun u4=> .rg {fz:=[8]} []<| .e (u4,true,0)))))
noncomputable def vS:iG:=⟨[45,46],NM ([1,1,1,1,1,0,1,0]++[0]) (sW Tryz.f79),NM ([1,1,1,1,1,0,1,0]++[1]) (sW Tryz.f79),51,[]⟩
abbrev X5:Nat × Option Ob:=(0,some (.loop vS 0 [(11,(vP 1 0))]))
theorem kT (u2:Int) (u3:Int) (u0:Int) (u1:Int):X8 Tryz.prog 0 [(.agg [(cI u2),(cI u3)]),(sI u0)] [X5,(1,some (.cells 3 [(cI u1)]))] (fun _=>vB true) (fun r=>[X5,(1,some (.cells 3 [(cI r)]))]) (dX u2 u3 u0 u1):=
  scY tT mX vS ⟨[11],[0,1],fun _=>[(13,(vI u0))],fun _=>[]⟩ (.r<| .e ())
  (.r<| .e (IntKind.wrap .i64 (u1+u0)))
section
variable (u6:Int) (w0:Int) (u4:Int)
abbrev VT:List (Nat × Option Ob):=[(1,some (.cells 3 [(cI u6)]))]
abbrev Gz:=(w0,(k4 u4))
end
theorem zf (x1:Int) (u5:(List Source)) (u3:(List Link)) (u1:(List aD)) (x2:(List Bool)) (v0:(List Bool)) (v1:(List Bool)) (v2:(List Bool)) (v3:(List Bool)) (v4:(List Bool)) (v5:(List Bool)) (x3:(List Bool)) (v8:Int):fD Tryz.prog 121 (acI x1 u5 u3 u1 x2 v0 v1 v2 v3 v4 v5 x3) [X5,(1,some (.cells 3 [(cI v8)]))] (fun r=>(.iP [])) (fun r=>[X5,(1,some (.cells 3 [(cI r)]))]) (kG x1 u5 u3 u1 x2 v0 v1 v2 v3 v4 v5 x3 v8):=
  gI tT mX Tryz.func121 (
  .r<| .lp (σ:=(Int × Int)) (β:=Int) (v8,0) [] [] ⟨[0,1,2,3,13,14],[0],fun(u6,u4)=>[(15,(vI u4))],fun(u6,u4)=>(VT u6)⟩ ⟨[0,1,2,3],[0],fun v6=>[],fun v6=>(VT v6)⟩
  (fun(u6,u4)=> .r<| .it (.a1 (k6 u4 u5)<| .rg {fr:=[(3,17)],fz:=[17]} []<| .cl 3 (iK (⟨x1,u5,u3,u1⟩:ah) (⟨x2,v0,v1,v2,v3,v4,v5⟩:State) u4) fun r_=> .fk (bif r_ then(!(at' x3 (((at' u5 u4.toNat).bus).toNat)))else false) (.cy 18 (kT 2 u4 ((at' u5 u4.toNat).power) u6) fun w0=> .a1 (Yu u5 x3 r_ u4)<| .rg {ov:=[(12,true,2)]} [3,0, .k 1]<| .f<| .r<| .e (.next (Gz w0 u4)))
  (.a1 (Yu u5 x3 r_ u4)<| .rg {ov:=[(12,false,1)],sk:=[13,14,15,16,17,18,19]} [2,0]<| .f<| .r<| .e (.next (Gz u6 u4))))
  (.e (.done (.brk u6))))
  (fun v6=> .r<| .lp (σ:=(Int × Int)) (β:=Int) (v6,0) [] [] ⟨[0,1,2,3,43,44],[0],fun(u7,u2)=>[(45,(vI u2))],fun(u7,u2)=>(VT u7)⟩ ⟨[0,1,3],[0],fun v7=>[],fun v7=>(VT v7)⟩
  (fun(u7,u2)=> .r<| .it (.a1 (k3 u3 u2)<| .rg {fr:=[(3,21)],fz:=[21]} []<| .cl 3 (fq (⟨x1,u5,u3,u1⟩:ah) (⟨x2,v0,v1,v2,v3,v4,v5⟩:State) u2) fun u9=> .fk (acp u3 x3 u9 u2) (.cy 23 (kT 3 u2 ((at' u3 u2.toNat).most) u7) fun w1=> .a2 (YT u3 x3 u9 u2) (XQ u3 x3 u9 u2)<| .rg {ov:=[(17,true,3)]} [4,0,1, .k 2]<| .f<| .r<| .e (.next (Gz w1 u2)))
  (.a2 (YT u3 x3 u9 u2) (XQ u3 x3 u9 u2)<| .rg {ov:=[(17,false,2)],sk:=[18,19,20,21,22,23,24]} [3,0,1]<| .f<| .r<| .e (.next (Gz u7 u2))))
  (.e (.done (.brk u7))))
  (fun v7=> .r<| .lp (σ:=(Int × Int)) (β:=Int) (v7,0) [] [] ⟨[0,3,78,79],[0],fun(u8,u0)=>[(80,(vI u0))],fun(u8,u0)=>(VT u8)⟩ ⟨[],[0],fun o1105=>[],fun o1105=>[(1,some (.cells 3 [(cI o1105)]))]⟩
  (fun(u8,u0)=> .r<| .it (.a1 (k8 u0 u1)<| .rg {fr:=[(3,25)],fz:=[25]} []<| .cl 3 ⟨fun{v9} hr_4=>((Fn.leH (args:=(acC u1 x3 u0)) (args':=[(sD (.sl (some true) 1 [(k28 u1 u0).e0,(k28 u1 u0).e1].length (fun i j=>((U5 u1 u0).getD (0+(0+(i*1+j))) .nilp)))),(sD (.fn 122 1 (Q0 x3)))]) (hin:=[]) (hin':=[]) (kX [(k28 u1 u0).e0,(k28 u1 u0).e1] x3 hr_4) ⟨uI.one (gV.d (jL.sl (.inl rfl) (by intro i hi j hj;match i,j,hi,hj with|0,0,_,_=>exact .refl _|1,0,_,_=>exact .refl _))),uI.refl _,trivial⟩ trivial):Fn Tryz.prog 100 [(sD (.sl (some true) 1 [(k28 u1 u0).e0,(k28 u1 u0).e1].length (fun i j=>((U5 u1 u0).getD (0+(0+(i*1+j))) .nilp)))),(sD (.fn 122 1 (Q0 x3)))] [] (vB v9) [])⟩ fun v9=> .r<| .fk v9 (.cy 7 (kT 0 u0 (LX u1 u0) u8) fun w2=> .rg {ov:=[(1,true,1)]} [.k 0]<| .f<| .r<| .e (.next (Gz w2 u0)))
  (.rg {ov:=[(1,false,0)],sk:=[2,3,4,5,6,7,8]} []<| .f<| .r<| .e (.next (Gz u8 u0))))
  (.e (.done (.brk u8))))
  (fun o1105=> .e o1105))))
end
end Sg
