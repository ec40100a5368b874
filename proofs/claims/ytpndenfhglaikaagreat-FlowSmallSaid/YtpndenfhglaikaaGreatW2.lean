import Derived.Test.YtpndenfhglaikaaGreatW1
set_option linter.all false
namespace Sg
open Go Go.Proofs
set_option maxRecDepth 20000
noncomputable section
section
variable (r_:Int) (s_:State) (p:ah) (v4:(Int × Network)) (v0:Int) (v9:(List (Int × Int))) (p1:(List Source)) (v5:(Int × Network)) (x0:(List Int)) (u4:(List (Int × Int))) (u7:Int) (w0:(List (Int × Int))) (v7:Int) (u0:Int) (u2:(List aC)) (w1:Int) (x5:(Int × Network)) (p2:(List Link)) (p3:(List aC)) (x1:(List Int)) (x2:(List af)) (u5:(List (Int × Int))) (ua:(List (af × Int))) (v6:(Int × Network)) (v3:Int) (w9:(List bg)) (x6:(List (List Int))) (u1:Network) (u3:(List (af × Int))) (i2:Nat)
abbrev aa2:List (Nat × TV):=[(4,(vP 65 0)),(5,(vO 66 false 0)),(6,(vI r_))]
abbrev aaO:Nat × Option Ob:=(66,some (.arr 4 1 0 (au aj ([]:List Bool))))
abbrev abC:Nat × Option Ob:=(67,some (.arr 3 1 0 (au (aG .i64) ([]:List Int))))
abbrev X0:Ob:=(bZ 3 1 (aG .i64) ([]:List Int))
abbrev acZ:List CV:=[(.own 0 false (([]:List Int).length)),(.own 1 false (([]:List Int).length)),(.own 2 false (([]:List af).length))]
abbrev X7:List (Nat × TV):=[(2,(vP 63 0)),(gI s_),(4,(vP 65 0)),(iQ p),(9,(vP 71 0))]
abbrev aeS:List CV:=[(.d nS),(.own 70 true (MZ p))]
abbrev ac9:Nat × Option Ob:=(71,some (.cells 151 (aeS p)))
abbrev V9:Nat × Option Ob:=(70,some (.rows 35 1 (yT p).length (ZX p) none))
abbrev abb:Nat × Option Ob:=(71,some (.cells 151 [(.own 72 false (([]:List bg).length)),(.own 70 true (MZ p))]))
abbrev abp:Nat × Option Ob:=(72,some (bZ 157 2 bg.cell ([]:List bg)))
abbrev aeY:List (Nat × Option Ob):=[(zF p),bX,(V9 p),(abb p),abp,(Xb p),(Mq p),(KF p),(V8 p),(77,some Sr),WJ,Mi]
abbrev NZ:Nat × Option Ob:=(70,some (.rows 35 1 v4.2.from_.length (xC sG v4.2.from_) none))
abbrev acH:List (Nat × Option Ob):=[(zF p),bX,(NZ v4),(71,some (.cells 151 [(.own 87 false v4.2.arcs.length),(.own 70 true v4.2.from_.length)])),(Xb p),(Mq p),(KF p),(V8 p),(77,some (GI v0 v4 v9)),WJ,Mi,(87,some (xI v4))]
abbrev aaR:List (Nat × TV):=[(2,(vP 63 0)),(gI s_),(4,(vP 65 0)),(iQ p),(9,(vP 71 0)),(10,(vP 76 0)),uE,qP,pF,(Ae p),(Am p),(68,(vI (k4 v0)))]
abbrev aeU:Nat × Option Ob:=(71,some (.cells 151 [(.own 72 false v4.2.arcs.length),(.own 70 true v4.2.from_.length)]))
abbrev af3:List (Nat × Option Ob):=[(OC p p1),bX,(NZ v5),(71,some (.cells 151 [(.own 95 false v5.2.arcs.length),(.own 70 true v5.2.from_.length)])),(nP x0),(Mq p),(KF p),(Xw p x0),(DC u4),(78,some (GI u7 v5 w0)),Mi,(95,some (xI v5))]
abbrev Z0:List (Nat × TV):=[(2,(vP 63 0)),(gI s_),(4,(vP 65 0)),(iQ p),(9,(vP 71 0)),(10,(vP 76 0)),uE,qP,pF,(Ai p),(Aa p),(90,(vI (k4 u7)))]
abbrev acr:List (Nat × TV):=[(2,(vP 63 0)),(gI s_),(4,(vP 65 0)),(8,(vI v7)),(9,(vP 71 0)),(10,(vP 76 0)),uE,qP,pF,(18,(vI u0)),(xD u2 u0),(qG u2),(116,(vI w1)),(117,(vI u0))]
abbrev afe:Nat × Option Ob:=(71,some (.cells 151 [(.own 115 false x5.2.arcs.length),(.own 70 true x5.2.from_.length)]))
abbrev acB:List (Nat × Option Ob):=[(eG p p1 p2 p3),bX,(NZ x5),(afe x5),(nP x0),(qg x1),(rY x2),(tJ x2 x0 x1),(DC u4),(CF u5),(EI ua),(Xx x5)]
abbrev ace:Nat × Option Ob:=(71,some (.cells 151 [(.own 119 false v6.2.arcs.length),(.own 70 true v6.2.from_.length)]))
abbrev aa3:List (Nat × TV):=[(2,(vP 63 0)),(gI s_),(4,(vP 65 0)),(8,(vI v7)),(9,(vP 71 0)),(10,(vP 76 0)),uE,qP,pF,(18,(vI u0)),(xD u2 u0),(qG u2),(116,(vI w1)),(117,(vI u0)),(Ag u2 u0),(134,(vI (k4 v3)))]
abbrev afs:List (Nat × TV):=[(2,(vP 63 0)),(gI s_),(4,(vP 65 0)),(8,(vI v7)),(9,(vP 71 0)),(10,(vP 76 0)),uE,qP,pF,(qG u2),(116,(vI w1)),(117,(vI (k4 u0)))]
abbrev ac0:Nat × Option Ob:=(71,some (.cells 151 [(.own 72 false w9.length),(.d (bM (some true) 1 (Vn 1 (aG .i64)) x6))]))
abbrev acC:List (Nat × Option Ob):=[(ac0 w9 x6),(MS w9)]
abbrev af4:List (Nat × Option Ob):=[(yc u1),(yS u1)]
abbrev aaM:List (Nat × TV):=[(2,(vP 63 0)),(4,(vP 65 0)),(9,(vP 71 0)),(10,(vP 76 0)),(26,(vP 125 0)),(27,(vI (at' (u3.map Prod.snd) i2))),(208,(vP 122 0))]
abbrev VQ:Nat × Option Ob:=(126,some (aaZ p))
abbrev UA:Nat × Option Ob:=(127,some (.cells 27 [(.own 126 true (VU p))]))
abbrev afS:List (Nat × TV):=[(2,(vP 63 0)),(4,(vP 65 0)),(10,(vP 76 0)),(28,(vP 127 0)),(235,(.v (.one (.fn 103 0 1 (Ml [(.ptr 128 0)])))))]
abbrev adj:List (Nat × TV):=[(2,(vP 63 0)),(4,(vP 65 0)),(10,(vP 76 0)),(28,(vP 127 0)),(aaw u1)]
end
theorem qd (p:ah) (s_:State) {r:(aA × (List Bool) × Int)} (h:bO p s_=some r):Fn Tryz.prog 27 (U3 p s_) [] (.iV [(.agg [(.own 0 false r.1.sources.length),(.own 1 false r.1.links.length),(.own 2 false r.1.racks.length)]),(.one (.own 3 false r.2.1.length)),(sI r.2.2)]) [(0,some (bZ 3 1 (aG .i64) r.1.sources)),(1,some (bZ 3 1 (aG .i64) r.1.links)),(2,some (bZ 69 2 af.cell r.1.racks)),(3,some (bZ 4 1 aj r.2.1)),(4,none)]:=by
 refine fN tT Tryz.func27 rfl rfl fun B=> ?_
 show jy _ _ _ _ _ _ (fH r) _
 unfold bO at h
 refine sz tT (afT p s_) {fr:=[(0,63),(1,64),(2,65)] } [64] ?_
 refine aQ (aQ (bE h fun r_ hr_ h=> ?_))
 have q0:=eP p s_ hr_
 refine rg tT (aek p s_ r_) [_] {an:=[(2,cA q0 [])] } [] ⟨q0,trivial⟩ ?_
 refine sz tT (afG p s_ r_) {} [] ?_
 refine bI h (fun hb9 h=> ?_) (fun hb9 h=> ?_)
 ·refine ct hb9 ?_
  refine sz tT ⟨[(4,(vP 65 0)),(5,(vD nS)),(6,(vI r_))],[bX]⟩ {} [] ?_
  refine aI (.trans (dX.Wm (t:=5) (b:=66) (esz0:=0) (el0:=fun _ _=> .nilp) (E:=4) (esz:=1) (el:=au aj ([]:List Bool)) (by kernel_rfl) (by kernel_rfl)) (.trans (dX.xG (E:=0) (esz:=0) (E0:=80) (cs:=[(.d nS),(.d nS),(.d nS)]) (p:=65) (q:=0) (b:=67) (esz0:=0) (el0:=fun _ _=> .nilp) (ob:= .arr 3 1 0 (au (aG .i64) ([]:List Int))) (fun _ _ _ _ h=> .inl ⟨h,rfl⟩) (by kernel_rfl) (by kernel_rfl) (by kernel_rfl)) (.trans (fz ⟨(aa2 r_),[(65,some (.cells 80 [(.own 67 false 0),(.d nS),(.d nS)])),aaO,abC]⟩ []) (.trans (dX.xG (E:=0) (esz:=0) (E0:=80) (cs:=[(.own 67 false 0),(.d nS),(.d nS)]) (p:=65) (q:=1) (b:=68) (esz0:=0) (el0:=fun _ _=> .nilp) (ob:= .arr 3 1 0 (au (aG .i64) ([]:List Int))) (fun _ _ _ _ h=> .inl ⟨h,rfl⟩) (by kernel_rfl) (by kernel_rfl) (by kernel_rfl)) (.trans (fz ⟨(aa2 r_),[(65,some (.cells 80 [(.own 67 false 0),(.own 68 false 0),(.d nS)])),aaO,abC,(68,some (.arr 3 1 0 (au (aG .i64) ([]:List Int))))]⟩ []) (.trans (dX.xG (E:=0) (esz:=0) (E0:=80) (cs:=[(.own 67 false 0),(.own 68 false 0),(.d nS)]) (p:=65) (q:=2) (b:=69) (esz0:=0) (el0:=fun _ _=> .nilp) (ob:= .arr 69 2 0 (au af.cell ([]:List af))) (fun _ _ _ _ h=> .inl ⟨h,rfl⟩) (by kernel_rfl) (by kernel_rfl) (by kernel_rfl)) (.trans (fz ⟨(aa2 r_),[(65,some (.cells 80 [(.own 67 false 0),(.own 68 false 0),(.own 69 false 0)])),aaO,abC,(68,some (.arr 3 1 0 (au (aG .i64) ([]:List Int)))),(69,some (.arr 69 2 0 (au af.cell ([]:List af))))]⟩ []) (.trans (dX.fin (st':=⟨[(4,(vP 4 0)),(5,(vO 3 false 0)),(6,(vI r_))],[(0,some (.arr 3 1 0 (au (aG .i64) ([]:List Int)))),(1,some (.arr 3 1 0 (au (aG .i64) ([]:List Int)))),(2,some (.arr 69 2 0 (au af.cell ([]:List af)))),(3,some (.arr 4 1 0 (au aj ([]:List Bool)))),(4,some (.cells 80 [(.own 0 false 0),(.own 1 false 0),(.own 2 false 0)]))]⟩) (cs:=[]) ⟨[],[(67,0),(68,1),(69,2),(66,3),(65,4)]⟩ [4,5,6] (by kernel_rfl) trivial) (dX.le (st':=⟨[(4,(vP 4 0)),(5,(vO 3 false (([]:List Bool).length))),(6,(vI r_))],[(0,some X0),(1,some X0),(2,some (bZ 69 2 af.cell ([]:List af))),(3,some (bZ 4 1 aj ([]:List Bool))),(4,some (.cells 80 acZ))]⟩) ⟨⟨tR,⟨_,rfl,y7.v (uG.one cW)⟩,tR,trivial⟩,⟨rfl,oW,⟨rfl,oW,⟨rfl,oW,⟨rfl,oW,⟨rfl,bH ⟨cW,cW,cW,trivial⟩,trivial⟩⟩⟩⟩⟩⟩))))))))) ?_
  refine aR ?_
  obtain rfl:=oi h
  exact rh [(.agg acZ),(.one (.own 3 false (([]:List Bool).length))),(sI r_)] (.refl _) (hN 4 ⟨rfl,trivial,trivial⟩)
 ·refine cf hb9 ?_
  refine aP (sz tT (adV p s_) {} [] ?_)
  refine aQ (aO h fun⟨a1,a2,a3⟩ h=> ?_)
  refine ri tT ⟨(X7 s_ p),[(zF p),bX,(70,some (.arr 35 1 (yT p).length (fun _ j=>[nS].getD j .nilp))),(ac9 p)]⟩ [_,(aam p)=(WL p),_,_,(yT p).length=(P5 p),aD (P5 p) 1 (fun _ j=>[nS].getD j .nilp) (fun _ j=>[nS].getD j .nilp)] {an:=[(2, .arr (yT p).length (fun _ j=>[nS].getD j .nilp))],fr:=[(2,70),(4,71)] } [] ⟨a1,rfl,a2,a3,(List.length_replicate),(fG _ _ _),trivial⟩ (.trans (dX.MN (b:=70) (E:=35) (esz:=1) (len:=(yT p).length) (el:=(fun _ j=>[nS].getD j .nilp)) (el':=xC sG (yT p)) (by kernel_rfl) (fun i hi j hj=>match j,hj with|0,_=>Jz _ _ _ _ _ _ _ _)) (.trans (fz ⟨(X7 s_ p),[(zF p),bX,(V9 p),(ac9 p)]⟩ []) (.trans (dX.xG (E:=0) (esz:=0) (E0:=151) (cs:=(aeS p)) (p:=71) (q:=0) (b:=72) (esz0:=0) (el0:=fun _ _=> .nilp) (ob:= .arr 157 2 0 (au bg.cell ([]:List bg))) (fun _ _ _ _ h=> .inl ⟨h,rfl⟩) (by kernel_rfl) (by kernel_rfl) (by kernel_rfl)) (.trans (fz ⟨(X7 s_ p),[(zF p),bX,(V9 p),(71,some (.cells 151 [(.own 72 false 0),(.own 70 true (MZ p))])),(72,some (.arr 157 2 0 (au bg.cell ([]:List bg))))]⟩ []) (dX.le (st':=⟨(X7 s_ p),[(zF p),bX,(V9 p),(abb p),abp]⟩) ⟨⟨tR,tR,tR,tR,tR,trivial⟩,(hN 3 ⟨rfl,bH ⟨cW,gV.refl _,trivial⟩,⟨rfl,oW,trivial⟩⟩)⟩))))) ?_
  refine aQ (aO h fun⟨a1,a2,a3,a4,a5,a6,a7,a8,a9⟩ h=> ?_)
  refine dg tT mX ⟨[(2,(vP 63 0)),(gI s_),(4,(vP 65 0)),(iQ p),(9,(vP 71 0)),(10,(vP 76 0))],[(zF p),bX,(V9 p),(abb p),abp,(Xb p),(Mq p),(KF p),(V8 p)]⟩ [_,(P7 p)=(p.sources.length:Int),_,_,(Mc p).length=(GZ p),aD (GZ p) 1 (fun _ j=>[(.int .i64 0)].getD j .nilp) (SC p),_,(Tj p)=(p.links.length:Int),_,_,(Cx p).length=(yu p),aD (yu p) 1 (fun _ j=>[(.int .i64 0)].getD j .nilp) (Kk p),_,((p.racks.length:Int):Int)=(p.racks.length:Int),_,_,(Nb p).length=(Qq p),aD (Qq p) 2 (fun _ j=>[(.int .i64 0),(.int .i64 0)].getD j .nilp) (Ug p)] {an:=[(3, .arr (Mc p).length (SC p)),(7, .arr (Cx p).length (Kk p)),(11, .arr (Nb p).length (Ug p))],fr:=[(3,73),(7,74),(11,75),(13,76)] } [] ⟨a1,rfl,a2,a3,(List.length_replicate),(aW _ _ _ _ _ (fun j hj=>(match j,hj with|0,_=>rfl))),a4,rfl,a5,a6,(List.length_replicate),(aW _ _ _ _ _ (fun j hj=>(match j,hj with|0,_=>rfl))),a7,rfl,a8,a9,(List.length_replicate),(aW _ _ _ _ _ (fun j hj=>(match j,hj with|0,_=>rfl|1,_=>rfl))),trivial⟩ ?_
  refine sz tT ⟨(Wz s_ p),(aeY p)⟩ {an:=[(0, .map 0 (xX (aG .i64) ([]:(List (Int × Int)))) (xY (aG .i64) ([]:(List (Int × Int)))) []),(1, .map 0 (xX (aG .i64) ([]:(List (Int × Int)))) (xY (aG .i64) ([]:(List (Int × Int)))) []),(2, .map 0 (xX af.cell ([]:(List (af × Int)))) (xY (aG .i64) ([]:(List (af × Int)))) [])],fr:=[(0,77),(1,78),(2,79)] } [] ?_
  refine aQ (sz tT ⟨[(2,(vP 63 0)),(gI s_),(4,(vP 65 0)),(iQ p),(9,(vP 71 0)),(10,(vP 76 0)),uE,qP,pF,(Ae p),(Am p),(68,(vI 0))],(aeY p)⟩ {} [] ?_)
  refine bE h fun y hy h=> ?_
  refine aL [] (vX p s_) (wF p s_) fH hy (fun s f h=> ?_) ?_
  ·clear hy
   show jy _ _ _ _ _ _ ((Cv p s_) f) _
   unfold iK at h
   obtain⟨n0,n1,v9,v0⟩:=s
   refine sz tT ⟨[(2,(vP 63 0)),(gI s_),(4,(vP 65 0)),(iQ p),(9,(vP 71 0)),(10,(vP 76 0)),uE,qP,pF,(Ae p),(Am p),(68,(vI v0)),(69,(vB (decide (v0<(p.sources.length:Int)))))],(S9 p n1 n0 v9)⟩ {} [] ?_
   refine aQ ?_
   refine bI h (fun hb1 h=> ?_) (fun hb1 h=> ?_)
   ·refine ct hb1 ?_
    refine aP (aQ (aB (aQ (aO h fun a1 h=> ?_))))
    refine rg tT ⟨[(2,(vP 63 0)),(gI s_),(4,(vP 65 0)),(iQ p),(9,(vP 71 0)),(10,(vP 76 0)),uE,qP,pF,(14,(vI v0)),(Tv p v0),(Ae p),(Am p),(68,(vI v0))],(S9 p n1 n0 v9)⟩ [_] {fr:=[(3,86)] } [86] ⟨a1,trivial⟩ ?_
    refine aQ (bE h fun ui hr_1 h=> ?_)
    have q0:=iN p s_ v0 hr_1
    refine rg tT ⟨[(2,(vP 63 0)),(gI s_),(4,(vP 65 0)),(iQ p),(9,(vP 71 0)),(10,(vP 76 0)),uE,qP,pF,(14,(vI v0)),(Tv p v0),(Ae p),(Am p),(68,(vI v0)),(76,(vB ui))],(S9 p n1 n0 v9)⟩ [_] {an:=[(3,cA q0 [])] } [] ⟨q0,trivial⟩ ?_
    refine bI h (fun hb h=> ?_) (fun hb h=> ?_)
    ·refine ct hb ?_
     refine bE h fun v4 hr_2 h=> ?_
     have q0:=rk [(0,71),(1,72),(2,70),(3,87)] (bG 0 (abH p v0) (TF p v0) 0 (⟨n0,n1⟩:Network) hr_2)
     refine rg tT ⟨(adT s_ p v0),(acH p v4 v0 v9)⟩ [_,AB [some .i64] 1 1 v9.length (xX (aG .i64) v9) (xY (aG .i64) v9) [(.int .i64 v0)] [(cI v4.1)] [] (gG Kb v0 v4.1 v9).length (G9 v0 v4 v9) (Gy v0 v4 v9)] {an:=[(8,cA q0 [71,72,70]),(9, .map (gG Kb v0 v4.1 v9).length (G9 v0 v4 v9) (Gy v0 v4 v9) [])] } [] ⟨q0,(rD (fun _=>rfl) (fun _ _=>rfl) v9 v0 v4.1 rfl rfl),trivial⟩ ?_
     refine ri tT ⟨(aaR s_ p v0),(acH p v4 v0 v9)⟩ [] {} [] trivial (dX.fin (st':=⟨(aaR s_ p v0),[(zF p),bX,(NZ v4),(aeU v4),(72,some (xI v4)),(Xb p),(Mq p),(KF p),(V8 p),(77,some (GI v0 v4 v9)),WJ,Mi]⟩) (cs:=[]) ⟨[],[(63,63),(65,65),(70,70),(71,71),(87,72),(73,73),(74,74),(75,75),(76,76),(77,77),(78,78),(79,79)]⟩ [2,3,4,8,9,10,11,12,13,66,67,68] (by kernel_rfl) trivial) ?_
     obtain rfl:=oi h
     exact lN
    ·refine cf hb ?_
     refine aP (rz tT ⟨(aaR s_ p v0),(S9 p n1 n0 v9)⟩ {} [] ?_)
     obtain rfl:=oi h
     exact lN
   ·refine cf hb1 ?_
    refine aI (fz ⟨(Wz s_ p),(S9 p n1 n0 v9)⟩ []) ?_
    refine aX ?_
    obtain rfl:=oi h
    exact lB
  ·clear hy
   cases y with
   |brk z=>
    obtain⟨p1,ue,uc,x0,u4⟩:=z
    unfold G6
    refine⟨_, .refl, ?_⟩
    refine aQ (sz tT ⟨[(2,(vP 63 0)),(gI s_),(4,(vP 65 0)),(iQ p),(9,(vP 71 0)),(10,(vP 76 0)),uE,qP,pF,(Ai p),(Aa p),(90,(vI 0))],(afH p x0 p1 uc ue u4)⟩ {} [] ?_)
    refine bE h fun y1 hy h=> ?_
    refine aL [] (vH p s_ p1 x0 u4) (vF p s_ p1 x0 u4) fH hy (fun s f h=> ?_) ?_
    ·clear hy
     show jy _ _ _ _ _ _ ((CW p s_ p1 x0 u4) f) _
     unfold iM at h
     obtain⟨w7,w3,w0,u7⟩:=s
     refine sz tT ⟨[(2,(vP 63 0)),(gI s_),(4,(vP 65 0)),(iQ p),(9,(vP 71 0)),(10,(vP 76 0)),uE,qP,pF,(Ai p),(Aa p),(90,(vI u7)),(91,(vB (decide (u7<(p.links.length:Int)))))],(Tt p w0 p1 w3 w7 x0 u4)⟩ {} [] ?_
     refine aQ ?_
     refine bI h (fun hb3 h=> ?_) (fun hb3 h=> ?_)
     ·refine ct hb3 ?_
      refine aP (aQ (aB (aQ (aO h fun a1 h=> ?_))))
      refine rg tT ⟨[(2,(vP 63 0)),(gI s_),(4,(vP 65 0)),(iQ p),(9,(vP 71 0)),(10,(vP 76 0)),uE,qP,pF,(16,(vI u7)),(TL p u7),(Ai p),(Aa p),(90,(vI u7))],(Tt p w0 p1 w3 w7 x0 u4)⟩ [_] {fr:=[(3,94)] } [94] ⟨a1,trivial⟩ ?_
      refine aQ (bE h fun uj hr_3 h=> ?_)
      have q0:=fo (⟨p.buses,p1,p.links,p.racks⟩:ah) s_ u7 hr_3
      refine rg tT ⟨[(2,(vP 63 0)),(gI s_),(4,(vP 65 0)),(iQ p),(9,(vP 71 0)),(10,(vP 76 0)),uE,qP,pF,(16,(vI u7)),(TL p u7),(Ai p),(Aa p),(90,(vI u7)),(98,(vB uj))],(Tt p w0 p1 w3 w7 x0 u4)⟩ [_] {an:=[(3,cA q0 [])] } [] ⟨q0,trivial⟩ ?_
      refine bI h (fun hb2 h=> ?_) (fun hb2 h=> ?_)
      ·refine ct hb2 ?_
       refine bE h fun v5 hr_4 h=> ?_
       have q0:=rk [(0,71),(1,72),(2,70),(3,95)] (bG (Zz p u7) (abr p u7) (I4 p u7) (I4 p u7) (⟨w7,w3⟩:Network) hr_4)
       refine rg tT ⟨(ac8 s_ p u7),(af3 p p1 v5 x0 u4 u7 w0)⟩ [_,AB [some .i64] 1 1 w0.length (xX (aG .i64) w0) (xY (aG .i64) w0) [(.int .i64 u7)] [(cI v5.1)] [] (gG Kb u7 v5.1 w0).length (G9 u7 v5 w0) (Gy u7 v5 w0)] {an:=[(13,cA q0 [71,72,70]),(14, .map (gG Kb u7 v5.1 w0).length (G9 u7 v5 w0) (Gy u7 v5 w0) [])] } [] ⟨q0,(rD (fun _=>rfl) (fun _ _=>rfl) w0 u7 v5.1 rfl rfl),trivial⟩ ?_
       refine ri tT ⟨(Z0 s_ p u7),(af3 p p1 v5 x0 u4 u7 w0)⟩ [] {} [] trivial (dX.fin (st':=⟨(Z0 s_ p u7),[(OC p p1),bX,(NZ v5),(aeU v5),(72,some (xI v5)),(nP x0),(Mq p),(KF p),(Xw p x0),(DC u4),(78,some (GI u7 v5 w0)),Mi]⟩) (cs:=[]) ⟨[],[(63,63),(65,65),(70,70),(71,71),(95,72),(73,73),(74,74),(75,75),(76,76),(77,77),(78,78),(79,79)]⟩ [2,3,4,8,9,10,11,12,13,88,89,90] (by kernel_rfl) trivial) ?_
       obtain rfl:=oi h
       exact lN
      ·refine cf hb2 ?_
       refine aP (rz tT ⟨(Z0 s_ p u7),(Tt p w0 p1 w3 w7 x0 u4)⟩ {} [] ?_)
       obtain rfl:=oi h
       exact lN
     ·refine cf hb3 ?_
      refine aI (fz ⟨(Wz s_ p),(Tt p w0 p1 w3 w7 x0 u4)⟩ []) ?_
      refine aX ?_
      obtain rfl:=oi h
      exact lB
    ·clear hy
     cases y1 with
     |brk z=>
      obtain⟨p2,uf,ud,x1,u5⟩:=z
      unfold G6
      refine⟨_, .refl, ?_⟩
      refine aQ (sz tT ⟨[(2,(vP 63 0)),(gI s_),(4,(vP 65 0)),(iQ p),(9,(vP 71 0)),(10,(vP 76 0)),uE,qP,pF,(115,(vD (bM none 4 aC.cell p.racks))),(116,(vI (p.racks.length:Int))),(117,(vI 0))],(acI x1 p p1 p2 ud uf x0 u4 u5)⟩ {} [] ?_)
      refine bE h fun y3 hy h=> ?_
      refine aL [] (vN p s_ p1 x0 u4 p2 x1 u5) (wu p p1 x0 u4 p2 x1 u5) fH hy (fun s f h=> ?_) ?_
      ·clear hy
       show jy _ _ _ _ _ _ ((qp p s_ p1 x0 u4 p2 x1 u5) f) _
       unfold iL at h
       obtain⟨p3,v7,x7,x4,x2,ua,u2,w1,u0⟩:=s
       refine sz tT ⟨[(2,(vP 63 0)),(gI s_),(4,(vP 65 0)),(8,(vI v7)),(9,(vP 71 0)),(10,(vP 76 0)),uE,qP,pF,(qG u2),(116,(vI w1)),(117,(vI u0)),(118,(vB (decide (u0<w1))))],(WY x2 x0 x1 ua p p1 p2 p3 x4 x7 u4 u5)⟩ {} [] ?_
       refine aQ ?_
       refine bI h (fun hb6 h=> ?_) (fun hb6 h=> ?_)
       ·refine ct hb6 ?_
        refine aP (aQ (aB (aQ (aO h fun a1 h=> ?_))))
        refine rg tT ⟨(acr s_ v7 u0 u2 w1),(WY x2 x0 x1 ua p p1 p2 p3 x4 x7 u4 u5)⟩ [_] {fr:=[(3,114)] } [114] ⟨a1,trivial⟩ ?_
        refine aQ (bE h fun x5 hr_5 h=> ?_)
        have q0:=rk [(0,71),(1,72),(2,70),(3,115)] (bG (Tz p u0) v7 (LV u2 u0) 0 (⟨x7,x4⟩:Network) hr_5)
        refine rg tT ⟨(acr s_ v7 u0 u2 w1),(acB p p1 x0 u4 x5 p2 p3 x1 x2 u5 ua)⟩ [_] {an:=[(9,cA q0 [71,72,70])] } [] ⟨q0,trivial⟩ ?_
        refine sz tT ⟨[(2,(vP 63 0)),(gI s_),(4,(vP 65 0)),(8,(vI v7)),(9,(vP 71 0)),(10,(vP 76 0)),uE,qP,pF,(18,(vI u0)),(xD u2 u0),(qG u2),(116,(vI w1)),(117,(vI u0)),(Ag u2 u0),(134,(vI 0))],(acB p p1 x0 u4 x5 p2 p3 x1 x2 u5 ua)⟩ {} [] ?_
        refine bE h fun y2 hy h=> ?_
        refine aL [5] (wQ p s_ p1 x0 u4 p2 x1 u5 p3 v7 x2 u2 w1 u0) (vJ p s_ p1 x0 u4 p2 x1 u5 p3 v7 x2 u2 w1 u0) (qp p s_ p1 x0 u4 p2 x1 u5) hy (fun s f h=> ?_) ?_
        ·clear hy
         show jy _ _ _ _ _ _ ((DR p s_ p1 x0 u4 p2 x1 u5 p3 v7 x2 u2 w1 u0) f) _
         unfold eT at h
         obtain⟨w8,w4,w2,v3⟩:=s
         refine sz tT ⟨[(2,(vP 63 0)),(gI s_),(4,(vP 65 0)),(8,(vI v7)),(9,(vP 71 0)),(10,(vP 76 0)),uE,qP,pF,(18,(vI u0)),(xD u2 u0),(qG u2),(116,(vI w1)),(117,(vI u0)),(Ag u2 u0),(134,(vI v3)),(135,(vB (decide (v3<2))))],(Rj p p1 p2 p3 w4 w8 x0 x1 x2 u4 u5 w2)⟩ {} [] ?_
         refine aQ ?_
         refine bI h (fun hb5 h=> ?_) (fun hb5 h=> ?_)
         ·refine ct hb5 ?_
          refine aP (aQ (aB (aQ (aO h fun a1 h=> ?_))))
          refine rg tT ⟨[(2,(vP 63 0)),(gI s_),(4,(vP 65 0)),(8,(vI v7)),(9,(vP 71 0)),(10,(vP 76 0)),uE,qP,pF,(18,(vI u0)),(xD u2 u0),(20,(vI v3)),(Tk u0 u2 v3),(qG u2),(116,(vI w1)),(117,(vI u0)),(Ag u2 u0),(134,(vI v3))],(Rj p p1 p2 p3 w4 w8 x0 x1 x2 u4 u5 w2)⟩ [_,v3.toNat*1+1≤(QX u2 u0).length,((QX u2 u0).drop (v3.toNat*1)).take 1=(Uk u0 u2 v3).map .d] {an:=[(1, .vals (Uk u0 u2 v3))] } [] ⟨a1,(TK (n:=2) (sz:=1) (Nat.le_refl _) a1),(Tq (n:=2) (sz:=1) (g:=fun q=>[(cI (at' [(k28 u2 u0).e0,(k28 u2 u0).e1] q))]) (by intro q hq;match q,hq with|0,_=>rfl|1,_=>rfl) a1),trivial⟩ ?_
          refine aQ (bE h fun ul hr_6 h=> ?_)
          have q0:=jP s_ (PO u0 u2 v3) hr_6
          refine rg tT ⟨[(2,(vP 63 0)),(gI s_),(4,(vP 65 0)),(8,(vI v7)),(9,(vP 71 0)),(10,(vP 76 0)),uE,qP,pF,(18,(vI u0)),(xD u2 u0),(20,(vI v3)),(Tk u0 u2 v3),(qG u2),(116,(vI w1)),(117,(vI u0)),(Ag u2 u0),(134,(vI v3)),(140,(vB ul))],(Rj p p1 p2 p3 w4 w8 x0 x1 x2 u4 u5 w2)⟩ [_] {an:=[(2,cA q0 [])] } [] ⟨q0,trivial⟩ ?_
          refine bI h (fun hb4 h=> ?_) (fun hb4 h=> ?_)
          ·refine ct hb4 ?_
           refine bE h fun v6 hr_7 h=> ?_
           have q0:=rk [(0,71),(1,115),(2,70),(3,119)] (bG (aai u0 u2 v3) (Tz p u0) (LV u2 u0) 0 (⟨w8,w4⟩:Network) hr_7)
           refine rg tT ⟨(aez s_ v7 u0 u2 w1 v3),[(eG p p1 p2 p3),bX,(NZ v6),(ace v6),(nP x0),(qg x1),(rY x2),(tJ x2 x0 x1),(DC u4),(CF u5),(79,some (RU 69 3 true false 2 1 af.cell (aG .i64) (gG (fun a b=>(decide (a.e0=b.e0) && (decide (a.e1=b.e1) && true))) (⟨u0,v3⟩:af) v6.1 w2))),(119,some (xI v6))]⟩ [_,AB [some .i64,some .i64] 2 1 w2.length (xX af.cell w2) (xY (aG .i64) w2) (SL u0 v3) [(cI v6.1)] [] (gG (fun a b=>(decide (a.e0=b.e0) && (decide (a.e1=b.e1) && true))) (⟨u0,v3⟩:af) v6.1 w2).length (xX af.cell (gG (fun a b=>(decide (a.e0=b.e0) && (decide (a.e1=b.e1) && true))) (⟨u0,v3⟩:af) v6.1 w2)) (xY (aG .i64) (gG (fun a b=>(decide (a.e0=b.e0) && (decide (a.e1=b.e1) && true))) (⟨u0,v3⟩:af) v6.1 w2))] {an:=[(14,cA q0 [71,115,70]),(15, .map (gG (fun a b=>(decide (a.e0=b.e0) && (decide (a.e1=b.e1) && true))) (⟨u0,v3⟩:af) v6.1 w2).length (xX af.cell (gG (fun a b=>(decide (a.e0=b.e0) && (decide (a.e1=b.e1) && true))) (⟨u0,v3⟩:af) v6.1 w2)) (xY (aG .i64) (gG (fun a b=>(decide (a.e0=b.e0) && (decide (a.e1=b.e1) && true))) (⟨u0,v3⟩:af) v6.1 w2)) [])] } [] ⟨q0,(rD (fun _=>rfl) (fun _ _=>rfl) w2 (⟨u0,v3⟩:af) v6.1 rfl rfl),trivial⟩ ?_
           refine ri tT ⟨(aa3 s_ v7 u0 u2 w1 v3),[(eG p p1 p2 p3),bX,(NZ v6),(ace v6),(nP x0),(qg x1),(rY x2),(tJ x2 x0 x1),(DC u4),(CF u5),(79,some (RU 69 3 true false 2 1 af.cell (aG .i64) (gG (fun a b=>(decide (a.e0=b.e0) && (decide (a.e1=b.e1) && true))) (⟨u0,v3⟩:af) v6.1 w2))),(119,some (xI v6))]⟩ [] {} [] trivial (dX.fin (st':=⟨(aa3 s_ v7 u0 u2 w1 v3),[(eG p p1 p2 p3),bX,(NZ v6),(afe v6),(nP x0),(qg x1),(rY x2),(tJ x2 x0 x1),(DC u4),(CF u5),(79,some (RU 69 3 true false 2 1 af.cell (aG .i64) (gG (fun a b=>(decide (a.e0=b.e0) && (decide (a.e1=b.e1) && true))) (⟨u0,v3⟩:af) v6.1 w2))),(Xx v6)]⟩) (cs:=[]) ⟨[],[(63,63),(65,65),(70,70),(71,71),(73,73),(74,74),(75,75),(76,76),(77,77),(78,78),(79,79),(119,115)]⟩ [2,3,4,8,9,10,11,12,13,18,19,115,116,117,133,134] (by kernel_rfl) trivial) ?_
           obtain rfl:=oi h
           exact lN
          ·refine cf hb4 ?_
           refine aP (rz tT ⟨(aa3 s_ v7 u0 u2 w1 v3),(Rj p p1 p2 p3 w4 w8 x0 x1 x2 u4 u5 w2)⟩ {} [] ?_)
           obtain rfl:=oi h
           exact lN
         ·refine cf hb5 ?_
          refine aI (fz (acQ s_ v7 u2 w1 u0 p p1 p2 p3 w4 w8 x0 x1 x2 u4 u5 w2) []) ?_
          refine aX ?_
          obtain rfl:=oi h
          exact lB
        ·clear hy
         cases y2 with
         |brk z=>
          obtain⟨ub,x8,ug⟩:=z
          unfold G6
          refine⟨_, .refl, ?_⟩
          refine ri tT ⟨(afs s_ v7 u0 u2 w1),(Rj p p1 p2 p3 x8 ub x0 x1 x2 u4 u5 ug)⟩ [] {} [] trivial (dX.fin (st':=⟨(afs s_ v7 u0 u2 w1),(WY x2 x0 x1 ug p p1 p2 p3 x8 ub u4 u5)⟩) (cs:=[]) ⟨[],[(63,63),(65,65),(70,70),(71,71),(115,72),(73,73),(74,74),(75,75),(76,76),(77,77),(78,78),(79,79)]⟩ [2,3,4,8,9,10,11,12,13,115,116,117] (by kernel_rfl) trivial) ?_
          obtain rfl:=oi h
          exact lN
         |ret v=>
          obtain rfl:=oi h
          unfold G6
          intro e st hn ha hR
          cases e with
          |normal=>exact absurd rfl hn
          |exit id=>simp only [Qu (b:=5) ha rfl,cond_false];exact hR
          |goto l=>exact hR
          |ret=>exact hR
          |panic c=>exact hR
          |outgrown=>exact hR
       ·refine cf hb6 ?_
        refine aI (fz (adG v7 p p1 p2 p3 x4 x7 x0 x1 x2 u4 u5 ua) []) ?_
        refine aX ?_
        obtain rfl:=oi h
        exact lB
      ·clear hy
       cases y3 with
       |brk z=>
        obtain⟨v1,x9,w9,x6,v2,u3⟩:=z
        unfold G6
        refine⟨_, .refl, ?_⟩
        refine aQ (aI (.trans (fi ⟨(aa6 x9),[(eG p p1 p2 v1),bX,(71,some (.cells 151 [(.own 72 false w9.length),(.d (.sl (some true) 1 x6.length (fun i j=>evD (xC sG x6 i j))))])),(MS w9),(nP x0),(qg x1),(rY v2),(tJ v2 x0 x1),(DC u4),(CF u5),(EI u3)]⟩ [x6.length=x6.length] [70] ⟨rfl,trivial⟩) (dX.le (st':=⟨(aa6 x9),[(eG p p1 p2 v1),bX,(ac0 w9 x6),(MS w9),(nP x0),(qg x1),(rY v2),(tJ v2 x0 x1),(DC u4),(CF u5),(EI u3)]⟩) ⟨⟨tR,tR,tR,tR,tR,tR,tR,tR,trivial⟩,(hN 2 ⟨rfl,bH ⟨gV.refl _,gV.d (jK.sl (.inr rfl) (fun i _ j hj=>match j,hj with|0,_=> .refl _)),trivial⟩,(.refl _)⟩)⟩)) ?_)
        refine bE h fun u1 hr_8 h=> ?_
        refine rg tT ⟨[(2,(vP 63 0)),(4,(vP 65 0)),(9,(vP 71 0)),(10,(vP 76 0)),uE,qP,pF],[(eG p p1 p2 v1),bX,(yc u1),(yS u1),(nP x0),(qg x1),(rY v2),(tJ v2 x0 x1),(DC u4),(CF u5),(EI u3)]⟩ [Fn Tryz.prog 75 [(.one (.ptr 71 0)),(sI x9)] (acC w9 x6) (.iV []) (af4 u1)] {an:=[(2, .call [71,72] (.iV []) (af4 u1))] } [] ⟨(Fn.leH (args:=[(.one (.ptr 71 0)),(sI x9)]) (args':=[(.one (.ptr 71 0)),(sI x9)]) (hin:=[(71,some (.cells 151 [(.own 72 false w9.length),(.d (k91 x6))])),(MS w9)]) (hin':=(acC w9 x6)) (rK [(0,71),(1,72)] (lC x9 (⟨w9,x6⟩:Network) hr_8)) ⟨uG.refl _,uG.refl _,trivial⟩ ⟨rfl,bH ⟨gV.refl _,gV.d jK.rW,trivial⟩,(.refl _)⟩),trivial⟩ ?_
        refine aQ (bE h fun y4 hy h=> ?_)
        refine jb (Dt p p1 p2 x1 u5 v1 v2 u3 u1) (K:=3) (V:=3) (s0:=(x0)) ⟨3,3,false,false,1,1,u4.length,xX (aG .i64) u4,xY (aG .i64) u4,[]⟩ 77 120 (fun i=>(sI (Aw u4 i))) (fun i=>(sI (Ea u4 i))) hy [3,4] (by kernel_rfl) (by kernel_rfl) (by kernel_rfl) (fun _ _=> ⟨rfl,rfl⟩) (fun _ _=> ⟨lG _ _,lG _ _⟩) (fun _=>(dX.fin (st':=(aeM u1 p p1 p2 v1 x0 x1 v2 u5 u3)) (cs:=[]) ⟨[],[(63,63),(65,65),(71,71),(72,72),(73,73),(74,74),(75,75),(76,76),(78,78),(79,79),(120,120)]⟩ [2,4,9,10,12,13,162] (by kernel_rfl) trivial)) (fun s=>by obtain⟨w5,rfl⟩: ∃q,q=s:=⟨_,rfl⟩;kernel_rfl) (fun B s i s' hi h=> ?_) ?_
        ·clear hy
         unfold jO at h
         obtain⟨w5,rfl⟩: ∃q,q=s:=⟨_,rfl⟩
         refine Yo tT (⟨[(2,(vP 63 0)),(4,(vP 65 0)),(9,(vP 71 0)),(10,(vP 76 0)),qP,pF,(22,(vI (Aw u4 i))),(23,(vI (Ea u4 i))),(162,(vP 120 0))],(adX u1 p p1 p2 v1 w5 x1 v2 u5 u3)⟩) {fin:=⟨[],[(63,63),(65,65),(71,71),(72,72),(73,73),(74,74),(75,75),(76,76),(78,78),(79,79),(120,120)]⟩,ts:=[2,4,9,10,12,13,22,23,162] } (cs:=[]) (by kernel_rfl) trivial .refl ?_
         refine aO h fun⟨a1,a2⟩ h=> ?_
         refine di tT mX ⟨abL,[(eG p p1 p2 v1),bX,(yc u1),(yS u1),(73,some (.arr 3 1 w5.length (Mf u4 u1 i w5))),(qg x1),(rY v2),(tJ v2 w5 x1),(CF u5),(EI u3),(120,none)]⟩ [_,_,_,_,aD w5.length 1 (aaJ u4 u1 i w5) (Mf u4 u1 i w5)] {an:=[(13, .arr 0 (Mf u4 u1 i w5))] } [] ⟨a1,(tL a1),a2,(tL a2),(aK _ _ _ _ _ _ _ _ rfl (fun j hj=>(match j,hj with|0,_=>rfl))),trivial⟩ (dX.le (st':=⟨abL,[(eG p p1 p2 v1),bX,(yc u1),(yS u1),(73,some (abJ u4 u1 i w5)),(qg x1),(rY v2),(76,some (.cells 80 [(.own 73 true (aao u4 u1 i w5)),(.own 74 true x1.length),(.own 75 true v2.length)])),(CF u5),(EI u3),(120,none)]⟩) ⟨⟨tR,tR,tR,tR,tR,tR,tR,trivial⟩,(hN 4 ⟨rfl,oW,(hN 2 ⟨rfl,bH ⟨cW,gV.refl _,gV.refl _,trivial⟩,(.refl _)⟩)⟩)⟩) ?_
         obtain rfl:=oi h
         exact⟨.inl rfl,by kernel_rfl⟩
        ·clear hy
         obtain⟨u6,rfl⟩: ∃q,q=y4:=⟨_,rfl⟩
         refine aI (fz ⟨[(2,(vP 63 0)),(4,(vP 65 0)),(9,(vP 71 0)),(10,(vP 76 0)),qP,pF],[(eG p p1 p2 v1),bX,(yc u1),(yS u1),(nP u6),(qg x1),(rY v2),(tJ v2 u6 x1),(CF u5),(EI u3)]⟩ []) ?_
         refine aQ (bE h fun y5 hy h=> ?_)
         refine jb (CU p p1 p2 v1 v2 u3 u1 u6) (K:=3) (V:=3) (s0:=(x1)) ⟨3,3,false,false,1,1,u5.length,xX (aG .i64) u5,xY (aG .i64) u5,[]⟩ 78 121 (fun i1=>(sI (Aw u5 i1))) (fun i1=>(sI (Ea u5 i1))) hy [3,4] (by kernel_rfl) (by kernel_rfl) (by kernel_rfl) (fun _ _=> ⟨rfl,rfl⟩) (fun _ _=> ⟨lG _ _,lG _ _⟩) (fun _=>(dX.fin (st':=(aen p p1 p2 v1 u1 u6 x1 v2 u3)) (cs:=[]) ⟨[],[(63,63),(65,65),(71,71),(72,72),(73,73),(74,74),(75,75),(76,76),(79,79),(121,121)]⟩ [2,4,9,10,13,182] (by kernel_rfl) trivial)) (fun s=>by obtain⟨w6,rfl⟩: ∃q,q=s:=⟨_,rfl⟩;kernel_rfl) (fun B s i1 s' hi h=> ?_) ?_
         ·clear hy
          unfold jM at h
          obtain⟨w6,rfl⟩: ∃q,q=s:=⟨_,rfl⟩
          refine Yo tT (⟨[(2,(vP 63 0)),(4,(vP 65 0)),(9,(vP 71 0)),(10,(vP 76 0)),pF,(24,(vI (Aw u5 i1))),(25,(vI (Ea u5 i1))),(182,(vP 121 0))],(ad5 p p1 p2 v1 u1 u6 w6 v2 u3)⟩) {fin:=⟨[],[(63,63),(65,65),(71,71),(72,72),(73,73),(74,74),(75,75),(76,76),(79,79),(121,121)]⟩,ts:=[2,4,9,10,13,24,25,182] } (cs:=[]) (by kernel_rfl) trivial .refl ?_
          refine aO h fun⟨a1,a2,a3⟩ h=> ?_
          refine di tT mX ⟨aax,[(eG p p1 p2 v1),bX,(yc u1),(yS u1),(nP u6),(74,some (.arr 3 1 w6.length (Mk p2 u5 u1 i1 w6))),(rY v2),(tJ v2 u6 w6),(EI u3),(121,none)]⟩ [_,_,_,_,_,aD w6.length 1 (Zu p2 u5 u1 i1 w6) (Mk p2 u5 u1 i1 w6)] {an:=[(19, .arr 0 (Mk p2 u5 u1 i1 w6))] } [] ⟨a1,a2,(tL a2),a3,(tL a3),(aK _ _ _ _ _ _ _ _ rfl (fun j hj=>(match j,hj with|0,_=>rfl))),trivial⟩ (dX.le (st':=⟨aax,[(eG p p1 p2 v1),bX,(yc u1),(yS u1),(nP u6),(74,some (aaF p2 u5 u1 i1 w6)),(rY v2),(76,some (.cells 80 [(.own 73 true u6.length),(.own 74 true (aac p2 u5 u1 i1 w6)),(.own 75 true v2.length)])),(EI u3),(121,none)]⟩) ⟨⟨tR,tR,tR,tR,tR,tR,trivial⟩,(hN 5 ⟨rfl,oW,⟨rfl, .refl _,⟨rfl,bH ⟨gV.refl _,cW,gV.refl _,trivial⟩,⟨rfl, .refl _,⟨rfl, .refl _,trivial⟩⟩⟩⟩⟩)⟩) ?_
          obtain rfl:=oi h
          exact⟨.inl rfl,by kernel_rfl⟩
         ·clear hy
          obtain⟨u8,rfl⟩: ∃q,q=y5:=⟨_,rfl⟩
          refine aI (fz ⟨[(2,(vP 63 0)),(4,(vP 65 0)),(9,(vP 71 0)),(10,(vP 76 0)),pF],[(eG p p1 p2 v1),bX,(yc u1),(yS u1),(nP u6),(qg u8),(rY v2),(tJ v2 u6 u8),(EI u3)]⟩ []) ?_
          refine aQ (bE h fun y6 hy h=> ?_)
          refine jb (Dy p p1 p2 v1 u1 u6 u8) (K:=69) (V:=3) (s0:=(v2)) ⟨69,3,true,false,2,1,u3.length,xX af.cell u3,xY (aG .i64) u3,[]⟩ 79 122 (fun i2=>(.agg (Yq u3 i2))) (fun i2=>(sI (at' (u3.map Prod.snd) i2))) hy [3,4,5] (by kernel_rfl) (by kernel_rfl) (by kernel_rfl) (fun _ _=> ⟨rfl,rfl⟩) (fun _ _=> ⟨MP rfl,lG _ _⟩) (fun _=>(dX.fin (st':=(adw p p1 p2 v1 u1 u6 u8 v2)) (cs:=[]) ⟨[],[(63,63),(65,65),(71,71),(72,72),(73,73),(74,74),(75,75),(76,76),(122,122)]⟩ [2,4,9,10,208] (by kernel_rfl) trivial)) (fun s=>by obtain⟨u9,rfl⟩: ∃q,q=s:=⟨_,rfl⟩;kernel_rfl) (fun B s i2 s' hi h=> ?_) ?_
          ·clear hy
           unfold jL at h
           obtain⟨u9,rfl⟩: ∃q,q=s:=⟨_,rfl⟩
           refine Yo tT (⟨(aaM u3 i2),[(eG p p1 p2 v1),bX,(yc u1),(yS u1),(nP u6),(qg u8),(rY u9),(tJ u9 u6 u8),(122,none),(125,some (aaA u3 i2))]⟩) {fr:=Xi [(3,125)],fin:=⟨[],[(63,63),(65,65),(71,71),(72,72),(73,73),(74,74),(75,75),(76,76),(122,122),(125,125)]⟩,ts:=[2,4,9,10,26,27,208] } (cs:=[]) (by kernel_rfl) trivial .refl ?_
           refine bI h (fun hb7 h=> ?_) (fun _ h=> ?_)
           ·skip
            refine aI (dX.le (st':=⟨(aaM u3 i2),[(eG p p1 p2 v1),bX,(yc u1),(yS u1),(nP u6),(qg u8),(rY u9),(tJ u9 u6 u8),(122,none),(125,some (abD u3 i2))]⟩) ⟨⟨tR,tR,tR,tR,tR,tR,tR,trivial⟩,(hN 9 ⟨rfl,bH ⟨gV.refl _,gV.of (congrArg (fun n=>CV.d (.int .i64 n)) (of_decide_eq_true hb7)),trivial⟩,trivial⟩)⟩) ?_
            refine aO h fun⟨a1,a2⟩ h=> ?_
            refine di tT mX ⟨VF,[(eG p p1 p2 v1),bX,(yc u1),(yS u1),(nP u6),(qg u8),(75,some (.arr 69 2 u9.length (MB u1 u3 i2 u9))),(tJ u9 u6 u8),(122,none)]⟩ [(0:Int)≤0∧(0:Int)<(2:Nat),(0:Int)≤1∧(1:Int)<(2:Nat),_,_,_,(0:Int)≤0∧(0:Int)<(2:Nat),_,aD u9.length 2 (aas u1 u3 i2 u9) (MB u1 u3 i2 u9)] {an:=[(17, .arr 0 (MB u1 u3 i2 u9))] } [] ⟨((by decide)),((by decide)),a1,(tL a1),a2,((by decide)),(tL a2),(aK _ _ _ _ _ _ _ _ rfl (fun j hj=>(match j,hj with|0,_=>rfl|1,_=>rfl))),trivial⟩ (dX.le (st':=⟨VF,[(eG p p1 p2 v1),bX,(yc u1),(yS u1),(nP u6),(qg u8),(75,some (aal u1 u3 i2 u9)),(76,some (.cells 80 [(.own 73 true u6.length),(.own 74 true u8.length),(.own 75 true (ZV u1 u3 i2 u9))])),(122,none)]⟩) ⟨⟨tR,tR,tR,tR,tR,trivial⟩,(hN 6 ⟨rfl,oW,⟨rfl,bH ⟨gV.refl _,gV.refl _,cW,trivial⟩,(.refl _)⟩⟩)⟩) ?_
            obtain rfl:=oi h
            exact⟨.inl rfl,by kernel_rfl⟩
           ·skip
            refine aO h fun a1 h=> ?_
            refine aI (dX.le (st':=⟨(aaM u3 i2),[(eG p p1 p2 v1),bX,(yc u1),(yS u1),(nP u6),(qg u8),(rY u9),(tJ u9 u6 u8),(122,none),(125,some (Zy u3 i2))]⟩) ⟨⟨tR,tR,tR,tR,tR,tR,tR,trivial⟩,(hN 9 ⟨rfl,bH ⟨gV.refl _,gV.of (congrArg (fun n=>CV.d (.int .i64 n)) a1),trivial⟩,trivial⟩)⟩) ?_
            refine aO h fun⟨a1,a2⟩ h=> ?_
            refine di tT mX ⟨VF,[(eG p p1 p2 v1),bX,(yc u1),(yS u1),(nP u6),(qg u8),(75,some (.arr 69 2 u9.length (LX u1 u3 i2 u9))),(tJ u9 u6 u8),(122,none)]⟩ [(0:Int)≤0∧(0:Int)<(2:Nat),(0:Int)≤1∧(1:Int)<(2:Nat),_,_,_,(0:Int)≤1∧(1:Int)<(2:Nat),_,aD u9.length 2 (aaS u1 u3 i2 u9) (LX u1 u3 i2 u9)] {an:=[(17, .arr 0 (LX u1 u3 i2 u9))] } [] ⟨((by decide)),((by decide)),a1,(tL a1),a2,((by decide)),(tL a2),(aK _ _ _ _ _ _ _ _ rfl (fun j hj=>(match j,hj with|0,_=>rfl|1,_=>rfl))),trivial⟩ (dX.le (st':=⟨VF,[(eG p p1 p2 v1),bX,(yc u1),(yS u1),(nP u6),(qg u8),(75,some (aaL u1 u3 i2 u9)),(76,some (.cells 80 [(.own 73 true u6.length),(.own 74 true u8.length),(.own 75 true (ZY u1 u3 i2 u9))])),(122,none)]⟩) ⟨⟨tR,tR,tR,tR,tR,trivial⟩,(hN 6 ⟨rfl,oW,⟨rfl,bH ⟨gV.refl _,gV.refl _,cW,trivial⟩,(.refl _)⟩⟩)⟩) ?_
            obtain rfl:=oi h
            exact⟨.inl rfl,by kernel_rfl⟩
          ·clear hy
           obtain⟨v8,rfl⟩: ∃q,q=y6:=⟨_,rfl⟩
           refine aI (fz ⟨[(2,(vP 63 0)),(4,(vP 65 0)),(9,(vP 71 0)),(10,(vP 76 0))],[(eG p p1 p2 v1),bX,(yc u1),(yS u1),(nP u6),(qg u8),(rY v8),(tJ v8 u6 u8)]⟩ []) ?_
           refine aQ (aO h fun⟨a1,a2,a3⟩ h=> ?_)
           refine rg tT ⟨[(2,(vP 63 0)),(4,(vP 65 0)),(9,(vP 71 0)),(10,(vP 76 0)),(28,(vP 127 0))],[(eG p p1 p2 v1),bX,(yc u1),(yS u1),(nP u6),(qg u8),(rY v8),(tJ v8 u6 u8),(VQ p),(UA p)]⟩ [_,(p.buses:Int)=p.buses,_,_,(sF p).length=p.buses.toNat,aD p.buses.toNat 1 (fun _ j=>[(.bool false)].getD j .nilp) (BX p)] {an:=[(2, .arr (sF p).length (BX p))],fr:=[(2,126),(3,127)] } [] ⟨a1,rfl,a2,a3,(List.length_replicate),(aW _ _ _ _ _ (fun j hj=>(match j,hj with|0,_=>rfl))),trivial⟩ ?_
           refine aQ (aQ (bE h fun um hr_9 h=> ?_))
           have q0:=rk [(0,71),(1,72),(2,128)] (gF u1 hr_9)
           refine ri tT ⟨afS,[(eG p p1 p2 v1),bX,(71,some (ZR u1)),(nP u6),(qg u8),(rY v8),(tJ v8 u6 u8),(VQ p),(UA p),(128,some (.cells 147 [(.ptr 71 0)]))]⟩ [_,u1.arcs.length=u1.arcs.length] {an:=[(1,cA q0 [71,72])] } [72] ⟨q0,rfl,trivial⟩ (.trans (fz ⟨afS,[(eG p p1 p2 v1),bX,(nP u6),(qg u8),(rY v8),(tJ v8 u6 u8),(VQ p),(UA p),(128,some (aby u1))]⟩ [71]) (fz ⟨(adj u1),[(eG p p1 p2 v1),bX,(nP u6),(qg u8),(rY v8),(tJ v8 u6 u8),(VQ p),(UA p)]⟩ [128])) ?_
           refine aB (bE h fun x3 hr_10 h=> ?_)
           refine vW 129 [(2,(vP 63 0)),(28,(vP 127 0))] [] [129,63,127,126] (.iV []) [(129,some (.loop dF 0 [(2,(vP 63 0)),(28,(vP 127 0))])),(eG p p1 p2 v1),(127,some (.cells 27 [(.own 126 true x3.length)])),(126,some (bZ 4 1 aj x3))] (Xp u1) 103 [] (ZQ u1) [(129,some (.loop dF 0 [(2,(vP 63 0)),(28,(vP 127 0))])),(eG p p1 p2 v1),(UA p),(VQ p)] [(.one (.yl 129)),(sD (UW u1))] dF 0 [(2,(vP 63 0)),(28,(vP 127 0))] (by kernel_rfl) (by kernel_rfl) (by kernel_rfl) (by kernel_rfl) (by kernel_rfl) (by kernel_rfl) (by kernel_rfl) (rK [(0,129),(1,63),(2,127),(3,126)] (gU u1.arcs u1.from_ (⟨p.buses,p1,p2,v1⟩:ah) (sF p) hr_10)) (by kernel_rfl) rfl (KC.zero rfl) (dX.fin (st':=⟨(adj u1),[(eG p p1 p2 v1),bX,(nP u6),(qg u8),(rY v8),(tJ v8 u6 u8),(126,some (bZ 4 1 aj x3)),(127,some (.cells 27 [(.own 126 true x3.length)]))]⟩) (cs:=[]) ⟨[],[(63,63),(65,65),(73,73),(74,74),(75,75),(76,76),(126,126),(127,127)]⟩ [2,4,10,28,235] (by kernel_rfl) trivial) ?_
           refine sd tT mX ⟨[(4,(vP 65 0)),(5,(vO 126 true x3.length)),(6,(vI 0))],[(65,some (.cells 80 [(.own 73 true u6.length),(.own 74 true u8.length),(.own 75 true v8.length)])),(nP u6),(qg u8),(rY v8),(126,some (bZ 4 1 aj x3))]⟩ [] {} [] trivial ?_
           refine aI (.trans (dX.fin (st':=⟨[(4,(vP 4 0)),(5,(vO 3 true x3.length)),(6,(vI 0))],[(0,some (F7 u6)),(1,some (F7 u8)),(2,some (WQ v8)),(3,some (bZ 4 1 aj x3)),(4,some (.cells 80 [(.own 0 true u6.length),(.own 1 true u8.length),(.own 2 true v8.length)]))]⟩) (cs:=[]) ⟨[],[(73,0),(74,1),(75,2),(126,3),(65,4)]⟩ [4,5,6] (by kernel_rfl) trivial) (dX.le (st':=⟨[(4,(vP 4 0)),(5,(vO 3 false x3.length)),(6,(vI 0))],[(0,some (F7 u6)),(1,some (F7 u8)),(2,some (WQ v8)),(3,some (bZ 4 1 aj x3)),(4,some (.cells 80 [(.own 0 false u6.length),(.own 1 false u8.length),(.own 2 false v8.length)]))]⟩) ⟨⟨tR,⟨_,rfl,y7.v (uG.one (cN))⟩,tR,trivial⟩,(hN 4 ⟨rfl,bH ⟨cN,cN,cN,trivial⟩,trivial⟩)⟩)) ?_
           refine aR ?_
           obtain rfl:=oi h
           exact rh [(.agg [(.own 0 false u6.length),(.own 1 false u8.length),(.own 2 false v8.length)]),(.one (.own 3 false x3.length)),(sI 0)] (.refl _) (hN 4 ⟨rfl,trivial,trivial⟩)
       |ret v=>
        obtain rfl:=oi h
        unfold G6
        intro e st hn ha hR
        cases e with
        |normal=>exact absurd rfl hn
        |exit id=>exact hR
        |goto l=>exact hR
        |ret=>exact hR
        |panic c=>exact hR
        |outgrown=>exact hR
     |ret v=>
      obtain rfl:=oi h
      unfold G6
      intro e st hn ha hR
      cases e with
      |normal=>exact absurd rfl hn
      |exit id=>exact hR
      |goto l=>exact hR
      |ret=>exact hR
      |panic c=>exact hR
      |outgrown=>exact hR
   |ret v=>
    obtain rfl:=oi h
    unfold G6
    intro e st hn ha hR
    cases e with
    |normal=>exact absurd rfl hn
    |exit id=>exact hR
    |goto l=>exact hR
    |ret=>exact hR
    |panic c=>exact hR
    |outgrown=>exact hR
noncomputable def zT:iG:=⟨[25,26],OA ([1,1,1,1,0,1,0]++[0]) (tq Tryz.f60),OA ([1,1,1,1,0,1,0]++[1]) (tq Tryz.f60),35,[]⟩
section
variable (u2:(List Part))
abbrev aa1:Nat × Option Ob:=(0,some (.loop zT 0 [(9,(vP 1 0))]))
abbrev ad4:List (Nat × Option Ob):=[aa1,(1,some (.cells 132 [(.own 2 false u2.length)])),(2,some (bZ 112 2 Part.cell u2))]
end
theorem nD (u0:Int) (u1:Int) (u3:Int) (u2:(List Part)):Xu Tryz.prog 0 [(.agg [(cI u0),(cI u1)]),(sI u3)] (ad4 u2) (fun _=>vB true) (fun r=>[aa1,(1,some (.cells 132 [(.own 3 false r.length)])),(2,none),(3,some (bZ 112 2 Part.cell r))]) (fV u0 u1 u3 u2):=
  scY tT mX zT ⟨[9],[0,1,2],fun _=>[(10,(vD (Da (SL u0 u1) 0)))],fun _=>[]⟩ (.rg {fr:=[(0,6)],fz:=[6]} []<| .e ())
  (.r<| .it (.a2 ((u2.length+[(⟨u0,u1⟩:Part)].length)*16≤140737488355328) (u2.length+[(⟨u0,u1⟩:Part)].length≤4611686018427387904)<| .rg {an:=[(2, .arr [(⟨u0,u1⟩:Part)].length (au Part.cell [(⟨u0,u1⟩:Part)])),(3, .arr (u2++[(⟨u0,u1⟩:Part)]).length (au Part.cell (u2++[(⟨u0,u1⟩:Part)])))],fr:=[(2,7),(3,8)]} [.pf ⟨[(⟨u0,u1⟩:Part)].length=1,rfl⟩, .pf ⟨aD 1 2 (pz 2 (SL u0 u1)) (au Part.cell [(⟨u0,u1⟩:Part)]),(by intro i hi j hj;match i,j,hi,hj with|0,0,_,_=>rfl|0,1,_,_=>rfl)⟩, .e (u2.length),0,1, .pf ⟨(u2++[(⟨u0,u1⟩:Part)]).length=u2.length+[(⟨u0,u1⟩:Part)].length,List.length_append⟩, .pf ⟨aD (u2.length+[(⟨u0,u1⟩:Part)].length) 2 (sW (au Part.cell u2) u2.length (au Part.cell [(⟨u0,u1⟩:Part)])) (au Part.cell (u2++[(⟨u0,u1⟩:Part)])),dw _ _ _ _⟩]<| .en (u2++[(⟨u0,u1⟩:Part)]) [] [(8,3)])
(.im (.re 1 0 2 9)<| .en u2 [] [(9,3)]))
theorem Al (b:Int) (x1:(List Bool)):fB Tryz.prog 122 [(sI b),(sD (Da [(bM none 1 aj x1)] 0))] [] (fun r=>(vB r)) (fun _=>[]) (lK b x1):=
  gJ tT mX Tryz.func122 (
  .r<| .a1 ((gB [((decide (0≤b)),true)]=true→(0:Int)≤b∧b<(x1.length:Int)))<| .r<| .e (bif (decide (0≤b))then(at' x1 b.toNat)else false))
section
variable (f_:(List Bool))
abbrev Qh:=(yC [(Da [(bM none 1 aj f_)] 0)])
end
theorem uZ (s_:(List Int)) (f_:(List Bool)):fB Tryz.prog 128 [(sD (yJ s_)),(sD (.fn 122 1 (Qh f_)))] [] (fun r=>(vI r)) (fun _=>[]) (gX s_ f_):=
  gJ tT mX Tryz.func128 (
  .r<| .r<| .lp (σ:=Int) (β:=Unit) (0) [] [] ⟨[0,1,7],[],fun t8=>[(8,(vI t8))],fun t8=>[]⟩ ⟨[],[],fun _=>[],fun _=>[]⟩
  (fun t8=> .r<| .it (.r<| .cl 5 (Al (at' s_ t8.toNat) f_) fun r_=> .a1 (Ns s_ t8)<| .rg {} [0,1]<| .it (.r<| .e (.done (.ret t8)))
  (.r<| .e (.next (k4 t8))))
  (.e (.done (.brk ()))))
  (fun _=> .r<| .e (-1)))
theorem kU (s_:(List Int)) (f_:(List Bool)):fB Tryz.prog 100 [(sD (yJ s_)),(sD (.fn 122 1 (Qh f_)))] [] (fun r=>(vB r)) (fun _=>[]) (bU s_ f_):=
  gJ tT mX Tryz.func100 (
  .r<| .cl 2 (uZ s_ f_) fun r_=> .r<| .e (decide (0≤r_)))
section
variable (x1:Int) (u5:(List Source)) (u3:(List Link)) (u1:(List aC)) (x2:(List Bool)) (v2:(List Bool)) (v3:(List Bool)) (v4:(List Bool)) (v5:(List Bool)) (v6:(List Bool)) (v7:(List Bool)) (x3:(List Bool)) (u6:(List Part)) (r_:Bool) (u4:Int) (w0:(List Part)) (u7:(List Part)) (v1:Bool) (u2:Int) (u0:Int)
abbrev ad7:List SV:=[(.one (.yl 0)),(sD (k15 x1 u5 u3 u1)),(sD (Da [(bM none 1 aj x2),(bM none 1 aj v2),(bM none 1 aj v3),(bM none 1 aj v4),(bM none 1 aj v5),(bM none 1 aj v6),(bM none 1 aj v7)] 0)),(sD (Da [(bM none 1 aj x3)] 0))]
abbrev acU:List (Nat × Option Ob):=[(1,some (.cells 132 [(.own 20 false u6.length)])),(2,none),(20,some (bZ 112 2 Part.cell u6))]
abbrev Yb:=((gB [(r_,true)]=true→(0:Int)≤(at' u5 u4.toNat).bus∧(at' u5 u4.toNat).bus<(x3.length:Int)))
abbrev Ot:=(w0,(k4 u4))
abbrev abR:List (Nat × Option Ob):=[(1,some (.cells 132 [(.own 20 false u7.length)])),(20,some (bZ 112 2 Part.cell u7))]
abbrev adI:=(bif v1 then(!((at' x3 (((at' u3 u2.toNat).a).toNat))==(at' x3 (((at' u3 u2.toNat).b).toNat))))else false)
abbrev YD:=((gB [(v1,true)]=true→(0:Int)≤(at' u3 u2.toNat).a∧(at' u3 u2.toNat).a<(x3.length:Int)))
abbrev Yv:=((gB [(v1,true)]=true→(0:Int)≤(at' u3 u2.toNat).b∧(at' u3 u2.toNat).b<(x3.length:Int)))
abbrev acO:List SV:=[(sD (bM none 1 (aG .i64) [(k28 u1 u0).e0,(k28 u1 u0).e1])),(sD (.fn 122 1 (Qh x3)))]
end
theorem BN (x1:Int) (u5:(List Source)) (u3:(List Link)) (u1:(List aC)) (x2:(List Bool)) (v2:(List Bool)) (v3:(List Bool)) (v4:(List Bool)) (v5:(List Bool)) (v6:(List Bool)) (v7:(List Bool)) (x3:(List Bool)) (v8:(List Part)):fB Tryz.prog 121 (ad7 x1 u5 u3 u1 x2 v2 v3 v4 v5 v6 v7 x3) (ad4 v8) (fun r=>(.iV [])) (fun r=>[aa1,(1,some (.cells 132 [(.own 3 false r.length)])),(2,none),(3,some (bZ 112 2 Part.cell r))]) (oO x1 u5 u3 u1 x2 v2 v3 v4 v5 v6 v7 x3 v8):=
  gJ tT mX Tryz.func121 (
  .r<| .im (.re 1 0 2 23)<| .lp (σ:=((List Part) × Int)) (β:=(List Part)) (v8,0) [] [(23,20)] ⟨[0,1,2,3,13,14],[0],fun(u6,u4)=>[(15,(vI u4))],fun(u6,u4)=>(acU u6)⟩ ⟨[0,1,2,3],[0],fun u9=>[],fun u9=>(acU u9)⟩
  (fun(u6,u4)=> .r<| .it (.a1 (k6 u4 u5)<| .rg {fr:=[(3,22)],fz:=[22]} []<| .cl 3 (iN (⟨x1,u5,u3,u1⟩:ah) (⟨x2,v2,v3,v4,v5,v6,v7⟩:State) u4) fun r_=> .fk (bif r_ then(!(at' x3 (((at' u5 u4.toNat).bus).toNat)))else false) (.cy 18 (rkY [(2,20),(3,23)] (nD 2 u4 ((at' u5 u4.toNat).power) u6)) fun w0=> .a1 (Yb u5 x3 r_ u4)<| .rg {ov:=[(12,true,2)]} [3,0, .k 1]<| .f<| .r<| .en (.next (Ot u4 w0)) [] [(23,20)])
  (.a1 (Yb u5 x3 r_ u4)<| .rg {ov:=[(12,false,1)],sk:=[13,14,15,16,17,18,19]} [2,0]<| .f<| .r<| .e (.next (Ot u4 u6))))
  (.e (.done (.brk u6))))
  (fun u9=> .r<| .lp (σ:=((List Part) × Int)) (β:=(List Part)) (u9,0) [] [] ⟨[0,1,2,3,43,44],[0,2],fun(u7,u2)=>[(45,(vI u2))],fun(u7,u2)=>(abR u7)⟩ ⟨[0,1,3],[0,2],fun v0=>[],fun v0=>(abR v0)⟩
  (fun(u7,u2)=> .r<| .it (.a1 (k3 u3 u2)<| .rg {fr:=[(3,27)],fz:=[27]} []<| .cl 3 (fo (⟨x1,u5,u3,u1⟩:ah) (⟨x2,v2,v3,v4,v5,v6,v7⟩:State) u2) fun v1=> .fk (adI u3 x3 v1 u2) (.cy 23 (rkY [(2,20),(3,28)] (nD 3 u2 ((at' u3 u2.toNat).most) u7)) fun w1=> .a2 (YD u3 x3 v1 u2) (Yv u3 x3 v1 u2)<| .rg {ov:=[(17,true,3)]} [4,0,1, .k 2]<| .f<| .r<| .en (.next (Ot u2 w1)) [] [(28,20)])
  (.a2 (YD u3 x3 v1 u2) (Yv u3 x3 v1 u2)<| .rg {ov:=[(17,false,2)],sk:=[18,19,20,21,22,23,24]} [3,0,1]<| .f<| .r<| .e (.next (Ot u2 u7))))
  (.e (.done (.brk u7))))
  (fun v0=> .r<| .lp (σ:=((List Part) × Int)) (β:=(List Part)) (v0,0) [] [] ⟨[0,3,78,79],[0,2],fun(u8,u0)=>[(80,(vI u0))],fun(u8,u0)=>(abR u8)⟩ ⟨[],[0,2],fun o905=>[],fun o905=>[(1,some (.cells 132 [(.own 20 false o905.length)])),(20,some (bZ 112 2 Part.cell o905))]⟩
  (fun(u8,u0)=> .r<| .it (.a1 (k8 u0 u1)<| .rg {fr:=[(3,31)],fz:=[31]} []<| .cl 3 ⟨fun{v9} hr_4=>((Fn.leH (args:=(acO u1 x3 u0)) (args':=[(sD (.sl (some true) 1 [(k28 u1 u0).e0,(k28 u1 u0).e1].length (fun i j=>((UF u1 u0).getD (0+(0+(i*1+j))) .nilp)))),(sD (.fn 122 1 (Qh x3)))]) (hin:=[]) (hin':=[]) (kU [(k28 u1 u0).e0,(k28 u1 u0).e1] x3 hr_4) ⟨uG.one (gV.d (jK.sl (.inl rfl) (by intro i hi j hj;match i,j,hi,hj with|0,0,_,_=>exact .refl _|1,0,_,_=>exact .refl _))),uG.refl _,trivial⟩ trivial):Fn Tryz.prog 100 [(sD (.sl (some true) 1 [(k28 u1 u0).e0,(k28 u1 u0).e1].length (fun i j=>((UF u1 u0).getD (0+(0+(i*1+j))) .nilp)))),(sD (.fn 122 1 (Qh x3)))] [] (vB v9) [])⟩ fun v9=> .r<| .fk v9 (.cy 7 (rkY [(2,20),(3,32)] (nD 0 u0 (LV u1 u0) u8)) fun w2=> .rg {ov:=[(1,true,1)]} [.k 0]<| .f<| .r<| .en (.next (Ot u0 w2)) [] [(32,20)])
  (.rg {ov:=[(1,false,0)],sk:=[2,3,4,5,6,7,8]} []<| .f<| .r<| .e (.next (Ot u0 u8))))
  (.e (.done (.brk u8))))
  (fun o905=> .en o905 [] [(20,3)]))))
theorem zQ (p:ah) (s_:State):fB Tryz.prog 60 (U3 p s_) [] (fun r=>(.iV [(sD (bM none 2 Part.cell r.1)),(sI r.2)])) (fun _=>[]) (lm p s_):=
  gJ tT mX Tryz.func60 (
  .rg {fr:=[(0,12),(1,13)],fz:=[12,13]} []<| .cl 2 (BD [(0,14),(1,15),(2,16),(3,17),(4,18)] ⟨fun h=>qd p s_ h⟩) fun r_=> .rg {fr:=[(7,19)],fz:=[17]} []<| .r<| .it (.r<| .e (([]:List Part),r_.2.2))
  (.rg {fr:=[(0,20)]} []<| .im (.Qx 20 0 21 112 2 (au Part.cell ([]:List Part)))<| .cl 3 (wY p s_ r_.2.1) fun u0=> .r<| .cl 0 (BD [(0,22),(1,20),(2,21),(3,23)] (BN u0.1 u0.2.1 u0.2.2.1 u0.2.2.2.1 u0.2.2.2.2.1 u0.2.2.2.2.2.1 u0.2.2.2.2.2.2.1 u0.2.2.2.2.2.2.2.1 u0.2.2.2.2.2.2.2.2.1 u0.2.2.2.2.2.2.2.2.2.1 u0.2.2.2.2.2.2.2.2.2.2.1 u0.2.2.2.2.2.2.2.2.2.2.2 ([]:List Part))) fun u1=> .rf 22 [9] [] none 0 []<| .rg {fz:=[23]} []<| .e (u1,0)))
section
variable (x:aA) (t9:Int)
abbrev XL:List CV:=[(.d (bM none 1 (aG .i64) x.sources)),(.d (bM none 1 (aG .i64) x.links)),(.d (bM none 2 af.cell x.racks))]
abbrev afr:List SV:=[(.agg (XL x))]
abbrev DX:=((0:Int)≤t9∧t9<(x.racks.length:Int))
abbrev Np:=((at' x.racks t9.toNat).e1)
end
theorem kR (x:aA):fB Tryz.prog 66 (afr x) [] (fun r=>(vI r)) (fun _=>[]) (gY x):=
  gJ tT mX Tryz.func66 (
  .rg {fr:=[(0,5)]} []<| .r<| .r<| .lp (σ:=(Int × Int)) (β:=Int) (0,0) [] [] ⟨[7,8],[],fun(n,t9)=>[(3,(vI n)),(9,(vI t9))],fun(n,t9)=>[]⟩ ⟨[],[],fun n1=>[(3,(vI n1))],fun n1=>[]⟩
  (fun(n,t9)=> .r<| .it (.a1 (DX x t9)<| .rg {fr:=[(2,9)],fz:=[9]} []<| .rg {} [.pf ⟨(0:Int)≤0∧(0:Int)<(2:Nat),(by decide)⟩, .pf ⟨(0:Int)≤1∧(1:Int)<(2:Nat),(by decide)⟩]<| .r<| .e (.next ((IntKind.wrap .i64 (n+(IntKind.wrap .i64 (((at' x.racks t9.toNat).e0)+(Np x t9))))),(k4 t9))))
  (.e (.done (.brk n))))
  (fun n1=> .r<| .e n1))
section
variable (u0:Int) (p:ah) (n:Int)
abbrev D5:=((0:Int)≤u0∧u0<(p.racks.length:Int))
abbrev abw:=((IntKind.wrap .i64 (n+((at' p.racks u0.toNat).power))),(k4 u0))
end
theorem Bq (p:ah) (s_:State):fB Tryz.prog 61 (U3 p s_) [] (fun r=>(.iV [(sB r.1),(sI r.2)])) (fun _=>[]) (nG p s_):=
  gJ tT mX Tryz.func61 (
  .rg {fr:=[(0,12),(1,13)],fz:=[13]} []<| .cl 2 (BD [(0,14),(1,15),(2,16),(3,17),(4,18)] ⟨fun h=>qd p s_ h⟩) fun r_=> .rg {fr:=[(7,19)],fz:=[14,15,16]} []<| .fz [19]<| .r<| .it (.r<| .e (false,r_.2.2))
  (.r<| .r<| .lp (σ:=(Int × Int)) (β:=Int) (0,0) [] [] ⟨[6,23,24],[],fun(n,u0)=>[(9,(vI n)),(25,(vI u0))],fun(n,u0)=>[]⟩ ⟨[6],[],fun n1=>[(9,(vI n1))],fun n1=>[]⟩
  (fun(n,u0)=> .r<| .it (.a1 (D5 u0 p)<| .rg {fr:=[(2,23)],fz:=[23]} []<| .r<| .r<| .e (.next (abw u0 p n)))
  (.e (.done (.brk n))))
  (fun n1=> .cl 1 (kR r_.1) fun u1=> .r<| .e ((decide (u1=n1)),0))))
theorem wJ (a:(List Part)) (b:(List Part)):fB Tryz.prog 64 [(sD (bM none 2 Part.cell a)),(sD (bM none 2 Part.cell b))] [] (fun r=>(vB r)) (fun _=>[]) (lZ a b):=
  gJ tT mX Tryz.func64 (
  .r<| .r<| .it (.r<| .e false)
  (.r<| .lp (σ:=Int) (β:=Unit) (0) [] [] ⟨[0,1],[],fun i=>[(5,(vI i))],fun i=>[]⟩ ⟨[],[],fun _=>[],fun _=>[]⟩
  (fun i=> .r<| .it (.a2 ((0:Int)≤i∧i<(a.length:Int)) ((0:Int)≤i∧i<(b.length:Int))<| .rg {} [0,1]<| .it (.r<| .e (.done (.ret false)))
  (.r<| .e (.next (k4 i))))
  (.e (.done (.brk ()))))
  (fun _=> .r<| .e true)))
theorem qB (s_:(List Int)) (u0:Bool):fB Tryz.prog 127 [(sD (bM (some u0) 1 (aG .i64) s_))] [] (fun r=>(vO 0 false r.length)) (fun r=>[(0,some (bZ 3 1 (aG .i64) r))]) (qH s_ u0):=
  gJ tT mX Tryz.func127 (
  .r<| .r<| .it (.r<| .im (.ad 2 2 3 1 (au (aG .i64) ([]:List Int)))<| .en ([]:List Int) [] [(2,0)])
  (.a2 ((([]:List Int).length+s_.length)*8≤140737488355328) (([]:List Int).length+s_.length≤4611686018427387904)<| .rg {an:=[(0, .arr ([]:List Int).length (au (aG .i64) ([]:List Int))),(2, .arr (([]:List Int)++s_).length (au (aG .i64) (([]:List Int)++s_)))],fr:=[(0,3),(2,4)]} [.pf ⟨([]:List Int).length=0,rfl⟩, .pf ⟨aD 0 1 (pz 1 []) (au (aG .i64) ([]:List Int)),(fun i hi=>absurd hi (Nat.not_lt_zero i))⟩, .e (([]:List Int).length),0,1, .pf ⟨(([]:List Int)++s_).length=([]:List Int).length+s_.length,List.length_append⟩, .pf ⟨aD (([]:List Int).length+s_.length) 1 (sW (au (aG .i64) ([]:List Int)) ([]:List Int).length (au (aG .i64) s_)) (au (aG .i64) (([]:List Int)++s_)),dw _ _ _ _⟩]<| .en (([]:List Int)++s_) [] [(4,0)]))
theorem wT (s:(List Int)) {r:(List Int)} (h:iR s=some r):Fn Tryz.prog 127 [(sD (bM none 1 (aG .i64) s))] [] (vO 0 false r.length) [(0,some (bZ 3 1 (aG .i64) r))]:=by
 refine Fn.nn (qB s true h) fun hl=> ?_
 have hs:s=[]:=List.eq_nil_of_length_eq_zero hl
 subst hs
 exact qB [] false (by rw [←h];kernel_rfl)
theorem Av (x:Int):fB Tryz.prog 153 [(sI x)] [] (fun r=>(vB r)) (fun _=>[]) (wX x):=
  gJ tT mX Tryz.func153 (
  .r<| .r<| .e (!decide (x=x)))
theorem FP (x:Int) (y:Int):fB Tryz.prog 145 [(sI x),(sI y)] [] (fun r=>(vI r)) (fun _=>[]) (tQ x y):=
  gJ tT mX Tryz.func145 (
  .r<| .cl 1 (Av x) fun r_=> .r<| .cl 1 (Av y) fun u0=> .r<| .r<| .it (.r<| .it (.r<| .e 0)
  (.r<| .e (-1)))
  (.r<| .it (.r<| .e 1)
  (.r<| .it (.r<| .e (-1))
  (.r<| .it (.r<| .e 1)
  (.r<| .e 0)))))
theorem BU (s1:(List Int)) (s2:(List Int)):fB Tryz.prog 126 [(sD (yJ s1)),(sD (yJ s2))] [] (fun r=>(vI r)) (fun _=>[]) (tF s1 s2):=
  gJ tT mX Tryz.func126 (
  .r<| .r<| .lp (σ:=Int) (β:=Unit) (0) [] [] ⟨[0,1,9,10],[],fun u0=>[(11,(vI u0))],fun u0=>[]⟩ ⟨[0,1],[],fun _=>[],fun _=>[]⟩
  (fun u0=> .r<| .it (.a1 (Ns s1 u0)<| .r<| .r<| .it (.r<| .e (.done (.ret 1)))
  (.a1 (Ns s2 u0)<| .r<| .cl 2 (FP (at' s1 u0.toNat) (at' s2 u0.toNat)) fun r_=> .r<| .r<| .it (.r<| .e (.done (.ret r_)))
  (.r<| .e (.next (k4 u0)))))
  (.e (.done (.brk ()))))
  (fun _=> .r<| .it (.r<| .e (-1))
  (.r<| .e 0)))
theorem PD (u0:(List Int)):fB Tryz.prog 125 [(sD (yJ u0))] [] (fun r=>(vI r)) (fun _=>[]) (EX u0):=
  gJ tT mX Tryz.func125 (
  .r<| .r<| .r<| .lp (σ:=Int) (β:=Unit) (0) [] [] ⟨[3,6,7],[],fun t8=>[(8,(vI t8))],fun t8=>[]⟩ ⟨[3],[],fun _=>[],fun _=>[]⟩
  (fun t8=> .r<| .it (.a1 (Ns u0 t8)<| .r<| .r<| .it (.r<| .e (.done (.ret (at' u0 t8.toNat))))
  (.r<| .e (.next (k4 t8))))
  (.e (.done (.brk ()))))
  (fun _=> .r<| .e 0))
section
variable (a:Way) (b:Way) (r_:Int)
abbrev J2:=(IntKind.wrap .i64 (a.bJ - b.bJ))
abbrev J5:=(IntKind.wrap .i64 ((a.links.length:Int) - (b.links.length:Int)))
abbrev adF:List (Nat × Option Ob):=[(5,some (bZ 3 1 (aG .i64) [(J2 a b),(J5 a b),r_]))]
abbrev ab6:=(au (aG .i64) [(J2 a b),(J5 a b),r_])
end
theorem FX (a:Way) (b:Way):fB Tryz.prog 124 [(.agg [(cB a.there),(cI a.bJ),(.d (bM none 1 (aG .i64) a.links))]),(.agg [(cB b.there),(cI b.bJ),(.d (bM none 1 (aG .i64) b.links))])] [] (fun r=>(vB r)) (fun _=>[]) (j6 a b):=
  gJ tT mX Tryz.func124 (
  .rg {fr:=[(0,3),(1,4)],fz:=[3,4]} []<| .fk (!b.there) (.rg {ov:=[(3,true,0)],sk:=[4,5,6,7,8,9,10,11,12,13,14,15,16,17,18,19,20,21,22,23]} []<| .e true)
  (.cl 20 (BU a.links b.links) fun r_=> .cr 22 ⟨fun{u0} hr_1=>((Fn.EP (frz:=[5]) (p:=[[(J2 a b),(J5 a b),r_].length=[(J2 a b),(J5 a b),r_].length]) (Fn.le (args':=[(sD (bM (some true) 1 (aG .i64) [(J2 a b),(J5 a b),r_]))]) (PD [(J2 a b),(J5 a b),r_] hr_1) ⟨uG.one (gV.d jK.rW),trivial⟩) (by kernel_rfl) ⟨rfl,trivial⟩ rfl):Fn Tryz.prog 125 [(.one (.own 5 true ([(J2 a b),(J5 a b),r_].length)))] (adF a b r_) (vI u0) (adF a b r_))⟩ fun u0=> .rg {an:=[(21, .arr [(J2 a b),(J5 a b),r_].length (ab6 a b r_))],fr:=[(21,5)],ov:=[(3,false,2)]} [.k 1, .pf ⟨[(J2 a b),(J5 a b),r_].length=3,rfl⟩, .pf ⟨aD 3 1 (pz 1 [(.int .i64 (J2 a b)),(.int .i64 (J5 a b)),(.int .i64 r_)]) (ab6 a b r_),(by intro i hi j hj;match i,j,hi,hj with|0,0,_,_=>rfl|1,0,_,_=>rfl|2,0,_,_=>rfl)⟩, .k 0]<| .e (decide (u0<0))))
section
variable (p:ah) (u3:Int) (u6:(List Way)) (u0:Int) (u1:Int) (u2:(List Way)) (u4:(List Int))
abbrev Uv:=((p.buses:Int)≤9223372036854775807)
abbrev G5:=(List.replicate p.buses.toNat ((⟨false,0,([]:List Int)⟩:Way):Way))
abbrev adU:=(au Way.cell (G5 p))
abbrev abn:=((G5 p).set u3.toNat (⟨true,(at' (G5 p) u3.toNat).bJ,(at' (G5 p) u3.toNat).links⟩:Way))
abbrev adL:=(au Way.cell (abn p u3))
abbrev Us:List (Nat × Option Ob):=[(405,some (bZ 182 3 Way.cell u6))]
abbrev aau:=(⟨(at' p.links u0.toNat).a,(at' p.links u0.toNat).b⟩:af)
abbrev aaN:=(⟨(at' p.links u0.toNat).b,(at' p.links u0.toNat).a⟩:af)
abbrev Sq:=(at' [(aau p u0),(aaN p u0)] u1.toNat)
abbrev abQ:=((Sq p u0 u1).e0)
abbrev XH:=((Sq p u0 u1).e1)
abbrev aem:List DV:=[(.int .i64 (abQ p u0 u1)),(.int .i64 (XH p u0 u1))]
abbrev ab9:List CV:=[(cI (U8 u0 p)),(cI (Xf u0 p)),(cI (Xf u0 p)),(cI (U8 u0 p))]
abbrev aeN:=(at' u2 ((abQ p u0 u1).toNat))
abbrev afO:=(IntKind.wrap .i64 (((aeN p u0 u1 u2).bJ)+((at' p.links u0.toNat).bJ)))
abbrev acW:=(⟨true,(afO p u0 u1 u2),(u4++[u0])⟩:Way)
abbrev aay:=((XH p u0 u1).toNat)
abbrev acP:=((0:Int)≤(Sq p u0 u1).e1∧(Sq p u0 u1).e1<(u2.length:Int))
abbrev aaT:=(u2.set (aay p u0 u1) (acW p u0 u1 u2 u4))
abbrev aeo:=(au Way.cell (aaT p u0 u1 u2 u4))
end
theorem Fa (p:ah) (s_:State) (u3:Int):fB Tryz.prog 99 (k39 p s_ u3) [] (fun r=>(vO 0 true r.length)) (fun r=>[(0,some (bZ 182 3 Way.cell r))]) (qz p s_ u3):=
  gJ tT mX Tryz.func99 (
  .rg {fr:=[(0,403),(1,404)],fz:=[404]} []<| .r<| .a3 ((0:Int)≤p.buses) ((40:Int)*p.buses≤281474976710656) (Uv p)<| .rg {an:=[(2, .arr (G5 p).length (fun _ j=>[(.bool false),(.int .i64 0),nS].getD j .nilp))],fr:=[(2,405)]} [0, .e ((p.buses:Int)),1,2, .pf ⟨(G5 p).length=p.buses.toNat,List.length_replicate⟩, .pf ⟨aD p.buses.toNat 3 (fun _ j=>[(.bool false),(.int .i64 0),nS].getD j .nilp) (fun _ j=>[(.bool false),(.int .i64 0),nS].getD j .nilp),fG _ _ _⟩]<| .im (.uh 405 (some (.arr 182 3 (G5 p).length (fun _ j=>[(.bool false),(.int .i64 0),nS].getD j .nilp))) (some (.arr 182 3 (G5 p).length (adU p))) (Hw (ads _ _ _ _ _ (fun j hj=>match j,hj with|0,_=> .refl _|1,_=> .refl _|2,_=>jK.nil'))))<| .a1 ((0:Int)≤u3∧u3<((G5 p).length:Int))<| .rg {an:=[(4, .arr 0 (adL p u3))]} [0, .t 0 u3 ((G5 p).length), .pf ⟨aD (G5 p).length 3 (eX (adU p) u3.toNat 0 [(.bool true)]) (adL p u3),aK _ _ _ _ _ _ _ _ rfl (fun j hj=>(match j,hj with|0,_=>rfl|1,_=>rfl|2,_=>rfl))⟩]<| .im (.ll 405 (G5 p) (abn p u3))<| .r<| .lp (σ:=((List Way) × Bool)) (β:=(List Way)) ((abn p u3),true) [] [] ⟨[3,4,7],[403],fun(u6,v4)=>[(8,(vO 405 true u6.length)),(9,(vB v4))],fun(u6,v4)=>(Us u6)⟩ ⟨[],[],fun u9=>[(8,(vO 405 true u9.length))],fun u9=>(Us u9)⟩
  (fun(u6,v4)=> .r<| .it (.r<| .r<| .lp (σ:=((List Way) × Bool × Int)) (β:=((List Way) × Bool)) (u6,false,0) [] [] ⟨[3,4,7,26,27],[403],fun(u5,u7,u0)=>[(8,(vO 405 true u5.length)),(9,(vB u7)),(28,(vI u0))],fun(u5,u7,u0)=>(Us u5)⟩ ⟨[3,4,7],[403],fun(v0,v2)=>[(8,(vO 405 true v0.length)),(9,(vB v2))],fun(v0,v2)=>(Us v0)⟩
  (fun(u5,u7,u0)=> .r<| .it (.a1 (Qn p u0)<| .rg {fr:=[(3,781)],fz:=[781]} []<| .cl 3 (fo p s_ u0) fun r_=> .r<| .it (.r<| .e (.next (u5,u7,(k4 u0))))
  (.r<| .lp (σ:=((List Way) × Bool × Int)) (β:=((List Way) × Bool)) (u5,u7,0) [] [] ⟨[3,4,7,10,11,26,27,28,48],[403],fun(u2,u8,u1)=>[(8,(vO 405 true u2.length)),(9,(vB u8)),(49,(vI u1))],fun(u2,u8,u1)=>(Us u2)⟩ ⟨[3,4,7,26,27,28],[403],fun(v1,v3)=>[(8,(vO 405 true v1.length)),(9,(vB v3))],fun(v1,v3)=>(Us v1)⟩
  (fun(u2,u8,u1)=> .r<| .it (.a1 ((0:Int)≤u1∧u1<((2:Nat):Int))<| .rg {an:=[(0, .vals (aem p u0 u1))],fr:=[(1,800)]} [0, .dv 0 ⟨(0:Int)≤u1∧u1<((2:Nat):Int),u1.toNat*2+2≤(ab9 p u0).length,fun ax=>TK (n:=2) (sz:=2) (Nat.le_refl _) ax⟩, .dv 0 ⟨(0:Int)≤u1∧u1<((2:Nat):Int),((ab9 p u0).drop (u1.toNat*2)).take 2=(aem p u0 u1).map .d,fun ax=>Tq (n:=2) (sz:=2) (g:=fun q=>[(cI ((at' [(aau p u0),(aaN p u0)] q).e0)),(cI ((at' [(aau p u0),(aaN p u0)] q).e1))]) (by intro q hq;match q,hq with|0,_=>rfl|1,_=>rfl) ax⟩]<| .a1 ((0:Int)≤(Sq p u0 u1).e0∧(Sq p u0 u1).e0<(u2.length:Int))<| .rg {fr:=[(7,801)],fz:=[801]} [.pf ⟨(0:Int)≤0∧(0:Int)<(2:Nat),(by decide)⟩,0, .t 0 (abQ p u0 u1) u2.length, .pf ⟨(0:Int)≤1∧(1:Int)<(2:Nat),(by decide)⟩]<| .r<| .it (.r<| .e (.next (u2,u8,(k4 u1))))
  (.cl 7 (BD [(0,802)] ⟨fun h=>wT ((aeN p u0 u1 u2).links) h⟩) fun u4=> .a2 ((u4.length+[u0].length)*8≤140737488355328) (u4.length+[u0].length≤4611686018427387904)<| .rg {an:=[(9, .arr [u0].length (au (aG .i64) [u0])),(10, .arr (u4++[u0]).length (au (aG .i64) (u4++[u0])))],fr:=[(9,803),(10,804),(12,805)],fz:=[804]} [2, .pf ⟨[u0].length=1,rfl⟩, .pf ⟨aD 1 1 (pz 1 [(.int .i64 u0)]) (au (aG .i64) [u0]),(by intro i hi j hj;match i,j,hi,hj with|0,0,_,_=>rfl)⟩, .e (u4.length),0,1, .pf ⟨(u4++[u0]).length=u4.length+[u0].length,List.length_append⟩, .pf ⟨aD (u4.length+[u0].length) 1 (sW (au (aG .i64) u4) u4.length (au (aG .i64) [u0])) (au (aG .i64) (u4++[u0])),dw _ _ _ _⟩]<| .fz [805]<| .cl 6 (FX (acW p u0 u1 u2 u4) (at' u2 (aay p u0 u1))) fun v5=> .a1 (acP p u0 u1 u2)<| .rg {} [0, .t 0 (XH p u0 u1) u2.length,1]<| .it (.a1 (acP p u0 u1 u2)<| .rg {an:=[(4, .arr 0 (aeo p u0 u1 u2 u4))]} [0, .t 0 (XH p u0 u1) u2.length, .pf ⟨aD u2.length 3 (eX (au Way.cell u2) (aay p u0 u1) 0 [(.bool true),(.int .i64 (afO p u0 u1 u2)),(bM none 1 (aG .i64) (u4++[u0]))]) (aeo p u0 u1 u2 u4),aK _ _ _ _ _ _ _ _ rfl (fun j hj=>(match j,hj with|0,_=>rfl|1,_=>rfl|2,_=>rfl))⟩]<| .im (.ll 405 u2 (aaT p u0 u1 u2 u4))<| .r<| .r<| .e (.next ((aaT p u0 u1 u2 u4),true,(k4 u1))))
  (.r<| .e (.next (u2,u8,(k4 u1))))))
  (.e (.done (.brk (u2,u8)))))
  (fun(v1,v3)=> .r<| .e (.next (v1,v3,(k4 u0))))))
  (.e (.done (.brk (u5,u7)))))
  (fun(v0,v2)=> .e (.next (v0,v2))))
  (.e (.done (.brk u6))))
  (fun u9=> .r<| .en u9 [] [(405,0)]))
section
variable (u0:Int) (p:ah) (u2:(List Way)) (u1:Int) (u3:(List Short))
abbrev O5:=((0:Int)≤u0∧u0<(p.sources.length:Int))
abbrev WW:=(IntKind.wrap .i64 (((at' p.sources u0.toNat).bJ)+((at' u2 u1.toNat).bJ)))
abbrev afk:=(IntKind.wrap .i64 (Int.tdiv (IntKind.wrap .i64 ((IntKind.wrap .i64 ((400000:Int)+(WW u0 p u2 u1))) - 1)) (WW u0 p u2 u1)))
abbrev Qc:=(⟨u0,(WW u0 p u2 u1),(afk u0 p u2 u1),(at' u2 u1.toNat).links⟩:Short)
abbrev afU:=(u3.length+[(Qc u0 p u2 u1)].length)
abbrev Zr:=(au Short.cell [(Qc u0 p u2 u1)])
abbrev Yf:=(u3++[(Qc u0 p u2 u1)])
abbrev acM:=(au Short.cell (Yf u0 p u2 u1 u3))
end
theorem yg (p:ah) (s_:State) (u1:Int):fB Tryz.prog 68 (k39 p s_ u1) [] (fun r=>(.iV [(sD (bM none 4 Short.cell r.1)),(sI r.2)])) (fun _=>[]) (jd p s_ u1):=
  gJ tT mX Tryz.func68 (
  .rg {fr:=[(0,22),(1,23)],fz:=[23]} []<| .cl 2 (eP p s_) fun r_=> .r<| .r<| .it (.r<| .e (([]:List Short),r_))
  (.r<| .it (.r<| .e (([]:List Short),1))
  (.r<| .rg {fz:=[22]} []<| .im (.ad 9 44 142 4 (au Short.cell ([]:List Short)))<| .lp (σ:=((List Short) × Int)) (β:=(List Short)) (([]:List Short),0) [] [(44,28)] ⟨[2,3,4,29,30],[],fun(u3,u0)=>[(9,(vO 28 false u3.length)),(31,(vI u0))],fun(u3,u0)=>[(28,some (bZ 142 4 Short.cell u3))]⟩ ⟨[],[],fun u4=>[(9,(vO 28 false u4.length))],fun u4=>[(28,some (bZ 142 4 Short.cell u4))]⟩
  (fun(u3,u0)=> .r<| .it (.a1 (O5 u0 p)<| .rg {fr:=[(3,39)],fz:=[39]} []<| .cg 9 [((at' s_.badBus u1.toNat),false)] (iN p s_ u0) fun u5=> .a1 ((0:Int)≤u1∧u1<(s_.badBus.length:Int))<| .rg {} [0,1]<| .it (.r<| .e (.next (u3,(k4 u0))))
  (.cl 4 (BD [(0,40)] (Fa p s_ (Uz p u0))) fun u2=> .a1 ((0:Int)≤u1∧u1<(u2.length:Int))<| .rg {fr:=[(8,41)],fz:=[41]} [1,0, .t 0 u1 u2.length]<| .r<| .it (.r<| .a3 ((WW u0 p u2 u1)≠(0:Int)) ((afU u0 p u2 u1 u3)*48≤140737488355328) (u3.length+[(Qc u0 p u2 u1)].length≤4611686018427387904)<| .rg {an:=[(11, .arr [(Qc u0 p u2 u1)].length (Zr u0 p u2 u1)),(12, .arr (Yf u0 p u2 u1 u3).length (acM u0 p u2 u1 u3))],fr:=[(11,42),(12,43)]} [0, .pf ⟨[(Qc u0 p u2 u1)].length=1,rfl⟩, .pf ⟨aD 1 4 (pz 4 [(.int .i64 u0),(.int .i64 (WW u0 p u2 u1)),(.int .i64 (afk u0 p u2 u1)),(bM none 1 (aG .i64) ((at' u2 u1.toNat).links))]) (Zr u0 p u2 u1),(by intro i hi j hj;match i,j,hi,hj with|0,0,_,_=>rfl|0,1,_,_=>rfl|0,2,_,_=>rfl|0,3,_,_=>rfl)⟩, .e (u3.length),1,2, .pf ⟨(Yf u0 p u2 u1 u3).length=u3.length+[(Qc u0 p u2 u1)].length,List.length_append⟩, .pf ⟨aD (afU u0 p u2 u1 u3) 4 (sW (au Short.cell u3) u3.length (Zr u0 p u2 u1)) (acM u0 p u2 u1 u3),dw _ _ _ _⟩]<| .r<| .en (.next ((Yf u0 p u2 u1 u3),(k4 u0))) [] [(43,28)])
  (.r<| .e (.next (u3,(k4 u0))))))
  (.e (.done (.brk u3))))
  (fun u4=> .rg {fz:=[28]} []<| .e (u4,0)))))
section
variable (a:(List Short)) (i:Int) (b:(List Short))
abbrev acS:=(bif (!decide (((at' a i.toNat).source)=((at' b i.toNat).source)))then true else(!decide (((at' a i.toNat).bJ)=((at' b i.toNat).bJ))))
abbrev Zq:=((bif (acS a i b)then true else(!decide (((at' a i.toNat).amps)=((at' b i.toNat).amps)))),false)
abbrev afp:=(gB [((!decide (((at' a i.toNat).source)=((at' b i.toNat).source))),false)]=true→(0:Int)≤i∧i<(a.length:Int))
abbrev acD:=(gB [((!decide (((at' a i.toNat).source)=((at' b i.toNat).source))),false)]=true→(0:Int)≤i∧i<(b.length:Int))
abbrev acg:=((acS a i b),false)
abbrev adO:=(gB [(acg a i b)]=true→(0:Int)≤i∧i<(a.length:Int))
abbrev aev:=(gB [(acg a i b)]=true→(0:Int)≤i∧i<(b.length:Int))
abbrev afY:=(gB [(Zq a i b)]=true→(0:Int)≤i∧i<(a.length:Int))
abbrev ae9:=(gB [(Zq a i b)]=true→(0:Int)≤i∧i<(b.length:Int))
abbrev ML:=((0:Int)≤i∧i<(a.length:Int))
end
theorem sM (a:(List Short)) (b:(List Short)):fB Tryz.prog 69 [(sD (bM none 4 Short.cell a)),(sD (bM none 4 Short.cell b))] [] (fun r=>(vB r)) (fun _=>[]) (jC a b):=
  gJ tT mX Tryz.func69 (
  .r<| .r<| .it (.r<| .e false)
  (.r<| .lp (σ:=Int) (β:=Unit) (0) [] [] ⟨[0,1],[],fun i=>[(5,(vI i))],fun i=>[]⟩ ⟨[],[],fun _=>[],fun _=>[]⟩
  (fun i=> .r<| .it (.cg 48 [(Zq a i b)] (qZ ((at' a i.toNat).links) ((at' b i.toNat).links)) fun r_=> .as _ inferInstance [(0:Int)≤i∧i<(a.length:Int),(0:Int)≤i∧i<(b.length:Int),(afp a i b),(acD a i b),(adO a i b),(aev a i b),(afY a i b),(ae9 a i b)] (fun h=> ⟨h.1,h.2.1,h.2.2.1,h.2.2.2.1,h.2.2.2.2.1,h.2.2.2.2.2.1,h.2.2.2.2.2.2.1,h.2.2.2.2.2.2.2,trivial⟩:((ML a i)∧(ML b i)∧(afp a i b)∧(acD a i b)∧(adO a i b)∧(aev a i b)∧(afY a i b)∧(ae9 a i b))→_)<| .rg {} [0,1,2,3,4,5,6,7,8]<| .it (.r<| .e (.done (.ret false)))
  (.r<| .e (.next (k4 i))))
  (.e (.done (.brk ()))))
  (fun _=> .r<| .e true)))
theorem Eu (s_:(List Int)) (v_:Int):fB Tryz.prog 129 [(sD (yJ s_)),(sI v_)] [] (fun r=>(vI r)) (fun _=>[]) (vQ s_ v_):=
  gJ tT mX Tryz.func129 (
  .r<| .r<| .lp (σ:=Int) (β:=Unit) (0) [] [] ⟨[0,1,7],[],fun t8=>[(8,(vI t8))],fun t8=>[]⟩ ⟨[],[],fun _=>[],fun _=>[]⟩
  (fun t8=> .r<| .it (.r<| .a1 (Ns s_ t8)<| .r<| .it (.r<| .e (.done (.ret t8)))
  (.r<| .e (.next (k4 t8))))
  (.e (.done (.brk ()))))
  (fun _=> .r<| .e (-1)))
theorem Aq (s_:(List Int)) (v_:Int):fB Tryz.prog 102 [(sD (yJ s_)),(sI v_)] [] (fun r=>(vB r)) (fun _=>[]) (mJ s_ v_):=
  gJ tT mX Tryz.func102 (
  .r<| .cl 2 (Eu s_ v_) fun r_=> .r<| .e (decide (0≤r_)))
section
variable (o_:(List Int))
abbrev Tw:List (Nat × Option Ob):=[(0,some (.cells 35 [(.own 1 true o_.length)])),(1,some (F7 o_))]
end
theorem BS (i:Int) (o_:(List Int)):fB Tryz.prog 101 [(sI i),(.one (.ptr 0 0))] (Tw o_) (fun r=>(vB r)) (fun r=>(Tw o_)) (tK i o_):=
  gJ tT mX Tryz.func101 (
  .r<| .r<| .e (bif (decide (i<0))then true else(decide ((o_.length:Int)≤i))))
theorem xM (s_:(List Int)) (o_:(List Int)):fB Tryz.prog 128 [(sD (yJ s_)),(.one (.fn 101 0 1 (Ml [(.ptr 0 0)])))] (Tw o_) (fun r=>(vI r)) (fun r=>(Tw o_)) (mF s_ o_):=
  gJ tT mX Tryz.func128 (
  .r<| .r<| .lp (σ:=Int) (β:=Unit) (0) [] [] ⟨[0,1,7],[0,1],fun t8=>[(8,(vI t8))],fun t8=>[]⟩ ⟨[],[0,1],fun _=>[],fun _=>[]⟩
  (fun t8=> .r<| .it (.r<| .cr 5 (BS (at' s_ t8.toNat) o_) fun r_=> .a1 (Ns s_ t8)<| .rg {} [0,1]<| .it (.r<| .e (.done (.ret t8)))
  (.r<| .e (.next (k4 t8))))
  (.e (.done (.brk ()))))
  (fun _=> .r<| .e (-1)))
theorem vT (s_:(List Int)) (o_:(List Int)):fB Tryz.prog 100 [(sD (yJ s_)),(.one (.fn 101 0 1 (Ml [(.ptr 0 0)])))] (Tw o_) (fun r=>(vB r)) (fun r=>(Tw o_)) (iH s_ o_):=
  gJ tT mX Tryz.func100 (
  .r<| .cr 2 (xM s_ o_) fun r_=> .r<| .e (decide (0≤r_)))
section
variable (p:ah) (l:(List Short)) (u3:(List Int)) (u0:(List Int)) (u1:Int) (u2:Int)
abbrev aco:List SV:=[(.agg (k9 p)),(sD (bM none 4 Short.cell l))]
abbrev YK:=((Tj p)≤9223372036854775807)
abbrev TP:=((Tj p))
abbrev Yk:List (Nat × Option Ob):=[(8,some (F7 u3)),(9,some (.cells 35 [(.own 8 true u3.length)]))]
abbrev YF:=(u0.set u1.toNat (IntKind.wrap .i64 ((at' u0 u1.toNat)+((at' l u2.toNat).amps))))
abbrev YM:=(au (aG .i64) (YF l u0 u1 u2))
abbrev acv:=(eX (au (aG .i64) u0) u1.toNat 0 [(.int .i64 (IntKind.wrap .i64 ((at' u0 u1.toNat)+((at' l u2.toNat).amps))))])
abbrev aeH:=((YF l u0 u1 u2),(k4 u1))
abbrev Sl:=(u0,(k4 u1))
end
theorem rM (p:ah) (l:(List Short)):fB Tryz.prog 70 (aco p l) [] (fun r=>(.iV [(sD (bM (some r.2.1) 1 (aG .i64) r.1)),(sI r.2.2)])) (fun _=>[]) (kI p l):=
  gJ tT mX Tryz.func70 (
  .rg {fr:=[(0,7)],fz:=[7]} []<| .cl 1 (yV p) fun r_=> .r<| .r<| .it (.r<| .e (([]:List Int),false,r_))
  (.r<| .it (.r<| .e (([]:List Int),false,1))
  (.a3 ((0:Int)≤(p.links.length:Int)) ((8:Int)*(p.links.length:Int)≤281474976710656) (YK p)<| .rg {an:=[(3, .arr (Cx p).length (Kk p))],fr:=[(3,8),(4,9)]} [0, .e (TP p),1,2, .pf ⟨(Cx p).length=(yu p),List.length_replicate⟩, .pf ⟨aD (yu p) 1 (fun _ j=>[(.int .i64 0)].getD j .nilp) (Kk p),aW _ _ _ _ _ (fun j hj=>(match j,hj with|0,_=>rfl))⟩]<| .r<| .lp (σ:=((List Int) × Int)) (β:=(List Int)) ((Cx p),0) [] [] ⟨[7,23,24],[],fun(u3,u2)=>[(25,(vI u2))],fun(u3,u2)=>(Yk u3)⟩ ⟨[7],[],fun u4=>[],fun u4=>(Yk u4)⟩
  (fun(u3,u2)=> .r<| .it (.a1 (ML l u2)<| .rg {fr:=[(2,13)],fz:=[13]} []<| .cgr 12 [((bif (decide (((at' l u2.toNat).amps)<0))then true else(decide (1000000<((at' l u2.toNat).amps)))),false)] (BD [(0,9),(1,8)] (vT ((at' l u2.toNat).links) u3)) fun u6=> .r<| .it (.r<| .e (.done (.ret (([]:List Int),false,1))))
  (.r<| .lp (σ:=((List Int) × Int)) (β:=(List Int)) (u3,0) [] [] ⟨[7,9,23,24,25,44],[],fun(u0,u1)=>[(45,(vI u1))],fun(u0,u1)=>(Yk u0)⟩ ⟨[7,23,24,25],[],fun u5=>[],fun u5=>(Yk u5)⟩
  (fun(u0,u1)=> .r<| .it (.r<| .cl 3 (Aq ((at' l u2.toNat).links) u1) fun u7=> .r<| .it (.a1 (Ns u0 u1)<| .rg {an:=[(8, .arr 0 (YM l u0 u1 u2))]} [0, .t 0 u1 u0.length,0, .t 0 u1 u0.length, .pf ⟨aD u0.length 1 (acv l u0 u1 u2) (YM l u0 u1 u2),aK _ _ _ _ _ _ _ _ rfl (fun j hj=>(match j,hj with|0,_=>rfl))⟩]<| .im (.ll 8 u0 (YF l u0 u1 u2))<| .r<| .e (.next (aeH l u0 u1 u2)))
  (.r<| .e (.next (Sl u0 u1))))
  (.e (.done (.brk u0))))
  (fun u5=> .r<| .e (.next (Sl u5 u2)))))
  (.e (.done (.brk u3))))
  (fun u4=> .rg {fz:=[8]} []<| .e (u4,true,0)))))
noncomputable def vZ:iG:=⟨[45,46],OA ([1,1,1,1,1,0,1,0]++[0]) (tq Tryz.f79),OA ([1,1,1,1,1,0,1,0]++[1]) (tq Tryz.f79),51,[]⟩
abbrev XE:Nat × Option Ob:=(0,some (.loop vZ 0 [(11,(vP 1 0))]))
theorem kJ (u2:Int) (u3:Int) (u0:Int) (u1:Int):Xu Tryz.prog 0 [(.agg [(cI u2),(cI u3)]),(sI u0)] [XE,(1,some (.cells 3 [(cI u1)]))] (fun _=>vB true) (fun r=>[XE,(1,some (.cells 3 [(cI r)]))]) (dS u2 u3 u0 u1):=
  scY tT mX vZ ⟨[11],[0,1],fun _=>[(13,(vI u0))],fun _=>[]⟩ (.r<| .e ())
  (.r<| .e (IntKind.wrap .i64 (u1+u0)))
section
variable (u6:Int) (w0:Int) (u4:Int)
abbrev Vg:List (Nat × Option Ob):=[(1,some (.cells 3 [(cI u6)]))]
abbrev Gw:=(w0,(k4 u4))
end
theorem zx (x1:Int) (u5:(List Source)) (u3:(List Link)) (u1:(List aC)) (x2:(List Bool)) (v0:(List Bool)) (v1:(List Bool)) (v2:(List Bool)) (v3:(List Bool)) (v4:(List Bool)) (v5:(List Bool)) (x3:(List Bool)) (v8:Int):fB Tryz.prog 121 (ad7 x1 u5 u3 u1 x2 v0 v1 v2 v3 v4 v5 x3) [XE,(1,some (.cells 3 [(cI v8)]))] (fun r=>(.iV [])) (fun r=>[XE,(1,some (.cells 3 [(cI r)]))]) (kD x1 u5 u3 u1 x2 v0 v1 v2 v3 v4 v5 x3 v8):=
  gJ tT mX Tryz.func121 (
  .r<| .lp (σ:=(Int × Int)) (β:=Int) (v8,0) [] [] ⟨[0,1,2,3,13,14],[0],fun(u6,u4)=>[(15,(vI u4))],fun(u6,u4)=>(Vg u6)⟩ ⟨[0,1,2,3],[0],fun v6=>[],fun v6=>(Vg v6)⟩
  (fun(u6,u4)=> .r<| .it (.a1 (k6 u4 u5)<| .rg {fr:=[(3,17)],fz:=[17]} []<| .cl 3 (iN (⟨x1,u5,u3,u1⟩:ah) (⟨x2,v0,v1,v2,v3,v4,v5⟩:State) u4) fun r_=> .fk (bif r_ then(!(at' x3 (((at' u5 u4.toNat).bus).toNat)))else false) (.cy 18 (kJ 2 u4 ((at' u5 u4.toNat).power) u6) fun w0=> .a1 (Yb u5 x3 r_ u4)<| .rg {ov:=[(12,true,2)]} [3,0, .k 1]<| .f<| .r<| .e (.next (Gw w0 u4)))
  (.a1 (Yb u5 x3 r_ u4)<| .rg {ov:=[(12,false,1)],sk:=[13,14,15,16,17,18,19]} [2,0]<| .f<| .r<| .e (.next (Gw u6 u4))))
  (.e (.done (.brk u6))))
  (fun v6=> .r<| .lp (σ:=(Int × Int)) (β:=Int) (v6,0) [] [] ⟨[0,1,2,3,43,44],[0],fun(u7,u2)=>[(45,(vI u2))],fun(u7,u2)=>(Vg u7)⟩ ⟨[0,1,3],[0],fun v7=>[],fun v7=>(Vg v7)⟩
  (fun(u7,u2)=> .r<| .it (.a1 (k3 u3 u2)<| .rg {fr:=[(3,21)],fz:=[21]} []<| .cl 3 (fo (⟨x1,u5,u3,u1⟩:ah) (⟨x2,v0,v1,v2,v3,v4,v5⟩:State) u2) fun u9=> .fk (adI u3 x3 u9 u2) (.cy 23 (kJ 3 u2 ((at' u3 u2.toNat).most) u7) fun w1=> .a2 (YD u3 x3 u9 u2) (Yv u3 x3 u9 u2)<| .rg {ov:=[(17,true,3)]} [4,0,1, .k 2]<| .f<| .r<| .e (.next (Gw w1 u2)))
  (.a2 (YD u3 x3 u9 u2) (Yv u3 x3 u9 u2)<| .rg {ov:=[(17,false,2)],sk:=[18,19,20,21,22,23,24]} [3,0,1]<| .f<| .r<| .e (.next (Gw u7 u2))))
  (.e (.done (.brk u7))))
  (fun v7=> .r<| .lp (σ:=(Int × Int)) (β:=Int) (v7,0) [] [] ⟨[0,3,78,79],[0],fun(u8,u0)=>[(80,(vI u0))],fun(u8,u0)=>(Vg u8)⟩ ⟨[],[0],fun o1105=>[],fun o1105=>[(1,some (.cells 3 [(cI o1105)]))]⟩
  (fun(u8,u0)=> .r<| .it (.a1 (k8 u0 u1)<| .rg {fr:=[(3,25)],fz:=[25]} []<| .cl 3 ⟨fun{v9} hr_4=>((Fn.leH (args:=(acO u1 x3 u0)) (args':=[(sD (.sl (some true) 1 [(k28 u1 u0).e0,(k28 u1 u0).e1].length (fun i j=>((UF u1 u0).getD (0+(0+(i*1+j))) .nilp)))),(sD (.fn 122 1 (Qh x3)))]) (hin:=[]) (hin':=[]) (kU [(k28 u1 u0).e0,(k28 u1 u0).e1] x3 hr_4) ⟨uG.one (gV.d (jK.sl (.inl rfl) (by intro i hi j hj;match i,j,hi,hj with|0,0,_,_=>exact .refl _|1,0,_,_=>exact .refl _))),uG.refl _,trivial⟩ trivial):Fn Tryz.prog 100 [(sD (.sl (some true) 1 [(k28 u1 u0).e0,(k28 u1 u0).e1].length (fun i j=>((UF u1 u0).getD (0+(0+(i*1+j))) .nilp)))),(sD (.fn 122 1 (Qh x3)))] [] (vB v9) [])⟩ fun v9=> .r<| .fk v9 (.cy 7 (kJ 0 u0 (LV u1 u0) u8) fun w2=> .rg {ov:=[(1,true,1)]} [.k 0]<| .f<| .r<| .e (.next (Gw w2 u0)))
  (.rg {ov:=[(1,false,0)],sk:=[2,3,4,5,6,7,8]} []<| .f<| .r<| .e (.next (Gw u8 u0))))
  (.e (.done (.brk u8))))
  (fun o1105=> .e o1105))))
end
end Sg
