import Derived.Test.YtpndenfhglaikaaW0
set_option linter.all false
namespace Sg
open Go Go.Proofs
set_option maxRecDepth 20000
noncomputable section
section
variable (p:ah) (s_:State) (r_:Int) (v0:Int) (v4:(Int × Network)) (v8:(List (Int × Int))) (u7:Int) (p1:(List Source)) (v5:(Int × Network)) (x0:(List Int)) (u4:(List (Int × Int))) (v9:(List (Int × Int))) (v7:Int) (u0:Int) (u2:(List ay)) (w0:Int) (x3:(Int × Network)) (p2:(List Link)) (p3:(List ay)) (x1:(List Int)) (x2:(List af)) (u5:(List (Int × Int))) (x9:(List (af × Int))) (v3:Int) (v6:(Int × Network)) (x5:(List aY)) (x6:(List (List Int))) (u1:Network) (i:Nat) (w5:(List Int)) (i1:Nat) (w6:(List Int)) (u3:(List (af × Int))) (i2:Nat) (u9:(List af))
abbrev Wi:List (Nat × Option Ob):=[(zi p),bP]
abbrev agI:St:=⟨[(2,(vP 63 0)),(lg s_),(4,(vP 65 0))],(Wi p)⟩
abbrev ad4:St:=⟨[(2,(vP 63 0)),(lg s_),(4,(vP 65 0)),(7,(vI r_))],(Wi p)⟩
abbrev acP:St:=⟨[(2,(vP 63 0)),(lg s_),(4,(vP 65 0)),(7,(vI r_)),(34,(vB (!decide (r_=0))))],(Wi p)⟩
abbrev Wz:DV:=(aK none 1 (au .i64) ([]:List Int))
abbrev aen:St:=⟨[(2,(vP 63 0)),(lg s_),(4,(vP 65 0)),(mZ p)],(Wi p)⟩
abbrev Ya:List (Nat × TV):=[(2,(vP 63 0)),(lg s_),(4,(vP 65 0)),(mZ p),(9,(vP 67 0))]
abbrev X7:=(IntKind.wrap .i64 ((IntKind.wrap .i64 ((IntKind.wrap .i64 ((1:Int)+p.buses))+(p.racks.length:Int)))+1))
abbrev Vg:=((X7 p).toNat)
abbrev Dv:=(List.replicate (Vg p) (([]:List Int):(List Int)))
abbrev R6:=((Dv p).length)
abbrev acB:List CV:=[(.d nS),(.own 66 true (R6 p))]
abbrev ad7:Nat × Option Ob:=(67,some (.cells 161 (acB p)))
abbrev acV:=((X7 p):Int)
abbrev afL:=(yH rQ (Dv p))
abbrev VB:Nat × Option Ob:=(66,some (.rows 40 1 (Dv p).length (afL p) none))
abbrev Z8:Nat × Option Ob:=(67,some (.cells 161 [(.own 68 false (([]:List aY).length)),(.own 66 true (R6 p))]))
abbrev aal:Nat × Option Ob:=(68,some (bZ 170 2 aY.cell ([]:List aY)))
abbrev XI:=(aC (au .i64) (KN p))
abbrev Xk:=(aC af.cell (P9 p))
abbrev aes:List (Nat × Option Ob):=[(zi p),bP,(VB p),(Z8 p),aal,(VA p),(LF p),(JY p),(Ut p),(73,some WG),UR,KR]
abbrev Xx:Nat × TV:=(15,(aga p v0))
abbrev Na:Nat × Option Ob:=(66,some (.rows 40 1 v4.2.from_.length (yH rQ v4.2.from_) none))
abbrev Nh:Ob:=(SX 3 3 false false 1 1 (au .i64) (au .i64) (jF NJ v0 v4.1 v8))
abbrev EU:Ob:=(bZ 170 2 aY.cell v4.2.arcs)
abbrev acX:List (Nat × Option Ob):=[(zi p),bP,(Na v4),(67,some (.cells 161 [(.own 83 false v4.2.arcs.length),(.own 66 true v4.2.from_.length)])),(VA p),(LF p),(JY p),(Ut p),(73,some (Nh v0 v4 v8)),UR,KR,(83,some (EU v4))]
abbrev NN:=(CO (au .i64) (jF NJ v0 v4.1 v8))
abbrev MX:=(Df (au .i64) (jF NJ v0 v4.1 v8))
abbrev Z0:List (Nat × TV):=[(2,(vP 63 0)),(lg s_),(4,(vP 65 0)),(mZ p),(9,(vP 67 0)),(10,(vP 72 0)),q8,pO,nI,(Gn p),(GQ p),(68,(k3 v0))]
abbrev acp:Nat × Option Ob:=(67,some (.cells 161 [(.own 68 false v4.2.arcs.length),(.own 66 true v4.2.from_.length)]))
abbrev WT:Nat × TV:=(17,(k99 p u7))
abbrev acI:List (Nat × Option Ob):=[(Nq p p1),bP,(Na v5),(67,some (.cells 161 [(.own 91 false v5.2.arcs.length),(.own 66 true v5.2.from_.length)])),(mO x0),(LF p),(JY p),(XH p x0),(Dq u4),(74,some (Nh u7 v5 v9)),KR,(91,some (EU v5))]
abbrev YG:List (Nat × TV):=[(2,(vP 63 0)),(lg s_),(4,(vP 65 0)),(mZ p),(9,(vP 67 0)),(10,(vP 72 0)),q8,pO,nI,(G8 p),(Gj p),(90,(k3 u7))]
abbrev aej:List (Nat × TV):=[(2,(vP 63 0)),(lg s_),(4,(vP 65 0)),(8,(vI v7)),(9,(vP 67 0)),(10,(vP 72 0)),q8,pO,nI,(18,(vI u0)),(Dy u2 u0),(xI u2),(116,(vI w0)),(117,(vI u0))]
abbrev XB:=(IntKind.wrap .i64 ((IntKind.wrap .i64 ((1:Int)+p.buses))+u0))
abbrev adU:Nat × Option Ob:=(67,some (.cells 161 [(.own 111 false x3.2.arcs.length),(.own 66 true x3.2.from_.length)]))
abbrev af0:List (Nat × Option Ob):=[(eF p p1 p2 p3),bP,(Na x3),(adU x3),(mO x0),(oD x1),(qx x2),(qN x2 x0 x1),(Dq u4),(CR u5),(EB x9),(111,some (EU x3))]
abbrev UQ:=(at' [(JK u2 u0).e0,(JK u2 u0).e1] v3.toNat)
abbrev Xo:Nat × TV:=(21,(vI (UQ u0 u2 v3)))
abbrev XP:List DV:=[(.int .i64 (UQ u0 u2 v3))]
abbrev ae4:=(IntKind.wrap .i64 ((1:Int)+(UQ u0 u2 v3)))
abbrev adr:Nat × Option Ob:=(67,some (.cells 161 [(.own 115 false v6.2.arcs.length),(.own 66 true v6.2.from_.length)]))
abbrev V4:Nat × Option Ob:=(115,some (EU v6))
abbrev aa5:List (Nat × TV):=[(2,(vP 63 0)),(lg s_),(4,(vP 65 0)),(8,(vI v7)),(9,(vP 67 0)),(10,(vP 72 0)),q8,pO,nI,(18,(vI u0)),(Dy u2 u0),(xI u2),(116,(vI w0)),(117,(vI u0)),(GY u2 u0),(134,(k3 v3))]
abbrev aer:List (Nat × TV):=[(2,(vP 63 0)),(lg s_),(4,(vP 65 0)),(8,(vI v7)),(9,(vP 67 0)),(10,(vP 72 0)),q8,pO,nI,(xI u2),(116,(vI w0)),(117,(k3 u0))]
abbrev acj:Nat × Option Ob:=(67,some (.cells 161 [(.own 68 false x5.length),(.d (aK (some true) 1 (IU 1 (au .i64)) x6))]))
abbrev agK:List (Nat × Option Ob):=[(yc u1),(xN u1)]
abbrev adk:=((at' u1.arcs ((IntKind.wrap .i64 (((BitVec.ofInt (IntKind.bits .i64) (at' (u4.map Prod.snd) i) ^^^ BitVec.ofInt (IntKind.bits .i64) 1).toNat:Int))).toNat)).left)
abbrev ZU:=(w5.set ((at' (u4.map Prod.fst) i).toNat) (adk u4 u1 i))
abbrev SY:=(aC (au .i64) (ZU u4 u1 i w5))
abbrev aex:=(jZ (aC (au .i64) w5) ((at' (u4.map Prod.fst) i).toNat) 0 [(.int .i64 (adk u4 u1 i))])
abbrev ab7:Ob:=(bZ 3 1 (au .i64) (ZU u4 u1 i w5))
abbrev agN:=((ZU u4 u1 i w5).length)
abbrev afO:=(IntKind.wrap .i64 (((at' p2 ((at' (u5.map Prod.fst) i1).toNat)).most) - ((at' u1.arcs ((at' (u5.map Prod.snd) i1).toNat)).left)))
abbrev Y1:=(w6.set ((at' (u5.map Prod.fst) i1).toNat) (afO p2 u5 u1 i1))
abbrev RD:=(aC (au .i64) (Y1 p2 u5 u1 i1 w6))
abbrev abV:=(jZ (aC (au .i64) w6) ((at' (u5.map Prod.fst) i1).toNat) 0 [(.int .i64 (afO p2 u5 u1 i1))])
abbrev acn:Ob:=(bZ 3 1 (au .i64) (Y1 p2 u5 u1 i1 w6))
abbrev afh:=((Y1 p2 u5 u1 i1 w6).length)
abbrev V3:List CV:=[(cI ((at' (u3.map Prod.fst) i2).e0)),(cI ((at' (u3.map Prod.fst) i2).e1))]
abbrev aaX:List (Nat × TV):=[(2,(vP 63 0)),(4,(vP 65 0)),(9,(vP 67 0)),(10,(vP 72 0)),(26,(vP 121 0)),(27,(vI (at' (u3.map Prod.snd) i2))),(208,(vP 118 0))]
abbrev Q8:=(((at' (u3.map Prod.fst) i2).e0).toNat)
abbrev abe:=(at' u1.arcs ((IntKind.wrap .i64 (((BitVec.ofInt (IntKind.bits .i64) (at' (u3.map Prod.snd) i2) ^^^ BitVec.ofInt (IntKind.bits .i64) 1).toNat:Int))).toNat))
abbrev aaB:=(u9.set (Q8 u3 i2) (⟨(abe u1 u3 i2).left,(at' u9 (Q8 u3 i2)).e1⟩:af))
abbrev Rz:=(aC af.cell (aaB u1 u3 i2 u9))
abbrev ac7:List DV:=[(.int .i64 ((abe u1 u3 i2).left))]
abbrev abN:=(jZ (aC af.cell u9) (Q8 u3 i2) 0 (ac7 u1 u3 i2))
abbrev agm:Ob:=(bZ 164 2 af.cell (aaB u1 u3 i2 u9))
abbrev adS:=((aaB u1 u3 i2 u9).length)
abbrev aaW:=(u9.set (Q8 u3 i2) (⟨(at' u9 (Q8 u3 i2)).e0,(abe u1 u3 i2).left⟩:af))
abbrev QU:=(aC af.cell (aaW u1 u3 i2 u9))
abbrev adN:=(jZ (aC af.cell u9) (Q8 u3 i2) 1 (ac7 u1 u3 i2))
abbrev aeI:Ob:=(bZ 164 2 af.cell (aaW u1 u3 i2 u9))
abbrev aeC:=((aaW u1 u3 i2 u9).length)
abbrev Jb:=(List.replicate p.buses.toNat (false:Bool))
abbrev XU:Ob:=(bZ 4 1 aj (Jb p))
abbrev UU:Nat × Option Ob:=(122,some (XU p))
abbrev Wd:=((Jb p).length)
abbrev UW:Nat × Option Ob:=(123,some (.cells 27 [(.own 122 true (Wd p))]))
abbrev QV:=(aC aj (Jb p))
abbrev adH:List (Nat × TV):=[(2,(vP 63 0)),(4,(vP 65 0)),(10,(vP 72 0)),(28,(vP 123 0)),(235,(.v (.one (.fn 121 0 1 (Al [(.ptr 124 0)])))))]
abbrev adQ:Ob:=(.cells 161 [(.d (aK none 2 aY.cell u1.arcs)),(.d (Hy u1))])
abbrev aeU:Ob:=(.cells 157 [(.d (lT [(aK none 2 aY.cell u1.arcs),(Hy u1)] 0))])
abbrev Xv:DV:=(lT [(lT [(aK none 2 aY.cell u1.arcs),(Hy u1)] 0)] 0)
abbrev aa1:TV:=(vD (.fn 121 1 (nC [(Xv u1)])))
abbrev aeH:Nat × TV:=(235,(aa1 u1))
abbrev aeD:List (Nat × TV):=[(2,(vP 63 0)),(4,(vP 65 0)),(10,(vP 72 0)),(28,(vP 123 0)),(aeH u1)]
abbrev aeX:List CV:=[(.d (Xv u1))]
end
theorem zH (p:ah) (s_:State) {r:(ai × (List Bool) × Int)} (h:fq p s_=some r):Fn Try.prog 32 (k91 s_ p) [] (.iP [(.agg [(.d (aK none 1 (au .i64) r.1.sources)),(.d (aK none 1 (au .i64) r.1.links)),(.d (aK none 2 af.cell r.1.racks))]),(sD (aK none 1 aj r.2.1)),(sI r.2.2)]) []:=by
 refine fN tT Try.func32 rfl rfl fun B=> ?_
 show bJ _ _ _ _ _ _ (iX r) _
 unfold fq at h
 refine sz tT (agI p s_) {fr:=[(0,63),(1,64),(2,65)] } [64] ?_
 refine aQ (aQ (bE h fun r_ hr_ h=> ?_))
 have q0:=eG p s_ hr_
 refine rg tT (ad4 p s_ r_) [_] {an:=[(2,cA q0 [])] } [] ⟨q0,trivial⟩ ?_
 refine sz tT (acP p s_ r_) {} [] ?_
 refine bI h (fun hb9 h=> ?_) (fun hb9 h=> ?_)
 ·refine ct hb9 ?_
  refine sz tT ⟨[(4,(vD (lT [nS,nS,nS] 0))),(5,(vD nS)),(6,(vI r_))],[]⟩ {} [65] ?_
  refine aI (bM.le (st':=⟨[(4,(vD (lT [Wz,Wz,(aK none 2 af.cell ([]:List af))] 0))),(5,(vD (aK none 1 aj ([]:List Bool)))),(6,(vI r_))],[]⟩) ⟨⟨⟨_,rfl,eH.v (eO.one (dO.d (K7 ⟨gV.nil',gV.nil',gV.nil',trivial⟩)))⟩,⟨_,rfl,eH.v (eO.one (dO.d gV.nil'))⟩,tR,trivial⟩,trivial⟩) ?_
  refine aR ?_
  obtain rfl:=oi h
  exact rl [(.agg [(.d Wz),(.d Wz),(.d (aK none 2 af.cell ([]:List af)))]),(sD (aK none 1 aj ([]:List Bool))),(sI r_)]
 ·refine cf hb9 ?_
  refine aP (sz tT (aen p s_) {} [] ?_)
  refine aQ (aO h fun⟨a1,a2,a3⟩ h=> ?_)
  refine ri tT ⟨(Ya p s_),[(zi p),bP,(66,some (.arr 40 1 (Dv p).length (fun _ j=>[nS].getD j .nilp))),(ad7 p)]⟩ [_,(acV p)=(X7 p),_,_,(Dv p).length=(Vg p),aG (Vg p) 1 (fun _ j=>[nS].getD j .nilp) (fun _ j=>[nS].getD j .nilp)] {an:=[(2, .arr (Dv p).length (fun _ j=>[nS].getD j .nilp))],fr:=[(2,66),(4,67)] } [] ⟨a1,rfl,a2,a3,(List.length_replicate),(iq _ _ _),trivial⟩ (.trans (bM.Vd (b:=66) (E:=40) (esz:=1) (len:=(Dv p).length) (el:=(fun _ j=>[nS].getD j .nilp)) (el':=yH rQ (Dv p)) (by kernel_rfl) (fun i hi j hj=>match j,hj with|0,_=>Ml _ _ _ _ _ _ _ _)) (.trans (fz ⟨(Ya p s_),[(zi p),bP,(VB p),(ad7 p)]⟩ []) (.trans (bM.zb (E:=0) (esz:=0) (E0:=161) (cs:=(acB p)) (p:=67) (q:=0) (b:=68) (esz0:=0) (el0:=fun _ _=> .nilp) (ob:= .arr 170 2 0 (aC aY.cell ([]:List aY))) (fun _ _ _ _ h=> .inl ⟨h,rfl⟩) (by kernel_rfl) (by kernel_rfl) (by kernel_rfl)) (.trans (fz ⟨(Ya p s_),[(zi p),bP,(VB p),(67,some (.cells 161 [(.own 68 false 0),(.own 66 true (R6 p))])),(68,some (.arr 170 2 0 (aC aY.cell ([]:List aY))))]⟩ []) (bM.le (st':=⟨(Ya p s_),[(zi p),bP,(VB p),(Z8 p),aal]⟩) ⟨⟨tR,tR,tR,tR,tR,trivial⟩,(hN 3 ⟨rfl,bA ⟨cW,dO.refl _,trivial⟩,⟨rfl,oW,trivial⟩⟩)⟩))))) ?_
  refine aQ (aO h fun⟨a1,a2,a3,a4,a5,a6,a7,a8,a9⟩ h=> ?_)
  refine dg tT mX ⟨[(2,(vP 63 0)),(lg s_),(4,(vP 65 0)),(mZ p),(9,(vP 67 0)),(10,(vP 72 0))],[(zi p),bP,(VB p),(Z8 p),aal,(VA p),(LF p),(JY p),(Ut p)]⟩ [_,((p.sources.length:Int):Int)=(p.sources.length:Int),_,_,(KN p).length=(Ux p),aG (Ux p) 1 (fun _ j=>[(.int .i64 0)].getD j .nilp) (XI p),_,((p.links.length:Int):Int)=(p.links.length:Int),_,_,(La p).length=(PS p),aG (PS p) 1 (fun _ j=>[(.int .i64 0)].getD j .nilp) (QS p),_,((p.racks.length:Int):Int)=(p.racks.length:Int),_,_,(P9 p).length=(U9 p),aG (U9 p) 2 (fun _ j=>[(.int .i64 0),(.int .i64 0)].getD j .nilp) (Xk p)] {an:=[(3, .arr (KN p).length (XI p)),(7, .arr (La p).length (QS p)),(11, .arr (P9 p).length (Xk p))],fr:=[(3,69),(7,70),(11,71),(13,72)] } [] ⟨a1,rfl,a2,a3,(List.length_replicate),(dP _ _ _ _ _ (fun j hj=>(match j,hj with|0,_=>rfl))),a4,rfl,a5,a6,(List.length_replicate),(dP _ _ _ _ _ (fun j hj=>(match j,hj with|0,_=>rfl))),a7,rfl,a8,a9,(List.length_replicate),(dP _ _ _ _ _ (fun j hj=>(match j,hj with|0,_=>rfl|1,_=>rfl))),trivial⟩ ?_
  refine sz tT ⟨(TU s_ p),(aes p)⟩ {an:=[(0, .map 0 (CO (au .i64) ([]:(List (Int × Int)))) (Df (au .i64) ([]:(List (Int × Int)))) []),(1, .map 0 (CO (au .i64) ([]:(List (Int × Int)))) (Df (au .i64) ([]:(List (Int × Int)))) []),(2, .map 0 (CO af.cell ([]:(List (af × Int)))) (Df (au .i64) ([]:(List (af × Int)))) [])],fr:=[(0,73),(1,74),(2,75)] } [] ?_
  refine aQ (sz tT ⟨[(2,(vP 63 0)),(lg s_),(4,(vP 65 0)),(mZ p),(9,(vP 67 0)),(10,(vP 72 0)),q8,pO,nI,(Gn p),(GQ p),(68,(vI 0))],(aes p)⟩ {} [] ?_)
  refine bE h fun y hy h=> ?_
  refine aL [] (zx p s_) (zG p s_) iX hy (fun s f h=> ?_) ?_
  ·clear hy
   show bJ _ _ _ _ _ _ ((GA p s_) f) _
   unfold jr at h
   obtain⟨n0,n1,v8,v0⟩:=s
   refine sz tT ⟨[(2,(vP 63 0)),(lg s_),(4,(vP 65 0)),(mZ p),(9,(vP 67 0)),(10,(vP 72 0)),q8,pO,nI,(Gn p),(GQ p),(68,(vI v0)),(69,(vB (decide (v0<(p.sources.length:Int)))))],(SF p n1 n0 v8)⟩ {} [] ?_
   refine aQ ?_
   refine bI h (fun hb1 h=> ?_) (fun hb1 h=> ?_)
   ·refine ct hb1 ?_
    refine aP (aQ (aB (aQ (aO h fun a1 h=> ?_))))
    refine rg tT ⟨[(2,(vP 63 0)),(lg s_),(4,(vP 65 0)),(mZ p),(9,(vP 67 0)),(10,(vP 72 0)),q8,pO,nI,(14,(vI v0)),(Xx p v0),(Gn p),(GQ p),(68,(vI v0))],(SF p n1 n0 v8)⟩ [_] {fr:=[(3,82)] } [82] ⟨a1,trivial⟩ ?_
    refine aQ (bE h fun ui hr_1 h=> ?_)
    have q0:=fZ p s_ v0 hr_1
    refine rg tT ⟨[(2,(vP 63 0)),(lg s_),(4,(vP 65 0)),(mZ p),(9,(vP 67 0)),(10,(vP 72 0)),q8,pO,nI,(14,(vI v0)),(Xx p v0),(Gn p),(GQ p),(68,(vI v0)),(76,(vB ui))],(SF p n1 n0 v8)⟩ [_] {an:=[(3,cA q0 [])] } [] ⟨q0,trivial⟩ ?_
    refine bI h (fun hb h=> ?_) (fun hb h=> ?_)
    ·refine ct hb ?_
     refine bE h fun v4 hr_2 h=> ?_
     have q0:=rk [(0,67),(1,68),(2,66),(3,83)] (bX 0 (IntKind.wrap .i64 ((1:Int)+((at' p.sources v0.toNat).bus))) ((at' p.sources v0.toNat).power) 0 (⟨n0,n1⟩:Network) hr_2)
     refine rg tT ⟨(ad6 p s_ v0),(acX p v0 v4 v8)⟩ [_,Gg [some .i64] 1 1 v8.length (CO (au .i64) v8) (Df (au .i64) v8) [(.int .i64 v0)] [(cI v4.1)] [] (jF NJ v0 v4.1 v8).length (NN v0 v4 v8) (MX v0 v4 v8)] {an:=[(8,cA q0 [67,68,66]),(9, .map (jF NJ v0 v4.1 v8).length (NN v0 v4 v8) (MX v0 v4 v8) [])] } [] ⟨q0,(yx (fun _=>rfl) (fun _ _=>rfl) v8 v0 v4.1 rfl rfl),trivial⟩ ?_
     refine ri tT ⟨(Z0 p s_ v0),(acX p v0 v4 v8)⟩ [] {} [] trivial (bM.fin (st':=⟨(Z0 p s_ v0),[(zi p),bP,(Na v4),(acp v4),(68,some (EU v4)),(VA p),(LF p),(JY p),(Ut p),(73,some (Nh v0 v4 v8)),UR,KR]⟩) (cs:=[]) ⟨[],[(63,63),(65,65),(66,66),(67,67),(83,68),(69,69),(70,70),(71,71),(72,72),(73,73),(74,74),(75,75)]⟩ [2,3,4,8,9,10,11,12,13,66,67,68] (by kernel_rfl) trivial) ?_
     obtain rfl:=oi h
     exact lN
    ·refine cf hb ?_
     refine aP (rz tT ⟨(Z0 p s_ v0),(SF p n1 n0 v8)⟩ {} [] ?_)
     obtain rfl:=oi h
     exact lN
   ·refine cf hb1 ?_
    refine aI (fz ⟨(TU s_ p),(SF p n1 n0 v8)⟩ []) ?_
    refine aX ?_
    obtain rfl:=oi h
    exact lB
  ·clear hy
   cases y with
   |brk z=>
    obtain⟨p1,ue,uc,x0,u4⟩:=z
    unfold gm
    refine⟨_, .refl, ?_⟩
    refine aQ (sz tT ⟨[(2,(vP 63 0)),(lg s_),(4,(vP 65 0)),(mZ p),(9,(vP 67 0)),(10,(vP 72 0)),q8,pO,nI,(G8 p),(Gj p),(90,(vI 0))],(acE p p1 x0 uc ue u4)⟩ {} [] ?_)
    refine bE h fun y1 hy h=> ?_
    refine aL [] (zL p s_ p1 x0 u4) (zK p s_ p1 x0 u4) iX hy (fun s f h=> ?_) ?_
    ·clear hy
     show bJ _ _ _ _ _ _ ((GL p s_ p1 x0 u4) f) _
     unfold jo at h
     obtain⟨w7,w3,v9,u7⟩:=s
     refine sz tT ⟨[(2,(vP 63 0)),(lg s_),(4,(vP 65 0)),(mZ p),(9,(vP 67 0)),(10,(vP 72 0)),q8,pO,nI,(G8 p),(Gj p),(90,(vI u7)),(91,(vB (decide (u7<(p.links.length:Int)))))],(Sd p v9 p1 w3 w7 x0 u4)⟩ {} [] ?_
     refine aQ ?_
     refine bI h (fun hb3 h=> ?_) (fun hb3 h=> ?_)
     ·refine ct hb3 ?_
      refine aP (aQ (aB (aQ (aO h fun a1 h=> ?_))))
      refine rg tT ⟨[(2,(vP 63 0)),(lg s_),(4,(vP 65 0)),(mZ p),(9,(vP 67 0)),(10,(vP 72 0)),q8,pO,nI,(16,(vI u7)),(WT p u7),(G8 p),(Gj p),(90,(vI u7))],(Sd p v9 p1 w3 w7 x0 u4)⟩ [_] {fr:=[(3,90)] } [90] ⟨a1,trivial⟩ ?_
      refine aQ (bE h fun uj hr_3 h=> ?_)
      have q0:=dK (⟨p.buses,p1,p.links,p.racks⟩:ah) s_ u7 hr_3
      refine rg tT ⟨[(2,(vP 63 0)),(lg s_),(4,(vP 65 0)),(mZ p),(9,(vP 67 0)),(10,(vP 72 0)),q8,pO,nI,(16,(vI u7)),(WT p u7),(G8 p),(Gj p),(90,(vI u7)),(98,(vB uj))],(Sd p v9 p1 w3 w7 x0 u4)⟩ [_] {an:=[(3,cA q0 [])] } [] ⟨q0,trivial⟩ ?_
      refine bI h (fun hb2 h=> ?_) (fun hb2 h=> ?_)
      ·refine ct hb2 ?_
       refine bE h fun v5 hr_4 h=> ?_
       have q0:=rk [(0,67),(1,68),(2,66),(3,91)] (bX (IntKind.wrap .i64 ((1:Int)+((at' p.links u7.toNat).a))) (IntKind.wrap .i64 ((1:Int)+((at' p.links u7.toNat).b))) (Pz p u7) (Pz p u7) (⟨w7,w3⟩:Network) hr_4)
       refine rg tT ⟨(aeT p s_ u7),(acI p u7 p1 v5 x0 u4 v9)⟩ [_,Gg [some .i64] 1 1 v9.length (CO (au .i64) v9) (Df (au .i64) v9) [(.int .i64 u7)] [(cI v5.1)] [] (jF NJ u7 v5.1 v9).length (NN u7 v5 v9) (MX u7 v5 v9)] {an:=[(13,cA q0 [67,68,66]),(14, .map (jF NJ u7 v5.1 v9).length (NN u7 v5 v9) (MX u7 v5 v9) [])] } [] ⟨q0,(yx (fun _=>rfl) (fun _ _=>rfl) v9 u7 v5.1 rfl rfl),trivial⟩ ?_
       refine ri tT ⟨(YG p s_ u7),(acI p u7 p1 v5 x0 u4 v9)⟩ [] {} [] trivial (bM.fin (st':=⟨(YG p s_ u7),[(Nq p p1),bP,(Na v5),(acp v5),(68,some (EU v5)),(mO x0),(LF p),(JY p),(XH p x0),(Dq u4),(74,some (Nh u7 v5 v9)),KR]⟩) (cs:=[]) ⟨[],[(63,63),(65,65),(66,66),(67,67),(91,68),(69,69),(70,70),(71,71),(72,72),(73,73),(74,74),(75,75)]⟩ [2,3,4,8,9,10,11,12,13,88,89,90] (by kernel_rfl) trivial) ?_
       obtain rfl:=oi h
       exact lN
      ·refine cf hb2 ?_
       refine aP (rz tT ⟨(YG p s_ u7),(Sd p v9 p1 w3 w7 x0 u4)⟩ {} [] ?_)
       obtain rfl:=oi h
       exact lN
     ·refine cf hb3 ?_
      refine aI (fz ⟨(TU s_ p),(Sd p v9 p1 w3 w7 x0 u4)⟩ []) ?_
      refine aX ?_
      obtain rfl:=oi h
      exact lB
    ·clear hy
     cases y1 with
     |brk z=>
      obtain⟨p2,uf,ud,x1,u5⟩:=z
      unfold gm
      refine⟨_, .refl, ?_⟩
      refine aQ (sz tT ⟨[(2,(vP 63 0)),(lg s_),(4,(vP 65 0)),(mZ p),(9,(vP 67 0)),(10,(vP 72 0)),q8,pO,nI,(115,(vD (k6 p))),(116,(vI (p.racks.length:Int))),(117,(vI 0))],(agb p p1 p2 x1 ud uf x0 u4 u5)⟩ {} [] ?_)
      refine bE h fun y3 hy h=> ?_
      refine aL [] (zM p s_ p1 x0 u4 p2 x1 u5) (zI p p1 x0 u4 p2 x1 u5) iX hy (fun s f h=> ?_) ?_
      ·clear hy
       show bJ _ _ _ _ _ _ ((rE p s_ p1 x0 u4 p2 x1 u5) f) _
       unfold jv at h
       obtain⟨p3,v7,x7,w9,x2,x9,u2,w0,u0⟩:=s
       refine sz tT ⟨[(2,(vP 63 0)),(lg s_),(4,(vP 65 0)),(8,(vI v7)),(9,(vP 67 0)),(10,(vP 72 0)),q8,pO,nI,(xI u2),(116,(vI w0)),(117,(vI u0)),(118,(vB (decide (u0<w0))))],(TY p p1 p2 p3 x2 x0 x1 x9 w9 x7 u4 u5)⟩ {} [] ?_
       refine aQ ?_
       refine bI h (fun hb6 h=> ?_) (fun hb6 h=> ?_)
       ·refine ct hb6 ?_
        refine aP (aQ (aB (aQ (aO h fun a1 h=> ?_))))
        refine rg tT ⟨(aej s_ v7 u0 u2 w0),(TY p p1 p2 p3 x2 x0 x1 x9 w9 x7 u4 u5)⟩ [_] {fr:=[(3,110)] } [110] ⟨a1,trivial⟩ ?_
        refine aQ (bE h fun x3 hr_5 h=> ?_)
        have q0:=rk [(0,67),(1,68),(2,66),(3,111)] (bX (XB p u0) v7 ((at' u2 u0.toNat).power) 0 (⟨x7,w9⟩:Network) hr_5)
        refine rg tT ⟨(aej s_ v7 u0 u2 w0),(af0 p p1 x0 u4 x3 p2 p3 x1 x2 u5 x9)⟩ [_] {an:=[(9,cA q0 [67,68,66])] } [] ⟨q0,trivial⟩ ?_
        refine sz tT ⟨[(2,(vP 63 0)),(lg s_),(4,(vP 65 0)),(8,(vI v7)),(9,(vP 67 0)),(10,(vP 72 0)),q8,pO,nI,(18,(vI u0)),(Dy u2 u0),(xI u2),(116,(vI w0)),(117,(vI u0)),(GY u2 u0),(134,(vI 0))],(af0 p p1 x0 u4 x3 p2 p3 x1 x2 u5 x9)⟩ {} [] ?_
        refine bE h fun y2 hy h=> ?_
        refine aL [5] (zy p s_ p1 x0 u4 p2 x1 u5 p3 v7 x2 u2 w0 u0) (zD p s_ p1 x0 u4 p2 x1 u5 p3 v7 x2 u2 w0 u0) (rE p s_ p1 x0 u4 p2 x1 u5) hy (fun s f h=> ?_) ?_
        ·clear hy
         show bJ _ _ _ _ _ _ ((GD p s_ p1 x0 u4 p2 x1 u5 p3 v7 x2 u2 w0 u0) f) _
         unfold fV at h
         obtain⟨w8,w4,w1,v3⟩:=s
         refine sz tT ⟨[(2,(vP 63 0)),(lg s_),(4,(vP 65 0)),(8,(vI v7)),(9,(vP 67 0)),(10,(vP 72 0)),q8,pO,nI,(18,(vI u0)),(Dy u2 u0),(xI u2),(116,(vI w0)),(117,(vI u0)),(GY u2 u0),(134,(vI v3)),(135,(vB (decide (v3<2))))],(O8 p p1 p2 p3 w4 w8 x0 x1 x2 u4 u5 w1)⟩ {} [] ?_
         refine aQ ?_
         refine bI h (fun hb5 h=> ?_) (fun hb5 h=> ?_)
         ·refine ct hb5 ?_
          refine aP (aQ (aB (aQ (aO h fun a1 h=> ?_))))
          refine rg tT ⟨[(2,(vP 63 0)),(lg s_),(4,(vP 65 0)),(8,(vI v7)),(9,(vP 67 0)),(10,(vP 72 0)),q8,pO,nI,(18,(vI u0)),(Dy u2 u0),(20,(vI v3)),(Xo u0 u2 v3),(xI u2),(116,(vI w0)),(117,(vI u0)),(GY u2 u0),(134,(vI v3))],(O8 p p1 p2 p3 w4 w8 x0 x1 x2 u4 u5 w1)⟩ [_,v3.toNat*1+1≤(TH u2 u0).length,((TH u2 u0).drop (v3.toNat*1)).take 1=(XP u0 u2 v3).map .d] {an:=[(1, .vals (XP u0 u2 v3))] } [] ⟨a1,(Uy (n:=2) (sz:=1) (Nat.le_refl _) a1),(Uo (n:=2) (sz:=1) (g:=fun q=>[(cI (at' [(JK u2 u0).e0,(JK u2 u0).e1] q))]) (by intro q hq;match q,hq with|0,_=>rfl|1,_=>rfl) a1),trivial⟩ ?_
          refine aQ (bE h fun ul hr_6 h=> ?_)
          have q0:=kW s_ (UQ u0 u2 v3) hr_6
          refine rg tT ⟨[(2,(vP 63 0)),(lg s_),(4,(vP 65 0)),(8,(vI v7)),(9,(vP 67 0)),(10,(vP 72 0)),q8,pO,nI,(18,(vI u0)),(Dy u2 u0),(20,(vI v3)),(Xo u0 u2 v3),(xI u2),(116,(vI w0)),(117,(vI u0)),(GY u2 u0),(134,(vI v3)),(140,(vB ul))],(O8 p p1 p2 p3 w4 w8 x0 x1 x2 u4 u5 w1)⟩ [_] {an:=[(2,cA q0 [])] } [] ⟨q0,trivial⟩ ?_
          refine bI h (fun hb4 h=> ?_) (fun hb4 h=> ?_)
          ·refine ct hb4 ?_
           refine bE h fun v6 hr_7 h=> ?_
           have q0:=rk [(0,67),(1,111),(2,66),(3,115)] (bX (ae4 u0 u2 v3) (XB p u0) ((at' u2 u0.toNat).power) 0 (⟨w8,w4⟩:Network) hr_7)
           refine rg tT ⟨(agl u2 u0 s_ v7 w0 v3),[(eF p p1 p2 p3),bP,(Na v6),(adr v6),(mO x0),(oD x1),(qx x2),(qN x2 x0 x1),(Dq u4),(CR u5),(75,some (SX 164 3 true false 2 1 af.cell (au .i64) (jF (fun a b=>(decide (a.e0=b.e0) && (decide (a.e1=b.e1) && true))) (⟨u0,v3⟩:af) v6.1 w1))),(V4 v6)]⟩ [_,Gg [some .i64,some .i64] 2 1 w1.length (CO af.cell w1) (Df (au .i64) w1) [(.int .i64 u0),(.int .i64 v3)] [(cI v6.1)] [] (jF (fun a b=>(decide (a.e0=b.e0) && (decide (a.e1=b.e1) && true))) (⟨u0,v3⟩:af) v6.1 w1).length (CO af.cell (jF (fun a b=>(decide (a.e0=b.e0) && (decide (a.e1=b.e1) && true))) (⟨u0,v3⟩:af) v6.1 w1)) (Df (au .i64) (jF (fun a b=>(decide (a.e0=b.e0) && (decide (a.e1=b.e1) && true))) (⟨u0,v3⟩:af) v6.1 w1))] {an:=[(14,cA q0 [67,111,66]),(15, .map (jF (fun a b=>(decide (a.e0=b.e0) && (decide (a.e1=b.e1) && true))) (⟨u0,v3⟩:af) v6.1 w1).length (CO af.cell (jF (fun a b=>(decide (a.e0=b.e0) && (decide (a.e1=b.e1) && true))) (⟨u0,v3⟩:af) v6.1 w1)) (Df (au .i64) (jF (fun a b=>(decide (a.e0=b.e0) && (decide (a.e1=b.e1) && true))) (⟨u0,v3⟩:af) v6.1 w1)) [])] } [] ⟨q0,(yx (fun _=>rfl) (fun _ _=>rfl) w1 (⟨u0,v3⟩:af) v6.1 rfl rfl),trivial⟩ ?_
           refine ri tT ⟨(aa5 s_ v7 u0 u2 w0 v3),[(eF p p1 p2 p3),bP,(Na v6),(adr v6),(mO x0),(oD x1),(qx x2),(qN x2 x0 x1),(Dq u4),(CR u5),(75,some (SX 164 3 true false 2 1 af.cell (au .i64) (jF (fun a b=>(decide (a.e0=b.e0) && (decide (a.e1=b.e1) && true))) (⟨u0,v3⟩:af) v6.1 w1))),(V4 v6)]⟩ [] {} [] trivial (bM.fin (st':=⟨(aa5 s_ v7 u0 u2 w0 v3),[(eF p p1 p2 p3),bP,(Na v6),(adU v6),(mO x0),(oD x1),(qx x2),(qN x2 x0 x1),(Dq u4),(CR u5),(75,some (SX 164 3 true false 2 1 af.cell (au .i64) (jF (fun a b=>(decide (a.e0=b.e0) && (decide (a.e1=b.e1) && true))) (⟨u0,v3⟩:af) v6.1 w1))),(111,some (EU v6))]⟩) (cs:=[]) ⟨[],[(63,63),(65,65),(66,66),(67,67),(69,69),(70,70),(71,71),(72,72),(73,73),(74,74),(75,75),(115,111)]⟩ [2,3,4,8,9,10,11,12,13,18,19,115,116,117,133,134] (by kernel_rfl) trivial) ?_
           obtain rfl:=oi h
           exact lN
          ·refine cf hb4 ?_
           refine aP (rz tT ⟨(aa5 s_ v7 u0 u2 w0 v3),(O8 p p1 p2 p3 w4 w8 x0 x1 x2 u4 u5 w1)⟩ {} [] ?_)
           obtain rfl:=oi h
           exact lN
         ·refine cf hb5 ?_
          refine aI (fz (adt s_ v7 u2 w0 u0 p p1 p2 p3 w4 w8 x0 x1 x2 u4 u5 w1) []) ?_
          refine aX ?_
          obtain rfl:=oi h
          exact lB
        ·clear hy
         cases y2 with
         |brk z=>
          obtain⟨ub,x8,ug⟩:=z
          unfold gm
          refine⟨_, .refl, ?_⟩
          refine ri tT ⟨(aer s_ v7 u0 u2 w0),(O8 p p1 p2 p3 x8 ub x0 x1 x2 u4 u5 ug)⟩ [] {} [] trivial (bM.fin (st':=⟨(aer s_ v7 u0 u2 w0),(TY p p1 p2 p3 x2 x0 x1 ug x8 ub u4 u5)⟩) (cs:=[]) ⟨[],[(63,63),(65,65),(66,66),(67,67),(111,68),(69,69),(70,70),(71,71),(72,72),(73,73),(74,74),(75,75)]⟩ [2,3,4,8,9,10,11,12,13,115,116,117] (by kernel_rfl) trivial) ?_
          obtain rfl:=oi h
          exact lN
         |ret v=>
          obtain rfl:=oi h
          unfold gm
          intro e st hn ha hR
          cases e with
          |normal=>exact absurd rfl hn
          |exit id=>simp only [qz (b:=5) ha rfl,cond_false];exact hR
          |goto l=>exact hR
          |ret=>exact hR
          |panic c=>exact hR
          |outgrown=>exact hR
       ·refine cf hb6 ?_
        refine aI (fz (afW v7 p p1 p2 p3 w9 x7 x0 x1 x2 u4 u5 x9) []) ?_
        refine aX ?_
        obtain rfl:=oi h
        exact lB
      ·clear hy
       cases y3 with
       |brk z=>
        obtain⟨v1,ua,x5,x6,v2,u3⟩:=z
        unfold gm
        refine⟨_, .refl, ?_⟩
        refine aQ (aI (.trans (fi ⟨(ZE ua),[(eF p p1 p2 v1),bP,(67,some (.cells 161 [(.own 68 false x5.length),(.d (.sl (some true) 1 x6.length (fun i j=>evD (yH rQ x6 i j))))])),(KT x5),(mO x0),(oD x1),(qx v2),(qN v2 x0 x1),(Dq u4),(CR u5),(EB u3)]⟩ [x6.length=x6.length] [66] ⟨rfl,trivial⟩) (bM.le (st':=⟨(ZE ua),[(eF p p1 p2 v1),bP,(acj x5 x6),(KT x5),(mO x0),(oD x1),(qx v2),(qN v2 x0 x1),(Dq u4),(CR u5),(EB u3)]⟩) ⟨⟨tR,tR,tR,tR,tR,tR,tR,tR,trivial⟩,(hN 2 ⟨rfl,bA ⟨dO.refl _,dO.d (gV.sl (.inr rfl) (fun i _ j hj=>match j,hj with|0,_=> .refl _)),trivial⟩,(.refl _)⟩)⟩)) ?_)
        refine bE h fun u1 hr_8 h=> ?_
        refine rg tT ⟨[(2,(vP 63 0)),(4,(vP 65 0)),(9,(vP 67 0)),(10,(vP 72 0)),q8,pO,nI],[(eF p p1 p2 v1),bP,(yc u1),(xN u1),(mO x0),(oD x1),(qx v2),(qN v2 x0 x1),(Dq u4),(CR u5),(EB u3)]⟩ [Fn Try.prog 80 [(.one (.ptr 67 0)),(sI ua)] [(acj x5 x6),(KT x5)] (.iP []) (agK u1)] {an:=[(2, .call [67,68] (.iP []) (agK u1))] } [] ⟨(Fn.leH (args:=[(.one (.ptr 67 0)),(sI ua)]) (hin:=[(67,some (.cells 161 [(.own 68 false x5.length),(.d (Pd x6))])),(KT x5)]) (rK [(0,67),(1,68)] (pE ua (⟨x5,x6⟩:Network) hr_8)) ⟨eO.refl _,eO.refl _,trivial⟩ ⟨rfl,bA ⟨dO.refl _,dO.d gV.nT,trivial⟩,(.refl _)⟩),trivial⟩ ?_
        refine aQ (bE h fun y4 hy h=> ?_)
        refine mJ (GN p p1 p2 x1 u5 v1 v2 u3 u1) (K:=3) (V:=3) (s0:=(x0)) ⟨3,3,false,false,1,1,u4.length,CO (au .i64) u4,Df (au .i64) u4,[]⟩ 73 116 (fun i=>(sI (at' (u4.map Prod.fst) i))) (fun i=>(sI (at' (u4.map Prod.snd) i))) hy [3,4] (by kernel_rfl) (by kernel_rfl) (by kernel_rfl) (fun _ _=> ⟨rfl,rfl⟩) (fun _ _=> ⟨qQ _ _,qQ _ _⟩) (fun _=>(bM.fin (st':=(afV u1 p p1 p2 v1 x0 x1 v2 u5 u3)) (cs:=[]) ⟨[],[(63,63),(65,65),(67,67),(68,68),(69,69),(70,70),(71,71),(72,72),(74,74),(75,75),(116,116)]⟩ [2,4,9,10,12,13,162] (by kernel_rfl) trivial)) (fun s=>by obtain⟨w5,rfl⟩: ∃q,q=s:=⟨_,rfl⟩;kernel_rfl) (fun B s i s' hi h=> ?_) ?_
        ·clear hy
         unfold kI at h
         obtain⟨w5,rfl⟩: ∃q,q=s:=⟨_,rfl⟩
         refine rwp tT (⟨[(2,(vP 63 0)),(4,(vP 65 0)),(9,(vP 67 0)),(10,(vP 72 0)),pO,nI,(22,(vI (at' (u4.map Prod.fst) i))),(23,(vI (at' (u4.map Prod.snd) i))),(162,(vP 116 0))],(afo u1 p p1 p2 v1 w5 x1 v2 u5 u3)⟩) {fin:=⟨[],[(63,63),(65,65),(67,67),(68,68),(69,69),(70,70),(71,71),(72,72),(74,74),(75,75),(116,116)]⟩,ts:=[2,4,9,10,12,13,22,23,162] } (cs:=[]) (by kernel_rfl) trivial .refl ?_
         refine aO h fun⟨a1,a2⟩ h=> ?_
         refine di tT mX ⟨Y6,[(eF p p1 p2 v1),bP,(yc u1),(xN u1),(69,some (.arr 3 1 w5.length (SY u4 u1 i w5))),(oD x1),(qx v2),(qN v2 w5 x1),(CR u5),(EB u3),(116,none)]⟩ [_,_,_,_,aG w5.length 1 (aex u4 u1 i w5) (SY u4 u1 i w5)] {an:=[(13, .arr 0 (SY u4 u1 i w5))] } [] ⟨a1,(tL a1),a2,(tL a2),(bL _ _ _ _ _ _ _ _ rfl (fun j hj=>(match j,hj with|0,_=>rfl))),trivial⟩ (bM.le (st':=⟨Y6,[(eF p p1 p2 v1),bP,(yc u1),(xN u1),(69,some (ab7 u4 u1 i w5)),(oD x1),(qx v2),(72,some (.cells 77 [(.own 69 true (agN u4 u1 i w5)),(.own 70 true x1.length),(.own 71 true v2.length)])),(CR u5),(EB u3),(116,none)]⟩) ⟨⟨tR,tR,tR,tR,tR,tR,tR,trivial⟩,(hN 4 ⟨rfl,oW,(hN 2 ⟨rfl,bA ⟨cW,dO.refl _,dO.refl _,trivial⟩,(.refl _)⟩)⟩)⟩) ?_
         obtain rfl:=oi h
         exact⟨.inl rfl,by kernel_rfl⟩
        ·clear hy
         obtain⟨u6,rfl⟩: ∃q,q=y4:=⟨_,rfl⟩
         refine aI (fz ⟨[(2,(vP 63 0)),(4,(vP 65 0)),(9,(vP 67 0)),(10,(vP 72 0)),pO,nI],[(eF p p1 p2 v1),bP,(yc u1),(xN u1),(mO u6),(oD x1),(qx v2),(qN v2 u6 x1),(CR u5),(EB u3)]⟩ []) ?_
         refine aQ (bE h fun y5 hy h=> ?_)
         refine mJ (Hf p p1 p2 v1 v2 u3 u1 u6) (K:=3) (V:=3) (s0:=(x1)) ⟨3,3,false,false,1,1,u5.length,CO (au .i64) u5,Df (au .i64) u5,[]⟩ 74 117 (fun i1=>(sI (at' (u5.map Prod.fst) i1))) (fun i1=>(sI (at' (u5.map Prod.snd) i1))) hy [3,4] (by kernel_rfl) (by kernel_rfl) (by kernel_rfl) (fun _ _=> ⟨rfl,rfl⟩) (fun _ _=> ⟨qQ _ _,qQ _ _⟩) (fun _=>(bM.fin (st':=(agA p p1 p2 v1 u1 u6 x1 v2 u3)) (cs:=[]) ⟨[],[(63,63),(65,65),(67,67),(68,68),(69,69),(70,70),(71,71),(72,72),(75,75),(117,117)]⟩ [2,4,9,10,13,182] (by kernel_rfl) trivial)) (fun s=>by obtain⟨w6,rfl⟩: ∃q,q=s:=⟨_,rfl⟩;kernel_rfl) (fun B s i1 s' hi h=> ?_) ?_
         ·clear hy
          unfold kJ at h
          obtain⟨w6,rfl⟩: ∃q,q=s:=⟨_,rfl⟩
          refine rwp tT (⟨[(2,(vP 63 0)),(4,(vP 65 0)),(9,(vP 67 0)),(10,(vP 72 0)),nI,(24,(vI (at' (u5.map Prod.fst) i1))),(25,(vI (at' (u5.map Prod.snd) i1))),(182,(vP 117 0))],(afm p p1 p2 v1 u1 u6 w6 v2 u3)⟩) {fin:=⟨[],[(63,63),(65,65),(67,67),(68,68),(69,69),(70,70),(71,71),(72,72),(75,75),(117,117)]⟩,ts:=[2,4,9,10,13,24,25,182] } (cs:=[]) (by kernel_rfl) trivial .refl ?_
          refine aO h fun⟨a1,a2,a3⟩ h=> ?_
          refine di tT mX ⟨YR,[(eF p p1 p2 v1),bP,(yc u1),(xN u1),(mO u6),(70,some (.arr 3 1 w6.length (RD p2 u5 u1 i1 w6))),(qx v2),(qN v2 u6 w6),(EB u3),(117,none)]⟩ [_,_,_,_,_,aG w6.length 1 (abV p2 u5 u1 i1 w6) (RD p2 u5 u1 i1 w6)] {an:=[(19, .arr 0 (RD p2 u5 u1 i1 w6))] } [] ⟨a1,a2,(tL a2),a3,(tL a3),(bL _ _ _ _ _ _ _ _ rfl (fun j hj=>(match j,hj with|0,_=>rfl))),trivial⟩ (bM.le (st':=⟨YR,[(eF p p1 p2 v1),bP,(yc u1),(xN u1),(mO u6),(70,some (acn p2 u5 u1 i1 w6)),(qx v2),(72,some (.cells 77 [(.own 69 true u6.length),(.own 70 true (afh p2 u5 u1 i1 w6)),(.own 71 true v2.length)])),(EB u3),(117,none)]⟩) ⟨⟨tR,tR,tR,tR,tR,tR,trivial⟩,(hN 5 ⟨rfl,oW,⟨rfl, .refl _,⟨rfl,bA ⟨dO.refl _,cW,dO.refl _,trivial⟩,⟨rfl, .refl _,⟨rfl, .refl _,trivial⟩⟩⟩⟩⟩)⟩) ?_
          obtain rfl:=oi h
          exact⟨.inl rfl,by kernel_rfl⟩
         ·clear hy
          obtain⟨u8,rfl⟩: ∃q,q=y5:=⟨_,rfl⟩
          refine aI (fz ⟨[(2,(vP 63 0)),(4,(vP 65 0)),(9,(vP 67 0)),(10,(vP 72 0)),nI],[(eF p p1 p2 v1),bP,(yc u1),(xN u1),(mO u6),(oD u8),(qx v2),(qN v2 u6 u8),(EB u3)]⟩ []) ?_
          refine aQ (bE h fun y6 hy h=> ?_)
          refine mJ (Gl p p1 p2 v1 u1 u6 u8) (K:=164) (V:=3) (s0:=(v2)) ⟨164,3,true,false,2,1,u3.length,CO af.cell u3,Df (au .i64) u3,[]⟩ 75 118 (fun i2=>(.agg (V3 u3 i2))) (fun i2=>(sI (at' (u3.map Prod.snd) i2))) hy [3,4,5] (by kernel_rfl) (by kernel_rfl) (by kernel_rfl) (fun _ _=> ⟨rfl,rfl⟩) (fun _ _=> ⟨Qy rfl,qQ _ _⟩) (fun _=>(bM.fin (st':=(abU p p1 p2 v1 u1 u6 u8 v2)) (cs:=[]) ⟨[],[(63,63),(65,65),(67,67),(68,68),(69,69),(70,70),(71,71),(72,72),(118,118)]⟩ [2,4,9,10,208] (by kernel_rfl) trivial)) (fun s=>by obtain⟨u9,rfl⟩: ∃q,q=s:=⟨_,rfl⟩;kernel_rfl) (fun B s i2 s' hi h=> ?_) ?_
          ·clear hy
           unfold kK at h
           obtain⟨u9,rfl⟩: ∃q,q=s:=⟨_,rfl⟩
           refine rwp tT (⟨(aaX u3 i2),[(eF p p1 p2 v1),bP,(yc u1),(xN u1),(mO u6),(oD u8),(qx u9),(qN u9 u6 u8),(118,none),(121,some (.cells 164 (V3 u3 i2)))]⟩) {fr:=frf [(3,121)],fin:=⟨[],[(63,63),(65,65),(67,67),(68,68),(69,69),(70,70),(71,71),(72,72),(118,118),(121,121)]⟩,ts:=[2,4,9,10,26,27,208] } (cs:=[]) (by kernel_rfl) trivial .refl ?_
           refine bI h (fun hb7 h=> ?_) (fun _ h=> ?_)
           ·skip
            refine aI (bM.le (st':=⟨(aaX u3 i2),[(eF p p1 p2 v1),bP,(yc u1),(xN u1),(mO u6),(oD u8),(qx u9),(qN u9 u6 u8),(118,none),(121,some (.cells 164 [(cI ((at' (u3.map Prod.fst) i2).e0)),(cI 0)]))]⟩) ⟨⟨tR,tR,tR,tR,tR,tR,tR,trivial⟩,(hN 9 ⟨rfl,bA ⟨dO.refl _,dO.of (congrArg (fun n=>CV.d (.int .i64 n)) (of_decide_eq_true hb7)),trivial⟩,trivial⟩)⟩) ?_
            refine aO h fun⟨a1,a2⟩ h=> ?_
            refine di tT mX ⟨UI,[(eF p p1 p2 v1),bP,(yc u1),(xN u1),(mO u6),(oD u8),(71,some (.arr 164 2 u9.length (Rz u1 u3 i2 u9))),(qN u9 u6 u8),(118,none)]⟩ [(0:Int)≤0∧(0:Int)<(2:Nat),(0:Int)≤1∧(1:Int)<(2:Nat),_,_,_,(0:Int)≤0∧(0:Int)<(2:Nat),_,aG u9.length 2 (abN u1 u3 i2 u9) (Rz u1 u3 i2 u9)] {an:=[(17, .arr 0 (Rz u1 u3 i2 u9))] } [] ⟨((by decide)),((by decide)),a1,(tL a1),a2,((by decide)),(tL a2),(bL _ _ _ _ _ _ _ _ rfl (fun j hj=>(match j,hj with|0,_=>rfl|1,_=>rfl))),trivial⟩ (bM.le (st':=⟨UI,[(eF p p1 p2 v1),bP,(yc u1),(xN u1),(mO u6),(oD u8),(71,some (agm u1 u3 i2 u9)),(72,some (.cells 77 [(.own 69 true u6.length),(.own 70 true u8.length),(.own 71 true (adS u1 u3 i2 u9))])),(118,none)]⟩) ⟨⟨tR,tR,tR,tR,tR,trivial⟩,(hN 6 ⟨rfl,oW,⟨rfl,bA ⟨dO.refl _,dO.refl _,cW,trivial⟩,(.refl _)⟩⟩)⟩) ?_
            obtain rfl:=oi h
            exact⟨.inl rfl,by kernel_rfl⟩
           ·skip
            refine aO h fun a1 h=> ?_
            refine aI (bM.le (st':=⟨(aaX u3 i2),[(eF p p1 p2 v1),bP,(yc u1),(xN u1),(mO u6),(oD u8),(qx u9),(qN u9 u6 u8),(118,none),(121,some (.cells 164 [(cI ((at' (u3.map Prod.fst) i2).e0)),(cI 1)]))]⟩) ⟨⟨tR,tR,tR,tR,tR,tR,tR,trivial⟩,(hN 9 ⟨rfl,bA ⟨dO.refl _,dO.of (congrArg (fun n=>CV.d (.int .i64 n)) a1),trivial⟩,trivial⟩)⟩) ?_
            refine aO h fun⟨a1,a2⟩ h=> ?_
            refine di tT mX ⟨UI,[(eF p p1 p2 v1),bP,(yc u1),(xN u1),(mO u6),(oD u8),(71,some (.arr 164 2 u9.length (QU u1 u3 i2 u9))),(qN u9 u6 u8),(118,none)]⟩ [(0:Int)≤0∧(0:Int)<(2:Nat),(0:Int)≤1∧(1:Int)<(2:Nat),_,_,_,(0:Int)≤1∧(1:Int)<(2:Nat),_,aG u9.length 2 (adN u1 u3 i2 u9) (QU u1 u3 i2 u9)] {an:=[(17, .arr 0 (QU u1 u3 i2 u9))] } [] ⟨((by decide)),((by decide)),a1,(tL a1),a2,((by decide)),(tL a2),(bL _ _ _ _ _ _ _ _ rfl (fun j hj=>(match j,hj with|0,_=>rfl|1,_=>rfl))),trivial⟩ (bM.le (st':=⟨UI,[(eF p p1 p2 v1),bP,(yc u1),(xN u1),(mO u6),(oD u8),(71,some (aeI u1 u3 i2 u9)),(72,some (.cells 77 [(.own 69 true u6.length),(.own 70 true u8.length),(.own 71 true (aeC u1 u3 i2 u9))])),(118,none)]⟩) ⟨⟨tR,tR,tR,tR,tR,trivial⟩,(hN 6 ⟨rfl,oW,⟨rfl,bA ⟨dO.refl _,dO.refl _,cW,trivial⟩,(.refl _)⟩⟩)⟩) ?_
            obtain rfl:=oi h
            exact⟨.inl rfl,by kernel_rfl⟩
          ·clear hy
           obtain⟨w2,rfl⟩: ∃q,q=y6:=⟨_,rfl⟩
           refine aI (fz ⟨[(2,(vP 63 0)),(4,(vP 65 0)),(9,(vP 67 0)),(10,(vP 72 0))],[(eF p p1 p2 v1),bP,(yc u1),(xN u1),(mO u6),(oD u8),(qx w2),(qN w2 u6 u8)]⟩ []) ?_
           refine aQ (aO h fun⟨a1,a2,a3⟩ h=> ?_)
           refine rg tT ⟨[(2,(vP 63 0)),(4,(vP 65 0)),(9,(vP 67 0)),(10,(vP 72 0)),(28,(vP 123 0))],[(eF p p1 p2 v1),bP,(yc u1),(xN u1),(mO u6),(oD u8),(qx w2),(qN w2 u6 u8),(UU p),(UW p)]⟩ [_,(p.buses:Int)=p.buses,_,_,(Jb p).length=p.buses.toNat,aG p.buses.toNat 1 (fun _ j=>[(.bool false)].getD j .nilp) (QV p)] {an:=[(2, .arr (Jb p).length (QV p))],fr:=[(2,122),(3,123)] } [] ⟨a1,rfl,a2,a3,(List.length_replicate),(dP _ _ _ _ _ (fun j hj=>(match j,hj with|0,_=>rfl))),trivial⟩ ?_
           refine aQ (aQ (bE h fun um hr_9 h=> ?_))
           have q0:=rk [(0,67),(1,68),(2,124)] (jm u1 hr_9)
           refine ri tT ⟨adH,[(eF p p1 p2 v1),bP,(67,some (adQ u1)),(mO u6),(oD u8),(qx w2),(qN w2 u6 u8),(UU p),(UW p),(124,some (.cells 157 [(.ptr 67 0)]))]⟩ [_,u1.arcs.length=u1.arcs.length] {an:=[(1,cA q0 [67,68])] } [68] ⟨q0,rfl,trivial⟩ (.trans (fz ⟨adH,[(eF p p1 p2 v1),bP,(mO u6),(oD u8),(qx w2),(qN w2 u6 u8),(UU p),(UW p),(124,some (aeU u1))]⟩ [67]) (fz ⟨(aeD u1),[(eF p p1 p2 v1),bP,(mO u6),(oD u8),(qx w2),(qN w2 u6 u8),(UU p),(UW p)]⟩ [124])) ?_
           refine aB (bE h fun x4 hr_10 h=> ?_)
           refine jI 125 [(2,(vP 63 0)),(28,(vP 123 0))] [] [125,63,123,122] (.iP []) [(125,some (.loop dN 0 [(2,(vP 63 0)),(28,(vP 123 0))])),(eF p p1 p2 v1),(123,some (.cells 27 [(.own 122 true x4.length)])),(122,some (bZ 4 1 aj x4))] (aa1 u1) 121 [] (aeX u1) [(125,some (.loop dN 0 [(2,(vP 63 0)),(28,(vP 123 0))])),(eF p p1 p2 v1),(UW p),(UU p)] [(.one (.yl 125)),(sD (Xv u1))] dN 0 [(2,(vP 63 0)),(28,(vP 123 0))] (by kernel_rfl) (by kernel_rfl) (by kernel_rfl) (by kernel_rfl) (by kernel_rfl) (by kernel_rfl) (by kernel_rfl) (rK [(0,125),(1,63),(2,123),(3,122)] (jO u1.arcs u1.from_ (⟨p.buses,p1,p2,v1⟩:ah) (Jb p) hr_10)) (by kernel_rfl) rfl (CQ.zero rfl) (bM.fin (st':=⟨(aeD u1),[(eF p p1 p2 v1),bP,(mO u6),(oD u8),(qx w2),(qN w2 u6 u8),(122,some (bZ 4 1 aj x4)),(123,some (.cells 27 [(.own 122 true x4.length)]))]⟩) (cs:=[]) ⟨[],[(63,63),(65,65),(69,69),(70,70),(71,71),(72,72),(122,122),(123,123)]⟩ [2,4,10,28,235] (by kernel_rfl) trivial) ?_
           refine sj tT mX ⟨[(4,(vP 65 0)),(5,(vD (aK (some true) 1 aj x4))),(6,(vI 0))],[(65,some (.cells 77 [(.d (QJ u6)),(.d (QJ u8)),(.d (aK (some true) 2 af.cell w2))]))]⟩ [x4.length=x4.length,u6.length=u6.length,u8.length=u8.length,w2.length=w2.length] {} [69,70,71,122] ⟨rfl,rfl,rfl,rfl,trivial⟩ (fz ⟨[(4,(vD (lT [(QJ u6),(QJ u8),(aK (some true) 2 af.cell w2)] 0))),(5,(vD (aK (some true) 1 aj x4))),(6,(vI 0))],[]⟩ [65]) ?_
           refine aI (bM.le (st':=⟨[(4,(vD (lT [(y9 u6),(y9 u8),(aK none 2 af.cell w2)] 0))),(5,(vD (aK none 1 aj x4))),(6,(vI 0))],[]⟩) ⟨⟨⟨_,rfl,eH.v (eO.one (dO.d (K7 ⟨gV.nT,gV.nT,gV.nT,trivial⟩)))⟩,⟨_,rfl,eH.v (eO.one (dO.d gV.nT))⟩,tR,trivial⟩,trivial⟩) ?_
           refine aR ?_
           obtain rfl:=oi h
           exact rl [(.agg [(.d (y9 u6)),(.d (y9 u8)),(.d (aK none 2 af.cell w2))]),(sD (aK none 1 aj x4)),(sI 0)]
       |ret v=>
        obtain rfl:=oi h
        unfold gm
        intro e st hn ha hR
        cases e with
        |normal=>exact absurd rfl hn
        |exit id=>exact hR
        |goto l=>exact hR
        |ret=>exact hR
        |panic c=>exact hR
        |outgrown=>exact hR
     |ret v=>
      obtain rfl:=oi h
      unfold gm
      intro e st hn ha hR
      cases e with
      |normal=>exact absurd rfl hn
      |exit id=>exact hR
      |goto l=>exact hR
      |ret=>exact hR
      |panic c=>exact hR
      |outgrown=>exact hR
   |ret v=>
    obtain rfl:=oi h
    unfold gm
    intro e st hn ha hR
    cases e with
    |normal=>exact absurd rfl hn
    |exit id=>exact hR
    |goto l=>exact hR
    |ret=>exact hR
    |panic c=>exact hR
    |outgrown=>exact hR
def FQ  :(Int × (List Source) × (List Link) × (List ay) × (List Bool) × (List Bool) × (List Bool) × (List Bool) × (List Bool) × (List Bool) × (List Bool) × (List Bool))→Exit→St→Prop:=
  fun r=>bB TT [.tmp 6] (vD (.fn 124 3 (nC [(lT [(.int .i64 r.1),(aK none 5 Source.cell r.2.1),(aK none 6 Link.cell r.2.2.1),(aK none 4 ay.cell r.2.2.2.1)] 0),(lT [(aK none 1 aj r.2.2.2.2.1),(aK none 1 aj r.2.2.2.2.2.1),(aK none 1 aj r.2.2.2.2.2.2.1),(aK none 1 aj r.2.2.2.2.2.2.2.1),(aK none 1 aj r.2.2.2.2.2.2.2.2.1),(aK none 1 aj r.2.2.2.2.2.2.2.2.2.1),(aK none 1 aj r.2.2.2.2.2.2.2.2.2.2.1)] 0),(lT [(aK none 1 aj r.2.2.2.2.2.2.2.2.2.2.2)] 0)]))) []
section
variable (p:ah) (s_:State) (u0:(List Bool))
abbrev ad9:List SV:=[(.agg (k5 p)),(.agg (QK s_)),(sD (aK none 1 aj u0))]
abbrev Pt:DV:=(lT [(aK none 1 aj u0)] 0)
abbrev agw:=(nC [(k10 p),(k75 s_),(Pt u0)])
end
theorem wL (p:ah) (s_:State) (u0:(List Bool)) {r:(Int × (List Source) × (List Link) × (List ay) × (List Bool) × (List Bool) × (List Bool) × (List Bool) × (List Bool) × (List Bool) × (List Bool) × (List Bool))} (h:lX p s_ u0=some r):Fn Try.prog 82 (ad9 p s_ u0) [] (vD (.fn 124 3 (nC [(lT [(.int .i64 r.1),(aK none 5 Source.cell r.2.1),(aK none 6 Link.cell r.2.2.1),(aK none 4 ay.cell r.2.2.2.1)] 0),(lT [(aK none 1 aj r.2.2.2.2.1),(aK none 1 aj r.2.2.2.2.2.1),(aK none 1 aj r.2.2.2.2.2.2.1),(aK none 1 aj r.2.2.2.2.2.2.2.1),(aK none 1 aj r.2.2.2.2.2.2.2.2.1),(aK none 1 aj r.2.2.2.2.2.2.2.2.2.1),(aK none 1 aj r.2.2.2.2.2.2.2.2.2.2.1)] 0),(lT [(aK none 1 aj r.2.2.2.2.2.2.2.2.2.2.2)] 0)]))) []:=by
 refine fN tT Try.func82 rfl rfl fun B=> ?_
 show bJ _ _ _ _ _ _ (FQ r) _
 unfold lX at h
 refine sz tT ⟨[(bn p),(aV s_),(5,(vD (Pt u0)))],[]⟩ {fr:=[(0,3),(1,4),(2,5)] } [3,4,5] ?_
 refine sz tT ⟨[(6,(vD (.fn 124 3 (agw p s_ u0))))],[]⟩ {} [] ?_
 refine aR ?_
 obtain rfl:=oi h
 exact rl [(sD (.fn 124 3 (agw p s_ u0)))]
def fI  :(ai × (List Bool) × Int)→Exit→St→Prop:=
  fun r=>bB TT [.cell 4 77, .tmp 5, .tmp 6] (.iP [(.agg [(.own 0 false r.1.sources.length),(.own 1 false r.1.links.length),(.own 2 false r.1.racks.length)]),(.one (.own 3 false r.2.1.length)),(sI r.2.2)]) [(0,some (bZ 3 1 (au .i64) r.1.sources)),(1,some (bZ 3 1 (au .i64) r.1.links)),(2,some (bZ 164 2 af.cell r.1.racks)),(3,some (bZ 4 1 aj r.2.1)),(4,none)]
section
variable (s_:State) (p:ah) (u1:Int) (n1:(List (List Int))) (n0:(List aY)) (u0:(List (Int × Int)))
abbrev rq:Nat × TV:=(11,(.v (.one (.mp 77))))
abbrev oF:Nat × TV:=(12,(.v (.one (.mp 78))))
abbrev nP:Nat × TV:=(13,(.v (.one (.mp 79))))
abbrev acF:List (Nat × TV):=[(2,(vP 63 0)),(lg s_),(4,(vP 65 0)),(mZ p),(9,(vP 71 0)),(10,(vP 76 0)),rq,oF,nP,(Gn p),(GQ p),(68,(vI u1))]
abbrev QY:Nat × Option Ob:=(70,some (.rows 40 1 n1.length (yH rQ n1) none))
abbrev U1:Nat × Option Ob:=(71,some (.cells 161 [(.own 72 false n0.length),(.own 70 true n1.length)]))
abbrev LV:Nat × Option Ob:=(72,some (bZ 170 2 aY.cell n0))
abbrev Tn:Nat × Option Ob:=(73,some (bZ 3 1 (au .i64) (KN p)))
abbrev Lf:Nat × Option Ob:=(74,some (Zf p))
abbrev JF:Nat × Option Ob:=(75,some (adv p))
abbrev Um:Nat × Option Ob:=(76,some (.cells 77 [(.own 73 true ((KN p).length)),(.own 74 true (TA p)),(.own 75 true (Sz p))]))
abbrev Cv:Nat × Option Ob:=(77,some (WJ u0))
abbrev TD:Nat × Option Ob:=(78,some WG)
abbrev K4:Nat × Option Ob:=(79,some (SX 164 3 true false 2 1 af.cell (au .i64) ([]:(List (af × Int)))))
abbrev RP:List (Nat × Option Ob):=[(zi p),bP,(QY n1),(U1 n1 n0),(LV n0),(Tn p),(Lf p),(JF p),(Um p),(Cv u0),TD,K4]
end
def uU (p:ah) (s_:State):((List aY) × (List (List Int)) × (List (Int × Int)) × Int)→St:=
  fun zz=>match zz with|(n0,n1,u0,u1)=> ⟨(acF s_ p u1),(RP p n1 n0 u0)⟩
section
variable (s_:State) (p:ah) (x0:(List Int)) (p1:(List Source)) (u0:(List (List Int))) (u1:(List aY)) (u2:(List (Int × Int)))
abbrev TS:List (Nat × TV):=[(2,(vP 63 0)),(lg s_),(4,(vP 65 0)),(mZ p),(9,(vP 71 0)),(10,(vP 76 0)),rq,oF,nP]
abbrev mD:Nat × Option Ob:=(73,some (BJ x0))
abbrev XC:Nat × Option Ob:=(76,some (.cells 77 [(.own 73 true x0.length),(.own 74 true (TA p)),(.own 75 true (Sz p))]))
abbrev afb:List (Nat × Option Ob):=[(Nq p p1),bP,(QY u0),(U1 u0 u1),(LV u1),(mD x0),(Lf p),(JF p),(XC p x0),(Cv u2),TD,K4]
end
def uM (p:ah) (s_:State):((List Source) × (List aY) × (List (List Int)) × (List Int) × (List (Int × Int)))→St:=
  fun zz=>match zz with|(p1,u1,u0,x0,u2)=> ⟨(TS s_ p),(afb p x0 p1 u0 u1 u2)⟩
def CU (p:ah) (s_:State):(aM ((List aY) × (List (List Int)) × (List (Int × Int)) × Int) (Ex ((List Source) × (List aY) × (List (List Int)) × (List Int) × (List (Int × Int))) (ai × (List Bool) × Int)))→Exit→St→Prop:=
  LQ 0 [] (uU p s_) (uM p s_) fI
section
variable (s_:State) (p:ah) (u4:Int) (u3:(List (Int × Int))) (p1:(List Source)) (u0:(List (List Int))) (u1:(List aY)) (x0:(List Int)) (u2:(List (Int × Int)))
abbrev adu:List (Nat × TV):=[(2,(vP 63 0)),(lg s_),(4,(vP 65 0)),(mZ p),(9,(vP 71 0)),(10,(vP 76 0)),rq,oF,nP,(G8 p),(Gj p),(90,(vI u4))]
abbrev Dc:Nat × Option Ob:=(78,some (WJ u3))
abbrev SG:List (Nat × Option Ob):=[(Nq p p1),bP,(QY u0),(U1 u0 u1),(LV u1),(mD x0),(Lf p),(JF p),(XC p x0),(Cv u2),(Dc u3),K4]
end
def uw (p:ah) (s_:State) (p1:(List Source)) (x0:(List Int)) (u2:(List (Int × Int))):((List aY) × (List (List Int)) × (List (Int × Int)) × Int)→St:=
  fun zz=>match zz with|(u1,u0,u3,u4)=> ⟨(adu s_ p u4),(SG p u3 p1 u0 u1 x0 u2)⟩
section
variable (x1:(List Int)) (p:ah) (p1:(List Source)) (p2:(List Link)) (u0:(List (List Int))) (u1:(List aY)) (x0:(List Int)) (u2:(List (Int × Int))) (u3:(List (Int × Int)))
abbrev ol:Nat × Option Ob:=(74,some (BJ x1))
abbrev aeQ:List (Nat × Option Ob):=[(adq p p1 p2),bP,(QY u0),(U1 u0 u1),(LV u1),(mD x0),(ol x1),(JF p),(76,some (.cells 77 [(.own 73 true x0.length),(.own 74 true x1.length),(.own 75 true (Sz p))])),(Cv u2),(Dc u3),K4]
end
def uq (p:ah) (s_:State) (p1:(List Source)) (x0:(List Int)) (u2:(List (Int × Int))):((List Link) × (List aY) × (List (List Int)) × (List Int) × (List (Int × Int)))→St:=
  fun zz=>match zz with|(p2,u1,u0,x1,u3)=> ⟨(TS s_ p),(aeQ x1 p p1 p2 u0 u1 x0 u2 u3)⟩
def Cx (p:ah) (s_:State) (p1:(List Source)) (x0:(List Int)) (u0:(List (Int × Int))):(aM ((List aY) × (List (List Int)) × (List (Int × Int)) × Int) (Ex ((List Link) × (List aY) × (List (List Int)) × (List Int) × (List (Int × Int))) (ai × (List Bool) × Int)))→Exit→St→Prop:=
  LQ 2 [] (uw p s_ p1 x0 u0) (uq p s_ p1 x0 u0) fI
section
variable (s_:State) (u4:Int) (u6:(List ay)) (u7:Int) (u8:Int) (x2:(List af)) (x0:(List Int)) (x1:(List Int)) (u5:(List (af × Int))) (p:ah) (p1:(List Source)) (p2:(List Link)) (p3:(List ay)) (u0:(List (List Int))) (u1:(List aY)) (u2:(List (Int × Int))) (u3:(List (Int × Int)))
abbrev ac1:List (Nat × TV):=[(2,(vP 63 0)),(lg s_),(4,(vP 65 0)),(8,(vI u4)),(9,(vP 71 0)),(10,(vP 76 0)),rq,oF,nP,(xI u6),(116,(vI u7)),(117,(vI u8))]
abbrev pV:Nat × Option Ob:=(75,some (bZ 164 2 af.cell x2))
abbrev qA:Nat × Option Ob:=(76,some (.cells 77 [(.own 73 true x0.length),(.own 74 true x1.length),(.own 75 true x2.length)]))
abbrev ER:Nat × Option Ob:=(79,some (SX 164 3 true false 2 1 af.cell (au .i64) u5))
abbrev U0:List (Nat × Option Ob):=[(eF p p1 p2 p3),bP,(QY u0),(U1 u0 u1),(LV u1),(mD x0),(ol x1),(pV x2),(qA x2 x0 x1),(Cv u2),(Dc u3),(ER u5)]
end
def uo (p:ah) (s_:State) (p1:(List Source)) (x0:(List Int)) (u2:(List (Int × Int))) (p2:(List Link)) (x1:(List Int)) (u3:(List (Int × Int))):((List ay) × Int × (List aY) × (List (List Int)) × (List af) × (List (af × Int)) × (List ay) × Int × Int)→St:=
  fun zz=>match zz with|(p3,u4,u1,u0,x2,u5,u6,u7,u8)=> ⟨(ac1 s_ u4 u6 u7 u8),(U0 x2 x0 x1 u5 p p1 p2 p3 u0 u1 u2 u3)⟩
section
variable (u6:Int) (p:ah) (p1:(List Source)) (p2:(List Link)) (u5:(List ay)) (u0:(List (List Int))) (u1:(List aY)) (x0:(List Int)) (x1:(List Int)) (u2:(List af)) (u3:(List (Int × Int))) (u4:(List (Int × Int))) (u7:(List (af × Int)))
abbrev abp:List (Nat × TV):=[(2,(vP 63 0)),(4,(vP 65 0)),(8,(vI u6)),(9,(vP 71 0)),(10,(vP 76 0)),rq,oF,nP]
abbrev afM:St:=⟨(abp u6),(U0 u2 x0 x1 u7 p p1 p2 u5 u0 u1 u3 u4)⟩
end
def vE (p:ah) (p1:(List Source)) (x0:(List Int)) (u3:(List (Int × Int))) (p2:(List Link)) (x1:(List Int)) (u4:(List (Int × Int))):((List ay) × Int × (List aY) × (List (List Int)) × (List af) × (List (af × Int)))→St:=
  fun zz=>match zz with|(u5,u6,u1,u0,u2,u7)=>(afM u6 p p1 p2 u5 u0 u1 x0 x1 u2 u3 u4 u7)
def oh (p:ah) (s_:State) (p1:(List Source)) (x0:(List Int)) (u0:(List (Int × Int))) (p2:(List Link)) (x1:(List Int)) (u1:(List (Int × Int))):(aM ((List ay) × Int × (List aY) × (List (List Int)) × (List af) × (List (af × Int)) × (List ay) × Int × Int) (Ex ((List ay) × Int × (List aY) × (List (List Int)) × (List af) × (List (af × Int))) (ai × (List Bool) × Int)))→Exit→St→Prop:=
  LQ 4 [] (uo p s_ p1 x0 u0 p2 x1 u1) (vE p p1 x0 u0 p2 x1 u1) fI
section
variable (s_:State) (u6:Int) (u0:Int) (u1:(List ay)) (u7:Int) (u9:Int) (p:ah) (p1:(List Source)) (p2:(List Link)) (p3:(List ay)) (u2:(List (List Int))) (u3:(List aY)) (x0:(List Int)) (x1:(List Int)) (x2:(List af)) (u4:(List (Int × Int))) (u5:(List (Int × Int))) (u8:(List (af × Int)))
abbrev afT:List (Nat × TV):=[(2,(vP 63 0)),(lg s_),(4,(vP 65 0)),(8,(vI u6)),(9,(vP 71 0)),(10,(vP 76 0)),rq,oF,nP,(18,(vI u0)),(Dy u1 u0),(xI u1),(116,(vI u7)),(117,(vI u0)),(GY u1 u0),(134,(vI u9))]
abbrev OI:List (Nat × Option Ob):=[(eF p p1 p2 p3),bP,(QY u2),(71,some (.cells 161 [(.own 115 false u3.length),(.own 70 true u2.length)])),(mD x0),(ol x1),(pV x2),(qA x2 x0 x1),(Cv u4),(Dc u5),(ER u8),(115,some (bZ 170 2 aY.cell u3))]
end
def uW (p:ah) (s_:State) (p1:(List Source)) (x0:(List Int)) (u4:(List (Int × Int))) (p2:(List Link)) (x1:(List Int)) (u5:(List (Int × Int))) (p3:(List ay)) (u6:Int) (x2:(List af)) (u1:(List ay)) (u7:Int) (u0:Int):((List aY) × (List (List Int)) × (List (af × Int)) × Int)→St:=
  fun zz=>match zz with|(u3,u2,u8,u9)=> ⟨(afT s_ u6 u0 u1 u7 u9),(OI p p1 p2 p3 u2 u3 x0 x1 x2 u4 u5 u8)⟩
section
variable (s_:State) (u4:Int) (u5:(List ay)) (u6:Int) (u7:Int) (p:ah) (p1:(List Source)) (p2:(List Link)) (p3:(List ay)) (u0:(List (List Int))) (u1:(List aY)) (x0:(List Int)) (x1:(List Int)) (x2:(List af)) (u2:(List (Int × Int))) (u3:(List (Int × Int))) (u8:(List (af × Int)))
abbrev afw:St:=⟨(ac1 s_ u4 u5 u6 u7),(OI p p1 p2 p3 u0 u1 x0 x1 x2 u2 u3 u8)⟩
end
def tZ (p:ah) (s_:State) (p1:(List Source)) (x0:(List Int)) (u2:(List (Int × Int))) (p2:(List Link)) (x1:(List Int)) (u3:(List (Int × Int))) (p3:(List ay)) (u4:Int) (x2:(List af)) (u5:(List ay)) (u6:Int) (u7:Int):((List aY) × (List (List Int)) × (List (af × Int)))→St:=
  fun zz=>match zz with|(u1,u0,u8)=>(afw s_ u4 u5 u6 u7 p p1 p2 p3 u0 u1 x0 x1 x2 u2 u3 u8)
def C9 (p:ah) (s_:State) (p1:(List Source)) (x0:(List Int)) (u0:(List (Int × Int))) (p2:(List Link)) (x1:(List Int)) (u1:(List (Int × Int))) (p3:(List ay)) (u2:Int) (x2:(List af)) (u3:(List ay)) (u4:Int) (u5:Int):(aM ((List aY) × (List (List Int)) × (List (af × Int)) × Int) (Ex ((List aY) × (List (List Int)) × (List (af × Int))) (aM ((List ay) × Int × (List aY) × (List (List Int)) × (List af) × (List (af × Int)) × (List ay) × Int × Int) (Ex ((List ay) × Int × (List aY) × (List (List Int)) × (List af) × (List (af × Int))) (ai × (List Bool) × Int)))))→Exit→St→Prop:=
  LQ 6 [5] (uW p s_ p1 x0 u0 p2 x1 u1 p3 u2 x2 u3 u4 u5) (tZ p s_ p1 x0 u0 p2 x1 u1 p3 u2 x2 u3 u4 u5) (oh p s_ p1 x0 u0 p2 x1 u1)
section
variable (u0:Network) (p:ah) (p1:(List Source)) (p2:(List Link)) (u4:(List ay)) (u2:(List Int)) (x1:(List Int)) (u1:(List af)) (u3:(List (Int × Int))) (u5:(List (af × Int)))
abbrev ZG:List (Nat × TV):=[(2,(vP 63 0)),(4,(vP 65 0)),(9,(vP 71 0)),(10,(vP 76 0)),oF,nP,(162,(vP 120 0))]
abbrev yj:Nat × Option Ob:=(71,some (.cells 161 [(.own 72 false u0.arcs.length),(.d (Hy u0))]))
abbrev xK:Nat × Option Ob:=(72,some (bZ 170 2 aY.cell u0.arcs))
abbrev agv:List (Nat × Option Ob):=[(eF p p1 p2 u4),bP,(yj u0),(xK u0),(mD u2),(ol x1),(pV u1),(qA u1 u2 x1),(Dc u3),(ER u5),(120,none)]
abbrev adI:St:=⟨ZG,(agv u0 p p1 p2 u4 u2 x1 u1 u3 u5)⟩
end
def CB (p:ah) (p1:(List Source)) (p2:(List Link)) (x1:(List Int)) (u3:(List (Int × Int))) (u4:(List ay)) (u1:(List af)) (u5:(List (af × Int))) (u0:Network):(List Int)→St:=
  fun u2=>(adI u0 p p1 p2 u4 u2 x1 u1 u3 u5)
section
variable (p:ah) (p1:(List Source)) (p2:(List Link)) (u4:(List ay)) (u0:Network) (u2:(List Int)) (u3:(List Int)) (u1:(List af)) (u5:(List (af × Int)))
abbrev aae:List (Nat × TV):=[(2,(vP 63 0)),(4,(vP 65 0)),(9,(vP 71 0)),(10,(vP 76 0)),nP,(182,(vP 121 0))]
abbrev acJ:List (Nat × Option Ob):=[(eF p p1 p2 u4),bP,(yj u0),(xK u0),(mD u2),(ol u3),(pV u1),(qA u1 u2 u3),(ER u5),(121,none)]
abbrev ado:St:=⟨aae,(acJ p p1 p2 u4 u0 u2 u3 u1 u5)⟩
end
def Dp (p:ah) (p1:(List Source)) (p2:(List Link)) (u4:(List ay)) (u1:(List af)) (u5:(List (af × Int))) (u0:Network) (u2:(List Int)):(List Int)→St:=
  fun u3=>(ado p p1 p2 u4 u0 u2 u3 u1 u5)
section
variable (p:ah) (p1:(List Source)) (p2:(List Link)) (u4:(List ay)) (u0:Network) (u1:(List Int)) (u2:(List Int)) (u3:(List af))
abbrev Vo:List (Nat × TV):=[(2,(vP 63 0)),(4,(vP 65 0)),(9,(vP 71 0)),(10,(vP 76 0)),(208,(vP 122 0))]
abbrev ab0:St:=⟨Vo,[(eF p p1 p2 u4),bP,(yj u0),(xK u0),(mD u1),(ol u2),(pV u3),(qA u3 u1 u2),(122,none)]⟩
end
def Db (p:ah) (p1:(List Source)) (p2:(List Link)) (u4:(List ay)) (u0:Network) (u1:(List Int)) (u2:(List Int)):(List af)→St:=
  fun u3=>(ab0 p p1 p2 u4 u0 u1 u2 u3)
section
variable (r_:Int) (s_:State) (p:ah) (v4:(Int × Network)) (v0:Int) (v9:(List (Int × Int))) (p1:(List Source)) (v5:(Int × Network)) (x0:(List Int)) (u4:(List (Int × Int))) (u7:Int) (w0:(List (Int × Int))) (v7:Int) (u0:Int) (u2:(List ay)) (w1:Int) (x4:(Int × Network)) (p2:(List Link)) (p3:(List ay)) (x1:(List Int)) (x2:(List af)) (u5:(List (Int × Int))) (x9:(List (af × Int))) (v6:(Int × Network)) (v3:Int) (x5:(List aY)) (x6:(List (List Int))) (u1:Network) (u3:(List (af × Int))) (i2:Nat) (u6:(List Int))
abbrev ZW:List (Nat × TV):=[(4,(vP 65 0)),(5,(vO 66 false 0)),(6,(vI r_))]
abbrev Y5:Nat × Option Ob:=(66,some (.arr 4 1 0 (aC aj ([]:List Bool))))
abbrev ZK:Nat × Option Ob:=(67,some (.arr 3 1 0 (aC (au .i64) ([]:List Int))))
abbrev agz:List CV:=[(.own 0 false (([]:List Int).length)),(.own 1 false (([]:List Int).length)),(.own 2 false (([]:List af).length))]
abbrev XA:List (Nat × TV):=[(2,(vP 63 0)),(lg s_),(4,(vP 65 0)),(mZ p),(9,(vP 71 0))]
abbrev aeg:List CV:=[(.d nS),(.own 70 true (R6 p))]
abbrev ac5:Nat × Option Ob:=(71,some (.cells 161 (aeg p)))
abbrev Vq:Nat × Option Ob:=(70,some (.rows 40 1 (Dv p).length (afL p) none))
abbrev abh:Nat × Option Ob:=(71,some (.cells 161 [(.own 72 false (([]:List aY).length)),(.own 70 true (R6 p))]))
abbrev Zo:Nat × Option Ob:=(72,some (bZ 170 2 aY.cell ([]:List aY)))
abbrev acT:List (Nat × Option Ob):=[(zi p),bP,(Vq p),(abh p),Zo,(Tn p),(Lf p),(JF p),(Um p),(77,some WG),TD,K4]
abbrev NV:Nat × Option Ob:=(70,some (.rows 40 1 v4.2.from_.length (yH rQ v4.2.from_) none))
abbrev adh:List (Nat × Option Ob):=[(zi p),bP,(NV v4),(71,some (.cells 161 [(.own 87 false v4.2.arcs.length),(.own 70 true v4.2.from_.length)])),(Tn p),(Lf p),(JF p),(Um p),(77,some (Nh v0 v4 v9)),TD,K4,(87,some (EU v4))]
abbrev Z9:List (Nat × TV):=[(2,(vP 63 0)),(lg s_),(4,(vP 65 0)),(mZ p),(9,(vP 71 0)),(10,(vP 76 0)),rq,oF,nP,(Gn p),(GQ p),(68,(k3 v0))]
abbrev aeP:Nat × Option Ob:=(71,some (.cells 161 [(.own 72 false v4.2.arcs.length),(.own 70 true v4.2.from_.length)]))
abbrev aeV:List (Nat × Option Ob):=[(Nq p p1),bP,(NV v5),(71,some (.cells 161 [(.own 95 false v5.2.arcs.length),(.own 70 true v5.2.from_.length)])),(mD x0),(Lf p),(JF p),(XC p x0),(Cv u4),(78,some (Nh u7 v5 w0)),K4,(95,some (EU v5))]
abbrev abj:List (Nat × TV):=[(2,(vP 63 0)),(lg s_),(4,(vP 65 0)),(mZ p),(9,(vP 71 0)),(10,(vP 76 0)),rq,oF,nP,(G8 p),(Gj p),(90,(k3 u7))]
abbrev afR:List (Nat × TV):=[(2,(vP 63 0)),(lg s_),(4,(vP 65 0)),(8,(vI v7)),(9,(vP 71 0)),(10,(vP 76 0)),rq,oF,nP,(18,(vI u0)),(Dy u2 u0),(xI u2),(116,(vI w1)),(117,(vI u0))]
abbrev ach:Nat × Option Ob:=(71,some (.cells 161 [(.own 115 false x4.2.arcs.length),(.own 70 true x4.2.from_.length)]))
abbrev aed:List (Nat × Option Ob):=[(eF p p1 p2 p3),bP,(NV x4),(ach x4),(mD x0),(ol x1),(pV x2),(qA x2 x0 x1),(Cv u4),(Dc u5),(ER x9),(V4 x4)]
abbrev abL:Nat × Option Ob:=(71,some (.cells 161 [(.own 119 false v6.2.arcs.length),(.own 70 true v6.2.from_.length)]))
abbrev Zw:List (Nat × TV):=[(2,(vP 63 0)),(lg s_),(4,(vP 65 0)),(8,(vI v7)),(9,(vP 71 0)),(10,(vP 76 0)),rq,oF,nP,(18,(vI u0)),(Dy u2 u0),(xI u2),(116,(vI w1)),(117,(vI u0)),(GY u2 u0),(134,(k3 v3))]
abbrev afH:List (Nat × TV):=[(2,(vP 63 0)),(lg s_),(4,(vP 65 0)),(8,(vI v7)),(9,(vP 71 0)),(10,(vP 76 0)),rq,oF,nP,(xI u2),(116,(vI w1)),(117,(k3 u0))]
abbrev afp:Nat × Option Ob:=(71,some (.cells 161 [(.own 72 false x5.length),(.d (aK (some true) 1 (IU 1 (au .i64)) x6))]))
abbrev agE:List (Nat × Option Ob):=[(yj u1),(xK u1)]
abbrev ZM:List (Nat × TV):=[(2,(vP 63 0)),(4,(vP 65 0)),(9,(vP 71 0)),(10,(vP 76 0)),(26,(vP 125 0)),(27,(vI (at' (u3.map Prod.snd) i2))),(208,(vP 122 0))]
abbrev UJ:Nat × Option Ob:=(126,some (XU p))
abbrev Vw:Nat × Option Ob:=(127,some (.cells 27 [(.own 126 true (Wd p))]))
abbrev adV:List (Nat × TV):=[(2,(vP 63 0)),(4,(vP 65 0)),(10,(vP 76 0)),(28,(vP 127 0)),(235,(.v (.one (.fn 121 0 1 (Al [(.ptr 128 0)])))))]
abbrev adL:List (Nat × TV):=[(2,(vP 63 0)),(4,(vP 65 0)),(10,(vP 76 0)),(28,(vP 127 0)),(aeH u1)]
abbrev Fq:Nat × Option Ob:=(0,some (BJ u6))
end
theorem nY (p:ah) (s_:State) {r:(ai × (List Bool) × Int)} (h:fq p s_=some r):Fn Try.prog 32 (k91 s_ p) [] (.iP [(.agg [(.own 0 false r.1.sources.length),(.own 1 false r.1.links.length),(.own 2 false r.1.racks.length)]),(.one (.own 3 false r.2.1.length)),(sI r.2.2)]) [(0,some (bZ 3 1 (au .i64) r.1.sources)),(1,some (bZ 3 1 (au .i64) r.1.links)),(2,some (bZ 164 2 af.cell r.1.racks)),(3,some (bZ 4 1 aj r.2.1)),(4,none)]:=by
 refine fN tT Try.func32 rfl rfl fun B=> ?_
 show bJ _ _ _ _ _ _ (fI r) _
 unfold fq at h
 refine sz tT (agI p s_) {fr:=[(0,63),(1,64),(2,65)] } [64] ?_
 refine aQ (aQ (bE h fun r_ hr_ h=> ?_))
 have q0:=eG p s_ hr_
 refine rg tT (ad4 p s_ r_) [_] {an:=[(2,cA q0 [])] } [] ⟨q0,trivial⟩ ?_
 refine sz tT (acP p s_ r_) {} [] ?_
 refine bI h (fun hb9 h=> ?_) (fun hb9 h=> ?_)
 ·refine ct hb9 ?_
  refine sz tT ⟨[(4,(vP 65 0)),(5,(vD nS)),(6,(vI r_))],[bP]⟩ {} [] ?_
  refine aI (.trans (bM.Tk (t:=5) (b:=66) (esz0:=0) (el0:=fun _ _=> .nilp) (E:=4) (esz:=1) (el:=aC aj ([]:List Bool)) (by kernel_rfl) (by kernel_rfl)) (.trans (bM.zb (E:=0) (esz:=0) (E0:=77) (cs:=[(.d nS),(.d nS),(.d nS)]) (p:=65) (q:=0) (b:=67) (esz0:=0) (el0:=fun _ _=> .nilp) (ob:= .arr 3 1 0 (aC (au .i64) ([]:List Int))) (fun _ _ _ _ h=> .inl ⟨h,rfl⟩) (by kernel_rfl) (by kernel_rfl) (by kernel_rfl)) (.trans (fz ⟨(ZW r_),[(65,some (.cells 77 [(.own 67 false 0),(.d nS),(.d nS)])),Y5,ZK]⟩ []) (.trans (bM.zb (E:=0) (esz:=0) (E0:=77) (cs:=[(.own 67 false 0),(.d nS),(.d nS)]) (p:=65) (q:=1) (b:=68) (esz0:=0) (el0:=fun _ _=> .nilp) (ob:= .arr 3 1 0 (aC (au .i64) ([]:List Int))) (fun _ _ _ _ h=> .inl ⟨h,rfl⟩) (by kernel_rfl) (by kernel_rfl) (by kernel_rfl)) (.trans (fz ⟨(ZW r_),[(65,some (.cells 77 [(.own 67 false 0),(.own 68 false 0),(.d nS)])),Y5,ZK,(68,some (.arr 3 1 0 (aC (au .i64) ([]:List Int))))]⟩ []) (.trans (bM.zb (E:=0) (esz:=0) (E0:=77) (cs:=[(.own 67 false 0),(.own 68 false 0),(.d nS)]) (p:=65) (q:=2) (b:=69) (esz0:=0) (el0:=fun _ _=> .nilp) (ob:= .arr 164 2 0 (aC af.cell ([]:List af))) (fun _ _ _ _ h=> .inl ⟨h,rfl⟩) (by kernel_rfl) (by kernel_rfl) (by kernel_rfl)) (.trans (fz ⟨(ZW r_),[(65,some (.cells 77 [(.own 67 false 0),(.own 68 false 0),(.own 69 false 0)])),Y5,ZK,(68,some (.arr 3 1 0 (aC (au .i64) ([]:List Int)))),(69,some (.arr 164 2 0 (aC af.cell ([]:List af))))]⟩ []) (.trans (bM.fin (st':=⟨[(4,(vP 4 0)),(5,(vO 3 false 0)),(6,(vI r_))],[(0,some (.arr 3 1 0 (aC (au .i64) ([]:List Int)))),(1,some (.arr 3 1 0 (aC (au .i64) ([]:List Int)))),(2,some (.arr 164 2 0 (aC af.cell ([]:List af)))),(3,some (.arr 4 1 0 (aC aj ([]:List Bool)))),(4,some (.cells 77 [(.own 0 false 0),(.own 1 false 0),(.own 2 false 0)]))]⟩) (cs:=[]) ⟨[],[(67,0),(68,1),(69,2),(66,3),(65,4)]⟩ [4,5,6] (by kernel_rfl) trivial) (bM.le (st':=⟨[(4,(vP 4 0)),(5,(vO 3 false (([]:List Bool).length))),(6,(vI r_))],[(0,some (bZ 3 1 (au .i64) ([]:List Int))),(1,some (bZ 3 1 (au .i64) ([]:List Int))),(2,some (bZ 164 2 af.cell ([]:List af))),(3,some (bZ 4 1 aj ([]:List Bool))),(4,some (.cells 77 agz))]⟩) ⟨⟨tR,⟨_,rfl,eH.v (eO.one cW)⟩,tR,trivial⟩,⟨rfl,oW,⟨rfl,oW,⟨rfl,oW,⟨rfl,oW,⟨rfl,bA ⟨cW,cW,cW,trivial⟩,trivial⟩⟩⟩⟩⟩⟩))))))))) ?_
  refine aR ?_
  obtain rfl:=oi h
  exact rh [(.agg agz),(.one (.own 3 false (([]:List Bool).length))),(sI r_)] (.refl _) (hN 4 ⟨rfl,trivial,trivial⟩)
 ·refine cf hb9 ?_
  refine aP (sz tT (aen p s_) {} [] ?_)
  refine aQ (aO h fun⟨a1,a2,a3⟩ h=> ?_)
  refine ri tT ⟨(XA s_ p),[(zi p),bP,(70,some (.arr 40 1 (Dv p).length (fun _ j=>[nS].getD j .nilp))),(ac5 p)]⟩ [_,(acV p)=(X7 p),_,_,(Dv p).length=(Vg p),aG (Vg p) 1 (fun _ j=>[nS].getD j .nilp) (fun _ j=>[nS].getD j .nilp)] {an:=[(2, .arr (Dv p).length (fun _ j=>[nS].getD j .nilp))],fr:=[(2,70),(4,71)] } [] ⟨a1,rfl,a2,a3,(List.length_replicate),(iq _ _ _),trivial⟩ (.trans (bM.Vd (b:=70) (E:=40) (esz:=1) (len:=(Dv p).length) (el:=(fun _ j=>[nS].getD j .nilp)) (el':=yH rQ (Dv p)) (by kernel_rfl) (fun i hi j hj=>match j,hj with|0,_=>Ml _ _ _ _ _ _ _ _)) (.trans (fz ⟨(XA s_ p),[(zi p),bP,(Vq p),(ac5 p)]⟩ []) (.trans (bM.zb (E:=0) (esz:=0) (E0:=161) (cs:=(aeg p)) (p:=71) (q:=0) (b:=72) (esz0:=0) (el0:=fun _ _=> .nilp) (ob:= .arr 170 2 0 (aC aY.cell ([]:List aY))) (fun _ _ _ _ h=> .inl ⟨h,rfl⟩) (by kernel_rfl) (by kernel_rfl) (by kernel_rfl)) (.trans (fz ⟨(XA s_ p),[(zi p),bP,(Vq p),(71,some (.cells 161 [(.own 72 false 0),(.own 70 true (R6 p))])),(72,some (.arr 170 2 0 (aC aY.cell ([]:List aY))))]⟩ []) (bM.le (st':=⟨(XA s_ p),[(zi p),bP,(Vq p),(abh p),Zo]⟩) ⟨⟨tR,tR,tR,tR,tR,trivial⟩,(hN 3 ⟨rfl,bA ⟨cW,dO.refl _,trivial⟩,⟨rfl,oW,trivial⟩⟩)⟩))))) ?_
  refine aQ (aO h fun⟨a1,a2,a3,a4,a5,a6,a7,a8,a9⟩ h=> ?_)
  refine dg tT mX ⟨[(2,(vP 63 0)),(lg s_),(4,(vP 65 0)),(mZ p),(9,(vP 71 0)),(10,(vP 76 0))],[(zi p),bP,(Vq p),(abh p),Zo,(Tn p),(Lf p),(JF p),(Um p)]⟩ [_,((p.sources.length:Int):Int)=(p.sources.length:Int),_,_,(KN p).length=(Ux p),aG (Ux p) 1 (fun _ j=>[(.int .i64 0)].getD j .nilp) (XI p),_,((p.links.length:Int):Int)=(p.links.length:Int),_,_,(La p).length=(PS p),aG (PS p) 1 (fun _ j=>[(.int .i64 0)].getD j .nilp) (QS p),_,((p.racks.length:Int):Int)=(p.racks.length:Int),_,_,(P9 p).length=(U9 p),aG (U9 p) 2 (fun _ j=>[(.int .i64 0),(.int .i64 0)].getD j .nilp) (Xk p)] {an:=[(3, .arr (KN p).length (XI p)),(7, .arr (La p).length (QS p)),(11, .arr (P9 p).length (Xk p))],fr:=[(3,73),(7,74),(11,75),(13,76)] } [] ⟨a1,rfl,a2,a3,(List.length_replicate),(dP _ _ _ _ _ (fun j hj=>(match j,hj with|0,_=>rfl))),a4,rfl,a5,a6,(List.length_replicate),(dP _ _ _ _ _ (fun j hj=>(match j,hj with|0,_=>rfl))),a7,rfl,a8,a9,(List.length_replicate),(dP _ _ _ _ _ (fun j hj=>(match j,hj with|0,_=>rfl|1,_=>rfl))),trivial⟩ ?_
  refine sz tT ⟨(TS s_ p),(acT p)⟩ {an:=[(0, .map 0 (CO (au .i64) ([]:(List (Int × Int)))) (Df (au .i64) ([]:(List (Int × Int)))) []),(1, .map 0 (CO (au .i64) ([]:(List (Int × Int)))) (Df (au .i64) ([]:(List (Int × Int)))) []),(2, .map 0 (CO af.cell ([]:(List (af × Int)))) (Df (au .i64) ([]:(List (af × Int)))) [])],fr:=[(0,77),(1,78),(2,79)] } [] ?_
  refine aQ (sz tT ⟨[(2,(vP 63 0)),(lg s_),(4,(vP 65 0)),(mZ p),(9,(vP 71 0)),(10,(vP 76 0)),rq,oF,nP,(Gn p),(GQ p),(68,(vI 0))],(acT p)⟩ {} [] ?_)
  refine bE h fun y hy h=> ?_
  refine aL [] (uU p s_) (uM p s_) fI hy (fun s f h=> ?_) ?_
  ·clear hy
   show bJ _ _ _ _ _ _ ((CU p s_) f) _
   unfold jr at h
   obtain⟨n0,n1,v9,v0⟩:=s
   refine sz tT ⟨[(2,(vP 63 0)),(lg s_),(4,(vP 65 0)),(mZ p),(9,(vP 71 0)),(10,(vP 76 0)),rq,oF,nP,(Gn p),(GQ p),(68,(vI v0)),(69,(vB (decide (v0<(p.sources.length:Int)))))],(RP p n1 n0 v9)⟩ {} [] ?_
   refine aQ ?_
   refine bI h (fun hb1 h=> ?_) (fun hb1 h=> ?_)
   ·refine ct hb1 ?_
    refine aP (aQ (aB (aQ (aO h fun a1 h=> ?_))))
    refine rg tT ⟨[(2,(vP 63 0)),(lg s_),(4,(vP 65 0)),(mZ p),(9,(vP 71 0)),(10,(vP 76 0)),rq,oF,nP,(14,(vI v0)),(Xx p v0),(Gn p),(GQ p),(68,(vI v0))],(RP p n1 n0 v9)⟩ [_] {fr:=[(3,86)] } [86] ⟨a1,trivial⟩ ?_
    refine aQ (bE h fun ui hr_1 h=> ?_)
    have q0:=fZ p s_ v0 hr_1
    refine rg tT ⟨[(2,(vP 63 0)),(lg s_),(4,(vP 65 0)),(mZ p),(9,(vP 71 0)),(10,(vP 76 0)),rq,oF,nP,(14,(vI v0)),(Xx p v0),(Gn p),(GQ p),(68,(vI v0)),(76,(vB ui))],(RP p n1 n0 v9)⟩ [_] {an:=[(3,cA q0 [])] } [] ⟨q0,trivial⟩ ?_
    refine bI h (fun hb h=> ?_) (fun hb h=> ?_)
    ·refine ct hb ?_
     refine bE h fun v4 hr_2 h=> ?_
     have q0:=rk [(0,71),(1,72),(2,70),(3,87)] (bX 0 (IntKind.wrap .i64 ((1:Int)+((at' p.sources v0.toNat).bus))) ((at' p.sources v0.toNat).power) 0 (⟨n0,n1⟩:Network) hr_2)
     refine rg tT ⟨(acF s_ p v0),(adh p v4 v0 v9)⟩ [_,Gg [some .i64] 1 1 v9.length (CO (au .i64) v9) (Df (au .i64) v9) [(.int .i64 v0)] [(cI v4.1)] [] (jF NJ v0 v4.1 v9).length (NN v0 v4 v9) (MX v0 v4 v9)] {an:=[(8,cA q0 [71,72,70]),(9, .map (jF NJ v0 v4.1 v9).length (NN v0 v4 v9) (MX v0 v4 v9) [])] } [] ⟨q0,(yx (fun _=>rfl) (fun _ _=>rfl) v9 v0 v4.1 rfl rfl),trivial⟩ ?_
     refine ri tT ⟨(Z9 s_ p v0),(adh p v4 v0 v9)⟩ [] {} [] trivial (bM.fin (st':=⟨(Z9 s_ p v0),[(zi p),bP,(NV v4),(aeP v4),(72,some (EU v4)),(Tn p),(Lf p),(JF p),(Um p),(77,some (Nh v0 v4 v9)),TD,K4]⟩) (cs:=[]) ⟨[],[(63,63),(65,65),(70,70),(71,71),(87,72),(73,73),(74,74),(75,75),(76,76),(77,77),(78,78),(79,79)]⟩ [2,3,4,8,9,10,11,12,13,66,67,68] (by kernel_rfl) trivial) ?_
     obtain rfl:=oi h
     exact lN
    ·refine cf hb ?_
     refine aP (rz tT ⟨(Z9 s_ p v0),(RP p n1 n0 v9)⟩ {} [] ?_)
     obtain rfl:=oi h
     exact lN
   ·refine cf hb1 ?_
    refine aI (fz ⟨(TS s_ p),(RP p n1 n0 v9)⟩ []) ?_
    refine aX ?_
    obtain rfl:=oi h
    exact lB
  ·clear hy
   cases y with
   |brk z=>
    obtain⟨p1,ue,uc,x0,u4⟩:=z
    unfold gm
    refine⟨_, .refl, ?_⟩
    refine aQ (sz tT ⟨[(2,(vP 63 0)),(lg s_),(4,(vP 65 0)),(mZ p),(9,(vP 71 0)),(10,(vP 76 0)),rq,oF,nP,(G8 p),(Gj p),(90,(vI 0))],(afb p x0 p1 uc ue u4)⟩ {} [] ?_)
    refine bE h fun y1 hy h=> ?_
    refine aL [] (uw p s_ p1 x0 u4) (uq p s_ p1 x0 u4) fI hy (fun s f h=> ?_) ?_
    ·clear hy
     show bJ _ _ _ _ _ _ ((Cx p s_ p1 x0 u4) f) _
     unfold jo at h
     obtain⟨w7,w3,w0,u7⟩:=s
     refine sz tT ⟨[(2,(vP 63 0)),(lg s_),(4,(vP 65 0)),(mZ p),(9,(vP 71 0)),(10,(vP 76 0)),rq,oF,nP,(G8 p),(Gj p),(90,(vI u7)),(91,(vB (decide (u7<(p.links.length:Int)))))],(SG p w0 p1 w3 w7 x0 u4)⟩ {} [] ?_
     refine aQ ?_
     refine bI h (fun hb3 h=> ?_) (fun hb3 h=> ?_)
     ·refine ct hb3 ?_
      refine aP (aQ (aB (aQ (aO h fun a1 h=> ?_))))
      refine rg tT ⟨[(2,(vP 63 0)),(lg s_),(4,(vP 65 0)),(mZ p),(9,(vP 71 0)),(10,(vP 76 0)),rq,oF,nP,(16,(vI u7)),(WT p u7),(G8 p),(Gj p),(90,(vI u7))],(SG p w0 p1 w3 w7 x0 u4)⟩ [_] {fr:=[(3,94)] } [94] ⟨a1,trivial⟩ ?_
      refine aQ (bE h fun uj hr_3 h=> ?_)
      have q0:=dK (⟨p.buses,p1,p.links,p.racks⟩:ah) s_ u7 hr_3
      refine rg tT ⟨[(2,(vP 63 0)),(lg s_),(4,(vP 65 0)),(mZ p),(9,(vP 71 0)),(10,(vP 76 0)),rq,oF,nP,(16,(vI u7)),(WT p u7),(G8 p),(Gj p),(90,(vI u7)),(98,(vB uj))],(SG p w0 p1 w3 w7 x0 u4)⟩ [_] {an:=[(3,cA q0 [])] } [] ⟨q0,trivial⟩ ?_
      refine bI h (fun hb2 h=> ?_) (fun hb2 h=> ?_)
      ·refine ct hb2 ?_
       refine bE h fun v5 hr_4 h=> ?_
       have q0:=rk [(0,71),(1,72),(2,70),(3,95)] (bX (IntKind.wrap .i64 ((1:Int)+((at' p.links u7.toNat).a))) (IntKind.wrap .i64 ((1:Int)+((at' p.links u7.toNat).b))) (Pz p u7) (Pz p u7) (⟨w7,w3⟩:Network) hr_4)
       refine rg tT ⟨(adu s_ p u7),(aeV p p1 v5 x0 u4 u7 w0)⟩ [_,Gg [some .i64] 1 1 w0.length (CO (au .i64) w0) (Df (au .i64) w0) [(.int .i64 u7)] [(cI v5.1)] [] (jF NJ u7 v5.1 w0).length (NN u7 v5 w0) (MX u7 v5 w0)] {an:=[(13,cA q0 [71,72,70]),(14, .map (jF NJ u7 v5.1 w0).length (NN u7 v5 w0) (MX u7 v5 w0) [])] } [] ⟨q0,(yx (fun _=>rfl) (fun _ _=>rfl) w0 u7 v5.1 rfl rfl),trivial⟩ ?_
       refine ri tT ⟨(abj s_ p u7),(aeV p p1 v5 x0 u4 u7 w0)⟩ [] {} [] trivial (bM.fin (st':=⟨(abj s_ p u7),[(Nq p p1),bP,(NV v5),(aeP v5),(72,some (EU v5)),(mD x0),(Lf p),(JF p),(XC p x0),(Cv u4),(78,some (Nh u7 v5 w0)),K4]⟩) (cs:=[]) ⟨[],[(63,63),(65,65),(70,70),(71,71),(95,72),(73,73),(74,74),(75,75),(76,76),(77,77),(78,78),(79,79)]⟩ [2,3,4,8,9,10,11,12,13,88,89,90] (by kernel_rfl) trivial) ?_
       obtain rfl:=oi h
       exact lN
      ·refine cf hb2 ?_
       refine aP (rz tT ⟨(abj s_ p u7),(SG p w0 p1 w3 w7 x0 u4)⟩ {} [] ?_)
       obtain rfl:=oi h
       exact lN
     ·refine cf hb3 ?_
      refine aI (fz ⟨(TS s_ p),(SG p w0 p1 w3 w7 x0 u4)⟩ []) ?_
      refine aX ?_
      obtain rfl:=oi h
      exact lB
    ·clear hy
     cases y1 with
     |brk z=>
      obtain⟨p2,uf,ud,x1,u5⟩:=z
      unfold gm
      refine⟨_, .refl, ?_⟩
      refine aQ (sz tT ⟨[(2,(vP 63 0)),(lg s_),(4,(vP 65 0)),(mZ p),(9,(vP 71 0)),(10,(vP 76 0)),rq,oF,nP,(115,(vD (k6 p))),(116,(vI (p.racks.length:Int))),(117,(vI 0))],(aeQ x1 p p1 p2 ud uf x0 u4 u5)⟩ {} [] ?_)
      refine bE h fun y3 hy h=> ?_
      refine aL [] (uo p s_ p1 x0 u4 p2 x1 u5) (vE p p1 x0 u4 p2 x1 u5) fI hy (fun s f h=> ?_) ?_
      ·clear hy
       show bJ _ _ _ _ _ _ ((oh p s_ p1 x0 u4 p2 x1 u5) f) _
       unfold jv at h
       obtain⟨p3,v7,x7,x3,x2,x9,u2,w1,u0⟩:=s
       refine sz tT ⟨[(2,(vP 63 0)),(lg s_),(4,(vP 65 0)),(8,(vI v7)),(9,(vP 71 0)),(10,(vP 76 0)),rq,oF,nP,(xI u2),(116,(vI w1)),(117,(vI u0)),(118,(vB (decide (u0<w1))))],(U0 x2 x0 x1 x9 p p1 p2 p3 x3 x7 u4 u5)⟩ {} [] ?_
       refine aQ ?_
       refine bI h (fun hb6 h=> ?_) (fun hb6 h=> ?_)
       ·refine ct hb6 ?_
        refine aP (aQ (aB (aQ (aO h fun a1 h=> ?_))))
        refine rg tT ⟨(afR s_ v7 u0 u2 w1),(U0 x2 x0 x1 x9 p p1 p2 p3 x3 x7 u4 u5)⟩ [_] {fr:=[(3,114)] } [114] ⟨a1,trivial⟩ ?_
        refine aQ (bE h fun x4 hr_5 h=> ?_)
        have q0:=rk [(0,71),(1,72),(2,70),(3,115)] (bX (XB p u0) v7 ((at' u2 u0.toNat).power) 0 (⟨x7,x3⟩:Network) hr_5)
        refine rg tT ⟨(afR s_ v7 u0 u2 w1),(aed p p1 x0 u4 x4 p2 p3 x1 x2 u5 x9)⟩ [_] {an:=[(9,cA q0 [71,72,70])] } [] ⟨q0,trivial⟩ ?_
        refine sz tT ⟨[(2,(vP 63 0)),(lg s_),(4,(vP 65 0)),(8,(vI v7)),(9,(vP 71 0)),(10,(vP 76 0)),rq,oF,nP,(18,(vI u0)),(Dy u2 u0),(xI u2),(116,(vI w1)),(117,(vI u0)),(GY u2 u0),(134,(vI 0))],(aed p p1 x0 u4 x4 p2 p3 x1 x2 u5 x9)⟩ {} [] ?_
        refine bE h fun y2 hy h=> ?_
        refine aL [5] (uW p s_ p1 x0 u4 p2 x1 u5 p3 v7 x2 u2 w1 u0) (tZ p s_ p1 x0 u4 p2 x1 u5 p3 v7 x2 u2 w1 u0) (oh p s_ p1 x0 u4 p2 x1 u5) hy (fun s f h=> ?_) ?_
        ·clear hy
         show bJ _ _ _ _ _ _ ((C9 p s_ p1 x0 u4 p2 x1 u5 p3 v7 x2 u2 w1 u0) f) _
         unfold fV at h
         obtain⟨w8,w4,w2,v3⟩:=s
         refine sz tT ⟨[(2,(vP 63 0)),(lg s_),(4,(vP 65 0)),(8,(vI v7)),(9,(vP 71 0)),(10,(vP 76 0)),rq,oF,nP,(18,(vI u0)),(Dy u2 u0),(xI u2),(116,(vI w1)),(117,(vI u0)),(GY u2 u0),(134,(vI v3)),(135,(vB (decide (v3<2))))],(OI p p1 p2 p3 w4 w8 x0 x1 x2 u4 u5 w2)⟩ {} [] ?_
         refine aQ ?_
         refine bI h (fun hb5 h=> ?_) (fun hb5 h=> ?_)
         ·refine ct hb5 ?_
          refine aP (aQ (aB (aQ (aO h fun a1 h=> ?_))))
          refine rg tT ⟨[(2,(vP 63 0)),(lg s_),(4,(vP 65 0)),(8,(vI v7)),(9,(vP 71 0)),(10,(vP 76 0)),rq,oF,nP,(18,(vI u0)),(Dy u2 u0),(20,(vI v3)),(Xo u0 u2 v3),(xI u2),(116,(vI w1)),(117,(vI u0)),(GY u2 u0),(134,(vI v3))],(OI p p1 p2 p3 w4 w8 x0 x1 x2 u4 u5 w2)⟩ [_,v3.toNat*1+1≤(TH u2 u0).length,((TH u2 u0).drop (v3.toNat*1)).take 1=(XP u0 u2 v3).map .d] {an:=[(1, .vals (XP u0 u2 v3))] } [] ⟨a1,(Uy (n:=2) (sz:=1) (Nat.le_refl _) a1),(Uo (n:=2) (sz:=1) (g:=fun q=>[(cI (at' [(JK u2 u0).e0,(JK u2 u0).e1] q))]) (by intro q hq;match q,hq with|0,_=>rfl|1,_=>rfl) a1),trivial⟩ ?_
          refine aQ (bE h fun ul hr_6 h=> ?_)
          have q0:=kW s_ (UQ u0 u2 v3) hr_6
          refine rg tT ⟨[(2,(vP 63 0)),(lg s_),(4,(vP 65 0)),(8,(vI v7)),(9,(vP 71 0)),(10,(vP 76 0)),rq,oF,nP,(18,(vI u0)),(Dy u2 u0),(20,(vI v3)),(Xo u0 u2 v3),(xI u2),(116,(vI w1)),(117,(vI u0)),(GY u2 u0),(134,(vI v3)),(140,(vB ul))],(OI p p1 p2 p3 w4 w8 x0 x1 x2 u4 u5 w2)⟩ [_] {an:=[(2,cA q0 [])] } [] ⟨q0,trivial⟩ ?_
          refine bI h (fun hb4 h=> ?_) (fun hb4 h=> ?_)
          ·refine ct hb4 ?_
           refine bE h fun v6 hr_7 h=> ?_
           have q0:=rk [(0,71),(1,115),(2,70),(3,119)] (bX (ae4 u0 u2 v3) (XB p u0) ((at' u2 u0.toNat).power) 0 (⟨w8,w4⟩:Network) hr_7)
           refine rg tT ⟨(afT s_ v7 u0 u2 w1 v3),[(eF p p1 p2 p3),bP,(NV v6),(abL v6),(mD x0),(ol x1),(pV x2),(qA x2 x0 x1),(Cv u4),(Dc u5),(79,some (SX 164 3 true false 2 1 af.cell (au .i64) (jF (fun a b=>(decide (a.e0=b.e0) && (decide (a.e1=b.e1) && true))) (⟨u0,v3⟩:af) v6.1 w2))),(119,some (EU v6))]⟩ [_,Gg [some .i64,some .i64] 2 1 w2.length (CO af.cell w2) (Df (au .i64) w2) [(.int .i64 u0),(.int .i64 v3)] [(cI v6.1)] [] (jF (fun a b=>(decide (a.e0=b.e0) && (decide (a.e1=b.e1) && true))) (⟨u0,v3⟩:af) v6.1 w2).length (CO af.cell (jF (fun a b=>(decide (a.e0=b.e0) && (decide (a.e1=b.e1) && true))) (⟨u0,v3⟩:af) v6.1 w2)) (Df (au .i64) (jF (fun a b=>(decide (a.e0=b.e0) && (decide (a.e1=b.e1) && true))) (⟨u0,v3⟩:af) v6.1 w2))] {an:=[(14,cA q0 [71,115,70]),(15, .map (jF (fun a b=>(decide (a.e0=b.e0) && (decide (a.e1=b.e1) && true))) (⟨u0,v3⟩:af) v6.1 w2).length (CO af.cell (jF (fun a b=>(decide (a.e0=b.e0) && (decide (a.e1=b.e1) && true))) (⟨u0,v3⟩:af) v6.1 w2)) (Df (au .i64) (jF (fun a b=>(decide (a.e0=b.e0) && (decide (a.e1=b.e1) && true))) (⟨u0,v3⟩:af) v6.1 w2)) [])] } [] ⟨q0,(yx (fun _=>rfl) (fun _ _=>rfl) w2 (⟨u0,v3⟩:af) v6.1 rfl rfl),trivial⟩ ?_
           refine ri tT ⟨(Zw s_ v7 u0 u2 w1 v3),[(eF p p1 p2 p3),bP,(NV v6),(abL v6),(mD x0),(ol x1),(pV x2),(qA x2 x0 x1),(Cv u4),(Dc u5),(79,some (SX 164 3 true false 2 1 af.cell (au .i64) (jF (fun a b=>(decide (a.e0=b.e0) && (decide (a.e1=b.e1) && true))) (⟨u0,v3⟩:af) v6.1 w2))),(119,some (EU v6))]⟩ [] {} [] trivial (bM.fin (st':=⟨(Zw s_ v7 u0 u2 w1 v3),[(eF p p1 p2 p3),bP,(NV v6),(ach v6),(mD x0),(ol x1),(pV x2),(qA x2 x0 x1),(Cv u4),(Dc u5),(79,some (SX 164 3 true false 2 1 af.cell (au .i64) (jF (fun a b=>(decide (a.e0=b.e0) && (decide (a.e1=b.e1) && true))) (⟨u0,v3⟩:af) v6.1 w2))),(V4 v6)]⟩) (cs:=[]) ⟨[],[(63,63),(65,65),(70,70),(71,71),(73,73),(74,74),(75,75),(76,76),(77,77),(78,78),(79,79),(119,115)]⟩ [2,3,4,8,9,10,11,12,13,18,19,115,116,117,133,134] (by kernel_rfl) trivial) ?_
           obtain rfl:=oi h
           exact lN
          ·refine cf hb4 ?_
           refine aP (rz tT ⟨(Zw s_ v7 u0 u2 w1 v3),(OI p p1 p2 p3 w4 w8 x0 x1 x2 u4 u5 w2)⟩ {} [] ?_)
           obtain rfl:=oi h
           exact lN
         ·refine cf hb5 ?_
          refine aI (fz (afw s_ v7 u2 w1 u0 p p1 p2 p3 w4 w8 x0 x1 x2 u4 u5 w2) []) ?_
          refine aX ?_
          obtain rfl:=oi h
          exact lB
        ·clear hy
         cases y2 with
         |brk z=>
          obtain⟨ub,x8,ug⟩:=z
          unfold gm
          refine⟨_, .refl, ?_⟩
          refine ri tT ⟨(afH s_ v7 u0 u2 w1),(OI p p1 p2 p3 x8 ub x0 x1 x2 u4 u5 ug)⟩ [] {} [] trivial (bM.fin (st':=⟨(afH s_ v7 u0 u2 w1),(U0 x2 x0 x1 ug p p1 p2 p3 x8 ub u4 u5)⟩) (cs:=[]) ⟨[],[(63,63),(65,65),(70,70),(71,71),(115,72),(73,73),(74,74),(75,75),(76,76),(77,77),(78,78),(79,79)]⟩ [2,3,4,8,9,10,11,12,13,115,116,117] (by kernel_rfl) trivial) ?_
          obtain rfl:=oi h
          exact lN
         |ret v=>
          obtain rfl:=oi h
          unfold gm
          intro e st hn ha hR
          cases e with
          |normal=>exact absurd rfl hn
          |exit id=>simp only [qz (b:=5) ha rfl,cond_false];exact hR
          |goto l=>exact hR
          |ret=>exact hR
          |panic c=>exact hR
          |outgrown=>exact hR
       ·refine cf hb6 ?_
        refine aI (fz (afM v7 p p1 p2 p3 x3 x7 x0 x1 x2 u4 u5 x9) []) ?_
        refine aX ?_
        obtain rfl:=oi h
        exact lB
      ·clear hy
       cases y3 with
       |brk z=>
        obtain⟨v1,ua,x5,x6,v2,u3⟩:=z
        unfold gm
        refine⟨_, .refl, ?_⟩
        refine aQ (aI (.trans (fi ⟨(abp ua),[(eF p p1 p2 v1),bP,(71,some (.cells 161 [(.own 72 false x5.length),(.d (.sl (some true) 1 x6.length (fun i j=>evD (yH rQ x6 i j))))])),(LV x5),(mD x0),(ol x1),(pV v2),(qA v2 x0 x1),(Cv u4),(Dc u5),(ER u3)]⟩ [x6.length=x6.length] [70] ⟨rfl,trivial⟩) (bM.le (st':=⟨(abp ua),[(eF p p1 p2 v1),bP,(afp x5 x6),(LV x5),(mD x0),(ol x1),(pV v2),(qA v2 x0 x1),(Cv u4),(Dc u5),(ER u3)]⟩) ⟨⟨tR,tR,tR,tR,tR,tR,tR,tR,trivial⟩,(hN 2 ⟨rfl,bA ⟨dO.refl _,dO.d (gV.sl (.inr rfl) (fun i _ j hj=>match j,hj with|0,_=> .refl _)),trivial⟩,(.refl _)⟩)⟩)) ?_)
        refine bE h fun u1 hr_8 h=> ?_
        refine rg tT ⟨[(2,(vP 63 0)),(4,(vP 65 0)),(9,(vP 71 0)),(10,(vP 76 0)),rq,oF,nP],[(eF p p1 p2 v1),bP,(yj u1),(xK u1),(mD x0),(ol x1),(pV v2),(qA v2 x0 x1),(Cv u4),(Dc u5),(ER u3)]⟩ [Fn Try.prog 80 [(.one (.ptr 71 0)),(sI ua)] [(afp x5 x6),(LV x5)] (.iP []) (agE u1)] {an:=[(2, .call [71,72] (.iP []) (agE u1))] } [] ⟨(Fn.leH (args:=[(.one (.ptr 71 0)),(sI ua)]) (hin:=[(71,some (.cells 161 [(.own 72 false x5.length),(.d (Pd x6))])),(LV x5)]) (rK [(0,71),(1,72)] (pE ua (⟨x5,x6⟩:Network) hr_8)) ⟨eO.refl _,eO.refl _,trivial⟩ ⟨rfl,bA ⟨dO.refl _,dO.d gV.nT,trivial⟩,(.refl _)⟩),trivial⟩ ?_
        refine aQ (bE h fun y4 hy h=> ?_)
        refine mJ (CB p p1 p2 x1 u5 v1 v2 u3 u1) (K:=3) (V:=3) (s0:=(x0)) ⟨3,3,false,false,1,1,u4.length,CO (au .i64) u4,Df (au .i64) u4,[]⟩ 77 120 (fun i=>(sI (at' (u4.map Prod.fst) i))) (fun i=>(sI (at' (u4.map Prod.snd) i))) hy [3,4] (by kernel_rfl) (by kernel_rfl) (by kernel_rfl) (fun _ _=> ⟨rfl,rfl⟩) (fun _ _=> ⟨qQ _ _,qQ _ _⟩) (fun _=>(bM.fin (st':=(adI u1 p p1 p2 v1 x0 x1 v2 u5 u3)) (cs:=[]) ⟨[],[(63,63),(65,65),(71,71),(72,72),(73,73),(74,74),(75,75),(76,76),(78,78),(79,79),(120,120)]⟩ [2,4,9,10,12,13,162] (by kernel_rfl) trivial)) (fun s=>by obtain⟨w5,rfl⟩: ∃q,q=s:=⟨_,rfl⟩;kernel_rfl) (fun B s i s' hi h=> ?_) ?_
        ·clear hy
         unfold kI at h
         obtain⟨w5,rfl⟩: ∃q,q=s:=⟨_,rfl⟩
         refine rwp tT (⟨[(2,(vP 63 0)),(4,(vP 65 0)),(9,(vP 71 0)),(10,(vP 76 0)),oF,nP,(22,(vI (at' (u4.map Prod.fst) i))),(23,(vI (at' (u4.map Prod.snd) i))),(162,(vP 120 0))],(agv u1 p p1 p2 v1 w5 x1 v2 u5 u3)⟩) {fin:=⟨[],[(63,63),(65,65),(71,71),(72,72),(73,73),(74,74),(75,75),(76,76),(78,78),(79,79),(120,120)]⟩,ts:=[2,4,9,10,12,13,22,23,162] } (cs:=[]) (by kernel_rfl) trivial .refl ?_
         refine aO h fun⟨a1,a2⟩ h=> ?_
         refine di tT mX ⟨ZG,[(eF p p1 p2 v1),bP,(yj u1),(xK u1),(73,some (.arr 3 1 w5.length (SY u4 u1 i w5))),(ol x1),(pV v2),(qA v2 w5 x1),(Dc u5),(ER u3),(120,none)]⟩ [_,_,_,_,aG w5.length 1 (aex u4 u1 i w5) (SY u4 u1 i w5)] {an:=[(13, .arr 0 (SY u4 u1 i w5))] } [] ⟨a1,(tL a1),a2,(tL a2),(bL _ _ _ _ _ _ _ _ rfl (fun j hj=>(match j,hj with|0,_=>rfl))),trivial⟩ (bM.le (st':=⟨ZG,[(eF p p1 p2 v1),bP,(yj u1),(xK u1),(73,some (ab7 u4 u1 i w5)),(ol x1),(pV v2),(76,some (.cells 77 [(.own 73 true (agN u4 u1 i w5)),(.own 74 true x1.length),(.own 75 true v2.length)])),(Dc u5),(ER u3),(120,none)]⟩) ⟨⟨tR,tR,tR,tR,tR,tR,tR,trivial⟩,(hN 4 ⟨rfl,oW,(hN 2 ⟨rfl,bA ⟨cW,dO.refl _,dO.refl _,trivial⟩,(.refl _)⟩)⟩)⟩) ?_
         obtain rfl:=oi h
         exact⟨.inl rfl,by kernel_rfl⟩
        ·clear hy
         obtain⟨u6,rfl⟩: ∃q,q=y4:=⟨_,rfl⟩
         refine aI (fz ⟨[(2,(vP 63 0)),(4,(vP 65 0)),(9,(vP 71 0)),(10,(vP 76 0)),oF,nP],[(eF p p1 p2 v1),bP,(yj u1),(xK u1),(mD u6),(ol x1),(pV v2),(qA v2 u6 x1),(Dc u5),(ER u3)]⟩ []) ?_
         refine aQ (bE h fun y5 hy h=> ?_)
         refine mJ (Dp p p1 p2 v1 v2 u3 u1 u6) (K:=3) (V:=3) (s0:=(x1)) ⟨3,3,false,false,1,1,u5.length,CO (au .i64) u5,Df (au .i64) u5,[]⟩ 78 121 (fun i1=>(sI (at' (u5.map Prod.fst) i1))) (fun i1=>(sI (at' (u5.map Prod.snd) i1))) hy [3,4] (by kernel_rfl) (by kernel_rfl) (by kernel_rfl) (fun _ _=> ⟨rfl,rfl⟩) (fun _ _=> ⟨qQ _ _,qQ _ _⟩) (fun _=>(bM.fin (st':=(ado p p1 p2 v1 u1 u6 x1 v2 u3)) (cs:=[]) ⟨[],[(63,63),(65,65),(71,71),(72,72),(73,73),(74,74),(75,75),(76,76),(79,79),(121,121)]⟩ [2,4,9,10,13,182] (by kernel_rfl) trivial)) (fun s=>by obtain⟨w6,rfl⟩: ∃q,q=s:=⟨_,rfl⟩;kernel_rfl) (fun B s i1 s' hi h=> ?_) ?_
         ·clear hy
          unfold kJ at h
          obtain⟨w6,rfl⟩: ∃q,q=s:=⟨_,rfl⟩
          refine rwp tT (⟨[(2,(vP 63 0)),(4,(vP 65 0)),(9,(vP 71 0)),(10,(vP 76 0)),nP,(24,(vI (at' (u5.map Prod.fst) i1))),(25,(vI (at' (u5.map Prod.snd) i1))),(182,(vP 121 0))],(acJ p p1 p2 v1 u1 u6 w6 v2 u3)⟩) {fin:=⟨[],[(63,63),(65,65),(71,71),(72,72),(73,73),(74,74),(75,75),(76,76),(79,79),(121,121)]⟩,ts:=[2,4,9,10,13,24,25,182] } (cs:=[]) (by kernel_rfl) trivial .refl ?_
          refine aO h fun⟨a1,a2,a3⟩ h=> ?_
          refine di tT mX ⟨aae,[(eF p p1 p2 v1),bP,(yj u1),(xK u1),(mD u6),(74,some (.arr 3 1 w6.length (RD p2 u5 u1 i1 w6))),(pV v2),(qA v2 u6 w6),(ER u3),(121,none)]⟩ [_,_,_,_,_,aG w6.length 1 (abV p2 u5 u1 i1 w6) (RD p2 u5 u1 i1 w6)] {an:=[(19, .arr 0 (RD p2 u5 u1 i1 w6))] } [] ⟨a1,a2,(tL a2),a3,(tL a3),(bL _ _ _ _ _ _ _ _ rfl (fun j hj=>(match j,hj with|0,_=>rfl))),trivial⟩ (bM.le (st':=⟨aae,[(eF p p1 p2 v1),bP,(yj u1),(xK u1),(mD u6),(74,some (acn p2 u5 u1 i1 w6)),(pV v2),(76,some (.cells 77 [(.own 73 true u6.length),(.own 74 true (afh p2 u5 u1 i1 w6)),(.own 75 true v2.length)])),(ER u3),(121,none)]⟩) ⟨⟨tR,tR,tR,tR,tR,tR,trivial⟩,(hN 5 ⟨rfl,oW,⟨rfl, .refl _,⟨rfl,bA ⟨dO.refl _,cW,dO.refl _,trivial⟩,⟨rfl, .refl _,⟨rfl, .refl _,trivial⟩⟩⟩⟩⟩)⟩) ?_
          obtain rfl:=oi h
          exact⟨.inl rfl,by kernel_rfl⟩
         ·clear hy
          obtain⟨u8,rfl⟩: ∃q,q=y5:=⟨_,rfl⟩
          refine aI (fz ⟨[(2,(vP 63 0)),(4,(vP 65 0)),(9,(vP 71 0)),(10,(vP 76 0)),nP],[(eF p p1 p2 v1),bP,(yj u1),(xK u1),(mD u6),(ol u8),(pV v2),(qA v2 u6 u8),(ER u3)]⟩ []) ?_
          refine aQ (bE h fun y6 hy h=> ?_)
          refine mJ (Db p p1 p2 v1 u1 u6 u8) (K:=164) (V:=3) (s0:=(v2)) ⟨164,3,true,false,2,1,u3.length,CO af.cell u3,Df (au .i64) u3,[]⟩ 79 122 (fun i2=>(.agg (V3 u3 i2))) (fun i2=>(sI (at' (u3.map Prod.snd) i2))) hy [3,4,5] (by kernel_rfl) (by kernel_rfl) (by kernel_rfl) (fun _ _=> ⟨rfl,rfl⟩) (fun _ _=> ⟨Qy rfl,qQ _ _⟩) (fun _=>(bM.fin (st':=(ab0 p p1 p2 v1 u1 u6 u8 v2)) (cs:=[]) ⟨[],[(63,63),(65,65),(71,71),(72,72),(73,73),(74,74),(75,75),(76,76),(122,122)]⟩ [2,4,9,10,208] (by kernel_rfl) trivial)) (fun s=>by obtain⟨u9,rfl⟩: ∃q,q=s:=⟨_,rfl⟩;kernel_rfl) (fun B s i2 s' hi h=> ?_) ?_
          ·clear hy
           unfold kK at h
           obtain⟨u9,rfl⟩: ∃q,q=s:=⟨_,rfl⟩
           refine rwp tT (⟨(ZM u3 i2),[(eF p p1 p2 v1),bP,(yj u1),(xK u1),(mD u6),(ol u8),(pV u9),(qA u9 u6 u8),(122,none),(125,some (.cells 164 (V3 u3 i2)))]⟩) {fr:=frf [(3,125)],fin:=⟨[],[(63,63),(65,65),(71,71),(72,72),(73,73),(74,74),(75,75),(76,76),(122,122),(125,125)]⟩,ts:=[2,4,9,10,26,27,208] } (cs:=[]) (by kernel_rfl) trivial .refl ?_
           refine bI h (fun hb7 h=> ?_) (fun _ h=> ?_)
           ·skip
            refine aI (bM.le (st':=⟨(ZM u3 i2),[(eF p p1 p2 v1),bP,(yj u1),(xK u1),(mD u6),(ol u8),(pV u9),(qA u9 u6 u8),(122,none),(125,some (.cells 164 [(cI ((at' (u3.map Prod.fst) i2).e0)),(cI 0)]))]⟩) ⟨⟨tR,tR,tR,tR,tR,tR,tR,trivial⟩,(hN 9 ⟨rfl,bA ⟨dO.refl _,dO.of (congrArg (fun n=>CV.d (.int .i64 n)) (of_decide_eq_true hb7)),trivial⟩,trivial⟩)⟩) ?_
            refine aO h fun⟨a1,a2⟩ h=> ?_
            refine di tT mX ⟨Vo,[(eF p p1 p2 v1),bP,(yj u1),(xK u1),(mD u6),(ol u8),(75,some (.arr 164 2 u9.length (Rz u1 u3 i2 u9))),(qA u9 u6 u8),(122,none)]⟩ [(0:Int)≤0∧(0:Int)<(2:Nat),(0:Int)≤1∧(1:Int)<(2:Nat),_,_,_,(0:Int)≤0∧(0:Int)<(2:Nat),_,aG u9.length 2 (abN u1 u3 i2 u9) (Rz u1 u3 i2 u9)] {an:=[(17, .arr 0 (Rz u1 u3 i2 u9))] } [] ⟨((by decide)),((by decide)),a1,(tL a1),a2,((by decide)),(tL a2),(bL _ _ _ _ _ _ _ _ rfl (fun j hj=>(match j,hj with|0,_=>rfl|1,_=>rfl))),trivial⟩ (bM.le (st':=⟨Vo,[(eF p p1 p2 v1),bP,(yj u1),(xK u1),(mD u6),(ol u8),(75,some (agm u1 u3 i2 u9)),(76,some (.cells 77 [(.own 73 true u6.length),(.own 74 true u8.length),(.own 75 true (adS u1 u3 i2 u9))])),(122,none)]⟩) ⟨⟨tR,tR,tR,tR,tR,trivial⟩,(hN 6 ⟨rfl,oW,⟨rfl,bA ⟨dO.refl _,dO.refl _,cW,trivial⟩,(.refl _)⟩⟩)⟩) ?_
            obtain rfl:=oi h
            exact⟨.inl rfl,by kernel_rfl⟩
           ·skip
            refine aO h fun a1 h=> ?_
            refine aI (bM.le (st':=⟨(ZM u3 i2),[(eF p p1 p2 v1),bP,(yj u1),(xK u1),(mD u6),(ol u8),(pV u9),(qA u9 u6 u8),(122,none),(125,some (.cells 164 [(cI ((at' (u3.map Prod.fst) i2).e0)),(cI 1)]))]⟩) ⟨⟨tR,tR,tR,tR,tR,tR,tR,trivial⟩,(hN 9 ⟨rfl,bA ⟨dO.refl _,dO.of (congrArg (fun n=>CV.d (.int .i64 n)) a1),trivial⟩,trivial⟩)⟩) ?_
            refine aO h fun⟨a1,a2⟩ h=> ?_
            refine di tT mX ⟨Vo,[(eF p p1 p2 v1),bP,(yj u1),(xK u1),(mD u6),(ol u8),(75,some (.arr 164 2 u9.length (QU u1 u3 i2 u9))),(qA u9 u6 u8),(122,none)]⟩ [(0:Int)≤0∧(0:Int)<(2:Nat),(0:Int)≤1∧(1:Int)<(2:Nat),_,_,_,(0:Int)≤1∧(1:Int)<(2:Nat),_,aG u9.length 2 (adN u1 u3 i2 u9) (QU u1 u3 i2 u9)] {an:=[(17, .arr 0 (QU u1 u3 i2 u9))] } [] ⟨((by decide)),((by decide)),a1,(tL a1),a2,((by decide)),(tL a2),(bL _ _ _ _ _ _ _ _ rfl (fun j hj=>(match j,hj with|0,_=>rfl|1,_=>rfl))),trivial⟩ (bM.le (st':=⟨Vo,[(eF p p1 p2 v1),bP,(yj u1),(xK u1),(mD u6),(ol u8),(75,some (aeI u1 u3 i2 u9)),(76,some (.cells 77 [(.own 73 true u6.length),(.own 74 true u8.length),(.own 75 true (aeC u1 u3 i2 u9))])),(122,none)]⟩) ⟨⟨tR,tR,tR,tR,tR,trivial⟩,(hN 6 ⟨rfl,oW,⟨rfl,bA ⟨dO.refl _,dO.refl _,cW,trivial⟩,(.refl _)⟩⟩)⟩) ?_
            obtain rfl:=oi h
            exact⟨.inl rfl,by kernel_rfl⟩
          ·clear hy
           obtain⟨v8,rfl⟩: ∃q,q=y6:=⟨_,rfl⟩
           refine aI (fz ⟨[(2,(vP 63 0)),(4,(vP 65 0)),(9,(vP 71 0)),(10,(vP 76 0))],[(eF p p1 p2 v1),bP,(yj u1),(xK u1),(mD u6),(ol u8),(pV v8),(qA v8 u6 u8)]⟩ []) ?_
           refine aQ (aO h fun⟨a1,a2,a3⟩ h=> ?_)
           refine rg tT ⟨[(2,(vP 63 0)),(4,(vP 65 0)),(9,(vP 71 0)),(10,(vP 76 0)),(28,(vP 127 0))],[(eF p p1 p2 v1),bP,(yj u1),(xK u1),(mD u6),(ol u8),(pV v8),(qA v8 u6 u8),(UJ p),(Vw p)]⟩ [_,(p.buses:Int)=p.buses,_,_,(Jb p).length=p.buses.toNat,aG p.buses.toNat 1 (fun _ j=>[(.bool false)].getD j .nilp) (QV p)] {an:=[(2, .arr (Jb p).length (QV p))],fr:=[(2,126),(3,127)] } [] ⟨a1,rfl,a2,a3,(List.length_replicate),(dP _ _ _ _ _ (fun j hj=>(match j,hj with|0,_=>rfl))),trivial⟩ ?_
           refine aQ (aQ (bE h fun um hr_9 h=> ?_))
           have q0:=rk [(0,71),(1,72),(2,128)] (jm u1 hr_9)
           refine ri tT ⟨adV,[(eF p p1 p2 v1),bP,(71,some (adQ u1)),(mD u6),(ol u8),(pV v8),(qA v8 u6 u8),(UJ p),(Vw p),(128,some (.cells 157 [(.ptr 71 0)]))]⟩ [_,u1.arcs.length=u1.arcs.length] {an:=[(1,cA q0 [71,72])] } [72] ⟨q0,rfl,trivial⟩ (.trans (fz ⟨adV,[(eF p p1 p2 v1),bP,(mD u6),(ol u8),(pV v8),(qA v8 u6 u8),(UJ p),(Vw p),(128,some (aeU u1))]⟩ [71]) (fz ⟨(adL u1),[(eF p p1 p2 v1),bP,(mD u6),(ol u8),(pV v8),(qA v8 u6 u8),(UJ p),(Vw p)]⟩ [128])) ?_
           refine aB (bE h fun w9 hr_10 h=> ?_)
           refine jI 129 [(2,(vP 63 0)),(28,(vP 127 0))] [] [129,63,127,126] (.iP []) [(129,some (.loop dN 0 [(2,(vP 63 0)),(28,(vP 127 0))])),(eF p p1 p2 v1),(127,some (.cells 27 [(.own 126 true w9.length)])),(126,some (bZ 4 1 aj w9))] (aa1 u1) 121 [] (aeX u1) [(129,some (.loop dN 0 [(2,(vP 63 0)),(28,(vP 127 0))])),(eF p p1 p2 v1),(Vw p),(UJ p)] [(.one (.yl 129)),(sD (Xv u1))] dN 0 [(2,(vP 63 0)),(28,(vP 127 0))] (by kernel_rfl) (by kernel_rfl) (by kernel_rfl) (by kernel_rfl) (by kernel_rfl) (by kernel_rfl) (by kernel_rfl) (rK [(0,129),(1,63),(2,127),(3,126)] (jO u1.arcs u1.from_ (⟨p.buses,p1,p2,v1⟩:ah) (Jb p) hr_10)) (by kernel_rfl) rfl (CQ.zero rfl) (bM.fin (st':=⟨(adL u1),[(eF p p1 p2 v1),bP,(mD u6),(ol u8),(pV v8),(qA v8 u6 u8),(126,some (bZ 4 1 aj w9)),(127,some (.cells 27 [(.own 126 true w9.length)]))]⟩) (cs:=[]) ⟨[],[(63,63),(65,65),(73,73),(74,74),(75,75),(76,76),(126,126),(127,127)]⟩ [2,4,10,28,235] (by kernel_rfl) trivial) ?_
           refine sd tT mX ⟨[(4,(vP 65 0)),(5,(vO 126 true w9.length)),(6,(vI 0))],[(65,some (.cells 77 [(.own 73 true u6.length),(.own 74 true u8.length),(.own 75 true v8.length)])),(mD u6),(ol u8),(pV v8),(126,some (bZ 4 1 aj w9))]⟩ [] {} [] trivial ?_
           refine aI (.trans (bM.fin (st':=⟨[(4,(vP 4 0)),(5,(vO 3 true w9.length)),(6,(vI 0))],[(Fq u6),(1,some (BJ u8)),(2,some (bZ 164 2 af.cell v8)),(vJ w9),(4,some (.cells 77 [(.own 0 true u6.length),(.own 1 true u8.length),(.own 2 true v8.length)]))]⟩) (cs:=[]) ⟨[],[(73,0),(74,1),(75,2),(126,3),(65,4)]⟩ [4,5,6] (by kernel_rfl) trivial) (bM.le (st':=⟨[(4,(vP 4 0)),(5,(vO 3 false w9.length)),(6,(vI 0))],[(Fq u6),(1,some (BJ u8)),(2,some (bZ 164 2 af.cell v8)),(vJ w9),(4,some (.cells 77 [(.own 0 false u6.length),(.own 1 false u8.length),(.own 2 false v8.length)]))]⟩) ⟨⟨tR,⟨_,rfl,eH.v (eO.one (cN))⟩,tR,trivial⟩,(hN 4 ⟨rfl,bA ⟨cN,cN,cN,trivial⟩,trivial⟩)⟩)) ?_
           refine aR ?_
           obtain rfl:=oi h
           exact rh [(.agg [(.own 0 false u6.length),(.own 1 false u8.length),(.own 2 false v8.length)]),(.one (.own 3 false w9.length)),(sI 0)] (.refl _) (hN 4 ⟨rfl,trivial,trivial⟩)
       |ret v=>
        obtain rfl:=oi h
        unfold gm
        intro e st hn ha hR
        cases e with
        |normal=>exact absurd rfl hn
        |exit id=>exact hR
        |goto l=>exact hR
        |ret=>exact hR
        |panic c=>exact hR
        |outgrown=>exact hR
     |ret v=>
      obtain rfl:=oi h
      unfold gm
      intro e st hn ha hR
      cases e with
      |normal=>exact absurd rfl hn
      |exit id=>exact hR
      |goto l=>exact hR
      |ret=>exact hR
      |panic c=>exact hR
      |outgrown=>exact hR
   |ret v=>
    obtain rfl:=oi h
    unfold gm
    intro e st hn ha hR
    cases e with
    |normal=>exact absurd rfl hn
    |exit id=>exact hR
    |goto l=>exact hR
    |ret=>exact hR
    |panic c=>exact hR
    |outgrown=>exact hR
noncomputable def iA:nR:=⟨[25,26],Gs ([1,1,1,1,0,1,0]++[0]) (mY Try.f33),Gs ([1,1,1,1,0,1,0]++[1]) (mY Try.f33),35,[]⟩
abbrev Bz:Nat × Option Ob:=(0,some (.loop iA 0 [(9,(vP 1 0))]))
def BL  :(List Part)→Exit→St→Prop:=
  fun r=>nk 0 iA (vB true) [Bz,(1,some (.cells 80 [(.own 3 false r.length)])),(2,none),(3,some (bZ 117 2 Part.cell r))]
section
variable (u0:(List Part)) (u1:Int) (u2:Int)
abbrev Dh:Ob:=(bZ 117 2 Part.cell u0)
abbrev Sq:List (Nat × Option Ob):=[Bz,(1,some (.cells 80 [(.own 2 false u0.length)])),(2,some (Dh u0))]
abbrev Zj:List (Nat × TV):=[(9,(vP 1 0)),(10,(vD (lT [(.int .i64 u1),(.int .i64 u2)] 0)))]
abbrev U7:Nat × Option Ob:=(0,some (.loop iA 1 [(9,(vP 1 0))]))
abbrev agp:List (Nat × Option Ob):=[U7,(1,some (.cells 80 [(.own 2 false u0.length)])),(2,some (Dh u0))]
abbrev ab3:List (Nat × TV):=[(9,(vP 1 0)),(10,(vD (lT [(.int .i64 u1),(.int .i64 u2)] 0))),(29,(vB (!decide (u1=0))))]
end
theorem mg (u1:Int) (u2:Int) (u3:Int) (u0:(List Part)) {r:(List Part)} (h:jA u1 u2 u3 u0=some r):Yl Try.prog 0 [(.agg [(cI u1),(cI u2)]),(sI u3)] (Sq u0) (vB true) [Bz,(1,some (.cells 80 [(.own 3 false r.length)])),(2,none),(3,some (bZ 117 2 Part.cell r))]:=by
 refine EL (r:=iA) (sl:=[(9,(vP 1 0))]) (sl1:=(Zj u1 u2)) (h1:=(Sq u0)) (sl2:=[(9,(vP 1 0))]) (by kernel_rfl) rfl rfl (by kernel_rfl) (fun rd B=> ?_) (by kernel_rfl) (fun rd B=> ?_)
 ·refine qY (c:=Gs ([1,1,1,1,0,1,0]++[0]) (mY Try.f33)) rfl ?_
  refine oo (st:=⟨[(25,(.v (.agg [(cI u1),(cI u2)]))),(26,(vI u3)),(9,(vP 1 0))],(Sq u0)⟩) (by kernel_rfl) ?_
  refine rz tT ⟨(Zj u1 u2),(Sq u0)⟩ {fr:=[(0,6)] } [6] ?_
  exact⟨rfl,rfl⟩
 ·refine qY (c:=Gs ([1,1,1,1,0,1,0]++[1]) (mY Try.f33)) rfl ?_
  refine oo (st:=⟨(Zj u1 u2),(agp u0)⟩) (by kernel_rfl) ?_
  show bJ _ _ _ _ _ _ (BL r) _
  unfold jA at h
  refine aB (sz tT ⟨(ab3 u1 u2),(agp u0)⟩ {} [] ?_)
  refine bI h (fun hb h=> ?_) (fun hb h=> ?_)
  ·refine ct hb ?_
   refine aO h fun⟨a1,a2⟩ h=> ?_
   refine ri tT ⟨[],[U7,(1,some (.cells 80 [(.own 8 false ((u0++[(⟨u1,u2⟩:Part)]).length))])),(2,none),(8,some (bZ 117 2 Part.cell (u0++[(⟨u1,u2⟩:Part)])))]⟩ [[(⟨u1,u2⟩:Part)].length=1,aG 1 2 (jD 2 [(.int .i64 u1),(.int .i64 u2)]) (aC Part.cell [(⟨u1,u2⟩:Part)]),u0.length=u0.length,_,_,(u0++[(⟨u1,u2⟩:Part)]).length=u0.length+[(⟨u1,u2⟩:Part)].length,aG (u0.length+[(⟨u1,u2⟩:Part)].length) 2 (EM (aC Part.cell u0) u0.length (aC Part.cell [(⟨u1,u2⟩:Part)])) (aC Part.cell (u0++[(⟨u1,u2⟩:Part)]))] {an:=[(2, .arr [(⟨u1,u2⟩:Part)].length (aC Part.cell [(⟨u1,u2⟩:Part)])),(3, .arr (u0++[(⟨u1,u2⟩:Part)]).length (aC Part.cell (u0++[(⟨u1,u2⟩:Part)])))],fr:=[(2,7),(3,8)] } [] ⟨(rfl),((by intro i hi j hj;match i,j,hi,hj with|0,0,_,_=>rfl|0,1,_,_=>rfl)),rfl,a1,a2,(List.length_append),(mU _ _ _ _),trivial⟩ (bM.fin (st':=⟨[],[U7,(1,some (.cells 80 [(.own 3 false ((u0++[(⟨u1,u2⟩:Part)]).length))])),(2,none),(3,some (bZ 117 2 Part.cell (u0++[(⟨u1,u2⟩:Part)])))]⟩) (cs:=[]) ⟨[],[(0,0),(1,1),(2,2),(8,3)]⟩ [] (by kernel_rfl) trivial) ?_
   obtain rfl:=oi h
   exact nk.on (sl:=[(9,(vP 1 0))]) (by kernel_rfl) (zf (by kernel_rfl)) (eH.refl _)
  ·refine cf hb ?_
   refine aI (.trans (bM.Uz (E0:=80) (cs:=[(.own 2 false u0.length)]) (nn:=false) (len:=u0.length) (E:=117) (esz:=2) (n:=u0.length) (el:=aC Part.cell u0) (p:=1) (q:=0) (b:=2) (b':=9) (by kernel_rfl) (by kernel_rfl) (by kernel_rfl) (by kernel_rfl)) (.trans (fz ⟨(ab3 u1 u2),[U7,(1,some (.cells 80 [(.own 9 false u0.length)])),(2,none),(9,some (Dh u0))]⟩ []) (bM.fin (st':=⟨[],[U7,(1,some (.cells 80 [(.own 3 false u0.length)])),(2,none),(3,some (Dh u0))]⟩) (cs:=[]) ⟨[],[(0,0),(1,1),(2,2),(9,3)]⟩ [] (by kernel_rfl) trivial))) ?_
   refine aP ?_
   obtain rfl:=oi h
   exact nk.on (sl:=[(9,(vP 1 0))]) (by kernel_rfl) (zf (by kernel_rfl)) (eH.refl _)
def Ai  :Bool→Exit→St→Prop:=
  fun r=>bB TT [.tmp 3] (vB r) []
theorem zQ (b:Int) (x1:(List Bool)) {r:Bool} (h:j6 b x1=some r):Fn Try.prog 125 [(sI b),(sD (Pt x1))] [] (vB r) []:=by
 refine fN tT Try.func125 rfl rfl fun B=> ?_
 show bJ _ _ _ _ _ _ (Ai r) _
 unfold j6 at h
 refine sz tT ⟨[(0,(vI b)),(1,(vD (Pt x1)))],[]⟩ {} [] ?_
 refine aQ (aO h fun a1 h=> ?_)
 refine rg tT ⟨[(3,(vB (bif (decide (0≤b))then(at' x1 b.toNat)else false)))],[]⟩ (eqs (decide (0≤b)) 3 ((gP (jl [(2,(decide (0≤b)))]) [(2,true)]→All [(0:Int)≤b∧b<(x1.length:Int)])::(eqs (decide (0≤b)) 2 []))) {yb:=[(2,(decide (0≤b)))] } [] (ae ⟨(fun hg=> ⟨(a1 (aZ hg)),trivial⟩),(ae trivial)⟩) ?_
 refine aR ?_
 obtain rfl:=oi h
 exact rl [(sB (bif (decide (0≤b))then(at' x1 b.toNat)else false))]
def jb  :Int→Exit→St→Prop:=
  fun r=>bB TT [.tmp 4] (vI r) []
section
variable (f_:(List Bool))
abbrev Ry:=(nC [(Pt f_)])
abbrev Qc:Nat × TV:=(1,(vD (.fn 125 1 (Ry f_))))
end
def lI (s_:(List Int)) (f_:(List Bool)):Int→St:=
  fun t8=> ⟨[(jW s_),(Qc f_),(oC s_),(8,(vI t8))],[]⟩
def kZ  :Unit→St:=
  fun _=> ⟨[],[]⟩
def tF (s_:(List Int)) (f_:(List Bool)):(aM Int (Ex Unit Int))→Exit→St→Prop:=
  LQ 0 [] (lI s_ f_) kZ jb
section
variable (s_:(List Int)) (f_:(List Bool))
abbrev adX:St:=⟨[(jW s_),(Qc f_)],[]⟩
end
theorem tu (s_:(List Int)) (f_:(List Bool)) {r:Int} (h:gM s_ f_=some r):Fn Try.prog 113 [(sD (y9 s_)),(sD (.fn 125 1 (Ry f_)))] [] (vI r) []:=by
 refine fN tT Try.func113 rfl rfl fun B=> ?_
 show bJ _ _ _ _ _ _ (jb r) _
 unfold gM at h
 refine sz tT (adX s_ f_) {} [] ?_
 refine aQ (sz tT ⟨[(jW s_),(Qc f_),(oC s_),(8,(vI 0))],[]⟩ {} [] ?_)
 refine bE h fun y hy h=> ?_
 refine aL [] (lI s_ f_) kZ jb hy (fun s f h=> ?_) ?_
 ·clear hy
  show bJ _ _ _ _ _ _ ((tF s_ f_) f) _
  unfold fE at h
  obtain⟨t8,rfl⟩: ∃q,q=s:=⟨_,rfl⟩
  refine sz tT ⟨[(jW s_),(Qc f_),(oC s_),(8,(vI t8)),(Tt t8 s_)],[]⟩ {} [] ?_
  refine aQ ?_
  refine bI h (fun hb1 h=> ?_) (fun hb1 h=> ?_)
  ·refine ct hb1 ?_
   refine aP (aQ (aB (sz tT ⟨[(jW s_),(Qc f_),(5,(vI t8)),(oC s_),(8,(vI t8))],[]⟩ {} [] ?_)))
   refine aQ (bE h fun r_ hr_ h=> ?_)
   refine aO h fun a1 h=> ?_
   have q1:=zQ (at' s_ t8.toNat) f_ hr_
   refine rg tT ⟨[(jW s_),(Qc f_),(5,(vI t8)),(oC s_),(8,(vI t8)),(16,(vB r_))],[]⟩ [_,_] {an:=[(5,cA q1 [])] } [] ⟨a1,q1,trivial⟩ ?_
   refine bI h (fun hb h=> ?_) (fun hb h=> ?_)
   ·refine ct hb ?_
    refine sz tT ⟨[(4,(vI t8))],[]⟩ {} [] ?_
    refine aR ?_
    obtain rfl:=oi h
    exact lR dX (dZ 0) dY (bB.mk (.inr rfl) (p:=[]) (l:=[(sI t8)]) (by kernel_rfl) trivial (eH.refl _) trivial)
   ·refine cf hb ?_
    refine aP (rz tT ⟨[(jW s_),(Qc f_),(oC s_),(Yj t8)],[]⟩ {} [] ?_)
    obtain rfl:=oi h
    exact lN
  ·refine cf hb1 ?_
   refine aI (fz ⟨[],[]⟩ []) ?_
   refine aX ?_
   obtain rfl:=oi h
   exact lB
 ·clear hy
  cases y with
  |brk z=>
   unfold gm
   refine⟨_, .refl, ?_⟩
   refine sz tT ⟨[(4,(vI (-1)))],[]⟩ {} [] ?_
   refine aR ?_
   obtain rfl:=oi h
   exact rl [(sI (-1))]
  |ret v=>
   obtain rfl:=oi h
   unfold gm
   intro e st hn ha hR
   cases e with
   |normal=>exact absurd rfl hn
   |exit id=>exact hR
   |goto l=>exact hR
   |ret=>exact hR
   |panic c=>exact hR
   |outgrown=>exact hR
def rJ  :Bool→Exit→St→Prop:=
  fun r=>bB TT [.tmp 4] (vB r) []
theorem j5 (s_:(List Int)) (f_:(List Bool)) {r:Bool} (h:cK s_ f_=some r):Fn Try.prog 67 [(sD (y9 s_)),(sD (.fn 125 1 (Ry f_)))] [] (vB r) []:=by
 refine fN tT Try.func67 rfl rfl fun B=> ?_
 show bJ _ _ _ _ _ _ (rJ r) _
 unfold cK at h
 refine sz tT (adX s_ f_) {} [] ?_
 refine aQ (bE h fun r_ hr_ h=> ?_)
 have q0:=tu s_ f_ hr_
 refine rg tT (k32 r_) [_] {an:=[(2,cA q0 [])] } [] ⟨q0,trivial⟩ ?_
 refine aR ?_
 obtain rfl:=oi h
 exact rl [(sB (decide (0≤r_)))]
def fw  :(List Part)→Exit→St→Prop:=
  fun r=>bB TT [] (.iP []) [Bz,(1,some (.cells 80 [(.own 3 false r.length)])),(2,none),(3,some (bZ 117 2 Part.cell r))]
section
variable (x2:(List Bool)) (u4:(List Bool)) (u5:(List Bool)) (u6:(List Bool)) (u7:(List Bool)) (u8:(List Bool)) (u9:(List Bool)) (x3:(List Bool)) (u0:(List Source)) (x1:Int) (u2:(List Link)) (u3:(List ay)) (v0:Int) (u1:(List Part))
abbrev aep:DV:=(lT [(aK none 1 aj x2),(aK none 1 aj u4),(aK none 1 aj u5),(aK none 1 aj u6),(aK none 1 aj u7),(aK none 1 aj u8),(aK none 1 aj u9)] 0)
abbrev Dl:Nat × TV:=(2,(vD (aep x2 u4 u5 u6 u7 u8 u9)))
abbrev tO:Nat × TV:=(3,(vD (Pt x3)))
abbrev OX:Nat × TV:=(13,(vD (k13 u0)))
abbrev P6:Nat × TV:=(14,(vI (u0.length:Int)))
abbrev acZ:List (Nat × TV):=[dV,(k15 u0 u3 x1 u2),(Dl x2 u4 u5 u6 u7 u8 u9),(tO x3),(OX u0),(P6 u0),(15,(vI v0))]
abbrev ru:List (Nat × Option Ob):=[Bz,(1,some (.cells 80 [(.own 37 false u1.length)])),(2,none),(37,some (Dh u1))]
end
def rU (x1:Int) (u0:(List Source)) (u2:(List Link)) (u3:(List ay)) (x2:(List Bool)) (u4:(List Bool)) (u5:(List Bool)) (u6:(List Bool)) (u7:(List Bool)) (u8:(List Bool)) (u9:(List Bool)) (x3:(List Bool)):((List Part) × Int)→St:=
  fun zz=>match zz with|(u1,v0)=> ⟨(acZ x2 u4 u5 u6 u7 u8 u9 x3 u0 x1 u2 u3 v0),(ru u1)⟩
section
variable (x1:Int) (u1:(List Source)) (u2:(List Link)) (u3:(List ay)) (x2:(List Bool)) (u4:(List Bool)) (u5:(List Bool)) (u6:(List Bool)) (u7:(List Bool)) (u8:(List Bool)) (u9:(List Bool)) (x3:(List Bool)) (u0:(List Part))
abbrev afQ:List (Nat × TV):=[dV,(k15 u1 u3 x1 u2),(Dl x2 u4 u5 u6 u7 u8 u9),(tO x3)]
abbrev adC:St:=⟨(afQ x1 u1 u2 u3 x2 u4 u5 u6 u7 u8 u9 x3),(ru u0)⟩
end
def sH (x1:Int) (u1:(List Source)) (u2:(List Link)) (u3:(List ay)) (x2:(List Bool)) (u4:(List Bool)) (u5:(List Bool)) (u6:(List Bool)) (u7:(List Bool)) (u8:(List Bool)) (u9:(List Bool)) (x3:(List Bool)):(List Part)→St:=
  fun u0=>(adC x1 u1 u2 u3 x2 u4 u5 u6 u7 u8 u9 x3 u0)
def BR (x1:Int) (u0:(List Source)) (u1:(List Link)) (u2:(List ay)) (x2:(List Bool)) (u3:(List Bool)) (u4:(List Bool)) (u5:(List Bool)) (u6:(List Bool)) (u7:(List Bool)) (u8:(List Bool)) (x3:(List Bool)):(aM ((List Part) × Int) (Ex (List Part) (List Part)))→Exit→St→Prop:=
  LQ 0 [] (rU x1 u0 u1 u2 x2 u3 u4 u5 u6 u7 u8 x3) (sH x1 u0 u1 u2 x2 u3 u4 u5 u6 u7 u8 x3) fw
section
variable (u0:(List Link)) (x1:Int) (u2:(List Source)) (u3:(List ay)) (x2:(List Bool)) (u4:(List Bool)) (u5:(List Bool)) (u6:(List Bool)) (u7:(List Bool)) (u8:(List Bool)) (u9:(List Bool)) (x3:(List Bool)) (v0:Int)
abbrev Qa:Nat × TV:=(43,(vD (aK none 6 Link.cell u0)))
abbrev Pe:Nat × TV:=(44,(vI (u0.length:Int)))
abbrev af5:List (Nat × TV):=[dV,(k15 u2 u3 x1 u0),(Dl x2 u4 u5 u6 u7 u8 u9),(tO x3),(Qa u0),(Pe u0),(45,(vI v0))]
end
def sF (x1:Int) (u2:(List Source)) (u0:(List Link)) (u3:(List ay)) (x2:(List Bool)) (u4:(List Bool)) (u5:(List Bool)) (u6:(List Bool)) (u7:(List Bool)) (u8:(List Bool)) (u9:(List Bool)) (x3:(List Bool)):((List Part) × Int)→St:=
  fun zz=>match zz with|(u1,v0)=> ⟨(af5 u0 x1 u2 u3 x2 u4 u5 u6 u7 u8 u9 x3 v0),(ru u1)⟩
section
variable (x1:Int) (u1:(List Source)) (u2:(List Link)) (u3:(List ay)) (x3:(List Bool)) (u0:(List Part))
abbrev afY:List (Nat × TV):=[dV,(k15 u1 u3 x1 u2),(tO x3)]
abbrev acK:St:=⟨(afY x1 u1 u2 u3 x3),(ru u0)⟩
end
def rT (x1:Int) (u1:(List Source)) (u2:(List Link)) (u3:(List ay)) (x3:(List Bool)):(List Part)→St:=
  fun u0=>(acK x1 u1 u2 u3 x3 u0)
def BS (x1:Int) (u0:(List Source)) (u1:(List Link)) (u2:(List ay)) (x2:(List Bool)) (u3:(List Bool)) (u4:(List Bool)) (u5:(List Bool)) (u6:(List Bool)) (u7:(List Bool)) (u8:(List Bool)) (x3:(List Bool)):(aM ((List Part) × Int) (Ex (List Part) (List Part)))→Exit→St→Prop:=
  LQ 2 [] (sF x1 u0 u1 u2 x2 u3 u4 u5 u6 u7 u8 x3) (rT x1 u0 u1 u2 x3) fw
section
variable (u0:(List ay)) (x3:(List Bool)) (u2:Int)
abbrev NC:Nat × TV:=(78,(vD (k14 u0)))
abbrev Mv:Nat × TV:=(79,(vI (u0.length:Int)))
abbrev afc:List (Nat × TV):=[dV,(tO x3),(NC u0),(Mv u0),(80,(vI u2))]
end
def sK (u0:(List ay)) (x3:(List Bool)):((List Part) × Int)→St:=
  fun zz=>match zz with|(u1,u2)=> ⟨(afc u0 x3 u2),(ru u1)⟩
def rP  :(List Part)→St:=
  fun o905=> ⟨[],[Bz,(1,some (.cells 80 [(.own 37 false o905.length)])),(2,none),(37,some (bZ 117 2 Part.cell o905))]⟩
def BG (u0:(List ay)) (x3:(List Bool)):(aM ((List Part) × Int) (Ex (List Part) (List Part)))→Exit→St→Prop:=
  LQ 4 [] (sK u0 x3) rP fw
section
variable (x1:Int) (u1:(List Source)) (u0:(List Link)) (u2:(List ay)) (x2:(List Bool)) (u7:(List Bool)) (u8:(List Bool)) (u9:(List Bool)) (v0:(List Bool)) (v1:(List Bool)) (v2:(List Bool)) (x3:(List Bool)) (u4:Int) (r_:Bool) (v8:(List Part)) (v5:(List Part)) (u3:Int) (u5:Bool) (v9:(List Part)) (u6:Int) (v3:Bool) (w0:(List Part))
abbrev afn:List SV:=[(.one (.yl 0)),(sD (k12 u1 u2 x1 u0)),(sD (aep x2 u7 u8 u9 v0 v1 v2)),(sD (Pt x3))]
abbrev X5:List (Nat × TV):=[dV,(k15 u1 u2 x1 u0),(Dl x2 u7 u8 u9 v0 v1 v2),(tO x3),(OX u1),(P6 u1),(15,(vI 0))]
abbrev aeK:List (Nat × TV):=[dV,(k15 u1 u2 x1 u0),(Dl x2 u7 u8 u9 v0 v1 v2),(tO x3),(OX u1),(P6 u1),(15,(vI u4)),(16,(vB (decide (u4<(u1.length:Int)))))]
abbrev adi:List (Nat × TV):=[dV,(k15 u1 u2 x1 u0),(Dl x2 u7 u8 u9 v0 v1 v2),(tO x3),(5,(vI u4)),(6,(vD (lT [(.int .i64 ((at' u1 u4.toNat).bus)),(.int .i64 ((at' u1 u4.toNat).kind)),(.int .i64 ((at' u1 u4.toNat).power)),(.int .i64 ((at' u1 u4.toNat).sync)),(.int .i64 ((at' u1 u4.toNat).iL))] 0))),(OX u1),(P6 u1),(15,(vI u4))]
abbrev rC:=(bif r_ then(!(at' x3 (((at' u1 u4.toNat).bus).toNat)))else false)
abbrev YM:List (Nat × TV):=[dV,(k15 u1 u2 x1 u0),(Dl x2 u7 u8 u9 v0 v1 v2),(tO x3),(OX u1),(P6 u1),(15,(vI u4)),(40,(vB (bif (rC u1 x3 u4 r_)then false else false)))]
abbrev aau:List (Nat × Option Ob):=[Bz,(1,some (.cells 80 [(.own 41 false v8.length)])),(2,none),(41,some (Dh v8))]
abbrev aec:=(gP (jl [(4,r_),(12,true)]) [(4,true)]→All [(0:Int)≤(at' u1 u4.toNat).bus∧(at' u1 u4.toNat).bus<(x3.length:Int)])
abbrev YU:List (Nat × Option Ob):=[Bz,(1,some (.cells 80 [(.own 37 false v5.length)])),(37,some (Dh v5))]
abbrev agc:List (Nat × Option Ob):=[Bz,(1,some (.cells 80 [(.own 41 false v8.length)])),(37,none),(41,some (Dh v8))]
abbrev aao:List (Nat × TV):=[dV,(k15 u1 u2 x1 u0),(Dl x2 u7 u8 u9 v0 v1 v2),(tO x3),(OX u1),(P6 u1),(15,(vI u4)),(40,(vB false))]
abbrev ZF:List (Nat × TV):=[dV,(k15 u1 u2 x1 u0),(Dl x2 u7 u8 u9 v0 v1 v2),(tO x3),(OX u1),(P6 u1),(15,(k3 u4))]
abbrev abI:St:=⟨(ZF x1 u1 u0 u2 x2 u7 u8 u9 v0 v1 v2 x3 u4),(ru v8)⟩
abbrev Om:=(jl [(4,r_),(12,false)])
abbrev acQ:=(eqs r_ 4 ((gP (Om r_) [(4,true)]→All [(0:Int)≤(at' u1 u4.toNat).bus∧(at' u1 u4.toNat).bus<(x3.length:Int)])::(eqs r_ 3 [(rC u1 x3 u4 r_)=false, ¬ gP (Om r_) [(12,true)],(rC u1 x3 u4 r_)=false, ¬ gP (Om r_) [(12,true)],(rC u1 x3 u4 r_)=false, ¬ gP (Om r_) [(12,true)],(rC u1 x3 u4 r_)=false, ¬ gP (Om r_) [(12,true)],(rC u1 x3 u4 r_)=false, ¬ gP (Om r_) [(12,true)],(rC u1 x3 u4 r_)=false, ¬ gP (Om r_) [(12,true)],(rC u1 x3 u4 r_)=false, ¬ gP (Om r_) [(12,true)],(rC u1 x3 u4 r_)=false])))
abbrev abW:List (Nat × TV):=[dV,(k15 u1 u2 x1 u0),(Dl x2 u7 u8 u9 v0 v1 v2),(tO x3),(Qa u0),(Pe u0),(45,(vI 0))]
abbrev aeh:List (Nat × TV):=[dV,(k15 u1 u2 x1 u0),(Dl x2 u7 u8 u9 v0 v1 v2),(tO x3),(Qa u0),(Pe u0),(45,(vI u3)),(46,(vB (decide (u3<(u0.length:Int)))))]
abbrev aee:List (Nat × TV):=[dV,(k15 u1 u2 x1 u0),(Dl x2 u7 u8 u9 v0 v1 v2),(tO x3),(7,(vI u3)),(8,(vD (lT [(.int .i64 ((at' u0 u3.toNat).a)),(.int .i64 ((at' u0 u3.toNat).b)),(.int .i64 ((at' u0 u3.toNat).kind)),(.int .i64 ((at' u0 u3.toNat).most)),(.int .i64 ((at' u0 u3.toNat).iL)),(aK none 2 iQ.cell ((at' u0 u3.toNat).trip))] 0))),(Qa u0),(Pe u0),(45,(vI u3))]
abbrev rD:=(bif u5 then(!((at' x3 (((at' u0 u3.toNat).a).toNat))==(at' x3 (((at' u0 u3.toNat).b).toNat))))else false)
abbrev YF:List (Nat × TV):=[dV,(k15 u1 u2 x1 u0),(Dl x2 u7 u8 u9 v0 v1 v2),(tO x3),(Qa u0),(Pe u0),(45,(vI u3)),(75,(vB (bif (rD u0 x3 u3 u5)then false else false)))]
abbrev Zt:List (Nat × Option Ob):=[Bz,(1,some (.cells 80 [(.own 50 false v9.length)])),(2,none),(50,some (Dh v9))]
abbrev QL:=(jl [(4,u5),(17,true)])
abbrev ae8:=(gP (QL u5) [(4,true)]→All [(0:Int)≤(at' u0 u3.toNat).a∧(at' u0 u3.toNat).a<(x3.length:Int)])
abbrev adp:=(gP (QL u5) [(4,true)]→All [(0:Int)≤(at' u0 u3.toNat).b∧(at' u0 u3.toNat).b<(x3.length:Int)])
abbrev af4:List (Nat × Option Ob):=[Bz,(1,some (.cells 80 [(.own 50 false v9.length)])),(37,none),(50,some (Dh v9))]
abbrev YL:List (Nat × TV):=[dV,(k15 u1 u2 x1 u0),(Dl x2 u7 u8 u9 v0 v1 v2),(tO x3),(Qa u0),(Pe u0),(45,(vI u3)),(75,(vB false))]
abbrev YD:List (Nat × TV):=[dV,(k15 u1 u2 x1 u0),(Dl x2 u7 u8 u9 v0 v1 v2),(tO x3),(Qa u0),(Pe u0),(45,(k3 u3))]
abbrev acs:St:=⟨(YD x1 u1 u0 u2 x2 u7 u8 u9 v0 v1 v2 x3 u3),(ru v9)⟩
abbrev K3:=(jl [(4,u5),(17,false)])
abbrev adP:=(eqs u5 4 ((gP (K3 u5) [(4,true)]→All [(0:Int)≤(at' u0 u3.toNat).a∧(at' u0 u3.toNat).a<(x3.length:Int)])::(eqs u5 5 ((gP (K3 u5) [(4,true)]→All [(0:Int)≤(at' u0 u3.toNat).b∧(at' u0 u3.toNat).b<(x3.length:Int)])::(eqs u5 3 [(rD u0 x3 u3 u5)=false, ¬ gP (K3 u5) [(17,true)],(rD u0 x3 u3 u5)=false, ¬ gP (K3 u5) [(17,true)],(rD u0 x3 u3 u5)=false, ¬ gP (K3 u5) [(17,true)],(rD u0 x3 u3 u5)=false, ¬ gP (K3 u5) [(17,true)],(rD u0 x3 u3 u5)=false, ¬ gP (K3 u5) [(17,true)],(rD u0 x3 u3 u5)=false, ¬ gP (K3 u5) [(17,true)],(rD u0 x3 u3 u5)=false, ¬ gP (K3 u5) [(17,true)],(rD u0 x3 u3 u5)=false])))))
abbrev afi:List (Nat × TV):=[dV,(tO x3),(NC u2),(Mv u2),(80,(vI 0))]
abbrev afJ:List (Nat × TV):=[dV,(tO x3),(NC u2),(Mv u2),(80,(vI u6)),(81,(vB (decide (u6<(u2.length:Int)))))]
abbrev adZ:Nat × TV:=(10,(agM u2 u6))
abbrev ac0:List (Nat × TV):=[dV,(tO x3),(9,(vI u6)),(adZ u2 u6),(NC u2),(Mv u2),(80,(vI u6))]
abbrev ad3:List (Nat × TV):=[dV,(tO x3),(9,(vI u6)),(adZ u2 u6),(11,(vB v3)),(NC u2),(Mv u2),(80,(vI u6))]
abbrev agP:List SV:=[(sD (aK none 1 (au .i64) [(JK u2 u6).e0,(JK u2 u6).e1])),(sD (.fn 125 1 (Ry x3)))]
abbrev abg:List (Nat × TV):=[dV,(tO x3),(NC u2),(Mv u2),(80,(vI u6)),(98,(vB (bif v3 then false else false)))]
abbrev Z5:List (Nat × Option Ob):=[Bz,(1,some (.cells 80 [(.own 58 false w0.length)])),(2,none),(58,some (Dh w0))]
abbrev abS:List (Nat × Option Ob):=[Bz,(1,some (.cells 80 [(.own 58 false w0.length)])),(37,none),(58,some (Dh w0))]
abbrev Y7:List (Nat × TV):=[dV,(tO x3),(NC u2),(Mv u2),(80,(vI u6)),(98,(vB false))]
abbrev aa0:List (Nat × TV):=[dV,(tO x3),(NC u2),(Mv u2),(80,(k3 u6))]
abbrev abZ:St:=⟨(aa0 u2 x3 u6),(ru w0)⟩
end
theorem Bt (x1:Int) (u1:(List Source)) (u0:(List Link)) (u2:(List ay)) (x2:(List Bool)) (u7:(List Bool)) (u8:(List Bool)) (u9:(List Bool)) (v0:(List Bool)) (v1:(List Bool)) (v2:(List Bool)) (x3:(List Bool)) (v7:(List Part)) {r:(List Part)} (h:qI x1 u1 u0 u2 x2 u7 u8 u9 v0 v1 v2 x3 v7=some r):Fn Try.prog 124 (afn x1 u1 u0 u2 x2 u7 u8 u9 v0 v1 v2 x3) (Sq v7) (.iP []) [Bz,(1,some (.cells 80 [(.own 3 false r.length)])),(2,none),(3,some (bZ 117 2 Part.cell r))]:=by
 refine fN tT Try.func124 rfl rfl fun B=> ?_
 show bJ _ _ _ _ _ _ (fw r) _
 unfold qI at h
 refine aQ (sz tT ⟨(X5 x1 u1 u0 u2 x2 u7 u8 u9 v0 v1 v2 x3),(Sq v7)⟩ {} [] ?_)
 refine bE h fun y hy h=> ?_
 refine aI (.trans (bM.Uz (E0:=80) (cs:=[(.own 2 false v7.length)]) (nn:=false) (len:=v7.length) (E:=117) (esz:=2) (n:=v7.length) (el:=aC Part.cell v7) (p:=1) (q:=0) (b:=2) (b':=42) (by kernel_rfl) (by kernel_rfl) (by kernel_rfl) (by kernel_rfl)) (.trans (fz ⟨(X5 x1 u1 u0 u2 x2 u7 u8 u9 v0 v1 v2 x3),[Bz,(1,some (.cells 80 [(.own 42 false v7.length)])),(2,none),(42,some (Dh v7))]⟩ []) (bM.fin (st':=⟨(X5 x1 u1 u0 u2 x2 u7 u8 u9 v0 v1 v2 x3),(ru v7)⟩) (cs:=[]) ⟨[],[(0,0),(1,1),(2,2),(42,37)]⟩ [0,1,2,3,13,14,15] (by kernel_rfl) trivial))) ?_
 refine aL [] (rU x1 u1 u0 u2 x2 u7 u8 u9 v0 v1 v2 x3) (sH x1 u1 u0 u2 x2 u7 u8 u9 v0 v1 v2 x3) fw hy (fun s f h=> ?_) ?_
 ·clear hy
  show bJ _ _ _ _ _ _ ((BR x1 u1 u0 u2 x2 u7 u8 u9 v0 v1 v2 x3) f) _
  unfold rY at h
  obtain⟨v5,u4⟩:=s
  refine sz tT ⟨(aeK x1 u1 u0 u2 x2 u7 u8 u9 v0 v1 v2 x3 u4),(ru v5)⟩ {} [] ?_
  refine aQ ?_
  refine bI h (fun hb1 h=> ?_) (fun hb1 h=> ?_)
  ·refine ct hb1 ?_
   refine aP (aQ (aB (aQ (aO h fun a1 h=> ?_))))
   refine rg tT ⟨(adi x1 u1 u0 u2 x2 u7 u8 u9 v0 v1 v2 x3 u4),(ru v5)⟩ [_] {fr:=[(3,40)] } [40] ⟨a1,trivial⟩ ?_
   refine aQ (bE h fun r_ hr_ h=> ?_)
   refine bI h (fun hb h=> ?_) (fun hb h=> ?_)
   ·skip
    refine bE h fun v8 hr_1 h=> ?_
    refine aO h fun a1 h=> ?_
    have q0:=fZ (⟨x1,u1,u0,u2⟩:ah) (⟨x2,u7,u8,u9,v0,v1,v2⟩:State) u4 hr_
    refine ri tT ⟨(YM x1 u1 u0 u2 x2 u7 u8 u9 v0 v1 v2 x3 u4 r_),(aau v8)⟩ (_::(eqs r_ 4 ((aec u1 x3 u4 r_)::(eqs r_ 3 [(rC u1 x3 u4 r_)=true,(rC u1 x3 u4 r_)=true,(rC u1 x3 u4 r_)=true,(rC u1 x3 u4 r_)=true,(rC u1 x3 u4 r_)=true,(rC u1 x3 u4 r_)=true,gP (jl [(4,r_),(12,true)]) [(12,true)]→All [Yl Try.prog 0 [(.agg [(cI 2),(cI u4)]),(sI ((at' u1 u4.toNat).power))] (YU v5) (vB true) (agc v8)],gP (jl [(4,r_),(12,true)]) [(12,true)],(rC u1 x3 u4 r_)=true,(rC u1 x3 u4 r_)=true])))) {yb:=[(4,r_),(12,true)],an:=[(3,cA q0 []),(18, .call [0,1,37] (vB true) (agc v8))] } [] ⟨q0,(ae ⟨(fun hg=> ⟨(a1 (aZ hg)),trivial⟩),(ae ⟨(hb),(hb),(hb),(hb),(hb),(hb),(fun hg=> ⟨(yK [(2,37),(3,41)] (mg 2 u4 ((at' u1 u4.toNat).power) v5 hr_1)),trivial⟩),(⟨rfl,trivial⟩),(hb),(hb),trivial⟩)⟩)⟩ (bM.le (st':=⟨(aao x1 u1 u0 u2 x2 u7 u8 u9 v0 v1 v2 x3 u4),(aau v8)⟩) ⟨⟨tR,tR,tR,tR,tR,tR,tR,⟨_,rfl,eH.v (eO.one (dO.of (congrArg (fun b=>CV.d (.bool b)) (BF hb))))⟩,trivial⟩,(.refl _)⟩) ?_
    refine cn (aP (ri tT ⟨(ZF x1 u1 u0 u2 x2 u7 u8 u9 v0 v1 v2 x3 u4),(aau v8)⟩ [] {} [] trivial (bM.fin (st':=(abI x1 u1 u0 u2 x2 u7 u8 u9 v0 v1 v2 x3 u4 v8)) (cs:=[]) ⟨[],[(0,0),(1,1),(2,2),(41,37)]⟩ [0,1,2,3,13,14,15] (by kernel_rfl) trivial) ?_))
    obtain rfl:=oi h
    exact lN
   ·skip
    refine aO h fun a1 h=> ?_
    have q0:=fZ (⟨x1,u1,u0,u2⟩:ah) (⟨x2,u7,u8,u9,v0,v1,v2⟩:State) u4 hr_
    refine ri tT ⟨(YM x1 u1 u0 u2 x2 u7 u8 u9 v0 v1 v2 x3 u4 r_),(ru v5)⟩ (_::(acQ u1 x3 u4 r_)) {yb:=[(4,r_),(12,false)],an:=[(3,cA q0 []),(13, .skip),(14, .skip),(15, .skip),(16, .skip),(17, .skip),(18, .skip),(19, .skip)] } [] ⟨q0,(ae ⟨(fun hg=> ⟨(a1 (aZ hg)),trivial⟩),(ae ⟨(hb),((fun h=>Bool.noConfusion (show false=true from h.1))),(hb),((fun h=>Bool.noConfusion (show false=true from h.1))),(hb),((fun h=>Bool.noConfusion (show false=true from h.1))),(hb),((fun h=>Bool.noConfusion (show false=true from h.1))),(hb),((fun h=>Bool.noConfusion (show false=true from h.1))),(hb),((fun h=>Bool.noConfusion (show false=true from h.1))),(hb),((fun h=>Bool.noConfusion (show false=true from h.1))),(hb),trivial⟩)⟩)⟩ (bM.le (st':=⟨(aao x1 u1 u0 u2 x2 u7 u8 u9 v0 v1 v2 x3 u4),(ru v5)⟩) ⟨⟨tR,tR,tR,tR,tR,tR,tR,⟨_,rfl,eH.v (eO.one (dO.of (congrArg (fun b=>CV.d (.bool b)) (Cg hb))))⟩,trivial⟩,(.refl _)⟩) ?_
    refine cn (aP (rz tT (abI x1 u1 u0 u2 x2 u7 u8 u9 v0 v1 v2 x3 u4 v5) {} [] ?_))
    obtain rfl:=oi h
    exact lN
  ·refine cf hb1 ?_
   refine aI (fz (adC x1 u1 u0 u2 x2 u7 u8 u9 v0 v1 v2 x3 v5) []) ?_
   refine aX ?_
   obtain rfl:=oi h
   exact lB
 ·clear hy
  cases y with
  |brk z=>
   obtain⟨w1,rfl⟩: ∃q,q=z:=⟨_,rfl⟩
   unfold gm
   refine⟨_, .refl, ?_⟩
   refine aQ (sz tT ⟨(abW x1 u1 u0 u2 x2 u7 u8 u9 v0 v1 v2 x3),(ru w1)⟩ {} [] ?_)
   refine bE h fun y1 hy h=> ?_
   refine aL [] (sF x1 u1 u0 u2 x2 u7 u8 u9 v0 v1 v2 x3) (rT x1 u1 u0 u2 x3) fw hy (fun s f h=> ?_) ?_
   ·clear hy
    show bJ _ _ _ _ _ _ ((BS x1 u1 u0 u2 x2 u7 u8 u9 v0 v1 v2 x3) f) _
    unfold rX at h
    obtain⟨v6,u3⟩:=s
    refine sz tT ⟨(aeh x1 u1 u0 u2 x2 u7 u8 u9 v0 v1 v2 x3 u3),(ru v6)⟩ {} [] ?_
    refine aQ ?_
    refine bI h (fun hb3 h=> ?_) (fun hb3 h=> ?_)
    ·refine ct hb3 ?_
     refine aP (aQ (aB (aQ (aO h fun a1 h=> ?_))))
     refine rg tT ⟨(aee x1 u1 u0 u2 x2 u7 u8 u9 v0 v1 v2 x3 u3),(ru v6)⟩ [_] {fr:=[(3,49)] } [49] ⟨a1,trivial⟩ ?_
     refine aQ (bE h fun u5 hr_2 h=> ?_)
     refine bI h (fun hb2 h=> ?_) (fun hb2 h=> ?_)
     ·skip
      refine bE h fun v9 hr_3 h=> ?_
      refine aO h fun⟨a1,a2⟩ h=> ?_
      have q0:=dK (⟨x1,u1,u0,u2⟩:ah) (⟨x2,u7,u8,u9,v0,v1,v2⟩:State) u3 hr_2
      refine di tT mX ⟨(YF x1 u1 u0 u2 x2 u7 u8 u9 v0 v1 v2 x3 u3 u5),(Zt v9)⟩ (_::(eqs u5 4 ((ae8 u0 x3 u3 u5)::(eqs u5 5 ((adp u0 x3 u3 u5)::(eqs u5 3 [(rD u0 x3 u3 u5)=true,(rD u0 x3 u3 u5)=true,(rD u0 x3 u3 u5)=true,(rD u0 x3 u3 u5)=true,(rD u0 x3 u3 u5)=true,(rD u0 x3 u3 u5)=true,gP (QL u5) [(17,true)]→All [Yl Try.prog 0 [(.agg [(cI 3),(cI u3)]),(sI ((at' u0 u3.toNat).most))] (YU v6) (vB true) (af4 v9)],gP (QL u5) [(17,true)],(rD u0 x3 u3 u5)=true,(rD u0 x3 u3 u5)=true])))))) {yb:=[(4,u5),(17,true)],an:=[(3,cA q0 []),(23, .call [0,1,37] (vB true) (af4 v9))] } [] ⟨q0,(ae ⟨(fun hg=> ⟨(a1 (aZ hg)),trivial⟩),(ae ⟨(fun hg=> ⟨(a2 (aZ hg)),trivial⟩),(ae ⟨(hb2),(hb2),(hb2),(hb2),(hb2),(hb2),(fun hg=> ⟨(yK [(2,37),(3,50)] (mg 3 u3 ((at' u0 u3.toNat).most) v6 hr_3)),trivial⟩),(⟨rfl,trivial⟩),(hb2),(hb2),trivial⟩)⟩)⟩)⟩ (bM.le (st':=⟨(YL x1 u1 u0 u2 x2 u7 u8 u9 v0 v1 v2 x3 u3),(Zt v9)⟩) ⟨⟨tR,tR,tR,tR,tR,tR,tR,⟨_,rfl,eH.v (eO.one (dO.of (congrArg (fun b=>CV.d (.bool b)) (BF hb2))))⟩,trivial⟩,(.refl _)⟩) ?_
      refine cn (aP (ri tT ⟨(YD x1 u1 u0 u2 x2 u7 u8 u9 v0 v1 v2 x3 u3),(Zt v9)⟩ [] {} [] trivial (bM.fin (st':=(acs x1 u1 u0 u2 x2 u7 u8 u9 v0 v1 v2 x3 u3 v9)) (cs:=[]) ⟨[],[(0,0),(1,1),(2,2),(50,37)]⟩ [0,1,2,3,43,44,45] (by kernel_rfl) trivial) ?_))
      obtain rfl:=oi h
      exact lN
     ·skip
      refine aO h fun⟨a1,a2⟩ h=> ?_
      have q0:=dK (⟨x1,u1,u0,u2⟩:ah) (⟨x2,u7,u8,u9,v0,v1,v2⟩:State) u3 hr_2
      refine di tT mX ⟨(YF x1 u1 u0 u2 x2 u7 u8 u9 v0 v1 v2 x3 u3 u5),(ru v6)⟩ (_::(adP u0 x3 u3 u5)) {yb:=[(4,u5),(17,false)],an:=[(3,cA q0 []),(18, .skip),(19, .skip),(20, .skip),(21, .skip),(22, .skip),(23, .skip),(24, .skip)] } [] ⟨q0,(ae ⟨(fun hg=> ⟨(a1 (aZ hg)),trivial⟩),(ae ⟨(fun hg=> ⟨(a2 (aZ hg)),trivial⟩),(ae ⟨(hb2),((fun h=>Bool.noConfusion (show false=true from h.1))),(hb2),((fun h=>Bool.noConfusion (show false=true from h.1))),(hb2),((fun h=>Bool.noConfusion (show false=true from h.1))),(hb2),((fun h=>Bool.noConfusion (show false=true from h.1))),(hb2),((fun h=>Bool.noConfusion (show false=true from h.1))),(hb2),((fun h=>Bool.noConfusion (show false=true from h.1))),(hb2),((fun h=>Bool.noConfusion (show false=true from h.1))),(hb2),trivial⟩)⟩)⟩)⟩ (bM.le (st':=⟨(YL x1 u1 u0 u2 x2 u7 u8 u9 v0 v1 v2 x3 u3),(ru v6)⟩) ⟨⟨tR,tR,tR,tR,tR,tR,tR,⟨_,rfl,eH.v (eO.one (dO.of (congrArg (fun b=>CV.d (.bool b)) (Cg hb2))))⟩,trivial⟩,(.refl _)⟩) ?_
      refine cn (aP (rz tT (acs x1 u1 u0 u2 x2 u7 u8 u9 v0 v1 v2 x3 u3 v6) {} [] ?_))
      obtain rfl:=oi h
      exact lN
    ·refine cf hb3 ?_
     refine aI (fz (acK x1 u1 u0 u2 x3 v6) []) ?_
     refine aX ?_
     obtain rfl:=oi h
     exact lB
   ·clear hy
    cases y1 with
    |brk z=>
     obtain⟨w2,rfl⟩: ∃q,q=z:=⟨_,rfl⟩
     unfold gm
     refine⟨_, .refl, ?_⟩
     refine sz tT ⟨(afi u2 x3),(ru w2)⟩ {} [] ?_
     refine bE h fun y2 hy h=> ?_
     refine aL [] (sK u2 x3) rP fw hy (fun s f h=> ?_) ?_
     ·clear hy
      show bJ _ _ _ _ _ _ ((BG u2 x3) f) _
      unfold rZ at h
      obtain⟨v4,u6⟩:=s
      refine sz tT ⟨(afJ u2 x3 u6),(ru v4)⟩ {} [] ?_
      refine aQ ?_
      refine bI h (fun hb5 h=> ?_) (fun hb5 h=> ?_)
      ·refine ct hb5 ?_
       refine aP (aQ (aB (aQ (aO h fun a1 h=> ?_))))
       refine rg tT ⟨(ac0 u2 x3 u6),(ru v4)⟩ [_] {fr:=[(3,57)] } [57] ⟨a1,trivial⟩ ?_
       refine aQ (bE h fun v3 hr_4 h=> ?_)
       refine rg tT ⟨(ad3 u2 x3 u6 v3),(ru v4)⟩ [Fn Try.prog 67 [(sD (.sl (some true) 1 [(JK u2 u6).e0,(JK u2 u6).e1].length (fun i j=>((Zv u2 u6).getD (0+(0+(i*1+j))) .nilp)))),(sD (.fn 125 1 (Ry x3)))] [] (vB v3) []] {an:=[(3, .call [] (vB v3) [])] } [] ⟨(Fn.leH (args:=(agP u2 x3 u6)) (hin:=[]) (j5 [(JK u2 u6).e0,(JK u2 u6).e1] x3 hr_4) ⟨eO.one (dO.d (gV.sl (.inl rfl) (by intro i hi j hj;match i,j,hi,hj with|0,0,_,_=>exact .refl _|1,0,_,_=>exact .refl _))),eO.refl _,trivial⟩ trivial),trivial⟩ ?_
       refine aQ ?_
       refine bI h (fun hb4 h=> ?_) (fun hb4 h=> ?_)
       ·skip
        refine bE h fun w0 hr_5 h=> ?_
        refine ri tT ⟨(abg u2 x3 u6 v3),(Z5 w0)⟩ [v3=true,v3=true,v3=true,v3=true,v3=true,v3=true,gP (jl [(1,true)]) [(1,true)]→All [Yl Try.prog 0 [(.agg [(cI 0),(cI u6)]),(sI ((at' u2 u6.toNat).power))] (YU v4) (vB true) (abS w0)],gP (jl [(1,true)]) [(1,true)],v3=true,v3=true] {yb:=[(1,true)],an:=[(7, .call [0,1,37] (vB true) (abS w0))] } [] ⟨(hb4),(hb4),(hb4),(hb4),(hb4),(hb4),(fun hg=> ⟨(yK [(2,37),(3,58)] (mg 0 u6 ((at' u2 u6.toNat).power) v4 hr_5)),trivial⟩),(⟨rfl,trivial⟩),(hb4),(hb4),trivial⟩ (bM.le (st':=⟨(Y7 u2 x3 u6),(Z5 w0)⟩) ⟨⟨tR,tR,tR,tR,tR,⟨_,rfl,eH.v (eO.one (dO.of (congrArg (fun b=>CV.d (.bool b)) (BF hb4))))⟩,trivial⟩,(.refl _)⟩) ?_
        refine cn (aP (ri tT ⟨(aa0 u2 x3 u6),(Z5 w0)⟩ [] {} [] trivial (bM.fin (st':=(abZ u2 x3 u6 w0)) (cs:=[]) ⟨[],[(0,0),(1,1),(2,2),(58,37)]⟩ [0,3,78,79,80] (by kernel_rfl) trivial) ?_))
        obtain rfl:=oi h
        exact lN
       ·skip
        refine ri tT ⟨(abg u2 x3 u6 v3),(ru v4)⟩ [v3=false, ¬ gP (jl [(1,false)]) [(1,true)],v3=false, ¬ gP (jl [(1,false)]) [(1,true)],v3=false, ¬ gP (jl [(1,false)]) [(1,true)],v3=false, ¬ gP (jl [(1,false)]) [(1,true)],v3=false, ¬ gP (jl [(1,false)]) [(1,true)],v3=false, ¬ gP (jl [(1,false)]) [(1,true)],v3=false, ¬ gP (jl [(1,false)]) [(1,true)],v3=false] {yb:=[(1,false)],an:=[(2, .skip),(3, .skip),(4, .skip),(5, .skip),(6, .skip),(7, .skip),(8, .skip)] } [] ⟨(hb4),((fun h=>Bool.noConfusion (show false=true from h.1))),(hb4),((fun h=>Bool.noConfusion (show false=true from h.1))),(hb4),((fun h=>Bool.noConfusion (show false=true from h.1))),(hb4),((fun h=>Bool.noConfusion (show false=true from h.1))),(hb4),((fun h=>Bool.noConfusion (show false=true from h.1))),(hb4),((fun h=>Bool.noConfusion (show false=true from h.1))),(hb4),((fun h=>Bool.noConfusion (show false=true from h.1))),(hb4),trivial⟩ (bM.le (st':=⟨(Y7 u2 x3 u6),(ru v4)⟩) ⟨⟨tR,tR,tR,tR,tR,⟨_,rfl,eH.v (eO.one (dO.of (congrArg (fun b=>CV.d (.bool b)) (Cg hb4))))⟩,trivial⟩,(.refl _)⟩) ?_
        refine cn (aP (rz tT (abZ u2 x3 u6 v4) {} [] ?_))
        obtain rfl:=oi h
        exact lN
      ·refine cf hb5 ?_
       refine aI (fz ⟨[],(ru v4)⟩ []) ?_
       refine aX ?_
       obtain rfl:=oi h
       exact lB
     ·clear hy
      cases y2 with
      |brk z=>
       obtain⟨o905,rfl⟩: ∃q,q=z:=⟨_,rfl⟩
       unfold gm
       refine⟨_,(bM.fin (st':=⟨[],[Bz,(1,some (.cells 80 [(.own 3 false o905.length)])),(2,none),(3,some (bZ 117 2 Part.cell o905))]⟩) (cs:=[]) ⟨[],[(0,0),(1,1),(2,2),(37,3)]⟩ [] (by kernel_rfl) trivial), ?_⟩
       obtain rfl:=oi h
       exact bB.mk (.inl rfl) (p:=[]) (l:=[]) (by kernel_rfl) trivial (eH.refl _) (hN 2 ⟨rfl,trivial,(.refl _)⟩)
      |ret v=>
       obtain rfl:=oi h
       unfold gm
       intro e st hn ha hR
       cases e with
       |normal=>exact absurd rfl hn
       |exit id=>exact hR
       |goto l=>exact hR
       |ret=>exact hR
       |panic c=>exact hR
       |outgrown=>exact hR
    |ret v=>
     obtain rfl:=oi h
     unfold gm
     intro e st hn ha hR
     cases e with
     |normal=>exact absurd rfl hn
     |exit id=>exact hR
     |goto l=>exact hR
     |ret=>exact hR
     |panic c=>exact hR
     |outgrown=>exact hR
  |ret v=>
   obtain rfl:=oi h
   unfold gm
   intro e st hn ha hR
   cases e with
   |normal=>exact absurd rfl hn
   |exit id=>exact hR
   |goto l=>exact hR
   |ret=>exact hR
   |panic c=>exact hR
   |outgrown=>exact hR
def Ib  :((List Part) × Int)→Exit→St→Prop:=
  fun r=>bB TT [.tmp 4, .tmp 5] (.iP [(sD (aK none 2 Part.cell r.1)),(sI r.2)]) []
section
variable (r_:(ai × (List Bool) × Int)) (p:ah) (s_:State) (u0:(Int × (List Source) × (List Link) × (List ay) × (List Bool) × (List Bool) × (List Bool) × (List Bool) × (List Bool) × (List Bool) × (List Bool) × (List Bool)))
abbrev FB:DV:=(aK none 1 aj r_.2.1)
abbrev aaq:List (Nat × TV):=[(L9 p),(lg s_),(7,(vD (FB r_))),(9,(vP 20 0))]
abbrev acf:List (Nat × Option Ob):=[(20,some (.cells 80 [(.own 21 false (([]:List Part).length))])),(21,some (bZ 117 2 Part.cell ([]:List Part)))]
abbrev X4:DV:=(lT [(.int .i64 u0.1),(aK none 5 Source.cell u0.2.1),(aK none 6 Link.cell u0.2.2.1),(aK none 4 ay.cell u0.2.2.2.1)] 0)
abbrev Xf:DV:=(lT [(aK none 1 aj u0.2.2.2.2.1),(aK none 1 aj u0.2.2.2.2.2.1),(aK none 1 aj u0.2.2.2.2.2.2.1),(aK none 1 aj u0.2.2.2.2.2.2.2.1),(aK none 1 aj u0.2.2.2.2.2.2.2.2.1),(aK none 1 aj u0.2.2.2.2.2.2.2.2.2.1),(aK none 1 aj u0.2.2.2.2.2.2.2.2.2.2.1)] 0)
abbrev Xz:DV:=(lT [(aK none 1 aj u0.2.2.2.2.2.2.2.2.2.2.2)] 0)
abbrev Ws:TV:=(vD (.fn 124 3 (nC [(X4 u0),(Xf u0),(Xz u0)])))
abbrev adz:List (Nat × TV):=[(9,(vP 20 0)),(24,(Ws u0))]
abbrev aeJ:List CV:=[(.d (X4 u0)),(.d (Xf u0)),(.d (Xz u0))]
end
theorem GX (p:ah) (s_:State) {r:((List Part) × Int)} (h:yL p s_=some r):Fn Try.prog 33 (k91 s_ p) [] (.iP [(sD (aK none 2 Part.cell r.1)),(sI r.2)]) []:=by
 refine fN tT Try.func33 rfl rfl fun B=> ?_
 show bJ _ _ _ _ _ _ (Ib r) _
 unfold yL at h
 refine sz tT ⟨[(L9 p),(lg s_)],[]⟩ {fr:=[(0,12),(1,13)] } [12,13] ?_
 refine aQ (bE h fun r_ hr_ h=> ?_)
 have q0:=rk [(0,14),(1,15),(2,16),(3,17),(4,18)] (nY p s_ hr_)
 refine rg tT ⟨[(L9 p),(lg s_),(7,(vD (FB r_))),(8,(vI r_.2.2))],[]⟩ [_,r_.2.1.length=r_.2.1.length] {an:=[(2,cA q0 [])],fr:=[(7,19)] } [17] ⟨q0,rfl,trivial⟩ ?_
 refine aQ (sz tT ⟨[(L9 p),(lg s_),(7,(vD (FB r_))),(8,(vI r_.2.2)),(19,(vB (!decide (r_.2.2=0))))],[]⟩ {} [] ?_)
 refine bI h (fun hb h=> ?_) (fun hb h=> ?_)
 ·refine ct hb ?_
  refine sz tT ⟨[(4,(vD nS)),(5,(vI r_.2.2))],[]⟩ {} [] ?_
  refine aI (bM.le (st':=⟨[(4,(vD (aK none 2 Part.cell ([]:List Part)))),(5,(vI r_.2.2))],[]⟩) ⟨⟨⟨_,rfl,eH.v (eO.one (dO.d gV.nil'))⟩,tR,trivial⟩,trivial⟩) ?_
  refine aR ?_
  obtain rfl:=oi h
  exact rl [(sD (aK none 2 Part.cell ([]:List Part))),(sI r_.2.2)]
 ·refine cf hb ?_
  refine aP (si tT ⟨(aaq r_ p s_),[(20,some (.cells 80 [(.d nS)]))]⟩ [] {fr:=[(0,20)] } [] trivial (.trans (bM.zb (E:=0) (esz:=0) (E0:=80) (cs:=[(.d nS)]) (p:=20) (q:=0) (b:=21) (esz0:=0) (el0:=fun _ _=> .nilp) (ob:= .arr 117 2 0 (aC Part.cell ([]:List Part))) (fun _ _ _ _ h=> .inl ⟨h,rfl⟩) (by kernel_rfl) (by kernel_rfl) (by kernel_rfl)) (.trans (fz ⟨(aaq r_ p s_),[(20,some (.cells 80 [(.own 21 false 0)])),(21,some (.arr 117 2 0 (aC Part.cell ([]:List Part))))]⟩ []) (bM.le (st':=⟨(aaq r_ p s_),acf⟩) ⟨⟨tR,tR,tR,tR,trivial⟩,⟨rfl,bA ⟨cW,trivial⟩,⟨rfl,oW,trivial⟩⟩⟩))) ?_)
  refine aQ (aQ (bE h fun u0 hr_1 h=> ?_))
  have q0:=wL p s_ r_.2.1 hr_1
  refine rg tT ⟨(adz u0),acf⟩ [_] {an:=[(3,cA q0 [])] } [] ⟨q0,trivial⟩ ?_
  refine aB (bE h fun u1 hr_2 h=> ?_)
  refine jI 22 [(9,(vP 20 0))] [] [22,20,21] (.iP []) [(22,some (.loop iA 0 [(9,(vP 20 0))])),(20,some (.cells 80 [(.own 23 false u1.length)])),(21,none),(23,some (Dh u1))] (Ws u0) 124 [] (aeJ u0) [(22,some (.loop iA 0 [(9,(vP 20 0))])),(20,some (.cells 80 [(.own 21 false (([]:List Part).length))])),(21,some (bZ 117 2 Part.cell ([]:List Part)))] [(.one (.yl 22)),(sD (X4 u0)),(sD (Xf u0)),(sD (Xz u0))] iA 0 [(9,(vP 20 0))] (by kernel_rfl) (by kernel_rfl) (by kernel_rfl) (by kernel_rfl) (by kernel_rfl) (by kernel_rfl) (by kernel_rfl) (rK [(0,22),(1,20),(2,21),(3,23)] (Bt u0.1 u0.2.1 u0.2.2.1 u0.2.2.2.1 u0.2.2.2.2.1 u0.2.2.2.2.2.1 u0.2.2.2.2.2.2.1 u0.2.2.2.2.2.2.2.1 u0.2.2.2.2.2.2.2.2.1 u0.2.2.2.2.2.2.2.2.2.1 u0.2.2.2.2.2.2.2.2.2.2.1 u0.2.2.2.2.2.2.2.2.2.2.2 ([]:List Part) hr_2)) (by kernel_rfl) rfl (CQ.zero rfl) (bM.fin (st':=⟨(adz u0),[(20,some (.cells 80 [(.own 23 false u1.length)])),(21,none),(23,some (Dh u1))]⟩) (cs:=[]) ⟨[],[(20,20),(21,21),(23,23)]⟩ [9,24] (by kernel_rfl) trivial) ?_
  refine sg tT ⟨[(4,(vD (aK none 2 Part.cell u1))),(5,(vI 0))],[]⟩ [u1.length=u1.length] {} [23] ⟨rfl,trivial⟩ ?_
  refine aR ?_
  obtain rfl:=oi h
  exact rl [(sD (aK none 2 Part.cell u1)),(sI 0)]
def rG  :Int→Exit→St→Prop:=
  fun r=>bB TT [.tmp 2] (vI r) []
section
variable (x:ai)
abbrev Rw:Nat × TV:=(7,(vD (aK none 2 af.cell x.racks)))
abbrev Rk:Nat × TV:=(8,(vI (x.racks.length:Int)))
end
def yA (x:ai):(Int × Int)→St:=
  fun zz=>match zz with|(n,t9)=> ⟨[(3,(vI n)),(Rw x),(Rk x),(9,(vI t9))],[]⟩
def yw  :Int→St:=
  fun n1=> ⟨[(3,(vI n1))],[]⟩
def FR (x:ai):(aM (Int × Int) (Ex Int Int))→Exit→St→Prop:=
  LQ 0 [] (yA x) yw rG
section
variable (x:ai) (t9:Int) (n:Int)
abbrev Xy:List CV:=[(.d (aK none 1 (au .i64) x.sources)),(.d (aK none 1 (au .i64) x.links)),(.d (aK none 2 af.cell x.racks))]
abbrev abO:List SV:=[(.agg (Xy x))]
abbrev aaR:Ob:=(.cells 77 (Xy x))
abbrev afj:List (Nat × Option Ob):=[(5,some (aaR x))]
abbrev aaN:TV:=(vD (lT [(.int .i64 ((at' x.racks t9.toNat).e0)),(.int .i64 ((at' x.racks t9.toNat).e1))] 0))
abbrev abX:Nat × TV:=(3,(vI (IntKind.wrap .i64 (n+(IntKind.wrap .i64 (((at' x.racks t9.toNat).e0)+((at' x.racks t9.toNat).e1)))))))
end
theorem dA (x:ai) {r:Int} (h:eT x=some r):Fn Try.prog 41 (abO x) [] (vI r) []:=by
 refine fN tT Try.func41 rfl rfl fun B=> ?_
 show bJ _ _ _ _ _ _ (rG r) _
 unfold eT at h
 refine sz tT ⟨[(1,(vP 5 0))],(afj x)⟩ {fr:=[(0,5)] } [] ?_
 refine sz tT ⟨[(1,(vP 5 0)),(3,(vI 0))],(afj x)⟩ {} [] ?_
 refine aQ (sz tT ⟨[(3,(vI 0)),(Rw x),(Rk x),(9,(vI 0))],[]⟩ {} [] ?_)
 refine bE h fun y hy h=> ?_
 refine aL [] (yA x) yw rG hy (fun s f h=> ?_) ?_
 ·clear hy
  show bJ _ _ _ _ _ _ ((FR x) f) _
  unfold iN at h
  obtain⟨n,t9⟩:=s
  refine sz tT ⟨[(3,(vI n)),(Rw x),(Rk x),(9,(vI t9)),(10,(vB (decide (t9<(x.racks.length:Int)))))],[]⟩ {} [] ?_
  refine aQ ?_
  refine bI h (fun hb h=> ?_) (fun hb h=> ?_)
  ·refine ct hb ?_
   refine aP (aQ (aB (aQ (aO h fun a1 h=> ?_))))
   refine rg tT ⟨[(3,(vI n)),(5,(aaN x t9)),(Rw x),(Rk x),(9,(vI t9))],[]⟩ [_] {fr:=[(2,9)] } [9] ⟨a1,trivial⟩ ?_
   refine rg tT ⟨[(abX x t9 n),(Rw x),(Rk x),(9,(vI t9))],[]⟩ [(0:Int)≤0∧(0:Int)<(2:Nat),(0:Int)≤1∧(1:Int)<(2:Nat)] {} [] ⟨((by decide)),((by decide)),trivial⟩ ?_
   refine rz tT ⟨[(abX x t9 n),(Rw x),(Rk x),(9,(k3 t9))],[]⟩ {} [] ?_
   obtain rfl:=oi h
   exact lN
  ·refine cf hb ?_
   refine aI (fz ⟨[(3,(vI n))],[]⟩ []) ?_
   refine aX ?_
   obtain rfl:=oi h
   exact lB
 ·clear hy
  cases y with
  |brk z=>
   obtain⟨n1,rfl⟩: ∃q,q=z:=⟨_,rfl⟩
   unfold gm
   refine⟨_, .refl, ?_⟩
   refine sz tT ⟨[(2,(vI n1))],[]⟩ {} [] ?_
   refine aR ?_
   obtain rfl:=oi h
   exact rl [(sI n1)]
  |ret v=>
   obtain rfl:=oi h
   unfold gm
   intro e st hn ha hR
   cases e with
   |normal=>exact absurd rfl hn
   |exit id=>exact hR
   |goto l=>exact hR
   |ret=>exact hR
   |panic c=>exact hR
   |outgrown=>exact hR
def wU  :(Bool × Int)→Exit→St→Prop:=
  fun r=>bB TT [.tmp 4, .tmp 5] (.iP [(sB r.1),(sI r.2)]) []
section
variable (r_:(ai × (List Bool) × Int)) (p:ah)
abbrev ZP:TV:=(vD (lT [(aK none 1 (au .i64) r_.1.sources),(aK none 1 (au .i64) r_.1.links),(aK none 2 af.cell r_.1.racks)] 0))
abbrev JQ:Nat × TV:=(6,(ZP r_))
abbrev Rs:Nat × TV:=(23,(vD (k6 p)))
abbrev R7:Nat × TV:=(24,(vI (p.racks.length:Int)))
end
def AY (p:ah) (r_:(ai × (List Bool) × Int)):(Int × Int)→St:=
  fun zz=>match zz with|(n,u0)=> ⟨[(JQ r_),(9,(vI n)),(Rs p),(R7 p),(25,(vI u0))],[]⟩
section
variable (r_:(ai × (List Bool) × Int)) (n1:Int)
abbrev ae0:St:=⟨[(JQ r_),(9,(vI n1))],[]⟩
end
def Az (r_:(ai × (List Bool) × Int)):Int→St:=
  fun n1=>(ae0 r_ n1)
def IG (p:ah) (r_:(ai × (List Bool) × Int)):(aM (Int × Int) (Ex Int (Bool × Int)))→Exit→St→Prop:=
  LQ 0 [] (AY p r_) (Az r_) wU
section
variable (p:ah) (r_:(ai × (List Bool) × Int)) (u0:Int)
abbrev aeA:Nat × Option Ob:=(12,some (Yr p))
abbrev V9:List (Nat × Option Ob):=[(aeA p)]
abbrev XY:List CV:=[(.d (aK none 1 (au .i64) r_.1.sources)),(.d (aK none 1 (au .i64) r_.1.links)),(.d (aK none 2 af.cell r_.1.racks))]
abbrev aeN:Ob:=(.cells 77 (XY r_))
abbrev ael:Nat × Option Ob:=(19,some (aeN r_))
abbrev G5:=((at' p.racks u0.toNat).feeds)
end
theorem IW (p:ah) (s_:State) {r:(Bool × Int)} (h:AR p s_=some r):Fn Try.prog 34 (k91 s_ p) [] (.iP [(sB r.1),(sI r.2)]) []:=by
 refine fN tT Try.func34 rfl rfl fun B=> ?_
 show bJ _ _ _ _ _ _ (wU r) _
 unfold AR at h
 refine sz tT ⟨[(2,(vP 12 0)),(lg s_)],(V9 p)⟩ {fr:=[(0,12),(1,13)] } [13] ?_
 refine aQ (bE h fun r_ hr_ h=> ?_)
 have q0:=rk [(0,14),(1,15),(2,16),(3,17),(4,18)] (nY p s_ hr_)
 refine ri tT ⟨[(2,(vP 12 0)),(6,(vP 19 0)),(8,(vI r_.2.2))],[(aeA p),(ael r_)]⟩ [_,r_.1.sources.length=r_.1.sources.length,r_.1.links.length=r_.1.links.length,r_.1.racks.length=r_.1.racks.length] {an:=[(2,cA q0 [])],fr:=[(7,19)] } [14,15,16] ⟨q0,rfl,rfl,rfl,trivial⟩ (fz ⟨[(2,(vP 12 0)),(JQ r_),(8,(vI r_.2.2))],(V9 p)⟩ [19]) ?_
 refine aQ (sz tT ⟨[(2,(vP 12 0)),(JQ r_),(8,(vI r_.2.2)),(20,(vB (!decide (r_.2.2=0))))],(V9 p)⟩ {} [] ?_)
 refine bI h (fun hb1 h=> ?_) (fun hb1 h=> ?_)
 ·refine ct hb1 ?_
  refine sz tT ⟨[(4,(vB false)),(5,(vI r_.2.2))],[]⟩ {} [] ?_
  refine aR ?_
  obtain rfl:=oi h
  exact rl [(sB false),(sI r_.2.2)]
 ·refine cf hb1 ?_
  refine aP (sz tT ⟨[(2,(vP 12 0)),(JQ r_),(9,(vI 0))],(V9 p)⟩ {} [] ?_)
  refine aQ (sz tT ⟨[(JQ r_),(9,(vI 0)),(Rs p),(R7 p),(25,(vI 0))],[]⟩ {} [] ?_)
  refine bE h fun y hy h=> ?_
  refine aL [] (AY p r_) (Az r_) wU hy (fun s f h=> ?_) ?_
  ·clear hy
   show bJ _ _ _ _ _ _ ((IG p r_) f) _
   unfold Aw at h
   obtain⟨n,u0⟩:=s
   refine sz tT ⟨[(JQ r_),(9,(vI n)),(Rs p),(R7 p),(25,(vI u0)),(26,(vB (decide (u0<(p.racks.length:Int)))))],[]⟩ {} [] ?_
   refine aQ ?_
   refine bI h (fun hb h=> ?_) (fun hb h=> ?_)
   ·refine ct hb ?_
    refine aP (aQ (aB (aQ (aO h fun a1 h=> ?_))))
    refine rg tT ⟨[(JQ r_),(9,(vI n)),(11,(vD (lT [(.int .i64 ((G5 p u0).e0)),(.int .i64 ((G5 p u0).e1)),(.int .i64 ((at' p.racks u0.toNat).power)),(.int .i64 ((at' p.racks u0.toNat).paths))] 0))),(Rs p),(R7 p),(25,(vI u0))],[]⟩ [_] {fr:=[(2,23)] } [23] ⟨a1,trivial⟩ ?_
    refine rz tT ⟨[(JQ r_),(9,(vI (IntKind.wrap .i64 (n+((at' p.racks u0.toNat).power))))),(Rs p),(R7 p),(25,(vI u0))],[]⟩ {} [] ?_
    refine rz tT ⟨[(JQ r_),(9,(vI (IntKind.wrap .i64 (n+((at' p.racks u0.toNat).power))))),(Rs p),(R7 p),(25,(k3 u0))],[]⟩ {} [] ?_
    obtain rfl:=oi h
    exact lN
   ·refine cf hb ?_
    refine aI (fz (ae0 r_ n) []) ?_
    refine aX ?_
    obtain rfl:=oi h
    exact lB
  ·clear hy
   cases y with
   |brk z=>
    obtain⟨n1,rfl⟩: ∃q,q=z:=⟨_,rfl⟩
    unfold gm
    refine⟨_, .refl, ?_⟩
    refine aQ (bE h fun u1 hr_1 h=> ?_)
    have q0:=dA r_.1 hr_1
    refine rg tT ⟨[(4,(vB (decide (u1=n1)))),(5,(vI 0))],[]⟩ [_] {an:=[(1,cA q0 [])] } [] ⟨q0,trivial⟩ ?_
    refine aR ?_
    obtain rfl:=oi h
    exact rl [(sB (decide (u1=n1))),(sI 0)]
   |ret v=>
    obtain rfl:=oi h
    unfold gm
    intro e st hn ha hR
    cases e with
    |normal=>exact absurd rfl hn
    |exit id=>exact hR
    |goto l=>exact hR
    |ret=>exact hR
    |panic c=>exact hR
    |outgrown=>exact hR
def oJ  :Bool→Exit→St→Prop:=
  fun r=>bB TT [.tmp 4] (vB r) []
section
variable (a:(List Part)) (b:(List Part))
abbrev OO:Nat × TV:=(0,(vD (aK none 2 Part.cell a)))
abbrev PU:Nat × TV:=(1,(vD (aK none 2 Part.cell b)))
end
def vw (a:(List Part)) (b:(List Part)):Int→St:=
  fun i=> ⟨[(OO a),(PU b),(5,(vI i))],[]⟩
def vo  :Unit→St:=
  fun _=> ⟨[],[]⟩
def Dg (a:(List Part)) (b:(List Part)):(aM Int (Ex Unit Bool))→Exit→St→Prop:=
  LQ 0 [] (vw a b) vo oJ
theorem tV (a:(List Part)) (b:(List Part)) {r:Bool} (h:nU a b=some r):Fn Try.prog 38 [(sD (aK none 2 Part.cell a)),(sD (aK none 2 Part.cell b))] [] (vB r) []:=by
 refine fN tT Try.func38 rfl rfl fun B=> ?_
 show bJ _ _ _ _ _ _ (oJ r) _
 unfold nU at h
 refine sz tT ⟨[(OO a),(PU b)],[]⟩ {} [] ?_
 refine aQ (sz tT ⟨[(OO a),(PU b),(10,(vB (!decide ((a.length:Int)=(b.length:Int)))))],[]⟩ {} [] ?_)
 refine bI h (fun hb2 h=> ?_) (fun hb2 h=> ?_)
 ·refine ct hb2 ?_
  refine sz tT ⟨[(4,(vB false))],[]⟩ {} [] ?_
  refine aR ?_
  obtain rfl:=oi h
  exact rl [(sB false)]
 ·refine cf hb2 ?_
  refine aP (aQ (sz tT ⟨[(OO a),(PU b),(5,(vI 0))],[]⟩ {} [] ?_))
  refine bE h fun y hy h=> ?_
  refine aL [] (vw a b) vo oJ hy (fun s f h=> ?_) ?_
  ·clear hy
   show bJ _ _ _ _ _ _ ((Dg a b) f) _
   unfold uH at h
   obtain⟨i,rfl⟩: ∃q,q=s:=⟨_,rfl⟩
   refine aQ (sz tT ⟨[(OO a),(PU b),(5,(vI i)),(14,(vB (decide (i<(a.length:Int)))))],[]⟩ {} [] ?_)
   refine bI h (fun hb1 h=> ?_) (fun hb1 h=> ?_)
   ·refine ct hb1 ?_
    refine aP (aQ (aB (aQ (aO h fun⟨a1,a2⟩ h=> ?_))))
    refine dg tT mX ⟨[(OO a),(PU b),(5,(vI i)),(25,(vB (!((decide (((at' a i.toNat).kind)=((at' b i.toNat).kind))) && ((decide (((at' a i.toNat).index)=((at' b i.toNat).index))) && true)))))],[]⟩ [_,_] {} [] ⟨a1,a2,trivial⟩ ?_
    refine bI h (fun hb h=> ?_) (fun hb h=> ?_)
    ·refine ct hb ?_
     refine sz tT ⟨[(4,(vB false))],[]⟩ {} [] ?_
     refine aR ?_
     obtain rfl:=oi h
     exact lR dX (dZ 0) dY (bB.mk (.inr rfl) (p:=[]) (l:=[(sB false)]) (by kernel_rfl) trivial (eH.refl _) trivial)
    ·refine cf hb ?_
     refine aP (rz tT ⟨[(OO a),(PU b),(k2 i)],[]⟩ {} [] ?_)
     obtain rfl:=oi h
     exact lN
   ·refine cf hb1 ?_
    refine aI (fz ⟨[],[]⟩ []) ?_
    refine aX ?_
    obtain rfl:=oi h
    exact lB
  ·clear hy
   cases y with
   |brk z=>
    unfold gm
    refine⟨_, .refl, ?_⟩
    refine sz tT ⟨[(4,(vB true))],[]⟩ {} [] ?_
    refine aR ?_
    obtain rfl:=oi h
    exact rl [(sB true)]
   |ret v=>
    obtain rfl:=oi h
    unfold gm
    intro e st hn ha hR
    cases e with
    |normal=>exact absurd rfl hn
    |exit id=>exact hR
    |goto l=>exact hR
    |ret=>exact hR
    |panic c=>exact hR
    |outgrown=>exact hR
noncomputable def dL:nR:=⟨[45,46],Gs ([1,1,1,1,1,0,1,0]++[0]) (mY Try.f45),Gs ([1,1,1,1,1,0,1,0]++[1]) (mY Try.f45),51,[]⟩
abbrev RF:Nat × Option Ob:=(0,some (.loop dL 0 [(11,(vP 1 0))]))
def zu  :Int→Exit→St→Prop:=
  fun r=>nk 0 dL (vB true) [RF,(1,some (.cells 3 [(cI r)]))]
section
variable (u1:Int)
abbrev kz:List (Nat × Option Ob):=[RF,(1,some (.cells 3 [(cI u1)]))]
end
theorem jH (u2:Int) (u3:Int) (u0:Int) (u1:Int) {r:Int} (h:cO u2 u3 u0 u1=some r):Yl Try.prog 0 [(.agg [(cI u2),(cI u3)]),(sI u0)] (kz u1) (vB true) [RF,(1,some (.cells 3 [(cI r)]))]:=by
 refine EL (r:=dL) (sl:=[(11,(vP 1 0))]) (sl1:=[(11,(vP 1 0)),(13,(vI u0))]) (h1:=(kz u1)) (sl2:=[(11,(vP 1 0))]) (by kernel_rfl) rfl rfl (by kernel_rfl) (fun rd B=> ?_) (by kernel_rfl) (fun rd B=> ?_)
 ·refine qY (c:=Gs ([1,1,1,1,1,0,1,0]++[0]) (mY Try.f45)) rfl ?_
  refine oo (st:=⟨[(45,(.v (.agg [(cI u2),(cI u3)]))),(46,(vI u0)),(11,(vP 1 0))],(kz u1)⟩) (by kernel_rfl) ?_
  refine rz tT ⟨[(11,(vP 1 0)),(13,(vI u0))],(kz u1)⟩ {} [] ?_
  exact⟨rfl,rfl⟩
 ·refine qY (c:=Gs ([1,1,1,1,1,0,1,0]++[1]) (mY Try.f45)) rfl ?_
  refine oo (st:=⟨[(11,(vP 1 0)),(13,(vI u0))],[(0,some (.loop dL 1 [(11,(vP 1 0))])),(1,some (.cells 3 [(cI u1)]))]⟩) (by kernel_rfl) ?_
  show bJ _ _ _ _ _ _ (zu r) _
  unfold cO at h
  refine aB (rz tT ⟨[],[(0,some (.loop dL 1 [(11,(vP 1 0))])),(1,some (.cells 3 [(cI (IntKind.wrap .i64 (u1+u0)))]))]⟩ {} [] ?_)
  obtain rfl:=oi h
  exact nk.on (sl:=[(11,(vP 1 0))]) (by kernel_rfl) (zf (by kernel_rfl)) (eH.refl _)
def dF  :Int→Exit→St→Prop:=
  fun r=>bB TT [] (.iP []) [RF,(1,some (.cells 3 [(cI r)]))]
def oV (x1:Int) (u0:(List Source)) (u1:(List Link)) (u2:(List ay)) (x2:(List Bool)) (u3:(List Bool)) (u4:(List Bool)) (u5:(List Bool)) (u6:(List Bool)) (u7:(List Bool)) (u8:(List Bool)) (x3:(List Bool)) (v1:Int):(Int × Int)→St:=
  fun zz=>match zz with|(u9,v0)=> ⟨(acZ x2 u3 u4 u5 u6 u7 u8 x3 u0 x1 u1 u2 v0),(kz u9)⟩
section
variable (x1:Int) (u0:(List Source)) (u1:(List Link)) (u2:(List ay)) (x2:(List Bool)) (u3:(List Bool)) (u4:(List Bool)) (u5:(List Bool)) (u6:(List Bool)) (u7:(List Bool)) (u8:(List Bool)) (x3:(List Bool)) (u9:Int)
abbrev aeF:St:=⟨(afQ x1 u0 u1 u2 x2 u3 u4 u5 u6 u7 u8 x3),(kz u9)⟩
end
def o7 (x1:Int) (u0:(List Source)) (u1:(List Link)) (u2:(List ay)) (x2:(List Bool)) (u3:(List Bool)) (u4:(List Bool)) (u5:(List Bool)) (u6:(List Bool)) (u7:(List Bool)) (u8:(List Bool)) (x3:(List Bool)) (v0:Int):Int→St:=
  fun u9=>(aeF x1 u0 u1 u2 x2 u3 u4 u5 u6 u7 u8 x3 u9)
def yG (x1:Int) (u0:(List Source)) (u1:(List Link)) (u2:(List ay)) (x2:(List Bool)) (u3:(List Bool)) (u4:(List Bool)) (u5:(List Bool)) (u6:(List Bool)) (u7:(List Bool)) (u8:(List Bool)) (x3:(List Bool)) (u9:Int):(aM (Int × Int) (Ex Int Int))→Exit→St→Prop:=
  LQ 0 [] (oV x1 u0 u1 u2 x2 u3 u4 u5 u6 u7 u8 x3 u9) (o7 x1 u0 u1 u2 x2 u3 u4 u5 u6 u7 u8 x3 u9) dF
def pq (x1:Int) (u1:(List Source)) (u0:(List Link)) (u2:(List ay)) (x2:(List Bool)) (u3:(List Bool)) (u4:(List Bool)) (u5:(List Bool)) (u6:(List Bool)) (u7:(List Bool)) (u8:(List Bool)) (x3:(List Bool)) (v1:Int):(Int × Int)→St:=
  fun zz=>match zz with|(u9,v0)=> ⟨(af5 u0 x1 u1 u2 x2 u3 u4 u5 u6 u7 u8 x3 v0),(kz u9)⟩
section
variable (x1:Int) (u0:(List Source)) (u1:(List Link)) (u2:(List ay)) (x3:(List Bool)) (u3:Int)
abbrev af3:St:=⟨(afY x1 u0 u1 u2 x3),(kz u3)⟩
end
def oU (x1:Int) (u0:(List Source)) (u1:(List Link)) (u2:(List ay)) (x3:(List Bool)) (u4:Int):Int→St:=
  fun u3=>(af3 x1 u0 u1 u2 x3 u3)
def zo (x1:Int) (u0:(List Source)) (u1:(List Link)) (u2:(List ay)) (x2:(List Bool)) (u4:(List Bool)) (u5:(List Bool)) (u6:(List Bool)) (u7:(List Bool)) (u8:(List Bool)) (u9:(List Bool)) (x3:(List Bool)) (u3:Int):(aM (Int × Int) (Ex Int Int))→Exit→St→Prop:=
  LQ 2 [] (pq x1 u0 u1 u2 x2 u4 u5 u6 u7 u8 u9 x3 u3) (oU x1 u0 u1 u2 x3 u3) dF
def oZ (u0:(List ay)) (x3:(List Bool)):(Int × Int)→St:=
  fun zz=>match zz with|(u1,u2)=> ⟨(afc u0 x3 u2),(kz u1)⟩
def o8  :Int→St:=
  fun o1105=> ⟨[],[RF,(1,some (.cells 3 [(cI o1105)]))]⟩
def yR (u0:(List ay)) (x3:(List Bool)):(aM (Int × Int) (Ex Int Int))→Exit→St→Prop:=
  LQ 4 [] (oZ u0 x3) o8 dF
section
variable (x1:Int) (u1:(List Source)) (u0:(List Link)) (u2:(List ay)) (x2:(List Bool)) (u7:(List Bool)) (u8:(List Bool)) (u9:(List Bool)) (v0:(List Bool)) (v1:(List Bool)) (v2:(List Bool)) (x3:(List Bool)) (u4:Int) (r_:Bool) (v8:Int) (u3:Int) (u5:Bool) (v9:Int) (u6:Int) (v3:Bool) (w0:Int)
abbrev afx:St:=⟨(YM x1 u1 u0 u2 x2 u7 u8 u9 v0 v1 v2 x3 u4 r_),(kz v8)⟩
abbrev ad5:St:=⟨(aao x1 u1 u0 u2 x2 u7 u8 u9 v0 v1 v2 x3 u4),(kz v8)⟩
abbrev ab9:St:=⟨(ZF x1 u1 u0 u2 x2 u7 u8 u9 v0 v1 v2 x3 u4),(kz v8)⟩
abbrev adG:St:=⟨(YF x1 u1 u0 u2 x2 u7 u8 u9 v0 v1 v2 x3 u3 u5),(kz v9)⟩
abbrev acv:St:=⟨(YL x1 u1 u0 u2 x2 u7 u8 u9 v0 v1 v2 x3 u3),(kz v9)⟩
abbrev acW:St:=⟨(YD x1 u1 u0 u2 x2 u7 u8 u9 v0 v1 v2 x3 u3),(kz v9)⟩
abbrev ae6:St:=⟨(abg u2 x3 u6 v3),(kz w0)⟩
abbrev agG:St:=⟨(Y7 u2 x3 u6),(kz w0)⟩
abbrev aeE:St:=⟨(aa0 u2 x3 u6),(kz w0)⟩
end
theorem yM (x1:Int) (u1:(List Source)) (u0:(List Link)) (u2:(List ay)) (x2:(List Bool)) (u7:(List Bool)) (u8:(List Bool)) (u9:(List Bool)) (v0:(List Bool)) (v1:(List Bool)) (v2:(List Bool)) (x3:(List Bool)) (v4:Int) {r:Int} (h:iE x1 u1 u0 u2 x2 u7 u8 u9 v0 v1 v2 x3 v4=some r):Fn Try.prog 124 (afn x1 u1 u0 u2 x2 u7 u8 u9 v0 v1 v2 x3) (kz v4) (.iP []) [RF,(1,some (.cells 3 [(cI r)]))]:=by
 refine fN tT Try.func124 rfl rfl fun B=> ?_
 show bJ _ _ _ _ _ _ (dF r) _
 unfold iE at h
 refine aQ (sz tT ⟨(X5 x1 u1 u0 u2 x2 u7 u8 u9 v0 v1 v2 x3),(kz v4)⟩ {} [] ?_)
 refine bE h fun y hy h=> ?_
 refine aL [] (oV x1 u1 u0 u2 x2 u7 u8 u9 v0 v1 v2 x3 v4) (o7 x1 u1 u0 u2 x2 u7 u8 u9 v0 v1 v2 x3 v4) dF hy (fun s f h=> ?_) ?_
 ·clear hy
  show bJ _ _ _ _ _ _ ((yG x1 u1 u0 u2 x2 u7 u8 u9 v0 v1 v2 x3 v4) f) _
  unfold iM at h
  obtain⟨v6,u4⟩:=s
  refine sz tT ⟨(aeK x1 u1 u0 u2 x2 u7 u8 u9 v0 v1 v2 x3 u4),(kz v6)⟩ {} [] ?_
  refine aQ ?_
  refine bI h (fun hb1 h=> ?_) (fun hb1 h=> ?_)
  ·refine ct hb1 ?_
   refine aP (aQ (aB (aQ (aO h fun a1 h=> ?_))))
   refine rg tT ⟨(adi x1 u1 u0 u2 x2 u7 u8 u9 v0 v1 v2 x3 u4),(kz v6)⟩ [_] {fr:=[(3,17)] } [17] ⟨a1,trivial⟩ ?_
   refine aQ (bE h fun r_ hr_ h=> ?_)
   refine bI h (fun hb h=> ?_) (fun hb h=> ?_)
   ·skip
    refine bE h fun v8 hr_1 h=> ?_
    refine aO h fun a1 h=> ?_
    have q0:=fZ (⟨x1,u1,u0,u2⟩:ah) (⟨x2,u7,u8,u9,v0,v1,v2⟩:State) u4 hr_
    refine ri tT (afx x1 u1 u0 u2 x2 u7 u8 u9 v0 v1 v2 x3 u4 r_ v8) (_::(eqs r_ 4 ((aec u1 x3 u4 r_)::(eqs r_ 3 [(rC u1 x3 u4 r_)=true,(rC u1 x3 u4 r_)=true,(rC u1 x3 u4 r_)=true,(rC u1 x3 u4 r_)=true,(rC u1 x3 u4 r_)=true,(rC u1 x3 u4 r_)=true,gP (jl [(4,r_),(12,true)]) [(12,true)]→All [Yl Try.prog 0 [(.agg [(cI 2),(cI u4)]),(sI ((at' u1 u4.toNat).power))] (kz v6) (vB true) (kz v8)],gP (jl [(4,r_),(12,true)]) [(12,true)],(rC u1 x3 u4 r_)=true,(rC u1 x3 u4 r_)=true])))) {yb:=[(4,r_),(12,true)],an:=[(3,cA q0 []),(18, .call [0,1] (vB true) (kz v8))] } [] ⟨q0,(ae ⟨(fun hg=> ⟨(a1 (aZ hg)),trivial⟩),(ae ⟨(hb),(hb),(hb),(hb),(hb),(hb),(fun hg=> ⟨(jH 2 u4 ((at' u1 u4.toNat).power) v6 hr_1),trivial⟩),(⟨rfl,trivial⟩),(hb),(hb),trivial⟩)⟩)⟩ (bM.le (st':=(ad5 x1 u1 u0 u2 x2 u7 u8 u9 v0 v1 v2 x3 u4 v8)) ⟨⟨tR,tR,tR,tR,tR,tR,tR,⟨_,rfl,eH.v (eO.one (dO.of (congrArg (fun b=>CV.d (.bool b)) (BF hb))))⟩,trivial⟩,(.refl _)⟩) ?_
    refine cn (aP (rz tT (ab9 x1 u1 u0 u2 x2 u7 u8 u9 v0 v1 v2 x3 u4 v8) {} [] ?_))
    obtain rfl:=oi h
    exact lN
   ·skip
    refine aO h fun a1 h=> ?_
    have q0:=fZ (⟨x1,u1,u0,u2⟩:ah) (⟨x2,u7,u8,u9,v0,v1,v2⟩:State) u4 hr_
    refine ri tT (afx x1 u1 u0 u2 x2 u7 u8 u9 v0 v1 v2 x3 u4 r_ v6) (_::(acQ u1 x3 u4 r_)) {yb:=[(4,r_),(12,false)],an:=[(3,cA q0 []),(13, .skip),(14, .skip),(15, .skip),(16, .skip),(17, .skip),(18, .skip),(19, .skip)] } [] ⟨q0,(ae ⟨(fun hg=> ⟨(a1 (aZ hg)),trivial⟩),(ae ⟨(hb),((fun h=>Bool.noConfusion (show false=true from h.1))),(hb),((fun h=>Bool.noConfusion (show false=true from h.1))),(hb),((fun h=>Bool.noConfusion (show false=true from h.1))),(hb),((fun h=>Bool.noConfusion (show false=true from h.1))),(hb),((fun h=>Bool.noConfusion (show false=true from h.1))),(hb),((fun h=>Bool.noConfusion (show false=true from h.1))),(hb),((fun h=>Bool.noConfusion (show false=true from h.1))),(hb),trivial⟩)⟩)⟩ (bM.le (st':=(ad5 x1 u1 u0 u2 x2 u7 u8 u9 v0 v1 v2 x3 u4 v6)) ⟨⟨tR,tR,tR,tR,tR,tR,tR,⟨_,rfl,eH.v (eO.one (dO.of (congrArg (fun b=>CV.d (.bool b)) (Cg hb))))⟩,trivial⟩,(.refl _)⟩) ?_
    refine cn (aP (rz tT (ab9 x1 u1 u0 u2 x2 u7 u8 u9 v0 v1 v2 x3 u4 v6) {} [] ?_))
    obtain rfl:=oi h
    exact lN
  ·refine cf hb1 ?_
   refine aI (fz (aeF x1 u1 u0 u2 x2 u7 u8 u9 v0 v1 v2 x3 v6) []) ?_
   refine aX ?_
   obtain rfl:=oi h
   exact lB
 ·clear hy
  cases y with
  |brk z=>
   obtain⟨w1,rfl⟩: ∃q,q=z:=⟨_,rfl⟩
   unfold gm
   refine⟨_, .refl, ?_⟩
   refine aQ (sz tT ⟨(abW x1 u1 u0 u2 x2 u7 u8 u9 v0 v1 v2 x3),(kz w1)⟩ {} [] ?_)
   refine bE h fun y1 hy h=> ?_
   refine aL [] (pq x1 u1 u0 u2 x2 u7 u8 u9 v0 v1 v2 x3 v4) (oU x1 u1 u0 u2 x3 v4) dF hy (fun s f h=> ?_) ?_
   ·clear hy
    show bJ _ _ _ _ _ _ ((zo x1 u1 u0 u2 x2 u7 u8 u9 v0 v1 v2 x3 v4) f) _
    unfold iH at h
    obtain⟨v7,u3⟩:=s
    refine sz tT ⟨(aeh x1 u1 u0 u2 x2 u7 u8 u9 v0 v1 v2 x3 u3),(kz v7)⟩ {} [] ?_
    refine aQ ?_
    refine bI h (fun hb3 h=> ?_) (fun hb3 h=> ?_)
    ·refine ct hb3 ?_
     refine aP (aQ (aB (aQ (aO h fun a1 h=> ?_))))
     refine rg tT ⟨(aee x1 u1 u0 u2 x2 u7 u8 u9 v0 v1 v2 x3 u3),(kz v7)⟩ [_] {fr:=[(3,21)] } [21] ⟨a1,trivial⟩ ?_
     refine aQ (bE h fun u5 hr_2 h=> ?_)
     refine bI h (fun hb2 h=> ?_) (fun hb2 h=> ?_)
     ·skip
      refine bE h fun v9 hr_3 h=> ?_
      refine aO h fun⟨a1,a2⟩ h=> ?_
      have q0:=dK (⟨x1,u1,u0,u2⟩:ah) (⟨x2,u7,u8,u9,v0,v1,v2⟩:State) u3 hr_2
      refine di tT mX (adG x1 u1 u0 u2 x2 u7 u8 u9 v0 v1 v2 x3 u3 u5 v9) (_::(eqs u5 4 ((ae8 u0 x3 u3 u5)::(eqs u5 5 ((adp u0 x3 u3 u5)::(eqs u5 3 [(rD u0 x3 u3 u5)=true,(rD u0 x3 u3 u5)=true,(rD u0 x3 u3 u5)=true,(rD u0 x3 u3 u5)=true,(rD u0 x3 u3 u5)=true,(rD u0 x3 u3 u5)=true,gP (QL u5) [(17,true)]→All [Yl Try.prog 0 [(.agg [(cI 3),(cI u3)]),(sI ((at' u0 u3.toNat).most))] (kz v7) (vB true) (kz v9)],gP (QL u5) [(17,true)],(rD u0 x3 u3 u5)=true,(rD u0 x3 u3 u5)=true])))))) {yb:=[(4,u5),(17,true)],an:=[(3,cA q0 []),(23, .call [0,1] (vB true) (kz v9))] } [] ⟨q0,(ae ⟨(fun hg=> ⟨(a1 (aZ hg)),trivial⟩),(ae ⟨(fun hg=> ⟨(a2 (aZ hg)),trivial⟩),(ae ⟨(hb2),(hb2),(hb2),(hb2),(hb2),(hb2),(fun hg=> ⟨(jH 3 u3 ((at' u0 u3.toNat).most) v7 hr_3),trivial⟩),(⟨rfl,trivial⟩),(hb2),(hb2),trivial⟩)⟩)⟩)⟩ (bM.le (st':=(acv x1 u1 u0 u2 x2 u7 u8 u9 v0 v1 v2 x3 u3 v9)) ⟨⟨tR,tR,tR,tR,tR,tR,tR,⟨_,rfl,eH.v (eO.one (dO.of (congrArg (fun b=>CV.d (.bool b)) (BF hb2))))⟩,trivial⟩,(.refl _)⟩) ?_
      refine cn (aP (rz tT (acW x1 u1 u0 u2 x2 u7 u8 u9 v0 v1 v2 x3 u3 v9) {} [] ?_))
      obtain rfl:=oi h
      exact lN
     ·skip
      refine aO h fun⟨a1,a2⟩ h=> ?_
      have q0:=dK (⟨x1,u1,u0,u2⟩:ah) (⟨x2,u7,u8,u9,v0,v1,v2⟩:State) u3 hr_2
      refine di tT mX (adG x1 u1 u0 u2 x2 u7 u8 u9 v0 v1 v2 x3 u3 u5 v7) (_::(adP u0 x3 u3 u5)) {yb:=[(4,u5),(17,false)],an:=[(3,cA q0 []),(18, .skip),(19, .skip),(20, .skip),(21, .skip),(22, .skip),(23, .skip),(24, .skip)] } [] ⟨q0,(ae ⟨(fun hg=> ⟨(a1 (aZ hg)),trivial⟩),(ae ⟨(fun hg=> ⟨(a2 (aZ hg)),trivial⟩),(ae ⟨(hb2),((fun h=>Bool.noConfusion (show false=true from h.1))),(hb2),((fun h=>Bool.noConfusion (show false=true from h.1))),(hb2),((fun h=>Bool.noConfusion (show false=true from h.1))),(hb2),((fun h=>Bool.noConfusion (show false=true from h.1))),(hb2),((fun h=>Bool.noConfusion (show false=true from h.1))),(hb2),((fun h=>Bool.noConfusion (show false=true from h.1))),(hb2),((fun h=>Bool.noConfusion (show false=true from h.1))),(hb2),trivial⟩)⟩)⟩)⟩ (bM.le (st':=(acv x1 u1 u0 u2 x2 u7 u8 u9 v0 v1 v2 x3 u3 v7)) ⟨⟨tR,tR,tR,tR,tR,tR,tR,⟨_,rfl,eH.v (eO.one (dO.of (congrArg (fun b=>CV.d (.bool b)) (Cg hb2))))⟩,trivial⟩,(.refl _)⟩) ?_
      refine cn (aP (rz tT (acW x1 u1 u0 u2 x2 u7 u8 u9 v0 v1 v2 x3 u3 v7) {} [] ?_))
      obtain rfl:=oi h
      exact lN
    ·refine cf hb3 ?_
     refine aI (fz (af3 x1 u1 u0 u2 x3 v7) []) ?_
     refine aX ?_
     obtain rfl:=oi h
     exact lB
   ·clear hy
    cases y1 with
    |brk z=>
     obtain⟨w2,rfl⟩: ∃q,q=z:=⟨_,rfl⟩
     unfold gm
     refine⟨_, .refl, ?_⟩
     refine sz tT ⟨(afi u2 x3),(kz w2)⟩ {} [] ?_
     refine bE h fun y2 hy h=> ?_
     refine aL [] (oZ u2 x3) o8 dF hy (fun s f h=> ?_) ?_
     ·clear hy
      show bJ _ _ _ _ _ _ ((yR u2 x3) f) _
      unfold iJ at h
      obtain⟨v5,u6⟩:=s
      refine sz tT ⟨(afJ u2 x3 u6),(kz v5)⟩ {} [] ?_
      refine aQ ?_
      refine bI h (fun hb5 h=> ?_) (fun hb5 h=> ?_)
      ·refine ct hb5 ?_
       refine aP (aQ (aB (aQ (aO h fun a1 h=> ?_))))
       refine rg tT ⟨(ac0 u2 x3 u6),(kz v5)⟩ [_] {fr:=[(3,25)] } [25] ⟨a1,trivial⟩ ?_
       refine aQ (bE h fun v3 hr_4 h=> ?_)
       refine rg tT ⟨(ad3 u2 x3 u6 v3),(kz v5)⟩ [Fn Try.prog 67 [(sD (.sl (some true) 1 [(JK u2 u6).e0,(JK u2 u6).e1].length (fun i j=>((Zv u2 u6).getD (0+(0+(i*1+j))) .nilp)))),(sD (.fn 125 1 (Ry x3)))] [] (vB v3) []] {an:=[(3, .call [] (vB v3) [])] } [] ⟨(Fn.leH (args:=(agP u2 x3 u6)) (hin:=[]) (j5 [(JK u2 u6).e0,(JK u2 u6).e1] x3 hr_4) ⟨eO.one (dO.d (gV.sl (.inl rfl) (by intro i hi j hj;match i,j,hi,hj with|0,0,_,_=>exact .refl _|1,0,_,_=>exact .refl _))),eO.refl _,trivial⟩ trivial),trivial⟩ ?_
       refine aQ ?_
       refine bI h (fun hb4 h=> ?_) (fun hb4 h=> ?_)
       ·skip
        refine bE h fun w0 hr_5 h=> ?_
        refine ri tT (ae6 u2 x3 u6 v3 w0) [v3=true,v3=true,v3=true,v3=true,v3=true,v3=true,gP (jl [(1,true)]) [(1,true)]→All [Yl Try.prog 0 [(.agg [(cI 0),(cI u6)]),(sI ((at' u2 u6.toNat).power))] (kz v5) (vB true) (kz w0)],gP (jl [(1,true)]) [(1,true)],v3=true,v3=true] {yb:=[(1,true)],an:=[(7, .call [0,1] (vB true) (kz w0))] } [] ⟨(hb4),(hb4),(hb4),(hb4),(hb4),(hb4),(fun hg=> ⟨(jH 0 u6 ((at' u2 u6.toNat).power) v5 hr_5),trivial⟩),(⟨rfl,trivial⟩),(hb4),(hb4),trivial⟩ (bM.le (st':=(agG u2 x3 u6 w0)) ⟨⟨tR,tR,tR,tR,tR,⟨_,rfl,eH.v (eO.one (dO.of (congrArg (fun b=>CV.d (.bool b)) (BF hb4))))⟩,trivial⟩,(.refl _)⟩) ?_
        refine cn (aP (rz tT (aeE u2 x3 u6 w0) {} [] ?_))
        obtain rfl:=oi h
        exact lN
       ·skip
        refine ri tT (ae6 u2 x3 u6 v3 v5) [v3=false, ¬ gP (jl [(1,false)]) [(1,true)],v3=false, ¬ gP (jl [(1,false)]) [(1,true)],v3=false, ¬ gP (jl [(1,false)]) [(1,true)],v3=false, ¬ gP (jl [(1,false)]) [(1,true)],v3=false, ¬ gP (jl [(1,false)]) [(1,true)],v3=false, ¬ gP (jl [(1,false)]) [(1,true)],v3=false, ¬ gP (jl [(1,false)]) [(1,true)],v3=false] {yb:=[(1,false)],an:=[(2, .skip),(3, .skip),(4, .skip),(5, .skip),(6, .skip),(7, .skip),(8, .skip)] } [] ⟨(hb4),((fun h=>Bool.noConfusion (show false=true from h.1))),(hb4),((fun h=>Bool.noConfusion (show false=true from h.1))),(hb4),((fun h=>Bool.noConfusion (show false=true from h.1))),(hb4),((fun h=>Bool.noConfusion (show false=true from h.1))),(hb4),((fun h=>Bool.noConfusion (show false=true from h.1))),(hb4),((fun h=>Bool.noConfusion (show false=true from h.1))),(hb4),((fun h=>Bool.noConfusion (show false=true from h.1))),(hb4),trivial⟩ (bM.le (st':=(agG u2 x3 u6 v5)) ⟨⟨tR,tR,tR,tR,tR,⟨_,rfl,eH.v (eO.one (dO.of (congrArg (fun b=>CV.d (.bool b)) (Cg hb4))))⟩,trivial⟩,(.refl _)⟩) ?_
        refine cn (aP (rz tT (aeE u2 x3 u6 v5) {} [] ?_))
        obtain rfl:=oi h
        exact lN
      ·refine cf hb5 ?_
       refine aI (fz ⟨[],(kz v5)⟩ []) ?_
       refine aX ?_
       obtain rfl:=oi h
       exact lB
     ·clear hy
      cases y2 with
      |brk z=>
       obtain⟨o1105,rfl⟩: ∃q,q=z:=⟨_,rfl⟩
       unfold gm
       refine⟨_, .refl, ?_⟩
       obtain rfl:=oi h
       exact bB.mk (.inl rfl) (p:=[]) (l:=[]) (by kernel_rfl) trivial (eH.refl _) (.refl _)
      |ret v=>
       obtain rfl:=oi h
       unfold gm
       intro e st hn ha hR
       cases e with
       |normal=>exact absurd rfl hn
       |exit id=>exact hR
       |goto l=>exact hR
       |ret=>exact hR
       |panic c=>exact hR
       |outgrown=>exact hR
    |ret v=>
     obtain rfl:=oi h
     unfold gm
     intro e st hn ha hR
     cases e with
     |normal=>exact absurd rfl hn
     |exit id=>exact hR
     |goto l=>exact hR
     |ret=>exact hR
     |panic c=>exact hR
     |outgrown=>exact hR
  |ret v=>
   obtain rfl:=oi h
   unfold gm
   intro e st hn ha hR
   cases e with
   |normal=>exact absurd rfl hn
   |exit id=>exact hR
   |goto l=>exact hR
   |ret=>exact hR
   |panic c=>exact hR
   |outgrown=>exact hR
def oG  :(Int × Int)→Exit→St→Prop:=
  fun r=>bB TT [.tmp 6, .tmp 7] (.iP [(sI r.1),(sI r.2)]) []
section
variable (u0:(List Bool))
abbrev IV:Nat × TV:=(2,(vD (aK none 1 aj u0)))
abbrev SB:Nat × TV:=(25,(vD (aK none 1 aj u0)))
abbrev Ra:Nat × TV:=(26,(vI (u0.length:Int)))
end
def uL (p:ah) (s_:State) (u0:(List Bool)):Int→St:=
  fun u1=> ⟨[(IV u0),(bn p),(aV s_),(SB u0),(Ra u0),(27,(vI u1))],[]⟩
section
variable (u0:(List Bool)) (p:ah) (s_:State)
abbrev aaL:St:=⟨[(IV u0),(bn p),(aV s_)],[]⟩
end
def vC (p:ah) (s_:State) (u0:(List Bool)):Unit→St:=
  fun _=>(aaL u0 p s_)
def C8 (p:ah) (s_:State) (u0:(List Bool)):(aM Int (Ex Unit (Int × Int)))→Exit→St→Prop:=
  LQ 0 [] (uL p s_ u0) (vC p s_ u0) oG
section
variable (u0:(Int × (List Source) × (List Link) × (List ay) × (List Bool) × (List Bool) × (List Bool) × (List Bool) × (List Bool) × (List Bool) × (List Bool) × (List Bool)))
abbrev ab2:List (Nat × TV):=[(11,(vP 6 0)),(44,(Ws u0))]
end
theorem og (p:ah) (s_:State) (u1:(List Bool)) {r:(Int × Int)} (h:iy p s_ u1=some r):Fn Try.prog 45 (ad9 p s_ u1) [] (.iP [(sI r.1),(sI r.2)]) []:=by
 refine fN tT Try.func45 rfl rfl fun B=> ?_
 show bJ _ _ _ _ _ _ (oG r) _
 unfold iy at h
 refine sz tT (aaL u1 p s_) {fr:=[(0,4),(1,5)] } [4,5] ?_
 refine aQ (aQ (bE h fun r_ hr_ h=> ?_))
 have q0:=eG p s_ hr_
 refine rg tT ⟨[(IV u1),(bn p),(aV s_),(8,(vI r_))],[]⟩ [_] {an:=[(2,cA q0 [])] } [] ⟨q0,trivial⟩ ?_
 refine sz tT ⟨[(IV u1),(bn p),(aV s_),(8,(vI r_)),(18,(vB (!decide (r_=0))))],[]⟩ {} [] ?_
 refine bI h (fun hb3 h=> ?_) (fun hb3 h=> ?_)
 ·refine ct hb3 ?_
  refine sz tT ⟨[(6,(vI 0)),(7,(vI r_))],[]⟩ {} [] ?_
  refine aR ?_
  obtain rfl:=oi h
  exact rl [(sI 0),(sI r_)]
 ·refine cf hb3 ?_
  refine aP (aQ (sz tT ⟨[(IV u1),(bn p),(aV s_),(24,(vB (!decide ((u1.length:Int)=p.buses))))],[]⟩ {} [] ?_))
  refine bI h (fun hb2 h=> ?_) (fun hb2 h=> ?_)
  ·refine ct hb2 ?_
   refine sz tT ⟨[(6,(vI 0)),(7,(vI 1))],[]⟩ {} [] ?_
   refine aR ?_
   obtain rfl:=oi h
   exact rl [(sI 0),(sI 1)]
  ·refine cf hb2 ?_
   refine aP (aQ (sz tT ⟨[(IV u1),(bn p),(aV s_),(SB u1),(Ra u1),(27,(vI 0))],[]⟩ {} [] ?_))
   refine bE h fun y hy h=> ?_
   refine aL [] (uL p s_ u1) (vC p s_ u1) oG hy (fun s f h=> ?_) ?_
   ·clear hy
    show bJ _ _ _ _ _ _ ((C8 p s_ u1) f) _
    unfold kE at h
    obtain⟨u2,rfl⟩: ∃q,q=s:=⟨_,rfl⟩
    refine sz tT ⟨[(IV u1),(bn p),(aV s_),(SB u1),(Ra u1),(27,(vI u2)),(28,(vB (decide (u2<(u1.length:Int)))))],[]⟩ {} [] ?_
    refine aQ ?_
    refine bI h (fun hb1 h=> ?_) (fun hb1 h=> ?_)
    ·refine ct hb1 ?_
     refine aP (aQ (aB (aQ (aO h fun a1 h=> ?_))))
     refine rg tT ⟨[(IV u1),(bn p),(aV s_),(9,(vI u2)),(10,(vB (at' u1 u2.toNat))),(SB u1),(Ra u1),(27,(vI u2))],[]⟩ [_] {} [] ⟨a1,trivial⟩ ?_
     refine aQ (aO h fun a1 h=> ?_)
     refine rg tT ⟨[(IV u1),(bn p),(aV s_),(SB u1),(Ra u1),(27,(vI u2)),(39,(vB (bif (at' u1 u2.toNat)then(at' s_.badBus u2.toNat)else false)))],[]⟩ (eqs (at' u1 u2.toNat) 4 ((gP (jl [(1,(at' u1 u2.toNat))]) [(1,true)]→All [(0:Int)≤u2∧u2<(s_.badBus.length:Int)])::(eqs (at' u1 u2.toNat) 2 []))) {yb:=[(1,(at' u1 u2.toNat))] } [] (ae ⟨(fun hg=> ⟨(a1 (aZ hg)),trivial⟩),(ae trivial)⟩) ?_
     refine bI h (fun hb h=> ?_) (fun hb h=> ?_)
     ·refine ct hb ?_
      refine sz tT ⟨[(6,(vI 0)),(7,(vI 1))],[]⟩ {} [] ?_
      refine aR ?_
      obtain rfl:=oi h
      exact lR dX (dZ 0) dY (bB.mk (.inr rfl) (p:=[]) (l:=[(sI 0),(sI 1)]) (by kernel_rfl) trivial (eH.refl _) trivial)
     ·refine cf hb ?_
      refine aP (rz tT ⟨[(IV u1),(bn p),(aV s_),(SB u1),(Ra u1),(27,(k3 u2))],[]⟩ {} [] ?_)
      obtain rfl:=oi h
      exact lN
    ·refine cf hb1 ?_
     refine aI (fz (aaL u1 p s_) []) ?_
     refine aX ?_
     obtain rfl:=oi h
     exact lB
   ·clear hy
    cases y with
    |brk z=>
     unfold gm
     refine⟨_, .refl, ?_⟩
     refine sz tT ⟨[(IV u1),(bn p),(aV s_),(11,(vP 6 0))],[(6,some (.cells 3 [(cI 0)]))]⟩ {fr:=[(0,6)] } [] ?_
     refine aQ (aQ (bE h fun u0 hr_1 h=> ?_))
     have q0:=wL p s_ u1 hr_1
     refine rg tT ⟨(ab2 u0),[(6,some (.cells 3 [(cI 0)]))]⟩ [_] {an:=[(3,cA q0 [])] } [] ⟨q0,trivial⟩ ?_
     refine aB (bE h fun u3 hr_2 h=> ?_)
     refine jI 7 [(11,(vP 6 0))] [] [7,6] (.iP []) [(7,some (.loop dL 0 [(11,(vP 6 0))])),(6,some (.cells 3 [(cI u3)]))] (Ws u0) 124 [] (aeJ u0) [(7,some (.loop dL 0 [(11,(vP 6 0))])),(6,some (.cells 3 [(cI 0)]))] [(.one (.yl 7)),(sD (X4 u0)),(sD (Xf u0)),(sD (Xz u0))] dL 0 [(11,(vP 6 0))] (by kernel_rfl) (by kernel_rfl) (by kernel_rfl) (by kernel_rfl) (by kernel_rfl) (by kernel_rfl) (by kernel_rfl) (rK [(0,7),(1,6)] (yM u0.1 u0.2.1 u0.2.2.1 u0.2.2.2.1 u0.2.2.2.2.1 u0.2.2.2.2.2.1 u0.2.2.2.2.2.2.1 u0.2.2.2.2.2.2.2.1 u0.2.2.2.2.2.2.2.2.1 u0.2.2.2.2.2.2.2.2.2.1 u0.2.2.2.2.2.2.2.2.2.2.1 u0.2.2.2.2.2.2.2.2.2.2.2 0 hr_2)) (by kernel_rfl) rfl (CQ.zero rfl) (bM.fin (st':=⟨(ab2 u0),[(6,some (.cells 3 [(cI u3)]))]⟩) (cs:=[]) ⟨[],[(6,6)]⟩ [11,44] (by kernel_rfl) trivial) ?_
     refine sz tT ⟨[(6,(vI u3)),(7,(vI 0))],[]⟩ {} [] ?_
     refine aR ?_
     obtain rfl:=oi h
     exact rl [(sI u3),(sI 0)]
    |ret v=>
     obtain rfl:=oi h
     unfold gm
     intro e st hn ha hR
     cases e with
     |normal=>exact absurd rfl hn
     |exit id=>exact hR
     |goto l=>exact hR
     |ret=>exact hR
     |panic c=>exact hR
     |outgrown=>exact hR
abbrev Y2:Ob:=(.cells 186 [(.d (.fn 128 0 (nC []))),(.d (.fn 129 0 (nC []))),(.d (.fn 130 0 (nC [])))])
abbrev Zd:List (Nat × Option Ob):=[(0,some Y2)]
def Ey  :Unit→Exit→St→Prop:=
  fun _=>bB TT [.tmp 0] (vO 0 true 3) Zd
theorem Du  {r:Unit} (h:sZ=some r):Fn Try.prog 91 [] [] (vO 0 true 3) Zd:=by
 refine fN tT Try.func91 rfl rfl fun B=> ?_
 show bJ _ _ _ _ _ _ (Ey r) _
 unfold sZ at h
 refine sz tT ⟨[],[]⟩ {} [] ?_
 refine sz tT ⟨[(0,(vO 1 true 3))],[(1,some Y2)]⟩ {an:=[(3, .cells)],fr:=[(3,1)] } [] ?_
 refine aI (bM.fin (st':=⟨[(0,(vO 0 true 3))],Zd⟩) (cs:=[]) ⟨[],[(1,0)]⟩ [0] (by kernel_rfl) trivial) ?_
 refine aR ?_
 obtain rfl:=oi h
 exact rl [(.one (.own 0 true 3))]
def jG  :Bool→Exit→St→Prop:=
  fun r=>bB TT [.tmp 6] (vB r) []
section
variable (x:ai)
abbrev agd:TV:=(vD (lT [(aK none 1 (au .i64) x.sources),(aK none 1 (au .i64) x.links),(aK none 2 af.cell x.racks)] 0))
abbrev tK:Nat × TV:=(5,(agd x))
abbrev Q5:Nat × TV:=(12,(vD (aK none 1 (au .i64) x.sources)))
abbrev Rv:Nat × TV:=(13,(vI (x.sources.length:Int)))
end
def wF (p:ah) (s_:State) (x:ai):Int→St:=
  fun u0=> ⟨[(bn p),(aV s_),(tK x),(Q5 x),(Rv x),(14,(vI u0))],[]⟩
section
variable (p:ah) (s_:State) (x:ai)
abbrev Wp:St:=⟨[(bn p),(aV s_),(tK x)],[]⟩
end
def wD (p:ah) (s_:State) (x:ai):Unit→St:=
  fun _=>(Wp p s_ x)
def EF (p:ah) (s_:State) (x:ai):(aM Int (Ex Unit Bool))→Exit→St→Prop:=
  LQ 0 [] (wF p s_ x) (wD p s_ x) jG
section
variable (x:ai)
abbrev R8:Nat × TV:=(44,(vD (aK none 1 (au .i64) x.links)))
abbrev Q0:Nat × TV:=(45,(vI (x.links.length:Int)))
end
def wM (p:ah) (s_:State) (x:ai):Int→St:=
  fun u0=> ⟨[(bn p),(aV s_),(R8 x),(Q0 x),(46,(vI u0))],[]⟩
def wC  :Unit→St:=
  fun _=> ⟨[],[]⟩
def DU (p:ah) (s_:State) (x:ai):(aM Int (Ex Unit Bool))→Exit→St→Prop:=
  LQ 2 [] (wM p s_ x) wC jG
section
variable (p:ah) (s_:State) (x:ai) (u1:Int) (u0:Int)
abbrev VY:List SV:=[(.agg (k5 p)),(.agg (QK s_)),(.agg (Xy x))]
abbrev U2:=(decide ((at' x.sources u1.toNat)<0))
abbrev Nf:=(bif (U2 x u1)then true else(decide (((at' p.sources u1.toNat).power)<(at' x.sources u1.toNat))))
abbrev NK:=(decide (0<(at' x.sources u1.toNat)))
abbrev aaC:=(jl [(2,(U2 x u1)),(12,(Nf p x u1)),(15,(NK x u1))])
abbrev UX:=(decide ((at' x.links u0.toNat)<(IntKind.wrap .i64 (0 - (Pz p u0)))))
abbrev N7:=(bif (UX p x u0)then true else(decide ((Pz p u0)<(at' x.links u0.toNat))))
abbrev Oc:=(!decide ((at' x.links u0.toNat)=0))
abbrev abk:=(jl [(9,(UX p x u0)),(19,(N7 p x u0)),(22,(Oc x u0))])
end
theorem DK (p:ah) (s_:State) (x:ai) {r:Bool} (h:mG p s_ x=some r):Fn Try.prog 128 (VY p s_ x) [] (vB r) []:=by
 refine fN tT Try.func128 rfl rfl fun B=> ?_
 show bJ _ _ _ _ _ _ (jG r) _
 unfold mG at h
 refine sz tT (Wp p s_ x) {fr:=[(0,3),(1,4),(2,5)] } [3,4,5] ?_
 refine aQ (sz tT ⟨[(bn p),(aV s_),(tK x),(Q5 x),(Rv x),(14,(vI 0))],[]⟩ {} [] ?_)
 refine bE h fun y hy h=> ?_
 refine aL [] (wF p s_ x) (wD p s_ x) jG hy (fun s f h=> ?_) ?_
 ·clear hy
  show bJ _ _ _ _ _ _ ((EF p s_ x) f) _
  unfold lC at h
  obtain⟨u1,rfl⟩: ∃q,q=s:=⟨_,rfl⟩
  refine sz tT ⟨[(bn p),(aV s_),(tK x),(Q5 x),(Rv x),(14,(vI u1)),(15,(vB (decide (u1<(x.sources.length:Int)))))],[]⟩ {} [] ?_
  refine aQ ?_
  refine bI h (fun hb1 h=> ?_) (fun hb1 h=> ?_)
  ·refine ct hb1 ?_
   refine aP (aQ (aB (aQ (aO h fun a1 h=> ?_))))
   refine rg tT ⟨[(bn p),(aV s_),(tK x),(7,(vI u1)),(8,(vI (at' x.sources u1.toNat))),(Q5 x),(Rv x),(14,(vI u1))],[]⟩ [_] {} [] ⟨a1,trivial⟩ ?_
   refine aQ (bE h fun r_ hr_ h=> ?_)
   refine aO h fun a1 h=> ?_
   refine rg tT ⟨[(bn p),(aV s_),(tK x),(Q5 x),(Rv x),(14,(vI u1)),(41,(vB (bif (Nf p x u1)then true else(bif (NK x u1)then(!r_)else false))))],[]⟩ (eqs (U2 x u1) 5 ((gP (aaC p x u1) [(2,false)]→All [(0:Int)≤u1∧u1<(p.sources.length:Int)])::(eqs (U2 x u1) 4 (eqs (Nf p x u1) 3 (eqs (NK x u1) 4 [gP (aaC p x u1) [(15,true),(12,false)]→All [Fn Try.prog 65 (O7 p s_ u1) [] (vB r_) []],(NK x u1)=(NK x u1),(Nf p x u1)=(Nf p x u1),gP (aaC p x u1) [(12,false)]→All [(NK x u1)=(NK x u1)],(Nf p x u1)=(Nf p x u1)]))))) {yb:=[(2,(U2 x u1)),(12,(Nf p x u1)),(15,(NK x u1))],an:=[(19, .call [] (vB r_) [])] } [] (ae ⟨(fun hg=> ⟨(a1 (aZ hg)),trivial⟩),(ae (ae (ae ⟨(fun hg=> ⟨(fZ p s_ u1 (gF hr_ (aZ hg))),trivial⟩),rfl,rfl,(fun hg=> ⟨rfl,trivial⟩),rfl,trivial⟩)))⟩) ?_
   refine bI h (fun hb h=> ?_) (fun hb h=> ?_)
   ·refine ct hb ?_
    refine sz tT ⟨[(6,(vB false))],[]⟩ {} [] ?_
    refine aR ?_
    obtain rfl:=oi h
    exact lR dX (dZ 0) dY (bB.mk (.inr rfl) (p:=[]) (l:=[(sB false)]) (by kernel_rfl) trivial (eH.refl _) trivial)
   ·refine cf hb ?_
    refine aP (rz tT ⟨[(bn p),(aV s_),(tK x),(Q5 x),(Rv x),(14,(k3 u1))],[]⟩ {} [] ?_)
    obtain rfl:=oi h
    exact lN
  ·refine cf hb1 ?_
   refine aI (fz (Wp p s_ x) []) ?_
   refine aX ?_
   obtain rfl:=oi h
   exact lB
 ·clear hy
  cases y with
  |brk z=>
   unfold gm
   refine⟨_, .refl, ?_⟩
   refine aQ (sz tT ⟨[(bn p),(aV s_),(R8 x),(Q0 x),(46,(vI 0))],[]⟩ {} [] ?_)
   refine bE h fun y1 hy h=> ?_
   refine aL [] (wM p s_ x) wC jG hy (fun s f h=> ?_) ?_
   ·clear hy
    show bJ _ _ _ _ _ _ ((DU p s_ x) f) _
    unfold lK at h
    obtain⟨u0,rfl⟩: ∃q,q=s:=⟨_,rfl⟩
    refine sz tT ⟨[(bn p),(aV s_),(R8 x),(Q0 x),(46,(vI u0)),(47,(vB (decide (u0<(x.links.length:Int)))))],[]⟩ {} [] ?_
    refine aQ ?_
    refine bI h (fun hb3 h=> ?_) (fun hb3 h=> ?_)
    ·refine ct hb3 ?_
     refine aP (aQ (aB (aQ (aO h fun a1 h=> ?_))))
     refine rg tT ⟨[(bn p),(aV s_),(9,(vI u0)),(10,(vI (at' x.links u0.toNat))),(R8 x),(Q0 x),(46,(vI u0))],[]⟩ [_] {} [] ⟨a1,trivial⟩ ?_
     refine aQ (bE h fun u2 hr_1 h=> ?_)
     refine aO h fun⟨a1,a2⟩ h=> ?_
     refine rg tT ⟨[(bn p),(aV s_),(R8 x),(Q0 x),(46,(vI u0)),(80,(vB (bif (N7 p x u0)then true else(bif (Oc x u0)then(!u2)else false))))],[]⟩ (_::(eqs (UX p x u0) 5 ((gP (abk p x u0) [(9,false)]→All [(0:Int)≤u0∧u0<(p.links.length:Int)])::(eqs (UX p x u0) 4 (eqs (N7 p x u0) 3 (eqs (Oc x u0) 4 [gP (abk p x u0) [(22,true),(19,false)]→All [Fn Try.prog 78 (O7 p s_ u0) [] (vB u2) []],(Oc x u0)=(Oc x u0),(N7 p x u0)=(N7 p x u0),gP (abk p x u0) [(19,false)]→All [(Oc x u0)=(Oc x u0)],(N7 p x u0)=(N7 p x u0)])))))) {yb:=[(9,(UX p x u0)),(19,(N7 p x u0)),(22,(Oc x u0))],an:=[(26, .call [] (vB u2) [])] } [] ⟨a1,(ae ⟨(fun hg=> ⟨(a2 (aZ hg)),trivial⟩),(ae (ae (ae ⟨(fun hg=> ⟨(dK p s_ u0 (gF hr_1 (aZ hg))),trivial⟩),rfl,rfl,(fun hg=> ⟨rfl,trivial⟩),rfl,trivial⟩)))⟩)⟩ ?_
     refine bI h (fun hb2 h=> ?_) (fun hb2 h=> ?_)
     ·refine ct hb2 ?_
      refine sz tT ⟨[(6,(vB false))],[]⟩ {} [] ?_
      refine aR ?_
      obtain rfl:=oi h
      exact lR dX (dZ 2) dY (bB.mk (.inr rfl) (p:=[]) (l:=[(sB false)]) (by kernel_rfl) trivial (eH.refl _) trivial)
     ·refine cf hb2 ?_
      refine aP (rz tT ⟨[(bn p),(aV s_),(R8 x),(Q0 x),(46,(k3 u0))],[]⟩ {} [] ?_)
      obtain rfl:=oi h
      exact lN
    ·refine cf hb3 ?_
     refine aI (fz ⟨[],[]⟩ []) ?_
     refine aX ?_
     obtain rfl:=oi h
     exact lB
   ·clear hy
    cases y1 with
    |brk z=>
     unfold gm
     refine⟨_, .refl, ?_⟩
     refine sz tT ⟨[(6,(vB true))],[]⟩ {} [] ?_
     refine aR ?_
     obtain rfl:=oi h
     exact rl [(sB true)]
    |ret v=>
     obtain rfl:=oi h
     unfold gm
     intro e st hn ha hR
     cases e with
     |normal=>exact absurd rfl hn
     |exit id=>exact hR
     |goto l=>exact hR
     |ret=>exact hR
     |panic c=>exact hR
     |outgrown=>exact hR
  |ret v=>
   obtain rfl:=oi h
   unfold gm
   intro e st hn ha hR
   cases e with
   |normal=>exact absurd rfl hn
   |exit id=>exact hR
   |goto l=>exact hR
   |ret=>exact hR
   |panic c=>exact hR
   |outgrown=>exact hR
def uI  :Bool→Exit→St→Prop:=
  fun r=>bB TT [.tmp 6] (vB r) []
section
variable (x:ai)
abbrev BN:Nat × TV:=(12,(vD (aK none 2 af.cell x.racks)))
abbrev Cb:Nat × TV:=(13,(vI (x.racks.length:Int)))
end
def zB (p:ah) (s_:State) (x:ai):Int→St:=
  fun u0=> ⟨[(bn p),(aV s_),(BN x),(Cb x),(14,(vI u0))],[]⟩
def zC  :Unit→St:=
  fun _=> ⟨[],[]⟩
def rM (p:ah) (s_:State) (x:ai):(aM Int (Ex Unit Bool))→Exit→St→Prop:=
  LQ 0 [] (zB p s_ x) zC uI
section
variable (x:ai) (u0:Int)
abbrev IA:Nat × TV:=(8,(aaN x u0))
abbrev abb:List CV:=[(cI ((at' x.racks u0.toNat).e0)),(cI ((at' x.racks u0.toNat).e1))]
abbrev JP:Nat × TV:=(19,(.v (.agg (abb x u0))))
end
def zJ (p:ah) (s_:State) (x:ai) (u0:Int):Int→St:=
  fun u1=> ⟨[(bn p),(aV s_),(7,(vI u0)),(IA x u0),(BN x),(Cb x),(14,(vI u0)),(JP x u0),(20,(vI u1))],[]⟩
section
variable (p:ah) (s_:State) (u0:Int) (x:ai)
abbrev Y9:St:=⟨[(bn p),(aV s_),(7,(vI u0)),(IA x u0),(BN x),(Cb x),(14,(vI u0))],[]⟩
end
def zN (p:ah) (s_:State) (x:ai) (u0:Int):Unit→St:=
  fun _=>(Y9 p s_ u0 x)
def GU (p:ah) (s_:State) (x:ai) (u0:Int):(aM Int (Ex Unit (aM Int (Ex Unit Bool))))→Exit→St→Prop:=
  LQ 2 [1] (zJ p s_ x u0) (zN p s_ x u0) (rM p s_ x)
section
variable (x:ai) (u0:Int) (u1:Int) (p:ah) (r_:Bool)
abbrev QF:=(at' [(at' x.racks u0.toNat).e0,(at' x.racks u0.toNat).e1] u1.toNat)
abbrev aaY:Nat × TV:=(10,(vI (QF x u0 u1)))
abbrev MS:=(decide ((QF x u0 u1)<0))
abbrev EC:=(bif (MS x u0 u1)then true else(decide (((at' p.racks u0.toNat).power)<(QF x u0 u1))))
abbrev zX:=(decide (0<(QF x u0 u1)))
abbrev ad1:Nat × TV:=(52,(vB (bif (EC x u0 u1 p)then true else(bif (zX x u0 u1)then(!r_)else false))))
abbrev MP:=(jl [(2,(MS x u0 u1)),(12,(EC x u0 u1 p)),(15,(zX x u0 u1))])
abbrev aek:=(gP (MP x u0 u1 p) [(2,false)]→All [(0:Int)≤u0∧u0<(p.racks.length:Int)])
abbrev agr:=(gP (MP x u0 u1 p) [(15,true),(12,false)]→All [(0:Int)≤u0∧u0<(p.racks.length:Int)])
end
theorem Gm (p:ah) (s_:State) (x:ai) {r:Bool} (h:oN p s_ x=some r):Fn Try.prog 129 (VY p s_ x) [] (vB r) []:=by
 refine fN tT Try.func129 rfl rfl fun B=> ?_
 show bJ _ _ _ _ _ _ (uI r) _
 unfold oN at h
 refine sz tT ⟨[(bn p),(aV s_),(5,(vP 9 0))],[(9,some (aaR x))]⟩ {fr:=[(0,7),(1,8),(2,9)] } [7,8] ?_
 refine aQ (sz tT ⟨[(bn p),(aV s_),(BN x),(Cb x),(14,(vI 0))],[]⟩ {} [] ?_)
 refine bE h fun y1 hy h=> ?_
 refine aL [] (zB p s_ x) zC uI hy (fun s f h=> ?_) ?_
 ·clear hy
  show bJ _ _ _ _ _ _ ((rM p s_ x) f) _
  unfold nV at h
  obtain⟨u0,rfl⟩: ∃q,q=s:=⟨_,rfl⟩
  refine sz tT ⟨[(bn p),(aV s_),(BN x),(Cb x),(14,(vI u0)),(15,(vB (decide (u0<(x.racks.length:Int)))))],[]⟩ {} [] ?_
  refine aQ ?_
  refine bI h (fun hb6 h=> ?_) (fun hb6 h=> ?_)
  ·refine ct hb6 ?_
   refine aP (aQ (aB (aQ (aO h fun a1 h=> ?_))))
   refine rg tT (Y9 p s_ u0 x) [_] {fr:=[(3,13)] } [13] ⟨a1,trivial⟩ ?_
   refine aQ (sz tT ⟨[(bn p),(aV s_),(7,(vI u0)),(IA x u0),(BN x),(Cb x),(14,(vI u0)),(JP x u0),(20,(vI 0))],[]⟩ {} [] ?_)
   refine bE h fun y hy h=> ?_
   refine aL [1] (zJ p s_ x u0) (zN p s_ x u0) (rM p s_ x) hy (fun s f h=> ?_) ?_
   ·clear hy
    show bJ _ _ _ _ _ _ ((GU p s_ x u0) f) _
    unfold fo at h
    obtain⟨u1,rfl⟩: ∃q,q=s:=⟨_,rfl⟩
    refine sz tT ⟨[(bn p),(aV s_),(7,(vI u0)),(IA x u0),(BN x),(Cb x),(14,(vI u0)),(JP x u0),(20,(vI u1)),(21,(vB (decide (u1<2))))],[]⟩ {} [] ?_
    refine aQ ?_
    refine bI h (fun hb4 h=> ?_) (fun hb4 h=> ?_)
    ·refine ct hb4 ?_
     refine aP (aQ (aB (aQ (aO h fun a1 h=> ?_))))
     refine rg tT ⟨[(bn p),(aV s_),(7,(vI u0)),(IA x u0),(9,(vI u1)),(aaY x u0 u1),(BN x),(Cb x),(14,(vI u0)),(JP x u0),(20,(vI u1))],[]⟩ [_,u1.toNat*1+1≤(abb x u0).length,((abb x u0).drop (u1.toNat*1)).take 1=[(.int .i64 (QF x u0 u1))].map .d] {an:=[(1, .vals [(.int .i64 (QF x u0 u1))])] } [] ⟨a1,(Uy (n:=2) (sz:=1) (Nat.le_refl _) a1),(Uo (n:=2) (sz:=1) (g:=fun q=>[(cI (at' [(at' x.racks u0.toNat).e0,(at' x.racks u0.toNat).e1] q))]) (by intro q hq;match q,hq with|0,_=>rfl|1,_=>rfl) a1),trivial⟩ ?_
     refine aQ ?_
     refine bI h (fun hb h=> ?_) (fun _ h=> ?_)
     ·skip
      refine aI (bM.le (st':=⟨[(bn p),(aV s_),(7,(vI u0)),(IA x u0),(9,(vI 0)),(aaY x u0 u1),(BN x),(Cb x),(14,(vI u0)),(JP x u0),(20,(vI 0))],[]⟩) ⟨⟨tR,tR,tR,tR,⟨_,rfl,eH.v (eO.one (dO.of (congrArg (fun n=>CV.d (.int .i64 n)) (of_decide_eq_true hb))))⟩,tR,tR,tR,tR,tR,⟨_,rfl,eH.v (eO.one (dO.of (congrArg (fun n=>CV.d (.int .i64 n)) (of_decide_eq_true hb))))⟩,trivial⟩,trivial⟩) ?_
      refine bE h fun r_ hr_ h=> ?_
      refine aO h fun⟨a1,a2⟩ h=> ?_
      refine dg tT mX ⟨[(bn p),(aV s_),(7,(vI u0)),(IA x u0),(BN x),(Cb x),(14,(vI u0)),(JP x u0),(20,(vI 0)),(ad1 x u0 u1 p r_)],[]⟩ (eqs (MS x u0 u1) 5 ((aek x u0 u1 p)::(eqs (MS x u0 u1) 4 (eqs (EC x u0 u1 p) 3 (eqs (zX x u0 u1) 6 ((agr x u0 u1 p)::(eqs (zX x u0 u1) 2 ((gP (MP x u0 u1 p) [(15,true),(12,false)]→All [(0:Int)≤0∧(0:Int)<(2:Nat)])::(eqs (zX x u0 u1) 2 [gP (MP x u0 u1 p) [(15,true),(12,false)]→All [Fn Try.prog 79 [(.agg (QK s_)),(sI ((G5 p u0).e0))] [] (vB r_) []],(zX x u0 u1)=(zX x u0 u1),(EC x u0 u1 p)=(EC x u0 u1 p),gP (MP x u0 u1 p) [(12,false)]→All [(zX x u0 u1)=(zX x u0 u1)],(EC x u0 u1 p)=(EC x u0 u1 p)]))))))))) {yb:=[(2,(MS x u0 u1)),(12,(EC x u0 u1 p)),(15,(zX x u0 u1))],an:=[(25, .call [] (vB r_) [])] } [] (ae ⟨(fun hg=> ⟨(a1 (aZ hg)),trivial⟩),(ae (ae (ae ⟨(fun hg=> ⟨(a2 (aZ hg)),trivial⟩),(ae ⟨(fun hg=> ⟨((by decide)),trivial⟩),(ae ⟨(fun hg=> ⟨(kW s_ ((G5 p u0).e0) (gF hr_ (aZ hg))),trivial⟩),rfl,rfl,(fun hg=> ⟨rfl,trivial⟩),rfl,trivial⟩)⟩)⟩)))⟩) ?_
      refine bI h (fun hb1 h=> ?_) (fun hb1 h=> ?_)
      ·refine ct hb1 ?_
       refine sz tT ⟨[(6,(vB false))],[]⟩ {} [] ?_
       refine aR ?_
       obtain rfl:=oi h
       exact lR dX (dZ 2) dY (lR dX (dZ 0) dY (bB.mk (.inr rfl) (p:=[]) (l:=[(sB false)]) (by kernel_rfl) trivial (eH.refl _) trivial))
      ·refine cf hb1 ?_
       refine aP (rz tT ⟨[(bn p),(aV s_),(7,(vI u0)),(IA x u0),(BN x),(Cb x),(14,(vI u0)),(JP x u0),(20,(vI 1))],[]⟩ {} [] ?_)
       obtain rfl:=oi h
       exact lN
     ·skip
      refine aO h fun a1 h=> ?_
      refine aI (bM.le (st':=⟨[(bn p),(aV s_),(7,(vI u0)),(IA x u0),(9,(vI 1)),(aaY x u0 u1),(BN x),(Cb x),(14,(vI u0)),(JP x u0),(20,(vI 1))],[]⟩) ⟨⟨tR,tR,tR,tR,⟨_,rfl,eH.v (eO.one (dO.of (congrArg (fun n=>CV.d (.int .i64 n)) a1)))⟩,tR,tR,tR,tR,tR,⟨_,rfl,eH.v (eO.one (dO.of (congrArg (fun n=>CV.d (.int .i64 n)) a1)))⟩,trivial⟩,trivial⟩) ?_
      refine bE h fun u2 hr_1 h=> ?_
      refine aO h fun⟨a1,a2⟩ h=> ?_
      refine dg tT mX ⟨[(bn p),(aV s_),(7,(vI u0)),(IA x u0),(BN x),(Cb x),(14,(vI u0)),(JP x u0),(20,(vI 1)),(ad1 x u0 u1 p u2)],[]⟩ (eqs (MS x u0 u1) 5 ((aek x u0 u1 p)::(eqs (MS x u0 u1) 4 (eqs (EC x u0 u1 p) 3 (eqs (zX x u0 u1) 6 ((agr x u0 u1 p)::(eqs (zX x u0 u1) 2 ((gP (MP x u0 u1 p) [(15,true),(12,false)]→All [(0:Int)≤1∧(1:Int)<(2:Nat)])::(eqs (zX x u0 u1) 2 [gP (MP x u0 u1 p) [(15,true),(12,false)]→All [Fn Try.prog 79 [(.agg (QK s_)),(sI ((G5 p u0).e1))] [] (vB u2) []],(zX x u0 u1)=(zX x u0 u1),(EC x u0 u1 p)=(EC x u0 u1 p),gP (MP x u0 u1 p) [(12,false)]→All [(zX x u0 u1)=(zX x u0 u1)],(EC x u0 u1 p)=(EC x u0 u1 p)]))))))))) {yb:=[(2,(MS x u0 u1)),(12,(EC x u0 u1 p)),(15,(zX x u0 u1))],an:=[(25, .call [] (vB u2) [])] } [] (ae ⟨(fun hg=> ⟨(a1 (aZ hg)),trivial⟩),(ae (ae (ae ⟨(fun hg=> ⟨(a2 (aZ hg)),trivial⟩),(ae ⟨(fun hg=> ⟨((by decide)),trivial⟩),(ae ⟨(fun hg=> ⟨(kW s_ ((G5 p u0).e1) (gF hr_1 (aZ hg))),trivial⟩),rfl,rfl,(fun hg=> ⟨rfl,trivial⟩),rfl,trivial⟩)⟩)⟩)))⟩) ?_
      refine bI h (fun hb3 h=> ?_) (fun hb3 h=> ?_)
      ·refine ct hb3 ?_
       refine sz tT ⟨[(6,(vB false))],[]⟩ {} [] ?_
       refine aR ?_
       obtain rfl:=oi h
       exact lR dX (dZ 2) dY (lR dX (dZ 0) dY (bB.mk (.inr rfl) (p:=[]) (l:=[(sB false)]) (by kernel_rfl) trivial (eH.refl _) trivial))
      ·refine cf hb3 ?_
       refine aP (rz tT ⟨[(bn p),(aV s_),(7,(vI u0)),(IA x u0),(BN x),(Cb x),(14,(vI u0)),(JP x u0),(20,(vI 2))],[]⟩ {} [] ?_)
       obtain rfl:=oi h
       exact lN
    ·refine cf hb4 ?_
     refine aI (fz (Y9 p s_ u0 x) []) ?_
     refine aX ?_
     obtain rfl:=oi h
     exact lB
   ·clear hy
    cases y with
    |brk z=>
     unfold gm
     refine⟨_, .refl, ?_⟩
     refine aQ (aO h fun a1 h=> ?_)
     refine dg tT mX ⟨[(bn p),(aV s_),(BN x),(Cb x),(14,(vI u0)),(65,(vB (decide (((at' p.racks u0.toNat).power)<(IntKind.wrap .i64 (((at' x.racks u0.toNat).e0)+((at' x.racks u0.toNat).e1)))))))],[]⟩ [(0:Int)≤0∧(0:Int)<(2:Nat),(0:Int)≤1∧(1:Int)<(2:Nat),_] {} [] ⟨((by decide)),((by decide)),a1,trivial⟩ ?_
     refine bI h (fun hb5 h=> ?_) (fun hb5 h=> ?_)
     ·refine ct hb5 ?_
      refine sz tT ⟨[(6,(vB false))],[]⟩ {} [] ?_
      refine aR ?_
      obtain rfl:=oi h
      exact lR dX (dZ 0) dY (bB.mk (.inr rfl) (p:=[]) (l:=[(sB false)]) (by kernel_rfl) trivial (eH.refl _) trivial)
     ·refine cf hb5 ?_
      refine aP (rz tT ⟨[(bn p),(aV s_),(BN x),(Cb x),(14,(k3 u0))],[]⟩ {} [] ?_)
      obtain rfl:=oi h
      exact lN
    |ret v=>
     obtain rfl:=oi h
     unfold gm
     intro e st hn ha hR
     cases e with
     |normal=>exact absurd rfl hn
     |exit id=>simp only [qz (b:=1) ha rfl,cond_false];exact hR
     |goto l=>exact hR
     |ret=>exact hR
     |panic c=>exact hR
     |outgrown=>exact hR
  ·refine cf hb6 ?_
   refine aI (fz ⟨[],[]⟩ []) ?_
   refine aX ?_
   obtain rfl:=oi h
   exact lB
 ·clear hy
  cases y1 with
  |brk z=>
   unfold gm
   refine⟨_, .refl, ?_⟩
   refine sz tT ⟨[(6,(vB true))],[]⟩ {} [] ?_
   refine aR ?_
   obtain rfl:=oi h
   exact rl [(sB true)]
  |ret v=>
   obtain rfl:=oi h
   unfold gm
   intro e st hn ha hR
   cases e with
   |normal=>exact absurd rfl hn
   |exit id=>exact hR
   |goto l=>exact hR
   |ret=>exact hR
   |panic c=>exact hR
   |outgrown=>exact hR
def Ch  :Bool→Exit→St→Prop:=
  fun r=>bB TT [.tmp 2] (vB r) []
theorem AU (n:Int) {r:Bool} (h:kU n=some r):Fn Try.prog 149 [(sI n)] [] (vB r) []:=by
 refine fN tT Try.func149 rfl rfl fun B=> ?_
 show bJ _ _ _ _ _ _ (Ch r) _
 unfold kU at h
 refine sz tT ⟨[(0,(vI n))],[]⟩ {} [] ?_
 refine sz tT ⟨[(2,(vB (!decide (n=0))))],[]⟩ {} [] ?_
 refine aR ?_
 obtain rfl:=oi h
 exact rl [(sB (!decide (n=0)))]
section
variable (s_:(List Int))
abbrev uN:List (Nat × Option Ob):=[(Fq s_)]
end
def iY (s_:(List Int)):Int→Exit→St→Prop:=
  fun r=>bB TT [.tmp 4] (vI r) (uN s_)
section
variable (s_:(List Int))
abbrev BA:Nat × TV:=(0,(vO 0 true s_.length))
abbrev Pp:Nat × TV:=(1,(vD (.fn 149 0 (nC []))))
end
def lq (s_:(List Int)):Int→St:=
  fun t8=> ⟨[(BA s_),Pp,(oC s_),(8,(vI t8))],(uN s_)⟩
def lH (s_:(List Int)):Unit→St:=
  fun _=> ⟨[],(uN s_)⟩
def sV (s_:(List Int)):(aM Int (Ex Unit Int))→Exit→St→Prop:=
  LQ 0 [] (lq s_) (lH s_) (iY s_)
section
variable (s_:(List Int))
abbrev ady:St:=⟨[(BA s_),Pp],(uN s_)⟩
end
theorem sP (s_:(List Int)) {r:Int} (h:gQ s_=some r):Fn Try.prog 113 [(.one (.own 0 true s_.length)),(sD (.fn 149 0 (nC [])))] (uN s_) (vI r) (uN s_):=by
 refine fN tT Try.func113 rfl rfl fun B=> ?_
 show bJ _ _ _ _ _ _ ((iY s_) r) _
 unfold gQ at h
 refine sz tT (ady s_) {} [] ?_
 refine aQ (sz tT ⟨[(BA s_),Pp,(oC s_),(8,(vI 0))],(uN s_)⟩ {} [] ?_)
 refine bE h fun y hy h=> ?_
 refine aL [] (lq s_) (lH s_) (iY s_) hy (fun s f h=> ?_) ?_
 ·clear hy
  show bJ _ _ _ _ _ _ ((sV s_) f) _
  unfold fF at h
  obtain⟨t8,rfl⟩: ∃q,q=s:=⟨_,rfl⟩
  refine sz tT ⟨[(BA s_),Pp,(oC s_),(8,(vI t8)),(Tt t8 s_)],(uN s_)⟩ {} [] ?_
  refine aQ ?_
  refine bI h (fun hb1 h=> ?_) (fun hb1 h=> ?_)
  ·refine ct hb1 ?_
   refine aP (aQ (aB (sz tT ⟨[(BA s_),Pp,(5,(vI t8)),(oC s_),(8,(vI t8))],(uN s_)⟩ {} [] ?_)))
   refine aQ (bE h fun r_ hr_ h=> ?_)
   refine aO h fun a1 h=> ?_
   have q2:=AU (at' s_ t8.toNat) hr_
   refine rg tT ⟨[(BA s_),Pp,(5,(vI t8)),(oC s_),(8,(vI t8)),(16,(vB r_))],(uN s_)⟩ [_,_,_] {an:=[(5,cA q2 [])] } [] ⟨a1,(tL a1),q2,trivial⟩ ?_
   refine bI h (fun hb h=> ?_) (fun hb h=> ?_)
   ·refine ct hb ?_
    refine sz tT ⟨[(4,(vI t8))],(uN s_)⟩ {} [] ?_
    refine aR ?_
    obtain rfl:=oi h
    exact lR dX (dZ 0) dY (bB.mk (.inr rfl) (p:=[]) (l:=[(sI t8)]) (by kernel_rfl) trivial (eH.refl _) (.refl _))
   ·refine cf hb ?_
    refine aP (rz tT ⟨[(BA s_),Pp,(oC s_),(Yj t8)],(uN s_)⟩ {} [] ?_)
    obtain rfl:=oi h
    exact lN
  ·refine cf hb1 ?_
   refine aI (fz ⟨[],(uN s_)⟩ []) ?_
   refine aX ?_
   obtain rfl:=oi h
   exact lB
 ·clear hy
  cases y with
  |brk z=>
   unfold gm
   refine⟨_, .refl, ?_⟩
   refine sz tT ⟨[(4,(vI (-1)))],(uN s_)⟩ {} [] ?_
   refine aR ?_
   obtain rfl:=oi h
   exact rl [(sI (-1))]
  |ret v=>
   obtain rfl:=oi h
   unfold gm
   intro e st hn ha hR
   cases e with
   |normal=>exact absurd rfl hn
   |exit id=>exact hR
   |goto l=>exact hR
   |ret=>exact hR
   |panic c=>exact hR
   |outgrown=>exact hR
def rO (s_:(List Int)):Bool→Exit→St→Prop:=
  fun r=>bB TT [.tmp 4] (vB r) (uN s_)
theorem q9 (s_:(List Int)) {r:Bool} (h:cu s_=some r):Fn Try.prog 67 [(.one (.own 0 true s_.length)),(sD (.fn 149 0 (nC [])))] (uN s_) (vB r) (uN s_):=by
 refine fN tT Try.func67 rfl rfl fun B=> ?_
 show bJ _ _ _ _ _ _ ((rO s_) r) _
 unfold cu at h
 refine sz tT (ady s_) {} [] ?_
 refine aQ (bE h fun r_ hr_ h=> ?_)
 have q0:=sP s_ hr_
 refine rg tT ⟨[(4,(vB (decide (0≤r_))))],(uN s_)⟩ [_] {an:=[(2,cR q0 [0])] } [] ⟨q0,trivial⟩ ?_
 refine aR ?_
 obtain rfl:=oi h
 exact rl [(sB (decide (0≤r_)))]
def fK  :Bool→Exit→St→Prop:=
  fun r=>bB TT [.tmp 6] (vB r) []
section
variable (u0:(List Int)) (x:ai) (u1:Int) (p:ah)
abbrev tC:Nat × TV:=(7,(vO 11 true u0.length))
abbrev RQ:Nat × TV:=(20,(vD (aK none 1 (au .i64) x.sources)))
abbrev Q9:Nat × TV:=(21,(vI (x.sources.length:Int)))
abbrev aeM:List (Nat × TV):=[(3,(vP 8 0)),(5,(vP 10 0)),(tC u0),(RQ x),(Q9 x),(22,(vI u1))]
abbrev KZ:Nat × Option Ob:=(8,some (Yr p))
abbrev KY:Nat × Option Ob:=(10,some (aaR x))
abbrev Ny:List (Nat × Option Ob):=[(KZ p),(KY x),(11,some (BJ u0))]
end
def uS (p:ah) (x:ai):((List Int) × Int)→St:=
  fun zz=>match zz with|(u0,u1)=> ⟨(aeM u0 x u1),(Ny u0 x p)⟩
section
variable (u0:(List Int)) (p:ah) (x:ai)
abbrev XL:St:=⟨[(3,(vP 8 0)),(5,(vP 10 0)),(tC u0)],(Ny u0 x p)⟩
end
def uF (p:ah) (x:ai):(List Int)→St:=
  fun u0=>(XL u0 p x)
def Dm (p:ah) (x:ai):(aM ((List Int) × Int) (Ex (List Int) Bool))→Exit→St→Prop:=
  LQ 0 [] (uS p x) (uF p x) fK
section
variable (x:ai)
abbrev MB:Nat × TV:=(41,(vD (aK none 1 (au .i64) x.links)))
abbrev Ol:Nat × TV:=(42,(vI (x.links.length:Int)))
end
def vF (p:ah) (x:ai):((List Int) × Int)→St:=
  fun zz=>match zz with|(u0,u1)=> ⟨[(3,(vP 8 0)),(5,(vP 10 0)),(tC u0),(MB x),(Ol x),(43,(vI u1))],(Ny u0 x p)⟩
def uT (p:ah) (x:ai):(List Int)→St:=
  fun u0=>(XL u0 p x)
def Dt (p:ah) (x:ai):(aM ((List Int) × Int) (Ex (List Int) Bool))→Exit→St→Prop:=
  LQ 2 [] (vF p x) (uT p x) fK
section
variable (x:ai) (u0:(List Int)) (p:ah) (u1:Int)
abbrev zW:Nat × TV:=(74,(vD (aK none 2 af.cell x.racks)))
abbrev Aa:Nat × TV:=(75,(vI (x.racks.length:Int)))
abbrev Dr:List (Nat × Option Ob):=[(11,some (BJ u0))]
abbrev Zb:St:=⟨[(bn p),(tC u0),(zW x),(Aa x),(76,(vI u1))],(Dr u0)⟩
end
def vv (p:ah) (x:ai):((List Int) × Int)→St:=
  fun zz=>match zz with|(u0,u1)=>(Zb x u0 p u1)
def uP  :(List Int)→St:=
  fun u0=> ⟨[(tC u0)],(Dr u0)⟩
def nW (p:ah) (x:ai):(aM ((List Int) × Int) (Ex (List Int) Bool))→Exit→St→Prop:=
  LQ 4 [] (vv p x) uP fK
section
variable (x:ai) (u0:Int) (p:ah)
abbrev Eh:Nat × TV:=(13,(aaN x u0))
abbrev aaI:List CV:=[(cI ((G5 p u0).e0)),(cI ((G5 p u0).e1))]
abbrev FP:Nat × TV:=(86,(.v (.agg (aaI u0 p))))
end
def ve (p:ah) (x:ai) (u0:Int):((List Int) × Int)→St:=
  fun zz=>match zz with|(u1,u2)=> ⟨[(bn p),(tC u1),(Eh x u0),(zW x),(Aa x),(76,(vI u0)),(FP u0 p),(87,(vI u2))],(Dr u1)⟩
def uJ (p:ah) (x:ai) (u1:Int):(List Int)→St:=
  fun u0=>(Zb x u0 p u1)
def Cw (p:ah) (x:ai) (u0:Int):(aM ((List Int) × Int) (Ex (List Int) (aM ((List Int) × Int) (Ex (List Int) Bool))))→Exit→St→Prop:=
  LQ 6 [5] (ve p x u0) (uJ p x u0) (nW p x)
section
variable (p:ah) (x:ai) (u6:(List Int)) (u5:Int) (u2:(List Int)) (u1:Int) (u7:(List Int)) (u0:Int) (u4:Int) (u3:(List Int))
abbrev PW:=(List.replicate p.buses.toNat (0:Int))
abbrev afa:List (Nat × Option Ob):=[(KZ p),(KY x),(11,some (bZ 3 1 (au .i64) (PW p)))]
abbrev aaP:=(u6.set (((at' p.sources u5.toNat).bus).toNat) (IntKind.wrap .i64 ((at' u6 (((at' p.sources u5.toNat).bus).toNat))+(at' x.sources u5.toNat))))
abbrev aaM:=(aC (au .i64) (aaP p x u6 u5))
abbrev acw:Nat × TV:=(7,(vO 11 true ((aaP p x u6 u5).length)))
abbrev afK:List (Nat × Option Ob):=[(KZ p),(KY x),(11,some (bZ 3 1 (au .i64) (aaP p x u6 u5)))]
abbrev ags:List (Nat × TV):=[(3,(vP 8 0)),(5,(vP 10 0)),(tC u2),(10,(vI u1)),(11,(vI (at' x.links u1.toNat))),(MB x),(Ol x),(43,(vI u1))]
abbrev OT:=(u2.set (((at' p.links u1.toNat).a).toNat) (IntKind.wrap .i64 ((at' u2 (((at' p.links u1.toNat).a).toNat)) - (at' x.links u1.toNat))))
abbrev Xh:=(aC (au .i64) (OT p x u2 u1))
abbrev afB:Nat × TV:=(7,(vO 11 true ((OT p x u2 u1).length)))
abbrev afr:=(IntKind.wrap .i64 ((at' (OT p x u2 u1) (((at' p.links u1.toNat).b).toNat))+(at' x.links u1.toNat)))
abbrev YE:=((OT p x u2 u1).set (((at' p.links u1.toNat).b).toNat) (afr p x u2 u1))
abbrev aaQ:=(aC (au .i64) (YE p x u2 u1))
abbrev abP:Nat × TV:=(7,(vO 11 true ((YE p x u2 u1).length)))
abbrev acO:List (Nat × Option Ob):=[(KZ p),(KY x),(11,some (bZ 3 1 (au .i64) (YE p x u2 u1)))]
abbrev abR:List (Nat × TV):=[(bn p),(tC u7),(Eh x u0),(zW x),(Aa x),(76,(vI u0)),(FP u0 p),(87,(vI 0))]
abbrev Vi:=(at' [(G5 p u0).e0,(G5 p u0).e1] u4.toNat)
abbrev X6:Nat × TV:=(15,(vI (Vi p u0 u4)))
abbrev Y4:Nat × TV:=(92,(vB (decide (0≤(Vi p u0 u4)))))
abbrev Rb:=((Vi p u0 u4).toNat)
abbrev ae9:=(IntKind.wrap .i64 ((at' u3 (Rb p u0 u4)) - ((at' x.racks u0.toNat).e0)))
abbrev aac:=(u3.set (Rb p u0 u4) (ae9 p x u0 u4 u3))
abbrev ZO:=(aC (au .i64) (aac p x u0 u4 u3))
abbrev adM:Nat × TV:=(7,(vO 11 true ((aac p x u0 u4 u3).length)))
abbrev aeY:List (Nat × Option Ob):=[(11,some (bZ 3 1 (au .i64) (aac p x u0 u4 u3)))]
abbrev aey:=(IntKind.wrap .i64 ((at' u3 (Rb p u0 u4)) - ((at' x.racks u0.toNat).e1)))
abbrev aai:=(u3.set (Rb p u0 u4) (aey p x u0 u4 u3))
abbrev Zn:=(aC (au .i64) (aai p x u0 u4 u3))
abbrev afs:Nat × TV:=(7,(vO 11 true ((aai p x u0 u4 u3).length)))
abbrev aeL:List (Nat × Option Ob):=[(11,some (bZ 3 1 (au .i64) (aai p x u0 u4 u3)))]
end
theorem CF (p:ah) (s_:State) (x:ai) {r:Bool} (h:kH p s_ x=some r):Fn Try.prog 130 (VY p s_ x) [] (vB r) []:=by
 refine fN tT Try.func130 rfl rfl fun B=> ?_
 show bJ _ _ _ _ _ _ (fK r) _
 unfold kH at h
 refine sz tT ⟨[(3,(vP 8 0)),(5,(vP 10 0))],[(KZ p),(KY x)]⟩ {fr:=[(0,8),(1,9),(2,10)] } [] ?_
 refine aQ (aO h fun⟨a1,a2,a3⟩ h=> ?_)
 refine rg tT ⟨[(3,(vP 8 0)),(5,(vP 10 0)),(7,(vO 11 true ((PW p).length)))],(afa p x)⟩ [_,(p.buses:Int)=p.buses,_,_,(PW p).length=p.buses.toNat,aG p.buses.toNat 1 (fun _ j=>[(.int .i64 0)].getD j .nilp) (aC (au .i64) (PW p))] {an:=[(2, .arr (PW p).length (aC (au .i64) (PW p)))],fr:=[(2,11)] } [] ⟨a1,rfl,a2,a3,(List.length_replicate),(dP _ _ _ _ _ (fun j hj=>(match j,hj with|0,_=>rfl))),trivial⟩ ?_
 refine aQ (sz tT ⟨[(3,(vP 8 0)),(5,(vP 10 0)),(7,(vO 11 true ((PW p).length))),(RQ x),(Q9 x),(22,(vI 0))],(afa p x)⟩ {} [] ?_)
 refine bE h fun y hy h=> ?_
 refine aL [] (uS p x) (uF p x) fK hy (fun s f h=> ?_) ?_
 ·clear hy
  show bJ _ _ _ _ _ _ ((Dm p x) f) _
  unfold iZ at h
  obtain⟨u6,u5⟩:=s
  refine sz tT ⟨[(3,(vP 8 0)),(5,(vP 10 0)),(tC u6),(RQ x),(Q9 x),(22,(vI u5)),(23,(vB (decide (u5<(x.sources.length:Int)))))],(Ny u6 x p)⟩ {} [] ?_
  refine aQ ?_
  refine bI h (fun hb h=> ?_) (fun hb h=> ?_)
  ·refine ct hb ?_
   refine aP (aQ (aB (aQ (aO h fun a1 h=> ?_))))
   refine rg tT ⟨[(3,(vP 8 0)),(5,(vP 10 0)),(tC u6),(8,(vI u5)),(9,(vI (at' x.sources u5.toNat))),(RQ x),(Q9 x),(22,(vI u5))],(Ny u6 x p)⟩ [_] {} [] ⟨a1,trivial⟩ ?_
   refine aO h fun⟨a1,a2⟩ h=> ?_
   refine ri tT ⟨(aeM u6 x u5),[(KZ p),(KY x),(11,some (.arr 3 1 u6.length (aaM p x u6 u5)))]⟩ [_,_,_,_,_,aG u6.length 1 (jZ (aC (au .i64) u6) (((at' p.sources u5.toNat).bus).toNat) 0 [(.int .i64 (IntKind.wrap .i64 ((at' u6 (((at' p.sources u5.toNat).bus).toNat))+(at' x.sources u5.toNat))))]) (aaM p x u6 u5)] {an:=[(12, .arr 0 (aaM p x u6 u5))] } [] ⟨a1,a2,(tL a2),a2,(tL a2),(bL _ _ _ _ _ _ _ _ rfl (fun j hj=>(match j,hj with|0,_=>rfl))),trivial⟩ (bM.le (st':=⟨[(3,(vP 8 0)),(5,(vP 10 0)),(acw p x u6 u5),(RQ x),(Q9 x),(22,(vI u5))],(afK p x u6 u5)⟩) ⟨⟨tR,tR,⟨_,rfl,eH.v (eO.one cW)⟩,tR,tR,tR,trivial⟩,(hN 2 ⟨rfl,oW,trivial⟩)⟩) ?_
   refine rz tT ⟨[(3,(vP 8 0)),(5,(vP 10 0)),(acw p x u6 u5),(RQ x),(Q9 x),(22,(k3 u5))],(afK p x u6 u5)⟩ {} [] ?_
   obtain rfl:=oi h
   exact lN
  ·refine cf hb ?_
   refine aI (fz (XL u6 p x) []) ?_
   refine aX ?_
   obtain rfl:=oi h
   exact lB
 ·clear hy
  cases y with
  |brk z=>
   obtain⟨u8,rfl⟩: ∃q,q=z:=⟨_,rfl⟩
   unfold gm
   refine⟨_, .refl, ?_⟩
   refine aQ (sz tT ⟨[(3,(vP 8 0)),(5,(vP 10 0)),(tC u8),(MB x),(Ol x),(43,(vI 0))],(Ny u8 x p)⟩ {} [] ?_)
   refine bE h fun y1 hy h=> ?_
   refine aL [] (vF p x) (uT p x) fK hy (fun s f h=> ?_) ?_
   ·clear hy
    show bJ _ _ _ _ _ _ ((Dt p x) f) _
    unfold iU at h
    obtain⟨u2,u1⟩:=s
    refine sz tT ⟨[(3,(vP 8 0)),(5,(vP 10 0)),(tC u2),(MB x),(Ol x),(43,(vI u1)),(44,(vB (decide (u1<(x.links.length:Int)))))],(Ny u2 x p)⟩ {} [] ?_
    refine aQ ?_
    refine bI h (fun hb1 h=> ?_) (fun hb1 h=> ?_)
    ·refine ct hb1 ?_
     refine aP (aQ (aB (aQ (aO h fun a1 h=> ?_))))
     refine rg tT ⟨(ags x u2 u1),(Ny u2 x p)⟩ [_] {} [] ⟨a1,trivial⟩ ?_
     refine aQ (aO h fun⟨a1,a2⟩ h=> ?_)
     refine ri tT ⟨(ags x u2 u1),[(KZ p),(KY x),(11,some (.arr 3 1 u2.length (Xh p x u2 u1)))]⟩ [_,_,_,_,_,aG u2.length 1 (jZ (aC (au .i64) u2) (((at' p.links u1.toNat).a).toNat) 0 [(.int .i64 (IntKind.wrap .i64 ((at' u2 (((at' p.links u1.toNat).a).toNat)) - (at' x.links u1.toNat))))]) (Xh p x u2 u1)] {an:=[(12, .arr 0 (Xh p x u2 u1))] } [] ⟨a1,a2,(tL a2),a2,(tL a2),(bL _ _ _ _ _ _ _ _ rfl (fun j hj=>(match j,hj with|0,_=>rfl))),trivial⟩ (bM.le (st':=⟨[(3,(vP 8 0)),(5,(vP 10 0)),(afB p x u2 u1),(10,(vI u1)),(11,(vI (at' x.links u1.toNat))),(MB x),(Ol x),(43,(vI u1))],[(KZ p),(KY x),(11,some (bZ 3 1 (au .i64) (OT p x u2 u1)))]⟩) ⟨⟨tR,tR,⟨_,rfl,eH.v (eO.one cW)⟩,tR,tR,tR,tR,tR,trivial⟩,(hN 2 ⟨rfl,oW,trivial⟩)⟩) ?_
     refine aO h fun⟨a1,a2⟩ h=> ?_
     refine ri tT ⟨[(3,(vP 8 0)),(5,(vP 10 0)),(afB p x u2 u1),(MB x),(Ol x),(43,(vI u1))],[(KZ p),(KY x),(11,some (.arr 3 1 (OT p x u2 u1).length (aaQ p x u2 u1)))]⟩ [_,_,_,_,_,aG (OT p x u2 u1).length 1 (jZ (Xh p x u2 u1) (((at' p.links u1.toNat).b).toNat) 0 [(.int .i64 (afr p x u2 u1))]) (aaQ p x u2 u1)] {an:=[(12, .arr 0 (aaQ p x u2 u1))] } [] ⟨a1,a2,(tL a2),a2,(tL a2),(bL _ _ _ _ _ _ _ _ rfl (fun j hj=>(match j,hj with|0,_=>rfl))),trivial⟩ (bM.le (st':=⟨[(3,(vP 8 0)),(5,(vP 10 0)),(abP p x u2 u1),(MB x),(Ol x),(43,(vI u1))],(acO p x u2 u1)⟩) ⟨⟨tR,tR,⟨_,rfl,eH.v (eO.one cW)⟩,tR,tR,tR,trivial⟩,(hN 2 ⟨rfl,oW,trivial⟩)⟩) ?_
     refine rz tT ⟨[(3,(vP 8 0)),(5,(vP 10 0)),(abP p x u2 u1),(MB x),(Ol x),(43,(k3 u1))],(acO p x u2 u1)⟩ {} [] ?_
     obtain rfl:=oi h
     exact lN
    ·refine cf hb1 ?_
     refine aI (fz (XL u2 p x) []) ?_
     refine aX ?_
     obtain rfl:=oi h
     exact lB
   ·clear hy
    cases y1 with
    |brk z=>
     obtain⟨u9,rfl⟩: ∃q,q=z:=⟨_,rfl⟩
     unfold gm
     refine⟨_, .refl, ?_⟩
     refine aQ (sz tT ⟨[(bn p),(tC u9),(zW x),(Aa x),(76,(vI 0))],(Dr u9)⟩ {} [8] ?_)
     refine bE h fun y3 hy h=> ?_
     refine aL [] (vv p x) uP fK hy (fun s f h=> ?_) ?_
     ·clear hy
      show bJ _ _ _ _ _ _ ((nW p x) f) _
      unfold iV at h
      obtain⟨u7,u0⟩:=s
      refine sz tT ⟨[(bn p),(tC u7),(zW x),(Aa x),(76,(vI u0)),(77,(vB (decide (u0<(x.racks.length:Int)))))],(Dr u7)⟩ {} [] ?_
      refine aQ ?_
      refine bI h (fun hb6 h=> ?_) (fun hb6 h=> ?_)
      ·refine ct hb6 ?_
       refine aP (aQ (aB (aQ (aO h fun a1 h=> ?_))))
       refine rg tT ⟨[(bn p),(tC u7),(12,(vI u0)),(Eh x u0),(zW x),(Aa x),(76,(vI u0))],(Dr u7)⟩ [_] {fr:=[(3,15)] } [15] ⟨a1,trivial⟩ ?_
       refine aQ (aO h fun a1 h=> ?_)
       refine rg tT ⟨(abR p x u7 u0),(Dr u7)⟩ [_] {} [] ⟨a1,trivial⟩ ?_
       refine bE h fun y2 hy h=> ?_
       refine aL [5] (ve p x u0) (uJ p x u0) (nW p x) hy (fun s f h=> ?_) ?_
       ·clear hy
        show bJ _ _ _ _ _ _ ((Cw p x u0) f) _
        unfold dM at h
        obtain⟨u3,u4⟩:=s
        refine sz tT ⟨[(bn p),(tC u3),(Eh x u0),(zW x),(Aa x),(76,(vI u0)),(FP u0 p),(87,(vI u4)),(88,(vB (decide (u4<2))))],(Dr u3)⟩ {} [] ?_
        refine aQ ?_
        refine bI h (fun hb5 h=> ?_) (fun hb5 h=> ?_)
        ·refine ct hb5 ?_
         refine aP (aQ (aB (aQ (aO h fun a1 h=> ?_))))
         refine rg tT ⟨[(bn p),(tC u3),(Eh x u0),(14,(vI u4)),(X6 p u0 u4),(zW x),(Aa x),(76,(vI u0)),(FP u0 p),(87,(vI u4))],(Dr u3)⟩ [_,u4.toNat*1+1≤(aaI u0 p).length,((aaI u0 p).drop (u4.toNat*1)).take 1=[(.int .i64 (Vi p u0 u4))].map .d] {an:=[(1, .vals [(.int .i64 (Vi p u0 u4))])] } [] ⟨a1,(Uy (n:=2) (sz:=1) (Nat.le_refl _) a1),(Uo (n:=2) (sz:=1) (g:=fun q=>[(cI (at' [(G5 p u0).e0,(G5 p u0).e1] q))]) (by intro q hq;match q,hq with|0,_=>rfl|1,_=>rfl) a1),trivial⟩ ?_
         refine sz tT ⟨[(bn p),(tC u3),(Eh x u0),(14,(vI u4)),(X6 p u0 u4),(zW x),(Aa x),(76,(vI u0)),(FP u0 p),(87,(vI u4)),(Y4 p u0 u4)],(Dr u3)⟩ {} [] ?_
         refine bI h (fun hb4 h=> ?_) (fun hb4 h=> ?_)
         ·refine ct hb4 ?_
          refine bI h (fun hb2 h=> ?_) (fun _ h=> ?_)
          ·skip
           refine aI (bM.le (st':=⟨[(bn p),(tC u3),(Eh x u0),(14,(vI 0)),(X6 p u0 u4),(zW x),(Aa x),(76,(vI u0)),(FP u0 p),(87,(vI 0)),(Y4 p u0 u4)],(Dr u3)⟩) ⟨⟨tR,tR,tR,⟨_,rfl,eH.v (eO.one (dO.of (congrArg (fun n=>CV.d (.int .i64 n)) (of_decide_eq_true hb2))))⟩,tR,tR,tR,tR,tR,⟨_,rfl,eH.v (eO.one (dO.of (congrArg (fun n=>CV.d (.int .i64 n)) (of_decide_eq_true hb2))))⟩,tR,trivial⟩,(.refl _)⟩) ?_
           refine aO h fun a1 h=> ?_
           refine di tT mX ⟨(abR p x u3 u0),[(11,some (.arr 3 1 u3.length (ZO p x u0 u4 u3)))]⟩ [_,_,(0:Int)≤0∧(0:Int)<(2:Nat),_,_,aG u3.length 1 (jZ (aC (au .i64) u3) (Rb p u0 u4) 0 [(.int .i64 (ae9 p x u0 u4 u3))]) (ZO p x u0 u4 u3)] {an:=[(9, .arr 0 (ZO p x u0 u4 u3))] } [] ⟨a1,(tL a1),((by decide)),a1,(tL a1),(bL _ _ _ _ _ _ _ _ rfl (fun j hj=>(match j,hj with|0,_=>rfl))),trivial⟩ (bM.le (st':=⟨[(bn p),(adM p x u0 u4 u3),(Eh x u0),(zW x),(Aa x),(76,(vI u0)),(FP u0 p),(87,(vI 0))],(aeY p x u0 u4 u3)⟩) ⟨⟨tR,⟨_,rfl,eH.v (eO.one cW)⟩,tR,tR,tR,tR,tR,tR,trivial⟩,⟨rfl,oW,trivial⟩⟩) ?_
           refine rz tT ⟨[(bn p),(adM p x u0 u4 u3),(Eh x u0),(zW x),(Aa x),(76,(vI u0)),(FP u0 p),(87,(vI 1))],(aeY p x u0 u4 u3)⟩ {} [] ?_
           obtain rfl:=oi h
           exact lN
          ·skip
           refine aO h fun a1 h=> ?_
           refine aI (bM.le (st':=⟨[(bn p),(tC u3),(Eh x u0),(14,(vI 1)),(X6 p u0 u4),(zW x),(Aa x),(76,(vI u0)),(FP u0 p),(87,(vI 1)),(Y4 p u0 u4)],(Dr u3)⟩) ⟨⟨tR,tR,tR,⟨_,rfl,eH.v (eO.one (dO.of (congrArg (fun n=>CV.d (.int .i64 n)) a1)))⟩,tR,tR,tR,tR,tR,⟨_,rfl,eH.v (eO.one (dO.of (congrArg (fun n=>CV.d (.int .i64 n)) a1)))⟩,tR,trivial⟩,(.refl _)⟩) ?_
           refine aO h fun a1 h=> ?_
           refine di tT mX ⟨[(bn p),(tC u3),(Eh x u0),(zW x),(Aa x),(76,(vI u0)),(FP u0 p),(87,(vI 1))],[(11,some (.arr 3 1 u3.length (Zn p x u0 u4 u3)))]⟩ [_,_,(0:Int)≤1∧(1:Int)<(2:Nat),_,_,aG u3.length 1 (jZ (aC (au .i64) u3) (Rb p u0 u4) 0 [(.int .i64 (aey p x u0 u4 u3))]) (Zn p x u0 u4 u3)] {an:=[(9, .arr 0 (Zn p x u0 u4 u3))] } [] ⟨a1,(tL a1),((by decide)),a1,(tL a1),(bL _ _ _ _ _ _ _ _ rfl (fun j hj=>(match j,hj with|0,_=>rfl))),trivial⟩ (bM.le (st':=⟨[(bn p),(afs p x u0 u4 u3),(Eh x u0),(zW x),(Aa x),(76,(vI u0)),(FP u0 p),(87,(vI 1))],(aeL p x u0 u4 u3)⟩) ⟨⟨tR,⟨_,rfl,eH.v (eO.one cW)⟩,tR,tR,tR,tR,tR,tR,trivial⟩,⟨rfl,oW,trivial⟩⟩) ?_
           refine rz tT ⟨[(bn p),(afs p x u0 u4 u3),(Eh x u0),(zW x),(Aa x),(76,(vI u0)),(FP u0 p),(87,(vI 2))],(aeL p x u0 u4 u3)⟩ {} [] ?_
           obtain rfl:=oi h
           exact lN
         ·refine cf hb4 ?_
          refine aP (rz tT ⟨[(bn p),(tC u3),(Eh x u0),(zW x),(Aa x),(76,(vI u0)),(FP u0 p),(87,(k3 u4))],(Dr u3)⟩ {} [] ?_)
          obtain rfl:=oi h
          exact lN
        ·refine cf hb5 ?_
         refine aI (fz (Zb x u3 p u0) []) ?_
         refine aX ?_
         obtain rfl:=oi h
         exact lB
       ·clear hy
        cases y2 with
        |brk z=>
         obtain⟨v0,rfl⟩: ∃q,q=z:=⟨_,rfl⟩
         unfold gm
         refine⟨_, .refl, ?_⟩
         refine rz tT ⟨[(bn p),(tC v0),(zW x),(Aa x),(76,(k3 u0))],(Dr v0)⟩ {} [] ?_
         obtain rfl:=oi h
         exact lN
        |ret v=>
         obtain rfl:=oi h
         unfold gm
         intro e st hn ha hR
         cases e with
         |normal=>exact absurd rfl hn
         |exit id=>simp only [qz (b:=5) ha rfl,cond_false];exact hR
         |goto l=>exact hR
         |ret=>exact hR
         |panic c=>exact hR
         |outgrown=>exact hR
      ·refine cf hb6 ?_
       refine aI (fz ⟨[(tC u7)],(Dr u7)⟩ []) ?_
       refine aX ?_
       obtain rfl:=oi h
       exact lB
     ·clear hy
      cases y3 with
      |brk z=>
       obtain⟨v1,rfl⟩: ∃q,q=z:=⟨_,rfl⟩
       unfold gm
       refine⟨_, .refl, ?_⟩
       refine aQ (bE h fun r_ hr_ h=> ?_)
       have q0:=rk [(0,11)] (q9 v1 hr_)
       refine rg tT ⟨[(6,(vB (!r_)))],[]⟩ [_] {an:=[(1,cR q0 [11])] } [] ⟨q0,trivial⟩ ?_
       refine aR ?_
       obtain rfl:=oi h
       exact rl [(sB (!r_))]
      |ret v=>
       obtain rfl:=oi h
       unfold gm
       intro e st hn ha hR
       cases e with
       |normal=>exact absurd rfl hn
       |exit id=>exact hR
       |goto l=>exact hR
       |ret=>exact hR
       |panic c=>exact hR
       |outgrown=>exact hR
    |ret v=>
     obtain rfl:=oi h
     unfold gm
     intro e st hn ha hR
     cases e with
     |normal=>exact absurd rfl hn
     |exit id=>exact hR
     |goto l=>exact hR
     |ret=>exact hR
     |panic c=>exact hR
     |outgrown=>exact hR
  |ret v=>
   obtain rfl:=oi h
   unfold gm
   intro e st hn ha hR
   cases e with
   |normal=>exact absurd rfl hn
   |exit id=>exact hR
   |goto l=>exact hR
   |ret=>exact hR
   |panic c=>exact hR
   |outgrown=>exact hR
def Ac  :Int→Exit→St→Prop:=
  fun r=>bB TT [.tmp 6] (vI r) []
section
variable (x:ai) (p:ah)
abbrev ZT:=(!decide ((x.sources.length:Int)=(p.sources.length:Int)))
abbrev ZV:=(bif (ZT x p)then true else(!decide ((x.links.length:Int)=(p.links.length:Int))))
abbrev D8:List (Nat × Option Ob):=[(10,some Y2)]
end
theorem yU (p:ah) (s_:State) (x:ai) {r:Int} (h:iB p s_ x=some r):Fn Try.prog 48 (VY p s_ x) [] (vI r) []:=by
 refine fN tT Try.func48 rfl rfl fun B=> ?_
 show bJ _ _ _ _ _ _ (Ac r) _
 unfold iB at h
 refine sz tT (Wp p s_ x) {fr:=[(0,7),(1,8),(2,9)] } [7,8,9] ?_
 refine aQ (aQ (bE h fun r_ hr_ h=> ?_))
 have q0:=eG p s_ hr_
 refine rg tT ⟨[(bn p),(aV s_),(tK x),(7,(vI r_))],[]⟩ [_] {an:=[(2,cA q0 [])] } [] ⟨q0,trivial⟩ ?_
 refine sz tT ⟨[(bn p),(aV s_),(tK x),(7,(vI r_)),(14,(vB (!decide (r_=0))))],[]⟩ {} [] ?_
 refine bI h (fun hb4 h=> ?_) (fun hb4 h=> ?_)
 ·refine ct hb4 ?_
  refine sz tT ⟨[(6,(vI r_))],[]⟩ {} [] ?_
  refine aR ?_
  obtain rfl:=oi h
  exact rl [(sI r_)]
 ·refine cf hb4 ?_
  refine aP (aQ (sg tT ⟨[(bn p),(aV s_),(tK x),(40,(vB (bif (ZV x p)then true else(!decide ((x.racks.length:Int)=(p.racks.length:Int))))))],[]⟩ (eqs (ZT x p) 8 (eqs (ZV x p) 8 [])) {yb:=[(7,(ZT x p)),(16,(ZV x p))] } [] (ae (ae trivial)) ?_))
  refine bI h (fun hb3 h=> ?_) (fun hb3 h=> ?_)
  ·refine ct hb3 ?_
   refine sz tT ⟨[(6,(vI 20))],[]⟩ {} [] ?_
   refine aR ?_
   obtain rfl:=oi h
   exact rl [(sI 20)]
  ·refine cf hb3 ?_
   refine aP (aQ (aQ (bE h fun u3 hr_1 h=> ?_)))
   have q0:=rk [(0,10)] (Du hr_1)
   refine rg tT ⟨[(bn p),(aV s_),(tK x),(41,(vO 10 true 3)),(42,(vI (3:Int))),(43,(vI 0))],D8⟩ [_] {an:=[(0,cA q0 [])] } [] ⟨q0,trivial⟩ ?_
   refine aB (SK 12 (yX 11 (sz tT ⟨[(bn p),(aV s_),(tK x),(41,(vO 10 true 3)),(42,(vI (3:Int))),(43,(vI 0)),(44,(vB true))],D8⟩ {} [] ?_)))
   refine aQ (ck (aP (aQ (aB (aQ (aO h fun a1 h=> ?_))))))
   refine rg tT ⟨[(bn p),(aV s_),(tK x),(9,(vD (lT [(.fn 128 0 (nC []))] 0))),(41,(vO 10 true 3)),(42,(vI (3:Int))),(43,(vI 0))],D8⟩ [_] {fr:=[(2,11)] } [11] ⟨a1,trivial⟩ ?_
   refine aQ (bE h fun u0 hr_2 h=> ?_)
   have q0:=DK p s_ x hr_2
   refine rg tT ⟨[(bn p),(aV s_),(tK x),(41,(vO 10 true 3)),(42,(vI (3:Int))),(43,(vI 0)),(53,(vB (!u0)))],D8⟩ [_] {an:=[(5,cA q0 [])] } [] ⟨q0,trivial⟩ ?_
   refine bI h (fun hb2 h=> ?_) (fun hb2 h=> ?_)
   ·refine ct hb2 ?_
    refine sz tT ⟨[(6,(vI 20))],[]⟩ {} [] ?_
    refine aR ?_
    obtain rfl:=oi h
    exact rl [(sI 20)]
   ·refine cf hb2 ?_
    refine aP (rz tT ⟨[(bn p),(aV s_),(tK x),(41,(vO 10 true 3)),(42,(vI (3:Int))),(43,(vI 1))],D8⟩ {} [] ?_)
    refine yX 10 (sz tT ⟨[(bn p),(aV s_),(tK x),(41,(vO 10 true 3)),(42,(vI (3:Int))),(43,(vI 1)),(44,(vB true))],D8⟩ {} [] ?_)
    refine aQ (ck (aP (aQ (aB (aQ (aO h fun a1 h=> ?_))))))
    refine rg tT ⟨[(bn p),(aV s_),(tK x),(9,(vD (lT [(.fn 129 0 (nC []))] 0))),(41,(vO 10 true 3)),(42,(vI (3:Int))),(43,(vI 1))],D8⟩ [_] {fr:=[(2,12)] } [12] ⟨a1,trivial⟩ ?_
    refine aQ (bE h fun u1 hr_3 h=> ?_)
    have q0:=Gm p s_ x hr_3
    refine rg tT ⟨[(bn p),(aV s_),(tK x),(41,(vO 10 true 3)),(42,(vI (3:Int))),(43,(vI 1)),(53,(vB (!u1)))],D8⟩ [_] {an:=[(5,cA q0 [])] } [] ⟨q0,trivial⟩ ?_
    refine bI h (fun hb1 h=> ?_) (fun hb1 h=> ?_)
    ·refine ct hb1 ?_
     refine sz tT ⟨[(6,(vI 20))],[]⟩ {} [] ?_
     refine aR ?_
     obtain rfl:=oi h
     exact rl [(sI 20)]
    ·refine cf hb1 ?_
     refine aP (rz tT ⟨[(bn p),(aV s_),(tK x),(41,(vO 10 true 3)),(42,(vI (3:Int))),(43,(vI 2))],D8⟩ {} [] ?_)
     refine yX 9 (sz tT ⟨[(bn p),(aV s_),(tK x),(41,(vO 10 true 3)),(42,(vI (3:Int))),(43,(vI 2)),(44,(vB true))],D8⟩ {} [] ?_)
     refine aQ (ck (aP (aQ (aB (aQ (aO h fun a1 h=> ?_))))))
     refine rg tT ⟨[(bn p),(aV s_),(tK x),(9,(vD (lT [(.fn 130 0 (nC []))] 0))),(41,(vO 10 true 3)),(42,(vI (3:Int))),(43,(vI 2))],D8⟩ [_] {fr:=[(2,13)] } [13] ⟨a1,trivial⟩ ?_
     refine aQ (bE h fun u2 hr_4 h=> ?_)
     have q0:=CF p s_ x hr_4
     refine rg tT ⟨[(bn p),(aV s_),(tK x),(41,(vO 10 true 3)),(42,(vI (3:Int))),(43,(vI 2)),(53,(vB (!u2)))],D8⟩ [_] {an:=[(5,cA q0 [])] } [] ⟨q0,trivial⟩ ?_
     refine bI h (fun hb h=> ?_) (fun hb h=> ?_)
     ·refine ct hb ?_
      refine sz tT ⟨[(6,(vI 20))],[]⟩ {} [] ?_
      refine aR ?_
      obtain rfl:=oi h
      exact rl [(sI 20)]
     ·refine cf hb ?_
      refine aP (rz tT ⟨[(bn p),(aV s_),(tK x),(41,(vO 10 true 3)),(42,(vI (3:Int))),(43,(vI 3))],D8⟩ {} [] ?_)
      refine yX 8 (sz tT ⟨[(bn p),(aV s_),(tK x),(41,(vO 10 true 3)),(42,(vI (3:Int))),(43,(vI 3)),(44,(vB false))],D8⟩ {} [] ?_)
      refine aQ (cn (aX (sz tT ⟨[(6,(vI 0))],[]⟩ {} [] ?_)))
      refine aR ?_
      obtain rfl:=oi h
      exact rl [(sI 0)]
def EZ  :Int→Exit→St→Prop:=
  fun r=>bB TT [.tmp 8] (vI r) []
section
variable (p:ah) (s_:State) (x:ai)
abbrev YZ:Nat × TV:=(4,(k9 p))
abbrev aaD:Nat × TV:=(5,(k74 s_))
abbrev Wx:Nat × TV:=(6,(agd x))
end
theorem jC (p:ah) (s_:State) (x:ai) (u1:(List Bool)) {r:Int} (h:fe p s_ x u1=some r):Fn Try.prog 49 [(.agg (k5 p)),(.agg (QK s_)),(.agg (Xy x)),(sD (aK none 1 aj u1))] [] (vI r) []:=by
 refine fN tT Try.func49 rfl rfl fun B=> ?_
 show bJ _ _ _ _ _ _ (EZ r) _
 unfold fe at h
 refine sz tT ⟨[(3,(vD (aK none 1 aj u1))),(YZ p),(aaD s_),(Wx x)],[]⟩ {fr:=[(0,3),(1,4),(2,5)] } [3,4,5] ?_
 refine aQ (aQ (bE h fun r_ hr_ h=> ?_))
 have q0:=yU p s_ x hr_
 refine rg tT ⟨[(3,(vD (aK none 1 aj u1))),(YZ p),(aaD s_),(Wx x),(9,(vI r_))],[]⟩ [_] {an:=[(3,cA q0 [])] } [] ⟨q0,trivial⟩ ?_
 refine sz tT ⟨[(3,(vD (aK none 1 aj u1))),(YZ p),(aaD s_),(Wx x),(9,(vI r_)),(17,(vB (!decide (r_=0))))],[]⟩ {} [] ?_
 refine bI h (fun hb1 h=> ?_) (fun hb1 h=> ?_)
 ·refine ct hb1 ?_
  refine sz tT ⟨[(8,(vI r_))],[]⟩ {} [] ?_
  refine aR ?_
  obtain rfl:=oi h
  exact rl [(sI r_)]
 ·refine cf hb1 ?_
  refine aP (aQ (bE h fun u0 hr_1 h=> ?_))
  have q0:=og p s_ u1 hr_1
  refine rg tT ⟨[(Wx x),(10,(vI u0.1)),(11,(vI u0.2))],[]⟩ [_] {an:=[(3,cA q0 [])] } [] ⟨q0,trivial⟩ ?_
  refine aQ (aQ (bE h fun u2 hr_2 h=> ?_))
  refine rg tT ⟨[(11,(vI u0.2)),(33,(vB (bif (decide (u0.2=0))then(!decide (u0.1=u2))else false)))],[]⟩ (eqs (decide (u0.2=0)) 3 ((gP (jl [(2,(decide (u0.2=0)))]) [(2,true)]→All [Fn Try.prog 41 (abO x) [] (vI u2) []])::(eqs (decide (u0.2=0)) 2 []))) {yb:=[(2,(decide (u0.2=0)))],an:=[(5, .call [] (vI u2) [])] } [] (ae ⟨(fun hg=> ⟨(dA x (gF hr_2 (aZ hg))),trivial⟩),(ae trivial)⟩) ?_
  refine bI h (fun hb h=> ?_) (fun hb h=> ?_)
  ·refine ct hb ?_
   refine rz tT ⟨[(11,(vI 7))],[]⟩ {} [] ?_
   refine sz tT ⟨[(8,(vI 7))],[]⟩ {} [] ?_
   refine aR ?_
   obtain rfl:=oi h
   exact rl [(sI 7)]
  ·refine cf hb ?_
   refine aP (sz tT ⟨[(8,(vI u0.2))],[]⟩ {} [] ?_)
   refine aR ?_
   obtain rfl:=oi h
   exact rl [(sI u0.2)]
def qG  :Bool→Exit→St→Prop:=
  fun r=>bB TT [.tmp 4] (vB r) []
def vX (a:(List Int)) (b:(List Int)):Int→St:=
  fun i=> ⟨[(jW a),(BD b),(5,(vI i))],[]⟩
def wO  :Unit→St:=
  fun _=> ⟨[],[]⟩
def Ed (a:(List Int)) (b:(List Int)):(aM Int (Ex Unit Bool))→Exit→St→Prop:=
  LQ 0 [] (vX a b) wO qG
theorem dG (a:(List Int)) (b:(List Int)) {r:Bool} (h:dI a b=some r):Fn Try.prog 54 [(sD (y9 a)),(sD (y9 b))] [] (vB r) []:=by
 refine fN tT Try.func54 rfl rfl fun B=> ?_
 show bJ _ _ _ _ _ _ (qG r) _
 unfold dI at h
 refine sz tT (Xu a b) {} [] ?_
 refine aQ (sz tT ⟨[(jW a),(BD b),(10,(vB (!decide ((a.length:Int)=(b.length:Int)))))],[]⟩ {} [] ?_)
 refine bI h (fun hb2 h=> ?_) (fun hb2 h=> ?_)
 ·refine ct hb2 ?_
  refine sz tT ⟨[(4,(vB false))],[]⟩ {} [] ?_
  refine aR ?_
  obtain rfl:=oi h
  exact rl [(sB false)]
 ·refine cf hb2 ?_
  refine aP (aQ (sz tT ⟨[(jW a),(BD b),(5,(vI 0))],[]⟩ {} [] ?_))
  refine bE h fun y hy h=> ?_
  refine aL [] (vX a b) wO qG hy (fun s f h=> ?_) ?_
  ·clear hy
   show bJ _ _ _ _ _ _ ((Ed a b) f) _
   unfold wu at h
   obtain⟨i,rfl⟩: ∃q,q=s:=⟨_,rfl⟩
   refine aQ (sz tT ⟨[(jW a),(BD b),(5,(vI i)),(14,(Uw i a))],[]⟩ {} [] ?_)
   refine bI h (fun hb1 h=> ?_) (fun hb1 h=> ?_)
   ·refine ct hb1 ?_
    refine aP (aQ (aB (aQ (aO h fun⟨a1,a2⟩ h=> ?_))))
    refine dg tT mX ⟨[(jW a),(BD b),(5,(vI i)),(25,(vB (!decide ((at' a i.toNat)=(at' b i.toNat)))))],[]⟩ [_,_] {} [] ⟨a1,a2,trivial⟩ ?_
    refine bI h (fun hb h=> ?_) (fun hb h=> ?_)
    ·refine ct hb ?_
     refine sz tT ⟨[(4,(vB false))],[]⟩ {} [] ?_
     refine aR ?_
     obtain rfl:=oi h
     exact lR dX (dZ 0) dY (bB.mk (.inr rfl) (p:=[]) (l:=[(sB false)]) (by kernel_rfl) trivial (eH.refl _) trivial)
    ·refine cf hb ?_
     refine aP (rz tT ⟨[(jW a),(BD b),(k2 i)],[]⟩ {} [] ?_)
     obtain rfl:=oi h
     exact lN
   ·refine cf hb1 ?_
    refine aI (fz ⟨[],[]⟩ []) ?_
    refine aX ?_
    obtain rfl:=oi h
    exact lB
  ·clear hy
   cases y with
   |brk z=>
    unfold gm
    refine⟨_, .refl, ?_⟩
    refine sz tT ⟨[(4,(vB true))],[]⟩ {} [] ?_
    refine aR ?_
    obtain rfl:=oi h
    exact rl [(sB true)]
   |ret v=>
    obtain rfl:=oi h
    unfold gm
    intro e st hn ha hR
    cases e with
    |normal=>exact absurd rfl hn
    |exit id=>exact hR
    |goto l=>exact hR
    |ret=>exact hR
    |panic c=>exact hR
    |outgrown=>exact hR
def lY  :Bool→Exit→St→Prop:=
  fun r=>bB TT [.tmp 4] (vB r) []
section
variable (a:(List Short))
abbrev OB:Nat × TV:=(0,(vD (aK none 4 Short.cell a)))
end
def pW (a:(List Short)) (b:(List Short)):Int→St:=
  fun i=> ⟨[(OB a),(Gt b),(5,(vI i))],[]⟩
def qg  :Unit→St:=
  fun _=> ⟨[],[]⟩
def zU (a:(List Short)) (b:(List Short)):(aM Int (Ex Unit Bool))→Exit→St→Prop:=
  LQ 0 [] (pW a b) qg lY
end
end Sg
