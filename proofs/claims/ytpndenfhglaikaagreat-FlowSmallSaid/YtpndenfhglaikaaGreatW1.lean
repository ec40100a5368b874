import Derived.Test.YtpndenfhglaikaaGreatW0
set_option linter.all false
namespace Sg
open Go Go.Proofs
set_option maxRecDepth 20000
noncomputable section
section
variable (p:ah) (s_:State) (r_:Int) (v0:Int) (v4:(Int × Network)) (v8:(List (Int × Int))) (u7:Int) (p1:(List Source)) (v5:(Int × Network)) (x0:(List Int)) (u4:(List (Int × Int))) (v9:(List (Int × Int))) (v7:Int) (u0:Int) (u2:(List aC)) (w0:Int) (x4:(Int × Network)) (p2:(List Link)) (p3:(List aC)) (x1:(List Int)) (x2:(List af)) (u5:(List (Int × Int))) (ua:(List (af × Int))) (v3:Int) (v6:(Int × Network)) (w9:(List bg)) (x6:(List (List Int))) (u1:Network) (i:Nat) (w5:(List Int)) (i1:Nat) (w6:(List Int)) (u3:(List (af × Int))) (i2:Nat) (u9:(List af)) (u6:(List Int))
abbrev YH:List (Nat × Option Ob):=[(zC p),bX]
abbrev aeJ:St:=⟨[(2,(vP 63 0)),(gI s_),(4,(vP 65 0))],(YH p)⟩
abbrev adI:St:=⟨[(2,(vP 63 0)),(gI s_),(4,(vP 65 0)),(7,(vI r_))],(YH p)⟩
abbrev afS:St:=⟨[(2,(vP 63 0)),(gI s_),(4,(vP 65 0)),(7,(vI r_)),(34,(vB (!decide (r_=0))))],(YH p)⟩
abbrev YB:DV:=(bM none 1 (aG .i64) ([]:List Int))
abbrev aee:St:=⟨[(2,(vP 63 0)),(gI s_),(4,(vP 65 0)),(iP p)],(YH p)⟩
abbrev YD:List (Nat × TV):=[(2,(vP 63 0)),(gI s_),(4,(vP 65 0)),(iP p),(9,(vP 67 0))]
abbrev VX:=(IntKind.wrap .i64 ((IntKind.wrap .i64 ((IntKind.wrap .i64 ((1:Int)+p.buses))+(p.racks.length:Int)))+1))
abbrev Qk:=((VX p).toNat)
abbrev yc:=(List.replicate (Qk p) (([]:List Int):(List Int)))
abbrev MW:=((yc p).length)
abbrev acL:List CV:=[(.d nS),(.own 66 true (MW p))]
abbrev aeH:Nat × Option Ob:=(67,some (.cells 151 (acL p)))
abbrev aaW:=((VX p):Int)
abbrev ZA:=(xN sH (yc p))
abbrev UQ:Nat × Option Ob:=(66,some (.rows 35 1 (yc p).length (ZA p) none))
abbrev abt:Nat × Option Ob:=(67,some (.cells 151 [(.own 68 false (([]:List bg).length)),(.own 66 true (MW p))]))
abbrev abG:Nat × Option Ob:=(68,some (bZ 157 2 bg.cell ([]:List bg)))
abbrev PN:=((p.sources.length:Int):Int)
abbrev SH:=(au (aG .i64) (ME p))
abbrev R6:=((p.links.length:Int):Int)
abbrev Kb:=(au (aG .i64) (Db p))
abbrev TF:=(au af.cell (LJ p))
abbrev afs:List (Nat × Option Ob):=[(zC p),bX,(UQ p),(abt p),abG,(UX p),(MH p),(KA p),(UA p),(73,some TJ),Vo,MV]
abbrev Tt:=((at' p.sources v0.toNat).power)
abbrev SA:Nat × TV:=(15,(vD (DK [(.int .i64 (Uy p v0)),(.int .i64 ((at' p.sources v0.toNat).kind)),(.int .i64 (Tt p v0)),(.int .i64 ((at' p.sources v0.toNat).sync)),(.int .i64 ((at' p.sources v0.toNat).bJ))] 0)))
abbrev aaI:=(IntKind.wrap .i64 ((1:Int)+(Uy p v0)))
abbrev OM:Nat × Option Ob:=(66,some (.rows 35 1 v4.2.from_.length (xN sH v4.2.from_) none))
abbrev GZ:Ob:=(Ru 3 3 false false 1 1 (aG .i64) (aG .i64) (gG J3 v0 v4.1 v8))
abbrev xH:Ob:=(bZ 157 2 bg.cell v4.2.arcs)
abbrev aej:List (Nat × Option Ob):=[(zC p),bX,(OM v4),(67,some (.cells 151 [(.own 83 false v4.2.arcs.length),(.own 66 true v4.2.from_.length)])),(UX p),(MH p),(KA p),(UA p),(73,some (GZ v0 v4 v8)),Vo,MV,(83,some (xH v4))]
abbrev GH:=(xW (aG .i64) (gG J3 v0 v4.1 v8))
abbrev GN:=(xY (aG .i64) (gG J3 v0 v4.1 v8))
abbrev aar:List (Nat × TV):=[(2,(vP 63 0)),(gI s_),(4,(vP 65 0)),(iP p),(9,(vP 67 0)),(10,(vP 72 0)),tY,rR,pF,(Ab p),(Ao p),(68,(vI (k4 v0)))]
abbrev afL:Nat × Option Ob:=(67,some (.cells 151 [(.own 68 false v4.2.arcs.length),(.own 66 true v4.2.from_.length)]))
abbrev IX:=((at' p.links u7.toNat).most)
abbrev R8:Nat × TV:=(17,(vD (DK [(.int .i64 (Wi u7 p)),(.int .i64 (Xe u7 p)),(.int .i64 ((at' p.links u7.toNat).kind)),(.int .i64 (IX p u7)),(.int .i64 ((at' p.links u7.toNat).bJ)),(bM none 2 gD.cell ((at' p.links u7.toNat).trip))] 0)))
abbrev Zq:=(IntKind.wrap .i64 ((1:Int)+(Wi u7 p)))
abbrev abR:=(IntKind.wrap .i64 ((1:Int)+(Xe u7 p)))
abbrev ac9:List (Nat × Option Ob):=[(Od p p1),bX,(OM v5),(67,some (.cells 151 [(.own 91 false v5.2.arcs.length),(.own 66 true v5.2.from_.length)])),(nU x0),(MH p),(KA p),(Yd p x0),(Cz u4),(74,some (GZ u7 v5 v9)),MV,(91,some (xH v5))]
abbrev aaM:List (Nat × TV):=[(2,(vP 63 0)),(gI s_),(4,(vP 65 0)),(iP p),(9,(vP 67 0)),(10,(vP 72 0)),tY,rR,pF,(Af p),(Ae p),(90,(vI (k4 u7)))]
abbrev adg:List (Nat × TV):=[(2,(vP 63 0)),(gI s_),(4,(vP 65 0)),(8,(vI v7)),(9,(vP 67 0)),(10,(vP 72 0)),tY,rR,pF,(18,(vI u0)),(xM u2 u0),(qG u2),(116,(vI w0)),(117,(vI u0))]
abbrev TU:=(IntKind.wrap .i64 ((IntKind.wrap .i64 ((1:Int)+p.buses))+u0))
abbrev acE:Nat × Option Ob:=(67,some (.cells 151 [(.own 111 false x4.2.arcs.length),(.own 66 true x4.2.from_.length)]))
abbrev afv:List (Nat × Option Ob):=[(eG p p1 p2 p3),bX,(OM x4),(acE x4),(nU x0),(qE x1),(tC x2),(tH x2 x0 x1),(Cz u4),(CX u5),(Er ua),(111,some (xH x4))]
abbrev Rb:=(at' [(k28 u2 u0).e0,(k28 u2 u0).e1] v3.toNat)
abbrev TR:Nat × TV:=(21,(vI (Rb u0 u2 v3)))
abbrev Te:List DV:=[(.int .i64 (Rb u0 u2 v3))]
abbrev Zo:=(IntKind.wrap .i64 ((1:Int)+(Rb u0 u2 v3)))
abbrev ab9:Nat × Option Ob:=(67,some (.cells 151 [(.own 115 false v6.2.arcs.length),(.own 66 true v6.2.from_.length)]))
abbrev YQ:Nat × Option Ob:=(115,some (xH v6))
abbrev SY:List DV:=[(.int .i64 u0),(.int .i64 v3)]
abbrev aax:List (Nat × TV):=[(2,(vP 63 0)),(gI s_),(4,(vP 65 0)),(8,(vI v7)),(9,(vP 67 0)),(10,(vP 72 0)),tY,rR,pF,(18,(vI u0)),(xM u2 u0),(qG u2),(116,(vI w0)),(117,(vI u0)),(zY u2 u0),(134,(vI (k4 v3)))]
abbrev acX:List (Nat × TV):=[(2,(vP 63 0)),(gI s_),(4,(vP 65 0)),(8,(vI v7)),(9,(vP 67 0)),(10,(vP 72 0)),tY,rR,pF,(qG u2),(116,(vI w0)),(117,(vI (k4 u0)))]
abbrev adL:Nat × Option Ob:=(67,some (.cells 151 [(.own 68 false w9.length),(.d (bM (some true) 1 (UO 1 (aG .i64)) x6))]))
abbrev adV:List (Nat × Option Ob):=[(adL w9 x6),(Mt w9)]
abbrev aeh:List (Nat × Option Ob):=[(yH u1),(yS u1)]
abbrev AV:=(at' (u4.map Prod.fst) i)
abbrev E5:=(at' (u4.map Prod.snd) i)
abbrev acw:=((at' u1.arcs ((IntKind.wrap .i64 (((BitVec.ofInt (IntKind.bits .i64) (E5 u4 i) ^^^ BitVec.ofInt (IntKind.bits .i64) 1).toNat:Int))).toNat)).left)
abbrev aal:=(w5.set ((AV u4 i).toNat) (acw u4 u1 i))
abbrev Ms:=(au (aG .i64) (aal u4 u1 i w5))
abbrev ZX:=(eX (au (aG .i64) w5) ((AV u4 i).toNat) 0 [(.int .i64 (acw u4 u1 i))])
abbrev aaV:Ob:=(bZ 3 1 (aG .i64) (aal u4 u1 i w5))
abbrev ZF:=((aal u4 u1 i w5).length)
abbrev aeT:=(IntKind.wrap .i64 (((at' p2 ((AV u5 i1).toNat)).most) - ((at' u1.arcs ((E5 u5 i1).toNat)).left)))
abbrev abm:=(w6.set ((AV u5 i1).toNat) (aeT p2 u5 u1 i1))
abbrev M6:=(au (aG .i64) (abm p2 u5 u1 i1 w6))
abbrev aaA:=(eX (au (aG .i64) w6) ((AV u5 i1).toNat) 0 [(.int .i64 (aeT p2 u5 u1 i1))])
abbrev aas:Ob:=(bZ 3 1 (aG .i64) (abm p2 u5 u1 i1 w6))
abbrev ZP:=((abm p2 u5 u1 i1 w6).length)
abbrev XM:List CV:=[(cI ((at' (u3.map Prod.fst) i2).e0)),(cI ((at' (u3.map Prod.fst) i2).e1))]
abbrev ZJ:List (Nat × TV):=[(2,(vP 63 0)),(4,(vP 65 0)),(9,(vP 67 0)),(10,(vP 72 0)),(26,(vP 121 0)),(27,(vI (at' (u3.map Prod.snd) i2))),(208,(vP 118 0))]
abbrev ZV:Ob:=(.cells 69 (XM u3 i2))
abbrev ZU:Ob:=(.cells 69 [(cI ((at' (u3.map Prod.fst) i2).e0)),(cI 0)])
abbrev Ul:=(((at' (u3.map Prod.fst) i2).e0).toNat)
abbrev abA:=(at' u1.arcs ((IntKind.wrap .i64 (((BitVec.ofInt (IntKind.bits .i64) (at' (u3.map Prod.snd) i2) ^^^ BitVec.ofInt (IntKind.bits .i64) 1).toNat:Int))).toNat))
abbrev ZO:=(u9.set (Ul u3 i2) (⟨(abA u1 u3 i2).left,(at' u9 (Ul u3 i2)).e1⟩:af))
abbrev MG:=(au af.cell (ZO u1 u3 i2 u9))
abbrev ae8:List DV:=[(.int .i64 ((abA u1 u3 i2).left))]
abbrev ZG:=(eX (au af.cell u9) (Ul u3 i2) 0 (ae8 u1 u3 i2))
abbrev ZN:Ob:=(bZ 69 2 af.cell (ZO u1 u3 i2 u9))
abbrev aac:=((ZO u1 u3 i2 u9).length)
abbrev ZK:Ob:=(.cells 69 [(cI ((at' (u3.map Prod.fst) i2).e0)),(cI 1)])
abbrev ZC:=(u9.set (Ul u3 i2) (⟨(at' u9 (Ul u3 i2)).e0,(abA u1 u3 i2).left⟩:af))
abbrev Mv:=(au af.cell (ZC u1 u3 i2 u9))
abbrev abo:=(eX (au af.cell u9) (Ul u3 i2) 1 (ae8 u1 u3 i2))
abbrev aao:Ob:=(bZ 69 2 af.cell (ZC u1 u3 i2 u9))
abbrev Zr:=((ZC u1 u3 i2 u9).length)
abbrev rX:=(List.replicate p.buses.toNat (false:Bool))
abbrev Z5:Ob:=(bZ 4 1 aj (rX p))
abbrev VB:Nat × Option Ob:=(122,some (Z5 p))
abbrev Wj:=((rX p).length)
abbrev VE:Nat × Option Ob:=(123,some (.cells 27 [(.own 122 true (Wj p))]))
abbrev Ca:=(au aj (rX p))
abbrev acK:List (Nat × TV):=[(2,(vP 63 0)),(4,(vP 65 0)),(10,(vP 72 0)),(28,(vP 123 0)),(235,(.v (.one (.fn 103 0 1 (MK [(.ptr 124 0)])))))]
abbrev aap:Ob:=(.cells 151 [(.d (bM none 2 bg.cell u1.arcs)),(.d (Xc u1))])
abbrev abu:Ob:=(.cells 147 [(.d (DK [(bM none 2 bg.cell u1.arcs),(Xc u1)] 0))])
abbrev Ww:DV:=(DK [(DK [(bM none 2 bg.cell u1.arcs),(Xc u1)] 0)] 0)
abbrev YI:TV:=(vD (.fn 103 1 (yU [(Ww u1)])))
abbrev Z0:Nat × TV:=(235,(YI u1))
abbrev acr:List (Nat × TV):=[(2,(vP 63 0)),(4,(vP 65 0)),(10,(vP 72 0)),(28,(vP 123 0)),(Z0 u1)]
abbrev aaD:List CV:=[(.d (Ww u1))]
abbrev yC:DV:=(bM none 1 (aG .i64) u6)
end
theorem zO (p:ah) (s_:State) {r:(aA × (List Bool) × Int)} (h:bN p s_=some r):Fn Tryz.prog 27 (Vk p s_) [] (.iV [(.agg [(.d (bM none 1 (aG .i64) r.1.sources)),(.d (bM none 1 (aG .i64) r.1.links)),(.d (bM none 2 af.cell r.1.racks))]),(sD (bM none 1 aj r.2.1)),(sI r.2.2)]) []:=by
 refine fN tT Tryz.func27 rfl rfl fun B=> ?_
 show jq _ _ _ _ _ _ (jB r) _
 unfold bN at h
 refine sz tT (aeJ p s_) {fr:=[(0,63),(1,64),(2,65)] } [64] ?_
 refine aQ (aQ (bE h fun r_ hr_ h=> ?_))
 have q0:=eH p s_ hr_
 refine rg tT (adI p s_ r_) [_] {an:=[(2,cA q0 [])] } [] ⟨q0,trivial⟩ ?_
 refine sz tT (afS p s_ r_) {} [] ?_
 refine bI h (fun hb9 h=> ?_) (fun hb9 h=> ?_)
 ·refine ct hb9 ?_
  refine sz tT ⟨[(4,(vD (DK [nS,nS,nS] 0))),(5,(vD nS)),(6,(vI r_))],[]⟩ {} [65] ?_
  refine aI (dX.le (st':=⟨[(4,(vD (DK [YB,YB,(bM none 2 af.cell ([]:List af))] 0))),(5,(vD (bM none 1 aj ([]:List Bool)))),(6,(vI r_))],[]⟩) ⟨⟨⟨_,rfl,zo.v (uG.one (gW.d (VY ⟨jK.nil',jK.nil',jK.nil',trivial⟩)))⟩,⟨_,rfl,zo.v (uG.one (gW.d jK.nil'))⟩,tR,trivial⟩,trivial⟩) ?_
  refine aR ?_
  obtain rfl:=oi h
  exact rl [(.agg [(.d YB),(.d YB),(.d (bM none 2 af.cell ([]:List af)))]),(sD (bM none 1 aj ([]:List Bool))),(sI r_)]
 ·refine cf hb9 ?_
  refine aP (sz tT (aee p s_) {} [] ?_)
  refine aQ (aO h fun⟨a1,a2,a3⟩ h=> ?_)
  refine ri tT ⟨(YD p s_),[(zC p),bX,(66,some (.arr 35 1 (yc p).length (fun _ j=>[nS].getD j .nilp))),(aeH p)]⟩ [_,(aaW p)=(VX p),_,_,(yc p).length=(Qk p),aD (Qk p) 1 (fun _ j=>[nS].getD j .nilp) (fun _ j=>[nS].getD j .nilp)] {an:=[(2, .arr (yc p).length (fun _ j=>[nS].getD j .nilp))],fr:=[(2,66),(4,67)] } [] ⟨a1,rfl,a2,a3,(List.length_replicate),(gm _ _ _),trivial⟩ (.trans (dX.LU (b:=66) (E:=35) (esz:=1) (len:=(yc p).length) (el:=(fun _ j=>[nS].getD j .nilp)) (el':=xN sH (yc p)) (by kernel_rfl) (fun i hi j hj=>match j,hj with|0,_=>JO _ _ _ _ _ _ _ _)) (.trans (fz ⟨(YD p s_),[(zC p),bX,(UQ p),(aeH p)]⟩ []) (.trans (dX.xQ (E:=0) (esz:=0) (E0:=151) (cs:=(acL p)) (p:=67) (q:=0) (b:=68) (esz0:=0) (el0:=fun _ _=> .nilp) (ob:= .arr 157 2 0 (au bg.cell ([]:List bg))) (fun _ _ _ _ h=> .inl ⟨h,rfl⟩) (by kernel_rfl) (by kernel_rfl) (by kernel_rfl)) (.trans (fz ⟨(YD p s_),[(zC p),bX,(UQ p),(67,some (.cells 151 [(.own 68 false 0),(.own 66 true (MW p))])),(68,some (.arr 157 2 0 (au bg.cell ([]:List bg))))]⟩ []) (dX.le (st':=⟨(YD p s_),[(zC p),bX,(UQ p),(abt p),abG]⟩) ⟨⟨tR,tR,tR,tR,tR,trivial⟩,(hN 3 ⟨rfl,bH ⟨cW,gW.refl _,trivial⟩,⟨rfl,oW,trivial⟩⟩)⟩))))) ?_
  refine aQ (aO h fun⟨a1,a2,a3,a4,a5,a6,a7,a8,a9⟩ h=> ?_)
  refine dg tT mX ⟨[(2,(vP 63 0)),(gI s_),(4,(vP 65 0)),(iP p),(9,(vP 67 0)),(10,(vP 72 0))],[(zC p),bX,(UQ p),(abt p),abG,(UX p),(MH p),(KA p),(UA p)]⟩ [_,(PN p)=(p.sources.length:Int),_,_,(ME p).length=(Hg p),aD (Hg p) 1 (fun _ j=>[(.int .i64 0)].getD j .nilp) (SH p),_,(R6 p)=(p.links.length:Int),_,_,(Db p).length=(yI p),aD (yI p) 1 (fun _ j=>[(.int .i64 0)].getD j .nilp) (Kb p),_,((p.racks.length:Int):Int)=(p.racks.length:Int),_,_,(LJ p).length=(QJ p),aD (QJ p) 2 (fun _ j=>[(.int .i64 0),(.int .i64 0)].getD j .nilp) (TF p)] {an:=[(3, .arr (ME p).length (SH p)),(7, .arr (Db p).length (Kb p)),(11, .arr (LJ p).length (TF p))],fr:=[(3,69),(7,70),(11,71),(13,72)] } [] ⟨a1,rfl,a2,a3,(List.length_replicate),(aW _ _ _ _ _ (fun j hj=>(match j,hj with|0,_=>rfl))),a4,rfl,a5,a6,(List.length_replicate),(aW _ _ _ _ _ (fun j hj=>(match j,hj with|0,_=>rfl))),a7,rfl,a8,a9,(List.length_replicate),(aW _ _ _ _ _ (fun j hj=>(match j,hj with|0,_=>rfl|1,_=>rfl))),trivial⟩ ?_
  refine sz tT ⟨(W9 s_ p),(afs p)⟩ {an:=[(0, .map 0 (xW (aG .i64) ([]:(List (Int × Int)))) (xY (aG .i64) ([]:(List (Int × Int)))) []),(1, .map 0 (xW (aG .i64) ([]:(List (Int × Int)))) (xY (aG .i64) ([]:(List (Int × Int)))) []),(2, .map 0 (xW af.cell ([]:(List (af × Int)))) (xY (aG .i64) ([]:(List (af × Int)))) [])],fr:=[(0,73),(1,74),(2,75)] } [] ?_
  refine aQ (sz tT ⟨[(2,(vP 63 0)),(gI s_),(4,(vP 65 0)),(iP p),(9,(vP 67 0)),(10,(vP 72 0)),tY,rR,pF,(Ab p),(Ao p),(68,(vI 0))],(afs p)⟩ {} [] ?_)
  refine bE h fun y hy h=> ?_
  refine aL [] (zU p s_) (zM p s_) jB hy (fun s f h=> ?_) ?_
  ·clear hy
   show jq _ _ _ _ _ _ ((Hf p s_) f) _
   unfold iL at h
   obtain⟨n0,n1,v8,v0⟩:=s
   refine sz tT ⟨[(2,(vP 63 0)),(gI s_),(4,(vP 65 0)),(iP p),(9,(vP 67 0)),(10,(vP 72 0)),tY,rR,pF,(Ab p),(Ao p),(68,(vI v0)),(69,(vB (decide (v0<(p.sources.length:Int)))))],(S9 p n1 n0 v8)⟩ {} [] ?_
   refine aQ ?_
   refine bI h (fun hb1 h=> ?_) (fun hb1 h=> ?_)
   ·refine ct hb1 ?_
    refine aP (aQ (aB (aQ (aO h fun a1 h=> ?_))))
    refine rg tT ⟨[(2,(vP 63 0)),(gI s_),(4,(vP 65 0)),(iP p),(9,(vP 67 0)),(10,(vP 72 0)),tY,rR,pF,(14,(vI v0)),(SA p v0),(Ab p),(Ao p),(68,(vI v0))],(S9 p n1 n0 v8)⟩ [_] {fr:=[(3,82)] } [82] ⟨a1,trivial⟩ ?_
    refine aQ (bE h fun ui hr_1 h=> ?_)
    have q0:=iK p s_ v0 hr_1
    refine rg tT ⟨[(2,(vP 63 0)),(gI s_),(4,(vP 65 0)),(iP p),(9,(vP 67 0)),(10,(vP 72 0)),tY,rR,pF,(14,(vI v0)),(SA p v0),(Ab p),(Ao p),(68,(vI v0)),(76,(vB ui))],(S9 p n1 n0 v8)⟩ [_] {an:=[(3,cA q0 [])] } [] ⟨q0,trivial⟩ ?_
    refine bI h (fun hb h=> ?_) (fun hb h=> ?_)
    ·refine ct hb ?_
     refine bE h fun v4 hr_2 h=> ?_
     have q0:=rk [(0,67),(1,68),(2,66),(3,83)] (bD 0 (aaI p v0) (Tt p v0) 0 (⟨n0,n1⟩:Network) hr_2)
     refine rg tT ⟨(afN s_ p v0),(aej p v0 v4 v8)⟩ [_,Bb [some .i64] 1 1 v8.length (xW (aG .i64) v8) (xY (aG .i64) v8) [(.int .i64 v0)] [(cI v4.1)] [] (gG J3 v0 v4.1 v8).length (GH v0 v4 v8) (GN v0 v4 v8)] {an:=[(8,cA q0 [67,68,66]),(9, .map (gG J3 v0 v4.1 v8).length (GH v0 v4 v8) (GN v0 v4 v8) [])] } [] ⟨q0,(rD (fun _=>rfl) (fun _ _=>rfl) v8 v0 v4.1 rfl rfl),trivial⟩ ?_
     refine ri tT ⟨(aar p s_ v0),(aej p v0 v4 v8)⟩ [] {} [] trivial (dX.fin (st':=⟨(aar p s_ v0),[(zC p),bX,(OM v4),(afL v4),(68,some (xH v4)),(UX p),(MH p),(KA p),(UA p),(73,some (GZ v0 v4 v8)),Vo,MV]⟩) (cs:=[]) ⟨[],[(63,63),(65,65),(66,66),(67,67),(83,68),(69,69),(70,70),(71,71),(72,72),(73,73),(74,74),(75,75)]⟩ [2,3,4,8,9,10,11,12,13,66,67,68] (by kernel_rfl) trivial) ?_
     obtain rfl:=oi h
     exact lN
    ·refine cf hb ?_
     refine aP (rz tT ⟨(aar p s_ v0),(S9 p n1 n0 v8)⟩ {} [] ?_)
     obtain rfl:=oi h
     exact lN
   ·refine cf hb1 ?_
    refine aI (fz ⟨(W9 s_ p),(S9 p n1 n0 v8)⟩ []) ?_
    refine aX ?_
    obtain rfl:=oi h
    exact lB
  ·clear hy
   cases y with
   |brk z=>
    obtain⟨p1,ue,uc,x0,u4⟩:=z
    unfold GK
    refine⟨_, .refl, ?_⟩
    refine aQ (sz tT ⟨[(2,(vP 63 0)),(gI s_),(4,(vP 65 0)),(iP p),(9,(vP 67 0)),(10,(vP 72 0)),tY,rR,pF,(Af p),(Ae p),(90,(vI 0))],(afw p p1 x0 uc ue u4)⟩ {} [] ?_)
    refine bE h fun y1 hy h=> ?_
    refine aL [] (zI p s_ p1 x0 u4) (zL p s_ p1 x0 u4) jB hy (fun s f h=> ?_) ?_
    ·clear hy
     show jq _ _ _ _ _ _ ((GV p s_ p1 x0 u4) f) _
     unfold iO at h
     obtain⟨w7,w3,v9,u7⟩:=s
     refine sz tT ⟨[(2,(vP 63 0)),(gI s_),(4,(vP 65 0)),(iP p),(9,(vP 67 0)),(10,(vP 72 0)),tY,rR,pF,(Af p),(Ae p),(90,(vI u7)),(91,(vB (decide (u7<(p.links.length:Int)))))],(Sj p v9 p1 w3 w7 x0 u4)⟩ {} [] ?_
     refine aQ ?_
     refine bI h (fun hb3 h=> ?_) (fun hb3 h=> ?_)
     ·refine ct hb3 ?_
      refine aP (aQ (aB (aQ (aO h fun a1 h=> ?_))))
      refine rg tT ⟨[(2,(vP 63 0)),(gI s_),(4,(vP 65 0)),(iP p),(9,(vP 67 0)),(10,(vP 72 0)),tY,rR,pF,(16,(vI u7)),(R8 p u7),(Af p),(Ae p),(90,(vI u7))],(Sj p v9 p1 w3 w7 x0 u4)⟩ [_] {fr:=[(3,90)] } [90] ⟨a1,trivial⟩ ?_
      refine aQ (bE h fun uj hr_3 h=> ?_)
      have q0:=eY (⟨p.buses,p1,p.links,p.racks⟩:ah) s_ u7 hr_3
      refine rg tT ⟨[(2,(vP 63 0)),(gI s_),(4,(vP 65 0)),(iP p),(9,(vP 67 0)),(10,(vP 72 0)),tY,rR,pF,(16,(vI u7)),(R8 p u7),(Af p),(Ae p),(90,(vI u7)),(98,(vB uj))],(Sj p v9 p1 w3 w7 x0 u4)⟩ [_] {an:=[(3,cA q0 [])] } [] ⟨q0,trivial⟩ ?_
      refine bI h (fun hb2 h=> ?_) (fun hb2 h=> ?_)
      ·refine ct hb2 ?_
       refine bE h fun v5 hr_4 h=> ?_
       have q0:=rk [(0,67),(1,68),(2,66),(3,91)] (bD (Zq p u7) (abR p u7) (IX p u7) (IX p u7) (⟨w7,w3⟩:Network) hr_4)
       refine rg tT ⟨(afo p s_ u7),(ac9 p u7 p1 v5 x0 u4 v9)⟩ [_,Bb [some .i64] 1 1 v9.length (xW (aG .i64) v9) (xY (aG .i64) v9) [(.int .i64 u7)] [(cI v5.1)] [] (gG J3 u7 v5.1 v9).length (GH u7 v5 v9) (GN u7 v5 v9)] {an:=[(13,cA q0 [67,68,66]),(14, .map (gG J3 u7 v5.1 v9).length (GH u7 v5 v9) (GN u7 v5 v9) [])] } [] ⟨q0,(rD (fun _=>rfl) (fun _ _=>rfl) v9 u7 v5.1 rfl rfl),trivial⟩ ?_
       refine ri tT ⟨(aaM p s_ u7),(ac9 p u7 p1 v5 x0 u4 v9)⟩ [] {} [] trivial (dX.fin (st':=⟨(aaM p s_ u7),[(Od p p1),bX,(OM v5),(afL v5),(68,some (xH v5)),(nU x0),(MH p),(KA p),(Yd p x0),(Cz u4),(74,some (GZ u7 v5 v9)),MV]⟩) (cs:=[]) ⟨[],[(63,63),(65,65),(66,66),(67,67),(91,68),(69,69),(70,70),(71,71),(72,72),(73,73),(74,74),(75,75)]⟩ [2,3,4,8,9,10,11,12,13,88,89,90] (by kernel_rfl) trivial) ?_
       obtain rfl:=oi h
       exact lN
      ·refine cf hb2 ?_
       refine aP (rz tT ⟨(aaM p s_ u7),(Sj p v9 p1 w3 w7 x0 u4)⟩ {} [] ?_)
       obtain rfl:=oi h
       exact lN
     ·refine cf hb3 ?_
      refine aI (fz ⟨(W9 s_ p),(Sj p v9 p1 w3 w7 x0 u4)⟩ []) ?_
      refine aX ?_
      obtain rfl:=oi h
      exact lB
    ·clear hy
     cases y1 with
     |brk z=>
      obtain⟨p2,uf,ud,x1,u5⟩:=z
      unfold GK
      refine⟨_, .refl, ?_⟩
      refine aQ (sz tT ⟨[(2,(vP 63 0)),(gI s_),(4,(vP 65 0)),(iP p),(9,(vP 67 0)),(10,(vP 72 0)),tY,rR,pF,(115,(vD (bM none 4 aC.cell p.racks))),(116,(vI (p.racks.length:Int))),(117,(vI 0))],(ac0 p p1 p2 x1 ud uf x0 u4 u5)⟩ {} [] ?_)
      refine bE h fun y3 hy h=> ?_
      refine aL [] (zQ p s_ p1 x0 u4 p2 x1 u5) (zN p p1 x0 u4 p2 x1 u5) jB hy (fun s f h=> ?_) ?_
      ·clear hy
       show jq _ _ _ _ _ _ ((uI p s_ p1 x0 u4 p2 x1 u5) f) _
       unfold iN at h
       obtain⟨p3,v7,x7,x3,x2,ua,u2,w0,u0⟩:=s
       refine sz tT ⟨[(2,(vP 63 0)),(gI s_),(4,(vP 65 0)),(8,(vI v7)),(9,(vP 67 0)),(10,(vP 72 0)),tY,rR,pF,(qG u2),(116,(vI w0)),(117,(vI u0)),(118,(vB (decide (u0<w0))))],(WX p p1 p2 p3 x2 x0 x1 ua x3 x7 u4 u5)⟩ {} [] ?_
       refine aQ ?_
       refine bI h (fun hb6 h=> ?_) (fun hb6 h=> ?_)
       ·refine ct hb6 ?_
        refine aP (aQ (aB (aQ (aO h fun a1 h=> ?_))))
        refine rg tT ⟨(adg s_ v7 u0 u2 w0),(WX p p1 p2 p3 x2 x0 x1 ua x3 x7 u4 u5)⟩ [_] {fr:=[(3,110)] } [110] ⟨a1,trivial⟩ ?_
        refine aQ (bE h fun x4 hr_5 h=> ?_)
        have q0:=rk [(0,67),(1,68),(2,66),(3,111)] (bD (TU p u0) v7 (L8 u2 u0) 0 (⟨x7,x3⟩:Network) hr_5)
        refine rg tT ⟨(adg s_ v7 u0 u2 w0),(afv p p1 x0 u4 x4 p2 p3 x1 x2 u5 ua)⟩ [_] {an:=[(9,cA q0 [67,68,66])] } [] ⟨q0,trivial⟩ ?_
        refine sz tT ⟨[(2,(vP 63 0)),(gI s_),(4,(vP 65 0)),(8,(vI v7)),(9,(vP 67 0)),(10,(vP 72 0)),tY,rR,pF,(18,(vI u0)),(xM u2 u0),(qG u2),(116,(vI w0)),(117,(vI u0)),(zY u2 u0),(134,(vI 0))],(afv p p1 x0 u4 x4 p2 p3 x1 x2 u5 ua)⟩ {} [] ?_
        refine bE h fun y2 hy h=> ?_
        refine aL [5] (zV p s_ p1 x0 u4 p2 x1 u5 p3 v7 x2 u2 w0 u0) (zJ p s_ p1 x0 u4 p2 x1 u5 p3 v7 x2 u2 w0 u0) (uI p s_ p1 x0 u4 p2 x1 u5) hy (fun s f h=> ?_) ?_
        ·clear hy
         show jq _ _ _ _ _ _ ((GD p s_ p1 x0 u4 p2 x1 u5 p3 v7 x2 u2 w0 u0) f) _
         unfold eU at h
         obtain⟨w8,w4,w1,v3⟩:=s
         refine sz tT ⟨[(2,(vP 63 0)),(gI s_),(4,(vP 65 0)),(8,(vI v7)),(9,(vP 67 0)),(10,(vP 72 0)),tY,rR,pF,(18,(vI u0)),(xM u2 u0),(qG u2),(116,(vI w0)),(117,(vI u0)),(zY u2 u0),(134,(vI v3)),(135,(vB (decide (v3<2))))],(Qe p p1 p2 p3 w4 w8 x0 x1 x2 u4 u5 w1)⟩ {} [] ?_
         refine aQ ?_
         refine bI h (fun hb5 h=> ?_) (fun hb5 h=> ?_)
         ·refine ct hb5 ?_
          refine aP (aQ (aB (aQ (aO h fun a1 h=> ?_))))
          refine rg tT ⟨[(2,(vP 63 0)),(gI s_),(4,(vP 65 0)),(8,(vI v7)),(9,(vP 67 0)),(10,(vP 72 0)),tY,rR,pF,(18,(vI u0)),(xM u2 u0),(20,(vI v3)),(TR u0 u2 v3),(qG u2),(116,(vI w0)),(117,(vI u0)),(zY u2 u0),(134,(vI v3))],(Qe p p1 p2 p3 w4 w8 x0 x1 x2 u4 u5 w1)⟩ [_,v3.toNat*1+1≤(Qq u2 u0).length,((Qq u2 u0).drop (v3.toNat*1)).take 1=(Te u0 u2 v3).map .d] {an:=[(1, .vals (Te u0 u2 v3))] } [] ⟨a1,(SN (n:=2) (sz:=1) (Nat.le_refl _) a1),(R9 (n:=2) (sz:=1) (g:=fun q=>[(cI (at' [(k28 u2 u0).e0,(k28 u2 u0).e1] q))]) (by intro q hq;match q,hq with|0,_=>rfl|1,_=>rfl) a1),trivial⟩ ?_
          refine aQ (bE h fun ul hr_6 h=> ?_)
          have q0:=jQ s_ (Rb u0 u2 v3) hr_6
          refine rg tT ⟨[(2,(vP 63 0)),(gI s_),(4,(vP 65 0)),(8,(vI v7)),(9,(vP 67 0)),(10,(vP 72 0)),tY,rR,pF,(18,(vI u0)),(xM u2 u0),(20,(vI v3)),(TR u0 u2 v3),(qG u2),(116,(vI w0)),(117,(vI u0)),(zY u2 u0),(134,(vI v3)),(140,(vB ul))],(Qe p p1 p2 p3 w4 w8 x0 x1 x2 u4 u5 w1)⟩ [_] {an:=[(2,cA q0 [])] } [] ⟨q0,trivial⟩ ?_
          refine bI h (fun hb4 h=> ?_) (fun hb4 h=> ?_)
          ·refine ct hb4 ?_
           refine bE h fun v6 hr_7 h=> ?_
           have q0:=rk [(0,67),(1,111),(2,66),(3,115)] (bD (Zo u0 u2 v3) (TU p u0) (L8 u2 u0) 0 (⟨w8,w4⟩:Network) hr_7)
           refine rg tT ⟨(acu u2 u0 s_ v7 w0 v3),[(eG p p1 p2 p3),bX,(OM v6),(ab9 v6),(nU x0),(qE x1),(tC x2),(tH x2 x0 x1),(Cz u4),(CX u5),(75,some (Ru 69 3 true false 2 1 af.cell (aG .i64) (gG (fun a b=>(decide (a.e0=b.e0) && (decide (a.e1=b.e1) && true))) (⟨u0,v3⟩:af) v6.1 w1))),(YQ v6)]⟩ [_,Bb [some .i64,some .i64] 2 1 w1.length (xW af.cell w1) (xY (aG .i64) w1) (SY u0 v3) [(cI v6.1)] [] (gG (fun a b=>(decide (a.e0=b.e0) && (decide (a.e1=b.e1) && true))) (⟨u0,v3⟩:af) v6.1 w1).length (xW af.cell (gG (fun a b=>(decide (a.e0=b.e0) && (decide (a.e1=b.e1) && true))) (⟨u0,v3⟩:af) v6.1 w1)) (xY (aG .i64) (gG (fun a b=>(decide (a.e0=b.e0) && (decide (a.e1=b.e1) && true))) (⟨u0,v3⟩:af) v6.1 w1))] {an:=[(14,cA q0 [67,111,66]),(15, .map (gG (fun a b=>(decide (a.e0=b.e0) && (decide (a.e1=b.e1) && true))) (⟨u0,v3⟩:af) v6.1 w1).length (xW af.cell (gG (fun a b=>(decide (a.e0=b.e0) && (decide (a.e1=b.e1) && true))) (⟨u0,v3⟩:af) v6.1 w1)) (xY (aG .i64) (gG (fun a b=>(decide (a.e0=b.e0) && (decide (a.e1=b.e1) && true))) (⟨u0,v3⟩:af) v6.1 w1)) [])] } [] ⟨q0,(rD (fun _=>rfl) (fun _ _=>rfl) w1 (⟨u0,v3⟩:af) v6.1 rfl rfl),trivial⟩ ?_
           refine ri tT ⟨(aax s_ v7 u0 u2 w0 v3),[(eG p p1 p2 p3),bX,(OM v6),(ab9 v6),(nU x0),(qE x1),(tC x2),(tH x2 x0 x1),(Cz u4),(CX u5),(75,some (Ru 69 3 true false 2 1 af.cell (aG .i64) (gG (fun a b=>(decide (a.e0=b.e0) && (decide (a.e1=b.e1) && true))) (⟨u0,v3⟩:af) v6.1 w1))),(YQ v6)]⟩ [] {} [] trivial (dX.fin (st':=⟨(aax s_ v7 u0 u2 w0 v3),[(eG p p1 p2 p3),bX,(OM v6),(acE v6),(nU x0),(qE x1),(tC x2),(tH x2 x0 x1),(Cz u4),(CX u5),(75,some (Ru 69 3 true false 2 1 af.cell (aG .i64) (gG (fun a b=>(decide (a.e0=b.e0) && (decide (a.e1=b.e1) && true))) (⟨u0,v3⟩:af) v6.1 w1))),(111,some (xH v6))]⟩) (cs:=[]) ⟨[],[(63,63),(65,65),(66,66),(67,67),(69,69),(70,70),(71,71),(72,72),(73,73),(74,74),(75,75),(115,111)]⟩ [2,3,4,8,9,10,11,12,13,18,19,115,116,117,133,134] (by kernel_rfl) trivial) ?_
           obtain rfl:=oi h
           exact lN
          ·refine cf hb4 ?_
           refine aP (rz tT ⟨(aax s_ v7 u0 u2 w0 v3),(Qe p p1 p2 p3 w4 w8 x0 x1 x2 u4 u5 w1)⟩ {} [] ?_)
           obtain rfl:=oi h
           exact lN
         ·refine cf hb5 ?_
          refine aI (fz (adP s_ v7 u2 w0 u0 p p1 p2 p3 w4 w8 x0 x1 x2 u4 u5 w1) []) ?_
          refine aX ?_
          obtain rfl:=oi h
          exact lB
        ·clear hy
         cases y2 with
         |brk z=>
          obtain⟨ub,x8,ug⟩:=z
          unfold GK
          refine⟨_, .refl, ?_⟩
          refine ri tT ⟨(acX s_ v7 u0 u2 w0),(Qe p p1 p2 p3 x8 ub x0 x1 x2 u4 u5 ug)⟩ [] {} [] trivial (dX.fin (st':=⟨(acX s_ v7 u0 u2 w0),(WX p p1 p2 p3 x2 x0 x1 ug x8 ub u4 u5)⟩) (cs:=[]) ⟨[],[(63,63),(65,65),(66,66),(67,67),(111,68),(69,69),(70,70),(71,71),(72,72),(73,73),(74,74),(75,75)]⟩ [2,3,4,8,9,10,11,12,13,115,116,117] (by kernel_rfl) trivial) ?_
          obtain rfl:=oi h
          exact lN
         |ret v=>
          obtain rfl:=oi h
          unfold GK
          intro e st hn ha hR
          cases e with
          |normal=>exact absurd rfl hn
          |exit id=>simp only [Qv (b:=5) ha rfl,cond_false];exact hR
          |goto l=>exact hR
          |ret=>exact hR
          |panic c=>exact hR
          |outgrown=>exact hR
       ·refine cf hb6 ?_
        refine aI (fz (ae5 v7 p p1 p2 p3 x3 x7 x0 x1 x2 u4 u5 ua) []) ?_
        refine aX ?_
        obtain rfl:=oi h
        exact lB
      ·clear hy
       cases y3 with
       |brk z=>
        obtain⟨v1,x9,w9,x6,v2,u3⟩:=z
        unfold GK
        refine⟨_, .refl, ?_⟩
        refine aQ (aI (.trans (fi ⟨(abD x9),[(eG p p1 p2 v1),bX,(67,some (.cells 151 [(.own 68 false w9.length),(.d (.sl (some true) 1 x6.length (fun i j=>evD (xN sH x6 i j))))])),(Mt w9),(nU x0),(qE x1),(tC v2),(tH v2 x0 x1),(Cz u4),(CX u5),(Er u3)]⟩ [x6.length=x6.length] [66] ⟨rfl,trivial⟩) (dX.le (st':=⟨(abD x9),[(eG p p1 p2 v1),bX,(adL w9 x6),(Mt w9),(nU x0),(qE x1),(tC v2),(tH v2 x0 x1),(Cz u4),(CX u5),(Er u3)]⟩) ⟨⟨tR,tR,tR,tR,tR,tR,tR,tR,trivial⟩,(hN 2 ⟨rfl,bH ⟨gW.refl _,gW.d (jK.sl (.inr rfl) (fun i _ j hj=>match j,hj with|0,_=> .refl _)),trivial⟩,(.refl _)⟩)⟩)) ?_)
        refine bE h fun u1 hr_8 h=> ?_
        refine rg tT ⟨[(2,(vP 63 0)),(4,(vP 65 0)),(9,(vP 67 0)),(10,(vP 72 0)),tY,rR,pF],[(eG p p1 p2 v1),bX,(yH u1),(yS u1),(nU x0),(qE x1),(tC v2),(tH v2 x0 x1),(Cz u4),(CX u5),(Er u3)]⟩ [Fn Tryz.prog 75 [(.one (.ptr 67 0)),(sI x9)] (adV w9 x6) (.iV []) (aeh u1)] {an:=[(2, .call [67,68] (.iV []) (aeh u1))] } [] ⟨(Fn.leH (args:=[(.one (.ptr 67 0)),(sI x9)]) (args':=[(.one (.ptr 67 0)),(sI x9)]) (hin:=[(67,some (.cells 151 [(.own 68 false w9.length),(.d (k91 x6))])),(Mt w9)]) (hin':=(adV w9 x6)) (rK [(0,67),(1,68)] (lm x9 (⟨w9,x6⟩:Network) hr_8)) ⟨uG.refl _,uG.refl _,trivial⟩ ⟨rfl,bH ⟨gW.refl _,gW.d jK.rW,trivial⟩,(.refl _)⟩),trivial⟩ ?_
        refine aQ (bE h fun y4 hy h=> ?_)
        refine iX (GI p p1 p2 x1 u5 v1 v2 u3 u1) (K:=3) (V:=3) (s0:=(x0)) ⟨3,3,false,false,1,1,u4.length,xW (aG .i64) u4,xY (aG .i64) u4,[]⟩ 73 116 (fun i=>(sI (AV u4 i))) (fun i=>(sI (E5 u4 i))) hy [3,4] (by kernel_rfl) (by kernel_rfl) (by kernel_rfl) (fun _ _=> ⟨rfl,rfl⟩) (fun _ _=> ⟨kW _ _,kW _ _⟩) (fun _=>(dX.fin (st':=(ab6 u1 p p1 p2 v1 x0 x1 v2 u5 u3)) (cs:=[]) ⟨[],[(63,63),(65,65),(67,67),(68,68),(69,69),(70,70),(71,71),(72,72),(74,74),(75,75),(116,116)]⟩ [2,4,9,10,12,13,162] (by kernel_rfl) trivial)) (fun s=>by obtain⟨w5,rfl⟩: ∃q,q=s:=⟨_,rfl⟩;kernel_rfl) (fun B s i s' hi h=> ?_) ?_
        ·clear hy
         unfold jM at h
         obtain⟨w5,rfl⟩: ∃q,q=s:=⟨_,rfl⟩
         refine Yy tT (⟨[(2,(vP 63 0)),(4,(vP 65 0)),(9,(vP 67 0)),(10,(vP 72 0)),rR,pF,(22,(vI (AV u4 i))),(23,(vI (E5 u4 i))),(162,(vP 116 0))],(ad9 u1 p p1 p2 v1 w5 x1 v2 u5 u3)⟩) {fin:=⟨[],[(63,63),(65,65),(67,67),(68,68),(69,69),(70,70),(71,71),(72,72),(74,74),(75,75),(116,116)]⟩,ts:=[2,4,9,10,12,13,22,23,162] } (cs:=[]) (by kernel_rfl) trivial .refl ?_
         refine aO h fun⟨a1,a2⟩ h=> ?_
         refine di tT mX ⟨aaU,[(eG p p1 p2 v1),bX,(yH u1),(yS u1),(69,some (.arr 3 1 w5.length (Ms u4 u1 i w5))),(qE x1),(tC v2),(tH v2 w5 x1),(CX u5),(Er u3),(116,none)]⟩ [_,_,_,_,aD w5.length 1 (ZX u4 u1 i w5) (Ms u4 u1 i w5)] {an:=[(13, .arr 0 (Ms u4 u1 i w5))] } [] ⟨a1,(tL a1),a2,(tL a2),(aK _ _ _ _ _ _ _ _ rfl (fun j hj=>(match j,hj with|0,_=>rfl))),trivial⟩ (dX.le (st':=⟨aaU,[(eG p p1 p2 v1),bX,(yH u1),(yS u1),(69,some (aaV u4 u1 i w5)),(qE x1),(tC v2),(72,some (.cells 80 [(.own 69 true (ZF u4 u1 i w5)),(.own 70 true x1.length),(.own 71 true v2.length)])),(CX u5),(Er u3),(116,none)]⟩) ⟨⟨tR,tR,tR,tR,tR,tR,tR,trivial⟩,(hN 4 ⟨rfl,oW,(hN 2 ⟨rfl,bH ⟨cW,gW.refl _,gW.refl _,trivial⟩,(.refl _)⟩)⟩)⟩) ?_
         obtain rfl:=oi h
         exact⟨.inl rfl,by kernel_rfl⟩
        ·clear hy
         obtain⟨u6,rfl⟩: ∃q,q=y4:=⟨_,rfl⟩
         refine aI (fz ⟨[(2,(vP 63 0)),(4,(vP 65 0)),(9,(vP 67 0)),(10,(vP 72 0)),rR,pF],[(eG p p1 p2 v1),bX,(yH u1),(yS u1),(nU u6),(qE x1),(tC v2),(tH v2 u6 x1),(CX u5),(Er u3)]⟩ []) ?_
         refine aQ (bE h fun y5 hy h=> ?_)
         refine iX (Gv p p1 p2 v1 v2 u3 u1 u6) (K:=3) (V:=3) (s0:=(x1)) ⟨3,3,false,false,1,1,u5.length,xW (aG .i64) u5,xY (aG .i64) u5,[]⟩ 74 117 (fun i1=>(sI (AV u5 i1))) (fun i1=>(sI (E5 u5 i1))) hy [3,4] (by kernel_rfl) (by kernel_rfl) (by kernel_rfl) (fun _ _=> ⟨rfl,rfl⟩) (fun _ _=> ⟨kW _ _,kW _ _⟩) (fun _=>(dX.fin (st':=(adt p p1 p2 v1 u1 u6 x1 v2 u3)) (cs:=[]) ⟨[],[(63,63),(65,65),(67,67),(68,68),(69,69),(70,70),(71,71),(72,72),(75,75),(117,117)]⟩ [2,4,9,10,13,182] (by kernel_rfl) trivial)) (fun s=>by obtain⟨w6,rfl⟩: ∃q,q=s:=⟨_,rfl⟩;kernel_rfl) (fun B s i1 s' hi h=> ?_) ?_
         ·clear hy
          unfold jO at h
          obtain⟨w6,rfl⟩: ∃q,q=s:=⟨_,rfl⟩
          refine Yy tT (⟨[(2,(vP 63 0)),(4,(vP 65 0)),(9,(vP 67 0)),(10,(vP 72 0)),pF,(24,(vI (AV u5 i1))),(25,(vI (E5 u5 i1))),(182,(vP 117 0))],(adK p p1 p2 v1 u1 u6 w6 v2 u3)⟩) {fin:=⟨[],[(63,63),(65,65),(67,67),(68,68),(69,69),(70,70),(71,71),(72,72),(75,75),(117,117)]⟩,ts:=[2,4,9,10,13,24,25,182] } (cs:=[]) (by kernel_rfl) trivial .refl ?_
          refine aO h fun⟨a1,a2,a3⟩ h=> ?_
          refine di tT mX ⟨aaz,[(eG p p1 p2 v1),bX,(yH u1),(yS u1),(nU u6),(70,some (.arr 3 1 w6.length (M6 p2 u5 u1 i1 w6))),(tC v2),(tH v2 u6 w6),(Er u3),(117,none)]⟩ [_,_,_,_,_,aD w6.length 1 (aaA p2 u5 u1 i1 w6) (M6 p2 u5 u1 i1 w6)] {an:=[(19, .arr 0 (M6 p2 u5 u1 i1 w6))] } [] ⟨a1,a2,(tL a2),a3,(tL a3),(aK _ _ _ _ _ _ _ _ rfl (fun j hj=>(match j,hj with|0,_=>rfl))),trivial⟩ (dX.le (st':=⟨aaz,[(eG p p1 p2 v1),bX,(yH u1),(yS u1),(nU u6),(70,some (aas p2 u5 u1 i1 w6)),(tC v2),(72,some (.cells 80 [(.own 69 true u6.length),(.own 70 true (ZP p2 u5 u1 i1 w6)),(.own 71 true v2.length)])),(Er u3),(117,none)]⟩) ⟨⟨tR,tR,tR,tR,tR,tR,trivial⟩,(hN 5 ⟨rfl,oW,⟨rfl, .refl _,⟨rfl,bH ⟨gW.refl _,cW,gW.refl _,trivial⟩,⟨rfl, .refl _,⟨rfl, .refl _,trivial⟩⟩⟩⟩⟩)⟩) ?_
          obtain rfl:=oi h
          exact⟨.inl rfl,by kernel_rfl⟩
         ·clear hy
          obtain⟨u8,rfl⟩: ∃q,q=y5:=⟨_,rfl⟩
          refine aI (fz ⟨[(2,(vP 63 0)),(4,(vP 65 0)),(9,(vP 67 0)),(10,(vP 72 0)),pF],[(eG p p1 p2 v1),bX,(yH u1),(yS u1),(nU u6),(qE u8),(tC v2),(tH v2 u6 u8),(Er u3)]⟩ []) ?_
          refine aQ (bE h fun y6 hy h=> ?_)
          refine iX (G9 p p1 p2 v1 u1 u6 u8) (K:=69) (V:=3) (s0:=(v2)) ⟨69,3,true,false,2,1,u3.length,xW af.cell u3,xY (aG .i64) u3,[]⟩ 75 118 (fun i2=>(.agg (XM u3 i2))) (fun i2=>(sI (at' (u3.map Prod.snd) i2))) hy [3,4,5] (by kernel_rfl) (by kernel_rfl) (by kernel_rfl) (fun _ _=> ⟨rfl,rfl⟩) (fun _ _=> ⟨Nc rfl,kW _ _⟩) (fun _=>(dX.fin (st':=(adW p p1 p2 v1 u1 u6 u8 v2)) (cs:=[]) ⟨[],[(63,63),(65,65),(67,67),(68,68),(69,69),(70,70),(71,71),(72,72),(118,118)]⟩ [2,4,9,10,208] (by kernel_rfl) trivial)) (fun s=>by obtain⟨u9,rfl⟩: ∃q,q=s:=⟨_,rfl⟩;kernel_rfl) (fun B s i2 s' hi h=> ?_) ?_
          ·clear hy
           unfold jL at h
           obtain⟨u9,rfl⟩: ∃q,q=s:=⟨_,rfl⟩
           refine Yy tT (⟨(ZJ u3 i2),[(eG p p1 p2 v1),bX,(yH u1),(yS u1),(nU u6),(qE u8),(tC u9),(tH u9 u6 u8),(118,none),(121,some (ZV u3 i2))]⟩) {fr:=Xd [(3,121)],fin:=⟨[],[(63,63),(65,65),(67,67),(68,68),(69,69),(70,70),(71,71),(72,72),(118,118),(121,121)]⟩,ts:=[2,4,9,10,26,27,208] } (cs:=[]) (by kernel_rfl) trivial .refl ?_
           refine bI h (fun hb7 h=> ?_) (fun _ h=> ?_)
           ·skip
            refine aI (dX.le (st':=⟨(ZJ u3 i2),[(eG p p1 p2 v1),bX,(yH u1),(yS u1),(nU u6),(qE u8),(tC u9),(tH u9 u6 u8),(118,none),(121,some (ZU u3 i2))]⟩) ⟨⟨tR,tR,tR,tR,tR,tR,tR,trivial⟩,(hN 9 ⟨rfl,bH ⟨gW.refl _,gW.of (congrArg (fun n=>CV.d (.int .i64 n)) (of_decide_eq_true hb7)),trivial⟩,trivial⟩)⟩) ?_
            refine aO h fun⟨a1,a2⟩ h=> ?_
            refine di tT mX ⟨Vn,[(eG p p1 p2 v1),bX,(yH u1),(yS u1),(nU u6),(qE u8),(71,some (.arr 69 2 u9.length (MG u1 u3 i2 u9))),(tH u9 u6 u8),(118,none)]⟩ [(0:Int)≤0∧(0:Int)<(2:Nat),(0:Int)≤1∧(1:Int)<(2:Nat),_,_,_,(0:Int)≤0∧(0:Int)<(2:Nat),_,aD u9.length 2 (ZG u1 u3 i2 u9) (MG u1 u3 i2 u9)] {an:=[(17, .arr 0 (MG u1 u3 i2 u9))] } [] ⟨((by decide)),((by decide)),a1,(tL a1),a2,((by decide)),(tL a2),(aK _ _ _ _ _ _ _ _ rfl (fun j hj=>(match j,hj with|0,_=>rfl|1,_=>rfl))),trivial⟩ (dX.le (st':=⟨Vn,[(eG p p1 p2 v1),bX,(yH u1),(yS u1),(nU u6),(qE u8),(71,some (ZN u1 u3 i2 u9)),(72,some (.cells 80 [(.own 69 true u6.length),(.own 70 true u8.length),(.own 71 true (aac u1 u3 i2 u9))])),(118,none)]⟩) ⟨⟨tR,tR,tR,tR,tR,trivial⟩,(hN 6 ⟨rfl,oW,⟨rfl,bH ⟨gW.refl _,gW.refl _,cW,trivial⟩,(.refl _)⟩⟩)⟩) ?_
            obtain rfl:=oi h
            exact⟨.inl rfl,by kernel_rfl⟩
           ·skip
            refine aO h fun a1 h=> ?_
            refine aI (dX.le (st':=⟨(ZJ u3 i2),[(eG p p1 p2 v1),bX,(yH u1),(yS u1),(nU u6),(qE u8),(tC u9),(tH u9 u6 u8),(118,none),(121,some (ZK u3 i2))]⟩) ⟨⟨tR,tR,tR,tR,tR,tR,tR,trivial⟩,(hN 9 ⟨rfl,bH ⟨gW.refl _,gW.of (congrArg (fun n=>CV.d (.int .i64 n)) a1),trivial⟩,trivial⟩)⟩) ?_
            refine aO h fun⟨a1,a2⟩ h=> ?_
            refine di tT mX ⟨Vn,[(eG p p1 p2 v1),bX,(yH u1),(yS u1),(nU u6),(qE u8),(71,some (.arr 69 2 u9.length (Mv u1 u3 i2 u9))),(tH u9 u6 u8),(118,none)]⟩ [(0:Int)≤0∧(0:Int)<(2:Nat),(0:Int)≤1∧(1:Int)<(2:Nat),_,_,_,(0:Int)≤1∧(1:Int)<(2:Nat),_,aD u9.length 2 (abo u1 u3 i2 u9) (Mv u1 u3 i2 u9)] {an:=[(17, .arr 0 (Mv u1 u3 i2 u9))] } [] ⟨((by decide)),((by decide)),a1,(tL a1),a2,((by decide)),(tL a2),(aK _ _ _ _ _ _ _ _ rfl (fun j hj=>(match j,hj with|0,_=>rfl|1,_=>rfl))),trivial⟩ (dX.le (st':=⟨Vn,[(eG p p1 p2 v1),bX,(yH u1),(yS u1),(nU u6),(qE u8),(71,some (aao u1 u3 i2 u9)),(72,some (.cells 80 [(.own 69 true u6.length),(.own 70 true u8.length),(.own 71 true (Zr u1 u3 i2 u9))])),(118,none)]⟩) ⟨⟨tR,tR,tR,tR,tR,trivial⟩,(hN 6 ⟨rfl,oW,⟨rfl,bH ⟨gW.refl _,gW.refl _,cW,trivial⟩,(.refl _)⟩⟩)⟩) ?_
            obtain rfl:=oi h
            exact⟨.inl rfl,by kernel_rfl⟩
          ·clear hy
           obtain⟨w2,rfl⟩: ∃q,q=y6:=⟨_,rfl⟩
           refine aI (fz ⟨[(2,(vP 63 0)),(4,(vP 65 0)),(9,(vP 67 0)),(10,(vP 72 0))],[(eG p p1 p2 v1),bX,(yH u1),(yS u1),(nU u6),(qE u8),(tC w2),(tH w2 u6 u8)]⟩ []) ?_
           refine aQ (aO h fun⟨a1,a2,a3⟩ h=> ?_)
           refine rg tT ⟨[(2,(vP 63 0)),(4,(vP 65 0)),(9,(vP 67 0)),(10,(vP 72 0)),(28,(vP 123 0))],[(eG p p1 p2 v1),bX,(yH u1),(yS u1),(nU u6),(qE u8),(tC w2),(tH w2 u6 u8),(VB p),(VE p)]⟩ [_,(p.buses:Int)=p.buses,_,_,(rX p).length=p.buses.toNat,aD p.buses.toNat 1 (fun _ j=>[(.bool false)].getD j .nilp) (Ca p)] {an:=[(2, .arr (rX p).length (Ca p))],fr:=[(2,122),(3,123)] } [] ⟨a1,rfl,a2,a3,(List.length_replicate),(aW _ _ _ _ _ (fun j hj=>(match j,hj with|0,_=>rfl))),trivial⟩ ?_
           refine aQ (aQ (bE h fun um hr_9 h=> ?_))
           have q0:=rk [(0,67),(1,68),(2,124)] (gF u1 hr_9)
           refine ri tT ⟨acK,[(eG p p1 p2 v1),bX,(67,some (aap u1)),(nU u6),(qE u8),(tC w2),(tH w2 u6 u8),(VB p),(VE p),(124,some (.cells 147 [(.ptr 67 0)]))]⟩ [_,u1.arcs.length=u1.arcs.length] {an:=[(1,cA q0 [67,68])] } [68] ⟨q0,rfl,trivial⟩ (.trans (fz ⟨acK,[(eG p p1 p2 v1),bX,(nU u6),(qE u8),(tC w2),(tH w2 u6 u8),(VB p),(VE p),(124,some (abu u1))]⟩ [67]) (fz ⟨(acr u1),[(eG p p1 p2 v1),bX,(nU u6),(qE u8),(tC w2),(tH w2 u6 u8),(VB p),(VE p)]⟩ [124])) ?_
           refine aB (bE h fun x5 hr_10 h=> ?_)
           refine wN 125 [(2,(vP 63 0)),(28,(vP 123 0))] [] [125,63,123,122] (.iV []) [(125,some (.loop dF 0 [(2,(vP 63 0)),(28,(vP 123 0))])),(eG p p1 p2 v1),(123,some (.cells 27 [(.own 122 true x5.length)])),(122,some (bZ 4 1 aj x5))] (YI u1) 103 [] (aaD u1) [(125,some (.loop dF 0 [(2,(vP 63 0)),(28,(vP 123 0))])),(eG p p1 p2 v1),(VE p),(VB p)] [(.one (.yl 125)),(sD (Ww u1))] dF 0 [(2,(vP 63 0)),(28,(vP 123 0))] (by kernel_rfl) (by kernel_rfl) (by kernel_rfl) (by kernel_rfl) (by kernel_rfl) (by kernel_rfl) (by kernel_rfl) (rK [(0,125),(1,63),(2,123),(3,122)] (gM u1.arcs u1.from_ (⟨p.buses,p1,p2,v1⟩:ah) (rX p) hr_10)) (by kernel_rfl) rfl (Kc.zero rfl) (dX.fin (st':=⟨(acr u1),[(eG p p1 p2 v1),bX,(nU u6),(qE u8),(tC w2),(tH w2 u6 u8),(122,some (bZ 4 1 aj x5)),(123,some (.cells 27 [(.own 122 true x5.length)]))]⟩) (cs:=[]) ⟨[],[(63,63),(65,65),(69,69),(70,70),(71,71),(72,72),(122,122),(123,123)]⟩ [2,4,10,28,235] (by kernel_rfl) trivial) ?_
           refine sj tT mX ⟨[(4,(vP 65 0)),(5,(vD (bM (some true) 1 aj x5))),(6,(vI 0))],[(65,some (.cells 80 [(.d (bM (some true) 1 (aG .i64) u6)),(.d (bM (some true) 1 (aG .i64) u8)),(.d (bM (some true) 2 af.cell w2))]))]⟩ [x5.length=x5.length,u6.length=u6.length,u8.length=u8.length,w2.length=w2.length] {} [69,70,71,122] ⟨rfl,rfl,rfl,rfl,trivial⟩ (fz ⟨[(4,(vD (DK [(bM (some true) 1 (aG .i64) u6),(bM (some true) 1 (aG .i64) u8),(bM (some true) 2 af.cell w2)] 0))),(5,(vD (bM (some true) 1 aj x5))),(6,(vI 0))],[]⟩ [65]) ?_
           refine aI (dX.le (st':=⟨[(4,(vD (DK [(yC u6),(yC u8),(bM none 2 af.cell w2)] 0))),(5,(vD (bM none 1 aj x5))),(6,(vI 0))],[]⟩) ⟨⟨⟨_,rfl,zo.v (uG.one (gW.d (VY ⟨jK.rW,jK.rW,jK.rW,trivial⟩)))⟩,⟨_,rfl,zo.v (uG.one (gW.d jK.rW))⟩,tR,trivial⟩,trivial⟩) ?_
           refine aR ?_
           obtain rfl:=oi h
           exact rl [(.agg [(.d (yC u6)),(.d (yC u8)),(.d (bM none 2 af.cell w2))]),(sD (bM none 1 aj x5)),(sI 0)]
       |ret v=>
        obtain rfl:=oi h
        unfold GK
        intro e st hn ha hR
        cases e with
        |normal=>exact absurd rfl hn
        |exit id=>exact hR
        |goto l=>exact hR
        |ret=>exact hR
        |panic c=>exact hR
        |outgrown=>exact hR
     |ret v=>
      obtain rfl:=oi h
      unfold GK
      intro e st hn ha hR
      cases e with
      |normal=>exact absurd rfl hn
      |exit id=>exact hR
      |goto l=>exact hR
      |ret=>exact hR
      |panic c=>exact hR
      |outgrown=>exact hR
   |ret v=>
    obtain rfl:=oi h
    unfold GK
    intro e st hn ha hR
    cases e with
    |normal=>exact absurd rfl hn
    |exit id=>exact hR
    |goto l=>exact hR
    |ret=>exact hR
    |panic c=>exact hR
    |outgrown=>exact hR
theorem rJ (a:(List Int)) (b:(List Int)):fC Tryz.prog 18 [(sD (yC a)),(sD (yC b))] [] (fun r=>(vB r)) (fun _=>[]) (jw a b):=
  gJ tT mX Tryz.func18 (
  .r<| .r<| .it (.r<| .e false)
  (.r<| .lp (σ:=Int) (β:=Unit) (0) [] [] ⟨[0,1],[],fun i=>[(5,(vI i))],fun i=>[]⟩ ⟨[],[],fun _=>[],fun _=>[]⟩
  (fun i=> .r<| .it (.a2 (Ns a i) (Ns b i)<| .rg {} [0,1]<| .it (.r<| .e (.done (.ret false)))
  (.r<| .e (.next (k4 i))))
  (.e (.done (.brk ()))))
  (fun _=> .r<| .e true)))
section
variable (p:ah) (s_:State) (u0:(List Bool))
abbrev YF:List SV:=[(.agg (k9 p)),(.agg (k11 s_)),(sD (bM none 1 aj u0))]
end
theorem xw (p:ah) (s_:State) (u0:(List Bool)):fC Tryz.prog 95 (YF p s_ u0) [] (fun r=>(vD (.fn 121 3 (yU [(DK [(.int .i64 r.1),(bM none 5 Source.cell r.2.1),(bM none 6 Link.cell r.2.2.1),(bM none 4 aC.cell r.2.2.2.1)] 0),(DK [(bM none 1 aj r.2.2.2.2.1),(bM none 1 aj r.2.2.2.2.2.1),(bM none 1 aj r.2.2.2.2.2.2.1),(bM none 1 aj r.2.2.2.2.2.2.2.1),(bM none 1 aj r.2.2.2.2.2.2.2.2.1),(bM none 1 aj r.2.2.2.2.2.2.2.2.2.1),(bM none 1 aj r.2.2.2.2.2.2.2.2.2.2.1)] 0),(DK [(bM none 1 aj r.2.2.2.2.2.2.2.2.2.2.2)] 0)])))) (fun _=>[]) (ny p s_ u0):=
  gJ tT mX Tryz.func95 (
  .rg {fr:=[(0,3),(1,4),(2,5)],fz:=[3,4,5]} []<| .r<| .e (p.buses,p.sources,p.links,p.racks,s_.closed,s_.locked,s_.badLink,s_.on_,s_.badSource,s_.earthed,s_.badBus,u0))
def fP  :(aA × (List Bool) × Int)→Exit→St→Prop:=
  fun r=>J6 TT [.cell 4 80, .tmp 5, .tmp 6] (.iV [(.agg [(.own 0 false r.1.sources.length),(.own 1 false r.1.links.length),(.own 2 false r.1.racks.length)]),(.one (.own 3 false r.2.1.length)),(sI r.2.2)]) [(0,some (bZ 3 1 (aG .i64) r.1.sources)),(1,some (bZ 3 1 (aG .i64) r.1.links)),(2,some (bZ 69 2 af.cell r.1.racks)),(3,some (bZ 4 1 aj r.2.1)),(4,none)]
section
variable (s_:State) (p:ah) (u1:Int) (n1:(List (List Int))) (n0:(List bg)) (u0:(List (Int × Int)))
abbrev uy:Nat × TV:=(11,(.v (.one (.mp 77))))
abbrev rP:Nat × TV:=(12,(.v (.one (.mp 78))))
abbrev pJ:Nat × TV:=(13,(.v (.one (.mp 79))))
abbrev af5:List (Nat × TV):=[(2,(vP 63 0)),(gI s_),(4,(vP 65 0)),(iP p),(9,(vP 71 0)),(10,(vP 76 0)),uy,rP,pJ,(Ab p),(Ao p),(68,(vI u1))]
abbrev SG:Nat × Option Ob:=(70,some (.rows 35 1 n1.length (xN sH n1) none))
abbrev Vt:Nat × Option Ob:=(71,some (.cells 151 [(.own 72 false n0.length),(.own 70 true n1.length)]))
abbrev Ml:Nat × Option Ob:=(72,some (bZ 157 2 bg.cell n0))
abbrev U8:Nat × Option Ob:=(73,some (aaY p))
abbrev Nj:Nat × Option Ob:=(74,some (aaE p))
abbrev Ki:Nat × Option Ob:=(75,some (Zw p))
abbrev UB:Nat × Option Ob:=(76,some (.cells 80 [(.own 73 true (Zz p)),(.own 74 true (Uo p)),(.own 75 true (MQ p))]))
abbrev Dp:Nat × Option Ob:=(77,some (SB u0))
abbrev VT:Nat × Option Ob:=(78,some TJ)
abbrev Ni:Nat × Option Ob:=(79,some aaC)
abbrev Sz:List (Nat × Option Ob):=[(zC p),bX,(SG n1),(Vt n1 n0),(Ml n0),(U8 p),(Nj p),(Ki p),(UB p),(Dp u0),VT,Ni]
end
def vJ (p:ah) (s_:State):((List bg) × (List (List Int)) × (List (Int × Int)) × Int)→St:=
  fun zz=>match zz with|(n0,n1,u0,u1)=> ⟨(af5 s_ p u1),(Sz p n1 n0 u0)⟩
section
variable (s_:State) (p:ah) (x0:(List Int)) (p1:(List Source)) (u0:(List (List Int))) (u1:(List bg)) (u2:(List (Int × Int)))
abbrev WK:List (Nat × TV):=[(2,(vP 63 0)),(gI s_),(4,(vP 65 0)),(iP p),(9,(vP 71 0)),(10,(vP 76 0)),uy,rP,pJ]
abbrev nC:Nat × Option Ob:=(73,some (Fv x0))
abbrev XT:Nat × Option Ob:=(76,some (.cells 80 [(.own 73 true x0.length),(.own 74 true (Uo p)),(.own 75 true (MQ p))]))
abbrev aek:List (Nat × Option Ob):=[(Od p p1),bX,(SG u0),(Vt u0 u1),(Ml u1),(nC x0),(Nj p),(Ki p),(XT p x0),(Dp u2),VT,Ni]
end
def vQ (p:ah) (s_:State):((List Source) × (List bg) × (List (List Int)) × (List Int) × (List (Int × Int)))→St:=
  fun zz=>match zz with|(p1,u1,u0,x0,u2)=> ⟨(WK s_ p),(aek p x0 p1 u0 u1 u2)⟩
def DL (p:ah) (s_:State):(aM ((List bg) × (List (List Int)) × (List (Int × Int)) × Int) (Ex ((List Source) × (List bg) × (List (List Int)) × (List Int) × (List (Int × Int))) (aA × (List Bool) × Int)))→Exit→St→Prop:=
  LQ 0 [] (vJ p s_) (vQ p s_) fP
section
variable (s_:State) (p:ah) (u4:Int) (u3:(List (Int × Int))) (p1:(List Source)) (u0:(List (List Int))) (u1:(List bg)) (x0:(List Int)) (u2:(List (Int × Int)))
abbrev afG:List (Nat × TV):=[(2,(vP 63 0)),(gI s_),(4,(vP 65 0)),(iP p),(9,(vP 71 0)),(10,(vP 76 0)),uy,rP,pJ,(Af p),(Ae p),(90,(vI u4))]
abbrev Cv:Nat × Option Ob:=(78,some (SB u3))
abbrev TP:List (Nat × Option Ob):=[(Od p p1),bX,(SG u0),(Vt u0 u1),(Ml u1),(nC x0),(Nj p),(Ki p),(XT p x0),(Dp u2),(Cv u3),Ni]
end
def vW (p:ah) (s_:State) (p1:(List Source)) (x0:(List Int)) (u2:(List (Int × Int))):((List bg) × (List (List Int)) × (List (Int × Int)) × Int)→St:=
  fun zz=>match zz with|(u1,u0,u3,u4)=> ⟨(afG s_ p u4),(TP p u3 p1 u0 u1 x0 u2)⟩
section
variable (x1:(List Int)) (p:ah) (p1:(List Source)) (p2:(List Link)) (u0:(List (List Int))) (u1:(List bg)) (x0:(List Int)) (u2:(List (Int × Int))) (u3:(List (Int × Int)))
abbrev qg:Nat × Option Ob:=(74,some (Fv x1))
abbrev aef:List (Nat × Option Ob):=[(af6 p p1 p2),bX,(SG u0),(Vt u0 u1),(Ml u1),(nC x0),(qg x1),(Ki p),(76,some (.cells 80 [(.own 73 true x0.length),(.own 74 true x1.length),(.own 75 true (MQ p))])),(Dp u2),(Cv u3),Ni]
end
def vU (p:ah) (s_:State) (p1:(List Source)) (x0:(List Int)) (u2:(List (Int × Int))):((List Link) × (List bg) × (List (List Int)) × (List Int) × (List (Int × Int)))→St:=
  fun zz=>match zz with|(p2,u1,u0,x1,u3)=> ⟨(WK s_ p),(aef x1 p p1 p2 u0 u1 x0 u2 u3)⟩
def Dv (p:ah) (s_:State) (p1:(List Source)) (x0:(List Int)) (u0:(List (Int × Int))):(aM ((List bg) × (List (List Int)) × (List (Int × Int)) × Int) (Ex ((List Link) × (List bg) × (List (List Int)) × (List Int) × (List (Int × Int))) (aA × (List Bool) × Int)))→Exit→St→Prop:=
  LQ 2 [] (vW p s_ p1 x0 u0) (vU p s_ p1 x0 u0) fP
section
variable (s_:State) (u4:Int) (u6:(List aC)) (u7:Int) (u8:Int) (x2:(List af)) (x0:(List Int)) (x1:(List Int)) (u5:(List (af × Int))) (p:ah) (p1:(List Source)) (p2:(List Link)) (p3:(List aC)) (u0:(List (List Int))) (u1:(List bg)) (u2:(List (Int × Int))) (u3:(List (Int × Int)))
abbrev ac7:List (Nat × TV):=[(2,(vP 63 0)),(gI s_),(4,(vP 65 0)),(8,(vI u4)),(9,(vP 71 0)),(10,(vP 76 0)),uy,rP,pJ,(qG u6),(116,(vI u7)),(117,(vI u8))]
abbrev sF:Nat × Option Ob:=(75,some (Wx x2))
abbrev sV:Nat × Option Ob:=(76,some (.cells 80 [(.own 73 true x0.length),(.own 74 true x1.length),(.own 75 true x2.length)]))
abbrev E9:Nat × Option Ob:=(79,some (aaq u5))
abbrev Vh:List (Nat × Option Ob):=[(eG p p1 p2 p3),bX,(SG u0),(Vt u0 u1),(Ml u1),(nC x0),(qg x1),(sF x2),(sV x2 x0 x1),(Dp u2),(Cv u3),(E9 u5)]
end
def wo (p:ah) (s_:State) (p1:(List Source)) (x0:(List Int)) (u2:(List (Int × Int))) (p2:(List Link)) (x1:(List Int)) (u3:(List (Int × Int))):((List aC) × Int × (List bg) × (List (List Int)) × (List af) × (List (af × Int)) × (List aC) × Int × Int)→St:=
  fun zz=>match zz with|(p3,u4,u1,u0,x2,u5,u6,u7,u8)=> ⟨(ac7 s_ u4 u6 u7 u8),(Vh x2 x0 x1 u5 p p1 p2 p3 u0 u1 u2 u3)⟩
section
variable (u6:Int) (p:ah) (p1:(List Source)) (p2:(List Link)) (u5:(List aC)) (u0:(List (List Int))) (u1:(List bg)) (x0:(List Int)) (x1:(List Int)) (u2:(List af)) (u3:(List (Int × Int))) (u4:(List (Int × Int))) (u7:(List (af × Int)))
abbrev abP:List (Nat × TV):=[(2,(vP 63 0)),(4,(vP 65 0)),(8,(vI u6)),(9,(vP 71 0)),(10,(vP 76 0)),uy,rP,pJ]
abbrev ae9:St:=⟨(abP u6),(Vh u2 x0 x1 u7 p p1 p2 u5 u0 u1 u3 u4)⟩
end
def wE (p:ah) (p1:(List Source)) (x0:(List Int)) (u3:(List (Int × Int))) (p2:(List Link)) (x1:(List Int)) (u4:(List (Int × Int))):((List aC) × Int × (List bg) × (List (List Int)) × (List af) × (List (af × Int)))→St:=
  fun zz=>match zz with|(u5,u6,u1,u0,u2,u7)=>(ae9 u6 p p1 p2 u5 u0 u1 x0 x1 u2 u3 u4 u7)
def qm (p:ah) (s_:State) (p1:(List Source)) (x0:(List Int)) (u0:(List (Int × Int))) (p2:(List Link)) (x1:(List Int)) (u1:(List (Int × Int))):(aM ((List aC) × Int × (List bg) × (List (List Int)) × (List af) × (List (af × Int)) × (List aC) × Int × Int) (Ex ((List aC) × Int × (List bg) × (List (List Int)) × (List af) × (List (af × Int))) (aA × (List Bool) × Int)))→Exit→St→Prop:=
  LQ 4 [] (wo p s_ p1 x0 u0 p2 x1 u1) (wE p p1 x0 u0 p2 x1 u1) fP
section
variable (s_:State) (u6:Int) (u0:Int) (u1:(List aC)) (u7:Int) (u9:Int) (p:ah) (p1:(List Source)) (p2:(List Link)) (p3:(List aC)) (u2:(List (List Int))) (u3:(List bg)) (x0:(List Int)) (x1:(List Int)) (x2:(List af)) (u4:(List (Int × Int))) (u5:(List (Int × Int))) (u8:(List (af × Int)))
abbrev af2:List (Nat × TV):=[(2,(vP 63 0)),(gI s_),(4,(vP 65 0)),(8,(vI u6)),(9,(vP 71 0)),(10,(vP 76 0)),uy,rP,pJ,(18,(vI u0)),(xM u1 u0),(qG u1),(116,(vI u7)),(117,(vI u0)),(zY u1 u0),(134,(vI u9))]
abbrev Rh:List (Nat × Option Ob):=[(eG p p1 p2 p3),bX,(SG u2),(71,some (.cells 151 [(.own 115 false u3.length),(.own 70 true u2.length)])),(nC x0),(qg x1),(sF x2),(sV x2 x0 x1),(Dp u4),(Cv u5),(E9 u8),(115,some (bZ 157 2 bg.cell u3))]
end
def wm (p:ah) (s_:State) (p1:(List Source)) (x0:(List Int)) (u4:(List (Int × Int))) (p2:(List Link)) (x1:(List Int)) (u5:(List (Int × Int))) (p3:(List aC)) (u6:Int) (x2:(List af)) (u1:(List aC)) (u7:Int) (u0:Int):((List bg) × (List (List Int)) × (List (af × Int)) × Int)→St:=
  fun zz=>match zz with|(u3,u2,u8,u9)=> ⟨(af2 s_ u6 u0 u1 u7 u9),(Rh p p1 p2 p3 u2 u3 x0 x1 x2 u4 u5 u8)⟩
section
variable (s_:State) (u4:Int) (u5:(List aC)) (u6:Int) (u7:Int) (p:ah) (p1:(List Source)) (p2:(List Link)) (p3:(List aC)) (u0:(List (List Int))) (u1:(List bg)) (x0:(List Int)) (x1:(List Int)) (x2:(List af)) (u2:(List (Int × Int))) (u3:(List (Int × Int))) (u8:(List (af × Int)))
abbrev ac8:St:=⟨(ac7 s_ u4 u5 u6 u7),(Rh p p1 p2 p3 u0 u1 x0 x1 x2 u2 u3 u8)⟩
end
def wL (p:ah) (s_:State) (p1:(List Source)) (x0:(List Int)) (u2:(List (Int × Int))) (p2:(List Link)) (x1:(List Int)) (u3:(List (Int × Int))) (p3:(List aC)) (u4:Int) (x2:(List af)) (u5:(List aC)) (u6:Int) (u7:Int):((List bg) × (List (List Int)) × (List (af × Int)))→St:=
  fun zz=>match zz with|(u1,u0,u8)=>(ac8 s_ u4 u5 u6 u7 p p1 p2 p3 u0 u1 x0 x1 x2 u2 u3 u8)
def DI (p:ah) (s_:State) (p1:(List Source)) (x0:(List Int)) (u0:(List (Int × Int))) (p2:(List Link)) (x1:(List Int)) (u1:(List (Int × Int))) (p3:(List aC)) (u2:Int) (x2:(List af)) (u3:(List aC)) (u4:Int) (u5:Int):(aM ((List bg) × (List (List Int)) × (List (af × Int)) × Int) (Ex ((List bg) × (List (List Int)) × (List (af × Int))) (aM ((List aC) × Int × (List bg) × (List (List Int)) × (List af) × (List (af × Int)) × (List aC) × Int × Int) (Ex ((List aC) × Int × (List bg) × (List (List Int)) × (List af) × (List (af × Int))) (aA × (List Bool) × Int)))))→Exit→St→Prop:=
  LQ 6 [5] (wm p s_ p1 x0 u0 p2 x1 u1 p3 u2 x2 u3 u4 u5) (wL p s_ p1 x0 u0 p2 x1 u1 p3 u2 x2 u3 u4 u5) (qm p s_ p1 x0 u0 p2 x1 u1)
section
variable (u0:Network) (p:ah) (p1:(List Source)) (p2:(List Link)) (u4:(List aC)) (u2:(List Int)) (x1:(List Int)) (u1:(List af)) (u3:(List (Int × Int))) (u5:(List (af × Int)))
abbrev aaT:List (Nat × TV):=[(2,(vP 63 0)),(4,(vP 65 0)),(9,(vP 71 0)),(10,(vP 76 0)),rP,pJ,(162,(vP 120 0))]
abbrev yt:Nat × Option Ob:=(71,some (.cells 151 [(.own 72 false u0.arcs.length),(.d (Xc u0))]))
abbrev yg:Nat × Option Ob:=(72,some (Y9 u0))
abbrev af4:List (Nat × Option Ob):=[(eG p p1 p2 u4),bX,(yt u0),(yg u0),(nC u2),(qg x1),(sF u1),(sV u1 u2 x1),(Cv u3),(E9 u5),(120,none)]
abbrev ad1:St:=⟨aaT,(af4 u0 p p1 p2 u4 u2 x1 u1 u3 u5)⟩
end
def Dl (p:ah) (p1:(List Source)) (p2:(List Link)) (x1:(List Int)) (u3:(List (Int × Int))) (u4:(List aC)) (u1:(List af)) (u5:(List (af × Int))) (u0:Network):(List Int)→St:=
  fun u2=>(ad1 u0 p p1 p2 u4 u2 x1 u1 u3 u5)
section
variable (p:ah) (p1:(List Source)) (p2:(List Link)) (u4:(List aC)) (u0:Network) (u2:(List Int)) (u3:(List Int)) (u1:(List af)) (u5:(List (af × Int)))
abbrev abd:List (Nat × TV):=[(2,(vP 63 0)),(4,(vP 65 0)),(9,(vP 71 0)),(10,(vP 76 0)),pJ,(182,(vP 121 0))]
abbrev afF:List (Nat × Option Ob):=[(eG p p1 p2 u4),bX,(yt u0),(yg u0),(nC u2),(qg u3),(sF u1),(sV u1 u2 u3),(E9 u5),(121,none)]
abbrev acz:St:=⟨abd,(afF p p1 p2 u4 u0 u2 u3 u1 u5)⟩
end
def C8 (p:ah) (p1:(List Source)) (p2:(List Link)) (u4:(List aC)) (u1:(List af)) (u5:(List (af × Int))) (u0:Network) (u2:(List Int)):(List Int)→St:=
  fun u3=>(acz p p1 p2 u4 u0 u2 u3 u1 u5)
section
variable (p:ah) (p1:(List Source)) (p2:(List Link)) (u4:(List aC)) (u0:Network) (u1:(List Int)) (u2:(List Int)) (u3:(List af))
abbrev WI:List (Nat × TV):=[(2,(vP 63 0)),(4,(vP 65 0)),(9,(vP 71 0)),(10,(vP 76 0)),(208,(vP 122 0))]
abbrev aeG:St:=⟨WI,[(eG p p1 p2 u4),bX,(yt u0),(yg u0),(nC u1),(qg u2),(sF u3),(sV u3 u1 u2),(122,none)]⟩
end
def Dz (p:ah) (p1:(List Source)) (p2:(List Link)) (u4:(List aC)) (u0:Network) (u1:(List Int)) (u2:(List Int)):(List af)→St:=
  fun u3=>(aeG p p1 p2 u4 u0 u1 u2 u3)
end
end Sg
