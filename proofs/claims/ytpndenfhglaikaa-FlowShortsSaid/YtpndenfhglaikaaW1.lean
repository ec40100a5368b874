import Derived.Test.YtpndenfhglaikaaW0
set_option linter.all false
namespace Sg
open Go Go.Proofs
set_option maxRecDepth 20000
noncomputable section
section
variable (p:ah) (s_:State) (r_:Int) (v0:Int) (v4:(Int × Network)) (v8:(List (Int × Int))) (u7:Int) (p1:(List Source)) (v5:(Int × Network)) (x0:(List Int)) (u4:(List (Int × Int))) (v9:(List (Int × Int))) (v7:Int) (u0:Int) (u2:(List ay)) (w0:Int) (x3:(Int × Network)) (p2:(List Link)) (p3:(List ay)) (x1:(List Int)) (x2:(List af)) (u5:(List (Int × Int))) (x9:(List (af × Int))) (v3:Int) (v6:(Int × Network)) (x5:(List bJ)) (x6:(List (List Int))) (u1:Network) (i:Nat) (w5:(List Int)) (i1:Nat) (w6:(List Int)) (u3:(List (af × Int))) (i2:Nat) (u9:(List af)) (x4:(List Bool))
abbrev Zp:List (Nat × Option Ob):=[(Ao p),bN]
abbrev afF:St:=⟨[(2,(vP 63 0)),(jY s_),(4,(vP 65 0))],(Zp p)⟩
abbrev aiE:St:=⟨[(2,(vP 63 0)),(jY s_),(4,(vP 65 0)),(7,(vI r_))],(Zp p)⟩
abbrev agt:St:=⟨[(2,(vP 63 0)),(jY s_),(4,(vP 65 0)),(7,(vI r_)),(34,(vB (!decide (r_=0))))],(Zp p)⟩
abbrev JW:DV:=(aJ none 1 (aj .i64) ([]:List Int))
abbrev ahJ:St:=⟨[(2,(vP 63 0)),(jY s_),(4,(vP 65 0)),(nR p)],(Zp p)⟩
abbrev Zn:List (Nat × TV):=[(2,(vP 63 0)),(jY s_),(4,(vP 65 0)),(nR p),(9,(vP 67 0))]
abbrev Ym:=(IntKind.wrap .i64 ((IntKind.wrap .i64 ((IntKind.wrap .i64 ((1:Int)+p.buses))+(p.racks.length:Int)))+1))
abbrev Wn:=((Ym p).toNat)
abbrev FC:=(List.replicate (Wn p) (([]:List Int):(List Int)))
abbrev VA:=((FC p).length)
abbrev agA:List CV:=[(.d nS),(.own 66 true (VA p))]
abbrev aiz:Nat × Option Ob:=(67,some (.cells 161 (agA p)))
abbrev ag1:=((Ym p):Int)
abbrev aiX:=(AO uF (FC p))
abbrev WY:Nat × Option Ob:=(66,some (.rows 40 1 (FC p).length (aiX p) none))
abbrev ad5:Nat × Option Ob:=(67,some (.cells 161 [(.own 68 false (([]:List bJ).length)),(.own 66 true (VA p))]))
abbrev abL:Nat × Option Ob:=(68,some (bO 170 2 bJ.cell ([]:List bJ)))
abbrev Zt:=(au (aj .i64) (NV p))
abbrev Y4:=(au af.cell (SH p))
abbrev af8:List (Nat × Option Ob):=[(Ao p),bN,(WY p),(ad5 p),abL,(VJ p),(Oi p),(Mf p),(VU p),(73,some ZU),Ww,Nj]
abbrev Yz:Nat × TV:=(15,(ad9 p v0))
abbrev Pt:Nat × Option Ob:=(66,some (.rows 40 1 v4.2.from_.length (AO uF v4.2.from_) none))
abbrev OB:Ob:=(Vo 3 3 false false 1 1 (aj .i64) (aj .i64) (jF Ui v0 v4.1 v8))
abbrev He:Ob:=(bO 170 2 bJ.cell v4.2.arcs)
abbrev agT:List (Nat × Option Ob):=[(Ao p),bN,(Pt v4),(67,some (.cells 161 [(.own 83 false v4.2.arcs.length),(.own 66 true v4.2.from_.length)])),(VJ p),(Oi p),(Mf p),(VU p),(73,some (OB v0 v4 v8)),Ww,Nj,(83,some (He v4))]
abbrev Ph:=(EB (aj .i64) (jF Ui v0 v4.1 v8))
abbrev OI:=(ES (aj .i64) (jF Ui v0 v4.1 v8))
abbrev abg:List (Nat × TV):=[(2,(vP 63 0)),(jY s_),(4,(vP 65 0)),(nR p),(9,(vP 67 0)),(10,(vP 72 0)),su,pu,oo,(Jc p),(Jy p),(68,(k28 v0))]
abbrev ajp:Nat × Option Ob:=(67,some (.cells 161 [(.own 68 false v4.2.arcs.length),(.own 66 true v4.2.from_.length)]))
abbrev ZQ:Nat × TV:=(17,(YO p u7))
abbrev ahG:List (Nat × Option Ob):=[(QC p p1),bN,(Pt v5),(67,some (.cells 161 [(.own 91 false v5.2.arcs.length),(.own 66 true v5.2.from_.length)])),(nu x0),(Oi p),(Mf p),(YZ p x0),(E5 u4),(74,some (OB u7 v5 v9)),Nj,(91,some (He v5))]
abbrev ac5:List (Nat × TV):=[(2,(vP 63 0)),(jY s_),(4,(vP 65 0)),(nR p),(9,(vP 67 0)),(10,(vP 72 0)),su,pu,oo,(Jd p),(Jk p),(90,(k28 u7))]
abbrev aev:List (Nat × TV):=[(2,(vP 63 0)),(jY s_),(4,(vP 65 0)),(8,(vI v7)),(9,(vP 67 0)),(10,(vP 72 0)),su,pu,oo,(18,(vI u0)),(FD u2 u0),(zZ u2),(116,(vI w0)),(117,(vI u0))]
abbrev YE:=(IntKind.wrap .i64 ((IntKind.wrap .i64 ((1:Int)+p.buses))+u0))
abbrev ahF:Nat × Option Ob:=(67,some (.cells 161 [(.own 111 false x3.2.arcs.length),(.own 66 true x3.2.from_.length)]))
abbrev aiQ:List (Nat × Option Ob):=[(dX p p1 p2 p3),bN,(Pt x3),(ahF x3),(nu x0),(o8 x1),(rF x2),(ru x2 x0 x1),(E5 u4),(EK u5),(F5 x9),(111,some (He x3))]
abbrev XP:=(at' [(L6 u2 u0).e0,(L6 u2 u0).e1] v3.toNat)
abbrev Yp:Nat × TV:=(21,(vI (XP u0 u2 v3)))
abbrev YV:List DV:=[(.int .i64 (XP u0 u2 v3))]
abbrev agy:=(IntKind.wrap .i64 ((1:Int)+(XP u0 u2 v3)))
abbrev afb:Nat × Option Ob:=(67,some (.cells 161 [(.own 115 false v6.2.arcs.length),(.own 66 true v6.2.from_.length)]))
abbrev Z7:Nat × Option Ob:=(115,some (He v6))
abbrev acn:List (Nat × TV):=[(2,(vP 63 0)),(jY s_),(4,(vP 65 0)),(8,(vI v7)),(9,(vP 67 0)),(10,(vP 72 0)),su,pu,oo,(18,(vI u0)),(FD u2 u0),(zZ u2),(116,(vI w0)),(117,(vI u0)),(JF u2 u0),(134,(k28 v3))]
abbrev af5:List (Nat × TV):=[(2,(vP 63 0)),(jY s_),(4,(vP 65 0)),(8,(vI v7)),(9,(vP 67 0)),(10,(vP 72 0)),su,pu,oo,(zZ u2),(116,(vI w0)),(117,(k28 u0))]
abbrev afk:Nat × Option Ob:=(67,some (.cells 161 [(.own 68 false x5.length),(.d (aJ (some true) 1 (L8 1 (aj .i64)) x6))]))
abbrev ahO:List (Nat × Option Ob):=[(Aa u1),(zA u1)]
abbrev ae2:=((at' u1.arcs ((IntKind.wrap .i64 (((BitVec.ofInt (IntKind.bits .i64) (at' (u4.map Prod.snd) i) ^^^ BitVec.ofInt (IntKind.bits .i64) 1).toNat:Int))).toNat)).left)
abbrev abZ:=(w5.set ((at' (u4.map Prod.fst) i).toNat) (ae2 u4 u1 i))
abbrev U2:=(au (aj .i64) (abZ u4 u1 i w5))
abbrev aix:=(jS (au (aj .i64) w5) ((at' (u4.map Prod.fst) i).toNat) 0 [(.int .i64 (ae2 u4 u1 i))])
abbrev afO:Ob:=(bO 3 1 (aj .i64) (abZ u4 u1 i w5))
abbrev aik:=((abZ u4 u1 i w5).length)
abbrev ahE:=(IntKind.wrap .i64 (((at' p2 ((at' (u5.map Prod.fst) i1).toNat)).most) - ((at' u1.arcs ((at' (u5.map Prod.snd) i1).toNat)).left)))
abbrev abz:=(w6.set ((at' (u5.map Prod.fst) i1).toNat) (ahE p2 u5 u1 i1))
abbrev Vi:=(au (aj .i64) (abz p2 u5 u1 i1 w6))
abbrev ahr:=(jS (au (aj .i64) w6) ((at' (u5.map Prod.fst) i1).toNat) 0 [(.int .i64 (ahE p2 u5 u1 i1))])
abbrev agJ:Ob:=(bO 3 1 (aj .i64) (abz p2 u5 u1 i1 w6))
abbrev ajf:=((abz p2 u5 u1 i1 w6).length)
abbrev ZE:List CV:=[(cI ((at' (u3.map Prod.fst) i2).e0)),(cI ((at' (u3.map Prod.fst) i2).e1))]
abbrev acy:List (Nat × TV):=[(2,(vP 63 0)),(4,(vP 65 0)),(9,(vP 67 0)),(10,(vP 72 0)),(26,(vP 121 0)),(27,(vI (at' (u3.map Prod.snd) i2))),(208,(vP 118 0))]
abbrev Vk:=(((at' (u3.map Prod.fst) i2).e0).toNat)
abbrev ab4:=(at' u1.arcs ((IntKind.wrap .i64 (((BitVec.ofInt (IntKind.bits .i64) (at' (u3.map Prod.snd) i2) ^^^ BitVec.ofInt (IntKind.bits .i64) 1).toNat:Int))).toNat))
abbrev adY:=(u9.set (Vk u3 i2) (⟨(ab4 u1 u3 i2).left,(at' u9 (Vk u3 i2)).e1⟩:af))
abbrev TS:=(au af.cell (adY u1 u3 i2 u9))
abbrev aff:List DV:=[(.int .i64 ((ab4 u1 u3 i2).left))]
abbrev aeB:=(jS (au af.cell u9) (Vk u3 i2) 0 (aff u1 u3 i2))
abbrev aeD:Ob:=(bO 164 2 af.cell (adY u1 u3 i2 u9))
abbrev agl:=((adY u1 u3 i2 u9).length)
abbrev abA:=(u9.set (Vk u3 i2) (⟨(at' u9 (Vk u3 i2)).e0,(ab4 u1 u3 i2).left⟩:af))
abbrev Ud:=(au af.cell (abA u1 u3 i2 u9))
abbrev ajm:=(jS (au af.cell u9) (Vk u3 i2) 1 (aff u1 u3 i2))
abbrev agR:Ob:=(bO 164 2 af.cell (abA u1 u3 i2 u9))
abbrev aer:=((abA u1 u3 i2 u9).length)
abbrev DF:=(List.replicate p.buses.toNat (false:Bool))
abbrev WO:Nat × Option Ob:=(122,some (bO 4 1 ai (DF p)))
abbrev WZ:Nat × Option Ob:=(123,some (.cells 27 [(.own 122 true ((DF p).length))]))
abbrev Um:=(au ai (DF p))
abbrev afA:List (Nat × TV):=[(2,(vP 63 0)),(4,(vP 65 0)),(10,(vP 72 0)),(28,(vP 123 0)),(235,(.v (.one (.fn 121 0 1 (C9 [(.ptr 124 0)])))))]
abbrev ahK:Ob:=(.cells 161 [(.d (aJ none 2 bJ.cell u1.arcs)),(.d (Lg u1))])
abbrev ai2:Ob:=(.cells 157 [(.d (mg [(aJ none 2 bJ.cell u1.arcs),(Lg u1)] 0))])
abbrev Z8:DV:=(mg [(mg [(aJ none 2 bJ.cell u1.arcs),(Lg u1)] 0)] 0)
abbrev acu:TV:=(vD (.fn 121 1 (nT [(Z8 u1)])))
abbrev aeT:Nat × TV:=(235,(acu u1))
abbrev ahR:List (Nat × TV):=[(2,(vP 63 0)),(4,(vP 65 0)),(10,(vP 72 0)),(28,(vP 123 0)),(aeT u1)]
abbrev afo:List CV:=[(.d (Z8 u1))]
abbrev Jw:TV:=(vD (aJ none 1 ai x4))
end
theorem A9 (p:ah) (s_:State) {r:(aA × (List Bool) × Int)} (h:iZ p s_=some r):Fn Try.prog 32 (k92 s_ p) [] (.gK [(.agg [(.d (aJ none 1 (aj .i64) r.1.sources)),(.d (aJ none 1 (aj .i64) r.1.links)),(.d (aJ none 2 af.cell r.1.racks))]),(sD (aJ none 1 ai r.2.1)),(sI r.2.2)]) []:=by
 refine fN tT Try.func32 rfl rfl fun B=> ?_
 show bn _ _ _ _ _ _ (iB r) _
 unfold iZ at h
 refine sz tT (afF p s_) {fr:=[(0,63),(1,64),(2,65)] } [64] ?_
 refine aQ (aQ (bE h fun r_ hr_ h=> ?_))
 have q0:=fK p s_ hr_
 refine rg tT (aiE p s_ r_) [_] {an:=[(2,cA q0 [])] } [] ⟨q0,trivial⟩ ?_
 refine sz tT (agt p s_ r_) {} [] ?_
 refine bI h (fun hb9 h=> ?_) (fun hb9 h=> ?_)
 ·refine ct hb9 ?_
  refine sz tT ⟨[(4,(vD (mg [nS,nS,nS] 0))),(5,(vD nS)),(6,(vI r_))],[]⟩ {} [65] ?_
  refine aI (bG.le (st':=⟨[(4,(vD (mg [JW,JW,(aJ none 2 af.cell ([]:List af))] 0))),(5,(vD (aJ none 1 ai ([]:List Bool)))),(6,(vI r_))],[]⟩) ⟨⟨⟨_,rfl,cu.v (dm.one (cK.d (NN ⟨fo.nil',fo.nil',fo.nil',trivial⟩)))⟩,⟨_,rfl,cu.v (dm.one (cK.d fo.nil'))⟩,tR,trivial⟩,trivial⟩) ?_
  refine aR ?_
  obtain rfl:=oi h
  exact rl [(.agg [(.d JW),(.d JW),(.d (aJ none 2 af.cell ([]:List af)))]),(sD (aJ none 1 ai ([]:List Bool))),(sI r_)]
 ·refine cf hb9 ?_
  refine aP (sz tT (ahJ p s_) {} [] ?_)
  refine aQ (aO h fun⟨a1,a2,a3⟩ h=> ?_)
  refine ri tT ⟨(Zn p s_),[(Ao p),bN,(66,some (.arr 40 1 (FC p).length (fun _ j=>[nS].getD j .nilp))),(aiz p)]⟩ [_,(ag1 p)=(Ym p),_,_,(FC p).length=(Wn p),aC (Wn p) 1 (fun _ j=>[nS].getD j .nilp) (fun _ j=>[nS].getD j .nilp)] {an:=[(2, .arr (FC p).length (fun _ j=>[nS].getD j .nilp))],fr:=[(2,66),(4,67)] } [] ⟨a1,rfl,a2,a3,(List.length_replicate),(gL _ _ _),trivial⟩ (.trans (bG.XQ (b:=66) (E:=40) (esz:=1) (len:=(FC p).length) (el:=(fun _ j=>[nS].getD j .nilp)) (el':=AO uF (FC p)) (by kernel_rfl) (fun i hi j hj=>match j,hj with|0,_=>Pf _ _ _ _ _ _ _ _)) (.trans (fz ⟨(Zn p s_),[(Ao p),bN,(WY p),(aiz p)]⟩ []) (.trans (bG.Aj (E:=0) (esz:=0) (E0:=161) (cs:=(agA p)) (p:=67) (q:=0) (b:=68) (esz0:=0) (el0:=fun _ _=> .nilp) (ob:= .arr 170 2 0 (au bJ.cell ([]:List bJ))) (fun _ _ _ _ h=> .inl ⟨h,rfl⟩) (by kernel_rfl) (by kernel_rfl) (by kernel_rfl)) (.trans (fz ⟨(Zn p s_),[(Ao p),bN,(WY p),(67,some (.cells 161 [(.own 68 false 0),(.own 66 true (VA p))])),(68,some (.arr 170 2 0 (au bJ.cell ([]:List bJ))))]⟩ []) (bG.le (st':=⟨(Zn p s_),[(Ao p),bN,(WY p),(ad5 p),abL]⟩) ⟨⟨tR,tR,tR,tR,tR,trivial⟩,(hN 3 ⟨rfl,bB ⟨cW,cK.refl _,trivial⟩,⟨rfl,oW,trivial⟩⟩)⟩))))) ?_
  refine aQ (aO h fun⟨a1,a2,a3,a4,a5,a6,a7,a8,a9⟩ h=> ?_)
  refine dg tT mX ⟨[(2,(vP 63 0)),(jY s_),(4,(vP 65 0)),(nR p),(9,(vP 67 0)),(10,(vP 72 0))],[(Ao p),bN,(WY p),(ad5 p),abL,(VJ p),(Oi p),(Mf p),(VU p)]⟩ [_,((p.sources.length:Int):Int)=(p.sources.length:Int),_,_,(NV p).length=(Xv p),aC (Xv p) 1 (fun _ j=>[(.int .i64 0)].getD j .nilp) (Zt p),_,(WC p)=(p.links.length:Int),_,_,(Ke p).length=(JC p),aC (JC p) 1 (fun _ j=>[(.int .i64 0)].getD j .nilp) (OA p),_,((p.racks.length:Int):Int)=(p.racks.length:Int),_,_,(SH p).length=(VW p),aC (VW p) 2 (fun _ j=>[(.int .i64 0),(.int .i64 0)].getD j .nilp) (Y4 p)] {an:=[(3, .arr (NV p).length (Zt p)),(7, .arr (Ke p).length (OA p)),(11, .arr (SH p).length (Y4 p))],fr:=[(3,69),(7,70),(11,71),(13,72)] } [] ⟨a1,rfl,a2,a3,(List.length_replicate),(cZ _ _ _ _ _ (fun j hj=>(match j,hj with|0,_=>rfl))),a4,rfl,a5,a6,(List.length_replicate),(cZ _ _ _ _ _ (fun j hj=>(match j,hj with|0,_=>rfl))),a7,rfl,a8,a9,(List.length_replicate),(cZ _ _ _ _ _ (fun j hj=>(match j,hj with|0,_=>rfl|1,_=>rfl))),trivial⟩ ?_
  refine sz tT ⟨(Wt s_ p),(af8 p)⟩ {an:=[(0, .map 0 (EB (aj .i64) ([]:(List (Int × Int)))) (ES (aj .i64) ([]:(List (Int × Int)))) []),(1, .map 0 (EB (aj .i64) ([]:(List (Int × Int)))) (ES (aj .i64) ([]:(List (Int × Int)))) []),(2, .map 0 (EB af.cell ([]:(List (af × Int)))) (ES (aj .i64) ([]:(List (af × Int)))) [])],fr:=[(0,73),(1,74),(2,75)] } [] ?_
  refine aQ (sz tT ⟨[(2,(vP 63 0)),(jY s_),(4,(vP 65 0)),(nR p),(9,(vP 67 0)),(10,(vP 72 0)),su,pu,oo,(Jc p),(Jy p),(68,(vI 0))],(af8 p)⟩ {} [] ?_)
  refine bE h fun y hy h=> ?_
  refine aL [] (Bo p s_) (Bh p s_) iB hy (fun s f h=> ?_) ?_
  ·clear hy
   show bn _ _ _ _ _ _ ((JE p s_) f) _
   unfold tu at h
   obtain⟨n0,n1,v8,v0⟩:=s
   refine sz tT ⟨[(2,(vP 63 0)),(jY s_),(4,(vP 65 0)),(nR p),(9,(vP 67 0)),(10,(vP 72 0)),su,pu,oo,(Jc p),(Jy p),(68,(vI v0)),(69,(vB (NP p v0)))],(UL p n1 n0 v8)⟩ {} [] ?_
   refine aQ ?_
   refine bI h (fun hb1 h=> ?_) (fun hb1 h=> ?_)
   ·refine ct hb1 ?_
    refine aP (aQ (aB (aQ (aO h fun a1 h=> ?_))))
    refine rg tT ⟨[(2,(vP 63 0)),(jY s_),(4,(vP 65 0)),(nR p),(9,(vP 67 0)),(10,(vP 72 0)),su,pu,oo,(14,(vI v0)),(Yz p v0),(Jc p),(Jy p),(68,(vI v0))],(UL p n1 n0 v8)⟩ [_] {fr:=[(3,82)] } [82] ⟨a1,trivial⟩ ?_
    refine aQ (bE h fun ui hr_1 h=> ?_)
    have q0:=fE p s_ v0 hr_1
    refine rg tT ⟨[(2,(vP 63 0)),(jY s_),(4,(vP 65 0)),(nR p),(9,(vP 67 0)),(10,(vP 72 0)),su,pu,oo,(14,(vI v0)),(Yz p v0),(Jc p),(Jy p),(68,(vI v0)),(76,(vB ui))],(UL p n1 n0 v8)⟩ [_] {an:=[(3,cA q0 [])] } [] ⟨q0,trivial⟩ ?_
    refine bI h (fun hb h=> ?_) (fun hb h=> ?_)
    ·refine ct hb ?_
     refine bE h fun v4 hr_2 h=> ?_
     have q0:=rk [(0,67),(1,68),(2,66),(3,83)] (bY 0 (IntKind.wrap .i64 ((1:Int)+(Dm p v0))) (Ul p v0) 0 (⟨n0,n1⟩:Network) hr_2)
     refine rg tT ⟨(afm p s_ v0),(agT p v0 v4 v8)⟩ [_,IU [some .i64] 1 1 v8.length (EB (aj .i64) v8) (ES (aj .i64) v8) [(.int .i64 v0)] [(cI v4.1)] [] (jF Ui v0 v4.1 v8).length (Ph v0 v4 v8) (OI v0 v4 v8)] {an:=[(8,cA q0 [67,68,66]),(9, .map (jF Ui v0 v4.1 v8).length (Ph v0 v4 v8) (OI v0 v4 v8) [])] } [] ⟨q0,(zW (fun _=>rfl) (fun _ _=>rfl) v8 v0 v4.1 rfl rfl),trivial⟩ ?_
     refine ri tT ⟨(abg p s_ v0),(agT p v0 v4 v8)⟩ [] {} [] trivial (bG.fin (st':=⟨(abg p s_ v0),[(Ao p),bN,(Pt v4),(ajp v4),(68,some (He v4)),(VJ p),(Oi p),(Mf p),(VU p),(73,some (OB v0 v4 v8)),Ww,Nj]⟩) (cs:=[]) ⟨[],[(63,63),(65,65),(66,66),(67,67),(83,68),(69,69),(70,70),(71,71),(72,72),(73,73),(74,74),(75,75)]⟩ [2,3,4,8,9,10,11,12,13,66,67,68] (by kernel_rfl) trivial) ?_
     obtain rfl:=oi h
     exact lN
    ·refine cf hb ?_
     refine aP (rz tT ⟨(abg p s_ v0),(UL p n1 n0 v8)⟩ {} [] ?_)
     obtain rfl:=oi h
     exact lN
   ·refine cf hb1 ?_
    refine aI (fz ⟨(Wt s_ p),(UL p n1 n0 v8)⟩ []) ?_
    refine aX ?_
    obtain rfl:=oi h
    exact lB
  ·clear hy
   cases y with
   |brk z=>
    obtain⟨p1,ue,uc,x0,u4⟩:=z
    unfold dU
    refine⟨_, .refl, ?_⟩
    refine aQ (sz tT ⟨[(2,(vP 63 0)),(jY s_),(4,(vP 65 0)),(nR p),(9,(vP 67 0)),(10,(vP 72 0)),su,pu,oo,(Jd p),(Jk p),(90,(vI 0))],(aez p p1 x0 uc ue u4)⟩ {} [] ?_)
    refine bE h fun y1 hy h=> ?_
    refine aL [] (Ba p s_ p1 x0 u4) (Bd p s_ p1 x0 u4) iB hy (fun s f h=> ?_) ?_
    ·clear hy
     show bn _ _ _ _ _ _ ((JK p s_ p1 x0 u4) f) _
     unfold sQ at h
     obtain⟨w7,w3,v9,u7⟩:=s
     refine sz tT ⟨[(2,(vP 63 0)),(jY s_),(4,(vP 65 0)),(nR p),(9,(vP 67 0)),(10,(vP 72 0)),su,pu,oo,(Jd p),(Jk p),(90,(vI u7)),(91,(k99 p u7))],(Vv p v9 p1 w3 w7 x0 u4)⟩ {} [] ?_
     refine aQ ?_
     refine bI h (fun hb3 h=> ?_) (fun hb3 h=> ?_)
     ·refine ct hb3 ?_
      refine aP (aQ (aB (aQ (aO h fun a1 h=> ?_))))
      refine rg tT ⟨[(2,(vP 63 0)),(jY s_),(4,(vP 65 0)),(nR p),(9,(vP 67 0)),(10,(vP 72 0)),su,pu,oo,(16,(vI u7)),(ZQ p u7),(Jd p),(Jk p),(90,(vI u7))],(Vv p v9 p1 w3 w7 x0 u4)⟩ [_] {fr:=[(3,90)] } [90] ⟨a1,trivial⟩ ?_
      refine aQ (bE h fun uj hr_3 h=> ?_)
      have q0:=dI (⟨p.buses,p1,p.links,p.racks⟩:ah) s_ u7 hr_3
      refine rg tT ⟨[(2,(vP 63 0)),(jY s_),(4,(vP 65 0)),(nR p),(9,(vP 67 0)),(10,(vP 72 0)),su,pu,oo,(16,(vI u7)),(ZQ p u7),(Jd p),(Jk p),(90,(vI u7)),(98,(vB uj))],(Vv p v9 p1 w3 w7 x0 u4)⟩ [_] {an:=[(3,cA q0 [])] } [] ⟨q0,trivial⟩ ?_
      refine bI h (fun hb2 h=> ?_) (fun hb2 h=> ?_)
      ·refine ct hb2 ?_
       refine bE h fun v5 hr_4 h=> ?_
       have q0:=rk [(0,67),(1,68),(2,66),(3,91)] (bY (IntKind.wrap .i64 ((1:Int)+(H8 p u7))) (IntKind.wrap .i64 ((1:Int)+(Gh p u7))) (Sn p u7) (Sn p u7) (⟨w7,w3⟩:Network) hr_4)
       refine rg tT ⟨(ah8 p s_ u7),(ahG p u7 p1 v5 x0 u4 v9)⟩ [_,IU [some .i64] 1 1 v9.length (EB (aj .i64) v9) (ES (aj .i64) v9) [(.int .i64 u7)] [(cI v5.1)] [] (jF Ui u7 v5.1 v9).length (Ph u7 v5 v9) (OI u7 v5 v9)] {an:=[(13,cA q0 [67,68,66]),(14, .map (jF Ui u7 v5.1 v9).length (Ph u7 v5 v9) (OI u7 v5 v9) [])] } [] ⟨q0,(zW (fun _=>rfl) (fun _ _=>rfl) v9 u7 v5.1 rfl rfl),trivial⟩ ?_
       refine ri tT ⟨(ac5 p s_ u7),(ahG p u7 p1 v5 x0 u4 v9)⟩ [] {} [] trivial (bG.fin (st':=⟨(ac5 p s_ u7),[(QC p p1),bN,(Pt v5),(ajp v5),(68,some (He v5)),(nu x0),(Oi p),(Mf p),(YZ p x0),(E5 u4),(74,some (OB u7 v5 v9)),Nj]⟩) (cs:=[]) ⟨[],[(63,63),(65,65),(66,66),(67,67),(91,68),(69,69),(70,70),(71,71),(72,72),(73,73),(74,74),(75,75)]⟩ [2,3,4,8,9,10,11,12,13,88,89,90] (by kernel_rfl) trivial) ?_
       obtain rfl:=oi h
       exact lN
      ·refine cf hb2 ?_
       refine aP (rz tT ⟨(ac5 p s_ u7),(Vv p v9 p1 w3 w7 x0 u4)⟩ {} [] ?_)
       obtain rfl:=oi h
       exact lN
     ·refine cf hb3 ?_
      refine aI (fz ⟨(Wt s_ p),(Vv p v9 p1 w3 w7 x0 u4)⟩ []) ?_
      refine aX ?_
      obtain rfl:=oi h
      exact lB
    ·clear hy
     cases y1 with
     |brk z=>
      obtain⟨p2,uf,ud,x1,u5⟩:=z
      unfold dU
      refine⟨_, .refl, ?_⟩
      refine aQ (sz tT ⟨[(2,(vP 63 0)),(jY s_),(4,(vP 65 0)),(nR p),(9,(vP 67 0)),(10,(vP 72 0)),su,pu,oo,(115,(vD (k2 p))),(116,(vI (p.racks.length:Int))),(117,(vI 0))],(agh p p1 p2 x1 ud uf x0 u4 u5)⟩ {} [] ?_)
      refine bE h fun y3 hy h=> ?_
      refine aL [] (Bz p s_ p1 x0 u4 p2 x1 u5) (Bc p p1 x0 u4 p2 x1 u5) iB hy (fun s f h=> ?_) ?_
      ·clear hy
       show bn _ _ _ _ _ _ ((tJ p s_ p1 x0 u4 p2 x1 u5) f) _
       unfold tN at h
       obtain⟨p3,v7,x7,w9,x2,x9,u2,w0,u0⟩:=s
       refine sz tT ⟨[(2,(vP 63 0)),(jY s_),(4,(vP 65 0)),(8,(vI v7)),(9,(vP 67 0)),(10,(vP 72 0)),su,pu,oo,(zZ u2),(116,(vI w0)),(117,(vI u0)),(118,(vB (decide (u0<w0))))],(WE p p1 p2 p3 x2 x0 x1 x9 w9 x7 u4 u5)⟩ {} [] ?_
       refine aQ ?_
       refine bI h (fun hb6 h=> ?_) (fun hb6 h=> ?_)
       ·refine ct hb6 ?_
        refine aP (aQ (aB (aQ (aO h fun a1 h=> ?_))))
        refine rg tT ⟨(aev s_ v7 u0 u2 w0),(WE p p1 p2 p3 x2 x0 x1 x9 w9 x7 u4 u5)⟩ [_] {fr:=[(3,110)] } [110] ⟨a1,trivial⟩ ?_
        refine aQ (bE h fun x3 hr_5 h=> ?_)
        have q0:=rk [(0,67),(1,68),(2,66),(3,111)] (bY (YE p u0) v7 ((at' u2 u0.toNat).power) 0 (⟨x7,w9⟩:Network) hr_5)
        refine rg tT ⟨(aev s_ v7 u0 u2 w0),(aiQ p p1 x0 u4 x3 p2 p3 x1 x2 u5 x9)⟩ [_] {an:=[(9,cA q0 [67,68,66])] } [] ⟨q0,trivial⟩ ?_
        refine sz tT ⟨[(2,(vP 63 0)),(jY s_),(4,(vP 65 0)),(8,(vI v7)),(9,(vP 67 0)),(10,(vP 72 0)),su,pu,oo,(18,(vI u0)),(FD u2 u0),(zZ u2),(116,(vI w0)),(117,(vI u0)),(JF u2 u0),(134,(vI 0))],(aiQ p p1 x0 u4 x3 p2 p3 x1 x2 u5 x9)⟩ {} [] ?_
        refine bE h fun y2 hy h=> ?_
        refine aL [5] (Bg p s_ p1 x0 u4 p2 x1 u5 p3 v7 x2 u2 w0 u0) (Be p s_ p1 x0 u4 p2 x1 u5 p3 v7 x2 u2 w0 u0) (tJ p s_ p1 x0 u4 p2 x1 u5) hy (fun s f h=> ?_) ?_
        ·clear hy
         show bn _ _ _ _ _ _ ((JL p s_ p1 x0 u4 p2 x1 u5 p3 v7 x2 u2 w0 u0) f) _
         unfold sS at h
         obtain⟨w8,w4,w1,v3⟩:=s
         refine sz tT ⟨[(2,(vP 63 0)),(jY s_),(4,(vP 65 0)),(8,(vI v7)),(9,(vP 67 0)),(10,(vP 72 0)),su,pu,oo,(18,(vI u0)),(FD u2 u0),(zZ u2),(116,(vI w0)),(117,(vI u0)),(JF u2 u0),(134,(vI v3)),(135,(vB (decide (v3<2))))],(RP p p1 p2 p3 w4 w8 x0 x1 x2 u4 u5 w1)⟩ {} [] ?_
         refine aQ ?_
         refine bI h (fun hb5 h=> ?_) (fun hb5 h=> ?_)
         ·refine ct hb5 ?_
          refine aP (aQ (aB (aQ (aO h fun a1 h=> ?_))))
          refine rg tT ⟨[(2,(vP 63 0)),(jY s_),(4,(vP 65 0)),(8,(vI v7)),(9,(vP 67 0)),(10,(vP 72 0)),su,pu,oo,(18,(vI u0)),(FD u2 u0),(20,(vI v3)),(Yp u0 u2 v3),(zZ u2),(116,(vI w0)),(117,(vI u0)),(JF u2 u0),(134,(vI v3))],(RP p p1 p2 p3 w4 w8 x0 x1 x2 u4 u5 w1)⟩ [_,v3.toNat*1+1≤(XG u2 u0).length,((XG u2 u0).drop (v3.toNat*1)).take 1=(YV u0 u2 v3).map .d] {an:=[(1, .vals (YV u0 u2 v3))] } [] ⟨a1,(X8 (n:=2) (sz:=1) (Nat.le_refl _) a1),(Xr (n:=2) (sz:=1) (g:=fun q=>[(cI (at' [(L6 u2 u0).e0,(L6 u2 u0).e1] q))]) (by intro q hq;match q,hq with|0,_=>rfl|1,_=>rfl) a1),trivial⟩ ?_
          refine aQ (bE h fun ul hr_6 h=> ?_)
          have q0:=kZ s_ (XP u0 u2 v3) hr_6
          refine rg tT ⟨[(2,(vP 63 0)),(jY s_),(4,(vP 65 0)),(8,(vI v7)),(9,(vP 67 0)),(10,(vP 72 0)),su,pu,oo,(18,(vI u0)),(FD u2 u0),(20,(vI v3)),(Yp u0 u2 v3),(zZ u2),(116,(vI w0)),(117,(vI u0)),(JF u2 u0),(134,(vI v3)),(140,(vB ul))],(RP p p1 p2 p3 w4 w8 x0 x1 x2 u4 u5 w1)⟩ [_] {an:=[(2,cA q0 [])] } [] ⟨q0,trivial⟩ ?_
          refine bI h (fun hb4 h=> ?_) (fun hb4 h=> ?_)
          ·refine ct hb4 ?_
           refine bE h fun v6 hr_7 h=> ?_
           have q0:=rk [(0,67),(1,111),(2,66),(3,115)] (bY (agy u0 u2 v3) (YE p u0) ((at' u2 u0.toNat).power) 0 (⟨w8,w4⟩:Network) hr_7)
           refine rg tT ⟨(aiS u2 u0 s_ v7 w0 v3),[(dX p p1 p2 p3),bN,(Pt v6),(afb v6),(nu x0),(o8 x1),(rF x2),(ru x2 x0 x1),(E5 u4),(EK u5),(75,some (Vo 164 3 true false 2 1 af.cell (aj .i64) (jF (fun a b=>(decide (a.e0=b.e0) && (decide (a.e1=b.e1) && true))) (⟨u0,v3⟩:af) v6.1 w1))),(Z7 v6)]⟩ [_,IU [some .i64,some .i64] 2 1 w1.length (EB af.cell w1) (ES (aj .i64) w1) [(.int .i64 u0),(.int .i64 v3)] [(cI v6.1)] [] (jF (fun a b=>(decide (a.e0=b.e0) && (decide (a.e1=b.e1) && true))) (⟨u0,v3⟩:af) v6.1 w1).length (EB af.cell (jF (fun a b=>(decide (a.e0=b.e0) && (decide (a.e1=b.e1) && true))) (⟨u0,v3⟩:af) v6.1 w1)) (ES (aj .i64) (jF (fun a b=>(decide (a.e0=b.e0) && (decide (a.e1=b.e1) && true))) (⟨u0,v3⟩:af) v6.1 w1))] {an:=[(14,cA q0 [67,111,66]),(15, .map (jF (fun a b=>(decide (a.e0=b.e0) && (decide (a.e1=b.e1) && true))) (⟨u0,v3⟩:af) v6.1 w1).length (EB af.cell (jF (fun a b=>(decide (a.e0=b.e0) && (decide (a.e1=b.e1) && true))) (⟨u0,v3⟩:af) v6.1 w1)) (ES (aj .i64) (jF (fun a b=>(decide (a.e0=b.e0) && (decide (a.e1=b.e1) && true))) (⟨u0,v3⟩:af) v6.1 w1)) [])] } [] ⟨q0,(zW (fun _=>rfl) (fun _ _=>rfl) w1 (⟨u0,v3⟩:af) v6.1 rfl rfl),trivial⟩ ?_
           refine ri tT ⟨(acn s_ v7 u0 u2 w0 v3),[(dX p p1 p2 p3),bN,(Pt v6),(afb v6),(nu x0),(o8 x1),(rF x2),(ru x2 x0 x1),(E5 u4),(EK u5),(75,some (Vo 164 3 true false 2 1 af.cell (aj .i64) (jF (fun a b=>(decide (a.e0=b.e0) && (decide (a.e1=b.e1) && true))) (⟨u0,v3⟩:af) v6.1 w1))),(Z7 v6)]⟩ [] {} [] trivial (bG.fin (st':=⟨(acn s_ v7 u0 u2 w0 v3),[(dX p p1 p2 p3),bN,(Pt v6),(ahF v6),(nu x0),(o8 x1),(rF x2),(ru x2 x0 x1),(E5 u4),(EK u5),(75,some (Vo 164 3 true false 2 1 af.cell (aj .i64) (jF (fun a b=>(decide (a.e0=b.e0) && (decide (a.e1=b.e1) && true))) (⟨u0,v3⟩:af) v6.1 w1))),(111,some (He v6))]⟩) (cs:=[]) ⟨[],[(63,63),(65,65),(66,66),(67,67),(69,69),(70,70),(71,71),(72,72),(73,73),(74,74),(75,75),(115,111)]⟩ [2,3,4,8,9,10,11,12,13,18,19,115,116,117,133,134] (by kernel_rfl) trivial) ?_
           obtain rfl:=oi h
           exact lN
          ·refine cf hb4 ?_
           refine aP (rz tT ⟨(acn s_ v7 u0 u2 w0 v3),(RP p p1 p2 p3 w4 w8 x0 x1 x2 u4 u5 w1)⟩ {} [] ?_)
           obtain rfl:=oi h
           exact lN
         ·refine cf hb5 ?_
          refine aI (fz (aim s_ v7 u2 w0 u0 p p1 p2 p3 w4 w8 x0 x1 x2 u4 u5 w1) []) ?_
          refine aX ?_
          obtain rfl:=oi h
          exact lB
        ·clear hy
         cases y2 with
         |brk z=>
          obtain⟨ub,x8,ug⟩:=z
          unfold dU
          refine⟨_, .refl, ?_⟩
          refine ri tT ⟨(af5 s_ v7 u0 u2 w0),(RP p p1 p2 p3 x8 ub x0 x1 x2 u4 u5 ug)⟩ [] {} [] trivial (bG.fin (st':=⟨(af5 s_ v7 u0 u2 w0),(WE p p1 p2 p3 x2 x0 x1 ug x8 ub u4 u5)⟩) (cs:=[]) ⟨[],[(63,63),(65,65),(66,66),(67,67),(111,68),(69,69),(70,70),(71,71),(72,72),(73,73),(74,74),(75,75)]⟩ [2,3,4,8,9,10,11,12,13,115,116,117] (by kernel_rfl) trivial) ?_
          obtain rfl:=oi h
          exact lN
         |ret v=>
          obtain rfl:=oi h
          unfold dU
          intro e st hn ha hR
          cases e with
          |normal=>exact absurd rfl hn
          |exit id=>simp only [rC (b:=5) ha rfl,cond_false];exact hR
          |goto l=>exact hR
          |ret=>exact hR
          |panic c=>exact hR
          |outgrown=>exact hR
       ·refine cf hb6 ?_
        refine aI (fz (aht v7 p p1 p2 p3 w9 x7 x0 x1 x2 u4 u5 x9) []) ?_
        refine aX ?_
        obtain rfl:=oi h
        exact lB
      ·clear hy
       cases y3 with
       |brk z=>
        obtain⟨v1,ua,x5,x6,v2,u3⟩:=z
        unfold dU
        refine⟨_, .refl, ?_⟩
        refine aQ (aI (.trans (fi ⟨(acw ua),[(dX p p1 p2 v1),bN,(67,some (.cells 161 [(.own 68 false x5.length),(.d (.sl (some true) 1 x6.length (fun i j=>evD (AO uF x6 i j))))])),(N9 x5),(nu x0),(o8 x1),(rF v2),(ru v2 x0 x1),(E5 u4),(EK u5),(F5 u3)]⟩ [x6.length=x6.length] [66] ⟨rfl,trivial⟩) (bG.le (st':=⟨(acw ua),[(dX p p1 p2 v1),bN,(afk x5 x6),(N9 x5),(nu x0),(o8 x1),(rF v2),(ru v2 x0 x1),(E5 u4),(EK u5),(F5 u3)]⟩) ⟨⟨tR,tR,tR,tR,tR,tR,tR,tR,trivial⟩,(hN 2 ⟨rfl,bB ⟨cK.refl _,cK.d (fo.sl (.inr rfl) (fun i _ j hj=>match j,hj with|0,_=> .refl _)),trivial⟩,(.refl _)⟩)⟩)) ?_)
        refine bE h fun u1 hr_8 h=> ?_
        refine rg tT ⟨[(2,(vP 63 0)),(4,(vP 65 0)),(9,(vP 67 0)),(10,(vP 72 0)),su,pu,oo],[(dX p p1 p2 v1),bN,(Aa u1),(zA u1),(nu x0),(o8 x1),(rF v2),(ru v2 x0 x1),(E5 u4),(EK u5),(F5 u3)]⟩ [Fn Try.prog 80 [(.one (.ptr 67 0)),(sI ua)] [(afk x5 x6),(N9 x5)] (.gK []) (ahO u1)] {an:=[(2, .call [67,68] (.gK []) (ahO u1))] } [] ⟨(Fn.leH (args:=[(.one (.ptr 67 0)),(sI ua)]) (hin:=[(67,some (.cells 161 [(.own 68 false x5.length),(.d (Sm x6))])),(N9 x5)]) (rK [(0,67),(1,68)] (qx ua (⟨x5,x6⟩:Network) hr_8)) ⟨dm.refl _,dm.refl _,trivial⟩ ⟨rfl,bB ⟨cK.refl _,cK.d fo.mH,trivial⟩,(.refl _)⟩),trivial⟩ ?_
        refine aQ (bE h fun y4 hy h=> ?_)
        refine nH (JD p p1 p2 x1 u5 v1 v2 u3 u1) (K:=3) (V:=3) (s0:=(x0)) ⟨3,3,false,false,1,1,u4.length,EB (aj .i64) u4,ES (aj .i64) u4,[]⟩ 73 116 (fun i=>(sI (at' (u4.map Prod.fst) i))) (fun i=>(sI (at' (u4.map Prod.snd) i))) hy [3,4] (by kernel_rfl) (by kernel_rfl) (by kernel_rfl) (fun _ _=> ⟨rfl,rfl⟩) (fun _ _=> ⟨rU _ _,rU _ _⟩) (fun _=>(bG.fin (st':=(ah2 u1 p p1 p2 v1 x0 x1 v2 u5 u3)) (cs:=[]) ⟨[],[(63,63),(65,65),(67,67),(68,68),(69,69),(70,70),(71,71),(72,72),(74,74),(75,75),(116,116)]⟩ [2,4,9,10,12,13,162] (by kernel_rfl) trivial)) (fun s=>by obtain⟨w5,rfl⟩: ∃q,q=s:=⟨_,rfl⟩;kernel_rfl) (fun B s i s' hi h=> ?_) ?_
        ·clear hy
         unfold tX at h
         obtain⟨w5,rfl⟩: ∃q,q=s:=⟨_,rfl⟩
         refine rwp tT (⟨[(2,(vP 63 0)),(4,(vP 65 0)),(9,(vP 67 0)),(10,(vP 72 0)),pu,oo,(22,(vI (at' (u4.map Prod.fst) i))),(23,(vI (at' (u4.map Prod.snd) i))),(162,(vP 116 0))],(ah4 u1 p p1 p2 v1 w5 x1 v2 u5 u3)⟩) {fin:=⟨[],[(63,63),(65,65),(67,67),(68,68),(69,69),(70,70),(71,71),(72,72),(74,74),(75,75),(116,116)]⟩,ts:=[2,4,9,10,12,13,22,23,162] } (cs:=[]) (by kernel_rfl) trivial .refl ?_
         refine aO h fun⟨a1,a2⟩ h=> ?_
         refine di tT mX ⟨ac0,[(dX p p1 p2 v1),bN,(Aa u1),(zA u1),(69,some (.arr 3 1 w5.length (U2 u4 u1 i w5))),(o8 x1),(rF v2),(ru v2 w5 x1),(EK u5),(F5 u3),(116,none)]⟩ [_,_,_,_,aC w5.length 1 (aix u4 u1 i w5) (U2 u4 u1 i w5)] {an:=[(13, .arr 0 (U2 u4 u1 i w5))] } [] ⟨a1,(tL a1),a2,(tL a2),(bD _ _ _ _ _ _ _ _ rfl (fun j hj=>(match j,hj with|0,_=>rfl))),trivial⟩ (bG.le (st':=⟨ac0,[(dX p p1 p2 v1),bN,(Aa u1),(zA u1),(69,some (afO u4 u1 i w5)),(o8 x1),(rF v2),(72,some (.cells 77 [(.own 69 true (aik u4 u1 i w5)),(.own 70 true x1.length),(.own 71 true v2.length)])),(EK u5),(F5 u3),(116,none)]⟩) ⟨⟨tR,tR,tR,tR,tR,tR,tR,trivial⟩,(hN 4 ⟨rfl,oW,(hN 2 ⟨rfl,bB ⟨cW,cK.refl _,cK.refl _,trivial⟩,(.refl _)⟩)⟩)⟩) ?_
         obtain rfl:=oi h
         exact⟨.inl rfl,by kernel_rfl⟩
        ·clear hy
         obtain⟨u6,rfl⟩: ∃q,q=y4:=⟨_,rfl⟩
         refine aI (fz ⟨[(2,(vP 63 0)),(4,(vP 65 0)),(9,(vP 67 0)),(10,(vP 72 0)),pu,oo],[(dX p p1 p2 v1),bN,(Aa u1),(zA u1),(nu u6),(o8 x1),(rF v2),(ru v2 u6 x1),(EK u5),(F5 u3)]⟩ []) ?_
         refine aQ (bE h fun y5 hy h=> ?_)
         refine nH (JJ p p1 p2 v1 v2 u3 u1 u6) (K:=3) (V:=3) (s0:=(x1)) ⟨3,3,false,false,1,1,u5.length,EB (aj .i64) u5,ES (aj .i64) u5,[]⟩ 74 117 (fun i1=>(sI (at' (u5.map Prod.fst) i1))) (fun i1=>(sI (at' (u5.map Prod.snd) i1))) hy [3,4] (by kernel_rfl) (by kernel_rfl) (by kernel_rfl) (fun _ _=> ⟨rfl,rfl⟩) (fun _ _=> ⟨rU _ _,rU _ _⟩) (fun _=>(bG.fin (st':=(af4 p p1 p2 v1 u1 u6 x1 v2 u3)) (cs:=[]) ⟨[],[(63,63),(65,65),(67,67),(68,68),(69,69),(70,70),(71,71),(72,72),(75,75),(117,117)]⟩ [2,4,9,10,13,182] (by kernel_rfl) trivial)) (fun s=>by obtain⟨w6,rfl⟩: ∃q,q=s:=⟨_,rfl⟩;kernel_rfl) (fun B s i1 s' hi h=> ?_) ?_
         ·clear hy
          unfold tV at h
          obtain⟨w6,rfl⟩: ∃q,q=s:=⟨_,rfl⟩
          refine rwp tT (⟨[(2,(vP 63 0)),(4,(vP 65 0)),(9,(vP 67 0)),(10,(vP 72 0)),oo,(24,(vI (at' (u5.map Prod.fst) i1))),(25,(vI (at' (u5.map Prod.snd) i1))),(182,(vP 117 0))],(aiP p p1 p2 v1 u1 u6 w6 v2 u3)⟩) {fin:=⟨[],[(63,63),(65,65),(67,67),(68,68),(69,69),(70,70),(71,71),(72,72),(75,75),(117,117)]⟩,ts:=[2,4,9,10,13,24,25,182] } (cs:=[]) (by kernel_rfl) trivial .refl ?_
          refine aO h fun⟨a1,a2,a3⟩ h=> ?_
          refine di tT mX ⟨adz,[(dX p p1 p2 v1),bN,(Aa u1),(zA u1),(nu u6),(70,some (.arr 3 1 w6.length (Vi p2 u5 u1 i1 w6))),(rF v2),(ru v2 u6 w6),(F5 u3),(117,none)]⟩ [_,_,_,_,_,aC w6.length 1 (ahr p2 u5 u1 i1 w6) (Vi p2 u5 u1 i1 w6)] {an:=[(19, .arr 0 (Vi p2 u5 u1 i1 w6))] } [] ⟨a1,a2,(tL a2),a3,(tL a3),(bD _ _ _ _ _ _ _ _ rfl (fun j hj=>(match j,hj with|0,_=>rfl))),trivial⟩ (bG.le (st':=⟨adz,[(dX p p1 p2 v1),bN,(Aa u1),(zA u1),(nu u6),(70,some (agJ p2 u5 u1 i1 w6)),(rF v2),(72,some (.cells 77 [(.own 69 true u6.length),(.own 70 true (ajf p2 u5 u1 i1 w6)),(.own 71 true v2.length)])),(F5 u3),(117,none)]⟩) ⟨⟨tR,tR,tR,tR,tR,tR,trivial⟩,(hN 5 ⟨rfl,oW,⟨rfl, .refl _,⟨rfl,bB ⟨cK.refl _,cW,cK.refl _,trivial⟩,⟨rfl, .refl _,⟨rfl, .refl _,trivial⟩⟩⟩⟩⟩)⟩) ?_
          obtain rfl:=oi h
          exact⟨.inl rfl,by kernel_rfl⟩
         ·clear hy
          obtain⟨u8,rfl⟩: ∃q,q=y5:=⟨_,rfl⟩
          refine aI (fz ⟨[(2,(vP 63 0)),(4,(vP 65 0)),(9,(vP 67 0)),(10,(vP 72 0)),oo],[(dX p p1 p2 v1),bN,(Aa u1),(zA u1),(nu u6),(o8 u8),(rF v2),(ru v2 u6 u8),(F5 u3)]⟩ []) ?_
          refine aQ (bE h fun y6 hy h=> ?_)
          refine nH (I9 p p1 p2 v1 u1 u6 u8) (K:=164) (V:=3) (s0:=(v2)) ⟨164,3,true,false,2,1,u3.length,EB af.cell u3,ES (aj .i64) u3,[]⟩ 75 118 (fun i2=>(.agg (ZE u3 i2))) (fun i2=>(sI (at' (u3.map Prod.snd) i2))) hy [3,4,5] (by kernel_rfl) (by kernel_rfl) (by kernel_rfl) (fun _ _=> ⟨rfl,rfl⟩) (fun _ _=> ⟨Tt rfl,rU _ _⟩) (fun _=>(bG.fin (st':=(aic p p1 p2 v1 u1 u6 u8 v2)) (cs:=[]) ⟨[],[(63,63),(65,65),(67,67),(68,68),(69,69),(70,70),(71,71),(72,72),(118,118)]⟩ [2,4,9,10,208] (by kernel_rfl) trivial)) (fun s=>by obtain⟨u9,rfl⟩: ∃q,q=s:=⟨_,rfl⟩;kernel_rfl) (fun B s i2 s' hi h=> ?_) ?_
          ·clear hy
           unfold sV at h
           obtain⟨u9,rfl⟩: ∃q,q=s:=⟨_,rfl⟩
           refine rwp tT (⟨(acy u3 i2),[(dX p p1 p2 v1),bN,(Aa u1),(zA u1),(nu u6),(o8 u8),(rF u9),(ru u9 u6 u8),(118,none),(121,some (.cells 164 (ZE u3 i2)))]⟩) {fr:=frf [(3,121)],fin:=⟨[],[(63,63),(65,65),(67,67),(68,68),(69,69),(70,70),(71,71),(72,72),(118,118),(121,121)]⟩,ts:=[2,4,9,10,26,27,208] } (cs:=[]) (by kernel_rfl) trivial .refl ?_
           refine bI h (fun hb7 h=> ?_) (fun _ h=> ?_)
           ·skip
            refine aI (bG.le (st':=⟨(acy u3 i2),[(dX p p1 p2 v1),bN,(Aa u1),(zA u1),(nu u6),(o8 u8),(rF u9),(ru u9 u6 u8),(118,none),(121,some (.cells 164 [(cI ((at' (u3.map Prod.fst) i2).e0)),(cI 0)]))]⟩) ⟨⟨tR,tR,tR,tR,tR,tR,tR,trivial⟩,(hN 9 ⟨rfl,bB ⟨cK.refl _,cK.of (congrArg (fun n=>CV.d (.int .i64 n)) (of_decide_eq_true hb7)),trivial⟩,trivial⟩)⟩) ?_
            refine aO h fun⟨a1,a2⟩ h=> ?_
            refine di tT mX ⟨Yf,[(dX p p1 p2 v1),bN,(Aa u1),(zA u1),(nu u6),(o8 u8),(71,some (.arr 164 2 u9.length (TS u1 u3 i2 u9))),(ru u9 u6 u8),(118,none)]⟩ [(0:Int)≤0∧(0:Int)<(2:Nat),(0:Int)≤1∧(1:Int)<(2:Nat),_,_,_,(0:Int)≤0∧(0:Int)<(2:Nat),_,aC u9.length 2 (aeB u1 u3 i2 u9) (TS u1 u3 i2 u9)] {an:=[(17, .arr 0 (TS u1 u3 i2 u9))] } [] ⟨((by decide)),((by decide)),a1,(tL a1),a2,((by decide)),(tL a2),(bD _ _ _ _ _ _ _ _ rfl (fun j hj=>(match j,hj with|0,_=>rfl|1,_=>rfl))),trivial⟩ (bG.le (st':=⟨Yf,[(dX p p1 p2 v1),bN,(Aa u1),(zA u1),(nu u6),(o8 u8),(71,some (aeD u1 u3 i2 u9)),(72,some (.cells 77 [(.own 69 true u6.length),(.own 70 true u8.length),(.own 71 true (agl u1 u3 i2 u9))])),(118,none)]⟩) ⟨⟨tR,tR,tR,tR,tR,trivial⟩,(hN 6 ⟨rfl,oW,⟨rfl,bB ⟨cK.refl _,cK.refl _,cW,trivial⟩,(.refl _)⟩⟩)⟩) ?_
            obtain rfl:=oi h
            exact⟨.inl rfl,by kernel_rfl⟩
           ·skip
            refine aO h fun a1 h=> ?_
            refine aI (bG.le (st':=⟨(acy u3 i2),[(dX p p1 p2 v1),bN,(Aa u1),(zA u1),(nu u6),(o8 u8),(rF u9),(ru u9 u6 u8),(118,none),(121,some (.cells 164 [(cI ((at' (u3.map Prod.fst) i2).e0)),(cI 1)]))]⟩) ⟨⟨tR,tR,tR,tR,tR,tR,tR,trivial⟩,(hN 9 ⟨rfl,bB ⟨cK.refl _,cK.of (congrArg (fun n=>CV.d (.int .i64 n)) a1),trivial⟩,trivial⟩)⟩) ?_
            refine aO h fun⟨a1,a2⟩ h=> ?_
            refine di tT mX ⟨Yf,[(dX p p1 p2 v1),bN,(Aa u1),(zA u1),(nu u6),(o8 u8),(71,some (.arr 164 2 u9.length (Ud u1 u3 i2 u9))),(ru u9 u6 u8),(118,none)]⟩ [(0:Int)≤0∧(0:Int)<(2:Nat),(0:Int)≤1∧(1:Int)<(2:Nat),_,_,_,(0:Int)≤1∧(1:Int)<(2:Nat),_,aC u9.length 2 (ajm u1 u3 i2 u9) (Ud u1 u3 i2 u9)] {an:=[(17, .arr 0 (Ud u1 u3 i2 u9))] } [] ⟨((by decide)),((by decide)),a1,(tL a1),a2,((by decide)),(tL a2),(bD _ _ _ _ _ _ _ _ rfl (fun j hj=>(match j,hj with|0,_=>rfl|1,_=>rfl))),trivial⟩ (bG.le (st':=⟨Yf,[(dX p p1 p2 v1),bN,(Aa u1),(zA u1),(nu u6),(o8 u8),(71,some (agR u1 u3 i2 u9)),(72,some (.cells 77 [(.own 69 true u6.length),(.own 70 true u8.length),(.own 71 true (aer u1 u3 i2 u9))])),(118,none)]⟩) ⟨⟨tR,tR,tR,tR,tR,trivial⟩,(hN 6 ⟨rfl,oW,⟨rfl,bB ⟨cK.refl _,cK.refl _,cW,trivial⟩,(.refl _)⟩⟩)⟩) ?_
            obtain rfl:=oi h
            exact⟨.inl rfl,by kernel_rfl⟩
          ·clear hy
           obtain⟨w2,rfl⟩: ∃q,q=y6:=⟨_,rfl⟩
           refine aI (fz ⟨[(2,(vP 63 0)),(4,(vP 65 0)),(9,(vP 67 0)),(10,(vP 72 0))],[(dX p p1 p2 v1),bN,(Aa u1),(zA u1),(nu u6),(o8 u8),(rF w2),(ru w2 u6 u8)]⟩ []) ?_
           refine aQ (aO h fun⟨a1,a2,a3⟩ h=> ?_)
           refine rg tT ⟨[(2,(vP 63 0)),(4,(vP 65 0)),(9,(vP 67 0)),(10,(vP 72 0)),(28,(vP 123 0))],[(dX p p1 p2 v1),bN,(Aa u1),(zA u1),(nu u6),(o8 u8),(rF w2),(ru w2 u6 u8),(WO p),(WZ p)]⟩ [_,(p.buses:Int)=p.buses,_,_,(DF p).length=p.buses.toNat,aC p.buses.toNat 1 (fun _ j=>[(.bool false)].getD j .nilp) (Um p)] {an:=[(2, .arr (DF p).length (Um p))],fr:=[(2,122),(3,123)] } [] ⟨a1,rfl,a2,a3,(List.length_replicate),(cZ _ _ _ _ _ (fun j hj=>(match j,hj with|0,_=>rfl))),trivial⟩ ?_
           refine aQ (aQ (bE h fun um hr_9 h=> ?_))
           have q0:=rk [(0,67),(1,68),(2,124)] (iR u1 hr_9)
           refine ri tT ⟨afA,[(dX p p1 p2 v1),bN,(67,some (ahK u1)),(nu u6),(o8 u8),(rF w2),(ru w2 u6 u8),(WO p),(WZ p),(124,some (.cells 157 [(.ptr 67 0)]))]⟩ [_,u1.arcs.length=u1.arcs.length] {an:=[(1,cA q0 [67,68])] } [68] ⟨q0,rfl,trivial⟩ (.trans (fz ⟨afA,[(dX p p1 p2 v1),bN,(nu u6),(o8 u8),(rF w2),(ru w2 u6 u8),(WO p),(WZ p),(124,some (ai2 u1))]⟩ [67]) (fz ⟨(ahR u1),[(dX p p1 p2 v1),bN,(nu u6),(o8 u8),(rF w2),(ru w2 u6 u8),(WO p),(WZ p)]⟩ [124])) ?_
           refine aB (bE h fun x4 hr_10 h=> ?_)
           refine jG 125 [(2,(vP 63 0)),(28,(vP 123 0))] [] [125,63,123,122] (.gK []) [(125,some (.loop dM 0 [(2,(vP 63 0)),(28,(vP 123 0))])),(dX p p1 p2 v1),(123,some (.cells 27 [(.own 122 true x4.length)])),(122,some (bO 4 1 ai x4))] (acu u1) 121 [] (afo u1) [(125,some (.loop dM 0 [(2,(vP 63 0)),(28,(vP 123 0))])),(dX p p1 p2 v1),(WZ p),(WO p)] [(.one (.yl 125)),(sD (Z8 u1))] dM 0 [(2,(vP 63 0)),(28,(vP 123 0))] (by kernel_rfl) (by kernel_rfl) (by kernel_rfl) (by kernel_rfl) (by kernel_rfl) (by kernel_rfl) (by kernel_rfl) (rK [(0,125),(1,63),(2,123),(3,122)] (jW u1.arcs u1.from_ (⟨p.buses,p1,p2,v1⟩:ah) (DF p) hr_10)) (by kernel_rfl) rfl (EG.zero rfl) (bG.fin (st':=⟨(ahR u1),[(dX p p1 p2 v1),bN,(nu u6),(o8 u8),(rF w2),(ru w2 u6 u8),(122,some (bO 4 1 ai x4)),(123,some (.cells 27 [(.own 122 true x4.length)]))]⟩) (cs:=[]) ⟨[],[(63,63),(65,65),(69,69),(70,70),(71,71),(72,72),(122,122),(123,123)]⟩ [2,4,10,28,235] (by kernel_rfl) trivial) ?_
           refine sj tT mX ⟨[(4,(vP 65 0)),(5,(vD (aJ (some true) 1 ai x4))),(6,(vI 0))],[(65,some (.cells 77 [(.d (Rf u6)),(.d (Rf u8)),(.d (aJ (some true) 2 af.cell w2))]))]⟩ [x4.length=x4.length,u6.length=u6.length,u8.length=u8.length,w2.length=w2.length] {} [69,70,71,122] ⟨rfl,rfl,rfl,rfl,trivial⟩ (fz ⟨[(4,(vD (mg [(Rf u6),(Rf u8),(aJ (some true) 2 af.cell w2)] 0))),(5,(vD (aJ (some true) 1 ai x4))),(6,(vI 0))],[]⟩ [65]) ?_
           refine aI (bG.le (st':=⟨[(4,(vD (mg [(y7 u6),(y7 u8),(aJ none 2 af.cell w2)] 0))),(5,(Jw x4)),(6,(vI 0))],[]⟩) ⟨⟨⟨_,rfl,cu.v (dm.one (cK.d (NN ⟨fo.mH,fo.mH,fo.mH,trivial⟩)))⟩,⟨_,rfl,cu.v (dm.one (cK.d fo.mH))⟩,tR,trivial⟩,trivial⟩) ?_
           refine aR ?_
           obtain rfl:=oi h
           exact rl [(.agg [(.d (y7 u6)),(.d (y7 u8)),(.d (aJ none 2 af.cell w2))]),(sD (aJ none 1 ai x4)),(sI 0)]
       |ret v=>
        obtain rfl:=oi h
        unfold dU
        intro e st hn ha hR
        cases e with
        |normal=>exact absurd rfl hn
        |exit id=>exact hR
        |goto l=>exact hR
        |ret=>exact hR
        |panic c=>exact hR
        |outgrown=>exact hR
     |ret v=>
      obtain rfl:=oi h
      unfold dU
      intro e st hn ha hR
      cases e with
      |normal=>exact absurd rfl hn
      |exit id=>exact hR
      |goto l=>exact hR
      |ret=>exact hR
      |panic c=>exact hR
      |outgrown=>exact hR
   |ret v=>
    obtain rfl:=oi h
    unfold dU
    intro e st hn ha hR
    cases e with
    |normal=>exact absurd rfl hn
    |exit id=>exact hR
    |goto l=>exact hR
    |ret=>exact hR
    |panic c=>exact hR
    |outgrown=>exact hR
def Hy  :(Int × (List Source) × (List Link) × (List ay) × (List Bool) × (List Bool) × (List Bool) × (List Bool) × (List Bool) × (List Bool) × (List Bool) × (List Bool))→Exit→St→Prop:=
  fun r=>aU TT [.tmp 6] (vD (.fn 124 3 (nT [(mg [(.int .i64 r.1),(aJ none 5 Source.cell r.2.1),(aJ none 6 Link.cell r.2.2.1),(aJ none 4 ay.cell r.2.2.2.1)] 0),(mg [(aJ none 1 ai r.2.2.2.2.1),(aJ none 1 ai r.2.2.2.2.2.1),(aJ none 1 ai r.2.2.2.2.2.2.1),(aJ none 1 ai r.2.2.2.2.2.2.2.1),(aJ none 1 ai r.2.2.2.2.2.2.2.2.1),(aJ none 1 ai r.2.2.2.2.2.2.2.2.2.1),(aJ none 1 ai r.2.2.2.2.2.2.2.2.2.2.1)] 0),(mg [(aJ none 1 ai r.2.2.2.2.2.2.2.2.2.2.2)] 0)]))) []
section
variable (p:ah) (s_:State) (u0:(List Bool))
abbrev agX:List SV:=[(.agg (k1 p)),(.agg (QW s_)),(sD (aJ none 1 ai u0))]
abbrev SL:DV:=(mg [(aJ none 1 ai u0)] 0)
abbrev afl:=(nT [(k6 p),(k76 s_),(SL u0)])
end
theorem xS (p:ah) (s_:State) (u0:(List Bool)) {r:(Int × (List Source) × (List Link) × (List ay) × (List Bool) × (List Bool) × (List Bool) × (List Bool) × (List Bool) × (List Bool) × (List Bool) × (List Bool))} (h:ql p s_ u0=some r):Fn Try.prog 82 (agX p s_ u0) [] (vD (.fn 124 3 (nT [(mg [(.int .i64 r.1),(aJ none 5 Source.cell r.2.1),(aJ none 6 Link.cell r.2.2.1),(aJ none 4 ay.cell r.2.2.2.1)] 0),(mg [(aJ none 1 ai r.2.2.2.2.1),(aJ none 1 ai r.2.2.2.2.2.1),(aJ none 1 ai r.2.2.2.2.2.2.1),(aJ none 1 ai r.2.2.2.2.2.2.2.1),(aJ none 1 ai r.2.2.2.2.2.2.2.2.1),(aJ none 1 ai r.2.2.2.2.2.2.2.2.2.1),(aJ none 1 ai r.2.2.2.2.2.2.2.2.2.2.1)] 0),(mg [(aJ none 1 ai r.2.2.2.2.2.2.2.2.2.2.2)] 0)]))) []:=by
 refine fN tT Try.func82 rfl rfl fun B=> ?_
 show bn _ _ _ _ _ _ (Hy r) _
 unfold ql at h
 refine sz tT ⟨[(bC p),(aY s_),(5,(vD (SL u0)))],[]⟩ {fr:=[(0,3),(1,4),(2,5)] } [3,4,5] ?_
 refine sz tT ⟨[(6,(vD (.fn 124 3 (afl p s_ u0))))],[]⟩ {} [] ?_
 refine aR ?_
 obtain rfl:=oi h
 exact rl [(sD (.fn 124 3 (afl p s_ u0)))]
def fA  :(aA × (List Bool) × Int)→Exit→St→Prop:=
  fun r=>aU TT [.cell 4 77, .tmp 5, .tmp 6] (.gK [(.agg [(.own 0 false r.1.sources.length),(.own 1 false r.1.links.length),(.own 2 false r.1.racks.length)]),(.one (.own 3 false r.2.1.length)),(sI r.2.2)]) [(0,some (bO 3 1 (aj .i64) r.1.sources)),(1,some (bO 3 1 (aj .i64) r.1.links)),(2,some (bO 164 2 af.cell r.1.racks)),(3,some (bO 4 1 ai r.2.1)),(4,none)]
section
variable (s_:State) (p:ah) (u1:Int) (n1:(List (List Int))) (n0:(List bJ)) (u0:(List (Int × Int)))
abbrev sO:Nat × TV:=(11,(.v (.one (.mp 77))))
abbrev pF:Nat × TV:=(12,(.v (.one (.mp 78))))
abbrev nY:Nat × TV:=(13,(.v (.one (.mp 79))))
abbrev ahy:List (Nat × TV):=[(2,(vP 63 0)),(jY s_),(4,(vP 65 0)),(nR p),(9,(vP 71 0)),(10,(vP 76 0)),sO,pF,nY,(Jc p),(Jy p),(68,(vI u1))]
abbrev Vq:Nat × Option Ob:=(70,some (.rows 40 1 n1.length (AO uF n1) none))
abbrev V8:Nat × Option Ob:=(71,some (.cells 161 [(.own 72 false n0.length),(.own 70 true n1.length)]))
abbrev Oa:Nat × Option Ob:=(72,some (bO 170 2 bJ.cell n0))
abbrev Xc:Nat × Option Ob:=(73,some (bO 3 1 (aj .i64) (NV p)))
abbrev NR:Nat × Option Ob:=(74,some (ZW p))
abbrev Lu:Nat × Option Ob:=(75,some (ai0 p))
abbrev WL:Nat × Option Ob:=(76,some (.cells 77 [(.own 73 true ((NV p).length)),(.own 74 true (RL p)),(.own 75 true (Un p))]))
abbrev Ey:Nat × Option Ob:=(77,some (YB u0))
abbrev Yc:Nat × Option Ob:=(78,some ZU)
abbrev NW:Nat × Option Ob:=(79,some (Vo 164 3 true false 2 1 af.cell (aj .i64) ([]:(List (af × Int)))))
abbrev Vd:List (Nat × Option Ob):=[(Ao p),bN,(Vq n1),(V8 n1 n0),(Oa n0),(Xc p),(NR p),(Lu p),(WL p),(Ey u0),Yc,NW]
end
def wQ (p:ah) (s_:State):((List bJ) × (List (List Int)) × (List (Int × Int)) × Int)→St:=
  fun zz=>match zz with|(n0,n1,u0,u1)=> ⟨(ahy s_ p u1),(Vd p n1 n0 u0)⟩
section
variable (s_:State) (p:ah) (x0:(List Int)) (p1:(List Source)) (u0:(List (List Int))) (u1:(List bJ)) (u2:(List (Int × Int)))
abbrev Xe:List (Nat × TV):=[(2,(vP 63 0)),(jY s_),(4,(vP 65 0)),(nR p),(9,(vP 71 0)),(10,(vP 76 0)),sO,pF,nY]
abbrev mD:Nat × Option Ob:=(73,some (CO x0))
abbrev Y3:Nat × Option Ob:=(76,some (.cells 77 [(.own 73 true x0.length),(.own 74 true (RL p)),(.own 75 true (Un p))]))
abbrev afW:List (Nat × Option Ob):=[(QC p p1),bN,(Vq u0),(V8 u0 u1),(Oa u1),(mD x0),(NR p),(Lu p),(Y3 p x0),(Ey u2),Yc,NW]
end
def wu (p:ah) (s_:State):((List Source) × (List bJ) × (List (List Int)) × (List Int) × (List (Int × Int)))→St:=
  fun zz=>match zz with|(p1,u1,u0,x0,u2)=> ⟨(Xe s_ p),(afW p x0 p1 u0 u1 u2)⟩
def E9 (p:ah) (s_:State):(aK ((List bJ) × (List (List Int)) × (List (Int × Int)) × Int) (Ex ((List Source) × (List bJ) × (List (List Int)) × (List Int) × (List (Int × Int))) (aA × (List Bool) × Int)))→Exit→St→Prop:=
  LQ 0 [] (wQ p s_) (wu p s_) fA
section
variable (s_:State) (p:ah) (u4:Int) (u3:(List (Int × Int))) (p1:(List Source)) (u0:(List (List Int))) (u1:(List bJ)) (x0:(List Int)) (u2:(List (Int × Int)))
abbrev afI:List (Nat × TV):=[(2,(vP 63 0)),(jY s_),(4,(vP 65 0)),(nR p),(9,(vP 71 0)),(10,(vP 76 0)),sO,pF,nY,(Jd p),(Jk p),(90,(vI u4))]
abbrev EC:Nat × Option Ob:=(78,some (YB u3))
abbrev U3:List (Nat × Option Ob):=[(QC p p1),bN,(Vq u0),(V8 u0 u1),(Oa u1),(mD x0),(NR p),(Lu p),(Y3 p x0),(Ey u2),(EC u3),NW]
end
def xq (p:ah) (s_:State) (p1:(List Source)) (x0:(List Int)) (u2:(List (Int × Int))):((List bJ) × (List (List Int)) × (List (Int × Int)) × Int)→St:=
  fun zz=>match zz with|(u1,u0,u3,u4)=> ⟨(afI s_ p u4),(U3 p u3 p1 u0 u1 x0 u2)⟩
section
variable (x1:(List Int)) (p:ah) (p1:(List Source)) (p2:(List Link)) (u0:(List (List Int))) (u1:(List bJ)) (x0:(List Int)) (u2:(List (Int × Int))) (u3:(List (Int × Int)))
abbrev oN:Nat × Option Ob:=(74,some (CO x1))
abbrev ai1:List (Nat × Option Ob):=[(ah1 p p1 p2),bN,(Vq u0),(V8 u0 u1),(Oa u1),(mD x0),(oN x1),(Lu p),(76,some (.cells 77 [(.own 73 true x0.length),(.own 74 true x1.length),(.own 75 true (Un p))])),(Ey u2),(EC u3),NW]
end
def vH (p:ah) (s_:State) (p1:(List Source)) (x0:(List Int)) (u2:(List (Int × Int))):((List Link) × (List bJ) × (List (List Int)) × (List Int) × (List (Int × Int)))→St:=
  fun zz=>match zz with|(p2,u1,u0,x1,u3)=> ⟨(Xe s_ p),(ai1 x1 p p1 p2 u0 u1 x0 u2 u3)⟩
def ED (p:ah) (s_:State) (p1:(List Source)) (x0:(List Int)) (u0:(List (Int × Int))):(aK ((List bJ) × (List (List Int)) × (List (Int × Int)) × Int) (Ex ((List Link) × (List bJ) × (List (List Int)) × (List Int) × (List (Int × Int))) (aA × (List Bool) × Int)))→Exit→St→Prop:=
  LQ 2 [] (xq p s_ p1 x0 u0) (vH p s_ p1 x0 u0) fA
section
variable (s_:State) (u4:Int) (u6:(List ay)) (u7:Int) (u8:Int) (x2:(List af)) (x0:(List Int)) (x1:(List Int)) (u5:(List (af × Int))) (p:ah) (p1:(List Source)) (p2:(List Link)) (p3:(List ay)) (u0:(List (List Int))) (u1:(List bJ)) (u2:(List (Int × Int))) (u3:(List (Int × Int)))
abbrev aeM:List (Nat × TV):=[(2,(vP 63 0)),(jY s_),(4,(vP 65 0)),(8,(vI u4)),(9,(vP 71 0)),(10,(vP 76 0)),sO,pF,nY,(zZ u6),(116,(vI u7)),(117,(vI u8))]
abbrev qD:Nat × Option Ob:=(75,some (bO 164 2 af.cell x2))
abbrev qY:Nat × Option Ob:=(76,some (.cells 77 [(.own 73 true x0.length),(.own 74 true x1.length),(.own 75 true x2.length)]))
abbrev Gm:Nat × Option Ob:=(79,some (Vo 164 3 true false 2 1 af.cell (aj .i64) u5))
abbrev VN:List (Nat × Option Ob):=[(dX p p1 p2 p3),bN,(Vq u0),(V8 u0 u1),(Oa u1),(mD x0),(oN x1),(qD x2),(qY x2 x0 x1),(Ey u2),(EC u3),(Gm u5)]
end
def xk (p:ah) (s_:State) (p1:(List Source)) (x0:(List Int)) (u2:(List (Int × Int))) (p2:(List Link)) (x1:(List Int)) (u3:(List (Int × Int))):((List ay) × Int × (List bJ) × (List (List Int)) × (List af) × (List (af × Int)) × (List ay) × Int × Int)→St:=
  fun zz=>match zz with|(p3,u4,u1,u0,x2,u5,u6,u7,u8)=> ⟨(aeM s_ u4 u6 u7 u8),(VN x2 x0 x1 u5 p p1 p2 p3 u0 u1 u2 u3)⟩
section
variable (u6:Int) (p:ah) (p1:(List Source)) (p2:(List Link)) (u5:(List ay)) (u0:(List (List Int))) (u1:(List bJ)) (x0:(List Int)) (x1:(List Int)) (u2:(List af)) (u3:(List (Int × Int))) (u4:(List (Int × Int))) (u7:(List (af × Int)))
abbrev abD:List (Nat × TV):=[(2,(vP 63 0)),(4,(vP 65 0)),(8,(vI u6)),(9,(vP 71 0)),(10,(vP 76 0)),sO,pF,nY]
abbrev ahH:St:=⟨(abD u6),(VN u2 x0 x1 u7 p p1 p2 u5 u0 u1 u3 u4)⟩
end
def vJ (p:ah) (p1:(List Source)) (x0:(List Int)) (u3:(List (Int × Int))) (p2:(List Link)) (x1:(List Int)) (u4:(List (Int × Int))):((List ay) × Int × (List bJ) × (List (List Int)) × (List af) × (List (af × Int)))→St:=
  fun zz=>match zz with|(u5,u6,u1,u0,u2,u7)=>(ahH u6 p p1 p2 u5 u0 u1 x0 x1 u2 u3 u4 u7)
def oI (p:ah) (s_:State) (p1:(List Source)) (x0:(List Int)) (u0:(List (Int × Int))) (p2:(List Link)) (x1:(List Int)) (u1:(List (Int × Int))):(aK ((List ay) × Int × (List bJ) × (List (List Int)) × (List af) × (List (af × Int)) × (List ay) × Int × Int) (Ex ((List ay) × Int × (List bJ) × (List (List Int)) × (List af) × (List (af × Int))) (aA × (List Bool) × Int)))→Exit→St→Prop:=
  LQ 4 [] (xk p s_ p1 x0 u0 p2 x1 u1) (vJ p p1 x0 u0 p2 x1 u1) fA
section
variable (s_:State) (u6:Int) (u0:Int) (u1:(List ay)) (u7:Int) (u9:Int) (p:ah) (p1:(List Source)) (p2:(List Link)) (p3:(List ay)) (u2:(List (List Int))) (u3:(List bJ)) (x0:(List Int)) (x1:(List Int)) (x2:(List af)) (u4:(List (Int × Int))) (u5:(List (Int × Int))) (u8:(List (af × Int)))
abbrev aiU:List (Nat × TV):=[(2,(vP 63 0)),(jY s_),(4,(vP 65 0)),(8,(vI u6)),(9,(vP 71 0)),(10,(vP 76 0)),sO,pF,nY,(18,(vI u0)),(FD u1 u0),(zZ u1),(116,(vI u7)),(117,(vI u0)),(JF u1 u0),(134,(vI u9))]
abbrev Sr:List (Nat × Option Ob):=[(dX p p1 p2 p3),bN,(Vq u2),(71,some (.cells 161 [(.own 115 false u3.length),(.own 70 true u2.length)])),(mD x0),(oN x1),(qD x2),(qY x2 x0 x1),(Ey u4),(EC u5),(Gm u8),(115,some (bO 170 2 bJ.cell u3))]
end
def xD (p:ah) (s_:State) (p1:(List Source)) (x0:(List Int)) (u4:(List (Int × Int))) (p2:(List Link)) (x1:(List Int)) (u5:(List (Int × Int))) (p3:(List ay)) (u6:Int) (x2:(List af)) (u1:(List ay)) (u7:Int) (u0:Int):((List bJ) × (List (List Int)) × (List (af × Int)) × Int)→St:=
  fun zz=>match zz with|(u3,u2,u8,u9)=> ⟨(aiU s_ u6 u0 u1 u7 u9),(Sr p p1 p2 p3 u2 u3 x0 x1 x2 u4 u5 u8)⟩
section
variable (s_:State) (u4:Int) (u5:(List ay)) (u6:Int) (u7:Int) (p:ah) (p1:(List Source)) (p2:(List Link)) (p3:(List ay)) (u0:(List (List Int))) (u1:(List bJ)) (x0:(List Int)) (x1:(List Int)) (x2:(List af)) (u2:(List (Int × Int))) (u3:(List (Int × Int))) (u8:(List (af × Int)))
abbrev ahx:St:=⟨(aeM s_ u4 u5 u6 u7),(Sr p p1 p2 p3 u0 u1 x0 x1 x2 u2 u3 u8)⟩
end
def vZ (p:ah) (s_:State) (p1:(List Source)) (x0:(List Int)) (u2:(List (Int × Int))) (p2:(List Link)) (x1:(List Int)) (u3:(List (Int × Int))) (p3:(List ay)) (u4:Int) (x2:(List af)) (u5:(List ay)) (u6:Int) (u7:Int):((List bJ) × (List (List Int)) × (List (af × Int)))→St:=
  fun zz=>match zz with|(u1,u0,u8)=>(ahx s_ u4 u5 u6 u7 p p1 p2 p3 u0 u1 x0 x1 x2 u2 u3 u8)
def EJ (p:ah) (s_:State) (p1:(List Source)) (x0:(List Int)) (u0:(List (Int × Int))) (p2:(List Link)) (x1:(List Int)) (u1:(List (Int × Int))) (p3:(List ay)) (u2:Int) (x2:(List af)) (u3:(List ay)) (u4:Int) (u5:Int):(aK ((List bJ) × (List (List Int)) × (List (af × Int)) × Int) (Ex ((List bJ) × (List (List Int)) × (List (af × Int))) (aK ((List ay) × Int × (List bJ) × (List (List Int)) × (List af) × (List (af × Int)) × (List ay) × Int × Int) (Ex ((List ay) × Int × (List bJ) × (List (List Int)) × (List af) × (List (af × Int))) (aA × (List Bool) × Int)))))→Exit→St→Prop:=
  LQ 6 [5] (xD p s_ p1 x0 u0 p2 x1 u1 p3 u2 x2 u3 u4 u5) (vZ p s_ p1 x0 u0 p2 x1 u1 p3 u2 x2 u3 u4 u5) (oI p s_ p1 x0 u0 p2 x1 u1)
section
variable (u0:Network) (p:ah) (p1:(List Source)) (p2:(List Link)) (u4:(List ay)) (u2:(List Int)) (x1:(List Int)) (u1:(List af)) (u3:(List (Int × Int))) (u5:(List (af × Int)))
abbrev adT:List (Nat × TV):=[(2,(vP 63 0)),(4,(vP 65 0)),(9,(vP 71 0)),(10,(vP 76 0)),pF,nY,(162,(vP 120 0))]
abbrev zn:Nat × Option Ob:=(71,some (.cells 161 [(.own 72 false u0.arcs.length),(.d (Lg u0))]))
abbrev zR:Nat × Option Ob:=(72,some (bO 170 2 bJ.cell u0.arcs))
abbrev ae6:List (Nat × Option Ob):=[(dX p p1 p2 u4),bN,(zn u0),(zR u0),(mD u2),(oN x1),(qD u1),(qY u1 u2 x1),(EC u3),(Gm u5),(120,none)]
abbrev afN:St:=⟨adT,(ae6 u0 p p1 p2 u4 u2 x1 u1 u3 u5)⟩
end
def Fa (p:ah) (p1:(List Source)) (p2:(List Link)) (x1:(List Int)) (u3:(List (Int × Int))) (u4:(List ay)) (u1:(List af)) (u5:(List (af × Int))) (u0:Network):(List Int)→St:=
  fun u2=>(afN u0 p p1 p2 u4 u2 x1 u1 u3 u5)
section
variable (p:ah) (p1:(List Source)) (p2:(List Link)) (u4:(List ay)) (u0:Network) (u2:(List Int)) (u3:(List Int)) (u1:(List af)) (u5:(List (af × Int)))
abbrev abe:List (Nat × TV):=[(2,(vP 63 0)),(4,(vP 65 0)),(9,(vP 71 0)),(10,(vP 76 0)),nY,(182,(vP 121 0))]
abbrev ah0:List (Nat × Option Ob):=[(dX p p1 p2 u4),bN,(zn u0),(zR u0),(mD u2),(oN u3),(qD u1),(qY u1 u2 u3),(Gm u5),(121,none)]
abbrev aho:St:=⟨abe,(ah0 p p1 p2 u4 u0 u2 u3 u1 u5)⟩
end
def EY (p:ah) (p1:(List Source)) (p2:(List Link)) (u4:(List ay)) (u1:(List af)) (u5:(List (af × Int))) (u0:Network) (u2:(List Int)):(List Int)→St:=
  fun u3=>(aho p p1 p2 u4 u0 u2 u3 u1 u5)
section
variable (p:ah) (p1:(List Source)) (p2:(List Link)) (u4:(List ay)) (u0:Network) (u1:(List Int)) (u2:(List Int)) (u3:(List af))
abbrev VO:List (Nat × TV):=[(2,(vP 63 0)),(4,(vP 65 0)),(9,(vP 71 0)),(10,(vP 76 0)),(208,(vP 122 0))]
abbrev ahL:St:=⟨VO,[(dX p p1 p2 u4),bN,(zn u0),(zR u0),(mD u1),(oN u2),(qD u3),(qY u3 u1 u2),(122,none)]⟩
end
def EP (p:ah) (p1:(List Source)) (p2:(List Link)) (u4:(List ay)) (u0:Network) (u1:(List Int)) (u2:(List Int)):(List af)→St:=
  fun u3=>(ahL p p1 p2 u4 u0 u1 u2 u3)
section
variable (r_:Int) (s_:State) (p:ah) (v4:(Int × Network)) (v0:Int) (v9:(List (Int × Int))) (p1:(List Source)) (v5:(Int × Network)) (x0:(List Int)) (u4:(List (Int × Int))) (u7:Int) (w0:(List (Int × Int))) (v7:Int) (u0:Int) (u2:(List ay)) (w1:Int) (x4:(Int × Network)) (p2:(List Link)) (p3:(List ay)) (x1:(List Int)) (x2:(List af)) (u5:(List (Int × Int))) (x9:(List (af × Int))) (v6:(Int × Network)) (v3:Int) (x5:(List bJ)) (x6:(List (List Int))) (u1:Network) (u3:(List (af × Int))) (i2:Nat) (u6:(List Int))
abbrev ab2:List (Nat × TV):=[(4,(vP 65 0)),(5,(vO 66 false 0)),(6,(vI r_))]
abbrev ad2:Nat × Option Ob:=(66,some (.arr 4 1 0 (au ai ([]:List Bool))))
abbrev acg:Nat × Option Ob:=(67,some (.arr 3 1 0 (au (aj .i64) ([]:List Int))))
abbrev aga:List CV:=[(.own 0 false (([]:List Int).length)),(.own 1 false (([]:List Int).length)),(.own 2 false (([]:List af).length))]
abbrev YH:List (Nat × TV):=[(2,(vP 63 0)),(jY s_),(4,(vP 65 0)),(nR p),(9,(vP 71 0))]
abbrev ahI:List CV:=[(.d nS),(.own 70 true (VA p))]
abbrev ais:Nat × Option Ob:=(71,some (.cells 161 (ahI p)))
abbrev X7:Nat × Option Ob:=(70,some (.rows 40 1 (FC p).length (aiX p) none))
abbrev abV:Nat × Option Ob:=(71,some (.cells 161 [(.own 72 false (([]:List bJ).length)),(.own 70 true (VA p))]))
abbrev ac8:Nat × Option Ob:=(72,some (bO 170 2 bJ.cell ([]:List bJ)))
abbrev ae9:List (Nat × Option Ob):=[(Ao p),bN,(X7 p),(abV p),ac8,(Xc p),(NR p),(Lu p),(WL p),(77,some ZU),Yc,NW]
abbrev Qm:Nat × Option Ob:=(70,some (.rows 40 1 v4.2.from_.length (AO uF v4.2.from_) none))
abbrev afw:List (Nat × Option Ob):=[(Ao p),bN,(Qm v4),(71,some (.cells 161 [(.own 87 false v4.2.arcs.length),(.own 70 true v4.2.from_.length)])),(Xc p),(NR p),(Lu p),(WL p),(77,some (OB v0 v4 v9)),Yc,NW,(87,some (He v4))]
abbrev aeb:List (Nat × TV):=[(2,(vP 63 0)),(jY s_),(4,(vP 65 0)),(nR p),(9,(vP 71 0)),(10,(vP 76 0)),sO,pF,nY,(Jc p),(Jy p),(68,(k28 v0))]
abbrev af7:Nat × Option Ob:=(71,some (.cells 161 [(.own 72 false v4.2.arcs.length),(.own 70 true v4.2.from_.length)]))
abbrev ajl:List (Nat × Option Ob):=[(QC p p1),bN,(Qm v5),(71,some (.cells 161 [(.own 95 false v5.2.arcs.length),(.own 70 true v5.2.from_.length)])),(mD x0),(NR p),(Lu p),(Y3 p x0),(Ey u4),(78,some (OB u7 v5 w0)),NW,(95,some (He v5))]
abbrev abP:List (Nat × TV):=[(2,(vP 63 0)),(jY s_),(4,(vP 65 0)),(nR p),(9,(vP 71 0)),(10,(vP 76 0)),sO,pF,nY,(Jd p),(Jk p),(90,(k28 u7))]
abbrev ahq:List (Nat × TV):=[(2,(vP 63 0)),(jY s_),(4,(vP 65 0)),(8,(vI v7)),(9,(vP 71 0)),(10,(vP 76 0)),sO,pF,nY,(18,(vI u0)),(FD u2 u0),(zZ u2),(116,(vI w1)),(117,(vI u0))]
abbrev ai5:Nat × Option Ob:=(71,some (.cells 161 [(.own 115 false x4.2.arcs.length),(.own 70 true x4.2.from_.length)]))
abbrev ahm:List (Nat × Option Ob):=[(dX p p1 p2 p3),bN,(Qm x4),(ai5 x4),(mD x0),(oN x1),(qD x2),(qY x2 x0 x1),(Ey u4),(EC u5),(Gm x9),(Z7 x4)]
abbrev aio:Nat × Option Ob:=(71,some (.cells 161 [(.own 119 false v6.2.arcs.length),(.own 70 true v6.2.from_.length)]))
abbrev adf:List (Nat × TV):=[(2,(vP 63 0)),(jY s_),(4,(vP 65 0)),(8,(vI v7)),(9,(vP 71 0)),(10,(vP 76 0)),sO,pF,nY,(18,(vI u0)),(FD u2 u0),(zZ u2),(116,(vI w1)),(117,(vI u0)),(JF u2 u0),(134,(k28 v3))]
abbrev aiu:List (Nat × TV):=[(2,(vP 63 0)),(jY s_),(4,(vP 65 0)),(8,(vI v7)),(9,(vP 71 0)),(10,(vP 76 0)),sO,pF,nY,(zZ u2),(116,(vI w1)),(117,(k28 u0))]
abbrev air:Nat × Option Ob:=(71,some (.cells 161 [(.own 72 false x5.length),(.d (aJ (some true) 1 (L8 1 (aj .i64)) x6))]))
abbrev aew:List (Nat × Option Ob):=[(zn u1),(zR u1)]
abbrev adZ:List (Nat × TV):=[(2,(vP 63 0)),(4,(vP 65 0)),(9,(vP 71 0)),(10,(vP 76 0)),(26,(vP 125 0)),(27,(vI (at' (u3.map Prod.snd) i2))),(208,(vP 122 0))]
abbrev Wo:Nat × Option Ob:=(126,some (bO 4 1 ai (DF p)))
abbrev Ye:Nat × Option Ob:=(127,some (.cells 27 [(.own 126 true ((DF p).length))]))
abbrev aeN:List (Nat × TV):=[(2,(vP 63 0)),(4,(vP 65 0)),(10,(vP 76 0)),(28,(vP 127 0)),(235,(.v (.one (.fn 121 0 1 (C9 [(.ptr 128 0)])))))]
abbrev ahe:List (Nat × TV):=[(2,(vP 63 0)),(4,(vP 65 0)),(10,(vP 76 0)),(28,(vP 127 0)),(aeT u1)]
abbrev Ho:Nat × Option Ob:=(0,some (CO u6))
end
theorem vE (p:ah) (s_:State) {r:(aA × (List Bool) × Int)} (h:iZ p s_=some r):Fn Try.prog 32 (k92 s_ p) [] (.gK [(.agg [(.own 0 false r.1.sources.length),(.own 1 false r.1.links.length),(.own 2 false r.1.racks.length)]),(.one (.own 3 false r.2.1.length)),(sI r.2.2)]) [(0,some (bO 3 1 (aj .i64) r.1.sources)),(1,some (bO 3 1 (aj .i64) r.1.links)),(2,some (bO 164 2 af.cell r.1.racks)),(3,some (bO 4 1 ai r.2.1)),(4,none)]:=by
 refine fN tT Try.func32 rfl rfl fun B=> ?_
 show bn _ _ _ _ _ _ (fA r) _
 unfold iZ at h
 refine sz tT (afF p s_) {fr:=[(0,63),(1,64),(2,65)] } [64] ?_
 refine aQ (aQ (bE h fun r_ hr_ h=> ?_))
 have q0:=fK p s_ hr_
 refine rg tT (aiE p s_ r_) [_] {an:=[(2,cA q0 [])] } [] ⟨q0,trivial⟩ ?_
 refine sz tT (agt p s_ r_) {} [] ?_
 refine bI h (fun hb9 h=> ?_) (fun hb9 h=> ?_)
 ·refine ct hb9 ?_
  refine sz tT ⟨[(4,(vP 65 0)),(5,(vD nS)),(6,(vI r_))],[bN]⟩ {} [] ?_
  refine aI (.trans (bG.QB (t:=5) (b:=66) (esz0:=0) (el0:=fun _ _=> .nilp) (E:=4) (esz:=1) (el:=au ai ([]:List Bool)) (by kernel_rfl) (by kernel_rfl)) (.trans (bG.Aj (E:=0) (esz:=0) (E0:=77) (cs:=[(.d nS),(.d nS),(.d nS)]) (p:=65) (q:=0) (b:=67) (esz0:=0) (el0:=fun _ _=> .nilp) (ob:= .arr 3 1 0 (au (aj .i64) ([]:List Int))) (fun _ _ _ _ h=> .inl ⟨h,rfl⟩) (by kernel_rfl) (by kernel_rfl) (by kernel_rfl)) (.trans (fz ⟨(ab2 r_),[(65,some (.cells 77 [(.own 67 false 0),(.d nS),(.d nS)])),ad2,acg]⟩ []) (.trans (bG.Aj (E:=0) (esz:=0) (E0:=77) (cs:=[(.own 67 false 0),(.d nS),(.d nS)]) (p:=65) (q:=1) (b:=68) (esz0:=0) (el0:=fun _ _=> .nilp) (ob:= .arr 3 1 0 (au (aj .i64) ([]:List Int))) (fun _ _ _ _ h=> .inl ⟨h,rfl⟩) (by kernel_rfl) (by kernel_rfl) (by kernel_rfl)) (.trans (fz ⟨(ab2 r_),[(65,some (.cells 77 [(.own 67 false 0),(.own 68 false 0),(.d nS)])),ad2,acg,(68,some (.arr 3 1 0 (au (aj .i64) ([]:List Int))))]⟩ []) (.trans (bG.Aj (E:=0) (esz:=0) (E0:=77) (cs:=[(.own 67 false 0),(.own 68 false 0),(.d nS)]) (p:=65) (q:=2) (b:=69) (esz0:=0) (el0:=fun _ _=> .nilp) (ob:= .arr 164 2 0 (au af.cell ([]:List af))) (fun _ _ _ _ h=> .inl ⟨h,rfl⟩) (by kernel_rfl) (by kernel_rfl) (by kernel_rfl)) (.trans (fz ⟨(ab2 r_),[(65,some (.cells 77 [(.own 67 false 0),(.own 68 false 0),(.own 69 false 0)])),ad2,acg,(68,some (.arr 3 1 0 (au (aj .i64) ([]:List Int)))),(69,some (.arr 164 2 0 (au af.cell ([]:List af))))]⟩ []) (.trans (bG.fin (st':=⟨[(4,(vP 4 0)),(5,(vO 3 false 0)),(6,(vI r_))],[(0,some (.arr 3 1 0 (au (aj .i64) ([]:List Int)))),(1,some (.arr 3 1 0 (au (aj .i64) ([]:List Int)))),(2,some (.arr 164 2 0 (au af.cell ([]:List af)))),(3,some (.arr 4 1 0 (au ai ([]:List Bool)))),(4,some (.cells 77 [(.own 0 false 0),(.own 1 false 0),(.own 2 false 0)]))]⟩) (cs:=[]) ⟨[],[(67,0),(68,1),(69,2),(66,3),(65,4)]⟩ [4,5,6] (by kernel_rfl) trivial) (bG.le (st':=⟨[(4,(vP 4 0)),(5,(vO 3 false (([]:List Bool).length))),(6,(vI r_))],[(0,some (bO 3 1 (aj .i64) ([]:List Int))),(1,some (bO 3 1 (aj .i64) ([]:List Int))),(2,some (bO 164 2 af.cell ([]:List af))),(3,some (bO 4 1 ai ([]:List Bool))),(4,some (.cells 77 aga))]⟩) ⟨⟨tR,⟨_,rfl,cu.v (dm.one cW)⟩,tR,trivial⟩,⟨rfl,oW,⟨rfl,oW,⟨rfl,oW,⟨rfl,oW,⟨rfl,bB ⟨cW,cW,cW,trivial⟩,trivial⟩⟩⟩⟩⟩⟩))))))))) ?_
  refine aR ?_
  obtain rfl:=oi h
  exact rh [(.agg aga),(.one (.own 3 false (([]:List Bool).length))),(sI r_)] (.refl _) (hN 4 ⟨rfl,trivial,trivial⟩)
 ·refine cf hb9 ?_
  refine aP (sz tT (ahJ p s_) {} [] ?_)
  refine aQ (aO h fun⟨a1,a2,a3⟩ h=> ?_)
  refine ri tT ⟨(YH s_ p),[(Ao p),bN,(70,some (.arr 40 1 (FC p).length (fun _ j=>[nS].getD j .nilp))),(ais p)]⟩ [_,(ag1 p)=(Ym p),_,_,(FC p).length=(Wn p),aC (Wn p) 1 (fun _ j=>[nS].getD j .nilp) (fun _ j=>[nS].getD j .nilp)] {an:=[(2, .arr (FC p).length (fun _ j=>[nS].getD j .nilp))],fr:=[(2,70),(4,71)] } [] ⟨a1,rfl,a2,a3,(List.length_replicate),(gL _ _ _),trivial⟩ (.trans (bG.XQ (b:=70) (E:=40) (esz:=1) (len:=(FC p).length) (el:=(fun _ j=>[nS].getD j .nilp)) (el':=AO uF (FC p)) (by kernel_rfl) (fun i hi j hj=>match j,hj with|0,_=>Pf _ _ _ _ _ _ _ _)) (.trans (fz ⟨(YH s_ p),[(Ao p),bN,(X7 p),(ais p)]⟩ []) (.trans (bG.Aj (E:=0) (esz:=0) (E0:=161) (cs:=(ahI p)) (p:=71) (q:=0) (b:=72) (esz0:=0) (el0:=fun _ _=> .nilp) (ob:= .arr 170 2 0 (au bJ.cell ([]:List bJ))) (fun _ _ _ _ h=> .inl ⟨h,rfl⟩) (by kernel_rfl) (by kernel_rfl) (by kernel_rfl)) (.trans (fz ⟨(YH s_ p),[(Ao p),bN,(X7 p),(71,some (.cells 161 [(.own 72 false 0),(.own 70 true (VA p))])),(72,some (.arr 170 2 0 (au bJ.cell ([]:List bJ))))]⟩ []) (bG.le (st':=⟨(YH s_ p),[(Ao p),bN,(X7 p),(abV p),ac8]⟩) ⟨⟨tR,tR,tR,tR,tR,trivial⟩,(hN 3 ⟨rfl,bB ⟨cW,cK.refl _,trivial⟩,⟨rfl,oW,trivial⟩⟩)⟩))))) ?_
  refine aQ (aO h fun⟨a1,a2,a3,a4,a5,a6,a7,a8,a9⟩ h=> ?_)
  refine dg tT mX ⟨[(2,(vP 63 0)),(jY s_),(4,(vP 65 0)),(nR p),(9,(vP 71 0)),(10,(vP 76 0))],[(Ao p),bN,(X7 p),(abV p),ac8,(Xc p),(NR p),(Lu p),(WL p)]⟩ [_,((p.sources.length:Int):Int)=(p.sources.length:Int),_,_,(NV p).length=(Xv p),aC (Xv p) 1 (fun _ j=>[(.int .i64 0)].getD j .nilp) (Zt p),_,(WC p)=(p.links.length:Int),_,_,(Ke p).length=(JC p),aC (JC p) 1 (fun _ j=>[(.int .i64 0)].getD j .nilp) (OA p),_,((p.racks.length:Int):Int)=(p.racks.length:Int),_,_,(SH p).length=(VW p),aC (VW p) 2 (fun _ j=>[(.int .i64 0),(.int .i64 0)].getD j .nilp) (Y4 p)] {an:=[(3, .arr (NV p).length (Zt p)),(7, .arr (Ke p).length (OA p)),(11, .arr (SH p).length (Y4 p))],fr:=[(3,73),(7,74),(11,75),(13,76)] } [] ⟨a1,rfl,a2,a3,(List.length_replicate),(cZ _ _ _ _ _ (fun j hj=>(match j,hj with|0,_=>rfl))),a4,rfl,a5,a6,(List.length_replicate),(cZ _ _ _ _ _ (fun j hj=>(match j,hj with|0,_=>rfl))),a7,rfl,a8,a9,(List.length_replicate),(cZ _ _ _ _ _ (fun j hj=>(match j,hj with|0,_=>rfl|1,_=>rfl))),trivial⟩ ?_
  refine sz tT ⟨(Xe s_ p),(ae9 p)⟩ {an:=[(0, .map 0 (EB (aj .i64) ([]:(List (Int × Int)))) (ES (aj .i64) ([]:(List (Int × Int)))) []),(1, .map 0 (EB (aj .i64) ([]:(List (Int × Int)))) (ES (aj .i64) ([]:(List (Int × Int)))) []),(2, .map 0 (EB af.cell ([]:(List (af × Int)))) (ES (aj .i64) ([]:(List (af × Int)))) [])],fr:=[(0,77),(1,78),(2,79)] } [] ?_
  refine aQ (sz tT ⟨[(2,(vP 63 0)),(jY s_),(4,(vP 65 0)),(nR p),(9,(vP 71 0)),(10,(vP 76 0)),sO,pF,nY,(Jc p),(Jy p),(68,(vI 0))],(ae9 p)⟩ {} [] ?_)
  refine bE h fun y hy h=> ?_
  refine aL [] (wQ p s_) (wu p s_) fA hy (fun s f h=> ?_) ?_
  ·clear hy
   show bn _ _ _ _ _ _ ((E9 p s_) f) _
   unfold tu at h
   obtain⟨n0,n1,v9,v0⟩:=s
   refine sz tT ⟨[(2,(vP 63 0)),(jY s_),(4,(vP 65 0)),(nR p),(9,(vP 71 0)),(10,(vP 76 0)),sO,pF,nY,(Jc p),(Jy p),(68,(vI v0)),(69,(vB (NP p v0)))],(Vd p n1 n0 v9)⟩ {} [] ?_
   refine aQ ?_
   refine bI h (fun hb1 h=> ?_) (fun hb1 h=> ?_)
   ·refine ct hb1 ?_
    refine aP (aQ (aB (aQ (aO h fun a1 h=> ?_))))
    refine rg tT ⟨[(2,(vP 63 0)),(jY s_),(4,(vP 65 0)),(nR p),(9,(vP 71 0)),(10,(vP 76 0)),sO,pF,nY,(14,(vI v0)),(Yz p v0),(Jc p),(Jy p),(68,(vI v0))],(Vd p n1 n0 v9)⟩ [_] {fr:=[(3,86)] } [86] ⟨a1,trivial⟩ ?_
    refine aQ (bE h fun ui hr_1 h=> ?_)
    have q0:=fE p s_ v0 hr_1
    refine rg tT ⟨[(2,(vP 63 0)),(jY s_),(4,(vP 65 0)),(nR p),(9,(vP 71 0)),(10,(vP 76 0)),sO,pF,nY,(14,(vI v0)),(Yz p v0),(Jc p),(Jy p),(68,(vI v0)),(76,(vB ui))],(Vd p n1 n0 v9)⟩ [_] {an:=[(3,cA q0 [])] } [] ⟨q0,trivial⟩ ?_
    refine bI h (fun hb h=> ?_) (fun hb h=> ?_)
    ·refine ct hb ?_
     refine bE h fun v4 hr_2 h=> ?_
     have q0:=rk [(0,71),(1,72),(2,70),(3,87)] (bY 0 (IntKind.wrap .i64 ((1:Int)+(Dm p v0))) (Ul p v0) 0 (⟨n0,n1⟩:Network) hr_2)
     refine rg tT ⟨(ahy s_ p v0),(afw p v4 v0 v9)⟩ [_,IU [some .i64] 1 1 v9.length (EB (aj .i64) v9) (ES (aj .i64) v9) [(.int .i64 v0)] [(cI v4.1)] [] (jF Ui v0 v4.1 v9).length (Ph v0 v4 v9) (OI v0 v4 v9)] {an:=[(8,cA q0 [71,72,70]),(9, .map (jF Ui v0 v4.1 v9).length (Ph v0 v4 v9) (OI v0 v4 v9) [])] } [] ⟨q0,(zW (fun _=>rfl) (fun _ _=>rfl) v9 v0 v4.1 rfl rfl),trivial⟩ ?_
     refine ri tT ⟨(aeb s_ p v0),(afw p v4 v0 v9)⟩ [] {} [] trivial (bG.fin (st':=⟨(aeb s_ p v0),[(Ao p),bN,(Qm v4),(af7 v4),(72,some (He v4)),(Xc p),(NR p),(Lu p),(WL p),(77,some (OB v0 v4 v9)),Yc,NW]⟩) (cs:=[]) ⟨[],[(63,63),(65,65),(70,70),(71,71),(87,72),(73,73),(74,74),(75,75),(76,76),(77,77),(78,78),(79,79)]⟩ [2,3,4,8,9,10,11,12,13,66,67,68] (by kernel_rfl) trivial) ?_
     obtain rfl:=oi h
     exact lN
    ·refine cf hb ?_
     refine aP (rz tT ⟨(aeb s_ p v0),(Vd p n1 n0 v9)⟩ {} [] ?_)
     obtain rfl:=oi h
     exact lN
   ·refine cf hb1 ?_
    refine aI (fz ⟨(Xe s_ p),(Vd p n1 n0 v9)⟩ []) ?_
    refine aX ?_
    obtain rfl:=oi h
    exact lB
  ·clear hy
   cases y with
   |brk z=>
    obtain⟨p1,ue,uc,x0,u4⟩:=z
    unfold dU
    refine⟨_, .refl, ?_⟩
    refine aQ (sz tT ⟨[(2,(vP 63 0)),(jY s_),(4,(vP 65 0)),(nR p),(9,(vP 71 0)),(10,(vP 76 0)),sO,pF,nY,(Jd p),(Jk p),(90,(vI 0))],(afW p x0 p1 uc ue u4)⟩ {} [] ?_)
    refine bE h fun y1 hy h=> ?_
    refine aL [] (xq p s_ p1 x0 u4) (vH p s_ p1 x0 u4) fA hy (fun s f h=> ?_) ?_
    ·clear hy
     show bn _ _ _ _ _ _ ((ED p s_ p1 x0 u4) f) _
     unfold sQ at h
     obtain⟨w7,w3,w0,u7⟩:=s
     refine sz tT ⟨[(2,(vP 63 0)),(jY s_),(4,(vP 65 0)),(nR p),(9,(vP 71 0)),(10,(vP 76 0)),sO,pF,nY,(Jd p),(Jk p),(90,(vI u7)),(91,(k99 p u7))],(U3 p w0 p1 w3 w7 x0 u4)⟩ {} [] ?_
     refine aQ ?_
     refine bI h (fun hb3 h=> ?_) (fun hb3 h=> ?_)
     ·refine ct hb3 ?_
      refine aP (aQ (aB (aQ (aO h fun a1 h=> ?_))))
      refine rg tT ⟨[(2,(vP 63 0)),(jY s_),(4,(vP 65 0)),(nR p),(9,(vP 71 0)),(10,(vP 76 0)),sO,pF,nY,(16,(vI u7)),(ZQ p u7),(Jd p),(Jk p),(90,(vI u7))],(U3 p w0 p1 w3 w7 x0 u4)⟩ [_] {fr:=[(3,94)] } [94] ⟨a1,trivial⟩ ?_
      refine aQ (bE h fun uj hr_3 h=> ?_)
      have q0:=dI (⟨p.buses,p1,p.links,p.racks⟩:ah) s_ u7 hr_3
      refine rg tT ⟨[(2,(vP 63 0)),(jY s_),(4,(vP 65 0)),(nR p),(9,(vP 71 0)),(10,(vP 76 0)),sO,pF,nY,(16,(vI u7)),(ZQ p u7),(Jd p),(Jk p),(90,(vI u7)),(98,(vB uj))],(U3 p w0 p1 w3 w7 x0 u4)⟩ [_] {an:=[(3,cA q0 [])] } [] ⟨q0,trivial⟩ ?_
      refine bI h (fun hb2 h=> ?_) (fun hb2 h=> ?_)
      ·refine ct hb2 ?_
       refine bE h fun v5 hr_4 h=> ?_
       have q0:=rk [(0,71),(1,72),(2,70),(3,95)] (bY (IntKind.wrap .i64 ((1:Int)+(H8 p u7))) (IntKind.wrap .i64 ((1:Int)+(Gh p u7))) (Sn p u7) (Sn p u7) (⟨w7,w3⟩:Network) hr_4)
       refine rg tT ⟨(afI s_ p u7),(ajl p p1 v5 x0 u4 u7 w0)⟩ [_,IU [some .i64] 1 1 w0.length (EB (aj .i64) w0) (ES (aj .i64) w0) [(.int .i64 u7)] [(cI v5.1)] [] (jF Ui u7 v5.1 w0).length (Ph u7 v5 w0) (OI u7 v5 w0)] {an:=[(13,cA q0 [71,72,70]),(14, .map (jF Ui u7 v5.1 w0).length (Ph u7 v5 w0) (OI u7 v5 w0) [])] } [] ⟨q0,(zW (fun _=>rfl) (fun _ _=>rfl) w0 u7 v5.1 rfl rfl),trivial⟩ ?_
       refine ri tT ⟨(abP s_ p u7),(ajl p p1 v5 x0 u4 u7 w0)⟩ [] {} [] trivial (bG.fin (st':=⟨(abP s_ p u7),[(QC p p1),bN,(Qm v5),(af7 v5),(72,some (He v5)),(mD x0),(NR p),(Lu p),(Y3 p x0),(Ey u4),(78,some (OB u7 v5 w0)),NW]⟩) (cs:=[]) ⟨[],[(63,63),(65,65),(70,70),(71,71),(95,72),(73,73),(74,74),(75,75),(76,76),(77,77),(78,78),(79,79)]⟩ [2,3,4,8,9,10,11,12,13,88,89,90] (by kernel_rfl) trivial) ?_
       obtain rfl:=oi h
       exact lN
      ·refine cf hb2 ?_
       refine aP (rz tT ⟨(abP s_ p u7),(U3 p w0 p1 w3 w7 x0 u4)⟩ {} [] ?_)
       obtain rfl:=oi h
       exact lN
     ·refine cf hb3 ?_
      refine aI (fz ⟨(Xe s_ p),(U3 p w0 p1 w3 w7 x0 u4)⟩ []) ?_
      refine aX ?_
      obtain rfl:=oi h
      exact lB
    ·clear hy
     cases y1 with
     |brk z=>
      obtain⟨p2,uf,ud,x1,u5⟩:=z
      unfold dU
      refine⟨_, .refl, ?_⟩
      refine aQ (sz tT ⟨[(2,(vP 63 0)),(jY s_),(4,(vP 65 0)),(nR p),(9,(vP 71 0)),(10,(vP 76 0)),sO,pF,nY,(115,(vD (k2 p))),(116,(vI (p.racks.length:Int))),(117,(vI 0))],(ai1 x1 p p1 p2 ud uf x0 u4 u5)⟩ {} [] ?_)
      refine bE h fun y3 hy h=> ?_
      refine aL [] (xk p s_ p1 x0 u4 p2 x1 u5) (vJ p p1 x0 u4 p2 x1 u5) fA hy (fun s f h=> ?_) ?_
      ·clear hy
       show bn _ _ _ _ _ _ ((oI p s_ p1 x0 u4 p2 x1 u5) f) _
       unfold tN at h
       obtain⟨p3,v7,x7,x3,x2,x9,u2,w1,u0⟩:=s
       refine sz tT ⟨[(2,(vP 63 0)),(jY s_),(4,(vP 65 0)),(8,(vI v7)),(9,(vP 71 0)),(10,(vP 76 0)),sO,pF,nY,(zZ u2),(116,(vI w1)),(117,(vI u0)),(118,(vB (decide (u0<w1))))],(VN x2 x0 x1 x9 p p1 p2 p3 x3 x7 u4 u5)⟩ {} [] ?_
       refine aQ ?_
       refine bI h (fun hb6 h=> ?_) (fun hb6 h=> ?_)
       ·refine ct hb6 ?_
        refine aP (aQ (aB (aQ (aO h fun a1 h=> ?_))))
        refine rg tT ⟨(ahq s_ v7 u0 u2 w1),(VN x2 x0 x1 x9 p p1 p2 p3 x3 x7 u4 u5)⟩ [_] {fr:=[(3,114)] } [114] ⟨a1,trivial⟩ ?_
        refine aQ (bE h fun x4 hr_5 h=> ?_)
        have q0:=rk [(0,71),(1,72),(2,70),(3,115)] (bY (YE p u0) v7 ((at' u2 u0.toNat).power) 0 (⟨x7,x3⟩:Network) hr_5)
        refine rg tT ⟨(ahq s_ v7 u0 u2 w1),(ahm p p1 x0 u4 x4 p2 p3 x1 x2 u5 x9)⟩ [_] {an:=[(9,cA q0 [71,72,70])] } [] ⟨q0,trivial⟩ ?_
        refine sz tT ⟨[(2,(vP 63 0)),(jY s_),(4,(vP 65 0)),(8,(vI v7)),(9,(vP 71 0)),(10,(vP 76 0)),sO,pF,nY,(18,(vI u0)),(FD u2 u0),(zZ u2),(116,(vI w1)),(117,(vI u0)),(JF u2 u0),(134,(vI 0))],(ahm p p1 x0 u4 x4 p2 p3 x1 x2 u5 x9)⟩ {} [] ?_
        refine bE h fun y2 hy h=> ?_
        refine aL [5] (xD p s_ p1 x0 u4 p2 x1 u5 p3 v7 x2 u2 w1 u0) (vZ p s_ p1 x0 u4 p2 x1 u5 p3 v7 x2 u2 w1 u0) (oI p s_ p1 x0 u4 p2 x1 u5) hy (fun s f h=> ?_) ?_
        ·clear hy
         show bn _ _ _ _ _ _ ((EJ p s_ p1 x0 u4 p2 x1 u5 p3 v7 x2 u2 w1 u0) f) _
         unfold sS at h
         obtain⟨w8,w4,w2,v3⟩:=s
         refine sz tT ⟨[(2,(vP 63 0)),(jY s_),(4,(vP 65 0)),(8,(vI v7)),(9,(vP 71 0)),(10,(vP 76 0)),sO,pF,nY,(18,(vI u0)),(FD u2 u0),(zZ u2),(116,(vI w1)),(117,(vI u0)),(JF u2 u0),(134,(vI v3)),(135,(vB (decide (v3<2))))],(Sr p p1 p2 p3 w4 w8 x0 x1 x2 u4 u5 w2)⟩ {} [] ?_
         refine aQ ?_
         refine bI h (fun hb5 h=> ?_) (fun hb5 h=> ?_)
         ·refine ct hb5 ?_
          refine aP (aQ (aB (aQ (aO h fun a1 h=> ?_))))
          refine rg tT ⟨[(2,(vP 63 0)),(jY s_),(4,(vP 65 0)),(8,(vI v7)),(9,(vP 71 0)),(10,(vP 76 0)),sO,pF,nY,(18,(vI u0)),(FD u2 u0),(20,(vI v3)),(Yp u0 u2 v3),(zZ u2),(116,(vI w1)),(117,(vI u0)),(JF u2 u0),(134,(vI v3))],(Sr p p1 p2 p3 w4 w8 x0 x1 x2 u4 u5 w2)⟩ [_,v3.toNat*1+1≤(XG u2 u0).length,((XG u2 u0).drop (v3.toNat*1)).take 1=(YV u0 u2 v3).map .d] {an:=[(1, .vals (YV u0 u2 v3))] } [] ⟨a1,(X8 (n:=2) (sz:=1) (Nat.le_refl _) a1),(Xr (n:=2) (sz:=1) (g:=fun q=>[(cI (at' [(L6 u2 u0).e0,(L6 u2 u0).e1] q))]) (by intro q hq;match q,hq with|0,_=>rfl|1,_=>rfl) a1),trivial⟩ ?_
          refine aQ (bE h fun ul hr_6 h=> ?_)
          have q0:=kZ s_ (XP u0 u2 v3) hr_6
          refine rg tT ⟨[(2,(vP 63 0)),(jY s_),(4,(vP 65 0)),(8,(vI v7)),(9,(vP 71 0)),(10,(vP 76 0)),sO,pF,nY,(18,(vI u0)),(FD u2 u0),(20,(vI v3)),(Yp u0 u2 v3),(zZ u2),(116,(vI w1)),(117,(vI u0)),(JF u2 u0),(134,(vI v3)),(140,(vB ul))],(Sr p p1 p2 p3 w4 w8 x0 x1 x2 u4 u5 w2)⟩ [_] {an:=[(2,cA q0 [])] } [] ⟨q0,trivial⟩ ?_
          refine bI h (fun hb4 h=> ?_) (fun hb4 h=> ?_)
          ·refine ct hb4 ?_
           refine bE h fun v6 hr_7 h=> ?_
           have q0:=rk [(0,71),(1,115),(2,70),(3,119)] (bY (agy u0 u2 v3) (YE p u0) ((at' u2 u0.toNat).power) 0 (⟨w8,w4⟩:Network) hr_7)
           refine rg tT ⟨(aiU s_ v7 u0 u2 w1 v3),[(dX p p1 p2 p3),bN,(Qm v6),(aio v6),(mD x0),(oN x1),(qD x2),(qY x2 x0 x1),(Ey u4),(EC u5),(79,some (Vo 164 3 true false 2 1 af.cell (aj .i64) (jF (fun a b=>(decide (a.e0=b.e0) && (decide (a.e1=b.e1) && true))) (⟨u0,v3⟩:af) v6.1 w2))),(119,some (He v6))]⟩ [_,IU [some .i64,some .i64] 2 1 w2.length (EB af.cell w2) (ES (aj .i64) w2) [(.int .i64 u0),(.int .i64 v3)] [(cI v6.1)] [] (jF (fun a b=>(decide (a.e0=b.e0) && (decide (a.e1=b.e1) && true))) (⟨u0,v3⟩:af) v6.1 w2).length (EB af.cell (jF (fun a b=>(decide (a.e0=b.e0) && (decide (a.e1=b.e1) && true))) (⟨u0,v3⟩:af) v6.1 w2)) (ES (aj .i64) (jF (fun a b=>(decide (a.e0=b.e0) && (decide (a.e1=b.e1) && true))) (⟨u0,v3⟩:af) v6.1 w2))] {an:=[(14,cA q0 [71,115,70]),(15, .map (jF (fun a b=>(decide (a.e0=b.e0) && (decide (a.e1=b.e1) && true))) (⟨u0,v3⟩:af) v6.1 w2).length (EB af.cell (jF (fun a b=>(decide (a.e0=b.e0) && (decide (a.e1=b.e1) && true))) (⟨u0,v3⟩:af) v6.1 w2)) (ES (aj .i64) (jF (fun a b=>(decide (a.e0=b.e0) && (decide (a.e1=b.e1) && true))) (⟨u0,v3⟩:af) v6.1 w2)) [])] } [] ⟨q0,(zW (fun _=>rfl) (fun _ _=>rfl) w2 (⟨u0,v3⟩:af) v6.1 rfl rfl),trivial⟩ ?_
           refine ri tT ⟨(adf s_ v7 u0 u2 w1 v3),[(dX p p1 p2 p3),bN,(Qm v6),(aio v6),(mD x0),(oN x1),(qD x2),(qY x2 x0 x1),(Ey u4),(EC u5),(79,some (Vo 164 3 true false 2 1 af.cell (aj .i64) (jF (fun a b=>(decide (a.e0=b.e0) && (decide (a.e1=b.e1) && true))) (⟨u0,v3⟩:af) v6.1 w2))),(119,some (He v6))]⟩ [] {} [] trivial (bG.fin (st':=⟨(adf s_ v7 u0 u2 w1 v3),[(dX p p1 p2 p3),bN,(Qm v6),(ai5 v6),(mD x0),(oN x1),(qD x2),(qY x2 x0 x1),(Ey u4),(EC u5),(79,some (Vo 164 3 true false 2 1 af.cell (aj .i64) (jF (fun a b=>(decide (a.e0=b.e0) && (decide (a.e1=b.e1) && true))) (⟨u0,v3⟩:af) v6.1 w2))),(Z7 v6)]⟩) (cs:=[]) ⟨[],[(63,63),(65,65),(70,70),(71,71),(73,73),(74,74),(75,75),(76,76),(77,77),(78,78),(79,79),(119,115)]⟩ [2,3,4,8,9,10,11,12,13,18,19,115,116,117,133,134] (by kernel_rfl) trivial) ?_
           obtain rfl:=oi h
           exact lN
          ·refine cf hb4 ?_
           refine aP (rz tT ⟨(adf s_ v7 u0 u2 w1 v3),(Sr p p1 p2 p3 w4 w8 x0 x1 x2 u4 u5 w2)⟩ {} [] ?_)
           obtain rfl:=oi h
           exact lN
         ·refine cf hb5 ?_
          refine aI (fz (ahx s_ v7 u2 w1 u0 p p1 p2 p3 w4 w8 x0 x1 x2 u4 u5 w2) []) ?_
          refine aX ?_
          obtain rfl:=oi h
          exact lB
        ·clear hy
         cases y2 with
         |brk z=>
          obtain⟨ub,x8,ug⟩:=z
          unfold dU
          refine⟨_, .refl, ?_⟩
          refine ri tT ⟨(aiu s_ v7 u0 u2 w1),(Sr p p1 p2 p3 x8 ub x0 x1 x2 u4 u5 ug)⟩ [] {} [] trivial (bG.fin (st':=⟨(aiu s_ v7 u0 u2 w1),(VN x2 x0 x1 ug p p1 p2 p3 x8 ub u4 u5)⟩) (cs:=[]) ⟨[],[(63,63),(65,65),(70,70),(71,71),(115,72),(73,73),(74,74),(75,75),(76,76),(77,77),(78,78),(79,79)]⟩ [2,3,4,8,9,10,11,12,13,115,116,117] (by kernel_rfl) trivial) ?_
          obtain rfl:=oi h
          exact lN
         |ret v=>
          obtain rfl:=oi h
          unfold dU
          intro e st hn ha hR
          cases e with
          |normal=>exact absurd rfl hn
          |exit id=>simp only [rC (b:=5) ha rfl,cond_false];exact hR
          |goto l=>exact hR
          |ret=>exact hR
          |panic c=>exact hR
          |outgrown=>exact hR
       ·refine cf hb6 ?_
        refine aI (fz (ahH v7 p p1 p2 p3 x3 x7 x0 x1 x2 u4 u5 x9) []) ?_
        refine aX ?_
        obtain rfl:=oi h
        exact lB
      ·clear hy
       cases y3 with
       |brk z=>
        obtain⟨v1,ua,x5,x6,v2,u3⟩:=z
        unfold dU
        refine⟨_, .refl, ?_⟩
        refine aQ (aI (.trans (fi ⟨(abD ua),[(dX p p1 p2 v1),bN,(71,some (.cells 161 [(.own 72 false x5.length),(.d (.sl (some true) 1 x6.length (fun i j=>evD (AO uF x6 i j))))])),(Oa x5),(mD x0),(oN x1),(qD v2),(qY v2 x0 x1),(Ey u4),(EC u5),(Gm u3)]⟩ [x6.length=x6.length] [70] ⟨rfl,trivial⟩) (bG.le (st':=⟨(abD ua),[(dX p p1 p2 v1),bN,(air x5 x6),(Oa x5),(mD x0),(oN x1),(qD v2),(qY v2 x0 x1),(Ey u4),(EC u5),(Gm u3)]⟩) ⟨⟨tR,tR,tR,tR,tR,tR,tR,tR,trivial⟩,(hN 2 ⟨rfl,bB ⟨cK.refl _,cK.d (fo.sl (.inr rfl) (fun i _ j hj=>match j,hj with|0,_=> .refl _)),trivial⟩,(.refl _)⟩)⟩)) ?_)
        refine bE h fun u1 hr_8 h=> ?_
        refine rg tT ⟨[(2,(vP 63 0)),(4,(vP 65 0)),(9,(vP 71 0)),(10,(vP 76 0)),sO,pF,nY],[(dX p p1 p2 v1),bN,(zn u1),(zR u1),(mD x0),(oN x1),(qD v2),(qY v2 x0 x1),(Ey u4),(EC u5),(Gm u3)]⟩ [Fn Try.prog 80 [(.one (.ptr 71 0)),(sI ua)] [(air x5 x6),(Oa x5)] (.gK []) (aew u1)] {an:=[(2, .call [71,72] (.gK []) (aew u1))] } [] ⟨(Fn.leH (args:=[(.one (.ptr 71 0)),(sI ua)]) (hin:=[(71,some (.cells 161 [(.own 72 false x5.length),(.d (Sm x6))])),(Oa x5)]) (rK [(0,71),(1,72)] (qx ua (⟨x5,x6⟩:Network) hr_8)) ⟨dm.refl _,dm.refl _,trivial⟩ ⟨rfl,bB ⟨cK.refl _,cK.d fo.mH,trivial⟩,(.refl _)⟩),trivial⟩ ?_
        refine aQ (bE h fun y4 hy h=> ?_)
        refine nH (Fa p p1 p2 x1 u5 v1 v2 u3 u1) (K:=3) (V:=3) (s0:=(x0)) ⟨3,3,false,false,1,1,u4.length,EB (aj .i64) u4,ES (aj .i64) u4,[]⟩ 77 120 (fun i=>(sI (at' (u4.map Prod.fst) i))) (fun i=>(sI (at' (u4.map Prod.snd) i))) hy [3,4] (by kernel_rfl) (by kernel_rfl) (by kernel_rfl) (fun _ _=> ⟨rfl,rfl⟩) (fun _ _=> ⟨rU _ _,rU _ _⟩) (fun _=>(bG.fin (st':=(afN u1 p p1 p2 v1 x0 x1 v2 u5 u3)) (cs:=[]) ⟨[],[(63,63),(65,65),(71,71),(72,72),(73,73),(74,74),(75,75),(76,76),(78,78),(79,79),(120,120)]⟩ [2,4,9,10,12,13,162] (by kernel_rfl) trivial)) (fun s=>by obtain⟨w5,rfl⟩: ∃q,q=s:=⟨_,rfl⟩;kernel_rfl) (fun B s i s' hi h=> ?_) ?_
        ·clear hy
         unfold tX at h
         obtain⟨w5,rfl⟩: ∃q,q=s:=⟨_,rfl⟩
         refine rwp tT (⟨[(2,(vP 63 0)),(4,(vP 65 0)),(9,(vP 71 0)),(10,(vP 76 0)),pF,nY,(22,(vI (at' (u4.map Prod.fst) i))),(23,(vI (at' (u4.map Prod.snd) i))),(162,(vP 120 0))],(ae6 u1 p p1 p2 v1 w5 x1 v2 u5 u3)⟩) {fin:=⟨[],[(63,63),(65,65),(71,71),(72,72),(73,73),(74,74),(75,75),(76,76),(78,78),(79,79),(120,120)]⟩,ts:=[2,4,9,10,12,13,22,23,162] } (cs:=[]) (by kernel_rfl) trivial .refl ?_
         refine aO h fun⟨a1,a2⟩ h=> ?_
         refine di tT mX ⟨adT,[(dX p p1 p2 v1),bN,(zn u1),(zR u1),(73,some (.arr 3 1 w5.length (U2 u4 u1 i w5))),(oN x1),(qD v2),(qY v2 w5 x1),(EC u5),(Gm u3),(120,none)]⟩ [_,_,_,_,aC w5.length 1 (aix u4 u1 i w5) (U2 u4 u1 i w5)] {an:=[(13, .arr 0 (U2 u4 u1 i w5))] } [] ⟨a1,(tL a1),a2,(tL a2),(bD _ _ _ _ _ _ _ _ rfl (fun j hj=>(match j,hj with|0,_=>rfl))),trivial⟩ (bG.le (st':=⟨adT,[(dX p p1 p2 v1),bN,(zn u1),(zR u1),(73,some (afO u4 u1 i w5)),(oN x1),(qD v2),(76,some (.cells 77 [(.own 73 true (aik u4 u1 i w5)),(.own 74 true x1.length),(.own 75 true v2.length)])),(EC u5),(Gm u3),(120,none)]⟩) ⟨⟨tR,tR,tR,tR,tR,tR,tR,trivial⟩,(hN 4 ⟨rfl,oW,(hN 2 ⟨rfl,bB ⟨cW,cK.refl _,cK.refl _,trivial⟩,(.refl _)⟩)⟩)⟩) ?_
         obtain rfl:=oi h
         exact⟨.inl rfl,by kernel_rfl⟩
        ·clear hy
         obtain⟨u6,rfl⟩: ∃q,q=y4:=⟨_,rfl⟩
         refine aI (fz ⟨[(2,(vP 63 0)),(4,(vP 65 0)),(9,(vP 71 0)),(10,(vP 76 0)),pF,nY],[(dX p p1 p2 v1),bN,(zn u1),(zR u1),(mD u6),(oN x1),(qD v2),(qY v2 u6 x1),(EC u5),(Gm u3)]⟩ []) ?_
         refine aQ (bE h fun y5 hy h=> ?_)
         refine nH (EY p p1 p2 v1 v2 u3 u1 u6) (K:=3) (V:=3) (s0:=(x1)) ⟨3,3,false,false,1,1,u5.length,EB (aj .i64) u5,ES (aj .i64) u5,[]⟩ 78 121 (fun i1=>(sI (at' (u5.map Prod.fst) i1))) (fun i1=>(sI (at' (u5.map Prod.snd) i1))) hy [3,4] (by kernel_rfl) (by kernel_rfl) (by kernel_rfl) (fun _ _=> ⟨rfl,rfl⟩) (fun _ _=> ⟨rU _ _,rU _ _⟩) (fun _=>(bG.fin (st':=(aho p p1 p2 v1 u1 u6 x1 v2 u3)) (cs:=[]) ⟨[],[(63,63),(65,65),(71,71),(72,72),(73,73),(74,74),(75,75),(76,76),(79,79),(121,121)]⟩ [2,4,9,10,13,182] (by kernel_rfl) trivial)) (fun s=>by obtain⟨w6,rfl⟩: ∃q,q=s:=⟨_,rfl⟩;kernel_rfl) (fun B s i1 s' hi h=> ?_) ?_
         ·clear hy
          unfold tV at h
          obtain⟨w6,rfl⟩: ∃q,q=s:=⟨_,rfl⟩
          refine rwp tT (⟨[(2,(vP 63 0)),(4,(vP 65 0)),(9,(vP 71 0)),(10,(vP 76 0)),nY,(24,(vI (at' (u5.map Prod.fst) i1))),(25,(vI (at' (u5.map Prod.snd) i1))),(182,(vP 121 0))],(ah0 p p1 p2 v1 u1 u6 w6 v2 u3)⟩) {fin:=⟨[],[(63,63),(65,65),(71,71),(72,72),(73,73),(74,74),(75,75),(76,76),(79,79),(121,121)]⟩,ts:=[2,4,9,10,13,24,25,182] } (cs:=[]) (by kernel_rfl) trivial .refl ?_
          refine aO h fun⟨a1,a2,a3⟩ h=> ?_
          refine di tT mX ⟨abe,[(dX p p1 p2 v1),bN,(zn u1),(zR u1),(mD u6),(74,some (.arr 3 1 w6.length (Vi p2 u5 u1 i1 w6))),(qD v2),(qY v2 u6 w6),(Gm u3),(121,none)]⟩ [_,_,_,_,_,aC w6.length 1 (ahr p2 u5 u1 i1 w6) (Vi p2 u5 u1 i1 w6)] {an:=[(19, .arr 0 (Vi p2 u5 u1 i1 w6))] } [] ⟨a1,a2,(tL a2),a3,(tL a3),(bD _ _ _ _ _ _ _ _ rfl (fun j hj=>(match j,hj with|0,_=>rfl))),trivial⟩ (bG.le (st':=⟨abe,[(dX p p1 p2 v1),bN,(zn u1),(zR u1),(mD u6),(74,some (agJ p2 u5 u1 i1 w6)),(qD v2),(76,some (.cells 77 [(.own 73 true u6.length),(.own 74 true (ajf p2 u5 u1 i1 w6)),(.own 75 true v2.length)])),(Gm u3),(121,none)]⟩) ⟨⟨tR,tR,tR,tR,tR,tR,trivial⟩,(hN 5 ⟨rfl,oW,⟨rfl, .refl _,⟨rfl,bB ⟨cK.refl _,cW,cK.refl _,trivial⟩,⟨rfl, .refl _,⟨rfl, .refl _,trivial⟩⟩⟩⟩⟩)⟩) ?_
          obtain rfl:=oi h
          exact⟨.inl rfl,by kernel_rfl⟩
         ·clear hy
          obtain⟨u8,rfl⟩: ∃q,q=y5:=⟨_,rfl⟩
          refine aI (fz ⟨[(2,(vP 63 0)),(4,(vP 65 0)),(9,(vP 71 0)),(10,(vP 76 0)),nY],[(dX p p1 p2 v1),bN,(zn u1),(zR u1),(mD u6),(oN u8),(qD v2),(qY v2 u6 u8),(Gm u3)]⟩ []) ?_
          refine aQ (bE h fun y6 hy h=> ?_)
          refine nH (EP p p1 p2 v1 u1 u6 u8) (K:=164) (V:=3) (s0:=(v2)) ⟨164,3,true,false,2,1,u3.length,EB af.cell u3,ES (aj .i64) u3,[]⟩ 79 122 (fun i2=>(.agg (ZE u3 i2))) (fun i2=>(sI (at' (u3.map Prod.snd) i2))) hy [3,4,5] (by kernel_rfl) (by kernel_rfl) (by kernel_rfl) (fun _ _=> ⟨rfl,rfl⟩) (fun _ _=> ⟨Tt rfl,rU _ _⟩) (fun _=>(bG.fin (st':=(ahL p p1 p2 v1 u1 u6 u8 v2)) (cs:=[]) ⟨[],[(63,63),(65,65),(71,71),(72,72),(73,73),(74,74),(75,75),(76,76),(122,122)]⟩ [2,4,9,10,208] (by kernel_rfl) trivial)) (fun s=>by obtain⟨u9,rfl⟩: ∃q,q=s:=⟨_,rfl⟩;kernel_rfl) (fun B s i2 s' hi h=> ?_) ?_
          ·clear hy
           unfold sV at h
           obtain⟨u9,rfl⟩: ∃q,q=s:=⟨_,rfl⟩
           refine rwp tT (⟨(adZ u3 i2),[(dX p p1 p2 v1),bN,(zn u1),(zR u1),(mD u6),(oN u8),(qD u9),(qY u9 u6 u8),(122,none),(125,some (.cells 164 (ZE u3 i2)))]⟩) {fr:=frf [(3,125)],fin:=⟨[],[(63,63),(65,65),(71,71),(72,72),(73,73),(74,74),(75,75),(76,76),(122,122),(125,125)]⟩,ts:=[2,4,9,10,26,27,208] } (cs:=[]) (by kernel_rfl) trivial .refl ?_
           refine bI h (fun hb7 h=> ?_) (fun _ h=> ?_)
           ·skip
            refine aI (bG.le (st':=⟨(adZ u3 i2),[(dX p p1 p2 v1),bN,(zn u1),(zR u1),(mD u6),(oN u8),(qD u9),(qY u9 u6 u8),(122,none),(125,some (.cells 164 [(cI ((at' (u3.map Prod.fst) i2).e0)),(cI 0)]))]⟩) ⟨⟨tR,tR,tR,tR,tR,tR,tR,trivial⟩,(hN 9 ⟨rfl,bB ⟨cK.refl _,cK.of (congrArg (fun n=>CV.d (.int .i64 n)) (of_decide_eq_true hb7)),trivial⟩,trivial⟩)⟩) ?_
            refine aO h fun⟨a1,a2⟩ h=> ?_
            refine di tT mX ⟨VO,[(dX p p1 p2 v1),bN,(zn u1),(zR u1),(mD u6),(oN u8),(75,some (.arr 164 2 u9.length (TS u1 u3 i2 u9))),(qY u9 u6 u8),(122,none)]⟩ [(0:Int)≤0∧(0:Int)<(2:Nat),(0:Int)≤1∧(1:Int)<(2:Nat),_,_,_,(0:Int)≤0∧(0:Int)<(2:Nat),_,aC u9.length 2 (aeB u1 u3 i2 u9) (TS u1 u3 i2 u9)] {an:=[(17, .arr 0 (TS u1 u3 i2 u9))] } [] ⟨((by decide)),((by decide)),a1,(tL a1),a2,((by decide)),(tL a2),(bD _ _ _ _ _ _ _ _ rfl (fun j hj=>(match j,hj with|0,_=>rfl|1,_=>rfl))),trivial⟩ (bG.le (st':=⟨VO,[(dX p p1 p2 v1),bN,(zn u1),(zR u1),(mD u6),(oN u8),(75,some (aeD u1 u3 i2 u9)),(76,some (.cells 77 [(.own 73 true u6.length),(.own 74 true u8.length),(.own 75 true (agl u1 u3 i2 u9))])),(122,none)]⟩) ⟨⟨tR,tR,tR,tR,tR,trivial⟩,(hN 6 ⟨rfl,oW,⟨rfl,bB ⟨cK.refl _,cK.refl _,cW,trivial⟩,(.refl _)⟩⟩)⟩) ?_
            obtain rfl:=oi h
            exact⟨.inl rfl,by kernel_rfl⟩
           ·skip
            refine aO h fun a1 h=> ?_
            refine aI (bG.le (st':=⟨(adZ u3 i2),[(dX p p1 p2 v1),bN,(zn u1),(zR u1),(mD u6),(oN u8),(qD u9),(qY u9 u6 u8),(122,none),(125,some (.cells 164 [(cI ((at' (u3.map Prod.fst) i2).e0)),(cI 1)]))]⟩) ⟨⟨tR,tR,tR,tR,tR,tR,tR,trivial⟩,(hN 9 ⟨rfl,bB ⟨cK.refl _,cK.of (congrArg (fun n=>CV.d (.int .i64 n)) a1),trivial⟩,trivial⟩)⟩) ?_
            refine aO h fun⟨a1,a2⟩ h=> ?_
            refine di tT mX ⟨VO,[(dX p p1 p2 v1),bN,(zn u1),(zR u1),(mD u6),(oN u8),(75,some (.arr 164 2 u9.length (Ud u1 u3 i2 u9))),(qY u9 u6 u8),(122,none)]⟩ [(0:Int)≤0∧(0:Int)<(2:Nat),(0:Int)≤1∧(1:Int)<(2:Nat),_,_,_,(0:Int)≤1∧(1:Int)<(2:Nat),_,aC u9.length 2 (ajm u1 u3 i2 u9) (Ud u1 u3 i2 u9)] {an:=[(17, .arr 0 (Ud u1 u3 i2 u9))] } [] ⟨((by decide)),((by decide)),a1,(tL a1),a2,((by decide)),(tL a2),(bD _ _ _ _ _ _ _ _ rfl (fun j hj=>(match j,hj with|0,_=>rfl|1,_=>rfl))),trivial⟩ (bG.le (st':=⟨VO,[(dX p p1 p2 v1),bN,(zn u1),(zR u1),(mD u6),(oN u8),(75,some (agR u1 u3 i2 u9)),(76,some (.cells 77 [(.own 73 true u6.length),(.own 74 true u8.length),(.own 75 true (aer u1 u3 i2 u9))])),(122,none)]⟩) ⟨⟨tR,tR,tR,tR,tR,trivial⟩,(hN 6 ⟨rfl,oW,⟨rfl,bB ⟨cK.refl _,cK.refl _,cW,trivial⟩,(.refl _)⟩⟩)⟩) ?_
            obtain rfl:=oi h
            exact⟨.inl rfl,by kernel_rfl⟩
          ·clear hy
           obtain⟨v8,rfl⟩: ∃q,q=y6:=⟨_,rfl⟩
           refine aI (fz ⟨[(2,(vP 63 0)),(4,(vP 65 0)),(9,(vP 71 0)),(10,(vP 76 0))],[(dX p p1 p2 v1),bN,(zn u1),(zR u1),(mD u6),(oN u8),(qD v8),(qY v8 u6 u8)]⟩ []) ?_
           refine aQ (aO h fun⟨a1,a2,a3⟩ h=> ?_)
           refine rg tT ⟨[(2,(vP 63 0)),(4,(vP 65 0)),(9,(vP 71 0)),(10,(vP 76 0)),(28,(vP 127 0))],[(dX p p1 p2 v1),bN,(zn u1),(zR u1),(mD u6),(oN u8),(qD v8),(qY v8 u6 u8),(Wo p),(Ye p)]⟩ [_,(p.buses:Int)=p.buses,_,_,(DF p).length=p.buses.toNat,aC p.buses.toNat 1 (fun _ j=>[(.bool false)].getD j .nilp) (Um p)] {an:=[(2, .arr (DF p).length (Um p))],fr:=[(2,126),(3,127)] } [] ⟨a1,rfl,a2,a3,(List.length_replicate),(cZ _ _ _ _ _ (fun j hj=>(match j,hj with|0,_=>rfl))),trivial⟩ ?_
           refine aQ (aQ (bE h fun um hr_9 h=> ?_))
           have q0:=rk [(0,71),(1,72),(2,128)] (iR u1 hr_9)
           refine ri tT ⟨aeN,[(dX p p1 p2 v1),bN,(71,some (ahK u1)),(mD u6),(oN u8),(qD v8),(qY v8 u6 u8),(Wo p),(Ye p),(128,some (.cells 157 [(.ptr 71 0)]))]⟩ [_,u1.arcs.length=u1.arcs.length] {an:=[(1,cA q0 [71,72])] } [72] ⟨q0,rfl,trivial⟩ (.trans (fz ⟨aeN,[(dX p p1 p2 v1),bN,(mD u6),(oN u8),(qD v8),(qY v8 u6 u8),(Wo p),(Ye p),(128,some (ai2 u1))]⟩ [71]) (fz ⟨(ahe u1),[(dX p p1 p2 v1),bN,(mD u6),(oN u8),(qD v8),(qY v8 u6 u8),(Wo p),(Ye p)]⟩ [128])) ?_
           refine aB (bE h fun w9 hr_10 h=> ?_)
           refine jG 129 [(2,(vP 63 0)),(28,(vP 127 0))] [] [129,63,127,126] (.gK []) [(129,some (.loop dM 0 [(2,(vP 63 0)),(28,(vP 127 0))])),(dX p p1 p2 v1),(127,some (.cells 27 [(.own 126 true w9.length)])),(126,some (bO 4 1 ai w9))] (acu u1) 121 [] (afo u1) [(129,some (.loop dM 0 [(2,(vP 63 0)),(28,(vP 127 0))])),(dX p p1 p2 v1),(Ye p),(Wo p)] [(.one (.yl 129)),(sD (Z8 u1))] dM 0 [(2,(vP 63 0)),(28,(vP 127 0))] (by kernel_rfl) (by kernel_rfl) (by kernel_rfl) (by kernel_rfl) (by kernel_rfl) (by kernel_rfl) (by kernel_rfl) (rK [(0,129),(1,63),(2,127),(3,126)] (jW u1.arcs u1.from_ (⟨p.buses,p1,p2,v1⟩:ah) (DF p) hr_10)) (by kernel_rfl) rfl (EG.zero rfl) (bG.fin (st':=⟨(ahe u1),[(dX p p1 p2 v1),bN,(mD u6),(oN u8),(qD v8),(qY v8 u6 u8),(126,some (bO 4 1 ai w9)),(127,some (.cells 27 [(.own 126 true w9.length)]))]⟩) (cs:=[]) ⟨[],[(63,63),(65,65),(73,73),(74,74),(75,75),(76,76),(126,126),(127,127)]⟩ [2,4,10,28,235] (by kernel_rfl) trivial) ?_
           refine sd tT mX ⟨[(4,(vP 65 0)),(5,(vO 126 true w9.length)),(6,(vI 0))],[(65,some (.cells 77 [(.own 73 true u6.length),(.own 74 true u8.length),(.own 75 true v8.length)])),(mD u6),(oN u8),(qD v8),(126,some (bO 4 1 ai w9))]⟩ [] {} [] trivial ?_
           refine aI (.trans (bG.fin (st':=⟨[(4,(vP 4 0)),(5,(vO 3 true w9.length)),(6,(vI 0))],[(Ho u6),(1,some (CO u8)),(2,some (bO 164 2 af.cell v8)),(xI w9),(4,some (.cells 77 [(.own 0 true u6.length),(.own 1 true u8.length),(.own 2 true v8.length)]))]⟩) (cs:=[]) ⟨[],[(73,0),(74,1),(75,2),(126,3),(65,4)]⟩ [4,5,6] (by kernel_rfl) trivial) (bG.le (st':=⟨[(4,(vP 4 0)),(5,(vO 3 false w9.length)),(6,(vI 0))],[(Ho u6),(1,some (CO u8)),(2,some (bO 164 2 af.cell v8)),(xI w9),(4,some (.cells 77 [(.own 0 false u6.length),(.own 1 false u8.length),(.own 2 false v8.length)]))]⟩) ⟨⟨tR,⟨_,rfl,cu.v (dm.one (cN))⟩,tR,trivial⟩,(hN 4 ⟨rfl,bB ⟨cN,cN,cN,trivial⟩,trivial⟩)⟩)) ?_
           refine aR ?_
           obtain rfl:=oi h
           exact rh [(.agg [(.own 0 false u6.length),(.own 1 false u8.length),(.own 2 false v8.length)]),(.one (.own 3 false w9.length)),(sI 0)] (.refl _) (hN 4 ⟨rfl,trivial,trivial⟩)
       |ret v=>
        obtain rfl:=oi h
        unfold dU
        intro e st hn ha hR
        cases e with
        |normal=>exact absurd rfl hn
        |exit id=>exact hR
        |goto l=>exact hR
        |ret=>exact hR
        |panic c=>exact hR
        |outgrown=>exact hR
     |ret v=>
      obtain rfl:=oi h
      unfold dU
      intro e st hn ha hR
      cases e with
      |normal=>exact absurd rfl hn
      |exit id=>exact hR
      |goto l=>exact hR
      |ret=>exact hR
      |panic c=>exact hR
      |outgrown=>exact hR
   |ret v=>
    obtain rfl:=oi h
    unfold dU
    intro e st hn ha hR
    cases e with
    |normal=>exact absurd rfl hn
    |exit id=>exact hR
    |goto l=>exact hR
    |ret=>exact hR
    |panic c=>exact hR
    |outgrown=>exact hR
noncomputable def gN:oD:=⟨[25,26],Ja ([1,1,1,1,0,1,0]++[0]) (nL Try.f33),Ja ([1,1,1,1,0,1,0]++[1]) (nL Try.f33),35,[]⟩
abbrev DI:Nat × Option Ob:=(0,some (.loop gN 0 [(9,(vP 1 0))]))
def DX  :(List Part)→Exit→St→Prop:=
  fun r=>nJ 0 gN (vB true) [DI,(1,some (.cells 80 [(.own 3 false r.length)])),(2,none),(3,some (bO 117 2 Part.cell r))]
section
variable (u0:(List Part)) (u1:Int) (u2:Int)
abbrev Fp:Ob:=(bO 117 2 Part.cell u0)
abbrev Vh:List (Nat × Option Ob):=[DI,(1,some (.cells 80 [(.own 2 false u0.length)])),(2,some (Fp u0))]
abbrev ack:List (Nat × TV):=[(9,(vP 1 0)),(10,(vD (mg [(.int .i64 u1),(.int .i64 u2)] 0)))]
abbrev V5:Nat × Option Ob:=(0,some (.loop gN 1 [(9,(vP 1 0))]))
abbrev agi:List (Nat × Option Ob):=[V5,(1,some (.cells 80 [(.own 2 false u0.length)])),(2,some (Fp u0))]
abbrev afH:List (Nat × TV):=[(9,(vP 1 0)),(10,(vD (mg [(.int .i64 u1),(.int .i64 u2)] 0))),(29,(vB (!decide (u1=0))))]
end
theorem mU (u1:Int) (u2:Int) (u3:Int) (u0:(List Part)) {r:(List Part)} (h:iY u1 u2 u3 u0=some r):Yl Try.prog 0 [(.agg [(cI u1),(cI u2)]),(sI u3)] (Vh u0) (vB true) [DI,(1,some (.cells 80 [(.own 3 false r.length)])),(2,none),(3,some (bO 117 2 Part.cell r))]:=by
 refine Gc (r:=gN) (sl:=[(9,(vP 1 0))]) (sl1:=(ack u1 u2)) (h1:=(Vh u0)) (sl2:=[(9,(vP 1 0))]) (by kernel_rfl) rfl rfl (by kernel_rfl) (fun rd B=> ?_) (by kernel_rfl) (fun rd B=> ?_)
 ·refine sH (c:=Ja ([1,1,1,1,0,1,0]++[0]) (nL Try.f33)) rfl ?_
  refine oU (st:=⟨[(25,(.v (.agg [(cI u1),(cI u2)]))),(26,(vI u3)),(9,(vP 1 0))],(Vh u0)⟩) (by kernel_rfl) ?_
  refine rz tT ⟨(ack u1 u2),(Vh u0)⟩ {fr:=[(0,6)] } [6] ?_
  exact⟨rfl,rfl⟩
 ·refine sH (c:=Ja ([1,1,1,1,0,1,0]++[1]) (nL Try.f33)) rfl ?_
  refine oU (st:=⟨(ack u1 u2),(agi u0)⟩) (by kernel_rfl) ?_
  show bn _ _ _ _ _ _ (DX r) _
  unfold iY at h
  refine aB (sz tT ⟨(afH u1 u2),(agi u0)⟩ {} [] ?_)
  refine bI h (fun hb h=> ?_) (fun hb h=> ?_)
  ·refine ct hb ?_
   refine aO h fun⟨a1,a2⟩ h=> ?_
   refine ri tT ⟨[],[V5,(1,some (.cells 80 [(.own 8 false ((u0++[(⟨u1,u2⟩:Part)]).length))])),(2,none),(8,some (bO 117 2 Part.cell (u0++[(⟨u1,u2⟩:Part)])))]⟩ [[(⟨u1,u2⟩:Part)].length=1,aC 1 2 (ig 2 [(.int .i64 u1),(.int .i64 u2)]) (au Part.cell [(⟨u1,u2⟩:Part)]),u0.length=u0.length,_,_,(u0++[(⟨u1,u2⟩:Part)]).length=u0.length+[(⟨u1,u2⟩:Part)].length,aC (u0.length+[(⟨u1,u2⟩:Part)].length) 2 (Ak (au Part.cell u0) u0.length (au Part.cell [(⟨u1,u2⟩:Part)])) (au Part.cell (u0++[(⟨u1,u2⟩:Part)]))] {an:=[(2, .arr [(⟨u1,u2⟩:Part)].length (au Part.cell [(⟨u1,u2⟩:Part)])),(3, .arr (u0++[(⟨u1,u2⟩:Part)]).length (au Part.cell (u0++[(⟨u1,u2⟩:Part)])))],fr:=[(2,7),(3,8)] } [] ⟨(rfl),((by intro i hi j hj;match i,j,hi,hj with|0,0,_,_=>rfl|0,1,_,_=>rfl)),rfl,a1,a2,(List.length_append),(fe _ _ _ _),trivial⟩ (bG.fin (st':=⟨[],[V5,(1,some (.cells 80 [(.own 3 false ((u0++[(⟨u1,u2⟩:Part)]).length))])),(2,none),(3,some (bO 117 2 Part.cell (u0++[(⟨u1,u2⟩:Part)])))]⟩) (cs:=[]) ⟨[],[(0,0),(1,1),(2,2),(8,3)]⟩ [] (by kernel_rfl) trivial) ?_
   obtain rfl:=oi h
   exact nJ.on (sl:=[(9,(vP 1 0))]) (by kernel_rfl) (AQ (by kernel_rfl)) (cu.refl _)
  ·refine cf hb ?_
   refine aI (.trans (bG.X9 (E0:=80) (cs:=[(.own 2 false u0.length)]) (nn:=false) (len:=u0.length) (E:=117) (esz:=2) (n:=u0.length) (el:=au Part.cell u0) (p:=1) (q:=0) (b:=2) (b':=9) (by kernel_rfl) (by kernel_rfl) (by kernel_rfl) (by kernel_rfl)) (.trans (fz ⟨(afH u1 u2),[V5,(1,some (.cells 80 [(.own 9 false u0.length)])),(2,none),(9,some (Fp u0))]⟩ []) (bG.fin (st':=⟨[],[V5,(1,some (.cells 80 [(.own 3 false u0.length)])),(2,none),(3,some (Fp u0))]⟩) (cs:=[]) ⟨[],[(0,0),(1,1),(2,2),(9,3)]⟩ [] (by kernel_rfl) trivial))) ?_
   refine aP ?_
   obtain rfl:=oi h
   exact nJ.on (sl:=[(9,(vP 1 0))]) (by kernel_rfl) (AQ (by kernel_rfl)) (cu.refl _)
def CX  :Bool→Exit→St→Prop:=
  fun r=>aU TT [.tmp 3] (vB r) []
theorem BH (b:Int) (x1:(List Bool)) {r:Bool} (h:oJ b x1=some r):Fn Try.prog 125 [(sI b),(sD (SL x1))] [] (vB r) []:=by
 refine fN tT Try.func125 rfl rfl fun B=> ?_
 show bn _ _ _ _ _ _ (CX r) _
 unfold oJ at h
 refine sz tT ⟨[(0,(vI b)),(1,(vD (SL x1)))],[]⟩ {} [] ?_
 refine aQ (aO h fun a1 h=> ?_)
 refine rg tT ⟨[(3,(vB (bif (decide (0≤b))then(at' x1 b.toNat)else false)))],[]⟩ (eqs (decide (0≤b)) 3 ((gP (gG [(2,(decide (0≤b)))]) [(2,true)]→All [(0:Int)≤b∧b<(x1.length:Int)])::(eqs (decide (0≤b)) 2 []))) {yb:=[(2,(decide (0≤b)))] } [] (ae ⟨(fun hg=> ⟨(a1 (aN hg)),trivial⟩),(ae trivial)⟩) ?_
 refine aR ?_
 obtain rfl:=oi h
 exact rl [(sB (bif (decide (0≤b))then(at' x1 b.toNat)else false))]
def iG  :Int→Exit→St→Prop:=
  fun r=>aU TT [.tmp 4] (vI r) []
section
variable (f_:(List Bool))
abbrev Ve:=(nT [(SL f_)])
abbrev SE:Nat × TV:=(1,(vD (.fn 125 1 (Ve f_))))
end
def kV (s_:(List Int)) (f_:(List Bool)):Int→St:=
  fun t8=> ⟨[(jZ s_),(SE f_),(o9 s_),(8,(vI t8))],[]⟩
def lH  :Unit→St:=
  fun _=> ⟨[],[]⟩
def uS (s_:(List Int)) (f_:(List Bool)):(aK Int (Ex Unit Int))→Exit→St→Prop:=
  LQ 0 [] (kV s_ f_) lH iG
section
variable (s_:(List Int)) (f_:(List Bool))
abbrev ajc:St:=⟨[(jZ s_),(SE f_)],[]⟩
end
theorem uO (s_:(List Int)) (f_:(List Bool)) {r:Int} (h:je s_ f_=some r):Fn Try.prog 113 [(sD (y7 s_)),(sD (.fn 125 1 (Ve f_)))] [] (vI r) []:=by
 refine fN tT Try.func113 rfl rfl fun B=> ?_
 show bn _ _ _ _ _ _ (iG r) _
 unfold je at h
 refine sz tT (ajc s_ f_) {} [] ?_
 refine aQ (sz tT ⟨[(jZ s_),(SE f_),(o9 s_),(8,(vI 0))],[]⟩ {} [] ?_)
 refine bE h fun y hy h=> ?_
 refine aL [] (kV s_ f_) lH iG hy (fun s f h=> ?_) ?_
 ·clear hy
  show bn _ _ _ _ _ _ ((uS s_ f_) f) _
  unfold lM at h
  obtain⟨t8,rfl⟩: ∃q,q=s:=⟨_,rfl⟩
  refine sz tT ⟨[(jZ s_),(SE f_),(o9 s_),(8,(vI t8)),(Wq t8 s_)],[]⟩ {} [] ?_
  refine aQ ?_
  refine bI h (fun hb1 h=> ?_) (fun hb1 h=> ?_)
  ·refine ct hb1 ?_
   refine aP (aQ (aB (sz tT ⟨[(jZ s_),(SE f_),(5,(vI t8)),(o9 s_),(8,(vI t8))],[]⟩ {} [] ?_)))
   refine aQ (bE h fun r_ hr_ h=> ?_)
   refine aO h fun a1 h=> ?_
   have q1:=BH (at' s_ t8.toNat) f_ hr_
   refine rg tT ⟨[(jZ s_),(SE f_),(5,(vI t8)),(o9 s_),(8,(vI t8)),(16,(vB r_))],[]⟩ [_,_] {an:=[(5,cA q1 [])] } [] ⟨a1,q1,trivial⟩ ?_
   refine bI h (fun hb h=> ?_) (fun hb h=> ?_)
   ·refine ct hb ?_
    refine sz tT ⟨[(4,(vI t8))],[]⟩ {} [] ?_
    refine aR ?_
    obtain rfl:=oi h
    exact lR bS (bT 0) bR (aU.mk (.inr rfl) (p:=[]) (l:=[(sI t8)]) (by kernel_rfl) trivial (cu.refl _) trivial)
   ·refine cf hb ?_
    refine aP (rz tT ⟨[(jZ s_),(SE f_),(o9 s_),(k27 t8)],[]⟩ {} [] ?_)
    obtain rfl:=oi h
    exact lN
  ·refine cf hb1 ?_
   refine aI (fz ⟨[],[]⟩ []) ?_
   refine aX ?_
   obtain rfl:=oi h
   exact lB
 ·clear hy
  cases y with
  |brk z=>
   unfold dU
   refine⟨_, .refl, ?_⟩
   refine sz tT ⟨[(4,(vI (-1)))],[]⟩ {} [] ?_
   refine aR ?_
   obtain rfl:=oi h
   exact rl [(sI (-1))]
  |ret v=>
   obtain rfl:=oi h
   unfold dU
   intro e st hn ha hR
   cases e with
   |normal=>exact absurd rfl hn
   |exit id=>exact hR
   |goto l=>exact hR
   |ret=>exact hR
   |panic c=>exact hR
   |outgrown=>exact hR
def tO  :Bool→Exit→St→Prop:=
  fun r=>aU TT [.tmp 4] (vB r) []
theorem ko (s_:(List Int)) (f_:(List Bool)) {r:Bool} (h:fC s_ f_=some r):Fn Try.prog 67 [(sD (y7 s_)),(sD (.fn 125 1 (Ve f_)))] [] (vB r) []:=by
 refine fN tT Try.func67 rfl rfl fun B=> ?_
 show bn _ _ _ _ _ _ (tO r) _
 unfold fC at h
 refine sz tT (ajc s_ f_) {} [] ?_
 refine aQ (bE h fun r_ hr_ h=> ?_)
 have q0:=uO s_ f_ hr_
 refine rg tT (k29 r_) [_] {an:=[(2,cA q0 [])] } [] ⟨q0,trivial⟩ ?_
 refine aR ?_
 obtain rfl:=oi h
 exact rl [(sB (decide (0≤r_)))]
def eT  :(List Part)→Exit→St→Prop:=
  fun r=>aU TT [] (.gK []) [DI,(1,some (.cells 80 [(.own 3 false r.length)])),(2,none),(3,some (bO 117 2 Part.cell r))]
section
variable (x2:(List Bool)) (u4:(List Bool)) (u5:(List Bool)) (u6:(List Bool)) (u7:(List Bool)) (u8:(List Bool)) (u9:(List Bool)) (x3:(List Bool)) (u0:(List Source)) (x1:Int) (u2:(List Link)) (u3:(List ay)) (v0:Int) (u1:(List Part))
abbrev ahk:DV:=(mg [(aJ none 1 ai x2),(aJ none 1 ai u4),(aJ none 1 ai u5),(aJ none 1 ai u6),(aJ none 1 ai u7),(aJ none 1 ai u8),(aJ none 1 ai u9)] 0)
abbrev EZ:Nat × TV:=(2,(vD (ahk x2 u4 u5 u6 u7 u8 u9)))
abbrev uR:Nat × TV:=(3,(vD (SL x3)))
abbrev SF:Nat × TV:=(13,(vD (k9 u0)))
abbrev Sk:Nat × TV:=(14,(vI (u0.length:Int)))
abbrev ae8:List (Nat × TV):=[dS,(k11 u0 u3 x1 u2),(EZ x2 u4 u5 u6 u7 u8 u9),(uR x3),(SF u0),(Sk u0),(15,(vI v0))]
abbrev sZ:List (Nat × Option Ob):=[DI,(1,some (.cells 80 [(.own 37 false u1.length)])),(2,none),(37,some (Fp u1))]
end
def uM (x1:Int) (u0:(List Source)) (u2:(List Link)) (u3:(List ay)) (x2:(List Bool)) (u4:(List Bool)) (u5:(List Bool)) (u6:(List Bool)) (u7:(List Bool)) (u8:(List Bool)) (u9:(List Bool)) (x3:(List Bool)):((List Part) × Int)→St:=
  fun zz=>match zz with|(u1,v0)=> ⟨(ae8 x2 u4 u5 u6 u7 u8 u9 x3 u0 x1 u2 u3 v0),(sZ u1)⟩
section
variable (x1:Int) (u1:(List Source)) (u2:(List Link)) (u3:(List ay)) (x2:(List Bool)) (u4:(List Bool)) (u5:(List Bool)) (u6:(List Bool)) (u7:(List Bool)) (u8:(List Bool)) (u9:(List Bool)) (x3:(List Bool)) (u0:(List Part))
abbrev ag8:List (Nat × TV):=[dS,(k11 u1 u3 x1 u2),(EZ x2 u4 u5 u6 u7 u8 u9),(uR x3)]
abbrev ag4:St:=⟨(ag8 x1 u1 u2 u3 x2 u4 u5 u6 u7 u8 u9 x3),(sZ u0)⟩
end
def uy (x1:Int) (u1:(List Source)) (u2:(List Link)) (u3:(List ay)) (x2:(List Bool)) (u4:(List Bool)) (u5:(List Bool)) (u6:(List Bool)) (u7:(List Bool)) (u8:(List Bool)) (u9:(List Bool)) (x3:(List Bool)):(List Part)→St:=
  fun u0=>(ag4 x1 u1 u2 u3 x2 u4 u5 u6 u7 u8 u9 x3 u0)
def D5 (x1:Int) (u0:(List Source)) (u1:(List Link)) (u2:(List ay)) (x2:(List Bool)) (u3:(List Bool)) (u4:(List Bool)) (u5:(List Bool)) (u6:(List Bool)) (u7:(List Bool)) (u8:(List Bool)) (x3:(List Bool)):(aK ((List Part) × Int) (Ex (List Part) (List Part)))→Exit→St→Prop:=
  LQ 0 [] (uM x1 u0 u1 u2 x2 u3 u4 u5 u6 u7 u8 x3) (uy x1 u0 u1 u2 x2 u3 u4 u5 u6 u7 u8 x3) eT
section
variable (u0:(List Link)) (x1:Int) (u2:(List Source)) (u3:(List ay)) (x2:(List Bool)) (u4:(List Bool)) (u5:(List Bool)) (u6:(List Bool)) (u7:(List Bool)) (u8:(List Bool)) (u9:(List Bool)) (x3:(List Bool)) (v0:Int)
abbrev SG:Nat × TV:=(43,(vD (aJ none 6 Link.cell u0)))
abbrev SX:Nat × TV:=(44,(vI (u0.length:Int)))
abbrev aeK:List (Nat × TV):=[dS,(k11 u2 u3 x1 u0),(EZ x2 u4 u5 u6 u7 u8 u9),(uR x3),(SG u0),(SX u0),(45,(vI v0))]
end
def uH (x1:Int) (u2:(List Source)) (u0:(List Link)) (u3:(List ay)) (x2:(List Bool)) (u4:(List Bool)) (u5:(List Bool)) (u6:(List Bool)) (u7:(List Bool)) (u8:(List Bool)) (u9:(List Bool)) (x3:(List Bool)):((List Part) × Int)→St:=
  fun zz=>match zz with|(u1,v0)=> ⟨(aeK u0 x1 u2 u3 x2 u4 u5 u6 u7 u8 u9 x3 v0),(sZ u1)⟩
section
variable (x1:Int) (u1:(List Source)) (u2:(List Link)) (u3:(List ay)) (x3:(List Bool)) (u0:(List Part))
abbrev afC:List (Nat × TV):=[dS,(k11 u1 u3 x1 u2),(uR x3)]
abbrev afn:St:=⟨(afC x1 u1 u2 u3 x3),(sZ u0)⟩
end
def uJ (x1:Int) (u1:(List Source)) (u2:(List Link)) (u3:(List ay)) (x3:(List Bool)):(List Part)→St:=
  fun u0=>(afn x1 u1 u2 u3 x3 u0)
def DK (x1:Int) (u0:(List Source)) (u1:(List Link)) (u2:(List ay)) (x2:(List Bool)) (u3:(List Bool)) (u4:(List Bool)) (u5:(List Bool)) (u6:(List Bool)) (u7:(List Bool)) (u8:(List Bool)) (x3:(List Bool)):(aK ((List Part) × Int) (Ex (List Part) (List Part)))→Exit→St→Prop:=
  LQ 2 [] (uH x1 u0 u1 u2 x2 u3 u4 u5 u6 u7 u8 x3) (uJ x1 u0 u1 u2 x3) eT
section
variable (u0:(List ay)) (x3:(List Bool)) (u2:Int)
abbrev QL:Nat × TV:=(78,(vD (k10 u0)))
abbrev PO:Nat × TV:=(79,(vI (u0.length:Int)))
abbrev agZ:List (Nat × TV):=[dS,(uR x3),(QL u0),(PO u0),(80,(vI u2))]
end
def uG (u0:(List ay)) (x3:(List Bool)):((List Part) × Int)→St:=
  fun zz=>match zz with|(u1,u2)=> ⟨(agZ u0 x3 u2),(sZ u1)⟩
def uL  :(List Part)→St:=
  fun o905=> ⟨[],[DI,(1,some (.cells 80 [(.own 37 false o905.length)])),(2,none),(37,some (bO 117 2 Part.cell o905))]⟩
def DT (u0:(List ay)) (x3:(List Bool)):(aK ((List Part) × Int) (Ex (List Part) (List Part)))→Exit→St→Prop:=
  LQ 4 [] (uG u0 x3) uL eT
section
variable (x1:Int) (u1:(List Source)) (u0:(List Link)) (u2:(List ay)) (x2:(List Bool)) (u7:(List Bool)) (u8:(List Bool)) (u9:(List Bool)) (v0:(List Bool)) (v1:(List Bool)) (v2:(List Bool)) (x3:(List Bool)) (u4:Int) (r_:Bool) (v8:(List Part)) (v5:(List Part)) (u3:Int) (u5:Bool) (v9:(List Part)) (u6:Int) (v3:Bool) (w0:(List Part))
abbrev af6:List SV:=[(.one (.yl 0)),(sD (k8 u1 u2 x1 u0)),(sD (ahk x2 u7 u8 u9 v0 v1 v2)),(sD (SL x3))]
abbrev Ze:List (Nat × TV):=[dS,(k11 u1 u2 x1 u0),(EZ x2 u7 u8 u9 v0 v1 v2),(uR x3),(SF u1),(Sk u1),(15,(vI 0))]
abbrev agO:List (Nat × TV):=[dS,(k11 u1 u2 x1 u0),(EZ x2 u7 u8 u9 v0 v1 v2),(uR x3),(SF u1),(Sk u1),(15,(vI u4)),(16,(vB (decide (u4<(u1.length:Int)))))]
abbrev afX:List (Nat × TV):=[dS,(k11 u1 u2 x1 u0),(EZ x2 u7 u8 u9 v0 v1 v2),(uR x3),(5,(vI u4)),(6,(vD (mg [(.int .i64 ((at' u1 u4.toNat).bus)),(.int .i64 ((at' u1 u4.toNat).kind)),(.int .i64 ((at' u1 u4.toNat).power)),(.int .i64 ((at' u1 u4.toNat).sync)),(.int .i64 ((at' u1 u4.toNat).bg))] 0))),(SF u1),(Sk u1),(15,(vI u4))]
abbrev tZ:=(bif r_ then(!(at' x3 (((at' u1 u4.toNat).bus).toNat)))else false)
abbrev adI:List (Nat × TV):=[dS,(k11 u1 u2 x1 u0),(EZ x2 u7 u8 u9 v0 v1 v2),(uR x3),(SF u1),(Sk u1),(15,(vI u4)),(40,(vB (bif (tZ u1 x3 u4 r_)then false else false)))]
abbrev adw:List (Nat × Option Ob):=[DI,(1,some (.cells 80 [(.own 41 false v8.length)])),(2,none),(41,some (Fp v8))]
abbrev aiL:=(gP (gG [(4,r_),(12,true)]) [(4,true)]→All [(0:Int)≤(at' u1 u4.toNat).bus∧(at' u1 u4.toNat).bus<(x3.length:Int)])
abbrev acN:List (Nat × Option Ob):=[DI,(1,some (.cells 80 [(.own 37 false v5.length)])),(37,some (Fp v5))]
abbrev aeR:List (Nat × Option Ob):=[DI,(1,some (.cells 80 [(.own 41 false v8.length)])),(37,none),(41,some (Fp v8))]
abbrev acj:List (Nat × TV):=[dS,(k11 u1 u2 x1 u0),(EZ x2 u7 u8 u9 v0 v1 v2),(uR x3),(SF u1),(Sk u1),(15,(vI u4)),(40,(vB false))]
abbrev ab1:List (Nat × TV):=[dS,(k11 u1 u2 x1 u0),(EZ x2 u7 u8 u9 v0 v1 v2),(uR x3),(SF u1),(Sk u1),(15,(k28 u4))]
abbrev ahl:St:=⟨(ab1 x1 u1 u0 u2 x2 u7 u8 u9 v0 v1 v2 x3 u4),(sZ v8)⟩
abbrev OC:=(gG [(4,r_),(12,false)])
abbrev ahh:=(eqs r_ 4 ((gP (OC r_) [(4,true)]→All [(0:Int)≤(at' u1 u4.toNat).bus∧(at' u1 u4.toNat).bus<(x3.length:Int)])::(eqs r_ 3 [(tZ u1 x3 u4 r_)=false, ¬ gP (OC r_) [(12,true)],(tZ u1 x3 u4 r_)=false, ¬ gP (OC r_) [(12,true)],(tZ u1 x3 u4 r_)=false, ¬ gP (OC r_) [(12,true)],(tZ u1 x3 u4 r_)=false, ¬ gP (OC r_) [(12,true)],(tZ u1 x3 u4 r_)=false, ¬ gP (OC r_) [(12,true)],(tZ u1 x3 u4 r_)=false, ¬ gP (OC r_) [(12,true)],(tZ u1 x3 u4 r_)=false, ¬ gP (OC r_) [(12,true)],(tZ u1 x3 u4 r_)=false])))
abbrev ag2:List (Nat × TV):=[dS,(k11 u1 u2 x1 u0),(EZ x2 u7 u8 u9 v0 v1 v2),(uR x3),(SG u0),(SX u0),(45,(vI 0))]
abbrev aeZ:List (Nat × TV):=[dS,(k11 u1 u2 x1 u0),(EZ x2 u7 u8 u9 v0 v1 v2),(uR x3),(SG u0),(SX u0),(45,(vI u3)),(46,(vB (decide (u3<(u0.length:Int)))))]
abbrev agw:List (Nat × TV):=[dS,(k11 u1 u2 x1 u0),(EZ x2 u7 u8 u9 v0 v1 v2),(uR x3),(7,(vI u3)),(8,(vD (mg [(.int .i64 ((at' u0 u3.toNat).a)),(.int .i64 ((at' u0 u3.toNat).b)),(.int .i64 ((at' u0 u3.toNat).kind)),(.int .i64 ((at' u0 u3.toNat).most)),(.int .i64 ((at' u0 u3.toNat).bg)),(aJ none 2 iD.cell ((at' u0 u3.toNat).trip))] 0))),(SG u0),(SX u0),(45,(vI u3))]
abbrev tQ:=(bif u5 then(!((at' x3 (((at' u0 u3.toNat).a).toNat))==(at' x3 (((at' u0 u3.toNat).b).toNat))))else false)
abbrev abW:List (Nat × TV):=[dS,(k11 u1 u2 x1 u0),(EZ x2 u7 u8 u9 v0 v1 v2),(uR x3),(SG u0),(SX u0),(45,(vI u3)),(75,(vB (bif (tQ u0 x3 u3 u5)then false else false)))]
abbrev adx:List (Nat × Option Ob):=[DI,(1,some (.cells 80 [(.own 50 false v9.length)])),(2,none),(50,some (Fp v9))]
abbrev UE:=(gG [(4,u5),(17,true)])
abbrev agG:=(gP (UE u5) [(4,true)]→All [(0:Int)≤(at' u0 u3.toNat).a∧(at' u0 u3.toNat).a<(x3.length:Int)])
abbrev afQ:=(gP (UE u5) [(4,true)]→All [(0:Int)≤(at' u0 u3.toNat).b∧(at' u0 u3.toNat).b<(x3.length:Int)])
abbrev agY:List (Nat × Option Ob):=[DI,(1,some (.cells 80 [(.own 50 false v9.length)])),(37,none),(50,some (Fp v9))]
abbrev abG:List (Nat × TV):=[dS,(k11 u1 u2 x1 u0),(EZ x2 u7 u8 u9 v0 v1 v2),(uR x3),(SG u0),(SX u0),(45,(vI u3)),(75,(vB false))]
abbrev adt:List (Nat × TV):=[dS,(k11 u1 u2 x1 u0),(EZ x2 u7 u8 u9 v0 v1 v2),(uR x3),(SG u0),(SX u0),(45,(k28 u3))]
abbrev aiI:St:=⟨(adt x1 u1 u0 u2 x2 u7 u8 u9 v0 v1 v2 x3 u3),(sZ v9)⟩
abbrev Nn:=(gG [(4,u5),(17,false)])
abbrev afD:=(eqs u5 4 ((gP (Nn u5) [(4,true)]→All [(0:Int)≤(at' u0 u3.toNat).a∧(at' u0 u3.toNat).a<(x3.length:Int)])::(eqs u5 5 ((gP (Nn u5) [(4,true)]→All [(0:Int)≤(at' u0 u3.toNat).b∧(at' u0 u3.toNat).b<(x3.length:Int)])::(eqs u5 3 [(tQ u0 x3 u3 u5)=false, ¬ gP (Nn u5) [(17,true)],(tQ u0 x3 u3 u5)=false, ¬ gP (Nn u5) [(17,true)],(tQ u0 x3 u3 u5)=false, ¬ gP (Nn u5) [(17,true)],(tQ u0 x3 u3 u5)=false, ¬ gP (Nn u5) [(17,true)],(tQ u0 x3 u3 u5)=false, ¬ gP (Nn u5) [(17,true)],(tQ u0 x3 u3 u5)=false, ¬ gP (Nn u5) [(17,true)],(tQ u0 x3 u3 u5)=false, ¬ gP (Nn u5) [(17,true)],(tQ u0 x3 u3 u5)=false])))))
abbrev ajk:List (Nat × TV):=[dS,(uR x3),(QL u2),(PO u2),(80,(vI 0))]
abbrev agb:List (Nat × TV):=[dS,(uR x3),(QL u2),(PO u2),(80,(vI u6)),(81,(vB (decide (u6<(u2.length:Int)))))]
abbrev afE:Nat × TV:=(10,(aha u2 u6))
abbrev ae7:List (Nat × TV):=[dS,(uR x3),(9,(vI u6)),(afE u2 u6),(QL u2),(PO u2),(80,(vI u6))]
abbrev afV:List (Nat × TV):=[dS,(uR x3),(9,(vI u6)),(afE u2 u6),(11,(vB v3)),(QL u2),(PO u2),(80,(vI u6))]
abbrev ai4:List SV:=[(sD (aJ none 1 (aj .i64) [(L6 u2 u6).e0,(L6 u2 u6).e1])),(sD (.fn 125 1 (Ve x3)))]
abbrev aci:List (Nat × TV):=[dS,(uR x3),(QL u2),(PO u2),(80,(vI u6)),(98,(vB (bif v3 then false else false)))]
abbrev abI:List (Nat × Option Ob):=[DI,(1,some (.cells 80 [(.own 58 false w0.length)])),(2,none),(58,some (Fp w0))]
abbrev agd:List (Nat × Option Ob):=[DI,(1,some (.cells 80 [(.own 58 false w0.length)])),(37,none),(58,some (Fp w0))]
abbrev abu:List (Nat × TV):=[dS,(uR x3),(QL u2),(PO u2),(80,(vI u6)),(98,(vB false))]
abbrev abM:List (Nat × TV):=[dS,(uR x3),(QL u2),(PO u2),(80,(k28 u6))]
abbrev ajt:St:=⟨(abM u2 x3 u6),(sZ w0)⟩
end
theorem DY (x1:Int) (u1:(List Source)) (u0:(List Link)) (u2:(List ay)) (x2:(List Bool)) (u7:(List Bool)) (u8:(List Bool)) (u9:(List Bool)) (v0:(List Bool)) (v1:(List Bool)) (v2:(List Bool)) (x3:(List Bool)) (v7:(List Part)) {r:(List Part)} (h:qW x1 u1 u0 u2 x2 u7 u8 u9 v0 v1 v2 x3 v7=some r):Fn Try.prog 124 (af6 x1 u1 u0 u2 x2 u7 u8 u9 v0 v1 v2 x3) (Vh v7) (.gK []) [DI,(1,some (.cells 80 [(.own 3 false r.length)])),(2,none),(3,some (bO 117 2 Part.cell r))]:=by
 refine fN tT Try.func124 rfl rfl fun B=> ?_
 show bn _ _ _ _ _ _ (eT r) _
 unfold qW at h
 refine aQ (sz tT ⟨(Ze x1 u1 u0 u2 x2 u7 u8 u9 v0 v1 v2 x3),(Vh v7)⟩ {} [] ?_)
 refine bE h fun y hy h=> ?_
 refine aI (.trans (bG.X9 (E0:=80) (cs:=[(.own 2 false v7.length)]) (nn:=false) (len:=v7.length) (E:=117) (esz:=2) (n:=v7.length) (el:=au Part.cell v7) (p:=1) (q:=0) (b:=2) (b':=42) (by kernel_rfl) (by kernel_rfl) (by kernel_rfl) (by kernel_rfl)) (.trans (fz ⟨(Ze x1 u1 u0 u2 x2 u7 u8 u9 v0 v1 v2 x3),[DI,(1,some (.cells 80 [(.own 42 false v7.length)])),(2,none),(42,some (Fp v7))]⟩ []) (bG.fin (st':=⟨(Ze x1 u1 u0 u2 x2 u7 u8 u9 v0 v1 v2 x3),(sZ v7)⟩) (cs:=[]) ⟨[],[(0,0),(1,1),(2,2),(42,37)]⟩ [0,1,2,3,13,14,15] (by kernel_rfl) trivial))) ?_
 refine aL [] (uM x1 u1 u0 u2 x2 u7 u8 u9 v0 v1 v2 x3) (uy x1 u1 u0 u2 x2 u7 u8 u9 v0 v1 v2 x3) eT hy (fun s f h=> ?_) ?_
 ·clear hy
  show bn _ _ _ _ _ _ ((D5 x1 u1 u0 u2 x2 u7 u8 u9 v0 v1 v2 x3) f) _
  unfold uo at h
  obtain⟨v5,u4⟩:=s
  refine sz tT ⟨(agO x1 u1 u0 u2 x2 u7 u8 u9 v0 v1 v2 x3 u4),(sZ v5)⟩ {} [] ?_
  refine aQ ?_
  refine bI h (fun hb1 h=> ?_) (fun hb1 h=> ?_)
  ·refine ct hb1 ?_
   refine aP (aQ (aB (aQ (aO h fun a1 h=> ?_))))
   refine rg tT ⟨(afX x1 u1 u0 u2 x2 u7 u8 u9 v0 v1 v2 x3 u4),(sZ v5)⟩ [_] {fr:=[(3,40)] } [40] ⟨a1,trivial⟩ ?_
   refine aQ (bE h fun r_ hr_ h=> ?_)
   refine bI h (fun hb h=> ?_) (fun hb h=> ?_)
   ·skip
    refine bE h fun v8 hr_1 h=> ?_
    refine aO h fun a1 h=> ?_
    have q0:=fE (⟨x1,u1,u0,u2⟩:ah) (⟨x2,u7,u8,u9,v0,v1,v2⟩:State) u4 hr_
    refine ri tT ⟨(adI x1 u1 u0 u2 x2 u7 u8 u9 v0 v1 v2 x3 u4 r_),(adw v8)⟩ (_::(eqs r_ 4 ((aiL u1 x3 u4 r_)::(eqs r_ 3 [(tZ u1 x3 u4 r_)=true,(tZ u1 x3 u4 r_)=true,(tZ u1 x3 u4 r_)=true,(tZ u1 x3 u4 r_)=true,(tZ u1 x3 u4 r_)=true,(tZ u1 x3 u4 r_)=true,gP (gG [(4,r_),(12,true)]) [(12,true)]→All [Yl Try.prog 0 [(.agg [(cI 2),(cI u4)]),(sI ((at' u1 u4.toNat).power))] (acN v5) (vB true) (aeR v8)],gP (gG [(4,r_),(12,true)]) [(12,true)],(tZ u1 x3 u4 r_)=true,(tZ u1 x3 u4 r_)=true])))) {yb:=[(4,r_),(12,true)],an:=[(3,cA q0 []),(18, .call [0,1,37] (vB true) (aeR v8))] } [] ⟨q0,(ae ⟨(fun hg=> ⟨(a1 (aN hg)),trivial⟩),(ae ⟨(hb),(hb),(hb),(hb),(hb),(hb),(fun hg=> ⟨(yK [(2,37),(3,41)] (mU 2 u4 ((at' u1 u4.toNat).power) v5 hr_1)),trivial⟩),(⟨rfl,trivial⟩),(hb),(hb),trivial⟩)⟩)⟩ (bG.le (st':=⟨(acj x1 u1 u0 u2 x2 u7 u8 u9 v0 v1 v2 x3 u4),(adw v8)⟩) ⟨⟨tR,tR,tR,tR,tR,tR,tR,⟨_,rfl,cu.v (dm.one (cK.of (congrArg (fun b=>CV.d (.bool b)) (DC hb))))⟩,trivial⟩,(.refl _)⟩) ?_
    refine cn (aP (ri tT ⟨(ab1 x1 u1 u0 u2 x2 u7 u8 u9 v0 v1 v2 x3 u4),(adw v8)⟩ [] {} [] trivial (bG.fin (st':=(ahl x1 u1 u0 u2 x2 u7 u8 u9 v0 v1 v2 x3 u4 v8)) (cs:=[]) ⟨[],[(0,0),(1,1),(2,2),(41,37)]⟩ [0,1,2,3,13,14,15] (by kernel_rfl) trivial) ?_))
    obtain rfl:=oi h
    exact lN
   ·skip
    refine aO h fun a1 h=> ?_
    have q0:=fE (⟨x1,u1,u0,u2⟩:ah) (⟨x2,u7,u8,u9,v0,v1,v2⟩:State) u4 hr_
    refine ri tT ⟨(adI x1 u1 u0 u2 x2 u7 u8 u9 v0 v1 v2 x3 u4 r_),(sZ v5)⟩ (_::(ahh u1 x3 u4 r_)) {yb:=[(4,r_),(12,false)],an:=[(3,cA q0 []),(13, .skip),(14, .skip),(15, .skip),(16, .skip),(17, .skip),(18, .skip),(19, .skip)] } [] ⟨q0,(ae ⟨(fun hg=> ⟨(a1 (aN hg)),trivial⟩),(ae ⟨(hb),((fun h=>Bool.noConfusion (show false=true from h.1))),(hb),((fun h=>Bool.noConfusion (show false=true from h.1))),(hb),((fun h=>Bool.noConfusion (show false=true from h.1))),(hb),((fun h=>Bool.noConfusion (show false=true from h.1))),(hb),((fun h=>Bool.noConfusion (show false=true from h.1))),(hb),((fun h=>Bool.noConfusion (show false=true from h.1))),(hb),((fun h=>Bool.noConfusion (show false=true from h.1))),(hb),trivial⟩)⟩)⟩ (bG.le (st':=⟨(acj x1 u1 u0 u2 x2 u7 u8 u9 v0 v1 v2 x3 u4),(sZ v5)⟩) ⟨⟨tR,tR,tR,tR,tR,tR,tR,⟨_,rfl,cu.v (dm.one (cK.of (congrArg (fun b=>CV.d (.bool b)) (DL hb))))⟩,trivial⟩,(.refl _)⟩) ?_
    refine cn (aP (rz tT (ahl x1 u1 u0 u2 x2 u7 u8 u9 v0 v1 v2 x3 u4 v5) {} [] ?_))
    obtain rfl:=oi h
    exact lN
  ·refine cf hb1 ?_
   refine aI (fz (ag4 x1 u1 u0 u2 x2 u7 u8 u9 v0 v1 v2 x3 v5) []) ?_
   refine aX ?_
   obtain rfl:=oi h
   exact lB
 ·clear hy
  cases y with
  |brk z=>
   obtain⟨w1,rfl⟩: ∃q,q=z:=⟨_,rfl⟩
   unfold dU
   refine⟨_, .refl, ?_⟩
   refine aQ (sz tT ⟨(ag2 x1 u1 u0 u2 x2 u7 u8 u9 v0 v1 v2 x3),(sZ w1)⟩ {} [] ?_)
   refine bE h fun y1 hy h=> ?_
   refine aL [] (uH x1 u1 u0 u2 x2 u7 u8 u9 v0 v1 v2 x3) (uJ x1 u1 u0 u2 x3) eT hy (fun s f h=> ?_) ?_
   ·clear hy
    show bn _ _ _ _ _ _ ((DK x1 u1 u0 u2 x2 u7 u8 u9 v0 v1 v2 x3) f) _
    unfold uE at h
    obtain⟨v6,u3⟩:=s
    refine sz tT ⟨(aeZ x1 u1 u0 u2 x2 u7 u8 u9 v0 v1 v2 x3 u3),(sZ v6)⟩ {} [] ?_
    refine aQ ?_
    refine bI h (fun hb3 h=> ?_) (fun hb3 h=> ?_)
    ·refine ct hb3 ?_
     refine aP (aQ (aB (aQ (aO h fun a1 h=> ?_))))
     refine rg tT ⟨(agw x1 u1 u0 u2 x2 u7 u8 u9 v0 v1 v2 x3 u3),(sZ v6)⟩ [_] {fr:=[(3,49)] } [49] ⟨a1,trivial⟩ ?_
     refine aQ (bE h fun u5 hr_2 h=> ?_)
     refine bI h (fun hb2 h=> ?_) (fun hb2 h=> ?_)
     ·skip
      refine bE h fun v9 hr_3 h=> ?_
      refine aO h fun⟨a1,a2⟩ h=> ?_
      have q0:=dI (⟨x1,u1,u0,u2⟩:ah) (⟨x2,u7,u8,u9,v0,v1,v2⟩:State) u3 hr_2
      refine di tT mX ⟨(abW x1 u1 u0 u2 x2 u7 u8 u9 v0 v1 v2 x3 u3 u5),(adx v9)⟩ (_::(eqs u5 4 ((agG u0 x3 u3 u5)::(eqs u5 5 ((afQ u0 x3 u3 u5)::(eqs u5 3 [(tQ u0 x3 u3 u5)=true,(tQ u0 x3 u3 u5)=true,(tQ u0 x3 u3 u5)=true,(tQ u0 x3 u3 u5)=true,(tQ u0 x3 u3 u5)=true,(tQ u0 x3 u3 u5)=true,gP (UE u5) [(17,true)]→All [Yl Try.prog 0 [(.agg [(cI 3),(cI u3)]),(sI ((at' u0 u3.toNat).most))] (acN v6) (vB true) (agY v9)],gP (UE u5) [(17,true)],(tQ u0 x3 u3 u5)=true,(tQ u0 x3 u3 u5)=true])))))) {yb:=[(4,u5),(17,true)],an:=[(3,cA q0 []),(23, .call [0,1,37] (vB true) (agY v9))] } [] ⟨q0,(ae ⟨(fun hg=> ⟨(a1 (aN hg)),trivial⟩),(ae ⟨(fun hg=> ⟨(a2 (aN hg)),trivial⟩),(ae ⟨(hb2),(hb2),(hb2),(hb2),(hb2),(hb2),(fun hg=> ⟨(yK [(2,37),(3,50)] (mU 3 u3 ((at' u0 u3.toNat).most) v6 hr_3)),trivial⟩),(⟨rfl,trivial⟩),(hb2),(hb2),trivial⟩)⟩)⟩)⟩ (bG.le (st':=⟨(abG x1 u1 u0 u2 x2 u7 u8 u9 v0 v1 v2 x3 u3),(adx v9)⟩) ⟨⟨tR,tR,tR,tR,tR,tR,tR,⟨_,rfl,cu.v (dm.one (cK.of (congrArg (fun b=>CV.d (.bool b)) (DC hb2))))⟩,trivial⟩,(.refl _)⟩) ?_
      refine cn (aP (ri tT ⟨(adt x1 u1 u0 u2 x2 u7 u8 u9 v0 v1 v2 x3 u3),(adx v9)⟩ [] {} [] trivial (bG.fin (st':=(aiI x1 u1 u0 u2 x2 u7 u8 u9 v0 v1 v2 x3 u3 v9)) (cs:=[]) ⟨[],[(0,0),(1,1),(2,2),(50,37)]⟩ [0,1,2,3,43,44,45] (by kernel_rfl) trivial) ?_))
      obtain rfl:=oi h
      exact lN
     ·skip
      refine aO h fun⟨a1,a2⟩ h=> ?_
      have q0:=dI (⟨x1,u1,u0,u2⟩:ah) (⟨x2,u7,u8,u9,v0,v1,v2⟩:State) u3 hr_2
      refine di tT mX ⟨(abW x1 u1 u0 u2 x2 u7 u8 u9 v0 v1 v2 x3 u3 u5),(sZ v6)⟩ (_::(afD u0 x3 u3 u5)) {yb:=[(4,u5),(17,false)],an:=[(3,cA q0 []),(18, .skip),(19, .skip),(20, .skip),(21, .skip),(22, .skip),(23, .skip),(24, .skip)] } [] ⟨q0,(ae ⟨(fun hg=> ⟨(a1 (aN hg)),trivial⟩),(ae ⟨(fun hg=> ⟨(a2 (aN hg)),trivial⟩),(ae ⟨(hb2),((fun h=>Bool.noConfusion (show false=true from h.1))),(hb2),((fun h=>Bool.noConfusion (show false=true from h.1))),(hb2),((fun h=>Bool.noConfusion (show false=true from h.1))),(hb2),((fun h=>Bool.noConfusion (show false=true from h.1))),(hb2),((fun h=>Bool.noConfusion (show false=true from h.1))),(hb2),((fun h=>Bool.noConfusion (show false=true from h.1))),(hb2),((fun h=>Bool.noConfusion (show false=true from h.1))),(hb2),trivial⟩)⟩)⟩)⟩ (bG.le (st':=⟨(abG x1 u1 u0 u2 x2 u7 u8 u9 v0 v1 v2 x3 u3),(sZ v6)⟩) ⟨⟨tR,tR,tR,tR,tR,tR,tR,⟨_,rfl,cu.v (dm.one (cK.of (congrArg (fun b=>CV.d (.bool b)) (DL hb2))))⟩,trivial⟩,(.refl _)⟩) ?_
      refine cn (aP (rz tT (aiI x1 u1 u0 u2 x2 u7 u8 u9 v0 v1 v2 x3 u3 v6) {} [] ?_))
      obtain rfl:=oi h
      exact lN
    ·refine cf hb3 ?_
     refine aI (fz (afn x1 u1 u0 u2 x3 v6) []) ?_
     refine aX ?_
     obtain rfl:=oi h
     exact lB
   ·clear hy
    cases y1 with
    |brk z=>
     obtain⟨w2,rfl⟩: ∃q,q=z:=⟨_,rfl⟩
     unfold dU
     refine⟨_, .refl, ?_⟩
     refine sz tT ⟨(ajk u2 x3),(sZ w2)⟩ {} [] ?_
     refine bE h fun y2 hy h=> ?_
     refine aL [] (uG u2 x3) uL eT hy (fun s f h=> ?_) ?_
     ·clear hy
      show bn _ _ _ _ _ _ ((DT u2 x3) f) _
      unfold uh at h
      obtain⟨v4,u6⟩:=s
      refine sz tT ⟨(agb u2 x3 u6),(sZ v4)⟩ {} [] ?_
      refine aQ ?_
      refine bI h (fun hb5 h=> ?_) (fun hb5 h=> ?_)
      ·refine ct hb5 ?_
       refine aP (aQ (aB (aQ (aO h fun a1 h=> ?_))))
       refine rg tT ⟨(ae7 u2 x3 u6),(sZ v4)⟩ [_] {fr:=[(3,57)] } [57] ⟨a1,trivial⟩ ?_
       refine aQ (bE h fun v3 hr_4 h=> ?_)
       refine rg tT ⟨(afV u2 x3 u6 v3),(sZ v4)⟩ [Fn Try.prog 67 [(sD (.sl (some true) 1 [(L6 u2 u6).e0,(L6 u2 u6).e1].length (fun i j=>((adV u2 u6).getD (0+(0+(i*1+j))) .nilp)))),(sD (.fn 125 1 (Ve x3)))] [] (vB v3) []] {an:=[(3, .call [] (vB v3) [])] } [] ⟨(Fn.leH (args:=(ai4 u2 x3 u6)) (hin:=[]) (ko [(L6 u2 u6).e0,(L6 u2 u6).e1] x3 hr_4) ⟨dm.one (cK.d (fo.sl (.inl rfl) (by intro i hi j hj;match i,j,hi,hj with|0,0,_,_=>exact .refl _|1,0,_,_=>exact .refl _))),dm.refl _,trivial⟩ trivial),trivial⟩ ?_
       refine aQ ?_
       refine bI h (fun hb4 h=> ?_) (fun hb4 h=> ?_)
       ·skip
        refine bE h fun w0 hr_5 h=> ?_
        refine ri tT ⟨(aci u2 x3 u6 v3),(abI w0)⟩ [v3=true,v3=true,v3=true,v3=true,v3=true,v3=true,gP (gG [(1,true)]) [(1,true)]→All [Yl Try.prog 0 [(.agg [(cI 0),(cI u6)]),(sI ((at' u2 u6.toNat).power))] (acN v4) (vB true) (agd w0)],gP (gG [(1,true)]) [(1,true)],v3=true,v3=true] {yb:=[(1,true)],an:=[(7, .call [0,1,37] (vB true) (agd w0))] } [] ⟨(hb4),(hb4),(hb4),(hb4),(hb4),(hb4),(fun hg=> ⟨(yK [(2,37),(3,58)] (mU 0 u6 ((at' u2 u6.toNat).power) v4 hr_5)),trivial⟩),(⟨rfl,trivial⟩),(hb4),(hb4),trivial⟩ (bG.le (st':=⟨(abu u2 x3 u6),(abI w0)⟩) ⟨⟨tR,tR,tR,tR,tR,⟨_,rfl,cu.v (dm.one (cK.of (congrArg (fun b=>CV.d (.bool b)) (DC hb4))))⟩,trivial⟩,(.refl _)⟩) ?_
        refine cn (aP (ri tT ⟨(abM u2 x3 u6),(abI w0)⟩ [] {} [] trivial (bG.fin (st':=(ajt u2 x3 u6 w0)) (cs:=[]) ⟨[],[(0,0),(1,1),(2,2),(58,37)]⟩ [0,3,78,79,80] (by kernel_rfl) trivial) ?_))
        obtain rfl:=oi h
        exact lN
       ·skip
        refine ri tT ⟨(aci u2 x3 u6 v3),(sZ v4)⟩ [v3=false, ¬ gP (gG [(1,false)]) [(1,true)],v3=false, ¬ gP (gG [(1,false)]) [(1,true)],v3=false, ¬ gP (gG [(1,false)]) [(1,true)],v3=false, ¬ gP (gG [(1,false)]) [(1,true)],v3=false, ¬ gP (gG [(1,false)]) [(1,true)],v3=false, ¬ gP (gG [(1,false)]) [(1,true)],v3=false, ¬ gP (gG [(1,false)]) [(1,true)],v3=false] {yb:=[(1,false)],an:=[(2, .skip),(3, .skip),(4, .skip),(5, .skip),(6, .skip),(7, .skip),(8, .skip)] } [] ⟨(hb4),((fun h=>Bool.noConfusion (show false=true from h.1))),(hb4),((fun h=>Bool.noConfusion (show false=true from h.1))),(hb4),((fun h=>Bool.noConfusion (show false=true from h.1))),(hb4),((fun h=>Bool.noConfusion (show false=true from h.1))),(hb4),((fun h=>Bool.noConfusion (show false=true from h.1))),(hb4),((fun h=>Bool.noConfusion (show false=true from h.1))),(hb4),((fun h=>Bool.noConfusion (show false=true from h.1))),(hb4),trivial⟩ (bG.le (st':=⟨(abu u2 x3 u6),(sZ v4)⟩) ⟨⟨tR,tR,tR,tR,tR,⟨_,rfl,cu.v (dm.one (cK.of (congrArg (fun b=>CV.d (.bool b)) (DL hb4))))⟩,trivial⟩,(.refl _)⟩) ?_
        refine cn (aP (rz tT (ajt u2 x3 u6 v4) {} [] ?_))
        obtain rfl:=oi h
        exact lN
      ·refine cf hb5 ?_
       refine aI (fz ⟨[],(sZ v4)⟩ []) ?_
       refine aX ?_
       obtain rfl:=oi h
       exact lB
     ·clear hy
      cases y2 with
      |brk z=>
       obtain⟨o905,rfl⟩: ∃q,q=z:=⟨_,rfl⟩
       unfold dU
       refine⟨_,(bG.fin (st':=⟨[],[DI,(1,some (.cells 80 [(.own 3 false o905.length)])),(2,none),(3,some (bO 117 2 Part.cell o905))]⟩) (cs:=[]) ⟨[],[(0,0),(1,1),(2,2),(37,3)]⟩ [] (by kernel_rfl) trivial), ?_⟩
       obtain rfl:=oi h
       exact aU.mk (.inl rfl) (p:=[]) (l:=[]) (by kernel_rfl) trivial (cu.refl _) (hN 2 ⟨rfl,trivial,(.refl _)⟩)
      |ret v=>
       obtain rfl:=oi h
       unfold dU
       intro e st hn ha hR
       cases e with
       |normal=>exact absurd rfl hn
       |exit id=>exact hR
       |goto l=>exact hR
       |ret=>exact hR
       |panic c=>exact hR
       |outgrown=>exact hR
    |ret v=>
     obtain rfl:=oi h
     unfold dU
     intro e st hn ha hR
     cases e with
     |normal=>exact absurd rfl hn
     |exit id=>exact hR
     |goto l=>exact hR
     |ret=>exact hR
     |panic c=>exact hR
     |outgrown=>exact hR
  |ret v=>
   obtain rfl:=oi h
   unfold dU
   intro e st hn ha hR
   cases e with
   |normal=>exact absurd rfl hn
   |exit id=>exact hR
   |goto l=>exact hR
   |ret=>exact hR
   |panic c=>exact hR
   |outgrown=>exact hR
def Ll  :((List Part) × Int)→Exit→St→Prop:=
  fun r=>aU TT [.tmp 4, .tmp 5] (.gK [(sD (aJ none 2 Part.cell r.1)),(sI r.2)]) []
section
variable (p:ah) (s_:State) (r_:(aA × (List Bool) × Int)) (u0:(Int × (List Source) × (List Link) × (List ay) × (List Bool) × (List Bool) × (List Bool) × (List Bool) × (List Bool) × (List Bool) × (List Bool) × (List Bool)))
abbrev abj:St:=⟨[(jH p),(jY s_)],[]⟩
abbrev Ld:DV:=(aJ none 1 ai r_.2.1)
abbrev abC:List (Nat × TV):=[(jH p),(jY s_),(7,(vD (Ld r_))),(9,(vP 20 0))]
abbrev agm:List (Nat × Option Ob):=[(20,some (.cells 80 [(.own 21 false (([]:List Part).length))])),(21,some (bO 117 2 Part.cell ([]:List Part)))]
abbrev Z9:DV:=(mg [(.int .i64 u0.1),(aJ none 5 Source.cell u0.2.1),(aJ none 6 Link.cell u0.2.2.1),(aJ none 4 ay.cell u0.2.2.2.1)] 0)
abbrev ZJ:DV:=(mg [(aJ none 1 ai u0.2.2.2.2.1),(aJ none 1 ai u0.2.2.2.2.2.1),(aJ none 1 ai u0.2.2.2.2.2.2.1),(aJ none 1 ai u0.2.2.2.2.2.2.2.1),(aJ none 1 ai u0.2.2.2.2.2.2.2.2.1),(aJ none 1 ai u0.2.2.2.2.2.2.2.2.2.1),(aJ none 1 ai u0.2.2.2.2.2.2.2.2.2.2.1)] 0)
abbrev Yu:DV:=(mg [(aJ none 1 ai u0.2.2.2.2.2.2.2.2.2.2.2)] 0)
abbrev YX:TV:=(vD (.fn 124 3 (nT [(Z9 u0),(ZJ u0),(Yu u0)])))
abbrev af0:List (Nat × TV):=[(9,(vP 20 0)),(24,(YX u0))]
abbrev afy:List CV:=[(.d (Z9 u0)),(.d (ZJ u0)),(.d (Yu u0))]
end
theorem I6 (p:ah) (s_:State) {r:((List Part) × Int)} (h:Am p s_=some r):Fn Try.prog 33 (k92 s_ p) [] (.gK [(sD (aJ none 2 Part.cell r.1)),(sI r.2)]) []:=by
 refine fN tT Try.func33 rfl rfl fun B=> ?_
 show bn _ _ _ _ _ _ (Ll r) _
 unfold Am at h
 refine sz tT (abj p s_) {fr:=[(0,12),(1,13)] } [12,13] ?_
 refine aQ (bE h fun r_ hr_ h=> ?_)
 have q0:=rk [(0,14),(1,15),(2,16),(3,17),(4,18)] (vE p s_ hr_)
 refine rg tT ⟨[(jH p),(jY s_),(7,(vD (Ld r_))),(8,(vI r_.2.2))],[]⟩ [_,r_.2.1.length=r_.2.1.length] {an:=[(2,cA q0 [])],fr:=[(7,19)] } [17] ⟨q0,rfl,trivial⟩ ?_
 refine aQ (sz tT ⟨[(jH p),(jY s_),(7,(vD (Ld r_))),(8,(vI r_.2.2)),(19,(vB (!decide (r_.2.2=0))))],[]⟩ {} [] ?_)
 refine bI h (fun hb h=> ?_) (fun hb h=> ?_)
 ·refine ct hb ?_
  refine sz tT ⟨[(4,(vD nS)),(5,(vI r_.2.2))],[]⟩ {} [] ?_
  refine aI (bG.le (st':=⟨[(4,(vD (aJ none 2 Part.cell ([]:List Part)))),(5,(vI r_.2.2))],[]⟩) ⟨⟨⟨_,rfl,cu.v (dm.one (cK.d fo.nil'))⟩,tR,trivial⟩,trivial⟩) ?_
  refine aR ?_
  obtain rfl:=oi h
  exact rl [(sD (aJ none 2 Part.cell ([]:List Part))),(sI r_.2.2)]
 ·refine cf hb ?_
  refine aP (si tT ⟨(abC p s_ r_),[(20,some (.cells 80 [(.d nS)]))]⟩ [] {fr:=[(0,20)] } [] trivial (.trans (bG.Aj (E:=0) (esz:=0) (E0:=80) (cs:=[(.d nS)]) (p:=20) (q:=0) (b:=21) (esz0:=0) (el0:=fun _ _=> .nilp) (ob:= .arr 117 2 0 (au Part.cell ([]:List Part))) (fun _ _ _ _ h=> .inl ⟨h,rfl⟩) (by kernel_rfl) (by kernel_rfl) (by kernel_rfl)) (.trans (fz ⟨(abC p s_ r_),[(20,some (.cells 80 [(.own 21 false 0)])),(21,some (.arr 117 2 0 (au Part.cell ([]:List Part))))]⟩ []) (bG.le (st':=⟨(abC p s_ r_),agm⟩) ⟨⟨tR,tR,tR,tR,trivial⟩,⟨rfl,bB ⟨cW,trivial⟩,⟨rfl,oW,trivial⟩⟩⟩))) ?_)
  refine aQ (aQ (bE h fun u0 hr_1 h=> ?_))
  have q0:=xS p s_ r_.2.1 hr_1
  refine rg tT ⟨(af0 u0),agm⟩ [_] {an:=[(3,cA q0 [])] } [] ⟨q0,trivial⟩ ?_
  refine aB (bE h fun u1 hr_2 h=> ?_)
  refine jG 22 [(9,(vP 20 0))] [] [22,20,21] (.gK []) [(22,some (.loop gN 0 [(9,(vP 20 0))])),(20,some (.cells 80 [(.own 23 false u1.length)])),(21,none),(23,some (Fp u1))] (YX u0) 124 [] (afy u0) [(22,some (.loop gN 0 [(9,(vP 20 0))])),(20,some (.cells 80 [(.own 21 false (([]:List Part).length))])),(21,some (bO 117 2 Part.cell ([]:List Part)))] [(.one (.yl 22)),(sD (Z9 u0)),(sD (ZJ u0)),(sD (Yu u0))] gN 0 [(9,(vP 20 0))] (by kernel_rfl) (by kernel_rfl) (by kernel_rfl) (by kernel_rfl) (by kernel_rfl) (by kernel_rfl) (by kernel_rfl) (rK [(0,22),(1,20),(2,21),(3,23)] (DY u0.1 u0.2.1 u0.2.2.1 u0.2.2.2.1 u0.2.2.2.2.1 u0.2.2.2.2.2.1 u0.2.2.2.2.2.2.1 u0.2.2.2.2.2.2.2.1 u0.2.2.2.2.2.2.2.2.1 u0.2.2.2.2.2.2.2.2.2.1 u0.2.2.2.2.2.2.2.2.2.2.1 u0.2.2.2.2.2.2.2.2.2.2.2 ([]:List Part) hr_2)) (by kernel_rfl) rfl (EG.zero rfl) (bG.fin (st':=⟨(af0 u0),[(20,some (.cells 80 [(.own 23 false u1.length)])),(21,none),(23,some (Fp u1))]⟩) (cs:=[]) ⟨[],[(20,20),(21,21),(23,23)]⟩ [9,24] (by kernel_rfl) trivial) ?_
  refine sg tT ⟨[(4,(vD (aJ none 2 Part.cell u1))),(5,(vI 0))],[]⟩ [u1.length=u1.length] {} [23] ⟨rfl,trivial⟩ ?_
  refine aR ?_
  obtain rfl:=oi h
  exact rl [(sD (aJ none 2 Part.cell u1)),(sI 0)]
def sU  :Int→Exit→St→Prop:=
  fun r=>aU TT [.tmp 2] (vI r) []
section
variable (x:aA)
abbrev Vj:Nat × TV:=(7,(vD (aJ none 2 af.cell x.racks)))
abbrev Vn:Nat × TV:=(8,(vI (x.racks.length:Int)))
end
def zD (x:aA):(Int × Int)→St:=
  fun zz=>match zz with|(n,t9)=> ⟨[(3,(vI n)),(Vj x),(Vn x),(9,(vI t9))],[]⟩
def zB  :Int→St:=
  fun n1=> ⟨[(3,(vI n1))],[]⟩
def Ie (x:aA):(aK (Int × Int) (Ex Int Int))→Exit→St→Prop:=
  LQ 0 [] (zD x) zB sU
section
variable (x:aA) (t9:Int) (n:Int)
abbrev Zj:List CV:=[(.d (aJ none 1 (aj .i64) x.sources)),(.d (aJ none 1 (aj .i64) x.links)),(.d (aJ none 2 af.cell x.racks))]
abbrev aes:List SV:=[(.agg (Zj x))]
abbrev adh:Ob:=(.cells 77 (Zj x))
abbrev aiT:List (Nat × Option Ob):=[(5,some (adh x))]
abbrev ad6:TV:=(vD (mg [(.int .i64 ((at' x.racks t9.toNat).e0)),(.int .i64 ((at' x.racks t9.toNat).e1))] 0))
abbrev ah9:Nat × TV:=(3,(vI (IntKind.wrap .i64 (n+(IntKind.wrap .i64 (((at' x.racks t9.toNat).e0)+((at' x.racks t9.toNat).e1)))))))
end
theorem eY (x:aA) {r:Int} (h:kK x=some r):Fn Try.prog 41 (aes x) [] (vI r) []:=by
 refine fN tT Try.func41 rfl rfl fun B=> ?_
 show bn _ _ _ _ _ _ (sU r) _
 unfold kK at h
 refine sz tT ⟨[(1,(vP 5 0))],(aiT x)⟩ {fr:=[(0,5)] } [] ?_
 refine sz tT ⟨[(1,(vP 5 0)),(3,(vI 0))],(aiT x)⟩ {} [] ?_
 refine aQ (sz tT ⟨[(3,(vI 0)),(Vj x),(Vn x),(9,(vI 0))],[]⟩ {} [] ?_)
 refine bE h fun y hy h=> ?_
 refine aL [] (zD x) zB sU hy (fun s f h=> ?_) ?_
 ·clear hy
  show bn _ _ _ _ _ _ ((Ie x) f) _
  unfold zJ at h
  obtain⟨n,t9⟩:=s
  refine sz tT ⟨[(3,(vI n)),(Vj x),(Vn x),(9,(vI t9)),(10,(vB (decide (t9<(x.racks.length:Int)))))],[]⟩ {} [] ?_
  refine aQ ?_
  refine bI h (fun hb h=> ?_) (fun hb h=> ?_)
  ·refine ct hb ?_
   refine aP (aQ (aB (aQ (aO h fun a1 h=> ?_))))
   refine rg tT ⟨[(3,(vI n)),(5,(ad6 x t9)),(Vj x),(Vn x),(9,(vI t9))],[]⟩ [_] {fr:=[(2,9)] } [9] ⟨a1,trivial⟩ ?_
   refine rg tT ⟨[(ah9 x t9 n),(Vj x),(Vn x),(9,(vI t9))],[]⟩ [(0:Int)≤0∧(0:Int)<(2:Nat),(0:Int)≤1∧(1:Int)<(2:Nat)] {} [] ⟨((by decide)),((by decide)),trivial⟩ ?_
   refine rz tT ⟨[(ah9 x t9 n),(Vj x),(Vn x),(9,(k28 t9))],[]⟩ {} [] ?_
   obtain rfl:=oi h
   exact lN
  ·refine cf hb ?_
   refine aI (fz ⟨[(3,(vI n))],[]⟩ []) ?_
   refine aX ?_
   obtain rfl:=oi h
   exact lB
 ·clear hy
  cases y with
  |brk z=>
   obtain⟨n1,rfl⟩: ∃q,q=z:=⟨_,rfl⟩
   unfold dU
   refine⟨_, .refl, ?_⟩
   refine sz tT ⟨[(2,(vI n1))],[]⟩ {} [] ?_
   refine aR ?_
   obtain rfl:=oi h
   exact rl [(sI n1)]
  |ret v=>
   obtain rfl:=oi h
   unfold dU
   intro e st hn ha hR
   cases e with
   |normal=>exact absurd rfl hn
   |exit id=>exact hR
   |goto l=>exact hR
   |ret=>exact hR
   |panic c=>exact hR
   |outgrown=>exact hR
def yP  :(Bool × Int)→Exit→St→Prop:=
  fun r=>aU TT [.tmp 4, .tmp 5] (.gK [(sB r.1),(sI r.2)]) []
section
variable (r_:(aA × (List Bool) × Int)) (p:ah)
abbrev aiv:TV:=(vD (mg [(aJ none 1 (aj .i64) r_.1.sources),(aJ none 1 (aj .i64) r_.1.links),(aJ none 2 af.cell r_.1.racks)] 0))
abbrev LY:Nat × TV:=(6,(aiv r_))
abbrev Uo:Nat × TV:=(23,(vD (k2 p)))
abbrev Vx:Nat × TV:=(24,(vI (p.racks.length:Int)))
end
def Cm (p:ah) (r_:(aA × (List Bool) × Int)):(Int × Int)→St:=
  fun zz=>match zz with|(n,u0)=> ⟨[(LY r_),(9,(vI n)),(Uo p),(Vx p),(25,(vI u0))],[]⟩
section
variable (r_:(aA × (List Bool) × Int)) (n1:Int)
abbrev ahB:St:=⟨[(LY r_),(9,(vI n1))],[]⟩
end
def CP (r_:(aA × (List Bool) × Int)):Int→St:=
  fun n1=>(ahB r_ n1)
def J8 (p:ah) (r_:(aA × (List Bool) × Int)):(aK (Int × Int) (Ex Int (Bool × Int)))→Exit→St→Prop:=
  LQ 0 [] (Cm p r_) (CP r_) yP
section
variable (p:ah) (r_:(aA × (List Bool) × Int))
abbrev aeH:Nat × Option Ob:=(12,some (Yh p))
abbrev Y1:List (Nat × Option Ob):=[(aeH p)]
abbrev acR:List CV:=[(.d (aJ none 1 (aj .i64) r_.1.sources)),(.d (aJ none 1 (aj .i64) r_.1.links)),(.d (aJ none 2 af.cell r_.1.racks))]
abbrev agz:Ob:=(.cells 77 (acR r_))
end
theorem Kz (p:ah) (s_:State) {r:(Bool × Int)} (h:CG p s_=some r):Fn Try.prog 34 (k92 s_ p) [] (.gK [(sB r.1),(sI r.2)]) []:=by
 refine fN tT Try.func34 rfl rfl fun B=> ?_
 show bn _ _ _ _ _ _ (yP r) _
 unfold CG at h
 refine sz tT ⟨[(2,(vP 12 0)),(jY s_)],(Y1 p)⟩ {fr:=[(0,12),(1,13)] } [13] ?_
 refine aQ (bE h fun r_ hr_ h=> ?_)
 have q0:=rk [(0,14),(1,15),(2,16),(3,17),(4,18)] (vE p s_ hr_)
 refine ri tT ⟨[(2,(vP 12 0)),(6,(vP 19 0)),(8,(vI r_.2.2))],[(aeH p),(19,some (agz r_))]⟩ [_,r_.1.sources.length=r_.1.sources.length,r_.1.links.length=r_.1.links.length,r_.1.racks.length=r_.1.racks.length] {an:=[(2,cA q0 [])],fr:=[(7,19)] } [14,15,16] ⟨q0,rfl,rfl,rfl,trivial⟩ (fz ⟨[(2,(vP 12 0)),(LY r_),(8,(vI r_.2.2))],(Y1 p)⟩ [19]) ?_
 refine aQ (sz tT ⟨[(2,(vP 12 0)),(LY r_),(8,(vI r_.2.2)),(20,(vB (!decide (r_.2.2=0))))],(Y1 p)⟩ {} [] ?_)
 refine bI h (fun hb1 h=> ?_) (fun hb1 h=> ?_)
 ·refine ct hb1 ?_
  refine sz tT ⟨[(4,(vB false)),(5,(vI r_.2.2))],[]⟩ {} [] ?_
  refine aR ?_
  obtain rfl:=oi h
  exact rl [(sB false),(sI r_.2.2)]
 ·refine cf hb1 ?_
  refine aP (sz tT ⟨[(2,(vP 12 0)),(LY r_),(9,(vI 0))],(Y1 p)⟩ {} [] ?_)
  refine aQ (sz tT ⟨[(LY r_),(9,(vI 0)),(Uo p),(Vx p),(25,(vI 0))],[]⟩ {} [] ?_)
  refine bE h fun y hy h=> ?_
  refine aL [] (Cm p r_) (CP r_) yP hy (fun s f h=> ?_) ?_
  ·clear hy
   show bn _ _ _ _ _ _ ((J8 p r_) f) _
   unfold C8 at h
   obtain⟨n,u0⟩:=s
   refine sz tT ⟨[(LY r_),(9,(vI n)),(Uo p),(Vx p),(25,(vI u0)),(26,(vB (decide (u0<(p.racks.length:Int)))))],[]⟩ {} [] ?_
   refine aQ ?_
   refine bI h (fun hb h=> ?_) (fun hb h=> ?_)
   ·refine ct hb ?_
    refine aP (aQ (aB (aQ (aO h fun a1 h=> ?_))))
    refine rg tT ⟨[(LY r_),(9,(vI n)),(11,(ahf p u0)),(Uo p),(Vx p),(25,(vI u0))],[]⟩ [_] {fr:=[(2,23)] } [23] ⟨a1,trivial⟩ ?_
    refine rz tT ⟨[(LY r_),(9,(vI (IntKind.wrap .i64 (n+(RV p u0))))),(Uo p),(Vx p),(25,(vI u0))],[]⟩ {} [] ?_
    refine rz tT ⟨[(LY r_),(9,(vI (IntKind.wrap .i64 (n+(RV p u0))))),(Uo p),(Vx p),(25,(k28 u0))],[]⟩ {} [] ?_
    obtain rfl:=oi h
    exact lN
   ·refine cf hb ?_
    refine aI (fz (ahB r_ n) []) ?_
    refine aX ?_
    obtain rfl:=oi h
    exact lB
  ·clear hy
   cases y with
   |brk z=>
    obtain⟨n1,rfl⟩: ∃q,q=z:=⟨_,rfl⟩
    unfold dU
    refine⟨_, .refl, ?_⟩
    refine aQ (bE h fun u1 hr_1 h=> ?_)
    have q0:=eY r_.1 hr_1
    refine rg tT ⟨[(4,(vB (decide (u1=n1)))),(5,(vI 0))],[]⟩ [_] {an:=[(1,cA q0 [])] } [] ⟨q0,trivial⟩ ?_
    refine aR ?_
    obtain rfl:=oi h
    exact rl [(sB (decide (u1=n1))),(sI 0)]
   |ret v=>
    obtain rfl:=oi h
    unfold dU
    intro e st hn ha hR
    cases e with
    |normal=>exact absurd rfl hn
    |exit id=>exact hR
    |goto l=>exact hR
    |ret=>exact hR
    |panic c=>exact hR
    |outgrown=>exact hR
def qa  :Bool→Exit→St→Prop:=
  fun r=>aU TT [.tmp 4] (vB r) []
section
variable (a:(List Part)) (b:(List Part))
abbrev RY:Nat × TV:=(0,(vD (aJ none 2 Part.cell a)))
abbrev SS:Nat × TV:=(1,(vD (aJ none 2 Part.cell b)))
end
def wz (a:(List Part)) (b:(List Part)):Int→St:=
  fun i=> ⟨[(RY a),(SS b),(5,(vI i))],[]⟩
def wD  :Unit→St:=
  fun _=> ⟨[],[]⟩
def Ez (a:(List Part)) (b:(List Part)):(aK Int (Ex Unit Bool))→Exit→St→Prop:=
  LQ 0 [] (wz a b) wD qa
theorem wJ (a:(List Part)) (b:(List Part)) {r:Bool} (h:oH a b=some r):Fn Try.prog 38 [(sD (aJ none 2 Part.cell a)),(sD (aJ none 2 Part.cell b))] [] (vB r) []:=by
 refine fN tT Try.func38 rfl rfl fun B=> ?_
 show bn _ _ _ _ _ _ (qa r) _
 unfold oH at h
 refine sz tT ⟨[(RY a),(SS b)],[]⟩ {} [] ?_
 refine aQ (sz tT ⟨[(RY a),(SS b),(10,(vB (!decide ((a.length:Int)=(b.length:Int)))))],[]⟩ {} [] ?_)
 refine bI h (fun hb2 h=> ?_) (fun hb2 h=> ?_)
 ·refine ct hb2 ?_
  refine sz tT ⟨[(4,(vB false))],[]⟩ {} [] ?_
  refine aR ?_
  obtain rfl:=oi h
  exact rl [(sB false)]
 ·refine cf hb2 ?_
  refine aP (aQ (sz tT ⟨[(RY a),(SS b),(5,(vI 0))],[]⟩ {} [] ?_))
  refine bE h fun y hy h=> ?_
  refine aL [] (wz a b) wD qa hy (fun s f h=> ?_) ?_
  ·clear hy
   show bn _ _ _ _ _ _ ((Ez a b) f) _
   unfold wV at h
   obtain⟨i,rfl⟩: ∃q,q=s:=⟨_,rfl⟩
   refine aQ (sz tT ⟨[(RY a),(SS b),(5,(vI i)),(14,(vB (decide (i<(a.length:Int)))))],[]⟩ {} [] ?_)
   refine bI h (fun hb1 h=> ?_) (fun hb1 h=> ?_)
   ·refine ct hb1 ?_
    refine aP (aQ (aB (aQ (aO h fun⟨a1,a2⟩ h=> ?_))))
    refine dg tT mX ⟨[(RY a),(SS b),(5,(vI i)),(25,(vB (!((decide (((at' a i.toNat).kind)=((at' b i.toNat).kind))) && ((decide (((at' a i.toNat).index)=((at' b i.toNat).index))) && true)))))],[]⟩ [_,_] {} [] ⟨a1,a2,trivial⟩ ?_
    refine bI h (fun hb h=> ?_) (fun hb h=> ?_)
    ·refine ct hb ?_
     refine sz tT ⟨[(4,(vB false))],[]⟩ {} [] ?_
     refine aR ?_
     obtain rfl:=oi h
     exact lR bS (bT 0) bR (aU.mk (.inr rfl) (p:=[]) (l:=[(sB false)]) (by kernel_rfl) trivial (cu.refl _) trivial)
    ·refine cf hb ?_
     refine aP (rz tT ⟨[(RY a),(SS b),(Ru i)],[]⟩ {} [] ?_)
     obtain rfl:=oi h
     exact lN
   ·refine cf hb1 ?_
    refine aI (fz ⟨[],[]⟩ []) ?_
    refine aX ?_
    obtain rfl:=oi h
    exact lB
  ·clear hy
   cases y with
   |brk z=>
    unfold dU
    refine⟨_, .refl, ?_⟩
    refine sz tT ⟨[(4,(vB true))],[]⟩ {} [] ?_
    refine aR ?_
    obtain rfl:=oi h
    exact rl [(sB true)]
   |ret v=>
    obtain rfl:=oi h
    unfold dU
    intro e st hn ha hR
    cases e with
    |normal=>exact absurd rfl hn
    |exit id=>exact hR
    |goto l=>exact hR
    |ret=>exact hR
    |panic c=>exact hR
    |outgrown=>exact hR
def oP  :Bool→Exit→St→Prop:=
  fun r=>aU TT [.tmp 4] (vB r) []
section
variable (a:(List Bool)) (b:(List Bool))
abbrev R5:Nat × TV:=(0,(Jw a))
abbrev SK:Nat × TV:=(1,(Jw b))
end
def uD (a:(List Bool)) (b:(List Bool)):Int→St:=
  fun i=> ⟨[(R5 a),(SK b),(5,(vI i))],[]⟩
def uI  :Unit→St:=
  fun _=> ⟨[],[]⟩
def Dz (a:(List Bool)) (b:(List Bool)):(aK Int (Ex Unit Bool))→Exit→St→Prop:=
  LQ 0 [] (uD a b) uI oP
theorem nQ (a:(List Bool)) (b:(List Bool)) {r:Bool} (h:ng a b=some r):Fn Try.prog 42 [(sD (aJ none 1 ai a)),(sD (aJ none 1 ai b))] [] (vB r) []:=by
 refine fN tT Try.func42 rfl rfl fun B=> ?_
 show bn _ _ _ _ _ _ (oP r) _
 unfold ng at h
 refine sz tT ⟨[(R5 a),(SK b)],[]⟩ {} [] ?_
 refine aQ (sz tT ⟨[(R5 a),(SK b),(10,(vB (!decide ((a.length:Int)=(b.length:Int)))))],[]⟩ {} [] ?_)
 refine bI h (fun hb2 h=> ?_) (fun hb2 h=> ?_)
 ·refine ct hb2 ?_
  refine sz tT ⟨[(4,(vB false))],[]⟩ {} [] ?_
  refine aR ?_
  obtain rfl:=oi h
  exact rl [(sB false)]
 ·refine cf hb2 ?_
  refine aP (aQ (sz tT ⟨[(R5 a),(SK b),(5,(vI 0))],[]⟩ {} [] ?_))
  refine bE h fun y hy h=> ?_
  refine aL [] (uD a b) uI oP hy (fun s f h=> ?_) ?_
  ·clear hy
   show bn _ _ _ _ _ _ ((Dz a b) f) _
   unfold uz at h
   obtain⟨i,rfl⟩: ∃q,q=s:=⟨_,rfl⟩
   refine aQ (sz tT ⟨[(R5 a),(SK b),(5,(vI i)),(14,(vB (decide (i<(a.length:Int)))))],[]⟩ {} [] ?_)
   refine bI h (fun hb1 h=> ?_) (fun hb1 h=> ?_)
   ·refine ct hb1 ?_
    refine aP (aQ (aB (aQ (aO h fun⟨a1,a2⟩ h=> ?_))))
    refine dg tT mX ⟨[(R5 a),(SK b),(5,(vI i)),(25,(vB (!((at' a i.toNat)==(at' b i.toNat)))))],[]⟩ [_,_] {} [] ⟨a1,a2,trivial⟩ ?_
    refine bI h (fun hb h=> ?_) (fun hb h=> ?_)
    ·refine ct hb ?_
     refine sz tT ⟨[(4,(vB false))],[]⟩ {} [] ?_
     refine aR ?_
     obtain rfl:=oi h
     exact lR bS (bT 0) bR (aU.mk (.inr rfl) (p:=[]) (l:=[(sB false)]) (by kernel_rfl) trivial (cu.refl _) trivial)
    ·refine cf hb ?_
     refine aP (rz tT ⟨[(R5 a),(SK b),(Ru i)],[]⟩ {} [] ?_)
     obtain rfl:=oi h
     exact lN
   ·refine cf hb1 ?_
    refine aI (fz ⟨[],[]⟩ []) ?_
    refine aX ?_
    obtain rfl:=oi h
    exact lB
  ·clear hy
   cases y with
   |brk z=>
    unfold dU
    refine⟨_, .refl, ?_⟩
    refine sz tT ⟨[(4,(vB true))],[]⟩ {} [] ?_
    refine aR ?_
    obtain rfl:=oi h
    exact rl [(sB true)]
   |ret v=>
    obtain rfl:=oi h
    unfold dU
    intro e st hn ha hR
    cases e with
    |normal=>exact absurd rfl hn
    |exit id=>exact hR
    |goto l=>exact hR
    |ret=>exact hR
    |panic c=>exact hR
    |outgrown=>exact hR
noncomputable def dD:oD:=⟨[45,46],Ja ([1,1,1,1,1,0,1,0]++[0]) (nL Try.f45),Ja ([1,1,1,1,1,0,1,0]++[1]) (nL Try.f45),51,[]⟩
abbrev Vu:Nat × Option Ob:=(0,some (.loop dD 0 [(11,(vP 1 0))]))
def Ap  :Int→Exit→St→Prop:=
  fun r=>nJ 0 dD (vB true) [Vu,(1,some (.cells 3 [(cI r)]))]
section
variable (u1:Int)
abbrev kz:List (Nat × Option Ob):=[Vu,(1,some (.cells 3 [(cI u1)]))]
end
theorem jL (u2:Int) (u3:Int) (u0:Int) (u1:Int) {r:Int} (h:fZ u2 u3 u0 u1=some r):Yl Try.prog 0 [(.agg [(cI u2),(cI u3)]),(sI u0)] (kz u1) (vB true) [Vu,(1,some (.cells 3 [(cI r)]))]:=by
 refine Gc (r:=dD) (sl:=[(11,(vP 1 0))]) (sl1:=[(11,(vP 1 0)),(13,(vI u0))]) (h1:=(kz u1)) (sl2:=[(11,(vP 1 0))]) (by kernel_rfl) rfl rfl (by kernel_rfl) (fun rd B=> ?_) (by kernel_rfl) (fun rd B=> ?_)
 ·refine sH (c:=Ja ([1,1,1,1,1,0,1,0]++[0]) (nL Try.f45)) rfl ?_
  refine oU (st:=⟨[(45,(.v (.agg [(cI u2),(cI u3)]))),(46,(vI u0)),(11,(vP 1 0))],(kz u1)⟩) (by kernel_rfl) ?_
  refine rz tT ⟨[(11,(vP 1 0)),(13,(vI u0))],(kz u1)⟩ {} [] ?_
  exact⟨rfl,rfl⟩
 ·refine sH (c:=Ja ([1,1,1,1,1,0,1,0]++[1]) (nL Try.f45)) rfl ?_
  refine oU (st:=⟨[(11,(vP 1 0)),(13,(vI u0))],[(0,some (.loop dD 1 [(11,(vP 1 0))])),(1,some (.cells 3 [(cI u1)]))]⟩) (by kernel_rfl) ?_
  show bn _ _ _ _ _ _ (Ap r) _
  unfold fZ at h
  refine aB (rz tT ⟨[],[(0,some (.loop dD 1 [(11,(vP 1 0))])),(1,some (.cells 3 [(cI (IntKind.wrap .i64 (u1+u0)))]))]⟩ {} [] ?_)
  obtain rfl:=oi h
  exact nJ.on (sl:=[(11,(vP 1 0))]) (by kernel_rfl) (AQ (by kernel_rfl)) (cu.refl _)
def dz  :Int→Exit→St→Prop:=
  fun r=>aU TT [] (.gK []) [Vu,(1,some (.cells 3 [(cI r)]))]
def pR (x1:Int) (u0:(List Source)) (u1:(List Link)) (u2:(List ay)) (x2:(List Bool)) (u3:(List Bool)) (u4:(List Bool)) (u5:(List Bool)) (u6:(List Bool)) (u7:(List Bool)) (u8:(List Bool)) (x3:(List Bool)) (v1:Int):(Int × Int)→St:=
  fun zz=>match zz with|(u9,v0)=> ⟨(ae8 x2 u3 u4 u5 u6 u7 u8 x3 u0 x1 u1 u2 v0),(kz u9)⟩
section
variable (x1:Int) (u0:(List Source)) (u1:(List Link)) (u2:(List ay)) (x2:(List Bool)) (u3:(List Bool)) (u4:(List Bool)) (u5:(List Bool)) (u6:(List Bool)) (u7:(List Bool)) (u8:(List Bool)) (x3:(List Bool)) (u9:Int)
abbrev ajg:St:=⟨(ag8 x1 u0 u1 u2 x2 u3 u4 u5 u6 u7 u8 x3),(kz u9)⟩
end
def qp (x1:Int) (u0:(List Source)) (u1:(List Link)) (u2:(List ay)) (x2:(List Bool)) (u3:(List Bool)) (u4:(List Bool)) (u5:(List Bool)) (u6:(List Bool)) (u7:(List Bool)) (u8:(List Bool)) (x3:(List Bool)) (v0:Int):Int→St:=
  fun u9=>(ajg x1 u0 u1 u2 x2 u3 u4 u5 u6 u7 u8 x3 u9)
def Au (x1:Int) (u0:(List Source)) (u1:(List Link)) (u2:(List ay)) (x2:(List Bool)) (u3:(List Bool)) (u4:(List Bool)) (u5:(List Bool)) (u6:(List Bool)) (u7:(List Bool)) (u8:(List Bool)) (x3:(List Bool)) (u9:Int):(aK (Int × Int) (Ex Int Int))→Exit→St→Prop:=
  LQ 0 [] (pR x1 u0 u1 u2 x2 u3 u4 u5 u6 u7 u8 x3 u9) (qp x1 u0 u1 u2 x2 u3 u4 u5 u6 u7 u8 x3 u9) dz
def pM (x1:Int) (u1:(List Source)) (u0:(List Link)) (u2:(List ay)) (x2:(List Bool)) (u3:(List Bool)) (u4:(List Bool)) (u5:(List Bool)) (u6:(List Bool)) (u7:(List Bool)) (u8:(List Bool)) (x3:(List Bool)) (v1:Int):(Int × Int)→St:=
  fun zz=>match zz with|(u9,v0)=> ⟨(aeK u0 x1 u1 u2 x2 u3 u4 u5 u6 u7 u8 x3 v0),(kz u9)⟩
section
variable (x1:Int) (u0:(List Source)) (u1:(List Link)) (u2:(List ay)) (x3:(List Bool)) (u3:Int)
abbrev agU:St:=⟨(afC x1 u0 u1 u2 x3),(kz u3)⟩
end
def qd (x1:Int) (u0:(List Source)) (u1:(List Link)) (u2:(List ay)) (x3:(List Bool)) (u4:Int):Int→St:=
  fun u3=>(agU x1 u0 u1 u2 x3 u3)
def AZ (x1:Int) (u0:(List Source)) (u1:(List Link)) (u2:(List ay)) (x2:(List Bool)) (u4:(List Bool)) (u5:(List Bool)) (u6:(List Bool)) (u7:(List Bool)) (u8:(List Bool)) (u9:(List Bool)) (x3:(List Bool)) (u3:Int):(aK (Int × Int) (Ex Int Int))→Exit→St→Prop:=
  LQ 2 [] (pM x1 u0 u1 u2 x2 u4 u5 u6 u7 u8 u9 x3 u3) (qd x1 u0 u1 u2 x3 u3) dz
def pX (u0:(List ay)) (x3:(List Bool)):(Int × Int)→St:=
  fun zz=>match zz with|(u1,u2)=> ⟨(agZ u0 x3 u2),(kz u1)⟩
def pY  :Int→St:=
  fun o1105=> ⟨[],[Vu,(1,some (.cells 3 [(cI o1105)]))]⟩
def Ag (u0:(List ay)) (x3:(List Bool)):(aK (Int × Int) (Ex Int Int))→Exit→St→Prop:=
  LQ 4 [] (pX u0 x3) pY dz
section
variable (x1:Int) (u1:(List Source)) (u0:(List Link)) (u2:(List ay)) (x2:(List Bool)) (u7:(List Bool)) (u8:(List Bool)) (u9:(List Bool)) (v0:(List Bool)) (v1:(List Bool)) (v2:(List Bool)) (x3:(List Bool)) (u4:Int) (r_:Bool) (v8:Int) (u3:Int) (u5:Bool) (v9:Int) (u6:Int) (v3:Bool) (w0:Int)
abbrev ags:St:=⟨(adI x1 u1 u0 u2 x2 u7 u8 u9 v0 v1 v2 x3 u4 r_),(kz v8)⟩
abbrev aeL:St:=⟨(acj x1 u1 u0 u2 x2 u7 u8 u9 v0 v1 v2 x3 u4),(kz v8)⟩
abbrev afB:St:=⟨(ab1 x1 u1 u0 u2 x2 u7 u8 u9 v0 v1 v2 x3 u4),(kz v8)⟩
abbrev agF:St:=⟨(abW x1 u1 u0 u2 x2 u7 u8 u9 v0 v1 v2 x3 u3 u5),(kz v9)⟩
abbrev ae4:St:=⟨(abG x1 u1 u0 u2 x2 u7 u8 u9 v0 v1 v2 x3 u3),(kz v9)⟩
abbrev afa:St:=⟨(adt x1 u1 u0 u2 x2 u7 u8 u9 v0 v1 v2 x3 u3),(kz v9)⟩
abbrev afG:St:=⟨(aci u2 x3 u6 v3),(kz w0)⟩
abbrev afu:St:=⟨(abu u2 x3 u6),(kz w0)⟩
abbrev afj:St:=⟨(abM u2 x3 u6),(kz w0)⟩
end
theorem AU (x1:Int) (u1:(List Source)) (u0:(List Link)) (u2:(List ay)) (x2:(List Bool)) (u7:(List Bool)) (u8:(List Bool)) (u9:(List Bool)) (v0:(List Bool)) (v1:(List Bool)) (v2:(List Bool)) (x3:(List Bool)) (v4:Int) {r:Int} (h:nM x1 u1 u0 u2 x2 u7 u8 u9 v0 v1 v2 x3 v4=some r):Fn Try.prog 124 (af6 x1 u1 u0 u2 x2 u7 u8 u9 v0 v1 v2 x3) (kz v4) (.gK []) [Vu,(1,some (.cells 3 [(cI r)]))]:=by
 refine fN tT Try.func124 rfl rfl fun B=> ?_
 show bn _ _ _ _ _ _ (dz r) _
 unfold nM at h
 refine aQ (sz tT ⟨(Ze x1 u1 u0 u2 x2 u7 u8 u9 v0 v1 v2 x3),(kz v4)⟩ {} [] ?_)
 refine bE h fun y hy h=> ?_
 refine aL [] (pR x1 u1 u0 u2 x2 u7 u8 u9 v0 v1 v2 x3 v4) (qp x1 u1 u0 u2 x2 u7 u8 u9 v0 v1 v2 x3 v4) dz hy (fun s f h=> ?_) ?_
 ·clear hy
  show bn _ _ _ _ _ _ ((Au x1 u1 u0 u2 x2 u7 u8 u9 v0 v1 v2 x3 v4) f) _
  unfold p8 at h
  obtain⟨v6,u4⟩:=s
  refine sz tT ⟨(agO x1 u1 u0 u2 x2 u7 u8 u9 v0 v1 v2 x3 u4),(kz v6)⟩ {} [] ?_
  refine aQ ?_
  refine bI h (fun hb1 h=> ?_) (fun hb1 h=> ?_)
  ·refine ct hb1 ?_
   refine aP (aQ (aB (aQ (aO h fun a1 h=> ?_))))
   refine rg tT ⟨(afX x1 u1 u0 u2 x2 u7 u8 u9 v0 v1 v2 x3 u4),(kz v6)⟩ [_] {fr:=[(3,17)] } [17] ⟨a1,trivial⟩ ?_
   refine aQ (bE h fun r_ hr_ h=> ?_)
   refine bI h (fun hb h=> ?_) (fun hb h=> ?_)
   ·skip
    refine bE h fun v8 hr_1 h=> ?_
    refine aO h fun a1 h=> ?_
    have q0:=fE (⟨x1,u1,u0,u2⟩:ah) (⟨x2,u7,u8,u9,v0,v1,v2⟩:State) u4 hr_
    refine ri tT (ags x1 u1 u0 u2 x2 u7 u8 u9 v0 v1 v2 x3 u4 r_ v8) (_::(eqs r_ 4 ((aiL u1 x3 u4 r_)::(eqs r_ 3 [(tZ u1 x3 u4 r_)=true,(tZ u1 x3 u4 r_)=true,(tZ u1 x3 u4 r_)=true,(tZ u1 x3 u4 r_)=true,(tZ u1 x3 u4 r_)=true,(tZ u1 x3 u4 r_)=true,gP (gG [(4,r_),(12,true)]) [(12,true)]→All [Yl Try.prog 0 [(.agg [(cI 2),(cI u4)]),(sI ((at' u1 u4.toNat).power))] (kz v6) (vB true) (kz v8)],gP (gG [(4,r_),(12,true)]) [(12,true)],(tZ u1 x3 u4 r_)=true,(tZ u1 x3 u4 r_)=true])))) {yb:=[(4,r_),(12,true)],an:=[(3,cA q0 []),(18, .call [0,1] (vB true) (kz v8))] } [] ⟨q0,(ae ⟨(fun hg=> ⟨(a1 (aN hg)),trivial⟩),(ae ⟨(hb),(hb),(hb),(hb),(hb),(hb),(fun hg=> ⟨(jL 2 u4 ((at' u1 u4.toNat).power) v6 hr_1),trivial⟩),(⟨rfl,trivial⟩),(hb),(hb),trivial⟩)⟩)⟩ (bG.le (st':=(aeL x1 u1 u0 u2 x2 u7 u8 u9 v0 v1 v2 x3 u4 v8)) ⟨⟨tR,tR,tR,tR,tR,tR,tR,⟨_,rfl,cu.v (dm.one (cK.of (congrArg (fun b=>CV.d (.bool b)) (DC hb))))⟩,trivial⟩,(.refl _)⟩) ?_
    refine cn (aP (rz tT (afB x1 u1 u0 u2 x2 u7 u8 u9 v0 v1 v2 x3 u4 v8) {} [] ?_))
    obtain rfl:=oi h
    exact lN
   ·skip
    refine aO h fun a1 h=> ?_
    have q0:=fE (⟨x1,u1,u0,u2⟩:ah) (⟨x2,u7,u8,u9,v0,v1,v2⟩:State) u4 hr_
    refine ri tT (ags x1 u1 u0 u2 x2 u7 u8 u9 v0 v1 v2 x3 u4 r_ v6) (_::(ahh u1 x3 u4 r_)) {yb:=[(4,r_),(12,false)],an:=[(3,cA q0 []),(13, .skip),(14, .skip),(15, .skip),(16, .skip),(17, .skip),(18, .skip),(19, .skip)] } [] ⟨q0,(ae ⟨(fun hg=> ⟨(a1 (aN hg)),trivial⟩),(ae ⟨(hb),((fun h=>Bool.noConfusion (show false=true from h.1))),(hb),((fun h=>Bool.noConfusion (show false=true from h.1))),(hb),((fun h=>Bool.noConfusion (show false=true from h.1))),(hb),((fun h=>Bool.noConfusion (show false=true from h.1))),(hb),((fun h=>Bool.noConfusion (show false=true from h.1))),(hb),((fun h=>Bool.noConfusion (show false=true from h.1))),(hb),((fun h=>Bool.noConfusion (show false=true from h.1))),(hb),trivial⟩)⟩)⟩ (bG.le (st':=(aeL x1 u1 u0 u2 x2 u7 u8 u9 v0 v1 v2 x3 u4 v6)) ⟨⟨tR,tR,tR,tR,tR,tR,tR,⟨_,rfl,cu.v (dm.one (cK.of (congrArg (fun b=>CV.d (.bool b)) (DL hb))))⟩,trivial⟩,(.refl _)⟩) ?_
    refine cn (aP (rz tT (afB x1 u1 u0 u2 x2 u7 u8 u9 v0 v1 v2 x3 u4 v6) {} [] ?_))
    obtain rfl:=oi h
    exact lN
  ·refine cf hb1 ?_
   refine aI (fz (ajg x1 u1 u0 u2 x2 u7 u8 u9 v0 v1 v2 x3 v6) []) ?_
   refine aX ?_
   obtain rfl:=oi h
   exact lB
 ·clear hy
  cases y with
  |brk z=>
   obtain⟨w1,rfl⟩: ∃q,q=z:=⟨_,rfl⟩
   unfold dU
   refine⟨_, .refl, ?_⟩
   refine aQ (sz tT ⟨(ag2 x1 u1 u0 u2 x2 u7 u8 u9 v0 v1 v2 x3),(kz w1)⟩ {} [] ?_)
   refine bE h fun y1 hy h=> ?_
   refine aL [] (pM x1 u1 u0 u2 x2 u7 u8 u9 v0 v1 v2 x3 v4) (qd x1 u1 u0 u2 x3 v4) dz hy (fun s f h=> ?_) ?_
   ·clear hy
    show bn _ _ _ _ _ _ ((AZ x1 u1 u0 u2 x2 u7 u8 u9 v0 v1 v2 x3 v4) f) _
    unfold qw at h
    obtain⟨v7,u3⟩:=s
    refine sz tT ⟨(aeZ x1 u1 u0 u2 x2 u7 u8 u9 v0 v1 v2 x3 u3),(kz v7)⟩ {} [] ?_
    refine aQ ?_
    refine bI h (fun hb3 h=> ?_) (fun hb3 h=> ?_)
    ·refine ct hb3 ?_
     refine aP (aQ (aB (aQ (aO h fun a1 h=> ?_))))
     refine rg tT ⟨(agw x1 u1 u0 u2 x2 u7 u8 u9 v0 v1 v2 x3 u3),(kz v7)⟩ [_] {fr:=[(3,21)] } [21] ⟨a1,trivial⟩ ?_
     refine aQ (bE h fun u5 hr_2 h=> ?_)
     refine bI h (fun hb2 h=> ?_) (fun hb2 h=> ?_)
     ·skip
      refine bE h fun v9 hr_3 h=> ?_
      refine aO h fun⟨a1,a2⟩ h=> ?_
      have q0:=dI (⟨x1,u1,u0,u2⟩:ah) (⟨x2,u7,u8,u9,v0,v1,v2⟩:State) u3 hr_2
      refine di tT mX (agF x1 u1 u0 u2 x2 u7 u8 u9 v0 v1 v2 x3 u3 u5 v9) (_::(eqs u5 4 ((agG u0 x3 u3 u5)::(eqs u5 5 ((afQ u0 x3 u3 u5)::(eqs u5 3 [(tQ u0 x3 u3 u5)=true,(tQ u0 x3 u3 u5)=true,(tQ u0 x3 u3 u5)=true,(tQ u0 x3 u3 u5)=true,(tQ u0 x3 u3 u5)=true,(tQ u0 x3 u3 u5)=true,gP (UE u5) [(17,true)]→All [Yl Try.prog 0 [(.agg [(cI 3),(cI u3)]),(sI ((at' u0 u3.toNat).most))] (kz v7) (vB true) (kz v9)],gP (UE u5) [(17,true)],(tQ u0 x3 u3 u5)=true,(tQ u0 x3 u3 u5)=true])))))) {yb:=[(4,u5),(17,true)],an:=[(3,cA q0 []),(23, .call [0,1] (vB true) (kz v9))] } [] ⟨q0,(ae ⟨(fun hg=> ⟨(a1 (aN hg)),trivial⟩),(ae ⟨(fun hg=> ⟨(a2 (aN hg)),trivial⟩),(ae ⟨(hb2),(hb2),(hb2),(hb2),(hb2),(hb2),(fun hg=> ⟨(jL 3 u3 ((at' u0 u3.toNat).most) v7 hr_3),trivial⟩),(⟨rfl,trivial⟩),(hb2),(hb2),trivial⟩)⟩)⟩)⟩ (bG.le (st':=(ae4 x1 u1 u0 u2 x2 u7 u8 u9 v0 v1 v2 x3 u3 v9)) ⟨⟨tR,tR,tR,tR,tR,tR,tR,⟨_,rfl,cu.v (dm.one (cK.of (congrArg (fun b=>CV.d (.bool b)) (DC hb2))))⟩,trivial⟩,(.refl _)⟩) ?_
      refine cn (aP (rz tT (afa x1 u1 u0 u2 x2 u7 u8 u9 v0 v1 v2 x3 u3 v9) {} [] ?_))
      obtain rfl:=oi h
      exact lN
     ·skip
      refine aO h fun⟨a1,a2⟩ h=> ?_
      have q0:=dI (⟨x1,u1,u0,u2⟩:ah) (⟨x2,u7,u8,u9,v0,v1,v2⟩:State) u3 hr_2
      refine di tT mX (agF x1 u1 u0 u2 x2 u7 u8 u9 v0 v1 v2 x3 u3 u5 v7) (_::(afD u0 x3 u3 u5)) {yb:=[(4,u5),(17,false)],an:=[(3,cA q0 []),(18, .skip),(19, .skip),(20, .skip),(21, .skip),(22, .skip),(23, .skip),(24, .skip)] } [] ⟨q0,(ae ⟨(fun hg=> ⟨(a1 (aN hg)),trivial⟩),(ae ⟨(fun hg=> ⟨(a2 (aN hg)),trivial⟩),(ae ⟨(hb2),((fun h=>Bool.noConfusion (show false=true from h.1))),(hb2),((fun h=>Bool.noConfusion (show false=true from h.1))),(hb2),((fun h=>Bool.noConfusion (show false=true from h.1))),(hb2),((fun h=>Bool.noConfusion (show false=true from h.1))),(hb2),((fun h=>Bool.noConfusion (show false=true from h.1))),(hb2),((fun h=>Bool.noConfusion (show false=true from h.1))),(hb2),((fun h=>Bool.noConfusion (show false=true from h.1))),(hb2),trivial⟩)⟩)⟩)⟩ (bG.le (st':=(ae4 x1 u1 u0 u2 x2 u7 u8 u9 v0 v1 v2 x3 u3 v7)) ⟨⟨tR,tR,tR,tR,tR,tR,tR,⟨_,rfl,cu.v (dm.one (cK.of (congrArg (fun b=>CV.d (.bool b)) (DL hb2))))⟩,trivial⟩,(.refl _)⟩) ?_
      refine cn (aP (rz tT (afa x1 u1 u0 u2 x2 u7 u8 u9 v0 v1 v2 x3 u3 v7) {} [] ?_))
      obtain rfl:=oi h
      exact lN
    ·refine cf hb3 ?_
     refine aI (fz (agU x1 u1 u0 u2 x3 v7) []) ?_
     refine aX ?_
     obtain rfl:=oi h
     exact lB
   ·clear hy
    cases y1 with
    |brk z=>
     obtain⟨w2,rfl⟩: ∃q,q=z:=⟨_,rfl⟩
     unfold dU
     refine⟨_, .refl, ?_⟩
     refine sz tT ⟨(ajk u2 x3),(kz w2)⟩ {} [] ?_
     refine bE h fun y2 hy h=> ?_
     refine aL [] (pX u2 x3) pY dz hy (fun s f h=> ?_) ?_
     ·clear hy
      show bn _ _ _ _ _ _ ((Ag u2 x3) f) _
      unfold pG at h
      obtain⟨v5,u6⟩:=s
      refine sz tT ⟨(agb u2 x3 u6),(kz v5)⟩ {} [] ?_
      refine aQ ?_
      refine bI h (fun hb5 h=> ?_) (fun hb5 h=> ?_)
      ·refine ct hb5 ?_
       refine aP (aQ (aB (aQ (aO h fun a1 h=> ?_))))
       refine rg tT ⟨(ae7 u2 x3 u6),(kz v5)⟩ [_] {fr:=[(3,25)] } [25] ⟨a1,trivial⟩ ?_
       refine aQ (bE h fun v3 hr_4 h=> ?_)
       refine rg tT ⟨(afV u2 x3 u6 v3),(kz v5)⟩ [Fn Try.prog 67 [(sD (.sl (some true) 1 [(L6 u2 u6).e0,(L6 u2 u6).e1].length (fun i j=>((adV u2 u6).getD (0+(0+(i*1+j))) .nilp)))),(sD (.fn 125 1 (Ve x3)))] [] (vB v3) []] {an:=[(3, .call [] (vB v3) [])] } [] ⟨(Fn.leH (args:=(ai4 u2 x3 u6)) (hin:=[]) (ko [(L6 u2 u6).e0,(L6 u2 u6).e1] x3 hr_4) ⟨dm.one (cK.d (fo.sl (.inl rfl) (by intro i hi j hj;match i,j,hi,hj with|0,0,_,_=>exact .refl _|1,0,_,_=>exact .refl _))),dm.refl _,trivial⟩ trivial),trivial⟩ ?_
       refine aQ ?_
       refine bI h (fun hb4 h=> ?_) (fun hb4 h=> ?_)
       ·skip
        refine bE h fun w0 hr_5 h=> ?_
        refine ri tT (afG u2 x3 u6 v3 w0) [v3=true,v3=true,v3=true,v3=true,v3=true,v3=true,gP (gG [(1,true)]) [(1,true)]→All [Yl Try.prog 0 [(.agg [(cI 0),(cI u6)]),(sI ((at' u2 u6.toNat).power))] (kz v5) (vB true) (kz w0)],gP (gG [(1,true)]) [(1,true)],v3=true,v3=true] {yb:=[(1,true)],an:=[(7, .call [0,1] (vB true) (kz w0))] } [] ⟨(hb4),(hb4),(hb4),(hb4),(hb4),(hb4),(fun hg=> ⟨(jL 0 u6 ((at' u2 u6.toNat).power) v5 hr_5),trivial⟩),(⟨rfl,trivial⟩),(hb4),(hb4),trivial⟩ (bG.le (st':=(afu u2 x3 u6 w0)) ⟨⟨tR,tR,tR,tR,tR,⟨_,rfl,cu.v (dm.one (cK.of (congrArg (fun b=>CV.d (.bool b)) (DC hb4))))⟩,trivial⟩,(.refl _)⟩) ?_
        refine cn (aP (rz tT (afj u2 x3 u6 w0) {} [] ?_))
        obtain rfl:=oi h
        exact lN
       ·skip
        refine ri tT (afG u2 x3 u6 v3 v5) [v3=false, ¬ gP (gG [(1,false)]) [(1,true)],v3=false, ¬ gP (gG [(1,false)]) [(1,true)],v3=false, ¬ gP (gG [(1,false)]) [(1,true)],v3=false, ¬ gP (gG [(1,false)]) [(1,true)],v3=false, ¬ gP (gG [(1,false)]) [(1,true)],v3=false, ¬ gP (gG [(1,false)]) [(1,true)],v3=false, ¬ gP (gG [(1,false)]) [(1,true)],v3=false] {yb:=[(1,false)],an:=[(2, .skip),(3, .skip),(4, .skip),(5, .skip),(6, .skip),(7, .skip),(8, .skip)] } [] ⟨(hb4),((fun h=>Bool.noConfusion (show false=true from h.1))),(hb4),((fun h=>Bool.noConfusion (show false=true from h.1))),(hb4),((fun h=>Bool.noConfusion (show false=true from h.1))),(hb4),((fun h=>Bool.noConfusion (show false=true from h.1))),(hb4),((fun h=>Bool.noConfusion (show false=true from h.1))),(hb4),((fun h=>Bool.noConfusion (show false=true from h.1))),(hb4),((fun h=>Bool.noConfusion (show false=true from h.1))),(hb4),trivial⟩ (bG.le (st':=(afu u2 x3 u6 v5)) ⟨⟨tR,tR,tR,tR,tR,⟨_,rfl,cu.v (dm.one (cK.of (congrArg (fun b=>CV.d (.bool b)) (DL hb4))))⟩,trivial⟩,(.refl _)⟩) ?_
        refine cn (aP (rz tT (afj u2 x3 u6 v5) {} [] ?_))
        obtain rfl:=oi h
        exact lN
      ·refine cf hb5 ?_
       refine aI (fz ⟨[],(kz v5)⟩ []) ?_
       refine aX ?_
       obtain rfl:=oi h
       exact lB
     ·clear hy
      cases y2 with
      |brk z=>
       obtain⟨o1105,rfl⟩: ∃q,q=z:=⟨_,rfl⟩
       unfold dU
       refine⟨_, .refl, ?_⟩
       obtain rfl:=oi h
       exact aU.mk (.inl rfl) (p:=[]) (l:=[]) (by kernel_rfl) trivial (cu.refl _) (.refl _)
      |ret v=>
       obtain rfl:=oi h
       unfold dU
       intro e st hn ha hR
       cases e with
       |normal=>exact absurd rfl hn
       |exit id=>exact hR
       |goto l=>exact hR
       |ret=>exact hR
       |panic c=>exact hR
       |outgrown=>exact hR
    |ret v=>
     obtain rfl:=oi h
     unfold dU
     intro e st hn ha hR
     cases e with
     |normal=>exact absurd rfl hn
     |exit id=>exact hR
     |goto l=>exact hR
     |ret=>exact hR
     |panic c=>exact hR
     |outgrown=>exact hR
  |ret v=>
   obtain rfl:=oi h
   unfold dU
   intro e st hn ha hR
   cases e with
   |normal=>exact absurd rfl hn
   |exit id=>exact hR
   |goto l=>exact hR
   |ret=>exact hR
   |panic c=>exact hR
   |outgrown=>exact hR
def qz  :(Int × Int)→Exit→St→Prop:=
  fun r=>aU TT [.tmp 6, .tmp 7] (.gK [(sI r.1),(sI r.2)]) []
section
variable (u0:(List Bool))
abbrev JZ:Nat × TV:=(2,(Jw u0))
abbrev Vs:Nat × TV:=(25,(Jw u0))
abbrev Uh:Nat × TV:=(26,(vI (u0.length:Int)))
end
def vC (p:ah) (s_:State) (u0:(List Bool)):Int→St:=
  fun u1=> ⟨[(JZ u0),(bC p),(aY s_),(Vs u0),(Uh u0),(27,(vI u1))],[]⟩
section
variable (u0:(List Bool)) (p:ah) (s_:State)
abbrev acG:St:=⟨[(JZ u0),(bC p),(aY s_)],[]⟩
end
def wT (p:ah) (s_:State) (u0:(List Bool)):Unit→St:=
  fun _=>(acG u0 p s_)
def EL (p:ah) (s_:State) (u0:(List Bool)):(aK Int (Ex Unit (Int × Int)))→Exit→St→Prop:=
  LQ 0 [] (vC p s_ u0) (wT p s_ u0) qz
section
variable (u0:(Int × (List Source) × (List Link) × (List ay) × (List Bool) × (List Bool) × (List Bool) × (List Bool) × (List Bool) × (List Bool) × (List Bool) × (List Bool)))
abbrev aiq:List (Nat × TV):=[(11,(vP 6 0)),(44,(YX u0))]
end
theorem vF (p:ah) (s_:State) (u1:(List Bool)) {r:(Int × Int)} (h:oG p s_ u1=some r):Fn Try.prog 45 (agX p s_ u1) [] (.gK [(sI r.1),(sI r.2)]) []:=by
 refine fN tT Try.func45 rfl rfl fun B=> ?_
 show bn _ _ _ _ _ _ (qz r) _
 unfold oG at h
 refine sz tT (acG u1 p s_) {fr:=[(0,4),(1,5)] } [4,5] ?_
 refine aQ (aQ (bE h fun r_ hr_ h=> ?_))
 have q0:=fK p s_ hr_
 refine rg tT ⟨[(JZ u1),(bC p),(aY s_),(8,(vI r_))],[]⟩ [_] {an:=[(2,cA q0 [])] } [] ⟨q0,trivial⟩ ?_
 refine sz tT ⟨[(JZ u1),(bC p),(aY s_),(8,(vI r_)),(18,(vB (!decide (r_=0))))],[]⟩ {} [] ?_
 refine bI h (fun hb3 h=> ?_) (fun hb3 h=> ?_)
 ·refine ct hb3 ?_
  refine sz tT ⟨[(6,(vI 0)),(7,(vI r_))],[]⟩ {} [] ?_
  refine aR ?_
  obtain rfl:=oi h
  exact rl [(sI 0),(sI r_)]
 ·refine cf hb3 ?_
  refine aP (aQ (sz tT ⟨[(JZ u1),(bC p),(aY s_),(24,(vB (!decide ((u1.length:Int)=p.buses))))],[]⟩ {} [] ?_))
  refine bI h (fun hb2 h=> ?_) (fun hb2 h=> ?_)
  ·refine ct hb2 ?_
   refine sz tT ⟨[(6,(vI 0)),(7,(vI 1))],[]⟩ {} [] ?_
   refine aR ?_
   obtain rfl:=oi h
   exact rl [(sI 0),(sI 1)]
  ·refine cf hb2 ?_
   refine aP (aQ (sz tT ⟨[(JZ u1),(bC p),(aY s_),(Vs u1),(Uh u1),(27,(vI 0))],[]⟩ {} [] ?_))
   refine bE h fun y hy h=> ?_
   refine aL [] (vC p s_ u1) (wT p s_ u1) qz hy (fun s f h=> ?_) ?_
   ·clear hy
    show bn _ _ _ _ _ _ ((EL p s_ u1) f) _
    unfold vQ at h
    obtain⟨u2,rfl⟩: ∃q,q=s:=⟨_,rfl⟩
    refine sz tT ⟨[(JZ u1),(bC p),(aY s_),(Vs u1),(Uh u1),(27,(vI u2)),(28,(vB (decide (u2<(u1.length:Int)))))],[]⟩ {} [] ?_
    refine aQ ?_
    refine bI h (fun hb1 h=> ?_) (fun hb1 h=> ?_)
    ·refine ct hb1 ?_
     refine aP (aQ (aB (aQ (aO h fun a1 h=> ?_))))
     refine rg tT ⟨[(JZ u1),(bC p),(aY s_),(9,(vI u2)),(10,(vB (at' u1 u2.toNat))),(Vs u1),(Uh u1),(27,(vI u2))],[]⟩ [_] {} [] ⟨a1,trivial⟩ ?_
     refine aQ (aO h fun a1 h=> ?_)
     refine rg tT ⟨[(JZ u1),(bC p),(aY s_),(Vs u1),(Uh u1),(27,(vI u2)),(39,(vB (bif (at' u1 u2.toNat)then(at' s_.badBus u2.toNat)else false)))],[]⟩ (eqs (at' u1 u2.toNat) 4 ((gP (gG [(1,(at' u1 u2.toNat))]) [(1,true)]→All [(0:Int)≤u2∧u2<(s_.badBus.length:Int)])::(eqs (at' u1 u2.toNat) 2 []))) {yb:=[(1,(at' u1 u2.toNat))] } [] (ae ⟨(fun hg=> ⟨(a1 (aN hg)),trivial⟩),(ae trivial)⟩) ?_
     refine bI h (fun hb h=> ?_) (fun hb h=> ?_)
     ·refine ct hb ?_
      refine sz tT ⟨[(6,(vI 0)),(7,(vI 1))],[]⟩ {} [] ?_
      refine aR ?_
      obtain rfl:=oi h
      exact lR bS (bT 0) bR (aU.mk (.inr rfl) (p:=[]) (l:=[(sI 0),(sI 1)]) (by kernel_rfl) trivial (cu.refl _) trivial)
     ·refine cf hb ?_
      refine aP (rz tT ⟨[(JZ u1),(bC p),(aY s_),(Vs u1),(Uh u1),(27,(k28 u2))],[]⟩ {} [] ?_)
      obtain rfl:=oi h
      exact lN
    ·refine cf hb1 ?_
     refine aI (fz (acG u1 p s_) []) ?_
     refine aX ?_
     obtain rfl:=oi h
     exact lB
   ·clear hy
    cases y with
    |brk z=>
     unfold dU
     refine⟨_, .refl, ?_⟩
     refine sz tT ⟨[(JZ u1),(bC p),(aY s_),(11,(vP 6 0))],[(6,some (.cells 3 [(cI 0)]))]⟩ {fr:=[(0,6)] } [] ?_
     refine aQ (aQ (bE h fun u0 hr_1 h=> ?_))
     have q0:=xS p s_ u1 hr_1
     refine rg tT ⟨(aiq u0),[(6,some (.cells 3 [(cI 0)]))]⟩ [_] {an:=[(3,cA q0 [])] } [] ⟨q0,trivial⟩ ?_
     refine aB (bE h fun u3 hr_2 h=> ?_)
     refine jG 7 [(11,(vP 6 0))] [] [7,6] (.gK []) [(7,some (.loop dD 0 [(11,(vP 6 0))])),(6,some (.cells 3 [(cI u3)]))] (YX u0) 124 [] (afy u0) [(7,some (.loop dD 0 [(11,(vP 6 0))])),(6,some (.cells 3 [(cI 0)]))] [(.one (.yl 7)),(sD (Z9 u0)),(sD (ZJ u0)),(sD (Yu u0))] dD 0 [(11,(vP 6 0))] (by kernel_rfl) (by kernel_rfl) (by kernel_rfl) (by kernel_rfl) (by kernel_rfl) (by kernel_rfl) (by kernel_rfl) (rK [(0,7),(1,6)] (AU u0.1 u0.2.1 u0.2.2.1 u0.2.2.2.1 u0.2.2.2.2.1 u0.2.2.2.2.2.1 u0.2.2.2.2.2.2.1 u0.2.2.2.2.2.2.2.1 u0.2.2.2.2.2.2.2.2.1 u0.2.2.2.2.2.2.2.2.2.1 u0.2.2.2.2.2.2.2.2.2.2.1 u0.2.2.2.2.2.2.2.2.2.2.2 0 hr_2)) (by kernel_rfl) rfl (EG.zero rfl) (bG.fin (st':=⟨(aiq u0),[(6,some (.cells 3 [(cI u3)]))]⟩) (cs:=[]) ⟨[],[(6,6)]⟩ [11,44] (by kernel_rfl) trivial) ?_
     refine sz tT ⟨[(6,(vI u3)),(7,(vI 0))],[]⟩ {} [] ?_
     refine aR ?_
     obtain rfl:=oi h
     exact rl [(sI u3),(sI 0)]
    |ret v=>
     obtain rfl:=oi h
     unfold dU
     intro e st hn ha hR
     cases e with
     |normal=>exact absurd rfl hn
     |exit id=>exact hR
     |goto l=>exact hR
     |ret=>exact hR
     |panic c=>exact hR
     |outgrown=>exact hR
abbrev abw:Ob:=(.cells 186 [(.d (.fn 128 0 (nT []))),(.d (.fn 129 0 (nT []))),(.d (.fn 130 0 (nT [])))])
abbrev abO:List (Nat × Option Ob):=[(0,some abw)]
def GL  :Unit→Exit→St→Prop:=
  fun _=>aU TT [.tmp 0] (vO 0 true 3) abO
theorem ER  {r:Unit} (h:sP=some r):Fn Try.prog 91 [] [] (vO 0 true 3) abO:=by
 refine fN tT Try.func91 rfl rfl fun B=> ?_
 show bn _ _ _ _ _ _ (GL r) _
 unfold sP at h
 refine sz tT ⟨[],[]⟩ {} [] ?_
 refine sz tT ⟨[(0,(vO 1 true 3))],[(1,some abw)]⟩ {an:=[(3, .cells)],fr:=[(3,1)] } [] ?_
 refine aI (bG.fin (st':=⟨[(0,(vO 0 true 3))],abO⟩) (cs:=[]) ⟨[],[(1,0)]⟩ [0] (by kernel_rfl) trivial) ?_
 refine aR ?_
 obtain rfl:=oi h
 exact rl [(.one (.own 0 true 3))]
def jB  :Bool→Exit→St→Prop:=
  fun r=>aU TT [.tmp 6] (vB r) []
section
variable (x:aA)
abbrev ah5:TV:=(vD (mg [(aJ none 1 (aj .i64) x.sources),(aJ none 1 (aj .i64) x.links),(aJ none 2 af.cell x.racks)] 0))
abbrev ve:Nat × TV:=(5,(ah5 x))
abbrev UX:Nat × TV:=(12,(vD (aJ none 1 (aj .i64) x.sources)))
abbrev UN:Nat × TV:=(13,(vI (x.sources.length:Int)))
end
def yo (p:ah) (s_:State) (x:aA):Int→St:=
  fun u0=> ⟨[(bC p),(aY s_),(ve x),(UX x),(UN x),(14,(vI u0))],[]⟩
section
variable (p:ah) (s_:State) (x:aA)
abbrev aam:St:=⟨[(bC p),(aY s_),(ve x)],[]⟩
end
def yj (p:ah) (s_:State) (x:aA):Unit→St:=
  fun _=>(aam p s_ x)
def Fv (p:ah) (s_:State) (x:aA):(aK Int (Ex Unit Bool))→Exit→St→Prop:=
  LQ 0 [] (yo p s_ x) (yj p s_ x) jB
section
variable (x:aA)
abbrev Ue:Nat × TV:=(44,(vD (aJ none 1 (aj .i64) x.links)))
abbrev Vy:Nat × TV:=(45,(vI (x.links.length:Int)))
end
def yI (p:ah) (s_:State) (x:aA):Int→St:=
  fun u0=> ⟨[(bC p),(aY s_),(Ue x),(Vy x),(46,(vI u0))],[]⟩
def xR  :Unit→St:=
  fun _=> ⟨[],[]⟩
def GD (p:ah) (s_:State) (x:aA):(aK Int (Ex Unit Bool))→Exit→St→Prop:=
  LQ 2 [] (yI p s_ x) xR jB
section
variable (p:ah) (s_:State) (x:aA) (u1:Int) (u0:Int)
abbrev YD:List SV:=[(.agg (k1 p)),(.agg (QW s_)),(.agg (Zj x))]
abbrev Wi:=(decide ((at' x.sources u1.toNat)<0))
abbrev Qv:=(bif (Wi x u1)then true else(decide ((Ul p u1)<(at' x.sources u1.toNat))))
abbrev Qu:=(decide (0<(at' x.sources u1.toNat)))
abbrev ad4:=(gG [(2,(Wi x u1)),(12,(Qv p x u1)),(15,(Qu x u1))])
abbrev Wd:=(decide ((at' x.links u0.toNat)<(IntKind.wrap .i64 (0 - (Sn p u0)))))
abbrev Pb:=(bif (Wd p x u0)then true else(decide ((Sn p u0)<(at' x.links u0.toNat))))
abbrev QT:=(!decide ((at' x.links u0.toNat)=0))
abbrev abJ:=(gG [(9,(Wd p x u0)),(19,(Pb p x u0)),(22,(QT x u0))])
end
theorem F4 (p:ah) (s_:State) (x:aA) {r:Bool} (h:vW p s_ x=some r):Fn Try.prog 128 (YD p s_ x) [] (vB r) []:=by
 refine fN tT Try.func128 rfl rfl fun B=> ?_
 show bn _ _ _ _ _ _ (jB r) _
 unfold vW at h
 refine sz tT (aam p s_ x) {fr:=[(0,3),(1,4),(2,5)] } [3,4,5] ?_
 refine aQ (sz tT ⟨[(bC p),(aY s_),(ve x),(UX x),(UN x),(14,(vI 0))],[]⟩ {} [] ?_)
 refine bE h fun y hy h=> ?_
 refine aL [] (yo p s_ x) (yj p s_ x) jB hy (fun s f h=> ?_) ?_
 ·clear hy
  show bn _ _ _ _ _ _ ((Fv p s_ x) f) _
  unfold yw at h
  obtain⟨u1,rfl⟩: ∃q,q=s:=⟨_,rfl⟩
  refine sz tT ⟨[(bC p),(aY s_),(ve x),(UX x),(UN x),(14,(vI u1)),(15,(vB (decide (u1<(x.sources.length:Int)))))],[]⟩ {} [] ?_
  refine aQ ?_
  refine bI h (fun hb1 h=> ?_) (fun hb1 h=> ?_)
  ·refine ct hb1 ?_
   refine aP (aQ (aB (aQ (aO h fun a1 h=> ?_))))
   refine rg tT ⟨[(bC p),(aY s_),(ve x),(7,(vI u1)),(8,(vI (at' x.sources u1.toNat))),(UX x),(UN x),(14,(vI u1))],[]⟩ [_] {} [] ⟨a1,trivial⟩ ?_
   refine aQ (bE h fun r_ hr_ h=> ?_)
   refine aO h fun a1 h=> ?_
   refine rg tT ⟨[(bC p),(aY s_),(ve x),(UX x),(UN x),(14,(vI u1)),(41,(vB (bif (Qv p x u1)then true else(bif (Qu x u1)then(!r_)else false))))],[]⟩ (eqs (Wi x u1) 5 ((gP (ad4 p x u1) [(2,false)]→All [(0:Int)≤u1∧u1<(p.sources.length:Int)])::(eqs (Wi x u1) 4 (eqs (Qv p x u1) 3 (eqs (Qu x u1) 4 [gP (ad4 p x u1) [(15,true),(12,false)]→All [Fn Try.prog 65 (GV p s_ u1) [] (vB r_) []],(Qu x u1)=(Qu x u1),(Qv p x u1)=(Qv p x u1),gP (ad4 p x u1) [(12,false)]→All [(Qu x u1)=(Qu x u1)],(Qv p x u1)=(Qv p x u1)]))))) {yb:=[(2,(Wi x u1)),(12,(Qv p x u1)),(15,(Qu x u1))],an:=[(19, .call [] (vB r_) [])] } [] (ae ⟨(fun hg=> ⟨(a1 (aN hg)),trivial⟩),(ae (ae (ae ⟨(fun hg=> ⟨(fE p s_ u1 (dJ hr_ (aN hg))),trivial⟩),rfl,rfl,(fun hg=> ⟨rfl,trivial⟩),rfl,trivial⟩)))⟩) ?_
   refine bI h (fun hb h=> ?_) (fun hb h=> ?_)
   ·refine ct hb ?_
    refine sz tT ⟨[(6,(vB false))],[]⟩ {} [] ?_
    refine aR ?_
    obtain rfl:=oi h
    exact lR bS (bT 0) bR (aU.mk (.inr rfl) (p:=[]) (l:=[(sB false)]) (by kernel_rfl) trivial (cu.refl _) trivial)
   ·refine cf hb ?_
    refine aP (rz tT ⟨[(bC p),(aY s_),(ve x),(UX x),(UN x),(14,(k28 u1))],[]⟩ {} [] ?_)
    obtain rfl:=oi h
    exact lN
  ·refine cf hb1 ?_
   refine aI (fz (aam p s_ x) []) ?_
   refine aX ?_
   obtain rfl:=oi h
   exact lB
 ·clear hy
  cases y with
  |brk z=>
   unfold dU
   refine⟨_, .refl, ?_⟩
   refine aQ (sz tT ⟨[(bC p),(aY s_),(Ue x),(Vy x),(46,(vI 0))],[]⟩ {} [] ?_)
   refine bE h fun y1 hy h=> ?_
   refine aL [] (yI p s_ x) xR jB hy (fun s f h=> ?_) ?_
   ·clear hy
    show bn _ _ _ _ _ _ ((GD p s_ x) f) _
    unfold yH at h
    obtain⟨u0,rfl⟩: ∃q,q=s:=⟨_,rfl⟩
    refine sz tT ⟨[(bC p),(aY s_),(Ue x),(Vy x),(46,(vI u0)),(47,(vB (decide (u0<(x.links.length:Int)))))],[]⟩ {} [] ?_
    refine aQ ?_
    refine bI h (fun hb3 h=> ?_) (fun hb3 h=> ?_)
    ·refine ct hb3 ?_
     refine aP (aQ (aB (aQ (aO h fun a1 h=> ?_))))
     refine rg tT ⟨[(bC p),(aY s_),(9,(vI u0)),(10,(vI (at' x.links u0.toNat))),(Ue x),(Vy x),(46,(vI u0))],[]⟩ [_] {} [] ⟨a1,trivial⟩ ?_
     refine aQ (bE h fun u2 hr_1 h=> ?_)
     refine aO h fun⟨a1,a2⟩ h=> ?_
     refine rg tT ⟨[(bC p),(aY s_),(Ue x),(Vy x),(46,(vI u0)),(80,(vB (bif (Pb p x u0)then true else(bif (QT x u0)then(!u2)else false))))],[]⟩ (_::(eqs (Wd p x u0) 5 ((gP (abJ p x u0) [(9,false)]→All [(0:Int)≤u0∧u0<(p.links.length:Int)])::(eqs (Wd p x u0) 4 (eqs (Pb p x u0) 3 (eqs (QT x u0) 4 [gP (abJ p x u0) [(22,true),(19,false)]→All [Fn Try.prog 78 (GV p s_ u0) [] (vB u2) []],(QT x u0)=(QT x u0),(Pb p x u0)=(Pb p x u0),gP (abJ p x u0) [(19,false)]→All [(QT x u0)=(QT x u0)],(Pb p x u0)=(Pb p x u0)])))))) {yb:=[(9,(Wd p x u0)),(19,(Pb p x u0)),(22,(QT x u0))],an:=[(26, .call [] (vB u2) [])] } [] ⟨a1,(ae ⟨(fun hg=> ⟨(a2 (aN hg)),trivial⟩),(ae (ae (ae ⟨(fun hg=> ⟨(dI p s_ u0 (dJ hr_1 (aN hg))),trivial⟩),rfl,rfl,(fun hg=> ⟨rfl,trivial⟩),rfl,trivial⟩)))⟩)⟩ ?_
     refine bI h (fun hb2 h=> ?_) (fun hb2 h=> ?_)
     ·refine ct hb2 ?_
      refine sz tT ⟨[(6,(vB false))],[]⟩ {} [] ?_
      refine aR ?_
      obtain rfl:=oi h
      exact lR bS (bT 2) bR (aU.mk (.inr rfl) (p:=[]) (l:=[(sB false)]) (by kernel_rfl) trivial (cu.refl _) trivial)
     ·refine cf hb2 ?_
      refine aP (rz tT ⟨[(bC p),(aY s_),(Ue x),(Vy x),(46,(k28 u0))],[]⟩ {} [] ?_)
      obtain rfl:=oi h
      exact lN
    ·refine cf hb3 ?_
     refine aI (fz ⟨[],[]⟩ []) ?_
     refine aX ?_
     obtain rfl:=oi h
     exact lB
   ·clear hy
    cases y1 with
    |brk z=>
     unfold dU
     refine⟨_, .refl, ?_⟩
     refine sz tT ⟨[(6,(vB true))],[]⟩ {} [] ?_
     refine aR ?_
     obtain rfl:=oi h
     exact rl [(sB true)]
    |ret v=>
     obtain rfl:=oi h
     unfold dU
     intro e st hn ha hR
     cases e with
     |normal=>exact absurd rfl hn
     |exit id=>exact hR
     |goto l=>exact hR
     |ret=>exact hR
     |panic c=>exact hR
     |outgrown=>exact hR
  |ret v=>
   obtain rfl:=oi h
   unfold dU
   intro e st hn ha hR
   cases e with
   |normal=>exact absurd rfl hn
   |exit id=>exact hR
   |goto l=>exact hR
   |ret=>exact hR
   |panic c=>exact hR
   |outgrown=>exact hR
def wm  :Bool→Exit→St→Prop:=
  fun r=>aU TT [.tmp 6] (vB r) []
section
variable (x:aA)
abbrev Dr:Nat × TV:=(12,(vD (aJ none 2 af.cell x.racks)))
abbrev Dn:Nat × TV:=(13,(vI (x.racks.length:Int)))
end
def Bv (p:ah) (s_:State) (x:aA):Int→St:=
  fun u0=> ⟨[(bC p),(aY s_),(Dr x),(Dn x),(14,(vI u0))],[]⟩
def Bf  :Unit→St:=
  fun _=> ⟨[],[]⟩
def tY (p:ah) (s_:State) (x:aA):(aK Int (Ex Unit Bool))→Exit→St→Prop:=
  LQ 0 [] (Bv p s_ x) Bf wm
section
variable (x:aA) (u0:Int)
abbrev JU:Nat × TV:=(8,(ad6 x u0))
abbrev ab7:List CV:=[(cI ((at' x.racks u0.toNat).e0)),(cI ((at' x.racks u0.toNat).e1))]
abbrev LU:Nat × TV:=(19,(.v (.agg (ab7 x u0))))
end
def Bt (p:ah) (s_:State) (x:aA) (u0:Int):Int→St:=
  fun u1=> ⟨[(bC p),(aY s_),(7,(vI u0)),(JU x u0),(Dr x),(Dn x),(14,(vI u0)),(LU x u0),(20,(vI u1))],[]⟩
section
variable (p:ah) (s_:State) (u0:Int) (x:aA)
abbrev ada:St:=⟨[(bC p),(aY s_),(7,(vI u0)),(JU x u0),(Dr x),(Dn x),(14,(vI u0))],[]⟩
end
def A7 (p:ah) (s_:State) (x:aA) (u0:Int):Unit→St:=
  fun _=>(ada p s_ u0 x)
def JB (p:ah) (s_:State) (x:aA) (u0:Int):(aK Int (Ex Unit (aK Int (Ex Unit Bool))))→Exit→St→Prop:=
  LQ 2 [1] (Bt p s_ x u0) (A7 p s_ x u0) (tY p s_ x)
section
variable (x:aA) (u0:Int) (u1:Int) (p:ah) (r_:Bool)
abbrev UF:=(at' [(at' x.racks u0.toNat).e0,(at' x.racks u0.toNat).e1] u1.toNat)
abbrev adN:Nat × TV:=(10,(vI (UF x u0 u1)))
abbrev Pz:=(decide ((UF x u0 u1)<0))
abbrev Gj:=(bif (Pz x u0 u1)then true else(decide ((RV p u0)<(UF x u0 u1))))
abbrev BP:=(decide (0<(UF x u0 u1)))
abbrev aiF:Nat × TV:=(52,(vB (bif (Gj x u0 u1 p)then true else(bif (BP x u0 u1)then(!r_)else false))))
abbrev Qd:=(gG [(2,(Pz x u0 u1)),(12,(Gj x u0 u1 p)),(15,(BP x u0 u1))])
abbrev ai7:=(gP (Qd x u0 u1 p) [(2,false)]→All [(0:Int)≤u0∧u0<(p.racks.length:Int)])
abbrev aiB:=(gP (Qd x u0 u1 p) [(15,true),(12,false)]→All [(0:Int)≤u0∧u0<(p.racks.length:Int)])
end
theorem Jq (p:ah) (s_:State) (x:aA) {r:Bool} (h:Ai p s_ x=some r):Fn Try.prog 129 (YD p s_ x) [] (vB r) []:=by
 refine fN tT Try.func129 rfl rfl fun B=> ?_
 show bn _ _ _ _ _ _ (wm r) _
 unfold Ai at h
 refine sz tT ⟨[(bC p),(aY s_),(5,(vP 9 0))],[(9,some (adh x))]⟩ {fr:=[(0,7),(1,8),(2,9)] } [7,8] ?_
 refine aQ (sz tT ⟨[(bC p),(aY s_),(Dr x),(Dn x),(14,(vI 0))],[]⟩ {} [] ?_)
 refine bE h fun y1 hy h=> ?_
 refine aL [] (Bv p s_ x) Bf wm hy (fun s f h=> ?_) ?_
 ·clear hy
  show bn _ _ _ _ _ _ ((tY p s_ x) f) _
  unfold Bj at h
  obtain⟨u0,rfl⟩: ∃q,q=s:=⟨_,rfl⟩
  refine sz tT ⟨[(bC p),(aY s_),(Dr x),(Dn x),(14,(vI u0)),(15,(vB (decide (u0<(x.racks.length:Int)))))],[]⟩ {} [] ?_
  refine aQ ?_
  refine bI h (fun hb6 h=> ?_) (fun hb6 h=> ?_)
  ·refine ct hb6 ?_
   refine aP (aQ (aB (aQ (aO h fun a1 h=> ?_))))
   refine rg tT (ada p s_ u0 x) [_] {fr:=[(3,13)] } [13] ⟨a1,trivial⟩ ?_
   refine aQ (sz tT ⟨[(bC p),(aY s_),(7,(vI u0)),(JU x u0),(Dr x),(Dn x),(14,(vI u0)),(LU x u0),(20,(vI 0))],[]⟩ {} [] ?_)
   refine bE h fun y hy h=> ?_
   refine aL [1] (Bt p s_ x u0) (A7 p s_ x u0) (tY p s_ x) hy (fun s f h=> ?_) ?_
   ·clear hy
    show bn _ _ _ _ _ _ ((JB p s_ x u0) f) _
    unfold Bb at h
    obtain⟨u1,rfl⟩: ∃q,q=s:=⟨_,rfl⟩
    refine sz tT ⟨[(bC p),(aY s_),(7,(vI u0)),(JU x u0),(Dr x),(Dn x),(14,(vI u0)),(LU x u0),(20,(vI u1)),(21,(vB (decide (u1<2))))],[]⟩ {} [] ?_
    refine aQ ?_
    refine bI h (fun hb4 h=> ?_) (fun hb4 h=> ?_)
    ·refine ct hb4 ?_
     refine aP (aQ (aB (aQ (aO h fun a1 h=> ?_))))
     refine rg tT ⟨[(bC p),(aY s_),(7,(vI u0)),(JU x u0),(9,(vI u1)),(adN x u0 u1),(Dr x),(Dn x),(14,(vI u0)),(LU x u0),(20,(vI u1))],[]⟩ [_,u1.toNat*1+1≤(ab7 x u0).length,((ab7 x u0).drop (u1.toNat*1)).take 1=[(.int .i64 (UF x u0 u1))].map .d] {an:=[(1, .vals [(.int .i64 (UF x u0 u1))])] } [] ⟨a1,(X8 (n:=2) (sz:=1) (Nat.le_refl _) a1),(Xr (n:=2) (sz:=1) (g:=fun q=>[(cI (at' [(at' x.racks u0.toNat).e0,(at' x.racks u0.toNat).e1] q))]) (by intro q hq;match q,hq with|0,_=>rfl|1,_=>rfl) a1),trivial⟩ ?_
     refine aQ ?_
     refine bI h (fun hb h=> ?_) (fun _ h=> ?_)
     ·skip
      refine aI (bG.le (st':=⟨[(bC p),(aY s_),(7,(vI u0)),(JU x u0),(9,(vI 0)),(adN x u0 u1),(Dr x),(Dn x),(14,(vI u0)),(LU x u0),(20,(vI 0))],[]⟩) ⟨⟨tR,tR,tR,tR,⟨_,rfl,cu.v (dm.one (cK.of (congrArg (fun n=>CV.d (.int .i64 n)) (of_decide_eq_true hb))))⟩,tR,tR,tR,tR,tR,⟨_,rfl,cu.v (dm.one (cK.of (congrArg (fun n=>CV.d (.int .i64 n)) (of_decide_eq_true hb))))⟩,trivial⟩,trivial⟩) ?_
      refine bE h fun r_ hr_ h=> ?_
      refine aO h fun⟨a1,a2⟩ h=> ?_
      refine dg tT mX ⟨[(bC p),(aY s_),(7,(vI u0)),(JU x u0),(Dr x),(Dn x),(14,(vI u0)),(LU x u0),(20,(vI 0)),(aiF x u0 u1 p r_)],[]⟩ (eqs (Pz x u0 u1) 5 ((ai7 x u0 u1 p)::(eqs (Pz x u0 u1) 4 (eqs (Gj x u0 u1 p) 3 (eqs (BP x u0 u1) 6 ((aiB x u0 u1 p)::(eqs (BP x u0 u1) 2 ((gP (Qd x u0 u1 p) [(15,true),(12,false)]→All [(0:Int)≤0∧(0:Int)<(2:Nat)])::(eqs (BP x u0 u1) 2 [gP (Qd x u0 u1 p) [(15,true),(12,false)]→All [Fn Try.prog 79 [(.agg (QW s_)),(sI (PU p u0))] [] (vB r_) []],(BP x u0 u1)=(BP x u0 u1),(Gj x u0 u1 p)=(Gj x u0 u1 p),gP (Qd x u0 u1 p) [(12,false)]→All [(BP x u0 u1)=(BP x u0 u1)],(Gj x u0 u1 p)=(Gj x u0 u1 p)]))))))))) {yb:=[(2,(Pz x u0 u1)),(12,(Gj x u0 u1 p)),(15,(BP x u0 u1))],an:=[(25, .call [] (vB r_) [])] } [] (ae ⟨(fun hg=> ⟨(a1 (aN hg)),trivial⟩),(ae (ae (ae ⟨(fun hg=> ⟨(a2 (aN hg)),trivial⟩),(ae ⟨(fun hg=> ⟨((by decide)),trivial⟩),(ae ⟨(fun hg=> ⟨(kZ s_ (PU p u0) (dJ hr_ (aN hg))),trivial⟩),rfl,rfl,(fun hg=> ⟨rfl,trivial⟩),rfl,trivial⟩)⟩)⟩)))⟩) ?_
      refine bI h (fun hb1 h=> ?_) (fun hb1 h=> ?_)
      ·refine ct hb1 ?_
       refine sz tT ⟨[(6,(vB false))],[]⟩ {} [] ?_
       refine aR ?_
       obtain rfl:=oi h
       exact lR bS (bT 2) bR (lR bS (bT 0) bR (aU.mk (.inr rfl) (p:=[]) (l:=[(sB false)]) (by kernel_rfl) trivial (cu.refl _) trivial))
      ·refine cf hb1 ?_
       refine aP (rz tT ⟨[(bC p),(aY s_),(7,(vI u0)),(JU x u0),(Dr x),(Dn x),(14,(vI u0)),(LU x u0),(20,(vI 1))],[]⟩ {} [] ?_)
       obtain rfl:=oi h
       exact lN
     ·skip
      refine aO h fun a1 h=> ?_
      refine aI (bG.le (st':=⟨[(bC p),(aY s_),(7,(vI u0)),(JU x u0),(9,(vI 1)),(adN x u0 u1),(Dr x),(Dn x),(14,(vI u0)),(LU x u0),(20,(vI 1))],[]⟩) ⟨⟨tR,tR,tR,tR,⟨_,rfl,cu.v (dm.one (cK.of (congrArg (fun n=>CV.d (.int .i64 n)) a1)))⟩,tR,tR,tR,tR,tR,⟨_,rfl,cu.v (dm.one (cK.of (congrArg (fun n=>CV.d (.int .i64 n)) a1)))⟩,trivial⟩,trivial⟩) ?_
      refine bE h fun u2 hr_1 h=> ?_
      refine aO h fun⟨a1,a2⟩ h=> ?_
      refine dg tT mX ⟨[(bC p),(aY s_),(7,(vI u0)),(JU x u0),(Dr x),(Dn x),(14,(vI u0)),(LU x u0),(20,(vI 1)),(aiF x u0 u1 p u2)],[]⟩ (eqs (Pz x u0 u1) 5 ((ai7 x u0 u1 p)::(eqs (Pz x u0 u1) 4 (eqs (Gj x u0 u1 p) 3 (eqs (BP x u0 u1) 6 ((aiB x u0 u1 p)::(eqs (BP x u0 u1) 2 ((gP (Qd x u0 u1 p) [(15,true),(12,false)]→All [(0:Int)≤1∧(1:Int)<(2:Nat)])::(eqs (BP x u0 u1) 2 [gP (Qd x u0 u1 p) [(15,true),(12,false)]→All [Fn Try.prog 79 [(.agg (QW s_)),(sI (NA p u0))] [] (vB u2) []],(BP x u0 u1)=(BP x u0 u1),(Gj x u0 u1 p)=(Gj x u0 u1 p),gP (Qd x u0 u1 p) [(12,false)]→All [(BP x u0 u1)=(BP x u0 u1)],(Gj x u0 u1 p)=(Gj x u0 u1 p)]))))))))) {yb:=[(2,(Pz x u0 u1)),(12,(Gj x u0 u1 p)),(15,(BP x u0 u1))],an:=[(25, .call [] (vB u2) [])] } [] (ae ⟨(fun hg=> ⟨(a1 (aN hg)),trivial⟩),(ae (ae (ae ⟨(fun hg=> ⟨(a2 (aN hg)),trivial⟩),(ae ⟨(fun hg=> ⟨((by decide)),trivial⟩),(ae ⟨(fun hg=> ⟨(kZ s_ (NA p u0) (dJ hr_1 (aN hg))),trivial⟩),rfl,rfl,(fun hg=> ⟨rfl,trivial⟩),rfl,trivial⟩)⟩)⟩)))⟩) ?_
      refine bI h (fun hb3 h=> ?_) (fun hb3 h=> ?_)
      ·refine ct hb3 ?_
       refine sz tT ⟨[(6,(vB false))],[]⟩ {} [] ?_
       refine aR ?_
       obtain rfl:=oi h
       exact lR bS (bT 2) bR (lR bS (bT 0) bR (aU.mk (.inr rfl) (p:=[]) (l:=[(sB false)]) (by kernel_rfl) trivial (cu.refl _) trivial))
      ·refine cf hb3 ?_
       refine aP (rz tT ⟨[(bC p),(aY s_),(7,(vI u0)),(JU x u0),(Dr x),(Dn x),(14,(vI u0)),(LU x u0),(20,(vI 2))],[]⟩ {} [] ?_)
       obtain rfl:=oi h
       exact lN
    ·refine cf hb4 ?_
     refine aI (fz (ada p s_ u0 x) []) ?_
     refine aX ?_
     obtain rfl:=oi h
     exact lB
   ·clear hy
    cases y with
    |brk z=>
     unfold dU
     refine⟨_, .refl, ?_⟩
     refine aQ (aO h fun a1 h=> ?_)
     refine dg tT mX ⟨[(bC p),(aY s_),(Dr x),(Dn x),(14,(vI u0)),(65,(vB (decide ((RV p u0)<(IntKind.wrap .i64 (((at' x.racks u0.toNat).e0)+((at' x.racks u0.toNat).e1)))))))],[]⟩ [(0:Int)≤0∧(0:Int)<(2:Nat),(0:Int)≤1∧(1:Int)<(2:Nat),_] {} [] ⟨((by decide)),((by decide)),a1,trivial⟩ ?_
     refine bI h (fun hb5 h=> ?_) (fun hb5 h=> ?_)
     ·refine ct hb5 ?_
      refine sz tT ⟨[(6,(vB false))],[]⟩ {} [] ?_
      refine aR ?_
      obtain rfl:=oi h
      exact lR bS (bT 0) bR (aU.mk (.inr rfl) (p:=[]) (l:=[(sB false)]) (by kernel_rfl) trivial (cu.refl _) trivial)
     ·refine cf hb5 ?_
      refine aP (rz tT ⟨[(bC p),(aY s_),(Dr x),(Dn x),(14,(k28 u0))],[]⟩ {} [] ?_)
      obtain rfl:=oi h
      exact lN
    |ret v=>
     obtain rfl:=oi h
     unfold dU
     intro e st hn ha hR
     cases e with
     |normal=>exact absurd rfl hn
     |exit id=>simp only [rC (b:=1) ha rfl,cond_false];exact hR
     |goto l=>exact hR
     |ret=>exact hR
     |panic c=>exact hR
     |outgrown=>exact hR
  ·refine cf hb6 ?_
   refine aI (fz ⟨[],[]⟩ []) ?_
   refine aX ?_
   obtain rfl:=oi h
   exact lB
 ·clear hy
  cases y1 with
  |brk z=>
   unfold dU
   refine⟨_, .refl, ?_⟩
   refine sz tT ⟨[(6,(vB true))],[]⟩ {} [] ?_
   refine aR ?_
   obtain rfl:=oi h
   exact rl [(sB true)]
  |ret v=>
   obtain rfl:=oi h
   unfold dU
   intro e st hn ha hR
   cases e with
   |normal=>exact absurd rfl hn
   |exit id=>exact hR
   |goto l=>exact hR
   |ret=>exact hR
   |panic c=>exact hR
   |outgrown=>exact hR
def Du  :Bool→Exit→St→Prop:=
  fun r=>aU TT [.tmp 2] (vB r) []
theorem Cg (n:Int) {r:Bool} (h:qj n=some r):Fn Try.prog 149 [(sI n)] [] (vB r) []:=by
 refine fN tT Try.func149 rfl rfl fun B=> ?_
 show bn _ _ _ _ _ _ (Du r) _
 unfold qj at h
 refine sz tT ⟨[(0,(vI n))],[]⟩ {} [] ?_
 refine sz tT ⟨[(2,(vB (!decide (n=0))))],[]⟩ {} [] ?_
 refine aR ?_
 obtain rfl:=oi h
 exact rl [(sB (!decide (n=0)))]
section
variable (s_:(List Int))
abbrev vT:List (Nat × Option Ob):=[(Ho s_)]
end
def iI (s_:(List Int)):Int→Exit→St→Prop:=
  fun r=>aU TT [.tmp 4] (vI r) (vT s_)
section
variable (s_:(List Int))
abbrev D7:Nat × TV:=(0,(vO 0 true s_.length))
abbrev Sz:Nat × TV:=(1,(vD (.fn 149 0 (nT []))))
end
def lm (s_:(List Int)):Int→St:=
  fun t8=> ⟨[(D7 s_),Sz,(o9 s_),(8,(vI t8))],(vT s_)⟩
def kY (s_:(List Int)):Unit→St:=
  fun _=> ⟨[],(vT s_)⟩
def uW (s_:(List Int)):(aK Int (Ex Unit Int))→Exit→St→Prop:=
  LQ 0 [] (lm s_) (kY s_) (iI s_)
section
variable (s_:(List Int))
abbrev afr:St:=⟨[(D7 s_),Sz],(vT s_)⟩
end
theorem vg (s_:(List Int)) {r:Int} (h:jh s_=some r):Fn Try.prog 113 [(.one (.own 0 true s_.length)),(sD (.fn 149 0 (nT [])))] (vT s_) (vI r) (vT s_):=by
 refine fN tT Try.func113 rfl rfl fun B=> ?_
 show bn _ _ _ _ _ _ ((iI s_) r) _
 unfold jh at h
 refine sz tT (afr s_) {} [] ?_
 refine aQ (sz tT ⟨[(D7 s_),Sz,(o9 s_),(8,(vI 0))],(vT s_)⟩ {} [] ?_)
 refine bE h fun y hy h=> ?_
 refine aL [] (lm s_) (kY s_) (iI s_) hy (fun s f h=> ?_) ?_
 ·clear hy
  show bn _ _ _ _ _ _ ((uW s_) f) _
  unfold lY at h
  obtain⟨t8,rfl⟩: ∃q,q=s:=⟨_,rfl⟩
  refine sz tT ⟨[(D7 s_),Sz,(o9 s_),(8,(vI t8)),(Wq t8 s_)],(vT s_)⟩ {} [] ?_
  refine aQ ?_
  refine bI h (fun hb1 h=> ?_) (fun hb1 h=> ?_)
  ·refine ct hb1 ?_
   refine aP (aQ (aB (sz tT ⟨[(D7 s_),Sz,(5,(vI t8)),(o9 s_),(8,(vI t8))],(vT s_)⟩ {} [] ?_)))
   refine aQ (bE h fun r_ hr_ h=> ?_)
   refine aO h fun a1 h=> ?_
   have q2:=Cg (at' s_ t8.toNat) hr_
   refine rg tT ⟨[(D7 s_),Sz,(5,(vI t8)),(o9 s_),(8,(vI t8)),(16,(vB r_))],(vT s_)⟩ [_,_,_] {an:=[(5,cA q2 [])] } [] ⟨a1,(tL a1),q2,trivial⟩ ?_
   refine bI h (fun hb h=> ?_) (fun hb h=> ?_)
   ·refine ct hb ?_
    refine sz tT ⟨[(4,(vI t8))],(vT s_)⟩ {} [] ?_
    refine aR ?_
    obtain rfl:=oi h
    exact lR bS (bT 0) bR (aU.mk (.inr rfl) (p:=[]) (l:=[(sI t8)]) (by kernel_rfl) trivial (cu.refl _) (.refl _))
   ·refine cf hb ?_
    refine aP (rz tT ⟨[(D7 s_),Sz,(o9 s_),(k27 t8)],(vT s_)⟩ {} [] ?_)
    obtain rfl:=oi h
    exact lN
  ·refine cf hb1 ?_
   refine aI (fz ⟨[],(vT s_)⟩ []) ?_
   refine aX ?_
   obtain rfl:=oi h
   exact lB
 ·clear hy
  cases y with
  |brk z=>
   unfold dU
   refine⟨_, .refl, ?_⟩
   refine sz tT ⟨[(4,(vI (-1)))],(vT s_)⟩ {} [] ?_
   refine aR ?_
   obtain rfl:=oi h
   exact rl [(sI (-1))]
  |ret v=>
   obtain rfl:=oi h
   unfold dU
   intro e st hn ha hR
   cases e with
   |normal=>exact absurd rfl hn
   |exit id=>exact hR
   |goto l=>exact hR
   |ret=>exact hR
   |panic c=>exact hR
   |outgrown=>exact hR
def tC (s_:(List Int)):Bool→Exit→St→Prop:=
  fun r=>aU TT [.tmp 4] (vB r) (vT s_)
theorem r9 (s_:(List Int)) {r:Bool} (h:iF s_=some r):Fn Try.prog 67 [(.one (.own 0 true s_.length)),(sD (.fn 149 0 (nT [])))] (vT s_) (vB r) (vT s_):=by
 refine fN tT Try.func67 rfl rfl fun B=> ?_
 show bn _ _ _ _ _ _ ((tC s_) r) _
 unfold iF at h
 refine sz tT (afr s_) {} [] ?_
 refine aQ (bE h fun r_ hr_ h=> ?_)
 have q0:=vg s_ hr_
 refine rg tT ⟨[(4,(vB (decide (0≤r_))))],(vT s_)⟩ [_] {an:=[(2,cR q0 [0])] } [] ⟨q0,trivial⟩ ?_
 refine aR ?_
 obtain rfl:=oi h
 exact rl [(sB (decide (0≤r_)))]
def fB  :Bool→Exit→St→Prop:=
  fun r=>aU TT [.tmp 6] (vB r) []
section
variable (u0:(List Int)) (x:aA) (u1:Int) (p:ah)
abbrev uT:Nat × TV:=(7,(vO 11 true u0.length))
abbrev Uc:Nat × TV:=(20,(vD (aJ none 1 (aj .i64) x.sources)))
abbrev Uz:Nat × TV:=(21,(vI (x.sources.length:Int)))
abbrev afz:List (Nat × TV):=[(3,(vP 8 0)),(5,(vP 10 0)),(uT u0),(Uc x),(Uz x),(22,(vI u1))]
abbrev Nf:Nat × Option Ob:=(8,some (Yh p))
abbrev Nt:Nat × Option Ob:=(10,some (adh x))
abbrev OX:List (Nat × Option Ob):=[(Nf p),(Nt x),(11,some (CO u0))]
end
def wR (p:ah) (x:aA):((List Int) × Int)→St:=
  fun zz=>match zz with|(u0,u1)=> ⟨(afz u0 x u1),(OX u0 x p)⟩
section
variable (u0:(List Int)) (p:ah) (x:aA)
abbrev Zq:St:=⟨[(3,(vP 8 0)),(5,(vP 10 0)),(uT u0)],(OX u0 x p)⟩
end
def xB (p:ah) (x:aA):(List Int)→St:=
  fun u0=>(Zq u0 p x)
def Fh (p:ah) (x:aA):(aK ((List Int) × Int) (Ex (List Int) Bool))→Exit→St→Prop:=
  LQ 0 [] (wR p x) (xB p x) fB
section
variable (x:aA)
abbrev Pg:Nat × TV:=(41,(vD (aJ none 1 (aj .i64) x.links)))
abbrev QI:Nat × TV:=(42,(vI (x.links.length:Int)))
end
def wU (p:ah) (x:aA):((List Int) × Int)→St:=
  fun zz=>match zz with|(u0,u1)=> ⟨[(3,(vP 8 0)),(5,(vP 10 0)),(uT u0),(Pg x),(QI x),(43,(vI u1))],(OX u0 x p)⟩
def vM (p:ah) (x:aA):(List Int)→St:=
  fun u0=>(Zq u0 p x)
def ET (p:ah) (x:aA):(aK ((List Int) × Int) (Ex (List Int) Bool))→Exit→St→Prop:=
  LQ 2 [] (wU p x) (vM p x) fB
section
variable (x:aA) (u0:(List Int)) (p:ah) (u1:Int)
abbrev BO:Nat × TV:=(74,(vD (aJ none 2 af.cell x.racks)))
abbrev BL:Nat × TV:=(75,(vI (x.racks.length:Int)))
abbrev EO:List (Nat × Option Ob):=[(11,some (CO u0))]
abbrev acz:St:=⟨[(bC p),(uT u0),(BO x),(BL x),(76,(vI u1))],(EO u0)⟩
end
def wM (p:ah) (x:aA):((List Int) × Int)→St:=
  fun zz=>match zz with|(u0,u1)=>(acz x u0 p u1)
def wY  :(List Int)→St:=
  fun u0=> ⟨[(uT u0)],(EO u0)⟩
def oM (p:ah) (x:aA):(aK ((List Int) × Int) (Ex (List Int) Bool))→Exit→St→Prop:=
  LQ 4 [] (wM p x) wY fB
section
variable (x:aA) (u0:Int) (p:ah)
abbrev GH:Nat × TV:=(13,(ad6 x u0))
abbrev adA:List CV:=[(cI (PU p u0)),(cI (NA p u0))]
abbrev Ij:Nat × TV:=(86,(.v (.agg (adA u0 p))))
end
def vS (p:ah) (x:aA) (u0:Int):((List Int) × Int)→St:=
  fun zz=>match zz with|(u1,u2)=> ⟨[(bC p),(uT u1),(GH x u0),(BO x),(BL x),(76,(vI u0)),(Ij u0 p),(87,(vI u2))],(EO u1)⟩
def xA (p:ah) (x:aA) (u1:Int):(List Int)→St:=
  fun u0=>(acz x u0 p u1)
def Fb (p:ah) (x:aA) (u0:Int):(aK ((List Int) × Int) (Ex (List Int) (aK ((List Int) × Int) (Ex (List Int) Bool))))→Exit→St→Prop:=
  LQ 6 [5] (vS p x u0) (xA p x u0) (oM p x)
section
variable (p:ah) (x:aA) (u6:(List Int)) (u5:Int) (u2:(List Int)) (u1:Int) (u7:(List Int)) (u0:Int) (u4:Int) (u3:(List Int))
abbrev Rc:=(List.replicate p.buses.toNat (0:Int))
abbrev agH:List (Nat × Option Ob):=[(Nf p),(Nt x),(11,some (bO 3 1 (aj .i64) (Rc p)))]
abbrev adB:=(u6.set ((Dm p u5).toNat) (IntKind.wrap .i64 ((at' u6 ((Dm p u5).toNat))+(at' x.sources u5.toNat))))
abbrev acv:=(au (aj .i64) (adB p x u6 u5))
abbrev aft:Nat × TV:=(7,(vO 11 true ((adB p x u6 u5).length)))
abbrev afU:List (Nat × Option Ob):=[(Nf p),(Nt x),(11,some (bO 3 1 (aj .i64) (adB p x u6 u5)))]
abbrev agD:List (Nat × TV):=[(3,(vP 8 0)),(5,(vP 10 0)),(uT u2),(10,(vI u1)),(11,(vI (at' x.links u1.toNat))),(Pg x),(QI x),(43,(vI u1))]
abbrev R4:=(u2.set (UC u1 p) (IntKind.wrap .i64 ((at' u2 (UC u1 p)) - (at' x.links u1.toNat))))
abbrev ZO:=(au (aj .i64) (R4 p x u2 u1))
abbrev ajr:Nat × TV:=(7,(vO 11 true ((R4 p x u2 u1).length)))
abbrev aja:=(IntKind.wrap .i64 ((at' (R4 p x u2 u1) (XM u1 p))+(at' x.links u1.toNat)))
abbrev abX:=((R4 p x u2 u1).set (XM u1 p) (aja p x u2 u1))
abbrev ady:=(au (aj .i64) (abX p x u2 u1))
abbrev aiC:Nat × TV:=(7,(vO 11 true ((abX p x u2 u1).length)))
abbrev ah6:List (Nat × Option Ob):=[(Nf p),(Nt x),(11,some (bO 3 1 (aj .i64) (abX p x u2 u1)))]
abbrev aiV:List (Nat × TV):=[(bC p),(uT u7),(GH x u0),(BO x),(BL x),(76,(vI u0)),(Ij u0 p),(87,(vI 0))]
abbrev Xh:=(at' [(UH p u0).e0,(UH p u0).e1] u4.toNat)
abbrev aai:Nat × TV:=(15,(vI (Xh p u0 u4)))
abbrev acM:Nat × TV:=(92,(vB (decide (0≤(Xh p u0 u4)))))
abbrev T9:=((Xh p u0 u4).toNat)
abbrev aii:=(IntKind.wrap .i64 ((at' u3 (T9 p u0 u4)) - ((at' x.racks u0.toNat).e0)))
abbrev adm:=(u3.set (T9 p u0 u4) (aii p x u0 u4 u3))
abbrev acW:=(au (aj .i64) (adm p x u0 u4 u3))
abbrev afp:Nat × TV:=(7,(vO 11 true ((adm p x u0 u4 u3).length)))
abbrev ai8:List (Nat × Option Ob):=[(11,some (bO 3 1 (aj .i64) (adm p x u0 u4 u3)))]
abbrev ag3:=(IntKind.wrap .i64 ((at' u3 (T9 p u0 u4)) - ((at' x.racks u0.toNat).e1)))
abbrev adG:=(u3.set (T9 p u0 u4) (ag3 p x u0 u4 u3))
abbrev acF:=(au (aj .i64) (adG p x u0 u4 u3))
abbrev agN:Nat × TV:=(7,(vO 11 true ((adG p x u0 u4 u3).length)))
abbrev agv:List (Nat × Option Ob):=[(11,some (bO 3 1 (aj .i64) (adG p x u0 u4 u3)))]
end
theorem EA (p:ah) (s_:State) (x:aA) {r:Bool} (h:tF p s_ x=some r):Fn Try.prog 130 (YD p s_ x) [] (vB r) []:=by
 refine fN tT Try.func130 rfl rfl fun B=> ?_
 show bn _ _ _ _ _ _ (fB r) _
 unfold tF at h
 refine sz tT ⟨[(3,(vP 8 0)),(5,(vP 10 0))],[(Nf p),(Nt x)]⟩ {fr:=[(0,8),(1,9),(2,10)] } [] ?_
 refine aQ (aO h fun⟨a1,a2,a3⟩ h=> ?_)
 refine rg tT ⟨[(3,(vP 8 0)),(5,(vP 10 0)),(7,(vO 11 true ((Rc p).length)))],(agH p x)⟩ [_,(p.buses:Int)=p.buses,_,_,(Rc p).length=p.buses.toNat,aC p.buses.toNat 1 (fun _ j=>[(.int .i64 0)].getD j .nilp) (au (aj .i64) (Rc p))] {an:=[(2, .arr (Rc p).length (au (aj .i64) (Rc p)))],fr:=[(2,11)] } [] ⟨a1,rfl,a2,a3,(List.length_replicate),(cZ _ _ _ _ _ (fun j hj=>(match j,hj with|0,_=>rfl))),trivial⟩ ?_
 refine aQ (sz tT ⟨[(3,(vP 8 0)),(5,(vP 10 0)),(7,(vO 11 true ((Rc p).length))),(Uc x),(Uz x),(22,(vI 0))],(agH p x)⟩ {} [] ?_)
 refine bE h fun y hy h=> ?_
 refine aL [] (wR p x) (xB p x) fB hy (fun s f h=> ?_) ?_
 ·clear hy
  show bn _ _ _ _ _ _ ((Fh p x) f) _
  unfold vK at h
  obtain⟨u6,u5⟩:=s
  refine sz tT ⟨[(3,(vP 8 0)),(5,(vP 10 0)),(uT u6),(Uc x),(Uz x),(22,(vI u5)),(23,(vB (decide (u5<(x.sources.length:Int)))))],(OX u6 x p)⟩ {} [] ?_
  refine aQ ?_
  refine bI h (fun hb h=> ?_) (fun hb h=> ?_)
  ·refine ct hb ?_
   refine aP (aQ (aB (aQ (aO h fun a1 h=> ?_))))
   refine rg tT ⟨[(3,(vP 8 0)),(5,(vP 10 0)),(uT u6),(8,(vI u5)),(9,(vI (at' x.sources u5.toNat))),(Uc x),(Uz x),(22,(vI u5))],(OX u6 x p)⟩ [_] {} [] ⟨a1,trivial⟩ ?_
   refine aO h fun⟨a1,a2⟩ h=> ?_
   refine ri tT ⟨(afz u6 x u5),[(Nf p),(Nt x),(11,some (.arr 3 1 u6.length (acv p x u6 u5)))]⟩ [_,_,_,_,_,aC u6.length 1 (jS (au (aj .i64) u6) ((Dm p u5).toNat) 0 [(.int .i64 (IntKind.wrap .i64 ((at' u6 ((Dm p u5).toNat))+(at' x.sources u5.toNat))))]) (acv p x u6 u5)] {an:=[(12, .arr 0 (acv p x u6 u5))] } [] ⟨a1,a2,(tL a2),a2,(tL a2),(bD _ _ _ _ _ _ _ _ rfl (fun j hj=>(match j,hj with|0,_=>rfl))),trivial⟩ (bG.le (st':=⟨[(3,(vP 8 0)),(5,(vP 10 0)),(aft p x u6 u5),(Uc x),(Uz x),(22,(vI u5))],(afU p x u6 u5)⟩) ⟨⟨tR,tR,⟨_,rfl,cu.v (dm.one cW)⟩,tR,tR,tR,trivial⟩,(hN 2 ⟨rfl,oW,trivial⟩)⟩) ?_
   refine rz tT ⟨[(3,(vP 8 0)),(5,(vP 10 0)),(aft p x u6 u5),(Uc x),(Uz x),(22,(k28 u5))],(afU p x u6 u5)⟩ {} [] ?_
   obtain rfl:=oi h
   exact lN
  ·refine cf hb ?_
   refine aI (fz (Zq u6 p x) []) ?_
   refine aX ?_
   obtain rfl:=oi h
   exact lB
 ·clear hy
  cases y with
  |brk z=>
   obtain⟨u8,rfl⟩: ∃q,q=z:=⟨_,rfl⟩
   unfold dU
   refine⟨_, .refl, ?_⟩
   refine aQ (sz tT ⟨[(3,(vP 8 0)),(5,(vP 10 0)),(uT u8),(Pg x),(QI x),(43,(vI 0))],(OX u8 x p)⟩ {} [] ?_)
   refine bE h fun y1 hy h=> ?_
   refine aL [] (wU p x) (vM p x) fB hy (fun s f h=> ?_) ?_
   ·clear hy
    show bn _ _ _ _ _ _ ((ET p x) f) _
    unfold wX at h
    obtain⟨u2,u1⟩:=s
    refine sz tT ⟨[(3,(vP 8 0)),(5,(vP 10 0)),(uT u2),(Pg x),(QI x),(43,(vI u1)),(44,(vB (decide (u1<(x.links.length:Int)))))],(OX u2 x p)⟩ {} [] ?_
    refine aQ ?_
    refine bI h (fun hb1 h=> ?_) (fun hb1 h=> ?_)
    ·refine ct hb1 ?_
     refine aP (aQ (aB (aQ (aO h fun a1 h=> ?_))))
     refine rg tT ⟨(agD x u2 u1),(OX u2 x p)⟩ [_] {} [] ⟨a1,trivial⟩ ?_
     refine aQ (aO h fun⟨a1,a2⟩ h=> ?_)
     refine ri tT ⟨(agD x u2 u1),[(Nf p),(Nt x),(11,some (.arr 3 1 u2.length (ZO p x u2 u1)))]⟩ [_,_,_,_,_,aC u2.length 1 (jS (au (aj .i64) u2) (UC u1 p) 0 [(.int .i64 (IntKind.wrap .i64 ((at' u2 (UC u1 p)) - (at' x.links u1.toNat))))]) (ZO p x u2 u1)] {an:=[(12, .arr 0 (ZO p x u2 u1))] } [] ⟨a1,a2,(tL a2),a2,(tL a2),(bD _ _ _ _ _ _ _ _ rfl (fun j hj=>(match j,hj with|0,_=>rfl))),trivial⟩ (bG.le (st':=⟨[(3,(vP 8 0)),(5,(vP 10 0)),(ajr p x u2 u1),(10,(vI u1)),(11,(vI (at' x.links u1.toNat))),(Pg x),(QI x),(43,(vI u1))],[(Nf p),(Nt x),(11,some (bO 3 1 (aj .i64) (R4 p x u2 u1)))]⟩) ⟨⟨tR,tR,⟨_,rfl,cu.v (dm.one cW)⟩,tR,tR,tR,tR,tR,trivial⟩,(hN 2 ⟨rfl,oW,trivial⟩)⟩) ?_
     refine aO h fun⟨a1,a2⟩ h=> ?_
     refine ri tT ⟨[(3,(vP 8 0)),(5,(vP 10 0)),(ajr p x u2 u1),(Pg x),(QI x),(43,(vI u1))],[(Nf p),(Nt x),(11,some (.arr 3 1 (R4 p x u2 u1).length (ady p x u2 u1)))]⟩ [_,_,_,_,_,aC (R4 p x u2 u1).length 1 (jS (ZO p x u2 u1) (XM u1 p) 0 [(.int .i64 (aja p x u2 u1))]) (ady p x u2 u1)] {an:=[(12, .arr 0 (ady p x u2 u1))] } [] ⟨a1,a2,(tL a2),a2,(tL a2),(bD _ _ _ _ _ _ _ _ rfl (fun j hj=>(match j,hj with|0,_=>rfl))),trivial⟩ (bG.le (st':=⟨[(3,(vP 8 0)),(5,(vP 10 0)),(aiC p x u2 u1),(Pg x),(QI x),(43,(vI u1))],(ah6 p x u2 u1)⟩) ⟨⟨tR,tR,⟨_,rfl,cu.v (dm.one cW)⟩,tR,tR,tR,trivial⟩,(hN 2 ⟨rfl,oW,trivial⟩)⟩) ?_
     refine rz tT ⟨[(3,(vP 8 0)),(5,(vP 10 0)),(aiC p x u2 u1),(Pg x),(QI x),(43,(k28 u1))],(ah6 p x u2 u1)⟩ {} [] ?_
     obtain rfl:=oi h
     exact lN
    ·refine cf hb1 ?_
     refine aI (fz (Zq u2 p x) []) ?_
     refine aX ?_
     obtain rfl:=oi h
     exact lB
   ·clear hy
    cases y1 with
    |brk z=>
     obtain⟨u9,rfl⟩: ∃q,q=z:=⟨_,rfl⟩
     unfold dU
     refine⟨_, .refl, ?_⟩
     refine aQ (sz tT ⟨[(bC p),(uT u9),(BO x),(BL x),(76,(vI 0))],(EO u9)⟩ {} [8] ?_)
     refine bE h fun y3 hy h=> ?_
     refine aL [] (wM p x) wY fB hy (fun s f h=> ?_) ?_
     ·clear hy
      show bn _ _ _ _ _ _ ((oM p x) f) _
      unfold wF at h
      obtain⟨u7,u0⟩:=s
      refine sz tT ⟨[(bC p),(uT u7),(BO x),(BL x),(76,(vI u0)),(77,(vB (decide (u0<(x.racks.length:Int)))))],(EO u7)⟩ {} [] ?_
      refine aQ ?_
      refine bI h (fun hb6 h=> ?_) (fun hb6 h=> ?_)
      ·refine ct hb6 ?_
       refine aP (aQ (aB (aQ (aO h fun a1 h=> ?_))))
       refine rg tT ⟨[(bC p),(uT u7),(12,(vI u0)),(GH x u0),(BO x),(BL x),(76,(vI u0))],(EO u7)⟩ [_] {fr:=[(3,15)] } [15] ⟨a1,trivial⟩ ?_
       refine aQ (aO h fun a1 h=> ?_)
       refine rg tT ⟨(aiV p x u7 u0),(EO u7)⟩ [_] {} [] ⟨a1,trivial⟩ ?_
       refine bE h fun y2 hy h=> ?_
       refine aL [5] (vS p x u0) (xA p x u0) (oM p x) hy (fun s f h=> ?_) ?_
       ·clear hy
        show bn _ _ _ _ _ _ ((Fb p x u0) f) _
        unfold vX at h
        obtain⟨u3,u4⟩:=s
        refine sz tT ⟨[(bC p),(uT u3),(GH x u0),(BO x),(BL x),(76,(vI u0)),(Ij u0 p),(87,(vI u4)),(88,(vB (decide (u4<2))))],(EO u3)⟩ {} [] ?_
        refine aQ ?_
        refine bI h (fun hb5 h=> ?_) (fun hb5 h=> ?_)
        ·refine ct hb5 ?_
         refine aP (aQ (aB (aQ (aO h fun a1 h=> ?_))))
         refine rg tT ⟨[(bC p),(uT u3),(GH x u0),(14,(vI u4)),(aai p u0 u4),(BO x),(BL x),(76,(vI u0)),(Ij u0 p),(87,(vI u4))],(EO u3)⟩ [_,u4.toNat*1+1≤(adA u0 p).length,((adA u0 p).drop (u4.toNat*1)).take 1=[(.int .i64 (Xh p u0 u4))].map .d] {an:=[(1, .vals [(.int .i64 (Xh p u0 u4))])] } [] ⟨a1,(X8 (n:=2) (sz:=1) (Nat.le_refl _) a1),(Xr (n:=2) (sz:=1) (g:=fun q=>[(cI (at' [(UH p u0).e0,(UH p u0).e1] q))]) (by intro q hq;match q,hq with|0,_=>rfl|1,_=>rfl) a1),trivial⟩ ?_
         refine sz tT ⟨[(bC p),(uT u3),(GH x u0),(14,(vI u4)),(aai p u0 u4),(BO x),(BL x),(76,(vI u0)),(Ij u0 p),(87,(vI u4)),(acM p u0 u4)],(EO u3)⟩ {} [] ?_
         refine bI h (fun hb4 h=> ?_) (fun hb4 h=> ?_)
         ·refine ct hb4 ?_
          refine bI h (fun hb2 h=> ?_) (fun _ h=> ?_)
          ·skip
           refine aI (bG.le (st':=⟨[(bC p),(uT u3),(GH x u0),(14,(vI 0)),(aai p u0 u4),(BO x),(BL x),(76,(vI u0)),(Ij u0 p),(87,(vI 0)),(acM p u0 u4)],(EO u3)⟩) ⟨⟨tR,tR,tR,⟨_,rfl,cu.v (dm.one (cK.of (congrArg (fun n=>CV.d (.int .i64 n)) (of_decide_eq_true hb2))))⟩,tR,tR,tR,tR,tR,⟨_,rfl,cu.v (dm.one (cK.of (congrArg (fun n=>CV.d (.int .i64 n)) (of_decide_eq_true hb2))))⟩,tR,trivial⟩,(.refl _)⟩) ?_
           refine aO h fun a1 h=> ?_
           refine di tT mX ⟨(aiV p x u3 u0),[(11,some (.arr 3 1 u3.length (acW p x u0 u4 u3)))]⟩ [_,_,(0:Int)≤0∧(0:Int)<(2:Nat),_,_,aC u3.length 1 (jS (au (aj .i64) u3) (T9 p u0 u4) 0 [(.int .i64 (aii p x u0 u4 u3))]) (acW p x u0 u4 u3)] {an:=[(9, .arr 0 (acW p x u0 u4 u3))] } [] ⟨a1,(tL a1),((by decide)),a1,(tL a1),(bD _ _ _ _ _ _ _ _ rfl (fun j hj=>(match j,hj with|0,_=>rfl))),trivial⟩ (bG.le (st':=⟨[(bC p),(afp p x u0 u4 u3),(GH x u0),(BO x),(BL x),(76,(vI u0)),(Ij u0 p),(87,(vI 0))],(ai8 p x u0 u4 u3)⟩) ⟨⟨tR,⟨_,rfl,cu.v (dm.one cW)⟩,tR,tR,tR,tR,tR,tR,trivial⟩,⟨rfl,oW,trivial⟩⟩) ?_
           refine rz tT ⟨[(bC p),(afp p x u0 u4 u3),(GH x u0),(BO x),(BL x),(76,(vI u0)),(Ij u0 p),(87,(vI 1))],(ai8 p x u0 u4 u3)⟩ {} [] ?_
           obtain rfl:=oi h
           exact lN
          ·skip
           refine aO h fun a1 h=> ?_
           refine aI (bG.le (st':=⟨[(bC p),(uT u3),(GH x u0),(14,(vI 1)),(aai p u0 u4),(BO x),(BL x),(76,(vI u0)),(Ij u0 p),(87,(vI 1)),(acM p u0 u4)],(EO u3)⟩) ⟨⟨tR,tR,tR,⟨_,rfl,cu.v (dm.one (cK.of (congrArg (fun n=>CV.d (.int .i64 n)) a1)))⟩,tR,tR,tR,tR,tR,⟨_,rfl,cu.v (dm.one (cK.of (congrArg (fun n=>CV.d (.int .i64 n)) a1)))⟩,tR,trivial⟩,(.refl _)⟩) ?_
           refine aO h fun a1 h=> ?_
           refine di tT mX ⟨[(bC p),(uT u3),(GH x u0),(BO x),(BL x),(76,(vI u0)),(Ij u0 p),(87,(vI 1))],[(11,some (.arr 3 1 u3.length (acF p x u0 u4 u3)))]⟩ [_,_,(0:Int)≤1∧(1:Int)<(2:Nat),_,_,aC u3.length 1 (jS (au (aj .i64) u3) (T9 p u0 u4) 0 [(.int .i64 (ag3 p x u0 u4 u3))]) (acF p x u0 u4 u3)] {an:=[(9, .arr 0 (acF p x u0 u4 u3))] } [] ⟨a1,(tL a1),((by decide)),a1,(tL a1),(bD _ _ _ _ _ _ _ _ rfl (fun j hj=>(match j,hj with|0,_=>rfl))),trivial⟩ (bG.le (st':=⟨[(bC p),(agN p x u0 u4 u3),(GH x u0),(BO x),(BL x),(76,(vI u0)),(Ij u0 p),(87,(vI 1))],(agv p x u0 u4 u3)⟩) ⟨⟨tR,⟨_,rfl,cu.v (dm.one cW)⟩,tR,tR,tR,tR,tR,tR,trivial⟩,⟨rfl,oW,trivial⟩⟩) ?_
           refine rz tT ⟨[(bC p),(agN p x u0 u4 u3),(GH x u0),(BO x),(BL x),(76,(vI u0)),(Ij u0 p),(87,(vI 2))],(agv p x u0 u4 u3)⟩ {} [] ?_
           obtain rfl:=oi h
           exact lN
         ·refine cf hb4 ?_
          refine aP (rz tT ⟨[(bC p),(uT u3),(GH x u0),(BO x),(BL x),(76,(vI u0)),(Ij u0 p),(87,(k28 u4))],(EO u3)⟩ {} [] ?_)
          obtain rfl:=oi h
          exact lN
        ·refine cf hb5 ?_
         refine aI (fz (acz x u3 p u0) []) ?_
         refine aX ?_
         obtain rfl:=oi h
         exact lB
       ·clear hy
        cases y2 with
        |brk z=>
         obtain⟨v0,rfl⟩: ∃q,q=z:=⟨_,rfl⟩
         unfold dU
         refine⟨_, .refl, ?_⟩
         refine rz tT ⟨[(bC p),(uT v0),(BO x),(BL x),(76,(k28 u0))],(EO v0)⟩ {} [] ?_
         obtain rfl:=oi h
         exact lN
        |ret v=>
         obtain rfl:=oi h
         unfold dU
         intro e st hn ha hR
         cases e with
         |normal=>exact absurd rfl hn
         |exit id=>simp only [rC (b:=5) ha rfl,cond_false];exact hR
         |goto l=>exact hR
         |ret=>exact hR
         |panic c=>exact hR
         |outgrown=>exact hR
      ·refine cf hb6 ?_
       refine aI (fz ⟨[(uT u7)],(EO u7)⟩ []) ?_
       refine aX ?_
       obtain rfl:=oi h
       exact lB
     ·clear hy
      cases y3 with
      |brk z=>
       obtain⟨v1,rfl⟩: ∃q,q=z:=⟨_,rfl⟩
       unfold dU
       refine⟨_, .refl, ?_⟩
       refine aQ (bE h fun r_ hr_ h=> ?_)
       have q0:=rk [(0,11)] (r9 v1 hr_)
       refine rg tT ⟨[(6,(vB (!r_)))],[]⟩ [_] {an:=[(1,cR q0 [11])] } [] ⟨q0,trivial⟩ ?_
       refine aR ?_
       obtain rfl:=oi h
       exact rl [(sB (!r_))]
      |ret v=>
       obtain rfl:=oi h
       unfold dU
       intro e st hn ha hR
       cases e with
       |normal=>exact absurd rfl hn
       |exit id=>exact hR
       |goto l=>exact hR
       |ret=>exact hR
       |panic c=>exact hR
       |outgrown=>exact hR
    |ret v=>
     obtain rfl:=oi h
     unfold dU
     intro e st hn ha hR
     cases e with
     |normal=>exact absurd rfl hn
     |exit id=>exact hR
     |goto l=>exact hR
     |ret=>exact hR
     |panic c=>exact hR
     |outgrown=>exact hR
  |ret v=>
   obtain rfl:=oi h
   unfold dU
   intro e st hn ha hR
   cases e with
   |normal=>exact absurd rfl hn
   |exit id=>exact hR
   |goto l=>exact hR
   |ret=>exact hR
   |panic c=>exact hR
   |outgrown=>exact hR
def BQ  :Int→Exit→St→Prop:=
  fun r=>aU TT [.tmp 6] (vI r) []
section
variable (x:aA) (p:ah)
abbrev ab5:=(!decide ((x.sources.length:Int)=(p.sources.length:Int)))
abbrev adn:=(bif (ab5 x p)then true else(!decide ((x.links.length:Int)=(p.links.length:Int))))
abbrev GI:List (Nat × Option Ob):=[(10,some abw)]
end
theorem Aw (p:ah) (s_:State) (x:aA) {r:Int} (h:nP p s_ x=some r):Fn Try.prog 48 (YD p s_ x) [] (vI r) []:=by
 refine fN tT Try.func48 rfl rfl fun B=> ?_
 show bn _ _ _ _ _ _ (BQ r) _
 unfold nP at h
 refine sz tT (aam p s_ x) {fr:=[(0,7),(1,8),(2,9)] } [7,8,9] ?_
 refine aQ (aQ (bE h fun r_ hr_ h=> ?_))
 have q0:=fK p s_ hr_
 refine rg tT ⟨[(bC p),(aY s_),(ve x),(7,(vI r_))],[]⟩ [_] {an:=[(2,cA q0 [])] } [] ⟨q0,trivial⟩ ?_
 refine sz tT ⟨[(bC p),(aY s_),(ve x),(7,(vI r_)),(14,(vB (!decide (r_=0))))],[]⟩ {} [] ?_
 refine bI h (fun hb4 h=> ?_) (fun hb4 h=> ?_)
 ·refine ct hb4 ?_
  refine sz tT ⟨[(6,(vI r_))],[]⟩ {} [] ?_
  refine aR ?_
  obtain rfl:=oi h
  exact rl [(sI r_)]
 ·refine cf hb4 ?_
  refine aP (aQ (sg tT ⟨[(bC p),(aY s_),(ve x),(40,(vB (bif (adn x p)then true else(!decide ((x.racks.length:Int)=(p.racks.length:Int))))))],[]⟩ (eqs (ab5 x p) 8 (eqs (adn x p) 8 [])) {yb:=[(7,(ab5 x p)),(16,(adn x p))] } [] (ae (ae trivial)) ?_))
  refine bI h (fun hb3 h=> ?_) (fun hb3 h=> ?_)
  ·refine ct hb3 ?_
   refine sz tT ⟨[(6,(vI 20))],[]⟩ {} [] ?_
   refine aR ?_
   obtain rfl:=oi h
   exact rl [(sI 20)]
  ·refine cf hb3 ?_
   refine aP (aQ (aQ (bE h fun u3 hr_1 h=> ?_)))
   have q0:=rk [(0,10)] (ER hr_1)
   refine rg tT ⟨[(bC p),(aY s_),(ve x),(41,(vO 10 true 3)),(42,(vI (3:Int))),(43,(vI 0))],GI⟩ [_] {an:=[(0,cA q0 [])] } [] ⟨q0,trivial⟩ ?_
   refine aB (Us 12 (AB 11 (sz tT ⟨[(bC p),(aY s_),(ve x),(41,(vO 10 true 3)),(42,(vI (3:Int))),(43,(vI 0)),(44,(vB true))],GI⟩ {} [] ?_)))
   refine aQ (ck (aP (aQ (aB (aQ (aO h fun a1 h=> ?_))))))
   refine rg tT ⟨[(bC p),(aY s_),(ve x),(9,(vD (mg [(.fn 128 0 (nT []))] 0))),(41,(vO 10 true 3)),(42,(vI (3:Int))),(43,(vI 0))],GI⟩ [_] {fr:=[(2,11)] } [11] ⟨a1,trivial⟩ ?_
   refine aQ (bE h fun u0 hr_2 h=> ?_)
   have q0:=F4 p s_ x hr_2
   refine rg tT ⟨[(bC p),(aY s_),(ve x),(41,(vO 10 true 3)),(42,(vI (3:Int))),(43,(vI 0)),(53,(vB (!u0)))],GI⟩ [_] {an:=[(5,cA q0 [])] } [] ⟨q0,trivial⟩ ?_
   refine bI h (fun hb2 h=> ?_) (fun hb2 h=> ?_)
   ·refine ct hb2 ?_
    refine sz tT ⟨[(6,(vI 20))],[]⟩ {} [] ?_
    refine aR ?_
    obtain rfl:=oi h
    exact rl [(sI 20)]
   ·refine cf hb2 ?_
    refine aP (rz tT ⟨[(bC p),(aY s_),(ve x),(41,(vO 10 true 3)),(42,(vI (3:Int))),(43,(vI 1))],GI⟩ {} [] ?_)
    refine AB 10 (sz tT ⟨[(bC p),(aY s_),(ve x),(41,(vO 10 true 3)),(42,(vI (3:Int))),(43,(vI 1)),(44,(vB true))],GI⟩ {} [] ?_)
    refine aQ (ck (aP (aQ (aB (aQ (aO h fun a1 h=> ?_))))))
    refine rg tT ⟨[(bC p),(aY s_),(ve x),(9,(vD (mg [(.fn 129 0 (nT []))] 0))),(41,(vO 10 true 3)),(42,(vI (3:Int))),(43,(vI 1))],GI⟩ [_] {fr:=[(2,12)] } [12] ⟨a1,trivial⟩ ?_
    refine aQ (bE h fun u1 hr_3 h=> ?_)
    have q0:=Jq p s_ x hr_3
    refine rg tT ⟨[(bC p),(aY s_),(ve x),(41,(vO 10 true 3)),(42,(vI (3:Int))),(43,(vI 1)),(53,(vB (!u1)))],GI⟩ [_] {an:=[(5,cA q0 [])] } [] ⟨q0,trivial⟩ ?_
    refine bI h (fun hb1 h=> ?_) (fun hb1 h=> ?_)
    ·refine ct hb1 ?_
     refine sz tT ⟨[(6,(vI 20))],[]⟩ {} [] ?_
     refine aR ?_
     obtain rfl:=oi h
     exact rl [(sI 20)]
    ·refine cf hb1 ?_
     refine aP (rz tT ⟨[(bC p),(aY s_),(ve x),(41,(vO 10 true 3)),(42,(vI (3:Int))),(43,(vI 2))],GI⟩ {} [] ?_)
     refine AB 9 (sz tT ⟨[(bC p),(aY s_),(ve x),(41,(vO 10 true 3)),(42,(vI (3:Int))),(43,(vI 2)),(44,(vB true))],GI⟩ {} [] ?_)
     refine aQ (ck (aP (aQ (aB (aQ (aO h fun a1 h=> ?_))))))
     refine rg tT ⟨[(bC p),(aY s_),(ve x),(9,(vD (mg [(.fn 130 0 (nT []))] 0))),(41,(vO 10 true 3)),(42,(vI (3:Int))),(43,(vI 2))],GI⟩ [_] {fr:=[(2,13)] } [13] ⟨a1,trivial⟩ ?_
     refine aQ (bE h fun u2 hr_4 h=> ?_)
     have q0:=EA p s_ x hr_4
     refine rg tT ⟨[(bC p),(aY s_),(ve x),(41,(vO 10 true 3)),(42,(vI (3:Int))),(43,(vI 2)),(53,(vB (!u2)))],GI⟩ [_] {an:=[(5,cA q0 [])] } [] ⟨q0,trivial⟩ ?_
     refine bI h (fun hb h=> ?_) (fun hb h=> ?_)
     ·refine ct hb ?_
      refine sz tT ⟨[(6,(vI 20))],[]⟩ {} [] ?_
      refine aR ?_
      obtain rfl:=oi h
      exact rl [(sI 20)]
     ·refine cf hb ?_
      refine aP (rz tT ⟨[(bC p),(aY s_),(ve x),(41,(vO 10 true 3)),(42,(vI (3:Int))),(43,(vI 3))],GI⟩ {} [] ?_)
      refine AB 8 (sz tT ⟨[(bC p),(aY s_),(ve x),(41,(vO 10 true 3)),(42,(vI (3:Int))),(43,(vI 3)),(44,(vB false))],GI⟩ {} [] ?_)
      refine aQ (cn (aX (sz tT ⟨[(6,(vI 0))],[]⟩ {} [] ?_)))
      refine aR ?_
      obtain rfl:=oi h
      exact rl [(sI 0)]
def Ia  :Int→Exit→St→Prop:=
  fun r=>aU TT [.tmp 8] (vI r) []
section
variable (p:ah) (s_:State) (x:aA)
abbrev qg:Nat × TV:=(4,(k5 p))
abbrev rE:Nat × TV:=(5,(k75 s_))
abbrev Zz:Nat × TV:=(6,(ah5 x))
end
theorem lT (p:ah) (s_:State) (x:aA) (u1:(List Bool)) {r:Int} (h:jv p s_ x u1=some r):Fn Try.prog 49 [(.agg (k1 p)),(.agg (QW s_)),(.agg (Zj x)),(sD (aJ none 1 ai u1))] [] (vI r) []:=by
 refine fN tT Try.func49 rfl rfl fun B=> ?_
 show bn _ _ _ _ _ _ (Ia r) _
 unfold jv at h
 refine sz tT ⟨[(3,(Jw u1)),(qg p),(rE s_),(Zz x)],[]⟩ {fr:=[(0,3),(1,4),(2,5)] } [3,4,5] ?_
 refine aQ (aQ (bE h fun r_ hr_ h=> ?_))
 have q0:=Aw p s_ x hr_
 refine rg tT ⟨[(3,(Jw u1)),(qg p),(rE s_),(Zz x),(9,(vI r_))],[]⟩ [_] {an:=[(3,cA q0 [])] } [] ⟨q0,trivial⟩ ?_
 refine sz tT ⟨[(3,(Jw u1)),(qg p),(rE s_),(Zz x),(9,(vI r_)),(17,(vB (!decide (r_=0))))],[]⟩ {} [] ?_
 refine bI h (fun hb1 h=> ?_) (fun hb1 h=> ?_)
 ·refine ct hb1 ?_
  refine sz tT ⟨[(8,(vI r_))],[]⟩ {} [] ?_
  refine aR ?_
  obtain rfl:=oi h
  exact rl [(sI r_)]
 ·refine cf hb1 ?_
  refine aP (aQ (bE h fun u0 hr_1 h=> ?_))
  have q0:=vF p s_ u1 hr_1
  refine rg tT ⟨[(Zz x),(10,(vI u0.1)),(11,(vI u0.2))],[]⟩ [_] {an:=[(3,cA q0 [])] } [] ⟨q0,trivial⟩ ?_
  refine aQ (aQ (bE h fun u2 hr_2 h=> ?_))
  refine rg tT ⟨[(11,(vI u0.2)),(33,(vB (bif (decide (u0.2=0))then(!decide (u0.1=u2))else false)))],[]⟩ (eqs (decide (u0.2=0)) 3 ((gP (gG [(2,(decide (u0.2=0)))]) [(2,true)]→All [Fn Try.prog 41 (aes x) [] (vI u2) []])::(eqs (decide (u0.2=0)) 2 []))) {yb:=[(2,(decide (u0.2=0)))],an:=[(5, .call [] (vI u2) [])] } [] (ae ⟨(fun hg=> ⟨(eY x (dJ hr_2 (aN hg))),trivial⟩),(ae trivial)⟩) ?_
  refine bI h (fun hb h=> ?_) (fun hb h=> ?_)
  ·refine ct hb ?_
   refine rz tT ⟨[(11,(vI 7))],[]⟩ {} [] ?_
   refine sz tT ⟨[(8,(vI 7))],[]⟩ {} [] ?_
   refine aR ?_
   obtain rfl:=oi h
   exact rl [(sI 7)]
  ·refine cf hb ?_
   refine aP (sz tT ⟨[(8,(vI u0.2))],[]⟩ {} [] ?_)
   refine aR ?_
   obtain rfl:=oi h
   exact rl [(sI u0.2)]
def rR  :Bool→Exit→St→Prop:=
  fun r=>aU TT [.tmp 4] (vB r) []
def xZ (a:(List Int)) (b:(List Int)):Int→St:=
  fun i=> ⟨[(jZ a),(uX b),(5,(vI i))],[]⟩
def yD  :Unit→St:=
  fun _=> ⟨[],[]⟩
def Gi (a:(List Int)) (b:(List Int)):(aK Int (Ex Unit Bool))→Exit→St→Prop:=
  LQ 0 [] (xZ a b) yD rR
theorem bU (a:(List Int)) (b:(List Int)) {r:Bool} (h:bK a b=some r):Fn Try.prog 54 [(sD (y7 a)),(sD (y7 b))] [] (vB r) []:=by
 refine fN tT Try.func54 rfl rfl fun B=> ?_
 show bn _ _ _ _ _ _ (rR r) _
 unfold bK at h
 refine sz tT (YM a b) {} [] ?_
 refine aQ (sz tT ⟨[(jZ a),(uX b),(10,(vB (!decide ((a.length:Int)=(b.length:Int)))))],[]⟩ {} [] ?_)
 refine bI h (fun hb2 h=> ?_) (fun hb2 h=> ?_)
 ·refine ct hb2 ?_
  refine sz tT ⟨[(4,(vB false))],[]⟩ {} [] ?_
  refine aR ?_
  obtain rfl:=oi h
  exact rl [(sB false)]
 ·refine cf hb2 ?_
  refine aP (aQ (sz tT ⟨[(jZ a),(uX b),(5,(vI 0))],[]⟩ {} [] ?_))
  refine bE h fun y hy h=> ?_
  refine aL [] (xZ a b) yD rR hy (fun s f h=> ?_) ?_
  ·clear hy
   show bn _ _ _ _ _ _ ((Gi a b) f) _
   unfold ja at h
   obtain⟨i,rfl⟩: ∃q,q=s:=⟨_,rfl⟩
   refine aQ (sz tT ⟨[(jZ a),(uX b),(5,(vI i)),(14,(Rs i a))],[]⟩ {} [] ?_)
   refine bI h (fun hb1 h=> ?_) (fun hb1 h=> ?_)
   ·refine ct hb1 ?_
    refine aP (aQ (aB (aQ (aO h fun⟨a1,a2⟩ h=> ?_))))
    refine dg tT mX ⟨[(jZ a),(uX b),(5,(vI i)),(25,(vB (!decide ((at' a i.toNat)=(at' b i.toNat)))))],[]⟩ [_,_] {} [] ⟨a1,a2,trivial⟩ ?_
    refine bI h (fun hb h=> ?_) (fun hb h=> ?_)
    ·refine ct hb ?_
     refine sz tT ⟨[(4,(vB false))],[]⟩ {} [] ?_
     refine aR ?_
     obtain rfl:=oi h
     exact lR bS (bT 0) bR (aU.mk (.inr rfl) (p:=[]) (l:=[(sB false)]) (by kernel_rfl) trivial (cu.refl _) trivial)
    ·refine cf hb ?_
     refine aP (rz tT ⟨[(jZ a),(uX b),(Ru i)],[]⟩ {} [] ?_)
     obtain rfl:=oi h
     exact lN
   ·refine cf hb1 ?_
    refine aI (fz ⟨[],[]⟩ []) ?_
    refine aX ?_
    obtain rfl:=oi h
    exact lB
  ·clear hy
   cases y with
   |brk z=>
    unfold dU
    refine⟨_, .refl, ?_⟩
    refine sz tT ⟨[(4,(vB true))],[]⟩ {} [] ?_
    refine aR ?_
    obtain rfl:=oi h
    exact rl [(sB true)]
   |ret v=>
    obtain rfl:=oi h
    unfold dU
    intro e st hn ha hR
    cases e with
    |normal=>exact absurd rfl hn
    |exit id=>exact hR
    |goto l=>exact hR
    |ret=>exact hR
    |panic c=>exact hR
    |outgrown=>exact hR
end
end Sg
