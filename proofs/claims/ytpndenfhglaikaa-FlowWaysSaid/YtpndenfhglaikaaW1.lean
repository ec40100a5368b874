import Derived.Test.YtpndenfhglaikaaW0
set_option linter.all false
namespace Sg
open Go Go.Proofs
set_option maxRecDepth 20000
noncomputable section
section
variable (p:au) (s_:ay) (r_:Int) (v0:Int) (v4:(Int × aH)) (v8:(List (Int × Int))) (u7:Int) (p1:(List aj)) (v5:(Int × aH)) (x0:(List Int)) (u4:(List (Int × Int))) (v9:(List (Int × Int))) (v7:Int) (u0:Int) (u2:(List aK)) (w0:Int) (x3:(Int × aH)) (p2:(List aM)) (p3:(List aK)) (x1:(List Int)) (x2:(List ah)) (u5:(List (Int × Int))) (x9:(List (ah × Int))) (v3:Int) (v6:(Int × aH)) (x5:(List cO)) (x6:(List (List Int))) (u1:aH) (i:Nat) (w5:(List Int)) (i1:Nat) (w6:(List Int)) (u3:(List (ah × Int))) (i2:Nat) (u9:(List ah))
abbrev Yy:List (Nat × Option Ob):=[(Az p),dz]
abbrev aes:St:=⟨[(2,(vP 63 0)),(gQ s_),(4,(vP 65 0))],(Yy p)⟩
abbrev adC:St:=⟨[(2,(vP 63 0)),(gQ s_),(4,(vP 65 0)),(7,(vI r_))],(Yy p)⟩
abbrev agA:St:=⟨[(2,(vP 63 0)),(gQ s_),(4,(vP 65 0)),(7,(vI r_)),(34,(vB (!decide (r_=0))))],(Yy p)⟩
abbrev VO:DV:=(bg none 1 (aC .i64) ([]:List Int))
abbrev agt:St:=⟨[(2,(vP 63 0)),(gQ s_),(4,(vP 65 0)),(og p)],(Yy p)⟩
abbrev Y0:List (Nat × TV):=[(2,(vP 63 0)),(gQ s_),(4,(vP 65 0)),(og p),(9,(vP 67 0))]
abbrev XU:=(IntKind.wrap .i64 ((IntKind.wrap .i64 ((IntKind.wrap .i64 ((1:Int)+p.ax))+(p.aF.length:Int)))+1))
abbrev WW:=((XU p).toNat)
abbrev FP:=(List.replicate (WW p) (([]:List Int):(List Int)))
abbrev TS:=((FP p).length)
abbrev aez:List CV:=[(.d nS),(.own 66 true (TS p))]
abbrev agH:Nat × Option Ob:=(67,some (.cells 161 (aez p)))
abbrev afA:=((XU p):Int)
abbrev ag3:=(ni uo (FP p))
abbrev WI:Nat × Option Ob:=(66,some (.rows 40 1 (FP p).length (ag3 p) none))
abbrev ab9:Nat × Option Ob:=(67,some (.cells 161 [(.own 68 false (([]:List cO).length)),(.own 66 true (TS p))]))
abbrev acv:Nat × Option Ob:=(68,some (dK 170 2 cO.cell ([]:List cO)))
abbrev Yo:=(aN (aC .i64) (Nt p))
abbrev XQ:=(aN ah.cell (Si p))
abbrev afI:List (Nat × Option Ob):=[(Az p),dz,(WI p),(ab9 p),acv,(V7 p),(Oe p),(LW p),(Vw p),(73,some Tq),Xv,NA]
abbrev Ux:Nat × TV:=(15,(aim p v0))
abbrev Ol:Nat × Option Ob:=(66,some (.rows 40 1 v4.2.from_.length (ni uo v4.2.from_) none))
abbrev OB:Ob:=(Kl 3 3 false false 1 1 (aC .i64) (aC .i64) (dZ gm v0 v4.1 v8))
abbrev Ic:Ob:=(dK 170 2 cO.cell v4.2.bO)
abbrev agI:List (Nat × Option Ob):=[(Az p),dz,(Ol v4),(67,some (.cells 161 [(.own 83 false v4.2.bO.length),(.own 66 true v4.2.from_.length)])),(V7 p),(Oe p),(LW p),(Vw p),(73,some (OB v0 v4 v8)),Xv,NA,(83,some (Ic v4))]
abbrev Qn:=(vG (aC .i64) (dZ gm v0 v4.1 v8))
abbrev OM:=(xH (aC .i64) (dZ gm v0 v4.1 v8))
abbrev aaR:List (Nat × TV):=[(2,(vP 63 0)),(gQ s_),(4,(vP 65 0)),(og p),(9,(vP 67 0)),(10,(vP 72 0)),sF,qz,oK,(Jd p),(Jq p),(68,(k3 v0))]
abbrev aeh:Nat × Option Ob:=(67,some (.cells 161 [(.own 68 false v4.2.bO.length),(.own 66 true v4.2.from_.length)]))
abbrev Y6:Nat × TV:=(17,(YW p u7))
abbrev aeL:List (Nat × Option Ob):=[(Qk p p1),dz,(Ol v5),(67,some (.cells 161 [(.own 91 false v5.2.bO.length),(.own 66 true v5.2.from_.length)])),(nG x0),(Oe p),(LW p),(Zt p x0),(ER u4),(74,some (OB u7 v5 v9)),NA,(91,some (Ic v5))]
abbrev aaC:List (Nat × TV):=[(2,(vP 63 0)),(gQ s_),(4,(vP 65 0)),(og p),(9,(vP 67 0)),(10,(vP 72 0)),sF,qz,oK,(Jh p),(Jr p),(90,(k3 u7))]
abbrev agy:List (Nat × TV):=[(2,(vP 63 0)),(gQ s_),(4,(vP 65 0)),(8,(vI v7)),(9,(vP 67 0)),(10,(vP 72 0)),sF,qz,oK,(18,(vI u0)),(FB u2 u0),(Af u2),(116,(vI w0)),(117,(vI u0))]
abbrev YK:=(IntKind.wrap .i64 ((IntKind.wrap .i64 ((1:Int)+p.ax))+u0))
abbrev ahs:Nat × Option Ob:=(67,some (.cells 161 [(.own 111 false x3.2.bO.length),(.own 66 true x3.2.from_.length)]))
abbrev aic:List (Nat × Option Ob):=[(fA p p1 p2 p3),dz,(Ol x3),(ahs x3),(nG x0),(pJ x1),(ru x2),(rf x2 x0 x1),(ER u4),(Fe u5),(GN x9),(111,some (Ic x3))]
abbrev Wm:=(at' [(Lj u2 u0).e0,(Lj u2 u0).e1] v3.toNat)
abbrev YD:Nat × TV:=(21,(vI (Wm u0 u2 v3)))
abbrev Zi:List DV:=[(.int .i64 (Wm u0 u2 v3))]
abbrev adz:=(IntKind.wrap .i64 ((1:Int)+(Wm u0 u2 v3)))
abbrev agv:Nat × Option Ob:=(67,some (.cells 161 [(.own 115 false v6.2.bO.length),(.own 66 true v6.2.from_.length)]))
abbrev YF:Nat × Option Ob:=(115,some (Ic v6))
abbrev aaq:List (Nat × TV):=[(2,(vP 63 0)),(gQ s_),(4,(vP 65 0)),(8,(vI v7)),(9,(vP 67 0)),(10,(vP 72 0)),sF,qz,oK,(18,(vI u0)),(FB u2 u0),(Af u2),(116,(vI w0)),(117,(vI u0)),(Jk u2 u0),(134,(k3 v3))]
abbrev ady:List (Nat × TV):=[(2,(vP 63 0)),(gQ s_),(4,(vP 65 0)),(8,(vI v7)),(9,(vP 67 0)),(10,(vP 72 0)),sF,qz,oK,(Af u2),(116,(vI w0)),(117,(k3 u0))]
abbrev aeR:Nat × Option Ob:=(67,some (.cells 161 [(.own 68 false x5.length),(.d (bg (some true) 1 (Na 1 (aC .i64)) x6))]))
abbrev ahW:List (Nat × Option Ob):=[(zZ u1),(zK u1)]
abbrev aer:=((at' u1.bO ((IntKind.wrap .i64 (((BitVec.ofInt (IntKind.bits .i64) (at' (u4.map Prod.snd) i) ^^^ BitVec.ofInt (IntKind.bits .i64) 1).toNat:Int))).toNat)).left)
abbrev aaB:=(w5.set ((at' (u4.map Prod.fst) i).toNat) (aer u4 u1 i))
abbrev Tt:=(aN (aC .i64) (aaB u4 u1 i w5))
abbrev ad9:=(lg (aN (aC .i64) w5) ((at' (u4.map Prod.fst) i).toNat) 0 [(.int .i64 (aer u4 u1 i))])
abbrev aix:Ob:=(dK 3 1 (aC .i64) (aaB u4 u1 i w5))
abbrev aew:=((aaB u4 u1 i w5).length)
abbrev aeQ:=(IntKind.wrap .i64 (((at' p2 ((at' (u5.map Prod.fst) i1).toNat)).most) - ((at' u1.bO ((at' (u5.map Prod.snd) i1).toNat)).left)))
abbrev acQ:=(w6.set ((at' (u5.map Prod.fst) i1).toNat) (aeQ p2 u5 u1 i1))
abbrev Um:=(aN (aC .i64) (acQ p2 u5 u1 i1 w6))
abbrev afC:=(lg (aN (aC .i64) w6) ((at' (u5.map Prod.fst) i1).toNat) 0 [(.int .i64 (aeQ p2 u5 u1 i1))])
abbrev aio:Ob:=(dK 3 1 (aC .i64) (acQ p2 u5 u1 i1 w6))
abbrev afD:=((acQ p2 u5 u1 i1 w6).length)
abbrev XP:List CV:=[(cI ((at' (u3.map Prod.fst) i2).e0)),(cI ((at' (u3.map Prod.fst) i2).e1))]
abbrev acy:List (Nat × TV):=[(2,(vP 63 0)),(4,(vP 65 0)),(9,(vP 67 0)),(10,(vP 72 0)),(26,(vP 121 0)),(27,(vI (at' (u3.map Prod.snd) i2))),(208,(vP 118 0))]
abbrev Uy:=(((at' (u3.map Prod.fst) i2).e0).toNat)
abbrev acG:=(at' u1.bO ((IntKind.wrap .i64 (((BitVec.ofInt (IntKind.bits .i64) (at' (u3.map Prod.snd) i2) ^^^ BitVec.ofInt (IntKind.bits .i64) 1).toNat:Int))).toNat))
abbrev aaO:=(u9.set (Uy u3 i2) (⟨(acG u1 u3 i2).left,(at' u9 (Uy u3 i2)).e1⟩:ah))
abbrev UU:=(aN ah.cell (aaO u1 u3 i2 u9))
abbrev afB:List DV:=[(.int .i64 ((acG u1 u3 i2).left))]
abbrev adp:=(lg (aN ah.cell u9) (Uy u3 i2) 0 (afB u1 u3 i2))
abbrev afo:Ob:=(dK 164 2 ah.cell (aaO u1 u3 i2 u9))
abbrev aie:=((aaO u1 u3 i2 u9).length)
abbrev aa5:=(u9.set (Uy u3 i2) (⟨(at' u9 (Uy u3 i2)).e0,(acG u1 u3 i2).left⟩:ah))
abbrev Ti:=(aN ah.cell (aa5 u1 u3 i2 u9))
abbrev agG:=(lg (aN ah.cell u9) (Uy u3 i2) 1 (afB u1 u3 i2))
abbrev ahP:Ob:=(dK 164 2 ah.cell (aa5 u1 u3 i2 u9))
abbrev ahv:=((aa5 u1 u3 i2 u9).length)
abbrev Kj:=(List.replicate p.ax.toNat (false:Bool))
abbrev XA:Nat × Option Ob:=(122,some (dK 4 1 aD (Kj p)))
abbrev XB:Nat × Option Ob:=(123,some (.cells 27 [(.own 122 true ((Kj p).length))]))
abbrev Yc:=(aN aD (Kj p))
abbrev ain:List (Nat × TV):=[(2,(vP 63 0)),(4,(vP 65 0)),(10,(vP 72 0)),(28,(vP 123 0)),(235,(.v (.one (.fn 121 0 1 (Cv [(.ptr 124 0)])))))]
abbrev ag5:Ob:=(.cells 161 [(.d (bg none 2 cO.cell u1.bO)),(.d (Kc u1))])
abbrev ad4:Ob:=(.cells 157 [(.d (kK [(bg none 2 cO.cell u1.bO),(Kc u1)] 0))])
abbrev X3:DV:=(kK [(kK [(bg none 2 cO.cell u1.bO),(Kc u1)] 0)] 0)
abbrev ab3:TV:=(vD (.fn 121 1 (mM [(X3 u1)])))
abbrev aga:Nat × TV:=(235,(ab3 u1))
abbrev aef:List (Nat × TV):=[(2,(vP 63 0)),(4,(vP 65 0)),(10,(vP 72 0)),(28,(vP 123 0)),(aga u1)]
abbrev ae8:List CV:=[(.d (X3 u1))]
end
theorem Bt (p:au) (s_:ay) {r:(aS × (List Bool) × Int)} (h:jC p s_=some r):Fn Try.prog 32 (YI s_ p) [] (.iG [(.agg [(.d (bg none 1 (aC .i64) r.1.ai)),(.d (bg none 1 (aC .i64) r.1.af)),(.d (bg none 2 ah.cell r.1.aF))]),(sD (bg none 1 aD r.2.1)),(sI r.2.2)]) []:=by
 refine fN tT Try.func32 rfl rfl fun B=> ?_
 show bW _ _ _ _ _ _ (jg r) _
 unfold jC at h
 refine sz tT (aes p s_) {fr:=[(0,63),(1,64),(2,65)] } [64] ?_
 refine aQ (aQ (bE h fun r_ hr_ h=> ?_))
 have q0:=dU p s_ hr_
 refine rg tT (adC p s_ r_) [_] {an:=[(2,cA q0 [])] } [] ⟨q0,trivial⟩ ?_
 refine sz tT (agA p s_ r_) {} [] ?_
 refine bI h (fun hb9 h=> ?_) (fun hb9 h=> ?_)
 ·refine ct hb9 ?_
  refine sz tT ⟨[(4,(vD (kK [nS,nS,nS] 0))),(5,(vD nS)),(6,(vI r_))],[]⟩ {} [65] ?_
  refine aI (bZ.le (st':=⟨[(4,(vD (kK [VO,VO,(bg none 2 ah.cell ([]:List ah))] 0))),(5,(vD (bg none 1 aD ([]:List Bool)))),(6,(vI r_))],[]⟩) ⟨⟨⟨_,rfl,dY.v (eX.one (eD.d (Nn ⟨gX.nil',gX.nil',gX.nil',trivial⟩)))⟩,⟨_,rfl,dY.v (eX.one (eD.d gX.nil'))⟩,tR,trivial⟩,trivial⟩) ?_
  refine aR ?_
  obtain rfl:=oi h
  exact rl [(.agg [(.d VO),(.d VO),(.d (bg none 2 ah.cell ([]:List ah)))]),(sD (bg none 1 aD ([]:List Bool))),(sI r_)]
 ·refine cf hb9 ?_
  refine aP (sz tT (agt p s_) {} [] ?_)
  refine aQ (aO h fun⟨a1,a2,a3⟩ h=> ?_)
  refine ri tT ⟨(Y0 p s_),[(Az p),dz,(66,some (.arr 40 1 (FP p).length (fun _ j=>[nS].getD j .nilp))),(agH p)]⟩ [_,(afA p)=(XU p),_,_,(FP p).length=(WW p),aY (WW p) 1 (fun _ j=>[nS].getD j .nilp) (fun _ j=>[nS].getD j .nilp)] {an:=[(2, .arr (FP p).length (fun _ j=>[nS].getD j .nilp))],fr:=[(2,66),(4,67)] } [] ⟨a1,rfl,a2,a3,(List.length_replicate),(gN _ _ _),trivial⟩ (.trans (bZ.Xx (b:=66) (E:=40) (esz:=1) (len:=(FP p).length) (el:=(fun _ j=>[nS].getD j .nilp)) (el':=ni uo (FP p)) (by kernel_rfl) (fun i hi j hj=>match j,hj with|0,_=>QA _ _ _ _ _ _ _ _)) (.trans (fz ⟨(Y0 p s_),[(Az p),dz,(WI p),(agH p)]⟩ []) (.trans (bZ.AQ (E:=0) (esz:=0) (E0:=161) (cs:=(aez p)) (p:=67) (q:=0) (b:=68) (esz0:=0) (el0:=fun _ _=> .nilp) (ob:= .arr 170 2 0 (aN cO.cell ([]:List cO))) (fun _ _ _ _ h=> .inl ⟨h,rfl⟩) (by kernel_rfl) (by kernel_rfl) (by kernel_rfl)) (.trans (fz ⟨(Y0 p s_),[(Az p),dz,(WI p),(67,some (.cells 161 [(.own 68 false 0),(.own 66 true (TS p))])),(68,some (.arr 170 2 0 (aN cO.cell ([]:List cO))))]⟩ []) (bZ.le (st':=⟨(Y0 p s_),[(Az p),dz,(WI p),(ab9 p),acv]⟩) ⟨⟨tR,tR,tR,tR,tR,trivial⟩,(hN 3 ⟨rfl,bX ⟨cW,eD.refl _,trivial⟩,⟨rfl,oW,trivial⟩⟩)⟩))))) ?_
  refine aQ (aO h fun⟨a1,a2,a3,a4,a5,a6,a7,a8,a9⟩ h=> ?_)
  refine dg tT mX ⟨[(2,(vP 63 0)),(gQ s_),(4,(vP 65 0)),(og p),(9,(vP 67 0)),(10,(vP 72 0))],[(Az p),dz,(WI p),(ab9 p),acv,(V7 p),(Oe p),(LW p),(Vw p)]⟩ [_,((p.ai.length:Int):Int)=(p.ai.length:Int),_,_,(Nt p).length=(VW p),aY (VW p) 1 (fun _ j=>[(.int .i64 0)].getD j .nilp) (Yo p),_,((p.af.length:Int):Int)=(p.af.length:Int),_,_,(NK p).length=(Sc p),aY (Sc p) 1 (fun _ j=>[(.int .i64 0)].getD j .nilp) (TH p),_,((p.aF.length:Int):Int)=(p.aF.length:Int),_,_,(Si p).length=(Wp p),aY (Wp p) 2 (fun _ j=>[(.int .i64 0),(.int .i64 0)].getD j .nilp) (XQ p)] {an:=[(3, .arr (Nt p).length (Yo p)),(7, .arr (NK p).length (TH p)),(11, .arr (Si p).length (XQ p))],fr:=[(3,69),(7,70),(11,71),(13,72)] } [] ⟨a1,rfl,a2,a3,(List.length_replicate),(fB _ _ _ _ _ (fun j hj=>(match j,hj with|0,_=>rfl))),a4,rfl,a5,a6,(List.length_replicate),(fB _ _ _ _ _ (fun j hj=>(match j,hj with|0,_=>rfl))),a7,rfl,a8,a9,(List.length_replicate),(fB _ _ _ _ _ (fun j hj=>(match j,hj with|0,_=>rfl|1,_=>rfl))),trivial⟩ ?_
  refine sz tT ⟨(WE s_ p),(afI p)⟩ {an:=[(0, .map 0 (vG (aC .i64) ([]:(List (Int × Int)))) (xH (aC .i64) ([]:(List (Int × Int)))) []),(1, .map 0 (vG (aC .i64) ([]:(List (Int × Int)))) (xH (aC .i64) ([]:(List (Int × Int)))) []),(2, .map 0 (vG ah.cell ([]:(List (ah × Int)))) (xH (aC .i64) ([]:(List (ah × Int)))) [])],fr:=[(0,73),(1,74),(2,75)] } [] ?_
  refine aQ (sz tT ⟨[(2,(vP 63 0)),(gQ s_),(4,(vP 65 0)),(og p),(9,(vP 67 0)),(10,(vP 72 0)),sF,qz,oK,(Jd p),(Jq p),(68,(vI 0))],(afI p)⟩ {} [] ?_)
  refine bE h fun y hy h=> ?_
  refine aL [] (BB p s_) (Bv p s_) jg hy (fun s f h=> ?_) ?_
  ·clear hy
   show bW _ _ _ _ _ _ ((Jz p s_) f) _
   unfold sN at h
   obtain⟨n0,n1,v8,v0⟩:=s
   refine sz tT ⟨[(2,(vP 63 0)),(gQ s_),(4,(vP 65 0)),(og p),(9,(vP 67 0)),(10,(vP 72 0)),sF,qz,oK,(Jd p),(Jq p),(68,(vI v0)),(69,(vB (decide (v0<(p.ai.length:Int)))))],(Tx p n1 n0 v8)⟩ {} [] ?_
   refine aQ ?_
   refine bI h (fun hb1 h=> ?_) (fun hb1 h=> ?_)
   ·refine ct hb1 ?_
    refine aP (aQ (aB (aQ (aO h fun a1 h=> ?_))))
    refine rg tT ⟨[(2,(vP 63 0)),(gQ s_),(4,(vP 65 0)),(og p),(9,(vP 67 0)),(10,(vP 72 0)),sF,qz,oK,(14,(vI v0)),(Ux p v0),(Jd p),(Jq p),(68,(vI v0))],(Tx p n1 n0 v8)⟩ [_] {fr:=[(3,82)] } [82] ⟨a1,trivial⟩ ?_
    refine aQ (bE h fun ui hr_1 h=> ?_)
    have q0:=gJ p s_ v0 hr_1
    refine rg tT ⟨[(2,(vP 63 0)),(gQ s_),(4,(vP 65 0)),(og p),(9,(vP 67 0)),(10,(vP 72 0)),sF,qz,oK,(14,(vI v0)),(Ux p v0),(Jd p),(Jq p),(68,(vI v0)),(76,(vB ui))],(Tx p n1 n0 v8)⟩ [_] {an:=[(3,cA q0 [])] } [] ⟨q0,trivial⟩ ?_
    refine bI h (fun hb h=> ?_) (fun hb h=> ?_)
    ·refine ct hb ?_
     refine bE h fun v4 hr_2 h=> ?_
     have q0:=rk [(0,67),(1,68),(2,66),(3,83)] (dI 0 (IntKind.wrap .i64 ((1:Int)+((at' p.ai v0.toNat).bus))) ((at' p.ai v0.toNat).cK) 0 (⟨n0,n1⟩:aH) hr_2)
     refine rg tT ⟨(af9 p s_ v0),(agI p v0 v4 v8)⟩ [_,Ep [some .i64] 1 1 v8.length (vG (aC .i64) v8) (xH (aC .i64) v8) [(.int .i64 v0)] [(cI v4.1)] [] (dZ gm v0 v4.1 v8).length (Qn v0 v4 v8) (OM v0 v4 v8)] {an:=[(8,cA q0 [67,68,66]),(9, .map (dZ gm v0 v4.1 v8).length (Qn v0 v4 v8) (OM v0 v4 v8) [])] } [] ⟨q0,(su (fun _=>rfl) (fun _ _=>rfl) v8 v0 v4.1 rfl rfl),trivial⟩ ?_
     refine ri tT ⟨(aaR p s_ v0),(agI p v0 v4 v8)⟩ [] {} [] trivial (bZ.fin (st':=⟨(aaR p s_ v0),[(Az p),dz,(Ol v4),(aeh v4),(68,some (Ic v4)),(V7 p),(Oe p),(LW p),(Vw p),(73,some (OB v0 v4 v8)),Xv,NA]⟩) (cs:=[]) ⟨[],[(63,63),(65,65),(66,66),(67,67),(83,68),(69,69),(70,70),(71,71),(72,72),(73,73),(74,74),(75,75)]⟩ [2,3,4,8,9,10,11,12,13,66,67,68] (by kernel_rfl) trivial) ?_
     obtain rfl:=oi h
     exact lN
    ·refine cf hb ?_
     refine aP (rz tT ⟨(aaR p s_ v0),(Tx p n1 n0 v8)⟩ {} [] ?_)
     obtain rfl:=oi h
     exact lN
   ·refine cf hb1 ?_
    refine aI (fz ⟨(WE s_ p),(Tx p n1 n0 v8)⟩ []) ?_
    refine aX ?_
    obtain rfl:=oi h
    exact lB
  ·clear hy
   cases y with
   |brk z=>
    obtain⟨p1,ue,uc,x0,u4⟩:=z
    unfold fT
    refine⟨_, .refl, ?_⟩
    refine aQ (sz tT ⟨[(2,(vP 63 0)),(gQ s_),(4,(vP 65 0)),(og p),(9,(vP 67 0)),(10,(vP 72 0)),sF,qz,oK,(Jh p),(Jr p),(90,(vI 0))],(afm p p1 x0 uc ue u4)⟩ {} [] ?_)
    refine bE h fun y1 hy h=> ?_
    refine aL [] (Bz p s_ p1 x0 u4) (Bq p s_ p1 x0 u4) jg hy (fun s f h=> ?_) ?_
    ·clear hy
     show bW _ _ _ _ _ _ ((Je p s_ p1 x0 u4) f) _
     unfold sQ at h
     obtain⟨w7,w3,v9,u7⟩:=s
     refine sz tT ⟨[(2,(vP 63 0)),(gQ s_),(4,(vP 65 0)),(og p),(9,(vP 67 0)),(10,(vP 72 0)),sF,qz,oK,(Jh p),(Jr p),(90,(vI u7)),(91,(k98 p u7))],(Ug p v9 p1 w3 w7 x0 u4)⟩ {} [] ?_
     refine aQ ?_
     refine bI h (fun hb3 h=> ?_) (fun hb3 h=> ?_)
     ·refine ct hb3 ?_
      refine aP (aQ (aB (aQ (aO h fun a1 h=> ?_))))
      refine rg tT ⟨[(2,(vP 63 0)),(gQ s_),(4,(vP 65 0)),(og p),(9,(vP 67 0)),(10,(vP 72 0)),sF,qz,oK,(16,(vI u7)),(Y6 p u7),(Jh p),(Jr p),(90,(vI u7))],(Ug p v9 p1 w3 w7 x0 u4)⟩ [_] {fr:=[(3,90)] } [90] ⟨a1,trivial⟩ ?_
      refine aQ (bE h fun uj hr_3 h=> ?_)
      have q0:=eP (⟨p.ax,p1,p.af,p.aF⟩:au) s_ u7 hr_3
      refine rg tT ⟨[(2,(vP 63 0)),(gQ s_),(4,(vP 65 0)),(og p),(9,(vP 67 0)),(10,(vP 72 0)),sF,qz,oK,(16,(vI u7)),(Y6 p u7),(Jh p),(Jr p),(90,(vI u7)),(98,(vB uj))],(Ug p v9 p1 w3 w7 x0 u4)⟩ [_] {an:=[(3,cA q0 [])] } [] ⟨q0,trivial⟩ ?_
      refine bI h (fun hb2 h=> ?_) (fun hb2 h=> ?_)
      ·refine ct hb2 ?_
       refine bE h fun v5 hr_4 h=> ?_
       have q0:=rk [(0,67),(1,68),(2,66),(3,91)] (dI (IntKind.wrap .i64 ((1:Int)+((at' p.af u7.toNat).a))) (IntKind.wrap .i64 ((1:Int)+((at' p.af u7.toNat).b))) (R9 p u7) (R9 p u7) (⟨w7,w3⟩:aH) hr_4)
       refine rg tT ⟨(adI p s_ u7),(aeL p u7 p1 v5 x0 u4 v9)⟩ [_,Ep [some .i64] 1 1 v9.length (vG (aC .i64) v9) (xH (aC .i64) v9) [(.int .i64 u7)] [(cI v5.1)] [] (dZ gm u7 v5.1 v9).length (Qn u7 v5 v9) (OM u7 v5 v9)] {an:=[(13,cA q0 [67,68,66]),(14, .map (dZ gm u7 v5.1 v9).length (Qn u7 v5 v9) (OM u7 v5 v9) [])] } [] ⟨q0,(su (fun _=>rfl) (fun _ _=>rfl) v9 u7 v5.1 rfl rfl),trivial⟩ ?_
       refine ri tT ⟨(aaC p s_ u7),(aeL p u7 p1 v5 x0 u4 v9)⟩ [] {} [] trivial (bZ.fin (st':=⟨(aaC p s_ u7),[(Qk p p1),dz,(Ol v5),(aeh v5),(68,some (Ic v5)),(nG x0),(Oe p),(LW p),(Zt p x0),(ER u4),(74,some (OB u7 v5 v9)),NA]⟩) (cs:=[]) ⟨[],[(63,63),(65,65),(66,66),(67,67),(91,68),(69,69),(70,70),(71,71),(72,72),(73,73),(74,74),(75,75)]⟩ [2,3,4,8,9,10,11,12,13,88,89,90] (by kernel_rfl) trivial) ?_
       obtain rfl:=oi h
       exact lN
      ·refine cf hb2 ?_
       refine aP (rz tT ⟨(aaC p s_ u7),(Ug p v9 p1 w3 w7 x0 u4)⟩ {} [] ?_)
       obtain rfl:=oi h
       exact lN
     ·refine cf hb3 ?_
      refine aI (fz ⟨(WE s_ p),(Ug p v9 p1 w3 w7 x0 u4)⟩ []) ?_
      refine aX ?_
      obtain rfl:=oi h
      exact lB
    ·clear hy
     cases y1 with
     |brk z=>
      obtain⟨p2,uf,ud,x1,u5⟩:=z
      unfold fT
      refine⟨_, .refl, ?_⟩
      refine aQ (sz tT ⟨[(2,(vP 63 0)),(gQ s_),(4,(vP 65 0)),(og p),(9,(vP 67 0)),(10,(vP 72 0)),sF,qz,oK,(115,(vD (k6 p))),(116,(vI (p.aF.length:Int))),(117,(vI 0))],(aif p p1 p2 x1 ud uf x0 u4 u5)⟩ {} [] ?_)
      refine bE h fun y3 hy h=> ?_
      refine aL [] (Bo p s_ p1 x0 u4 p2 x1 u5) (Bg p p1 x0 u4 p2 x1 u5) jg hy (fun s f h=> ?_) ?_
      ·clear hy
       show bW _ _ _ _ _ _ ((sM p s_ p1 x0 u4 p2 x1 u5) f) _
       unfold sU at h
       obtain⟨p3,v7,x7,w9,x2,x9,u2,w0,u0⟩:=s
       refine sz tT ⟨[(2,(vP 63 0)),(gQ s_),(4,(vP 65 0)),(8,(vI v7)),(9,(vP 67 0)),(10,(vP 72 0)),sF,qz,oK,(Af u2),(116,(vI w0)),(117,(vI u0)),(118,(vB (decide (u0<w0))))],(Vl p p1 p2 p3 x2 x0 x1 x9 w9 x7 u4 u5)⟩ {} [] ?_
       refine aQ ?_
       refine bI h (fun hb6 h=> ?_) (fun hb6 h=> ?_)
       ·refine ct hb6 ?_
        refine aP (aQ (aB (aQ (aO h fun a1 h=> ?_))))
        refine rg tT ⟨(agy s_ v7 u0 u2 w0),(Vl p p1 p2 p3 x2 x0 x1 x9 w9 x7 u4 u5)⟩ [_] {fr:=[(3,110)] } [110] ⟨a1,trivial⟩ ?_
        refine aQ (bE h fun x3 hr_5 h=> ?_)
        have q0:=rk [(0,67),(1,68),(2,66),(3,111)] (dI (YK p u0) v7 ((at' u2 u0.toNat).cK) 0 (⟨x7,w9⟩:aH) hr_5)
        refine rg tT ⟨(agy s_ v7 u0 u2 w0),(aic p p1 x0 u4 x3 p2 p3 x1 x2 u5 x9)⟩ [_] {an:=[(9,cA q0 [67,68,66])] } [] ⟨q0,trivial⟩ ?_
        refine sz tT ⟨[(2,(vP 63 0)),(gQ s_),(4,(vP 65 0)),(8,(vI v7)),(9,(vP 67 0)),(10,(vP 72 0)),sF,qz,oK,(18,(vI u0)),(FB u2 u0),(Af u2),(116,(vI w0)),(117,(vI u0)),(Jk u2 u0),(134,(vI 0))],(aic p p1 x0 u4 x3 p2 p3 x1 x2 u5 x9)⟩ {} [] ?_
        refine bE h fun y2 hy h=> ?_
        refine aL [5] (Bj p s_ p1 x0 u4 p2 x1 u5 p3 v7 x2 u2 w0 u0) (Bn p s_ p1 x0 u4 p2 x1 u5 p3 v7 x2 u2 w0 u0) (sM p s_ p1 x0 u4 p2 x1 u5) hy (fun s f h=> ?_) ?_
        ·clear hy
         show bW _ _ _ _ _ _ ((Jp p s_ p1 x0 u4 p2 x1 u5 p3 v7 x2 u2 w0 u0) f) _
         unfold sK at h
         obtain⟨w8,w4,w1,v3⟩:=s
         refine sz tT ⟨[(2,(vP 63 0)),(gQ s_),(4,(vP 65 0)),(8,(vI v7)),(9,(vP 67 0)),(10,(vP 72 0)),sF,qz,oK,(18,(vI u0)),(FB u2 u0),(Af u2),(116,(vI w0)),(117,(vI u0)),(Jk u2 u0),(134,(vI v3)),(135,(vB (decide (v3<2))))],(R6 p p1 p2 p3 w4 w8 x0 x1 x2 u4 u5 w1)⟩ {} [] ?_
         refine aQ ?_
         refine bI h (fun hb5 h=> ?_) (fun hb5 h=> ?_)
         ·refine ct hb5 ?_
          refine aP (aQ (aB (aQ (aO h fun a1 h=> ?_))))
          refine rg tT ⟨[(2,(vP 63 0)),(gQ s_),(4,(vP 65 0)),(8,(vI v7)),(9,(vP 67 0)),(10,(vP 72 0)),sF,qz,oK,(18,(vI u0)),(FB u2 u0),(20,(vI v3)),(YD u0 u2 v3),(Af u2),(116,(vI w0)),(117,(vI u0)),(Jk u2 u0),(134,(vI v3))],(R6 p p1 p2 p3 w4 w8 x0 x1 x2 u4 u5 w1)⟩ [_,v3.toNat*1+1≤(Wq u2 u0).length,((Wq u2 u0).drop (v3.toNat*1)).take 1=(Zi u0 u2 v3).map .d] {an:=[(1, .vals (Zi u0 u2 v3))] } [] ⟨a1,(Wv (n:=2) (sz:=1) (Nat.le_refl _) a1),(Vt (n:=2) (sz:=1) (g:=fun q=>[(cI (at' [(Lj u2 u0).e0,(Lj u2 u0).e1] q))]) (by intro q hq;match q,hq with|0,_=>rfl|1,_=>rfl) a1),trivial⟩ ?_
          refine aQ (bE h fun ul hr_6 h=> ?_)
          have q0:=lX s_ (Wm u0 u2 v3) hr_6
          refine rg tT ⟨[(2,(vP 63 0)),(gQ s_),(4,(vP 65 0)),(8,(vI v7)),(9,(vP 67 0)),(10,(vP 72 0)),sF,qz,oK,(18,(vI u0)),(FB u2 u0),(20,(vI v3)),(YD u0 u2 v3),(Af u2),(116,(vI w0)),(117,(vI u0)),(Jk u2 u0),(134,(vI v3)),(140,(vB ul))],(R6 p p1 p2 p3 w4 w8 x0 x1 x2 u4 u5 w1)⟩ [_] {an:=[(2,cA q0 [])] } [] ⟨q0,trivial⟩ ?_
          refine bI h (fun hb4 h=> ?_) (fun hb4 h=> ?_)
          ·refine ct hb4 ?_
           refine bE h fun v6 hr_7 h=> ?_
           have q0:=rk [(0,67),(1,111),(2,66),(3,115)] (dI (adz u0 u2 v3) (YK p u0) ((at' u2 u0.toNat).cK) 0 (⟨w8,w4⟩:aH) hr_7)
           refine rg tT ⟨(agh u2 u0 s_ v7 w0 v3),[(fA p p1 p2 p3),dz,(Ol v6),(agv v6),(nG x0),(pJ x1),(ru x2),(rf x2 x0 x1),(ER u4),(Fe u5),(75,some (Kl 164 3 true false 2 1 ah.cell (aC .i64) (dZ (fun a b=>(decide (a.e0=b.e0) && (decide (a.e1=b.e1) && true))) (⟨u0,v3⟩:ah) v6.1 w1))),(YF v6)]⟩ [_,Ep [some .i64,some .i64] 2 1 w1.length (vG ah.cell w1) (xH (aC .i64) w1) [(.int .i64 u0),(.int .i64 v3)] [(cI v6.1)] [] (dZ (fun a b=>(decide (a.e0=b.e0) && (decide (a.e1=b.e1) && true))) (⟨u0,v3⟩:ah) v6.1 w1).length (vG ah.cell (dZ (fun a b=>(decide (a.e0=b.e0) && (decide (a.e1=b.e1) && true))) (⟨u0,v3⟩:ah) v6.1 w1)) (xH (aC .i64) (dZ (fun a b=>(decide (a.e0=b.e0) && (decide (a.e1=b.e1) && true))) (⟨u0,v3⟩:ah) v6.1 w1))] {an:=[(14,cA q0 [67,111,66]),(15, .map (dZ (fun a b=>(decide (a.e0=b.e0) && (decide (a.e1=b.e1) && true))) (⟨u0,v3⟩:ah) v6.1 w1).length (vG ah.cell (dZ (fun a b=>(decide (a.e0=b.e0) && (decide (a.e1=b.e1) && true))) (⟨u0,v3⟩:ah) v6.1 w1)) (xH (aC .i64) (dZ (fun a b=>(decide (a.e0=b.e0) && (decide (a.e1=b.e1) && true))) (⟨u0,v3⟩:ah) v6.1 w1)) [])] } [] ⟨q0,(su (fun _=>rfl) (fun _ _=>rfl) w1 (⟨u0,v3⟩:ah) v6.1 rfl rfl),trivial⟩ ?_
           refine ri tT ⟨(aaq s_ v7 u0 u2 w0 v3),[(fA p p1 p2 p3),dz,(Ol v6),(agv v6),(nG x0),(pJ x1),(ru x2),(rf x2 x0 x1),(ER u4),(Fe u5),(75,some (Kl 164 3 true false 2 1 ah.cell (aC .i64) (dZ (fun a b=>(decide (a.e0=b.e0) && (decide (a.e1=b.e1) && true))) (⟨u0,v3⟩:ah) v6.1 w1))),(YF v6)]⟩ [] {} [] trivial (bZ.fin (st':=⟨(aaq s_ v7 u0 u2 w0 v3),[(fA p p1 p2 p3),dz,(Ol v6),(ahs v6),(nG x0),(pJ x1),(ru x2),(rf x2 x0 x1),(ER u4),(Fe u5),(75,some (Kl 164 3 true false 2 1 ah.cell (aC .i64) (dZ (fun a b=>(decide (a.e0=b.e0) && (decide (a.e1=b.e1) && true))) (⟨u0,v3⟩:ah) v6.1 w1))),(111,some (Ic v6))]⟩) (cs:=[]) ⟨[],[(63,63),(65,65),(66,66),(67,67),(69,69),(70,70),(71,71),(72,72),(73,73),(74,74),(75,75),(115,111)]⟩ [2,3,4,8,9,10,11,12,13,18,19,115,116,117,133,134] (by kernel_rfl) trivial) ?_
           obtain rfl:=oi h
           exact lN
          ·refine cf hb4 ?_
           refine aP (rz tT ⟨(aaq s_ v7 u0 u2 w0 v3),(R6 p p1 p2 p3 w4 w8 x0 x1 x2 u4 u5 w1)⟩ {} [] ?_)
           obtain rfl:=oi h
           exact lN
         ·refine cf hb5 ?_
          refine aI (fz (adQ s_ v7 u2 w0 u0 p p1 p2 p3 w4 w8 x0 x1 x2 u4 u5 w1) []) ?_
          refine aX ?_
          obtain rfl:=oi h
          exact lB
        ·clear hy
         cases y2 with
         |brk z=>
          obtain⟨ub,x8,ug⟩:=z
          unfold fT
          refine⟨_, .refl, ?_⟩
          refine ri tT ⟨(ady s_ v7 u0 u2 w0),(R6 p p1 p2 p3 x8 ub x0 x1 x2 u4 u5 ug)⟩ [] {} [] trivial (bZ.fin (st':=⟨(ady s_ v7 u0 u2 w0),(Vl p p1 p2 p3 x2 x0 x1 ug x8 ub u4 u5)⟩) (cs:=[]) ⟨[],[(63,63),(65,65),(66,66),(67,67),(111,68),(69,69),(70,70),(71,71),(72,72),(73,73),(74,74),(75,75)]⟩ [2,3,4,8,9,10,11,12,13,115,116,117] (by kernel_rfl) trivial) ?_
          obtain rfl:=oi h
          exact lN
         |ret v=>
          obtain rfl:=oi h
          unfold fT
          intro e st hn ha hR
          cases e with
          |normal=>exact absurd rfl hn
          |exit id=>simp only [qB (b:=5) ha rfl,cond_false];exact hR
          |goto l=>exact hR
          |ret=>exact hR
          |panic c=>exact hR
          |outgrown=>exact hR
       ·refine cf hb6 ?_
        refine aI (fz (ahk v7 p p1 p2 p3 w9 x7 x0 x1 x2 u4 u5 x9) []) ?_
        refine aX ?_
        obtain rfl:=oi h
        exact lB
      ·clear hy
       cases y3 with
       |brk z=>
        obtain⟨v1,ua,x5,x6,v2,u3⟩:=z
        unfold fT
        refine⟨_, .refl, ?_⟩
        refine aQ (aI (.trans (fi ⟨(acT ua),[(fA p p1 p2 v1),dz,(67,some (.cells 161 [(.own 68 false x5.length),(.d (.sl (some true) 1 x6.length (fun i j=>evD (ni uo x6 i j))))])),(Nu x5),(nG x0),(pJ x1),(ru v2),(rf v2 x0 x1),(ER u4),(Fe u5),(GN u3)]⟩ [x6.length=x6.length] [66] ⟨rfl,trivial⟩) (bZ.le (st':=⟨(acT ua),[(fA p p1 p2 v1),dz,(aeR x5 x6),(Nu x5),(nG x0),(pJ x1),(ru v2),(rf v2 x0 x1),(ER u4),(Fe u5),(GN u3)]⟩) ⟨⟨tR,tR,tR,tR,tR,tR,tR,tR,trivial⟩,(hN 2 ⟨rfl,bX ⟨eD.refl _,eD.d (gX.sl (.inr rfl) (fun i _ j hj=>match j,hj with|0,_=> .refl _)),trivial⟩,(.refl _)⟩)⟩)) ?_)
        refine bE h fun u1 hr_8 h=> ?_
        refine rg tT ⟨[(2,(vP 63 0)),(4,(vP 65 0)),(9,(vP 67 0)),(10,(vP 72 0)),sF,qz,oK],[(fA p p1 p2 v1),dz,(zZ u1),(zK u1),(nG x0),(pJ x1),(ru v2),(rf v2 x0 x1),(ER u4),(Fe u5),(GN u3)]⟩ [Fn Try.prog 80 [(.one (.ptr 67 0)),(sI ua)] [(aeR x5 x6),(Nu x5)] (.iG []) (ahW u1)] {an:=[(2, .call [67,68] (.iG []) (ahW u1))] } [] ⟨(Fn.leH (args:=[(.one (.ptr 67 0)),(sI ua)]) (hin:=[(67,some (.cells 161 [(.own 68 false x5.length),(.d (QO x6))])),(Nu x5)]) (rK [(0,67),(1,68)] (pX ua (⟨x5,x6⟩:aH) hr_8)) ⟨eX.refl _,eX.refl _,trivial⟩ ⟨rfl,bX ⟨eD.refl _,eD.d gX.oP,trivial⟩,(.refl _)⟩),trivial⟩ ?_
        refine aQ (bE h fun y4 hy h=> ?_)
        refine nM (Jb p p1 p2 x1 u5 v1 v2 u3 u1) (K:=3) (V:=3) (s0:=(x0)) ⟨3,3,false,false,1,1,u4.length,vG (aC .i64) u4,xH (aC .i64) u4,[]⟩ 73 116 (fun i=>(sI (at' (u4.map Prod.fst) i))) (fun i=>(sI (at' (u4.map Prod.snd) i))) hy [3,4] (by kernel_rfl) (by kernel_rfl) (by kernel_rfl) (fun _ _=> ⟨rfl,rfl⟩) (fun _ _=> ⟨rR _ _,rR _ _⟩) (fun _=>(bZ.fin (st':=(af4 u1 p p1 p2 v1 x0 x1 v2 u5 u3)) (cs:=[]) ⟨[],[(63,63),(65,65),(67,67),(68,68),(69,69),(70,70),(71,71),(72,72),(74,74),(75,75),(116,116)]⟩ [2,4,9,10,12,13,162] (by kernel_rfl) trivial)) (fun s=>by obtain⟨w5,rfl⟩: ∃q,q=s:=⟨_,rfl⟩;kernel_rfl) (fun B s i s' hi h=> ?_) ?_
        ·clear hy
         unfold tC at h
         obtain⟨w5,rfl⟩: ∃q,q=s:=⟨_,rfl⟩
         refine rwp tT (⟨[(2,(vP 63 0)),(4,(vP 65 0)),(9,(vP 67 0)),(10,(vP 72 0)),qz,oK,(22,(vI (at' (u4.map Prod.fst) i))),(23,(vI (at' (u4.map Prod.snd) i))),(162,(vP 116 0))],(aee u1 p p1 p2 v1 w5 x1 v2 u5 u3)⟩) {fin:=⟨[],[(63,63),(65,65),(67,67),(68,68),(69,69),(70,70),(71,71),(72,72),(74,74),(75,75),(116,116)]⟩,ts:=[2,4,9,10,12,13,22,23,162] } (cs:=[]) (by kernel_rfl) trivial .refl ?_
         refine aO h fun⟨a1,a2⟩ h=> ?_
         refine di tT mX ⟨abZ,[(fA p p1 p2 v1),dz,(zZ u1),(zK u1),(69,some (.arr 3 1 w5.length (Tt u4 u1 i w5))),(pJ x1),(ru v2),(rf v2 w5 x1),(Fe u5),(GN u3),(116,none)]⟩ [_,_,_,_,aY w5.length 1 (ad9 u4 u1 i w5) (Tt u4 u1 i w5)] {an:=[(13, .arr 0 (Tt u4 u1 i w5))] } [] ⟨a1,(tL a1),a2,(tL a2),(cZ _ _ _ _ _ _ _ _ rfl (fun j hj=>(match j,hj with|0,_=>rfl))),trivial⟩ (bZ.le (st':=⟨abZ,[(fA p p1 p2 v1),dz,(zZ u1),(zK u1),(69,some (aix u4 u1 i w5)),(pJ x1),(ru v2),(72,some (.cells 77 [(.own 69 true (aew u4 u1 i w5)),(.own 70 true x1.length),(.own 71 true v2.length)])),(Fe u5),(GN u3),(116,none)]⟩) ⟨⟨tR,tR,tR,tR,tR,tR,tR,trivial⟩,(hN 4 ⟨rfl,oW,(hN 2 ⟨rfl,bX ⟨cW,eD.refl _,eD.refl _,trivial⟩,(.refl _)⟩)⟩)⟩) ?_
         obtain rfl:=oi h
         exact⟨.inl rfl,by kernel_rfl⟩
        ·clear hy
         obtain⟨u6,rfl⟩: ∃q,q=y4:=⟨_,rfl⟩
         refine aI (fz ⟨[(2,(vP 63 0)),(4,(vP 65 0)),(9,(vP 67 0)),(10,(vP 72 0)),qz,oK],[(fA p p1 p2 v1),dz,(zZ u1),(zK u1),(nG u6),(pJ x1),(ru v2),(rf v2 u6 x1),(Fe u5),(GN u3)]⟩ []) ?_
         refine aQ (bE h fun y5 hy h=> ?_)
         refine nM (Js p p1 p2 v1 v2 u3 u1 u6) (K:=3) (V:=3) (s0:=(x1)) ⟨3,3,false,false,1,1,u5.length,vG (aC .i64) u5,xH (aC .i64) u5,[]⟩ 74 117 (fun i1=>(sI (at' (u5.map Prod.fst) i1))) (fun i1=>(sI (at' (u5.map Prod.snd) i1))) hy [3,4] (by kernel_rfl) (by kernel_rfl) (by kernel_rfl) (fun _ _=> ⟨rfl,rfl⟩) (fun _ _=> ⟨rR _ _,rR _ _⟩) (fun _=>(bZ.fin (st':=(agd p p1 p2 v1 u1 u6 x1 v2 u3)) (cs:=[]) ⟨[],[(63,63),(65,65),(67,67),(68,68),(69,69),(70,70),(71,71),(72,72),(75,75),(117,117)]⟩ [2,4,9,10,13,182] (by kernel_rfl) trivial)) (fun s=>by obtain⟨w6,rfl⟩: ∃q,q=s:=⟨_,rfl⟩;kernel_rfl) (fun B s i1 s' hi h=> ?_) ?_
         ·clear hy
          unfold sW at h
          obtain⟨w6,rfl⟩: ∃q,q=s:=⟨_,rfl⟩
          refine rwp tT (⟨[(2,(vP 63 0)),(4,(vP 65 0)),(9,(vP 67 0)),(10,(vP 72 0)),oK,(24,(vI (at' (u5.map Prod.fst) i1))),(25,(vI (at' (u5.map Prod.snd) i1))),(182,(vP 117 0))],(ag9 p p1 p2 v1 u1 u6 w6 v2 u3)⟩) {fin:=⟨[],[(63,63),(65,65),(67,67),(68,68),(69,69),(70,70),(71,71),(72,72),(75,75),(117,117)]⟩,ts:=[2,4,9,10,13,24,25,182] } (cs:=[]) (by kernel_rfl) trivial .refl ?_
          refine aO h fun⟨a1,a2,a3⟩ h=> ?_
          refine di tT mX ⟨ac5,[(fA p p1 p2 v1),dz,(zZ u1),(zK u1),(nG u6),(70,some (.arr 3 1 w6.length (Um p2 u5 u1 i1 w6))),(ru v2),(rf v2 u6 w6),(GN u3),(117,none)]⟩ [_,_,_,_,_,aY w6.length 1 (afC p2 u5 u1 i1 w6) (Um p2 u5 u1 i1 w6)] {an:=[(19, .arr 0 (Um p2 u5 u1 i1 w6))] } [] ⟨a1,a2,(tL a2),a3,(tL a3),(cZ _ _ _ _ _ _ _ _ rfl (fun j hj=>(match j,hj with|0,_=>rfl))),trivial⟩ (bZ.le (st':=⟨ac5,[(fA p p1 p2 v1),dz,(zZ u1),(zK u1),(nG u6),(70,some (aio p2 u5 u1 i1 w6)),(ru v2),(72,some (.cells 77 [(.own 69 true u6.length),(.own 70 true (afD p2 u5 u1 i1 w6)),(.own 71 true v2.length)])),(GN u3),(117,none)]⟩) ⟨⟨tR,tR,tR,tR,tR,tR,trivial⟩,(hN 5 ⟨rfl,oW,⟨rfl, .refl _,⟨rfl,bX ⟨eD.refl _,cW,eD.refl _,trivial⟩,⟨rfl, .refl _,⟨rfl, .refl _,trivial⟩⟩⟩⟩⟩)⟩) ?_
          obtain rfl:=oi h
          exact⟨.inl rfl,by kernel_rfl⟩
         ·clear hy
          obtain⟨u8,rfl⟩: ∃q,q=y5:=⟨_,rfl⟩
          refine aI (fz ⟨[(2,(vP 63 0)),(4,(vP 65 0)),(9,(vP 67 0)),(10,(vP 72 0)),oK],[(fA p p1 p2 v1),dz,(zZ u1),(zK u1),(nG u6),(pJ u8),(ru v2),(rf v2 u6 u8),(GN u3)]⟩ []) ?_
          refine aQ (bE h fun y6 hy h=> ?_)
          refine nM (JA p p1 p2 v1 u1 u6 u8) (K:=164) (V:=3) (s0:=(v2)) ⟨164,3,true,false,2,1,u3.length,vG ah.cell u3,xH (aC .i64) u3,[]⟩ 75 118 (fun i2=>(.agg (XP u3 i2))) (fun i2=>(sI (at' (u3.map Prod.snd) i2))) hy [3,4,5] (by kernel_rfl) (by kernel_rfl) (by kernel_rfl) (fun _ _=> ⟨rfl,rfl⟩) (fun _ _=> ⟨SA rfl,rR _ _⟩) (fun _=>(bZ.fin (st':=(ad7 p p1 p2 v1 u1 u6 u8 v2)) (cs:=[]) ⟨[],[(63,63),(65,65),(67,67),(68,68),(69,69),(70,70),(71,71),(72,72),(118,118)]⟩ [2,4,9,10,208] (by kernel_rfl) trivial)) (fun s=>by obtain⟨u9,rfl⟩: ∃q,q=s:=⟨_,rfl⟩;kernel_rfl) (fun B s i2 s' hi h=> ?_) ?_
          ·clear hy
           unfold tH at h
           obtain⟨u9,rfl⟩: ∃q,q=s:=⟨_,rfl⟩
           refine rwp tT (⟨(acy u3 i2),[(fA p p1 p2 v1),dz,(zZ u1),(zK u1),(nG u6),(pJ u8),(ru u9),(rf u9 u6 u8),(118,none),(121,some (.cells 164 (XP u3 i2)))]⟩) {fr:=frf [(3,121)],fin:=⟨[],[(63,63),(65,65),(67,67),(68,68),(69,69),(70,70),(71,71),(72,72),(118,118),(121,121)]⟩,ts:=[2,4,9,10,26,27,208] } (cs:=[]) (by kernel_rfl) trivial .refl ?_
           refine bI h (fun hb7 h=> ?_) (fun _ h=> ?_)
           ·skip
            refine aI (bZ.le (st':=⟨(acy u3 i2),[(fA p p1 p2 v1),dz,(zZ u1),(zK u1),(nG u6),(pJ u8),(ru u9),(rf u9 u6 u8),(118,none),(121,some (.cells 164 [(cI ((at' (u3.map Prod.fst) i2).e0)),(cI 0)]))]⟩) ⟨⟨tR,tR,tR,tR,tR,tR,tR,trivial⟩,(hN 9 ⟨rfl,bX ⟨eD.refl _,eD.of (congrArg (fun n=>CV.d (.int .i64 n)) (of_decide_eq_true hb7)),trivial⟩,trivial⟩)⟩) ?_
            refine aO h fun⟨a1,a2⟩ h=> ?_
            refine di tT mX ⟨WA,[(fA p p1 p2 v1),dz,(zZ u1),(zK u1),(nG u6),(pJ u8),(71,some (.arr 164 2 u9.length (UU u1 u3 i2 u9))),(rf u9 u6 u8),(118,none)]⟩ [(0:Int)≤0∧(0:Int)<(2:Nat),(0:Int)≤1∧(1:Int)<(2:Nat),_,_,_,(0:Int)≤0∧(0:Int)<(2:Nat),_,aY u9.length 2 (adp u1 u3 i2 u9) (UU u1 u3 i2 u9)] {an:=[(17, .arr 0 (UU u1 u3 i2 u9))] } [] ⟨((by decide)),((by decide)),a1,(tL a1),a2,((by decide)),(tL a2),(cZ _ _ _ _ _ _ _ _ rfl (fun j hj=>(match j,hj with|0,_=>rfl|1,_=>rfl))),trivial⟩ (bZ.le (st':=⟨WA,[(fA p p1 p2 v1),dz,(zZ u1),(zK u1),(nG u6),(pJ u8),(71,some (afo u1 u3 i2 u9)),(72,some (.cells 77 [(.own 69 true u6.length),(.own 70 true u8.length),(.own 71 true (aie u1 u3 i2 u9))])),(118,none)]⟩) ⟨⟨tR,tR,tR,tR,tR,trivial⟩,(hN 6 ⟨rfl,oW,⟨rfl,bX ⟨eD.refl _,eD.refl _,cW,trivial⟩,(.refl _)⟩⟩)⟩) ?_
            obtain rfl:=oi h
            exact⟨.inl rfl,by kernel_rfl⟩
           ·skip
            refine aO h fun a1 h=> ?_
            refine aI (bZ.le (st':=⟨(acy u3 i2),[(fA p p1 p2 v1),dz,(zZ u1),(zK u1),(nG u6),(pJ u8),(ru u9),(rf u9 u6 u8),(118,none),(121,some (.cells 164 [(cI ((at' (u3.map Prod.fst) i2).e0)),(cI 1)]))]⟩) ⟨⟨tR,tR,tR,tR,tR,tR,tR,trivial⟩,(hN 9 ⟨rfl,bX ⟨eD.refl _,eD.of (congrArg (fun n=>CV.d (.int .i64 n)) a1),trivial⟩,trivial⟩)⟩) ?_
            refine aO h fun⟨a1,a2⟩ h=> ?_
            refine di tT mX ⟨WA,[(fA p p1 p2 v1),dz,(zZ u1),(zK u1),(nG u6),(pJ u8),(71,some (.arr 164 2 u9.length (Ti u1 u3 i2 u9))),(rf u9 u6 u8),(118,none)]⟩ [(0:Int)≤0∧(0:Int)<(2:Nat),(0:Int)≤1∧(1:Int)<(2:Nat),_,_,_,(0:Int)≤1∧(1:Int)<(2:Nat),_,aY u9.length 2 (agG u1 u3 i2 u9) (Ti u1 u3 i2 u9)] {an:=[(17, .arr 0 (Ti u1 u3 i2 u9))] } [] ⟨((by decide)),((by decide)),a1,(tL a1),a2,((by decide)),(tL a2),(cZ _ _ _ _ _ _ _ _ rfl (fun j hj=>(match j,hj with|0,_=>rfl|1,_=>rfl))),trivial⟩ (bZ.le (st':=⟨WA,[(fA p p1 p2 v1),dz,(zZ u1),(zK u1),(nG u6),(pJ u8),(71,some (ahP u1 u3 i2 u9)),(72,some (.cells 77 [(.own 69 true u6.length),(.own 70 true u8.length),(.own 71 true (ahv u1 u3 i2 u9))])),(118,none)]⟩) ⟨⟨tR,tR,tR,tR,tR,trivial⟩,(hN 6 ⟨rfl,oW,⟨rfl,bX ⟨eD.refl _,eD.refl _,cW,trivial⟩,(.refl _)⟩⟩)⟩) ?_
            obtain rfl:=oi h
            exact⟨.inl rfl,by kernel_rfl⟩
          ·clear hy
           obtain⟨w2,rfl⟩: ∃q,q=y6:=⟨_,rfl⟩
           refine aI (fz ⟨[(2,(vP 63 0)),(4,(vP 65 0)),(9,(vP 67 0)),(10,(vP 72 0))],[(fA p p1 p2 v1),dz,(zZ u1),(zK u1),(nG u6),(pJ u8),(ru w2),(rf w2 u6 u8)]⟩ []) ?_
           refine aQ (aO h fun⟨a1,a2,a3⟩ h=> ?_)
           refine rg tT ⟨[(2,(vP 63 0)),(4,(vP 65 0)),(9,(vP 67 0)),(10,(vP 72 0)),(28,(vP 123 0))],[(fA p p1 p2 v1),dz,(zZ u1),(zK u1),(nG u6),(pJ u8),(ru w2),(rf w2 u6 u8),(XA p),(XB p)]⟩ [_,(p.ax:Int)=p.ax,_,_,(Kj p).length=p.ax.toNat,aY p.ax.toNat 1 (fun _ j=>[(.bool false)].getD j .nilp) (Yc p)] {an:=[(2, .arr (Kj p).length (Yc p))],fr:=[(2,122),(3,123)] } [] ⟨a1,rfl,a2,a3,(List.length_replicate),(fB _ _ _ _ _ (fun j hj=>(match j,hj with|0,_=>rfl))),trivial⟩ ?_
           refine aQ (aQ (bE h fun um hr_9 h=> ?_))
           have q0:=rk [(0,67),(1,68),(2,124)] (jw u1 hr_9)
           refine ri tT ⟨ain,[(fA p p1 p2 v1),dz,(67,some (ag5 u1)),(nG u6),(pJ u8),(ru w2),(rf w2 u6 u8),(XA p),(XB p),(124,some (.cells 157 [(.ptr 67 0)]))]⟩ [_,u1.bO.length=u1.bO.length] {an:=[(1,cA q0 [67,68])] } [68] ⟨q0,rfl,trivial⟩ (.trans (fz ⟨ain,[(fA p p1 p2 v1),dz,(nG u6),(pJ u8),(ru w2),(rf w2 u6 u8),(XA p),(XB p),(124,some (ad4 u1))]⟩ [67]) (fz ⟨(aef u1),[(fA p p1 p2 v1),dz,(nG u6),(pJ u8),(ru w2),(rf w2 u6 u8),(XA p),(XB p)]⟩ [124])) ?_
           refine aB (bE h fun x4 hr_10 h=> ?_)
           refine jd 125 [(2,(vP 63 0)),(28,(vP 123 0))] [] [125,63,123,122] (.iG []) [(125,some (.loop eT 0 [(2,(vP 63 0)),(28,(vP 123 0))])),(fA p p1 p2 v1),(123,some (.cells 27 [(.own 122 true x4.length)])),(122,some (dK 4 1 aD x4))] (ab3 u1) 121 [] (ae8 u1) [(125,some (.loop eT 0 [(2,(vP 63 0)),(28,(vP 123 0))])),(fA p p1 p2 v1),(XB p),(XA p)] [(.one (.yl 125)),(sD (X3 u1))] eT 0 [(2,(vP 63 0)),(28,(vP 123 0))] (by kernel_rfl) (by kernel_rfl) (by kernel_rfl) (by kernel_rfl) (by kernel_rfl) (by kernel_rfl) (by kernel_rfl) (rK [(0,125),(1,63),(2,123),(3,122)] (jS u1.bO u1.from_ (⟨p.ax,p1,p2,v1⟩:au) (Kj p) hr_10)) (by kernel_rfl) rfl (Dm.zero rfl) (bZ.fin (st':=⟨(aef u1),[(fA p p1 p2 v1),dz,(nG u6),(pJ u8),(ru w2),(rf w2 u6 u8),(122,some (dK 4 1 aD x4)),(123,some (.cells 27 [(.own 122 true x4.length)]))]⟩) (cs:=[]) ⟨[],[(63,63),(65,65),(69,69),(70,70),(71,71),(72,72),(122,122),(123,123)]⟩ [2,4,10,28,235] (by kernel_rfl) trivial) ?_
           refine sj tT mX ⟨[(4,(vP 65 0)),(5,(vD (bg (some true) 1 aD x4))),(6,(vI 0))],[(65,some (.cells 77 [(.d (Tk u6)),(.d (Tk u8)),(.d (bg (some true) 2 ah.cell w2))]))]⟩ [x4.length=x4.length,u6.length=u6.length,u8.length=u8.length,w2.length=w2.length] {} [69,70,71,122] ⟨rfl,rfl,rfl,rfl,trivial⟩ (fz ⟨[(4,(vD (kK [(Tk u6),(Tk u8),(bg (some true) 2 ah.cell w2)] 0))),(5,(vD (bg (some true) 1 aD x4))),(6,(vI 0))],[]⟩ [65]) ?_
           refine aI (bZ.le (st':=⟨[(4,(vD (kK [(DX u6),(DX u8),(bg none 2 ah.cell w2)] 0))),(5,(vD (bg none 1 aD x4))),(6,(vI 0))],[]⟩) ⟨⟨⟨_,rfl,dY.v (eX.one (eD.d (Nn ⟨gX.oP,gX.oP,gX.oP,trivial⟩)))⟩,⟨_,rfl,dY.v (eX.one (eD.d gX.oP))⟩,tR,trivial⟩,trivial⟩) ?_
           refine aR ?_
           obtain rfl:=oi h
           exact rl [(.agg [(.d (DX u6)),(.d (DX u8)),(.d (bg none 2 ah.cell w2))]),(sD (bg none 1 aD x4)),(sI 0)]
       |ret v=>
        obtain rfl:=oi h
        unfold fT
        intro e st hn ha hR
        cases e with
        |normal=>exact absurd rfl hn
        |exit id=>exact hR
        |goto l=>exact hR
        |ret=>exact hR
        |panic c=>exact hR
        |outgrown=>exact hR
     |ret v=>
      obtain rfl:=oi h
      unfold fT
      intro e st hn ha hR
      cases e with
      |normal=>exact absurd rfl hn
      |exit id=>exact hR
      |goto l=>exact hR
      |ret=>exact hR
      |panic c=>exact hR
      |outgrown=>exact hR
   |ret v=>
    obtain rfl:=oi h
    unfold fT
    intro e st hn ha hR
    cases e with
    |normal=>exact absurd rfl hn
    |exit id=>exact hR
    |goto l=>exact hR
    |ret=>exact hR
    |panic c=>exact hR
    |outgrown=>exact hR
def Hf  :(Int × (List aj) × (List aM) × (List aK) × (List Bool) × (List Bool) × (List Bool) × (List Bool) × (List Bool) × (List Bool) × (List Bool) × (List Bool))→Exit→St→Prop:=
  fun r=>bR TT [.tmp 6] (vD (.fn 124 3 (mM [(kK [(.int .i64 r.1),(bg none 5 aj.cell r.2.1),(bg none 6 aM.cell r.2.2.1),(bg none 4 aK.cell r.2.2.2.1)] 0),(kK [(bg none 1 aD r.2.2.2.2.1),(bg none 1 aD r.2.2.2.2.2.1),(bg none 1 aD r.2.2.2.2.2.2.1),(bg none 1 aD r.2.2.2.2.2.2.2.1),(bg none 1 aD r.2.2.2.2.2.2.2.2.1),(bg none 1 aD r.2.2.2.2.2.2.2.2.2.1),(bg none 1 aD r.2.2.2.2.2.2.2.2.2.2.1)] 0),(kK [(bg none 1 aD r.2.2.2.2.2.2.2.2.2.2.2)] 0)]))) []
section
variable (p:au) (s_:ay) (u0:(List Bool))
abbrev adX:List SV:=[(.agg (k5 p)),(.agg (Yu s_)),(sD (bg none 1 aD u0))]
abbrev Rm:DV:=(kK [(bg none 1 aD u0)] 0)
abbrev afR:=(mM [(k10 p),(k75 s_),(Rm u0)])
end
theorem yL (p:au) (s_:ay) (u0:(List Bool)) {r:(Int × (List aj) × (List aM) × (List aK) × (List Bool) × (List Bool) × (List Bool) × (List Bool) × (List Bool) × (List Bool) × (List Bool) × (List Bool))} (h:pU p s_ u0=some r):Fn Try.prog 82 (adX p s_ u0) [] (vD (.fn 124 3 (mM [(kK [(.int .i64 r.1),(bg none 5 aj.cell r.2.1),(bg none 6 aM.cell r.2.2.1),(bg none 4 aK.cell r.2.2.2.1)] 0),(kK [(bg none 1 aD r.2.2.2.2.1),(bg none 1 aD r.2.2.2.2.2.1),(bg none 1 aD r.2.2.2.2.2.2.1),(bg none 1 aD r.2.2.2.2.2.2.2.1),(bg none 1 aD r.2.2.2.2.2.2.2.2.1),(bg none 1 aD r.2.2.2.2.2.2.2.2.2.1),(bg none 1 aD r.2.2.2.2.2.2.2.2.2.2.1)] 0),(kK [(bg none 1 aD r.2.2.2.2.2.2.2.2.2.2.2)] 0)]))) []:=by
 refine fN tT Try.func82 rfl rfl fun B=> ?_
 show bW _ _ _ _ _ _ (Hf r) _
 unfold pU at h
 refine sz tT ⟨[(dw p),(bB s_),(5,(vD (Rm u0)))],[]⟩ {fr:=[(0,3),(1,4),(2,5)] } [3,4,5] ?_
 refine sz tT ⟨[(6,(vD (.fn 124 3 (afR p s_ u0))))],[]⟩ {} [] ?_
 refine aR ?_
 obtain rfl:=oi h
 exact rl [(sD (.fn 124 3 (afR p s_ u0)))]
def gy  :(aS × (List Bool) × Int)→Exit→St→Prop:=
  fun r=>bR TT [.cell 4 77, .tmp 5, .tmp 6] (.iG [(.agg [(.own 0 false r.1.ai.length),(.own 1 false r.1.af.length),(.own 2 false r.1.aF.length)]),(.one (.own 3 false r.2.1.length)),(sI r.2.2)]) [(0,some (dK 3 1 (aC .i64) r.1.ai)),(1,some (dK 3 1 (aC .i64) r.1.af)),(2,some (dK 164 2 ah.cell r.1.aF)),(3,some (dK 4 1 aD r.2.1)),(4,none)]
section
variable (s_:ay) (p:au) (u1:Int) (n1:(List (List Int))) (n0:(List cO)) (u0:(List (Int × Int)))
abbrev sG:Nat × TV:=(11,(.v (.one (.mp 77))))
abbrev qE:Nat × TV:=(12,(.v (.one (.mp 78))))
abbrev oo:Nat × TV:=(13,(.v (.one (.mp 79))))
abbrev aeK:List (Nat × TV):=[(2,(vP 63 0)),(gQ s_),(4,(vP 65 0)),(og p),(9,(vP 71 0)),(10,(vP 76 0)),sG,qE,oo,(Jd p),(Jq p),(68,(vI u1))]
abbrev UB:Nat × Option Ob:=(70,some (.rows 40 1 n1.length (ni uo n1) none))
abbrev Xa:Nat × Option Ob:=(71,some (.cells 161 [(.own 72 false n0.length),(.own 70 true n1.length)]))
abbrev M7:Nat × Option Ob:=(72,some (dK 170 2 cO.cell n0))
abbrev Xq:Nat × Option Ob:=(73,some (dK 3 1 (aC .i64) (Nt p)))
abbrev N8:Nat × Option Ob:=(74,some (ab8 p))
abbrev LJ:Nat × Option Ob:=(75,some (aia p))
abbrev Vs:Nat × Option Ob:=(76,some (.cells 77 [(.own 73 true ((Nt p).length)),(.own 74 true (Vm p)),(.own 75 true (Tj p))]))
abbrev EK:Nat × Option Ob:=(77,some (Rl u0))
abbrev Xe:Nat × Option Ob:=(78,some Tq)
abbrev NN:Nat × Option Ob:=(79,some (Kl 164 3 true false 2 1 ah.cell (aC .i64) ([]:(List (ah × Int)))))
abbrev UQ:List (Nat × Option Ob):=[(Az p),dz,(UB n1),(Xa n1 n0),(M7 n0),(Xq p),(N8 p),(LJ p),(Vs p),(EK u0),Xe,NN]
end
def wL (p:au) (s_:ay):((List cO) × (List (List Int)) × (List (Int × Int)) × Int)→St:=
  fun zz=>match zz with|(n0,n1,u0,u1)=> ⟨(aeK s_ p u1),(UQ p n1 n0 u0)⟩
section
variable (s_:ay) (p:au) (x0:(List Int)) (p1:(List aj)) (u0:(List (List Int))) (u1:(List cO)) (u2:(List (Int × Int)))
abbrev V5:List (Nat × TV):=[(2,(vP 63 0)),(gQ s_),(4,(vP 65 0)),(og p),(9,(vP 71 0)),(10,(vP 76 0)),sG,qE,oo]
abbrev mP:Nat × Option Ob:=(73,some (Dy x0))
abbrev Zf:Nat × Option Ob:=(76,some (.cells 77 [(.own 73 true x0.length),(.own 74 true (Vm p)),(.own 75 true (Tj p))]))
abbrev adl:List (Nat × Option Ob):=[(Qk p p1),dz,(UB u0),(Xa u0 u1),(M7 u1),(mP x0),(N8 p),(LJ p),(Zf p x0),(EK u2),Xe,NN]
end
def vT (p:au) (s_:ay):((List aj) × (List cO) × (List (List Int)) × (List Int) × (List (Int × Int)))→St:=
  fun zz=>match zz with|(p1,u1,u0,x0,u2)=> ⟨(V5 s_ p),(adl p x0 p1 u0 u1 u2)⟩
def Fh (p:au) (s_:ay):(bn ((List cO) × (List (List Int)) × (List (Int × Int)) × Int) (Ex ((List aj) × (List cO) × (List (List Int)) × (List Int) × (List (Int × Int))) (aS × (List Bool) × Int)))→Exit→St→Prop:=
  LQ 0 [] (wL p s_) (vT p s_) gy
section
variable (s_:ay) (p:au) (u4:Int) (u3:(List (Int × Int))) (p1:(List aj)) (u0:(List (List Int))) (u1:(List cO)) (x0:(List Int)) (u2:(List (Int × Int)))
abbrev ahq:List (Nat × TV):=[(2,(vP 63 0)),(gQ s_),(4,(vP 65 0)),(og p),(9,(vP 71 0)),(10,(vP 76 0)),sG,qE,oo,(Jh p),(Jr p),(90,(vI u4))]
abbrev Fu:Nat × Option Ob:=(78,some (Rl u3))
abbrev Ty:List (Nat × Option Ob):=[(Qk p p1),dz,(UB u0),(Xa u0 u1),(M7 u1),(mP x0),(N8 p),(LJ p),(Zf p x0),(EK u2),(Fu u3),NN]
end
def xG (p:au) (s_:ay) (p1:(List aj)) (x0:(List Int)) (u2:(List (Int × Int))):((List cO) × (List (List Int)) × (List (Int × Int)) × Int)→St:=
  fun zz=>match zz with|(u1,u0,u3,u4)=> ⟨(ahq s_ p u4),(Ty p u3 p1 u0 u1 x0 u2)⟩
section
variable (x1:(List Int)) (p:au) (p1:(List aj)) (p2:(List aM)) (u0:(List (List Int))) (u1:(List cO)) (x0:(List Int)) (u2:(List (Int × Int))) (u3:(List (Int × Int)))
abbrev o5:Nat × Option Ob:=(74,some (Dy x1))
abbrev ahM:List (Nat × Option Ob):=[(adu p p1 p2),dz,(UB u0),(Xa u0 u1),(M7 u1),(mP x0),(o5 x1),(LJ p),(76,some (.cells 77 [(.own 73 true x0.length),(.own 74 true x1.length),(.own 75 true (Tj p))])),(EK u2),(Fu u3),NN]
end
def xq (p:au) (s_:ay) (p1:(List aj)) (x0:(List Int)) (u2:(List (Int × Int))):((List aM) × (List cO) × (List (List Int)) × (List Int) × (List (Int × Int)))→St:=
  fun zz=>match zz with|(p2,u1,u0,x1,u3)=> ⟨(V5 s_ p),(ahM x1 p p1 p2 u0 u1 x0 u2 u3)⟩
def EC (p:au) (s_:ay) (p1:(List aj)) (x0:(List Int)) (u0:(List (Int × Int))):(bn ((List cO) × (List (List Int)) × (List (Int × Int)) × Int) (Ex ((List aM) × (List cO) × (List (List Int)) × (List Int) × (List (Int × Int))) (aS × (List Bool) × Int)))→Exit→St→Prop:=
  LQ 2 [] (xG p s_ p1 x0 u0) (xq p s_ p1 x0 u0) gy
section
variable (s_:ay) (u4:Int) (u6:(List aK)) (u7:Int) (u8:Int) (x2:(List ah)) (x0:(List Int)) (x1:(List Int)) (u5:(List (ah × Int))) (p:au) (p1:(List aj)) (p2:(List aM)) (p3:(List aK)) (u0:(List (List Int))) (u1:(List cO)) (u2:(List (Int × Int))) (u3:(List (Int × Int)))
abbrev aeD:List (Nat × TV):=[(2,(vP 63 0)),(gQ s_),(4,(vP 65 0)),(8,(vI u4)),(9,(vP 71 0)),(10,(vP 76 0)),sG,qE,oo,(Af u6),(116,(vI u7)),(117,(vI u8))]
abbrev qI:Nat × Option Ob:=(75,some (dK 164 2 ah.cell x2))
abbrev rF:Nat × Option Ob:=(76,some (.cells 77 [(.own 73 true x0.length),(.own 74 true x1.length),(.own 75 true x2.length)]))
abbrev Gm:Nat × Option Ob:=(79,some (Kl 164 3 true false 2 1 ah.cell (aC .i64) u5))
abbrev Xt:List (Nat × Option Ob):=[(fA p p1 p2 p3),dz,(UB u0),(Xa u0 u1),(M7 u1),(mP x0),(o5 x1),(qI x2),(rF x2 x0 x1),(EK u2),(Fu u3),(Gm u5)]
end
def vY (p:au) (s_:ay) (p1:(List aj)) (x0:(List Int)) (u2:(List (Int × Int))) (p2:(List aM)) (x1:(List Int)) (u3:(List (Int × Int))):((List aK) × Int × (List cO) × (List (List Int)) × (List ah) × (List (ah × Int)) × (List aK) × Int × Int)→St:=
  fun zz=>match zz with|(p3,u4,u1,u0,x2,u5,u6,u7,u8)=> ⟨(aeD s_ u4 u6 u7 u8),(Xt x2 x0 x1 u5 p p1 p2 p3 u0 u1 u2 u3)⟩
section
variable (u6:Int) (p:au) (p1:(List aj)) (p2:(List aM)) (u5:(List aK)) (u0:(List (List Int))) (u1:(List cO)) (x0:(List Int)) (x1:(List Int)) (u2:(List ah)) (u3:(List (Int × Int))) (u4:(List (Int × Int))) (u7:(List (ah × Int)))
abbrev abk:List (Nat × TV):=[(2,(vP 63 0)),(4,(vP 65 0)),(8,(vI u6)),(9,(vP 71 0)),(10,(vP 76 0)),sG,qE,oo]
abbrev ahZ:St:=⟨(abk u6),(Xt u2 x0 x1 u7 p p1 p2 u5 u0 u1 u3 u4)⟩
end
def wo (p:au) (p1:(List aj)) (x0:(List Int)) (u3:(List (Int × Int))) (p2:(List aM)) (x1:(List Int)) (u4:(List (Int × Int))):((List aK) × Int × (List cO) × (List (List Int)) × (List ah) × (List (ah × Int)))→St:=
  fun zz=>match zz with|(u5,u6,u1,u0,u2,u7)=>(ahZ u6 p p1 p2 u5 u0 u1 x0 x1 u2 u3 u4 u7)
def oQ (p:au) (s_:ay) (p1:(List aj)) (x0:(List Int)) (u0:(List (Int × Int))) (p2:(List aM)) (x1:(List Int)) (u1:(List (Int × Int))):(bn ((List aK) × Int × (List cO) × (List (List Int)) × (List ah) × (List (ah × Int)) × (List aK) × Int × Int) (Ex ((List aK) × Int × (List cO) × (List (List Int)) × (List ah) × (List (ah × Int))) (aS × (List Bool) × Int)))→Exit→St→Prop:=
  LQ 4 [] (vY p s_ p1 x0 u0 p2 x1 u1) (wo p p1 x0 u0 p2 x1 u1) gy
section
variable (s_:ay) (u6:Int) (u0:Int) (u1:(List aK)) (u7:Int) (u9:Int) (p:au) (p1:(List aj)) (p2:(List aM)) (p3:(List aK)) (u2:(List (List Int))) (u3:(List cO)) (x0:(List Int)) (x1:(List Int)) (x2:(List ah)) (u4:(List (Int × Int))) (u5:(List (Int × Int))) (u8:(List (ah × Int)))
abbrev ahS:List (Nat × TV):=[(2,(vP 63 0)),(gQ s_),(4,(vP 65 0)),(8,(vI u6)),(9,(vP 71 0)),(10,(vP 76 0)),sG,qE,oo,(18,(vI u0)),(FB u1 u0),(Af u1),(116,(vI u7)),(117,(vI u0)),(Jk u1 u0),(134,(vI u9))]
abbrev Rj:List (Nat × Option Ob):=[(fA p p1 p2 p3),dz,(UB u2),(71,some (.cells 161 [(.own 115 false u3.length),(.own 70 true u2.length)])),(mP x0),(o5 x1),(qI x2),(rF x2 x0 x1),(EK u4),(Fu u5),(Gm u8),(115,some (dK 170 2 cO.cell u3))]
end
def xE (p:au) (s_:ay) (p1:(List aj)) (x0:(List Int)) (u4:(List (Int × Int))) (p2:(List aM)) (x1:(List Int)) (u5:(List (Int × Int))) (p3:(List aK)) (u6:Int) (x2:(List ah)) (u1:(List aK)) (u7:Int) (u0:Int):((List cO) × (List (List Int)) × (List (ah × Int)) × Int)→St:=
  fun zz=>match zz with|(u3,u2,u8,u9)=> ⟨(ahS s_ u6 u0 u1 u7 u9),(Rj p p1 p2 p3 u2 u3 x0 x1 x2 u4 u5 u8)⟩
section
variable (s_:ay) (u4:Int) (u5:(List aK)) (u6:Int) (u7:Int) (p:au) (p1:(List aj)) (p2:(List aM)) (p3:(List aK)) (u0:(List (List Int))) (u1:(List cO)) (x0:(List Int)) (x1:(List Int)) (x2:(List ah)) (u2:(List (Int × Int))) (u3:(List (Int × Int))) (u8:(List (ah × Int)))
abbrev agY:St:=⟨(aeD s_ u4 u5 u6 u7),(Rj p p1 p2 p3 u0 u1 x0 x1 x2 u2 u3 u8)⟩
end
def vW (p:au) (s_:ay) (p1:(List aj)) (x0:(List Int)) (u2:(List (Int × Int))) (p2:(List aM)) (x1:(List Int)) (u3:(List (Int × Int))) (p3:(List aK)) (u4:Int) (x2:(List ah)) (u5:(List aK)) (u6:Int) (u7:Int):((List cO) × (List (List Int)) × (List (ah × Int)))→St:=
  fun zz=>match zz with|(u1,u0,u8)=>(agY s_ u4 u5 u6 u7 p p1 p2 p3 u0 u1 x0 x1 x2 u2 u3 u8)
def EF (p:au) (s_:ay) (p1:(List aj)) (x0:(List Int)) (u0:(List (Int × Int))) (p2:(List aM)) (x1:(List Int)) (u1:(List (Int × Int))) (p3:(List aK)) (u2:Int) (x2:(List ah)) (u3:(List aK)) (u4:Int) (u5:Int):(bn ((List cO) × (List (List Int)) × (List (ah × Int)) × Int) (Ex ((List cO) × (List (List Int)) × (List (ah × Int))) (bn ((List aK) × Int × (List cO) × (List (List Int)) × (List ah) × (List (ah × Int)) × (List aK) × Int × Int) (Ex ((List aK) × Int × (List cO) × (List (List Int)) × (List ah) × (List (ah × Int))) (aS × (List Bool) × Int)))))→Exit→St→Prop:=
  LQ 6 [5] (xE p s_ p1 x0 u0 p2 x1 u1 p3 u2 x2 u3 u4 u5) (vW p s_ p1 x0 u0 p2 x1 u1 p3 u2 x2 u3 u4 u5) (oQ p s_ p1 x0 u0 p2 x1 u1)
section
variable (u0:aH) (p:au) (p1:(List aj)) (p2:(List aM)) (u4:(List aK)) (u2:(List Int)) (x1:(List Int)) (u1:(List ah)) (u3:(List (Int × Int))) (u5:(List (ah × Int)))
abbrev abA:List (Nat × TV):=[(2,(vP 63 0)),(4,(vP 65 0)),(9,(vP 71 0)),(10,(vP 76 0)),qE,oo,(162,(vP 120 0))]
abbrev zy:Nat × Option Ob:=(71,some (.cells 161 [(.own 72 false u0.bO.length),(.d (Kc u0))]))
abbrev zC:Nat × Option Ob:=(72,some (dK 170 2 cO.cell u0.bO))
abbrev aeG:List (Nat × Option Ob):=[(fA p p1 p2 u4),dz,(zy u0),(zC u0),(mP u2),(o5 x1),(qI u1),(rF u1 u2 x1),(Fu u3),(Gm u5),(120,none)]
abbrev aha:St:=⟨abA,(aeG u0 p p1 p2 u4 u2 x1 u1 u3 u5)⟩
end
def EO (p:au) (p1:(List aj)) (p2:(List aM)) (x1:(List Int)) (u3:(List (Int × Int))) (u4:(List aK)) (u1:(List ah)) (u5:(List (ah × Int))) (u0:aH):(List Int)→St:=
  fun u2=>(aha u0 p p1 p2 u4 u2 x1 u1 u3 u5)
section
variable (p:au) (p1:(List aj)) (p2:(List aM)) (u4:(List aK)) (u0:aH) (u2:(List Int)) (u3:(List Int)) (u1:(List ah)) (u5:(List (ah × Int)))
abbrev acj:List (Nat × TV):=[(2,(vP 63 0)),(4,(vP 65 0)),(9,(vP 71 0)),(10,(vP 76 0)),oo,(182,(vP 121 0))]
abbrev afS:List (Nat × Option Ob):=[(fA p p1 p2 u4),dz,(zy u0),(zC u0),(mP u2),(o5 u3),(qI u1),(rF u1 u2 u3),(Gm u5),(121,none)]
abbrev ae1:St:=⟨acj,(afS p p1 p2 u4 u0 u2 u3 u1 u5)⟩
end
def Fw (p:au) (p1:(List aj)) (p2:(List aM)) (u4:(List aK)) (u1:(List ah)) (u5:(List (ah × Int))) (u0:aH) (u2:(List Int)):(List Int)→St:=
  fun u3=>(ae1 p p1 p2 u4 u0 u2 u3 u1 u5)
section
variable (p:au) (p1:(List aj)) (p2:(List aM)) (u4:(List aK)) (u0:aH) (u1:(List Int)) (u2:(List Int)) (u3:(List ah))
abbrev VY:List (Nat × TV):=[(2,(vP 63 0)),(4,(vP 65 0)),(9,(vP 71 0)),(10,(vP 76 0)),(208,(vP 122 0))]
abbrev ahO:St:=⟨VY,[(fA p p1 p2 u4),dz,(zy u0),(zC u0),(mP u1),(o5 u2),(qI u3),(rF u3 u1 u2),(122,none)]⟩
end
def Fq (p:au) (p1:(List aj)) (p2:(List aM)) (u4:(List aK)) (u0:aH) (u1:(List Int)) (u2:(List Int)):(List ah)→St:=
  fun u3=>(ahO p p1 p2 u4 u0 u1 u2 u3)
section
variable (r_:Int) (s_:ay) (p:au) (v4:(Int × aH)) (v0:Int) (v9:(List (Int × Int))) (p1:(List aj)) (v5:(Int × aH)) (x0:(List Int)) (u4:(List (Int × Int))) (u7:Int) (w0:(List (Int × Int))) (v7:Int) (u0:Int) (u2:(List aK)) (w1:Int) (x4:(Int × aH)) (p2:(List aM)) (p3:(List aK)) (x1:(List Int)) (x2:(List ah)) (u5:(List (Int × Int))) (x9:(List (ah × Int))) (v6:(Int × aH)) (v3:Int) (x5:(List cO)) (x6:(List (List Int))) (u1:aH) (u3:(List (ah × Int))) (i2:Nat) (u6:(List Int))
abbrev abl:List (Nat × TV):=[(4,(vP 65 0)),(5,(vO 66 false 0)),(6,(vI r_))]
abbrev abW:Nat × Option Ob:=(66,some (.arr 4 1 0 (aN aD ([]:List Bool))))
abbrev aaY:Nat × Option Ob:=(67,some (.arr 3 1 0 (aN (aC .i64) ([]:List Int))))
abbrev ae7:List CV:=[(.own 0 false (([]:List Int).length)),(.own 1 false (([]:List Int).length)),(.own 2 false (([]:List ah).length))]
abbrev Zc:List (Nat × TV):=[(2,(vP 63 0)),(gQ s_),(4,(vP 65 0)),(og p),(9,(vP 71 0))]
abbrev aek:List CV:=[(.d nS),(.own 70 true (TS p))]
abbrev aho:Nat × Option Ob:=(71,some (.cells 161 (aek p)))
abbrev WO:Nat × Option Ob:=(70,some (.rows 40 1 (FP p).length (ag3 p) none))
abbrev aaP:Nat × Option Ob:=(71,some (.cells 161 [(.own 72 false (([]:List cO).length)),(.own 70 true (TS p))]))
abbrev abu:Nat × Option Ob:=(72,some (dK 170 2 cO.cell ([]:List cO)))
abbrev aiv:List (Nat × Option Ob):=[(Az p),dz,(WO p),(aaP p),abu,(Xq p),(N8 p),(LJ p),(Vs p),(77,some Tq),Xe,NN]
abbrev Po:Nat × Option Ob:=(70,some (.rows 40 1 v4.2.from_.length (ni uo v4.2.from_) none))
abbrev ah1:List (Nat × Option Ob):=[(Az p),dz,(Po v4),(71,some (.cells 161 [(.own 87 false v4.2.bO.length),(.own 70 true v4.2.from_.length)])),(Xq p),(N8 p),(LJ p),(Vs p),(77,some (OB v0 v4 v9)),Xe,NN,(87,some (Ic v4))]
abbrev aa8:List (Nat × TV):=[(2,(vP 63 0)),(gQ s_),(4,(vP 65 0)),(og p),(9,(vP 71 0)),(10,(vP 76 0)),sG,qE,oo,(Jd p),(Jq p),(68,(k3 v0))]
abbrev ahu:Nat × Option Ob:=(71,some (.cells 161 [(.own 72 false v4.2.bO.length),(.own 70 true v4.2.from_.length)]))
abbrev aeT:List (Nat × Option Ob):=[(Qk p p1),dz,(Po v5),(71,some (.cells 161 [(.own 95 false v5.2.bO.length),(.own 70 true v5.2.from_.length)])),(mP x0),(N8 p),(LJ p),(Zf p x0),(EK u4),(78,some (OB u7 v5 w0)),NN,(95,some (Ic v5))]
abbrev abN:List (Nat × TV):=[(2,(vP 63 0)),(gQ s_),(4,(vP 65 0)),(og p),(9,(vP 71 0)),(10,(vP 76 0)),sG,qE,oo,(Jh p),(Jr p),(90,(k3 u7))]
abbrev ahB:List (Nat × TV):=[(2,(vP 63 0)),(gQ s_),(4,(vP 65 0)),(8,(vI v7)),(9,(vP 71 0)),(10,(vP 76 0)),sG,qE,oo,(18,(vI u0)),(FB u2 u0),(Af u2),(116,(vI w1)),(117,(vI u0))]
abbrev afQ:Nat × Option Ob:=(71,some (.cells 161 [(.own 115 false x4.2.bO.length),(.own 70 true x4.2.from_.length)]))
abbrev afg:List (Nat × Option Ob):=[(fA p p1 p2 p3),dz,(Po x4),(afQ x4),(mP x0),(o5 x1),(qI x2),(rF x2 x0 x1),(EK u4),(Fu u5),(Gm x9),(YF x4)]
abbrev aiA:Nat × Option Ob:=(71,some (.cells 161 [(.own 119 false v6.2.bO.length),(.own 70 true v6.2.from_.length)]))
abbrev aaS:List (Nat × TV):=[(2,(vP 63 0)),(gQ s_),(4,(vP 65 0)),(8,(vI v7)),(9,(vP 71 0)),(10,(vP 76 0)),sG,qE,oo,(18,(vI u0)),(FB u2 u0),(Af u2),(116,(vI w1)),(117,(vI u0)),(Jk u2 u0),(134,(k3 v3))]
abbrev afk:List (Nat × TV):=[(2,(vP 63 0)),(gQ s_),(4,(vP 65 0)),(8,(vI v7)),(9,(vP 71 0)),(10,(vP 76 0)),sG,qE,oo,(Af u2),(116,(vI w1)),(117,(k3 u0))]
abbrev ahp:Nat × Option Ob:=(71,some (.cells 161 [(.own 72 false x5.length),(.d (bg (some true) 1 (Na 1 (aC .i64)) x6))]))
abbrev ah7:List (Nat × Option Ob):=[(zy u1),(zC u1)]
abbrev aak:List (Nat × TV):=[(2,(vP 63 0)),(4,(vP 65 0)),(9,(vP 71 0)),(10,(vP 76 0)),(26,(vP 125 0)),(27,(vI (at' (u3.map Prod.snd) i2))),(208,(vP 122 0))]
abbrev Vx:Nat × Option Ob:=(126,some (dK 4 1 aD (Kj p)))
abbrev VA:Nat × Option Ob:=(127,some (.cells 27 [(.own 126 true ((Kj p).length))]))
abbrev agD:List (Nat × TV):=[(2,(vP 63 0)),(4,(vP 65 0)),(10,(vP 76 0)),(28,(vP 127 0)),(235,(.v (.one (.fn 121 0 1 (Cv [(.ptr 128 0)])))))]
abbrev aeU:List (Nat × TV):=[(2,(vP 63 0)),(4,(vP 65 0)),(10,(vP 76 0)),(28,(vP 127 0)),(aga u1)]
abbrev GZ:Nat × Option Ob:=(0,some (Dy u6))
end
theorem vN (p:au) (s_:ay) {r:(aS × (List Bool) × Int)} (h:jC p s_=some r):Fn Try.prog 32 (YI s_ p) [] (.iG [(.agg [(.own 0 false r.1.ai.length),(.own 1 false r.1.af.length),(.own 2 false r.1.aF.length)]),(.one (.own 3 false r.2.1.length)),(sI r.2.2)]) [(0,some (dK 3 1 (aC .i64) r.1.ai)),(1,some (dK 3 1 (aC .i64) r.1.af)),(2,some (dK 164 2 ah.cell r.1.aF)),(3,some (dK 4 1 aD r.2.1)),(4,none)]:=by
 refine fN tT Try.func32 rfl rfl fun B=> ?_
 show bW _ _ _ _ _ _ (gy r) _
 unfold jC at h
 refine sz tT (aes p s_) {fr:=[(0,63),(1,64),(2,65)] } [64] ?_
 refine aQ (aQ (bE h fun r_ hr_ h=> ?_))
 have q0:=dU p s_ hr_
 refine rg tT (adC p s_ r_) [_] {an:=[(2,cA q0 [])] } [] ⟨q0,trivial⟩ ?_
 refine sz tT (agA p s_ r_) {} [] ?_
 refine bI h (fun hb9 h=> ?_) (fun hb9 h=> ?_)
 ·refine ct hb9 ?_
  refine sz tT ⟨[(4,(vP 65 0)),(5,(vD nS)),(6,(vI r_))],[dz]⟩ {} [] ?_
  refine aI (.trans (bZ.WT (t:=5) (b:=66) (esz0:=0) (el0:=fun _ _=> .nilp) (E:=4) (esz:=1) (el:=aN aD ([]:List Bool)) (by kernel_rfl) (by kernel_rfl)) (.trans (bZ.AQ (E:=0) (esz:=0) (E0:=77) (cs:=[(.d nS),(.d nS),(.d nS)]) (p:=65) (q:=0) (b:=67) (esz0:=0) (el0:=fun _ _=> .nilp) (ob:= .arr 3 1 0 (aN (aC .i64) ([]:List Int))) (fun _ _ _ _ h=> .inl ⟨h,rfl⟩) (by kernel_rfl) (by kernel_rfl) (by kernel_rfl)) (.trans (fz ⟨(abl r_),[(65,some (.cells 77 [(.own 67 false 0),(.d nS),(.d nS)])),abW,aaY]⟩ []) (.trans (bZ.AQ (E:=0) (esz:=0) (E0:=77) (cs:=[(.own 67 false 0),(.d nS),(.d nS)]) (p:=65) (q:=1) (b:=68) (esz0:=0) (el0:=fun _ _=> .nilp) (ob:= .arr 3 1 0 (aN (aC .i64) ([]:List Int))) (fun _ _ _ _ h=> .inl ⟨h,rfl⟩) (by kernel_rfl) (by kernel_rfl) (by kernel_rfl)) (.trans (fz ⟨(abl r_),[(65,some (.cells 77 [(.own 67 false 0),(.own 68 false 0),(.d nS)])),abW,aaY,(68,some (.arr 3 1 0 (aN (aC .i64) ([]:List Int))))]⟩ []) (.trans (bZ.AQ (E:=0) (esz:=0) (E0:=77) (cs:=[(.own 67 false 0),(.own 68 false 0),(.d nS)]) (p:=65) (q:=2) (b:=69) (esz0:=0) (el0:=fun _ _=> .nilp) (ob:= .arr 164 2 0 (aN ah.cell ([]:List ah))) (fun _ _ _ _ h=> .inl ⟨h,rfl⟩) (by kernel_rfl) (by kernel_rfl) (by kernel_rfl)) (.trans (fz ⟨(abl r_),[(65,some (.cells 77 [(.own 67 false 0),(.own 68 false 0),(.own 69 false 0)])),abW,aaY,(68,some (.arr 3 1 0 (aN (aC .i64) ([]:List Int)))),(69,some (.arr 164 2 0 (aN ah.cell ([]:List ah))))]⟩ []) (.trans (bZ.fin (st':=⟨[(4,(vP 4 0)),(5,(vO 3 false 0)),(6,(vI r_))],[(0,some (.arr 3 1 0 (aN (aC .i64) ([]:List Int)))),(1,some (.arr 3 1 0 (aN (aC .i64) ([]:List Int)))),(2,some (.arr 164 2 0 (aN ah.cell ([]:List ah)))),(3,some (.arr 4 1 0 (aN aD ([]:List Bool)))),(4,some (.cells 77 [(.own 0 false 0),(.own 1 false 0),(.own 2 false 0)]))]⟩) (cs:=[]) ⟨[],[(67,0),(68,1),(69,2),(66,3),(65,4)]⟩ [4,5,6] (by kernel_rfl) trivial) (bZ.le (st':=⟨[(4,(vP 4 0)),(5,(vO 3 false (([]:List Bool).length))),(6,(vI r_))],[(0,some (dK 3 1 (aC .i64) ([]:List Int))),(1,some (dK 3 1 (aC .i64) ([]:List Int))),(2,some (dK 164 2 ah.cell ([]:List ah))),(3,some (dK 4 1 aD ([]:List Bool))),(4,some (.cells 77 ae7))]⟩) ⟨⟨tR,⟨_,rfl,dY.v (eX.one cW)⟩,tR,trivial⟩,⟨rfl,oW,⟨rfl,oW,⟨rfl,oW,⟨rfl,oW,⟨rfl,bX ⟨cW,cW,cW,trivial⟩,trivial⟩⟩⟩⟩⟩⟩))))))))) ?_
  refine aR ?_
  obtain rfl:=oi h
  exact rh [(.agg ae7),(.one (.own 3 false (([]:List Bool).length))),(sI r_)] (.refl _) (hN 4 ⟨rfl,trivial,trivial⟩)
 ·refine cf hb9 ?_
  refine aP (sz tT (agt p s_) {} [] ?_)
  refine aQ (aO h fun⟨a1,a2,a3⟩ h=> ?_)
  refine ri tT ⟨(Zc s_ p),[(Az p),dz,(70,some (.arr 40 1 (FP p).length (fun _ j=>[nS].getD j .nilp))),(aho p)]⟩ [_,(afA p)=(XU p),_,_,(FP p).length=(WW p),aY (WW p) 1 (fun _ j=>[nS].getD j .nilp) (fun _ j=>[nS].getD j .nilp)] {an:=[(2, .arr (FP p).length (fun _ j=>[nS].getD j .nilp))],fr:=[(2,70),(4,71)] } [] ⟨a1,rfl,a2,a3,(List.length_replicate),(gN _ _ _),trivial⟩ (.trans (bZ.Xx (b:=70) (E:=40) (esz:=1) (len:=(FP p).length) (el:=(fun _ j=>[nS].getD j .nilp)) (el':=ni uo (FP p)) (by kernel_rfl) (fun i hi j hj=>match j,hj with|0,_=>QA _ _ _ _ _ _ _ _)) (.trans (fz ⟨(Zc s_ p),[(Az p),dz,(WO p),(aho p)]⟩ []) (.trans (bZ.AQ (E:=0) (esz:=0) (E0:=161) (cs:=(aek p)) (p:=71) (q:=0) (b:=72) (esz0:=0) (el0:=fun _ _=> .nilp) (ob:= .arr 170 2 0 (aN cO.cell ([]:List cO))) (fun _ _ _ _ h=> .inl ⟨h,rfl⟩) (by kernel_rfl) (by kernel_rfl) (by kernel_rfl)) (.trans (fz ⟨(Zc s_ p),[(Az p),dz,(WO p),(71,some (.cells 161 [(.own 72 false 0),(.own 70 true (TS p))])),(72,some (.arr 170 2 0 (aN cO.cell ([]:List cO))))]⟩ []) (bZ.le (st':=⟨(Zc s_ p),[(Az p),dz,(WO p),(aaP p),abu]⟩) ⟨⟨tR,tR,tR,tR,tR,trivial⟩,(hN 3 ⟨rfl,bX ⟨cW,eD.refl _,trivial⟩,⟨rfl,oW,trivial⟩⟩)⟩))))) ?_
  refine aQ (aO h fun⟨a1,a2,a3,a4,a5,a6,a7,a8,a9⟩ h=> ?_)
  refine dg tT mX ⟨[(2,(vP 63 0)),(gQ s_),(4,(vP 65 0)),(og p),(9,(vP 71 0)),(10,(vP 76 0))],[(Az p),dz,(WO p),(aaP p),abu,(Xq p),(N8 p),(LJ p),(Vs p)]⟩ [_,((p.ai.length:Int):Int)=(p.ai.length:Int),_,_,(Nt p).length=(VW p),aY (VW p) 1 (fun _ j=>[(.int .i64 0)].getD j .nilp) (Yo p),_,((p.af.length:Int):Int)=(p.af.length:Int),_,_,(NK p).length=(Sc p),aY (Sc p) 1 (fun _ j=>[(.int .i64 0)].getD j .nilp) (TH p),_,((p.aF.length:Int):Int)=(p.aF.length:Int),_,_,(Si p).length=(Wp p),aY (Wp p) 2 (fun _ j=>[(.int .i64 0),(.int .i64 0)].getD j .nilp) (XQ p)] {an:=[(3, .arr (Nt p).length (Yo p)),(7, .arr (NK p).length (TH p)),(11, .arr (Si p).length (XQ p))],fr:=[(3,73),(7,74),(11,75),(13,76)] } [] ⟨a1,rfl,a2,a3,(List.length_replicate),(fB _ _ _ _ _ (fun j hj=>(match j,hj with|0,_=>rfl))),a4,rfl,a5,a6,(List.length_replicate),(fB _ _ _ _ _ (fun j hj=>(match j,hj with|0,_=>rfl))),a7,rfl,a8,a9,(List.length_replicate),(fB _ _ _ _ _ (fun j hj=>(match j,hj with|0,_=>rfl|1,_=>rfl))),trivial⟩ ?_
  refine sz tT ⟨(V5 s_ p),(aiv p)⟩ {an:=[(0, .map 0 (vG (aC .i64) ([]:(List (Int × Int)))) (xH (aC .i64) ([]:(List (Int × Int)))) []),(1, .map 0 (vG (aC .i64) ([]:(List (Int × Int)))) (xH (aC .i64) ([]:(List (Int × Int)))) []),(2, .map 0 (vG ah.cell ([]:(List (ah × Int)))) (xH (aC .i64) ([]:(List (ah × Int)))) [])],fr:=[(0,77),(1,78),(2,79)] } [] ?_
  refine aQ (sz tT ⟨[(2,(vP 63 0)),(gQ s_),(4,(vP 65 0)),(og p),(9,(vP 71 0)),(10,(vP 76 0)),sG,qE,oo,(Jd p),(Jq p),(68,(vI 0))],(aiv p)⟩ {} [] ?_)
  refine bE h fun y hy h=> ?_
  refine aL [] (wL p s_) (vT p s_) gy hy (fun s f h=> ?_) ?_
  ·clear hy
   show bW _ _ _ _ _ _ ((Fh p s_) f) _
   unfold sN at h
   obtain⟨n0,n1,v9,v0⟩:=s
   refine sz tT ⟨[(2,(vP 63 0)),(gQ s_),(4,(vP 65 0)),(og p),(9,(vP 71 0)),(10,(vP 76 0)),sG,qE,oo,(Jd p),(Jq p),(68,(vI v0)),(69,(vB (decide (v0<(p.ai.length:Int)))))],(UQ p n1 n0 v9)⟩ {} [] ?_
   refine aQ ?_
   refine bI h (fun hb1 h=> ?_) (fun hb1 h=> ?_)
   ·refine ct hb1 ?_
    refine aP (aQ (aB (aQ (aO h fun a1 h=> ?_))))
    refine rg tT ⟨[(2,(vP 63 0)),(gQ s_),(4,(vP 65 0)),(og p),(9,(vP 71 0)),(10,(vP 76 0)),sG,qE,oo,(14,(vI v0)),(Ux p v0),(Jd p),(Jq p),(68,(vI v0))],(UQ p n1 n0 v9)⟩ [_] {fr:=[(3,86)] } [86] ⟨a1,trivial⟩ ?_
    refine aQ (bE h fun ui hr_1 h=> ?_)
    have q0:=gJ p s_ v0 hr_1
    refine rg tT ⟨[(2,(vP 63 0)),(gQ s_),(4,(vP 65 0)),(og p),(9,(vP 71 0)),(10,(vP 76 0)),sG,qE,oo,(14,(vI v0)),(Ux p v0),(Jd p),(Jq p),(68,(vI v0)),(76,(vB ui))],(UQ p n1 n0 v9)⟩ [_] {an:=[(3,cA q0 [])] } [] ⟨q0,trivial⟩ ?_
    refine bI h (fun hb h=> ?_) (fun hb h=> ?_)
    ·refine ct hb ?_
     refine bE h fun v4 hr_2 h=> ?_
     have q0:=rk [(0,71),(1,72),(2,70),(3,87)] (dI 0 (IntKind.wrap .i64 ((1:Int)+((at' p.ai v0.toNat).bus))) ((at' p.ai v0.toNat).cK) 0 (⟨n0,n1⟩:aH) hr_2)
     refine rg tT ⟨(aeK s_ p v0),(ah1 p v4 v0 v9)⟩ [_,Ep [some .i64] 1 1 v9.length (vG (aC .i64) v9) (xH (aC .i64) v9) [(.int .i64 v0)] [(cI v4.1)] [] (dZ gm v0 v4.1 v9).length (Qn v0 v4 v9) (OM v0 v4 v9)] {an:=[(8,cA q0 [71,72,70]),(9, .map (dZ gm v0 v4.1 v9).length (Qn v0 v4 v9) (OM v0 v4 v9) [])] } [] ⟨q0,(su (fun _=>rfl) (fun _ _=>rfl) v9 v0 v4.1 rfl rfl),trivial⟩ ?_
     refine ri tT ⟨(aa8 s_ p v0),(ah1 p v4 v0 v9)⟩ [] {} [] trivial (bZ.fin (st':=⟨(aa8 s_ p v0),[(Az p),dz,(Po v4),(ahu v4),(72,some (Ic v4)),(Xq p),(N8 p),(LJ p),(Vs p),(77,some (OB v0 v4 v9)),Xe,NN]⟩) (cs:=[]) ⟨[],[(63,63),(65,65),(70,70),(71,71),(87,72),(73,73),(74,74),(75,75),(76,76),(77,77),(78,78),(79,79)]⟩ [2,3,4,8,9,10,11,12,13,66,67,68] (by kernel_rfl) trivial) ?_
     obtain rfl:=oi h
     exact lN
    ·refine cf hb ?_
     refine aP (rz tT ⟨(aa8 s_ p v0),(UQ p n1 n0 v9)⟩ {} [] ?_)
     obtain rfl:=oi h
     exact lN
   ·refine cf hb1 ?_
    refine aI (fz ⟨(V5 s_ p),(UQ p n1 n0 v9)⟩ []) ?_
    refine aX ?_
    obtain rfl:=oi h
    exact lB
  ·clear hy
   cases y with
   |brk z=>
    obtain⟨p1,ue,uc,x0,u4⟩:=z
    unfold fT
    refine⟨_, .refl, ?_⟩
    refine aQ (sz tT ⟨[(2,(vP 63 0)),(gQ s_),(4,(vP 65 0)),(og p),(9,(vP 71 0)),(10,(vP 76 0)),sG,qE,oo,(Jh p),(Jr p),(90,(vI 0))],(adl p x0 p1 uc ue u4)⟩ {} [] ?_)
    refine bE h fun y1 hy h=> ?_
    refine aL [] (xG p s_ p1 x0 u4) (xq p s_ p1 x0 u4) gy hy (fun s f h=> ?_) ?_
    ·clear hy
     show bW _ _ _ _ _ _ ((EC p s_ p1 x0 u4) f) _
     unfold sQ at h
     obtain⟨w7,w3,w0,u7⟩:=s
     refine sz tT ⟨[(2,(vP 63 0)),(gQ s_),(4,(vP 65 0)),(og p),(9,(vP 71 0)),(10,(vP 76 0)),sG,qE,oo,(Jh p),(Jr p),(90,(vI u7)),(91,(k98 p u7))],(Ty p w0 p1 w3 w7 x0 u4)⟩ {} [] ?_
     refine aQ ?_
     refine bI h (fun hb3 h=> ?_) (fun hb3 h=> ?_)
     ·refine ct hb3 ?_
      refine aP (aQ (aB (aQ (aO h fun a1 h=> ?_))))
      refine rg tT ⟨[(2,(vP 63 0)),(gQ s_),(4,(vP 65 0)),(og p),(9,(vP 71 0)),(10,(vP 76 0)),sG,qE,oo,(16,(vI u7)),(Y6 p u7),(Jh p),(Jr p),(90,(vI u7))],(Ty p w0 p1 w3 w7 x0 u4)⟩ [_] {fr:=[(3,94)] } [94] ⟨a1,trivial⟩ ?_
      refine aQ (bE h fun uj hr_3 h=> ?_)
      have q0:=eP (⟨p.ax,p1,p.af,p.aF⟩:au) s_ u7 hr_3
      refine rg tT ⟨[(2,(vP 63 0)),(gQ s_),(4,(vP 65 0)),(og p),(9,(vP 71 0)),(10,(vP 76 0)),sG,qE,oo,(16,(vI u7)),(Y6 p u7),(Jh p),(Jr p),(90,(vI u7)),(98,(vB uj))],(Ty p w0 p1 w3 w7 x0 u4)⟩ [_] {an:=[(3,cA q0 [])] } [] ⟨q0,trivial⟩ ?_
      refine bI h (fun hb2 h=> ?_) (fun hb2 h=> ?_)
      ·refine ct hb2 ?_
       refine bE h fun v5 hr_4 h=> ?_
       have q0:=rk [(0,71),(1,72),(2,70),(3,95)] (dI (IntKind.wrap .i64 ((1:Int)+((at' p.af u7.toNat).a))) (IntKind.wrap .i64 ((1:Int)+((at' p.af u7.toNat).b))) (R9 p u7) (R9 p u7) (⟨w7,w3⟩:aH) hr_4)
       refine rg tT ⟨(ahq s_ p u7),(aeT p p1 v5 x0 u4 u7 w0)⟩ [_,Ep [some .i64] 1 1 w0.length (vG (aC .i64) w0) (xH (aC .i64) w0) [(.int .i64 u7)] [(cI v5.1)] [] (dZ gm u7 v5.1 w0).length (Qn u7 v5 w0) (OM u7 v5 w0)] {an:=[(13,cA q0 [71,72,70]),(14, .map (dZ gm u7 v5.1 w0).length (Qn u7 v5 w0) (OM u7 v5 w0) [])] } [] ⟨q0,(su (fun _=>rfl) (fun _ _=>rfl) w0 u7 v5.1 rfl rfl),trivial⟩ ?_
       refine ri tT ⟨(abN s_ p u7),(aeT p p1 v5 x0 u4 u7 w0)⟩ [] {} [] trivial (bZ.fin (st':=⟨(abN s_ p u7),[(Qk p p1),dz,(Po v5),(ahu v5),(72,some (Ic v5)),(mP x0),(N8 p),(LJ p),(Zf p x0),(EK u4),(78,some (OB u7 v5 w0)),NN]⟩) (cs:=[]) ⟨[],[(63,63),(65,65),(70,70),(71,71),(95,72),(73,73),(74,74),(75,75),(76,76),(77,77),(78,78),(79,79)]⟩ [2,3,4,8,9,10,11,12,13,88,89,90] (by kernel_rfl) trivial) ?_
       obtain rfl:=oi h
       exact lN
      ·refine cf hb2 ?_
       refine aP (rz tT ⟨(abN s_ p u7),(Ty p w0 p1 w3 w7 x0 u4)⟩ {} [] ?_)
       obtain rfl:=oi h
       exact lN
     ·refine cf hb3 ?_
      refine aI (fz ⟨(V5 s_ p),(Ty p w0 p1 w3 w7 x0 u4)⟩ []) ?_
      refine aX ?_
      obtain rfl:=oi h
      exact lB
    ·clear hy
     cases y1 with
     |brk z=>
      obtain⟨p2,uf,ud,x1,u5⟩:=z
      unfold fT
      refine⟨_, .refl, ?_⟩
      refine aQ (sz tT ⟨[(2,(vP 63 0)),(gQ s_),(4,(vP 65 0)),(og p),(9,(vP 71 0)),(10,(vP 76 0)),sG,qE,oo,(115,(vD (k6 p))),(116,(vI (p.aF.length:Int))),(117,(vI 0))],(ahM x1 p p1 p2 ud uf x0 u4 u5)⟩ {} [] ?_)
      refine bE h fun y3 hy h=> ?_
      refine aL [] (vY p s_ p1 x0 u4 p2 x1 u5) (wo p p1 x0 u4 p2 x1 u5) gy hy (fun s f h=> ?_) ?_
      ·clear hy
       show bW _ _ _ _ _ _ ((oQ p s_ p1 x0 u4 p2 x1 u5) f) _
       unfold sU at h
       obtain⟨p3,v7,x7,x3,x2,x9,u2,w1,u0⟩:=s
       refine sz tT ⟨[(2,(vP 63 0)),(gQ s_),(4,(vP 65 0)),(8,(vI v7)),(9,(vP 71 0)),(10,(vP 76 0)),sG,qE,oo,(Af u2),(116,(vI w1)),(117,(vI u0)),(118,(vB (decide (u0<w1))))],(Xt x2 x0 x1 x9 p p1 p2 p3 x3 x7 u4 u5)⟩ {} [] ?_
       refine aQ ?_
       refine bI h (fun hb6 h=> ?_) (fun hb6 h=> ?_)
       ·refine ct hb6 ?_
        refine aP (aQ (aB (aQ (aO h fun a1 h=> ?_))))
        refine rg tT ⟨(ahB s_ v7 u0 u2 w1),(Xt x2 x0 x1 x9 p p1 p2 p3 x3 x7 u4 u5)⟩ [_] {fr:=[(3,114)] } [114] ⟨a1,trivial⟩ ?_
        refine aQ (bE h fun x4 hr_5 h=> ?_)
        have q0:=rk [(0,71),(1,72),(2,70),(3,115)] (dI (YK p u0) v7 ((at' u2 u0.toNat).cK) 0 (⟨x7,x3⟩:aH) hr_5)
        refine rg tT ⟨(ahB s_ v7 u0 u2 w1),(afg p p1 x0 u4 x4 p2 p3 x1 x2 u5 x9)⟩ [_] {an:=[(9,cA q0 [71,72,70])] } [] ⟨q0,trivial⟩ ?_
        refine sz tT ⟨[(2,(vP 63 0)),(gQ s_),(4,(vP 65 0)),(8,(vI v7)),(9,(vP 71 0)),(10,(vP 76 0)),sG,qE,oo,(18,(vI u0)),(FB u2 u0),(Af u2),(116,(vI w1)),(117,(vI u0)),(Jk u2 u0),(134,(vI 0))],(afg p p1 x0 u4 x4 p2 p3 x1 x2 u5 x9)⟩ {} [] ?_
        refine bE h fun y2 hy h=> ?_
        refine aL [5] (xE p s_ p1 x0 u4 p2 x1 u5 p3 v7 x2 u2 w1 u0) (vW p s_ p1 x0 u4 p2 x1 u5 p3 v7 x2 u2 w1 u0) (oQ p s_ p1 x0 u4 p2 x1 u5) hy (fun s f h=> ?_) ?_
        ·clear hy
         show bW _ _ _ _ _ _ ((EF p s_ p1 x0 u4 p2 x1 u5 p3 v7 x2 u2 w1 u0) f) _
         unfold sK at h
         obtain⟨w8,w4,w2,v3⟩:=s
         refine sz tT ⟨[(2,(vP 63 0)),(gQ s_),(4,(vP 65 0)),(8,(vI v7)),(9,(vP 71 0)),(10,(vP 76 0)),sG,qE,oo,(18,(vI u0)),(FB u2 u0),(Af u2),(116,(vI w1)),(117,(vI u0)),(Jk u2 u0),(134,(vI v3)),(135,(vB (decide (v3<2))))],(Rj p p1 p2 p3 w4 w8 x0 x1 x2 u4 u5 w2)⟩ {} [] ?_
         refine aQ ?_
         refine bI h (fun hb5 h=> ?_) (fun hb5 h=> ?_)
         ·refine ct hb5 ?_
          refine aP (aQ (aB (aQ (aO h fun a1 h=> ?_))))
          refine rg tT ⟨[(2,(vP 63 0)),(gQ s_),(4,(vP 65 0)),(8,(vI v7)),(9,(vP 71 0)),(10,(vP 76 0)),sG,qE,oo,(18,(vI u0)),(FB u2 u0),(20,(vI v3)),(YD u0 u2 v3),(Af u2),(116,(vI w1)),(117,(vI u0)),(Jk u2 u0),(134,(vI v3))],(Rj p p1 p2 p3 w4 w8 x0 x1 x2 u4 u5 w2)⟩ [_,v3.toNat*1+1≤(Wq u2 u0).length,((Wq u2 u0).drop (v3.toNat*1)).take 1=(Zi u0 u2 v3).map .d] {an:=[(1, .vals (Zi u0 u2 v3))] } [] ⟨a1,(Wv (n:=2) (sz:=1) (Nat.le_refl _) a1),(Vt (n:=2) (sz:=1) (g:=fun q=>[(cI (at' [(Lj u2 u0).e0,(Lj u2 u0).e1] q))]) (by intro q hq;match q,hq with|0,_=>rfl|1,_=>rfl) a1),trivial⟩ ?_
          refine aQ (bE h fun ul hr_6 h=> ?_)
          have q0:=lX s_ (Wm u0 u2 v3) hr_6
          refine rg tT ⟨[(2,(vP 63 0)),(gQ s_),(4,(vP 65 0)),(8,(vI v7)),(9,(vP 71 0)),(10,(vP 76 0)),sG,qE,oo,(18,(vI u0)),(FB u2 u0),(20,(vI v3)),(YD u0 u2 v3),(Af u2),(116,(vI w1)),(117,(vI u0)),(Jk u2 u0),(134,(vI v3)),(140,(vB ul))],(Rj p p1 p2 p3 w4 w8 x0 x1 x2 u4 u5 w2)⟩ [_] {an:=[(2,cA q0 [])] } [] ⟨q0,trivial⟩ ?_
          refine bI h (fun hb4 h=> ?_) (fun hb4 h=> ?_)
          ·refine ct hb4 ?_
           refine bE h fun v6 hr_7 h=> ?_
           have q0:=rk [(0,71),(1,115),(2,70),(3,119)] (dI (adz u0 u2 v3) (YK p u0) ((at' u2 u0.toNat).cK) 0 (⟨w8,w4⟩:aH) hr_7)
           refine rg tT ⟨(ahS s_ v7 u0 u2 w1 v3),[(fA p p1 p2 p3),dz,(Po v6),(aiA v6),(mP x0),(o5 x1),(qI x2),(rF x2 x0 x1),(EK u4),(Fu u5),(79,some (Kl 164 3 true false 2 1 ah.cell (aC .i64) (dZ (fun a b=>(decide (a.e0=b.e0) && (decide (a.e1=b.e1) && true))) (⟨u0,v3⟩:ah) v6.1 w2))),(119,some (Ic v6))]⟩ [_,Ep [some .i64,some .i64] 2 1 w2.length (vG ah.cell w2) (xH (aC .i64) w2) [(.int .i64 u0),(.int .i64 v3)] [(cI v6.1)] [] (dZ (fun a b=>(decide (a.e0=b.e0) && (decide (a.e1=b.e1) && true))) (⟨u0,v3⟩:ah) v6.1 w2).length (vG ah.cell (dZ (fun a b=>(decide (a.e0=b.e0) && (decide (a.e1=b.e1) && true))) (⟨u0,v3⟩:ah) v6.1 w2)) (xH (aC .i64) (dZ (fun a b=>(decide (a.e0=b.e0) && (decide (a.e1=b.e1) && true))) (⟨u0,v3⟩:ah) v6.1 w2))] {an:=[(14,cA q0 [71,115,70]),(15, .map (dZ (fun a b=>(decide (a.e0=b.e0) && (decide (a.e1=b.e1) && true))) (⟨u0,v3⟩:ah) v6.1 w2).length (vG ah.cell (dZ (fun a b=>(decide (a.e0=b.e0) && (decide (a.e1=b.e1) && true))) (⟨u0,v3⟩:ah) v6.1 w2)) (xH (aC .i64) (dZ (fun a b=>(decide (a.e0=b.e0) && (decide (a.e1=b.e1) && true))) (⟨u0,v3⟩:ah) v6.1 w2)) [])] } [] ⟨q0,(su (fun _=>rfl) (fun _ _=>rfl) w2 (⟨u0,v3⟩:ah) v6.1 rfl rfl),trivial⟩ ?_
           refine ri tT ⟨(aaS s_ v7 u0 u2 w1 v3),[(fA p p1 p2 p3),dz,(Po v6),(aiA v6),(mP x0),(o5 x1),(qI x2),(rF x2 x0 x1),(EK u4),(Fu u5),(79,some (Kl 164 3 true false 2 1 ah.cell (aC .i64) (dZ (fun a b=>(decide (a.e0=b.e0) && (decide (a.e1=b.e1) && true))) (⟨u0,v3⟩:ah) v6.1 w2))),(119,some (Ic v6))]⟩ [] {} [] trivial (bZ.fin (st':=⟨(aaS s_ v7 u0 u2 w1 v3),[(fA p p1 p2 p3),dz,(Po v6),(afQ v6),(mP x0),(o5 x1),(qI x2),(rF x2 x0 x1),(EK u4),(Fu u5),(79,some (Kl 164 3 true false 2 1 ah.cell (aC .i64) (dZ (fun a b=>(decide (a.e0=b.e0) && (decide (a.e1=b.e1) && true))) (⟨u0,v3⟩:ah) v6.1 w2))),(YF v6)]⟩) (cs:=[]) ⟨[],[(63,63),(65,65),(70,70),(71,71),(73,73),(74,74),(75,75),(76,76),(77,77),(78,78),(79,79),(119,115)]⟩ [2,3,4,8,9,10,11,12,13,18,19,115,116,117,133,134] (by kernel_rfl) trivial) ?_
           obtain rfl:=oi h
           exact lN
          ·refine cf hb4 ?_
           refine aP (rz tT ⟨(aaS s_ v7 u0 u2 w1 v3),(Rj p p1 p2 p3 w4 w8 x0 x1 x2 u4 u5 w2)⟩ {} [] ?_)
           obtain rfl:=oi h
           exact lN
         ·refine cf hb5 ?_
          refine aI (fz (agY s_ v7 u2 w1 u0 p p1 p2 p3 w4 w8 x0 x1 x2 u4 u5 w2) []) ?_
          refine aX ?_
          obtain rfl:=oi h
          exact lB
        ·clear hy
         cases y2 with
         |brk z=>
          obtain⟨ub,x8,ug⟩:=z
          unfold fT
          refine⟨_, .refl, ?_⟩
          refine ri tT ⟨(afk s_ v7 u0 u2 w1),(Rj p p1 p2 p3 x8 ub x0 x1 x2 u4 u5 ug)⟩ [] {} [] trivial (bZ.fin (st':=⟨(afk s_ v7 u0 u2 w1),(Xt x2 x0 x1 ug p p1 p2 p3 x8 ub u4 u5)⟩) (cs:=[]) ⟨[],[(63,63),(65,65),(70,70),(71,71),(115,72),(73,73),(74,74),(75,75),(76,76),(77,77),(78,78),(79,79)]⟩ [2,3,4,8,9,10,11,12,13,115,116,117] (by kernel_rfl) trivial) ?_
          obtain rfl:=oi h
          exact lN
         |ret v=>
          obtain rfl:=oi h
          unfold fT
          intro e st hn ha hR
          cases e with
          |normal=>exact absurd rfl hn
          |exit id=>simp only [qB (b:=5) ha rfl,cond_false];exact hR
          |goto l=>exact hR
          |ret=>exact hR
          |panic c=>exact hR
          |outgrown=>exact hR
       ·refine cf hb6 ?_
        refine aI (fz (ahZ v7 p p1 p2 p3 x3 x7 x0 x1 x2 u4 u5 x9) []) ?_
        refine aX ?_
        obtain rfl:=oi h
        exact lB
      ·clear hy
       cases y3 with
       |brk z=>
        obtain⟨v1,ua,x5,x6,v2,u3⟩:=z
        unfold fT
        refine⟨_, .refl, ?_⟩
        refine aQ (aI (.trans (fi ⟨(abk ua),[(fA p p1 p2 v1),dz,(71,some (.cells 161 [(.own 72 false x5.length),(.d (.sl (some true) 1 x6.length (fun i j=>evD (ni uo x6 i j))))])),(M7 x5),(mP x0),(o5 x1),(qI v2),(rF v2 x0 x1),(EK u4),(Fu u5),(Gm u3)]⟩ [x6.length=x6.length] [70] ⟨rfl,trivial⟩) (bZ.le (st':=⟨(abk ua),[(fA p p1 p2 v1),dz,(ahp x5 x6),(M7 x5),(mP x0),(o5 x1),(qI v2),(rF v2 x0 x1),(EK u4),(Fu u5),(Gm u3)]⟩) ⟨⟨tR,tR,tR,tR,tR,tR,tR,tR,trivial⟩,(hN 2 ⟨rfl,bX ⟨eD.refl _,eD.d (gX.sl (.inr rfl) (fun i _ j hj=>match j,hj with|0,_=> .refl _)),trivial⟩,(.refl _)⟩)⟩)) ?_)
        refine bE h fun u1 hr_8 h=> ?_
        refine rg tT ⟨[(2,(vP 63 0)),(4,(vP 65 0)),(9,(vP 71 0)),(10,(vP 76 0)),sG,qE,oo],[(fA p p1 p2 v1),dz,(zy u1),(zC u1),(mP x0),(o5 x1),(qI v2),(rF v2 x0 x1),(EK u4),(Fu u5),(Gm u3)]⟩ [Fn Try.prog 80 [(.one (.ptr 71 0)),(sI ua)] [(ahp x5 x6),(M7 x5)] (.iG []) (ah7 u1)] {an:=[(2, .call [71,72] (.iG []) (ah7 u1))] } [] ⟨(Fn.leH (args:=[(.one (.ptr 71 0)),(sI ua)]) (hin:=[(71,some (.cells 161 [(.own 72 false x5.length),(.d (QO x6))])),(M7 x5)]) (rK [(0,71),(1,72)] (pX ua (⟨x5,x6⟩:aH) hr_8)) ⟨eX.refl _,eX.refl _,trivial⟩ ⟨rfl,bX ⟨eD.refl _,eD.d gX.oP,trivial⟩,(.refl _)⟩),trivial⟩ ?_
        refine aQ (bE h fun y4 hy h=> ?_)
        refine nM (EO p p1 p2 x1 u5 v1 v2 u3 u1) (K:=3) (V:=3) (s0:=(x0)) ⟨3,3,false,false,1,1,u4.length,vG (aC .i64) u4,xH (aC .i64) u4,[]⟩ 77 120 (fun i=>(sI (at' (u4.map Prod.fst) i))) (fun i=>(sI (at' (u4.map Prod.snd) i))) hy [3,4] (by kernel_rfl) (by kernel_rfl) (by kernel_rfl) (fun _ _=> ⟨rfl,rfl⟩) (fun _ _=> ⟨rR _ _,rR _ _⟩) (fun _=>(bZ.fin (st':=(aha u1 p p1 p2 v1 x0 x1 v2 u5 u3)) (cs:=[]) ⟨[],[(63,63),(65,65),(71,71),(72,72),(73,73),(74,74),(75,75),(76,76),(78,78),(79,79),(120,120)]⟩ [2,4,9,10,12,13,162] (by kernel_rfl) trivial)) (fun s=>by obtain⟨w5,rfl⟩: ∃q,q=s:=⟨_,rfl⟩;kernel_rfl) (fun B s i s' hi h=> ?_) ?_
        ·clear hy
         unfold tC at h
         obtain⟨w5,rfl⟩: ∃q,q=s:=⟨_,rfl⟩
         refine rwp tT (⟨[(2,(vP 63 0)),(4,(vP 65 0)),(9,(vP 71 0)),(10,(vP 76 0)),qE,oo,(22,(vI (at' (u4.map Prod.fst) i))),(23,(vI (at' (u4.map Prod.snd) i))),(162,(vP 120 0))],(aeG u1 p p1 p2 v1 w5 x1 v2 u5 u3)⟩) {fin:=⟨[],[(63,63),(65,65),(71,71),(72,72),(73,73),(74,74),(75,75),(76,76),(78,78),(79,79),(120,120)]⟩,ts:=[2,4,9,10,12,13,22,23,162] } (cs:=[]) (by kernel_rfl) trivial .refl ?_
         refine aO h fun⟨a1,a2⟩ h=> ?_
         refine di tT mX ⟨abA,[(fA p p1 p2 v1),dz,(zy u1),(zC u1),(73,some (.arr 3 1 w5.length (Tt u4 u1 i w5))),(o5 x1),(qI v2),(rF v2 w5 x1),(Fu u5),(Gm u3),(120,none)]⟩ [_,_,_,_,aY w5.length 1 (ad9 u4 u1 i w5) (Tt u4 u1 i w5)] {an:=[(13, .arr 0 (Tt u4 u1 i w5))] } [] ⟨a1,(tL a1),a2,(tL a2),(cZ _ _ _ _ _ _ _ _ rfl (fun j hj=>(match j,hj with|0,_=>rfl))),trivial⟩ (bZ.le (st':=⟨abA,[(fA p p1 p2 v1),dz,(zy u1),(zC u1),(73,some (aix u4 u1 i w5)),(o5 x1),(qI v2),(76,some (.cells 77 [(.own 73 true (aew u4 u1 i w5)),(.own 74 true x1.length),(.own 75 true v2.length)])),(Fu u5),(Gm u3),(120,none)]⟩) ⟨⟨tR,tR,tR,tR,tR,tR,tR,trivial⟩,(hN 4 ⟨rfl,oW,(hN 2 ⟨rfl,bX ⟨cW,eD.refl _,eD.refl _,trivial⟩,(.refl _)⟩)⟩)⟩) ?_
         obtain rfl:=oi h
         exact⟨.inl rfl,by kernel_rfl⟩
        ·clear hy
         obtain⟨u6,rfl⟩: ∃q,q=y4:=⟨_,rfl⟩
         refine aI (fz ⟨[(2,(vP 63 0)),(4,(vP 65 0)),(9,(vP 71 0)),(10,(vP 76 0)),qE,oo],[(fA p p1 p2 v1),dz,(zy u1),(zC u1),(mP u6),(o5 x1),(qI v2),(rF v2 u6 x1),(Fu u5),(Gm u3)]⟩ []) ?_
         refine aQ (bE h fun y5 hy h=> ?_)
         refine nM (Fw p p1 p2 v1 v2 u3 u1 u6) (K:=3) (V:=3) (s0:=(x1)) ⟨3,3,false,false,1,1,u5.length,vG (aC .i64) u5,xH (aC .i64) u5,[]⟩ 78 121 (fun i1=>(sI (at' (u5.map Prod.fst) i1))) (fun i1=>(sI (at' (u5.map Prod.snd) i1))) hy [3,4] (by kernel_rfl) (by kernel_rfl) (by kernel_rfl) (fun _ _=> ⟨rfl,rfl⟩) (fun _ _=> ⟨rR _ _,rR _ _⟩) (fun _=>(bZ.fin (st':=(ae1 p p1 p2 v1 u1 u6 x1 v2 u3)) (cs:=[]) ⟨[],[(63,63),(65,65),(71,71),(72,72),(73,73),(74,74),(75,75),(76,76),(79,79),(121,121)]⟩ [2,4,9,10,13,182] (by kernel_rfl) trivial)) (fun s=>by obtain⟨w6,rfl⟩: ∃q,q=s:=⟨_,rfl⟩;kernel_rfl) (fun B s i1 s' hi h=> ?_) ?_
         ·clear hy
          unfold sW at h
          obtain⟨w6,rfl⟩: ∃q,q=s:=⟨_,rfl⟩
          refine rwp tT (⟨[(2,(vP 63 0)),(4,(vP 65 0)),(9,(vP 71 0)),(10,(vP 76 0)),oo,(24,(vI (at' (u5.map Prod.fst) i1))),(25,(vI (at' (u5.map Prod.snd) i1))),(182,(vP 121 0))],(afS p p1 p2 v1 u1 u6 w6 v2 u3)⟩) {fin:=⟨[],[(63,63),(65,65),(71,71),(72,72),(73,73),(74,74),(75,75),(76,76),(79,79),(121,121)]⟩,ts:=[2,4,9,10,13,24,25,182] } (cs:=[]) (by kernel_rfl) trivial .refl ?_
          refine aO h fun⟨a1,a2,a3⟩ h=> ?_
          refine di tT mX ⟨acj,[(fA p p1 p2 v1),dz,(zy u1),(zC u1),(mP u6),(74,some (.arr 3 1 w6.length (Um p2 u5 u1 i1 w6))),(qI v2),(rF v2 u6 w6),(Gm u3),(121,none)]⟩ [_,_,_,_,_,aY w6.length 1 (afC p2 u5 u1 i1 w6) (Um p2 u5 u1 i1 w6)] {an:=[(19, .arr 0 (Um p2 u5 u1 i1 w6))] } [] ⟨a1,a2,(tL a2),a3,(tL a3),(cZ _ _ _ _ _ _ _ _ rfl (fun j hj=>(match j,hj with|0,_=>rfl))),trivial⟩ (bZ.le (st':=⟨acj,[(fA p p1 p2 v1),dz,(zy u1),(zC u1),(mP u6),(74,some (aio p2 u5 u1 i1 w6)),(qI v2),(76,some (.cells 77 [(.own 73 true u6.length),(.own 74 true (afD p2 u5 u1 i1 w6)),(.own 75 true v2.length)])),(Gm u3),(121,none)]⟩) ⟨⟨tR,tR,tR,tR,tR,tR,trivial⟩,(hN 5 ⟨rfl,oW,⟨rfl, .refl _,⟨rfl,bX ⟨eD.refl _,cW,eD.refl _,trivial⟩,⟨rfl, .refl _,⟨rfl, .refl _,trivial⟩⟩⟩⟩⟩)⟩) ?_
          obtain rfl:=oi h
          exact⟨.inl rfl,by kernel_rfl⟩
         ·clear hy
          obtain⟨u8,rfl⟩: ∃q,q=y5:=⟨_,rfl⟩
          refine aI (fz ⟨[(2,(vP 63 0)),(4,(vP 65 0)),(9,(vP 71 0)),(10,(vP 76 0)),oo],[(fA p p1 p2 v1),dz,(zy u1),(zC u1),(mP u6),(o5 u8),(qI v2),(rF v2 u6 u8),(Gm u3)]⟩ []) ?_
          refine aQ (bE h fun y6 hy h=> ?_)
          refine nM (Fq p p1 p2 v1 u1 u6 u8) (K:=164) (V:=3) (s0:=(v2)) ⟨164,3,true,false,2,1,u3.length,vG ah.cell u3,xH (aC .i64) u3,[]⟩ 79 122 (fun i2=>(.agg (XP u3 i2))) (fun i2=>(sI (at' (u3.map Prod.snd) i2))) hy [3,4,5] (by kernel_rfl) (by kernel_rfl) (by kernel_rfl) (fun _ _=> ⟨rfl,rfl⟩) (fun _ _=> ⟨SA rfl,rR _ _⟩) (fun _=>(bZ.fin (st':=(ahO p p1 p2 v1 u1 u6 u8 v2)) (cs:=[]) ⟨[],[(63,63),(65,65),(71,71),(72,72),(73,73),(74,74),(75,75),(76,76),(122,122)]⟩ [2,4,9,10,208] (by kernel_rfl) trivial)) (fun s=>by obtain⟨u9,rfl⟩: ∃q,q=s:=⟨_,rfl⟩;kernel_rfl) (fun B s i2 s' hi h=> ?_) ?_
          ·clear hy
           unfold tH at h
           obtain⟨u9,rfl⟩: ∃q,q=s:=⟨_,rfl⟩
           refine rwp tT (⟨(aak u3 i2),[(fA p p1 p2 v1),dz,(zy u1),(zC u1),(mP u6),(o5 u8),(qI u9),(rF u9 u6 u8),(122,none),(125,some (.cells 164 (XP u3 i2)))]⟩) {fr:=frf [(3,125)],fin:=⟨[],[(63,63),(65,65),(71,71),(72,72),(73,73),(74,74),(75,75),(76,76),(122,122),(125,125)]⟩,ts:=[2,4,9,10,26,27,208] } (cs:=[]) (by kernel_rfl) trivial .refl ?_
           refine bI h (fun hb7 h=> ?_) (fun _ h=> ?_)
           ·skip
            refine aI (bZ.le (st':=⟨(aak u3 i2),[(fA p p1 p2 v1),dz,(zy u1),(zC u1),(mP u6),(o5 u8),(qI u9),(rF u9 u6 u8),(122,none),(125,some (.cells 164 [(cI ((at' (u3.map Prod.fst) i2).e0)),(cI 0)]))]⟩) ⟨⟨tR,tR,tR,tR,tR,tR,tR,trivial⟩,(hN 9 ⟨rfl,bX ⟨eD.refl _,eD.of (congrArg (fun n=>CV.d (.int .i64 n)) (of_decide_eq_true hb7)),trivial⟩,trivial⟩)⟩) ?_
            refine aO h fun⟨a1,a2⟩ h=> ?_
            refine di tT mX ⟨VY,[(fA p p1 p2 v1),dz,(zy u1),(zC u1),(mP u6),(o5 u8),(75,some (.arr 164 2 u9.length (UU u1 u3 i2 u9))),(rF u9 u6 u8),(122,none)]⟩ [(0:Int)≤0∧(0:Int)<(2:Nat),(0:Int)≤1∧(1:Int)<(2:Nat),_,_,_,(0:Int)≤0∧(0:Int)<(2:Nat),_,aY u9.length 2 (adp u1 u3 i2 u9) (UU u1 u3 i2 u9)] {an:=[(17, .arr 0 (UU u1 u3 i2 u9))] } [] ⟨((by decide)),((by decide)),a1,(tL a1),a2,((by decide)),(tL a2),(cZ _ _ _ _ _ _ _ _ rfl (fun j hj=>(match j,hj with|0,_=>rfl|1,_=>rfl))),trivial⟩ (bZ.le (st':=⟨VY,[(fA p p1 p2 v1),dz,(zy u1),(zC u1),(mP u6),(o5 u8),(75,some (afo u1 u3 i2 u9)),(76,some (.cells 77 [(.own 73 true u6.length),(.own 74 true u8.length),(.own 75 true (aie u1 u3 i2 u9))])),(122,none)]⟩) ⟨⟨tR,tR,tR,tR,tR,trivial⟩,(hN 6 ⟨rfl,oW,⟨rfl,bX ⟨eD.refl _,eD.refl _,cW,trivial⟩,(.refl _)⟩⟩)⟩) ?_
            obtain rfl:=oi h
            exact⟨.inl rfl,by kernel_rfl⟩
           ·skip
            refine aO h fun a1 h=> ?_
            refine aI (bZ.le (st':=⟨(aak u3 i2),[(fA p p1 p2 v1),dz,(zy u1),(zC u1),(mP u6),(o5 u8),(qI u9),(rF u9 u6 u8),(122,none),(125,some (.cells 164 [(cI ((at' (u3.map Prod.fst) i2).e0)),(cI 1)]))]⟩) ⟨⟨tR,tR,tR,tR,tR,tR,tR,trivial⟩,(hN 9 ⟨rfl,bX ⟨eD.refl _,eD.of (congrArg (fun n=>CV.d (.int .i64 n)) a1),trivial⟩,trivial⟩)⟩) ?_
            refine aO h fun⟨a1,a2⟩ h=> ?_
            refine di tT mX ⟨VY,[(fA p p1 p2 v1),dz,(zy u1),(zC u1),(mP u6),(o5 u8),(75,some (.arr 164 2 u9.length (Ti u1 u3 i2 u9))),(rF u9 u6 u8),(122,none)]⟩ [(0:Int)≤0∧(0:Int)<(2:Nat),(0:Int)≤1∧(1:Int)<(2:Nat),_,_,_,(0:Int)≤1∧(1:Int)<(2:Nat),_,aY u9.length 2 (agG u1 u3 i2 u9) (Ti u1 u3 i2 u9)] {an:=[(17, .arr 0 (Ti u1 u3 i2 u9))] } [] ⟨((by decide)),((by decide)),a1,(tL a1),a2,((by decide)),(tL a2),(cZ _ _ _ _ _ _ _ _ rfl (fun j hj=>(match j,hj with|0,_=>rfl|1,_=>rfl))),trivial⟩ (bZ.le (st':=⟨VY,[(fA p p1 p2 v1),dz,(zy u1),(zC u1),(mP u6),(o5 u8),(75,some (ahP u1 u3 i2 u9)),(76,some (.cells 77 [(.own 73 true u6.length),(.own 74 true u8.length),(.own 75 true (ahv u1 u3 i2 u9))])),(122,none)]⟩) ⟨⟨tR,tR,tR,tR,tR,trivial⟩,(hN 6 ⟨rfl,oW,⟨rfl,bX ⟨eD.refl _,eD.refl _,cW,trivial⟩,(.refl _)⟩⟩)⟩) ?_
            obtain rfl:=oi h
            exact⟨.inl rfl,by kernel_rfl⟩
          ·clear hy
           obtain⟨v8,rfl⟩: ∃q,q=y6:=⟨_,rfl⟩
           refine aI (fz ⟨[(2,(vP 63 0)),(4,(vP 65 0)),(9,(vP 71 0)),(10,(vP 76 0))],[(fA p p1 p2 v1),dz,(zy u1),(zC u1),(mP u6),(o5 u8),(qI v8),(rF v8 u6 u8)]⟩ []) ?_
           refine aQ (aO h fun⟨a1,a2,a3⟩ h=> ?_)
           refine rg tT ⟨[(2,(vP 63 0)),(4,(vP 65 0)),(9,(vP 71 0)),(10,(vP 76 0)),(28,(vP 127 0))],[(fA p p1 p2 v1),dz,(zy u1),(zC u1),(mP u6),(o5 u8),(qI v8),(rF v8 u6 u8),(Vx p),(VA p)]⟩ [_,(p.ax:Int)=p.ax,_,_,(Kj p).length=p.ax.toNat,aY p.ax.toNat 1 (fun _ j=>[(.bool false)].getD j .nilp) (Yc p)] {an:=[(2, .arr (Kj p).length (Yc p))],fr:=[(2,126),(3,127)] } [] ⟨a1,rfl,a2,a3,(List.length_replicate),(fB _ _ _ _ _ (fun j hj=>(match j,hj with|0,_=>rfl))),trivial⟩ ?_
           refine aQ (aQ (bE h fun um hr_9 h=> ?_))
           have q0:=rk [(0,71),(1,72),(2,128)] (jw u1 hr_9)
           refine ri tT ⟨agD,[(fA p p1 p2 v1),dz,(71,some (ag5 u1)),(mP u6),(o5 u8),(qI v8),(rF v8 u6 u8),(Vx p),(VA p),(128,some (.cells 157 [(.ptr 71 0)]))]⟩ [_,u1.bO.length=u1.bO.length] {an:=[(1,cA q0 [71,72])] } [72] ⟨q0,rfl,trivial⟩ (.trans (fz ⟨agD,[(fA p p1 p2 v1),dz,(mP u6),(o5 u8),(qI v8),(rF v8 u6 u8),(Vx p),(VA p),(128,some (ad4 u1))]⟩ [71]) (fz ⟨(aeU u1),[(fA p p1 p2 v1),dz,(mP u6),(o5 u8),(qI v8),(rF v8 u6 u8),(Vx p),(VA p)]⟩ [128])) ?_
           refine aB (bE h fun w9 hr_10 h=> ?_)
           refine jd 129 [(2,(vP 63 0)),(28,(vP 127 0))] [] [129,63,127,126] (.iG []) [(129,some (.loop eT 0 [(2,(vP 63 0)),(28,(vP 127 0))])),(fA p p1 p2 v1),(127,some (.cells 27 [(.own 126 true w9.length)])),(126,some (dK 4 1 aD w9))] (ab3 u1) 121 [] (ae8 u1) [(129,some (.loop eT 0 [(2,(vP 63 0)),(28,(vP 127 0))])),(fA p p1 p2 v1),(VA p),(Vx p)] [(.one (.yl 129)),(sD (X3 u1))] eT 0 [(2,(vP 63 0)),(28,(vP 127 0))] (by kernel_rfl) (by kernel_rfl) (by kernel_rfl) (by kernel_rfl) (by kernel_rfl) (by kernel_rfl) (by kernel_rfl) (rK [(0,129),(1,63),(2,127),(3,126)] (jS u1.bO u1.from_ (⟨p.ax,p1,p2,v1⟩:au) (Kj p) hr_10)) (by kernel_rfl) rfl (Dm.zero rfl) (bZ.fin (st':=⟨(aeU u1),[(fA p p1 p2 v1),dz,(mP u6),(o5 u8),(qI v8),(rF v8 u6 u8),(126,some (dK 4 1 aD w9)),(127,some (.cells 27 [(.own 126 true w9.length)]))]⟩) (cs:=[]) ⟨[],[(63,63),(65,65),(73,73),(74,74),(75,75),(76,76),(126,126),(127,127)]⟩ [2,4,10,28,235] (by kernel_rfl) trivial) ?_
           refine sd tT mX ⟨[(4,(vP 65 0)),(5,(vO 126 true w9.length)),(6,(vI 0))],[(65,some (.cells 77 [(.own 73 true u6.length),(.own 74 true u8.length),(.own 75 true v8.length)])),(mP u6),(o5 u8),(qI v8),(126,some (dK 4 1 aD w9))]⟩ [] {} [] trivial ?_
           refine aI (.trans (bZ.fin (st':=⟨[(4,(vP 4 0)),(5,(vO 3 true w9.length)),(6,(vI 0))],[(GZ u6),(1,some (Dy u8)),(2,some (dK 164 2 ah.cell v8)),(xL w9),(4,some (.cells 77 [(.own 0 true u6.length),(.own 1 true u8.length),(.own 2 true v8.length)]))]⟩) (cs:=[]) ⟨[],[(73,0),(74,1),(75,2),(126,3),(65,4)]⟩ [4,5,6] (by kernel_rfl) trivial) (bZ.le (st':=⟨[(4,(vP 4 0)),(5,(vO 3 false w9.length)),(6,(vI 0))],[(GZ u6),(1,some (Dy u8)),(2,some (dK 164 2 ah.cell v8)),(xL w9),(4,some (.cells 77 [(.own 0 false u6.length),(.own 1 false u8.length),(.own 2 false v8.length)]))]⟩) ⟨⟨tR,⟨_,rfl,dY.v (eX.one (cN))⟩,tR,trivial⟩,(hN 4 ⟨rfl,bX ⟨cN,cN,cN,trivial⟩,trivial⟩)⟩)) ?_
           refine aR ?_
           obtain rfl:=oi h
           exact rh [(.agg [(.own 0 false u6.length),(.own 1 false u8.length),(.own 2 false v8.length)]),(.one (.own 3 false w9.length)),(sI 0)] (.refl _) (hN 4 ⟨rfl,trivial,trivial⟩)
       |ret v=>
        obtain rfl:=oi h
        unfold fT
        intro e st hn ha hR
        cases e with
        |normal=>exact absurd rfl hn
        |exit id=>exact hR
        |goto l=>exact hR
        |ret=>exact hR
        |panic c=>exact hR
        |outgrown=>exact hR
     |ret v=>
      obtain rfl:=oi h
      unfold fT
      intro e st hn ha hR
      cases e with
      |normal=>exact absurd rfl hn
      |exit id=>exact hR
      |goto l=>exact hR
      |ret=>exact hR
      |panic c=>exact hR
      |outgrown=>exact hR
   |ret v=>
    obtain rfl:=oi h
    unfold fT
    intro e st hn ha hR
    cases e with
    |normal=>exact absurd rfl hn
    |exit id=>exact hR
    |goto l=>exact hR
    |ret=>exact hR
    |panic c=>exact hR
    |outgrown=>exact hR
noncomputable def iE:nI:=⟨[25,26],FU ([1,1,1,1,0,1,0]++[0]) (jX Try.f33),FU ([1,1,1,1,0,1,0]++[1]) (jX Try.f33),35,[]⟩
abbrev Dw:Nat × Option Ob:=(0,some (.loop iE 0 [(9,(vP 1 0))]))
def D6  :(List aZ)→Exit→St→Prop:=
  fun r=>lF 0 iE (vB true) [Dw,(1,some (.cells 80 [(.own 3 false r.length)])),(2,none),(3,some (dK 117 2 aZ.cell r))]
section
variable (u0:(List aZ)) (u1:Int) (u2:Int)
abbrev EZ:Ob:=(dK 117 2 aZ.cell u0)
abbrev TL:List (Nat × Option Ob):=[Dw,(1,some (.cells 80 [(.own 2 false u0.length)])),(2,some (EZ u0))]
abbrev abR:List (Nat × TV):=[(9,(vP 1 0)),(10,(vD (kK [(.int .i64 u1),(.int .i64 u2)] 0)))]
abbrev VG:Nat × Option Ob:=(0,some (.loop iE 1 [(9,(vP 1 0))]))
abbrev ad5:List (Nat × Option Ob):=[VG,(1,some (.cells 80 [(.own 2 false u0.length)])),(2,some (EZ u0))]
abbrev adK:List (Nat × TV):=[(9,(vP 1 0)),(10,(vD (kK [(.int .i64 u1),(.int .i64 u2)] 0))),(29,(vB (!decide (u1=0))))]
end
theorem nD (u1:Int) (u2:Int) (u3:Int) (u0:(List aZ)) {r:(List aZ)} (h:jH u1 u2 u3 u0=some r):Yl Try.prog 0 [(.agg [(cI u1),(cI u2)]),(sI u3)] (TL u0) (vB true) [Dw,(1,some (.cells 80 [(.own 3 false r.length)])),(2,none),(3,some (dK 117 2 aZ.cell r))]:=by
 refine Ck (r:=iE) (sl:=[(9,(vP 1 0))]) (sl1:=(abR u1 u2)) (h1:=(TL u0)) (sl2:=[(9,(vP 1 0))]) (by kernel_rfl) rfl rfl (by kernel_rfl) (fun rd B=> ?_) (by kernel_rfl) (fun rd B=> ?_)
 ·refine om (c:=FU ([1,1,1,1,0,1,0]++[0]) (jX Try.f33)) rfl ?_
  refine lC (st:=⟨[(25,(.v (.agg [(cI u1),(cI u2)]))),(26,(vI u3)),(9,(vP 1 0))],(TL u0)⟩) (by kernel_rfl) ?_
  refine rz tT ⟨(abR u1 u2),(TL u0)⟩ {fr:=[(0,6)] } [6] ?_
  exact⟨rfl,rfl⟩
 ·refine om (c:=FU ([1,1,1,1,0,1,0]++[1]) (jX Try.f33)) rfl ?_
  refine lC (st:=⟨(abR u1 u2),(ad5 u0)⟩) (by kernel_rfl) ?_
  show bW _ _ _ _ _ _ (D6 r) _
  unfold jH at h
  refine aB (sz tT ⟨(adK u1 u2),(ad5 u0)⟩ {} [] ?_)
  refine bI h (fun hb h=> ?_) (fun hb h=> ?_)
  ·refine ct hb ?_
   refine aO h fun⟨a1,a2⟩ h=> ?_
   refine ri tT ⟨[],[VG,(1,some (.cells 80 [(.own 8 false ((u0++[(⟨u1,u2⟩:aZ)]).length))])),(2,none),(8,some (dK 117 2 aZ.cell (u0++[(⟨u1,u2⟩:aZ)])))]⟩ [[(⟨u1,u2⟩:aZ)].length=1,aY 1 2 (jf 2 [(.int .i64 u1),(.int .i64 u2)]) (aN aZ.cell [(⟨u1,u2⟩:aZ)]),u0.length=u0.length,_,_,(u0++[(⟨u1,u2⟩:aZ)]).length=u0.length+[(⟨u1,u2⟩:aZ)].length,aY (u0.length+[(⟨u1,u2⟩:aZ)].length) 2 (CY (aN aZ.cell u0) u0.length (aN aZ.cell [(⟨u1,u2⟩:aZ)])) (aN aZ.cell (u0++[(⟨u1,u2⟩:aZ)]))] {an:=[(2, .arr [(⟨u1,u2⟩:aZ)].length (aN aZ.cell [(⟨u1,u2⟩:aZ)])),(3, .arr (u0++[(⟨u1,u2⟩:aZ)]).length (aN aZ.cell (u0++[(⟨u1,u2⟩:aZ)])))],fr:=[(2,7),(3,8)] } [] ⟨(rfl),((by intro i hi j hj;match i,j,hi,hj with|0,0,_,_=>rfl|0,1,_,_=>rfl)),rfl,a1,a2,(List.length_append),(jy _ _ _ _),trivial⟩ (bZ.fin (st':=⟨[],[VG,(1,some (.cells 80 [(.own 3 false ((u0++[(⟨u1,u2⟩:aZ)]).length))])),(2,none),(3,some (dK 117 2 aZ.cell (u0++[(⟨u1,u2⟩:aZ)])))]⟩) (cs:=[]) ⟨[],[(0,0),(1,1),(2,2),(8,3)]⟩ [] (by kernel_rfl) trivial) ?_
   obtain rfl:=oi h
   exact lF.on (sl:=[(9,(vP 1 0))]) (by kernel_rfl) (xV (by kernel_rfl)) (dY.refl _)
  ·refine cf hb ?_
   refine aI (.trans (bZ.Xl (E0:=80) (cs:=[(.own 2 false u0.length)]) (nn:=false) (len:=u0.length) (E:=117) (esz:=2) (n:=u0.length) (el:=aN aZ.cell u0) (p:=1) (q:=0) (b:=2) (b':=9) (by kernel_rfl) (by kernel_rfl) (by kernel_rfl) (by kernel_rfl)) (.trans (fz ⟨(adK u1 u2),[VG,(1,some (.cells 80 [(.own 9 false u0.length)])),(2,none),(9,some (EZ u0))]⟩ []) (bZ.fin (st':=⟨[],[VG,(1,some (.cells 80 [(.own 3 false u0.length)])),(2,none),(3,some (EZ u0))]⟩) (cs:=[]) ⟨[],[(0,0),(1,1),(2,2),(9,3)]⟩ [] (by kernel_rfl) trivial))) ?_
   refine aP ?_
   obtain rfl:=oi h
   exact lF.on (sl:=[(9,(vP 1 0))]) (by kernel_rfl) (xV (by kernel_rfl)) (dY.refl _)
def Cf  :Bool→Exit→St→Prop:=
  fun r=>bR TT [.tmp 3] (vB r) []
theorem BS (b:Int) (x1:(List Bool)) {r:Bool} (h:oU b x1=some r):Fn Try.prog 125 [(sI b),(sD (Rm x1))] [] (vB r) []:=by
 refine fN tT Try.func125 rfl rfl fun B=> ?_
 show bW _ _ _ _ _ _ (Cf r) _
 unfold oU at h
 refine sz tT ⟨[(0,(vI b)),(1,(vD (Rm x1)))],[]⟩ {} [] ?_
 refine aQ (aO h fun a1 h=> ?_)
 refine rg tT ⟨[(3,(vB (bif (decide (0≤b))then(at' x1 b.toNat)else false)))],[]⟩ (eqs (decide (0≤b)) 3 ((gP (jq [(2,(decide (0≤b)))]) [(2,true)]→All [(0:Int)≤b∧b<(x1.length:Int)])::(eqs (decide (0≤b)) 2 []))) {yb:=[(2,(decide (0≤b)))] } [] (ae ⟨(fun hg=> ⟨(a1 (bD hg)),trivial⟩),(ae trivial)⟩) ?_
 refine aR ?_
 obtain rfl:=oi h
 exact rl [(sB (bif (decide (0≤b))then(at' x1 b.toNat)else false))]
def iZ  :Int→Exit→St→Prop:=
  fun r=>bR TT [.tmp 4] (vI r) []
section
variable (f_:(List Bool))
abbrev UD:=(mM [(Rm f_)])
abbrev QY:Nat × TV:=(1,(vD (.fn 125 1 (UD f_))))
end
def lJ (s_:(List Int)) (f_:(List Bool)):Int→St:=
  fun t8=> ⟨[(kE s_),(QY f_),(pG s_),(8,(vI t8))],[]⟩
def mq  :Unit→St:=
  fun _=> ⟨[],[]⟩
def uU (s_:(List Int)) (f_:(List Bool)):(bn Int (Ex Unit Int))→Exit→St→Prop:=
  LQ 0 [] (lJ s_ f_) mq iZ
section
variable (s_:(List Int)) (f_:(List Bool))
abbrev ah3:St:=⟨[(kE s_),(QY f_)],[]⟩
end
theorem vz (s_:(List Int)) (f_:(List Bool)) {r:Int} (h:jM s_ f_=some r):Fn Try.prog 113 [(sD (DX s_)),(sD (.fn 125 1 (UD f_)))] [] (vI r) []:=by
 refine fN tT Try.func113 rfl rfl fun B=> ?_
 show bW _ _ _ _ _ _ (iZ r) _
 unfold jM at h
 refine sz tT (ah3 s_ f_) {} [] ?_
 refine aQ (sz tT ⟨[(kE s_),(QY f_),(pG s_),(8,(vI 0))],[]⟩ {} [] ?_)
 refine bE h fun y hy h=> ?_
 refine aL [] (lJ s_ f_) mq iZ hy (fun s f h=> ?_) ?_
 ·clear hy
  show bW _ _ _ _ _ _ ((uU s_ f_) f) _
  unfold lV at h
  obtain⟨t8,rfl⟩: ∃q,q=s:=⟨_,rfl⟩
  refine sz tT ⟨[(kE s_),(QY f_),(pG s_),(8,(vI t8)),(VD t8 s_)],[]⟩ {} [] ?_
  refine aQ ?_
  refine bI h (fun hb1 h=> ?_) (fun hb1 h=> ?_)
  ·refine ct hb1 ?_
   refine aP (aQ (aB (sz tT ⟨[(kE s_),(QY f_),(5,(vI t8)),(pG s_),(8,(vI t8))],[]⟩ {} [] ?_)))
   refine aQ (bE h fun r_ hr_ h=> ?_)
   refine aO h fun a1 h=> ?_
   have q1:=BS (at' s_ t8.toNat) f_ hr_
   refine rg tT ⟨[(kE s_),(QY f_),(5,(vI t8)),(pG s_),(8,(vI t8)),(16,(vB r_))],[]⟩ [_,_] {an:=[(5,cA q1 [])] } [] ⟨a1,q1,trivial⟩ ?_
   refine bI h (fun hb h=> ?_) (fun hb h=> ?_)
   ·refine ct hb ?_
    refine sz tT ⟨[(4,(vI t8))],[]⟩ {} [] ?_
    refine aR ?_
    obtain rfl:=oi h
    exact lR dP (dQ 0) dO (bR.mk (.inr rfl) (p:=[]) (l:=[(sI t8)]) (by kernel_rfl) trivial (dY.refl _) trivial)
   ·refine cf hb ?_
    refine aP (rz tT ⟨[(kE s_),(QY f_),(pG s_),(ZO t8)],[]⟩ {} [] ?_)
    obtain rfl:=oi h
    exact lN
  ·refine cf hb1 ?_
   refine aI (fz ⟨[],[]⟩ []) ?_
   refine aX ?_
   obtain rfl:=oi h
   exact lB
 ·clear hy
  cases y with
  |brk z=>
   unfold fT
   refine⟨_, .refl, ?_⟩
   refine sz tT ⟨[(4,(vI (-1)))],[]⟩ {} [] ?_
   refine aR ?_
   obtain rfl:=oi h
   exact rl [(sI (-1))]
  |ret v=>
   obtain rfl:=oi h
   unfold fT
   intro e st hn ha hR
   cases e with
   |normal=>exact absurd rfl hn
   |exit id=>exact hR
   |goto l=>exact hR
   |ret=>exact hR
   |panic c=>exact hR
   |outgrown=>exact hR
def tJ  :Bool→Exit→St→Prop:=
  fun r=>bR TT [.tmp 4] (vB r) []
theorem kI (s_:(List Int)) (f_:(List Bool)) {r:Bool} (h:gq s_ f_=some r):Fn Try.prog 67 [(sD (DX s_)),(sD (.fn 125 1 (UD f_)))] [] (vB r) []:=by
 refine fN tT Try.func67 rfl rfl fun B=> ?_
 show bW _ _ _ _ _ _ (tJ r) _
 unfold gq at h
 refine sz tT (ah3 s_ f_) {} [] ?_
 refine aQ (bE h fun r_ hr_ h=> ?_)
 have q0:=vz s_ f_ hr_
 refine rg tT (k32 r_) [_] {an:=[(2,cA q0 [])] } [] ⟨q0,trivial⟩ ?_
 refine aR ?_
 obtain rfl:=oi h
 exact rl [(sB (decide (0≤r_)))]
def fM  :(List aZ)→Exit→St→Prop:=
  fun r=>bR TT [] (.iG []) [Dw,(1,some (.cells 80 [(.own 3 false r.length)])),(2,none),(3,some (dK 117 2 aZ.cell r))]
section
variable (x2:(List Bool)) (u4:(List Bool)) (u5:(List Bool)) (u6:(List Bool)) (u7:(List Bool)) (u8:(List Bool)) (u9:(List Bool)) (x3:(List Bool)) (u0:(List aj)) (x1:Int) (u2:(List aM)) (u3:(List aK)) (v0:Int) (u1:(List aZ))
abbrev abH:DV:=(kK [(bg none 1 aD x2),(bg none 1 aD u4),(bg none 1 aD u5),(bg none 1 aD u6),(bg none 1 aD u7),(bg none 1 aD u8),(bg none 1 aD u9)] 0)
abbrev xO:Nat × TV:=(2,(vD (abH x2 u4 u5 u6 u7 u8 u9)))
abbrev uW:Nat × TV:=(3,(vD (Rm x3)))
abbrev Rz:Nat × TV:=(13,(vD (k13 u0)))
abbrev Q9:Nat × TV:=(14,(vI (u0.length:Int)))
abbrev ahz:List (Nat × TV):=[dW,(k15 u0 u3 x1 u2),(xO x2 u4 u5 u6 u7 u8 u9),(uW x3),(Rz u0),(Q9 u0),(15,(vI v0))]
abbrev tN:List (Nat × Option Ob):=[Dw,(1,some (.cells 80 [(.own 37 false u1.length)])),(2,none),(37,some (EZ u1))]
end
def tV (x1:Int) (u0:(List aj)) (u2:(List aM)) (u3:(List aK)) (x2:(List Bool)) (u4:(List Bool)) (u5:(List Bool)) (u6:(List Bool)) (u7:(List Bool)) (u8:(List Bool)) (u9:(List Bool)) (x3:(List Bool)):((List aZ) × Int)→St:=
  fun zz=>match zz with|(u1,v0)=> ⟨(ahz x2 u4 u5 u6 u7 u8 u9 x3 u0 x1 u2 u3 v0),(tN u1)⟩
section
variable (x1:Int) (u1:(List aj)) (u2:(List aM)) (u3:(List aK)) (x2:(List Bool)) (u4:(List Bool)) (u5:(List Bool)) (u6:(List Bool)) (u7:(List Bool)) (u8:(List Bool)) (u9:(List Bool)) (x3:(List Bool)) (u0:(List aZ))
abbrev aeH:List (Nat × TV):=[dW,(k15 u1 u3 x1 u2),(xO x2 u4 u5 u6 u7 u8 u9),(uW x3)]
abbrev aij:St:=⟨(aeH x1 u1 u2 u3 x2 u4 u5 u6 u7 u8 u9 x3),(tN u0)⟩
end
def uH (x1:Int) (u1:(List aj)) (u2:(List aM)) (u3:(List aK)) (x2:(List Bool)) (u4:(List Bool)) (u5:(List Bool)) (u6:(List Bool)) (u7:(List Bool)) (u8:(List Bool)) (u9:(List Bool)) (x3:(List Bool)):(List aZ)→St:=
  fun u0=>(aij x1 u1 u2 u3 x2 u4 u5 u6 u7 u8 u9 x3 u0)
def Dv (x1:Int) (u0:(List aj)) (u1:(List aM)) (u2:(List aK)) (x2:(List Bool)) (u3:(List Bool)) (u4:(List Bool)) (u5:(List Bool)) (u6:(List Bool)) (u7:(List Bool)) (u8:(List Bool)) (x3:(List Bool)):(bn ((List aZ) × Int) (Ex (List aZ) (List aZ)))→Exit→St→Prop:=
  LQ 0 [] (tV x1 u0 u1 u2 x2 u3 u4 u5 u6 u7 u8 x3) (uH x1 u0 u1 u2 x2 u3 u4 u5 u6 u7 u8 x3) fM
section
variable (u0:(List aM)) (x1:Int) (u2:(List aj)) (u3:(List aK)) (x2:(List Bool)) (u4:(List Bool)) (u5:(List Bool)) (u6:(List Bool)) (u7:(List Bool)) (u8:(List Bool)) (u9:(List Bool)) (x3:(List Bool)) (v0:Int)
abbrev QS:Nat × TV:=(43,(vD (bg none 6 aM.cell u0)))
abbrev Ri:Nat × TV:=(44,(vI (u0.length:Int)))
abbrev ahG:List (Nat × TV):=[dW,(k15 u2 u3 x1 u0),(xO x2 u4 u5 u6 u7 u8 u9),(uW x3),(QS u0),(Ri u0),(45,(vI v0))]
end
def uM (x1:Int) (u2:(List aj)) (u0:(List aM)) (u3:(List aK)) (x2:(List Bool)) (u4:(List Bool)) (u5:(List Bool)) (u6:(List Bool)) (u7:(List Bool)) (u8:(List Bool)) (u9:(List Bool)) (x3:(List Bool)):((List aZ) × Int)→St:=
  fun zz=>match zz with|(u1,v0)=> ⟨(ahG u0 x1 u2 u3 x2 u4 u5 u6 u7 u8 u9 x3 v0),(tN u1)⟩
section
variable (x1:Int) (u1:(List aj)) (u2:(List aM)) (u3:(List aK)) (x3:(List Bool)) (u0:(List aZ))
abbrev adE:List (Nat × TV):=[dW,(k15 u1 u3 x1 u2),(uW x3)]
abbrev ahx:St:=⟨(adE x1 u1 u2 u3 x3),(tN u0)⟩
end
def uL (x1:Int) (u1:(List aj)) (u2:(List aM)) (u3:(List aK)) (x3:(List Bool)):(List aZ)→St:=
  fun u0=>(ahx x1 u1 u2 u3 x3 u0)
def DN (x1:Int) (u0:(List aj)) (u1:(List aM)) (u2:(List aK)) (x2:(List Bool)) (u3:(List Bool)) (u4:(List Bool)) (u5:(List Bool)) (u6:(List Bool)) (u7:(List Bool)) (u8:(List Bool)) (x3:(List Bool)):(bn ((List aZ) × Int) (Ex (List aZ) (List aZ)))→Exit→St→Prop:=
  LQ 2 [] (uM x1 u0 u1 u2 x2 u3 u4 u5 u6 u7 u8 x3) (uL x1 u0 u1 u2 x3) fM
section
variable (u0:(List aK)) (x3:(List Bool)) (u2:Int)
abbrev PS:Nat × TV:=(78,(vD (k14 u0)))
abbrev Om:Nat × TV:=(79,(vI (u0.length:Int)))
abbrev aib:List (Nat × TV):=[dW,(uW x3),(PS u0),(Om u0),(80,(vI u2))]
end
def uP (u0:(List aK)) (x3:(List Bool)):((List aZ) × Int)→St:=
  fun zz=>match zz with|(u1,u2)=> ⟨(aib u0 x3 u2),(tN u1)⟩
def uD  :(List aZ)→St:=
  fun o905=> ⟨[],[Dw,(1,some (.cells 80 [(.own 37 false o905.length)])),(2,none),(37,some (dK 117 2 aZ.cell o905))]⟩
def Dz (u0:(List aK)) (x3:(List Bool)):(bn ((List aZ) × Int) (Ex (List aZ) (List aZ)))→Exit→St→Prop:=
  LQ 4 [] (uP u0 x3) uD fM
section
variable (x1:Int) (u1:(List aj)) (u0:(List aM)) (u2:(List aK)) (x2:(List Bool)) (u7:(List Bool)) (u8:(List Bool)) (u9:(List Bool)) (v0:(List Bool)) (v1:(List Bool)) (v2:(List Bool)) (x3:(List Bool)) (u4:Int) (r_:Bool) (v8:(List aZ)) (v5:(List aZ)) (u3:Int) (u5:Bool) (v9:(List aZ)) (u6:Int) (v3:Bool) (w0:(List aZ))
abbrev afZ:List SV:=[(.one (.yl 0)),(sD (k12 u1 u2 x1 u0)),(sD (abH x2 u7 u8 u9 v0 v1 v2)),(sD (Rm x3))]
abbrev Zm:List (Nat × TV):=[dW,(k15 u1 u2 x1 u0),(xO x2 u7 u8 u9 v0 v1 v2),(uW x3),(Rz u1),(Q9 u1),(15,(vI 0))]
abbrev agM:List (Nat × TV):=[dW,(k15 u1 u2 x1 u0),(xO x2 u7 u8 u9 v0 v1 v2),(uW x3),(Rz u1),(Q9 u1),(15,(vI u4)),(16,(vB (decide (u4<(u1.length:Int)))))]
abbrev afy:List (Nat × TV):=[dW,(k15 u1 u2 x1 u0),(xO x2 u7 u8 u9 v0 v1 v2),(uW x3),(5,(vI u4)),(6,(vD (kK [(.int .i64 ((at' u1 u4.toNat).bus)),(.int .i64 ((at' u1 u4.toNat).kind)),(.int .i64 ((at' u1 u4.toNat).cK)),(.int .i64 ((at' u1 u4.toNat).sync)),(.int .i64 ((at' u1 u4.toNat).bU))] 0))),(Rz u1),(Q9 u1),(15,(vI u4))]
abbrev tF:=(bif r_ then(!(at' x3 (((at' u1 u4.toNat).bus).toNat)))else false)
abbrev ack:List (Nat × TV):=[dW,(k15 u1 u2 x1 u0),(xO x2 u7 u8 u9 v0 v1 v2),(uW x3),(Rz u1),(Q9 u1),(15,(vI u4)),(40,(vB (bif (tF u1 x3 u4 r_)then false else false)))]
abbrev aax:List (Nat × Option Ob):=[Dw,(1,some (.cells 80 [(.own 41 false v8.length)])),(2,none),(41,some (EZ v8))]
abbrev agR:=(gP (jq [(4,r_),(12,true)]) [(4,true)]→All [(0:Int)≤(at' u1 u4.toNat).bus∧(at' u1 u4.toNat).bus<(x3.length:Int)])
abbrev ab2:List (Nat × Option Ob):=[Dw,(1,some (.cells 80 [(.own 37 false v5.length)])),(37,some (EZ v5))]
abbrev agf:List (Nat × Option Ob):=[Dw,(1,some (.cells 80 [(.own 41 false v8.length)])),(37,none),(41,some (EZ v8))]
abbrev ab1:List (Nat × TV):=[dW,(k15 u1 u2 x1 u0),(xO x2 u7 u8 u9 v0 v1 v2),(uW x3),(Rz u1),(Q9 u1),(15,(vI u4)),(40,(vB false))]
abbrev abK:List (Nat × TV):=[dW,(k15 u1 u2 x1 u0),(xO x2 u7 u8 u9 v0 v1 v2),(uW x3),(Rz u1),(Q9 u1),(15,(k3 u4))]
abbrev aiB:St:=⟨(abK x1 u1 u0 u2 x2 u7 u8 u9 v0 v1 v2 x3 u4),(tN v8)⟩
abbrev Pk:=(jq [(4,r_),(12,false)])
abbrev agN:=(eqs r_ 4 ((gP (Pk r_) [(4,true)]→All [(0:Int)≤(at' u1 u4.toNat).bus∧(at' u1 u4.toNat).bus<(x3.length:Int)])::(eqs r_ 3 [(tF u1 x3 u4 r_)=false, ¬ gP (Pk r_) [(12,true)],(tF u1 x3 u4 r_)=false, ¬ gP (Pk r_) [(12,true)],(tF u1 x3 u4 r_)=false, ¬ gP (Pk r_) [(12,true)],(tF u1 x3 u4 r_)=false, ¬ gP (Pk r_) [(12,true)],(tF u1 x3 u4 r_)=false, ¬ gP (Pk r_) [(12,true)],(tF u1 x3 u4 r_)=false, ¬ gP (Pk r_) [(12,true)],(tF u1 x3 u4 r_)=false, ¬ gP (Pk r_) [(12,true)],(tF u1 x3 u4 r_)=false])))
abbrev ahn:List (Nat × TV):=[dW,(k15 u1 u2 x1 u0),(xO x2 u7 u8 u9 v0 v1 v2),(uW x3),(QS u0),(Ri u0),(45,(vI 0))]
abbrev aik:List (Nat × TV):=[dW,(k15 u1 u2 x1 u0),(xO x2 u7 u8 u9 v0 v1 v2),(uW x3),(QS u0),(Ri u0),(45,(vI u3)),(46,(vB (decide (u3<(u0.length:Int)))))]
abbrev aec:TV:=(vD (kK [(.int .i64 ((at' u0 u3.toNat).a)),(.int .i64 ((at' u0 u3.toNat).b)),(.int .i64 ((at' u0 u3.toNat).kind)),(.int .i64 ((at' u0 u3.toNat).most)),(.int .i64 ((at' u0 u3.toNat).bU)),(bg none 2 ic.cell ((at' u0 u3.toNat).trip))] 0))
abbrev aej:List (Nat × TV):=[dW,(k15 u1 u2 x1 u0),(xO x2 u7 u8 u9 v0 v1 v2),(uW x3),(7,(vI u3)),(8,(aec u0 u3)),(QS u0),(Ri u0),(45,(vI u3))]
abbrev tu:=(bif u5 then(!((at' x3 (((at' u0 u3.toNat).a).toNat))==(at' x3 (((at' u0 u3.toNat).b).toNat))))else false)
abbrev abM:List (Nat × TV):=[dW,(k15 u1 u2 x1 u0),(xO x2 u7 u8 u9 v0 v1 v2),(uW x3),(QS u0),(Ri u0),(45,(vI u3)),(75,(vB (bif (tu u0 x3 u3 u5)then false else false)))]
abbrev aan:List (Nat × Option Ob):=[Dw,(1,some (.cells 80 [(.own 50 false v9.length)])),(2,none),(50,some (EZ v9))]
abbrev TF:=(jq [(4,u5),(17,true)])
abbrev ahK:=(gP (TF u5) [(4,true)]→All [(0:Int)≤(at' u0 u3.toNat).a∧(at' u0 u3.toNat).a<(x3.length:Int)])
abbrev adB:=(gP (TF u5) [(4,true)]→All [(0:Int)≤(at' u0 u3.toNat).b∧(at' u0 u3.toNat).b<(x3.length:Int)])
abbrev ag8:List (Nat × Option Ob):=[Dw,(1,some (.cells 80 [(.own 50 false v9.length)])),(37,none),(50,some (EZ v9))]
abbrev aaD:List (Nat × TV):=[dW,(k15 u1 u2 x1 u0),(xO x2 u7 u8 u9 v0 v1 v2),(uW x3),(QS u0),(Ri u0),(45,(vI u3)),(75,(vB false))]
abbrev aar:List (Nat × TV):=[dW,(k15 u1 u2 x1 u0),(xO x2 u7 u8 u9 v0 v1 v2),(uW x3),(QS u0),(Ri u0),(45,(k3 u3))]
abbrev af5:St:=⟨(aar x1 u1 u0 u2 x2 u7 u8 u9 v0 v1 v2 x3 u3),(tN v9)⟩
abbrev NP:=(jq [(4,u5),(17,false)])
abbrev aeB:=(eqs u5 4 ((gP (NP u5) [(4,true)]→All [(0:Int)≤(at' u0 u3.toNat).a∧(at' u0 u3.toNat).a<(x3.length:Int)])::(eqs u5 5 ((gP (NP u5) [(4,true)]→All [(0:Int)≤(at' u0 u3.toNat).b∧(at' u0 u3.toNat).b<(x3.length:Int)])::(eqs u5 3 [(tu u0 x3 u3 u5)=false, ¬ gP (NP u5) [(17,true)],(tu u0 x3 u3 u5)=false, ¬ gP (NP u5) [(17,true)],(tu u0 x3 u3 u5)=false, ¬ gP (NP u5) [(17,true)],(tu u0 x3 u3 u5)=false, ¬ gP (NP u5) [(17,true)],(tu u0 x3 u3 u5)=false, ¬ gP (NP u5) [(17,true)],(tu u0 x3 u3 u5)=false, ¬ gP (NP u5) [(17,true)],(tu u0 x3 u3 u5)=false, ¬ gP (NP u5) [(17,true)],(tu u0 x3 u3 u5)=false])))))
abbrev ahF:List (Nat × TV):=[dW,(uW x3),(PS u2),(Om u2),(80,(vI 0))]
abbrev adw:List (Nat × TV):=[dW,(uW x3),(PS u2),(Om u2),(80,(vI u6)),(81,(vB (decide (u6<(u2.length:Int)))))]
abbrev agX:Nat × TV:=(10,(afF u2 u6))
abbrev ae6:List (Nat × TV):=[dW,(uW x3),(9,(vI u6)),(agX u2 u6),(PS u2),(Om u2),(80,(vI u6))]
abbrev afc:List (Nat × TV):=[dW,(uW x3),(9,(vI u6)),(agX u2 u6),(11,(vB v3)),(PS u2),(Om u2),(80,(vI u6))]
abbrev aeX:List SV:=[(sD (bg none 1 (aC .i64) [(Lj u2 u6).e0,(Lj u2 u6).e1])),(sD (.fn 125 1 (UD x3)))]
abbrev acu:List (Nat × TV):=[dW,(uW x3),(PS u2),(Om u2),(80,(vI u6)),(98,(vB (bif v3 then false else false)))]
abbrev abf:List (Nat × Option Ob):=[Dw,(1,some (.cells 80 [(.own 58 false w0.length)])),(2,none),(58,some (EZ w0))]
abbrev afO:List (Nat × Option Ob):=[Dw,(1,some (.cells 80 [(.own 58 false w0.length)])),(37,none),(58,some (EZ w0))]
abbrev aaJ:List (Nat × TV):=[dW,(uW x3),(PS u2),(Om u2),(80,(vI u6)),(98,(vB false))]
abbrev ac1:List (Nat × TV):=[dW,(uW x3),(PS u2),(Om u2),(80,(k3 u6))]
abbrev adY:St:=⟨(ac1 u2 x3 u6),(tN w0)⟩
end
theorem DF (x1:Int) (u1:(List aj)) (u0:(List aM)) (u2:(List aK)) (x2:(List Bool)) (u7:(List Bool)) (u8:(List Bool)) (u9:(List Bool)) (v0:(List Bool)) (v1:(List Bool)) (v2:(List Bool)) (x3:(List Bool)) (v7:(List aZ)) {r:(List aZ)} (h:rD x1 u1 u0 u2 x2 u7 u8 u9 v0 v1 v2 x3 v7=some r):Fn Try.prog 124 (afZ x1 u1 u0 u2 x2 u7 u8 u9 v0 v1 v2 x3) (TL v7) (.iG []) [Dw,(1,some (.cells 80 [(.own 3 false r.length)])),(2,none),(3,some (dK 117 2 aZ.cell r))]:=by
 refine fN tT Try.func124 rfl rfl fun B=> ?_
 show bW _ _ _ _ _ _ (fM r) _
 unfold rD at h
 refine aQ (sz tT ⟨(Zm x1 u1 u0 u2 x2 u7 u8 u9 v0 v1 v2 x3),(TL v7)⟩ {} [] ?_)
 refine bE h fun y hy h=> ?_
 refine aI (.trans (bZ.Xl (E0:=80) (cs:=[(.own 2 false v7.length)]) (nn:=false) (len:=v7.length) (E:=117) (esz:=2) (n:=v7.length) (el:=aN aZ.cell v7) (p:=1) (q:=0) (b:=2) (b':=42) (by kernel_rfl) (by kernel_rfl) (by kernel_rfl) (by kernel_rfl)) (.trans (fz ⟨(Zm x1 u1 u0 u2 x2 u7 u8 u9 v0 v1 v2 x3),[Dw,(1,some (.cells 80 [(.own 42 false v7.length)])),(2,none),(42,some (EZ v7))]⟩ []) (bZ.fin (st':=⟨(Zm x1 u1 u0 u2 x2 u7 u8 u9 v0 v1 v2 x3),(tN v7)⟩) (cs:=[]) ⟨[],[(0,0),(1,1),(2,2),(42,37)]⟩ [0,1,2,3,13,14,15] (by kernel_rfl) trivial))) ?_
 refine aL [] (tV x1 u1 u0 u2 x2 u7 u8 u9 v0 v1 v2 x3) (uH x1 u1 u0 u2 x2 u7 u8 u9 v0 v1 v2 x3) fM hy (fun s f h=> ?_) ?_
 ·clear hy
  show bW _ _ _ _ _ _ ((Dv x1 u1 u0 u2 x2 u7 u8 u9 v0 v1 v2 x3) f) _
  unfold uK at h
  obtain⟨v5,u4⟩:=s
  refine sz tT ⟨(agM x1 u1 u0 u2 x2 u7 u8 u9 v0 v1 v2 x3 u4),(tN v5)⟩ {} [] ?_
  refine aQ ?_
  refine bI h (fun hb1 h=> ?_) (fun hb1 h=> ?_)
  ·refine ct hb1 ?_
   refine aP (aQ (aB (aQ (aO h fun a1 h=> ?_))))
   refine rg tT ⟨(afy x1 u1 u0 u2 x2 u7 u8 u9 v0 v1 v2 x3 u4),(tN v5)⟩ [_] {fr:=[(3,40)] } [40] ⟨a1,trivial⟩ ?_
   refine aQ (bE h fun r_ hr_ h=> ?_)
   refine bI h (fun hb h=> ?_) (fun hb h=> ?_)
   ·skip
    refine bE h fun v8 hr_1 h=> ?_
    refine aO h fun a1 h=> ?_
    have q0:=gJ (⟨x1,u1,u0,u2⟩:au) (⟨x2,u7,u8,u9,v0,v1,v2⟩:ay) u4 hr_
    refine ri tT ⟨(ack x1 u1 u0 u2 x2 u7 u8 u9 v0 v1 v2 x3 u4 r_),(aax v8)⟩ (_::(eqs r_ 4 ((agR u1 x3 u4 r_)::(eqs r_ 3 [(tF u1 x3 u4 r_)=true,(tF u1 x3 u4 r_)=true,(tF u1 x3 u4 r_)=true,(tF u1 x3 u4 r_)=true,(tF u1 x3 u4 r_)=true,(tF u1 x3 u4 r_)=true,gP (jq [(4,r_),(12,true)]) [(12,true)]→All [Yl Try.prog 0 [(.agg [(cI 2),(cI u4)]),(sI ((at' u1 u4.toNat).cK))] (ab2 v5) (vB true) (agf v8)],gP (jq [(4,r_),(12,true)]) [(12,true)],(tF u1 x3 u4 r_)=true,(tF u1 x3 u4 r_)=true])))) {yb:=[(4,r_),(12,true)],an:=[(3,cA q0 []),(18, .call [0,1,37] (vB true) (agf v8))] } [] ⟨q0,(ae ⟨(fun hg=> ⟨(a1 (bD hg)),trivial⟩),(ae ⟨(hb),(hb),(hb),(hb),(hb),(hb),(fun hg=> ⟨(yK [(2,37),(3,41)] (nD 2 u4 ((at' u1 u4.toNat).cK) v5 hr_1)),trivial⟩),(⟨rfl,trivial⟩),(hb),(hb),trivial⟩)⟩)⟩ (bZ.le (st':=⟨(ab1 x1 u1 u0 u2 x2 u7 u8 u9 v0 v1 v2 x3 u4),(aax v8)⟩) ⟨⟨tR,tR,tR,tR,tR,tR,tR,⟨_,rfl,dY.v (eX.one (eD.of (congrArg (fun b=>CV.d (.bool b)) (CJ hb))))⟩,trivial⟩,(.refl _)⟩) ?_
    refine cn (aP (ri tT ⟨(abK x1 u1 u0 u2 x2 u7 u8 u9 v0 v1 v2 x3 u4),(aax v8)⟩ [] {} [] trivial (bZ.fin (st':=(aiB x1 u1 u0 u2 x2 u7 u8 u9 v0 v1 v2 x3 u4 v8)) (cs:=[]) ⟨[],[(0,0),(1,1),(2,2),(41,37)]⟩ [0,1,2,3,13,14,15] (by kernel_rfl) trivial) ?_))
    obtain rfl:=oi h
    exact lN
   ·skip
    refine aO h fun a1 h=> ?_
    have q0:=gJ (⟨x1,u1,u0,u2⟩:au) (⟨x2,u7,u8,u9,v0,v1,v2⟩:ay) u4 hr_
    refine ri tT ⟨(ack x1 u1 u0 u2 x2 u7 u8 u9 v0 v1 v2 x3 u4 r_),(tN v5)⟩ (_::(agN u1 x3 u4 r_)) {yb:=[(4,r_),(12,false)],an:=[(3,cA q0 []),(13, .skip),(14, .skip),(15, .skip),(16, .skip),(17, .skip),(18, .skip),(19, .skip)] } [] ⟨q0,(ae ⟨(fun hg=> ⟨(a1 (bD hg)),trivial⟩),(ae ⟨(hb),((fun h=>Bool.noConfusion (show false=true from h.1))),(hb),((fun h=>Bool.noConfusion (show false=true from h.1))),(hb),((fun h=>Bool.noConfusion (show false=true from h.1))),(hb),((fun h=>Bool.noConfusion (show false=true from h.1))),(hb),((fun h=>Bool.noConfusion (show false=true from h.1))),(hb),((fun h=>Bool.noConfusion (show false=true from h.1))),(hb),((fun h=>Bool.noConfusion (show false=true from h.1))),(hb),trivial⟩)⟩)⟩ (bZ.le (st':=⟨(ab1 x1 u1 u0 u2 x2 u7 u8 u9 v0 v1 v2 x3 u4),(tN v5)⟩) ⟨⟨tR,tR,tR,tR,tR,tR,tR,⟨_,rfl,dY.v (eX.one (eD.of (congrArg (fun b=>CV.d (.bool b)) (Ct hb))))⟩,trivial⟩,(.refl _)⟩) ?_
    refine cn (aP (rz tT (aiB x1 u1 u0 u2 x2 u7 u8 u9 v0 v1 v2 x3 u4 v5) {} [] ?_))
    obtain rfl:=oi h
    exact lN
  ·refine cf hb1 ?_
   refine aI (fz (aij x1 u1 u0 u2 x2 u7 u8 u9 v0 v1 v2 x3 v5) []) ?_
   refine aX ?_
   obtain rfl:=oi h
   exact lB
 ·clear hy
  cases y with
  |brk z=>
   obtain⟨w1,rfl⟩: ∃q,q=z:=⟨_,rfl⟩
   unfold fT
   refine⟨_, .refl, ?_⟩
   refine aQ (sz tT ⟨(ahn x1 u1 u0 u2 x2 u7 u8 u9 v0 v1 v2 x3),(tN w1)⟩ {} [] ?_)
   refine bE h fun y1 hy h=> ?_
   refine aL [] (uM x1 u1 u0 u2 x2 u7 u8 u9 v0 v1 v2 x3) (uL x1 u1 u0 u2 x3) fM hy (fun s f h=> ?_) ?_
   ·clear hy
    show bW _ _ _ _ _ _ ((DN x1 u1 u0 u2 x2 u7 u8 u9 v0 v1 v2 x3) f) _
    unfold uS at h
    obtain⟨v6,u3⟩:=s
    refine sz tT ⟨(aik x1 u1 u0 u2 x2 u7 u8 u9 v0 v1 v2 x3 u3),(tN v6)⟩ {} [] ?_
    refine aQ ?_
    refine bI h (fun hb3 h=> ?_) (fun hb3 h=> ?_)
    ·refine ct hb3 ?_
     refine aP (aQ (aB (aQ (aO h fun a1 h=> ?_))))
     refine rg tT ⟨(aej x1 u1 u0 u2 x2 u7 u8 u9 v0 v1 v2 x3 u3),(tN v6)⟩ [_] {fr:=[(3,49)] } [49] ⟨a1,trivial⟩ ?_
     refine aQ (bE h fun u5 hr_2 h=> ?_)
     refine bI h (fun hb2 h=> ?_) (fun hb2 h=> ?_)
     ·skip
      refine bE h fun v9 hr_3 h=> ?_
      refine aO h fun⟨a1,a2⟩ h=> ?_
      have q0:=eP (⟨x1,u1,u0,u2⟩:au) (⟨x2,u7,u8,u9,v0,v1,v2⟩:ay) u3 hr_2
      refine di tT mX ⟨(abM x1 u1 u0 u2 x2 u7 u8 u9 v0 v1 v2 x3 u3 u5),(aan v9)⟩ (_::(eqs u5 4 ((ahK u0 x3 u3 u5)::(eqs u5 5 ((adB u0 x3 u3 u5)::(eqs u5 3 [(tu u0 x3 u3 u5)=true,(tu u0 x3 u3 u5)=true,(tu u0 x3 u3 u5)=true,(tu u0 x3 u3 u5)=true,(tu u0 x3 u3 u5)=true,(tu u0 x3 u3 u5)=true,gP (TF u5) [(17,true)]→All [Yl Try.prog 0 [(.agg [(cI 3),(cI u3)]),(sI ((at' u0 u3.toNat).most))] (ab2 v6) (vB true) (ag8 v9)],gP (TF u5) [(17,true)],(tu u0 x3 u3 u5)=true,(tu u0 x3 u3 u5)=true])))))) {yb:=[(4,u5),(17,true)],an:=[(3,cA q0 []),(23, .call [0,1,37] (vB true) (ag8 v9))] } [] ⟨q0,(ae ⟨(fun hg=> ⟨(a1 (bD hg)),trivial⟩),(ae ⟨(fun hg=> ⟨(a2 (bD hg)),trivial⟩),(ae ⟨(hb2),(hb2),(hb2),(hb2),(hb2),(hb2),(fun hg=> ⟨(yK [(2,37),(3,50)] (nD 3 u3 ((at' u0 u3.toNat).most) v6 hr_3)),trivial⟩),(⟨rfl,trivial⟩),(hb2),(hb2),trivial⟩)⟩)⟩)⟩ (bZ.le (st':=⟨(aaD x1 u1 u0 u2 x2 u7 u8 u9 v0 v1 v2 x3 u3),(aan v9)⟩) ⟨⟨tR,tR,tR,tR,tR,tR,tR,⟨_,rfl,dY.v (eX.one (eD.of (congrArg (fun b=>CV.d (.bool b)) (CJ hb2))))⟩,trivial⟩,(.refl _)⟩) ?_
      refine cn (aP (ri tT ⟨(aar x1 u1 u0 u2 x2 u7 u8 u9 v0 v1 v2 x3 u3),(aan v9)⟩ [] {} [] trivial (bZ.fin (st':=(af5 x1 u1 u0 u2 x2 u7 u8 u9 v0 v1 v2 x3 u3 v9)) (cs:=[]) ⟨[],[(0,0),(1,1),(2,2),(50,37)]⟩ [0,1,2,3,43,44,45] (by kernel_rfl) trivial) ?_))
      obtain rfl:=oi h
      exact lN
     ·skip
      refine aO h fun⟨a1,a2⟩ h=> ?_
      have q0:=eP (⟨x1,u1,u0,u2⟩:au) (⟨x2,u7,u8,u9,v0,v1,v2⟩:ay) u3 hr_2
      refine di tT mX ⟨(abM x1 u1 u0 u2 x2 u7 u8 u9 v0 v1 v2 x3 u3 u5),(tN v6)⟩ (_::(aeB u0 x3 u3 u5)) {yb:=[(4,u5),(17,false)],an:=[(3,cA q0 []),(18, .skip),(19, .skip),(20, .skip),(21, .skip),(22, .skip),(23, .skip),(24, .skip)] } [] ⟨q0,(ae ⟨(fun hg=> ⟨(a1 (bD hg)),trivial⟩),(ae ⟨(fun hg=> ⟨(a2 (bD hg)),trivial⟩),(ae ⟨(hb2),((fun h=>Bool.noConfusion (show false=true from h.1))),(hb2),((fun h=>Bool.noConfusion (show false=true from h.1))),(hb2),((fun h=>Bool.noConfusion (show false=true from h.1))),(hb2),((fun h=>Bool.noConfusion (show false=true from h.1))),(hb2),((fun h=>Bool.noConfusion (show false=true from h.1))),(hb2),((fun h=>Bool.noConfusion (show false=true from h.1))),(hb2),((fun h=>Bool.noConfusion (show false=true from h.1))),(hb2),trivial⟩)⟩)⟩)⟩ (bZ.le (st':=⟨(aaD x1 u1 u0 u2 x2 u7 u8 u9 v0 v1 v2 x3 u3),(tN v6)⟩) ⟨⟨tR,tR,tR,tR,tR,tR,tR,⟨_,rfl,dY.v (eX.one (eD.of (congrArg (fun b=>CV.d (.bool b)) (Ct hb2))))⟩,trivial⟩,(.refl _)⟩) ?_
      refine cn (aP (rz tT (af5 x1 u1 u0 u2 x2 u7 u8 u9 v0 v1 v2 x3 u3 v6) {} [] ?_))
      obtain rfl:=oi h
      exact lN
    ·refine cf hb3 ?_
     refine aI (fz (ahx x1 u1 u0 u2 x3 v6) []) ?_
     refine aX ?_
     obtain rfl:=oi h
     exact lB
   ·clear hy
    cases y1 with
    |brk z=>
     obtain⟨w2,rfl⟩: ∃q,q=z:=⟨_,rfl⟩
     unfold fT
     refine⟨_, .refl, ?_⟩
     refine sz tT ⟨(ahF u2 x3),(tN w2)⟩ {} [] ?_
     refine bE h fun y2 hy h=> ?_
     refine aL [] (uP u2 x3) uD fM hy (fun s f h=> ?_) ?_
     ·clear hy
      show bW _ _ _ _ _ _ ((Dz u2 x3) f) _
      unfold uF at h
      obtain⟨v4,u6⟩:=s
      refine sz tT ⟨(adw u2 x3 u6),(tN v4)⟩ {} [] ?_
      refine aQ ?_
      refine bI h (fun hb5 h=> ?_) (fun hb5 h=> ?_)
      ·refine ct hb5 ?_
       refine aP (aQ (aB (aQ (aO h fun a1 h=> ?_))))
       refine rg tT ⟨(ae6 u2 x3 u6),(tN v4)⟩ [_] {fr:=[(3,57)] } [57] ⟨a1,trivial⟩ ?_
       refine aQ (bE h fun v3 hr_4 h=> ?_)
       refine rg tT ⟨(afc u2 x3 u6 v3),(tN v4)⟩ [Fn Try.prog 67 [(sD (.sl (some true) 1 [(Lj u2 u6).e0,(Lj u2 u6).e1].length (fun i j=>((aaw u2 u6).getD (0+(0+(i*1+j))) .nilp)))),(sD (.fn 125 1 (UD x3)))] [] (vB v3) []] {an:=[(3, .call [] (vB v3) [])] } [] ⟨(Fn.leH (args:=(aeX u2 x3 u6)) (hin:=[]) (kI [(Lj u2 u6).e0,(Lj u2 u6).e1] x3 hr_4) ⟨eX.one (eD.d (gX.sl (.inl rfl) (by intro i hi j hj;match i,j,hi,hj with|0,0,_,_=>exact .refl _|1,0,_,_=>exact .refl _))),eX.refl _,trivial⟩ trivial),trivial⟩ ?_
       refine aQ ?_
       refine bI h (fun hb4 h=> ?_) (fun hb4 h=> ?_)
       ·skip
        refine bE h fun w0 hr_5 h=> ?_
        refine ri tT ⟨(acu u2 x3 u6 v3),(abf w0)⟩ [v3=true,v3=true,v3=true,v3=true,v3=true,v3=true,gP (jq [(1,true)]) [(1,true)]→All [Yl Try.prog 0 [(.agg [(cI 0),(cI u6)]),(sI ((at' u2 u6.toNat).cK))] (ab2 v4) (vB true) (afO w0)],gP (jq [(1,true)]) [(1,true)],v3=true,v3=true] {yb:=[(1,true)],an:=[(7, .call [0,1,37] (vB true) (afO w0))] } [] ⟨(hb4),(hb4),(hb4),(hb4),(hb4),(hb4),(fun hg=> ⟨(yK [(2,37),(3,58)] (nD 0 u6 ((at' u2 u6.toNat).cK) v4 hr_5)),trivial⟩),(⟨rfl,trivial⟩),(hb4),(hb4),trivial⟩ (bZ.le (st':=⟨(aaJ u2 x3 u6),(abf w0)⟩) ⟨⟨tR,tR,tR,tR,tR,⟨_,rfl,dY.v (eX.one (eD.of (congrArg (fun b=>CV.d (.bool b)) (CJ hb4))))⟩,trivial⟩,(.refl _)⟩) ?_
        refine cn (aP (ri tT ⟨(ac1 u2 x3 u6),(abf w0)⟩ [] {} [] trivial (bZ.fin (st':=(adY u2 x3 u6 w0)) (cs:=[]) ⟨[],[(0,0),(1,1),(2,2),(58,37)]⟩ [0,3,78,79,80] (by kernel_rfl) trivial) ?_))
        obtain rfl:=oi h
        exact lN
       ·skip
        refine ri tT ⟨(acu u2 x3 u6 v3),(tN v4)⟩ [v3=false, ¬ gP (jq [(1,false)]) [(1,true)],v3=false, ¬ gP (jq [(1,false)]) [(1,true)],v3=false, ¬ gP (jq [(1,false)]) [(1,true)],v3=false, ¬ gP (jq [(1,false)]) [(1,true)],v3=false, ¬ gP (jq [(1,false)]) [(1,true)],v3=false, ¬ gP (jq [(1,false)]) [(1,true)],v3=false, ¬ gP (jq [(1,false)]) [(1,true)],v3=false] {yb:=[(1,false)],an:=[(2, .skip),(3, .skip),(4, .skip),(5, .skip),(6, .skip),(7, .skip),(8, .skip)] } [] ⟨(hb4),((fun h=>Bool.noConfusion (show false=true from h.1))),(hb4),((fun h=>Bool.noConfusion (show false=true from h.1))),(hb4),((fun h=>Bool.noConfusion (show false=true from h.1))),(hb4),((fun h=>Bool.noConfusion (show false=true from h.1))),(hb4),((fun h=>Bool.noConfusion (show false=true from h.1))),(hb4),((fun h=>Bool.noConfusion (show false=true from h.1))),(hb4),((fun h=>Bool.noConfusion (show false=true from h.1))),(hb4),trivial⟩ (bZ.le (st':=⟨(aaJ u2 x3 u6),(tN v4)⟩) ⟨⟨tR,tR,tR,tR,tR,⟨_,rfl,dY.v (eX.one (eD.of (congrArg (fun b=>CV.d (.bool b)) (Ct hb4))))⟩,trivial⟩,(.refl _)⟩) ?_
        refine cn (aP (rz tT (adY u2 x3 u6 v4) {} [] ?_))
        obtain rfl:=oi h
        exact lN
      ·refine cf hb5 ?_
       refine aI (fz ⟨[],(tN v4)⟩ []) ?_
       refine aX ?_
       obtain rfl:=oi h
       exact lB
     ·clear hy
      cases y2 with
      |brk z=>
       obtain⟨o905,rfl⟩: ∃q,q=z:=⟨_,rfl⟩
       unfold fT
       refine⟨_,(bZ.fin (st':=⟨[],[Dw,(1,some (.cells 80 [(.own 3 false o905.length)])),(2,none),(3,some (dK 117 2 aZ.cell o905))]⟩) (cs:=[]) ⟨[],[(0,0),(1,1),(2,2),(37,3)]⟩ [] (by kernel_rfl) trivial), ?_⟩
       obtain rfl:=oi h
       exact bR.mk (.inl rfl) (p:=[]) (l:=[]) (by kernel_rfl) trivial (dY.refl _) (hN 2 ⟨rfl,trivial,(.refl _)⟩)
      |ret v=>
       obtain rfl:=oi h
       unfold fT
       intro e st hn ha hR
       cases e with
       |normal=>exact absurd rfl hn
       |exit id=>exact hR
       |goto l=>exact hR
       |ret=>exact hR
       |panic c=>exact hR
       |outgrown=>exact hR
    |ret v=>
     obtain rfl:=oi h
     unfold fT
     intro e st hn ha hR
     cases e with
     |normal=>exact absurd rfl hn
     |exit id=>exact hR
     |goto l=>exact hR
     |ret=>exact hR
     |panic c=>exact hR
     |outgrown=>exact hR
  |ret v=>
   obtain rfl:=oi h
   unfold fT
   intro e st hn ha hR
   cases e with
   |normal=>exact absurd rfl hn
   |exit id=>exact hR
   |goto l=>exact hR
   |ret=>exact hR
   |panic c=>exact hR
   |outgrown=>exact hR
def JP  :((List aZ) × Int)→Exit→St→Prop:=
  fun r=>bR TT [.tmp 4, .tmp 5] (.iG [(sD (bg none 2 aZ.cell r.1)),(sI r.2)]) []
section
variable (p:au) (s_:ay) (r_:(aS × (List Bool) × Int)) (u0:(Int × (List aj) × (List aM) × (List aK) × (List Bool) × (List Bool) × (List Bool) × (List Bool) × (List Bool) × (List Bool) × (List Bool) × (List Bool)))
abbrev abJ:St:=⟨[(Lv p),(gQ s_)],[]⟩
abbrev Kb:DV:=(bg none 1 aD r_.2.1)
abbrev abO:List (Nat × TV):=[(Lv p),(gQ s_),(7,(vD (Kb r_))),(9,(vP 20 0))]
abbrev aeE:List (Nat × Option Ob):=[(20,some (.cells 80 [(.own 21 false (([]:List aZ).length))])),(21,some (dK 117 2 aZ.cell ([]:List aZ)))]
abbrev YM:DV:=(kK [(.int .i64 u0.1),(bg none 5 aj.cell u0.2.1),(bg none 6 aM.cell u0.2.2.1),(bg none 4 aK.cell u0.2.2.2.1)] 0)
abbrev Yk:DV:=(kK [(bg none 1 aD u0.2.2.2.2.1),(bg none 1 aD u0.2.2.2.2.2.1),(bg none 1 aD u0.2.2.2.2.2.2.1),(bg none 1 aD u0.2.2.2.2.2.2.2.1),(bg none 1 aD u0.2.2.2.2.2.2.2.2.1),(bg none 1 aD u0.2.2.2.2.2.2.2.2.2.1),(bg none 1 aD u0.2.2.2.2.2.2.2.2.2.2.1)] 0)
abbrev Zk:DV:=(kK [(bg none 1 aD u0.2.2.2.2.2.2.2.2.2.2.2)] 0)
abbrev Ya:TV:=(vD (.fn 124 3 (mM [(YM u0),(Yk u0),(Zk u0)])))
abbrev ahE:List (Nat × TV):=[(9,(vP 20 0)),(24,(Ya u0))]
abbrev ahe:List CV:=[(.d (YM u0)),(.d (Yk u0)),(.d (Zk u0))]
end
theorem JB (p:au) (s_:ay) {r:((List aZ) × Int)} (h:AV p s_=some r):Fn Try.prog 33 (YI s_ p) [] (.iG [(sD (bg none 2 aZ.cell r.1)),(sI r.2)]) []:=by
 refine fN tT Try.func33 rfl rfl fun B=> ?_
 show bW _ _ _ _ _ _ (JP r) _
 unfold AV at h
 refine sz tT (abJ p s_) {fr:=[(0,12),(1,13)] } [12,13] ?_
 refine aQ (bE h fun r_ hr_ h=> ?_)
 have q0:=rk [(0,14),(1,15),(2,16),(3,17),(4,18)] (vN p s_ hr_)
 refine rg tT ⟨[(Lv p),(gQ s_),(7,(vD (Kb r_))),(8,(vI r_.2.2))],[]⟩ [_,r_.2.1.length=r_.2.1.length] {an:=[(2,cA q0 [])],fr:=[(7,19)] } [17] ⟨q0,rfl,trivial⟩ ?_
 refine aQ (sz tT ⟨[(Lv p),(gQ s_),(7,(vD (Kb r_))),(8,(vI r_.2.2)),(19,(vB (!decide (r_.2.2=0))))],[]⟩ {} [] ?_)
 refine bI h (fun hb h=> ?_) (fun hb h=> ?_)
 ·refine ct hb ?_
  refine sz tT ⟨[(4,(vD nS)),(5,(vI r_.2.2))],[]⟩ {} [] ?_
  refine aI (bZ.le (st':=⟨[(4,(vD (bg none 2 aZ.cell ([]:List aZ)))),(5,(vI r_.2.2))],[]⟩) ⟨⟨⟨_,rfl,dY.v (eX.one (eD.d gX.nil'))⟩,tR,trivial⟩,trivial⟩) ?_
  refine aR ?_
  obtain rfl:=oi h
  exact rl [(sD (bg none 2 aZ.cell ([]:List aZ))),(sI r_.2.2)]
 ·refine cf hb ?_
  refine aP (si tT ⟨(abO p s_ r_),[(20,some (.cells 80 [(.d nS)]))]⟩ [] {fr:=[(0,20)] } [] trivial (.trans (bZ.AQ (E:=0) (esz:=0) (E0:=80) (cs:=[(.d nS)]) (p:=20) (q:=0) (b:=21) (esz0:=0) (el0:=fun _ _=> .nilp) (ob:= .arr 117 2 0 (aN aZ.cell ([]:List aZ))) (fun _ _ _ _ h=> .inl ⟨h,rfl⟩) (by kernel_rfl) (by kernel_rfl) (by kernel_rfl)) (.trans (fz ⟨(abO p s_ r_),[(20,some (.cells 80 [(.own 21 false 0)])),(21,some (.arr 117 2 0 (aN aZ.cell ([]:List aZ))))]⟩ []) (bZ.le (st':=⟨(abO p s_ r_),aeE⟩) ⟨⟨tR,tR,tR,tR,trivial⟩,⟨rfl,bX ⟨cW,trivial⟩,⟨rfl,oW,trivial⟩⟩⟩))) ?_)
  refine aQ (aQ (bE h fun u0 hr_1 h=> ?_))
  have q0:=yL p s_ r_.2.1 hr_1
  refine rg tT ⟨(ahE u0),aeE⟩ [_] {an:=[(3,cA q0 [])] } [] ⟨q0,trivial⟩ ?_
  refine aB (bE h fun u1 hr_2 h=> ?_)
  refine jd 22 [(9,(vP 20 0))] [] [22,20,21] (.iG []) [(22,some (.loop iE 0 [(9,(vP 20 0))])),(20,some (.cells 80 [(.own 23 false u1.length)])),(21,none),(23,some (EZ u1))] (Ya u0) 124 [] (ahe u0) [(22,some (.loop iE 0 [(9,(vP 20 0))])),(20,some (.cells 80 [(.own 21 false (([]:List aZ).length))])),(21,some (dK 117 2 aZ.cell ([]:List aZ)))] [(.one (.yl 22)),(sD (YM u0)),(sD (Yk u0)),(sD (Zk u0))] iE 0 [(9,(vP 20 0))] (by kernel_rfl) (by kernel_rfl) (by kernel_rfl) (by kernel_rfl) (by kernel_rfl) (by kernel_rfl) (by kernel_rfl) (rK [(0,22),(1,20),(2,21),(3,23)] (DF u0.1 u0.2.1 u0.2.2.1 u0.2.2.2.1 u0.2.2.2.2.1 u0.2.2.2.2.2.1 u0.2.2.2.2.2.2.1 u0.2.2.2.2.2.2.2.1 u0.2.2.2.2.2.2.2.2.1 u0.2.2.2.2.2.2.2.2.2.1 u0.2.2.2.2.2.2.2.2.2.2.1 u0.2.2.2.2.2.2.2.2.2.2.2 ([]:List aZ) hr_2)) (by kernel_rfl) rfl (Dm.zero rfl) (bZ.fin (st':=⟨(ahE u0),[(20,some (.cells 80 [(.own 23 false u1.length)])),(21,none),(23,some (EZ u1))]⟩) (cs:=[]) ⟨[],[(20,20),(21,21),(23,23)]⟩ [9,24] (by kernel_rfl) trivial) ?_
  refine sg tT ⟨[(4,(vD (bg none 2 aZ.cell u1))),(5,(vI 0))],[]⟩ [u1.length=u1.length] {} [23] ⟨rfl,trivial⟩ ?_
  refine aR ?_
  obtain rfl:=oi h
  exact rl [(sD (bg none 2 aZ.cell u1)),(sI 0)]
def sS  :Int→Exit→St→Prop:=
  fun r=>bR TT [.tmp 2] (vI r) []
section
variable (x:aS)
abbrev U8:Nat × TV:=(7,(vD (bg none 2 ah.cell x.aF)))
abbrev U9:Nat × TV:=(8,(vI (x.aF.length:Int)))
end
def zL (x:aS):(Int × Int)→St:=
  fun zz=>match zz with|(n,t9)=> ⟨[(3,(vI n)),(U8 x),(U9 x),(9,(vI t9))],[]⟩
def zD  :Int→St:=
  fun n1=> ⟨[(3,(vI n1))],[]⟩
def Hq (x:aS):(bn (Int × Int) (Ex Int Int))→Exit→St→Prop:=
  LQ 0 [] (zL x) zD sS
section
variable (x:aS) (t9:Int) (n:Int)
abbrev Zo:List CV:=[(.d (bg none 1 (aC .i64) x.ai)),(.d (bg none 1 (aC .i64) x.af)),(.d (bg none 2 ah.cell x.aF))]
abbrev agS:List SV:=[(.agg (Zo x))]
abbrev aa9:Ob:=(.cells 77 (Zo x))
abbrev ahm:List (Nat × Option Ob):=[(5,some (aa9 x))]
abbrev acH:TV:=(vD (kK [(.int .i64 ((at' x.aF t9.toNat).e0)),(.int .i64 ((at' x.aF t9.toNat).e1))] 0))
abbrev ail:Nat × TV:=(3,(vI (IntKind.wrap .i64 (n+(IntKind.wrap .i64 (((at' x.aF t9.toNat).e0)+((at' x.aF t9.toNat).e1)))))))
end
theorem fU (x:aS) {r:Int} (h:lu x=some r):Fn Try.prog 41 (agS x) [] (vI r) []:=by
 refine fN tT Try.func41 rfl rfl fun B=> ?_
 show bW _ _ _ _ _ _ (sS r) _
 unfold lu at h
 refine sz tT ⟨[(1,(vP 5 0))],(ahm x)⟩ {fr:=[(0,5)] } [] ?_
 refine sz tT ⟨[(1,(vP 5 0)),(3,(vI 0))],(ahm x)⟩ {} [] ?_
 refine aQ (sz tT ⟨[(3,(vI 0)),(U8 x),(U9 x),(9,(vI 0))],[]⟩ {} [] ?_)
 refine bE h fun y hy h=> ?_
 refine aL [] (zL x) zD sS hy (fun s f h=> ?_) ?_
 ·clear hy
  show bW _ _ _ _ _ _ ((Hq x) f) _
  unfold zG at h
  obtain⟨n,t9⟩:=s
  refine sz tT ⟨[(3,(vI n)),(U8 x),(U9 x),(9,(vI t9)),(10,(vB (decide (t9<(x.aF.length:Int)))))],[]⟩ {} [] ?_
  refine aQ ?_
  refine bI h (fun hb h=> ?_) (fun hb h=> ?_)
  ·refine ct hb ?_
   refine aP (aQ (aB (aQ (aO h fun a1 h=> ?_))))
   refine rg tT ⟨[(3,(vI n)),(5,(acH x t9)),(U8 x),(U9 x),(9,(vI t9))],[]⟩ [_] {fr:=[(2,9)] } [9] ⟨a1,trivial⟩ ?_
   refine rg tT ⟨[(ail x t9 n),(U8 x),(U9 x),(9,(vI t9))],[]⟩ [(0:Int)≤0∧(0:Int)<(2:Nat),(0:Int)≤1∧(1:Int)<(2:Nat)] {} [] ⟨((by decide)),((by decide)),trivial⟩ ?_
   refine rz tT ⟨[(ail x t9 n),(U8 x),(U9 x),(9,(k3 t9))],[]⟩ {} [] ?_
   obtain rfl:=oi h
   exact lN
  ·refine cf hb ?_
   refine aI (fz ⟨[(3,(vI n))],[]⟩ []) ?_
   refine aX ?_
   obtain rfl:=oi h
   exact lB
 ·clear hy
  cases y with
  |brk z=>
   obtain⟨n1,rfl⟩: ∃q,q=z:=⟨_,rfl⟩
   unfold fT
   refine⟨_, .refl, ?_⟩
   refine sz tT ⟨[(2,(vI n1))],[]⟩ {} [] ?_
   refine aR ?_
   obtain rfl:=oi h
   exact rl [(sI n1)]
  |ret v=>
   obtain rfl:=oi h
   unfold fT
   intro e st hn ha hR
   cases e with
   |normal=>exact absurd rfl hn
   |exit id=>exact hR
   |goto l=>exact hR
   |ret=>exact hR
   |panic c=>exact hR
   |outgrown=>exact hR
def zu  :(Bool × Int)→Exit→St→Prop:=
  fun r=>bR TT [.tmp 4, .tmp 5] (.iG [(sB r.1),(sI r.2)]) []
section
variable (r_:(aS × (List Bool) × Int)) (p:au)
abbrev aev:TV:=(vD (kK [(bg none 1 (aC .i64) r_.1.ai),(bg none 1 (aC .i64) r_.1.af),(bg none 2 ah.cell r_.1.aF)] 0))
abbrev LV:Nat × TV:=(6,(aev r_))
abbrev U3:Nat × TV:=(23,(vD (k6 p)))
abbrev U0:Nat × TV:=(24,(vI (p.aF.length:Int)))
end
def Cb (p:au) (r_:(aS × (List Bool) × Int)):(Int × Int)→St:=
  fun zz=>match zz with|(n,u0)=> ⟨[(LV r_),(9,(vI n)),(U3 p),(U0 p),(25,(vI u0))],[]⟩
section
variable (r_:(aS × (List Bool) × Int)) (n1:Int)
abbrev aiu:St:=⟨[(LV r_),(9,(vI n1))],[]⟩
end
def BZ (r_:(aS × (List Bool) × Int)):Int→St:=
  fun n1=>(aiu r_ n1)
def KI (p:au) (r_:(aS × (List Bool) × Int)):(bn (Int × Int) (Ex Int (Bool × Int)))→Exit→St→Prop:=
  LQ 0 [] (Cb p r_) (BZ r_) zu
section
variable (p:au) (r_:(aS × (List Bool) × Int)) (u0:Int)
abbrev ahN:Nat × Option Ob:=(12,some (XH p))
abbrev Za:List (Nat × Option Ob):=[(ahN p)]
abbrev aap:List CV:=[(.d (bg none 1 (aC .i64) r_.1.ai)),(.d (bg none 1 (aC .i64) r_.1.af)),(.d (bg none 2 ah.cell r_.1.aF))]
abbrev aeM:Ob:=(.cells 77 (aap r_))
abbrev Jl:=((at' p.aF u0.toNat).bY)
end
theorem KJ (p:au) (s_:ay) {r:(Bool × Int)} (h:Co p s_=some r):Fn Try.prog 34 (YI s_ p) [] (.iG [(sB r.1),(sI r.2)]) []:=by
 refine fN tT Try.func34 rfl rfl fun B=> ?_
 show bW _ _ _ _ _ _ (zu r) _
 unfold Co at h
 refine sz tT ⟨[(2,(vP 12 0)),(gQ s_)],(Za p)⟩ {fr:=[(0,12),(1,13)] } [13] ?_
 refine aQ (bE h fun r_ hr_ h=> ?_)
 have q0:=rk [(0,14),(1,15),(2,16),(3,17),(4,18)] (vN p s_ hr_)
 refine ri tT ⟨[(2,(vP 12 0)),(6,(vP 19 0)),(8,(vI r_.2.2))],[(ahN p),(19,some (aeM r_))]⟩ [_,r_.1.ai.length=r_.1.ai.length,r_.1.af.length=r_.1.af.length,r_.1.aF.length=r_.1.aF.length] {an:=[(2,cA q0 [])],fr:=[(7,19)] } [14,15,16] ⟨q0,rfl,rfl,rfl,trivial⟩ (fz ⟨[(2,(vP 12 0)),(LV r_),(8,(vI r_.2.2))],(Za p)⟩ [19]) ?_
 refine aQ (sz tT ⟨[(2,(vP 12 0)),(LV r_),(8,(vI r_.2.2)),(20,(vB (!decide (r_.2.2=0))))],(Za p)⟩ {} [] ?_)
 refine bI h (fun hb1 h=> ?_) (fun hb1 h=> ?_)
 ·refine ct hb1 ?_
  refine sz tT ⟨[(4,(vB false)),(5,(vI r_.2.2))],[]⟩ {} [] ?_
  refine aR ?_
  obtain rfl:=oi h
  exact rl [(sB false),(sI r_.2.2)]
 ·refine cf hb1 ?_
  refine aP (sz tT ⟨[(2,(vP 12 0)),(LV r_),(9,(vI 0))],(Za p)⟩ {} [] ?_)
  refine aQ (sz tT ⟨[(LV r_),(9,(vI 0)),(U3 p),(U0 p),(25,(vI 0))],[]⟩ {} [] ?_)
  refine bE h fun y hy h=> ?_
  refine aL [] (Cb p r_) (BZ r_) zu hy (fun s f h=> ?_) ?_
  ·clear hy
   show bW _ _ _ _ _ _ ((KI p r_) f) _
   unfold Cu at h
   obtain⟨n,u0⟩:=s
   refine sz tT ⟨[(LV r_),(9,(vI n)),(U3 p),(U0 p),(25,(vI u0)),(26,(vB (decide (u0<(p.aF.length:Int)))))],[]⟩ {} [] ?_
   refine aQ ?_
   refine bI h (fun hb h=> ?_) (fun hb h=> ?_)
   ·refine ct hb ?_
    refine aP (aQ (aB (aQ (aO h fun a1 h=> ?_))))
    refine rg tT ⟨[(LV r_),(9,(vI n)),(11,(vD (kK [(.int .i64 ((Jl p u0).e0)),(.int .i64 ((Jl p u0).e1)),(.int .i64 ((at' p.aF u0.toNat).cK)),(.int .i64 ((at' p.aF u0.toNat).uT))] 0))),(U3 p),(U0 p),(25,(vI u0))],[]⟩ [_] {fr:=[(2,23)] } [23] ⟨a1,trivial⟩ ?_
    refine rz tT ⟨[(LV r_),(9,(vI (IntKind.wrap .i64 (n+((at' p.aF u0.toNat).cK))))),(U3 p),(U0 p),(25,(vI u0))],[]⟩ {} [] ?_
    refine rz tT ⟨[(LV r_),(9,(vI (IntKind.wrap .i64 (n+((at' p.aF u0.toNat).cK))))),(U3 p),(U0 p),(25,(k3 u0))],[]⟩ {} [] ?_
    obtain rfl:=oi h
    exact lN
   ·refine cf hb ?_
    refine aI (fz (aiu r_ n) []) ?_
    refine aX ?_
    obtain rfl:=oi h
    exact lB
  ·clear hy
   cases y with
   |brk z=>
    obtain⟨n1,rfl⟩: ∃q,q=z:=⟨_,rfl⟩
    unfold fT
    refine⟨_, .refl, ?_⟩
    refine aQ (bE h fun u1 hr_1 h=> ?_)
    have q0:=fU r_.1 hr_1
    refine rg tT ⟨[(4,(vB (decide (u1=n1)))),(5,(vI 0))],[]⟩ [_] {an:=[(1,cA q0 [])] } [] ⟨q0,trivial⟩ ?_
    refine aR ?_
    obtain rfl:=oi h
    exact rl [(sB (decide (u1=n1))),(sI 0)]
   |ret v=>
    obtain rfl:=oi h
    unfold fT
    intro e st hn ha hR
    cases e with
    |normal=>exact absurd rfl hn
    |exit id=>exact hR
    |goto l=>exact hR
    |ret=>exact hR
    |panic c=>exact hR
    |outgrown=>exact hR
def qd  :Bool→Exit→St→Prop:=
  fun r=>bR TT [.tmp 4] (vB r) []
section
variable (a:(List aZ)) (b:(List aZ))
abbrev RB:Nat × TV:=(0,(vD (bg none 2 aZ.cell a)))
abbrev Rt:Nat × TV:=(1,(vD (bg none 2 aZ.cell b)))
end
def wQ (a:(List aZ)) (b:(List aZ)):Int→St:=
  fun i=> ⟨[(RB a),(Rt b),(5,(vI i))],[]⟩
def vS  :Unit→St:=
  fun _=> ⟨[],[]⟩
def E8 (a:(List aZ)) (b:(List aZ)):(bn Int (Ex Unit Bool))→Exit→St→Prop:=
  LQ 0 [] (wQ a b) vS qd
theorem wh (a:(List aZ)) (b:(List aZ)) {r:Bool} (h:oM a b=some r):Fn Try.prog 38 [(sD (bg none 2 aZ.cell a)),(sD (bg none 2 aZ.cell b))] [] (vB r) []:=by
 refine fN tT Try.func38 rfl rfl fun B=> ?_
 show bW _ _ _ _ _ _ (qd r) _
 unfold oM at h
 refine sz tT ⟨[(RB a),(Rt b)],[]⟩ {} [] ?_
 refine aQ (sz tT ⟨[(RB a),(Rt b),(10,(vB (!decide ((a.length:Int)=(b.length:Int)))))],[]⟩ {} [] ?_)
 refine bI h (fun hb2 h=> ?_) (fun hb2 h=> ?_)
 ·refine ct hb2 ?_
  refine sz tT ⟨[(4,(vB false))],[]⟩ {} [] ?_
  refine aR ?_
  obtain rfl:=oi h
  exact rl [(sB false)]
 ·refine cf hb2 ?_
  refine aP (aQ (sz tT ⟨[(RB a),(Rt b),(5,(vI 0))],[]⟩ {} [] ?_))
  refine bE h fun y hy h=> ?_
  refine aL [] (wQ a b) vS qd hy (fun s f h=> ?_) ?_
  ·clear hy
   show bW _ _ _ _ _ _ ((E8 a b) f) _
   unfold wX at h
   obtain⟨i,rfl⟩: ∃q,q=s:=⟨_,rfl⟩
   refine aQ (sz tT ⟨[(RB a),(Rt b),(5,(vI i)),(14,(vB (decide (i<(a.length:Int)))))],[]⟩ {} [] ?_)
   refine bI h (fun hb1 h=> ?_) (fun hb1 h=> ?_)
   ·refine ct hb1 ?_
    refine aP (aQ (aB (aQ (aO h fun⟨a1,a2⟩ h=> ?_))))
    refine dg tT mX ⟨[(RB a),(Rt b),(5,(vI i)),(25,(vB (!((decide (((at' a i.toNat).kind)=((at' b i.toNat).kind))) && ((decide (((at' a i.toNat).index)=((at' b i.toNat).index))) && true)))))],[]⟩ [_,_] {} [] ⟨a1,a2,trivial⟩ ?_
    refine bI h (fun hb h=> ?_) (fun hb h=> ?_)
    ·refine ct hb ?_
     refine sz tT ⟨[(4,(vB false))],[]⟩ {} [] ?_
     refine aR ?_
     obtain rfl:=oi h
     exact lR dP (dQ 0) dO (bR.mk (.inr rfl) (p:=[]) (l:=[(sB false)]) (by kernel_rfl) trivial (dY.refl _) trivial)
    ·refine cf hb ?_
     refine aP (rz tT ⟨[(RB a),(Rt b),(k2 i)],[]⟩ {} [] ?_)
     obtain rfl:=oi h
     exact lN
   ·refine cf hb1 ?_
    refine aI (fz ⟨[],[]⟩ []) ?_
    refine aX ?_
    obtain rfl:=oi h
    exact lB
  ·clear hy
   cases y with
   |brk z=>
    unfold fT
    refine⟨_, .refl, ?_⟩
    refine sz tT ⟨[(4,(vB true))],[]⟩ {} [] ?_
    refine aR ?_
    obtain rfl:=oi h
    exact rl [(sB true)]
   |ret v=>
    obtain rfl:=oi h
    unfold fT
    intro e st hn ha hR
    cases e with
    |normal=>exact absurd rfl hn
    |exit id=>exact hR
    |goto l=>exact hR
    |ret=>exact hR
    |panic c=>exact hR
    |outgrown=>exact hR
noncomputable def eG:nI:=⟨[45,46],FU ([1,1,1,1,1,0,1,0]++[0]) (jX Try.f45),FU ([1,1,1,1,1,0,1,0]++[1]) (jX Try.f45),51,[]⟩
abbrev TQ:Nat × Option Ob:=(0,some (.loop eG 0 [(11,(vP 1 0))]))
def Ai  :Int→Exit→St→Prop:=
  fun r=>lF 0 eG (vB true) [TQ,(1,some (.cells 3 [(cI r)]))]
section
variable (u1:Int)
abbrev kP:List (Nat × Option Ob):=[TQ,(1,some (.cells 3 [(cI u1)]))]
end
theorem jW (u2:Int) (u3:Int) (u0:Int) (u1:Int) {r:Int} (h:iq u2 u3 u0 u1=some r):Yl Try.prog 0 [(.agg [(cI u2),(cI u3)]),(sI u0)] (kP u1) (vB true) [TQ,(1,some (.cells 3 [(cI r)]))]:=by
 refine Ck (r:=eG) (sl:=[(11,(vP 1 0))]) (sl1:=[(11,(vP 1 0)),(13,(vI u0))]) (h1:=(kP u1)) (sl2:=[(11,(vP 1 0))]) (by kernel_rfl) rfl rfl (by kernel_rfl) (fun rd B=> ?_) (by kernel_rfl) (fun rd B=> ?_)
 ·refine om (c:=FU ([1,1,1,1,1,0,1,0]++[0]) (jX Try.f45)) rfl ?_
  refine lC (st:=⟨[(45,(.v (.agg [(cI u2),(cI u3)]))),(46,(vI u0)),(11,(vP 1 0))],(kP u1)⟩) (by kernel_rfl) ?_
  refine rz tT ⟨[(11,(vP 1 0)),(13,(vI u0))],(kP u1)⟩ {} [] ?_
  exact⟨rfl,rfl⟩
 ·refine om (c:=FU ([1,1,1,1,1,0,1,0]++[1]) (jX Try.f45)) rfl ?_
  refine lC (st:=⟨[(11,(vP 1 0)),(13,(vI u0))],[(0,some (.loop eG 1 [(11,(vP 1 0))])),(1,some (.cells 3 [(cI u1)]))]⟩) (by kernel_rfl) ?_
  show bW _ _ _ _ _ _ (Ai r) _
  unfold iq at h
  refine aB (rz tT ⟨[],[(0,some (.loop eG 1 [(11,(vP 1 0))])),(1,some (.cells 3 [(cI (IntKind.wrap .i64 (u1+u0)))]))]⟩ {} [] ?_)
  obtain rfl:=oi h
  exact lF.on (sl:=[(11,(vP 1 0))]) (by kernel_rfl) (xV (by kernel_rfl)) (dY.refl _)
def dR  :Int→Exit→St→Prop:=
  fun r=>bR TT [] (.iG []) [TQ,(1,some (.cells 3 [(cI r)]))]
def qc (x1:Int) (u0:(List aj)) (u1:(List aM)) (u2:(List aK)) (x2:(List Bool)) (u3:(List Bool)) (u4:(List Bool)) (u5:(List Bool)) (u6:(List Bool)) (u7:(List Bool)) (u8:(List Bool)) (x3:(List Bool)) (v1:Int):(Int × Int)→St:=
  fun zz=>match zz with|(u9,v0)=> ⟨(ahz x2 u3 u4 u5 u6 u7 u8 x3 u0 x1 u1 u2 v0),(kP u9)⟩
section
variable (x1:Int) (u0:(List aj)) (u1:(List aM)) (u2:(List aK)) (x2:(List Bool)) (u3:(List Bool)) (u4:(List Bool)) (u5:(List Bool)) (u6:(List Bool)) (u7:(List Bool)) (u8:(List Bool)) (x3:(List Bool)) (u9:Int)
abbrev ahL:St:=⟨(aeH x1 u0 u1 u2 x2 u3 u4 u5 u6 u7 u8 x3),(kP u9)⟩
end
def p9 (x1:Int) (u0:(List aj)) (u1:(List aM)) (u2:(List aK)) (x2:(List Bool)) (u3:(List Bool)) (u4:(List Bool)) (u5:(List Bool)) (u6:(List Bool)) (u7:(List Bool)) (u8:(List Bool)) (x3:(List Bool)) (v0:Int):Int→St:=
  fun u9=>(ahL x1 u0 u1 u2 x2 u3 u4 u5 u6 u7 u8 x3 u9)
def Ap (x1:Int) (u0:(List aj)) (u1:(List aM)) (u2:(List aK)) (x2:(List Bool)) (u3:(List Bool)) (u4:(List Bool)) (u5:(List Bool)) (u6:(List Bool)) (u7:(List Bool)) (u8:(List Bool)) (x3:(List Bool)) (u9:Int):(bn (Int × Int) (Ex Int Int))→Exit→St→Prop:=
  LQ 0 [] (qc x1 u0 u1 u2 x2 u3 u4 u5 u6 u7 u8 x3 u9) (p9 x1 u0 u1 u2 x2 u3 u4 u5 u6 u7 u8 x3 u9) dR
def qh (x1:Int) (u1:(List aj)) (u0:(List aM)) (u2:(List aK)) (x2:(List Bool)) (u3:(List Bool)) (u4:(List Bool)) (u5:(List Bool)) (u6:(List Bool)) (u7:(List Bool)) (u8:(List Bool)) (x3:(List Bool)) (v1:Int):(Int × Int)→St:=
  fun zz=>match zz with|(u9,v0)=> ⟨(ahG u0 x1 u1 u2 x2 u3 u4 u5 u6 u7 u8 x3 v0),(kP u9)⟩
section
variable (x1:Int) (u0:(List aj)) (u1:(List aM)) (u2:(List aK)) (x3:(List Bool)) (u3:Int)
abbrev afJ:St:=⟨(adE x1 u0 u1 u2 x3),(kP u3)⟩
end
def qA (x1:Int) (u0:(List aj)) (u1:(List aM)) (u2:(List aK)) (x3:(List Bool)) (u4:Int):Int→St:=
  fun u3=>(afJ x1 u0 u1 u2 x3 u3)
def AX (x1:Int) (u0:(List aj)) (u1:(List aM)) (u2:(List aK)) (x2:(List Bool)) (u4:(List Bool)) (u5:(List Bool)) (u6:(List Bool)) (u7:(List Bool)) (u8:(List Bool)) (u9:(List Bool)) (x3:(List Bool)) (u3:Int):(bn (Int × Int) (Ex Int Int))→Exit→St→Prop:=
  LQ 2 [] (qh x1 u0 u1 u2 x2 u4 u5 u6 u7 u8 u9 x3 u3) (qA x1 u0 u1 u2 x3 u3) dR
def qb (u0:(List aK)) (x3:(List Bool)):(Int × Int)→St:=
  fun zz=>match zz with|(u1,u2)=> ⟨(aib u0 x3 u2),(kP u1)⟩
def pO  :Int→St:=
  fun o1105=> ⟨[],[TQ,(1,some (.cells 3 [(cI o1105)]))]⟩
def Ba (u0:(List aK)) (x3:(List Bool)):(bn (Int × Int) (Ex Int Int))→Exit→St→Prop:=
  LQ 4 [] (qb u0 x3) pO dR
section
variable (x1:Int) (u1:(List aj)) (u0:(List aM)) (u2:(List aK)) (x2:(List Bool)) (u7:(List Bool)) (u8:(List Bool)) (u9:(List Bool)) (v0:(List Bool)) (v1:(List Bool)) (v2:(List Bool)) (x3:(List Bool)) (u4:Int) (r_:Bool) (v8:Int) (u3:Int) (u5:Bool) (v9:Int) (u6:Int) (v3:Bool) (w0:Int)
abbrev aff:St:=⟨(ack x1 u1 u0 u2 x2 u7 u8 u9 v0 v1 v2 x3 u4 r_),(kP v8)⟩
abbrev ahb:St:=⟨(ab1 x1 u1 u0 u2 x2 u7 u8 u9 v0 v1 v2 x3 u4),(kP v8)⟩
abbrev ad1:St:=⟨(abK x1 u1 u0 u2 x2 u7 u8 u9 v0 v1 v2 x3 u4),(kP v8)⟩
abbrev adM:St:=⟨(abM x1 u1 u0 u2 x2 u7 u8 u9 v0 v1 v2 x3 u3 u5),(kP v9)⟩
abbrev ae5:St:=⟨(aaD x1 u1 u0 u2 x2 u7 u8 u9 v0 v1 v2 x3 u3),(kP v9)⟩
abbrev ae3:St:=⟨(aar x1 u1 u0 u2 x2 u7 u8 u9 v0 v1 v2 x3 u3),(kP v9)⟩
abbrev ahr:St:=⟨(acu u2 x3 u6 v3),(kP w0)⟩
abbrev ahI:St:=⟨(aaJ u2 x3 u6),(kP w0)⟩
abbrev adN:St:=⟨(ac1 u2 x3 u6),(kP w0)⟩
end
theorem AY (x1:Int) (u1:(List aj)) (u0:(List aM)) (u2:(List aK)) (x2:(List Bool)) (u7:(List Bool)) (u8:(List Bool)) (u9:(List Bool)) (v0:(List Bool)) (v1:(List Bool)) (v2:(List Bool)) (x3:(List Bool)) (v4:Int) {r:Int} (h:nU x1 u1 u0 u2 x2 u7 u8 u9 v0 v1 v2 x3 v4=some r):Fn Try.prog 124 (afZ x1 u1 u0 u2 x2 u7 u8 u9 v0 v1 v2 x3) (kP v4) (.iG []) [TQ,(1,some (.cells 3 [(cI r)]))]:=by
 refine fN tT Try.func124 rfl rfl fun B=> ?_
 show bW _ _ _ _ _ _ (dR r) _
 unfold nU at h
 refine aQ (sz tT ⟨(Zm x1 u1 u0 u2 x2 u7 u8 u9 v0 v1 v2 x3),(kP v4)⟩ {} [] ?_)
 refine bE h fun y hy h=> ?_
 refine aL [] (qc x1 u1 u0 u2 x2 u7 u8 u9 v0 v1 v2 x3 v4) (p9 x1 u1 u0 u2 x2 u7 u8 u9 v0 v1 v2 x3 v4) dR hy (fun s f h=> ?_) ?_
 ·clear hy
  show bW _ _ _ _ _ _ ((Ap x1 u1 u0 u2 x2 u7 u8 u9 v0 v1 v2 x3 v4) f) _
  unfold qG at h
  obtain⟨v6,u4⟩:=s
  refine sz tT ⟨(agM x1 u1 u0 u2 x2 u7 u8 u9 v0 v1 v2 x3 u4),(kP v6)⟩ {} [] ?_
  refine aQ ?_
  refine bI h (fun hb1 h=> ?_) (fun hb1 h=> ?_)
  ·refine ct hb1 ?_
   refine aP (aQ (aB (aQ (aO h fun a1 h=> ?_))))
   refine rg tT ⟨(afy x1 u1 u0 u2 x2 u7 u8 u9 v0 v1 v2 x3 u4),(kP v6)⟩ [_] {fr:=[(3,17)] } [17] ⟨a1,trivial⟩ ?_
   refine aQ (bE h fun r_ hr_ h=> ?_)
   refine bI h (fun hb h=> ?_) (fun hb h=> ?_)
   ·skip
    refine bE h fun v8 hr_1 h=> ?_
    refine aO h fun a1 h=> ?_
    have q0:=gJ (⟨x1,u1,u0,u2⟩:au) (⟨x2,u7,u8,u9,v0,v1,v2⟩:ay) u4 hr_
    refine ri tT (aff x1 u1 u0 u2 x2 u7 u8 u9 v0 v1 v2 x3 u4 r_ v8) (_::(eqs r_ 4 ((agR u1 x3 u4 r_)::(eqs r_ 3 [(tF u1 x3 u4 r_)=true,(tF u1 x3 u4 r_)=true,(tF u1 x3 u4 r_)=true,(tF u1 x3 u4 r_)=true,(tF u1 x3 u4 r_)=true,(tF u1 x3 u4 r_)=true,gP (jq [(4,r_),(12,true)]) [(12,true)]→All [Yl Try.prog 0 [(.agg [(cI 2),(cI u4)]),(sI ((at' u1 u4.toNat).cK))] (kP v6) (vB true) (kP v8)],gP (jq [(4,r_),(12,true)]) [(12,true)],(tF u1 x3 u4 r_)=true,(tF u1 x3 u4 r_)=true])))) {yb:=[(4,r_),(12,true)],an:=[(3,cA q0 []),(18, .call [0,1] (vB true) (kP v8))] } [] ⟨q0,(ae ⟨(fun hg=> ⟨(a1 (bD hg)),trivial⟩),(ae ⟨(hb),(hb),(hb),(hb),(hb),(hb),(fun hg=> ⟨(jW 2 u4 ((at' u1 u4.toNat).cK) v6 hr_1),trivial⟩),(⟨rfl,trivial⟩),(hb),(hb),trivial⟩)⟩)⟩ (bZ.le (st':=(ahb x1 u1 u0 u2 x2 u7 u8 u9 v0 v1 v2 x3 u4 v8)) ⟨⟨tR,tR,tR,tR,tR,tR,tR,⟨_,rfl,dY.v (eX.one (eD.of (congrArg (fun b=>CV.d (.bool b)) (CJ hb))))⟩,trivial⟩,(.refl _)⟩) ?_
    refine cn (aP (rz tT (ad1 x1 u1 u0 u2 x2 u7 u8 u9 v0 v1 v2 x3 u4 v8) {} [] ?_))
    obtain rfl:=oi h
    exact lN
   ·skip
    refine aO h fun a1 h=> ?_
    have q0:=gJ (⟨x1,u1,u0,u2⟩:au) (⟨x2,u7,u8,u9,v0,v1,v2⟩:ay) u4 hr_
    refine ri tT (aff x1 u1 u0 u2 x2 u7 u8 u9 v0 v1 v2 x3 u4 r_ v6) (_::(agN u1 x3 u4 r_)) {yb:=[(4,r_),(12,false)],an:=[(3,cA q0 []),(13, .skip),(14, .skip),(15, .skip),(16, .skip),(17, .skip),(18, .skip),(19, .skip)] } [] ⟨q0,(ae ⟨(fun hg=> ⟨(a1 (bD hg)),trivial⟩),(ae ⟨(hb),((fun h=>Bool.noConfusion (show false=true from h.1))),(hb),((fun h=>Bool.noConfusion (show false=true from h.1))),(hb),((fun h=>Bool.noConfusion (show false=true from h.1))),(hb),((fun h=>Bool.noConfusion (show false=true from h.1))),(hb),((fun h=>Bool.noConfusion (show false=true from h.1))),(hb),((fun h=>Bool.noConfusion (show false=true from h.1))),(hb),((fun h=>Bool.noConfusion (show false=true from h.1))),(hb),trivial⟩)⟩)⟩ (bZ.le (st':=(ahb x1 u1 u0 u2 x2 u7 u8 u9 v0 v1 v2 x3 u4 v6)) ⟨⟨tR,tR,tR,tR,tR,tR,tR,⟨_,rfl,dY.v (eX.one (eD.of (congrArg (fun b=>CV.d (.bool b)) (Ct hb))))⟩,trivial⟩,(.refl _)⟩) ?_
    refine cn (aP (rz tT (ad1 x1 u1 u0 u2 x2 u7 u8 u9 v0 v1 v2 x3 u4 v6) {} [] ?_))
    obtain rfl:=oi h
    exact lN
  ·refine cf hb1 ?_
   refine aI (fz (ahL x1 u1 u0 u2 x2 u7 u8 u9 v0 v1 v2 x3 v6) []) ?_
   refine aX ?_
   obtain rfl:=oi h
   exact lB
 ·clear hy
  cases y with
  |brk z=>
   obtain⟨w1,rfl⟩: ∃q,q=z:=⟨_,rfl⟩
   unfold fT
   refine⟨_, .refl, ?_⟩
   refine aQ (sz tT ⟨(ahn x1 u1 u0 u2 x2 u7 u8 u9 v0 v1 v2 x3),(kP w1)⟩ {} [] ?_)
   refine bE h fun y1 hy h=> ?_
   refine aL [] (qh x1 u1 u0 u2 x2 u7 u8 u9 v0 v1 v2 x3 v4) (qA x1 u1 u0 u2 x3 v4) dR hy (fun s f h=> ?_) ?_
   ·clear hy
    show bW _ _ _ _ _ _ ((AX x1 u1 u0 u2 x2 u7 u8 u9 v0 v1 v2 x3 v4) f) _
    unfold pK at h
    obtain⟨v7,u3⟩:=s
    refine sz tT ⟨(aik x1 u1 u0 u2 x2 u7 u8 u9 v0 v1 v2 x3 u3),(kP v7)⟩ {} [] ?_
    refine aQ ?_
    refine bI h (fun hb3 h=> ?_) (fun hb3 h=> ?_)
    ·refine ct hb3 ?_
     refine aP (aQ (aB (aQ (aO h fun a1 h=> ?_))))
     refine rg tT ⟨(aej x1 u1 u0 u2 x2 u7 u8 u9 v0 v1 v2 x3 u3),(kP v7)⟩ [_] {fr:=[(3,21)] } [21] ⟨a1,trivial⟩ ?_
     refine aQ (bE h fun u5 hr_2 h=> ?_)
     refine bI h (fun hb2 h=> ?_) (fun hb2 h=> ?_)
     ·skip
      refine bE h fun v9 hr_3 h=> ?_
      refine aO h fun⟨a1,a2⟩ h=> ?_
      have q0:=eP (⟨x1,u1,u0,u2⟩:au) (⟨x2,u7,u8,u9,v0,v1,v2⟩:ay) u3 hr_2
      refine di tT mX (adM x1 u1 u0 u2 x2 u7 u8 u9 v0 v1 v2 x3 u3 u5 v9) (_::(eqs u5 4 ((ahK u0 x3 u3 u5)::(eqs u5 5 ((adB u0 x3 u3 u5)::(eqs u5 3 [(tu u0 x3 u3 u5)=true,(tu u0 x3 u3 u5)=true,(tu u0 x3 u3 u5)=true,(tu u0 x3 u3 u5)=true,(tu u0 x3 u3 u5)=true,(tu u0 x3 u3 u5)=true,gP (TF u5) [(17,true)]→All [Yl Try.prog 0 [(.agg [(cI 3),(cI u3)]),(sI ((at' u0 u3.toNat).most))] (kP v7) (vB true) (kP v9)],gP (TF u5) [(17,true)],(tu u0 x3 u3 u5)=true,(tu u0 x3 u3 u5)=true])))))) {yb:=[(4,u5),(17,true)],an:=[(3,cA q0 []),(23, .call [0,1] (vB true) (kP v9))] } [] ⟨q0,(ae ⟨(fun hg=> ⟨(a1 (bD hg)),trivial⟩),(ae ⟨(fun hg=> ⟨(a2 (bD hg)),trivial⟩),(ae ⟨(hb2),(hb2),(hb2),(hb2),(hb2),(hb2),(fun hg=> ⟨(jW 3 u3 ((at' u0 u3.toNat).most) v7 hr_3),trivial⟩),(⟨rfl,trivial⟩),(hb2),(hb2),trivial⟩)⟩)⟩)⟩ (bZ.le (st':=(ae5 x1 u1 u0 u2 x2 u7 u8 u9 v0 v1 v2 x3 u3 v9)) ⟨⟨tR,tR,tR,tR,tR,tR,tR,⟨_,rfl,dY.v (eX.one (eD.of (congrArg (fun b=>CV.d (.bool b)) (CJ hb2))))⟩,trivial⟩,(.refl _)⟩) ?_
      refine cn (aP (rz tT (ae3 x1 u1 u0 u2 x2 u7 u8 u9 v0 v1 v2 x3 u3 v9) {} [] ?_))
      obtain rfl:=oi h
      exact lN
     ·skip
      refine aO h fun⟨a1,a2⟩ h=> ?_
      have q0:=eP (⟨x1,u1,u0,u2⟩:au) (⟨x2,u7,u8,u9,v0,v1,v2⟩:ay) u3 hr_2
      refine di tT mX (adM x1 u1 u0 u2 x2 u7 u8 u9 v0 v1 v2 x3 u3 u5 v7) (_::(aeB u0 x3 u3 u5)) {yb:=[(4,u5),(17,false)],an:=[(3,cA q0 []),(18, .skip),(19, .skip),(20, .skip),(21, .skip),(22, .skip),(23, .skip),(24, .skip)] } [] ⟨q0,(ae ⟨(fun hg=> ⟨(a1 (bD hg)),trivial⟩),(ae ⟨(fun hg=> ⟨(a2 (bD hg)),trivial⟩),(ae ⟨(hb2),((fun h=>Bool.noConfusion (show false=true from h.1))),(hb2),((fun h=>Bool.noConfusion (show false=true from h.1))),(hb2),((fun h=>Bool.noConfusion (show false=true from h.1))),(hb2),((fun h=>Bool.noConfusion (show false=true from h.1))),(hb2),((fun h=>Bool.noConfusion (show false=true from h.1))),(hb2),((fun h=>Bool.noConfusion (show false=true from h.1))),(hb2),((fun h=>Bool.noConfusion (show false=true from h.1))),(hb2),trivial⟩)⟩)⟩)⟩ (bZ.le (st':=(ae5 x1 u1 u0 u2 x2 u7 u8 u9 v0 v1 v2 x3 u3 v7)) ⟨⟨tR,tR,tR,tR,tR,tR,tR,⟨_,rfl,dY.v (eX.one (eD.of (congrArg (fun b=>CV.d (.bool b)) (Ct hb2))))⟩,trivial⟩,(.refl _)⟩) ?_
      refine cn (aP (rz tT (ae3 x1 u1 u0 u2 x2 u7 u8 u9 v0 v1 v2 x3 u3 v7) {} [] ?_))
      obtain rfl:=oi h
      exact lN
    ·refine cf hb3 ?_
     refine aI (fz (afJ x1 u1 u0 u2 x3 v7) []) ?_
     refine aX ?_
     obtain rfl:=oi h
     exact lB
   ·clear hy
    cases y1 with
    |brk z=>
     obtain⟨w2,rfl⟩: ∃q,q=z:=⟨_,rfl⟩
     unfold fT
     refine⟨_, .refl, ?_⟩
     refine sz tT ⟨(ahF u2 x3),(kP w2)⟩ {} [] ?_
     refine bE h fun y2 hy h=> ?_
     refine aL [] (qb u2 x3) pO dR hy (fun s f h=> ?_) ?_
     ·clear hy
      show bW _ _ _ _ _ _ ((Ba u2 x3) f) _
      unfold qp at h
      obtain⟨v5,u6⟩:=s
      refine sz tT ⟨(adw u2 x3 u6),(kP v5)⟩ {} [] ?_
      refine aQ ?_
      refine bI h (fun hb5 h=> ?_) (fun hb5 h=> ?_)
      ·refine ct hb5 ?_
       refine aP (aQ (aB (aQ (aO h fun a1 h=> ?_))))
       refine rg tT ⟨(ae6 u2 x3 u6),(kP v5)⟩ [_] {fr:=[(3,25)] } [25] ⟨a1,trivial⟩ ?_
       refine aQ (bE h fun v3 hr_4 h=> ?_)
       refine rg tT ⟨(afc u2 x3 u6 v3),(kP v5)⟩ [Fn Try.prog 67 [(sD (.sl (some true) 1 [(Lj u2 u6).e0,(Lj u2 u6).e1].length (fun i j=>((aaw u2 u6).getD (0+(0+(i*1+j))) .nilp)))),(sD (.fn 125 1 (UD x3)))] [] (vB v3) []] {an:=[(3, .call [] (vB v3) [])] } [] ⟨(Fn.leH (args:=(aeX u2 x3 u6)) (hin:=[]) (kI [(Lj u2 u6).e0,(Lj u2 u6).e1] x3 hr_4) ⟨eX.one (eD.d (gX.sl (.inl rfl) (by intro i hi j hj;match i,j,hi,hj with|0,0,_,_=>exact .refl _|1,0,_,_=>exact .refl _))),eX.refl _,trivial⟩ trivial),trivial⟩ ?_
       refine aQ ?_
       refine bI h (fun hb4 h=> ?_) (fun hb4 h=> ?_)
       ·skip
        refine bE h fun w0 hr_5 h=> ?_
        refine ri tT (ahr u2 x3 u6 v3 w0) [v3=true,v3=true,v3=true,v3=true,v3=true,v3=true,gP (jq [(1,true)]) [(1,true)]→All [Yl Try.prog 0 [(.agg [(cI 0),(cI u6)]),(sI ((at' u2 u6.toNat).cK))] (kP v5) (vB true) (kP w0)],gP (jq [(1,true)]) [(1,true)],v3=true,v3=true] {yb:=[(1,true)],an:=[(7, .call [0,1] (vB true) (kP w0))] } [] ⟨(hb4),(hb4),(hb4),(hb4),(hb4),(hb4),(fun hg=> ⟨(jW 0 u6 ((at' u2 u6.toNat).cK) v5 hr_5),trivial⟩),(⟨rfl,trivial⟩),(hb4),(hb4),trivial⟩ (bZ.le (st':=(ahI u2 x3 u6 w0)) ⟨⟨tR,tR,tR,tR,tR,⟨_,rfl,dY.v (eX.one (eD.of (congrArg (fun b=>CV.d (.bool b)) (CJ hb4))))⟩,trivial⟩,(.refl _)⟩) ?_
        refine cn (aP (rz tT (adN u2 x3 u6 w0) {} [] ?_))
        obtain rfl:=oi h
        exact lN
       ·skip
        refine ri tT (ahr u2 x3 u6 v3 v5) [v3=false, ¬ gP (jq [(1,false)]) [(1,true)],v3=false, ¬ gP (jq [(1,false)]) [(1,true)],v3=false, ¬ gP (jq [(1,false)]) [(1,true)],v3=false, ¬ gP (jq [(1,false)]) [(1,true)],v3=false, ¬ gP (jq [(1,false)]) [(1,true)],v3=false, ¬ gP (jq [(1,false)]) [(1,true)],v3=false, ¬ gP (jq [(1,false)]) [(1,true)],v3=false] {yb:=[(1,false)],an:=[(2, .skip),(3, .skip),(4, .skip),(5, .skip),(6, .skip),(7, .skip),(8, .skip)] } [] ⟨(hb4),((fun h=>Bool.noConfusion (show false=true from h.1))),(hb4),((fun h=>Bool.noConfusion (show false=true from h.1))),(hb4),((fun h=>Bool.noConfusion (show false=true from h.1))),(hb4),((fun h=>Bool.noConfusion (show false=true from h.1))),(hb4),((fun h=>Bool.noConfusion (show false=true from h.1))),(hb4),((fun h=>Bool.noConfusion (show false=true from h.1))),(hb4),((fun h=>Bool.noConfusion (show false=true from h.1))),(hb4),trivial⟩ (bZ.le (st':=(ahI u2 x3 u6 v5)) ⟨⟨tR,tR,tR,tR,tR,⟨_,rfl,dY.v (eX.one (eD.of (congrArg (fun b=>CV.d (.bool b)) (Ct hb4))))⟩,trivial⟩,(.refl _)⟩) ?_
        refine cn (aP (rz tT (adN u2 x3 u6 v5) {} [] ?_))
        obtain rfl:=oi h
        exact lN
      ·refine cf hb5 ?_
       refine aI (fz ⟨[],(kP v5)⟩ []) ?_
       refine aX ?_
       obtain rfl:=oi h
       exact lB
     ·clear hy
      cases y2 with
      |brk z=>
       obtain⟨o1105,rfl⟩: ∃q,q=z:=⟨_,rfl⟩
       unfold fT
       refine⟨_, .refl, ?_⟩
       obtain rfl:=oi h
       exact bR.mk (.inl rfl) (p:=[]) (l:=[]) (by kernel_rfl) trivial (dY.refl _) (.refl _)
      |ret v=>
       obtain rfl:=oi h
       unfold fT
       intro e st hn ha hR
       cases e with
       |normal=>exact absurd rfl hn
       |exit id=>exact hR
       |goto l=>exact hR
       |ret=>exact hR
       |panic c=>exact hR
       |outgrown=>exact hR
    |ret v=>
     obtain rfl:=oi h
     unfold fT
     intro e st hn ha hR
     cases e with
     |normal=>exact absurd rfl hn
     |exit id=>exact hR
     |goto l=>exact hR
     |ret=>exact hR
     |panic c=>exact hR
     |outgrown=>exact hR
  |ret v=>
   obtain rfl:=oi h
   unfold fT
   intro e st hn ha hR
   cases e with
   |normal=>exact absurd rfl hn
   |exit id=>exact hR
   |goto l=>exact hR
   |ret=>exact hR
   |panic c=>exact hR
   |outgrown=>exact hR
def qf  :(Int × Int)→Exit→St→Prop:=
  fun r=>bR TT [.tmp 6, .tmp 7] (.iG [(sI r.1),(sI r.2)]) []
section
variable (u0:(List Bool))
abbrev KP:Nat × TV:=(2,(vD (bg none 1 aD u0)))
abbrev Uv:Nat × TV:=(25,(vD (bg none 1 aD u0)))
abbrev UG:Nat × TV:=(26,(vI (u0.length:Int)))
end
def xA (p:au) (s_:ay) (u0:(List Bool)):Int→St:=
  fun u1=> ⟨[(KP u0),(dw p),(bB s_),(Uv u0),(UG u0),(27,(vI u1))],[]⟩
section
variable (u0:(List Bool)) (p:au) (s_:ay)
abbrev aaX:St:=⟨[(KP u0),(dw p),(bB s_)],[]⟩
end
def wY (p:au) (s_:ay) (u0:(List Bool)):Unit→St:=
  fun _=>(aaX u0 p s_)
def EH (p:au) (s_:ay) (u0:(List Bool)):(bn Int (Ex Unit (Int × Int)))→Exit→St→Prop:=
  LQ 0 [] (xA p s_ u0) (wY p s_ u0) qf
section
variable (u0:(Int × (List aj) × (List aM) × (List aK) × (List Bool) × (List Bool) × (List Bool) × (List Bool) × (List Bool) × (List Bool) × (List Bool) × (List Bool)))
abbrev agr:List (Nat × TV):=[(11,(vP 6 0)),(44,(Ya u0))]
end
theorem wN (p:au) (s_:ay) (u1:(List Bool)) {r:(Int × Int)} (h:oL p s_ u1=some r):Fn Try.prog 45 (adX p s_ u1) [] (.iG [(sI r.1),(sI r.2)]) []:=by
 refine fN tT Try.func45 rfl rfl fun B=> ?_
 show bW _ _ _ _ _ _ (qf r) _
 unfold oL at h
 refine sz tT (aaX u1 p s_) {fr:=[(0,4),(1,5)] } [4,5] ?_
 refine aQ (aQ (bE h fun r_ hr_ h=> ?_))
 have q0:=dU p s_ hr_
 refine rg tT ⟨[(KP u1),(dw p),(bB s_),(8,(vI r_))],[]⟩ [_] {an:=[(2,cA q0 [])] } [] ⟨q0,trivial⟩ ?_
 refine sz tT ⟨[(KP u1),(dw p),(bB s_),(8,(vI r_)),(18,(vB (!decide (r_=0))))],[]⟩ {} [] ?_
 refine bI h (fun hb3 h=> ?_) (fun hb3 h=> ?_)
 ·refine ct hb3 ?_
  refine sz tT ⟨[(6,(vI 0)),(7,(vI r_))],[]⟩ {} [] ?_
  refine aR ?_
  obtain rfl:=oi h
  exact rl [(sI 0),(sI r_)]
 ·refine cf hb3 ?_
  refine aP (aQ (sz tT ⟨[(KP u1),(dw p),(bB s_),(24,(vB (!decide ((u1.length:Int)=p.ax))))],[]⟩ {} [] ?_))
  refine bI h (fun hb2 h=> ?_) (fun hb2 h=> ?_)
  ·refine ct hb2 ?_
   refine sz tT ⟨[(6,(vI 0)),(7,(vI 1))],[]⟩ {} [] ?_
   refine aR ?_
   obtain rfl:=oi h
   exact rl [(sI 0),(sI 1)]
  ·refine cf hb2 ?_
   refine aP (aQ (sz tT ⟨[(KP u1),(dw p),(bB s_),(Uv u1),(UG u1),(27,(vI 0))],[]⟩ {} [] ?_))
   refine bE h fun y hy h=> ?_
   refine aL [] (xA p s_ u1) (wY p s_ u1) qf hy (fun s f h=> ?_) ?_
   ·clear hy
    show bW _ _ _ _ _ _ ((EH p s_ u1) f) _
    unfold vQ at h
    obtain⟨u2,rfl⟩: ∃q,q=s:=⟨_,rfl⟩
    refine sz tT ⟨[(KP u1),(dw p),(bB s_),(Uv u1),(UG u1),(27,(vI u2)),(28,(vB (decide (u2<(u1.length:Int)))))],[]⟩ {} [] ?_
    refine aQ ?_
    refine bI h (fun hb1 h=> ?_) (fun hb1 h=> ?_)
    ·refine ct hb1 ?_
     refine aP (aQ (aB (aQ (aO h fun a1 h=> ?_))))
     refine rg tT ⟨[(KP u1),(dw p),(bB s_),(9,(vI u2)),(10,(vB (at' u1 u2.toNat))),(Uv u1),(UG u1),(27,(vI u2))],[]⟩ [_] {} [] ⟨a1,trivial⟩ ?_
     refine aQ (aO h fun a1 h=> ?_)
     refine rg tT ⟨[(KP u1),(dw p),(bB s_),(Uv u1),(UG u1),(27,(vI u2)),(39,(vB (bif (at' u1 u2.toNat)then(at' s_.aG u2.toNat)else false)))],[]⟩ (eqs (at' u1 u2.toNat) 4 ((gP (jq [(1,(at' u1 u2.toNat))]) [(1,true)]→All [(0:Int)≤u2∧u2<(s_.aG.length:Int)])::(eqs (at' u1 u2.toNat) 2 []))) {yb:=[(1,(at' u1 u2.toNat))] } [] (ae ⟨(fun hg=> ⟨(a1 (bD hg)),trivial⟩),(ae trivial)⟩) ?_
     refine bI h (fun hb h=> ?_) (fun hb h=> ?_)
     ·refine ct hb ?_
      refine sz tT ⟨[(6,(vI 0)),(7,(vI 1))],[]⟩ {} [] ?_
      refine aR ?_
      obtain rfl:=oi h
      exact lR dP (dQ 0) dO (bR.mk (.inr rfl) (p:=[]) (l:=[(sI 0),(sI 1)]) (by kernel_rfl) trivial (dY.refl _) trivial)
     ·refine cf hb ?_
      refine aP (rz tT ⟨[(KP u1),(dw p),(bB s_),(Uv u1),(UG u1),(27,(k3 u2))],[]⟩ {} [] ?_)
      obtain rfl:=oi h
      exact lN
    ·refine cf hb1 ?_
     refine aI (fz (aaX u1 p s_) []) ?_
     refine aX ?_
     obtain rfl:=oi h
     exact lB
   ·clear hy
    cases y with
    |brk z=>
     unfold fT
     refine⟨_, .refl, ?_⟩
     refine sz tT ⟨[(KP u1),(dw p),(bB s_),(11,(vP 6 0))],[(6,some (.cells 3 [(cI 0)]))]⟩ {fr:=[(0,6)] } [] ?_
     refine aQ (aQ (bE h fun u0 hr_1 h=> ?_))
     have q0:=yL p s_ u1 hr_1
     refine rg tT ⟨(agr u0),[(6,some (.cells 3 [(cI 0)]))]⟩ [_] {an:=[(3,cA q0 [])] } [] ⟨q0,trivial⟩ ?_
     refine aB (bE h fun u3 hr_2 h=> ?_)
     refine jd 7 [(11,(vP 6 0))] [] [7,6] (.iG []) [(7,some (.loop eG 0 [(11,(vP 6 0))])),(6,some (.cells 3 [(cI u3)]))] (Ya u0) 124 [] (ahe u0) [(7,some (.loop eG 0 [(11,(vP 6 0))])),(6,some (.cells 3 [(cI 0)]))] [(.one (.yl 7)),(sD (YM u0)),(sD (Yk u0)),(sD (Zk u0))] eG 0 [(11,(vP 6 0))] (by kernel_rfl) (by kernel_rfl) (by kernel_rfl) (by kernel_rfl) (by kernel_rfl) (by kernel_rfl) (by kernel_rfl) (rK [(0,7),(1,6)] (AY u0.1 u0.2.1 u0.2.2.1 u0.2.2.2.1 u0.2.2.2.2.1 u0.2.2.2.2.2.1 u0.2.2.2.2.2.2.1 u0.2.2.2.2.2.2.2.1 u0.2.2.2.2.2.2.2.2.1 u0.2.2.2.2.2.2.2.2.2.1 u0.2.2.2.2.2.2.2.2.2.2.1 u0.2.2.2.2.2.2.2.2.2.2.2 0 hr_2)) (by kernel_rfl) rfl (Dm.zero rfl) (bZ.fin (st':=⟨(agr u0),[(6,some (.cells 3 [(cI u3)]))]⟩) (cs:=[]) ⟨[],[(6,6)]⟩ [11,44] (by kernel_rfl) trivial) ?_
     refine sz tT ⟨[(6,(vI u3)),(7,(vI 0))],[]⟩ {} [] ?_
     refine aR ?_
     obtain rfl:=oi h
     exact rl [(sI u3),(sI 0)]
    |ret v=>
     obtain rfl:=oi h
     unfold fT
     intro e st hn ha hR
     cases e with
     |normal=>exact absurd rfl hn
     |exit id=>exact hR
     |goto l=>exact hR
     |ret=>exact hR
     |panic c=>exact hR
     |outgrown=>exact hR
abbrev aay:Ob:=(.cells 186 [(.d (.fn 128 0 (mM []))),(.d (.fn 129 0 (mM []))),(.d (.fn 130 0 (mM [])))])
abbrev aa3:List (Nat × Option Ob):=[(0,some aay)]
def FZ  :Unit→Exit→St→Prop:=
  fun _=>bR TT [.tmp 0] (vO 0 true 3) aa3
theorem ET  {r:Unit} (h:Bb=some r):Fn Try.prog 91 [] [] (vO 0 true 3) aa3:=by
 refine fN tT Try.func91 rfl rfl fun B=> ?_
 show bW _ _ _ _ _ _ (FZ r) _
 unfold Bb at h
 refine sz tT ⟨[],[]⟩ {} [] ?_
 refine sz tT ⟨[(0,(vO 1 true 3))],[(1,some aay)]⟩ {an:=[(3, .cells)],fr:=[(3,1)] } [] ?_
 refine aI (bZ.fin (st':=⟨[(0,(vO 0 true 3))],aa3⟩) (cs:=[]) ⟨[],[(1,0)]⟩ [0] (by kernel_rfl) trivial) ?_
 refine aR ?_
 obtain rfl:=oi h
 exact rl [(.one (.own 0 true 3))]
def kg  :Bool→Exit→St→Prop:=
  fun r=>bR TT [.tmp 6] (vB r) []
section
variable (x:aS)
abbrev ad6:TV:=(vD (kK [(bg none 1 (aC .i64) x.ai),(bg none 1 (aC .i64) x.af),(bg none 2 ah.cell x.aF)] 0))
abbrev vv:Nat × TV:=(5,(ad6 x))
abbrev Uh:Nat × TV:=(12,(vD (bg none 1 (aC .i64) x.ai)))
abbrev Uo:Nat × TV:=(13,(vI (x.ai.length:Int)))
end
def xX (p:au) (s_:ay) (x:aS):Int→St:=
  fun u0=> ⟨[(dw p),(bB s_),(vv x),(Uh x),(Uo x),(14,(vI u0))],[]⟩
section
variable (p:au) (s_:ay) (x:aS)
abbrev XM:St:=⟨[(dw p),(bB s_),(vv x)],[]⟩
end
def yI (p:au) (s_:ay) (x:aS):Unit→St:=
  fun _=>(XM p s_ x)
def GK (p:au) (s_:ay) (x:aS):(bn Int (Ex Unit Bool))→Exit→St→Prop:=
  LQ 0 [] (xX p s_ x) (yI p s_ x) kg
section
variable (x:aS)
abbrev Tw:Nat × TV:=(44,(vD (bg none 1 (aC .i64) x.af)))
abbrev Ue:Nat × TV:=(45,(vI (x.af.length:Int)))
end
def yo (p:au) (s_:ay) (x:aS):Int→St:=
  fun u0=> ⟨[(dw p),(bB s_),(Tw x),(Ue x),(46,(vI u0))],[]⟩
def yS  :Unit→St:=
  fun _=> ⟨[],[]⟩
def FO (p:au) (s_:ay) (x:aS):(bn Int (Ex Unit Bool))→Exit→St→Prop:=
  LQ 2 [] (yo p s_ x) yS kg
section
variable (p:au) (s_:ay) (x:aS) (u1:Int) (u0:Int)
abbrev Zg:List SV:=[(.agg (k5 p)),(.agg (Yu s_)),(.agg (Zo x))]
abbrev WM:=(decide ((at' x.ai u1.toNat)<0))
abbrev Qu:=(bif (WM x u1)then true else(decide (((at' p.ai u1.toNat).cK)<(at' x.ai u1.toNat))))
abbrev Qx:=(decide (0<(at' x.ai u1.toNat)))
abbrev abU:=(jq [(2,(WM x u1)),(12,(Qu p x u1)),(15,(Qx x u1))])
abbrev XO:Nat × TV:=(14,(k3 u1))
abbrev XG:=(decide ((at' x.af u0.toNat)<(IntKind.wrap .i64 (0 - (R9 p u0)))))
abbrev Qr:=(bif (XG p x u0)then true else(decide ((R9 p u0)<(at' x.af u0.toNat))))
abbrev OL:=(!decide ((at' x.af u0.toNat)=0))
abbrev aa7:=(jq [(9,(XG p x u0)),(19,(Qr p x u0)),(22,(OL x u0))])
end
theorem Gf (p:au) (s_:ay) (x:aS) {r:Bool} (h:wB p s_ x=some r):Fn Try.prog 128 (Zg p s_ x) [] (vB r) []:=by
 refine fN tT Try.func128 rfl rfl fun B=> ?_
 show bW _ _ _ _ _ _ (kg r) _
 unfold wB at h
 refine sz tT (XM p s_ x) {fr:=[(0,3),(1,4),(2,5)] } [3,4,5] ?_
 refine aQ (sz tT ⟨[(dw p),(bB s_),(vv x),(Uh x),(Uo x),(14,(vI 0))],[]⟩ {} [] ?_)
 refine bE h fun y hy h=> ?_
 refine aL [] (xX p s_ x) (yI p s_ x) kg hy (fun s f h=> ?_) ?_
 ·clear hy
  show bW _ _ _ _ _ _ ((GK p s_ x) f) _
  unfold yJ at h
  obtain⟨u1,rfl⟩: ∃q,q=s:=⟨_,rfl⟩
  refine sz tT ⟨[(dw p),(bB s_),(vv x),(Uh x),(Uo x),(14,(vI u1)),(15,(vB (decide (u1<(x.ai.length:Int)))))],[]⟩ {} [] ?_
  refine aQ ?_
  refine bI h (fun hb1 h=> ?_) (fun hb1 h=> ?_)
  ·refine ct hb1 ?_
   refine aP (aQ (aB (aQ (aO h fun a1 h=> ?_))))
   refine rg tT ⟨[(dw p),(bB s_),(vv x),(7,(vI u1)),(8,(vI (at' x.ai u1.toNat))),(Uh x),(Uo x),(14,(vI u1))],[]⟩ [_] {} [] ⟨a1,trivial⟩ ?_
   refine aQ (bE h fun r_ hr_ h=> ?_)
   refine aO h fun a1 h=> ?_
   refine rg tT ⟨[(dw p),(bB s_),(vv x),(Uh x),(Uo x),(14,(vI u1)),(41,(vB (bif (Qu p x u1)then true else(bif (Qx x u1)then(!r_)else false))))],[]⟩ (eqs (WM x u1) 5 ((gP (abU p x u1) [(2,false)]→All [(0:Int)≤u1∧u1<(p.ai.length:Int)])::(eqs (WM x u1) 4 (eqs (Qu p x u1) 3 (eqs (Qx x u1) 4 [gP (abU p x u1) [(15,true),(12,false)]→All [Fn Try.prog 65 (OX p s_ u1) [] (vB r_) []],(Qx x u1)=(Qx x u1),(Qu p x u1)=(Qu p x u1),gP (abU p x u1) [(12,false)]→All [(Qx x u1)=(Qx x u1)],(Qu p x u1)=(Qu p x u1)]))))) {yb:=[(2,(WM x u1)),(12,(Qu p x u1)),(15,(Qx x u1))],an:=[(19, .call [] (vB r_) [])] } [] (ae ⟨(fun hg=> ⟨(a1 (bD hg)),trivial⟩),(ae (ae (ae ⟨(fun hg=> ⟨(gJ p s_ u1 (iw hr_ (bD hg))),trivial⟩),rfl,rfl,(fun hg=> ⟨rfl,trivial⟩),rfl,trivial⟩)))⟩) ?_
   refine bI h (fun hb h=> ?_) (fun hb h=> ?_)
   ·refine ct hb ?_
    refine sz tT ⟨[(6,(vB false))],[]⟩ {} [] ?_
    refine aR ?_
    obtain rfl:=oi h
    exact lR dP (dQ 0) dO (bR.mk (.inr rfl) (p:=[]) (l:=[(sB false)]) (by kernel_rfl) trivial (dY.refl _) trivial)
   ·refine cf hb ?_
    refine aP (rz tT ⟨[(dw p),(bB s_),(vv x),(Uh x),(Uo x),(XO u1)],[]⟩ {} [] ?_)
    obtain rfl:=oi h
    exact lN
  ·refine cf hb1 ?_
   refine aI (fz (XM p s_ x) []) ?_
   refine aX ?_
   obtain rfl:=oi h
   exact lB
 ·clear hy
  cases y with
  |brk z=>
   unfold fT
   refine⟨_, .refl, ?_⟩
   refine aQ (sz tT ⟨[(dw p),(bB s_),(Tw x),(Ue x),(46,(vI 0))],[]⟩ {} [] ?_)
   refine bE h fun y1 hy h=> ?_
   refine aL [] (yo p s_ x) yS kg hy (fun s f h=> ?_) ?_
   ·clear hy
    show bW _ _ _ _ _ _ ((FO p s_ x) f) _
    unfold yE at h
    obtain⟨u0,rfl⟩: ∃q,q=s:=⟨_,rfl⟩
    refine sz tT ⟨[(dw p),(bB s_),(Tw x),(Ue x),(46,(vI u0)),(47,(vB (decide (u0<(x.af.length:Int)))))],[]⟩ {} [] ?_
    refine aQ ?_
    refine bI h (fun hb3 h=> ?_) (fun hb3 h=> ?_)
    ·refine ct hb3 ?_
     refine aP (aQ (aB (aQ (aO h fun a1 h=> ?_))))
     refine rg tT ⟨[(dw p),(bB s_),(9,(vI u0)),(10,(vI (at' x.af u0.toNat))),(Tw x),(Ue x),(46,(vI u0))],[]⟩ [_] {} [] ⟨a1,trivial⟩ ?_
     refine aQ (bE h fun u2 hr_1 h=> ?_)
     refine aO h fun⟨a1,a2⟩ h=> ?_
     refine rg tT ⟨[(dw p),(bB s_),(Tw x),(Ue x),(46,(vI u0)),(80,(vB (bif (Qr p x u0)then true else(bif (OL x u0)then(!u2)else false))))],[]⟩ (_::(eqs (XG p x u0) 5 ((gP (aa7 p x u0) [(9,false)]→All [(0:Int)≤u0∧u0<(p.af.length:Int)])::(eqs (XG p x u0) 4 (eqs (Qr p x u0) 3 (eqs (OL x u0) 4 [gP (aa7 p x u0) [(22,true),(19,false)]→All [Fn Try.prog 78 (OX p s_ u0) [] (vB u2) []],(OL x u0)=(OL x u0),(Qr p x u0)=(Qr p x u0),gP (aa7 p x u0) [(19,false)]→All [(OL x u0)=(OL x u0)],(Qr p x u0)=(Qr p x u0)])))))) {yb:=[(9,(XG p x u0)),(19,(Qr p x u0)),(22,(OL x u0))],an:=[(26, .call [] (vB u2) [])] } [] ⟨a1,(ae ⟨(fun hg=> ⟨(a2 (bD hg)),trivial⟩),(ae (ae (ae ⟨(fun hg=> ⟨(eP p s_ u0 (iw hr_1 (bD hg))),trivial⟩),rfl,rfl,(fun hg=> ⟨rfl,trivial⟩),rfl,trivial⟩)))⟩)⟩ ?_
     refine bI h (fun hb2 h=> ?_) (fun hb2 h=> ?_)
     ·refine ct hb2 ?_
      refine sz tT ⟨[(6,(vB false))],[]⟩ {} [] ?_
      refine aR ?_
      obtain rfl:=oi h
      exact lR dP (dQ 2) dO (bR.mk (.inr rfl) (p:=[]) (l:=[(sB false)]) (by kernel_rfl) trivial (dY.refl _) trivial)
     ·refine cf hb2 ?_
      refine aP (rz tT ⟨[(dw p),(bB s_),(Tw x),(Ue x),(46,(k3 u0))],[]⟩ {} [] ?_)
      obtain rfl:=oi h
      exact lN
    ·refine cf hb3 ?_
     refine aI (fz ⟨[],[]⟩ []) ?_
     refine aX ?_
     obtain rfl:=oi h
     exact lB
   ·clear hy
    cases y1 with
    |brk z=>
     unfold fT
     refine⟨_, .refl, ?_⟩
     refine sz tT ⟨[(6,(vB true))],[]⟩ {} [] ?_
     refine aR ?_
     obtain rfl:=oi h
     exact rl [(sB true)]
    |ret v=>
     obtain rfl:=oi h
     unfold fT
     intro e st hn ha hR
     cases e with
     |normal=>exact absurd rfl hn
     |exit id=>exact hR
     |goto l=>exact hR
     |ret=>exact hR
     |panic c=>exact hR
     |outgrown=>exact hR
  |ret v=>
   obtain rfl:=oi h
   unfold fT
   intro e st hn ha hR
   cases e with
   |normal=>exact absurd rfl hn
   |exit id=>exact hR
   |goto l=>exact hR
   |ret=>exact hR
   |panic c=>exact hR
   |outgrown=>exact hR
def vZ  :Bool→Exit→St→Prop:=
  fun r=>bR TT [.tmp 6] (vB r) []
section
variable (x:aS)
abbrev Dq:Nat × TV:=(12,(vD (bg none 2 ah.cell x.aF)))
abbrev D8:Nat × TV:=(13,(vI (x.aF.length:Int)))
end
def Bf (p:au) (s_:ay) (x:aS):Int→St:=
  fun u0=> ⟨[(dw p),(bB s_),(Dq x),(D8 x),(14,(vI u0))],[]⟩
def BD  :Unit→St:=
  fun _=> ⟨[],[]⟩
def sZ (p:au) (s_:ay) (x:aS):(bn Int (Ex Unit Bool))→Exit→St→Prop:=
  LQ 0 [] (Bf p s_ x) BD vZ
section
variable (x:aS) (u0:Int)
abbrev Kv:Nat × TV:=(8,(acH x u0))
abbrev ac2:List CV:=[(cI ((at' x.aF u0.toNat).e0)),(cI ((at' x.aF u0.toNat).e1))]
abbrev LB:Nat × TV:=(19,(.v (.agg (ac2 x u0))))
end
def Bh (p:au) (s_:ay) (x:aS) (u0:Int):Int→St:=
  fun u1=> ⟨[(dw p),(bB s_),(7,(vI u0)),(Kv x u0),(Dq x),(D8 x),(14,(vI u0)),(LB x u0),(20,(vI u1))],[]⟩
section
variable (p:au) (s_:ay) (u0:Int) (x:aS)
abbrev abn:St:=⟨[(dw p),(bB s_),(7,(vI u0)),(Kv x u0),(Dq x),(D8 x),(14,(vI u0))],[]⟩
end
def BA (p:au) (s_:ay) (x:aS) (u0:Int):Unit→St:=
  fun _=>(abn p s_ u0 x)
def I8 (p:au) (s_:ay) (x:aS) (u0:Int):(bn Int (Ex Unit (bn Int (Ex Unit Bool))))→Exit→St→Prop:=
  LQ 2 [1] (Bh p s_ x u0) (BA p s_ x u0) (sZ p s_ x)
section
variable (x:aS) (u0:Int) (u1:Int) (p:au) (r_:Bool)
abbrev Tn:=(at' [(at' x.aF u0.toNat).e0,(at' x.aF u0.toNat).e1] u1.toNat)
abbrev ab7:Nat × TV:=(10,(vI (Tn x u0 u1)))
abbrev OE:=(decide ((Tn x u0 u1)<0))
abbrev Fy:=(bif (OE x u0 u1)then true else(decide (((at' p.aF u0.toNat).cK)<(Tn x u0 u1))))
abbrev BV:=(decide (0<(Tn x u0 u1)))
abbrev ag0:Nat × TV:=(52,(vB (bif (Fy x u0 u1 p)then true else(bif (BV x u0 u1)then(!r_)else false))))
abbrev Qy:=(jq [(2,(OE x u0 u1)),(12,(Fy x u0 u1 p)),(15,(BV x u0 u1))])
abbrev air:=(gP (Qy x u0 u1 p) [(2,false)]→All [(0:Int)≤u0∧u0<(p.aF.length:Int)])
abbrev adn:=(gP (Qy x u0 u1 p) [(15,true),(12,false)]→All [(0:Int)≤u0∧u0<(p.aF.length:Int)])
end
theorem Jg (p:au) (s_:ay) (x:aS) {r:Bool} (h:A7 p s_ x=some r):Fn Try.prog 129 (Zg p s_ x) [] (vB r) []:=by
 refine fN tT Try.func129 rfl rfl fun B=> ?_
 show bW _ _ _ _ _ _ (vZ r) _
 unfold A7 at h
 refine sz tT ⟨[(dw p),(bB s_),(5,(vP 9 0))],[(9,some (aa9 x))]⟩ {fr:=[(0,7),(1,8),(2,9)] } [7,8] ?_
 refine aQ (sz tT ⟨[(dw p),(bB s_),(Dq x),(D8 x),(14,(vI 0))],[]⟩ {} [] ?_)
 refine bE h fun y1 hy h=> ?_
 refine aL [] (Bf p s_ x) BD vZ hy (fun s f h=> ?_) ?_
 ·clear hy
  show bW _ _ _ _ _ _ ((sZ p s_ x) f) _
  unfold Bl at h
  obtain⟨u0,rfl⟩: ∃q,q=s:=⟨_,rfl⟩
  refine sz tT ⟨[(dw p),(bB s_),(Dq x),(D8 x),(14,(vI u0)),(15,(vB (decide (u0<(x.aF.length:Int)))))],[]⟩ {} [] ?_
  refine aQ ?_
  refine bI h (fun hb6 h=> ?_) (fun hb6 h=> ?_)
  ·refine ct hb6 ?_
   refine aP (aQ (aB (aQ (aO h fun a1 h=> ?_))))
   refine rg tT (abn p s_ u0 x) [_] {fr:=[(3,13)] } [13] ⟨a1,trivial⟩ ?_
   refine aQ (sz tT ⟨[(dw p),(bB s_),(7,(vI u0)),(Kv x u0),(Dq x),(D8 x),(14,(vI u0)),(LB x u0),(20,(vI 0))],[]⟩ {} [] ?_)
   refine bE h fun y hy h=> ?_
   refine aL [1] (Bh p s_ x u0) (BA p s_ x u0) (sZ p s_ x) hy (fun s f h=> ?_) ?_
   ·clear hy
    show bW _ _ _ _ _ _ ((I8 p s_ x u0) f) _
    unfold Br at h
    obtain⟨u1,rfl⟩: ∃q,q=s:=⟨_,rfl⟩
    refine sz tT ⟨[(dw p),(bB s_),(7,(vI u0)),(Kv x u0),(Dq x),(D8 x),(14,(vI u0)),(LB x u0),(20,(vI u1)),(21,(vB (decide (u1<2))))],[]⟩ {} [] ?_
    refine aQ ?_
    refine bI h (fun hb4 h=> ?_) (fun hb4 h=> ?_)
    ·refine ct hb4 ?_
     refine aP (aQ (aB (aQ (aO h fun a1 h=> ?_))))
     refine rg tT ⟨[(dw p),(bB s_),(7,(vI u0)),(Kv x u0),(9,(vI u1)),(ab7 x u0 u1),(Dq x),(D8 x),(14,(vI u0)),(LB x u0),(20,(vI u1))],[]⟩ [_,u1.toNat*1+1≤(ac2 x u0).length,((ac2 x u0).drop (u1.toNat*1)).take 1=[(.int .i64 (Tn x u0 u1))].map .d] {an:=[(1, .vals [(.int .i64 (Tn x u0 u1))])] } [] ⟨a1,(Wv (n:=2) (sz:=1) (Nat.le_refl _) a1),(Vt (n:=2) (sz:=1) (g:=fun q=>[(cI (at' [(at' x.aF u0.toNat).e0,(at' x.aF u0.toNat).e1] q))]) (by intro q hq;match q,hq with|0,_=>rfl|1,_=>rfl) a1),trivial⟩ ?_
     refine aQ ?_
     refine bI h (fun hb h=> ?_) (fun _ h=> ?_)
     ·skip
      refine aI (bZ.le (st':=⟨[(dw p),(bB s_),(7,(vI u0)),(Kv x u0),(9,(vI 0)),(ab7 x u0 u1),(Dq x),(D8 x),(14,(vI u0)),(LB x u0),(20,(vI 0))],[]⟩) ⟨⟨tR,tR,tR,tR,⟨_,rfl,dY.v (eX.one (eD.of (congrArg (fun n=>CV.d (.int .i64 n)) (of_decide_eq_true hb))))⟩,tR,tR,tR,tR,tR,⟨_,rfl,dY.v (eX.one (eD.of (congrArg (fun n=>CV.d (.int .i64 n)) (of_decide_eq_true hb))))⟩,trivial⟩,trivial⟩) ?_
      refine bE h fun r_ hr_ h=> ?_
      refine aO h fun⟨a1,a2⟩ h=> ?_
      refine dg tT mX ⟨[(dw p),(bB s_),(7,(vI u0)),(Kv x u0),(Dq x),(D8 x),(14,(vI u0)),(LB x u0),(20,(vI 0)),(ag0 x u0 u1 p r_)],[]⟩ (eqs (OE x u0 u1) 5 ((air x u0 u1 p)::(eqs (OE x u0 u1) 4 (eqs (Fy x u0 u1 p) 3 (eqs (BV x u0 u1) 6 ((adn x u0 u1 p)::(eqs (BV x u0 u1) 2 ((gP (Qy x u0 u1 p) [(15,true),(12,false)]→All [(0:Int)≤0∧(0:Int)<(2:Nat)])::(eqs (BV x u0 u1) 2 [gP (Qy x u0 u1 p) [(15,true),(12,false)]→All [Fn Try.prog 79 [(.agg (Yu s_)),(sI ((Jl p u0).e0))] [] (vB r_) []],(BV x u0 u1)=(BV x u0 u1),(Fy x u0 u1 p)=(Fy x u0 u1 p),gP (Qy x u0 u1 p) [(12,false)]→All [(BV x u0 u1)=(BV x u0 u1)],(Fy x u0 u1 p)=(Fy x u0 u1 p)]))))))))) {yb:=[(2,(OE x u0 u1)),(12,(Fy x u0 u1 p)),(15,(BV x u0 u1))],an:=[(25, .call [] (vB r_) [])] } [] (ae ⟨(fun hg=> ⟨(a1 (bD hg)),trivial⟩),(ae (ae (ae ⟨(fun hg=> ⟨(a2 (bD hg)),trivial⟩),(ae ⟨(fun hg=> ⟨((by decide)),trivial⟩),(ae ⟨(fun hg=> ⟨(lX s_ ((Jl p u0).e0) (iw hr_ (bD hg))),trivial⟩),rfl,rfl,(fun hg=> ⟨rfl,trivial⟩),rfl,trivial⟩)⟩)⟩)))⟩) ?_
      refine bI h (fun hb1 h=> ?_) (fun hb1 h=> ?_)
      ·refine ct hb1 ?_
       refine sz tT ⟨[(6,(vB false))],[]⟩ {} [] ?_
       refine aR ?_
       obtain rfl:=oi h
       exact lR dP (dQ 2) dO (lR dP (dQ 0) dO (bR.mk (.inr rfl) (p:=[]) (l:=[(sB false)]) (by kernel_rfl) trivial (dY.refl _) trivial))
      ·refine cf hb1 ?_
       refine aP (rz tT ⟨[(dw p),(bB s_),(7,(vI u0)),(Kv x u0),(Dq x),(D8 x),(14,(vI u0)),(LB x u0),(20,(vI 1))],[]⟩ {} [] ?_)
       obtain rfl:=oi h
       exact lN
     ·skip
      refine aO h fun a1 h=> ?_
      refine aI (bZ.le (st':=⟨[(dw p),(bB s_),(7,(vI u0)),(Kv x u0),(9,(vI 1)),(ab7 x u0 u1),(Dq x),(D8 x),(14,(vI u0)),(LB x u0),(20,(vI 1))],[]⟩) ⟨⟨tR,tR,tR,tR,⟨_,rfl,dY.v (eX.one (eD.of (congrArg (fun n=>CV.d (.int .i64 n)) a1)))⟩,tR,tR,tR,tR,tR,⟨_,rfl,dY.v (eX.one (eD.of (congrArg (fun n=>CV.d (.int .i64 n)) a1)))⟩,trivial⟩,trivial⟩) ?_
      refine bE h fun u2 hr_1 h=> ?_
      refine aO h fun⟨a1,a2⟩ h=> ?_
      refine dg tT mX ⟨[(dw p),(bB s_),(7,(vI u0)),(Kv x u0),(Dq x),(D8 x),(14,(vI u0)),(LB x u0),(20,(vI 1)),(ag0 x u0 u1 p u2)],[]⟩ (eqs (OE x u0 u1) 5 ((air x u0 u1 p)::(eqs (OE x u0 u1) 4 (eqs (Fy x u0 u1 p) 3 (eqs (BV x u0 u1) 6 ((adn x u0 u1 p)::(eqs (BV x u0 u1) 2 ((gP (Qy x u0 u1 p) [(15,true),(12,false)]→All [(0:Int)≤1∧(1:Int)<(2:Nat)])::(eqs (BV x u0 u1) 2 [gP (Qy x u0 u1 p) [(15,true),(12,false)]→All [Fn Try.prog 79 [(.agg (Yu s_)),(sI ((Jl p u0).e1))] [] (vB u2) []],(BV x u0 u1)=(BV x u0 u1),(Fy x u0 u1 p)=(Fy x u0 u1 p),gP (Qy x u0 u1 p) [(12,false)]→All [(BV x u0 u1)=(BV x u0 u1)],(Fy x u0 u1 p)=(Fy x u0 u1 p)]))))))))) {yb:=[(2,(OE x u0 u1)),(12,(Fy x u0 u1 p)),(15,(BV x u0 u1))],an:=[(25, .call [] (vB u2) [])] } [] (ae ⟨(fun hg=> ⟨(a1 (bD hg)),trivial⟩),(ae (ae (ae ⟨(fun hg=> ⟨(a2 (bD hg)),trivial⟩),(ae ⟨(fun hg=> ⟨((by decide)),trivial⟩),(ae ⟨(fun hg=> ⟨(lX s_ ((Jl p u0).e1) (iw hr_1 (bD hg))),trivial⟩),rfl,rfl,(fun hg=> ⟨rfl,trivial⟩),rfl,trivial⟩)⟩)⟩)))⟩) ?_
      refine bI h (fun hb3 h=> ?_) (fun hb3 h=> ?_)
      ·refine ct hb3 ?_
       refine sz tT ⟨[(6,(vB false))],[]⟩ {} [] ?_
       refine aR ?_
       obtain rfl:=oi h
       exact lR dP (dQ 2) dO (lR dP (dQ 0) dO (bR.mk (.inr rfl) (p:=[]) (l:=[(sB false)]) (by kernel_rfl) trivial (dY.refl _) trivial))
      ·refine cf hb3 ?_
       refine aP (rz tT ⟨[(dw p),(bB s_),(7,(vI u0)),(Kv x u0),(Dq x),(D8 x),(14,(vI u0)),(LB x u0),(20,(vI 2))],[]⟩ {} [] ?_)
       obtain rfl:=oi h
       exact lN
    ·refine cf hb4 ?_
     refine aI (fz (abn p s_ u0 x) []) ?_
     refine aX ?_
     obtain rfl:=oi h
     exact lB
   ·clear hy
    cases y with
    |brk z=>
     unfold fT
     refine⟨_, .refl, ?_⟩
     refine aQ (aO h fun a1 h=> ?_)
     refine dg tT mX ⟨[(dw p),(bB s_),(Dq x),(D8 x),(14,(vI u0)),(65,(vB (decide (((at' p.aF u0.toNat).cK)<(IntKind.wrap .i64 (((at' x.aF u0.toNat).e0)+((at' x.aF u0.toNat).e1)))))))],[]⟩ [(0:Int)≤0∧(0:Int)<(2:Nat),(0:Int)≤1∧(1:Int)<(2:Nat),_] {} [] ⟨((by decide)),((by decide)),a1,trivial⟩ ?_
     refine bI h (fun hb5 h=> ?_) (fun hb5 h=> ?_)
     ·refine ct hb5 ?_
      refine sz tT ⟨[(6,(vB false))],[]⟩ {} [] ?_
      refine aR ?_
      obtain rfl:=oi h
      exact lR dP (dQ 0) dO (bR.mk (.inr rfl) (p:=[]) (l:=[(sB false)]) (by kernel_rfl) trivial (dY.refl _) trivial)
     ·refine cf hb5 ?_
      refine aP (rz tT ⟨[(dw p),(bB s_),(Dq x),(D8 x),(XO u0)],[]⟩ {} [] ?_)
      obtain rfl:=oi h
      exact lN
    |ret v=>
     obtain rfl:=oi h
     unfold fT
     intro e st hn ha hR
     cases e with
     |normal=>exact absurd rfl hn
     |exit id=>simp only [qB (b:=1) ha rfl,cond_false];exact hR
     |goto l=>exact hR
     |ret=>exact hR
     |panic c=>exact hR
     |outgrown=>exact hR
  ·refine cf hb6 ?_
   refine aI (fz ⟨[],[]⟩ []) ?_
   refine aX ?_
   obtain rfl:=oi h
   exact lB
 ·clear hy
  cases y1 with
  |brk z=>
   unfold fT
   refine⟨_, .refl, ?_⟩
   refine sz tT ⟨[(6,(vB true))],[]⟩ {} [] ?_
   refine aR ?_
   obtain rfl:=oi h
   exact rl [(sB true)]
  |ret v=>
   obtain rfl:=oi h
   unfold fT
   intro e st hn ha hR
   cases e with
   |normal=>exact absurd rfl hn
   |exit id=>exact hR
   |goto l=>exact hR
   |ret=>exact hR
   |panic c=>exact hR
   |outgrown=>exact hR
def Dn  :Bool→Exit→St→Prop:=
  fun r=>bR TT [.tmp 2] (vB r) []
theorem Cz (n:Int) {r:Bool} (h:qw n=some r):Fn Try.prog 149 [(sI n)] [] (vB r) []:=by
 refine fN tT Try.func149 rfl rfl fun B=> ?_
 show bW _ _ _ _ _ _ (Dn r) _
 unfold qw at h
 refine sz tT ⟨[(0,(vI n))],[]⟩ {} [] ?_
 refine sz tT ⟨[(2,(vB (!decide (n=0))))],[]⟩ {} [] ?_
 refine aR ?_
 obtain rfl:=oi h
 exact rl [(sB (!decide (n=0)))]
section
variable (s_:(List Int))
abbrev wJ:List (Nat × Option Ob):=[(GZ s_)]
end
def iY (s_:(List Int)):Int→Exit→St→Prop:=
  fun r=>bR TT [.tmp 4] (vI r) (wJ s_)
section
variable (s_:(List Int))
abbrev Ec:Nat × TV:=(0,(vO 0 true s_.length))
abbrev Ry:Nat × TV:=(1,(vD (.fn 149 0 (mM []))))
end
def mo (s_:(List Int)):Int→St:=
  fun t8=> ⟨[(Ec s_),Ry,(pG s_),(8,(vI t8))],(wJ s_)⟩
def l8 (s_:(List Int)):Unit→St:=
  fun _=> ⟨[],(wJ s_)⟩
def vo (s_:(List Int)):(bn Int (Ex Unit Int))→Exit→St→Prop:=
  LQ 0 [] (mo s_) (l8 s_) (iY s_)
section
variable (s_:(List Int))
abbrev adZ:St:=⟨[(Ec s_),Ry],(wJ s_)⟩
end
theorem vF (s_:(List Int)) {r:Int} (h:jK s_=some r):Fn Try.prog 113 [(.one (.own 0 true s_.length)),(sD (.fn 149 0 (mM [])))] (wJ s_) (vI r) (wJ s_):=by
 refine fN tT Try.func113 rfl rfl fun B=> ?_
 show bW _ _ _ _ _ _ ((iY s_) r) _
 unfold jK at h
 refine sz tT (adZ s_) {} [] ?_
 refine aQ (sz tT ⟨[(Ec s_),Ry,(pG s_),(8,(vI 0))],(wJ s_)⟩ {} [] ?_)
 refine bE h fun y hy h=> ?_
 refine aL [] (mo s_) (l8 s_) (iY s_) hy (fun s f h=> ?_) ?_
 ·clear hy
  show bW _ _ _ _ _ _ ((vo s_) f) _
  unfold mg at h
  obtain⟨t8,rfl⟩: ∃q,q=s:=⟨_,rfl⟩
  refine sz tT ⟨[(Ec s_),Ry,(pG s_),(8,(vI t8)),(VD t8 s_)],(wJ s_)⟩ {} [] ?_
  refine aQ ?_
  refine bI h (fun hb1 h=> ?_) (fun hb1 h=> ?_)
  ·refine ct hb1 ?_
   refine aP (aQ (aB (sz tT ⟨[(Ec s_),Ry,(5,(vI t8)),(pG s_),(8,(vI t8))],(wJ s_)⟩ {} [] ?_)))
   refine aQ (bE h fun r_ hr_ h=> ?_)
   refine aO h fun a1 h=> ?_
   have q2:=Cz (at' s_ t8.toNat) hr_
   refine rg tT ⟨[(Ec s_),Ry,(5,(vI t8)),(pG s_),(8,(vI t8)),(16,(vB r_))],(wJ s_)⟩ [_,_,_] {an:=[(5,cA q2 [])] } [] ⟨a1,(tL a1),q2,trivial⟩ ?_
   refine bI h (fun hb h=> ?_) (fun hb h=> ?_)
   ·refine ct hb ?_
    refine sz tT ⟨[(4,(vI t8))],(wJ s_)⟩ {} [] ?_
    refine aR ?_
    obtain rfl:=oi h
    exact lR dP (dQ 0) dO (bR.mk (.inr rfl) (p:=[]) (l:=[(sI t8)]) (by kernel_rfl) trivial (dY.refl _) (.refl _))
   ·refine cf hb ?_
    refine aP (rz tT ⟨[(Ec s_),Ry,(pG s_),(ZO t8)],(wJ s_)⟩ {} [] ?_)
    obtain rfl:=oi h
    exact lN
  ·refine cf hb1 ?_
   refine aI (fz ⟨[],(wJ s_)⟩ []) ?_
   refine aX ?_
   obtain rfl:=oi h
   exact lB
 ·clear hy
  cases y with
  |brk z=>
   unfold fT
   refine⟨_, .refl, ?_⟩
   refine sz tT ⟨[(4,(vI (-1)))],(wJ s_)⟩ {} [] ?_
   refine aR ?_
   obtain rfl:=oi h
   exact rl [(sI (-1))]
  |ret v=>
   obtain rfl:=oi h
   unfold fT
   intro e st hn ha hR
   cases e with
   |normal=>exact absurd rfl hn
   |exit id=>exact hR
   |goto l=>exact hR
   |ret=>exact hR
   |panic c=>exact hR
   |outgrown=>exact hR
def sP (s_:(List Int)):Bool→Exit→St→Prop:=
  fun r=>bR TT [.tmp 4] (vB r) (wJ s_)
theorem r9 (s_:(List Int)) {r:Bool} (h:jb s_=some r):Fn Try.prog 67 [(.one (.own 0 true s_.length)),(sD (.fn 149 0 (mM [])))] (wJ s_) (vB r) (wJ s_):=by
 refine fN tT Try.func67 rfl rfl fun B=> ?_
 show bW _ _ _ _ _ _ ((sP s_) r) _
 unfold jb at h
 refine sz tT (adZ s_) {} [] ?_
 refine aQ (bE h fun r_ hr_ h=> ?_)
 have q0:=vF s_ hr_
 refine rg tT ⟨[(4,(vB (decide (0≤r_))))],(wJ s_)⟩ [_] {an:=[(2,cR q0 [0])] } [] ⟨q0,trivial⟩ ?_
 refine aR ?_
 obtain rfl:=oi h
 exact rl [(sB (decide (0≤r_)))]
def gF  :Bool→Exit→St→Prop:=
  fun r=>bR TT [.tmp 6] (vB r) []
section
variable (u0:(List Int)) (x:aS) (u1:Int) (p:au)
abbrev ve:Nat × TV:=(7,(vO 11 true u0.length))
abbrev Uq:Nat × TV:=(20,(vD (bg none 1 (aC .i64) x.ai)))
abbrev UM:Nat × TV:=(21,(vI (x.ai.length:Int)))
abbrev aiy:List (Nat × TV):=[(3,(vP 8 0)),(5,(vP 10 0)),(ve u0),(Uq x),(UM x),(22,(vI u1))]
abbrev M5:Nat × Option Ob:=(8,some (XH p))
abbrev Nj:Nat × Option Ob:=(10,some (aa9 x))
abbrev PW:List (Nat × Option Ob):=[(M5 p),(Nj x),(11,some (Dy u0))]
end
def wT (p:au) (x:aS):((List Int) × Int)→St:=
  fun zz=>match zz with|(u0,u1)=> ⟨(aiy u0 x u1),(PW u0 x p)⟩
section
variable (u0:(List Int)) (p:au) (x:aS)
abbrev Zw:St:=⟨[(3,(vP 8 0)),(5,(vP 10 0)),(ve u0)],(PW u0 x p)⟩
end
def wC (p:au) (x:aS):(List Int)→St:=
  fun u0=>(Zw u0 p x)
def Fp (p:au) (x:aS):(bn ((List Int) × Int) (Ex (List Int) Bool))→Exit→St→Prop:=
  LQ 0 [] (wT p x) (wC p x) gF
section
variable (x:aS)
abbrev Pz:Nat × TV:=(41,(vD (bg none 1 (aC .i64) x.af)))
abbrev Pp:Nat × TV:=(42,(vI (x.af.length:Int)))
end
def wV (p:au) (x:aS):((List Int) × Int)→St:=
  fun zz=>match zz with|(u0,u1)=> ⟨[(3,(vP 8 0)),(5,(vP 10 0)),(ve u0),(Pz x),(Pp x),(43,(vI u1))],(PW u0 x p)⟩
def wG (p:au) (x:aS):(List Int)→St:=
  fun u0=>(Zw u0 p x)
def EA (p:au) (x:aS):(bn ((List Int) × Int) (Ex (List Int) Bool))→Exit→St→Prop:=
  LQ 2 [] (wV p x) (wG p x) gF
section
variable (x:aS) (u0:(List Int)) (p:au) (u1:Int)
abbrev BK:Nat × TV:=(74,(vD (bg none 2 ah.cell x.aF)))
abbrev BP:Nat × TV:=(75,(vI (x.aF.length:Int)))
abbrev Fg:List (Nat × Option Ob):=[(11,some (Dy u0))]
abbrev abj:St:=⟨[(dw p),(ve u0),(BK x),(BP x),(76,(vI u1))],(Fg u0)⟩
end
def xB (p:au) (x:aS):((List Int) × Int)→St:=
  fun zz=>match zz with|(u0,u1)=>(abj x u0 p u1)
def wW  :(List Int)→St:=
  fun u0=> ⟨[(ve u0)],(Fg u0)⟩
def oZ (p:au) (x:aS):(bn ((List Int) × Int) (Ex (List Int) Bool))→Exit→St→Prop:=
  LQ 4 [] (xB p x) wW gF
section
variable (x:aS) (u0:Int) (p:au)
abbrev Gq:Nat × TV:=(13,(acH x u0))
abbrev acf:List CV:=[(cI ((Jl p u0).e0)),(cI ((Jl p u0).e1))]
abbrev G7:Nat × TV:=(86,(.v (.agg (acf u0 p))))
end
def wE (p:au) (x:aS) (u0:Int):((List Int) × Int)→St:=
  fun zz=>match zz with|(u1,u2)=> ⟨[(dw p),(ve u1),(Gq x u0),(BK x),(BP x),(76,(vI u0)),(G7 u0 p),(87,(vI u2))],(Fg u1)⟩
def wI (p:au) (x:aS) (u1:Int):(List Int)→St:=
  fun u0=>(abj x u0 p u1)
def EN (p:au) (x:aS) (u0:Int):(bn ((List Int) × Int) (Ex (List Int) (bn ((List Int) × Int) (Ex (List Int) Bool))))→Exit→St→Prop:=
  LQ 6 [5] (wE p x u0) (wI p x u0) (oZ p x)
section
variable (p:au) (x:aS) (u6:(List Int)) (u5:Int) (u2:(List Int)) (u1:Int) (u7:(List Int)) (u0:Int) (u4:Int) (u3:(List Int))
abbrev QE:=(List.replicate p.ax.toNat (0:Int))
abbrev adr:List (Nat × Option Ob):=[(M5 p),(Nj x),(11,some (dK 3 1 (aC .i64) (QE p)))]
abbrev acJ:=(u6.set (((at' p.ai u5.toNat).bus).toNat) (IntKind.wrap .i64 ((at' u6 (((at' p.ai u5.toNat).bus).toNat))+(at' x.ai u5.toNat))))
abbrev aaQ:=(aN (aC .i64) (acJ p x u6 u5))
abbrev afs:Nat × TV:=(7,(vO 11 true ((acJ p x u6 u5).length)))
abbrev ahl:List (Nat × Option Ob):=[(M5 p),(Nj x),(11,some (dK 3 1 (aC .i64) (acJ p x u6 u5)))]
abbrev agc:List (Nat × TV):=[(3,(vP 8 0)),(5,(vP 10 0)),(ve u2),(10,(vI u1)),(11,(vI (at' x.af u1.toNat))),(Pz x),(Pp x),(43,(vI u1))]
abbrev QX:=(u2.set (((at' p.af u1.toNat).a).toNat) (IntKind.wrap .i64 ((at' u2 (((at' p.af u1.toNat).a).toNat)) - (at' x.af u1.toNat))))
abbrev XR:=(aN (aC .i64) (QX p x u2 u1))
abbrev ag1:Nat × TV:=(7,(vO 11 true ((QX p x u2 u1).length)))
abbrev aip:=(IntKind.wrap .i64 ((at' (QX p x u2 u1) (((at' p.af u1.toNat).b).toNat))+(at' x.af u1.toNat)))
abbrev acY:=((QX p x u2 u1).set (((at' p.af u1.toNat).b).toNat) (aip p x u2 u1))
abbrev abL:=(aN (aC .i64) (acY p x u2 u1))
abbrev afG:Nat × TV:=(7,(vO 11 true ((acY p x u2 u1).length)))
abbrev ae2:List (Nat × Option Ob):=[(M5 p),(Nj x),(11,some (dK 3 1 (aC .i64) (acY p x u2 u1)))]
abbrev ahR:List (Nat × TV):=[(dw p),(ve u7),(Gq x u0),(BK x),(BP x),(76,(vI u0)),(G7 u0 p),(87,(vI 0))]
abbrev Wo:=(at' [(Jl p u0).e0,(Jl p u0).e1] u4.toNat)
abbrev Yn:Nat × TV:=(15,(vI (Wo p u0 u4)))
abbrev aco:Nat × TV:=(92,(vB (decide (0≤(Wo p u0 u4)))))
abbrev Tf:=((Wo p u0 u4).toNat)
abbrev af3:=(IntKind.wrap .i64 ((at' u3 (Tf p u0 u4)) - ((at' x.aF u0.toNat).e0)))
abbrev abI:=(u3.set (Tf p u0 u4) (af3 p x u0 u4 u3))
abbrev aaG:=(aN (aC .i64) (abI p x u0 u4 u3))
abbrev agU:Nat × TV:=(7,(vO 11 true ((abI p x u0 u4 u3).length)))
abbrev agi:List (Nat × Option Ob):=[(11,some (dK 3 1 (aC .i64) (abI p x u0 u4 u3)))]
abbrev agj:=(IntKind.wrap .i64 ((at' u3 (Tf p u0 u4)) - ((at' x.aF u0.toNat).e1)))
abbrev aaV:=(u3.set (Tf p u0 u4) (agj p x u0 u4 u3))
abbrev abq:=(aN (aC .i64) (aaV p x u0 u4 u3))
abbrev ads:Nat × TV:=(7,(vO 11 true ((aaV p x u0 u4 u3).length)))
abbrev afv:List (Nat × Option Ob):=[(11,some (dK 3 1 (aC .i64) (aaV p x u0 u4 u3)))]
end
theorem EB (p:au) (s_:ay) (x:aS) {r:Bool} (h:tK p s_ x=some r):Fn Try.prog 130 (Zg p s_ x) [] (vB r) []:=by
 refine fN tT Try.func130 rfl rfl fun B=> ?_
 show bW _ _ _ _ _ _ (gF r) _
 unfold tK at h
 refine sz tT ⟨[(3,(vP 8 0)),(5,(vP 10 0))],[(M5 p),(Nj x)]⟩ {fr:=[(0,8),(1,9),(2,10)] } [] ?_
 refine aQ (aO h fun⟨a1,a2,a3⟩ h=> ?_)
 refine rg tT ⟨[(3,(vP 8 0)),(5,(vP 10 0)),(7,(vO 11 true ((QE p).length)))],(adr p x)⟩ [_,(p.ax:Int)=p.ax,_,_,(QE p).length=p.ax.toNat,aY p.ax.toNat 1 (fun _ j=>[(.int .i64 0)].getD j .nilp) (aN (aC .i64) (QE p))] {an:=[(2, .arr (QE p).length (aN (aC .i64) (QE p)))],fr:=[(2,11)] } [] ⟨a1,rfl,a2,a3,(List.length_replicate),(fB _ _ _ _ _ (fun j hj=>(match j,hj with|0,_=>rfl))),trivial⟩ ?_
 refine aQ (sz tT ⟨[(3,(vP 8 0)),(5,(vP 10 0)),(7,(vO 11 true ((QE p).length))),(Uq x),(UM x),(22,(vI 0))],(adr p x)⟩ {} [] ?_)
 refine bE h fun y hy h=> ?_
 refine aL [] (wT p x) (wC p x) gF hy (fun s f h=> ?_) ?_
 ·clear hy
  show bW _ _ _ _ _ _ ((Fp p x) f) _
  unfold wD at h
  obtain⟨u6,u5⟩:=s
  refine sz tT ⟨[(3,(vP 8 0)),(5,(vP 10 0)),(ve u6),(Uq x),(UM x),(22,(vI u5)),(23,(vB (decide (u5<(x.ai.length:Int)))))],(PW u6 x p)⟩ {} [] ?_
  refine aQ ?_
  refine bI h (fun hb h=> ?_) (fun hb h=> ?_)
  ·refine ct hb ?_
   refine aP (aQ (aB (aQ (aO h fun a1 h=> ?_))))
   refine rg tT ⟨[(3,(vP 8 0)),(5,(vP 10 0)),(ve u6),(8,(vI u5)),(9,(vI (at' x.ai u5.toNat))),(Uq x),(UM x),(22,(vI u5))],(PW u6 x p)⟩ [_] {} [] ⟨a1,trivial⟩ ?_
   refine aO h fun⟨a1,a2⟩ h=> ?_
   refine ri tT ⟨(aiy u6 x u5),[(M5 p),(Nj x),(11,some (.arr 3 1 u6.length (aaQ p x u6 u5)))]⟩ [_,_,_,_,_,aY u6.length 1 (lg (aN (aC .i64) u6) (((at' p.ai u5.toNat).bus).toNat) 0 [(.int .i64 (IntKind.wrap .i64 ((at' u6 (((at' p.ai u5.toNat).bus).toNat))+(at' x.ai u5.toNat))))]) (aaQ p x u6 u5)] {an:=[(12, .arr 0 (aaQ p x u6 u5))] } [] ⟨a1,a2,(tL a2),a2,(tL a2),(cZ _ _ _ _ _ _ _ _ rfl (fun j hj=>(match j,hj with|0,_=>rfl))),trivial⟩ (bZ.le (st':=⟨[(3,(vP 8 0)),(5,(vP 10 0)),(afs p x u6 u5),(Uq x),(UM x),(22,(vI u5))],(ahl p x u6 u5)⟩) ⟨⟨tR,tR,⟨_,rfl,dY.v (eX.one cW)⟩,tR,tR,tR,trivial⟩,(hN 2 ⟨rfl,oW,trivial⟩)⟩) ?_
   refine rz tT ⟨[(3,(vP 8 0)),(5,(vP 10 0)),(afs p x u6 u5),(Uq x),(UM x),(22,(k3 u5))],(ahl p x u6 u5)⟩ {} [] ?_
   obtain rfl:=oi h
   exact lN
  ·refine cf hb ?_
   refine aI (fz (Zw u6 p x) []) ?_
   refine aX ?_
   obtain rfl:=oi h
   exact lB
 ·clear hy
  cases y with
  |brk z=>
   obtain⟨u8,rfl⟩: ∃q,q=z:=⟨_,rfl⟩
   unfold fT
   refine⟨_, .refl, ?_⟩
   refine aQ (sz tT ⟨[(3,(vP 8 0)),(5,(vP 10 0)),(ve u8),(Pz x),(Pp x),(43,(vI 0))],(PW u8 x p)⟩ {} [] ?_)
   refine bE h fun y1 hy h=> ?_
   refine aL [] (wV p x) (wG p x) gF hy (fun s f h=> ?_) ?_
   ·clear hy
    show bW _ _ _ _ _ _ ((EA p x) f) _
    unfold xw at h
    obtain⟨u2,u1⟩:=s
    refine sz tT ⟨[(3,(vP 8 0)),(5,(vP 10 0)),(ve u2),(Pz x),(Pp x),(43,(vI u1)),(44,(vB (decide (u1<(x.af.length:Int)))))],(PW u2 x p)⟩ {} [] ?_
    refine aQ ?_
    refine bI h (fun hb1 h=> ?_) (fun hb1 h=> ?_)
    ·refine ct hb1 ?_
     refine aP (aQ (aB (aQ (aO h fun a1 h=> ?_))))
     refine rg tT ⟨(agc x u2 u1),(PW u2 x p)⟩ [_] {} [] ⟨a1,trivial⟩ ?_
     refine aQ (aO h fun⟨a1,a2⟩ h=> ?_)
     refine ri tT ⟨(agc x u2 u1),[(M5 p),(Nj x),(11,some (.arr 3 1 u2.length (XR p x u2 u1)))]⟩ [_,_,_,_,_,aY u2.length 1 (lg (aN (aC .i64) u2) (((at' p.af u1.toNat).a).toNat) 0 [(.int .i64 (IntKind.wrap .i64 ((at' u2 (((at' p.af u1.toNat).a).toNat)) - (at' x.af u1.toNat))))]) (XR p x u2 u1)] {an:=[(12, .arr 0 (XR p x u2 u1))] } [] ⟨a1,a2,(tL a2),a2,(tL a2),(cZ _ _ _ _ _ _ _ _ rfl (fun j hj=>(match j,hj with|0,_=>rfl))),trivial⟩ (bZ.le (st':=⟨[(3,(vP 8 0)),(5,(vP 10 0)),(ag1 p x u2 u1),(10,(vI u1)),(11,(vI (at' x.af u1.toNat))),(Pz x),(Pp x),(43,(vI u1))],[(M5 p),(Nj x),(11,some (dK 3 1 (aC .i64) (QX p x u2 u1)))]⟩) ⟨⟨tR,tR,⟨_,rfl,dY.v (eX.one cW)⟩,tR,tR,tR,tR,tR,trivial⟩,(hN 2 ⟨rfl,oW,trivial⟩)⟩) ?_
     refine aO h fun⟨a1,a2⟩ h=> ?_
     refine ri tT ⟨[(3,(vP 8 0)),(5,(vP 10 0)),(ag1 p x u2 u1),(Pz x),(Pp x),(43,(vI u1))],[(M5 p),(Nj x),(11,some (.arr 3 1 (QX p x u2 u1).length (abL p x u2 u1)))]⟩ [_,_,_,_,_,aY (QX p x u2 u1).length 1 (lg (XR p x u2 u1) (((at' p.af u1.toNat).b).toNat) 0 [(.int .i64 (aip p x u2 u1))]) (abL p x u2 u1)] {an:=[(12, .arr 0 (abL p x u2 u1))] } [] ⟨a1,a2,(tL a2),a2,(tL a2),(cZ _ _ _ _ _ _ _ _ rfl (fun j hj=>(match j,hj with|0,_=>rfl))),trivial⟩ (bZ.le (st':=⟨[(3,(vP 8 0)),(5,(vP 10 0)),(afG p x u2 u1),(Pz x),(Pp x),(43,(vI u1))],(ae2 p x u2 u1)⟩) ⟨⟨tR,tR,⟨_,rfl,dY.v (eX.one cW)⟩,tR,tR,tR,trivial⟩,(hN 2 ⟨rfl,oW,trivial⟩)⟩) ?_
     refine rz tT ⟨[(3,(vP 8 0)),(5,(vP 10 0)),(afG p x u2 u1),(Pz x),(Pp x),(43,(k3 u1))],(ae2 p x u2 u1)⟩ {} [] ?_
     obtain rfl:=oi h
     exact lN
    ·refine cf hb1 ?_
     refine aI (fz (Zw u2 p x) []) ?_
     refine aX ?_
     obtain rfl:=oi h
     exact lB
   ·clear hy
    cases y1 with
    |brk z=>
     obtain⟨u9,rfl⟩: ∃q,q=z:=⟨_,rfl⟩
     unfold fT
     refine⟨_, .refl, ?_⟩
     refine aQ (sz tT ⟨[(dw p),(ve u9),(BK x),(BP x),(76,(vI 0))],(Fg u9)⟩ {} [8] ?_)
     refine bE h fun y3 hy h=> ?_
     refine aL [] (xB p x) wW gF hy (fun s f h=> ?_) ?_
     ·clear hy
      show bW _ _ _ _ _ _ ((oZ p x) f) _
      unfold vM at h
      obtain⟨u7,u0⟩:=s
      refine sz tT ⟨[(dw p),(ve u7),(BK x),(BP x),(76,(vI u0)),(77,(vB (decide (u0<(x.aF.length:Int)))))],(Fg u7)⟩ {} [] ?_
      refine aQ ?_
      refine bI h (fun hb6 h=> ?_) (fun hb6 h=> ?_)
      ·refine ct hb6 ?_
       refine aP (aQ (aB (aQ (aO h fun a1 h=> ?_))))
       refine rg tT ⟨[(dw p),(ve u7),(12,(vI u0)),(Gq x u0),(BK x),(BP x),(76,(vI u0))],(Fg u7)⟩ [_] {fr:=[(3,15)] } [15] ⟨a1,trivial⟩ ?_
       refine aQ (aO h fun a1 h=> ?_)
       refine rg tT ⟨(ahR p x u7 u0),(Fg u7)⟩ [_] {} [] ⟨a1,trivial⟩ ?_
       refine bE h fun y2 hy h=> ?_
       refine aL [5] (wE p x u0) (wI p x u0) (oZ p x) hy (fun s f h=> ?_) ?_
       ·clear hy
        show bW _ _ _ _ _ _ ((EN p x u0) f) _
        unfold wS at h
        obtain⟨u3,u4⟩:=s
        refine sz tT ⟨[(dw p),(ve u3),(Gq x u0),(BK x),(BP x),(76,(vI u0)),(G7 u0 p),(87,(vI u4)),(88,(vB (decide (u4<2))))],(Fg u3)⟩ {} [] ?_
        refine aQ ?_
        refine bI h (fun hb5 h=> ?_) (fun hb5 h=> ?_)
        ·refine ct hb5 ?_
         refine aP (aQ (aB (aQ (aO h fun a1 h=> ?_))))
         refine rg tT ⟨[(dw p),(ve u3),(Gq x u0),(14,(vI u4)),(Yn p u0 u4),(BK x),(BP x),(76,(vI u0)),(G7 u0 p),(87,(vI u4))],(Fg u3)⟩ [_,u4.toNat*1+1≤(acf u0 p).length,((acf u0 p).drop (u4.toNat*1)).take 1=[(.int .i64 (Wo p u0 u4))].map .d] {an:=[(1, .vals [(.int .i64 (Wo p u0 u4))])] } [] ⟨a1,(Wv (n:=2) (sz:=1) (Nat.le_refl _) a1),(Vt (n:=2) (sz:=1) (g:=fun q=>[(cI (at' [(Jl p u0).e0,(Jl p u0).e1] q))]) (by intro q hq;match q,hq with|0,_=>rfl|1,_=>rfl) a1),trivial⟩ ?_
         refine sz tT ⟨[(dw p),(ve u3),(Gq x u0),(14,(vI u4)),(Yn p u0 u4),(BK x),(BP x),(76,(vI u0)),(G7 u0 p),(87,(vI u4)),(aco p u0 u4)],(Fg u3)⟩ {} [] ?_
         refine bI h (fun hb4 h=> ?_) (fun hb4 h=> ?_)
         ·refine ct hb4 ?_
          refine bI h (fun hb2 h=> ?_) (fun _ h=> ?_)
          ·skip
           refine aI (bZ.le (st':=⟨[(dw p),(ve u3),(Gq x u0),(14,(vI 0)),(Yn p u0 u4),(BK x),(BP x),(76,(vI u0)),(G7 u0 p),(87,(vI 0)),(aco p u0 u4)],(Fg u3)⟩) ⟨⟨tR,tR,tR,⟨_,rfl,dY.v (eX.one (eD.of (congrArg (fun n=>CV.d (.int .i64 n)) (of_decide_eq_true hb2))))⟩,tR,tR,tR,tR,tR,⟨_,rfl,dY.v (eX.one (eD.of (congrArg (fun n=>CV.d (.int .i64 n)) (of_decide_eq_true hb2))))⟩,tR,trivial⟩,(.refl _)⟩) ?_
           refine aO h fun a1 h=> ?_
           refine di tT mX ⟨(ahR p x u3 u0),[(11,some (.arr 3 1 u3.length (aaG p x u0 u4 u3)))]⟩ [_,_,(0:Int)≤0∧(0:Int)<(2:Nat),_,_,aY u3.length 1 (lg (aN (aC .i64) u3) (Tf p u0 u4) 0 [(.int .i64 (af3 p x u0 u4 u3))]) (aaG p x u0 u4 u3)] {an:=[(9, .arr 0 (aaG p x u0 u4 u3))] } [] ⟨a1,(tL a1),((by decide)),a1,(tL a1),(cZ _ _ _ _ _ _ _ _ rfl (fun j hj=>(match j,hj with|0,_=>rfl))),trivial⟩ (bZ.le (st':=⟨[(dw p),(agU p x u0 u4 u3),(Gq x u0),(BK x),(BP x),(76,(vI u0)),(G7 u0 p),(87,(vI 0))],(agi p x u0 u4 u3)⟩) ⟨⟨tR,⟨_,rfl,dY.v (eX.one cW)⟩,tR,tR,tR,tR,tR,tR,trivial⟩,⟨rfl,oW,trivial⟩⟩) ?_
           refine rz tT ⟨[(dw p),(agU p x u0 u4 u3),(Gq x u0),(BK x),(BP x),(76,(vI u0)),(G7 u0 p),(87,(vI 1))],(agi p x u0 u4 u3)⟩ {} [] ?_
           obtain rfl:=oi h
           exact lN
          ·skip
           refine aO h fun a1 h=> ?_
           refine aI (bZ.le (st':=⟨[(dw p),(ve u3),(Gq x u0),(14,(vI 1)),(Yn p u0 u4),(BK x),(BP x),(76,(vI u0)),(G7 u0 p),(87,(vI 1)),(aco p u0 u4)],(Fg u3)⟩) ⟨⟨tR,tR,tR,⟨_,rfl,dY.v (eX.one (eD.of (congrArg (fun n=>CV.d (.int .i64 n)) a1)))⟩,tR,tR,tR,tR,tR,⟨_,rfl,dY.v (eX.one (eD.of (congrArg (fun n=>CV.d (.int .i64 n)) a1)))⟩,tR,trivial⟩,(.refl _)⟩) ?_
           refine aO h fun a1 h=> ?_
           refine di tT mX ⟨[(dw p),(ve u3),(Gq x u0),(BK x),(BP x),(76,(vI u0)),(G7 u0 p),(87,(vI 1))],[(11,some (.arr 3 1 u3.length (abq p x u0 u4 u3)))]⟩ [_,_,(0:Int)≤1∧(1:Int)<(2:Nat),_,_,aY u3.length 1 (lg (aN (aC .i64) u3) (Tf p u0 u4) 0 [(.int .i64 (agj p x u0 u4 u3))]) (abq p x u0 u4 u3)] {an:=[(9, .arr 0 (abq p x u0 u4 u3))] } [] ⟨a1,(tL a1),((by decide)),a1,(tL a1),(cZ _ _ _ _ _ _ _ _ rfl (fun j hj=>(match j,hj with|0,_=>rfl))),trivial⟩ (bZ.le (st':=⟨[(dw p),(ads p x u0 u4 u3),(Gq x u0),(BK x),(BP x),(76,(vI u0)),(G7 u0 p),(87,(vI 1))],(afv p x u0 u4 u3)⟩) ⟨⟨tR,⟨_,rfl,dY.v (eX.one cW)⟩,tR,tR,tR,tR,tR,tR,trivial⟩,⟨rfl,oW,trivial⟩⟩) ?_
           refine rz tT ⟨[(dw p),(ads p x u0 u4 u3),(Gq x u0),(BK x),(BP x),(76,(vI u0)),(G7 u0 p),(87,(vI 2))],(afv p x u0 u4 u3)⟩ {} [] ?_
           obtain rfl:=oi h
           exact lN
         ·refine cf hb4 ?_
          refine aP (rz tT ⟨[(dw p),(ve u3),(Gq x u0),(BK x),(BP x),(76,(vI u0)),(G7 u0 p),(87,(k3 u4))],(Fg u3)⟩ {} [] ?_)
          obtain rfl:=oi h
          exact lN
        ·refine cf hb5 ?_
         refine aI (fz (abj x u3 p u0) []) ?_
         refine aX ?_
         obtain rfl:=oi h
         exact lB
       ·clear hy
        cases y2 with
        |brk z=>
         obtain⟨v0,rfl⟩: ∃q,q=z:=⟨_,rfl⟩
         unfold fT
         refine⟨_, .refl, ?_⟩
         refine rz tT ⟨[(dw p),(ve v0),(BK x),(BP x),(76,(k3 u0))],(Fg v0)⟩ {} [] ?_
         obtain rfl:=oi h
         exact lN
        |ret v=>
         obtain rfl:=oi h
         unfold fT
         intro e st hn ha hR
         cases e with
         |normal=>exact absurd rfl hn
         |exit id=>simp only [qB (b:=5) ha rfl,cond_false];exact hR
         |goto l=>exact hR
         |ret=>exact hR
         |panic c=>exact hR
         |outgrown=>exact hR
      ·refine cf hb6 ?_
       refine aI (fz ⟨[(ve u7)],(Fg u7)⟩ []) ?_
       refine aX ?_
       obtain rfl:=oi h
       exact lB
     ·clear hy
      cases y3 with
      |brk z=>
       obtain⟨v1,rfl⟩: ∃q,q=z:=⟨_,rfl⟩
       unfold fT
       refine⟨_, .refl, ?_⟩
       refine aQ (bE h fun r_ hr_ h=> ?_)
       have q0:=rk [(0,11)] (r9 v1 hr_)
       refine rg tT ⟨[(6,(vB (!r_)))],[]⟩ [_] {an:=[(1,cR q0 [11])] } [] ⟨q0,trivial⟩ ?_
       refine aR ?_
       obtain rfl:=oi h
       exact rl [(sB (!r_))]
      |ret v=>
       obtain rfl:=oi h
       unfold fT
       intro e st hn ha hR
       cases e with
       |normal=>exact absurd rfl hn
       |exit id=>exact hR
       |goto l=>exact hR
       |ret=>exact hR
       |panic c=>exact hR
       |outgrown=>exact hR
    |ret v=>
     obtain rfl:=oi h
     unfold fT
     intro e st hn ha hR
     cases e with
     |normal=>exact absurd rfl hn
     |exit id=>exact hR
     |goto l=>exact hR
     |ret=>exact hR
     |panic c=>exact hR
     |outgrown=>exact hR
  |ret v=>
   obtain rfl:=oi h
   unfold fT
   intro e st hn ha hR
   cases e with
   |normal=>exact absurd rfl hn
   |exit id=>exact hR
   |goto l=>exact hR
   |ret=>exact hR
   |panic c=>exact hR
   |outgrown=>exact hR
def BI  :Int→Exit→St→Prop:=
  fun r=>bR TT [.tmp 6] (vI r) []
section
variable (x:aS) (p:au)
abbrev acZ:=(!decide ((x.ai.length:Int)=(p.ai.length:Int)))
abbrev aaU:=(bif (acZ x p)then true else(!decide ((x.af.length:Int)=(p.af.length:Int))))
abbrev Gw:List (Nat × Option Ob):=[(10,some aay)]
end
theorem Am (p:au) (s_:ay) (x:aS) {r:Int} (h:nT p s_ x=some r):Fn Try.prog 48 (Zg p s_ x) [] (vI r) []:=by
 refine fN tT Try.func48 rfl rfl fun B=> ?_
 show bW _ _ _ _ _ _ (BI r) _
 unfold nT at h
 refine sz tT (XM p s_ x) {fr:=[(0,7),(1,8),(2,9)] } [7,8,9] ?_
 refine aQ (aQ (bE h fun r_ hr_ h=> ?_))
 have q0:=dU p s_ hr_
 refine rg tT ⟨[(dw p),(bB s_),(vv x),(7,(vI r_))],[]⟩ [_] {an:=[(2,cA q0 [])] } [] ⟨q0,trivial⟩ ?_
 refine sz tT ⟨[(dw p),(bB s_),(vv x),(7,(vI r_)),(14,(vB (!decide (r_=0))))],[]⟩ {} [] ?_
 refine bI h (fun hb4 h=> ?_) (fun hb4 h=> ?_)
 ·refine ct hb4 ?_
  refine sz tT ⟨[(6,(vI r_))],[]⟩ {} [] ?_
  refine aR ?_
  obtain rfl:=oi h
  exact rl [(sI r_)]
 ·refine cf hb4 ?_
  refine aP (aQ (sg tT ⟨[(dw p),(bB s_),(vv x),(40,(vB (bif (aaU x p)then true else(!decide ((x.aF.length:Int)=(p.aF.length:Int))))))],[]⟩ (eqs (acZ x p) 8 (eqs (aaU x p) 8 [])) {yb:=[(7,(acZ x p)),(16,(aaU x p))] } [] (ae (ae trivial)) ?_))
  refine bI h (fun hb3 h=> ?_) (fun hb3 h=> ?_)
  ·refine ct hb3 ?_
   refine sz tT ⟨[(6,(vI 20))],[]⟩ {} [] ?_
   refine aR ?_
   obtain rfl:=oi h
   exact rl [(sI 20)]
  ·refine cf hb3 ?_
   refine aP (aQ (aQ (bE h fun u3 hr_1 h=> ?_)))
   have q0:=rk [(0,10)] (ET hr_1)
   refine rg tT ⟨[(dw p),(bB s_),(vv x),(41,(vO 10 true 3)),(42,(vI (3:Int))),(43,(vI 0))],Gw⟩ [_] {an:=[(0,cA q0 [])] } [] ⟨q0,trivial⟩ ?_
   refine aB (Tc 12 (Au 11 (sz tT ⟨[(dw p),(bB s_),(vv x),(41,(vO 10 true 3)),(42,(vI (3:Int))),(43,(vI 0)),(44,(vB true))],Gw⟩ {} [] ?_)))
   refine aQ (ck (aP (aQ (aB (aQ (aO h fun a1 h=> ?_))))))
   refine rg tT ⟨[(dw p),(bB s_),(vv x),(9,(vD (kK [(.fn 128 0 (mM []))] 0))),(41,(vO 10 true 3)),(42,(vI (3:Int))),(43,(vI 0))],Gw⟩ [_] {fr:=[(2,11)] } [11] ⟨a1,trivial⟩ ?_
   refine aQ (bE h fun u0 hr_2 h=> ?_)
   have q0:=Gf p s_ x hr_2
   refine rg tT ⟨[(dw p),(bB s_),(vv x),(41,(vO 10 true 3)),(42,(vI (3:Int))),(43,(vI 0)),(53,(vB (!u0)))],Gw⟩ [_] {an:=[(5,cA q0 [])] } [] ⟨q0,trivial⟩ ?_
   refine bI h (fun hb2 h=> ?_) (fun hb2 h=> ?_)
   ·refine ct hb2 ?_
    refine sz tT ⟨[(6,(vI 20))],[]⟩ {} [] ?_
    refine aR ?_
    obtain rfl:=oi h
    exact rl [(sI 20)]
   ·refine cf hb2 ?_
    refine aP (rz tT ⟨[(dw p),(bB s_),(vv x),(41,(vO 10 true 3)),(42,(vI (3:Int))),(43,(vI 1))],Gw⟩ {} [] ?_)
    refine Au 10 (sz tT ⟨[(dw p),(bB s_),(vv x),(41,(vO 10 true 3)),(42,(vI (3:Int))),(43,(vI 1)),(44,(vB true))],Gw⟩ {} [] ?_)
    refine aQ (ck (aP (aQ (aB (aQ (aO h fun a1 h=> ?_))))))
    refine rg tT ⟨[(dw p),(bB s_),(vv x),(9,(vD (kK [(.fn 129 0 (mM []))] 0))),(41,(vO 10 true 3)),(42,(vI (3:Int))),(43,(vI 1))],Gw⟩ [_] {fr:=[(2,12)] } [12] ⟨a1,trivial⟩ ?_
    refine aQ (bE h fun u1 hr_3 h=> ?_)
    have q0:=Jg p s_ x hr_3
    refine rg tT ⟨[(dw p),(bB s_),(vv x),(41,(vO 10 true 3)),(42,(vI (3:Int))),(43,(vI 1)),(53,(vB (!u1)))],Gw⟩ [_] {an:=[(5,cA q0 [])] } [] ⟨q0,trivial⟩ ?_
    refine bI h (fun hb1 h=> ?_) (fun hb1 h=> ?_)
    ·refine ct hb1 ?_
     refine sz tT ⟨[(6,(vI 20))],[]⟩ {} [] ?_
     refine aR ?_
     obtain rfl:=oi h
     exact rl [(sI 20)]
    ·refine cf hb1 ?_
     refine aP (rz tT ⟨[(dw p),(bB s_),(vv x),(41,(vO 10 true 3)),(42,(vI (3:Int))),(43,(vI 2))],Gw⟩ {} [] ?_)
     refine Au 9 (sz tT ⟨[(dw p),(bB s_),(vv x),(41,(vO 10 true 3)),(42,(vI (3:Int))),(43,(vI 2)),(44,(vB true))],Gw⟩ {} [] ?_)
     refine aQ (ck (aP (aQ (aB (aQ (aO h fun a1 h=> ?_))))))
     refine rg tT ⟨[(dw p),(bB s_),(vv x),(9,(vD (kK [(.fn 130 0 (mM []))] 0))),(41,(vO 10 true 3)),(42,(vI (3:Int))),(43,(vI 2))],Gw⟩ [_] {fr:=[(2,13)] } [13] ⟨a1,trivial⟩ ?_
     refine aQ (bE h fun u2 hr_4 h=> ?_)
     have q0:=EB p s_ x hr_4
     refine rg tT ⟨[(dw p),(bB s_),(vv x),(41,(vO 10 true 3)),(42,(vI (3:Int))),(43,(vI 2)),(53,(vB (!u2)))],Gw⟩ [_] {an:=[(5,cA q0 [])] } [] ⟨q0,trivial⟩ ?_
     refine bI h (fun hb h=> ?_) (fun hb h=> ?_)
     ·refine ct hb ?_
      refine sz tT ⟨[(6,(vI 20))],[]⟩ {} [] ?_
      refine aR ?_
      obtain rfl:=oi h
      exact rl [(sI 20)]
     ·refine cf hb ?_
      refine aP (rz tT ⟨[(dw p),(bB s_),(vv x),(41,(vO 10 true 3)),(42,(vI (3:Int))),(43,(vI 3))],Gw⟩ {} [] ?_)
      refine Au 8 (sz tT ⟨[(dw p),(bB s_),(vv x),(41,(vO 10 true 3)),(42,(vI (3:Int))),(43,(vI 3)),(44,(vB false))],Gw⟩ {} [] ?_)
      refine aQ (cn (aX (sz tT ⟨[(6,(vI 0))],[]⟩ {} [] ?_)))
      refine aR ?_
      obtain rfl:=oi h
      exact rl [(sI 0)]
def Ir  :Int→Exit→St→Prop:=
  fun r=>bR TT [.tmp 8] (vI r) []
section
variable (p:au) (s_:ay) (x:aS)
abbrev acA:Nat × TV:=(4,(k9 p))
abbrev ach:Nat × TV:=(5,(k74 s_))
abbrev Yw:Nat × TV:=(6,(ad6 x))
end
theorem mJ (p:au) (s_:ay) (x:aS) (u1:(List Bool)) {r:Int} (h:ko p s_ x u1=some r):Fn Try.prog 49 [(.agg (k5 p)),(.agg (Yu s_)),(.agg (Zo x)),(sD (bg none 1 aD u1))] [] (vI r) []:=by
 refine fN tT Try.func49 rfl rfl fun B=> ?_
 show bW _ _ _ _ _ _ (Ir r) _
 unfold ko at h
 refine sz tT ⟨[(3,(vD (bg none 1 aD u1))),(acA p),(ach s_),(Yw x)],[]⟩ {fr:=[(0,3),(1,4),(2,5)] } [3,4,5] ?_
 refine aQ (aQ (bE h fun r_ hr_ h=> ?_))
 have q0:=Am p s_ x hr_
 refine rg tT ⟨[(3,(vD (bg none 1 aD u1))),(acA p),(ach s_),(Yw x),(9,(vI r_))],[]⟩ [_] {an:=[(3,cA q0 [])] } [] ⟨q0,trivial⟩ ?_
 refine sz tT ⟨[(3,(vD (bg none 1 aD u1))),(acA p),(ach s_),(Yw x),(9,(vI r_)),(17,(vB (!decide (r_=0))))],[]⟩ {} [] ?_
 refine bI h (fun hb1 h=> ?_) (fun hb1 h=> ?_)
 ·refine ct hb1 ?_
  refine sz tT ⟨[(8,(vI r_))],[]⟩ {} [] ?_
  refine aR ?_
  obtain rfl:=oi h
  exact rl [(sI r_)]
 ·refine cf hb1 ?_
  refine aP (aQ (bE h fun u0 hr_1 h=> ?_))
  have q0:=wN p s_ u1 hr_1
  refine rg tT ⟨[(Yw x),(10,(vI u0.1)),(11,(vI u0.2))],[]⟩ [_] {an:=[(3,cA q0 [])] } [] ⟨q0,trivial⟩ ?_
  refine aQ (aQ (bE h fun u2 hr_2 h=> ?_))
  refine rg tT ⟨[(11,(vI u0.2)),(33,(vB (bif (decide (u0.2=0))then(!decide (u0.1=u2))else false)))],[]⟩ (eqs (decide (u0.2=0)) 3 ((gP (jq [(2,(decide (u0.2=0)))]) [(2,true)]→All [Fn Try.prog 41 (agS x) [] (vI u2) []])::(eqs (decide (u0.2=0)) 2 []))) {yb:=[(2,(decide (u0.2=0)))],an:=[(5, .call [] (vI u2) [])] } [] (ae ⟨(fun hg=> ⟨(fU x (iw hr_2 (bD hg))),trivial⟩),(ae trivial)⟩) ?_
  refine bI h (fun hb h=> ?_) (fun hb h=> ?_)
  ·refine ct hb ?_
   refine rz tT ⟨[(11,(vI 7))],[]⟩ {} [] ?_
   refine sz tT ⟨[(8,(vI 7))],[]⟩ {} [] ?_
   refine aR ?_
   obtain rfl:=oi h
   exact rl [(sI 7)]
  ·refine cf hb ?_
   refine aP (sz tT ⟨[(8,(vI u0.2))],[]⟩ {} [] ?_)
   refine aR ?_
   obtain rfl:=oi h
   exact rl [(sI u0.2)]
def rG  :Bool→Exit→St→Prop:=
  fun r=>bR TT [.tmp 4] (vB r) []
def yg (a:(List Int)) (b:(List Int)):Int→St:=
  fun i=> ⟨[(kE a),(Eb b),(5,(vI i))],[]⟩
def yU  :Unit→St:=
  fun _=> ⟨[],[]⟩
def Gt (a:(List Int)) (b:(List Int)):(bn Int (Ex Unit Bool))→Exit→St→Prop:=
  LQ 0 [] (yg a b) yU rG
theorem dX (a:(List Int)) (b:(List Int)) {r:Bool} (h:eO a b=some r):Fn Try.prog 54 [(sD (DX a)),(sD (DX b))] [] (vB r) []:=by
 refine fN tT Try.func54 rfl rfl fun B=> ?_
 show bW _ _ _ _ _ _ (rG r) _
 unfold eO at h
 refine sz tT (Yx a b) {} [] ?_
 refine aQ (sz tT ⟨[(kE a),(Eb b),(10,(vB (!decide ((a.length:Int)=(b.length:Int)))))],[]⟩ {} [] ?_)
 refine bI h (fun hb2 h=> ?_) (fun hb2 h=> ?_)
 ·refine ct hb2 ?_
  refine sz tT ⟨[(4,(vB false))],[]⟩ {} [] ?_
  refine aR ?_
  obtain rfl:=oi h
  exact rl [(sB false)]
 ·refine cf hb2 ?_
  refine aP (aQ (sz tT ⟨[(kE a),(Eb b),(5,(vI 0))],[]⟩ {} [] ?_))
  refine bE h fun y hy h=> ?_
  refine aL [] (yg a b) yU rG hy (fun s f h=> ?_) ?_
  ·clear hy
   show bW _ _ _ _ _ _ ((Gt a b) f) _
   unfold yQ at h
   obtain⟨i,rfl⟩: ∃q,q=s:=⟨_,rfl⟩
   refine aQ (sz tT ⟨[(kE a),(Eb b),(5,(vI i)),(14,(WK i a))],[]⟩ {} [] ?_)
   refine bI h (fun hb1 h=> ?_) (fun hb1 h=> ?_)
   ·refine ct hb1 ?_
    refine aP (aQ (aB (aQ (aO h fun⟨a1,a2⟩ h=> ?_))))
    refine dg tT mX ⟨[(kE a),(Eb b),(5,(vI i)),(25,(vB (!decide ((at' a i.toNat)=(at' b i.toNat)))))],[]⟩ [_,_] {} [] ⟨a1,a2,trivial⟩ ?_
    refine bI h (fun hb h=> ?_) (fun hb h=> ?_)
    ·refine ct hb ?_
     refine sz tT ⟨[(4,(vB false))],[]⟩ {} [] ?_
     refine aR ?_
     obtain rfl:=oi h
     exact lR dP (dQ 0) dO (bR.mk (.inr rfl) (p:=[]) (l:=[(sB false)]) (by kernel_rfl) trivial (dY.refl _) trivial)
    ·refine cf hb ?_
     refine aP (rz tT ⟨[(kE a),(Eb b),(k2 i)],[]⟩ {} [] ?_)
     obtain rfl:=oi h
     exact lN
   ·refine cf hb1 ?_
    refine aI (fz ⟨[],[]⟩ []) ?_
    refine aX ?_
    obtain rfl:=oi h
    exact lB
  ·clear hy
   cases y with
   |brk z=>
    unfold fT
    refine⟨_, .refl, ?_⟩
    refine sz tT ⟨[(4,(vB true))],[]⟩ {} [] ?_
    refine aR ?_
    obtain rfl:=oi h
    exact rl [(sB true)]
   |ret v=>
    obtain rfl:=oi h
    unfold fT
    intro e st hn ha hR
    cases e with
    |normal=>exact absurd rfl hn
    |exit id=>exact hR
    |goto l=>exact hR
    |ret=>exact hR
    |panic c=>exact hR
    |outgrown=>exact hR
def nC  :Bool→Exit→St→Prop:=
  fun r=>bR TT [.tmp 4] (vB r) []
section
variable (a:(List aA))
abbrev Rp:Nat × TV:=(0,(vD (bg none 4 aA.cell a)))
end
def qO (a:(List aA)) (b:(List aA)):Int→St:=
  fun i=> ⟨[(Rp a),(Jm b),(5,(vI i))],[]⟩
def qX  :Unit→St:=
  fun _=> ⟨[],[]⟩
def BH (a:(List aA)) (b:(List aA)):(bn Int (Ex Unit Bool))→Exit→St→Prop:=
  LQ 0 [] (qO a b) qX nC
end
end Sg
