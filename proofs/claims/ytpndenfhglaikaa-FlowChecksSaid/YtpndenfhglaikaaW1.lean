import Derived.Test.YtpndenfhglaikaaW0
set_option linter.all false
namespace Sg
open Go Go.Proofs
set_option maxRecDepth 20000
noncomputable section
section
variable (p:ah) (s_:State) (r_:Int) (v0:Int) (v4:(Int × Network)) (v8:(List (Int × Int))) (u7:Int) (p1:(List Source)) (v5:(Int × Network)) (x0:(List Int)) (u4:(List (Int × Int))) (v9:(List (Int × Int))) (v7:Int) (u0:Int) (u2:(List ay)) (w0:Int) (x3:(Int × Network)) (p2:(List Link)) (p3:(List ay)) (x1:(List Int)) (x2:(List af)) (u5:(List (Int × Int))) (x9:(List (af × Int))) (v3:Int) (v6:(Int × Network)) (x5:(List bJ)) (x6:(List (List Int))) (u1:Network) (i:Nat) (w5:(List Int)) (i1:Nat) (w6:(List Int)) (u3:(List (af × Int))) (i2:Nat) (u9:(List af))
abbrev ZK:List (Nat × Option Ob):=[(Ab p),bO]
abbrev aeU:St:=⟨[(2,(vP 63 0)),(bX s_),(4,(vP 65 0))],(ZK p)⟩
abbrev agy:St:=⟨[(2,(vP 63 0)),(bX s_),(4,(vP 65 0)),(7,(vI r_))],(ZK p)⟩
abbrev ah8:St:=⟨[(2,(vP 63 0)),(bX s_),(4,(vP 65 0)),(7,(vI r_)),(34,(vB (!decide (r_=0))))],(ZK p)⟩
abbrev Zz:DV:=(aU none 1 (au .i64) ([]:List Int))
abbrev agn:St:=⟨[(2,(vP 63 0)),(bX s_),(4,(vP 65 0)),(nJ p)],(ZK p)⟩
abbrev Y8:List (Nat × TV):=[(2,(vP 63 0)),(bX s_),(4,(vP 65 0)),(nJ p),(9,(vP 67 0))]
abbrev Zi:=(IntKind.wrap .i64 ((IntKind.wrap .i64 ((IntKind.wrap .i64 ((1:Int)+p.buses))+(p.racks.length:Int)))+1))
abbrev V4:=((Zi p).toNat)
abbrev Fy:=(List.replicate (V4 p) (([]:List Int):(List Int)))
abbrev TL:=((Fy p).length)
abbrev agc:List CV:=[(.d nS),(.own 66 true (TL p))]
abbrev aeN:Nat × Option Ob:=(67,some (.cells 161 (agc p)))
abbrev aiq:=((Zi p):Int)
abbrev aeD:=(Ag sP (Fy p))
abbrev U7:Nat × Option Ob:=(66,some (.rows 40 1 (Fy p).length (aeD p) none))
abbrev ab7:Nat × Option Ob:=(67,some (.cells 161 [(.own 68 false (([]:List bJ).length)),(.own 66 true (TL p))]))
abbrev acI:Nat × Option Ob:=(68,some (bU 170 2 bJ.cell ([]:List bJ)))
abbrev Zo:=(aC (au .i64) (M9 p))
abbrev YU:=(aC af.cell (Rz p))
abbrev aeK:List (Nat × Option Ob):=[(Ab p),bO,(U7 p),(ab7 p),acI,(VK p),(Nk p),(K7 p),(VY p),(73,some Yb),V6,NE]
abbrev Yr:Nat × TV:=(15,(k37 p v0))
abbrev Py:Nat × Option Ob:=(66,some (.rows 40 1 v4.2.from_.length (Ag sP v4.2.from_) none))
abbrev OH:Ob:=(Ti 3 3 false false 1 1 (au .i64) (au .i64) (jG UU v0 v4.1 v8))
abbrev Hr:Ob:=(bU 170 2 bJ.cell v4.2.arcs)
abbrev ae9:List (Nat × Option Ob):=[(Ab p),bO,(Py v4),(67,some (.cells 161 [(.own 83 false v4.2.arcs.length),(.own 66 true v4.2.from_.length)])),(VK p),(Nk p),(K7 p),(VY p),(73,some (OH v0 v4 v8)),V6,NE,(83,some (Hr v4))]
abbrev PS:=(Em (au .i64) (jG UU v0 v4.1 v8))
abbrev OI:=(EA (au .i64) (jG UU v0 v4.1 v8))
abbrev acN:List (Nat × TV):=[(2,(vP 63 0)),(bX s_),(4,(vP 65 0)),(nJ p),(9,(vP 67 0)),(10,(vP 72 0)),q8,pQ,nQ,(Jb p),(Jf p),(68,(k3 v0))]
abbrev ah4:Nat × Option Ob:=(67,some (.cells 161 [(.own 68 false v4.2.arcs.length),(.own 66 true v4.2.from_.length)]))
abbrev YI:Nat × TV:=(17,(acL p u7))
abbrev agu:List (Nat × Option Ob):=[(Pg p p1),bO,(Py v5),(67,some (.cells 161 [(.own 91 false v5.2.arcs.length),(.own 66 true v5.2.from_.length)])),(nC x0),(Nk p),(K7 p),(Ye p x0),(Eo u4),(74,some (OH u7 v5 v9)),NE,(91,some (Hr v5))]
abbrev acH:List (Nat × TV):=[(2,(vP 63 0)),(bX s_),(4,(vP 65 0)),(nJ p),(9,(vP 67 0)),(10,(vP 72 0)),q8,pQ,nQ,(Jl p),(IE p),(90,(k3 u7))]
abbrev ahG:List (Nat × TV):=[(2,(vP 63 0)),(bX s_),(4,(vP 65 0)),(8,(vI v7)),(9,(vP 67 0)),(10,(vP 72 0)),q8,pQ,nQ,(18,(vI u0)),(Gf u2 u0),(zy u2),(116,(vI w0)),(117,(vI u0))]
abbrev YZ:=(IntKind.wrap .i64 ((IntKind.wrap .i64 ((1:Int)+p.buses))+u0))
abbrev ahb:Nat × Option Ob:=(67,some (.cells 161 [(.own 111 false x3.2.arcs.length),(.own 66 true x3.2.from_.length)]))
abbrev ad9:List (Nat × Option Ob):=[(dW p p1 p2 p3),bO,(Py x3),(ahb x3),(nC x0),(oQ x1),(qU x2),(qI x2 x0 x1),(Eo u4),(EB u5),(FC x9),(111,some (Hr x3))]
abbrev Wy:=(at' [(yx u2 u0).e0,(yx u2 u0).e1] v3.toNat)
abbrev Y2:Nat × TV:=(21,(vI (Wy u0 u2 v3)))
abbrev Yp:List DV:=[(.int .i64 (Wy u0 u2 v3))]
abbrev af4:=(IntKind.wrap .i64 ((1:Int)+(Wy u0 u2 v3)))
abbrev aeX:Nat × Option Ob:=(67,some (.cells 161 [(.own 115 false v6.2.arcs.length),(.own 66 true v6.2.from_.length)]))
abbrev YR:Nat × Option Ob:=(115,some (Hr v6))
abbrev aay:List (Nat × TV):=[(2,(vP 63 0)),(bX s_),(4,(vP 65 0)),(8,(vI v7)),(9,(vP 67 0)),(10,(vP 72 0)),q8,pQ,nQ,(18,(vI u0)),(Gf u2 u0),(zy u2),(116,(vI w0)),(117,(vI u0)),(I9 u2 u0),(134,(k3 v3))]
abbrev ahy:List (Nat × TV):=[(2,(vP 63 0)),(bX s_),(4,(vP 65 0)),(8,(vI v7)),(9,(vP 67 0)),(10,(vP 72 0)),q8,pQ,nQ,(zy u2),(116,(vI w0)),(117,(k3 u0))]
abbrev ahS:Nat × Option Ob:=(67,some (.cells 161 [(.own 68 false x5.length),(.d (aU (some true) 1 (LA 1 (au .i64)) x6))]))
abbrev afb:List (Nat × Option Ob):=[(yV u1),(zw u1)]
abbrev afK:=((at' u1.arcs ((IntKind.wrap .i64 (((BitVec.ofInt (IntKind.bits .i64) (at' (u4.map Prod.snd) i) ^^^ BitVec.ofInt (IntKind.bits .i64) 1).toNat:Int))).toNat)).left)
abbrev abD:=(w5.set ((at' (u4.map Prod.fst) i).toNat) (afK u4 u1 i))
abbrev UC:=(aC (au .i64) (abD u4 u1 i w5))
abbrev adv:=(kK (aC (au .i64) w5) ((at' (u4.map Prod.fst) i).toNat) 0 [(.int .i64 (afK u4 u1 i))])
abbrev aio:Ob:=(bU 3 1 (au .i64) (abD u4 u1 i w5))
abbrev aew:=((abD u4 u1 i w5).length)
abbrev aea:=(IntKind.wrap .i64 (((at' p2 ((at' (u5.map Prod.fst) i1).toNat)).most) - ((at' u1.arcs ((at' (u5.map Prod.snd) i1).toNat)).left)))
abbrev acP:=(w6.set ((at' (u5.map Prod.fst) i1).toNat) (aea p2 u5 u1 i1))
abbrev SH:=(aC (au .i64) (acP p2 u5 u1 i1 w6))
abbrev afv:=(kK (aC (au .i64) w6) ((at' (u5.map Prod.fst) i1).toNat) 0 [(.int .i64 (aea p2 u5 u1 i1))])
abbrev ad3:Ob:=(bU 3 1 (au .i64) (acP p2 u5 u1 i1 w6))
abbrev ae3:=((acP p2 u5 u1 i1 w6).length)
abbrev X5:List CV:=[(cI ((at' (u3.map Prod.fst) i2).e0)),(cI ((at' (u3.map Prod.fst) i2).e1))]
abbrev abB:List (Nat × TV):=[(2,(vP 63 0)),(4,(vP 65 0)),(9,(vP 67 0)),(10,(vP 72 0)),(26,(vP 121 0)),(27,(vI (at' (u3.map Prod.snd) i2))),(208,(vP 118 0))]
abbrev Tk:=(((at' (u3.map Prod.fst) i2).e0).toNat)
abbrev acK:=(at' u1.arcs ((IntKind.wrap .i64 (((BitVec.ofInt (IntKind.bits .i64) (at' (u3.map Prod.snd) i2) ^^^ BitVec.ofInt (IntKind.bits .i64) 1).toNat:Int))).toNat))
abbrev ac1:=(u9.set (Tk u3 i2) (⟨(acK u1 u3 i2).left,(at' u9 (Tk u3 i2)).e1⟩:af))
abbrev TA:=(aC af.cell (ac1 u1 u3 i2 u9))
abbrev aft:List DV:=[(.int .i64 ((acK u1 u3 i2).left))]
abbrev ag4:=(kK (aC af.cell u9) (Tk u3 i2) 0 (aft u1 u3 i2))
abbrev ahH:Ob:=(bU 164 2 af.cell (ac1 u1 u3 i2 u9))
abbrev aen:=((ac1 u1 u3 i2 u9).length)
abbrev aar:=(u9.set (Tk u3 i2) (⟨(at' u9 (Tk u3 i2)).e0,(acK u1 u3 i2).left⟩:af))
abbrev Tt:=(aC af.cell (aar u1 u3 i2 u9))
abbrev agH:=(kK (aC af.cell u9) (Tk u3 i2) 1 (aft u1 u3 i2))
abbrev adX:Ob:=(bU 164 2 af.cell (aar u1 u3 i2 u9))
abbrev ahh:=((aar u1 u3 i2 u9).length)
abbrev KW:=(List.replicate p.buses.toNat (false:Bool))
abbrev Vs:Nat × Option Ob:=(122,some (bU 4 1 aj (KW p)))
abbrev VT:Nat × Option Ob:=(123,some (.cells 27 [(.own 122 true ((KW p).length))]))
abbrev Za:=(aC aj (KW p))
abbrev ahl:List (Nat × TV):=[(2,(vP 63 0)),(4,(vP 65 0)),(10,(vP 72 0)),(28,(vP 123 0)),(235,(.v (.one (.fn 121 0 1 (BF [(.ptr 124 0)])))))]
abbrev aeg:Ob:=(.cells 161 [(.d (aU none 2 bJ.cell u1.arcs)),(.d (Ki u1))])
abbrev adZ:Ob:=(.cells 157 [(.d (l8 [(aU none 2 bJ.cell u1.arcs),(Ki u1)] 0))])
abbrev ZC:DV:=(l8 [(l8 [(aU none 2 bJ.cell u1.arcs),(Ki u1)] 0)] 0)
abbrev abK:TV:=(vD (.fn 121 1 (nV [(ZC u1)])))
abbrev aeb:Nat × TV:=(235,(abK u1))
abbrev ahX:List (Nat × TV):=[(2,(vP 63 0)),(4,(vP 65 0)),(10,(vP 72 0)),(28,(vP 123 0)),(aeb u1)]
abbrev af8:List CV:=[(.d (ZC u1))]
end
theorem A7 (p:ah) (s_:State) {r:(ai × (List Bool) × Int)} (h:ja p s_=some r):Fn Try.prog 32 (OQ s_ p) [] (.iq [(.agg [(.d (aU none 1 (au .i64) r.1.sources)),(.d (aU none 1 (au .i64) r.1.links)),(.d (aU none 2 af.cell r.1.racks))]),(sD (aU none 1 aj r.2.1)),(sI r.2.2)]) []:=by
 refine fN tT Try.func32 rfl rfl fun B=> ?_
 show bn _ _ _ _ _ _ (iF r) _
 unfold ja at h
 refine sz tT (aeU p s_) {fr:=[(0,63),(1,64),(2,65)] } [64] ?_
 refine aQ (aQ (bE h fun r_ hr_ h=> ?_))
 have q0:=fE p s_ hr_
 refine rg tT (agy p s_ r_) [_] {an:=[(2,cA q0 [])] } [] ⟨q0,trivial⟩ ?_
 refine sz tT (ah8 p s_ r_) {} [] ?_
 refine bI h (fun hb9 h=> ?_) (fun hb9 h=> ?_)
 ·refine ct hb9 ?_
  refine sz tT ⟨[(4,(vD (l8 [nS,nS,nS] 0))),(5,(vD nS)),(6,(vI r_))],[]⟩ {} [65] ?_
  refine aI (bH.le (st':=⟨[(4,(vD (l8 [Zz,Zz,(aU none 2 af.cell ([]:List af))] 0))),(5,(vD (aU none 1 aj ([]:List Bool)))),(6,(vI r_))],[]⟩) ⟨⟨⟨_,rfl,dh.v (dX.one (dD.d (M5 ⟨gG.nil',gG.nil',gG.nil',trivial⟩)))⟩,⟨_,rfl,dh.v (dX.one (dD.d gG.nil'))⟩,tR,trivial⟩,trivial⟩) ?_
  refine aR ?_
  obtain rfl:=oi h
  exact rl [(.agg [(.d Zz),(.d Zz),(.d (aU none 2 af.cell ([]:List af)))]),(sD (aU none 1 aj ([]:List Bool))),(sI r_)]
 ·refine cf hb9 ?_
  refine aP (sz tT (agn p s_) {} [] ?_)
  refine aQ (aO h fun⟨a1,a2,a3⟩ h=> ?_)
  refine ri tT ⟨(Y8 p s_),[(Ab p),bO,(66,some (.arr 40 1 (Fy p).length (fun _ j=>[nS].getD j .nilp))),(aeN p)]⟩ [_,(aiq p)=(Zi p),_,_,(Fy p).length=(V4 p),aH (V4 p) 1 (fun _ j=>[nS].getD j .nilp) (fun _ j=>[nS].getD j .nilp)] {an:=[(2, .arr (Fy p).length (fun _ j=>[nS].getD j .nilp))],fr:=[(2,66),(4,67)] } [] ⟨a1,rfl,a2,a3,(List.length_replicate),(fJ _ _ _),trivial⟩ (.trans (bH.W9 (b:=66) (E:=40) (esz:=1) (len:=(Fy p).length) (el:=(fun _ j=>[nS].getD j .nilp)) (el':=Ag sP (Fy p)) (by kernel_rfl) (fun i hi j hj=>match j,hj with|0,_=>P8 _ _ _ _ _ _ _ _)) (.trans (fz ⟨(Y8 p s_),[(Ab p),bO,(U7 p),(aeN p)]⟩ []) (.trans (bH.Ac (E:=0) (esz:=0) (E0:=161) (cs:=(agc p)) (p:=67) (q:=0) (b:=68) (esz0:=0) (el0:=fun _ _=> .nilp) (ob:= .arr 170 2 0 (aC bJ.cell ([]:List bJ))) (fun _ _ _ _ h=> .inl ⟨h,rfl⟩) (by kernel_rfl) (by kernel_rfl) (by kernel_rfl)) (.trans (fz ⟨(Y8 p s_),[(Ab p),bO,(U7 p),(67,some (.cells 161 [(.own 68 false 0),(.own 66 true (TL p))])),(68,some (.arr 170 2 0 (aC bJ.cell ([]:List bJ))))]⟩ []) (bH.le (st':=⟨(Y8 p s_),[(Ab p),bO,(U7 p),(ab7 p),acI]⟩) ⟨⟨tR,tR,tR,tR,tR,trivial⟩,(hN 3 ⟨rfl,bA ⟨cW,dD.refl _,trivial⟩,⟨rfl,oW,trivial⟩⟩)⟩))))) ?_
  refine aQ (aO h fun⟨a1,a2,a3,a4,a5,a6,a7,a8,a9⟩ h=> ?_)
  refine dg tT mX ⟨[(2,(vP 63 0)),(bX s_),(4,(vP 65 0)),(nJ p),(9,(vP 67 0)),(10,(vP 72 0))],[(Ab p),bO,(U7 p),(ab7 p),acI,(VK p),(Nk p),(K7 p),(VY p)]⟩ [_,((p.sources.length:Int):Int)=(p.sources.length:Int),_,_,(M9 p).length=(Xb p),aH (Xb p) 1 (fun _ j=>[(.int .i64 0)].getD j .nilp) (Zo p),_,((p.links.length:Int):Int)=(p.links.length:Int),_,_,(NH p).length=(Rb p),aH (Rb p) 1 (fun _ j=>[(.int .i64 0)].getD j .nilp) (Tp p),_,((p.racks.length:Int):Int)=(p.racks.length:Int),_,_,(Rz p).length=(Vk p),aH (Vk p) 2 (fun _ j=>[(.int .i64 0),(.int .i64 0)].getD j .nilp) (YU p)] {an:=[(3, .arr (M9 p).length (Zo p)),(7, .arr (NH p).length (Tp p)),(11, .arr (Rz p).length (YU p))],fr:=[(3,69),(7,70),(11,71),(13,72)] } [] ⟨a1,rfl,a2,a3,(List.length_replicate),(dZ _ _ _ _ _ (fun j hj=>(match j,hj with|0,_=>rfl))),a4,rfl,a5,a6,(List.length_replicate),(dZ _ _ _ _ _ (fun j hj=>(match j,hj with|0,_=>rfl))),a7,rfl,a8,a9,(List.length_replicate),(dZ _ _ _ _ _ (fun j hj=>(match j,hj with|0,_=>rfl|1,_=>rfl))),trivial⟩ ?_
  refine sz tT ⟨(Vp s_ p),(aeK p)⟩ {an:=[(0, .map 0 (Em (au .i64) ([]:(List (Int × Int)))) (EA (au .i64) ([]:(List (Int × Int)))) []),(1, .map 0 (Em (au .i64) ([]:(List (Int × Int)))) (EA (au .i64) ([]:(List (Int × Int)))) []),(2, .map 0 (Em af.cell ([]:(List (af × Int)))) (EA (au .i64) ([]:(List (af × Int)))) [])],fr:=[(0,73),(1,74),(2,75)] } [] ?_
  refine aQ (sz tT ⟨[(2,(vP 63 0)),(bX s_),(4,(vP 65 0)),(nJ p),(9,(vP 67 0)),(10,(vP 72 0)),q8,pQ,nQ,(Jb p),(Jf p),(68,(vI 0))],(aeK p)⟩ {} [] ?_)
  refine bE h fun y hy h=> ?_
  refine aL [] (AV p s_) (AX p s_) iF hy (fun s f h=> ?_) ?_
  ·clear hy
   show bn _ _ _ _ _ _ ((I5 p s_) f) _
   unfold rW at h
   obtain⟨n0,n1,v8,v0⟩:=s
   refine sz tT ⟨[(2,(vP 63 0)),(bX s_),(4,(vP 65 0)),(nJ p),(9,(vP 67 0)),(10,(vP 72 0)),q8,pQ,nQ,(Jb p),(Jf p),(68,(vI v0)),(69,(k36 p v0))],(Uv p n1 n0 v8)⟩ {} [] ?_
   refine aQ ?_
   refine bI h (fun hb1 h=> ?_) (fun hb1 h=> ?_)
   ·refine ct hb1 ?_
    refine aP (aQ (aB (aQ (aO h fun a1 h=> ?_))))
    refine rg tT ⟨[(2,(vP 63 0)),(bX s_),(4,(vP 65 0)),(nJ p),(9,(vP 67 0)),(10,(vP 72 0)),q8,pQ,nQ,(14,(vI v0)),(Yr p v0),(Jb p),(Jf p),(68,(vI v0))],(Uv p n1 n0 v8)⟩ [_] {fr:=[(3,82)] } [82] ⟨a1,trivial⟩ ?_
    refine aQ (bE h fun ui hr_1 h=> ?_)
    have q0:=fC p s_ v0 hr_1
    refine rg tT ⟨[(2,(vP 63 0)),(bX s_),(4,(vP 65 0)),(nJ p),(9,(vP 67 0)),(10,(vP 72 0)),q8,pQ,nQ,(14,(vI v0)),(Yr p v0),(Jb p),(Jf p),(68,(vI v0)),(76,(vB ui))],(Uv p n1 n0 v8)⟩ [_] {an:=[(3,cA q0 [])] } [] ⟨q0,trivial⟩ ?_
    refine bI h (fun hb h=> ?_) (fun hb h=> ?_)
    ·refine ct hb ?_
     refine bE h fun v4 hr_2 h=> ?_
     have q0:=rk [(0,67),(1,68),(2,66),(3,83)] (bT 0 (IntKind.wrap .i64 ((1:Int)+(XM p v0))) (YM p v0) 0 (⟨n0,n1⟩:Network) hr_2)
     refine rg tT ⟨(afA p s_ v0),(ae9 p v0 v4 v8)⟩ [_,Iz [some .i64] 1 1 v8.length (Em (au .i64) v8) (EA (au .i64) v8) [(.int .i64 v0)] [(cI v4.1)] [] (jG UU v0 v4.1 v8).length (PS v0 v4 v8) (OI v0 v4 v8)] {an:=[(8,cA q0 [67,68,66]),(9, .map (jG UU v0 v4.1 v8).length (PS v0 v4 v8) (OI v0 v4 v8) [])] } [] ⟨q0,(zF (fun _=>rfl) (fun _ _=>rfl) v8 v0 v4.1 rfl rfl),trivial⟩ ?_
     refine ri tT ⟨(acN p s_ v0),(ae9 p v0 v4 v8)⟩ [] {} [] trivial (bH.fin (st':=⟨(acN p s_ v0),[(Ab p),bO,(Py v4),(ah4 v4),(68,some (Hr v4)),(VK p),(Nk p),(K7 p),(VY p),(73,some (OH v0 v4 v8)),V6,NE]⟩) (cs:=[]) ⟨[],[(63,63),(65,65),(66,66),(67,67),(83,68),(69,69),(70,70),(71,71),(72,72),(73,73),(74,74),(75,75)]⟩ [2,3,4,8,9,10,11,12,13,66,67,68] (by kernel_rfl) trivial) ?_
     obtain rfl:=oi h
     exact lN
    ·refine cf hb ?_
     refine aP (rz tT ⟨(acN p s_ v0),(Uv p n1 n0 v8)⟩ {} [] ?_)
     obtain rfl:=oi h
     exact lN
   ·refine cf hb1 ?_
    refine aI (fz ⟨(Vp s_ p),(Uv p n1 n0 v8)⟩ []) ?_
    refine aX ?_
    obtain rfl:=oi h
    exact lB
  ·clear hy
   cases y with
   |brk z=>
    obtain⟨p1,ue,uc,x0,u4⟩:=z
    unfold dA
    refine⟨_, .refl, ?_⟩
    refine aQ (sz tT ⟨[(2,(vP 63 0)),(bX s_),(4,(vP 65 0)),(nJ p),(9,(vP 67 0)),(10,(vP 72 0)),q8,pQ,nQ,(Jl p),(IE p),(90,(vI 0))],(ad1 p p1 x0 uc ue u4)⟩ {} [] ?_)
    refine bE h fun y1 hy h=> ?_
    refine aL [] (Az p s_ p1 x0 u4) (AY p s_ p1 x0 u4) iF hy (fun s f h=> ?_) ?_
    ·clear hy
     show bn _ _ _ _ _ _ ((IB p s_ p1 x0 u4) f) _
     unfold rX at h
     obtain⟨w7,w3,v9,u7⟩:=s
     refine sz tT ⟨[(2,(vP 63 0)),(bX s_),(4,(vP 65 0)),(nJ p),(9,(vP 67 0)),(10,(vP 72 0)),q8,pQ,nQ,(Jl p),(IE p),(90,(vI u7)),(91,(k48 p u7))],(Uk p v9 p1 w3 w7 x0 u4)⟩ {} [] ?_
     refine aQ ?_
     refine bI h (fun hb3 h=> ?_) (fun hb3 h=> ?_)
     ·refine ct hb3 ?_
      refine aP (aQ (aB (aQ (aO h fun a1 h=> ?_))))
      refine rg tT ⟨[(2,(vP 63 0)),(bX s_),(4,(vP 65 0)),(nJ p),(9,(vP 67 0)),(10,(vP 72 0)),q8,pQ,nQ,(16,(vI u7)),(YI p u7),(Jl p),(IE p),(90,(vI u7))],(Uk p v9 p1 w3 w7 x0 u4)⟩ [_] {fr:=[(3,90)] } [90] ⟨a1,trivial⟩ ?_
      refine aQ (bE h fun uj hr_3 h=> ?_)
      have q0:=dI (⟨p.buses,p1,p.links,p.racks⟩:ah) s_ u7 hr_3
      refine rg tT ⟨[(2,(vP 63 0)),(bX s_),(4,(vP 65 0)),(nJ p),(9,(vP 67 0)),(10,(vP 72 0)),q8,pQ,nQ,(16,(vI u7)),(YI p u7),(Jl p),(IE p),(90,(vI u7)),(98,(vB uj))],(Uk p v9 p1 w3 w7 x0 u4)⟩ [_] {an:=[(3,cA q0 [])] } [] ⟨q0,trivial⟩ ?_
      refine bI h (fun hb2 h=> ?_) (fun hb2 h=> ?_)
      ·refine ct hb2 ?_
       refine bE h fun v5 hr_4 h=> ?_
       have q0:=rk [(0,67),(1,68),(2,66),(3,91)] (bT (IntKind.wrap .i64 ((1:Int)+((at' p.links u7.toNat).a))) (IntKind.wrap .i64 ((1:Int)+((at' p.links u7.toNat).b))) (Lg p u7) (Lg p u7) (⟨w7,w3⟩:Network) hr_4)
       refine rg tT ⟨(adN p s_ u7),(agu p u7 p1 v5 x0 u4 v9)⟩ [_,Iz [some .i64] 1 1 v9.length (Em (au .i64) v9) (EA (au .i64) v9) [(.int .i64 u7)] [(cI v5.1)] [] (jG UU u7 v5.1 v9).length (PS u7 v5 v9) (OI u7 v5 v9)] {an:=[(13,cA q0 [67,68,66]),(14, .map (jG UU u7 v5.1 v9).length (PS u7 v5 v9) (OI u7 v5 v9) [])] } [] ⟨q0,(zF (fun _=>rfl) (fun _ _=>rfl) v9 u7 v5.1 rfl rfl),trivial⟩ ?_
       refine ri tT ⟨(acH p s_ u7),(agu p u7 p1 v5 x0 u4 v9)⟩ [] {} [] trivial (bH.fin (st':=⟨(acH p s_ u7),[(Pg p p1),bO,(Py v5),(ah4 v5),(68,some (Hr v5)),(nC x0),(Nk p),(K7 p),(Ye p x0),(Eo u4),(74,some (OH u7 v5 v9)),NE]⟩) (cs:=[]) ⟨[],[(63,63),(65,65),(66,66),(67,67),(91,68),(69,69),(70,70),(71,71),(72,72),(73,73),(74,74),(75,75)]⟩ [2,3,4,8,9,10,11,12,13,88,89,90] (by kernel_rfl) trivial) ?_
       obtain rfl:=oi h
       exact lN
      ·refine cf hb2 ?_
       refine aP (rz tT ⟨(acH p s_ u7),(Uk p v9 p1 w3 w7 x0 u4)⟩ {} [] ?_)
       obtain rfl:=oi h
       exact lN
     ·refine cf hb3 ?_
      refine aI (fz ⟨(Vp s_ p),(Uk p v9 p1 w3 w7 x0 u4)⟩ []) ?_
      refine aX ?_
      obtain rfl:=oi h
      exact lB
    ·clear hy
     cases y1 with
     |brk z=>
      obtain⟨p2,uf,ud,x1,u5⟩:=z
      unfold dA
      refine⟨_, .refl, ?_⟩
      refine aQ (sz tT ⟨[(2,(vP 63 0)),(bX s_),(4,(vP 65 0)),(nJ p),(9,(vP 67 0)),(10,(vP 72 0)),q8,pQ,nQ,(115,(vD (k8 p))),(116,(vI (p.racks.length:Int))),(117,(vI 0))],(aiz p p1 p2 x1 ud uf x0 u4 u5)⟩ {} [] ?_)
      refine bE h fun y3 hy h=> ?_
      refine aL [] (Av p s_ p1 x0 u4 p2 x1 u5) (AQ p p1 x0 u4 p2 x1 u5) iF hy (fun s f h=> ?_) ?_
      ·clear hy
       show bn _ _ _ _ _ _ ((rR p s_ p1 x0 u4 p2 x1 u5) f) _
       unfold r9 at h
       obtain⟨p3,v7,x7,w9,x2,x9,u2,w0,u0⟩:=s
       refine sz tT ⟨[(2,(vP 63 0)),(bX s_),(4,(vP 65 0)),(8,(vI v7)),(9,(vP 67 0)),(10,(vP 72 0)),q8,pQ,nQ,(zy u2),(116,(vI w0)),(117,(vI u0)),(118,(vB (decide (u0<w0))))],(VJ p p1 p2 p3 x2 x0 x1 x9 w9 x7 u4 u5)⟩ {} [] ?_
       refine aQ ?_
       refine bI h (fun hb6 h=> ?_) (fun hb6 h=> ?_)
       ·refine ct hb6 ?_
        refine aP (aQ (aB (aQ (aO h fun a1 h=> ?_))))
        refine rg tT ⟨(ahG s_ v7 u0 u2 w0),(VJ p p1 p2 p3 x2 x0 x1 x9 w9 x7 u4 u5)⟩ [_] {fr:=[(3,110)] } [110] ⟨a1,trivial⟩ ?_
        refine aQ (bE h fun x3 hr_5 h=> ?_)
        have q0:=rk [(0,67),(1,68),(2,66),(3,111)] (bT (YZ p u0) v7 ((at' u2 u0.toNat).power) 0 (⟨x7,w9⟩:Network) hr_5)
        refine rg tT ⟨(ahG s_ v7 u0 u2 w0),(ad9 p p1 x0 u4 x3 p2 p3 x1 x2 u5 x9)⟩ [_] {an:=[(9,cA q0 [67,68,66])] } [] ⟨q0,trivial⟩ ?_
        refine sz tT ⟨[(2,(vP 63 0)),(bX s_),(4,(vP 65 0)),(8,(vI v7)),(9,(vP 67 0)),(10,(vP 72 0)),q8,pQ,nQ,(18,(vI u0)),(Gf u2 u0),(zy u2),(116,(vI w0)),(117,(vI u0)),(I9 u2 u0),(134,(vI 0))],(ad9 p p1 x0 u4 x3 p2 p3 x1 x2 u5 x9)⟩ {} [] ?_
        refine bE h fun y2 hy h=> ?_
        refine aL [5] (Aw p s_ p1 x0 u4 p2 x1 u5 p3 v7 x2 u2 w0 u0) (Au p s_ p1 x0 u4 p2 x1 u5 p3 v7 x2 u2 w0 u0) (rR p s_ p1 x0 u4 p2 x1 u5) hy (fun s f h=> ?_) ?_
        ·clear hy
         show bn _ _ _ _ _ _ ((IU p s_ p1 x0 u4 p2 x1 u5 p3 v7 x2 u2 w0 u0) f) _
         unfold rJ at h
         obtain⟨w8,w4,w1,v3⟩:=s
         refine sz tT ⟨[(2,(vP 63 0)),(bX s_),(4,(vP 65 0)),(8,(vI v7)),(9,(vP 67 0)),(10,(vP 72 0)),q8,pQ,nQ,(18,(vI u0)),(Gf u2 u0),(zy u2),(116,(vI w0)),(117,(vI u0)),(I9 u2 u0),(134,(vI v3)),(135,(vB (decide (v3<2))))],(Ra p p1 p2 p3 w4 w8 x0 x1 x2 u4 u5 w1)⟩ {} [] ?_
         refine aQ ?_
         refine bI h (fun hb5 h=> ?_) (fun hb5 h=> ?_)
         ·refine ct hb5 ?_
          refine aP (aQ (aB (aQ (aO h fun a1 h=> ?_))))
          refine rg tT ⟨[(2,(vP 63 0)),(bX s_),(4,(vP 65 0)),(8,(vI v7)),(9,(vP 67 0)),(10,(vP 72 0)),q8,pQ,nQ,(18,(vI u0)),(Gf u2 u0),(20,(vI v3)),(Y2 u0 u2 v3),(zy u2),(116,(vI w0)),(117,(vI u0)),(I9 u2 u0),(134,(vI v3))],(Ra p p1 p2 p3 w4 w8 x0 x1 x2 u4 u5 w1)⟩ [_,v3.toNat*1+1≤(Vb u2 u0).length,((Vb u2 u0).drop (v3.toNat*1)).take 1=(Yp u0 u2 v3).map .d] {an:=[(1, .vals (Yp u0 u2 v3))] } [] ⟨a1,(Wq (n:=2) (sz:=1) (Nat.le_refl _) a1),(Xd (n:=2) (sz:=1) (g:=fun q=>[(cI (at' [(yx u2 u0).e0,(yx u2 u0).e1] q))]) (by intro q hq;match q,hq with|0,_=>rfl|1,_=>rfl) a1),trivial⟩ ?_
          refine aQ (bE h fun ul hr_6 h=> ?_)
          have q0:=lQ s_ (Wy u0 u2 v3) hr_6
          refine rg tT ⟨[(2,(vP 63 0)),(bX s_),(4,(vP 65 0)),(8,(vI v7)),(9,(vP 67 0)),(10,(vP 72 0)),q8,pQ,nQ,(18,(vI u0)),(Gf u2 u0),(20,(vI v3)),(Y2 u0 u2 v3),(zy u2),(116,(vI w0)),(117,(vI u0)),(I9 u2 u0),(134,(vI v3)),(140,(vB ul))],(Ra p p1 p2 p3 w4 w8 x0 x1 x2 u4 u5 w1)⟩ [_] {an:=[(2,cA q0 [])] } [] ⟨q0,trivial⟩ ?_
          refine bI h (fun hb4 h=> ?_) (fun hb4 h=> ?_)
          ·refine ct hb4 ?_
           refine bE h fun v6 hr_7 h=> ?_
           have q0:=rk [(0,67),(1,111),(2,66),(3,115)] (bT (af4 u0 u2 v3) (YZ p u0) ((at' u2 u0.toNat).power) 0 (⟨w8,w4⟩:Network) hr_7)
           refine rg tT ⟨(ag9 u2 u0 s_ v7 w0 v3),[(dW p p1 p2 p3),bO,(Py v6),(aeX v6),(nC x0),(oQ x1),(qU x2),(qI x2 x0 x1),(Eo u4),(EB u5),(75,some (Ti 164 3 true false 2 1 af.cell (au .i64) (jG (fun a b=>(decide (a.e0=b.e0) && (decide (a.e1=b.e1) && true))) (⟨u0,v3⟩:af) v6.1 w1))),(YR v6)]⟩ [_,Iz [some .i64,some .i64] 2 1 w1.length (Em af.cell w1) (EA (au .i64) w1) [(.int .i64 u0),(.int .i64 v3)] [(cI v6.1)] [] (jG (fun a b=>(decide (a.e0=b.e0) && (decide (a.e1=b.e1) && true))) (⟨u0,v3⟩:af) v6.1 w1).length (Em af.cell (jG (fun a b=>(decide (a.e0=b.e0) && (decide (a.e1=b.e1) && true))) (⟨u0,v3⟩:af) v6.1 w1)) (EA (au .i64) (jG (fun a b=>(decide (a.e0=b.e0) && (decide (a.e1=b.e1) && true))) (⟨u0,v3⟩:af) v6.1 w1))] {an:=[(14,cA q0 [67,111,66]),(15, .map (jG (fun a b=>(decide (a.e0=b.e0) && (decide (a.e1=b.e1) && true))) (⟨u0,v3⟩:af) v6.1 w1).length (Em af.cell (jG (fun a b=>(decide (a.e0=b.e0) && (decide (a.e1=b.e1) && true))) (⟨u0,v3⟩:af) v6.1 w1)) (EA (au .i64) (jG (fun a b=>(decide (a.e0=b.e0) && (decide (a.e1=b.e1) && true))) (⟨u0,v3⟩:af) v6.1 w1)) [])] } [] ⟨q0,(zF (fun _=>rfl) (fun _ _=>rfl) w1 (⟨u0,v3⟩:af) v6.1 rfl rfl),trivial⟩ ?_
           refine ri tT ⟨(aay s_ v7 u0 u2 w0 v3),[(dW p p1 p2 p3),bO,(Py v6),(aeX v6),(nC x0),(oQ x1),(qU x2),(qI x2 x0 x1),(Eo u4),(EB u5),(75,some (Ti 164 3 true false 2 1 af.cell (au .i64) (jG (fun a b=>(decide (a.e0=b.e0) && (decide (a.e1=b.e1) && true))) (⟨u0,v3⟩:af) v6.1 w1))),(YR v6)]⟩ [] {} [] trivial (bH.fin (st':=⟨(aay s_ v7 u0 u2 w0 v3),[(dW p p1 p2 p3),bO,(Py v6),(ahb v6),(nC x0),(oQ x1),(qU x2),(qI x2 x0 x1),(Eo u4),(EB u5),(75,some (Ti 164 3 true false 2 1 af.cell (au .i64) (jG (fun a b=>(decide (a.e0=b.e0) && (decide (a.e1=b.e1) && true))) (⟨u0,v3⟩:af) v6.1 w1))),(111,some (Hr v6))]⟩) (cs:=[]) ⟨[],[(63,63),(65,65),(66,66),(67,67),(69,69),(70,70),(71,71),(72,72),(73,73),(74,74),(75,75),(115,111)]⟩ [2,3,4,8,9,10,11,12,13,18,19,115,116,117,133,134] (by kernel_rfl) trivial) ?_
           obtain rfl:=oi h
           exact lN
          ·refine cf hb4 ?_
           refine aP (rz tT ⟨(aay s_ v7 u0 u2 w0 v3),(Ra p p1 p2 p3 w4 w8 x0 x1 x2 u4 u5 w1)⟩ {} [] ?_)
           obtain rfl:=oi h
           exact lN
         ·refine cf hb5 ?_
          refine aI (fz (aix s_ v7 u2 w0 u0 p p1 p2 p3 w4 w8 x0 x1 x2 u4 u5 w1) []) ?_
          refine aX ?_
          obtain rfl:=oi h
          exact lB
        ·clear hy
         cases y2 with
         |brk z=>
          obtain⟨ub,x8,ug⟩:=z
          unfold dA
          refine⟨_, .refl, ?_⟩
          refine ri tT ⟨(ahy s_ v7 u0 u2 w0),(Ra p p1 p2 p3 x8 ub x0 x1 x2 u4 u5 ug)⟩ [] {} [] trivial (bH.fin (st':=⟨(ahy s_ v7 u0 u2 w0),(VJ p p1 p2 p3 x2 x0 x1 ug x8 ub u4 u5)⟩) (cs:=[]) ⟨[],[(63,63),(65,65),(66,66),(67,67),(111,68),(69,69),(70,70),(71,71),(72,72),(73,73),(74,74),(75,75)]⟩ [2,3,4,8,9,10,11,12,13,115,116,117] (by kernel_rfl) trivial) ?_
          obtain rfl:=oi h
          exact lN
         |ret v=>
          obtain rfl:=oi h
          unfold dA
          intro e st hn ha hR
          cases e with
          |normal=>exact absurd rfl hn
          |exit id=>simp only [qX (b:=5) ha rfl,cond_false];exact hR
          |goto l=>exact hR
          |ret=>exact hR
          |panic c=>exact hR
          |outgrown=>exact hR
       ·refine cf hb6 ?_
        refine aI (fz (aeT v7 p p1 p2 p3 w9 x7 x0 x1 x2 u4 u5 x9) []) ?_
        refine aX ?_
        obtain rfl:=oi h
        exact lB
      ·clear hy
       cases y3 with
       |brk z=>
        obtain⟨v1,ua,x5,x6,v2,u3⟩:=z
        unfold dA
        refine⟨_, .refl, ?_⟩
        refine aQ (aI (.trans (fi ⟨(ab3 ua),[(dW p p1 p2 v1),bO,(67,some (.cells 161 [(.own 68 false x5.length),(.d (.sl (some true) 1 x6.length (fun i j=>evD (Ag sP x6 i j))))])),(MQ x5),(nC x0),(oQ x1),(qU v2),(qI v2 x0 x1),(Eo u4),(EB u5),(FC u3)]⟩ [x6.length=x6.length] [66] ⟨rfl,trivial⟩) (bH.le (st':=⟨(ab3 ua),[(dW p p1 p2 v1),bO,(ahS x5 x6),(MQ x5),(nC x0),(oQ x1),(qU v2),(qI v2 x0 x1),(Eo u4),(EB u5),(FC u3)]⟩) ⟨⟨tR,tR,tR,tR,tR,tR,tR,tR,trivial⟩,(hN 2 ⟨rfl,bA ⟨dD.refl _,dD.d (gG.sl (.inr rfl) (fun i _ j hj=>match j,hj with|0,_=> .refl _)),trivial⟩,(.refl _)⟩)⟩)) ?_)
        refine bE h fun u1 hr_8 h=> ?_
        refine rg tT ⟨[(2,(vP 63 0)),(4,(vP 65 0)),(9,(vP 67 0)),(10,(vP 72 0)),q8,pQ,nQ],[(dW p p1 p2 v1),bO,(yV u1),(zw u1),(nC x0),(oQ x1),(qU v2),(qI v2 x0 x1),(Eo u4),(EB u5),(FC u3)]⟩ [Fn Try.prog 80 [(.one (.ptr 67 0)),(sI ua)] [(ahS x5 x6),(MQ x5)] (.iq []) (afb u1)] {an:=[(2, .call [67,68] (.iq []) (afb u1))] } [] ⟨(Fn.leH (args:=[(.one (.ptr 67 0)),(sI ua)]) (hin:=[(67,some (.cells 161 [(.own 68 false x5.length),(.d (RL x6))])),(MQ x5)]) (rK [(0,67),(1,68)] (pW ua (⟨x5,x6⟩:Network) hr_8)) ⟨dX.refl _,dX.refl _,trivial⟩ ⟨rfl,bA ⟨dD.refl _,dD.d gG.oH,trivial⟩,(.refl _)⟩),trivial⟩ ?_
        refine aQ (bE h fun y4 hy h=> ?_)
        refine ny (Jd p p1 p2 x1 u5 v1 v2 u3 u1) (K:=3) (V:=3) (s0:=(x0)) ⟨3,3,false,false,1,1,u4.length,Em (au .i64) u4,EA (au .i64) u4,[]⟩ 73 116 (fun i=>(sI (at' (u4.map Prod.fst) i))) (fun i=>(sI (at' (u4.map Prod.snd) i))) hy [3,4] (by kernel_rfl) (by kernel_rfl) (by kernel_rfl) (fun _ _=> ⟨rfl,rfl⟩) (fun _ _=> ⟨qZ _ _,qZ _ _⟩) (fun _=>(bH.fin (st':=(agh u1 p p1 p2 v1 x0 x1 v2 u5 u3)) (cs:=[]) ⟨[],[(63,63),(65,65),(67,67),(68,68),(69,69),(70,70),(71,71),(72,72),(74,74),(75,75),(116,116)]⟩ [2,4,9,10,12,13,162] (by kernel_rfl) trivial)) (fun s=>by obtain⟨w5,rfl⟩: ∃q,q=s:=⟨_,rfl⟩;kernel_rfl) (fun B s i s' hi h=> ?_) ?_
        ·clear hy
         unfold sG at h
         obtain⟨w5,rfl⟩: ∃q,q=s:=⟨_,rfl⟩
         refine rwp tT (⟨[(2,(vP 63 0)),(4,(vP 65 0)),(9,(vP 67 0)),(10,(vP 72 0)),pQ,nQ,(22,(vI (at' (u4.map Prod.fst) i))),(23,(vI (at' (u4.map Prod.snd) i))),(162,(vP 116 0))],(ahs u1 p p1 p2 v1 w5 x1 v2 u5 u3)⟩) {fin:=⟨[],[(63,63),(65,65),(67,67),(68,68),(69,69),(70,70),(71,71),(72,72),(74,74),(75,75),(116,116)]⟩,ts:=[2,4,9,10,12,13,22,23,162] } (cs:=[]) (by kernel_rfl) trivial .refl ?_
         refine aO h fun⟨a1,a2⟩ h=> ?_
         refine di tT mX ⟨abO,[(dW p p1 p2 v1),bO,(yV u1),(zw u1),(69,some (.arr 3 1 w5.length (UC u4 u1 i w5))),(oQ x1),(qU v2),(qI v2 w5 x1),(EB u5),(FC u3),(116,none)]⟩ [_,_,_,_,aH w5.length 1 (adv u4 u1 i w5) (UC u4 u1 i w5)] {an:=[(13, .arr 0 (UC u4 u1 i w5))] } [] ⟨a1,(tL a1),a2,(tL a2),(bL _ _ _ _ _ _ _ _ rfl (fun j hj=>(match j,hj with|0,_=>rfl))),trivial⟩ (bH.le (st':=⟨abO,[(dW p p1 p2 v1),bO,(yV u1),(zw u1),(69,some (aio u4 u1 i w5)),(oQ x1),(qU v2),(72,some (.cells 77 [(.own 69 true (aew u4 u1 i w5)),(.own 70 true x1.length),(.own 71 true v2.length)])),(EB u5),(FC u3),(116,none)]⟩) ⟨⟨tR,tR,tR,tR,tR,tR,tR,trivial⟩,(hN 4 ⟨rfl,oW,(hN 2 ⟨rfl,bA ⟨cW,dD.refl _,dD.refl _,trivial⟩,(.refl _)⟩)⟩)⟩) ?_
         obtain rfl:=oi h
         exact⟨.inl rfl,by kernel_rfl⟩
        ·clear hy
         obtain⟨u6,rfl⟩: ∃q,q=y4:=⟨_,rfl⟩
         refine aI (fz ⟨[(2,(vP 63 0)),(4,(vP 65 0)),(9,(vP 67 0)),(10,(vP 72 0)),pQ,nQ],[(dW p p1 p2 v1),bO,(yV u1),(zw u1),(nC u6),(oQ x1),(qU v2),(qI v2 u6 x1),(EB u5),(FC u3)]⟩ []) ?_
         refine aQ (bE h fun y5 hy h=> ?_)
         refine ny (IZ p p1 p2 v1 v2 u3 u1 u6) (K:=3) (V:=3) (s0:=(x1)) ⟨3,3,false,false,1,1,u5.length,Em (au .i64) u5,EA (au .i64) u5,[]⟩ 74 117 (fun i1=>(sI (at' (u5.map Prod.fst) i1))) (fun i1=>(sI (at' (u5.map Prod.snd) i1))) hy [3,4] (by kernel_rfl) (by kernel_rfl) (by kernel_rfl) (fun _ _=> ⟨rfl,rfl⟩) (fun _ _=> ⟨qZ _ _,qZ _ _⟩) (fun _=>(bH.fin (st':=(ain p p1 p2 v1 u1 u6 x1 v2 u3)) (cs:=[]) ⟨[],[(63,63),(65,65),(67,67),(68,68),(69,69),(70,70),(71,71),(72,72),(75,75),(117,117)]⟩ [2,4,9,10,13,182] (by kernel_rfl) trivial)) (fun s=>by obtain⟨w6,rfl⟩: ∃q,q=s:=⟨_,rfl⟩;kernel_rfl) (fun B s i1 s' hi h=> ?_) ?_
         ·clear hy
          unfold rY at h
          obtain⟨w6,rfl⟩: ∃q,q=s:=⟨_,rfl⟩
          refine rwp tT (⟨[(2,(vP 63 0)),(4,(vP 65 0)),(9,(vP 67 0)),(10,(vP 72 0)),nQ,(24,(vI (at' (u5.map Prod.fst) i1))),(25,(vI (at' (u5.map Prod.snd) i1))),(182,(vP 117 0))],(ahT p p1 p2 v1 u1 u6 w6 v2 u3)⟩) {fin:=⟨[],[(63,63),(65,65),(67,67),(68,68),(69,69),(70,70),(71,71),(72,72),(75,75),(117,117)]⟩,ts:=[2,4,9,10,13,24,25,182] } (cs:=[]) (by kernel_rfl) trivial .refl ?_
          refine aO h fun⟨a1,a2,a3⟩ h=> ?_
          refine di tT mX ⟨aa7,[(dW p p1 p2 v1),bO,(yV u1),(zw u1),(nC u6),(70,some (.arr 3 1 w6.length (SH p2 u5 u1 i1 w6))),(qU v2),(qI v2 u6 w6),(FC u3),(117,none)]⟩ [_,_,_,_,_,aH w6.length 1 (afv p2 u5 u1 i1 w6) (SH p2 u5 u1 i1 w6)] {an:=[(19, .arr 0 (SH p2 u5 u1 i1 w6))] } [] ⟨a1,a2,(tL a2),a3,(tL a3),(bL _ _ _ _ _ _ _ _ rfl (fun j hj=>(match j,hj with|0,_=>rfl))),trivial⟩ (bH.le (st':=⟨aa7,[(dW p p1 p2 v1),bO,(yV u1),(zw u1),(nC u6),(70,some (ad3 p2 u5 u1 i1 w6)),(qU v2),(72,some (.cells 77 [(.own 69 true u6.length),(.own 70 true (ae3 p2 u5 u1 i1 w6)),(.own 71 true v2.length)])),(FC u3),(117,none)]⟩) ⟨⟨tR,tR,tR,tR,tR,tR,trivial⟩,(hN 5 ⟨rfl,oW,⟨rfl, .refl _,⟨rfl,bA ⟨dD.refl _,cW,dD.refl _,trivial⟩,⟨rfl, .refl _,⟨rfl, .refl _,trivial⟩⟩⟩⟩⟩)⟩) ?_
          obtain rfl:=oi h
          exact⟨.inl rfl,by kernel_rfl⟩
         ·clear hy
          obtain⟨u8,rfl⟩: ∃q,q=y5:=⟨_,rfl⟩
          refine aI (fz ⟨[(2,(vP 63 0)),(4,(vP 65 0)),(9,(vP 67 0)),(10,(vP 72 0)),nQ],[(dW p p1 p2 v1),bO,(yV u1),(zw u1),(nC u6),(oQ u8),(qU v2),(qI v2 u6 u8),(FC u3)]⟩ []) ?_
          refine aQ (bE h fun y6 hy h=> ?_)
          refine ny (IG p p1 p2 v1 u1 u6 u8) (K:=164) (V:=3) (s0:=(v2)) ⟨164,3,true,false,2,1,u3.length,Em af.cell u3,EA (au .i64) u3,[]⟩ 75 118 (fun i2=>(.agg (X5 u3 i2))) (fun i2=>(sI (at' (u3.map Prod.snd) i2))) hy [3,4,5] (by kernel_rfl) (by kernel_rfl) (by kernel_rfl) (fun _ _=> ⟨rfl,rfl⟩) (fun _ _=> ⟨R4 rfl,qZ _ _⟩) (fun _=>(bH.fin (st':=(ahz p p1 p2 v1 u1 u6 u8 v2)) (cs:=[]) ⟨[],[(63,63),(65,65),(67,67),(68,68),(69,69),(70,70),(71,71),(72,72),(118,118)]⟩ [2,4,9,10,208] (by kernel_rfl) trivial)) (fun s=>by obtain⟨u9,rfl⟩: ∃q,q=s:=⟨_,rfl⟩;kernel_rfl) (fun B s i2 s' hi h=> ?_) ?_
          ·clear hy
           unfold sH at h
           obtain⟨u9,rfl⟩: ∃q,q=s:=⟨_,rfl⟩
           refine rwp tT (⟨(abB u3 i2),[(dW p p1 p2 v1),bO,(yV u1),(zw u1),(nC u6),(oQ u8),(qU u9),(qI u9 u6 u8),(118,none),(121,some (.cells 164 (X5 u3 i2)))]⟩) {fr:=frf [(3,121)],fin:=⟨[],[(63,63),(65,65),(67,67),(68,68),(69,69),(70,70),(71,71),(72,72),(118,118),(121,121)]⟩,ts:=[2,4,9,10,26,27,208] } (cs:=[]) (by kernel_rfl) trivial .refl ?_
           refine bI h (fun hb7 h=> ?_) (fun _ h=> ?_)
           ·skip
            refine aI (bH.le (st':=⟨(abB u3 i2),[(dW p p1 p2 v1),bO,(yV u1),(zw u1),(nC u6),(oQ u8),(qU u9),(qI u9 u6 u8),(118,none),(121,some (.cells 164 [(cI ((at' (u3.map Prod.fst) i2).e0)),(cI 0)]))]⟩) ⟨⟨tR,tR,tR,tR,tR,tR,tR,trivial⟩,(hN 9 ⟨rfl,bA ⟨dD.refl _,dD.of (congrArg (fun n=>CV.d (.int .i64 n)) (of_decide_eq_true hb7)),trivial⟩,trivial⟩)⟩) ?_
            refine aO h fun⟨a1,a2⟩ h=> ?_
            refine di tT mX ⟨WM,[(dW p p1 p2 v1),bO,(yV u1),(zw u1),(nC u6),(oQ u8),(71,some (.arr 164 2 u9.length (TA u1 u3 i2 u9))),(qI u9 u6 u8),(118,none)]⟩ [(0:Int)≤0∧(0:Int)<(2:Nat),(0:Int)≤1∧(1:Int)<(2:Nat),_,_,_,(0:Int)≤0∧(0:Int)<(2:Nat),_,aH u9.length 2 (ag4 u1 u3 i2 u9) (TA u1 u3 i2 u9)] {an:=[(17, .arr 0 (TA u1 u3 i2 u9))] } [] ⟨((by decide)),((by decide)),a1,(tL a1),a2,((by decide)),(tL a2),(bL _ _ _ _ _ _ _ _ rfl (fun j hj=>(match j,hj with|0,_=>rfl|1,_=>rfl))),trivial⟩ (bH.le (st':=⟨WM,[(dW p p1 p2 v1),bO,(yV u1),(zw u1),(nC u6),(oQ u8),(71,some (ahH u1 u3 i2 u9)),(72,some (.cells 77 [(.own 69 true u6.length),(.own 70 true u8.length),(.own 71 true (aen u1 u3 i2 u9))])),(118,none)]⟩) ⟨⟨tR,tR,tR,tR,tR,trivial⟩,(hN 6 ⟨rfl,oW,⟨rfl,bA ⟨dD.refl _,dD.refl _,cW,trivial⟩,(.refl _)⟩⟩)⟩) ?_
            obtain rfl:=oi h
            exact⟨.inl rfl,by kernel_rfl⟩
           ·skip
            refine aO h fun a1 h=> ?_
            refine aI (bH.le (st':=⟨(abB u3 i2),[(dW p p1 p2 v1),bO,(yV u1),(zw u1),(nC u6),(oQ u8),(qU u9),(qI u9 u6 u8),(118,none),(121,some (.cells 164 [(cI ((at' (u3.map Prod.fst) i2).e0)),(cI 1)]))]⟩) ⟨⟨tR,tR,tR,tR,tR,tR,tR,trivial⟩,(hN 9 ⟨rfl,bA ⟨dD.refl _,dD.of (congrArg (fun n=>CV.d (.int .i64 n)) a1),trivial⟩,trivial⟩)⟩) ?_
            refine aO h fun⟨a1,a2⟩ h=> ?_
            refine di tT mX ⟨WM,[(dW p p1 p2 v1),bO,(yV u1),(zw u1),(nC u6),(oQ u8),(71,some (.arr 164 2 u9.length (Tt u1 u3 i2 u9))),(qI u9 u6 u8),(118,none)]⟩ [(0:Int)≤0∧(0:Int)<(2:Nat),(0:Int)≤1∧(1:Int)<(2:Nat),_,_,_,(0:Int)≤1∧(1:Int)<(2:Nat),_,aH u9.length 2 (agH u1 u3 i2 u9) (Tt u1 u3 i2 u9)] {an:=[(17, .arr 0 (Tt u1 u3 i2 u9))] } [] ⟨((by decide)),((by decide)),a1,(tL a1),a2,((by decide)),(tL a2),(bL _ _ _ _ _ _ _ _ rfl (fun j hj=>(match j,hj with|0,_=>rfl|1,_=>rfl))),trivial⟩ (bH.le (st':=⟨WM,[(dW p p1 p2 v1),bO,(yV u1),(zw u1),(nC u6),(oQ u8),(71,some (adX u1 u3 i2 u9)),(72,some (.cells 77 [(.own 69 true u6.length),(.own 70 true u8.length),(.own 71 true (ahh u1 u3 i2 u9))])),(118,none)]⟩) ⟨⟨tR,tR,tR,tR,tR,trivial⟩,(hN 6 ⟨rfl,oW,⟨rfl,bA ⟨dD.refl _,dD.refl _,cW,trivial⟩,(.refl _)⟩⟩)⟩) ?_
            obtain rfl:=oi h
            exact⟨.inl rfl,by kernel_rfl⟩
          ·clear hy
           obtain⟨w2,rfl⟩: ∃q,q=y6:=⟨_,rfl⟩
           refine aI (fz ⟨[(2,(vP 63 0)),(4,(vP 65 0)),(9,(vP 67 0)),(10,(vP 72 0))],[(dW p p1 p2 v1),bO,(yV u1),(zw u1),(nC u6),(oQ u8),(qU w2),(qI w2 u6 u8)]⟩ []) ?_
           refine aQ (aO h fun⟨a1,a2,a3⟩ h=> ?_)
           refine rg tT ⟨[(2,(vP 63 0)),(4,(vP 65 0)),(9,(vP 67 0)),(10,(vP 72 0)),(28,(vP 123 0))],[(dW p p1 p2 v1),bO,(yV u1),(zw u1),(nC u6),(oQ u8),(qU w2),(qI w2 u6 u8),(Vs p),(VT p)]⟩ [_,(p.buses:Int)=p.buses,_,_,(KW p).length=p.buses.toNat,aH p.buses.toNat 1 (fun _ j=>[(.bool false)].getD j .nilp) (Za p)] {an:=[(2, .arr (KW p).length (Za p))],fr:=[(2,122),(3,123)] } [] ⟨a1,rfl,a2,a3,(List.length_replicate),(dZ _ _ _ _ _ (fun j hj=>(match j,hj with|0,_=>rfl))),trivial⟩ ?_
           refine aQ (aQ (bE h fun um hr_9 h=> ?_))
           have q0:=rk [(0,67),(1,68),(2,124)] (iV u1 hr_9)
           refine ri tT ⟨ahl,[(dW p p1 p2 v1),bO,(67,some (aeg u1)),(nC u6),(oQ u8),(qU w2),(qI w2 u6 u8),(Vs p),(VT p),(124,some (.cells 157 [(.ptr 67 0)]))]⟩ [_,u1.arcs.length=u1.arcs.length] {an:=[(1,cA q0 [67,68])] } [68] ⟨q0,rfl,trivial⟩ (.trans (fz ⟨ahl,[(dW p p1 p2 v1),bO,(nC u6),(oQ u8),(qU w2),(qI w2 u6 u8),(Vs p),(VT p),(124,some (adZ u1))]⟩ [67]) (fz ⟨(ahX u1),[(dW p p1 p2 v1),bO,(nC u6),(oQ u8),(qU w2),(qI w2 u6 u8),(Vs p),(VT p)]⟩ [124])) ?_
           refine aB (bE h fun x4 hr_10 h=> ?_)
           refine jN 125 [(2,(vP 63 0)),(28,(vP 123 0))] [] [125,63,123,122] (.iq []) [(125,some (.loop dM 0 [(2,(vP 63 0)),(28,(vP 123 0))])),(dW p p1 p2 v1),(123,some (.cells 27 [(.own 122 true x4.length)])),(122,some (bU 4 1 aj x4))] (abK u1) 121 [] (af8 u1) [(125,some (.loop dM 0 [(2,(vP 63 0)),(28,(vP 123 0))])),(dW p p1 p2 v1),(VT p),(Vs p)] [(.one (.yl 125)),(sD (ZC u1))] dM 0 [(2,(vP 63 0)),(28,(vP 123 0))] (by kernel_rfl) (by kernel_rfl) (by kernel_rfl) (by kernel_rfl) (by kernel_rfl) (by kernel_rfl) (by kernel_rfl) (rK [(0,125),(1,63),(2,123),(3,122)] (jF u1.arcs u1.from_ (⟨p.buses,p1,p2,v1⟩:ah) (KW p) hr_10)) (by kernel_rfl) rfl (EU.zero rfl) (bH.fin (st':=⟨(ahX u1),[(dW p p1 p2 v1),bO,(nC u6),(oQ u8),(qU w2),(qI w2 u6 u8),(122,some (bU 4 1 aj x4)),(123,some (.cells 27 [(.own 122 true x4.length)]))]⟩) (cs:=[]) ⟨[],[(63,63),(65,65),(69,69),(70,70),(71,71),(72,72),(122,122),(123,123)]⟩ [2,4,10,28,235] (by kernel_rfl) trivial) ?_
           refine sj tT mX ⟨[(4,(vP 65 0)),(5,(vD (aU (some true) 1 aj x4))),(6,(vI 0))],[(65,some (.cells 77 [(.d (TN u6)),(.d (TN u8)),(.d (aU (some true) 2 af.cell w2))]))]⟩ [x4.length=x4.length,u6.length=u6.length,u8.length=u8.length,w2.length=w2.length] {} [69,70,71,122] ⟨rfl,rfl,rfl,rfl,trivial⟩ (fz ⟨[(4,(vD (l8 [(TN u6),(TN u8),(aU (some true) 2 af.cell w2)] 0))),(5,(vD (aU (some true) 1 aj x4))),(6,(vI 0))],[]⟩ [65]) ?_
           refine aI (bH.le (st':=⟨[(4,(vD (l8 [(vk u6),(vk u8),(aU none 2 af.cell w2)] 0))),(5,(vD (aU none 1 aj x4))),(6,(vI 0))],[]⟩) ⟨⟨⟨_,rfl,dh.v (dX.one (dD.d (M5 ⟨gG.oH,gG.oH,gG.oH,trivial⟩)))⟩,⟨_,rfl,dh.v (dX.one (dD.d gG.oH))⟩,tR,trivial⟩,trivial⟩) ?_
           refine aR ?_
           obtain rfl:=oi h
           exact rl [(.agg [(.d (vk u6)),(.d (vk u8)),(.d (aU none 2 af.cell w2))]),(sD (aU none 1 aj x4)),(sI 0)]
       |ret v=>
        obtain rfl:=oi h
        unfold dA
        intro e st hn ha hR
        cases e with
        |normal=>exact absurd rfl hn
        |exit id=>exact hR
        |goto l=>exact hR
        |ret=>exact hR
        |panic c=>exact hR
        |outgrown=>exact hR
     |ret v=>
      obtain rfl:=oi h
      unfold dA
      intro e st hn ha hR
      cases e with
      |normal=>exact absurd rfl hn
      |exit id=>exact hR
      |goto l=>exact hR
      |ret=>exact hR
      |panic c=>exact hR
      |outgrown=>exact hR
   |ret v=>
    obtain rfl:=oi h
    unfold dA
    intro e st hn ha hR
    cases e with
    |normal=>exact absurd rfl hn
    |exit id=>exact hR
    |goto l=>exact hR
    |ret=>exact hR
    |panic c=>exact hR
    |outgrown=>exact hR
def Gs  :(Int × (List Source) × (List Link) × (List ay) × (List Bool) × (List Bool) × (List Bool) × (List Bool) × (List Bool) × (List Bool) × (List Bool) × (List Bool))→Exit→St→Prop:=
  fun r=>aW TT [.tmp 6] (vD (.fn 124 3 (nV [(l8 [(.int .i64 r.1),(aU none 5 Source.cell r.2.1),(aU none 6 Link.cell r.2.2.1),(aU none 4 ay.cell r.2.2.2.1)] 0),(l8 [(aU none 1 aj r.2.2.2.2.1),(aU none 1 aj r.2.2.2.2.2.1),(aU none 1 aj r.2.2.2.2.2.2.1),(aU none 1 aj r.2.2.2.2.2.2.2.1),(aU none 1 aj r.2.2.2.2.2.2.2.2.1),(aU none 1 aj r.2.2.2.2.2.2.2.2.2.1),(aU none 1 aj r.2.2.2.2.2.2.2.2.2.2.1)] 0),(l8 [(aU none 1 aj r.2.2.2.2.2.2.2.2.2.2.2)] 0)]))) []
section
variable (p:ah) (s_:State) (u0:(List Bool))
abbrev Yu:List SV:=[(.agg (k7 p)),(.agg (JR s_)),(sD (aU none 1 aj u0))]
abbrev Q5:DV:=(l8 [(aU none 1 aj u0)] 0)
abbrev ady:=(nV [(k11 p),(afU s_),(Q5 u0)])
end
theorem xA (p:ah) (s_:State) (u0:(List Bool)) {r:(Int × (List Source) × (List Link) × (List ay) × (List Bool) × (List Bool) × (List Bool) × (List Bool) × (List Bool) × (List Bool) × (List Bool) × (List Bool))} (h:mD p s_ u0=some r):Fn Try.prog 82 (Yu p s_ u0) [] (vD (.fn 124 3 (nV [(l8 [(.int .i64 r.1),(aU none 5 Source.cell r.2.1),(aU none 6 Link.cell r.2.2.1),(aU none 4 ay.cell r.2.2.2.1)] 0),(l8 [(aU none 1 aj r.2.2.2.2.1),(aU none 1 aj r.2.2.2.2.2.1),(aU none 1 aj r.2.2.2.2.2.2.1),(aU none 1 aj r.2.2.2.2.2.2.2.1),(aU none 1 aj r.2.2.2.2.2.2.2.2.1),(aU none 1 aj r.2.2.2.2.2.2.2.2.2.1),(aU none 1 aj r.2.2.2.2.2.2.2.2.2.2.1)] 0),(l8 [(aU none 1 aj r.2.2.2.2.2.2.2.2.2.2.2)] 0)]))) []:=by
 refine fN tT Try.func82 rfl rfl fun B=> ?_
 show bn _ _ _ _ _ _ (Gs r) _
 unfold mD at h
 refine sz tT ⟨[(aD p),(aK s_),(5,(vD (Q5 u0)))],[]⟩ {fr:=[(0,3),(1,4),(2,5)] } [3,4,5] ?_
 refine sz tT ⟨[(6,(vD (.fn 124 3 (ady p s_ u0))))],[]⟩ {} [] ?_
 refine aR ?_
 obtain rfl:=oi h
 exact rl [(sD (.fn 124 3 (ady p s_ u0)))]
def fo  :(ai × (List Bool) × Int)→Exit→St→Prop:=
  fun r=>aW TT [.cell 4 77, .tmp 5, .tmp 6] (.iq [(.agg [(.own 0 false r.1.sources.length),(.own 1 false r.1.links.length),(.own 2 false r.1.racks.length)]),(.one (.own 3 false r.2.1.length)),(sI r.2.2)]) [(0,some (bU 3 1 (au .i64) r.1.sources)),(1,some (bU 3 1 (au .i64) r.1.links)),(2,some (bU 164 2 af.cell r.1.racks)),(3,some (bU 4 1 aj r.2.1)),(4,none)]
section
variable (s_:State) (p:ah) (u1:Int) (n1:(List (List Int))) (n0:(List bJ)) (u0:(List (Int × Int)))
abbrev rq:Nat × TV:=(11,(.v (.one (.mp 77))))
abbrev pE:Nat × TV:=(12,(.v (.one (.mp 78))))
abbrev nW:Nat × TV:=(13,(.v (.one (.mp 79))))
abbrev agU:List (Nat × TV):=[(2,(vP 63 0)),(bX s_),(4,(vP 65 0)),(nJ p),(9,(vP 71 0)),(10,(vP 76 0)),rq,pE,nW,(Jb p),(Jf p),(68,(vI u1))]
abbrev Uy:Nat × Option Ob:=(70,some (.rows 40 1 n1.length (Ag sP n1) none))
abbrev Vh:Nat × Option Ob:=(71,some (.cells 161 [(.own 72 false n0.length),(.own 70 true n1.length)]))
abbrev MS:Nat × Option Ob:=(72,some (bU 170 2 bJ.cell n0))
abbrev Xn:Nat × Option Ob:=(73,some (bU 3 1 (au .i64) (M9 p)))
abbrev Nc:Nat × Option Ob:=(74,some (abH p))
abbrev Lj:Nat × Option Ob:=(75,some (agC p))
abbrev WT:Nat × Option Ob:=(76,some (.cells 77 [(.own 73 true ((M9 p).length)),(.own 74 true (Ws p)),(.own 75 true (Ue p))]))
abbrev EX:Nat × Option Ob:=(77,some (Zq u0))
abbrev WE:Nat × Option Ob:=(78,some Yb)
abbrev MZ:Nat × Option Ob:=(79,some (Ti 164 3 true false 2 1 af.cell (au .i64) ([]:(List (af × Int)))))
abbrev T9:List (Nat × Option Ob):=[(Ab p),bO,(Uy n1),(Vh n1 n0),(MS n0),(Xn p),(Nc p),(Lj p),(WT p),(EX u0),WE,MZ]
end
def wD (p:ah) (s_:State):((List bJ) × (List (List Int)) × (List (Int × Int)) × Int)→St:=
  fun zz=>match zz with|(n0,n1,u0,u1)=> ⟨(agU s_ p u1),(T9 p n1 n0 u0)⟩
section
variable (s_:State) (p:ah) (x0:(List Int)) (p1:(List Source)) (u0:(List (List Int))) (u1:(List bJ)) (u2:(List (Int × Int)))
abbrev Vn:List (Nat × TV):=[(2,(vP 63 0)),(bX s_),(4,(vP 65 0)),(nJ p),(9,(vP 71 0)),(10,(vP 76 0)),rq,pE,nW]
abbrev mR:Nat × Option Ob:=(73,some (Cz x0))
abbrev Yf:Nat × Option Ob:=(76,some (.cells 77 [(.own 73 true x0.length),(.own 74 true (Ws p)),(.own 75 true (Ue p))]))
abbrev ahq:List (Nat × Option Ob):=[(Pg p p1),bO,(Uy u0),(Vh u0 u1),(MS u1),(mR x0),(Nc p),(Lj p),(Yf p x0),(EX u2),WE,MZ]
end
def vG (p:ah) (s_:State):((List Source) × (List bJ) × (List (List Int)) × (List Int) × (List (Int × Int)))→St:=
  fun zz=>match zz with|(p1,u1,u0,x0,u2)=> ⟨(Vn s_ p),(ahq p x0 p1 u0 u1 u2)⟩
def EM (p:ah) (s_:State):(aJ ((List bJ) × (List (List Int)) × (List (Int × Int)) × Int) (Ex ((List Source) × (List bJ) × (List (List Int)) × (List Int) × (List (Int × Int))) (ai × (List Bool) × Int)))→Exit→St→Prop:=
  LQ 0 [] (wD p s_) (vG p s_) fo
section
variable (s_:State) (p:ah) (u4:Int) (u3:(List (Int × Int))) (p1:(List Source)) (u0:(List (List Int))) (u1:(List bJ)) (x0:(List Int)) (u2:(List (Int × Int)))
abbrev agW:List (Nat × TV):=[(2,(vP 63 0)),(bX s_),(4,(vP 65 0)),(nJ p),(9,(vP 71 0)),(10,(vP 76 0)),rq,pE,nW,(Jl p),(IE p),(90,(vI u4))]
abbrev D8:Nat × Option Ob:=(78,some (Zq u3))
abbrev U0:List (Nat × Option Ob):=[(Pg p p1),bO,(Uy u0),(Vh u0 u1),(MS u1),(mR x0),(Nc p),(Lj p),(Yf p x0),(EX u2),(D8 u3),MZ]
end
def vS (p:ah) (s_:State) (p1:(List Source)) (x0:(List Int)) (u2:(List (Int × Int))):((List bJ) × (List (List Int)) × (List (Int × Int)) × Int)→St:=
  fun zz=>match zz with|(u1,u0,u3,u4)=> ⟨(agW s_ p u4),(U0 p u3 p1 u0 u1 x0 u2)⟩
section
variable (x1:(List Int)) (p:ah) (p1:(List Source)) (p2:(List Link)) (u0:(List (List Int))) (u1:(List bJ)) (x0:(List Int)) (u2:(List (Int × Int))) (u3:(List (Int × Int)))
abbrev oz:Nat × Option Ob:=(74,some (Cz x1))
abbrev ahw:List (Nat × Option Ob):=[(agd p p1 p2),bO,(Uy u0),(Vh u0 u1),(MS u1),(mR x0),(oz x1),(Lj p),(76,some (.cells 77 [(.own 73 true x0.length),(.own 74 true x1.length),(.own 75 true (Ue p))])),(EX u2),(D8 u3),MZ]
end
def wH (p:ah) (s_:State) (p1:(List Source)) (x0:(List Int)) (u2:(List (Int × Int))):((List Link) × (List bJ) × (List (List Int)) × (List Int) × (List (Int × Int)))→St:=
  fun zz=>match zz with|(p2,u1,u0,x1,u3)=> ⟨(Vn s_ p),(ahw x1 p p1 p2 u0 u1 x0 u2 u3)⟩
def Ey (p:ah) (s_:State) (p1:(List Source)) (x0:(List Int)) (u0:(List (Int × Int))):(aJ ((List bJ) × (List (List Int)) × (List (Int × Int)) × Int) (Ex ((List Link) × (List bJ) × (List (List Int)) × (List Int) × (List (Int × Int))) (ai × (List Bool) × Int)))→Exit→St→Prop:=
  LQ 2 [] (vS p s_ p1 x0 u0) (wH p s_ p1 x0 u0) fo
section
variable (s_:State) (u4:Int) (u6:(List ay)) (u7:Int) (u8:Int) (x2:(List af)) (x0:(List Int)) (x1:(List Int)) (u5:(List (af × Int))) (p:ah) (p1:(List Source)) (p2:(List Link)) (p3:(List ay)) (u0:(List (List Int))) (u1:(List bJ)) (u2:(List (Int × Int))) (u3:(List (Int × Int)))
abbrev agT:List (Nat × TV):=[(2,(vP 63 0)),(bX s_),(4,(vP 65 0)),(8,(vI u4)),(9,(vP 71 0)),(10,(vP 76 0)),rq,pE,nW,(zy u6),(116,(vI u7)),(117,(vI u8))]
abbrev qi:Nat × Option Ob:=(75,some (bU 164 2 af.cell x2))
abbrev qQ:Nat × Option Ob:=(76,some (.cells 77 [(.own 73 true x0.length),(.own 74 true x1.length),(.own 75 true x2.length)]))
abbrev Gi:Nat × Option Ob:=(79,some (Ti 164 3 true false 2 1 af.cell (au .i64) u5))
abbrev Xj:List (Nat × Option Ob):=[(dW p p1 p2 p3),bO,(Uy u0),(Vh u0 u1),(MS u1),(mR x0),(oz x1),(qi x2),(qQ x2 x0 x1),(EX u2),(D8 u3),(Gi u5)]
end
def vR (p:ah) (s_:State) (p1:(List Source)) (x0:(List Int)) (u2:(List (Int × Int))) (p2:(List Link)) (x1:(List Int)) (u3:(List (Int × Int))):((List ay) × Int × (List bJ) × (List (List Int)) × (List af) × (List (af × Int)) × (List ay) × Int × Int)→St:=
  fun zz=>match zz with|(p3,u4,u1,u0,x2,u5,u6,u7,u8)=> ⟨(agT s_ u4 u6 u7 u8),(Xj x2 x0 x1 u5 p p1 p2 p3 u0 u1 u2 u3)⟩
section
variable (u6:Int) (p:ah) (p1:(List Source)) (p2:(List Link)) (u5:(List ay)) (u0:(List (List Int))) (u1:(List bJ)) (x0:(List Int)) (x1:(List Int)) (u2:(List af)) (u3:(List (Int × Int))) (u4:(List (Int × Int))) (u7:(List (af × Int)))
abbrev aaZ:List (Nat × TV):=[(2,(vP 63 0)),(4,(vP 65 0)),(8,(vI u6)),(9,(vP 71 0)),(10,(vP 76 0)),rq,pE,nW]
abbrev afq:St:=⟨(aaZ u6),(Xj u2 x0 x1 u7 p p1 p2 u5 u0 u1 u3 u4)⟩
end
def vJ (p:ah) (p1:(List Source)) (x0:(List Int)) (u3:(List (Int × Int))) (p2:(List Link)) (x1:(List Int)) (u4:(List (Int × Int))):((List ay) × Int × (List bJ) × (List (List Int)) × (List af) × (List (af × Int)))→St:=
  fun zz=>match zz with|(u5,u6,u1,u0,u2,u7)=>(afq u6 p p1 p2 u5 u0 u1 x0 x1 u2 u3 u4 u7)
def oD (p:ah) (s_:State) (p1:(List Source)) (x0:(List Int)) (u0:(List (Int × Int))) (p2:(List Link)) (x1:(List Int)) (u1:(List (Int × Int))):(aJ ((List ay) × Int × (List bJ) × (List (List Int)) × (List af) × (List (af × Int)) × (List ay) × Int × Int) (Ex ((List ay) × Int × (List bJ) × (List (List Int)) × (List af) × (List (af × Int))) (ai × (List Bool) × Int)))→Exit→St→Prop:=
  LQ 4 [] (vR p s_ p1 x0 u0 p2 x1 u1) (vJ p p1 x0 u0 p2 x1 u1) fo
section
variable (s_:State) (u6:Int) (u0:Int) (u1:(List ay)) (u7:Int) (u9:Int) (p:ah) (p1:(List Source)) (p2:(List Link)) (p3:(List ay)) (u2:(List (List Int))) (u3:(List bJ)) (x0:(List Int)) (x1:(List Int)) (x2:(List af)) (u4:(List (Int × Int))) (u5:(List (Int × Int))) (u8:(List (af × Int)))
abbrev agz:List (Nat × TV):=[(2,(vP 63 0)),(bX s_),(4,(vP 65 0)),(8,(vI u6)),(9,(vP 71 0)),(10,(vP 76 0)),rq,pE,nW,(18,(vI u0)),(Gf u1 u0),(zy u1),(116,(vI u7)),(117,(vI u0)),(I9 u1 u0),(134,(vI u9))]
abbrev QN:List (Nat × Option Ob):=[(dW p p1 p2 p3),bO,(Uy u2),(71,some (.cells 161 [(.own 115 false u3.length),(.own 70 true u2.length)])),(mR x0),(oz x1),(qi x2),(qQ x2 x0 x1),(EX u4),(D8 u5),(Gi u8),(115,some (bU 170 2 bJ.cell u3))]
end
def vz (p:ah) (s_:State) (p1:(List Source)) (x0:(List Int)) (u4:(List (Int × Int))) (p2:(List Link)) (x1:(List Int)) (u5:(List (Int × Int))) (p3:(List ay)) (u6:Int) (x2:(List af)) (u1:(List ay)) (u7:Int) (u0:Int):((List bJ) × (List (List Int)) × (List (af × Int)) × Int)→St:=
  fun zz=>match zz with|(u3,u2,u8,u9)=> ⟨(agz s_ u6 u0 u1 u7 u9),(QN p p1 p2 p3 u2 u3 x0 x1 x2 u4 u5 u8)⟩
section
variable (s_:State) (u4:Int) (u5:(List ay)) (u6:Int) (u7:Int) (p:ah) (p1:(List Source)) (p2:(List Link)) (p3:(List ay)) (u0:(List (List Int))) (u1:(List bJ)) (x0:(List Int)) (x1:(List Int)) (x2:(List af)) (u2:(List (Int × Int))) (u3:(List (Int × Int))) (u8:(List (af × Int)))
abbrev afN:St:=⟨(agT s_ u4 u5 u6 u7),(QN p p1 p2 p3 u0 u1 x0 x1 x2 u2 u3 u8)⟩
end
def wI (p:ah) (s_:State) (p1:(List Source)) (x0:(List Int)) (u2:(List (Int × Int))) (p2:(List Link)) (x1:(List Int)) (u3:(List (Int × Int))) (p3:(List ay)) (u4:Int) (x2:(List af)) (u5:(List ay)) (u6:Int) (u7:Int):((List bJ) × (List (List Int)) × (List (af × Int)))→St:=
  fun zz=>match zz with|(u1,u0,u8)=>(afN s_ u4 u5 u6 u7 p p1 p2 p3 u0 u1 x0 x1 x2 u2 u3 u8)
def EQ (p:ah) (s_:State) (p1:(List Source)) (x0:(List Int)) (u0:(List (Int × Int))) (p2:(List Link)) (x1:(List Int)) (u1:(List (Int × Int))) (p3:(List ay)) (u2:Int) (x2:(List af)) (u3:(List ay)) (u4:Int) (u5:Int):(aJ ((List bJ) × (List (List Int)) × (List (af × Int)) × Int) (Ex ((List bJ) × (List (List Int)) × (List (af × Int))) (aJ ((List ay) × Int × (List bJ) × (List (List Int)) × (List af) × (List (af × Int)) × (List ay) × Int × Int) (Ex ((List ay) × Int × (List bJ) × (List (List Int)) × (List af) × (List (af × Int))) (ai × (List Bool) × Int)))))→Exit→St→Prop:=
  LQ 6 [5] (vz p s_ p1 x0 u0 p2 x1 u1 p3 u2 x2 u3 u4 u5) (wI p s_ p1 x0 u0 p2 x1 u1 p3 u2 x2 u3 u4 u5) (oD p s_ p1 x0 u0 p2 x1 u1)
section
variable (u0:Network) (p:ah) (p1:(List Source)) (p2:(List Link)) (u4:(List ay)) (u2:(List Int)) (x1:(List Int)) (u1:(List af)) (u3:(List (Int × Int))) (u5:(List (af × Int)))
abbrev acB:List (Nat × TV):=[(2,(vP 63 0)),(4,(vP 65 0)),(9,(vP 71 0)),(10,(vP 76 0)),pE,nW,(162,(vP 120 0))]
abbrev zD:Nat × Option Ob:=(71,some (.cells 161 [(.own 72 false u0.arcs.length),(.d (Ki u0))]))
abbrev yR:Nat × Option Ob:=(72,some (bU 170 2 bJ.cell u0.arcs))
abbrev agE:List (Nat × Option Ob):=[(dW p p1 p2 u4),bO,(zD u0),(yR u0),(mR u2),(oz x1),(qi u1),(qQ u1 u2 x1),(D8 u3),(Gi u5),(120,none)]
abbrev ahE:St:=⟨acB,(agE u0 p p1 p2 u4 u2 x1 u1 u3 u5)⟩
end
def Ef (p:ah) (p1:(List Source)) (p2:(List Link)) (x1:(List Int)) (u3:(List (Int × Int))) (u4:(List ay)) (u1:(List af)) (u5:(List (af × Int))) (u0:Network):(List Int)→St:=
  fun u2=>(ahE u0 p p1 p2 u4 u2 x1 u1 u3 u5)
section
variable (p:ah) (p1:(List Source)) (p2:(List Link)) (u4:(List ay)) (u0:Network) (u2:(List Int)) (u3:(List Int)) (u1:(List af)) (u5:(List (af × Int)))
abbrev acu:List (Nat × TV):=[(2,(vP 63 0)),(4,(vP 65 0)),(9,(vP 71 0)),(10,(vP 76 0)),nW,(182,(vP 121 0))]
abbrev adP:List (Nat × Option Ob):=[(dW p p1 p2 u4),bO,(zD u0),(yR u0),(mR u2),(oz u3),(qi u1),(qQ u1 u2 u3),(Gi u5),(121,none)]
abbrev aem:St:=⟨acu,(adP p p1 p2 u4 u0 u2 u3 u1 u5)⟩
end
def Ea (p:ah) (p1:(List Source)) (p2:(List Link)) (u4:(List ay)) (u1:(List af)) (u5:(List (af × Int))) (u0:Network) (u2:(List Int)):(List Int)→St:=
  fun u3=>(aem p p1 p2 u4 u0 u2 u3 u1 u5)
section
variable (p:ah) (p1:(List Source)) (p2:(List Link)) (u4:(List ay)) (u0:Network) (u1:(List Int)) (u2:(List Int)) (u3:(List af))
abbrev Wh:List (Nat × TV):=[(2,(vP 63 0)),(4,(vP 65 0)),(9,(vP 71 0)),(10,(vP 76 0)),(208,(vP 122 0))]
abbrev adR:St:=⟨Wh,[(dW p p1 p2 u4),bO,(zD u0),(yR u0),(mR u1),(oz u2),(qi u3),(qQ u3 u1 u2),(122,none)]⟩
end
def EP (p:ah) (p1:(List Source)) (p2:(List Link)) (u4:(List ay)) (u0:Network) (u1:(List Int)) (u2:(List Int)):(List af)→St:=
  fun u3=>(adR p p1 p2 u4 u0 u1 u2 u3)
section
variable (r_:Int) (s_:State) (p:ah) (v4:(Int × Network)) (v0:Int) (v9:(List (Int × Int))) (p1:(List Source)) (v5:(Int × Network)) (x0:(List Int)) (u4:(List (Int × Int))) (u7:Int) (w0:(List (Int × Int))) (v7:Int) (u0:Int) (u2:(List ay)) (w1:Int) (x4:(Int × Network)) (p2:(List Link)) (p3:(List ay)) (x1:(List Int)) (x2:(List af)) (u5:(List (Int × Int))) (x9:(List (af × Int))) (v6:(Int × Network)) (v3:Int) (x5:(List bJ)) (x6:(List (List Int))) (u1:Network) (u3:(List (af × Int))) (i2:Nat) (u6:(List Int))
abbrev acz:List (Nat × TV):=[(4,(vP 65 0)),(5,(vO 66 false 0)),(6,(vI r_))]
abbrev abw:Nat × Option Ob:=(66,some (.arr 4 1 0 (aC aj ([]:List Bool))))
abbrev aco:Nat × Option Ob:=(67,some (.arr 3 1 0 (aC (au .i64) ([]:List Int))))
abbrev af7:List CV:=[(.own 0 false (([]:List Int).length)),(.own 1 false (([]:List Int).length)),(.own 2 false (([]:List af).length))]
abbrev YL:List (Nat × TV):=[(2,(vP 63 0)),(bX s_),(4,(vP 65 0)),(nJ p),(9,(vP 71 0))]
abbrev aeZ:List CV:=[(.d nS),(.own 70 true (TL p))]
abbrev ah0:Nat × Option Ob:=(71,some (.cells 161 (aeZ p)))
abbrev Xw:Nat × Option Ob:=(70,some (.rows 40 1 (Fy p).length (aeD p) none))
abbrev aa1:Nat × Option Ob:=(71,some (.cells 161 [(.own 72 false (([]:List bJ).length)),(.own 70 true (TL p))]))
abbrev acp:Nat × Option Ob:=(72,some (bU 170 2 bJ.cell ([]:List bJ)))
abbrev ahW:List (Nat × Option Ob):=[(Ab p),bO,(Xw p),(aa1 p),acp,(Xn p),(Nc p),(Lj p),(WT p),(77,some Yb),WE,MZ]
abbrev Qc:Nat × Option Ob:=(70,some (.rows 40 1 v4.2.from_.length (Ag sP v4.2.from_) none))
abbrev aiy:List (Nat × Option Ob):=[(Ab p),bO,(Qc v4),(71,some (.cells 161 [(.own 87 false v4.2.arcs.length),(.own 70 true v4.2.from_.length)])),(Xn p),(Nc p),(Lj p),(WT p),(77,some (OH v0 v4 v9)),WE,MZ,(87,some (Hr v4))]
abbrev acg:List (Nat × TV):=[(2,(vP 63 0)),(bX s_),(4,(vP 65 0)),(nJ p),(9,(vP 71 0)),(10,(vP 76 0)),rq,pE,nW,(Jb p),(Jf p),(68,(k3 v0))]
abbrev ah7:Nat × Option Ob:=(71,some (.cells 161 [(.own 72 false v4.2.arcs.length),(.own 70 true v4.2.from_.length)]))
abbrev af2:List (Nat × Option Ob):=[(Pg p p1),bO,(Qc v5),(71,some (.cells 161 [(.own 95 false v5.2.arcs.length),(.own 70 true v5.2.from_.length)])),(mR x0),(Nc p),(Lj p),(Yf p x0),(EX u4),(78,some (OH u7 v5 w0)),MZ,(95,some (Hr v5))]
abbrev abp:List (Nat × TV):=[(2,(vP 63 0)),(bX s_),(4,(vP 65 0)),(nJ p),(9,(vP 71 0)),(10,(vP 76 0)),rq,pE,nW,(Jl p),(IE p),(90,(k3 u7))]
abbrev afw:List (Nat × TV):=[(2,(vP 63 0)),(bX s_),(4,(vP 65 0)),(8,(vI v7)),(9,(vP 71 0)),(10,(vP 76 0)),rq,pE,nW,(18,(vI u0)),(Gf u2 u0),(zy u2),(116,(vI w1)),(117,(vI u0))]
abbrev aeG:Nat × Option Ob:=(71,some (.cells 161 [(.own 115 false x4.2.arcs.length),(.own 70 true x4.2.from_.length)]))
abbrev aeM:List (Nat × Option Ob):=[(dW p p1 p2 p3),bO,(Qc x4),(aeG x4),(mR x0),(oz x1),(qi x2),(qQ x2 x0 x1),(EX u4),(D8 u5),(Gi x9),(YR x4)]
abbrev ags:Nat × Option Ob:=(71,some (.cells 161 [(.own 119 false v6.2.arcs.length),(.own 70 true v6.2.from_.length)]))
abbrev abo:List (Nat × TV):=[(2,(vP 63 0)),(bX s_),(4,(vP 65 0)),(8,(vI v7)),(9,(vP 71 0)),(10,(vP 76 0)),rq,pE,nW,(18,(vI u0)),(Gf u2 u0),(zy u2),(116,(vI w1)),(117,(vI u0)),(I9 u2 u0),(134,(k3 v3))]
abbrev agb:List (Nat × TV):=[(2,(vP 63 0)),(bX s_),(4,(vP 65 0)),(8,(vI v7)),(9,(vP 71 0)),(10,(vP 76 0)),rq,pE,nW,(zy u2),(116,(vI w1)),(117,(k3 u0))]
abbrev ait:Nat × Option Ob:=(71,some (.cells 161 [(.own 72 false x5.length),(.d (aU (some true) 1 (LA 1 (au .i64)) x6))]))
abbrev ahp:List (Nat × Option Ob):=[(zD u1),(yR u1)]
abbrev acO:List (Nat × TV):=[(2,(vP 63 0)),(4,(vP 65 0)),(9,(vP 71 0)),(10,(vP 76 0)),(26,(vP 125 0)),(27,(vI (at' (u3.map Prod.snd) i2))),(208,(vP 122 0))]
abbrev WV:Nat × Option Ob:=(126,some (bU 4 1 aj (KW p)))
abbrev V5:Nat × Option Ob:=(127,some (.cells 27 [(.own 126 true ((KW p).length))]))
abbrev adE:List (Nat × TV):=[(2,(vP 63 0)),(4,(vP 65 0)),(10,(vP 76 0)),(28,(vP 127 0)),(235,(.v (.one (.fn 121 0 1 (BF [(.ptr 128 0)])))))]
abbrev aep:List (Nat × TV):=[(2,(vP 63 0)),(4,(vP 65 0)),(10,(vP 76 0)),(28,(vP 127 0)),(aeb u1)]
abbrev GQ:Nat × Option Ob:=(0,some (Cz u6))
end
theorem wT (p:ah) (s_:State) {r:(ai × (List Bool) × Int)} (h:ja p s_=some r):Fn Try.prog 32 (OQ s_ p) [] (.iq [(.agg [(.own 0 false r.1.sources.length),(.own 1 false r.1.links.length),(.own 2 false r.1.racks.length)]),(.one (.own 3 false r.2.1.length)),(sI r.2.2)]) [(0,some (bU 3 1 (au .i64) r.1.sources)),(1,some (bU 3 1 (au .i64) r.1.links)),(2,some (bU 164 2 af.cell r.1.racks)),(3,some (bU 4 1 aj r.2.1)),(4,none)]:=by
 refine fN tT Try.func32 rfl rfl fun B=> ?_
 show bn _ _ _ _ _ _ (fo r) _
 unfold ja at h
 refine sz tT (aeU p s_) {fr:=[(0,63),(1,64),(2,65)] } [64] ?_
 refine aQ (aQ (bE h fun r_ hr_ h=> ?_))
 have q0:=fE p s_ hr_
 refine rg tT (agy p s_ r_) [_] {an:=[(2,cA q0 [])] } [] ⟨q0,trivial⟩ ?_
 refine sz tT (ah8 p s_ r_) {} [] ?_
 refine bI h (fun hb9 h=> ?_) (fun hb9 h=> ?_)
 ·refine ct hb9 ?_
  refine sz tT ⟨[(4,(vP 65 0)),(5,(vD nS)),(6,(vI r_))],[bO]⟩ {} [] ?_
  refine aI (.trans (bH.WK (t:=5) (b:=66) (esz0:=0) (el0:=fun _ _=> .nilp) (E:=4) (esz:=1) (el:=aC aj ([]:List Bool)) (by kernel_rfl) (by kernel_rfl)) (.trans (bH.Ac (E:=0) (esz:=0) (E0:=77) (cs:=[(.d nS),(.d nS),(.d nS)]) (p:=65) (q:=0) (b:=67) (esz0:=0) (el0:=fun _ _=> .nilp) (ob:= .arr 3 1 0 (aC (au .i64) ([]:List Int))) (fun _ _ _ _ h=> .inl ⟨h,rfl⟩) (by kernel_rfl) (by kernel_rfl) (by kernel_rfl)) (.trans (fz ⟨(acz r_),[(65,some (.cells 77 [(.own 67 false 0),(.d nS),(.d nS)])),abw,aco]⟩ []) (.trans (bH.Ac (E:=0) (esz:=0) (E0:=77) (cs:=[(.own 67 false 0),(.d nS),(.d nS)]) (p:=65) (q:=1) (b:=68) (esz0:=0) (el0:=fun _ _=> .nilp) (ob:= .arr 3 1 0 (aC (au .i64) ([]:List Int))) (fun _ _ _ _ h=> .inl ⟨h,rfl⟩) (by kernel_rfl) (by kernel_rfl) (by kernel_rfl)) (.trans (fz ⟨(acz r_),[(65,some (.cells 77 [(.own 67 false 0),(.own 68 false 0),(.d nS)])),abw,aco,(68,some (.arr 3 1 0 (aC (au .i64) ([]:List Int))))]⟩ []) (.trans (bH.Ac (E:=0) (esz:=0) (E0:=77) (cs:=[(.own 67 false 0),(.own 68 false 0),(.d nS)]) (p:=65) (q:=2) (b:=69) (esz0:=0) (el0:=fun _ _=> .nilp) (ob:= .arr 164 2 0 (aC af.cell ([]:List af))) (fun _ _ _ _ h=> .inl ⟨h,rfl⟩) (by kernel_rfl) (by kernel_rfl) (by kernel_rfl)) (.trans (fz ⟨(acz r_),[(65,some (.cells 77 [(.own 67 false 0),(.own 68 false 0),(.own 69 false 0)])),abw,aco,(68,some (.arr 3 1 0 (aC (au .i64) ([]:List Int)))),(69,some (.arr 164 2 0 (aC af.cell ([]:List af))))]⟩ []) (.trans (bH.fin (st':=⟨[(4,(vP 4 0)),(5,(vO 3 false 0)),(6,(vI r_))],[(0,some (.arr 3 1 0 (aC (au .i64) ([]:List Int)))),(1,some (.arr 3 1 0 (aC (au .i64) ([]:List Int)))),(2,some (.arr 164 2 0 (aC af.cell ([]:List af)))),(3,some (.arr 4 1 0 (aC aj ([]:List Bool)))),(4,some (.cells 77 [(.own 0 false 0),(.own 1 false 0),(.own 2 false 0)]))]⟩) (cs:=[]) ⟨[],[(67,0),(68,1),(69,2),(66,3),(65,4)]⟩ [4,5,6] (by kernel_rfl) trivial) (bH.le (st':=⟨[(4,(vP 4 0)),(5,(vO 3 false (([]:List Bool).length))),(6,(vI r_))],[(0,some (bU 3 1 (au .i64) ([]:List Int))),(1,some (bU 3 1 (au .i64) ([]:List Int))),(2,some (bU 164 2 af.cell ([]:List af))),(3,some (bU 4 1 aj ([]:List Bool))),(4,some (.cells 77 af7))]⟩) ⟨⟨tR,⟨_,rfl,dh.v (dX.one cW)⟩,tR,trivial⟩,⟨rfl,oW,⟨rfl,oW,⟨rfl,oW,⟨rfl,oW,⟨rfl,bA ⟨cW,cW,cW,trivial⟩,trivial⟩⟩⟩⟩⟩⟩))))))))) ?_
  refine aR ?_
  obtain rfl:=oi h
  exact rh [(.agg af7),(.one (.own 3 false (([]:List Bool).length))),(sI r_)] (.refl _) (hN 4 ⟨rfl,trivial,trivial⟩)
 ·refine cf hb9 ?_
  refine aP (sz tT (agn p s_) {} [] ?_)
  refine aQ (aO h fun⟨a1,a2,a3⟩ h=> ?_)
  refine ri tT ⟨(YL s_ p),[(Ab p),bO,(70,some (.arr 40 1 (Fy p).length (fun _ j=>[nS].getD j .nilp))),(ah0 p)]⟩ [_,(aiq p)=(Zi p),_,_,(Fy p).length=(V4 p),aH (V4 p) 1 (fun _ j=>[nS].getD j .nilp) (fun _ j=>[nS].getD j .nilp)] {an:=[(2, .arr (Fy p).length (fun _ j=>[nS].getD j .nilp))],fr:=[(2,70),(4,71)] } [] ⟨a1,rfl,a2,a3,(List.length_replicate),(fJ _ _ _),trivial⟩ (.trans (bH.W9 (b:=70) (E:=40) (esz:=1) (len:=(Fy p).length) (el:=(fun _ j=>[nS].getD j .nilp)) (el':=Ag sP (Fy p)) (by kernel_rfl) (fun i hi j hj=>match j,hj with|0,_=>P8 _ _ _ _ _ _ _ _)) (.trans (fz ⟨(YL s_ p),[(Ab p),bO,(Xw p),(ah0 p)]⟩ []) (.trans (bH.Ac (E:=0) (esz:=0) (E0:=161) (cs:=(aeZ p)) (p:=71) (q:=0) (b:=72) (esz0:=0) (el0:=fun _ _=> .nilp) (ob:= .arr 170 2 0 (aC bJ.cell ([]:List bJ))) (fun _ _ _ _ h=> .inl ⟨h,rfl⟩) (by kernel_rfl) (by kernel_rfl) (by kernel_rfl)) (.trans (fz ⟨(YL s_ p),[(Ab p),bO,(Xw p),(71,some (.cells 161 [(.own 72 false 0),(.own 70 true (TL p))])),(72,some (.arr 170 2 0 (aC bJ.cell ([]:List bJ))))]⟩ []) (bH.le (st':=⟨(YL s_ p),[(Ab p),bO,(Xw p),(aa1 p),acp]⟩) ⟨⟨tR,tR,tR,tR,tR,trivial⟩,(hN 3 ⟨rfl,bA ⟨cW,dD.refl _,trivial⟩,⟨rfl,oW,trivial⟩⟩)⟩))))) ?_
  refine aQ (aO h fun⟨a1,a2,a3,a4,a5,a6,a7,a8,a9⟩ h=> ?_)
  refine dg tT mX ⟨[(2,(vP 63 0)),(bX s_),(4,(vP 65 0)),(nJ p),(9,(vP 71 0)),(10,(vP 76 0))],[(Ab p),bO,(Xw p),(aa1 p),acp,(Xn p),(Nc p),(Lj p),(WT p)]⟩ [_,((p.sources.length:Int):Int)=(p.sources.length:Int),_,_,(M9 p).length=(Xb p),aH (Xb p) 1 (fun _ j=>[(.int .i64 0)].getD j .nilp) (Zo p),_,((p.links.length:Int):Int)=(p.links.length:Int),_,_,(NH p).length=(Rb p),aH (Rb p) 1 (fun _ j=>[(.int .i64 0)].getD j .nilp) (Tp p),_,((p.racks.length:Int):Int)=(p.racks.length:Int),_,_,(Rz p).length=(Vk p),aH (Vk p) 2 (fun _ j=>[(.int .i64 0),(.int .i64 0)].getD j .nilp) (YU p)] {an:=[(3, .arr (M9 p).length (Zo p)),(7, .arr (NH p).length (Tp p)),(11, .arr (Rz p).length (YU p))],fr:=[(3,73),(7,74),(11,75),(13,76)] } [] ⟨a1,rfl,a2,a3,(List.length_replicate),(dZ _ _ _ _ _ (fun j hj=>(match j,hj with|0,_=>rfl))),a4,rfl,a5,a6,(List.length_replicate),(dZ _ _ _ _ _ (fun j hj=>(match j,hj with|0,_=>rfl))),a7,rfl,a8,a9,(List.length_replicate),(dZ _ _ _ _ _ (fun j hj=>(match j,hj with|0,_=>rfl|1,_=>rfl))),trivial⟩ ?_
  refine sz tT ⟨(Vn s_ p),(ahW p)⟩ {an:=[(0, .map 0 (Em (au .i64) ([]:(List (Int × Int)))) (EA (au .i64) ([]:(List (Int × Int)))) []),(1, .map 0 (Em (au .i64) ([]:(List (Int × Int)))) (EA (au .i64) ([]:(List (Int × Int)))) []),(2, .map 0 (Em af.cell ([]:(List (af × Int)))) (EA (au .i64) ([]:(List (af × Int)))) [])],fr:=[(0,77),(1,78),(2,79)] } [] ?_
  refine aQ (sz tT ⟨[(2,(vP 63 0)),(bX s_),(4,(vP 65 0)),(nJ p),(9,(vP 71 0)),(10,(vP 76 0)),rq,pE,nW,(Jb p),(Jf p),(68,(vI 0))],(ahW p)⟩ {} [] ?_)
  refine bE h fun y hy h=> ?_
  refine aL [] (wD p s_) (vG p s_) fo hy (fun s f h=> ?_) ?_
  ·clear hy
   show bn _ _ _ _ _ _ ((EM p s_) f) _
   unfold rW at h
   obtain⟨n0,n1,v9,v0⟩:=s
   refine sz tT ⟨[(2,(vP 63 0)),(bX s_),(4,(vP 65 0)),(nJ p),(9,(vP 71 0)),(10,(vP 76 0)),rq,pE,nW,(Jb p),(Jf p),(68,(vI v0)),(69,(k36 p v0))],(T9 p n1 n0 v9)⟩ {} [] ?_
   refine aQ ?_
   refine bI h (fun hb1 h=> ?_) (fun hb1 h=> ?_)
   ·refine ct hb1 ?_
    refine aP (aQ (aB (aQ (aO h fun a1 h=> ?_))))
    refine rg tT ⟨[(2,(vP 63 0)),(bX s_),(4,(vP 65 0)),(nJ p),(9,(vP 71 0)),(10,(vP 76 0)),rq,pE,nW,(14,(vI v0)),(Yr p v0),(Jb p),(Jf p),(68,(vI v0))],(T9 p n1 n0 v9)⟩ [_] {fr:=[(3,86)] } [86] ⟨a1,trivial⟩ ?_
    refine aQ (bE h fun ui hr_1 h=> ?_)
    have q0:=fC p s_ v0 hr_1
    refine rg tT ⟨[(2,(vP 63 0)),(bX s_),(4,(vP 65 0)),(nJ p),(9,(vP 71 0)),(10,(vP 76 0)),rq,pE,nW,(14,(vI v0)),(Yr p v0),(Jb p),(Jf p),(68,(vI v0)),(76,(vB ui))],(T9 p n1 n0 v9)⟩ [_] {an:=[(3,cA q0 [])] } [] ⟨q0,trivial⟩ ?_
    refine bI h (fun hb h=> ?_) (fun hb h=> ?_)
    ·refine ct hb ?_
     refine bE h fun v4 hr_2 h=> ?_
     have q0:=rk [(0,71),(1,72),(2,70),(3,87)] (bT 0 (IntKind.wrap .i64 ((1:Int)+(XM p v0))) (YM p v0) 0 (⟨n0,n1⟩:Network) hr_2)
     refine rg tT ⟨(agU s_ p v0),(aiy p v4 v0 v9)⟩ [_,Iz [some .i64] 1 1 v9.length (Em (au .i64) v9) (EA (au .i64) v9) [(.int .i64 v0)] [(cI v4.1)] [] (jG UU v0 v4.1 v9).length (PS v0 v4 v9) (OI v0 v4 v9)] {an:=[(8,cA q0 [71,72,70]),(9, .map (jG UU v0 v4.1 v9).length (PS v0 v4 v9) (OI v0 v4 v9) [])] } [] ⟨q0,(zF (fun _=>rfl) (fun _ _=>rfl) v9 v0 v4.1 rfl rfl),trivial⟩ ?_
     refine ri tT ⟨(acg s_ p v0),(aiy p v4 v0 v9)⟩ [] {} [] trivial (bH.fin (st':=⟨(acg s_ p v0),[(Ab p),bO,(Qc v4),(ah7 v4),(72,some (Hr v4)),(Xn p),(Nc p),(Lj p),(WT p),(77,some (OH v0 v4 v9)),WE,MZ]⟩) (cs:=[]) ⟨[],[(63,63),(65,65),(70,70),(71,71),(87,72),(73,73),(74,74),(75,75),(76,76),(77,77),(78,78),(79,79)]⟩ [2,3,4,8,9,10,11,12,13,66,67,68] (by kernel_rfl) trivial) ?_
     obtain rfl:=oi h
     exact lN
    ·refine cf hb ?_
     refine aP (rz tT ⟨(acg s_ p v0),(T9 p n1 n0 v9)⟩ {} [] ?_)
     obtain rfl:=oi h
     exact lN
   ·refine cf hb1 ?_
    refine aI (fz ⟨(Vn s_ p),(T9 p n1 n0 v9)⟩ []) ?_
    refine aX ?_
    obtain rfl:=oi h
    exact lB
  ·clear hy
   cases y with
   |brk z=>
    obtain⟨p1,ue,uc,x0,u4⟩:=z
    unfold dA
    refine⟨_, .refl, ?_⟩
    refine aQ (sz tT ⟨[(2,(vP 63 0)),(bX s_),(4,(vP 65 0)),(nJ p),(9,(vP 71 0)),(10,(vP 76 0)),rq,pE,nW,(Jl p),(IE p),(90,(vI 0))],(ahq p x0 p1 uc ue u4)⟩ {} [] ?_)
    refine bE h fun y1 hy h=> ?_
    refine aL [] (vS p s_ p1 x0 u4) (wH p s_ p1 x0 u4) fo hy (fun s f h=> ?_) ?_
    ·clear hy
     show bn _ _ _ _ _ _ ((Ey p s_ p1 x0 u4) f) _
     unfold rX at h
     obtain⟨w7,w3,w0,u7⟩:=s
     refine sz tT ⟨[(2,(vP 63 0)),(bX s_),(4,(vP 65 0)),(nJ p),(9,(vP 71 0)),(10,(vP 76 0)),rq,pE,nW,(Jl p),(IE p),(90,(vI u7)),(91,(k48 p u7))],(U0 p w0 p1 w3 w7 x0 u4)⟩ {} [] ?_
     refine aQ ?_
     refine bI h (fun hb3 h=> ?_) (fun hb3 h=> ?_)
     ·refine ct hb3 ?_
      refine aP (aQ (aB (aQ (aO h fun a1 h=> ?_))))
      refine rg tT ⟨[(2,(vP 63 0)),(bX s_),(4,(vP 65 0)),(nJ p),(9,(vP 71 0)),(10,(vP 76 0)),rq,pE,nW,(16,(vI u7)),(YI p u7),(Jl p),(IE p),(90,(vI u7))],(U0 p w0 p1 w3 w7 x0 u4)⟩ [_] {fr:=[(3,94)] } [94] ⟨a1,trivial⟩ ?_
      refine aQ (bE h fun uj hr_3 h=> ?_)
      have q0:=dI (⟨p.buses,p1,p.links,p.racks⟩:ah) s_ u7 hr_3
      refine rg tT ⟨[(2,(vP 63 0)),(bX s_),(4,(vP 65 0)),(nJ p),(9,(vP 71 0)),(10,(vP 76 0)),rq,pE,nW,(16,(vI u7)),(YI p u7),(Jl p),(IE p),(90,(vI u7)),(98,(vB uj))],(U0 p w0 p1 w3 w7 x0 u4)⟩ [_] {an:=[(3,cA q0 [])] } [] ⟨q0,trivial⟩ ?_
      refine bI h (fun hb2 h=> ?_) (fun hb2 h=> ?_)
      ·refine ct hb2 ?_
       refine bE h fun v5 hr_4 h=> ?_
       have q0:=rk [(0,71),(1,72),(2,70),(3,95)] (bT (IntKind.wrap .i64 ((1:Int)+((at' p.links u7.toNat).a))) (IntKind.wrap .i64 ((1:Int)+((at' p.links u7.toNat).b))) (Lg p u7) (Lg p u7) (⟨w7,w3⟩:Network) hr_4)
       refine rg tT ⟨(agW s_ p u7),(af2 p p1 v5 x0 u4 u7 w0)⟩ [_,Iz [some .i64] 1 1 w0.length (Em (au .i64) w0) (EA (au .i64) w0) [(.int .i64 u7)] [(cI v5.1)] [] (jG UU u7 v5.1 w0).length (PS u7 v5 w0) (OI u7 v5 w0)] {an:=[(13,cA q0 [71,72,70]),(14, .map (jG UU u7 v5.1 w0).length (PS u7 v5 w0) (OI u7 v5 w0) [])] } [] ⟨q0,(zF (fun _=>rfl) (fun _ _=>rfl) w0 u7 v5.1 rfl rfl),trivial⟩ ?_
       refine ri tT ⟨(abp s_ p u7),(af2 p p1 v5 x0 u4 u7 w0)⟩ [] {} [] trivial (bH.fin (st':=⟨(abp s_ p u7),[(Pg p p1),bO,(Qc v5),(ah7 v5),(72,some (Hr v5)),(mR x0),(Nc p),(Lj p),(Yf p x0),(EX u4),(78,some (OH u7 v5 w0)),MZ]⟩) (cs:=[]) ⟨[],[(63,63),(65,65),(70,70),(71,71),(95,72),(73,73),(74,74),(75,75),(76,76),(77,77),(78,78),(79,79)]⟩ [2,3,4,8,9,10,11,12,13,88,89,90] (by kernel_rfl) trivial) ?_
       obtain rfl:=oi h
       exact lN
      ·refine cf hb2 ?_
       refine aP (rz tT ⟨(abp s_ p u7),(U0 p w0 p1 w3 w7 x0 u4)⟩ {} [] ?_)
       obtain rfl:=oi h
       exact lN
     ·refine cf hb3 ?_
      refine aI (fz ⟨(Vn s_ p),(U0 p w0 p1 w3 w7 x0 u4)⟩ []) ?_
      refine aX ?_
      obtain rfl:=oi h
      exact lB
    ·clear hy
     cases y1 with
     |brk z=>
      obtain⟨p2,uf,ud,x1,u5⟩:=z
      unfold dA
      refine⟨_, .refl, ?_⟩
      refine aQ (sz tT ⟨[(2,(vP 63 0)),(bX s_),(4,(vP 65 0)),(nJ p),(9,(vP 71 0)),(10,(vP 76 0)),rq,pE,nW,(115,(vD (k8 p))),(116,(vI (p.racks.length:Int))),(117,(vI 0))],(ahw x1 p p1 p2 ud uf x0 u4 u5)⟩ {} [] ?_)
      refine bE h fun y3 hy h=> ?_
      refine aL [] (vR p s_ p1 x0 u4 p2 x1 u5) (vJ p p1 x0 u4 p2 x1 u5) fo hy (fun s f h=> ?_) ?_
      ·clear hy
       show bn _ _ _ _ _ _ ((oD p s_ p1 x0 u4 p2 x1 u5) f) _
       unfold r9 at h
       obtain⟨p3,v7,x7,x3,x2,x9,u2,w1,u0⟩:=s
       refine sz tT ⟨[(2,(vP 63 0)),(bX s_),(4,(vP 65 0)),(8,(vI v7)),(9,(vP 71 0)),(10,(vP 76 0)),rq,pE,nW,(zy u2),(116,(vI w1)),(117,(vI u0)),(118,(vB (decide (u0<w1))))],(Xj x2 x0 x1 x9 p p1 p2 p3 x3 x7 u4 u5)⟩ {} [] ?_
       refine aQ ?_
       refine bI h (fun hb6 h=> ?_) (fun hb6 h=> ?_)
       ·refine ct hb6 ?_
        refine aP (aQ (aB (aQ (aO h fun a1 h=> ?_))))
        refine rg tT ⟨(afw s_ v7 u0 u2 w1),(Xj x2 x0 x1 x9 p p1 p2 p3 x3 x7 u4 u5)⟩ [_] {fr:=[(3,114)] } [114] ⟨a1,trivial⟩ ?_
        refine aQ (bE h fun x4 hr_5 h=> ?_)
        have q0:=rk [(0,71),(1,72),(2,70),(3,115)] (bT (YZ p u0) v7 ((at' u2 u0.toNat).power) 0 (⟨x7,x3⟩:Network) hr_5)
        refine rg tT ⟨(afw s_ v7 u0 u2 w1),(aeM p p1 x0 u4 x4 p2 p3 x1 x2 u5 x9)⟩ [_] {an:=[(9,cA q0 [71,72,70])] } [] ⟨q0,trivial⟩ ?_
        refine sz tT ⟨[(2,(vP 63 0)),(bX s_),(4,(vP 65 0)),(8,(vI v7)),(9,(vP 71 0)),(10,(vP 76 0)),rq,pE,nW,(18,(vI u0)),(Gf u2 u0),(zy u2),(116,(vI w1)),(117,(vI u0)),(I9 u2 u0),(134,(vI 0))],(aeM p p1 x0 u4 x4 p2 p3 x1 x2 u5 x9)⟩ {} [] ?_
        refine bE h fun y2 hy h=> ?_
        refine aL [5] (vz p s_ p1 x0 u4 p2 x1 u5 p3 v7 x2 u2 w1 u0) (wI p s_ p1 x0 u4 p2 x1 u5 p3 v7 x2 u2 w1 u0) (oD p s_ p1 x0 u4 p2 x1 u5) hy (fun s f h=> ?_) ?_
        ·clear hy
         show bn _ _ _ _ _ _ ((EQ p s_ p1 x0 u4 p2 x1 u5 p3 v7 x2 u2 w1 u0) f) _
         unfold rJ at h
         obtain⟨w8,w4,w2,v3⟩:=s
         refine sz tT ⟨[(2,(vP 63 0)),(bX s_),(4,(vP 65 0)),(8,(vI v7)),(9,(vP 71 0)),(10,(vP 76 0)),rq,pE,nW,(18,(vI u0)),(Gf u2 u0),(zy u2),(116,(vI w1)),(117,(vI u0)),(I9 u2 u0),(134,(vI v3)),(135,(vB (decide (v3<2))))],(QN p p1 p2 p3 w4 w8 x0 x1 x2 u4 u5 w2)⟩ {} [] ?_
         refine aQ ?_
         refine bI h (fun hb5 h=> ?_) (fun hb5 h=> ?_)
         ·refine ct hb5 ?_
          refine aP (aQ (aB (aQ (aO h fun a1 h=> ?_))))
          refine rg tT ⟨[(2,(vP 63 0)),(bX s_),(4,(vP 65 0)),(8,(vI v7)),(9,(vP 71 0)),(10,(vP 76 0)),rq,pE,nW,(18,(vI u0)),(Gf u2 u0),(20,(vI v3)),(Y2 u0 u2 v3),(zy u2),(116,(vI w1)),(117,(vI u0)),(I9 u2 u0),(134,(vI v3))],(QN p p1 p2 p3 w4 w8 x0 x1 x2 u4 u5 w2)⟩ [_,v3.toNat*1+1≤(Vb u2 u0).length,((Vb u2 u0).drop (v3.toNat*1)).take 1=(Yp u0 u2 v3).map .d] {an:=[(1, .vals (Yp u0 u2 v3))] } [] ⟨a1,(Wq (n:=2) (sz:=1) (Nat.le_refl _) a1),(Xd (n:=2) (sz:=1) (g:=fun q=>[(cI (at' [(yx u2 u0).e0,(yx u2 u0).e1] q))]) (by intro q hq;match q,hq with|0,_=>rfl|1,_=>rfl) a1),trivial⟩ ?_
          refine aQ (bE h fun ul hr_6 h=> ?_)
          have q0:=lQ s_ (Wy u0 u2 v3) hr_6
          refine rg tT ⟨[(2,(vP 63 0)),(bX s_),(4,(vP 65 0)),(8,(vI v7)),(9,(vP 71 0)),(10,(vP 76 0)),rq,pE,nW,(18,(vI u0)),(Gf u2 u0),(20,(vI v3)),(Y2 u0 u2 v3),(zy u2),(116,(vI w1)),(117,(vI u0)),(I9 u2 u0),(134,(vI v3)),(140,(vB ul))],(QN p p1 p2 p3 w4 w8 x0 x1 x2 u4 u5 w2)⟩ [_] {an:=[(2,cA q0 [])] } [] ⟨q0,trivial⟩ ?_
          refine bI h (fun hb4 h=> ?_) (fun hb4 h=> ?_)
          ·refine ct hb4 ?_
           refine bE h fun v6 hr_7 h=> ?_
           have q0:=rk [(0,71),(1,115),(2,70),(3,119)] (bT (af4 u0 u2 v3) (YZ p u0) ((at' u2 u0.toNat).power) 0 (⟨w8,w4⟩:Network) hr_7)
           refine rg tT ⟨(agz s_ v7 u0 u2 w1 v3),[(dW p p1 p2 p3),bO,(Qc v6),(ags v6),(mR x0),(oz x1),(qi x2),(qQ x2 x0 x1),(EX u4),(D8 u5),(79,some (Ti 164 3 true false 2 1 af.cell (au .i64) (jG (fun a b=>(decide (a.e0=b.e0) && (decide (a.e1=b.e1) && true))) (⟨u0,v3⟩:af) v6.1 w2))),(119,some (Hr v6))]⟩ [_,Iz [some .i64,some .i64] 2 1 w2.length (Em af.cell w2) (EA (au .i64) w2) [(.int .i64 u0),(.int .i64 v3)] [(cI v6.1)] [] (jG (fun a b=>(decide (a.e0=b.e0) && (decide (a.e1=b.e1) && true))) (⟨u0,v3⟩:af) v6.1 w2).length (Em af.cell (jG (fun a b=>(decide (a.e0=b.e0) && (decide (a.e1=b.e1) && true))) (⟨u0,v3⟩:af) v6.1 w2)) (EA (au .i64) (jG (fun a b=>(decide (a.e0=b.e0) && (decide (a.e1=b.e1) && true))) (⟨u0,v3⟩:af) v6.1 w2))] {an:=[(14,cA q0 [71,115,70]),(15, .map (jG (fun a b=>(decide (a.e0=b.e0) && (decide (a.e1=b.e1) && true))) (⟨u0,v3⟩:af) v6.1 w2).length (Em af.cell (jG (fun a b=>(decide (a.e0=b.e0) && (decide (a.e1=b.e1) && true))) (⟨u0,v3⟩:af) v6.1 w2)) (EA (au .i64) (jG (fun a b=>(decide (a.e0=b.e0) && (decide (a.e1=b.e1) && true))) (⟨u0,v3⟩:af) v6.1 w2)) [])] } [] ⟨q0,(zF (fun _=>rfl) (fun _ _=>rfl) w2 (⟨u0,v3⟩:af) v6.1 rfl rfl),trivial⟩ ?_
           refine ri tT ⟨(abo s_ v7 u0 u2 w1 v3),[(dW p p1 p2 p3),bO,(Qc v6),(ags v6),(mR x0),(oz x1),(qi x2),(qQ x2 x0 x1),(EX u4),(D8 u5),(79,some (Ti 164 3 true false 2 1 af.cell (au .i64) (jG (fun a b=>(decide (a.e0=b.e0) && (decide (a.e1=b.e1) && true))) (⟨u0,v3⟩:af) v6.1 w2))),(119,some (Hr v6))]⟩ [] {} [] trivial (bH.fin (st':=⟨(abo s_ v7 u0 u2 w1 v3),[(dW p p1 p2 p3),bO,(Qc v6),(aeG v6),(mR x0),(oz x1),(qi x2),(qQ x2 x0 x1),(EX u4),(D8 u5),(79,some (Ti 164 3 true false 2 1 af.cell (au .i64) (jG (fun a b=>(decide (a.e0=b.e0) && (decide (a.e1=b.e1) && true))) (⟨u0,v3⟩:af) v6.1 w2))),(YR v6)]⟩) (cs:=[]) ⟨[],[(63,63),(65,65),(70,70),(71,71),(73,73),(74,74),(75,75),(76,76),(77,77),(78,78),(79,79),(119,115)]⟩ [2,3,4,8,9,10,11,12,13,18,19,115,116,117,133,134] (by kernel_rfl) trivial) ?_
           obtain rfl:=oi h
           exact lN
          ·refine cf hb4 ?_
           refine aP (rz tT ⟨(abo s_ v7 u0 u2 w1 v3),(QN p p1 p2 p3 w4 w8 x0 x1 x2 u4 u5 w2)⟩ {} [] ?_)
           obtain rfl:=oi h
           exact lN
         ·refine cf hb5 ?_
          refine aI (fz (afN s_ v7 u2 w1 u0 p p1 p2 p3 w4 w8 x0 x1 x2 u4 u5 w2) []) ?_
          refine aX ?_
          obtain rfl:=oi h
          exact lB
        ·clear hy
         cases y2 with
         |brk z=>
          obtain⟨ub,x8,ug⟩:=z
          unfold dA
          refine⟨_, .refl, ?_⟩
          refine ri tT ⟨(agb s_ v7 u0 u2 w1),(QN p p1 p2 p3 x8 ub x0 x1 x2 u4 u5 ug)⟩ [] {} [] trivial (bH.fin (st':=⟨(agb s_ v7 u0 u2 w1),(Xj x2 x0 x1 ug p p1 p2 p3 x8 ub u4 u5)⟩) (cs:=[]) ⟨[],[(63,63),(65,65),(70,70),(71,71),(115,72),(73,73),(74,74),(75,75),(76,76),(77,77),(78,78),(79,79)]⟩ [2,3,4,8,9,10,11,12,13,115,116,117] (by kernel_rfl) trivial) ?_
          obtain rfl:=oi h
          exact lN
         |ret v=>
          obtain rfl:=oi h
          unfold dA
          intro e st hn ha hR
          cases e with
          |normal=>exact absurd rfl hn
          |exit id=>simp only [qX (b:=5) ha rfl,cond_false];exact hR
          |goto l=>exact hR
          |ret=>exact hR
          |panic c=>exact hR
          |outgrown=>exact hR
       ·refine cf hb6 ?_
        refine aI (fz (afq v7 p p1 p2 p3 x3 x7 x0 x1 x2 u4 u5 x9) []) ?_
        refine aX ?_
        obtain rfl:=oi h
        exact lB
      ·clear hy
       cases y3 with
       |brk z=>
        obtain⟨v1,ua,x5,x6,v2,u3⟩:=z
        unfold dA
        refine⟨_, .refl, ?_⟩
        refine aQ (aI (.trans (fi ⟨(aaZ ua),[(dW p p1 p2 v1),bO,(71,some (.cells 161 [(.own 72 false x5.length),(.d (.sl (some true) 1 x6.length (fun i j=>evD (Ag sP x6 i j))))])),(MS x5),(mR x0),(oz x1),(qi v2),(qQ v2 x0 x1),(EX u4),(D8 u5),(Gi u3)]⟩ [x6.length=x6.length] [70] ⟨rfl,trivial⟩) (bH.le (st':=⟨(aaZ ua),[(dW p p1 p2 v1),bO,(ait x5 x6),(MS x5),(mR x0),(oz x1),(qi v2),(qQ v2 x0 x1),(EX u4),(D8 u5),(Gi u3)]⟩) ⟨⟨tR,tR,tR,tR,tR,tR,tR,tR,trivial⟩,(hN 2 ⟨rfl,bA ⟨dD.refl _,dD.d (gG.sl (.inr rfl) (fun i _ j hj=>match j,hj with|0,_=> .refl _)),trivial⟩,(.refl _)⟩)⟩)) ?_)
        refine bE h fun u1 hr_8 h=> ?_
        refine rg tT ⟨[(2,(vP 63 0)),(4,(vP 65 0)),(9,(vP 71 0)),(10,(vP 76 0)),rq,pE,nW],[(dW p p1 p2 v1),bO,(zD u1),(yR u1),(mR x0),(oz x1),(qi v2),(qQ v2 x0 x1),(EX u4),(D8 u5),(Gi u3)]⟩ [Fn Try.prog 80 [(.one (.ptr 71 0)),(sI ua)] [(ait x5 x6),(MS x5)] (.iq []) (ahp u1)] {an:=[(2, .call [71,72] (.iq []) (ahp u1))] } [] ⟨(Fn.leH (args:=[(.one (.ptr 71 0)),(sI ua)]) (hin:=[(71,some (.cells 161 [(.own 72 false x5.length),(.d (RL x6))])),(MS x5)]) (rK [(0,71),(1,72)] (pW ua (⟨x5,x6⟩:Network) hr_8)) ⟨dX.refl _,dX.refl _,trivial⟩ ⟨rfl,bA ⟨dD.refl _,dD.d gG.oH,trivial⟩,(.refl _)⟩),trivial⟩ ?_
        refine aQ (bE h fun y4 hy h=> ?_)
        refine ny (Ef p p1 p2 x1 u5 v1 v2 u3 u1) (K:=3) (V:=3) (s0:=(x0)) ⟨3,3,false,false,1,1,u4.length,Em (au .i64) u4,EA (au .i64) u4,[]⟩ 77 120 (fun i=>(sI (at' (u4.map Prod.fst) i))) (fun i=>(sI (at' (u4.map Prod.snd) i))) hy [3,4] (by kernel_rfl) (by kernel_rfl) (by kernel_rfl) (fun _ _=> ⟨rfl,rfl⟩) (fun _ _=> ⟨qZ _ _,qZ _ _⟩) (fun _=>(bH.fin (st':=(ahE u1 p p1 p2 v1 x0 x1 v2 u5 u3)) (cs:=[]) ⟨[],[(63,63),(65,65),(71,71),(72,72),(73,73),(74,74),(75,75),(76,76),(78,78),(79,79),(120,120)]⟩ [2,4,9,10,12,13,162] (by kernel_rfl) trivial)) (fun s=>by obtain⟨w5,rfl⟩: ∃q,q=s:=⟨_,rfl⟩;kernel_rfl) (fun B s i s' hi h=> ?_) ?_
        ·clear hy
         unfold sG at h
         obtain⟨w5,rfl⟩: ∃q,q=s:=⟨_,rfl⟩
         refine rwp tT (⟨[(2,(vP 63 0)),(4,(vP 65 0)),(9,(vP 71 0)),(10,(vP 76 0)),pE,nW,(22,(vI (at' (u4.map Prod.fst) i))),(23,(vI (at' (u4.map Prod.snd) i))),(162,(vP 120 0))],(agE u1 p p1 p2 v1 w5 x1 v2 u5 u3)⟩) {fin:=⟨[],[(63,63),(65,65),(71,71),(72,72),(73,73),(74,74),(75,75),(76,76),(78,78),(79,79),(120,120)]⟩,ts:=[2,4,9,10,12,13,22,23,162] } (cs:=[]) (by kernel_rfl) trivial .refl ?_
         refine aO h fun⟨a1,a2⟩ h=> ?_
         refine di tT mX ⟨acB,[(dW p p1 p2 v1),bO,(zD u1),(yR u1),(73,some (.arr 3 1 w5.length (UC u4 u1 i w5))),(oz x1),(qi v2),(qQ v2 w5 x1),(D8 u5),(Gi u3),(120,none)]⟩ [_,_,_,_,aH w5.length 1 (adv u4 u1 i w5) (UC u4 u1 i w5)] {an:=[(13, .arr 0 (UC u4 u1 i w5))] } [] ⟨a1,(tL a1),a2,(tL a2),(bL _ _ _ _ _ _ _ _ rfl (fun j hj=>(match j,hj with|0,_=>rfl))),trivial⟩ (bH.le (st':=⟨acB,[(dW p p1 p2 v1),bO,(zD u1),(yR u1),(73,some (aio u4 u1 i w5)),(oz x1),(qi v2),(76,some (.cells 77 [(.own 73 true (aew u4 u1 i w5)),(.own 74 true x1.length),(.own 75 true v2.length)])),(D8 u5),(Gi u3),(120,none)]⟩) ⟨⟨tR,tR,tR,tR,tR,tR,tR,trivial⟩,(hN 4 ⟨rfl,oW,(hN 2 ⟨rfl,bA ⟨cW,dD.refl _,dD.refl _,trivial⟩,(.refl _)⟩)⟩)⟩) ?_
         obtain rfl:=oi h
         exact⟨.inl rfl,by kernel_rfl⟩
        ·clear hy
         obtain⟨u6,rfl⟩: ∃q,q=y4:=⟨_,rfl⟩
         refine aI (fz ⟨[(2,(vP 63 0)),(4,(vP 65 0)),(9,(vP 71 0)),(10,(vP 76 0)),pE,nW],[(dW p p1 p2 v1),bO,(zD u1),(yR u1),(mR u6),(oz x1),(qi v2),(qQ v2 u6 x1),(D8 u5),(Gi u3)]⟩ []) ?_
         refine aQ (bE h fun y5 hy h=> ?_)
         refine ny (Ea p p1 p2 v1 v2 u3 u1 u6) (K:=3) (V:=3) (s0:=(x1)) ⟨3,3,false,false,1,1,u5.length,Em (au .i64) u5,EA (au .i64) u5,[]⟩ 78 121 (fun i1=>(sI (at' (u5.map Prod.fst) i1))) (fun i1=>(sI (at' (u5.map Prod.snd) i1))) hy [3,4] (by kernel_rfl) (by kernel_rfl) (by kernel_rfl) (fun _ _=> ⟨rfl,rfl⟩) (fun _ _=> ⟨qZ _ _,qZ _ _⟩) (fun _=>(bH.fin (st':=(aem p p1 p2 v1 u1 u6 x1 v2 u3)) (cs:=[]) ⟨[],[(63,63),(65,65),(71,71),(72,72),(73,73),(74,74),(75,75),(76,76),(79,79),(121,121)]⟩ [2,4,9,10,13,182] (by kernel_rfl) trivial)) (fun s=>by obtain⟨w6,rfl⟩: ∃q,q=s:=⟨_,rfl⟩;kernel_rfl) (fun B s i1 s' hi h=> ?_) ?_
         ·clear hy
          unfold rY at h
          obtain⟨w6,rfl⟩: ∃q,q=s:=⟨_,rfl⟩
          refine rwp tT (⟨[(2,(vP 63 0)),(4,(vP 65 0)),(9,(vP 71 0)),(10,(vP 76 0)),nW,(24,(vI (at' (u5.map Prod.fst) i1))),(25,(vI (at' (u5.map Prod.snd) i1))),(182,(vP 121 0))],(adP p p1 p2 v1 u1 u6 w6 v2 u3)⟩) {fin:=⟨[],[(63,63),(65,65),(71,71),(72,72),(73,73),(74,74),(75,75),(76,76),(79,79),(121,121)]⟩,ts:=[2,4,9,10,13,24,25,182] } (cs:=[]) (by kernel_rfl) trivial .refl ?_
          refine aO h fun⟨a1,a2,a3⟩ h=> ?_
          refine di tT mX ⟨acu,[(dW p p1 p2 v1),bO,(zD u1),(yR u1),(mR u6),(74,some (.arr 3 1 w6.length (SH p2 u5 u1 i1 w6))),(qi v2),(qQ v2 u6 w6),(Gi u3),(121,none)]⟩ [_,_,_,_,_,aH w6.length 1 (afv p2 u5 u1 i1 w6) (SH p2 u5 u1 i1 w6)] {an:=[(19, .arr 0 (SH p2 u5 u1 i1 w6))] } [] ⟨a1,a2,(tL a2),a3,(tL a3),(bL _ _ _ _ _ _ _ _ rfl (fun j hj=>(match j,hj with|0,_=>rfl))),trivial⟩ (bH.le (st':=⟨acu,[(dW p p1 p2 v1),bO,(zD u1),(yR u1),(mR u6),(74,some (ad3 p2 u5 u1 i1 w6)),(qi v2),(76,some (.cells 77 [(.own 73 true u6.length),(.own 74 true (ae3 p2 u5 u1 i1 w6)),(.own 75 true v2.length)])),(Gi u3),(121,none)]⟩) ⟨⟨tR,tR,tR,tR,tR,tR,trivial⟩,(hN 5 ⟨rfl,oW,⟨rfl, .refl _,⟨rfl,bA ⟨dD.refl _,cW,dD.refl _,trivial⟩,⟨rfl, .refl _,⟨rfl, .refl _,trivial⟩⟩⟩⟩⟩)⟩) ?_
          obtain rfl:=oi h
          exact⟨.inl rfl,by kernel_rfl⟩
         ·clear hy
          obtain⟨u8,rfl⟩: ∃q,q=y5:=⟨_,rfl⟩
          refine aI (fz ⟨[(2,(vP 63 0)),(4,(vP 65 0)),(9,(vP 71 0)),(10,(vP 76 0)),nW],[(dW p p1 p2 v1),bO,(zD u1),(yR u1),(mR u6),(oz u8),(qi v2),(qQ v2 u6 u8),(Gi u3)]⟩ []) ?_
          refine aQ (bE h fun y6 hy h=> ?_)
          refine ny (EP p p1 p2 v1 u1 u6 u8) (K:=164) (V:=3) (s0:=(v2)) ⟨164,3,true,false,2,1,u3.length,Em af.cell u3,EA (au .i64) u3,[]⟩ 79 122 (fun i2=>(.agg (X5 u3 i2))) (fun i2=>(sI (at' (u3.map Prod.snd) i2))) hy [3,4,5] (by kernel_rfl) (by kernel_rfl) (by kernel_rfl) (fun _ _=> ⟨rfl,rfl⟩) (fun _ _=> ⟨R4 rfl,qZ _ _⟩) (fun _=>(bH.fin (st':=(adR p p1 p2 v1 u1 u6 u8 v2)) (cs:=[]) ⟨[],[(63,63),(65,65),(71,71),(72,72),(73,73),(74,74),(75,75),(76,76),(122,122)]⟩ [2,4,9,10,208] (by kernel_rfl) trivial)) (fun s=>by obtain⟨u9,rfl⟩: ∃q,q=s:=⟨_,rfl⟩;kernel_rfl) (fun B s i2 s' hi h=> ?_) ?_
          ·clear hy
           unfold sH at h
           obtain⟨u9,rfl⟩: ∃q,q=s:=⟨_,rfl⟩
           refine rwp tT (⟨(acO u3 i2),[(dW p p1 p2 v1),bO,(zD u1),(yR u1),(mR u6),(oz u8),(qi u9),(qQ u9 u6 u8),(122,none),(125,some (.cells 164 (X5 u3 i2)))]⟩) {fr:=frf [(3,125)],fin:=⟨[],[(63,63),(65,65),(71,71),(72,72),(73,73),(74,74),(75,75),(76,76),(122,122),(125,125)]⟩,ts:=[2,4,9,10,26,27,208] } (cs:=[]) (by kernel_rfl) trivial .refl ?_
           refine bI h (fun hb7 h=> ?_) (fun _ h=> ?_)
           ·skip
            refine aI (bH.le (st':=⟨(acO u3 i2),[(dW p p1 p2 v1),bO,(zD u1),(yR u1),(mR u6),(oz u8),(qi u9),(qQ u9 u6 u8),(122,none),(125,some (.cells 164 [(cI ((at' (u3.map Prod.fst) i2).e0)),(cI 0)]))]⟩) ⟨⟨tR,tR,tR,tR,tR,tR,tR,trivial⟩,(hN 9 ⟨rfl,bA ⟨dD.refl _,dD.of (congrArg (fun n=>CV.d (.int .i64 n)) (of_decide_eq_true hb7)),trivial⟩,trivial⟩)⟩) ?_
            refine aO h fun⟨a1,a2⟩ h=> ?_
            refine di tT mX ⟨Wh,[(dW p p1 p2 v1),bO,(zD u1),(yR u1),(mR u6),(oz u8),(75,some (.arr 164 2 u9.length (TA u1 u3 i2 u9))),(qQ u9 u6 u8),(122,none)]⟩ [(0:Int)≤0∧(0:Int)<(2:Nat),(0:Int)≤1∧(1:Int)<(2:Nat),_,_,_,(0:Int)≤0∧(0:Int)<(2:Nat),_,aH u9.length 2 (ag4 u1 u3 i2 u9) (TA u1 u3 i2 u9)] {an:=[(17, .arr 0 (TA u1 u3 i2 u9))] } [] ⟨((by decide)),((by decide)),a1,(tL a1),a2,((by decide)),(tL a2),(bL _ _ _ _ _ _ _ _ rfl (fun j hj=>(match j,hj with|0,_=>rfl|1,_=>rfl))),trivial⟩ (bH.le (st':=⟨Wh,[(dW p p1 p2 v1),bO,(zD u1),(yR u1),(mR u6),(oz u8),(75,some (ahH u1 u3 i2 u9)),(76,some (.cells 77 [(.own 73 true u6.length),(.own 74 true u8.length),(.own 75 true (aen u1 u3 i2 u9))])),(122,none)]⟩) ⟨⟨tR,tR,tR,tR,tR,trivial⟩,(hN 6 ⟨rfl,oW,⟨rfl,bA ⟨dD.refl _,dD.refl _,cW,trivial⟩,(.refl _)⟩⟩)⟩) ?_
            obtain rfl:=oi h
            exact⟨.inl rfl,by kernel_rfl⟩
           ·skip
            refine aO h fun a1 h=> ?_
            refine aI (bH.le (st':=⟨(acO u3 i2),[(dW p p1 p2 v1),bO,(zD u1),(yR u1),(mR u6),(oz u8),(qi u9),(qQ u9 u6 u8),(122,none),(125,some (.cells 164 [(cI ((at' (u3.map Prod.fst) i2).e0)),(cI 1)]))]⟩) ⟨⟨tR,tR,tR,tR,tR,tR,tR,trivial⟩,(hN 9 ⟨rfl,bA ⟨dD.refl _,dD.of (congrArg (fun n=>CV.d (.int .i64 n)) a1),trivial⟩,trivial⟩)⟩) ?_
            refine aO h fun⟨a1,a2⟩ h=> ?_
            refine di tT mX ⟨Wh,[(dW p p1 p2 v1),bO,(zD u1),(yR u1),(mR u6),(oz u8),(75,some (.arr 164 2 u9.length (Tt u1 u3 i2 u9))),(qQ u9 u6 u8),(122,none)]⟩ [(0:Int)≤0∧(0:Int)<(2:Nat),(0:Int)≤1∧(1:Int)<(2:Nat),_,_,_,(0:Int)≤1∧(1:Int)<(2:Nat),_,aH u9.length 2 (agH u1 u3 i2 u9) (Tt u1 u3 i2 u9)] {an:=[(17, .arr 0 (Tt u1 u3 i2 u9))] } [] ⟨((by decide)),((by decide)),a1,(tL a1),a2,((by decide)),(tL a2),(bL _ _ _ _ _ _ _ _ rfl (fun j hj=>(match j,hj with|0,_=>rfl|1,_=>rfl))),trivial⟩ (bH.le (st':=⟨Wh,[(dW p p1 p2 v1),bO,(zD u1),(yR u1),(mR u6),(oz u8),(75,some (adX u1 u3 i2 u9)),(76,some (.cells 77 [(.own 73 true u6.length),(.own 74 true u8.length),(.own 75 true (ahh u1 u3 i2 u9))])),(122,none)]⟩) ⟨⟨tR,tR,tR,tR,tR,trivial⟩,(hN 6 ⟨rfl,oW,⟨rfl,bA ⟨dD.refl _,dD.refl _,cW,trivial⟩,(.refl _)⟩⟩)⟩) ?_
            obtain rfl:=oi h
            exact⟨.inl rfl,by kernel_rfl⟩
          ·clear hy
           obtain⟨v8,rfl⟩: ∃q,q=y6:=⟨_,rfl⟩
           refine aI (fz ⟨[(2,(vP 63 0)),(4,(vP 65 0)),(9,(vP 71 0)),(10,(vP 76 0))],[(dW p p1 p2 v1),bO,(zD u1),(yR u1),(mR u6),(oz u8),(qi v8),(qQ v8 u6 u8)]⟩ []) ?_
           refine aQ (aO h fun⟨a1,a2,a3⟩ h=> ?_)
           refine rg tT ⟨[(2,(vP 63 0)),(4,(vP 65 0)),(9,(vP 71 0)),(10,(vP 76 0)),(28,(vP 127 0))],[(dW p p1 p2 v1),bO,(zD u1),(yR u1),(mR u6),(oz u8),(qi v8),(qQ v8 u6 u8),(WV p),(V5 p)]⟩ [_,(p.buses:Int)=p.buses,_,_,(KW p).length=p.buses.toNat,aH p.buses.toNat 1 (fun _ j=>[(.bool false)].getD j .nilp) (Za p)] {an:=[(2, .arr (KW p).length (Za p))],fr:=[(2,126),(3,127)] } [] ⟨a1,rfl,a2,a3,(List.length_replicate),(dZ _ _ _ _ _ (fun j hj=>(match j,hj with|0,_=>rfl))),trivial⟩ ?_
           refine aQ (aQ (bE h fun um hr_9 h=> ?_))
           have q0:=rk [(0,71),(1,72),(2,128)] (iV u1 hr_9)
           refine ri tT ⟨adE,[(dW p p1 p2 v1),bO,(71,some (aeg u1)),(mR u6),(oz u8),(qi v8),(qQ v8 u6 u8),(WV p),(V5 p),(128,some (.cells 157 [(.ptr 71 0)]))]⟩ [_,u1.arcs.length=u1.arcs.length] {an:=[(1,cA q0 [71,72])] } [72] ⟨q0,rfl,trivial⟩ (.trans (fz ⟨adE,[(dW p p1 p2 v1),bO,(mR u6),(oz u8),(qi v8),(qQ v8 u6 u8),(WV p),(V5 p),(128,some (adZ u1))]⟩ [71]) (fz ⟨(aep u1),[(dW p p1 p2 v1),bO,(mR u6),(oz u8),(qi v8),(qQ v8 u6 u8),(WV p),(V5 p)]⟩ [128])) ?_
           refine aB (bE h fun w9 hr_10 h=> ?_)
           refine jN 129 [(2,(vP 63 0)),(28,(vP 127 0))] [] [129,63,127,126] (.iq []) [(129,some (.loop dM 0 [(2,(vP 63 0)),(28,(vP 127 0))])),(dW p p1 p2 v1),(127,some (.cells 27 [(.own 126 true w9.length)])),(126,some (bU 4 1 aj w9))] (abK u1) 121 [] (af8 u1) [(129,some (.loop dM 0 [(2,(vP 63 0)),(28,(vP 127 0))])),(dW p p1 p2 v1),(V5 p),(WV p)] [(.one (.yl 129)),(sD (ZC u1))] dM 0 [(2,(vP 63 0)),(28,(vP 127 0))] (by kernel_rfl) (by kernel_rfl) (by kernel_rfl) (by kernel_rfl) (by kernel_rfl) (by kernel_rfl) (by kernel_rfl) (rK [(0,129),(1,63),(2,127),(3,126)] (jF u1.arcs u1.from_ (⟨p.buses,p1,p2,v1⟩:ah) (KW p) hr_10)) (by kernel_rfl) rfl (EU.zero rfl) (bH.fin (st':=⟨(aep u1),[(dW p p1 p2 v1),bO,(mR u6),(oz u8),(qi v8),(qQ v8 u6 u8),(126,some (bU 4 1 aj w9)),(127,some (.cells 27 [(.own 126 true w9.length)]))]⟩) (cs:=[]) ⟨[],[(63,63),(65,65),(73,73),(74,74),(75,75),(76,76),(126,126),(127,127)]⟩ [2,4,10,28,235] (by kernel_rfl) trivial) ?_
           refine sd tT mX ⟨[(4,(vP 65 0)),(5,(vO 126 true w9.length)),(6,(vI 0))],[(65,some (.cells 77 [(.own 73 true u6.length),(.own 74 true u8.length),(.own 75 true v8.length)])),(mR u6),(oz u8),(qi v8),(126,some (bU 4 1 aj w9))]⟩ [] {} [] trivial ?_
           refine aI (.trans (bH.fin (st':=⟨[(4,(vP 4 0)),(5,(vO 3 true w9.length)),(6,(vI 0))],[(GQ u6),(1,some (Cz u8)),(2,some (bU 164 2 af.cell v8)),(wY w9),(4,some (.cells 77 [(.own 0 true u6.length),(.own 1 true u8.length),(.own 2 true v8.length)]))]⟩) (cs:=[]) ⟨[],[(73,0),(74,1),(75,2),(126,3),(65,4)]⟩ [4,5,6] (by kernel_rfl) trivial) (bH.le (st':=⟨[(4,(vP 4 0)),(5,(vO 3 false w9.length)),(6,(vI 0))],[(GQ u6),(1,some (Cz u8)),(2,some (bU 164 2 af.cell v8)),(wY w9),(4,some (.cells 77 [(.own 0 false u6.length),(.own 1 false u8.length),(.own 2 false v8.length)]))]⟩) ⟨⟨tR,⟨_,rfl,dh.v (dX.one (cN))⟩,tR,trivial⟩,(hN 4 ⟨rfl,bA ⟨cN,cN,cN,trivial⟩,trivial⟩)⟩)) ?_
           refine aR ?_
           obtain rfl:=oi h
           exact rh [(.agg [(.own 0 false u6.length),(.own 1 false u8.length),(.own 2 false v8.length)]),(.one (.own 3 false w9.length)),(sI 0)] (.refl _) (hN 4 ⟨rfl,trivial,trivial⟩)
       |ret v=>
        obtain rfl:=oi h
        unfold dA
        intro e st hn ha hR
        cases e with
        |normal=>exact absurd rfl hn
        |exit id=>exact hR
        |goto l=>exact hR
        |ret=>exact hR
        |panic c=>exact hR
        |outgrown=>exact hR
     |ret v=>
      obtain rfl:=oi h
      unfold dA
      intro e st hn ha hR
      cases e with
      |normal=>exact absurd rfl hn
      |exit id=>exact hR
      |goto l=>exact hR
      |ret=>exact hR
      |panic c=>exact hR
      |outgrown=>exact hR
   |ret v=>
    obtain rfl:=oi h
    unfold dA
    intro e st hn ha hR
    cases e with
    |normal=>exact absurd rfl hn
    |exit id=>exact hR
    |goto l=>exact hR
    |ret=>exact hR
    |panic c=>exact hR
    |outgrown=>exact hR
noncomputable def gL:ou:=⟨[25,26],Je ([1,1,1,1,0,1,0]++[0]) (nG Try.f33),Je ([1,1,1,1,0,1,0]++[1]) (nG Try.f33),35,[]⟩
abbrev Dm:Nat × Option Ob:=(0,some (.loop gL 0 [(9,(vP 1 0))]))
def Dz  :(List Part)→Exit→St→Prop:=
  fun r=>nI 0 gL (vB true) [Dm,(1,some (.cells 80 [(.own 3 false r.length)])),(2,none),(3,some (bU 117 2 Part.cell r))]
section
variable (u0:(List Part)) (u1:Int) (u2:Int)
abbrev En:Ob:=(bU 117 2 Part.cell u0)
abbrev Ub:List (Nat × Option Ob):=[Dm,(1,some (.cells 80 [(.own 2 false u0.length)])),(2,some (En u0))]
abbrev ac0:List (Nat × TV):=[(9,(vP 1 0)),(10,(vD (l8 [(.int .i64 u1),(.int .i64 u2)] 0)))]
abbrev VG:Nat × Option Ob:=(0,some (.loop gL 1 [(9,(vP 1 0))]))
abbrev aej:List (Nat × Option Ob):=[VG,(1,some (.cells 80 [(.own 2 false u0.length)])),(2,some (En u0))]
abbrev afm:List (Nat × TV):=[(9,(vP 1 0)),(10,(vD (l8 [(.int .i64 u1),(.int .i64 u2)] 0))),(29,(vB (!decide (u1=0))))]
end
theorem mV (u1:Int) (u2:Int) (u3:Int) (u0:(List Part)) {r:(List Part)} (h:je u1 u2 u3 u0=some r):Yl Try.prog 0 [(.agg [(cI u1),(cI u2)]),(sI u3)] (Ub u0) (vB true) [Dm,(1,some (.cells 80 [(.own 3 false r.length)])),(2,none),(3,some (bU 117 2 Part.cell r))]:=by
 refine Gd (r:=gL) (sl:=[(9,(vP 1 0))]) (sl1:=(ac0 u1 u2)) (h1:=(Ub u0)) (sl2:=[(9,(vP 1 0))]) (by kernel_rfl) rfl rfl (by kernel_rfl) (fun rd B=> ?_) (by kernel_rfl) (fun rd B=> ?_)
 ·refine rE (c:=Je ([1,1,1,1,0,1,0]++[0]) (nG Try.f33)) rfl ?_
  refine oL (st:=⟨[(25,(.v (.agg [(cI u1),(cI u2)]))),(26,(vI u3)),(9,(vP 1 0))],(Ub u0)⟩) (by kernel_rfl) ?_
  refine rz tT ⟨(ac0 u1 u2),(Ub u0)⟩ {fr:=[(0,6)] } [6] ?_
  exact⟨rfl,rfl⟩
 ·refine rE (c:=Je ([1,1,1,1,0,1,0]++[1]) (nG Try.f33)) rfl ?_
  refine oL (st:=⟨(ac0 u1 u2),(aej u0)⟩) (by kernel_rfl) ?_
  show bn _ _ _ _ _ _ (Dz r) _
  unfold je at h
  refine aB (sz tT ⟨(afm u1 u2),(aej u0)⟩ {} [] ?_)
  refine bI h (fun hb h=> ?_) (fun hb h=> ?_)
  ·refine ct hb ?_
   refine aO h fun⟨a1,a2⟩ h=> ?_
   refine ri tT ⟨[],[VG,(1,some (.cells 80 [(.own 8 false ((u0++[(⟨u1,u2⟩:Part)]).length))])),(2,none),(8,some (bU 117 2 Part.cell (u0++[(⟨u1,u2⟩:Part)])))]⟩ [[(⟨u1,u2⟩:Part)].length=1,aH 1 2 (iZ 2 [(.int .i64 u1),(.int .i64 u2)]) (aC Part.cell [(⟨u1,u2⟩:Part)]),u0.length=u0.length,_,_,(u0++[(⟨u1,u2⟩:Part)]).length=u0.length+[(⟨u1,u2⟩:Part)].length,aH (u0.length+[(⟨u1,u2⟩:Part)].length) 2 (Eg (aC Part.cell u0) u0.length (aC Part.cell [(⟨u1,u2⟩:Part)])) (aC Part.cell (u0++[(⟨u1,u2⟩:Part)]))] {an:=[(2, .arr [(⟨u1,u2⟩:Part)].length (aC Part.cell [(⟨u1,u2⟩:Part)])),(3, .arr (u0++[(⟨u1,u2⟩:Part)]).length (aC Part.cell (u0++[(⟨u1,u2⟩:Part)])))],fr:=[(2,7),(3,8)] } [] ⟨(rfl),((by intro i hi j hj;match i,j,hi,hj with|0,0,_,_=>rfl|0,1,_,_=>rfl)),rfl,a1,a2,(List.length_append),(kS _ _ _ _),trivial⟩ (bH.fin (st':=⟨[],[VG,(1,some (.cells 80 [(.own 3 false ((u0++[(⟨u1,u2⟩:Part)]).length))])),(2,none),(3,some (bU 117 2 Part.cell (u0++[(⟨u1,u2⟩:Part)])))]⟩) (cs:=[]) ⟨[],[(0,0),(1,1),(2,2),(8,3)]⟩ [] (by kernel_rfl) trivial) ?_
   obtain rfl:=oi h
   exact nI.on (sl:=[(9,(vP 1 0))]) (by kernel_rfl) (zX (by kernel_rfl)) (dh.refl _)
  ·refine cf hb ?_
   refine aI (.trans (bH.Wj (E0:=80) (cs:=[(.own 2 false u0.length)]) (nn:=false) (len:=u0.length) (E:=117) (esz:=2) (n:=u0.length) (el:=aC Part.cell u0) (p:=1) (q:=0) (b:=2) (b':=9) (by kernel_rfl) (by kernel_rfl) (by kernel_rfl) (by kernel_rfl)) (.trans (fz ⟨(afm u1 u2),[VG,(1,some (.cells 80 [(.own 9 false u0.length)])),(2,none),(9,some (En u0))]⟩ []) (bH.fin (st':=⟨[],[VG,(1,some (.cells 80 [(.own 3 false u0.length)])),(2,none),(3,some (En u0))]⟩) (cs:=[]) ⟨[],[(0,0),(1,1),(2,2),(9,3)]⟩ [] (by kernel_rfl) trivial))) ?_
   refine aP ?_
   obtain rfl:=oi h
   exact nI.on (sl:=[(9,(vP 1 0))]) (by kernel_rfl) (zX (by kernel_rfl)) (dh.refl _)
def Ce  :Bool→Exit→St→Prop:=
  fun r=>aW TT [.tmp 3] (vB r) []
theorem Bo (b:Int) (x1:(List Bool)) {r:Bool} (h:kE b x1=some r):Fn Try.prog 125 [(sI b),(sD (Q5 x1))] [] (vB r) []:=by
 refine fN tT Try.func125 rfl rfl fun B=> ?_
 show bn _ _ _ _ _ _ (Ce r) _
 unfold kE at h
 refine sz tT ⟨[(0,(vI b)),(1,(vD (Q5 x1)))],[]⟩ {} [] ?_
 refine aQ (aO h fun a1 h=> ?_)
 refine rg tT ⟨[(3,(vB (bif (decide (0≤b))then(at' x1 b.toNat)else false)))],[]⟩ (eqs (decide (0≤b)) 3 ((gP (fQ [(2,(decide (0≤b)))]) [(2,true)]→All [(0:Int)≤b∧b<(x1.length:Int)])::(eqs (decide (0≤b)) 2 []))) {yb:=[(2,(decide (0≤b)))] } [] (ae ⟨(fun hg=> ⟨(a1 (aM hg)),trivial⟩),(ae trivial)⟩) ?_
 refine aR ?_
 obtain rfl:=oi h
 exact rl [(sB (bif (decide (0≤b))then(at' x1 b.toNat)else false))]
def iK  :Int→Exit→St→Prop:=
  fun r=>aW TT [.tmp 4] (vI r) []
section
variable (f_:(List Bool))
abbrev Tx:=(nV [(Q5 f_)])
abbrev Rl:Nat × TV:=(1,(vD (.fn 125 1 (Tx f_))))
end
def lZ (s_:(List Int)) (f_:(List Bool)):Int→St:=
  fun t8=> ⟨[(jk s_),(Rl f_),(oU s_),(8,(vI t8))],[]⟩
def mg  :Unit→St:=
  fun _=> ⟨[],[]⟩
def ve (s_:(List Int)) (f_:(List Bool)):(aJ Int (Ex Unit Int))→Exit→St→Prop:=
  LQ 0 [] (lZ s_ f_) mg iK
section
variable (s_:(List Int)) (f_:(List Bool))
abbrev ag5:St:=⟨[(jk s_),(Rl f_)],[]⟩
end
theorem uP (s_:(List Int)) (f_:(List Bool)) {r:Int} (h:fU s_ f_=some r):Fn Try.prog 113 [(sD (vk s_)),(sD (.fn 125 1 (Tx f_)))] [] (vI r) []:=by
 refine fN tT Try.func113 rfl rfl fun B=> ?_
 show bn _ _ _ _ _ _ (iK r) _
 unfold fU at h
 refine sz tT (ag5 s_ f_) {} [] ?_
 refine aQ (sz tT ⟨[(jk s_),(Rl f_),(oU s_),(8,(vI 0))],[]⟩ {} [] ?_)
 refine bE h fun y hy h=> ?_
 refine aL [] (lZ s_ f_) mg iK hy (fun s f h=> ?_) ?_
 ·clear hy
  show bn _ _ _ _ _ _ ((ve s_ f_) f) _
  unfold eU at h
  obtain⟨t8,rfl⟩: ∃q,q=s:=⟨_,rfl⟩
  refine sz tT ⟨[(jk s_),(Rl f_),(oU s_),(8,(vI t8)),(VH t8 s_)],[]⟩ {} [] ?_
  refine aQ ?_
  refine bI h (fun hb1 h=> ?_) (fun hb1 h=> ?_)
  ·refine ct hb1 ?_
   refine aP (aQ (aB (sz tT ⟨[(jk s_),(Rl f_),(5,(vI t8)),(oU s_),(8,(vI t8))],[]⟩ {} [] ?_)))
   refine aQ (bE h fun r_ hr_ h=> ?_)
   refine aO h fun a1 h=> ?_
   have q1:=Bo (at' s_ t8.toNat) f_ hr_
   refine rg tT ⟨[(jk s_),(Rl f_),(5,(vI t8)),(oU s_),(8,(vI t8)),(16,(vB r_))],[]⟩ [_,_] {an:=[(5,cA q1 [])] } [] ⟨a1,q1,trivial⟩ ?_
   refine bI h (fun hb h=> ?_) (fun hb h=> ?_)
   ·refine ct hb ?_
    refine sz tT ⟨[(4,(vI t8))],[]⟩ {} [] ?_
    refine aR ?_
    obtain rfl:=oi h
    exact lR bD (bC 0) bG (aW.mk (.inr rfl) (p:=[]) (l:=[(sI t8)]) (by kernel_rfl) trivial (dh.refl _) trivial)
   ·refine cf hb ?_
    refine aP (rz tT ⟨[(jk s_),(Rl f_),(oU s_),(Ul t8)],[]⟩ {} [] ?_)
    obtain rfl:=oi h
    exact lN
  ·refine cf hb1 ?_
   refine aI (fz ⟨[],[]⟩ []) ?_
   refine aX ?_
   obtain rfl:=oi h
   exact lB
 ·clear hy
  cases y with
  |brk z=>
   unfold dA
   refine⟨_, .refl, ?_⟩
   refine sz tT ⟨[(4,(vI (-1)))],[]⟩ {} [] ?_
   refine aR ?_
   obtain rfl:=oi h
   exact rl [(sI (-1))]
  |ret v=>
   obtain rfl:=oi h
   unfold dA
   intro e st hn ha hR
   cases e with
   |normal=>exact absurd rfl hn
   |exit id=>exact hR
   |goto l=>exact hR
   |ret=>exact hR
   |panic c=>exact hR
   |outgrown=>exact hR
def rZ  :Bool→Exit→St→Prop:=
  fun r=>aW TT [.tmp 4] (vB r) []
theorem j5 (s_:(List Int)) (f_:(List Bool)) {r:Bool} (h:bV s_ f_=some r):Fn Try.prog 67 [(sD (vk s_)),(sD (.fn 125 1 (Tx f_)))] [] (vB r) []:=by
 refine fN tT Try.func67 rfl rfl fun B=> ?_
 show bn _ _ _ _ _ _ (rZ r) _
 unfold bV at h
 refine sz tT (ag5 s_ f_) {} [] ?_
 refine aQ (bE h fun r_ hr_ h=> ?_)
 have q0:=uP s_ f_ hr_
 refine rg tT (k89 r_) [_] {an:=[(2,cA q0 [])] } [] ⟨q0,trivial⟩ ?_
 refine aR ?_
 obtain rfl:=oi h
 exact rl [(sB (decide (0≤r_)))]
def eG  :(List Part)→Exit→St→Prop:=
  fun r=>aW TT [] (.iq []) [Dm,(1,some (.cells 80 [(.own 3 false r.length)])),(2,none),(3,some (bU 117 2 Part.cell r))]
section
variable (x2:(List Bool)) (u4:(List Bool)) (u5:(List Bool)) (u6:(List Bool)) (u7:(List Bool)) (u8:(List Bool)) (u9:(List Bool)) (x3:(List Bool)) (u0:(List Source)) (x1:Int) (u2:(List Link)) (u3:(List ay)) (v0:Int) (u1:(List Part))
abbrev afo:DV:=(l8 [(aU none 1 aj x2),(aU none 1 aj u4),(aU none 1 aj u5),(aU none 1 aj u6),(aU none 1 aj u7),(aU none 1 aj u8),(aU none 1 aj u9)] 0)
abbrev EK:Nat × TV:=(2,(vD (afo x2 u4 u5 u6 u7 u8 u9)))
abbrev uS:Nat × TV:=(3,(vD (Q5 x3)))
abbrev Qy:Nat × TV:=(13,(vD (Z4 u0)))
abbrev Rk:Nat × TV:=(14,(vI (u0.length:Int)))
abbrev ahD:List (Nat × TV):=[dR,(MB u0 u3 x1 u2),(EK x2 u4 u5 u6 u7 u8 u9),(uS x3),(Qy u0),(Rk u0),(15,(vI v0))]
abbrev rU:List (Nat × Option Ob):=[Dm,(1,some (.cells 80 [(.own 37 false u1.length)])),(2,none),(37,some (En u1))]
end
def sN (x1:Int) (u0:(List Source)) (u2:(List Link)) (u3:(List ay)) (x2:(List Bool)) (u4:(List Bool)) (u5:(List Bool)) (u6:(List Bool)) (u7:(List Bool)) (u8:(List Bool)) (u9:(List Bool)) (x3:(List Bool)):((List Part) × Int)→St:=
  fun zz=>match zz with|(u1,v0)=> ⟨(ahD x2 u4 u5 u6 u7 u8 u9 x3 u0 x1 u2 u3 v0),(rU u1)⟩
section
variable (x1:Int) (u1:(List Source)) (u2:(List Link)) (u3:(List ay)) (x2:(List Bool)) (u4:(List Bool)) (u5:(List Bool)) (u6:(List Bool)) (u7:(List Bool)) (u8:(List Bool)) (u9:(List Bool)) (x3:(List Bool)) (u0:(List Part))
abbrev ahd:List (Nat × TV):=[dR,(MB u1 u3 x1 u2),(EK x2 u4 u5 u6 u7 u8 u9),(uS x3)]
abbrev afW:St:=⟨(ahd x1 u1 u2 u3 x2 u4 u5 u6 u7 u8 u9 x3),(rU u0)⟩
end
def tC (x1:Int) (u1:(List Source)) (u2:(List Link)) (u3:(List ay)) (x2:(List Bool)) (u4:(List Bool)) (u5:(List Bool)) (u6:(List Bool)) (u7:(List Bool)) (u8:(List Bool)) (u9:(List Bool)) (x3:(List Bool)):(List Part)→St:=
  fun u0=>(afW x1 u1 u2 u3 x2 u4 u5 u6 u7 u8 u9 x3 u0)
def CP (x1:Int) (u0:(List Source)) (u1:(List Link)) (u2:(List ay)) (x2:(List Bool)) (u3:(List Bool)) (u4:(List Bool)) (u5:(List Bool)) (u6:(List Bool)) (u7:(List Bool)) (u8:(List Bool)) (x3:(List Bool)):(aJ ((List Part) × Int) (Ex (List Part) (List Part)))→Exit→St→Prop:=
  LQ 0 [] (sN x1 u0 u1 u2 x2 u3 u4 u5 u6 u7 u8 x3) (tC x1 u0 u1 u2 x2 u3 u4 u5 u6 u7 u8 x3) eG
section
variable (u0:(List Link)) (x1:Int) (u2:(List Source)) (u3:(List ay)) (x2:(List Bool)) (u4:(List Bool)) (u5:(List Bool)) (u6:(List Bool)) (u7:(List Bool)) (u8:(List Bool)) (u9:(List Bool)) (x3:(List Bool)) (v0:Int)
abbrev Qp:Nat × TV:=(43,(vD (aU none 6 Link.cell u0)))
abbrev RV:Nat × TV:=(44,(vI (u0.length:Int)))
abbrev afH:List (Nat × TV):=[dR,(MB u2 u3 x1 u0),(EK x2 u4 u5 u6 u7 u8 u9),(uS x3),(Qp u0),(RV u0),(45,(vI v0))]
end
def tN (x1:Int) (u2:(List Source)) (u0:(List Link)) (u3:(List ay)) (x2:(List Bool)) (u4:(List Bool)) (u5:(List Bool)) (u6:(List Bool)) (u7:(List Bool)) (u8:(List Bool)) (u9:(List Bool)) (x3:(List Bool)):((List Part) × Int)→St:=
  fun zz=>match zz with|(u1,v0)=> ⟨(afH u0 x1 u2 u3 x2 u4 u5 u6 u7 u8 u9 x3 v0),(rU u1)⟩
section
variable (x1:Int) (u1:(List Source)) (u2:(List Link)) (u3:(List ay)) (x3:(List Bool)) (u0:(List Part))
abbrev air:List (Nat × TV):=[dR,(MB u1 u3 x1 u2),(uS x3)]
abbrev aei:St:=⟨(air x1 u1 u2 u3 x3),(rU u0)⟩
end
def uF (x1:Int) (u1:(List Source)) (u2:(List Link)) (u3:(List ay)) (x3:(List Bool)):(List Part)→St:=
  fun u0=>(aei x1 u1 u2 u3 x3 u0)
def Di (x1:Int) (u0:(List Source)) (u1:(List Link)) (u2:(List ay)) (x2:(List Bool)) (u3:(List Bool)) (u4:(List Bool)) (u5:(List Bool)) (u6:(List Bool)) (u7:(List Bool)) (u8:(List Bool)) (x3:(List Bool)):(aJ ((List Part) × Int) (Ex (List Part) (List Part)))→Exit→St→Prop:=
  LQ 2 [] (tN x1 u0 u1 u2 x2 u3 u4 u5 u6 u7 u8 x3) (uF x1 u0 u1 u2 x3) eG
section
variable (u0:(List ay)) (x3:(List Bool)) (u2:Int)
abbrev OC:Nat × TV:=(78,(vD (VZ u0)))
abbrev NT:Nat × TV:=(79,(vI (u0.length:Int)))
abbrev afi:List (Nat × TV):=[dR,(uS x3),(OC u0),(NT u0),(80,(vI u2))]
end
def sU (u0:(List ay)) (x3:(List Bool)):((List Part) × Int)→St:=
  fun zz=>match zz with|(u1,u2)=> ⟨(afi u0 x3 u2),(rU u1)⟩
def tq  :(List Part)→St:=
  fun o905=> ⟨[],[Dm,(1,some (.cells 80 [(.own 37 false o905.length)])),(2,none),(37,some (bU 117 2 Part.cell o905))]⟩
def CS (u0:(List ay)) (x3:(List Bool)):(aJ ((List Part) × Int) (Ex (List Part) (List Part)))→Exit→St→Prop:=
  LQ 4 [] (sU u0 x3) tq eG
section
variable (x1:Int) (u1:(List Source)) (u0:(List Link)) (u2:(List ay)) (x2:(List Bool)) (u7:(List Bool)) (u8:(List Bool)) (u9:(List Bool)) (v0:(List Bool)) (v1:(List Bool)) (v2:(List Bool)) (x3:(List Bool)) (u4:Int) (r_:Bool) (v8:(List Part)) (v5:(List Part)) (u3:Int) (u5:Bool) (v9:(List Part)) (u6:Int) (v3:Bool) (w0:(List Part))
abbrev afs:List SV:=[(.one (.yl 0)),(sD (k70 u1 u2 x1 u0)),(sD (afo x2 u7 u8 u9 v0 v1 v2)),(sD (Q5 x3))]
abbrev X8:List (Nat × TV):=[dR,(MB u1 u2 x1 u0),(EK x2 u7 u8 u9 v0 v1 v2),(uS x3),(Qy u1),(Rk u1),(15,(vI 0))]
abbrev ail:List (Nat × TV):=[dR,(MB u1 u2 x1 u0),(EK x2 u7 u8 u9 v0 v1 v2),(uS x3),(Qy u1),(Rk u1),(15,(vI u4)),(16,(vB (decide (u4<(u1.length:Int)))))]
abbrev ah2:List (Nat × TV):=[dR,(MB u1 u2 x1 u0),(EK x2 u7 u8 u9 v0 v1 v2),(uS x3),(5,(vI u4)),(6,(vD (l8 [(.int .i64 ((at' u1 u4.toNat).bus)),(.int .i64 ((at' u1 u4.toNat).kind)),(.int .i64 ((at' u1 u4.toNat).power)),(.int .i64 ((at' u1 u4.toNat).sync)),(.int .i64 ((at' u1 u4.toNat).fT))] 0))),(Qy u1),(Rk u1),(15,(vI u4))]
abbrev sF:=(bif r_ then(!(at' x3 (((at' u1 u4.toNat).bus).toNat)))else false)
abbrev abQ:List (Nat × TV):=[dR,(MB u1 u2 x1 u0),(EK x2 u7 u8 u9 v0 v1 v2),(uS x3),(Qy u1),(Rk u1),(15,(vI u4)),(40,(vB (bif (sF u1 x3 u4 r_)then false else false)))]
abbrev abA:List (Nat × Option Ob):=[Dm,(1,some (.cells 80 [(.own 41 false v8.length)])),(2,none),(41,some (En v8))]
abbrev ah1:=(gP (fQ [(4,r_),(12,true)]) [(4,true)]→All [(0:Int)≤(at' u1 u4.toNat).bus∧(at' u1 u4.toNat).bus<(x3.length:Int)])
abbrev aaX:List (Nat × Option Ob):=[Dm,(1,some (.cells 80 [(.own 37 false v5.length)])),(37,some (En v5))]
abbrev agj:List (Nat × Option Ob):=[Dm,(1,some (.cells 80 [(.own 41 false v8.length)])),(37,none),(41,some (En v8))]
abbrev ab2:List (Nat × TV):=[dR,(MB u1 u2 x1 u0),(EK x2 u7 u8 u9 v0 v1 v2),(uS x3),(Qy u1),(Rk u1),(15,(vI u4)),(40,(vB false))]
abbrev aaO:List (Nat × TV):=[dR,(MB u1 u2 x1 u0),(EK x2 u7 u8 u9 v0 v1 v2),(uS x3),(Qy u1),(Rk u1),(15,(k3 u4))]
abbrev ahR:St:=⟨(aaO x1 u1 u0 u2 x2 u7 u8 u9 v0 v1 v2 x3 u4),(rU v8)⟩
abbrev NZ:=(fQ [(4,r_),(12,false)])
abbrev af5:=(eqs r_ 4 ((gP (NZ r_) [(4,true)]→All [(0:Int)≤(at' u1 u4.toNat).bus∧(at' u1 u4.toNat).bus<(x3.length:Int)])::(eqs r_ 3 [(sF u1 x3 u4 r_)=false, ¬ gP (NZ r_) [(12,true)],(sF u1 x3 u4 r_)=false, ¬ gP (NZ r_) [(12,true)],(sF u1 x3 u4 r_)=false, ¬ gP (NZ r_) [(12,true)],(sF u1 x3 u4 r_)=false, ¬ gP (NZ r_) [(12,true)],(sF u1 x3 u4 r_)=false, ¬ gP (NZ r_) [(12,true)],(sF u1 x3 u4 r_)=false, ¬ gP (NZ r_) [(12,true)],(sF u1 x3 u4 r_)=false, ¬ gP (NZ r_) [(12,true)],(sF u1 x3 u4 r_)=false])))
abbrev aha:List (Nat × TV):=[dR,(MB u1 u2 x1 u0),(EK x2 u7 u8 u9 v0 v1 v2),(uS x3),(Qp u0),(RV u0),(45,(vI 0))]
abbrev adL:List (Nat × TV):=[dR,(MB u1 u2 x1 u0),(EK x2 u7 u8 u9 v0 v1 v2),(uS x3),(Qp u0),(RV u0),(45,(vI u3)),(46,(vB (decide (u3<(u0.length:Int)))))]
abbrev aeS:List (Nat × TV):=[dR,(MB u1 u2 x1 u0),(EK x2 u7 u8 u9 v0 v1 v2),(uS x3),(7,(vI u3)),(8,(vD (l8 [(.int .i64 ((at' u0 u3.toNat).a)),(.int .i64 ((at' u0 u3.toNat).b)),(.int .i64 ((at' u0 u3.toNat).kind)),(.int .i64 ((at' u0 u3.toNat).most)),(.int .i64 ((at' u0 u3.toNat).fT)),(aU none 2 iL.cell ((at' u0 u3.toNat).trip))] 0))),(Qp u0),(RV u0),(45,(vI u3))]
abbrev su:=(bif u5 then(!((at' x3 (((at' u0 u3.toNat).a).toNat))==(at' x3 (((at' u0 u3.toNat).b).toNat))))else false)
abbrev abC:List (Nat × TV):=[dR,(MB u1 u2 x1 u0),(EK x2 u7 u8 u9 v0 v1 v2),(uS x3),(Qp u0),(RV u0),(45,(vI u3)),(75,(vB (bif (su u0 x3 u3 u5)then false else false)))]
abbrev abj:List (Nat × Option Ob):=[Dm,(1,some (.cells 80 [(.own 50 false v9.length)])),(2,none),(50,some (En v9))]
abbrev Uu:=(fQ [(4,u5),(17,true)])
abbrev aic:=(gP (Uu u5) [(4,true)]→All [(0:Int)≤(at' u0 u3.toNat).a∧(at' u0 u3.toNat).a<(x3.length:Int)])
abbrev aeO:=(gP (Uu u5) [(4,true)]→All [(0:Int)≤(at' u0 u3.toNat).b∧(at' u0 u3.toNat).b<(x3.length:Int)])
abbrev ae4:List (Nat × Option Ob):=[Dm,(1,some (.cells 80 [(.own 50 false v9.length)])),(37,none),(50,some (En v9))]
abbrev abx:List (Nat × TV):=[dR,(MB u1 u2 x1 u0),(EK x2 u7 u8 u9 v0 v1 v2),(uS x3),(Qp u0),(RV u0),(45,(vI u3)),(75,(vB false))]
abbrev abm:List (Nat × TV):=[dR,(MB u1 u2 x1 u0),(EK x2 u7 u8 u9 v0 v1 v2),(uS x3),(Qp u0),(RV u0),(45,(k3 u3))]
abbrev agB:St:=⟨(abm x1 u1 u0 u2 x2 u7 u8 u9 v0 v1 v2 x3 u3),(rU v9)⟩
abbrev Nn:=(fQ [(4,u5),(17,false)])
abbrev agQ:=(eqs u5 4 ((gP (Nn u5) [(4,true)]→All [(0:Int)≤(at' u0 u3.toNat).a∧(at' u0 u3.toNat).a<(x3.length:Int)])::(eqs u5 5 ((gP (Nn u5) [(4,true)]→All [(0:Int)≤(at' u0 u3.toNat).b∧(at' u0 u3.toNat).b<(x3.length:Int)])::(eqs u5 3 [(su u0 x3 u3 u5)=false, ¬ gP (Nn u5) [(17,true)],(su u0 x3 u3 u5)=false, ¬ gP (Nn u5) [(17,true)],(su u0 x3 u3 u5)=false, ¬ gP (Nn u5) [(17,true)],(su u0 x3 u3 u5)=false, ¬ gP (Nn u5) [(17,true)],(su u0 x3 u3 u5)=false, ¬ gP (Nn u5) [(17,true)],(su u0 x3 u3 u5)=false, ¬ gP (Nn u5) [(17,true)],(su u0 x3 u3 u5)=false, ¬ gP (Nn u5) [(17,true)],(su u0 x3 u3 u5)=false])))))
abbrev agI:List (Nat × TV):=[dR,(uS x3),(OC u2),(NT u2),(80,(vI 0))]
abbrev afh:List (Nat × TV):=[dR,(uS x3),(OC u2),(NT u2),(80,(vI u6)),(81,(vB (decide (u6<(u2.length:Int)))))]
abbrev aeR:Nat × TV:=(10,(aeW u2 u6))
abbrev adI:List (Nat × TV):=[dR,(uS x3),(9,(vI u6)),(aeR u2 u6),(OC u2),(NT u2),(80,(vI u6))]
abbrev afk:List (Nat × TV):=[dR,(uS x3),(9,(vI u6)),(aeR u2 u6),(11,(vB v3)),(OC u2),(NT u2),(80,(vI u6))]
abbrev aev:List SV:=[(sD (aU none 1 (au .i64) [(yx u2 u6).e0,(yx u2 u6).e1])),(sD (.fn 125 1 (Tx x3)))]
abbrev abz:List (Nat × TV):=[dR,(uS x3),(OC u2),(NT u2),(80,(vI u6)),(98,(vB (bif v3 then false else false)))]
abbrev aat:List (Nat × Option Ob):=[Dm,(1,some (.cells 80 [(.own 58 false w0.length)])),(2,none),(58,some (En w0))]
abbrev aii:List (Nat × Option Ob):=[Dm,(1,some (.cells 80 [(.own 58 false w0.length)])),(37,none),(58,some (En w0))]
abbrev ab6:List (Nat × TV):=[dR,(uS x3),(OC u2),(NT u2),(80,(vI u6)),(98,(vB false))]
abbrev acR:List (Nat × TV):=[dR,(uS x3),(OC u2),(NT u2),(80,(k3 u6))]
abbrev aho:St:=⟨(acR u2 x3 u6),(rU w0)⟩
end
theorem Dp (x1:Int) (u1:(List Source)) (u0:(List Link)) (u2:(List ay)) (x2:(List Bool)) (u7:(List Bool)) (u8:(List Bool)) (u9:(List Bool)) (v0:(List Bool)) (v1:(List Bool)) (v2:(List Bool)) (x3:(List Bool)) (v7:(List Part)) {r:(List Part)} (h:qJ x1 u1 u0 u2 x2 u7 u8 u9 v0 v1 v2 x3 v7=some r):Fn Try.prog 124 (afs x1 u1 u0 u2 x2 u7 u8 u9 v0 v1 v2 x3) (Ub v7) (.iq []) [Dm,(1,some (.cells 80 [(.own 3 false r.length)])),(2,none),(3,some (bU 117 2 Part.cell r))]:=by
 refine fN tT Try.func124 rfl rfl fun B=> ?_
 show bn _ _ _ _ _ _ (eG r) _
 unfold qJ at h
 refine aQ (sz tT ⟨(X8 x1 u1 u0 u2 x2 u7 u8 u9 v0 v1 v2 x3),(Ub v7)⟩ {} [] ?_)
 refine bE h fun y hy h=> ?_
 refine aI (.trans (bH.Wj (E0:=80) (cs:=[(.own 2 false v7.length)]) (nn:=false) (len:=v7.length) (E:=117) (esz:=2) (n:=v7.length) (el:=aC Part.cell v7) (p:=1) (q:=0) (b:=2) (b':=42) (by kernel_rfl) (by kernel_rfl) (by kernel_rfl) (by kernel_rfl)) (.trans (fz ⟨(X8 x1 u1 u0 u2 x2 u7 u8 u9 v0 v1 v2 x3),[Dm,(1,some (.cells 80 [(.own 42 false v7.length)])),(2,none),(42,some (En v7))]⟩ []) (bH.fin (st':=⟨(X8 x1 u1 u0 u2 x2 u7 u8 u9 v0 v1 v2 x3),(rU v7)⟩) (cs:=[]) ⟨[],[(0,0),(1,1),(2,2),(42,37)]⟩ [0,1,2,3,13,14,15] (by kernel_rfl) trivial))) ?_
 refine aL [] (sN x1 u1 u0 u2 x2 u7 u8 u9 v0 v1 v2 x3) (tC x1 u1 u0 u2 x2 u7 u8 u9 v0 v1 v2 x3) eG hy (fun s f h=> ?_) ?_
 ·clear hy
  show bn _ _ _ _ _ _ ((CP x1 u1 u0 u2 x2 u7 u8 u9 v0 v1 v2 x3) f) _
  unfold tK at h
  obtain⟨v5,u4⟩:=s
  refine sz tT ⟨(ail x1 u1 u0 u2 x2 u7 u8 u9 v0 v1 v2 x3 u4),(rU v5)⟩ {} [] ?_
  refine aQ ?_
  refine bI h (fun hb1 h=> ?_) (fun hb1 h=> ?_)
  ·refine ct hb1 ?_
   refine aP (aQ (aB (aQ (aO h fun a1 h=> ?_))))
   refine rg tT ⟨(ah2 x1 u1 u0 u2 x2 u7 u8 u9 v0 v1 v2 x3 u4),(rU v5)⟩ [_] {fr:=[(3,40)] } [40] ⟨a1,trivial⟩ ?_
   refine aQ (bE h fun r_ hr_ h=> ?_)
   refine bI h (fun hb h=> ?_) (fun hb h=> ?_)
   ·skip
    refine bE h fun v8 hr_1 h=> ?_
    refine aO h fun a1 h=> ?_
    have q0:=fC (⟨x1,u1,u0,u2⟩:ah) (⟨x2,u7,u8,u9,v0,v1,v2⟩:State) u4 hr_
    refine ri tT ⟨(abQ x1 u1 u0 u2 x2 u7 u8 u9 v0 v1 v2 x3 u4 r_),(abA v8)⟩ (_::(eqs r_ 4 ((ah1 u1 x3 u4 r_)::(eqs r_ 3 [(sF u1 x3 u4 r_)=true,(sF u1 x3 u4 r_)=true,(sF u1 x3 u4 r_)=true,(sF u1 x3 u4 r_)=true,(sF u1 x3 u4 r_)=true,(sF u1 x3 u4 r_)=true,gP (fQ [(4,r_),(12,true)]) [(12,true)]→All [Yl Try.prog 0 [(.agg [(cI 2),(cI u4)]),(sI ((at' u1 u4.toNat).power))] (aaX v5) (vB true) (agj v8)],gP (fQ [(4,r_),(12,true)]) [(12,true)],(sF u1 x3 u4 r_)=true,(sF u1 x3 u4 r_)=true])))) {yb:=[(4,r_),(12,true)],an:=[(3,cA q0 []),(18, .call [0,1,37] (vB true) (agj v8))] } [] ⟨q0,(ae ⟨(fun hg=> ⟨(a1 (aM hg)),trivial⟩),(ae ⟨(hb),(hb),(hb),(hb),(hb),(hb),(fun hg=> ⟨(yK [(2,37),(3,41)] (mV 2 u4 ((at' u1 u4.toNat).power) v5 hr_1)),trivial⟩),(⟨rfl,trivial⟩),(hb),(hb),trivial⟩)⟩)⟩ (bH.le (st':=⟨(ab2 x1 u1 u0 u2 x2 u7 u8 u9 v0 v1 v2 x3 u4),(abA v8)⟩) ⟨⟨tR,tR,tR,tR,tR,tR,tR,⟨_,rfl,dh.v (dX.one (dD.of (congrArg (fun b=>CV.d (.bool b)) (CK hb))))⟩,trivial⟩,(.refl _)⟩) ?_
    refine cn (aP (ri tT ⟨(aaO x1 u1 u0 u2 x2 u7 u8 u9 v0 v1 v2 x3 u4),(abA v8)⟩ [] {} [] trivial (bH.fin (st':=(ahR x1 u1 u0 u2 x2 u7 u8 u9 v0 v1 v2 x3 u4 v8)) (cs:=[]) ⟨[],[(0,0),(1,1),(2,2),(41,37)]⟩ [0,1,2,3,13,14,15] (by kernel_rfl) trivial) ?_))
    obtain rfl:=oi h
    exact lN
   ·skip
    refine aO h fun a1 h=> ?_
    have q0:=fC (⟨x1,u1,u0,u2⟩:ah) (⟨x2,u7,u8,u9,v0,v1,v2⟩:State) u4 hr_
    refine ri tT ⟨(abQ x1 u1 u0 u2 x2 u7 u8 u9 v0 v1 v2 x3 u4 r_),(rU v5)⟩ (_::(af5 u1 x3 u4 r_)) {yb:=[(4,r_),(12,false)],an:=[(3,cA q0 []),(13, .skip),(14, .skip),(15, .skip),(16, .skip),(17, .skip),(18, .skip),(19, .skip)] } [] ⟨q0,(ae ⟨(fun hg=> ⟨(a1 (aM hg)),trivial⟩),(ae ⟨(hb),((fun h=>Bool.noConfusion (show false=true from h.1))),(hb),((fun h=>Bool.noConfusion (show false=true from h.1))),(hb),((fun h=>Bool.noConfusion (show false=true from h.1))),(hb),((fun h=>Bool.noConfusion (show false=true from h.1))),(hb),((fun h=>Bool.noConfusion (show false=true from h.1))),(hb),((fun h=>Bool.noConfusion (show false=true from h.1))),(hb),((fun h=>Bool.noConfusion (show false=true from h.1))),(hb),trivial⟩)⟩)⟩ (bH.le (st':=⟨(ab2 x1 u1 u0 u2 x2 u7 u8 u9 v0 v1 v2 x3 u4),(rU v5)⟩) ⟨⟨tR,tR,tR,tR,tR,tR,tR,⟨_,rfl,dh.v (dX.one (dD.of (congrArg (fun b=>CV.d (.bool b)) (Dq hb))))⟩,trivial⟩,(.refl _)⟩) ?_
    refine cn (aP (rz tT (ahR x1 u1 u0 u2 x2 u7 u8 u9 v0 v1 v2 x3 u4 v5) {} [] ?_))
    obtain rfl:=oi h
    exact lN
  ·refine cf hb1 ?_
   refine aI (fz (afW x1 u1 u0 u2 x2 u7 u8 u9 v0 v1 v2 x3 v5) []) ?_
   refine aX ?_
   obtain rfl:=oi h
   exact lB
 ·clear hy
  cases y with
  |brk z=>
   obtain⟨w1,rfl⟩: ∃q,q=z:=⟨_,rfl⟩
   unfold dA
   refine⟨_, .refl, ?_⟩
   refine aQ (sz tT ⟨(aha x1 u1 u0 u2 x2 u7 u8 u9 v0 v1 v2 x3),(rU w1)⟩ {} [] ?_)
   refine bE h fun y1 hy h=> ?_
   refine aL [] (tN x1 u1 u0 u2 x2 u7 u8 u9 v0 v1 v2 x3) (uF x1 u1 u0 u2 x3) eG hy (fun s f h=> ?_) ?_
   ·clear hy
    show bn _ _ _ _ _ _ ((Di x1 u1 u0 u2 x2 u7 u8 u9 v0 v1 v2 x3) f) _
    unfold tX at h
    obtain⟨v6,u3⟩:=s
    refine sz tT ⟨(adL x1 u1 u0 u2 x2 u7 u8 u9 v0 v1 v2 x3 u3),(rU v6)⟩ {} [] ?_
    refine aQ ?_
    refine bI h (fun hb3 h=> ?_) (fun hb3 h=> ?_)
    ·refine ct hb3 ?_
     refine aP (aQ (aB (aQ (aO h fun a1 h=> ?_))))
     refine rg tT ⟨(aeS x1 u1 u0 u2 x2 u7 u8 u9 v0 v1 v2 x3 u3),(rU v6)⟩ [_] {fr:=[(3,49)] } [49] ⟨a1,trivial⟩ ?_
     refine aQ (bE h fun u5 hr_2 h=> ?_)
     refine bI h (fun hb2 h=> ?_) (fun hb2 h=> ?_)
     ·skip
      refine bE h fun v9 hr_3 h=> ?_
      refine aO h fun⟨a1,a2⟩ h=> ?_
      have q0:=dI (⟨x1,u1,u0,u2⟩:ah) (⟨x2,u7,u8,u9,v0,v1,v2⟩:State) u3 hr_2
      refine di tT mX ⟨(abC x1 u1 u0 u2 x2 u7 u8 u9 v0 v1 v2 x3 u3 u5),(abj v9)⟩ (_::(eqs u5 4 ((aic u0 x3 u3 u5)::(eqs u5 5 ((aeO u0 x3 u3 u5)::(eqs u5 3 [(su u0 x3 u3 u5)=true,(su u0 x3 u3 u5)=true,(su u0 x3 u3 u5)=true,(su u0 x3 u3 u5)=true,(su u0 x3 u3 u5)=true,(su u0 x3 u3 u5)=true,gP (Uu u5) [(17,true)]→All [Yl Try.prog 0 [(.agg [(cI 3),(cI u3)]),(sI ((at' u0 u3.toNat).most))] (aaX v6) (vB true) (ae4 v9)],gP (Uu u5) [(17,true)],(su u0 x3 u3 u5)=true,(su u0 x3 u3 u5)=true])))))) {yb:=[(4,u5),(17,true)],an:=[(3,cA q0 []),(23, .call [0,1,37] (vB true) (ae4 v9))] } [] ⟨q0,(ae ⟨(fun hg=> ⟨(a1 (aM hg)),trivial⟩),(ae ⟨(fun hg=> ⟨(a2 (aM hg)),trivial⟩),(ae ⟨(hb2),(hb2),(hb2),(hb2),(hb2),(hb2),(fun hg=> ⟨(yK [(2,37),(3,50)] (mV 3 u3 ((at' u0 u3.toNat).most) v6 hr_3)),trivial⟩),(⟨rfl,trivial⟩),(hb2),(hb2),trivial⟩)⟩)⟩)⟩ (bH.le (st':=⟨(abx x1 u1 u0 u2 x2 u7 u8 u9 v0 v1 v2 x3 u3),(abj v9)⟩) ⟨⟨tR,tR,tR,tR,tR,tR,tR,⟨_,rfl,dh.v (dX.one (dD.of (congrArg (fun b=>CV.d (.bool b)) (CK hb2))))⟩,trivial⟩,(.refl _)⟩) ?_
      refine cn (aP (ri tT ⟨(abm x1 u1 u0 u2 x2 u7 u8 u9 v0 v1 v2 x3 u3),(abj v9)⟩ [] {} [] trivial (bH.fin (st':=(agB x1 u1 u0 u2 x2 u7 u8 u9 v0 v1 v2 x3 u3 v9)) (cs:=[]) ⟨[],[(0,0),(1,1),(2,2),(50,37)]⟩ [0,1,2,3,43,44,45] (by kernel_rfl) trivial) ?_))
      obtain rfl:=oi h
      exact lN
     ·skip
      refine aO h fun⟨a1,a2⟩ h=> ?_
      have q0:=dI (⟨x1,u1,u0,u2⟩:ah) (⟨x2,u7,u8,u9,v0,v1,v2⟩:State) u3 hr_2
      refine di tT mX ⟨(abC x1 u1 u0 u2 x2 u7 u8 u9 v0 v1 v2 x3 u3 u5),(rU v6)⟩ (_::(agQ u0 x3 u3 u5)) {yb:=[(4,u5),(17,false)],an:=[(3,cA q0 []),(18, .skip),(19, .skip),(20, .skip),(21, .skip),(22, .skip),(23, .skip),(24, .skip)] } [] ⟨q0,(ae ⟨(fun hg=> ⟨(a1 (aM hg)),trivial⟩),(ae ⟨(fun hg=> ⟨(a2 (aM hg)),trivial⟩),(ae ⟨(hb2),((fun h=>Bool.noConfusion (show false=true from h.1))),(hb2),((fun h=>Bool.noConfusion (show false=true from h.1))),(hb2),((fun h=>Bool.noConfusion (show false=true from h.1))),(hb2),((fun h=>Bool.noConfusion (show false=true from h.1))),(hb2),((fun h=>Bool.noConfusion (show false=true from h.1))),(hb2),((fun h=>Bool.noConfusion (show false=true from h.1))),(hb2),((fun h=>Bool.noConfusion (show false=true from h.1))),(hb2),trivial⟩)⟩)⟩)⟩ (bH.le (st':=⟨(abx x1 u1 u0 u2 x2 u7 u8 u9 v0 v1 v2 x3 u3),(rU v6)⟩) ⟨⟨tR,tR,tR,tR,tR,tR,tR,⟨_,rfl,dh.v (dX.one (dD.of (congrArg (fun b=>CV.d (.bool b)) (Dq hb2))))⟩,trivial⟩,(.refl _)⟩) ?_
      refine cn (aP (rz tT (agB x1 u1 u0 u2 x2 u7 u8 u9 v0 v1 v2 x3 u3 v6) {} [] ?_))
      obtain rfl:=oi h
      exact lN
    ·refine cf hb3 ?_
     refine aI (fz (aei x1 u1 u0 u2 x3 v6) []) ?_
     refine aX ?_
     obtain rfl:=oi h
     exact lB
   ·clear hy
    cases y1 with
    |brk z=>
     obtain⟨w2,rfl⟩: ∃q,q=z:=⟨_,rfl⟩
     unfold dA
     refine⟨_, .refl, ?_⟩
     refine sz tT ⟨(agI u2 x3),(rU w2)⟩ {} [] ?_
     refine bE h fun y2 hy h=> ?_
     refine aL [] (sU u2 x3) tq eG hy (fun s f h=> ?_) ?_
     ·clear hy
      show bn _ _ _ _ _ _ ((CS u2 x3) f) _
      unfold tH at h
      obtain⟨v4,u6⟩:=s
      refine sz tT ⟨(afh u2 x3 u6),(rU v4)⟩ {} [] ?_
      refine aQ ?_
      refine bI h (fun hb5 h=> ?_) (fun hb5 h=> ?_)
      ·refine ct hb5 ?_
       refine aP (aQ (aB (aQ (aO h fun a1 h=> ?_))))
       refine rg tT ⟨(adI u2 x3 u6),(rU v4)⟩ [_] {fr:=[(3,57)] } [57] ⟨a1,trivial⟩ ?_
       refine aQ (bE h fun v3 hr_4 h=> ?_)
       refine rg tT ⟨(afk u2 x3 u6 v3),(rU v4)⟩ [Fn Try.prog 67 [(sD (.sl (some true) 1 [(yx u2 u6).e0,(yx u2 u6).e1].length (fun i j=>((aa5 u2 u6).getD (0+(0+(i*1+j))) .nilp)))),(sD (.fn 125 1 (Tx x3)))] [] (vB v3) []] {an:=[(3, .call [] (vB v3) [])] } [] ⟨(Fn.leH (args:=(aev u2 x3 u6)) (hin:=[]) (j5 [(yx u2 u6).e0,(yx u2 u6).e1] x3 hr_4) ⟨dX.one (dD.d (gG.sl (.inl rfl) (by intro i hi j hj;match i,j,hi,hj with|0,0,_,_=>exact .refl _|1,0,_,_=>exact .refl _))),dX.refl _,trivial⟩ trivial),trivial⟩ ?_
       refine aQ ?_
       refine bI h (fun hb4 h=> ?_) (fun hb4 h=> ?_)
       ·skip
        refine bE h fun w0 hr_5 h=> ?_
        refine ri tT ⟨(abz u2 x3 u6 v3),(aat w0)⟩ [v3=true,v3=true,v3=true,v3=true,v3=true,v3=true,gP (fQ [(1,true)]) [(1,true)]→All [Yl Try.prog 0 [(.agg [(cI 0),(cI u6)]),(sI ((at' u2 u6.toNat).power))] (aaX v4) (vB true) (aii w0)],gP (fQ [(1,true)]) [(1,true)],v3=true,v3=true] {yb:=[(1,true)],an:=[(7, .call [0,1,37] (vB true) (aii w0))] } [] ⟨(hb4),(hb4),(hb4),(hb4),(hb4),(hb4),(fun hg=> ⟨(yK [(2,37),(3,58)] (mV 0 u6 ((at' u2 u6.toNat).power) v4 hr_5)),trivial⟩),(⟨rfl,trivial⟩),(hb4),(hb4),trivial⟩ (bH.le (st':=⟨(ab6 u2 x3 u6),(aat w0)⟩) ⟨⟨tR,tR,tR,tR,tR,⟨_,rfl,dh.v (dX.one (dD.of (congrArg (fun b=>CV.d (.bool b)) (CK hb4))))⟩,trivial⟩,(.refl _)⟩) ?_
        refine cn (aP (ri tT ⟨(acR u2 x3 u6),(aat w0)⟩ [] {} [] trivial (bH.fin (st':=(aho u2 x3 u6 w0)) (cs:=[]) ⟨[],[(0,0),(1,1),(2,2),(58,37)]⟩ [0,3,78,79,80] (by kernel_rfl) trivial) ?_))
        obtain rfl:=oi h
        exact lN
       ·skip
        refine ri tT ⟨(abz u2 x3 u6 v3),(rU v4)⟩ [v3=false, ¬ gP (fQ [(1,false)]) [(1,true)],v3=false, ¬ gP (fQ [(1,false)]) [(1,true)],v3=false, ¬ gP (fQ [(1,false)]) [(1,true)],v3=false, ¬ gP (fQ [(1,false)]) [(1,true)],v3=false, ¬ gP (fQ [(1,false)]) [(1,true)],v3=false, ¬ gP (fQ [(1,false)]) [(1,true)],v3=false, ¬ gP (fQ [(1,false)]) [(1,true)],v3=false] {yb:=[(1,false)],an:=[(2, .skip),(3, .skip),(4, .skip),(5, .skip),(6, .skip),(7, .skip),(8, .skip)] } [] ⟨(hb4),((fun h=>Bool.noConfusion (show false=true from h.1))),(hb4),((fun h=>Bool.noConfusion (show false=true from h.1))),(hb4),((fun h=>Bool.noConfusion (show false=true from h.1))),(hb4),((fun h=>Bool.noConfusion (show false=true from h.1))),(hb4),((fun h=>Bool.noConfusion (show false=true from h.1))),(hb4),((fun h=>Bool.noConfusion (show false=true from h.1))),(hb4),((fun h=>Bool.noConfusion (show false=true from h.1))),(hb4),trivial⟩ (bH.le (st':=⟨(ab6 u2 x3 u6),(rU v4)⟩) ⟨⟨tR,tR,tR,tR,tR,⟨_,rfl,dh.v (dX.one (dD.of (congrArg (fun b=>CV.d (.bool b)) (Dq hb4))))⟩,trivial⟩,(.refl _)⟩) ?_
        refine cn (aP (rz tT (aho u2 x3 u6 v4) {} [] ?_))
        obtain rfl:=oi h
        exact lN
      ·refine cf hb5 ?_
       refine aI (fz ⟨[],(rU v4)⟩ []) ?_
       refine aX ?_
       obtain rfl:=oi h
       exact lB
     ·clear hy
      cases y2 with
      |brk z=>
       obtain⟨o905,rfl⟩: ∃q,q=z:=⟨_,rfl⟩
       unfold dA
       refine⟨_,(bH.fin (st':=⟨[],[Dm,(1,some (.cells 80 [(.own 3 false o905.length)])),(2,none),(3,some (bU 117 2 Part.cell o905))]⟩) (cs:=[]) ⟨[],[(0,0),(1,1),(2,2),(37,3)]⟩ [] (by kernel_rfl) trivial), ?_⟩
       obtain rfl:=oi h
       exact aW.mk (.inl rfl) (p:=[]) (l:=[]) (by kernel_rfl) trivial (dh.refl _) (hN 2 ⟨rfl,trivial,(.refl _)⟩)
      |ret v=>
       obtain rfl:=oi h
       unfold dA
       intro e st hn ha hR
       cases e with
       |normal=>exact absurd rfl hn
       |exit id=>exact hR
       |goto l=>exact hR
       |ret=>exact hR
       |panic c=>exact hR
       |outgrown=>exact hR
    |ret v=>
     obtain rfl:=oi h
     unfold dA
     intro e st hn ha hR
     cases e with
     |normal=>exact absurd rfl hn
     |exit id=>exact hR
     |goto l=>exact hR
     |ret=>exact hR
     |panic c=>exact hR
     |outgrown=>exact hR
  |ret v=>
   obtain rfl:=oi h
   unfold dA
   intro e st hn ha hR
   cases e with
   |normal=>exact absurd rfl hn
   |exit id=>exact hR
   |goto l=>exact hR
   |ret=>exact hR
   |panic c=>exact hR
   |outgrown=>exact hR
def KX  :((List Part) × Int)→Exit→St→Prop:=
  fun r=>aW TT [.tmp 4, .tmp 5] (.iq [(sD (aU none 2 Part.cell r.1)),(sI r.2)]) []
section
variable (p:ah) (s_:State) (r_:(ai × (List Bool) × Int)) (u0:(Int × (List Source) × (List Link) × (List ay) × (List Bool) × (List Bool) × (List Bool) × (List Bool) × (List Bool) × (List Bool) × (List Bool) × (List Bool)))
abbrev aaF:St:=⟨[(k9 p),(bX s_)],[]⟩
abbrev KS:DV:=(aU none 1 aj r_.2.1)
abbrev abt:List (Nat × TV):=[(k9 p),(bX s_),(7,(vD (KS r_))),(9,(vP 20 0))]
abbrev ahI:List (Nat × Option Ob):=[(20,some (.cells 80 [(.own 21 false (([]:List Part).length))])),(21,some (bU 117 2 Part.cell ([]:List Part)))]
abbrev ZJ:DV:=(l8 [(.int .i64 u0.1),(aU none 5 Source.cell u0.2.1),(aU none 6 Link.cell u0.2.2.1),(aU none 4 ay.cell u0.2.2.2.1)] 0)
abbrev XY:DV:=(l8 [(aU none 1 aj u0.2.2.2.2.1),(aU none 1 aj u0.2.2.2.2.2.1),(aU none 1 aj u0.2.2.2.2.2.2.1),(aU none 1 aj u0.2.2.2.2.2.2.2.1),(aU none 1 aj u0.2.2.2.2.2.2.2.2.1),(aU none 1 aj u0.2.2.2.2.2.2.2.2.2.1),(aU none 1 aj u0.2.2.2.2.2.2.2.2.2.2.1)] 0)
abbrev Y1:DV:=(l8 [(aU none 1 aj u0.2.2.2.2.2.2.2.2.2.2.2)] 0)
abbrev Zg:TV:=(vD (.fn 124 3 (nV [(ZJ u0),(XY u0),(Y1 u0)])))
abbrev ahQ:List (Nat × TV):=[(9,(vP 20 0)),(24,(Zg u0))]
abbrev ahm:List CV:=[(.d (ZJ u0)),(.d (XY u0)),(.d (Y1 u0))]
end
theorem IJ (p:ah) (s_:State) {r:((List Part) × Int)} (h:Ah p s_=some r):Fn Try.prog 33 (OQ s_ p) [] (.iq [(sD (aU none 2 Part.cell r.1)),(sI r.2)]) []:=by
 refine fN tT Try.func33 rfl rfl fun B=> ?_
 show bn _ _ _ _ _ _ (KX r) _
 unfold Ah at h
 refine sz tT (aaF p s_) {fr:=[(0,12),(1,13)] } [12,13] ?_
 refine aQ (bE h fun r_ hr_ h=> ?_)
 have q0:=rk [(0,14),(1,15),(2,16),(3,17),(4,18)] (wT p s_ hr_)
 refine rg tT ⟨[(k9 p),(bX s_),(7,(vD (KS r_))),(8,(vI r_.2.2))],[]⟩ [_,r_.2.1.length=r_.2.1.length] {an:=[(2,cA q0 [])],fr:=[(7,19)] } [17] ⟨q0,rfl,trivial⟩ ?_
 refine aQ (sz tT ⟨[(k9 p),(bX s_),(7,(vD (KS r_))),(8,(vI r_.2.2)),(19,(vB (!decide (r_.2.2=0))))],[]⟩ {} [] ?_)
 refine bI h (fun hb h=> ?_) (fun hb h=> ?_)
 ·refine ct hb ?_
  refine sz tT ⟨[(4,(vD nS)),(5,(vI r_.2.2))],[]⟩ {} [] ?_
  refine aI (bH.le (st':=⟨[(4,(vD (aU none 2 Part.cell ([]:List Part)))),(5,(vI r_.2.2))],[]⟩) ⟨⟨⟨_,rfl,dh.v (dX.one (dD.d gG.nil'))⟩,tR,trivial⟩,trivial⟩) ?_
  refine aR ?_
  obtain rfl:=oi h
  exact rl [(sD (aU none 2 Part.cell ([]:List Part))),(sI r_.2.2)]
 ·refine cf hb ?_
  refine aP (si tT ⟨(abt p s_ r_),[(20,some (.cells 80 [(.d nS)]))]⟩ [] {fr:=[(0,20)] } [] trivial (.trans (bH.Ac (E:=0) (esz:=0) (E0:=80) (cs:=[(.d nS)]) (p:=20) (q:=0) (b:=21) (esz0:=0) (el0:=fun _ _=> .nilp) (ob:= .arr 117 2 0 (aC Part.cell ([]:List Part))) (fun _ _ _ _ h=> .inl ⟨h,rfl⟩) (by kernel_rfl) (by kernel_rfl) (by kernel_rfl)) (.trans (fz ⟨(abt p s_ r_),[(20,some (.cells 80 [(.own 21 false 0)])),(21,some (.arr 117 2 0 (aC Part.cell ([]:List Part))))]⟩ []) (bH.le (st':=⟨(abt p s_ r_),ahI⟩) ⟨⟨tR,tR,tR,tR,trivial⟩,⟨rfl,bA ⟨cW,trivial⟩,⟨rfl,oW,trivial⟩⟩⟩))) ?_)
  refine aQ (aQ (bE h fun u0 hr_1 h=> ?_))
  have q0:=xA p s_ r_.2.1 hr_1
  refine rg tT ⟨(ahQ u0),ahI⟩ [_] {an:=[(3,cA q0 [])] } [] ⟨q0,trivial⟩ ?_
  refine aB (bE h fun u1 hr_2 h=> ?_)
  refine jN 22 [(9,(vP 20 0))] [] [22,20,21] (.iq []) [(22,some (.loop gL 0 [(9,(vP 20 0))])),(20,some (.cells 80 [(.own 23 false u1.length)])),(21,none),(23,some (En u1))] (Zg u0) 124 [] (ahm u0) [(22,some (.loop gL 0 [(9,(vP 20 0))])),(20,some (.cells 80 [(.own 21 false (([]:List Part).length))])),(21,some (bU 117 2 Part.cell ([]:List Part)))] [(.one (.yl 22)),(sD (ZJ u0)),(sD (XY u0)),(sD (Y1 u0))] gL 0 [(9,(vP 20 0))] (by kernel_rfl) (by kernel_rfl) (by kernel_rfl) (by kernel_rfl) (by kernel_rfl) (by kernel_rfl) (by kernel_rfl) (rK [(0,22),(1,20),(2,21),(3,23)] (Dp u0.1 u0.2.1 u0.2.2.1 u0.2.2.2.1 u0.2.2.2.2.1 u0.2.2.2.2.2.1 u0.2.2.2.2.2.2.1 u0.2.2.2.2.2.2.2.1 u0.2.2.2.2.2.2.2.2.1 u0.2.2.2.2.2.2.2.2.2.1 u0.2.2.2.2.2.2.2.2.2.2.1 u0.2.2.2.2.2.2.2.2.2.2.2 ([]:List Part) hr_2)) (by kernel_rfl) rfl (EU.zero rfl) (bH.fin (st':=⟨(ahQ u0),[(20,some (.cells 80 [(.own 23 false u1.length)])),(21,none),(23,some (En u1))]⟩) (cs:=[]) ⟨[],[(20,20),(21,21),(23,23)]⟩ [9,24] (by kernel_rfl) trivial) ?_
  refine sg tT ⟨[(4,(vD (aU none 2 Part.cell u1))),(5,(vI 0))],[]⟩ [u1.length=u1.length] {} [23] ⟨rfl,trivial⟩ ?_
  refine aR ?_
  obtain rfl:=oi h
  exact rl [(sD (aU none 2 Part.cell u1)),(sI 0)]
def rP  :Int→Exit→St→Prop:=
  fun r=>aW TT [.tmp 2] (vI r) []
section
variable (x:ai)
abbrev Tz:Nat × TV:=(7,(vD (aU none 2 af.cell x.racks)))
abbrev Ud:Nat × TV:=(8,(vI (x.racks.length:Int)))
end
def zG (x:ai):(Int × Int)→St:=
  fun zz=>match zz with|(n,t9)=> ⟨[(3,(vI n)),(Tz x),(Ud x),(9,(vI t9))],[]⟩
def y8  :Int→St:=
  fun n1=> ⟨[(3,(vI n1))],[]⟩
def G7 (x:ai):(aJ (Int × Int) (Ex Int Int))→Exit→St→Prop:=
  LQ 0 [] (zG x) y8 rP
section
variable (x:ai) (t9:Int) (n:Int)
abbrev XF:List CV:=[(.d (aU none 1 (au .i64) x.sources)),(.d (aU none 1 (au .i64) x.links)),(.d (aU none 2 af.cell x.racks))]
abbrev VI:List SV:=[(.agg (XF x))]
abbrev aaD:Ob:=(.cells 77 (XF x))
abbrev aik:List (Nat × Option Ob):=[(5,some (aaD x))]
abbrev Ui:TV:=(vB (decide (t9<(x.racks.length:Int))))
abbrev Hq:=((at' x.racks t9.toNat).e0)
abbrev Gx:=((at' x.racks t9.toNat).e1)
abbrev ac8:TV:=(vD (l8 [(.int .i64 (Hq x t9)),(.int .i64 (Gx x t9))] 0))
abbrev agt:Nat × TV:=(3,(vI (IntKind.wrap .i64 (n+(IntKind.wrap .i64 ((Hq x t9)+(Gx x t9)))))))
abbrev Tv:Nat × TV:=(9,(k3 t9))
end
theorem dP (x:ai) {r:Int} (h:gu x=some r):Fn Try.prog 41 (VI x) [] (vI r) []:=by
 refine fN tT Try.func41 rfl rfl fun B=> ?_
 show bn _ _ _ _ _ _ (rP r) _
 unfold gu at h
 refine sz tT ⟨[(1,(vP 5 0))],(aik x)⟩ {fr:=[(0,5)] } [] ?_
 refine sz tT ⟨[(1,(vP 5 0)),(3,(vI 0))],(aik x)⟩ {} [] ?_
 refine aQ (sz tT ⟨[(3,(vI 0)),(Tz x),(Ud x),(9,(vI 0))],[]⟩ {} [] ?_)
 refine bE h fun y hy h=> ?_
 refine aL [] (zG x) y8 rP hy (fun s f h=> ?_) ?_
 ·clear hy
  show bn _ _ _ _ _ _ ((G7 x) f) _
  unfold ig at h
  obtain⟨n,t9⟩:=s
  refine sz tT ⟨[(3,(vI n)),(Tz x),(Ud x),(9,(vI t9)),(10,(Ui x t9))],[]⟩ {} [] ?_
  refine aQ ?_
  refine bI h (fun hb h=> ?_) (fun hb h=> ?_)
  ·refine ct hb ?_
   refine aP (aQ (aB (aQ (aO h fun a1 h=> ?_))))
   refine rg tT ⟨[(3,(vI n)),(5,(ac8 x t9)),(Tz x),(Ud x),(9,(vI t9))],[]⟩ [_] {fr:=[(2,9)] } [9] ⟨a1,trivial⟩ ?_
   refine rg tT ⟨[(agt x t9 n),(Tz x),(Ud x),(9,(vI t9))],[]⟩ [(0:Int)≤0∧(0:Int)<(2:Nat),(0:Int)≤1∧(1:Int)<(2:Nat)] {} [] ⟨((by decide)),((by decide)),trivial⟩ ?_
   refine rz tT ⟨[(agt x t9 n),(Tz x),(Ud x),(Tv t9)],[]⟩ {} [] ?_
   obtain rfl:=oi h
   exact lN
  ·refine cf hb ?_
   refine aI (fz ⟨[(3,(vI n))],[]⟩ []) ?_
   refine aX ?_
   obtain rfl:=oi h
   exact lB
 ·clear hy
  cases y with
  |brk z=>
   obtain⟨n1,rfl⟩: ∃q,q=z:=⟨_,rfl⟩
   unfold dA
   refine⟨_, .refl, ?_⟩
   refine sz tT ⟨[(2,(vI n1))],[]⟩ {} [] ?_
   refine aR ?_
   obtain rfl:=oi h
   exact rl [(sI n1)]
  |ret v=>
   obtain rfl:=oi h
   unfold dA
   intro e st hn ha hR
   cases e with
   |normal=>exact absurd rfl hn
   |exit id=>exact hR
   |goto l=>exact hR
   |ret=>exact hR
   |panic c=>exact hR
   |outgrown=>exact hR
def yH  :(Bool × Int)→Exit→St→Prop:=
  fun r=>aW TT [.tmp 4, .tmp 5] (.iq [(sB r.1),(sI r.2)]) []
section
variable (r_:(ai × (List Bool) × Int)) (p:ah)
abbrev ag3:TV:=(vD (l8 [(aU none 1 (au .i64) r_.1.sources),(aU none 1 (au .i64) r_.1.links),(aU none 2 af.cell r_.1.racks)] 0))
abbrev Ls:Nat × TV:=(6,(ag3 r_))
abbrev Uh:Nat × TV:=(23,(vD (k8 p)))
abbrev Uf:Nat × TV:=(24,(vI (p.racks.length:Int)))
end
def Ci (p:ah) (r_:(ai × (List Bool) × Int)):(Int × Int)→St:=
  fun zz=>match zz with|(n,u0)=> ⟨[(Ls r_),(9,(vI n)),(Uh p),(Uf p),(25,(vI u0))],[]⟩
section
variable (r_:(ai × (List Bool) × Int)) (n1:Int)
abbrev aeo:St:=⟨[(Ls r_),(9,(vI n1))],[]⟩
end
def BQ (r_:(ai × (List Bool) × Int)):Int→St:=
  fun n1=>(aeo r_ n1)
def KL (p:ah) (r_:(ai × (List Bool) × Int)):(aJ (Int × Int) (Ex Int (Bool × Int)))→Exit→St→Prop:=
  LQ 0 [] (Ci p r_) (BQ r_) yH
section
variable (p:ah) (r_:(ai × (List Bool) × Int))
abbrev ad6:Nat × Option Ob:=(12,some (YV p))
abbrev YB:List (Nat × Option Ob):=[(ad6 p)]
abbrev abl:List CV:=[(.d (aU none 1 (au .i64) r_.1.sources)),(.d (aU none 1 (au .i64) r_.1.links)),(.d (aU none 2 af.cell r_.1.racks))]
abbrev agS:Ob:=(.cells 77 (abl r_))
end
theorem KQ (p:ah) (s_:State) {r:(Bool × Int)} (h:BM p s_=some r):Fn Try.prog 34 (OQ s_ p) [] (.iq [(sB r.1),(sI r.2)]) []:=by
 refine fN tT Try.func34 rfl rfl fun B=> ?_
 show bn _ _ _ _ _ _ (yH r) _
 unfold BM at h
 refine sz tT ⟨[(2,(vP 12 0)),(bX s_)],(YB p)⟩ {fr:=[(0,12),(1,13)] } [13] ?_
 refine aQ (bE h fun r_ hr_ h=> ?_)
 have q0:=rk [(0,14),(1,15),(2,16),(3,17),(4,18)] (wT p s_ hr_)
 refine ri tT ⟨[(2,(vP 12 0)),(6,(vP 19 0)),(8,(vI r_.2.2))],[(ad6 p),(19,some (agS r_))]⟩ [_,r_.1.sources.length=r_.1.sources.length,r_.1.links.length=r_.1.links.length,r_.1.racks.length=r_.1.racks.length] {an:=[(2,cA q0 [])],fr:=[(7,19)] } [14,15,16] ⟨q0,rfl,rfl,rfl,trivial⟩ (fz ⟨[(2,(vP 12 0)),(Ls r_),(8,(vI r_.2.2))],(YB p)⟩ [19]) ?_
 refine aQ (sz tT ⟨[(2,(vP 12 0)),(Ls r_),(8,(vI r_.2.2)),(20,(vB (!decide (r_.2.2=0))))],(YB p)⟩ {} [] ?_)
 refine bI h (fun hb1 h=> ?_) (fun hb1 h=> ?_)
 ·refine ct hb1 ?_
  refine sz tT ⟨[(4,(vB false)),(5,(vI r_.2.2))],[]⟩ {} [] ?_
  refine aR ?_
  obtain rfl:=oi h
  exact rl [(sB false),(sI r_.2.2)]
 ·refine cf hb1 ?_
  refine aP (sz tT ⟨[(2,(vP 12 0)),(Ls r_),(9,(vI 0))],(YB p)⟩ {} [] ?_)
  refine aQ (sz tT ⟨[(Ls r_),(9,(vI 0)),(Uh p),(Uf p),(25,(vI 0))],[]⟩ {} [] ?_)
  refine bE h fun y hy h=> ?_
  refine aL [] (Ci p r_) (BQ r_) yH hy (fun s f h=> ?_) ?_
  ·clear hy
   show bn _ _ _ _ _ _ ((KL p r_) f) _
   unfold BL at h
   obtain⟨n,u0⟩:=s
   refine sz tT ⟨[(Ls r_),(9,(vI n)),(Uh p),(Uf p),(25,(vI u0)),(26,(vB (decide (u0<(p.racks.length:Int)))))],[]⟩ {} [] ?_
   refine aQ ?_
   refine bI h (fun hb h=> ?_) (fun hb h=> ?_)
   ·refine ct hb ?_
    refine aP (aQ (aB (aQ (aO h fun a1 h=> ?_))))
    refine rg tT ⟨[(Ls r_),(9,(vI n)),(11,(k50 p u0)),(Uh p),(Uf p),(25,(vI u0))],[]⟩ [_] {fr:=[(2,23)] } [23] ⟨a1,trivial⟩ ?_
    refine rz tT ⟨[(Ls r_),(9,(vI (IntKind.wrap .i64 (n+(R3 p u0))))),(Uh p),(Uf p),(25,(vI u0))],[]⟩ {} [] ?_
    refine rz tT ⟨[(Ls r_),(9,(vI (IntKind.wrap .i64 (n+(R3 p u0))))),(Uh p),(Uf p),(25,(k3 u0))],[]⟩ {} [] ?_
    obtain rfl:=oi h
    exact lN
   ·refine cf hb ?_
    refine aI (fz (aeo r_ n) []) ?_
    refine aX ?_
    obtain rfl:=oi h
    exact lB
  ·clear hy
   cases y with
   |brk z=>
    obtain⟨n1,rfl⟩: ∃q,q=z:=⟨_,rfl⟩
    unfold dA
    refine⟨_, .refl, ?_⟩
    refine aQ (bE h fun u1 hr_1 h=> ?_)
    have q0:=dP r_.1 hr_1
    refine rg tT ⟨[(4,(vB (decide (u1=n1)))),(5,(vI 0))],[]⟩ [_] {an:=[(1,cA q0 [])] } [] ⟨q0,trivial⟩ ?_
    refine aR ?_
    obtain rfl:=oi h
    exact rl [(sB (decide (u1=n1))),(sI 0)]
   |ret v=>
    obtain rfl:=oi h
    unfold dA
    intro e st hn ha hR
    cases e with
    |normal=>exact absurd rfl hn
    |exit id=>exact hR
    |goto l=>exact hR
    |ret=>exact hR
    |panic c=>exact hR
    |outgrown=>exact hR
def pU  :Bool→Exit→St→Prop:=
  fun r=>aW TT [.tmp 4] (vB r) []
section
variable (a:(List Part)) (b:(List Part))
abbrev QE:Nat × TV:=(0,(vD (aU none 2 Part.cell a)))
abbrev QH:Nat × TV:=(1,(vD (aU none 2 Part.cell b)))
end
def wu (a:(List Part)) (b:(List Part)):Int→St:=
  fun i=> ⟨[(QE a),(QH b),(5,(vI i))],[]⟩
def vT  :Unit→St:=
  fun _=> ⟨[],[]⟩
def EN (a:(List Part)) (b:(List Part)):(aJ Int (Ex Unit Bool))→Exit→St→Prop:=
  LQ 0 [] (wu a b) vT pU
theorem vM (a:(List Part)) (b:(List Part)) {r:Bool} (h:oo a b=some r):Fn Try.prog 38 [(sD (aU none 2 Part.cell a)),(sD (aU none 2 Part.cell b))] [] (vB r) []:=by
 refine fN tT Try.func38 rfl rfl fun B=> ?_
 show bn _ _ _ _ _ _ (pU r) _
 unfold oo at h
 refine sz tT ⟨[(QE a),(QH b)],[]⟩ {} [] ?_
 refine aQ (sz tT ⟨[(QE a),(QH b),(10,(vB (!decide ((a.length:Int)=(b.length:Int)))))],[]⟩ {} [] ?_)
 refine bI h (fun hb2 h=> ?_) (fun hb2 h=> ?_)
 ·refine ct hb2 ?_
  refine sz tT ⟨[(4,(vB false))],[]⟩ {} [] ?_
  refine aR ?_
  obtain rfl:=oi h
  exact rl [(sB false)]
 ·refine cf hb2 ?_
  refine aP (aQ (sz tT ⟨[(QE a),(QH b),(5,(vI 0))],[]⟩ {} [] ?_))
  refine bE h fun y hy h=> ?_
  refine aL [] (wu a b) vT pU hy (fun s f h=> ?_) ?_
  ·clear hy
   show bn _ _ _ _ _ _ ((EN a b) f) _
   unfold vv at h
   obtain⟨i,rfl⟩: ∃q,q=s:=⟨_,rfl⟩
   refine aQ (sz tT ⟨[(QE a),(QH b),(5,(vI i)),(14,(vB (decide (i<(a.length:Int)))))],[]⟩ {} [] ?_)
   refine bI h (fun hb1 h=> ?_) (fun hb1 h=> ?_)
   ·refine ct hb1 ?_
    refine aP (aQ (aB (aQ (aO h fun⟨a1,a2⟩ h=> ?_))))
    refine dg tT mX ⟨[(QE a),(QH b),(5,(vI i)),(25,(vB (!((decide (((at' a i.toNat).kind)=((at' b i.toNat).kind))) && ((decide (((at' a i.toNat).index)=((at' b i.toNat).index))) && true)))))],[]⟩ [_,_] {} [] ⟨a1,a2,trivial⟩ ?_
    refine bI h (fun hb h=> ?_) (fun hb h=> ?_)
    ·refine ct hb ?_
     refine sz tT ⟨[(4,(vB false))],[]⟩ {} [] ?_
     refine aR ?_
     obtain rfl:=oi h
     exact lR bD (bC 0) bG (aW.mk (.inr rfl) (p:=[]) (l:=[(sB false)]) (by kernel_rfl) trivial (dh.refl _) trivial)
    ·refine cf hb ?_
     refine aP (rz tT ⟨[(QE a),(QH b),(k2 i)],[]⟩ {} [] ?_)
     obtain rfl:=oi h
     exact lN
   ·refine cf hb1 ?_
    refine aI (fz ⟨[],[]⟩ []) ?_
    refine aX ?_
    obtain rfl:=oi h
    exact lB
  ·clear hy
   cases y with
   |brk z=>
    unfold dA
    refine⟨_, .refl, ?_⟩
    refine sz tT ⟨[(4,(vB true))],[]⟩ {} [] ?_
    refine aR ?_
    obtain rfl:=oi h
    exact rl [(sB true)]
   |ret v=>
    obtain rfl:=oi h
    unfold dA
    intro e st hn ha hR
    cases e with
    |normal=>exact absurd rfl hn
    |exit id=>exact hR
    |goto l=>exact hR
    |ret=>exact hR
    |panic c=>exact hR
    |outgrown=>exact hR
noncomputable def dH:ou:=⟨[45,46],Je ([1,1,1,1,1,0,1,0]++[0]) (nG Try.f45),Je ([1,1,1,1,1,0,1,0]++[1]) (nG Try.f45),51,[]⟩
abbrev UB:Nat × Option Ob:=(0,some (.loop dH 0 [(11,(vP 1 0))]))
def zP  :Int→Exit→St→Prop:=
  fun r=>nI 0 dH (vB true) [UB,(1,some (.cells 3 [(cI r)]))]
section
variable (u1:Int)
abbrev kg:List (Nat × Option Ob):=[UB,(1,some (.cells 3 [(cI u1)]))]
end
theorem jO (u2:Int) (u3:Int) (u0:Int) (u1:Int) {r:Int} (h:bZ u2 u3 u0 u1=some r):Yl Try.prog 0 [(.agg [(cI u2),(cI u3)]),(sI u0)] (kg u1) (vB true) [UB,(1,some (.cells 3 [(cI r)]))]:=by
 refine Gd (r:=dH) (sl:=[(11,(vP 1 0))]) (sl1:=[(11,(vP 1 0)),(13,(vI u0))]) (h1:=(kg u1)) (sl2:=[(11,(vP 1 0))]) (by kernel_rfl) rfl rfl (by kernel_rfl) (fun rd B=> ?_) (by kernel_rfl) (fun rd B=> ?_)
 ·refine rE (c:=Je ([1,1,1,1,1,0,1,0]++[0]) (nG Try.f45)) rfl ?_
  refine oL (st:=⟨[(45,(.v (.agg [(cI u2),(cI u3)]))),(46,(vI u0)),(11,(vP 1 0))],(kg u1)⟩) (by kernel_rfl) ?_
  refine rz tT ⟨[(11,(vP 1 0)),(13,(vI u0))],(kg u1)⟩ {} [] ?_
  exact⟨rfl,rfl⟩
 ·refine rE (c:=Je ([1,1,1,1,1,0,1,0]++[1]) (nG Try.f45)) rfl ?_
  refine oL (st:=⟨[(11,(vP 1 0)),(13,(vI u0))],[(0,some (.loop dH 1 [(11,(vP 1 0))])),(1,some (.cells 3 [(cI u1)]))]⟩) (by kernel_rfl) ?_
  show bn _ _ _ _ _ _ (zP r) _
  unfold bZ at h
  refine aB (rz tT ⟨[],[(0,some (.loop dH 1 [(11,(vP 1 0))])),(1,some (.cells 3 [(cI (IntKind.wrap .i64 (u1+u0)))]))]⟩ {} [] ?_)
  obtain rfl:=oi h
  exact nI.on (sl:=[(11,(vP 1 0))]) (by kernel_rfl) (zX (by kernel_rfl)) (dh.refl _)
def cO  :Int→Exit→St→Prop:=
  fun r=>aW TT [] (.iq []) [UB,(1,some (.cells 3 [(cI r)]))]
def qc (x1:Int) (u0:(List Source)) (u1:(List Link)) (u2:(List ay)) (x2:(List Bool)) (u3:(List Bool)) (u4:(List Bool)) (u5:(List Bool)) (u6:(List Bool)) (u7:(List Bool)) (u8:(List Bool)) (x3:(List Bool)) (v1:Int):(Int × Int)→St:=
  fun zz=>match zz with|(u9,v0)=> ⟨(ahD x2 u3 u4 u5 u6 u7 u8 x3 u0 x1 u1 u2 v0),(kg u9)⟩
section
variable (x1:Int) (u0:(List Source)) (u1:(List Link)) (u2:(List ay)) (x2:(List Bool)) (u3:(List Bool)) (u4:(List Bool)) (u5:(List Bool)) (u6:(List Bool)) (u7:(List Bool)) (u8:(List Bool)) (x3:(List Bool)) (u9:Int)
abbrev agv:St:=⟨(ahd x1 u0 u1 u2 x2 u3 u4 u5 u6 u7 u8 x3),(kg u9)⟩
end
def pO (x1:Int) (u0:(List Source)) (u1:(List Link)) (u2:(List ay)) (x2:(List Bool)) (u3:(List Bool)) (u4:(List Bool)) (u5:(List Bool)) (u6:(List Bool)) (u7:(List Bool)) (u8:(List Bool)) (x3:(List Bool)) (v0:Int):Int→St:=
  fun u9=>(agv x1 u0 u1 u2 x2 u3 u4 u5 u6 u7 u8 x3 u9)
def Af (x1:Int) (u0:(List Source)) (u1:(List Link)) (u2:(List ay)) (x2:(List Bool)) (u3:(List Bool)) (u4:(List Bool)) (u5:(List Bool)) (u6:(List Bool)) (u7:(List Bool)) (u8:(List Bool)) (x3:(List Bool)) (u9:Int):(aJ (Int × Int) (Ex Int Int))→Exit→St→Prop:=
  LQ 0 [] (qc x1 u0 u1 u2 x2 u3 u4 u5 u6 u7 u8 x3 u9) (pO x1 u0 u1 u2 x2 u3 u4 u5 u6 u7 u8 x3 u9) cO
def o6 (x1:Int) (u1:(List Source)) (u0:(List Link)) (u2:(List ay)) (x2:(List Bool)) (u3:(List Bool)) (u4:(List Bool)) (u5:(List Bool)) (u6:(List Bool)) (u7:(List Bool)) (u8:(List Bool)) (x3:(List Bool)) (v1:Int):(Int × Int)→St:=
  fun zz=>match zz with|(u9,v0)=> ⟨(afH u0 x1 u1 u2 x2 u3 u4 u5 u6 u7 u8 x3 v0),(kg u9)⟩
section
variable (x1:Int) (u0:(List Source)) (u1:(List Link)) (u2:(List ay)) (x3:(List Bool)) (u3:Int)
abbrev agV:St:=⟨(air x1 u0 u1 u2 x3),(kg u3)⟩
end
def pX (x1:Int) (u0:(List Source)) (u1:(List Link)) (u2:(List ay)) (x3:(List Bool)) (u4:Int):Int→St:=
  fun u3=>(agV x1 u0 u1 u2 x3 u3)
def Ak (x1:Int) (u0:(List Source)) (u1:(List Link)) (u2:(List ay)) (x2:(List Bool)) (u4:(List Bool)) (u5:(List Bool)) (u6:(List Bool)) (u7:(List Bool)) (u8:(List Bool)) (u9:(List Bool)) (x3:(List Bool)) (u3:Int):(aJ (Int × Int) (Ex Int Int))→Exit→St→Prop:=
  LQ 2 [] (o6 x1 u0 u1 u2 x2 u4 u5 u6 u7 u8 u9 x3 u3) (pX x1 u0 u1 u2 x3 u3) cO
def pR (u0:(List ay)) (x3:(List Bool)):(Int × Int)→St:=
  fun zz=>match zz with|(u1,u2)=> ⟨(afi u0 x3 u2),(kg u1)⟩
def o8  :Int→St:=
  fun o1105=> ⟨[],[UB,(1,some (.cells 3 [(cI o1105)]))]⟩
def Ai (u0:(List ay)) (x3:(List Bool)):(aJ (Int × Int) (Ex Int Int))→Exit→St→Prop:=
  LQ 4 [] (pR u0 x3) o8 cO
section
variable (x1:Int) (u1:(List Source)) (u0:(List Link)) (u2:(List ay)) (x2:(List Bool)) (u7:(List Bool)) (u8:(List Bool)) (u9:(List Bool)) (v0:(List Bool)) (v1:(List Bool)) (v2:(List Bool)) (x3:(List Bool)) (u4:Int) (r_:Bool) (v8:Int) (u3:Int) (u5:Bool) (v9:Int) (u6:Int) (v3:Bool) (w0:Int)
abbrev aek:St:=⟨(abQ x1 u1 u0 u2 x2 u7 u8 u9 v0 v1 v2 x3 u4 r_),(kg v8)⟩
abbrev aiA:St:=⟨(ab2 x1 u1 u0 u2 x2 u7 u8 u9 v0 v1 v2 x3 u4),(kg v8)⟩
abbrev ahJ:St:=⟨(aaO x1 u1 u0 u2 x2 u7 u8 u9 v0 v1 v2 x3 u4),(kg v8)⟩
abbrev afO:St:=⟨(abC x1 u1 u0 u2 x2 u7 u8 u9 v0 v1 v2 x3 u3 u5),(kg v9)⟩
abbrev afR:St:=⟨(abx x1 u1 u0 u2 x2 u7 u8 u9 v0 v1 v2 x3 u3),(kg v9)⟩
abbrev ahk:St:=⟨(abm x1 u1 u0 u2 x2 u7 u8 u9 v0 v1 v2 x3 u3),(kg v9)⟩
abbrev aeh:St:=⟨(abz u2 x3 u6 v3),(kg w0)⟩
abbrev afX:St:=⟨(ab6 u2 x3 u6),(kg w0)⟩
abbrev aeF:St:=⟨(acR u2 x3 u6),(kg w0)⟩
end
theorem zU (x1:Int) (u1:(List Source)) (u0:(List Link)) (u2:(List ay)) (x2:(List Bool)) (u7:(List Bool)) (u8:(List Bool)) (u9:(List Bool)) (v0:(List Bool)) (v1:(List Bool)) (v2:(List Bool)) (x3:(List Bool)) (v4:Int) {r:Int} (h:gQ x1 u1 u0 u2 x2 u7 u8 u9 v0 v1 v2 x3 v4=some r):Fn Try.prog 124 (afs x1 u1 u0 u2 x2 u7 u8 u9 v0 v1 v2 x3) (kg v4) (.iq []) [UB,(1,some (.cells 3 [(cI r)]))]:=by
 refine fN tT Try.func124 rfl rfl fun B=> ?_
 show bn _ _ _ _ _ _ (cO r) _
 unfold gQ at h
 refine aQ (sz tT ⟨(X8 x1 u1 u0 u2 x2 u7 u8 u9 v0 v1 v2 x3),(kg v4)⟩ {} [] ?_)
 refine bE h fun y hy h=> ?_
 refine aL [] (qc x1 u1 u0 u2 x2 u7 u8 u9 v0 v1 v2 x3 v4) (pO x1 u1 u0 u2 x2 u7 u8 u9 v0 v1 v2 x3 v4) cO hy (fun s f h=> ?_) ?_
 ·clear hy
  show bn _ _ _ _ _ _ ((Af x1 u1 u0 u2 x2 u7 u8 u9 v0 v1 v2 x3 v4) f) _
  unfold gW at h
  obtain⟨v6,u4⟩:=s
  refine sz tT ⟨(ail x1 u1 u0 u2 x2 u7 u8 u9 v0 v1 v2 x3 u4),(kg v6)⟩ {} [] ?_
  refine aQ ?_
  refine bI h (fun hb1 h=> ?_) (fun hb1 h=> ?_)
  ·refine ct hb1 ?_
   refine aP (aQ (aB (aQ (aO h fun a1 h=> ?_))))
   refine rg tT ⟨(ah2 x1 u1 u0 u2 x2 u7 u8 u9 v0 v1 v2 x3 u4),(kg v6)⟩ [_] {fr:=[(3,17)] } [17] ⟨a1,trivial⟩ ?_
   refine aQ (bE h fun r_ hr_ h=> ?_)
   refine bI h (fun hb h=> ?_) (fun hb h=> ?_)
   ·skip
    refine bE h fun v8 hr_1 h=> ?_
    refine aO h fun a1 h=> ?_
    have q0:=fC (⟨x1,u1,u0,u2⟩:ah) (⟨x2,u7,u8,u9,v0,v1,v2⟩:State) u4 hr_
    refine ri tT (aek x1 u1 u0 u2 x2 u7 u8 u9 v0 v1 v2 x3 u4 r_ v8) (_::(eqs r_ 4 ((ah1 u1 x3 u4 r_)::(eqs r_ 3 [(sF u1 x3 u4 r_)=true,(sF u1 x3 u4 r_)=true,(sF u1 x3 u4 r_)=true,(sF u1 x3 u4 r_)=true,(sF u1 x3 u4 r_)=true,(sF u1 x3 u4 r_)=true,gP (fQ [(4,r_),(12,true)]) [(12,true)]→All [Yl Try.prog 0 [(.agg [(cI 2),(cI u4)]),(sI ((at' u1 u4.toNat).power))] (kg v6) (vB true) (kg v8)],gP (fQ [(4,r_),(12,true)]) [(12,true)],(sF u1 x3 u4 r_)=true,(sF u1 x3 u4 r_)=true])))) {yb:=[(4,r_),(12,true)],an:=[(3,cA q0 []),(18, .call [0,1] (vB true) (kg v8))] } [] ⟨q0,(ae ⟨(fun hg=> ⟨(a1 (aM hg)),trivial⟩),(ae ⟨(hb),(hb),(hb),(hb),(hb),(hb),(fun hg=> ⟨(jO 2 u4 ((at' u1 u4.toNat).power) v6 hr_1),trivial⟩),(⟨rfl,trivial⟩),(hb),(hb),trivial⟩)⟩)⟩ (bH.le (st':=(aiA x1 u1 u0 u2 x2 u7 u8 u9 v0 v1 v2 x3 u4 v8)) ⟨⟨tR,tR,tR,tR,tR,tR,tR,⟨_,rfl,dh.v (dX.one (dD.of (congrArg (fun b=>CV.d (.bool b)) (CK hb))))⟩,trivial⟩,(.refl _)⟩) ?_
    refine cn (aP (rz tT (ahJ x1 u1 u0 u2 x2 u7 u8 u9 v0 v1 v2 x3 u4 v8) {} [] ?_))
    obtain rfl:=oi h
    exact lN
   ·skip
    refine aO h fun a1 h=> ?_
    have q0:=fC (⟨x1,u1,u0,u2⟩:ah) (⟨x2,u7,u8,u9,v0,v1,v2⟩:State) u4 hr_
    refine ri tT (aek x1 u1 u0 u2 x2 u7 u8 u9 v0 v1 v2 x3 u4 r_ v6) (_::(af5 u1 x3 u4 r_)) {yb:=[(4,r_),(12,false)],an:=[(3,cA q0 []),(13, .skip),(14, .skip),(15, .skip),(16, .skip),(17, .skip),(18, .skip),(19, .skip)] } [] ⟨q0,(ae ⟨(fun hg=> ⟨(a1 (aM hg)),trivial⟩),(ae ⟨(hb),((fun h=>Bool.noConfusion (show false=true from h.1))),(hb),((fun h=>Bool.noConfusion (show false=true from h.1))),(hb),((fun h=>Bool.noConfusion (show false=true from h.1))),(hb),((fun h=>Bool.noConfusion (show false=true from h.1))),(hb),((fun h=>Bool.noConfusion (show false=true from h.1))),(hb),((fun h=>Bool.noConfusion (show false=true from h.1))),(hb),((fun h=>Bool.noConfusion (show false=true from h.1))),(hb),trivial⟩)⟩)⟩ (bH.le (st':=(aiA x1 u1 u0 u2 x2 u7 u8 u9 v0 v1 v2 x3 u4 v6)) ⟨⟨tR,tR,tR,tR,tR,tR,tR,⟨_,rfl,dh.v (dX.one (dD.of (congrArg (fun b=>CV.d (.bool b)) (Dq hb))))⟩,trivial⟩,(.refl _)⟩) ?_
    refine cn (aP (rz tT (ahJ x1 u1 u0 u2 x2 u7 u8 u9 v0 v1 v2 x3 u4 v6) {} [] ?_))
    obtain rfl:=oi h
    exact lN
  ·refine cf hb1 ?_
   refine aI (fz (agv x1 u1 u0 u2 x2 u7 u8 u9 v0 v1 v2 x3 v6) []) ?_
   refine aX ?_
   obtain rfl:=oi h
   exact lB
 ·clear hy
  cases y with
  |brk z=>
   obtain⟨w1,rfl⟩: ∃q,q=z:=⟨_,rfl⟩
   unfold dA
   refine⟨_, .refl, ?_⟩
   refine aQ (sz tT ⟨(aha x1 u1 u0 u2 x2 u7 u8 u9 v0 v1 v2 x3),(kg w1)⟩ {} [] ?_)
   refine bE h fun y1 hy h=> ?_
   refine aL [] (o6 x1 u1 u0 u2 x2 u7 u8 u9 v0 v1 v2 x3 v4) (pX x1 u1 u0 u2 x3 v4) cO hy (fun s f h=> ?_) ?_
   ·clear hy
    show bn _ _ _ _ _ _ ((Ak x1 u1 u0 u2 x2 u7 u8 u9 v0 v1 v2 x3 v4) f) _
    unfold ic at h
    obtain⟨v7,u3⟩:=s
    refine sz tT ⟨(adL x1 u1 u0 u2 x2 u7 u8 u9 v0 v1 v2 x3 u3),(kg v7)⟩ {} [] ?_
    refine aQ ?_
    refine bI h (fun hb3 h=> ?_) (fun hb3 h=> ?_)
    ·refine ct hb3 ?_
     refine aP (aQ (aB (aQ (aO h fun a1 h=> ?_))))
     refine rg tT ⟨(aeS x1 u1 u0 u2 x2 u7 u8 u9 v0 v1 v2 x3 u3),(kg v7)⟩ [_] {fr:=[(3,21)] } [21] ⟨a1,trivial⟩ ?_
     refine aQ (bE h fun u5 hr_2 h=> ?_)
     refine bI h (fun hb2 h=> ?_) (fun hb2 h=> ?_)
     ·skip
      refine bE h fun v9 hr_3 h=> ?_
      refine aO h fun⟨a1,a2⟩ h=> ?_
      have q0:=dI (⟨x1,u1,u0,u2⟩:ah) (⟨x2,u7,u8,u9,v0,v1,v2⟩:State) u3 hr_2
      refine di tT mX (afO x1 u1 u0 u2 x2 u7 u8 u9 v0 v1 v2 x3 u3 u5 v9) (_::(eqs u5 4 ((aic u0 x3 u3 u5)::(eqs u5 5 ((aeO u0 x3 u3 u5)::(eqs u5 3 [(su u0 x3 u3 u5)=true,(su u0 x3 u3 u5)=true,(su u0 x3 u3 u5)=true,(su u0 x3 u3 u5)=true,(su u0 x3 u3 u5)=true,(su u0 x3 u3 u5)=true,gP (Uu u5) [(17,true)]→All [Yl Try.prog 0 [(.agg [(cI 3),(cI u3)]),(sI ((at' u0 u3.toNat).most))] (kg v7) (vB true) (kg v9)],gP (Uu u5) [(17,true)],(su u0 x3 u3 u5)=true,(su u0 x3 u3 u5)=true])))))) {yb:=[(4,u5),(17,true)],an:=[(3,cA q0 []),(23, .call [0,1] (vB true) (kg v9))] } [] ⟨q0,(ae ⟨(fun hg=> ⟨(a1 (aM hg)),trivial⟩),(ae ⟨(fun hg=> ⟨(a2 (aM hg)),trivial⟩),(ae ⟨(hb2),(hb2),(hb2),(hb2),(hb2),(hb2),(fun hg=> ⟨(jO 3 u3 ((at' u0 u3.toNat).most) v7 hr_3),trivial⟩),(⟨rfl,trivial⟩),(hb2),(hb2),trivial⟩)⟩)⟩)⟩ (bH.le (st':=(afR x1 u1 u0 u2 x2 u7 u8 u9 v0 v1 v2 x3 u3 v9)) ⟨⟨tR,tR,tR,tR,tR,tR,tR,⟨_,rfl,dh.v (dX.one (dD.of (congrArg (fun b=>CV.d (.bool b)) (CK hb2))))⟩,trivial⟩,(.refl _)⟩) ?_
      refine cn (aP (rz tT (ahk x1 u1 u0 u2 x2 u7 u8 u9 v0 v1 v2 x3 u3 v9) {} [] ?_))
      obtain rfl:=oi h
      exact lN
     ·skip
      refine aO h fun⟨a1,a2⟩ h=> ?_
      have q0:=dI (⟨x1,u1,u0,u2⟩:ah) (⟨x2,u7,u8,u9,v0,v1,v2⟩:State) u3 hr_2
      refine di tT mX (afO x1 u1 u0 u2 x2 u7 u8 u9 v0 v1 v2 x3 u3 u5 v7) (_::(agQ u0 x3 u3 u5)) {yb:=[(4,u5),(17,false)],an:=[(3,cA q0 []),(18, .skip),(19, .skip),(20, .skip),(21, .skip),(22, .skip),(23, .skip),(24, .skip)] } [] ⟨q0,(ae ⟨(fun hg=> ⟨(a1 (aM hg)),trivial⟩),(ae ⟨(fun hg=> ⟨(a2 (aM hg)),trivial⟩),(ae ⟨(hb2),((fun h=>Bool.noConfusion (show false=true from h.1))),(hb2),((fun h=>Bool.noConfusion (show false=true from h.1))),(hb2),((fun h=>Bool.noConfusion (show false=true from h.1))),(hb2),((fun h=>Bool.noConfusion (show false=true from h.1))),(hb2),((fun h=>Bool.noConfusion (show false=true from h.1))),(hb2),((fun h=>Bool.noConfusion (show false=true from h.1))),(hb2),((fun h=>Bool.noConfusion (show false=true from h.1))),(hb2),trivial⟩)⟩)⟩)⟩ (bH.le (st':=(afR x1 u1 u0 u2 x2 u7 u8 u9 v0 v1 v2 x3 u3 v7)) ⟨⟨tR,tR,tR,tR,tR,tR,tR,⟨_,rfl,dh.v (dX.one (dD.of (congrArg (fun b=>CV.d (.bool b)) (Dq hb2))))⟩,trivial⟩,(.refl _)⟩) ?_
      refine cn (aP (rz tT (ahk x1 u1 u0 u2 x2 u7 u8 u9 v0 v1 v2 x3 u3 v7) {} [] ?_))
      obtain rfl:=oi h
      exact lN
    ·refine cf hb3 ?_
     refine aI (fz (agV x1 u1 u0 u2 x3 v7) []) ?_
     refine aX ?_
     obtain rfl:=oi h
     exact lB
   ·clear hy
    cases y1 with
    |brk z=>
     obtain⟨w2,rfl⟩: ∃q,q=z:=⟨_,rfl⟩
     unfold dA
     refine⟨_, .refl, ?_⟩
     refine sz tT ⟨(agI u2 x3),(kg w2)⟩ {} [] ?_
     refine bE h fun y2 hy h=> ?_
     refine aL [] (pR u2 x3) o8 cO hy (fun s f h=> ?_) ?_
     ·clear hy
      show bn _ _ _ _ _ _ ((Ai u2 x3) f) _
      unfold gX at h
      obtain⟨v5,u6⟩:=s
      refine sz tT ⟨(afh u2 x3 u6),(kg v5)⟩ {} [] ?_
      refine aQ ?_
      refine bI h (fun hb5 h=> ?_) (fun hb5 h=> ?_)
      ·refine ct hb5 ?_
       refine aP (aQ (aB (aQ (aO h fun a1 h=> ?_))))
       refine rg tT ⟨(adI u2 x3 u6),(kg v5)⟩ [_] {fr:=[(3,25)] } [25] ⟨a1,trivial⟩ ?_
       refine aQ (bE h fun v3 hr_4 h=> ?_)
       refine rg tT ⟨(afk u2 x3 u6 v3),(kg v5)⟩ [Fn Try.prog 67 [(sD (.sl (some true) 1 [(yx u2 u6).e0,(yx u2 u6).e1].length (fun i j=>((aa5 u2 u6).getD (0+(0+(i*1+j))) .nilp)))),(sD (.fn 125 1 (Tx x3)))] [] (vB v3) []] {an:=[(3, .call [] (vB v3) [])] } [] ⟨(Fn.leH (args:=(aev u2 x3 u6)) (hin:=[]) (j5 [(yx u2 u6).e0,(yx u2 u6).e1] x3 hr_4) ⟨dX.one (dD.d (gG.sl (.inl rfl) (by intro i hi j hj;match i,j,hi,hj with|0,0,_,_=>exact .refl _|1,0,_,_=>exact .refl _))),dX.refl _,trivial⟩ trivial),trivial⟩ ?_
       refine aQ ?_
       refine bI h (fun hb4 h=> ?_) (fun hb4 h=> ?_)
       ·skip
        refine bE h fun w0 hr_5 h=> ?_
        refine ri tT (aeh u2 x3 u6 v3 w0) [v3=true,v3=true,v3=true,v3=true,v3=true,v3=true,gP (fQ [(1,true)]) [(1,true)]→All [Yl Try.prog 0 [(.agg [(cI 0),(cI u6)]),(sI ((at' u2 u6.toNat).power))] (kg v5) (vB true) (kg w0)],gP (fQ [(1,true)]) [(1,true)],v3=true,v3=true] {yb:=[(1,true)],an:=[(7, .call [0,1] (vB true) (kg w0))] } [] ⟨(hb4),(hb4),(hb4),(hb4),(hb4),(hb4),(fun hg=> ⟨(jO 0 u6 ((at' u2 u6.toNat).power) v5 hr_5),trivial⟩),(⟨rfl,trivial⟩),(hb4),(hb4),trivial⟩ (bH.le (st':=(afX u2 x3 u6 w0)) ⟨⟨tR,tR,tR,tR,tR,⟨_,rfl,dh.v (dX.one (dD.of (congrArg (fun b=>CV.d (.bool b)) (CK hb4))))⟩,trivial⟩,(.refl _)⟩) ?_
        refine cn (aP (rz tT (aeF u2 x3 u6 w0) {} [] ?_))
        obtain rfl:=oi h
        exact lN
       ·skip
        refine ri tT (aeh u2 x3 u6 v3 v5) [v3=false, ¬ gP (fQ [(1,false)]) [(1,true)],v3=false, ¬ gP (fQ [(1,false)]) [(1,true)],v3=false, ¬ gP (fQ [(1,false)]) [(1,true)],v3=false, ¬ gP (fQ [(1,false)]) [(1,true)],v3=false, ¬ gP (fQ [(1,false)]) [(1,true)],v3=false, ¬ gP (fQ [(1,false)]) [(1,true)],v3=false, ¬ gP (fQ [(1,false)]) [(1,true)],v3=false] {yb:=[(1,false)],an:=[(2, .skip),(3, .skip),(4, .skip),(5, .skip),(6, .skip),(7, .skip),(8, .skip)] } [] ⟨(hb4),((fun h=>Bool.noConfusion (show false=true from h.1))),(hb4),((fun h=>Bool.noConfusion (show false=true from h.1))),(hb4),((fun h=>Bool.noConfusion (show false=true from h.1))),(hb4),((fun h=>Bool.noConfusion (show false=true from h.1))),(hb4),((fun h=>Bool.noConfusion (show false=true from h.1))),(hb4),((fun h=>Bool.noConfusion (show false=true from h.1))),(hb4),((fun h=>Bool.noConfusion (show false=true from h.1))),(hb4),trivial⟩ (bH.le (st':=(afX u2 x3 u6 v5)) ⟨⟨tR,tR,tR,tR,tR,⟨_,rfl,dh.v (dX.one (dD.of (congrArg (fun b=>CV.d (.bool b)) (Dq hb4))))⟩,trivial⟩,(.refl _)⟩) ?_
        refine cn (aP (rz tT (aeF u2 x3 u6 v5) {} [] ?_))
        obtain rfl:=oi h
        exact lN
      ·refine cf hb5 ?_
       refine aI (fz ⟨[],(kg v5)⟩ []) ?_
       refine aX ?_
       obtain rfl:=oi h
       exact lB
     ·clear hy
      cases y2 with
      |brk z=>
       obtain⟨o1105,rfl⟩: ∃q,q=z:=⟨_,rfl⟩
       unfold dA
       refine⟨_, .refl, ?_⟩
       obtain rfl:=oi h
       exact aW.mk (.inl rfl) (p:=[]) (l:=[]) (by kernel_rfl) trivial (dh.refl _) (.refl _)
      |ret v=>
       obtain rfl:=oi h
       unfold dA
       intro e st hn ha hR
       cases e with
       |normal=>exact absurd rfl hn
       |exit id=>exact hR
       |goto l=>exact hR
       |ret=>exact hR
       |panic c=>exact hR
       |outgrown=>exact hR
    |ret v=>
     obtain rfl:=oi h
     unfold dA
     intro e st hn ha hR
     cases e with
     |normal=>exact absurd rfl hn
     |exit id=>exact hR
     |goto l=>exact hR
     |ret=>exact hR
     |panic c=>exact hR
     |outgrown=>exact hR
  |ret v=>
   obtain rfl:=oi h
   unfold dA
   intro e st hn ha hR
   cases e with
   |normal=>exact absurd rfl hn
   |exit id=>exact hR
   |goto l=>exact hR
   |ret=>exact hR
   |panic c=>exact hR
   |outgrown=>exact hR
def pG  :(Int × Int)→Exit→St→Prop:=
  fun r=>aW TT [.tmp 6, .tmp 7] (.iq [(sI r.1),(sI r.2)]) []
section
variable (u0:(List Bool))
abbrev jf:Nat × TV:=(2,(vD (aU none 1 aj u0)))
abbrev Tc:Nat × TV:=(25,(vD (aU none 1 aj u0)))
abbrev Uq:Nat × TV:=(26,(vI (u0.length:Int)))
end
def vH (p:ah) (s_:State) (u0:(List Bool)):Int→St:=
  fun u1=> ⟨[(jf u0),(aD p),(aK s_),(Tc u0),(Uq u0),(27,(vI u1))],[]⟩
section
variable (u0:(List Bool)) (p:ah) (s_:State)
abbrev RO:St:=⟨[(jf u0),(aD p),(aK s_)],[]⟩
end
def wo (p:ah) (s_:State) (u0:(List Bool)):Unit→St:=
  fun _=>(RO u0 p s_)
def Ej (p:ah) (s_:State) (u0:(List Bool)):(aJ Int (Ex Unit (Int × Int)))→Exit→St→Prop:=
  LQ 0 [] (vH p s_ u0) (wo p s_ u0) pG
section
variable (u1:(List Bool)) (p:ah) (s_:State) (r_:Int) (u0:(Int × (List Source) × (List Link) × (List ay) × (List Bool) × (List Bool) × (List Bool) × (List Bool) × (List Bool) × (List Bool) × (List Bool) × (List Bool)))
abbrev ag8:St:=⟨[(jf u1),(aD p),(aK s_),(8,(vI r_))],[]⟩
abbrev ag2:List (Nat × TV):=[(11,(vP 6 0)),(44,(Zg u0))]
end
theorem oG (p:ah) (s_:State) (u1:(List Bool)) {r:(Int × Int)} (h:gM p s_ u1=some r):Fn Try.prog 45 (Yu p s_ u1) [] (.iq [(sI r.1),(sI r.2)]) []:=by
 refine fN tT Try.func45 rfl rfl fun B=> ?_
 show bn _ _ _ _ _ _ (pG r) _
 unfold gM at h
 refine sz tT (RO u1 p s_) {fr:=[(0,4),(1,5)] } [4,5] ?_
 refine aQ (aQ (bE h fun r_ hr_ h=> ?_))
 have q0:=fE p s_ hr_
 refine rg tT (ag8 u1 p s_ r_) [_] {an:=[(2,cA q0 [])] } [] ⟨q0,trivial⟩ ?_
 refine sz tT ⟨[(jf u1),(aD p),(aK s_),(8,(vI r_)),(18,(vB (!decide (r_=0))))],[]⟩ {} [] ?_
 refine bI h (fun hb3 h=> ?_) (fun hb3 h=> ?_)
 ·refine ct hb3 ?_
  refine sz tT ⟨[(6,(vI 0)),(7,(vI r_))],[]⟩ {} [] ?_
  refine aR ?_
  obtain rfl:=oi h
  exact rl [(sI 0),(sI r_)]
 ·refine cf hb3 ?_
  refine aP (aQ (sz tT ⟨[(jf u1),(aD p),(aK s_),(24,(vB (!decide ((u1.length:Int)=p.buses))))],[]⟩ {} [] ?_))
  refine bI h (fun hb2 h=> ?_) (fun hb2 h=> ?_)
  ·refine ct hb2 ?_
   refine sz tT ⟨[(6,(vI 0)),(7,(vI 1))],[]⟩ {} [] ?_
   refine aR ?_
   obtain rfl:=oi h
   exact rl [(sI 0),(sI 1)]
  ·refine cf hb2 ?_
   refine aP (aQ (sz tT ⟨[(jf u1),(aD p),(aK s_),(Tc u1),(Uq u1),(27,(vI 0))],[]⟩ {} [] ?_))
   refine bE h fun y hy h=> ?_
   refine aL [] (vH p s_ u1) (wo p s_ u1) pG hy (fun s f h=> ?_) ?_
   ·clear hy
    show bn _ _ _ _ _ _ ((Ej p s_ u1) f) _
    unfold ko at h
    obtain⟨u2,rfl⟩: ∃q,q=s:=⟨_,rfl⟩
    refine sz tT ⟨[(jf u1),(aD p),(aK s_),(Tc u1),(Uq u1),(27,(vI u2)),(28,(vB (decide (u2<(u1.length:Int)))))],[]⟩ {} [] ?_
    refine aQ ?_
    refine bI h (fun hb1 h=> ?_) (fun hb1 h=> ?_)
    ·refine ct hb1 ?_
     refine aP (aQ (aB (aQ (aO h fun a1 h=> ?_))))
     refine rg tT ⟨[(jf u1),(aD p),(aK s_),(9,(vI u2)),(10,(vB (at' u1 u2.toNat))),(Tc u1),(Uq u1),(27,(vI u2))],[]⟩ [_] {} [] ⟨a1,trivial⟩ ?_
     refine aQ (aO h fun a1 h=> ?_)
     refine rg tT ⟨[(jf u1),(aD p),(aK s_),(Tc u1),(Uq u1),(27,(vI u2)),(39,(vB (bif (at' u1 u2.toNat)then(at' s_.badBus u2.toNat)else false)))],[]⟩ (eqs (at' u1 u2.toNat) 4 ((gP (fQ [(1,(at' u1 u2.toNat))]) [(1,true)]→All [(0:Int)≤u2∧u2<(s_.badBus.length:Int)])::(eqs (at' u1 u2.toNat) 2 []))) {yb:=[(1,(at' u1 u2.toNat))] } [] (ae ⟨(fun hg=> ⟨(a1 (aM hg)),trivial⟩),(ae trivial)⟩) ?_
     refine bI h (fun hb h=> ?_) (fun hb h=> ?_)
     ·refine ct hb ?_
      refine sz tT ⟨[(6,(vI 0)),(7,(vI 1))],[]⟩ {} [] ?_
      refine aR ?_
      obtain rfl:=oi h
      exact lR bD (bC 0) bG (aW.mk (.inr rfl) (p:=[]) (l:=[(sI 0),(sI 1)]) (by kernel_rfl) trivial (dh.refl _) trivial)
     ·refine cf hb ?_
      refine aP (rz tT ⟨[(jf u1),(aD p),(aK s_),(Tc u1),(Uq u1),(27,(k3 u2))],[]⟩ {} [] ?_)
      obtain rfl:=oi h
      exact lN
    ·refine cf hb1 ?_
     refine aI (fz (RO u1 p s_) []) ?_
     refine aX ?_
     obtain rfl:=oi h
     exact lB
   ·clear hy
    cases y with
    |brk z=>
     unfold dA
     refine⟨_, .refl, ?_⟩
     refine sz tT ⟨[(jf u1),(aD p),(aK s_),(11,(vP 6 0))],[(6,some (.cells 3 [(cI 0)]))]⟩ {fr:=[(0,6)] } [] ?_
     refine aQ (aQ (bE h fun u0 hr_1 h=> ?_))
     have q0:=xA p s_ u1 hr_1
     refine rg tT ⟨(ag2 u0),[(6,some (.cells 3 [(cI 0)]))]⟩ [_] {an:=[(3,cA q0 [])] } [] ⟨q0,trivial⟩ ?_
     refine aB (bE h fun u3 hr_2 h=> ?_)
     refine jN 7 [(11,(vP 6 0))] [] [7,6] (.iq []) [(7,some (.loop dH 0 [(11,(vP 6 0))])),(6,some (.cells 3 [(cI u3)]))] (Zg u0) 124 [] (ahm u0) [(7,some (.loop dH 0 [(11,(vP 6 0))])),(6,some (.cells 3 [(cI 0)]))] [(.one (.yl 7)),(sD (ZJ u0)),(sD (XY u0)),(sD (Y1 u0))] dH 0 [(11,(vP 6 0))] (by kernel_rfl) (by kernel_rfl) (by kernel_rfl) (by kernel_rfl) (by kernel_rfl) (by kernel_rfl) (by kernel_rfl) (rK [(0,7),(1,6)] (zU u0.1 u0.2.1 u0.2.2.1 u0.2.2.2.1 u0.2.2.2.2.1 u0.2.2.2.2.2.1 u0.2.2.2.2.2.2.1 u0.2.2.2.2.2.2.2.1 u0.2.2.2.2.2.2.2.2.1 u0.2.2.2.2.2.2.2.2.2.1 u0.2.2.2.2.2.2.2.2.2.2.1 u0.2.2.2.2.2.2.2.2.2.2.2 0 hr_2)) (by kernel_rfl) rfl (EU.zero rfl) (bH.fin (st':=⟨(ag2 u0),[(6,some (.cells 3 [(cI u3)]))]⟩) (cs:=[]) ⟨[],[(6,6)]⟩ [11,44] (by kernel_rfl) trivial) ?_
     refine sz tT ⟨[(6,(vI u3)),(7,(vI 0))],[]⟩ {} [] ?_
     refine aR ?_
     obtain rfl:=oi h
     exact rl [(sI u3),(sI 0)]
    |ret v=>
     obtain rfl:=oi h
     unfold dA
     intro e st hn ha hR
     cases e with
     |normal=>exact absurd rfl hn
     |exit id=>exact hR
     |goto l=>exact hR
     |ret=>exact hR
     |panic c=>exact hR
     |outgrown=>exact hR
abbrev aax:Ob:=(.cells 186 [(.d (.fn 128 0 (nV []))),(.d (.fn 129 0 (nV []))),(.d (.fn 130 0 (nV [])))])
abbrev aaK:List (Nat × Option Ob):=[(0,some aax)]
def FV  :Unit→Exit→St→Prop:=
  fun _=>aW TT [.tmp 0] (vO 0 true 3) aaK
theorem Eu  {r:Unit} (h:uZ=some r):Fn Try.prog 91 [] [] (vO 0 true 3) aaK:=by
 refine fN tT Try.func91 rfl rfl fun B=> ?_
 show bn _ _ _ _ _ _ (FV r) _
 unfold uZ at h
 refine sz tT ⟨[],[]⟩ {} [] ?_
 refine sz tT ⟨[(0,(vO 1 true 3))],[(1,some aax)]⟩ {an:=[(3, .cells)],fr:=[(3,1)] } [] ?_
 refine aI (bH.fin (st':=⟨[(0,(vO 0 true 3))],aaK⟩) (cs:=[]) ⟨[],[(1,0)]⟩ [0] (by kernel_rfl) trivial) ?_
 refine aR ?_
 obtain rfl:=oi h
 exact rl [(.one (.own 0 true 3))]
def jC  :Bool→Exit→St→Prop:=
  fun r=>aW TT [.tmp 6] (vB r) []
section
variable (x:ai)
abbrev ZI:TV:=(vD (l8 [(aU none 1 (au .i64) x.sources),(aU none 1 (au .i64) x.links),(aU none 2 af.cell x.racks)] 0))
abbrev cK:Nat × TV:=(5,(ZI x))
abbrev SK:Nat × TV:=(12,(vD (aU none 1 (au .i64) x.sources)))
abbrev UW:Nat × TV:=(13,(vI (x.sources.length:Int)))
end
def xM (p:ah) (s_:State) (x:ai):Int→St:=
  fun u0=> ⟨[(aD p),(aK s_),(cK x),(SK x),(UW x),(14,(vI u0))],[]⟩
section
variable (p:ah) (s_:State) (x:ai)
abbrev Li:St:=⟨[(aD p),(aK s_),(cK x)],[]⟩
end
def xJ (p:ah) (s_:State) (x:ai):Unit→St:=
  fun _=>(Li p s_ x)
def Fs (p:ah) (s_:State) (x:ai):(aJ Int (Ex Unit Bool))→Exit→St→Prop:=
  LQ 0 [] (xM p s_ x) (xJ p s_ x) jC
section
variable (x:ai)
abbrev UG:Nat × TV:=(44,(vD (aU none 1 (au .i64) x.links)))
abbrev TU:Nat × TV:=(45,(vI (x.links.length:Int)))
end
def yc (p:ah) (s_:State) (x:ai):Int→St:=
  fun u0=> ⟨[(aD p),(aK s_),(UG x),(TU x),(46,(vI u0))],[]⟩
def xQ  :Unit→St:=
  fun _=> ⟨[],[]⟩
def Fx (p:ah) (s_:State) (x:ai):(aJ Int (Ex Unit Bool))→Exit→St→Prop:=
  LQ 2 [] (yc p s_ x) xQ jC
section
variable (p:ah) (s_:State) (x:ai) (u1:Int) (u0:Int)
abbrev Pp:List SV:=[(.agg (k7 p)),(.agg (JR s_)),(.agg (XF x))]
abbrev Ze:TV:=(vB (decide (u1<(x.sources.length:Int))))
abbrev Kv:=(decide ((at' x.sources u1.toNat)<0))
abbrev M6:=(bif (Kv x u1)then true else(decide ((YM p u1)<(at' x.sources u1.toNat))))
abbrev MP:=(decide (0<(at' x.sources u1.toNat)))
abbrev aa6:=(fQ [(2,(Kv x u1)),(12,(M6 p x u1)),(15,(MP x u1))])
abbrev X7:TV:=(vB (decide (u0<(x.links.length:Int))))
abbrev Nl:=(decide ((at' x.links u0.toNat)<(IntKind.wrap .i64 (0 - (Lg p u0)))))
abbrev MW:=(bif (Nl p x u0)then true else(decide ((Lg p u0)<(at' x.links u0.toNat))))
abbrev PU:=(!decide ((at' x.links u0.toNat)=0))
abbrev abu:=(fQ [(9,(Nl p x u0)),(19,(MW p x u0)),(22,(PU x u0))])
end
theorem F8 (p:ah) (s_:State) (x:ai) {r:Bool} (h:mH p s_ x=some r):Fn Try.prog 128 (Pp p s_ x) [] (vB r) []:=by
 refine fN tT Try.func128 rfl rfl fun B=> ?_
 show bn _ _ _ _ _ _ (jC r) _
 unfold mH at h
 refine sz tT (Li p s_ x) {fr:=[(0,3),(1,4),(2,5)] } [3,4,5] ?_
 refine aQ (sz tT ⟨[(aD p),(aK s_),(cK x),(SK x),(UW x),(14,(vI 0))],[]⟩ {} [] ?_)
 refine bE h fun y hy h=> ?_
 refine aL [] (xM p s_ x) (xJ p s_ x) jC hy (fun s f h=> ?_) ?_
 ·clear hy
  show bn _ _ _ _ _ _ ((Fs p s_ x) f) _
  unfold lJ at h
  obtain⟨u1,rfl⟩: ∃q,q=s:=⟨_,rfl⟩
  refine sz tT ⟨[(aD p),(aK s_),(cK x),(SK x),(UW x),(14,(vI u1)),(15,(Ze x u1))],[]⟩ {} [] ?_
  refine aQ ?_
  refine bI h (fun hb1 h=> ?_) (fun hb1 h=> ?_)
  ·refine ct hb1 ?_
   refine aP (aQ (aB (aQ (aO h fun a1 h=> ?_))))
   refine rg tT ⟨[(aD p),(aK s_),(cK x),(7,(vI u1)),(8,(vI (at' x.sources u1.toNat))),(SK x),(UW x),(14,(vI u1))],[]⟩ [_] {} [] ⟨a1,trivial⟩ ?_
   refine aQ (bE h fun r_ hr_ h=> ?_)
   refine aO h fun a1 h=> ?_
   refine rg tT ⟨[(aD p),(aK s_),(cK x),(SK x),(UW x),(14,(vI u1)),(41,(vB (bif (M6 p x u1)then true else(bif (MP x u1)then(!r_)else false))))],[]⟩ (eqs (Kv x u1) 5 ((gP (aa6 p x u1) [(2,false)]→All [(0:Int)≤u1∧u1<(p.sources.length:Int)])::(eqs (Kv x u1) 4 (eqs (M6 p x u1) 3 (eqs (MP x u1) 4 [gP (aa6 p x u1) [(15,true),(12,false)]→All [Fn Try.prog 65 (Ng p s_ u1) [] (vB r_) []],(MP x u1)=(MP x u1),(M6 p x u1)=(M6 p x u1),gP (aa6 p x u1) [(12,false)]→All [(MP x u1)=(MP x u1)],(M6 p x u1)=(M6 p x u1)]))))) {yb:=[(2,(Kv x u1)),(12,(M6 p x u1)),(15,(MP x u1))],an:=[(19, .call [] (vB r_) [])] } [] (ae ⟨(fun hg=> ⟨(a1 (aM hg)),trivial⟩),(ae (ae (ae ⟨(fun hg=> ⟨(fC p s_ u1 (dU hr_ (aM hg))),trivial⟩),rfl,rfl,(fun hg=> ⟨rfl,trivial⟩),rfl,trivial⟩)))⟩) ?_
   refine bI h (fun hb h=> ?_) (fun hb h=> ?_)
   ·refine ct hb ?_
    refine sz tT ⟨[(6,(vB false))],[]⟩ {} [] ?_
    refine aR ?_
    obtain rfl:=oi h
    exact lR bD (bC 0) bG (aW.mk (.inr rfl) (p:=[]) (l:=[(sB false)]) (by kernel_rfl) trivial (dh.refl _) trivial)
   ·refine cf hb ?_
    refine aP (rz tT ⟨[(aD p),(aK s_),(cK x),(SK x),(UW x),(14,(k3 u1))],[]⟩ {} [] ?_)
    obtain rfl:=oi h
    exact lN
  ·refine cf hb1 ?_
   refine aI (fz (Li p s_ x) []) ?_
   refine aX ?_
   obtain rfl:=oi h
   exact lB
 ·clear hy
  cases y with
  |brk z=>
   unfold dA
   refine⟨_, .refl, ?_⟩
   refine aQ (sz tT ⟨[(aD p),(aK s_),(UG x),(TU x),(46,(vI 0))],[]⟩ {} [] ?_)
   refine bE h fun y1 hy h=> ?_
   refine aL [] (yc p s_ x) xQ jC hy (fun s f h=> ?_) ?_
   ·clear hy
    show bn _ _ _ _ _ _ ((Fx p s_ x) f) _
    unfold lq at h
    obtain⟨u0,rfl⟩: ∃q,q=s:=⟨_,rfl⟩
    refine sz tT ⟨[(aD p),(aK s_),(UG x),(TU x),(46,(vI u0)),(47,(X7 x u0))],[]⟩ {} [] ?_
    refine aQ ?_
    refine bI h (fun hb3 h=> ?_) (fun hb3 h=> ?_)
    ·refine ct hb3 ?_
     refine aP (aQ (aB (aQ (aO h fun a1 h=> ?_))))
     refine rg tT ⟨[(aD p),(aK s_),(9,(vI u0)),(10,(vI (at' x.links u0.toNat))),(UG x),(TU x),(46,(vI u0))],[]⟩ [_] {} [] ⟨a1,trivial⟩ ?_
     refine aQ (bE h fun u2 hr_1 h=> ?_)
     refine aO h fun⟨a1,a2⟩ h=> ?_
     refine rg tT ⟨[(aD p),(aK s_),(UG x),(TU x),(46,(vI u0)),(80,(vB (bif (MW p x u0)then true else(bif (PU x u0)then(!u2)else false))))],[]⟩ (_::(eqs (Nl p x u0) 5 ((gP (abu p x u0) [(9,false)]→All [(0:Int)≤u0∧u0<(p.links.length:Int)])::(eqs (Nl p x u0) 4 (eqs (MW p x u0) 3 (eqs (PU x u0) 4 [gP (abu p x u0) [(22,true),(19,false)]→All [Fn Try.prog 78 (Ng p s_ u0) [] (vB u2) []],(PU x u0)=(PU x u0),(MW p x u0)=(MW p x u0),gP (abu p x u0) [(19,false)]→All [(PU x u0)=(PU x u0)],(MW p x u0)=(MW p x u0)])))))) {yb:=[(9,(Nl p x u0)),(19,(MW p x u0)),(22,(PU x u0))],an:=[(26, .call [] (vB u2) [])] } [] ⟨a1,(ae ⟨(fun hg=> ⟨(a2 (aM hg)),trivial⟩),(ae (ae (ae ⟨(fun hg=> ⟨(dI p s_ u0 (dU hr_1 (aM hg))),trivial⟩),rfl,rfl,(fun hg=> ⟨rfl,trivial⟩),rfl,trivial⟩)))⟩)⟩ ?_
     refine bI h (fun hb2 h=> ?_) (fun hb2 h=> ?_)
     ·refine ct hb2 ?_
      refine sz tT ⟨[(6,(vB false))],[]⟩ {} [] ?_
      refine aR ?_
      obtain rfl:=oi h
      exact lR bD (bC 2) bG (aW.mk (.inr rfl) (p:=[]) (l:=[(sB false)]) (by kernel_rfl) trivial (dh.refl _) trivial)
     ·refine cf hb2 ?_
      refine aP (rz tT ⟨[(aD p),(aK s_),(UG x),(TU x),(46,(k3 u0))],[]⟩ {} [] ?_)
      obtain rfl:=oi h
      exact lN
    ·refine cf hb3 ?_
     refine aI (fz ⟨[],[]⟩ []) ?_
     refine aX ?_
     obtain rfl:=oi h
     exact lB
   ·clear hy
    cases y1 with
    |brk z=>
     unfold dA
     refine⟨_, .refl, ?_⟩
     refine sz tT ⟨[(6,(vB true))],[]⟩ {} [] ?_
     refine aR ?_
     obtain rfl:=oi h
     exact rl [(sB true)]
    |ret v=>
     obtain rfl:=oi h
     unfold dA
     intro e st hn ha hR
     cases e with
     |normal=>exact absurd rfl hn
     |exit id=>exact hR
     |goto l=>exact hR
     |ret=>exact hR
     |panic c=>exact hR
     |outgrown=>exact hR
  |ret v=>
   obtain rfl:=oi h
   unfold dA
   intro e st hn ha hR
   cases e with
   |normal=>exact absurd rfl hn
   |exit id=>exact hR
   |goto l=>exact hR
   |ret=>exact hR
   |panic c=>exact hR
   |outgrown=>exact hR
def vV  :Bool→Exit→St→Prop:=
  fun r=>aW TT [.tmp 6] (vB r) []
section
variable (x:ai)
abbrev Dv:Nat × TV:=(12,(vD (aU none 2 af.cell x.racks)))
abbrev CF:Nat × TV:=(13,(vI (x.racks.length:Int)))
end
def AA (p:ah) (s_:State) (x:ai):Int→St:=
  fun u0=> ⟨[(aD p),(aK s_),(Dv x),(CF x),(14,(vI u0))],[]⟩
def AB  :Unit→St:=
  fun _=> ⟨[],[]⟩
def rM (p:ah) (s_:State) (x:ai):(aJ Int (Ex Unit Bool))→Exit→St→Prop:=
  LQ 0 [] (AA p s_ x) AB vV
section
variable (x:ai) (u0:Int)
abbrev JC:Nat × TV:=(8,(ac8 x u0))
abbrev acQ:List CV:=[(cI (Hq x u0)),(cI (Gx x u0))]
abbrev K6:Nat × TV:=(19,(.v (.agg (acQ x u0))))
end
def AU (p:ah) (s_:State) (x:ai) (u0:Int):Int→St:=
  fun u1=> ⟨[(aD p),(aK s_),(7,(vI u0)),(JC x u0),(Dv x),(CF x),(14,(vI u0)),(K6 x u0),(20,(vI u1))],[]⟩
section
variable (p:ah) (s_:State) (u0:Int) (x:ai)
abbrev aaA:St:=⟨[(aD p),(aK s_),(7,(vI u0)),(JC x u0),(Dv x),(CF x),(14,(vI u0))],[]⟩
end
def AL (p:ah) (s_:State) (x:ai) (u0:Int):Unit→St:=
  fun _=>(aaA p s_ u0 x)
def IQ (p:ah) (s_:State) (x:ai) (u0:Int):(aJ Int (Ex Unit (aJ Int (Ex Unit Bool))))→Exit→St→Prop:=
  LQ 2 [1] (AU p s_ x u0) (AL p s_ x u0) (rM p s_ x)
section
variable (x:ai) (u0:Int) (u1:Int) (p:ah) (r_:Bool)
abbrev Tf:=(at' [(at' x.racks u0.toNat).e0,(at' x.racks u0.toNat).e1] u1.toNat)
abbrev abW:Nat × TV:=(10,(vI (Tf x u0 u1)))
abbrev Om:=(decide ((Tf x u0 u1)<0))
abbrev FY:=(bif (Om x u0 u1)then true else(decide ((R3 p u0)<(Tf x u0 u1))))
abbrev Bj:=(decide (0<(Tf x u0 u1)))
abbrev adG:Nat × TV:=(52,(vB (bif (FY x u0 u1 p)then true else(bif (Bj x u0 u1)then(!r_)else false))))
abbrev Qi:=(fQ [(2,(Om x u0 u1)),(12,(FY x u0 u1 p)),(15,(Bj x u0 u1))])
abbrev ae8:=(gP (Qi x u0 u1 p) [(2,false)]→All [(0:Int)≤u0∧u0<(p.racks.length:Int)])
abbrev aee:=(gP (Qi x u0 u1 p) [(15,true),(12,false)]→All [(0:Int)≤u0∧u0<(p.racks.length:Int)])
end
theorem IL (p:ah) (s_:State) (x:ai) {r:Bool} (h:pY p s_ x=some r):Fn Try.prog 129 (Pp p s_ x) [] (vB r) []:=by
 refine fN tT Try.func129 rfl rfl fun B=> ?_
 show bn _ _ _ _ _ _ (vV r) _
 unfold pY at h
 refine sz tT ⟨[(aD p),(aK s_),(5,(vP 9 0))],[(9,some (aaD x))]⟩ {fr:=[(0,7),(1,8),(2,9)] } [7,8] ?_
 refine aQ (sz tT ⟨[(aD p),(aK s_),(Dv x),(CF x),(14,(vI 0))],[]⟩ {} [] ?_)
 refine bE h fun y1 hy h=> ?_
 refine aL [] (AA p s_ x) AB vV hy (fun s f h=> ?_) ?_
 ·clear hy
  show bn _ _ _ _ _ _ ((rM p s_ x) f) _
  unfold oq at h
  obtain⟨u0,rfl⟩: ∃q,q=s:=⟨_,rfl⟩
  refine sz tT ⟨[(aD p),(aK s_),(Dv x),(CF x),(14,(vI u0)),(15,(Ui x u0))],[]⟩ {} [] ?_
  refine aQ ?_
  refine bI h (fun hb6 h=> ?_) (fun hb6 h=> ?_)
  ·refine ct hb6 ?_
   refine aP (aQ (aB (aQ (aO h fun a1 h=> ?_))))
   refine rg tT (aaA p s_ u0 x) [_] {fr:=[(3,13)] } [13] ⟨a1,trivial⟩ ?_
   refine aQ (sz tT ⟨[(aD p),(aK s_),(7,(vI u0)),(JC x u0),(Dv x),(CF x),(14,(vI u0)),(K6 x u0),(20,(vI 0))],[]⟩ {} [] ?_)
   refine bE h fun y hy h=> ?_
   refine aL [1] (AU p s_ x u0) (AL p s_ x u0) (rM p s_ x) hy (fun s f h=> ?_) ?_
   ·clear hy
    show bn _ _ _ _ _ _ ((IQ p s_ x u0) f) _
    unfold eB at h
    obtain⟨u1,rfl⟩: ∃q,q=s:=⟨_,rfl⟩
    refine sz tT ⟨[(aD p),(aK s_),(7,(vI u0)),(JC x u0),(Dv x),(CF x),(14,(vI u0)),(K6 x u0),(20,(vI u1)),(21,(vB (decide (u1<2))))],[]⟩ {} [] ?_
    refine aQ ?_
    refine bI h (fun hb4 h=> ?_) (fun hb4 h=> ?_)
    ·refine ct hb4 ?_
     refine aP (aQ (aB (aQ (aO h fun a1 h=> ?_))))
     refine rg tT ⟨[(aD p),(aK s_),(7,(vI u0)),(JC x u0),(9,(vI u1)),(abW x u0 u1),(Dv x),(CF x),(14,(vI u0)),(K6 x u0),(20,(vI u1))],[]⟩ [_,u1.toNat*1+1≤(acQ x u0).length,((acQ x u0).drop (u1.toNat*1)).take 1=[(.int .i64 (Tf x u0 u1))].map .d] {an:=[(1, .vals [(.int .i64 (Tf x u0 u1))])] } [] ⟨a1,(Wq (n:=2) (sz:=1) (Nat.le_refl _) a1),(Xd (n:=2) (sz:=1) (g:=fun q=>[(cI (at' [(at' x.racks u0.toNat).e0,(at' x.racks u0.toNat).e1] q))]) (by intro q hq;match q,hq with|0,_=>rfl|1,_=>rfl) a1),trivial⟩ ?_
     refine aQ ?_
     refine bI h (fun hb h=> ?_) (fun _ h=> ?_)
     ·skip
      refine aI (bH.le (st':=⟨[(aD p),(aK s_),(7,(vI u0)),(JC x u0),(9,(vI 0)),(abW x u0 u1),(Dv x),(CF x),(14,(vI u0)),(K6 x u0),(20,(vI 0))],[]⟩) ⟨⟨tR,tR,tR,tR,⟨_,rfl,dh.v (dX.one (dD.of (congrArg (fun n=>CV.d (.int .i64 n)) (of_decide_eq_true hb))))⟩,tR,tR,tR,tR,tR,⟨_,rfl,dh.v (dX.one (dD.of (congrArg (fun n=>CV.d (.int .i64 n)) (of_decide_eq_true hb))))⟩,trivial⟩,trivial⟩) ?_
      refine bE h fun r_ hr_ h=> ?_
      refine aO h fun⟨a1,a2⟩ h=> ?_
      refine dg tT mX ⟨[(aD p),(aK s_),(7,(vI u0)),(JC x u0),(Dv x),(CF x),(14,(vI u0)),(K6 x u0),(20,(vI 0)),(adG x u0 u1 p r_)],[]⟩ (eqs (Om x u0 u1) 5 ((ae8 x u0 u1 p)::(eqs (Om x u0 u1) 4 (eqs (FY x u0 u1 p) 3 (eqs (Bj x u0 u1) 6 ((aee x u0 u1 p)::(eqs (Bj x u0 u1) 2 ((gP (Qi x u0 u1 p) [(15,true),(12,false)]→All [(0:Int)≤0∧(0:Int)<(2:Nat)])::(eqs (Bj x u0 u1) 2 [gP (Qi x u0 u1 p) [(15,true),(12,false)]→All [Fn Try.prog 79 [(.agg (JR s_)),(sI (R9 p u0))] [] (vB r_) []],(Bj x u0 u1)=(Bj x u0 u1),(FY x u0 u1 p)=(FY x u0 u1 p),gP (Qi x u0 u1 p) [(12,false)]→All [(Bj x u0 u1)=(Bj x u0 u1)],(FY x u0 u1 p)=(FY x u0 u1 p)]))))))))) {yb:=[(2,(Om x u0 u1)),(12,(FY x u0 u1 p)),(15,(Bj x u0 u1))],an:=[(25, .call [] (vB r_) [])] } [] (ae ⟨(fun hg=> ⟨(a1 (aM hg)),trivial⟩),(ae (ae (ae ⟨(fun hg=> ⟨(a2 (aM hg)),trivial⟩),(ae ⟨(fun hg=> ⟨((by decide)),trivial⟩),(ae ⟨(fun hg=> ⟨(lQ s_ (R9 p u0) (dU hr_ (aM hg))),trivial⟩),rfl,rfl,(fun hg=> ⟨rfl,trivial⟩),rfl,trivial⟩)⟩)⟩)))⟩) ?_
      refine bI h (fun hb1 h=> ?_) (fun hb1 h=> ?_)
      ·refine ct hb1 ?_
       refine sz tT ⟨[(6,(vB false))],[]⟩ {} [] ?_
       refine aR ?_
       obtain rfl:=oi h
       exact lR bD (bC 2) bG (lR bD (bC 0) bG (aW.mk (.inr rfl) (p:=[]) (l:=[(sB false)]) (by kernel_rfl) trivial (dh.refl _) trivial))
      ·refine cf hb1 ?_
       refine aP (rz tT ⟨[(aD p),(aK s_),(7,(vI u0)),(JC x u0),(Dv x),(CF x),(14,(vI u0)),(K6 x u0),(20,(vI 1))],[]⟩ {} [] ?_)
       obtain rfl:=oi h
       exact lN
     ·skip
      refine aO h fun a1 h=> ?_
      refine aI (bH.le (st':=⟨[(aD p),(aK s_),(7,(vI u0)),(JC x u0),(9,(vI 1)),(abW x u0 u1),(Dv x),(CF x),(14,(vI u0)),(K6 x u0),(20,(vI 1))],[]⟩) ⟨⟨tR,tR,tR,tR,⟨_,rfl,dh.v (dX.one (dD.of (congrArg (fun n=>CV.d (.int .i64 n)) a1)))⟩,tR,tR,tR,tR,tR,⟨_,rfl,dh.v (dX.one (dD.of (congrArg (fun n=>CV.d (.int .i64 n)) a1)))⟩,trivial⟩,trivial⟩) ?_
      refine bE h fun u2 hr_1 h=> ?_
      refine aO h fun⟨a1,a2⟩ h=> ?_
      refine dg tT mX ⟨[(aD p),(aK s_),(7,(vI u0)),(JC x u0),(Dv x),(CF x),(14,(vI u0)),(K6 x u0),(20,(vI 1)),(adG x u0 u1 p u2)],[]⟩ (eqs (Om x u0 u1) 5 ((ae8 x u0 u1 p)::(eqs (Om x u0 u1) 4 (eqs (FY x u0 u1 p) 3 (eqs (Bj x u0 u1) 6 ((aee x u0 u1 p)::(eqs (Bj x u0 u1) 2 ((gP (Qi x u0 u1 p) [(15,true),(12,false)]→All [(0:Int)≤1∧(1:Int)<(2:Nat)])::(eqs (Bj x u0 u1) 2 [gP (Qi x u0 u1 p) [(15,true),(12,false)]→All [Fn Try.prog 79 [(.agg (JR s_)),(sI (Sd p u0))] [] (vB u2) []],(Bj x u0 u1)=(Bj x u0 u1),(FY x u0 u1 p)=(FY x u0 u1 p),gP (Qi x u0 u1 p) [(12,false)]→All [(Bj x u0 u1)=(Bj x u0 u1)],(FY x u0 u1 p)=(FY x u0 u1 p)]))))))))) {yb:=[(2,(Om x u0 u1)),(12,(FY x u0 u1 p)),(15,(Bj x u0 u1))],an:=[(25, .call [] (vB u2) [])] } [] (ae ⟨(fun hg=> ⟨(a1 (aM hg)),trivial⟩),(ae (ae (ae ⟨(fun hg=> ⟨(a2 (aM hg)),trivial⟩),(ae ⟨(fun hg=> ⟨((by decide)),trivial⟩),(ae ⟨(fun hg=> ⟨(lQ s_ (Sd p u0) (dU hr_1 (aM hg))),trivial⟩),rfl,rfl,(fun hg=> ⟨rfl,trivial⟩),rfl,trivial⟩)⟩)⟩)))⟩) ?_
      refine bI h (fun hb3 h=> ?_) (fun hb3 h=> ?_)
      ·refine ct hb3 ?_
       refine sz tT ⟨[(6,(vB false))],[]⟩ {} [] ?_
       refine aR ?_
       obtain rfl:=oi h
       exact lR bD (bC 2) bG (lR bD (bC 0) bG (aW.mk (.inr rfl) (p:=[]) (l:=[(sB false)]) (by kernel_rfl) trivial (dh.refl _) trivial))
      ·refine cf hb3 ?_
       refine aP (rz tT ⟨[(aD p),(aK s_),(7,(vI u0)),(JC x u0),(Dv x),(CF x),(14,(vI u0)),(K6 x u0),(20,(vI 2))],[]⟩ {} [] ?_)
       obtain rfl:=oi h
       exact lN
    ·refine cf hb4 ?_
     refine aI (fz (aaA p s_ u0 x) []) ?_
     refine aX ?_
     obtain rfl:=oi h
     exact lB
   ·clear hy
    cases y with
    |brk z=>
     unfold dA
     refine⟨_, .refl, ?_⟩
     refine aQ (aO h fun a1 h=> ?_)
     refine dg tT mX ⟨[(aD p),(aK s_),(Dv x),(CF x),(14,(vI u0)),(65,(vB (decide ((R3 p u0)<(IntKind.wrap .i64 ((Hq x u0)+(Gx x u0)))))))],[]⟩ [(0:Int)≤0∧(0:Int)<(2:Nat),(0:Int)≤1∧(1:Int)<(2:Nat),_] {} [] ⟨((by decide)),((by decide)),a1,trivial⟩ ?_
     refine bI h (fun hb5 h=> ?_) (fun hb5 h=> ?_)
     ·refine ct hb5 ?_
      refine sz tT ⟨[(6,(vB false))],[]⟩ {} [] ?_
      refine aR ?_
      obtain rfl:=oi h
      exact lR bD (bC 0) bG (aW.mk (.inr rfl) (p:=[]) (l:=[(sB false)]) (by kernel_rfl) trivial (dh.refl _) trivial)
     ·refine cf hb5 ?_
      refine aP (rz tT ⟨[(aD p),(aK s_),(Dv x),(CF x),(14,(k3 u0))],[]⟩ {} [] ?_)
      obtain rfl:=oi h
      exact lN
    |ret v=>
     obtain rfl:=oi h
     unfold dA
     intro e st hn ha hR
     cases e with
     |normal=>exact absurd rfl hn
     |exit id=>simp only [qX (b:=1) ha rfl,cond_false];exact hR
     |goto l=>exact hR
     |ret=>exact hR
     |panic c=>exact hR
     |outgrown=>exact hR
  ·refine cf hb6 ?_
   refine aI (fz ⟨[],[]⟩ []) ?_
   refine aX ?_
   obtain rfl:=oi h
   exact lB
 ·clear hy
  cases y1 with
  |brk z=>
   unfold dA
   refine⟨_, .refl, ?_⟩
   refine sz tT ⟨[(6,(vB true))],[]⟩ {} [] ?_
   refine aR ?_
   obtain rfl:=oi h
   exact rl [(sB true)]
  |ret v=>
   obtain rfl:=oi h
   unfold dA
   intro e st hn ha hR
   cases e with
   |normal=>exact absurd rfl hn
   |exit id=>exact hR
   |goto l=>exact hR
   |ret=>exact hR
   |panic c=>exact hR
   |outgrown=>exact hR
def CU  :Bool→Exit→St→Prop:=
  fun r=>aW TT [.tmp 2] (vB r) []
theorem Cf (n:Int) {r:Bool} (h:lm n=some r):Fn Try.prog 149 [(sI n)] [] (vB r) []:=by
 refine fN tT Try.func149 rfl rfl fun B=> ?_
 show bn _ _ _ _ _ _ (CU r) _
 unfold lm at h
 refine sz tT ⟨[(0,(vI n))],[]⟩ {} [] ?_
 refine sz tT ⟨[(2,(vB (!decide (n=0))))],[]⟩ {} [] ?_
 refine aR ?_
 obtain rfl:=oi h
 exact rl [(sB (!decide (n=0)))]
section
variable (s_:(List Int))
abbrev uW:List (Nat × Option Ob):=[(GQ s_)]
end
def iI (s_:(List Int)):Int→Exit→St→Prop:=
  fun r=>aW TT [.tmp 4] (vI r) (uW s_)
section
variable (s_:(List Int))
abbrev Dy:Nat × TV:=(0,(vO 0 true s_.length))
abbrev Rt:Nat × TV:=(1,(vD (.fn 149 0 (nV []))))
end
def kZ (s_:(List Int)):Int→St:=
  fun t8=> ⟨[(Dy s_),Rt,(oU s_),(8,(vI t8))],(uW s_)⟩
def lF (s_:(List Int)):Unit→St:=
  fun _=> ⟨[],(uW s_)⟩
def uU (s_:(List Int)):(aJ Int (Ex Unit Int))→Exit→St→Prop:=
  LQ 0 [] (kZ s_) (lF s_) (iI s_)
section
variable (s_:(List Int))
abbrev afQ:St:=⟨[(Dy s_),Rt],(uW s_)⟩
end
theorem uR (s_:(List Int)) {r:Int} (h:fV s_=some r):Fn Try.prog 113 [(.one (.own 0 true s_.length)),(sD (.fn 149 0 (nV [])))] (uW s_) (vI r) (uW s_):=by
 refine fN tT Try.func113 rfl rfl fun B=> ?_
 show bn _ _ _ _ _ _ ((iI s_) r) _
 unfold fV at h
 refine sz tT (afQ s_) {} [] ?_
 refine aQ (sz tT ⟨[(Dy s_),Rt,(oU s_),(8,(vI 0))],(uW s_)⟩ {} [] ?_)
 refine bE h fun y hy h=> ?_
 refine aL [] (kZ s_) (lF s_) (iI s_) hy (fun s f h=> ?_) ?_
 ·clear hy
  show bn _ _ _ _ _ _ ((uU s_) f) _
  unfold eX at h
  obtain⟨t8,rfl⟩: ∃q,q=s:=⟨_,rfl⟩
  refine sz tT ⟨[(Dy s_),Rt,(oU s_),(8,(vI t8)),(VH t8 s_)],(uW s_)⟩ {} [] ?_
  refine aQ ?_
  refine bI h (fun hb1 h=> ?_) (fun hb1 h=> ?_)
  ·refine ct hb1 ?_
   refine aP (aQ (aB (sz tT ⟨[(Dy s_),Rt,(5,(vI t8)),(oU s_),(8,(vI t8))],(uW s_)⟩ {} [] ?_)))
   refine aQ (bE h fun r_ hr_ h=> ?_)
   refine aO h fun a1 h=> ?_
   have q2:=Cf (at' s_ t8.toNat) hr_
   refine rg tT ⟨[(Dy s_),Rt,(5,(vI t8)),(oU s_),(8,(vI t8)),(16,(vB r_))],(uW s_)⟩ [_,_,_] {an:=[(5,cA q2 [])] } [] ⟨a1,(tL a1),q2,trivial⟩ ?_
   refine bI h (fun hb h=> ?_) (fun hb h=> ?_)
   ·refine ct hb ?_
    refine sz tT ⟨[(4,(vI t8))],(uW s_)⟩ {} [] ?_
    refine aR ?_
    obtain rfl:=oi h
    exact lR bD (bC 0) bG (aW.mk (.inr rfl) (p:=[]) (l:=[(sI t8)]) (by kernel_rfl) trivial (dh.refl _) (.refl _))
   ·refine cf hb ?_
    refine aP (rz tT ⟨[(Dy s_),Rt,(oU s_),(Ul t8)],(uW s_)⟩ {} [] ?_)
    obtain rfl:=oi h
    exact lN
  ·refine cf hb1 ?_
   refine aI (fz ⟨[],(uW s_)⟩ []) ?_
   refine aX ?_
   obtain rfl:=oi h
   exact lB
 ·clear hy
  cases y with
  |brk z=>
   unfold dA
   refine⟨_, .refl, ?_⟩
   refine sz tT ⟨[(4,(vI (-1)))],(uW s_)⟩ {} [] ?_
   refine aR ?_
   obtain rfl:=oi h
   exact rl [(sI (-1))]
  |ret v=>
   obtain rfl:=oi h
   unfold dA
   intro e st hn ha hR
   cases e with
   |normal=>exact absurd rfl hn
   |exit id=>exact hR
   |goto l=>exact hR
   |ret=>exact hR
   |panic c=>exact hR
   |outgrown=>exact hR
def rQ (s_:(List Int)):Bool→Exit→St→Prop:=
  fun r=>aW TT [.tmp 4] (vB r) (uW s_)
theorem rF (s_:(List Int)) {r:Bool} (h:bW s_=some r):Fn Try.prog 67 [(.one (.own 0 true s_.length)),(sD (.fn 149 0 (nV [])))] (uW s_) (vB r) (uW s_):=by
 refine fN tT Try.func67 rfl rfl fun B=> ?_
 show bn _ _ _ _ _ _ ((rQ s_) r) _
 unfold bW at h
 refine sz tT (afQ s_) {} [] ?_
 refine aQ (bE h fun r_ hr_ h=> ?_)
 have q0:=uR s_ hr_
 refine rg tT ⟨[(4,(vB (decide (0≤r_))))],(uW s_)⟩ [_] {an:=[(2,cR q0 [0])] } [] ⟨q0,trivial⟩ ?_
 refine aR ?_
 obtain rfl:=oi h
 exact rl [(sB (decide (0≤r_)))]
def eZ  :Bool→Exit→St→Prop:=
  fun r=>aW TT [.tmp 6] (vB r) []
section
variable (u0:(List Int)) (x:ai) (u1:Int) (p:ah)
abbrev uK:Nat × TV:=(7,(vO 11 true u0.length))
abbrev Uw:Nat × TV:=(20,(vD (aU none 1 (au .i64) x.sources)))
abbrev SS:Nat × TV:=(21,(vI (x.sources.length:Int)))
abbrev af0:List (Nat × TV):=[(3,(vP 8 0)),(5,(vP 10 0)),(uK u0),(Uw x),(SS x),(22,(vI u1))]
abbrev MN:Nat × Option Ob:=(8,some (YV p))
abbrev Nz:Nat × Option Ob:=(10,some (aaD x))
abbrev Qg:List (Nat × Option Ob):=[(MN p),(Nz x),(11,some (Cz u0))]
end
def wF (p:ah) (x:ai):((List Int) × Int)→St:=
  fun zz=>match zz with|(u0,u1)=> ⟨(af0 u0 x u1),(Qg u0 x p)⟩
section
variable (u0:(List Int)) (p:ah) (x:ai)
abbrev Y0:St:=⟨[(3,(vP 8 0)),(5,(vP 10 0)),(uK u0)],(Qg u0 x p)⟩
end
def wJ (p:ah) (x:ai):(List Int)→St:=
  fun u0=>(Y0 u0 p x)
def EC (p:ah) (x:ai):(aJ ((List Int) × Int) (Ex (List Int) Bool))→Exit→St→Prop:=
  LQ 0 [] (wF p x) (wJ p x) eZ
section
variable (x:ai)
abbrev OD:Nat × TV:=(41,(vD (aU none 1 (au .i64) x.links)))
abbrev P7:Nat × TV:=(42,(vI (x.links.length:Int)))
end
def wR (p:ah) (x:ai):((List Int) × Int)→St:=
  fun zz=>match zz with|(u0,u1)=> ⟨[(3,(vP 8 0)),(5,(vP 10 0)),(uK u0),(OD x),(P7 x),(43,(vI u1))],(Qg u0 x p)⟩
def vL (p:ah) (x:ai):(List Int)→St:=
  fun u0=>(Y0 u0 p x)
def Ev (p:ah) (x:ai):(aJ ((List Int) × Int) (Ex (List Int) Bool))→Exit→St→Prop:=
  LQ 2 [] (wR p x) (vL p x) eZ
section
variable (x:ai) (u0:(List Int)) (p:ah) (u1:Int)
abbrev A8:Nat × TV:=(74,(vD (aU none 2 af.cell x.racks)))
abbrev Bn:Nat × TV:=(75,(vI (x.racks.length:Int)))
abbrev DZ:List (Nat × Option Ob):=[(11,some (Cz u0))]
abbrev acW:St:=⟨[(aD p),(uK u0),(A8 x),(Bn x),(76,(vI u1))],(DZ u0)⟩
end
def vY (p:ah) (x:ai):((List Int) × Int)→St:=
  fun zz=>match zz with|(u0,u1)=>(acW x u0 p u1)
def vZ  :(List Int)→St:=
  fun u0=> ⟨[(uK u0)],(DZ u0)⟩
def oC (p:ah) (x:ai):(aJ ((List Int) × Int) (Ex (List Int) Bool))→Exit→St→Prop:=
  LQ 4 [] (vY p x) vZ eZ
section
variable (x:ai) (u0:Int) (p:ah)
abbrev Fz:Nat × TV:=(13,(ac8 x u0))
abbrev acS:List CV:=[(cI (R9 p u0)),(cI (Sd p u0))]
abbrev GK:Nat × TV:=(86,(.v (.agg (acS u0 p))))
end
def wS (p:ah) (x:ai) (u0:Int):((List Int) × Int)→St:=
  fun zz=>match zz with|(u1,u2)=> ⟨[(aD p),(uK u1),(Fz x u0),(A8 x),(Bn x),(76,(vI u0)),(GK u0 p),(87,(vI u2))],(DZ u1)⟩
def wm (p:ah) (x:ai) (u1:Int):(List Int)→St:=
  fun u0=>(acW x u0 p u1)
def Ec (p:ah) (x:ai) (u0:Int):(aJ ((List Int) × Int) (Ex (List Int) (aJ ((List Int) × Int) (Ex (List Int) Bool))))→Exit→St→Prop:=
  LQ 6 [5] (wS p x u0) (wm p x u0) (oC p x)
section
variable (p:ah) (x:ai) (u6:(List Int)) (u5:Int) (u2:(List Int)) (u1:Int) (u7:(List Int)) (u0:Int) (u4:Int) (u3:(List Int))
abbrev RP:=(List.replicate p.buses.toNat (0:Int))
abbrev agY:List (Nat × Option Ob):=[(MN p),(Nz x),(11,some (bU 3 1 (au .i64) (RP p)))]
abbrev acA:=(u6.set (Un p u5) (IntKind.wrap .i64 ((at' u6 (Un p u5))+(at' x.sources u5.toNat))))
abbrev aaY:=(aC (au .i64) (acA p x u6 u5))
abbrev aer:Nat × TV:=(7,(vO 11 true ((acA p x u6 u5).length)))
abbrev ae6:List (Nat × Option Ob):=[(MN p),(Nz x),(11,some (bU 3 1 (au .i64) (acA p x u6 u5)))]
abbrev afF:List (Nat × TV):=[(3,(vP 8 0)),(5,(vP 10 0)),(uK u2),(10,(vI u1)),(11,(vI (at' x.links u1.toNat))),(OD x),(P7 x),(43,(vI u1))]
abbrev Rs:=(u2.set (UY u1 p) (IntKind.wrap .i64 ((at' u2 (UY u1 p)) - (at' x.links u1.toNat))))
abbrev ZH:=(aC (au .i64) (Rs p x u2 u1))
abbrev adB:Nat × TV:=(7,(vO 11 true ((Rs p x u2 u1).length)))
abbrev ahO:=(IntKind.wrap .i64 ((at' (Rs p x u2 u1) (VD u1 p))+(at' x.links u1.toNat)))
abbrev ac5:=((Rs p x u2 u1).set (VD u1 p) (ahO p x u2 u1))
abbrev aaq:=(aC (au .i64) (ac5 p x u2 u1))
abbrev afx:Nat × TV:=(7,(vO 11 true ((ac5 p x u2 u1).length)))
abbrev afj:List (Nat × Option Ob):=[(MN p),(Nz x),(11,some (bU 3 1 (au .i64) (ac5 p x u2 u1)))]
abbrev agX:List (Nat × TV):=[(aD p),(uK u7),(Fz x u0),(A8 x),(Bn x),(76,(vI u0)),(GK u0 p),(87,(vI 0))]
abbrev Wo:=(at' [(KZ p u0).e0,(KZ p u0).e1] u4.toNat)
abbrev Y3:Nat × TV:=(15,(vI (Wo p u0 u4)))
abbrev acZ:Nat × TV:=(92,(vB (decide (0≤(Wo p u0 u4)))))
abbrev UN:=((Wo p u0 u4).toNat)
abbrev af6:=(IntKind.wrap .i64 ((at' u3 (UN p u0 u4)) - (Hq x u0)))
abbrev ac2:=(u3.set (UN p u0 u4) (af6 p x u0 u4 u3))
abbrev abS:=(aC (au .i64) (ac2 p x u0 u4 u3))
abbrev agR:Nat × TV:=(7,(vO 11 true ((ac2 p x u0 u4 u3).length)))
abbrev aex:List (Nat × Option Ob):=[(11,some (bU 3 1 (au .i64) (ac2 p x u0 u4 u3)))]
abbrev afE:=(IntKind.wrap .i64 ((at' u3 (UN p u0 u4)) - (Gx x u0)))
abbrev aav:=(u3.set (UN p u0 u4) (afE p x u0 u4 u3))
abbrev acG:=(aC (au .i64) (aav p x u0 u4 u3))
abbrev agD:Nat × TV:=(7,(vO 11 true ((aav p x u0 u4 u3).length)))
abbrev aeP:List (Nat × Option Ob):=[(11,some (bU 3 1 (au .i64) (aav p x u0 u4 u3)))]
end
theorem ED (p:ah) (s_:State) (x:ai) {r:Bool} (h:kM p s_ x=some r):Fn Try.prog 130 (Pp p s_ x) [] (vB r) []:=by
 refine fN tT Try.func130 rfl rfl fun B=> ?_
 show bn _ _ _ _ _ _ (eZ r) _
 unfold kM at h
 refine sz tT ⟨[(3,(vP 8 0)),(5,(vP 10 0))],[(MN p),(Nz x)]⟩ {fr:=[(0,8),(1,9),(2,10)] } [] ?_
 refine aQ (aO h fun⟨a1,a2,a3⟩ h=> ?_)
 refine rg tT ⟨[(3,(vP 8 0)),(5,(vP 10 0)),(7,(vO 11 true ((RP p).length)))],(agY p x)⟩ [_,(p.buses:Int)=p.buses,_,_,(RP p).length=p.buses.toNat,aH p.buses.toNat 1 (fun _ j=>[(.int .i64 0)].getD j .nilp) (aC (au .i64) (RP p))] {an:=[(2, .arr (RP p).length (aC (au .i64) (RP p)))],fr:=[(2,11)] } [] ⟨a1,rfl,a2,a3,(List.length_replicate),(dZ _ _ _ _ _ (fun j hj=>(match j,hj with|0,_=>rfl))),trivial⟩ ?_
 refine aQ (sz tT ⟨[(3,(vP 8 0)),(5,(vP 10 0)),(7,(vO 11 true ((RP p).length))),(Uw x),(SS x),(22,(vI 0))],(agY p x)⟩ {} [] ?_)
 refine bE h fun y hy h=> ?_
 refine aL [] (wF p x) (wJ p x) eZ hy (fun s f h=> ?_) ?_
 ·clear hy
  show bn _ _ _ _ _ _ ((EC p x) f) _
  unfold iA at h
  obtain⟨u6,u5⟩:=s
  refine sz tT ⟨[(3,(vP 8 0)),(5,(vP 10 0)),(uK u6),(Uw x),(SS x),(22,(vI u5)),(23,(Ze x u5))],(Qg u6 x p)⟩ {} [] ?_
  refine aQ ?_
  refine bI h (fun hb h=> ?_) (fun hb h=> ?_)
  ·refine ct hb ?_
   refine aP (aQ (aB (aQ (aO h fun a1 h=> ?_))))
   refine rg tT ⟨[(3,(vP 8 0)),(5,(vP 10 0)),(uK u6),(8,(vI u5)),(9,(vI (at' x.sources u5.toNat))),(Uw x),(SS x),(22,(vI u5))],(Qg u6 x p)⟩ [_] {} [] ⟨a1,trivial⟩ ?_
   refine aO h fun⟨a1,a2⟩ h=> ?_
   refine ri tT ⟨(af0 u6 x u5),[(MN p),(Nz x),(11,some (.arr 3 1 u6.length (aaY p x u6 u5)))]⟩ [_,_,_,_,_,aH u6.length 1 (kK (aC (au .i64) u6) (Un p u5) 0 [(.int .i64 (IntKind.wrap .i64 ((at' u6 (Un p u5))+(at' x.sources u5.toNat))))]) (aaY p x u6 u5)] {an:=[(12, .arr 0 (aaY p x u6 u5))] } [] ⟨a1,a2,(tL a2),a2,(tL a2),(bL _ _ _ _ _ _ _ _ rfl (fun j hj=>(match j,hj with|0,_=>rfl))),trivial⟩ (bH.le (st':=⟨[(3,(vP 8 0)),(5,(vP 10 0)),(aer p x u6 u5),(Uw x),(SS x),(22,(vI u5))],(ae6 p x u6 u5)⟩) ⟨⟨tR,tR,⟨_,rfl,dh.v (dX.one cW)⟩,tR,tR,tR,trivial⟩,(hN 2 ⟨rfl,oW,trivial⟩)⟩) ?_
   refine rz tT ⟨[(3,(vP 8 0)),(5,(vP 10 0)),(aer p x u6 u5),(Uw x),(SS x),(22,(k3 u5))],(ae6 p x u6 u5)⟩ {} [] ?_
   obtain rfl:=oi h
   exact lN
  ·refine cf hb ?_
   refine aI (fz (Y0 u6 p x) []) ?_
   refine aX ?_
   obtain rfl:=oi h
   exact lB
 ·clear hy
  cases y with
  |brk z=>
   obtain⟨u8,rfl⟩: ∃q,q=z:=⟨_,rfl⟩
   unfold dA
   refine⟨_, .refl, ?_⟩
   refine aQ (sz tT ⟨[(3,(vP 8 0)),(5,(vP 10 0)),(uK u8),(OD x),(P7 x),(43,(vI 0))],(Qg u8 x p)⟩ {} [] ?_)
   refine bE h fun y1 hy h=> ?_
   refine aL [] (wR p x) (vL p x) eZ hy (fun s f h=> ?_) ?_
   ·clear hy
    show bn _ _ _ _ _ _ ((Ev p x) f) _
    unfold iB at h
    obtain⟨u2,u1⟩:=s
    refine sz tT ⟨[(3,(vP 8 0)),(5,(vP 10 0)),(uK u2),(OD x),(P7 x),(43,(vI u1)),(44,(X7 x u1))],(Qg u2 x p)⟩ {} [] ?_
    refine aQ ?_
    refine bI h (fun hb1 h=> ?_) (fun hb1 h=> ?_)
    ·refine ct hb1 ?_
     refine aP (aQ (aB (aQ (aO h fun a1 h=> ?_))))
     refine rg tT ⟨(afF x u2 u1),(Qg u2 x p)⟩ [_] {} [] ⟨a1,trivial⟩ ?_
     refine aQ (aO h fun⟨a1,a2⟩ h=> ?_)
     refine ri tT ⟨(afF x u2 u1),[(MN p),(Nz x),(11,some (.arr 3 1 u2.length (ZH p x u2 u1)))]⟩ [_,_,_,_,_,aH u2.length 1 (kK (aC (au .i64) u2) (UY u1 p) 0 [(.int .i64 (IntKind.wrap .i64 ((at' u2 (UY u1 p)) - (at' x.links u1.toNat))))]) (ZH p x u2 u1)] {an:=[(12, .arr 0 (ZH p x u2 u1))] } [] ⟨a1,a2,(tL a2),a2,(tL a2),(bL _ _ _ _ _ _ _ _ rfl (fun j hj=>(match j,hj with|0,_=>rfl))),trivial⟩ (bH.le (st':=⟨[(3,(vP 8 0)),(5,(vP 10 0)),(adB p x u2 u1),(10,(vI u1)),(11,(vI (at' x.links u1.toNat))),(OD x),(P7 x),(43,(vI u1))],[(MN p),(Nz x),(11,some (bU 3 1 (au .i64) (Rs p x u2 u1)))]⟩) ⟨⟨tR,tR,⟨_,rfl,dh.v (dX.one cW)⟩,tR,tR,tR,tR,tR,trivial⟩,(hN 2 ⟨rfl,oW,trivial⟩)⟩) ?_
     refine aO h fun⟨a1,a2⟩ h=> ?_
     refine ri tT ⟨[(3,(vP 8 0)),(5,(vP 10 0)),(adB p x u2 u1),(OD x),(P7 x),(43,(vI u1))],[(MN p),(Nz x),(11,some (.arr 3 1 (Rs p x u2 u1).length (aaq p x u2 u1)))]⟩ [_,_,_,_,_,aH (Rs p x u2 u1).length 1 (kK (ZH p x u2 u1) (VD u1 p) 0 [(.int .i64 (ahO p x u2 u1))]) (aaq p x u2 u1)] {an:=[(12, .arr 0 (aaq p x u2 u1))] } [] ⟨a1,a2,(tL a2),a2,(tL a2),(bL _ _ _ _ _ _ _ _ rfl (fun j hj=>(match j,hj with|0,_=>rfl))),trivial⟩ (bH.le (st':=⟨[(3,(vP 8 0)),(5,(vP 10 0)),(afx p x u2 u1),(OD x),(P7 x),(43,(vI u1))],(afj p x u2 u1)⟩) ⟨⟨tR,tR,⟨_,rfl,dh.v (dX.one cW)⟩,tR,tR,tR,trivial⟩,(hN 2 ⟨rfl,oW,trivial⟩)⟩) ?_
     refine rz tT ⟨[(3,(vP 8 0)),(5,(vP 10 0)),(afx p x u2 u1),(OD x),(P7 x),(43,(k3 u1))],(afj p x u2 u1)⟩ {} [] ?_
     obtain rfl:=oi h
     exact lN
    ·refine cf hb1 ?_
     refine aI (fz (Y0 u2 p x) []) ?_
     refine aX ?_
     obtain rfl:=oi h
     exact lB
   ·clear hy
    cases y1 with
    |brk z=>
     obtain⟨u9,rfl⟩: ∃q,q=z:=⟨_,rfl⟩
     unfold dA
     refine⟨_, .refl, ?_⟩
     refine aQ (sz tT ⟨[(aD p),(uK u9),(A8 x),(Bn x),(76,(vI 0))],(DZ u9)⟩ {} [8] ?_)
     refine bE h fun y3 hy h=> ?_
     refine aL [] (vY p x) vZ eZ hy (fun s f h=> ?_) ?_
     ·clear hy
      show bn _ _ _ _ _ _ ((oC p x) f) _
      unfold iJ at h
      obtain⟨u7,u0⟩:=s
      refine sz tT ⟨[(aD p),(uK u7),(A8 x),(Bn x),(76,(vI u0)),(77,(Ui x u0))],(DZ u7)⟩ {} [] ?_
      refine aQ ?_
      refine bI h (fun hb6 h=> ?_) (fun hb6 h=> ?_)
      ·refine ct hb6 ?_
       refine aP (aQ (aB (aQ (aO h fun a1 h=> ?_))))
       refine rg tT ⟨[(aD p),(uK u7),(12,(vI u0)),(Fz x u0),(A8 x),(Bn x),(76,(vI u0))],(DZ u7)⟩ [_] {fr:=[(3,15)] } [15] ⟨a1,trivial⟩ ?_
       refine aQ (aO h fun a1 h=> ?_)
       refine rg tT ⟨(agX p x u7 u0),(DZ u7)⟩ [_] {} [] ⟨a1,trivial⟩ ?_
       refine bE h fun y2 hy h=> ?_
       refine aL [5] (wS p x u0) (wm p x u0) (oC p x) hy (fun s f h=> ?_) ?_
       ·clear hy
        show bn _ _ _ _ _ _ ((Ec p x u0) f) _
        unfold dF at h
        obtain⟨u3,u4⟩:=s
        refine sz tT ⟨[(aD p),(uK u3),(Fz x u0),(A8 x),(Bn x),(76,(vI u0)),(GK u0 p),(87,(vI u4)),(88,(vB (decide (u4<2))))],(DZ u3)⟩ {} [] ?_
        refine aQ ?_
        refine bI h (fun hb5 h=> ?_) (fun hb5 h=> ?_)
        ·refine ct hb5 ?_
         refine aP (aQ (aB (aQ (aO h fun a1 h=> ?_))))
         refine rg tT ⟨[(aD p),(uK u3),(Fz x u0),(14,(vI u4)),(Y3 p u0 u4),(A8 x),(Bn x),(76,(vI u0)),(GK u0 p),(87,(vI u4))],(DZ u3)⟩ [_,u4.toNat*1+1≤(acS u0 p).length,((acS u0 p).drop (u4.toNat*1)).take 1=[(.int .i64 (Wo p u0 u4))].map .d] {an:=[(1, .vals [(.int .i64 (Wo p u0 u4))])] } [] ⟨a1,(Wq (n:=2) (sz:=1) (Nat.le_refl _) a1),(Xd (n:=2) (sz:=1) (g:=fun q=>[(cI (at' [(KZ p u0).e0,(KZ p u0).e1] q))]) (by intro q hq;match q,hq with|0,_=>rfl|1,_=>rfl) a1),trivial⟩ ?_
         refine sz tT ⟨[(aD p),(uK u3),(Fz x u0),(14,(vI u4)),(Y3 p u0 u4),(A8 x),(Bn x),(76,(vI u0)),(GK u0 p),(87,(vI u4)),(acZ p u0 u4)],(DZ u3)⟩ {} [] ?_
         refine bI h (fun hb4 h=> ?_) (fun hb4 h=> ?_)
         ·refine ct hb4 ?_
          refine bI h (fun hb2 h=> ?_) (fun _ h=> ?_)
          ·skip
           refine aI (bH.le (st':=⟨[(aD p),(uK u3),(Fz x u0),(14,(vI 0)),(Y3 p u0 u4),(A8 x),(Bn x),(76,(vI u0)),(GK u0 p),(87,(vI 0)),(acZ p u0 u4)],(DZ u3)⟩) ⟨⟨tR,tR,tR,⟨_,rfl,dh.v (dX.one (dD.of (congrArg (fun n=>CV.d (.int .i64 n)) (of_decide_eq_true hb2))))⟩,tR,tR,tR,tR,tR,⟨_,rfl,dh.v (dX.one (dD.of (congrArg (fun n=>CV.d (.int .i64 n)) (of_decide_eq_true hb2))))⟩,tR,trivial⟩,(.refl _)⟩) ?_
           refine aO h fun a1 h=> ?_
           refine di tT mX ⟨(agX p x u3 u0),[(11,some (.arr 3 1 u3.length (abS p x u0 u4 u3)))]⟩ [_,_,(0:Int)≤0∧(0:Int)<(2:Nat),_,_,aH u3.length 1 (kK (aC (au .i64) u3) (UN p u0 u4) 0 [(.int .i64 (af6 p x u0 u4 u3))]) (abS p x u0 u4 u3)] {an:=[(9, .arr 0 (abS p x u0 u4 u3))] } [] ⟨a1,(tL a1),((by decide)),a1,(tL a1),(bL _ _ _ _ _ _ _ _ rfl (fun j hj=>(match j,hj with|0,_=>rfl))),trivial⟩ (bH.le (st':=⟨[(aD p),(agR p x u0 u4 u3),(Fz x u0),(A8 x),(Bn x),(76,(vI u0)),(GK u0 p),(87,(vI 0))],(aex p x u0 u4 u3)⟩) ⟨⟨tR,⟨_,rfl,dh.v (dX.one cW)⟩,tR,tR,tR,tR,tR,tR,trivial⟩,⟨rfl,oW,trivial⟩⟩) ?_
           refine rz tT ⟨[(aD p),(agR p x u0 u4 u3),(Fz x u0),(A8 x),(Bn x),(76,(vI u0)),(GK u0 p),(87,(vI 1))],(aex p x u0 u4 u3)⟩ {} [] ?_
           obtain rfl:=oi h
           exact lN
          ·skip
           refine aO h fun a1 h=> ?_
           refine aI (bH.le (st':=⟨[(aD p),(uK u3),(Fz x u0),(14,(vI 1)),(Y3 p u0 u4),(A8 x),(Bn x),(76,(vI u0)),(GK u0 p),(87,(vI 1)),(acZ p u0 u4)],(DZ u3)⟩) ⟨⟨tR,tR,tR,⟨_,rfl,dh.v (dX.one (dD.of (congrArg (fun n=>CV.d (.int .i64 n)) a1)))⟩,tR,tR,tR,tR,tR,⟨_,rfl,dh.v (dX.one (dD.of (congrArg (fun n=>CV.d (.int .i64 n)) a1)))⟩,tR,trivial⟩,(.refl _)⟩) ?_
           refine aO h fun a1 h=> ?_
           refine di tT mX ⟨[(aD p),(uK u3),(Fz x u0),(A8 x),(Bn x),(76,(vI u0)),(GK u0 p),(87,(vI 1))],[(11,some (.arr 3 1 u3.length (acG p x u0 u4 u3)))]⟩ [_,_,(0:Int)≤1∧(1:Int)<(2:Nat),_,_,aH u3.length 1 (kK (aC (au .i64) u3) (UN p u0 u4) 0 [(.int .i64 (afE p x u0 u4 u3))]) (acG p x u0 u4 u3)] {an:=[(9, .arr 0 (acG p x u0 u4 u3))] } [] ⟨a1,(tL a1),((by decide)),a1,(tL a1),(bL _ _ _ _ _ _ _ _ rfl (fun j hj=>(match j,hj with|0,_=>rfl))),trivial⟩ (bH.le (st':=⟨[(aD p),(agD p x u0 u4 u3),(Fz x u0),(A8 x),(Bn x),(76,(vI u0)),(GK u0 p),(87,(vI 1))],(aeP p x u0 u4 u3)⟩) ⟨⟨tR,⟨_,rfl,dh.v (dX.one cW)⟩,tR,tR,tR,tR,tR,tR,trivial⟩,⟨rfl,oW,trivial⟩⟩) ?_
           refine rz tT ⟨[(aD p),(agD p x u0 u4 u3),(Fz x u0),(A8 x),(Bn x),(76,(vI u0)),(GK u0 p),(87,(vI 2))],(aeP p x u0 u4 u3)⟩ {} [] ?_
           obtain rfl:=oi h
           exact lN
         ·refine cf hb4 ?_
          refine aP (rz tT ⟨[(aD p),(uK u3),(Fz x u0),(A8 x),(Bn x),(76,(vI u0)),(GK u0 p),(87,(k3 u4))],(DZ u3)⟩ {} [] ?_)
          obtain rfl:=oi h
          exact lN
        ·refine cf hb5 ?_
         refine aI (fz (acW x u3 p u0) []) ?_
         refine aX ?_
         obtain rfl:=oi h
         exact lB
       ·clear hy
        cases y2 with
        |brk z=>
         obtain⟨v0,rfl⟩: ∃q,q=z:=⟨_,rfl⟩
         unfold dA
         refine⟨_, .refl, ?_⟩
         refine rz tT ⟨[(aD p),(uK v0),(A8 x),(Bn x),(76,(k3 u0))],(DZ v0)⟩ {} [] ?_
         obtain rfl:=oi h
         exact lN
        |ret v=>
         obtain rfl:=oi h
         unfold dA
         intro e st hn ha hR
         cases e with
         |normal=>exact absurd rfl hn
         |exit id=>simp only [qX (b:=5) ha rfl,cond_false];exact hR
         |goto l=>exact hR
         |ret=>exact hR
         |panic c=>exact hR
         |outgrown=>exact hR
      ·refine cf hb6 ?_
       refine aI (fz ⟨[(uK u7)],(DZ u7)⟩ []) ?_
       refine aX ?_
       obtain rfl:=oi h
       exact lB
     ·clear hy
      cases y3 with
      |brk z=>
       obtain⟨v1,rfl⟩: ∃q,q=z:=⟨_,rfl⟩
       unfold dA
       refine⟨_, .refl, ?_⟩
       refine aQ (bE h fun r_ hr_ h=> ?_)
       have q0:=rk [(0,11)] (rF v1 hr_)
       refine rg tT ⟨[(6,(vB (!r_)))],[]⟩ [_] {an:=[(1,cR q0 [11])] } [] ⟨q0,trivial⟩ ?_
       refine aR ?_
       obtain rfl:=oi h
       exact rl [(sB (!r_))]
      |ret v=>
       obtain rfl:=oi h
       unfold dA
       intro e st hn ha hR
       cases e with
       |normal=>exact absurd rfl hn
       |exit id=>exact hR
       |goto l=>exact hR
       |ret=>exact hR
       |panic c=>exact hR
       |outgrown=>exact hR
    |ret v=>
     obtain rfl:=oi h
     unfold dA
     intro e st hn ha hR
     cases e with
     |normal=>exact absurd rfl hn
     |exit id=>exact hR
     |goto l=>exact hR
     |ret=>exact hR
     |panic c=>exact hR
     |outgrown=>exact hR
  |ret v=>
   obtain rfl:=oi h
   unfold dA
   intro e st hn ha hR
   cases e with
   |normal=>exact absurd rfl hn
   |exit id=>exact hR
   |goto l=>exact hR
   |ret=>exact hR
   |panic c=>exact hR
   |outgrown=>exact hR
def Ba  :Int→Exit→St→Prop:=
  fun r=>aW TT [.tmp 6] (vI r) []
section
variable (p:ah) (s_:State) (x:ai) (r_:Int)
abbrev ace:St:=⟨[(aD p),(aK s_),(cK x),(7,(vI r_))],[]⟩
abbrev YF:=(!decide ((x.sources.length:Int)=(p.sources.length:Int)))
abbrev Yt:=(bif (YF p x)then true else(!decide ((x.links.length:Int)=(p.links.length:Int))))
abbrev agk:TV:=(vB (bif (Yt p x)then true else(!decide ((x.racks.length:Int)=(p.racks.length:Int)))))
abbrev aef:=(eqs (YF p x) 8 (eqs (Yt p x) 8 []))
abbrev F9:List (Nat × Option Ob):=[(10,some aax)]
end
theorem p8 (p:ah) (s_:State) (x:ai) {r:Int} (h:fA p s_ x=some r):Fn Try.prog 48 (Pp p s_ x) [] (vI r) []:=by
 refine fN tT Try.func48 rfl rfl fun B=> ?_
 show bn _ _ _ _ _ _ (Ba r) _
 unfold fA at h
 refine sz tT (Li p s_ x) {fr:=[(0,7),(1,8),(2,9)] } [7,8,9] ?_
 refine aQ (aQ (bE h fun r_ hr_ h=> ?_))
 have q0:=fE p s_ hr_
 refine rg tT (ace p s_ x r_) [_] {an:=[(2,cA q0 [])] } [] ⟨q0,trivial⟩ ?_
 refine sz tT ⟨[(aD p),(aK s_),(cK x),(7,(vI r_)),(14,(vB (!decide (r_=0))))],[]⟩ {} [] ?_
 refine bI h (fun hb4 h=> ?_) (fun hb4 h=> ?_)
 ·refine ct hb4 ?_
  refine sz tT ⟨[(6,(vI r_))],[]⟩ {} [] ?_
  refine aR ?_
  obtain rfl:=oi h
  exact rl [(sI r_)]
 ·refine cf hb4 ?_
  refine aP (aQ (sg tT ⟨[(aD p),(aK s_),(cK x),(40,(agk p x))],[]⟩ (aef p x) {yb:=[(7,(YF p x)),(16,(Yt p x))] } [] (ae (ae trivial)) ?_))
  refine bI h (fun hb3 h=> ?_) (fun hb3 h=> ?_)
  ·refine ct hb3 ?_
   refine sz tT ⟨[(6,(vI 20))],[]⟩ {} [] ?_
   refine aR ?_
   obtain rfl:=oi h
   exact rl [(sI 20)]
  ·refine cf hb3 ?_
   refine aP (aQ (aQ (bE h fun u3 hr_1 h=> ?_)))
   have q0:=rk [(0,10)] (Eu hr_1)
   refine rg tT ⟨[(aD p),(aK s_),(cK x),(41,(vO 10 true 3)),(42,(vI (3:Int))),(43,(vI 0))],F9⟩ [_] {an:=[(0,cA q0 [])] } [] ⟨q0,trivial⟩ ?_
   refine aB (TQ 12 (zV 11 (sz tT ⟨[(aD p),(aK s_),(cK x),(41,(vO 10 true 3)),(42,(vI (3:Int))),(43,(vI 0)),(44,(vB true))],F9⟩ {} [] ?_)))
   refine aQ (ck (aP (aQ (aB (aQ (aO h fun a1 h=> ?_))))))
   refine rg tT ⟨[(aD p),(aK s_),(cK x),(9,(vD (l8 [(.fn 128 0 (nV []))] 0))),(41,(vO 10 true 3)),(42,(vI (3:Int))),(43,(vI 0))],F9⟩ [_] {fr:=[(2,11)] } [11] ⟨a1,trivial⟩ ?_
   refine aQ (bE h fun u0 hr_2 h=> ?_)
   have q0:=F8 p s_ x hr_2
   refine rg tT ⟨[(aD p),(aK s_),(cK x),(41,(vO 10 true 3)),(42,(vI (3:Int))),(43,(vI 0)),(53,(vB (!u0)))],F9⟩ [_] {an:=[(5,cA q0 [])] } [] ⟨q0,trivial⟩ ?_
   refine bI h (fun hb2 h=> ?_) (fun hb2 h=> ?_)
   ·refine ct hb2 ?_
    refine sz tT ⟨[(6,(vI 20))],[]⟩ {} [] ?_
    refine aR ?_
    obtain rfl:=oi h
    exact rl [(sI 20)]
   ·refine cf hb2 ?_
    refine aP (rz tT ⟨[(aD p),(aK s_),(cK x),(41,(vO 10 true 3)),(42,(vI (3:Int))),(43,(vI 1))],F9⟩ {} [] ?_)
    refine zV 10 (sz tT ⟨[(aD p),(aK s_),(cK x),(41,(vO 10 true 3)),(42,(vI (3:Int))),(43,(vI 1)),(44,(vB true))],F9⟩ {} [] ?_)
    refine aQ (ck (aP (aQ (aB (aQ (aO h fun a1 h=> ?_))))))
    refine rg tT ⟨[(aD p),(aK s_),(cK x),(9,(vD (l8 [(.fn 129 0 (nV []))] 0))),(41,(vO 10 true 3)),(42,(vI (3:Int))),(43,(vI 1))],F9⟩ [_] {fr:=[(2,12)] } [12] ⟨a1,trivial⟩ ?_
    refine aQ (bE h fun u1 hr_3 h=> ?_)
    have q0:=IL p s_ x hr_3
    refine rg tT ⟨[(aD p),(aK s_),(cK x),(41,(vO 10 true 3)),(42,(vI (3:Int))),(43,(vI 1)),(53,(vB (!u1)))],F9⟩ [_] {an:=[(5,cA q0 [])] } [] ⟨q0,trivial⟩ ?_
    refine bI h (fun hb1 h=> ?_) (fun hb1 h=> ?_)
    ·refine ct hb1 ?_
     refine sz tT ⟨[(6,(vI 20))],[]⟩ {} [] ?_
     refine aR ?_
     obtain rfl:=oi h
     exact rl [(sI 20)]
    ·refine cf hb1 ?_
     refine aP (rz tT ⟨[(aD p),(aK s_),(cK x),(41,(vO 10 true 3)),(42,(vI (3:Int))),(43,(vI 2))],F9⟩ {} [] ?_)
     refine zV 9 (sz tT ⟨[(aD p),(aK s_),(cK x),(41,(vO 10 true 3)),(42,(vI (3:Int))),(43,(vI 2)),(44,(vB true))],F9⟩ {} [] ?_)
     refine aQ (ck (aP (aQ (aB (aQ (aO h fun a1 h=> ?_))))))
     refine rg tT ⟨[(aD p),(aK s_),(cK x),(9,(vD (l8 [(.fn 130 0 (nV []))] 0))),(41,(vO 10 true 3)),(42,(vI (3:Int))),(43,(vI 2))],F9⟩ [_] {fr:=[(2,13)] } [13] ⟨a1,trivial⟩ ?_
     refine aQ (bE h fun u2 hr_4 h=> ?_)
     have q0:=ED p s_ x hr_4
     refine rg tT ⟨[(aD p),(aK s_),(cK x),(41,(vO 10 true 3)),(42,(vI (3:Int))),(43,(vI 2)),(53,(vB (!u2)))],F9⟩ [_] {an:=[(5,cA q0 [])] } [] ⟨q0,trivial⟩ ?_
     refine bI h (fun hb h=> ?_) (fun hb h=> ?_)
     ·refine ct hb ?_
      refine sz tT ⟨[(6,(vI 20))],[]⟩ {} [] ?_
      refine aR ?_
      obtain rfl:=oi h
      exact rl [(sI 20)]
     ·refine cf hb ?_
      refine aP (rz tT ⟨[(aD p),(aK s_),(cK x),(41,(vO 10 true 3)),(42,(vI (3:Int))),(43,(vI 3))],F9⟩ {} [] ?_)
      refine zV 8 (sz tT ⟨[(aD p),(aK s_),(cK x),(41,(vO 10 true 3)),(42,(vI (3:Int))),(43,(vI 3)),(44,(vB false))],F9⟩ {} [] ?_)
      refine aQ (cn (aX (sz tT ⟨[(6,(vI 0))],[]⟩ {} [] ?_)))
      refine aR ?_
      obtain rfl:=oi h
      exact rl [(sI 0)]
def Hz  :Int→Exit→St→Prop:=
  fun r=>aW TT [.tmp 8] (vI r) []
section
variable (p:ah) (s_:State) (x:ai) (u1:(List Bool)) (r_:Int)
abbrev YS:List SV:=[(.agg (k7 p)),(.agg (JR s_)),(.agg (XF x)),(sD (aU none 1 aj u1))]
abbrev MO:Nat × TV:=(3,(vD (aU none 1 aj u1)))
abbrev M0:Nat × TV:=(4,(k10 p))
abbrev Na:Nat × TV:=(5,(ZA s_))
abbrev Ko:Nat × TV:=(6,(ZI x))
abbrev ack:St:=⟨[(MO u1),(M0 p),(Na s_),(Ko x)],[]⟩
abbrev ae7:St:=⟨[(MO u1),(M0 p),(Na s_),(Ko x),(9,(vI r_))],[]⟩
end
theorem iY (p:ah) (s_:State) (x:ai) (u1:(List Bool)) {r:Int} (h:fq p s_ x u1=some r):Fn Try.prog 49 (YS p s_ x u1) [] (vI r) []:=by
 refine fN tT Try.func49 rfl rfl fun B=> ?_
 show bn _ _ _ _ _ _ (Hz r) _
 unfold fq at h
 refine sz tT (ack p s_ x u1) {fr:=[(0,3),(1,4),(2,5)] } [3,4,5] ?_
 refine aQ (aQ (bE h fun r_ hr_ h=> ?_))
 have q0:=p8 p s_ x hr_
 refine rg tT (ae7 p s_ x u1 r_) [_] {an:=[(3,cA q0 [])] } [] ⟨q0,trivial⟩ ?_
 refine sz tT ⟨[(MO u1),(M0 p),(Na s_),(Ko x),(9,(vI r_)),(17,(vB (!decide (r_=0))))],[]⟩ {} [] ?_
 refine bI h (fun hb1 h=> ?_) (fun hb1 h=> ?_)
 ·refine ct hb1 ?_
  refine sz tT ⟨[(8,(vI r_))],[]⟩ {} [] ?_
  refine aR ?_
  obtain rfl:=oi h
  exact rl [(sI r_)]
 ·refine cf hb1 ?_
  refine aP (aQ (bE h fun u0 hr_1 h=> ?_))
  have q0:=oG p s_ u1 hr_1
  refine rg tT ⟨[(Ko x),(10,(vI u0.1)),(11,(vI u0.2))],[]⟩ [_] {an:=[(3,cA q0 [])] } [] ⟨q0,trivial⟩ ?_
  refine aQ (aQ (bE h fun u2 hr_2 h=> ?_))
  refine rg tT ⟨[(11,(vI u0.2)),(33,(vB (bif (decide (u0.2=0))then(!decide (u0.1=u2))else false)))],[]⟩ (eqs (decide (u0.2=0)) 3 ((gP (fQ [(2,(decide (u0.2=0)))]) [(2,true)]→All [Fn Try.prog 41 (VI x) [] (vI u2) []])::(eqs (decide (u0.2=0)) 2 []))) {yb:=[(2,(decide (u0.2=0)))],an:=[(5, .call [] (vI u2) [])] } [] (ae ⟨(fun hg=> ⟨(dP x (dU hr_2 (aM hg))),trivial⟩),(ae trivial)⟩) ?_
  refine bI h (fun hb h=> ?_) (fun hb h=> ?_)
  ·refine ct hb ?_
   refine rz tT ⟨[(11,(vI 7))],[]⟩ {} [] ?_
   refine sz tT ⟨[(8,(vI 7))],[]⟩ {} [] ?_
   refine aR ?_
   obtain rfl:=oi h
   exact rl [(sI 7)]
  ·refine cf hb ?_
   refine aP (sz tT ⟨[(8,(vI u0.2))],[]⟩ {} [] ?_)
   refine aR ?_
   obtain rfl:=oi h
   exact rl [(sI u0.2)]
def qO  :Bool→Exit→St→Prop:=
  fun r=>aW TT [.tmp 4] (vB r) []
def yh (a:(List Int)) (b:(List Int)):Int→St:=
  fun i=> ⟨[(jk a),(CX b),(5,(vI i))],[]⟩
def xE  :Unit→St:=
  fun _=> ⟨[],[]⟩
def Fw (a:(List Int)) (b:(List Int)):(aJ Int (Ex Unit Bool))→Exit→St→Prop:=
  LQ 0 [] (yh a b) xE qO
theorem dz (a:(List Int)) (b:(List Int)) {r:Bool} (h:dK a b=some r):Fn Try.prog 54 [(sD (vk a)),(sD (vk b))] [] (vB r) []:=by
 refine fN tT Try.func54 rfl rfl fun B=> ?_
 show bn _ _ _ _ _ _ (qO r) _
 unfold dK at h
 refine sz tT (Yc a b) {} [] ?_
 refine aQ (sz tT ⟨[(jk a),(CX b),(10,(vB (!decide ((a.length:Int)=(b.length:Int)))))],[]⟩ {} [] ?_)
 refine bI h (fun hb2 h=> ?_) (fun hb2 h=> ?_)
 ·refine ct hb2 ?_
  refine sz tT ⟨[(4,(vB false))],[]⟩ {} [] ?_
  refine aR ?_
  obtain rfl:=oi h
  exact rl [(sB false)]
 ·refine cf hb2 ?_
  refine aP (aQ (sz tT ⟨[(jk a),(CX b),(5,(vI 0))],[]⟩ {} [] ?_))
  refine bE h fun y hy h=> ?_
  refine aL [] (yh a b) xE qO hy (fun s f h=> ?_) ?_
  ·clear hy
   show bn _ _ _ _ _ _ ((Fw a b) f) _
   unfold xS at h
   obtain⟨i,rfl⟩: ∃q,q=s:=⟨_,rfl⟩
   refine aQ (sz tT ⟨[(jk a),(CX b),(5,(vI i)),(14,(Xg i a))],[]⟩ {} [] ?_)
   refine bI h (fun hb1 h=> ?_) (fun hb1 h=> ?_)
   ·refine ct hb1 ?_
    refine aP (aQ (aB (aQ (aO h fun⟨a1,a2⟩ h=> ?_))))
    refine dg tT mX ⟨[(jk a),(CX b),(5,(vI i)),(25,(vB (!decide ((at' a i.toNat)=(at' b i.toNat)))))],[]⟩ [_,_] {} [] ⟨a1,a2,trivial⟩ ?_
    refine bI h (fun hb h=> ?_) (fun hb h=> ?_)
    ·refine ct hb ?_
     refine sz tT ⟨[(4,(vB false))],[]⟩ {} [] ?_
     refine aR ?_
     obtain rfl:=oi h
     exact lR bD (bC 0) bG (aW.mk (.inr rfl) (p:=[]) (l:=[(sB false)]) (by kernel_rfl) trivial (dh.refl _) trivial)
    ·refine cf hb ?_
     refine aP (rz tT ⟨[(jk a),(CX b),(k2 i)],[]⟩ {} [] ?_)
     obtain rfl:=oi h
     exact lN
   ·refine cf hb1 ?_
    refine aI (fz ⟨[],[]⟩ []) ?_
    refine aX ?_
    obtain rfl:=oi h
    exact lB
  ·clear hy
   cases y with
   |brk z=>
    unfold dA
    refine⟨_, .refl, ?_⟩
    refine sz tT ⟨[(4,(vB true))],[]⟩ {} [] ?_
    refine aR ?_
    obtain rfl:=oi h
    exact rl [(sB true)]
   |ret v=>
    obtain rfl:=oi h
    unfold dA
    intro e st hn ha hR
    cases e with
    |normal=>exact absurd rfl hn
    |exit id=>exact hR
    |goto l=>exact hR
    |ret=>exact hR
    |panic c=>exact hR
    |outgrown=>exact hR
def mG  :Bool→Exit→St→Prop:=
  fun r=>aW TT [.tmp 4] (vB r) []
section
variable (a:(List Short))
abbrev Qr:Nat × TV:=(0,(vD (aU none 4 Short.cell a)))
end
def qx (a:(List Short)) (b:(List Short)):Int→St:=
  fun i=> ⟨[(Qr a),(I6 b),(5,(vI i))],[]⟩
def qw  :Unit→St:=
  fun _=> ⟨[],[]⟩
def Bh (a:(List Short)) (b:(List Short)):(aJ Int (Ex Unit Bool))→Exit→St→Prop:=
  LQ 0 [] (qx a b) qw mG
end
end Sg
