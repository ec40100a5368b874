import Derived.Test.YtpndenfhglaikaaW1
set_option linter.all false
namespace Sg
open Go Go.Proofs
set_option maxRecDepth 20000
noncomputable section
section
variable (a:(List aA)) (i:Int) (b:(List aA))
abbrev UK:=(!decide (((at' a i.toNat).source)=((at' b i.toNat).source)))
abbrev UA:=(bif (UK a i b)then true else(!decide (((at' a i.toNat).bU)=((at' b i.toNat).bU))))
abbrev R3:=(bif (UA a i b)then true else(!decide (((at' a i.toNat).amps)=((at' b i.toNat).amps))))
abbrev RJ:=(jq [(11,(UK a i b)),(24,(UA a i b)),(37,(R3 a i b))])
end
theorem dH (a:(List aA)) (b:(List aA)) {r:Bool} (h:gV a b=some r):Fn Try.prog 52 [(sD (bg none 4 aA.cell a)),(sD (bg none 4 aA.cell b))] [] (vB r) []:=by
 refine fN tT Try.func52 rfl rfl fun B=> ?_
 show bW _ _ _ _ _ _ (nC r) _
 unfold gV at h
 refine sz tT ⟨[(Rp a),(Jm b)],[]⟩ {} [] ?_
 refine aQ (sz tT ⟨[(Rp a),(Jm b),(10,(vB (!decide ((a.length:Int)=(b.length:Int)))))],[]⟩ {} [] ?_)
 refine bI h (fun hb2 h=> ?_) (fun hb2 h=> ?_)
 ·refine ct hb2 ?_
  refine sz tT ⟨[(4,(vB false))],[]⟩ {} [] ?_
  refine aR ?_
  obtain rfl:=oi h
  exact rl [(sB false)]
 ·refine cf hb2 ?_
  refine aP (aQ (sz tT ⟨[(Rp a),(Jm b),(5,(vI 0))],[]⟩ {} [] ?_))
  refine bE h fun y hy h=> ?_
  refine aL [] (qO a b) qX nC hy (fun s f h=> ?_) ?_
  ·clear hy
   show bW _ _ _ _ _ _ ((BH a b) f) _
   unfold qW at h
   obtain⟨i,rfl⟩: ∃q,q=s:=⟨_,rfl⟩
   refine aQ (sz tT ⟨[(Rp a),(Jm b),(5,(vI i)),(14,(vB (decide (i<(a.length:Int)))))],[]⟩ {} [] ?_)
   refine bI h (fun hb1 h=> ?_) (fun hb1 h=> ?_)
   ·refine ct hb1 ?_
    refine aP (aQ (aB (aQ (bE h fun r_ hr_ h=> ?_))))
    refine aO h fun⟨a1,a2,a3,a4,a5,a6,a7,a8⟩ h=> ?_
    refine dg tT mX ⟨[(Rp a),(Jm b),(5,(vI i)),(67,(vB (bif (R3 a i b)then true else(!r_))))],[]⟩ (_::_::(eqs (UK a i b) 3 ((gP (RJ a i b) [(11,false)]→All [(0:Int)≤i∧i<(a.length:Int)])::(eqs (UK a i b) 5 ((gP (RJ a i b) [(11,false)]→All [(0:Int)≤i∧i<(b.length:Int)])::(eqs (UK a i b) 4 (eqs (UA a i b) 3 ((gP (RJ a i b) [(24,false)]→All [(0:Int)≤i∧i<(a.length:Int)])::(eqs (UA a i b) 5 ((gP (RJ a i b) [(24,false)]→All [(0:Int)≤i∧i<(b.length:Int)])::(eqs (UA a i b) 4 (eqs (R3 a i b) 3 ((gP (RJ a i b) [(37,false)]→All [(0:Int)≤i∧i<(a.length:Int)])::(eqs (R3 a i b) 5 ((gP (RJ a i b) [(37,false)]→All [(0:Int)≤i∧i<(b.length:Int)])::(eqs (R3 a i b) 3 ((gP (RJ a i b) [(37,false)]→All [Fn Try.prog 54 [(sD (Y8 a i)),(sD (Y8 b i))] [] (vB r_) []])::(eqs (R3 a i b) 2 [])))))))))))))))))) {yb:=[(11,(UK a i b)),(24,(UA a i b)),(37,(R3 a i b))],an:=[(48, .call [] (vB r_) [])] } [] ⟨a1,a2,(ae ⟨(fun hg=> ⟨(a3 (bD hg)),trivial⟩),(ae ⟨(fun hg=> ⟨(a4 (bD hg)),trivial⟩),(ae (ae ⟨(fun hg=> ⟨(a5 (bD hg)),trivial⟩),(ae ⟨(fun hg=> ⟨(a6 (bD hg)),trivial⟩),(ae (ae ⟨(fun hg=> ⟨(a7 (bD hg)),trivial⟩),(ae ⟨(fun hg=> ⟨(a8 (bD hg)),trivial⟩),(ae ⟨(fun hg=> ⟨(dX ((at' a i.toNat).af) ((at' b i.toNat).af) (iw hr_ (bD hg))),trivial⟩),(ae trivial)⟩)⟩)⟩))⟩)⟩))⟩)⟩)⟩ ?_
    refine bI h (fun hb h=> ?_) (fun hb h=> ?_)
    ·refine ct hb ?_
     refine sz tT ⟨[(4,(vB false))],[]⟩ {} [] ?_
     refine aR ?_
     obtain rfl:=oi h
     exact lR dP (dQ 0) dO (bR.mk (.inr rfl) (p:=[]) (l:=[(sB false)]) (by kernel_rfl) trivial (dY.refl _) trivial)
    ·refine cf hb ?_
     refine aP (rz tT ⟨[(Rp a),(Jm b),(k2 i)],[]⟩ {} [] ?_)
     obtain rfl:=oi h
     exact lN
   ·refine cf hb1 ?_
    refine aI (fz ⟨[],[]⟩ []) ?_
    refine aX ?_
    obtain rfl:=oi h
    exact lB
  ·clear hy
   cases y with
   |brk z=>
    unfold fT
    refine⟨_, .refl, ?_⟩
    refine sz tT ⟨[(4,(vB true))],[]⟩ {} [] ?_
    refine aR ?_
    obtain rfl:=oi h
    exact rl [(sB true)]
   |ret v=>
    obtain rfl:=oi h
    unfold fT
    intro e st hn ha hR
    cases e with
    |normal=>exact absurd rfl hn
    |exit id=>exact hR
    |goto l=>exact hR
    |ret=>exact hR
    |panic c=>exact hR
    |outgrown=>exact hR
def mZ (u0:(List Int)):(au × ay)→Exit→St→Prop:=
  fun r=>bR TT [.cell 2 26, .cell 3 29] (.iG [(.agg [(cI r.1.ax),(.d (bg none 5 aj.cell r.1.ai)),(.d (bg none 6 aM.cell r.1.af)),(.d (bg none 4 aK.cell r.1.aF))]),(.agg [(.d (bg none 1 aD r.2.bK)),(.d (bg none 1 aD r.2.fe)),(.d (bg none 1 aD r.2.bG)),(.d (bg none 1 aD r.2.on_)),(.d (bg none 1 aD r.2.bL)),(.d (bg none 1 aD r.2.fq)),(.d (bg none 1 aD r.2.aG))])]) (wJ u0)
section
variable (u0:(List Int)) (p3:(List aK))
abbrev Nh:Nat × Option Ob:=(21,some (.cells 26 [(cI 0),(.d nS),(.d nS),(.d nS)]))
abbrev Oc:Nat × Option Ob:=(22,some (.cells 29 [(.d nS),(.d nS),(.d nS),(.d nS),(.d nS),(.d nS),(.d nS)]))
abbrev Qp:Nat × Option Ob:=(23,some (dK 126 5 aj.cell [(⟨0,1,500,0,20⟩:aj),(⟨2,2,300,0,40⟩:aj)]))
abbrev QH:Nat × Option Ob:=(24,some (dK 53 6 aM.cell [(⟨0,1,3,400,10,([]:List ic)⟩:aM),(⟨1,2,3,400,10,([]:List ic)⟩:aM)]))
abbrev Yj:List (Nat × Option Ob):=[(GZ u0),Nh,Oc,Qp,QH,(25,some (.cells 26 [(cI 3),(.own 23 true ([(⟨0,1,500,0,20⟩:aj),(⟨2,2,300,0,40⟩:aj)].length)),(.own 24 true ([(⟨0,1,3,400,10,([]:List ic)⟩:aM),(⟨1,2,3,400,10,([]:List ic)⟩:aM)].length)),(.own 27 false p3.length)])),(27,some (dK 166 4 aK.cell p3))]
end
def qP (u0:(List Int)):((List aK) × Int)→St:=
  fun zz=>match zz with|(p3,i)=> ⟨[(Ec u0),(2,(vP 21 0)),(3,(vP 22 0)),(4,(vP 25 0)),(5,(vI i))],(Yj u0 p3)⟩
section
variable (u1:(List Int)) (u0:(List aK))
abbrev afn:St:=⟨[(2,(vP 21 0)),(3,(vP 22 0)),(4,(vP 25 0))],(Yj u1 u0)⟩
end
def qM (u1:(List Int)):(List aK)→St:=
  fun u0=>(afn u1 u0)
def BR (u0:(List Int)):(bn ((List aK) × Int) (Ex (List aK) (au × ay)))→Exit→St→Prop:=
  LQ 0 [] (qP u0) (qM u0) (mZ u0)
section
variable (u0:(List Int)) (i:Int) (p3:(List aK))
abbrev agP:List CV:=[(cI 3),(.own 23 true ([(⟨0,1,500,0,20⟩:aj),(⟨2,2,300,0,40⟩:aj)].length)),(.own 24 true ([(⟨0,1,3,400,10,([]:List ic)⟩:aM),(⟨1,2,3,400,10,([]:List ic)⟩:aM)].length)),(.d nS)]
abbrev af2:Nat × Option Ob:=(25,some (.cells 26 agP))
abbrev ado:List (Nat × Option Ob):=[(GZ u0),Nh,Oc,Qp,QH,af2]
abbrev X8:List (Nat × TV):=[(Ec u0),(2,(vP 21 0)),(3,(vP 22 0)),(4,(vP 25 0)),(5,(vI 0))]
abbrev U4:=(⟨(⟨1,(-1)⟩:ah),(at' u0 i.toNat),1⟩:aK)
abbrev PG:=(p3++[(U4 u0 i)])
abbrev ah9:List (Nat × Option Ob):=[(GZ u0),Nh,Oc,Qp,QH,(25,some (.cells 26 [(cI 3),(.own 23 true ([(⟨0,1,500,0,20⟩:aj),(⟨2,2,300,0,40⟩:aj)].length)),(.own 24 true ([(⟨0,1,3,400,10,([]:List ic)⟩:aM),(⟨1,2,3,400,10,([]:List ic)⟩:aM)].length)),(.own 33 false ((PG u0 i p3).length))])),(33,some (dK 166 4 aK.cell (PG u0 i p3)))]
abbrev aaE:=(aN aK.cell [(U4 u0 i)])
abbrev adm:List (Nat × TV):=[(Ec u0),(2,(vP 21 0)),(3,(vP 22 0)),(4,(vP 25 0)),(k2 i)]
abbrev ahU:DV:=(bg (some true) 5 aj.cell [(⟨0,1,500,0,20⟩:aj),(⟨2,2,300,0,40⟩:aj)])
abbrev ag6:DV:=(bg (some true) 6 aM.cell [(⟨0,1,3,400,10,([]:List ic)⟩:aM),(⟨1,2,3,400,10,([]:List ic)⟩:aM)])
abbrev XV:DV:=(bg (some true) 1 aD [true,true])
abbrev Vb:DV:=(bg (some true) 1 aD (List.replicate 2 (false:Bool)))
abbrev Y5:DV:=(bg (some true) 1 aD (List.replicate 3 (false:Bool)))
abbrev ae4:DV:=(bg none 5 aj.cell [(⟨0,1,500,0,20⟩:aj),(⟨2,2,300,0,40⟩:aj)])
abbrev afN:DV:=(bg none 6 aM.cell [(⟨0,1,3,400,10,([]:List ic)⟩:aM),(⟨1,2,3,400,10,([]:List ic)⟩:aM)])
abbrev UI:DV:=(bg none 1 aD (List.replicate 2 (false:Bool)))
abbrev YT:DV:=(bg none 1 aD (List.replicate 3 (false:Bool)))
end
theorem qZ (u0:(List Int)) {r:(au × ay)} (h:oN u0=some r):Fn Try.prog 73 [(.one (.own 0 true u0.length))] (wJ u0) (.iG [(.agg [(cI r.1.ax),(.d (bg none 5 aj.cell r.1.ai)),(.d (bg none 6 aM.cell r.1.af)),(.d (bg none 4 aK.cell r.1.aF))]),(.agg [(.d (bg none 1 aD r.2.bK)),(.d (bg none 1 aD r.2.fe)),(.d (bg none 1 aD r.2.bG)),(.d (bg none 1 aD r.2.on_)),(.d (bg none 1 aD r.2.bL)),(.d (bg none 1 aD r.2.fq)),(.d (bg none 1 aD r.2.aG))])]) (wJ u0):=by
 refine fN tT Try.func73 rfl rfl fun B=> ?_
 show bW _ _ _ _ _ _ ((mZ u0) r) _
 unfold oN at h
 refine sz tT ⟨[(Ec u0),(2,(vP 21 0)),(3,(vP 22 0))],[(GZ u0),Nh,Oc]⟩ {fr:=[(0,21),(1,22)] } [] ?_
 refine si tT ⟨[(Ec u0),(2,(vP 21 0)),(3,(vP 22 0)),(4,(vP 25 0))],[(GZ u0),Nh,Oc,Qp,(24,some (.arr 53 6 [(⟨0,1,3,400,10,([]:List ic)⟩:aM),(⟨1,2,3,400,10,([]:List ic)⟩:aM)].length (jf 6 [(.int .i64 0),(.int .i64 1),(.int .i64 3),(.int .i64 400),(.int .i64 10),nS,(.int .i64 1),(.int .i64 2),(.int .i64 3),(.int .i64 400),(.int .i64 10),nS]))),af2]⟩ [[(⟨0,1,500,0,20⟩:aj),(⟨2,2,300,0,40⟩:aj)].length=2,aY 2 5 (jf 5 [(.int .i64 0),(.int .i64 1),(.int .i64 500),(.int .i64 0),(.int .i64 20),(.int .i64 2),(.int .i64 2),(.int .i64 300),(.int .i64 0),(.int .i64 40)]) (aN aj.cell [(⟨0,1,500,0,20⟩:aj),(⟨2,2,300,0,40⟩:aj)]),[(⟨0,1,3,400,10,([]:List ic)⟩:aM),(⟨1,2,3,400,10,([]:List ic)⟩:aM)].length=2,aY 2 6 (jf 6 [(.int .i64 0),(.int .i64 1),(.int .i64 3),(.int .i64 400),(.int .i64 10),nS,(.int .i64 1),(.int .i64 2),(.int .i64 3),(.int .i64 400),(.int .i64 10),nS]) (jf 6 [(.int .i64 0),(.int .i64 1),(.int .i64 3),(.int .i64 400),(.int .i64 10),nS,(.int .i64 1),(.int .i64 2),(.int .i64 3),(.int .i64 400),(.int .i64 10),nS])] {an:=[(2, .arr [(⟨0,1,500,0,20⟩:aj),(⟨2,2,300,0,40⟩:aj)].length (aN aj.cell [(⟨0,1,500,0,20⟩:aj),(⟨2,2,300,0,40⟩:aj)])),(5, .arr [(⟨0,1,3,400,10,([]:List ic)⟩:aM),(⟨1,2,3,400,10,([]:List ic)⟩:aM)].length (jf 6 [(.int .i64 0),(.int .i64 1),(.int .i64 3),(.int .i64 400),(.int .i64 10),nS,(.int .i64 1),(.int .i64 2),(.int .i64 3),(.int .i64 400),(.int .i64 10),nS]))],fr:=[(2,23),(5,24),(7,25)] } [] ⟨(rfl),((by intro i hi j hj;match i,j,hi,hj with|0,0,_,_=>rfl|0,1,_,_=>rfl|0,2,_,_=>rfl|0,3,_,_=>rfl|0,4,_,_=>rfl|1,0,_,_=>rfl|1,1,_,_=>rfl|1,2,_,_=>rfl|1,3,_,_=>rfl|1,4,_,_=>rfl)),(rfl),(gN _ _ _),trivial⟩ (bZ.le (st':=⟨[(Ec u0),(2,(vP 21 0)),(3,(vP 22 0)),(4,(vP 25 0))],(ado u0)⟩) ⟨⟨tR,tR,tR,tR,trivial⟩,(hN 4 ⟨rfl,Sv (by intro i hi j hj;match i,j,hi,hj with|0,0,_,_=>exact .refl _|0,1,_,_=>exact .refl _|0,2,_,_=>exact .refl _|0,3,_,_=>exact .refl _|0,4,_,_=>exact .refl _|0,5,_,_=>exact gX.nil'|1,0,_,_=>exact .refl _|1,1,_,_=>exact .refl _|1,2,_,_=>exact .refl _|1,3,_,_=>exact .refl _|1,4,_,_=>exact .refl _|1,5,_,_=>exact gX.nil'),(.refl _)⟩)⟩) ?_
 refine aQ (sz tT ⟨(X8 u0),(ado u0)⟩ {} [] ?_)
 refine bE h fun y hy h=> ?_
 refine aI (.trans (bZ.AQ (E:=0) (esz:=0) (E0:=26) (cs:=agP) (p:=25) (q:=3) (b:=34) (esz0:=0) (el0:=fun _ _=> .nilp) (ob:= .arr 166 4 0 (aN aK.cell ([]:List aK))) (fun _ _ _ _ h=> .inl ⟨h,rfl⟩) (by kernel_rfl) (by kernel_rfl) (by kernel_rfl)) (.trans (fz ⟨(X8 u0),[(GZ u0),Nh,Oc,Qp,QH,(25,some (.cells 26 [(cI 3),(.own 23 true ([(⟨0,1,500,0,20⟩:aj),(⟨2,2,300,0,40⟩:aj)].length)),(.own 24 true ([(⟨0,1,3,400,10,([]:List ic)⟩:aM),(⟨1,2,3,400,10,([]:List ic)⟩:aM)].length)),(.own 34 false 0)])),(34,some (.arr 166 4 0 (aN aK.cell ([]:List aK))))]⟩ []) (.trans (bZ.fin (st':=⟨(X8 u0),[(GZ u0),Nh,Oc,Qp,QH,(25,some (.cells 26 [(cI 3),(.own 23 true ([(⟨0,1,500,0,20⟩:aj),(⟨2,2,300,0,40⟩:aj)].length)),(.own 24 true ([(⟨0,1,3,400,10,([]:List ic)⟩:aM),(⟨1,2,3,400,10,([]:List ic)⟩:aM)].length)),(.own 27 false 0)])),(27,some (.arr 166 4 0 (aN aK.cell ([]:List aK))))]⟩) (cs:=[]) ⟨[],[(0,0),(21,21),(22,22),(23,23),(24,24),(25,25),(34,27)]⟩ [0,2,3,4,5] (by kernel_rfl) trivial) (bZ.le (st':=⟨(X8 u0),[(GZ u0),Nh,Oc,Qp,QH,(25,some (.cells 26 [(cI 3),(.own 23 true ([(⟨0,1,500,0,20⟩:aj),(⟨2,2,300,0,40⟩:aj)].length)),(.own 24 true ([(⟨0,1,3,400,10,([]:List ic)⟩:aM),(⟨1,2,3,400,10,([]:List ic)⟩:aM)].length)),(.own 27 false (([]:List aK).length))])),(27,some (dK 166 4 aK.cell ([]:List aK)))]⟩) ⟨⟨tR,tR,tR,tR,tR,trivial⟩,(hN 5 ⟨rfl,bX ⟨eD.refl _,eD.refl _,eD.refl _,cW,trivial⟩,⟨rfl,oW,trivial⟩⟩)⟩)))) ?_
 refine aL [] (qP u0) (qM u0) (mZ u0) hy (fun s f h=> ?_) ?_
 ·clear hy
  show bW _ _ _ _ _ _ ((BR u0) f) _
  unfold wM at h
  obtain⟨p3,i⟩:=s
  refine aQ (sz tT ⟨[(Ec u0),(2,(vP 21 0)),(3,(vP 22 0)),(4,(vP 25 0)),(5,(vI i)),(17,(WK i u0))],(Yj u0 p3)⟩ {} [] ?_)
  refine bI h (fun hb h=> ?_) (fun hb h=> ?_)
  ·refine ct hb ?_
   refine aP (aQ (aB (sz tT ⟨[(Ec u0),(2,(vP 21 0)),(3,(vP 22 0)),(4,(vP 25 0)),(5,(vI i)),(6,(vO 27 false p3.length))],(Yj u0 p3)⟩ {} [] ?_)))
   refine aO h fun⟨a1,a2,a3⟩ h=> ?_
   refine rg tT ⟨[(Ec u0),(2,(vP 21 0)),(3,(vP 22 0)),(4,(vP 25 0)),(5,(vI i))],(ah9 u0 i p3)⟩ [_,_,[(U4 u0 i)].length=1,aY 1 4 (jf 4 [(.int .i64 1),(.int .i64 (-1)),(.int .i64 (at' u0 i.toNat)),(.int .i64 1)]) (aaE u0 i),p3.length=p3.length,_,_,(PG u0 i p3).length=p3.length+[(U4 u0 i)].length,aY (p3.length+[(U4 u0 i)].length) 4 (CY (aN aK.cell p3) p3.length (aaE u0 i)) (aN aK.cell (PG u0 i p3))] {an:=[(7, .arr [(U4 u0 i)].length (aaE u0 i)),(8, .arr (PG u0 i p3).length (aN aK.cell (PG u0 i p3)))],fr:=[(7,32),(8,33)] } [] ⟨a1,(tL a1),(rfl),((by intro i hi j hj;match i,j,hi,hj with|0,0,_,_=>rfl|0,1,_,_=>rfl|0,2,_,_=>rfl|0,3,_,_=>rfl)),rfl,a2,a3,(List.length_append),(jy _ _ _ _),trivial⟩ ?_
   refine ri tT ⟨(adm u0 i),(ah9 u0 i p3)⟩ [] {} [] trivial (bZ.fin (st':=⟨(adm u0 i),[(GZ u0),Nh,Oc,Qp,QH,(25,some (.cells 26 [(cI 3),(.own 23 true ([(⟨0,1,500,0,20⟩:aj),(⟨2,2,300,0,40⟩:aj)].length)),(.own 24 true ([(⟨0,1,3,400,10,([]:List ic)⟩:aM),(⟨1,2,3,400,10,([]:List ic)⟩:aM)].length)),(.own 27 false ((PG u0 i p3).length))])),(27,some (dK 166 4 aK.cell (PG u0 i p3)))]⟩) (cs:=[]) ⟨[],[(0,0),(21,21),(22,22),(23,23),(24,24),(25,25),(33,27)]⟩ [0,2,3,4,5] (by kernel_rfl) trivial) ?_
   obtain rfl:=oi h
   exact lN
  ·refine cf hb ?_
   refine aI (fz (afn u0 p3) []) ?_
   refine aX ?_
   obtain rfl:=oi h
   exact lB
 ·clear hy
  cases y with
  |brk z=>
   obtain⟨u1,rfl⟩: ∃q,q=z:=⟨_,rfl⟩
   unfold fT
   refine⟨_, .refl, ?_⟩
   refine aQ (aO h fun⟨a1,a2,a3,a4,a5,a6⟩ h=> ?_)
   refine di tT mX ⟨[(2,(vP 21 0)),(3,(vP 22 0))],[(GZ u0),(21,some (.cells 26 [(cI 3),(.d ahU),(.d ag6),(.d (k14 u1))])),(22,some (.cells 29 [(.d XV),(.d Vb),(.d Vb),(.d XV),(.d Vb),(.d Y5),(.d Y5)]))]⟩ (([true,true].length=2)::aY 2 1 (jf 1 [(.bool true),(.bool true)]) (aN aD [true,true])::_::((2:Int)=2)::_::_::((List.replicate 2 (false:Bool)).length=2)::aY 2 1 (fun _ j=>[(.bool false)].getD j .nilp) (aN aD (List.replicate 2 (false:Bool)))::_::((2:Int)=2)::_::_::((List.replicate 2 (false:Bool)).length=2)::aY 2 1 (fun _ j=>[(.bool false)].getD j .nilp) (aN aD (List.replicate 2 (false:Bool)))::([true,true].length=2)::aY 2 1 (jf 1 [(.bool true),(.bool true)]) (aN aD [true,true])::_::((2:Int)=2)::_::_::((List.replicate 2 (false:Bool)).length=2)::aY 2 1 (fun _ j=>[(.bool false)].getD j .nilp) (aN aD (List.replicate 2 (false:Bool)))::_::((3:Int)=3)::_::_::((List.replicate 3 (false:Bool)).length=3)::aY 3 1 (fun _ j=>[(.bool false)].getD j .nilp) (aN aD (List.replicate 3 (false:Bool)))::_::((3:Int)=3)::_::_::((List.replicate 3 (false:Bool)).length=3)::aY 3 1 (fun _ j=>[(.bool false)].getD j .nilp) (aN aD (List.replicate 3 (false:Bool)))::([(⟨0,1,500,0,20⟩:aj),(⟨2,2,300,0,40⟩:aj)].length=[(⟨0,1,500,0,20⟩:aj),(⟨2,2,300,0,40⟩:aj)].length)::([(⟨0,1,3,400,10,([]:List ic)⟩:aM),(⟨1,2,3,400,10,([]:List ic)⟩:aM)].length=[(⟨0,1,3,400,10,([]:List ic)⟩:aM),(⟨1,2,3,400,10,([]:List ic)⟩:aM)].length)::(u1.length=u1.length)::([true,true].length=[true,true].length)::(eqs (List.replicate 2 (false:Bool)).length 2 (([true,true].length=[true,true].length)::((List.replicate 2 (false:Bool)).length=(List.replicate 2 (false:Bool)).length)::(eqs (List.replicate 3 (false:Bool)).length 2 [])))) {an:=[(1, .arr [true,true].length (aN aD [true,true])),(2, .arr (List.replicate 2 (false:Bool)).length (aN aD (List.replicate 2 (false:Bool)))),(3, .arr (List.replicate 2 (false:Bool)).length (aN aD (List.replicate 2 (false:Bool)))),(4, .arr [true,true].length (aN aD [true,true])),(5, .arr (List.replicate 2 (false:Bool)).length (aN aD (List.replicate 2 (false:Bool)))),(6, .arr (List.replicate 3 (false:Bool)).length (aN aD (List.replicate 3 (false:Bool)))),(7, .arr (List.replicate 3 (false:Bool)).length (aN aD (List.replicate 3 (false:Bool))))],fr:=[(1,35),(2,36),(3,37),(4,38),(5,39),(6,40),(7,41)] } [23,24,27,35,36,37,38,39,40,41] ⟨(rfl),((by intro i hi j hj;match i,j,hi,hj with|0,0,_,_=>rfl|1,0,_,_=>rfl)),a1,rfl,a2,a3,(List.length_replicate),(fB _ _ _ _ _ (fun j hj=>(match j,hj with|0,_=>rfl))),a1,rfl,a2,a3,(List.length_replicate),(fB _ _ _ _ _ (fun j hj=>(match j,hj with|0,_=>rfl))),(rfl),((by intro i hi j hj;match i,j,hi,hj with|0,0,_,_=>rfl|1,0,_,_=>rfl)),a1,rfl,a2,a3,(List.length_replicate),(fB _ _ _ _ _ (fun j hj=>(match j,hj with|0,_=>rfl))),a4,rfl,a5,a6,(List.length_replicate),(fB _ _ _ _ _ (fun j hj=>(match j,hj with|0,_=>rfl))),a4,rfl,a5,a6,(List.length_replicate),(fB _ _ _ _ _ (fun j hj=>(match j,hj with|0,_=>rfl))),rfl,rfl,rfl,rfl,(ae ⟨rfl,rfl,(ae trivial)⟩)⟩ (fz ⟨[(2,(vD (kK [(.int .i64 3),ahU,ag6,(k14 u1)] 0))),(3,(vD (kK [XV,Vb,Vb,XV,Vb,Y5,Y5] 0)))],(wJ u0)⟩ [21,22]) ?_
   refine aI (bZ.le (st':=⟨[(2,(vD (kK [(.int .i64 3),ae4,afN,(k14 u1)] 0))),(3,(vD (kK [(bg none 1 aD [true,true]),UI,UI,(bg none 1 aD [true,true]),UI,YT,YT] 0)))],(wJ u0)⟩) ⟨⟨⟨_,rfl,dY.v (eX.one (eD.d (Nn ⟨.refl _,gX.oP,gX.oP, .refl _,trivial⟩)))⟩,⟨_,rfl,dY.v (eX.one (eD.d (Nn ⟨gX.oP,gX.oP,gX.oP,gX.oP,gX.oP,gX.oP,gX.oP,trivial⟩)))⟩,trivial⟩,(.refl _)⟩) ?_
   refine aR ?_
   obtain rfl:=oi h
   exact rl [(.agg [(cI 3),(.d ae4),(.d afN),(.d (k14 u1))]),(.agg [(.d (bg none 1 aD [true,true])),(.d UI),(.d UI),(.d (bg none 1 aD [true,true])),(.d UI),(.d YT),(.d YT)])]
  |ret v=>
   obtain rfl:=oi h
   unfold fT
   intro e st hn ha hR
   cases e with
   |normal=>exact absurd rfl hn
   |exit id=>exact hR
   |goto l=>exact hR
   |ret=>exact hR
   |panic c=>exact hR
   |outgrown=>exact hR
def Jy  :Bool→Exit→St→Prop:=
  fun r=>bR TT [.tmp 0] (vB r) []
section
variable (r_:(au × ay)) (u9:(aS × (List Bool) × Int)) (v4:(Bool × Int)) (v6:Int) (u3:(au × ay)) (u0:(aS × (List Bool) × Int)) (u1:(Int × Int)) (u2:((List aZ) × Int)) (u4:Int) (u5:((List aA) × Int)) (v0:((List Int) × Bool × Int)) (v8:Bool) (w3:Bool) (w4:Bool) (v7:Bool) (v5:Bool) (w1:Bool)
abbrev afq:List CV:=[(cI r_.1.ax),(.d (bg none 5 aj.cell r_.1.ai)),(.d (bg none 6 aM.cell r_.1.af)),(.d (bg none 4 aK.cell r_.1.aF))]
abbrev ah0:Nat × Option Ob:=(68,some (.cells 26 (afq r_)))
abbrev afE:List CV:=[(.d (bg none 1 aD r_.2.bK)),(.d (bg none 1 aD r_.2.fe)),(.d (bg none 1 aD r_.2.bG)),(.d (bg none 1 aD r_.2.on_)),(.d (bg none 1 aD r_.2.bL)),(.d (bg none 1 aD r_.2.fq)),(.d (bg none 1 aD r_.2.aG))]
abbrev aeA:Nat × Option Ob:=(69,some (.cells 29 (afE r_)))
abbrev Vv:Nat × TV:=(4,(vD (Kb u9)))
abbrev agO:Nat × Option Ob:=(70,some (aeM u9))
abbrev Ul:List (Nat × Option Ob):=[(ah0 r_),(aeA r_),(agO u9)]
abbrev Np:=(bif (!decide (u9.2.2=0))then true else(!decide (v4.2=0)))
abbrev Rf:=(bif (Np u9 v4)then true else(!decide (v6=100)))
abbrev Jo:=(bif (Rf u9 v4 v6)then true else(!v4.1))
abbrev W9:=(jq [(2,(!decide (u9.2.2=0))),(6,(Np u9 v4)),(11,(Rf u9 v4 v6)),(15,true)])
abbrev Un:List SV:=[(.agg (aap u9))]
abbrev Zy:=(jq [(2,(!decide (u9.2.2=0))),(6,(Np u9 v4)),(11,(Rf u9 v4 v6)),(15,false)])
abbrev NQ:Nat × TV:=(1,(vD (kK [(.int .i64 u3.1.ax),(bg none 5 aj.cell u3.1.ai),(bg none 6 aM.cell u3.1.af),(bg none 4 aK.cell u3.1.aF)] 0)))
abbrev PE:Nat × TV:=(2,(vD (kK [(bg none 1 aD u3.2.bK),(bg none 1 aD u3.2.fe),(bg none 1 aD u3.2.bG),(bg none 1 aD u3.2.on_),(bg none 1 aD u3.2.bL),(bg none 1 aD u3.2.fq),(bg none 1 aD u3.2.aG)] 0)))
abbrev aaA:Nat × TV:=(3,(aev u0))
abbrev HY:=(bif (!decide (u0.2.2=0))then true else(!decide (u1.2=0)))
abbrev CQ:=(bif (HY u0 u1)then true else(!decide (u2.2=0)))
abbrev Hr:=(bif (CQ u0 u1 u2)then true else(!decide (u4=700)))
abbrev Yd:=(bif (Hr u0 u1 u2 u4)then true else(!decide (u1.1=700)))
abbrev Zb:=(bif (Yd u0 u1 u2 u4)then true else false)
abbrev WG:=(bif (Zb u0 u1 u2 u4)then true else false)
abbrev JF:=(jq [(2,(!decide (u0.2.2=0))),(6,(HY u0 u1)),(10,(CQ u0 u1 u2)),(15,(Hr u0 u1 u2 u4)),(19,true),(25,true),(33,(WG u0 u1 u2 u4))])
abbrev LM:=((Yd u0 u1 u2 u4)=true)
abbrev RL:=((Zb u0 u1 u2 u4)=true)
abbrev Yb:List SV:=[(.agg (afq u3)),(.agg (afE u3)),(.agg (aap u0)),(sD (Kb u0))]
abbrev G8:DV:=(bg none 4 aA.cell u5.1)
abbrev YJ:St:=⟨[(NQ u3),(5,(vI u5.2)),(11,(vD (G8 u5)))],[]⟩
abbrev L8:DV:=(bg (some v0.2.1) 1 (aC .i64) v0.1)
abbrev Zq:St:=⟨[(5,(vI u5.2)),(7,(vI v0.2.2)),(11,(vD (G8 u5))),(12,(vD (L8 v0)))],[]⟩
abbrev cu:=(bif (decide (u5.2=0))then(decide (v0.2.2=0))else false)
abbrev nO:=(bif (cu u5 v0)then v8 else false)
abbrev ZE:St:=⟨[(0,(vB (bif (nO u5 v0 v8)then w3 else false)))],[]⟩
abbrev oI:=(jq [(2,(decide (u5.2=0))),(6,true),(15,true)])
abbrev nW:List DV:=[(.int .i64 0),(.int .i64 30),(.int .i64 13334),(bg (some true) 1 (aC .i64) [0]),(.int .i64 1),(.int .i64 50),(.int .i64 8000),(bg (some true) 1 (aC .i64) [1])]
abbrev ahj:List (Nat × Option Ob):=[(78,some (.arr 103 4 [(⟨0,30,13334,[0]⟩:aA),(⟨1,50,8000,[1]⟩:aA)].length (jf 4 nW)))]
abbrev P8:List DV:=[(.int .i64 13334),(.int .i64 8000)]
abbrev DT:Ob:=(dK 3 1 (aC .i64) [13334,8000])
abbrev Oq:List SV:=[(sD (G8 u5)),(sD (.sl (some true) 4 [(⟨0,30,13334,[0]⟩:aA),(⟨1,50,8000,[1]⟩:aA)].length (jf 4 nW)))]
abbrev Qg:List SV:=[(sD (L8 v0)),(sD (bg (some true) 1 (aC .i64) [13334,8000]))]
abbrev Yi:St:=⟨[(0,(vB (bif (nO u5 v0 v8)then false else false)))],[]⟩
abbrev oz:=(jq [(2,(decide (u5.2=0))),(6,true),(15,false)])
abbrev aiw:List (Nat × Option Ob):=[(82,some (.arr 103 4 [(⟨0,30,13334,[0]⟩:aA),(⟨1,50,8000,[1]⟩:aA)].length (jf 4 nW)))]
abbrev xN:=(bif (cu u5 v0)then false else false)
abbrev YE:St:=⟨[(0,(vB (bif (xN u5 v0)then w4 else false)))],[]⟩
abbrev kH:=(jq [(2,(decide (u5.2=0))),(6,false),(15,true)])
abbrev YL:St:=⟨[(0,(vB (bif (xN u5 v0)then false else false)))],[]⟩
abbrev LX:=(jq [(2,(decide (u5.2=0))),(6,false),(15,false)])
abbrev YC:=(eqs (decide (u5.2=0)) 3 [(cu u5 v0)=false, ¬ gP (LX u5) [(6,true)],(cu u5 v0)=false, ¬ gP (LX u5) [(6,true)],(cu u5 v0)=false, ¬ gP (LX u5) [(6,true)],(cu u5 v0)=false, ¬ gP (LX u5) [(6,true)],(cu u5 v0)=false, ¬ gP (LX u5) [(6,true)],(cu u5 v0)=false, ¬ gP (LX u5) [(6,true)],(cu u5 v0)=false, ¬ gP (LX u5) [(6,true)],(cu u5 v0)=false,(xN u5 v0)=false, ¬ gP (LX u5) [(15,true)],(xN u5 v0)=false, ¬ gP (LX u5) [(15,true)],(xN u5 v0)=false, ¬ gP (LX u5) [(15,true)],(xN u5 v0)=false])
abbrev WS:=(bif (Zb u0 u1 u2 u4)then true else(!v7))
abbrev Ns:=(jq [(2,(!decide (u0.2.2=0))),(6,(HY u0 u1)),(10,(CQ u0 u1 u2)),(15,(Hr u0 u1 u2 u4)),(19,true),(25,false),(33,(WS u0 u1 u2 u4 v7))])
abbrev Rh:=((Zb u0 u1 u2 u4)=false)
abbrev agQ:List SV:=[(sD (bg none 2 aZ.cell u2.1)),(sD (bg (some true) 2 aZ.cell [(⟨2,1⟩:aZ),(⟨3,0⟩:aZ)]))]
abbrev af8:List (Nat × Option Ob):=[(90,some (.arr 103 4 [(⟨0,30,13334,[0]⟩:aA),(⟨1,50,8000,[1]⟩:aA)].length (jf 4 nW)))]
abbrev agW:List (Nat × Option Ob):=[(94,some (.arr 103 4 [(⟨0,30,13334,[0]⟩:aA),(⟨1,50,8000,[1]⟩:aA)].length (jf 4 nW)))]
abbrev Zj:=(bif (Yd u0 u1 u2 u4)then true else(!v5))
abbrev Xo:=(bif (Zj u0 u1 u2 u4 v5)then true else false)
abbrev JN:=(jq [(2,(!decide (u0.2.2=0))),(6,(HY u0 u1)),(10,(CQ u0 u1 u2)),(15,(Hr u0 u1 u2 u4)),(19,false),(25,true),(33,(Xo u0 u1 u2 u4 v5))])
abbrev LC:=((Yd u0 u1 u2 u4)=false)
abbrev Ra:=((Zj u0 u1 u2 u4 v5)=true)
abbrev afh:List (Nat × Option Ob):=[(103,some (.arr 103 4 [(⟨0,30,13334,[0]⟩:aA),(⟨1,50,8000,[1]⟩:aA)].length (jf 4 nW)))]
abbrev aei:List (Nat × Option Ob):=[(107,some (.arr 103 4 [(⟨0,30,13334,[0]⟩:aA),(⟨1,50,8000,[1]⟩:aA)].length (jf 4 nW)))]
abbrev Vn:=(bif (Zj u0 u1 u2 u4 v5)then true else(!w1))
abbrev Ph:=(jq [(2,(!decide (u0.2.2=0))),(6,(HY u0 u1)),(10,(CQ u0 u1 u2)),(15,(Hr u0 u1 u2 u4)),(19,false),(25,false),(33,(Vn u0 u1 u2 u4 v5 w1))])
abbrev QV:=((Zj u0 u1 u2 u4 v5)=false)
abbrev ad8:List (Nat × Option Ob):=[(116,some (.arr 103 4 [(⟨0,30,13334,[0]⟩:aA),(⟨1,50,8000,[1]⟩:aA)].length (jf 4 nW)))]
abbrev aii:List (Nat × Option Ob):=[(120,some (.arr 103 4 [(⟨0,30,13334,[0]⟩:aA),(⟨1,50,8000,[1]⟩:aA)].length (jf 4 nW)))]
end
theorem zV  {r:Bool} (h:oC=some r):Fn Try.prog 30 [] [] (vB r) []:=by
 refine fN tT Try.func30 rfl rfl fun B=> ?_
 show bW _ _ _ _ _ _ (Jy r) _
 unfold oC at h
 refine sz tT ⟨[],[]⟩ {} [] ?_
 refine aQ (bE h fun r_ hr_ h=> ?_)
 have q2:=rk [(0,67)] (qZ [100] hr_)
 refine rg tT ⟨[(1,(vP 68 0)),(2,(vP 69 0))],[(ah0 r_),(aeA r_)]⟩ [[100].length=1,aY 1 1 (jf 1 [(.int .i64 100)]) (aN (aC .i64) [100]),_] {an:=[(0, .arr [100].length (aN (aC .i64) [100])),(1,cR q2 [67])],fr:=[(0,67),(5,68),(6,69)] } [] ⟨(rfl),((by intro i hi j hj;match i,j,hi,hj with|0,0,_,_=>rfl)),q2,trivial⟩ ?_
 refine aQ (bE h fun u9 hr_1 h=> ?_)
 have q0:=Bt r_.1 r_.2 hr_1
 refine rg tT ⟨[(1,(vP 68 0)),(2,(vP 69 0)),(3,(vP 70 0)),(Vv u9),(5,(vI u9.2.2))],(Ul r_ u9)⟩ [_] {an:=[(2,cA q0 [])],fr:=[(7,70)] } [] ⟨q0,trivial⟩ ?_
 refine aQ (bE h fun v4 hr_2 h=> ?_)
 have q0:=KJ r_.1 r_.2 hr_2
 refine rg tT ⟨[(1,(vP 68 0)),(2,(vP 69 0)),(3,(vP 70 0)),(Vv u9),(5,(vI u9.2.2)),(6,(vB v4.1)),(7,(vI v4.2))],(Ul r_ u9)⟩ [_] {an:=[(2,cA q0 [])] } [] ⟨q0,trivial⟩ ?_
 refine aQ (aQ (bE h fun v6 hr_3 h=> ?_))
 refine bI h (fun hb h=> ?_) (fun hb h=> ?_)
 ·skip
  refine ri tT ⟨[(1,(vP 68 0)),(2,(vP 69 0)),(3,(vP 70 0)),(51,(vB (bif (Jo u9 v4 v6)then true else false)))],(Ul r_ u9)⟩ (eqs (!decide (u9.2.2=0)) 3 (eqs (Np u9 v4) 2 ((gP (W9 u9 v4 v6) [(6,false)]→All [Fn Try.prog 41 (Un u9) [] (vI v6) []])::(eqs (Np u9 v4) 2 (eqs (Rf u9 v4 v6) 3 [(Jo u9 v4 v6)=true, ¬ gP (W9 u9 v4 v6) [(15,false)],(Jo u9 v4 v6)=true, ¬ gP (W9 u9 v4 v6) [(15,false)],(Jo u9 v4 v6)=true, ¬ gP (W9 u9 v4 v6) [(15,false)],(Jo u9 v4 v6)=true, ¬ gP (W9 u9 v4 v6) [(15,false)],(Jo u9 v4 v6)=true]))))) {yb:=[(2,(!decide (u9.2.2=0))),(6,(Np u9 v4)),(11,(Rf u9 v4 v6)),(15,true)],an:=[(8, .call [] (vI v6) []),(16, .skip),(17, .skip),(18, .skip),(19, .skip)] } [] (ae (ae ⟨(fun hg=> ⟨(fU u9.1 (iw hr_3 (bD hg))),trivial⟩),(ae (ae ⟨(hb),((fun h=>Bool.noConfusion (show true=false from h.1))),(hb),((fun h=>Bool.noConfusion (show true=false from h.1))),(hb),((fun h=>Bool.noConfusion (show true=false from h.1))),(hb),((fun h=>Bool.noConfusion (show true=false from h.1))),(hb),trivial⟩))⟩)) (bZ.le (st':=⟨[(1,(vP 68 0)),(2,(vP 69 0)),(3,(vP 70 0)),(51,(vB true))],(Ul r_ u9)⟩) ⟨⟨tR,tR,tR,⟨_,rfl,dY.v (eX.one (eD.of (congrArg (fun b=>CV.d (.bool b)) (CJ hb))))⟩,trivial⟩,(.refl _)⟩) ?_
  refine ck (sz tT ⟨[(0,(vB false))],[]⟩ {} [] ?_)
  refine aR ?_
  obtain rfl:=oi h
  exact rl [(sB false)]
 ·skip
  refine bE h fun x1 hr_4 h=> ?_
  refine ri tT ⟨[(1,(vP 68 0)),(2,(vP 69 0)),(3,(vP 70 0)),(51,(vB (bif (Jo u9 v4 v6)then true else(!x1))))],(Ul r_ u9)⟩ (eqs (!decide (u9.2.2=0)) 3 (eqs (Np u9 v4) 2 ((gP (Zy u9 v4 v6) [(6,false)]→All [Fn Try.prog 41 (Un u9) [] (vI v6) []])::(eqs (Np u9 v4) 2 (eqs (Rf u9 v4 v6) 3 [(Jo u9 v4 v6)=false,(Jo u9 v4 v6)=false,gP (Zy u9 v4 v6) [(15,false)]→All [[true,true,true].length=3,aY 3 1 (jf 1 [(.bool true),(.bool true),(.bool true)]) (aN aD [true,true,true])],gP (Zy u9 v4 v6) [(15,false)],(Jo u9 v4 v6)=false,gP (Zy u9 v4 v6) [(15,false)]→All [Fn Try.prog 42 [(sD (Kb u9)),(.one (.own 71 true ([true,true,true].length)))] [(71,some (dK 4 1 aD [true,true,true]))] (vB x1) [(71,some (dK 4 1 aD [true,true,true]))]],(Jo u9 v4 v6)=false,(Jo u9 v4 v6)=false]))))) {yb:=[(2,(!decide (u9.2.2=0))),(6,(Np u9 v4)),(11,(Rf u9 v4 v6)),(15,false)],an:=[(8, .call [] (vI v6) []),(17, .arr [true,true,true].length (aN aD [true,true,true])),(18, .callR [71] (vB x1))],fr:=[(17,71)] } [] (ae (ae ⟨(fun hg=> ⟨(fU u9.1 (iw hr_3 (bD hg))),trivial⟩),(ae (ae ⟨(hb),(hb),(fun hg=> ⟨(rfl),((by intro i hi j hj;match i,j,hi,hj with|0,0,_,_=>rfl|1,0,_,_=>rfl|2,0,_,_=>rfl)),trivial⟩),(⟨rfl,trivial⟩),(hb),(fun hg=> ⟨(Fn.xP (frz:=[71]) (p:=[[true,true,true].length=[true,true,true].length]) (Fn.le (args':=[(sD (Kb u9)),(sD (bg (some true) 1 aD [true,true,true]))]) (nZ u9.2.1 [true,true,true] hr_4) ⟨eX.refl _,eX.one (eD.d gX.oP),trivial⟩) (by kernel_rfl) ⟨rfl,trivial⟩ rfl),trivial⟩),(hb),(hb),trivial⟩))⟩)) (bZ.le (st':=⟨[(1,(vP 68 0)),(2,(vP 69 0)),(3,(vP 70 0)),(51,(vB (!x1)))],(Ul r_ u9)⟩) ⟨⟨tR,tR,tR,⟨_,rfl,dY.v (eX.one (eD.of (congrArg (fun b=>CV.d (.bool b)) (Ct hb))))⟩,trivial⟩,(.refl _)⟩) ?_
  refine bI h (fun hb20 h=> ?_) (fun hb20 h=> ?_)
  ·refine ct hb20 ?_
   refine sz tT ⟨[(0,(vB false))],[]⟩ {} [] ?_
   refine aR ?_
   obtain rfl:=oi h
   exact rl [(sB false)]
  ·refine cf hb20 ?_
   refine aP (aQ (bE h fun u3 hr_5 h=> ?_))
   have q2:=rk [(0,72)] (qZ [300,600] hr_5)
   refine rg tT ⟨[(NQ u3),(PE u3),(3,(vP 70 0))],[(agO u9)]⟩ [[300,600].length=2,aY 2 1 (jf 1 [(.int .i64 300),(.int .i64 600)]) (aN (aC .i64) [300,600]),_] {an:=[(0, .arr [300,600].length (aN (aC .i64) [300,600])),(1,cR q2 [72])],fr:=[(0,72)] } [68,69] ⟨(rfl),((by intro i hi j hj;match i,j,hi,hj with|0,0,_,_=>rfl|1,0,_,_=>rfl)),q2,trivial⟩ ?_
   refine aQ (bE h fun u0 hr_6 h=> ?_)
   have q0:=Bt u3.1 u3.2 hr_6
   refine rg tT ⟨[(NQ u3),(PE u3),(aaA u0),(Vv u0),(5,(vI u0.2.2))],[]⟩ [_] {an:=[(2,cA q0 [])] } [70] ⟨q0,trivial⟩ ?_
   refine aQ (bE h fun u1 hr_7 h=> ?_)
   have q0:=wN u3.1 u3.2 u0.2.1 hr_7
   refine rg tT ⟨[(NQ u3),(PE u3),(aaA u0),(Vv u0),(5,(vI u0.2.2)),(7,(vI u1.2)),(8,(vI u1.1))],[]⟩ [_] {an:=[(3,cA q0 [])] } [] ⟨q0,trivial⟩ ?_
   refine aQ (bE h fun u2 hr_8 h=> ?_)
   have q0:=JB u3.1 u3.2 hr_8
   refine rg tT ⟨[(NQ u3),(PE u3),(aaA u0),(Vv u0),(5,(vI u0.2.2)),(7,(vI u1.2)),(8,(vI u1.1)),(9,(vD (bg none 2 aZ.cell u2.1))),(10,(vI u2.2))],[]⟩ [_] {an:=[(2,cA q0 [])] } [] ⟨q0,trivial⟩ ?_
   refine aQ (aQ (bE h fun u4 hr_9 h=> ?_))
   refine bI h (fun hb1 h=> ?_) (fun hb1 h=> ?_)
   ·skip
    refine bI h (fun hb2 h=> ?_) (fun hb2 h=> ?_)
    ·skip
     refine bE h fun x2 hr_10 h=> ?_
     refine rg tT ⟨[(NQ u3),(PE u3),(117,(vB (bif (WG u0 u1 u2 u4)then true else(!decide (x2=0)))))],[]⟩ (eqs (!decide (u0.2.2=0)) 3 (eqs (HY u0 u1) 3 (eqs (CQ u0 u1 u2) 2 ((gP (JF u0 u1 u2 u4) [(10,false)]→All [Fn Try.prog 41 (Un u0) [] (vI u4) []])::(eqs (CQ u0 u1 u2) 2 (eqs (Hr u0 u1 u2 u4) 3 ((LM u0 u1 u2 u4)::(¬ gP (JF u0 u1 u2 u4) [(19,false)])::(LM u0 u1 u2 u4)::(¬ gP (JF u0 u1 u2 u4) [(19,false)])::(LM u0 u1 u2 u4)::(¬ gP (JF u0 u1 u2 u4) [(19,false)])::(LM u0 u1 u2 u4)::(¬ gP (JF u0 u1 u2 u4) [(19,false)])::(LM u0 u1 u2 u4)::(RL u0 u1 u2 u4)::(¬ gP (JF u0 u1 u2 u4) [(25,false)])::(RL u0 u1 u2 u4)::(¬ gP (JF u0 u1 u2 u4) [(25,false)])::(RL u0 u1 u2 u4)::(¬ gP (JF u0 u1 u2 u4) [(25,false)])::(RL u0 u1 u2 u4)::(¬ gP (JF u0 u1 u2 u4) [(25,false)])::(RL u0 u1 u2 u4)::(¬ gP (JF u0 u1 u2 u4) [(25,false)])::(RL u0 u1 u2 u4)::(¬ gP (JF u0 u1 u2 u4) [(25,false)])::(RL u0 u1 u2 u4)::(eqs (WG u0 u1 u2 u4) 5 ((gP (JF u0 u1 u2 u4) [(33,false)]→All [Fn Try.prog 49 (Yb u3 u0) [] (vI x2) []])::(eqs (WG u0 u1 u2 u4) 2 [])))))))))) {yb:=[(2,(!decide (u0.2.2=0))),(6,(HY u0 u1)),(10,(CQ u0 u1 u2)),(15,(Hr u0 u1 u2 u4)),(19,true),(25,true),(33,(WG u0 u1 u2 u4))],an:=[(12, .call [] (vI u4) []),(20, .skip),(21, .skip),(22, .skip),(23, .skip),(26, .skip),(27, .skip),(28, .skip),(29, .skip),(30, .skip),(31, .skip),(38, .call [] (vI x2) [])] } [] (ae (ae (ae ⟨(fun hg=> ⟨(fU u0.1 (iw hr_9 (bD hg))),trivial⟩),(ae (ae ⟨(hb1),((fun h=>Bool.noConfusion (show true=false from h.1))),(hb1),((fun h=>Bool.noConfusion (show true=false from h.1))),(hb1),((fun h=>Bool.noConfusion (show true=false from h.1))),(hb1),((fun h=>Bool.noConfusion (show true=false from h.1))),(hb1),(hb2),((fun h=>Bool.noConfusion (show true=false from h.1))),(hb2),((fun h=>Bool.noConfusion (show true=false from h.1))),(hb2),((fun h=>Bool.noConfusion (show true=false from h.1))),(hb2),((fun h=>Bool.noConfusion (show true=false from h.1))),(hb2),((fun h=>Bool.noConfusion (show true=false from h.1))),(hb2),((fun h=>Bool.noConfusion (show true=false from h.1))),(hb2),(ae ⟨(fun hg=> ⟨(mJ u3.1 u3.2 u0.1 u0.2.1 (iw hr_10 (bD hg))),trivial⟩),(ae trivial)⟩)⟩))⟩))) ?_
     refine bI h (fun hb6 h=> ?_) (fun hb6 h=> ?_)
     ·refine ct hb6 ?_
      refine sz tT ⟨[(0,(vB false))],[]⟩ {} [] ?_
      refine aR ?_
      obtain rfl:=oi h
      exact rl [(sB false)]
     ·refine cf hb6 ?_
      refine aP (aQ (bE h fun u5 hr_11 h=> ?_))
      have q0:=iW u3.1 u3.2 1 hr_11
      refine rg tT (YJ u3 u5) [_] {an:=[(2,cA q0 [])] } [] ⟨q0,trivial⟩ ?_
      refine aQ (bE h fun v0 hr_12 h=> ?_)
      have q0:=lT u3.1 u5.1 hr_12
      refine rg tT (Zq u5 v0) [_] {an:=[(2,cA q0 [])] } [] ⟨q0,trivial⟩ ?_
      refine aQ ?_
      refine bI h (fun hb3 h=> ?_) (fun hb3 h=> ?_)
      ·skip
       refine bE h fun v8 hr_13 h=> ?_
       refine bI h (fun hb4 h=> ?_) (fun hb4 h=> ?_)
       ·skip
        refine bE h fun w3 hr_14 h=> ?_
        refine ri tT (ZE u5 v0 v8 w3) (eqs (decide (u5.2=0)) 3 [(cu u5 v0)=true,(cu u5 v0)=true,gP (oI u5) [(6,true)]→All [[0].length=1,aY 1 1 (jf 1 [(.int .i64 0)]) (aN (aC .i64) [0])],(cu u5 v0)=true,(cu u5 v0)=true,gP (oI u5) [(6,true)]→All [[1].length=1,aY 1 1 (jf 1 [(.int .i64 1)]) (aN (aC .i64) [1])],(cu u5 v0)=true,(cu u5 v0)=true,gP (oI u5) [(6,true)]→All [[(⟨0,30,13334,[0]⟩:aA),(⟨1,50,8000,[1]⟩:aA)].length=2,aY 2 4 (jf 4 nW) (jf 4 nW)],gP (oI u5) [(6,true)],(cu u5 v0)=true,gP (oI u5) [(6,true)]→All [Fn Try.prog 52 [(sD (G8 u5)),(.one (.own 78 true ([(⟨0,30,13334,[0]⟩:aA),(⟨1,50,8000,[1]⟩:aA)].length)))] ahj (vB v8) ahj],(cu u5 v0)=true,(nO u5 v0 v8)=true,(nO u5 v0 v8)=true,gP (oI u5) [(15,true)]→All [[13334,8000].length=2,aY 2 1 (jf 1 P8) (aN (aC .i64) [13334,8000])],gP (oI u5) [(15,true)],(nO u5 v0 v8)=true,gP (oI u5) [(15,true)]→All [Fn Try.prog 54 [(sD (L8 v0)),(.one (.own 79 true ([13334,8000].length)))] [(79,some DT)] (vB w3) [(79,some DT)]],(nO u5 v0 v8)=true]) {yb:=[(2,(decide (u5.2=0))),(6,true),(15,true)],an:=[(8, .frz [0].length (aN (aC .i64) [0])),(10, .frz [1].length (aN (aC .i64) [1])),(12, .arr [(⟨0,30,13334,[0]⟩:aA),(⟨1,50,8000,[1]⟩:aA)].length (jf 4 nW)),(13, .callR [78] (vB v8)),(17, .arr [13334,8000].length (aN (aC .i64) [13334,8000])),(18, .callR [79] (vB w3))],fr:=[(12,78),(17,79)] } [] (ae ⟨(hb3),(hb3),(fun hg=> ⟨(rfl),((by intro i hi j hj;match i,j,hi,hj with|0,0,_,_=>rfl)),trivial⟩),(hb3),(hb3),(fun hg=> ⟨(rfl),((by intro i hi j hj;match i,j,hi,hj with|0,0,_,_=>rfl)),trivial⟩),(hb3),(hb3),(fun hg=> ⟨(rfl),(gN _ _ _),trivial⟩),(⟨rfl,trivial⟩),(hb3),(fun hg=> ⟨(Fn.xP (frz:=[78]) (p:=[[(⟨0,30,13334,[0]⟩:aA),(⟨1,50,8000,[1]⟩:aA)].length=[(⟨0,30,13334,[0]⟩:aA),(⟨1,50,8000,[1]⟩:aA)].length]) (Fn.le (args':=(Oq u5)) (dH u5.1 [(⟨0,30,13334,[0]⟩:aA),(⟨1,50,8000,[1]⟩:aA)] hr_13) ⟨eX.refl _,eX.one (eD.d (gX.sl (.inl rfl) (by intro i hi j hj;match i,j,hi,hj with|0,0,_,_=>exact .refl _|0,1,_,_=>exact .refl _|0,2,_,_=>exact .refl _|0,3,_,_=>exact gX.oP|1,0,_,_=>exact .refl _|1,1,_,_=>exact .refl _|1,2,_,_=>exact .refl _|1,3,_,_=>exact gX.oP))),trivial⟩) (by kernel_rfl) ⟨rfl,trivial⟩ rfl),trivial⟩),(hb3),(hb4),(hb4),(fun hg=> ⟨(rfl),((by intro i hi j hj;match i,j,hi,hj with|0,0,_,_=>rfl|1,0,_,_=>rfl)),trivial⟩),(⟨rfl,trivial⟩),(hb4),(fun hg=> ⟨(Fn.xP (frz:=[79]) (p:=[[13334,8000].length=[13334,8000].length]) (Fn.le (args':=(Qg v0)) (dX v0.1 [13334,8000] hr_14) ⟨eX.one (eD.d gX.oP),eX.one (eD.d gX.oP),trivial⟩) (by kernel_rfl) ⟨rfl,trivial⟩ rfl),trivial⟩),(hb4),trivial⟩) (bZ.le (st':=⟨[(0,(vB w3))],[]⟩) ⟨⟨⟨_,rfl,dY.v (eX.one (eD.of (congrArg (fun b=>CV.d (.bool b)) (CJ hb4))))⟩,trivial⟩,trivial⟩) ?_
        refine aR ?_
        obtain rfl:=oi h
        exact rl [(sB w3)]
       ·skip
        refine ri tT (Yi u5 v0 v8) (eqs (decide (u5.2=0)) 3 [(cu u5 v0)=true,(cu u5 v0)=true,gP (oz u5) [(6,true)]→All [[0].length=1,aY 1 1 (jf 1 [(.int .i64 0)]) (aN (aC .i64) [0])],(cu u5 v0)=true,(cu u5 v0)=true,gP (oz u5) [(6,true)]→All [[1].length=1,aY 1 1 (jf 1 [(.int .i64 1)]) (aN (aC .i64) [1])],(cu u5 v0)=true,(cu u5 v0)=true,gP (oz u5) [(6,true)]→All [[(⟨0,30,13334,[0]⟩:aA),(⟨1,50,8000,[1]⟩:aA)].length=2,aY 2 4 (jf 4 nW) (jf 4 nW)],gP (oz u5) [(6,true)],(cu u5 v0)=true,gP (oz u5) [(6,true)]→All [Fn Try.prog 52 [(sD (G8 u5)),(.one (.own 82 true ([(⟨0,30,13334,[0]⟩:aA),(⟨1,50,8000,[1]⟩:aA)].length)))] aiw (vB v8) aiw],(cu u5 v0)=true,(nO u5 v0 v8)=false, ¬ gP (oz u5) [(15,true)],(nO u5 v0 v8)=false, ¬ gP (oz u5) [(15,true)],(nO u5 v0 v8)=false, ¬ gP (oz u5) [(15,true)],(nO u5 v0 v8)=false]) {yb:=[(2,(decide (u5.2=0))),(6,true),(15,false)],an:=[(8, .frz [0].length (aN (aC .i64) [0])),(10, .frz [1].length (aN (aC .i64) [1])),(12, .arr [(⟨0,30,13334,[0]⟩:aA),(⟨1,50,8000,[1]⟩:aA)].length (jf 4 nW)),(13, .callR [82] (vB v8)),(16, .skip),(17, .skip),(18, .skip)],fr:=[(12,82)] } [] (ae ⟨(hb3),(hb3),(fun hg=> ⟨(rfl),((by intro i hi j hj;match i,j,hi,hj with|0,0,_,_=>rfl)),trivial⟩),(hb3),(hb3),(fun hg=> ⟨(rfl),((by intro i hi j hj;match i,j,hi,hj with|0,0,_,_=>rfl)),trivial⟩),(hb3),(hb3),(fun hg=> ⟨(rfl),(gN _ _ _),trivial⟩),(⟨rfl,trivial⟩),(hb3),(fun hg=> ⟨(Fn.xP (frz:=[82]) (p:=[[(⟨0,30,13334,[0]⟩:aA),(⟨1,50,8000,[1]⟩:aA)].length=[(⟨0,30,13334,[0]⟩:aA),(⟨1,50,8000,[1]⟩:aA)].length]) (Fn.le (args':=(Oq u5)) (dH u5.1 [(⟨0,30,13334,[0]⟩:aA),(⟨1,50,8000,[1]⟩:aA)] hr_13) ⟨eX.refl _,eX.one (eD.d (gX.sl (.inl rfl) (by intro i hi j hj;match i,j,hi,hj with|0,0,_,_=>exact .refl _|0,1,_,_=>exact .refl _|0,2,_,_=>exact .refl _|0,3,_,_=>exact gX.oP|1,0,_,_=>exact .refl _|1,1,_,_=>exact .refl _|1,2,_,_=>exact .refl _|1,3,_,_=>exact gX.oP))),trivial⟩) (by kernel_rfl) ⟨rfl,trivial⟩ rfl),trivial⟩),(hb3),(hb4),((fun h=>Bool.noConfusion (show false=true from h.1))),(hb4),((fun h=>Bool.noConfusion (show false=true from h.1))),(hb4),((fun h=>Bool.noConfusion (show false=true from h.1))),(hb4),trivial⟩) (bZ.le (st':=⟨[(0,(vB false))],[]⟩) ⟨⟨⟨_,rfl,dY.v (eX.one (eD.of (congrArg (fun b=>CV.d (.bool b)) (Ct hb4))))⟩,trivial⟩,trivial⟩) ?_
        refine aR ?_
        obtain rfl:=oi h
        exact rl [(sB false)]
      ·skip
       refine bI h (fun hb5 h=> ?_) (fun hb5 h=> ?_)
       ·skip
        refine bE h fun w4 hr_15 h=> ?_
        refine ri tT (YE u5 v0 w4) (eqs (decide (u5.2=0)) 3 [(cu u5 v0)=false, ¬ gP (kH u5) [(6,true)],(cu u5 v0)=false, ¬ gP (kH u5) [(6,true)],(cu u5 v0)=false, ¬ gP (kH u5) [(6,true)],(cu u5 v0)=false, ¬ gP (kH u5) [(6,true)],(cu u5 v0)=false, ¬ gP (kH u5) [(6,true)],(cu u5 v0)=false, ¬ gP (kH u5) [(6,true)],(cu u5 v0)=false, ¬ gP (kH u5) [(6,true)],(cu u5 v0)=false,(xN u5 v0)=true,(xN u5 v0)=true,gP (kH u5) [(15,true)]→All [[13334,8000].length=2,aY 2 1 (jf 1 P8) (aN (aC .i64) [13334,8000])],gP (kH u5) [(15,true)],(xN u5 v0)=true,gP (kH u5) [(15,true)]→All [Fn Try.prog 54 [(sD (L8 v0)),(.one (.own 83 true ([13334,8000].length)))] [(83,some DT)] (vB w4) [(83,some DT)]],(xN u5 v0)=true]) {yb:=[(2,(decide (u5.2=0))),(6,false),(15,true)],an:=[(7, .skip),(8, .skip),(9, .skip),(10, .skip),(11, .skip),(12, .skip),(13, .skip),(17, .arr [13334,8000].length (aN (aC .i64) [13334,8000])),(18, .callR [83] (vB w4))],fr:=[(17,83)] } [] (ae ⟨(hb3),((fun h=>Bool.noConfusion (show false=true from h.1))),(hb3),((fun h=>Bool.noConfusion (show false=true from h.1))),(hb3),((fun h=>Bool.noConfusion (show false=true from h.1))),(hb3),((fun h=>Bool.noConfusion (show false=true from h.1))),(hb3),((fun h=>Bool.noConfusion (show false=true from h.1))),(hb3),((fun h=>Bool.noConfusion (show false=true from h.1))),(hb3),((fun h=>Bool.noConfusion (show false=true from h.1))),(hb3),(hb5),(hb5),(fun hg=> ⟨(rfl),((by intro i hi j hj;match i,j,hi,hj with|0,0,_,_=>rfl|1,0,_,_=>rfl)),trivial⟩),(⟨rfl,trivial⟩),(hb5),(fun hg=> ⟨(Fn.xP (frz:=[83]) (p:=[[13334,8000].length=[13334,8000].length]) (Fn.le (args':=(Qg v0)) (dX v0.1 [13334,8000] hr_15) ⟨eX.one (eD.d gX.oP),eX.one (eD.d gX.oP),trivial⟩) (by kernel_rfl) ⟨rfl,trivial⟩ rfl),trivial⟩),(hb5),trivial⟩) (bZ.le (st':=⟨[(0,(vB w4))],[]⟩) ⟨⟨⟨_,rfl,dY.v (eX.one (eD.of (congrArg (fun b=>CV.d (.bool b)) (CJ hb5))))⟩,trivial⟩,trivial⟩) ?_
        refine aR ?_
        obtain rfl:=oi h
        exact rl [(sB w4)]
       ·skip
        refine ri tT (YL u5 v0) (YC u5 v0) {yb:=[(2,(decide (u5.2=0))),(6,false),(15,false)],an:=[(7, .skip),(8, .skip),(9, .skip),(10, .skip),(11, .skip),(12, .skip),(13, .skip),(16, .skip),(17, .skip),(18, .skip)] } [] (ae ⟨(hb3),((fun h=>Bool.noConfusion (show false=true from h.1))),(hb3),((fun h=>Bool.noConfusion (show false=true from h.1))),(hb3),((fun h=>Bool.noConfusion (show false=true from h.1))),(hb3),((fun h=>Bool.noConfusion (show false=true from h.1))),(hb3),((fun h=>Bool.noConfusion (show false=true from h.1))),(hb3),((fun h=>Bool.noConfusion (show false=true from h.1))),(hb3),((fun h=>Bool.noConfusion (show false=true from h.1))),(hb3),(hb5),((fun h=>Bool.noConfusion (show false=true from h.1))),(hb5),((fun h=>Bool.noConfusion (show false=true from h.1))),(hb5),((fun h=>Bool.noConfusion (show false=true from h.1))),(hb5),trivial⟩) (bZ.le (st':=⟨[(0,(vB false))],[]⟩) ⟨⟨⟨_,rfl,dY.v (eX.one (eD.of (congrArg (fun b=>CV.d (.bool b)) (Ct hb5))))⟩,trivial⟩,trivial⟩) ?_
        refine aR ?_
        obtain rfl:=oi h
        exact rl [(sB false)]
    ·skip
     refine bE h fun v7 hr_16 h=> ?_
     refine bE h fun x3 hr_17 h=> ?_
     refine rg tT ⟨[(NQ u3),(PE u3),(117,(vB (bif (WS u0 u1 u2 u4 v7)then true else(!decide (x3=0)))))],[]⟩ (eqs (!decide (u0.2.2=0)) 3 (eqs (HY u0 u1) 3 (eqs (CQ u0 u1 u2) 2 ((gP (Ns u0 u1 u2 u4 v7) [(10,false)]→All [Fn Try.prog 41 (Un u0) [] (vI u4) []])::(eqs (CQ u0 u1 u2) 2 (eqs (Hr u0 u1 u2 u4) 3 ((LM u0 u1 u2 u4)::(¬ gP (Ns u0 u1 u2 u4 v7) [(19,false)])::(LM u0 u1 u2 u4)::(¬ gP (Ns u0 u1 u2 u4 v7) [(19,false)])::(LM u0 u1 u2 u4)::(¬ gP (Ns u0 u1 u2 u4 v7) [(19,false)])::(LM u0 u1 u2 u4)::(¬ gP (Ns u0 u1 u2 u4 v7) [(19,false)])::(LM u0 u1 u2 u4)::(Rh u0 u1 u2 u4)::(Rh u0 u1 u2 u4)::(Rh u0 u1 u2 u4)::(Rh u0 u1 u2 u4)::(gP (Ns u0 u1 u2 u4 v7) [(25,false)]→All [[(⟨2,1⟩:aZ),(⟨3,0⟩:aZ)].length=2,aY 2 2 (jf 2 [(.int .i64 2),(.int .i64 1),(.int .i64 3),(.int .i64 0)]) (aN aZ.cell [(⟨2,1⟩:aZ),(⟨3,0⟩:aZ)])])::(gP (Ns u0 u1 u2 u4 v7) [(25,false)])::(Rh u0 u1 u2 u4)::(gP (Ns u0 u1 u2 u4 v7) [(25,false)]→All [Fn Try.prog 38 [(sD (bg none 2 aZ.cell u2.1)),(.one (.own 84 true ([(⟨2,1⟩:aZ),(⟨3,0⟩:aZ)].length)))] [(84,some (dK 117 2 aZ.cell [(⟨2,1⟩:aZ),(⟨3,0⟩:aZ)]))] (vB v7) [(84,some (dK 117 2 aZ.cell [(⟨2,1⟩:aZ),(⟨3,0⟩:aZ)]))]])::(Rh u0 u1 u2 u4)::(Rh u0 u1 u2 u4)::(eqs (WS u0 u1 u2 u4 v7) 5 ((gP (Ns u0 u1 u2 u4 v7) [(33,false)]→All [Fn Try.prog 49 (Yb u3 u0) [] (vI x3) []])::(eqs (WS u0 u1 u2 u4 v7) 2 [])))))))))) {yb:=[(2,(!decide (u0.2.2=0))),(6,(HY u0 u1)),(10,(CQ u0 u1 u2)),(15,(Hr u0 u1 u2 u4)),(19,true),(25,false),(33,(WS u0 u1 u2 u4 v7))],an:=[(12, .call [] (vI u4) []),(20, .skip),(21, .skip),(22, .skip),(23, .skip),(29, .arr [(⟨2,1⟩:aZ),(⟨3,0⟩:aZ)].length (aN aZ.cell [(⟨2,1⟩:aZ),(⟨3,0⟩:aZ)])),(30, .callR [84] (vB v7)),(38, .call [] (vI x3) [])],fr:=[(29,84)] } [] (ae (ae (ae ⟨(fun hg=> ⟨(fU u0.1 (iw hr_9 (bD hg))),trivial⟩),(ae (ae ⟨(hb1),((fun h=>Bool.noConfusion (show true=false from h.1))),(hb1),((fun h=>Bool.noConfusion (show true=false from h.1))),(hb1),((fun h=>Bool.noConfusion (show true=false from h.1))),(hb1),((fun h=>Bool.noConfusion (show true=false from h.1))),(hb1),(hb2),(hb2),(hb2),(hb2),(fun hg=> ⟨(rfl),((by intro i hi j hj;match i,j,hi,hj with|0,0,_,_=>rfl|0,1,_,_=>rfl|1,0,_,_=>rfl|1,1,_,_=>rfl)),trivial⟩),(⟨rfl,trivial⟩),(hb2),(fun hg=> ⟨(Fn.xP (frz:=[84]) (p:=[[(⟨2,1⟩:aZ),(⟨3,0⟩:aZ)].length=[(⟨2,1⟩:aZ),(⟨3,0⟩:aZ)].length]) (Fn.le (args':=(agQ u2)) (wh u2.1 [(⟨2,1⟩:aZ),(⟨3,0⟩:aZ)] hr_16) ⟨eX.refl _,eX.one (eD.d gX.oP),trivial⟩) (by kernel_rfl) ⟨rfl,trivial⟩ rfl),trivial⟩),(hb2),(hb2),(ae ⟨(fun hg=> ⟨(mJ u3.1 u3.2 u0.1 u0.2.1 (iw hr_17 (bD hg))),trivial⟩),(ae trivial)⟩)⟩))⟩))) ?_
     refine bI h (fun hb10 h=> ?_) (fun hb10 h=> ?_)
     ·refine ct hb10 ?_
      refine sz tT ⟨[(0,(vB false))],[]⟩ {} [] ?_
      refine aR ?_
      obtain rfl:=oi h
      exact rl [(sB false)]
     ·refine cf hb10 ?_
      refine aP (aQ (bE h fun u6 hr_18 h=> ?_))
      have q0:=iW u3.1 u3.2 1 hr_18
      refine rg tT (YJ u3 u6) [_] {an:=[(2,cA q0 [])] } [] ⟨q0,trivial⟩ ?_
      refine aQ (bE h fun v1 hr_19 h=> ?_)
      have q0:=lT u3.1 u6.1 hr_19
      refine rg tT (Zq u6 v1) [_] {an:=[(2,cA q0 [])] } [] ⟨q0,trivial⟩ ?_
      refine aQ ?_
      refine bI h (fun hb7 h=> ?_) (fun hb7 h=> ?_)
      ·skip
       refine bE h fun v9 hr_20 h=> ?_
       refine bI h (fun hb8 h=> ?_) (fun hb8 h=> ?_)
       ·skip
        refine bE h fun w5 hr_21 h=> ?_
        refine ri tT (ZE u6 v1 v9 w5) (eqs (decide (u6.2=0)) 3 [(cu u6 v1)=true,(cu u6 v1)=true,gP (oI u6) [(6,true)]→All [[0].length=1,aY 1 1 (jf 1 [(.int .i64 0)]) (aN (aC .i64) [0])],(cu u6 v1)=true,(cu u6 v1)=true,gP (oI u6) [(6,true)]→All [[1].length=1,aY 1 1 (jf 1 [(.int .i64 1)]) (aN (aC .i64) [1])],(cu u6 v1)=true,(cu u6 v1)=true,gP (oI u6) [(6,true)]→All [[(⟨0,30,13334,[0]⟩:aA),(⟨1,50,8000,[1]⟩:aA)].length=2,aY 2 4 (jf 4 nW) (jf 4 nW)],gP (oI u6) [(6,true)],(cu u6 v1)=true,gP (oI u6) [(6,true)]→All [Fn Try.prog 52 [(sD (G8 u6)),(.one (.own 90 true ([(⟨0,30,13334,[0]⟩:aA),(⟨1,50,8000,[1]⟩:aA)].length)))] af8 (vB v9) af8],(cu u6 v1)=true,(nO u6 v1 v9)=true,(nO u6 v1 v9)=true,gP (oI u6) [(15,true)]→All [[13334,8000].length=2,aY 2 1 (jf 1 P8) (aN (aC .i64) [13334,8000])],gP (oI u6) [(15,true)],(nO u6 v1 v9)=true,gP (oI u6) [(15,true)]→All [Fn Try.prog 54 [(sD (L8 v1)),(.one (.own 91 true ([13334,8000].length)))] [(91,some DT)] (vB w5) [(91,some DT)]],(nO u6 v1 v9)=true]) {yb:=[(2,(decide (u6.2=0))),(6,true),(15,true)],an:=[(8, .frz [0].length (aN (aC .i64) [0])),(10, .frz [1].length (aN (aC .i64) [1])),(12, .arr [(⟨0,30,13334,[0]⟩:aA),(⟨1,50,8000,[1]⟩:aA)].length (jf 4 nW)),(13, .callR [90] (vB v9)),(17, .arr [13334,8000].length (aN (aC .i64) [13334,8000])),(18, .callR [91] (vB w5))],fr:=[(12,90),(17,91)] } [] (ae ⟨(hb7),(hb7),(fun hg=> ⟨(rfl),((by intro i hi j hj;match i,j,hi,hj with|0,0,_,_=>rfl)),trivial⟩),(hb7),(hb7),(fun hg=> ⟨(rfl),((by intro i hi j hj;match i,j,hi,hj with|0,0,_,_=>rfl)),trivial⟩),(hb7),(hb7),(fun hg=> ⟨(rfl),(gN _ _ _),trivial⟩),(⟨rfl,trivial⟩),(hb7),(fun hg=> ⟨(Fn.xP (frz:=[90]) (p:=[[(⟨0,30,13334,[0]⟩:aA),(⟨1,50,8000,[1]⟩:aA)].length=[(⟨0,30,13334,[0]⟩:aA),(⟨1,50,8000,[1]⟩:aA)].length]) (Fn.le (args':=(Oq u6)) (dH u6.1 [(⟨0,30,13334,[0]⟩:aA),(⟨1,50,8000,[1]⟩:aA)] hr_20) ⟨eX.refl _,eX.one (eD.d (gX.sl (.inl rfl) (by intro i hi j hj;match i,j,hi,hj with|0,0,_,_=>exact .refl _|0,1,_,_=>exact .refl _|0,2,_,_=>exact .refl _|0,3,_,_=>exact gX.oP|1,0,_,_=>exact .refl _|1,1,_,_=>exact .refl _|1,2,_,_=>exact .refl _|1,3,_,_=>exact gX.oP))),trivial⟩) (by kernel_rfl) ⟨rfl,trivial⟩ rfl),trivial⟩),(hb7),(hb8),(hb8),(fun hg=> ⟨(rfl),((by intro i hi j hj;match i,j,hi,hj with|0,0,_,_=>rfl|1,0,_,_=>rfl)),trivial⟩),(⟨rfl,trivial⟩),(hb8),(fun hg=> ⟨(Fn.xP (frz:=[91]) (p:=[[13334,8000].length=[13334,8000].length]) (Fn.le (args':=(Qg v1)) (dX v1.1 [13334,8000] hr_21) ⟨eX.one (eD.d gX.oP),eX.one (eD.d gX.oP),trivial⟩) (by kernel_rfl) ⟨rfl,trivial⟩ rfl),trivial⟩),(hb8),trivial⟩) (bZ.le (st':=⟨[(0,(vB w5))],[]⟩) ⟨⟨⟨_,rfl,dY.v (eX.one (eD.of (congrArg (fun b=>CV.d (.bool b)) (CJ hb8))))⟩,trivial⟩,trivial⟩) ?_
        refine aR ?_
        obtain rfl:=oi h
        exact rl [(sB w5)]
       ·skip
        refine ri tT (Yi u6 v1 v9) (eqs (decide (u6.2=0)) 3 [(cu u6 v1)=true,(cu u6 v1)=true,gP (oz u6) [(6,true)]→All [[0].length=1,aY 1 1 (jf 1 [(.int .i64 0)]) (aN (aC .i64) [0])],(cu u6 v1)=true,(cu u6 v1)=true,gP (oz u6) [(6,true)]→All [[1].length=1,aY 1 1 (jf 1 [(.int .i64 1)]) (aN (aC .i64) [1])],(cu u6 v1)=true,(cu u6 v1)=true,gP (oz u6) [(6,true)]→All [[(⟨0,30,13334,[0]⟩:aA),(⟨1,50,8000,[1]⟩:aA)].length=2,aY 2 4 (jf 4 nW) (jf 4 nW)],gP (oz u6) [(6,true)],(cu u6 v1)=true,gP (oz u6) [(6,true)]→All [Fn Try.prog 52 [(sD (G8 u6)),(.one (.own 94 true ([(⟨0,30,13334,[0]⟩:aA),(⟨1,50,8000,[1]⟩:aA)].length)))] agW (vB v9) agW],(cu u6 v1)=true,(nO u6 v1 v9)=false, ¬ gP (oz u6) [(15,true)],(nO u6 v1 v9)=false, ¬ gP (oz u6) [(15,true)],(nO u6 v1 v9)=false, ¬ gP (oz u6) [(15,true)],(nO u6 v1 v9)=false]) {yb:=[(2,(decide (u6.2=0))),(6,true),(15,false)],an:=[(8, .frz [0].length (aN (aC .i64) [0])),(10, .frz [1].length (aN (aC .i64) [1])),(12, .arr [(⟨0,30,13334,[0]⟩:aA),(⟨1,50,8000,[1]⟩:aA)].length (jf 4 nW)),(13, .callR [94] (vB v9)),(16, .skip),(17, .skip),(18, .skip)],fr:=[(12,94)] } [] (ae ⟨(hb7),(hb7),(fun hg=> ⟨(rfl),((by intro i hi j hj;match i,j,hi,hj with|0,0,_,_=>rfl)),trivial⟩),(hb7),(hb7),(fun hg=> ⟨(rfl),((by intro i hi j hj;match i,j,hi,hj with|0,0,_,_=>rfl)),trivial⟩),(hb7),(hb7),(fun hg=> ⟨(rfl),(gN _ _ _),trivial⟩),(⟨rfl,trivial⟩),(hb7),(fun hg=> ⟨(Fn.xP (frz:=[94]) (p:=[[(⟨0,30,13334,[0]⟩:aA),(⟨1,50,8000,[1]⟩:aA)].length=[(⟨0,30,13334,[0]⟩:aA),(⟨1,50,8000,[1]⟩:aA)].length]) (Fn.le (args':=(Oq u6)) (dH u6.1 [(⟨0,30,13334,[0]⟩:aA),(⟨1,50,8000,[1]⟩:aA)] hr_20) ⟨eX.refl _,eX.one (eD.d (gX.sl (.inl rfl) (by intro i hi j hj;match i,j,hi,hj with|0,0,_,_=>exact .refl _|0,1,_,_=>exact .refl _|0,2,_,_=>exact .refl _|0,3,_,_=>exact gX.oP|1,0,_,_=>exact .refl _|1,1,_,_=>exact .refl _|1,2,_,_=>exact .refl _|1,3,_,_=>exact gX.oP))),trivial⟩) (by kernel_rfl) ⟨rfl,trivial⟩ rfl),trivial⟩),(hb7),(hb8),((fun h=>Bool.noConfusion (show false=true from h.1))),(hb8),((fun h=>Bool.noConfusion (show false=true from h.1))),(hb8),((fun h=>Bool.noConfusion (show false=true from h.1))),(hb8),trivial⟩) (bZ.le (st':=⟨[(0,(vB false))],[]⟩) ⟨⟨⟨_,rfl,dY.v (eX.one (eD.of (congrArg (fun b=>CV.d (.bool b)) (Ct hb8))))⟩,trivial⟩,trivial⟩) ?_
        refine aR ?_
        obtain rfl:=oi h
        exact rl [(sB false)]
      ·skip
       refine bI h (fun hb9 h=> ?_) (fun hb9 h=> ?_)
       ·skip
        refine bE h fun w6 hr_22 h=> ?_
        refine ri tT (YE u6 v1 w6) (eqs (decide (u6.2=0)) 3 [(cu u6 v1)=false, ¬ gP (kH u6) [(6,true)],(cu u6 v1)=false, ¬ gP (kH u6) [(6,true)],(cu u6 v1)=false, ¬ gP (kH u6) [(6,true)],(cu u6 v1)=false, ¬ gP (kH u6) [(6,true)],(cu u6 v1)=false, ¬ gP (kH u6) [(6,true)],(cu u6 v1)=false, ¬ gP (kH u6) [(6,true)],(cu u6 v1)=false, ¬ gP (kH u6) [(6,true)],(cu u6 v1)=false,(xN u6 v1)=true,(xN u6 v1)=true,gP (kH u6) [(15,true)]→All [[13334,8000].length=2,aY 2 1 (jf 1 P8) (aN (aC .i64) [13334,8000])],gP (kH u6) [(15,true)],(xN u6 v1)=true,gP (kH u6) [(15,true)]→All [Fn Try.prog 54 [(sD (L8 v1)),(.one (.own 95 true ([13334,8000].length)))] [(95,some DT)] (vB w6) [(95,some DT)]],(xN u6 v1)=true]) {yb:=[(2,(decide (u6.2=0))),(6,false),(15,true)],an:=[(7, .skip),(8, .skip),(9, .skip),(10, .skip),(11, .skip),(12, .skip),(13, .skip),(17, .arr [13334,8000].length (aN (aC .i64) [13334,8000])),(18, .callR [95] (vB w6))],fr:=[(17,95)] } [] (ae ⟨(hb7),((fun h=>Bool.noConfusion (show false=true from h.1))),(hb7),((fun h=>Bool.noConfusion (show false=true from h.1))),(hb7),((fun h=>Bool.noConfusion (show false=true from h.1))),(hb7),((fun h=>Bool.noConfusion (show false=true from h.1))),(hb7),((fun h=>Bool.noConfusion (show false=true from h.1))),(hb7),((fun h=>Bool.noConfusion (show false=true from h.1))),(hb7),((fun h=>Bool.noConfusion (show false=true from h.1))),(hb7),(hb9),(hb9),(fun hg=> ⟨(rfl),((by intro i hi j hj;match i,j,hi,hj with|0,0,_,_=>rfl|1,0,_,_=>rfl)),trivial⟩),(⟨rfl,trivial⟩),(hb9),(fun hg=> ⟨(Fn.xP (frz:=[95]) (p:=[[13334,8000].length=[13334,8000].length]) (Fn.le (args':=(Qg v1)) (dX v1.1 [13334,8000] hr_22) ⟨eX.one (eD.d gX.oP),eX.one (eD.d gX.oP),trivial⟩) (by kernel_rfl) ⟨rfl,trivial⟩ rfl),trivial⟩),(hb9),trivial⟩) (bZ.le (st':=⟨[(0,(vB w6))],[]⟩) ⟨⟨⟨_,rfl,dY.v (eX.one (eD.of (congrArg (fun b=>CV.d (.bool b)) (CJ hb9))))⟩,trivial⟩,trivial⟩) ?_
        refine aR ?_
        obtain rfl:=oi h
        exact rl [(sB w6)]
       ·skip
        refine ri tT (YL u6 v1) (YC u6 v1) {yb:=[(2,(decide (u6.2=0))),(6,false),(15,false)],an:=[(7, .skip),(8, .skip),(9, .skip),(10, .skip),(11, .skip),(12, .skip),(13, .skip),(16, .skip),(17, .skip),(18, .skip)] } [] (ae ⟨(hb7),((fun h=>Bool.noConfusion (show false=true from h.1))),(hb7),((fun h=>Bool.noConfusion (show false=true from h.1))),(hb7),((fun h=>Bool.noConfusion (show false=true from h.1))),(hb7),((fun h=>Bool.noConfusion (show false=true from h.1))),(hb7),((fun h=>Bool.noConfusion (show false=true from h.1))),(hb7),((fun h=>Bool.noConfusion (show false=true from h.1))),(hb7),((fun h=>Bool.noConfusion (show false=true from h.1))),(hb7),(hb9),((fun h=>Bool.noConfusion (show false=true from h.1))),(hb9),((fun h=>Bool.noConfusion (show false=true from h.1))),(hb9),((fun h=>Bool.noConfusion (show false=true from h.1))),(hb9),trivial⟩) (bZ.le (st':=⟨[(0,(vB false))],[]⟩) ⟨⟨⟨_,rfl,dY.v (eX.one (eD.of (congrArg (fun b=>CV.d (.bool b)) (Ct hb9))))⟩,trivial⟩,trivial⟩) ?_
        refine aR ?_
        obtain rfl:=oi h
        exact rl [(sB false)]
   ·skip
    refine bE h fun v5 hr_23 h=> ?_
    refine bI h (fun hb11 h=> ?_) (fun hb11 h=> ?_)
    ·skip
     refine bE h fun x4 hr_24 h=> ?_
     refine rg tT ⟨[(NQ u3),(PE u3),(117,(vB (bif (Xo u0 u1 u2 u4 v5)then true else(!decide (x4=0)))))],[]⟩ (eqs (!decide (u0.2.2=0)) 3 (eqs (HY u0 u1) 3 (eqs (CQ u0 u1 u2) 2 ((gP (JN u0 u1 u2 u4 v5) [(10,false)]→All [Fn Try.prog 41 (Un u0) [] (vI u4) []])::(eqs (CQ u0 u1 u2) 2 (eqs (Hr u0 u1 u2 u4) 3 ((LC u0 u1 u2 u4)::(LC u0 u1 u2 u4)::(gP (JN u0 u1 u2 u4 v5) [(19,false)]→All [[true,false,false].length=3,aY 3 1 (jf 1 [(.bool true),(.bool false),(.bool false)]) (aN aD [true,false,false])])::(gP (JN u0 u1 u2 u4 v5) [(19,false)])::(LC u0 u1 u2 u4)::(gP (JN u0 u1 u2 u4 v5) [(19,false)]→All [Fn Try.prog 42 [(sD (Kb u0)),(.one (.own 97 true ([true,false,false].length)))] [(97,some (dK 4 1 aD [true,false,false]))] (vB v5) [(97,some (dK 4 1 aD [true,false,false]))]])::(LC u0 u1 u2 u4)::(LC u0 u1 u2 u4)::(Ra u0 u1 u2 u4 v5)::(¬ gP (JN u0 u1 u2 u4 v5) [(25,false)])::(Ra u0 u1 u2 u4 v5)::(¬ gP (JN u0 u1 u2 u4 v5) [(25,false)])::(Ra u0 u1 u2 u4 v5)::(¬ gP (JN u0 u1 u2 u4 v5) [(25,false)])::(Ra u0 u1 u2 u4 v5)::(¬ gP (JN u0 u1 u2 u4 v5) [(25,false)])::(Ra u0 u1 u2 u4 v5)::(¬ gP (JN u0 u1 u2 u4 v5) [(25,false)])::(Ra u0 u1 u2 u4 v5)::(¬ gP (JN u0 u1 u2 u4 v5) [(25,false)])::(Ra u0 u1 u2 u4 v5)::(eqs (Xo u0 u1 u2 u4 v5) 5 ((gP (JN u0 u1 u2 u4 v5) [(33,false)]→All [Fn Try.prog 49 (Yb u3 u0) [] (vI x4) []])::(eqs (Xo u0 u1 u2 u4 v5) 2 [])))))))))) {yb:=[(2,(!decide (u0.2.2=0))),(6,(HY u0 u1)),(10,(CQ u0 u1 u2)),(15,(Hr u0 u1 u2 u4)),(19,false),(25,true),(33,(Xo u0 u1 u2 u4 v5))],an:=[(12, .call [] (vI u4) []),(21, .arr [true,false,false].length (aN aD [true,false,false])),(22, .callR [97] (vB v5)),(26, .skip),(27, .skip),(28, .skip),(29, .skip),(30, .skip),(31, .skip),(38, .call [] (vI x4) [])],fr:=[(21,97)] } [] (ae (ae (ae ⟨(fun hg=> ⟨(fU u0.1 (iw hr_9 (bD hg))),trivial⟩),(ae (ae ⟨(hb1),(hb1),(fun hg=> ⟨(rfl),((by intro i hi j hj;match i,j,hi,hj with|0,0,_,_=>rfl|1,0,_,_=>rfl|2,0,_,_=>rfl)),trivial⟩),(⟨rfl,trivial⟩),(hb1),(fun hg=> ⟨(Fn.xP (frz:=[97]) (p:=[[true,false,false].length=[true,false,false].length]) (Fn.le (args':=[(sD (Kb u0)),(sD (bg (some true) 1 aD [true,false,false]))]) (nZ u0.2.1 [true,false,false] hr_23) ⟨eX.refl _,eX.one (eD.d gX.oP),trivial⟩) (by kernel_rfl) ⟨rfl,trivial⟩ rfl),trivial⟩),(hb1),(hb1),(hb11),((fun h=>Bool.noConfusion (show true=false from h.1))),(hb11),((fun h=>Bool.noConfusion (show true=false from h.1))),(hb11),((fun h=>Bool.noConfusion (show true=false from h.1))),(hb11),((fun h=>Bool.noConfusion (show true=false from h.1))),(hb11),((fun h=>Bool.noConfusion (show true=false from h.1))),(hb11),((fun h=>Bool.noConfusion (show true=false from h.1))),(hb11),(ae ⟨(fun hg=> ⟨(mJ u3.1 u3.2 u0.1 u0.2.1 (iw hr_24 (bD hg))),trivial⟩),(ae trivial)⟩)⟩))⟩))) ?_
     refine bI h (fun hb15 h=> ?_) (fun hb15 h=> ?_)
     ·refine ct hb15 ?_
      refine sz tT ⟨[(0,(vB false))],[]⟩ {} [] ?_
      refine aR ?_
      obtain rfl:=oi h
      exact rl [(sB false)]
     ·refine cf hb15 ?_
      refine aP (aQ (bE h fun u7 hr_25 h=> ?_))
      have q0:=iW u3.1 u3.2 1 hr_25
      refine rg tT (YJ u3 u7) [_] {an:=[(2,cA q0 [])] } [] ⟨q0,trivial⟩ ?_
      refine aQ (bE h fun v2 hr_26 h=> ?_)
      have q0:=lT u3.1 u7.1 hr_26
      refine rg tT (Zq u7 v2) [_] {an:=[(2,cA q0 [])] } [] ⟨q0,trivial⟩ ?_
      refine aQ ?_
      refine bI h (fun hb12 h=> ?_) (fun hb12 h=> ?_)
      ·skip
       refine bE h fun w0 hr_27 h=> ?_
       refine bI h (fun hb13 h=> ?_) (fun hb13 h=> ?_)
       ·skip
        refine bE h fun w7 hr_28 h=> ?_
        refine ri tT (ZE u7 v2 w0 w7) (eqs (decide (u7.2=0)) 3 [(cu u7 v2)=true,(cu u7 v2)=true,gP (oI u7) [(6,true)]→All [[0].length=1,aY 1 1 (jf 1 [(.int .i64 0)]) (aN (aC .i64) [0])],(cu u7 v2)=true,(cu u7 v2)=true,gP (oI u7) [(6,true)]→All [[1].length=1,aY 1 1 (jf 1 [(.int .i64 1)]) (aN (aC .i64) [1])],(cu u7 v2)=true,(cu u7 v2)=true,gP (oI u7) [(6,true)]→All [[(⟨0,30,13334,[0]⟩:aA),(⟨1,50,8000,[1]⟩:aA)].length=2,aY 2 4 (jf 4 nW) (jf 4 nW)],gP (oI u7) [(6,true)],(cu u7 v2)=true,gP (oI u7) [(6,true)]→All [Fn Try.prog 52 [(sD (G8 u7)),(.one (.own 103 true ([(⟨0,30,13334,[0]⟩:aA),(⟨1,50,8000,[1]⟩:aA)].length)))] afh (vB w0) afh],(cu u7 v2)=true,(nO u7 v2 w0)=true,(nO u7 v2 w0)=true,gP (oI u7) [(15,true)]→All [[13334,8000].length=2,aY 2 1 (jf 1 P8) (aN (aC .i64) [13334,8000])],gP (oI u7) [(15,true)],(nO u7 v2 w0)=true,gP (oI u7) [(15,true)]→All [Fn Try.prog 54 [(sD (L8 v2)),(.one (.own 104 true ([13334,8000].length)))] [(104,some DT)] (vB w7) [(104,some DT)]],(nO u7 v2 w0)=true]) {yb:=[(2,(decide (u7.2=0))),(6,true),(15,true)],an:=[(8, .frz [0].length (aN (aC .i64) [0])),(10, .frz [1].length (aN (aC .i64) [1])),(12, .arr [(⟨0,30,13334,[0]⟩:aA),(⟨1,50,8000,[1]⟩:aA)].length (jf 4 nW)),(13, .callR [103] (vB w0)),(17, .arr [13334,8000].length (aN (aC .i64) [13334,8000])),(18, .callR [104] (vB w7))],fr:=[(12,103),(17,104)] } [] (ae ⟨(hb12),(hb12),(fun hg=> ⟨(rfl),((by intro i hi j hj;match i,j,hi,hj with|0,0,_,_=>rfl)),trivial⟩),(hb12),(hb12),(fun hg=> ⟨(rfl),((by intro i hi j hj;match i,j,hi,hj with|0,0,_,_=>rfl)),trivial⟩),(hb12),(hb12),(fun hg=> ⟨(rfl),(gN _ _ _),trivial⟩),(⟨rfl,trivial⟩),(hb12),(fun hg=> ⟨(Fn.xP (frz:=[103]) (p:=[[(⟨0,30,13334,[0]⟩:aA),(⟨1,50,8000,[1]⟩:aA)].length=[(⟨0,30,13334,[0]⟩:aA),(⟨1,50,8000,[1]⟩:aA)].length]) (Fn.le (args':=(Oq u7)) (dH u7.1 [(⟨0,30,13334,[0]⟩:aA),(⟨1,50,8000,[1]⟩:aA)] hr_27) ⟨eX.refl _,eX.one (eD.d (gX.sl (.inl rfl) (by intro i hi j hj;match i,j,hi,hj with|0,0,_,_=>exact .refl _|0,1,_,_=>exact .refl _|0,2,_,_=>exact .refl _|0,3,_,_=>exact gX.oP|1,0,_,_=>exact .refl _|1,1,_,_=>exact .refl _|1,2,_,_=>exact .refl _|1,3,_,_=>exact gX.oP))),trivial⟩) (by kernel_rfl) ⟨rfl,trivial⟩ rfl),trivial⟩),(hb12),(hb13),(hb13),(fun hg=> ⟨(rfl),((by intro i hi j hj;match i,j,hi,hj with|0,0,_,_=>rfl|1,0,_,_=>rfl)),trivial⟩),(⟨rfl,trivial⟩),(hb13),(fun hg=> ⟨(Fn.xP (frz:=[104]) (p:=[[13334,8000].length=[13334,8000].length]) (Fn.le (args':=(Qg v2)) (dX v2.1 [13334,8000] hr_28) ⟨eX.one (eD.d gX.oP),eX.one (eD.d gX.oP),trivial⟩) (by kernel_rfl) ⟨rfl,trivial⟩ rfl),trivial⟩),(hb13),trivial⟩) (bZ.le (st':=⟨[(0,(vB w7))],[]⟩) ⟨⟨⟨_,rfl,dY.v (eX.one (eD.of (congrArg (fun b=>CV.d (.bool b)) (CJ hb13))))⟩,trivial⟩,trivial⟩) ?_
        refine aR ?_
        obtain rfl:=oi h
        exact rl [(sB w7)]
       ·skip
        refine ri tT (Yi u7 v2 w0) (eqs (decide (u7.2=0)) 3 [(cu u7 v2)=true,(cu u7 v2)=true,gP (oz u7) [(6,true)]→All [[0].length=1,aY 1 1 (jf 1 [(.int .i64 0)]) (aN (aC .i64) [0])],(cu u7 v2)=true,(cu u7 v2)=true,gP (oz u7) [(6,true)]→All [[1].length=1,aY 1 1 (jf 1 [(.int .i64 1)]) (aN (aC .i64) [1])],(cu u7 v2)=true,(cu u7 v2)=true,gP (oz u7) [(6,true)]→All [[(⟨0,30,13334,[0]⟩:aA),(⟨1,50,8000,[1]⟩:aA)].length=2,aY 2 4 (jf 4 nW) (jf 4 nW)],gP (oz u7) [(6,true)],(cu u7 v2)=true,gP (oz u7) [(6,true)]→All [Fn Try.prog 52 [(sD (G8 u7)),(.one (.own 107 true ([(⟨0,30,13334,[0]⟩:aA),(⟨1,50,8000,[1]⟩:aA)].length)))] aei (vB w0) aei],(cu u7 v2)=true,(nO u7 v2 w0)=false, ¬ gP (oz u7) [(15,true)],(nO u7 v2 w0)=false, ¬ gP (oz u7) [(15,true)],(nO u7 v2 w0)=false, ¬ gP (oz u7) [(15,true)],(nO u7 v2 w0)=false]) {yb:=[(2,(decide (u7.2=0))),(6,true),(15,false)],an:=[(8, .frz [0].length (aN (aC .i64) [0])),(10, .frz [1].length (aN (aC .i64) [1])),(12, .arr [(⟨0,30,13334,[0]⟩:aA),(⟨1,50,8000,[1]⟩:aA)].length (jf 4 nW)),(13, .callR [107] (vB w0)),(16, .skip),(17, .skip),(18, .skip)],fr:=[(12,107)] } [] (ae ⟨(hb12),(hb12),(fun hg=> ⟨(rfl),((by intro i hi j hj;match i,j,hi,hj with|0,0,_,_=>rfl)),trivial⟩),(hb12),(hb12),(fun hg=> ⟨(rfl),((by intro i hi j hj;match i,j,hi,hj with|0,0,_,_=>rfl)),trivial⟩),(hb12),(hb12),(fun hg=> ⟨(rfl),(gN _ _ _),trivial⟩),(⟨rfl,trivial⟩),(hb12),(fun hg=> ⟨(Fn.xP (frz:=[107]) (p:=[[(⟨0,30,13334,[0]⟩:aA),(⟨1,50,8000,[1]⟩:aA)].length=[(⟨0,30,13334,[0]⟩:aA),(⟨1,50,8000,[1]⟩:aA)].length]) (Fn.le (args':=(Oq u7)) (dH u7.1 [(⟨0,30,13334,[0]⟩:aA),(⟨1,50,8000,[1]⟩:aA)] hr_27) ⟨eX.refl _,eX.one (eD.d (gX.sl (.inl rfl) (by intro i hi j hj;match i,j,hi,hj with|0,0,_,_=>exact .refl _|0,1,_,_=>exact .refl _|0,2,_,_=>exact .refl _|0,3,_,_=>exact gX.oP|1,0,_,_=>exact .refl _|1,1,_,_=>exact .refl _|1,2,_,_=>exact .refl _|1,3,_,_=>exact gX.oP))),trivial⟩) (by kernel_rfl) ⟨rfl,trivial⟩ rfl),trivial⟩),(hb12),(hb13),((fun h=>Bool.noConfusion (show false=true from h.1))),(hb13),((fun h=>Bool.noConfusion (show false=true from h.1))),(hb13),((fun h=>Bool.noConfusion (show false=true from h.1))),(hb13),trivial⟩) (bZ.le (st':=⟨[(0,(vB false))],[]⟩) ⟨⟨⟨_,rfl,dY.v (eX.one (eD.of (congrArg (fun b=>CV.d (.bool b)) (Ct hb13))))⟩,trivial⟩,trivial⟩) ?_
        refine aR ?_
        obtain rfl:=oi h
        exact rl [(sB false)]
      ·skip
       refine bI h (fun hb14 h=> ?_) (fun hb14 h=> ?_)
       ·skip
        refine bE h fun w8 hr_29 h=> ?_
        refine ri tT (YE u7 v2 w8) (eqs (decide (u7.2=0)) 3 [(cu u7 v2)=false, ¬ gP (kH u7) [(6,true)],(cu u7 v2)=false, ¬ gP (kH u7) [(6,true)],(cu u7 v2)=false, ¬ gP (kH u7) [(6,true)],(cu u7 v2)=false, ¬ gP (kH u7) [(6,true)],(cu u7 v2)=false, ¬ gP (kH u7) [(6,true)],(cu u7 v2)=false, ¬ gP (kH u7) [(6,true)],(cu u7 v2)=false, ¬ gP (kH u7) [(6,true)],(cu u7 v2)=false,(xN u7 v2)=true,(xN u7 v2)=true,gP (kH u7) [(15,true)]→All [[13334,8000].length=2,aY 2 1 (jf 1 P8) (aN (aC .i64) [13334,8000])],gP (kH u7) [(15,true)],(xN u7 v2)=true,gP (kH u7) [(15,true)]→All [Fn Try.prog 54 [(sD (L8 v2)),(.one (.own 108 true ([13334,8000].length)))] [(108,some DT)] (vB w8) [(108,some DT)]],(xN u7 v2)=true]) {yb:=[(2,(decide (u7.2=0))),(6,false),(15,true)],an:=[(7, .skip),(8, .skip),(9, .skip),(10, .skip),(11, .skip),(12, .skip),(13, .skip),(17, .arr [13334,8000].length (aN (aC .i64) [13334,8000])),(18, .callR [108] (vB w8))],fr:=[(17,108)] } [] (ae ⟨(hb12),((fun h=>Bool.noConfusion (show false=true from h.1))),(hb12),((fun h=>Bool.noConfusion (show false=true from h.1))),(hb12),((fun h=>Bool.noConfusion (show false=true from h.1))),(hb12),((fun h=>Bool.noConfusion (show false=true from h.1))),(hb12),((fun h=>Bool.noConfusion (show false=true from h.1))),(hb12),((fun h=>Bool.noConfusion (show false=true from h.1))),(hb12),((fun h=>Bool.noConfusion (show false=true from h.1))),(hb12),(hb14),(hb14),(fun hg=> ⟨(rfl),((by intro i hi j hj;match i,j,hi,hj with|0,0,_,_=>rfl|1,0,_,_=>rfl)),trivial⟩),(⟨rfl,trivial⟩),(hb14),(fun hg=> ⟨(Fn.xP (frz:=[108]) (p:=[[13334,8000].length=[13334,8000].length]) (Fn.le (args':=(Qg v2)) (dX v2.1 [13334,8000] hr_29) ⟨eX.one (eD.d gX.oP),eX.one (eD.d gX.oP),trivial⟩) (by kernel_rfl) ⟨rfl,trivial⟩ rfl),trivial⟩),(hb14),trivial⟩) (bZ.le (st':=⟨[(0,(vB w8))],[]⟩) ⟨⟨⟨_,rfl,dY.v (eX.one (eD.of (congrArg (fun b=>CV.d (.bool b)) (CJ hb14))))⟩,trivial⟩,trivial⟩) ?_
        refine aR ?_
        obtain rfl:=oi h
        exact rl [(sB w8)]
       ·skip
        refine ri tT (YL u7 v2) (YC u7 v2) {yb:=[(2,(decide (u7.2=0))),(6,false),(15,false)],an:=[(7, .skip),(8, .skip),(9, .skip),(10, .skip),(11, .skip),(12, .skip),(13, .skip),(16, .skip),(17, .skip),(18, .skip)] } [] (ae ⟨(hb12),((fun h=>Bool.noConfusion (show false=true from h.1))),(hb12),((fun h=>Bool.noConfusion (show false=true from h.1))),(hb12),((fun h=>Bool.noConfusion (show false=true from h.1))),(hb12),((fun h=>Bool.noConfusion (show false=true from h.1))),(hb12),((fun h=>Bool.noConfusion (show false=true from h.1))),(hb12),((fun h=>Bool.noConfusion (show false=true from h.1))),(hb12),((fun h=>Bool.noConfusion (show false=true from h.1))),(hb12),(hb14),((fun h=>Bool.noConfusion (show false=true from h.1))),(hb14),((fun h=>Bool.noConfusion (show false=true from h.1))),(hb14),((fun h=>Bool.noConfusion (show false=true from h.1))),(hb14),trivial⟩) (bZ.le (st':=⟨[(0,(vB false))],[]⟩) ⟨⟨⟨_,rfl,dY.v (eX.one (eD.of (congrArg (fun b=>CV.d (.bool b)) (Ct hb14))))⟩,trivial⟩,trivial⟩) ?_
        refine aR ?_
        obtain rfl:=oi h
        exact rl [(sB false)]
    ·skip
     refine bE h fun w1 hr_30 h=> ?_
     refine bE h fun x5 hr_31 h=> ?_
     refine rg tT ⟨[(NQ u3),(PE u3),(117,(vB (bif (Vn u0 u1 u2 u4 v5 w1)then true else(!decide (x5=0)))))],[]⟩ (eqs (!decide (u0.2.2=0)) 3 (eqs (HY u0 u1) 3 (eqs (CQ u0 u1 u2) 2 ((gP (Ph u0 u1 u2 u4 v5 w1) [(10,false)]→All [Fn Try.prog 41 (Un u0) [] (vI u4) []])::(eqs (CQ u0 u1 u2) 2 (eqs (Hr u0 u1 u2 u4) 3 ((LC u0 u1 u2 u4)::(LC u0 u1 u2 u4)::(gP (Ph u0 u1 u2 u4 v5 w1) [(19,false)]→All [[true,false,false].length=3,aY 3 1 (jf 1 [(.bool true),(.bool false),(.bool false)]) (aN aD [true,false,false])])::(gP (Ph u0 u1 u2 u4 v5 w1) [(19,false)])::(LC u0 u1 u2 u4)::(gP (Ph u0 u1 u2 u4 v5 w1) [(19,false)]→All [Fn Try.prog 42 [(sD (Kb u0)),(.one (.own 109 true ([true,false,false].length)))] [(109,some (dK 4 1 aD [true,false,false]))] (vB v5) [(109,some (dK 4 1 aD [true,false,false]))]])::(LC u0 u1 u2 u4)::(LC u0 u1 u2 u4)::(QV u0 u1 u2 u4 v5)::(QV u0 u1 u2 u4 v5)::(QV u0 u1 u2 u4 v5)::(QV u0 u1 u2 u4 v5)::(gP (Ph u0 u1 u2 u4 v5 w1) [(25,false)]→All [[(⟨2,1⟩:aZ),(⟨3,0⟩:aZ)].length=2,aY 2 2 (jf 2 [(.int .i64 2),(.int .i64 1),(.int .i64 3),(.int .i64 0)]) (aN aZ.cell [(⟨2,1⟩:aZ),(⟨3,0⟩:aZ)])])::(gP (Ph u0 u1 u2 u4 v5 w1) [(25,false)])::(QV u0 u1 u2 u4 v5)::(gP (Ph u0 u1 u2 u4 v5 w1) [(25,false)]→All [Fn Try.prog 38 [(sD (bg none 2 aZ.cell u2.1)),(.one (.own 110 true ([(⟨2,1⟩:aZ),(⟨3,0⟩:aZ)].length)))] [(110,some (dK 117 2 aZ.cell [(⟨2,1⟩:aZ),(⟨3,0⟩:aZ)]))] (vB w1) [(110,some (dK 117 2 aZ.cell [(⟨2,1⟩:aZ),(⟨3,0⟩:aZ)]))]])::(QV u0 u1 u2 u4 v5)::(QV u0 u1 u2 u4 v5)::(eqs (Vn u0 u1 u2 u4 v5 w1) 5 ((gP (Ph u0 u1 u2 u4 v5 w1) [(33,false)]→All [Fn Try.prog 49 (Yb u3 u0) [] (vI x5) []])::(eqs (Vn u0 u1 u2 u4 v5 w1) 2 [])))))))))) {yb:=[(2,(!decide (u0.2.2=0))),(6,(HY u0 u1)),(10,(CQ u0 u1 u2)),(15,(Hr u0 u1 u2 u4)),(19,false),(25,false),(33,(Vn u0 u1 u2 u4 v5 w1))],an:=[(12, .call [] (vI u4) []),(21, .arr [true,false,false].length (aN aD [true,false,false])),(22, .callR [109] (vB v5)),(29, .arr [(⟨2,1⟩:aZ),(⟨3,0⟩:aZ)].length (aN aZ.cell [(⟨2,1⟩:aZ),(⟨3,0⟩:aZ)])),(30, .callR [110] (vB w1)),(38, .call [] (vI x5) [])],fr:=[(21,109),(29,110)] } [] (ae (ae (ae ⟨(fun hg=> ⟨(fU u0.1 (iw hr_9 (bD hg))),trivial⟩),(ae (ae ⟨(hb1),(hb1),(fun hg=> ⟨(rfl),((by intro i hi j hj;match i,j,hi,hj with|0,0,_,_=>rfl|1,0,_,_=>rfl|2,0,_,_=>rfl)),trivial⟩),(⟨rfl,trivial⟩),(hb1),(fun hg=> ⟨(Fn.xP (frz:=[109]) (p:=[[true,false,false].length=[true,false,false].length]) (Fn.le (args':=[(sD (Kb u0)),(sD (bg (some true) 1 aD [true,false,false]))]) (nZ u0.2.1 [true,false,false] hr_23) ⟨eX.refl _,eX.one (eD.d gX.oP),trivial⟩) (by kernel_rfl) ⟨rfl,trivial⟩ rfl),trivial⟩),(hb1),(hb1),(hb11),(hb11),(hb11),(hb11),(fun hg=> ⟨(rfl),((by intro i hi j hj;match i,j,hi,hj with|0,0,_,_=>rfl|0,1,_,_=>rfl|1,0,_,_=>rfl|1,1,_,_=>rfl)),trivial⟩),(⟨rfl,trivial⟩),(hb11),(fun hg=> ⟨(Fn.xP (frz:=[110]) (p:=[[(⟨2,1⟩:aZ),(⟨3,0⟩:aZ)].length=[(⟨2,1⟩:aZ),(⟨3,0⟩:aZ)].length]) (Fn.le (args':=(agQ u2)) (wh u2.1 [(⟨2,1⟩:aZ),(⟨3,0⟩:aZ)] hr_30) ⟨eX.refl _,eX.one (eD.d gX.oP),trivial⟩) (by kernel_rfl) ⟨rfl,trivial⟩ rfl),trivial⟩),(hb11),(hb11),(ae ⟨(fun hg=> ⟨(mJ u3.1 u3.2 u0.1 u0.2.1 (iw hr_31 (bD hg))),trivial⟩),(ae trivial)⟩)⟩))⟩))) ?_
     refine bI h (fun hb19 h=> ?_) (fun hb19 h=> ?_)
     ·refine ct hb19 ?_
      refine sz tT ⟨[(0,(vB false))],[]⟩ {} [] ?_
      refine aR ?_
      obtain rfl:=oi h
      exact rl [(sB false)]
     ·refine cf hb19 ?_
      refine aP (aQ (bE h fun u8 hr_32 h=> ?_))
      have q0:=iW u3.1 u3.2 1 hr_32
      refine rg tT (YJ u3 u8) [_] {an:=[(2,cA q0 [])] } [] ⟨q0,trivial⟩ ?_
      refine aQ (bE h fun v3 hr_33 h=> ?_)
      have q0:=lT u3.1 u8.1 hr_33
      refine rg tT (Zq u8 v3) [_] {an:=[(2,cA q0 [])] } [] ⟨q0,trivial⟩ ?_
      refine aQ ?_
      refine bI h (fun hb16 h=> ?_) (fun hb16 h=> ?_)
      ·skip
       refine bE h fun w2 hr_34 h=> ?_
       refine bI h (fun hb17 h=> ?_) (fun hb17 h=> ?_)
       ·skip
        refine bE h fun w9 hr_35 h=> ?_
        refine ri tT (ZE u8 v3 w2 w9) (eqs (decide (u8.2=0)) 3 [(cu u8 v3)=true,(cu u8 v3)=true,gP (oI u8) [(6,true)]→All [[0].length=1,aY 1 1 (jf 1 [(.int .i64 0)]) (aN (aC .i64) [0])],(cu u8 v3)=true,(cu u8 v3)=true,gP (oI u8) [(6,true)]→All [[1].length=1,aY 1 1 (jf 1 [(.int .i64 1)]) (aN (aC .i64) [1])],(cu u8 v3)=true,(cu u8 v3)=true,gP (oI u8) [(6,true)]→All [[(⟨0,30,13334,[0]⟩:aA),(⟨1,50,8000,[1]⟩:aA)].length=2,aY 2 4 (jf 4 nW) (jf 4 nW)],gP (oI u8) [(6,true)],(cu u8 v3)=true,gP (oI u8) [(6,true)]→All [Fn Try.prog 52 [(sD (G8 u8)),(.one (.own 116 true ([(⟨0,30,13334,[0]⟩:aA),(⟨1,50,8000,[1]⟩:aA)].length)))] ad8 (vB w2) ad8],(cu u8 v3)=true,(nO u8 v3 w2)=true,(nO u8 v3 w2)=true,gP (oI u8) [(15,true)]→All [[13334,8000].length=2,aY 2 1 (jf 1 P8) (aN (aC .i64) [13334,8000])],gP (oI u8) [(15,true)],(nO u8 v3 w2)=true,gP (oI u8) [(15,true)]→All [Fn Try.prog 54 [(sD (L8 v3)),(.one (.own 117 true ([13334,8000].length)))] [(117,some DT)] (vB w9) [(117,some DT)]],(nO u8 v3 w2)=true]) {yb:=[(2,(decide (u8.2=0))),(6,true),(15,true)],an:=[(8, .frz [0].length (aN (aC .i64) [0])),(10, .frz [1].length (aN (aC .i64) [1])),(12, .arr [(⟨0,30,13334,[0]⟩:aA),(⟨1,50,8000,[1]⟩:aA)].length (jf 4 nW)),(13, .callR [116] (vB w2)),(17, .arr [13334,8000].length (aN (aC .i64) [13334,8000])),(18, .callR [117] (vB w9))],fr:=[(12,116),(17,117)] } [] (ae ⟨(hb16),(hb16),(fun hg=> ⟨(rfl),((by intro i hi j hj;match i,j,hi,hj with|0,0,_,_=>rfl)),trivial⟩),(hb16),(hb16),(fun hg=> ⟨(rfl),((by intro i hi j hj;match i,j,hi,hj with|0,0,_,_=>rfl)),trivial⟩),(hb16),(hb16),(fun hg=> ⟨(rfl),(gN _ _ _),trivial⟩),(⟨rfl,trivial⟩),(hb16),(fun hg=> ⟨(Fn.xP (frz:=[116]) (p:=[[(⟨0,30,13334,[0]⟩:aA),(⟨1,50,8000,[1]⟩:aA)].length=[(⟨0,30,13334,[0]⟩:aA),(⟨1,50,8000,[1]⟩:aA)].length]) (Fn.le (args':=(Oq u8)) (dH u8.1 [(⟨0,30,13334,[0]⟩:aA),(⟨1,50,8000,[1]⟩:aA)] hr_34) ⟨eX.refl _,eX.one (eD.d (gX.sl (.inl rfl) (by intro i hi j hj;match i,j,hi,hj with|0,0,_,_=>exact .refl _|0,1,_,_=>exact .refl _|0,2,_,_=>exact .refl _|0,3,_,_=>exact gX.oP|1,0,_,_=>exact .refl _|1,1,_,_=>exact .refl _|1,2,_,_=>exact .refl _|1,3,_,_=>exact gX.oP))),trivial⟩) (by kernel_rfl) ⟨rfl,trivial⟩ rfl),trivial⟩),(hb16),(hb17),(hb17),(fun hg=> ⟨(rfl),((by intro i hi j hj;match i,j,hi,hj with|0,0,_,_=>rfl|1,0,_,_=>rfl)),trivial⟩),(⟨rfl,trivial⟩),(hb17),(fun hg=> ⟨(Fn.xP (frz:=[117]) (p:=[[13334,8000].length=[13334,8000].length]) (Fn.le (args':=(Qg v3)) (dX v3.1 [13334,8000] hr_35) ⟨eX.one (eD.d gX.oP),eX.one (eD.d gX.oP),trivial⟩) (by kernel_rfl) ⟨rfl,trivial⟩ rfl),trivial⟩),(hb17),trivial⟩) (bZ.le (st':=⟨[(0,(vB w9))],[]⟩) ⟨⟨⟨_,rfl,dY.v (eX.one (eD.of (congrArg (fun b=>CV.d (.bool b)) (CJ hb17))))⟩,trivial⟩,trivial⟩) ?_
        refine aR ?_
        obtain rfl:=oi h
        exact rl [(sB w9)]
       ·skip
        refine ri tT (Yi u8 v3 w2) (eqs (decide (u8.2=0)) 3 [(cu u8 v3)=true,(cu u8 v3)=true,gP (oz u8) [(6,true)]→All [[0].length=1,aY 1 1 (jf 1 [(.int .i64 0)]) (aN (aC .i64) [0])],(cu u8 v3)=true,(cu u8 v3)=true,gP (oz u8) [(6,true)]→All [[1].length=1,aY 1 1 (jf 1 [(.int .i64 1)]) (aN (aC .i64) [1])],(cu u8 v3)=true,(cu u8 v3)=true,gP (oz u8) [(6,true)]→All [[(⟨0,30,13334,[0]⟩:aA),(⟨1,50,8000,[1]⟩:aA)].length=2,aY 2 4 (jf 4 nW) (jf 4 nW)],gP (oz u8) [(6,true)],(cu u8 v3)=true,gP (oz u8) [(6,true)]→All [Fn Try.prog 52 [(sD (G8 u8)),(.one (.own 120 true ([(⟨0,30,13334,[0]⟩:aA),(⟨1,50,8000,[1]⟩:aA)].length)))] aii (vB w2) aii],(cu u8 v3)=true,(nO u8 v3 w2)=false, ¬ gP (oz u8) [(15,true)],(nO u8 v3 w2)=false, ¬ gP (oz u8) [(15,true)],(nO u8 v3 w2)=false, ¬ gP (oz u8) [(15,true)],(nO u8 v3 w2)=false]) {yb:=[(2,(decide (u8.2=0))),(6,true),(15,false)],an:=[(8, .frz [0].length (aN (aC .i64) [0])),(10, .frz [1].length (aN (aC .i64) [1])),(12, .arr [(⟨0,30,13334,[0]⟩:aA),(⟨1,50,8000,[1]⟩:aA)].length (jf 4 nW)),(13, .callR [120] (vB w2)),(16, .skip),(17, .skip),(18, .skip)],fr:=[(12,120)] } [] (ae ⟨(hb16),(hb16),(fun hg=> ⟨(rfl),((by intro i hi j hj;match i,j,hi,hj with|0,0,_,_=>rfl)),trivial⟩),(hb16),(hb16),(fun hg=> ⟨(rfl),((by intro i hi j hj;match i,j,hi,hj with|0,0,_,_=>rfl)),trivial⟩),(hb16),(hb16),(fun hg=> ⟨(rfl),(gN _ _ _),trivial⟩),(⟨rfl,trivial⟩),(hb16),(fun hg=> ⟨(Fn.xP (frz:=[120]) (p:=[[(⟨0,30,13334,[0]⟩:aA),(⟨1,50,8000,[1]⟩:aA)].length=[(⟨0,30,13334,[0]⟩:aA),(⟨1,50,8000,[1]⟩:aA)].length]) (Fn.le (args':=(Oq u8)) (dH u8.1 [(⟨0,30,13334,[0]⟩:aA),(⟨1,50,8000,[1]⟩:aA)] hr_34) ⟨eX.refl _,eX.one (eD.d (gX.sl (.inl rfl) (by intro i hi j hj;match i,j,hi,hj with|0,0,_,_=>exact .refl _|0,1,_,_=>exact .refl _|0,2,_,_=>exact .refl _|0,3,_,_=>exact gX.oP|1,0,_,_=>exact .refl _|1,1,_,_=>exact .refl _|1,2,_,_=>exact .refl _|1,3,_,_=>exact gX.oP))),trivial⟩) (by kernel_rfl) ⟨rfl,trivial⟩ rfl),trivial⟩),(hb16),(hb17),((fun h=>Bool.noConfusion (show false=true from h.1))),(hb17),((fun h=>Bool.noConfusion (show false=true from h.1))),(hb17),((fun h=>Bool.noConfusion (show false=true from h.1))),(hb17),trivial⟩) (bZ.le (st':=⟨[(0,(vB false))],[]⟩) ⟨⟨⟨_,rfl,dY.v (eX.one (eD.of (congrArg (fun b=>CV.d (.bool b)) (Ct hb17))))⟩,trivial⟩,trivial⟩) ?_
        refine aR ?_
        obtain rfl:=oi h
        exact rl [(sB false)]
      ·skip
       refine bI h (fun hb18 h=> ?_) (fun hb18 h=> ?_)
       ·skip
        refine bE h fun x0 hr_36 h=> ?_
        refine ri tT (YE u8 v3 x0) (eqs (decide (u8.2=0)) 3 [(cu u8 v3)=false, ¬ gP (kH u8) [(6,true)],(cu u8 v3)=false, ¬ gP (kH u8) [(6,true)],(cu u8 v3)=false, ¬ gP (kH u8) [(6,true)],(cu u8 v3)=false, ¬ gP (kH u8) [(6,true)],(cu u8 v3)=false, ¬ gP (kH u8) [(6,true)],(cu u8 v3)=false, ¬ gP (kH u8) [(6,true)],(cu u8 v3)=false, ¬ gP (kH u8) [(6,true)],(cu u8 v3)=false,(xN u8 v3)=true,(xN u8 v3)=true,gP (kH u8) [(15,true)]→All [[13334,8000].length=2,aY 2 1 (jf 1 P8) (aN (aC .i64) [13334,8000])],gP (kH u8) [(15,true)],(xN u8 v3)=true,gP (kH u8) [(15,true)]→All [Fn Try.prog 54 [(sD (L8 v3)),(.one (.own 121 true ([13334,8000].length)))] [(121,some DT)] (vB x0) [(121,some DT)]],(xN u8 v3)=true]) {yb:=[(2,(decide (u8.2=0))),(6,false),(15,true)],an:=[(7, .skip),(8, .skip),(9, .skip),(10, .skip),(11, .skip),(12, .skip),(13, .skip),(17, .arr [13334,8000].length (aN (aC .i64) [13334,8000])),(18, .callR [121] (vB x0))],fr:=[(17,121)] } [] (ae ⟨(hb16),((fun h=>Bool.noConfusion (show false=true from h.1))),(hb16),((fun h=>Bool.noConfusion (show false=true from h.1))),(hb16),((fun h=>Bool.noConfusion (show false=true from h.1))),(hb16),((fun h=>Bool.noConfusion (show false=true from h.1))),(hb16),((fun h=>Bool.noConfusion (show false=true from h.1))),(hb16),((fun h=>Bool.noConfusion (show false=true from h.1))),(hb16),((fun h=>Bool.noConfusion (show false=true from h.1))),(hb16),(hb18),(hb18),(fun hg=> ⟨(rfl),((by intro i hi j hj;match i,j,hi,hj with|0,0,_,_=>rfl|1,0,_,_=>rfl)),trivial⟩),(⟨rfl,trivial⟩),(hb18),(fun hg=> ⟨(Fn.xP (frz:=[121]) (p:=[[13334,8000].length=[13334,8000].length]) (Fn.le (args':=(Qg v3)) (dX v3.1 [13334,8000] hr_36) ⟨eX.one (eD.d gX.oP),eX.one (eD.d gX.oP),trivial⟩) (by kernel_rfl) ⟨rfl,trivial⟩ rfl),trivial⟩),(hb18),trivial⟩) (bZ.le (st':=⟨[(0,(vB x0))],[]⟩) ⟨⟨⟨_,rfl,dY.v (eX.one (eD.of (congrArg (fun b=>CV.d (.bool b)) (CJ hb18))))⟩,trivial⟩,trivial⟩) ?_
        refine aR ?_
        obtain rfl:=oi h
        exact rl [(sB x0)]
       ·skip
        refine ri tT (YL u8 v3) (YC u8 v3) {yb:=[(2,(decide (u8.2=0))),(6,false),(15,false)],an:=[(7, .skip),(8, .skip),(9, .skip),(10, .skip),(11, .skip),(12, .skip),(13, .skip),(16, .skip),(17, .skip),(18, .skip)] } [] (ae ⟨(hb16),((fun h=>Bool.noConfusion (show false=true from h.1))),(hb16),((fun h=>Bool.noConfusion (show false=true from h.1))),(hb16),((fun h=>Bool.noConfusion (show false=true from h.1))),(hb16),((fun h=>Bool.noConfusion (show false=true from h.1))),(hb16),((fun h=>Bool.noConfusion (show false=true from h.1))),(hb16),((fun h=>Bool.noConfusion (show false=true from h.1))),(hb16),((fun h=>Bool.noConfusion (show false=true from h.1))),(hb16),(hb18),((fun h=>Bool.noConfusion (show false=true from h.1))),(hb18),((fun h=>Bool.noConfusion (show false=true from h.1))),(hb18),((fun h=>Bool.noConfusion (show false=true from h.1))),(hb18),trivial⟩) (bZ.le (st':=⟨[(0,(vB false))],[]⟩) ⟨⟨⟨_,rfl,dY.v (eX.one (eD.of (congrArg (fun b=>CV.d (.bool b)) (Ct hb18))))⟩,trivial⟩,trivial⟩) ?_
        refine aR ?_
        obtain rfl:=oi h
        exact rl [(sB false)]
def ND  :Int→Exit→St→Prop:=
  fun r=>bR TT [.tmp 4] (vI r) []
theorem LG (x:Int) (n:Int) {r:Int} (h:wz x n=some r):Fn Try.prog 14 [(sI x),(sI n)] [] (vI r) []:=by
 refine fN tT Try.func14 rfl rfl fun B=> ?_
 show bW _ _ _ _ _ _ (ND r) _
 unfold wz at h
 refine sz tT ⟨[(0,(vI x)),(1,(vI n))],[]⟩ {} [] ?_
 refine aQ (sz tT ⟨[(0,(vI x)),(1,(vI n)),(7,(vB (decide (n<1))))],[]⟩ {} [] ?_)
 refine bI h (fun hb1 h=> ?_) (fun hb1 h=> ?_)
 ·refine ct hb1 ?_
  refine sz tT ⟨[(4,(vI 0))],[]⟩ {} [] ?_
  refine aR ?_
  obtain rfl:=oi h
  exact rl [(sI 0)]
 ·refine cf hb1 ?_
  refine aP (aQ (aO h fun a1 h=> ?_))
  refine rg tT ⟨[(1,(vI n)),(5,(vI (Int.tmod x n)))],[]⟩ [_] {} [] ⟨a1,trivial⟩ ?_
  refine aQ (sz tT ⟨[(1,(vI n)),(5,(vI (Int.tmod x n))),(12,(vB (decide ((Int.tmod x n)<0))))],[]⟩ {} [] ?_)
  refine bI h (fun hb h=> ?_) (fun hb h=> ?_)
  ·refine ct hb ?_
   refine rz tT ⟨[(5,(vI (IntKind.wrap .i64 ((Int.tmod x n)+n))))],[]⟩ {} [] ?_
   refine sz tT ⟨[(4,(vI (IntKind.wrap .i64 ((Int.tmod x n)+n))))],[]⟩ {} [] ?_
   refine aR ?_
   obtain rfl:=oi h
   exact rl [(sI (IntKind.wrap .i64 ((Int.tmod x n)+n)))]
  ·refine cf hb ?_
   refine aP (sz tT ⟨[(4,(vI (Int.tmod x n)))],[]⟩ {} [] ?_)
   refine aR ?_
   obtain rfl:=oi h
   exact rl [(sI (Int.tmod x n))]
def CS  :(Int × (List aj) × (List aM) × (List aK) × (List Bool) × (List Bool) × (List Bool) × (List Bool) × (List Bool) × (List Bool) × (List Bool))→Exit→St→Prop:=
  fun r=>bR TT [.tmp 4] (vD (.fn 146 2 (mM [(kK [(.int .i64 r.1),(bg none 5 aj.cell r.2.1),(bg none 6 aM.cell r.2.2.1),(bg none 4 aK.cell r.2.2.2.1)] 0),(kK [(bg none 1 aD r.2.2.2.2.1),(bg none 1 aD r.2.2.2.2.2.1),(bg none 1 aD r.2.2.2.2.2.2.1),(bg none 1 aD r.2.2.2.2.2.2.2.1),(bg none 1 aD r.2.2.2.2.2.2.2.2.1),(bg none 1 aD r.2.2.2.2.2.2.2.2.2.1),(bg none 1 aD r.2.2.2.2.2.2.2.2.2.2)] 0)]))) []
section
variable (p:au) (s_:ay)
abbrev aey:=(mM [(k10 p),(k75 s_)])
end
theorem BQ (p:au) (s_:ay) {r:(Int × (List aj) × (List aM) × (List aK) × (List Bool) × (List Bool) × (List Bool) × (List Bool) × (List Bool) × (List Bool) × (List Bool))} (h:kT p s_=some r):Fn Try.prog 115 (YI s_ p) [] (vD (.fn 146 2 (mM [(kK [(.int .i64 r.1),(bg none 5 aj.cell r.2.1),(bg none 6 aM.cell r.2.2.1),(bg none 4 aK.cell r.2.2.2.1)] 0),(kK [(bg none 1 aD r.2.2.2.2.1),(bg none 1 aD r.2.2.2.2.2.1),(bg none 1 aD r.2.2.2.2.2.2.1),(bg none 1 aD r.2.2.2.2.2.2.2.1),(bg none 1 aD r.2.2.2.2.2.2.2.2.1),(bg none 1 aD r.2.2.2.2.2.2.2.2.2.1),(bg none 1 aD r.2.2.2.2.2.2.2.2.2.2)] 0)]))) []:=by
 refine fN tT Try.func115 rfl rfl fun B=> ?_
 show bW _ _ _ _ _ _ (CS r) _
 unfold kT at h
 refine sz tT (abJ p s_) {fr:=[(0,2),(1,3)] } [2,3] ?_
 refine sz tT ⟨[(4,(vD (.fn 146 2 (aey p s_))))],[]⟩ {} [] ?_
 refine aR ?_
 obtain rfl:=oi h
 exact rl [(sD (.fn 146 2 (aey p s_)))]
noncomputable def eF:nI:=⟨[22],FU ([1,1,0,1,0]++[0]) (jX Try.f70),FU ([1,1,0,1,0]++[1]) (jX Try.f70),125,[]⟩
section
variable (g:aW)
abbrev VF:Ob:=(Kl 3 3 false false 1 1 (aC .i64) (aC .i64) g.head)
abbrev U6:List (Nat × Option Ob):=[(0,some (VF g))]
end
def kQ (g:aW):Int→Exit→St→Prop:=
  fun r=>bR TT [.tmp 4] (vI r) (U6 g)
section
variable (g:aW) (x1:Int)
abbrev Uj:List (Nat × Option Ob):=[(0,some (VF g)),(2,some (.cells 215 [(.mp 0)]))]
abbrev afT:St:=⟨[(1,(vI x1)),(2,(vP 2 0))],(Uj g)⟩
end
def pF (g:aW):Int→St:=
  fun x1=>(afT g x1)
def o8  :Unit→St:=
  fun _=> ⟨[],[]⟩
def zW (g:aW):(bn Int (Ex Unit Int))→Exit→St→Prop:=
  LQ 0 [] (pF g) o8 (kQ g)
theorem iD (g:aW) (x:Int) {r:Int} (h:dB g x=some r):Fn Try.prog 117 [(.agg [(.mp 0)]),(sI x)] (U6 g) (vI r) (U6 g):=by
 refine fN tT Try.func117 rfl rfl fun B=> ?_
 show bW _ _ _ _ _ _ ((kQ g) r) _
 unfold dB at h
 refine sz tT (afT g x) {fr:=[(0,2)] } [] ?_
 refine bE h fun y hy h=> ?_
 refine aL [] (pF g) o8 (kQ g) hy (fun s f h=> ?_) ?_
 ·clear hy
  show bW _ _ _ _ _ _ ((zW g) f) _
  unfold eu at h
  obtain⟨x1,rfl⟩: ∃q,q=s:=⟨_,rfl⟩
  refine aB (sg tT ⟨[(1,(vI x1)),(2,(vP 2 0)),(5,(vI ((dh gm x1 g.head).getD 0))),(6,(vB ((dh gm x1 g.head).isSome)))],(Uj g)⟩ [EU [some .i64] 1 1 g.head.length (vG (aC .i64) g.head) (xH (aC .i64) g.head) [(.int .i64 x1)] [(.d (.int .i64 0))] (dh gm x1 g.head).isSome [(cI ((dh gm x1 g.head).getD 0))]] {an:=[(3, .look (dh gm x1 g.head).isSome [(cI ((dh gm x1 g.head).getD 0))])] } [] ⟨(zO (fun _=>rfl) (fun _ _=>rfl) g.head x1 0 rfl rfl rfl),trivial⟩ ?_)
  refine aQ (sz tT ⟨[(1,(vI x1)),(2,(vP 2 0)),(5,(vI ((dh gm x1 g.head).getD 0))),(15,(vB (!((dh gm x1 g.head).isSome))))],(Uj g)⟩ {} [] ?_)
  refine bI h (fun hb h=> ?_) (fun hb h=> ?_)
  ·refine ct hb ?_
   refine sz tT ⟨[(4,(vI x1))],(U6 g)⟩ {} [] ?_
   refine aR ?_
   obtain rfl:=oi h
   exact lR dP (dQ 0) dO (bR.mk (.inr rfl) (p:=[]) (l:=[(sI x1)]) (by kernel_rfl) trivial (dY.refl _) (.refl _))
  ·refine cf hb ?_
   refine aP (rz tT ⟨[(1,(vI ((dh gm x1 g.head).getD 0))),(2,(vP 2 0))],(Uj g)⟩ {} [] ?_)
   obtain rfl:=oi h
   exact lN
 ·clear hy
  cases y with
  |brk z=>exact absurd h (by simp)
  |ret v=>
   obtain rfl:=oi h
   unfold fT
   intro e st hn ha hR
   cases e with
   |normal=>exact absurd rfl hn
   |exit id=>exact hR
   |goto l=>exact hR
   |ret=>exact hR
   |panic c=>exact hR
   |outgrown=>exact hR
def BL  :(List (Int × Int))→Exit→St→Prop:=
  fun r=>bR TT [] (.iG []) [(0,some (Kl 3 3 false false 1 1 (aC .i64) (aC .i64) r))]
section
variable (a:Int) (b:Int) (g:aW)
abbrev agJ:St:=⟨[(1,(vI a)),(2,(vI b)),(3,(vP 2 0))],(Uj g)⟩
end
theorem Aw (g:aW) (a:Int) (b:Int) {r:(List (Int × Int))} (h:iN g a b=some r):Fn Try.prog 116 [(.agg [(.mp 0)]),(sI a),(sI b)] (U6 g) (.iG []) [(0,some (Kl 3 3 false false 1 1 (aC .i64) (aC .i64) r))]:=by
 refine fN tT Try.func116 rfl rfl fun B=> ?_
 show bW _ _ _ _ _ _ (BL r) _
 unfold iN at h
 refine sz tT (agJ a b g) {fr:=[(0,2)] } [] ?_
 refine aQ (bE h fun r_ hr_ h=> ?_)
 refine bE h fun u0 hr_1 h=> ?_
 have q0:=iD g a hr_
 have q1:=iD g b hr_1
 refine dg tT mX (agJ r_ u0 g) [_,_] {an:=[(2,cR q0 [0]),(5,cR q1 [0])] } [] ⟨q0,q1,trivial⟩ ?_
 refine sz tT ⟨[(1,(vI r_)),(2,(vI u0)),(3,(vP 2 0)),(14,(vB (!decide (r_=u0))))],(Uj g)⟩ {} [] ?_
 refine bI h (fun hb h=> ?_) (fun hb h=> ?_)
 ·refine ct hb ?_
  refine rg tT ⟨[],[(0,some (Kl 3 3 false false 1 1 (aC .i64) (aC .i64) (dZ gm r_ u0 g.head)))]⟩ [Ep [some .i64] 1 1 g.head.length (vG (aC .i64) g.head) (xH (aC .i64) g.head) [(.int .i64 r_)] [(cI u0)] [] (dZ gm r_ u0 g.head).length (vG (aC .i64) (dZ gm r_ u0 g.head)) (xH (aC .i64) (dZ gm r_ u0 g.head))] {an:=[(4, .map (dZ gm r_ u0 g.head).length (vG (aC .i64) (dZ gm r_ u0 g.head)) (xH (aC .i64) (dZ gm r_ u0 g.head)) [])] } [] ⟨(su (fun _=>rfl) (fun _ _=>rfl) g.head r_ u0 rfl rfl),trivial⟩ ?_
  obtain rfl:=oi h
  exact bR.mk (.inl rfl) (p:=[]) (l:=[]) (by kernel_rfl) trivial (dY.refl _) (.refl _)
 ·refine cf hb ?_
  refine aI (fz ⟨[],(U6 g)⟩ []) ?_
  refine aP ?_
  obtain rfl:=oi h
  exact bR.mk (.inl rfl) (p:=[]) (l:=[]) (by kernel_rfl) trivial (dY.refl _) (.refl _)
abbrev RN:Nat × Option Ob:=(0,some (.loop eF 0 [(5,(vP 1 0))]))
abbrev N9:Nat × Option Ob:=(1,some (.cells 215 [(.mp 2)]))
def Be  :aW→Exit→St→Prop:=
  fun r=>lF 0 eF (vB true) [RN,N9,(2,some (Kl 3 3 false false 1 1 (aC .i64) (aC .i64) r.head))]
section
variable (o_:aW) (u0:Int) (u1:Int) (u2:Int) (u3:Int) (u4:Int) (u5:(List ic))
abbrev JS:List (Nat × Option Ob):=[RN,N9,(2,some (VF o_))]
abbrev aaN:List (Nat × TV):=[(5,(vP 1 0)),(6,(vD (kK [(.int .i64 u0),(.int .i64 u1),(.int .i64 u2),(.int .i64 u3),(.int .i64 u4),(bg none 2 ic.cell u5)] 0)))]
end
theorem z8 (u0:Int) (u1:Int) (u2:Int) (u3:Int) (u4:Int) (u5:(List ic)) (o_:aW) {r:aW} (h:jD u0 u1 u2 u3 u4 u5 o_=some r):Yl Try.prog 0 [(.agg [(cI u0),(cI u1),(cI u2),(cI u3),(cI u4),(.d (bg none 2 ic.cell u5))])] (JS o_) (vB true) [RN,N9,(2,some (Kl 3 3 false false 1 1 (aC .i64) (aC .i64) r.head))]:=by
 refine Ck (r:=eF) (sl:=[(5,(vP 1 0))]) (sl1:=(aaN u0 u1 u2 u3 u4 u5)) (h1:=(JS o_)) (sl2:=[(5,(vP 1 0))]) (by kernel_rfl) rfl rfl (by kernel_rfl) (fun rd B=> ?_) (by kernel_rfl) (fun rd B=> ?_)
 ·refine om (c:=FU ([1,1,0,1,0]++[0]) (jX Try.f70)) rfl ?_
  refine lC (st:=⟨[(22,(.v (.agg [(cI u0),(cI u1),(cI u2),(cI u3),(cI u4),(.d (bg none 2 ic.cell u5))]))),(5,(vP 1 0))],(JS o_)⟩) (by kernel_rfl) ?_
  refine rz tT ⟨(aaN u0 u1 u2 u3 u4 u5),(JS o_)⟩ {fr:=[(0,4)] } [4] ?_
  exact⟨rfl,rfl⟩
 ·refine om (c:=FU ([1,1,0,1,0]++[1]) (jX Try.f70)) rfl ?_
  refine lC (st:=⟨(aaN u0 u1 u2 u3 u4 u5),[(0,some (.loop eF 1 [(5,(vP 1 0))])),N9,(2,some (VF o_))]⟩) (by kernel_rfl) ?_
  show bW _ _ _ _ _ _ (Be r) _
  unfold jD at h
  refine aB (bE h fun r_ hr_ h=> ?_)
  have q0:=rk [(0,2)] (Aw o_ u0 u1 hr_)
  refine rg tT ⟨[],[(0,some (.loop eF 1 [(5,(vP 1 0))])),N9,(2,some (Rl r_))]⟩ [_] {an:=[(5,cA q0 [2])] } [] ⟨q0,trivial⟩ ?_
  obtain rfl:=oi h
  exact lF.on (sl:=[(5,(vP 1 0))]) (by kernel_rfl) (xV (by kernel_rfl)) (dY.refl _)
def kW  :aW→Exit→St→Prop:=
  fun r=>bR TT [] (.iG []) [RN,N9,(2,some (Kl 3 3 false false 1 1 (aC .i64) (aC .i64) r.head))]
section
variable (u0:(List aM)) (u7:(List (Int × Int)))
abbrev Q7:Nat × TV:=(7,(vD (bg none 6 aM.cell u0)))
abbrev Rb:Nat × TV:=(8,(vI (u0.length:Int)))
abbrev OZ:List (Nat × Option Ob):=[RN,N9,(2,some (Rl u7))]
end
def pq (u0:(List aM)) (x2:(List Bool)) (u1:(List Bool)) (u2:(List Bool)) (u3:(List Bool)) (u4:(List Bool)) (u5:(List Bool)) (u6:(List Bool)):((List (Int × Int)) × Int)→St:=
  fun zz=>match zz with|(u7,t9)=> ⟨[dW,(xO x2 u1 u2 u3 u4 u5 u6),(Q7 u0),(Rb u0),(9,(vI t9))],(OZ u7)⟩
def o9  :(List (Int × Int))→St:=
  fun o501=> ⟨[],[RN,N9,(2,some (Kl 3 3 false false 1 1 (aC .i64) (aC .i64) o501))]⟩
def Ad (u0:(List aM)) (x2:(List Bool)) (u1:(List Bool)) (u2:(List Bool)) (u3:(List Bool)) (u4:(List Bool)) (u5:(List Bool)) (u6:(List Bool)):(bn ((List (Int × Int)) × Int) (Ex (List (Int × Int)) aW))→Exit→St→Prop:=
  LQ 0 [] (pq u0 x2 u1 u2 u3 u4 u5 u6) o9 kW
section
variable (x2:(List Bool)) (t9:Int) (u1:(List Bool)) (u2:(List Bool)) (u0:(List aM)) (u3:(List Bool)) (u4:(List Bool)) (u5:(List Bool)) (u6:(List Bool))
abbrev M9:=(bif (at' x2 t9.toNat)then(!(at' u1 t9.toNat))else false)
abbrev NI:=(bif (M9 x2 t9 u1)then(!(at' u2 (((at' u0 t9.toNat).a).toNat)))else false)
abbrev KR:=(bif (NI x2 t9 u1 u2 u0)then(!(at' u2 (((at' u0 t9.toNat).b).toNat)))else false)
abbrev ahA:List (Nat × TV):=[dW,(xO x2 u3 u1 u4 u5 u6 u2),(Q7 u0),(Rb u0),(9,(vI t9)),(50,(vB (bif (KR x2 t9 u1 u2 u0)then false else false)))]
abbrev Wn:=(jq [(5,(at' x2 t9.toNat)),(13,(M9 x2 t9 u1)),(22,(NI x2 t9 u1 u2 u0)),(31,true)])
abbrev af7:List (Nat × TV):=[dW,(xO x2 u3 u1 u4 u5 u6 u2),(Q7 u0),(Rb u0),(9,(vI t9)),(50,(vB false))]
abbrev ael:List (Nat × TV):=[dW,(xO x2 u3 u1 u4 u5 u6 u2),(Q7 u0),(Rb u0),(9,(k3 t9))]
abbrev RQ:=(jq [(5,(at' x2 t9.toNat)),(13,(M9 x2 t9 u1)),(22,(NI x2 t9 u1 u2 u0)),(31,false)])
end
theorem zB (x1:Int) (u8:(List aj)) (u0:(List aM)) (u9:(List aK)) (x2:(List Bool)) (u3:(List Bool)) (u1:(List Bool)) (u4:(List Bool)) (u5:(List Bool)) (u6:(List Bool)) (u2:(List Bool)) (o_:aW) {r:aW} (h:jF x1 u8 u0 u9 x2 u3 u1 u4 u5 u6 u2 o_=some r):Fn Try.prog 146 [(.one (.yl 0)),(sD (k12 u8 u9 x1 u0)),(sD (abH x2 u3 u1 u4 u5 u6 u2))] (JS o_) (.iG []) [RN,N9,(2,some (Kl 3 3 false false 1 1 (aC .i64) (aC .i64) r.head))]:=by
 refine fN tT Try.func146 rfl rfl fun B=> ?_
 show bW _ _ _ _ _ _ (kW r) _
 unfold jF at h
 refine sz tT ⟨[dW,(xO x2 u3 u1 u4 u5 u6 u2),(Q7 u0),(Rb u0),(9,(vI 0))],(JS o_)⟩ {} [] ?_
 refine bE h fun y hy h=> ?_
 refine aL [] (pq u0 x2 u3 u1 u4 u5 u6 u2) o9 kW hy (fun s f h=> ?_) ?_
 ·clear hy
  show bW _ _ _ _ _ _ ((Ad u0 x2 u3 u1 u4 u5 u6 u2) f) _
  unfold dJ at h
  obtain⟨u7,t9⟩:=s
  refine sz tT ⟨[dW,(xO x2 u3 u1 u4 u5 u6 u2),(Q7 u0),(Rb u0),(9,(vI t9)),(10,(vB (decide (t9<(u0.length:Int)))))],(OZ u7)⟩ {} [] ?_
  refine aQ ?_
  refine bI h (fun hb1 h=> ?_) (fun hb1 h=> ?_)
  ·refine ct hb1 ?_
   refine aP (aQ (aB (aQ (aO h fun a1 h=> ?_))))
   refine rg tT ⟨[dW,(xO x2 u3 u1 u4 u5 u6 u2),(4,(vI t9)),(5,(aec u0 t9)),(Q7 u0),(Rb u0),(9,(vI t9))],(OZ u7)⟩ [_] {fr:=[(3,10)] } [10] ⟨a1,trivial⟩ ?_
   refine aQ ?_
   refine bI h (fun hb h=> ?_) (fun hb h=> ?_)
   ·skip
    refine bE h fun r_ hr_ h=> ?_
    refine aO h fun⟨a1,a2,a3,a4⟩ h=> ?_
    refine ri tT ⟨(ahA x2 t9 u1 u2 u0 u3 u4 u5 u6),(JS r_)⟩ (_::(eqs (at' x2 t9.toNat) 4 ((gP (Wn x2 t9 u1 u2 u0) [(5,true)]→All [(0:Int)≤t9∧t9<(u1.length:Int)])::(eqs (at' x2 t9.toNat) 3 (eqs (M9 x2 t9 u1) 5 ((gP (Wn x2 t9 u1 u2 u0) [(13,true)]→All [(0:Int)≤(at' u0 t9.toNat).a∧(at' u0 t9.toNat).a<(u2.length:Int)])::(eqs (M9 x2 t9 u1) 3 (eqs (NI x2 t9 u1 u2 u0) 5 ((gP (Wn x2 t9 u1 u2 u0) [(22,true)]→All [(0:Int)≤(at' u0 t9.toNat).b∧(at' u0 t9.toNat).b<(u2.length:Int)])::(eqs (NI x2 t9 u1 u2 u0) 3 [(KR x2 t9 u1 u2 u0)=true,(KR x2 t9 u1 u2 u0)=true,(KR x2 t9 u1 u2 u0)=true,gP (Wn x2 t9 u1 u2 u0) [(31,true)]→All [Yl Try.prog 0 [(.agg [(cI ((at' u0 t9.toNat).a)),(cI ((at' u0 t9.toNat).b)),(cI ((at' u0 t9.toNat).kind)),(cI ((at' u0 t9.toNat).most)),(cI ((at' u0 t9.toNat).bU)),(.d (bg none 2 ic.cell ((at' u0 t9.toNat).trip)))])] (OZ u7) (vB true) (JS r_)],gP (Wn x2 t9 u1 u2 u0) [(31,true)],(KR x2 t9 u1 u2 u0)=true,(KR x2 t9 u1 u2 u0)=true])))))))))) {yb:=[(5,(at' x2 t9.toNat)),(13,(M9 x2 t9 u1)),(22,(NI x2 t9 u1 u2 u0)),(31,true)],an:=[(34, .call [0,1,2] (vB true) (JS r_))] } [] ⟨a1,(ae ⟨(fun hg=> ⟨(a2 (bD hg)),trivial⟩),(ae (ae ⟨(fun hg=> ⟨(a3 (bD hg)),trivial⟩),(ae (ae ⟨(fun hg=> ⟨(a4 (bD hg)),trivial⟩),(ae ⟨(hb),(hb),(hb),(fun hg=> ⟨(z8 ((at' u0 t9.toNat).a) ((at' u0 t9.toNat).b) ((at' u0 t9.toNat).kind) ((at' u0 t9.toNat).most) ((at' u0 t9.toNat).bU) ((at' u0 t9.toNat).trip) (⟨u7⟩:aW) hr_),trivial⟩),(⟨rfl,trivial⟩),(hb),(hb),trivial⟩)⟩))⟩))⟩)⟩ (bZ.le (st':=⟨(af7 x2 t9 u1 u2 u0 u3 u4 u5 u6),(JS r_)⟩) ⟨⟨tR,tR,tR,tR,tR,⟨_,rfl,dY.v (eX.one (eD.of (congrArg (fun b=>CV.d (.bool b)) (CJ hb))))⟩,trivial⟩,(.refl _)⟩) ?_
    refine cn (aP (rz tT ⟨(ael x2 t9 u1 u2 u0 u3 u4 u5 u6),(JS r_)⟩ {} [] ?_))
    obtain rfl:=oi h
    exact lN
   ·skip
    refine aO h fun⟨a1,a2,a3,a4⟩ h=> ?_
    refine ri tT ⟨(ahA x2 t9 u1 u2 u0 u3 u4 u5 u6),(OZ u7)⟩ (_::(eqs (at' x2 t9.toNat) 4 ((gP (RQ x2 t9 u1 u2 u0) [(5,true)]→All [(0:Int)≤t9∧t9<(u1.length:Int)])::(eqs (at' x2 t9.toNat) 3 (eqs (M9 x2 t9 u1) 5 ((gP (RQ x2 t9 u1 u2 u0) [(13,true)]→All [(0:Int)≤(at' u0 t9.toNat).a∧(at' u0 t9.toNat).a<(u2.length:Int)])::(eqs (M9 x2 t9 u1) 3 (eqs (NI x2 t9 u1 u2 u0) 5 ((gP (RQ x2 t9 u1 u2 u0) [(22,true)]→All [(0:Int)≤(at' u0 t9.toNat).b∧(at' u0 t9.toNat).b<(u2.length:Int)])::(eqs (NI x2 t9 u1 u2 u0) 3 [(KR x2 t9 u1 u2 u0)=false, ¬ gP (RQ x2 t9 u1 u2 u0) [(31,true)],(KR x2 t9 u1 u2 u0)=false, ¬ gP (RQ x2 t9 u1 u2 u0) [(31,true)],(KR x2 t9 u1 u2 u0)=false, ¬ gP (RQ x2 t9 u1 u2 u0) [(31,true)],(KR x2 t9 u1 u2 u0)=false, ¬ gP (RQ x2 t9 u1 u2 u0) [(31,true)],(KR x2 t9 u1 u2 u0)=false])))))))))) {yb:=[(5,(at' x2 t9.toNat)),(13,(M9 x2 t9 u1)),(22,(NI x2 t9 u1 u2 u0)),(31,false)],an:=[(32, .skip),(33, .skip),(34, .skip),(35, .skip)] } [] ⟨a1,(ae ⟨(fun hg=> ⟨(a2 (bD hg)),trivial⟩),(ae (ae ⟨(fun hg=> ⟨(a3 (bD hg)),trivial⟩),(ae (ae ⟨(fun hg=> ⟨(a4 (bD hg)),trivial⟩),(ae ⟨(hb),((fun h=>Bool.noConfusion (show false=true from h.1))),(hb),((fun h=>Bool.noConfusion (show false=true from h.1))),(hb),((fun h=>Bool.noConfusion (show false=true from h.1))),(hb),((fun h=>Bool.noConfusion (show false=true from h.1))),(hb),trivial⟩)⟩))⟩))⟩)⟩ (bZ.le (st':=⟨(af7 x2 t9 u1 u2 u0 u3 u4 u5 u6),(OZ u7)⟩) ⟨⟨tR,tR,tR,tR,tR,⟨_,rfl,dY.v (eX.one (eD.of (congrArg (fun b=>CV.d (.bool b)) (Ct hb))))⟩,trivial⟩,(.refl _)⟩) ?_
    refine cn (aP (rz tT ⟨(ael x2 t9 u1 u2 u0 u3 u4 u5 u6),(OZ u7)⟩ {} [] ?_))
    obtain rfl:=oi h
    exact lN
  ·refine cf hb1 ?_
   refine aI (fz ⟨[],(OZ u7)⟩ []) ?_
   refine aX ?_
   obtain rfl:=oi h
   exact lB
 ·clear hy
  cases y with
  |brk z=>
   obtain⟨o501,rfl⟩: ∃q,q=z:=⟨_,rfl⟩
   unfold fT
   refine⟨_, .refl, ?_⟩
   obtain rfl:=oi h
   exact bR.mk (.inl rfl) (p:=[]) (l:=[]) (by kernel_rfl) trivial (dY.refl _) (.refl _)
  |ret v=>
   obtain rfl:=oi h
   unfold fT
   intro e st hn ha hR
   cases e with
   |normal=>exact absurd rfl hn
   |exit id=>exact hR
   |goto l=>exact hR
   |ret=>exact hR
   |panic c=>exact hR
   |outgrown=>exact hR
def jE  :(List aU)→Exit→St→Prop:=
  fun r=>bR TT [.tmp 4] (vD (bg none 2 aU.cell r)) []
section
variable (u0:(List aU)) (s_:ay) (p:au) (u3:Int) (u1:aW) (u2:(List (Int × Int)))
abbrev BJ:Nat × TV:=(7,(vO 60 false u0.length))
abbrev pW:Nat × TV:=(8,(.v (.one (.mp 61))))
abbrev afP:List (Nat × TV):=[(2,(vP 55 0)),(gQ s_),(5,(vP 58 0)),(BJ u0),pW,(31,(vI p.ax)),(32,(vI u3))]
abbrev F6:Nat × Option Ob:=(55,some (XH p))
abbrev DZ:Nat × Option Ob:=(57,some (VF u1))
abbrev BO:Nat × Option Ob:=(58,some (.cells 215 [(.mp 57)]))
abbrev Yq:Nat × Option Ob:=(60,some (.rows 123 2 u0.length (ni aU.ev u0) none))
abbrev TJ:Nat × Option Ob:=(61,some (Rl u2))
abbrev Lr:List (Nat × Option Ob):=[(F6 p),(DZ u1),BO,(Yq u0),(TJ u2)]
end
def vV (p:au) (s_:ay) (u1:aW):((List aU) × (List (Int × Int)) × Int)→St:=
  fun zz=>match zz with|(u0,u2,u3)=> ⟨(afP u0 s_ p u3),(Lr u0 p u1 u2)⟩
section
variable (s_:ay) (u0:(List aU)) (p:au) (u1:aW) (u2:(List (Int × Int)))
abbrev aeY:St:=⟨[(2,(vP 55 0)),(gQ s_),(5,(vP 58 0)),(BJ u0),pW],(Lr u0 p u1 u2)⟩
end
def wH (p:au) (s_:ay) (u1:aW):((List aU) × (List (Int × Int)))→St:=
  fun zz=>match zz with|(u0,u2)=>(aeY s_ u0 p u1 u2)
def Ez (p:au) (s_:ay) (u0:aW):(bn ((List aU) × (List (Int × Int)) × Int) (Ex ((List aU) × (List (Int × Int))) (List aU)))→Exit→St→Prop:=
  LQ 2 [] (vV p s_ u0) (wH p s_ u0) jE
section
variable (p:au) (s_:ay) (u0:(List aU)) (u3:Int) (u1:aW) (u2:(List (Int × Int)))
abbrev NU:Nat × TV:=(76,(vD (bg none 5 aj.cell p.ai)))
abbrev Nz:Nat × TV:=(77,(vI (p.ai.length:Int)))
abbrev ah5:List (Nat × TV):=[(gQ s_),(5,(vP 58 0)),(BJ u0),pW,(NU p),(Nz p),(78,(vI u3))]
abbrev Q0:List (Nat × Option Ob):=[(DZ u1),BO,(Yq u0),(TJ u2)]
end
def wK (p:au) (s_:ay) (u1:aW) (u2:(List (Int × Int))):((List aU) × Int)→St:=
  fun zz=>match zz with|(u0,u3)=> ⟨(ah5 p s_ u0 u3),(Q0 u0 u1 u2)⟩
section
variable (u0:(List aU))
abbrev afr:St:=⟨[(BJ u0)],[(Yq u0)]⟩
end
def xk  :(List aU)→St:=
  fun u0=>(afr u0)
def ES (p:au) (s_:ay) (u0:aW) (u1:(List (Int × Int))):(bn ((List aU) × Int) (Ex (List aU) (List aU)))→Exit→St→Prop:=
  LQ 4 [] (wK p s_ u0 u1) xk jE
section
variable (p:au) (r_:(Int × (List aj) × (List aM) × (List aK) × (List Bool) × (List Bool) × (List Bool) × (List Bool) × (List Bool) × (List Bool) × (List Bool))) (s_:ay) (u8:aW) (u3:Int) (u0:(List aU)) (u1:Int) (u2:(List (Int × Int))) (u6:(List aU)) (u7:Int) (u4:(List (Int × Int))) (u5:Int)
abbrev agn:Nat × Option Ob:=(57,some Tq)
abbrev aea:List (Nat × Option Ob):=[(F6 p),agn,BO]
abbrev abG:DV:=(kK [(.int .i64 r_.1),(bg none 5 aj.cell r_.2.1),(bg none 6 aM.cell r_.2.2.1),(bg none 4 aK.cell r_.2.2.2.1)] 0)
abbrev abz:DV:=(kK [(bg none 1 aD r_.2.2.2.2.1),(bg none 1 aD r_.2.2.2.2.2.1),(bg none 1 aD r_.2.2.2.2.2.2.1),(bg none 1 aD r_.2.2.2.2.2.2.2.1),(bg none 1 aD r_.2.2.2.2.2.2.2.2.1),(bg none 1 aD r_.2.2.2.2.2.2.2.2.2.1),(bg none 1 aD r_.2.2.2.2.2.2.2.2.2.2)] 0)
abbrev ahD:TV:=(vD (.fn 146 2 (mM [(abG r_),(abz r_)])))
abbrev adF:List (Nat × TV):=[(2,(vP 55 0)),(gQ s_),(5,(vP 58 0)),(21,(ahD r_))]
abbrev aeI:List (Nat × Option Ob):=[(F6 p),(DZ u8),BO]
abbrev adO:Nat × Option Ob:=(60,some (.rows 123 2 ([]:List aU).length (ni aU.ev ([]:List aU)) none))
abbrev afM:List (Nat × Option Ob):=[(F6 p),(DZ u8),BO,adO,(61,some Tq)]
abbrev XT:Nat × TV:=(32,(k3 u3))
abbrev af0:List (Nat × TV):=[(2,(vP 55 0)),(gQ s_),(5,(vP 58 0)),(BJ u0),pW,(9,(vI u3)),(10,(vI u1)),(31,(vI p.ax)),(32,(vI u3))]
abbrev rE:=((dh gm u1 u2).getD 0)
abbrev UJ:List CV:=[(cI (rE u1 u2))]
abbrev FN:=(dZ gm u1 (u0.length:Int) u2)
abbrev Vj:Nat × Option Ob:=(61,some (Kl 3 3 false false 1 1 (aC .i64) (aC .i64) (FN u0 u1 u2)))
abbrev Iu:=(u0++[(⟨([]:List Int),([]:List Int)⟩:aU)])
abbrev aas:Nat × TV:=(7,(vO 87 false ((Iu u0).length)))
abbrev Yr:=(ni aU.ev (Iu u0))
abbrev ahQ:List (Nat × Option Ob):=[(F6 p),(DZ u8),BO,(Vj u0 u1 u2),(87,some (.rows 123 2 (Iu u0).length (Yr u0) none))]
abbrev I6:=((dh gm u1 (FN u0 u1 u2)).getD 0)
abbrev acM:=((I6 u0 u1 u2).toNat)
abbrev ahg:=(at' (Iu u0) (acM u0 u1 u2))
abbrev Ny:=((ahg u0 u1 u2).ax)
abbrev R8:=((Ny u0 u1 u2)++[u3])
abbrev Zh:=((Iu u0).set (acM u0 u1 u2) (⟨(R8 u3 u0 u1 u2),(ahg u0 u1 u2).ai⟩:aU))
abbrev Xy:=(ni aU.ev (Zh u3 u0 u1 u2))
abbrev aeV:=((Ny u0 u1 u2).length+[u3].length)
abbrev ac3:=(aN (aC .i64) (R8 u3 u0 u1 u2))
abbrev af6:=((Zh u3 u0 u1 u2).length)
abbrev aeP:Nat × TV:=(7,(vO 87 false (af6 u3 u0 u1 u2)))
abbrev aai:List (Nat × Option Ob):=[(F6 p),(DZ u8),BO,(Vj u0 u1 u2),(87,some (.rows 123 2 (Zh u3 u0 u1 u2).length (Xy u3 u0 u1 u2) none))]
abbrev Ee:=((at' u0 ((rE u1 u2).toNat)).ax)
abbrev Kn:=((Ee u0 u1 u2)++[u3])
abbrev XE:=(u0.set ((rE u1 u2).toNat) (⟨(Kn u3 u0 u1 u2),(at' u0 ((rE u1 u2).toNat)).ai⟩:aU))
abbrev Sr:=(ni aU.ev (XE u3 u0 u1 u2))
abbrev WY:=(aN (aC .i64) (Kn u3 u0 u1 u2))
abbrev aaf:Nat × TV:=(7,(vO 60 false ((XE u3 u0 u1 u2).length)))
abbrev Z8:List (Nat × Option Ob):=[(F6 p),(DZ u8),BO,(60,some (.rows 123 2 (XE u3 u0 u1 u2).length (Sr u3 u0 u1 u2) none)),(TJ u2)]
abbrev Eo:=((at' u6 ((rE u7 u4).toNat)).ai)
abbrev JW:=((Eo u6 u7 u4)++[u5])
abbrev WZ:=(u6.set ((rE u7 u4).toNat) (⟨(at' u6 ((rE u7 u4).toNat)).ax,(JW u6 u7 u4 u5)⟩:aU))
abbrev Sy:=(ni aU.ev (WZ u6 u7 u4 u5))
abbrev Wz:=(aN (aC .i64) (JW u6 u7 u4 u5))
abbrev aad:Nat × TV:=(7,(vO 60 false ((WZ u6 u7 u4 u5).length)))
abbrev ZW:List (Nat × Option Ob):=[(DZ u8),BO,(60,some (.rows 123 2 (WZ u6 u7 u4 u5).length (Sy u6 u7 u4 u5) none)),(TJ u4)]
end
theorem E5 (p:au) (s_:ay) {r:(List aU)} (h:kZ p s_=some r):Fn Try.prog 70 (YI s_ p) [] (vD (bg none 2 aU.cell r)) []:=by
 refine fN tT Try.func70 rfl rfl fun B=> ?_
 show bW _ _ _ _ _ _ (jE r) _
 unfold kZ at h
 refine sz tT ⟨[(2,(vP 55 0)),(gQ s_)],[(F6 p)]⟩ {fr:=[(0,55),(1,56)] } [56] ?_
 refine sz tT ⟨[(2,(vP 55 0)),(gQ s_),(5,(vP 58 0))],(aea p)⟩ {an:=[(0, .map 0 (vG (aC .i64) ([]:(List (Int × Int)))) (xH (aC .i64) ([]:(List (Int × Int)))) [])],fr:=[(0,57),(2,58)] } [] ?_
 refine aQ (aQ (bE h fun r_ hr_ h=> ?_))
 have q0:=BQ p s_ hr_
 refine rg tT ⟨(adF r_ s_),(aea p)⟩ [_] {an:=[(2,cA q0 [])] } [] ⟨q0,trivial⟩ ?_
 refine aB (bE h fun u8 hr_1 h=> ?_)
 refine jd 59 [(5,(vP 58 0))] [] [59,58,57] (.iG []) [(59,some (.loop eF 0 [(5,(vP 58 0))])),BO,(DZ u8)] (ahD r_) 146 [] [(.d (abG r_)),(.d (abz r_))] [(59,some (.loop eF 0 [(5,(vP 58 0))])),BO,agn] [(.one (.yl 59)),(sD (abG r_)),(sD (abz r_))] eF 0 [(5,(vP 58 0))] (by kernel_rfl) (by kernel_rfl) (by kernel_rfl) (by kernel_rfl) (by kernel_rfl) (by kernel_rfl) (by kernel_rfl) (rK [(0,59),(1,58),(2,57)] (zB r_.1 r_.2.1 r_.2.2.1 r_.2.2.2.1 r_.2.2.2.2.1 r_.2.2.2.2.2.1 r_.2.2.2.2.2.2.1 r_.2.2.2.2.2.2.2.1 r_.2.2.2.2.2.2.2.2.1 r_.2.2.2.2.2.2.2.2.2.1 r_.2.2.2.2.2.2.2.2.2.2 (⟨([]:(List (Int × Int)))⟩:aW) hr_1)) (by kernel_rfl) rfl (Dm.zero rfl) (bZ.fin (st':=⟨(adF r_ s_),(aeI p u8)⟩) (cs:=[]) ⟨[],[(55,55),(57,57),(58,58)]⟩ [2,3,5,21] (by kernel_rfl) trivial) ?_
 refine si tT ⟨[(2,(vP 55 0)),(gQ s_),(5,(vP 58 0)),(7,(vD nS))],(aeI p u8)⟩ [] {} [] trivial (.trans (bZ.acp (t:=7) (b:=60) (esz0:=0) (el0:=fun _ _=> .nilp) (E:=123) (esz:=2) (el:=ni aU.ev ([]:List aU)) (ov:=none) (by kernel_rfl) (by kernel_rfl)) (.trans (fz ⟨[(2,(vP 55 0)),(gQ s_),(5,(vP 58 0)),(7,(vO 60 false 0))],[(F6 p),(DZ u8),BO,(60,some (.rows 123 2 0 (ni aU.ev ([]:List aU)) none))]⟩ []) (bZ.le (st':=⟨[(2,(vP 55 0)),(gQ s_),(5,(vP 58 0)),(7,(vO 60 false (([]:List aU).length)))],[(F6 p),(DZ u8),BO,adO]⟩) ⟨⟨tR,tR,tR,⟨_,rfl,dY.v (eX.one cW)⟩,trivial⟩,(hN 3 ⟨rfl,zJ (by simp only [List.length_set,List.length_append,List.length_cons,List.length_nil,List.length_replicate,List.length_drop]),trivial⟩)⟩))) ?_
 refine sz tT ⟨[(2,(vP 55 0)),(gQ s_),(5,(vP 58 0)),(7,(vO 60 false (([]:List aU).length))),pW],(afM p u8)⟩ {an:=[(0, .map 0 (vG (aC .i64) ([]:(List (Int × Int)))) (xH (aC .i64) ([]:(List (Int × Int)))) [])],fr:=[(0,61)] } [] ?_
 refine aQ (sz tT ⟨[(2,(vP 55 0)),(gQ s_),(5,(vP 58 0)),(7,(vO 60 false (([]:List aU).length))),pW,(31,(vI p.ax)),(32,(vI 0))],(afM p u8)⟩ {} [] ?_)
 refine bE h fun y hy h=> ?_
 refine aL [] (vV p s_ u8) (wH p s_ u8) jE hy (fun s f h=> ?_) ?_
 ·clear hy
  show bW _ _ _ _ _ _ ((Ez p s_ u8) f) _
  unfold fP at h
  obtain⟨u0,u2,u3⟩:=s
  refine sz tT ⟨[(2,(vP 55 0)),(gQ s_),(5,(vP 58 0)),(BJ u0),pW,(31,(vI p.ax)),(32,(vI u3)),(33,(vB (decide (u3<p.ax))))],(Lr u0 p u8 u2)⟩ {} [] ?_
  refine aQ ?_
  refine bI h (fun hb2 h=> ?_) (fun hb2 h=> ?_)
  ·refine ct hb2 ?_
   refine aP (aQ (aB (sz tT ⟨[(2,(vP 55 0)),(gQ s_),(5,(vP 58 0)),(BJ u0),pW,(9,(vI u3)),(31,(vI p.ax)),(32,(vI u3))],(Lr u0 p u8 u2)⟩ {} [] ?_)))
   refine aQ (aQ (aO h fun a1 h=> ?_))
   refine rg tT ⟨[(2,(vP 55 0)),(gQ s_),(5,(vP 58 0)),(BJ u0),pW,(9,(vI u3)),(31,(vI p.ax)),(32,(vI u3)),(39,(vB (at' s_.aG u3.toNat)))],(Lr u0 p u8 u2)⟩ [_] {} [] ⟨a1,trivial⟩ ?_
   refine bI h (fun hb1 h=> ?_) (fun hb1 h=> ?_)
   ·refine ct hb1 ?_
    refine aX (rz tT ⟨[(2,(vP 55 0)),(gQ s_),(5,(vP 58 0)),(BJ u0),pW,(31,(vI p.ax)),(XT u3)],(Lr u0 p u8 u2)⟩ {} [] ?_)
    obtain rfl:=oi h
    exact lN
   ·refine cf hb1 ?_
    refine aP (aQ (bE h fun u1 hr_2 h=> ?_))
    have q0:=rk [(0,57)] (iD u8 u3 hr_2)
    refine rg tT ⟨(af0 p s_ u3 u0 u1),(Lr u0 p u8 u2)⟩ [_] {an:=[(2,cR q0 [57])] } [] ⟨q0,trivial⟩ ?_
    refine aQ (sg tT ⟨[(2,(vP 55 0)),(gQ s_),(5,(vP 58 0)),(BJ u0),pW,(9,(vI u3)),(10,(vI u1)),(12,(vB ((dh gm u1 u2).isSome))),(31,(vI p.ax)),(32,(vI u3))],(Lr u0 p u8 u2)⟩ [EU [some .i64] 1 1 u2.length (vG (aC .i64) u2) (xH (aC .i64) u2) [(.int .i64 u1)] [(.d (.int .i64 0))] (dh gm u1 u2).isSome (UJ u1 u2)] {an:=[(2, .look (dh gm u1 u2).isSome (UJ u1 u2))] } [] ⟨(zO (fun _=>rfl) (fun _ _=>rfl) u2 u1 0 rfl rfl rfl),trivial⟩ ?_)
    refine sz tT ⟨[(2,(vP 55 0)),(gQ s_),(5,(vP 58 0)),(BJ u0),pW,(9,(vI u3)),(10,(vI u1)),(31,(vI p.ax)),(32,(vI u3)),(50,(vB (!((dh gm u1 u2).isSome))))],(Lr u0 p u8 u2)⟩ {} [] ?_
    refine bI h (fun hb h=> ?_) (fun hb h=> ?_)
    ·refine ct hb ?_
     refine sg tT ⟨(af0 p s_ u3 u0 u1),[(F6 p),(DZ u8),BO,(Yq u0),(Vj u0 u1 u2)]⟩ [Ep [some .i64] 1 1 u2.length (vG (aC .i64) u2) (xH (aC .i64) u2) [(.int .i64 u1)] [(cI (u0.length:Int))] [] (FN u0 u1 u2).length (vG (aC .i64) (FN u0 u1 u2)) (xH (aC .i64) (FN u0 u1 u2))] {an:=[(4, .map (FN u0 u1 u2).length (vG (aC .i64) (FN u0 u1 u2)) (xH (aC .i64) (FN u0 u1 u2)) [])] } [] ⟨(su (fun _=>rfl) (fun _ _=>rfl) u2 u1 (u0.length:Int) rfl rfl),trivial⟩ ?_
     refine aO h fun⟨a1,a2⟩ h=> ?_
     refine rg tT ⟨[(2,(vP 55 0)),(gQ s_),(5,(vP 58 0)),(aas u0),pW,(9,(vI u3)),(10,(vI u1)),(31,(vI p.ax)),(32,(vI u3))],(ahQ p u8 u0 u1 u2)⟩ [[(⟨([]:List Int),([]:List Int)⟩:aU)].length=1,aY 1 2 (jf 2 [nS,nS]) (jf 2 [nS,nS]),u0.length=u0.length,_,_,(Iu u0).length=u0.length+[(⟨([]:List Int),([]:List Int)⟩:aU)].length,JG u0.length [(⟨([]:List Int),([]:List Int)⟩:aU)].length 2 (ni aU.ev u0) (jf 2 [nS,nS]) (Yr u0)] {an:=[(2, .arr [(⟨([]:List Int),([]:List Int)⟩:aU)].length (jf 2 [nS,nS])),(3, .rows (Iu u0).length (Yr u0))],fr:=[(2,86),(3,87)] } [] ⟨(rfl),(gN _ _ _),rfl,a1,a2,(List.length_append),(YO _ _ _ _ _ (by intro i hi j hj;match i,j,hi,hj with|0,0,_,_=>exact⟨rfl,_,_,_,rfl⟩|0,1,_,_=>exact⟨rfl,_,_,_,rfl⟩)),trivial⟩ ?_
     refine sg tT ⟨[(2,(vP 55 0)),(gQ s_),(5,(vP 58 0)),(aas u0),pW,(9,(vI u3)),(13,(vI (I6 u0 u1 u2))),(31,(vI p.ax)),(32,(vI u3))],(ahQ p u8 u0 u1 u2)⟩ [EU [some .i64] 1 1 (FN u0 u1 u2).length (vG (aC .i64) (FN u0 u1 u2)) (xH (aC .i64) (FN u0 u1 u2)) [(.int .i64 u1)] [(.d (.int .i64 0))] (dh gm u1 (FN u0 u1 u2)).isSome [(cI (I6 u0 u1 u2))]] {an:=[(2, .look (dh gm u1 (FN u0 u1 u2)).isSome [(cI (I6 u0 u1 u2))])] } [] ⟨(zO (fun _=>rfl) (fun _ _=>rfl) (FN u0 u1 u2) u1 0 rfl rfl rfl),trivial⟩ ?_
     refine aO h fun⟨a1,a2,a3⟩ h=> ?_
     refine ri tT ⟨[(2,(vP 55 0)),(gQ s_),(5,(vP 58 0)),(aas u0),pW,(31,(vI p.ax)),(32,(vI u3))],[(F6 p),(DZ u8),BO,(Vj u0 u1 u2),(87,some (.rows 123 2 (Iu u0).length (Xy u3 u0 u1 u2) none))]⟩ [(0:Int)≤(I6 u0 u1 u2)∧(I6 u0 u1 u2)<((Iu u0).length:Int),(I6 u0 u1 u2).toNat<(Iu u0).length,[u3].length=1,aY 1 1 (jf 1 [(.int .i64 u3)]) (aN (aC .i64) [u3]),(Ny u0 u1 u2).length=(Ny u0 u1 u2).length,(aeV u3 u0 u1 u2)*8≤140737488355328,(Ny u0 u1 u2).length+[u3].length≤4611686018427387904,(R8 u3 u0 u1 u2).length=(Ny u0 u1 u2).length+[u3].length,aY (aeV u3 u0 u1 u2) 1 (CY (aN (aC .i64) (Ny u0 u1 u2)) (Ny u0 u1 u2).length (aN (aC .i64) [u3])) (ac3 u3 u0 u1 u2),(0:Int)≤(I6 u0 u1 u2)∧(I6 u0 u1 u2)<((Iu u0).length:Int),(I6 u0 u1 u2).toNat<(Iu u0).length,(R8 u3 u0 u1 u2).length=(R8 u3 u0 u1 u2).length,R5 (Iu u0).length 2 (XK (Yr u0) (acM u0 u1 u2) 0 (.row 3 1 (R8 u3 u0 u1 u2).length (ac3 u3 u0 u1 u2))) (Xy u3 u0 u1 u2),∀i0 j0 c0,((some ((I6 u0 u1 u2).toNat,0,CV.own 88 false (Ny u0 u1 u2).length)):Option (Nat × Nat × CV))=some (i0,j0,c0)→i0=(I6 u0 u1 u2).toNat∧j0=0] {an:=[(6, .take 88),(8, .arr [u3].length (aN (aC .i64) [u3])),(9, .arr (R8 u3 u0 u1 u2).length (ac3 u3 u0 u1 u2)),(12, .rows 0 (Xy u3 u0 u1 u2))],fr:=[(8,89),(9,90)] } [] ⟨a1,(tL a1),(rfl),((by intro i hi j hj;match i,j,hi,hj with|0,0,_,_=>rfl)),rfl,a2,a3,(List.length_append),(jy _ _ _ _),a1,(tL a1),rfl,(Cy _ _ _ _ _ _ _ _ rfl (fun j hj=>(match j,hj with|0,_=>rfl|1,_=>rfl))),((fun i0 j0 c0 e=>by cases e;exact⟨rfl,rfl⟩)),trivial⟩ (bZ.le (st':=⟨[(2,(vP 55 0)),(gQ s_),(5,(vP 58 0)),(aeP u3 u0 u1 u2),pW,(31,(vI p.ax)),(32,(vI u3))],(aai p u8 u3 u0 u1 u2)⟩) ⟨⟨tR,tR,tR,⟨_,rfl,dY.v (eX.one cW)⟩,tR,tR,tR,trivial⟩,(hN 4 ⟨rfl,zJ (by simp only [List.length_set,List.length_append,List.length_cons,List.length_nil,List.length_replicate,List.length_drop]),trivial⟩)⟩) ?_
     refine ri tT ⟨[(2,(vP 55 0)),(gQ s_),(5,(vP 58 0)),(aeP u3 u0 u1 u2),pW,(31,(vI p.ax)),(XT u3)],(aai p u8 u3 u0 u1 u2)⟩ [] {} [] trivial (bZ.fin (st':=⟨[(2,(vP 55 0)),(gQ s_),(5,(vP 58 0)),(7,(vO 60 false (af6 u3 u0 u1 u2))),pW,(31,(vI p.ax)),(XT u3)],[(F6 p),(DZ u8),BO,(60,some (.rows 123 2 (Zh u3 u0 u1 u2).length (Xy u3 u0 u1 u2) none)),(Vj u0 u1 u2)]⟩) (cs:=[]) ⟨[],[(55,55),(57,57),(58,58),(87,60),(61,61)]⟩ [2,3,5,7,8,31,32] (by kernel_rfl) trivial) ?_
     obtain rfl:=oi h
     exact lN
    ·refine cf hb ?_
     refine aP (sg tT ⟨[(2,(vP 55 0)),(gQ s_),(5,(vP 58 0)),(BJ u0),pW,(9,(vI u3)),(13,(vI (rE u1 u2))),(31,(vI p.ax)),(32,(vI u3))],(Lr u0 p u8 u2)⟩ [EU [some .i64] 1 1 u2.length (vG (aC .i64) u2) (xH (aC .i64) u2) [(.int .i64 u1)] [(.d (.int .i64 0))] (dh gm u1 u2).isSome (UJ u1 u2)] {an:=[(2, .look (dh gm u1 u2).isSome (UJ u1 u2))] } [] ⟨(zO (fun _=>rfl) (fun _ _=>rfl) u2 u1 0 rfl rfl rfl),trivial⟩ ?_)
     refine aO h fun⟨a1,a2,a3⟩ h=> ?_
     refine ri tT ⟨(afP u0 s_ p u3),[(F6 p),(DZ u8),BO,(60,some (.rows 123 2 u0.length (Sr u3 u0 u1 u2) none)),(TJ u2)]⟩ [(0:Int)≤(rE u1 u2)∧(rE u1 u2)<(u0.length:Int),(rE u1 u2).toNat<u0.length,[u3].length=1,aY 1 1 (jf 1 [(.int .i64 u3)]) (aN (aC .i64) [u3]),(Ee u0 u1 u2).length=(Ee u0 u1 u2).length,((Ee u0 u1 u2).length+[u3].length)*8≤140737488355328,(Ee u0 u1 u2).length+[u3].length≤4611686018427387904,(Kn u3 u0 u1 u2).length=(Ee u0 u1 u2).length+[u3].length,aY ((Ee u0 u1 u2).length+[u3].length) 1 (CY (aN (aC .i64) (Ee u0 u1 u2)) (Ee u0 u1 u2).length (aN (aC .i64) [u3])) (WY u3 u0 u1 u2),(0:Int)≤(rE u1 u2)∧(rE u1 u2)<(u0.length:Int),(rE u1 u2).toNat<u0.length,(Kn u3 u0 u1 u2).length=(Kn u3 u0 u1 u2).length,R5 u0.length 2 (XK (ni aU.ev u0) ((rE u1 u2).toNat) 0 (.row 3 1 (Kn u3 u0 u1 u2).length (WY u3 u0 u1 u2))) (Sr u3 u0 u1 u2),∀i0 j0 c0,((some ((rE u1 u2).toNat,0,CV.own 91 false (Ee u0 u1 u2).length)):Option (Nat × Nat × CV))=some (i0,j0,c0)→i0=(rE u1 u2).toNat∧j0=0] {an:=[(6, .take 91),(8, .arr [u3].length (aN (aC .i64) [u3])),(9, .arr (Kn u3 u0 u1 u2).length (WY u3 u0 u1 u2)),(12, .rows 0 (Sr u3 u0 u1 u2))],fr:=[(8,92),(9,93)] } [] ⟨a1,(tL a1),(rfl),((by intro i hi j hj;match i,j,hi,hj with|0,0,_,_=>rfl)),rfl,a2,a3,(List.length_append),(jy _ _ _ _),a1,(tL a1),rfl,(Cy _ _ _ _ _ _ _ _ rfl (fun j hj=>(match j,hj with|0,_=>rfl|1,_=>rfl))),((fun i0 j0 c0 e=>by cases e;exact⟨rfl,rfl⟩)),trivial⟩ (bZ.le (st':=⟨[(2,(vP 55 0)),(gQ s_),(5,(vP 58 0)),(aaf u3 u0 u1 u2),pW,(31,(vI p.ax)),(32,(vI u3))],(Z8 p u8 u3 u0 u1 u2)⟩) ⟨⟨tR,tR,tR,⟨_,rfl,dY.v (eX.one cW)⟩,tR,tR,tR,trivial⟩,(hN 3 ⟨rfl,zJ (by simp only [List.length_set,List.length_append,List.length_cons,List.length_nil,List.length_replicate,List.length_drop]),(.refl _)⟩)⟩) ?_
     refine rz tT ⟨[(2,(vP 55 0)),(gQ s_),(5,(vP 58 0)),(aaf u3 u0 u1 u2),pW,(31,(vI p.ax)),(XT u3)],(Z8 p u8 u3 u0 u1 u2)⟩ {} [] ?_
     obtain rfl:=oi h
     exact lN
  ·refine cf hb2 ?_
   refine aI (fz (aeY s_ u0 p u8 u2) []) ?_
   refine aX ?_
   obtain rfl:=oi h
   exact lB
 ·clear hy
  cases y with
  |brk z=>
   obtain⟨v0,u4⟩:=z
   unfold fT
   refine⟨_, .refl, ?_⟩
   refine aQ (sz tT ⟨[(gQ s_),(5,(vP 58 0)),(BJ v0),pW,(NU p),(Nz p),(78,(vI 0))],(Q0 v0 u8 u4)⟩ {} [] ?_)
   refine bE h fun y1 hy h=> ?_
   refine aL [] (wK p s_ u8 u4) xk jE hy (fun s f h=> ?_) ?_
   ·clear hy
    show bW _ _ _ _ _ _ ((ES p s_ u8 u4) f) _
    unfold fQ at h
    obtain⟨u6,u5⟩:=s
    refine sz tT ⟨[(gQ s_),(5,(vP 58 0)),(BJ u6),pW,(NU p),(Nz p),(78,(vI u5)),(79,(vB (decide (u5<(p.ai.length:Int)))))],(Q0 u6 u8 u4)⟩ {} [] ?_
    refine aQ ?_
    refine bI h (fun hb4 h=> ?_) (fun hb4 h=> ?_)
    ·refine ct hb4 ?_
     refine aP (aQ (aB (aQ (aO h fun a1 h=> ?_))))
     refine rg tT ⟨[(gQ s_),(5,(vP 58 0)),(BJ u6),pW,(14,(vI u5)),(Ux p u5),(NU p),(Nz p),(78,(vI u5))],(Q0 u6 u8 u4)⟩ [_] {fr:=[(3,106)] } [106] ⟨a1,trivial⟩ ?_
     refine aQ (aO h fun⟨a1,a2,a3⟩ h=> ?_)
     refine rg tT ⟨[(gQ s_),(5,(vP 58 0)),(BJ u6),pW,(14,(vI u5)),(Ux p u5),(NU p),(Nz p),(78,(vI u5)),(104,(adq p s_ u5))],(Q0 u6 u8 u4)⟩ (_::(eqs (at' s_.on_ u5.toNat) 4 ((aex s_ u5)::(eqs (at' s_.on_ u5.toNat) 3 (eqs (PZ s_ u5) 5 (ae9 p s_ u5)))))) {yb:=[(5,(at' s_.on_ u5.toNat)),(13,(PZ s_ u5))] } [] ⟨a1,(ae ⟨(fun hg=> ⟨(a2 (bD hg)),trivial⟩),(ae (ae ⟨(fun hg=> ⟨(a3 (bD hg)),trivial⟩),(ae trivial)⟩))⟩)⟩ ?_
     refine bI h (fun hb3 h=> ?_) (fun hb3 h=> ?_)
     ·refine ct hb3 ?_
      refine aQ (bE h fun u7 hr_3 h=> ?_)
      have q0:=rk [(0,57)] (iD u8 ((at' p.ai u5.toNat).bus) hr_3)
      refine rg tT ⟨[(gQ s_),(5,(vP 58 0)),(BJ u6),pW,(14,(vI u5)),(16,(vI (rE u7 u4))),(NU p),(Nz p),(78,(vI u5))],(Q0 u6 u8 u4)⟩ [_,EU [some .i64] 1 1 u4.length (vG (aC .i64) u4) (xH (aC .i64) u4) [(.int .i64 u7)] [(.d (.int .i64 0))] (dh gm u7 u4).isSome (UJ u7 u4)] {an:=[(4,cR q0 [57]),(5, .look (dh gm u7 u4).isSome (UJ u7 u4))] } [] ⟨q0,(zO (fun _=>rfl) (fun _ _=>rfl) u4 u7 0 rfl rfl rfl),trivial⟩ ?_
      refine aO h fun⟨a1,a2,a3⟩ h=> ?_
      refine ri tT ⟨(ah5 p s_ u6 u5),[(DZ u8),BO,(60,some (.rows 123 2 u6.length (Sy u6 u7 u4 u5) none)),(TJ u4)]⟩ [(0:Int)≤(rE u7 u4)∧(rE u7 u4)<(u6.length:Int),(rE u7 u4).toNat<u6.length,[u5].length=1,aY 1 1 (jf 1 [(.int .i64 u5)]) (aN (aC .i64) [u5]),(Eo u6 u7 u4).length=(Eo u6 u7 u4).length,((Eo u6 u7 u4).length+[u5].length)*8≤140737488355328,(Eo u6 u7 u4).length+[u5].length≤4611686018427387904,(JW u6 u7 u4 u5).length=(Eo u6 u7 u4).length+[u5].length,aY ((Eo u6 u7 u4).length+[u5].length) 1 (CY (aN (aC .i64) (Eo u6 u7 u4)) (Eo u6 u7 u4).length (aN (aC .i64) [u5])) (Wz u6 u7 u4 u5),(0:Int)≤(rE u7 u4)∧(rE u7 u4)<(u6.length:Int),(rE u7 u4).toNat<u6.length,(JW u6 u7 u4 u5).length=(JW u6 u7 u4 u5).length,R5 u6.length 2 (XK (ni aU.ev u6) ((rE u7 u4).toNat) 1 (.row 3 1 (JW u6 u7 u4 u5).length (Wz u6 u7 u4 u5))) (Sy u6 u7 u4 u5),∀i0 j0 c0,((some ((rE u7 u4).toNat,1,CV.own 107 false (Eo u6 u7 u4).length)):Option (Nat × Nat × CV))=some (i0,j0,c0)→i0=(rE u7 u4).toNat∧j0=1] {an:=[(6, .take 107),(8, .arr [u5].length (aN (aC .i64) [u5])),(9, .arr (JW u6 u7 u4 u5).length (Wz u6 u7 u4 u5)),(12, .rows 0 (Sy u6 u7 u4 u5))],fr:=[(8,108),(9,109)] } [] ⟨a1,(tL a1),(rfl),((by intro i hi j hj;match i,j,hi,hj with|0,0,_,_=>rfl)),rfl,a2,a3,(List.length_append),(jy _ _ _ _),a1,(tL a1),rfl,(Cy _ _ _ _ _ _ _ _ rfl (fun j hj=>(match j,hj with|0,_=>rfl|1,_=>rfl))),((fun i0 j0 c0 e=>by cases e;exact⟨rfl,rfl⟩)),trivial⟩ (bZ.le (st':=⟨[(gQ s_),(5,(vP 58 0)),(aad u6 u7 u4 u5),pW,(NU p),(Nz p),(78,(vI u5))],(ZW u8 u6 u7 u4 u5)⟩) ⟨⟨tR,tR,⟨_,rfl,dY.v (eX.one cW)⟩,tR,tR,tR,tR,trivial⟩,(hN 2 ⟨rfl,zJ (by simp only [List.length_set,List.length_append,List.length_cons,List.length_nil,List.length_replicate,List.length_drop]),(.refl _)⟩)⟩) ?_
      refine rz tT ⟨[(gQ s_),(5,(vP 58 0)),(aad u6 u7 u4 u5),pW,(NU p),(Nz p),(78,(k3 u5))],(ZW u8 u6 u7 u4 u5)⟩ {} [] ?_
      obtain rfl:=oi h
      exact lN
     ·refine cf hb3 ?_
      refine aP (rz tT ⟨[(gQ s_),(5,(vP 58 0)),(BJ u6),pW,(NU p),(Nz p),(78,(k3 u5))],(Q0 u6 u8 u4)⟩ {} [] ?_)
      obtain rfl:=oi h
      exact lN
    ·refine cf hb4 ?_
     refine aI (fz (afr u6) []) ?_
     refine aX ?_
     obtain rfl:=oi h
     exact lB
   ·clear hy
    cases y1 with
    |brk z=>
     obtain⟨u9,rfl⟩: ∃q,q=z:=⟨_,rfl⟩
     unfold fT
     refine⟨_, .refl, ?_⟩
     refine si tT ⟨[(4,(vD (.sl none 2 u9.length (fun i j=>evD (ni aU.ev u9 i j)))))],[]⟩ [u9.length=u9.length] {} [60] ⟨rfl,trivial⟩ (bZ.le (st':=⟨[(4,(vD (bg none 2 aU.cell u9)))],[]⟩) ⟨⟨⟨_,rfl,dY.v (eX.one (eD.d (gX.sl (.inr rfl) (fun i _ j hj=>match j,hj with|0,_=> .refl _|1,_=> .refl _))))⟩,trivial⟩,trivial⟩) ?_
     refine aR ?_
     obtain rfl:=oi h
     exact rl [(sD (bg none 2 aU.cell u9))]
    |ret v=>
     obtain rfl:=oi h
     unfold fT
     intro e st hn ha hR
     cases e with
     |normal=>exact absurd rfl hn
     |exit id=>exact hR
     |goto l=>exact hR
     |ret=>exact hR
     |panic c=>exact hR
     |outgrown=>exact hR
  |ret v=>
   obtain rfl:=oi h
   unfold fT
   intro e st hn ha hR
   cases e with
   |normal=>exact absurd rfl hn
   |exit id=>exact hR
   |goto l=>exact hR
   |ret=>exact hR
   |panic c=>exact hR
   |outgrown=>exact hR
def GR  :((List aU) × Int)→Exit→St→Prop:=
  fun r=>bR TT [.tmp 4, .tmp 5] (.iG [(sD (bg none 2 aU.cell r.1)),(sI r.2)]) []
theorem E9 (p:au) (s_:ay) {r:((List aU) × Int)} (h:lq p s_=some r):Fn Try.prog 57 (YI s_ p) [] (.iG [(sD (bg none 2 aU.cell r.1)),(sI r.2)]) []:=by
 refine fN tT Try.func57 rfl rfl fun B=> ?_
 show bW _ _ _ _ _ _ (GR r) _
 unfold lq at h
 refine sz tT (abJ p s_) {fr:=[(0,2),(1,3)] } [2,3] ?_
 refine aQ (aQ (bE h fun r_ hr_ h=> ?_))
 have q0:=dU p s_ hr_
 refine rg tT ⟨[(Lv p),(gQ s_),(6,(vI r_))],[]⟩ [_] {an:=[(2,cA q0 [])] } [] ⟨q0,trivial⟩ ?_
 refine sz tT ⟨[(Lv p),(gQ s_),(6,(vI r_)),(11,(vB (!decide (r_=0))))],[]⟩ {} [] ?_
 refine bI h (fun hb h=> ?_) (fun hb h=> ?_)
 ·refine ct hb ?_
  refine sz tT ⟨[(4,(vD nS)),(5,(vI r_))],[]⟩ {} [] ?_
  refine aI (bZ.le (st':=⟨[(4,(vD (bg none 2 aU.cell ([]:List aU)))),(5,(vI r_))],[]⟩) ⟨⟨⟨_,rfl,dY.v (eX.one (eD.d gX.nil'))⟩,tR,trivial⟩,trivial⟩) ?_
  refine aR ?_
  obtain rfl:=oi h
  exact rl [(sD (bg none 2 aU.cell ([]:List aU))),(sI r_)]
 ·refine cf hb ?_
  refine aP (aQ (bE h fun u0 hr_1 h=> ?_))
  have q0:=E5 p s_ hr_1
  refine rg tT ⟨[(4,(vD (bg none 2 aU.cell u0))),(5,(vI 0))],[]⟩ [_] {an:=[(2,cA q0 [])] } [] ⟨q0,trivial⟩ ?_
  refine aR ?_
  obtain rfl:=oi h
  exact rl [(sD (bg none 2 aU.cell u0)),(sI 0)]
def fK  :Bool→Exit→St→Prop:=
  fun r=>bR TT [.tmp 6] (vB r) []
section
variable (u1:((List aA) × Int)) (u2:((List aU) × Int)) (u3:(List Int)) (p:au) (p1:(List aj)) (s_:ay) (u0:Int) (i:Int)
abbrev d9:Nat × TV:=(8,(vD (G8 u1)))
abbrev wZ:Nat × TV:=(10,(vD (bg none 2 aU.cell u2.1)))
abbrev kJ:Nat × TV:=(12,(VJ u3))
abbrev fH:List (Nat × Option Ob):=[(6,some (agL p p1))]
abbrev Ww:St:=⟨[(3,(vP 6 0)),(bB s_),(7,(vI u0)),(d9 u1),(wZ u2),(kJ u3),(13,(vI i))],(fH p p1)⟩
end
def uz (p:au) (s_:ay) (u0:Int) (u1:((List aA) × Int)) (u2:((List aU) × Int)):((List aj) × (List Int) × Int)→St:=
  fun zz=>match zz with|(p1,u3,i)=>(Ww u1 u2 u3 p p1 s_ u0 i)
section
variable (s_:ay) (u0:Int) (u1:((List aA) × Int)) (u3:(List Int)) (p:au) (u2:(List aj))
abbrev aae:St:=⟨[(3,(vP 6 0)),(bB s_),(7,(vI u0)),(d9 u1),(kJ u3)],(fH p u2)⟩
end
def uE (p:au) (s_:ay) (u0:Int) (u1:((List aA) × Int)):((List aj) × (List Int))→St:=
  fun zz=>match zz with|(u2,u3)=>(aae s_ u0 u1 u3 p u2)
def nX (p:au) (s_:ay) (u0:Int) (u1:((List aA) × Int)) (u2:((List aU) × Int)):(bn ((List aj) × (List Int) × Int) (Ex ((List aj) × (List Int)) Bool))→Exit→St→Prop:=
  LQ 0 [] (uz p s_ u0 u1 u2) (uE p s_ u0 u1) fK
def tX (p:au) (s_:ay) (u0:Int) (u1:((List aA) × Int)) (u2:((List aU) × Int)) (p1:(List aj)) (i:Int):((List Int) × Int)→St:=
  fun zz=>match zz with|(u3,n)=> ⟨[(3,(vP 6 0)),(bB s_),(7,(vI u0)),(d9 u1),(wZ u2),(kJ u3),(13,(vI i)),(14,(vI n))],(fH p p1)⟩
def uq (p:au) (s_:ay) (u0:Int) (u1:((List aA) × Int)) (u2:((List aU) × Int)) (p1:(List aj)) (i:Int):(List Int)→St:=
  fun u3=>(Ww u1 u2 u3 p p1 s_ u0 i)
def DI (p:au) (s_:ay) (u0:Int) (u1:((List aA) × Int)) (u2:((List aU) × Int)) (p1:(List aj)) (i:Int):(bn ((List Int) × Int) (Ex (List Int) (bn ((List aj) × (List Int) × Int) (Ex ((List aj) × (List Int)) Bool))))→Exit→St→Prop:=
  LQ 2 [1] (tX p s_ u0 u1 u2 p1 i) (uq p s_ u0 u1 u2 p1 i) (nX p s_ u0 u1 u2)
def tY (p:au) (s_:ay) (u0:Int) (u1:((List aA) × Int)) (u2:(List aj)) (u3:(List Int)):Int→St:=
  fun i1=> ⟨[(3,(vP 6 0)),(bB s_),(7,(vI u0)),(d9 u1),(kJ u3),(15,(vI i1))],(fH p u2)⟩
section
variable (s_:ay) (u0:Int) (u1:((List aA) × Int)) (p:au) (u2:(List aj))
abbrev ZI:St:=⟨[(3,(vP 6 0)),(bB s_),(7,(vI u0)),(d9 u1)],(fH p u2)⟩
end
def uQ (p:au) (s_:ay) (u0:Int) (u1:((List aA) × Int)) (u2:(List aj)):Unit→St:=
  fun _=>(ZI s_ u0 u1 p u2)
def nY (p:au) (s_:ay) (u0:Int) (u1:((List aA) × Int)) (u2:(List aj)) (u3:(List Int)):(bn Int (Ex Unit Bool))→Exit→St→Prop:=
  LQ 4 [] (tY p s_ u0 u1 u2 u3) (uQ p s_ u0 u1 u2) fK
def tO (p:au) (s_:ay) (u0:Int) (u1:((List aA) × Int)) (u2:(List aj)) (u3:(List Int)) (i1:Int):(Int × Int × Int)→St:=
  fun zz=>match zz with|(u4,u5,n1)=> ⟨[(3,(vP 6 0)),(bB s_),(7,(vI u0)),(d9 u1),(kJ u3),(15,(vI i1)),(16,(vI u4)),(17,(vI u5)),(18,(vI n1))],(fH p u2)⟩
section
variable (s_:ay) (u0:Int) (u1:((List aA) × Int)) (u3:(List Int)) (i1:Int) (u4:Int) (u5:Int) (p:au) (u2:(List aj))
abbrev ZK:St:=⟨[(3,(vP 6 0)),(bB s_),(7,(vI u0)),(d9 u1),(kJ u3),(15,(vI i1)),(16,(vI u4)),(17,(vI u5))],(fH p u2)⟩
end
def uJ (p:au) (s_:ay) (u0:Int) (u1:((List aA) × Int)) (u2:(List aj)) (u3:(List Int)) (i1:Int):(Int × Int)→St:=
  fun zz=>match zz with|(u4,u5)=>(ZK s_ u0 u1 u3 i1 u4 u5 p u2)
def Dp (p:au) (s_:ay) (u0:Int) (u1:((List aA) × Int)) (u2:(List aj)) (u3:(List Int)) (i1:Int):(bn (Int × Int × Int) (Ex (Int × Int) (bn Int (Ex Unit Bool))))→Exit→St→Prop:=
  LQ 6 [5] (tO p s_ u0 u1 u2 u3 i1) (uJ p s_ u0 u1 u2 u3 i1) (nY p s_ u0 u1 u2 u3)
section
variable (s_:ay) (u0:Int) (u1:((List aA) × Int)) (k:Int) (p:au) (u2:(List aj))
abbrev VE:St:=⟨[(3,(vP 6 0)),(bB s_),(7,(vI u0)),(d9 u1),(20,(vI k))],(fH p u2)⟩
end
def uh (p:au) (s_:ay) (u0:Int) (u1:((List aA) × Int)) (u2:(List aj)):Int→St:=
  fun k=>(VE s_ u0 u1 k p u2)
def uy  :Unit→St:=
  fun _=> ⟨[],[]⟩
def nV (p:au) (s_:ay) (u0:Int) (u1:((List aA) × Int)) (u2:(List aj)):(bn Int (Ex Unit Bool))→Exit→St→Prop:=
  LQ 8 [] (uh p s_ u0 u1 u2) uy fK
section
variable (p:au) (k:Int) (u3:((List aA) × Int))
abbrev Gj:Nat × TV:=(21,(YW p k))
abbrev KH:Nat × TV:=(22,(vD (G8 u3)))
end
def uG (p:au) (s_:ay) (u0:Int) (u1:((List aA) × Int)) (u2:(List aj)) (k:Int) (u3:((List aA) × Int)):Int→St:=
  fun i2=> ⟨[(3,(vP 6 0)),(bB s_),(7,(vI u0)),(d9 u1),(20,(vI k)),(Gj p k),(KH u3),(24,(vI i2))],(fH p u2)⟩
def tZ (p:au) (s_:ay) (u0:Int) (u1:((List aA) × Int)) (u2:(List aj)) (k:Int):Unit→St:=
  fun _=>(VE s_ u0 u1 k p u2)
def DJ (p:au) (s_:ay) (u0:Int) (u1:((List aA) × Int)) (u2:(List aj)) (k:Int) (u3:((List aA) × Int)):(bn Int (Ex Unit (bn Int (Ex Unit Bool))))→Exit→St→Prop:=
  LQ 10 [9] (uG p s_ u0 u1 u2 k u3) (tZ p s_ u0 u1 u2 k) (nV p s_ u0 u1 u2)
section
variable (p:au) (u0:((List aA) × Int)) (i1:Int) (u2:(List Int)) (n1:Int) (s_:ay) (u5:Int) (k:Int) (u1:Int) (u3:(List aj)) (i2:Int) (u6:((List aA) × Int))
abbrev FC:List (Nat × Option Ob):=[(6,some (XH p))]
abbrev SS:=(decide (60<(p.ai.length:Int)))
abbrev SI:=(bif (SS p)then true else(decide (60<(p.af.length:Int))))
abbrev PI:=(bif (SI p)then true else(decide (60<(p.aF.length:Int))))
abbrev OU:=(!decide (((at' u0.1 i1.toNat).source)=(at' u2 i1.toNat)))
abbrev Qt:=(bif (OU u0 i1 u2)then true else(decide (((at' u0.1 i1.toNat).bU)<1)))
abbrev Mf:=(bif (Qt u0 i1 u2)then true else(decide (((at' u0.1 i1.toNat).amps)<1)))
abbrev Mi:=(bif (Mf u0 i1 u2)then true else(decide ((IntKind.wrap .i64 (((at' u0.1 i1.toNat).amps)*((at' u0.1 i1.toNat).bU)))<400000)))
abbrev SY:=(jq [(10,(OU u0 i1 u2)),(18,(Qt u0 i1 u2)),(26,(Mf u0 i1 u2)),(40,(Mi u0 i1 u2))])
abbrev ZJ:=(gP (SY u0 i1 u2) [(26,false)]→All [(0:Int)≤i1∧i1<(u0.1.length:Int)])
abbrev aac:=(gP (SY u0 i1 u2) [(40,false)]→All [(0:Int)≤i1∧i1<(u0.1.length:Int)])
abbrev pu:=(at' ((at' u0.1 i1.toNat).af) n1.toNat)
abbrev SN:=(decide ((pu u0 i1 n1)<0))
abbrev Qv:=(bif (SN u0 i1 n1)then true else(decide ((p.af.length:Int)≤(pu u0 i1 n1))))
abbrev Oo:=(bif (Qv p u0 i1 n1)then true else(!(at' s_.bK ((pu u0 i1 n1).toNat))))
abbrev MP:=(bif (Oo p u0 i1 n1 s_)then true else(at' s_.bG ((pu u0 i1 n1).toNat)))
abbrev Iz:=(at' p.af ((pu u0 i1 n1).toNat))
abbrev Xh:=((Iz p u0 i1 n1).a)
abbrev MC:=(bif (MP p u0 i1 n1 s_)then true else(at' s_.aG ((Xh p u0 i1 n1).toNat)))
abbrev Wt:=((Iz p u0 i1 n1).b)
abbrev Ga:=(bif (MC p u0 i1 n1 s_)then true else(at' s_.aG ((Wt p u0 i1 n1).toNat)))
abbrev Lf:=(!decide ((Xh p u0 i1 n1)=u5))
abbrev F3:=(jq [(2,(SN u0 i1 n1)),(9,(Qv p u0 i1 n1)),(17,(Oo p u0 i1 n1 s_)),(24,(MP p u0 i1 n1 s_)),(36,(MC p u0 i1 n1 s_)),(48,(Ga p u0 i1 n1 s_)),(57,(Lf p u0 i1 n1 u5))])
abbrev Vo:Nat × TV:=(16,(vI (IntKind.wrap .i64 ((IntKind.wrap .i64 ((Xh p u0 i1 n1)+(Wt p u0 i1 n1))) - u5))))
abbrev P6:=(bif (H8 s_ k)then true else(at' s_.bG k.toNat))
abbrev Px:=(bif (P6 s_ k)then true else(at' s_.aG (((at' p.af k.toNat).a).toNat)))
abbrev IZ:=(bif (Px p s_ k)then true else(at' s_.aG (((at' p.af k.toNat).b).toNat)))
abbrev Ms:=(!decide (((at' p.af k.toNat).a)=u1))
abbrev SE:=(jq [(6,(H8 s_ k)),(13,(P6 s_ k)),(21,(Px p s_ k)),(29,(IZ p s_ k)),(34,(Ms p k u1))])
abbrev Z6:St:=⟨[(3,(vP 6 0)),(bB s_),(7,(vI u1)),(d9 u0),(20,(k3 k))],(fH p u3)⟩
abbrev KQ:=(decide ((IntKind.wrap .i64 (((at' u0.1 i2.toNat).bU)+((at' p.af k.toNat).bU)))<((at' u6.1 i2.toNat).bU)))
abbrev ZH:=(jq [(14,(KQ p u0 k i2 u6))])
end
theorem D9 (p:au) (s_:ay) (u8:Int) {r:Bool} (h:ku p s_ u8=some r):Fn Try.prog 11 (OX p s_ u8) [] (vB r) []:=by
 refine fN tT Try.func11 rfl rfl fun B=> ?_
 show bW _ _ _ _ _ _ (fK r) _
 unfold ku at h
 refine sz tT ⟨[(2,(vI u8)),(3,(vP 6 0)),(bB s_)],(FC p)⟩ {fr:=[(0,6),(1,7)] } [7] ?_
 refine aQ (aQ (bE h fun r_ hr_ h=> ?_))
 refine rg tT ⟨[(2,(vI u8)),(3,(vP 6 0)),(bB s_),(46,(vB (bif (PI p)then true else(!decide (r_=0)))))],(FC p)⟩ (eqs (SS p) 5 (eqs (SI p) 5 (eqs (PI p) 3 ((gP (jq [(4,(SS p)),(10,(SI p)),(16,(PI p))]) [(16,false)]→All [Fn Try.prog 12 (YI s_ p) [] (vI r_) []])::(eqs (PI p) 2 []))))) {yb:=[(4,(SS p)),(10,(SI p)),(16,(PI p))],an:=[(19, .call [] (vI r_) [])] } [] (ae (ae (ae ⟨(fun hg=> ⟨(dU p s_ (iw hr_ (bD hg))),trivial⟩),(ae trivial)⟩))) ?_
 refine bI h (fun hb15 h=> ?_) (fun hb15 h=> ?_)
 ·refine ct hb15 ?_
  refine aQ (bE h fun v2 hr_1 h=> ?_)
  have q0:=zV hr_1
  refine rg tT ⟨[(6,(vB v2))],[]⟩ [_] {an:=[(0,cA q0 [])] } [] ⟨q0,trivial⟩ ?_
  refine aR ?_
  obtain rfl:=oi h
  exact rl [(sB v2)]
 ·refine cf hb15 ?_
  refine aP (aQ (bE h fun u1 hr_2 h=> ?_))
  have q0:=LG u8 p.ax hr_2
  refine rg tT ⟨[(3,(vP 6 0)),(bB s_),(7,(vI u1))],(FC p)⟩ [_] {an:=[(3,cA q0 [])] } [] ⟨q0,trivial⟩ ?_
  refine aQ (bE h fun u0 hr_3 h=> ?_)
  have q0:=iW p s_ u1 hr_3
  refine rg tT ⟨[(3,(vP 6 0)),(bB s_),(7,(vI u1)),(d9 u0),(9,(vI u0.2))],(FC p)⟩ [_] {an:=[(3,cA q0 [])] } [] ⟨q0,trivial⟩ ?_
  refine aQ (bE h fun u4 hr_4 h=> ?_)
  have q0:=E9 p s_ hr_4
  refine rg tT ⟨[(3,(vP 6 0)),(bB s_),(7,(vI u1)),(d9 u0),(9,(vI u0.2)),(wZ u4),(11,(vI u4.2))],(FC p)⟩ [_] {an:=[(2,cA q0 [])] } [] ⟨q0,trivial⟩ ?_
  refine aQ (sg tT ⟨[(3,(vP 6 0)),(bB s_),(7,(vI u1)),(d9 u0),(wZ u4),(70,(vB (bif (!decide (u0.2=0))then true else(!decide (u4.2=0)))))],(FC p)⟩ (eqs (!decide (u0.2=0)) 3 []) {yb:=[(2,(!decide (u0.2=0)))] } [] (ae trivial) ?_)
  refine bI h (fun hb14 h=> ?_) (fun hb14 h=> ?_)
  ·refine ct hb14 ?_
   refine sz tT ⟨[(6,(vB false))],[]⟩ {} [] ?_
   refine aR ?_
   obtain rfl:=oi h
   exact rl [(sB false)]
  ·refine cf hb14 ?_
   refine aP (sz tT ⟨[(3,(vP 6 0)),(bB s_),(7,(vI u1)),(d9 u0),(wZ u4),(12,(vD nS))],(FC p)⟩ {} [] ?_)
   refine aQ (sz tT ⟨[(3,(vP 6 0)),(bB s_),(7,(vI u1)),(d9 u0),(wZ u4),(12,(vD nS)),(13,(vI 0))],(FC p)⟩ {} [] ?_)
   refine bE h fun y1 hy h=> ?_
   refine aI (bZ.le (st':=⟨[(3,(vP 6 0)),(bB s_),(7,(vI u1)),(d9 u0),(wZ u4),(12,(vD VO)),(13,(vI 0))],(FC p)⟩) ⟨⟨tR,tR,tR,tR,tR,⟨_,rfl,dY.v (eX.one (eD.d gX.nil'))⟩,tR,trivial⟩,(.refl _)⟩) ?_
   refine aL [] (uz p s_ u1 u0 u4) (uE p s_ u1 u0) fK hy (fun s f h=> ?_) ?_
   ·clear hy
    show bW _ _ _ _ _ _ ((nX p s_ u1 u0 u4) f) _
    unfold gG at h
    obtain⟨p1,v1,i⟩:=s
    refine aQ (sz tT ⟨[(3,(vP 6 0)),(bB s_),(7,(vI u1)),(d9 u0),(wZ u4),(kJ v1),(13,(vI i)),(74,(vB (decide (i<(u4.1.length:Int)))))],(fH p p1)⟩ {} [] ?_)
    refine bI h (fun hb2 h=> ?_) (fun hb2 h=> ?_)
    ·refine ct hb2 ?_
     refine aP (aQ (aB (sz tT ⟨[(3,(vP 6 0)),(bB s_),(7,(vI u1)),(d9 u0),(wZ u4),(kJ v1),(13,(vI i)),(14,(vI 0))],(fH p p1)⟩ {} [] ?_)))
     refine bE h fun y hy h=> ?_
     refine aL [1] (tX p s_ u1 u0 u4 p1 i) (uq p s_ u1 u0 u4 p1 i) (nX p s_ u1 u0 u4) hy (fun s f h=> ?_) ?_
     ·clear hy
      show bW _ _ _ _ _ _ ((DI p s_ u1 u0 u4 p1 i) f) _
      unfold gH at h
      obtain⟨v0,n⟩:=s
      refine aQ (aQ (aO h fun a1 h=> ?_))
      refine rg tT ⟨[(3,(vP 6 0)),(bB s_),(7,(vI u1)),(d9 u0),(wZ u4),(kJ v0),(13,(vI i)),(14,(vI n)),(84,(vB (decide (n<(((at' u4.1 i.toNat).ax).length:Int)))))],(fH p p1)⟩ [_] {} [] ⟨a1,trivial⟩ ?_
      refine bI h (fun hb1 h=> ?_) (fun hb1 h=> ?_)
      ·refine ct hb1 ?_
       refine aP (aQ (aB (aQ (aO h fun⟨a1,a2⟩ h=> ?_))))
       refine rg tT ⟨[(3,(vP 6 0)),(bB s_),(7,(vI u1)),(d9 u0),(wZ u4),(kJ v0),(13,(vI i)),(14,(vI n)),(96,(vB (decide ((at' ((at' u4.1 i.toNat).ax) n.toNat)=u1))))],(fH p p1)⟩ [_,_] {} [] ⟨a1,a2,trivial⟩ ?_
       refine bI h (fun hb h=> ?_) (fun hb h=> ?_)
       ·refine ct hb ?_
        refine aO h fun a1 h=> ?_
        refine rg tT ⟨[(3,(vP 6 0)),(bB s_),(7,(vI u1)),(d9 u0),(wZ u4),(12,(vD (bg none 1 (aC .i64) ((at' u4.1 i.toNat).ai)))),(13,(vI i)),(14,(vI n))],(fH p p1)⟩ [_] {} [] ⟨a1,trivial⟩ ?_
        refine rz tT ⟨[(3,(vP 6 0)),(bB s_),(7,(vI u1)),(d9 u0),(wZ u4),(12,(vD (bg none 1 (aC .i64) ((at' u4.1 i.toNat).ai)))),(13,(vI i)),(XO n)],(fH p p1)⟩ {} [] ?_
        obtain rfl:=oi h
        exact lN
       ·refine cf hb ?_
        refine aP (rz tT ⟨[(3,(vP 6 0)),(bB s_),(7,(vI u1)),(d9 u0),(wZ u4),(kJ v0),(13,(vI i)),(XO n)],(fH p p1)⟩ {} [] ?_)
        obtain rfl:=oi h
        exact lN
      ·refine cf hb1 ?_
       refine aI (fz (Ww u0 u4 v0 p p1 s_ u1 i) []) ?_
       refine aX ?_
       obtain rfl:=oi h
       exact lB
     ·clear hy
      cases y with
      |brk z=>
       obtain⟨v4,rfl⟩: ∃q,q=z:=⟨_,rfl⟩
       unfold fT
       refine⟨_, .refl, ?_⟩
       refine rz tT ⟨[(3,(vP 6 0)),(bB s_),(7,(vI u1)),(d9 u0),(wZ u4),(kJ v4),(13,(k3 i))],(fH p p1)⟩ {} [] ?_
       obtain rfl:=oi h
       exact lN
      |ret v=>
       obtain rfl:=oi h
       unfold fT
       intro e st hn ha hR
       cases e with
       |normal=>exact absurd rfl hn
       |exit id=>simp only [qB (b:=1) ha rfl,cond_false];exact hR
       |goto l=>exact hR
       |ret=>exact hR
       |panic c=>exact hR
       |outgrown=>exact hR
    ·refine cf hb2 ?_
     refine aI (fz (aae s_ u1 u0 v1 p p1) []) ?_
     refine aX ?_
     obtain rfl:=oi h
     exact lB
   ·clear hy
    cases y1 with
    |brk z=>
     obtain⟨u3,u2⟩:=z
     unfold fT
     refine⟨_, .refl, ?_⟩
     refine aQ (sz tT ⟨[(3,(vP 6 0)),(bB s_),(7,(vI u1)),(d9 u0),(kJ u2),(106,(vB (!decide ((u0.1.length:Int)=(u2.length:Int)))))],(fH p u3)⟩ {} [] ?_)
     refine bI h (fun hb13 h=> ?_) (fun hb13 h=> ?_)
     ·refine ct hb13 ?_
      refine sz tT ⟨[(6,(vB false))],[]⟩ {} [] ?_
      refine aR ?_
      obtain rfl:=oi h
      exact rl [(sB false)]
     ·refine cf hb13 ?_
      refine aP (aQ (sz tT ⟨[(3,(vP 6 0)),(bB s_),(7,(vI u1)),(d9 u0),(kJ u2),(15,(vI 0))],(fH p u3)⟩ {} [] ?_))
      refine bE h fun y3 hy h=> ?_
      refine aL [] (tY p s_ u1 u0 u3 u2) (uQ p s_ u1 u0 u3) fK hy (fun s f h=> ?_) ?_
      ·clear hy
       show bW _ _ _ _ _ _ ((nY p s_ u1 u0 u3 u2) f) _
       unfold iO at h
       obtain⟨i1,rfl⟩: ∃q,q=s:=⟨_,rfl⟩
       refine aQ (sz tT ⟨[(3,(vP 6 0)),(bB s_),(7,(vI u1)),(d9 u0),(kJ u2),(15,(vI i1)),(110,(vB (decide (i1<(u0.1.length:Int)))))],(fH p u3)⟩ {} [] ?_)
       refine bI h (fun hb7 h=> ?_) (fun hb7 h=> ?_)
       ·refine ct hb7 ?_
        refine aP (aQ (aB (aQ (aQ (aO h fun⟨a1,a2,a3,a4,a5,a6⟩ h=> ?_)))))
        refine dg tT mX ⟨[(3,(vP 6 0)),(bB s_),(7,(vI u1)),(d9 u0),(kJ u2),(15,(vI i1)),(167,(vB (bif (Mi u0 i1 u2)then true else(decide (400000≤(IntKind.wrap .i64 ((IntKind.wrap .i64 (((at' u0.1 i1.toNat).amps) - 1))*((at' u0.1 i1.toNat).bU))))))))],(fH p u3)⟩ (_::_::(eqs (OU u0 i1 u2) 3 ((gP (SY u0 i1 u2) [(10,false)]→All [(0:Int)≤i1∧i1<(u0.1.length:Int)])::(eqs (OU u0 i1 u2) 4 (eqs (Qt u0 i1 u2) 3 ((gP (SY u0 i1 u2) [(18,false)]→All [(0:Int)≤i1∧i1<(u0.1.length:Int)])::(eqs (Qt u0 i1 u2) 4 (eqs (Mf u0 i1 u2) 3 ((ZJ u0 i1 u2)::(eqs (Mf u0 i1 u2) 5 ((ZJ u0 i1 u2)::(eqs (Mf u0 i1 u2) 5 (eqs (Mi u0 i1 u2) 3 ((aac u0 i1 u2)::(eqs (Mi u0 i1 u2) 6 ((aac u0 i1 u2)::(eqs (Mi u0 i1 u2) 5 []))))))))))))))))) {yb:=[(10,(OU u0 i1 u2)),(18,(Qt u0 i1 u2)),(26,(Mf u0 i1 u2)),(40,(Mi u0 i1 u2))] } [] ⟨a1,a2,(ae ⟨(fun hg=> ⟨(a3 (bD hg)),trivial⟩),(ae (ae ⟨(fun hg=> ⟨(a4 (bD hg)),trivial⟩),(ae (ae ⟨(fun hg=> ⟨(a5 (bD hg)),trivial⟩),(ae ⟨(fun hg=> ⟨(a5 (bD hg)),trivial⟩),(ae (ae ⟨(fun hg=> ⟨(a6 (bD hg)),trivial⟩),(ae ⟨(fun hg=> ⟨(a6 (bD hg)),trivial⟩),(ae trivial)⟩)⟩))⟩)⟩))⟩))⟩)⟩ ?_
        refine bI h (fun hb6 h=> ?_) (fun hb6 h=> ?_)
        ·refine ct hb6 ?_
         refine sz tT ⟨[(6,(vB false))],[]⟩ {} [] ?_
         refine aR ?_
         obtain rfl:=oi h
         exact lR dP (dQ 4) dO (bR.mk (.inr rfl) (p:=[]) (l:=[(sB false)]) (by kernel_rfl) trivial (dY.refl _) trivial)
        ·refine cf hb6 ?_
         refine aP (aQ (aO h fun⟨a1,a2⟩ h=> ?_))
         refine dg tT mX ⟨[(3,(vP 6 0)),(bB s_),(7,(vI u1)),(d9 u0),(kJ u2),(15,(vI i1)),(16,(vI ((at' u3 (((at' u0.1 i1.toNat).source).toNat)).bus))),(17,(vI ((at' u3 (((at' u0.1 i1.toNat).source).toNat)).bU)))],(fH p u3)⟩ [_,_,_,_] {} [] ⟨a1,a2,a1,a2,trivial⟩ ?_
         refine aQ (sz tT ⟨[(3,(vP 6 0)),(bB s_),(7,(vI u1)),(d9 u0),(kJ u2),(15,(vI i1)),(16,(vI ((at' u3 (((at' u0.1 i1.toNat).source).toNat)).bus))),(17,(vI ((at' u3 (((at' u0.1 i1.toNat).source).toNat)).bU))),(18,(vI 0))],(fH p u3)⟩ {} [] ?_)
         refine bE h fun y2 hy h=> ?_
         refine aL [5] (tO p s_ u1 u0 u3 u2 i1) (uJ p s_ u1 u0 u3 u2 i1) (nY p s_ u1 u0 u3 u2) hy (fun s f h=> ?_) ?_
         ·clear hy
          show bW _ _ _ _ _ _ ((Dp p s_ u1 u0 u3 u2 i1) f) _
          unfold iM at h
          obtain⟨u5,u7,n1⟩:=s
          refine aQ (aQ (aO h fun a1 h=> ?_))
          refine rg tT ⟨[(3,(vP 6 0)),(bB s_),(7,(vI u1)),(d9 u0),(kJ u2),(15,(vI i1)),(16,(vI u5)),(17,(vI u7)),(18,(vI n1)),(195,(vB (decide (n1<(((at' u0.1 i1.toNat).af).length:Int)))))],(fH p u3)⟩ [_] {} [] ⟨a1,trivial⟩ ?_
          refine bI h (fun hb4 h=> ?_) (fun hb4 h=> ?_)
          ·refine ct hb4 ?_
           refine aP (aQ (aB (aQ (aO h fun⟨a1,a2⟩ h=> ?_))))
           refine rg tT ⟨[(3,(vP 6 0)),(bB s_),(7,(vI u1)),(d9 u0),(kJ u2),(15,(vI i1)),(16,(vI u5)),(17,(vI u7)),(18,(vI n1)),(19,(vI (pu u0 i1 n1)))],(fH p u3)⟩ [_,_] {} [] ⟨a1,a2,trivial⟩ ?_
           refine aQ (aQ (aO h fun⟨a1,a2,a3,a4,a5,a6,a7,a8⟩ h=> ?_))
           refine dg tT mX ⟨[(3,(vP 6 0)),(bB s_),(7,(vI u1)),(d9 u0),(kJ u2),(15,(vI i1)),(16,(vI u5)),(17,(vI u7)),(18,(vI n1)),(19,(vI (pu u0 i1 n1))),(273,(vB (bif (Ga p u0 i1 n1 s_)then true else(bif (Lf p u0 i1 n1 u5)then(!decide ((Wt p u0 i1 n1)=u5))else false))))],(fH p u3)⟩ (eqs (SN u0 i1 n1) 6 (eqs (Qv p u0 i1 n1) 4 ((gP (F3 p u0 i1 n1 s_ u5) [(9,false)]→All [(0:Int)≤(pu u0 i1 n1)∧(pu u0 i1 n1)<(s_.bK.length:Int)])::(eqs (Qv p u0 i1 n1) 3 (eqs (Oo p u0 i1 n1 s_) 4 ((gP (F3 p u0 i1 n1 s_ u5) [(17,false)]→All [(0:Int)≤(pu u0 i1 n1)∧(pu u0 i1 n1)<(s_.bG.length:Int)])::(eqs (Oo p u0 i1 n1 s_) 2 (eqs (MP p u0 i1 n1 s_) 6 ((gP (F3 p u0 i1 n1 s_ u5) [(24,false)]→All [(0:Int)≤(pu u0 i1 n1)∧(pu u0 i1 n1)<(p.af.length:Int)])::(eqs (MP p u0 i1 n1 s_) 3 ((gP (F3 p u0 i1 n1 s_ u5) [(24,false)]→All [(0:Int)≤(Iz p u0 i1 n1).a∧(Iz p u0 i1 n1).a<(s_.aG.length:Int)])::(eqs (MP p u0 i1 n1 s_) 2 (eqs (MC p u0 i1 n1 s_) 6 ((gP (F3 p u0 i1 n1 s_ u5) [(36,false)]→All [(0:Int)≤(pu u0 i1 n1)∧(pu u0 i1 n1)<(p.af.length:Int)])::(eqs (MC p u0 i1 n1 s_) 3 ((gP (F3 p u0 i1 n1 s_ u5) [(36,false)]→All [(0:Int)≤(Iz p u0 i1 n1).b∧(Iz p u0 i1 n1).b<(s_.aG.length:Int)])::(eqs (MC p u0 i1 n1 s_) 2 (eqs (Ga p u0 i1 n1 s_) 4 ((gP (F3 p u0 i1 n1 s_ u5) [(48,false)]→All [(0:Int)≤(pu u0 i1 n1)∧(pu u0 i1 n1)<(p.af.length:Int)])::(eqs (Ga p u0 i1 n1 s_) 5 (eqs (Lf p u0 i1 n1 u5) 4 ((gP (F3 p u0 i1 n1 s_ u5) [(57,true),(48,false)]→All [(0:Int)≤(pu u0 i1 n1)∧(pu u0 i1 n1)<(p.af.length:Int)])::(eqs (Lf p u0 i1 n1 u5) 4 [(Ga p u0 i1 n1 s_)=(Ga p u0 i1 n1 s_),gP (F3 p u0 i1 n1 s_ u5) [(48,false)]→All [(Lf p u0 i1 n1 u5)=(Lf p u0 i1 n1 u5)],(Ga p u0 i1 n1 s_)=(Ga p u0 i1 n1 s_)]))))))))))))))))))))))) {yb:=[(2,(SN u0 i1 n1)),(9,(Qv p u0 i1 n1)),(17,(Oo p u0 i1 n1 s_)),(24,(MP p u0 i1 n1 s_)),(36,(MC p u0 i1 n1 s_)),(48,(Ga p u0 i1 n1 s_)),(57,(Lf p u0 i1 n1 u5))] } [] (ae (ae ⟨(fun hg=> ⟨(a1 (bD hg)),trivial⟩),(ae (ae ⟨(fun hg=> ⟨(a2 (bD hg)),trivial⟩),(ae (ae ⟨(fun hg=> ⟨(a3 (bD hg)),trivial⟩),(ae ⟨(fun hg=> ⟨(a4 (bD hg)),trivial⟩),(ae (ae ⟨(fun hg=> ⟨(a5 (bD hg)),trivial⟩),(ae ⟨(fun hg=> ⟨(a6 (bD hg)),trivial⟩),(ae (ae ⟨(fun hg=> ⟨(a7 (bD hg)),trivial⟩),(ae (ae ⟨(fun hg=> ⟨(a8 (bD hg)),trivial⟩),(ae ⟨rfl,(fun hg=> ⟨rfl,trivial⟩),rfl,trivial⟩)⟩))⟩))⟩)⟩))⟩)⟩))⟩))⟩)) ?_
           refine bI h (fun hb3 h=> ?_) (fun hb3 h=> ?_)
           ·refine ct hb3 ?_
            refine sz tT ⟨[(6,(vB false))],[]⟩ {} [] ?_
            refine aR ?_
            obtain rfl:=oi h
            exact lR dP (dQ 6) dO (lR dP (dQ 4) dO (bR.mk (.inr rfl) (p:=[]) (l:=[(sB false)]) (by kernel_rfl) trivial (dY.refl _) trivial))
           ·refine cf hb3 ?_
            refine aP (aQ (aO h fun a1 h=> ?_))
            refine dg tT mX ⟨[(3,(vP 6 0)),(bB s_),(7,(vI u1)),(d9 u0),(kJ u2),(15,(vI i1)),(Vo p u0 i1 n1 u5),(17,(vI u7)),(18,(vI n1)),(19,(vI (pu u0 i1 n1)))],(fH p u3)⟩ [_,_] {} [] ⟨a1,a1,trivial⟩ ?_
            refine aO h fun a1 h=> ?_
            refine rg tT ⟨[(3,(vP 6 0)),(bB s_),(7,(vI u1)),(d9 u0),(kJ u2),(15,(vI i1)),(Vo p u0 i1 n1 u5),(17,(vI (IntKind.wrap .i64 (u7+((Iz p u0 i1 n1).bU))))),(18,(vI n1))],(fH p u3)⟩ [_] {} [] ⟨a1,trivial⟩ ?_
            refine rz tT ⟨[(3,(vP 6 0)),(bB s_),(7,(vI u1)),(d9 u0),(kJ u2),(15,(vI i1)),(Vo p u0 i1 n1 u5),(17,(vI (IntKind.wrap .i64 (u7+((Iz p u0 i1 n1).bU))))),(18,(k3 n1))],(fH p u3)⟩ {} [] ?_
            obtain rfl:=oi h
            exact lN
          ·refine cf hb4 ?_
           refine aI (fz (ZK s_ u1 u0 u2 i1 u5 u7 p u3) []) ?_
           refine aX ?_
           obtain rfl:=oi h
           exact lB
         ·clear hy
          cases y2 with
          |brk z=>
           obtain⟨u9,v5⟩:=z
           unfold fT
           refine⟨_, .refl, ?_⟩
           refine aQ (aO h fun a1 h=> ?_)
           refine rg tT ⟨[(3,(vP 6 0)),(bB s_),(7,(vI u1)),(d9 u0),(kJ u2),(15,(vI i1)),(308,(vB (bif (!decide (u9=u1))then true else(!decide (v5=((at' u0.1 i1.toNat).bU))))))],(fH p u3)⟩ (eqs (!decide (u9=u1)) 4 ((gP (jq [(3,(!decide (u9=u1)))]) [(3,false)]→All [(0:Int)≤i1∧i1<(u0.1.length:Int)])::(eqs (!decide (u9=u1)) 4 []))) {yb:=[(3,(!decide (u9=u1)))] } [] (ae ⟨(fun hg=> ⟨(a1 (bD hg)),trivial⟩),(ae trivial)⟩) ?_
           refine bI h (fun hb5 h=> ?_) (fun hb5 h=> ?_)
           ·refine ct hb5 ?_
            refine sz tT ⟨[(6,(vB false))],[]⟩ {} [] ?_
            refine aR ?_
            obtain rfl:=oi h
            exact lR dP (dQ 4) dO (bR.mk (.inr rfl) (p:=[]) (l:=[(sB false)]) (by kernel_rfl) trivial (dY.refl _) trivial)
           ·refine cf hb5 ?_
            refine aP (rz tT ⟨[(3,(vP 6 0)),(bB s_),(7,(vI u1)),(d9 u0),(kJ u2),(15,(k3 i1))],(fH p u3)⟩ {} [] ?_)
            obtain rfl:=oi h
            exact lN
          |ret v=>
           obtain rfl:=oi h
           unfold fT
           intro e st hn ha hR
           cases e with
           |normal=>exact absurd rfl hn
           |exit id=>simp only [qB (b:=5) ha rfl,cond_false];exact hR
           |goto l=>exact hR
           |ret=>exact hR
           |panic c=>exact hR
           |outgrown=>exact hR
       ·refine cf hb7 ?_
        refine aI (fz (ZI s_ u1 u0 p u3) []) ?_
        refine aX ?_
        obtain rfl:=oi h
        exact lB
      ·clear hy
       cases y3 with
       |brk z=>
        unfold fT
        refine⟨_, .refl, ?_⟩
        refine aQ (sz tT ⟨[(3,(vP 6 0)),(bB s_),(7,(vI u1)),(d9 u0),(20,(vI 0))],(fH p u3)⟩ {} [] ?_)
        refine bE h fun y5 hy h=> ?_
        refine aL [] (uh p s_ u1 u0 u3) uy fK hy (fun s f h=> ?_) ?_
        ·clear hy
         show bW _ _ _ _ _ _ ((nV p s_ u1 u0 u3) f) _
         unfold iI at h
         obtain⟨k,rfl⟩: ∃q,q=s:=⟨_,rfl⟩
         refine aQ (sz tT ⟨[(3,(vP 6 0)),(bB s_),(7,(vI u1)),(d9 u0),(20,(vI k)),(313,(k98 p k))],(fH p u3)⟩ {} [] ?_)
         refine bI h (fun hb12 h=> ?_) (fun hb12 h=> ?_)
         ·refine ct hb12 ?_
          refine aP (aQ (aB (aQ (aO h fun a1 h=> ?_))))
          refine rg tT ⟨[(3,(vP 6 0)),(bB s_),(7,(vI u1)),(d9 u0),(20,(vI k)),(Gj p k)],(fH p u3)⟩ [_] {fr:=[(5,11)] } [11] ⟨a1,trivial⟩ ?_
          refine aQ (aQ (aO h fun⟨a1,a2,a3,a4⟩ h=> ?_))
          refine rg tT ⟨[(3,(vP 6 0)),(bB s_),(7,(vI u1)),(d9 u0),(20,(vI k)),(Gj p k),(361,(vB (bif (IZ p s_ k)then true else(bif (Ms p k u1)then(!decide (((at' p.af k.toNat).b)=u1))else false))))],(fH p u3)⟩ (_::(eqs (H8 s_ k) 4 ((gP (SE p s_ k u1) [(6,false)]→All [(0:Int)≤k∧k<(s_.bG.length:Int)])::(eqs (H8 s_ k) 2 (eqs (P6 s_ k) 5 ((gP (SE p s_ k u1) [(13,false)]→All [(0:Int)≤(at' p.af k.toNat).a∧(at' p.af k.toNat).a<(s_.aG.length:Int)])::(eqs (P6 s_ k) 2 (eqs (Px p s_ k) 5 ((gP (SE p s_ k u1) [(21,false)]→All [(0:Int)≤(at' p.af k.toNat).b∧(at' p.af k.toNat).b<(s_.aG.length:Int)])::(eqs (Px p s_ k) 2 (eqs (IZ p s_ k) 5 (eqs (Ms p k u1) 4 [(IZ p s_ k)=(IZ p s_ k),gP (SE p s_ k u1) [(29,false)]→All [(Ms p k u1)=(Ms p k u1)],(IZ p s_ k)=(IZ p s_ k)])))))))))))) {yb:=[(6,(H8 s_ k)),(13,(P6 s_ k)),(21,(Px p s_ k)),(29,(IZ p s_ k)),(34,(Ms p k u1))] } [] ⟨a1,(ae ⟨(fun hg=> ⟨(a2 (bD hg)),trivial⟩),(ae (ae ⟨(fun hg=> ⟨(a3 (bD hg)),trivial⟩),(ae (ae ⟨(fun hg=> ⟨(a4 (bD hg)),trivial⟩),(ae (ae (ae ⟨rfl,(fun hg=> ⟨rfl,trivial⟩),rfl,trivial⟩)))⟩))⟩))⟩)⟩ ?_
          refine bI h (fun hb11 h=> ?_) (fun hb11 h=> ?_)
          ·refine ct hb11 ?_
           refine aX (rz tT (Z6 p u0 s_ k u1 u3) {} [] ?_)
           obtain rfl:=oi h
           exact lN
          ·refine cf hb11 ?_
           refine aP (aQ (bE h fun u6 hr_5 h=> ?_))
           have q0:=iW (⟨p.ax,u3,p.af,p.aF⟩:au) s_ (IntKind.wrap .i64 ((IntKind.wrap .i64 (((at' p.af k.toNat).a)+((at' p.af k.toNat).b))) - u1)) hr_5
           refine rg tT ⟨[(3,(vP 6 0)),(bB s_),(7,(vI u1)),(d9 u0),(20,(vI k)),(Gj p k),(KH u6),(23,(vI u6.2))],(fH p u3)⟩ [_] {an:=[(9,cA q0 [])] } [] ⟨q0,trivial⟩ ?_
           refine aQ (sg tT ⟨[(3,(vP 6 0)),(bB s_),(7,(vI u1)),(d9 u0),(20,(vI k)),(Gj p k),(KH u6),(383,(vB (bif (!decide (u6.2=0))then true else(!decide ((u6.1.length:Int)=(u0.1.length:Int))))))],(fH p u3)⟩ (eqs (!decide (u6.2=0)) 6 []) {yb:=[(2,(!decide (u6.2=0)))] } [] (ae trivial) ?_)
           refine bI h (fun hb10 h=> ?_) (fun hb10 h=> ?_)
           ·refine ct hb10 ?_
            refine sz tT ⟨[(6,(vB false))],[]⟩ {} [] ?_
            refine aR ?_
            obtain rfl:=oi h
            exact lR dP (dQ 8) dO (bR.mk (.inr rfl) (p:=[]) (l:=[(sB false)]) (by kernel_rfl) trivial (dY.refl _) trivial)
           ·refine cf hb10 ?_
            refine aP (sz tT ⟨[(3,(vP 6 0)),(bB s_),(7,(vI u1)),(d9 u0),(20,(vI k)),(Gj p k),(KH u6),(24,(vI 0))],(fH p u3)⟩ {} [] ?_)
            refine bE h fun y4 hy h=> ?_
            refine aL [9] (uG p s_ u1 u0 u3 k u6) (tZ p s_ u1 u0 u3 k) (nV p s_ u1 u0 u3) hy (fun s f h=> ?_) ?_
            ·clear hy
             show bW _ _ _ _ _ _ ((DJ p s_ u1 u0 u3 k u6) f) _
             unfold iJ at h
             obtain⟨i2,rfl⟩: ∃q,q=s:=⟨_,rfl⟩
             refine aQ (sz tT ⟨[(3,(vP 6 0)),(bB s_),(7,(vI u1)),(d9 u0),(20,(vI k)),(Gj p k),(KH u6),(24,(vI i2)),(387,(vB (decide (i2<(u0.1.length:Int)))))],(fH p u3)⟩ {} [] ?_)
             refine bI h (fun hb9 h=> ?_) (fun hb9 h=> ?_)
             ·refine ct hb9 ?_
              refine aP (aQ (aB (aQ (aO h fun⟨a1,a2,a3,a4⟩ h=> ?_))))
              refine dg tT mX ⟨[(3,(vP 6 0)),(bB s_),(7,(vI u1)),(d9 u0),(20,(vI k)),(Gj p k),(KH u6),(24,(vI i2)),(419,(vB (bif (KQ p u0 k i2 u6)then true else(KQ p u6 k i2 u0))))],(fH p u3)⟩ (_::_::(eqs (KQ p u0 k i2 u6) 3 ((gP (ZH p u0 k i2 u6) [(14,false)]→All [(0:Int)≤i2∧i2<(u0.1.length:Int)])::(eqs (KQ p u0 k i2 u6) 5 ((gP (ZH p u0 k i2 u6) [(14,false)]→All [(0:Int)≤i2∧i2<(u6.1.length:Int)])::(eqs (KQ p u0 k i2 u6) 7 [])))))) {yb:=[(14,(KQ p u0 k i2 u6))] } [] ⟨a1,a2,(ae ⟨(fun hg=> ⟨(a3 (bD hg)),trivial⟩),(ae ⟨(fun hg=> ⟨(a4 (bD hg)),trivial⟩),(ae trivial)⟩)⟩)⟩ ?_
              refine bI h (fun hb8 h=> ?_) (fun hb8 h=> ?_)
              ·refine ct hb8 ?_
               refine sz tT ⟨[(6,(vB false))],[]⟩ {} [] ?_
               refine aR ?_
               obtain rfl:=oi h
               exact lR dP (dQ 10) dO (lR dP (dQ 8) dO (bR.mk (.inr rfl) (p:=[]) (l:=[(sB false)]) (by kernel_rfl) trivial (dY.refl _) trivial))
              ·refine cf hb8 ?_
               refine aP (rz tT ⟨[(3,(vP 6 0)),(bB s_),(7,(vI u1)),(d9 u0),(20,(vI k)),(Gj p k),(KH u6),(24,(k3 i2))],(fH p u3)⟩ {} [] ?_)
               obtain rfl:=oi h
               exact lN
             ·refine cf hb9 ?_
              refine aI (fz (VE s_ u1 u0 k p u3) []) ?_
              refine aX ?_
              obtain rfl:=oi h
              exact lB
            ·clear hy
             cases y4 with
             |brk z=>
              unfold fT
              refine⟨_, .refl, ?_⟩
              refine rz tT (Z6 p u0 s_ k u1 u3) {} [] ?_
              obtain rfl:=oi h
              exact lN
             |ret v=>
              obtain rfl:=oi h
              unfold fT
              intro e st hn ha hR
              cases e with
              |normal=>exact absurd rfl hn
              |exit id=>simp only [qB (b:=9) ha rfl,cond_false];exact hR
              |goto l=>exact hR
              |ret=>exact hR
              |panic c=>exact hR
              |outgrown=>exact hR
         ·refine cf hb12 ?_
          refine aI (fz ⟨[],[]⟩ []) ?_
          refine aX ?_
          obtain rfl:=oi h
          exact lB
        ·clear hy
         cases y5 with
         |brk z=>
          unfold fT
          refine⟨_, .refl, ?_⟩
          refine aQ (bE h fun v3 hr_6 h=> ?_)
          have q0:=zV hr_6
          refine rg tT ⟨[(6,(vB v3))],[]⟩ [_] {an:=[(0,cA q0 [])] } [] ⟨q0,trivial⟩ ?_
          refine aR ?_
          obtain rfl:=oi h
          exact rl [(sB v3)]
         |ret v=>
          obtain rfl:=oi h
          unfold fT
          intro e st hn ha hR
          cases e with
          |normal=>exact absurd rfl hn
          |exit id=>exact hR
          |goto l=>exact hR
          |ret=>exact hR
          |panic c=>exact hR
          |outgrown=>exact hR
       |ret v=>
        obtain rfl:=oi h
        unfold fT
        intro e st hn ha hR
        cases e with
        |normal=>exact absurd rfl hn
        |exit id=>exact hR
        |goto l=>exact hR
        |ret=>exact hR
        |panic c=>exact hR
        |outgrown=>exact hR
    |ret v=>
     obtain rfl:=oi h
     unfold fT
     intro e st hn ha hR
     cases e with
     |normal=>exact absurd rfl hn
     |exit id=>exact hR
     |goto l=>exact hR
     |ret=>exact hR
     |panic c=>exact hR
     |outgrown=>exact hR
end
end Sg
