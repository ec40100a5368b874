import Derived.Test.YtpndenfhglaikaaW1
set_option linter.all false
namespace Sg
open Go Go.Proofs
set_option maxRecDepth 20000
noncomputable section
section
variable (a:(List Short)) (i:Int) (b:(List Short))
abbrev RQ:=(!decide (((at' a i.toNat).source)=((at' b i.toNat).source)))
abbrev RU:=(bif (RQ a i b)then true else(!decide (((at' a i.toNat).iH)=((at' b i.toNat).iH))))
abbrev OQ:=(bif (RU a i b)then true else(!decide (((at' a i.toNat).amps)=((at' b i.toNat).amps))))
abbrev OX:=(jl [(11,(RQ a i b)),(24,(RU a i b)),(37,(OQ a i b))])
end
theorem bX (a:(List Short)) (b:(List Short)) {r:Bool} (h:gK a b=some r):Fn Try.prog 52 [(sD (aK none 4 Short.cell a)),(sD (aK none 4 Short.cell b))] [] (vB r) []:=by
 refine fN tT Try.func52 rfl rfl fun B=> ?_
 show bJ _ _ _ _ _ _ (lX r) _
 unfold gK at h
 refine sz tT ⟨[(Pj a),(G5 b)],[]⟩ {} [] ?_
 refine aQ (sz tT ⟨[(Pj a),(G5 b),(10,(vB (!decide ((a.length:Int)=(b.length:Int)))))],[]⟩ {} [] ?_)
 refine bI h (fun hb2 h=> ?_) (fun hb2 h=> ?_)
 ·refine ct hb2 ?_
  refine sz tT ⟨[(4,(vB false))],[]⟩ {} [] ?_
  refine aR ?_
  obtain rfl:=oi h
  exact rl [(sB false)]
 ·refine cf hb2 ?_
  refine aP (aQ (sz tT ⟨[(Pj a),(G5 b),(5,(vI 0))],[]⟩ {} [] ?_))
  refine bE h fun y hy h=> ?_
  refine aL [] (p9 a b) qp lX hy (fun s f h=> ?_) ?_
  ·clear hy
   show bJ _ _ _ _ _ _ ((zP a b) f) _
   unfold qg at h
   obtain⟨i,rfl⟩: ∃q,q=s:=⟨_,rfl⟩
   refine aQ (sz tT ⟨[(Pj a),(G5 b),(5,(vI i)),(14,(vB (decide (i<(a.length:Int)))))],[]⟩ {} [] ?_)
   refine bI h (fun hb1 h=> ?_) (fun hb1 h=> ?_)
   ·refine ct hb1 ?_
    refine aP (aQ (aB (aQ (bE h fun r_ hr_ h=> ?_))))
    refine aO h fun⟨a1,a2,a3,a4,a5,a6,a7,a8⟩ h=> ?_
    refine dg tT mX ⟨[(Pj a),(G5 b),(5,(vI i)),(67,(vB (bif (OQ a i b)then true else(!r_))))],[]⟩ (_::_::(eqs (RQ a i b) 3 ((gP (OX a i b) [(11,false)]→All [(0:Int)≤i∧i<(a.length:Int)])::(eqs (RQ a i b) 5 ((gP (OX a i b) [(11,false)]→All [(0:Int)≤i∧i<(b.length:Int)])::(eqs (RQ a i b) 4 (eqs (RU a i b) 3 ((gP (OX a i b) [(24,false)]→All [(0:Int)≤i∧i<(a.length:Int)])::(eqs (RU a i b) 5 ((gP (OX a i b) [(24,false)]→All [(0:Int)≤i∧i<(b.length:Int)])::(eqs (RU a i b) 4 (eqs (OQ a i b) 3 ((gP (OX a i b) [(37,false)]→All [(0:Int)≤i∧i<(a.length:Int)])::(eqs (OQ a i b) 5 ((gP (OX a i b) [(37,false)]→All [(0:Int)≤i∧i<(b.length:Int)])::(eqs (OQ a i b) 3 ((gP (OX a i b) [(37,false)]→All [Fn Try.prog 54 [(sD (Xw a i)),(sD (Xw b i))] [] (vB r_) []])::(eqs (OQ a i b) 2 [])))))))))))))))))) {yb:=[(11,(RQ a i b)),(24,(RU a i b)),(37,(OQ a i b))],an:=[(48, .call [] (vB r_) [])] } [] ⟨a1,a2,(ae ⟨(fun hg=> ⟨(a3 (aZ hg)),trivial⟩),(ae ⟨(fun hg=> ⟨(a4 (aZ hg)),trivial⟩),(ae (ae ⟨(fun hg=> ⟨(a5 (aZ hg)),trivial⟩),(ae ⟨(fun hg=> ⟨(a6 (aZ hg)),trivial⟩),(ae (ae ⟨(fun hg=> ⟨(a7 (aZ hg)),trivial⟩),(ae ⟨(fun hg=> ⟨(a8 (aZ hg)),trivial⟩),(ae ⟨(fun hg=> ⟨(dG ((at' a i.toNat).links) ((at' b i.toNat).links) (gI hr_ (aZ hg))),trivial⟩),(ae trivial)⟩)⟩)⟩))⟩)⟩))⟩)⟩)⟩ ?_
    refine bI h (fun hb h=> ?_) (fun hb h=> ?_)
    ·refine ct hb ?_
     refine sz tT ⟨[(4,(vB false))],[]⟩ {} [] ?_
     refine aR ?_
     obtain rfl:=oi h
     exact lR dY (dX 0) dW (bB.mk (.inr rfl) (p:=[]) (l:=[(sB false)]) (by kernel_rfl) trivial (eO.refl _) trivial)
    ·refine cf hb ?_
     refine aP (rz tT ⟨[(Pj a),(G5 b),(k2 i)],[]⟩ {} [] ?_)
     obtain rfl:=oi h
     exact lN
   ·refine cf hb1 ?_
    refine aI (fz ⟨[],[]⟩ []) ?_
    refine aX ?_
    obtain rfl:=oi h
    exact lB
  ·clear hy
   cases y with
   |brk z=>
    unfold gm
    refine⟨_, .refl, ?_⟩
    refine sz tT ⟨[(4,(vB true))],[]⟩ {} [] ?_
    refine aR ?_
    obtain rfl:=oi h
    exact rl [(sB true)]
   |ret v=>
    obtain rfl:=oi h
    unfold gm
    intro e st hn ha hR
    cases e with
    |normal=>exact absurd rfl hn
    |exit id=>exact hR
    |goto l=>exact hR
    |ret=>exact hR
    |panic c=>exact hR
    |outgrown=>exact hR
def mD (u0:(List Int)):(ah × State)→Exit→St→Prop:=
  fun r=>bB TT [.cell 2 26, .cell 3 29] (.iP [(.agg [(cI r.1.buses),(.d (aK none 5 Source.cell r.1.sources)),(.d (aK none 6 Link.cell r.1.links)),(.d (aK none 4 ay.cell r.1.racks))]),(.agg [(.d (aK none 1 aj r.2.closed)),(.d (aK none 1 aj r.2.locked)),(.d (aK none 1 aj r.2.badLink)),(.d (aK none 1 aj r.2.on_)),(.d (aK none 1 aj r.2.badSource)),(.d (aK none 1 aj r.2.earthed)),(.d (aK none 1 aj r.2.badBus))])]) (uR u0)
section
variable (u0:(List Int)) (p3:(List ay))
abbrev LF:Nat × Option Ob:=(21,some (.cells 26 [(cI 0),(.d nS),(.d nS),(.d nS)]))
abbrev KR:Nat × Option Ob:=(22,some (.cells 29 [(.d nS),(.d nS),(.d nS),(.d nS),(.d nS),(.d nS),(.d nS)]))
abbrev Mf:Nat × Option Ob:=(23,some (cu 126 5 Source.cell [(⟨0,1,500,0,20⟩:Source),(⟨2,2,300,0,40⟩:Source)]))
abbrev Pm:Nat × Option Ob:=(24,some (cu 53 6 Link.cell [(⟨0,1,3,400,10,([]:List iY)⟩:Link),(⟨1,2,3,400,10,([]:List iY)⟩:Link)]))
abbrev VU:List (Nat × Option Ob):=[(EY u0),LF,KR,Mf,Pm,(25,some (.cells 26 [(cI 3),(.own 23 true ([(⟨0,1,500,0,20⟩:Source),(⟨2,2,300,0,40⟩:Source)].length)),(.own 24 true ([(⟨0,1,3,400,10,([]:List iY)⟩:Link),(⟨1,2,3,400,10,([]:List iY)⟩:Link)].length)),(.own 27 false p3.length)])),(27,some (cu 166 4 ay.cell p3))]
end
def pX (u0:(List Int)):((List ay) × Int)→St:=
  fun zz=>match zz with|(p3,i)=> ⟨[(BU u0),(2,(vP 21 0)),(3,(vP 22 0)),(4,(vP 25 0)),(5,(vI i))],(VU u0 p3)⟩
section
variable (u1:(List Int)) (u0:(List ay))
abbrev aem:St:=⟨[(2,(vP 21 0)),(3,(vP 22 0)),(4,(vP 25 0))],(VU u1 u0)⟩
end
def pW (u1:(List Int)):(List ay)→St:=
  fun u0=>(aem u1 u0)
def zY (u0:(List Int)):(aM ((List ay) × Int) (Ex (List ay) (ah × State)))→Exit→St→Prop:=
  LQ 0 [] (pX u0) (pW u0) (mD u0)
section
variable (u0:(List Int)) (i:Int) (p3:(List ay))
abbrev abU:List CV:=[(cI 3),(.own 23 true ([(⟨0,1,500,0,20⟩:Source),(⟨2,2,300,0,40⟩:Source)].length)),(.own 24 true ([(⟨0,1,3,400,10,([]:List iY)⟩:Link),(⟨1,2,3,400,10,([]:List iY)⟩:Link)].length)),(.d nS)]
abbrev agx:Nat × Option Ob:=(25,some (.cells 26 abU))
abbrev ads:List (Nat × Option Ob):=[(EY u0),LF,KR,Mf,Pm,agx]
abbrev Xh:List (Nat × TV):=[(BU u0),(2,(vP 21 0)),(3,(vP 22 0)),(4,(vP 25 0)),(5,(vI 0))]
abbrev QG:=(⟨(⟨1,(-1)⟩:af),(at' u0 i.toNat),1⟩:ay)
abbrev NG:=(p3++[(QG u0 i)])
abbrev afM:List (Nat × Option Ob):=[(EY u0),LF,KR,Mf,Pm,(25,some (.cells 26 [(cI 3),(.own 23 true ([(⟨0,1,500,0,20⟩:Source),(⟨2,2,300,0,40⟩:Source)].length)),(.own 24 true ([(⟨0,1,3,400,10,([]:List iY)⟩:Link),(⟨1,2,3,400,10,([]:List iY)⟩:Link)].length)),(.own 33 false ((NG u0 i p3).length))])),(33,some (cu 166 4 ay.cell (NG u0 i p3)))]
abbrev ZK:=(aC ay.cell [(QG u0 i)])
abbrev adE:List (Nat × TV):=[(BU u0),(2,(vP 21 0)),(3,(vP 22 0)),(4,(vP 25 0)),(k2 i)]
abbrev afb:DV:=(aK (some true) 5 Source.cell [(⟨0,1,500,0,20⟩:Source),(⟨2,2,300,0,40⟩:Source)])
abbrev adk:DV:=(aK (some true) 6 Link.cell [(⟨0,1,3,400,10,([]:List iY)⟩:Link),(⟨1,2,3,400,10,([]:List iY)⟩:Link)])
abbrev X0:DV:=(aK (some true) 1 aj [true,true])
abbrev R6:DV:=(aK (some true) 1 aj (List.replicate 2 (false:Bool)))
abbrev WV:DV:=(aK (some true) 1 aj (List.replicate 3 (false:Bool)))
abbrev aeI:DV:=(aK none 5 Source.cell [(⟨0,1,500,0,20⟩:Source),(⟨2,2,300,0,40⟩:Source)])
abbrev abR:DV:=(aK none 6 Link.cell [(⟨0,1,3,400,10,([]:List iY)⟩:Link),(⟨1,2,3,400,10,([]:List iY)⟩:Link)])
abbrev Sy:DV:=(aK none 1 aj (List.replicate 2 (false:Bool)))
abbrev WY:DV:=(aK none 1 aj (List.replicate 3 (false:Bool)))
end
theorem qo (u0:(List Int)) {r:(ah × State)} (h:nU u0=some r):Fn Try.prog 73 [(.one (.own 0 true u0.length))] (uR u0) (.iP [(.agg [(cI r.1.buses),(.d (aK none 5 Source.cell r.1.sources)),(.d (aK none 6 Link.cell r.1.links)),(.d (aK none 4 ay.cell r.1.racks))]),(.agg [(.d (aK none 1 aj r.2.closed)),(.d (aK none 1 aj r.2.locked)),(.d (aK none 1 aj r.2.badLink)),(.d (aK none 1 aj r.2.on_)),(.d (aK none 1 aj r.2.badSource)),(.d (aK none 1 aj r.2.earthed)),(.d (aK none 1 aj r.2.badBus))])]) (uR u0):=by
 refine fN tT Try.func73 rfl rfl fun B=> ?_
 show bJ _ _ _ _ _ _ ((mD u0) r) _
 unfold nU at h
 refine sz tT ⟨[(BU u0),(2,(vP 21 0)),(3,(vP 22 0))],[(EY u0),LF,KR]⟩ {fr:=[(0,21),(1,22)] } [] ?_
 refine si tT ⟨[(BU u0),(2,(vP 21 0)),(3,(vP 22 0)),(4,(vP 25 0))],[(EY u0),LF,KR,Mf,(24,some (.arr 53 6 [(⟨0,1,3,400,10,([]:List iY)⟩:Link),(⟨1,2,3,400,10,([]:List iY)⟩:Link)].length (jD 6 [(.int .i64 0),(.int .i64 1),(.int .i64 3),(.int .i64 400),(.int .i64 10),nS,(.int .i64 1),(.int .i64 2),(.int .i64 3),(.int .i64 400),(.int .i64 10),nS]))),agx]⟩ [[(⟨0,1,500,0,20⟩:Source),(⟨2,2,300,0,40⟩:Source)].length=2,aG 2 5 (jD 5 [(.int .i64 0),(.int .i64 1),(.int .i64 500),(.int .i64 0),(.int .i64 20),(.int .i64 2),(.int .i64 2),(.int .i64 300),(.int .i64 0),(.int .i64 40)]) (aC Source.cell [(⟨0,1,500,0,20⟩:Source),(⟨2,2,300,0,40⟩:Source)]),[(⟨0,1,3,400,10,([]:List iY)⟩:Link),(⟨1,2,3,400,10,([]:List iY)⟩:Link)].length=2,aG 2 6 (jD 6 [(.int .i64 0),(.int .i64 1),(.int .i64 3),(.int .i64 400),(.int .i64 10),nS,(.int .i64 1),(.int .i64 2),(.int .i64 3),(.int .i64 400),(.int .i64 10),nS]) (jD 6 [(.int .i64 0),(.int .i64 1),(.int .i64 3),(.int .i64 400),(.int .i64 10),nS,(.int .i64 1),(.int .i64 2),(.int .i64 3),(.int .i64 400),(.int .i64 10),nS])] {an:=[(2, .arr [(⟨0,1,500,0,20⟩:Source),(⟨2,2,300,0,40⟩:Source)].length (aC Source.cell [(⟨0,1,500,0,20⟩:Source),(⟨2,2,300,0,40⟩:Source)])),(5, .arr [(⟨0,1,3,400,10,([]:List iY)⟩:Link),(⟨1,2,3,400,10,([]:List iY)⟩:Link)].length (jD 6 [(.int .i64 0),(.int .i64 1),(.int .i64 3),(.int .i64 400),(.int .i64 10),nS,(.int .i64 1),(.int .i64 2),(.int .i64 3),(.int .i64 400),(.int .i64 10),nS]))],fr:=[(2,23),(5,24),(7,25)] } [] ⟨(rfl),((by intro i hi j hj;match i,j,hi,hj with|0,0,_,_=>rfl|0,1,_,_=>rfl|0,2,_,_=>rfl|0,3,_,_=>rfl|0,4,_,_=>rfl|1,0,_,_=>rfl|1,1,_,_=>rfl|1,2,_,_=>rfl|1,3,_,_=>rfl|1,4,_,_=>rfl)),(rfl),(iq _ _ _),trivial⟩ (bM.le (st':=⟨[(BU u0),(2,(vP 21 0)),(3,(vP 22 0)),(4,(vP 25 0))],(ads u0)⟩) ⟨⟨tR,tR,tR,tR,trivial⟩,(hN 4 ⟨rfl,Qq (by intro i hi j hj;match i,j,hi,hj with|0,0,_,_=>exact .refl _|0,1,_,_=>exact .refl _|0,2,_,_=>exact .refl _|0,3,_,_=>exact .refl _|0,4,_,_=>exact .refl _|0,5,_,_=>exact gV.nil'|1,0,_,_=>exact .refl _|1,1,_,_=>exact .refl _|1,2,_,_=>exact .refl _|1,3,_,_=>exact .refl _|1,4,_,_=>exact .refl _|1,5,_,_=>exact gV.nil'),(.refl _)⟩)⟩) ?_
 refine aQ (sz tT ⟨(Xh u0),(ads u0)⟩ {} [] ?_)
 refine bE h fun y hy h=> ?_
 refine aI (.trans (bM.zi (E:=0) (esz:=0) (E0:=26) (cs:=abU) (p:=25) (q:=3) (b:=34) (esz0:=0) (el0:=fun _ _=> .nilp) (ob:= .arr 166 4 0 (aC ay.cell ([]:List ay))) (fun _ _ _ _ h=> .inl ⟨h,rfl⟩) (by kernel_rfl) (by kernel_rfl) (by kernel_rfl)) (.trans (fz ⟨(Xh u0),[(EY u0),LF,KR,Mf,Pm,(25,some (.cells 26 [(cI 3),(.own 23 true ([(⟨0,1,500,0,20⟩:Source),(⟨2,2,300,0,40⟩:Source)].length)),(.own 24 true ([(⟨0,1,3,400,10,([]:List iY)⟩:Link),(⟨1,2,3,400,10,([]:List iY)⟩:Link)].length)),(.own 34 false 0)])),(34,some (.arr 166 4 0 (aC ay.cell ([]:List ay))))]⟩ []) (.trans (bM.fin (st':=⟨(Xh u0),[(EY u0),LF,KR,Mf,Pm,(25,some (.cells 26 [(cI 3),(.own 23 true ([(⟨0,1,500,0,20⟩:Source),(⟨2,2,300,0,40⟩:Source)].length)),(.own 24 true ([(⟨0,1,3,400,10,([]:List iY)⟩:Link),(⟨1,2,3,400,10,([]:List iY)⟩:Link)].length)),(.own 27 false 0)])),(27,some (.arr 166 4 0 (aC ay.cell ([]:List ay))))]⟩) (cs:=[]) ⟨[],[(0,0),(21,21),(22,22),(23,23),(24,24),(25,25),(34,27)]⟩ [0,2,3,4,5] (by kernel_rfl) trivial) (bM.le (st':=⟨(Xh u0),[(EY u0),LF,KR,Mf,Pm,(25,some (.cells 26 [(cI 3),(.own 23 true ([(⟨0,1,500,0,20⟩:Source),(⟨2,2,300,0,40⟩:Source)].length)),(.own 24 true ([(⟨0,1,3,400,10,([]:List iY)⟩:Link),(⟨1,2,3,400,10,([]:List iY)⟩:Link)].length)),(.own 27 false (([]:List ay).length))])),(27,some (cu 166 4 ay.cell ([]:List ay)))]⟩) ⟨⟨tR,tR,tR,tR,tR,trivial⟩,(hN 5 ⟨rfl,bA ⟨dO.refl _,dO.refl _,dO.refl _,cW,trivial⟩,⟨rfl,oW,trivial⟩⟩)⟩)))) ?_
 refine aL [] (pX u0) (pW u0) (mD u0) hy (fun s f h=> ?_) ?_
 ·clear hy
  show bJ _ _ _ _ _ _ ((zY u0) f) _
  unfold uV at h
  obtain⟨p3,i⟩:=s
  refine aQ (sz tT ⟨[(BU u0),(2,(vP 21 0)),(3,(vP 22 0)),(4,(vP 25 0)),(5,(vI i)),(17,(Uu i u0))],(VU u0 p3)⟩ {} [] ?_)
  refine bI h (fun hb h=> ?_) (fun hb h=> ?_)
  ·refine ct hb ?_
   refine aP (aQ (aB (sz tT ⟨[(BU u0),(2,(vP 21 0)),(3,(vP 22 0)),(4,(vP 25 0)),(5,(vI i)),(6,(vO 27 false p3.length))],(VU u0 p3)⟩ {} [] ?_)))
   refine aO h fun⟨a1,a2,a3⟩ h=> ?_
   refine rg tT ⟨[(BU u0),(2,(vP 21 0)),(3,(vP 22 0)),(4,(vP 25 0)),(5,(vI i))],(afM u0 i p3)⟩ [_,_,[(QG u0 i)].length=1,aG 1 4 (jD 4 [(.int .i64 1),(.int .i64 (-1)),(.int .i64 (at' u0 i.toNat)),(.int .i64 1)]) (ZK u0 i),p3.length=p3.length,_,_,(NG u0 i p3).length=p3.length+[(QG u0 i)].length,aG (p3.length+[(QG u0 i)].length) 4 (D8 (aC ay.cell p3) p3.length (ZK u0 i)) (aC ay.cell (NG u0 i p3))] {an:=[(7, .arr [(QG u0 i)].length (ZK u0 i)),(8, .arr (NG u0 i p3).length (aC ay.cell (NG u0 i p3)))],fr:=[(7,32),(8,33)] } [] ⟨a1,(tL a1),(rfl),((by intro i hi j hj;match i,j,hi,hj with|0,0,_,_=>rfl|0,1,_,_=>rfl|0,2,_,_=>rfl|0,3,_,_=>rfl)),rfl,a2,a3,(List.length_append),(mR _ _ _ _),trivial⟩ ?_
   refine ri tT ⟨(adE u0 i),(afM u0 i p3)⟩ [] {} [] trivial (bM.fin (st':=⟨(adE u0 i),[(EY u0),LF,KR,Mf,Pm,(25,some (.cells 26 [(cI 3),(.own 23 true ([(⟨0,1,500,0,20⟩:Source),(⟨2,2,300,0,40⟩:Source)].length)),(.own 24 true ([(⟨0,1,3,400,10,([]:List iY)⟩:Link),(⟨1,2,3,400,10,([]:List iY)⟩:Link)].length)),(.own 27 false ((NG u0 i p3).length))])),(27,some (cu 166 4 ay.cell (NG u0 i p3)))]⟩) (cs:=[]) ⟨[],[(0,0),(21,21),(22,22),(23,23),(24,24),(25,25),(33,27)]⟩ [0,2,3,4,5] (by kernel_rfl) trivial) ?_
   obtain rfl:=oi h
   exact lN
  ·refine cf hb ?_
   refine aI (fz (aem u0 p3) []) ?_
   refine aX ?_
   obtain rfl:=oi h
   exact lB
 ·clear hy
  cases y with
  |brk z=>
   obtain⟨u1,rfl⟩: ∃q,q=z:=⟨_,rfl⟩
   unfold gm
   refine⟨_, .refl, ?_⟩
   refine aQ (aO h fun⟨a1,a2,a3,a4,a5,a6⟩ h=> ?_)
   refine di tT mX ⟨[(2,(vP 21 0)),(3,(vP 22 0))],[(EY u0),(21,some (.cells 26 [(cI 3),(.d afb),(.d adk),(.d (k14 u1))])),(22,some (.cells 29 [(.d X0),(.d R6),(.d R6),(.d X0),(.d R6),(.d WV),(.d WV)]))]⟩ (([true,true].length=2)::aG 2 1 (jD 1 [(.bool true),(.bool true)]) (aC aj [true,true])::_::((2:Int)=2)::_::_::((List.replicate 2 (false:Bool)).length=2)::aG 2 1 (fun _ j=>[(.bool false)].getD j .nilp) (aC aj (List.replicate 2 (false:Bool)))::_::((2:Int)=2)::_::_::((List.replicate 2 (false:Bool)).length=2)::aG 2 1 (fun _ j=>[(.bool false)].getD j .nilp) (aC aj (List.replicate 2 (false:Bool)))::([true,true].length=2)::aG 2 1 (jD 1 [(.bool true),(.bool true)]) (aC aj [true,true])::_::((2:Int)=2)::_::_::((List.replicate 2 (false:Bool)).length=2)::aG 2 1 (fun _ j=>[(.bool false)].getD j .nilp) (aC aj (List.replicate 2 (false:Bool)))::_::((3:Int)=3)::_::_::((List.replicate 3 (false:Bool)).length=3)::aG 3 1 (fun _ j=>[(.bool false)].getD j .nilp) (aC aj (List.replicate 3 (false:Bool)))::_::((3:Int)=3)::_::_::((List.replicate 3 (false:Bool)).length=3)::aG 3 1 (fun _ j=>[(.bool false)].getD j .nilp) (aC aj (List.replicate 3 (false:Bool)))::([(⟨0,1,500,0,20⟩:Source),(⟨2,2,300,0,40⟩:Source)].length=[(⟨0,1,500,0,20⟩:Source),(⟨2,2,300,0,40⟩:Source)].length)::([(⟨0,1,3,400,10,([]:List iY)⟩:Link),(⟨1,2,3,400,10,([]:List iY)⟩:Link)].length=[(⟨0,1,3,400,10,([]:List iY)⟩:Link),(⟨1,2,3,400,10,([]:List iY)⟩:Link)].length)::(u1.length=u1.length)::([true,true].length=[true,true].length)::(eqs (List.replicate 2 (false:Bool)).length 2 (([true,true].length=[true,true].length)::((List.replicate 2 (false:Bool)).length=(List.replicate 2 (false:Bool)).length)::(eqs (List.replicate 3 (false:Bool)).length 2 [])))) {an:=[(1, .arr [true,true].length (aC aj [true,true])),(2, .arr (List.replicate 2 (false:Bool)).length (aC aj (List.replicate 2 (false:Bool)))),(3, .arr (List.replicate 2 (false:Bool)).length (aC aj (List.replicate 2 (false:Bool)))),(4, .arr [true,true].length (aC aj [true,true])),(5, .arr (List.replicate 2 (false:Bool)).length (aC aj (List.replicate 2 (false:Bool)))),(6, .arr (List.replicate 3 (false:Bool)).length (aC aj (List.replicate 3 (false:Bool)))),(7, .arr (List.replicate 3 (false:Bool)).length (aC aj (List.replicate 3 (false:Bool))))],fr:=[(1,35),(2,36),(3,37),(4,38),(5,39),(6,40),(7,41)] } [23,24,27,35,36,37,38,39,40,41] ⟨(rfl),((by intro i hi j hj;match i,j,hi,hj with|0,0,_,_=>rfl|1,0,_,_=>rfl)),a1,rfl,a2,a3,(List.length_replicate),(dQ _ _ _ _ _ (fun j hj=>(match j,hj with|0,_=>rfl))),a1,rfl,a2,a3,(List.length_replicate),(dQ _ _ _ _ _ (fun j hj=>(match j,hj with|0,_=>rfl))),(rfl),((by intro i hi j hj;match i,j,hi,hj with|0,0,_,_=>rfl|1,0,_,_=>rfl)),a1,rfl,a2,a3,(List.length_replicate),(dQ _ _ _ _ _ (fun j hj=>(match j,hj with|0,_=>rfl))),a4,rfl,a5,a6,(List.length_replicate),(dQ _ _ _ _ _ (fun j hj=>(match j,hj with|0,_=>rfl))),a4,rfl,a5,a6,(List.length_replicate),(dQ _ _ _ _ _ (fun j hj=>(match j,hj with|0,_=>rfl))),rfl,rfl,rfl,rfl,(ae ⟨rfl,rfl,(ae trivial)⟩)⟩ (fz ⟨[(2,(vD (lV [(.int .i64 3),afb,adk,(k14 u1)] 0))),(3,(vD (lV [X0,R6,R6,X0,R6,WV,WV] 0)))],(uR u0)⟩ [21,22]) ?_
   refine aI (bM.le (st':=⟨[(2,(vD (lV [(.int .i64 3),aeI,abR,(k14 u1)] 0))),(3,(vD (lV [(aK none 1 aj [true,true]),Sy,Sy,(aK none 1 aj [true,true]),Sy,WY,WY] 0)))],(uR u0)⟩) ⟨⟨⟨_,rfl,eO.v (eG.one (dO.d (K8 ⟨.refl _,gV.nV,gV.nV, .refl _,trivial⟩)))⟩,⟨_,rfl,eO.v (eG.one (dO.d (K8 ⟨gV.nV,gV.nV,gV.nV,gV.nV,gV.nV,gV.nV,gV.nV,trivial⟩)))⟩,trivial⟩,(.refl _)⟩) ?_
   refine aR ?_
   obtain rfl:=oi h
   exact rl [(.agg [(cI 3),(.d aeI),(.d abR),(.d (k14 u1))]),(.agg [(.d (aK none 1 aj [true,true])),(.d Sy),(.d Sy),(.d (aK none 1 aj [true,true])),(.d Sy),(.d WY),(.d WY)])]
  |ret v=>
   obtain rfl:=oi h
   unfold gm
   intro e st hn ha hR
   cases e with
   |normal=>exact absurd rfl hn
   |exit id=>exact hR
   |goto l=>exact hR
   |ret=>exact hR
   |panic c=>exact hR
   |outgrown=>exact hR
def Gv  :Bool→Exit→St→Prop:=
  fun r=>bB TT [.tmp 0] (vB r) []
section
variable (r_:(ah × State)) (u9:(ai × (List Bool) × Int)) (v4:(Bool × Int)) (v6:Int) (u3:(ah × State)) (u0:(ai × (List Bool) × Int)) (u1:(Int × Int)) (u2:((List Part) × Int)) (u4:Int) (u5:((List Short) × Int)) (v0:((List Int) × Bool × Int)) (v8:Bool) (w3:Bool) (w4:Bool) (v7:Bool) (v5:Bool) (w1:Bool)
abbrev aei:List CV:=[(cI r_.1.buses),(.d (aK none 5 Source.cell r_.1.sources)),(.d (aK none 6 Link.cell r_.1.links)),(.d (aK none 4 ay.cell r_.1.racks))]
abbrev ad8:Nat × Option Ob:=(68,some (.cells 26 (aei r_)))
abbrev afX:List CV:=[(.d (aK none 1 aj r_.2.closed)),(.d (aK none 1 aj r_.2.locked)),(.d (aK none 1 aj r_.2.badLink)),(.d (aK none 1 aj r_.2.on_)),(.d (aK none 1 aj r_.2.badSource)),(.d (aK none 1 aj r_.2.earthed)),(.d (aK none 1 aj r_.2.badBus))]
abbrev adx:Nat × Option Ob:=(69,some (.cells 29 (afX r_)))
abbrev UI:Nat × TV:=(4,(vD (Fq u9)))
abbrev ad7:Nat × Option Ob:=(70,some (afs u9))
abbrev Sn:List (Nat × Option Ob):=[(ad8 r_),(adx r_),(ad7 u9)]
abbrev Lc:=(bif (!decide (u9.2.2=0))then true else(!decide (v4.2=0)))
abbrev Pt:=(bif (Lc u9 v4)then true else(!decide (v6=100)))
abbrev Gp:=(bif (Pt u9 v4 v6)then true else(!v4.1))
abbrev Vo:=(jl [(2,(!decide (u9.2.2=0))),(6,(Lc u9 v4)),(11,(Pt u9 v4 v6)),(15,true)])
abbrev Qg:List SV:=[(.agg (Xv u9))]
abbrev Xy:=(jl [(2,(!decide (u9.2.2=0))),(6,(Lc u9 v4)),(11,(Pt u9 v4 v6)),(15,false)])
abbrev Ld:Nat × TV:=(1,(vD (lV [(.int .i64 u3.1.buses),(aK none 5 Source.cell u3.1.sources),(aK none 6 Link.cell u3.1.links),(aK none 4 ay.cell u3.1.racks)] 0)))
abbrev NN:Nat × TV:=(2,(vD (lV [(aK none 1 aj u3.2.closed),(aK none 1 aj u3.2.locked),(aK none 1 aj u3.2.badLink),(aK none 1 aj u3.2.on_),(aK none 1 aj u3.2.badSource),(aK none 1 aj u3.2.earthed),(aK none 1 aj u3.2.badBus)] 0)))
abbrev Zj:Nat × TV:=(3,(Zl u0))
abbrev Fj:=(bif (!decide (u0.2.2=0))then true else(!decide (u1.2=0)))
abbrev Am:=(bif (Fj u0 u1)then true else(!decide (u2.2=0)))
abbrev EX:=(bif (Am u0 u1 u2)then true else(!decide (u4=700)))
abbrev Xi:=(bif (EX u0 u1 u2 u4)then true else(!decide (u1.1=700)))
abbrev XI:=(bif (Xi u0 u1 u2 u4)then true else false)
abbrev Vq:=(bif (XI u0 u1 u2 u4)then true else false)
abbrev GI:=(jl [(2,(!decide (u0.2.2=0))),(6,(Fj u0 u1)),(10,(Am u0 u1 u2)),(15,(EX u0 u1 u2 u4)),(19,true),(25,true),(33,(Vq u0 u1 u2 u4))])
abbrev JP:=((Xi u0 u1 u2 u4)=true)
abbrev O3:=((XI u0 u1 u2 u4)=true)
abbrev WM:List SV:=[(.agg (aei u3)),(.agg (afX u3)),(.agg (Xv u0)),(sD (Fq u0))]
abbrev Ir:DV:=(aK none 4 Short.cell u5.1)
abbrev Wp:St:=⟨[(Ld u3),(5,(vI u5.2)),(11,(vD (Ir u5)))],[]⟩
abbrev JR:DV:=(aK (some v0.2.1) 1 (au .i64) v0.1)
abbrev Xg:St:=⟨[(5,(vI u5.2)),(7,(vI v0.2.2)),(11,(vD (Ir u5))),(12,(vD (JR v0)))],[]⟩
abbrev bK:=(bif (decide (u5.2=0))then(decide (v0.2.2=0))else false)
abbrev mQ:=(bif (bK u5 v0)then v8 else false)
abbrev V5:St:=⟨[(0,(vB (bif (mQ u5 v0 v8)then w3 else false)))],[]⟩
abbrev nu:=(jl [(2,(decide (u5.2=0))),(6,true),(15,true)])
abbrev ni:List DV:=[(.int .i64 0),(.int .i64 30),(.int .i64 13334),(aK (some true) 1 (au .i64) [0]),(.int .i64 1),(.int .i64 50),(.int .i64 8000),(aK (some true) 1 (au .i64) [1])]
abbrev afu:List (Nat × Option Ob):=[(78,some (.arr 103 4 [(⟨0,30,13334,[0]⟩:Short),(⟨1,50,8000,[1]⟩:Short)].length (jD 4 ni)))]
abbrev Mw:List DV:=[(.int .i64 13334),(.int .i64 8000)]
abbrev BA:Ob:=(cu 3 1 (au .i64) [13334,8000])
abbrev MK:List SV:=[(sD (Ir u5)),(sD (.sl (some true) 4 [(⟨0,30,13334,[0]⟩:Short),(⟨1,50,8000,[1]⟩:Short)].length (jD 4 ni)))]
abbrev N7:List SV:=[(sD (JR v0)),(sD (aK (some true) 1 (au .i64) [13334,8000]))]
abbrev WW:St:=⟨[(0,(vB (bif (mQ u5 v0 v8)then false else false)))],[]⟩
abbrev nE:=(jl [(2,(decide (u5.2=0))),(6,true),(15,false)])
abbrev acI:List (Nat × Option Ob):=[(82,some (.arr 103 4 [(⟨0,30,13334,[0]⟩:Short),(⟨1,50,8000,[1]⟩:Short)].length (jD 4 ni)))]
abbrev vM:=(bif (bK u5 v0)then false else false)
abbrev WC:St:=⟨[(0,(vB (bif (vM u5 v0)then w4 else false)))],[]⟩
abbrev jY:=(jl [(2,(decide (u5.2=0))),(6,false),(15,true)])
abbrev Xf:St:=⟨[(0,(vB (bif (vM u5 v0)then false else false)))],[]⟩
abbrev Jz:=(jl [(2,(decide (u5.2=0))),(6,false),(15,false)])
abbrev VZ:=(eqs (decide (u5.2=0)) 3 [(bK u5 v0)=false, ¬ gP (Jz u5) [(6,true)],(bK u5 v0)=false, ¬ gP (Jz u5) [(6,true)],(bK u5 v0)=false, ¬ gP (Jz u5) [(6,true)],(bK u5 v0)=false, ¬ gP (Jz u5) [(6,true)],(bK u5 v0)=false, ¬ gP (Jz u5) [(6,true)],(bK u5 v0)=false, ¬ gP (Jz u5) [(6,true)],(bK u5 v0)=false, ¬ gP (Jz u5) [(6,true)],(bK u5 v0)=false,(vM u5 v0)=false, ¬ gP (Jz u5) [(15,true)],(vM u5 v0)=false, ¬ gP (Jz u5) [(15,true)],(vM u5 v0)=false, ¬ gP (Jz u5) [(15,true)],(vM u5 v0)=false])
abbrev Vf:=(bif (XI u0 u1 u2 u4)then true else(!v7))
abbrev LW:=(jl [(2,(!decide (u0.2.2=0))),(6,(Fj u0 u1)),(10,(Am u0 u1 u2)),(15,(EX u0 u1 u2 u4)),(19,true),(25,false),(33,(Vf u0 u1 u2 u4 v7))])
abbrev O7:=((XI u0 u1 u2 u4)=false)
abbrev afp:List SV:=[(sD (aK none 2 Part.cell u2.1)),(sD (aK (some true) 2 Part.cell [(⟨2,1⟩:Part),(⟨3,0⟩:Part)]))]
abbrev aee:List (Nat × Option Ob):=[(90,some (.arr 103 4 [(⟨0,30,13334,[0]⟩:Short),(⟨1,50,8000,[1]⟩:Short)].length (jD 4 ni)))]
abbrev afN:List (Nat × Option Ob):=[(94,some (.arr 103 4 [(⟨0,30,13334,[0]⟩:Short),(⟨1,50,8000,[1]⟩:Short)].length (jD 4 ni)))]
abbrev XA:=(bif (Xi u0 u1 u2 u4)then true else(!v5))
abbrev Uw:=(bif (XA u0 u1 u2 u4 v5)then true else false)
abbrev Jj:=(jl [(2,(!decide (u0.2.2=0))),(6,(Fj u0 u1)),(10,(Am u0 u1 u2)),(15,(EX u0 u1 u2 u4)),(19,false),(25,true),(33,(Uw u0 u1 u2 u4 v5))])
abbrev JA:=((Xi u0 u1 u2 u4)=false)
abbrev O9:=((XA u0 u1 u2 u4 v5)=true)
abbrev agc:List (Nat × Option Ob):=[(103,some (.arr 103 4 [(⟨0,30,13334,[0]⟩:Short),(⟨1,50,8000,[1]⟩:Short)].length (jD 4 ni)))]
abbrev abZ:List (Nat × Option Ob):=[(107,some (.arr 103 4 [(⟨0,30,13334,[0]⟩:Short),(⟨1,50,8000,[1]⟩:Short)].length (jD 4 ni)))]
abbrev UQ:=(bif (XA u0 u1 u2 u4 v5)then true else(!w1))
abbrev Mk:=(jl [(2,(!decide (u0.2.2=0))),(6,(Fj u0 u1)),(10,(Am u0 u1 u2)),(15,(EX u0 u1 u2 u4)),(19,false),(25,false),(33,(UQ u0 u1 u2 u4 v5 w1))])
abbrev O5:=((XA u0 u1 u2 u4 v5)=false)
abbrev afT:List (Nat × Option Ob):=[(116,some (.arr 103 4 [(⟨0,30,13334,[0]⟩:Short),(⟨1,50,8000,[1]⟩:Short)].length (jD 4 ni)))]
abbrev agl:List (Nat × Option Ob):=[(120,some (.arr 103 4 [(⟨0,30,13334,[0]⟩:Short),(⟨1,50,8000,[1]⟩:Short)].length (jD 4 ni)))]
end
theorem yo  {r:Bool} (h:nD=some r):Fn Try.prog 30 [] [] (vB r) []:=by
 refine fN tT Try.func30 rfl rfl fun B=> ?_
 show bJ _ _ _ _ _ _ (Gv r) _
 unfold nD at h
 refine sz tT ⟨[],[]⟩ {} [] ?_
 refine aQ (bE h fun r_ hr_ h=> ?_)
 have q2:=rk [(0,67)] (qo [100] hr_)
 refine rg tT ⟨[(1,(vP 68 0)),(2,(vP 69 0))],[(ad8 r_),(adx r_)]⟩ [[100].length=1,aG 1 1 (jD 1 [(.int .i64 100)]) (aC (au .i64) [100]),_] {an:=[(0, .arr [100].length (aC (au .i64) [100])),(1,cR q2 [67])],fr:=[(0,67),(5,68),(6,69)] } [] ⟨(rfl),((by intro i hi j hj;match i,j,hi,hj with|0,0,_,_=>rfl)),q2,trivial⟩ ?_
 refine aQ (bE h fun u9 hr_1 h=> ?_)
 have q0:=zy r_.1 r_.2 hr_1
 refine rg tT ⟨[(1,(vP 68 0)),(2,(vP 69 0)),(3,(vP 70 0)),(UI u9),(5,(vI u9.2.2))],(Sn r_ u9)⟩ [_] {an:=[(2,cA q0 [])],fr:=[(7,70)] } [] ⟨q0,trivial⟩ ?_
 refine aQ (bE h fun v4 hr_2 h=> ?_)
 have q0:=Iu r_.1 r_.2 hr_2
 refine rg tT ⟨[(1,(vP 68 0)),(2,(vP 69 0)),(3,(vP 70 0)),(UI u9),(5,(vI u9.2.2)),(6,(vB v4.1)),(7,(vI v4.2))],(Sn r_ u9)⟩ [_] {an:=[(2,cA q0 [])] } [] ⟨q0,trivial⟩ ?_
 refine aQ (aQ (bE h fun v6 hr_3 h=> ?_))
 refine bI h (fun hb h=> ?_) (fun hb h=> ?_)
 ·skip
  refine ri tT ⟨[(1,(vP 68 0)),(2,(vP 69 0)),(3,(vP 70 0)),(51,(vB (bif (Gp u9 v4 v6)then true else false)))],(Sn r_ u9)⟩ (eqs (!decide (u9.2.2=0)) 3 (eqs (Lc u9 v4) 2 ((gP (Vo u9 v4 v6) [(6,false)]→All [Fn Try.prog 41 (Qg u9) [] (vI v6) []])::(eqs (Lc u9 v4) 2 (eqs (Pt u9 v4 v6) 3 [(Gp u9 v4 v6)=true, ¬ gP (Vo u9 v4 v6) [(15,false)],(Gp u9 v4 v6)=true, ¬ gP (Vo u9 v4 v6) [(15,false)],(Gp u9 v4 v6)=true, ¬ gP (Vo u9 v4 v6) [(15,false)],(Gp u9 v4 v6)=true, ¬ gP (Vo u9 v4 v6) [(15,false)],(Gp u9 v4 v6)=true]))))) {yb:=[(2,(!decide (u9.2.2=0))),(6,(Lc u9 v4)),(11,(Pt u9 v4 v6)),(15,true)],an:=[(8, .call [] (vI v6) []),(16, .skip),(17, .skip),(18, .skip),(19, .skip)] } [] (ae (ae ⟨(fun hg=> ⟨(dA u9.1 (gI hr_3 (aZ hg))),trivial⟩),(ae (ae ⟨(hb),((fun h=>Bool.noConfusion (show true=false from h.1))),(hb),((fun h=>Bool.noConfusion (show true=false from h.1))),(hb),((fun h=>Bool.noConfusion (show true=false from h.1))),(hb),((fun h=>Bool.noConfusion (show true=false from h.1))),(hb),trivial⟩))⟩)) (bM.le (st':=⟨[(1,(vP 68 0)),(2,(vP 69 0)),(3,(vP 70 0)),(51,(vB true))],(Sn r_ u9)⟩) ⟨⟨tR,tR,tR,⟨_,rfl,eO.v (eG.one (dO.of (congrArg (fun b=>CV.d (.bool b)) (BQ hb))))⟩,trivial⟩,(.refl _)⟩) ?_
  refine ck (sz tT ⟨[(0,(vB false))],[]⟩ {} [] ?_)
  refine aR ?_
  obtain rfl:=oi h
  exact rl [(sB false)]
 ·skip
  refine bE h fun x1 hr_4 h=> ?_
  refine ri tT ⟨[(1,(vP 68 0)),(2,(vP 69 0)),(3,(vP 70 0)),(51,(vB (bif (Gp u9 v4 v6)then true else(!x1))))],(Sn r_ u9)⟩ (eqs (!decide (u9.2.2=0)) 3 (eqs (Lc u9 v4) 2 ((gP (Xy u9 v4 v6) [(6,false)]→All [Fn Try.prog 41 (Qg u9) [] (vI v6) []])::(eqs (Lc u9 v4) 2 (eqs (Pt u9 v4 v6) 3 [(Gp u9 v4 v6)=false,(Gp u9 v4 v6)=false,gP (Xy u9 v4 v6) [(15,false)]→All [[true,true,true].length=3,aG 3 1 (jD 1 [(.bool true),(.bool true),(.bool true)]) (aC aj [true,true,true])],gP (Xy u9 v4 v6) [(15,false)],(Gp u9 v4 v6)=false,gP (Xy u9 v4 v6) [(15,false)]→All [Fn Try.prog 42 [(sD (Fq u9)),(.one (.own 71 true ([true,true,true].length)))] [(71,some (cu 4 1 aj [true,true,true]))] (vB x1) [(71,some (cu 4 1 aj [true,true,true]))]],(Gp u9 v4 v6)=false,(Gp u9 v4 v6)=false]))))) {yb:=[(2,(!decide (u9.2.2=0))),(6,(Lc u9 v4)),(11,(Pt u9 v4 v6)),(15,false)],an:=[(8, .call [] (vI v6) []),(17, .arr [true,true,true].length (aC aj [true,true,true])),(18, .callR [71] (vB x1))],fr:=[(17,71)] } [] (ae (ae ⟨(fun hg=> ⟨(dA u9.1 (gI hr_3 (aZ hg))),trivial⟩),(ae (ae ⟨(hb),(hb),(fun hg=> ⟨(rfl),((by intro i hi j hj;match i,j,hi,hj with|0,0,_,_=>rfl|1,0,_,_=>rfl|2,0,_,_=>rfl)),trivial⟩),(⟨rfl,trivial⟩),(hb),(fun hg=> ⟨(Fn.uh (frz:=[71]) (p:=[[true,true,true].length=[true,true,true].length]) (Fn.le (args':=[(sD (Fq u9)),(sD (aK (some true) 1 aj [true,true,true]))]) (nk u9.2.1 [true,true,true] hr_4) ⟨eG.refl _,eG.one (dO.d gV.nV),trivial⟩) (by kernel_rfl) ⟨rfl,trivial⟩ rfl),trivial⟩),(hb),(hb),trivial⟩))⟩)) (bM.le (st':=⟨[(1,(vP 68 0)),(2,(vP 69 0)),(3,(vP 70 0)),(51,(vB (!x1)))],(Sn r_ u9)⟩) ⟨⟨tR,tR,tR,⟨_,rfl,eO.v (eG.one (dO.of (congrArg (fun b=>CV.d (.bool b)) (BP hb))))⟩,trivial⟩,(.refl _)⟩) ?_
  refine bI h (fun hb20 h=> ?_) (fun hb20 h=> ?_)
  ·refine ct hb20 ?_
   refine sz tT ⟨[(0,(vB false))],[]⟩ {} [] ?_
   refine aR ?_
   obtain rfl:=oi h
   exact rl [(sB false)]
  ·refine cf hb20 ?_
   refine aP (aQ (bE h fun u3 hr_5 h=> ?_))
   have q2:=rk [(0,72)] (qo [300,600] hr_5)
   refine rg tT ⟨[(Ld u3),(NN u3),(3,(vP 70 0))],[(ad7 u9)]⟩ [[300,600].length=2,aG 2 1 (jD 1 [(.int .i64 300),(.int .i64 600)]) (aC (au .i64) [300,600]),_] {an:=[(0, .arr [300,600].length (aC (au .i64) [300,600])),(1,cR q2 [72])],fr:=[(0,72)] } [68,69] ⟨(rfl),((by intro i hi j hj;match i,j,hi,hj with|0,0,_,_=>rfl|1,0,_,_=>rfl)),q2,trivial⟩ ?_
   refine aQ (bE h fun u0 hr_6 h=> ?_)
   have q0:=zy u3.1 u3.2 hr_6
   refine rg tT ⟨[(Ld u3),(NN u3),(Zj u0),(UI u0),(5,(vI u0.2.2))],[]⟩ [_] {an:=[(2,cA q0 [])] } [70] ⟨q0,trivial⟩ ?_
   refine aQ (bE h fun u1 hr_7 h=> ?_)
   have q0:=ol u3.1 u3.2 u0.2.1 hr_7
   refine rg tT ⟨[(Ld u3),(NN u3),(Zj u0),(UI u0),(5,(vI u0.2.2)),(7,(vI u1.2)),(8,(vI u1.1))],[]⟩ [_] {an:=[(3,cA q0 [])] } [] ⟨q0,trivial⟩ ?_
   refine aQ (bE h fun u2 hr_8 h=> ?_)
   have q0:=Gu u3.1 u3.2 hr_8
   refine rg tT ⟨[(Ld u3),(NN u3),(Zj u0),(UI u0),(5,(vI u0.2.2)),(7,(vI u1.2)),(8,(vI u1.1)),(9,(vD (aK none 2 Part.cell u2.1))),(10,(vI u2.2))],[]⟩ [_] {an:=[(2,cA q0 [])] } [] ⟨q0,trivial⟩ ?_
   refine aQ (aQ (bE h fun u4 hr_9 h=> ?_))
   refine bI h (fun hb1 h=> ?_) (fun hb1 h=> ?_)
   ·skip
    refine bI h (fun hb2 h=> ?_) (fun hb2 h=> ?_)
    ·skip
     refine bE h fun x2 hr_10 h=> ?_
     refine rg tT ⟨[(Ld u3),(NN u3),(117,(vB (bif (Vq u0 u1 u2 u4)then true else(!decide (x2=0)))))],[]⟩ (eqs (!decide (u0.2.2=0)) 3 (eqs (Fj u0 u1) 3 (eqs (Am u0 u1 u2) 2 ((gP (GI u0 u1 u2 u4) [(10,false)]→All [Fn Try.prog 41 (Qg u0) [] (vI u4) []])::(eqs (Am u0 u1 u2) 2 (eqs (EX u0 u1 u2 u4) 3 ((JP u0 u1 u2 u4)::(¬ gP (GI u0 u1 u2 u4) [(19,false)])::(JP u0 u1 u2 u4)::(¬ gP (GI u0 u1 u2 u4) [(19,false)])::(JP u0 u1 u2 u4)::(¬ gP (GI u0 u1 u2 u4) [(19,false)])::(JP u0 u1 u2 u4)::(¬ gP (GI u0 u1 u2 u4) [(19,false)])::(JP u0 u1 u2 u4)::(O3 u0 u1 u2 u4)::(¬ gP (GI u0 u1 u2 u4) [(25,false)])::(O3 u0 u1 u2 u4)::(¬ gP (GI u0 u1 u2 u4) [(25,false)])::(O3 u0 u1 u2 u4)::(¬ gP (GI u0 u1 u2 u4) [(25,false)])::(O3 u0 u1 u2 u4)::(¬ gP (GI u0 u1 u2 u4) [(25,false)])::(O3 u0 u1 u2 u4)::(¬ gP (GI u0 u1 u2 u4) [(25,false)])::(O3 u0 u1 u2 u4)::(¬ gP (GI u0 u1 u2 u4) [(25,false)])::(O3 u0 u1 u2 u4)::(eqs (Vq u0 u1 u2 u4) 5 ((gP (GI u0 u1 u2 u4) [(33,false)]→All [Fn Try.prog 49 (WM u3 u0) [] (vI x2) []])::(eqs (Vq u0 u1 u2 u4) 2 [])))))))))) {yb:=[(2,(!decide (u0.2.2=0))),(6,(Fj u0 u1)),(10,(Am u0 u1 u2)),(15,(EX u0 u1 u2 u4)),(19,true),(25,true),(33,(Vq u0 u1 u2 u4))],an:=[(12, .call [] (vI u4) []),(20, .skip),(21, .skip),(22, .skip),(23, .skip),(26, .skip),(27, .skip),(28, .skip),(29, .skip),(30, .skip),(31, .skip),(38, .call [] (vI x2) [])] } [] (ae (ae (ae ⟨(fun hg=> ⟨(dA u0.1 (gI hr_9 (aZ hg))),trivial⟩),(ae (ae ⟨(hb1),((fun h=>Bool.noConfusion (show true=false from h.1))),(hb1),((fun h=>Bool.noConfusion (show true=false from h.1))),(hb1),((fun h=>Bool.noConfusion (show true=false from h.1))),(hb1),((fun h=>Bool.noConfusion (show true=false from h.1))),(hb1),(hb2),((fun h=>Bool.noConfusion (show true=false from h.1))),(hb2),((fun h=>Bool.noConfusion (show true=false from h.1))),(hb2),((fun h=>Bool.noConfusion (show true=false from h.1))),(hb2),((fun h=>Bool.noConfusion (show true=false from h.1))),(hb2),((fun h=>Bool.noConfusion (show true=false from h.1))),(hb2),((fun h=>Bool.noConfusion (show true=false from h.1))),(hb2),(ae ⟨(fun hg=> ⟨(jw u3.1 u3.2 u0.1 u0.2.1 (gI hr_10 (aZ hg))),trivial⟩),(ae trivial)⟩)⟩))⟩))) ?_
     refine bI h (fun hb6 h=> ?_) (fun hb6 h=> ?_)
     ·refine ct hb6 ?_
      refine sz tT ⟨[(0,(vB false))],[]⟩ {} [] ?_
      refine aR ?_
      obtain rfl:=oi h
      exact rl [(sB false)]
     ·refine cf hb6 ?_
      refine aP (aQ (bE h fun u5 hr_11 h=> ?_))
      have q0:=mH u3.1 u3.2 1 hr_11
      refine rg tT (Wp u3 u5) [_] {an:=[(2,cA q0 [])] } [] ⟨q0,trivial⟩ ?_
      refine aQ (bE h fun v0 hr_12 h=> ?_)
      have q0:=lK u3.1 u5.1 hr_12
      refine rg tT (Xg u5 v0) [_] {an:=[(2,cA q0 [])] } [] ⟨q0,trivial⟩ ?_
      refine aQ ?_
      refine bI h (fun hb3 h=> ?_) (fun hb3 h=> ?_)
      ·skip
       refine bE h fun v8 hr_13 h=> ?_
       refine bI h (fun hb4 h=> ?_) (fun hb4 h=> ?_)
       ·skip
        refine bE h fun w3 hr_14 h=> ?_
        refine ri tT (V5 u5 v0 v8 w3) (eqs (decide (u5.2=0)) 3 [(bK u5 v0)=true,(bK u5 v0)=true,gP (nu u5) [(6,true)]→All [[0].length=1,aG 1 1 (jD 1 [(.int .i64 0)]) (aC (au .i64) [0])],(bK u5 v0)=true,(bK u5 v0)=true,gP (nu u5) [(6,true)]→All [[1].length=1,aG 1 1 (jD 1 [(.int .i64 1)]) (aC (au .i64) [1])],(bK u5 v0)=true,(bK u5 v0)=true,gP (nu u5) [(6,true)]→All [[(⟨0,30,13334,[0]⟩:Short),(⟨1,50,8000,[1]⟩:Short)].length=2,aG 2 4 (jD 4 ni) (jD 4 ni)],gP (nu u5) [(6,true)],(bK u5 v0)=true,gP (nu u5) [(6,true)]→All [Fn Try.prog 52 [(sD (Ir u5)),(.one (.own 78 true ([(⟨0,30,13334,[0]⟩:Short),(⟨1,50,8000,[1]⟩:Short)].length)))] afu (vB v8) afu],(bK u5 v0)=true,(mQ u5 v0 v8)=true,(mQ u5 v0 v8)=true,gP (nu u5) [(15,true)]→All [[13334,8000].length=2,aG 2 1 (jD 1 Mw) (aC (au .i64) [13334,8000])],gP (nu u5) [(15,true)],(mQ u5 v0 v8)=true,gP (nu u5) [(15,true)]→All [Fn Try.prog 54 [(sD (JR v0)),(.one (.own 79 true ([13334,8000].length)))] [(79,some BA)] (vB w3) [(79,some BA)]],(mQ u5 v0 v8)=true]) {yb:=[(2,(decide (u5.2=0))),(6,true),(15,true)],an:=[(8, .frz [0].length (aC (au .i64) [0])),(10, .frz [1].length (aC (au .i64) [1])),(12, .arr [(⟨0,30,13334,[0]⟩:Short),(⟨1,50,8000,[1]⟩:Short)].length (jD 4 ni)),(13, .callR [78] (vB v8)),(17, .arr [13334,8000].length (aC (au .i64) [13334,8000])),(18, .callR [79] (vB w3))],fr:=[(12,78),(17,79)] } [] (ae ⟨(hb3),(hb3),(fun hg=> ⟨(rfl),((by intro i hi j hj;match i,j,hi,hj with|0,0,_,_=>rfl)),trivial⟩),(hb3),(hb3),(fun hg=> ⟨(rfl),((by intro i hi j hj;match i,j,hi,hj with|0,0,_,_=>rfl)),trivial⟩),(hb3),(hb3),(fun hg=> ⟨(rfl),(iq _ _ _),trivial⟩),(⟨rfl,trivial⟩),(hb3),(fun hg=> ⟨(Fn.uh (frz:=[78]) (p:=[[(⟨0,30,13334,[0]⟩:Short),(⟨1,50,8000,[1]⟩:Short)].length=[(⟨0,30,13334,[0]⟩:Short),(⟨1,50,8000,[1]⟩:Short)].length]) (Fn.le (args':=(MK u5)) (bX u5.1 [(⟨0,30,13334,[0]⟩:Short),(⟨1,50,8000,[1]⟩:Short)] hr_13) ⟨eG.refl _,eG.one (dO.d (gV.sl (.inl rfl) (by intro i hi j hj;match i,j,hi,hj with|0,0,_,_=>exact .refl _|0,1,_,_=>exact .refl _|0,2,_,_=>exact .refl _|0,3,_,_=>exact gV.nV|1,0,_,_=>exact .refl _|1,1,_,_=>exact .refl _|1,2,_,_=>exact .refl _|1,3,_,_=>exact gV.nV))),trivial⟩) (by kernel_rfl) ⟨rfl,trivial⟩ rfl),trivial⟩),(hb3),(hb4),(hb4),(fun hg=> ⟨(rfl),((by intro i hi j hj;match i,j,hi,hj with|0,0,_,_=>rfl|1,0,_,_=>rfl)),trivial⟩),(⟨rfl,trivial⟩),(hb4),(fun hg=> ⟨(Fn.uh (frz:=[79]) (p:=[[13334,8000].length=[13334,8000].length]) (Fn.le (args':=(N7 v0)) (dG v0.1 [13334,8000] hr_14) ⟨eG.one (dO.d gV.nV),eG.one (dO.d gV.nV),trivial⟩) (by kernel_rfl) ⟨rfl,trivial⟩ rfl),trivial⟩),(hb4),trivial⟩) (bM.le (st':=⟨[(0,(vB w3))],[]⟩) ⟨⟨⟨_,rfl,eO.v (eG.one (dO.of (congrArg (fun b=>CV.d (.bool b)) (BQ hb4))))⟩,trivial⟩,trivial⟩) ?_
        refine aR ?_
        obtain rfl:=oi h
        exact rl [(sB w3)]
       ·skip
        refine ri tT (WW u5 v0 v8) (eqs (decide (u5.2=0)) 3 [(bK u5 v0)=true,(bK u5 v0)=true,gP (nE u5) [(6,true)]→All [[0].length=1,aG 1 1 (jD 1 [(.int .i64 0)]) (aC (au .i64) [0])],(bK u5 v0)=true,(bK u5 v0)=true,gP (nE u5) [(6,true)]→All [[1].length=1,aG 1 1 (jD 1 [(.int .i64 1)]) (aC (au .i64) [1])],(bK u5 v0)=true,(bK u5 v0)=true,gP (nE u5) [(6,true)]→All [[(⟨0,30,13334,[0]⟩:Short),(⟨1,50,8000,[1]⟩:Short)].length=2,aG 2 4 (jD 4 ni) (jD 4 ni)],gP (nE u5) [(6,true)],(bK u5 v0)=true,gP (nE u5) [(6,true)]→All [Fn Try.prog 52 [(sD (Ir u5)),(.one (.own 82 true ([(⟨0,30,13334,[0]⟩:Short),(⟨1,50,8000,[1]⟩:Short)].length)))] acI (vB v8) acI],(bK u5 v0)=true,(mQ u5 v0 v8)=false, ¬ gP (nE u5) [(15,true)],(mQ u5 v0 v8)=false, ¬ gP (nE u5) [(15,true)],(mQ u5 v0 v8)=false, ¬ gP (nE u5) [(15,true)],(mQ u5 v0 v8)=false]) {yb:=[(2,(decide (u5.2=0))),(6,true),(15,false)],an:=[(8, .frz [0].length (aC (au .i64) [0])),(10, .frz [1].length (aC (au .i64) [1])),(12, .arr [(⟨0,30,13334,[0]⟩:Short),(⟨1,50,8000,[1]⟩:Short)].length (jD 4 ni)),(13, .callR [82] (vB v8)),(16, .skip),(17, .skip),(18, .skip)],fr:=[(12,82)] } [] (ae ⟨(hb3),(hb3),(fun hg=> ⟨(rfl),((by intro i hi j hj;match i,j,hi,hj with|0,0,_,_=>rfl)),trivial⟩),(hb3),(hb3),(fun hg=> ⟨(rfl),((by intro i hi j hj;match i,j,hi,hj with|0,0,_,_=>rfl)),trivial⟩),(hb3),(hb3),(fun hg=> ⟨(rfl),(iq _ _ _),trivial⟩),(⟨rfl,trivial⟩),(hb3),(fun hg=> ⟨(Fn.uh (frz:=[82]) (p:=[[(⟨0,30,13334,[0]⟩:Short),(⟨1,50,8000,[1]⟩:Short)].length=[(⟨0,30,13334,[0]⟩:Short),(⟨1,50,8000,[1]⟩:Short)].length]) (Fn.le (args':=(MK u5)) (bX u5.1 [(⟨0,30,13334,[0]⟩:Short),(⟨1,50,8000,[1]⟩:Short)] hr_13) ⟨eG.refl _,eG.one (dO.d (gV.sl (.inl rfl) (by intro i hi j hj;match i,j,hi,hj with|0,0,_,_=>exact .refl _|0,1,_,_=>exact .refl _|0,2,_,_=>exact .refl _|0,3,_,_=>exact gV.nV|1,0,_,_=>exact .refl _|1,1,_,_=>exact .refl _|1,2,_,_=>exact .refl _|1,3,_,_=>exact gV.nV))),trivial⟩) (by kernel_rfl) ⟨rfl,trivial⟩ rfl),trivial⟩),(hb3),(hb4),((fun h=>Bool.noConfusion (show false=true from h.1))),(hb4),((fun h=>Bool.noConfusion (show false=true from h.1))),(hb4),((fun h=>Bool.noConfusion (show false=true from h.1))),(hb4),trivial⟩) (bM.le (st':=⟨[(0,(vB false))],[]⟩) ⟨⟨⟨_,rfl,eO.v (eG.one (dO.of (congrArg (fun b=>CV.d (.bool b)) (BP hb4))))⟩,trivial⟩,trivial⟩) ?_
        refine aR ?_
        obtain rfl:=oi h
        exact rl [(sB false)]
      ·skip
       refine bI h (fun hb5 h=> ?_) (fun hb5 h=> ?_)
       ·skip
        refine bE h fun w4 hr_15 h=> ?_
        refine ri tT (WC u5 v0 w4) (eqs (decide (u5.2=0)) 3 [(bK u5 v0)=false, ¬ gP (jY u5) [(6,true)],(bK u5 v0)=false, ¬ gP (jY u5) [(6,true)],(bK u5 v0)=false, ¬ gP (jY u5) [(6,true)],(bK u5 v0)=false, ¬ gP (jY u5) [(6,true)],(bK u5 v0)=false, ¬ gP (jY u5) [(6,true)],(bK u5 v0)=false, ¬ gP (jY u5) [(6,true)],(bK u5 v0)=false, ¬ gP (jY u5) [(6,true)],(bK u5 v0)=false,(vM u5 v0)=true,(vM u5 v0)=true,gP (jY u5) [(15,true)]→All [[13334,8000].length=2,aG 2 1 (jD 1 Mw) (aC (au .i64) [13334,8000])],gP (jY u5) [(15,true)],(vM u5 v0)=true,gP (jY u5) [(15,true)]→All [Fn Try.prog 54 [(sD (JR v0)),(.one (.own 83 true ([13334,8000].length)))] [(83,some BA)] (vB w4) [(83,some BA)]],(vM u5 v0)=true]) {yb:=[(2,(decide (u5.2=0))),(6,false),(15,true)],an:=[(7, .skip),(8, .skip),(9, .skip),(10, .skip),(11, .skip),(12, .skip),(13, .skip),(17, .arr [13334,8000].length (aC (au .i64) [13334,8000])),(18, .callR [83] (vB w4))],fr:=[(17,83)] } [] (ae ⟨(hb3),((fun h=>Bool.noConfusion (show false=true from h.1))),(hb3),((fun h=>Bool.noConfusion (show false=true from h.1))),(hb3),((fun h=>Bool.noConfusion (show false=true from h.1))),(hb3),((fun h=>Bool.noConfusion (show false=true from h.1))),(hb3),((fun h=>Bool.noConfusion (show false=true from h.1))),(hb3),((fun h=>Bool.noConfusion (show false=true from h.1))),(hb3),((fun h=>Bool.noConfusion (show false=true from h.1))),(hb3),(hb5),(hb5),(fun hg=> ⟨(rfl),((by intro i hi j hj;match i,j,hi,hj with|0,0,_,_=>rfl|1,0,_,_=>rfl)),trivial⟩),(⟨rfl,trivial⟩),(hb5),(fun hg=> ⟨(Fn.uh (frz:=[83]) (p:=[[13334,8000].length=[13334,8000].length]) (Fn.le (args':=(N7 v0)) (dG v0.1 [13334,8000] hr_15) ⟨eG.one (dO.d gV.nV),eG.one (dO.d gV.nV),trivial⟩) (by kernel_rfl) ⟨rfl,trivial⟩ rfl),trivial⟩),(hb5),trivial⟩) (bM.le (st':=⟨[(0,(vB w4))],[]⟩) ⟨⟨⟨_,rfl,eO.v (eG.one (dO.of (congrArg (fun b=>CV.d (.bool b)) (BQ hb5))))⟩,trivial⟩,trivial⟩) ?_
        refine aR ?_
        obtain rfl:=oi h
        exact rl [(sB w4)]
       ·skip
        refine ri tT (Xf u5 v0) (VZ u5 v0) {yb:=[(2,(decide (u5.2=0))),(6,false),(15,false)],an:=[(7, .skip),(8, .skip),(9, .skip),(10, .skip),(11, .skip),(12, .skip),(13, .skip),(16, .skip),(17, .skip),(18, .skip)] } [] (ae ⟨(hb3),((fun h=>Bool.noConfusion (show false=true from h.1))),(hb3),((fun h=>Bool.noConfusion (show false=true from h.1))),(hb3),((fun h=>Bool.noConfusion (show false=true from h.1))),(hb3),((fun h=>Bool.noConfusion (show false=true from h.1))),(hb3),((fun h=>Bool.noConfusion (show false=true from h.1))),(hb3),((fun h=>Bool.noConfusion (show false=true from h.1))),(hb3),((fun h=>Bool.noConfusion (show false=true from h.1))),(hb3),(hb5),((fun h=>Bool.noConfusion (show false=true from h.1))),(hb5),((fun h=>Bool.noConfusion (show false=true from h.1))),(hb5),((fun h=>Bool.noConfusion (show false=true from h.1))),(hb5),trivial⟩) (bM.le (st':=⟨[(0,(vB false))],[]⟩) ⟨⟨⟨_,rfl,eO.v (eG.one (dO.of (congrArg (fun b=>CV.d (.bool b)) (BP hb5))))⟩,trivial⟩,trivial⟩) ?_
        refine aR ?_
        obtain rfl:=oi h
        exact rl [(sB false)]
    ·skip
     refine bE h fun v7 hr_16 h=> ?_
     refine bE h fun x3 hr_17 h=> ?_
     refine rg tT ⟨[(Ld u3),(NN u3),(117,(vB (bif (Vf u0 u1 u2 u4 v7)then true else(!decide (x3=0)))))],[]⟩ (eqs (!decide (u0.2.2=0)) 3 (eqs (Fj u0 u1) 3 (eqs (Am u0 u1 u2) 2 ((gP (LW u0 u1 u2 u4 v7) [(10,false)]→All [Fn Try.prog 41 (Qg u0) [] (vI u4) []])::(eqs (Am u0 u1 u2) 2 (eqs (EX u0 u1 u2 u4) 3 ((JP u0 u1 u2 u4)::(¬ gP (LW u0 u1 u2 u4 v7) [(19,false)])::(JP u0 u1 u2 u4)::(¬ gP (LW u0 u1 u2 u4 v7) [(19,false)])::(JP u0 u1 u2 u4)::(¬ gP (LW u0 u1 u2 u4 v7) [(19,false)])::(JP u0 u1 u2 u4)::(¬ gP (LW u0 u1 u2 u4 v7) [(19,false)])::(JP u0 u1 u2 u4)::(O7 u0 u1 u2 u4)::(O7 u0 u1 u2 u4)::(O7 u0 u1 u2 u4)::(O7 u0 u1 u2 u4)::(gP (LW u0 u1 u2 u4 v7) [(25,false)]→All [[(⟨2,1⟩:Part),(⟨3,0⟩:Part)].length=2,aG 2 2 (jD 2 [(.int .i64 2),(.int .i64 1),(.int .i64 3),(.int .i64 0)]) (aC Part.cell [(⟨2,1⟩:Part),(⟨3,0⟩:Part)])])::(gP (LW u0 u1 u2 u4 v7) [(25,false)])::(O7 u0 u1 u2 u4)::(gP (LW u0 u1 u2 u4 v7) [(25,false)]→All [Fn Try.prog 38 [(sD (aK none 2 Part.cell u2.1)),(.one (.own 84 true ([(⟨2,1⟩:Part),(⟨3,0⟩:Part)].length)))] [(84,some (cu 117 2 Part.cell [(⟨2,1⟩:Part),(⟨3,0⟩:Part)]))] (vB v7) [(84,some (cu 117 2 Part.cell [(⟨2,1⟩:Part),(⟨3,0⟩:Part)]))]])::(O7 u0 u1 u2 u4)::(O7 u0 u1 u2 u4)::(eqs (Vf u0 u1 u2 u4 v7) 5 ((gP (LW u0 u1 u2 u4 v7) [(33,false)]→All [Fn Try.prog 49 (WM u3 u0) [] (vI x3) []])::(eqs (Vf u0 u1 u2 u4 v7) 2 [])))))))))) {yb:=[(2,(!decide (u0.2.2=0))),(6,(Fj u0 u1)),(10,(Am u0 u1 u2)),(15,(EX u0 u1 u2 u4)),(19,true),(25,false),(33,(Vf u0 u1 u2 u4 v7))],an:=[(12, .call [] (vI u4) []),(20, .skip),(21, .skip),(22, .skip),(23, .skip),(29, .arr [(⟨2,1⟩:Part),(⟨3,0⟩:Part)].length (aC Part.cell [(⟨2,1⟩:Part),(⟨3,0⟩:Part)])),(30, .callR [84] (vB v7)),(38, .call [] (vI x3) [])],fr:=[(29,84)] } [] (ae (ae (ae ⟨(fun hg=> ⟨(dA u0.1 (gI hr_9 (aZ hg))),trivial⟩),(ae (ae ⟨(hb1),((fun h=>Bool.noConfusion (show true=false from h.1))),(hb1),((fun h=>Bool.noConfusion (show true=false from h.1))),(hb1),((fun h=>Bool.noConfusion (show true=false from h.1))),(hb1),((fun h=>Bool.noConfusion (show true=false from h.1))),(hb1),(hb2),(hb2),(hb2),(hb2),(fun hg=> ⟨(rfl),((by intro i hi j hj;match i,j,hi,hj with|0,0,_,_=>rfl|0,1,_,_=>rfl|1,0,_,_=>rfl|1,1,_,_=>rfl)),trivial⟩),(⟨rfl,trivial⟩),(hb2),(fun hg=> ⟨(Fn.uh (frz:=[84]) (p:=[[(⟨2,1⟩:Part),(⟨3,0⟩:Part)].length=[(⟨2,1⟩:Part),(⟨3,0⟩:Part)].length]) (Fn.le (args':=(afp u2)) (uN u2.1 [(⟨2,1⟩:Part),(⟨3,0⟩:Part)] hr_16) ⟨eG.refl _,eG.one (dO.d gV.nV),trivial⟩) (by kernel_rfl) ⟨rfl,trivial⟩ rfl),trivial⟩),(hb2),(hb2),(ae ⟨(fun hg=> ⟨(jw u3.1 u3.2 u0.1 u0.2.1 (gI hr_17 (aZ hg))),trivial⟩),(ae trivial)⟩)⟩))⟩))) ?_
     refine bI h (fun hb10 h=> ?_) (fun hb10 h=> ?_)
     ·refine ct hb10 ?_
      refine sz tT ⟨[(0,(vB false))],[]⟩ {} [] ?_
      refine aR ?_
      obtain rfl:=oi h
      exact rl [(sB false)]
     ·refine cf hb10 ?_
      refine aP (aQ (bE h fun u6 hr_18 h=> ?_))
      have q0:=mH u3.1 u3.2 1 hr_18
      refine rg tT (Wp u3 u6) [_] {an:=[(2,cA q0 [])] } [] ⟨q0,trivial⟩ ?_
      refine aQ (bE h fun v1 hr_19 h=> ?_)
      have q0:=lK u3.1 u6.1 hr_19
      refine rg tT (Xg u6 v1) [_] {an:=[(2,cA q0 [])] } [] ⟨q0,trivial⟩ ?_
      refine aQ ?_
      refine bI h (fun hb7 h=> ?_) (fun hb7 h=> ?_)
      ·skip
       refine bE h fun v9 hr_20 h=> ?_
       refine bI h (fun hb8 h=> ?_) (fun hb8 h=> ?_)
       ·skip
        refine bE h fun w5 hr_21 h=> ?_
        refine ri tT (V5 u6 v1 v9 w5) (eqs (decide (u6.2=0)) 3 [(bK u6 v1)=true,(bK u6 v1)=true,gP (nu u6) [(6,true)]→All [[0].length=1,aG 1 1 (jD 1 [(.int .i64 0)]) (aC (au .i64) [0])],(bK u6 v1)=true,(bK u6 v1)=true,gP (nu u6) [(6,true)]→All [[1].length=1,aG 1 1 (jD 1 [(.int .i64 1)]) (aC (au .i64) [1])],(bK u6 v1)=true,(bK u6 v1)=true,gP (nu u6) [(6,true)]→All [[(⟨0,30,13334,[0]⟩:Short),(⟨1,50,8000,[1]⟩:Short)].length=2,aG 2 4 (jD 4 ni) (jD 4 ni)],gP (nu u6) [(6,true)],(bK u6 v1)=true,gP (nu u6) [(6,true)]→All [Fn Try.prog 52 [(sD (Ir u6)),(.one (.own 90 true ([(⟨0,30,13334,[0]⟩:Short),(⟨1,50,8000,[1]⟩:Short)].length)))] aee (vB v9) aee],(bK u6 v1)=true,(mQ u6 v1 v9)=true,(mQ u6 v1 v9)=true,gP (nu u6) [(15,true)]→All [[13334,8000].length=2,aG 2 1 (jD 1 Mw) (aC (au .i64) [13334,8000])],gP (nu u6) [(15,true)],(mQ u6 v1 v9)=true,gP (nu u6) [(15,true)]→All [Fn Try.prog 54 [(sD (JR v1)),(.one (.own 91 true ([13334,8000].length)))] [(91,some BA)] (vB w5) [(91,some BA)]],(mQ u6 v1 v9)=true]) {yb:=[(2,(decide (u6.2=0))),(6,true),(15,true)],an:=[(8, .frz [0].length (aC (au .i64) [0])),(10, .frz [1].length (aC (au .i64) [1])),(12, .arr [(⟨0,30,13334,[0]⟩:Short),(⟨1,50,8000,[1]⟩:Short)].length (jD 4 ni)),(13, .callR [90] (vB v9)),(17, .arr [13334,8000].length (aC (au .i64) [13334,8000])),(18, .callR [91] (vB w5))],fr:=[(12,90),(17,91)] } [] (ae ⟨(hb7),(hb7),(fun hg=> ⟨(rfl),((by intro i hi j hj;match i,j,hi,hj with|0,0,_,_=>rfl)),trivial⟩),(hb7),(hb7),(fun hg=> ⟨(rfl),((by intro i hi j hj;match i,j,hi,hj with|0,0,_,_=>rfl)),trivial⟩),(hb7),(hb7),(fun hg=> ⟨(rfl),(iq _ _ _),trivial⟩),(⟨rfl,trivial⟩),(hb7),(fun hg=> ⟨(Fn.uh (frz:=[90]) (p:=[[(⟨0,30,13334,[0]⟩:Short),(⟨1,50,8000,[1]⟩:Short)].length=[(⟨0,30,13334,[0]⟩:Short),(⟨1,50,8000,[1]⟩:Short)].length]) (Fn.le (args':=(MK u6)) (bX u6.1 [(⟨0,30,13334,[0]⟩:Short),(⟨1,50,8000,[1]⟩:Short)] hr_20) ⟨eG.refl _,eG.one (dO.d (gV.sl (.inl rfl) (by intro i hi j hj;match i,j,hi,hj with|0,0,_,_=>exact .refl _|0,1,_,_=>exact .refl _|0,2,_,_=>exact .refl _|0,3,_,_=>exact gV.nV|1,0,_,_=>exact .refl _|1,1,_,_=>exact .refl _|1,2,_,_=>exact .refl _|1,3,_,_=>exact gV.nV))),trivial⟩) (by kernel_rfl) ⟨rfl,trivial⟩ rfl),trivial⟩),(hb7),(hb8),(hb8),(fun hg=> ⟨(rfl),((by intro i hi j hj;match i,j,hi,hj with|0,0,_,_=>rfl|1,0,_,_=>rfl)),trivial⟩),(⟨rfl,trivial⟩),(hb8),(fun hg=> ⟨(Fn.uh (frz:=[91]) (p:=[[13334,8000].length=[13334,8000].length]) (Fn.le (args':=(N7 v1)) (dG v1.1 [13334,8000] hr_21) ⟨eG.one (dO.d gV.nV),eG.one (dO.d gV.nV),trivial⟩) (by kernel_rfl) ⟨rfl,trivial⟩ rfl),trivial⟩),(hb8),trivial⟩) (bM.le (st':=⟨[(0,(vB w5))],[]⟩) ⟨⟨⟨_,rfl,eO.v (eG.one (dO.of (congrArg (fun b=>CV.d (.bool b)) (BQ hb8))))⟩,trivial⟩,trivial⟩) ?_
        refine aR ?_
        obtain rfl:=oi h
        exact rl [(sB w5)]
       ·skip
        refine ri tT (WW u6 v1 v9) (eqs (decide (u6.2=0)) 3 [(bK u6 v1)=true,(bK u6 v1)=true,gP (nE u6) [(6,true)]→All [[0].length=1,aG 1 1 (jD 1 [(.int .i64 0)]) (aC (au .i64) [0])],(bK u6 v1)=true,(bK u6 v1)=true,gP (nE u6) [(6,true)]→All [[1].length=1,aG 1 1 (jD 1 [(.int .i64 1)]) (aC (au .i64) [1])],(bK u6 v1)=true,(bK u6 v1)=true,gP (nE u6) [(6,true)]→All [[(⟨0,30,13334,[0]⟩:Short),(⟨1,50,8000,[1]⟩:Short)].length=2,aG 2 4 (jD 4 ni) (jD 4 ni)],gP (nE u6) [(6,true)],(bK u6 v1)=true,gP (nE u6) [(6,true)]→All [Fn Try.prog 52 [(sD (Ir u6)),(.one (.own 94 true ([(⟨0,30,13334,[0]⟩:Short),(⟨1,50,8000,[1]⟩:Short)].length)))] afN (vB v9) afN],(bK u6 v1)=true,(mQ u6 v1 v9)=false, ¬ gP (nE u6) [(15,true)],(mQ u6 v1 v9)=false, ¬ gP (nE u6) [(15,true)],(mQ u6 v1 v9)=false, ¬ gP (nE u6) [(15,true)],(mQ u6 v1 v9)=false]) {yb:=[(2,(decide (u6.2=0))),(6,true),(15,false)],an:=[(8, .frz [0].length (aC (au .i64) [0])),(10, .frz [1].length (aC (au .i64) [1])),(12, .arr [(⟨0,30,13334,[0]⟩:Short),(⟨1,50,8000,[1]⟩:Short)].length (jD 4 ni)),(13, .callR [94] (vB v9)),(16, .skip),(17, .skip),(18, .skip)],fr:=[(12,94)] } [] (ae ⟨(hb7),(hb7),(fun hg=> ⟨(rfl),((by intro i hi j hj;match i,j,hi,hj with|0,0,_,_=>rfl)),trivial⟩),(hb7),(hb7),(fun hg=> ⟨(rfl),((by intro i hi j hj;match i,j,hi,hj with|0,0,_,_=>rfl)),trivial⟩),(hb7),(hb7),(fun hg=> ⟨(rfl),(iq _ _ _),trivial⟩),(⟨rfl,trivial⟩),(hb7),(fun hg=> ⟨(Fn.uh (frz:=[94]) (p:=[[(⟨0,30,13334,[0]⟩:Short),(⟨1,50,8000,[1]⟩:Short)].length=[(⟨0,30,13334,[0]⟩:Short),(⟨1,50,8000,[1]⟩:Short)].length]) (Fn.le (args':=(MK u6)) (bX u6.1 [(⟨0,30,13334,[0]⟩:Short),(⟨1,50,8000,[1]⟩:Short)] hr_20) ⟨eG.refl _,eG.one (dO.d (gV.sl (.inl rfl) (by intro i hi j hj;match i,j,hi,hj with|0,0,_,_=>exact .refl _|0,1,_,_=>exact .refl _|0,2,_,_=>exact .refl _|0,3,_,_=>exact gV.nV|1,0,_,_=>exact .refl _|1,1,_,_=>exact .refl _|1,2,_,_=>exact .refl _|1,3,_,_=>exact gV.nV))),trivial⟩) (by kernel_rfl) ⟨rfl,trivial⟩ rfl),trivial⟩),(hb7),(hb8),((fun h=>Bool.noConfusion (show false=true from h.1))),(hb8),((fun h=>Bool.noConfusion (show false=true from h.1))),(hb8),((fun h=>Bool.noConfusion (show false=true from h.1))),(hb8),trivial⟩) (bM.le (st':=⟨[(0,(vB false))],[]⟩) ⟨⟨⟨_,rfl,eO.v (eG.one (dO.of (congrArg (fun b=>CV.d (.bool b)) (BP hb8))))⟩,trivial⟩,trivial⟩) ?_
        refine aR ?_
        obtain rfl:=oi h
        exact rl [(sB false)]
      ·skip
       refine bI h (fun hb9 h=> ?_) (fun hb9 h=> ?_)
       ·skip
        refine bE h fun w6 hr_22 h=> ?_
        refine ri tT (WC u6 v1 w6) (eqs (decide (u6.2=0)) 3 [(bK u6 v1)=false, ¬ gP (jY u6) [(6,true)],(bK u6 v1)=false, ¬ gP (jY u6) [(6,true)],(bK u6 v1)=false, ¬ gP (jY u6) [(6,true)],(bK u6 v1)=false, ¬ gP (jY u6) [(6,true)],(bK u6 v1)=false, ¬ gP (jY u6) [(6,true)],(bK u6 v1)=false, ¬ gP (jY u6) [(6,true)],(bK u6 v1)=false, ¬ gP (jY u6) [(6,true)],(bK u6 v1)=false,(vM u6 v1)=true,(vM u6 v1)=true,gP (jY u6) [(15,true)]→All [[13334,8000].length=2,aG 2 1 (jD 1 Mw) (aC (au .i64) [13334,8000])],gP (jY u6) [(15,true)],(vM u6 v1)=true,gP (jY u6) [(15,true)]→All [Fn Try.prog 54 [(sD (JR v1)),(.one (.own 95 true ([13334,8000].length)))] [(95,some BA)] (vB w6) [(95,some BA)]],(vM u6 v1)=true]) {yb:=[(2,(decide (u6.2=0))),(6,false),(15,true)],an:=[(7, .skip),(8, .skip),(9, .skip),(10, .skip),(11, .skip),(12, .skip),(13, .skip),(17, .arr [13334,8000].length (aC (au .i64) [13334,8000])),(18, .callR [95] (vB w6))],fr:=[(17,95)] } [] (ae ⟨(hb7),((fun h=>Bool.noConfusion (show false=true from h.1))),(hb7),((fun h=>Bool.noConfusion (show false=true from h.1))),(hb7),((fun h=>Bool.noConfusion (show false=true from h.1))),(hb7),((fun h=>Bool.noConfusion (show false=true from h.1))),(hb7),((fun h=>Bool.noConfusion (show false=true from h.1))),(hb7),((fun h=>Bool.noConfusion (show false=true from h.1))),(hb7),((fun h=>Bool.noConfusion (show false=true from h.1))),(hb7),(hb9),(hb9),(fun hg=> ⟨(rfl),((by intro i hi j hj;match i,j,hi,hj with|0,0,_,_=>rfl|1,0,_,_=>rfl)),trivial⟩),(⟨rfl,trivial⟩),(hb9),(fun hg=> ⟨(Fn.uh (frz:=[95]) (p:=[[13334,8000].length=[13334,8000].length]) (Fn.le (args':=(N7 v1)) (dG v1.1 [13334,8000] hr_22) ⟨eG.one (dO.d gV.nV),eG.one (dO.d gV.nV),trivial⟩) (by kernel_rfl) ⟨rfl,trivial⟩ rfl),trivial⟩),(hb9),trivial⟩) (bM.le (st':=⟨[(0,(vB w6))],[]⟩) ⟨⟨⟨_,rfl,eO.v (eG.one (dO.of (congrArg (fun b=>CV.d (.bool b)) (BQ hb9))))⟩,trivial⟩,trivial⟩) ?_
        refine aR ?_
        obtain rfl:=oi h
        exact rl [(sB w6)]
       ·skip
        refine ri tT (Xf u6 v1) (VZ u6 v1) {yb:=[(2,(decide (u6.2=0))),(6,false),(15,false)],an:=[(7, .skip),(8, .skip),(9, .skip),(10, .skip),(11, .skip),(12, .skip),(13, .skip),(16, .skip),(17, .skip),(18, .skip)] } [] (ae ⟨(hb7),((fun h=>Bool.noConfusion (show false=true from h.1))),(hb7),((fun h=>Bool.noConfusion (show false=true from h.1))),(hb7),((fun h=>Bool.noConfusion (show false=true from h.1))),(hb7),((fun h=>Bool.noConfusion (show false=true from h.1))),(hb7),((fun h=>Bool.noConfusion (show false=true from h.1))),(hb7),((fun h=>Bool.noConfusion (show false=true from h.1))),(hb7),((fun h=>Bool.noConfusion (show false=true from h.1))),(hb7),(hb9),((fun h=>Bool.noConfusion (show false=true from h.1))),(hb9),((fun h=>Bool.noConfusion (show false=true from h.1))),(hb9),((fun h=>Bool.noConfusion (show false=true from h.1))),(hb9),trivial⟩) (bM.le (st':=⟨[(0,(vB false))],[]⟩) ⟨⟨⟨_,rfl,eO.v (eG.one (dO.of (congrArg (fun b=>CV.d (.bool b)) (BP hb9))))⟩,trivial⟩,trivial⟩) ?_
        refine aR ?_
        obtain rfl:=oi h
        exact rl [(sB false)]
   ·skip
    refine bE h fun v5 hr_23 h=> ?_
    refine bI h (fun hb11 h=> ?_) (fun hb11 h=> ?_)
    ·skip
     refine bE h fun x4 hr_24 h=> ?_
     refine rg tT ⟨[(Ld u3),(NN u3),(117,(vB (bif (Uw u0 u1 u2 u4 v5)then true else(!decide (x4=0)))))],[]⟩ (eqs (!decide (u0.2.2=0)) 3 (eqs (Fj u0 u1) 3 (eqs (Am u0 u1 u2) 2 ((gP (Jj u0 u1 u2 u4 v5) [(10,false)]→All [Fn Try.prog 41 (Qg u0) [] (vI u4) []])::(eqs (Am u0 u1 u2) 2 (eqs (EX u0 u1 u2 u4) 3 ((JA u0 u1 u2 u4)::(JA u0 u1 u2 u4)::(gP (Jj u0 u1 u2 u4 v5) [(19,false)]→All [[true,false,false].length=3,aG 3 1 (jD 1 [(.bool true),(.bool false),(.bool false)]) (aC aj [true,false,false])])::(gP (Jj u0 u1 u2 u4 v5) [(19,false)])::(JA u0 u1 u2 u4)::(gP (Jj u0 u1 u2 u4 v5) [(19,false)]→All [Fn Try.prog 42 [(sD (Fq u0)),(.one (.own 97 true ([true,false,false].length)))] [(97,some (cu 4 1 aj [true,false,false]))] (vB v5) [(97,some (cu 4 1 aj [true,false,false]))]])::(JA u0 u1 u2 u4)::(JA u0 u1 u2 u4)::(O9 u0 u1 u2 u4 v5)::(¬ gP (Jj u0 u1 u2 u4 v5) [(25,false)])::(O9 u0 u1 u2 u4 v5)::(¬ gP (Jj u0 u1 u2 u4 v5) [(25,false)])::(O9 u0 u1 u2 u4 v5)::(¬ gP (Jj u0 u1 u2 u4 v5) [(25,false)])::(O9 u0 u1 u2 u4 v5)::(¬ gP (Jj u0 u1 u2 u4 v5) [(25,false)])::(O9 u0 u1 u2 u4 v5)::(¬ gP (Jj u0 u1 u2 u4 v5) [(25,false)])::(O9 u0 u1 u2 u4 v5)::(¬ gP (Jj u0 u1 u2 u4 v5) [(25,false)])::(O9 u0 u1 u2 u4 v5)::(eqs (Uw u0 u1 u2 u4 v5) 5 ((gP (Jj u0 u1 u2 u4 v5) [(33,false)]→All [Fn Try.prog 49 (WM u3 u0) [] (vI x4) []])::(eqs (Uw u0 u1 u2 u4 v5) 2 [])))))))))) {yb:=[(2,(!decide (u0.2.2=0))),(6,(Fj u0 u1)),(10,(Am u0 u1 u2)),(15,(EX u0 u1 u2 u4)),(19,false),(25,true),(33,(Uw u0 u1 u2 u4 v5))],an:=[(12, .call [] (vI u4) []),(21, .arr [true,false,false].length (aC aj [true,false,false])),(22, .callR [97] (vB v5)),(26, .skip),(27, .skip),(28, .skip),(29, .skip),(30, .skip),(31, .skip),(38, .call [] (vI x4) [])],fr:=[(21,97)] } [] (ae (ae (ae ⟨(fun hg=> ⟨(dA u0.1 (gI hr_9 (aZ hg))),trivial⟩),(ae (ae ⟨(hb1),(hb1),(fun hg=> ⟨(rfl),((by intro i hi j hj;match i,j,hi,hj with|0,0,_,_=>rfl|1,0,_,_=>rfl|2,0,_,_=>rfl)),trivial⟩),(⟨rfl,trivial⟩),(hb1),(fun hg=> ⟨(Fn.uh (frz:=[97]) (p:=[[true,false,false].length=[true,false,false].length]) (Fn.le (args':=[(sD (Fq u0)),(sD (aK (some true) 1 aj [true,false,false]))]) (nk u0.2.1 [true,false,false] hr_23) ⟨eG.refl _,eG.one (dO.d gV.nV),trivial⟩) (by kernel_rfl) ⟨rfl,trivial⟩ rfl),trivial⟩),(hb1),(hb1),(hb11),((fun h=>Bool.noConfusion (show true=false from h.1))),(hb11),((fun h=>Bool.noConfusion (show true=false from h.1))),(hb11),((fun h=>Bool.noConfusion (show true=false from h.1))),(hb11),((fun h=>Bool.noConfusion (show true=false from h.1))),(hb11),((fun h=>Bool.noConfusion (show true=false from h.1))),(hb11),((fun h=>Bool.noConfusion (show true=false from h.1))),(hb11),(ae ⟨(fun hg=> ⟨(jw u3.1 u3.2 u0.1 u0.2.1 (gI hr_24 (aZ hg))),trivial⟩),(ae trivial)⟩)⟩))⟩))) ?_
     refine bI h (fun hb15 h=> ?_) (fun hb15 h=> ?_)
     ·refine ct hb15 ?_
      refine sz tT ⟨[(0,(vB false))],[]⟩ {} [] ?_
      refine aR ?_
      obtain rfl:=oi h
      exact rl [(sB false)]
     ·refine cf hb15 ?_
      refine aP (aQ (bE h fun u7 hr_25 h=> ?_))
      have q0:=mH u3.1 u3.2 1 hr_25
      refine rg tT (Wp u3 u7) [_] {an:=[(2,cA q0 [])] } [] ⟨q0,trivial⟩ ?_
      refine aQ (bE h fun v2 hr_26 h=> ?_)
      have q0:=lK u3.1 u7.1 hr_26
      refine rg tT (Xg u7 v2) [_] {an:=[(2,cA q0 [])] } [] ⟨q0,trivial⟩ ?_
      refine aQ ?_
      refine bI h (fun hb12 h=> ?_) (fun hb12 h=> ?_)
      ·skip
       refine bE h fun w0 hr_27 h=> ?_
       refine bI h (fun hb13 h=> ?_) (fun hb13 h=> ?_)
       ·skip
        refine bE h fun w7 hr_28 h=> ?_
        refine ri tT (V5 u7 v2 w0 w7) (eqs (decide (u7.2=0)) 3 [(bK u7 v2)=true,(bK u7 v2)=true,gP (nu u7) [(6,true)]→All [[0].length=1,aG 1 1 (jD 1 [(.int .i64 0)]) (aC (au .i64) [0])],(bK u7 v2)=true,(bK u7 v2)=true,gP (nu u7) [(6,true)]→All [[1].length=1,aG 1 1 (jD 1 [(.int .i64 1)]) (aC (au .i64) [1])],(bK u7 v2)=true,(bK u7 v2)=true,gP (nu u7) [(6,true)]→All [[(⟨0,30,13334,[0]⟩:Short),(⟨1,50,8000,[1]⟩:Short)].length=2,aG 2 4 (jD 4 ni) (jD 4 ni)],gP (nu u7) [(6,true)],(bK u7 v2)=true,gP (nu u7) [(6,true)]→All [Fn Try.prog 52 [(sD (Ir u7)),(.one (.own 103 true ([(⟨0,30,13334,[0]⟩:Short),(⟨1,50,8000,[1]⟩:Short)].length)))] agc (vB w0) agc],(bK u7 v2)=true,(mQ u7 v2 w0)=true,(mQ u7 v2 w0)=true,gP (nu u7) [(15,true)]→All [[13334,8000].length=2,aG 2 1 (jD 1 Mw) (aC (au .i64) [13334,8000])],gP (nu u7) [(15,true)],(mQ u7 v2 w0)=true,gP (nu u7) [(15,true)]→All [Fn Try.prog 54 [(sD (JR v2)),(.one (.own 104 true ([13334,8000].length)))] [(104,some BA)] (vB w7) [(104,some BA)]],(mQ u7 v2 w0)=true]) {yb:=[(2,(decide (u7.2=0))),(6,true),(15,true)],an:=[(8, .frz [0].length (aC (au .i64) [0])),(10, .frz [1].length (aC (au .i64) [1])),(12, .arr [(⟨0,30,13334,[0]⟩:Short),(⟨1,50,8000,[1]⟩:Short)].length (jD 4 ni)),(13, .callR [103] (vB w0)),(17, .arr [13334,8000].length (aC (au .i64) [13334,8000])),(18, .callR [104] (vB w7))],fr:=[(12,103),(17,104)] } [] (ae ⟨(hb12),(hb12),(fun hg=> ⟨(rfl),((by intro i hi j hj;match i,j,hi,hj with|0,0,_,_=>rfl)),trivial⟩),(hb12),(hb12),(fun hg=> ⟨(rfl),((by intro i hi j hj;match i,j,hi,hj with|0,0,_,_=>rfl)),trivial⟩),(hb12),(hb12),(fun hg=> ⟨(rfl),(iq _ _ _),trivial⟩),(⟨rfl,trivial⟩),(hb12),(fun hg=> ⟨(Fn.uh (frz:=[103]) (p:=[[(⟨0,30,13334,[0]⟩:Short),(⟨1,50,8000,[1]⟩:Short)].length=[(⟨0,30,13334,[0]⟩:Short),(⟨1,50,8000,[1]⟩:Short)].length]) (Fn.le (args':=(MK u7)) (bX u7.1 [(⟨0,30,13334,[0]⟩:Short),(⟨1,50,8000,[1]⟩:Short)] hr_27) ⟨eG.refl _,eG.one (dO.d (gV.sl (.inl rfl) (by intro i hi j hj;match i,j,hi,hj with|0,0,_,_=>exact .refl _|0,1,_,_=>exact .refl _|0,2,_,_=>exact .refl _|0,3,_,_=>exact gV.nV|1,0,_,_=>exact .refl _|1,1,_,_=>exact .refl _|1,2,_,_=>exact .refl _|1,3,_,_=>exact gV.nV))),trivial⟩) (by kernel_rfl) ⟨rfl,trivial⟩ rfl),trivial⟩),(hb12),(hb13),(hb13),(fun hg=> ⟨(rfl),((by intro i hi j hj;match i,j,hi,hj with|0,0,_,_=>rfl|1,0,_,_=>rfl)),trivial⟩),(⟨rfl,trivial⟩),(hb13),(fun hg=> ⟨(Fn.uh (frz:=[104]) (p:=[[13334,8000].length=[13334,8000].length]) (Fn.le (args':=(N7 v2)) (dG v2.1 [13334,8000] hr_28) ⟨eG.one (dO.d gV.nV),eG.one (dO.d gV.nV),trivial⟩) (by kernel_rfl) ⟨rfl,trivial⟩ rfl),trivial⟩),(hb13),trivial⟩) (bM.le (st':=⟨[(0,(vB w7))],[]⟩) ⟨⟨⟨_,rfl,eO.v (eG.one (dO.of (congrArg (fun b=>CV.d (.bool b)) (BQ hb13))))⟩,trivial⟩,trivial⟩) ?_
        refine aR ?_
        obtain rfl:=oi h
        exact rl [(sB w7)]
       ·skip
        refine ri tT (WW u7 v2 w0) (eqs (decide (u7.2=0)) 3 [(bK u7 v2)=true,(bK u7 v2)=true,gP (nE u7) [(6,true)]→All [[0].length=1,aG 1 1 (jD 1 [(.int .i64 0)]) (aC (au .i64) [0])],(bK u7 v2)=true,(bK u7 v2)=true,gP (nE u7) [(6,true)]→All [[1].length=1,aG 1 1 (jD 1 [(.int .i64 1)]) (aC (au .i64) [1])],(bK u7 v2)=true,(bK u7 v2)=true,gP (nE u7) [(6,true)]→All [[(⟨0,30,13334,[0]⟩:Short),(⟨1,50,8000,[1]⟩:Short)].length=2,aG 2 4 (jD 4 ni) (jD 4 ni)],gP (nE u7) [(6,true)],(bK u7 v2)=true,gP (nE u7) [(6,true)]→All [Fn Try.prog 52 [(sD (Ir u7)),(.one (.own 107 true ([(⟨0,30,13334,[0]⟩:Short),(⟨1,50,8000,[1]⟩:Short)].length)))] abZ (vB w0) abZ],(bK u7 v2)=true,(mQ u7 v2 w0)=false, ¬ gP (nE u7) [(15,true)],(mQ u7 v2 w0)=false, ¬ gP (nE u7) [(15,true)],(mQ u7 v2 w0)=false, ¬ gP (nE u7) [(15,true)],(mQ u7 v2 w0)=false]) {yb:=[(2,(decide (u7.2=0))),(6,true),(15,false)],an:=[(8, .frz [0].length (aC (au .i64) [0])),(10, .frz [1].length (aC (au .i64) [1])),(12, .arr [(⟨0,30,13334,[0]⟩:Short),(⟨1,50,8000,[1]⟩:Short)].length (jD 4 ni)),(13, .callR [107] (vB w0)),(16, .skip),(17, .skip),(18, .skip)],fr:=[(12,107)] } [] (ae ⟨(hb12),(hb12),(fun hg=> ⟨(rfl),((by intro i hi j hj;match i,j,hi,hj with|0,0,_,_=>rfl)),trivial⟩),(hb12),(hb12),(fun hg=> ⟨(rfl),((by intro i hi j hj;match i,j,hi,hj with|0,0,_,_=>rfl)),trivial⟩),(hb12),(hb12),(fun hg=> ⟨(rfl),(iq _ _ _),trivial⟩),(⟨rfl,trivial⟩),(hb12),(fun hg=> ⟨(Fn.uh (frz:=[107]) (p:=[[(⟨0,30,13334,[0]⟩:Short),(⟨1,50,8000,[1]⟩:Short)].length=[(⟨0,30,13334,[0]⟩:Short),(⟨1,50,8000,[1]⟩:Short)].length]) (Fn.le (args':=(MK u7)) (bX u7.1 [(⟨0,30,13334,[0]⟩:Short),(⟨1,50,8000,[1]⟩:Short)] hr_27) ⟨eG.refl _,eG.one (dO.d (gV.sl (.inl rfl) (by intro i hi j hj;match i,j,hi,hj with|0,0,_,_=>exact .refl _|0,1,_,_=>exact .refl _|0,2,_,_=>exact .refl _|0,3,_,_=>exact gV.nV|1,0,_,_=>exact .refl _|1,1,_,_=>exact .refl _|1,2,_,_=>exact .refl _|1,3,_,_=>exact gV.nV))),trivial⟩) (by kernel_rfl) ⟨rfl,trivial⟩ rfl),trivial⟩),(hb12),(hb13),((fun h=>Bool.noConfusion (show false=true from h.1))),(hb13),((fun h=>Bool.noConfusion (show false=true from h.1))),(hb13),((fun h=>Bool.noConfusion (show false=true from h.1))),(hb13),trivial⟩) (bM.le (st':=⟨[(0,(vB false))],[]⟩) ⟨⟨⟨_,rfl,eO.v (eG.one (dO.of (congrArg (fun b=>CV.d (.bool b)) (BP hb13))))⟩,trivial⟩,trivial⟩) ?_
        refine aR ?_
        obtain rfl:=oi h
        exact rl [(sB false)]
      ·skip
       refine bI h (fun hb14 h=> ?_) (fun hb14 h=> ?_)
       ·skip
        refine bE h fun w8 hr_29 h=> ?_
        refine ri tT (WC u7 v2 w8) (eqs (decide (u7.2=0)) 3 [(bK u7 v2)=false, ¬ gP (jY u7) [(6,true)],(bK u7 v2)=false, ¬ gP (jY u7) [(6,true)],(bK u7 v2)=false, ¬ gP (jY u7) [(6,true)],(bK u7 v2)=false, ¬ gP (jY u7) [(6,true)],(bK u7 v2)=false, ¬ gP (jY u7) [(6,true)],(bK u7 v2)=false, ¬ gP (jY u7) [(6,true)],(bK u7 v2)=false, ¬ gP (jY u7) [(6,true)],(bK u7 v2)=false,(vM u7 v2)=true,(vM u7 v2)=true,gP (jY u7) [(15,true)]→All [[13334,8000].length=2,aG 2 1 (jD 1 Mw) (aC (au .i64) [13334,8000])],gP (jY u7) [(15,true)],(vM u7 v2)=true,gP (jY u7) [(15,true)]→All [Fn Try.prog 54 [(sD (JR v2)),(.one (.own 108 true ([13334,8000].length)))] [(108,some BA)] (vB w8) [(108,some BA)]],(vM u7 v2)=true]) {yb:=[(2,(decide (u7.2=0))),(6,false),(15,true)],an:=[(7, .skip),(8, .skip),(9, .skip),(10, .skip),(11, .skip),(12, .skip),(13, .skip),(17, .arr [13334,8000].length (aC (au .i64) [13334,8000])),(18, .callR [108] (vB w8))],fr:=[(17,108)] } [] (ae ⟨(hb12),((fun h=>Bool.noConfusion (show false=true from h.1))),(hb12),((fun h=>Bool.noConfusion (show false=true from h.1))),(hb12),((fun h=>Bool.noConfusion (show false=true from h.1))),(hb12),((fun h=>Bool.noConfusion (show false=true from h.1))),(hb12),((fun h=>Bool.noConfusion (show false=true from h.1))),(hb12),((fun h=>Bool.noConfusion (show false=true from h.1))),(hb12),((fun h=>Bool.noConfusion (show false=true from h.1))),(hb12),(hb14),(hb14),(fun hg=> ⟨(rfl),((by intro i hi j hj;match i,j,hi,hj with|0,0,_,_=>rfl|1,0,_,_=>rfl)),trivial⟩),(⟨rfl,trivial⟩),(hb14),(fun hg=> ⟨(Fn.uh (frz:=[108]) (p:=[[13334,8000].length=[13334,8000].length]) (Fn.le (args':=(N7 v2)) (dG v2.1 [13334,8000] hr_29) ⟨eG.one (dO.d gV.nV),eG.one (dO.d gV.nV),trivial⟩) (by kernel_rfl) ⟨rfl,trivial⟩ rfl),trivial⟩),(hb14),trivial⟩) (bM.le (st':=⟨[(0,(vB w8))],[]⟩) ⟨⟨⟨_,rfl,eO.v (eG.one (dO.of (congrArg (fun b=>CV.d (.bool b)) (BQ hb14))))⟩,trivial⟩,trivial⟩) ?_
        refine aR ?_
        obtain rfl:=oi h
        exact rl [(sB w8)]
       ·skip
        refine ri tT (Xf u7 v2) (VZ u7 v2) {yb:=[(2,(decide (u7.2=0))),(6,false),(15,false)],an:=[(7, .skip),(8, .skip),(9, .skip),(10, .skip),(11, .skip),(12, .skip),(13, .skip),(16, .skip),(17, .skip),(18, .skip)] } [] (ae ⟨(hb12),((fun h=>Bool.noConfusion (show false=true from h.1))),(hb12),((fun h=>Bool.noConfusion (show false=true from h.1))),(hb12),((fun h=>Bool.noConfusion (show false=true from h.1))),(hb12),((fun h=>Bool.noConfusion (show false=true from h.1))),(hb12),((fun h=>Bool.noConfusion (show false=true from h.1))),(hb12),((fun h=>Bool.noConfusion (show false=true from h.1))),(hb12),((fun h=>Bool.noConfusion (show false=true from h.1))),(hb12),(hb14),((fun h=>Bool.noConfusion (show false=true from h.1))),(hb14),((fun h=>Bool.noConfusion (show false=true from h.1))),(hb14),((fun h=>Bool.noConfusion (show false=true from h.1))),(hb14),trivial⟩) (bM.le (st':=⟨[(0,(vB false))],[]⟩) ⟨⟨⟨_,rfl,eO.v (eG.one (dO.of (congrArg (fun b=>CV.d (.bool b)) (BP hb14))))⟩,trivial⟩,trivial⟩) ?_
        refine aR ?_
        obtain rfl:=oi h
        exact rl [(sB false)]
    ·skip
     refine bE h fun w1 hr_30 h=> ?_
     refine bE h fun x5 hr_31 h=> ?_
     refine rg tT ⟨[(Ld u3),(NN u3),(117,(vB (bif (UQ u0 u1 u2 u4 v5 w1)then true else(!decide (x5=0)))))],[]⟩ (eqs (!decide (u0.2.2=0)) 3 (eqs (Fj u0 u1) 3 (eqs (Am u0 u1 u2) 2 ((gP (Mk u0 u1 u2 u4 v5 w1) [(10,false)]→All [Fn Try.prog 41 (Qg u0) [] (vI u4) []])::(eqs (Am u0 u1 u2) 2 (eqs (EX u0 u1 u2 u4) 3 ((JA u0 u1 u2 u4)::(JA u0 u1 u2 u4)::(gP (Mk u0 u1 u2 u4 v5 w1) [(19,false)]→All [[true,false,false].length=3,aG 3 1 (jD 1 [(.bool true),(.bool false),(.bool false)]) (aC aj [true,false,false])])::(gP (Mk u0 u1 u2 u4 v5 w1) [(19,false)])::(JA u0 u1 u2 u4)::(gP (Mk u0 u1 u2 u4 v5 w1) [(19,false)]→All [Fn Try.prog 42 [(sD (Fq u0)),(.one (.own 109 true ([true,false,false].length)))] [(109,some (cu 4 1 aj [true,false,false]))] (vB v5) [(109,some (cu 4 1 aj [true,false,false]))]])::(JA u0 u1 u2 u4)::(JA u0 u1 u2 u4)::(O5 u0 u1 u2 u4 v5)::(O5 u0 u1 u2 u4 v5)::(O5 u0 u1 u2 u4 v5)::(O5 u0 u1 u2 u4 v5)::(gP (Mk u0 u1 u2 u4 v5 w1) [(25,false)]→All [[(⟨2,1⟩:Part),(⟨3,0⟩:Part)].length=2,aG 2 2 (jD 2 [(.int .i64 2),(.int .i64 1),(.int .i64 3),(.int .i64 0)]) (aC Part.cell [(⟨2,1⟩:Part),(⟨3,0⟩:Part)])])::(gP (Mk u0 u1 u2 u4 v5 w1) [(25,false)])::(O5 u0 u1 u2 u4 v5)::(gP (Mk u0 u1 u2 u4 v5 w1) [(25,false)]→All [Fn Try.prog 38 [(sD (aK none 2 Part.cell u2.1)),(.one (.own 110 true ([(⟨2,1⟩:Part),(⟨3,0⟩:Part)].length)))] [(110,some (cu 117 2 Part.cell [(⟨2,1⟩:Part),(⟨3,0⟩:Part)]))] (vB w1) [(110,some (cu 117 2 Part.cell [(⟨2,1⟩:Part),(⟨3,0⟩:Part)]))]])::(O5 u0 u1 u2 u4 v5)::(O5 u0 u1 u2 u4 v5)::(eqs (UQ u0 u1 u2 u4 v5 w1) 5 ((gP (Mk u0 u1 u2 u4 v5 w1) [(33,false)]→All [Fn Try.prog 49 (WM u3 u0) [] (vI x5) []])::(eqs (UQ u0 u1 u2 u4 v5 w1) 2 [])))))))))) {yb:=[(2,(!decide (u0.2.2=0))),(6,(Fj u0 u1)),(10,(Am u0 u1 u2)),(15,(EX u0 u1 u2 u4)),(19,false),(25,false),(33,(UQ u0 u1 u2 u4 v5 w1))],an:=[(12, .call [] (vI u4) []),(21, .arr [true,false,false].length (aC aj [true,false,false])),(22, .callR [109] (vB v5)),(29, .arr [(⟨2,1⟩:Part),(⟨3,0⟩:Part)].length (aC Part.cell [(⟨2,1⟩:Part),(⟨3,0⟩:Part)])),(30, .callR [110] (vB w1)),(38, .call [] (vI x5) [])],fr:=[(21,109),(29,110)] } [] (ae (ae (ae ⟨(fun hg=> ⟨(dA u0.1 (gI hr_9 (aZ hg))),trivial⟩),(ae (ae ⟨(hb1),(hb1),(fun hg=> ⟨(rfl),((by intro i hi j hj;match i,j,hi,hj with|0,0,_,_=>rfl|1,0,_,_=>rfl|2,0,_,_=>rfl)),trivial⟩),(⟨rfl,trivial⟩),(hb1),(fun hg=> ⟨(Fn.uh (frz:=[109]) (p:=[[true,false,false].length=[true,false,false].length]) (Fn.le (args':=[(sD (Fq u0)),(sD (aK (some true) 1 aj [true,false,false]))]) (nk u0.2.1 [true,false,false] hr_23) ⟨eG.refl _,eG.one (dO.d gV.nV),trivial⟩) (by kernel_rfl) ⟨rfl,trivial⟩ rfl),trivial⟩),(hb1),(hb1),(hb11),(hb11),(hb11),(hb11),(fun hg=> ⟨(rfl),((by intro i hi j hj;match i,j,hi,hj with|0,0,_,_=>rfl|0,1,_,_=>rfl|1,0,_,_=>rfl|1,1,_,_=>rfl)),trivial⟩),(⟨rfl,trivial⟩),(hb11),(fun hg=> ⟨(Fn.uh (frz:=[110]) (p:=[[(⟨2,1⟩:Part),(⟨3,0⟩:Part)].length=[(⟨2,1⟩:Part),(⟨3,0⟩:Part)].length]) (Fn.le (args':=(afp u2)) (uN u2.1 [(⟨2,1⟩:Part),(⟨3,0⟩:Part)] hr_30) ⟨eG.refl _,eG.one (dO.d gV.nV),trivial⟩) (by kernel_rfl) ⟨rfl,trivial⟩ rfl),trivial⟩),(hb11),(hb11),(ae ⟨(fun hg=> ⟨(jw u3.1 u3.2 u0.1 u0.2.1 (gI hr_31 (aZ hg))),trivial⟩),(ae trivial)⟩)⟩))⟩))) ?_
     refine bI h (fun hb19 h=> ?_) (fun hb19 h=> ?_)
     ·refine ct hb19 ?_
      refine sz tT ⟨[(0,(vB false))],[]⟩ {} [] ?_
      refine aR ?_
      obtain rfl:=oi h
      exact rl [(sB false)]
     ·refine cf hb19 ?_
      refine aP (aQ (bE h fun u8 hr_32 h=> ?_))
      have q0:=mH u3.1 u3.2 1 hr_32
      refine rg tT (Wp u3 u8) [_] {an:=[(2,cA q0 [])] } [] ⟨q0,trivial⟩ ?_
      refine aQ (bE h fun v3 hr_33 h=> ?_)
      have q0:=lK u3.1 u8.1 hr_33
      refine rg tT (Xg u8 v3) [_] {an:=[(2,cA q0 [])] } [] ⟨q0,trivial⟩ ?_
      refine aQ ?_
      refine bI h (fun hb16 h=> ?_) (fun hb16 h=> ?_)
      ·skip
       refine bE h fun w2 hr_34 h=> ?_
       refine bI h (fun hb17 h=> ?_) (fun hb17 h=> ?_)
       ·skip
        refine bE h fun w9 hr_35 h=> ?_
        refine ri tT (V5 u8 v3 w2 w9) (eqs (decide (u8.2=0)) 3 [(bK u8 v3)=true,(bK u8 v3)=true,gP (nu u8) [(6,true)]→All [[0].length=1,aG 1 1 (jD 1 [(.int .i64 0)]) (aC (au .i64) [0])],(bK u8 v3)=true,(bK u8 v3)=true,gP (nu u8) [(6,true)]→All [[1].length=1,aG 1 1 (jD 1 [(.int .i64 1)]) (aC (au .i64) [1])],(bK u8 v3)=true,(bK u8 v3)=true,gP (nu u8) [(6,true)]→All [[(⟨0,30,13334,[0]⟩:Short),(⟨1,50,8000,[1]⟩:Short)].length=2,aG 2 4 (jD 4 ni) (jD 4 ni)],gP (nu u8) [(6,true)],(bK u8 v3)=true,gP (nu u8) [(6,true)]→All [Fn Try.prog 52 [(sD (Ir u8)),(.one (.own 116 true ([(⟨0,30,13334,[0]⟩:Short),(⟨1,50,8000,[1]⟩:Short)].length)))] afT (vB w2) afT],(bK u8 v3)=true,(mQ u8 v3 w2)=true,(mQ u8 v3 w2)=true,gP (nu u8) [(15,true)]→All [[13334,8000].length=2,aG 2 1 (jD 1 Mw) (aC (au .i64) [13334,8000])],gP (nu u8) [(15,true)],(mQ u8 v3 w2)=true,gP (nu u8) [(15,true)]→All [Fn Try.prog 54 [(sD (JR v3)),(.one (.own 117 true ([13334,8000].length)))] [(117,some BA)] (vB w9) [(117,some BA)]],(mQ u8 v3 w2)=true]) {yb:=[(2,(decide (u8.2=0))),(6,true),(15,true)],an:=[(8, .frz [0].length (aC (au .i64) [0])),(10, .frz [1].length (aC (au .i64) [1])),(12, .arr [(⟨0,30,13334,[0]⟩:Short),(⟨1,50,8000,[1]⟩:Short)].length (jD 4 ni)),(13, .callR [116] (vB w2)),(17, .arr [13334,8000].length (aC (au .i64) [13334,8000])),(18, .callR [117] (vB w9))],fr:=[(12,116),(17,117)] } [] (ae ⟨(hb16),(hb16),(fun hg=> ⟨(rfl),((by intro i hi j hj;match i,j,hi,hj with|0,0,_,_=>rfl)),trivial⟩),(hb16),(hb16),(fun hg=> ⟨(rfl),((by intro i hi j hj;match i,j,hi,hj with|0,0,_,_=>rfl)),trivial⟩),(hb16),(hb16),(fun hg=> ⟨(rfl),(iq _ _ _),trivial⟩),(⟨rfl,trivial⟩),(hb16),(fun hg=> ⟨(Fn.uh (frz:=[116]) (p:=[[(⟨0,30,13334,[0]⟩:Short),(⟨1,50,8000,[1]⟩:Short)].length=[(⟨0,30,13334,[0]⟩:Short),(⟨1,50,8000,[1]⟩:Short)].length]) (Fn.le (args':=(MK u8)) (bX u8.1 [(⟨0,30,13334,[0]⟩:Short),(⟨1,50,8000,[1]⟩:Short)] hr_34) ⟨eG.refl _,eG.one (dO.d (gV.sl (.inl rfl) (by intro i hi j hj;match i,j,hi,hj with|0,0,_,_=>exact .refl _|0,1,_,_=>exact .refl _|0,2,_,_=>exact .refl _|0,3,_,_=>exact gV.nV|1,0,_,_=>exact .refl _|1,1,_,_=>exact .refl _|1,2,_,_=>exact .refl _|1,3,_,_=>exact gV.nV))),trivial⟩) (by kernel_rfl) ⟨rfl,trivial⟩ rfl),trivial⟩),(hb16),(hb17),(hb17),(fun hg=> ⟨(rfl),((by intro i hi j hj;match i,j,hi,hj with|0,0,_,_=>rfl|1,0,_,_=>rfl)),trivial⟩),(⟨rfl,trivial⟩),(hb17),(fun hg=> ⟨(Fn.uh (frz:=[117]) (p:=[[13334,8000].length=[13334,8000].length]) (Fn.le (args':=(N7 v3)) (dG v3.1 [13334,8000] hr_35) ⟨eG.one (dO.d gV.nV),eG.one (dO.d gV.nV),trivial⟩) (by kernel_rfl) ⟨rfl,trivial⟩ rfl),trivial⟩),(hb17),trivial⟩) (bM.le (st':=⟨[(0,(vB w9))],[]⟩) ⟨⟨⟨_,rfl,eO.v (eG.one (dO.of (congrArg (fun b=>CV.d (.bool b)) (BQ hb17))))⟩,trivial⟩,trivial⟩) ?_
        refine aR ?_
        obtain rfl:=oi h
        exact rl [(sB w9)]
       ·skip
        refine ri tT (WW u8 v3 w2) (eqs (decide (u8.2=0)) 3 [(bK u8 v3)=true,(bK u8 v3)=true,gP (nE u8) [(6,true)]→All [[0].length=1,aG 1 1 (jD 1 [(.int .i64 0)]) (aC (au .i64) [0])],(bK u8 v3)=true,(bK u8 v3)=true,gP (nE u8) [(6,true)]→All [[1].length=1,aG 1 1 (jD 1 [(.int .i64 1)]) (aC (au .i64) [1])],(bK u8 v3)=true,(bK u8 v3)=true,gP (nE u8) [(6,true)]→All [[(⟨0,30,13334,[0]⟩:Short),(⟨1,50,8000,[1]⟩:Short)].length=2,aG 2 4 (jD 4 ni) (jD 4 ni)],gP (nE u8) [(6,true)],(bK u8 v3)=true,gP (nE u8) [(6,true)]→All [Fn Try.prog 52 [(sD (Ir u8)),(.one (.own 120 true ([(⟨0,30,13334,[0]⟩:Short),(⟨1,50,8000,[1]⟩:Short)].length)))] agl (vB w2) agl],(bK u8 v3)=true,(mQ u8 v3 w2)=false, ¬ gP (nE u8) [(15,true)],(mQ u8 v3 w2)=false, ¬ gP (nE u8) [(15,true)],(mQ u8 v3 w2)=false, ¬ gP (nE u8) [(15,true)],(mQ u8 v3 w2)=false]) {yb:=[(2,(decide (u8.2=0))),(6,true),(15,false)],an:=[(8, .frz [0].length (aC (au .i64) [0])),(10, .frz [1].length (aC (au .i64) [1])),(12, .arr [(⟨0,30,13334,[0]⟩:Short),(⟨1,50,8000,[1]⟩:Short)].length (jD 4 ni)),(13, .callR [120] (vB w2)),(16, .skip),(17, .skip),(18, .skip)],fr:=[(12,120)] } [] (ae ⟨(hb16),(hb16),(fun hg=> ⟨(rfl),((by intro i hi j hj;match i,j,hi,hj with|0,0,_,_=>rfl)),trivial⟩),(hb16),(hb16),(fun hg=> ⟨(rfl),((by intro i hi j hj;match i,j,hi,hj with|0,0,_,_=>rfl)),trivial⟩),(hb16),(hb16),(fun hg=> ⟨(rfl),(iq _ _ _),trivial⟩),(⟨rfl,trivial⟩),(hb16),(fun hg=> ⟨(Fn.uh (frz:=[120]) (p:=[[(⟨0,30,13334,[0]⟩:Short),(⟨1,50,8000,[1]⟩:Short)].length=[(⟨0,30,13334,[0]⟩:Short),(⟨1,50,8000,[1]⟩:Short)].length]) (Fn.le (args':=(MK u8)) (bX u8.1 [(⟨0,30,13334,[0]⟩:Short),(⟨1,50,8000,[1]⟩:Short)] hr_34) ⟨eG.refl _,eG.one (dO.d (gV.sl (.inl rfl) (by intro i hi j hj;match i,j,hi,hj with|0,0,_,_=>exact .refl _|0,1,_,_=>exact .refl _|0,2,_,_=>exact .refl _|0,3,_,_=>exact gV.nV|1,0,_,_=>exact .refl _|1,1,_,_=>exact .refl _|1,2,_,_=>exact .refl _|1,3,_,_=>exact gV.nV))),trivial⟩) (by kernel_rfl) ⟨rfl,trivial⟩ rfl),trivial⟩),(hb16),(hb17),((fun h=>Bool.noConfusion (show false=true from h.1))),(hb17),((fun h=>Bool.noConfusion (show false=true from h.1))),(hb17),((fun h=>Bool.noConfusion (show false=true from h.1))),(hb17),trivial⟩) (bM.le (st':=⟨[(0,(vB false))],[]⟩) ⟨⟨⟨_,rfl,eO.v (eG.one (dO.of (congrArg (fun b=>CV.d (.bool b)) (BP hb17))))⟩,trivial⟩,trivial⟩) ?_
        refine aR ?_
        obtain rfl:=oi h
        exact rl [(sB false)]
      ·skip
       refine bI h (fun hb18 h=> ?_) (fun hb18 h=> ?_)
       ·skip
        refine bE h fun x0 hr_36 h=> ?_
        refine ri tT (WC u8 v3 x0) (eqs (decide (u8.2=0)) 3 [(bK u8 v3)=false, ¬ gP (jY u8) [(6,true)],(bK u8 v3)=false, ¬ gP (jY u8) [(6,true)],(bK u8 v3)=false, ¬ gP (jY u8) [(6,true)],(bK u8 v3)=false, ¬ gP (jY u8) [(6,true)],(bK u8 v3)=false, ¬ gP (jY u8) [(6,true)],(bK u8 v3)=false, ¬ gP (jY u8) [(6,true)],(bK u8 v3)=false, ¬ gP (jY u8) [(6,true)],(bK u8 v3)=false,(vM u8 v3)=true,(vM u8 v3)=true,gP (jY u8) [(15,true)]→All [[13334,8000].length=2,aG 2 1 (jD 1 Mw) (aC (au .i64) [13334,8000])],gP (jY u8) [(15,true)],(vM u8 v3)=true,gP (jY u8) [(15,true)]→All [Fn Try.prog 54 [(sD (JR v3)),(.one (.own 121 true ([13334,8000].length)))] [(121,some BA)] (vB x0) [(121,some BA)]],(vM u8 v3)=true]) {yb:=[(2,(decide (u8.2=0))),(6,false),(15,true)],an:=[(7, .skip),(8, .skip),(9, .skip),(10, .skip),(11, .skip),(12, .skip),(13, .skip),(17, .arr [13334,8000].length (aC (au .i64) [13334,8000])),(18, .callR [121] (vB x0))],fr:=[(17,121)] } [] (ae ⟨(hb16),((fun h=>Bool.noConfusion (show false=true from h.1))),(hb16),((fun h=>Bool.noConfusion (show false=true from h.1))),(hb16),((fun h=>Bool.noConfusion (show false=true from h.1))),(hb16),((fun h=>Bool.noConfusion (show false=true from h.1))),(hb16),((fun h=>Bool.noConfusion (show false=true from h.1))),(hb16),((fun h=>Bool.noConfusion (show false=true from h.1))),(hb16),((fun h=>Bool.noConfusion (show false=true from h.1))),(hb16),(hb18),(hb18),(fun hg=> ⟨(rfl),((by intro i hi j hj;match i,j,hi,hj with|0,0,_,_=>rfl|1,0,_,_=>rfl)),trivial⟩),(⟨rfl,trivial⟩),(hb18),(fun hg=> ⟨(Fn.uh (frz:=[121]) (p:=[[13334,8000].length=[13334,8000].length]) (Fn.le (args':=(N7 v3)) (dG v3.1 [13334,8000] hr_36) ⟨eG.one (dO.d gV.nV),eG.one (dO.d gV.nV),trivial⟩) (by kernel_rfl) ⟨rfl,trivial⟩ rfl),trivial⟩),(hb18),trivial⟩) (bM.le (st':=⟨[(0,(vB x0))],[]⟩) ⟨⟨⟨_,rfl,eO.v (eG.one (dO.of (congrArg (fun b=>CV.d (.bool b)) (BQ hb18))))⟩,trivial⟩,trivial⟩) ?_
        refine aR ?_
        obtain rfl:=oi h
        exact rl [(sB x0)]
       ·skip
        refine ri tT (Xf u8 v3) (VZ u8 v3) {yb:=[(2,(decide (u8.2=0))),(6,false),(15,false)],an:=[(7, .skip),(8, .skip),(9, .skip),(10, .skip),(11, .skip),(12, .skip),(13, .skip),(16, .skip),(17, .skip),(18, .skip)] } [] (ae ⟨(hb16),((fun h=>Bool.noConfusion (show false=true from h.1))),(hb16),((fun h=>Bool.noConfusion (show false=true from h.1))),(hb16),((fun h=>Bool.noConfusion (show false=true from h.1))),(hb16),((fun h=>Bool.noConfusion (show false=true from h.1))),(hb16),((fun h=>Bool.noConfusion (show false=true from h.1))),(hb16),((fun h=>Bool.noConfusion (show false=true from h.1))),(hb16),((fun h=>Bool.noConfusion (show false=true from h.1))),(hb16),(hb18),((fun h=>Bool.noConfusion (show false=true from h.1))),(hb18),((fun h=>Bool.noConfusion (show false=true from h.1))),(hb18),((fun h=>Bool.noConfusion (show false=true from h.1))),(hb18),trivial⟩) (bM.le (st':=⟨[(0,(vB false))],[]⟩) ⟨⟨⟨_,rfl,eO.v (eG.one (dO.of (congrArg (fun b=>CV.d (.bool b)) (BP hb18))))⟩,trivial⟩,trivial⟩) ?_
        refine aR ?_
        obtain rfl:=oi h
        exact rl [(sB false)]
def mG  :Bool→Exit→St→Prop:=
  fun r=>bB TT [.tmp 6] (vB r) []
section
variable (u1:(List (List Bool))) (u0:(ai × (List Bool) × Int)) (p:ah) (s_:State) (i:Int)
abbrev tX:Nat × TV:=(2,(vD (aK none 1 (Jl 1 aj) u1)))
abbrev yt:Nat × TV:=(7,(Zl u0))
abbrev wX:Nat × TV:=(8,(vD (Fq u0)))
abbrev aaN:St:=⟨[(tX u1),(bn p),(aV s_),(yt u0),(wX u0),(10,(vI i))],[]⟩
end
def qw (p:ah) (s_:State) (u1:(List (List Bool))) (u0:(ai × (List Bool) × Int)):Int→St:=
  fun i=>(aaN u1 u0 p s_ i)
def ql  :Unit→St:=
  fun _=> ⟨[],[]⟩
def gy (p:ah) (s_:State) (u0:(List (List Bool))) (u1:(ai × (List Bool) × Int)):(aM Int (Ex Unit Bool))→Exit→St→Prop:=
  LQ 0 [] (qw p s_ u0 u1) ql mG
section
variable (u2:(List (List Bool))) (p:ah) (s_:State) (u0:(ai × (List Bool) × Int)) (i:Int) (u1:(List Bool)) (b:Int)
abbrev aew:List (Nat × TV):=[(tX u2),(bn p),(aV s_),(yt u0),(wX u0),(10,(vI i)),(11,(vO 23 true u1.length)),(12,(vI b))]
abbrev Vk:List (Nat × Option Ob):=[(23,some (cu 4 1 aj u1))]
end
def qa (p:ah) (s_:State) (u2:(List (List Bool))) (u0:(ai × (List Bool) × Int)) (i:Int):((List Bool) × Int)→St:=
  fun zz=>match zz with|(u1,b)=> ⟨(aew u2 p s_ u0 i u1 b),(Vk u1)⟩
section
variable (u2:(List (List Bool))) (p:ah) (s_:State) (u0:(ai × (List Bool) × Int)) (i:Int) (u1:(List Bool))
abbrev agC:St:=⟨[(tX u2),(bn p),(aV s_),(yt u0),(wX u0),(10,(vI i)),(11,(vO 23 true u1.length))],(Vk u1)⟩
end
def qm (p:ah) (s_:State) (u2:(List (List Bool))) (u0:(ai × (List Bool) × Int)) (i:Int):(List Bool)→St:=
  fun u1=>(agC u2 p s_ u0 i u1)
def zV (p:ah) (s_:State) (u0:(List (List Bool))) (u1:(ai × (List Bool) × Int)) (i:Int):(aM ((List Bool) × Int) (Ex (List Bool) (aM Int (Ex Unit Bool))))→Exit→St→Prop:=
  LQ 2 [1] (qa p s_ u0 u1 i) (qm p s_ u0 u1 i) (gy p s_ u0 u1)
section
variable (u2:(List Bool))
abbrev OV:Nat × TV:=(11,(vD (aK (some true) 1 aj u2)))
end
def qd (p:ah) (s_:State) (u1:(List (List Bool))) (u0:(ai × (List Bool) × Int)) (i:Int) (u2:(List Bool)) (u3:(Int × Int)):Int→St:=
  fun b1=> ⟨[(tX u1),(bn p),(aV s_),(yt u0),(wX u0),(10,(vI i)),(OV u2),(13,(vI u3.1)),(15,(vI b1))],[]⟩
def qc (p:ah) (s_:State) (u1:(List (List Bool))) (u0:(ai × (List Bool) × Int)) (i:Int):Unit→St:=
  fun _=>(aaN u1 u0 p s_ i)
def zX (p:ah) (s_:State) (u0:(List (List Bool))) (u1:(ai × (List Bool) × Int)) (i:Int) (u2:(List Bool)) (u3:(Int × Int)):(aM Int (Ex Unit (aM Int (Ex Unit Bool))))→Exit→St→Prop:=
  LQ 4 [1] (qd p s_ u0 u1 i u2 u3) (qc p s_ u0 u1 i) (gy p s_ u0 u1)
section
variable (p:ah) (u0:(ai × (List Bool) × Int)) (u4:(List Bool)) (b:Int) (u1:(List (List Bool))) (i:Int) (s_:State) (u2:(Int × Int)) (u5:Int) (b1:Int)
abbrev WS:=(decide (60<(p.sources.length:Int)))
abbrev Ya:=(bif (WS p)then true else(decide (60<(p.links.length:Int))))
abbrev TD:=(bif (Ya p)then true else(decide (60<(p.racks.length:Int))))
abbrev Vi:=(bif (!decide (u0.2.2=0))then true else(!decide ((u0.2.1.length:Int)=p.buses)))
abbrev Zw:=(u4.set b.toNat (bif (at' (at' u1 i.toNat) b.toNat)then(!(at' s_.badBus b.toNat))else false))
abbrev aa0:=(aC aj (Zw u4 b u1 i s_))
abbrev afi:Nat × TV:=(11,(vO 23 true ((Zw u4 b u1 i s_).length)))
abbrev acF:List (Nat × Option Ob):=[(23,some (cu 4 1 aj (Zw u4 b u1 i s_)))]
abbrev RB:=(bif (decide (u2.1=u5))then(at' u0.2.1 b1.toNat)else false)
end
theorem zT (p:ah) (s_:State) (u1:(List (List Bool))) {r:Bool} (h:iT p s_ u1=some r):Fn Try.prog 9 [(.agg (k5 p)),(.agg (SG s_)),(sD (aK none 1 (Jl 1 aj) u1))] [] (vB r) []:=by
 refine fN tT Try.func9 rfl rfl fun B=> ?_
 show bJ _ _ _ _ _ _ (mG r) _
 unfold iT at h
 refine sz tT ⟨[(tX u1),(bn p),(aV s_)],[]⟩ {fr:=[(0,12),(1,13)] } [12,13] ?_
 refine aQ (aQ (bE h fun r_ hr_ h=> ?_))
 refine rg tT ⟨[(tX u1),(bn p),(aV s_),(37,(vB (bif (TD p)then true else(!decide (r_=0)))))],[]⟩ (eqs (WS p) 5 (eqs (Ya p) 5 (eqs (TD p) 3 ((gP (jl [(4,(WS p)),(10,(Ya p)),(16,(TD p))]) [(16,false)]→All [Fn Try.prog 12 (k91 s_ p) [] (vI r_) []])::(eqs (TD p) 2 []))))) {yb:=[(4,(WS p)),(10,(Ya p)),(16,(TD p))],an:=[(19, .call [] (vI r_) [])] } [] (ae (ae (ae ⟨(fun hg=> ⟨(eH p s_ (gI hr_ (aZ hg))),trivial⟩),(ae trivial)⟩))) ?_
 refine bI h (fun hb6 h=> ?_) (fun hb6 h=> ?_)
 ·refine ct hb6 ?_
  refine aQ (bE h fun u8 hr_1 h=> ?_)
  have q0:=yo hr_1
  refine rg tT ⟨[(6,(vB u8))],[]⟩ [_] {an:=[(0,cA q0 [])] } [] ⟨q0,trivial⟩ ?_
  refine aR ?_
  obtain rfl:=oi h
  exact rl [(sB u8)]
 ·refine cf hb6 ?_
  refine aP (aQ (bE h fun u0 hr_2 h=> ?_))
  have q0:=rk [(0,14),(1,15),(2,16),(3,17),(4,18)] (oh p s_ hr_2)
  refine ri tT ⟨[(tX u1),(bn p),(aV s_),(7,(vP 19 0)),(wX u0),(9,(vI u0.2.2))],[(aco u0)]⟩ [_,u0.2.1.length=u0.2.1.length,u0.1.sources.length=u0.1.sources.length,u0.1.links.length=u0.1.links.length,u0.1.racks.length=u0.1.racks.length] {an:=[(2,cA q0 [])],fr:=[(7,19)] } [14,15,16,17] ⟨q0,rfl,rfl,rfl,rfl,trivial⟩ (fz ⟨[(tX u1),(bn p),(aV s_),(yt u0),(wX u0),(9,(vI u0.2.2))],[]⟩ [19]) ?_
  refine aQ (aQ (bE h fun u6 hr_3 h=> ?_))
  refine rg tT ⟨[(tX u1),(bn p),(aV s_),(yt u0),(wX u0),(62,(vB (bif (Vi p u0)then true else(!decide (u6=0)))))],[]⟩ (eqs (!decide (u0.2.2=0)) 6 (eqs (Vi p u0) 5 ((gP (jl [(2,(!decide (u0.2.2=0))),(9,(Vi p u0))]) [(9,false)]→All [Fn Try.prog 49 [(.agg (k5 p)),(.agg (SG s_)),(.agg (Xv u0)),(sD (Fq u0))] [] (vI u6) []])::(eqs (Vi p u0) 2 [])))) {yb:=[(2,(!decide (u0.2.2=0))),(9,(Vi p u0))],an:=[(14, .call [] (vI u6) [])] } [] (ae (ae ⟨(fun hg=> ⟨(jw p s_ u0.1 u0.2.1 (gI hr_3 (aZ hg))),trivial⟩),(ae trivial)⟩)) ?_
  refine bI h (fun hb5 h=> ?_) (fun hb5 h=> ?_)
  ·refine ct hb5 ?_
   refine sz tT ⟨[(6,(vB false))],[]⟩ {} [] ?_
   refine aR ?_
   obtain rfl:=oi h
   exact rl [(sB false)]
  ·refine cf hb5 ?_
   refine aP (aQ (sz tT ⟨[(tX u1),(bn p),(aV s_),(yt u0),(wX u0),(10,(vI 0))],[]⟩ {} [] ?_))
   refine bE h fun y2 hy h=> ?_
   refine aL [] (qw p s_ u1 u0) ql mG hy (fun s f h=> ?_) ?_
   ·clear hy
    show bJ _ _ _ _ _ _ ((gy p s_ u1 u0) f) _
    unfold gG at h
    obtain⟨i,rfl⟩: ∃q,q=s:=⟨_,rfl⟩
    refine aQ (sg tT ⟨[(tX u1),(bn p),(aV s_),(yt u0),(wX u0),(10,(vI i)),(70,(vB (bif (decide (i<(u1.length:Int)))then(decide (i<20))else false)))],[]⟩ (eqs (decide (i<(u1.length:Int))) 3 []) {yb:=[(4,(decide (i<(u1.length:Int))))] } [] (ae trivial) ?_)
    refine bI h (fun hb4 h=> ?_) (fun hb4 h=> ?_)
    ·refine ct hb4 ?_
     refine aP (aQ (aB (aQ (aO h fun⟨a1,a2,a3⟩ h=> ?_))))
     refine rg tT ⟨[(tX u1),(bn p),(aV s_),(yt u0),(wX u0),(10,(vI i)),(11,(vO 23 true (WE p)))],[(23,some (WX p))]⟩ [_,(p.buses:Int)=p.buses,_,_,(IY p).length=p.buses.toNat,aG p.buses.toNat 1 (fun _ j=>[(.bool false)].getD j .nilp) (Q8 p)] {an:=[(2, .arr (IY p).length (Q8 p))],fr:=[(2,23)] } [] ⟨a1,rfl,a2,a3,(List.length_replicate),(dQ _ _ _ _ _ (fun j hj=>(match j,hj with|0,_=>rfl))),trivial⟩ ?_
     refine aQ (sz tT ⟨[(tX u1),(bn p),(aV s_),(yt u0),(wX u0),(10,(vI i)),(11,(vO 23 true (WE p))),(12,(vI 0))],[(23,some (WX p))]⟩ {} [] ?_)
     refine bE h fun y hy h=> ?_
     refine aL [1] (qa p s_ u1 u0 i) (qm p s_ u1 u0 i) (gy p s_ u1 u0) hy (fun s f h=> ?_) ?_
     ·clear hy
      show bJ _ _ _ _ _ _ ((zV p s_ u1 u0 i) f) _
      unfold gu at h
      obtain⟨u4,b⟩:=s
      refine aQ (aQ (aO h fun a1 h=> ?_))
      refine rg tT ⟨[(tX u1),(bn p),(aV s_),(yt u0),(wX u0),(10,(vI i)),(11,(vO 23 true u4.length)),(12,(vI b)),(88,(vB (bif (decide (b<p.buses))then(decide (b<((at' u1 i.toNat).length:Int)))else false)))],(Vk u4)⟩ (eqs (decide (b<p.buses)) 4 ((gP (jl [(4,(decide (b<p.buses)))]) [(4,true)]→All [(0:Int)≤i∧i<(u1.length:Int)])::(eqs (decide (b<p.buses)) 4 []))) {yb:=[(4,(decide (b<p.buses)))] } [] (ae ⟨(fun hg=> ⟨(a1 (aZ hg)),trivial⟩),(ae trivial)⟩) ?_
      refine bI h (fun hb h=> ?_) (fun hb h=> ?_)
      ·refine ct hb ?_
       refine aP (aQ (aB (aO h fun⟨a1,a2,a3,a4⟩ h=> ?_)))
       refine ri tT ⟨(aew u1 p s_ u0 i u4 b),[(23,some (.arr 4 1 u4.length (aa0 u4 b u1 i s_)))]⟩ (_::_::(eqs (at' (at' u1 i.toNat) b.toNat) 4 ((gP (jl [(9,(at' (at' u1 i.toNat) b.toNat))]) [(9,true)]→All [(0:Int)≤b∧b<(s_.badBus.length:Int)])::(eqs (at' (at' u1 i.toNat) b.toNat) 3 [_,_,aG u4.length 1 (jZ (aC aj u4) b.toNat 0 [(.bool (bif (at' (at' u1 i.toNat) b.toNat)then(!(at' s_.badBus b.toNat))else false))]) (aa0 u4 b u1 i s_)])))) {yb:=[(9,(at' (at' u1 i.toNat) b.toNat))],an:=[(18, .arr 0 (aa0 u4 b u1 i s_))] } [] ⟨a1,a2,(ae ⟨(fun hg=> ⟨(a3 (aZ hg)),trivial⟩),(ae ⟨a4,(tL a4),(bL _ _ _ _ _ _ _ _ rfl (fun j hj=>(match j,hj with|0,_=>rfl))),trivial⟩)⟩)⟩ (bM.le (st':=⟨[(tX u1),(bn p),(aV s_),(yt u0),(wX u0),(10,(vI i)),(afi u4 b u1 i s_),(12,(vI b))],(acF u4 b u1 i s_)⟩) ⟨⟨tR,tR,tR,tR,tR,tR,⟨_,rfl,eO.v (eG.one cW)⟩,tR,trivial⟩,⟨rfl,oW,trivial⟩⟩) ?_
       refine rz tT ⟨[(tX u1),(bn p),(aV s_),(yt u0),(wX u0),(10,(vI i)),(afi u4 b u1 i s_),(12,(k3 b))],(acF u4 b u1 i s_)⟩ {} [] ?_
       obtain rfl:=oi h
       exact lN
      ·refine cf hb ?_
       refine aI (fz (agC u1 p s_ u0 i u4) []) ?_
       refine aX ?_
       obtain rfl:=oi h
       exact lB
     ·clear hy
      cases y with
      |brk z=>
       obtain⟨u3,rfl⟩: ∃q,q=z:=⟨_,rfl⟩
       unfold gm
       refine⟨_, .refl, ?_⟩
       refine aQ (bE h fun u2 hr_4 h=> ?_)
       refine rg tT ⟨[(tX u1),(bn p),(aV s_),(yt u0),(wX u0),(10,(vI i)),(OV u3),(13,(vI u2.1)),(14,(vI u2.2))],[]⟩ [Fn Try.prog 45 [(.agg (k5 p)),(.agg (SG s_)),(.one (.own 23 true u3.length))] (Vk u3) (.iP [(sI u2.1),(sI u2.2)]) (Vk u3),u3.length=u3.length] {an:=[(3, .callR [23] (.iP [(sI u2.1),(sI u2.2)]))] } [23] ⟨(Fn.uh (frz:=[23]) (p:=[u3.length=u3.length]) (Fn.le (args':=[(.agg (k5 p)),(.agg (SG s_)),(sD (aK (some true) 1 aj u3))]) (ol p s_ u3 hr_4) ⟨eG.refl _,eG.refl _,eG.one (dO.d gV.nV),trivial⟩) (by kernel_rfl) ⟨rfl,trivial⟩ rfl),rfl,trivial⟩ ?_
       refine aQ (aQ (bE h fun u7 hr_5 h=> ?_))
       refine rg tT ⟨[(tX u1),(bn p),(aV s_),(yt u0),(wX u0),(10,(vI i)),(OV u3),(13,(vI u2.1)),(123,(vB (bif (!decide (u2.2=0))then true else(decide (u2.1<u7)))))],[]⟩ (eqs (!decide (u2.2=0)) 3 ((gP (jl [(2,(!decide (u2.2=0)))]) [(2,false)]→All [Fn Try.prog 41 (Qg u0) [] (vI u7) []])::(eqs (!decide (u2.2=0)) 2 []))) {yb:=[(2,(!decide (u2.2=0)))],an:=[(5, .call [] (vI u7) [])] } [] (ae ⟨(fun hg=> ⟨(dA u0.1 (gI hr_5 (aZ hg))),trivial⟩),(ae trivial)⟩) ?_
       refine bI h (fun hb3 h=> ?_) (fun hb3 h=> ?_)
       ·refine ct hb3 ?_
        refine sz tT ⟨[(6,(vB false))],[]⟩ {} [] ?_
        refine aR ?_
        obtain rfl:=oi h
        exact lR dY (dX 0) dW (bB.mk (.inr rfl) (p:=[]) (l:=[(sB false)]) (by kernel_rfl) trivial (eO.refl _) trivial)
       ·refine cf hb3 ?_
        refine aP (sz tT ⟨[(tX u1),(bn p),(aV s_),(yt u0),(wX u0),(10,(vI i)),(OV u3),(13,(vI u2.1)),(15,(vI 0))],[]⟩ {} [] ?_)
        refine bE h fun y1 hy h=> ?_
        refine aL [1] (qd p s_ u1 u0 i u3 u2) (qc p s_ u1 u0 i) (gy p s_ u1 u0) hy (fun s f h=> ?_) ?_
        ·clear hy
         show bJ _ _ _ _ _ _ ((zX p s_ u1 u0 i u3 u2) f) _
         unfold gD at h
         obtain⟨b1,rfl⟩: ∃q,q=s:=⟨_,rfl⟩
         refine aQ (sz tT ⟨[(tX u1),(bn p),(aV s_),(yt u0),(wX u0),(10,(vI i)),(OV u3),(13,(vI u2.1)),(15,(vI b1)),(127,(vB (decide (b1<p.buses))))],[]⟩ {} [] ?_)
         refine bI h (fun hb2 h=> ?_) (fun hb2 h=> ?_)
         ·refine ct hb2 ?_
          refine aP (aQ (aB (aQ (bE h fun u5 hr_6 h=> ?_))))
          refine aO h fun⟨a1,a2⟩ h=> ?_
          have q0:=dA u0.1 hr_6
          refine rg tT ⟨[(tX u1),(bn p),(aV s_),(yt u0),(wX u0),(10,(vI i)),(OV u3),(13,(vI u2.1)),(15,(vI b1)),(146,(vB (bif (RB u0 u2 u5 b1)then(!(at' u3 b1.toNat))else false)))],[]⟩ (_::(eqs (decide (u2.1=u5)) 3 ((gP (jl [(4,(decide (u2.1=u5))),(10,(RB u0 u2 u5 b1))]) [(4,true)]→All [(0:Int)≤b1∧b1<(u0.2.1.length:Int)])::(eqs (decide (u2.1=u5)) 2 (eqs (RB u0 u2 u5 b1) 3 ((gP (jl [(4,(decide (u2.1=u5))),(10,(RB u0 u2 u5 b1))]) [(10,true)]→All [(0:Int)≤b1∧b1<(u3.length:Int)])::(eqs (RB u0 u2 u5 b1) 3 []))))))) {yb:=[(4,(decide (u2.1=u5))),(10,(RB u0 u2 u5 b1))],an:=[(2,cA q0 [])] } [] ⟨q0,(ae ⟨(fun hg=> ⟨(a1 (aZ hg)),trivial⟩),(ae (ae ⟨(fun hg=> ⟨(a2 (aZ hg)),trivial⟩),(ae trivial)⟩))⟩)⟩ ?_
          refine bI h (fun hb1 h=> ?_) (fun hb1 h=> ?_)
          ·refine ct hb1 ?_
           refine sz tT ⟨[(6,(vB false))],[]⟩ {} [] ?_
           refine aR ?_
           obtain rfl:=oi h
           exact lR dY (dX 4) dW (lR dY (dX 0) dW (bB.mk (.inr rfl) (p:=[]) (l:=[(sB false)]) (by kernel_rfl) trivial (eO.refl _) trivial))
          ·refine cf hb1 ?_
           refine aP (rz tT ⟨[(tX u1),(bn p),(aV s_),(yt u0),(wX u0),(10,(vI i)),(OV u3),(13,(vI u2.1)),(15,(k3 b1))],[]⟩ {} [] ?_)
           obtain rfl:=oi h
           exact lN
         ·refine cf hb2 ?_
          refine aI (fz (aaN u1 u0 p s_ i) []) ?_
          refine aX ?_
          obtain rfl:=oi h
          exact lB
        ·clear hy
         cases y1 with
         |brk z=>
          unfold gm
          refine⟨_, .refl, ?_⟩
          refine rz tT ⟨[(tX u1),(bn p),(aV s_),(yt u0),(wX u0),(10,(k3 i))],[]⟩ {} [] ?_
          obtain rfl:=oi h
          exact lN
         |ret v=>
          obtain rfl:=oi h
          unfold gm
          intro e st hn ha hR
          cases e with
          |normal=>exact absurd rfl hn
          |exit id=>simp only [qA (b:=1) ha rfl,cond_false];exact hR
          |goto l=>exact hR
          |ret=>exact hR
          |panic c=>exact hR
          |outgrown=>exact hR
      |ret v=>
       obtain rfl:=oi h
       unfold gm
       intro e st hn ha hR
       cases e with
       |normal=>exact absurd rfl hn
       |exit id=>simp only [qA (b:=1) ha rfl,cond_false];exact hR
       |goto l=>exact hR
       |ret=>exact hR
       |panic c=>exact hR
       |outgrown=>exact hR
    ·refine cf hb4 ?_
     refine aI (fz ⟨[],[]⟩ []) ?_
     refine aX ?_
     obtain rfl:=oi h
     exact lB
   ·clear hy
    cases y2 with
    |brk z=>
     unfold gm
     refine⟨_, .refl, ?_⟩
     refine aQ (bE h fun u9 hr_7 h=> ?_)
     have q0:=yo hr_7
     refine rg tT ⟨[(6,(vB u9))],[]⟩ [_] {an:=[(0,cA q0 [])] } [] ⟨q0,trivial⟩ ?_
     refine aR ?_
     obtain rfl:=oi h
     exact rl [(sB u9)]
    |ret v=>
     obtain rfl:=oi h
     unfold gm
     intro e st hn ha hR
     cases e with
     |normal=>exact absurd rfl hn
     |exit id=>exact hR
     |goto l=>exact hR
     |ret=>exact hR
     |panic c=>exact hR
     |outgrown=>exact hR
end
end Sg
