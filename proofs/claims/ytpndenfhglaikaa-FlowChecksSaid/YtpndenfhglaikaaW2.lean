import Derived.Test.YtpndenfhglaikaaW1
set_option linter.all false
namespace Sg
open Go Go.Proofs
set_option maxRecDepth 20000
noncomputable section
section
variable (a:(List Short)) (i:Int) (b:(List Short))
abbrev Tn:=(!decide (((at' a i.toNat).source)=((at' b i.toNat).source)))
abbrev Tm:=(bif (Tn a i b)then true else(!decide (((at' a i.toNat).fT)=((at' b i.toNat).fT))))
abbrev Qv:=(bif (Tm a i b)then true else(!decide (((at' a i.toNat).amps)=((at' b i.toNat).amps))))
abbrev QU:=(fQ [(11,(Tn a i b)),(24,(Tm a i b)),(37,(Qv a i b))])
end
theorem bS (a:(List Short)) (b:(List Short)) {r:Bool} (h:fM a b=some r):Fn Try.prog 52 [(sD (aU none 4 Short.cell a)),(sD (aU none 4 Short.cell b))] [] (vB r) []:=by
 refine fN tT Try.func52 rfl rfl fun B=> ?_
 show bn _ _ _ _ _ _ (mG r) _
 unfold fM at h
 refine sz tT ⟨[(Qr a),(I6 b)],[]⟩ {} [] ?_
 refine aQ (sz tT ⟨[(Qr a),(I6 b),(10,(vB (!decide ((a.length:Int)=(b.length:Int)))))],[]⟩ {} [] ?_)
 refine bI h (fun hb2 h=> ?_) (fun hb2 h=> ?_)
 ·refine ct hb2 ?_
  refine sz tT ⟨[(4,(vB false))],[]⟩ {} [] ?_
  refine aR ?_
  obtain rfl:=oi h
  exact rl [(sB false)]
 ·refine cf hb2 ?_
  refine aP (aQ (sz tT ⟨[(Qr a),(I6 b),(5,(vI 0))],[]⟩ {} [] ?_))
  refine bE h fun y hy h=> ?_
  refine aL [] (qx a b) qw mG hy (fun s f h=> ?_) ?_
  ·clear hy
   show bn _ _ _ _ _ _ ((Bh a b) f) _
   unfold qp at h
   obtain⟨i,rfl⟩: ∃q,q=s:=⟨_,rfl⟩
   refine aQ (sz tT ⟨[(Qr a),(I6 b),(5,(vI i)),(14,(vB (decide (i<(a.length:Int)))))],[]⟩ {} [] ?_)
   refine bI h (fun hb1 h=> ?_) (fun hb1 h=> ?_)
   ·refine ct hb1 ?_
    refine aP (aQ (aB (aQ (bE h fun r_ hr_ h=> ?_))))
    refine aO h fun⟨a1,a2,a3,a4,a5,a6,a7,a8⟩ h=> ?_
    refine dg tT mX ⟨[(Qr a),(I6 b),(5,(vI i)),(67,(vB (bif (Qv a i b)then true else(!r_))))],[]⟩ (_::_::(eqs (Tn a i b) 3 ((gP (QU a i b) [(11,false)]→All [(0:Int)≤i∧i<(a.length:Int)])::(eqs (Tn a i b) 5 ((gP (QU a i b) [(11,false)]→All [(0:Int)≤i∧i<(b.length:Int)])::(eqs (Tn a i b) 4 (eqs (Tm a i b) 3 ((gP (QU a i b) [(24,false)]→All [(0:Int)≤i∧i<(a.length:Int)])::(eqs (Tm a i b) 5 ((gP (QU a i b) [(24,false)]→All [(0:Int)≤i∧i<(b.length:Int)])::(eqs (Tm a i b) 4 (eqs (Qv a i b) 3 ((gP (QU a i b) [(37,false)]→All [(0:Int)≤i∧i<(a.length:Int)])::(eqs (Qv a i b) 5 ((gP (QU a i b) [(37,false)]→All [(0:Int)≤i∧i<(b.length:Int)])::(eqs (Qv a i b) 3 ((gP (QU a i b) [(37,false)]→All [Fn Try.prog 54 [(sD (Zu a i)),(sD (Zu b i))] [] (vB r_) []])::(eqs (Qv a i b) 2 [])))))))))))))))))) {yb:=[(11,(Tn a i b)),(24,(Tm a i b)),(37,(Qv a i b))],an:=[(48, .call [] (vB r_) [])] } [] ⟨a1,a2,(ae ⟨(fun hg=> ⟨(a3 (aM hg)),trivial⟩),(ae ⟨(fun hg=> ⟨(a4 (aM hg)),trivial⟩),(ae (ae ⟨(fun hg=> ⟨(a5 (aM hg)),trivial⟩),(ae ⟨(fun hg=> ⟨(a6 (aM hg)),trivial⟩),(ae (ae ⟨(fun hg=> ⟨(a7 (aM hg)),trivial⟩),(ae ⟨(fun hg=> ⟨(a8 (aM hg)),trivial⟩),(ae ⟨(fun hg=> ⟨(dz ((at' a i.toNat).links) ((at' b i.toNat).links) (dU hr_ (aM hg))),trivial⟩),(ae trivial)⟩)⟩)⟩))⟩)⟩))⟩)⟩)⟩ ?_
    refine bI h (fun hb h=> ?_) (fun hb h=> ?_)
    ·refine ct hb ?_
     refine sz tT ⟨[(4,(vB false))],[]⟩ {} [] ?_
     refine aR ?_
     obtain rfl:=oi h
     exact lR bD (bC 0) bG (aW.mk (.inr rfl) (p:=[]) (l:=[(sB false)]) (by kernel_rfl) trivial (dh.refl _) trivial)
    ·refine cf hb ?_
     refine aP (rz tT ⟨[(Qr a),(I6 b),(k2 i)],[]⟩ {} [] ?_)
     obtain rfl:=oi h
     exact lN
   ·refine cf hb1 ?_
    refine aI (fz ⟨[],[]⟩ []) ?_
    refine aX ?_
    obtain rfl:=oi h
    exact lB
  ·clear hy
   cases y with
   |brk z=>
    unfold dA
    refine⟨_, .refl, ?_⟩
    refine sz tT ⟨[(4,(vB true))],[]⟩ {} [] ?_
    refine aR ?_
    obtain rfl:=oi h
    exact rl [(sB true)]
   |ret v=>
    obtain rfl:=oi h
    unfold dA
    intro e st hn ha hR
    cases e with
    |normal=>exact absurd rfl hn
    |exit id=>exact hR
    |goto l=>exact hR
    |ret=>exact hR
    |panic c=>exact hR
    |outgrown=>exact hR
def mr (u0:(List Int)):(ah × State)→Exit→St→Prop:=
  fun r=>aW TT [.cell 2 26, .cell 3 29] (.iq [(.agg [(cI r.1.buses),(.d (aU none 5 Source.cell r.1.sources)),(.d (aU none 6 Link.cell r.1.links)),(.d (aU none 4 ay.cell r.1.racks))]),(.agg [(.d (aU none 1 aj r.2.closed)),(.d (aU none 1 aj r.2.locked)),(.d (aU none 1 aj r.2.badLink)),(.d (aU none 1 aj r.2.on_)),(.d (aU none 1 aj r.2.badSource)),(.d (aU none 1 aj r.2.earthed)),(.d (aU none 1 aj r.2.badBus))])]) (uW u0)
section
variable (u0:(List Int)) (p3:(List ay))
abbrev Nr:Nat × Option Ob:=(21,some (.cells 26 [(cI 0),(.d nS),(.d nS),(.d nS)]))
abbrev NA:Nat × Option Ob:=(22,some (.cells 29 [(.d nS),(.d nS),(.d nS),(.d nS),(.d nS),(.d nS),(.d nS)]))
abbrev Qj:Nat × Option Ob:=(23,some (bU 126 5 Source.cell [(⟨0,1,500,0,20⟩:Source),(⟨2,2,300,0,40⟩:Source)]))
abbrev Ry:Nat × Option Ob:=(24,some (bU 53 6 Link.cell [(⟨0,1,3,400,10,([]:List iL)⟩:Link),(⟨1,2,3,400,10,([]:List iL)⟩:Link)]))
abbrev Zd:List (Nat × Option Ob):=[(GQ u0),Nr,NA,Qj,Ry,(25,some (.cells 26 [(cI 3),(.own 23 true ([(⟨0,1,500,0,20⟩:Source),(⟨2,2,300,0,40⟩:Source)].length)),(.own 24 true ([(⟨0,1,3,400,10,([]:List iL)⟩:Link),(⟨1,2,3,400,10,([]:List iL)⟩:Link)].length)),(.own 27 false p3.length)])),(27,some (bU 166 4 ay.cell p3))]
end
def qo (u0:(List Int)):((List ay) × Int)→St:=
  fun zz=>match zz with|(p3,i)=> ⟨[(Dy u0),(2,(vP 21 0)),(3,(vP 22 0)),(4,(vP 25 0)),(5,(vI i))],(Zd u0 p3)⟩
section
variable (u1:(List Int)) (u0:(List ay))
abbrev afI:St:=⟨[(2,(vP 21 0)),(3,(vP 22 0)),(4,(vP 25 0))],(Zd u1 u0)⟩
end
def qB (u1:(List Int)):(List ay)→St:=
  fun u0=>(afI u1 u0)
def Bl (u0:(List Int)):(aJ ((List ay) × Int) (Ex (List ay) (ah × State)))→Exit→St→Prop:=
  LQ 0 [] (qo u0) (qB u0) (mr u0)
section
variable (u0:(List Int)) (i:Int) (p3:(List ay))
abbrev aiu:List CV:=[(cI 3),(.own 23 true ([(⟨0,1,500,0,20⟩:Source),(⟨2,2,300,0,40⟩:Source)].length)),(.own 24 true ([(⟨0,1,3,400,10,([]:List iL)⟩:Link),(⟨1,2,3,400,10,([]:List iL)⟩:Link)].length)),(.d nS)]
abbrev ad4:Nat × Option Ob:=(25,some (.cells 26 aiu))
abbrev aeY:List (Nat × Option Ob):=[(GQ u0),Nr,NA,Qj,Ry,ad4]
abbrev XZ:List (Nat × TV):=[(Dy u0),(2,(vP 21 0)),(3,(vP 22 0)),(4,(vP 25 0)),(5,(vI 0))]
abbrev TK:=(⟨(⟨1,(-1)⟩:af),(at' u0 i.toNat),1⟩:ay)
abbrev OZ:=(p3++[(TK u0 i)])
abbrev aeL:List (Nat × Option Ob):=[(GQ u0),Nr,NA,Qj,Ry,(25,some (.cells 26 [(cI 3),(.own 23 true ([(⟨0,1,500,0,20⟩:Source),(⟨2,2,300,0,40⟩:Source)].length)),(.own 24 true ([(⟨0,1,3,400,10,([]:List iL)⟩:Link),(⟨1,2,3,400,10,([]:List iL)⟩:Link)].length)),(.own 33 false ((OZ u0 i p3).length))])),(33,some (bU 166 4 ay.cell (OZ u0 i p3)))]
abbrev abv:=(aC ay.cell [(TK u0 i)])
abbrev adq:List (Nat × TV):=[(Dy u0),(2,(vP 21 0)),(3,(vP 22 0)),(4,(vP 25 0)),(k2 i)]
abbrev aeu:DV:=(aU (some true) 5 Source.cell [(⟨0,1,500,0,20⟩:Source),(⟨2,2,300,0,40⟩:Source)])
abbrev afn:DV:=(aU (some true) 6 Link.cell [(⟨0,1,3,400,10,([]:List iL)⟩:Link),(⟨1,2,3,400,10,([]:List iL)⟩:Link)])
abbrev ZE:DV:=(aU (some true) 1 aj [true,true])
abbrev Tj:DV:=(aU (some true) 1 aj (List.replicate 2 (false:Bool)))
abbrev ZF:DV:=(aU (some true) 1 aj (List.replicate 3 (false:Bool)))
abbrev afC:DV:=(aU none 5 Source.cell [(⟨0,1,500,0,20⟩:Source),(⟨2,2,300,0,40⟩:Source)])
abbrev ads:DV:=(aU none 6 Link.cell [(⟨0,1,3,400,10,([]:List iL)⟩:Link),(⟨1,2,3,400,10,([]:List iL)⟩:Link)])
abbrev SL:DV:=(aU none 1 aj (List.replicate 2 (false:Bool)))
abbrev YD:DV:=(aU none 1 aj (List.replicate 3 (false:Bool)))
end
theorem qA (u0:(List Int)) {r:(ah × State)} (h:ow u0=some r):Fn Try.prog 73 [(.one (.own 0 true u0.length))] (uW u0) (.iq [(.agg [(cI r.1.buses),(.d (aU none 5 Source.cell r.1.sources)),(.d (aU none 6 Link.cell r.1.links)),(.d (aU none 4 ay.cell r.1.racks))]),(.agg [(.d (aU none 1 aj r.2.closed)),(.d (aU none 1 aj r.2.locked)),(.d (aU none 1 aj r.2.badLink)),(.d (aU none 1 aj r.2.on_)),(.d (aU none 1 aj r.2.badSource)),(.d (aU none 1 aj r.2.earthed)),(.d (aU none 1 aj r.2.badBus))])]) (uW u0):=by
 refine fN tT Try.func73 rfl rfl fun B=> ?_
 show bn _ _ _ _ _ _ ((mr u0) r) _
 unfold ow at h
 refine sz tT ⟨[(Dy u0),(2,(vP 21 0)),(3,(vP 22 0))],[(GQ u0),Nr,NA]⟩ {fr:=[(0,21),(1,22)] } [] ?_
 refine si tT ⟨[(Dy u0),(2,(vP 21 0)),(3,(vP 22 0)),(4,(vP 25 0))],[(GQ u0),Nr,NA,Qj,(24,some (.arr 53 6 [(⟨0,1,3,400,10,([]:List iL)⟩:Link),(⟨1,2,3,400,10,([]:List iL)⟩:Link)].length (iZ 6 [(.int .i64 0),(.int .i64 1),(.int .i64 3),(.int .i64 400),(.int .i64 10),nS,(.int .i64 1),(.int .i64 2),(.int .i64 3),(.int .i64 400),(.int .i64 10),nS]))),ad4]⟩ [[(⟨0,1,500,0,20⟩:Source),(⟨2,2,300,0,40⟩:Source)].length=2,aH 2 5 (iZ 5 [(.int .i64 0),(.int .i64 1),(.int .i64 500),(.int .i64 0),(.int .i64 20),(.int .i64 2),(.int .i64 2),(.int .i64 300),(.int .i64 0),(.int .i64 40)]) (aC Source.cell [(⟨0,1,500,0,20⟩:Source),(⟨2,2,300,0,40⟩:Source)]),[(⟨0,1,3,400,10,([]:List iL)⟩:Link),(⟨1,2,3,400,10,([]:List iL)⟩:Link)].length=2,aH 2 6 (iZ 6 [(.int .i64 0),(.int .i64 1),(.int .i64 3),(.int .i64 400),(.int .i64 10),nS,(.int .i64 1),(.int .i64 2),(.int .i64 3),(.int .i64 400),(.int .i64 10),nS]) (iZ 6 [(.int .i64 0),(.int .i64 1),(.int .i64 3),(.int .i64 400),(.int .i64 10),nS,(.int .i64 1),(.int .i64 2),(.int .i64 3),(.int .i64 400),(.int .i64 10),nS])] {an:=[(2, .arr [(⟨0,1,500,0,20⟩:Source),(⟨2,2,300,0,40⟩:Source)].length (aC Source.cell [(⟨0,1,500,0,20⟩:Source),(⟨2,2,300,0,40⟩:Source)])),(5, .arr [(⟨0,1,3,400,10,([]:List iL)⟩:Link),(⟨1,2,3,400,10,([]:List iL)⟩:Link)].length (iZ 6 [(.int .i64 0),(.int .i64 1),(.int .i64 3),(.int .i64 400),(.int .i64 10),nS,(.int .i64 1),(.int .i64 2),(.int .i64 3),(.int .i64 400),(.int .i64 10),nS]))],fr:=[(2,23),(5,24),(7,25)] } [] ⟨(rfl),((by intro i hi j hj;match i,j,hi,hj with|0,0,_,_=>rfl|0,1,_,_=>rfl|0,2,_,_=>rfl|0,3,_,_=>rfl|0,4,_,_=>rfl|1,0,_,_=>rfl|1,1,_,_=>rfl|1,2,_,_=>rfl|1,3,_,_=>rfl|1,4,_,_=>rfl)),(rfl),(fJ _ _ _),trivial⟩ (bH.le (st':=⟨[(Dy u0),(2,(vP 21 0)),(3,(vP 22 0)),(4,(vP 25 0))],(aeY u0)⟩) ⟨⟨tR,tR,tR,tR,trivial⟩,(hN 4 ⟨rfl,Sn (by intro i hi j hj;match i,j,hi,hj with|0,0,_,_=>exact .refl _|0,1,_,_=>exact .refl _|0,2,_,_=>exact .refl _|0,3,_,_=>exact .refl _|0,4,_,_=>exact .refl _|0,5,_,_=>exact gG.nil'|1,0,_,_=>exact .refl _|1,1,_,_=>exact .refl _|1,2,_,_=>exact .refl _|1,3,_,_=>exact .refl _|1,4,_,_=>exact .refl _|1,5,_,_=>exact gG.nil'),(.refl _)⟩)⟩) ?_
 refine aQ (sz tT ⟨(XZ u0),(aeY u0)⟩ {} [] ?_)
 refine bE h fun y hy h=> ?_
 refine aI (.trans (bH.Ac (E:=0) (esz:=0) (E0:=26) (cs:=aiu) (p:=25) (q:=3) (b:=34) (esz0:=0) (el0:=fun _ _=> .nilp) (ob:= .arr 166 4 0 (aC ay.cell ([]:List ay))) (fun _ _ _ _ h=> .inl ⟨h,rfl⟩) (by kernel_rfl) (by kernel_rfl) (by kernel_rfl)) (.trans (fz ⟨(XZ u0),[(GQ u0),Nr,NA,Qj,Ry,(25,some (.cells 26 [(cI 3),(.own 23 true ([(⟨0,1,500,0,20⟩:Source),(⟨2,2,300,0,40⟩:Source)].length)),(.own 24 true ([(⟨0,1,3,400,10,([]:List iL)⟩:Link),(⟨1,2,3,400,10,([]:List iL)⟩:Link)].length)),(.own 34 false 0)])),(34,some (.arr 166 4 0 (aC ay.cell ([]:List ay))))]⟩ []) (.trans (bH.fin (st':=⟨(XZ u0),[(GQ u0),Nr,NA,Qj,Ry,(25,some (.cells 26 [(cI 3),(.own 23 true ([(⟨0,1,500,0,20⟩:Source),(⟨2,2,300,0,40⟩:Source)].length)),(.own 24 true ([(⟨0,1,3,400,10,([]:List iL)⟩:Link),(⟨1,2,3,400,10,([]:List iL)⟩:Link)].length)),(.own 27 false 0)])),(27,some (.arr 166 4 0 (aC ay.cell ([]:List ay))))]⟩) (cs:=[]) ⟨[],[(0,0),(21,21),(22,22),(23,23),(24,24),(25,25),(34,27)]⟩ [0,2,3,4,5] (by kernel_rfl) trivial) (bH.le (st':=⟨(XZ u0),[(GQ u0),Nr,NA,Qj,Ry,(25,some (.cells 26 [(cI 3),(.own 23 true ([(⟨0,1,500,0,20⟩:Source),(⟨2,2,300,0,40⟩:Source)].length)),(.own 24 true ([(⟨0,1,3,400,10,([]:List iL)⟩:Link),(⟨1,2,3,400,10,([]:List iL)⟩:Link)].length)),(.own 27 false (([]:List ay).length))])),(27,some (bU 166 4 ay.cell ([]:List ay)))]⟩) ⟨⟨tR,tR,tR,tR,tR,trivial⟩,(hN 5 ⟨rfl,bA ⟨dD.refl _,dD.refl _,dD.refl _,cW,trivial⟩,⟨rfl,oW,trivial⟩⟩)⟩)))) ?_
 refine aL [] (qo u0) (qB u0) (mr u0) hy (fun s f h=> ?_) ?_
 ·clear hy
  show bn _ _ _ _ _ _ ((Bl u0) f) _
  unfold vU at h
  obtain⟨p3,i⟩:=s
  refine aQ (sz tT ⟨[(Dy u0),(2,(vP 21 0)),(3,(vP 22 0)),(4,(vP 25 0)),(5,(vI i)),(17,(Xg i u0))],(Zd u0 p3)⟩ {} [] ?_)
  refine bI h (fun hb h=> ?_) (fun hb h=> ?_)
  ·refine ct hb ?_
   refine aP (aQ (aB (sz tT ⟨[(Dy u0),(2,(vP 21 0)),(3,(vP 22 0)),(4,(vP 25 0)),(5,(vI i)),(6,(vO 27 false p3.length))],(Zd u0 p3)⟩ {} [] ?_)))
   refine aO h fun⟨a1,a2,a3⟩ h=> ?_
   refine rg tT ⟨[(Dy u0),(2,(vP 21 0)),(3,(vP 22 0)),(4,(vP 25 0)),(5,(vI i))],(aeL u0 i p3)⟩ [_,_,[(TK u0 i)].length=1,aH 1 4 (iZ 4 [(.int .i64 1),(.int .i64 (-1)),(.int .i64 (at' u0 i.toNat)),(.int .i64 1)]) (abv u0 i),p3.length=p3.length,_,_,(OZ u0 i p3).length=p3.length+[(TK u0 i)].length,aH (p3.length+[(TK u0 i)].length) 4 (Eg (aC ay.cell p3) p3.length (abv u0 i)) (aC ay.cell (OZ u0 i p3))] {an:=[(7, .arr [(TK u0 i)].length (abv u0 i)),(8, .arr (OZ u0 i p3).length (aC ay.cell (OZ u0 i p3)))],fr:=[(7,32),(8,33)] } [] ⟨a1,(tL a1),(rfl),((by intro i hi j hj;match i,j,hi,hj with|0,0,_,_=>rfl|0,1,_,_=>rfl|0,2,_,_=>rfl|0,3,_,_=>rfl)),rfl,a2,a3,(List.length_append),(kS _ _ _ _),trivial⟩ ?_
   refine ri tT ⟨(adq u0 i),(aeL u0 i p3)⟩ [] {} [] trivial (bH.fin (st':=⟨(adq u0 i),[(GQ u0),Nr,NA,Qj,Ry,(25,some (.cells 26 [(cI 3),(.own 23 true ([(⟨0,1,500,0,20⟩:Source),(⟨2,2,300,0,40⟩:Source)].length)),(.own 24 true ([(⟨0,1,3,400,10,([]:List iL)⟩:Link),(⟨1,2,3,400,10,([]:List iL)⟩:Link)].length)),(.own 27 false ((OZ u0 i p3).length))])),(27,some (bU 166 4 ay.cell (OZ u0 i p3)))]⟩) (cs:=[]) ⟨[],[(0,0),(21,21),(22,22),(23,23),(24,24),(25,25),(33,27)]⟩ [0,2,3,4,5] (by kernel_rfl) trivial) ?_
   obtain rfl:=oi h
   exact lN
  ·refine cf hb ?_
   refine aI (fz (afI u0 p3) []) ?_
   refine aX ?_
   obtain rfl:=oi h
   exact lB
 ·clear hy
  cases y with
  |brk z=>
   obtain⟨u1,rfl⟩: ∃q,q=z:=⟨_,rfl⟩
   unfold dA
   refine⟨_, .refl, ?_⟩
   refine aQ (aO h fun⟨a1,a2,a3,a4,a5,a6⟩ h=> ?_)
   refine di tT mX ⟨[(2,(vP 21 0)),(3,(vP 22 0))],[(GQ u0),(21,some (.cells 26 [(cI 3),(.d aeu),(.d afn),(.d (VZ u1))])),(22,some (.cells 29 [(.d ZE),(.d Tj),(.d Tj),(.d ZE),(.d Tj),(.d ZF),(.d ZF)]))]⟩ (([true,true].length=2)::aH 2 1 (iZ 1 [(.bool true),(.bool true)]) (aC aj [true,true])::_::((2:Int)=2)::_::_::((List.replicate 2 (false:Bool)).length=2)::aH 2 1 (fun _ j=>[(.bool false)].getD j .nilp) (aC aj (List.replicate 2 (false:Bool)))::_::((2:Int)=2)::_::_::((List.replicate 2 (false:Bool)).length=2)::aH 2 1 (fun _ j=>[(.bool false)].getD j .nilp) (aC aj (List.replicate 2 (false:Bool)))::([true,true].length=2)::aH 2 1 (iZ 1 [(.bool true),(.bool true)]) (aC aj [true,true])::_::((2:Int)=2)::_::_::((List.replicate 2 (false:Bool)).length=2)::aH 2 1 (fun _ j=>[(.bool false)].getD j .nilp) (aC aj (List.replicate 2 (false:Bool)))::_::((3:Int)=3)::_::_::((List.replicate 3 (false:Bool)).length=3)::aH 3 1 (fun _ j=>[(.bool false)].getD j .nilp) (aC aj (List.replicate 3 (false:Bool)))::_::((3:Int)=3)::_::_::((List.replicate 3 (false:Bool)).length=3)::aH 3 1 (fun _ j=>[(.bool false)].getD j .nilp) (aC aj (List.replicate 3 (false:Bool)))::([(⟨0,1,500,0,20⟩:Source),(⟨2,2,300,0,40⟩:Source)].length=[(⟨0,1,500,0,20⟩:Source),(⟨2,2,300,0,40⟩:Source)].length)::([(⟨0,1,3,400,10,([]:List iL)⟩:Link),(⟨1,2,3,400,10,([]:List iL)⟩:Link)].length=[(⟨0,1,3,400,10,([]:List iL)⟩:Link),(⟨1,2,3,400,10,([]:List iL)⟩:Link)].length)::(u1.length=u1.length)::([true,true].length=[true,true].length)::(eqs (List.replicate 2 (false:Bool)).length 2 (([true,true].length=[true,true].length)::((List.replicate 2 (false:Bool)).length=(List.replicate 2 (false:Bool)).length)::(eqs (List.replicate 3 (false:Bool)).length 2 [])))) {an:=[(1, .arr [true,true].length (aC aj [true,true])),(2, .arr (List.replicate 2 (false:Bool)).length (aC aj (List.replicate 2 (false:Bool)))),(3, .arr (List.replicate 2 (false:Bool)).length (aC aj (List.replicate 2 (false:Bool)))),(4, .arr [true,true].length (aC aj [true,true])),(5, .arr (List.replicate 2 (false:Bool)).length (aC aj (List.replicate 2 (false:Bool)))),(6, .arr (List.replicate 3 (false:Bool)).length (aC aj (List.replicate 3 (false:Bool)))),(7, .arr (List.replicate 3 (false:Bool)).length (aC aj (List.replicate 3 (false:Bool))))],fr:=[(1,35),(2,36),(3,37),(4,38),(5,39),(6,40),(7,41)] } [23,24,27,35,36,37,38,39,40,41] ⟨(rfl),((by intro i hi j hj;match i,j,hi,hj with|0,0,_,_=>rfl|1,0,_,_=>rfl)),a1,rfl,a2,a3,(List.length_replicate),(dZ _ _ _ _ _ (fun j hj=>(match j,hj with|0,_=>rfl))),a1,rfl,a2,a3,(List.length_replicate),(dZ _ _ _ _ _ (fun j hj=>(match j,hj with|0,_=>rfl))),(rfl),((by intro i hi j hj;match i,j,hi,hj with|0,0,_,_=>rfl|1,0,_,_=>rfl)),a1,rfl,a2,a3,(List.length_replicate),(dZ _ _ _ _ _ (fun j hj=>(match j,hj with|0,_=>rfl))),a4,rfl,a5,a6,(List.length_replicate),(dZ _ _ _ _ _ (fun j hj=>(match j,hj with|0,_=>rfl))),a4,rfl,a5,a6,(List.length_replicate),(dZ _ _ _ _ _ (fun j hj=>(match j,hj with|0,_=>rfl))),rfl,rfl,rfl,rfl,(ae ⟨rfl,rfl,(ae trivial)⟩)⟩ (fz ⟨[(2,(vD (l8 [(.int .i64 3),aeu,afn,(VZ u1)] 0))),(3,(vD (l8 [ZE,Tj,Tj,ZE,Tj,ZF,ZF] 0)))],(uW u0)⟩ [21,22]) ?_
   refine aI (bH.le (st':=⟨[(2,(vD (l8 [(.int .i64 3),afC,ads,(VZ u1)] 0))),(3,(vD (l8 [(aU none 1 aj [true,true]),SL,SL,(aU none 1 aj [true,true]),SL,YD,YD] 0)))],(uW u0)⟩) ⟨⟨⟨_,rfl,dh.v (dX.one (dD.d (M5 ⟨.refl _,gG.oH,gG.oH, .refl _,trivial⟩)))⟩,⟨_,rfl,dh.v (dX.one (dD.d (M5 ⟨gG.oH,gG.oH,gG.oH,gG.oH,gG.oH,gG.oH,gG.oH,trivial⟩)))⟩,trivial⟩,(.refl _)⟩) ?_
   refine aR ?_
   obtain rfl:=oi h
   exact rl [(.agg [(cI 3),(.d afC),(.d ads),(.d (VZ u1))]),(.agg [(.d (aU none 1 aj [true,true])),(.d SL),(.d SL),(.d (aU none 1 aj [true,true])),(.d SL),(.d YD),(.d YD)])]
  |ret v=>
   obtain rfl:=oi h
   unfold dA
   intro e st hn ha hR
   cases e with
   |normal=>exact absurd rfl hn
   |exit id=>exact hR
   |goto l=>exact hR
   |ret=>exact hR
   |panic c=>exact hR
   |outgrown=>exact hR
def Jq  :Bool→Exit→St→Prop:=
  fun r=>aW TT [.tmp 0] (vB r) []
section
variable (r_:(ah × State)) (u9:(ai × (List Bool) × Int)) (v4:(Bool × Int)) (v6:Int) (u3:(ah × State)) (u0:(ai × (List Bool) × Int)) (u1:(Int × Int)) (u2:((List Part) × Int)) (u4:Int) (u5:((List Short) × Int)) (v0:((List Int) × Bool × Int)) (v8:Bool) (w3:Bool) (w4:Bool) (v7:Bool) (v5:Bool) (w1:Bool)
abbrev adH:List CV:=[(cI r_.1.buses),(.d (aU none 5 Source.cell r_.1.sources)),(.d (aU none 6 Link.cell r_.1.links)),(.d (aU none 4 ay.cell r_.1.racks))]
abbrev aeI:Nat × Option Ob:=(68,some (.cells 26 (adH r_)))
abbrev ahK:List CV:=[(.d (aU none 1 aj r_.2.closed)),(.d (aU none 1 aj r_.2.locked)),(.d (aU none 1 aj r_.2.badLink)),(.d (aU none 1 aj r_.2.on_)),(.d (aU none 1 aj r_.2.badSource)),(.d (aU none 1 aj r_.2.earthed)),(.d (aU none 1 aj r_.2.badBus))]
abbrev aeV:Nat × Option Ob:=(69,some (.cells 29 (ahK r_)))
abbrev U6:Nat × TV:=(4,(vD (KS u9)))
abbrev agP:Nat × Option Ob:=(70,some (agS u9))
abbrev TP:List (Nat × Option Ob):=[(aeI r_),(aeV r_),(agP u9)]
abbrev MI:=(bif (!decide (u9.2.2=0))then true else(!decide (v4.2=0)))
abbrev Rc:=(bif (MI u9 v4)then true else(!decide (v6=100)))
abbrev I7:=(bif (Rc u9 v4 v6)then true else(!v4.1))
abbrev WA:=(fQ [(2,(!decide (u9.2.2=0))),(6,(MI u9 v4)),(11,(Rc u9 v4 v6)),(15,true)])
abbrev TW:List SV:=[(.agg (abl u9))]
abbrev YC:=(fQ [(2,(!decide (u9.2.2=0))),(6,(MI u9 v4)),(11,(Rc u9 v4 v6)),(15,false)])
abbrev MJ:Nat × TV:=(1,(vD (l8 [(.int .i64 u3.1.buses),(aU none 5 Source.cell u3.1.sources),(aU none 6 Link.cell u3.1.links),(aU none 4 ay.cell u3.1.racks)] 0)))
abbrev Ol:Nat × TV:=(2,(vD (l8 [(aU none 1 aj u3.2.closed),(aU none 1 aj u3.2.locked),(aU none 1 aj u3.2.badLink),(aU none 1 aj u3.2.on_),(aU none 1 aj u3.2.badSource),(aU none 1 aj u3.2.earthed),(aU none 1 aj u3.2.badBus)] 0)))
abbrev acF:Nat × TV:=(3,(ag3 u0))
abbrev GN:=(bif (!decide (u0.2.2=0))then true else(!decide (u1.2=0)))
abbrev Bv:=(bif (GN u0 u1)then true else(!decide (u2.2=0)))
abbrev GL:=(bif (Bv u0 u1 u2)then true else(!decide (u4=700)))
abbrev Ya:=(bif (GL u0 u1 u2 u4)then true else(!decide (u1.1=700)))
abbrev X4:=(bif (Ya u0 u1 u2 u4)then true else false)
abbrev WU:=(bif (X4 u0 u1 u2 u4)then true else false)
abbrev Jg:=(fQ [(2,(!decide (u0.2.2=0))),(6,(GN u0 u1)),(10,(Bv u0 u1 u2)),(15,(GL u0 u1 u2 u4)),(19,true),(25,true),(33,(WU u0 u1 u2 u4))])
abbrev LG:=((Ya u0 u1 u2 u4)=true)
abbrev QJ:=((X4 u0 u1 u2 u4)=true)
abbrev ZG:List SV:=[(.agg (adH u3)),(.agg (ahK u3)),(.agg (abl u0)),(sD (KS u0))]
abbrev JV:DV:=(aU none 4 Short.cell u5.1)
abbrev XQ:St:=⟨[(MJ u3),(5,(vI u5.2)),(11,(vD (JV u5)))],[]⟩
abbrev Lf:DV:=(aU (some v0.2.1) 1 (au .i64) v0.1)
abbrev Zv:St:=⟨[(5,(vI u5.2)),(7,(vI v0.2.2)),(11,(vD (JV u5))),(12,(vD (Lf v0)))],[]⟩
abbrev bB:=(bif (decide (u5.2=0))then(decide (v0.2.2=0))else false)
abbrev nA:=(bif (bB u5 v0)then v8 else false)
abbrev Yy:St:=⟨[(0,(vB (bif (nA u5 v0 v8)then w3 else false)))],[]⟩
abbrev nU:=(fQ [(2,(decide (u5.2=0))),(6,true),(15,true)])
abbrev nH:List DV:=[(.int .i64 0),(.int .i64 30),(.int .i64 13334),(aU (some true) 1 (au .i64) [0]),(.int .i64 1),(.int .i64 50),(.int .i64 8000),(aU (some true) 1 (au .i64) [1])]
abbrev afV:List (Nat × Option Ob):=[(78,some (.arr 103 4 [(⟨0,30,13334,[0]⟩:Short),(⟨1,50,8000,[1]⟩:Short)].length (iZ 4 nH)))]
abbrev Po:List DV:=[(.int .i64 13334),(.int .i64 8000)]
abbrev Dl:Ob:=(bU 3 1 (au .i64) [13334,8000])
abbrev OU:List SV:=[(sD (JV u5)),(sD (.sl (some true) 4 [(⟨0,30,13334,[0]⟩:Short),(⟨1,50,8000,[1]⟩:Short)].length (iZ 4 nH)))]
abbrev NU:List SV:=[(sD (Lf v0)),(sD (aU (some true) 1 (au .i64) [13334,8000]))]
abbrev YT:St:=⟨[(0,(vB (bif (nA u5 v0 v8)then false else false)))],[]⟩
abbrev om:=(fQ [(2,(decide (u5.2=0))),(6,true),(15,false)])
abbrev aiv:List (Nat × Option Ob):=[(82,some (.arr 103 4 [(⟨0,30,13334,[0]⟩:Short),(⟨1,50,8000,[1]⟩:Short)].length (iZ 4 nH)))]
abbrev xg:=(bif (bB u5 v0)then false else false)
abbrev Ym:St:=⟨[(0,(vB (bif (xg u5 v0)then w4 else false)))],[]⟩
abbrev j4:=(fQ [(2,(decide (u5.2=0))),(6,false),(15,true)])
abbrev ZB:St:=⟨[(0,(vB (bif (xg u5 v0)then false else false)))],[]⟩
abbrev Le:=(fQ [(2,(decide (u5.2=0))),(6,false),(15,false)])
abbrev Zl:=(eqs (decide (u5.2=0)) 3 [(bB u5 v0)=false, ¬ gP (Le u5) [(6,true)],(bB u5 v0)=false, ¬ gP (Le u5) [(6,true)],(bB u5 v0)=false, ¬ gP (Le u5) [(6,true)],(bB u5 v0)=false, ¬ gP (Le u5) [(6,true)],(bB u5 v0)=false, ¬ gP (Le u5) [(6,true)],(bB u5 v0)=false, ¬ gP (Le u5) [(6,true)],(bB u5 v0)=false, ¬ gP (Le u5) [(6,true)],(bB u5 v0)=false,(xg u5 v0)=false, ¬ gP (Le u5) [(15,true)],(xg u5 v0)=false, ¬ gP (Le u5) [(15,true)],(xg u5 v0)=false, ¬ gP (Le u5) [(15,true)],(xg u5 v0)=false])
abbrev Ww:=(bif (X4 u0 u1 u2 u4)then true else(!v7))
abbrev Nu:=(fQ [(2,(!decide (u0.2.2=0))),(6,(GN u0 u1)),(10,(Bv u0 u1 u2)),(15,(GL u0 u1 u2 u4)),(19,true),(25,false),(33,(Ww u0 u1 u2 u4 v7))])
abbrev Q7:=((X4 u0 u1 u2 u4)=false)
abbrev ahc:List SV:=[(sD (aU none 2 Part.cell u2.1)),(sD (aU (some true) 2 Part.cell [(⟨2,1⟩:Part),(⟨3,0⟩:Part)]))]
abbrev agq:List (Nat × Option Ob):=[(90,some (.arr 103 4 [(⟨0,30,13334,[0]⟩:Short),(⟨1,50,8000,[1]⟩:Short)].length (iZ 4 nH)))]
abbrev aes:List (Nat × Option Ob):=[(94,some (.arr 103 4 [(⟨0,30,13334,[0]⟩:Short),(⟨1,50,8000,[1]⟩:Short)].length (iZ 4 nH)))]
abbrev XW:=(bif (Ya u0 u1 u2 u4)then true else(!v5))
abbrev Wi:=(bif (XW u0 u1 u2 u4 v5)then true else false)
abbrev Kr:=(fQ [(2,(!decide (u0.2.2=0))),(6,(GN u0 u1)),(10,(Bv u0 u1 u2)),(15,(GL u0 u1 u2 u4)),(19,false),(25,true),(33,(Wi u0 u1 u2 u4 v5))])
abbrev Lm:=((Ya u0 u1 u2 u4)=false)
abbrev RU:=((XW u0 u1 u2 u4 v5)=true)
abbrev agr:List (Nat × Option Ob):=[(103,some (.arr 103 4 [(⟨0,30,13334,[0]⟩:Short),(⟨1,50,8000,[1]⟩:Short)].length (iZ 4 nH)))]
abbrev ael:List (Nat × Option Ob):=[(107,some (.arr 103 4 [(⟨0,30,13334,[0]⟩:Short),(⟨1,50,8000,[1]⟩:Short)].length (iZ 4 nH)))]
abbrev XE:=(bif (XW u0 u1 u2 u4 v5)then true else(!w1))
abbrev Oz:=(fQ [(2,(!decide (u0.2.2=0))),(6,(GN u0 u1)),(10,(Bv u0 u1 u2)),(15,(GL u0 u1 u2 u4)),(19,false),(25,false),(33,(XE u0 u1 u2 u4 v5 w1))])
abbrev QV:=((XW u0 u1 u2 u4 v5)=false)
abbrev aac:List (Nat × Option Ob):=[(116,some (.arr 103 4 [(⟨0,30,13334,[0]⟩:Short),(⟨1,50,8000,[1]⟩:Short)].length (iZ 4 nH)))]
abbrev ZM:List (Nat × Option Ob):=[(120,some (.arr 103 4 [(⟨0,30,13334,[0]⟩:Short),(⟨1,50,8000,[1]⟩:Short)].length (iZ 4 nH)))]
end
theorem zb  {r:Bool} (h:nZ=some r):Fn Try.prog 30 [] [] (vB r) []:=by
 refine fN tT Try.func30 rfl rfl fun B=> ?_
 show bn _ _ _ _ _ _ (Jq r) _
 unfold nZ at h
 refine sz tT ⟨[],[]⟩ {} [] ?_
 refine aQ (bE h fun r_ hr_ h=> ?_)
 have q2:=rk [(0,67)] (qA [100] hr_)
 refine rg tT ⟨[(1,(vP 68 0)),(2,(vP 69 0))],[(aeI r_),(aeV r_)]⟩ [[100].length=1,aH 1 1 (iZ 1 [(.int .i64 100)]) (aC (au .i64) [100]),_] {an:=[(0, .arr [100].length (aC (au .i64) [100])),(1,cR q2 [67])],fr:=[(0,67),(5,68),(6,69)] } [] ⟨(rfl),((by intro i hi j hj;match i,j,hi,hj with|0,0,_,_=>rfl)),q2,trivial⟩ ?_
 refine aQ (bE h fun u9 hr_1 h=> ?_)
 have q0:=A7 r_.1 r_.2 hr_1
 refine rg tT ⟨[(1,(vP 68 0)),(2,(vP 69 0)),(3,(vP 70 0)),(U6 u9),(5,(vI u9.2.2))],(TP r_ u9)⟩ [_] {an:=[(2,cA q0 [])],fr:=[(7,70)] } [] ⟨q0,trivial⟩ ?_
 refine aQ (bE h fun v4 hr_2 h=> ?_)
 have q0:=KQ r_.1 r_.2 hr_2
 refine rg tT ⟨[(1,(vP 68 0)),(2,(vP 69 0)),(3,(vP 70 0)),(U6 u9),(5,(vI u9.2.2)),(6,(vB v4.1)),(7,(vI v4.2))],(TP r_ u9)⟩ [_] {an:=[(2,cA q0 [])] } [] ⟨q0,trivial⟩ ?_
 refine aQ (aQ (bE h fun v6 hr_3 h=> ?_))
 refine bI h (fun hb h=> ?_) (fun hb h=> ?_)
 ·skip
  refine ri tT ⟨[(1,(vP 68 0)),(2,(vP 69 0)),(3,(vP 70 0)),(51,(vB (bif (I7 u9 v4 v6)then true else false)))],(TP r_ u9)⟩ (eqs (!decide (u9.2.2=0)) 3 (eqs (MI u9 v4) 2 ((gP (WA u9 v4 v6) [(6,false)]→All [Fn Try.prog 41 (TW u9) [] (vI v6) []])::(eqs (MI u9 v4) 2 (eqs (Rc u9 v4 v6) 3 [(I7 u9 v4 v6)=true, ¬ gP (WA u9 v4 v6) [(15,false)],(I7 u9 v4 v6)=true, ¬ gP (WA u9 v4 v6) [(15,false)],(I7 u9 v4 v6)=true, ¬ gP (WA u9 v4 v6) [(15,false)],(I7 u9 v4 v6)=true, ¬ gP (WA u9 v4 v6) [(15,false)],(I7 u9 v4 v6)=true]))))) {yb:=[(2,(!decide (u9.2.2=0))),(6,(MI u9 v4)),(11,(Rc u9 v4 v6)),(15,true)],an:=[(8, .call [] (vI v6) []),(16, .skip),(17, .skip),(18, .skip),(19, .skip)] } [] (ae (ae ⟨(fun hg=> ⟨(dP u9.1 (dU hr_3 (aM hg))),trivial⟩),(ae (ae ⟨(hb),((fun h=>Bool.noConfusion (show true=false from h.1))),(hb),((fun h=>Bool.noConfusion (show true=false from h.1))),(hb),((fun h=>Bool.noConfusion (show true=false from h.1))),(hb),((fun h=>Bool.noConfusion (show true=false from h.1))),(hb),trivial⟩))⟩)) (bH.le (st':=⟨[(1,(vP 68 0)),(2,(vP 69 0)),(3,(vP 70 0)),(51,(vB true))],(TP r_ u9)⟩) ⟨⟨tR,tR,tR,⟨_,rfl,dh.v (dX.one (dD.of (congrArg (fun b=>CV.d (.bool b)) (CK hb))))⟩,trivial⟩,(.refl _)⟩) ?_
  refine ck (sz tT ⟨[(0,(vB false))],[]⟩ {} [] ?_)
  refine aR ?_
  obtain rfl:=oi h
  exact rl [(sB false)]
 ·skip
  refine bE h fun x1 hr_4 h=> ?_
  refine ri tT ⟨[(1,(vP 68 0)),(2,(vP 69 0)),(3,(vP 70 0)),(51,(vB (bif (I7 u9 v4 v6)then true else(!x1))))],(TP r_ u9)⟩ (eqs (!decide (u9.2.2=0)) 3 (eqs (MI u9 v4) 2 ((gP (YC u9 v4 v6) [(6,false)]→All [Fn Try.prog 41 (TW u9) [] (vI v6) []])::(eqs (MI u9 v4) 2 (eqs (Rc u9 v4 v6) 3 [(I7 u9 v4 v6)=false,(I7 u9 v4 v6)=false,gP (YC u9 v4 v6) [(15,false)]→All [[true,true,true].length=3,aH 3 1 (iZ 1 [(.bool true),(.bool true),(.bool true)]) (aC aj [true,true,true])],gP (YC u9 v4 v6) [(15,false)],(I7 u9 v4 v6)=false,gP (YC u9 v4 v6) [(15,false)]→All [Fn Try.prog 42 [(sD (KS u9)),(.one (.own 71 true ([true,true,true].length)))] [(71,some (bU 4 1 aj [true,true,true]))] (vB x1) [(71,some (bU 4 1 aj [true,true,true]))]],(I7 u9 v4 v6)=false,(I7 u9 v4 v6)=false]))))) {yb:=[(2,(!decide (u9.2.2=0))),(6,(MI u9 v4)),(11,(Rc u9 v4 v6)),(15,false)],an:=[(8, .call [] (vI v6) []),(17, .arr [true,true,true].length (aC aj [true,true,true])),(18, .callR [71] (vB x1))],fr:=[(17,71)] } [] (ae (ae ⟨(fun hg=> ⟨(dP u9.1 (dU hr_3 (aM hg))),trivial⟩),(ae (ae ⟨(hb),(hb),(fun hg=> ⟨(rfl),((by intro i hi j hj;match i,j,hi,hj with|0,0,_,_=>rfl|1,0,_,_=>rfl|2,0,_,_=>rfl)),trivial⟩),(⟨rfl,trivial⟩),(hb),(fun hg=> ⟨(Fn.xh (frz:=[71]) (p:=[[true,true,true].length=[true,true,true].length]) (Fn.le (args':=[(sD (KS u9)),(sD (aU (some true) 1 aj [true,true,true]))]) (nD u9.2.1 [true,true,true] hr_4) ⟨dX.refl _,dX.one (dD.d gG.oH),trivial⟩) (by kernel_rfl) ⟨rfl,trivial⟩ rfl),trivial⟩),(hb),(hb),trivial⟩))⟩)) (bH.le (st':=⟨[(1,(vP 68 0)),(2,(vP 69 0)),(3,(vP 70 0)),(51,(vB (!x1)))],(TP r_ u9)⟩) ⟨⟨tR,tR,tR,⟨_,rfl,dh.v (dX.one (dD.of (congrArg (fun b=>CV.d (.bool b)) (Dq hb))))⟩,trivial⟩,(.refl _)⟩) ?_
  refine bI h (fun hb20 h=> ?_) (fun hb20 h=> ?_)
  ·refine ct hb20 ?_
   refine sz tT ⟨[(0,(vB false))],[]⟩ {} [] ?_
   refine aR ?_
   obtain rfl:=oi h
   exact rl [(sB false)]
  ·refine cf hb20 ?_
   refine aP (aQ (bE h fun u3 hr_5 h=> ?_))
   have q2:=rk [(0,72)] (qA [300,600] hr_5)
   refine rg tT ⟨[(MJ u3),(Ol u3),(3,(vP 70 0))],[(agP u9)]⟩ [[300,600].length=2,aH 2 1 (iZ 1 [(.int .i64 300),(.int .i64 600)]) (aC (au .i64) [300,600]),_] {an:=[(0, .arr [300,600].length (aC (au .i64) [300,600])),(1,cR q2 [72])],fr:=[(0,72)] } [68,69] ⟨(rfl),((by intro i hi j hj;match i,j,hi,hj with|0,0,_,_=>rfl|1,0,_,_=>rfl)),q2,trivial⟩ ?_
   refine aQ (bE h fun u0 hr_6 h=> ?_)
   have q0:=A7 u3.1 u3.2 hr_6
   refine rg tT ⟨[(MJ u3),(Ol u3),(acF u0),(U6 u0),(5,(vI u0.2.2))],[]⟩ [_] {an:=[(2,cA q0 [])] } [70] ⟨q0,trivial⟩ ?_
   refine aQ (bE h fun u1 hr_7 h=> ?_)
   have q0:=oG u3.1 u3.2 u0.2.1 hr_7
   refine rg tT ⟨[(MJ u3),(Ol u3),(acF u0),(U6 u0),(5,(vI u0.2.2)),(7,(vI u1.2)),(8,(vI u1.1))],[]⟩ [_] {an:=[(3,cA q0 [])] } [] ⟨q0,trivial⟩ ?_
   refine aQ (bE h fun u2 hr_8 h=> ?_)
   have q0:=IJ u3.1 u3.2 hr_8
   refine rg tT ⟨[(MJ u3),(Ol u3),(acF u0),(U6 u0),(5,(vI u0.2.2)),(7,(vI u1.2)),(8,(vI u1.1)),(9,(vD (aU none 2 Part.cell u2.1))),(10,(vI u2.2))],[]⟩ [_] {an:=[(2,cA q0 [])] } [] ⟨q0,trivial⟩ ?_
   refine aQ (aQ (bE h fun u4 hr_9 h=> ?_))
   refine bI h (fun hb1 h=> ?_) (fun hb1 h=> ?_)
   ·skip
    refine bI h (fun hb2 h=> ?_) (fun hb2 h=> ?_)
    ·skip
     refine bE h fun x2 hr_10 h=> ?_
     refine rg tT ⟨[(MJ u3),(Ol u3),(117,(vB (bif (WU u0 u1 u2 u4)then true else(!decide (x2=0)))))],[]⟩ (eqs (!decide (u0.2.2=0)) 3 (eqs (GN u0 u1) 3 (eqs (Bv u0 u1 u2) 2 ((gP (Jg u0 u1 u2 u4) [(10,false)]→All [Fn Try.prog 41 (TW u0) [] (vI u4) []])::(eqs (Bv u0 u1 u2) 2 (eqs (GL u0 u1 u2 u4) 3 ((LG u0 u1 u2 u4)::(¬ gP (Jg u0 u1 u2 u4) [(19,false)])::(LG u0 u1 u2 u4)::(¬ gP (Jg u0 u1 u2 u4) [(19,false)])::(LG u0 u1 u2 u4)::(¬ gP (Jg u0 u1 u2 u4) [(19,false)])::(LG u0 u1 u2 u4)::(¬ gP (Jg u0 u1 u2 u4) [(19,false)])::(LG u0 u1 u2 u4)::(QJ u0 u1 u2 u4)::(¬ gP (Jg u0 u1 u2 u4) [(25,false)])::(QJ u0 u1 u2 u4)::(¬ gP (Jg u0 u1 u2 u4) [(25,false)])::(QJ u0 u1 u2 u4)::(¬ gP (Jg u0 u1 u2 u4) [(25,false)])::(QJ u0 u1 u2 u4)::(¬ gP (Jg u0 u1 u2 u4) [(25,false)])::(QJ u0 u1 u2 u4)::(¬ gP (Jg u0 u1 u2 u4) [(25,false)])::(QJ u0 u1 u2 u4)::(¬ gP (Jg u0 u1 u2 u4) [(25,false)])::(QJ u0 u1 u2 u4)::(eqs (WU u0 u1 u2 u4) 5 ((gP (Jg u0 u1 u2 u4) [(33,false)]→All [Fn Try.prog 49 (ZG u3 u0) [] (vI x2) []])::(eqs (WU u0 u1 u2 u4) 2 [])))))))))) {yb:=[(2,(!decide (u0.2.2=0))),(6,(GN u0 u1)),(10,(Bv u0 u1 u2)),(15,(GL u0 u1 u2 u4)),(19,true),(25,true),(33,(WU u0 u1 u2 u4))],an:=[(12, .call [] (vI u4) []),(20, .skip),(21, .skip),(22, .skip),(23, .skip),(26, .skip),(27, .skip),(28, .skip),(29, .skip),(30, .skip),(31, .skip),(38, .call [] (vI x2) [])] } [] (ae (ae (ae ⟨(fun hg=> ⟨(dP u0.1 (dU hr_9 (aM hg))),trivial⟩),(ae (ae ⟨(hb1),((fun h=>Bool.noConfusion (show true=false from h.1))),(hb1),((fun h=>Bool.noConfusion (show true=false from h.1))),(hb1),((fun h=>Bool.noConfusion (show true=false from h.1))),(hb1),((fun h=>Bool.noConfusion (show true=false from h.1))),(hb1),(hb2),((fun h=>Bool.noConfusion (show true=false from h.1))),(hb2),((fun h=>Bool.noConfusion (show true=false from h.1))),(hb2),((fun h=>Bool.noConfusion (show true=false from h.1))),(hb2),((fun h=>Bool.noConfusion (show true=false from h.1))),(hb2),((fun h=>Bool.noConfusion (show true=false from h.1))),(hb2),((fun h=>Bool.noConfusion (show true=false from h.1))),(hb2),(ae ⟨(fun hg=> ⟨(iY u3.1 u3.2 u0.1 u0.2.1 (dU hr_10 (aM hg))),trivial⟩),(ae trivial)⟩)⟩))⟩))) ?_
     refine bI h (fun hb6 h=> ?_) (fun hb6 h=> ?_)
     ·refine ct hb6 ?_
      refine sz tT ⟨[(0,(vB false))],[]⟩ {} [] ?_
      refine aR ?_
      obtain rfl:=oi h
      exact rl [(sB false)]
     ·refine cf hb6 ?_
      refine aP (aQ (bE h fun u5 hr_11 h=> ?_))
      have q0:=mZ u3.1 u3.2 1 hr_11
      refine rg tT (XQ u3 u5) [_] {an:=[(2,cA q0 [])] } [] ⟨q0,trivial⟩ ?_
      refine aQ (bE h fun v0 hr_12 h=> ?_)
      have q0:=lH u3.1 u5.1 hr_12
      refine rg tT (Zv u5 v0) [_] {an:=[(2,cA q0 [])] } [] ⟨q0,trivial⟩ ?_
      refine aQ ?_
      refine bI h (fun hb3 h=> ?_) (fun hb3 h=> ?_)
      ·skip
       refine bE h fun v8 hr_13 h=> ?_
       refine bI h (fun hb4 h=> ?_) (fun hb4 h=> ?_)
       ·skip
        refine bE h fun w3 hr_14 h=> ?_
        refine ri tT (Yy u5 v0 v8 w3) (eqs (decide (u5.2=0)) 3 [(bB u5 v0)=true,(bB u5 v0)=true,gP (nU u5) [(6,true)]→All [[0].length=1,aH 1 1 (iZ 1 [(.int .i64 0)]) (aC (au .i64) [0])],(bB u5 v0)=true,(bB u5 v0)=true,gP (nU u5) [(6,true)]→All [[1].length=1,aH 1 1 (iZ 1 [(.int .i64 1)]) (aC (au .i64) [1])],(bB u5 v0)=true,(bB u5 v0)=true,gP (nU u5) [(6,true)]→All [[(⟨0,30,13334,[0]⟩:Short),(⟨1,50,8000,[1]⟩:Short)].length=2,aH 2 4 (iZ 4 nH) (iZ 4 nH)],gP (nU u5) [(6,true)],(bB u5 v0)=true,gP (nU u5) [(6,true)]→All [Fn Try.prog 52 [(sD (JV u5)),(.one (.own 78 true ([(⟨0,30,13334,[0]⟩:Short),(⟨1,50,8000,[1]⟩:Short)].length)))] afV (vB v8) afV],(bB u5 v0)=true,(nA u5 v0 v8)=true,(nA u5 v0 v8)=true,gP (nU u5) [(15,true)]→All [[13334,8000].length=2,aH 2 1 (iZ 1 Po) (aC (au .i64) [13334,8000])],gP (nU u5) [(15,true)],(nA u5 v0 v8)=true,gP (nU u5) [(15,true)]→All [Fn Try.prog 54 [(sD (Lf v0)),(.one (.own 79 true ([13334,8000].length)))] [(79,some Dl)] (vB w3) [(79,some Dl)]],(nA u5 v0 v8)=true]) {yb:=[(2,(decide (u5.2=0))),(6,true),(15,true)],an:=[(8, .frz [0].length (aC (au .i64) [0])),(10, .frz [1].length (aC (au .i64) [1])),(12, .arr [(⟨0,30,13334,[0]⟩:Short),(⟨1,50,8000,[1]⟩:Short)].length (iZ 4 nH)),(13, .callR [78] (vB v8)),(17, .arr [13334,8000].length (aC (au .i64) [13334,8000])),(18, .callR [79] (vB w3))],fr:=[(12,78),(17,79)] } [] (ae ⟨(hb3),(hb3),(fun hg=> ⟨(rfl),((by intro i hi j hj;match i,j,hi,hj with|0,0,_,_=>rfl)),trivial⟩),(hb3),(hb3),(fun hg=> ⟨(rfl),((by intro i hi j hj;match i,j,hi,hj with|0,0,_,_=>rfl)),trivial⟩),(hb3),(hb3),(fun hg=> ⟨(rfl),(fJ _ _ _),trivial⟩),(⟨rfl,trivial⟩),(hb3),(fun hg=> ⟨(Fn.xh (frz:=[78]) (p:=[[(⟨0,30,13334,[0]⟩:Short),(⟨1,50,8000,[1]⟩:Short)].length=[(⟨0,30,13334,[0]⟩:Short),(⟨1,50,8000,[1]⟩:Short)].length]) (Fn.le (args':=(OU u5)) (bS u5.1 [(⟨0,30,13334,[0]⟩:Short),(⟨1,50,8000,[1]⟩:Short)] hr_13) ⟨dX.refl _,dX.one (dD.d (gG.sl (.inl rfl) (by intro i hi j hj;match i,j,hi,hj with|0,0,_,_=>exact .refl _|0,1,_,_=>exact .refl _|0,2,_,_=>exact .refl _|0,3,_,_=>exact gG.oH|1,0,_,_=>exact .refl _|1,1,_,_=>exact .refl _|1,2,_,_=>exact .refl _|1,3,_,_=>exact gG.oH))),trivial⟩) (by kernel_rfl) ⟨rfl,trivial⟩ rfl),trivial⟩),(hb3),(hb4),(hb4),(fun hg=> ⟨(rfl),((by intro i hi j hj;match i,j,hi,hj with|0,0,_,_=>rfl|1,0,_,_=>rfl)),trivial⟩),(⟨rfl,trivial⟩),(hb4),(fun hg=> ⟨(Fn.xh (frz:=[79]) (p:=[[13334,8000].length=[13334,8000].length]) (Fn.le (args':=(NU v0)) (dz v0.1 [13334,8000] hr_14) ⟨dX.one (dD.d gG.oH),dX.one (dD.d gG.oH),trivial⟩) (by kernel_rfl) ⟨rfl,trivial⟩ rfl),trivial⟩),(hb4),trivial⟩) (bH.le (st':=⟨[(0,(vB w3))],[]⟩) ⟨⟨⟨_,rfl,dh.v (dX.one (dD.of (congrArg (fun b=>CV.d (.bool b)) (CK hb4))))⟩,trivial⟩,trivial⟩) ?_
        refine aR ?_
        obtain rfl:=oi h
        exact rl [(sB w3)]
       ·skip
        refine ri tT (YT u5 v0 v8) (eqs (decide (u5.2=0)) 3 [(bB u5 v0)=true,(bB u5 v0)=true,gP (om u5) [(6,true)]→All [[0].length=1,aH 1 1 (iZ 1 [(.int .i64 0)]) (aC (au .i64) [0])],(bB u5 v0)=true,(bB u5 v0)=true,gP (om u5) [(6,true)]→All [[1].length=1,aH 1 1 (iZ 1 [(.int .i64 1)]) (aC (au .i64) [1])],(bB u5 v0)=true,(bB u5 v0)=true,gP (om u5) [(6,true)]→All [[(⟨0,30,13334,[0]⟩:Short),(⟨1,50,8000,[1]⟩:Short)].length=2,aH 2 4 (iZ 4 nH) (iZ 4 nH)],gP (om u5) [(6,true)],(bB u5 v0)=true,gP (om u5) [(6,true)]→All [Fn Try.prog 52 [(sD (JV u5)),(.one (.own 82 true ([(⟨0,30,13334,[0]⟩:Short),(⟨1,50,8000,[1]⟩:Short)].length)))] aiv (vB v8) aiv],(bB u5 v0)=true,(nA u5 v0 v8)=false, ¬ gP (om u5) [(15,true)],(nA u5 v0 v8)=false, ¬ gP (om u5) [(15,true)],(nA u5 v0 v8)=false, ¬ gP (om u5) [(15,true)],(nA u5 v0 v8)=false]) {yb:=[(2,(decide (u5.2=0))),(6,true),(15,false)],an:=[(8, .frz [0].length (aC (au .i64) [0])),(10, .frz [1].length (aC (au .i64) [1])),(12, .arr [(⟨0,30,13334,[0]⟩:Short),(⟨1,50,8000,[1]⟩:Short)].length (iZ 4 nH)),(13, .callR [82] (vB v8)),(16, .skip),(17, .skip),(18, .skip)],fr:=[(12,82)] } [] (ae ⟨(hb3),(hb3),(fun hg=> ⟨(rfl),((by intro i hi j hj;match i,j,hi,hj with|0,0,_,_=>rfl)),trivial⟩),(hb3),(hb3),(fun hg=> ⟨(rfl),((by intro i hi j hj;match i,j,hi,hj with|0,0,_,_=>rfl)),trivial⟩),(hb3),(hb3),(fun hg=> ⟨(rfl),(fJ _ _ _),trivial⟩),(⟨rfl,trivial⟩),(hb3),(fun hg=> ⟨(Fn.xh (frz:=[82]) (p:=[[(⟨0,30,13334,[0]⟩:Short),(⟨1,50,8000,[1]⟩:Short)].length=[(⟨0,30,13334,[0]⟩:Short),(⟨1,50,8000,[1]⟩:Short)].length]) (Fn.le (args':=(OU u5)) (bS u5.1 [(⟨0,30,13334,[0]⟩:Short),(⟨1,50,8000,[1]⟩:Short)] hr_13) ⟨dX.refl _,dX.one (dD.d (gG.sl (.inl rfl) (by intro i hi j hj;match i,j,hi,hj with|0,0,_,_=>exact .refl _|0,1,_,_=>exact .refl _|0,2,_,_=>exact .refl _|0,3,_,_=>exact gG.oH|1,0,_,_=>exact .refl _|1,1,_,_=>exact .refl _|1,2,_,_=>exact .refl _|1,3,_,_=>exact gG.oH))),trivial⟩) (by kernel_rfl) ⟨rfl,trivial⟩ rfl),trivial⟩),(hb3),(hb4),((fun h=>Bool.noConfusion (show false=true from h.1))),(hb4),((fun h=>Bool.noConfusion (show false=true from h.1))),(hb4),((fun h=>Bool.noConfusion (show false=true from h.1))),(hb4),trivial⟩) (bH.le (st':=⟨[(0,(vB false))],[]⟩) ⟨⟨⟨_,rfl,dh.v (dX.one (dD.of (congrArg (fun b=>CV.d (.bool b)) (Dq hb4))))⟩,trivial⟩,trivial⟩) ?_
        refine aR ?_
        obtain rfl:=oi h
        exact rl [(sB false)]
      ·skip
       refine bI h (fun hb5 h=> ?_) (fun hb5 h=> ?_)
       ·skip
        refine bE h fun w4 hr_15 h=> ?_
        refine ri tT (Ym u5 v0 w4) (eqs (decide (u5.2=0)) 3 [(bB u5 v0)=false, ¬ gP (j4 u5) [(6,true)],(bB u5 v0)=false, ¬ gP (j4 u5) [(6,true)],(bB u5 v0)=false, ¬ gP (j4 u5) [(6,true)],(bB u5 v0)=false, ¬ gP (j4 u5) [(6,true)],(bB u5 v0)=false, ¬ gP (j4 u5) [(6,true)],(bB u5 v0)=false, ¬ gP (j4 u5) [(6,true)],(bB u5 v0)=false, ¬ gP (j4 u5) [(6,true)],(bB u5 v0)=false,(xg u5 v0)=true,(xg u5 v0)=true,gP (j4 u5) [(15,true)]→All [[13334,8000].length=2,aH 2 1 (iZ 1 Po) (aC (au .i64) [13334,8000])],gP (j4 u5) [(15,true)],(xg u5 v0)=true,gP (j4 u5) [(15,true)]→All [Fn Try.prog 54 [(sD (Lf v0)),(.one (.own 83 true ([13334,8000].length)))] [(83,some Dl)] (vB w4) [(83,some Dl)]],(xg u5 v0)=true]) {yb:=[(2,(decide (u5.2=0))),(6,false),(15,true)],an:=[(7, .skip),(8, .skip),(9, .skip),(10, .skip),(11, .skip),(12, .skip),(13, .skip),(17, .arr [13334,8000].length (aC (au .i64) [13334,8000])),(18, .callR [83] (vB w4))],fr:=[(17,83)] } [] (ae ⟨(hb3),((fun h=>Bool.noConfusion (show false=true from h.1))),(hb3),((fun h=>Bool.noConfusion (show false=true from h.1))),(hb3),((fun h=>Bool.noConfusion (show false=true from h.1))),(hb3),((fun h=>Bool.noConfusion (show false=true from h.1))),(hb3),((fun h=>Bool.noConfusion (show false=true from h.1))),(hb3),((fun h=>Bool.noConfusion (show false=true from h.1))),(hb3),((fun h=>Bool.noConfusion (show false=true from h.1))),(hb3),(hb5),(hb5),(fun hg=> ⟨(rfl),((by intro i hi j hj;match i,j,hi,hj with|0,0,_,_=>rfl|1,0,_,_=>rfl)),trivial⟩),(⟨rfl,trivial⟩),(hb5),(fun hg=> ⟨(Fn.xh (frz:=[83]) (p:=[[13334,8000].length=[13334,8000].length]) (Fn.le (args':=(NU v0)) (dz v0.1 [13334,8000] hr_15) ⟨dX.one (dD.d gG.oH),dX.one (dD.d gG.oH),trivial⟩) (by kernel_rfl) ⟨rfl,trivial⟩ rfl),trivial⟩),(hb5),trivial⟩) (bH.le (st':=⟨[(0,(vB w4))],[]⟩) ⟨⟨⟨_,rfl,dh.v (dX.one (dD.of (congrArg (fun b=>CV.d (.bool b)) (CK hb5))))⟩,trivial⟩,trivial⟩) ?_
        refine aR ?_
        obtain rfl:=oi h
        exact rl [(sB w4)]
       ·skip
        refine ri tT (ZB u5 v0) (Zl u5 v0) {yb:=[(2,(decide (u5.2=0))),(6,false),(15,false)],an:=[(7, .skip),(8, .skip),(9, .skip),(10, .skip),(11, .skip),(12, .skip),(13, .skip),(16, .skip),(17, .skip),(18, .skip)] } [] (ae ⟨(hb3),((fun h=>Bool.noConfusion (show false=true from h.1))),(hb3),((fun h=>Bool.noConfusion (show false=true from h.1))),(hb3),((fun h=>Bool.noConfusion (show false=true from h.1))),(hb3),((fun h=>Bool.noConfusion (show false=true from h.1))),(hb3),((fun h=>Bool.noConfusion (show false=true from h.1))),(hb3),((fun h=>Bool.noConfusion (show false=true from h.1))),(hb3),((fun h=>Bool.noConfusion (show false=true from h.1))),(hb3),(hb5),((fun h=>Bool.noConfusion (show false=true from h.1))),(hb5),((fun h=>Bool.noConfusion (show false=true from h.1))),(hb5),((fun h=>Bool.noConfusion (show false=true from h.1))),(hb5),trivial⟩) (bH.le (st':=⟨[(0,(vB false))],[]⟩) ⟨⟨⟨_,rfl,dh.v (dX.one (dD.of (congrArg (fun b=>CV.d (.bool b)) (Dq hb5))))⟩,trivial⟩,trivial⟩) ?_
        refine aR ?_
        obtain rfl:=oi h
        exact rl [(sB false)]
    ·skip
     refine bE h fun v7 hr_16 h=> ?_
     refine bE h fun x3 hr_17 h=> ?_
     refine rg tT ⟨[(MJ u3),(Ol u3),(117,(vB (bif (Ww u0 u1 u2 u4 v7)then true else(!decide (x3=0)))))],[]⟩ (eqs (!decide (u0.2.2=0)) 3 (eqs (GN u0 u1) 3 (eqs (Bv u0 u1 u2) 2 ((gP (Nu u0 u1 u2 u4 v7) [(10,false)]→All [Fn Try.prog 41 (TW u0) [] (vI u4) []])::(eqs (Bv u0 u1 u2) 2 (eqs (GL u0 u1 u2 u4) 3 ((LG u0 u1 u2 u4)::(¬ gP (Nu u0 u1 u2 u4 v7) [(19,false)])::(LG u0 u1 u2 u4)::(¬ gP (Nu u0 u1 u2 u4 v7) [(19,false)])::(LG u0 u1 u2 u4)::(¬ gP (Nu u0 u1 u2 u4 v7) [(19,false)])::(LG u0 u1 u2 u4)::(¬ gP (Nu u0 u1 u2 u4 v7) [(19,false)])::(LG u0 u1 u2 u4)::(Q7 u0 u1 u2 u4)::(Q7 u0 u1 u2 u4)::(Q7 u0 u1 u2 u4)::(Q7 u0 u1 u2 u4)::(gP (Nu u0 u1 u2 u4 v7) [(25,false)]→All [[(⟨2,1⟩:Part),(⟨3,0⟩:Part)].length=2,aH 2 2 (iZ 2 [(.int .i64 2),(.int .i64 1),(.int .i64 3),(.int .i64 0)]) (aC Part.cell [(⟨2,1⟩:Part),(⟨3,0⟩:Part)])])::(gP (Nu u0 u1 u2 u4 v7) [(25,false)])::(Q7 u0 u1 u2 u4)::(gP (Nu u0 u1 u2 u4 v7) [(25,false)]→All [Fn Try.prog 38 [(sD (aU none 2 Part.cell u2.1)),(.one (.own 84 true ([(⟨2,1⟩:Part),(⟨3,0⟩:Part)].length)))] [(84,some (bU 117 2 Part.cell [(⟨2,1⟩:Part),(⟨3,0⟩:Part)]))] (vB v7) [(84,some (bU 117 2 Part.cell [(⟨2,1⟩:Part),(⟨3,0⟩:Part)]))]])::(Q7 u0 u1 u2 u4)::(Q7 u0 u1 u2 u4)::(eqs (Ww u0 u1 u2 u4 v7) 5 ((gP (Nu u0 u1 u2 u4 v7) [(33,false)]→All [Fn Try.prog 49 (ZG u3 u0) [] (vI x3) []])::(eqs (Ww u0 u1 u2 u4 v7) 2 [])))))))))) {yb:=[(2,(!decide (u0.2.2=0))),(6,(GN u0 u1)),(10,(Bv u0 u1 u2)),(15,(GL u0 u1 u2 u4)),(19,true),(25,false),(33,(Ww u0 u1 u2 u4 v7))],an:=[(12, .call [] (vI u4) []),(20, .skip),(21, .skip),(22, .skip),(23, .skip),(29, .arr [(⟨2,1⟩:Part),(⟨3,0⟩:Part)].length (aC Part.cell [(⟨2,1⟩:Part),(⟨3,0⟩:Part)])),(30, .callR [84] (vB v7)),(38, .call [] (vI x3) [])],fr:=[(29,84)] } [] (ae (ae (ae ⟨(fun hg=> ⟨(dP u0.1 (dU hr_9 (aM hg))),trivial⟩),(ae (ae ⟨(hb1),((fun h=>Bool.noConfusion (show true=false from h.1))),(hb1),((fun h=>Bool.noConfusion (show true=false from h.1))),(hb1),((fun h=>Bool.noConfusion (show true=false from h.1))),(hb1),((fun h=>Bool.noConfusion (show true=false from h.1))),(hb1),(hb2),(hb2),(hb2),(hb2),(fun hg=> ⟨(rfl),((by intro i hi j hj;match i,j,hi,hj with|0,0,_,_=>rfl|0,1,_,_=>rfl|1,0,_,_=>rfl|1,1,_,_=>rfl)),trivial⟩),(⟨rfl,trivial⟩),(hb2),(fun hg=> ⟨(Fn.xh (frz:=[84]) (p:=[[(⟨2,1⟩:Part),(⟨3,0⟩:Part)].length=[(⟨2,1⟩:Part),(⟨3,0⟩:Part)].length]) (Fn.le (args':=(ahc u2)) (vM u2.1 [(⟨2,1⟩:Part),(⟨3,0⟩:Part)] hr_16) ⟨dX.refl _,dX.one (dD.d gG.oH),trivial⟩) (by kernel_rfl) ⟨rfl,trivial⟩ rfl),trivial⟩),(hb2),(hb2),(ae ⟨(fun hg=> ⟨(iY u3.1 u3.2 u0.1 u0.2.1 (dU hr_17 (aM hg))),trivial⟩),(ae trivial)⟩)⟩))⟩))) ?_
     refine bI h (fun hb10 h=> ?_) (fun hb10 h=> ?_)
     ·refine ct hb10 ?_
      refine sz tT ⟨[(0,(vB false))],[]⟩ {} [] ?_
      refine aR ?_
      obtain rfl:=oi h
      exact rl [(sB false)]
     ·refine cf hb10 ?_
      refine aP (aQ (bE h fun u6 hr_18 h=> ?_))
      have q0:=mZ u3.1 u3.2 1 hr_18
      refine rg tT (XQ u3 u6) [_] {an:=[(2,cA q0 [])] } [] ⟨q0,trivial⟩ ?_
      refine aQ (bE h fun v1 hr_19 h=> ?_)
      have q0:=lH u3.1 u6.1 hr_19
      refine rg tT (Zv u6 v1) [_] {an:=[(2,cA q0 [])] } [] ⟨q0,trivial⟩ ?_
      refine aQ ?_
      refine bI h (fun hb7 h=> ?_) (fun hb7 h=> ?_)
      ·skip
       refine bE h fun v9 hr_20 h=> ?_
       refine bI h (fun hb8 h=> ?_) (fun hb8 h=> ?_)
       ·skip
        refine bE h fun w5 hr_21 h=> ?_
        refine ri tT (Yy u6 v1 v9 w5) (eqs (decide (u6.2=0)) 3 [(bB u6 v1)=true,(bB u6 v1)=true,gP (nU u6) [(6,true)]→All [[0].length=1,aH 1 1 (iZ 1 [(.int .i64 0)]) (aC (au .i64) [0])],(bB u6 v1)=true,(bB u6 v1)=true,gP (nU u6) [(6,true)]→All [[1].length=1,aH 1 1 (iZ 1 [(.int .i64 1)]) (aC (au .i64) [1])],(bB u6 v1)=true,(bB u6 v1)=true,gP (nU u6) [(6,true)]→All [[(⟨0,30,13334,[0]⟩:Short),(⟨1,50,8000,[1]⟩:Short)].length=2,aH 2 4 (iZ 4 nH) (iZ 4 nH)],gP (nU u6) [(6,true)],(bB u6 v1)=true,gP (nU u6) [(6,true)]→All [Fn Try.prog 52 [(sD (JV u6)),(.one (.own 90 true ([(⟨0,30,13334,[0]⟩:Short),(⟨1,50,8000,[1]⟩:Short)].length)))] agq (vB v9) agq],(bB u6 v1)=true,(nA u6 v1 v9)=true,(nA u6 v1 v9)=true,gP (nU u6) [(15,true)]→All [[13334,8000].length=2,aH 2 1 (iZ 1 Po) (aC (au .i64) [13334,8000])],gP (nU u6) [(15,true)],(nA u6 v1 v9)=true,gP (nU u6) [(15,true)]→All [Fn Try.prog 54 [(sD (Lf v1)),(.one (.own 91 true ([13334,8000].length)))] [(91,some Dl)] (vB w5) [(91,some Dl)]],(nA u6 v1 v9)=true]) {yb:=[(2,(decide (u6.2=0))),(6,true),(15,true)],an:=[(8, .frz [0].length (aC (au .i64) [0])),(10, .frz [1].length (aC (au .i64) [1])),(12, .arr [(⟨0,30,13334,[0]⟩:Short),(⟨1,50,8000,[1]⟩:Short)].length (iZ 4 nH)),(13, .callR [90] (vB v9)),(17, .arr [13334,8000].length (aC (au .i64) [13334,8000])),(18, .callR [91] (vB w5))],fr:=[(12,90),(17,91)] } [] (ae ⟨(hb7),(hb7),(fun hg=> ⟨(rfl),((by intro i hi j hj;match i,j,hi,hj with|0,0,_,_=>rfl)),trivial⟩),(hb7),(hb7),(fun hg=> ⟨(rfl),((by intro i hi j hj;match i,j,hi,hj with|0,0,_,_=>rfl)),trivial⟩),(hb7),(hb7),(fun hg=> ⟨(rfl),(fJ _ _ _),trivial⟩),(⟨rfl,trivial⟩),(hb7),(fun hg=> ⟨(Fn.xh (frz:=[90]) (p:=[[(⟨0,30,13334,[0]⟩:Short),(⟨1,50,8000,[1]⟩:Short)].length=[(⟨0,30,13334,[0]⟩:Short),(⟨1,50,8000,[1]⟩:Short)].length]) (Fn.le (args':=(OU u6)) (bS u6.1 [(⟨0,30,13334,[0]⟩:Short),(⟨1,50,8000,[1]⟩:Short)] hr_20) ⟨dX.refl _,dX.one (dD.d (gG.sl (.inl rfl) (by intro i hi j hj;match i,j,hi,hj with|0,0,_,_=>exact .refl _|0,1,_,_=>exact .refl _|0,2,_,_=>exact .refl _|0,3,_,_=>exact gG.oH|1,0,_,_=>exact .refl _|1,1,_,_=>exact .refl _|1,2,_,_=>exact .refl _|1,3,_,_=>exact gG.oH))),trivial⟩) (by kernel_rfl) ⟨rfl,trivial⟩ rfl),trivial⟩),(hb7),(hb8),(hb8),(fun hg=> ⟨(rfl),((by intro i hi j hj;match i,j,hi,hj with|0,0,_,_=>rfl|1,0,_,_=>rfl)),trivial⟩),(⟨rfl,trivial⟩),(hb8),(fun hg=> ⟨(Fn.xh (frz:=[91]) (p:=[[13334,8000].length=[13334,8000].length]) (Fn.le (args':=(NU v1)) (dz v1.1 [13334,8000] hr_21) ⟨dX.one (dD.d gG.oH),dX.one (dD.d gG.oH),trivial⟩) (by kernel_rfl) ⟨rfl,trivial⟩ rfl),trivial⟩),(hb8),trivial⟩) (bH.le (st':=⟨[(0,(vB w5))],[]⟩) ⟨⟨⟨_,rfl,dh.v (dX.one (dD.of (congrArg (fun b=>CV.d (.bool b)) (CK hb8))))⟩,trivial⟩,trivial⟩) ?_
        refine aR ?_
        obtain rfl:=oi h
        exact rl [(sB w5)]
       ·skip
        refine ri tT (YT u6 v1 v9) (eqs (decide (u6.2=0)) 3 [(bB u6 v1)=true,(bB u6 v1)=true,gP (om u6) [(6,true)]→All [[0].length=1,aH 1 1 (iZ 1 [(.int .i64 0)]) (aC (au .i64) [0])],(bB u6 v1)=true,(bB u6 v1)=true,gP (om u6) [(6,true)]→All [[1].length=1,aH 1 1 (iZ 1 [(.int .i64 1)]) (aC (au .i64) [1])],(bB u6 v1)=true,(bB u6 v1)=true,gP (om u6) [(6,true)]→All [[(⟨0,30,13334,[0]⟩:Short),(⟨1,50,8000,[1]⟩:Short)].length=2,aH 2 4 (iZ 4 nH) (iZ 4 nH)],gP (om u6) [(6,true)],(bB u6 v1)=true,gP (om u6) [(6,true)]→All [Fn Try.prog 52 [(sD (JV u6)),(.one (.own 94 true ([(⟨0,30,13334,[0]⟩:Short),(⟨1,50,8000,[1]⟩:Short)].length)))] aes (vB v9) aes],(bB u6 v1)=true,(nA u6 v1 v9)=false, ¬ gP (om u6) [(15,true)],(nA u6 v1 v9)=false, ¬ gP (om u6) [(15,true)],(nA u6 v1 v9)=false, ¬ gP (om u6) [(15,true)],(nA u6 v1 v9)=false]) {yb:=[(2,(decide (u6.2=0))),(6,true),(15,false)],an:=[(8, .frz [0].length (aC (au .i64) [0])),(10, .frz [1].length (aC (au .i64) [1])),(12, .arr [(⟨0,30,13334,[0]⟩:Short),(⟨1,50,8000,[1]⟩:Short)].length (iZ 4 nH)),(13, .callR [94] (vB v9)),(16, .skip),(17, .skip),(18, .skip)],fr:=[(12,94)] } [] (ae ⟨(hb7),(hb7),(fun hg=> ⟨(rfl),((by intro i hi j hj;match i,j,hi,hj with|0,0,_,_=>rfl)),trivial⟩),(hb7),(hb7),(fun hg=> ⟨(rfl),((by intro i hi j hj;match i,j,hi,hj with|0,0,_,_=>rfl)),trivial⟩),(hb7),(hb7),(fun hg=> ⟨(rfl),(fJ _ _ _),trivial⟩),(⟨rfl,trivial⟩),(hb7),(fun hg=> ⟨(Fn.xh (frz:=[94]) (p:=[[(⟨0,30,13334,[0]⟩:Short),(⟨1,50,8000,[1]⟩:Short)].length=[(⟨0,30,13334,[0]⟩:Short),(⟨1,50,8000,[1]⟩:Short)].length]) (Fn.le (args':=(OU u6)) (bS u6.1 [(⟨0,30,13334,[0]⟩:Short),(⟨1,50,8000,[1]⟩:Short)] hr_20) ⟨dX.refl _,dX.one (dD.d (gG.sl (.inl rfl) (by intro i hi j hj;match i,j,hi,hj with|0,0,_,_=>exact .refl _|0,1,_,_=>exact .refl _|0,2,_,_=>exact .refl _|0,3,_,_=>exact gG.oH|1,0,_,_=>exact .refl _|1,1,_,_=>exact .refl _|1,2,_,_=>exact .refl _|1,3,_,_=>exact gG.oH))),trivial⟩) (by kernel_rfl) ⟨rfl,trivial⟩ rfl),trivial⟩),(hb7),(hb8),((fun h=>Bool.noConfusion (show false=true from h.1))),(hb8),((fun h=>Bool.noConfusion (show false=true from h.1))),(hb8),((fun h=>Bool.noConfusion (show false=true from h.1))),(hb8),trivial⟩) (bH.le (st':=⟨[(0,(vB false))],[]⟩) ⟨⟨⟨_,rfl,dh.v (dX.one (dD.of (congrArg (fun b=>CV.d (.bool b)) (Dq hb8))))⟩,trivial⟩,trivial⟩) ?_
        refine aR ?_
        obtain rfl:=oi h
        exact rl [(sB false)]
      ·skip
       refine bI h (fun hb9 h=> ?_) (fun hb9 h=> ?_)
       ·skip
        refine bE h fun w6 hr_22 h=> ?_
        refine ri tT (Ym u6 v1 w6) (eqs (decide (u6.2=0)) 3 [(bB u6 v1)=false, ¬ gP (j4 u6) [(6,true)],(bB u6 v1)=false, ¬ gP (j4 u6) [(6,true)],(bB u6 v1)=false, ¬ gP (j4 u6) [(6,true)],(bB u6 v1)=false, ¬ gP (j4 u6) [(6,true)],(bB u6 v1)=false, ¬ gP (j4 u6) [(6,true)],(bB u6 v1)=false, ¬ gP (j4 u6) [(6,true)],(bB u6 v1)=false, ¬ gP (j4 u6) [(6,true)],(bB u6 v1)=false,(xg u6 v1)=true,(xg u6 v1)=true,gP (j4 u6) [(15,true)]→All [[13334,8000].length=2,aH 2 1 (iZ 1 Po) (aC (au .i64) [13334,8000])],gP (j4 u6) [(15,true)],(xg u6 v1)=true,gP (j4 u6) [(15,true)]→All [Fn Try.prog 54 [(sD (Lf v1)),(.one (.own 95 true ([13334,8000].length)))] [(95,some Dl)] (vB w6) [(95,some Dl)]],(xg u6 v1)=true]) {yb:=[(2,(decide (u6.2=0))),(6,false),(15,true)],an:=[(7, .skip),(8, .skip),(9, .skip),(10, .skip),(11, .skip),(12, .skip),(13, .skip),(17, .arr [13334,8000].length (aC (au .i64) [13334,8000])),(18, .callR [95] (vB w6))],fr:=[(17,95)] } [] (ae ⟨(hb7),((fun h=>Bool.noConfusion (show false=true from h.1))),(hb7),((fun h=>Bool.noConfusion (show false=true from h.1))),(hb7),((fun h=>Bool.noConfusion (show false=true from h.1))),(hb7),((fun h=>Bool.noConfusion (show false=true from h.1))),(hb7),((fun h=>Bool.noConfusion (show false=true from h.1))),(hb7),((fun h=>Bool.noConfusion (show false=true from h.1))),(hb7),((fun h=>Bool.noConfusion (show false=true from h.1))),(hb7),(hb9),(hb9),(fun hg=> ⟨(rfl),((by intro i hi j hj;match i,j,hi,hj with|0,0,_,_=>rfl|1,0,_,_=>rfl)),trivial⟩),(⟨rfl,trivial⟩),(hb9),(fun hg=> ⟨(Fn.xh (frz:=[95]) (p:=[[13334,8000].length=[13334,8000].length]) (Fn.le (args':=(NU v1)) (dz v1.1 [13334,8000] hr_22) ⟨dX.one (dD.d gG.oH),dX.one (dD.d gG.oH),trivial⟩) (by kernel_rfl) ⟨rfl,trivial⟩ rfl),trivial⟩),(hb9),trivial⟩) (bH.le (st':=⟨[(0,(vB w6))],[]⟩) ⟨⟨⟨_,rfl,dh.v (dX.one (dD.of (congrArg (fun b=>CV.d (.bool b)) (CK hb9))))⟩,trivial⟩,trivial⟩) ?_
        refine aR ?_
        obtain rfl:=oi h
        exact rl [(sB w6)]
       ·skip
        refine ri tT (ZB u6 v1) (Zl u6 v1) {yb:=[(2,(decide (u6.2=0))),(6,false),(15,false)],an:=[(7, .skip),(8, .skip),(9, .skip),(10, .skip),(11, .skip),(12, .skip),(13, .skip),(16, .skip),(17, .skip),(18, .skip)] } [] (ae ⟨(hb7),((fun h=>Bool.noConfusion (show false=true from h.1))),(hb7),((fun h=>Bool.noConfusion (show false=true from h.1))),(hb7),((fun h=>Bool.noConfusion (show false=true from h.1))),(hb7),((fun h=>Bool.noConfusion (show false=true from h.1))),(hb7),((fun h=>Bool.noConfusion (show false=true from h.1))),(hb7),((fun h=>Bool.noConfusion (show false=true from h.1))),(hb7),((fun h=>Bool.noConfusion (show false=true from h.1))),(hb7),(hb9),((fun h=>Bool.noConfusion (show false=true from h.1))),(hb9),((fun h=>Bool.noConfusion (show false=true from h.1))),(hb9),((fun h=>Bool.noConfusion (show false=true from h.1))),(hb9),trivial⟩) (bH.le (st':=⟨[(0,(vB false))],[]⟩) ⟨⟨⟨_,rfl,dh.v (dX.one (dD.of (congrArg (fun b=>CV.d (.bool b)) (Dq hb9))))⟩,trivial⟩,trivial⟩) ?_
        refine aR ?_
        obtain rfl:=oi h
        exact rl [(sB false)]
   ·skip
    refine bE h fun v5 hr_23 h=> ?_
    refine bI h (fun hb11 h=> ?_) (fun hb11 h=> ?_)
    ·skip
     refine bE h fun x4 hr_24 h=> ?_
     refine rg tT ⟨[(MJ u3),(Ol u3),(117,(vB (bif (Wi u0 u1 u2 u4 v5)then true else(!decide (x4=0)))))],[]⟩ (eqs (!decide (u0.2.2=0)) 3 (eqs (GN u0 u1) 3 (eqs (Bv u0 u1 u2) 2 ((gP (Kr u0 u1 u2 u4 v5) [(10,false)]→All [Fn Try.prog 41 (TW u0) [] (vI u4) []])::(eqs (Bv u0 u1 u2) 2 (eqs (GL u0 u1 u2 u4) 3 ((Lm u0 u1 u2 u4)::(Lm u0 u1 u2 u4)::(gP (Kr u0 u1 u2 u4 v5) [(19,false)]→All [[true,false,false].length=3,aH 3 1 (iZ 1 [(.bool true),(.bool false),(.bool false)]) (aC aj [true,false,false])])::(gP (Kr u0 u1 u2 u4 v5) [(19,false)])::(Lm u0 u1 u2 u4)::(gP (Kr u0 u1 u2 u4 v5) [(19,false)]→All [Fn Try.prog 42 [(sD (KS u0)),(.one (.own 97 true ([true,false,false].length)))] [(97,some (bU 4 1 aj [true,false,false]))] (vB v5) [(97,some (bU 4 1 aj [true,false,false]))]])::(Lm u0 u1 u2 u4)::(Lm u0 u1 u2 u4)::(RU u0 u1 u2 u4 v5)::(¬ gP (Kr u0 u1 u2 u4 v5) [(25,false)])::(RU u0 u1 u2 u4 v5)::(¬ gP (Kr u0 u1 u2 u4 v5) [(25,false)])::(RU u0 u1 u2 u4 v5)::(¬ gP (Kr u0 u1 u2 u4 v5) [(25,false)])::(RU u0 u1 u2 u4 v5)::(¬ gP (Kr u0 u1 u2 u4 v5) [(25,false)])::(RU u0 u1 u2 u4 v5)::(¬ gP (Kr u0 u1 u2 u4 v5) [(25,false)])::(RU u0 u1 u2 u4 v5)::(¬ gP (Kr u0 u1 u2 u4 v5) [(25,false)])::(RU u0 u1 u2 u4 v5)::(eqs (Wi u0 u1 u2 u4 v5) 5 ((gP (Kr u0 u1 u2 u4 v5) [(33,false)]→All [Fn Try.prog 49 (ZG u3 u0) [] (vI x4) []])::(eqs (Wi u0 u1 u2 u4 v5) 2 [])))))))))) {yb:=[(2,(!decide (u0.2.2=0))),(6,(GN u0 u1)),(10,(Bv u0 u1 u2)),(15,(GL u0 u1 u2 u4)),(19,false),(25,true),(33,(Wi u0 u1 u2 u4 v5))],an:=[(12, .call [] (vI u4) []),(21, .arr [true,false,false].length (aC aj [true,false,false])),(22, .callR [97] (vB v5)),(26, .skip),(27, .skip),(28, .skip),(29, .skip),(30, .skip),(31, .skip),(38, .call [] (vI x4) [])],fr:=[(21,97)] } [] (ae (ae (ae ⟨(fun hg=> ⟨(dP u0.1 (dU hr_9 (aM hg))),trivial⟩),(ae (ae ⟨(hb1),(hb1),(fun hg=> ⟨(rfl),((by intro i hi j hj;match i,j,hi,hj with|0,0,_,_=>rfl|1,0,_,_=>rfl|2,0,_,_=>rfl)),trivial⟩),(⟨rfl,trivial⟩),(hb1),(fun hg=> ⟨(Fn.xh (frz:=[97]) (p:=[[true,false,false].length=[true,false,false].length]) (Fn.le (args':=[(sD (KS u0)),(sD (aU (some true) 1 aj [true,false,false]))]) (nD u0.2.1 [true,false,false] hr_23) ⟨dX.refl _,dX.one (dD.d gG.oH),trivial⟩) (by kernel_rfl) ⟨rfl,trivial⟩ rfl),trivial⟩),(hb1),(hb1),(hb11),((fun h=>Bool.noConfusion (show true=false from h.1))),(hb11),((fun h=>Bool.noConfusion (show true=false from h.1))),(hb11),((fun h=>Bool.noConfusion (show true=false from h.1))),(hb11),((fun h=>Bool.noConfusion (show true=false from h.1))),(hb11),((fun h=>Bool.noConfusion (show true=false from h.1))),(hb11),((fun h=>Bool.noConfusion (show true=false from h.1))),(hb11),(ae ⟨(fun hg=> ⟨(iY u3.1 u3.2 u0.1 u0.2.1 (dU hr_24 (aM hg))),trivial⟩),(ae trivial)⟩)⟩))⟩))) ?_
     refine bI h (fun hb15 h=> ?_) (fun hb15 h=> ?_)
     ·refine ct hb15 ?_
      refine sz tT ⟨[(0,(vB false))],[]⟩ {} [] ?_
      refine aR ?_
      obtain rfl:=oi h
      exact rl [(sB false)]
     ·refine cf hb15 ?_
      refine aP (aQ (bE h fun u7 hr_25 h=> ?_))
      have q0:=mZ u3.1 u3.2 1 hr_25
      refine rg tT (XQ u3 u7) [_] {an:=[(2,cA q0 [])] } [] ⟨q0,trivial⟩ ?_
      refine aQ (bE h fun v2 hr_26 h=> ?_)
      have q0:=lH u3.1 u7.1 hr_26
      refine rg tT (Zv u7 v2) [_] {an:=[(2,cA q0 [])] } [] ⟨q0,trivial⟩ ?_
      refine aQ ?_
      refine bI h (fun hb12 h=> ?_) (fun hb12 h=> ?_)
      ·skip
       refine bE h fun w0 hr_27 h=> ?_
       refine bI h (fun hb13 h=> ?_) (fun hb13 h=> ?_)
       ·skip
        refine bE h fun w7 hr_28 h=> ?_
        refine ri tT (Yy u7 v2 w0 w7) (eqs (decide (u7.2=0)) 3 [(bB u7 v2)=true,(bB u7 v2)=true,gP (nU u7) [(6,true)]→All [[0].length=1,aH 1 1 (iZ 1 [(.int .i64 0)]) (aC (au .i64) [0])],(bB u7 v2)=true,(bB u7 v2)=true,gP (nU u7) [(6,true)]→All [[1].length=1,aH 1 1 (iZ 1 [(.int .i64 1)]) (aC (au .i64) [1])],(bB u7 v2)=true,(bB u7 v2)=true,gP (nU u7) [(6,true)]→All [[(⟨0,30,13334,[0]⟩:Short),(⟨1,50,8000,[1]⟩:Short)].length=2,aH 2 4 (iZ 4 nH) (iZ 4 nH)],gP (nU u7) [(6,true)],(bB u7 v2)=true,gP (nU u7) [(6,true)]→All [Fn Try.prog 52 [(sD (JV u7)),(.one (.own 103 true ([(⟨0,30,13334,[0]⟩:Short),(⟨1,50,8000,[1]⟩:Short)].length)))] agr (vB w0) agr],(bB u7 v2)=true,(nA u7 v2 w0)=true,(nA u7 v2 w0)=true,gP (nU u7) [(15,true)]→All [[13334,8000].length=2,aH 2 1 (iZ 1 Po) (aC (au .i64) [13334,8000])],gP (nU u7) [(15,true)],(nA u7 v2 w0)=true,gP (nU u7) [(15,true)]→All [Fn Try.prog 54 [(sD (Lf v2)),(.one (.own 104 true ([13334,8000].length)))] [(104,some Dl)] (vB w7) [(104,some Dl)]],(nA u7 v2 w0)=true]) {yb:=[(2,(decide (u7.2=0))),(6,true),(15,true)],an:=[(8, .frz [0].length (aC (au .i64) [0])),(10, .frz [1].length (aC (au .i64) [1])),(12, .arr [(⟨0,30,13334,[0]⟩:Short),(⟨1,50,8000,[1]⟩:Short)].length (iZ 4 nH)),(13, .callR [103] (vB w0)),(17, .arr [13334,8000].length (aC (au .i64) [13334,8000])),(18, .callR [104] (vB w7))],fr:=[(12,103),(17,104)] } [] (ae ⟨(hb12),(hb12),(fun hg=> ⟨(rfl),((by intro i hi j hj;match i,j,hi,hj with|0,0,_,_=>rfl)),trivial⟩),(hb12),(hb12),(fun hg=> ⟨(rfl),((by intro i hi j hj;match i,j,hi,hj with|0,0,_,_=>rfl)),trivial⟩),(hb12),(hb12),(fun hg=> ⟨(rfl),(fJ _ _ _),trivial⟩),(⟨rfl,trivial⟩),(hb12),(fun hg=> ⟨(Fn.xh (frz:=[103]) (p:=[[(⟨0,30,13334,[0]⟩:Short),(⟨1,50,8000,[1]⟩:Short)].length=[(⟨0,30,13334,[0]⟩:Short),(⟨1,50,8000,[1]⟩:Short)].length]) (Fn.le (args':=(OU u7)) (bS u7.1 [(⟨0,30,13334,[0]⟩:Short),(⟨1,50,8000,[1]⟩:Short)] hr_27) ⟨dX.refl _,dX.one (dD.d (gG.sl (.inl rfl) (by intro i hi j hj;match i,j,hi,hj with|0,0,_,_=>exact .refl _|0,1,_,_=>exact .refl _|0,2,_,_=>exact .refl _|0,3,_,_=>exact gG.oH|1,0,_,_=>exact .refl _|1,1,_,_=>exact .refl _|1,2,_,_=>exact .refl _|1,3,_,_=>exact gG.oH))),trivial⟩) (by kernel_rfl) ⟨rfl,trivial⟩ rfl),trivial⟩),(hb12),(hb13),(hb13),(fun hg=> ⟨(rfl),((by intro i hi j hj;match i,j,hi,hj with|0,0,_,_=>rfl|1,0,_,_=>rfl)),trivial⟩),(⟨rfl,trivial⟩),(hb13),(fun hg=> ⟨(Fn.xh (frz:=[104]) (p:=[[13334,8000].length=[13334,8000].length]) (Fn.le (args':=(NU v2)) (dz v2.1 [13334,8000] hr_28) ⟨dX.one (dD.d gG.oH),dX.one (dD.d gG.oH),trivial⟩) (by kernel_rfl) ⟨rfl,trivial⟩ rfl),trivial⟩),(hb13),trivial⟩) (bH.le (st':=⟨[(0,(vB w7))],[]⟩) ⟨⟨⟨_,rfl,dh.v (dX.one (dD.of (congrArg (fun b=>CV.d (.bool b)) (CK hb13))))⟩,trivial⟩,trivial⟩) ?_
        refine aR ?_
        obtain rfl:=oi h
        exact rl [(sB w7)]
       ·skip
        refine ri tT (YT u7 v2 w0) (eqs (decide (u7.2=0)) 3 [(bB u7 v2)=true,(bB u7 v2)=true,gP (om u7) [(6,true)]→All [[0].length=1,aH 1 1 (iZ 1 [(.int .i64 0)]) (aC (au .i64) [0])],(bB u7 v2)=true,(bB u7 v2)=true,gP (om u7) [(6,true)]→All [[1].length=1,aH 1 1 (iZ 1 [(.int .i64 1)]) (aC (au .i64) [1])],(bB u7 v2)=true,(bB u7 v2)=true,gP (om u7) [(6,true)]→All [[(⟨0,30,13334,[0]⟩:Short),(⟨1,50,8000,[1]⟩:Short)].length=2,aH 2 4 (iZ 4 nH) (iZ 4 nH)],gP (om u7) [(6,true)],(bB u7 v2)=true,gP (om u7) [(6,true)]→All [Fn Try.prog 52 [(sD (JV u7)),(.one (.own 107 true ([(⟨0,30,13334,[0]⟩:Short),(⟨1,50,8000,[1]⟩:Short)].length)))] ael (vB w0) ael],(bB u7 v2)=true,(nA u7 v2 w0)=false, ¬ gP (om u7) [(15,true)],(nA u7 v2 w0)=false, ¬ gP (om u7) [(15,true)],(nA u7 v2 w0)=false, ¬ gP (om u7) [(15,true)],(nA u7 v2 w0)=false]) {yb:=[(2,(decide (u7.2=0))),(6,true),(15,false)],an:=[(8, .frz [0].length (aC (au .i64) [0])),(10, .frz [1].length (aC (au .i64) [1])),(12, .arr [(⟨0,30,13334,[0]⟩:Short),(⟨1,50,8000,[1]⟩:Short)].length (iZ 4 nH)),(13, .callR [107] (vB w0)),(16, .skip),(17, .skip),(18, .skip)],fr:=[(12,107)] } [] (ae ⟨(hb12),(hb12),(fun hg=> ⟨(rfl),((by intro i hi j hj;match i,j,hi,hj with|0,0,_,_=>rfl)),trivial⟩),(hb12),(hb12),(fun hg=> ⟨(rfl),((by intro i hi j hj;match i,j,hi,hj with|0,0,_,_=>rfl)),trivial⟩),(hb12),(hb12),(fun hg=> ⟨(rfl),(fJ _ _ _),trivial⟩),(⟨rfl,trivial⟩),(hb12),(fun hg=> ⟨(Fn.xh (frz:=[107]) (p:=[[(⟨0,30,13334,[0]⟩:Short),(⟨1,50,8000,[1]⟩:Short)].length=[(⟨0,30,13334,[0]⟩:Short),(⟨1,50,8000,[1]⟩:Short)].length]) (Fn.le (args':=(OU u7)) (bS u7.1 [(⟨0,30,13334,[0]⟩:Short),(⟨1,50,8000,[1]⟩:Short)] hr_27) ⟨dX.refl _,dX.one (dD.d (gG.sl (.inl rfl) (by intro i hi j hj;match i,j,hi,hj with|0,0,_,_=>exact .refl _|0,1,_,_=>exact .refl _|0,2,_,_=>exact .refl _|0,3,_,_=>exact gG.oH|1,0,_,_=>exact .refl _|1,1,_,_=>exact .refl _|1,2,_,_=>exact .refl _|1,3,_,_=>exact gG.oH))),trivial⟩) (by kernel_rfl) ⟨rfl,trivial⟩ rfl),trivial⟩),(hb12),(hb13),((fun h=>Bool.noConfusion (show false=true from h.1))),(hb13),((fun h=>Bool.noConfusion (show false=true from h.1))),(hb13),((fun h=>Bool.noConfusion (show false=true from h.1))),(hb13),trivial⟩) (bH.le (st':=⟨[(0,(vB false))],[]⟩) ⟨⟨⟨_,rfl,dh.v (dX.one (dD.of (congrArg (fun b=>CV.d (.bool b)) (Dq hb13))))⟩,trivial⟩,trivial⟩) ?_
        refine aR ?_
        obtain rfl:=oi h
        exact rl [(sB false)]
      ·skip
       refine bI h (fun hb14 h=> ?_) (fun hb14 h=> ?_)
       ·skip
        refine bE h fun w8 hr_29 h=> ?_
        refine ri tT (Ym u7 v2 w8) (eqs (decide (u7.2=0)) 3 [(bB u7 v2)=false, ¬ gP (j4 u7) [(6,true)],(bB u7 v2)=false, ¬ gP (j4 u7) [(6,true)],(bB u7 v2)=false, ¬ gP (j4 u7) [(6,true)],(bB u7 v2)=false, ¬ gP (j4 u7) [(6,true)],(bB u7 v2)=false, ¬ gP (j4 u7) [(6,true)],(bB u7 v2)=false, ¬ gP (j4 u7) [(6,true)],(bB u7 v2)=false, ¬ gP (j4 u7) [(6,true)],(bB u7 v2)=false,(xg u7 v2)=true,(xg u7 v2)=true,gP (j4 u7) [(15,true)]→All [[13334,8000].length=2,aH 2 1 (iZ 1 Po) (aC (au .i64) [13334,8000])],gP (j4 u7) [(15,true)],(xg u7 v2)=true,gP (j4 u7) [(15,true)]→All [Fn Try.prog 54 [(sD (Lf v2)),(.one (.own 108 true ([13334,8000].length)))] [(108,some Dl)] (vB w8) [(108,some Dl)]],(xg u7 v2)=true]) {yb:=[(2,(decide (u7.2=0))),(6,false),(15,true)],an:=[(7, .skip),(8, .skip),(9, .skip),(10, .skip),(11, .skip),(12, .skip),(13, .skip),(17, .arr [13334,8000].length (aC (au .i64) [13334,8000])),(18, .callR [108] (vB w8))],fr:=[(17,108)] } [] (ae ⟨(hb12),((fun h=>Bool.noConfusion (show false=true from h.1))),(hb12),((fun h=>Bool.noConfusion (show false=true from h.1))),(hb12),((fun h=>Bool.noConfusion (show false=true from h.1))),(hb12),((fun h=>Bool.noConfusion (show false=true from h.1))),(hb12),((fun h=>Bool.noConfusion (show false=true from h.1))),(hb12),((fun h=>Bool.noConfusion (show false=true from h.1))),(hb12),((fun h=>Bool.noConfusion (show false=true from h.1))),(hb12),(hb14),(hb14),(fun hg=> ⟨(rfl),((by intro i hi j hj;match i,j,hi,hj with|0,0,_,_=>rfl|1,0,_,_=>rfl)),trivial⟩),(⟨rfl,trivial⟩),(hb14),(fun hg=> ⟨(Fn.xh (frz:=[108]) (p:=[[13334,8000].length=[13334,8000].length]) (Fn.le (args':=(NU v2)) (dz v2.1 [13334,8000] hr_29) ⟨dX.one (dD.d gG.oH),dX.one (dD.d gG.oH),trivial⟩) (by kernel_rfl) ⟨rfl,trivial⟩ rfl),trivial⟩),(hb14),trivial⟩) (bH.le (st':=⟨[(0,(vB w8))],[]⟩) ⟨⟨⟨_,rfl,dh.v (dX.one (dD.of (congrArg (fun b=>CV.d (.bool b)) (CK hb14))))⟩,trivial⟩,trivial⟩) ?_
        refine aR ?_
        obtain rfl:=oi h
        exact rl [(sB w8)]
       ·skip
        refine ri tT (ZB u7 v2) (Zl u7 v2) {yb:=[(2,(decide (u7.2=0))),(6,false),(15,false)],an:=[(7, .skip),(8, .skip),(9, .skip),(10, .skip),(11, .skip),(12, .skip),(13, .skip),(16, .skip),(17, .skip),(18, .skip)] } [] (ae ⟨(hb12),((fun h=>Bool.noConfusion (show false=true from h.1))),(hb12),((fun h=>Bool.noConfusion (show false=true from h.1))),(hb12),((fun h=>Bool.noConfusion (show false=true from h.1))),(hb12),((fun h=>Bool.noConfusion (show false=true from h.1))),(hb12),((fun h=>Bool.noConfusion (show false=true from h.1))),(hb12),((fun h=>Bool.noConfusion (show false=true from h.1))),(hb12),((fun h=>Bool.noConfusion (show false=true from h.1))),(hb12),(hb14),((fun h=>Bool.noConfusion (show false=true from h.1))),(hb14),((fun h=>Bool.noConfusion (show false=true from h.1))),(hb14),((fun h=>Bool.noConfusion (show false=true from h.1))),(hb14),trivial⟩) (bH.le (st':=⟨[(0,(vB false))],[]⟩) ⟨⟨⟨_,rfl,dh.v (dX.one (dD.of (congrArg (fun b=>CV.d (.bool b)) (Dq hb14))))⟩,trivial⟩,trivial⟩) ?_
        refine aR ?_
        obtain rfl:=oi h
        exact rl [(sB false)]
    ·skip
     refine bE h fun w1 hr_30 h=> ?_
     refine bE h fun x5 hr_31 h=> ?_
     refine rg tT ⟨[(MJ u3),(Ol u3),(117,(vB (bif (XE u0 u1 u2 u4 v5 w1)then true else(!decide (x5=0)))))],[]⟩ (eqs (!decide (u0.2.2=0)) 3 (eqs (GN u0 u1) 3 (eqs (Bv u0 u1 u2) 2 ((gP (Oz u0 u1 u2 u4 v5 w1) [(10,false)]→All [Fn Try.prog 41 (TW u0) [] (vI u4) []])::(eqs (Bv u0 u1 u2) 2 (eqs (GL u0 u1 u2 u4) 3 ((Lm u0 u1 u2 u4)::(Lm u0 u1 u2 u4)::(gP (Oz u0 u1 u2 u4 v5 w1) [(19,false)]→All [[true,false,false].length=3,aH 3 1 (iZ 1 [(.bool true),(.bool false),(.bool false)]) (aC aj [true,false,false])])::(gP (Oz u0 u1 u2 u4 v5 w1) [(19,false)])::(Lm u0 u1 u2 u4)::(gP (Oz u0 u1 u2 u4 v5 w1) [(19,false)]→All [Fn Try.prog 42 [(sD (KS u0)),(.one (.own 109 true ([true,false,false].length)))] [(109,some (bU 4 1 aj [true,false,false]))] (vB v5) [(109,some (bU 4 1 aj [true,false,false]))]])::(Lm u0 u1 u2 u4)::(Lm u0 u1 u2 u4)::(QV u0 u1 u2 u4 v5)::(QV u0 u1 u2 u4 v5)::(QV u0 u1 u2 u4 v5)::(QV u0 u1 u2 u4 v5)::(gP (Oz u0 u1 u2 u4 v5 w1) [(25,false)]→All [[(⟨2,1⟩:Part),(⟨3,0⟩:Part)].length=2,aH 2 2 (iZ 2 [(.int .i64 2),(.int .i64 1),(.int .i64 3),(.int .i64 0)]) (aC Part.cell [(⟨2,1⟩:Part),(⟨3,0⟩:Part)])])::(gP (Oz u0 u1 u2 u4 v5 w1) [(25,false)])::(QV u0 u1 u2 u4 v5)::(gP (Oz u0 u1 u2 u4 v5 w1) [(25,false)]→All [Fn Try.prog 38 [(sD (aU none 2 Part.cell u2.1)),(.one (.own 110 true ([(⟨2,1⟩:Part),(⟨3,0⟩:Part)].length)))] [(110,some (bU 117 2 Part.cell [(⟨2,1⟩:Part),(⟨3,0⟩:Part)]))] (vB w1) [(110,some (bU 117 2 Part.cell [(⟨2,1⟩:Part),(⟨3,0⟩:Part)]))]])::(QV u0 u1 u2 u4 v5)::(QV u0 u1 u2 u4 v5)::(eqs (XE u0 u1 u2 u4 v5 w1) 5 ((gP (Oz u0 u1 u2 u4 v5 w1) [(33,false)]→All [Fn Try.prog 49 (ZG u3 u0) [] (vI x5) []])::(eqs (XE u0 u1 u2 u4 v5 w1) 2 [])))))))))) {yb:=[(2,(!decide (u0.2.2=0))),(6,(GN u0 u1)),(10,(Bv u0 u1 u2)),(15,(GL u0 u1 u2 u4)),(19,false),(25,false),(33,(XE u0 u1 u2 u4 v5 w1))],an:=[(12, .call [] (vI u4) []),(21, .arr [true,false,false].length (aC aj [true,false,false])),(22, .callR [109] (vB v5)),(29, .arr [(⟨2,1⟩:Part),(⟨3,0⟩:Part)].length (aC Part.cell [(⟨2,1⟩:Part),(⟨3,0⟩:Part)])),(30, .callR [110] (vB w1)),(38, .call [] (vI x5) [])],fr:=[(21,109),(29,110)] } [] (ae (ae (ae ⟨(fun hg=> ⟨(dP u0.1 (dU hr_9 (aM hg))),trivial⟩),(ae (ae ⟨(hb1),(hb1),(fun hg=> ⟨(rfl),((by intro i hi j hj;match i,j,hi,hj with|0,0,_,_=>rfl|1,0,_,_=>rfl|2,0,_,_=>rfl)),trivial⟩),(⟨rfl,trivial⟩),(hb1),(fun hg=> ⟨(Fn.xh (frz:=[109]) (p:=[[true,false,false].length=[true,false,false].length]) (Fn.le (args':=[(sD (KS u0)),(sD (aU (some true) 1 aj [true,false,false]))]) (nD u0.2.1 [true,false,false] hr_23) ⟨dX.refl _,dX.one (dD.d gG.oH),trivial⟩) (by kernel_rfl) ⟨rfl,trivial⟩ rfl),trivial⟩),(hb1),(hb1),(hb11),(hb11),(hb11),(hb11),(fun hg=> ⟨(rfl),((by intro i hi j hj;match i,j,hi,hj with|0,0,_,_=>rfl|0,1,_,_=>rfl|1,0,_,_=>rfl|1,1,_,_=>rfl)),trivial⟩),(⟨rfl,trivial⟩),(hb11),(fun hg=> ⟨(Fn.xh (frz:=[110]) (p:=[[(⟨2,1⟩:Part),(⟨3,0⟩:Part)].length=[(⟨2,1⟩:Part),(⟨3,0⟩:Part)].length]) (Fn.le (args':=(ahc u2)) (vM u2.1 [(⟨2,1⟩:Part),(⟨3,0⟩:Part)] hr_30) ⟨dX.refl _,dX.one (dD.d gG.oH),trivial⟩) (by kernel_rfl) ⟨rfl,trivial⟩ rfl),trivial⟩),(hb11),(hb11),(ae ⟨(fun hg=> ⟨(iY u3.1 u3.2 u0.1 u0.2.1 (dU hr_31 (aM hg))),trivial⟩),(ae trivial)⟩)⟩))⟩))) ?_
     refine bI h (fun hb19 h=> ?_) (fun hb19 h=> ?_)
     ·refine ct hb19 ?_
      refine sz tT ⟨[(0,(vB false))],[]⟩ {} [] ?_
      refine aR ?_
      obtain rfl:=oi h
      exact rl [(sB false)]
     ·refine cf hb19 ?_
      refine aP (aQ (bE h fun u8 hr_32 h=> ?_))
      have q0:=mZ u3.1 u3.2 1 hr_32
      refine rg tT (XQ u3 u8) [_] {an:=[(2,cA q0 [])] } [] ⟨q0,trivial⟩ ?_
      refine aQ (bE h fun v3 hr_33 h=> ?_)
      have q0:=lH u3.1 u8.1 hr_33
      refine rg tT (Zv u8 v3) [_] {an:=[(2,cA q0 [])] } [] ⟨q0,trivial⟩ ?_
      refine aQ ?_
      refine bI h (fun hb16 h=> ?_) (fun hb16 h=> ?_)
      ·skip
       refine bE h fun w2 hr_34 h=> ?_
       refine bI h (fun hb17 h=> ?_) (fun hb17 h=> ?_)
       ·skip
        refine bE h fun w9 hr_35 h=> ?_
        refine ri tT (Yy u8 v3 w2 w9) (eqs (decide (u8.2=0)) 3 [(bB u8 v3)=true,(bB u8 v3)=true,gP (nU u8) [(6,true)]→All [[0].length=1,aH 1 1 (iZ 1 [(.int .i64 0)]) (aC (au .i64) [0])],(bB u8 v3)=true,(bB u8 v3)=true,gP (nU u8) [(6,true)]→All [[1].length=1,aH 1 1 (iZ 1 [(.int .i64 1)]) (aC (au .i64) [1])],(bB u8 v3)=true,(bB u8 v3)=true,gP (nU u8) [(6,true)]→All [[(⟨0,30,13334,[0]⟩:Short),(⟨1,50,8000,[1]⟩:Short)].length=2,aH 2 4 (iZ 4 nH) (iZ 4 nH)],gP (nU u8) [(6,true)],(bB u8 v3)=true,gP (nU u8) [(6,true)]→All [Fn Try.prog 52 [(sD (JV u8)),(.one (.own 116 true ([(⟨0,30,13334,[0]⟩:Short),(⟨1,50,8000,[1]⟩:Short)].length)))] aac (vB w2) aac],(bB u8 v3)=true,(nA u8 v3 w2)=true,(nA u8 v3 w2)=true,gP (nU u8) [(15,true)]→All [[13334,8000].length=2,aH 2 1 (iZ 1 Po) (aC (au .i64) [13334,8000])],gP (nU u8) [(15,true)],(nA u8 v3 w2)=true,gP (nU u8) [(15,true)]→All [Fn Try.prog 54 [(sD (Lf v3)),(.one (.own 117 true ([13334,8000].length)))] [(117,some Dl)] (vB w9) [(117,some Dl)]],(nA u8 v3 w2)=true]) {yb:=[(2,(decide (u8.2=0))),(6,true),(15,true)],an:=[(8, .frz [0].length (aC (au .i64) [0])),(10, .frz [1].length (aC (au .i64) [1])),(12, .arr [(⟨0,30,13334,[0]⟩:Short),(⟨1,50,8000,[1]⟩:Short)].length (iZ 4 nH)),(13, .callR [116] (vB w2)),(17, .arr [13334,8000].length (aC (au .i64) [13334,8000])),(18, .callR [117] (vB w9))],fr:=[(12,116),(17,117)] } [] (ae ⟨(hb16),(hb16),(fun hg=> ⟨(rfl),((by intro i hi j hj;match i,j,hi,hj with|0,0,_,_=>rfl)),trivial⟩),(hb16),(hb16),(fun hg=> ⟨(rfl),((by intro i hi j hj;match i,j,hi,hj with|0,0,_,_=>rfl)),trivial⟩),(hb16),(hb16),(fun hg=> ⟨(rfl),(fJ _ _ _),trivial⟩),(⟨rfl,trivial⟩),(hb16),(fun hg=> ⟨(Fn.xh (frz:=[116]) (p:=[[(⟨0,30,13334,[0]⟩:Short),(⟨1,50,8000,[1]⟩:Short)].length=[(⟨0,30,13334,[0]⟩:Short),(⟨1,50,8000,[1]⟩:Short)].length]) (Fn.le (args':=(OU u8)) (bS u8.1 [(⟨0,30,13334,[0]⟩:Short),(⟨1,50,8000,[1]⟩:Short)] hr_34) ⟨dX.refl _,dX.one (dD.d (gG.sl (.inl rfl) (by intro i hi j hj;match i,j,hi,hj with|0,0,_,_=>exact .refl _|0,1,_,_=>exact .refl _|0,2,_,_=>exact .refl _|0,3,_,_=>exact gG.oH|1,0,_,_=>exact .refl _|1,1,_,_=>exact .refl _|1,2,_,_=>exact .refl _|1,3,_,_=>exact gG.oH))),trivial⟩) (by kernel_rfl) ⟨rfl,trivial⟩ rfl),trivial⟩),(hb16),(hb17),(hb17),(fun hg=> ⟨(rfl),((by intro i hi j hj;match i,j,hi,hj with|0,0,_,_=>rfl|1,0,_,_=>rfl)),trivial⟩),(⟨rfl,trivial⟩),(hb17),(fun hg=> ⟨(Fn.xh (frz:=[117]) (p:=[[13334,8000].length=[13334,8000].length]) (Fn.le (args':=(NU v3)) (dz v3.1 [13334,8000] hr_35) ⟨dX.one (dD.d gG.oH),dX.one (dD.d gG.oH),trivial⟩) (by kernel_rfl) ⟨rfl,trivial⟩ rfl),trivial⟩),(hb17),trivial⟩) (bH.le (st':=⟨[(0,(vB w9))],[]⟩) ⟨⟨⟨_,rfl,dh.v (dX.one (dD.of (congrArg (fun b=>CV.d (.bool b)) (CK hb17))))⟩,trivial⟩,trivial⟩) ?_
        refine aR ?_
        obtain rfl:=oi h
        exact rl [(sB w9)]
       ·skip
        refine ri tT (YT u8 v3 w2) (eqs (decide (u8.2=0)) 3 [(bB u8 v3)=true,(bB u8 v3)=true,gP (om u8) [(6,true)]→All [[0].length=1,aH 1 1 (iZ 1 [(.int .i64 0)]) (aC (au .i64) [0])],(bB u8 v3)=true,(bB u8 v3)=true,gP (om u8) [(6,true)]→All [[1].length=1,aH 1 1 (iZ 1 [(.int .i64 1)]) (aC (au .i64) [1])],(bB u8 v3)=true,(bB u8 v3)=true,gP (om u8) [(6,true)]→All [[(⟨0,30,13334,[0]⟩:Short),(⟨1,50,8000,[1]⟩:Short)].length=2,aH 2 4 (iZ 4 nH) (iZ 4 nH)],gP (om u8) [(6,true)],(bB u8 v3)=true,gP (om u8) [(6,true)]→All [Fn Try.prog 52 [(sD (JV u8)),(.one (.own 120 true ([(⟨0,30,13334,[0]⟩:Short),(⟨1,50,8000,[1]⟩:Short)].length)))] ZM (vB w2) ZM],(bB u8 v3)=true,(nA u8 v3 w2)=false, ¬ gP (om u8) [(15,true)],(nA u8 v3 w2)=false, ¬ gP (om u8) [(15,true)],(nA u8 v3 w2)=false, ¬ gP (om u8) [(15,true)],(nA u8 v3 w2)=false]) {yb:=[(2,(decide (u8.2=0))),(6,true),(15,false)],an:=[(8, .frz [0].length (aC (au .i64) [0])),(10, .frz [1].length (aC (au .i64) [1])),(12, .arr [(⟨0,30,13334,[0]⟩:Short),(⟨1,50,8000,[1]⟩:Short)].length (iZ 4 nH)),(13, .callR [120] (vB w2)),(16, .skip),(17, .skip),(18, .skip)],fr:=[(12,120)] } [] (ae ⟨(hb16),(hb16),(fun hg=> ⟨(rfl),((by intro i hi j hj;match i,j,hi,hj with|0,0,_,_=>rfl)),trivial⟩),(hb16),(hb16),(fun hg=> ⟨(rfl),((by intro i hi j hj;match i,j,hi,hj with|0,0,_,_=>rfl)),trivial⟩),(hb16),(hb16),(fun hg=> ⟨(rfl),(fJ _ _ _),trivial⟩),(⟨rfl,trivial⟩),(hb16),(fun hg=> ⟨(Fn.xh (frz:=[120]) (p:=[[(⟨0,30,13334,[0]⟩:Short),(⟨1,50,8000,[1]⟩:Short)].length=[(⟨0,30,13334,[0]⟩:Short),(⟨1,50,8000,[1]⟩:Short)].length]) (Fn.le (args':=(OU u8)) (bS u8.1 [(⟨0,30,13334,[0]⟩:Short),(⟨1,50,8000,[1]⟩:Short)] hr_34) ⟨dX.refl _,dX.one (dD.d (gG.sl (.inl rfl) (by intro i hi j hj;match i,j,hi,hj with|0,0,_,_=>exact .refl _|0,1,_,_=>exact .refl _|0,2,_,_=>exact .refl _|0,3,_,_=>exact gG.oH|1,0,_,_=>exact .refl _|1,1,_,_=>exact .refl _|1,2,_,_=>exact .refl _|1,3,_,_=>exact gG.oH))),trivial⟩) (by kernel_rfl) ⟨rfl,trivial⟩ rfl),trivial⟩),(hb16),(hb17),((fun h=>Bool.noConfusion (show false=true from h.1))),(hb17),((fun h=>Bool.noConfusion (show false=true from h.1))),(hb17),((fun h=>Bool.noConfusion (show false=true from h.1))),(hb17),trivial⟩) (bH.le (st':=⟨[(0,(vB false))],[]⟩) ⟨⟨⟨_,rfl,dh.v (dX.one (dD.of (congrArg (fun b=>CV.d (.bool b)) (Dq hb17))))⟩,trivial⟩,trivial⟩) ?_
        refine aR ?_
        obtain rfl:=oi h
        exact rl [(sB false)]
      ·skip
       refine bI h (fun hb18 h=> ?_) (fun hb18 h=> ?_)
       ·skip
        refine bE h fun x0 hr_36 h=> ?_
        refine ri tT (Ym u8 v3 x0) (eqs (decide (u8.2=0)) 3 [(bB u8 v3)=false, ¬ gP (j4 u8) [(6,true)],(bB u8 v3)=false, ¬ gP (j4 u8) [(6,true)],(bB u8 v3)=false, ¬ gP (j4 u8) [(6,true)],(bB u8 v3)=false, ¬ gP (j4 u8) [(6,true)],(bB u8 v3)=false, ¬ gP (j4 u8) [(6,true)],(bB u8 v3)=false, ¬ gP (j4 u8) [(6,true)],(bB u8 v3)=false, ¬ gP (j4 u8) [(6,true)],(bB u8 v3)=false,(xg u8 v3)=true,(xg u8 v3)=true,gP (j4 u8) [(15,true)]→All [[13334,8000].length=2,aH 2 1 (iZ 1 Po) (aC (au .i64) [13334,8000])],gP (j4 u8) [(15,true)],(xg u8 v3)=true,gP (j4 u8) [(15,true)]→All [Fn Try.prog 54 [(sD (Lf v3)),(.one (.own 121 true ([13334,8000].length)))] [(121,some Dl)] (vB x0) [(121,some Dl)]],(xg u8 v3)=true]) {yb:=[(2,(decide (u8.2=0))),(6,false),(15,true)],an:=[(7, .skip),(8, .skip),(9, .skip),(10, .skip),(11, .skip),(12, .skip),(13, .skip),(17, .arr [13334,8000].length (aC (au .i64) [13334,8000])),(18, .callR [121] (vB x0))],fr:=[(17,121)] } [] (ae ⟨(hb16),((fun h=>Bool.noConfusion (show false=true from h.1))),(hb16),((fun h=>Bool.noConfusion (show false=true from h.1))),(hb16),((fun h=>Bool.noConfusion (show false=true from h.1))),(hb16),((fun h=>Bool.noConfusion (show false=true from h.1))),(hb16),((fun h=>Bool.noConfusion (show false=true from h.1))),(hb16),((fun h=>Bool.noConfusion (show false=true from h.1))),(hb16),((fun h=>Bool.noConfusion (show false=true from h.1))),(hb16),(hb18),(hb18),(fun hg=> ⟨(rfl),((by intro i hi j hj;match i,j,hi,hj with|0,0,_,_=>rfl|1,0,_,_=>rfl)),trivial⟩),(⟨rfl,trivial⟩),(hb18),(fun hg=> ⟨(Fn.xh (frz:=[121]) (p:=[[13334,8000].length=[13334,8000].length]) (Fn.le (args':=(NU v3)) (dz v3.1 [13334,8000] hr_36) ⟨dX.one (dD.d gG.oH),dX.one (dD.d gG.oH),trivial⟩) (by kernel_rfl) ⟨rfl,trivial⟩ rfl),trivial⟩),(hb18),trivial⟩) (bH.le (st':=⟨[(0,(vB x0))],[]⟩) ⟨⟨⟨_,rfl,dh.v (dX.one (dD.of (congrArg (fun b=>CV.d (.bool b)) (CK hb18))))⟩,trivial⟩,trivial⟩) ?_
        refine aR ?_
        obtain rfl:=oi h
        exact rl [(sB x0)]
       ·skip
        refine ri tT (ZB u8 v3) (Zl u8 v3) {yb:=[(2,(decide (u8.2=0))),(6,false),(15,false)],an:=[(7, .skip),(8, .skip),(9, .skip),(10, .skip),(11, .skip),(12, .skip),(13, .skip),(16, .skip),(17, .skip),(18, .skip)] } [] (ae ⟨(hb16),((fun h=>Bool.noConfusion (show false=true from h.1))),(hb16),((fun h=>Bool.noConfusion (show false=true from h.1))),(hb16),((fun h=>Bool.noConfusion (show false=true from h.1))),(hb16),((fun h=>Bool.noConfusion (show false=true from h.1))),(hb16),((fun h=>Bool.noConfusion (show false=true from h.1))),(hb16),((fun h=>Bool.noConfusion (show false=true from h.1))),(hb16),((fun h=>Bool.noConfusion (show false=true from h.1))),(hb16),(hb18),((fun h=>Bool.noConfusion (show false=true from h.1))),(hb18),((fun h=>Bool.noConfusion (show false=true from h.1))),(hb18),((fun h=>Bool.noConfusion (show false=true from h.1))),(hb18),trivial⟩) (bH.le (st':=⟨[(0,(vB false))],[]⟩) ⟨⟨⟨_,rfl,dh.v (dX.one (dD.of (congrArg (fun b=>CV.d (.bool b)) (Dq hb18))))⟩,trivial⟩,trivial⟩) ?_
        refine aR ?_
        obtain rfl:=oi h
        exact rl [(sB false)]
def sJ  :Bool→Exit→St→Prop:=
  fun r=>aW TT [.tmp 4] (vB r) []
section
variable (p:ah)
abbrev KN:Nat × TV:=(5,(vI (p.links.length:Int)))
end
def yZ (p:ah) (s_:State):Int→St:=
  fun i=> ⟨[(k9 p),(bX s_),(KN p),(8,(vI i))],[]⟩
def yT  :Unit→St:=
  fun _=> ⟨[],[]⟩
def GH (p:ah) (s_:State):(aJ Int (Ex Unit Bool))→Exit→St→Prop:=
  LQ 0 [] (yZ p s_) yT sJ
section
variable (s_:State) (p:ah) (i:Int)
abbrev VE:=(!decide ((s_.closed.length:Int)=(p.links.length:Int)))
abbrev Vt:=(bif (VE s_ p)then true else(!decide ((s_.locked.length:Int)=(p.links.length:Int))))
abbrev XB:=(bif (Vt s_ p)then true else(!decide ((s_.badLink.length:Int)=(p.links.length:Int))))
abbrev V7:=(bif (XB s_ p)then true else(!decide ((s_.on_.length:Int)=(p.sources.length:Int))))
abbrev Vl:=(bif (V7 s_ p)then true else(!decide ((s_.badSource.length:Int)=(p.sources.length:Int))))
abbrev Xq:=(bif (Vl s_ p)then true else(!decide ((s_.earthed.length:Int)=p.buses)))
abbrev Vw:=(fQ [(7,(Ca p i)),(14,(ER s_ i))])
end
theorem G6 (p:ah) (s_:State) {r:Bool} (h:nY p s_=some r):Fn Try.prog 85 (OQ s_ p) [] (vB r) []:=by
 refine fN tT Try.func85 rfl rfl fun B=> ?_
 show bn _ _ _ _ _ _ (sJ r) _
 unfold nY at h
 refine sz tT (aaF p s_) {fr:=[(0,2),(1,3)] } [2,3] ?_
 refine sd tT mX ⟨[(k9 p),(bX s_),(KN p),(6,(vI (p.sources.length:Int))),(7,(vI p.buses))],[]⟩ [] {} [] trivial ?_
 refine aQ (sg tT ⟨[(k9 p),(bX s_),(KN p),(63,(vB (bif (Xq s_ p)then true else(!decide ((s_.badBus.length:Int)=p.buses)))))],[]⟩ (eqs (VE s_ p) 6 (eqs (Vt s_ p) 6 (eqs (XB s_ p) 6 (eqs (V7 s_ p) 6 (eqs (Vl s_ p) 6 (eqs (Xq s_ p) 6 [])))))) {yb:=[(5,(VE s_ p)),(12,(Vt s_ p)),(19,(XB s_ p)),(26,(V7 s_ p)),(33,(Vl s_ p)),(40,(Xq s_ p))] } [] (ae (ae (ae (ae (ae (ae trivial)))))) ?_)
 refine bI h (fun hb2 h=> ?_) (fun hb2 h=> ?_)
 ·refine ct hb2 ?_
  refine sz tT ⟨[(4,(vB false))],[]⟩ {} [] ?_
  refine aR ?_
  obtain rfl:=oi h
  exact rl [(sB false)]
 ·refine cf hb2 ?_
  refine aP (aQ (sz tT ⟨[(k9 p),(bX s_),(KN p),(8,(vI 0))],[]⟩ {} [] ?_))
  refine bE h fun y hy h=> ?_
  refine aL [] (yZ p s_) yT sJ hy (fun s f h=> ?_) ?_
  ·clear hy
   show bn _ _ _ _ _ _ ((GH p s_) f) _
   unfold jU at h
   obtain⟨i,rfl⟩: ∃q,q=s:=⟨_,rfl⟩
   refine aQ (sz tT ⟨[(k9 p),(bX s_),(KN p),(8,(vI i)),(66,(k48 p i))],[]⟩ {} [] ?_)
   refine bI h (fun hb1 h=> ?_) (fun hb1 h=> ?_)
   ·refine ct hb1 ?_
    refine aP (aQ (aB (aQ (aO h fun⟨a1,a2,a3⟩ h=> ?_))))
    refine rg tT ⟨[(k9 p),(bX s_),(KN p),(8,(vI i)),(90,(afd s_ p i))],[]⟩ (_::(eqs (Ca p i) 4 ((gP (Vw s_ p i) [(7,true)]→All [(0:Int)≤i∧i<(s_.closed.length:Int)])::(eqs (Ca p i) 3 (eqs (ER s_ i) 4 [gP (Vw s_ p i) [(14,false),(7,true)]→All [(0:Int)≤i∧i<(s_.locked.length:Int)],(ER s_ i)=(ER s_ i),(Ca p i)=(Ca p i),gP (Vw s_ p i) [(7,true)]→All [(ER s_ i)=(ER s_ i)],(Ca p i)=(Ca p i)]))))) {yb:=[(7,(Ca p i)),(14,(ER s_ i))] } [] ⟨a1,(ae ⟨(fun hg=> ⟨(a2 (aM hg)),trivial⟩),(ae (ae ⟨(fun hg=> ⟨(a3 (aM hg)),trivial⟩),rfl,rfl,(fun hg=> ⟨rfl,trivial⟩),rfl,trivial⟩))⟩)⟩ ?_
    refine bI h (fun hb h=> ?_) (fun hb h=> ?_)
    ·refine ct hb ?_
     refine sz tT ⟨[(4,(vB false))],[]⟩ {} [] ?_
     refine aR ?_
     obtain rfl:=oi h
     exact lR bD (bC 0) bG (aW.mk (.inr rfl) (p:=[]) (l:=[(sB false)]) (by kernel_rfl) trivial (dh.refl _) trivial)
    ·refine cf hb ?_
     refine aP (rz tT ⟨[(k9 p),(bX s_),(KN p),(Ul i)],[]⟩ {} [] ?_)
     obtain rfl:=oi h
     exact lN
   ·refine cf hb1 ?_
    refine aI (fz ⟨[],[]⟩ []) ?_
    refine aX ?_
    obtain rfl:=oi h
    exact lB
  ·clear hy
   cases y with
   |brk z=>
    unfold dA
    refine⟨_, .refl, ?_⟩
    refine sz tT ⟨[(4,(vB true))],[]⟩ {} [] ?_
    refine aR ?_
    obtain rfl:=oi h
    exact rl [(sB true)]
   |ret v=>
    obtain rfl:=oi h
    unfold dA
    intro e st hn ha hR
    cases e with
    |normal=>exact absurd rfl hn
    |exit id=>exact hR
    |goto l=>exact hR
    |ret=>exact hR
    |panic c=>exact hR
    |outgrown=>exact hR
def BP  :Int→Exit→St→Prop:=
  fun r=>aW TT [.tmp 4] (vI r) []
theorem qj (p:ah) (s_:State) {r:Int} (h:fO p s_=some r):Fn Try.prog 37 (OQ s_ p) [] (vI r) []:=by
 refine fN tT Try.func37 rfl rfl fun B=> ?_
 show bn _ _ _ _ _ _ (BP r) _
 unfold fO at h
 refine sz tT (aaF p s_) {fr:=[(0,2),(1,3)] } [2,3] ?_
 refine aQ (bE h fun r_ hr_ h=> ?_)
 have q0:=Hw p hr_
 refine rg tT ⟨[(k9 p),(bX s_),(5,(vI r_))],[]⟩ [_] {an:=[(1,cA q0 [])] } [] ⟨q0,trivial⟩ ?_
 refine aQ (aQ (bE h fun u0 hr_1 h=> ?_))
 refine rg tT ⟨[(5,(vI r_)),(15,(vB (bif (decide (r_=0))then(!u0)else false)))],[]⟩ (eqs (decide (r_=0)) 3 ((gP (fQ [(2,(decide (r_=0)))]) [(2,true)]→All [Fn Try.prog 85 (OQ s_ p) [] (vB u0) []])::(eqs (decide (r_=0)) 2 []))) {yb:=[(2,(decide (r_=0)))],an:=[(5, .call [] (vB u0) [])] } [] (ae ⟨(fun hg=> ⟨(G6 p s_ (dU hr_1 (aM hg))),trivial⟩),(ae trivial)⟩) ?_
 refine bI h (fun hb h=> ?_) (fun hb h=> ?_)
 ·refine ct hb ?_
  refine rz tT ⟨[(5,(vI 9))],[]⟩ {} [] ?_
  refine sz tT ⟨[(4,(vI 9))],[]⟩ {} [] ?_
  refine aR ?_
  obtain rfl:=oi h
  exact rl [(sI 9)]
 ·refine cf hb ?_
  refine aP (sz tT ⟨[(4,(vI r_))],[]⟩ {} [] ?_)
  refine aR ?_
  obtain rfl:=oi h
  exact rl [(sI r_)]
def II  :Bool→Exit→St→Prop:=
  fun r=>aW TT [.tmp 6] (vB r) []
theorem y7 (p:ah) (s_:State) (k:Int) {r:Bool} (h:kR p s_ k=some r):Fn Try.prog 83 (Ng p s_ k) [] (vB r) []:=by
 refine fN tT Try.func83 rfl rfl fun B=> ?_
 show bn _ _ _ _ _ _ (II r) _
 unfold kR at h
 refine sz tT (acv p s_ k) {fr:=[(0,2),(1,3)] } [2,3] ?_
 refine aQ (aO h fun⟨a1,a2,a3,a4⟩ h=> ?_)
 refine dg tT mX (ahU p s_ k) (_::(aeB p s_ k)) {yb:=[(5,(at' s_.on_ k.toNat)),(13,(Rf s_ k))] } [] ⟨a1,(ae ⟨(fun hg=> ⟨(a2 (aM hg)),trivial⟩),(ae (ae ⟨(fun hg=> ⟨(a3 (aM hg)),trivial⟩),(ae ⟨(fun hg=> ⟨(a4 (aM hg)),trivial⟩),(ae trivial)⟩)⟩))⟩)⟩ ?_
 refine aR ?_
 obtain rfl:=oi h
 exact rl (adx p s_ k)
def Ei  :Bool→Exit→St→Prop:=
  fun r=>aW TT [.tmp 6] (vB r) []
section
variable (s_:State) (i:Int) (p:ah)
abbrev O4:=(fQ [(5,(at' s_.closed i.toNat)),(13,(K5 s_ i)),(26,(Nh s_ i p))])
end
theorem tF (p:ah) (s_:State) (i:Int) {r:Bool} (h:iy p s_ i=some r):Fn Try.prog 84 (Ng p s_ i) [] (vB r) []:=by
 refine fN tT Try.func84 rfl rfl fun B=> ?_
 show bn _ _ _ _ _ _ (Ei r) _
 unfold iy at h
 refine sz tT (acv p s_ i) {fr:=[(0,2),(1,3)] } [2,3] ?_
 refine aQ (aO h fun⟨a1,a2,a3,a4,a5,a6⟩ h=> ?_)
 refine dg tT mX (adz s_ i p) (_::(eqs (at' s_.closed i.toNat) 4 ((gP (O4 s_ i p) [(5,true)]→All [(0:Int)≤i∧i<(s_.badLink.length:Int)])::(eqs (at' s_.closed i.toNat) 3 (eqs (K5 s_ i) 6 ((gP (O4 s_ i p) [(13,true)]→All [(0:Int)≤i∧i<(p.links.length:Int)])::(eqs (K5 s_ i) 3 ((gP (O4 s_ i p) [(13,true)]→All [(0:Int)≤(at' p.links i.toNat).a∧(at' p.links i.toNat).a<(s_.badBus.length:Int)])::(eqs (K5 s_ i) 3 (eqs (Nh s_ i p) 6 ((gP (O4 s_ i p) [(26,true)]→All [(0:Int)≤i∧i<(p.links.length:Int)])::(eqs (Nh s_ i p) 3 ((gP (O4 s_ i p) [(26,true)]→All [(0:Int)≤(at' p.links i.toNat).b∧(at' p.links i.toNat).b<(s_.badBus.length:Int)])::(ahN s_ i p)))))))))))))) {yb:=[(5,(at' s_.closed i.toNat)),(13,(K5 s_ i)),(26,(Nh s_ i p))] } [] ⟨a1,(ae ⟨(fun hg=> ⟨(a2 (aM hg)),trivial⟩),(ae (ae ⟨(fun hg=> ⟨(a3 (aM hg)),trivial⟩),(ae ⟨(fun hg=> ⟨(a4 (aM hg)),trivial⟩),(ae (ae ⟨(fun hg=> ⟨(a5 (aM hg)),trivial⟩),(ae ⟨(fun hg=> ⟨(a6 (aM hg)),trivial⟩),(ae trivial)⟩)⟩))⟩)⟩))⟩)⟩ ?_
 refine aR ?_
 obtain rfl:=oi h
 exact rl (ahg s_ i p)
def eH  :Int→Exit→St→Prop:=
  fun r=>aW TT [.tmp 6] (vI r) []
def tV (p:ah) (s_:State) (u0:(List Bool)):(Int × Int)→St:=
  fun zz=>match zz with|(n,k)=> ⟨[(jf u0),(aD p),(aK s_),(7,(vI n)),(8,(vI k))],[]⟩
section
variable (u0:(List Bool)) (p:ah) (s_:State) (n1:Int)
abbrev Z0:St:=⟨[(jf u0),(aD p),(aK s_),(7,(vI n1))],[]⟩
end
def sM (p:ah) (s_:State) (u0:(List Bool)):Int→St:=
  fun n1=>(Z0 u0 p s_ n1)
def Du (p:ah) (s_:State) (u0:(List Bool)):(aJ (Int × Int) (Ex Int Int))→Exit→St→Prop:=
  LQ 0 [] (tV p s_ u0) (sM p s_ u0) eH
def uy (p:ah) (s_:State) (u0:(List Bool)):(Int × Int)→St:=
  fun zz=>match zz with|(n2,i)=> ⟨[(jf u0),(aD p),(aK s_),(7,(vI n2)),(9,(vI i))],[]⟩
section
variable (u0:(List Bool)) (p:ah) (n3:Int)
abbrev aad:St:=⟨[(jf u0),(aD p),(7,(vI n3))],[]⟩
end
def sO (p:ah) (u0:(List Bool)):Int→St:=
  fun n3=>(aad u0 p n3)
def CG (p:ah) (s_:State) (u0:(List Bool)):(aJ (Int × Int) (Ex Int Int))→Exit→St→Prop:=
  LQ 2 [] (uy p s_ u0) (sO p u0) eH
def uh (p:ah) (u0:(List Bool)):(Int × Int)→St:=
  fun zz=>match zz with|(n4,u1)=> ⟨[(jf u0),(aD p),(7,(vI n4)),(10,(vI u1))],[]⟩
def uw  :Int→St:=
  fun n5=> ⟨[(7,(vI n5))],[]⟩
def C8 (p:ah) (u0:(List Bool)):(aJ (Int × Int) (Ex Int Int))→Exit→St→Prop:=
  LQ 4 [] (uh p u0) uw eH
section
variable (u0:(List Bool)) (p:ah) (u1:Int)
abbrev Ij:=(at' u0 ((R9 p u1).toNat))
abbrev yX:=(decide (0≤(Sd p u1)))
abbrev aah:=((if(KZ p u1).e1<0 then 0 else(KZ p u1).e1).toNat)
abbrev ZQ:=(fQ [(4,(Ij u0 p u1)),(7,(yX p u1))])
end
theorem CQ (p:ah) (s_:State) (u0:(List Bool)) {r:Int} (h:jL p s_ u0=some r):Fn Try.prog 89 (Yu p s_ u0) [] (vI r) []:=by
 refine fN tT Try.func89 rfl rfl fun B=> ?_
 show bn _ _ _ _ _ _ (eH r) _
 unfold jL at h
 refine sz tT (RO u0 p s_) {fr:=[(0,2),(1,3)] } [2,3] ?_
 refine sz tT ⟨[(jf u0),(aD p),(aK s_),(7,(vI 0))],[]⟩ {} [] ?_
 refine aQ (sz tT ⟨[(jf u0),(aD p),(aK s_),(7,(vI 0)),(8,(vI 0))],[]⟩ {} [] ?_)
 refine bE h fun y hy h=> ?_
 refine aL [] (tV p s_ u0) (sM p s_ u0) eH hy (fun s f h=> ?_) ?_
 ·clear hy
  show bn _ _ _ _ _ _ ((Du p s_ u0) f) _
  unfold jq at h
  obtain⟨n,k⟩:=s
  refine aQ (sz tT ⟨[(jf u0),(aD p),(aK s_),(7,(vI n)),(8,(vI k)),(17,(k36 p k))],[]⟩ {} [] ?_)
  refine bI h (fun hb1 h=> ?_) (fun hb1 h=> ?_)
  ·refine ct hb1 ?_
   refine aP (aQ (aB (aQ (bE h fun r_ hr_ h=> ?_))))
   refine aO h fun⟨a1,a2⟩ h=> ?_
   have q0:=y7 p s_ k hr_
   refine rg tT ⟨[(jf u0),(aD p),(aK s_),(7,(vI n)),(8,(vI k)),(35,(vB (bif r_ then(!(at' u0 (Un p k)))else false)))],[]⟩ (_::(eqs r_ 5 ((gP (fQ [(4,r_)]) [(4,true)]→All [(0:Int)≤k∧k<(p.sources.length:Int)])::(eqs r_ 3 ((gP (fQ [(4,r_)]) [(4,true)]→All [(0:Int)≤(at' p.sources k.toNat).bus∧(at' p.sources k.toNat).bus<(u0.length:Int)])::(eqs r_ 3 [])))))) {yb:=[(4,r_)],an:=[(3,cA q0 [])] } [] ⟨q0,(ae ⟨(fun hg=> ⟨(a1 (aM hg)),trivial⟩),(ae ⟨(fun hg=> ⟨(a2 (aM hg)),trivial⟩),(ae trivial)⟩)⟩)⟩ ?_
   refine bI h (fun hb h=> ?_) (fun hb h=> ?_)
   ·refine ct hb ?_
    refine aO h fun a1 h=> ?_
    refine rg tT ⟨[(jf u0),(aD p),(aK s_),(7,(vI (IntKind.wrap .i64 (n+(YM p k))))),(8,(vI k))],[]⟩ [_] {} [] ⟨a1,trivial⟩ ?_
    refine rz tT ⟨[(jf u0),(aD p),(aK s_),(7,(vI (IntKind.wrap .i64 (n+(YM p k))))),(Ul k)],[]⟩ {} [] ?_
    obtain rfl:=oi h
    exact lN
   ·refine cf hb ?_
    refine aP (rz tT ⟨[(jf u0),(aD p),(aK s_),(7,(vI n)),(Ul k)],[]⟩ {} [] ?_)
    obtain rfl:=oi h
    exact lN
  ·refine cf hb1 ?_
   refine aI (fz (Z0 u0 p s_ n) []) ?_
   refine aX ?_
   obtain rfl:=oi h
   exact lB
 ·clear hy
  cases y with
  |brk z=>
   obtain⟨n1,rfl⟩: ∃q,q=z:=⟨_,rfl⟩
   unfold dA
   refine⟨_, .refl, ?_⟩
   refine aQ (sz tT ⟨[(jf u0),(aD p),(aK s_),(7,(vI n1)),(9,(vI 0))],[]⟩ {} [] ?_)
   refine bE h fun y1 hy h=> ?_
   refine aL [] (uy p s_ u0) (sO p u0) eH hy (fun s f h=> ?_) ?_
   ·clear hy
    show bn _ _ _ _ _ _ ((CG p s_ u0) f) _
    unfold jw at h
    obtain⟨n2,i⟩:=s
    refine aQ (sz tT ⟨[(jf u0),(aD p),(aK s_),(7,(vI n2)),(9,(vI i)),(48,(k48 p i))],[]⟩ {} [] ?_)
    refine bI h (fun hb3 h=> ?_) (fun hb3 h=> ?_)
    ·refine ct hb3 ?_
     refine aP (aQ (aB (aQ (bE h fun u2 hr_1 h=> ?_))))
     refine aO h fun⟨a1,a2,a3⟩ h=> ?_
     have q0:=tF p s_ i hr_1
     refine dg tT mX ⟨[(jf u0),(aD p),(aK s_),(7,(vI n2)),(9,(vI i)),(75,(vB (bif u2 then(!((at' u0 (UY i p))==(at' u0 (VD i p))))else false)))],[]⟩ (_::(eqs u2 5 ((gP (fQ [(4,u2)]) [(4,true)]→All [(0:Int)≤i∧i<(p.links.length:Int)])::(eqs u2 3 ((gP (fQ [(4,u2)]) [(4,true)]→All [(0:Int)≤(at' p.links i.toNat).a∧(at' p.links i.toNat).a<(u0.length:Int)])::(eqs u2 6 ((gP (fQ [(4,u2)]) [(4,true)]→All [(0:Int)≤i∧i<(p.links.length:Int)])::(eqs u2 3 ((gP (fQ [(4,u2)]) [(4,true)]→All [(0:Int)≤(at' p.links i.toNat).b∧(at' p.links i.toNat).b<(u0.length:Int)])::(eqs u2 3 [])))))))))) {yb:=[(4,u2)],an:=[(3,cA q0 [])] } [] ⟨q0,(ae ⟨(fun hg=> ⟨(a1 (aM hg)),trivial⟩),(ae ⟨(fun hg=> ⟨(a2 (aM hg)),trivial⟩),(ae ⟨(fun hg=> ⟨(a1 (aM hg)),trivial⟩),(ae ⟨(fun hg=> ⟨(a3 (aM hg)),trivial⟩),(ae trivial)⟩)⟩)⟩)⟩)⟩ ?_
     refine bI h (fun hb2 h=> ?_) (fun hb2 h=> ?_)
     ·refine ct hb2 ?_
      refine aO h fun a1 h=> ?_
      refine rg tT ⟨[(jf u0),(aD p),(aK s_),(7,(vI (IntKind.wrap .i64 (n2+(Lg p i))))),(9,(vI i))],[]⟩ [_] {} [] ⟨a1,trivial⟩ ?_
      refine rz tT ⟨[(jf u0),(aD p),(aK s_),(7,(vI (IntKind.wrap .i64 (n2+(Lg p i))))),(Tv i)],[]⟩ {} [] ?_
      obtain rfl:=oi h
      exact lN
     ·refine cf hb2 ?_
      refine aP (rz tT ⟨[(jf u0),(aD p),(aK s_),(7,(vI n2)),(Tv i)],[]⟩ {} [] ?_)
      obtain rfl:=oi h
      exact lN
    ·refine cf hb3 ?_
     refine aI (fz (aad u0 p n2) []) ?_
     refine aX ?_
     obtain rfl:=oi h
     exact lB
   ·clear hy
    cases y1 with
    |brk z=>
     obtain⟨n3,rfl⟩: ∃q,q=z:=⟨_,rfl⟩
     unfold dA
     refine⟨_, .refl, ?_⟩
     refine aQ (sz tT ⟨[(jf u0),(aD p),(7,(vI n3)),(10,(vI 0))],[]⟩ {} [] ?_)
     refine bE h fun y2 hy h=> ?_
     refine aL [] (uh p u0) uw eH hy (fun s f h=> ?_) ?_
     ·clear hy
      show bn _ _ _ _ _ _ ((C8 p u0) f) _
      unfold jl at h
      obtain⟨n4,u1⟩:=s
      refine aQ (sz tT ⟨[(jf u0),(aD p),(7,(vI n4)),(10,(vI u1)),(88,(vB (decide (u1<(p.racks.length:Int)))))],[]⟩ {} [] ?_)
      refine bI h (fun hb5 h=> ?_) (fun hb5 h=> ?_)
      ·refine ct hb5 ?_
       refine aP (aQ (aB (aQ (aO h fun a1 h=> ?_))))
       refine dg tT mX ⟨[(jf u0),(aD p),(7,(vI n4)),(10,(vI u1)),(11,(vI (R9 p u1))),(12,(vI (Sd p u1)))],[]⟩ [_,(0:Int)≤0∧(0:Int)<(2:Nat),_,(0:Int)≤1∧(1:Int)<(2:Nat)] {} [] ⟨a1,((by decide)),a1,((by decide)),trivial⟩ ?_
       refine aQ (aO h fun⟨a1,a2⟩ h=> ?_)
       refine rg tT ⟨[(jf u0),(aD p),(7,(vI n4)),(10,(vI u1)),(119,(vB (bif (Ij u0 p u1)then true else(bif (yX p u1)then(at' u0 (aah p u1))else false))))],[]⟩ (_::(eqs (Ij u0 p u1) 3 (eqs (yX p u1) 4 [gP (ZQ u0 p u1) [(7,true),(4,false)]→All [(0:Int)≤(if(KZ p u1).e1<0 then 0 else(KZ p u1).e1)∧(if(KZ p u1).e1<0 then 0 else(KZ p u1).e1)<(u0.length:Int)],(yX p u1)=(yX p u1),(Ij u0 p u1)=(Ij u0 p u1),gP (ZQ u0 p u1) [(4,false)]→All [(yX p u1)=(yX p u1)],(Ij u0 p u1)=(Ij u0 p u1)]))) {yb:=[(4,(Ij u0 p u1)),(7,(yX p u1))] } [] ⟨a1,(ae (ae ⟨(fun hg=> ⟨(a2 (aM hg)),trivial⟩),rfl,rfl,(fun hg=> ⟨rfl,trivial⟩),rfl,trivial⟩))⟩ ?_
       refine bI h (fun hb4 h=> ?_) (fun hb4 h=> ?_)
       ·refine ct hb4 ?_
        refine aO h fun a1 h=> ?_
        refine rg tT ⟨[(jf u0),(aD p),(7,(vI (IntKind.wrap .i64 (n4+(R3 p u1))))),(10,(vI u1))],[]⟩ [_] {} [] ⟨a1,trivial⟩ ?_
        refine rz tT ⟨[(jf u0),(aD p),(7,(vI (IntKind.wrap .i64 (n4+(R3 p u1))))),(10,(k3 u1))],[]⟩ {} [] ?_
        obtain rfl:=oi h
        exact lN
       ·refine cf hb4 ?_
        refine aP (rz tT ⟨[(jf u0),(aD p),(7,(vI n4)),(10,(k3 u1))],[]⟩ {} [] ?_)
        obtain rfl:=oi h
        exact lN
      ·refine cf hb5 ?_
       refine aI (fz ⟨[(7,(vI n4))],[]⟩ []) ?_
       refine aX ?_
       obtain rfl:=oi h
       exact lB
     ·clear hy
      cases y2 with
      |brk z=>
       obtain⟨n5,rfl⟩: ∃q,q=z:=⟨_,rfl⟩
       unfold dA
       refine⟨_, .refl, ?_⟩
       refine sz tT ⟨[(6,(vI n5))],[]⟩ {} [] ?_
       refine aR ?_
       obtain rfl:=oi h
       exact rl [(sI n5)]
      |ret v=>
       obtain rfl:=oi h
       unfold dA
       intro e st hn ha hR
       cases e with
       |normal=>exact absurd rfl hn
       |exit id=>exact hR
       |goto l=>exact hR
       |ret=>exact hR
       |panic c=>exact hR
       |outgrown=>exact hR
    |ret v=>
     obtain rfl:=oi h
     unfold dA
     intro e st hn ha hR
     cases e with
     |normal=>exact absurd rfl hn
     |exit id=>exact hR
     |goto l=>exact hR
     |ret=>exact hR
     |panic c=>exact hR
     |outgrown=>exact hR
  |ret v=>
   obtain rfl:=oi h
   unfold dA
   intro e st hn ha hR
   cases e with
   |normal=>exact absurd rfl hn
   |exit id=>exact hR
   |goto l=>exact hR
   |ret=>exact hR
   |panic c=>exact hR
   |outgrown=>exact hR
def fw  :Int→Exit→St→Prop:=
  fun r=>aW TT [.tmp 6] (vI r) []
section
variable (x:ai)
abbrev fF:Nat × TV:=(4,(ZI x))
end
def vC (p:ah) (x:ai) (b:Int):(Int × Int)→St:=
  fun zz=>match zz with|(n,k)=> ⟨[(2,(vI b)),(aD p),(fF x),(7,(vI n)),(8,(vI k))],[]⟩
section
variable (b:Int) (p:ah) (x:ai) (n1:Int)
abbrev Si:St:=⟨[(2,(vI b)),(aD p),(fF x),(7,(vI n1))],[]⟩
end
def wN (p:ah) (x:ai) (b:Int):Int→St:=
  fun n1=>(Si b p x n1)
def Eh (p:ah) (x:ai) (b:Int):(aJ (Int × Int) (Ex Int Int))→Exit→St→Prop:=
  LQ 0 [] (vC p x b) (wN p x b) fw
section
variable (b:Int) (p:ah) (x:ai) (n2:Int) (i:Int)
abbrev VA:St:=⟨[(2,(vI b)),(aD p),(fF x),(7,(vI n2)),(9,(vI i))],[]⟩
end
def wP (p:ah) (x:ai) (b:Int):(Int × Int)→St:=
  fun zz=>match zz with|(n2,i)=>(VA b p x n2 i)
def wE (p:ah) (x:ai) (b:Int):Int→St:=
  fun n3=>(Si b p x n3)
def EF (p:ah) (x:ai) (b:Int):(aJ (Int × Int) (Ex Int Int))→Exit→St→Prop:=
  LQ 2 [] (wP p x b) (wE p x b) fw
section
variable (b:Int) (p:ah) (x:ai) (n5:Int) (r_:Int)
abbrev U9:St:=⟨[(2,(vI b)),(aD p),(fF x),(7,(vI n5)),(10,(vI r_))],[]⟩
end
def wO (p:ah) (x:ai) (b:Int):(Int × Int)→St:=
  fun zz=>match zz with|(n5,r_)=>(U9 b p x n5 r_)
def wz  :Int→St:=
  fun n6=> ⟨[(7,(vI n6))],[]⟩
def oK (p:ah) (x:ai) (b:Int):(aJ (Int × Int) (Ex Int Int))→Exit→St→Prop:=
  LQ 4 [] (wO p x b) wz fw
def vK (p:ah) (x:ai) (b:Int) (r_:Int):(Int × Int)→St:=
  fun zz=>match zz with|(n7,k1)=> ⟨[(2,(vI b)),(aD p),(fF x),(7,(vI n7)),(10,(vI r_)),(11,(vI k1))],[]⟩
def wU (p:ah) (x:ai) (b:Int) (r_:Int):Int→St:=
  fun n8=>(U9 b p x n8 r_)
def ET (p:ah) (x:ai) (b:Int) (r_:Int):(aJ (Int × Int) (Ex Int (aJ (Int × Int) (Ex Int Int))))→Exit→St→Prop:=
  LQ 6 [5] (vK p x b r_) (wU p x b r_) (oK p x b)
section
variable (b:Int) (p:ah) (x:ai) (n2:Int) (i:Int)
abbrev Z7:St:=⟨[(2,(vI b)),(aD p),(fF x),(7,(vI (IntKind.wrap .i64 (n2 - (at' x.links i.toNat))))),(9,(vI i))],[]⟩
end
theorem EI (p:ah) (x:ai) (b:Int) {r:Int} (h:kN p x b=some r):Fn Try.prog 127 [(.agg (k7 p)),(.agg (XF x)),(sI b)] [] (vI r) []:=by
 refine fN tT Try.func127 rfl rfl fun B=> ?_
 show bn _ _ _ _ _ _ (fw r) _
 unfold kN at h
 refine sz tT ⟨[(2,(vI b)),(aD p),(fF x)],[]⟩ {fr:=[(0,2),(1,3)] } [2,3] ?_
 refine sz tT ⟨[(2,(vI b)),(aD p),(fF x),(7,(vI 0))],[]⟩ {} [] ?_
 refine aQ (sz tT ⟨[(2,(vI b)),(aD p),(fF x),(7,(vI 0)),(8,(vI 0))],[]⟩ {} [] ?_)
 refine bE h fun y hy h=> ?_
 refine aL [] (vC p x b) (wN p x b) fw hy (fun s f h=> ?_) ?_
 ·clear hy
  show bn _ _ _ _ _ _ ((Eh p x b) f) _
  unfold j6 at h
  obtain⟨n,k⟩:=s
  refine aQ (sz tT ⟨[(2,(vI b)),(aD p),(fF x),(7,(vI n)),(8,(vI k)),(16,(Ze x k))],[]⟩ {} [] ?_)
  refine bI h (fun hb1 h=> ?_) (fun hb1 h=> ?_)
  ·refine ct hb1 ?_
   refine aP (aQ (aB (aQ (aO h fun a1 h=> ?_))))
   refine rg tT ⟨[(2,(vI b)),(aD p),(fF x),(7,(vI n)),(8,(vI k)),(26,(vB (decide ((XM p k)=b))))],[]⟩ [_] {} [] ⟨a1,trivial⟩ ?_
   refine bI h (fun hb h=> ?_) (fun hb h=> ?_)
   ·refine ct hb ?_
    refine aO h fun a1 h=> ?_
    refine rg tT ⟨[(2,(vI b)),(aD p),(fF x),(7,(vI (IntKind.wrap .i64 (n+(at' x.sources k.toNat))))),(8,(vI k))],[]⟩ [_] {} [] ⟨a1,trivial⟩ ?_
    refine rz tT ⟨[(2,(vI b)),(aD p),(fF x),(7,(vI (IntKind.wrap .i64 (n+(at' x.sources k.toNat))))),(Ul k)],[]⟩ {} [] ?_
    obtain rfl:=oi h
    exact lN
   ·refine cf hb ?_
    refine aP (rz tT ⟨[(2,(vI b)),(aD p),(fF x),(7,(vI n)),(Ul k)],[]⟩ {} [] ?_)
    obtain rfl:=oi h
    exact lN
  ·refine cf hb1 ?_
   refine aI (fz (Si b p x n) []) ?_
   refine aX ?_
   obtain rfl:=oi h
   exact lB
 ·clear hy
  cases y with
  |brk z=>
   obtain⟨n1,rfl⟩: ∃q,q=z:=⟨_,rfl⟩
   unfold dA
   refine⟨_, .refl, ?_⟩
   refine aQ (sz tT ⟨[(2,(vI b)),(aD p),(fF x),(7,(vI n1)),(9,(vI 0))],[]⟩ {} [] ?_)
   refine bE h fun y2 hy h=> ?_
   refine aL [] (wP p x b) (wE p x b) fw hy (fun s f h=> ?_) ?_
   ·clear hy
    show bn _ _ _ _ _ _ ((EF p x b) f) _
    unfold kz at h
    obtain⟨n2,i⟩:=s
    refine aQ (sz tT ⟨[(2,(vI b)),(aD p),(fF x),(7,(vI n2)),(9,(vI i)),(38,(X7 x i))],[]⟩ {} [] ?_)
    refine bI h (fun hb5 h=> ?_) (fun hb5 h=> ?_)
    ·refine ct hb5 ?_
     refine aP (bE h fun y1 hy h=> ?_)
     refine Mx (o:=y1) (fun n4=>(VA b p x n4 i)) ?_ ?_
     ·replace h:=hy
      clear hy
      refine aB (aQ (aQ (aO h fun a1 h=> ?_)))
      refine rg tT ⟨[(2,(vI b)),(aD p),(fF x),(7,(vI n2)),(9,(vI i)),(48,(vB (decide (((at' p.links i.toNat).a)=b))))],[]⟩ [_] {} [] ⟨a1,trivial⟩ ?_
      refine bI h (fun hb4 h=> ?_) (fun hb4 h=> ?_)
      ·refine ct hb4 ?_
       refine aO h fun a1 h=> ?_
       refine rg tT (Z7 b p x n2 i) [_] {} [] ⟨a1,trivial⟩ ?_
       refine aQ (aO h fun a1 h=> ?_)
       refine rg tT ⟨[(2,(vI b)),(aD p),(fF x),(7,(vI (IntKind.wrap .i64 (n2 - (at' x.links i.toNat))))),(9,(vI i)),(63,(vB (decide (((at' p.links i.toNat).b)=b))))],[]⟩ [_] {} [] ⟨a1,trivial⟩ ?_
       refine bI h (fun hb2 h=> ?_) (fun hb2 h=> ?_)
       ·refine ct hb2 ?_
        refine aO h fun a1 h=> ?_
        refine rg tT ⟨[(2,(vI b)),(aD p),(fF x),(7,(vI (IntKind.wrap .i64 ((IntKind.wrap .i64 (n2 - (at' x.links i.toNat)))+(at' x.links i.toNat))))),(9,(vI i))],[]⟩ [_] {} [] ⟨a1,trivial⟩ ?_
        obtain rfl:=oi h
        exact⟨rfl,by kernel_rfl⟩
       ·refine cf hb2 ?_
        refine aI (fz (Z7 b p x n2 i) []) ?_
        refine aP ?_
        obtain rfl:=oi h
        exact⟨rfl,by kernel_rfl⟩
      ·refine cf hb4 ?_
       refine aP (aQ (aO h fun a1 h=> ?_))
       refine rg tT ⟨[(2,(vI b)),(aD p),(fF x),(7,(vI n2)),(9,(vI i)),(63,(vB (decide (((at' p.links i.toNat).b)=b))))],[]⟩ [_] {} [] ⟨a1,trivial⟩ ?_
       refine bI h (fun hb3 h=> ?_) (fun hb3 h=> ?_)
       ·refine ct hb3 ?_
        refine aO h fun a1 h=> ?_
        refine rg tT ⟨[(2,(vI b)),(aD p),(fF x),(7,(vI (IntKind.wrap .i64 (n2+(at' x.links i.toNat))))),(9,(vI i))],[]⟩ [_] {} [] ⟨a1,trivial⟩ ?_
        obtain rfl:=oi h
        exact⟨rfl,by kernel_rfl⟩
       ·refine cf hb3 ?_
        refine aI (fz (VA b p x n2 i) []) ?_
        refine aP ?_
        obtain rfl:=oi h
        exact⟨rfl,by kernel_rfl⟩
     ·clear hy
      obtain⟨n4,rfl⟩: ∃q,q=y1:=⟨_,rfl⟩
      refine rz tT ⟨[(2,(vI b)),(aD p),(fF x),(7,(vI n4)),(Tv i)],[]⟩ {} [] ?_
      obtain rfl:=oi h
      exact lN
    ·refine cf hb5 ?_
     refine aI (fz (Si b p x n2) []) ?_
     refine aX ?_
     obtain rfl:=oi h
     exact lB
   ·clear hy
    cases y2 with
    |brk z=>
     obtain⟨n3,rfl⟩: ∃q,q=z:=⟨_,rfl⟩
     unfold dA
     refine⟨_, .refl, ?_⟩
     refine aQ (sz tT ⟨[(2,(vI b)),(aD p),(fF x),(7,(vI n3)),(10,(vI 0))],[]⟩ {} [] ?_)
     refine bE h fun y4 hy h=> ?_
     refine aL [] (wO p x b) wz fw hy (fun s f h=> ?_) ?_
     ·clear hy
      show bn _ _ _ _ _ _ ((oK p x b) f) _
      unfold kG at h
      obtain⟨n5,r_⟩:=s
      refine aQ (sz tT ⟨[(2,(vI b)),(aD p),(fF x),(7,(vI n5)),(10,(vI r_)),(75,(Ui x r_))],[]⟩ {} [] ?_)
      refine bI h (fun hb11 h=> ?_) (fun hb11 h=> ?_)
      ·refine ct hb11 ?_
       refine aP (aQ (aB (sz tT ⟨[(2,(vI b)),(aD p),(fF x),(7,(vI n5)),(10,(vI r_)),(11,(vI 0))],[]⟩ {} [] ?_)))
       refine bE h fun y3 hy h=> ?_
       refine aL [5] (vK p x b r_) (wU p x b r_) (oK p x b) hy (fun s f h=> ?_) ?_
       ·clear hy
        show bn _ _ _ _ _ _ ((ET p x b r_) f) _
        unfold dJ at h
        obtain⟨n7,k1⟩:=s
        refine aQ (sz tT ⟨[(2,(vI b)),(aD p),(fF x),(7,(vI n7)),(10,(vI r_)),(11,(vI k1)),(79,(vB (decide (k1<2))))],[]⟩ {} [] ?_)
        refine bI h (fun hb10 h=> ?_) (fun hb10 h=> ?_)
        ·refine ct hb10 ?_
         refine aP (aQ (aB (aQ ?_)))
         refine bI h (fun hb6 h=> ?_) (fun _ h=> ?_)
         ·skip
          refine aI (bH.le (st':=⟨[(2,(vI b)),(aD p),(fF x),(7,(vI n7)),(10,(vI r_)),(11,(vI 0)),(79,(vB (decide (k1<2))))],[]⟩) ⟨⟨tR,tR,tR,tR,tR,⟨_,rfl,dh.v (dX.one (dD.of (congrArg (fun n=>CV.d (.int .i64 n)) (of_decide_eq_true hb6))))⟩,tR,trivial⟩,trivial⟩) ?_
          refine aO h fun a1 h=> ?_
          refine rg tT ⟨[(2,(vI b)),(aD p),(fF x),(7,(vI n7)),(10,(vI r_)),(11,(vI 0)),(91,(vB (decide ((R9 p r_)=b))))],[]⟩ [_,(0:Int)≤0∧(0:Int)<(2:Nat)] {} [] ⟨a1,((by decide)),trivial⟩ ?_
          refine bI h (fun hb7 h=> ?_) (fun hb7 h=> ?_)
          ·refine ct hb7 ?_
           refine aO h fun a1 h=> ?_
           refine rg tT ⟨[(2,(vI b)),(aD p),(fF x),(7,(vI (IntKind.wrap .i64 (n7 - (Hq x r_))))),(10,(vI r_)),(11,(vI 0))],[]⟩ [_,(0:Int)≤0∧(0:Int)<(2:Nat)] {} [] ⟨a1,((by decide)),trivial⟩ ?_
           refine rz tT ⟨[(2,(vI b)),(aD p),(fF x),(7,(vI (IntKind.wrap .i64 (n7 - (Hq x r_))))),(10,(vI r_)),(11,(vI 1))],[]⟩ {} [] ?_
           obtain rfl:=oi h
           exact lN
          ·refine cf hb7 ?_
           refine aP (rz tT ⟨[(2,(vI b)),(aD p),(fF x),(7,(vI n7)),(10,(vI r_)),(11,(vI 1))],[]⟩ {} [] ?_)
           obtain rfl:=oi h
           exact lN
         ·skip
          refine aO h fun a1 h=> ?_
          refine aI (bH.le (st':=⟨[(2,(vI b)),(aD p),(fF x),(7,(vI n7)),(10,(vI r_)),(11,(vI 1)),(79,(vB (decide (k1<2))))],[]⟩) ⟨⟨tR,tR,tR,tR,tR,⟨_,rfl,dh.v (dX.one (dD.of (congrArg (fun n=>CV.d (.int .i64 n)) a1)))⟩,tR,trivial⟩,trivial⟩) ?_
          refine aO h fun a1 h=> ?_
          refine rg tT ⟨[(2,(vI b)),(aD p),(fF x),(7,(vI n7)),(10,(vI r_)),(11,(vI 1)),(91,(vB (decide ((Sd p r_)=b))))],[]⟩ [_,(0:Int)≤1∧(1:Int)<(2:Nat)] {} [] ⟨a1,((by decide)),trivial⟩ ?_
          refine bI h (fun hb9 h=> ?_) (fun hb9 h=> ?_)
          ·refine ct hb9 ?_
           refine aO h fun a1 h=> ?_
           refine rg tT ⟨[(2,(vI b)),(aD p),(fF x),(7,(vI (IntKind.wrap .i64 (n7 - (Gx x r_))))),(10,(vI r_)),(11,(vI 1))],[]⟩ [_,(0:Int)≤1∧(1:Int)<(2:Nat)] {} [] ⟨a1,((by decide)),trivial⟩ ?_
           refine rz tT ⟨[(2,(vI b)),(aD p),(fF x),(7,(vI (IntKind.wrap .i64 (n7 - (Gx x r_))))),(10,(vI r_)),(11,(vI 2))],[]⟩ {} [] ?_
           obtain rfl:=oi h
           exact lN
          ·refine cf hb9 ?_
           refine aP (rz tT ⟨[(2,(vI b)),(aD p),(fF x),(7,(vI n7)),(10,(vI r_)),(11,(vI 2))],[]⟩ {} [] ?_)
           obtain rfl:=oi h
           exact lN
        ·refine cf hb10 ?_
         refine aI (fz (U9 b p x n7 r_) []) ?_
         refine aX ?_
         obtain rfl:=oi h
         exact lB
       ·clear hy
        cases y3 with
        |brk z=>
         obtain⟨n8,rfl⟩: ∃q,q=z:=⟨_,rfl⟩
         unfold dA
         refine⟨_, .refl, ?_⟩
         refine rz tT ⟨[(2,(vI b)),(aD p),(fF x),(7,(vI n8)),(10,(k3 r_))],[]⟩ {} [] ?_
         obtain rfl:=oi h
         exact lN
        |ret v=>
         obtain rfl:=oi h
         unfold dA
         intro e st hn ha hR
         cases e with
         |normal=>exact absurd rfl hn
         |exit id=>simp only [qX (b:=5) ha rfl,cond_false];exact hR
         |goto l=>exact hR
         |ret=>exact hR
         |panic c=>exact hR
         |outgrown=>exact hR
      ·refine cf hb11 ?_
       refine aI (fz ⟨[(7,(vI n5))],[]⟩ []) ?_
       refine aX ?_
       obtain rfl:=oi h
       exact lB
     ·clear hy
      cases y4 with
      |brk z=>
       obtain⟨n6,rfl⟩: ∃q,q=z:=⟨_,rfl⟩
       unfold dA
       refine⟨_, .refl, ?_⟩
       refine sz tT ⟨[(6,(vI n6))],[]⟩ {} [] ?_
       refine aR ?_
       obtain rfl:=oi h
       exact rl [(sI n6)]
      |ret v=>
       obtain rfl:=oi h
       unfold dA
       intro e st hn ha hR
       cases e with
       |normal=>exact absurd rfl hn
       |exit id=>exact hR
       |goto l=>exact hR
       |ret=>exact hR
       |panic c=>exact hR
       |outgrown=>exact hR
    |ret v=>
     obtain rfl:=oi h
     unfold dA
     intro e st hn ha hR
     cases e with
     |normal=>exact absurd rfl hn
     |exit id=>exact hR
     |goto l=>exact hR
     |ret=>exact hR
     |panic c=>exact hR
     |outgrown=>exact hR
  |ret v=>
   obtain rfl:=oi h
   unfold dA
   intro e st hn ha hR
   cases e with
   |normal=>exact absurd rfl hn
   |exit id=>exact hR
   |goto l=>exact hR
   |ret=>exact hR
   |panic c=>exact hR
   |outgrown=>exact hR
def cu  :Bool→Exit→St→Prop:=
  fun r=>aW TT [.tmp 6] (vB r) []
def uG (p:ah) (s_:State) (x:ai):Int→St:=
  fun k=>(ace p s_ x k)
def uD (p:ah) (s_:State) (x:ai):Unit→St:=
  fun _=>(Li p s_ x)
def Dn (p:ah) (s_:State) (x:ai):(aJ Int (Ex Unit Bool))→Exit→St→Prop:=
  LQ 0 [] (uG p s_ x) (uD p s_ x) cu
def uE (p:ah) (s_:State) (x:ai):Int→St:=
  fun i=> ⟨[(aD p),(aK s_),(cK x),(9,(vI i))],[]⟩
def tO (p:ah) (s_:State) (x:ai):Unit→St:=
  fun _=>(Li p s_ x)
def Dh (p:ah) (s_:State) (x:ai):(aJ Int (Ex Unit Bool))→Exit→St→Prop:=
  LQ 2 [] (uE p s_ x) (tO p s_ x) cu
def sV (p:ah) (s_:State) (x:ai):Int→St:=
  fun u0=> ⟨[(aD p),(aK s_),(cK x),(11,(vI u0))],[]⟩
section
variable (p:ah) (x:ai)
abbrev ZV:St:=⟨[(aD p),(cK x)],[]⟩
end
def sW (p:ah) (x:ai):Unit→St:=
  fun _=>(ZV p x)
def nL (p:ah) (s_:State) (x:ai):(aJ Int (Ex Unit Bool))→Exit→St→Prop:=
  LQ 4 [] (sV p s_ x) (sW p x) cu
def sZ (p:ah) (s_:State) (x:ai) (u0:Int):(Int × Int)→St:=
  fun zz=>match zz with|(u1,k1)=> ⟨[(aD p),(aK s_),(cK x),(11,(vI u0)),(12,(vI u1)),(13,(vI k1))],[]⟩
section
variable (p:ah) (s_:State) (x:ai) (u0:Int) (u1:Int)
abbrev ZR:St:=⟨[(aD p),(aK s_),(cK x),(11,(vI u0)),(12,(vI u1))],[]⟩
end
def tZ (p:ah) (s_:State) (x:ai) (u0:Int):Int→St:=
  fun u1=>(ZR p s_ x u0 u1)
def CY (p:ah) (s_:State) (x:ai) (u0:Int):(aJ (Int × Int) (Ex Int (aJ Int (Ex Unit Bool))))→Exit→St→Prop:=
  LQ 6 [5] (sZ p s_ x u0) (tZ p s_ x u0) (nL p s_ x)
def tJ (p:ah) (x:ai):Int→St:=
  fun b=> ⟨[(aD p),(cK x),(16,(vI b))],[]⟩
def tQ  :Unit→St:=
  fun _=> ⟨[],[]⟩
def CZ (p:ah) (x:ai):(aJ Int (Ex Unit Bool))→Exit→St→Prop:=
  LQ 8 [] (tJ p x) tQ cu
section
variable (x:ai) (k:Int) (p:ah) (s_:State) (i:Int) (u0:Int) (u1:Int)
abbrev aak:=(eqs (Kv x k) 4 ((gP (fQ [(6,(Kv x k))]) [(6,false)]→All [(0:Int)≤k∧k<(x.sources.length:Int)])::(eqs (Kv x k) 4 [])))
abbrev ZU:St:=⟨[(aD p),(aK s_),(cK x),(7,(k3 k))],[]⟩
abbrev Z9:St:=⟨[(aD p),(aK s_),(cK x),(Tv i)],[]⟩
abbrev PL:=(decide ((at' x.links i.toNat)<(IntKind.wrap .i64 (0 - 0))))
abbrev O6:=(decide (0≤(R9 p u0)))
abbrev DT:=(decide ((Hq x u0)<0))
abbrev aag:=(eqs (DT x u0) 5 ((gP (fQ [(8,(DT x u0))]) [(8,false)]→All [(0:Int)≤u0∧u0<(x.racks.length:Int)])::((DT x u0)=(DT x u0))::(gP (fQ [(8,(DT x u0))]) [(8,false)]→All [(0:Int)≤0∧(0:Int)<(2:Nat)])::(eqs (DT x u0) 4 [])))
abbrev aal:St:=⟨[(aD p),(aK s_),(cK x),(11,(vI u0)),(12,(vI (IntKind.wrap .i64 (u1+(Hq x u0))))),(13,(vI 0))],[]⟩
abbrev aao:St:=⟨[(aD p),(aK s_),(cK x),(11,(vI u0)),(12,(vI (IntKind.wrap .i64 (u1+(Hq x u0))))),(13,(vI 1))],[]⟩
abbrev DW:=(decide ((Gx x u0)<0))
abbrev aaf:=(eqs (DW x u0) 5 ((gP (fQ [(8,(DW x u0))]) [(8,false)]→All [(0:Int)≤u0∧u0<(x.racks.length:Int)])::((DW x u0)=(DW x u0))::(gP (fQ [(8,(DW x u0))]) [(8,false)]→All [(0:Int)≤1∧(1:Int)<(2:Nat)])::(eqs (DW x u0) 4 [])))
abbrev aam:St:=⟨[(aD p),(aK s_),(cK x),(11,(vI u0)),(12,(vI (IntKind.wrap .i64 (u1+(Gx x u0))))),(13,(vI 1))],[]⟩
abbrev Z5:St:=⟨[(aD p),(aK s_),(cK x),(11,(vI u0)),(12,(vI (IntKind.wrap .i64 (u1+(Gx x u0))))),(13,(vI 2))],[]⟩
end
theorem Dt (p:ah) (s_:State) (x:ai) {r:Bool} (h:jY p s_ x=some r):Fn Try.prog 90 (Pp p s_ x) [] (vB r) []:=by
 refine fN tT Try.func90 rfl rfl fun B=> ?_
 show bn _ _ _ _ _ _ (cu r) _
 unfold jY at h
 refine sz tT (Li p s_ x) {fr:=[(0,3),(1,4),(2,5)] } [3,4,5] ?_
 refine aQ (sg tT ⟨[(aD p),(aK s_),(cK x),(41,(agk p x))],[]⟩ (aef p x) {yb:=[(7,(YF p x)),(16,(Yt p x))] } [] (ae (ae trivial)) ?_)
 refine bI h (fun hb21 h=> ?_) (fun hb21 h=> ?_)
 ·refine ct hb21 ?_
  refine sz tT ⟨[(6,(vB false))],[]⟩ {} [] ?_
  refine aR ?_
  obtain rfl:=oi h
  exact rl [(sB false)]
 ·refine cf hb21 ?_
  refine aP (aQ (sz tT ⟨[(aD p),(aK s_),(cK x),(7,(vI 0))],[]⟩ {} [] ?_))
  refine bE h fun y hy h=> ?_
  refine aL [] (uG p s_ x) (uD p s_ x) cu hy (fun s f h=> ?_) ?_
  ·clear hy
   show bn _ _ _ _ _ _ ((Dn p s_ x) f) _
   unfold jy at h
   obtain⟨k,rfl⟩: ∃q,q=s:=⟨_,rfl⟩
   refine aQ (sz tT ⟨[(aD p),(aK s_),(cK x),(7,(vI k)),(46,(Ze x k))],[]⟩ {} [] ?_)
   refine bI h (fun hb3 h=> ?_) (fun hb3 h=> ?_)
   ·refine ct hb3 ?_
    refine aP (aQ (aB (sz tT ⟨[(aD p),(aK s_),(cK x),(7,(vI k)),(8,(vI 0))],[]⟩ {} [] ?_)))
    refine aQ (aQ (bE h fun r_ hr_ h=> ?_))
    have q0:=y7 p s_ k hr_
    refine rg tT ⟨[(aD p),(aK s_),(cK x),(7,(vI k)),(8,(vI 0)),(52,(vB r_))],[]⟩ [_] {an:=[(3,cA q0 [])] } [] ⟨q0,trivial⟩ ?_
    refine bI h (fun hb2 h=> ?_) (fun hb2 h=> ?_)
    ·refine ct hb2 ?_
     refine aO h fun a1 h=> ?_
     refine rg tT ⟨[(aD p),(aK s_),(cK x),(7,(vI k)),(8,(vI (YM p k)))],[]⟩ [_] {} [] ⟨a1,trivial⟩ ?_
     refine aQ (aO h fun⟨a1,a2⟩ h=> ?_)
     refine rg tT ⟨[(aD p),(aK s_),(cK x),(7,(vI k)),(73,(vB (M6 p x k)))],[]⟩ (_::(aak x k)) {yb:=[(6,(Kv x k))] } [] ⟨a1,(ae ⟨(fun hg=> ⟨(a2 (aM hg)),trivial⟩),(ae trivial)⟩)⟩ ?_
     refine bI h (fun hb h=> ?_) (fun hb h=> ?_)
     ·refine ct hb ?_
      refine sz tT ⟨[(6,(vB false))],[]⟩ {} [] ?_
      refine aR ?_
      obtain rfl:=oi h
      exact lR bD (bC 0) bG (aW.mk (.inr rfl) (p:=[]) (l:=[(sB false)]) (by kernel_rfl) trivial (dh.refl _) trivial)
     ·refine cf hb ?_
      refine aP (rz tT (ZU x k p s_) {} [] ?_)
      obtain rfl:=oi h
      exact lN
    ·refine cf hb2 ?_
     refine aP (aQ (aO h fun⟨a1,a2⟩ h=> ?_))
     refine rg tT ⟨[(aD p),(aK s_),(cK x),(7,(vI k)),(73,(vB (bif (Kv x k)then true else(MP x k))))],[]⟩ (_::(aak x k)) {yb:=[(6,(Kv x k))] } [] ⟨a1,(ae ⟨(fun hg=> ⟨(a2 (aM hg)),trivial⟩),(ae trivial)⟩)⟩ ?_
     refine bI h (fun hb1 h=> ?_) (fun hb1 h=> ?_)
     ·refine ct hb1 ?_
      refine sz tT ⟨[(6,(vB false))],[]⟩ {} [] ?_
      refine aR ?_
      obtain rfl:=oi h
      exact lR bD (bC 0) bG (aW.mk (.inr rfl) (p:=[]) (l:=[(sB false)]) (by kernel_rfl) trivial (dh.refl _) trivial)
     ·refine cf hb1 ?_
      refine aP (rz tT (ZU x k p s_) {} [] ?_)
      obtain rfl:=oi h
      exact lN
   ·refine cf hb3 ?_
    refine aI (fz (Li p s_ x) []) ?_
    refine aX ?_
    obtain rfl:=oi h
    exact lB
  ·clear hy
   cases y with
   |brk z=>
    unfold dA
    refine⟨_, .refl, ?_⟩
    refine aQ (sz tT ⟨[(aD p),(aK s_),(cK x),(9,(vI 0))],[]⟩ {} [] ?_)
    refine bE h fun y1 hy h=> ?_
    refine aL [] (uE p s_ x) (tO p s_ x) cu hy (fun s f h=> ?_) ?_
    ·clear hy
     show bn _ _ _ _ _ _ ((Dh p s_ x) f) _
     unfold jv at h
     obtain⟨i,rfl⟩: ∃q,q=s:=⟨_,rfl⟩
     refine aQ (sz tT ⟨[(aD p),(aK s_),(cK x),(9,(vI i)),(78,(X7 x i))],[]⟩ {} [] ?_)
     refine bI h (fun hb7 h=> ?_) (fun hb7 h=> ?_)
     ·refine ct hb7 ?_
      refine aP (aQ (aB (sz tT ⟨[(aD p),(aK s_),(cK x),(9,(vI i)),(10,(vI 0))],[]⟩ {} [] ?_)))
      refine aQ (aQ (bE h fun u2 hr_1 h=> ?_))
      have q0:=tF p s_ i hr_1
      refine rg tT ⟨[(aD p),(aK s_),(cK x),(9,(vI i)),(10,(vI 0)),(84,(vB u2))],[]⟩ [_] {an:=[(3,cA q0 [])] } [] ⟨q0,trivial⟩ ?_
      refine bI h (fun hb6 h=> ?_) (fun hb6 h=> ?_)
      ·refine ct hb6 ?_
       refine aO h fun a1 h=> ?_
       refine rg tT ⟨[(aD p),(aK s_),(cK x),(9,(vI i)),(10,(vI (Lg p i)))],[]⟩ [_] {} [] ⟨a1,trivial⟩ ?_
       refine aQ (aO h fun⟨a1,a2⟩ h=> ?_)
       refine rg tT ⟨[(aD p),(aK s_),(cK x),(9,(vI i)),(107,(vB (MW p x i)))],[]⟩ (_::(eqs (Nl p x i) 4 ((gP (fQ [(8,(Nl p x i))]) [(8,false)]→All [(0:Int)≤i∧i<(x.links.length:Int)])::(eqs (Nl p x i) 4 [])))) {yb:=[(8,(Nl p x i))] } [] ⟨a1,(ae ⟨(fun hg=> ⟨(a2 (aM hg)),trivial⟩),(ae trivial)⟩)⟩ ?_
       refine bI h (fun hb4 h=> ?_) (fun hb4 h=> ?_)
       ·refine ct hb4 ?_
        refine sz tT ⟨[(6,(vB false))],[]⟩ {} [] ?_
        refine aR ?_
        obtain rfl:=oi h
        exact lR bD (bC 2) bG (aW.mk (.inr rfl) (p:=[]) (l:=[(sB false)]) (by kernel_rfl) trivial (dh.refl _) trivial)
       ·refine cf hb4 ?_
        refine aP (rz tT (Z9 x p s_ i) {} [] ?_)
        obtain rfl:=oi h
        exact lN
      ·refine cf hb6 ?_
       refine aP (aQ (aO h fun⟨a1,a2⟩ h=> ?_))
       refine rg tT ⟨[(aD p),(aK s_),(cK x),(9,(vI i)),(107,(vB (bif (PL x i)then true else(decide (0<(at' x.links i.toNat))))))],[]⟩ (_::(eqs (PL x i) 4 ((gP (fQ [(8,(PL x i))]) [(8,false)]→All [(0:Int)≤i∧i<(x.links.length:Int)])::(eqs (PL x i) 4 [])))) {yb:=[(8,(PL x i))] } [] ⟨a1,(ae ⟨(fun hg=> ⟨(a2 (aM hg)),trivial⟩),(ae trivial)⟩)⟩ ?_
       refine bI h (fun hb5 h=> ?_) (fun hb5 h=> ?_)
       ·refine ct hb5 ?_
        refine sz tT ⟨[(6,(vB false))],[]⟩ {} [] ?_
        refine aR ?_
        obtain rfl:=oi h
        exact lR bD (bC 2) bG (aW.mk (.inr rfl) (p:=[]) (l:=[(sB false)]) (by kernel_rfl) trivial (dh.refl _) trivial)
       ·refine cf hb5 ?_
        refine aP (rz tT (Z9 x p s_ i) {} [] ?_)
        obtain rfl:=oi h
        exact lN
     ·refine cf hb7 ?_
      refine aI (fz (Li p s_ x) []) ?_
      refine aX ?_
      obtain rfl:=oi h
      exact lB
    ·clear hy
     cases y1 with
     |brk z=>
      unfold dA
      refine⟨_, .refl, ?_⟩
      refine aQ (sz tT ⟨[(aD p),(aK s_),(cK x),(11,(vI 0))],[]⟩ {} [] ?_)
      refine bE h fun y3 hy h=> ?_
      refine aL [] (sV p s_ x) (sW p x) cu hy (fun s f h=> ?_) ?_
      ·clear hy
       show bn _ _ _ _ _ _ ((nL p s_ x) f) _
       unfold jr at h
       obtain⟨u0,rfl⟩: ∃q,q=s:=⟨_,rfl⟩
       refine aQ (sz tT ⟨[(aD p),(aK s_),(cK x),(11,(vI u0)),(112,(Ui x u0))],[]⟩ {} [] ?_)
       refine bI h (fun hb18 h=> ?_) (fun hb18 h=> ?_)
       ·refine ct hb18 ?_
        refine aP (aQ (aB (sz tT ⟨[(aD p),(aK s_),(cK x),(11,(vI u0)),(12,(vI 0))],[]⟩ {} [] ?_)))
        refine aQ (sz tT ⟨[(aD p),(aK s_),(cK x),(11,(vI u0)),(12,(vI 0)),(13,(vI 0))],[]⟩ {} [] ?_)
        refine bE h fun y2 hy h=> ?_
        refine aL [5] (sZ p s_ x u0) (tZ p s_ x u0) (nL p s_ x) hy (fun s f h=> ?_) ?_
        ·clear hy
         show bn _ _ _ _ _ _ ((CY p s_ x u0) f) _
         unfold bK at h
         obtain⟨u1,k1⟩:=s
         refine aQ (sz tT ⟨[(aD p),(aK s_),(cK x),(11,(vI u0)),(12,(vI u1)),(13,(vI k1)),(116,(vB (decide (k1<2))))],[]⟩ {} [] ?_)
         refine bI h (fun hb16 h=> ?_) (fun hb16 h=> ?_)
         ·refine ct hb16 ?_
          refine aP (aQ (aB (aQ ?_)))
          refine bI h (fun hb8 h=> ?_) (fun _ h=> ?_)
          ·skip
           refine aI (bH.le (st':=⟨[(aD p),(aK s_),(cK x),(11,(vI u0)),(12,(vI u1)),(13,(vI 0)),(116,(vB (decide (k1<2))))],[]⟩) ⟨⟨tR,tR,tR,tR,tR,⟨_,rfl,dh.v (dX.one (dD.of (congrArg (fun n=>CV.d (.int .i64 n)) (of_decide_eq_true hb8))))⟩,tR,trivial⟩,trivial⟩) ?_
           refine aO h fun a1 h=> ?_
           refine rg tT ⟨[(aD p),(aK s_),(cK x),(11,(vI u0)),(12,(vI u1)),(13,(vI 0)),(14,(vI (R9 p u0)))],[]⟩ [_,(0:Int)≤0∧(0:Int)<(2:Nat)] {} [] ⟨a1,((by decide)),trivial⟩ ?_
           refine sz tT ⟨[(aD p),(aK s_),(cK x),(11,(vI u0)),(12,(vI u1)),(13,(vI 0)),(14,(vI (R9 p u0))),(15,(vI 0))],[]⟩ {} [] ?_
           refine aQ (aQ (aO h fun a1 h=> ?_))
           refine rg tT ⟨[(aD p),(aK s_),(cK x),(11,(vI u0)),(12,(vI u1)),(13,(vI 0)),(15,(vI 0)),(137,(vB (bif (O6 p u0)then(!(at' s_.badBus ((if(KZ p u0).e0<0 then 0 else(KZ p u0).e0).toNat)))else false)))],[]⟩ (eqs (O6 p u0) 5 ((gP (fQ [(2,(O6 p u0))]) [(2,true)]→All [(0:Int)≤(if(KZ p u0).e0<0 then 0 else(KZ p u0).e0)∧(if(KZ p u0).e0<0 then 0 else(KZ p u0).e0)<(s_.badBus.length:Int)])::(eqs (O6 p u0) 3 []))) {yb:=[(2,(O6 p u0))] } [] (ae ⟨(fun hg=> ⟨(a1 (aM hg)),trivial⟩),(ae trivial)⟩) ?_
           refine bI h (fun hb11 h=> ?_) (fun hb11 h=> ?_)
           ·refine ct hb11 ?_
            refine aO h fun a1 h=> ?_
            refine rg tT ⟨[(aD p),(aK s_),(cK x),(11,(vI u0)),(12,(vI u1)),(13,(vI 0)),(15,(vI (R3 p u0)))],[]⟩ [_] {} [] ⟨a1,trivial⟩ ?_
            refine aQ (aQ (aO h fun⟨a1,a2⟩ h=> ?_))
            refine rg tT ⟨[(aD p),(aK s_),(cK x),(11,(vI u0)),(12,(vI u1)),(13,(vI 0)),(162,(vB (bif (DT x u0)then true else(decide ((R3 p u0)<(Hq x u0))))))],[]⟩ (_::((0:Int)≤0∧(0:Int)<(2:Nat))::(aag x u0)) {yb:=[(8,(DT x u0))] } [] ⟨a1,((by decide)),(ae ⟨(fun hg=> ⟨(a2 (aM hg)),trivial⟩),rfl,(fun hg=> ⟨((by decide)),trivial⟩),(ae trivial)⟩)⟩ ?_
            refine bI h (fun hb9 h=> ?_) (fun hb9 h=> ?_)
            ·refine ct hb9 ?_
             refine sz tT ⟨[(6,(vB false))],[]⟩ {} [] ?_
             refine aR ?_
             obtain rfl:=oi h
             exact lR bD (bC 6) bG (lR bD (bC 4) bG (aW.mk (.inr rfl) (p:=[]) (l:=[(sB false)]) (by kernel_rfl) trivial (dh.refl _) trivial))
            ·refine cf hb9 ?_
             refine aP (aO h fun a1 h=> ?_)
             refine rg tT (aal x p s_ u0 u1) [_,(0:Int)≤0∧(0:Int)<(2:Nat)] {} [] ⟨a1,((by decide)),trivial⟩ ?_
             refine rz tT (aao x p s_ u0 u1) {} [] ?_
             obtain rfl:=oi h
             exact lN
           ·refine cf hb11 ?_
            refine aP (aQ (aQ (aO h fun⟨a1,a2⟩ h=> ?_)))
            refine rg tT ⟨[(aD p),(aK s_),(cK x),(11,(vI u0)),(12,(vI u1)),(13,(vI 0)),(162,(vB (bif (DT x u0)then true else(decide (0<(Hq x u0))))))],[]⟩ (_::((0:Int)≤0∧(0:Int)<(2:Nat))::(aag x u0)) {yb:=[(8,(DT x u0))] } [] ⟨a1,((by decide)),(ae ⟨(fun hg=> ⟨(a2 (aM hg)),trivial⟩),rfl,(fun hg=> ⟨((by decide)),trivial⟩),(ae trivial)⟩)⟩ ?_
            refine bI h (fun hb10 h=> ?_) (fun hb10 h=> ?_)
            ·refine ct hb10 ?_
             refine sz tT ⟨[(6,(vB false))],[]⟩ {} [] ?_
             refine aR ?_
             obtain rfl:=oi h
             exact lR bD (bC 6) bG (lR bD (bC 4) bG (aW.mk (.inr rfl) (p:=[]) (l:=[(sB false)]) (by kernel_rfl) trivial (dh.refl _) trivial))
            ·refine cf hb10 ?_
             refine aP (aO h fun a1 h=> ?_)
             refine rg tT (aal x p s_ u0 u1) [_,(0:Int)≤0∧(0:Int)<(2:Nat)] {} [] ⟨a1,((by decide)),trivial⟩ ?_
             refine rz tT (aao x p s_ u0 u1) {} [] ?_
             obtain rfl:=oi h
             exact lN
          ·skip
           refine aO h fun a1 h=> ?_
           refine aI (bH.le (st':=⟨[(aD p),(aK s_),(cK x),(11,(vI u0)),(12,(vI u1)),(13,(vI 1)),(116,(vB (decide (k1<2))))],[]⟩) ⟨⟨tR,tR,tR,tR,tR,⟨_,rfl,dh.v (dX.one (dD.of (congrArg (fun n=>CV.d (.int .i64 n)) a1)))⟩,tR,trivial⟩,trivial⟩) ?_
           refine aO h fun a1 h=> ?_
           refine rg tT ⟨[(aD p),(aK s_),(cK x),(11,(vI u0)),(12,(vI u1)),(13,(vI 1)),(14,(vI (Sd p u0)))],[]⟩ [_,(0:Int)≤1∧(1:Int)<(2:Nat)] {} [] ⟨a1,((by decide)),trivial⟩ ?_
           refine sz tT ⟨[(aD p),(aK s_),(cK x),(11,(vI u0)),(12,(vI u1)),(13,(vI 1)),(14,(vI (Sd p u0))),(15,(vI 0))],[]⟩ {} [] ?_
           refine aQ (aQ (aO h fun a1 h=> ?_))
           refine rg tT ⟨[(aD p),(aK s_),(cK x),(11,(vI u0)),(12,(vI u1)),(13,(vI 1)),(15,(vI 0)),(137,(vB (bif (yX p u0)then(!(at' s_.badBus (aah p u0)))else false)))],[]⟩ (eqs (yX p u0) 5 ((gP (fQ [(2,(yX p u0))]) [(2,true)]→All [(0:Int)≤(if(KZ p u0).e1<0 then 0 else(KZ p u0).e1)∧(if(KZ p u0).e1<0 then 0 else(KZ p u0).e1)<(s_.badBus.length:Int)])::(eqs (yX p u0) 3 []))) {yb:=[(2,(yX p u0))] } [] (ae ⟨(fun hg=> ⟨(a1 (aM hg)),trivial⟩),(ae trivial)⟩) ?_
           refine bI h (fun hb15 h=> ?_) (fun hb15 h=> ?_)
           ·refine ct hb15 ?_
            refine aO h fun a1 h=> ?_
            refine rg tT ⟨[(aD p),(aK s_),(cK x),(11,(vI u0)),(12,(vI u1)),(13,(vI 1)),(15,(vI (R3 p u0)))],[]⟩ [_] {} [] ⟨a1,trivial⟩ ?_
            refine aQ (aQ (aO h fun⟨a1,a2⟩ h=> ?_))
            refine rg tT ⟨[(aD p),(aK s_),(cK x),(11,(vI u0)),(12,(vI u1)),(13,(vI 1)),(162,(vB (bif (DW x u0)then true else(decide ((R3 p u0)<(Gx x u0))))))],[]⟩ (_::((0:Int)≤1∧(1:Int)<(2:Nat))::(aaf x u0)) {yb:=[(8,(DW x u0))] } [] ⟨a1,((by decide)),(ae ⟨(fun hg=> ⟨(a2 (aM hg)),trivial⟩),rfl,(fun hg=> ⟨((by decide)),trivial⟩),(ae trivial)⟩)⟩ ?_
            refine bI h (fun hb13 h=> ?_) (fun hb13 h=> ?_)
            ·refine ct hb13 ?_
             refine sz tT ⟨[(6,(vB false))],[]⟩ {} [] ?_
             refine aR ?_
             obtain rfl:=oi h
             exact lR bD (bC 6) bG (lR bD (bC 4) bG (aW.mk (.inr rfl) (p:=[]) (l:=[(sB false)]) (by kernel_rfl) trivial (dh.refl _) trivial))
            ·refine cf hb13 ?_
             refine aP (aO h fun a1 h=> ?_)
             refine rg tT (aam x p s_ u0 u1) [_,(0:Int)≤1∧(1:Int)<(2:Nat)] {} [] ⟨a1,((by decide)),trivial⟩ ?_
             refine rz tT (Z5 x p s_ u0 u1) {} [] ?_
             obtain rfl:=oi h
             exact lN
           ·refine cf hb15 ?_
            refine aP (aQ (aQ (aO h fun⟨a1,a2⟩ h=> ?_)))
            refine rg tT ⟨[(aD p),(aK s_),(cK x),(11,(vI u0)),(12,(vI u1)),(13,(vI 1)),(162,(vB (bif (DW x u0)then true else(decide (0<(Gx x u0))))))],[]⟩ (_::((0:Int)≤1∧(1:Int)<(2:Nat))::(aaf x u0)) {yb:=[(8,(DW x u0))] } [] ⟨a1,((by decide)),(ae ⟨(fun hg=> ⟨(a2 (aM hg)),trivial⟩),rfl,(fun hg=> ⟨((by decide)),trivial⟩),(ae trivial)⟩)⟩ ?_
            refine bI h (fun hb14 h=> ?_) (fun hb14 h=> ?_)
            ·refine ct hb14 ?_
             refine sz tT ⟨[(6,(vB false))],[]⟩ {} [] ?_
             refine aR ?_
             obtain rfl:=oi h
             exact lR bD (bC 6) bG (lR bD (bC 4) bG (aW.mk (.inr rfl) (p:=[]) (l:=[(sB false)]) (by kernel_rfl) trivial (dh.refl _) trivial))
            ·refine cf hb14 ?_
             refine aP (aO h fun a1 h=> ?_)
             refine rg tT (aam x p s_ u0 u1) [_,(0:Int)≤1∧(1:Int)<(2:Nat)] {} [] ⟨a1,((by decide)),trivial⟩ ?_
             refine rz tT (Z5 x p s_ u0 u1) {} [] ?_
             obtain rfl:=oi h
             exact lN
         ·refine cf hb16 ?_
          refine aI (fz (ZR p s_ x u0 u1) []) ?_
          refine aX ?_
          obtain rfl:=oi h
          exact lB
        ·clear hy
         cases y2 with
         |brk z=>
          obtain⟨u3,rfl⟩: ∃q,q=z:=⟨_,rfl⟩
          unfold dA
          refine⟨_, .refl, ?_⟩
          refine aQ (aO h fun a1 h=> ?_)
          refine rg tT ⟨[(aD p),(aK s_),(cK x),(11,(vI u0)),(179,(vB (decide ((R3 p u0)<u3))))],[]⟩ [_] {} [] ⟨a1,trivial⟩ ?_
          refine bI h (fun hb17 h=> ?_) (fun hb17 h=> ?_)
          ·refine ct hb17 ?_
           refine sz tT ⟨[(6,(vB false))],[]⟩ {} [] ?_
           refine aR ?_
           obtain rfl:=oi h
           exact lR bD (bC 4) bG (aW.mk (.inr rfl) (p:=[]) (l:=[(sB false)]) (by kernel_rfl) trivial (dh.refl _) trivial)
          ·refine cf hb17 ?_
           refine aP (rz tT ⟨[(aD p),(aK s_),(cK x),(11,(k3 u0))],[]⟩ {} [] ?_)
           obtain rfl:=oi h
           exact lN
         |ret v=>
          obtain rfl:=oi h
          unfold dA
          intro e st hn ha hR
          cases e with
          |normal=>exact absurd rfl hn
          |exit id=>simp only [qX (b:=5) ha rfl,cond_false];exact hR
          |goto l=>exact hR
          |ret=>exact hR
          |panic c=>exact hR
          |outgrown=>exact hR
       ·refine cf hb18 ?_
        refine aI (fz (ZV p x) []) ?_
        refine aX ?_
        obtain rfl:=oi h
        exact lB
      ·clear hy
       cases y3 with
       |brk z=>
        unfold dA
        refine⟨_, .refl, ?_⟩
        refine aQ (sz tT ⟨[(aD p),(cK x),(16,(vI 0))],[]⟩ {} [] ?_)
        refine bE h fun y4 hy h=> ?_
        refine aL [] (tJ p x) tQ cu hy (fun s f h=> ?_) ?_
        ·clear hy
         show bn _ _ _ _ _ _ ((CZ p x) f) _
         unfold jm at h
         obtain⟨b,rfl⟩: ∃q,q=s:=⟨_,rfl⟩
         refine aQ (sz tT ⟨[(aD p),(cK x),(16,(vI b)),(183,(vB (decide (b<p.buses))))],[]⟩ {} [] ?_)
         refine bI h (fun hb20 h=> ?_) (fun hb20 h=> ?_)
         ·refine ct hb20 ?_
          refine aP (aQ (aB (aQ (bE h fun u4 hr_3 h=> ?_))))
          have q0:=EI p x b hr_3
          refine rg tT ⟨[(aD p),(cK x),(16,(vI b)),(190,(vB (!decide (u4=0))))],[]⟩ [_] {an:=[(3,cA q0 [])] } [] ⟨q0,trivial⟩ ?_
          refine bI h (fun hb19 h=> ?_) (fun hb19 h=> ?_)
          ·refine ct hb19 ?_
           refine sz tT ⟨[(6,(vB false))],[]⟩ {} [] ?_
           refine aR ?_
           obtain rfl:=oi h
           exact lR bD (bC 8) bG (aW.mk (.inr rfl) (p:=[]) (l:=[(sB false)]) (by kernel_rfl) trivial (dh.refl _) trivial)
          ·refine cf hb19 ?_
           refine aP (rz tT ⟨[(aD p),(cK x),(16,(k3 b))],[]⟩ {} [] ?_)
           obtain rfl:=oi h
           exact lN
         ·refine cf hb20 ?_
          refine aI (fz ⟨[],[]⟩ []) ?_
          refine aX ?_
          obtain rfl:=oi h
          exact lB
        ·clear hy
         cases y4 with
         |brk z=>
          unfold dA
          refine⟨_, .refl, ?_⟩
          refine sz tT ⟨[(6,(vB true))],[]⟩ {} [] ?_
          refine aR ?_
          obtain rfl:=oi h
          exact rl [(sB true)]
         |ret v=>
          obtain rfl:=oi h
          unfold dA
          intro e st hn ha hR
          cases e with
          |normal=>exact absurd rfl hn
          |exit id=>exact hR
          |goto l=>exact hR
          |ret=>exact hR
          |panic c=>exact hR
          |outgrown=>exact hR
       |ret v=>
        obtain rfl:=oi h
        unfold dA
        intro e st hn ha hR
        cases e with
        |normal=>exact absurd rfl hn
        |exit id=>exact hR
        |goto l=>exact hR
        |ret=>exact hR
        |panic c=>exact hR
        |outgrown=>exact hR
     |ret v=>
      obtain rfl:=oi h
      unfold dA
      intro e st hn ha hR
      cases e with
      |normal=>exact absurd rfl hn
      |exit id=>exact hR
      |goto l=>exact hR
      |ret=>exact hR
      |panic c=>exact hR
      |outgrown=>exact hR
   |ret v=>
    obtain rfl:=oi h
    unfold dA
    intro e st hn ha hR
    cases e with
    |normal=>exact absurd rfl hn
    |exit id=>exact hR
    |goto l=>exact hR
    |ret=>exact hR
    |panic c=>exact hR
    |outgrown=>exact hR
def Ae  :Int→Exit→St→Prop:=
  fun r=>aW TT [.tmp 6] (vI r) []
theorem oO (p:ah) (s_:State) (x:ai) {r:Int} (h:eO p s_ x=some r):Fn Try.prog 43 (Pp p s_ x) [] (vI r) []:=by
 refine fN tT Try.func43 rfl rfl fun B=> ?_
 show bn _ _ _ _ _ _ (Ae r) _
 unfold eO at h
 refine sz tT (Li p s_ x) {fr:=[(0,3),(1,4),(2,5)] } [3,4,5] ?_
 refine aQ (bE h fun r_ hr_ h=> ?_)
 have q0:=qj p s_ hr_
 refine rg tT (ace p s_ x r_) [_] {an:=[(2,cA q0 [])] } [] ⟨q0,trivial⟩ ?_
 refine aQ (aQ (bE h fun u0 hr_1 h=> ?_))
 refine rg tT ⟨[(7,(vI r_)),(19,(vB (bif (decide (r_=0))then(!u0)else false)))],[]⟩ (eqs (decide (r_=0)) 4 ((gP (fQ [(2,(decide (r_=0)))]) [(2,true)]→All [Fn Try.prog 90 (Pp p s_ x) [] (vB u0) []])::(eqs (decide (r_=0)) 2 []))) {yb:=[(2,(decide (r_=0)))],an:=[(6, .call [] (vB u0) [])] } [] (ae ⟨(fun hg=> ⟨(Dt p s_ x (dU hr_1 (aM hg))),trivial⟩),(ae trivial)⟩) ?_
 refine bI h (fun hb h=> ?_) (fun hb h=> ?_)
 ·refine ct hb ?_
  refine rz tT ⟨[(7,(vI 20))],[]⟩ {} [] ?_
  refine sz tT ⟨[(6,(vI 20))],[]⟩ {} [] ?_
  refine aR ?_
  obtain rfl:=oi h
  exact rl [(sI 20)]
 ·refine cf hb ?_
  refine aP (sz tT ⟨[(6,(vI r_))],[]⟩ {} [] ?_)
  refine aR ?_
  obtain rfl:=oi h
  exact rl [(sI r_)]
def oJ  :(Int × Int)→Exit→St→Prop:=
  fun r=>aW TT [.tmp 6, .tmp 7] (.iq [(sI r.1),(sI r.2)]) []
def sQ (p:ah) (s_:State) (u0:(List Bool)):Int→St:=
  fun b=> ⟨[(jf u0),(aD p),(aK s_),(9,(vI b))],[]⟩
def tu (p:ah) (s_:State) (u0:(List Bool)):Unit→St:=
  fun _=>(RO u0 p s_)
def CO (p:ah) (s_:State) (u0:(List Bool)):(aJ Int (Ex Unit (Int × Int)))→Exit→St→Prop:=
  LQ 0 [] (sQ p s_ u0) (tu p s_ u0) oJ
theorem sK (p:ah) (s_:State) (u0:(List Bool)) {r:(Int × Int)} (h:iw p s_ u0=some r):Fn Try.prog 46 (Yu p s_ u0) [] (.iq [(sI r.1),(sI r.2)]) []:=by
 refine fN tT Try.func46 rfl rfl fun B=> ?_
 show bn _ _ _ _ _ _ (oJ r) _
 unfold iw at h
 refine sz tT (RO u0 p s_) {fr:=[(0,2),(1,3)] } [2,3] ?_
 refine aQ (bE h fun r_ hr_ h=> ?_)
 have q0:=qj p s_ hr_
 refine rg tT (ag8 u0 p s_ r_) [_] {an:=[(2,cA q0 [])] } [] ⟨q0,trivial⟩ ?_
 refine aQ (sz tT ⟨[(jf u0),(aD p),(aK s_),(8,(vI r_)),(14,(vB (!decide (r_=0))))],[]⟩ {} [] ?_)
 refine bI h (fun hb3 h=> ?_) (fun hb3 h=> ?_)
 ·refine ct hb3 ?_
  refine sz tT ⟨[(6,(vI 0)),(7,(vI r_))],[]⟩ {} [] ?_
  refine aR ?_
  obtain rfl:=oi h
  exact rl [(sI 0),(sI r_)]
 ·refine cf hb3 ?_
  refine aP (aQ (sz tT ⟨[(jf u0),(aD p),(aK s_),(20,(vB (!decide ((u0.length:Int)=p.buses))))],[]⟩ {} [] ?_))
  refine bI h (fun hb2 h=> ?_) (fun hb2 h=> ?_)
  ·refine ct hb2 ?_
   refine sz tT ⟨[(6,(vI 0)),(7,(vI 1))],[]⟩ {} [] ?_
   refine aR ?_
   obtain rfl:=oi h
   exact rl [(sI 0),(sI 1)]
  ·refine cf hb2 ?_
   refine aP (aQ (sz tT ⟨[(jf u0),(aD p),(aK s_),(9,(vI 0))],[]⟩ {} [] ?_))
   refine bE h fun y hy h=> ?_
   refine aL [] (sQ p s_ u0) (tu p s_ u0) oJ hy (fun s f h=> ?_) ?_
   ·clear hy
    show bn _ _ _ _ _ _ ((CO p s_ u0) f) _
    unfold jo at h
    obtain⟨b,rfl⟩: ∃q,q=s:=⟨_,rfl⟩
    refine aQ (sz tT ⟨[(jf u0),(aD p),(aK s_),(9,(vI b)),(24,(vB (decide (b<p.buses))))],[]⟩ {} [] ?_)
    refine bI h (fun hb1 h=> ?_) (fun hb1 h=> ?_)
    ·refine ct hb1 ?_
     refine aP (aQ (aB (aQ (aO h fun⟨a1,a2⟩ h=> ?_))))
     refine rg tT ⟨[(jf u0),(aD p),(aK s_),(9,(vI b)),(37,(vB (bif (at' u0 b.toNat)then(at' s_.badBus b.toNat)else false)))],[]⟩ (_::(eqs (at' u0 b.toNat) 4 ((gP (fQ [(4,(at' u0 b.toNat))]) [(4,true)]→All [(0:Int)≤b∧b<(s_.badBus.length:Int)])::(eqs (at' u0 b.toNat) 2 [])))) {yb:=[(4,(at' u0 b.toNat))] } [] ⟨a1,(ae ⟨(fun hg=> ⟨(a2 (aM hg)),trivial⟩),(ae trivial)⟩)⟩ ?_
     refine bI h (fun hb h=> ?_) (fun hb h=> ?_)
     ·refine ct hb ?_
      refine sz tT ⟨[(6,(vI 0)),(7,(vI 1))],[]⟩ {} [] ?_
      refine aR ?_
      obtain rfl:=oi h
      exact lR bD (bC 0) bG (aW.mk (.inr rfl) (p:=[]) (l:=[(sI 0),(sI 1)]) (by kernel_rfl) trivial (dh.refl _) trivial)
     ·refine cf hb ?_
      refine aP (rz tT ⟨[(jf u0),(aD p),(aK s_),(Tv b)],[]⟩ {} [] ?_)
      obtain rfl:=oi h
      exact lN
    ·refine cf hb1 ?_
     refine aI (fz (RO u0 p s_) []) ?_
     refine aX ?_
     obtain rfl:=oi h
     exact lB
   ·clear hy
    cases y with
    |brk z=>
     unfold dA
     refine⟨_, .refl, ?_⟩
     refine aQ (bE h fun u1 hr_1 h=> ?_)
     have q0:=CQ p s_ u0 hr_1
     refine rg tT ⟨[(6,(vI u1)),(7,(vI 0))],[]⟩ [_] {an:=[(3,cA q0 [])] } [] ⟨q0,trivial⟩ ?_
     refine aR ?_
     obtain rfl:=oi h
     exact rl [(sI u1),(sI 0)]
    |ret v=>
     obtain rfl:=oi h
     unfold dA
     intro e st hn ha hR
     cases e with
     |normal=>exact absurd rfl hn
     |exit id=>exact hR
     |goto l=>exact hR
     |ret=>exact hR
     |panic c=>exact hR
     |outgrown=>exact hR
def qK  :Int→Exit→St→Prop:=
  fun r=>aW TT [.tmp 2] (vI r) []
section
variable (x:ai)
abbrev JL:Nat × TV:=(1,(ZI x))
end
def xO (x:ai):(Int × Int)→St:=
  fun zz=>match zz with|(n,r_)=> ⟨[(JL x),(3,(vI n)),(4,(vI r_))],[]⟩
def xY  :Int→St:=
  fun n1=> ⟨[(3,(vI n1))],[]⟩
def FU (x:ai):(aJ (Int × Int) (Ex Int Int))→Exit→St→Prop:=
  LQ 0 [] (xO x) xY qK
section
variable (n:Int) (x:ai) (r_:Int)
abbrev aan:Nat × TV:=(3,(vI (IntKind.wrap .i64 ((IntKind.wrap .i64 (n+(Hq x r_)))+(Gx x r_)))))
end
theorem xZ (x:ai) {r:Int} (h:jR x=some r):Fn Try.prog 47 (VI x) [] (vI r) []:=by
 refine fN tT Try.func47 rfl rfl fun B=> ?_
 show bn _ _ _ _ _ _ (qK r) _
 unfold jR at h
 refine sz tT ⟨[(JL x)],[]⟩ {fr:=[(0,1)] } [1] ?_
 refine sz tT ⟨[(JL x),(3,(vI 0))],[]⟩ {} [] ?_
 refine aQ (sz tT ⟨[(JL x),(3,(vI 0)),(4,(vI 0))],[]⟩ {} [] ?_)
 refine bE h fun y hy h=> ?_
 refine aL [] (xO x) xY qK hy (fun s f h=> ?_) ?_
 ·clear hy
  show bn _ _ _ _ _ _ ((FU x) f) _
  unfold gJ at h
  obtain⟨n,r_⟩:=s
  refine aQ (sz tT ⟨[(JL x),(3,(vI n)),(4,(vI r_)),(9,(Ui x r_))],[]⟩ {} [] ?_)
  refine bI h (fun hb h=> ?_) (fun hb h=> ?_)
  ·refine ct hb ?_
   refine aP (aQ (aB (aO h fun a1 h=> ?_)))
   refine dg tT mX ⟨[(JL x),(aan n x r_),(4,(vI r_))],[]⟩ [_,(0:Int)≤0∧(0:Int)<(2:Nat),_,(0:Int)≤1∧(1:Int)<(2:Nat)] {} [] ⟨a1,((by decide)),a1,((by decide)),trivial⟩ ?_
   refine rz tT ⟨[(JL x),(aan n x r_),(4,(k3 r_))],[]⟩ {} [] ?_
   obtain rfl:=oi h
   exact lN
  ·refine cf hb ?_
   refine aI (fz ⟨[(3,(vI n))],[]⟩ []) ?_
   refine aX ?_
   obtain rfl:=oi h
   exact lB
 ·clear hy
  cases y with
  |brk z=>
   obtain⟨n1,rfl⟩: ∃q,q=z:=⟨_,rfl⟩
   unfold dA
   refine⟨_, .refl, ?_⟩
   refine sz tT ⟨[(2,(vI n1))],[]⟩ {} [] ?_
   refine aR ?_
   obtain rfl:=oi h
   exact rl [(sI n1)]
  |ret v=>
   obtain rfl:=oi h
   unfold dA
   intro e st hn ha hR
   cases e with
   |normal=>exact absurd rfl hn
   |exit id=>exact hR
   |goto l=>exact hR
   |ret=>exact hR
   |panic c=>exact hR
   |outgrown=>exact hR
def E8  :Int→Exit→St→Prop:=
  fun r=>aW TT [.tmp 8] (vI r) []
theorem ES (p:ah) (s_:State) (x:ai) (u1:(List Bool)) {r:Int} (h:kI p s_ x u1=some r):Fn Try.prog 50 (YS p s_ x u1) [] (vI r) []:=by
 refine fN tT Try.func50 rfl rfl fun B=> ?_
 show bn _ _ _ _ _ _ (E8 r) _
 unfold kI at h
 refine sz tT (ack p s_ x u1) {fr:=[(0,3),(1,4),(2,5)] } [3,4,5] ?_
 refine aQ (bE h fun r_ hr_ h=> ?_)
 have q0:=oO p s_ x hr_
 refine rg tT (ae7 p s_ x u1 r_) [_] {an:=[(3,cA q0 [])] } [] ⟨q0,trivial⟩ ?_
 refine aQ (sz tT ⟨[(MO u1),(M0 p),(Na s_),(Ko x),(9,(vI r_)),(16,(vB (!decide (r_=0))))],[]⟩ {} [] ?_)
 refine bI h (fun hb1 h=> ?_) (fun hb1 h=> ?_)
 ·refine ct hb1 ?_
  refine sz tT ⟨[(8,(vI r_))],[]⟩ {} [] ?_
  refine aR ?_
  obtain rfl:=oi h
  exact rl [(sI r_)]
 ·refine cf hb1 ?_
  refine aP (aQ (bE h fun u0 hr_1 h=> ?_))
  have q0:=sK p s_ u1 hr_1
  refine rg tT ⟨[(Ko x),(9,(vI u0.2)),(10,(vI u0.1))],[]⟩ [_] {an:=[(3,cA q0 [])] } [] ⟨q0,trivial⟩ ?_
  refine aQ (aQ (bE h fun u2 hr_2 h=> ?_))
  refine rg tT ⟨[(9,(vI u0.2)),(32,(vB (bif (decide (u0.2=0))then(!decide (u0.1=u2))else false)))],[]⟩ (eqs (decide (u0.2=0)) 3 ((gP (fQ [(2,(decide (u0.2=0)))]) [(2,true)]→All [Fn Try.prog 47 (VI x) [] (vI u2) []])::(eqs (decide (u0.2=0)) 2 []))) {yb:=[(2,(decide (u0.2=0)))],an:=[(5, .call [] (vI u2) [])] } [] (ae ⟨(fun hg=> ⟨(xZ x (dU hr_2 (aM hg))),trivial⟩),(ae trivial)⟩) ?_
  refine bI h (fun hb h=> ?_) (fun hb h=> ?_)
  ·refine ct hb ?_
   refine rz tT ⟨[(9,(vI 7))],[]⟩ {} [] ?_
   refine sz tT ⟨[(8,(vI 7))],[]⟩ {} [] ?_
   refine aR ?_
   obtain rfl:=oi h
   exact rl [(sI 7)]
  ·refine cf hb ?_
   refine aP (sz tT ⟨[(8,(vI u0.2))],[]⟩ {} [] ?_)
   refine aR ?_
   obtain rfl:=oi h
   exact rl [(sI u0.2)]
def Df  :(List Int)→Exit→St→Prop:=
  fun r=>aW TT [.tmp 2] (vO 0 false r.length) [(0,some (bU 3 1 (au .i64) r))]
theorem rA (l:(List Int)) {r:(List Int)} (h:mJ l=some r):Fn Try.prog 44 [(sD (vk l))] [] (vO 0 false r.length) [(0,some (bU 3 1 (au .i64) r))]:=by
 refine fN tT Try.func44 rfl rfl fun B=> ?_
 show bn _ _ _ _ _ _ (Df r) _
 unfold mJ at h
 refine sz tT ⟨[(jk l)],[]⟩ {} [] ?_
 refine sz tT ⟨[(jk l),(3,(vD nS))],[]⟩ {} [] ?_
 refine aQ (aO h fun⟨a1,a2⟩ h=> ?_)
 refine rg tT ⟨[(2,(vO 1 false l.length))],[(1,some (bU 3 1 (au .i64) l))]⟩ [_,_,l.length=l.length,aH l.length 1 (aC (au .i64) l) (aC (au .i64) l)] {an:=[(2, .arr l.length (aC (au .i64) l))],fr:=[(2,1)] } [] ⟨a1,a2,rfl,(fJ _ _ _),trivial⟩ ?_
 refine aI (bH.fin (st':=⟨[(2,(vO 0 false l.length))],(uW l)⟩) (cs:=[]) ⟨[],[(1,0)]⟩ [2] (by kernel_rfl) trivial) ?_
 refine aR ?_
 obtain rfl:=oi h
 exact rl [(.one (.own 0 false l.length))]
def BK  :Bool→Exit→St→Prop:=
  fun r=>aW TT [.tmp 8] (vB r) []
section
variable (p:ah) (x:ai) (u9:(List Int)) (v0:(List Int)) (u0:(Int × Int)) (u1:(Int × Int)) (u2:Int) (u3:Int) (u4:Int) (u5:Int) (u6:Int) (u7:Int) (v1:Bool)
abbrev Xm:=(bif (decide (60<(p.sources.length:Int)))then true else(decide (60<(p.links.length:Int))))
abbrev Xr:=(bif (Xm p)then true else(decide (60<(p.racks.length:Int))))
abbrev XC:=(bif (Xr p)then true else(decide (100<(x.sources.length:Int))))
abbrev Vx:=(bif (XC p x)then true else(decide (100<(x.links.length:Int))))
abbrev V9:=(bif (Vx p x)then true else(decide (100<(x.racks.length:Int))))
abbrev BH:=(([]:List af)++x.racks)
abbrev R7:List CV:=[(.d (vk u9)),(.d (vk v0)),(.d (aU none 2 af.cell (BH x)))]
abbrev Vf:Nat × TV:=(9,(vD (l8 [(vk u9),(vk v0),(aU none 2 af.cell (BH x))] 0)))
abbrev L9:=(bif (decide (u0.1=u1.1))then(decide (u0.2=u1.2))else false)
abbrev Mr:=(bif (L9 u0 u1)then(decide (u2=u3))else false)
abbrev Mj:=(bif (Mr u0 u1 u2 u3)then(decide (u4=u5))else false)
abbrev Jw:=(bif (Mj u0 u1 u2 u3 u4 u5)then(decide (u6=u7))else false)
abbrev Z6:=(bif (Jw u0 u1 u2 u3 u4 u5 u6 u7)then v1 else false)
abbrev JQ:=(fQ [(3,(decide (u0.1=u1.1))),(8,(L9 u0 u1)),(15,(Mr u0 u1 u2 u3)),(26,(Mj u0 u1 u2 u3 u4 u5)),(39,(Jw u0 u1 u2 u3 u4 u5 u6 u7))])
end
theorem A9 (p:ah) (s_:State) (x:ai) (u8:(List Bool)) {r:Bool} (h:iE p s_ x u8=some r):Fn Try.prog 7 (YS p s_ x u8) [] (vB r) []:=by
 refine fN tT Try.func7 rfl rfl fun B=> ?_
 show bn _ _ _ _ _ _ (BK r) _
 unfold iE at h
 refine sz tT (ack p s_ x u8) {fr:=[(0,8),(1,9),(2,10)] } [8,9,10] ?_
 refine aQ (sg tT ⟨[(MO u8),(M0 p),(Na s_),(Ko x),(52,(vB (bif (V9 p x)then true else(decide (100<(u8.length:Int))))))],[]⟩ (eqs (decide (60<(p.sources.length:Int))) 5 (eqs (Xm p) 5 (eqs (Xr p) 5 (eqs (XC p x) 5 (eqs (Vx p x) 5 (eqs (V9 p x) 4 [])))))) {yb:=[(4,(decide (60<(p.sources.length:Int)))),(10,(Xm p)),(16,(Xr p)),(22,(XC p x)),(28,(Vx p x)),(34,(V9 p x))] } [] (ae (ae (ae (ae (ae (ae trivial)))))) ?_)
 refine bI h (fun hb h=> ?_) (fun hb h=> ?_)
 ·refine ct hb ?_
  refine aQ (bE h fun r_ hr_ h=> ?_)
  have q0:=zb hr_
  refine rg tT ⟨[(8,(vB r_))],[]⟩ [_] {an:=[(0,cA q0 [])] } [] ⟨q0,trivial⟩ ?_
  refine aR ?_
  obtain rfl:=oi h
  exact rl [(sB r_)]
 ·refine cf hb ?_
  refine aP (aQ (bE h fun u9 hr_1 h=> ?_))
  refine bE h fun v0 hr_2 h=> ?_
  refine aO h fun⟨a1,a2⟩ h=> ?_
  have q0:=rk [(0,11)] (rA x.sources hr_1)
  have q1:=rk [(0,12)] (rA x.links hr_2)
  refine di tT mX ⟨[(MO u8),(M0 p),(Na s_),(Ko x),(9,(vP 15 0))],[(15,some (.cells 77 (R7 x u9 v0)))]⟩ [_,_,([]:List af).length=0,aH 0 2 (iZ 2 []) (aC af.cell ([]:List af)),([]:List af).length=([]:List af).length,_,_,(BH x).length=([]:List af).length+x.racks.length,aH (([]:List af).length+x.racks.length) 2 (Eg (aC af.cell ([]:List af)) ([]:List af).length (aC af.cell x.racks)) (aC af.cell (BH x)),u9.length=u9.length,v0.length=v0.length,(BH x).length=(BH x).length] {an:=[(2,cA q0 []),(5,cA q1 []),(6, .arr ([]:List af).length (aC af.cell ([]:List af))),(9, .arr (BH x).length (aC af.cell (BH x)))],fr:=[(6,13),(9,14),(11,15)] } [11,12,14] ⟨q0,q1,(rfl),((fun i hi=>absurd hi (Nat.not_lt_zero i))),rfl,a1,a2,(List.length_append),(kS _ _ _ _),rfl,rfl,rfl,trivial⟩ (fz ⟨[(MO u8),(M0 p),(Na s_),(Ko x),(Vf x u9 v0)],[]⟩ [15]) ?_
  refine aQ (bE h fun u0 hr_3 h=> ?_)
  have q0:=oG p s_ u8 hr_3
  refine rg tT ⟨[(MO u8),(M0 p),(Na s_),(Ko x),(Vf x u9 v0),(10,(vI u0.1)),(11,(vI u0.2))],[]⟩ [_] {an:=[(3,cA q0 [])] } [] ⟨q0,trivial⟩ ?_
  refine aQ (bE h fun u1 hr_4 h=> ?_)
  have q0:=sK p s_ u8 hr_4
  refine rg tT ⟨[(MO u8),(M0 p),(Na s_),(Ko x),(Vf x u9 v0),(10,(vI u0.1)),(11,(vI u0.2)),(12,(vI u1.1)),(13,(vI u1.2))],[]⟩ [_] {an:=[(3,cA q0 [])] } [] ⟨q0,trivial⟩ ?_
  refine aQ (bE h fun u2 hr_5 h=> ?_)
  refine bE h fun u3 hr_6 h=> ?_
  refine bE h fun u4 hr_7 h=> ?_
  refine bE h fun u5 hr_8 h=> ?_
  refine bE h fun u6 hr_9 h=> ?_
  refine bE h fun u7 hr_10 h=> ?_
  refine bE h fun v1 hr_11 h=> ?_
  refine dg tT mX ⟨[(8,(vB (Z6 u0 u1 u2 u3 u4 u5 u6 u7 v1)))],[]⟩ (eqs (decide (u0.1=u1.1)) 4 (eqs (L9 u0 u1) 2 ((gP (JQ u0 u1 u2 u3 u4 u5 u6 u7) [(8,true)]→All [Fn Try.prog 41 [(.agg (R7 x u9 v0))] [] (vI u2) []])::(eqs (L9 u0 u1) 2 ((gP (JQ u0 u1 u2 u3 u4 u5 u6 u7) [(8,true)]→All [Fn Try.prog 47 (VI x) [] (vI u3) []])::(eqs (L9 u0 u1) 2 (eqs (Mr u0 u1 u2 u3) 4 ((gP (JQ u0 u1 u2 u3 u4 u5 u6 u7) [(15,true)]→All [Fn Try.prog 48 [(.agg (k7 p)),(.agg (JR s_)),(.agg (R7 x u9 v0))] [] (vI u4) []])::(eqs (Mr u0 u1 u2 u3) 4 ((gP (JQ u0 u1 u2 u3 u4 u5 u6 u7) [(15,true)]→All [Fn Try.prog 43 (Pp p s_ x) [] (vI u5) []])::(eqs (Mr u0 u1 u2 u3) 2 (eqs (Mj u0 u1 u2 u3 u4 u5) 5 ((gP (JQ u0 u1 u2 u3 u4 u5 u6 u7) [(26,true)]→All [Fn Try.prog 49 [(.agg (k7 p)),(.agg (JR s_)),(.agg (R7 x u9 v0)),(sD (aU none 1 aj u8))] [] (vI u6) []])::(eqs (Mj u0 u1 u2 u3 u4 u5) 5 ((gP (JQ u0 u1 u2 u3 u4 u5 u6 u7) [(26,true)]→All [Fn Try.prog 50 (YS p s_ x u8) [] (vI u7) []])::(eqs (Mj u0 u1 u2 u3 u4 u5) 2 [(Jw u0 u1 u2 u3 u4 u5 u6 u7)=(Jw u0 u1 u2 u3 u4 u5 u6 u7),gP (JQ u0 u1 u2 u3 u4 u5 u6 u7) [(39,true)]→All [Fn Try.prog 30 [] [] (vB v1) []],(Jw u0 u1 u2 u3 u4 u5 u6 u7)=(Jw u0 u1 u2 u3 u4 u5 u6 u7)])))))))))))))))) {yb:=[(3,(decide (u0.1=u1.1))),(8,(L9 u0 u1)),(15,(Mr u0 u1 u2 u3)),(26,(Mj u0 u1 u2 u3 u4 u5)),(39,(Jw u0 u1 u2 u3 u4 u5 u6 u7))],an:=[(10, .call [] (vI u2) []),(12, .call [] (vI u3) []),(19, .call [] (vI u4) []),(23, .call [] (vI u5) []),(31, .call [] (vI u6) []),(36, .call [] (vI u7) []),(40, .call [] (vB v1) [])] } [] (ae (ae ⟨(fun hg=> ⟨(dP (⟨u9,v0,(BH x)⟩:ai) (dU hr_5 (aM hg))),trivial⟩),(ae ⟨(fun hg=> ⟨(xZ x (dU hr_6 (aM hg))),trivial⟩),(ae (ae ⟨(fun hg=> ⟨(p8 p s_ (⟨u9,v0,(BH x)⟩:ai) (dU hr_7 (aM hg))),trivial⟩),(ae ⟨(fun hg=> ⟨(oO p s_ x (dU hr_8 (aM hg))),trivial⟩),(ae (ae ⟨(fun hg=> ⟨(iY p s_ (⟨u9,v0,(BH x)⟩:ai) u8 (dU hr_9 (aM hg))),trivial⟩),(ae ⟨(fun hg=> ⟨(ES p s_ x u8 (dU hr_10 (aM hg))),trivial⟩),(ae ⟨rfl,(fun hg=> ⟨(zb (dU hr_11 (aM hg))),trivial⟩),rfl,trivial⟩)⟩)⟩))⟩)⟩))⟩)⟩)) ?_
  refine aR ?_
  obtain rfl:=oi h
  exact rl [(sB (Z6 u0 u1 u2 u3 u4 u5 u6 u7 v1))]
end
end Sg
