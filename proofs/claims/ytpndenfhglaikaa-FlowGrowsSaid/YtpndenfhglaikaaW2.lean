import Derived.Test.YtpndenfhglaikaaW1
set_option linter.all false
namespace Sg
open Go Go.Proofs
set_option maxRecDepth 20000
noncomputable section
section
variable (a:(List Short)) (i:Int) (b:(List Short))
abbrev U5:=(!decide (((at' a i.toNat).source)=((at' b i.toNat).source)))
abbrev VN:=(bif (U5 a i b)then true else(!decide (((at' a i.toNat).iR)=((at' b i.toNat).iR))))
abbrev RN:=(bif (VN a i b)then true else(!decide (((at' a i.toNat).amps)=((at' b i.toNat).amps))))
abbrev Sc:=(jP [(11,(U5 a i b)),(24,(VN a i b)),(37,(RN a i b))])
end
theorem dK (a:(List Short)) (b:(List Short)) {r:Bool} (h:gT a b=some r):Fn Try.prog 52 [(sD (aG none 4 Short.cell a)),(sD (aG none 4 Short.cell b))] [] (vB r) []:=by
 refine fN tT Try.func52 rfl rfl fun B=> ?_
 show bL _ _ _ _ _ _ (ng r) _
 unfold gT at h
 refine sz tT ⟨[(Ti a),(Jh b)],[]⟩ {} [] ?_
 refine aQ (sz tT ⟨[(Ti a),(Jh b),(10,(vB (!decide ((a.length:Int)=(b.length:Int)))))],[]⟩ {} [] ?_)
 refine bI h (fun hb2 h=> ?_) (fun hb2 h=> ?_)
 ·refine ct hb2 ?_
  refine sz tT ⟨[(4,(vB false))],[]⟩ {} [] ?_
  refine aR ?_
  obtain rfl:=oi h
  exact rl [(sB false)]
 ·refine cf hb2 ?_
  refine aP (aQ (sz tT ⟨[(Ti a),(Jh b),(5,(vI 0))],[]⟩ {} [] ?_))
  refine bE h fun y hy h=> ?_
  refine aL [] (qV a b) qO ng hy (fun s f h=> ?_) ?_
  ·clear hy
   show bL _ _ _ _ _ _ ((Bh a b) f) _
   unfold qR at h
   obtain⟨i,rfl⟩: ∃q,q=s:=⟨_,rfl⟩
   refine aQ (sz tT ⟨[(Ti a),(Jh b),(5,(vI i)),(14,(vB (decide (i<(a.length:Int)))))],[]⟩ {} [] ?_)
   refine bI h (fun hb1 h=> ?_) (fun hb1 h=> ?_)
   ·refine ct hb1 ?_
    refine aP (aQ (aB (aQ (bE h fun r_ hr_ h=> ?_))))
    refine aO h fun⟨a1,a2,a3,a4,a5,a6,a7,a8⟩ h=> ?_
    refine dg tT mX ⟨[(Ti a),(Jh b),(5,(vI i)),(67,(vB (bif (RN a i b)then true else(!r_))))],[]⟩ (_::_::(eqs (U5 a i b) 3 ((gP (Sc a i b) [(11,false)]→All [(0:Int)≤i∧i<(a.length:Int)])::(eqs (U5 a i b) 5 ((gP (Sc a i b) [(11,false)]→All [(0:Int)≤i∧i<(b.length:Int)])::(eqs (U5 a i b) 4 (eqs (VN a i b) 3 ((gP (Sc a i b) [(24,false)]→All [(0:Int)≤i∧i<(a.length:Int)])::(eqs (VN a i b) 5 ((gP (Sc a i b) [(24,false)]→All [(0:Int)≤i∧i<(b.length:Int)])::(eqs (VN a i b) 4 (eqs (RN a i b) 3 ((gP (Sc a i b) [(37,false)]→All [(0:Int)≤i∧i<(a.length:Int)])::(eqs (RN a i b) 5 ((gP (Sc a i b) [(37,false)]→All [(0:Int)≤i∧i<(b.length:Int)])::(eqs (RN a i b) 3 ((gP (Sc a i b) [(37,false)]→All [Fn Try.prog 54 [(sD (ZT a i)),(sD (ZT b i))] [] (vB r_) []])::(eqs (RN a i b) 2 [])))))))))))))))))) {yb:=[(11,(U5 a i b)),(24,(VN a i b)),(37,(RN a i b))],an:=[(48, .call [] (vB r_) [])] } [] ⟨a1,a2,(ae ⟨(fun hg=> ⟨(a3 (aY hg)),trivial⟩),(ae ⟨(fun hg=> ⟨(a4 (aY hg)),trivial⟩),(ae (ae ⟨(fun hg=> ⟨(a5 (aY hg)),trivial⟩),(ae ⟨(fun hg=> ⟨(a6 (aY hg)),trivial⟩),(ae (ae ⟨(fun hg=> ⟨(a7 (aY hg)),trivial⟩),(ae ⟨(fun hg=> ⟨(a8 (aY hg)),trivial⟩),(ae ⟨(fun hg=> ⟨(dY ((at' a i.toNat).links) ((at' b i.toNat).links) (dZ hr_ (aY hg))),trivial⟩),(ae trivial)⟩)⟩)⟩))⟩)⟩))⟩)⟩)⟩ ?_
    refine bI h (fun hb h=> ?_) (fun hb h=> ?_)
    ·refine ct hb ?_
     refine sz tT ⟨[(4,(vB false))],[]⟩ {} [] ?_
     refine aR ?_
     obtain rfl:=oi h
     exact lR fQ (fT 0) fU (bJ.mk (.inr rfl) (p:=[]) (l:=[(sB false)]) (by kernel_rfl) trivial (eX.refl _) trivial)
    ·refine cf hb ?_
     refine aP (rz tT ⟨[(Ti a),(Jh b),(k2 i)],[]⟩ {} [] ?_)
     obtain rfl:=oi h
     exact lN
   ·refine cf hb1 ?_
    refine aI (fz ⟨[],[]⟩ []) ?_
    refine aX ?_
    obtain rfl:=oi h
    exact lB
  ·clear hy
   cases y with
   |brk z=>
    unfold fZ
    refine⟨_, .refl, ?_⟩
    refine sz tT ⟨[(4,(vB true))],[]⟩ {} [] ?_
    refine aR ?_
    obtain rfl:=oi h
    exact rl [(sB true)]
   |ret v=>
    obtain rfl:=oi h
    unfold fZ
    intro e st hn ha hR
    cases e with
    |normal=>exact absurd rfl hn
    |exit id=>exact hR
    |goto l=>exact hR
    |ret=>exact hR
    |panic c=>exact hR
    |outgrown=>exact hR
def mP (u0:(List Int)):(ai × State)→Exit→St→Prop:=
  fun r=>bJ TT [.cell 2 26, .cell 3 29] (.iC [(.agg [(cI r.1.buses),(.d (aG none 5 Source.cell r.1.sources)),(.d (aG none 6 Link.cell r.1.links)),(.d (aG none 4 ax.cell r.1.racks))]),(.agg [(.d (aG none 1 ah r.2.closed)),(.d (aG none 1 ah r.2.locked)),(.d (aG none 1 ah r.2.badLink)),(.d (aG none 1 ah r.2.on_)),(.d (aG none 1 ah r.2.badSource)),(.d (aG none 1 ah r.2.earthed)),(.d (aG none 1 ah r.2.badBus))])]) (vV u0)
section
variable (u0:(List Int)) (p3:(List ax))
abbrev Nb:Nat × Option Ob:=(21,some (.cells 26 [(cI 0),(.d nS),(.d nS),(.d nS)]))
abbrev Y7:Ob:=(.cells 29 [(.d nS),(.d nS),(.d nS),(.d nS),(.d nS),(.d nS),(.d nS)])
abbrev Ct:Nat × Option Ob:=(22,some Y7)
abbrev Qe:Nat × Option Ob:=(23,some (bg 126 5 Source.cell [(⟨0,1,500,0,20⟩:Source),(⟨2,2,300,0,40⟩:Source)]))
abbrev Rp:Nat × Option Ob:=(24,some (bg 53 6 Link.cell [(⟨0,1,3,400,10,([]:List je)⟩:Link),(⟨1,2,3,400,10,([]:List je)⟩:Link)]))
abbrev aaO:List (Nat × Option Ob):=[(HY u0),Nb,Ct,Qe,Rp,(25,some (.cells 26 [(cI 3),(.own 23 true ([(⟨0,1,500,0,20⟩:Source),(⟨2,2,300,0,40⟩:Source)].length)),(.own 24 true ([(⟨0,1,3,400,10,([]:List je)⟩:Link),(⟨1,2,3,400,10,([]:List je)⟩:Link)].length)),(.own 27 false p3.length)])),(27,some (bg 166 4 ax.cell p3))]
end
def qM (u0:(List Int)):((List ax) × Int)→St:=
  fun zz=>match zz with|(p3,i)=> ⟨[(Di u0),(2,(vP 21 0)),(3,(vP 22 0)),(4,(vP 25 0)),(5,(vI i))],(aaO u0 p3)⟩
section
variable (u1:(List Int)) (u0:(List ax))
abbrev agW:St:=⟨[(2,(vP 21 0)),(3,(vP 22 0)),(4,(vP 25 0))],(aaO u1 u0)⟩
end
def qN (u1:(List Int)):(List ax)→St:=
  fun u0=>(agW u1 u0)
def BB (u0:(List Int)):(aU ((List ax) × Int) (Ex (List ax) (ai × State)))→Exit→St→Prop:=
  LQ 0 [] (qM u0) (qN u0) (mP u0)
section
variable (u0:(List Int)) (i:Int) (p3:(List ax))
abbrev ahd:List CV:=[(cI 3),(.own 23 true ([(⟨0,1,500,0,20⟩:Source),(⟨2,2,300,0,40⟩:Source)].length)),(.own 24 true ([(⟨0,1,3,400,10,([]:List je)⟩:Link),(⟨1,2,3,400,10,([]:List je)⟩:Link)].length)),(.d nS)]
abbrev agl:Nat × Option Ob:=(25,some (.cells 26 ahd))
abbrev ahU:List (Nat × Option Ob):=[(HY u0),Nb,Ct,Qe,Rp,agl]
abbrev aaE:List (Nat × TV):=[(Di u0),(2,(vP 21 0)),(3,(vP 22 0)),(4,(vP 25 0)),(5,(vI 0))]
abbrev Um:=(⟨(⟨1,(-1)⟩:af),(at' u0 i.toNat),1⟩:ax)
abbrev QF:=(p3++[(Um u0 i)])
abbrev ai9:List (Nat × Option Ob):=[(HY u0),Nb,Ct,Qe,Rp,(25,some (.cells 26 [(cI 3),(.own 23 true ([(⟨0,1,500,0,20⟩:Source),(⟨2,2,300,0,40⟩:Source)].length)),(.own 24 true ([(⟨0,1,3,400,10,([]:List je)⟩:Link),(⟨1,2,3,400,10,([]:List je)⟩:Link)].length)),(.own 33 false ((QF u0 i p3).length))])),(33,some (bg 166 4 ax.cell (QF u0 i p3)))]
abbrev acG:=(ay ax.cell [(Um u0 i)])
abbrev agz:List (Nat × TV):=[(Di u0),(2,(vP 21 0)),(3,(vP 22 0)),(4,(vP 25 0)),(k2 i)]
abbrev ajG:DV:=(aG (some true) 5 Source.cell [(⟨0,1,500,0,20⟩:Source),(⟨2,2,300,0,40⟩:Source)])
abbrev ahz:DV:=(aG (some true) 6 Link.cell [(⟨0,1,3,400,10,([]:List je)⟩:Link),(⟨1,2,3,400,10,([]:List je)⟩:Link)])
abbrev ZL:DV:=(aG (some true) 1 ah [true,true])
abbrev Uk:DV:=(aG (some true) 1 ah (List.replicate 2 (false:Bool)))
abbrev ZO:DV:=(aG (some true) 1 ah (List.replicate 3 (false:Bool)))
abbrev ahV:DV:=(aG none 5 Source.cell [(⟨0,1,500,0,20⟩:Source),(⟨2,2,300,0,40⟩:Source)])
abbrev afN:DV:=(aG none 6 Link.cell [(⟨0,1,3,400,10,([]:List je)⟩:Link),(⟨1,2,3,400,10,([]:List je)⟩:Link)])
abbrev UR:DV:=(aG none 1 ah (List.replicate 2 (false:Bool)))
abbrev Z6:DV:=(aG none 1 ah (List.replicate 3 (false:Bool)))
end
theorem qK (u0:(List Int)) {r:(ai × State)} (h:oD u0=some r):Fn Try.prog 73 [(.one (.own 0 true u0.length))] (vV u0) (.iC [(.agg [(cI r.1.buses),(.d (aG none 5 Source.cell r.1.sources)),(.d (aG none 6 Link.cell r.1.links)),(.d (aG none 4 ax.cell r.1.racks))]),(.agg [(.d (aG none 1 ah r.2.closed)),(.d (aG none 1 ah r.2.locked)),(.d (aG none 1 ah r.2.badLink)),(.d (aG none 1 ah r.2.on_)),(.d (aG none 1 ah r.2.badSource)),(.d (aG none 1 ah r.2.earthed)),(.d (aG none 1 ah r.2.badBus))])]) (vV u0):=by
 refine fN tT Try.func73 rfl rfl fun B=> ?_
 show bL _ _ _ _ _ _ ((mP u0) r) _
 unfold oD at h
 refine sz tT ⟨[(Di u0),(2,(vP 21 0)),(3,(vP 22 0))],[(HY u0),Nb,Ct]⟩ {fr:=[(0,21),(1,22)] } [] ?_
 refine si tT ⟨[(Di u0),(2,(vP 21 0)),(3,(vP 22 0)),(4,(vP 25 0))],[(HY u0),Nb,Ct,Qe,(24,some (.arr 53 6 [(⟨0,1,3,400,10,([]:List je)⟩:Link),(⟨1,2,3,400,10,([]:List je)⟩:Link)].length (jG 6 [(.int .i64 0),(.int .i64 1),(.int .i64 3),(.int .i64 400),(.int .i64 10),nS,(.int .i64 1),(.int .i64 2),(.int .i64 3),(.int .i64 400),(.int .i64 10),nS]))),agl]⟩ [[(⟨0,1,500,0,20⟩:Source),(⟨2,2,300,0,40⟩:Source)].length=2,aC 2 5 (jG 5 [(.int .i64 0),(.int .i64 1),(.int .i64 500),(.int .i64 0),(.int .i64 20),(.int .i64 2),(.int .i64 2),(.int .i64 300),(.int .i64 0),(.int .i64 40)]) (ay Source.cell [(⟨0,1,500,0,20⟩:Source),(⟨2,2,300,0,40⟩:Source)]),[(⟨0,1,3,400,10,([]:List je)⟩:Link),(⟨1,2,3,400,10,([]:List je)⟩:Link)].length=2,aC 2 6 (jG 6 [(.int .i64 0),(.int .i64 1),(.int .i64 3),(.int .i64 400),(.int .i64 10),nS,(.int .i64 1),(.int .i64 2),(.int .i64 3),(.int .i64 400),(.int .i64 10),nS]) (jG 6 [(.int .i64 0),(.int .i64 1),(.int .i64 3),(.int .i64 400),(.int .i64 10),nS,(.int .i64 1),(.int .i64 2),(.int .i64 3),(.int .i64 400),(.int .i64 10),nS])] {an:=[(2, .arr [(⟨0,1,500,0,20⟩:Source),(⟨2,2,300,0,40⟩:Source)].length (ay Source.cell [(⟨0,1,500,0,20⟩:Source),(⟨2,2,300,0,40⟩:Source)])),(5, .arr [(⟨0,1,3,400,10,([]:List je)⟩:Link),(⟨1,2,3,400,10,([]:List je)⟩:Link)].length (jG 6 [(.int .i64 0),(.int .i64 1),(.int .i64 3),(.int .i64 400),(.int .i64 10),nS,(.int .i64 1),(.int .i64 2),(.int .i64 3),(.int .i64 400),(.int .i64 10),nS]))],fr:=[(2,23),(5,24),(7,25)] } [] ⟨(rfl),((by intro i hi j hj;match i,j,hi,hj with|0,0,_,_=>rfl|0,1,_,_=>rfl|0,2,_,_=>rfl|0,3,_,_=>rfl|0,4,_,_=>rfl|1,0,_,_=>rfl|1,1,_,_=>rfl|1,2,_,_=>rfl|1,3,_,_=>rfl|1,4,_,_=>rfl)),(rfl),(gy _ _ _),trivial⟩ (bB.le (st':=⟨[(Di u0),(2,(vP 21 0)),(3,(vP 22 0)),(4,(vP 25 0))],(ahU u0)⟩) ⟨⟨tR,tR,tR,tR,trivial⟩,(hN 4 ⟨rfl,TP (by intro i hi j hj;match i,j,hi,hj with|0,0,_,_=>exact .refl _|0,1,_,_=>exact .refl _|0,2,_,_=>exact .refl _|0,3,_,_=>exact .refl _|0,4,_,_=>exact .refl _|0,5,_,_=>exact dX.nil'|1,0,_,_=>exact .refl _|1,1,_,_=>exact .refl _|1,2,_,_=>exact .refl _|1,3,_,_=>exact .refl _|1,4,_,_=>exact .refl _|1,5,_,_=>exact dX.nil'),(.refl _)⟩)⟩) ?_
 refine aQ (sz tT ⟨(aaE u0),(ahU u0)⟩ {} [] ?_)
 refine bE h fun y hy h=> ?_
 refine aI (.trans (bB.rA (E:=0) (esz:=0) (E0:=26) (cs:=ahd) (p:=25) (q:=3) (b:=34) (esz0:=0) (el0:=fun _ _=> .nilp) (ob:= .arr 166 4 0 (ay ax.cell ([]:List ax))) (fun _ _ _ _ h=> .inl ⟨h,rfl⟩) (by kernel_rfl) (by kernel_rfl) (by kernel_rfl)) (.trans (fz ⟨(aaE u0),[(HY u0),Nb,Ct,Qe,Rp,(25,some (.cells 26 [(cI 3),(.own 23 true ([(⟨0,1,500,0,20⟩:Source),(⟨2,2,300,0,40⟩:Source)].length)),(.own 24 true ([(⟨0,1,3,400,10,([]:List je)⟩:Link),(⟨1,2,3,400,10,([]:List je)⟩:Link)].length)),(.own 34 false 0)])),(34,some (.arr 166 4 0 (ay ax.cell ([]:List ax))))]⟩ []) (.trans (bB.fin (st':=⟨(aaE u0),[(HY u0),Nb,Ct,Qe,Rp,(25,some (.cells 26 [(cI 3),(.own 23 true ([(⟨0,1,500,0,20⟩:Source),(⟨2,2,300,0,40⟩:Source)].length)),(.own 24 true ([(⟨0,1,3,400,10,([]:List je)⟩:Link),(⟨1,2,3,400,10,([]:List je)⟩:Link)].length)),(.own 27 false 0)])),(27,some (.arr 166 4 0 (ay ax.cell ([]:List ax))))]⟩) (cs:=[]) ⟨[],[(0,0),(21,21),(22,22),(23,23),(24,24),(25,25),(34,27)]⟩ [0,2,3,4,5] (by kernel_rfl) trivial) (bB.le (st':=⟨(aaE u0),[(HY u0),Nb,Ct,Qe,Rp,(25,some (.cells 26 [(cI 3),(.own 23 true ([(⟨0,1,500,0,20⟩:Source),(⟨2,2,300,0,40⟩:Source)].length)),(.own 24 true ([(⟨0,1,3,400,10,([]:List je)⟩:Link),(⟨1,2,3,400,10,([]:List je)⟩:Link)].length)),(.own 27 false (([]:List ax).length))])),(27,some (bg 166 4 ax.cell ([]:List ax)))]⟩) ⟨⟨tR,tR,tR,tR,tR,trivial⟩,(hN 5 ⟨rfl,aJ ⟨bR.refl _,bR.refl _,bR.refl _,cW,trivial⟩,⟨rfl,oW,trivial⟩⟩)⟩)))) ?_
 refine aL [] (qM u0) (qN u0) (mP u0) hy (fun s f h=> ?_) ?_
 ·clear hy
  show bL _ _ _ _ _ _ ((BB u0) f) _
  unfold vg at h
  obtain⟨p3,i⟩:=s
  refine aQ (sz tT ⟨[(Di u0),(2,(vP 21 0)),(3,(vP 22 0)),(4,(vP 25 0)),(5,(vI i)),(17,(WN i u0))],(aaO u0 p3)⟩ {} [] ?_)
  refine bI h (fun hb h=> ?_) (fun hb h=> ?_)
  ·refine ct hb ?_
   refine aP (aQ (aB (sz tT ⟨[(Di u0),(2,(vP 21 0)),(3,(vP 22 0)),(4,(vP 25 0)),(5,(vI i)),(6,(vO 27 false p3.length))],(aaO u0 p3)⟩ {} [] ?_)))
   refine aO h fun⟨a1,a2,a3⟩ h=> ?_
   refine rg tT ⟨[(Di u0),(2,(vP 21 0)),(3,(vP 22 0)),(4,(vP 25 0)),(5,(vI i))],(ai9 u0 i p3)⟩ [_,_,[(Um u0 i)].length=1,aC 1 4 (jG 4 [(.int .i64 1),(.int .i64 (-1)),(.int .i64 (at' u0 i.toNat)),(.int .i64 1)]) (acG u0 i),p3.length=p3.length,_,_,(QF u0 i p3).length=p3.length+[(Um u0 i)].length,aC (p3.length+[(Um u0 i)].length) 4 (Dn (ay ax.cell p3) p3.length (acG u0 i)) (ay ax.cell (QF u0 i p3))] {an:=[(7, .arr [(Um u0 i)].length (acG u0 i)),(8, .arr (QF u0 i p3).length (ay ax.cell (QF u0 i p3)))],fr:=[(7,32),(8,33)] } [] ⟨a1,(tL a1),(rfl),((by intro i hi j hj;match i,j,hi,hj with|0,0,_,_=>rfl|0,1,_,_=>rfl|0,2,_,_=>rfl|0,3,_,_=>rfl)),rfl,a2,a3,(List.length_append),(jY _ _ _ _),trivial⟩ ?_
   refine ri tT ⟨(agz u0 i),(ai9 u0 i p3)⟩ [] {} [] trivial (bB.fin (st':=⟨(agz u0 i),[(HY u0),Nb,Ct,Qe,Rp,(25,some (.cells 26 [(cI 3),(.own 23 true ([(⟨0,1,500,0,20⟩:Source),(⟨2,2,300,0,40⟩:Source)].length)),(.own 24 true ([(⟨0,1,3,400,10,([]:List je)⟩:Link),(⟨1,2,3,400,10,([]:List je)⟩:Link)].length)),(.own 27 false ((QF u0 i p3).length))])),(27,some (bg 166 4 ax.cell (QF u0 i p3)))]⟩) (cs:=[]) ⟨[],[(0,0),(21,21),(22,22),(23,23),(24,24),(25,25),(33,27)]⟩ [0,2,3,4,5] (by kernel_rfl) trivial) ?_
   obtain rfl:=oi h
   exact lN
  ·refine cf hb ?_
   refine aI (fz (agW u0 p3) []) ?_
   refine aX ?_
   obtain rfl:=oi h
   exact lB
 ·clear hy
  cases y with
  |brk z=>
   obtain⟨u1,rfl⟩: ∃q,q=z:=⟨_,rfl⟩
   unfold fZ
   refine⟨_, .refl, ?_⟩
   refine aQ (aO h fun⟨a1,a2,a3,a4,a5,a6⟩ h=> ?_)
   refine di tT mX ⟨[(2,(vP 21 0)),(3,(vP 22 0))],[(HY u0),(21,some (.cells 26 [(cI 3),(.d ajG),(.d ahz),(.d (k14 u1))])),(22,some (.cells 29 [(.d ZL),(.d Uk),(.d Uk),(.d ZL),(.d Uk),(.d ZO),(.d ZO)]))]⟩ (([true,true].length=2)::aC 2 1 (jG 1 [(.bool true),(.bool true)]) (ay ah [true,true])::_::((2:Int)=2)::_::_::((List.replicate 2 (false:Bool)).length=2)::aC 2 1 (fun _ j=>[(.bool false)].getD j .nilp) (ay ah (List.replicate 2 (false:Bool)))::_::((2:Int)=2)::_::_::((List.replicate 2 (false:Bool)).length=2)::aC 2 1 (fun _ j=>[(.bool false)].getD j .nilp) (ay ah (List.replicate 2 (false:Bool)))::([true,true].length=2)::aC 2 1 (jG 1 [(.bool true),(.bool true)]) (ay ah [true,true])::_::((2:Int)=2)::_::_::((List.replicate 2 (false:Bool)).length=2)::aC 2 1 (fun _ j=>[(.bool false)].getD j .nilp) (ay ah (List.replicate 2 (false:Bool)))::_::((3:Int)=3)::_::_::((List.replicate 3 (false:Bool)).length=3)::aC 3 1 (fun _ j=>[(.bool false)].getD j .nilp) (ay ah (List.replicate 3 (false:Bool)))::_::((3:Int)=3)::_::_::((List.replicate 3 (false:Bool)).length=3)::aC 3 1 (fun _ j=>[(.bool false)].getD j .nilp) (ay ah (List.replicate 3 (false:Bool)))::([(⟨0,1,500,0,20⟩:Source),(⟨2,2,300,0,40⟩:Source)].length=[(⟨0,1,500,0,20⟩:Source),(⟨2,2,300,0,40⟩:Source)].length)::([(⟨0,1,3,400,10,([]:List je)⟩:Link),(⟨1,2,3,400,10,([]:List je)⟩:Link)].length=[(⟨0,1,3,400,10,([]:List je)⟩:Link),(⟨1,2,3,400,10,([]:List je)⟩:Link)].length)::(u1.length=u1.length)::([true,true].length=[true,true].length)::(eqs (List.replicate 2 (false:Bool)).length 2 (([true,true].length=[true,true].length)::((List.replicate 2 (false:Bool)).length=(List.replicate 2 (false:Bool)).length)::(eqs (List.replicate 3 (false:Bool)).length 2 [])))) {an:=[(1, .arr [true,true].length (ay ah [true,true])),(2, .arr (List.replicate 2 (false:Bool)).length (ay ah (List.replicate 2 (false:Bool)))),(3, .arr (List.replicate 2 (false:Bool)).length (ay ah (List.replicate 2 (false:Bool)))),(4, .arr [true,true].length (ay ah [true,true])),(5, .arr (List.replicate 2 (false:Bool)).length (ay ah (List.replicate 2 (false:Bool)))),(6, .arr (List.replicate 3 (false:Bool)).length (ay ah (List.replicate 3 (false:Bool)))),(7, .arr (List.replicate 3 (false:Bool)).length (ay ah (List.replicate 3 (false:Bool))))],fr:=[(1,35),(2,36),(3,37),(4,38),(5,39),(6,40),(7,41)] } [23,24,27,35,36,37,38,39,40,41] ⟨(rfl),((by intro i hi j hj;match i,j,hi,hj with|0,0,_,_=>rfl|1,0,_,_=>rfl)),a1,rfl,a2,a3,(List.length_replicate),(dO _ _ _ _ _ (fun j hj=>(match j,hj with|0,_=>rfl))),a1,rfl,a2,a3,(List.length_replicate),(dO _ _ _ _ _ (fun j hj=>(match j,hj with|0,_=>rfl))),(rfl),((by intro i hi j hj;match i,j,hi,hj with|0,0,_,_=>rfl|1,0,_,_=>rfl)),a1,rfl,a2,a3,(List.length_replicate),(dO _ _ _ _ _ (fun j hj=>(match j,hj with|0,_=>rfl))),a4,rfl,a5,a6,(List.length_replicate),(dO _ _ _ _ _ (fun j hj=>(match j,hj with|0,_=>rfl))),a4,rfl,a5,a6,(List.length_replicate),(dO _ _ _ _ _ (fun j hj=>(match j,hj with|0,_=>rfl))),rfl,rfl,rfl,rfl,(ae ⟨rfl,rfl,(ae trivial)⟩)⟩ (fz ⟨[(2,(vD (kH [(.int .i64 3),ajG,ahz,(k14 u1)] 0))),(3,(vD (kH [ZL,Uk,Uk,ZL,Uk,ZO,ZO] 0)))],(vV u0)⟩ [21,22]) ?_
   refine aI (bB.le (st':=⟨[(2,(vD (kH [(.int .i64 3),ahV,afN,(k14 u1)] 0))),(3,(vD (kH [(aG none 1 ah [true,true]),UR,UR,(aG none 1 ah [true,true]),UR,Z6,Z6] 0)))],(vV u0)⟩) ⟨⟨⟨_,rfl,eX.v (eO.one (bR.d (Aj ⟨.refl _,dX.nL,dX.nL, .refl _,trivial⟩)))⟩,⟨_,rfl,eX.v (eO.one (bR.d (Aj ⟨dX.nL,dX.nL,dX.nL,dX.nL,dX.nL,dX.nL,dX.nL,trivial⟩)))⟩,trivial⟩,(.refl _)⟩) ?_
   refine aR ?_
   obtain rfl:=oi h
   exact rl [(.agg [(cI 3),(.d ahV),(.d afN),(.d (k14 u1))]),(.agg [(.d (aG none 1 ah [true,true])),(.d UR),(.d UR),(.d (aG none 1 ah [true,true])),(.d UR),(.d Z6),(.d Z6)])]
  |ret v=>
   obtain rfl:=oi h
   unfold fZ
   intro e st hn ha hR
   cases e with
   |normal=>exact absurd rfl hn
   |exit id=>exact hR
   |goto l=>exact hR
   |ret=>exact hR
   |panic c=>exact hR
   |outgrown=>exact hR
def Jb  :Bool→Exit→St→Prop:=
  fun r=>bJ TT [.tmp 0] (vB r) []
section
variable (r_:(ai × State)) (u9:(aj × (List Bool) × Int)) (v4:(Bool × Int)) (v6:Int) (u3:(ai × State)) (u0:(aj × (List Bool) × Int)) (u1:(Int × Int)) (u2:((List Part) × Int)) (u4:Int) (u5:((List Short) × Int)) (v0:((List Int) × Bool × Int)) (v8:Bool) (w3:Bool) (w4:Bool) (v7:Bool) (v5:Bool) (w1:Bool)
abbrev ahy:List CV:=[(cI r_.1.buses),(.d (aG none 5 Source.cell r_.1.sources)),(.d (aG none 6 Link.cell r_.1.links)),(.d (aG none 4 ax.cell r_.1.racks))]
abbrev aip:Nat × Option Ob:=(68,some (.cells 26 (ahy r_)))
abbrev ahF:List CV:=[(.d (aG none 1 ah r_.2.closed)),(.d (aG none 1 ah r_.2.locked)),(.d (aG none 1 ah r_.2.badLink)),(.d (aG none 1 ah r_.2.on_)),(.d (aG none 1 ah r_.2.badSource)),(.d (aG none 1 ah r_.2.earthed)),(.d (aG none 1 ah r_.2.badBus))]
abbrev afK:Nat × Option Ob:=(69,some (.cells 29 (ahF r_)))
abbrev Yo:Nat × TV:=(4,(vD (JX u9)))
abbrev agU:Nat × Option Ob:=(70,some (PL u9))
abbrev UJ:List (Nat × Option Ob):=[(aip r_),(afK r_),(agU u9)]
abbrev NI:=(bif (!decide (u9.2.2=0))then true else(!decide (v4.2=0)))
abbrev Sd:=(bif (NI u9 v4)then true else(!decide (v6=100)))
abbrev Je:=(bif (Sd u9 v4 v6)then true else(!v4.1))
abbrev Yx:=(jP [(2,(!decide (u9.2.2=0))),(6,(NI u9 v4)),(11,(Sd u9 v4 v6)),(15,true)])
abbrev Lm:List SV:=[(.agg (ado u9))]
abbrev Zr:=(jP [(2,(!decide (u9.2.2=0))),(6,(NI u9 v4)),(11,(Sd u9 v4 v6)),(15,false)])
abbrev NN:Nat × TV:=(1,(vD (kH [(.int .i64 u3.1.buses),(aG none 5 Source.cell u3.1.sources),(aG none 6 Link.cell u3.1.links),(aG none 4 ax.cell u3.1.racks)] 0)))
abbrev QD:Nat × TV:=(2,(vD (kH [(aG none 1 ah u3.2.closed),(aG none 1 ah u3.2.locked),(aG none 1 ah u3.2.badLink),(aG none 1 ah u3.2.on_),(aG none 1 ah u3.2.badSource),(aG none 1 ah u3.2.earthed),(aG none 1 ah u3.2.badBus)] 0)))
abbrev adR:Nat × TV:=(3,(Yz u0))
abbrev GQ:=(bif (!decide (u0.2.2=0))then true else(!decide (u1.2=0)))
abbrev Cb:=(bif (GQ u0 u1)then true else(!decide (u2.2=0)))
abbrev HZ:=(bif (Cb u0 u1 u2)then true else(!decide (u4=700)))
abbrev ZK:=(bif (HZ u0 u1 u2 u4)then true else(!decide (u1.1=700)))
abbrev Zv:=(bif (ZK u0 u1 u2 u4)then true else false)
abbrev YK:=(bif (Zv u0 u1 u2 u4)then true else false)
abbrev Jj:=(jP [(2,(!decide (u0.2.2=0))),(6,(GQ u0 u1)),(10,(Cb u0 u1 u2)),(15,(HZ u0 u1 u2 u4)),(19,true),(25,true),(33,(YK u0 u1 u2 u4))])
abbrev Lx:=((ZK u0 u1 u2 u4)=true)
abbrev RD:=((Zv u0 u1 u2 u4)=true)
abbrev ZQ:List SV:=[(.agg (ahy u3)),(.agg (ahF u3)),(.agg (ado u0)),(sD (JX u0))]
abbrev JI:DV:=(aG none 4 Short.cell u5.1)
abbrev Zl:St:=⟨[(NN u3),(5,(vI u5.2)),(11,(vD (JI u5)))],[]⟩
abbrev L8:DV:=(aG (some v0.2.1) 1 (au .i64) v0.1)
abbrev ZE:St:=⟨[(5,(vI u5.2)),(7,(vI v0.2.2)),(11,(vD (JI u5))),(12,(vD (L8 v0)))],[]⟩
abbrev bP:=(bif (decide (u5.2=0))then(decide (v0.2.2=0))else false)
abbrev nD:=(bif (bP u5 v0)then v8 else false)
abbrev aag:St:=⟨[(0,(vB (bif (nD u5 v0 v8)then w3 else false)))],[]⟩
abbrev om:=(jP [(2,(decide (u5.2=0))),(6,true),(15,true)])
abbrev nN:List DV:=[(.int .i64 0),(.int .i64 30),(.int .i64 13334),(aG (some true) 1 (au .i64) [0]),(.int .i64 1),(.int .i64 50),(.int .i64 8000),(aG (some true) 1 (au .i64) [1])]
abbrev afM:List (Nat × Option Ob):=[(78,some (.arr 103 4 [(⟨0,30,13334,[0]⟩:Short),(⟨1,50,8000,[1]⟩:Short)].length (jG 4 nN)))]
abbrev Q7:List DV:=[(.int .i64 13334),(.int .i64 8000)]
abbrev Dh:Ob:=(bg 3 1 (au .i64) [13334,8000])
abbrev OM:List SV:=[(sD (JI u5)),(sD (.sl (some true) 4 [(⟨0,30,13334,[0]⟩:Short),(⟨1,50,8000,[1]⟩:Short)].length (jG 4 nN)))]
abbrev P7:List SV:=[(sD (L8 v0)),(sD (aG (some true) 1 (au .i64) [13334,8000]))]
abbrev Y0:St:=⟨[(0,(vB (bif (nD u5 v0 v8)then false else false)))],[]⟩
abbrev nX:=(jP [(2,(decide (u5.2=0))),(6,true),(15,false)])
abbrev agS:List (Nat × Option Ob):=[(82,some (.arr 103 4 [(⟨0,30,13334,[0]⟩:Short),(⟨1,50,8000,[1]⟩:Short)].length (jG 4 nN)))]
abbrev wX:=(bif (bP u5 v0)then false else false)
abbrev ZF:St:=⟨[(0,(vB (bif (wX u5 v0)then w4 else false)))],[]⟩
abbrev kN:=(jP [(2,(decide (u5.2=0))),(6,false),(15,true)])
abbrev Zw:St:=⟨[(0,(vB (bif (wX u5 v0)then false else false)))],[]⟩
abbrev LG:=(jP [(2,(decide (u5.2=0))),(6,false),(15,false)])
abbrev aaD:=(eqs (decide (u5.2=0)) 3 [(bP u5 v0)=false, ¬ gP (LG u5) [(6,true)],(bP u5 v0)=false, ¬ gP (LG u5) [(6,true)],(bP u5 v0)=false, ¬ gP (LG u5) [(6,true)],(bP u5 v0)=false, ¬ gP (LG u5) [(6,true)],(bP u5 v0)=false, ¬ gP (LG u5) [(6,true)],(bP u5 v0)=false, ¬ gP (LG u5) [(6,true)],(bP u5 v0)=false, ¬ gP (LG u5) [(6,true)],(bP u5 v0)=false,(wX u5 v0)=false, ¬ gP (LG u5) [(15,true)],(wX u5 v0)=false, ¬ gP (LG u5) [(15,true)],(wX u5 v0)=false, ¬ gP (LG u5) [(15,true)],(wX u5 v0)=false])
abbrev YD:=(bif (Zv u0 u1 u2 u4)then true else(!v7))
abbrev Nn:=(jP [(2,(!decide (u0.2.2=0))),(6,(GQ u0 u1)),(10,(Cb u0 u1 u2)),(15,(HZ u0 u1 u2 u4)),(19,true),(25,false),(33,(YD u0 u1 u2 u4 v7))])
abbrev RJ:=((Zv u0 u1 u2 u4)=false)
abbrev aiK:List SV:=[(sD (aG none 2 Part.cell u2.1)),(sD (aG (some true) 2 Part.cell [(⟨2,1⟩:Part),(⟨3,0⟩:Part)]))]
abbrev ajN:List (Nat × Option Ob):=[(90,some (.arr 103 4 [(⟨0,30,13334,[0]⟩:Short),(⟨1,50,8000,[1]⟩:Short)].length (jG 4 nN)))]
abbrev ajr:List (Nat × Option Ob):=[(94,some (.arr 103 4 [(⟨0,30,13334,[0]⟩:Short),(⟨1,50,8000,[1]⟩:Short)].length (jG 4 nN)))]
abbrev aam:=(bif (ZK u0 u1 u2 u4)then true else(!v5))
abbrev X9:=(bif (aam u0 u1 u2 u4 v5)then true else false)
abbrev KV:=(jP [(2,(!decide (u0.2.2=0))),(6,(GQ u0 u1)),(10,(Cb u0 u1 u2)),(15,(HZ u0 u1 u2 u4)),(19,false),(25,true),(33,(X9 u0 u1 u2 u4 v5))])
abbrev LP:=((ZK u0 u1 u2 u4)=false)
abbrev Rt:=((aam u0 u1 u2 u4 v5)=true)
abbrev aid:List (Nat × Option Ob):=[(103,some (.arr 103 4 [(⟨0,30,13334,[0]⟩:Short),(⟨1,50,8000,[1]⟩:Short)].length (jG 4 nN)))]
abbrev ajp:List (Nat × Option Ob):=[(107,some (.arr 103 4 [(⟨0,30,13334,[0]⟩:Short),(⟨1,50,8000,[1]⟩:Short)].length (jG 4 nN)))]
abbrev Xy:=(bif (aam u0 u1 u2 u4 v5)then true else(!w1))
abbrev Qk:=(jP [(2,(!decide (u0.2.2=0))),(6,(GQ u0 u1)),(10,(Cb u0 u1 u2)),(15,(HZ u0 u1 u2 u4)),(19,false),(25,false),(33,(Xy u0 u1 u2 u4 v5 w1))])
abbrev RY:=((aam u0 u1 u2 u4 v5)=false)
abbrev ahS:List (Nat × Option Ob):=[(116,some (.arr 103 4 [(⟨0,30,13334,[0]⟩:Short),(⟨1,50,8000,[1]⟩:Short)].length (jG 4 nN)))]
abbrev agb:List (Nat × Option Ob):=[(120,some (.arr 103 4 [(⟨0,30,13334,[0]⟩:Short),(⟨1,50,8000,[1]⟩:Short)].length (jG 4 nN)))]
end
theorem ko  {r:Bool} (h:iY=some r):Fn Try.prog 30 [] [] (vB r) []:=by
 refine fN tT Try.func30 rfl rfl fun B=> ?_
 show bL _ _ _ _ _ _ (Jb r) _
 unfold iY at h
 refine sz tT ⟨[],[]⟩ {} [] ?_
 refine aQ (bE h fun r_ hr_ h=> ?_)
 have q2:=rk [(0,67)] (qK [100] hr_)
 refine rg tT ⟨[(1,(vP 68 0)),(2,(vP 69 0))],[(aip r_),(afK r_)]⟩ [[100].length=1,aC 1 1 (jG 1 [(.int .i64 100)]) (ay (au .i64) [100]),_] {an:=[(0, .arr [100].length (ay (au .i64) [100])),(1,cR q2 [67])],fr:=[(0,67),(5,68),(6,69)] } [] ⟨(rfl),((by intro i hi j hj;match i,j,hi,hj with|0,0,_,_=>rfl)),q2,trivial⟩ ?_
 refine aQ (bE h fun u9 hr_1 h=> ?_)
 have q0:=Bb r_.1 r_.2 hr_1
 refine rg tT ⟨[(1,(vP 68 0)),(2,(vP 69 0)),(3,(vP 70 0)),(Yo u9),(5,(vI u9.2.2))],(UJ r_ u9)⟩ [_] {an:=[(2,cA q0 [])],fr:=[(7,70)] } [] ⟨q0,trivial⟩ ?_
 refine aQ (bE h fun v4 hr_2 h=> ?_)
 have q0:=JG r_.1 r_.2 hr_2
 refine rg tT ⟨[(1,(vP 68 0)),(2,(vP 69 0)),(3,(vP 70 0)),(Yo u9),(5,(vI u9.2.2)),(6,(vB v4.1)),(7,(vI v4.2))],(UJ r_ u9)⟩ [_] {an:=[(2,cA q0 [])] } [] ⟨q0,trivial⟩ ?_
 refine aQ (aQ (bE h fun v6 hr_3 h=> ?_))
 refine bI h (fun hb h=> ?_) (fun hb h=> ?_)
 ·skip
  refine ri tT ⟨[(1,(vP 68 0)),(2,(vP 69 0)),(3,(vP 70 0)),(51,(vB (bif (Je u9 v4 v6)then true else false)))],(UJ r_ u9)⟩ (eqs (!decide (u9.2.2=0)) 3 (eqs (NI u9 v4) 2 ((gP (Yx u9 v4 v6) [(6,false)]→All [Fn Try.prog 41 (Lm u9) [] (vI v6) []])::(eqs (NI u9 v4) 2 (eqs (Sd u9 v4 v6) 3 [(Je u9 v4 v6)=true, ¬ gP (Yx u9 v4 v6) [(15,false)],(Je u9 v4 v6)=true, ¬ gP (Yx u9 v4 v6) [(15,false)],(Je u9 v4 v6)=true, ¬ gP (Yx u9 v4 v6) [(15,false)],(Je u9 v4 v6)=true, ¬ gP (Yx u9 v4 v6) [(15,false)],(Je u9 v4 v6)=true]))))) {yb:=[(2,(!decide (u9.2.2=0))),(6,(NI u9 v4)),(11,(Sd u9 v4 v6)),(15,true)],an:=[(8, .call [] (vI v6) []),(16, .skip),(17, .skip),(18, .skip),(19, .skip)] } [] (ae (ae ⟨(fun hg=> ⟨(bn u9.1 (dZ hr_3 (aY hg))),trivial⟩),(ae (ae ⟨(hb),((fun h=>Bool.noConfusion (show true=false from h.1))),(hb),((fun h=>Bool.noConfusion (show true=false from h.1))),(hb),((fun h=>Bool.noConfusion (show true=false from h.1))),(hb),((fun h=>Bool.noConfusion (show true=false from h.1))),(hb),trivial⟩))⟩)) (bB.le (st':=⟨[(1,(vP 68 0)),(2,(vP 69 0)),(3,(vP 70 0)),(51,(vB true))],(UJ r_ u9)⟩) ⟨⟨tR,tR,tR,⟨_,rfl,eX.v (eO.one (bR.of (congrArg (fun b=>CV.d (.bool b)) (DI hb))))⟩,trivial⟩,(.refl _)⟩) ?_
  refine ck (sz tT ⟨[(0,(vB false))],[]⟩ {} [] ?_)
  refine aR ?_
  obtain rfl:=oi h
  exact rl [(sB false)]
 ·skip
  refine bE h fun x1 hr_4 h=> ?_
  refine ri tT ⟨[(1,(vP 68 0)),(2,(vP 69 0)),(3,(vP 70 0)),(51,(vB (bif (Je u9 v4 v6)then true else(!x1))))],(UJ r_ u9)⟩ (eqs (!decide (u9.2.2=0)) 3 (eqs (NI u9 v4) 2 ((gP (Zr u9 v4 v6) [(6,false)]→All [Fn Try.prog 41 (Lm u9) [] (vI v6) []])::(eqs (NI u9 v4) 2 (eqs (Sd u9 v4 v6) 3 [(Je u9 v4 v6)=false,(Je u9 v4 v6)=false,gP (Zr u9 v4 v6) [(15,false)]→All [[true,true,true].length=3,aC 3 1 (jG 1 [(.bool true),(.bool true),(.bool true)]) (ay ah [true,true,true])],gP (Zr u9 v4 v6) [(15,false)],(Je u9 v4 v6)=false,gP (Zr u9 v4 v6) [(15,false)]→All [Fn Try.prog 42 [(sD (JX u9)),(.one (.own 71 true ([true,true,true].length)))] [(71,some (bg 4 1 ah [true,true,true]))] (vB x1) [(71,some (bg 4 1 ah [true,true,true]))]],(Je u9 v4 v6)=false,(Je u9 v4 v6)=false]))))) {yb:=[(2,(!decide (u9.2.2=0))),(6,(NI u9 v4)),(11,(Sd u9 v4 v6)),(15,false)],an:=[(8, .call [] (vI v6) []),(17, .arr [true,true,true].length (ay ah [true,true,true])),(18, .callR [71] (vB x1))],fr:=[(17,71)] } [] (ae (ae ⟨(fun hg=> ⟨(bn u9.1 (dZ hr_3 (aY hg))),trivial⟩),(ae (ae ⟨(hb),(hb),(fun hg=> ⟨(rfl),((by intro i hi j hj;match i,j,hi,hj with|0,0,_,_=>rfl|1,0,_,_=>rfl|2,0,_,_=>rfl)),trivial⟩),(⟨rfl,trivial⟩),(hb),(fun hg=> ⟨(Fn.rY (frz:=[71]) (p:=[[true,true,true].length=[true,true,true].length]) (Fn.le (args':=[(sD (JX u9)),(sD (aG (some true) 1 ah [true,true,true]))]) (nR u9.2.1 [true,true,true] hr_4) ⟨eO.refl _,eO.one (bR.d dX.nL),trivial⟩) (by kernel_rfl) ⟨rfl,trivial⟩ rfl),trivial⟩),(hb),(hb),trivial⟩))⟩)) (bB.le (st':=⟨[(1,(vP 68 0)),(2,(vP 69 0)),(3,(vP 70 0)),(51,(vB (!x1)))],(UJ r_ u9)⟩) ⟨⟨tR,tR,tR,⟨_,rfl,eX.v (eO.one (bR.of (congrArg (fun b=>CV.d (.bool b)) (Df hb))))⟩,trivial⟩,(.refl _)⟩) ?_
  refine bI h (fun hb20 h=> ?_) (fun hb20 h=> ?_)
  ·refine ct hb20 ?_
   refine sz tT ⟨[(0,(vB false))],[]⟩ {} [] ?_
   refine aR ?_
   obtain rfl:=oi h
   exact rl [(sB false)]
  ·refine cf hb20 ?_
   refine aP (aQ (bE h fun u3 hr_5 h=> ?_))
   have q2:=rk [(0,72)] (qK [300,600] hr_5)
   refine rg tT ⟨[(NN u3),(QD u3),(3,(vP 70 0))],[(agU u9)]⟩ [[300,600].length=2,aC 2 1 (jG 1 [(.int .i64 300),(.int .i64 600)]) (ay (au .i64) [300,600]),_] {an:=[(0, .arr [300,600].length (ay (au .i64) [300,600])),(1,cR q2 [72])],fr:=[(0,72)] } [68,69] ⟨(rfl),((by intro i hi j hj;match i,j,hi,hj with|0,0,_,_=>rfl|1,0,_,_=>rfl)),q2,trivial⟩ ?_
   refine aQ (bE h fun u0 hr_6 h=> ?_)
   have q0:=Bb u3.1 u3.2 hr_6
   refine rg tT ⟨[(NN u3),(QD u3),(adR u0),(Yo u0),(5,(vI u0.2.2))],[]⟩ [_] {an:=[(2,cA q0 [])] } [70] ⟨q0,trivial⟩ ?_
   refine aQ (bE h fun u1 hr_7 h=> ?_)
   have q0:=vv u3.1 u3.2 u0.2.1 hr_7
   refine rg tT ⟨[(NN u3),(QD u3),(adR u0),(Yo u0),(5,(vI u0.2.2)),(7,(vI u1.2)),(8,(vI u1.1))],[]⟩ [_] {an:=[(3,cA q0 [])] } [] ⟨q0,trivial⟩ ?_
   refine aQ (bE h fun u2 hr_8 h=> ?_)
   have q0:=Jv u3.1 u3.2 hr_8
   refine rg tT ⟨[(NN u3),(QD u3),(adR u0),(Yo u0),(5,(vI u0.2.2)),(7,(vI u1.2)),(8,(vI u1.1)),(9,(vD (aG none 2 Part.cell u2.1))),(10,(vI u2.2))],[]⟩ [_] {an:=[(2,cA q0 [])] } [] ⟨q0,trivial⟩ ?_
   refine aQ (aQ (bE h fun u4 hr_9 h=> ?_))
   refine bI h (fun hb1 h=> ?_) (fun hb1 h=> ?_)
   ·skip
    refine bI h (fun hb2 h=> ?_) (fun hb2 h=> ?_)
    ·skip
     refine bE h fun x2 hr_10 h=> ?_
     refine rg tT ⟨[(NN u3),(QD u3),(117,(vB (bif (YK u0 u1 u2 u4)then true else(!decide (x2=0)))))],[]⟩ (eqs (!decide (u0.2.2=0)) 3 (eqs (GQ u0 u1) 3 (eqs (Cb u0 u1 u2) 2 ((gP (Jj u0 u1 u2 u4) [(10,false)]→All [Fn Try.prog 41 (Lm u0) [] (vI u4) []])::(eqs (Cb u0 u1 u2) 2 (eqs (HZ u0 u1 u2 u4) 3 ((Lx u0 u1 u2 u4)::(¬ gP (Jj u0 u1 u2 u4) [(19,false)])::(Lx u0 u1 u2 u4)::(¬ gP (Jj u0 u1 u2 u4) [(19,false)])::(Lx u0 u1 u2 u4)::(¬ gP (Jj u0 u1 u2 u4) [(19,false)])::(Lx u0 u1 u2 u4)::(¬ gP (Jj u0 u1 u2 u4) [(19,false)])::(Lx u0 u1 u2 u4)::(RD u0 u1 u2 u4)::(¬ gP (Jj u0 u1 u2 u4) [(25,false)])::(RD u0 u1 u2 u4)::(¬ gP (Jj u0 u1 u2 u4) [(25,false)])::(RD u0 u1 u2 u4)::(¬ gP (Jj u0 u1 u2 u4) [(25,false)])::(RD u0 u1 u2 u4)::(¬ gP (Jj u0 u1 u2 u4) [(25,false)])::(RD u0 u1 u2 u4)::(¬ gP (Jj u0 u1 u2 u4) [(25,false)])::(RD u0 u1 u2 u4)::(¬ gP (Jj u0 u1 u2 u4) [(25,false)])::(RD u0 u1 u2 u4)::(eqs (YK u0 u1 u2 u4) 5 ((gP (Jj u0 u1 u2 u4) [(33,false)]→All [Fn Try.prog 49 (ZQ u3 u0) [] (vI x2) []])::(eqs (YK u0 u1 u2 u4) 2 [])))))))))) {yb:=[(2,(!decide (u0.2.2=0))),(6,(GQ u0 u1)),(10,(Cb u0 u1 u2)),(15,(HZ u0 u1 u2 u4)),(19,true),(25,true),(33,(YK u0 u1 u2 u4))],an:=[(12, .call [] (vI u4) []),(20, .skip),(21, .skip),(22, .skip),(23, .skip),(26, .skip),(27, .skip),(28, .skip),(29, .skip),(30, .skip),(31, .skip),(38, .call [] (vI x2) [])] } [] (ae (ae (ae ⟨(fun hg=> ⟨(bn u0.1 (dZ hr_9 (aY hg))),trivial⟩),(ae (ae ⟨(hb1),((fun h=>Bool.noConfusion (show true=false from h.1))),(hb1),((fun h=>Bool.noConfusion (show true=false from h.1))),(hb1),((fun h=>Bool.noConfusion (show true=false from h.1))),(hb1),((fun h=>Bool.noConfusion (show true=false from h.1))),(hb1),(hb2),((fun h=>Bool.noConfusion (show true=false from h.1))),(hb2),((fun h=>Bool.noConfusion (show true=false from h.1))),(hb2),((fun h=>Bool.noConfusion (show true=false from h.1))),(hb2),((fun h=>Bool.noConfusion (show true=false from h.1))),(hb2),((fun h=>Bool.noConfusion (show true=false from h.1))),(hb2),((fun h=>Bool.noConfusion (show true=false from h.1))),(hb2),(ae ⟨(fun hg=> ⟨(mo u3.1 u3.2 u0.1 u0.2.1 (dZ hr_10 (aY hg))),trivial⟩),(ae trivial)⟩)⟩))⟩))) ?_
     refine bI h (fun hb6 h=> ?_) (fun hb6 h=> ?_)
     ·refine ct hb6 ?_
      refine sz tT ⟨[(0,(vB false))],[]⟩ {} [] ?_
      refine aR ?_
      obtain rfl:=oi h
      exact rl [(sB false)]
     ·refine cf hb6 ?_
      refine aP (aQ (bE h fun u5 hr_11 h=> ?_))
      have q0:=nE u3.1 u3.2 1 hr_11
      refine rg tT (Zl u3 u5) [_] {an:=[(2,cA q0 [])] } [] ⟨q0,trivial⟩ ?_
      refine aQ (bE h fun v0 hr_12 h=> ?_)
      have q0:=lH u3.1 u5.1 hr_12
      refine rg tT (ZE u5 v0) [_] {an:=[(2,cA q0 [])] } [] ⟨q0,trivial⟩ ?_
      refine aQ ?_
      refine bI h (fun hb3 h=> ?_) (fun hb3 h=> ?_)
      ·skip
       refine bE h fun v8 hr_13 h=> ?_
       refine bI h (fun hb4 h=> ?_) (fun hb4 h=> ?_)
       ·skip
        refine bE h fun w3 hr_14 h=> ?_
        refine ri tT (aag u5 v0 v8 w3) (eqs (decide (u5.2=0)) 3 [(bP u5 v0)=true,(bP u5 v0)=true,gP (om u5) [(6,true)]→All [[0].length=1,aC 1 1 (jG 1 [(.int .i64 0)]) (ay (au .i64) [0])],(bP u5 v0)=true,(bP u5 v0)=true,gP (om u5) [(6,true)]→All [[1].length=1,aC 1 1 (jG 1 [(.int .i64 1)]) (ay (au .i64) [1])],(bP u5 v0)=true,(bP u5 v0)=true,gP (om u5) [(6,true)]→All [[(⟨0,30,13334,[0]⟩:Short),(⟨1,50,8000,[1]⟩:Short)].length=2,aC 2 4 (jG 4 nN) (jG 4 nN)],gP (om u5) [(6,true)],(bP u5 v0)=true,gP (om u5) [(6,true)]→All [Fn Try.prog 52 [(sD (JI u5)),(.one (.own 78 true ([(⟨0,30,13334,[0]⟩:Short),(⟨1,50,8000,[1]⟩:Short)].length)))] afM (vB v8) afM],(bP u5 v0)=true,(nD u5 v0 v8)=true,(nD u5 v0 v8)=true,gP (om u5) [(15,true)]→All [[13334,8000].length=2,aC 2 1 (jG 1 Q7) (ay (au .i64) [13334,8000])],gP (om u5) [(15,true)],(nD u5 v0 v8)=true,gP (om u5) [(15,true)]→All [Fn Try.prog 54 [(sD (L8 v0)),(.one (.own 79 true ([13334,8000].length)))] [(79,some Dh)] (vB w3) [(79,some Dh)]],(nD u5 v0 v8)=true]) {yb:=[(2,(decide (u5.2=0))),(6,true),(15,true)],an:=[(8, .frz [0].length (ay (au .i64) [0])),(10, .frz [1].length (ay (au .i64) [1])),(12, .arr [(⟨0,30,13334,[0]⟩:Short),(⟨1,50,8000,[1]⟩:Short)].length (jG 4 nN)),(13, .callR [78] (vB v8)),(17, .arr [13334,8000].length (ay (au .i64) [13334,8000])),(18, .callR [79] (vB w3))],fr:=[(12,78),(17,79)] } [] (ae ⟨(hb3),(hb3),(fun hg=> ⟨(rfl),((by intro i hi j hj;match i,j,hi,hj with|0,0,_,_=>rfl)),trivial⟩),(hb3),(hb3),(fun hg=> ⟨(rfl),((by intro i hi j hj;match i,j,hi,hj with|0,0,_,_=>rfl)),trivial⟩),(hb3),(hb3),(fun hg=> ⟨(rfl),(gy _ _ _),trivial⟩),(⟨rfl,trivial⟩),(hb3),(fun hg=> ⟨(Fn.rY (frz:=[78]) (p:=[[(⟨0,30,13334,[0]⟩:Short),(⟨1,50,8000,[1]⟩:Short)].length=[(⟨0,30,13334,[0]⟩:Short),(⟨1,50,8000,[1]⟩:Short)].length]) (Fn.le (args':=(OM u5)) (dK u5.1 [(⟨0,30,13334,[0]⟩:Short),(⟨1,50,8000,[1]⟩:Short)] hr_13) ⟨eO.refl _,eO.one (bR.d (dX.sl (.inl rfl) (by intro i hi j hj;match i,j,hi,hj with|0,0,_,_=>exact .refl _|0,1,_,_=>exact .refl _|0,2,_,_=>exact .refl _|0,3,_,_=>exact dX.nL|1,0,_,_=>exact .refl _|1,1,_,_=>exact .refl _|1,2,_,_=>exact .refl _|1,3,_,_=>exact dX.nL))),trivial⟩) (by kernel_rfl) ⟨rfl,trivial⟩ rfl),trivial⟩),(hb3),(hb4),(hb4),(fun hg=> ⟨(rfl),((by intro i hi j hj;match i,j,hi,hj with|0,0,_,_=>rfl|1,0,_,_=>rfl)),trivial⟩),(⟨rfl,trivial⟩),(hb4),(fun hg=> ⟨(Fn.rY (frz:=[79]) (p:=[[13334,8000].length=[13334,8000].length]) (Fn.le (args':=(P7 v0)) (dY v0.1 [13334,8000] hr_14) ⟨eO.one (bR.d dX.nL),eO.one (bR.d dX.nL),trivial⟩) (by kernel_rfl) ⟨rfl,trivial⟩ rfl),trivial⟩),(hb4),trivial⟩) (bB.le (st':=⟨[(0,(vB w3))],[]⟩) ⟨⟨⟨_,rfl,eX.v (eO.one (bR.of (congrArg (fun b=>CV.d (.bool b)) (DI hb4))))⟩,trivial⟩,trivial⟩) ?_
        refine aR ?_
        obtain rfl:=oi h
        exact rl [(sB w3)]
       ·skip
        refine ri tT (Y0 u5 v0 v8) (eqs (decide (u5.2=0)) 3 [(bP u5 v0)=true,(bP u5 v0)=true,gP (nX u5) [(6,true)]→All [[0].length=1,aC 1 1 (jG 1 [(.int .i64 0)]) (ay (au .i64) [0])],(bP u5 v0)=true,(bP u5 v0)=true,gP (nX u5) [(6,true)]→All [[1].length=1,aC 1 1 (jG 1 [(.int .i64 1)]) (ay (au .i64) [1])],(bP u5 v0)=true,(bP u5 v0)=true,gP (nX u5) [(6,true)]→All [[(⟨0,30,13334,[0]⟩:Short),(⟨1,50,8000,[1]⟩:Short)].length=2,aC 2 4 (jG 4 nN) (jG 4 nN)],gP (nX u5) [(6,true)],(bP u5 v0)=true,gP (nX u5) [(6,true)]→All [Fn Try.prog 52 [(sD (JI u5)),(.one (.own 82 true ([(⟨0,30,13334,[0]⟩:Short),(⟨1,50,8000,[1]⟩:Short)].length)))] agS (vB v8) agS],(bP u5 v0)=true,(nD u5 v0 v8)=false, ¬ gP (nX u5) [(15,true)],(nD u5 v0 v8)=false, ¬ gP (nX u5) [(15,true)],(nD u5 v0 v8)=false, ¬ gP (nX u5) [(15,true)],(nD u5 v0 v8)=false]) {yb:=[(2,(decide (u5.2=0))),(6,true),(15,false)],an:=[(8, .frz [0].length (ay (au .i64) [0])),(10, .frz [1].length (ay (au .i64) [1])),(12, .arr [(⟨0,30,13334,[0]⟩:Short),(⟨1,50,8000,[1]⟩:Short)].length (jG 4 nN)),(13, .callR [82] (vB v8)),(16, .skip),(17, .skip),(18, .skip)],fr:=[(12,82)] } [] (ae ⟨(hb3),(hb3),(fun hg=> ⟨(rfl),((by intro i hi j hj;match i,j,hi,hj with|0,0,_,_=>rfl)),trivial⟩),(hb3),(hb3),(fun hg=> ⟨(rfl),((by intro i hi j hj;match i,j,hi,hj with|0,0,_,_=>rfl)),trivial⟩),(hb3),(hb3),(fun hg=> ⟨(rfl),(gy _ _ _),trivial⟩),(⟨rfl,trivial⟩),(hb3),(fun hg=> ⟨(Fn.rY (frz:=[82]) (p:=[[(⟨0,30,13334,[0]⟩:Short),(⟨1,50,8000,[1]⟩:Short)].length=[(⟨0,30,13334,[0]⟩:Short),(⟨1,50,8000,[1]⟩:Short)].length]) (Fn.le (args':=(OM u5)) (dK u5.1 [(⟨0,30,13334,[0]⟩:Short),(⟨1,50,8000,[1]⟩:Short)] hr_13) ⟨eO.refl _,eO.one (bR.d (dX.sl (.inl rfl) (by intro i hi j hj;match i,j,hi,hj with|0,0,_,_=>exact .refl _|0,1,_,_=>exact .refl _|0,2,_,_=>exact .refl _|0,3,_,_=>exact dX.nL|1,0,_,_=>exact .refl _|1,1,_,_=>exact .refl _|1,2,_,_=>exact .refl _|1,3,_,_=>exact dX.nL))),trivial⟩) (by kernel_rfl) ⟨rfl,trivial⟩ rfl),trivial⟩),(hb3),(hb4),((fun h=>Bool.noConfusion (show false=true from h.1))),(hb4),((fun h=>Bool.noConfusion (show false=true from h.1))),(hb4),((fun h=>Bool.noConfusion (show false=true from h.1))),(hb4),trivial⟩) (bB.le (st':=⟨[(0,(vB false))],[]⟩) ⟨⟨⟨_,rfl,eX.v (eO.one (bR.of (congrArg (fun b=>CV.d (.bool b)) (Df hb4))))⟩,trivial⟩,trivial⟩) ?_
        refine aR ?_
        obtain rfl:=oi h
        exact rl [(sB false)]
      ·skip
       refine bI h (fun hb5 h=> ?_) (fun hb5 h=> ?_)
       ·skip
        refine bE h fun w4 hr_15 h=> ?_
        refine ri tT (ZF u5 v0 w4) (eqs (decide (u5.2=0)) 3 [(bP u5 v0)=false, ¬ gP (kN u5) [(6,true)],(bP u5 v0)=false, ¬ gP (kN u5) [(6,true)],(bP u5 v0)=false, ¬ gP (kN u5) [(6,true)],(bP u5 v0)=false, ¬ gP (kN u5) [(6,true)],(bP u5 v0)=false, ¬ gP (kN u5) [(6,true)],(bP u5 v0)=false, ¬ gP (kN u5) [(6,true)],(bP u5 v0)=false, ¬ gP (kN u5) [(6,true)],(bP u5 v0)=false,(wX u5 v0)=true,(wX u5 v0)=true,gP (kN u5) [(15,true)]→All [[13334,8000].length=2,aC 2 1 (jG 1 Q7) (ay (au .i64) [13334,8000])],gP (kN u5) [(15,true)],(wX u5 v0)=true,gP (kN u5) [(15,true)]→All [Fn Try.prog 54 [(sD (L8 v0)),(.one (.own 83 true ([13334,8000].length)))] [(83,some Dh)] (vB w4) [(83,some Dh)]],(wX u5 v0)=true]) {yb:=[(2,(decide (u5.2=0))),(6,false),(15,true)],an:=[(7, .skip),(8, .skip),(9, .skip),(10, .skip),(11, .skip),(12, .skip),(13, .skip),(17, .arr [13334,8000].length (ay (au .i64) [13334,8000])),(18, .callR [83] (vB w4))],fr:=[(17,83)] } [] (ae ⟨(hb3),((fun h=>Bool.noConfusion (show false=true from h.1))),(hb3),((fun h=>Bool.noConfusion (show false=true from h.1))),(hb3),((fun h=>Bool.noConfusion (show false=true from h.1))),(hb3),((fun h=>Bool.noConfusion (show false=true from h.1))),(hb3),((fun h=>Bool.noConfusion (show false=true from h.1))),(hb3),((fun h=>Bool.noConfusion (show false=true from h.1))),(hb3),((fun h=>Bool.noConfusion (show false=true from h.1))),(hb3),(hb5),(hb5),(fun hg=> ⟨(rfl),((by intro i hi j hj;match i,j,hi,hj with|0,0,_,_=>rfl|1,0,_,_=>rfl)),trivial⟩),(⟨rfl,trivial⟩),(hb5),(fun hg=> ⟨(Fn.rY (frz:=[83]) (p:=[[13334,8000].length=[13334,8000].length]) (Fn.le (args':=(P7 v0)) (dY v0.1 [13334,8000] hr_15) ⟨eO.one (bR.d dX.nL),eO.one (bR.d dX.nL),trivial⟩) (by kernel_rfl) ⟨rfl,trivial⟩ rfl),trivial⟩),(hb5),trivial⟩) (bB.le (st':=⟨[(0,(vB w4))],[]⟩) ⟨⟨⟨_,rfl,eX.v (eO.one (bR.of (congrArg (fun b=>CV.d (.bool b)) (DI hb5))))⟩,trivial⟩,trivial⟩) ?_
        refine aR ?_
        obtain rfl:=oi h
        exact rl [(sB w4)]
       ·skip
        refine ri tT (Zw u5 v0) (aaD u5 v0) {yb:=[(2,(decide (u5.2=0))),(6,false),(15,false)],an:=[(7, .skip),(8, .skip),(9, .skip),(10, .skip),(11, .skip),(12, .skip),(13, .skip),(16, .skip),(17, .skip),(18, .skip)] } [] (ae ⟨(hb3),((fun h=>Bool.noConfusion (show false=true from h.1))),(hb3),((fun h=>Bool.noConfusion (show false=true from h.1))),(hb3),((fun h=>Bool.noConfusion (show false=true from h.1))),(hb3),((fun h=>Bool.noConfusion (show false=true from h.1))),(hb3),((fun h=>Bool.noConfusion (show false=true from h.1))),(hb3),((fun h=>Bool.noConfusion (show false=true from h.1))),(hb3),((fun h=>Bool.noConfusion (show false=true from h.1))),(hb3),(hb5),((fun h=>Bool.noConfusion (show false=true from h.1))),(hb5),((fun h=>Bool.noConfusion (show false=true from h.1))),(hb5),((fun h=>Bool.noConfusion (show false=true from h.1))),(hb5),trivial⟩) (bB.le (st':=⟨[(0,(vB false))],[]⟩) ⟨⟨⟨_,rfl,eX.v (eO.one (bR.of (congrArg (fun b=>CV.d (.bool b)) (Df hb5))))⟩,trivial⟩,trivial⟩) ?_
        refine aR ?_
        obtain rfl:=oi h
        exact rl [(sB false)]
    ·skip
     refine bE h fun v7 hr_16 h=> ?_
     refine bE h fun x3 hr_17 h=> ?_
     refine rg tT ⟨[(NN u3),(QD u3),(117,(vB (bif (YD u0 u1 u2 u4 v7)then true else(!decide (x3=0)))))],[]⟩ (eqs (!decide (u0.2.2=0)) 3 (eqs (GQ u0 u1) 3 (eqs (Cb u0 u1 u2) 2 ((gP (Nn u0 u1 u2 u4 v7) [(10,false)]→All [Fn Try.prog 41 (Lm u0) [] (vI u4) []])::(eqs (Cb u0 u1 u2) 2 (eqs (HZ u0 u1 u2 u4) 3 ((Lx u0 u1 u2 u4)::(¬ gP (Nn u0 u1 u2 u4 v7) [(19,false)])::(Lx u0 u1 u2 u4)::(¬ gP (Nn u0 u1 u2 u4 v7) [(19,false)])::(Lx u0 u1 u2 u4)::(¬ gP (Nn u0 u1 u2 u4 v7) [(19,false)])::(Lx u0 u1 u2 u4)::(¬ gP (Nn u0 u1 u2 u4 v7) [(19,false)])::(Lx u0 u1 u2 u4)::(RJ u0 u1 u2 u4)::(RJ u0 u1 u2 u4)::(RJ u0 u1 u2 u4)::(RJ u0 u1 u2 u4)::(gP (Nn u0 u1 u2 u4 v7) [(25,false)]→All [[(⟨2,1⟩:Part),(⟨3,0⟩:Part)].length=2,aC 2 2 (jG 2 [(.int .i64 2),(.int .i64 1),(.int .i64 3),(.int .i64 0)]) (ay Part.cell [(⟨2,1⟩:Part),(⟨3,0⟩:Part)])])::(gP (Nn u0 u1 u2 u4 v7) [(25,false)])::(RJ u0 u1 u2 u4)::(gP (Nn u0 u1 u2 u4 v7) [(25,false)]→All [Fn Try.prog 38 [(sD (aG none 2 Part.cell u2.1)),(.one (.own 84 true ([(⟨2,1⟩:Part),(⟨3,0⟩:Part)].length)))] [(84,some (bg 117 2 Part.cell [(⟨2,1⟩:Part),(⟨3,0⟩:Part)]))] (vB v7) [(84,some (bg 117 2 Part.cell [(⟨2,1⟩:Part),(⟨3,0⟩:Part)]))]])::(RJ u0 u1 u2 u4)::(RJ u0 u1 u2 u4)::(eqs (YD u0 u1 u2 u4 v7) 5 ((gP (Nn u0 u1 u2 u4 v7) [(33,false)]→All [Fn Try.prog 49 (ZQ u3 u0) [] (vI x3) []])::(eqs (YD u0 u1 u2 u4 v7) 2 [])))))))))) {yb:=[(2,(!decide (u0.2.2=0))),(6,(GQ u0 u1)),(10,(Cb u0 u1 u2)),(15,(HZ u0 u1 u2 u4)),(19,true),(25,false),(33,(YD u0 u1 u2 u4 v7))],an:=[(12, .call [] (vI u4) []),(20, .skip),(21, .skip),(22, .skip),(23, .skip),(29, .arr [(⟨2,1⟩:Part),(⟨3,0⟩:Part)].length (ay Part.cell [(⟨2,1⟩:Part),(⟨3,0⟩:Part)])),(30, .callR [84] (vB v7)),(38, .call [] (vI x3) [])],fr:=[(29,84)] } [] (ae (ae (ae ⟨(fun hg=> ⟨(bn u0.1 (dZ hr_9 (aY hg))),trivial⟩),(ae (ae ⟨(hb1),((fun h=>Bool.noConfusion (show true=false from h.1))),(hb1),((fun h=>Bool.noConfusion (show true=false from h.1))),(hb1),((fun h=>Bool.noConfusion (show true=false from h.1))),(hb1),((fun h=>Bool.noConfusion (show true=false from h.1))),(hb1),(hb2),(hb2),(hb2),(hb2),(fun hg=> ⟨(rfl),((by intro i hi j hj;match i,j,hi,hj with|0,0,_,_=>rfl|0,1,_,_=>rfl|1,0,_,_=>rfl|1,1,_,_=>rfl)),trivial⟩),(⟨rfl,trivial⟩),(hb2),(fun hg=> ⟨(Fn.rY (frz:=[84]) (p:=[[(⟨2,1⟩:Part),(⟨3,0⟩:Part)].length=[(⟨2,1⟩:Part),(⟨3,0⟩:Part)].length]) (Fn.le (args':=(aiK u2)) (vG u2.1 [(⟨2,1⟩:Part),(⟨3,0⟩:Part)] hr_16) ⟨eO.refl _,eO.one (bR.d dX.nL),trivial⟩) (by kernel_rfl) ⟨rfl,trivial⟩ rfl),trivial⟩),(hb2),(hb2),(ae ⟨(fun hg=> ⟨(mo u3.1 u3.2 u0.1 u0.2.1 (dZ hr_17 (aY hg))),trivial⟩),(ae trivial)⟩)⟩))⟩))) ?_
     refine bI h (fun hb10 h=> ?_) (fun hb10 h=> ?_)
     ·refine ct hb10 ?_
      refine sz tT ⟨[(0,(vB false))],[]⟩ {} [] ?_
      refine aR ?_
      obtain rfl:=oi h
      exact rl [(sB false)]
     ·refine cf hb10 ?_
      refine aP (aQ (bE h fun u6 hr_18 h=> ?_))
      have q0:=nE u3.1 u3.2 1 hr_18
      refine rg tT (Zl u3 u6) [_] {an:=[(2,cA q0 [])] } [] ⟨q0,trivial⟩ ?_
      refine aQ (bE h fun v1 hr_19 h=> ?_)
      have q0:=lH u3.1 u6.1 hr_19
      refine rg tT (ZE u6 v1) [_] {an:=[(2,cA q0 [])] } [] ⟨q0,trivial⟩ ?_
      refine aQ ?_
      refine bI h (fun hb7 h=> ?_) (fun hb7 h=> ?_)
      ·skip
       refine bE h fun v9 hr_20 h=> ?_
       refine bI h (fun hb8 h=> ?_) (fun hb8 h=> ?_)
       ·skip
        refine bE h fun w5 hr_21 h=> ?_
        refine ri tT (aag u6 v1 v9 w5) (eqs (decide (u6.2=0)) 3 [(bP u6 v1)=true,(bP u6 v1)=true,gP (om u6) [(6,true)]→All [[0].length=1,aC 1 1 (jG 1 [(.int .i64 0)]) (ay (au .i64) [0])],(bP u6 v1)=true,(bP u6 v1)=true,gP (om u6) [(6,true)]→All [[1].length=1,aC 1 1 (jG 1 [(.int .i64 1)]) (ay (au .i64) [1])],(bP u6 v1)=true,(bP u6 v1)=true,gP (om u6) [(6,true)]→All [[(⟨0,30,13334,[0]⟩:Short),(⟨1,50,8000,[1]⟩:Short)].length=2,aC 2 4 (jG 4 nN) (jG 4 nN)],gP (om u6) [(6,true)],(bP u6 v1)=true,gP (om u6) [(6,true)]→All [Fn Try.prog 52 [(sD (JI u6)),(.one (.own 90 true ([(⟨0,30,13334,[0]⟩:Short),(⟨1,50,8000,[1]⟩:Short)].length)))] ajN (vB v9) ajN],(bP u6 v1)=true,(nD u6 v1 v9)=true,(nD u6 v1 v9)=true,gP (om u6) [(15,true)]→All [[13334,8000].length=2,aC 2 1 (jG 1 Q7) (ay (au .i64) [13334,8000])],gP (om u6) [(15,true)],(nD u6 v1 v9)=true,gP (om u6) [(15,true)]→All [Fn Try.prog 54 [(sD (L8 v1)),(.one (.own 91 true ([13334,8000].length)))] [(91,some Dh)] (vB w5) [(91,some Dh)]],(nD u6 v1 v9)=true]) {yb:=[(2,(decide (u6.2=0))),(6,true),(15,true)],an:=[(8, .frz [0].length (ay (au .i64) [0])),(10, .frz [1].length (ay (au .i64) [1])),(12, .arr [(⟨0,30,13334,[0]⟩:Short),(⟨1,50,8000,[1]⟩:Short)].length (jG 4 nN)),(13, .callR [90] (vB v9)),(17, .arr [13334,8000].length (ay (au .i64) [13334,8000])),(18, .callR [91] (vB w5))],fr:=[(12,90),(17,91)] } [] (ae ⟨(hb7),(hb7),(fun hg=> ⟨(rfl),((by intro i hi j hj;match i,j,hi,hj with|0,0,_,_=>rfl)),trivial⟩),(hb7),(hb7),(fun hg=> ⟨(rfl),((by intro i hi j hj;match i,j,hi,hj with|0,0,_,_=>rfl)),trivial⟩),(hb7),(hb7),(fun hg=> ⟨(rfl),(gy _ _ _),trivial⟩),(⟨rfl,trivial⟩),(hb7),(fun hg=> ⟨(Fn.rY (frz:=[90]) (p:=[[(⟨0,30,13334,[0]⟩:Short),(⟨1,50,8000,[1]⟩:Short)].length=[(⟨0,30,13334,[0]⟩:Short),(⟨1,50,8000,[1]⟩:Short)].length]) (Fn.le (args':=(OM u6)) (dK u6.1 [(⟨0,30,13334,[0]⟩:Short),(⟨1,50,8000,[1]⟩:Short)] hr_20) ⟨eO.refl _,eO.one (bR.d (dX.sl (.inl rfl) (by intro i hi j hj;match i,j,hi,hj with|0,0,_,_=>exact .refl _|0,1,_,_=>exact .refl _|0,2,_,_=>exact .refl _|0,3,_,_=>exact dX.nL|1,0,_,_=>exact .refl _|1,1,_,_=>exact .refl _|1,2,_,_=>exact .refl _|1,3,_,_=>exact dX.nL))),trivial⟩) (by kernel_rfl) ⟨rfl,trivial⟩ rfl),trivial⟩),(hb7),(hb8),(hb8),(fun hg=> ⟨(rfl),((by intro i hi j hj;match i,j,hi,hj with|0,0,_,_=>rfl|1,0,_,_=>rfl)),trivial⟩),(⟨rfl,trivial⟩),(hb8),(fun hg=> ⟨(Fn.rY (frz:=[91]) (p:=[[13334,8000].length=[13334,8000].length]) (Fn.le (args':=(P7 v1)) (dY v1.1 [13334,8000] hr_21) ⟨eO.one (bR.d dX.nL),eO.one (bR.d dX.nL),trivial⟩) (by kernel_rfl) ⟨rfl,trivial⟩ rfl),trivial⟩),(hb8),trivial⟩) (bB.le (st':=⟨[(0,(vB w5))],[]⟩) ⟨⟨⟨_,rfl,eX.v (eO.one (bR.of (congrArg (fun b=>CV.d (.bool b)) (DI hb8))))⟩,trivial⟩,trivial⟩) ?_
        refine aR ?_
        obtain rfl:=oi h
        exact rl [(sB w5)]
       ·skip
        refine ri tT (Y0 u6 v1 v9) (eqs (decide (u6.2=0)) 3 [(bP u6 v1)=true,(bP u6 v1)=true,gP (nX u6) [(6,true)]→All [[0].length=1,aC 1 1 (jG 1 [(.int .i64 0)]) (ay (au .i64) [0])],(bP u6 v1)=true,(bP u6 v1)=true,gP (nX u6) [(6,true)]→All [[1].length=1,aC 1 1 (jG 1 [(.int .i64 1)]) (ay (au .i64) [1])],(bP u6 v1)=true,(bP u6 v1)=true,gP (nX u6) [(6,true)]→All [[(⟨0,30,13334,[0]⟩:Short),(⟨1,50,8000,[1]⟩:Short)].length=2,aC 2 4 (jG 4 nN) (jG 4 nN)],gP (nX u6) [(6,true)],(bP u6 v1)=true,gP (nX u6) [(6,true)]→All [Fn Try.prog 52 [(sD (JI u6)),(.one (.own 94 true ([(⟨0,30,13334,[0]⟩:Short),(⟨1,50,8000,[1]⟩:Short)].length)))] ajr (vB v9) ajr],(bP u6 v1)=true,(nD u6 v1 v9)=false, ¬ gP (nX u6) [(15,true)],(nD u6 v1 v9)=false, ¬ gP (nX u6) [(15,true)],(nD u6 v1 v9)=false, ¬ gP (nX u6) [(15,true)],(nD u6 v1 v9)=false]) {yb:=[(2,(decide (u6.2=0))),(6,true),(15,false)],an:=[(8, .frz [0].length (ay (au .i64) [0])),(10, .frz [1].length (ay (au .i64) [1])),(12, .arr [(⟨0,30,13334,[0]⟩:Short),(⟨1,50,8000,[1]⟩:Short)].length (jG 4 nN)),(13, .callR [94] (vB v9)),(16, .skip),(17, .skip),(18, .skip)],fr:=[(12,94)] } [] (ae ⟨(hb7),(hb7),(fun hg=> ⟨(rfl),((by intro i hi j hj;match i,j,hi,hj with|0,0,_,_=>rfl)),trivial⟩),(hb7),(hb7),(fun hg=> ⟨(rfl),((by intro i hi j hj;match i,j,hi,hj with|0,0,_,_=>rfl)),trivial⟩),(hb7),(hb7),(fun hg=> ⟨(rfl),(gy _ _ _),trivial⟩),(⟨rfl,trivial⟩),(hb7),(fun hg=> ⟨(Fn.rY (frz:=[94]) (p:=[[(⟨0,30,13334,[0]⟩:Short),(⟨1,50,8000,[1]⟩:Short)].length=[(⟨0,30,13334,[0]⟩:Short),(⟨1,50,8000,[1]⟩:Short)].length]) (Fn.le (args':=(OM u6)) (dK u6.1 [(⟨0,30,13334,[0]⟩:Short),(⟨1,50,8000,[1]⟩:Short)] hr_20) ⟨eO.refl _,eO.one (bR.d (dX.sl (.inl rfl) (by intro i hi j hj;match i,j,hi,hj with|0,0,_,_=>exact .refl _|0,1,_,_=>exact .refl _|0,2,_,_=>exact .refl _|0,3,_,_=>exact dX.nL|1,0,_,_=>exact .refl _|1,1,_,_=>exact .refl _|1,2,_,_=>exact .refl _|1,3,_,_=>exact dX.nL))),trivial⟩) (by kernel_rfl) ⟨rfl,trivial⟩ rfl),trivial⟩),(hb7),(hb8),((fun h=>Bool.noConfusion (show false=true from h.1))),(hb8),((fun h=>Bool.noConfusion (show false=true from h.1))),(hb8),((fun h=>Bool.noConfusion (show false=true from h.1))),(hb8),trivial⟩) (bB.le (st':=⟨[(0,(vB false))],[]⟩) ⟨⟨⟨_,rfl,eX.v (eO.one (bR.of (congrArg (fun b=>CV.d (.bool b)) (Df hb8))))⟩,trivial⟩,trivial⟩) ?_
        refine aR ?_
        obtain rfl:=oi h
        exact rl [(sB false)]
      ·skip
       refine bI h (fun hb9 h=> ?_) (fun hb9 h=> ?_)
       ·skip
        refine bE h fun w6 hr_22 h=> ?_
        refine ri tT (ZF u6 v1 w6) (eqs (decide (u6.2=0)) 3 [(bP u6 v1)=false, ¬ gP (kN u6) [(6,true)],(bP u6 v1)=false, ¬ gP (kN u6) [(6,true)],(bP u6 v1)=false, ¬ gP (kN u6) [(6,true)],(bP u6 v1)=false, ¬ gP (kN u6) [(6,true)],(bP u6 v1)=false, ¬ gP (kN u6) [(6,true)],(bP u6 v1)=false, ¬ gP (kN u6) [(6,true)],(bP u6 v1)=false, ¬ gP (kN u6) [(6,true)],(bP u6 v1)=false,(wX u6 v1)=true,(wX u6 v1)=true,gP (kN u6) [(15,true)]→All [[13334,8000].length=2,aC 2 1 (jG 1 Q7) (ay (au .i64) [13334,8000])],gP (kN u6) [(15,true)],(wX u6 v1)=true,gP (kN u6) [(15,true)]→All [Fn Try.prog 54 [(sD (L8 v1)),(.one (.own 95 true ([13334,8000].length)))] [(95,some Dh)] (vB w6) [(95,some Dh)]],(wX u6 v1)=true]) {yb:=[(2,(decide (u6.2=0))),(6,false),(15,true)],an:=[(7, .skip),(8, .skip),(9, .skip),(10, .skip),(11, .skip),(12, .skip),(13, .skip),(17, .arr [13334,8000].length (ay (au .i64) [13334,8000])),(18, .callR [95] (vB w6))],fr:=[(17,95)] } [] (ae ⟨(hb7),((fun h=>Bool.noConfusion (show false=true from h.1))),(hb7),((fun h=>Bool.noConfusion (show false=true from h.1))),(hb7),((fun h=>Bool.noConfusion (show false=true from h.1))),(hb7),((fun h=>Bool.noConfusion (show false=true from h.1))),(hb7),((fun h=>Bool.noConfusion (show false=true from h.1))),(hb7),((fun h=>Bool.noConfusion (show false=true from h.1))),(hb7),((fun h=>Bool.noConfusion (show false=true from h.1))),(hb7),(hb9),(hb9),(fun hg=> ⟨(rfl),((by intro i hi j hj;match i,j,hi,hj with|0,0,_,_=>rfl|1,0,_,_=>rfl)),trivial⟩),(⟨rfl,trivial⟩),(hb9),(fun hg=> ⟨(Fn.rY (frz:=[95]) (p:=[[13334,8000].length=[13334,8000].length]) (Fn.le (args':=(P7 v1)) (dY v1.1 [13334,8000] hr_22) ⟨eO.one (bR.d dX.nL),eO.one (bR.d dX.nL),trivial⟩) (by kernel_rfl) ⟨rfl,trivial⟩ rfl),trivial⟩),(hb9),trivial⟩) (bB.le (st':=⟨[(0,(vB w6))],[]⟩) ⟨⟨⟨_,rfl,eX.v (eO.one (bR.of (congrArg (fun b=>CV.d (.bool b)) (DI hb9))))⟩,trivial⟩,trivial⟩) ?_
        refine aR ?_
        obtain rfl:=oi h
        exact rl [(sB w6)]
       ·skip
        refine ri tT (Zw u6 v1) (aaD u6 v1) {yb:=[(2,(decide (u6.2=0))),(6,false),(15,false)],an:=[(7, .skip),(8, .skip),(9, .skip),(10, .skip),(11, .skip),(12, .skip),(13, .skip),(16, .skip),(17, .skip),(18, .skip)] } [] (ae ⟨(hb7),((fun h=>Bool.noConfusion (show false=true from h.1))),(hb7),((fun h=>Bool.noConfusion (show false=true from h.1))),(hb7),((fun h=>Bool.noConfusion (show false=true from h.1))),(hb7),((fun h=>Bool.noConfusion (show false=true from h.1))),(hb7),((fun h=>Bool.noConfusion (show false=true from h.1))),(hb7),((fun h=>Bool.noConfusion (show false=true from h.1))),(hb7),((fun h=>Bool.noConfusion (show false=true from h.1))),(hb7),(hb9),((fun h=>Bool.noConfusion (show false=true from h.1))),(hb9),((fun h=>Bool.noConfusion (show false=true from h.1))),(hb9),((fun h=>Bool.noConfusion (show false=true from h.1))),(hb9),trivial⟩) (bB.le (st':=⟨[(0,(vB false))],[]⟩) ⟨⟨⟨_,rfl,eX.v (eO.one (bR.of (congrArg (fun b=>CV.d (.bool b)) (Df hb9))))⟩,trivial⟩,trivial⟩) ?_
        refine aR ?_
        obtain rfl:=oi h
        exact rl [(sB false)]
   ·skip
    refine bE h fun v5 hr_23 h=> ?_
    refine bI h (fun hb11 h=> ?_) (fun hb11 h=> ?_)
    ·skip
     refine bE h fun x4 hr_24 h=> ?_
     refine rg tT ⟨[(NN u3),(QD u3),(117,(vB (bif (X9 u0 u1 u2 u4 v5)then true else(!decide (x4=0)))))],[]⟩ (eqs (!decide (u0.2.2=0)) 3 (eqs (GQ u0 u1) 3 (eqs (Cb u0 u1 u2) 2 ((gP (KV u0 u1 u2 u4 v5) [(10,false)]→All [Fn Try.prog 41 (Lm u0) [] (vI u4) []])::(eqs (Cb u0 u1 u2) 2 (eqs (HZ u0 u1 u2 u4) 3 ((LP u0 u1 u2 u4)::(LP u0 u1 u2 u4)::(gP (KV u0 u1 u2 u4 v5) [(19,false)]→All [[true,false,false].length=3,aC 3 1 (jG 1 [(.bool true),(.bool false),(.bool false)]) (ay ah [true,false,false])])::(gP (KV u0 u1 u2 u4 v5) [(19,false)])::(LP u0 u1 u2 u4)::(gP (KV u0 u1 u2 u4 v5) [(19,false)]→All [Fn Try.prog 42 [(sD (JX u0)),(.one (.own 97 true ([true,false,false].length)))] [(97,some (bg 4 1 ah [true,false,false]))] (vB v5) [(97,some (bg 4 1 ah [true,false,false]))]])::(LP u0 u1 u2 u4)::(LP u0 u1 u2 u4)::(Rt u0 u1 u2 u4 v5)::(¬ gP (KV u0 u1 u2 u4 v5) [(25,false)])::(Rt u0 u1 u2 u4 v5)::(¬ gP (KV u0 u1 u2 u4 v5) [(25,false)])::(Rt u0 u1 u2 u4 v5)::(¬ gP (KV u0 u1 u2 u4 v5) [(25,false)])::(Rt u0 u1 u2 u4 v5)::(¬ gP (KV u0 u1 u2 u4 v5) [(25,false)])::(Rt u0 u1 u2 u4 v5)::(¬ gP (KV u0 u1 u2 u4 v5) [(25,false)])::(Rt u0 u1 u2 u4 v5)::(¬ gP (KV u0 u1 u2 u4 v5) [(25,false)])::(Rt u0 u1 u2 u4 v5)::(eqs (X9 u0 u1 u2 u4 v5) 5 ((gP (KV u0 u1 u2 u4 v5) [(33,false)]→All [Fn Try.prog 49 (ZQ u3 u0) [] (vI x4) []])::(eqs (X9 u0 u1 u2 u4 v5) 2 [])))))))))) {yb:=[(2,(!decide (u0.2.2=0))),(6,(GQ u0 u1)),(10,(Cb u0 u1 u2)),(15,(HZ u0 u1 u2 u4)),(19,false),(25,true),(33,(X9 u0 u1 u2 u4 v5))],an:=[(12, .call [] (vI u4) []),(21, .arr [true,false,false].length (ay ah [true,false,false])),(22, .callR [97] (vB v5)),(26, .skip),(27, .skip),(28, .skip),(29, .skip),(30, .skip),(31, .skip),(38, .call [] (vI x4) [])],fr:=[(21,97)] } [] (ae (ae (ae ⟨(fun hg=> ⟨(bn u0.1 (dZ hr_9 (aY hg))),trivial⟩),(ae (ae ⟨(hb1),(hb1),(fun hg=> ⟨(rfl),((by intro i hi j hj;match i,j,hi,hj with|0,0,_,_=>rfl|1,0,_,_=>rfl|2,0,_,_=>rfl)),trivial⟩),(⟨rfl,trivial⟩),(hb1),(fun hg=> ⟨(Fn.rY (frz:=[97]) (p:=[[true,false,false].length=[true,false,false].length]) (Fn.le (args':=[(sD (JX u0)),(sD (aG (some true) 1 ah [true,false,false]))]) (nR u0.2.1 [true,false,false] hr_23) ⟨eO.refl _,eO.one (bR.d dX.nL),trivial⟩) (by kernel_rfl) ⟨rfl,trivial⟩ rfl),trivial⟩),(hb1),(hb1),(hb11),((fun h=>Bool.noConfusion (show true=false from h.1))),(hb11),((fun h=>Bool.noConfusion (show true=false from h.1))),(hb11),((fun h=>Bool.noConfusion (show true=false from h.1))),(hb11),((fun h=>Bool.noConfusion (show true=false from h.1))),(hb11),((fun h=>Bool.noConfusion (show true=false from h.1))),(hb11),((fun h=>Bool.noConfusion (show true=false from h.1))),(hb11),(ae ⟨(fun hg=> ⟨(mo u3.1 u3.2 u0.1 u0.2.1 (dZ hr_24 (aY hg))),trivial⟩),(ae trivial)⟩)⟩))⟩))) ?_
     refine bI h (fun hb15 h=> ?_) (fun hb15 h=> ?_)
     ·refine ct hb15 ?_
      refine sz tT ⟨[(0,(vB false))],[]⟩ {} [] ?_
      refine aR ?_
      obtain rfl:=oi h
      exact rl [(sB false)]
     ·refine cf hb15 ?_
      refine aP (aQ (bE h fun u7 hr_25 h=> ?_))
      have q0:=nE u3.1 u3.2 1 hr_25
      refine rg tT (Zl u3 u7) [_] {an:=[(2,cA q0 [])] } [] ⟨q0,trivial⟩ ?_
      refine aQ (bE h fun v2 hr_26 h=> ?_)
      have q0:=lH u3.1 u7.1 hr_26
      refine rg tT (ZE u7 v2) [_] {an:=[(2,cA q0 [])] } [] ⟨q0,trivial⟩ ?_
      refine aQ ?_
      refine bI h (fun hb12 h=> ?_) (fun hb12 h=> ?_)
      ·skip
       refine bE h fun w0 hr_27 h=> ?_
       refine bI h (fun hb13 h=> ?_) (fun hb13 h=> ?_)
       ·skip
        refine bE h fun w7 hr_28 h=> ?_
        refine ri tT (aag u7 v2 w0 w7) (eqs (decide (u7.2=0)) 3 [(bP u7 v2)=true,(bP u7 v2)=true,gP (om u7) [(6,true)]→All [[0].length=1,aC 1 1 (jG 1 [(.int .i64 0)]) (ay (au .i64) [0])],(bP u7 v2)=true,(bP u7 v2)=true,gP (om u7) [(6,true)]→All [[1].length=1,aC 1 1 (jG 1 [(.int .i64 1)]) (ay (au .i64) [1])],(bP u7 v2)=true,(bP u7 v2)=true,gP (om u7) [(6,true)]→All [[(⟨0,30,13334,[0]⟩:Short),(⟨1,50,8000,[1]⟩:Short)].length=2,aC 2 4 (jG 4 nN) (jG 4 nN)],gP (om u7) [(6,true)],(bP u7 v2)=true,gP (om u7) [(6,true)]→All [Fn Try.prog 52 [(sD (JI u7)),(.one (.own 103 true ([(⟨0,30,13334,[0]⟩:Short),(⟨1,50,8000,[1]⟩:Short)].length)))] aid (vB w0) aid],(bP u7 v2)=true,(nD u7 v2 w0)=true,(nD u7 v2 w0)=true,gP (om u7) [(15,true)]→All [[13334,8000].length=2,aC 2 1 (jG 1 Q7) (ay (au .i64) [13334,8000])],gP (om u7) [(15,true)],(nD u7 v2 w0)=true,gP (om u7) [(15,true)]→All [Fn Try.prog 54 [(sD (L8 v2)),(.one (.own 104 true ([13334,8000].length)))] [(104,some Dh)] (vB w7) [(104,some Dh)]],(nD u7 v2 w0)=true]) {yb:=[(2,(decide (u7.2=0))),(6,true),(15,true)],an:=[(8, .frz [0].length (ay (au .i64) [0])),(10, .frz [1].length (ay (au .i64) [1])),(12, .arr [(⟨0,30,13334,[0]⟩:Short),(⟨1,50,8000,[1]⟩:Short)].length (jG 4 nN)),(13, .callR [103] (vB w0)),(17, .arr [13334,8000].length (ay (au .i64) [13334,8000])),(18, .callR [104] (vB w7))],fr:=[(12,103),(17,104)] } [] (ae ⟨(hb12),(hb12),(fun hg=> ⟨(rfl),((by intro i hi j hj;match i,j,hi,hj with|0,0,_,_=>rfl)),trivial⟩),(hb12),(hb12),(fun hg=> ⟨(rfl),((by intro i hi j hj;match i,j,hi,hj with|0,0,_,_=>rfl)),trivial⟩),(hb12),(hb12),(fun hg=> ⟨(rfl),(gy _ _ _),trivial⟩),(⟨rfl,trivial⟩),(hb12),(fun hg=> ⟨(Fn.rY (frz:=[103]) (p:=[[(⟨0,30,13334,[0]⟩:Short),(⟨1,50,8000,[1]⟩:Short)].length=[(⟨0,30,13334,[0]⟩:Short),(⟨1,50,8000,[1]⟩:Short)].length]) (Fn.le (args':=(OM u7)) (dK u7.1 [(⟨0,30,13334,[0]⟩:Short),(⟨1,50,8000,[1]⟩:Short)] hr_27) ⟨eO.refl _,eO.one (bR.d (dX.sl (.inl rfl) (by intro i hi j hj;match i,j,hi,hj with|0,0,_,_=>exact .refl _|0,1,_,_=>exact .refl _|0,2,_,_=>exact .refl _|0,3,_,_=>exact dX.nL|1,0,_,_=>exact .refl _|1,1,_,_=>exact .refl _|1,2,_,_=>exact .refl _|1,3,_,_=>exact dX.nL))),trivial⟩) (by kernel_rfl) ⟨rfl,trivial⟩ rfl),trivial⟩),(hb12),(hb13),(hb13),(fun hg=> ⟨(rfl),((by intro i hi j hj;match i,j,hi,hj with|0,0,_,_=>rfl|1,0,_,_=>rfl)),trivial⟩),(⟨rfl,trivial⟩),(hb13),(fun hg=> ⟨(Fn.rY (frz:=[104]) (p:=[[13334,8000].length=[13334,8000].length]) (Fn.le (args':=(P7 v2)) (dY v2.1 [13334,8000] hr_28) ⟨eO.one (bR.d dX.nL),eO.one (bR.d dX.nL),trivial⟩) (by kernel_rfl) ⟨rfl,trivial⟩ rfl),trivial⟩),(hb13),trivial⟩) (bB.le (st':=⟨[(0,(vB w7))],[]⟩) ⟨⟨⟨_,rfl,eX.v (eO.one (bR.of (congrArg (fun b=>CV.d (.bool b)) (DI hb13))))⟩,trivial⟩,trivial⟩) ?_
        refine aR ?_
        obtain rfl:=oi h
        exact rl [(sB w7)]
       ·skip
        refine ri tT (Y0 u7 v2 w0) (eqs (decide (u7.2=0)) 3 [(bP u7 v2)=true,(bP u7 v2)=true,gP (nX u7) [(6,true)]→All [[0].length=1,aC 1 1 (jG 1 [(.int .i64 0)]) (ay (au .i64) [0])],(bP u7 v2)=true,(bP u7 v2)=true,gP (nX u7) [(6,true)]→All [[1].length=1,aC 1 1 (jG 1 [(.int .i64 1)]) (ay (au .i64) [1])],(bP u7 v2)=true,(bP u7 v2)=true,gP (nX u7) [(6,true)]→All [[(⟨0,30,13334,[0]⟩:Short),(⟨1,50,8000,[1]⟩:Short)].length=2,aC 2 4 (jG 4 nN) (jG 4 nN)],gP (nX u7) [(6,true)],(bP u7 v2)=true,gP (nX u7) [(6,true)]→All [Fn Try.prog 52 [(sD (JI u7)),(.one (.own 107 true ([(⟨0,30,13334,[0]⟩:Short),(⟨1,50,8000,[1]⟩:Short)].length)))] ajp (vB w0) ajp],(bP u7 v2)=true,(nD u7 v2 w0)=false, ¬ gP (nX u7) [(15,true)],(nD u7 v2 w0)=false, ¬ gP (nX u7) [(15,true)],(nD u7 v2 w0)=false, ¬ gP (nX u7) [(15,true)],(nD u7 v2 w0)=false]) {yb:=[(2,(decide (u7.2=0))),(6,true),(15,false)],an:=[(8, .frz [0].length (ay (au .i64) [0])),(10, .frz [1].length (ay (au .i64) [1])),(12, .arr [(⟨0,30,13334,[0]⟩:Short),(⟨1,50,8000,[1]⟩:Short)].length (jG 4 nN)),(13, .callR [107] (vB w0)),(16, .skip),(17, .skip),(18, .skip)],fr:=[(12,107)] } [] (ae ⟨(hb12),(hb12),(fun hg=> ⟨(rfl),((by intro i hi j hj;match i,j,hi,hj with|0,0,_,_=>rfl)),trivial⟩),(hb12),(hb12),(fun hg=> ⟨(rfl),((by intro i hi j hj;match i,j,hi,hj with|0,0,_,_=>rfl)),trivial⟩),(hb12),(hb12),(fun hg=> ⟨(rfl),(gy _ _ _),trivial⟩),(⟨rfl,trivial⟩),(hb12),(fun hg=> ⟨(Fn.rY (frz:=[107]) (p:=[[(⟨0,30,13334,[0]⟩:Short),(⟨1,50,8000,[1]⟩:Short)].length=[(⟨0,30,13334,[0]⟩:Short),(⟨1,50,8000,[1]⟩:Short)].length]) (Fn.le (args':=(OM u7)) (dK u7.1 [(⟨0,30,13334,[0]⟩:Short),(⟨1,50,8000,[1]⟩:Short)] hr_27) ⟨eO.refl _,eO.one (bR.d (dX.sl (.inl rfl) (by intro i hi j hj;match i,j,hi,hj with|0,0,_,_=>exact .refl _|0,1,_,_=>exact .refl _|0,2,_,_=>exact .refl _|0,3,_,_=>exact dX.nL|1,0,_,_=>exact .refl _|1,1,_,_=>exact .refl _|1,2,_,_=>exact .refl _|1,3,_,_=>exact dX.nL))),trivial⟩) (by kernel_rfl) ⟨rfl,trivial⟩ rfl),trivial⟩),(hb12),(hb13),((fun h=>Bool.noConfusion (show false=true from h.1))),(hb13),((fun h=>Bool.noConfusion (show false=true from h.1))),(hb13),((fun h=>Bool.noConfusion (show false=true from h.1))),(hb13),trivial⟩) (bB.le (st':=⟨[(0,(vB false))],[]⟩) ⟨⟨⟨_,rfl,eX.v (eO.one (bR.of (congrArg (fun b=>CV.d (.bool b)) (Df hb13))))⟩,trivial⟩,trivial⟩) ?_
        refine aR ?_
        obtain rfl:=oi h
        exact rl [(sB false)]
      ·skip
       refine bI h (fun hb14 h=> ?_) (fun hb14 h=> ?_)
       ·skip
        refine bE h fun w8 hr_29 h=> ?_
        refine ri tT (ZF u7 v2 w8) (eqs (decide (u7.2=0)) 3 [(bP u7 v2)=false, ¬ gP (kN u7) [(6,true)],(bP u7 v2)=false, ¬ gP (kN u7) [(6,true)],(bP u7 v2)=false, ¬ gP (kN u7) [(6,true)],(bP u7 v2)=false, ¬ gP (kN u7) [(6,true)],(bP u7 v2)=false, ¬ gP (kN u7) [(6,true)],(bP u7 v2)=false, ¬ gP (kN u7) [(6,true)],(bP u7 v2)=false, ¬ gP (kN u7) [(6,true)],(bP u7 v2)=false,(wX u7 v2)=true,(wX u7 v2)=true,gP (kN u7) [(15,true)]→All [[13334,8000].length=2,aC 2 1 (jG 1 Q7) (ay (au .i64) [13334,8000])],gP (kN u7) [(15,true)],(wX u7 v2)=true,gP (kN u7) [(15,true)]→All [Fn Try.prog 54 [(sD (L8 v2)),(.one (.own 108 true ([13334,8000].length)))] [(108,some Dh)] (vB w8) [(108,some Dh)]],(wX u7 v2)=true]) {yb:=[(2,(decide (u7.2=0))),(6,false),(15,true)],an:=[(7, .skip),(8, .skip),(9, .skip),(10, .skip),(11, .skip),(12, .skip),(13, .skip),(17, .arr [13334,8000].length (ay (au .i64) [13334,8000])),(18, .callR [108] (vB w8))],fr:=[(17,108)] } [] (ae ⟨(hb12),((fun h=>Bool.noConfusion (show false=true from h.1))),(hb12),((fun h=>Bool.noConfusion (show false=true from h.1))),(hb12),((fun h=>Bool.noConfusion (show false=true from h.1))),(hb12),((fun h=>Bool.noConfusion (show false=true from h.1))),(hb12),((fun h=>Bool.noConfusion (show false=true from h.1))),(hb12),((fun h=>Bool.noConfusion (show false=true from h.1))),(hb12),((fun h=>Bool.noConfusion (show false=true from h.1))),(hb12),(hb14),(hb14),(fun hg=> ⟨(rfl),((by intro i hi j hj;match i,j,hi,hj with|0,0,_,_=>rfl|1,0,_,_=>rfl)),trivial⟩),(⟨rfl,trivial⟩),(hb14),(fun hg=> ⟨(Fn.rY (frz:=[108]) (p:=[[13334,8000].length=[13334,8000].length]) (Fn.le (args':=(P7 v2)) (dY v2.1 [13334,8000] hr_29) ⟨eO.one (bR.d dX.nL),eO.one (bR.d dX.nL),trivial⟩) (by kernel_rfl) ⟨rfl,trivial⟩ rfl),trivial⟩),(hb14),trivial⟩) (bB.le (st':=⟨[(0,(vB w8))],[]⟩) ⟨⟨⟨_,rfl,eX.v (eO.one (bR.of (congrArg (fun b=>CV.d (.bool b)) (DI hb14))))⟩,trivial⟩,trivial⟩) ?_
        refine aR ?_
        obtain rfl:=oi h
        exact rl [(sB w8)]
       ·skip
        refine ri tT (Zw u7 v2) (aaD u7 v2) {yb:=[(2,(decide (u7.2=0))),(6,false),(15,false)],an:=[(7, .skip),(8, .skip),(9, .skip),(10, .skip),(11, .skip),(12, .skip),(13, .skip),(16, .skip),(17, .skip),(18, .skip)] } [] (ae ⟨(hb12),((fun h=>Bool.noConfusion (show false=true from h.1))),(hb12),((fun h=>Bool.noConfusion (show false=true from h.1))),(hb12),((fun h=>Bool.noConfusion (show false=true from h.1))),(hb12),((fun h=>Bool.noConfusion (show false=true from h.1))),(hb12),((fun h=>Bool.noConfusion (show false=true from h.1))),(hb12),((fun h=>Bool.noConfusion (show false=true from h.1))),(hb12),((fun h=>Bool.noConfusion (show false=true from h.1))),(hb12),(hb14),((fun h=>Bool.noConfusion (show false=true from h.1))),(hb14),((fun h=>Bool.noConfusion (show false=true from h.1))),(hb14),((fun h=>Bool.noConfusion (show false=true from h.1))),(hb14),trivial⟩) (bB.le (st':=⟨[(0,(vB false))],[]⟩) ⟨⟨⟨_,rfl,eX.v (eO.one (bR.of (congrArg (fun b=>CV.d (.bool b)) (Df hb14))))⟩,trivial⟩,trivial⟩) ?_
        refine aR ?_
        obtain rfl:=oi h
        exact rl [(sB false)]
    ·skip
     refine bE h fun w1 hr_30 h=> ?_
     refine bE h fun x5 hr_31 h=> ?_
     refine rg tT ⟨[(NN u3),(QD u3),(117,(vB (bif (Xy u0 u1 u2 u4 v5 w1)then true else(!decide (x5=0)))))],[]⟩ (eqs (!decide (u0.2.2=0)) 3 (eqs (GQ u0 u1) 3 (eqs (Cb u0 u1 u2) 2 ((gP (Qk u0 u1 u2 u4 v5 w1) [(10,false)]→All [Fn Try.prog 41 (Lm u0) [] (vI u4) []])::(eqs (Cb u0 u1 u2) 2 (eqs (HZ u0 u1 u2 u4) 3 ((LP u0 u1 u2 u4)::(LP u0 u1 u2 u4)::(gP (Qk u0 u1 u2 u4 v5 w1) [(19,false)]→All [[true,false,false].length=3,aC 3 1 (jG 1 [(.bool true),(.bool false),(.bool false)]) (ay ah [true,false,false])])::(gP (Qk u0 u1 u2 u4 v5 w1) [(19,false)])::(LP u0 u1 u2 u4)::(gP (Qk u0 u1 u2 u4 v5 w1) [(19,false)]→All [Fn Try.prog 42 [(sD (JX u0)),(.one (.own 109 true ([true,false,false].length)))] [(109,some (bg 4 1 ah [true,false,false]))] (vB v5) [(109,some (bg 4 1 ah [true,false,false]))]])::(LP u0 u1 u2 u4)::(LP u0 u1 u2 u4)::(RY u0 u1 u2 u4 v5)::(RY u0 u1 u2 u4 v5)::(RY u0 u1 u2 u4 v5)::(RY u0 u1 u2 u4 v5)::(gP (Qk u0 u1 u2 u4 v5 w1) [(25,false)]→All [[(⟨2,1⟩:Part),(⟨3,0⟩:Part)].length=2,aC 2 2 (jG 2 [(.int .i64 2),(.int .i64 1),(.int .i64 3),(.int .i64 0)]) (ay Part.cell [(⟨2,1⟩:Part),(⟨3,0⟩:Part)])])::(gP (Qk u0 u1 u2 u4 v5 w1) [(25,false)])::(RY u0 u1 u2 u4 v5)::(gP (Qk u0 u1 u2 u4 v5 w1) [(25,false)]→All [Fn Try.prog 38 [(sD (aG none 2 Part.cell u2.1)),(.one (.own 110 true ([(⟨2,1⟩:Part),(⟨3,0⟩:Part)].length)))] [(110,some (bg 117 2 Part.cell [(⟨2,1⟩:Part),(⟨3,0⟩:Part)]))] (vB w1) [(110,some (bg 117 2 Part.cell [(⟨2,1⟩:Part),(⟨3,0⟩:Part)]))]])::(RY u0 u1 u2 u4 v5)::(RY u0 u1 u2 u4 v5)::(eqs (Xy u0 u1 u2 u4 v5 w1) 5 ((gP (Qk u0 u1 u2 u4 v5 w1) [(33,false)]→All [Fn Try.prog 49 (ZQ u3 u0) [] (vI x5) []])::(eqs (Xy u0 u1 u2 u4 v5 w1) 2 [])))))))))) {yb:=[(2,(!decide (u0.2.2=0))),(6,(GQ u0 u1)),(10,(Cb u0 u1 u2)),(15,(HZ u0 u1 u2 u4)),(19,false),(25,false),(33,(Xy u0 u1 u2 u4 v5 w1))],an:=[(12, .call [] (vI u4) []),(21, .arr [true,false,false].length (ay ah [true,false,false])),(22, .callR [109] (vB v5)),(29, .arr [(⟨2,1⟩:Part),(⟨3,0⟩:Part)].length (ay Part.cell [(⟨2,1⟩:Part),(⟨3,0⟩:Part)])),(30, .callR [110] (vB w1)),(38, .call [] (vI x5) [])],fr:=[(21,109),(29,110)] } [] (ae (ae (ae ⟨(fun hg=> ⟨(bn u0.1 (dZ hr_9 (aY hg))),trivial⟩),(ae (ae ⟨(hb1),(hb1),(fun hg=> ⟨(rfl),((by intro i hi j hj;match i,j,hi,hj with|0,0,_,_=>rfl|1,0,_,_=>rfl|2,0,_,_=>rfl)),trivial⟩),(⟨rfl,trivial⟩),(hb1),(fun hg=> ⟨(Fn.rY (frz:=[109]) (p:=[[true,false,false].length=[true,false,false].length]) (Fn.le (args':=[(sD (JX u0)),(sD (aG (some true) 1 ah [true,false,false]))]) (nR u0.2.1 [true,false,false] hr_23) ⟨eO.refl _,eO.one (bR.d dX.nL),trivial⟩) (by kernel_rfl) ⟨rfl,trivial⟩ rfl),trivial⟩),(hb1),(hb1),(hb11),(hb11),(hb11),(hb11),(fun hg=> ⟨(rfl),((by intro i hi j hj;match i,j,hi,hj with|0,0,_,_=>rfl|0,1,_,_=>rfl|1,0,_,_=>rfl|1,1,_,_=>rfl)),trivial⟩),(⟨rfl,trivial⟩),(hb11),(fun hg=> ⟨(Fn.rY (frz:=[110]) (p:=[[(⟨2,1⟩:Part),(⟨3,0⟩:Part)].length=[(⟨2,1⟩:Part),(⟨3,0⟩:Part)].length]) (Fn.le (args':=(aiK u2)) (vG u2.1 [(⟨2,1⟩:Part),(⟨3,0⟩:Part)] hr_30) ⟨eO.refl _,eO.one (bR.d dX.nL),trivial⟩) (by kernel_rfl) ⟨rfl,trivial⟩ rfl),trivial⟩),(hb11),(hb11),(ae ⟨(fun hg=> ⟨(mo u3.1 u3.2 u0.1 u0.2.1 (dZ hr_31 (aY hg))),trivial⟩),(ae trivial)⟩)⟩))⟩))) ?_
     refine bI h (fun hb19 h=> ?_) (fun hb19 h=> ?_)
     ·refine ct hb19 ?_
      refine sz tT ⟨[(0,(vB false))],[]⟩ {} [] ?_
      refine aR ?_
      obtain rfl:=oi h
      exact rl [(sB false)]
     ·refine cf hb19 ?_
      refine aP (aQ (bE h fun u8 hr_32 h=> ?_))
      have q0:=nE u3.1 u3.2 1 hr_32
      refine rg tT (Zl u3 u8) [_] {an:=[(2,cA q0 [])] } [] ⟨q0,trivial⟩ ?_
      refine aQ (bE h fun v3 hr_33 h=> ?_)
      have q0:=lH u3.1 u8.1 hr_33
      refine rg tT (ZE u8 v3) [_] {an:=[(2,cA q0 [])] } [] ⟨q0,trivial⟩ ?_
      refine aQ ?_
      refine bI h (fun hb16 h=> ?_) (fun hb16 h=> ?_)
      ·skip
       refine bE h fun w2 hr_34 h=> ?_
       refine bI h (fun hb17 h=> ?_) (fun hb17 h=> ?_)
       ·skip
        refine bE h fun w9 hr_35 h=> ?_
        refine ri tT (aag u8 v3 w2 w9) (eqs (decide (u8.2=0)) 3 [(bP u8 v3)=true,(bP u8 v3)=true,gP (om u8) [(6,true)]→All [[0].length=1,aC 1 1 (jG 1 [(.int .i64 0)]) (ay (au .i64) [0])],(bP u8 v3)=true,(bP u8 v3)=true,gP (om u8) [(6,true)]→All [[1].length=1,aC 1 1 (jG 1 [(.int .i64 1)]) (ay (au .i64) [1])],(bP u8 v3)=true,(bP u8 v3)=true,gP (om u8) [(6,true)]→All [[(⟨0,30,13334,[0]⟩:Short),(⟨1,50,8000,[1]⟩:Short)].length=2,aC 2 4 (jG 4 nN) (jG 4 nN)],gP (om u8) [(6,true)],(bP u8 v3)=true,gP (om u8) [(6,true)]→All [Fn Try.prog 52 [(sD (JI u8)),(.one (.own 116 true ([(⟨0,30,13334,[0]⟩:Short),(⟨1,50,8000,[1]⟩:Short)].length)))] ahS (vB w2) ahS],(bP u8 v3)=true,(nD u8 v3 w2)=true,(nD u8 v3 w2)=true,gP (om u8) [(15,true)]→All [[13334,8000].length=2,aC 2 1 (jG 1 Q7) (ay (au .i64) [13334,8000])],gP (om u8) [(15,true)],(nD u8 v3 w2)=true,gP (om u8) [(15,true)]→All [Fn Try.prog 54 [(sD (L8 v3)),(.one (.own 117 true ([13334,8000].length)))] [(117,some Dh)] (vB w9) [(117,some Dh)]],(nD u8 v3 w2)=true]) {yb:=[(2,(decide (u8.2=0))),(6,true),(15,true)],an:=[(8, .frz [0].length (ay (au .i64) [0])),(10, .frz [1].length (ay (au .i64) [1])),(12, .arr [(⟨0,30,13334,[0]⟩:Short),(⟨1,50,8000,[1]⟩:Short)].length (jG 4 nN)),(13, .callR [116] (vB w2)),(17, .arr [13334,8000].length (ay (au .i64) [13334,8000])),(18, .callR [117] (vB w9))],fr:=[(12,116),(17,117)] } [] (ae ⟨(hb16),(hb16),(fun hg=> ⟨(rfl),((by intro i hi j hj;match i,j,hi,hj with|0,0,_,_=>rfl)),trivial⟩),(hb16),(hb16),(fun hg=> ⟨(rfl),((by intro i hi j hj;match i,j,hi,hj with|0,0,_,_=>rfl)),trivial⟩),(hb16),(hb16),(fun hg=> ⟨(rfl),(gy _ _ _),trivial⟩),(⟨rfl,trivial⟩),(hb16),(fun hg=> ⟨(Fn.rY (frz:=[116]) (p:=[[(⟨0,30,13334,[0]⟩:Short),(⟨1,50,8000,[1]⟩:Short)].length=[(⟨0,30,13334,[0]⟩:Short),(⟨1,50,8000,[1]⟩:Short)].length]) (Fn.le (args':=(OM u8)) (dK u8.1 [(⟨0,30,13334,[0]⟩:Short),(⟨1,50,8000,[1]⟩:Short)] hr_34) ⟨eO.refl _,eO.one (bR.d (dX.sl (.inl rfl) (by intro i hi j hj;match i,j,hi,hj with|0,0,_,_=>exact .refl _|0,1,_,_=>exact .refl _|0,2,_,_=>exact .refl _|0,3,_,_=>exact dX.nL|1,0,_,_=>exact .refl _|1,1,_,_=>exact .refl _|1,2,_,_=>exact .refl _|1,3,_,_=>exact dX.nL))),trivial⟩) (by kernel_rfl) ⟨rfl,trivial⟩ rfl),trivial⟩),(hb16),(hb17),(hb17),(fun hg=> ⟨(rfl),((by intro i hi j hj;match i,j,hi,hj with|0,0,_,_=>rfl|1,0,_,_=>rfl)),trivial⟩),(⟨rfl,trivial⟩),(hb17),(fun hg=> ⟨(Fn.rY (frz:=[117]) (p:=[[13334,8000].length=[13334,8000].length]) (Fn.le (args':=(P7 v3)) (dY v3.1 [13334,8000] hr_35) ⟨eO.one (bR.d dX.nL),eO.one (bR.d dX.nL),trivial⟩) (by kernel_rfl) ⟨rfl,trivial⟩ rfl),trivial⟩),(hb17),trivial⟩) (bB.le (st':=⟨[(0,(vB w9))],[]⟩) ⟨⟨⟨_,rfl,eX.v (eO.one (bR.of (congrArg (fun b=>CV.d (.bool b)) (DI hb17))))⟩,trivial⟩,trivial⟩) ?_
        refine aR ?_
        obtain rfl:=oi h
        exact rl [(sB w9)]
       ·skip
        refine ri tT (Y0 u8 v3 w2) (eqs (decide (u8.2=0)) 3 [(bP u8 v3)=true,(bP u8 v3)=true,gP (nX u8) [(6,true)]→All [[0].length=1,aC 1 1 (jG 1 [(.int .i64 0)]) (ay (au .i64) [0])],(bP u8 v3)=true,(bP u8 v3)=true,gP (nX u8) [(6,true)]→All [[1].length=1,aC 1 1 (jG 1 [(.int .i64 1)]) (ay (au .i64) [1])],(bP u8 v3)=true,(bP u8 v3)=true,gP (nX u8) [(6,true)]→All [[(⟨0,30,13334,[0]⟩:Short),(⟨1,50,8000,[1]⟩:Short)].length=2,aC 2 4 (jG 4 nN) (jG 4 nN)],gP (nX u8) [(6,true)],(bP u8 v3)=true,gP (nX u8) [(6,true)]→All [Fn Try.prog 52 [(sD (JI u8)),(.one (.own 120 true ([(⟨0,30,13334,[0]⟩:Short),(⟨1,50,8000,[1]⟩:Short)].length)))] agb (vB w2) agb],(bP u8 v3)=true,(nD u8 v3 w2)=false, ¬ gP (nX u8) [(15,true)],(nD u8 v3 w2)=false, ¬ gP (nX u8) [(15,true)],(nD u8 v3 w2)=false, ¬ gP (nX u8) [(15,true)],(nD u8 v3 w2)=false]) {yb:=[(2,(decide (u8.2=0))),(6,true),(15,false)],an:=[(8, .frz [0].length (ay (au .i64) [0])),(10, .frz [1].length (ay (au .i64) [1])),(12, .arr [(⟨0,30,13334,[0]⟩:Short),(⟨1,50,8000,[1]⟩:Short)].length (jG 4 nN)),(13, .callR [120] (vB w2)),(16, .skip),(17, .skip),(18, .skip)],fr:=[(12,120)] } [] (ae ⟨(hb16),(hb16),(fun hg=> ⟨(rfl),((by intro i hi j hj;match i,j,hi,hj with|0,0,_,_=>rfl)),trivial⟩),(hb16),(hb16),(fun hg=> ⟨(rfl),((by intro i hi j hj;match i,j,hi,hj with|0,0,_,_=>rfl)),trivial⟩),(hb16),(hb16),(fun hg=> ⟨(rfl),(gy _ _ _),trivial⟩),(⟨rfl,trivial⟩),(hb16),(fun hg=> ⟨(Fn.rY (frz:=[120]) (p:=[[(⟨0,30,13334,[0]⟩:Short),(⟨1,50,8000,[1]⟩:Short)].length=[(⟨0,30,13334,[0]⟩:Short),(⟨1,50,8000,[1]⟩:Short)].length]) (Fn.le (args':=(OM u8)) (dK u8.1 [(⟨0,30,13334,[0]⟩:Short),(⟨1,50,8000,[1]⟩:Short)] hr_34) ⟨eO.refl _,eO.one (bR.d (dX.sl (.inl rfl) (by intro i hi j hj;match i,j,hi,hj with|0,0,_,_=>exact .refl _|0,1,_,_=>exact .refl _|0,2,_,_=>exact .refl _|0,3,_,_=>exact dX.nL|1,0,_,_=>exact .refl _|1,1,_,_=>exact .refl _|1,2,_,_=>exact .refl _|1,3,_,_=>exact dX.nL))),trivial⟩) (by kernel_rfl) ⟨rfl,trivial⟩ rfl),trivial⟩),(hb16),(hb17),((fun h=>Bool.noConfusion (show false=true from h.1))),(hb17),((fun h=>Bool.noConfusion (show false=true from h.1))),(hb17),((fun h=>Bool.noConfusion (show false=true from h.1))),(hb17),trivial⟩) (bB.le (st':=⟨[(0,(vB false))],[]⟩) ⟨⟨⟨_,rfl,eX.v (eO.one (bR.of (congrArg (fun b=>CV.d (.bool b)) (Df hb17))))⟩,trivial⟩,trivial⟩) ?_
        refine aR ?_
        obtain rfl:=oi h
        exact rl [(sB false)]
      ·skip
       refine bI h (fun hb18 h=> ?_) (fun hb18 h=> ?_)
       ·skip
        refine bE h fun x0 hr_36 h=> ?_
        refine ri tT (ZF u8 v3 x0) (eqs (decide (u8.2=0)) 3 [(bP u8 v3)=false, ¬ gP (kN u8) [(6,true)],(bP u8 v3)=false, ¬ gP (kN u8) [(6,true)],(bP u8 v3)=false, ¬ gP (kN u8) [(6,true)],(bP u8 v3)=false, ¬ gP (kN u8) [(6,true)],(bP u8 v3)=false, ¬ gP (kN u8) [(6,true)],(bP u8 v3)=false, ¬ gP (kN u8) [(6,true)],(bP u8 v3)=false, ¬ gP (kN u8) [(6,true)],(bP u8 v3)=false,(wX u8 v3)=true,(wX u8 v3)=true,gP (kN u8) [(15,true)]→All [[13334,8000].length=2,aC 2 1 (jG 1 Q7) (ay (au .i64) [13334,8000])],gP (kN u8) [(15,true)],(wX u8 v3)=true,gP (kN u8) [(15,true)]→All [Fn Try.prog 54 [(sD (L8 v3)),(.one (.own 121 true ([13334,8000].length)))] [(121,some Dh)] (vB x0) [(121,some Dh)]],(wX u8 v3)=true]) {yb:=[(2,(decide (u8.2=0))),(6,false),(15,true)],an:=[(7, .skip),(8, .skip),(9, .skip),(10, .skip),(11, .skip),(12, .skip),(13, .skip),(17, .arr [13334,8000].length (ay (au .i64) [13334,8000])),(18, .callR [121] (vB x0))],fr:=[(17,121)] } [] (ae ⟨(hb16),((fun h=>Bool.noConfusion (show false=true from h.1))),(hb16),((fun h=>Bool.noConfusion (show false=true from h.1))),(hb16),((fun h=>Bool.noConfusion (show false=true from h.1))),(hb16),((fun h=>Bool.noConfusion (show false=true from h.1))),(hb16),((fun h=>Bool.noConfusion (show false=true from h.1))),(hb16),((fun h=>Bool.noConfusion (show false=true from h.1))),(hb16),((fun h=>Bool.noConfusion (show false=true from h.1))),(hb16),(hb18),(hb18),(fun hg=> ⟨(rfl),((by intro i hi j hj;match i,j,hi,hj with|0,0,_,_=>rfl|1,0,_,_=>rfl)),trivial⟩),(⟨rfl,trivial⟩),(hb18),(fun hg=> ⟨(Fn.rY (frz:=[121]) (p:=[[13334,8000].length=[13334,8000].length]) (Fn.le (args':=(P7 v3)) (dY v3.1 [13334,8000] hr_36) ⟨eO.one (bR.d dX.nL),eO.one (bR.d dX.nL),trivial⟩) (by kernel_rfl) ⟨rfl,trivial⟩ rfl),trivial⟩),(hb18),trivial⟩) (bB.le (st':=⟨[(0,(vB x0))],[]⟩) ⟨⟨⟨_,rfl,eX.v (eO.one (bR.of (congrArg (fun b=>CV.d (.bool b)) (DI hb18))))⟩,trivial⟩,trivial⟩) ?_
        refine aR ?_
        obtain rfl:=oi h
        exact rl [(sB x0)]
       ·skip
        refine ri tT (Zw u8 v3) (aaD u8 v3) {yb:=[(2,(decide (u8.2=0))),(6,false),(15,false)],an:=[(7, .skip),(8, .skip),(9, .skip),(10, .skip),(11, .skip),(12, .skip),(13, .skip),(16, .skip),(17, .skip),(18, .skip)] } [] (ae ⟨(hb16),((fun h=>Bool.noConfusion (show false=true from h.1))),(hb16),((fun h=>Bool.noConfusion (show false=true from h.1))),(hb16),((fun h=>Bool.noConfusion (show false=true from h.1))),(hb16),((fun h=>Bool.noConfusion (show false=true from h.1))),(hb16),((fun h=>Bool.noConfusion (show false=true from h.1))),(hb16),((fun h=>Bool.noConfusion (show false=true from h.1))),(hb16),((fun h=>Bool.noConfusion (show false=true from h.1))),(hb16),(hb18),((fun h=>Bool.noConfusion (show false=true from h.1))),(hb18),((fun h=>Bool.noConfusion (show false=true from h.1))),(hb18),((fun h=>Bool.noConfusion (show false=true from h.1))),(hb18),trivial⟩) (bB.le (st':=⟨[(0,(vB false))],[]⟩) ⟨⟨⟨_,rfl,eX.v (eO.one (bR.of (congrArg (fun b=>CV.d (.bool b)) (Df hb18))))⟩,trivial⟩,trivial⟩) ?_
        refine aR ?_
        obtain rfl:=oi h
        exact rl [(sB false)]
def Cs  :State→Exit→St→Prop:=
  fun r=>bJ TT [.cell 2 29] (.v (.agg [(.own 0 false r.closed.length),(.own 1 false r.locked.length),(.own 2 false r.badLink.length),(.own 3 false r.on_.length),(.own 4 false r.badSource.length),(.own 5 false r.earthed.length),(.own 6 false r.badBus.length)])) [(0,some (bg 4 1 ah r.closed)),(1,some (bg 4 1 ah r.locked)),(2,some (bg 4 1 ah r.badLink)),(3,some (bg 4 1 ah r.on_)),(4,some (bg 4 1 ah r.badSource)),(5,some (bg 4 1 ah r.earthed)),(6,some (bg 4 1 ah r.badBus)),(7,none)]
section
variable (x:State) (u1:(List Bool)) (u2:(List Bool)) (u3:(List Bool)) (u4:(List Bool)) (r_:(List Bool)) (u0:(List Bool)) (u5:(List Bool))
abbrev ajI:List SV:=[(.agg (Vl x))]
abbrev Na:Nat × Option Ob:=(13,some (bg 4 1 ah u1))
abbrev Pm:Nat × Option Ob:=(14,some (bg 4 1 ah u2))
abbrev Rs:Nat × Option Ob:=(15,some (bg 4 1 ah u3))
abbrev VA:Nat × Option Ob:=(16,some (bg 4 1 ah u4))
abbrev aia:List CV:=[(.own 0 false r_.length),(.own 1 false u0.length),(.own 2 false u1.length),(.own 3 false u2.length),(.own 4 false u3.length),(.own 5 false u4.length),(.own 6 false u5.length)]
abbrev agZ:St:=⟨[(2,(vP 7 0))],[(0,some (bg 4 1 ah r_)),(1,some (bg 4 1 ah u0)),(2,some (bg 4 1 ah u1)),(vQ u2),(4,some (bg 4 1 ah u3)),(5,some (bg 4 1 ah u4)),(6,some (bg 4 1 ah u5)),(7,some (.cells 29 (aia u1 u2 u3 u4 r_ u0 u5)))]⟩
abbrev agH:List SV:=[(.agg (aia u1 u2 u3 u4 r_ u0 u5))]
end
theorem Bv (x:State) {r:State} (h:lm x=some r):Fn Try.prog 16 (ajI x) [] (.v (.agg [(.own 0 false r.closed.length),(.own 1 false r.locked.length),(.own 2 false r.badLink.length),(.own 3 false r.on_.length),(.own 4 false r.badSource.length),(.own 5 false r.earthed.length),(.own 6 false r.badBus.length)])) [(0,some (bg 4 1 ah r.closed)),(1,some (bg 4 1 ah r.locked)),(2,some (bg 4 1 ah r.badLink)),(3,some (bg 4 1 ah r.on_)),(4,some (bg 4 1 ah r.badSource)),(5,some (bg 4 1 ah r.earthed)),(6,some (bg 4 1 ah r.badBus)),(7,none)]:=by
 refine fN tT Try.func16 rfl rfl fun B=> ?_
 show bL _ _ _ _ _ _ (Cs r) _
 unfold lm at h
 refine sz tT ⟨[(1,(k74 x)),(2,(vP 10 0))],[(10,some Y7)]⟩ {fr:=[(0,9),(1,10)] } [9] ?_
 refine aQ (bE h fun r_ hr_ h=> ?_)
 refine bE h fun u0 hr_1 h=> ?_
 refine bE h fun u1 hr_2 h=> ?_
 refine bE h fun u2 hr_3 h=> ?_
 refine bE h fun u3 hr_4 h=> ?_
 refine bE h fun u4 hr_5 h=> ?_
 refine bE h fun u5 hr_6 h=> ?_
 have q0:=rk [(0,11)] (dR x.closed hr_)
 have q1:=rk [(0,12)] (dR x.locked hr_1)
 have q2:=rk [(0,13)] (dR x.badLink hr_2)
 have q3:=rk [(0,14)] (dR x.on_ hr_3)
 have q4:=rk [(0,15)] (dR x.badSource hr_4)
 have q5:=rk [(0,16)] (dR x.earthed hr_5)
 have q6:=rk [(0,17)] (dR x.badBus hr_6)
 refine dg tT mX ⟨[(2,(vP 10 0))],[(10,some (.cells 29 [(.own 11 false r_.length),(.own 12 false u0.length),(.own 13 false u1.length),(.own 14 false u2.length),(.own 15 false u3.length),(.own 16 false u4.length),(.own 17 false u5.length)])),(11,some (bg 4 1 ah r_)),(12,some (bg 4 1 ah u0)),(Na u1),(Pm u2),(Rs u3),(VA u4),(17,some (bg 4 1 ah u5))]⟩ [_,_,_,_,_,_,_] {an:=[(2,cA q0 []),(5,cA q1 []),(8,cA q2 []),(11,cA q3 []),(14,cA q4 []),(17,cA q5 []),(20,cA q6 [])] } [] ⟨q0,q1,q2,q3,q4,q5,q6,trivial⟩ ?_
 refine aI (bB.fin (st':=(agZ u1 u2 u3 u4 r_ u0 u5)) (cs:=[]) ⟨[],[(11,0),(12,1),(13,2),(14,3),(15,4),(16,5),(17,6),(10,7)]⟩ [2] (by kernel_rfl) trivial) ?_
 refine aR ?_
 obtain rfl:=oi h
 exact rh (agH u1 u2 u3 u4 r_ u0 u5) (.refl _) (hN 7 ⟨rfl,trivial,trivial⟩)
def Oh  :Int→Exit→St→Prop:=
  fun r=>bJ TT [.tmp 4] (vI r) []
theorem rQ (x:Int) (n:Int) {r:Int} (h:mZ x n=some r):Fn Try.prog 14 [(sI x),(sI n)] [] (vI r) []:=by
 refine fN tT Try.func14 rfl rfl fun B=> ?_
 show bL _ _ _ _ _ _ (Oh r) _
 unfold mZ at h
 refine sz tT ⟨[(0,(vI x)),(1,(vI n))],[]⟩ {} [] ?_
 refine aQ (sz tT ⟨[(0,(vI x)),(1,(vI n)),(7,(vB (decide (n<1))))],[]⟩ {} [] ?_)
 refine bI h (fun hb1 h=> ?_) (fun hb1 h=> ?_)
 ·refine ct hb1 ?_
  refine sz tT ⟨[(4,(vI 0))],[]⟩ {} [] ?_
  refine aR ?_
  obtain rfl:=oi h
  exact rl [(sI 0)]
 ·refine cf hb1 ?_
  refine aP (aQ (aO h fun a1 h=> ?_))
  refine rg tT ⟨[(1,(vI n)),(5,(vI (Int.tmod x n)))],[]⟩ [_] {} [] ⟨a1,trivial⟩ ?_
  refine aQ (sz tT ⟨[(1,(vI n)),(5,(vI (Int.tmod x n))),(12,(vB (decide ((Int.tmod x n)<0))))],[]⟩ {} [] ?_)
  refine bI h (fun hb h=> ?_) (fun hb h=> ?_)
  ·refine ct hb ?_
   refine rz tT ⟨[(5,(vI (IntKind.wrap .i64 ((Int.tmod x n)+n))))],[]⟩ {} [] ?_
   refine sz tT ⟨[(4,(vI (IntKind.wrap .i64 ((Int.tmod x n)+n))))],[]⟩ {} [] ?_
   refine aR ?_
   obtain rfl:=oi h
   exact rl [(sI (IntKind.wrap .i64 ((Int.tmod x n)+n)))]
  ·refine cf hb ?_
   refine aP (sz tT ⟨[(4,(vI (Int.tmod x n)))],[]⟩ {} [] ?_)
   refine aR ?_
   obtain rfl:=oi h
   exact rl [(sI (Int.tmod x n))]
def sH  :((List Part) × Int)→Exit→St→Prop:=
  fun r=>bJ TT [.tmp 2, .tmp 3] (.iC [(sD (aG none 2 Part.cell r.1)),(sI r.2)]) []
section
variable (u0:(List Part)) (p:ai) (u1:Int)
abbrev LW:Nat × TV:=(5,(vO 37 false u0.length))
abbrev Fj:Nat × TV:=(22,(vD (aG (some true) 1 (au .i64) [p.buses,(p.sources.length:Int),(p.links.length:Int)])))
abbrev Gv:Nat × TV:=(23,(vI ([p.buses,(p.sources.length:Int),(p.links.length:Int)].length:Int)))
abbrev L6:List (Nat × Option Ob):=[(37,some (DX u0))]
abbrev acI:St:=⟨[(LW u0),(Fj p),(Gv p),(24,(vI u1))],(L6 u0)⟩
end
def zC (p:ai):((List Part) × Int)→St:=
  fun zz=>match zz with|(u0,u1)=>(acI u0 p u1)
def zF  :(List Part)→St:=
  fun u0=> ⟨[(LW u0)],(L6 u0)⟩
def ru (p:ai):(aU ((List Part) × Int) (Ex (List Part) ((List Part) × Int)))→Exit→St→Prop:=
  LQ 0 [] (zC p) zF sH
section
variable (p:ai) (u0:Int)
abbrev Sz:Nat × TV:=(29,(vI (at' [p.buses,(p.sources.length:Int),(p.links.length:Int)] u0.toNat)))
end
def y9 (p:ai) (u0:Int):((List Part) × Int)→St:=
  fun zz=>match zz with|(u1,u2)=> ⟨[(LW u1),(6,(vI u0)),(Fj p),(Gv p),(24,(vI u0)),(Sz p u0),(30,(vI u2))],(L6 u1)⟩
def zq (p:ai) (u1:Int):(List Part)→St:=
  fun u0=>(acI u0 p u1)
def Hr (p:ai) (u0:Int):(aU ((List Part) × Int) (Ex (List Part) (aU ((List Part) × Int) (Ex (List Part) ((List Part) × Int)))))→Exit→St→Prop:=
  LQ 2 [1] (y9 p u0) (zq p u0) (ru p)
section
variable (u0:Int) (u1:Int) (u2:(List Part))
abbrev UO:=(⟨(IntKind.wrap .i64 (u0+1)),u1⟩:Part)
abbrev Lv:=(u2++[(UO u0 u1)])
abbrev acE:=(ay Part.cell [(UO u0 u1)])
end
theorem Il (p:ai) {r:((List Part) × Int)} (h:ol p=some r):Fn Try.prog 55 (k4 p) [] (.iC [(sD (aG none 2 Part.cell r.1)),(sI r.2)]) []:=by
 refine fN tT Try.func55 rfl rfl fun B=> ?_
 show bL _ _ _ _ _ _ (sH r) _
 unfold ol at h
 refine sz tT (k7 p) {fr:=[(0,34)] } [34] ?_
 refine aQ (aQ (bE h fun r_ hr_ h=> ?_))
 have q0:=q8 p hr_
 refine rg tT ⟨[(k8 p),(4,(vI r_))],[]⟩ [_] {an:=[(1,cA q0 [])] } [] ⟨q0,trivial⟩ ?_
 refine sz tT ⟨[(k8 p),(4,(vI r_)),(12,(vB (!decide (r_=0))))],[]⟩ {} [] ?_
 refine bI h (fun hb2 h=> ?_) (fun hb2 h=> ?_)
 ·refine ct hb2 ?_
  refine sz tT ⟨[(2,(vD nS)),(3,(vI r_))],[]⟩ {} [] ?_
  refine aI (bB.le (st':=⟨[(2,(vD (aG none 2 Part.cell ([]:List Part)))),(3,(vI r_))],[]⟩) ⟨⟨⟨_,rfl,eX.v (eO.one (bR.d dX.nil'))⟩,tR,trivial⟩,trivial⟩) ?_
  refine aR ?_
  obtain rfl:=oi h
  exact rl [(sD (aG none 2 Part.cell ([]:List Part))),(sI r_)]
 ·refine cf hb2 ?_
  refine aP (sz tT ⟨[(k8 p),(5,(vD nS))],[]⟩ {} [] ?_)
  refine aQ (sg tT ⟨[(5,(vD nS)),(Fj p),(Gv p),(24,(vI 0))],[]⟩ [[p.buses,(p.sources.length:Int),(p.links.length:Int)].length=3,aC 3 1 (jG 1 [(.int .i64 p.buses),(.int .i64 (p.sources.length:Int)),(.int .i64 (p.links.length:Int))]) (ay (au .i64) [p.buses,(p.sources.length:Int),(p.links.length:Int)]),[p.buses,(p.sources.length:Int),(p.links.length:Int)].length=[p.buses,(p.sources.length:Int),(p.links.length:Int)].length] {an:=[(8, .arr [p.buses,(p.sources.length:Int),(p.links.length:Int)].length (ay (au .i64) [p.buses,(p.sources.length:Int),(p.links.length:Int)]))],fr:=[(8,35)] } [35] ⟨(rfl),((by intro i hi j hj;match i,j,hi,hj with|0,0,_,_=>rfl|1,0,_,_=>rfl|2,0,_,_=>rfl)),rfl,trivial⟩ ?_)
  refine bE h fun y1 hy h=> ?_
  refine aI (.trans (bB.MQ (t:=5) (b:=68) (esz0:=0) (el0:=fun _ _=> .nilp) (E:=117) (esz:=2) (el:=ay Part.cell ([]:List Part)) (by kernel_rfl) (by kernel_rfl)) (.trans (bB.fin (st':=⟨[(5,(vO 37 false 0)),(Fj p),(Gv p),(24,(vI 0))],[(37,some (.arr 117 2 0 (ay Part.cell ([]:List Part))))]⟩) (cs:=[]) ⟨[],[(68,37)]⟩ [5,22,23,24] (by kernel_rfl) trivial) (bB.le (st':=⟨[(5,(vO 37 false (([]:List Part).length))),(Fj p),(Gv p),(24,(vI 0))],[(37,some (bg 117 2 Part.cell ([]:List Part)))]⟩) ⟨⟨⟨_,rfl,eX.v (eO.one cW)⟩,tR,tR,tR,trivial⟩,⟨rfl,oW,trivial⟩⟩))) ?_
  refine aL [] (zC p) zF sH hy (fun s f h=> ?_) ?_
  ·clear hy
   show bL _ _ _ _ _ _ ((ru p) f) _
   unfold gV at h
   obtain⟨u3,u0⟩:=s
   refine sz tT ⟨[(LW u3),(Fj p),(Gv p),(24,(vI u0)),(25,(vB (decide (u0<([p.buses,(p.sources.length:Int),(p.links.length:Int)].length:Int)))))],(L6 u3)⟩ {} [] ?_
   refine aQ ?_
   refine bI h (fun hb1 h=> ?_) (fun hb1 h=> ?_)
   ·refine ct hb1 ?_
    refine aP (aQ (aB (aQ (aO h fun a1 h=> ?_))))
    refine rg tT ⟨[(LW u3),(6,(vI u0)),(7,(vI (at' [p.buses,(p.sources.length:Int),(p.links.length:Int)] u0.toNat))),(Fj p),(Gv p),(24,(vI u0))],(L6 u3)⟩ [_] {} [] ⟨a1,trivial⟩ ?_
    refine sz tT ⟨[(LW u3),(6,(vI u0)),(Fj p),(Gv p),(24,(vI u0)),(Sz p u0),(30,(vI 0))],(L6 u3)⟩ {} [] ?_
    refine bE h fun y hy h=> ?_
    refine aL [1] (y9 p u0) (zq p u0) (ru p) hy (fun s f h=> ?_) ?_
    ·clear hy
     show bL _ _ _ _ _ _ ((Hr p u0) f) _
     unfold jd at h
     obtain⟨u2,u1⟩:=s
     refine sz tT ⟨[(LW u2),(6,(vI u0)),(Fj p),(Gv p),(24,(vI u0)),(Sz p u0),(30,(vI u1)),(31,(vB (decide (u1<(at' [p.buses,(p.sources.length:Int),(p.links.length:Int)] u0.toNat)))))],(L6 u2)⟩ {} [] ?_
     refine aQ ?_
     refine bI h (fun hb h=> ?_) (fun hb h=> ?_)
     ·refine ct hb ?_
      refine aP (aQ (aB (sz tT ⟨[(LW u2),(6,(vI u0)),(8,(vI u1)),(Fj p),(Gv p),(24,(vI u0)),(Sz p u0),(30,(vI u1))],(L6 u2)⟩ {} [] ?_)))
      refine aO h fun⟨a1,a2⟩ h=> ?_
      refine rg tT ⟨[(5,(vO 67 false ((Lv u0 u1 u2).length))),(6,(vI u0)),(Fj p),(Gv p),(24,(vI u0)),(Sz p u0),(30,(vI u1))],[(67,some (bg 117 2 Part.cell (Lv u0 u1 u2)))]⟩ [[(UO u0 u1)].length=1,aC 1 2 (jG 2 [(.int .i64 (IntKind.wrap .i64 (u0+1))),(.int .i64 u1)]) (acE u0 u1),u2.length=u2.length,_,_,(Lv u0 u1 u2).length=u2.length+[(UO u0 u1)].length,aC (u2.length+[(UO u0 u1)].length) 2 (Dn (ay Part.cell u2) u2.length (acE u0 u1)) (ay Part.cell (Lv u0 u1 u2))] {an:=[(5, .arr [(UO u0 u1)].length (acE u0 u1)),(6, .arr (Lv u0 u1 u2).length (ay Part.cell (Lv u0 u1 u2)))],fr:=[(5,66),(6,67)] } [] ⟨(rfl),((by intro i hi j hj;match i,j,hi,hj with|0,0,_,_=>rfl|0,1,_,_=>rfl)),rfl,a1,a2,(List.length_append),(jY _ _ _ _),trivial⟩ ?_
      refine ri tT ⟨[(5,(vO 67 false ((Lv u0 u1 u2).length))),(6,(vI u0)),(Fj p),(Gv p),(24,(vI u0)),(Sz p u0),(30,(k3 u1))],[(67,some (bg 117 2 Part.cell (Lv u0 u1 u2)))]⟩ [] {} [] trivial (bB.fin (st':=⟨[(5,(vO 37 false ((Lv u0 u1 u2).length))),(6,(vI u0)),(Fj p),(Gv p),(24,(vI u0)),(Sz p u0),(30,(k3 u1))],[(37,some (bg 117 2 Part.cell (Lv u0 u1 u2)))]⟩) (cs:=[]) ⟨[],[(67,37)]⟩ [5,6,22,23,24,29,30] (by kernel_rfl) trivial) ?_
      obtain rfl:=oi h
      exact lN
     ·refine cf hb ?_
      refine aI (fz (acI u2 p u0) []) ?_
      refine aX ?_
      obtain rfl:=oi h
      exact lB
    ·clear hy
     cases y with
     |brk z=>
      obtain⟨u5,rfl⟩: ∃q,q=z:=⟨_,rfl⟩
      unfold fZ
      refine⟨_, .refl, ?_⟩
      refine rz tT ⟨[(LW u5),(Fj p),(Gv p),(24,(k3 u0))],(L6 u5)⟩ {} [] ?_
      obtain rfl:=oi h
      exact lN
     |ret v=>
      obtain rfl:=oi h
      unfold fZ
      intro e st hn ha hR
      cases e with
      |normal=>exact absurd rfl hn
      |exit id=>simp only [rF (b:=1) ha rfl,cond_false];exact hR
      |goto l=>exact hR
      |ret=>exact hR
      |panic c=>exact hR
      |outgrown=>exact hR
   ·refine cf hb1 ?_
    refine aI (fz ⟨[(LW u3)],(L6 u3)⟩ []) ?_
    refine aX ?_
    obtain rfl:=oi h
    exact lB
  ·clear hy
   cases y1 with
   |brk z=>
    obtain⟨u4,rfl⟩: ∃q,q=z:=⟨_,rfl⟩
    unfold fZ
    refine⟨_, .refl, ?_⟩
    refine sg tT ⟨[(2,(vD (aG none 2 Part.cell u4))),(3,(vI 0))],[]⟩ [u4.length=u4.length] {} [37] ⟨rfl,trivial⟩ ?_
    refine aR ?_
    obtain rfl:=oi h
    exact rl [(sD (aG none 2 Part.cell u4)),(sI 0)]
   |ret v=>
    obtain rfl:=oi h
    unfold fZ
    intro e st hn ha hR
    cases e with
    |normal=>exact absurd rfl hn
    |exit id=>exact hR
    |goto l=>exact hR
    |ret=>exact hR
    |panic c=>exact hR
    |outgrown=>exact hR
def zK  :(List Bool)→Exit→St→Prop:=
  fun r=>bJ TT [.tmp 2] (vO 0 false r.length) [(0,some (bg 4 1 ah r))]
theorem oQ (s_:(List Bool)) (u0:Bool) {r:(List Bool)} (h:lU s_ u0=some r):Fn Try.prog 106 [(sD (aG (some u0) 1 ah s_))] [] (vO 0 false r.length) [(0,some (bg 4 1 ah r))]:=by
 refine fN tT Try.func106 rfl rfl fun B=> ?_
 show bL _ _ _ _ _ _ (zK r) _
 unfold lU at h
 refine sz tT ⟨[(0,(vD (aG (some u0) 1 ah s_)))],[]⟩ {} [] ?_
 refine aQ (sz tT ⟨[(0,(vD (aG (some u0) 1 ah s_))),(4,(vB (!u0)))],[]⟩ {} [] ?_)
 refine bI h (fun hb h=> ?_) (fun hb h=> ?_)
 ·refine ct hb ?_
  refine sz tT ⟨[(2,(vD nS))],[]⟩ {} [] ?_
  refine aI (.trans (bB.MQ (t:=2) (b:=2) (esz0:=0) (el0:=fun _ _=> .nilp) (E:=4) (esz:=1) (el:=ay ah ([]:List Bool)) (by kernel_rfl) (by kernel_rfl)) (.trans (bB.fin (st':=⟨[(2,(vO 0 false 0))],[(0,some (.arr 4 1 0 (ay ah ([]:List Bool))))]⟩) (cs:=[]) ⟨[],[(2,0)]⟩ [2] (by kernel_rfl) trivial) (bB.le (st':=⟨[(2,(vO 0 false (([]:List Bool).length)))],[(0,some (bg 4 1 ah ([]:List Bool)))]⟩) ⟨⟨⟨_,rfl,eX.v (eO.one cW)⟩,trivial⟩,⟨rfl,oW,trivial⟩⟩))) ?_
  refine aR ?_
  obtain rfl:=oi h
  exact rl [(.one (.own 0 false (([]:List Bool).length)))]
 ·refine cf hb ?_
  refine aP (aQ (aO h fun⟨a1,a2⟩ h=> ?_))
  refine rg tT ⟨[(2,(vO 4 false ((([]:List Bool)++s_).length)))],[(4,some (bg 4 1 ah (([]:List Bool)++s_)))]⟩ [([]:List Bool).length=0,aC 0 1 (jG 1 []) (ay ah ([]:List Bool)),([]:List Bool).length=([]:List Bool).length,_,_,(([]:List Bool)++s_).length=([]:List Bool).length+s_.length,aC (([]:List Bool).length+s_.length) 1 (Dn (ay ah ([]:List Bool)) ([]:List Bool).length (ay ah s_)) (ay ah (([]:List Bool)++s_))] {an:=[(0, .arr ([]:List Bool).length (ay ah ([]:List Bool))),(2, .arr (([]:List Bool)++s_).length (ay ah (([]:List Bool)++s_)))],fr:=[(0,3),(2,4)] } [] ⟨(rfl),((fun i hi=>absurd hi (Nat.not_lt_zero i))),rfl,a1,a2,(List.length_append),(jY _ _ _ _),trivial⟩ ?_
  refine aI (bB.fin (st':=⟨[(2,(vO 0 false ((([]:List Bool)++s_).length)))],[(0,some (bg 4 1 ah (([]:List Bool)++s_)))]⟩) (cs:=[]) ⟨[],[(4,0)]⟩ [2] (by kernel_rfl) trivial) ?_
  refine aR ?_
  obtain rfl:=oi h
  exact rl [(.one (.own 0 false ((([]:List Bool)++s_).length)))]
theorem bX (s:(List Bool)) {r:(List Bool)} (h:bV s=some r):Fn Try.prog 106 [(sD (aG none 1 ah s))] [] (vO 0 false r.length) [(0,some (bg 4 1 ah r))]:=by
 refine Fn.nn (oQ s true h) fun hl=> ?_
 have hs:s=[]:=List.eq_nil_of_length_eq_zero hl
 subst hs
 exact oQ [] false (by rw [←h];kernel_rfl)
def Dc  :State→Exit→St→Prop:=
  fun r=>bJ TT [.cell 2 29] (.v (.agg [(.own 0 false r.closed.length),(.own 1 false r.locked.length),(.own 2 false r.badLink.length),(.own 3 false r.on_.length),(.own 4 false r.badSource.length),(.own 5 false r.earthed.length),(.own 6 false r.badBus.length)])) [(0,some (bg 4 1 ah r.closed)),(1,some (bg 4 1 ah r.locked)),(2,some (bg 4 1 ah r.badLink)),(3,some (bg 4 1 ah r.on_)),(4,some (bg 4 1 ah r.badSource)),(5,some (bg 4 1 ah r.earthed)),(6,some (bg 4 1 ah r.badBus)),(7,none)]
section
variable (s_:State) (r_:(List Bool)) (u0:(List Bool)) (u1:(List Bool)) (u2:(List Bool)) (u3:(List Bool)) (u4:(List Bool)) (u5:(List Bool))
abbrev agn:Nat × Option Ob:=(10,some (aeA s_))
abbrev Om:Nat × Option Ob:=(11,some Y7)
abbrev aiP:List (Nat × TV):=[(1,(vP 10 0)),(2,(vP 11 0)),(12,(vO 12 true 7)),(13,(vI (7:Int))),(14,(vI 0))]
abbrev Pn:Nat × Option Ob:=(12,some (.cells 243 [(.ptr 10 0),(.ptr 10 1),(.ptr 10 2),(.ptr 10 3),(.ptr 10 4),(.ptr 10 5),(.ptr 10 6)]))
abbrev ae3:List (Nat × Option Ob):=[(agn s_),Om,Pn]
abbrev aaI:List (Nat × Option Ob):=[(10,some (.cells 29 [(.own 13 false r_.length),(.d (Q9 s_)),(.d (SN s_)),(.d (Wd s_)),(.d (P6 s_)),(.d (Mt s_)),(.d (Od s_))])),Om,Pn,(Na r_)]
abbrev aj8:List (Nat × TV):=[(1,(vP 10 0)),(2,(vP 11 0)),(12,(vO 12 true 7)),(13,(vI (7:Int))),(14,(vI 1))]
abbrev aap:List (Nat × Option Ob):=[(10,some (.cells 29 [(.own 13 false r_.length),(.own 14 false u0.length),(.d (SN s_)),(.d (Wd s_)),(.d (P6 s_)),(.d (Mt s_)),(.d (Od s_))])),Om,Pn,(Na r_),(Pm u0)]
abbrev ahQ:List (Nat × TV):=[(1,(vP 10 0)),(2,(vP 11 0)),(12,(vO 12 true 7)),(13,(vI (7:Int))),(14,(vI 2))]
abbrev Y1:List (Nat × Option Ob):=[(10,some (.cells 29 [(.own 13 false r_.length),(.own 14 false u0.length),(.own 15 false u1.length),(.d (Wd s_)),(.d (P6 s_)),(.d (Mt s_)),(.d (Od s_))])),Om,Pn,(Na r_),(Pm u0),(Rs u1)]
abbrev afR:List (Nat × TV):=[(1,(vP 10 0)),(2,(vP 11 0)),(12,(vO 12 true 7)),(13,(vI (7:Int))),(14,(vI 3))]
abbrev aax:List (Nat × Option Ob):=[(10,some (.cells 29 [(.own 13 false r_.length),(.own 14 false u0.length),(.own 15 false u1.length),(.own 16 false u2.length),(.d (P6 s_)),(.d (Mt s_)),(.d (Od s_))])),Om,Pn,(Na r_),(Pm u0),(Rs u1),(VA u2)]
abbrev aj6:List (Nat × TV):=[(1,(vP 10 0)),(2,(vP 11 0)),(12,(vO 12 true 7)),(13,(vI (7:Int))),(14,(vI 4))]
abbrev aaf:List (Nat × Option Ob):=[(10,some (.cells 29 [(.own 13 false r_.length),(.own 14 false u0.length),(.own 15 false u1.length),(.own 16 false u2.length),(.own 17 false u3.length),(.d (Mt s_)),(.d (Od s_))])),Om,Pn,(Na r_),(Pm u0),(Rs u1),(VA u2),(17,some (bg 4 1 ah u3))]
abbrev ahT:List (Nat × TV):=[(1,(vP 10 0)),(2,(vP 11 0)),(12,(vO 12 true 7)),(13,(vI (7:Int))),(14,(vI 5))]
abbrev ZN:List (Nat × Option Ob):=[(10,some (.cells 29 [(.own 13 false r_.length),(.own 14 false u0.length),(.own 15 false u1.length),(.own 16 false u2.length),(.own 17 false u3.length),(.own 18 false u4.length),(.d (Od s_))])),Om,Pn,(Na r_),(Pm u0),(Rs u1),(VA u2),(17,some (bg 4 1 ah u3)),(18,some (bg 4 1 ah u4))]
abbrev air:List (Nat × TV):=[(1,(vP 10 0)),(2,(vP 11 0)),(12,(vO 12 true 7)),(13,(vI (7:Int))),(14,(vI 6))]
abbrev aiz:Ob:=(.cells 29 [(.own 13 false r_.length),(.own 14 false u0.length),(.own 15 false u1.length),(.own 16 false u2.length),(.own 17 false u3.length),(.own 18 false u4.length),(.own 19 false u5.length)])
abbrev ac3:List (Nat × Option Ob):=[(10,some (aiz r_ u0 u1 u2 u3 u4 u5)),Om,Pn,(Na r_),(Pm u0),(Rs u1),(VA u2),(17,some (bg 4 1 ah u3)),(18,some (bg 4 1 ah u4)),(19,some (bg 4 1 ah u5))]
end
theorem BV (s_:State) {r:State} (h:mK s_=some r):Fn Try.prog 132 (ajI s_) [] (.v (.agg [(.own 0 false r.closed.length),(.own 1 false r.locked.length),(.own 2 false r.badLink.length),(.own 3 false r.on_.length),(.own 4 false r.badSource.length),(.own 5 false r.earthed.length),(.own 6 false r.badBus.length)])) [(0,some (bg 4 1 ah r.closed)),(1,some (bg 4 1 ah r.locked)),(2,some (bg 4 1 ah r.badLink)),(3,some (bg 4 1 ah r.on_)),(4,some (bg 4 1 ah r.badSource)),(5,some (bg 4 1 ah r.earthed)),(6,some (bg 4 1 ah r.badBus)),(7,none)]:=by
 refine fN tT Try.func132 rfl rfl fun B=> ?_
 show bL _ _ _ _ _ _ (Dc r) _
 unfold mK at h
 refine sz tT ⟨[(1,(vP 10 0)),(2,(vP 11 0))],[(agn s_),Om]⟩ {fr:=[(0,10),(1,11)] } [] ?_
 refine aQ (sz tT ⟨aiP,(ae3 s_)⟩ {an:=[(7, .cells)],fr:=[(7,12)] } [] ?_)
 refine aB (MV 12 (iL 11 (sz tT ⟨[(1,(vP 10 0)),(2,(vP 11 0)),(12,(vO 12 true 7)),(13,(vI (7:Int))),(14,(vI 0)),(15,(vB true))],(ae3 s_)⟩ {} [] ?_)))
 refine aQ (ck (aP (aQ (aB (aQ (aO h fun a1 h=> ?_))))))
 refine rg tT ⟨[(1,(vP 10 0)),(2,(vP 11 0)),(4,(vP 10 0)),(12,(vO 12 true 7)),(13,(vI (7:Int))),(14,(vI 0))],(ae3 s_)⟩ [_] {} [] ⟨a1,trivial⟩ ?_
 refine bE h fun r_ hr_ h=> ?_
 have q0:=rk [(0,13)] (bX s_.closed hr_)
 refine rg tT ⟨aiP,(aaI s_ r_)⟩ [_] {an:=[(4,cA q0 [])] } [] ⟨q0,trivial⟩ ?_
 refine rz tT ⟨aj8,(aaI s_ r_)⟩ {} [] ?_
 refine iL 10 (sz tT ⟨[(1,(vP 10 0)),(2,(vP 11 0)),(12,(vO 12 true 7)),(13,(vI (7:Int))),(14,(vI 1)),(15,(vB true))],(aaI s_ r_)⟩ {} [] ?_)
 refine aQ (ck (aP (aQ (aB (aQ (aO h fun a1 h=> ?_))))))
 refine rg tT ⟨[(1,(vP 10 0)),(2,(vP 11 0)),(4,(vP 10 1)),(12,(vO 12 true 7)),(13,(vI (7:Int))),(14,(vI 1))],(aaI s_ r_)⟩ [_] {} [] ⟨a1,trivial⟩ ?_
 refine bE h fun u0 hr_1 h=> ?_
 have q0:=rk [(0,14)] (bX s_.locked hr_1)
 refine rg tT ⟨aj8,(aap s_ r_ u0)⟩ [_] {an:=[(4,cA q0 [])] } [] ⟨q0,trivial⟩ ?_
 refine rz tT ⟨ahQ,(aap s_ r_ u0)⟩ {} [] ?_
 refine iL 9 (sz tT ⟨[(1,(vP 10 0)),(2,(vP 11 0)),(12,(vO 12 true 7)),(13,(vI (7:Int))),(14,(vI 2)),(15,(vB true))],(aap s_ r_ u0)⟩ {} [] ?_)
 refine aQ (ck (aP (aQ (aB (aQ (aO h fun a1 h=> ?_))))))
 refine rg tT ⟨[(1,(vP 10 0)),(2,(vP 11 0)),(4,(vP 10 2)),(12,(vO 12 true 7)),(13,(vI (7:Int))),(14,(vI 2))],(aap s_ r_ u0)⟩ [_] {} [] ⟨a1,trivial⟩ ?_
 refine bE h fun u1 hr_2 h=> ?_
 have q0:=rk [(0,15)] (bX s_.badLink hr_2)
 refine rg tT ⟨ahQ,(Y1 s_ r_ u0 u1)⟩ [_] {an:=[(4,cA q0 [])] } [] ⟨q0,trivial⟩ ?_
 refine rz tT ⟨afR,(Y1 s_ r_ u0 u1)⟩ {} [] ?_
 refine iL 8 (sz tT ⟨[(1,(vP 10 0)),(2,(vP 11 0)),(12,(vO 12 true 7)),(13,(vI (7:Int))),(14,(vI 3)),(15,(vB true))],(Y1 s_ r_ u0 u1)⟩ {} [] ?_)
 refine aQ (ck (aP (aQ (aB (aQ (aO h fun a1 h=> ?_))))))
 refine rg tT ⟨[(1,(vP 10 0)),(2,(vP 11 0)),(4,(vP 10 3)),(12,(vO 12 true 7)),(13,(vI (7:Int))),(14,(vI 3))],(Y1 s_ r_ u0 u1)⟩ [_] {} [] ⟨a1,trivial⟩ ?_
 refine bE h fun u2 hr_3 h=> ?_
 have q0:=rk [(0,16)] (bX s_.on_ hr_3)
 refine rg tT ⟨afR,(aax s_ r_ u0 u1 u2)⟩ [_] {an:=[(4,cA q0 [])] } [] ⟨q0,trivial⟩ ?_
 refine rz tT ⟨aj6,(aax s_ r_ u0 u1 u2)⟩ {} [] ?_
 refine iL 7 (sz tT ⟨[(1,(vP 10 0)),(2,(vP 11 0)),(12,(vO 12 true 7)),(13,(vI (7:Int))),(14,(vI 4)),(15,(vB true))],(aax s_ r_ u0 u1 u2)⟩ {} [] ?_)
 refine aQ (ck (aP (aQ (aB (aQ (aO h fun a1 h=> ?_))))))
 refine rg tT ⟨[(1,(vP 10 0)),(2,(vP 11 0)),(4,(vP 10 4)),(12,(vO 12 true 7)),(13,(vI (7:Int))),(14,(vI 4))],(aax s_ r_ u0 u1 u2)⟩ [_] {} [] ⟨a1,trivial⟩ ?_
 refine bE h fun u3 hr_4 h=> ?_
 have q0:=rk [(0,17)] (bX s_.badSource hr_4)
 refine rg tT ⟨aj6,(aaf s_ r_ u0 u1 u2 u3)⟩ [_] {an:=[(4,cA q0 [])] } [] ⟨q0,trivial⟩ ?_
 refine rz tT ⟨ahT,(aaf s_ r_ u0 u1 u2 u3)⟩ {} [] ?_
 refine iL 6 (sz tT ⟨[(1,(vP 10 0)),(2,(vP 11 0)),(12,(vO 12 true 7)),(13,(vI (7:Int))),(14,(vI 5)),(15,(vB true))],(aaf s_ r_ u0 u1 u2 u3)⟩ {} [] ?_)
 refine aQ (ck (aP (aQ (aB (aQ (aO h fun a1 h=> ?_))))))
 refine rg tT ⟨[(1,(vP 10 0)),(2,(vP 11 0)),(4,(vP 10 5)),(12,(vO 12 true 7)),(13,(vI (7:Int))),(14,(vI 5))],(aaf s_ r_ u0 u1 u2 u3)⟩ [_] {} [] ⟨a1,trivial⟩ ?_
 refine bE h fun u4 hr_5 h=> ?_
 have q0:=rk [(0,18)] (bX s_.earthed hr_5)
 refine rg tT ⟨ahT,(ZN s_ r_ u0 u1 u2 u3 u4)⟩ [_] {an:=[(4,cA q0 [])] } [] ⟨q0,trivial⟩ ?_
 refine rz tT ⟨air,(ZN s_ r_ u0 u1 u2 u3 u4)⟩ {} [] ?_
 refine iL 5 (sz tT ⟨[(1,(vP 10 0)),(2,(vP 11 0)),(12,(vO 12 true 7)),(13,(vI (7:Int))),(14,(vI 6)),(15,(vB true))],(ZN s_ r_ u0 u1 u2 u3 u4)⟩ {} [] ?_)
 refine aQ (ck (aP (aQ (aB (aQ (aO h fun a1 h=> ?_))))))
 refine rg tT ⟨[(1,(vP 10 0)),(2,(vP 11 0)),(4,(vP 10 6)),(12,(vO 12 true 7)),(13,(vI (7:Int))),(14,(vI 6))],(ZN s_ r_ u0 u1 u2 u3 u4)⟩ [_] {} [] ⟨a1,trivial⟩ ?_
 refine bE h fun u5 hr_6 h=> ?_
 have q0:=rk [(0,19)] (bX s_.badBus hr_6)
 refine rg tT ⟨air,(ac3 r_ u0 u1 u2 u3 u4 u5)⟩ [_] {an:=[(4,cA q0 [])] } [] ⟨q0,trivial⟩ ?_
 refine rz tT ⟨[(1,(vP 10 0)),(2,(vP 11 0)),(12,(vO 12 true 7)),(13,(vI (7:Int))),(14,(vI 7))],(ac3 r_ u0 u1 u2 u3 u4 u5)⟩ {} [] ?_
 refine iL 4 (sz tT ⟨[(1,(vP 10 0)),(2,(vP 11 0)),(12,(vO 12 true 7)),(13,(vI (7:Int))),(14,(vI 7)),(15,(vB false))],(ac3 r_ u0 u1 u2 u3 u4 u5)⟩ {} [] ?_)
 refine aQ (cn (aX (sz tT ⟨[(2,(vP 11 0))],[(11,some (aiz r_ u0 u1 u2 u3 u4 u5)),(Na r_),(Pm u0),(Rs u1),(VA u2),(17,some (bg 4 1 ah u3)),(18,some (bg 4 1 ah u4)),(19,some (bg 4 1 ah u5))]⟩ {} [] ?_)))
 refine aI (bB.fin (st':=(agZ u1 u2 u3 u4 r_ u0 u5)) (cs:=[]) ⟨[],[(13,0),(14,1),(15,2),(16,3),(17,4),(18,5),(19,6),(11,7)]⟩ [2] (by kernel_rfl) trivial) ?_
 refine aR ?_
 obtain rfl:=oi h
 exact rh (agH u1 u2 u3 u4 r_ u0 u5) (.refl _) (hN 7 ⟨rfl,trivial,trivial⟩)
def Hf  :(State × Int)→Exit→St→Prop:=
  fun r=>bJ TT [.cell 8 29, .tmp 9] (.iC [(.agg [(.d (aG none 1 ah r.1.closed)),(.d (aG none 1 ah r.1.locked)),(.d (aG none 1 ah r.1.badLink)),(.d (aG none 1 ah r.1.on_)),(.d (aG none 1 ah r.1.badSource)),(.d (aG none 1 ah r.1.earthed)),(.d (aG none 1 ah r.1.badBus))]),(sI r.2)]) []
section
variable (s_:State) (x:Part) (u0:State) (is:Bool)
abbrev ae4:List (Nat × Option Ob):=[(20,some (aeA s_)),(21,some (.cells 117 [(cI x.kind),(cI x.index)])),Ct]
abbrev agt:Nat × TV:=(8,(vD (kH [Dq,Dq,Dq,Dq,Dq,Dq,Dq] 0)))
abbrev ag8:List CV:=[(.d Dq),(.d Dq),(.d Dq),(.d Dq),(.d Dq),(.d Dq),(.d Dq)]
abbrev aaj:Nat × Option Ob:=(20,some (.cells 29 [(.own 23 false u0.closed.length),(.own 24 false u0.locked.length),(.own 25 false u0.badLink.length),(.own 26 false u0.on_.length),(.own 27 false u0.badSource.length),(.own 28 false u0.earthed.length),(.own 29 false u0.badBus.length)]))
abbrev RV:Nat × Option Ob:=(23,some (bg 4 1 ah u0.closed))
abbrev JO:Nat × Option Ob:=(24,some (bg 4 1 ah u0.locked))
abbrev Ql:Nat × Option Ob:=(25,some (bg 4 1 ah u0.badLink))
abbrev KG:Nat × Option Ob:=(26,some (bg 4 1 ah u0.on_))
abbrev PU:Nat × Option Ob:=(27,some (bg 4 1 ah u0.badSource))
abbrev JN:Nat × Option Ob:=(28,some (bg 4 1 ah u0.earthed))
abbrev PK:Nat × Option Ob:=(29,some (bg 4 1 ah u0.badBus))
abbrev Oc:List (Nat × Option Ob):=[(aaj u0),(21,some (.cells 117 [(cI x.kind),(cI x.index)])),Ct,(RV u0),(JO u0),(Ql u0),(KG u0),(PU u0),(JN u0),(PK u0)]
abbrev KS:List CV:=[(.own 29 false u0.badBus.length)]
abbrev AP:=(XH 1 (KS u0))
abbrev MX:List CV:=[(.own 27 false u0.badSource.length)]
abbrev AZ:List DV:=[(.int .i64 1),(.int .i64 2)]
abbrev Ay:=(XH 1 [(.own 29 false u0.badBus.length),(.own 27 false u0.badSource.length)])
abbrev Mh:List CV:=[(.own 25 false u0.badLink.length)]
abbrev A9:List DV:=[(.int .i64 1),(.int .i64 2),(.int .i64 3)]
abbrev AJ:=(XH 1 [(.own 29 false u0.badBus.length),(.own 27 false u0.badSource.length),(.own 25 false u0.badLink.length)])
abbrev Ue:St:=⟨[(8,(vD (kH [nS,nS,nS,nS,nS,nS,nS] 0))),(9,(vI 14))],[]⟩
abbrev TN:St:=⟨[agt,(9,(vI 14))],[]⟩
abbrev Ub:List SV:=[(.agg ag8),(sI 14)]
abbrev Mf:List (Nat × TV):=[(5,(vP 20 0)),(8,(vP 22 0))]
abbrev abT:List CV:=[(.d (Wm u0)),(.d (Q9 u0)),(.d (SN u0)),(.d (Wd u0)),(.d (P6 u0)),(.d (Mt u0)),(.d (aG none 1 ah (u0.badBus.set x.index.toNat is)))]
abbrev FX:=(u0.badSource.set x.index.toNat is)
abbrev abG:List CV:=[(.d (Wm u0)),(.d (Q9 u0)),(.d (SN u0)),(.d (Wd u0)),(.d (aG none 1 ah (FX x u0 is))),(.d (Mt u0)),(.d (Od u0))]
abbrev Fy:=(u0.badLink.set x.index.toNat is)
abbrev abI:List CV:=[(.d (Wm u0)),(.d (Q9 u0)),(.d (aG none 1 ah (Fy x u0 is))),(.d (Wd u0)),(.d (P6 u0)),(.d (Mt u0)),(.d (Od u0))]
end
theorem FL (p:ai) (s_:State) (x:Part) (is:Bool) {r:(State × Int)} (h:pO p s_ x is=some r):Fn Try.prog 93 [(.agg (k5 p)),(.agg (Vl s_)),(.agg [(cI x.kind),(cI x.index)]),(sB is)] [] (.iC [(.agg [(.d (aG none 1 ah r.1.closed)),(.d (aG none 1 ah r.1.locked)),(.d (aG none 1 ah r.1.badLink)),(.d (aG none 1 ah r.1.on_)),(.d (aG none 1 ah r.1.badSource)),(.d (aG none 1 ah r.1.earthed)),(.d (aG none 1 ah r.1.badBus))]),(sI r.2)]) []:=by
 refine fN tT Try.func93 rfl rfl fun B=> ?_
 show bL _ _ _ _ _ _ (Hf r) _
 unfold pO at h
 refine sz tT ⟨[(3,(vB is)),(aau p),(5,(vP 20 0)),(6,(vP 21 0)),(8,(vP 22 0))],(ae4 s_ x)⟩ {fr:=[(0,19),(1,20),(2,21),(3,22)] } [19] ?_
 refine aQ (aQ (bE h fun r_ hr_ h=> ?_))
 have q0:=dL p s_ hr_
 refine rg tT ⟨[(3,(vB is)),(5,(vP 20 0)),(6,(vP 21 0)),(8,(vP 22 0)),(10,(vI r_))],(ae4 s_ x)⟩ [_] {an:=[(2,cA q0 [])] } [] ⟨q0,trivial⟩ ?_
 refine sz tT ⟨[(3,(vB is)),(5,(vP 20 0)),(6,(vP 21 0)),(8,(vP 22 0)),(10,(vI r_)),(16,(vB (!decide (r_=0))))],(ae4 s_ x)⟩ {} [] ?_
 refine bI h (fun hb7 h=> ?_) (fun hb7 h=> ?_)
 ·refine ct hb7 ?_
  refine sz tT ⟨[(8,(vD (kH [nS,nS,nS,nS,nS,nS,nS] 0))),(9,(vI r_))],[]⟩ {} [22] ?_
  refine aI (bB.le (st':=⟨[agt,(9,(vI r_))],[]⟩) ⟨⟨⟨_,rfl,eX.v (eO.one (bR.d (Aj ⟨dX.nil',dX.nil',dX.nil',dX.nil',dX.nil',dX.nil',dX.nil',trivial⟩)))⟩,tR,trivial⟩,trivial⟩) ?_
  refine aR ?_
  obtain rfl:=oi h
  exact rl [(.agg ag8),(sI r_)]
 ·refine cf hb7 ?_
  refine aP (aQ (bE h fun u0 hr_1 h=> ?_))
  have q0:=rk [(0,23),(1,24),(2,25),(3,26),(4,27),(5,28),(6,29),(7,30)] (BV s_ hr_1)
  refine rg tT ⟨[(3,(vB is)),(5,(vP 20 0)),(6,(vP 21 0)),(8,(vP 22 0))],(Oc x u0)⟩ [_] {an:=[(1,cA q0 [])] } [] ⟨q0,trivial⟩ ?_
  refine aQ ?_
  refine bI h (fun hb h=> ?_) (fun hb h=> ?_)
  ·skip
   refine rg tT ⟨[(3,(vB is)),(5,(vP 20 0)),(6,(vP 21 0)),(8,(vP 22 0)),(11,(vO 29 false u0.badBus.length))],(Oc x u0)⟩ [mI [some .i64] 1 1 0 (xu []) (XH 1 []) [(.int .i64 1)] (KS u0) [29] 1 (xu [(.int .i64 1)]) (AP u0),mI [some .i64] 1 1 1 (xu [(.int .i64 1)]) (AP u0) [(.int .i64 2)] (MX u0) [29,27] 2 (xu AZ) (Ay u0),mI [some .i64] 1 1 2 (xu AZ) (Ay u0) [(.int .i64 3)] (Mh u0) [29,27,25] 3 (xu A9) (AJ u0),KA [some .i64] 1 1 3 (xu A9) (AJ u0) [(.int .i64 x.kind)] [(.d nS)] true (KS u0)] {an:=[(0, .map 0 (xu []) (XH 1 []) []),(3, .map 1 (xu [(.int .i64 1)]) (AP u0) [29]),(6, .map 2 (xu AZ) (Ay u0) [29,27]),(9, .map 3 (xu A9) (AJ u0) [29,27,25]),(13, .look true (KS u0))],fr:=[(0,32)] } [] ⟨(⟨(fun i hi=>absurd hi (Nat.not_lt_zero i)),(by intro i hi j hj;match i,j,hi,hj with|0,0,_,_=>exact cZ.1 (show gK (CV.dB (.own 29 false u0.badBus.length)) [29]=true from by kernel_rfl)),0,(fun i hi=>absurd hi (Nat.not_lt_zero i)), .inr ⟨rfl,rfl⟩,rfl,rfl,(fun i hi=>absurd hi (Nat.not_lt_zero i))⟩),(⟨(by intro i hi;match i,hi with|0,_=>rfl),(by intro i hi j hj;match i,j,hi,hj with|0,0,_,_=>exact cZ.1 (show gK (CV.dB (.own 29 false u0.badBus.length)) [29,27]=true from by kernel_rfl)|1,0,_,_=>exact cZ.1 (show gK (CV.dB (.own 27 false u0.badSource.length)) [29,27]=true from by kernel_rfl)),1,(by intro i hi;match i,hi with|0,_=>rfl), .inr ⟨rfl,rfl⟩,rfl,rfl,(by intro i hi;match i,hi with|0,_=>exact fun _=> ⟨rfl,rfl⟩)⟩),(⟨(by intro i hi;match i,hi with|0,_=>rfl|1,_=>rfl),(by intro i hi j hj;match i,j,hi,hj with|0,0,_,_=>exact cZ.1 (show gK (CV.dB (.own 29 false u0.badBus.length)) [29,27,25]=true from by kernel_rfl)|1,0,_,_=>exact cZ.1 (show gK (CV.dB (.own 27 false u0.badSource.length)) [29,27,25]=true from by kernel_rfl)|2,0,_,_=>exact cZ.1 (show gK (CV.dB (.own 25 false u0.badLink.length)) [29,27,25]=true from by kernel_rfl)),2,(by intro i hi;match i,hi with|0,_=>rfl|1,_=>rfl), .inr ⟨rfl,rfl⟩,rfl,rfl,(by intro i hi;match i,hi with|0,_=>exact fun _=> ⟨rfl,rfl⟩|1,_=>exact fun _=> ⟨rfl,rfl⟩)⟩),(⟨(by intro i hi;match i,hi with|0,_=>rfl|1,_=>rfl|2,_=>rfl), .inl ⟨rfl,0,by decide,congrArg some hb,(fun i hi=>absurd hi (Nat.not_lt_zero i)),rfl⟩⟩),trivial⟩ ?_
   refine aQ (aQ (bE h fun u1 hr_2 h=> ?_))
   have q0:=aK x.index 0 (IntKind.wrap .i64 ((u0.badBus.length:Int) - 1)) hr_2
   refine rg tT ⟨[(3,(vB is)),(5,(vP 20 0)),(6,(vP 21 0)),(8,(vP 22 0)),(11,(vO 29 false u0.badBus.length)),(38,(vB (!u1)))],(Oc x u0)⟩ [_] {an:=[(5,cA q0 [])] } [] ⟨q0,trivial⟩ ?_
   refine bI h (fun hb1 h=> ?_) (fun hb1 h=> ?_)
   ·refine ct hb1 ?_
    refine sz tT Ue {} [22] ?_
    refine aI (bB.le (st':=TN) ⟨⟨⟨_,rfl,eX.v (eO.one (bR.d (Aj ⟨dX.nil',dX.nil',dX.nil',dX.nil',dX.nil',dX.nil',dX.nil',trivial⟩)))⟩,tR,trivial⟩,trivial⟩) ?_
    refine aR ?_
    obtain rfl:=oi h
    exact rl Ub
   ·refine cf hb1 ?_
    refine aP (aQ (aO h fun a1 h=> ?_))
    refine ri tT ⟨Mf,[(aaj u0),Ct,(RV u0),(JO u0),(Ql u0),(KG u0),(PU u0),(JN u0),(29,some (.arr 4 1 u0.badBus.length (ay ah (u0.badBus.set x.index.toNat is))))]⟩ [_,_,aC u0.badBus.length 1 (jo (ay ah u0.badBus) x.index.toNat 0 [(.bool is)]) (ay ah (u0.badBus.set x.index.toNat is))] {an:=[(5, .arr 0 (ay ah (u0.badBus.set x.index.toNat is)))] } [] ⟨a1,(tL a1),(aW _ _ _ _ _ _ _ _ rfl (fun j hj=>(match j,hj with|0,_=>rfl))),trivial⟩ (bB.le (st':=⟨Mf,[(20,some (.cells 29 [(.own 23 false u0.closed.length),(.own 24 false u0.locked.length),(.own 25 false u0.badLink.length),(.own 26 false u0.on_.length),(.own 27 false u0.badSource.length),(.own 28 false u0.earthed.length),(.own 29 false ((u0.badBus.set x.index.toNat is).length))])),Ct,(RV u0),(JO u0),(Ql u0),(KG u0),(PU u0),(JN u0),(29,some (bg 4 1 ah (u0.badBus.set x.index.toNat is)))]⟩) ⟨⟨tR,tR,trivial⟩,⟨rfl,aJ ⟨bR.refl _,bR.refl _,bR.refl _,bR.refl _,bR.refl _,bR.refl _,cW,trivial⟩,(hN 7 ⟨rfl,oW,trivial⟩)⟩⟩) ?_
    refine si tT ⟨[(8,(vP 22 0)),(9,(vI 0))],[(22,some (.cells 29 (abT x u0 is)))]⟩ [u0.closed.length=u0.closed.length,u0.locked.length=u0.locked.length,u0.badLink.length=u0.badLink.length,u0.on_.length=u0.on_.length,u0.badSource.length=u0.badSource.length,u0.earthed.length=u0.earthed.length,(u0.badBus.set x.index.toNat is).length=(u0.badBus.set x.index.toNat is).length] {} [23,24,25,26,27,28,29] ⟨rfl,rfl,rfl,rfl,rfl,rfl,rfl,trivial⟩ (fz ⟨[(8,(vD (kH [(Wm u0),(Q9 u0),(SN u0),(Wd u0),(P6 u0),(Mt u0),(aG none 1 ah (u0.badBus.set x.index.toNat is))] 0))),(9,(vI 0))],[]⟩ [22]) ?_
    refine aR ?_
    obtain rfl:=oi h
    exact rl [(.agg (abT x u0 is)),(sI 0)]
  ·skip
   refine bI h (fun hb2 h=> ?_) (fun hb2 h=> ?_)
   ·skip
    refine rg tT ⟨[(3,(vB is)),(5,(vP 20 0)),(6,(vP 21 0)),(8,(vP 22 0)),(11,(vO 27 false u0.badSource.length))],(Oc x u0)⟩ [mI [some .i64] 1 1 0 (xu []) (XH 1 []) [(.int .i64 1)] (KS u0) [29] 1 (xu [(.int .i64 1)]) (AP u0),mI [some .i64] 1 1 1 (xu [(.int .i64 1)]) (AP u0) [(.int .i64 2)] (MX u0) [29,27] 2 (xu AZ) (Ay u0),mI [some .i64] 1 1 2 (xu AZ) (Ay u0) [(.int .i64 3)] (Mh u0) [29,27,25] 3 (xu A9) (AJ u0),KA [some .i64] 1 1 3 (xu A9) (AJ u0) [(.int .i64 x.kind)] [(.d nS)] true (MX u0)] {an:=[(0, .map 0 (xu []) (XH 1 []) []),(3, .map 1 (xu [(.int .i64 1)]) (AP u0) [29]),(6, .map 2 (xu AZ) (Ay u0) [29,27]),(9, .map 3 (xu A9) (AJ u0) [29,27,25]),(13, .look true (MX u0))],fr:=[(0,34)] } [] ⟨(⟨(fun i hi=>absurd hi (Nat.not_lt_zero i)),(by intro i hi j hj;match i,j,hi,hj with|0,0,_,_=>exact cZ.1 (show gK (CV.dB (.own 29 false u0.badBus.length)) [29]=true from by kernel_rfl)),0,(fun i hi=>absurd hi (Nat.not_lt_zero i)), .inr ⟨rfl,rfl⟩,rfl,rfl,(fun i hi=>absurd hi (Nat.not_lt_zero i))⟩),(⟨(by intro i hi;match i,hi with|0,_=>rfl),(by intro i hi j hj;match i,j,hi,hj with|0,0,_,_=>exact cZ.1 (show gK (CV.dB (.own 29 false u0.badBus.length)) [29,27]=true from by kernel_rfl)|1,0,_,_=>exact cZ.1 (show gK (CV.dB (.own 27 false u0.badSource.length)) [29,27]=true from by kernel_rfl)),1,(by intro i hi;match i,hi with|0,_=>rfl), .inr ⟨rfl,rfl⟩,rfl,rfl,(by intro i hi;match i,hi with|0,_=>exact fun _=> ⟨rfl,rfl⟩)⟩),(⟨(by intro i hi;match i,hi with|0,_=>rfl|1,_=>rfl),(by intro i hi j hj;match i,j,hi,hj with|0,0,_,_=>exact cZ.1 (show gK (CV.dB (.own 29 false u0.badBus.length)) [29,27,25]=true from by kernel_rfl)|1,0,_,_=>exact cZ.1 (show gK (CV.dB (.own 27 false u0.badSource.length)) [29,27,25]=true from by kernel_rfl)|2,0,_,_=>exact cZ.1 (show gK (CV.dB (.own 25 false u0.badLink.length)) [29,27,25]=true from by kernel_rfl)),2,(by intro i hi;match i,hi with|0,_=>rfl|1,_=>rfl), .inr ⟨rfl,rfl⟩,rfl,rfl,(by intro i hi;match i,hi with|0,_=>exact fun _=> ⟨rfl,rfl⟩|1,_=>exact fun _=> ⟨rfl,rfl⟩)⟩),(⟨(by intro i hi;match i,hi with|0,_=>rfl|1,_=>rfl|2,_=>rfl), .inl ⟨rfl,1,by decide,congrArg some hb2,(by intro i hi;match i,hi with|0,_=>exact congrArg some hb),rfl⟩⟩),trivial⟩ ?_
    refine aQ (aQ (bE h fun u2 hr_3 h=> ?_))
    have q0:=aK x.index 0 (IntKind.wrap .i64 ((u0.badSource.length:Int) - 1)) hr_3
    refine rg tT ⟨[(3,(vB is)),(5,(vP 20 0)),(6,(vP 21 0)),(8,(vP 22 0)),(11,(vO 27 false u0.badSource.length)),(38,(vB (!u2)))],(Oc x u0)⟩ [_] {an:=[(5,cA q0 [])] } [] ⟨q0,trivial⟩ ?_
    refine bI h (fun hb3 h=> ?_) (fun hb3 h=> ?_)
    ·refine ct hb3 ?_
     refine sz tT Ue {} [22] ?_
     refine aI (bB.le (st':=TN) ⟨⟨⟨_,rfl,eX.v (eO.one (bR.d (Aj ⟨dX.nil',dX.nil',dX.nil',dX.nil',dX.nil',dX.nil',dX.nil',trivial⟩)))⟩,tR,trivial⟩,trivial⟩) ?_
     refine aR ?_
     obtain rfl:=oi h
     exact rl Ub
    ·refine cf hb3 ?_
     refine aP (aQ (aO h fun a1 h=> ?_))
     refine ri tT ⟨Mf,[(aaj u0),Ct,(RV u0),(JO u0),(Ql u0),(KG u0),(27,some (.arr 4 1 u0.badSource.length (ay ah (FX x u0 is)))),(JN u0),(PK u0)]⟩ [_,_,aC u0.badSource.length 1 (jo (ay ah u0.badSource) x.index.toNat 0 [(.bool is)]) (ay ah (FX x u0 is))] {an:=[(5, .arr 0 (ay ah (FX x u0 is)))] } [] ⟨a1,(tL a1),(aW _ _ _ _ _ _ _ _ rfl (fun j hj=>(match j,hj with|0,_=>rfl))),trivial⟩ (bB.le (st':=⟨Mf,[(20,some (.cells 29 [(.own 23 false u0.closed.length),(.own 24 false u0.locked.length),(.own 25 false u0.badLink.length),(.own 26 false u0.on_.length),(.own 27 false ((FX x u0 is).length)),(.own 28 false u0.earthed.length),(.own 29 false u0.badBus.length)])),Ct,(RV u0),(JO u0),(Ql u0),(KG u0),(27,some (bg 4 1 ah (FX x u0 is))),(JN u0),(PK u0)]⟩) ⟨⟨tR,tR,trivial⟩,⟨rfl,aJ ⟨bR.refl _,bR.refl _,bR.refl _,bR.refl _,cW,bR.refl _,bR.refl _,trivial⟩,(hN 5 ⟨rfl,oW,(.refl _)⟩)⟩⟩) ?_
     refine si tT ⟨[(8,(vP 22 0)),(9,(vI 0))],[(22,some (.cells 29 (abG x u0 is)))]⟩ [u0.closed.length=u0.closed.length,u0.locked.length=u0.locked.length,u0.badLink.length=u0.badLink.length,u0.on_.length=u0.on_.length,(FX x u0 is).length=(FX x u0 is).length,u0.earthed.length=u0.earthed.length,u0.badBus.length=u0.badBus.length] {} [23,24,25,26,27,28,29] ⟨rfl,rfl,rfl,rfl,rfl,rfl,rfl,trivial⟩ (fz ⟨[(8,(vD (kH [(Wm u0),(Q9 u0),(SN u0),(Wd u0),(aG none 1 ah (FX x u0 is)),(Mt u0),(Od u0)] 0))),(9,(vI 0))],[]⟩ [22]) ?_
     refine aR ?_
     obtain rfl:=oi h
     exact rl [(.agg (abG x u0 is)),(sI 0)]
   ·skip
    refine bI h (fun hb4 h=> ?_) (fun hb4 h=> ?_)
    ·skip
     refine rg tT ⟨[(3,(vB is)),(5,(vP 20 0)),(6,(vP 21 0)),(8,(vP 22 0)),(11,(vO 25 false u0.badLink.length))],(Oc x u0)⟩ [mI [some .i64] 1 1 0 (xu []) (XH 1 []) [(.int .i64 1)] (KS u0) [29] 1 (xu [(.int .i64 1)]) (AP u0),mI [some .i64] 1 1 1 (xu [(.int .i64 1)]) (AP u0) [(.int .i64 2)] (MX u0) [29,27] 2 (xu AZ) (Ay u0),mI [some .i64] 1 1 2 (xu AZ) (Ay u0) [(.int .i64 3)] (Mh u0) [29,27,25] 3 (xu A9) (AJ u0),KA [some .i64] 1 1 3 (xu A9) (AJ u0) [(.int .i64 x.kind)] [(.d nS)] true (Mh u0)] {an:=[(0, .map 0 (xu []) (XH 1 []) []),(3, .map 1 (xu [(.int .i64 1)]) (AP u0) [29]),(6, .map 2 (xu AZ) (Ay u0) [29,27]),(9, .map 3 (xu A9) (AJ u0) [29,27,25]),(13, .look true (Mh u0))],fr:=[(0,36)] } [] ⟨(⟨(fun i hi=>absurd hi (Nat.not_lt_zero i)),(by intro i hi j hj;match i,j,hi,hj with|0,0,_,_=>exact cZ.1 (show gK (CV.dB (.own 29 false u0.badBus.length)) [29]=true from by kernel_rfl)),0,(fun i hi=>absurd hi (Nat.not_lt_zero i)), .inr ⟨rfl,rfl⟩,rfl,rfl,(fun i hi=>absurd hi (Nat.not_lt_zero i))⟩),(⟨(by intro i hi;match i,hi with|0,_=>rfl),(by intro i hi j hj;match i,j,hi,hj with|0,0,_,_=>exact cZ.1 (show gK (CV.dB (.own 29 false u0.badBus.length)) [29,27]=true from by kernel_rfl)|1,0,_,_=>exact cZ.1 (show gK (CV.dB (.own 27 false u0.badSource.length)) [29,27]=true from by kernel_rfl)),1,(by intro i hi;match i,hi with|0,_=>rfl), .inr ⟨rfl,rfl⟩,rfl,rfl,(by intro i hi;match i,hi with|0,_=>exact fun _=> ⟨rfl,rfl⟩)⟩),(⟨(by intro i hi;match i,hi with|0,_=>rfl|1,_=>rfl),(by intro i hi j hj;match i,j,hi,hj with|0,0,_,_=>exact cZ.1 (show gK (CV.dB (.own 29 false u0.badBus.length)) [29,27,25]=true from by kernel_rfl)|1,0,_,_=>exact cZ.1 (show gK (CV.dB (.own 27 false u0.badSource.length)) [29,27,25]=true from by kernel_rfl)|2,0,_,_=>exact cZ.1 (show gK (CV.dB (.own 25 false u0.badLink.length)) [29,27,25]=true from by kernel_rfl)),2,(by intro i hi;match i,hi with|0,_=>rfl|1,_=>rfl), .inr ⟨rfl,rfl⟩,rfl,rfl,(by intro i hi;match i,hi with|0,_=>exact fun _=> ⟨rfl,rfl⟩|1,_=>exact fun _=> ⟨rfl,rfl⟩)⟩),(⟨(by intro i hi;match i,hi with|0,_=>rfl|1,_=>rfl|2,_=>rfl), .inl ⟨rfl,2,by decide,congrArg some hb4,(by intro i hi;match i,hi with|0,_=>exact congrArg some hb|1,_=>exact congrArg some hb2),rfl⟩⟩),trivial⟩ ?_
     refine aQ (aQ (bE h fun u3 hr_4 h=> ?_))
     have q0:=aK x.index 0 (IntKind.wrap .i64 ((u0.badLink.length:Int) - 1)) hr_4
     refine rg tT ⟨[(3,(vB is)),(5,(vP 20 0)),(6,(vP 21 0)),(8,(vP 22 0)),(11,(vO 25 false u0.badLink.length)),(38,(vB (!u3)))],(Oc x u0)⟩ [_] {an:=[(5,cA q0 [])] } [] ⟨q0,trivial⟩ ?_
     refine bI h (fun hb5 h=> ?_) (fun hb5 h=> ?_)
     ·refine ct hb5 ?_
      refine sz tT Ue {} [22] ?_
      refine aI (bB.le (st':=TN) ⟨⟨⟨_,rfl,eX.v (eO.one (bR.d (Aj ⟨dX.nil',dX.nil',dX.nil',dX.nil',dX.nil',dX.nil',dX.nil',trivial⟩)))⟩,tR,trivial⟩,trivial⟩) ?_
      refine aR ?_
      obtain rfl:=oi h
      exact rl Ub
     ·refine cf hb5 ?_
      refine aP (aQ (aO h fun a1 h=> ?_))
      refine ri tT ⟨Mf,[(aaj u0),Ct,(RV u0),(JO u0),(25,some (.arr 4 1 u0.badLink.length (ay ah (Fy x u0 is)))),(KG u0),(PU u0),(JN u0),(PK u0)]⟩ [_,_,aC u0.badLink.length 1 (jo (ay ah u0.badLink) x.index.toNat 0 [(.bool is)]) (ay ah (Fy x u0 is))] {an:=[(5, .arr 0 (ay ah (Fy x u0 is)))] } [] ⟨a1,(tL a1),(aW _ _ _ _ _ _ _ _ rfl (fun j hj=>(match j,hj with|0,_=>rfl))),trivial⟩ (bB.le (st':=⟨Mf,[(20,some (.cells 29 [(.own 23 false u0.closed.length),(.own 24 false u0.locked.length),(.own 25 false ((Fy x u0 is).length)),(.own 26 false u0.on_.length),(.own 27 false u0.badSource.length),(.own 28 false u0.earthed.length),(.own 29 false u0.badBus.length)])),Ct,(RV u0),(JO u0),(25,some (bg 4 1 ah (Fy x u0 is))),(KG u0),(PU u0),(JN u0),(PK u0)]⟩) ⟨⟨tR,tR,trivial⟩,⟨rfl,aJ ⟨bR.refl _,bR.refl _,cW,bR.refl _,bR.refl _,bR.refl _,bR.refl _,trivial⟩,(hN 3 ⟨rfl,oW,(.refl _)⟩)⟩⟩) ?_
      refine si tT ⟨[(8,(vP 22 0)),(9,(vI 0))],[(22,some (.cells 29 (abI x u0 is)))]⟩ [u0.closed.length=u0.closed.length,u0.locked.length=u0.locked.length,(Fy x u0 is).length=(Fy x u0 is).length,u0.on_.length=u0.on_.length,u0.badSource.length=u0.badSource.length,u0.earthed.length=u0.earthed.length,u0.badBus.length=u0.badBus.length] {} [23,24,25,26,27,28,29] ⟨rfl,rfl,rfl,rfl,rfl,rfl,rfl,trivial⟩ (fz ⟨[(8,(vD (kH [(Wm u0),(Q9 u0),(aG none 1 ah (Fy x u0 is)),(Wd u0),(P6 u0),(Mt u0),(Od u0)] 0))),(9,(vI 0))],[]⟩ [22]) ?_
      refine aR ?_
      obtain rfl:=oi h
      exact rl [(.agg (abI x u0 is)),(sI 0)]
    ·skip
     refine rg tT ⟨[(3,(vB is)),(5,(vP 20 0)),(6,(vP 21 0)),(8,(vP 22 0)),(11,(vD nS))],(Oc x u0)⟩ [mI [some .i64] 1 1 0 (xu []) (XH 1 []) [(.int .i64 1)] (KS u0) [29] 1 (xu [(.int .i64 1)]) (AP u0),mI [some .i64] 1 1 1 (xu [(.int .i64 1)]) (AP u0) [(.int .i64 2)] (MX u0) [29,27] 2 (xu AZ) (Ay u0),mI [some .i64] 1 1 2 (xu AZ) (Ay u0) [(.int .i64 3)] (Mh u0) [29,27,25] 3 (xu A9) (AJ u0),KA [some .i64] 1 1 3 (xu A9) (AJ u0) [(.int .i64 x.kind)] [(.d nS)] false [(.d nS)]] {an:=[(0, .map 0 (xu []) (XH 1 []) []),(3, .map 1 (xu [(.int .i64 1)]) (AP u0) [29]),(6, .map 2 (xu AZ) (Ay u0) [29,27]),(9, .map 3 (xu A9) (AJ u0) [29,27,25]),(13, .look false [(.d nS)])],fr:=[(0,37)] } [] ⟨(⟨(fun i hi=>absurd hi (Nat.not_lt_zero i)),(by intro i hi j hj;match i,j,hi,hj with|0,0,_,_=>exact cZ.1 (show gK (CV.dB (.own 29 false u0.badBus.length)) [29]=true from by kernel_rfl)),0,(fun i hi=>absurd hi (Nat.not_lt_zero i)), .inr ⟨rfl,rfl⟩,rfl,rfl,(fun i hi=>absurd hi (Nat.not_lt_zero i))⟩),(⟨(by intro i hi;match i,hi with|0,_=>rfl),(by intro i hi j hj;match i,j,hi,hj with|0,0,_,_=>exact cZ.1 (show gK (CV.dB (.own 29 false u0.badBus.length)) [29,27]=true from by kernel_rfl)|1,0,_,_=>exact cZ.1 (show gK (CV.dB (.own 27 false u0.badSource.length)) [29,27]=true from by kernel_rfl)),1,(by intro i hi;match i,hi with|0,_=>rfl), .inr ⟨rfl,rfl⟩,rfl,rfl,(by intro i hi;match i,hi with|0,_=>exact fun _=> ⟨rfl,rfl⟩)⟩),(⟨(by intro i hi;match i,hi with|0,_=>rfl|1,_=>rfl),(by intro i hi j hj;match i,j,hi,hj with|0,0,_,_=>exact cZ.1 (show gK (CV.dB (.own 29 false u0.badBus.length)) [29,27,25]=true from by kernel_rfl)|1,0,_,_=>exact cZ.1 (show gK (CV.dB (.own 27 false u0.badSource.length)) [29,27,25]=true from by kernel_rfl)|2,0,_,_=>exact cZ.1 (show gK (CV.dB (.own 25 false u0.badLink.length)) [29,27,25]=true from by kernel_rfl)),2,(by intro i hi;match i,hi with|0,_=>rfl|1,_=>rfl), .inr ⟨rfl,rfl⟩,rfl,rfl,(by intro i hi;match i,hi with|0,_=>exact fun _=> ⟨rfl,rfl⟩|1,_=>exact fun _=> ⟨rfl,rfl⟩)⟩),(⟨(by intro i hi;match i,hi with|0,_=>rfl|1,_=>rfl|2,_=>rfl), .inr ⟨rfl,(by intro i hi;match i,hi with|0,_=>exact congrArg some hb|1,_=>exact congrArg some hb2|2,_=>exact congrArg some hb4),rfl⟩⟩),trivial⟩ ?_
     refine aQ (aQ (bE h fun u4 hr_5 h=> ?_))
     have q0:=aK x.index 0 (-1) hr_5
     refine rg tT ⟨[(3,(vB is)),(5,(vP 20 0)),(6,(vP 21 0)),(8,(vP 22 0)),(11,(vD nS)),(38,(vB (!u4)))],(Oc x u0)⟩ [_] {an:=[(5,cA q0 [])] } [] ⟨q0,trivial⟩ ?_
     refine bI h (fun hb6 h=> ?_) (fun hb6 h=> ?_)
     ·refine ct hb6 ?_
      refine sz tT Ue {} [22] ?_
      refine aI (bB.le (st':=TN) ⟨⟨⟨_,rfl,eX.v (eO.one (bR.d (Aj ⟨dX.nil',dX.nil',dX.nil',dX.nil',dX.nil',dX.nil',dX.nil',trivial⟩)))⟩,tR,trivial⟩,trivial⟩) ?_
      refine aR ?_
      obtain rfl:=oi h
      exact rl Ub
     ·refine cf hb6 ?_
      refine aP (aQ ?_)
      cases h
def Fb  :(State × Int)→Exit→St→Prop:=
  fun r=>bJ TT [.cell 6 29, .tmp 7] (.iC [(.agg [(.d (aG none 1 ah r.1.closed)),(.d (aG none 1 ah r.1.locked)),(.d (aG none 1 ah r.1.badLink)),(.d (aG none 1 ah r.1.on_)),(.d (aG none 1 ah r.1.badSource)),(.d (aG none 1 ah r.1.earthed)),(.d (aG none 1 ah r.1.badBus))]),(sI r.2)]) []
section
variable (r_:(State × Int))
abbrev abP:List CV:=[(.d (aG none 1 ah r_.1.closed)),(.d (aG none 1 ah r_.1.locked)),(.d (aG none 1 ah r_.1.badLink)),(.d (aG none 1 ah r_.1.on_)),(.d (aG none 1 ah r_.1.badSource)),(.d (aG none 1 ah r_.1.earthed)),(.d (aG none 1 ah r_.1.badBus))]
abbrev aaR:TV:=(vD (kH [(aG none 1 ah r_.1.closed),(aG none 1 ah r_.1.locked),(aG none 1 ah r_.1.badLink),(aG none 1 ah r_.1.on_),(aG none 1 ah r_.1.badSource),(aG none 1 ah r_.1.earthed),(aG none 1 ah r_.1.badBus)] 0))
end
theorem Dw (p:ai) (s_:State) (x:Part) {r:(State × Int)} (h:oo p s_ x=some r):Fn Try.prog 56 [(.agg (k5 p)),(.agg (Vl s_)),(.agg [(cI x.kind),(cI x.index)])] [] (.iC [(.agg [(.d (aG none 1 ah r.1.closed)),(.d (aG none 1 ah r.1.locked)),(.d (aG none 1 ah r.1.badLink)),(.d (aG none 1 ah r.1.on_)),(.d (aG none 1 ah r.1.badSource)),(.d (aG none 1 ah r.1.earthed)),(.d (aG none 1 ah r.1.badBus))]),(sI r.2)]) []:=by
 refine fN tT Try.func56 rfl rfl fun B=> ?_
 show bL _ _ _ _ _ _ (Fb r) _
 unfold oo at h
 refine sz tT ⟨[(bU p),(bO s_),(5,(vD (kH [(.int .i64 x.kind),(.int .i64 x.index)] 0))),(6,(vP 7 0))],[(7,some Y7)]⟩ {fr:=[(0,4),(1,5),(2,6),(3,7)] } [4,5,6] ?_
 refine aQ (bE h fun r_ hr_ h=> ?_)
 have q0:=FL p s_ x true hr_
 refine rg tT ⟨[(6,(vP 7 0)),(7,(vI r_.2))],[(7,some (.cells 29 (abP r_)))]⟩ [_] {an:=[(3,cA q0 [])] } [] ⟨q0,trivial⟩ ?_
 refine aI (fz ⟨[(6,(aaR r_)),(7,(vI r_.2))],[]⟩ [7]) ?_
 refine aR ?_
 obtain rfl:=oi h
 exact rl [(.agg (abP r_)),(sI r_.2)]
section
variable (s_:State)
abbrev dw:Nat × Option Ob:=(0,some (bg 4 1 ah s_.closed))
abbrev cK:Nat × Option Ob:=(1,some (bg 4 1 ah s_.locked))
abbrev dz:Nat × Option Ob:=(2,some (bg 4 1 ah s_.badLink))
abbrev dm:Nat × Option Ob:=(3,some (bg 4 1 ah s_.on_))
abbrev cO:Nat × Option Ob:=(4,some (bg 4 1 ah s_.badSource))
abbrev cu:Nat × Option Ob:=(5,some (bg 4 1 ah s_.earthed))
abbrev dh:Nat × Option Ob:=(6,some (bg 4 1 ah s_.badBus))
end
def gm (s_:State):(aj × (List Bool) × Int)→Exit→St→Prop:=
  fun r=>bJ TT [.cell 4 77, .tmp 5, .tmp 6] (.iC [(.agg [(.own 7 false r.1.sources.length),(.own 8 false r.1.links.length),(.own 9 false r.1.racks.length)]),(.one (.own 10 false r.2.1.length)),(sI r.2.2)]) [(dw s_),(cK s_),(dz s_),(dm s_),(cO s_),(cu s_),(dh s_),(7,some (bg 3 1 (au .i64) r.1.sources)),(8,some (bg 3 1 (au .i64) r.1.links)),(9,some (bg 164 2 af.cell r.1.racks)),(10,some (bg 4 1 ah r.2.1)),(11,none)]
section
variable (p:ai) (u1:Int) (s_:State) (n1:(List (List Int))) (n0:(List aV)) (u0:(List (Int × Int)))
abbrev kQ:Nat × TV:=(11,(.v (.one (.mp 84))))
abbrev jN:Nat × TV:=(12,(.v (.one (.mp 85))))
abbrev iX:Nat × TV:=(13,(.v (.one (.mp 86))))
abbrev abj:List (Nat × TV):=[(2,(vP 70 0)),(3,(vP 71 0)),(4,(vP 72 0)),(iN p),(9,(vP 78 0)),(10,(vP 83 0)),kQ,jN,iX,(Bu p),(Bg p),(68,(vI u1))]
abbrev D6:Nat × Option Ob:=(70,some (ZW p))
abbrev QS:List CV:=[(.own 0 false s_.closed.length),(.own 1 false s_.locked.length),(.own 2 false s_.badLink.length),(.own 3 false s_.on_.length),(.own 4 false s_.badSource.length),(.own 5 false s_.earthed.length),(.own 6 false s_.badBus.length)]
abbrev nV:Nat × Option Ob:=(71,some (.cells 29 (QS s_)))
abbrev d9:Nat × Option Ob:=(72,some (.cells 77 [(.d nS),(.d nS),(.d nS)]))
abbrev J6:Nat × Option Ob:=(77,some (.rows 40 1 n1.length (uS oZ n1) none))
abbrev Mk:Nat × Option Ob:=(78,some (.cells 161 [(.own 79 false n0.length),(.own 77 true n1.length)]))
abbrev Eg:Nat × Option Ob:=(79,some (bg 170 2 aV.cell n0))
abbrev QJ:Nat × Option Ob:=(80,some (aeS p))
abbrev Fw:Nat × Option Ob:=(81,some (ZB p))
abbrev Ea:Nat × Option Ob:=(82,some (aev p))
abbrev Q5:Nat × Option Ob:=(83,some (.cells 77 [(.own 80 true (ac7 p)),(.own 81 true (Sk p)),(.own 82 true (Nr p))]))
abbrev tN:Nat × Option Ob:=(84,some (Vr u0))
abbrev Qf:Nat × Option Ob:=(85,some U9)
abbrev F7:Nat × Option Ob:=(86,some ae9)
abbrev M0:List (Nat × Option Ob):=[(dw s_),(cK s_),(dz s_),(dm s_),(cO s_),(cu s_),(dh s_),(D6 p),(nV s_),d9,(J6 n1),(Mk n1 n0),(Eg n0),(QJ p),(Fw p),(Ea p),(Q5 p),(tN u0),Qf,F7]
end
def vw (p:ai) (s_:State):((List aV) × (List (List Int)) × (List (Int × Int)) × Int)→St:=
  fun zz=>match zz with|(n0,n1,u0,u1)=> ⟨(abj p u1),(M0 p s_ n1 n0 u0)⟩
section
variable (p:ai) (p1:(List Source)) (x0:(List Int)) (s_:State) (u0:(List (List Int))) (u1:(List aV)) (u2:(List (Int × Int)))
abbrev Qb:List (Nat × TV):=[(2,(vP 70 0)),(3,(vP 71 0)),(4,(vP 72 0)),(iN p),(9,(vP 78 0)),(10,(vP 83 0)),kQ,jN,iX]
abbrev TK:Nat × Option Ob:=(70,some (aic p p1))
abbrev gX:Nat × Option Ob:=(80,some (wW x0))
abbrev TL:Nat × Option Ob:=(83,some (.cells 77 [(.own 80 true x0.length),(.own 81 true (Sk p)),(.own 82 true (Nr p))]))
abbrev aaS:List (Nat × Option Ob):=[(dw s_),(cK s_),(dz s_),(dm s_),(cO s_),(cu s_),(dh s_),(TK p p1),(nV s_),d9,(J6 u0),(Mk u0 u1),(Eg u1),(gX x0),(Fw p),(Ea p),(TL p x0),(tN u2),Qf,F7]
end
def wS (p:ai) (s_:State):((List Source) × (List aV) × (List (List Int)) × (List Int) × (List (Int × Int)))→St:=
  fun zz=>match zz with|(p1,u1,u0,x0,u2)=> ⟨(Qb p),(aaS p p1 x0 s_ u0 u1 u2)⟩
def Em (p:ai) (s_:State):(aU ((List aV) × (List (List Int)) × (List (Int × Int)) × Int) (Ex ((List Source) × (List aV) × (List (List Int)) × (List Int) × (List (Int × Int))) (aj × (List Bool) × Int)))→Exit→St→Prop:=
  LQ 0 [] (vw p s_) (wS p s_) (gm s_)
section
variable (p:ai) (u4:Int) (u3:(List (Int × Int))) (s_:State) (p1:(List Source)) (u0:(List (List Int))) (u1:(List aV)) (x0:(List Int)) (u2:(List (Int × Int)))
abbrev abQ:List (Nat × TV):=[(2,(vP 70 0)),(3,(vP 71 0)),(4,(vP 72 0)),(iN p),(9,(vP 78 0)),(10,(vP 83 0)),kQ,jN,iX,(Bn p),(Bo p),(90,(vI u4))]
abbrev tH:Nat × Option Ob:=(85,some (Vr u3))
abbrev MR:List (Nat × Option Ob):=[(dw s_),(cK s_),(dz s_),(dm s_),(cO s_),(cu s_),(dh s_),(TK p p1),(nV s_),d9,(J6 u0),(Mk u0 u1),(Eg u1),(gX x0),(Fw p),(Ea p),(TL p x0),(tN u2),(tH u3),F7]
end
def vo (p:ai) (s_:State) (p1:(List Source)) (x0:(List Int)) (u2:(List (Int × Int))):((List aV) × (List (List Int)) × (List (Int × Int)) × Int)→St:=
  fun zz=>match zz with|(u1,u0,u3,u4)=> ⟨(abQ p u4),(MR p u3 s_ p1 u0 u1 x0 u2)⟩
section
variable (x1:(List Int)) (s_:State) (p:ai) (p1:(List Source)) (p2:(List Link)) (u0:(List (List Int))) (u1:(List aV)) (x0:(List Int)) (u2:(List (Int × Int))) (u3:(List (Int × Int)))
abbrev iZ:Nat × Option Ob:=(81,some (wW x1))
abbrev abE:List (Nat × Option Ob):=[(dw s_),(cK s_),(dz s_),(dm s_),(cO s_),(cu s_),(dh s_),(70,some (af8 p p1 p2)),(nV s_),d9,(J6 u0),(Mk u0 u1),(Eg u1),(gX x0),(iZ x1),(Ea p),(83,some (.cells 77 [(.own 80 true x0.length),(.own 81 true x1.length),(.own 82 true (Nr p))])),(tN u2),(tH u3),F7]
end
def wu (p:ai) (s_:State) (p1:(List Source)) (x0:(List Int)) (u2:(List (Int × Int))):((List Link) × (List aV) × (List (List Int)) × (List Int) × (List (Int × Int)))→St:=
  fun zz=>match zz with|(p2,u1,u0,x1,u3)=> ⟨(Qb p),(abE x1 s_ p p1 p2 u0 u1 x0 u2 u3)⟩
def Er (p:ai) (s_:State) (p1:(List Source)) (x0:(List Int)) (u0:(List (Int × Int))):(aU ((List aV) × (List (List Int)) × (List (Int × Int)) × Int) (Ex ((List Link) × (List aV) × (List (List Int)) × (List Int) × (List (Int × Int))) (aj × (List Bool) × Int)))→Exit→St→Prop:=
  LQ 2 [] (vo p s_ p1 x0 u0) (wu p s_ p1 x0 u0) (gm s_)
section
variable (u4:Int) (u6:(List ax)) (u7:Int) (u8:Int) (p:ai) (p1:(List Source)) (p2:(List Link)) (p3:(List ax)) (x2:(List af)) (x0:(List Int)) (x1:(List Int)) (u5:(List (af × Int))) (s_:State) (u0:(List (List Int))) (u1:(List aV)) (u2:(List (Int × Int))) (u3:(List (Int × Int)))
abbrev abh:List (Nat × TV):=[(2,(vP 70 0)),(3,(vP 71 0)),(4,(vP 72 0)),(8,(vI u4)),(9,(vP 78 0)),(10,(vP 83 0)),kQ,jN,iX,(pu u6),(116,(vI u7)),(117,(vI u8))]
abbrev iD:Nat × Option Ob:=(70,some (agf p p1 p2 p3))
abbrev jK:Nat × Option Ob:=(82,some (Ou x2))
abbrev jX:Nat × Option Ob:=(83,some (.cells 77 [(.own 80 true x0.length),(.own 81 true x1.length),(.own 82 true x2.length)]))
abbrev wO:Nat × Option Ob:=(86,some (aeX u5))
abbrev T9:List (Nat × Option Ob):=[(dw s_),(cK s_),(dz s_),(dm s_),(cO s_),(cu s_),(dh s_),(iD p p1 p2 p3),(nV s_),d9,(J6 u0),(Mk u0 u1),(Eg u1),(gX x0),(iZ x1),(jK x2),(jX x2 x0 x1),(tN u2),(tH u3),(wO u5)]
end
def vH (p:ai) (s_:State) (p1:(List Source)) (x0:(List Int)) (u2:(List (Int × Int))) (p2:(List Link)) (x1:(List Int)) (u3:(List (Int × Int))):((List ax) × Int × (List aV) × (List (List Int)) × (List af) × (List (af × Int)) × (List ax) × Int × Int)→St:=
  fun zz=>match zz with|(p3,u4,u1,u0,x2,u5,u6,u7,u8)=> ⟨(abh u4 u6 u7 u8),(T9 p p1 p2 p3 x2 x0 x1 u5 s_ u0 u1 u2 u3)⟩
section
variable (u6:Int) (s_:State) (p:ai) (p1:(List Source)) (p2:(List Link)) (u5:(List ax)) (u0:(List (List Int))) (u1:(List aV)) (x0:(List Int)) (x1:(List Int)) (u2:(List af)) (u3:(List (Int × Int))) (u4:(List (Int × Int))) (u7:(List (af × Int)))
abbrev XM:List (Nat × TV):=[(2,(vP 70 0)),(4,(vP 72 0)),(8,(vI u6)),(9,(vP 78 0)),(10,(vP 83 0)),kQ,jN,iX]
abbrev abM:St:=⟨(XM u6),[(dw s_),(cK s_),(dz s_),(dm s_),(cO s_),(cu s_),(dh s_),(iD p p1 p2 u5),d9,(J6 u0),(Mk u0 u1),(Eg u1),(gX x0),(iZ x1),(jK u2),(jX u2 x0 x1),(tN u3),(tH u4),(wO u7)]⟩
end
def wB (p:ai) (s_:State) (p1:(List Source)) (x0:(List Int)) (u3:(List (Int × Int))) (p2:(List Link)) (x1:(List Int)) (u4:(List (Int × Int))):((List ax) × Int × (List aV) × (List (List Int)) × (List af) × (List (af × Int)))→St:=
  fun zz=>match zz with|(u5,u6,u1,u0,u2,u7)=>(abM u6 s_ p p1 p2 u5 u0 u1 x0 x1 u2 u3 u4 u7)
def oI (p:ai) (s_:State) (p1:(List Source)) (x0:(List Int)) (u0:(List (Int × Int))) (p2:(List Link)) (x1:(List Int)) (u1:(List (Int × Int))):(aU ((List ax) × Int × (List aV) × (List (List Int)) × (List af) × (List (af × Int)) × (List ax) × Int × Int) (Ex ((List ax) × Int × (List aV) × (List (List Int)) × (List af) × (List (af × Int))) (aj × (List Bool) × Int)))→Exit→St→Prop:=
  LQ 4 [] (vH p s_ p1 x0 u0 p2 x1 u1) (wB p s_ p1 x0 u0 p2 x1 u1) (gm s_)
section
variable (u6:Int) (u0:Int) (u1:(List ax)) (u7:Int) (u9:Int) (s_:State) (p:ai) (p1:(List Source)) (p2:(List Link)) (p3:(List ax)) (u2:(List (List Int))) (u3:(List aV)) (x0:(List Int)) (x1:(List Int)) (x2:(List af)) (u4:(List (Int × Int))) (u5:(List (Int × Int))) (u8:(List (af × Int)))
abbrev abz:List (Nat × TV):=[(2,(vP 70 0)),(3,(vP 71 0)),(4,(vP 72 0)),(8,(vI u6)),(9,(vP 78 0)),(10,(vP 83 0)),kQ,jN,iX,(18,(vI u0)),(yB u1 u0),(pu u1),(116,(vI u7)),(117,(vI u0)),(Bz u1 u0),(134,(vI u9))]
abbrev K6:List (Nat × Option Ob):=[(dw s_),(cK s_),(dz s_),(dm s_),(cO s_),(cu s_),(dh s_),(iD p p1 p2 p3),(nV s_),d9,(J6 u2),(78,some (.cells 161 [(.own 122 false u3.length),(.own 77 true u2.length)])),(gX x0),(iZ x1),(jK x2),(jX x2 x0 x1),(tN u4),(tH u5),(wO u8),(122,some (bg 170 2 aV.cell u3))]
end
def wJ (p:ai) (s_:State) (p1:(List Source)) (x0:(List Int)) (u4:(List (Int × Int))) (p2:(List Link)) (x1:(List Int)) (u5:(List (Int × Int))) (p3:(List ax)) (u6:Int) (x2:(List af)) (u1:(List ax)) (u7:Int) (u0:Int):((List aV) × (List (List Int)) × (List (af × Int)) × Int)→St:=
  fun zz=>match zz with|(u3,u2,u8,u9)=> ⟨(abz u6 u0 u1 u7 u9),(K6 s_ p p1 p2 p3 u2 u3 x0 x1 x2 u4 u5 u8)⟩
section
variable (u4:Int) (u5:(List ax)) (u6:Int) (u7:Int) (s_:State) (p:ai) (p1:(List Source)) (p2:(List Link)) (p3:(List ax)) (u0:(List (List Int))) (u1:(List aV)) (x0:(List Int)) (x1:(List Int)) (x2:(List af)) (u2:(List (Int × Int))) (u3:(List (Int × Int))) (u8:(List (af × Int)))
abbrev abx:St:=⟨(abh u4 u5 u6 u7),(K6 s_ p p1 p2 p3 u0 u1 x0 x1 x2 u2 u3 u8)⟩
end
def wQ (p:ai) (s_:State) (p1:(List Source)) (x0:(List Int)) (u2:(List (Int × Int))) (p2:(List Link)) (x1:(List Int)) (u3:(List (Int × Int))) (p3:(List ax)) (u4:Int) (x2:(List af)) (u5:(List ax)) (u6:Int) (u7:Int):((List aV) × (List (List Int)) × (List (af × Int)))→St:=
  fun zz=>match zz with|(u1,u0,u8)=>(abx u4 u5 u6 u7 s_ p p1 p2 p3 u0 u1 x0 x1 x2 u2 u3 u8)
def El (p:ai) (s_:State) (p1:(List Source)) (x0:(List Int)) (u0:(List (Int × Int))) (p2:(List Link)) (x1:(List Int)) (u1:(List (Int × Int))) (p3:(List ax)) (u2:Int) (x2:(List af)) (u3:(List ax)) (u4:Int) (u5:Int):(aU ((List aV) × (List (List Int)) × (List (af × Int)) × Int) (Ex ((List aV) × (List (List Int)) × (List (af × Int))) (aU ((List ax) × Int × (List aV) × (List (List Int)) × (List af) × (List (af × Int)) × (List ax) × Int × Int) (Ex ((List ax) × Int × (List aV) × (List (List Int)) × (List af) × (List (af × Int))) (aj × (List Bool) × Int)))))→Exit→St→Prop:=
  LQ 6 [5] (wJ p s_ p1 x0 u0 p2 x1 u1 p3 u2 x2 u3 u4 u5) (wQ p s_ p1 x0 u0 p2 x1 u1 p3 u2 x2 u3 u4 u5) (oI p s_ p1 x0 u0 p2 x1 u1)
section
variable (u0:Network) (s_:State) (p:ai) (p1:(List Source)) (p2:(List Link)) (u4:(List ax)) (u2:(List Int)) (x1:(List Int)) (u1:(List af)) (u3:(List (Int × Int))) (u5:(List (af × Int)))
abbrev WI:List (Nat × TV):=[(2,(vP 70 0)),(4,(vP 72 0)),(9,(vP 78 0)),(10,(vP 83 0)),jN,iX,(162,(vP 127 0))]
abbrev o9:Nat × Option Ob:=(78,some (.cells 161 [(.own 79 false u0.arcs.length),(.d (Jc u0))]))
abbrev oV:Nat × Option Ob:=(79,some (Vb u0))
abbrev abf:List (Nat × Option Ob):=[(dw s_),(cK s_),(dz s_),(dm s_),(cO s_),(cu s_),(dh s_),(iD p p1 p2 u4),d9,(o9 u0),(oV u0),(gX u2),(iZ x1),(jK u1),(jX u1 u2 x1),(tH u3),(wO u5),(127,none)]
abbrev abS:St:=⟨WI,(abf u0 s_ p p1 p2 u4 u2 x1 u1 u3 u5)⟩
end
def ET (p:ai) (s_:State) (p1:(List Source)) (p2:(List Link)) (x1:(List Int)) (u3:(List (Int × Int))) (u4:(List ax)) (u1:(List af)) (u5:(List (af × Int))) (u0:Network):(List Int)→St:=
  fun u2=>(abS u0 s_ p p1 p2 u4 u2 x1 u1 u3 u5)
section
variable (s_:State) (p:ai) (p1:(List Source)) (p2:(List Link)) (u4:(List ax)) (u0:Network) (u2:(List Int)) (u3:(List Int)) (u1:(List af)) (u5:(List (af × Int)))
abbrev Xe:List (Nat × TV):=[(2,(vP 70 0)),(4,(vP 72 0)),(9,(vP 78 0)),(10,(vP 83 0)),iX,(182,(vP 128 0))]
abbrev abq:List (Nat × Option Ob):=[(dw s_),(cK s_),(dz s_),(dm s_),(cO s_),(cu s_),(dh s_),(iD p p1 p2 u4),d9,(o9 u0),(oV u0),(gX u2),(iZ u3),(jK u1),(jX u1 u2 u3),(wO u5),(128,none)]
abbrev abt:St:=⟨Xe,(abq s_ p p1 p2 u4 u0 u2 u3 u1 u5)⟩
end
def Eo (p:ai) (s_:State) (p1:(List Source)) (p2:(List Link)) (u4:(List ax)) (u1:(List af)) (u5:(List (af × Int))) (u0:Network) (u2:(List Int)):(List Int)→St:=
  fun u3=>(abt s_ p p1 p2 u4 u0 u2 u3 u1 u5)
section
variable (s_:State) (p:ai) (p1:(List Source)) (p2:(List Link)) (u4:(List ax)) (u0:Network) (u1:(List Int)) (u2:(List Int)) (u3:(List af))
abbrev PV:List (Nat × TV):=[(2,(vP 70 0)),(4,(vP 72 0)),(9,(vP 78 0)),(10,(vP 83 0)),(208,(vP 129 0))]
abbrev abJ:St:=⟨PV,[(dw s_),(cK s_),(dz s_),(dm s_),(cO s_),(cu s_),(dh s_),(iD p p1 p2 u4),d9,(o9 u0),(oV u0),(gX u1),(iZ u2),(jK u3),(jX u3 u1 u2),(129,none)]⟩
end
def EQ (p:ai) (s_:State) (p1:(List Source)) (p2:(List Link)) (u4:(List ax)) (u0:Network) (u1:(List Int)) (u2:(List Int)):(List af)→St:=
  fun u3=>(abJ s_ p p1 p2 u4 u0 u1 u2 u3)
section
variable (p:ai) (s_:State) (r_:Int) (v4:(Int × Network)) (u9:Int) (v9:(List (Int × Int))) (p1:(List Source)) (v5:(Int × Network)) (x0:(List Int)) (u4:(List (Int × Int))) (u7:Int) (w0:(List (Int × Int))) (v7:Int) (u0:Int) (u2:(List ax)) (w1:Int) (x4:(Int × Network)) (p2:(List Link)) (p3:(List ax)) (x1:(List Int)) (x2:(List af)) (u5:(List (Int × Int))) (x9:(List (af × Int))) (v6:(Int × Network)) (v3:Int) (x5:(List aV)) (x6:(List (List Int))) (u1:Network) (u3:(List (af × Int))) (i2:Nat)
abbrev abA:List SV:=[(.agg (k5 p)),(.agg (QS s_))]
abbrev GD:List (Nat × Option Ob):=[(dw s_),(cK s_),(dz s_),(dm s_),(cO s_),(cu s_),(dh s_)]
abbrev Uc:List (Nat × Option Ob):=[(dw s_),(cK s_),(dz s_),(dm s_),(cO s_),(cu s_),(dh s_),(D6 p),(nV s_),d9]
abbrev Yh:List (Nat × TV):=[(4,(vP 72 0)),(5,(vO 73 false 0)),(6,(vI r_))]
abbrev X6:Nat × Option Ob:=(73,some (.arr 4 1 0 (ay ah ([]:List Bool))))
abbrev YE:Nat × Option Ob:=(74,some (.arr 3 1 0 (ay (au .i64) ([]:List Int))))
abbrev aby:List CV:=[(.own 7 false (([]:List Int).length)),(.own 8 false (([]:List Int).length)),(.own 9 false (([]:List af).length))]
abbrev TM:List (Nat × TV):=[(2,(vP 70 0)),(3,(vP 71 0)),(4,(vP 72 0)),(iN p),(9,(vP 78 0))]
abbrev abO:List CV:=[(.d nS),(.own 77 true (Oz p))]
abbrev aaZ:Nat × Option Ob:=(78,some (.cells 161 (abO p)))
abbrev QO:Nat × Option Ob:=(77,some (.rows 40 1 (zo p).length (ab4 p) none))
abbrev Wv:Nat × Option Ob:=(78,some (.cells 161 [(.own 79 false (([]:List aV).length)),(.own 77 true (Oz p))]))
abbrev WX:Nat × Option Ob:=(79,some (bg 170 2 aV.cell ([]:List aV)))
abbrev aaV:List (Nat × Option Ob):=[(dw s_),(cK s_),(dz s_),(dm s_),(cO s_),(cu s_),(dh s_),(D6 p),(nV s_),d9,(QO p),(Wv p),WX,(QJ p),(Fw p),(Ea p),(Q5 p),(84,some U9),Qf,F7]
abbrev II:Nat × Option Ob:=(77,some (.rows 40 1 v4.2.from_.length (uS oZ v4.2.from_) none))
abbrev abV:List (Nat × Option Ob):=[(dw s_),(cK s_),(dz s_),(dm s_),(cO s_),(cu s_),(dh s_),(D6 p),(nV s_),d9,(II v4),(78,some (.cells 161 [(.own 94 false v4.2.arcs.length),(.own 77 true v4.2.from_.length)])),(QJ p),(Fw p),(Ea p),(Q5 p),(84,some (Jq u9 v4 v9)),Qf,F7,(94,some (yE v4))]
abbrev XI:List (Nat × TV):=[(2,(vP 70 0)),(3,(vP 71 0)),(4,(vP 72 0)),(iN p),(9,(vP 78 0)),(10,(vP 83 0)),kQ,jN,iX,(Bu p),(Bg p),(68,(k3 u9))]
abbrev aa5:Nat × Option Ob:=(78,some (.cells 161 [(.own 79 false v4.2.arcs.length),(.own 77 true v4.2.from_.length)]))
abbrev abU:List (Nat × Option Ob):=[(dw s_),(cK s_),(dz s_),(dm s_),(cO s_),(cu s_),(dh s_),(TK p p1),(nV s_),d9,(II v5),(78,some (.cells 161 [(.own 102 false v5.2.arcs.length),(.own 77 true v5.2.from_.length)])),(gX x0),(Fw p),(Ea p),(TL p x0),(tN u4),(85,some (Jq u7 v5 w0)),F7,(102,some (yE v5))]
abbrev XA:List (Nat × TV):=[(2,(vP 70 0)),(3,(vP 71 0)),(4,(vP 72 0)),(iN p),(9,(vP 78 0)),(10,(vP 83 0)),kQ,jN,iX,(Bn p),(Bo p),(90,(k3 u7))]
abbrev abD:List (Nat × TV):=[(2,(vP 70 0)),(3,(vP 71 0)),(4,(vP 72 0)),(8,(vI v7)),(9,(vP 78 0)),(10,(vP 83 0)),kQ,jN,iX,(18,(vI u0)),(yB u2 u0),(pu u2),(116,(vI w1)),(117,(vI u0))]
abbrev aa9:Nat × Option Ob:=(78,some (.cells 161 [(.own 122 false x4.2.arcs.length),(.own 77 true x4.2.from_.length)]))
abbrev aaU:List (Nat × Option Ob):=[(dw s_),(cK s_),(dz s_),(dm s_),(cO s_),(cu s_),(dh s_),(iD p p1 p2 p3),(nV s_),d9,(II x4),(aa9 x4),(gX x0),(iZ x1),(jK x2),(jX x2 x0 x1),(tN u4),(tH u5),(wO x9),(122,some (yE x4))]
abbrev abd:Nat × Option Ob:=(78,some (.cells 161 [(.own 126 false v6.2.arcs.length),(.own 77 true v6.2.from_.length)]))
abbrev YQ:List (Nat × TV):=[(2,(vP 70 0)),(3,(vP 71 0)),(4,(vP 72 0)),(8,(vI v7)),(9,(vP 78 0)),(10,(vP 83 0)),kQ,jN,iX,(18,(vI u0)),(yB u2 u0),(pu u2),(116,(vI w1)),(117,(vI u0)),(Bz u2 u0),(134,(k3 v3))]
abbrev abk:List (Nat × TV):=[(2,(vP 70 0)),(3,(vP 71 0)),(4,(vP 72 0)),(8,(vI v7)),(9,(vP 78 0)),(10,(vP 83 0)),kQ,jN,iX,(pu u2),(116,(vI w1)),(117,(k3 u0))]
abbrev aa1:Nat × Option Ob:=(78,some (.cells 161 [(.own 79 false x5.length),(.d (aG (some true) 1 (ML 1 (au .i64)) x6))]))
abbrev aaW:List (Nat × Option Ob):=[(o9 u1),(oV u1)]
abbrev XY:List (Nat × TV):=[(2,(vP 70 0)),(4,(vP 72 0)),(9,(vP 78 0)),(10,(vP 83 0)),(26,(vP 132 0)),(27,(vI (at' (u3.map Prod.snd) i2))),(208,(vP 129 0))]
abbrev Qt:Nat × Option Ob:=(133,some (ac1 p))
abbrev O6:Nat × Option Ob:=(134,some (.cells 27 [(.own 133 true (acn p))]))
abbrev aa8:List (Nat × TV):=[(2,(vP 70 0)),(4,(vP 72 0)),(10,(vP 83 0)),(28,(vP 134 0)),(235,(.v (.one (.fn 121 0 1 (Bq [(.ptr 135 0)])))))]
abbrev abN:List (Nat × TV):=[(2,(vP 70 0)),(4,(vP 72 0)),(10,(vP 83 0)),(28,(vP 134 0)),(aeV u1)]
end
theorem wH (p:ai) (s_:State) {r:(aj × (List Bool) × Int)} (h:bQ p s_=some r):Fn Try.prog 32 (abA p s_) (GD s_) (.iC [(.agg [(.own 7 false r.1.sources.length),(.own 8 false r.1.links.length),(.own 9 false r.1.racks.length)]),(.one (.own 10 false r.2.1.length)),(sI r.2.2)]) [(dw s_),(cK s_),(dz s_),(dm s_),(cO s_),(cu s_),(dh s_),(7,some (bg 3 1 (au .i64) r.1.sources)),(8,some (bg 3 1 (au .i64) r.1.links)),(9,some (bg 164 2 af.cell r.1.racks)),(10,some (bg 4 1 ah r.2.1)),(11,none)]:=by
 refine fN tT Try.func32 rfl rfl fun B=> ?_
 show bL _ _ _ _ _ _ ((gm s_) r) _
 unfold bQ at h
 refine sz tT ⟨[(2,(vP 70 0)),(3,(vP 71 0)),(4,(vP 72 0))],(Uc p s_)⟩ {fr:=[(0,70),(1,71),(2,72)] } [] ?_
 refine aQ (aQ (bE h fun r_ hr_ h=> ?_))
 refine rg tT ⟨[(2,(vP 70 0)),(3,(vP 71 0)),(4,(vP 72 0)),(7,(vI r_))],(Uc p s_)⟩ [Fn Try.prog 12 (abA p s_) (GD s_) (vI r_) (GD s_)] {an:=[(2, .callR [0,1,2,3,4,5,6] (vI r_))] } [] ⟨(Fn.rY (frz:=[0,1,2,3,4,5,6]) (p:=[s_.closed.length=s_.closed.length,s_.locked.length=s_.locked.length,s_.badLink.length=s_.badLink.length,s_.on_.length=s_.on_.length,s_.badSource.length=s_.badSource.length,s_.earthed.length=s_.earthed.length,s_.badBus.length=s_.badBus.length]) (dL p s_ hr_) (by kernel_rfl) ⟨rfl,rfl,rfl,rfl,rfl,rfl,rfl,trivial⟩ rfl),trivial⟩ ?_
 refine sz tT ⟨[(2,(vP 70 0)),(3,(vP 71 0)),(4,(vP 72 0)),(7,(vI r_)),(34,(vB (!decide (r_=0))))],(Uc p s_)⟩ {} [] ?_
 refine bI h (fun hb9 h=> ?_) (fun hb9 h=> ?_)
 ·refine ct hb9 ?_
  refine sz tT ⟨[(4,(vP 72 0)),(5,(vD nS)),(6,(vI r_))],[(dw s_),(cK s_),(dz s_),(dm s_),(cO s_),(cu s_),(dh s_),d9]⟩ {} [] ?_
  refine aI (.trans (bB.MQ (t:=5) (b:=73) (esz0:=0) (el0:=fun _ _=> .nilp) (E:=4) (esz:=1) (el:=ay ah ([]:List Bool)) (by kernel_rfl) (by kernel_rfl)) (.trans (bB.rA (E:=0) (esz:=0) (E0:=77) (cs:=[(.d nS),(.d nS),(.d nS)]) (p:=72) (q:=0) (b:=74) (esz0:=0) (el0:=fun _ _=> .nilp) (ob:= .arr 3 1 0 (ay (au .i64) ([]:List Int))) (fun _ _ _ _ h=> .inl ⟨h,rfl⟩) (by kernel_rfl) (by kernel_rfl) (by kernel_rfl)) (.trans (fz ⟨(Yh r_),[(dw s_),(cK s_),(dz s_),(dm s_),(cO s_),(cu s_),(dh s_),(72,some (.cells 77 [(.own 74 false 0),(.d nS),(.d nS)])),X6,YE]⟩ []) (.trans (bB.rA (E:=0) (esz:=0) (E0:=77) (cs:=[(.own 74 false 0),(.d nS),(.d nS)]) (p:=72) (q:=1) (b:=75) (esz0:=0) (el0:=fun _ _=> .nilp) (ob:= .arr 3 1 0 (ay (au .i64) ([]:List Int))) (fun _ _ _ _ h=> .inl ⟨h,rfl⟩) (by kernel_rfl) (by kernel_rfl) (by kernel_rfl)) (.trans (fz ⟨(Yh r_),[(dw s_),(cK s_),(dz s_),(dm s_),(cO s_),(cu s_),(dh s_),(72,some (.cells 77 [(.own 74 false 0),(.own 75 false 0),(.d nS)])),X6,YE,(75,some (.arr 3 1 0 (ay (au .i64) ([]:List Int))))]⟩ []) (.trans (bB.rA (E:=0) (esz:=0) (E0:=77) (cs:=[(.own 74 false 0),(.own 75 false 0),(.d nS)]) (p:=72) (q:=2) (b:=76) (esz0:=0) (el0:=fun _ _=> .nilp) (ob:= .arr 164 2 0 (ay af.cell ([]:List af))) (fun _ _ _ _ h=> .inl ⟨h,rfl⟩) (by kernel_rfl) (by kernel_rfl) (by kernel_rfl)) (.trans (fz ⟨(Yh r_),[(dw s_),(cK s_),(dz s_),(dm s_),(cO s_),(cu s_),(dh s_),(72,some (.cells 77 [(.own 74 false 0),(.own 75 false 0),(.own 76 false 0)])),X6,YE,(75,some (.arr 3 1 0 (ay (au .i64) ([]:List Int)))),(76,some (.arr 164 2 0 (ay af.cell ([]:List af))))]⟩ []) (.trans (bB.fin (st':=⟨[(4,(vP 11 0)),(5,(vO 10 false 0)),(6,(vI r_))],[(dw s_),(cK s_),(dz s_),(dm s_),(cO s_),(cu s_),(dh s_),(7,some (.arr 3 1 0 (ay (au .i64) ([]:List Int)))),(8,some (.arr 3 1 0 (ay (au .i64) ([]:List Int)))),(9,some (.arr 164 2 0 (ay af.cell ([]:List af)))),(10,some (.arr 4 1 0 (ay ah ([]:List Bool)))),(11,some (.cells 77 [(.own 7 false 0),(.own 8 false 0),(.own 9 false 0)]))]⟩) (cs:=[]) ⟨[],[(0,0),(1,1),(2,2),(3,3),(4,4),(5,5),(6,6),(74,7),(75,8),(76,9),(73,10),(72,11)]⟩ [4,5,6] (by kernel_rfl) trivial) (bB.le (st':=⟨[(4,(vP 11 0)),(5,(vO 10 false (([]:List Bool).length))),(6,(vI r_))],[(dw s_),(cK s_),(dz s_),(dm s_),(cO s_),(cu s_),(dh s_),(7,some Ye),(8,some Ye),(9,some V6),(10,some (bg 4 1 ah ([]:List Bool))),(11,some (.cells 77 aby))]⟩) ⟨⟨tR,⟨_,rfl,eX.v (eO.one cW)⟩,tR,trivial⟩,(hN 7 ⟨rfl,oW,⟨rfl,oW,⟨rfl,oW,⟨rfl,oW,⟨rfl,aJ ⟨cW,cW,cW,trivial⟩,trivial⟩⟩⟩⟩⟩)⟩))))))))) ?_
  refine aR ?_
  obtain rfl:=oi h
  exact rh [(.agg aby),(.one (.own 10 false (([]:List Bool).length))),(sI r_)] (.refl _) (hN 11 ⟨rfl,trivial,trivial⟩)
 ·refine cf hb9 ?_
  refine aP (sz tT ⟨[(2,(vP 70 0)),(3,(vP 71 0)),(4,(vP 72 0)),(iN p)],(Uc p s_)⟩ {} [] ?_)
  refine aQ (aO h fun⟨a1,a2,a3⟩ h=> ?_)
  refine ri tT ⟨(TM p),[(dw s_),(cK s_),(dz s_),(dm s_),(cO s_),(cu s_),(dh s_),(D6 p),(nV s_),d9,(77,some (.arr 40 1 (zo p).length (fun _ j=>[nS].getD j .nilp))),(aaZ p)]⟩ [_,(ae0 p)=(Wp p),_,_,(zo p).length=(R9 p),aC (R9 p) 1 (fun _ j=>[nS].getD j .nilp) (fun _ j=>[nS].getD j .nilp)] {an:=[(2, .arr (zo p).length (fun _ j=>[nS].getD j .nilp))],fr:=[(2,77),(4,78)] } [] ⟨a1,rfl,a2,a3,(List.length_replicate),(gy _ _ _),trivial⟩ (.trans (bB.RL (b:=77) (E:=40) (esz:=1) (len:=(zo p).length) (el:=(fun _ j=>[nS].getD j .nilp)) (el':=uS oZ (zo p)) (by kernel_rfl) (fun i hi j hj=>match j,hj with|0,_=>JL _ _ _ _ _ _ _ _)) (.trans (fz ⟨(TM p),[(dw s_),(cK s_),(dz s_),(dm s_),(cO s_),(cu s_),(dh s_),(D6 p),(nV s_),d9,(QO p),(aaZ p)]⟩ []) (.trans (bB.rA (E:=0) (esz:=0) (E0:=161) (cs:=(abO p)) (p:=78) (q:=0) (b:=79) (esz0:=0) (el0:=fun _ _=> .nilp) (ob:= .arr 170 2 0 (ay aV.cell ([]:List aV))) (fun _ _ _ _ h=> .inl ⟨h,rfl⟩) (by kernel_rfl) (by kernel_rfl) (by kernel_rfl)) (.trans (fz ⟨(TM p),[(dw s_),(cK s_),(dz s_),(dm s_),(cO s_),(cu s_),(dh s_),(D6 p),(nV s_),d9,(QO p),(78,some (.cells 161 [(.own 79 false 0),(.own 77 true (Oz p))])),(79,some (.arr 170 2 0 (ay aV.cell ([]:List aV))))]⟩ []) (bB.le (st':=⟨(TM p),[(dw s_),(cK s_),(dz s_),(dm s_),(cO s_),(cu s_),(dh s_),(D6 p),(nV s_),d9,(QO p),(Wv p),WX]⟩) ⟨⟨tR,tR,tR,tR,tR,trivial⟩,(hN 11 ⟨rfl,aJ ⟨cW,bR.refl _,trivial⟩,⟨rfl,oW,trivial⟩⟩)⟩))))) ?_
  refine aQ (aO h fun⟨a1,a2,a3,a4,a5,a6,a7,a8,a9⟩ h=> ?_)
  refine dg tT mX ⟨[(2,(vP 70 0)),(3,(vP 71 0)),(4,(vP 72 0)),(iN p),(9,(vP 78 0)),(10,(vP 83 0))],[(dw s_),(cK s_),(dz s_),(dm s_),(cO s_),(cu s_),(dh s_),(D6 p),(nV s_),d9,(QO p),(Wv p),WX,(QJ p),(Fw p),(Ea p),(Q5 p)]⟩ [_,((p.sources.length:Int):Int)=(p.sources.length:Int),_,_,(NR p).length=(RB p),aC (RB p) 1 (fun _ j=>[(.int .i64 0)].getD j .nilp) (U4 p),_,((p.links.length:Int):Int)=(p.links.length:Int),_,_,(JJ p).length=(Ot p),aC (Ot p) 1 (fun _ j=>[(.int .i64 0)].getD j .nilp) (OW p),_,((p.racks.length:Int):Int)=(p.racks.length:Int),_,_,(Ni p).length=(Sw p),aC (Sw p) 2 (fun _ j=>[(.int .i64 0),(.int .i64 0)].getD j .nilp) (UX p)] {an:=[(3, .arr (NR p).length (U4 p)),(7, .arr (JJ p).length (OW p)),(11, .arr (Ni p).length (UX p))],fr:=[(3,80),(7,81),(11,82),(13,83)] } [] ⟨a1,rfl,a2,a3,(List.length_replicate),(dO _ _ _ _ _ (fun j hj=>(match j,hj with|0,_=>rfl))),a4,rfl,a5,a6,(List.length_replicate),(dO _ _ _ _ _ (fun j hj=>(match j,hj with|0,_=>rfl))),a7,rfl,a8,a9,(List.length_replicate),(dO _ _ _ _ _ (fun j hj=>(match j,hj with|0,_=>rfl|1,_=>rfl))),trivial⟩ ?_
  refine sz tT ⟨(Qb p),(aaV p s_)⟩ {an:=[(0, .map 0 (yT (au .i64) ([]:(List (Int × Int)))) (yS (au .i64) ([]:(List (Int × Int)))) []),(1, .map 0 (yT (au .i64) ([]:(List (Int × Int)))) (yS (au .i64) ([]:(List (Int × Int)))) []),(2, .map 0 (yT af.cell ([]:(List (af × Int)))) (yS (au .i64) ([]:(List (af × Int)))) [])],fr:=[(0,84),(1,85),(2,86)] } [] ?_
  refine aQ (sz tT ⟨[(2,(vP 70 0)),(3,(vP 71 0)),(4,(vP 72 0)),(iN p),(9,(vP 78 0)),(10,(vP 83 0)),kQ,jN,iX,(Bu p),(Bg p),(68,(vI 0))],(aaV p s_)⟩ {} [] ?_)
  refine bE h fun y hy h=> ?_
  refine aL [] (vw p s_) (wS p s_) (gm s_) hy (fun s f h=> ?_) ?_
  ·clear hy
   show bL _ _ _ _ _ _ ((Em p s_) f) _
   unfold iM at h
   obtain⟨n0,n1,v9,u9⟩:=s
   refine sz tT ⟨[(2,(vP 70 0)),(3,(vP 71 0)),(4,(vP 72 0)),(iN p),(9,(vP 78 0)),(10,(vP 83 0)),kQ,jN,iX,(Bu p),(Bg p),(68,(vI u9)),(69,(vB (decide (u9<(p.sources.length:Int)))))],(M0 p s_ n1 n0 v9)⟩ {} [] ?_
   refine aQ ?_
   refine bI h (fun hb1 h=> ?_) (fun hb1 h=> ?_)
   ·refine ct hb1 ?_
    refine aP (aQ (aB (aQ (aO h fun a1 h=> ?_))))
    refine rg tT ⟨[(2,(vP 70 0)),(3,(vP 71 0)),(4,(vP 72 0)),(iN p),(9,(vP 78 0)),(10,(vP 83 0)),kQ,jN,iX,(14,(vI u9)),(Va p u9),(Bu p),(Bg p),(68,(vI u9))],(M0 p s_ n1 n0 v9)⟩ [_] {fr:=[(3,93)] } [93] ⟨a1,trivial⟩ ?_
    refine aQ (bE h fun uc hr_1 h=> ?_)
    refine rg tT ⟨[(2,(vP 70 0)),(3,(vP 71 0)),(4,(vP 72 0)),(iN p),(9,(vP 78 0)),(10,(vP 83 0)),kQ,jN,iX,(14,(vI u9)),(Va p u9),(Bu p),(Bg p),(68,(vI u9)),(76,(vB uc))],(M0 p s_ n1 n0 v9)⟩ [Fn Try.prog 65 [(.agg (k5 p)),(.agg (QS s_)),(sI u9)] (GD s_) (vB uc) (GD s_)] {an:=[(3, .callR [0,1,2,3,4,5,6] (vB uc))] } [] ⟨(Fn.rY (frz:=[0,1,2,3,4,5,6]) (p:=[s_.closed.length=s_.closed.length,s_.locked.length=s_.locked.length,s_.badLink.length=s_.badLink.length,s_.on_.length=s_.on_.length,s_.badSource.length=s_.badSource.length,s_.earthed.length=s_.earthed.length,s_.badBus.length=s_.badBus.length]) (fF p s_ u9 hr_1) (by kernel_rfl) ⟨rfl,rfl,rfl,rfl,rfl,rfl,rfl,trivial⟩ rfl),trivial⟩ ?_
    refine bI h (fun hb h=> ?_) (fun hb h=> ?_)
    ·refine ct hb ?_
     refine bE h fun v4 hr_2 h=> ?_
     have q0:=rk [(0,78),(1,79),(2,77),(3,94)] (bG 0 (aed p u9) ((at' p.sources u9.toNat).power) 0 (⟨n0,n1⟩:Network) hr_2)
     refine rg tT ⟨(abj p u9),(abV p s_ v4 u9 v9)⟩ [_,mI [some .i64] 1 1 v9.length (yT (au .i64) v9) (yS (au .i64) v9) [(.int .i64 u9)] [(cI v4.1)] [] (gN Ff u9 v4.1 v9).length (IX u9 v4 v9) (I9 u9 v4 v9)] {an:=[(8,cA q0 [78,79,77]),(9, .map (gN Ff u9 v4.1 v9).length (IX u9 v4 v9) (I9 u9 v4 v9) [])] } [] ⟨q0,(qm (fun _=>rfl) (fun _ _=>rfl) v9 u9 v4.1 rfl rfl),trivial⟩ ?_
     refine ri tT ⟨(XI p u9),(abV p s_ v4 u9 v9)⟩ [] {} [] trivial (bB.fin (st':=⟨(XI p u9),[(dw s_),(cK s_),(dz s_),(dm s_),(cO s_),(cu s_),(dh s_),(D6 p),(nV s_),d9,(II v4),(aa5 v4),(79,some (yE v4)),(QJ p),(Fw p),(Ea p),(Q5 p),(84,some (Jq u9 v4 v9)),Qf,F7]⟩) (cs:=[]) ⟨[],[(0,0),(1,1),(2,2),(3,3),(4,4),(5,5),(6,6),(70,70),(71,71),(72,72),(77,77),(78,78),(94,79),(80,80),(81,81),(82,82),(83,83),(84,84),(85,85),(86,86)]⟩ [2,3,4,8,9,10,11,12,13,66,67,68] (by kernel_rfl) trivial) ?_
     obtain rfl:=oi h
     exact lN
    ·refine cf hb ?_
     refine aP (rz tT ⟨(XI p u9),(M0 p s_ n1 n0 v9)⟩ {} [] ?_)
     obtain rfl:=oi h
     exact lN
   ·refine cf hb1 ?_
    refine aI (fz ⟨(Qb p),(M0 p s_ n1 n0 v9)⟩ []) ?_
    refine aX ?_
    obtain rfl:=oi h
    exact lB
  ·clear hy
   cases y with
   |brk z=>
    obtain⟨p1,ui,ud,x0,u4⟩:=z
    unfold fZ
    refine⟨_, .refl, ?_⟩
    refine aQ (sz tT ⟨[(2,(vP 70 0)),(3,(vP 71 0)),(4,(vP 72 0)),(iN p),(9,(vP 78 0)),(10,(vP 83 0)),kQ,jN,iX,(Bn p),(Bo p),(90,(vI 0))],(aaS p p1 x0 s_ ud ui u4)⟩ {} [] ?_)
    refine bE h fun y1 hy h=> ?_
    refine aL [] (vo p s_ p1 x0 u4) (wu p s_ p1 x0 u4) (gm s_) hy (fun s f h=> ?_) ?_
    ·clear hy
     show bL _ _ _ _ _ _ ((Er p s_ p1 x0 u4) f) _
     unfold iG at h
     obtain⟨w7,w3,w0,u7⟩:=s
     refine sz tT ⟨[(2,(vP 70 0)),(3,(vP 71 0)),(4,(vP 72 0)),(iN p),(9,(vP 78 0)),(10,(vP 83 0)),kQ,jN,iX,(Bn p),(Bo p),(90,(vI u7)),(91,(vB (decide (u7<(p.links.length:Int)))))],(MR p w0 s_ p1 w3 w7 x0 u4)⟩ {} [] ?_
     refine aQ ?_
     refine bI h (fun hb3 h=> ?_) (fun hb3 h=> ?_)
     ·refine ct hb3 ?_
      refine aP (aQ (aB (aQ (aO h fun a1 h=> ?_))))
      refine rg tT ⟨[(2,(vP 70 0)),(3,(vP 71 0)),(4,(vP 72 0)),(iN p),(9,(vP 78 0)),(10,(vP 83 0)),kQ,jN,iX,(16,(vI u7)),(VJ p u7),(Bn p),(Bo p),(90,(vI u7))],(MR p w0 s_ p1 w3 w7 x0 u4)⟩ [_] {fr:=[(3,101)] } [101] ⟨a1,trivial⟩ ?_
      refine aQ (bE h fun ue hr_3 h=> ?_)
      refine rg tT ⟨[(2,(vP 70 0)),(3,(vP 71 0)),(4,(vP 72 0)),(iN p),(9,(vP 78 0)),(10,(vP 83 0)),kQ,jN,iX,(16,(vI u7)),(VJ p u7),(Bn p),(Bo p),(90,(vI u7)),(98,(vB ue))],(MR p w0 s_ p1 w3 w7 x0 u4)⟩ [Fn Try.prog 78 [(.agg (ahH p p1)),(.agg (QS s_)),(sI u7)] (GD s_) (vB ue) (GD s_)] {an:=[(3, .callR [0,1,2,3,4,5,6] (vB ue))] } [] ⟨(Fn.rY (frz:=[0,1,2,3,4,5,6]) (p:=[s_.closed.length=s_.closed.length,s_.locked.length=s_.locked.length,s_.badLink.length=s_.badLink.length,s_.on_.length=s_.on_.length,s_.badSource.length=s_.badSource.length,s_.earthed.length=s_.earthed.length,s_.badBus.length=s_.badBus.length]) (dP (⟨p.buses,p1,p.links,p.racks⟩:ai) s_ u7 hr_3) (by kernel_rfl) ⟨rfl,rfl,rfl,rfl,rfl,rfl,rfl,trivial⟩ rfl),trivial⟩ ?_
      refine bI h (fun hb2 h=> ?_) (fun hb2 h=> ?_)
      ·refine ct hb2 ?_
       refine bE h fun v5 hr_4 h=> ?_
       have q0:=rk [(0,78),(1,79),(2,77),(3,102)] (bG (acr p u7) (adp p u7) (NG p u7) (NG p u7) (⟨w7,w3⟩:Network) hr_4)
       refine rg tT ⟨(abQ p u7),(abU p s_ p1 v5 x0 u4 u7 w0)⟩ [_,mI [some .i64] 1 1 w0.length (yT (au .i64) w0) (yS (au .i64) w0) [(.int .i64 u7)] [(cI v5.1)] [] (gN Ff u7 v5.1 w0).length (IX u7 v5 w0) (I9 u7 v5 w0)] {an:=[(13,cA q0 [78,79,77]),(14, .map (gN Ff u7 v5.1 w0).length (IX u7 v5 w0) (I9 u7 v5 w0) [])] } [] ⟨q0,(qm (fun _=>rfl) (fun _ _=>rfl) w0 u7 v5.1 rfl rfl),trivial⟩ ?_
       refine ri tT ⟨(XA p u7),(abU p s_ p1 v5 x0 u4 u7 w0)⟩ [] {} [] trivial (bB.fin (st':=⟨(XA p u7),[(dw s_),(cK s_),(dz s_),(dm s_),(cO s_),(cu s_),(dh s_),(TK p p1),(nV s_),d9,(II v5),(aa5 v5),(79,some (yE v5)),(gX x0),(Fw p),(Ea p),(TL p x0),(tN u4),(85,some (Jq u7 v5 w0)),F7]⟩) (cs:=[]) ⟨[],[(0,0),(1,1),(2,2),(3,3),(4,4),(5,5),(6,6),(70,70),(71,71),(72,72),(77,77),(78,78),(102,79),(80,80),(81,81),(82,82),(83,83),(84,84),(85,85),(86,86)]⟩ [2,3,4,8,9,10,11,12,13,88,89,90] (by kernel_rfl) trivial) ?_
       obtain rfl:=oi h
       exact lN
      ·refine cf hb2 ?_
       refine aP (rz tT ⟨(XA p u7),(MR p w0 s_ p1 w3 w7 x0 u4)⟩ {} [] ?_)
       obtain rfl:=oi h
       exact lN
     ·refine cf hb3 ?_
      refine aI (fz ⟨(Qb p),(MR p w0 s_ p1 w3 w7 x0 u4)⟩ []) ?_
      refine aX ?_
      obtain rfl:=oi h
      exact lB
    ·clear hy
     cases y1 with
     |brk z=>
      obtain⟨p2,uj,uf,x1,u5⟩:=z
      unfold fZ
      refine⟨_, .refl, ?_⟩
      refine aQ (sz tT ⟨[(2,(vP 70 0)),(3,(vP 71 0)),(4,(vP 72 0)),(iN p),(9,(vP 78 0)),(10,(vP 83 0)),kQ,jN,iX,(115,(vD (k6 p))),(116,(vI (p.racks.length:Int))),(117,(vI 0))],(abE x1 s_ p p1 p2 uf uj x0 u4 u5)⟩ {} [] ?_)
      refine bE h fun y3 hy h=> ?_
      refine aL [] (vH p s_ p1 x0 u4 p2 x1 u5) (wB p s_ p1 x0 u4 p2 x1 u5) (gm s_) hy (fun s f h=> ?_) ?_
      ·clear hy
       show bL _ _ _ _ _ _ ((oI p s_ p1 x0 u4 p2 x1 u5) f) _
       unfold iF at h
       obtain⟨p3,v7,x7,x3,x2,x9,u2,w1,u0⟩:=s
       refine sz tT ⟨[(2,(vP 70 0)),(3,(vP 71 0)),(4,(vP 72 0)),(8,(vI v7)),(9,(vP 78 0)),(10,(vP 83 0)),kQ,jN,iX,(pu u2),(116,(vI w1)),(117,(vI u0)),(118,(vB (decide (u0<w1))))],(T9 p p1 p2 p3 x2 x0 x1 x9 s_ x3 x7 u4 u5)⟩ {} [] ?_
       refine aQ ?_
       refine bI h (fun hb6 h=> ?_) (fun hb6 h=> ?_)
       ·refine ct hb6 ?_
        refine aP (aQ (aB (aQ (aO h fun a1 h=> ?_))))
        refine rg tT ⟨(abD v7 u0 u2 w1),(T9 p p1 p2 p3 x2 x0 x1 x9 s_ x3 x7 u4 u5)⟩ [_] {fr:=[(3,121)] } [121] ⟨a1,trivial⟩ ?_
        refine aQ (bE h fun x4 hr_5 h=> ?_)
        have q0:=rk [(0,78),(1,79),(2,77),(3,122)] (bG (VQ p u0) v7 (Ld u2 u0) 0 (⟨x7,x3⟩:Network) hr_5)
        refine rg tT ⟨(abD v7 u0 u2 w1),(aaU p s_ p1 x0 u4 x4 p2 p3 x1 x2 u5 x9)⟩ [_] {an:=[(9,cA q0 [78,79,77])] } [] ⟨q0,trivial⟩ ?_
        refine sz tT ⟨[(2,(vP 70 0)),(3,(vP 71 0)),(4,(vP 72 0)),(8,(vI v7)),(9,(vP 78 0)),(10,(vP 83 0)),kQ,jN,iX,(18,(vI u0)),(yB u2 u0),(pu u2),(116,(vI w1)),(117,(vI u0)),(Bz u2 u0),(134,(vI 0))],(aaU p s_ p1 x0 u4 x4 p2 p3 x1 x2 u5 x9)⟩ {} [] ?_
        refine bE h fun y2 hy h=> ?_
        refine aL [5] (wJ p s_ p1 x0 u4 p2 x1 u5 p3 v7 x2 u2 w1 u0) (wQ p s_ p1 x0 u4 p2 x1 u5 p3 v7 x2 u2 w1 u0) (oI p s_ p1 x0 u4 p2 x1 u5) hy (fun s f h=> ?_) ?_
        ·clear hy
         show bL _ _ _ _ _ _ ((El p s_ p1 x0 u4 p2 x1 u5 p3 v7 x2 u2 w1 u0) f) _
         unfold fG at h
         obtain⟨w8,w4,w2,v3⟩:=s
         refine sz tT ⟨[(2,(vP 70 0)),(3,(vP 71 0)),(4,(vP 72 0)),(8,(vI v7)),(9,(vP 78 0)),(10,(vP 83 0)),kQ,jN,iX,(18,(vI u0)),(yB u2 u0),(pu u2),(116,(vI w1)),(117,(vI u0)),(Bz u2 u0),(134,(vI v3)),(135,(vB (decide (v3<2))))],(K6 s_ p p1 p2 p3 w4 w8 x0 x1 x2 u4 u5 w2)⟩ {} [] ?_
         refine aQ ?_
         refine bI h (fun hb5 h=> ?_) (fun hb5 h=> ?_)
         ·refine ct hb5 ?_
          refine aP (aQ (aB (aQ (aO h fun a1 h=> ?_))))
          refine rg tT ⟨[(2,(vP 70 0)),(3,(vP 71 0)),(4,(vP 72 0)),(8,(vI v7)),(9,(vP 78 0)),(10,(vP 83 0)),kQ,jN,iX,(18,(vI u0)),(yB u2 u0),(20,(vI v3)),(UF u0 u2 v3),(pu u2),(116,(vI w1)),(117,(vI u0)),(Bz u2 u0),(134,(vI v3))],(K6 s_ p p1 p2 p3 w4 w8 x0 x1 x2 u4 u5 w2)⟩ [_,v3.toNat*1+1≤(SF u2 u0).length,((SF u2 u0).drop (v3.toNat*1)).take 1=(V5 u0 u2 v3).map .d] {an:=[(1, .vals (V5 u0 u2 v3))] } [] ⟨a1,(Vz (n:=2) (sz:=1) (Nat.le_refl _) a1),(VZ (n:=2) (sz:=1) (g:=fun q=>[(cI (at' [(Ko u2 u0).e0,(Ko u2 u0).e1] q))]) (by intro q hq;match q,hq with|0,_=>rfl|1,_=>rfl) a1),trivial⟩ ?_
          refine aQ (bE h fun ug hr_6 h=> ?_)
          refine rg tT ⟨[(2,(vP 70 0)),(3,(vP 71 0)),(4,(vP 72 0)),(8,(vI v7)),(9,(vP 78 0)),(10,(vP 83 0)),kQ,jN,iX,(18,(vI u0)),(yB u2 u0),(20,(vI v3)),(UF u0 u2 v3),(pu u2),(116,(vI w1)),(117,(vI u0)),(Bz u2 u0),(134,(vI v3)),(140,(vB ug))],(K6 s_ p p1 p2 p3 w4 w8 x0 x1 x2 u4 u5 w2)⟩ [Fn Try.prog 79 [(.agg (QS s_)),(sI (Tc u0 u2 v3))] (GD s_) (vB ug) (GD s_)] {an:=[(2, .callR [0,1,2,3,4,5,6] (vB ug))] } [] ⟨(Fn.rY (frz:=[0,1,2,3,4,5,6]) (p:=[s_.closed.length=s_.closed.length,s_.locked.length=s_.locked.length,s_.badLink.length=s_.badLink.length,s_.on_.length=s_.on_.length,s_.badSource.length=s_.badSource.length,s_.earthed.length=s_.earthed.length,s_.badBus.length=s_.badBus.length]) (jR s_ (Tc u0 u2 v3) hr_6) (by kernel_rfl) ⟨rfl,rfl,rfl,rfl,rfl,rfl,rfl,trivial⟩ rfl),trivial⟩ ?_
          refine bI h (fun hb4 h=> ?_) (fun hb4 h=> ?_)
          ·refine ct hb4 ?_
           refine bE h fun v6 hr_7 h=> ?_
           have q0:=rk [(0,78),(1,122),(2,77),(3,126)] (bG (ac0 u0 u2 v3) (VQ p u0) (Ld u2 u0) 0 (⟨w8,w4⟩:Network) hr_7)
           refine rg tT ⟨(abz v7 u0 u2 w1 v3),[(dw s_),(cK s_),(dz s_),(dm s_),(cO s_),(cu s_),(dh s_),(iD p p1 p2 p3),(nV s_),d9,(II v6),(abd v6),(gX x0),(iZ x1),(jK x2),(jX x2 x0 x1),(tN u4),(tH u5),(86,some (TR 164 3 true false 2 1 af.cell (au .i64) (gN (fun a b=>(decide (a.e0=b.e0) && (decide (a.e1=b.e1) && true))) (⟨u0,v3⟩:af) v6.1 w2))),(126,some (yE v6))]⟩ [_,mI [some .i64,some .i64] 2 1 w2.length (yT af.cell w2) (yS (au .i64) w2) [(.int .i64 u0),(.int .i64 v3)] [(cI v6.1)] [] (gN (fun a b=>(decide (a.e0=b.e0) && (decide (a.e1=b.e1) && true))) (⟨u0,v3⟩:af) v6.1 w2).length (yT af.cell (gN (fun a b=>(decide (a.e0=b.e0) && (decide (a.e1=b.e1) && true))) (⟨u0,v3⟩:af) v6.1 w2)) (yS (au .i64) (gN (fun a b=>(decide (a.e0=b.e0) && (decide (a.e1=b.e1) && true))) (⟨u0,v3⟩:af) v6.1 w2))] {an:=[(14,cA q0 [78,122,77]),(15, .map (gN (fun a b=>(decide (a.e0=b.e0) && (decide (a.e1=b.e1) && true))) (⟨u0,v3⟩:af) v6.1 w2).length (yT af.cell (gN (fun a b=>(decide (a.e0=b.e0) && (decide (a.e1=b.e1) && true))) (⟨u0,v3⟩:af) v6.1 w2)) (yS (au .i64) (gN (fun a b=>(decide (a.e0=b.e0) && (decide (a.e1=b.e1) && true))) (⟨u0,v3⟩:af) v6.1 w2)) [])] } [] ⟨q0,(qm (fun _=>rfl) (fun _ _=>rfl) w2 (⟨u0,v3⟩:af) v6.1 rfl rfl),trivial⟩ ?_
           refine ri tT ⟨(YQ v7 u0 u2 w1 v3),[(dw s_),(cK s_),(dz s_),(dm s_),(cO s_),(cu s_),(dh s_),(iD p p1 p2 p3),(nV s_),d9,(II v6),(abd v6),(gX x0),(iZ x1),(jK x2),(jX x2 x0 x1),(tN u4),(tH u5),(86,some (TR 164 3 true false 2 1 af.cell (au .i64) (gN (fun a b=>(decide (a.e0=b.e0) && (decide (a.e1=b.e1) && true))) (⟨u0,v3⟩:af) v6.1 w2))),(126,some (yE v6))]⟩ [] {} [] trivial (bB.fin (st':=⟨(YQ v7 u0 u2 w1 v3),[(dw s_),(cK s_),(dz s_),(dm s_),(cO s_),(cu s_),(dh s_),(iD p p1 p2 p3),(nV s_),d9,(II v6),(aa9 v6),(gX x0),(iZ x1),(jK x2),(jX x2 x0 x1),(tN u4),(tH u5),(86,some (TR 164 3 true false 2 1 af.cell (au .i64) (gN (fun a b=>(decide (a.e0=b.e0) && (decide (a.e1=b.e1) && true))) (⟨u0,v3⟩:af) v6.1 w2))),(122,some (yE v6))]⟩) (cs:=[]) ⟨[],[(0,0),(1,1),(2,2),(3,3),(4,4),(5,5),(6,6),(70,70),(71,71),(72,72),(77,77),(78,78),(80,80),(81,81),(82,82),(83,83),(84,84),(85,85),(86,86),(126,122)]⟩ [2,3,4,8,9,10,11,12,13,18,19,115,116,117,133,134] (by kernel_rfl) trivial) ?_
           obtain rfl:=oi h
           exact lN
          ·refine cf hb4 ?_
           refine aP (rz tT ⟨(YQ v7 u0 u2 w1 v3),(K6 s_ p p1 p2 p3 w4 w8 x0 x1 x2 u4 u5 w2)⟩ {} [] ?_)
           obtain rfl:=oi h
           exact lN
         ·refine cf hb5 ?_
          refine aI (fz (abx v7 u2 w1 u0 s_ p p1 p2 p3 w4 w8 x0 x1 x2 u4 u5 w2) []) ?_
          refine aX ?_
          obtain rfl:=oi h
          exact lB
        ·clear hy
         cases y2 with
         |brk z=>
          obtain⟨ub,x8,ul⟩:=z
          unfold fZ
          refine⟨_, .refl, ?_⟩
          refine ri tT ⟨(abk v7 u0 u2 w1),(K6 s_ p p1 p2 p3 x8 ub x0 x1 x2 u4 u5 ul)⟩ [] {} [] trivial (bB.fin (st':=⟨(abk v7 u0 u2 w1),(T9 p p1 p2 p3 x2 x0 x1 ul s_ x8 ub u4 u5)⟩) (cs:=[]) ⟨[],[(0,0),(1,1),(2,2),(3,3),(4,4),(5,5),(6,6),(70,70),(71,71),(72,72),(77,77),(78,78),(122,79),(80,80),(81,81),(82,82),(83,83),(84,84),(85,85),(86,86)]⟩ [2,3,4,8,9,10,11,12,13,115,116,117] (by kernel_rfl) trivial) ?_
          obtain rfl:=oi h
          exact lN
         |ret v=>
          obtain rfl:=oi h
          unfold fZ
          intro e st hn ha hR
          cases e with
          |normal=>exact absurd rfl hn
          |exit id=>simp only [rF (b:=5) ha rfl,cond_false];exact hR
          |goto l=>exact hR
          |ret=>exact hR
          |panic c=>exact hR
          |outgrown=>exact hR
       ·refine cf hb6 ?_
        refine aI (fz (abM v7 s_ p p1 p2 p3 x3 x7 x0 x1 x2 u4 u5 x9) []) ?_
        refine aX ?_
        obtain rfl:=oi h
        exact lB
      ·clear hy
       cases y3 with
       |brk z=>
        obtain⟨v1,ua,x5,x6,v2,u3⟩:=z
        unfold fZ
        refine⟨_, .refl, ?_⟩
        refine aQ (aI (.trans (fi ⟨(XM ua),[(dw s_),(cK s_),(dz s_),(dm s_),(cO s_),(cu s_),(dh s_),(iD p p1 p2 v1),d9,(78,some (.cells 161 [(.own 79 false x5.length),(.d (.sl (some true) 1 x6.length (fun i j=>evD (uS oZ x6 i j))))])),(Eg x5),(gX x0),(iZ x1),(jK v2),(jX v2 x0 x1),(tN u4),(tH u5),(wO u3)]⟩ [x6.length=x6.length] [77] ⟨rfl,trivial⟩) (bB.le (st':=⟨(XM ua),[(dw s_),(cK s_),(dz s_),(dm s_),(cO s_),(cu s_),(dh s_),(iD p p1 p2 v1),d9,(aa1 x5 x6),(Eg x5),(gX x0),(iZ x1),(jK v2),(jX v2 x0 x1),(tN u4),(tH u5),(wO u3)]⟩) ⟨⟨tR,tR,tR,tR,tR,tR,tR,tR,trivial⟩,(hN 9 ⟨rfl,aJ ⟨bR.refl _,bR.d (dX.sl (.inr rfl) (fun i _ j hj=>match j,hj with|0,_=> .refl _)),trivial⟩,(.refl _)⟩)⟩)) ?_)
        refine bE h fun u1 hr_8 h=> ?_
        refine rg tT ⟨[(2,(vP 70 0)),(4,(vP 72 0)),(9,(vP 78 0)),(10,(vP 83 0)),kQ,jN,iX],[(dw s_),(cK s_),(dz s_),(dm s_),(cO s_),(cu s_),(dh s_),(iD p p1 p2 v1),d9,(o9 u1),(oV u1),(gX x0),(iZ x1),(jK v2),(jX v2 x0 x1),(tN u4),(tH u5),(wO u3)]⟩ [Fn Try.prog 80 [(.one (.ptr 78 0)),(sI ua)] [(aa1 x5 x6),(Eg x5)] (.iC []) (aaW u1)] {an:=[(2, .call [78,79] (.iC []) (aaW u1))] } [] ⟨(Fn.leH (args:=[(.one (.ptr 78 0)),(sI ua)]) (hin:=[(78,some (.cells 161 [(.own 79 false x5.length),(.d (OU x6))])),(Eg x5)]) (rK [(0,78),(1,79)] (kW ua (⟨x5,x6⟩:Network) hr_8)) ⟨eO.refl _,eO.refl _,trivial⟩ ⟨rfl,aJ ⟨bR.refl _,bR.d dX.nL,trivial⟩,(.refl _)⟩),trivial⟩ ?_
        refine aQ (bE h fun y4 hy h=> ?_)
        refine iU (ET p s_ p1 p2 x1 u5 v1 v2 u3 u1) (K:=3) (V:=3) (s0:=(x0)) ⟨3,3,false,false,1,1,u4.length,yT (au .i64) u4,yS (au .i64) u4,[]⟩ 84 127 (fun i=>(sI (Cn u4 i))) (fun i=>(sI (FR u4 i))) hy [3,4] (by kernel_rfl) (by kernel_rfl) (by kernel_rfl) (fun _ _=> ⟨rfl,rfl⟩) (fun _ _=> ⟨kT _ _,kT _ _⟩) (fun _=>(bB.fin (st':=(abS u1 s_ p p1 p2 v1 x0 x1 v2 u5 u3)) (cs:=[]) ⟨[],[(0,0),(1,1),(2,2),(3,3),(4,4),(5,5),(6,6),(70,70),(72,72),(78,78),(79,79),(80,80),(81,81),(82,82),(83,83),(85,85),(86,86),(127,127)]⟩ [2,4,9,10,12,13,162] (by kernel_rfl) trivial)) (fun s=>by obtain⟨w5,rfl⟩: ∃q,q=s:=⟨_,rfl⟩;kernel_rfl) (fun B s i s' hi h=> ?_) ?_
        ·clear hy
         unfold jJ at h
         obtain⟨w5,rfl⟩: ∃q,q=s:=⟨_,rfl⟩
         refine Y5 tT (⟨[(2,(vP 70 0)),(4,(vP 72 0)),(9,(vP 78 0)),(10,(vP 83 0)),jN,iX,(22,(vI (Cn u4 i))),(23,(vI (FR u4 i))),(162,(vP 127 0))],(abf u1 s_ p p1 p2 v1 w5 x1 v2 u5 u3)⟩) {fin:=⟨[],[(0,0),(1,1),(2,2),(3,3),(4,4),(5,5),(6,6),(70,70),(72,72),(78,78),(79,79),(80,80),(81,81),(82,82),(83,83),(85,85),(86,86),(127,127)]⟩,ts:=[2,4,9,10,12,13,22,23,162] } (cs:=[]) (by kernel_rfl) trivial .refl ?_
         refine aO h fun⟨a1,a2⟩ h=> ?_
         refine di tT mX ⟨WI,[(dw s_),(cK s_),(dz s_),(dm s_),(cO s_),(cu s_),(dh s_),(iD p p1 p2 v1),d9,(o9 u1),(oV u1),(80,some (.arr 3 1 w5.length (Nv u4 u1 i w5))),(iZ x1),(jK v2),(jX v2 w5 x1),(tH u5),(wO u3),(127,none)]⟩ [_,_,_,_,aC w5.length 1 (aeY u4 u1 i w5) (Nv u4 u1 i w5)] {an:=[(13, .arr 0 (Nv u4 u1 i w5))] } [] ⟨a1,(tL a1),a2,(tL a2),(aW _ _ _ _ _ _ _ _ rfl (fun j hj=>(match j,hj with|0,_=>rfl))),trivial⟩ (bB.le (st':=⟨WI,[(dw s_),(cK s_),(dz s_),(dm s_),(cO s_),(cu s_),(dh s_),(iD p p1 p2 v1),d9,(o9 u1),(oV u1),(80,some (abX u4 u1 i w5)),(iZ x1),(jK v2),(83,some (.cells 77 [(.own 80 true (adk u4 u1 i w5)),(.own 81 true x1.length),(.own 82 true v2.length)])),(tH u5),(wO u3),(127,none)]⟩) ⟨⟨tR,tR,tR,tR,tR,tR,tR,trivial⟩,(hN 11 ⟨rfl,oW,(hN 2 ⟨rfl,aJ ⟨cW,bR.refl _,bR.refl _,trivial⟩,(.refl _)⟩)⟩)⟩) ?_
         obtain rfl:=oi h
         exact⟨.inl rfl,by kernel_rfl⟩
        ·clear hy
         obtain⟨u6,rfl⟩: ∃q,q=y4:=⟨_,rfl⟩
         refine aI (fz ⟨[(2,(vP 70 0)),(4,(vP 72 0)),(9,(vP 78 0)),(10,(vP 83 0)),jN,iX],[(dw s_),(cK s_),(dz s_),(dm s_),(cO s_),(cu s_),(dh s_),(iD p p1 p2 v1),d9,(o9 u1),(oV u1),(gX u6),(iZ x1),(jK v2),(jX v2 u6 x1),(tH u5),(wO u3)]⟩ []) ?_
         refine aQ (bE h fun y5 hy h=> ?_)
         refine iU (Eo p s_ p1 p2 v1 v2 u3 u1 u6) (K:=3) (V:=3) (s0:=(x1)) ⟨3,3,false,false,1,1,u5.length,yT (au .i64) u5,yS (au .i64) u5,[]⟩ 85 128 (fun i1=>(sI (Cn u5 i1))) (fun i1=>(sI (FR u5 i1))) hy [3,4] (by kernel_rfl) (by kernel_rfl) (by kernel_rfl) (fun _ _=> ⟨rfl,rfl⟩) (fun _ _=> ⟨kT _ _,kT _ _⟩) (fun _=>(bB.fin (st':=(abt s_ p p1 p2 v1 u1 u6 x1 v2 u3)) (cs:=[]) ⟨[],[(0,0),(1,1),(2,2),(3,3),(4,4),(5,5),(6,6),(70,70),(72,72),(78,78),(79,79),(80,80),(81,81),(82,82),(83,83),(86,86),(128,128)]⟩ [2,4,9,10,13,182] (by kernel_rfl) trivial)) (fun s=>by obtain⟨w6,rfl⟩: ∃q,q=s:=⟨_,rfl⟩;kernel_rfl) (fun B s i1 s' hi h=> ?_) ?_
         ·clear hy
          unfold jI at h
          obtain⟨w6,rfl⟩: ∃q,q=s:=⟨_,rfl⟩
          refine Y5 tT (⟨[(2,(vP 70 0)),(4,(vP 72 0)),(9,(vP 78 0)),(10,(vP 83 0)),iX,(24,(vI (Cn u5 i1))),(25,(vI (FR u5 i1))),(182,(vP 128 0))],(abq s_ p p1 p2 v1 u1 u6 w6 v2 u3)⟩) {fin:=⟨[],[(0,0),(1,1),(2,2),(3,3),(4,4),(5,5),(6,6),(70,70),(72,72),(78,78),(79,79),(80,80),(81,81),(82,82),(83,83),(86,86),(128,128)]⟩,ts:=[2,4,9,10,13,24,25,182] } (cs:=[]) (by kernel_rfl) trivial .refl ?_
          refine aO h fun⟨a1,a2,a3⟩ h=> ?_
          refine di tT mX ⟨Xe,[(dw s_),(cK s_),(dz s_),(dm s_),(cO s_),(cu s_),(dh s_),(iD p p1 p2 v1),d9,(o9 u1),(oV u1),(gX u6),(81,some (.arr 3 1 w6.length (Nc p2 u5 u1 i1 w6))),(jK v2),(jX v2 u6 w6),(wO u3),(128,none)]⟩ [_,_,_,_,_,aC w6.length 1 (ab5 p2 u5 u1 i1 w6) (Nc p2 u5 u1 i1 w6)] {an:=[(19, .arr 0 (Nc p2 u5 u1 i1 w6))] } [] ⟨a1,a2,(tL a2),a3,(tL a3),(aW _ _ _ _ _ _ _ _ rfl (fun j hj=>(match j,hj with|0,_=>rfl))),trivial⟩ (bB.le (st':=⟨Xe,[(dw s_),(cK s_),(dz s_),(dm s_),(cO s_),(cu s_),(dh s_),(iD p p1 p2 v1),d9,(o9 u1),(oV u1),(gX u6),(81,some (acD p2 u5 u1 i1 w6)),(jK v2),(83,some (.cells 77 [(.own 80 true u6.length),(.own 81 true (acO p2 u5 u1 i1 w6)),(.own 82 true v2.length)])),(wO u3),(128,none)]⟩) ⟨⟨tR,tR,tR,tR,tR,tR,trivial⟩,(hN 12 ⟨rfl,oW,⟨rfl, .refl _,⟨rfl,aJ ⟨bR.refl _,cW,bR.refl _,trivial⟩,⟨rfl, .refl _,⟨rfl, .refl _,trivial⟩⟩⟩⟩⟩)⟩) ?_
          obtain rfl:=oi h
          exact⟨.inl rfl,by kernel_rfl⟩
         ·clear hy
          obtain⟨u8,rfl⟩: ∃q,q=y5:=⟨_,rfl⟩
          refine aI (fz ⟨[(2,(vP 70 0)),(4,(vP 72 0)),(9,(vP 78 0)),(10,(vP 83 0)),iX],[(dw s_),(cK s_),(dz s_),(dm s_),(cO s_),(cu s_),(dh s_),(iD p p1 p2 v1),d9,(o9 u1),(oV u1),(gX u6),(iZ u8),(jK v2),(jX v2 u6 u8),(wO u3)]⟩ []) ?_
          refine aQ (bE h fun y6 hy h=> ?_)
          refine iU (EQ p s_ p1 p2 v1 u1 u6 u8) (K:=164) (V:=3) (s0:=(v2)) ⟨164,3,true,false,2,1,u3.length,yT af.cell u3,yS (au .i64) u3,[]⟩ 86 129 (fun i2=>(.agg (aaM u3 i2))) (fun i2=>(sI (at' (u3.map Prod.snd) i2))) hy [3,4,5] (by kernel_rfl) (by kernel_rfl) (by kernel_rfl) (fun _ _=> ⟨rfl,rfl⟩) (fun _ _=> ⟨Ow rfl,kT _ _⟩) (fun _=>(bB.fin (st':=(abJ s_ p p1 p2 v1 u1 u6 u8 v2)) (cs:=[]) ⟨[],[(0,0),(1,1),(2,2),(3,3),(4,4),(5,5),(6,6),(70,70),(72,72),(78,78),(79,79),(80,80),(81,81),(82,82),(83,83),(129,129)]⟩ [2,4,9,10,208] (by kernel_rfl) trivial)) (fun s=>by obtain⟨v0,rfl⟩: ∃q,q=s:=⟨_,rfl⟩;kernel_rfl) (fun B s i2 s' hi h=> ?_) ?_
          ·clear hy
           unfold jH at h
           obtain⟨v0,rfl⟩: ∃q,q=s:=⟨_,rfl⟩
           refine Y5 tT (⟨(XY u3 i2),[(dw s_),(cK s_),(dz s_),(dm s_),(cO s_),(cu s_),(dh s_),(iD p p1 p2 v1),d9,(o9 u1),(oV u1),(gX u6),(iZ u8),(jK v0),(jX v0 u6 u8),(129,none),(132,some (ac8 u3 i2))]⟩) {fr:=frf [(3,132)],fin:=⟨[],[(0,0),(1,1),(2,2),(3,3),(4,4),(5,5),(6,6),(70,70),(72,72),(78,78),(79,79),(80,80),(81,81),(82,82),(83,83),(129,129),(132,132)]⟩,ts:=[2,4,9,10,26,27,208] } (cs:=[]) (by kernel_rfl) trivial .refl ?_
           refine bI h (fun hb7 h=> ?_) (fun _ h=> ?_)
           ·skip
            refine aI (bB.le (st':=⟨(XY u3 i2),[(dw s_),(cK s_),(dz s_),(dm s_),(cO s_),(cu s_),(dh s_),(iD p p1 p2 v1),d9,(o9 u1),(oV u1),(gX u6),(iZ u8),(jK v0),(jX v0 u6 u8),(129,none),(132,some (adH u3 i2))]⟩) ⟨⟨tR,tR,tR,tR,tR,tR,tR,trivial⟩,(hN 16 ⟨rfl,aJ ⟨bR.refl _,bR.of (congrArg (fun n=>CV.d (.int .i64 n)) (of_decide_eq_true hb7)),trivial⟩,trivial⟩)⟩) ?_
            refine aO h fun⟨a1,a2⟩ h=> ?_
            refine di tT mX ⟨PV,[(dw s_),(cK s_),(dz s_),(dm s_),(cO s_),(cu s_),(dh s_),(iD p p1 p2 v1),d9,(o9 u1),(oV u1),(gX u6),(iZ u8),(82,some (.arr 164 2 v0.length (NP u1 u3 i2 v0))),(jX v0 u6 u8),(129,none)]⟩ [(0:Int)≤0∧(0:Int)<(2:Nat),(0:Int)≤1∧(1:Int)<(2:Nat),_,_,_,(0:Int)≤0∧(0:Int)<(2:Nat),_,aC v0.length 2 (acy u1 u3 i2 v0) (NP u1 u3 i2 v0)] {an:=[(17, .arr 0 (NP u1 u3 i2 v0))] } [] ⟨((by decide)),((by decide)),a1,(tL a1),a2,((by decide)),(tL a2),(aW _ _ _ _ _ _ _ _ rfl (fun j hj=>(match j,hj with|0,_=>rfl|1,_=>rfl))),trivial⟩ (bB.le (st':=⟨PV,[(dw s_),(cK s_),(dz s_),(dm s_),(cO s_),(cu s_),(dh s_),(iD p p1 p2 v1),d9,(o9 u1),(oV u1),(gX u6),(iZ u8),(82,some (acU u1 u3 i2 v0)),(83,some (.cells 77 [(.own 80 true u6.length),(.own 81 true u8.length),(.own 82 true (aeN u1 u3 i2 v0))])),(129,none)]⟩) ⟨⟨tR,tR,tR,tR,tR,trivial⟩,(hN 13 ⟨rfl,oW,⟨rfl,aJ ⟨bR.refl _,bR.refl _,cW,trivial⟩,(.refl _)⟩⟩)⟩) ?_
            obtain rfl:=oi h
            exact⟨.inl rfl,by kernel_rfl⟩
           ·skip
            refine aO h fun a1 h=> ?_
            refine aI (bB.le (st':=⟨(XY u3 i2),[(dw s_),(cK s_),(dz s_),(dm s_),(cO s_),(cu s_),(dh s_),(iD p p1 p2 v1),d9,(o9 u1),(oV u1),(gX u6),(iZ u8),(jK v0),(jX v0 u6 u8),(129,none),(132,some (aeg u3 i2))]⟩) ⟨⟨tR,tR,tR,tR,tR,tR,tR,trivial⟩,(hN 16 ⟨rfl,aJ ⟨bR.refl _,bR.of (congrArg (fun n=>CV.d (.int .i64 n)) a1),trivial⟩,trivial⟩)⟩) ?_
            refine aO h fun⟨a1,a2⟩ h=> ?_
            refine di tT mX ⟨PV,[(dw s_),(cK s_),(dz s_),(dm s_),(cO s_),(cu s_),(dh s_),(iD p p1 p2 v1),d9,(o9 u1),(oV u1),(gX u6),(iZ u8),(82,some (.arr 164 2 v0.length (NV u1 u3 i2 v0))),(jX v0 u6 u8),(129,none)]⟩ [(0:Int)≤0∧(0:Int)<(2:Nat),(0:Int)≤1∧(1:Int)<(2:Nat),_,_,_,(0:Int)≤1∧(1:Int)<(2:Nat),_,aC v0.length 2 (acR u1 u3 i2 v0) (NV u1 u3 i2 v0)] {an:=[(17, .arr 0 (NV u1 u3 i2 v0))] } [] ⟨((by decide)),((by decide)),a1,(tL a1),a2,((by decide)),(tL a2),(aW _ _ _ _ _ _ _ _ rfl (fun j hj=>(match j,hj with|0,_=>rfl|1,_=>rfl))),trivial⟩ (bB.le (st':=⟨PV,[(dw s_),(cK s_),(dz s_),(dm s_),(cO s_),(cu s_),(dh s_),(iD p p1 p2 v1),d9,(o9 u1),(oV u1),(gX u6),(iZ u8),(82,some (adr u1 u3 i2 v0)),(83,some (.cells 77 [(.own 80 true u6.length),(.own 81 true u8.length),(.own 82 true (ace u1 u3 i2 v0))])),(129,none)]⟩) ⟨⟨tR,tR,tR,tR,tR,trivial⟩,(hN 13 ⟨rfl,oW,⟨rfl,aJ ⟨bR.refl _,bR.refl _,cW,trivial⟩,(.refl _)⟩⟩)⟩) ?_
            obtain rfl:=oi h
            exact⟨.inl rfl,by kernel_rfl⟩
          ·clear hy
           obtain⟨v8,rfl⟩: ∃q,q=y6:=⟨_,rfl⟩
           refine aI (fz ⟨[(2,(vP 70 0)),(4,(vP 72 0)),(9,(vP 78 0)),(10,(vP 83 0))],[(dw s_),(cK s_),(dz s_),(dm s_),(cO s_),(cu s_),(dh s_),(iD p p1 p2 v1),d9,(o9 u1),(oV u1),(gX u6),(iZ u8),(jK v8),(jX v8 u6 u8)]⟩ []) ?_
           refine aQ (aO h fun⟨a1,a2,a3⟩ h=> ?_)
           refine rg tT ⟨[(2,(vP 70 0)),(4,(vP 72 0)),(9,(vP 78 0)),(10,(vP 83 0)),(28,(vP 134 0))],[(dw s_),(cK s_),(dz s_),(dm s_),(cO s_),(cu s_),(dh s_),(iD p p1 p2 v1),d9,(o9 u1),(oV u1),(gX u6),(iZ u8),(jK v8),(jX v8 u6 u8),(Qt p),(O6 p)]⟩ [_,(p.buses:Int)=p.buses,_,_,(IZ p).length=p.buses.toNat,aC p.buses.toNat 1 (fun _ j=>[(.bool false)].getD j .nilp) (Ul p)] {an:=[(2, .arr (IZ p).length (Ul p))],fr:=[(2,133),(3,134)] } [] ⟨a1,rfl,a2,a3,(List.length_replicate),(dO _ _ _ _ _ (fun j hj=>(match j,hj with|0,_=>rfl))),trivial⟩ ?_
           refine aQ (aQ (bE h fun um hr_9 h=> ?_))
           have q0:=rk [(0,78),(1,79),(2,135)] (gI u1 hr_9)
           refine ri tT ⟨aa8,[(dw s_),(cK s_),(dz s_),(dm s_),(cO s_),(cu s_),(dh s_),(iD p p1 p2 v1),d9,(78,some (aci u1)),(gX u6),(iZ u8),(jK v8),(jX v8 u6 u8),(Qt p),(O6 p),(135,some (.cells 157 [(.ptr 78 0)]))]⟩ [_,u1.arcs.length=u1.arcs.length] {an:=[(1,cA q0 [78,79])] } [79] ⟨q0,rfl,trivial⟩ (.trans (fz ⟨aa8,[(dw s_),(cK s_),(dz s_),(dm s_),(cO s_),(cu s_),(dh s_),(iD p p1 p2 v1),d9,(gX u6),(iZ u8),(jK v8),(jX v8 u6 u8),(Qt p),(O6 p),(135,some (aco u1))]⟩ [78]) (fz ⟨(abN u1),[(dw s_),(cK s_),(dz s_),(dm s_),(cO s_),(cu s_),(dh s_),(iD p p1 p2 v1),d9,(gX u6),(iZ u8),(jK v8),(jX v8 u6 u8),(Qt p),(O6 p)]⟩ [135])) ?_
           refine aB (bE h fun w9 hr_10 h=> ?_)
           refine jq 136 [(2,(vP 70 0)),(28,(vP 134 0))] [] [136,70,134,133] (.iC []) [(136,some (.loop bY 0 [(2,(vP 70 0)),(28,(vP 134 0))])),(iD p p1 p2 v1),(134,some (.cells 27 [(.own 133 true w9.length)])),(133,some (bg 4 1 ah w9))] (Zb u1) 121 [] (acd u1) [(136,some (.loop bY 0 [(2,(vP 70 0)),(28,(vP 134 0))])),(iD p p1 p2 v1),(O6 p),(Qt p)] [(.one (.yl 136)),(sD (Xj u1))] bY 0 [(2,(vP 70 0)),(28,(vP 134 0))] (by kernel_rfl) (by kernel_rfl) (by kernel_rfl) (by kernel_rfl) (by kernel_rfl) (by kernel_rfl) (by kernel_rfl) (rK [(0,136),(1,70),(2,134),(3,133)] (gU u1.arcs u1.from_ (⟨p.buses,p1,p2,v1⟩:ai) (IZ p) hr_10)) (by kernel_rfl) rfl (DL.zero rfl) (bB.fin (st':=⟨(abN u1),[(dw s_),(cK s_),(dz s_),(dm s_),(cO s_),(cu s_),(dh s_),(iD p p1 p2 v1),d9,(gX u6),(iZ u8),(jK v8),(jX v8 u6 u8),(133,some (bg 4 1 ah w9)),(134,some (.cells 27 [(.own 133 true w9.length)]))]⟩) (cs:=[]) ⟨[],[(0,0),(1,1),(2,2),(3,3),(4,4),(5,5),(6,6),(70,70),(72,72),(80,80),(81,81),(82,82),(83,83),(133,133),(134,134)]⟩ [2,4,10,28,235] (by kernel_rfl) trivial) ?_
           refine sd tT mX ⟨[(4,(vP 72 0)),(5,(vO 133 true w9.length)),(6,(vI 0))],[(dw s_),(cK s_),(dz s_),(dm s_),(cO s_),(cu s_),(dh s_),(72,some (.cells 77 [(.own 80 true u6.length),(.own 81 true u8.length),(.own 82 true v8.length)])),(gX u6),(iZ u8),(jK v8),(133,some (bg 4 1 ah w9))]⟩ [] {} [] trivial ?_
           refine aI (.trans (bB.fin (st':=⟨[(4,(vP 11 0)),(5,(vO 10 true w9.length)),(6,(vI 0))],[(dw s_),(cK s_),(dz s_),(dm s_),(cO s_),(cu s_),(dh s_),(7,some (wW u6)),(8,some (wW u8)),(9,some (Ou v8)),(10,some (bg 4 1 ah w9)),(11,some (.cells 77 [(.own 7 true u6.length),(.own 8 true u8.length),(.own 9 true v8.length)]))]⟩) (cs:=[]) ⟨[],[(0,0),(1,1),(2,2),(3,3),(4,4),(5,5),(6,6),(80,7),(81,8),(82,9),(133,10),(72,11)]⟩ [4,5,6] (by kernel_rfl) trivial) (bB.le (st':=⟨[(4,(vP 11 0)),(5,(vO 10 false w9.length)),(6,(vI 0))],[(dw s_),(cK s_),(dz s_),(dm s_),(cO s_),(cu s_),(dh s_),(7,some (wW u6)),(8,some (wW u8)),(9,some (Ou v8)),(10,some (bg 4 1 ah w9)),(11,some (.cells 77 [(.own 7 false u6.length),(.own 8 false u8.length),(.own 9 false v8.length)]))]⟩) ⟨⟨tR,⟨_,rfl,eX.v (eO.one (cN))⟩,tR,trivial⟩,(hN 11 ⟨rfl,aJ ⟨cN,cN,cN,trivial⟩,trivial⟩)⟩)) ?_
           refine aR ?_
           obtain rfl:=oi h
           exact rh [(.agg [(.own 7 false u6.length),(.own 8 false u8.length),(.own 9 false v8.length)]),(.one (.own 10 false w9.length)),(sI 0)] (.refl _) (hN 11 ⟨rfl,trivial,trivial⟩)
       |ret v=>
        obtain rfl:=oi h
        unfold fZ
        intro e st hn ha hR
        cases e with
        |normal=>exact absurd rfl hn
        |exit id=>exact hR
        |goto l=>exact hR
        |ret=>exact hR
        |panic c=>exact hR
        |outgrown=>exact hR
     |ret v=>
      obtain rfl:=oi h
      unfold fZ
      intro e st hn ha hR
      cases e with
      |normal=>exact absurd rfl hn
      |exit id=>exact hR
      |goto l=>exact hR
      |ret=>exact hR
      |panic c=>exact hR
      |outgrown=>exact hR
   |ret v=>
    obtain rfl:=oi h
    unfold fZ
    intro e st hn ha hR
    cases e with
    |normal=>exact absurd rfl hn
    |exit id=>exact hR
    |goto l=>exact hR
    |ret=>exact hR
    |panic c=>exact hR
    |outgrown=>exact hR
def Dr  :Bool→Exit→St→Prop:=
  fun r=>bJ TT [.tmp 10] (vB r) []
section
variable (p:ai) (s_:State) (u1:(aj × (List Bool) × Int)) (v7:((List Part) × Int)) (u7:(State × Int)) (u0:State) (m:Int) (u8:Int) (v8:Int) (u2:(aj × (List Bool) × Int)) (v0:Int) (u9:Int) (w0:Bool)
abbrev qG:Nat × TV:=(5,(k9 p))
abbrev BR:Nat × TV:=(6,(k74 s_))
abbrev Tv:=(decide (60<(p.sources.length:Int)))
abbrev Uf:=(bif (Tv p)then true else(decide (60<(p.links.length:Int))))
abbrev QR:=(bif (Uf p)then true else(decide (60<(p.racks.length:Int))))
abbrev o6:Nat × TV:=(11,(Yz u1))
abbrev Yb:=(bif (!decide (u1.2.2=0))then true else(!decide (v7.2=0)))
abbrev aaX:Nat × TV:=(16,(aaR u7))
abbrev aa2:Nat × Option Ob:=(71,some (.cells 29 [(.own 63 false u0.closed.length),(.own 64 false u0.locked.length),(.own 65 false u0.badLink.length),(.own 66 false u0.on_.length),(.own 67 false u0.badSource.length),(.own 68 false u0.earthed.length),(.own 69 false u0.badBus.length)]))
abbrev Xr:List (Nat × Option Ob):=[(63,some (bg 4 1 ah u0.closed)),(64,some (bg 4 1 ah u0.locked)),(65,some (bg 4 1 ah u0.badLink)),(66,some (bg 4 1 ah u0.on_)),(67,some (bg 4 1 ah u0.badSource)),(68,some (bg 4 1 ah u0.earthed)),(69,some (bg 4 1 ah u0.badBus)),(aa2 u0)]
abbrev aa6:List (Nat × TV):=[(4,(vI m)),(qG p),(o6 u1),(19,(vP 71 0))]
abbrev A7:=(u0.closed.set u8.toNat true)
abbrev aa3:List (Nat × Option Ob):=[(63,some (bg 4 1 ah (A7 u0 u8))),(64,some (bg 4 1 ah u0.locked)),(65,some (bg 4 1 ah u0.badLink)),(66,some (bg 4 1 ah u0.on_)),(67,some (bg 4 1 ah u0.badSource)),(68,some (bg 4 1 ah u0.earthed)),(69,some (bg 4 1 ah u0.badBus)),(71,some (.cells 29 [(.own 63 false ((A7 u0 u8).length)),(.own 64 false u0.locked.length),(.own 65 false u0.badLink.length),(.own 66 false u0.on_.length),(.own 67 false u0.badSource.length),(.own 68 false u0.earthed.length),(.own 69 false u0.badBus.length)]))]
abbrev aaT:List (Nat × TV):=[(4,(vI m)),(qG p),(o6 u1),(19,(vP 71 0)),(116,(vB (decide (0<(p.sources.length:Int)))))]
abbrev Tp:List (Nat × TV):=[(qG p),(o6 u1),(19,(vP 71 0))]
abbrev MK:=(ay ah (u0.on_.set v8.toNat true))
abbrev Ud:DV:=(aG none 1 ah (u0.on_.set v8.toNat true))
abbrev TH:St:=⟨[(o6 u1),(13,(vI u2.2.2)),(20,(Yz u2))],[]⟩
abbrev BJ:=(bif (decide (u2.2.2=0))then(decide (v0≤u9))else false)
abbrev TJ:St:=⟨[(10,(vB (bif (BJ u2 v0 u9)then w0 else false)))],[]⟩
abbrev Yi:=(jP [(2,(decide (u2.2.2=0))),(9,(BJ u2 v0 u9))])
abbrev TF:=(eqs (decide (u2.2.2=0)) 2 ((gP (Yi u2 v0 u9) [(2,true)]→All [Fn Try.prog 41 (Lm u2) [] (vI u9) []])::(eqs (decide (u2.2.2=0)) 2 ((gP (Yi u2 v0 u9) [(2,true)]→All [Fn Try.prog 41 (Lm u1) [] (vI v0) []])::(eqs (decide (u2.2.2=0)) 2 [(BJ u2 v0 u9)=(BJ u2 v0 u9),gP (Yi u2 v0 u9) [(9,true)]→All [Fn Try.prog 30 [] [] (vB w0) []],(BJ u2 v0 u9)=(BJ u2 v0 u9)])))))
abbrev TA:List SV:=[(sB (bif (BJ u2 v0 u9)then w0 else false))]
end
theorem BK (p:ai) (s_:State) (n:Int) (k:Int) (m:Int) {r:Bool} (h:jQ p s_ n k m=some r):Fn Try.prog 10 [(.agg (k5 p)),(.agg (Vl s_)),(sI n),(sI k),(sI m)] [] (vB r) []:=by
 refine fN tT Try.func10 rfl rfl fun B=> ?_
 show bL _ _ _ _ _ _ (Dr r) _
 unfold jQ at h
 refine sz tT ⟨[(2,(vI n)),(3,(vI k)),(4,(vI m)),(qG p),(BR s_)],[]⟩ {fr:=[(0,48),(1,49)] } [48,49] ?_
 refine aQ (aQ (bE h fun r_ hr_ h=> ?_))
 refine rg tT ⟨[(2,(vI n)),(3,(vI k)),(4,(vI m)),(qG p),(BR s_),(43,(vB (bif (QR p)then true else(!decide (r_=0)))))],[]⟩ (eqs (Tv p) 5 (eqs (Uf p) 5 (eqs (QR p) 3 ((gP (jP [(4,(Tv p)),(10,(Uf p)),(16,(QR p))]) [(16,false)]→All [Fn Try.prog 12 (k98 s_ p) [] (vI r_) []])::(eqs (QR p) 2 []))))) {yb:=[(4,(Tv p)),(10,(Uf p)),(16,(QR p))],an:=[(19, .call [] (vI r_) [])] } [] (ae (ae (ae ⟨(fun hg=> ⟨(dL p s_ (dZ hr_ (aY hg))),trivial⟩),(ae trivial)⟩))) ?_
 refine bI h (fun hb6 h=> ?_) (fun hb6 h=> ?_)
 ·refine ct hb6 ?_
  refine aQ (bE h fun w6 hr_1 h=> ?_)
  have q0:=ko hr_1
  refine rg tT ⟨[(10,(vB w6))],[]⟩ [_] {an:=[(0,cA q0 [])] } [] ⟨q0,trivial⟩ ?_
  refine aR ?_
  obtain rfl:=oi h
  exact rl [(sB w6)]
 ·refine cf hb6 ?_
  refine aP (aQ (bE h fun u1 hr_2 h=> ?_))
  have q0:=rk [(0,50),(1,51),(2,52),(3,53),(4,54)] (gQ p s_ hr_2)
  refine ri tT ⟨[(2,(vI n)),(3,(vI k)),(4,(vI m)),(qG p),(BR s_),(11,(vP 55 0)),(13,(vI u1.2.2))],[(55,some (PL u1))]⟩ [_,u1.1.sources.length=u1.1.sources.length,u1.1.links.length=u1.1.links.length,u1.1.racks.length=u1.1.racks.length] {an:=[(2,cA q0 [])],fr:=[(7,55)] } [50,51,52] ⟨q0,rfl,rfl,rfl,trivial⟩ (fz ⟨[(2,(vI n)),(3,(vI k)),(4,(vI m)),(qG p),(BR s_),(o6 u1),(13,(vI u1.2.2))],[]⟩ [55]) ?_
  refine aQ (bE h fun v7 hr_3 h=> ?_)
  have q0:=Il p hr_3
  refine rg tT ⟨[(2,(vI n)),(3,(vI k)),(4,(vI m)),(qG p),(BR s_),(o6 u1),(13,(vI u1.2.2)),(14,(vD (aG none 2 Part.cell v7.1))),(15,(vI v7.2))],[]⟩ [_] {an:=[(1,cA q0 [])] } [] ⟨q0,trivial⟩ ?_
  refine aQ (sg tT ⟨[(2,(vI n)),(3,(vI k)),(4,(vI m)),(qG p),(BR s_),(o6 u1),(14,(vD (aG none 2 Part.cell v7.1))),(67,(vB (bif (Yb u1 v7)then true else(decide ((v7.1.length:Int)=0)))))],[]⟩ (eqs (!decide (u1.2.2=0)) 3 (eqs (Yb u1 v7) 4 [])) {yb:=[(2,(!decide (u1.2.2=0))),(6,(Yb u1 v7))] } [] (ae (ae trivial)) ?_)
  refine bI h (fun hb5 h=> ?_) (fun hb5 h=> ?_)
  ·refine ct hb5 ?_
   refine sz tT ⟨[(10,(vB false))],[]⟩ {} [] ?_
   refine aR ?_
   obtain rfl:=oi h
   exact rl [(sB false)]
  ·refine cf hb5 ?_
   refine aP (aQ (bE h fun w7 hr_4 h=> ?_))
   refine bE h fun u7 hr_5 h=> ?_
   refine aO h fun a1 h=> ?_
   have q0:=rQ n (v7.1.length:Int) hr_4
   have q2:=Dw p s_ (at' v7.1 w7.toNat) hr_5
   refine dg tT mX ⟨[(3,(vI k)),(4,(vI m)),(qG p),(BR s_),(o6 u1),(13,(vI u7.2)),(aaX u7)],[]⟩ [_,_,_] {an:=[(6,cA q0 []),(9,cA q2 [])],fr:=[(13,56)] } [56] ⟨q0,a1,q2,trivial⟩ ?_
   refine aQ (sz tT ⟨[(3,(vI k)),(4,(vI m)),(qG p),(BR s_),(o6 u1),(aaX u7),(82,(vB (!decide (u7.2=0))))],[]⟩ {} [] ?_)
   refine bI h (fun hb4 h=> ?_) (fun hb4 h=> ?_)
   ·refine ct hb4 ?_
    refine sz tT ⟨[(10,(vB false))],[]⟩ {} [] ?_
    refine aR ?_
    obtain rfl:=oi h
    exact rl [(sB false)]
   ·refine cf hb4 ?_
    refine aP (aQ (bE h fun u6 hr_6 h=> ?_))
    have q0:=rk [(0,57),(1,58),(2,59),(3,60),(4,61)] (gQ p u7.1 hr_6)
    refine ri tT ⟨[(3,(vI k)),(4,(vI m)),(qG p),(BR s_),(o6 u1),(13,(vI u6.2.2)),(17,(vP 62 0))],[(62,some (PL u6))]⟩ [_,u6.1.sources.length=u6.1.sources.length,u6.1.links.length=u6.1.links.length,u6.1.racks.length=u6.1.racks.length] {an:=[(2,cA q0 [])],fr:=[(7,62)] } [57,58,59] ⟨q0,rfl,rfl,rfl,trivial⟩ (fz ⟨[(3,(vI k)),(4,(vI m)),(qG p),(BR s_),(o6 u1),(13,(vI u6.2.2)),(17,(Yz u6))],[]⟩ [62]) ?_
    refine aQ (aQ (bE h fun w4 hr_7 h=> ?_))
    refine bE h fun w5 hr_8 h=> ?_
    refine dg tT mX ⟨[(3,(vI k)),(4,(vI m)),(qG p),(BR s_),(o6 u1),(98,(vB (bif (!decide (u6.2.2=0))then true else(decide (w5<w4)))))],[]⟩ (eqs (!decide (u6.2.2=0)) 2 ((gP (jP [(2,(!decide (u6.2.2=0)))]) [(2,false)]→All [Fn Try.prog 41 (Lm u6) [] (vI w4) []])::(eqs (!decide (u6.2.2=0)) 2 ((gP (jP [(2,(!decide (u6.2.2=0)))]) [(2,false)]→All [Fn Try.prog 41 (Lm u1) [] (vI w5) []])::(eqs (!decide (u6.2.2=0)) 2 []))))) {yb:=[(2,(!decide (u6.2.2=0)))],an:=[(4, .call [] (vI w4) []),(6, .call [] (vI w5) [])] } [] (ae ⟨(fun hg=> ⟨(bn u6.1 (dZ hr_7 (aY hg))),trivial⟩),(ae ⟨(fun hg=> ⟨(bn u1.1 (dZ hr_8 (aY hg))),trivial⟩),(ae trivial)⟩)⟩) ?_
    refine bI h (fun hb3 h=> ?_) (fun hb3 h=> ?_)
    ·refine ct hb3 ?_
     refine sz tT ⟨[(10,(vB false))],[]⟩ {} [] ?_
     refine aR ?_
     obtain rfl:=oi h
     exact rl [(sB false)]
    ·refine cf hb3 ?_
     refine aP (aQ (bE h fun u0 hr_9 h=> ?_))
     have q0:=rk [(0,63),(1,64),(2,65),(3,66),(4,67),(5,68),(6,69),(7,70)] (Bv s_ hr_9)
     refine rg tT ⟨[(3,(vI k)),(4,(vI m)),(qG p),(o6 u1),(19,(vP 71 0))],(Xr u0)⟩ [_] {an:=[(1,cA q0 [])],fr:=[(2,71)] } [] ⟨q0,trivial⟩ ?_
     refine aQ (sz tT ⟨[(3,(vI k)),(4,(vI m)),(qG p),(o6 u1),(19,(vP 71 0)),(104,(vB (decide (0<(p.links.length:Int)))))],(Xr u0)⟩ {} [] ?_)
     refine bI h (fun hb2 h=> ?_) (fun hb2 h=> ?_)
     ·refine ct hb2 ?_
      refine bE h fun u8 hr_10 h=> ?_
      refine aO h fun a1 h=> ?_
      have q0:=rQ k (p.links.length:Int) hr_10
      refine di tT mX ⟨(aa6 p u1 m),[(63,some (.arr 4 1 u0.closed.length (ay ah (A7 u0 u8)))),(64,some (bg 4 1 ah u0.locked)),(65,some (bg 4 1 ah u0.badLink)),(66,some (bg 4 1 ah u0.on_)),(67,some (bg 4 1 ah u0.badSource)),(68,some (bg 4 1 ah u0.earthed)),(69,some (bg 4 1 ah u0.badBus)),(aa2 u0)]⟩ [_,_,_,aC u0.closed.length 1 (jo (ay ah u0.closed) u8.toNat 0 [(.bool true)]) (ay ah (A7 u0 u8))] {an:=[(6,cA q0 []),(8, .arr 0 (ay ah (A7 u0 u8)))] } [] ⟨q0,a1,(tL a1),(aW _ _ _ _ _ _ _ _ rfl (fun j hj=>(match j,hj with|0,_=>rfl))),trivial⟩ (bB.le (st':=⟨(aa6 p u1 m),(aa3 u0 u8)⟩) ⟨⟨tR,tR,tR,tR,trivial⟩,⟨rfl,oW,(hN 6 ⟨rfl,aJ ⟨cW,bR.refl _,bR.refl _,bR.refl _,bR.refl _,bR.refl _,bR.refl _,trivial⟩,trivial⟩)⟩⟩) ?_
      refine aQ (sz tT ⟨(aaT p u1 m),(aa3 u0 u8)⟩ {} [] ?_)
      refine bI h (fun hb h=> ?_) (fun hb h=> ?_)
      ·refine ct hb ?_
       refine bE h fun v8 hr_11 h=> ?_
       refine aO h fun a1 h=> ?_
       have q0:=rQ m (p.sources.length:Int) hr_11
       refine di tT mX ⟨(Tp p u1),[(71,some (.cells 29 [(.d (aG none 1 ah (A7 u0 u8))),(.d (Q9 u0)),(.d (SN u0)),(.d (.sl none 1 u0.on_.length (MK u0 v8))),(.d (P6 u0)),(.d (Mt u0)),(.d (Od u0))]))]⟩ [_,_,_,aC u0.on_.length 1 (jo (ay ah u0.on_) v8.toNat 0 [(.bool true)]) (MK u0 v8),(A7 u0 u8).length=(A7 u0 u8).length,u0.locked.length=u0.locked.length,u0.badLink.length=u0.badLink.length,u0.on_.length=u0.on_.length,u0.badSource.length=u0.badSource.length,u0.earthed.length=u0.earthed.length,u0.badBus.length=u0.badBus.length] {an:=[(6,cA q0 []),(8, .arr 0 (MK u0 v8))] } [63,64,65,66,67,68,69] ⟨q0,a1,(tL a1),(aW _ _ _ _ _ _ _ _ rfl (fun j hj=>(match j,hj with|0,_=>rfl))),rfl,rfl,rfl,rfl,rfl,rfl,rfl,trivial⟩ (.trans (bB.le (st':=⟨(Tp p u1),[(71,some (.cells 29 [(.d (aG none 1 ah (A7 u0 u8))),(.d (Q9 u0)),(.d (SN u0)),(.d (Ud u0 v8)),(.d (P6 u0)),(.d (Mt u0)),(.d (Od u0))]))]⟩) ⟨⟨tR,tR,tR,trivial⟩,⟨rfl,aJ ⟨bR.refl _,bR.refl _,bR.refl _,bR.d (dX.slN (by simp only [List.length_set]) (.inr rfl) (fun _ _ _ _=> .refl _)),bR.refl _,bR.refl _,bR.refl _,trivial⟩,trivial⟩⟩) (fz ⟨[(qG p),(o6 u1),(19,(vD (kH [(aG none 1 ah (A7 u0 u8)),(Q9 u0),(SN u0),(Ud u0 v8),(P6 u0),(Mt u0),(Od u0)] 0)))],[]⟩ [71])) ?_
       refine aQ (bE h fun u2 hr_12 h=> ?_)
       have q0:=rk [(0,72),(1,73),(2,74),(3,75),(4,76)] (gQ p (⟨(A7 u0 u8),u0.locked,u0.badLink,(u0.on_.set v8.toNat true),u0.badSource,u0.earthed,u0.badBus⟩:State) hr_12)
       refine ri tT ⟨[(o6 u1),(13,(vI u2.2.2)),(20,(vP 77 0))],[(77,some (PL u2))]⟩ [_,u2.1.sources.length=u2.1.sources.length,u2.1.links.length=u2.1.links.length,u2.1.racks.length=u2.1.racks.length] {an:=[(2,cA q0 [])],fr:=[(7,77)] } [72,73,74] ⟨q0,rfl,rfl,rfl,trivial⟩ (fz (TH u1 u2) [77]) ?_
       refine aQ (bE h fun u9 hr_13 h=> ?_)
       refine bE h fun v0 hr_14 h=> ?_
       refine bE h fun w0 hr_15 h=> ?_
       refine dg tT mX (TJ u2 v0 u9 w0) (TF u1 u2 v0 u9 w0) {yb:=[(2,(decide (u2.2.2=0))),(9,(BJ u2 v0 u9))],an:=[(4, .call [] (vI u9) []),(6, .call [] (vI v0) []),(10, .call [] (vB w0) [])] } [] (ae ⟨(fun hg=> ⟨(bn u2.1 (dZ hr_13 (aY hg))),trivial⟩),(ae ⟨(fun hg=> ⟨(bn u1.1 (dZ hr_14 (aY hg))),trivial⟩),(ae ⟨rfl,(fun hg=> ⟨(ko (dZ hr_15 (aY hg))),trivial⟩),rfl,trivial⟩)⟩)⟩) ?_
       refine aR ?_
       obtain rfl:=oi h
       exact rl (TA u2 v0 u9 w0)
      ·refine cf hb ?_
       refine aP (aQ (bE h fun u3 hr_16 h=> ?_))
       have q0:=rk [(0,63),(1,64),(2,65),(3,66),(4,67),(5,68),(6,69),(7,78),(8,79),(9,80),(10,81),(11,82)] (wH p (⟨(A7 u0 u8),u0.locked,u0.badLink,u0.on_,u0.badSource,u0.earthed,u0.badBus⟩:State) hr_16)
       refine ri tT ⟨[(o6 u1),(13,(vI u3.2.2)),(20,(vP 83 0))],[(83,some (PL u3))]⟩ [_,u3.1.sources.length=u3.1.sources.length,u3.1.links.length=u3.1.links.length,u3.1.racks.length=u3.1.racks.length] {an:=[(2,cA q0 [63,64,65,66,67,68,69])],fr:=[(7,83)] } [78,79,80] ⟨q0,rfl,rfl,rfl,trivial⟩ (fz (TH u1 u3) [83]) ?_
       refine aQ (bE h fun v1 hr_17 h=> ?_)
       refine bE h fun v2 hr_18 h=> ?_
       refine bE h fun w1 hr_19 h=> ?_
       refine dg tT mX (TJ u3 v2 v1 w1) (TF u1 u3 v2 v1 w1) {yb:=[(2,(decide (u3.2.2=0))),(9,(BJ u3 v2 v1))],an:=[(4, .call [] (vI v1) []),(6, .call [] (vI v2) []),(10, .call [] (vB w1) [])] } [] (ae ⟨(fun hg=> ⟨(bn u3.1 (dZ hr_17 (aY hg))),trivial⟩),(ae ⟨(fun hg=> ⟨(bn u1.1 (dZ hr_18 (aY hg))),trivial⟩),(ae ⟨rfl,(fun hg=> ⟨(ko (dZ hr_19 (aY hg))),trivial⟩),rfl,trivial⟩)⟩)⟩) ?_
       refine aR ?_
       obtain rfl:=oi h
       exact rl (TA u3 v2 v1 w1)
     ·refine cf hb2 ?_
      refine aP (aQ (sz tT ⟨(aaT p u1 m),(Xr u0)⟩ {} [] ?_))
      refine bI h (fun hb1 h=> ?_) (fun hb1 h=> ?_)
      ·refine ct hb1 ?_
       refine bE h fun v9 hr_20 h=> ?_
       refine aO h fun a1 h=> ?_
       have q0:=rQ m (p.sources.length:Int) hr_20
       refine di tT mX ⟨(Tp p u1),[(71,some (.cells 29 [(.d (Wm u0)),(.d (Q9 u0)),(.d (SN u0)),(.d (.sl none 1 u0.on_.length (MK u0 v9))),(.d (P6 u0)),(.d (Mt u0)),(.d (Od u0))]))]⟩ [_,_,_,aC u0.on_.length 1 (jo (ay ah u0.on_) v9.toNat 0 [(.bool true)]) (MK u0 v9),u0.closed.length=u0.closed.length,u0.locked.length=u0.locked.length,u0.badLink.length=u0.badLink.length,u0.on_.length=u0.on_.length,u0.badSource.length=u0.badSource.length,u0.earthed.length=u0.earthed.length,u0.badBus.length=u0.badBus.length] {an:=[(6,cA q0 []),(8, .arr 0 (MK u0 v9))] } [63,64,65,66,67,68,69] ⟨q0,a1,(tL a1),(aW _ _ _ _ _ _ _ _ rfl (fun j hj=>(match j,hj with|0,_=>rfl))),rfl,rfl,rfl,rfl,rfl,rfl,rfl,trivial⟩ (.trans (bB.le (st':=⟨(Tp p u1),[(71,some (.cells 29 [(.d (Wm u0)),(.d (Q9 u0)),(.d (SN u0)),(.d (Ud u0 v9)),(.d (P6 u0)),(.d (Mt u0)),(.d (Od u0))]))]⟩) ⟨⟨tR,tR,tR,trivial⟩,⟨rfl,aJ ⟨bR.refl _,bR.refl _,bR.refl _,bR.d (dX.slN (by simp only [List.length_set]) (.inr rfl) (fun _ _ _ _=> .refl _)),bR.refl _,bR.refl _,bR.refl _,trivial⟩,trivial⟩⟩) (fz ⟨[(qG p),(o6 u1),(19,(vD (kH [(Wm u0),(Q9 u0),(SN u0),(Ud u0 v9),(P6 u0),(Mt u0),(Od u0)] 0)))],[]⟩ [71])) ?_
       refine aQ (bE h fun u4 hr_21 h=> ?_)
       have q0:=rk [(0,84),(1,85),(2,86),(3,87),(4,88)] (gQ p (⟨u0.closed,u0.locked,u0.badLink,(u0.on_.set v9.toNat true),u0.badSource,u0.earthed,u0.badBus⟩:State) hr_21)
       refine ri tT ⟨[(o6 u1),(13,(vI u4.2.2)),(20,(vP 89 0))],[(89,some (PL u4))]⟩ [_,u4.1.sources.length=u4.1.sources.length,u4.1.links.length=u4.1.links.length,u4.1.racks.length=u4.1.racks.length] {an:=[(2,cA q0 [])],fr:=[(7,89)] } [84,85,86] ⟨q0,rfl,rfl,rfl,trivial⟩ (fz (TH u1 u4) [89]) ?_
       refine aQ (bE h fun v3 hr_22 h=> ?_)
       refine bE h fun v4 hr_23 h=> ?_
       refine bE h fun w2 hr_24 h=> ?_
       refine dg tT mX (TJ u4 v4 v3 w2) (TF u1 u4 v4 v3 w2) {yb:=[(2,(decide (u4.2.2=0))),(9,(BJ u4 v4 v3))],an:=[(4, .call [] (vI v3) []),(6, .call [] (vI v4) []),(10, .call [] (vB w2) [])] } [] (ae ⟨(fun hg=> ⟨(bn u4.1 (dZ hr_22 (aY hg))),trivial⟩),(ae ⟨(fun hg=> ⟨(bn u1.1 (dZ hr_23 (aY hg))),trivial⟩),(ae ⟨rfl,(fun hg=> ⟨(ko (dZ hr_24 (aY hg))),trivial⟩),rfl,trivial⟩)⟩)⟩) ?_
       refine aR ?_
       obtain rfl:=oi h
       exact rl (TA u4 v4 v3 w2)
      ·refine cf hb1 ?_
       refine aP (aQ (bE h fun u5 hr_25 h=> ?_))
       have q0:=rk [(0,63),(1,64),(2,65),(3,66),(4,67),(5,68),(6,69),(7,90),(8,91),(9,92),(10,93),(11,94)] (wH p u0 hr_25)
       refine ri tT ⟨[(o6 u1),(13,(vI u5.2.2)),(20,(vP 95 0))],[(95,some (PL u5))]⟩ [_,u5.1.sources.length=u5.1.sources.length,u5.1.links.length=u5.1.links.length,u5.1.racks.length=u5.1.racks.length] {an:=[(2,cA q0 [63,64,65,66,67,68,69])],fr:=[(7,95)] } [90,91,92] ⟨q0,rfl,rfl,rfl,trivial⟩ (fz (TH u1 u5) [95]) ?_
       refine aQ (bE h fun v5 hr_26 h=> ?_)
       refine bE h fun v6 hr_27 h=> ?_
       refine bE h fun w3 hr_28 h=> ?_
       refine dg tT mX (TJ u5 v6 v5 w3) (TF u1 u5 v6 v5 w3) {yb:=[(2,(decide (u5.2.2=0))),(9,(BJ u5 v6 v5))],an:=[(4, .call [] (vI v5) []),(6, .call [] (vI v6) []),(10, .call [] (vB w3) [])] } [] (ae ⟨(fun hg=> ⟨(bn u5.1 (dZ hr_26 (aY hg))),trivial⟩),(ae ⟨(fun hg=> ⟨(bn u1.1 (dZ hr_27 (aY hg))),trivial⟩),(ae ⟨rfl,(fun hg=> ⟨(ko (dZ hr_28 (aY hg))),trivial⟩),rfl,trivial⟩)⟩)⟩) ?_
       refine aR ?_
       obtain rfl:=oi h
       exact rl (TA u5 v6 v5 w3)
end
end Sg
