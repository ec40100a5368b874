import Derived.Test.YtpndenfhglaikaaW1
set_option linter.all false
namespace Sg
open Go Go.Proofs
set_option maxRecDepth 20000
noncomputable section
def mV  :Bool→Exit→St→Prop:=
  fun r=>aU TT [.tmp 4] (vB r) []
section
variable (a:(List Short))
abbrev Rk:Nat × TV:=(0,(Sq a))
end
def qJ (a:(List Short)) (b:(List Short)):Int→St:=
  fun i=> ⟨[(Rk a),(mo b),(5,(vI i))],[]⟩
def qR  :Unit→St:=
  fun _=> ⟨[],[]⟩
def BF (a:(List Short)) (b:(List Short)):(aK Int (Ex Unit Bool))→Exit→St→Prop:=
  LQ 0 [] (qJ a b) qR mV
section
variable (a:(List Short)) (i:Int) (b:(List Short))
abbrev TN:=(!decide (((at' a i.toNat).source)=((at' b i.toNat).source)))
abbrev UD:=(bif (TN a i b)then true else(!decide (((at' a i.toNat).bg)=((at' b i.toNat).bg))))
abbrev Rb:=(bif (UD a i b)then true else(!decide (((at' a i.toNat).amps)=((at' b i.toNat).amps))))
abbrev Ry:=(gG [(11,(TN a i b)),(24,(UD a i b)),(37,(Rb a i b))])
end
theorem bL (a:(List Short)) (b:(List Short)) {r:Bool} (h:bZ a b=some r):Fn Try.prog 52 [(sD (aJ none 4 Short.cell a)),(sD (aJ none 4 Short.cell b))] [] (vB r) []:=by
 refine fN tT Try.func52 rfl rfl fun B=> ?_
 show bn _ _ _ _ _ _ (mV r) _
 unfold bZ at h
 refine sz tT ⟨[(Rk a),(mo b)],[]⟩ {} [] ?_
 refine aQ (sz tT ⟨[(Rk a),(mo b),(10,(vB (!decide ((a.length:Int)=(b.length:Int)))))],[]⟩ {} [] ?_)
 refine bI h (fun hb2 h=> ?_) (fun hb2 h=> ?_)
 ·refine ct hb2 ?_
  refine sz tT ⟨[(4,(vB false))],[]⟩ {} [] ?_
  refine aR ?_
  obtain rfl:=oi h
  exact rl [(sB false)]
 ·refine cf hb2 ?_
  refine aP (aQ (sz tT ⟨[(Rk a),(mo b),(5,(vI 0))],[]⟩ {} [] ?_))
  refine bE h fun y hy h=> ?_
  refine aL [] (qJ a b) qR mV hy (fun s f h=> ?_) ?_
  ·clear hy
   show bn _ _ _ _ _ _ ((BF a b) f) _
   unfold fG at h
   obtain⟨i,rfl⟩: ∃q,q=s:=⟨_,rfl⟩
   refine aQ (sz tT ⟨[(Rk a),(mo b),(5,(vI i)),(14,(vB (decide (i<(a.length:Int)))))],[]⟩ {} [] ?_)
   refine bI h (fun hb1 h=> ?_) (fun hb1 h=> ?_)
   ·refine ct hb1 ?_
    refine aP (aQ (aB (aQ (bE h fun r_ hr_ h=> ?_))))
    refine aO h fun⟨a1,a2,a3,a4,a5,a6,a7,a8⟩ h=> ?_
    refine dg tT mX ⟨[(Rk a),(mo b),(5,(vI i)),(67,(vB (bif (Rb a i b)then true else(!r_))))],[]⟩ (_::_::(eqs (TN a i b) 3 ((gP (Ry a i b) [(11,false)]→All [(0:Int)≤i∧i<(a.length:Int)])::(eqs (TN a i b) 5 ((gP (Ry a i b) [(11,false)]→All [(0:Int)≤i∧i<(b.length:Int)])::(eqs (TN a i b) 4 (eqs (UD a i b) 3 ((gP (Ry a i b) [(24,false)]→All [(0:Int)≤i∧i<(a.length:Int)])::(eqs (UD a i b) 5 ((gP (Ry a i b) [(24,false)]→All [(0:Int)≤i∧i<(b.length:Int)])::(eqs (UD a i b) 4 (eqs (Rb a i b) 3 ((gP (Ry a i b) [(37,false)]→All [(0:Int)≤i∧i<(a.length:Int)])::(eqs (Rb a i b) 5 ((gP (Ry a i b) [(37,false)]→All [(0:Int)≤i∧i<(b.length:Int)])::(eqs (Rb a i b) 3 ((gP (Ry a i b) [(37,false)]→All [Fn Try.prog 54 [(sD (YC a i)),(sD (YC b i))] [] (vB r_) []])::(eqs (Rb a i b) 2 [])))))))))))))))))) {yb:=[(11,(TN a i b)),(24,(UD a i b)),(37,(Rb a i b))],an:=[(48, .call [] (vB r_) [])] } [] ⟨a1,a2,(ae ⟨(fun hg=> ⟨(a3 (aN hg)),trivial⟩),(ae ⟨(fun hg=> ⟨(a4 (aN hg)),trivial⟩),(ae (ae ⟨(fun hg=> ⟨(a5 (aN hg)),trivial⟩),(ae ⟨(fun hg=> ⟨(a6 (aN hg)),trivial⟩),(ae (ae ⟨(fun hg=> ⟨(a7 (aN hg)),trivial⟩),(ae ⟨(fun hg=> ⟨(a8 (aN hg)),trivial⟩),(ae ⟨(fun hg=> ⟨(bU ((at' a i.toNat).links) ((at' b i.toNat).links) (dJ hr_ (aN hg))),trivial⟩),(ae trivial)⟩)⟩)⟩))⟩)⟩))⟩)⟩)⟩ ?_
    refine bI h (fun hb h=> ?_) (fun hb h=> ?_)
    ·refine ct hb ?_
     refine sz tT ⟨[(4,(vB false))],[]⟩ {} [] ?_
     refine aR ?_
     obtain rfl:=oi h
     exact lR bS (bT 0) bR (aU.mk (.inr rfl) (p:=[]) (l:=[(sB false)]) (by kernel_rfl) trivial (cu.refl _) trivial)
    ·refine cf hb ?_
     refine aP (rz tT ⟨[(Rk a),(mo b),(Ru i)],[]⟩ {} [] ?_)
     obtain rfl:=oi h
     exact lN
   ·refine cf hb1 ?_
    refine aI (fz ⟨[],[]⟩ []) ?_
    refine aX ?_
    obtain rfl:=oi h
    exact lB
  ·clear hy
   cases y with
   |brk z=>
    unfold dU
    refine⟨_, .refl, ?_⟩
    refine sz tT ⟨[(4,(vB true))],[]⟩ {} [] ?_
    refine aR ?_
    obtain rfl:=oi h
    exact rl [(sB true)]
   |ret v=>
    obtain rfl:=oi h
    unfold dU
    intro e st hn ha hR
    cases e with
    |normal=>exact absurd rfl hn
    |exit id=>exact hR
    |goto l=>exact hR
    |ret=>exact hR
    |panic c=>exact hR
    |outgrown=>exact hR
def mY (u0:(List Int)):(ah × State)→Exit→St→Prop:=
  fun r=>aU TT [.cell 2 26, .cell 3 29] (.gK [(.agg [(cI r.1.buses),(.d (aJ none 5 Source.cell r.1.sources)),(.d (aJ none 6 Link.cell r.1.links)),(.d (aJ none 4 ay.cell r.1.racks))]),(.agg [(.d (aJ none 1 ai r.2.closed)),(.d (aJ none 1 ai r.2.locked)),(.d (aJ none 1 ai r.2.badLink)),(.d (aJ none 1 ai r.2.on_)),(.d (aJ none 1 ai r.2.badSource)),(.d (aJ none 1 ai r.2.earthed)),(.d (aJ none 1 ai r.2.badBus))])]) (vT u0)
section
variable (u0:(List Int)) (p3:(List ay))
abbrev NJ:Nat × Option Ob:=(21,some (.cells 26 [(cI 0),(.d nS),(.d nS),(.d nS)]))
abbrev NY:Nat × Option Ob:=(22,some (.cells 29 [(.d nS),(.d nS),(.d nS),(.d nS),(.d nS),(.d nS),(.d nS)]))
abbrev OT:Nat × Option Ob:=(23,some (bO 126 5 Source.cell [(⟨0,1,500,0,20⟩:Source),(⟨2,2,300,0,40⟩:Source)]))
abbrev RN:Nat × Option Ob:=(24,some (bO 53 6 Link.cell [(⟨0,1,3,400,10,([]:List iD)⟩:Link),(⟨1,2,3,400,10,([]:List iD)⟩:Link)]))
abbrev YA:List (Nat × Option Ob):=[(Ho u0),NJ,NY,OT,RN,(25,some (.cells 26 [(cI 3),(.own 23 true ([(⟨0,1,500,0,20⟩:Source),(⟨2,2,300,0,40⟩:Source)].length)),(.own 24 true ([(⟨0,1,3,400,10,([]:List iD)⟩:Link),(⟨1,2,3,400,10,([]:List iD)⟩:Link)].length)),(.own 27 false p3.length)])),(27,some (bO 166 4 ay.cell p3))]
end
def qU (u0:(List Int)):((List ay) × Int)→St:=
  fun zz=>match zz with|(p3,i)=> ⟨[(D7 u0),(2,(vP 21 0)),(3,(vP 22 0)),(4,(vP 25 0)),(5,(vI i))],(YA u0 p3)⟩
section
variable (u1:(List Int)) (u0:(List ay))
abbrev aid:St:=⟨[(2,(vP 21 0)),(3,(vP 22 0)),(4,(vP 25 0))],(YA u1 u0)⟩
end
def qQ (u1:(List Int)):(List ay)→St:=
  fun u0=>(aid u1 u0)
def BJ (u0:(List Int)):(aK ((List ay) × Int) (Ex (List ay) (ah × State)))→Exit→St→Prop:=
  LQ 0 [] (qU u0) (qQ u0) (mY u0)
section
variable (u0:(List Int)) (i:Int) (p3:(List ay))
abbrev agc:List CV:=[(cI 3),(.own 23 true ([(⟨0,1,500,0,20⟩:Source),(⟨2,2,300,0,40⟩:Source)].length)),(.own 24 true ([(⟨0,1,3,400,10,([]:List iD)⟩:Link),(⟨1,2,3,400,10,([]:List iD)⟩:Link)].length)),(.d nS)]
abbrev ait:Nat × Option Ob:=(25,some (.cells 26 agc))
abbrev ahw:List (Nat × Option Ob):=[(Ho u0),NJ,NY,OT,RN,ait]
abbrev ZP:List (Nat × TV):=[(D7 u0),(2,(vP 21 0)),(3,(vP 22 0)),(4,(vP 25 0)),(5,(vI 0))]
abbrev UU:=(⟨(⟨1,(-1)⟩:af),(at' u0 i.toNat),1⟩:ay)
abbrev OY:=(p3++[(UU u0 i)])
abbrev ahX:List (Nat × Option Ob):=[(Ho u0),NJ,NY,OT,RN,(25,some (.cells 26 [(cI 3),(.own 23 true ([(⟨0,1,500,0,20⟩:Source),(⟨2,2,300,0,40⟩:Source)].length)),(.own 24 true ([(⟨0,1,3,400,10,([]:List iD)⟩:Link),(⟨1,2,3,400,10,([]:List iD)⟩:Link)].length)),(.own 33 false ((OY u0 i p3).length))])),(33,some (bO 166 4 ay.cell (OY u0 i p3)))]
abbrev abN:=(au ay.cell [(UU u0 i)])
abbrev aje:List (Nat × TV):=[(D7 u0),(2,(vP 21 0)),(3,(vP 22 0)),(4,(vP 25 0)),(Ru i)]
abbrev agE:DV:=(aJ (some true) 5 Source.cell [(⟨0,1,500,0,20⟩:Source),(⟨2,2,300,0,40⟩:Source)])
abbrev aia:DV:=(aJ (some true) 6 Link.cell [(⟨0,1,3,400,10,([]:List iD)⟩:Link),(⟨1,2,3,400,10,([]:List iD)⟩:Link)])
abbrev ZC:DV:=(aJ (some true) 1 ai [true,true])
abbrev TU:DV:=(aJ (some true) 1 ai (List.replicate 2 (false:Bool)))
abbrev ZG:DV:=(aJ (some true) 1 ai (List.replicate 3 (false:Bool)))
abbrev ail:DV:=(aJ none 5 Source.cell [(⟨0,1,500,0,20⟩:Source),(⟨2,2,300,0,40⟩:Source)])
abbrev af9:DV:=(aJ none 6 Link.cell [(⟨0,1,3,400,10,([]:List iD)⟩:Link),(⟨1,2,3,400,10,([]:List iD)⟩:Link)])
abbrev UB:DV:=(aJ none 1 ai (List.replicate 2 (false:Bool)))
abbrev Yn:DV:=(aJ none 1 ai (List.replicate 3 (false:Bool)))
end
theorem qV (u0:(List Int)) {r:(ah × State)} (h:oF u0=some r):Fn Try.prog 73 [(.one (.own 0 true u0.length))] (vT u0) (.gK [(.agg [(cI r.1.buses),(.d (aJ none 5 Source.cell r.1.sources)),(.d (aJ none 6 Link.cell r.1.links)),(.d (aJ none 4 ay.cell r.1.racks))]),(.agg [(.d (aJ none 1 ai r.2.closed)),(.d (aJ none 1 ai r.2.locked)),(.d (aJ none 1 ai r.2.badLink)),(.d (aJ none 1 ai r.2.on_)),(.d (aJ none 1 ai r.2.badSource)),(.d (aJ none 1 ai r.2.earthed)),(.d (aJ none 1 ai r.2.badBus))])]) (vT u0):=by
 refine fN tT Try.func73 rfl rfl fun B=> ?_
 show bn _ _ _ _ _ _ ((mY u0) r) _
 unfold oF at h
 refine sz tT ⟨[(D7 u0),(2,(vP 21 0)),(3,(vP 22 0))],[(Ho u0),NJ,NY]⟩ {fr:=[(0,21),(1,22)] } [] ?_
 refine si tT ⟨[(D7 u0),(2,(vP 21 0)),(3,(vP 22 0)),(4,(vP 25 0))],[(Ho u0),NJ,NY,OT,(24,some (.arr 53 6 [(⟨0,1,3,400,10,([]:List iD)⟩:Link),(⟨1,2,3,400,10,([]:List iD)⟩:Link)].length (ig 6 [(.int .i64 0),(.int .i64 1),(.int .i64 3),(.int .i64 400),(.int .i64 10),nS,(.int .i64 1),(.int .i64 2),(.int .i64 3),(.int .i64 400),(.int .i64 10),nS]))),ait]⟩ [[(⟨0,1,500,0,20⟩:Source),(⟨2,2,300,0,40⟩:Source)].length=2,aC 2 5 (ig 5 [(.int .i64 0),(.int .i64 1),(.int .i64 500),(.int .i64 0),(.int .i64 20),(.int .i64 2),(.int .i64 2),(.int .i64 300),(.int .i64 0),(.int .i64 40)]) (au Source.cell [(⟨0,1,500,0,20⟩:Source),(⟨2,2,300,0,40⟩:Source)]),[(⟨0,1,3,400,10,([]:List iD)⟩:Link),(⟨1,2,3,400,10,([]:List iD)⟩:Link)].length=2,aC 2 6 (ig 6 [(.int .i64 0),(.int .i64 1),(.int .i64 3),(.int .i64 400),(.int .i64 10),nS,(.int .i64 1),(.int .i64 2),(.int .i64 3),(.int .i64 400),(.int .i64 10),nS]) (ig 6 [(.int .i64 0),(.int .i64 1),(.int .i64 3),(.int .i64 400),(.int .i64 10),nS,(.int .i64 1),(.int .i64 2),(.int .i64 3),(.int .i64 400),(.int .i64 10),nS])] {an:=[(2, .arr [(⟨0,1,500,0,20⟩:Source),(⟨2,2,300,0,40⟩:Source)].length (au Source.cell [(⟨0,1,500,0,20⟩:Source),(⟨2,2,300,0,40⟩:Source)])),(5, .arr [(⟨0,1,3,400,10,([]:List iD)⟩:Link),(⟨1,2,3,400,10,([]:List iD)⟩:Link)].length (ig 6 [(.int .i64 0),(.int .i64 1),(.int .i64 3),(.int .i64 400),(.int .i64 10),nS,(.int .i64 1),(.int .i64 2),(.int .i64 3),(.int .i64 400),(.int .i64 10),nS]))],fr:=[(2,23),(5,24),(7,25)] } [] ⟨(rfl),((by intro i hi j hj;match i,j,hi,hj with|0,0,_,_=>rfl|0,1,_,_=>rfl|0,2,_,_=>rfl|0,3,_,_=>rfl|0,4,_,_=>rfl|1,0,_,_=>rfl|1,1,_,_=>rfl|1,2,_,_=>rfl|1,3,_,_=>rfl|1,4,_,_=>rfl)),(rfl),(gL _ _ _),trivial⟩ (bG.le (st':=⟨[(D7 u0),(2,(vP 21 0)),(3,(vP 22 0)),(4,(vP 25 0))],(ahw u0)⟩) ⟨⟨tR,tR,tR,tR,trivial⟩,(hN 4 ⟨rfl,TH (by intro i hi j hj;match i,j,hi,hj with|0,0,_,_=>exact .refl _|0,1,_,_=>exact .refl _|0,2,_,_=>exact .refl _|0,3,_,_=>exact .refl _|0,4,_,_=>exact .refl _|0,5,_,_=>exact fo.nil'|1,0,_,_=>exact .refl _|1,1,_,_=>exact .refl _|1,2,_,_=>exact .refl _|1,3,_,_=>exact .refl _|1,4,_,_=>exact .refl _|1,5,_,_=>exact fo.nil'),(.refl _)⟩)⟩) ?_
 refine aQ (sz tT ⟨(ZP u0),(ahw u0)⟩ {} [] ?_)
 refine bE h fun y hy h=> ?_
 refine aI (.trans (bG.Aj (E:=0) (esz:=0) (E0:=26) (cs:=agc) (p:=25) (q:=3) (b:=34) (esz0:=0) (el0:=fun _ _=> .nilp) (ob:= .arr 166 4 0 (au ay.cell ([]:List ay))) (fun _ _ _ _ h=> .inl ⟨h,rfl⟩) (by kernel_rfl) (by kernel_rfl) (by kernel_rfl)) (.trans (fz ⟨(ZP u0),[(Ho u0),NJ,NY,OT,RN,(25,some (.cells 26 [(cI 3),(.own 23 true ([(⟨0,1,500,0,20⟩:Source),(⟨2,2,300,0,40⟩:Source)].length)),(.own 24 true ([(⟨0,1,3,400,10,([]:List iD)⟩:Link),(⟨1,2,3,400,10,([]:List iD)⟩:Link)].length)),(.own 34 false 0)])),(34,some (.arr 166 4 0 (au ay.cell ([]:List ay))))]⟩ []) (.trans (bG.fin (st':=⟨(ZP u0),[(Ho u0),NJ,NY,OT,RN,(25,some (.cells 26 [(cI 3),(.own 23 true ([(⟨0,1,500,0,20⟩:Source),(⟨2,2,300,0,40⟩:Source)].length)),(.own 24 true ([(⟨0,1,3,400,10,([]:List iD)⟩:Link),(⟨1,2,3,400,10,([]:List iD)⟩:Link)].length)),(.own 27 false 0)])),(27,some (.arr 166 4 0 (au ay.cell ([]:List ay))))]⟩) (cs:=[]) ⟨[],[(0,0),(21,21),(22,22),(23,23),(24,24),(25,25),(34,27)]⟩ [0,2,3,4,5] (by kernel_rfl) trivial) (bG.le (st':=⟨(ZP u0),[(Ho u0),NJ,NY,OT,RN,(25,some (.cells 26 [(cI 3),(.own 23 true ([(⟨0,1,500,0,20⟩:Source),(⟨2,2,300,0,40⟩:Source)].length)),(.own 24 true ([(⟨0,1,3,400,10,([]:List iD)⟩:Link),(⟨1,2,3,400,10,([]:List iD)⟩:Link)].length)),(.own 27 false (([]:List ay).length))])),(27,some (bO 166 4 ay.cell ([]:List ay)))]⟩) ⟨⟨tR,tR,tR,tR,tR,trivial⟩,(hN 5 ⟨rfl,bB ⟨cK.refl _,cK.refl _,cK.refl _,cW,trivial⟩,⟨rfl,oW,trivial⟩⟩)⟩)))) ?_
 refine aL [] (qU u0) (qQ u0) (mY u0) hy (fun s f h=> ?_) ?_
 ·clear hy
  show bn _ _ _ _ _ _ ((BJ u0) f) _
  unfold xh at h
  obtain⟨p3,i⟩:=s
  refine aQ (sz tT ⟨[(D7 u0),(2,(vP 21 0)),(3,(vP 22 0)),(4,(vP 25 0)),(5,(vI i)),(17,(Rs i u0))],(YA u0 p3)⟩ {} [] ?_)
  refine bI h (fun hb h=> ?_) (fun hb h=> ?_)
  ·refine ct hb ?_
   refine aP (aQ (aB (sz tT ⟨[(D7 u0),(2,(vP 21 0)),(3,(vP 22 0)),(4,(vP 25 0)),(5,(vI i)),(6,(vO 27 false p3.length))],(YA u0 p3)⟩ {} [] ?_)))
   refine aO h fun⟨a1,a2,a3⟩ h=> ?_
   refine rg tT ⟨[(D7 u0),(2,(vP 21 0)),(3,(vP 22 0)),(4,(vP 25 0)),(5,(vI i))],(ahX u0 i p3)⟩ [_,_,[(UU u0 i)].length=1,aC 1 4 (ig 4 [(.int .i64 1),(.int .i64 (-1)),(.int .i64 (at' u0 i.toNat)),(.int .i64 1)]) (abN u0 i),p3.length=p3.length,_,_,(OY u0 i p3).length=p3.length+[(UU u0 i)].length,aC (p3.length+[(UU u0 i)].length) 4 (Ak (au ay.cell p3) p3.length (abN u0 i)) (au ay.cell (OY u0 i p3))] {an:=[(7, .arr [(UU u0 i)].length (abN u0 i)),(8, .arr (OY u0 i p3).length (au ay.cell (OY u0 i p3)))],fr:=[(7,32),(8,33)] } [] ⟨a1,(tL a1),(rfl),((by intro i hi j hj;match i,j,hi,hj with|0,0,_,_=>rfl|0,1,_,_=>rfl|0,2,_,_=>rfl|0,3,_,_=>rfl)),rfl,a2,a3,(List.length_append),(fe _ _ _ _),trivial⟩ ?_
   refine ri tT ⟨(aje u0 i),(ahX u0 i p3)⟩ [] {} [] trivial (bG.fin (st':=⟨(aje u0 i),[(Ho u0),NJ,NY,OT,RN,(25,some (.cells 26 [(cI 3),(.own 23 true ([(⟨0,1,500,0,20⟩:Source),(⟨2,2,300,0,40⟩:Source)].length)),(.own 24 true ([(⟨0,1,3,400,10,([]:List iD)⟩:Link),(⟨1,2,3,400,10,([]:List iD)⟩:Link)].length)),(.own 27 false ((OY u0 i p3).length))])),(27,some (bO 166 4 ay.cell (OY u0 i p3)))]⟩) (cs:=[]) ⟨[],[(0,0),(21,21),(22,22),(23,23),(24,24),(25,25),(33,27)]⟩ [0,2,3,4,5] (by kernel_rfl) trivial) ?_
   obtain rfl:=oi h
   exact lN
  ·refine cf hb ?_
   refine aI (fz (aid u0 p3) []) ?_
   refine aX ?_
   obtain rfl:=oi h
   exact lB
 ·clear hy
  cases y with
  |brk z=>
   obtain⟨u1,rfl⟩: ∃q,q=z:=⟨_,rfl⟩
   unfold dU
   refine⟨_, .refl, ?_⟩
   refine aQ (aO h fun⟨a1,a2,a3,a4,a5,a6⟩ h=> ?_)
   refine di tT mX ⟨[(2,(vP 21 0)),(3,(vP 22 0))],[(Ho u0),(21,some (.cells 26 [(cI 3),(.d agE),(.d aia),(.d (k10 u1))])),(22,some (.cells 29 [(.d ZC),(.d TU),(.d TU),(.d ZC),(.d TU),(.d ZG),(.d ZG)]))]⟩ (([true,true].length=2)::aC 2 1 (ig 1 [(.bool true),(.bool true)]) (au ai [true,true])::_::((2:Int)=2)::_::_::((List.replicate 2 (false:Bool)).length=2)::aC 2 1 (fun _ j=>[(.bool false)].getD j .nilp) (au ai (List.replicate 2 (false:Bool)))::_::((2:Int)=2)::_::_::((List.replicate 2 (false:Bool)).length=2)::aC 2 1 (fun _ j=>[(.bool false)].getD j .nilp) (au ai (List.replicate 2 (false:Bool)))::([true,true].length=2)::aC 2 1 (ig 1 [(.bool true),(.bool true)]) (au ai [true,true])::_::((2:Int)=2)::_::_::((List.replicate 2 (false:Bool)).length=2)::aC 2 1 (fun _ j=>[(.bool false)].getD j .nilp) (au ai (List.replicate 2 (false:Bool)))::_::((3:Int)=3)::_::_::((List.replicate 3 (false:Bool)).length=3)::aC 3 1 (fun _ j=>[(.bool false)].getD j .nilp) (au ai (List.replicate 3 (false:Bool)))::_::((3:Int)=3)::_::_::((List.replicate 3 (false:Bool)).length=3)::aC 3 1 (fun _ j=>[(.bool false)].getD j .nilp) (au ai (List.replicate 3 (false:Bool)))::([(⟨0,1,500,0,20⟩:Source),(⟨2,2,300,0,40⟩:Source)].length=[(⟨0,1,500,0,20⟩:Source),(⟨2,2,300,0,40⟩:Source)].length)::([(⟨0,1,3,400,10,([]:List iD)⟩:Link),(⟨1,2,3,400,10,([]:List iD)⟩:Link)].length=[(⟨0,1,3,400,10,([]:List iD)⟩:Link),(⟨1,2,3,400,10,([]:List iD)⟩:Link)].length)::(u1.length=u1.length)::([true,true].length=[true,true].length)::(eqs (List.replicate 2 (false:Bool)).length 2 (([true,true].length=[true,true].length)::((List.replicate 2 (false:Bool)).length=(List.replicate 2 (false:Bool)).length)::(eqs (List.replicate 3 (false:Bool)).length 2 [])))) {an:=[(1, .arr [true,true].length (au ai [true,true])),(2, .arr (List.replicate 2 (false:Bool)).length (au ai (List.replicate 2 (false:Bool)))),(3, .arr (List.replicate 2 (false:Bool)).length (au ai (List.replicate 2 (false:Bool)))),(4, .arr [true,true].length (au ai [true,true])),(5, .arr (List.replicate 2 (false:Bool)).length (au ai (List.replicate 2 (false:Bool)))),(6, .arr (List.replicate 3 (false:Bool)).length (au ai (List.replicate 3 (false:Bool)))),(7, .arr (List.replicate 3 (false:Bool)).length (au ai (List.replicate 3 (false:Bool))))],fr:=[(1,35),(2,36),(3,37),(4,38),(5,39),(6,40),(7,41)] } [23,24,27,35,36,37,38,39,40,41] ⟨(rfl),((by intro i hi j hj;match i,j,hi,hj with|0,0,_,_=>rfl|1,0,_,_=>rfl)),a1,rfl,a2,a3,(List.length_replicate),(cZ _ _ _ _ _ (fun j hj=>(match j,hj with|0,_=>rfl))),a1,rfl,a2,a3,(List.length_replicate),(cZ _ _ _ _ _ (fun j hj=>(match j,hj with|0,_=>rfl))),(rfl),((by intro i hi j hj;match i,j,hi,hj with|0,0,_,_=>rfl|1,0,_,_=>rfl)),a1,rfl,a2,a3,(List.length_replicate),(cZ _ _ _ _ _ (fun j hj=>(match j,hj with|0,_=>rfl))),a4,rfl,a5,a6,(List.length_replicate),(cZ _ _ _ _ _ (fun j hj=>(match j,hj with|0,_=>rfl))),a4,rfl,a5,a6,(List.length_replicate),(cZ _ _ _ _ _ (fun j hj=>(match j,hj with|0,_=>rfl))),rfl,rfl,rfl,rfl,(ae ⟨rfl,rfl,(ae trivial)⟩)⟩ (fz ⟨[(2,(vD (mg [(.int .i64 3),agE,aia,(k10 u1)] 0))),(3,(vD (mg [ZC,TU,TU,ZC,TU,ZG,ZG] 0)))],(vT u0)⟩ [21,22]) ?_
   refine aI (bG.le (st':=⟨[(2,(vD (mg [(.int .i64 3),ail,af9,(k10 u1)] 0))),(3,(vD (mg [(aJ none 1 ai [true,true]),UB,UB,(aJ none 1 ai [true,true]),UB,Yn,Yn] 0)))],(vT u0)⟩) ⟨⟨⟨_,rfl,cu.v (dm.one (cK.d (NN ⟨.refl _,fo.mH,fo.mH, .refl _,trivial⟩)))⟩,⟨_,rfl,cu.v (dm.one (cK.d (NN ⟨fo.mH,fo.mH,fo.mH,fo.mH,fo.mH,fo.mH,fo.mH,trivial⟩)))⟩,trivial⟩,(.refl _)⟩) ?_
   refine aR ?_
   obtain rfl:=oi h
   exact rl [(.agg [(cI 3),(.d ail),(.d af9),(.d (k10 u1))]),(.agg [(.d (aJ none 1 ai [true,true])),(.d UB),(.d UB),(.d (aJ none 1 ai [true,true])),(.d UB),(.d Yn),(.d Yn)])]
  |ret v=>
   obtain rfl:=oi h
   unfold dU
   intro e st hn ha hR
   cases e with
   |normal=>exact absurd rfl hn
   |exit id=>exact hR
   |goto l=>exact hR
   |ret=>exact hR
   |panic c=>exact hR
   |outgrown=>exact hR
def Jv  :Bool→Exit→St→Prop:=
  fun r=>aU TT [.tmp 0] (vB r) []
section
variable (r_:(ah × State)) (u9:(aA × (List Bool) × Int)) (v4:(Bool × Int)) (v6:Int) (u3:(ah × State)) (u0:(aA × (List Bool) × Int)) (u1:(Int × Int)) (u2:((List Part) × Int)) (u4:Int) (u5:((List Short) × Int)) (v0:((List Int) × Bool × Int)) (v8:Bool) (w3:Bool) (w4:Bool) (v7:Bool) (v5:Bool) (w1:Bool)
abbrev ahP:List CV:=[(cI r_.1.buses),(.d (aJ none 5 Source.cell r_.1.sources)),(.d (aJ none 6 Link.cell r_.1.links)),(.d (aJ none 4 ay.cell r_.1.racks))]
abbrev ai9:Nat × Option Ob:=(68,some (.cells 26 (ahP r_)))
abbrev agu:List CV:=[(.d (aJ none 1 ai r_.2.closed)),(.d (aJ none 1 ai r_.2.locked)),(.d (aJ none 1 ai r_.2.badLink)),(.d (aJ none 1 ai r_.2.on_)),(.d (aJ none 1 ai r_.2.badSource)),(.d (aJ none 1 ai r_.2.earthed)),(.d (aJ none 1 ai r_.2.badBus))]
abbrev ajj:Nat × Option Ob:=(69,some (.cells 29 (agu r_)))
abbrev WN:Nat × TV:=(4,(vD (Ld u9)))
abbrev ahU:Nat × Option Ob:=(70,some (agz u9))
abbrev UG:List (Nat × Option Ob):=[(ai9 r_),(ajj r_),(ahU u9)]
abbrev NQ:=(bif (!decide (u9.2.2=0))then true else(!decide (v4.2=0)))
abbrev RZ:=(bif (NQ u9 v4)then true else(!decide (v6=100)))
abbrev I7:=(bif (RZ u9 v4 v6)then true else(!v4.1))
abbrev Wm:=(gG [(2,(!decide (u9.2.2=0))),(6,(NQ u9 v4)),(11,(RZ u9 v4 v6)),(15,true)])
abbrev Vm:List SV:=[(.agg (acR u9))]
abbrev Za:=(gG [(2,(!decide (u9.2.2=0))),(6,(NQ u9 v4)),(11,(RZ u9 v4 v6)),(15,false)])
abbrev Om:Nat × TV:=(1,(vD (mg [(.int .i64 u3.1.buses),(aJ none 5 Source.cell u3.1.sources),(aJ none 6 Link.cell u3.1.links),(aJ none 4 ay.cell u3.1.racks)] 0)))
abbrev PS:Nat × TV:=(2,(vD (mg [(aJ none 1 ai u3.2.closed),(aJ none 1 ai u3.2.locked),(aJ none 1 ai u3.2.badLink),(aJ none 1 ai u3.2.on_),(aJ none 1 ai u3.2.badSource),(aJ none 1 ai u3.2.earthed),(aJ none 1 ai u3.2.badBus)] 0)))
abbrev acE:Nat × TV:=(3,(aiv u0))
abbrev Ii:=(bif (!decide (u0.2.2=0))then true else(!decide (u1.2=0)))
abbrev CU:=(bif (Ii u0 u1)then true else(!decide (u2.2=0)))
abbrev IB:=(bif (CU u0 u1 u2)then true else(!decide (u4=700)))
abbrev Yy:=(bif (IB u0 u1 u2 u4)then true else(!decide (u1.1=700)))
abbrev Zi:=(bif (Yy u0 u1 u2 u4)then true else false)
abbrev Xn:=(bif (Zi u0 u1 u2 u4)then true else false)
abbrev Ji:=(gG [(2,(!decide (u0.2.2=0))),(6,(Ii u0 u1)),(10,(CU u0 u1 u2)),(15,(IB u0 u1 u2 u4)),(19,true),(25,true),(33,(Xn u0 u1 u2 u4))])
abbrev Lr:=((Yy u0 u1 u2 u4)=true)
abbrev Ta:=((Zi u0 u1 u2 u4)=true)
abbrev Zr:List SV:=[(.agg (ahP u3)),(.agg (agu u3)),(.agg (acR u0)),(sD (Ld u0))]
abbrev Av:DV:=(aJ none 4 Short.cell u5.1)
abbrev ZN:St:=⟨[(Om u3),(5,(vI u5.2)),(11,(vD (Av u5)))],[]⟩
abbrev Dv:DV:=(aJ (some v0.2.1) 1 (aj .i64) v0.1)
abbrev ZF:St:=⟨[(5,(vI u5.2)),(7,(vI v0.2.2)),(11,(vD (Av u5))),(12,(vD (Dv v0)))],[]⟩
abbrev bH:=(bif (decide (u5.2=0))then(decide (v0.2.2=0))else false)
abbrev nA:=(bif (bH u5 v0)then v8 else false)
abbrev aaf:St:=⟨[(0,(vB (bif (nA u5 v0 v8)then w3 else false)))],[]⟩
abbrev nV:=(gG [(2,(decide (u5.2=0))),(6,true),(15,true)])
abbrev nO:List DV:=[(.int .i64 0),(.int .i64 30),(.int .i64 13334),(aJ (some true) 1 (aj .i64) [0]),(.int .i64 1),(.int .i64 50),(.int .i64 8000),(aJ (some true) 1 (aj .i64) [1])]
abbrev afY:List (Nat × Option Ob):=[(78,some (.arr 103 4 [(⟨0,30,13334,[0]⟩:Short),(⟨1,50,8000,[1]⟩:Short)].length (ig 4 nO)))]
abbrev OP:List DV:=[(.int .i64 13334),(.int .i64 8000)]
abbrev DN:Ob:=(bO 3 1 (aj .i64) [13334,8000])
abbrev Pq:List SV:=[(sD (Av u5)),(sD (.sl (some true) 4 [(⟨0,30,13334,[0]⟩:Short),(⟨1,50,8000,[1]⟩:Short)].length (ig 4 nO)))]
abbrev Ou:List SV:=[(sD (Dv v0)),(sD (aJ (some true) 1 (aj .i64) [13334,8000]))]
abbrev aag:St:=⟨[(0,(vB (bif (nA u5 v0 v8)then false else false)))],[]⟩
abbrev oq:=(gG [(2,(decide (u5.2=0))),(6,true),(15,false)])
abbrev agj:List (Nat × Option Ob):=[(82,some (.arr 103 4 [(⟨0,30,13334,[0]⟩:Short),(⟨1,50,8000,[1]⟩:Short)].length (ig 4 nO)))]
abbrev xH:=(bif (bH u5 v0)then false else false)
abbrev ZY:St:=⟨[(0,(vB (bif (xH u5 v0)then w4 else false)))],[]⟩
abbrev j4:=(gG [(2,(decide (u5.2=0))),(6,false),(15,true)])
abbrev Zg:St:=⟨[(0,(vB (bif (xH u5 v0)then false else false)))],[]⟩
abbrev Mg:=(gG [(2,(decide (u5.2=0))),(6,false),(15,false)])
abbrev Y8:=(eqs (decide (u5.2=0)) 3 [(bH u5 v0)=false, ¬ gP (Mg u5) [(6,true)],(bH u5 v0)=false, ¬ gP (Mg u5) [(6,true)],(bH u5 v0)=false, ¬ gP (Mg u5) [(6,true)],(bH u5 v0)=false, ¬ gP (Mg u5) [(6,true)],(bH u5 v0)=false, ¬ gP (Mg u5) [(6,true)],(bH u5 v0)=false, ¬ gP (Mg u5) [(6,true)],(bH u5 v0)=false, ¬ gP (Mg u5) [(6,true)],(bH u5 v0)=false,(xH u5 v0)=false, ¬ gP (Mg u5) [(15,true)],(xH u5 v0)=false, ¬ gP (Mg u5) [(15,true)],(xH u5 v0)=false, ¬ gP (Mg u5) [(15,true)],(xH u5 v0)=false])
abbrev Wu:=(bif (Zi u0 u1 u2 u4)then true else(!v7))
abbrev Oj:=(gG [(2,(!decide (u0.2.2=0))),(6,(Ii u0 u1)),(10,(CU u0 u1 u2)),(15,(IB u0 u1 u2 u4)),(19,true),(25,false),(33,(Wu u0 u1 u2 u4 v7))])
abbrev R7:=((Zi u0 u1 u2 u4)=false)
abbrev aeG:List SV:=[(sD (aJ none 2 Part.cell u2.1)),(sD (aJ (some true) 2 Part.cell [(⟨2,1⟩:Part),(⟨3,0⟩:Part)]))]
abbrev aex:List (Nat × Option Ob):=[(90,some (.arr 103 4 [(⟨0,30,13334,[0]⟩:Short),(⟨1,50,8000,[1]⟩:Short)].length (ig 4 nO)))]
abbrev ahN:List (Nat × Option Ob):=[(94,some (.arr 103 4 [(⟨0,30,13334,[0]⟩:Short),(⟨1,50,8000,[1]⟩:Short)].length (ig 4 nO)))]
abbrev aaj:=(bif (Yy u0 u1 u2 u4)then true else(!v5))
abbrev WS:=(bif (aaj u0 u1 u2 u4 v5)then true else false)
abbrev J5:=(gG [(2,(!decide (u0.2.2=0))),(6,(Ii u0 u1)),(10,(CU u0 u1 u2)),(15,(IB u0 u1 u2 u4)),(19,false),(25,true),(33,(WS u0 u1 u2 u4 v5))])
abbrev Lv:=((Yy u0 u1 u2 u4)=false)
abbrev Rt:=((aaj u0 u1 u2 u4 v5)=true)
abbrev ahD:List (Nat × Option Ob):=[(103,some (.arr 103 4 [(⟨0,30,13334,[0]⟩:Short),(⟨1,50,8000,[1]⟩:Short)].length (ig 4 nO)))]
abbrev aiG:List (Nat × Option Ob):=[(107,some (.arr 103 4 [(⟨0,30,13334,[0]⟩:Short),(⟨1,50,8000,[1]⟩:Short)].length (ig 4 nO)))]
abbrev XH:=(bif (aaj u0 u1 u2 u4 v5)then true else(!w1))
abbrev O7:=(gG [(2,(!decide (u0.2.2=0))),(6,(Ii u0 u1)),(10,(CU u0 u1 u2)),(15,(IB u0 u1 u2 u4)),(19,false),(25,false),(33,(XH u0 u1 u2 u4 v5 w1))])
abbrev Si:=((aaj u0 u1 u2 u4 v5)=false)
abbrev aaU:List (Nat × Option Ob):=[(116,some (.arr 103 4 [(⟨0,30,13334,[0]⟩:Short),(⟨1,50,8000,[1]⟩:Short)].length (ig 4 nO)))]
abbrev abb:List (Nat × Option Ob):=[(120,some (.arr 103 4 [(⟨0,30,13334,[0]⟩:Short),(⟨1,50,8000,[1]⟩:Short)].length (ig 4 nO)))]
end
theorem rD  {r:Bool} (h:kM=some r):Fn Try.prog 30 [] [] (vB r) []:=by
 refine fN tT Try.func30 rfl rfl fun B=> ?_
 show bn _ _ _ _ _ _ (Jv r) _
 unfold kM at h
 refine sz tT ⟨[],[]⟩ {} [] ?_
 refine aQ (bE h fun r_ hr_ h=> ?_)
 have q2:=rk [(0,67)] (qV [100] hr_)
 refine rg tT ⟨[(1,(vP 68 0)),(2,(vP 69 0))],[(ai9 r_),(ajj r_)]⟩ [[100].length=1,aC 1 1 (ig 1 [(.int .i64 100)]) (au (aj .i64) [100]),_] {an:=[(0, .arr [100].length (au (aj .i64) [100])),(1,cR q2 [67])],fr:=[(0,67),(5,68),(6,69)] } [] ⟨(rfl),((by intro i hi j hj;match i,j,hi,hj with|0,0,_,_=>rfl)),q2,trivial⟩ ?_
 refine aQ (bE h fun u9 hr_1 h=> ?_)
 have q0:=A9 r_.1 r_.2 hr_1
 refine rg tT ⟨[(1,(vP 68 0)),(2,(vP 69 0)),(3,(vP 70 0)),(WN u9),(5,(vI u9.2.2))],(UG r_ u9)⟩ [_] {an:=[(2,cA q0 [])],fr:=[(7,70)] } [] ⟨q0,trivial⟩ ?_
 refine aQ (bE h fun v4 hr_2 h=> ?_)
 have q0:=Kz r_.1 r_.2 hr_2
 refine rg tT ⟨[(1,(vP 68 0)),(2,(vP 69 0)),(3,(vP 70 0)),(WN u9),(5,(vI u9.2.2)),(6,(vB v4.1)),(7,(vI v4.2))],(UG r_ u9)⟩ [_] {an:=[(2,cA q0 [])] } [] ⟨q0,trivial⟩ ?_
 refine aQ (aQ (bE h fun v6 hr_3 h=> ?_))
 refine bI h (fun hb h=> ?_) (fun hb h=> ?_)
 ·skip
  refine ri tT ⟨[(1,(vP 68 0)),(2,(vP 69 0)),(3,(vP 70 0)),(51,(vB (bif (I7 u9 v4 v6)then true else false)))],(UG r_ u9)⟩ (eqs (!decide (u9.2.2=0)) 3 (eqs (NQ u9 v4) 2 ((gP (Wm u9 v4 v6) [(6,false)]→All [Fn Try.prog 41 (Vm u9) [] (vI v6) []])::(eqs (NQ u9 v4) 2 (eqs (RZ u9 v4 v6) 3 [(I7 u9 v4 v6)=true, ¬ gP (Wm u9 v4 v6) [(15,false)],(I7 u9 v4 v6)=true, ¬ gP (Wm u9 v4 v6) [(15,false)],(I7 u9 v4 v6)=true, ¬ gP (Wm u9 v4 v6) [(15,false)],(I7 u9 v4 v6)=true, ¬ gP (Wm u9 v4 v6) [(15,false)],(I7 u9 v4 v6)=true]))))) {yb:=[(2,(!decide (u9.2.2=0))),(6,(NQ u9 v4)),(11,(RZ u9 v4 v6)),(15,true)],an:=[(8, .call [] (vI v6) []),(16, .skip),(17, .skip),(18, .skip),(19, .skip)] } [] (ae (ae ⟨(fun hg=> ⟨(eY u9.1 (dJ hr_3 (aN hg))),trivial⟩),(ae (ae ⟨(hb),((fun h=>Bool.noConfusion (show true=false from h.1))),(hb),((fun h=>Bool.noConfusion (show true=false from h.1))),(hb),((fun h=>Bool.noConfusion (show true=false from h.1))),(hb),((fun h=>Bool.noConfusion (show true=false from h.1))),(hb),trivial⟩))⟩)) (bG.le (st':=⟨[(1,(vP 68 0)),(2,(vP 69 0)),(3,(vP 70 0)),(51,(vB true))],(UG r_ u9)⟩) ⟨⟨tR,tR,tR,⟨_,rfl,cu.v (dm.one (cK.of (congrArg (fun b=>CV.d (.bool b)) (DC hb))))⟩,trivial⟩,(.refl _)⟩) ?_
  refine ck (sz tT ⟨[(0,(vB false))],[]⟩ {} [] ?_)
  refine aR ?_
  obtain rfl:=oi h
  exact rl [(sB false)]
 ·skip
  refine bE h fun x1 hr_4 h=> ?_
  refine ri tT ⟨[(1,(vP 68 0)),(2,(vP 69 0)),(3,(vP 70 0)),(51,(vB (bif (I7 u9 v4 v6)then true else(!x1))))],(UG r_ u9)⟩ (eqs (!decide (u9.2.2=0)) 3 (eqs (NQ u9 v4) 2 ((gP (Za u9 v4 v6) [(6,false)]→All [Fn Try.prog 41 (Vm u9) [] (vI v6) []])::(eqs (NQ u9 v4) 2 (eqs (RZ u9 v4 v6) 3 [(I7 u9 v4 v6)=false,(I7 u9 v4 v6)=false,gP (Za u9 v4 v6) [(15,false)]→All [[true,true,true].length=3,aC 3 1 (ig 1 [(.bool true),(.bool true),(.bool true)]) (au ai [true,true,true])],gP (Za u9 v4 v6) [(15,false)],(I7 u9 v4 v6)=false,gP (Za u9 v4 v6) [(15,false)]→All [Fn Try.prog 42 [(sD (Ld u9)),(.one (.own 71 true ([true,true,true].length)))] [(71,some (bO 4 1 ai [true,true,true]))] (vB x1) [(71,some (bO 4 1 ai [true,true,true]))]],(I7 u9 v4 v6)=false,(I7 u9 v4 v6)=false]))))) {yb:=[(2,(!decide (u9.2.2=0))),(6,(NQ u9 v4)),(11,(RZ u9 v4 v6)),(15,false)],an:=[(8, .call [] (vI v6) []),(17, .arr [true,true,true].length (au ai [true,true,true])),(18, .callR [71] (vB x1))],fr:=[(17,71)] } [] (ae (ae ⟨(fun hg=> ⟨(eY u9.1 (dJ hr_3 (aN hg))),trivial⟩),(ae (ae ⟨(hb),(hb),(fun hg=> ⟨(rfl),((by intro i hi j hj;match i,j,hi,hj with|0,0,_,_=>rfl|1,0,_,_=>rfl|2,0,_,_=>rfl)),trivial⟩),(⟨rfl,trivial⟩),(hb),(fun hg=> ⟨(Fn.xE (frz:=[71]) (p:=[[true,true,true].length=[true,true,true].length]) (Fn.le (args':=[(sD (Ld u9)),(sD (aJ (some true) 1 ai [true,true,true]))]) (nQ u9.2.1 [true,true,true] hr_4) ⟨dm.refl _,dm.one (cK.d fo.mH),trivial⟩) (by kernel_rfl) ⟨rfl,trivial⟩ rfl),trivial⟩),(hb),(hb),trivial⟩))⟩)) (bG.le (st':=⟨[(1,(vP 68 0)),(2,(vP 69 0)),(3,(vP 70 0)),(51,(vB (!x1)))],(UG r_ u9)⟩) ⟨⟨tR,tR,tR,⟨_,rfl,cu.v (dm.one (cK.of (congrArg (fun b=>CV.d (.bool b)) (DL hb))))⟩,trivial⟩,(.refl _)⟩) ?_
  refine bI h (fun hb20 h=> ?_) (fun hb20 h=> ?_)
  ·refine ct hb20 ?_
   refine sz tT ⟨[(0,(vB false))],[]⟩ {} [] ?_
   refine aR ?_
   obtain rfl:=oi h
   exact rl [(sB false)]
  ·refine cf hb20 ?_
   refine aP (aQ (bE h fun u3 hr_5 h=> ?_))
   have q2:=rk [(0,72)] (qV [300,600] hr_5)
   refine rg tT ⟨[(Om u3),(PS u3),(3,(vP 70 0))],[(ahU u9)]⟩ [[300,600].length=2,aC 2 1 (ig 1 [(.int .i64 300),(.int .i64 600)]) (au (aj .i64) [300,600]),_] {an:=[(0, .arr [300,600].length (au (aj .i64) [300,600])),(1,cR q2 [72])],fr:=[(0,72)] } [68,69] ⟨(rfl),((by intro i hi j hj;match i,j,hi,hj with|0,0,_,_=>rfl|1,0,_,_=>rfl)),q2,trivial⟩ ?_
   refine aQ (bE h fun u0 hr_6 h=> ?_)
   have q0:=A9 u3.1 u3.2 hr_6
   refine rg tT ⟨[(Om u3),(PS u3),(acE u0),(WN u0),(5,(vI u0.2.2))],[]⟩ [_] {an:=[(2,cA q0 [])] } [70] ⟨q0,trivial⟩ ?_
   refine aQ (bE h fun u1 hr_7 h=> ?_)
   have q0:=vF u3.1 u3.2 u0.2.1 hr_7
   refine rg tT ⟨[(Om u3),(PS u3),(acE u0),(WN u0),(5,(vI u0.2.2)),(7,(vI u1.2)),(8,(vI u1.1))],[]⟩ [_] {an:=[(3,cA q0 [])] } [] ⟨q0,trivial⟩ ?_
   refine aQ (bE h fun u2 hr_8 h=> ?_)
   have q0:=I6 u3.1 u3.2 hr_8
   refine rg tT ⟨[(Om u3),(PS u3),(acE u0),(WN u0),(5,(vI u0.2.2)),(7,(vI u1.2)),(8,(vI u1.1)),(9,(vD (aJ none 2 Part.cell u2.1))),(10,(vI u2.2))],[]⟩ [_] {an:=[(2,cA q0 [])] } [] ⟨q0,trivial⟩ ?_
   refine aQ (aQ (bE h fun u4 hr_9 h=> ?_))
   refine bI h (fun hb1 h=> ?_) (fun hb1 h=> ?_)
   ·skip
    refine bI h (fun hb2 h=> ?_) (fun hb2 h=> ?_)
    ·skip
     refine bE h fun x2 hr_10 h=> ?_
     refine rg tT ⟨[(Om u3),(PS u3),(117,(vB (bif (Xn u0 u1 u2 u4)then true else(!decide (x2=0)))))],[]⟩ (eqs (!decide (u0.2.2=0)) 3 (eqs (Ii u0 u1) 3 (eqs (CU u0 u1 u2) 2 ((gP (Ji u0 u1 u2 u4) [(10,false)]→All [Fn Try.prog 41 (Vm u0) [] (vI u4) []])::(eqs (CU u0 u1 u2) 2 (eqs (IB u0 u1 u2 u4) 3 ((Lr u0 u1 u2 u4)::(¬ gP (Ji u0 u1 u2 u4) [(19,false)])::(Lr u0 u1 u2 u4)::(¬ gP (Ji u0 u1 u2 u4) [(19,false)])::(Lr u0 u1 u2 u4)::(¬ gP (Ji u0 u1 u2 u4) [(19,false)])::(Lr u0 u1 u2 u4)::(¬ gP (Ji u0 u1 u2 u4) [(19,false)])::(Lr u0 u1 u2 u4)::(Ta u0 u1 u2 u4)::(¬ gP (Ji u0 u1 u2 u4) [(25,false)])::(Ta u0 u1 u2 u4)::(¬ gP (Ji u0 u1 u2 u4) [(25,false)])::(Ta u0 u1 u2 u4)::(¬ gP (Ji u0 u1 u2 u4) [(25,false)])::(Ta u0 u1 u2 u4)::(¬ gP (Ji u0 u1 u2 u4) [(25,false)])::(Ta u0 u1 u2 u4)::(¬ gP (Ji u0 u1 u2 u4) [(25,false)])::(Ta u0 u1 u2 u4)::(¬ gP (Ji u0 u1 u2 u4) [(25,false)])::(Ta u0 u1 u2 u4)::(eqs (Xn u0 u1 u2 u4) 5 ((gP (Ji u0 u1 u2 u4) [(33,false)]→All [Fn Try.prog 49 (Zr u3 u0) [] (vI x2) []])::(eqs (Xn u0 u1 u2 u4) 2 [])))))))))) {yb:=[(2,(!decide (u0.2.2=0))),(6,(Ii u0 u1)),(10,(CU u0 u1 u2)),(15,(IB u0 u1 u2 u4)),(19,true),(25,true),(33,(Xn u0 u1 u2 u4))],an:=[(12, .call [] (vI u4) []),(20, .skip),(21, .skip),(22, .skip),(23, .skip),(26, .skip),(27, .skip),(28, .skip),(29, .skip),(30, .skip),(31, .skip),(38, .call [] (vI x2) [])] } [] (ae (ae (ae ⟨(fun hg=> ⟨(eY u0.1 (dJ hr_9 (aN hg))),trivial⟩),(ae (ae ⟨(hb1),((fun h=>Bool.noConfusion (show true=false from h.1))),(hb1),((fun h=>Bool.noConfusion (show true=false from h.1))),(hb1),((fun h=>Bool.noConfusion (show true=false from h.1))),(hb1),((fun h=>Bool.noConfusion (show true=false from h.1))),(hb1),(hb2),((fun h=>Bool.noConfusion (show true=false from h.1))),(hb2),((fun h=>Bool.noConfusion (show true=false from h.1))),(hb2),((fun h=>Bool.noConfusion (show true=false from h.1))),(hb2),((fun h=>Bool.noConfusion (show true=false from h.1))),(hb2),((fun h=>Bool.noConfusion (show true=false from h.1))),(hb2),((fun h=>Bool.noConfusion (show true=false from h.1))),(hb2),(ae ⟨(fun hg=> ⟨(lT u3.1 u3.2 u0.1 u0.2.1 (dJ hr_10 (aN hg))),trivial⟩),(ae trivial)⟩)⟩))⟩))) ?_
     refine bI h (fun hb6 h=> ?_) (fun hb6 h=> ?_)
     ·refine ct hb6 ?_
      refine sz tT ⟨[(0,(vB false))],[]⟩ {} [] ?_
      refine aR ?_
      obtain rfl:=oi h
      exact rl [(sB false)]
     ·refine cf hb6 ?_
      refine aP (aQ (bE h fun u5 hr_11 h=> ?_))
      have q0:=jO u3.1 u3.2 1 hr_11
      refine rg tT (ZN u3 u5) [_] {an:=[(2,cA q0 [])] } [] ⟨q0,trivial⟩ ?_
      refine aQ (bE h fun v0 hr_12 h=> ?_)
      have q0:=gJ u3.1 u5.1 hr_12
      refine rg tT (ZF u5 v0) [_] {an:=[(2,cA q0 [])] } [] ⟨q0,trivial⟩ ?_
      refine aQ ?_
      refine bI h (fun hb3 h=> ?_) (fun hb3 h=> ?_)
      ·skip
       refine bE h fun v8 hr_13 h=> ?_
       refine bI h (fun hb4 h=> ?_) (fun hb4 h=> ?_)
       ·skip
        refine bE h fun w3 hr_14 h=> ?_
        refine ri tT (aaf u5 v0 v8 w3) (eqs (decide (u5.2=0)) 3 [(bH u5 v0)=true,(bH u5 v0)=true,gP (nV u5) [(6,true)]→All [[0].length=1,aC 1 1 (ig 1 [(.int .i64 0)]) (au (aj .i64) [0])],(bH u5 v0)=true,(bH u5 v0)=true,gP (nV u5) [(6,true)]→All [[1].length=1,aC 1 1 (ig 1 [(.int .i64 1)]) (au (aj .i64) [1])],(bH u5 v0)=true,(bH u5 v0)=true,gP (nV u5) [(6,true)]→All [[(⟨0,30,13334,[0]⟩:Short),(⟨1,50,8000,[1]⟩:Short)].length=2,aC 2 4 (ig 4 nO) (ig 4 nO)],gP (nV u5) [(6,true)],(bH u5 v0)=true,gP (nV u5) [(6,true)]→All [Fn Try.prog 52 [(sD (Av u5)),(.one (.own 78 true ([(⟨0,30,13334,[0]⟩:Short),(⟨1,50,8000,[1]⟩:Short)].length)))] afY (vB v8) afY],(bH u5 v0)=true,(nA u5 v0 v8)=true,(nA u5 v0 v8)=true,gP (nV u5) [(15,true)]→All [[13334,8000].length=2,aC 2 1 (ig 1 OP) (au (aj .i64) [13334,8000])],gP (nV u5) [(15,true)],(nA u5 v0 v8)=true,gP (nV u5) [(15,true)]→All [Fn Try.prog 54 [(sD (Dv v0)),(.one (.own 79 true ([13334,8000].length)))] [(79,some DN)] (vB w3) [(79,some DN)]],(nA u5 v0 v8)=true]) {yb:=[(2,(decide (u5.2=0))),(6,true),(15,true)],an:=[(8, .frz [0].length (au (aj .i64) [0])),(10, .frz [1].length (au (aj .i64) [1])),(12, .arr [(⟨0,30,13334,[0]⟩:Short),(⟨1,50,8000,[1]⟩:Short)].length (ig 4 nO)),(13, .callR [78] (vB v8)),(17, .arr [13334,8000].length (au (aj .i64) [13334,8000])),(18, .callR [79] (vB w3))],fr:=[(12,78),(17,79)] } [] (ae ⟨(hb3),(hb3),(fun hg=> ⟨(rfl),((by intro i hi j hj;match i,j,hi,hj with|0,0,_,_=>rfl)),trivial⟩),(hb3),(hb3),(fun hg=> ⟨(rfl),((by intro i hi j hj;match i,j,hi,hj with|0,0,_,_=>rfl)),trivial⟩),(hb3),(hb3),(fun hg=> ⟨(rfl),(gL _ _ _),trivial⟩),(⟨rfl,trivial⟩),(hb3),(fun hg=> ⟨(Fn.xE (frz:=[78]) (p:=[[(⟨0,30,13334,[0]⟩:Short),(⟨1,50,8000,[1]⟩:Short)].length=[(⟨0,30,13334,[0]⟩:Short),(⟨1,50,8000,[1]⟩:Short)].length]) (Fn.le (args':=(Pq u5)) (bL u5.1 [(⟨0,30,13334,[0]⟩:Short),(⟨1,50,8000,[1]⟩:Short)] hr_13) ⟨dm.refl _,dm.one (cK.d (fo.sl (.inl rfl) (by intro i hi j hj;match i,j,hi,hj with|0,0,_,_=>exact .refl _|0,1,_,_=>exact .refl _|0,2,_,_=>exact .refl _|0,3,_,_=>exact fo.mH|1,0,_,_=>exact .refl _|1,1,_,_=>exact .refl _|1,2,_,_=>exact .refl _|1,3,_,_=>exact fo.mH))),trivial⟩) (by kernel_rfl) ⟨rfl,trivial⟩ rfl),trivial⟩),(hb3),(hb4),(hb4),(fun hg=> ⟨(rfl),((by intro i hi j hj;match i,j,hi,hj with|0,0,_,_=>rfl|1,0,_,_=>rfl)),trivial⟩),(⟨rfl,trivial⟩),(hb4),(fun hg=> ⟨(Fn.xE (frz:=[79]) (p:=[[13334,8000].length=[13334,8000].length]) (Fn.le (args':=(Ou v0)) (bU v0.1 [13334,8000] hr_14) ⟨dm.one (cK.d fo.mH),dm.one (cK.d fo.mH),trivial⟩) (by kernel_rfl) ⟨rfl,trivial⟩ rfl),trivial⟩),(hb4),trivial⟩) (bG.le (st':=⟨[(0,(vB w3))],[]⟩) ⟨⟨⟨_,rfl,cu.v (dm.one (cK.of (congrArg (fun b=>CV.d (.bool b)) (DC hb4))))⟩,trivial⟩,trivial⟩) ?_
        refine aR ?_
        obtain rfl:=oi h
        exact rl [(sB w3)]
       ·skip
        refine ri tT (aag u5 v0 v8) (eqs (decide (u5.2=0)) 3 [(bH u5 v0)=true,(bH u5 v0)=true,gP (oq u5) [(6,true)]→All [[0].length=1,aC 1 1 (ig 1 [(.int .i64 0)]) (au (aj .i64) [0])],(bH u5 v0)=true,(bH u5 v0)=true,gP (oq u5) [(6,true)]→All [[1].length=1,aC 1 1 (ig 1 [(.int .i64 1)]) (au (aj .i64) [1])],(bH u5 v0)=true,(bH u5 v0)=true,gP (oq u5) [(6,true)]→All [[(⟨0,30,13334,[0]⟩:Short),(⟨1,50,8000,[1]⟩:Short)].length=2,aC 2 4 (ig 4 nO) (ig 4 nO)],gP (oq u5) [(6,true)],(bH u5 v0)=true,gP (oq u5) [(6,true)]→All [Fn Try.prog 52 [(sD (Av u5)),(.one (.own 82 true ([(⟨0,30,13334,[0]⟩:Short),(⟨1,50,8000,[1]⟩:Short)].length)))] agj (vB v8) agj],(bH u5 v0)=true,(nA u5 v0 v8)=false, ¬ gP (oq u5) [(15,true)],(nA u5 v0 v8)=false, ¬ gP (oq u5) [(15,true)],(nA u5 v0 v8)=false, ¬ gP (oq u5) [(15,true)],(nA u5 v0 v8)=false]) {yb:=[(2,(decide (u5.2=0))),(6,true),(15,false)],an:=[(8, .frz [0].length (au (aj .i64) [0])),(10, .frz [1].length (au (aj .i64) [1])),(12, .arr [(⟨0,30,13334,[0]⟩:Short),(⟨1,50,8000,[1]⟩:Short)].length (ig 4 nO)),(13, .callR [82] (vB v8)),(16, .skip),(17, .skip),(18, .skip)],fr:=[(12,82)] } [] (ae ⟨(hb3),(hb3),(fun hg=> ⟨(rfl),((by intro i hi j hj;match i,j,hi,hj with|0,0,_,_=>rfl)),trivial⟩),(hb3),(hb3),(fun hg=> ⟨(rfl),((by intro i hi j hj;match i,j,hi,hj with|0,0,_,_=>rfl)),trivial⟩),(hb3),(hb3),(fun hg=> ⟨(rfl),(gL _ _ _),trivial⟩),(⟨rfl,trivial⟩),(hb3),(fun hg=> ⟨(Fn.xE (frz:=[82]) (p:=[[(⟨0,30,13334,[0]⟩:Short),(⟨1,50,8000,[1]⟩:Short)].length=[(⟨0,30,13334,[0]⟩:Short),(⟨1,50,8000,[1]⟩:Short)].length]) (Fn.le (args':=(Pq u5)) (bL u5.1 [(⟨0,30,13334,[0]⟩:Short),(⟨1,50,8000,[1]⟩:Short)] hr_13) ⟨dm.refl _,dm.one (cK.d (fo.sl (.inl rfl) (by intro i hi j hj;match i,j,hi,hj with|0,0,_,_=>exact .refl _|0,1,_,_=>exact .refl _|0,2,_,_=>exact .refl _|0,3,_,_=>exact fo.mH|1,0,_,_=>exact .refl _|1,1,_,_=>exact .refl _|1,2,_,_=>exact .refl _|1,3,_,_=>exact fo.mH))),trivial⟩) (by kernel_rfl) ⟨rfl,trivial⟩ rfl),trivial⟩),(hb3),(hb4),((fun h=>Bool.noConfusion (show false=true from h.1))),(hb4),((fun h=>Bool.noConfusion (show false=true from h.1))),(hb4),((fun h=>Bool.noConfusion (show false=true from h.1))),(hb4),trivial⟩) (bG.le (st':=⟨[(0,(vB false))],[]⟩) ⟨⟨⟨_,rfl,cu.v (dm.one (cK.of (congrArg (fun b=>CV.d (.bool b)) (DL hb4))))⟩,trivial⟩,trivial⟩) ?_
        refine aR ?_
        obtain rfl:=oi h
        exact rl [(sB false)]
      ·skip
       refine bI h (fun hb5 h=> ?_) (fun hb5 h=> ?_)
       ·skip
        refine bE h fun w4 hr_15 h=> ?_
        refine ri tT (ZY u5 v0 w4) (eqs (decide (u5.2=0)) 3 [(bH u5 v0)=false, ¬ gP (j4 u5) [(6,true)],(bH u5 v0)=false, ¬ gP (j4 u5) [(6,true)],(bH u5 v0)=false, ¬ gP (j4 u5) [(6,true)],(bH u5 v0)=false, ¬ gP (j4 u5) [(6,true)],(bH u5 v0)=false, ¬ gP (j4 u5) [(6,true)],(bH u5 v0)=false, ¬ gP (j4 u5) [(6,true)],(bH u5 v0)=false, ¬ gP (j4 u5) [(6,true)],(bH u5 v0)=false,(xH u5 v0)=true,(xH u5 v0)=true,gP (j4 u5) [(15,true)]→All [[13334,8000].length=2,aC 2 1 (ig 1 OP) (au (aj .i64) [13334,8000])],gP (j4 u5) [(15,true)],(xH u5 v0)=true,gP (j4 u5) [(15,true)]→All [Fn Try.prog 54 [(sD (Dv v0)),(.one (.own 83 true ([13334,8000].length)))] [(83,some DN)] (vB w4) [(83,some DN)]],(xH u5 v0)=true]) {yb:=[(2,(decide (u5.2=0))),(6,false),(15,true)],an:=[(7, .skip),(8, .skip),(9, .skip),(10, .skip),(11, .skip),(12, .skip),(13, .skip),(17, .arr [13334,8000].length (au (aj .i64) [13334,8000])),(18, .callR [83] (vB w4))],fr:=[(17,83)] } [] (ae ⟨(hb3),((fun h=>Bool.noConfusion (show false=true from h.1))),(hb3),((fun h=>Bool.noConfusion (show false=true from h.1))),(hb3),((fun h=>Bool.noConfusion (show false=true from h.1))),(hb3),((fun h=>Bool.noConfusion (show false=true from h.1))),(hb3),((fun h=>Bool.noConfusion (show false=true from h.1))),(hb3),((fun h=>Bool.noConfusion (show false=true from h.1))),(hb3),((fun h=>Bool.noConfusion (show false=true from h.1))),(hb3),(hb5),(hb5),(fun hg=> ⟨(rfl),((by intro i hi j hj;match i,j,hi,hj with|0,0,_,_=>rfl|1,0,_,_=>rfl)),trivial⟩),(⟨rfl,trivial⟩),(hb5),(fun hg=> ⟨(Fn.xE (frz:=[83]) (p:=[[13334,8000].length=[13334,8000].length]) (Fn.le (args':=(Ou v0)) (bU v0.1 [13334,8000] hr_15) ⟨dm.one (cK.d fo.mH),dm.one (cK.d fo.mH),trivial⟩) (by kernel_rfl) ⟨rfl,trivial⟩ rfl),trivial⟩),(hb5),trivial⟩) (bG.le (st':=⟨[(0,(vB w4))],[]⟩) ⟨⟨⟨_,rfl,cu.v (dm.one (cK.of (congrArg (fun b=>CV.d (.bool b)) (DC hb5))))⟩,trivial⟩,trivial⟩) ?_
        refine aR ?_
        obtain rfl:=oi h
        exact rl [(sB w4)]
       ·skip
        refine ri tT (Zg u5 v0) (Y8 u5 v0) {yb:=[(2,(decide (u5.2=0))),(6,false),(15,false)],an:=[(7, .skip),(8, .skip),(9, .skip),(10, .skip),(11, .skip),(12, .skip),(13, .skip),(16, .skip),(17, .skip),(18, .skip)] } [] (ae ⟨(hb3),((fun h=>Bool.noConfusion (show false=true from h.1))),(hb3),((fun h=>Bool.noConfusion (show false=true from h.1))),(hb3),((fun h=>Bool.noConfusion (show false=true from h.1))),(hb3),((fun h=>Bool.noConfusion (show false=true from h.1))),(hb3),((fun h=>Bool.noConfusion (show false=true from h.1))),(hb3),((fun h=>Bool.noConfusion (show false=true from h.1))),(hb3),((fun h=>Bool.noConfusion (show false=true from h.1))),(hb3),(hb5),((fun h=>Bool.noConfusion (show false=true from h.1))),(hb5),((fun h=>Bool.noConfusion (show false=true from h.1))),(hb5),((fun h=>Bool.noConfusion (show false=true from h.1))),(hb5),trivial⟩) (bG.le (st':=⟨[(0,(vB false))],[]⟩) ⟨⟨⟨_,rfl,cu.v (dm.one (cK.of (congrArg (fun b=>CV.d (.bool b)) (DL hb5))))⟩,trivial⟩,trivial⟩) ?_
        refine aR ?_
        obtain rfl:=oi h
        exact rl [(sB false)]
    ·skip
     refine bE h fun v7 hr_16 h=> ?_
     refine bE h fun x3 hr_17 h=> ?_
     refine rg tT ⟨[(Om u3),(PS u3),(117,(vB (bif (Wu u0 u1 u2 u4 v7)then true else(!decide (x3=0)))))],[]⟩ (eqs (!decide (u0.2.2=0)) 3 (eqs (Ii u0 u1) 3 (eqs (CU u0 u1 u2) 2 ((gP (Oj u0 u1 u2 u4 v7) [(10,false)]→All [Fn Try.prog 41 (Vm u0) [] (vI u4) []])::(eqs (CU u0 u1 u2) 2 (eqs (IB u0 u1 u2 u4) 3 ((Lr u0 u1 u2 u4)::(¬ gP (Oj u0 u1 u2 u4 v7) [(19,false)])::(Lr u0 u1 u2 u4)::(¬ gP (Oj u0 u1 u2 u4 v7) [(19,false)])::(Lr u0 u1 u2 u4)::(¬ gP (Oj u0 u1 u2 u4 v7) [(19,false)])::(Lr u0 u1 u2 u4)::(¬ gP (Oj u0 u1 u2 u4 v7) [(19,false)])::(Lr u0 u1 u2 u4)::(R7 u0 u1 u2 u4)::(R7 u0 u1 u2 u4)::(R7 u0 u1 u2 u4)::(R7 u0 u1 u2 u4)::(gP (Oj u0 u1 u2 u4 v7) [(25,false)]→All [[(⟨2,1⟩:Part),(⟨3,0⟩:Part)].length=2,aC 2 2 (ig 2 [(.int .i64 2),(.int .i64 1),(.int .i64 3),(.int .i64 0)]) (au Part.cell [(⟨2,1⟩:Part),(⟨3,0⟩:Part)])])::(gP (Oj u0 u1 u2 u4 v7) [(25,false)])::(R7 u0 u1 u2 u4)::(gP (Oj u0 u1 u2 u4 v7) [(25,false)]→All [Fn Try.prog 38 [(sD (aJ none 2 Part.cell u2.1)),(.one (.own 84 true ([(⟨2,1⟩:Part),(⟨3,0⟩:Part)].length)))] [(84,some (bO 117 2 Part.cell [(⟨2,1⟩:Part),(⟨3,0⟩:Part)]))] (vB v7) [(84,some (bO 117 2 Part.cell [(⟨2,1⟩:Part),(⟨3,0⟩:Part)]))]])::(R7 u0 u1 u2 u4)::(R7 u0 u1 u2 u4)::(eqs (Wu u0 u1 u2 u4 v7) 5 ((gP (Oj u0 u1 u2 u4 v7) [(33,false)]→All [Fn Try.prog 49 (Zr u3 u0) [] (vI x3) []])::(eqs (Wu u0 u1 u2 u4 v7) 2 [])))))))))) {yb:=[(2,(!decide (u0.2.2=0))),(6,(Ii u0 u1)),(10,(CU u0 u1 u2)),(15,(IB u0 u1 u2 u4)),(19,true),(25,false),(33,(Wu u0 u1 u2 u4 v7))],an:=[(12, .call [] (vI u4) []),(20, .skip),(21, .skip),(22, .skip),(23, .skip),(29, .arr [(⟨2,1⟩:Part),(⟨3,0⟩:Part)].length (au Part.cell [(⟨2,1⟩:Part),(⟨3,0⟩:Part)])),(30, .callR [84] (vB v7)),(38, .call [] (vI x3) [])],fr:=[(29,84)] } [] (ae (ae (ae ⟨(fun hg=> ⟨(eY u0.1 (dJ hr_9 (aN hg))),trivial⟩),(ae (ae ⟨(hb1),((fun h=>Bool.noConfusion (show true=false from h.1))),(hb1),((fun h=>Bool.noConfusion (show true=false from h.1))),(hb1),((fun h=>Bool.noConfusion (show true=false from h.1))),(hb1),((fun h=>Bool.noConfusion (show true=false from h.1))),(hb1),(hb2),(hb2),(hb2),(hb2),(fun hg=> ⟨(rfl),((by intro i hi j hj;match i,j,hi,hj with|0,0,_,_=>rfl|0,1,_,_=>rfl|1,0,_,_=>rfl|1,1,_,_=>rfl)),trivial⟩),(⟨rfl,trivial⟩),(hb2),(fun hg=> ⟨(Fn.xE (frz:=[84]) (p:=[[(⟨2,1⟩:Part),(⟨3,0⟩:Part)].length=[(⟨2,1⟩:Part),(⟨3,0⟩:Part)].length]) (Fn.le (args':=(aeG u2)) (wJ u2.1 [(⟨2,1⟩:Part),(⟨3,0⟩:Part)] hr_16) ⟨dm.refl _,dm.one (cK.d fo.mH),trivial⟩) (by kernel_rfl) ⟨rfl,trivial⟩ rfl),trivial⟩),(hb2),(hb2),(ae ⟨(fun hg=> ⟨(lT u3.1 u3.2 u0.1 u0.2.1 (dJ hr_17 (aN hg))),trivial⟩),(ae trivial)⟩)⟩))⟩))) ?_
     refine bI h (fun hb10 h=> ?_) (fun hb10 h=> ?_)
     ·refine ct hb10 ?_
      refine sz tT ⟨[(0,(vB false))],[]⟩ {} [] ?_
      refine aR ?_
      obtain rfl:=oi h
      exact rl [(sB false)]
     ·refine cf hb10 ?_
      refine aP (aQ (bE h fun u6 hr_18 h=> ?_))
      have q0:=jO u3.1 u3.2 1 hr_18
      refine rg tT (ZN u3 u6) [_] {an:=[(2,cA q0 [])] } [] ⟨q0,trivial⟩ ?_
      refine aQ (bE h fun v1 hr_19 h=> ?_)
      have q0:=gJ u3.1 u6.1 hr_19
      refine rg tT (ZF u6 v1) [_] {an:=[(2,cA q0 [])] } [] ⟨q0,trivial⟩ ?_
      refine aQ ?_
      refine bI h (fun hb7 h=> ?_) (fun hb7 h=> ?_)
      ·skip
       refine bE h fun v9 hr_20 h=> ?_
       refine bI h (fun hb8 h=> ?_) (fun hb8 h=> ?_)
       ·skip
        refine bE h fun w5 hr_21 h=> ?_
        refine ri tT (aaf u6 v1 v9 w5) (eqs (decide (u6.2=0)) 3 [(bH u6 v1)=true,(bH u6 v1)=true,gP (nV u6) [(6,true)]→All [[0].length=1,aC 1 1 (ig 1 [(.int .i64 0)]) (au (aj .i64) [0])],(bH u6 v1)=true,(bH u6 v1)=true,gP (nV u6) [(6,true)]→All [[1].length=1,aC 1 1 (ig 1 [(.int .i64 1)]) (au (aj .i64) [1])],(bH u6 v1)=true,(bH u6 v1)=true,gP (nV u6) [(6,true)]→All [[(⟨0,30,13334,[0]⟩:Short),(⟨1,50,8000,[1]⟩:Short)].length=2,aC 2 4 (ig 4 nO) (ig 4 nO)],gP (nV u6) [(6,true)],(bH u6 v1)=true,gP (nV u6) [(6,true)]→All [Fn Try.prog 52 [(sD (Av u6)),(.one (.own 90 true ([(⟨0,30,13334,[0]⟩:Short),(⟨1,50,8000,[1]⟩:Short)].length)))] aex (vB v9) aex],(bH u6 v1)=true,(nA u6 v1 v9)=true,(nA u6 v1 v9)=true,gP (nV u6) [(15,true)]→All [[13334,8000].length=2,aC 2 1 (ig 1 OP) (au (aj .i64) [13334,8000])],gP (nV u6) [(15,true)],(nA u6 v1 v9)=true,gP (nV u6) [(15,true)]→All [Fn Try.prog 54 [(sD (Dv v1)),(.one (.own 91 true ([13334,8000].length)))] [(91,some DN)] (vB w5) [(91,some DN)]],(nA u6 v1 v9)=true]) {yb:=[(2,(decide (u6.2=0))),(6,true),(15,true)],an:=[(8, .frz [0].length (au (aj .i64) [0])),(10, .frz [1].length (au (aj .i64) [1])),(12, .arr [(⟨0,30,13334,[0]⟩:Short),(⟨1,50,8000,[1]⟩:Short)].length (ig 4 nO)),(13, .callR [90] (vB v9)),(17, .arr [13334,8000].length (au (aj .i64) [13334,8000])),(18, .callR [91] (vB w5))],fr:=[(12,90),(17,91)] } [] (ae ⟨(hb7),(hb7),(fun hg=> ⟨(rfl),((by intro i hi j hj;match i,j,hi,hj with|0,0,_,_=>rfl)),trivial⟩),(hb7),(hb7),(fun hg=> ⟨(rfl),((by intro i hi j hj;match i,j,hi,hj with|0,0,_,_=>rfl)),trivial⟩),(hb7),(hb7),(fun hg=> ⟨(rfl),(gL _ _ _),trivial⟩),(⟨rfl,trivial⟩),(hb7),(fun hg=> ⟨(Fn.xE (frz:=[90]) (p:=[[(⟨0,30,13334,[0]⟩:Short),(⟨1,50,8000,[1]⟩:Short)].length=[(⟨0,30,13334,[0]⟩:Short),(⟨1,50,8000,[1]⟩:Short)].length]) (Fn.le (args':=(Pq u6)) (bL u6.1 [(⟨0,30,13334,[0]⟩:Short),(⟨1,50,8000,[1]⟩:Short)] hr_20) ⟨dm.refl _,dm.one (cK.d (fo.sl (.inl rfl) (by intro i hi j hj;match i,j,hi,hj with|0,0,_,_=>exact .refl _|0,1,_,_=>exact .refl _|0,2,_,_=>exact .refl _|0,3,_,_=>exact fo.mH|1,0,_,_=>exact .refl _|1,1,_,_=>exact .refl _|1,2,_,_=>exact .refl _|1,3,_,_=>exact fo.mH))),trivial⟩) (by kernel_rfl) ⟨rfl,trivial⟩ rfl),trivial⟩),(hb7),(hb8),(hb8),(fun hg=> ⟨(rfl),((by intro i hi j hj;match i,j,hi,hj with|0,0,_,_=>rfl|1,0,_,_=>rfl)),trivial⟩),(⟨rfl,trivial⟩),(hb8),(fun hg=> ⟨(Fn.xE (frz:=[91]) (p:=[[13334,8000].length=[13334,8000].length]) (Fn.le (args':=(Ou v1)) (bU v1.1 [13334,8000] hr_21) ⟨dm.one (cK.d fo.mH),dm.one (cK.d fo.mH),trivial⟩) (by kernel_rfl) ⟨rfl,trivial⟩ rfl),trivial⟩),(hb8),trivial⟩) (bG.le (st':=⟨[(0,(vB w5))],[]⟩) ⟨⟨⟨_,rfl,cu.v (dm.one (cK.of (congrArg (fun b=>CV.d (.bool b)) (DC hb8))))⟩,trivial⟩,trivial⟩) ?_
        refine aR ?_
        obtain rfl:=oi h
        exact rl [(sB w5)]
       ·skip
        refine ri tT (aag u6 v1 v9) (eqs (decide (u6.2=0)) 3 [(bH u6 v1)=true,(bH u6 v1)=true,gP (oq u6) [(6,true)]→All [[0].length=1,aC 1 1 (ig 1 [(.int .i64 0)]) (au (aj .i64) [0])],(bH u6 v1)=true,(bH u6 v1)=true,gP (oq u6) [(6,true)]→All [[1].length=1,aC 1 1 (ig 1 [(.int .i64 1)]) (au (aj .i64) [1])],(bH u6 v1)=true,(bH u6 v1)=true,gP (oq u6) [(6,true)]→All [[(⟨0,30,13334,[0]⟩:Short),(⟨1,50,8000,[1]⟩:Short)].length=2,aC 2 4 (ig 4 nO) (ig 4 nO)],gP (oq u6) [(6,true)],(bH u6 v1)=true,gP (oq u6) [(6,true)]→All [Fn Try.prog 52 [(sD (Av u6)),(.one (.own 94 true ([(⟨0,30,13334,[0]⟩:Short),(⟨1,50,8000,[1]⟩:Short)].length)))] ahN (vB v9) ahN],(bH u6 v1)=true,(nA u6 v1 v9)=false, ¬ gP (oq u6) [(15,true)],(nA u6 v1 v9)=false, ¬ gP (oq u6) [(15,true)],(nA u6 v1 v9)=false, ¬ gP (oq u6) [(15,true)],(nA u6 v1 v9)=false]) {yb:=[(2,(decide (u6.2=0))),(6,true),(15,false)],an:=[(8, .frz [0].length (au (aj .i64) [0])),(10, .frz [1].length (au (aj .i64) [1])),(12, .arr [(⟨0,30,13334,[0]⟩:Short),(⟨1,50,8000,[1]⟩:Short)].length (ig 4 nO)),(13, .callR [94] (vB v9)),(16, .skip),(17, .skip),(18, .skip)],fr:=[(12,94)] } [] (ae ⟨(hb7),(hb7),(fun hg=> ⟨(rfl),((by intro i hi j hj;match i,j,hi,hj with|0,0,_,_=>rfl)),trivial⟩),(hb7),(hb7),(fun hg=> ⟨(rfl),((by intro i hi j hj;match i,j,hi,hj with|0,0,_,_=>rfl)),trivial⟩),(hb7),(hb7),(fun hg=> ⟨(rfl),(gL _ _ _),trivial⟩),(⟨rfl,trivial⟩),(hb7),(fun hg=> ⟨(Fn.xE (frz:=[94]) (p:=[[(⟨0,30,13334,[0]⟩:Short),(⟨1,50,8000,[1]⟩:Short)].length=[(⟨0,30,13334,[0]⟩:Short),(⟨1,50,8000,[1]⟩:Short)].length]) (Fn.le (args':=(Pq u6)) (bL u6.1 [(⟨0,30,13334,[0]⟩:Short),(⟨1,50,8000,[1]⟩:Short)] hr_20) ⟨dm.refl _,dm.one (cK.d (fo.sl (.inl rfl) (by intro i hi j hj;match i,j,hi,hj with|0,0,_,_=>exact .refl _|0,1,_,_=>exact .refl _|0,2,_,_=>exact .refl _|0,3,_,_=>exact fo.mH|1,0,_,_=>exact .refl _|1,1,_,_=>exact .refl _|1,2,_,_=>exact .refl _|1,3,_,_=>exact fo.mH))),trivial⟩) (by kernel_rfl) ⟨rfl,trivial⟩ rfl),trivial⟩),(hb7),(hb8),((fun h=>Bool.noConfusion (show false=true from h.1))),(hb8),((fun h=>Bool.noConfusion (show false=true from h.1))),(hb8),((fun h=>Bool.noConfusion (show false=true from h.1))),(hb8),trivial⟩) (bG.le (st':=⟨[(0,(vB false))],[]⟩) ⟨⟨⟨_,rfl,cu.v (dm.one (cK.of (congrArg (fun b=>CV.d (.bool b)) (DL hb8))))⟩,trivial⟩,trivial⟩) ?_
        refine aR ?_
        obtain rfl:=oi h
        exact rl [(sB false)]
      ·skip
       refine bI h (fun hb9 h=> ?_) (fun hb9 h=> ?_)
       ·skip
        refine bE h fun w6 hr_22 h=> ?_
        refine ri tT (ZY u6 v1 w6) (eqs (decide (u6.2=0)) 3 [(bH u6 v1)=false, ¬ gP (j4 u6) [(6,true)],(bH u6 v1)=false, ¬ gP (j4 u6) [(6,true)],(bH u6 v1)=false, ¬ gP (j4 u6) [(6,true)],(bH u6 v1)=false, ¬ gP (j4 u6) [(6,true)],(bH u6 v1)=false, ¬ gP (j4 u6) [(6,true)],(bH u6 v1)=false, ¬ gP (j4 u6) [(6,true)],(bH u6 v1)=false, ¬ gP (j4 u6) [(6,true)],(bH u6 v1)=false,(xH u6 v1)=true,(xH u6 v1)=true,gP (j4 u6) [(15,true)]→All [[13334,8000].length=2,aC 2 1 (ig 1 OP) (au (aj .i64) [13334,8000])],gP (j4 u6) [(15,true)],(xH u6 v1)=true,gP (j4 u6) [(15,true)]→All [Fn Try.prog 54 [(sD (Dv v1)),(.one (.own 95 true ([13334,8000].length)))] [(95,some DN)] (vB w6) [(95,some DN)]],(xH u6 v1)=true]) {yb:=[(2,(decide (u6.2=0))),(6,false),(15,true)],an:=[(7, .skip),(8, .skip),(9, .skip),(10, .skip),(11, .skip),(12, .skip),(13, .skip),(17, .arr [13334,8000].length (au (aj .i64) [13334,8000])),(18, .callR [95] (vB w6))],fr:=[(17,95)] } [] (ae ⟨(hb7),((fun h=>Bool.noConfusion (show false=true from h.1))),(hb7),((fun h=>Bool.noConfusion (show false=true from h.1))),(hb7),((fun h=>Bool.noConfusion (show false=true from h.1))),(hb7),((fun h=>Bool.noConfusion (show false=true from h.1))),(hb7),((fun h=>Bool.noConfusion (show false=true from h.1))),(hb7),((fun h=>Bool.noConfusion (show false=true from h.1))),(hb7),((fun h=>Bool.noConfusion (show false=true from h.1))),(hb7),(hb9),(hb9),(fun hg=> ⟨(rfl),((by intro i hi j hj;match i,j,hi,hj with|0,0,_,_=>rfl|1,0,_,_=>rfl)),trivial⟩),(⟨rfl,trivial⟩),(hb9),(fun hg=> ⟨(Fn.xE (frz:=[95]) (p:=[[13334,8000].length=[13334,8000].length]) (Fn.le (args':=(Ou v1)) (bU v1.1 [13334,8000] hr_22) ⟨dm.one (cK.d fo.mH),dm.one (cK.d fo.mH),trivial⟩) (by kernel_rfl) ⟨rfl,trivial⟩ rfl),trivial⟩),(hb9),trivial⟩) (bG.le (st':=⟨[(0,(vB w6))],[]⟩) ⟨⟨⟨_,rfl,cu.v (dm.one (cK.of (congrArg (fun b=>CV.d (.bool b)) (DC hb9))))⟩,trivial⟩,trivial⟩) ?_
        refine aR ?_
        obtain rfl:=oi h
        exact rl [(sB w6)]
       ·skip
        refine ri tT (Zg u6 v1) (Y8 u6 v1) {yb:=[(2,(decide (u6.2=0))),(6,false),(15,false)],an:=[(7, .skip),(8, .skip),(9, .skip),(10, .skip),(11, .skip),(12, .skip),(13, .skip),(16, .skip),(17, .skip),(18, .skip)] } [] (ae ⟨(hb7),((fun h=>Bool.noConfusion (show false=true from h.1))),(hb7),((fun h=>Bool.noConfusion (show false=true from h.1))),(hb7),((fun h=>Bool.noConfusion (show false=true from h.1))),(hb7),((fun h=>Bool.noConfusion (show false=true from h.1))),(hb7),((fun h=>Bool.noConfusion (show false=true from h.1))),(hb7),((fun h=>Bool.noConfusion (show false=true from h.1))),(hb7),((fun h=>Bool.noConfusion (show false=true from h.1))),(hb7),(hb9),((fun h=>Bool.noConfusion (show false=true from h.1))),(hb9),((fun h=>Bool.noConfusion (show false=true from h.1))),(hb9),((fun h=>Bool.noConfusion (show false=true from h.1))),(hb9),trivial⟩) (bG.le (st':=⟨[(0,(vB false))],[]⟩) ⟨⟨⟨_,rfl,cu.v (dm.one (cK.of (congrArg (fun b=>CV.d (.bool b)) (DL hb9))))⟩,trivial⟩,trivial⟩) ?_
        refine aR ?_
        obtain rfl:=oi h
        exact rl [(sB false)]
   ·skip
    refine bE h fun v5 hr_23 h=> ?_
    refine bI h (fun hb11 h=> ?_) (fun hb11 h=> ?_)
    ·skip
     refine bE h fun x4 hr_24 h=> ?_
     refine rg tT ⟨[(Om u3),(PS u3),(117,(vB (bif (WS u0 u1 u2 u4 v5)then true else(!decide (x4=0)))))],[]⟩ (eqs (!decide (u0.2.2=0)) 3 (eqs (Ii u0 u1) 3 (eqs (CU u0 u1 u2) 2 ((gP (J5 u0 u1 u2 u4 v5) [(10,false)]→All [Fn Try.prog 41 (Vm u0) [] (vI u4) []])::(eqs (CU u0 u1 u2) 2 (eqs (IB u0 u1 u2 u4) 3 ((Lv u0 u1 u2 u4)::(Lv u0 u1 u2 u4)::(gP (J5 u0 u1 u2 u4 v5) [(19,false)]→All [[true,false,false].length=3,aC 3 1 (ig 1 [(.bool true),(.bool false),(.bool false)]) (au ai [true,false,false])])::(gP (J5 u0 u1 u2 u4 v5) [(19,false)])::(Lv u0 u1 u2 u4)::(gP (J5 u0 u1 u2 u4 v5) [(19,false)]→All [Fn Try.prog 42 [(sD (Ld u0)),(.one (.own 97 true ([true,false,false].length)))] [(97,some (bO 4 1 ai [true,false,false]))] (vB v5) [(97,some (bO 4 1 ai [true,false,false]))]])::(Lv u0 u1 u2 u4)::(Lv u0 u1 u2 u4)::(Rt u0 u1 u2 u4 v5)::(¬ gP (J5 u0 u1 u2 u4 v5) [(25,false)])::(Rt u0 u1 u2 u4 v5)::(¬ gP (J5 u0 u1 u2 u4 v5) [(25,false)])::(Rt u0 u1 u2 u4 v5)::(¬ gP (J5 u0 u1 u2 u4 v5) [(25,false)])::(Rt u0 u1 u2 u4 v5)::(¬ gP (J5 u0 u1 u2 u4 v5) [(25,false)])::(Rt u0 u1 u2 u4 v5)::(¬ gP (J5 u0 u1 u2 u4 v5) [(25,false)])::(Rt u0 u1 u2 u4 v5)::(¬ gP (J5 u0 u1 u2 u4 v5) [(25,false)])::(Rt u0 u1 u2 u4 v5)::(eqs (WS u0 u1 u2 u4 v5) 5 ((gP (J5 u0 u1 u2 u4 v5) [(33,false)]→All [Fn Try.prog 49 (Zr u3 u0) [] (vI x4) []])::(eqs (WS u0 u1 u2 u4 v5) 2 [])))))))))) {yb:=[(2,(!decide (u0.2.2=0))),(6,(Ii u0 u1)),(10,(CU u0 u1 u2)),(15,(IB u0 u1 u2 u4)),(19,false),(25,true),(33,(WS u0 u1 u2 u4 v5))],an:=[(12, .call [] (vI u4) []),(21, .arr [true,false,false].length (au ai [true,false,false])),(22, .callR [97] (vB v5)),(26, .skip),(27, .skip),(28, .skip),(29, .skip),(30, .skip),(31, .skip),(38, .call [] (vI x4) [])],fr:=[(21,97)] } [] (ae (ae (ae ⟨(fun hg=> ⟨(eY u0.1 (dJ hr_9 (aN hg))),trivial⟩),(ae (ae ⟨(hb1),(hb1),(fun hg=> ⟨(rfl),((by intro i hi j hj;match i,j,hi,hj with|0,0,_,_=>rfl|1,0,_,_=>rfl|2,0,_,_=>rfl)),trivial⟩),(⟨rfl,trivial⟩),(hb1),(fun hg=> ⟨(Fn.xE (frz:=[97]) (p:=[[true,false,false].length=[true,false,false].length]) (Fn.le (args':=[(sD (Ld u0)),(sD (aJ (some true) 1 ai [true,false,false]))]) (nQ u0.2.1 [true,false,false] hr_23) ⟨dm.refl _,dm.one (cK.d fo.mH),trivial⟩) (by kernel_rfl) ⟨rfl,trivial⟩ rfl),trivial⟩),(hb1),(hb1),(hb11),((fun h=>Bool.noConfusion (show true=false from h.1))),(hb11),((fun h=>Bool.noConfusion (show true=false from h.1))),(hb11),((fun h=>Bool.noConfusion (show true=false from h.1))),(hb11),((fun h=>Bool.noConfusion (show true=false from h.1))),(hb11),((fun h=>Bool.noConfusion (show true=false from h.1))),(hb11),((fun h=>Bool.noConfusion (show true=false from h.1))),(hb11),(ae ⟨(fun hg=> ⟨(lT u3.1 u3.2 u0.1 u0.2.1 (dJ hr_24 (aN hg))),trivial⟩),(ae trivial)⟩)⟩))⟩))) ?_
     refine bI h (fun hb15 h=> ?_) (fun hb15 h=> ?_)
     ·refine ct hb15 ?_
      refine sz tT ⟨[(0,(vB false))],[]⟩ {} [] ?_
      refine aR ?_
      obtain rfl:=oi h
      exact rl [(sB false)]
     ·refine cf hb15 ?_
      refine aP (aQ (bE h fun u7 hr_25 h=> ?_))
      have q0:=jO u3.1 u3.2 1 hr_25
      refine rg tT (ZN u3 u7) [_] {an:=[(2,cA q0 [])] } [] ⟨q0,trivial⟩ ?_
      refine aQ (bE h fun v2 hr_26 h=> ?_)
      have q0:=gJ u3.1 u7.1 hr_26
      refine rg tT (ZF u7 v2) [_] {an:=[(2,cA q0 [])] } [] ⟨q0,trivial⟩ ?_
      refine aQ ?_
      refine bI h (fun hb12 h=> ?_) (fun hb12 h=> ?_)
      ·skip
       refine bE h fun w0 hr_27 h=> ?_
       refine bI h (fun hb13 h=> ?_) (fun hb13 h=> ?_)
       ·skip
        refine bE h fun w7 hr_28 h=> ?_
        refine ri tT (aaf u7 v2 w0 w7) (eqs (decide (u7.2=0)) 3 [(bH u7 v2)=true,(bH u7 v2)=true,gP (nV u7) [(6,true)]→All [[0].length=1,aC 1 1 (ig 1 [(.int .i64 0)]) (au (aj .i64) [0])],(bH u7 v2)=true,(bH u7 v2)=true,gP (nV u7) [(6,true)]→All [[1].length=1,aC 1 1 (ig 1 [(.int .i64 1)]) (au (aj .i64) [1])],(bH u7 v2)=true,(bH u7 v2)=true,gP (nV u7) [(6,true)]→All [[(⟨0,30,13334,[0]⟩:Short),(⟨1,50,8000,[1]⟩:Short)].length=2,aC 2 4 (ig 4 nO) (ig 4 nO)],gP (nV u7) [(6,true)],(bH u7 v2)=true,gP (nV u7) [(6,true)]→All [Fn Try.prog 52 [(sD (Av u7)),(.one (.own 103 true ([(⟨0,30,13334,[0]⟩:Short),(⟨1,50,8000,[1]⟩:Short)].length)))] ahD (vB w0) ahD],(bH u7 v2)=true,(nA u7 v2 w0)=true,(nA u7 v2 w0)=true,gP (nV u7) [(15,true)]→All [[13334,8000].length=2,aC 2 1 (ig 1 OP) (au (aj .i64) [13334,8000])],gP (nV u7) [(15,true)],(nA u7 v2 w0)=true,gP (nV u7) [(15,true)]→All [Fn Try.prog 54 [(sD (Dv v2)),(.one (.own 104 true ([13334,8000].length)))] [(104,some DN)] (vB w7) [(104,some DN)]],(nA u7 v2 w0)=true]) {yb:=[(2,(decide (u7.2=0))),(6,true),(15,true)],an:=[(8, .frz [0].length (au (aj .i64) [0])),(10, .frz [1].length (au (aj .i64) [1])),(12, .arr [(⟨0,30,13334,[0]⟩:Short),(⟨1,50,8000,[1]⟩:Short)].length (ig 4 nO)),(13, .callR [103] (vB w0)),(17, .arr [13334,8000].length (au (aj .i64) [13334,8000])),(18, .callR [104] (vB w7))],fr:=[(12,103),(17,104)] } [] (ae ⟨(hb12),(hb12),(fun hg=> ⟨(rfl),((by intro i hi j hj;match i,j,hi,hj with|0,0,_,_=>rfl)),trivial⟩),(hb12),(hb12),(fun hg=> ⟨(rfl),((by intro i hi j hj;match i,j,hi,hj with|0,0,_,_=>rfl)),trivial⟩),(hb12),(hb12),(fun hg=> ⟨(rfl),(gL _ _ _),trivial⟩),(⟨rfl,trivial⟩),(hb12),(fun hg=> ⟨(Fn.xE (frz:=[103]) (p:=[[(⟨0,30,13334,[0]⟩:Short),(⟨1,50,8000,[1]⟩:Short)].length=[(⟨0,30,13334,[0]⟩:Short),(⟨1,50,8000,[1]⟩:Short)].length]) (Fn.le (args':=(Pq u7)) (bL u7.1 [(⟨0,30,13334,[0]⟩:Short),(⟨1,50,8000,[1]⟩:Short)] hr_27) ⟨dm.refl _,dm.one (cK.d (fo.sl (.inl rfl) (by intro i hi j hj;match i,j,hi,hj with|0,0,_,_=>exact .refl _|0,1,_,_=>exact .refl _|0,2,_,_=>exact .refl _|0,3,_,_=>exact fo.mH|1,0,_,_=>exact .refl _|1,1,_,_=>exact .refl _|1,2,_,_=>exact .refl _|1,3,_,_=>exact fo.mH))),trivial⟩) (by kernel_rfl) ⟨rfl,trivial⟩ rfl),trivial⟩),(hb12),(hb13),(hb13),(fun hg=> ⟨(rfl),((by intro i hi j hj;match i,j,hi,hj with|0,0,_,_=>rfl|1,0,_,_=>rfl)),trivial⟩),(⟨rfl,trivial⟩),(hb13),(fun hg=> ⟨(Fn.xE (frz:=[104]) (p:=[[13334,8000].length=[13334,8000].length]) (Fn.le (args':=(Ou v2)) (bU v2.1 [13334,8000] hr_28) ⟨dm.one (cK.d fo.mH),dm.one (cK.d fo.mH),trivial⟩) (by kernel_rfl) ⟨rfl,trivial⟩ rfl),trivial⟩),(hb13),trivial⟩) (bG.le (st':=⟨[(0,(vB w7))],[]⟩) ⟨⟨⟨_,rfl,cu.v (dm.one (cK.of (congrArg (fun b=>CV.d (.bool b)) (DC hb13))))⟩,trivial⟩,trivial⟩) ?_
        refine aR ?_
        obtain rfl:=oi h
        exact rl [(sB w7)]
       ·skip
        refine ri tT (aag u7 v2 w0) (eqs (decide (u7.2=0)) 3 [(bH u7 v2)=true,(bH u7 v2)=true,gP (oq u7) [(6,true)]→All [[0].length=1,aC 1 1 (ig 1 [(.int .i64 0)]) (au (aj .i64) [0])],(bH u7 v2)=true,(bH u7 v2)=true,gP (oq u7) [(6,true)]→All [[1].length=1,aC 1 1 (ig 1 [(.int .i64 1)]) (au (aj .i64) [1])],(bH u7 v2)=true,(bH u7 v2)=true,gP (oq u7) [(6,true)]→All [[(⟨0,30,13334,[0]⟩:Short),(⟨1,50,8000,[1]⟩:Short)].length=2,aC 2 4 (ig 4 nO) (ig 4 nO)],gP (oq u7) [(6,true)],(bH u7 v2)=true,gP (oq u7) [(6,true)]→All [Fn Try.prog 52 [(sD (Av u7)),(.one (.own 107 true ([(⟨0,30,13334,[0]⟩:Short),(⟨1,50,8000,[1]⟩:Short)].length)))] aiG (vB w0) aiG],(bH u7 v2)=true,(nA u7 v2 w0)=false, ¬ gP (oq u7) [(15,true)],(nA u7 v2 w0)=false, ¬ gP (oq u7) [(15,true)],(nA u7 v2 w0)=false, ¬ gP (oq u7) [(15,true)],(nA u7 v2 w0)=false]) {yb:=[(2,(decide (u7.2=0))),(6,true),(15,false)],an:=[(8, .frz [0].length (au (aj .i64) [0])),(10, .frz [1].length (au (aj .i64) [1])),(12, .arr [(⟨0,30,13334,[0]⟩:Short),(⟨1,50,8000,[1]⟩:Short)].length (ig 4 nO)),(13, .callR [107] (vB w0)),(16, .skip),(17, .skip),(18, .skip)],fr:=[(12,107)] } [] (ae ⟨(hb12),(hb12),(fun hg=> ⟨(rfl),((by intro i hi j hj;match i,j,hi,hj with|0,0,_,_=>rfl)),trivial⟩),(hb12),(hb12),(fun hg=> ⟨(rfl),((by intro i hi j hj;match i,j,hi,hj with|0,0,_,_=>rfl)),trivial⟩),(hb12),(hb12),(fun hg=> ⟨(rfl),(gL _ _ _),trivial⟩),(⟨rfl,trivial⟩),(hb12),(fun hg=> ⟨(Fn.xE (frz:=[107]) (p:=[[(⟨0,30,13334,[0]⟩:Short),(⟨1,50,8000,[1]⟩:Short)].length=[(⟨0,30,13334,[0]⟩:Short),(⟨1,50,8000,[1]⟩:Short)].length]) (Fn.le (args':=(Pq u7)) (bL u7.1 [(⟨0,30,13334,[0]⟩:Short),(⟨1,50,8000,[1]⟩:Short)] hr_27) ⟨dm.refl _,dm.one (cK.d (fo.sl (.inl rfl) (by intro i hi j hj;match i,j,hi,hj with|0,0,_,_=>exact .refl _|0,1,_,_=>exact .refl _|0,2,_,_=>exact .refl _|0,3,_,_=>exact fo.mH|1,0,_,_=>exact .refl _|1,1,_,_=>exact .refl _|1,2,_,_=>exact .refl _|1,3,_,_=>exact fo.mH))),trivial⟩) (by kernel_rfl) ⟨rfl,trivial⟩ rfl),trivial⟩),(hb12),(hb13),((fun h=>Bool.noConfusion (show false=true from h.1))),(hb13),((fun h=>Bool.noConfusion (show false=true from h.1))),(hb13),((fun h=>Bool.noConfusion (show false=true from h.1))),(hb13),trivial⟩) (bG.le (st':=⟨[(0,(vB false))],[]⟩) ⟨⟨⟨_,rfl,cu.v (dm.one (cK.of (congrArg (fun b=>CV.d (.bool b)) (DL hb13))))⟩,trivial⟩,trivial⟩) ?_
        refine aR ?_
        obtain rfl:=oi h
        exact rl [(sB false)]
      ·skip
       refine bI h (fun hb14 h=> ?_) (fun hb14 h=> ?_)
       ·skip
        refine bE h fun w8 hr_29 h=> ?_
        refine ri tT (ZY u7 v2 w8) (eqs (decide (u7.2=0)) 3 [(bH u7 v2)=false, ¬ gP (j4 u7) [(6,true)],(bH u7 v2)=false, ¬ gP (j4 u7) [(6,true)],(bH u7 v2)=false, ¬ gP (j4 u7) [(6,true)],(bH u7 v2)=false, ¬ gP (j4 u7) [(6,true)],(bH u7 v2)=false, ¬ gP (j4 u7) [(6,true)],(bH u7 v2)=false, ¬ gP (j4 u7) [(6,true)],(bH u7 v2)=false, ¬ gP (j4 u7) [(6,true)],(bH u7 v2)=false,(xH u7 v2)=true,(xH u7 v2)=true,gP (j4 u7) [(15,true)]→All [[13334,8000].length=2,aC 2 1 (ig 1 OP) (au (aj .i64) [13334,8000])],gP (j4 u7) [(15,true)],(xH u7 v2)=true,gP (j4 u7) [(15,true)]→All [Fn Try.prog 54 [(sD (Dv v2)),(.one (.own 108 true ([13334,8000].length)))] [(108,some DN)] (vB w8) [(108,some DN)]],(xH u7 v2)=true]) {yb:=[(2,(decide (u7.2=0))),(6,false),(15,true)],an:=[(7, .skip),(8, .skip),(9, .skip),(10, .skip),(11, .skip),(12, .skip),(13, .skip),(17, .arr [13334,8000].length (au (aj .i64) [13334,8000])),(18, .callR [108] (vB w8))],fr:=[(17,108)] } [] (ae ⟨(hb12),((fun h=>Bool.noConfusion (show false=true from h.1))),(hb12),((fun h=>Bool.noConfusion (show false=true from h.1))),(hb12),((fun h=>Bool.noConfusion (show false=true from h.1))),(hb12),((fun h=>Bool.noConfusion (show false=true from h.1))),(hb12),((fun h=>Bool.noConfusion (show false=true from h.1))),(hb12),((fun h=>Bool.noConfusion (show false=true from h.1))),(hb12),((fun h=>Bool.noConfusion (show false=true from h.1))),(hb12),(hb14),(hb14),(fun hg=> ⟨(rfl),((by intro i hi j hj;match i,j,hi,hj with|0,0,_,_=>rfl|1,0,_,_=>rfl)),trivial⟩),(⟨rfl,trivial⟩),(hb14),(fun hg=> ⟨(Fn.xE (frz:=[108]) (p:=[[13334,8000].length=[13334,8000].length]) (Fn.le (args':=(Ou v2)) (bU v2.1 [13334,8000] hr_29) ⟨dm.one (cK.d fo.mH),dm.one (cK.d fo.mH),trivial⟩) (by kernel_rfl) ⟨rfl,trivial⟩ rfl),trivial⟩),(hb14),trivial⟩) (bG.le (st':=⟨[(0,(vB w8))],[]⟩) ⟨⟨⟨_,rfl,cu.v (dm.one (cK.of (congrArg (fun b=>CV.d (.bool b)) (DC hb14))))⟩,trivial⟩,trivial⟩) ?_
        refine aR ?_
        obtain rfl:=oi h
        exact rl [(sB w8)]
       ·skip
        refine ri tT (Zg u7 v2) (Y8 u7 v2) {yb:=[(2,(decide (u7.2=0))),(6,false),(15,false)],an:=[(7, .skip),(8, .skip),(9, .skip),(10, .skip),(11, .skip),(12, .skip),(13, .skip),(16, .skip),(17, .skip),(18, .skip)] } [] (ae ⟨(hb12),((fun h=>Bool.noConfusion (show false=true from h.1))),(hb12),((fun h=>Bool.noConfusion (show false=true from h.1))),(hb12),((fun h=>Bool.noConfusion (show false=true from h.1))),(hb12),((fun h=>Bool.noConfusion (show false=true from h.1))),(hb12),((fun h=>Bool.noConfusion (show false=true from h.1))),(hb12),((fun h=>Bool.noConfusion (show false=true from h.1))),(hb12),((fun h=>Bool.noConfusion (show false=true from h.1))),(hb12),(hb14),((fun h=>Bool.noConfusion (show false=true from h.1))),(hb14),((fun h=>Bool.noConfusion (show false=true from h.1))),(hb14),((fun h=>Bool.noConfusion (show false=true from h.1))),(hb14),trivial⟩) (bG.le (st':=⟨[(0,(vB false))],[]⟩) ⟨⟨⟨_,rfl,cu.v (dm.one (cK.of (congrArg (fun b=>CV.d (.bool b)) (DL hb14))))⟩,trivial⟩,trivial⟩) ?_
        refine aR ?_
        obtain rfl:=oi h
        exact rl [(sB false)]
    ·skip
     refine bE h fun w1 hr_30 h=> ?_
     refine bE h fun x5 hr_31 h=> ?_
     refine rg tT ⟨[(Om u3),(PS u3),(117,(vB (bif (XH u0 u1 u2 u4 v5 w1)then true else(!decide (x5=0)))))],[]⟩ (eqs (!decide (u0.2.2=0)) 3 (eqs (Ii u0 u1) 3 (eqs (CU u0 u1 u2) 2 ((gP (O7 u0 u1 u2 u4 v5 w1) [(10,false)]→All [Fn Try.prog 41 (Vm u0) [] (vI u4) []])::(eqs (CU u0 u1 u2) 2 (eqs (IB u0 u1 u2 u4) 3 ((Lv u0 u1 u2 u4)::(Lv u0 u1 u2 u4)::(gP (O7 u0 u1 u2 u4 v5 w1) [(19,false)]→All [[true,false,false].length=3,aC 3 1 (ig 1 [(.bool true),(.bool false),(.bool false)]) (au ai [true,false,false])])::(gP (O7 u0 u1 u2 u4 v5 w1) [(19,false)])::(Lv u0 u1 u2 u4)::(gP (O7 u0 u1 u2 u4 v5 w1) [(19,false)]→All [Fn Try.prog 42 [(sD (Ld u0)),(.one (.own 109 true ([true,false,false].length)))] [(109,some (bO 4 1 ai [true,false,false]))] (vB v5) [(109,some (bO 4 1 ai [true,false,false]))]])::(Lv u0 u1 u2 u4)::(Lv u0 u1 u2 u4)::(Si u0 u1 u2 u4 v5)::(Si u0 u1 u2 u4 v5)::(Si u0 u1 u2 u4 v5)::(Si u0 u1 u2 u4 v5)::(gP (O7 u0 u1 u2 u4 v5 w1) [(25,false)]→All [[(⟨2,1⟩:Part),(⟨3,0⟩:Part)].length=2,aC 2 2 (ig 2 [(.int .i64 2),(.int .i64 1),(.int .i64 3),(.int .i64 0)]) (au Part.cell [(⟨2,1⟩:Part),(⟨3,0⟩:Part)])])::(gP (O7 u0 u1 u2 u4 v5 w1) [(25,false)])::(Si u0 u1 u2 u4 v5)::(gP (O7 u0 u1 u2 u4 v5 w1) [(25,false)]→All [Fn Try.prog 38 [(sD (aJ none 2 Part.cell u2.1)),(.one (.own 110 true ([(⟨2,1⟩:Part),(⟨3,0⟩:Part)].length)))] [(110,some (bO 117 2 Part.cell [(⟨2,1⟩:Part),(⟨3,0⟩:Part)]))] (vB w1) [(110,some (bO 117 2 Part.cell [(⟨2,1⟩:Part),(⟨3,0⟩:Part)]))]])::(Si u0 u1 u2 u4 v5)::(Si u0 u1 u2 u4 v5)::(eqs (XH u0 u1 u2 u4 v5 w1) 5 ((gP (O7 u0 u1 u2 u4 v5 w1) [(33,false)]→All [Fn Try.prog 49 (Zr u3 u0) [] (vI x5) []])::(eqs (XH u0 u1 u2 u4 v5 w1) 2 [])))))))))) {yb:=[(2,(!decide (u0.2.2=0))),(6,(Ii u0 u1)),(10,(CU u0 u1 u2)),(15,(IB u0 u1 u2 u4)),(19,false),(25,false),(33,(XH u0 u1 u2 u4 v5 w1))],an:=[(12, .call [] (vI u4) []),(21, .arr [true,false,false].length (au ai [true,false,false])),(22, .callR [109] (vB v5)),(29, .arr [(⟨2,1⟩:Part),(⟨3,0⟩:Part)].length (au Part.cell [(⟨2,1⟩:Part),(⟨3,0⟩:Part)])),(30, .callR [110] (vB w1)),(38, .call [] (vI x5) [])],fr:=[(21,109),(29,110)] } [] (ae (ae (ae ⟨(fun hg=> ⟨(eY u0.1 (dJ hr_9 (aN hg))),trivial⟩),(ae (ae ⟨(hb1),(hb1),(fun hg=> ⟨(rfl),((by intro i hi j hj;match i,j,hi,hj with|0,0,_,_=>rfl|1,0,_,_=>rfl|2,0,_,_=>rfl)),trivial⟩),(⟨rfl,trivial⟩),(hb1),(fun hg=> ⟨(Fn.xE (frz:=[109]) (p:=[[true,false,false].length=[true,false,false].length]) (Fn.le (args':=[(sD (Ld u0)),(sD (aJ (some true) 1 ai [true,false,false]))]) (nQ u0.2.1 [true,false,false] hr_23) ⟨dm.refl _,dm.one (cK.d fo.mH),trivial⟩) (by kernel_rfl) ⟨rfl,trivial⟩ rfl),trivial⟩),(hb1),(hb1),(hb11),(hb11),(hb11),(hb11),(fun hg=> ⟨(rfl),((by intro i hi j hj;match i,j,hi,hj with|0,0,_,_=>rfl|0,1,_,_=>rfl|1,0,_,_=>rfl|1,1,_,_=>rfl)),trivial⟩),(⟨rfl,trivial⟩),(hb11),(fun hg=> ⟨(Fn.xE (frz:=[110]) (p:=[[(⟨2,1⟩:Part),(⟨3,0⟩:Part)].length=[(⟨2,1⟩:Part),(⟨3,0⟩:Part)].length]) (Fn.le (args':=(aeG u2)) (wJ u2.1 [(⟨2,1⟩:Part),(⟨3,0⟩:Part)] hr_30) ⟨dm.refl _,dm.one (cK.d fo.mH),trivial⟩) (by kernel_rfl) ⟨rfl,trivial⟩ rfl),trivial⟩),(hb11),(hb11),(ae ⟨(fun hg=> ⟨(lT u3.1 u3.2 u0.1 u0.2.1 (dJ hr_31 (aN hg))),trivial⟩),(ae trivial)⟩)⟩))⟩))) ?_
     refine bI h (fun hb19 h=> ?_) (fun hb19 h=> ?_)
     ·refine ct hb19 ?_
      refine sz tT ⟨[(0,(vB false))],[]⟩ {} [] ?_
      refine aR ?_
      obtain rfl:=oi h
      exact rl [(sB false)]
     ·refine cf hb19 ?_
      refine aP (aQ (bE h fun u8 hr_32 h=> ?_))
      have q0:=jO u3.1 u3.2 1 hr_32
      refine rg tT (ZN u3 u8) [_] {an:=[(2,cA q0 [])] } [] ⟨q0,trivial⟩ ?_
      refine aQ (bE h fun v3 hr_33 h=> ?_)
      have q0:=gJ u3.1 u8.1 hr_33
      refine rg tT (ZF u8 v3) [_] {an:=[(2,cA q0 [])] } [] ⟨q0,trivial⟩ ?_
      refine aQ ?_
      refine bI h (fun hb16 h=> ?_) (fun hb16 h=> ?_)
      ·skip
       refine bE h fun w2 hr_34 h=> ?_
       refine bI h (fun hb17 h=> ?_) (fun hb17 h=> ?_)
       ·skip
        refine bE h fun w9 hr_35 h=> ?_
        refine ri tT (aaf u8 v3 w2 w9) (eqs (decide (u8.2=0)) 3 [(bH u8 v3)=true,(bH u8 v3)=true,gP (nV u8) [(6,true)]→All [[0].length=1,aC 1 1 (ig 1 [(.int .i64 0)]) (au (aj .i64) [0])],(bH u8 v3)=true,(bH u8 v3)=true,gP (nV u8) [(6,true)]→All [[1].length=1,aC 1 1 (ig 1 [(.int .i64 1)]) (au (aj .i64) [1])],(bH u8 v3)=true,(bH u8 v3)=true,gP (nV u8) [(6,true)]→All [[(⟨0,30,13334,[0]⟩:Short),(⟨1,50,8000,[1]⟩:Short)].length=2,aC 2 4 (ig 4 nO) (ig 4 nO)],gP (nV u8) [(6,true)],(bH u8 v3)=true,gP (nV u8) [(6,true)]→All [Fn Try.prog 52 [(sD (Av u8)),(.one (.own 116 true ([(⟨0,30,13334,[0]⟩:Short),(⟨1,50,8000,[1]⟩:Short)].length)))] aaU (vB w2) aaU],(bH u8 v3)=true,(nA u8 v3 w2)=true,(nA u8 v3 w2)=true,gP (nV u8) [(15,true)]→All [[13334,8000].length=2,aC 2 1 (ig 1 OP) (au (aj .i64) [13334,8000])],gP (nV u8) [(15,true)],(nA u8 v3 w2)=true,gP (nV u8) [(15,true)]→All [Fn Try.prog 54 [(sD (Dv v3)),(.one (.own 117 true ([13334,8000].length)))] [(117,some DN)] (vB w9) [(117,some DN)]],(nA u8 v3 w2)=true]) {yb:=[(2,(decide (u8.2=0))),(6,true),(15,true)],an:=[(8, .frz [0].length (au (aj .i64) [0])),(10, .frz [1].length (au (aj .i64) [1])),(12, .arr [(⟨0,30,13334,[0]⟩:Short),(⟨1,50,8000,[1]⟩:Short)].length (ig 4 nO)),(13, .callR [116] (vB w2)),(17, .arr [13334,8000].length (au (aj .i64) [13334,8000])),(18, .callR [117] (vB w9))],fr:=[(12,116),(17,117)] } [] (ae ⟨(hb16),(hb16),(fun hg=> ⟨(rfl),((by intro i hi j hj;match i,j,hi,hj with|0,0,_,_=>rfl)),trivial⟩),(hb16),(hb16),(fun hg=> ⟨(rfl),((by intro i hi j hj;match i,j,hi,hj with|0,0,_,_=>rfl)),trivial⟩),(hb16),(hb16),(fun hg=> ⟨(rfl),(gL _ _ _),trivial⟩),(⟨rfl,trivial⟩),(hb16),(fun hg=> ⟨(Fn.xE (frz:=[116]) (p:=[[(⟨0,30,13334,[0]⟩:Short),(⟨1,50,8000,[1]⟩:Short)].length=[(⟨0,30,13334,[0]⟩:Short),(⟨1,50,8000,[1]⟩:Short)].length]) (Fn.le (args':=(Pq u8)) (bL u8.1 [(⟨0,30,13334,[0]⟩:Short),(⟨1,50,8000,[1]⟩:Short)] hr_34) ⟨dm.refl _,dm.one (cK.d (fo.sl (.inl rfl) (by intro i hi j hj;match i,j,hi,hj with|0,0,_,_=>exact .refl _|0,1,_,_=>exact .refl _|0,2,_,_=>exact .refl _|0,3,_,_=>exact fo.mH|1,0,_,_=>exact .refl _|1,1,_,_=>exact .refl _|1,2,_,_=>exact .refl _|1,3,_,_=>exact fo.mH))),trivial⟩) (by kernel_rfl) ⟨rfl,trivial⟩ rfl),trivial⟩),(hb16),(hb17),(hb17),(fun hg=> ⟨(rfl),((by intro i hi j hj;match i,j,hi,hj with|0,0,_,_=>rfl|1,0,_,_=>rfl)),trivial⟩),(⟨rfl,trivial⟩),(hb17),(fun hg=> ⟨(Fn.xE (frz:=[117]) (p:=[[13334,8000].length=[13334,8000].length]) (Fn.le (args':=(Ou v3)) (bU v3.1 [13334,8000] hr_35) ⟨dm.one (cK.d fo.mH),dm.one (cK.d fo.mH),trivial⟩) (by kernel_rfl) ⟨rfl,trivial⟩ rfl),trivial⟩),(hb17),trivial⟩) (bG.le (st':=⟨[(0,(vB w9))],[]⟩) ⟨⟨⟨_,rfl,cu.v (dm.one (cK.of (congrArg (fun b=>CV.d (.bool b)) (DC hb17))))⟩,trivial⟩,trivial⟩) ?_
        refine aR ?_
        obtain rfl:=oi h
        exact rl [(sB w9)]
       ·skip
        refine ri tT (aag u8 v3 w2) (eqs (decide (u8.2=0)) 3 [(bH u8 v3)=true,(bH u8 v3)=true,gP (oq u8) [(6,true)]→All [[0].length=1,aC 1 1 (ig 1 [(.int .i64 0)]) (au (aj .i64) [0])],(bH u8 v3)=true,(bH u8 v3)=true,gP (oq u8) [(6,true)]→All [[1].length=1,aC 1 1 (ig 1 [(.int .i64 1)]) (au (aj .i64) [1])],(bH u8 v3)=true,(bH u8 v3)=true,gP (oq u8) [(6,true)]→All [[(⟨0,30,13334,[0]⟩:Short),(⟨1,50,8000,[1]⟩:Short)].length=2,aC 2 4 (ig 4 nO) (ig 4 nO)],gP (oq u8) [(6,true)],(bH u8 v3)=true,gP (oq u8) [(6,true)]→All [Fn Try.prog 52 [(sD (Av u8)),(.one (.own 120 true ([(⟨0,30,13334,[0]⟩:Short),(⟨1,50,8000,[1]⟩:Short)].length)))] abb (vB w2) abb],(bH u8 v3)=true,(nA u8 v3 w2)=false, ¬ gP (oq u8) [(15,true)],(nA u8 v3 w2)=false, ¬ gP (oq u8) [(15,true)],(nA u8 v3 w2)=false, ¬ gP (oq u8) [(15,true)],(nA u8 v3 w2)=false]) {yb:=[(2,(decide (u8.2=0))),(6,true),(15,false)],an:=[(8, .frz [0].length (au (aj .i64) [0])),(10, .frz [1].length (au (aj .i64) [1])),(12, .arr [(⟨0,30,13334,[0]⟩:Short),(⟨1,50,8000,[1]⟩:Short)].length (ig 4 nO)),(13, .callR [120] (vB w2)),(16, .skip),(17, .skip),(18, .skip)],fr:=[(12,120)] } [] (ae ⟨(hb16),(hb16),(fun hg=> ⟨(rfl),((by intro i hi j hj;match i,j,hi,hj with|0,0,_,_=>rfl)),trivial⟩),(hb16),(hb16),(fun hg=> ⟨(rfl),((by intro i hi j hj;match i,j,hi,hj with|0,0,_,_=>rfl)),trivial⟩),(hb16),(hb16),(fun hg=> ⟨(rfl),(gL _ _ _),trivial⟩),(⟨rfl,trivial⟩),(hb16),(fun hg=> ⟨(Fn.xE (frz:=[120]) (p:=[[(⟨0,30,13334,[0]⟩:Short),(⟨1,50,8000,[1]⟩:Short)].length=[(⟨0,30,13334,[0]⟩:Short),(⟨1,50,8000,[1]⟩:Short)].length]) (Fn.le (args':=(Pq u8)) (bL u8.1 [(⟨0,30,13334,[0]⟩:Short),(⟨1,50,8000,[1]⟩:Short)] hr_34) ⟨dm.refl _,dm.one (cK.d (fo.sl (.inl rfl) (by intro i hi j hj;match i,j,hi,hj with|0,0,_,_=>exact .refl _|0,1,_,_=>exact .refl _|0,2,_,_=>exact .refl _|0,3,_,_=>exact fo.mH|1,0,_,_=>exact .refl _|1,1,_,_=>exact .refl _|1,2,_,_=>exact .refl _|1,3,_,_=>exact fo.mH))),trivial⟩) (by kernel_rfl) ⟨rfl,trivial⟩ rfl),trivial⟩),(hb16),(hb17),((fun h=>Bool.noConfusion (show false=true from h.1))),(hb17),((fun h=>Bool.noConfusion (show false=true from h.1))),(hb17),((fun h=>Bool.noConfusion (show false=true from h.1))),(hb17),trivial⟩) (bG.le (st':=⟨[(0,(vB false))],[]⟩) ⟨⟨⟨_,rfl,cu.v (dm.one (cK.of (congrArg (fun b=>CV.d (.bool b)) (DL hb17))))⟩,trivial⟩,trivial⟩) ?_
        refine aR ?_
        obtain rfl:=oi h
        exact rl [(sB false)]
      ·skip
       refine bI h (fun hb18 h=> ?_) (fun hb18 h=> ?_)
       ·skip
        refine bE h fun x0 hr_36 h=> ?_
        refine ri tT (ZY u8 v3 x0) (eqs (decide (u8.2=0)) 3 [(bH u8 v3)=false, ¬ gP (j4 u8) [(6,true)],(bH u8 v3)=false, ¬ gP (j4 u8) [(6,true)],(bH u8 v3)=false, ¬ gP (j4 u8) [(6,true)],(bH u8 v3)=false, ¬ gP (j4 u8) [(6,true)],(bH u8 v3)=false, ¬ gP (j4 u8) [(6,true)],(bH u8 v3)=false, ¬ gP (j4 u8) [(6,true)],(bH u8 v3)=false, ¬ gP (j4 u8) [(6,true)],(bH u8 v3)=false,(xH u8 v3)=true,(xH u8 v3)=true,gP (j4 u8) [(15,true)]→All [[13334,8000].length=2,aC 2 1 (ig 1 OP) (au (aj .i64) [13334,8000])],gP (j4 u8) [(15,true)],(xH u8 v3)=true,gP (j4 u8) [(15,true)]→All [Fn Try.prog 54 [(sD (Dv v3)),(.one (.own 121 true ([13334,8000].length)))] [(121,some DN)] (vB x0) [(121,some DN)]],(xH u8 v3)=true]) {yb:=[(2,(decide (u8.2=0))),(6,false),(15,true)],an:=[(7, .skip),(8, .skip),(9, .skip),(10, .skip),(11, .skip),(12, .skip),(13, .skip),(17, .arr [13334,8000].length (au (aj .i64) [13334,8000])),(18, .callR [121] (vB x0))],fr:=[(17,121)] } [] (ae ⟨(hb16),((fun h=>Bool.noConfusion (show false=true from h.1))),(hb16),((fun h=>Bool.noConfusion (show false=true from h.1))),(hb16),((fun h=>Bool.noConfusion (show false=true from h.1))),(hb16),((fun h=>Bool.noConfusion (show false=true from h.1))),(hb16),((fun h=>Bool.noConfusion (show false=true from h.1))),(hb16),((fun h=>Bool.noConfusion (show false=true from h.1))),(hb16),((fun h=>Bool.noConfusion (show false=true from h.1))),(hb16),(hb18),(hb18),(fun hg=> ⟨(rfl),((by intro i hi j hj;match i,j,hi,hj with|0,0,_,_=>rfl|1,0,_,_=>rfl)),trivial⟩),(⟨rfl,trivial⟩),(hb18),(fun hg=> ⟨(Fn.xE (frz:=[121]) (p:=[[13334,8000].length=[13334,8000].length]) (Fn.le (args':=(Ou v3)) (bU v3.1 [13334,8000] hr_36) ⟨dm.one (cK.d fo.mH),dm.one (cK.d fo.mH),trivial⟩) (by kernel_rfl) ⟨rfl,trivial⟩ rfl),trivial⟩),(hb18),trivial⟩) (bG.le (st':=⟨[(0,(vB x0))],[]⟩) ⟨⟨⟨_,rfl,cu.v (dm.one (cK.of (congrArg (fun b=>CV.d (.bool b)) (DC hb18))))⟩,trivial⟩,trivial⟩) ?_
        refine aR ?_
        obtain rfl:=oi h
        exact rl [(sB x0)]
       ·skip
        refine ri tT (Zg u8 v3) (Y8 u8 v3) {yb:=[(2,(decide (u8.2=0))),(6,false),(15,false)],an:=[(7, .skip),(8, .skip),(9, .skip),(10, .skip),(11, .skip),(12, .skip),(13, .skip),(16, .skip),(17, .skip),(18, .skip)] } [] (ae ⟨(hb16),((fun h=>Bool.noConfusion (show false=true from h.1))),(hb16),((fun h=>Bool.noConfusion (show false=true from h.1))),(hb16),((fun h=>Bool.noConfusion (show false=true from h.1))),(hb16),((fun h=>Bool.noConfusion (show false=true from h.1))),(hb16),((fun h=>Bool.noConfusion (show false=true from h.1))),(hb16),((fun h=>Bool.noConfusion (show false=true from h.1))),(hb16),((fun h=>Bool.noConfusion (show false=true from h.1))),(hb16),(hb18),((fun h=>Bool.noConfusion (show false=true from h.1))),(hb18),((fun h=>Bool.noConfusion (show false=true from h.1))),(hb18),((fun h=>Bool.noConfusion (show false=true from h.1))),(hb18),trivial⟩) (bG.le (st':=⟨[(0,(vB false))],[]⟩) ⟨⟨⟨_,rfl,cu.v (dm.one (cK.of (congrArg (fun b=>CV.d (.bool b)) (DL hb18))))⟩,trivial⟩,trivial⟩) ?_
        refine aR ?_
        obtain rfl:=oi h
        exact rl [(sB false)]
def tK  :Bool→Exit→St→Prop:=
  fun r=>aU TT [.tmp 4] (vB r) []
section
variable (p:ah)
abbrev Ky:Nat × TV:=(5,(vI (p.links.length:Int)))
end
def zM (p:ah) (s_:State):Int→St:=
  fun i=> ⟨[(jH p),(jY s_),(Ky p),(8,(vI i))],[]⟩
def zx  :Unit→St:=
  fun _=> ⟨[],[]⟩
def GY (p:ah) (s_:State):(aK Int (Ex Unit Bool))→Exit→St→Prop:=
  LQ 0 [] (zM p s_) zx tK
section
variable (s_:State) (p:ah) (i:Int)
abbrev XT:=(!decide ((s_.closed.length:Int)=(p.links.length:Int)))
abbrev XW:=(bif (XT s_ p)then true else(!decide ((s_.locked.length:Int)=(p.links.length:Int))))
abbrev Xi:=(bif (XW s_ p)then true else(!decide ((s_.badLink.length:Int)=(p.links.length:Int))))
abbrev Wz:=(bif (Xi s_ p)then true else(!decide ((s_.on_.length:Int)=(p.sources.length:Int))))
abbrev Wj:=(bif (Wz s_ p)then true else(!decide ((s_.badSource.length:Int)=(p.sources.length:Int))))
abbrev Xl:=(bif (Wj s_ p)then true else(!decide ((s_.earthed.length:Int)=p.buses)))
abbrev WI:=(gG [(7,(BX p i)),(14,(EF s_ i))])
end
theorem HY (p:ah) (s_:State) {r:Bool} (h:oC p s_=some r):Fn Try.prog 85 (k92 s_ p) [] (vB r) []:=by
 refine fN tT Try.func85 rfl rfl fun B=> ?_
 show bn _ _ _ _ _ _ (tK r) _
 unfold oC at h
 refine sz tT (abj p s_) {fr:=[(0,2),(1,3)] } [2,3] ?_
 refine sd tT mX ⟨[(jH p),(jY s_),(Ky p),(6,(vI (p.sources.length:Int))),(7,(vI p.buses))],[]⟩ [] {} [] trivial ?_
 refine aQ (sg tT ⟨[(jH p),(jY s_),(Ky p),(63,(vB (bif (Xl s_ p)then true else(!decide ((s_.badBus.length:Int)=p.buses)))))],[]⟩ (eqs (XT s_ p) 6 (eqs (XW s_ p) 6 (eqs (Xi s_ p) 6 (eqs (Wz s_ p) 6 (eqs (Wj s_ p) 6 (eqs (Xl s_ p) 6 [])))))) {yb:=[(5,(XT s_ p)),(12,(XW s_ p)),(19,(Xi s_ p)),(26,(Wz s_ p)),(33,(Wj s_ p)),(40,(Xl s_ p))] } [] (ae (ae (ae (ae (ae (ae trivial)))))) ?_)
 refine bI h (fun hb2 h=> ?_) (fun hb2 h=> ?_)
 ·refine ct hb2 ?_
  refine sz tT ⟨[(4,(vB false))],[]⟩ {} [] ?_
  refine aR ?_
  obtain rfl:=oi h
  exact rl [(sB false)]
 ·refine cf hb2 ?_
  refine aP (aQ (sz tT ⟨[(jH p),(jY s_),(Ky p),(8,(vI 0))],[]⟩ {} [] ?_))
  refine bE h fun y hy h=> ?_
  refine aL [] (zM p s_) zx tK hy (fun s f h=> ?_) ?_
  ·clear hy
   show bn _ _ _ _ _ _ ((GY p s_) f) _
   unfold jy at h
   obtain⟨i,rfl⟩: ∃q,q=s:=⟨_,rfl⟩
   refine aQ (sz tT ⟨[(jH p),(jY s_),(Ky p),(8,(vI i)),(66,(k99 p i))],[]⟩ {} [] ?_)
   refine bI h (fun hb1 h=> ?_) (fun hb1 h=> ?_)
   ·refine ct hb1 ?_
    refine aP (aQ (aB (aQ (aO h fun⟨a1,a2,a3⟩ h=> ?_))))
    refine rg tT ⟨[(jH p),(jY s_),(Ky p),(8,(vI i)),(90,(agn s_ p i))],[]⟩ (_::(eqs (BX p i) 4 ((gP (WI s_ p i) [(7,true)]→All [(0:Int)≤i∧i<(s_.closed.length:Int)])::(eqs (BX p i) 3 (eqs (EF s_ i) 4 [gP (WI s_ p i) [(14,false),(7,true)]→All [(0:Int)≤i∧i<(s_.locked.length:Int)],(EF s_ i)=(EF s_ i),(BX p i)=(BX p i),gP (WI s_ p i) [(7,true)]→All [(EF s_ i)=(EF s_ i)],(BX p i)=(BX p i)]))))) {yb:=[(7,(BX p i)),(14,(EF s_ i))] } [] ⟨a1,(ae ⟨(fun hg=> ⟨(a2 (aN hg)),trivial⟩),(ae (ae ⟨(fun hg=> ⟨(a3 (aN hg)),trivial⟩),rfl,rfl,(fun hg=> ⟨rfl,trivial⟩),rfl,trivial⟩))⟩)⟩ ?_
    refine bI h (fun hb h=> ?_) (fun hb h=> ?_)
    ·refine ct hb ?_
     refine sz tT ⟨[(4,(vB false))],[]⟩ {} [] ?_
     refine aR ?_
     obtain rfl:=oi h
     exact lR bS (bT 0) bR (aU.mk (.inr rfl) (p:=[]) (l:=[(sB false)]) (by kernel_rfl) trivial (cu.refl _) trivial)
    ·refine cf hb ?_
     refine aP (rz tT ⟨[(jH p),(jY s_),(Ky p),(k27 i)],[]⟩ {} [] ?_)
     obtain rfl:=oi h
     exact lN
   ·refine cf hb1 ?_
    refine aI (fz ⟨[],[]⟩ []) ?_
    refine aX ?_
    obtain rfl:=oi h
    exact lB
  ·clear hy
   cases y with
   |brk z=>
    unfold dU
    refine⟨_, .refl, ?_⟩
    refine sz tT ⟨[(4,(vB true))],[]⟩ {} [] ?_
    refine aR ?_
    obtain rfl:=oi h
    exact rl [(sB true)]
   |ret v=>
    obtain rfl:=oi h
    unfold dU
    intro e st hn ha hR
    cases e with
    |normal=>exact absurd rfl hn
    |exit id=>exact hR
    |goto l=>exact hR
    |ret=>exact hR
    |panic c=>exact hR
    |outgrown=>exact hR
def Cu  :Int→Exit→St→Prop:=
  fun r=>aU TT [.tmp 4] (vI r) []
theorem BK (p:ah) (s_:State) {r:Int} (h:iw p s_=some r):Fn Try.prog 37 (k92 s_ p) [] (vI r) []:=by
 refine fN tT Try.func37 rfl rfl fun B=> ?_
 show bn _ _ _ _ _ _ (Cu r) _
 unfold iw at h
 refine sz tT (abj p s_) {fr:=[(0,2),(1,3)] } [2,3] ?_
 refine aQ (bE h fun r_ hr_ h=> ?_)
 have q0:=qX p hr_
 refine rg tT ⟨[(jH p),(jY s_),(5,(vI r_))],[]⟩ [_] {an:=[(1,cA q0 [])] } [] ⟨q0,trivial⟩ ?_
 refine aQ (aQ (bE h fun u0 hr_1 h=> ?_))
 refine rg tT ⟨[(5,(vI r_)),(15,(vB (bif (decide (r_=0))then(!u0)else false)))],[]⟩ (eqs (decide (r_=0)) 3 ((gP (gG [(2,(decide (r_=0)))]) [(2,true)]→All [Fn Try.prog 85 (k92 s_ p) [] (vB u0) []])::(eqs (decide (r_=0)) 2 []))) {yb:=[(2,(decide (r_=0)))],an:=[(5, .call [] (vB u0) [])] } [] (ae ⟨(fun hg=> ⟨(HY p s_ (dJ hr_1 (aN hg))),trivial⟩),(ae trivial)⟩) ?_
 refine bI h (fun hb h=> ?_) (fun hb h=> ?_)
 ·refine ct hb ?_
  refine rz tT ⟨[(5,(vI 9))],[]⟩ {} [] ?_
  refine sz tT ⟨[(4,(vI 9))],[]⟩ {} [] ?_
  refine aR ?_
  obtain rfl:=oi h
  exact rl [(sI 9)]
 ·refine cf hb ?_
  refine aP (sz tT ⟨[(4,(vI r_))],[]⟩ {} [] ?_)
  refine aR ?_
  obtain rfl:=oi h
  exact rl [(sI r_)]
def Jg  :Bool→Exit→St→Prop:=
  fun r=>aU TT [.tmp 6] (vB r) []
theorem G5 (p:ah) (s_:State) (k:Int) {r:Bool} (h:nZ p s_ k=some r):Fn Try.prog 83 (GV p s_ k) [] (vB r) []:=by
 refine fN tT Try.func83 rfl rfl fun B=> ?_
 show bn _ _ _ _ _ _ (Jg r) _
 unfold nZ at h
 refine sz tT (YJ p s_ k) {fr:=[(0,2),(1,3)] } [2,3] ?_
 refine aQ (aO h fun⟨a1,a2,a3,a4⟩ h=> ?_)
 refine dg tT mX (aip p s_ k) (_::(ah3 p s_ k)) {yb:=[(5,(at' s_.on_ k.toNat)),(13,(Rm s_ k))] } [] ⟨a1,(ae ⟨(fun hg=> ⟨(a2 (aN hg)),trivial⟩),(ae (ae ⟨(fun hg=> ⟨(a3 (aN hg)),trivial⟩),(ae ⟨(fun hg=> ⟨(a4 (aN hg)),trivial⟩),(ae trivial)⟩)⟩))⟩)⟩ ?_
 refine aR ?_
 obtain rfl:=oi h
 exact rl (agP p s_ k)
def Fg  :Bool→Exit→St→Prop:=
  fun r=>aU TT [.tmp 6] (vB r) []
section
variable (s_:State) (i:Int) (p:ah)
abbrev PI:=(gG [(5,(at' s_.closed i.toNat)),(13,(LM s_ i)),(26,(Ng s_ i p))])
end
theorem jm (p:ah) (s_:State) (i:Int) {r:Bool} (h:dO p s_ i=some r):Fn Try.prog 84 (GV p s_ i) [] (vB r) []:=by
 refine fN tT Try.func84 rfl rfl fun B=> ?_
 show bn _ _ _ _ _ _ (Fg r) _
 unfold dO at h
 refine sz tT (YJ p s_ i) {fr:=[(0,2),(1,3)] } [2,3] ?_
 refine aQ (aO h fun⟨a1,a2,a3,a4,a5,a6⟩ h=> ?_)
 refine dg tT mX (af3 s_ i p) (_::(eqs (at' s_.closed i.toNat) 4 ((gP (PI s_ i p) [(5,true)]→All [(0:Int)≤i∧i<(s_.badLink.length:Int)])::(eqs (at' s_.closed i.toNat) 3 (eqs (LM s_ i) 6 ((gP (PI s_ i p) [(13,true)]→All [(0:Int)≤i∧i<(p.links.length:Int)])::(eqs (LM s_ i) 3 ((gP (PI s_ i p) [(13,true)]→All [(0:Int)≤(at' p.links i.toNat).a∧(at' p.links i.toNat).a<(s_.badBus.length:Int)])::(eqs (LM s_ i) 3 (eqs (Ng s_ i p) 6 ((gP (PI s_ i p) [(26,true)]→All [(0:Int)≤i∧i<(p.links.length:Int)])::(eqs (Ng s_ i p) 3 ((gP (PI s_ i p) [(26,true)]→All [(0:Int)≤(at' p.links i.toNat).b∧(at' p.links i.toNat).b<(s_.badBus.length:Int)])::(afL s_ i p)))))))))))))) {yb:=[(5,(at' s_.closed i.toNat)),(13,(LM s_ i)),(26,(Ng s_ i p))] } [] ⟨a1,(ae ⟨(fun hg=> ⟨(a2 (aN hg)),trivial⟩),(ae (ae ⟨(fun hg=> ⟨(a3 (aN hg)),trivial⟩),(ae ⟨(fun hg=> ⟨(a4 (aN hg)),trivial⟩),(ae (ae ⟨(fun hg=> ⟨(a5 (aN hg)),trivial⟩),(ae ⟨(fun hg=> ⟨(a6 (aN hg)),trivial⟩),(ae trivial)⟩)⟩))⟩)⟩))⟩)⟩ ?_
 refine aR ?_
 obtain rfl:=oi h
 exact rl (aiw s_ i p)
def qA  :Bool→Exit→St→Prop:=
  fun r=>aU TT [.tmp 8] (vB r) []
section
variable (u0:(List Int))
abbrev IG:Nat × TV:=(3,(Oy u0))
end
def vL (l:(List Int)) (u0:(List Int)):Int→St:=
  fun i=> ⟨[(uX l),(IG u0),(9,(vI i))],[]⟩
def wS  :Unit→St:=
  fun _=> ⟨[],[]⟩
def Eu (l:(List Int)) (u0:(List Int)):(aK Int (Ex Unit Bool))→Exit→St→Prop:=
  LQ 0 [] (vL l u0) wS qA
theorem kF (u1:Int) (l:(List Int)) (u2:Int) (u0:(List Int)) {r:Bool} (h:eF u1 l u2 u0=some r):Fn Try.prog 131 [(sI u1),(sD (y7 l)),(sI u2),(sD (y7 u0))] [] (vB r) []:=by
 refine fN tT Try.func131 rfl rfl fun B=> ?_
 show bn _ _ _ _ _ _ (qA r) _
 unfold eF at h
 refine sz tT ⟨[(0,(vI u1)),(uX l),(2,(vI u2)),(IG u0)],[]⟩ {} [] ?_
 refine aQ (sz tT ⟨[(0,(vI u1)),(uX l),(2,(vI u2)),(IG u0),(12,(vB (!decide (u1=u2))))],[]⟩ {} [] ?_)
 refine bI h (fun hb3 h=> ?_) (fun hb3 h=> ?_)
 ·refine ct hb3 ?_
  refine sz tT ⟨[(8,(vB (decide (u1<u2))))],[]⟩ {} [] ?_
  refine aR ?_
  obtain rfl:=oi h
  exact rl [(sB (decide (u1<u2)))]
 ·refine cf hb3 ?_
  refine aP (aQ (sz tT ⟨[(uX l),(IG u0),(20,(vB (!decide ((l.length:Int)=(u0.length:Int)))))],[]⟩ {} [] ?_))
  refine bI h (fun hb2 h=> ?_) (fun hb2 h=> ?_)
  ·refine ct hb2 ?_
   refine sz tT ⟨[(8,(vB (decide ((l.length:Int)<(u0.length:Int)))))],[]⟩ {} [] ?_
   refine aR ?_
   obtain rfl:=oi h
   exact rl [(sB (decide ((l.length:Int)<(u0.length:Int))))]
  ·refine cf hb2 ?_
   refine aP (aQ (sz tT ⟨[(uX l),(IG u0),(9,(vI 0))],[]⟩ {} [] ?_))
   refine bE h fun y hy h=> ?_
   refine aL [] (vL l u0) wS qA hy (fun s f h=> ?_) ?_
   ·clear hy
    show bn _ _ _ _ _ _ ((Eu l u0) f) _
    unfold eP at h
    obtain⟨i,rfl⟩: ∃q,q=s:=⟨_,rfl⟩
    refine aQ (sz tT ⟨[(uX l),(IG u0),(9,(vI i)),(29,(Rs i l))],[]⟩ {} [] ?_)
    refine bI h (fun hb1 h=> ?_) (fun hb1 h=> ?_)
    ·refine ct hb1 ?_
     refine aP (aQ (aB (aQ (aO h fun⟨a1,a2⟩ h=> ?_))))
     refine dg tT mX ⟨[(uX l),(IG u0),(9,(vI i)),(40,(vB (!decide ((at' l i.toNat)=(at' u0 i.toNat)))))],[]⟩ [_,_] {} [] ⟨a1,a2,trivial⟩ ?_
     refine bI h (fun hb h=> ?_) (fun hb h=> ?_)
     ·refine ct hb ?_
      refine aQ (aO h fun⟨a1,a2⟩ h=> ?_)
      refine dg tT mX ⟨[(8,(vB (decide ((at' l i.toNat)<(at' u0 i.toNat)))))],[]⟩ [_,_] {} [] ⟨a1,a2,trivial⟩ ?_
      refine aR ?_
      obtain rfl:=oi h
      exact lR bS (bT 0) bR (aU.mk (.inr rfl) (p:=[]) (l:=[(sB (decide ((at' l i.toNat)<(at' u0 i.toNat))))]) (by kernel_rfl) trivial (cu.refl _) trivial)
     ·refine cf hb ?_
      refine aP (rz tT ⟨[(uX l),(IG u0),(9,(k28 i))],[]⟩ {} [] ?_)
      obtain rfl:=oi h
      exact lN
    ·refine cf hb1 ?_
     refine aI (fz ⟨[],[]⟩ []) ?_
     refine aX ?_
     obtain rfl:=oi h
     exact lB
   ·clear hy
    cases y with
    |brk z=>
     unfold dU
     refine⟨_, .refl, ?_⟩
     refine sz tT ⟨[(8,(vB false))],[]⟩ {} [] ?_
     refine aR ?_
     obtain rfl:=oi h
     exact rl [(sB false)]
    |ret v=>
     obtain rfl:=oi h
     unfold dU
     intro e st hn ha hR
     cases e with
     |normal=>exact absurd rfl hn
     |exit id=>exact hR
     |goto l=>exact hR
     |ret=>exact hR
     |panic c=>exact hR
     |outgrown=>exact hR
def yO  :(Int × (List Int))→Exit→St→Prop:=
  fun r=>aU TT [.tmp 10, .tmp 11] (.gK [(sI r.1),(sD (aJ none 1 (aj .i64) r.2))]) []
section
variable (s_:State) (u4:(List Int)) (u2:(List Bool)) (u0:Int) (p:ah) (u1:Int) (u3:Int) (i:Int)
abbrev jk:Nat × TV:=(6,(k75 s_))
abbrev pU:Nat × TV:=(13,(Oy u4))
abbrev Bl:=(([]:List Bool)++u2)
abbrev Eo:=((Bl u2).set u0.toNat true)
abbrev Ty:DV:=(aJ none 1 ai (Eo u2 u0))
abbrev nI:Nat × TV:=(14,(vD (Ty u2 u0)))
abbrev aa8:Nat × Option Ob:=(76,some (Yh p))
abbrev jQ:List (Nat × Option Ob):=[(aa8 p)]
abbrev yx:St:=⟨[(2,(vI u0)),(3,(vI u1)),(5,(vP 76 0)),(jk s_),(12,(vI u3)),(pU u4),(nI u2 u0),(15,(vI i))],(jQ p)⟩
end
def CK (p:ah) (s_:State) (u0:Int) (u1:Int) (u2:(List Bool)):(Int × (List Int) × Int)→St:=
  fun zz=>match zz with|(u3,u4,i)=>(yx s_ u4 u2 u0 p u1 u3 i)
def Cx  :(Int × (List Int))→St:=
  fun zz=>match zz with|(u0,u1)=> ⟨[(12,(vI u0)),(pU u1)],[]⟩
def KN (p:ah) (s_:State) (u0:Int) (u1:Int) (u2:(List Bool)):(aK (Int × (List Int) × Int) (Ex (Int × (List Int)) (Int × (List Int))))→Exit→St→Prop:=
  LQ 0 [] (CK p s_ u0 u1 u2) Cx yO
section
variable (p:ah) (s_:State) (u0:Int) (u2:Int) (u1:(List Bool)) (i:Int) (u3:Int) (u4:(List Int)) (r_:Bool) (u5:(Int × (List Int))) (v1:Bool)
abbrev WU:List SV:=[(.agg (k1 p)),(.agg (QW s_)),(sI u0),(sI u2),(sD (aJ none 1 ai u1))]
abbrev XR:=(au ai (Eo u1 u0))
abbrev yM:Nat × TV:=(16,(YO p i))
abbrev aap:St:=⟨[(2,(vI u0)),(3,(vI u2)),(5,(vP 76 0)),(jk s_),(12,(vI u3)),(pU u4),(nI u1 u0),(15,(vI i)),(yM p i),(17,(vI (H8 p i)))],(jQ p)⟩
abbrev ME:=(decide ((H8 p i)<0))
abbrev Mq:=(bif (ME p i)then true else(at' (Eo u1 u0) (UC i p)))
abbrev aaT:St:=⟨[(2,(vI u0)),(3,(vI u2)),(5,(vP 76 0)),(jk s_),(12,(vI u3)),(pU u4),(nI u1 u0),(15,(vI i)),(yM p i),(17,(vI (H8 p i))),(67,(vB (bif (Mq p u0 u1 i)then true else(!r_))))],(jQ p)⟩
abbrev aa2:=(gG [(2,(ME p i)),(8,(Mq p u0 u1 i))])
abbrev aa6:=(eqs (ME p i) 3 ((gP (aa2 p u0 u1 i) [(2,false)]→All [(0:Int)≤(at' p.links i.toNat).a∧(at' p.links i.toNat).a<((Eo u1 u0).length:Int)])::(eqs (ME p i) 2 (eqs (Mq p u0 u1 i) 4 ((gP (aa2 p u0 u1 i) [(8,false)]→All [Fn Try.prog 84 (GV p s_ i) [] (vB r_) []])::(eqs (Mq p u0 u1 i) 2 []))))))
abbrev Tm:St:=⟨[(2,(vI u0)),(3,(vI u2)),(5,(vP 76 0)),(jk s_),(12,(vI u3)),(pU u4),(nI u1 u0),(15,(vI i)),(yM p i),(18,(vI u5.1)),(19,(vD (aJ none 1 (aj .i64) u5.2)))],(jQ p)⟩
abbrev aa7:List SV:=[(.agg (k1 p)),(.agg (QW s_)),(sI (H8 p i)),(sI u2),(sD (Ty u1 u0))]
abbrev Em:TV:=(.gK [(sI u5.1),(sD (aJ none 1 (aj .i64) u5.2))])
abbrev Ti:St:=⟨[(2,(vI u0)),(3,(vI u2)),(5,(vP 76 0)),(jk s_),(12,(vI u3)),(pU u4),(nI u1 u0),(15,(vI i)),(yM p i),(18,(vI u5.1)),(19,(vD (aJ none 1 (aj .i64) u5.2))),(78,(vB (decide (u5.1<0))))],(jQ p)⟩
abbrev Tx:St:=⟨[(2,(vI u0)),(3,(vI u2)),(5,(vP 76 0)),(jk s_),(12,(vI u3)),(pU u4),(nI u1 u0),(15,(vI i)),(yM p i),(18,(vI u5.1)),(19,(vD (aJ none 1 (aj .i64) ([i]++u5.2))))],(jQ p)⟩
abbrev Tw:=(Ak (au (aj .i64) [i]) [i].length (au (aj .i64) u5.2))
abbrev IZ:=(au (aj .i64) ([i]++u5.2))
abbrev Tp:St:=⟨[(2,(vI u0)),(3,(vI u2)),(5,(vP 76 0)),(jk s_),(12,(vI u3)),(pU u4),(nI u1 u0),(15,(vI i)),(yM p i),(18,(vI u5.1)),(19,(vD (aJ none 1 (aj .i64) ([i]++u5.2)))),(94,(vB (bif (decide (u3<0))then true else v1)))],(jQ p)⟩
abbrev KT:=(IntKind.wrap .i64 (((at' p.links i.toNat).bg)+u5.1))
abbrev TA:=(eqs (decide (u3<0)) 8 [gP (gG [(2,(decide (u3<0)))]) [(2,false)]→All [Fn Try.prog 131 [(sI (KT p i u5)),(sD (aJ none 1 (aj .i64) ([i]++u5.2))),(sI u3),(sD (y7 u4))] [] (vB v1) []],(decide (u3<0))=(decide (u3<0))])
abbrev Tn:St:=⟨[(2,(vI u0)),(3,(vI u2)),(5,(vP 76 0)),(jk s_),(12,(vI (KT p i u5))),(nI u1 u0),(15,(vI i)),(19,(vD (aJ none 1 (aj .i64) ([i]++u5.2))))],(jQ p)⟩
abbrev Tz:St:=⟨[(2,(vI u0)),(3,(vI u2)),(5,(vP 76 0)),(jk s_),(12,(vI (KT p i u5))),(13,(vD (aJ none 1 (aj .i64) ([i]++u5.2)))),(nI u1 u0),(15,(vI i))],(jQ p)⟩
abbrev Qg:=(decide ((Gh p i)<0))
abbrev Qq:=(bif (Qg p i)then true else(at' (Eo u1 u0) (XM i p)))
abbrev aav:=(gG [(2,(Qg p i)),(8,(Qq p u0 u1 i))])
end
theorem Ea (v8:ah→State→Int→Int→(List Bool)→Option (Int × (List Int))) (rec_ok: ∀(p:ah) (s_:State) (u0:Int) (u2:Int) (u1:(List Bool)) (r:(Int × (List Int))),v8 p s_ u0 u2 u1=some r→Fn Try.prog 92 (WU p s_ u0 u2 u1) [] (.gK [(sI r.1),(sD (aJ none 1 (aj .i64) r.2))]) []) (p:ah) (s_:State) (u0:Int) (u2:Int) (u1:(List Bool)) {r:(Int × (List Int))} (h:jT v8 p s_ u0 u2 u1=some r):Fn Try.prog 92 (WU p s_ u0 u2 u1) [] (.gK [(sI r.1),(sD (aJ none 1 (aj .i64) r.2))]) []:=by
 refine fN tT Try.func92 rfl rfl fun B=> ?_
 show bn _ _ _ _ _ _ (yO r) _
 unfold jT at h
 refine sz tT ⟨[(2,(vI u0)),(3,(vI u2)),(4,(Jw u1)),(5,(vP 76 0)),(jk s_)],(jQ p)⟩ {fr:=[(0,76),(1,77)] } [77] ?_
 refine aQ (sz tT ⟨[(2,(vI u0)),(3,(vI u2)),(4,(Jw u1)),(5,(vP 76 0)),(jk s_),(22,(vB (decide (u0=u2))))],(jQ p)⟩ {} [] ?_)
 refine bI h (fun hb16 h=> ?_) (fun hb16 h=> ?_)
 ·refine ct hb16 ?_
  refine sz tT ⟨[(10,(vI 0)),(11,(vD nS))],[]⟩ {} [] ?_
  refine aI (bG.le (st':=⟨[(10,(vI 0)),(11,(vD JW))],[]⟩) ⟨⟨tR,⟨_,rfl,cu.v (dm.one (cK.d fo.nil'))⟩,trivial⟩,trivial⟩) ?_
  refine aR ?_
  obtain rfl:=oi h
  exact rl [(sI 0),(sD JW)]
 ·refine cf hb16 ?_
  refine aP (sz tT ⟨[(2,(vI u0)),(3,(vI u2)),(4,(Jw u1)),(5,(vP 76 0)),(jk s_),(12,(vI (-1)))],(jQ p)⟩ {} [] ?_)
  refine sz tT ⟨[(2,(vI u0)),(3,(vI u2)),(4,(Jw u1)),(5,(vP 76 0)),(jk s_),(12,(vI (-1))),(13,(vD nS))],(jQ p)⟩ {} [] ?_
  refine aQ (aO h fun⟨a1,a2⟩ h=> ?_)
  refine rg tT ⟨[(2,(vI u0)),(3,(vI u2)),(5,(vP 76 0)),(jk s_),(12,(vI (-1))),(13,(vD nS)),(14,(vO 79 false ((Bl u1).length)))],[(aa8 p),(79,some (bO 4 1 ai (Bl u1)))]⟩ [([]:List Bool).length=0,aC 0 1 (ig 1 []) (au ai ([]:List Bool)),([]:List Bool).length=([]:List Bool).length,_,_,(Bl u1).length=([]:List Bool).length+u1.length,aC (([]:List Bool).length+u1.length) 1 (Ak (au ai ([]:List Bool)) ([]:List Bool).length (au ai u1)) (au ai (Bl u1))] {an:=[(0, .arr ([]:List Bool).length (au ai ([]:List Bool))),(2, .arr (Bl u1).length (au ai (Bl u1)))],fr:=[(0,78),(2,79)] } [] ⟨(rfl),((fun i hi=>absurd hi (Nat.not_lt_zero i))),rfl,a1,a2,(List.length_append),(fe _ _ _ _),trivial⟩ ?_
  refine aQ (aO h fun a1 h=> ?_)
  refine ri tT ⟨[(2,(vI u0)),(3,(vI u2)),(5,(vP 76 0)),(jk s_),(12,(vI (-1))),(13,(vD nS)),(14,(vD (.sl none 1 (Bl u1).length (XR u0 u1))))],(jQ p)⟩ [_,_,aC (Bl u1).length 1 (jS (au ai (Bl u1)) u0.toNat 0 [(.bool true)]) (XR u0 u1),(Bl u1).length=(Bl u1).length] {an:=[(3, .arr 0 (XR u0 u1))] } [79] ⟨a1,(tL a1),(bD _ _ _ _ _ _ _ _ rfl (fun j hj=>(match j,hj with|0,_=>rfl))),rfl,trivial⟩ (bG.le (st':=⟨[(2,(vI u0)),(3,(vI u2)),(5,(vP 76 0)),(jk s_),(12,(vI (-1))),(13,(vD nS)),(nI u1 u0)],(jQ p)⟩) ⟨⟨tR,tR,tR,tR,tR,tR,⟨_,rfl,cu.v (dm.one (cK.d (fo.slN (by simp only [List.length_set]) (.inr rfl) (fun _ _ _ _=> .refl _))))⟩,trivial⟩,(.refl _)⟩) ?_
  refine aQ (sz tT ⟨[(2,(vI u0)),(3,(vI u2)),(5,(vP 76 0)),(jk s_),(12,(vI (-1))),(13,(vD nS)),(nI u1 u0),(15,(vI 0))],(jQ p)⟩ {} [] ?_)
  refine bE h fun y1 hy h=> ?_
  refine aI (bG.le (st':=⟨[(2,(vI u0)),(3,(vI u2)),(5,(vP 76 0)),(jk s_),(12,(vI (-1))),(13,(vD JW)),(nI u1 u0),(15,(vI 0))],(jQ p)⟩) ⟨⟨tR,tR,tR,tR,tR,⟨_,rfl,cu.v (dm.one (cK.d fo.nil'))⟩,tR,tR,trivial⟩,(.refl _)⟩) ?_
  refine aL [] (CK p s_ u0 u2 u1) Cx yO hy (fun s f h=> ?_) ?_
  ·clear hy
   show bn _ _ _ _ _ _ ((KN p s_ u0 u2 u1) f) _
   unfold jK at h
   obtain⟨u3,u4,i⟩:=s
   refine aQ (sz tT ⟨[(2,(vI u0)),(3,(vI u2)),(5,(vP 76 0)),(jk s_),(12,(vI u3)),(pU u4),(nI u1 u0),(15,(vI i)),(33,(k99 p i))],(jQ p)⟩ {} [] ?_)
   refine bI h (fun hb15 h=> ?_) (fun hb15 h=> ?_)
   ·refine ct hb15 ?_
    refine aP (bE h fun y hy h=> ?_)
    refine Ip (o:=y) (fun zz=>match zz with|(u9,v0)=>(yx s_ v0 u1 u0 p u2 u9 i)) ?_ ?_
    ·replace h:=hy
     clear hy
     refine aB (aQ (aO h fun a1 h=> ?_))
     refine rg tT ⟨[(2,(vI u0)),(3,(vI u2)),(5,(vP 76 0)),(jk s_),(12,(vI u3)),(pU u4),(nI u1 u0),(15,(vI i)),(yM p i)],(jQ p)⟩ [_] {fr:=[(5,143)] } [143] ⟨a1,trivial⟩ ?_
     refine sz tT ⟨[(2,(vI u0)),(3,(vI u2)),(5,(vP 76 0)),(jk s_),(12,(vI u3)),(pU u4),(nI u1 u0),(15,(vI i)),(yM p i),(17,(vI (-1)))],(jQ p)⟩ {} [] ?_
     refine aQ (sz tT ⟨[(2,(vI u0)),(3,(vI u2)),(5,(vP 76 0)),(jk s_),(12,(vI u3)),(pU u4),(nI u1 u0),(15,(vI i)),(yM p i),(17,(vI (-1))),(44,(vB (decide ((H8 p i)=u0))))],(jQ p)⟩ {} [] ?_)
     refine bI h (fun hb14 h=> ?_) (fun hb14 h=> ?_)
     ·refine ct hb14 ?_
      refine rz tT ⟨[(2,(vI u0)),(3,(vI u2)),(5,(vP 76 0)),(jk s_),(12,(vI u3)),(pU u4),(nI u1 u0),(15,(vI i)),(yM p i),(17,(vI (Gh p i)))],(jQ p)⟩ {} [] ?_
      refine aQ (sz tT ⟨[(2,(vI u0)),(3,(vI u2)),(5,(vP 76 0)),(jk s_),(12,(vI u3)),(pU u4),(nI u1 u0),(15,(vI i)),(yM p i),(17,(vI (Gh p i))),(50,(vB (decide ((Gh p i)=u0))))],(jQ p)⟩ {} [] ?_)
      refine bI h (fun hb6 h=> ?_) (fun hb6 h=> ?_)
      ·refine ct hb6 ?_
       refine rz tT (aap p s_ u0 u2 u1 i u3 u4) {} [] ?_
       refine aQ (aQ (bE h fun r_ hr_ h=> ?_))
       refine aO h fun a1 h=> ?_
       refine rg tT (aaT p s_ u0 u2 u1 i u3 u4 r_) (aa6 p s_ u0 u1 i r_) {yb:=[(2,(ME p i)),(8,(Mq p u0 u1 i))],an:=[(12, .call [] (vB r_) [])] } [] (ae ⟨(fun hg=> ⟨(a1 (aN hg)),trivial⟩),(ae (ae ⟨(fun hg=> ⟨(jm p s_ i (dJ hr_ (aN hg))),trivial⟩),(ae trivial)⟩))⟩) ?_
       refine bI h (fun hb2 h=> ?_) (fun hb2 h=> ?_)
       ·refine ct hb2 ?_
        refine aI (fz (yx s_ u4 u1 u0 p u2 u3 i) []) ?_
        refine aX ?_
        obtain rfl:=oi h
        exact⟨rfl,by kernel_rfl⟩
       ·refine cf hb2 ?_
        refine aP (aQ (bE h fun u5 hr_1 h=> ?_))
        refine rg tT (Tm p s_ u0 u2 u1 i u3 u4 u5) [Fn Try.prog 92 (aa7 p s_ u0 u2 u1 i) [] (Em u5) []] {an:=[(5, .call [] (Em u5) [])] } [] ⟨(rec_ok p s_ (H8 p i) u2 (Eo u1 u0) _ hr_1),trivial⟩ ?_
        refine aQ (sz tT (Ti p s_ u0 u2 u1 i u3 u4 u5) {} [] ?_)
        refine bI h (fun hb1 h=> ?_) (fun hb1 h=> ?_)
        ·refine ct hb1 ?_
         refine aI (fz (yx s_ u4 u1 u0 p u2 u3 i) []) ?_
         refine aX ?_
         obtain rfl:=oi h
         exact⟨rfl,by kernel_rfl⟩
        ·refine cf hb1 ?_
         refine aP (aQ (aO h fun⟨a1,a2⟩ h=> ?_))
         refine rg tT (Tx p s_ u0 u2 u1 i u3 u4 u5) [[i].length=1,aC 1 1 (ig 1 [(.int .i64 i)]) (au (aj .i64) [i]),[i].length=[i].length,_,_,([i]++u5.2).length=[i].length+u5.2.length,aC ([i].length+u5.2.length) 1 (Tw i u5) (IZ i u5),([i]++u5.2).length=([i]++u5.2).length] {an:=[(1, .arr [i].length (au (aj .i64) [i])),(3, .arr ([i]++u5.2).length (IZ i u5))],fr:=[(1,144),(3,145)] } [145] ⟨(rfl),((by intro i hi j hj;match i,j,hi,hj with|0,0,_,_=>rfl)),rfl,a1,a2,(List.length_append),(fe _ _ _ _),rfl,trivial⟩ ?_
         refine aQ (bE h fun v1 hr_2 h=> ?_)
         refine rg tT (Tp p s_ u0 u2 u1 i u3 u4 u5 v1) (TA p i u3 u4 u5 v1) {yb:=[(2,(decide (u3<0)))],an:=[(10, .call [] (vB v1) [])] } [] (ae ⟨(fun hg=> ⟨(kF (KT p i u5) ([i]++u5.2) u3 u4 (dJ hr_2 (aN hg))),trivial⟩),rfl,trivial⟩) ?_
         refine bI h (fun hb h=> ?_) (fun hb h=> ?_)
         ·refine ct hb ?_
          refine sz tT (Tn p s_ u0 u2 u1 i u5) {} [] ?_
          refine rz tT (Tz p s_ u0 u2 u1 i u5) {} [] ?_
          obtain rfl:=oi h
          exact⟨rfl,by kernel_rfl⟩
         ·refine cf hb ?_
          refine aI (fz (yx s_ u4 u1 u0 p u2 u3 i) []) ?_
          refine aP ?_
          obtain rfl:=oi h
          exact⟨rfl,by kernel_rfl⟩
      ·refine cf hb6 ?_
       refine aP (aQ (aQ (bE h fun v2 hr_3 h=> ?_)))
       refine aO h fun a1 h=> ?_
       refine rg tT ⟨[(2,(vI u0)),(3,(vI u2)),(5,(vP 76 0)),(jk s_),(12,(vI u3)),(pU u4),(nI u1 u0),(15,(vI i)),(yM p i),(17,(vI (Gh p i))),(67,(vB (bif (Qq p u0 u1 i)then true else(!v2))))],(jQ p)⟩ (eqs (Qg p i) 3 ((gP (aav p u0 u1 i) [(2,false)]→All [(0:Int)≤(at' p.links i.toNat).b∧(at' p.links i.toNat).b<((Eo u1 u0).length:Int)])::(eqs (Qg p i) 2 (eqs (Qq p u0 u1 i) 4 ((gP (aav p u0 u1 i) [(8,false)]→All [Fn Try.prog 84 (GV p s_ i) [] (vB v2) []])::(eqs (Qq p u0 u1 i) 2 [])))))) {yb:=[(2,(Qg p i)),(8,(Qq p u0 u1 i))],an:=[(12, .call [] (vB v2) [])] } [] (ae ⟨(fun hg=> ⟨(a1 (aN hg)),trivial⟩),(ae (ae ⟨(fun hg=> ⟨(jm p s_ i (dJ hr_3 (aN hg))),trivial⟩),(ae trivial)⟩))⟩) ?_
       refine bI h (fun hb5 h=> ?_) (fun hb5 h=> ?_)
       ·refine ct hb5 ?_
        refine aI (fz (yx s_ u4 u1 u0 p u2 u3 i) []) ?_
        refine aX ?_
        obtain rfl:=oi h
        exact⟨rfl,by kernel_rfl⟩
       ·refine cf hb5 ?_
        refine aP (aQ (bE h fun u6 hr_4 h=> ?_))
        refine rg tT (Tm p s_ u0 u2 u1 i u3 u4 u6) [Fn Try.prog 92 [(.agg (k1 p)),(.agg (QW s_)),(sI (Gh p i)),(sI u2),(sD (Ty u1 u0))] [] (Em u6) []] {an:=[(5, .call [] (Em u6) [])] } [] ⟨(rec_ok p s_ (Gh p i) u2 (Eo u1 u0) _ hr_4),trivial⟩ ?_
        refine aQ (sz tT (Ti p s_ u0 u2 u1 i u3 u4 u6) {} [] ?_)
        refine bI h (fun hb4 h=> ?_) (fun hb4 h=> ?_)
        ·refine ct hb4 ?_
         refine aI (fz (yx s_ u4 u1 u0 p u2 u3 i) []) ?_
         refine aX ?_
         obtain rfl:=oi h
         exact⟨rfl,by kernel_rfl⟩
        ·refine cf hb4 ?_
         refine aP (aQ (aO h fun⟨a1,a2⟩ h=> ?_))
         refine rg tT (Tx p s_ u0 u2 u1 i u3 u4 u6) [[i].length=1,aC 1 1 (ig 1 [(.int .i64 i)]) (au (aj .i64) [i]),[i].length=[i].length,_,_,([i]++u6.2).length=[i].length+u6.2.length,aC ([i].length+u6.2.length) 1 (Tw i u6) (IZ i u6),([i]++u6.2).length=([i]++u6.2).length] {an:=[(1, .arr [i].length (au (aj .i64) [i])),(3, .arr ([i]++u6.2).length (IZ i u6))],fr:=[(1,146),(3,147)] } [147] ⟨(rfl),((by intro i hi j hj;match i,j,hi,hj with|0,0,_,_=>rfl)),rfl,a1,a2,(List.length_append),(fe _ _ _ _),rfl,trivial⟩ ?_
         refine aQ (bE h fun v3 hr_5 h=> ?_)
         refine rg tT (Tp p s_ u0 u2 u1 i u3 u4 u6 v3) (TA p i u3 u4 u6 v3) {yb:=[(2,(decide (u3<0)))],an:=[(10, .call [] (vB v3) [])] } [] (ae ⟨(fun hg=> ⟨(kF (KT p i u6) ([i]++u6.2) u3 u4 (dJ hr_5 (aN hg))),trivial⟩),rfl,trivial⟩) ?_
         refine bI h (fun hb3 h=> ?_) (fun hb3 h=> ?_)
         ·refine ct hb3 ?_
          refine sz tT (Tn p s_ u0 u2 u1 i u6) {} [] ?_
          refine rz tT (Tz p s_ u0 u2 u1 i u6) {} [] ?_
          obtain rfl:=oi h
          exact⟨rfl,by kernel_rfl⟩
         ·refine cf hb3 ?_
          refine aI (fz (yx s_ u4 u1 u0 p u2 u3 i) []) ?_
          refine aP ?_
          obtain rfl:=oi h
          exact⟨rfl,by kernel_rfl⟩
     ·refine cf hb14 ?_
      refine aP (aQ (sz tT ⟨[(2,(vI u0)),(3,(vI u2)),(5,(vP 76 0)),(jk s_),(12,(vI u3)),(pU u4),(nI u1 u0),(15,(vI i)),(yM p i),(17,(vI (-1))),(50,(vB (decide ((Gh p i)=u0))))],(jQ p)⟩ {} [] ?_))
      refine bI h (fun hb13 h=> ?_) (fun hb13 h=> ?_)
      ·refine ct hb13 ?_
       refine rz tT (aap p s_ u0 u2 u1 i u3 u4) {} [] ?_
       refine aQ (aQ (bE h fun v4 hr_6 h=> ?_))
       refine aO h fun a1 h=> ?_
       refine rg tT (aaT p s_ u0 u2 u1 i u3 u4 v4) (aa6 p s_ u0 u1 i v4) {yb:=[(2,(ME p i)),(8,(Mq p u0 u1 i))],an:=[(12, .call [] (vB v4) [])] } [] (ae ⟨(fun hg=> ⟨(a1 (aN hg)),trivial⟩),(ae (ae ⟨(fun hg=> ⟨(jm p s_ i (dJ hr_6 (aN hg))),trivial⟩),(ae trivial)⟩))⟩) ?_
       refine bI h (fun hb9 h=> ?_) (fun hb9 h=> ?_)
       ·refine ct hb9 ?_
        refine aI (fz (yx s_ u4 u1 u0 p u2 u3 i) []) ?_
        refine aX ?_
        obtain rfl:=oi h
        exact⟨rfl,by kernel_rfl⟩
       ·refine cf hb9 ?_
        refine aP (aQ (bE h fun u7 hr_7 h=> ?_))
        refine rg tT (Tm p s_ u0 u2 u1 i u3 u4 u7) [Fn Try.prog 92 (aa7 p s_ u0 u2 u1 i) [] (Em u7) []] {an:=[(5, .call [] (Em u7) [])] } [] ⟨(rec_ok p s_ (H8 p i) u2 (Eo u1 u0) _ hr_7),trivial⟩ ?_
        refine aQ (sz tT (Ti p s_ u0 u2 u1 i u3 u4 u7) {} [] ?_)
        refine bI h (fun hb8 h=> ?_) (fun hb8 h=> ?_)
        ·refine ct hb8 ?_
         refine aI (fz (yx s_ u4 u1 u0 p u2 u3 i) []) ?_
         refine aX ?_
         obtain rfl:=oi h
         exact⟨rfl,by kernel_rfl⟩
        ·refine cf hb8 ?_
         refine aP (aQ (aO h fun⟨a1,a2⟩ h=> ?_))
         refine rg tT (Tx p s_ u0 u2 u1 i u3 u4 u7) [[i].length=1,aC 1 1 (ig 1 [(.int .i64 i)]) (au (aj .i64) [i]),[i].length=[i].length,_,_,([i]++u7.2).length=[i].length+u7.2.length,aC ([i].length+u7.2.length) 1 (Tw i u7) (IZ i u7),([i]++u7.2).length=([i]++u7.2).length] {an:=[(1, .arr [i].length (au (aj .i64) [i])),(3, .arr ([i]++u7.2).length (IZ i u7))],fr:=[(1,148),(3,149)] } [149] ⟨(rfl),((by intro i hi j hj;match i,j,hi,hj with|0,0,_,_=>rfl)),rfl,a1,a2,(List.length_append),(fe _ _ _ _),rfl,trivial⟩ ?_
         refine aQ (bE h fun v5 hr_8 h=> ?_)
         refine rg tT (Tp p s_ u0 u2 u1 i u3 u4 u7 v5) (TA p i u3 u4 u7 v5) {yb:=[(2,(decide (u3<0)))],an:=[(10, .call [] (vB v5) [])] } [] (ae ⟨(fun hg=> ⟨(kF (KT p i u7) ([i]++u7.2) u3 u4 (dJ hr_8 (aN hg))),trivial⟩),rfl,trivial⟩) ?_
         refine bI h (fun hb7 h=> ?_) (fun hb7 h=> ?_)
         ·refine ct hb7 ?_
          refine sz tT (Tn p s_ u0 u2 u1 i u7) {} [] ?_
          refine rz tT (Tz p s_ u0 u2 u1 i u7) {} [] ?_
          obtain rfl:=oi h
          exact⟨rfl,by kernel_rfl⟩
         ·refine cf hb7 ?_
          refine aI (fz (yx s_ u4 u1 u0 p u2 u3 i) []) ?_
          refine aP ?_
          obtain rfl:=oi h
          exact⟨rfl,by kernel_rfl⟩
      ·refine cf hb13 ?_
       refine aP (aQ (aQ (bE h fun v6 hr_9 h=> ?_)))
       refine rg tT ⟨[(2,(vI u0)),(3,(vI u2)),(5,(vP 76 0)),(jk s_),(12,(vI u3)),(pU u4),(nI u1 u0),(15,(vI i)),(yM p i),(17,(vI (-1))),(67,(vB (bif (bif true then true else false)then true else(!v6))))],(jQ p)⟩ ((true=true)::(¬ gP (gG [(2,true),(8,(bif true then true else false))]) [(2,false)])::(true=true)::(¬ gP (gG [(2,true),(8,(bif true then true else false))]) [(2,false)])::(true=true)::(¬ gP (gG [(2,true),(8,(bif true then true else false))]) [(2,false)])::(true=true)::(¬ gP (gG [(2,true),(8,(bif true then true else false))]) [(2,false)])::(true=true)::(eqs (bif true then true else false) 4 ((gP (gG [(2,true),(8,(bif true then true else false))]) [(8,false)]→All [Fn Try.prog 84 (GV p s_ i) [] (vB v6) []])::(eqs (bif true then true else false) 2 [])))) {yb:=[(2,true),(8,(bif true then true else false))],an:=[(3, .skip),(4, .skip),(5, .skip),(6, .skip),(12, .call [] (vB v6) [])] } [] ⟨(rfl),((fun h=>Bool.noConfusion (show true=false from h.1))),(rfl),((fun h=>Bool.noConfusion (show true=false from h.1))),(rfl),((fun h=>Bool.noConfusion (show true=false from h.1))),(rfl),((fun h=>Bool.noConfusion (show true=false from h.1))),(rfl),(ae ⟨(fun hg=> ⟨(jm p s_ i (dJ hr_9 (aN hg))),trivial⟩),(ae trivial)⟩)⟩ ?_
       refine bI h (fun hb12 h=> ?_) (fun hb12 h=> ?_)
       ·refine ct hb12 ?_
        refine aI (fz (yx s_ u4 u1 u0 p u2 u3 i) []) ?_
        refine aX ?_
        obtain rfl:=oi h
        exact⟨rfl,by kernel_rfl⟩
       ·refine cf hb12 ?_
        refine aP (aQ (bE h fun u8 hr_10 h=> ?_))
        refine rg tT (Tm p s_ u0 u2 u1 i u3 u4 u8) [Fn Try.prog 92 [(.agg (k1 p)),(.agg (QW s_)),(sI (-1)),(sI u2),(sD (Ty u1 u0))] [] (Em u8) []] {an:=[(5, .call [] (Em u8) [])] } [] ⟨(rec_ok p s_ (-1) u2 (Eo u1 u0) _ hr_10),trivial⟩ ?_
        refine aQ (sz tT (Ti p s_ u0 u2 u1 i u3 u4 u8) {} [] ?_)
        refine bI h (fun hb11 h=> ?_) (fun hb11 h=> ?_)
        ·refine ct hb11 ?_
         refine aI (fz (yx s_ u4 u1 u0 p u2 u3 i) []) ?_
         refine aX ?_
         obtain rfl:=oi h
         exact⟨rfl,by kernel_rfl⟩
        ·refine cf hb11 ?_
         refine aP (aQ (aO h fun⟨a1,a2⟩ h=> ?_))
         refine rg tT (Tx p s_ u0 u2 u1 i u3 u4 u8) [[i].length=1,aC 1 1 (ig 1 [(.int .i64 i)]) (au (aj .i64) [i]),[i].length=[i].length,_,_,([i]++u8.2).length=[i].length+u8.2.length,aC ([i].length+u8.2.length) 1 (Tw i u8) (IZ i u8),([i]++u8.2).length=([i]++u8.2).length] {an:=[(1, .arr [i].length (au (aj .i64) [i])),(3, .arr ([i]++u8.2).length (IZ i u8))],fr:=[(1,150),(3,151)] } [151] ⟨(rfl),((by intro i hi j hj;match i,j,hi,hj with|0,0,_,_=>rfl)),rfl,a1,a2,(List.length_append),(fe _ _ _ _),rfl,trivial⟩ ?_
         refine aQ (bE h fun v7 hr_11 h=> ?_)
         refine rg tT (Tp p s_ u0 u2 u1 i u3 u4 u8 v7) (TA p i u3 u4 u8 v7) {yb:=[(2,(decide (u3<0)))],an:=[(10, .call [] (vB v7) [])] } [] (ae ⟨(fun hg=> ⟨(kF (KT p i u8) ([i]++u8.2) u3 u4 (dJ hr_11 (aN hg))),trivial⟩),rfl,trivial⟩) ?_
         refine bI h (fun hb10 h=> ?_) (fun hb10 h=> ?_)
         ·refine ct hb10 ?_
          refine sz tT (Tn p s_ u0 u2 u1 i u8) {} [] ?_
          refine rz tT (Tz p s_ u0 u2 u1 i u8) {} [] ?_
          obtain rfl:=oi h
          exact⟨rfl,by kernel_rfl⟩
         ·refine cf hb10 ?_
          refine aI (fz (yx s_ u4 u1 u0 p u2 u3 i) []) ?_
          refine aP ?_
          obtain rfl:=oi h
          exact⟨rfl,by kernel_rfl⟩
    ·clear hy
     obtain⟨u9,v0⟩:=y
     refine rz tT ⟨[(2,(vI u0)),(3,(vI u2)),(5,(vP 76 0)),(jk s_),(12,(vI u9)),(pU v0),(nI u1 u0),(15,(k28 i))],(jQ p)⟩ {} [] ?_
     obtain rfl:=oi h
     exact lN
   ·refine cf hb15 ?_
    refine aI (fz ⟨[(12,(vI u3)),(pU u4)],[]⟩ []) ?_
    refine aX ?_
    obtain rfl:=oi h
    exact lB
  ·clear hy
   cases y1 with
   |brk z=>
    obtain⟨v9,w0⟩:=z
    unfold dU
    refine⟨_, .refl, ?_⟩
    refine sz tT ⟨[(10,(vI v9)),(11,(Oy w0))],[]⟩ {} [] ?_
    refine aR ?_
    obtain rfl:=oi h
    exact rl [(sI v9),(sD (y7 w0))]
   |ret v=>
    obtain rfl:=oi h
    unfold dU
    intro e st hn ha hR
    cases e with
    |normal=>exact absurd rfl hn
    |exit id=>exact hR
    |goto l=>exact hR
    |ret=>exact hR
    |panic c=>exact hR
    |outgrown=>exact hR
theorem Df: ∀(n:Nat) (p:ah) (s_:State) (u0:Int) (u1:Int) (u2:(List Bool)) {r:(Int × (List Int))} (_:gZ n p s_ u0 u1 u2=some r),Fn Try.prog 92 (WU p s_ u0 u1 u2) [] (.gK [(sI r.1),(sD (aJ none 1 (aj .i64) r.2))]) []
 |0,_,_,_,_,_,_,h=>by cases h
 |n+1,p,s_,u0,u1,u2,_,h=>Ea (gZ n) (fun p s_ u0 u1 u2 _ h=>Df n p s_ u0 u1 u2 h) p s_ u0 u1 u2 h
def rH  :((List Short) × Int)→Exit→St→Prop:=
  fun r=>aU TT [.tmp 6, .tmp 7] (.gK [(sD (aJ none 4 Short.cell r.1)),(sI r.2)]) []
section
variable (u0:(List Short)) (u1:Int) (p:ah) (s_:State) (k:Int)
abbrev Bw:Nat × TV:=(9,(vO 47 false u0.length))
abbrev Bq:List (Nat × Option Ob):=[(47,some (bO 103 4 Short.cell u0))]
abbrev Tg:St:=⟨[(2,(vI u1)),(bC p),(aY s_),(Bw u0),(10,(vI k))],(Bq u0)⟩
end
def yc (p:ah) (s_:State) (u1:Int):((List Short) × Int)→St:=
  fun zz=>match zz with|(u0,k)=>(Tg u0 u1 p s_ k)
def yg  :(List Short)→St:=
  fun u0=> ⟨[(Bw u0)],(Bq u0)⟩
def Gz (p:ah) (s_:State) (u0:Int):(aK ((List Short) × Int) (Ex (List Short) ((List Short) × Int)))→Exit→St→Prop:=
  LQ 0 [] (yc p s_ u0) yg rH
section
variable (u0:(Int × (List Int))) (p:ah) (k:Int) (u1:(List Short))
abbrev M4:Nat × TV:=(12,(vD (aJ none 1 (aj .i64) u0.2)))
abbrev JY:=(IntKind.wrap .i64 (u0.1+((at' p.sources k.toNat).bg)))
abbrev TF:Nat × TV:=(13,(vI (JY u0 p k)))
abbrev Ov:=(IntKind.wrap .i64 (Int.tdiv (400000:Int) (JY u0 p k)))
abbrev aaw:Nat × TV:=(14,(vI (Ov u0 p k)))
abbrev Xb:=(IntKind.wrap .i64 ((Ov u0 p k)+1))
abbrev M7:=(⟨k,(JY u0 p k),(Xb u0 p k),u0.2⟩:Short)
abbrev Pn:=(u1++[(M7 u0 p k)])
abbrev aa4:=((Pn u0 p k u1).length)
abbrev aaz:Ob:=(bO 103 4 Short.cell (Pn u0 p k u1))
abbrev XL:=(au Short.cell [(M7 u0 p k)])
abbrev aaJ:=(au Short.cell (Pn u0 p k u1))
abbrev MS:=(⟨k,(JY u0 p k),(Ov u0 p k),u0.2⟩:Short)
abbrev Pk:=(u1++[(MS u0 p k)])
abbrev aaq:=((Pk u0 p k u1).length)
abbrev aa1:Ob:=(bO 103 4 Short.cell (Pk u0 p k u1))
abbrev WQ:=(au Short.cell [(MS u0 p k)])
abbrev aa3:=(au Short.cell (Pk u0 p k u1))
abbrev Tc:Nat × TV:=(10,(k28 k))
end
theorem Gx (p:ah) (s_:State) (u2:Int) {r:((List Short) × Int)} (h:gF p s_ u2=some r):Fn Try.prog 51 (GV p s_ u2) [] (.gK [(sD (aJ none 4 Short.cell r.1)),(sI r.2)]) []:=by
 refine fN tT Try.func51 rfl rfl fun B=> ?_
 show bn _ _ _ _ _ _ (rH r) _
 unfold gF at h
 refine sz tT (YJ p s_ u2) {fr:=[(0,43),(1,44)] } [43,44] ?_
 refine aQ (bE h fun r_ hr_ h=> ?_)
 have q0:=BK p s_ hr_
 refine rg tT ⟨[(2,(vI u2)),(bC p),(aY s_),(8,(vI r_))],[]⟩ [_] {an:=[(2,cA q0 [])] } [] ⟨q0,trivial⟩ ?_
 refine aQ (sz tT ⟨[(2,(vI u2)),(bC p),(aY s_),(8,(vI r_)),(19,(vB (!decide (r_=0))))],[]⟩ {} [] ?_)
 refine bI h (fun hb5 h=> ?_) (fun hb5 h=> ?_)
 ·refine ct hb5 ?_
  refine sz tT ⟨[(6,(vD nS)),(7,(vI r_))],[]⟩ {} [] ?_
  refine aI (bG.le (st':=⟨[(6,(vD (aJ none 4 Short.cell ([]:List Short)))),(7,(vI r_))],[]⟩) ⟨⟨⟨_,rfl,cu.v (dm.one (cK.d fo.nil'))⟩,tR,trivial⟩,trivial⟩) ?_
  refine aR ?_
  obtain rfl:=oi h
  exact rl [(sD (aJ none 4 Short.cell ([]:List Short))),(sI r_)]
 ·refine cf hb5 ?_
  refine aP (aQ (sg tT ⟨[(2,(vI u2)),(bC p),(aY s_),(28,(vB (bif (decide (u2<0))then true else(decide (p.buses≤u2)))))],[]⟩ (eqs (decide (u2<0)) 5 []) {yb:=[(2,(decide (u2<0)))] } [] (ae trivial) ?_))
  refine bI h (fun hb4 h=> ?_) (fun hb4 h=> ?_)
  ·refine ct hb4 ?_
   refine sz tT ⟨[(6,(vD nS)),(7,(vI 1))],[]⟩ {} [] ?_
   refine aI (bG.le (st':=⟨[(6,(vD (aJ none 4 Short.cell ([]:List Short)))),(7,(vI 1))],[]⟩) ⟨⟨⟨_,rfl,cu.v (dm.one (cK.d fo.nil'))⟩,tR,trivial⟩,trivial⟩) ?_
   refine aR ?_
   obtain rfl:=oi h
   exact rl [(sD (aJ none 4 Short.cell ([]:List Short))),(sI 1)]
  ·refine cf hb4 ?_
   refine aP (sz tT ⟨[(2,(vI u2)),(bC p),(aY s_),(9,(vD nS))],[]⟩ {} [] ?_)
   refine aQ (sz tT ⟨[(2,(vI u2)),(bC p),(aY s_),(9,(vD nS)),(10,(vI 0))],[]⟩ {} [] ?_)
   refine bE h fun y1 hy h=> ?_
   refine aI (.trans (bG.QB (t:=9) (b:=85) (esz0:=0) (el0:=fun _ _=> .nilp) (E:=103) (esz:=4) (el:=au Short.cell ([]:List Short)) (by kernel_rfl) (by kernel_rfl)) (.trans (bG.fin (st':=⟨[(2,(vI u2)),(bC p),(aY s_),(9,(vO 47 false 0)),(10,(vI 0))],[(47,some (.arr 103 4 0 (au Short.cell ([]:List Short))))]⟩) (cs:=[]) ⟨[],[(85,47)]⟩ [2,3,4,9,10] (by kernel_rfl) trivial) (bG.le (st':=⟨[(2,(vI u2)),(bC p),(aY s_),(9,(vO 47 false (([]:List Short).length))),(10,(vI 0))],[(47,some (bO 103 4 Short.cell ([]:List Short)))]⟩) ⟨⟨tR,tR,tR,⟨_,rfl,cu.v (dm.one cW)⟩,tR,trivial⟩,⟨rfl,oW,trivial⟩⟩))) ?_
   refine aL [] (yc p s_ u2) yg rH hy (fun s f h=> ?_) ?_
   ·clear hy
    show bn _ _ _ _ _ _ ((Gz p s_ u2) f) _
    unfold dA at h
    obtain⟨u1,k⟩:=s
    refine aQ (aQ (aO h fun a1 h=> ?_))
    refine rg tT ⟨[(2,(vI u2)),(bC p),(aY s_),(Bw u1),(10,(vI k)),(41,(vB (bif (NP p k)then(!(at' s_.badBus u2.toNat))else false)))],(Bq u1)⟩ (eqs (NP p k) 4 ((gP (gG [(5,(NP p k))]) [(5,true)]→All [(0:Int)≤u2∧u2<(s_.badBus.length:Int)])::(eqs (NP p k) 3 []))) {yb:=[(5,(NP p k))] } [] (ae ⟨(fun hg=> ⟨(a1 (aN hg)),trivial⟩),(ae trivial)⟩) ?_
    refine bI h (fun hb3 h=> ?_) (fun hb3 h=> ?_)
    ·refine ct hb3 ?_
     refine aP (bE h fun y hy h=> ?_)
     refine Ip (o:=y) (fun u3=>(Tg u3 u2 p s_ k)) ?_ ?_
     ·replace h:=hy
      clear hy
      refine aB (aQ (aQ (bE h fun u5 hr_1 h=> ?_)))
      have q0:=G5 p s_ k hr_1
      refine rg tT ⟨[(2,(vI u2)),(bC p),(aY s_),(Bw u1),(10,(vI k)),(48,(vB (!u5)))],(Bq u1)⟩ [_] {an:=[(3,cA q0 [])] } [] ⟨q0,trivial⟩ ?_
      refine bI h (fun hb2 h=> ?_) (fun hb2 h=> ?_)
      ·refine ct hb2 ?_
       refine aI (fz (Tg u1 u2 p s_ k) []) ?_
       refine aX ?_
       obtain rfl:=oi h
       exact⟨rfl,by kernel_rfl⟩
      ·refine cf hb2 ?_
       refine aP (aQ (bE h fun u0 hr_2 h=> ?_))
       refine aO h fun⟨a1,a2,a3,a4⟩ h=> ?_
       refine dg tT mX ⟨[(2,(vI u2)),(bC p),(aY s_),(Bw u1),(10,(vI k)),(11,(vI u0.1)),(M4 u0)],(Bq u1)⟩ [_,_,(p.buses:Int)=p.buses,_,_,(DF p).length=p.buses.toNat,aC p.buses.toNat 1 (fun _ j=>[(.bool false)].getD j .nilp) (Um p),Fn Try.prog 92 [(.agg (k1 p)),(.agg (QW s_)),(sI (Dm p k)),(sI u2),(sD (aJ (some true) 1 ai (DF p)))] [] (Em u0) []] {an:=[(11, .frz (DF p).length (Um p)),(12, .call [] (Em u0) [])],fr:=[(11,80)] } [] ⟨a1,a2,rfl,a3,a4,(List.length_replicate),(cZ _ _ _ _ _ (fun j hj=>(match j,hj with|0,_=>rfl))),(Fn.leH (args:=[(.agg (k1 p)),(.agg (QW s_)),(sI (Dm p k)),(sI u2),(sD (aJ none 1 ai (DF p)))]) (hin:=[]) (Df FUEL p s_ (Dm p k) u2 (DF p) hr_2) ⟨dm.refl _,dm.refl _,dm.refl _,dm.refl _,dm.one (cK.d fo.mH),trivial⟩ trivial),trivial⟩ ?_
       refine aQ (sz tT ⟨[(2,(vI u2)),(bC p),(aY s_),(Bw u1),(10,(vI k)),(11,(vI u0.1)),(M4 u0),(66,(vB (decide (u0.1<0))))],(Bq u1)⟩ {} [] ?_)
       refine bI h (fun hb1 h=> ?_) (fun hb1 h=> ?_)
       ·refine ct hb1 ?_
        refine aI (fz (Tg u1 u2 p s_ k) []) ?_
        refine aX ?_
        obtain rfl:=oi h
        exact⟨rfl,by kernel_rfl⟩
       ·refine cf hb1 ?_
        refine aP (aQ (aO h fun a1 h=> ?_))
        refine rg tT ⟨[(2,(vI u2)),(bC p),(aY s_),(Bw u1),(10,(vI k)),(M4 u0),(TF u0 p k)],(Bq u1)⟩ [_] {} [] ⟨a1,trivial⟩ ?_
        refine aQ (aO h fun a1 h=> ?_)
        refine rg tT ⟨[(2,(vI u2)),(bC p),(aY s_),(Bw u1),(10,(vI k)),(M4 u0),(TF u0 p k),(aaw u0 p k)],(Bq u1)⟩ [_] {} [] ⟨a1,trivial⟩ ?_
        refine aQ (sz tT ⟨[(2,(vI u2)),(bC p),(aY s_),(Bw u1),(10,(vI k)),(M4 u0),(TF u0 p k),(aaw u0 p k),(80,(vB (decide ((IntKind.wrap .i64 ((Ov u0 p k)*(JY u0 p k)))<400000))))],(Bq u1)⟩ {} [] ?_)
        refine bI h (fun hb h=> ?_) (fun hb h=> ?_)
        ·refine ct hb ?_
         refine rz tT ⟨[(2,(vI u2)),(bC p),(aY s_),(Bw u1),(10,(vI k)),(M4 u0),(TF u0 p k),(14,(vI (Xb u0 p k)))],(Bq u1)⟩ {} [] ?_
         refine aO h fun⟨a1,a2⟩ h=> ?_
         refine ri tT ⟨[(2,(vI u2)),(bC p),(aY s_),(9,(vO 82 false (aa4 u0 p k u1))),(10,(vI k))],[(82,some (aaz u0 p k u1))]⟩ [[(M7 u0 p k)].length=1,aC 1 4 (ig 4 [(.int .i64 k),(.int .i64 (JY u0 p k)),(.int .i64 (Xb u0 p k)),(aJ none 1 (aj .i64) u0.2)]) (XL u0 p k),u1.length=u1.length,_,_,(Pn u0 p k u1).length=u1.length+[(M7 u0 p k)].length,aC (u1.length+[(M7 u0 p k)].length) 4 (Ak (au Short.cell u1) u1.length (XL u0 p k)) (aaJ u0 p k u1)] {an:=[(6, .arr [(M7 u0 p k)].length (XL u0 p k)),(7, .arr (Pn u0 p k u1).length (aaJ u0 p k u1))],fr:=[(6,81),(7,82)] } [] ⟨(rfl),((by intro i hi j hj;match i,j,hi,hj with|0,0,_,_=>rfl|0,1,_,_=>rfl|0,2,_,_=>rfl|0,3,_,_=>rfl)),rfl,a1,a2,(List.length_append),(fe _ _ _ _),trivial⟩ (bG.fin (st':=⟨[(2,(vI u2)),(bC p),(aY s_),(9,(vO 47 false (aa4 u0 p k u1))),(10,(vI k))],[(47,some (aaz u0 p k u1))]⟩) (cs:=[]) ⟨[],[(82,47)]⟩ [2,3,4,9,10] (by kernel_rfl) trivial) ?_
         obtain rfl:=oi h
         exact⟨rfl,by kernel_rfl⟩
        ·refine cf hb ?_
         refine aP (aO h fun⟨a1,a2⟩ h=> ?_)
         refine ri tT ⟨[(2,(vI u2)),(bC p),(aY s_),(9,(vO 84 false (aaq u0 p k u1))),(10,(vI k))],[(84,some (aa1 u0 p k u1))]⟩ [[(MS u0 p k)].length=1,aC 1 4 (ig 4 [(.int .i64 k),(.int .i64 (JY u0 p k)),(.int .i64 (Ov u0 p k)),(aJ none 1 (aj .i64) u0.2)]) (WQ u0 p k),u1.length=u1.length,_,_,(Pk u0 p k u1).length=u1.length+[(MS u0 p k)].length,aC (u1.length+[(MS u0 p k)].length) 4 (Ak (au Short.cell u1) u1.length (WQ u0 p k)) (aa3 u0 p k u1)] {an:=[(6, .arr [(MS u0 p k)].length (WQ u0 p k)),(7, .arr (Pk u0 p k u1).length (aa3 u0 p k u1))],fr:=[(6,83),(7,84)] } [] ⟨(rfl),((by intro i hi j hj;match i,j,hi,hj with|0,0,_,_=>rfl|0,1,_,_=>rfl|0,2,_,_=>rfl|0,3,_,_=>rfl)),rfl,a1,a2,(List.length_append),(fe _ _ _ _),trivial⟩ (bG.fin (st':=⟨[(2,(vI u2)),(bC p),(aY s_),(9,(vO 47 false (aaq u0 p k u1))),(10,(vI k))],[(47,some (aa1 u0 p k u1))]⟩) (cs:=[]) ⟨[],[(84,47)]⟩ [2,3,4,9,10] (by kernel_rfl) trivial) ?_
         obtain rfl:=oi h
         exact⟨rfl,by kernel_rfl⟩
     ·clear hy
      obtain⟨u3,rfl⟩: ∃q,q=y:=⟨_,rfl⟩
      refine rz tT ⟨[(2,(vI u2)),(bC p),(aY s_),(Bw u3),(Tc k)],(Bq u3)⟩ {} [] ?_
      obtain rfl:=oi h
      exact lN
    ·refine cf hb3 ?_
     refine aI (fz ⟨[(Bw u1)],(Bq u1)⟩ []) ?_
     refine aX ?_
     obtain rfl:=oi h
     exact lB
   ·clear hy
    cases y1 with
    |brk z=>
     obtain⟨u4,rfl⟩: ∃q,q=z:=⟨_,rfl⟩
     unfold dU
     refine⟨_, .refl, ?_⟩
     refine sg tT ⟨[(6,(Sq u4)),(7,(vI 0))],[]⟩ [u4.length=u4.length] {} [47] ⟨rfl,trivial⟩ ?_
     refine aR ?_
     obtain rfl:=oi h
     exact rl [(sD (aJ none 4 Short.cell u4)),(sI 0)]
    |ret v=>
     obtain rfl:=oi h
     unfold dU
     intro e st hn ha hR
     cases e with
     |normal=>exact absurd rfl hn
     |exit id=>exact hR
     |goto l=>exact hR
     |ret=>exact hR
     |panic c=>exact hR
     |outgrown=>exact hR
def qo  :((List Int) × Int)→Exit→St→Prop:=
  fun r=>aU TT [.tmp 4, .tmp 5] (.gK [(sD (aJ none 1 (aj .i64) r.1)),(sI r.2)]) []
section
variable (u0:(List Int)) (l:(List Short)) (p:ah) (n:Int)
abbrev oV:Nat × TV:=(7,(vO 7 true u0.length))
abbrev Qk:Nat × Option Ob:=(7,some (CO u0))
abbrev Cy:List (Nat × Option Ob):=[(Qk u0)]
abbrev XV:St:=⟨[(mo l),(jH p),(oV u0),(8,(vI n))],(Cy u0)⟩
end
def wZ (p:ah) (l:(List Short)):((List Int) × Int)→St:=
  fun zz=>match zz with|(u0,n)=>(XV u0 l p n)
def xg  :(List Int)→St:=
  fun u0=> ⟨[(oV u0)],(Cy u0)⟩
def iE (p:ah) (l:(List Short)):(aK ((List Int) × Int) (Ex (List Int) ((List Int) × Int)))→Exit→St→Prop:=
  LQ 0 [] (wZ p l) xg qo
section
variable (l:(List Short)) (p:ah) (u0:(List Int)) (n:Int) (u1:(List Bool)) (i:Int)
abbrev aau:List (Nat × TV):=[(mo l),(jH p),(oV u0),(8,(vI n)),(9,(vO 11 true u1.length)),(10,(vI i))]
abbrev Qt:List (Nat × Option Ob):=[(Qk u0),(11,some (bO 4 1 ai u1))]
end
def vY (p:ah) (l:(List Short)) (u0:(List Int)) (n:Int):((List Bool) × Int)→St:=
  fun zz=>match zz with|(u1,i)=> ⟨(aau l p u0 n u1 i),(Qt u0 u1)⟩
section
variable (l:(List Short)) (p:ah) (u0:(List Int)) (n:Int) (u1:(List Bool))
abbrev aa5:St:=⟨[(mo l),(jH p),(oV u0),(8,(vI n)),(9,(vO 11 true u1.length))],(Qt u0 u1)⟩
end
def vN (p:ah) (l:(List Short)) (u0:(List Int)) (n:Int):(List Bool)→St:=
  fun u1=>(aa5 l p u0 n u1)
def Et (p:ah) (l:(List Short)) (u0:(List Int)) (n:Int):(aK ((List Bool) × Int) (Ex (List Bool) (aK ((List Int) × Int) (Ex (List Int) ((List Int) × Int)))))→Exit→St→Prop:=
  LQ 2 [1] (vY p l u0 n) (vN p l u0 n) (iE p l)
section
variable (u1:(List Bool)) (l:(List Short)) (p:ah) (u0:(List Int)) (n:Int) (k:Int)
abbrev Ko:Nat × TV:=(9,(vD (aJ (some true) 1 ai u1)))
abbrev aaV:List (Nat × TV):=[(mo l),(jH p),(oV u0),(8,(vI n)),(Ko u1),(12,(vI k))]
end
def wO (p:ah) (l:(List Short)) (n:Int) (u1:(List Bool)):((List Int) × Int)→St:=
  fun zz=>match zz with|(u0,k)=> ⟨(aaV u1 l p u0 n k),(Cy u0)⟩
def wW (p:ah) (l:(List Short)) (n:Int):(List Int)→St:=
  fun u0=>(XV u0 l p n)
def Fe (p:ah) (l:(List Short)) (n:Int) (u0:(List Bool)):(aK ((List Int) × Int) (Ex (List Int) (aK ((List Int) × Int) (Ex (List Int) ((List Int) × Int)))))→Exit→St→Prop:=
  LQ 4 [1] (wO p l n u0) (wW p l n) (iE p l)
section
variable (p:ah) (u0:(List Int)) (u2:(List Bool)) (l:(List Short)) (n:Int) (i:Int) (u1:(List Int)) (k:Int)
abbrev Xk:St:=⟨[(4,(vD JW)),(5,(vI 1))],[]⟩
abbrev XO:List SV:=[(sD JW),(sI 1)]
abbrev aaA:List (Nat × Option Ob):=[(7,some (ZW p))]
abbrev MP:=(List.replicate (JC p) (false:Bool))
abbrev aaS:Nat × TV:=(9,(vO 11 true ((MP p).length)))
abbrev aaK:List (Nat × Option Ob):=[(Qk u0),(11,some (bO 4 1 ai (MP p)))]
abbrev X5:=(au ai (u2.set ((at' ((at' l n.toNat).links) i.toNat).toNat) true))
abbrev aaQ:List (Nat × Option Ob):=[(Qk u0),(11,some (bO 4 1 ai (u2.set ((at' ((at' l n.toNat).links) i.toNat).toNat) true)))]
abbrev aas:Nat × TV:=(7,(vO 7 true ((VQ l n u1 k).length)))
abbrev aaC:List (Nat × Option Ob):=[(7,some (bO 3 1 (aj .i64) (VQ l n u1 k)))]
end
theorem wG (p:ah) (l:(List Short)) {r:((List Int) × Int)} (h:iT p l=some r):Fn Try.prog 53 (aie p l) [] (.gK [(sD (aJ none 1 (aj .i64) r.1)),(sI r.2)]) []:=by
 refine fN tT Try.func53 rfl rfl fun B=> ?_
 show bn _ _ _ _ _ _ (qo r) _
 unfold iT at h
 refine sz tT (aiY p l) {fr:=[(0,6)] } [6] ?_
 refine aQ (bE h fun r_ hr_ h=> ?_)
 have q0:=qX p hr_
 refine rg tT (ajq p l r_) [_] {an:=[(1,cA q0 [])] } [] ⟨q0,trivial⟩ ?_
 refine aQ (sz tT ⟨[(mo l),(jH p),(6,(vI r_)),(16,(vB (!decide (r_=0))))],[]⟩ {} [] ?_)
 refine bI h (fun hb7 h=> ?_) (fun hb7 h=> ?_)
 ·refine ct hb7 ?_
  refine sz tT ⟨[(4,(vD nS)),(5,(vI r_))],[]⟩ {} [] ?_
  refine aI (bG.le (st':=⟨[(4,(vD JW)),(5,(vI r_))],[]⟩) ⟨⟨⟨_,rfl,cu.v (dm.one (cK.d fo.nil'))⟩,tR,trivial⟩,trivial⟩) ?_
  refine aR ?_
  obtain rfl:=oi h
  exact rl [(sD JW),(sI r_)]
 ·refine cf hb7 ?_
  refine aP (aQ (sz tT ⟨[(mo l),(jH p),(20,(vB (decide (8<(l.length:Int)))))],[]⟩ {} [] ?_))
  refine bI h (fun hb6 h=> ?_) (fun hb6 h=> ?_)
  ·refine ct hb6 ?_
   refine sz tT WA {} [] ?_
   refine aI (bG.le (st':=Xk) ⟨⟨⟨_,rfl,cu.v (dm.one (cK.d fo.nil'))⟩,tR,trivial⟩,trivial⟩) ?_
   refine aR ?_
   obtain rfl:=oi h
   exact rl XO
  ·refine cf hb6 ?_
   refine aP (aQ (aO h fun⟨a1,a2,a3⟩ h=> ?_))
   refine rg tT ⟨[(mo l),(jH p),(7,(vO 7 true (RL p)))],(aaA p)⟩ [_,(WC p)=(p.links.length:Int),_,_,(Ke p).length=(JC p),aC (JC p) 1 (fun _ j=>[(.int .i64 0)].getD j .nilp) (OA p)] {an:=[(3, .arr (Ke p).length (OA p))],fr:=[(3,7)] } [] ⟨a1,rfl,a2,a3,(List.length_replicate),(cZ _ _ _ _ _ (fun j hj=>(match j,hj with|0,_=>rfl))),trivial⟩ ?_
   refine aQ (sz tT ⟨[(mo l),(jH p),(7,(vO 7 true (RL p))),(8,(vI 0))],(aaA p)⟩ {} [] ?_)
   refine bE h fun y2 hy h=> ?_
   refine aL [] (wZ p l) xg qo hy (fun s f h=> ?_) ?_
   ·clear hy
    show bn _ _ _ _ _ _ ((iE p l) f) _
    unfold dH at h
    obtain⟨u0,n⟩:=s
    refine aQ (sz tT ⟨[(mo l),(jH p),(oV u0),(8,(vI n)),(28,(vB (decide (n<(l.length:Int)))))],(Cy u0)⟩ {} [] ?_)
    refine bI h (fun hb5 h=> ?_) (fun hb5 h=> ?_)
    ·refine ct hb5 ?_
     refine aP (aQ (aB (aQ (aQ (aO h fun⟨a1,a2⟩ h=> ?_)))))
     refine rg tT ⟨[(mo l),(jH p),(oV u0),(8,(vI n)),(44,(vB (SA l n)))],(Cy u0)⟩ (_::(eqs (OM l n) 3 ((gP (gG [(6,(OM l n))]) [(6,false)]→All [(0:Int)≤n∧n<(l.length:Int)])::(eqs (OM l n) 4 [])))) {yb:=[(6,(OM l n))] } [] ⟨a1,(ae ⟨(fun hg=> ⟨(a2 (aN hg)),trivial⟩),(ae trivial)⟩)⟩ ?_
     refine bI h (fun hb4 h=> ?_) (fun hb4 h=> ?_)
     ·refine ct hb4 ?_
      refine sz tT WA {} [] ?_
      refine aI (bG.le (st':=Xk) ⟨⟨⟨_,rfl,cu.v (dm.one (cK.d fo.nil'))⟩,tR,trivial⟩,trivial⟩) ?_
      refine aR ?_
      obtain rfl:=oi h
      exact lR bS (bT 0) bR (aU.mk (.inr rfl) (p:=[]) (l:=XO) (by kernel_rfl) trivial (cu.refl _) trivial)
     ·refine cf hb4 ?_
      refine aP (aQ (aO h fun⟨a1,a2,a3⟩ h=> ?_))
      refine rg tT ⟨[(mo l),(jH p),(oV u0),(8,(vI n)),(aaS p)],(aaK p u0)⟩ [_,(WC p)=(p.links.length:Int),_,_,(MP p).length=(JC p),aC (JC p) 1 (fun _ j=>[(.bool false)].getD j .nilp) (au ai (MP p))] {an:=[(3, .arr (MP p).length (au ai (MP p)))],fr:=[(3,11)] } [] ⟨a1,rfl,a2,a3,(List.length_replicate),(cZ _ _ _ _ _ (fun j hj=>(match j,hj with|0,_=>rfl))),trivial⟩ ?_
      refine aQ (sz tT ⟨[(mo l),(jH p),(oV u0),(8,(vI n)),(aaS p),(10,(vI 0))],(aaK p u0)⟩ {} [] ?_)
      refine bE h fun y hy h=> ?_
      refine aL [1] (vY p l u0 n) (vN p l u0 n) (iE p l) hy (fun s f h=> ?_) ?_
      ·clear hy
       show bn _ _ _ _ _ _ ((Et p l u0 n) f) _
       unfold eH at h
       obtain⟨u2,i⟩:=s
       refine aQ (aQ (aO h fun a1 h=> ?_))
       refine rg tT ⟨[(mo l),(jH p),(oV u0),(8,(vI n)),(9,(vO 11 true u2.length)),(10,(vI i)),(56,(vB (decide (i<(((at' l n.toNat).links).length:Int)))))],(Qt u0 u2)⟩ [_] {} [] ⟨a1,trivial⟩ ?_
       refine bI h (fun hb1 h=> ?_) (fun hb1 h=> ?_)
       ·refine ct hb1 ?_
        refine aP (aQ (aB (aQ (aO h fun⟨a1,a2⟩ h=> ?_))))
        refine rg tT ⟨[(mo l),(jH p),(oV u0),(8,(vI n)),(9,(vO 11 true u2.length)),(10,(vI i)),(11,(vI (at' ((at' l n.toNat).links) i.toNat)))],(Qt u0 u2)⟩ [_,_] {} [] ⟨a1,a2,trivial⟩ ?_
        refine aQ (sg tT ⟨[(mo l),(jH p),(oV u0),(8,(vI n)),(9,(vO 11 true u2.length)),(10,(vI i)),(11,(vI (at' ((at' l n.toNat).links) i.toNat))),(75,(vB (bif (decide ((at' ((at' l n.toNat).links) i.toNat)<0))then true else(decide ((p.links.length:Int)≤(at' ((at' l n.toNat).links) i.toNat))))))],(Qt u0 u2)⟩ (eqs (decide ((at' ((at' l n.toNat).links) i.toNat)<0)) 6 []) {yb:=[(2,(decide ((at' ((at' l n.toNat).links) i.toNat)<0)))] } [] (ae trivial) ?_)
        refine bI h (fun hb h=> ?_) (fun hb h=> ?_)
        ·refine ct hb ?_
         refine sz tT WA {} [] ?_
         refine aI (bG.le (st':=Xk) ⟨⟨⟨_,rfl,cu.v (dm.one (cK.d fo.nil'))⟩,tR,trivial⟩,trivial⟩) ?_
         refine aR ?_
         obtain rfl:=oi h
         exact lR bS (bT 2) bR (lR bS (bT 0) bR (aU.mk (.inr rfl) (p:=[]) (l:=XO) (by kernel_rfl) trivial (cu.refl _) trivial))
        ·refine cf hb ?_
         refine aP (aO h fun a1 h=> ?_)
         refine ri tT ⟨(aau l p u0 n u2 i),[(Qk u0),(11,some (.arr 4 1 u2.length (X5 u2 l n i)))]⟩ [_,_,aC u2.length 1 (jS (au ai u2) ((at' ((at' l n.toNat).links) i.toNat).toNat) 0 [(.bool true)]) (X5 u2 l n i)] {an:=[(3, .arr 0 (X5 u2 l n i))] } [] ⟨a1,(tL a1),(bD _ _ _ _ _ _ _ _ rfl (fun j hj=>(match j,hj with|0,_=>rfl))),trivial⟩ (bG.le (st':=⟨[(mo l),(jH p),(oV u0),(8,(vI n)),(9,(vO 11 true ((u2.set ((at' ((at' l n.toNat).links) i.toNat).toNat) true).length))),(10,(vI i))],(aaQ u0 u2 l n i)⟩) ⟨⟨tR,tR,tR,tR,⟨_,rfl,cu.v (dm.one cW)⟩,tR,trivial⟩,⟨rfl, .refl _,⟨rfl,oW,trivial⟩⟩⟩) ?_
         refine rz tT ⟨[(mo l),(jH p),(oV u0),(8,(vI n)),(9,(vO 11 true ((u2.set ((at' ((at' l n.toNat).links) i.toNat).toNat) true).length))),(Tc i)],(aaQ u0 u2 l n i)⟩ {} [] ?_
         obtain rfl:=oi h
         exact lN
       ·refine cf hb1 ?_
        refine aI (fz (aa5 l p u0 n u2) []) ?_
        refine aX ?_
        obtain rfl:=oi h
        exact lB
      ·clear hy
       cases y with
       |brk z=>
        obtain⟨u3,rfl⟩: ∃q,q=z:=⟨_,rfl⟩
        unfold dU
        refine⟨_, .refl, ?_⟩
        refine sg tT ⟨[(mo l),(jH p),(oV u0),(8,(vI n)),(Ko u3),(12,(vI 0))],(Cy u0)⟩ [u3.length=u3.length] {} [11] ⟨rfl,trivial⟩ ?_
        refine bE h fun y1 hy h=> ?_
        refine aL [1] (wO p l n u3) (wW p l n) (iE p l) hy (fun s f h=> ?_) ?_
        ·clear hy
         show bn _ _ _ _ _ _ ((Fe p l n u3) f) _
         unfold fO at h
         obtain⟨u1,k⟩:=s
         refine aQ (sz tT ⟨[(mo l),(jH p),(oV u1),(8,(vI n)),(Ko u3),(12,(vI k)),(82,(Rs k u1))],(Cy u1)⟩ {} [] ?_)
         refine bI h (fun hb3 h=> ?_) (fun hb3 h=> ?_)
         ·refine ct hb3 ?_
          refine aP (aQ (aB (aQ (aO h fun a1 h=> ?_))))
          refine rg tT ⟨[(mo l),(jH p),(oV u1),(8,(vI n)),(Ko u3),(12,(vI k)),(88,(vB (at' u3 k.toNat)))],(Cy u1)⟩ [_] {} [] ⟨a1,trivial⟩ ?_
          refine bI h (fun hb2 h=> ?_) (fun hb2 h=> ?_)
          ·refine ct hb2 ?_
           refine aO h fun⟨a1,a2⟩ h=> ?_
           refine di tT mX ⟨(aaV u3 l p u1 n k),[(7,some (.arr 3 1 u1.length (Uf l n u1 k)))]⟩ [_,_,_,_,_,aC u1.length 1 (aeP l n u1 k) (Uf l n u1 k)] {an:=[(13, .arr 0 (Uf l n u1 k))] } [] ⟨a1,(tL a1),a2,a1,(tL a1),(bD _ _ _ _ _ _ _ _ rfl (fun j hj=>(match j,hj with|0,_=>rfl))),trivial⟩ (bG.le (st':=⟨[(mo l),(jH p),(aas l n u1 k),(8,(vI n)),(Ko u3),(12,(vI k))],(aaC l n u1 k)⟩) ⟨⟨tR,tR,⟨_,rfl,cu.v (dm.one cW)⟩,tR,tR,tR,trivial⟩,⟨rfl,oW,trivial⟩⟩) ?_
           refine rz tT ⟨[(mo l),(jH p),(aas l n u1 k),(8,(vI n)),(Ko u3),(12,(k28 k))],(aaC l n u1 k)⟩ {} [] ?_
           obtain rfl:=oi h
           exact lN
          ·refine cf hb2 ?_
           refine aP (rz tT ⟨[(mo l),(jH p),(oV u1),(8,(vI n)),(Ko u3),(12,(k28 k))],(Cy u1)⟩ {} [] ?_)
           obtain rfl:=oi h
           exact lN
         ·refine cf hb3 ?_
          refine aI (fz (XV u1 l p n) []) ?_
          refine aX ?_
          obtain rfl:=oi h
          exact lB
        ·clear hy
         cases y1 with
         |brk z=>
          obtain⟨u5,rfl⟩: ∃q,q=z:=⟨_,rfl⟩
          unfold dU
          refine⟨_, .refl, ?_⟩
          refine rz tT ⟨[(mo l),(jH p),(oV u5),(k27 n)],(Cy u5)⟩ {} [] ?_
          obtain rfl:=oi h
          exact lN
         |ret v=>
          obtain rfl:=oi h
          unfold dU
          intro e st hn ha hR
          cases e with
          |normal=>exact absurd rfl hn
          |exit id=>simp only [rC (b:=1) ha rfl,cond_false];exact hR
          |goto l=>exact hR
          |ret=>exact hR
          |panic c=>exact hR
          |outgrown=>exact hR
       |ret v=>
        obtain rfl:=oi h
        unfold dU
        intro e st hn ha hR
        cases e with
        |normal=>exact absurd rfl hn
        |exit id=>simp only [rC (b:=1) ha rfl,cond_false];exact hR
        |goto l=>exact hR
        |ret=>exact hR
        |panic c=>exact hR
        |outgrown=>exact hR
    ·refine cf hb5 ?_
     refine aI (fz ⟨[(oV u0)],(Cy u0)⟩ []) ?_
     refine aX ?_
     obtain rfl:=oi h
     exact lB
   ·clear hy
    cases y2 with
    |brk z=>
     obtain⟨u4,rfl⟩: ∃q,q=z:=⟨_,rfl⟩
     unfold dU
     refine⟨_, .refl, ?_⟩
     refine sg tT ⟨[(4,(vD (Rf u4))),(5,(vI 0))],[]⟩ [u4.length=u4.length] {} [7] ⟨rfl,trivial⟩ ?_
     refine aI (bG.le (st':=⟨[(4,(Oy u4)),(5,(vI 0))],[]⟩) ⟨⟨⟨_,rfl,cu.v (dm.one (cK.d fo.mH))⟩,tR,trivial⟩,trivial⟩) ?_
     refine aR ?_
     obtain rfl:=oi h
     exact rl [(sD (y7 u4)),(sI 0)]
    |ret v=>
     obtain rfl:=oi h
     unfold dU
     intro e st hn ha hR
     cases e with
     |normal=>exact absurd rfl hn
     |exit id=>exact hR
     |goto l=>exact hR
     |ret=>exact hR
     |panic c=>exact hR
     |outgrown=>exact hR
def gq  :Bool→Exit→St→Prop:=
  fun r=>aU TT [.tmp 8] (vB r) []
section
variable (l:(List Short))
abbrev kg:Nat × TV:=(3,(Sq l))
end
def qG (p:ah) (s_:State) (u1:Int) (l:(List Short)):((List Short) × Int)→St:=
  fun zz=>match zz with|(u0,i)=> ⟨[(2,(vI u1)),(kg l),(qg p),(rE s_),(9,(vO 14 false u0.length)),(10,(vI i))],[(14,some (bO 47 4 Short.cell u0))]⟩
section
variable (u1:Int) (l:(List Short)) (p:ah) (s_:State) (u0:(List Short))
abbrev aat:St:=⟨[(2,(vI u1)),(kg l),(qg p),(rE s_),(9,(vO 14 false u0.length))],[(14,some (bO 47 4 Short.cell u0))]⟩
end
def qK (p:ah) (s_:State) (u1:Int) (l:(List Short)):(List Short)→St:=
  fun u0=>(aat u1 l p s_ u0)
def BA (p:ah) (s_:State) (u0:Int) (l:(List Short)):(aK ((List Short) × Int) (Ex (List Short) Bool))→Exit→St→Prop:=
  LQ 0 [] (qG p s_ u0 l) (qK p s_ u0 l) gq
section
variable (u2:(List Short)) (u0:Int) (u1:Int)
abbrev Bp:Nat × TV:=(9,(Sq u2))
abbrev Cj:Nat × TV:=(57,(vD (aJ (some true) 1 (aj .i64) [u0,u1])))
abbrev BV:Nat × TV:=(58,(vI ([u0,u1].length:Int)))
end
def qL (p:ah) (s_:State) (u0:Int) (l:(List Short)) (u2:(List Short)) (u1:Int):Int→St:=
  fun u3=> ⟨[(kg l),(qg p),(rE s_),(Bp u2),(Cj u0 u1),(BV u0 u1),(59,(vI u3))],[]⟩
section
variable (l:(List Short)) (p:ah) (u0:(List Short))
abbrev aaP:St:=⟨[(kg l),(qg p),(Bp u0)],[]⟩
end
def qO (p:ah) (l:(List Short)) (u0:(List Short)):Unit→St:=
  fun _=>(aaP l p u0)
def BM (p:ah) (s_:State) (u1:Int) (l:(List Short)) (u0:(List Short)) (u2:Int):(aK Int (Ex Unit Bool))→Exit→St→Prop:=
  LQ 2 [] (qL p s_ u1 l u0 u2) (qO p l u0) gq
section
variable (u2:((List Int) × Bool × Int)) (u4:((List Int) × Int)) (v0:Bool)
abbrev Gq:=(bif (decide (u2.2.2=u4.2))then v0 else false)
end
theorem BI (p:ah) (s_:State) (u0:Int) (l:(List Short)) {r:Bool} (h:iH p s_ u0 l=some r):Fn Try.prog 8 [(.agg (k1 p)),(.agg (QW s_)),(sI u0),(sD (aJ none 4 Short.cell l))] [] (vB r) []:=by
 refine fN tT Try.func8 rfl rfl fun B=> ?_
 show bn _ _ _ _ _ _ (gq r) _
 unfold iH at h
 refine sz tT ⟨[(2,(vI u0)),(kg l),(qg p),(rE s_)],[]⟩ {fr:=[(0,11),(1,12)] } [11,12] ?_
 refine aQ (aQ (bE h fun r_ hr_ h=> ?_))
 have q0:=KW p hr_
 refine rg tT ⟨[(2,(vI u0)),(kg l),(qg p),(rE s_),(29,(vB (bif r_ then true else(decide (20<(l.length:Int))))))],[]⟩ (_::(eqs r_ 4 [])) {yb:=[(2,r_)],an:=[(1,cA q0 [])] } [] ⟨q0,(ae trivial)⟩ ?_
 refine bI h (fun hb5 h=> ?_) (fun hb5 h=> ?_)
 ·refine ct hb5 ?_
  refine aQ (bE h fun v5 hr_1 h=> ?_)
  have q0:=rD hr_1
  refine rg tT ⟨[(8,(vB v5))],[]⟩ [_] {an:=[(0,cA q0 [])] } [] ⟨q0,trivial⟩ ?_
  refine aR ?_
  obtain rfl:=oi h
  exact rl [(sB v5)]
 ·refine cf hb5 ?_
  refine aP (sz tT ⟨[(2,(vI u0)),(kg l),(qg p),(rE s_),(9,(vD nS))],[]⟩ {} [] ?_)
  refine aQ (sz tT ⟨[(2,(vI u0)),(kg l),(qg p),(rE s_),(9,(vD nS)),(10,(vI 0))],[]⟩ {} [] ?_)
  refine bE h fun y hy h=> ?_
  refine aI (.trans (bG.QB (t:=9) (b:=21) (esz0:=0) (el0:=fun _ _=> .nilp) (E:=47) (esz:=4) (el:=au Short.cell ([]:List Short)) (by kernel_rfl) (by kernel_rfl)) (.trans (bG.fin (st':=⟨[(2,(vI u0)),(kg l),(qg p),(rE s_),(9,(vO 14 false 0)),(10,(vI 0))],[(14,some (.arr 47 4 0 (au Short.cell ([]:List Short))))]⟩) (cs:=[]) ⟨[],[(21,14)]⟩ [2,3,4,5,9,10] (by kernel_rfl) trivial) (bG.le (st':=⟨[(2,(vI u0)),(kg l),(qg p),(rE s_),(9,(vO 14 false (([]:List Short).length))),(10,(vI 0))],[(14,some (bO 47 4 Short.cell ([]:List Short)))]⟩) ⟨⟨tR,tR,tR,tR,⟨_,rfl,cu.v (dm.one cW)⟩,tR,trivial⟩,⟨rfl,oW,trivial⟩⟩))) ?_
  refine aL [] (qG p s_ u0 l) (qK p s_ u0 l) gq hy (fun s f h=> ?_) ?_
  ·clear hy
   show bn _ _ _ _ _ _ ((BA p s_ u0 l) f) _
   unfold bX at h
   obtain⟨u3,i⟩:=s
   refine aQ (sz tT ⟨[(2,(vI u0)),(kg l),(qg p),(rE s_),(9,(vO 14 false u3.length)),(10,(vI i)),(34,(vB (decide (i<(l.length:Int)))))],[(14,some (bO 47 4 Short.cell u3))]⟩ {} [] ?_)
   refine bI h (fun hb1 h=> ?_) (fun hb1 h=> ?_)
   ·refine ct hb1 ?_
    refine aP (aQ (aB (aQ (aQ (aO h fun a1 h=> ?_)))))
    refine rg tT ⟨[(2,(vI u0)),(kg l),(qg p),(rE s_),(9,(vO 14 false u3.length)),(10,(vI i)),(43,(vB (decide (60<(((at' l i.toNat).links).length:Int)))))],[(14,some (bO 47 4 Short.cell u3))]⟩ [_] {} [] ⟨a1,trivial⟩ ?_
    refine bI h (fun hb h=> ?_) (fun hb h=> ?_)
    ·refine ct hb ?_
     refine aQ (bE h fun v6 hr_2 h=> ?_)
     have q0:=rD hr_2
     refine rg tT ⟨[(8,(vB v6))],[]⟩ [_] {an:=[(0,cA q0 [])] } [] ⟨q0,trivial⟩ ?_
     refine aR ?_
     obtain rfl:=oi h
     exact lR bS (bT 0) bR (aU.mk (.inr rfl) (p:=[]) (l:=[(sB v6)]) (by kernel_rfl) trivial (cu.refl _) trivial)
    ·refine cf hb ?_
     refine aP (aO h fun⟨a1,a2,a3⟩ h=> ?_)
     refine rg tT ⟨[(2,(vI u0)),(kg l),(qg p),(rE s_),(9,(vO 20 false ((u3++[(at' l i.toNat)]).length))),(10,(vI i))],[(20,some (bO 47 4 Short.cell (u3++[(at' l i.toNat)])))]⟩ [_,[(at' l i.toNat)].length=1,aC 1 4 (ig 4 (aiD l i)) (au Short.cell [(at' l i.toNat)]),u3.length=u3.length,_,_,(u3++[(at' l i.toNat)]).length=u3.length+[(at' l i.toNat)].length,aC (u3.length+[(at' l i.toNat)].length) 4 (Ak (au Short.cell u3) u3.length (au Short.cell [(at' l i.toNat)])) (au Short.cell (u3++[(at' l i.toNat)]))] {an:=[(5, .arr [(at' l i.toNat)].length (au Short.cell [(at' l i.toNat)])),(6, .arr (u3++[(at' l i.toNat)]).length (au Short.cell (u3++[(at' l i.toNat)])))],fr:=[(5,19),(6,20)] } [] ⟨a1,(rfl),((by intro i hi j hj;match i,j,hi,hj with|0,0,_,_=>rfl|0,1,_,_=>rfl|0,2,_,_=>rfl|0,3,_,_=>rfl)),rfl,a2,a3,(List.length_append),(fe _ _ _ _),trivial⟩ ?_
     refine ri tT ⟨[(2,(vI u0)),(kg l),(qg p),(rE s_),(9,(vO 20 false ((u3++[(at' l i.toNat)]).length))),(Tc i)],[(20,some (bO 47 4 Short.cell (u3++[(at' l i.toNat)])))]⟩ [] {} [] trivial (bG.fin (st':=⟨[(2,(vI u0)),(kg l),(qg p),(rE s_),(9,(vO 14 false ((u3++[(at' l i.toNat)]).length))),(Tc i)],[(14,some (bO 47 4 Short.cell (u3++[(at' l i.toNat)])))]⟩) (cs:=[]) ⟨[],[(20,14)]⟩ [2,3,4,5,9,10] (by kernel_rfl) trivial) ?_
     obtain rfl:=oi h
     exact lN
   ·refine cf hb1 ?_
    refine aI (fz (aat u0 l p s_ u3) []) ?_
    refine aX ?_
    obtain rfl:=oi h
    exact lB
  ·clear hy
   cases y with
   |brk z=>
    obtain⟨u5,rfl⟩: ∃q,q=z:=⟨_,rfl⟩
    unfold dU
    refine⟨_, .refl, ?_⟩
    refine aQ (aQ (bE h fun u1 hr_3 h=> ?_))
    have q0:=Me u0 p.buses hr_3
    refine rg tT ⟨[(kg l),(qg p),(rE s_),(Bp u5),(Cj u0 u1),(BV u0 u1),(59,(vI 0))],[]⟩ [_,[u0,u1].length=2,aC 2 1 (ig 1 [(.int .i64 u0),(.int .i64 u1)]) (au (aj .i64) [u0,u1]),u5.length=u5.length,[u0,u1].length=[u0,u1].length] {an:=[(4,cA q0 []),(5, .arr [u0,u1].length (au (aj .i64) [u0,u1]))],fr:=[(5,22)] } [14,22] ⟨q0,(rfl),((by intro i hi j hj;match i,j,hi,hj with|0,0,_,_=>rfl|1,0,_,_=>rfl)),rfl,rfl,trivial⟩ ?_
    refine bE h fun y1 hy h=> ?_
    refine aL [] (qL p s_ u0 l u5 u1) (qO p l u5) gq hy (fun s f h=> ?_) ?_
    ·clear hy
     show bn _ _ _ _ _ _ ((BM p s_ u0 l u5 u1) f) _
     unfold d9 at h
     obtain⟨u7,rfl⟩: ∃q,q=s:=⟨_,rfl⟩
     refine sz tT ⟨[(kg l),(qg p),(rE s_),(Bp u5),(Cj u0 u1),(BV u0 u1),(59,(vI u7)),(60,(vB (decide (u7<([u0,u1].length:Int)))))],[]⟩ {} [] ?_
     refine aQ ?_
     refine bI h (fun hb4 h=> ?_) (fun hb4 h=> ?_)
     ·refine ct hb4 ?_
      refine aP (aQ (aB (aQ (aO h fun a1 h=> ?_))))
      refine rg tT ⟨[(kg l),(qg p),(rE s_),(Bp u5),(12,(vI (at' [u0,u1] u7.toNat))),(Cj u0 u1),(BV u0 u1),(59,(vI u7))],[]⟩ [_] {} [] ⟨a1,trivial⟩ ?_
      refine aQ (bE h fun u8 hr_4 h=> ?_)
      have q0:=jO p s_ (at' [u0,u1] u7.toNat) hr_4
      refine rg tT ⟨[(kg l),(qg p),(rE s_),(Bp u5),(12,(vI (at' [u0,u1] u7.toNat))),(13,(vD (Av u8))),(14,(vI u8.2)),(Cj u0 u1),(BV u0 u1),(59,(vI u7))],[]⟩ [_] {an:=[(3,cA q0 [])] } [] ⟨q0,trivial⟩ ?_
      refine aQ (bE h fun u9 hr_5 h=> ?_)
      have q0:=Gx p s_ (at' [u0,u1] u7.toNat) hr_5
      refine rg tT ⟨[(kg l),(qg p),(rE s_),(Bp u5),(13,(vD (Av u8))),(14,(vI u8.2)),(15,(vD (Av u9))),(16,(vI u9.2)),(Cj u0 u1),(BV u0 u1),(59,(vI u7))],[]⟩ [_] {an:=[(3,cA q0 [])] } [] ⟨q0,trivial⟩ ?_
      refine aQ (aQ (bE h fun v3 hr_6 h=> ?_))
      refine rg tT ⟨[(kg l),(qg p),(rE s_),(Bp u5),(13,(vD (Av u8))),(15,(vD (Av u9))),(Cj u0 u1),(BV u0 u1),(59,(vI u7)),(85,(vB (bif (!decide (u8.2=u9.2))then true else(!v3))))],[]⟩ (eqs (!decide (u8.2=u9.2)) 3 ((gP (gG [(3,(!decide (u8.2=u9.2)))]) [(3,false)]→All [Fn Try.prog 52 [(sD (Av u8)),(sD (Av u9))] [] (vB v3) []])::(eqs (!decide (u8.2=u9.2)) 2 []))) {yb:=[(3,(!decide (u8.2=u9.2)))],an:=[(6, .call [] (vB v3) [])] } [] (ae ⟨(fun hg=> ⟨(bL u8.1 u9.1 (dJ hr_6 (aN hg))),trivial⟩),(ae trivial)⟩) ?_
      refine bI h (fun hb3 h=> ?_) (fun hb3 h=> ?_)
      ·refine ct hb3 ?_
       refine sz tT ⟨[(8,(vB false))],[]⟩ {} [] ?_
       refine aR ?_
       obtain rfl:=oi h
       exact lR bS (bT 2) bR (aU.mk (.inr rfl) (p:=[]) (l:=[(sB false)]) (by kernel_rfl) trivial (cu.refl _) trivial)
      ·refine cf hb3 ?_
       refine aP (aQ (bE h fun u6 hr_7 h=> ?_))
       have q0:=gJ p u8.1 hr_7
       refine rg tT ⟨[(kg l),(qg p),(rE s_),(Bp u5),(14,(vI u6.2.2)),(15,(vD (Av u9))),(17,(vD (Dv u6))),(Cj u0 u1),(BV u0 u1),(59,(vI u7))],[]⟩ [_] {an:=[(2,cA q0 [])] } [] ⟨q0,trivial⟩ ?_
       refine aQ (bE h fun v1 hr_8 h=> ?_)
       have q0:=wG p u9.1 hr_8
       refine rg tT ⟨[(kg l),(qg p),(rE s_),(Bp u5),(14,(vI u6.2.2)),(16,(vI v1.2)),(17,(vD (Dv u6))),(18,(vD (aJ none 1 (aj .i64) v1.1))),(Cj u0 u1),(BV u0 u1),(59,(vI u7))],[]⟩ [_] {an:=[(2,cA q0 [])] } [] ⟨q0,trivial⟩ ?_
       refine aQ (bE h fun v4 hr_9 h=> ?_)
       refine rg tT ⟨[(kg l),(qg p),(rE s_),(Bp u5),(Cj u0 u1),(BV u0 u1),(59,(vI u7)),(106,(vB (bif (!decide (u6.2.2=v1.2))then true else(!v4))))],[]⟩ (eqs (!decide (u6.2.2=v1.2)) 3 ((gP (gG [(3,(!decide (u6.2.2=v1.2)))]) [(3,false)]→All [Fn Try.prog 54 [(sD (Dv u6)),(sD (aJ none 1 (aj .i64) v1.1))] [] (vB v4) []])::(eqs (!decide (u6.2.2=v1.2)) 2 []))) {yb:=[(3,(!decide (u6.2.2=v1.2)))],an:=[(6, .call [] (vB v4) [])] } [] (ae ⟨(fun hg=> ⟨(Fn.leH (args:=[(sD (aJ none 1 (aj .i64) u6.1)),(sD (aJ none 1 (aj .i64) v1.1))]) (hin:=[]) (bU u6.1 v1.1 (dJ hr_9 (aN hg))) ⟨dm.one (cK.d fo.mH),dm.refl _,trivial⟩ trivial),trivial⟩),(ae trivial)⟩) ?_
       refine bI h (fun hb2 h=> ?_) (fun hb2 h=> ?_)
       ·refine ct hb2 ?_
        refine sz tT ⟨[(8,(vB false))],[]⟩ {} [] ?_
        refine aR ?_
        obtain rfl:=oi h
        exact lR bS (bT 2) bR (aU.mk (.inr rfl) (p:=[]) (l:=[(sB false)]) (by kernel_rfl) trivial (cu.refl _) trivial)
       ·refine cf hb2 ?_
        refine aP (rz tT ⟨[(kg l),(qg p),(rE s_),(Bp u5),(Cj u0 u1),(BV u0 u1),(59,(k28 u7))],[]⟩ {} [] ?_)
        obtain rfl:=oi h
        exact lN
     ·refine cf hb4 ?_
      refine aI (fz (aaP l p u5) []) ?_
      refine aX ?_
      obtain rfl:=oi h
      exact lB
    ·clear hy
     cases y1 with
     |brk z=>
      unfold dU
      refine⟨_, .refl, ?_⟩
      refine aQ (bE h fun u2 hr_10 h=> ?_)
      have q0:=gJ p u5 hr_10
      refine rg tT ⟨[(kg l),(qg p),(19,(vD (Dv u2))),(20,(vI u2.2.2))],[]⟩ [_] {an:=[(2,cA q0 [])] } [] ⟨q0,trivial⟩ ?_
      refine aQ (bE h fun u4 hr_11 h=> ?_)
      have q0:=wG p l hr_11
      refine rg tT ⟨[(19,(vD (Dv u2))),(20,(vI u2.2.2)),(21,(vD (aJ none 1 (aj .i64) u4.1))),(22,(vI u4.2))],[]⟩ [_] {an:=[(2,cA q0 [])] } [] ⟨q0,trivial⟩ ?_
      refine aQ (bE h fun v0 hr_12 h=> ?_)
      refine bE h fun v2 hr_13 h=> ?_
      refine rg tT ⟨[(8,(vB (bif (Gq u2 u4 v0)then v2 else false)))],[]⟩ (eqs (decide (u2.2.2=u4.2)) 3 [gP (gG [(3,(decide (u2.2.2=u4.2))),(8,(Gq u2 u4 v0))]) [(3,true)]→All [Fn Try.prog 54 [(sD (Dv u2)),(sD (aJ none 1 (aj .i64) u4.1))] [] (vB v0) []],(decide (u2.2.2=u4.2))=(decide (u2.2.2=u4.2)),(Gq u2 u4 v0)=(Gq u2 u4 v0),gP (gG [(3,(decide (u2.2.2=u4.2))),(8,(Gq u2 u4 v0))]) [(8,true)]→All [Fn Try.prog 30 [] [] (vB v2) []],(Gq u2 u4 v0)=(Gq u2 u4 v0)]) {yb:=[(3,(decide (u2.2.2=u4.2))),(8,(Gq u2 u4 v0))],an:=[(6, .call [] (vB v0) []),(9, .call [] (vB v2) [])] } [] (ae ⟨(fun hg=> ⟨(Fn.leH (args:=[(sD (aJ none 1 (aj .i64) u2.1)),(sD (aJ none 1 (aj .i64) u4.1))]) (hin:=[]) (bU u2.1 u4.1 (dJ hr_12 (aN hg))) ⟨dm.one (cK.d fo.mH),dm.refl _,trivial⟩ trivial),trivial⟩),rfl,rfl,(fun hg=> ⟨(rD (dJ hr_13 (aN hg))),trivial⟩),rfl,trivial⟩) ?_
      refine aR ?_
      obtain rfl:=oi h
      exact rl [(sB (bif (Gq u2 u4 v0)then v2 else false))]
     |ret v=>
      obtain rfl:=oi h
      unfold dU
      intro e st hn ha hR
      cases e with
      |normal=>exact absurd rfl hn
      |exit id=>exact hR
      |goto l=>exact hR
      |ret=>exact hR
      |panic c=>exact hR
      |outgrown=>exact hR
   |ret v=>
    obtain rfl:=oi h
    unfold dU
    intro e st hn ha hR
    cases e with
    |normal=>exact absurd rfl hn
    |exit id=>exact hR
    |goto l=>exact hR
    |ret=>exact hR
    |panic c=>exact hR
    |outgrown=>exact hR
end
end Sg
