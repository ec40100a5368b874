import Derived.Test.YtpndenfhglaikaaW1
set_option linter.all false
namespace Sg
open Go Go.Proofs
set_option maxRecDepth 20000
noncomputable section
theorem eY (a:List Int) (b:List Int) {r:Bool} (h:fB a b=some r):Fn Try.prog 54 [sD (Dk a),sD (Dk b)] [] (vB r) []:=by
 refine fN tT Try.func54 rfl rfl fun B=> ?_
 show bR _ _ _ _ _ _ (vg r) _
 unfold fB at h
 refine sz tT (aeg a b) {} [] ?_
 refine aQ (sz tT ⟨[mr a,F6 b,(10,vB (!decide ((a.length:Int)=(b.length:Int))))],[]⟩ {} [] ?_)
 refine bI h (fun hb2 h=> ?_) (fun hb2 h=> ?_)
 ·refine ct hb2 ?_
  refine sz tT ⟨[(4,vB false)],[]⟩ {} [] ?_
  refine aR ?_
  obtain rfl:=oi h
  exact rl [sB false]
 ·refine cf hb2 ?_
  refine aP (aQ (sz tT ⟨[mr a,F6 b,(5,vI 0)],[]⟩ {} [] ?_))
  refine bE h fun y hy h=> ?_
  refine aL [] (Ah a b) AP vg hy (fun s f h=> ?_) ?_
  ·clear hy
   show bR _ _ _ _ _ _ ((Jk a b) f) _
   unfold zZ at h
   obtain⟨i,rfl⟩: ∃q,q=s:=⟨_,rfl⟩
   refine aQ (sz tT ⟨[mr a,F6 b,(5,vI i),(14,aat i a)],[]⟩ {} [] ?_)
   refine bI h (fun hb1 h=> ?_) (fun hb1 h=> ?_)
   ·refine ct hb1 ?_
    refine aP (aQ (aB (aQ (aO h fun⟨a1,a2⟩ h=> ?_))))
    refine dg tT mX ⟨[mr a,F6 b,(5,vI i),(25,vB (!decide ((at' a i.toNat)=(at' b i.toNat))))],[]⟩ [_,_] {} [] ⟨a1,a2,trivial⟩ ?_
    refine bI h (fun hb h=> ?_) (fun hb h=> ?_)
    ·refine ct hb ?_
     refine sz tT ⟨[(4,vB false)],[]⟩ {} [] ?_
     refine aR ?_
     obtain rfl:=oi h
     exact lR dw (dm 0) dz (bL.mk (.inr rfl) (p:=[]) (l:=[sB false]) (by kernel_rfl) trivial (eB.refl _) trivial)
    ·refine cf hb ?_
     refine aP (rz tT ⟨[mr a,F6 b,k2 i],[]⟩ {} [] ?_)
     obtain rfl:=oi h
     exact lN
   ·refine cf hb1 ?_
    refine aI (fz ⟨[],[]⟩ []) ?_
    refine aX ?_
    obtain rfl:=oi h
    exact lB
  ·clear hy
   cases y with
   |brk z=>
    unfold dZ
    refine⟨_, .refl, ?_⟩
    refine sz tT ⟨[(4,vB true)],[]⟩ {} [] ?_
    refine aR ?_
    obtain rfl:=oi h
    exact rl [sB true]
   |ret v=>
    obtain rfl:=oi h
    unfold dZ
    intro e st hn ha hR
    cases e with
    |normal=>exact absurd rfl hn
    |exit id=>exact hR
    |goto l=>exact hR
    |ret=>exact hR
    |panic c=>exact hR
    |outgrown=>exact hR
def oZ  :Bool→Exit→St→Prop:=
  fun r=>bL TT [.tmp 4] (vB r) []
section
variable (a:List aJ)
abbrev WI:Nat × TV:=(0,vD (bJ none 4 aJ.cell a))
end
def uJ (a:List aJ) (b:List aJ):Int→St:=
  fun i=> ⟨[WI a,MC b,(5,vI i)],[]⟩
def uy  :Unit→St:=
  fun _=> ⟨[],[]⟩
def Ed (a:List aJ) (b:List aJ):(aY Int (Ex Unit Bool))→Exit→St→Prop:=
  LQ 0 [] (uJ a b) uy oZ
section
variable (a:List aJ) (i:Int) (b:List aJ)
abbrev ZM:=(!decide (((at' a i.toNat).source)=((at' b i.toNat).source)))
abbrev Yk:=(bif (ZM a i b)then true else(!decide (((at' a i.toNat).gM)=((at' b i.toNat).gM))))
abbrev VA:=(bif (Yk a i b)then true else(!decide (((at' a i.toNat).amps)=((at' b i.toNat).amps))))
abbrev VF:=(gY [(11,ZM a i b),(24,Yk a i b),(37,VA a i b)])
end
theorem dS (a:List aJ) (b:List aJ) {r:Bool} (h:iJ a b=some r):Fn Try.prog 52 [sD (bJ none 4 aJ.cell a),sD (bJ none 4 aJ.cell b)] [] (vB r) []:=by
 refine fN tT Try.func52 rfl rfl fun B=> ?_
 show bR _ _ _ _ _ _ (oZ r) _
 unfold iJ at h
 refine sz tT ⟨[WI a,MC b],[]⟩ {} [] ?_
 refine aQ (sz tT ⟨[WI a,MC b,(10,vB (!decide ((a.length:Int)=(b.length:Int))))],[]⟩ {} [] ?_)
 refine bI h (fun hb2 h=> ?_) (fun hb2 h=> ?_)
 ·refine ct hb2 ?_
  refine sz tT ⟨[(4,vB false)],[]⟩ {} [] ?_
  refine aR ?_
  obtain rfl:=oi h
  exact rl [sB false]
 ·refine cf hb2 ?_
  refine aP (aQ (sz tT ⟨[WI a,MC b,(5,vI 0)],[]⟩ {} [] ?_))
  refine bE h fun y hy h=> ?_
  refine aL [] (uJ a b) uy oZ hy (fun s f h=> ?_) ?_
  ·clear hy
   show bR _ _ _ _ _ _ ((Ed a b) f) _
   unfold uI at h
   obtain⟨i,rfl⟩: ∃q,q=s:=⟨_,rfl⟩
   refine aQ (sz tT ⟨[WI a,MC b,(5,vI i),(14,vB (decide (i<(a.length:Int))))],[]⟩ {} [] ?_)
   refine bI h (fun hb1 h=> ?_) (fun hb1 h=> ?_)
   ·refine ct hb1 ?_
    refine aP (aQ (aB (aQ (bE h fun r_ hr_ h=> ?_))))
    refine aO h fun⟨a1,a2,a3,a4,a5,a6,a7,a8⟩ h=> ?_
    refine dg tT mX ⟨[WI a,MC b,(5,vI i),(67,vB (bif (VA a i b)then true else(!r_)))],[]⟩ (_::_::(eqs (ZM a i b) 3 ((gP (VF a i b) [(11,false)]→All [(0:Int)≤i∧i<(a.length:Int)])::(eqs (ZM a i b) 5 ((gP (VF a i b) [(11,false)]→All [(0:Int)≤i∧i<(b.length:Int)])::(eqs (ZM a i b) 4 (eqs (Yk a i b) 3 ((gP (VF a i b) [(24,false)]→All [(0:Int)≤i∧i<(a.length:Int)])::(eqs (Yk a i b) 5 ((gP (VF a i b) [(24,false)]→All [(0:Int)≤i∧i<(b.length:Int)])::(eqs (Yk a i b) 4 (eqs (VA a i b) 3 ((gP (VF a i b) [(37,false)]→All [(0:Int)≤i∧i<(a.length:Int)])::(eqs (VA a i b) 5 ((gP (VF a i b) [(37,false)]→All [(0:Int)≤i∧i<(b.length:Int)])::(eqs (VA a i b) 3 ((gP (VF a i b) [(37,false)]→All [Fn Try.prog 54 [sD (aed a i),sD (aed b i)] [] (vB r_) []])::(eqs (VA a i b) 2 [])))))))))))))))))) {yb:=[(11,ZM a i b),(24,Yk a i b),(37,VA a i b)],an:=[(48, .call [] (vB r_) [])] } [] ⟨a1,a2,ae ⟨(fun hg=> ⟨a3 (bC hg),trivial⟩),ae ⟨(fun hg=> ⟨a4 (bC hg),trivial⟩),ae (ae ⟨(fun hg=> ⟨a5 (bC hg),trivial⟩),ae ⟨(fun hg=> ⟨a6 (bC hg),trivial⟩),ae (ae ⟨(fun hg=> ⟨a7 (bC hg),trivial⟩),ae ⟨(fun hg=> ⟨a8 (bC hg),trivial⟩),ae ⟨(fun hg=> ⟨eY ((at' a i.toNat).ai) ((at' b i.toNat).ai) (d9 hr_ (bC hg)),trivial⟩),ae trivial⟩⟩⟩)⟩⟩)⟩⟩⟩ ?_
    refine bI h (fun hb h=> ?_) (fun hb h=> ?_)
    ·refine ct hb ?_
     refine sz tT ⟨[(4,vB false)],[]⟩ {} [] ?_
     refine aR ?_
     obtain rfl:=oi h
     exact lR dw (dm 0) dz (bL.mk (.inr rfl) (p:=[]) (l:=[sB false]) (by kernel_rfl) trivial (eB.refl _) trivial)
    ·refine cf hb ?_
     refine aP (rz tT ⟨[WI a,MC b,k2 i],[]⟩ {} [] ?_)
     obtain rfl:=oi h
     exact lN
   ·refine cf hb1 ?_
    refine aI (fz ⟨[],[]⟩ []) ?_
    refine aX ?_
    obtain rfl:=oi h
    exact lB
  ·clear hy
   cases y with
   |brk z=>
    unfold dZ
    refine⟨_, .refl, ?_⟩
    refine sz tT ⟨[(4,vB true)],[]⟩ {} [] ?_
    refine aR ?_
    obtain rfl:=oi h
    exact rl [sB true]
   |ret v=>
    obtain rfl:=oi h
    unfold dZ
    intro e st hn ha hR
    cases e with
    |normal=>exact absurd rfl hn
    |exit id=>exact hR
    |goto l=>exact hR
    |ret=>exact hR
    |panic c=>exact hR
    |outgrown=>exact hR
def pz (u0:List Int):(au × aA)→Exit→St→Prop:=
  fun r=>bL TT [.cell 2 26, .cell 3 29] (.jl [.agg [cI r.1.ax,.d (bJ none 5 ay.cell r.1.ah),.d (bJ none 6 aH.cell r.1.ai),.d (bJ none 4 aK.cell r.1.af)],.agg [.d (bJ none 1 aF r.2.bH),.d (bJ none 1 aF r.2.bZ),.d (bJ none 1 aF r.2.bN),.d (bJ none 1 aF r.2.on_),.d (bJ none 1 aF r.2.bD),.d (bJ none 1 aF r.2.cK),.d (bJ none 1 aF r.2.aW)]]) (zD u0)
section
variable (u0:List Int) (p3:List aK)
abbrev RJ:Nat × Option Ob:=(21,some (.cells 26 [cI 0,.d nS,.d nS,.d nS]))
abbrev Rl:Nat × Option Ob:=(22,some (.cells 29 [.d nS,.d nS,.d nS,.d nS,.d nS,.d nS,.d nS]))
abbrev Vi:Nat × Option Ob:=(23,some (bW 126 5 ay.cell [(⟨0,1,500,0,20⟩:ay),(⟨2,2,300,0,40⟩:ay)]))
abbrev Xd:Nat × Option Ob:=(24,some (bW 53 6 aH.cell [(⟨0,1,3,400,10,([]:List dV)⟩:aH),(⟨1,2,3,400,10,([]:List dV)⟩:aH)]))
abbrev adE:List (Nat × Option Ob):=[Lu u0,RJ,Rl,Vi,Xd,(25,some (.cells 26 [cI 3,.own 23 true ([(⟨0,1,500,0,20⟩:ay),(⟨2,2,300,0,40⟩:ay)].length),.own 24 true ([(⟨0,1,3,400,10,([]:List dV)⟩:aH),(⟨1,2,3,400,10,([]:List dV)⟩:aH)].length),.own 27 false p3.length])),(27,some (bW 166 4 aK.cell p3))]
end
def uF (u0:List Int):((List aK) × Int)→St:=
  fun zz=>match zz with|(p3,i)=> ⟨[F9 u0,(2,vP 21 0),(3,vP 22 0),(4,vP 25 0),(5,vI i)],adE u0 p3⟩
section
variable (u1:List Int) (u0:List aK)
abbrev amB:St:=⟨[(2,vP 21 0),(3,vP 22 0),(4,vP 25 0)],adE u1 u0⟩
end
def uw (u1:List Int):(List aK)→St:=
  fun u0=>(amB u1 u0)
def Eb (u0:List Int):(aY ((List aK) × Int) (Ex (List aK) (au × aA)))→Exit→St→Prop:=
  LQ 0 [] (uF u0) (uw u0) (pz u0)
section
variable (u0:List Int) (i:Int) (p3:List aK)
abbrev alT:List CV:=[cI 3,.own 23 true ([(⟨0,1,500,0,20⟩:ay),(⟨2,2,300,0,40⟩:ay)].length),.own 24 true ([(⟨0,1,3,400,10,([]:List dV)⟩:aH),(⟨1,2,3,400,10,([]:List dV)⟩:aH)].length),.d nS]
abbrev amy:Nat × Option Ob:=(25,some (.cells 26 alT))
abbrev ajM:List (Nat × Option Ob):=[Lu u0,RJ,Rl,Vi,Xd,amy]
abbrev ac4:List (Nat × TV):=[F9 u0,(2,vP 21 0),(3,vP 22 0),(4,vP 25 0),(5,vI 0)]
abbrev Zd:=(⟨(⟨1,-1⟩:aj),at' u0 i.toNat,1⟩:aK)
abbrev UE:=(p3++[Zd u0 i])
abbrev aiV:List (Nat × Option Ob):=[Lu u0,RJ,Rl,Vi,Xd,(25,some (.cells 26 [cI 3,.own 23 true ([(⟨0,1,500,0,20⟩:ay),(⟨2,2,300,0,40⟩:ay)].length),.own 24 true ([(⟨0,1,3,400,10,([]:List dV)⟩:aH),(⟨1,2,3,400,10,([]:List dV)⟩:aH)].length),.own 33 false ((UE u0 i p3).length)])),(33,some (bW 166 4 aK.cell (UE u0 i p3)))]
abbrev af2:=(aS aK.cell [Zd u0 i])
abbrev ajw:List (Nat × TV):=[F9 u0,(2,vP 21 0),(3,vP 22 0),(4,vP 25 0),k2 i]
abbrev am6:DV:=(bJ (some true) 5 ay.cell [(⟨0,1,500,0,20⟩:ay),(⟨2,2,300,0,40⟩:ay)])
abbrev alo:DV:=(bJ (some true) 6 aH.cell [(⟨0,1,3,400,10,([]:List dV)⟩:aH),(⟨1,2,3,400,10,([]:List dV)⟩:aH)])
abbrev aeB:DV:=(bJ (some true) 1 aF [true,true])
abbrev Y5:DV:=(bJ (some true) 1 aF (List.replicate 2 (false:Bool)))
abbrev ad3:DV:=(bJ (some true) 1 aF (List.replicate 3 (false:Bool)))
abbrev anl:DV:=(bJ none 5 ay.cell [(⟨0,1,500,0,20⟩:ay),(⟨2,2,300,0,40⟩:ay)])
abbrev amz:DV:=(bJ none 6 aH.cell [(⟨0,1,3,400,10,([]:List dV)⟩:aH),(⟨1,2,3,400,10,([]:List dV)⟩:aH)])
abbrev Y3:DV:=(bJ none 1 aF (List.replicate 2 (false:Bool)))
abbrev adS:DV:=(bJ none 1 aF (List.replicate 3 (false:Bool)))
end
theorem uD (u0:List Int) {r:au × aA} (h:qR u0=some r):Fn Try.prog 73 [.one (.own 0 true u0.length)] (zD u0) (.jl [.agg [cI r.1.ax,.d (bJ none 5 ay.cell r.1.ah),.d (bJ none 6 aH.cell r.1.ai),.d (bJ none 4 aK.cell r.1.af)],.agg [.d (bJ none 1 aF r.2.bH),.d (bJ none 1 aF r.2.bZ),.d (bJ none 1 aF r.2.bN),.d (bJ none 1 aF r.2.on_),.d (bJ none 1 aF r.2.bD),.d (bJ none 1 aF r.2.cK),.d (bJ none 1 aF r.2.aW)]]) (zD u0):=by
 refine fN tT Try.func73 rfl rfl fun B=> ?_
 show bR _ _ _ _ _ _ ((pz u0) r) _
 unfold qR at h
 refine sz tT ⟨[F9 u0,(2,vP 21 0),(3,vP 22 0)],[Lu u0,RJ,Rl]⟩ {fr:=[(0,21),(1,22)] } [] ?_
 refine si tT ⟨[F9 u0,(2,vP 21 0),(3,vP 22 0),(4,vP 25 0)],[Lu u0,RJ,Rl,Vi,(24,some (.arr 53 6 [(⟨0,1,3,400,10,([]:List dV)⟩:aH),(⟨1,2,3,400,10,([]:List dV)⟩:aH)].length (kg 6 [.int .i64 0,.int .i64 1,.int .i64 3,.int .i64 400,.int .i64 10,nS,.int .i64 1,.int .i64 2,.int .i64 3,.int .i64 400,.int .i64 10,nS]))),amy]⟩ [[(⟨0,1,500,0,20⟩:ay),(⟨2,2,300,0,40⟩:ay)].length=2,aZ 2 5 (kg 5 [.int .i64 0,.int .i64 1,.int .i64 500,.int .i64 0,.int .i64 20,.int .i64 2,.int .i64 2,.int .i64 300,.int .i64 0,.int .i64 40]) (aS ay.cell [(⟨0,1,500,0,20⟩:ay),(⟨2,2,300,0,40⟩:ay)]),[(⟨0,1,3,400,10,([]:List dV)⟩:aH),(⟨1,2,3,400,10,([]:List dV)⟩:aH)].length=2,aZ 2 6 (kg 6 [.int .i64 0,.int .i64 1,.int .i64 3,.int .i64 400,.int .i64 10,nS,.int .i64 1,.int .i64 2,.int .i64 3,.int .i64 400,.int .i64 10,nS]) (kg 6 [.int .i64 0,.int .i64 1,.int .i64 3,.int .i64 400,.int .i64 10,nS,.int .i64 1,.int .i64 2,.int .i64 3,.int .i64 400,.int .i64 10,nS])] {an:=[(2, .arr [(⟨0,1,500,0,20⟩:ay),(⟨2,2,300,0,40⟩:ay)].length (aS ay.cell [(⟨0,1,500,0,20⟩:ay),(⟨2,2,300,0,40⟩:ay)])),(5, .arr [(⟨0,1,3,400,10,([]:List dV)⟩:aH),(⟨1,2,3,400,10,([]:List dV)⟩:aH)].length (kg 6 [.int .i64 0,.int .i64 1,.int .i64 3,.int .i64 400,.int .i64 10,nS,.int .i64 1,.int .i64 2,.int .i64 3,.int .i64 400,.int .i64 10,nS]))],fr:=[(2,23),(5,24),(7,25)] } [] ⟨rfl,(by intro i hi j hj;match i,j,hi,hj with|0,0,_,_=>rfl|0,1,_,_=>rfl|0,2,_,_=>rfl|0,3,_,_=>rfl|0,4,_,_=>rfl|1,0,_,_=>rfl|1,1,_,_=>rfl|1,2,_,_=>rfl|1,3,_,_=>rfl|1,4,_,_=>rfl),rfl,fQ _ _ _,trivial⟩ (cO.le (st':=⟨[F9 u0,(2,vP 21 0),(3,vP 22 0),(4,vP 25 0)],ajM u0⟩) ⟨⟨tR,tR,tR,tR,trivial⟩,hN 4 ⟨rfl,XJ (by intro i hi j hj;match i,j,hi,hj with|0,0,_,_=>exact .refl _|0,1,_,_=>exact .refl _|0,2,_,_=>exact .refl _|0,3,_,_=>exact .refl _|0,4,_,_=>exact .refl _|0,5,_,_=>exact iM.nil'|1,0,_,_=>exact .refl _|1,1,_,_=>exact .refl _|1,2,_,_=>exact .refl _|1,3,_,_=>exact .refl _|1,4,_,_=>exact .refl _|1,5,_,_=>exact iM.nil'),.refl _⟩⟩) ?_
 refine aQ (sz tT ⟨ac4 u0,ajM u0⟩ {} [] ?_)
 refine bE h fun y hy h=> ?_
 refine aI (.trans (cO.Dl (E:=0) (esz:=0) (E0:=26) (cs:=alT) (p:=25) (q:=3) (b:=34) (esz0:=0) (el0:=fun _ _=> .nilp) (ob:= .arr 166 4 0 (aS aK.cell ([]:List aK))) (fun _ _ _ _ h=> .inl ⟨h,rfl⟩) (by kernel_rfl) (by kernel_rfl) (by kernel_rfl)) (.trans (fz ⟨ac4 u0,[Lu u0,RJ,Rl,Vi,Xd,(25,some (.cells 26 [cI 3,.own 23 true ([(⟨0,1,500,0,20⟩:ay),(⟨2,2,300,0,40⟩:ay)].length),.own 24 true ([(⟨0,1,3,400,10,([]:List dV)⟩:aH),(⟨1,2,3,400,10,([]:List dV)⟩:aH)].length),.own 34 false 0])),(34,some (.arr 166 4 0 (aS aK.cell ([]:List aK))))]⟩ []) (.trans (cO.fin (st':=⟨ac4 u0,[Lu u0,RJ,Rl,Vi,Xd,(25,some (.cells 26 [cI 3,.own 23 true ([(⟨0,1,500,0,20⟩:ay),(⟨2,2,300,0,40⟩:ay)].length),.own 24 true ([(⟨0,1,3,400,10,([]:List dV)⟩:aH),(⟨1,2,3,400,10,([]:List dV)⟩:aH)].length),.own 27 false 0])),(27,some (.arr 166 4 0 (aS aK.cell ([]:List aK))))]⟩) (cs:=[]) ⟨[],[(0,0),(21,21),(22,22),(23,23),(24,24),(25,25),(34,27)]⟩ [0,2,3,4,5] (by kernel_rfl) trivial) (cO.le (st':=⟨ac4 u0,[Lu u0,RJ,Rl,Vi,Xd,(25,some (.cells 26 [cI 3,.own 23 true ([(⟨0,1,500,0,20⟩:ay),(⟨2,2,300,0,40⟩:ay)].length),.own 24 true ([(⟨0,1,3,400,10,([]:List dV)⟩:aH),(⟨1,2,3,400,10,([]:List dV)⟩:aH)].length),.own 27 false (([]:List aK).length)])),(27,some (bW 166 4 aK.cell ([]:List aK)))]⟩) ⟨⟨tR,tR,tR,tR,tR,trivial⟩,hN 5 ⟨rfl,cu ⟨eZ.refl _,eZ.refl _,eZ.refl _,cW,trivial⟩,⟨rfl,oW,trivial⟩⟩⟩)))) ?_
 refine aL [] (uF u0) (uw u0) (pz u0) hy (fun s f h=> ?_) ?_
 ·clear hy
  show bR _ _ _ _ _ _ ((Eb u0) f) _
  unfold zx at h
  obtain⟨p3,i⟩:=s
  refine aQ (sz tT ⟨[F9 u0,(2,vP 21 0),(3,vP 22 0),(4,vP 25 0),(5,vI i),(17,aat i u0)],adE u0 p3⟩ {} [] ?_)
  refine bI h (fun hb h=> ?_) (fun hb h=> ?_)
  ·refine ct hb ?_
   refine aP (aQ (aB (sz tT ⟨[F9 u0,(2,vP 21 0),(3,vP 22 0),(4,vP 25 0),(5,vI i),(6,vO 27 false p3.length)],adE u0 p3⟩ {} [] ?_)))
   refine aO h fun⟨a1,a2,a3⟩ h=> ?_
   refine rg tT ⟨[F9 u0,(2,vP 21 0),(3,vP 22 0),(4,vP 25 0),(5,vI i)],aiV u0 i p3⟩ [_,_,[Zd u0 i].length=1,aZ 1 4 (kg 4 [.int .i64 1,.int .i64 (-1),.int .i64 (at' u0 i.toNat),.int .i64 1]) (af2 u0 i),p3.length=p3.length,_,_,(UE u0 i p3).length=p3.length+[Zd u0 i].length,aZ (p3.length+[Zd u0 i].length) 4 (Ff (aS aK.cell p3) p3.length (af2 u0 i)) (aS aK.cell (UE u0 i p3))] {an:=[(7, .arr [Zd u0 i].length (af2 u0 i)),(8, .arr (UE u0 i p3).length (aS aK.cell (UE u0 i p3)))],fr:=[(7,32),(8,33)] } [] ⟨a1,tL a1,rfl,(by intro i hi j hj;match i,j,hi,hj with|0,0,_,_=>rfl|0,1,_,_=>rfl|0,2,_,_=>rfl|0,3,_,_=>rfl),rfl,a2,a3,List.length_append,kz _ _ _ _,trivial⟩ ?_
   refine ri tT ⟨ajw u0 i,aiV u0 i p3⟩ [] {} [] trivial (cO.fin (st':=⟨ajw u0 i,[Lu u0,RJ,Rl,Vi,Xd,(25,some (.cells 26 [cI 3,.own 23 true ([(⟨0,1,500,0,20⟩:ay),(⟨2,2,300,0,40⟩:ay)].length),.own 24 true ([(⟨0,1,3,400,10,([]:List dV)⟩:aH),(⟨1,2,3,400,10,([]:List dV)⟩:aH)].length),.own 27 false ((UE u0 i p3).length)])),(27,some (bW 166 4 aK.cell (UE u0 i p3)))]⟩) (cs:=[]) ⟨[],[(0,0),(21,21),(22,22),(23,23),(24,24),(25,25),(33,27)]⟩ [0,2,3,4,5] (by kernel_rfl) trivial) ?_
   obtain rfl:=oi h
   exact lN
  ·refine cf hb ?_
   refine aI (fz (amB u0 p3) []) ?_
   refine aX ?_
   obtain rfl:=oi h
   exact lB
 ·clear hy
  cases y with
  |brk z=>
   obtain⟨u1,rfl⟩: ∃q,q=z:=⟨_,rfl⟩
   unfold dZ
   refine⟨_, .refl, ?_⟩
   refine aQ (aO h fun⟨a1,a2,a3,a4,a5,a6⟩ h=> ?_)
   refine di tT mX ⟨[(2,vP 21 0),(3,vP 22 0)],[Lu u0,(21,some (.cells 26 [cI 3,.d am6,.d alo,.d (Wq u1)])),(22,some (.cells 29 [.d aeB,.d Y5,.d Y5,.d aeB,.d Y5,.d ad3,.d ad3]))]⟩ (([true,true].length=2)::aZ 2 1 (kg 1 [.bool true,.bool true]) (aS aF [true,true])::_::((2:Int)=2)::_::_::((List.replicate 2 (false:Bool)).length=2)::aZ 2 1 (fun _ j=>[.bool false].getD j .nilp) (aS aF (List.replicate 2 (false:Bool)))::_::((2:Int)=2)::_::_::((List.replicate 2 (false:Bool)).length=2)::aZ 2 1 (fun _ j=>[.bool false].getD j .nilp) (aS aF (List.replicate 2 (false:Bool)))::([true,true].length=2)::aZ 2 1 (kg 1 [.bool true,.bool true]) (aS aF [true,true])::_::((2:Int)=2)::_::_::((List.replicate 2 (false:Bool)).length=2)::aZ 2 1 (fun _ j=>[.bool false].getD j .nilp) (aS aF (List.replicate 2 (false:Bool)))::_::((3:Int)=3)::_::_::((List.replicate 3 (false:Bool)).length=3)::aZ 3 1 (fun _ j=>[.bool false].getD j .nilp) (aS aF (List.replicate 3 (false:Bool)))::_::((3:Int)=3)::_::_::((List.replicate 3 (false:Bool)).length=3)::aZ 3 1 (fun _ j=>[.bool false].getD j .nilp) (aS aF (List.replicate 3 (false:Bool)))::([(⟨0,1,500,0,20⟩:ay),(⟨2,2,300,0,40⟩:ay)].length=[(⟨0,1,500,0,20⟩:ay),(⟨2,2,300,0,40⟩:ay)].length)::([(⟨0,1,3,400,10,([]:List dV)⟩:aH),(⟨1,2,3,400,10,([]:List dV)⟩:aH)].length=[(⟨0,1,3,400,10,([]:List dV)⟩:aH),(⟨1,2,3,400,10,([]:List dV)⟩:aH)].length)::(u1.length=u1.length)::([true,true].length=[true,true].length)::(eqs (List.replicate 2 (false:Bool)).length 2 (([true,true].length=[true,true].length)::((List.replicate 2 (false:Bool)).length=(List.replicate 2 (false:Bool)).length)::(eqs (List.replicate 3 (false:Bool)).length 2 [])))) {an:=[(1, .arr [true,true].length (aS aF [true,true])),(2, .arr (List.replicate 2 (false:Bool)).length (aS aF (List.replicate 2 (false:Bool)))),(3, .arr (List.replicate 2 (false:Bool)).length (aS aF (List.replicate 2 (false:Bool)))),(4, .arr [true,true].length (aS aF [true,true])),(5, .arr (List.replicate 2 (false:Bool)).length (aS aF (List.replicate 2 (false:Bool)))),(6, .arr (List.replicate 3 (false:Bool)).length (aS aF (List.replicate 3 (false:Bool)))),(7, .arr (List.replicate 3 (false:Bool)).length (aS aF (List.replicate 3 (false:Bool))))],fr:=[(1,35),(2,36),(3,37),(4,38),(5,39),(6,40),(7,41)] } [23,24,27,35,36,37,38,39,40,41] ⟨rfl,(by intro i hi j hj;match i,j,hi,hj with|0,0,_,_=>rfl|1,0,_,_=>rfl),a1,rfl,a2,a3,List.length_replicate,fe _ _ _ _ _ (fun j hj=>(match j,hj with|0,_=>rfl)),a1,rfl,a2,a3,List.length_replicate,fe _ _ _ _ _ (fun j hj=>(match j,hj with|0,_=>rfl)),rfl,(by intro i hi j hj;match i,j,hi,hj with|0,0,_,_=>rfl|1,0,_,_=>rfl),a1,rfl,a2,a3,List.length_replicate,fe _ _ _ _ _ (fun j hj=>(match j,hj with|0,_=>rfl)),a4,rfl,a5,a6,List.length_replicate,fe _ _ _ _ _ (fun j hj=>(match j,hj with|0,_=>rfl)),a4,rfl,a5,a6,List.length_replicate,fe _ _ _ _ _ (fun j hj=>(match j,hj with|0,_=>rfl)),rfl,rfl,rfl,rfl,ae ⟨rfl,rfl,ae trivial⟩⟩ (fz ⟨[(2,vD (ow [.int .i64 3,am6,alo,Wq u1] 0)),(3,vD (ow [aeB,Y5,Y5,aeB,Y5,ad3,ad3] 0))],zD u0⟩ [21,22]) ?_
   refine aI (cO.le (st':=⟨[(2,vD (ow [.int .i64 3,anl,amz,Wq u1] 0)),(3,vD (ow [bJ none 1 aF [true,true],Y3,Y3,bJ none 1 aF [true,true],Y3,adS,adS] 0))],zD u0⟩) ⟨⟨⟨_,rfl,eB.v (fG.one (eZ.d (SI ⟨.refl _,iM.qB,iM.qB, .refl _,trivial⟩)))⟩,⟨_,rfl,eB.v (fG.one (eZ.d (SI ⟨iM.qB,iM.qB,iM.qB,iM.qB,iM.qB,iM.qB,iM.qB,trivial⟩)))⟩,trivial⟩,.refl _⟩) ?_
   refine aR ?_
   obtain rfl:=oi h
   exact rl [.agg [cI 3,.d anl,.d amz,.d (Wq u1)],.agg [.d (bJ none 1 aF [true,true]),.d Y3,.d Y3,.d (bJ none 1 aF [true,true]),.d Y3,.d adS,.d adS]]
  |ret v=>
   obtain rfl:=oi h
   unfold dZ
   intro e st hn ha hR
   cases e with
   |normal=>exact absurd rfl hn
   |exit id=>exact hR
   |goto l=>exact hR
   |ret=>exact hR
   |panic c=>exact hR
   |outgrown=>exact hR
def MS  :Bool→Exit→St→Prop:=
  fun r=>bL TT [.tmp 0] (vB r) []
section
variable (r_:au × aA) (u9:aD × (List Bool) × Int) (v4:Bool × Int) (v6:Int) (u3:au × aA) (u0:aD × (List Bool) × Int) (u2:(List aM) × Int) (u1:Int × Int) (u4:Int) (u5:(List aJ) × Int) (v0:(List Int) × Bool × Int) (v8:Bool) (w3:Bool) (w4:Bool) (v7:Bool) (v5:Bool) (w1:Bool)
abbrev al6:List CV:=[cI r_.1.ax,.d (bJ none 5 ay.cell r_.1.ah),.d (bJ none 6 aH.cell r_.1.ai),.d (bJ none 4 aK.cell r_.1.af)]
abbrev aki:Nat × Option Ob:=(68,some (.cells 26 (al6 r_)))
abbrev anH:List CV:=[.d (bJ none 1 aF r_.2.bH),.d (bJ none 1 aF r_.2.bZ),.d (bJ none 1 aF r_.2.bN),.d (bJ none 1 aF r_.2.on_),.d (bJ none 1 aF r_.2.bD),.d (bJ none 1 aF r_.2.cK),.d (bJ none 1 aF r_.2.aW)]
abbrev ajc:Nat × Option Ob:=(69,some (.cells 29 (anH r_)))
abbrev abB:Nat × TV:=(4,vD (K8 u9))
abbrev ann:Nat × Option Ob:=(70,some (agf u9))
abbrev Y7:List (Nat × Option Ob):=[aki r_,ajc r_,ann u9]
abbrev R8:=(bif (!decide (u9.2.2=0))then true else(!decide (v4.2=0)))
abbrev Wt:=(bif (R8 u9 v4)then true else(!decide (v6=100)))
abbrev MJ:=(bif (Wt u9 v4 v6)then true else(!v4.1))
abbrev aa0:=(gY [(2,!decide (u9.2.2=0)),(6,R8 u9 v4),(11,Wt u9 v4 v6),(15,true)])
abbrev Yt:List SV:=[.agg (adN u9)]
abbrev aee:=(gY [(2,!decide (u9.2.2=0)),(6,R8 u9 v4),(11,Wt u9 v4 v6),(15,false)])
abbrev Sd:Nat × TV:=(1,vD (ow [.int .i64 u3.1.ax,bJ none 5 ay.cell u3.1.ah,bJ none 6 aH.cell u3.1.ai,bJ none 4 aK.cell u3.1.af] 0))
abbrev Ti:Nat × TV:=(2,vD (ow [bJ none 1 aF u3.2.bH,bJ none 1 aF u3.2.bZ,bJ none 1 aF u3.2.bN,bJ none 1 aF u3.2.on_,bJ none 1 aF u3.2.bD,bJ none 1 aF u3.2.cK,bJ none 1 aF u3.2.aW] 0))
abbrev ahs:Nat × TV:=(3,ahH u0)
abbrev Rj:DV:=(bJ none 2 aM.cell u2.1)
abbrev KA:=(bif (!decide (u0.2.2=0))then true else(!decide (u1.2=0)))
abbrev FL:=(bif (KA u0 u1)then true else(!decide (u2.2=0)))
abbrev LC:=(bif (FL u0 u2 u1)then true else(!decide (u4=700)))
abbrev aer:=(bif (LC u0 u2 u1 u4)then true else(!decide (u1.1=700)))
abbrev aez:=(bif (aer u0 u2 u1 u4)then true else false)
abbrev aas:=(bif (aez u0 u2 u1 u4)then true else false)
abbrev MF:=(gY [(2,!decide (u0.2.2=0)),(6,KA u0 u1),(10,FL u0 u2 u1),(15,LC u0 u2 u1 u4),(19,true),(25,true),(33,aas u0 u2 u1 u4)])
abbrev P9:=((aer u0 u2 u1 u4)=true)
abbrev Xg:=((aez u0 u2 u1 u4)=true)
abbrev adz:List SV:=[.agg (al6 u3),.agg (anH u3),.agg (adN u0),sD (K8 u0)]
abbrev Oc:DV:=(bJ none 4 aJ.cell u5.1)
abbrev ad9:St:=⟨[Sd u3,(5,vI u5.2),(11,vD (Oc u5))],[]⟩
abbrev Qe:DV:=(bJ (some v0.2.1) 1 (aT .i64) v0.1)
abbrev acS:St:=⟨[(5,vI u5.2),(7,vI v0.2.2),(11,vD (Oc u5)),(12,vD (Qe v0))],[]⟩
abbrev dB:=(bif (decide (u5.2=0))then(decide (v0.2.2=0))else false)
abbrev pI:=(bif (dB u5 v0)then v8 else false)
abbrev aes:St:=⟨[(0,vB (bif (pI u5 v0 v8)then w3 else false))],[]⟩
abbrev qJ:=(gY [(2,decide (u5.2=0)),(6,true),(15,true)])
abbrev qi:List DV:=[.int .i64 0,.int .i64 30,.int .i64 13334,bJ (some true) 1 (aT .i64) [0],.int .i64 1,.int .i64 50,.int .i64 8000,bJ (some true) 1 (aT .i64) [1]]
abbrev ak8:List (Nat × Option Ob):=[(78,some (.arr 103 4 [(⟨0,30,13334,[0]⟩:aJ),(⟨1,50,8000,[1]⟩:aJ)].length (kg 4 qi)))]
abbrev UI:List DV:=[.int .i64 13334,.int .i64 8000]
abbrev Gg:Ob:=(bW 3 1 (aT .i64) [13334,8000])
abbrev SX:List SV:=[sD (Oc u5),sD (.sl (some true) 4 [(⟨0,30,13334,[0]⟩:aJ),(⟨1,50,8000,[1]⟩:aJ)].length (kg 4 qi))]
abbrev UC:List SV:=[sD (Qe v0),sD (bJ (some true) 1 (aT .i64) [13334,8000])]
abbrev adx:St:=⟨[(0,vB (bif (pI u5 v0 v8)then false else false))],[]⟩
abbrev qz:=(gY [(2,decide (u5.2=0)),(6,true),(15,false)])
abbrev aiC:List (Nat × Option Ob):=[(82,some (.arr 103 4 [(⟨0,30,13334,[0]⟩:aJ),(⟨1,50,8000,[1]⟩:aJ)].length (kg 4 qi)))]
abbrev zS:=(bif (dB u5 v0)then false else false)
abbrev adP:St:=⟨[(0,vB (bif (zS u5 v0)then w4 else false))],[]⟩
abbrev mq:=(gY [(2,decide (u5.2=0)),(6,false),(15,true)])
abbrev ad6:St:=⟨[(0,vB (bif (zS u5 v0)then false else false))],[]⟩
abbrev GY:=(gY [(2,decide (u5.2=0)),(6,false),(15,false)])
abbrev ada:=(eqs (decide (u5.2=0)) 3 [(dB u5 v0)=false, ¬ gP (GY u5) [(6,true)],(dB u5 v0)=false, ¬ gP (GY u5) [(6,true)],(dB u5 v0)=false, ¬ gP (GY u5) [(6,true)],(dB u5 v0)=false, ¬ gP (GY u5) [(6,true)],(dB u5 v0)=false, ¬ gP (GY u5) [(6,true)],(dB u5 v0)=false, ¬ gP (GY u5) [(6,true)],(dB u5 v0)=false, ¬ gP (GY u5) [(6,true)],(dB u5 v0)=false,(zS u5 v0)=false, ¬ gP (GY u5) [(15,true)],(zS u5 v0)=false, ¬ gP (GY u5) [(15,true)],(zS u5 v0)=false, ¬ gP (GY u5) [(15,true)],(zS u5 v0)=false])
abbrev Vq:=(bif (aez u0 u2 u1 u4)then true else(!v7))
abbrev Kc:=(gY [(2,!decide (u0.2.2=0)),(6,KA u0 u1),(10,FL u0 u2 u1),(15,LC u0 u2 u1 u4),(19,true),(25,false),(33,Vq u0 u2 u1 u4 v7)])
abbrev OI:=((aez u0 u2 u1 u4)=false)
abbrev aeR:List SV:=[sD (Rj u2),sD (bJ (some true) 2 aM.cell [(⟨2,1⟩:aM),(⟨3,0⟩:aM)])]
abbrev afd:List (Nat × Option Ob):=[(90,some (.arr 103 4 [(⟨0,30,13334,[0]⟩:aJ),(⟨1,50,8000,[1]⟩:aJ)].length (kg 4 qi)))]
abbrev afy:List (Nat × Option Ob):=[(94,some (.arr 103 4 [(⟨0,30,13334,[0]⟩:aJ),(⟨1,50,8000,[1]⟩:aJ)].length (kg 4 qi)))]
abbrev Xw:=(bif (aer u0 u2 u1 u4)then true else(!v5))
abbrev U6:=(bif (Xw u0 u2 u1 u4 v5)then true else false)
abbrev EC:=(gY [(2,!decide (u0.2.2=0)),(6,KA u0 u1),(10,FL u0 u2 u1),(15,LC u0 u2 u1 u4),(19,false),(25,true),(33,U6 u0 u2 u1 u4 v5)])
abbrev GU:=((aer u0 u2 u1 u4)=false)
abbrev Ox:=((Xw u0 u2 u1 u4 v5)=true)
abbrev aeY:List (Nat × Option Ob):=[(103,some (.arr 103 4 [(⟨0,30,13334,[0]⟩:aJ),(⟨1,50,8000,[1]⟩:aJ)].length (kg 4 qi)))]
abbrev ae6:List (Nat × Option Ob):=[(107,some (.arr 103 4 [(⟨0,30,13334,[0]⟩:aJ),(⟨1,50,8000,[1]⟩:aJ)].length (kg 4 qi)))]
abbrev TY:=(bif (Xw u0 u2 u1 u4 v5)then true else(!w1))
abbrev L8:=(gY [(2,!decide (u0.2.2=0)),(6,KA u0 u1),(10,FL u0 u2 u1),(15,LC u0 u2 u1 u4),(19,false),(25,false),(33,TY u0 u2 u1 u4 v5 w1)])
abbrev OH:=((Xw u0 u2 u1 u4 v5)=false)
abbrev afp:List (Nat × Option Ob):=[(116,some (.arr 103 4 [(⟨0,30,13334,[0]⟩:aJ),(⟨1,50,8000,[1]⟩:aJ)].length (kg 4 qi)))]
abbrev afo:List (Nat × Option Ob):=[(120,some (.arr 103 4 [(⟨0,30,13334,[0]⟩:aJ),(⟨1,50,8000,[1]⟩:aJ)].length (kg 4 qi)))]
end
theorem uL  {r:Bool} (h:nL=some r):Fn Try.prog 30 [] [] (vB r) []:=by
 refine fN tT Try.func30 rfl rfl fun B=> ?_
 show bR _ _ _ _ _ _ (MS r) _
 unfold nL at h
 refine sz tT ⟨[],[]⟩ {} [] ?_
 refine aQ (bE h fun r_ hr_ h=> ?_)
 have q2:=rk [(0,67)] (uD [100] hr_)
 refine rg tT ⟨[(1,vP 68 0),(2,vP 69 0)],[aki r_,ajc r_]⟩ [[100].length=1,aZ 1 1 (kg 1 [.int .i64 100]) (aS (aT .i64) [100]),_] {an:=[(0, .arr [100].length (aS (aT .i64) [100])),(1,cR q2 [67])],fr:=[(0,67),(5,68),(6,69)] } [] ⟨rfl,(by intro i hi j hj;match i,j,hi,hj with|0,0,_,_=>rfl),q2,trivial⟩ ?_
 refine aQ (bE h fun u9 hr_1 h=> ?_)
 have q0:=DF r_.1 r_.2 hr_1
 refine rg tT ⟨[(1,vP 68 0),(2,vP 69 0),(3,vP 70 0),abB u9,(5,vI u9.2.2)],Y7 r_ u9⟩ [_] {an:=[(2,cA q0 [])],fr:=[(7,70)] } [] ⟨q0,trivial⟩ ?_
 refine aQ (bE h fun v4 hr_2 h=> ?_)
 have q0:=ED r_.1 r_.2 hr_2
 refine rg tT ⟨[(1,vP 68 0),(2,vP 69 0),(3,vP 70 0),abB u9,(5,vI u9.2.2),(6,vB v4.1),(7,vI v4.2)],Y7 r_ u9⟩ [_] {an:=[(2,cA q0 [])] } [] ⟨q0,trivial⟩ ?_
 refine aQ (aQ (bE h fun v6 hr_3 h=> ?_))
 refine bI h (fun hb h=> ?_) (fun hb h=> ?_)
 ·skip
  refine ri tT ⟨[(1,vP 68 0),(2,vP 69 0),(3,vP 70 0),(51,vB (bif (MJ u9 v4 v6)then true else false))],Y7 r_ u9⟩ (eqs (!decide (u9.2.2=0)) 3 (eqs (R8 u9 v4) 2 ((gP (aa0 u9 v4 v6) [(6,false)]→All [Fn Try.prog 41 (Yt u9) [] (vI v6) []])::(eqs (R8 u9 v4) 2 (eqs (Wt u9 v4 v6) 3 [(MJ u9 v4 v6)=true, ¬ gP (aa0 u9 v4 v6) [(15,false)],(MJ u9 v4 v6)=true, ¬ gP (aa0 u9 v4 v6) [(15,false)],(MJ u9 v4 v6)=true, ¬ gP (aa0 u9 v4 v6) [(15,false)],(MJ u9 v4 v6)=true, ¬ gP (aa0 u9 v4 v6) [(15,false)],(MJ u9 v4 v6)=true]))))) {yb:=[(2,!decide (u9.2.2=0)),(6,R8 u9 v4),(11,Wt u9 v4 v6),(15,true)],an:=[(8, .call [] (vI v6) []),(16, .skip),(17, .skip),(18, .skip),(19, .skip)] } [] (ae (ae ⟨(fun hg=> ⟨fK u9.1 (d9 hr_3 (bC hg)),trivial⟩),ae (ae ⟨hb,(fun h=>Bool.noConfusion (show true=false from h.1)),hb,(fun h=>Bool.noConfusion (show true=false from h.1)),hb,(fun h=>Bool.noConfusion (show true=false from h.1)),hb,(fun h=>Bool.noConfusion (show true=false from h.1)),hb,trivial⟩)⟩)) (cO.le (st':=⟨[(1,vP 68 0),(2,vP 69 0),(3,vP 70 0),(51,vB true)],Y7 r_ u9⟩) ⟨⟨tR,tR,tR,⟨_,rfl,eB.v (fG.one (eZ.of (congrArg (fun b=>CV.d (.bool b)) (Gz hb))))⟩,trivial⟩,.refl _⟩) ?_
  refine ck (sz tT ⟨[(0,vB false)],[]⟩ {} [] ?_)
  refine aR ?_
  obtain rfl:=oi h
  exact rl [sB false]
 ·skip
  refine bE h fun x1 hr_4 h=> ?_
  refine ri tT ⟨[(1,vP 68 0),(2,vP 69 0),(3,vP 70 0),(51,vB (bif (MJ u9 v4 v6)then true else(!x1)))],Y7 r_ u9⟩ (eqs (!decide (u9.2.2=0)) 3 (eqs (R8 u9 v4) 2 ((gP (aee u9 v4 v6) [(6,false)]→All [Fn Try.prog 41 (Yt u9) [] (vI v6) []])::(eqs (R8 u9 v4) 2 (eqs (Wt u9 v4 v6) 3 [(MJ u9 v4 v6)=false,(MJ u9 v4 v6)=false,gP (aee u9 v4 v6) [(15,false)]→All [[true,true,true].length=3,aZ 3 1 (kg 1 [.bool true,.bool true,.bool true]) (aS aF [true,true,true])],gP (aee u9 v4 v6) [(15,false)],(MJ u9 v4 v6)=false,gP (aee u9 v4 v6) [(15,false)]→All [Fn Try.prog 42 [sD (K8 u9),.one (.own 71 true ([true,true,true].length))] [(71,some (bW 4 1 aF [true,true,true]))] (vB x1) [(71,some (bW 4 1 aF [true,true,true]))]],(MJ u9 v4 v6)=false,(MJ u9 v4 v6)=false]))))) {yb:=[(2,!decide (u9.2.2=0)),(6,R8 u9 v4),(11,Wt u9 v4 v6),(15,false)],an:=[(8, .call [] (vI v6) []),(17, .arr [true,true,true].length (aS aF [true,true,true])),(18, .callR [71] (vB x1))],fr:=[(17,71)] } [] (ae (ae ⟨(fun hg=> ⟨fK u9.1 (d9 hr_3 (bC hg)),trivial⟩),ae (ae ⟨hb,hb,(fun hg=> ⟨rfl,(by intro i hi j hj;match i,j,hi,hj with|0,0,_,_=>rfl|1,0,_,_=>rfl|2,0,_,_=>rfl),trivial⟩),⟨rfl,trivial⟩,hb,(fun hg=> ⟨Fn.zy (frz:=[71]) (p:=[[true,true,true].length=[true,true,true].length]) (Fn.le (args':=[sD (K8 u9),sD (bJ (some true) 1 aF [true,true,true])]) (dH u9.2.1 [true,true,true] hr_4) ⟨fG.refl _,fG.one (eZ.d iM.qB),trivial⟩) (by kernel_rfl) ⟨rfl,trivial⟩ rfl,trivial⟩),hb,hb,trivial⟩)⟩)) (cO.le (st':=⟨[(1,vP 68 0),(2,vP 69 0),(3,vP 70 0),(51,vB (!x1))],Y7 r_ u9⟩) ⟨⟨tR,tR,tR,⟨_,rfl,eB.v (fG.one (eZ.of (congrArg (fun b=>CV.d (.bool b)) (FV hb))))⟩,trivial⟩,.refl _⟩) ?_
  refine bI h (fun hb20 h=> ?_) (fun hb20 h=> ?_)
  ·refine ct hb20 ?_
   refine sz tT ⟨[(0,vB false)],[]⟩ {} [] ?_
   refine aR ?_
   obtain rfl:=oi h
   exact rl [sB false]
  ·refine cf hb20 ?_
   refine aP (aQ (bE h fun u3 hr_5 h=> ?_))
   have q2:=rk [(0,72)] (uD [300,600] hr_5)
   refine rg tT ⟨[Sd u3,Ti u3,(3,vP 70 0)],[ann u9]⟩ [[300,600].length=2,aZ 2 1 (kg 1 [.int .i64 300,.int .i64 600]) (aS (aT .i64) [300,600]),_] {an:=[(0, .arr [300,600].length (aS (aT .i64) [300,600])),(1,cR q2 [72])],fr:=[(0,72)] } [68,69] ⟨rfl,(by intro i hi j hj;match i,j,hi,hj with|0,0,_,_=>rfl|1,0,_,_=>rfl),q2,trivial⟩ ?_
   refine aQ (bE h fun u0 hr_6 h=> ?_)
   have q0:=DF u3.1 u3.2 hr_6
   refine rg tT ⟨[Sd u3,Ti u3,ahs u0,abB u0,(5,vI u0.2.2)],[]⟩ [_] {an:=[(2,cA q0 [])] } [70] ⟨q0,trivial⟩ ?_
   refine aQ (bE h fun u1 hr_7 h=> ?_)
   have q0:=zA u3.1 u3.2 u0.2.1 hr_7
   refine rg tT ⟨[Sd u3,Ti u3,ahs u0,abB u0,(5,vI u0.2.2),(7,vI u1.2),(8,vI u1.1)],[]⟩ [_] {an:=[(3,cA q0 [])] } [] ⟨q0,trivial⟩ ?_
   refine aQ (bE h fun u2 hr_8 h=> ?_)
   have q0:=Dt u3.1 u3.2 hr_8
   refine rg tT ⟨[Sd u3,Ti u3,ahs u0,abB u0,(5,vI u0.2.2),(7,vI u1.2),(8,vI u1.1),(9,vD (Rj u2)),(10,vI u2.2)],[]⟩ [_] {an:=[(2,cA q0 [])] } [] ⟨q0,trivial⟩ ?_
   refine aQ (aQ (bE h fun u4 hr_9 h=> ?_))
   refine bI h (fun hb1 h=> ?_) (fun hb1 h=> ?_)
   ·skip
    refine bI h (fun hb2 h=> ?_) (fun hb2 h=> ?_)
    ·skip
     refine bE h fun x2 hr_10 h=> ?_
     refine rg tT ⟨[Sd u3,Ti u3,(117,vB (bif (aas u0 u2 u1 u4)then true else(!decide (x2=0))))],[]⟩ (eqs (!decide (u0.2.2=0)) 3 (eqs (KA u0 u1) 3 (eqs (FL u0 u2 u1) 2 ((gP (MF u0 u2 u1 u4) [(10,false)]→All [Fn Try.prog 41 (Yt u0) [] (vI u4) []])::(eqs (FL u0 u2 u1) 2 (eqs (LC u0 u2 u1 u4) 3 ((P9 u0 u2 u1 u4)::(¬ gP (MF u0 u2 u1 u4) [(19,false)])::(P9 u0 u2 u1 u4)::(¬ gP (MF u0 u2 u1 u4) [(19,false)])::(P9 u0 u2 u1 u4)::(¬ gP (MF u0 u2 u1 u4) [(19,false)])::(P9 u0 u2 u1 u4)::(¬ gP (MF u0 u2 u1 u4) [(19,false)])::(P9 u0 u2 u1 u4)::(Xg u0 u2 u1 u4)::(¬ gP (MF u0 u2 u1 u4) [(25,false)])::(Xg u0 u2 u1 u4)::(¬ gP (MF u0 u2 u1 u4) [(25,false)])::(Xg u0 u2 u1 u4)::(¬ gP (MF u0 u2 u1 u4) [(25,false)])::(Xg u0 u2 u1 u4)::(¬ gP (MF u0 u2 u1 u4) [(25,false)])::(Xg u0 u2 u1 u4)::(¬ gP (MF u0 u2 u1 u4) [(25,false)])::(Xg u0 u2 u1 u4)::(¬ gP (MF u0 u2 u1 u4) [(25,false)])::(Xg u0 u2 u1 u4)::(eqs (aas u0 u2 u1 u4) 5 ((gP (MF u0 u2 u1 u4) [(33,false)]→All [Fn Try.prog 49 (adz u3 u0) [] (vI x2) []])::(eqs (aas u0 u2 u1 u4) 2 [])))))))))) {yb:=[(2,!decide (u0.2.2=0)),(6,KA u0 u1),(10,FL u0 u2 u1),(15,LC u0 u2 u1 u4),(19,true),(25,true),(33,aas u0 u2 u1 u4)],an:=[(12, .call [] (vI u4) []),(20, .skip),(21, .skip),(22, .skip),(23, .skip),(26, .skip),(27, .skip),(28, .skip),(29, .skip),(30, .skip),(31, .skip),(38, .call [] (vI x2) [])] } [] (ae (ae (ae ⟨(fun hg=> ⟨fK u0.1 (d9 hr_9 (bC hg)),trivial⟩),ae (ae ⟨hb1,(fun h=>Bool.noConfusion (show true=false from h.1)),hb1,(fun h=>Bool.noConfusion (show true=false from h.1)),hb1,(fun h=>Bool.noConfusion (show true=false from h.1)),hb1,(fun h=>Bool.noConfusion (show true=false from h.1)),hb1,hb2,(fun h=>Bool.noConfusion (show true=false from h.1)),hb2,(fun h=>Bool.noConfusion (show true=false from h.1)),hb2,(fun h=>Bool.noConfusion (show true=false from h.1)),hb2,(fun h=>Bool.noConfusion (show true=false from h.1)),hb2,(fun h=>Bool.noConfusion (show true=false from h.1)),hb2,(fun h=>Bool.noConfusion (show true=false from h.1)),hb2,ae ⟨(fun hg=> ⟨oL u3.1 u3.2 u0.1 u0.2.1 (d9 hr_10 (bC hg)),trivial⟩),ae trivial⟩⟩)⟩))) ?_
     refine bI h (fun hb6 h=> ?_) (fun hb6 h=> ?_)
     ·refine ct hb6 ?_
      refine sz tT ⟨[(0,vB false)],[]⟩ {} [] ?_
      refine aR ?_
      obtain rfl:=oi h
      exact rl [sB false]
     ·refine cf hb6 ?_
      refine aP (aQ (bE h fun u5 hr_11 h=> ?_))
      have q0:=qa u3.1 u3.2 1 hr_11
      refine rg tT (ad9 u3 u5) [_] {an:=[(2,cA q0 [])] } [] ⟨q0,trivial⟩ ?_
      refine aQ (bE h fun v0 hr_12 h=> ?_)
      have q0:=oK u3.1 u5.1 hr_12
      refine rg tT (acS u5 v0) [_] {an:=[(2,cA q0 [])] } [] ⟨q0,trivial⟩ ?_
      refine aQ ?_
      refine bI h (fun hb3 h=> ?_) (fun hb3 h=> ?_)
      ·skip
       refine bE h fun v8 hr_13 h=> ?_
       refine bI h (fun hb4 h=> ?_) (fun hb4 h=> ?_)
       ·skip
        refine bE h fun w3 hr_14 h=> ?_
        refine ri tT (aes u5 v0 v8 w3) (eqs (decide (u5.2=0)) 3 [(dB u5 v0)=true,(dB u5 v0)=true,gP (qJ u5) [(6,true)]→All [[0].length=1,aZ 1 1 (kg 1 [.int .i64 0]) (aS (aT .i64) [0])],(dB u5 v0)=true,(dB u5 v0)=true,gP (qJ u5) [(6,true)]→All [[1].length=1,aZ 1 1 (kg 1 [.int .i64 1]) (aS (aT .i64) [1])],(dB u5 v0)=true,(dB u5 v0)=true,gP (qJ u5) [(6,true)]→All [[(⟨0,30,13334,[0]⟩:aJ),(⟨1,50,8000,[1]⟩:aJ)].length=2,aZ 2 4 (kg 4 qi) (kg 4 qi)],gP (qJ u5) [(6,true)],(dB u5 v0)=true,gP (qJ u5) [(6,true)]→All [Fn Try.prog 52 [sD (Oc u5),.one (.own 78 true ([(⟨0,30,13334,[0]⟩:aJ),(⟨1,50,8000,[1]⟩:aJ)].length))] ak8 (vB v8) ak8],(dB u5 v0)=true,(pI u5 v0 v8)=true,(pI u5 v0 v8)=true,gP (qJ u5) [(15,true)]→All [[13334,8000].length=2,aZ 2 1 (kg 1 UI) (aS (aT .i64) [13334,8000])],gP (qJ u5) [(15,true)],(pI u5 v0 v8)=true,gP (qJ u5) [(15,true)]→All [Fn Try.prog 54 [sD (Qe v0),.one (.own 79 true ([13334,8000].length))] [(79,some Gg)] (vB w3) [(79,some Gg)]],(pI u5 v0 v8)=true]) {yb:=[(2,decide (u5.2=0)),(6,true),(15,true)],an:=[(8, .frz [0].length (aS (aT .i64) [0])),(10, .frz [1].length (aS (aT .i64) [1])),(12, .arr [(⟨0,30,13334,[0]⟩:aJ),(⟨1,50,8000,[1]⟩:aJ)].length (kg 4 qi)),(13, .callR [78] (vB v8)),(17, .arr [13334,8000].length (aS (aT .i64) [13334,8000])),(18, .callR [79] (vB w3))],fr:=[(12,78),(17,79)] } [] (ae ⟨hb3,hb3,(fun hg=> ⟨rfl,(by intro i hi j hj;match i,j,hi,hj with|0,0,_,_=>rfl),trivial⟩),hb3,hb3,(fun hg=> ⟨rfl,(by intro i hi j hj;match i,j,hi,hj with|0,0,_,_=>rfl),trivial⟩),hb3,hb3,(fun hg=> ⟨rfl,fQ _ _ _,trivial⟩),⟨rfl,trivial⟩,hb3,(fun hg=> ⟨Fn.zy (frz:=[78]) (p:=[[(⟨0,30,13334,[0]⟩:aJ),(⟨1,50,8000,[1]⟩:aJ)].length=[(⟨0,30,13334,[0]⟩:aJ),(⟨1,50,8000,[1]⟩:aJ)].length]) (Fn.le (args':=(SX u5)) (dS u5.1 [(⟨0,30,13334,[0]⟩:aJ),(⟨1,50,8000,[1]⟩:aJ)] hr_13) ⟨fG.refl _,fG.one (eZ.d (iM.sl (.inl rfl) (by intro i hi j hj;match i,j,hi,hj with|0,0,_,_=>exact .refl _|0,1,_,_=>exact .refl _|0,2,_,_=>exact .refl _|0,3,_,_=>exact iM.qB|1,0,_,_=>exact .refl _|1,1,_,_=>exact .refl _|1,2,_,_=>exact .refl _|1,3,_,_=>exact iM.qB))),trivial⟩) (by kernel_rfl) ⟨rfl,trivial⟩ rfl,trivial⟩),hb3,hb4,hb4,(fun hg=> ⟨rfl,(by intro i hi j hj;match i,j,hi,hj with|0,0,_,_=>rfl|1,0,_,_=>rfl),trivial⟩),⟨rfl,trivial⟩,hb4,(fun hg=> ⟨Fn.zy (frz:=[79]) (p:=[[13334,8000].length=[13334,8000].length]) (Fn.le (args':=(UC v0)) (eY v0.1 [13334,8000] hr_14) ⟨fG.one (eZ.d iM.qB),fG.one (eZ.d iM.qB),trivial⟩) (by kernel_rfl) ⟨rfl,trivial⟩ rfl,trivial⟩),hb4,trivial⟩) (cO.le (st':=⟨[(0,vB w3)],[]⟩) ⟨⟨⟨_,rfl,eB.v (fG.one (eZ.of (congrArg (fun b=>CV.d (.bool b)) (Gz hb4))))⟩,trivial⟩,trivial⟩) ?_
        refine aR ?_
        obtain rfl:=oi h
        exact rl [sB w3]
       ·skip
        refine ri tT (adx u5 v0 v8) (eqs (decide (u5.2=0)) 3 [(dB u5 v0)=true,(dB u5 v0)=true,gP (qz u5) [(6,true)]→All [[0].length=1,aZ 1 1 (kg 1 [.int .i64 0]) (aS (aT .i64) [0])],(dB u5 v0)=true,(dB u5 v0)=true,gP (qz u5) [(6,true)]→All [[1].length=1,aZ 1 1 (kg 1 [.int .i64 1]) (aS (aT .i64) [1])],(dB u5 v0)=true,(dB u5 v0)=true,gP (qz u5) [(6,true)]→All [[(⟨0,30,13334,[0]⟩:aJ),(⟨1,50,8000,[1]⟩:aJ)].length=2,aZ 2 4 (kg 4 qi) (kg 4 qi)],gP (qz u5) [(6,true)],(dB u5 v0)=true,gP (qz u5) [(6,true)]→All [Fn Try.prog 52 [sD (Oc u5),.one (.own 82 true ([(⟨0,30,13334,[0]⟩:aJ),(⟨1,50,8000,[1]⟩:aJ)].length))] aiC (vB v8) aiC],(dB u5 v0)=true,(pI u5 v0 v8)=false, ¬ gP (qz u5) [(15,true)],(pI u5 v0 v8)=false, ¬ gP (qz u5) [(15,true)],(pI u5 v0 v8)=false, ¬ gP (qz u5) [(15,true)],(pI u5 v0 v8)=false]) {yb:=[(2,decide (u5.2=0)),(6,true),(15,false)],an:=[(8, .frz [0].length (aS (aT .i64) [0])),(10, .frz [1].length (aS (aT .i64) [1])),(12, .arr [(⟨0,30,13334,[0]⟩:aJ),(⟨1,50,8000,[1]⟩:aJ)].length (kg 4 qi)),(13, .callR [82] (vB v8)),(16, .skip),(17, .skip),(18, .skip)],fr:=[(12,82)] } [] (ae ⟨hb3,hb3,(fun hg=> ⟨rfl,(by intro i hi j hj;match i,j,hi,hj with|0,0,_,_=>rfl),trivial⟩),hb3,hb3,(fun hg=> ⟨rfl,(by intro i hi j hj;match i,j,hi,hj with|0,0,_,_=>rfl),trivial⟩),hb3,hb3,(fun hg=> ⟨rfl,fQ _ _ _,trivial⟩),⟨rfl,trivial⟩,hb3,(fun hg=> ⟨Fn.zy (frz:=[82]) (p:=[[(⟨0,30,13334,[0]⟩:aJ),(⟨1,50,8000,[1]⟩:aJ)].length=[(⟨0,30,13334,[0]⟩:aJ),(⟨1,50,8000,[1]⟩:aJ)].length]) (Fn.le (args':=(SX u5)) (dS u5.1 [(⟨0,30,13334,[0]⟩:aJ),(⟨1,50,8000,[1]⟩:aJ)] hr_13) ⟨fG.refl _,fG.one (eZ.d (iM.sl (.inl rfl) (by intro i hi j hj;match i,j,hi,hj with|0,0,_,_=>exact .refl _|0,1,_,_=>exact .refl _|0,2,_,_=>exact .refl _|0,3,_,_=>exact iM.qB|1,0,_,_=>exact .refl _|1,1,_,_=>exact .refl _|1,2,_,_=>exact .refl _|1,3,_,_=>exact iM.qB))),trivial⟩) (by kernel_rfl) ⟨rfl,trivial⟩ rfl,trivial⟩),hb3,hb4,(fun h=>Bool.noConfusion (show false=true from h.1)),hb4,(fun h=>Bool.noConfusion (show false=true from h.1)),hb4,(fun h=>Bool.noConfusion (show false=true from h.1)),hb4,trivial⟩) (cO.le (st':=⟨[(0,vB false)],[]⟩) ⟨⟨⟨_,rfl,eB.v (fG.one (eZ.of (congrArg (fun b=>CV.d (.bool b)) (FV hb4))))⟩,trivial⟩,trivial⟩) ?_
        refine aR ?_
        obtain rfl:=oi h
        exact rl [sB false]
      ·skip
       refine bI h (fun hb5 h=> ?_) (fun hb5 h=> ?_)
       ·skip
        refine bE h fun w4 hr_15 h=> ?_
        refine ri tT (adP u5 v0 w4) (eqs (decide (u5.2=0)) 3 [(dB u5 v0)=false, ¬ gP (mq u5) [(6,true)],(dB u5 v0)=false, ¬ gP (mq u5) [(6,true)],(dB u5 v0)=false, ¬ gP (mq u5) [(6,true)],(dB u5 v0)=false, ¬ gP (mq u5) [(6,true)],(dB u5 v0)=false, ¬ gP (mq u5) [(6,true)],(dB u5 v0)=false, ¬ gP (mq u5) [(6,true)],(dB u5 v0)=false, ¬ gP (mq u5) [(6,true)],(dB u5 v0)=false,(zS u5 v0)=true,(zS u5 v0)=true,gP (mq u5) [(15,true)]→All [[13334,8000].length=2,aZ 2 1 (kg 1 UI) (aS (aT .i64) [13334,8000])],gP (mq u5) [(15,true)],(zS u5 v0)=true,gP (mq u5) [(15,true)]→All [Fn Try.prog 54 [sD (Qe v0),.one (.own 83 true ([13334,8000].length))] [(83,some Gg)] (vB w4) [(83,some Gg)]],(zS u5 v0)=true]) {yb:=[(2,decide (u5.2=0)),(6,false),(15,true)],an:=[(7, .skip),(8, .skip),(9, .skip),(10, .skip),(11, .skip),(12, .skip),(13, .skip),(17, .arr [13334,8000].length (aS (aT .i64) [13334,8000])),(18, .callR [83] (vB w4))],fr:=[(17,83)] } [] (ae ⟨hb3,(fun h=>Bool.noConfusion (show false=true from h.1)),hb3,(fun h=>Bool.noConfusion (show false=true from h.1)),hb3,(fun h=>Bool.noConfusion (show false=true from h.1)),hb3,(fun h=>Bool.noConfusion (show false=true from h.1)),hb3,(fun h=>Bool.noConfusion (show false=true from h.1)),hb3,(fun h=>Bool.noConfusion (show false=true from h.1)),hb3,(fun h=>Bool.noConfusion (show false=true from h.1)),hb3,hb5,hb5,(fun hg=> ⟨rfl,(by intro i hi j hj;match i,j,hi,hj with|0,0,_,_=>rfl|1,0,_,_=>rfl),trivial⟩),⟨rfl,trivial⟩,hb5,(fun hg=> ⟨Fn.zy (frz:=[83]) (p:=[[13334,8000].length=[13334,8000].length]) (Fn.le (args':=(UC v0)) (eY v0.1 [13334,8000] hr_15) ⟨fG.one (eZ.d iM.qB),fG.one (eZ.d iM.qB),trivial⟩) (by kernel_rfl) ⟨rfl,trivial⟩ rfl,trivial⟩),hb5,trivial⟩) (cO.le (st':=⟨[(0,vB w4)],[]⟩) ⟨⟨⟨_,rfl,eB.v (fG.one (eZ.of (congrArg (fun b=>CV.d (.bool b)) (Gz hb5))))⟩,trivial⟩,trivial⟩) ?_
        refine aR ?_
        obtain rfl:=oi h
        exact rl [sB w4]
       ·skip
        refine ri tT (ad6 u5 v0) (ada u5 v0) {yb:=[(2,decide (u5.2=0)),(6,false),(15,false)],an:=[(7, .skip),(8, .skip),(9, .skip),(10, .skip),(11, .skip),(12, .skip),(13, .skip),(16, .skip),(17, .skip),(18, .skip)] } [] (ae ⟨hb3,(fun h=>Bool.noConfusion (show false=true from h.1)),hb3,(fun h=>Bool.noConfusion (show false=true from h.1)),hb3,(fun h=>Bool.noConfusion (show false=true from h.1)),hb3,(fun h=>Bool.noConfusion (show false=true from h.1)),hb3,(fun h=>Bool.noConfusion (show false=true from h.1)),hb3,(fun h=>Bool.noConfusion (show false=true from h.1)),hb3,(fun h=>Bool.noConfusion (show false=true from h.1)),hb3,hb5,(fun h=>Bool.noConfusion (show false=true from h.1)),hb5,(fun h=>Bool.noConfusion (show false=true from h.1)),hb5,(fun h=>Bool.noConfusion (show false=true from h.1)),hb5,trivial⟩) (cO.le (st':=⟨[(0,vB false)],[]⟩) ⟨⟨⟨_,rfl,eB.v (fG.one (eZ.of (congrArg (fun b=>CV.d (.bool b)) (FV hb5))))⟩,trivial⟩,trivial⟩) ?_
        refine aR ?_
        obtain rfl:=oi h
        exact rl [sB false]
    ·skip
     refine bE h fun v7 hr_16 h=> ?_
     refine bE h fun x3 hr_17 h=> ?_
     refine rg tT ⟨[Sd u3,Ti u3,(117,vB (bif (Vq u0 u2 u1 u4 v7)then true else(!decide (x3=0))))],[]⟩ (eqs (!decide (u0.2.2=0)) 3 (eqs (KA u0 u1) 3 (eqs (FL u0 u2 u1) 2 ((gP (Kc u0 u2 u1 u4 v7) [(10,false)]→All [Fn Try.prog 41 (Yt u0) [] (vI u4) []])::(eqs (FL u0 u2 u1) 2 (eqs (LC u0 u2 u1 u4) 3 ((P9 u0 u2 u1 u4)::(¬ gP (Kc u0 u2 u1 u4 v7) [(19,false)])::(P9 u0 u2 u1 u4)::(¬ gP (Kc u0 u2 u1 u4 v7) [(19,false)])::(P9 u0 u2 u1 u4)::(¬ gP (Kc u0 u2 u1 u4 v7) [(19,false)])::(P9 u0 u2 u1 u4)::(¬ gP (Kc u0 u2 u1 u4 v7) [(19,false)])::(P9 u0 u2 u1 u4)::(OI u0 u2 u1 u4)::(OI u0 u2 u1 u4)::(OI u0 u2 u1 u4)::(OI u0 u2 u1 u4)::(gP (Kc u0 u2 u1 u4 v7) [(25,false)]→All [[(⟨2,1⟩:aM),(⟨3,0⟩:aM)].length=2,aZ 2 2 (kg 2 [.int .i64 2,.int .i64 1,.int .i64 3,.int .i64 0]) (aS aM.cell [(⟨2,1⟩:aM),(⟨3,0⟩:aM)])])::(gP (Kc u0 u2 u1 u4 v7) [(25,false)])::(OI u0 u2 u1 u4)::(gP (Kc u0 u2 u1 u4 v7) [(25,false)]→All [Fn Try.prog 38 [sD (Rj u2),.one (.own 84 true ([(⟨2,1⟩:aM),(⟨3,0⟩:aM)].length))] [(84,some (bW 117 2 aM.cell [(⟨2,1⟩:aM),(⟨3,0⟩:aM)]))] (vB v7) [(84,some (bW 117 2 aM.cell [(⟨2,1⟩:aM),(⟨3,0⟩:aM)]))]])::(OI u0 u2 u1 u4)::(OI u0 u2 u1 u4)::(eqs (Vq u0 u2 u1 u4 v7) 5 ((gP (Kc u0 u2 u1 u4 v7) [(33,false)]→All [Fn Try.prog 49 (adz u3 u0) [] (vI x3) []])::(eqs (Vq u0 u2 u1 u4 v7) 2 [])))))))))) {yb:=[(2,!decide (u0.2.2=0)),(6,KA u0 u1),(10,FL u0 u2 u1),(15,LC u0 u2 u1 u4),(19,true),(25,false),(33,Vq u0 u2 u1 u4 v7)],an:=[(12, .call [] (vI u4) []),(20, .skip),(21, .skip),(22, .skip),(23, .skip),(29, .arr [(⟨2,1⟩:aM),(⟨3,0⟩:aM)].length (aS aM.cell [(⟨2,1⟩:aM),(⟨3,0⟩:aM)])),(30, .callR [84] (vB v7)),(38, .call [] (vI x3) [])],fr:=[(29,84)] } [] (ae (ae (ae ⟨(fun hg=> ⟨fK u0.1 (d9 hr_9 (bC hg)),trivial⟩),ae (ae ⟨hb1,(fun h=>Bool.noConfusion (show true=false from h.1)),hb1,(fun h=>Bool.noConfusion (show true=false from h.1)),hb1,(fun h=>Bool.noConfusion (show true=false from h.1)),hb1,(fun h=>Bool.noConfusion (show true=false from h.1)),hb1,hb2,hb2,hb2,hb2,(fun hg=> ⟨rfl,(by intro i hi j hj;match i,j,hi,hj with|0,0,_,_=>rfl|0,1,_,_=>rfl|1,0,_,_=>rfl|1,1,_,_=>rfl),trivial⟩),⟨rfl,trivial⟩,hb2,(fun hg=> ⟨Fn.zy (frz:=[84]) (p:=[[(⟨2,1⟩:aM),(⟨3,0⟩:aM)].length=[(⟨2,1⟩:aM),(⟨3,0⟩:aM)].length]) (Fn.le (args':=(aeR u2)) (qY u2.1 [(⟨2,1⟩:aM),(⟨3,0⟩:aM)] hr_16) ⟨fG.refl _,fG.one (eZ.d iM.qB),trivial⟩) (by kernel_rfl) ⟨rfl,trivial⟩ rfl,trivial⟩),hb2,hb2,ae ⟨(fun hg=> ⟨oL u3.1 u3.2 u0.1 u0.2.1 (d9 hr_17 (bC hg)),trivial⟩),ae trivial⟩⟩)⟩))) ?_
     refine bI h (fun hb10 h=> ?_) (fun hb10 h=> ?_)
     ·refine ct hb10 ?_
      refine sz tT ⟨[(0,vB false)],[]⟩ {} [] ?_
      refine aR ?_
      obtain rfl:=oi h
      exact rl [sB false]
     ·refine cf hb10 ?_
      refine aP (aQ (bE h fun u6 hr_18 h=> ?_))
      have q0:=qa u3.1 u3.2 1 hr_18
      refine rg tT (ad9 u3 u6) [_] {an:=[(2,cA q0 [])] } [] ⟨q0,trivial⟩ ?_
      refine aQ (bE h fun v1 hr_19 h=> ?_)
      have q0:=oK u3.1 u6.1 hr_19
      refine rg tT (acS u6 v1) [_] {an:=[(2,cA q0 [])] } [] ⟨q0,trivial⟩ ?_
      refine aQ ?_
      refine bI h (fun hb7 h=> ?_) (fun hb7 h=> ?_)
      ·skip
       refine bE h fun v9 hr_20 h=> ?_
       refine bI h (fun hb8 h=> ?_) (fun hb8 h=> ?_)
       ·skip
        refine bE h fun w5 hr_21 h=> ?_
        refine ri tT (aes u6 v1 v9 w5) (eqs (decide (u6.2=0)) 3 [(dB u6 v1)=true,(dB u6 v1)=true,gP (qJ u6) [(6,true)]→All [[0].length=1,aZ 1 1 (kg 1 [.int .i64 0]) (aS (aT .i64) [0])],(dB u6 v1)=true,(dB u6 v1)=true,gP (qJ u6) [(6,true)]→All [[1].length=1,aZ 1 1 (kg 1 [.int .i64 1]) (aS (aT .i64) [1])],(dB u6 v1)=true,(dB u6 v1)=true,gP (qJ u6) [(6,true)]→All [[(⟨0,30,13334,[0]⟩:aJ),(⟨1,50,8000,[1]⟩:aJ)].length=2,aZ 2 4 (kg 4 qi) (kg 4 qi)],gP (qJ u6) [(6,true)],(dB u6 v1)=true,gP (qJ u6) [(6,true)]→All [Fn Try.prog 52 [sD (Oc u6),.one (.own 90 true ([(⟨0,30,13334,[0]⟩:aJ),(⟨1,50,8000,[1]⟩:aJ)].length))] afd (vB v9) afd],(dB u6 v1)=true,(pI u6 v1 v9)=true,(pI u6 v1 v9)=true,gP (qJ u6) [(15,true)]→All [[13334,8000].length=2,aZ 2 1 (kg 1 UI) (aS (aT .i64) [13334,8000])],gP (qJ u6) [(15,true)],(pI u6 v1 v9)=true,gP (qJ u6) [(15,true)]→All [Fn Try.prog 54 [sD (Qe v1),.one (.own 91 true ([13334,8000].length))] [(91,some Gg)] (vB w5) [(91,some Gg)]],(pI u6 v1 v9)=true]) {yb:=[(2,decide (u6.2=0)),(6,true),(15,true)],an:=[(8, .frz [0].length (aS (aT .i64) [0])),(10, .frz [1].length (aS (aT .i64) [1])),(12, .arr [(⟨0,30,13334,[0]⟩:aJ),(⟨1,50,8000,[1]⟩:aJ)].length (kg 4 qi)),(13, .callR [90] (vB v9)),(17, .arr [13334,8000].length (aS (aT .i64) [13334,8000])),(18, .callR [91] (vB w5))],fr:=[(12,90),(17,91)] } [] (ae ⟨hb7,hb7,(fun hg=> ⟨rfl,(by intro i hi j hj;match i,j,hi,hj with|0,0,_,_=>rfl),trivial⟩),hb7,hb7,(fun hg=> ⟨rfl,(by intro i hi j hj;match i,j,hi,hj with|0,0,_,_=>rfl),trivial⟩),hb7,hb7,(fun hg=> ⟨rfl,fQ _ _ _,trivial⟩),⟨rfl,trivial⟩,hb7,(fun hg=> ⟨Fn.zy (frz:=[90]) (p:=[[(⟨0,30,13334,[0]⟩:aJ),(⟨1,50,8000,[1]⟩:aJ)].length=[(⟨0,30,13334,[0]⟩:aJ),(⟨1,50,8000,[1]⟩:aJ)].length]) (Fn.le (args':=(SX u6)) (dS u6.1 [(⟨0,30,13334,[0]⟩:aJ),(⟨1,50,8000,[1]⟩:aJ)] hr_20) ⟨fG.refl _,fG.one (eZ.d (iM.sl (.inl rfl) (by intro i hi j hj;match i,j,hi,hj with|0,0,_,_=>exact .refl _|0,1,_,_=>exact .refl _|0,2,_,_=>exact .refl _|0,3,_,_=>exact iM.qB|1,0,_,_=>exact .refl _|1,1,_,_=>exact .refl _|1,2,_,_=>exact .refl _|1,3,_,_=>exact iM.qB))),trivial⟩) (by kernel_rfl) ⟨rfl,trivial⟩ rfl,trivial⟩),hb7,hb8,hb8,(fun hg=> ⟨rfl,(by intro i hi j hj;match i,j,hi,hj with|0,0,_,_=>rfl|1,0,_,_=>rfl),trivial⟩),⟨rfl,trivial⟩,hb8,(fun hg=> ⟨Fn.zy (frz:=[91]) (p:=[[13334,8000].length=[13334,8000].length]) (Fn.le (args':=(UC v1)) (eY v1.1 [13334,8000] hr_21) ⟨fG.one (eZ.d iM.qB),fG.one (eZ.d iM.qB),trivial⟩) (by kernel_rfl) ⟨rfl,trivial⟩ rfl,trivial⟩),hb8,trivial⟩) (cO.le (st':=⟨[(0,vB w5)],[]⟩) ⟨⟨⟨_,rfl,eB.v (fG.one (eZ.of (congrArg (fun b=>CV.d (.bool b)) (Gz hb8))))⟩,trivial⟩,trivial⟩) ?_
        refine aR ?_
        obtain rfl:=oi h
        exact rl [sB w5]
       ·skip
        refine ri tT (adx u6 v1 v9) (eqs (decide (u6.2=0)) 3 [(dB u6 v1)=true,(dB u6 v1)=true,gP (qz u6) [(6,true)]→All [[0].length=1,aZ 1 1 (kg 1 [.int .i64 0]) (aS (aT .i64) [0])],(dB u6 v1)=true,(dB u6 v1)=true,gP (qz u6) [(6,true)]→All [[1].length=1,aZ 1 1 (kg 1 [.int .i64 1]) (aS (aT .i64) [1])],(dB u6 v1)=true,(dB u6 v1)=true,gP (qz u6) [(6,true)]→All [[(⟨0,30,13334,[0]⟩:aJ),(⟨1,50,8000,[1]⟩:aJ)].length=2,aZ 2 4 (kg 4 qi) (kg 4 qi)],gP (qz u6) [(6,true)],(dB u6 v1)=true,gP (qz u6) [(6,true)]→All [Fn Try.prog 52 [sD (Oc u6),.one (.own 94 true ([(⟨0,30,13334,[0]⟩:aJ),(⟨1,50,8000,[1]⟩:aJ)].length))] afy (vB v9) afy],(dB u6 v1)=true,(pI u6 v1 v9)=false, ¬ gP (qz u6) [(15,true)],(pI u6 v1 v9)=false, ¬ gP (qz u6) [(15,true)],(pI u6 v1 v9)=false, ¬ gP (qz u6) [(15,true)],(pI u6 v1 v9)=false]) {yb:=[(2,decide (u6.2=0)),(6,true),(15,false)],an:=[(8, .frz [0].length (aS (aT .i64) [0])),(10, .frz [1].length (aS (aT .i64) [1])),(12, .arr [(⟨0,30,13334,[0]⟩:aJ),(⟨1,50,8000,[1]⟩:aJ)].length (kg 4 qi)),(13, .callR [94] (vB v9)),(16, .skip),(17, .skip),(18, .skip)],fr:=[(12,94)] } [] (ae ⟨hb7,hb7,(fun hg=> ⟨rfl,(by intro i hi j hj;match i,j,hi,hj with|0,0,_,_=>rfl),trivial⟩),hb7,hb7,(fun hg=> ⟨rfl,(by intro i hi j hj;match i,j,hi,hj with|0,0,_,_=>rfl),trivial⟩),hb7,hb7,(fun hg=> ⟨rfl,fQ _ _ _,trivial⟩),⟨rfl,trivial⟩,hb7,(fun hg=> ⟨Fn.zy (frz:=[94]) (p:=[[(⟨0,30,13334,[0]⟩:aJ),(⟨1,50,8000,[1]⟩:aJ)].length=[(⟨0,30,13334,[0]⟩:aJ),(⟨1,50,8000,[1]⟩:aJ)].length]) (Fn.le (args':=(SX u6)) (dS u6.1 [(⟨0,30,13334,[0]⟩:aJ),(⟨1,50,8000,[1]⟩:aJ)] hr_20) ⟨fG.refl _,fG.one (eZ.d (iM.sl (.inl rfl) (by intro i hi j hj;match i,j,hi,hj with|0,0,_,_=>exact .refl _|0,1,_,_=>exact .refl _|0,2,_,_=>exact .refl _|0,3,_,_=>exact iM.qB|1,0,_,_=>exact .refl _|1,1,_,_=>exact .refl _|1,2,_,_=>exact .refl _|1,3,_,_=>exact iM.qB))),trivial⟩) (by kernel_rfl) ⟨rfl,trivial⟩ rfl,trivial⟩),hb7,hb8,(fun h=>Bool.noConfusion (show false=true from h.1)),hb8,(fun h=>Bool.noConfusion (show false=true from h.1)),hb8,(fun h=>Bool.noConfusion (show false=true from h.1)),hb8,trivial⟩) (cO.le (st':=⟨[(0,vB false)],[]⟩) ⟨⟨⟨_,rfl,eB.v (fG.one (eZ.of (congrArg (fun b=>CV.d (.bool b)) (FV hb8))))⟩,trivial⟩,trivial⟩) ?_
        refine aR ?_
        obtain rfl:=oi h
        exact rl [sB false]
      ·skip
       refine bI h (fun hb9 h=> ?_) (fun hb9 h=> ?_)
       ·skip
        refine bE h fun w6 hr_22 h=> ?_
        refine ri tT (adP u6 v1 w6) (eqs (decide (u6.2=0)) 3 [(dB u6 v1)=false, ¬ gP (mq u6) [(6,true)],(dB u6 v1)=false, ¬ gP (mq u6) [(6,true)],(dB u6 v1)=false, ¬ gP (mq u6) [(6,true)],(dB u6 v1)=false, ¬ gP (mq u6) [(6,true)],(dB u6 v1)=false, ¬ gP (mq u6) [(6,true)],(dB u6 v1)=false, ¬ gP (mq u6) [(6,true)],(dB u6 v1)=false, ¬ gP (mq u6) [(6,true)],(dB u6 v1)=false,(zS u6 v1)=true,(zS u6 v1)=true,gP (mq u6) [(15,true)]→All [[13334,8000].length=2,aZ 2 1 (kg 1 UI) (aS (aT .i64) [13334,8000])],gP (mq u6) [(15,true)],(zS u6 v1)=true,gP (mq u6) [(15,true)]→All [Fn Try.prog 54 [sD (Qe v1),.one (.own 95 true ([13334,8000].length))] [(95,some Gg)] (vB w6) [(95,some Gg)]],(zS u6 v1)=true]) {yb:=[(2,decide (u6.2=0)),(6,false),(15,true)],an:=[(7, .skip),(8, .skip),(9, .skip),(10, .skip),(11, .skip),(12, .skip),(13, .skip),(17, .arr [13334,8000].length (aS (aT .i64) [13334,8000])),(18, .callR [95] (vB w6))],fr:=[(17,95)] } [] (ae ⟨hb7,(fun h=>Bool.noConfusion (show false=true from h.1)),hb7,(fun h=>Bool.noConfusion (show false=true from h.1)),hb7,(fun h=>Bool.noConfusion (show false=true from h.1)),hb7,(fun h=>Bool.noConfusion (show false=true from h.1)),hb7,(fun h=>Bool.noConfusion (show false=true from h.1)),hb7,(fun h=>Bool.noConfusion (show false=true from h.1)),hb7,(fun h=>Bool.noConfusion (show false=true from h.1)),hb7,hb9,hb9,(fun hg=> ⟨rfl,(by intro i hi j hj;match i,j,hi,hj with|0,0,_,_=>rfl|1,0,_,_=>rfl),trivial⟩),⟨rfl,trivial⟩,hb9,(fun hg=> ⟨Fn.zy (frz:=[95]) (p:=[[13334,8000].length=[13334,8000].length]) (Fn.le (args':=(UC v1)) (eY v1.1 [13334,8000] hr_22) ⟨fG.one (eZ.d iM.qB),fG.one (eZ.d iM.qB),trivial⟩) (by kernel_rfl) ⟨rfl,trivial⟩ rfl,trivial⟩),hb9,trivial⟩) (cO.le (st':=⟨[(0,vB w6)],[]⟩) ⟨⟨⟨_,rfl,eB.v (fG.one (eZ.of (congrArg (fun b=>CV.d (.bool b)) (Gz hb9))))⟩,trivial⟩,trivial⟩) ?_
        refine aR ?_
        obtain rfl:=oi h
        exact rl [sB w6]
       ·skip
        refine ri tT (ad6 u6 v1) (ada u6 v1) {yb:=[(2,decide (u6.2=0)),(6,false),(15,false)],an:=[(7, .skip),(8, .skip),(9, .skip),(10, .skip),(11, .skip),(12, .skip),(13, .skip),(16, .skip),(17, .skip),(18, .skip)] } [] (ae ⟨hb7,(fun h=>Bool.noConfusion (show false=true from h.1)),hb7,(fun h=>Bool.noConfusion (show false=true from h.1)),hb7,(fun h=>Bool.noConfusion (show false=true from h.1)),hb7,(fun h=>Bool.noConfusion (show false=true from h.1)),hb7,(fun h=>Bool.noConfusion (show false=true from h.1)),hb7,(fun h=>Bool.noConfusion (show false=true from h.1)),hb7,(fun h=>Bool.noConfusion (show false=true from h.1)),hb7,hb9,(fun h=>Bool.noConfusion (show false=true from h.1)),hb9,(fun h=>Bool.noConfusion (show false=true from h.1)),hb9,(fun h=>Bool.noConfusion (show false=true from h.1)),hb9,trivial⟩) (cO.le (st':=⟨[(0,vB false)],[]⟩) ⟨⟨⟨_,rfl,eB.v (fG.one (eZ.of (congrArg (fun b=>CV.d (.bool b)) (FV hb9))))⟩,trivial⟩,trivial⟩) ?_
        refine aR ?_
        obtain rfl:=oi h
        exact rl [sB false]
   ·skip
    refine bE h fun v5 hr_23 h=> ?_
    refine bI h (fun hb11 h=> ?_) (fun hb11 h=> ?_)
    ·skip
     refine bE h fun x4 hr_24 h=> ?_
     refine rg tT ⟨[Sd u3,Ti u3,(117,vB (bif (U6 u0 u2 u1 u4 v5)then true else(!decide (x4=0))))],[]⟩ (eqs (!decide (u0.2.2=0)) 3 (eqs (KA u0 u1) 3 (eqs (FL u0 u2 u1) 2 ((gP (EC u0 u2 u1 u4 v5) [(10,false)]→All [Fn Try.prog 41 (Yt u0) [] (vI u4) []])::(eqs (FL u0 u2 u1) 2 (eqs (LC u0 u2 u1 u4) 3 ((GU u0 u2 u1 u4)::(GU u0 u2 u1 u4)::(gP (EC u0 u2 u1 u4 v5) [(19,false)]→All [[true,false,false].length=3,aZ 3 1 (kg 1 [.bool true,.bool false,.bool false]) (aS aF [true,false,false])])::(gP (EC u0 u2 u1 u4 v5) [(19,false)])::(GU u0 u2 u1 u4)::(gP (EC u0 u2 u1 u4 v5) [(19,false)]→All [Fn Try.prog 42 [sD (K8 u0),.one (.own 97 true ([true,false,false].length))] [(97,some (bW 4 1 aF [true,false,false]))] (vB v5) [(97,some (bW 4 1 aF [true,false,false]))]])::(GU u0 u2 u1 u4)::(GU u0 u2 u1 u4)::(Ox u0 u2 u1 u4 v5)::(¬ gP (EC u0 u2 u1 u4 v5) [(25,false)])::(Ox u0 u2 u1 u4 v5)::(¬ gP (EC u0 u2 u1 u4 v5) [(25,false)])::(Ox u0 u2 u1 u4 v5)::(¬ gP (EC u0 u2 u1 u4 v5) [(25,false)])::(Ox u0 u2 u1 u4 v5)::(¬ gP (EC u0 u2 u1 u4 v5) [(25,false)])::(Ox u0 u2 u1 u4 v5)::(¬ gP (EC u0 u2 u1 u4 v5) [(25,false)])::(Ox u0 u2 u1 u4 v5)::(¬ gP (EC u0 u2 u1 u4 v5) [(25,false)])::(Ox u0 u2 u1 u4 v5)::(eqs (U6 u0 u2 u1 u4 v5) 5 ((gP (EC u0 u2 u1 u4 v5) [(33,false)]→All [Fn Try.prog 49 (adz u3 u0) [] (vI x4) []])::(eqs (U6 u0 u2 u1 u4 v5) 2 [])))))))))) {yb:=[(2,!decide (u0.2.2=0)),(6,KA u0 u1),(10,FL u0 u2 u1),(15,LC u0 u2 u1 u4),(19,false),(25,true),(33,U6 u0 u2 u1 u4 v5)],an:=[(12, .call [] (vI u4) []),(21, .arr [true,false,false].length (aS aF [true,false,false])),(22, .callR [97] (vB v5)),(26, .skip),(27, .skip),(28, .skip),(29, .skip),(30, .skip),(31, .skip),(38, .call [] (vI x4) [])],fr:=[(21,97)] } [] (ae (ae (ae ⟨(fun hg=> ⟨fK u0.1 (d9 hr_9 (bC hg)),trivial⟩),ae (ae ⟨hb1,hb1,(fun hg=> ⟨rfl,(by intro i hi j hj;match i,j,hi,hj with|0,0,_,_=>rfl|1,0,_,_=>rfl|2,0,_,_=>rfl),trivial⟩),⟨rfl,trivial⟩,hb1,(fun hg=> ⟨Fn.zy (frz:=[97]) (p:=[[true,false,false].length=[true,false,false].length]) (Fn.le (args':=[sD (K8 u0),sD (bJ (some true) 1 aF [true,false,false])]) (dH u0.2.1 [true,false,false] hr_23) ⟨fG.refl _,fG.one (eZ.d iM.qB),trivial⟩) (by kernel_rfl) ⟨rfl,trivial⟩ rfl,trivial⟩),hb1,hb1,hb11,(fun h=>Bool.noConfusion (show true=false from h.1)),hb11,(fun h=>Bool.noConfusion (show true=false from h.1)),hb11,(fun h=>Bool.noConfusion (show true=false from h.1)),hb11,(fun h=>Bool.noConfusion (show true=false from h.1)),hb11,(fun h=>Bool.noConfusion (show true=false from h.1)),hb11,(fun h=>Bool.noConfusion (show true=false from h.1)),hb11,ae ⟨(fun hg=> ⟨oL u3.1 u3.2 u0.1 u0.2.1 (d9 hr_24 (bC hg)),trivial⟩),ae trivial⟩⟩)⟩))) ?_
     refine bI h (fun hb15 h=> ?_) (fun hb15 h=> ?_)
     ·refine ct hb15 ?_
      refine sz tT ⟨[(0,vB false)],[]⟩ {} [] ?_
      refine aR ?_
      obtain rfl:=oi h
      exact rl [sB false]
     ·refine cf hb15 ?_
      refine aP (aQ (bE h fun u7 hr_25 h=> ?_))
      have q0:=qa u3.1 u3.2 1 hr_25
      refine rg tT (ad9 u3 u7) [_] {an:=[(2,cA q0 [])] } [] ⟨q0,trivial⟩ ?_
      refine aQ (bE h fun v2 hr_26 h=> ?_)
      have q0:=oK u3.1 u7.1 hr_26
      refine rg tT (acS u7 v2) [_] {an:=[(2,cA q0 [])] } [] ⟨q0,trivial⟩ ?_
      refine aQ ?_
      refine bI h (fun hb12 h=> ?_) (fun hb12 h=> ?_)
      ·skip
       refine bE h fun w0 hr_27 h=> ?_
       refine bI h (fun hb13 h=> ?_) (fun hb13 h=> ?_)
       ·skip
        refine bE h fun w7 hr_28 h=> ?_
        refine ri tT (aes u7 v2 w0 w7) (eqs (decide (u7.2=0)) 3 [(dB u7 v2)=true,(dB u7 v2)=true,gP (qJ u7) [(6,true)]→All [[0].length=1,aZ 1 1 (kg 1 [.int .i64 0]) (aS (aT .i64) [0])],(dB u7 v2)=true,(dB u7 v2)=true,gP (qJ u7) [(6,true)]→All [[1].length=1,aZ 1 1 (kg 1 [.int .i64 1]) (aS (aT .i64) [1])],(dB u7 v2)=true,(dB u7 v2)=true,gP (qJ u7) [(6,true)]→All [[(⟨0,30,13334,[0]⟩:aJ),(⟨1,50,8000,[1]⟩:aJ)].length=2,aZ 2 4 (kg 4 qi) (kg 4 qi)],gP (qJ u7) [(6,true)],(dB u7 v2)=true,gP (qJ u7) [(6,true)]→All [Fn Try.prog 52 [sD (Oc u7),.one (.own 103 true ([(⟨0,30,13334,[0]⟩:aJ),(⟨1,50,8000,[1]⟩:aJ)].length))] aeY (vB w0) aeY],(dB u7 v2)=true,(pI u7 v2 w0)=true,(pI u7 v2 w0)=true,gP (qJ u7) [(15,true)]→All [[13334,8000].length=2,aZ 2 1 (kg 1 UI) (aS (aT .i64) [13334,8000])],gP (qJ u7) [(15,true)],(pI u7 v2 w0)=true,gP (qJ u7) [(15,true)]→All [Fn Try.prog 54 [sD (Qe v2),.one (.own 104 true ([13334,8000].length))] [(104,some Gg)] (vB w7) [(104,some Gg)]],(pI u7 v2 w0)=true]) {yb:=[(2,decide (u7.2=0)),(6,true),(15,true)],an:=[(8, .frz [0].length (aS (aT .i64) [0])),(10, .frz [1].length (aS (aT .i64) [1])),(12, .arr [(⟨0,30,13334,[0]⟩:aJ),(⟨1,50,8000,[1]⟩:aJ)].length (kg 4 qi)),(13, .callR [103] (vB w0)),(17, .arr [13334,8000].length (aS (aT .i64) [13334,8000])),(18, .callR [104] (vB w7))],fr:=[(12,103),(17,104)] } [] (ae ⟨hb12,hb12,(fun hg=> ⟨rfl,(by intro i hi j hj;match i,j,hi,hj with|0,0,_,_=>rfl),trivial⟩),hb12,hb12,(fun hg=> ⟨rfl,(by intro i hi j hj;match i,j,hi,hj with|0,0,_,_=>rfl),trivial⟩),hb12,hb12,(fun hg=> ⟨rfl,fQ _ _ _,trivial⟩),⟨rfl,trivial⟩,hb12,(fun hg=> ⟨Fn.zy (frz:=[103]) (p:=[[(⟨0,30,13334,[0]⟩:aJ),(⟨1,50,8000,[1]⟩:aJ)].length=[(⟨0,30,13334,[0]⟩:aJ),(⟨1,50,8000,[1]⟩:aJ)].length]) (Fn.le (args':=(SX u7)) (dS u7.1 [(⟨0,30,13334,[0]⟩:aJ),(⟨1,50,8000,[1]⟩:aJ)] hr_27) ⟨fG.refl _,fG.one (eZ.d (iM.sl (.inl rfl) (by intro i hi j hj;match i,j,hi,hj with|0,0,_,_=>exact .refl _|0,1,_,_=>exact .refl _|0,2,_,_=>exact .refl _|0,3,_,_=>exact iM.qB|1,0,_,_=>exact .refl _|1,1,_,_=>exact .refl _|1,2,_,_=>exact .refl _|1,3,_,_=>exact iM.qB))),trivial⟩) (by kernel_rfl) ⟨rfl,trivial⟩ rfl,trivial⟩),hb12,hb13,hb13,(fun hg=> ⟨rfl,(by intro i hi j hj;match i,j,hi,hj with|0,0,_,_=>rfl|1,0,_,_=>rfl),trivial⟩),⟨rfl,trivial⟩,hb13,(fun hg=> ⟨Fn.zy (frz:=[104]) (p:=[[13334,8000].length=[13334,8000].length]) (Fn.le (args':=(UC v2)) (eY v2.1 [13334,8000] hr_28) ⟨fG.one (eZ.d iM.qB),fG.one (eZ.d iM.qB),trivial⟩) (by kernel_rfl) ⟨rfl,trivial⟩ rfl,trivial⟩),hb13,trivial⟩) (cO.le (st':=⟨[(0,vB w7)],[]⟩) ⟨⟨⟨_,rfl,eB.v (fG.one (eZ.of (congrArg (fun b=>CV.d (.bool b)) (Gz hb13))))⟩,trivial⟩,trivial⟩) ?_
        refine aR ?_
        obtain rfl:=oi h
        exact rl [sB w7]
       ·skip
        refine ri tT (adx u7 v2 w0) (eqs (decide (u7.2=0)) 3 [(dB u7 v2)=true,(dB u7 v2)=true,gP (qz u7) [(6,true)]→All [[0].length=1,aZ 1 1 (kg 1 [.int .i64 0]) (aS (aT .i64) [0])],(dB u7 v2)=true,(dB u7 v2)=true,gP (qz u7) [(6,true)]→All [[1].length=1,aZ 1 1 (kg 1 [.int .i64 1]) (aS (aT .i64) [1])],(dB u7 v2)=true,(dB u7 v2)=true,gP (qz u7) [(6,true)]→All [[(⟨0,30,13334,[0]⟩:aJ),(⟨1,50,8000,[1]⟩:aJ)].length=2,aZ 2 4 (kg 4 qi) (kg 4 qi)],gP (qz u7) [(6,true)],(dB u7 v2)=true,gP (qz u7) [(6,true)]→All [Fn Try.prog 52 [sD (Oc u7),.one (.own 107 true ([(⟨0,30,13334,[0]⟩:aJ),(⟨1,50,8000,[1]⟩:aJ)].length))] ae6 (vB w0) ae6],(dB u7 v2)=true,(pI u7 v2 w0)=false, ¬ gP (qz u7) [(15,true)],(pI u7 v2 w0)=false, ¬ gP (qz u7) [(15,true)],(pI u7 v2 w0)=false, ¬ gP (qz u7) [(15,true)],(pI u7 v2 w0)=false]) {yb:=[(2,decide (u7.2=0)),(6,true),(15,false)],an:=[(8, .frz [0].length (aS (aT .i64) [0])),(10, .frz [1].length (aS (aT .i64) [1])),(12, .arr [(⟨0,30,13334,[0]⟩:aJ),(⟨1,50,8000,[1]⟩:aJ)].length (kg 4 qi)),(13, .callR [107] (vB w0)),(16, .skip),(17, .skip),(18, .skip)],fr:=[(12,107)] } [] (ae ⟨hb12,hb12,(fun hg=> ⟨rfl,(by intro i hi j hj;match i,j,hi,hj with|0,0,_,_=>rfl),trivial⟩),hb12,hb12,(fun hg=> ⟨rfl,(by intro i hi j hj;match i,j,hi,hj with|0,0,_,_=>rfl),trivial⟩),hb12,hb12,(fun hg=> ⟨rfl,fQ _ _ _,trivial⟩),⟨rfl,trivial⟩,hb12,(fun hg=> ⟨Fn.zy (frz:=[107]) (p:=[[(⟨0,30,13334,[0]⟩:aJ),(⟨1,50,8000,[1]⟩:aJ)].length=[(⟨0,30,13334,[0]⟩:aJ),(⟨1,50,8000,[1]⟩:aJ)].length]) (Fn.le (args':=(SX u7)) (dS u7.1 [(⟨0,30,13334,[0]⟩:aJ),(⟨1,50,8000,[1]⟩:aJ)] hr_27) ⟨fG.refl _,fG.one (eZ.d (iM.sl (.inl rfl) (by intro i hi j hj;match i,j,hi,hj with|0,0,_,_=>exact .refl _|0,1,_,_=>exact .refl _|0,2,_,_=>exact .refl _|0,3,_,_=>exact iM.qB|1,0,_,_=>exact .refl _|1,1,_,_=>exact .refl _|1,2,_,_=>exact .refl _|1,3,_,_=>exact iM.qB))),trivial⟩) (by kernel_rfl) ⟨rfl,trivial⟩ rfl,trivial⟩),hb12,hb13,(fun h=>Bool.noConfusion (show false=true from h.1)),hb13,(fun h=>Bool.noConfusion (show false=true from h.1)),hb13,(fun h=>Bool.noConfusion (show false=true from h.1)),hb13,trivial⟩) (cO.le (st':=⟨[(0,vB false)],[]⟩) ⟨⟨⟨_,rfl,eB.v (fG.one (eZ.of (congrArg (fun b=>CV.d (.bool b)) (FV hb13))))⟩,trivial⟩,trivial⟩) ?_
        refine aR ?_
        obtain rfl:=oi h
        exact rl [sB false]
      ·skip
       refine bI h (fun hb14 h=> ?_) (fun hb14 h=> ?_)
       ·skip
        refine bE h fun w8 hr_29 h=> ?_
        refine ri tT (adP u7 v2 w8) (eqs (decide (u7.2=0)) 3 [(dB u7 v2)=false, ¬ gP (mq u7) [(6,true)],(dB u7 v2)=false, ¬ gP (mq u7) [(6,true)],(dB u7 v2)=false, ¬ gP (mq u7) [(6,true)],(dB u7 v2)=false, ¬ gP (mq u7) [(6,true)],(dB u7 v2)=false, ¬ gP (mq u7) [(6,true)],(dB u7 v2)=false, ¬ gP (mq u7) [(6,true)],(dB u7 v2)=false, ¬ gP (mq u7) [(6,true)],(dB u7 v2)=false,(zS u7 v2)=true,(zS u7 v2)=true,gP (mq u7) [(15,true)]→All [[13334,8000].length=2,aZ 2 1 (kg 1 UI) (aS (aT .i64) [13334,8000])],gP (mq u7) [(15,true)],(zS u7 v2)=true,gP (mq u7) [(15,true)]→All [Fn Try.prog 54 [sD (Qe v2),.one (.own 108 true ([13334,8000].length))] [(108,some Gg)] (vB w8) [(108,some Gg)]],(zS u7 v2)=true]) {yb:=[(2,decide (u7.2=0)),(6,false),(15,true)],an:=[(7, .skip),(8, .skip),(9, .skip),(10, .skip),(11, .skip),(12, .skip),(13, .skip),(17, .arr [13334,8000].length (aS (aT .i64) [13334,8000])),(18, .callR [108] (vB w8))],fr:=[(17,108)] } [] (ae ⟨hb12,(fun h=>Bool.noConfusion (show false=true from h.1)),hb12,(fun h=>Bool.noConfusion (show false=true from h.1)),hb12,(fun h=>Bool.noConfusion (show false=true from h.1)),hb12,(fun h=>Bool.noConfusion (show false=true from h.1)),hb12,(fun h=>Bool.noConfusion (show false=true from h.1)),hb12,(fun h=>Bool.noConfusion (show false=true from h.1)),hb12,(fun h=>Bool.noConfusion (show false=true from h.1)),hb12,hb14,hb14,(fun hg=> ⟨rfl,(by intro i hi j hj;match i,j,hi,hj with|0,0,_,_=>rfl|1,0,_,_=>rfl),trivial⟩),⟨rfl,trivial⟩,hb14,(fun hg=> ⟨Fn.zy (frz:=[108]) (p:=[[13334,8000].length=[13334,8000].length]) (Fn.le (args':=(UC v2)) (eY v2.1 [13334,8000] hr_29) ⟨fG.one (eZ.d iM.qB),fG.one (eZ.d iM.qB),trivial⟩) (by kernel_rfl) ⟨rfl,trivial⟩ rfl,trivial⟩),hb14,trivial⟩) (cO.le (st':=⟨[(0,vB w8)],[]⟩) ⟨⟨⟨_,rfl,eB.v (fG.one (eZ.of (congrArg (fun b=>CV.d (.bool b)) (Gz hb14))))⟩,trivial⟩,trivial⟩) ?_
        refine aR ?_
        obtain rfl:=oi h
        exact rl [sB w8]
       ·skip
        refine ri tT (ad6 u7 v2) (ada u7 v2) {yb:=[(2,decide (u7.2=0)),(6,false),(15,false)],an:=[(7, .skip),(8, .skip),(9, .skip),(10, .skip),(11, .skip),(12, .skip),(13, .skip),(16, .skip),(17, .skip),(18, .skip)] } [] (ae ⟨hb12,(fun h=>Bool.noConfusion (show false=true from h.1)),hb12,(fun h=>Bool.noConfusion (show false=true from h.1)),hb12,(fun h=>Bool.noConfusion (show false=true from h.1)),hb12,(fun h=>Bool.noConfusion (show false=true from h.1)),hb12,(fun h=>Bool.noConfusion (show false=true from h.1)),hb12,(fun h=>Bool.noConfusion (show false=true from h.1)),hb12,(fun h=>Bool.noConfusion (show false=true from h.1)),hb12,hb14,(fun h=>Bool.noConfusion (show false=true from h.1)),hb14,(fun h=>Bool.noConfusion (show false=true from h.1)),hb14,(fun h=>Bool.noConfusion (show false=true from h.1)),hb14,trivial⟩) (cO.le (st':=⟨[(0,vB false)],[]⟩) ⟨⟨⟨_,rfl,eB.v (fG.one (eZ.of (congrArg (fun b=>CV.d (.bool b)) (FV hb14))))⟩,trivial⟩,trivial⟩) ?_
        refine aR ?_
        obtain rfl:=oi h
        exact rl [sB false]
    ·skip
     refine bE h fun w1 hr_30 h=> ?_
     refine bE h fun x5 hr_31 h=> ?_
     refine rg tT ⟨[Sd u3,Ti u3,(117,vB (bif (TY u0 u2 u1 u4 v5 w1)then true else(!decide (x5=0))))],[]⟩ (eqs (!decide (u0.2.2=0)) 3 (eqs (KA u0 u1) 3 (eqs (FL u0 u2 u1) 2 ((gP (L8 u0 u2 u1 u4 v5 w1) [(10,false)]→All [Fn Try.prog 41 (Yt u0) [] (vI u4) []])::(eqs (FL u0 u2 u1) 2 (eqs (LC u0 u2 u1 u4) 3 ((GU u0 u2 u1 u4)::(GU u0 u2 u1 u4)::(gP (L8 u0 u2 u1 u4 v5 w1) [(19,false)]→All [[true,false,false].length=3,aZ 3 1 (kg 1 [.bool true,.bool false,.bool false]) (aS aF [true,false,false])])::(gP (L8 u0 u2 u1 u4 v5 w1) [(19,false)])::(GU u0 u2 u1 u4)::(gP (L8 u0 u2 u1 u4 v5 w1) [(19,false)]→All [Fn Try.prog 42 [sD (K8 u0),.one (.own 109 true ([true,false,false].length))] [(109,some (bW 4 1 aF [true,false,false]))] (vB v5) [(109,some (bW 4 1 aF [true,false,false]))]])::(GU u0 u2 u1 u4)::(GU u0 u2 u1 u4)::(OH u0 u2 u1 u4 v5)::(OH u0 u2 u1 u4 v5)::(OH u0 u2 u1 u4 v5)::(OH u0 u2 u1 u4 v5)::(gP (L8 u0 u2 u1 u4 v5 w1) [(25,false)]→All [[(⟨2,1⟩:aM),(⟨3,0⟩:aM)].length=2,aZ 2 2 (kg 2 [.int .i64 2,.int .i64 1,.int .i64 3,.int .i64 0]) (aS aM.cell [(⟨2,1⟩:aM),(⟨3,0⟩:aM)])])::(gP (L8 u0 u2 u1 u4 v5 w1) [(25,false)])::(OH u0 u2 u1 u4 v5)::(gP (L8 u0 u2 u1 u4 v5 w1) [(25,false)]→All [Fn Try.prog 38 [sD (Rj u2),.one (.own 110 true ([(⟨2,1⟩:aM),(⟨3,0⟩:aM)].length))] [(110,some (bW 117 2 aM.cell [(⟨2,1⟩:aM),(⟨3,0⟩:aM)]))] (vB w1) [(110,some (bW 117 2 aM.cell [(⟨2,1⟩:aM),(⟨3,0⟩:aM)]))]])::(OH u0 u2 u1 u4 v5)::(OH u0 u2 u1 u4 v5)::(eqs (TY u0 u2 u1 u4 v5 w1) 5 ((gP (L8 u0 u2 u1 u4 v5 w1) [(33,false)]→All [Fn Try.prog 49 (adz u3 u0) [] (vI x5) []])::(eqs (TY u0 u2 u1 u4 v5 w1) 2 [])))))))))) {yb:=[(2,!decide (u0.2.2=0)),(6,KA u0 u1),(10,FL u0 u2 u1),(15,LC u0 u2 u1 u4),(19,false),(25,false),(33,TY u0 u2 u1 u4 v5 w1)],an:=[(12, .call [] (vI u4) []),(21, .arr [true,false,false].length (aS aF [true,false,false])),(22, .callR [109] (vB v5)),(29, .arr [(⟨2,1⟩:aM),(⟨3,0⟩:aM)].length (aS aM.cell [(⟨2,1⟩:aM),(⟨3,0⟩:aM)])),(30, .callR [110] (vB w1)),(38, .call [] (vI x5) [])],fr:=[(21,109),(29,110)] } [] (ae (ae (ae ⟨(fun hg=> ⟨fK u0.1 (d9 hr_9 (bC hg)),trivial⟩),ae (ae ⟨hb1,hb1,(fun hg=> ⟨rfl,(by intro i hi j hj;match i,j,hi,hj with|0,0,_,_=>rfl|1,0,_,_=>rfl|2,0,_,_=>rfl),trivial⟩),⟨rfl,trivial⟩,hb1,(fun hg=> ⟨Fn.zy (frz:=[109]) (p:=[[true,false,false].length=[true,false,false].length]) (Fn.le (args':=[sD (K8 u0),sD (bJ (some true) 1 aF [true,false,false])]) (dH u0.2.1 [true,false,false] hr_23) ⟨fG.refl _,fG.one (eZ.d iM.qB),trivial⟩) (by kernel_rfl) ⟨rfl,trivial⟩ rfl,trivial⟩),hb1,hb1,hb11,hb11,hb11,hb11,(fun hg=> ⟨rfl,(by intro i hi j hj;match i,j,hi,hj with|0,0,_,_=>rfl|0,1,_,_=>rfl|1,0,_,_=>rfl|1,1,_,_=>rfl),trivial⟩),⟨rfl,trivial⟩,hb11,(fun hg=> ⟨Fn.zy (frz:=[110]) (p:=[[(⟨2,1⟩:aM),(⟨3,0⟩:aM)].length=[(⟨2,1⟩:aM),(⟨3,0⟩:aM)].length]) (Fn.le (args':=(aeR u2)) (qY u2.1 [(⟨2,1⟩:aM),(⟨3,0⟩:aM)] hr_30) ⟨fG.refl _,fG.one (eZ.d iM.qB),trivial⟩) (by kernel_rfl) ⟨rfl,trivial⟩ rfl,trivial⟩),hb11,hb11,ae ⟨(fun hg=> ⟨oL u3.1 u3.2 u0.1 u0.2.1 (d9 hr_31 (bC hg)),trivial⟩),ae trivial⟩⟩)⟩))) ?_
     refine bI h (fun hb19 h=> ?_) (fun hb19 h=> ?_)
     ·refine ct hb19 ?_
      refine sz tT ⟨[(0,vB false)],[]⟩ {} [] ?_
      refine aR ?_
      obtain rfl:=oi h
      exact rl [sB false]
     ·refine cf hb19 ?_
      refine aP (aQ (bE h fun u8 hr_32 h=> ?_))
      have q0:=qa u3.1 u3.2 1 hr_32
      refine rg tT (ad9 u3 u8) [_] {an:=[(2,cA q0 [])] } [] ⟨q0,trivial⟩ ?_
      refine aQ (bE h fun v3 hr_33 h=> ?_)
      have q0:=oK u3.1 u8.1 hr_33
      refine rg tT (acS u8 v3) [_] {an:=[(2,cA q0 [])] } [] ⟨q0,trivial⟩ ?_
      refine aQ ?_
      refine bI h (fun hb16 h=> ?_) (fun hb16 h=> ?_)
      ·skip
       refine bE h fun w2 hr_34 h=> ?_
       refine bI h (fun hb17 h=> ?_) (fun hb17 h=> ?_)
       ·skip
        refine bE h fun w9 hr_35 h=> ?_
        refine ri tT (aes u8 v3 w2 w9) (eqs (decide (u8.2=0)) 3 [(dB u8 v3)=true,(dB u8 v3)=true,gP (qJ u8) [(6,true)]→All [[0].length=1,aZ 1 1 (kg 1 [.int .i64 0]) (aS (aT .i64) [0])],(dB u8 v3)=true,(dB u8 v3)=true,gP (qJ u8) [(6,true)]→All [[1].length=1,aZ 1 1 (kg 1 [.int .i64 1]) (aS (aT .i64) [1])],(dB u8 v3)=true,(dB u8 v3)=true,gP (qJ u8) [(6,true)]→All [[(⟨0,30,13334,[0]⟩:aJ),(⟨1,50,8000,[1]⟩:aJ)].length=2,aZ 2 4 (kg 4 qi) (kg 4 qi)],gP (qJ u8) [(6,true)],(dB u8 v3)=true,gP (qJ u8) [(6,true)]→All [Fn Try.prog 52 [sD (Oc u8),.one (.own 116 true ([(⟨0,30,13334,[0]⟩:aJ),(⟨1,50,8000,[1]⟩:aJ)].length))] afp (vB w2) afp],(dB u8 v3)=true,(pI u8 v3 w2)=true,(pI u8 v3 w2)=true,gP (qJ u8) [(15,true)]→All [[13334,8000].length=2,aZ 2 1 (kg 1 UI) (aS (aT .i64) [13334,8000])],gP (qJ u8) [(15,true)],(pI u8 v3 w2)=true,gP (qJ u8) [(15,true)]→All [Fn Try.prog 54 [sD (Qe v3),.one (.own 117 true ([13334,8000].length))] [(117,some Gg)] (vB w9) [(117,some Gg)]],(pI u8 v3 w2)=true]) {yb:=[(2,decide (u8.2=0)),(6,true),(15,true)],an:=[(8, .frz [0].length (aS (aT .i64) [0])),(10, .frz [1].length (aS (aT .i64) [1])),(12, .arr [(⟨0,30,13334,[0]⟩:aJ),(⟨1,50,8000,[1]⟩:aJ)].length (kg 4 qi)),(13, .callR [116] (vB w2)),(17, .arr [13334,8000].length (aS (aT .i64) [13334,8000])),(18, .callR [117] (vB w9))],fr:=[(12,116),(17,117)] } [] (ae ⟨hb16,hb16,(fun hg=> ⟨rfl,(by intro i hi j hj;match i,j,hi,hj with|0,0,_,_=>rfl),trivial⟩),hb16,hb16,(fun hg=> ⟨rfl,(by intro i hi j hj;match i,j,hi,hj with|0,0,_,_=>rfl),trivial⟩),hb16,hb16,(fun hg=> ⟨rfl,fQ _ _ _,trivial⟩),⟨rfl,trivial⟩,hb16,(fun hg=> ⟨Fn.zy (frz:=[116]) (p:=[[(⟨0,30,13334,[0]⟩:aJ),(⟨1,50,8000,[1]⟩:aJ)].length=[(⟨0,30,13334,[0]⟩:aJ),(⟨1,50,8000,[1]⟩:aJ)].length]) (Fn.le (args':=(SX u8)) (dS u8.1 [(⟨0,30,13334,[0]⟩:aJ),(⟨1,50,8000,[1]⟩:aJ)] hr_34) ⟨fG.refl _,fG.one (eZ.d (iM.sl (.inl rfl) (by intro i hi j hj;match i,j,hi,hj with|0,0,_,_=>exact .refl _|0,1,_,_=>exact .refl _|0,2,_,_=>exact .refl _|0,3,_,_=>exact iM.qB|1,0,_,_=>exact .refl _|1,1,_,_=>exact .refl _|1,2,_,_=>exact .refl _|1,3,_,_=>exact iM.qB))),trivial⟩) (by kernel_rfl) ⟨rfl,trivial⟩ rfl,trivial⟩),hb16,hb17,hb17,(fun hg=> ⟨rfl,(by intro i hi j hj;match i,j,hi,hj with|0,0,_,_=>rfl|1,0,_,_=>rfl),trivial⟩),⟨rfl,trivial⟩,hb17,(fun hg=> ⟨Fn.zy (frz:=[117]) (p:=[[13334,8000].length=[13334,8000].length]) (Fn.le (args':=(UC v3)) (eY v3.1 [13334,8000] hr_35) ⟨fG.one (eZ.d iM.qB),fG.one (eZ.d iM.qB),trivial⟩) (by kernel_rfl) ⟨rfl,trivial⟩ rfl,trivial⟩),hb17,trivial⟩) (cO.le (st':=⟨[(0,vB w9)],[]⟩) ⟨⟨⟨_,rfl,eB.v (fG.one (eZ.of (congrArg (fun b=>CV.d (.bool b)) (Gz hb17))))⟩,trivial⟩,trivial⟩) ?_
        refine aR ?_
        obtain rfl:=oi h
        exact rl [sB w9]
       ·skip
        refine ri tT (adx u8 v3 w2) (eqs (decide (u8.2=0)) 3 [(dB u8 v3)=true,(dB u8 v3)=true,gP (qz u8) [(6,true)]→All [[0].length=1,aZ 1 1 (kg 1 [.int .i64 0]) (aS (aT .i64) [0])],(dB u8 v3)=true,(dB u8 v3)=true,gP (qz u8) [(6,true)]→All [[1].length=1,aZ 1 1 (kg 1 [.int .i64 1]) (aS (aT .i64) [1])],(dB u8 v3)=true,(dB u8 v3)=true,gP (qz u8) [(6,true)]→All [[(⟨0,30,13334,[0]⟩:aJ),(⟨1,50,8000,[1]⟩:aJ)].length=2,aZ 2 4 (kg 4 qi) (kg 4 qi)],gP (qz u8) [(6,true)],(dB u8 v3)=true,gP (qz u8) [(6,true)]→All [Fn Try.prog 52 [sD (Oc u8),.one (.own 120 true ([(⟨0,30,13334,[0]⟩:aJ),(⟨1,50,8000,[1]⟩:aJ)].length))] afo (vB w2) afo],(dB u8 v3)=true,(pI u8 v3 w2)=false, ¬ gP (qz u8) [(15,true)],(pI u8 v3 w2)=false, ¬ gP (qz u8) [(15,true)],(pI u8 v3 w2)=false, ¬ gP (qz u8) [(15,true)],(pI u8 v3 w2)=false]) {yb:=[(2,decide (u8.2=0)),(6,true),(15,false)],an:=[(8, .frz [0].length (aS (aT .i64) [0])),(10, .frz [1].length (aS (aT .i64) [1])),(12, .arr [(⟨0,30,13334,[0]⟩:aJ),(⟨1,50,8000,[1]⟩:aJ)].length (kg 4 qi)),(13, .callR [120] (vB w2)),(16, .skip),(17, .skip),(18, .skip)],fr:=[(12,120)] } [] (ae ⟨hb16,hb16,(fun hg=> ⟨rfl,(by intro i hi j hj;match i,j,hi,hj with|0,0,_,_=>rfl),trivial⟩),hb16,hb16,(fun hg=> ⟨rfl,(by intro i hi j hj;match i,j,hi,hj with|0,0,_,_=>rfl),trivial⟩),hb16,hb16,(fun hg=> ⟨rfl,fQ _ _ _,trivial⟩),⟨rfl,trivial⟩,hb16,(fun hg=> ⟨Fn.zy (frz:=[120]) (p:=[[(⟨0,30,13334,[0]⟩:aJ),(⟨1,50,8000,[1]⟩:aJ)].length=[(⟨0,30,13334,[0]⟩:aJ),(⟨1,50,8000,[1]⟩:aJ)].length]) (Fn.le (args':=(SX u8)) (dS u8.1 [(⟨0,30,13334,[0]⟩:aJ),(⟨1,50,8000,[1]⟩:aJ)] hr_34) ⟨fG.refl _,fG.one (eZ.d (iM.sl (.inl rfl) (by intro i hi j hj;match i,j,hi,hj with|0,0,_,_=>exact .refl _|0,1,_,_=>exact .refl _|0,2,_,_=>exact .refl _|0,3,_,_=>exact iM.qB|1,0,_,_=>exact .refl _|1,1,_,_=>exact .refl _|1,2,_,_=>exact .refl _|1,3,_,_=>exact iM.qB))),trivial⟩) (by kernel_rfl) ⟨rfl,trivial⟩ rfl,trivial⟩),hb16,hb17,(fun h=>Bool.noConfusion (show false=true from h.1)),hb17,(fun h=>Bool.noConfusion (show false=true from h.1)),hb17,(fun h=>Bool.noConfusion (show false=true from h.1)),hb17,trivial⟩) (cO.le (st':=⟨[(0,vB false)],[]⟩) ⟨⟨⟨_,rfl,eB.v (fG.one (eZ.of (congrArg (fun b=>CV.d (.bool b)) (FV hb17))))⟩,trivial⟩,trivial⟩) ?_
        refine aR ?_
        obtain rfl:=oi h
        exact rl [sB false]
      ·skip
       refine bI h (fun hb18 h=> ?_) (fun hb18 h=> ?_)
       ·skip
        refine bE h fun x0 hr_36 h=> ?_
        refine ri tT (adP u8 v3 x0) (eqs (decide (u8.2=0)) 3 [(dB u8 v3)=false, ¬ gP (mq u8) [(6,true)],(dB u8 v3)=false, ¬ gP (mq u8) [(6,true)],(dB u8 v3)=false, ¬ gP (mq u8) [(6,true)],(dB u8 v3)=false, ¬ gP (mq u8) [(6,true)],(dB u8 v3)=false, ¬ gP (mq u8) [(6,true)],(dB u8 v3)=false, ¬ gP (mq u8) [(6,true)],(dB u8 v3)=false, ¬ gP (mq u8) [(6,true)],(dB u8 v3)=false,(zS u8 v3)=true,(zS u8 v3)=true,gP (mq u8) [(15,true)]→All [[13334,8000].length=2,aZ 2 1 (kg 1 UI) (aS (aT .i64) [13334,8000])],gP (mq u8) [(15,true)],(zS u8 v3)=true,gP (mq u8) [(15,true)]→All [Fn Try.prog 54 [sD (Qe v3),.one (.own 121 true ([13334,8000].length))] [(121,some Gg)] (vB x0) [(121,some Gg)]],(zS u8 v3)=true]) {yb:=[(2,decide (u8.2=0)),(6,false),(15,true)],an:=[(7, .skip),(8, .skip),(9, .skip),(10, .skip),(11, .skip),(12, .skip),(13, .skip),(17, .arr [13334,8000].length (aS (aT .i64) [13334,8000])),(18, .callR [121] (vB x0))],fr:=[(17,121)] } [] (ae ⟨hb16,(fun h=>Bool.noConfusion (show false=true from h.1)),hb16,(fun h=>Bool.noConfusion (show false=true from h.1)),hb16,(fun h=>Bool.noConfusion (show false=true from h.1)),hb16,(fun h=>Bool.noConfusion (show false=true from h.1)),hb16,(fun h=>Bool.noConfusion (show false=true from h.1)),hb16,(fun h=>Bool.noConfusion (show false=true from h.1)),hb16,(fun h=>Bool.noConfusion (show false=true from h.1)),hb16,hb18,hb18,(fun hg=> ⟨rfl,(by intro i hi j hj;match i,j,hi,hj with|0,0,_,_=>rfl|1,0,_,_=>rfl),trivial⟩),⟨rfl,trivial⟩,hb18,(fun hg=> ⟨Fn.zy (frz:=[121]) (p:=[[13334,8000].length=[13334,8000].length]) (Fn.le (args':=(UC v3)) (eY v3.1 [13334,8000] hr_36) ⟨fG.one (eZ.d iM.qB),fG.one (eZ.d iM.qB),trivial⟩) (by kernel_rfl) ⟨rfl,trivial⟩ rfl,trivial⟩),hb18,trivial⟩) (cO.le (st':=⟨[(0,vB x0)],[]⟩) ⟨⟨⟨_,rfl,eB.v (fG.one (eZ.of (congrArg (fun b=>CV.d (.bool b)) (Gz hb18))))⟩,trivial⟩,trivial⟩) ?_
        refine aR ?_
        obtain rfl:=oi h
        exact rl [sB x0]
       ·skip
        refine ri tT (ad6 u8 v3) (ada u8 v3) {yb:=[(2,decide (u8.2=0)),(6,false),(15,false)],an:=[(7, .skip),(8, .skip),(9, .skip),(10, .skip),(11, .skip),(12, .skip),(13, .skip),(16, .skip),(17, .skip),(18, .skip)] } [] (ae ⟨hb16,(fun h=>Bool.noConfusion (show false=true from h.1)),hb16,(fun h=>Bool.noConfusion (show false=true from h.1)),hb16,(fun h=>Bool.noConfusion (show false=true from h.1)),hb16,(fun h=>Bool.noConfusion (show false=true from h.1)),hb16,(fun h=>Bool.noConfusion (show false=true from h.1)),hb16,(fun h=>Bool.noConfusion (show false=true from h.1)),hb16,(fun h=>Bool.noConfusion (show false=true from h.1)),hb16,hb18,(fun h=>Bool.noConfusion (show false=true from h.1)),hb18,(fun h=>Bool.noConfusion (show false=true from h.1)),hb18,(fun h=>Bool.noConfusion (show false=true from h.1)),hb18,trivial⟩) (cO.le (st':=⟨[(0,vB false)],[]⟩) ⟨⟨⟨_,rfl,eB.v (fG.one (eZ.of (congrArg (fun b=>CV.d (.bool b)) (FV hb18))))⟩,trivial⟩,trivial⟩) ?_
        refine aR ?_
        obtain rfl:=oi h
        exact rl [sB false]
def Fs  :(List dV)→Exit→St→Prop:=
  fun r=>bL TT [.tmp 2] (vO 0 false r.length) [(0,some (bW 148 2 dV.cell r))]
section
variable (l:List dV)
abbrev JQ:Nat × TV:=(0,vD (bJ none 2 dV.cell l))
end
theorem Eo (l:List dV) {r:List dV} (h:qU l=some r):Fn Try.prog 147 [sD (bJ none 2 dV.cell l)] [] (vO 0 false r.length) [(0,some (bW 148 2 dV.cell r))]:=by
 refine fN tT Try.func147 rfl rfl fun B=> ?_
 show bR _ _ _ _ _ _ (Fs r) _
 unfold qU at h
 refine sz tT ⟨[JQ l],[]⟩ {} [] ?_
 refine sz tT ⟨[JQ l,(3,vD nS)],[]⟩ {} [] ?_
 refine aQ (aO h fun⟨a1,a2⟩ h=> ?_)
 refine rg tT ⟨[(2,vO 1 false l.length)],[(1,some (bW 148 2 dV.cell l))]⟩ [_,_,l.length=l.length,aZ l.length 2 (aS dV.cell l) (aS dV.cell l)] {an:=[(2, .arr l.length (aS dV.cell l))],fr:=[(2,1)] } [] ⟨a1,a2,rfl,fQ _ _ _,trivial⟩ ?_
 refine aI (cO.fin (st':=⟨[(2,vO 0 false l.length)],[(0,some (bW 148 2 dV.cell l))]⟩) (cs:=[]) ⟨[],[(1,0)]⟩ [2] (by kernel_rfl) trivial) ?_
 refine aR ?_
 obtain rfl:=oi h
 exact rl [.one (.own 0 false l.length)]
def K4  :aH→Exit→St→Prop:=
  fun r=>bL TT [.cell 2 53] (.v (.agg [cI r.a,cI r.b,cI r.kind,cI r.most,cI r.gM,.d (bJ none 2 dV.cell r.trip)])) []
theorem Kb (x:aH) {r:aH} (h:pu x=some r):Fn Try.prog 120 [.agg (k21 x)] [] (.v (.agg [cI r.a,cI r.b,cI r.kind,cI r.most,cI r.gM,.d (bJ none 2 dV.cell r.trip)])) []:=by
 refine fN tT Try.func120 rfl rfl fun B=> ?_
 show bR _ _ _ _ _ _ (K4 r) _
 unfold pu at h
 refine sz tT ⟨[(1,vP 3 0),(2,vP 4 0)],[(3,some (k20 x)),(4,some (.cells 53 [cI 0,cI 0,cI 0,cI 0,cI 0,.d nS]))]⟩ {fr:=[(0,3),(1,4)] } [] ?_
 refine aQ (bE h fun r_ hr_ h=> ?_)
 have q0:=rk [(0,5)] (Eo x.trip hr_)
 refine di tT mX ⟨[(2,vP 4 0)],[(4,some (.cells 53 [cI x.a,cI x.b,cI x.kind,cI x.most,cI x.gM,.d (bJ none 2 dV.cell r_)]))]⟩ [_,r_.length=r_.length] {an:=[(12,cA q0 [])] } [5] ⟨q0,rfl,trivial⟩ (fz ⟨[(2,vD (ow [.int .i64 x.a,.int .i64 x.b,.int .i64 x.kind,.int .i64 x.most,.int .i64 x.gM,bJ none 2 dV.cell r_] 0))],[]⟩ [4]) ?_
 refine aR ?_
 obtain rfl:=oi h
 exact rl [.agg [cI x.a,cI x.b,cI x.kind,cI x.most,cI x.gM,.d (bJ none 2 dV.cell r_)]]
def Cv  :(List ay)→Exit→St→Prop:=
  fun r=>bL TT [.tmp 2] (vO 0 false r.length) [(0,some (bW 126 5 ay.cell r))]
theorem Cb (l:List ay) {r:List ay} (h:ol l=some r):Fn Try.prog 74 [sD (Z7 l)] [] (vO 0 false r.length) [(0,some (bW 126 5 ay.cell r))]:=by
 refine fN tT Try.func74 rfl rfl fun B=> ?_
 show bR _ _ _ _ _ _ (Cv r) _
 unfold ol at h
 refine sz tT ⟨[EK l],[]⟩ {} [] ?_
 refine sz tT ⟨[EK l,(3,vD nS)],[]⟩ {} [] ?_
 refine aQ (aO h fun⟨a1,a2⟩ h=> ?_)
 refine rg tT ⟨[(2,vO 1 false l.length)],[(1,some (bW 126 5 ay.cell l))]⟩ [_,_,l.length=l.length,aZ l.length 5 (aS ay.cell l) (aS ay.cell l)] {an:=[(2, .arr l.length (aS ay.cell l))],fr:=[(2,1)] } [] ⟨a1,a2,rfl,fQ _ _ _,trivial⟩ ?_
 refine aI (cO.fin (st':=⟨[(2,vO 0 false l.length)],[(0,some (bW 126 5 ay.cell l))]⟩) (cs:=[]) ⟨[],[(1,0)]⟩ [2] (by kernel_rfl) trivial) ?_
 refine aR ?_
 obtain rfl:=oi h
 exact rl [.one (.own 0 false l.length)]
def pF  :(List aH)→Exit→St→Prop:=
  fun r=>bL TT [.tmp 2] (vO 0 false r.length) [(0,some (bW 53 6 aH.cell r))]
def uh (l:List aH):((List aH) × Int)→St:=
  fun zz=>match zz with|(u0,i)=> ⟨[vT l,(3,vO 9 false u0.length),(4,vI i)],[(9,some (bW 53 6 aH.cell u0))]⟩
def tY  :(List aH)→St:=
  fun u0=> ⟨[(3,vO 9 false u0.length)],[(9,some (bW 53 6 aH.cell u0))]⟩
def Ej (l:List aH):(aY ((List aH) × Int) (Ex (List aH) (List aH)))→Exit→St→Prop:=
  LQ 0 [] (uh l) tY pF
theorem Ep (l:List aH) {r:List aH} (h:qO l=some r):Fn Try.prog 75 [sD (k92 l)] [] (vO 0 false r.length) [(0,some (bW 53 6 aH.cell r))]:=by
 refine fN tT Try.func75 rfl rfl fun B=> ?_
 show bR _ _ _ _ _ _ (pF r) _
 unfold qO at h
 refine sz tT ⟨[vT l],[]⟩ {} [] ?_
 refine sz tT ⟨[vT l,(3,vD nS)],[]⟩ {} [] ?_
 refine aQ (sz tT ⟨[vT l,(3,vD nS),(4,vI 0)],[]⟩ {} [] ?_)
 refine bE h fun y hy h=> ?_
 refine aI (.trans (cO.UF (t:=3) (b:=16) (esz0:=0) (el0:=fun _ _=> .nilp) (E:=53) (esz:=6) (el:=aS aH.cell ([]:List aH)) (by kernel_rfl) (by kernel_rfl)) (.trans (cO.fin (st':=⟨[vT l,(3,vO 9 false 0),(4,vI 0)],[(9,some (.arr 53 6 0 (aS aH.cell ([]:List aH))))]⟩) (cs:=[]) ⟨[],[(16,9)]⟩ [0,3,4] (by kernel_rfl) trivial) (cO.le (st':=⟨[vT l,(3,vO 9 false (([]:List aH).length)),(4,vI 0)],[(9,some (bW 53 6 aH.cell ([]:List aH)))]⟩) ⟨⟨tR,⟨_,rfl,eB.v (fG.one cW)⟩,tR,trivial⟩,⟨rfl,oW,trivial⟩⟩))) ?_
 refine aL [] (uh l) tY pF hy (fun s f h=> ?_) ?_
 ·clear hy
  show bR _ _ _ _ _ _ ((Ej l) f) _
  unfold gK at h
  obtain⟨u0,i⟩:=s
  refine aQ (sz tT ⟨[vT l,(3,vO 9 false u0.length),(4,vI i),(8,vB (decide (i<(l.length:Int))))],[(9,some (bW 53 6 aH.cell u0))]⟩ {} [] ?_)
  refine bI h (fun hb h=> ?_) (fun hb h=> ?_)
  ·refine ct hb ?_
   refine aP (aQ (aB (bE h fun r_ hr_ h=> ?_)))
   refine aO h fun⟨a1,a2,a3⟩ h=> ?_
   have q1:=Kb (at' l i.toNat) hr_
   refine rg tT ⟨[vT l,(3,vO 15 false ((u0++[r_]).length)),(4,vI i)],[(15,some (bW 53 6 aH.cell (u0++[r_])))]⟩ [_,_,[r_].length=1,aZ 1 6 (kg 6 (aiw r_)) (aS aH.cell [r_]),u0.length=u0.length,_,_,(u0++[r_]).length=u0.length+[r_].length,aZ (u0.length+[r_].length) 6 (Ff (aS aH.cell u0) u0.length (aS aH.cell [r_])) (aS aH.cell (u0++[r_]))] {an:=[(5,cA q1 []),(6, .arr [r_].length (aS aH.cell [r_])),(7, .arr (u0++[r_]).length (aS aH.cell (u0++[r_])))],fr:=[(6,14),(7,15)] } [] ⟨a1,q1,rfl,(by intro i hi j hj;match i,j,hi,hj with|0,0,_,_=>rfl|0,1,_,_=>rfl|0,2,_,_=>rfl|0,3,_,_=>rfl|0,4,_,_=>rfl|0,5,_,_=>rfl),rfl,a2,a3,List.length_append,kz _ _ _ _,trivial⟩ ?_
   refine ri tT ⟨[vT l,(3,vO 15 false ((u0++[r_]).length)),(4,k3 i)],[(15,some (bW 53 6 aH.cell (u0++[r_])))]⟩ [] {} [] trivial (cO.fin (st':=⟨[vT l,(3,vO 9 false ((u0++[r_]).length)),(4,k3 i)],[(9,some (bW 53 6 aH.cell (u0++[r_])))]⟩) (cs:=[]) ⟨[],[(15,9)]⟩ [0,3,4] (by kernel_rfl) trivial) ?_
   obtain rfl:=oi h
   exact lN
  ·refine cf hb ?_
   refine aI (fz ⟨[(3,vO 9 false u0.length)],[(9,some (bW 53 6 aH.cell u0))]⟩ []) ?_
   refine aX ?_
   obtain rfl:=oi h
   exact lB
 ·clear hy
  cases y with
  |brk z=>
   obtain⟨u1,rfl⟩: ∃q,q=z:=⟨_,rfl⟩
   unfold dZ
   refine⟨_, .refl, ?_⟩
   refine sz tT ⟨[(2,vO 9 false u1.length)],[(9,some (bW 53 6 aH.cell u1))]⟩ {} [] ?_
   refine aI (cO.fin (st':=⟨[(2,vO 0 false u1.length)],[(0,some (bW 53 6 aH.cell u1))]⟩) (cs:=[]) ⟨[],[(9,0)]⟩ [2] (by kernel_rfl) trivial) ?_
   refine aR ?_
   obtain rfl:=oi h
   exact rl [.one (.own 0 false u1.length)]
  |ret v=>
   obtain rfl:=oi h
   unfold dZ
   intro e st hn ha hR
   cases e with
   |normal=>exact absurd rfl hn
   |exit id=>exact hR
   |goto l=>exact hR
   |ret=>exact hR
   |panic c=>exact hR
   |outgrown=>exact hR
def EQ  :(List aK)→Exit→St→Prop:=
  fun r=>bL TT [.tmp 2] (vO 0 false r.length) [(0,some (bW 166 4 aK.cell r))]
theorem En (l:List aK) {r:List aK} (h:qM l=some r):Fn Try.prog 76 [sD (Wq l)] [] (vO 0 false r.length) [(0,some (bW 166 4 aK.cell r))]:=by
 refine fN tT Try.func76 rfl rfl fun B=> ?_
 show bR _ _ _ _ _ _ (EQ r) _
 unfold qM at h
 refine sz tT ⟨[Fa l],[]⟩ {} [] ?_
 refine sz tT ⟨[Fa l,(3,vD nS)],[]⟩ {} [] ?_
 refine aQ (aO h fun⟨a1,a2⟩ h=> ?_)
 refine rg tT ⟨[(2,vO 1 false l.length)],[(1,some (bW 166 4 aK.cell l))]⟩ [_,_,l.length=l.length,aZ l.length 4 (aS aK.cell l) (aS aK.cell l)] {an:=[(2, .arr l.length (aS aK.cell l))],fr:=[(2,1)] } [] ⟨a1,a2,rfl,fQ _ _ _,trivial⟩ ?_
 refine aI (cO.fin (st':=⟨[(2,vO 0 false l.length)],[(0,some (bW 166 4 aK.cell l))]⟩) (cs:=[]) ⟨[],[(1,0)]⟩ [2] (by kernel_rfl) trivial) ?_
 refine aR ?_
 obtain rfl:=oi h
 exact rl [.one (.own 0 false l.length)]
def wC  :Bool→Exit→St→Prop:=
  fun r=>bL TT [.tmp 4] (vB r) []
section
variable (p:au)
abbrev OT:Nat × TV:=(5,vI (p.ai.length:Int))
end
def BG (p:au) (s_:aA):Int→St:=
  fun i=> ⟨[k26 p,k10 s_,OT p,(8,vI i)],[]⟩
def Ci  :Unit→St:=
  fun _=> ⟨[],[]⟩
def Kw (p:au) (s_:aA):(aY Int (Ex Unit Bool))→Exit→St→Prop:=
  LQ 0 [] (BG p s_) Ci wC
section
variable (s_:aA) (p:au) (i:Int)
abbrev abN:=(!decide ((s_.bH.length:Int)=(p.ai.length:Int)))
abbrev aaE:=(bif (abN s_ p)then true else(!decide ((s_.bZ.length:Int)=(p.ai.length:Int))))
abbrev aa8:=(bif (aaE s_ p)then true else(!decide ((s_.bN.length:Int)=(p.ai.length:Int))))
abbrev abE:=(bif (aa8 s_ p)then true else(!decide ((s_.on_.length:Int)=(p.ah.length:Int))))
abbrev abA:=(bif (abE s_ p)then true else(!decide ((s_.bD.length:Int)=(p.ah.length:Int))))
abbrev aa6:=(bif (abA s_ p)then true else(!decide ((s_.cK.length:Int)=p.ax)))
abbrev abD:=(gY [(7,FD p i),(14,Ie s_ i)])
end
theorem K5 (p:au) (s_:aA) {r:Bool} (h:qD p s_=some r):Fn Try.prog 85 (Ms p s_) [] (vB r) []:=by
 refine fN tT Try.func85 rfl rfl fun B=> ?_
 show bR _ _ _ _ _ _ (wC r) _
 unfold qD at h
 refine sz tT (Wh p s_) {fr:=[(0,2),(1,3)] } [2,3] ?_
 refine sd tT mX ⟨[k26 p,k10 s_,OT p,(6,vI (p.ah.length:Int)),(7,vI p.ax)],[]⟩ [] {} [] trivial ?_
 refine aQ (sg tT ⟨[k26 p,k10 s_,OT p,(63,vB (bif (aa6 s_ p)then true else(!decide ((s_.aW.length:Int)=p.ax))))],[]⟩ (eqs (abN s_ p) 6 (eqs (aaE s_ p) 6 (eqs (aa8 s_ p) 6 (eqs (abE s_ p) 6 (eqs (abA s_ p) 6 (eqs (aa6 s_ p) 6 [])))))) {yb:=[(5,abN s_ p),(12,aaE s_ p),(19,aa8 s_ p),(26,abE s_ p),(33,abA s_ p),(40,aa6 s_ p)] } [] (ae (ae (ae (ae (ae (ae trivial)))))) ?_)
 refine bI h (fun hb2 h=> ?_) (fun hb2 h=> ?_)
 ·refine ct hb2 ?_
  refine sz tT ⟨[(4,vB false)],[]⟩ {} [] ?_
  refine aR ?_
  obtain rfl:=oi h
  exact rl [sB false]
 ·refine cf hb2 ?_
  refine aP (aQ (sz tT ⟨[k26 p,k10 s_,OT p,(8,vI 0)],[]⟩ {} [] ?_))
  refine bE h fun y hy h=> ?_
  refine aL [] (BG p s_) Ci wC hy (fun s f h=> ?_) ?_
  ·clear hy
   show bR _ _ _ _ _ _ ((Kw p s_) f) _
   unfold lG at h
   obtain⟨i,rfl⟩: ∃q,q=s:=⟨_,rfl⟩
   refine aQ (sz tT ⟨[k26 p,k10 s_,OT p,(8,vI i),(66,k65 p i)],[]⟩ {} [] ?_)
   refine bI h (fun hb1 h=> ?_) (fun hb1 h=> ?_)
   ·refine ct hb1 ?_
    refine aP (aQ (aB (aQ (aO h fun⟨a1,a2,a3⟩ h=> ?_))))
    refine rg tT ⟨[k26 p,k10 s_,OT p,(8,vI i),(90,ajK p s_ i)],[]⟩ (_::(eqs (FD p i) 4 ((gP (abD s_ p i) [(7,true)]→All [(0:Int)≤i∧i<(s_.bH.length:Int)])::(eqs (FD p i) 3 (eqs (Ie s_ i) 4 [gP (abD s_ p i) [(14,false),(7,true)]→All [(0:Int)≤i∧i<(s_.bZ.length:Int)],(Ie s_ i)=(Ie s_ i),(FD p i)=(FD p i),gP (abD s_ p i) [(7,true)]→All [(Ie s_ i)=(Ie s_ i)],(FD p i)=(FD p i)]))))) {yb:=[(7,FD p i),(14,Ie s_ i)] } [] ⟨a1,ae ⟨(fun hg=> ⟨a2 (bC hg),trivial⟩),ae (ae ⟨(fun hg=> ⟨a3 (bC hg),trivial⟩),rfl,rfl,(fun hg=> ⟨rfl,trivial⟩),rfl,trivial⟩)⟩⟩ ?_
    refine bI h (fun hb h=> ?_) (fun hb h=> ?_)
    ·refine ct hb ?_
     refine sz tT ⟨[(4,vB false)],[]⟩ {} [] ?_
     refine aR ?_
     obtain rfl:=oi h
     exact lR dw (dm 0) dz (bL.mk (.inr rfl) (p:=[]) (l:=[sB false]) (by kernel_rfl) trivial (eB.refl _) trivial)
    ·refine cf hb ?_
     refine aP (rz tT ⟨[k26 p,k10 s_,OT p,Hz i],[]⟩ {} [] ?_)
     obtain rfl:=oi h
     exact lN
   ·refine cf hb1 ?_
    refine aI (fz ⟨[],[]⟩ []) ?_
    refine aX ?_
    obtain rfl:=oi h
    exact lB
  ·clear hy
   cases y with
   |brk z=>
    unfold dZ
    refine⟨_, .refl, ?_⟩
    refine sz tT ⟨[(4,vB true)],[]⟩ {} [] ?_
    refine aR ?_
    obtain rfl:=oi h
    exact rl [sB true]
   |ret v=>
    obtain rfl:=oi h
    unfold dZ
    intro e st hn ha hR
    cases e with
    |normal=>exact absurd rfl hn
    |exit id=>exact hR
    |goto l=>exact hR
    |ret=>exact hR
    |panic c=>exact hR
    |outgrown=>exact hR
def FB  :Int→Exit→St→Prop:=
  fun r=>bL TT [.tmp 4] (vI r) []
theorem jU (p:au) (s_:aA) {r:Int} (h:fq p s_=some r):Fn Try.prog 37 (Ms p s_) [] (vI r) []:=by
 refine fN tT Try.func37 rfl rfl fun B=> ?_
 show bR _ _ _ _ _ _ (FB r) _
 unfold fq at h
 refine sz tT (Wh p s_) {fr:=[(0,2),(1,3)] } [2,3] ?_
 refine aQ (bE h fun r_ hr_ h=> ?_)
 have q0:=Bu p hr_
 refine rg tT ⟨[k26 p,k10 s_,(5,vI r_)],[]⟩ [_] {an:=[(1,cA q0 [])] } [] ⟨q0,trivial⟩ ?_
 refine aQ (aQ (bE h fun u0 hr_1 h=> ?_))
 refine rg tT ⟨[(5,vI r_),(15,vB (bif (decide (r_=0))then(!u0)else false))],[]⟩ (eqs (decide (r_=0)) 3 ((gP (gY [(2,decide (r_=0))]) [(2,true)]→All [Fn Try.prog 85 (Ms p s_) [] (vB u0) []])::(eqs (decide (r_=0)) 2 []))) {yb:=[(2,decide (r_=0))],an:=[(5, .call [] (vB u0) [])] } [] (ae ⟨(fun hg=> ⟨K5 p s_ (d9 hr_1 (bC hg)),trivial⟩),ae trivial⟩) ?_
 refine bI h (fun hb h=> ?_) (fun hb h=> ?_)
 ·refine ct hb ?_
  refine rz tT ⟨[(5,vI 9)],[]⟩ {} [] ?_
  refine sz tT ⟨[(4,vI 9)],[]⟩ {} [] ?_
  refine aR ?_
  obtain rfl:=oi h
  exact rl [sI 9]
 ·refine cf hb ?_
  refine aP (sz tT ⟨[(4,vI r_)],[]⟩ {} [] ?_)
  refine aR ?_
  obtain rfl:=oi h
  exact rl [sI r_]
def Mr  :Bool→Exit→St→Prop:=
  fun r=>bL TT [.tmp 6] (vB r) []
theorem uQ (p:au) (s_:aA) (k:Int) {r:Bool} (h:kL p s_ k=some r):Fn Try.prog 83 (Rh p s_ k) [] (vB r) []:=by
 refine fN tT Try.func83 rfl rfl fun B=> ?_
 show bR _ _ _ _ _ _ (Mr r) _
 unfold kL at h
 refine sz tT (ahb p s_ k) {fr:=[(0,2),(1,3)] } [2,3] ?_
 refine aQ (aO h fun⟨a1,a2,a3,a4⟩ h=> ?_)
 refine dg tT mX (akt p s_ k) (_::(aj9 p s_ k)) {yb:=[(5,at' s_.on_ k.toNat),(13,VZ s_ k)] } [] ⟨a1,ae ⟨(fun hg=> ⟨a2 (bC hg),trivial⟩),ae (ae ⟨(fun hg=> ⟨a3 (bC hg),trivial⟩),ae ⟨(fun hg=> ⟨a4 (bC hg),trivial⟩),ae trivial⟩⟩)⟩⟩ ?_
 refine aR ?_
 obtain rfl:=oi h
 exact rl (ami p s_ k)
def IQ  :Bool→Exit→St→Prop:=
  fun r=>bL TT [.tmp 6] (vB r) []
section
variable (s_:aA) (i:Int) (p:au)
abbrev Vd:=(gY [(5,at' s_.bH i.toNat),(13,PN s_ i),(26,Si s_ i p)])
end
theorem qc (p:au) (s_:aA) (i:Int) {r:Bool} (h:iK p s_ i=some r):Fn Try.prog 84 (Rh p s_ i) [] (vB r) []:=by
 refine fN tT Try.func84 rfl rfl fun B=> ?_
 show bR _ _ _ _ _ _ (IQ r) _
 unfold iK at h
 refine sz tT (ahb p s_ i) {fr:=[(0,2),(1,3)] } [2,3] ?_
 refine aQ (aO h fun⟨a1,a2,a3,a4,a5,a6⟩ h=> ?_)
 refine dg tT mX (aml s_ i p) (_::(eqs (at' s_.bH i.toNat) 4 ((gP (Vd s_ i p) [(5,true)]→All [(0:Int)≤i∧i<(s_.bN.length:Int)])::(eqs (at' s_.bH i.toNat) 3 (eqs (PN s_ i) 6 ((gP (Vd s_ i p) [(13,true)]→All [(0:Int)≤i∧i<(p.ai.length:Int)])::(eqs (PN s_ i) 3 ((gP (Vd s_ i p) [(13,true)]→All [(0:Int)≤(at' p.ai i.toNat).a∧(at' p.ai i.toNat).a<(s_.aW.length:Int)])::(eqs (PN s_ i) 3 (eqs (Si s_ i p) 6 ((gP (Vd s_ i p) [(26,true)]→All [(0:Int)≤i∧i<(p.ai.length:Int)])::(eqs (Si s_ i p) 3 ((gP (Vd s_ i p) [(26,true)]→All [(0:Int)≤(at' p.ai i.toNat).b∧(at' p.ai i.toNat).b<(s_.aW.length:Int)])::(amG s_ i p)))))))))))))) {yb:=[(5,at' s_.bH i.toNat),(13,PN s_ i),(26,Si s_ i p)] } [] ⟨a1,ae ⟨(fun hg=> ⟨a2 (bC hg),trivial⟩),ae (ae ⟨(fun hg=> ⟨a3 (bC hg),trivial⟩),ae ⟨(fun hg=> ⟨a4 (bC hg),trivial⟩),ae (ae ⟨(fun hg=> ⟨a5 (bC hg),trivial⟩),ae ⟨(fun hg=> ⟨a6 (bC hg),trivial⟩),ae trivial⟩⟩)⟩⟩)⟩⟩ ?_
 refine aR ?_
 obtain rfl:=oi h
 exact rl (alL s_ i p)
def gI  :Int→Exit→St→Prop:=
  fun r=>bL TT [.tmp 6] (vI r) []
def xh (p:au) (s_:aA) (u0:List Bool):(Int × Int)→St:=
  fun zz=>match zz with|(n,k)=> ⟨[oO u0,bg p,bG s_,(7,vI n),(8,vI k)],[]⟩
section
variable (u0:List Bool) (p:au) (s_:aA) (n1:Int)
abbrev afk:St:=⟨[oO u0,bg p,bG s_,(7,vI n1)],[]⟩
end
def xA (p:au) (s_:aA) (u0:List Bool):Int→St:=
  fun n1=>(afk u0 p s_ n1)
def Ga (p:au) (s_:aA) (u0:List Bool):(aY (Int × Int) (Ex Int Int))→Exit→St→Prop:=
  LQ 0 [] (xh p s_ u0) (xA p s_ u0) gI
def wM (p:au) (s_:aA) (u0:List Bool):(Int × Int)→St:=
  fun zz=>match zz with|(n2,i)=> ⟨[oO u0,bg p,bG s_,(7,vI n2),(9,vI i)],[]⟩
section
variable (u0:List Bool) (p:au) (n3:Int)
abbrev afe:St:=⟨[oO u0,bg p,(7,vI n3)],[]⟩
end
def wF (p:au) (u0:List Bool):Int→St:=
  fun n3=>(afe u0 p n3)
def Gu (p:au) (s_:aA) (u0:List Bool):(aY (Int × Int) (Ex Int Int))→Exit→St→Prop:=
  LQ 2 [] (wM p s_ u0) (wF p u0) gI
def wW (p:au) (u0:List Bool):(Int × Int)→St:=
  fun zz=>match zz with|(n4,u1)=> ⟨[oO u0,bg p,(7,vI n4),(10,vI u1)],[]⟩
def xq  :Int→St:=
  fun n5=> ⟨[(7,vI n5)],[]⟩
def Gj (p:au) (u0:List Bool):(aY (Int × Int) (Ex Int Int))→Exit→St→Prop:=
  LQ 4 [] (wW p u0) xq gI
section
variable (u2:Bool) (i:Int) (p:au) (u0:List Bool) (u1:Int) (n4:Int)
abbrev XT:=(gP (gY [(4,u2)]) [(4,true)]→All [(0:Int)≤i∧i<(p.ai.length:Int)])
abbrev Mg:=(at' u0 ((X8 p u1).toNat))
abbrev BU:=(decide (0≤(XC p u1)))
abbrev ae0:=((if(Py p u1).e1<0 then 0 else(Py p u1).e1).toNat)
abbrev ae1:=(gY [(4,Mg p u0 u1),(7,BU p u1)])
abbrev X3:Nat × TV:=(7,vI (IntKind.wrap .i64 (n4+(Yp p u1))))
abbrev Qx:Nat × TV:=(10,k3 u1)
end
theorem Gm (p:au) (s_:aA) (u0:List Bool) {r:Int} (h:jE p s_ u0=some r):Fn Try.prog 89 (aie p s_ u0) [] (vI r) []:=by
 refine fN tT Try.func89 rfl rfl fun B=> ?_
 show bR _ _ _ _ _ _ (gI r) _
 unfold jE at h
 refine sz tT (aem u0 p s_) {fr:=[(0,2),(1,3)] } [2,3] ?_
 refine sz tT ⟨[oO u0,bg p,bG s_,(7,vI 0)],[]⟩ {} [] ?_
 refine aQ (sz tT ⟨[oO u0,bg p,bG s_,(7,vI 0),(8,vI 0)],[]⟩ {} [] ?_)
 refine bE h fun y hy h=> ?_
 refine aL [] (xh p s_ u0) (xA p s_ u0) gI hy (fun s f h=> ?_) ?_
 ·clear hy
  show bR _ _ _ _ _ _ ((Ga p s_ u0) f) _
  unfold kX at h
  obtain⟨n,k⟩:=s
  refine aQ (sz tT ⟨[oO u0,bg p,bG s_,(7,vI n),(8,vI k),(17,k53 p k)],[]⟩ {} [] ?_)
  refine bI h (fun hb1 h=> ?_) (fun hb1 h=> ?_)
  ·refine ct hb1 ?_
   refine aP (aQ (aB (aQ (bE h fun r_ hr_ h=> ?_))))
   refine aO h fun⟨a1,a2⟩ h=> ?_
   have q0:=uQ p s_ k hr_
   refine rg tT ⟨[oO u0,bg p,bG s_,(7,vI n),(8,vI k),(35,vB (bif r_ then(!(at' u0 (Wu p k)))else false))],[]⟩ (_::(eqs r_ 5 ((gP (gY [(4,r_)]) [(4,true)]→All [(0:Int)≤k∧k<(p.ah.length:Int)])::(eqs r_ 3 ((gP (gY [(4,r_)]) [(4,true)]→All [(0:Int)≤(at' p.ah k.toNat).bus∧(at' p.ah k.toNat).bus<(u0.length:Int)])::(eqs r_ 3 [])))))) {yb:=[(4,r_)],an:=[(3,cA q0 [])] } [] ⟨q0,ae ⟨(fun hg=> ⟨a1 (bC hg),trivial⟩),ae ⟨(fun hg=> ⟨a2 (bC hg),trivial⟩),ae trivial⟩⟩⟩ ?_
   refine bI h (fun hb h=> ?_) (fun hb h=> ?_)
   ·refine ct hb ?_
    refine aO h fun a1 h=> ?_
    refine rg tT ⟨[oO u0,bg p,bG s_,(7,vI (IntKind.wrap .i64 (n+(k56 p k)))),(8,vI k)],[]⟩ [_] {} [] ⟨a1,trivial⟩ ?_
    refine rz tT ⟨[oO u0,bg p,bG s_,(7,vI (IntKind.wrap .i64 (n+(k56 p k)))),Hz k],[]⟩ {} [] ?_
    obtain rfl:=oi h
    exact lN
   ·refine cf hb ?_
    refine aP (rz tT ⟨[oO u0,bg p,bG s_,(7,vI n),Hz k],[]⟩ {} [] ?_)
    obtain rfl:=oi h
    exact lN
  ·refine cf hb1 ?_
   refine aI (fz (afk u0 p s_ n) []) ?_
   refine aX ?_
   obtain rfl:=oi h
   exact lB
 ·clear hy
  cases y with
  |brk z=>
   obtain⟨n1,rfl⟩: ∃q,q=z:=⟨_,rfl⟩
   unfold dZ
   refine⟨_, .refl, ?_⟩
   refine aQ (sz tT ⟨[oO u0,bg p,bG s_,(7,vI n1),(9,vI 0)],[]⟩ {} [] ?_)
   refine bE h fun y1 hy h=> ?_
   refine aL [] (wM p s_ u0) (wF p u0) gI hy (fun s f h=> ?_) ?_
   ·clear hy
    show bR _ _ _ _ _ _ ((Gu p s_ u0) f) _
    unfold kY at h
    obtain⟨n2,i⟩:=s
    refine aQ (sz tT ⟨[oO u0,bg p,bG s_,(7,vI n2),(9,vI i),(48,k65 p i)],[]⟩ {} [] ?_)
    refine bI h (fun hb3 h=> ?_) (fun hb3 h=> ?_)
    ·refine ct hb3 ?_
     refine aP (aQ (aB (aQ (bE h fun u2 hr_1 h=> ?_))))
     refine aO h fun⟨a1,a2,a3⟩ h=> ?_
     have q0:=qc p s_ i hr_1
     refine dg tT mX ⟨[oO u0,bg p,bG s_,(7,vI n2),(9,vI i),(75,vB (bif u2 then(!((at' u0 (WS i p))==(at' u0 (Zk i p))))else false))],[]⟩ (_::(eqs u2 5 ((XT u2 i p)::(eqs u2 3 ((gP (gY [(4,u2)]) [(4,true)]→All [(0:Int)≤(at' p.ai i.toNat).a∧(at' p.ai i.toNat).a<(u0.length:Int)])::(eqs u2 6 ((XT u2 i p)::(eqs u2 3 ((gP (gY [(4,u2)]) [(4,true)]→All [(0:Int)≤(at' p.ai i.toNat).b∧(at' p.ai i.toNat).b<(u0.length:Int)])::(eqs u2 3 [])))))))))) {yb:=[(4,u2)],an:=[(3,cA q0 [])] } [] ⟨q0,ae ⟨(fun hg=> ⟨a1 (bC hg),trivial⟩),ae ⟨(fun hg=> ⟨a2 (bC hg),trivial⟩),ae ⟨(fun hg=> ⟨a1 (bC hg),trivial⟩),ae ⟨(fun hg=> ⟨a3 (bC hg),trivial⟩),ae trivial⟩⟩⟩⟩⟩ ?_
     refine bI h (fun hb2 h=> ?_) (fun hb2 h=> ?_)
     ·refine ct hb2 ?_
      refine aO h fun a1 h=> ?_
      refine rg tT ⟨[oO u0,bg p,bG s_,(7,vI (IntKind.wrap .i64 (n2+(Qi p i)))),(9,vI i)],[]⟩ [_] {} [] ⟨a1,trivial⟩ ?_
      refine rz tT ⟨[oO u0,bg p,bG s_,(7,vI (IntKind.wrap .i64 (n2+(Qi p i)))),abj i],[]⟩ {} [] ?_
      obtain rfl:=oi h
      exact lN
     ·refine cf hb2 ?_
      refine aP (rz tT ⟨[oO u0,bg p,bG s_,(7,vI n2),abj i],[]⟩ {} [] ?_)
      obtain rfl:=oi h
      exact lN
    ·refine cf hb3 ?_
     refine aI (fz (afe u0 p n2) []) ?_
     refine aX ?_
     obtain rfl:=oi h
     exact lB
   ·clear hy
    cases y1 with
    |brk z=>
     obtain⟨n3,rfl⟩: ∃q,q=z:=⟨_,rfl⟩
     unfold dZ
     refine⟨_, .refl, ?_⟩
     refine aQ (sz tT ⟨[oO u0,bg p,(7,vI n3),(10,vI 0)],[]⟩ {} [] ?_)
     refine bE h fun y2 hy h=> ?_
     refine aL [] (wW p u0) xq gI hy (fun s f h=> ?_) ?_
     ·clear hy
      show bR _ _ _ _ _ _ ((Gj p u0) f) _
      unfold kS at h
      obtain⟨n4,u1⟩:=s
      refine aQ (sz tT ⟨[oO u0,bg p,(7,vI n4),(10,vI u1),(88,k66 p u1)],[]⟩ {} [] ?_)
      refine bI h (fun hb5 h=> ?_) (fun hb5 h=> ?_)
      ·refine ct hb5 ?_
       refine aP (aQ (aB (aQ (aO h fun a1 h=> ?_))))
       refine dg tT mX ⟨[oO u0,bg p,(7,vI n4),(10,vI u1),(11,vI (X8 p u1)),(12,vI (XC p u1))],[]⟩ [_,(0:Int)≤0∧(0:Int)<(2:Nat),_,(0:Int)≤1∧(1:Int)<(2:Nat)] {} [] ⟨a1,(by decide),a1,(by decide),trivial⟩ ?_
       refine aQ (aO h fun⟨a1,a2⟩ h=> ?_)
       refine rg tT ⟨[oO u0,bg p,(7,vI n4),(10,vI u1),(119,vB (bif (Mg p u0 u1)then true else(bif (BU p u1)then(at' u0 (ae0 p u1))else false)))],[]⟩ (_::(eqs (Mg p u0 u1) 3 (eqs (BU p u1) 4 [gP (ae1 p u0 u1) [(7,true),(4,false)]→All [(0:Int)≤(if(Py p u1).e1<0 then 0 else(Py p u1).e1)∧(if(Py p u1).e1<0 then 0 else(Py p u1).e1)<(u0.length:Int)],(BU p u1)=(BU p u1),(Mg p u0 u1)=(Mg p u0 u1),gP (ae1 p u0 u1) [(4,false)]→All [(BU p u1)=(BU p u1)],(Mg p u0 u1)=(Mg p u0 u1)]))) {yb:=[(4,Mg p u0 u1),(7,BU p u1)] } [] ⟨a1,ae (ae ⟨(fun hg=> ⟨a2 (bC hg),trivial⟩),rfl,rfl,(fun hg=> ⟨rfl,trivial⟩),rfl,trivial⟩)⟩ ?_
       refine bI h (fun hb4 h=> ?_) (fun hb4 h=> ?_)
       ·refine ct hb4 ?_
        refine aO h fun a1 h=> ?_
        refine rg tT ⟨[oO u0,bg p,X3 p u1 n4,(10,vI u1)],[]⟩ [_] {} [] ⟨a1,trivial⟩ ?_
        refine rz tT ⟨[oO u0,bg p,X3 p u1 n4,Qx u1],[]⟩ {} [] ?_
        obtain rfl:=oi h
        exact lN
       ·refine cf hb4 ?_
        refine aP (rz tT ⟨[oO u0,bg p,(7,vI n4),Qx u1],[]⟩ {} [] ?_)
        obtain rfl:=oi h
        exact lN
      ·refine cf hb5 ?_
       refine aI (fz ⟨[(7,vI n4)],[]⟩ []) ?_
       refine aX ?_
       obtain rfl:=oi h
       exact lB
     ·clear hy
      cases y2 with
      |brk z=>
       obtain⟨n5,rfl⟩: ∃q,q=z:=⟨_,rfl⟩
       unfold dZ
       refine⟨_, .refl, ?_⟩
       refine sz tT ⟨[(6,vI n5)],[]⟩ {} [] ?_
       refine aR ?_
       obtain rfl:=oi h
       exact rl [sI n5]
      |ret v=>
       obtain rfl:=oi h
       unfold dZ
       intro e st hn ha hR
       cases e with
       |normal=>exact absurd rfl hn
       |exit id=>exact hR
       |goto l=>exact hR
       |ret=>exact hR
       |panic c=>exact hR
       |outgrown=>exact hR
    |ret v=>
     obtain rfl:=oi h
     unfold dZ
     intro e st hn ha hR
     cases e with
     |normal=>exact absurd rfl hn
     |exit id=>exact hR
     |goto l=>exact hR
     |ret=>exact hR
     |panic c=>exact hR
     |outgrown=>exact hR
  |ret v=>
   obtain rfl:=oi h
   unfold dZ
   intro e st hn ha hR
   cases e with
   |normal=>exact absurd rfl hn
   |exit id=>exact hR
   |goto l=>exact hR
   |ret=>exact hR
   |panic c=>exact hR
   |outgrown=>exact hR
def wu  :(Int × (List Bool))→Exit→St→Prop:=
  fun r=>bL TT [.tmp 4, .tmp 5] (.jl [sI r.1,sD (bJ none 1 aF r.2)]) []
section
variable (u0:List Bool) (p:au) (s_:aA) (u1:Int) (n:Int)
abbrev qw:Nat × TV:=(7,vO 13 true u0.length)
abbrev QG:Nat × Option Ob:=(13,some (bW 4 1 aF u0))
abbrev JO:List (Nat × Option Ob):=[QG u0]
abbrev NC:St:=⟨[k26 p,k10 s_,(6,vI u1),qw u0,(8,vI n)],JO u0⟩
end
def BF (p:au) (s_:aA):(Int × (List Bool) × Int)→St:=
  fun zz=>match zz with|(u1,u0,n)=>(NC u0 p s_ u1 n)
def Bt  :(Int × (List Bool))→St:=
  fun zz=>match zz with|(u1,u0)=> ⟨[(6,vI u1),qw u0],JO u0⟩
def KV (p:au) (s_:aA):(aY (Int × (List Bool) × Int) (Ex (Int × (List Bool)) (Int × (List Bool))))→Exit→St→Prop:=
  LQ 0 [] (BF p s_) Bt wu
def pQ (p:au) (s_:aA) (n:Int):(Int × (List Bool))→Exit→St→Prop:=
  fun y e st=>e= .normal∧st=(fun zz=>match zz with|(u1,u0)=>(NC u0 p s_ u1 n)) y
section
variable (u1:List Bool) (p:au) (s_:aA) (u2:Int) (u0:List Bool) (n:Int) (u3:Bool) (b:Int)
abbrev NA:Nat × TV:=(9,vO 21 true u1.length)
abbrev afn:List (Nat × TV):=[k26 p,k10 s_,(6,vI u2),qw u0,(8,vI n),NA u1,(10,vB u3),(11,vI b)]
abbrev QA:List (Nat × Option Ob):=[QG u0,(21,some (bW 4 1 aF u1))]
end
def BJ (p:au) (s_:aA) (u2:Int) (u0:List Bool) (n:Int):((List Bool) × Bool × Int)→St:=
  fun zz=>match zz with|(u1,u3,b)=> ⟨afn u1 p s_ u2 u0 n u3 b,QA u1 u0⟩
section
variable (p:au) (s_:aA) (u2:Int) (u0:List Bool) (n:Int) (u1:List Bool) (u3:Bool)
abbrev afs:St:=⟨[k26 p,k10 s_,(6,vI u2),qw u0,(8,vI n),NA u1,(10,vB u3)],QA u1 u0⟩
end
def Bw (p:au) (s_:aA) (u2:Int) (u0:List Bool) (n:Int):((List Bool) × Bool)→St:=
  fun zz=>match zz with|(u1,u3)=>(afs p s_ u2 u0 n u1 u3)
def Lg (p:au) (s_:aA) (u0:Int) (u1:List Bool) (n:Int):(aY ((List Bool) × Bool × Int) (Ex ((List Bool) × Bool) (Int × (List Bool))))→Exit→St→Prop:=
  LQ 2 [1] (BJ p s_ u0 u1 n) (Bw p s_ u0 u1 n) (pQ p s_ n)
section
variable (u2:List Bool) (p:au) (s_:aA) (u1:Int) (u0:List Bool) (n:Int) (b1:Int)
abbrev Qm:Nat × TV:=(9,vD (bJ (some true) 1 aF u2))
abbrev afl:List (Nat × TV):=[k26 p,k10 s_,(6,vI u1),qw u0,(8,vI n),Qm u2,(13,vI b1)]
end
def BL (p:au) (s_:aA) (u1:Int) (n:Int) (u2:List Bool):((List Bool) × Int)→St:=
  fun zz=>match zz with|(u0,b1)=> ⟨afl u2 p s_ u1 u0 n b1,JO u0⟩
def Cc (p:au) (s_:aA) (u0:Int) (n:Int):(List Bool)→St:=
  fun out4=> ⟨[k26 p,k10 s_,(6,vI u0),(7,vO 13 true out4.length),(8,vI n)],[(13,some (bW 4 1 aF out4))]⟩
def Ky (p:au) (s_:aA) (u0:Int) (n:Int) (u1:List Bool):(aY ((List Bool) × Int) (Ex (List Bool) (Int × (List Bool))))→Exit→St→Prop:=
  LQ 4 [1] (BL p s_ u0 n u1) (Cc p s_ u0 n) (pQ p s_ n)
section
variable (p:au) (u0:List Bool) (u3:List Bool) (b:Int) (n:Int) (u5:Bool) (s_:aA) (u4:List Bool) (b1:Int) (u1:List Bool)
abbrev ab2:Nat × TV:=(9,vO 21 true (acg p))
abbrev aad:List (Nat × Option Ob):=[QG u0,(21,some (aaO p))]
abbrev QM:=(u3.set b.toNat (decide ((Int.tmod (Int.fdiv n (2 ^ min b.toNat (IntKind.bits .i64))) 2)=1)))
abbrev abP:=(aS aF (QM u3 b n))
abbrev abu:Nat × TV:=(9,vO 21 true ((QM u3 b n).length))
abbrev acy:List (Nat × Option Ob):=[QG u0,(21,some (bW 4 1 aF (QM u3 b n)))]
abbrev L9:=(at' (QM u3 b n) b.toNat)
abbrev ae5:Nat × TV:=(10,vB (bif u5 then(!(bif (L9 u3 b n)then(at' s_.aW b.toNat)else false))else false))
abbrev X5:=(gY [(1,u5),(6,L9 u3 b n)])
abbrev XP:=(u4.set b1.toNat (bif (at' u4 b1.toNat)then(at' u1 b1.toNat)else false))
abbrev ab4:=(aS aF (XP u4 b1 u1))
abbrev afj:List (Nat × Option Ob):=[(13,some (bW 4 1 aF (XP u4 b1 u1)))]
end
theorem vv (p:au) (s_:aA) {r:Int × (List Bool)} (h:kK p s_=some r):Fn Try.prog 40 (Ms p s_) [] (.jl [sI r.1,sD (bJ none 1 aF r.2)]) []:=by
 refine fN tT Try.func40 rfl rfl fun B=> ?_
 show bR _ _ _ _ _ _ (wu r) _
 unfold kK at h
 refine sz tT (Wh p s_) {fr:=[(0,11),(1,12)] } [11,12] ?_
 refine sz tT ⟨[k26 p,k10 s_,(6,vI (-1))],[]⟩ {} [] ?_
 refine aQ (aO h fun⟨a1,a2,a3⟩ h=> ?_)
 refine rg tT ⟨[k26 p,k10 s_,(6,vI (-1)),(7,vO 13 true (acg p))],[(13,some (aaO p))]⟩ [_,(p.ax:Int)=p.ax,_,_,(K9 p).length=p.ax.toNat,aZ p.ax.toNat 1 (fun _ j=>[.bool false].getD j .nilp) (Tq p)] {an:=[(2, .arr (K9 p).length (Tq p))],fr:=[(2,13)] } [] ⟨a1,rfl,a2,a3,List.length_replicate,fe _ _ _ _ _ (fun j hj=>(match j,hj with|0,_=>rfl)),trivial⟩ ?_
 refine aQ (sz tT ⟨[k26 p,k10 s_,(6,vI (-1)),(7,vO 13 true (acg p)),(8,vI 0)],[(13,some (aaO p))]⟩ {} [] ?_)
 refine bE h fun y3 hy h=> ?_
 refine aL [] (BF p s_) Bt wu hy (fun s f h=> ?_) ?_
 ·clear hy
  show bR _ _ _ _ _ _ ((KV p s_) f) _
  unfold iL at h
  obtain⟨u2,u0,n⟩:=s
  refine aQ (aQ (aO h fun a1 h=> ?_))
  refine rg tT ⟨[k26 p,k10 s_,(6,vI u2),qw u0,(8,vI n),(21,vB (decide (n<(IntKind.wrap .i64 ((1:Int)*2 ^ min p.ax.toNat (IntKind.bits .i64))))))],JO u0⟩ [_] {} [] ⟨a1,trivial⟩ ?_
  refine bI h (fun hb5 h=> ?_) (fun hb5 h=> ?_)
  ·refine ct hb5 ?_
   refine aP (bE h fun y2 hy h=> ?_)
   refine KX (o:=y2) (fun zz=>match zz with|(u8,u6)=>(NC u6 p s_ u8 n)) ?_ ?_
   ·replace h:=hy
    clear hy
    refine aB (aQ (aO h fun⟨a1,a2,a3⟩ h=> ?_))
    refine rg tT ⟨[k26 p,k10 s_,(6,vI u2),qw u0,(8,vI n),ab2 p],aad p u0⟩ [_,(p.ax:Int)=p.ax,_,_,(K9 p).length=p.ax.toNat,aZ p.ax.toNat 1 (fun _ j=>[.bool false].getD j .nilp) (Tq p)] {an:=[(2, .arr (K9 p).length (Tq p))],fr:=[(2,21)] } [] ⟨a1,rfl,a2,a3,List.length_replicate,fe _ _ _ _ _ (fun j hj=>(match j,hj with|0,_=>rfl)),trivial⟩ ?_
    refine sz tT ⟨[k26 p,k10 s_,(6,vI u2),qw u0,(8,vI n),ab2 p,(10,vB true)],aad p u0⟩ {} [] ?_
    refine aQ (sz tT ⟨[k26 p,k10 s_,(6,vI u2),qw u0,(8,vI n),ab2 p,(10,vB true),(11,vI 0)],aad p u0⟩ {} [] ?_)
    refine bE h fun y hy h=> ?_
    refine aL [1] (BJ p s_ u2 u0 n) (Bw p s_ u2 u0 n) (pQ p s_ n) hy (fun s f h=> ?_) ?_
    ·clear hy
     show bR _ _ _ _ _ _ ((Lg p s_ u2 u0 n) f) _
     unfold lJ at h
     obtain⟨u3,u5,b⟩:=s
     refine aQ (sz tT ⟨[k26 p,k10 s_,(6,vI u2),qw u0,(8,vI n),NA u3,(10,vB u5),(11,vI b),(30,vB (decide (b<p.ax)))],QA u3 u0⟩ {} [] ?_)
     refine bI h (fun hb h=> ?_) (fun hb h=> ?_)
     ·refine ct hb ?_
      refine aP (aQ (aB (aQ (aO h fun⟨a1,a2,a3⟩ h=> ?_))))
      refine ri tT ⟨afn u3 p s_ u2 u0 n u5 b,[QG u0,(21,some (.arr 4 1 u3.length (abP u3 b n)))]⟩ [_,_,_,_,aZ u3.length 1 (lZ (aS aF u3) b.toNat 0 [.bool (decide ((Int.tmod (Int.fdiv n (2 ^ min b.toNat (IntKind.bits .i64))) 2)=1))]) (abP u3 b n)] {an:=[(8, .arr 0 (abP u3 b n))] } [] ⟨a1,a2,a3,tL a3,dA _ _ _ _ _ _ _ _ rfl (fun j hj=>(match j,hj with|0,_=>rfl)),trivial⟩ (cO.le (st':=⟨[k26 p,k10 s_,(6,vI u2),qw u0,(8,vI n),abu u3 b n,(10,vB u5),(11,vI b)],acy u0 u3 b n⟩) ⟨⟨tR,tR,tR,tR,tR,⟨_,rfl,eB.v (fG.one cW)⟩,tR,tR,trivial⟩,⟨rfl, .refl _,⟨rfl,oW,trivial⟩⟩⟩) ?_
      refine aO h fun⟨a1,a2⟩ h=> ?_
      refine rg tT ⟨[k26 p,k10 s_,(6,vI u2),qw u0,(8,vI n),abu u3 b n,ae5 u3 b n u5 s_,(11,vI b)],acy u0 u3 b n⟩ (eqs u5 3 ((gP (X5 u3 b n u5) [(1,true)]→All [(0:Int)≤b∧b<((QM u3 b n).length:Int)])::(u5=u5)::(gP (X5 u3 b n u5) [(1,true)]→All [b.toNat<(QM u3 b n).length])::(u5=u5)::(eqs (L9 u3 b n) 4 ((gP (X5 u3 b n u5) [(6,true),(1,true)]→All [(0:Int)≤b∧b<(s_.aW.length:Int)])::((L9 u3 b n)=(L9 u3 b n))::(u5=u5)::(gP (X5 u3 b n u5) [(1,true)]→All [(L9 u3 b n)=(L9 u3 b n)])::(eqs u5 2 []))))) {yb:=[(1,u5),(6,L9 u3 b n)] } [] (ae ⟨(fun hg=> ⟨a1 (bC hg),trivial⟩),rfl,(fun hg=> ⟨(fun hq=>tL (a1 hq)) (bC hg),trivial⟩),rfl,ae ⟨(fun hg=> ⟨a2 (bC hg),trivial⟩),rfl,rfl,(fun hg=> ⟨rfl,trivial⟩),ae trivial⟩⟩) ?_
      refine rz tT ⟨[k26 p,k10 s_,(6,vI u2),qw u0,(8,vI n),abu u3 b n,ae5 u3 b n u5 s_,Y6 b],acy u0 u3 b n⟩ {} [] ?_
      obtain rfl:=oi h
      exact lN
     ·refine cf hb ?_
      refine aI (fz (afs p s_ u2 u0 n u3 u5) []) ?_
      refine aX ?_
      obtain rfl:=oi h
      exact lB
    ·clear hy
     cases y with
     |brk z=>
      obtain⟨u1,v0⟩:=z
      unfold dZ
      refine⟨_, .refl, ?_⟩
      refine aQ (sz tT ⟨[k26 p,k10 s_,(6,vI u2),qw u0,(8,vI n),NA u1,(57,vB (!v0))],QA u1 u0⟩ {} [] ?_)
      refine bI h (fun hb4 h=> ?_) (fun hb4 h=> ?_)
      ·refine ct hb4 ?_
       refine aI (fz (NC u0 p s_ u2 n) []) ?_
       refine aX ?_
       obtain rfl:=oi h
       exact⟨rfl,by kernel_rfl⟩
      ·refine cf hb4 ?_
       refine aP (aQ (bE h fun r_ hr_ h=> ?_))
       refine rg tT ⟨[k26 p,k10 s_,(6,vI u2),qw u0,(8,vI n),NA u1,(12,vI r_)],QA u1 u0⟩ [Fn Try.prog 89 [.agg (k22 p),.agg (k5 s_),.one (.own 21 true u1.length)] [(21,some (bW 4 1 aF u1))] (vI r_) [(21,some (bW 4 1 aF u1))]] {an:=[(3, .callR [21] (vI r_))] } [] ⟨Fn.zy (frz:=[21]) (p:=[u1.length=u1.length]) (Fn.le (args':=[.agg (k22 p),.agg (k5 s_),sD (bJ (some true) 1 aF u1)]) (Gm p s_ u1 hr_) ⟨fG.refl _,fG.refl _,fG.one (eZ.d iM.qB),trivial⟩) (by kernel_rfl) ⟨rfl,trivial⟩ rfl,trivial⟩ ?_
       refine sg tT ⟨[k26 p,k10 s_,(6,vI u2),qw u0,(8,vI n),NA u1,(12,vI r_),(68,vB (bif (decide (u2<0))then true else(decide (r_<u2))))],QA u1 u0⟩ (eqs (decide (u2<0)) 4 []) {yb:=[(2,decide (u2<0))] } [] (ae trivial) ?_
       refine bI h (fun hb3 h=> ?_) (fun hb3 h=> ?_)
       ·refine ct hb3 ?_
        refine sz tT ⟨[k26 p,k10 s_,(6,vI r_),(8,vI n),NA u1],[(21,some (bW 4 1 aF u1))]⟩ {} [] ?_
        refine ri tT ⟨[k26 p,k10 s_,(6,vI r_),(7,vO 21 true u1.length),(8,vI n)],[(21,some (bW 4 1 aF u1))]⟩ [] {} [] trivial (cO.fin (st':=(NC u1 p s_ r_ n)) (cs:=[]) ⟨[],[(21,13)]⟩ [2,3,6,7,8] (by kernel_rfl) trivial) ?_
        obtain rfl:=oi h
        exact⟨rfl,by kernel_rfl⟩
       ·refine cf hb3 ?_
        refine sg tT ⟨[k26 p,k10 s_,(6,vI u2),qw u0,(8,vI n),Qm u1,(73,vB (decide (r_=u2)))],JO u0⟩ [u1.length=u1.length] {} [21] ⟨rfl,trivial⟩ ?_
        refine bI h (fun hb2 h=> ?_) (fun hb2 h=> ?_)
        ·refine ct hb2 ?_
         refine sz tT ⟨[k26 p,k10 s_,(6,vI u2),qw u0,(8,vI n),Qm u1,(13,vI 0)],JO u0⟩ {} [] ?_
         refine bE h fun y1 hy h=> ?_
         refine aL [1] (BL p s_ u2 n u1) (Cc p s_ u2 n) (pQ p s_ n) hy (fun s f h=> ?_) ?_
         ·clear hy
          show bR _ _ _ _ _ _ ((Ky p s_ u2 n u1) f) _
          unfold lS at h
          obtain⟨u4,b1⟩:=s
          refine aQ (sz tT ⟨[k26 p,k10 s_,(6,vI u2),qw u4,(8,vI n),Qm u1,(13,vI b1),(77,vB (decide (b1<p.ax)))],JO u4⟩ {} [] ?_)
          refine bI h (fun hb1 h=> ?_) (fun hb1 h=> ?_)
          ·refine ct hb1 ?_
           refine aP (aQ (aB (aO h fun⟨a1,a2⟩ h=> ?_)))
           refine ri tT ⟨afl u1 p s_ u2 u4 n b1,[(13,some (.arr 4 1 u4.length (ab4 u4 b1 u1)))]⟩ (_::_::(eqs (at' u4 b1.toNat) 3 ((gP (gY [(6,at' u4 b1.toNat)]) [(6,true)]→All [(0:Int)≤b1∧b1<(u1.length:Int)])::(eqs (at' u4 b1.toNat) 2 [_,_,aZ u4.length 1 (lZ (aS aF u4) b1.toNat 0 [.bool (bif (at' u4 b1.toNat)then(at' u1 b1.toNat)else false)]) (ab4 u4 b1 u1)])))) {yb:=[(6,at' u4 b1.toNat)],an:=[(13, .arr 0 (ab4 u4 b1 u1))] } [] ⟨a1,tL a1,ae ⟨(fun hg=> ⟨a2 (bC hg),trivial⟩),ae ⟨a1,tL a1,dA _ _ _ _ _ _ _ _ rfl (fun j hj=>(match j,hj with|0,_=>rfl)),trivial⟩⟩⟩ (cO.le (st':=⟨[k26 p,k10 s_,(6,vI u2),(7,vO 13 true ((XP u4 b1 u1).length)),(8,vI n),Qm u1,(13,vI b1)],afj u4 b1 u1⟩) ⟨⟨tR,tR,tR,⟨_,rfl,eB.v (fG.one cW)⟩,tR,tR,tR,trivial⟩,⟨rfl,oW,trivial⟩⟩) ?_
           refine rz tT ⟨[k26 p,k10 s_,(6,vI u2),(7,vO 13 true ((XP u4 b1 u1).length)),(8,vI n),Qm u1,(13,k3 b1)],afj u4 b1 u1⟩ {} [] ?_
           obtain rfl:=oi h
           exact lN
          ·refine cf hb1 ?_
           refine aI (fz (NC u4 p s_ u2 n) []) ?_
           refine aX ?_
           obtain rfl:=oi h
           exact lB
         ·clear hy
          cases y1 with
          |brk z=>
           obtain⟨out4,rfl⟩: ∃q,q=z:=⟨_,rfl⟩
           unfold dZ
           refine⟨_, .refl, ?_⟩
           obtain rfl:=oi h
           exact⟨rfl,by kernel_rfl⟩
          |ret v=>
           obtain rfl:=oi h
           unfold dZ
           intro e st hn ha hR
           cases e with
           |normal=>exact absurd rfl hn
           |exit id=>simp only [qW (b:=1) ha rfl,cond_false];exact hR
           |goto l=>exact hR
           |ret=>exact hR
           |panic c=>exact hR
           |outgrown=>exact hR
        ·refine cf hb2 ?_
         refine aI (fz (NC u0 p s_ u2 n) []) ?_
         refine aP ?_
         obtain rfl:=oi h
         exact⟨rfl,by kernel_rfl⟩
     |ret v=>
      obtain rfl:=oi h
      unfold dZ
      intro e st hn ha hR
      cases e with
      |normal=>exact absurd rfl hn
      |exit id=>simp only [qW (b:=1) ha rfl,cond_false];exact hR
      |goto l=>exact hR
      |ret=>exact hR
      |panic c=>exact hR
      |outgrown=>exact hR
   ·clear hy
    obtain⟨u8,u6⟩:=y2
    refine rz tT ⟨[k26 p,k10 s_,(6,vI u8),qw u6,Hz n],JO u6⟩ {} [] ?_
    obtain rfl:=oi h
    exact lN
  ·refine cf hb5 ?_
   refine aI (fz ⟨[(6,vI u2),qw u0],JO u0⟩ []) ?_
   refine aX ?_
   obtain rfl:=oi h
   exact lB
 ·clear hy
  cases y3 with
  |brk z=>
   obtain⟨u9,u7⟩:=z
   unfold dZ
   refine⟨_, .refl, ?_⟩
   refine sg tT ⟨[(4,vI u9),(5,vD (bJ (some true) 1 aF u7))],[]⟩ [u7.length=u7.length] {} [13] ⟨rfl,trivial⟩ ?_
   refine aI (cO.le (st':=⟨[(4,vI u9),(5,vD (bJ none 1 aF u7))],[]⟩) ⟨⟨tR,⟨_,rfl,eB.v (fG.one (eZ.d iM.qB))⟩,trivial⟩,trivial⟩) ?_
   refine aR ?_
   obtain rfl:=oi h
   exact rl [sI u9,sD (bJ none 1 aF u7)]
  |ret v=>
   obtain rfl:=oi h
   unfold dZ
   intro e st hn ha hR
   cases e with
   |normal=>exact absurd rfl hn
   |exit id=>exact hR
   |goto l=>exact hR
   |ret=>exact hR
   |panic c=>exact hR
   |outgrown=>exact hR
def mZ  :((List aM) × Int)→Exit→St→Prop:=
  fun r=>bL TT [.tmp 4, .tmp 5] (.jl [sD (bJ none 2 aM.cell r.1),sI r.2]) []
section
variable (u1:Int × (List Bool)) (u0:List aM)
abbrev qK:Nat × TV:=(8,vD (bJ none 1 aF u1.2))
abbrev DN:Nat × TV:=(9,vO 21 false u0.length)
abbrev Dz:List (Nat × Option Ob):=[(21,some (Gn u0))]
end
def BA (p:au) (s_:aA) (u1:Int × (List Bool)):((List aM) × Int)→St:=
  fun zz=>match zz with|(u0,k)=> ⟨[k26 p,k10 s_,qK u1,DN u0,(10,vI k)],Dz u0⟩
section
variable (p:au) (s_:aA) (u1:Int × (List Bool)) (u0:List aM)
abbrev afc:St:=⟨[k26 p,k10 s_,qK u1,DN u0],Dz u0⟩
end
def Ce (p:au) (s_:aA) (u1:Int × (List Bool)):(List aM)→St:=
  fun u0=>(afc p s_ u1 u0)
def KI (p:au) (s_:aA) (u0:Int × (List Bool)):(aY ((List aM) × Int) (Ex (List aM) ((List aM) × Int)))→Exit→St→Prop:=
  LQ 0 [] (BA p s_ u0) (Ce p s_ u0) mZ
def BV (p:au) (s_:aA) (u1:Int × (List Bool)):((List aM) × Int)→St:=
  fun zz=>match zz with|(u0,i)=> ⟨[k26 p,k10 s_,qK u1,DN u0,(11,vI i)],Dz u0⟩
def BZ  :(List aM)→St:=
  fun u0=> ⟨[DN u0],Dz u0⟩
def Lp (p:au) (s_:aA) (u0:Int × (List Bool)):(aY ((List aM) × Int) (Ex (List aM) ((List aM) × Int)))→Exit→St→Prop:=
  LQ 2 [] (BV p s_ u0) BZ mZ
section
variable (p:au) (s_:aA) (r_:Int)
abbrev aeV:St:=⟨[k26 p,k10 s_,(6,vI r_)],[]⟩
end
theorem Li (p:au) (s_:aA) {r:(List aM) × Int} (h:kM p s_=some r):Fn Try.prog 35 (Ms p s_) [] (.jl [sD (bJ none 2 aM.cell r.1),sI r.2]) []:=by
 refine fN tT Try.func35 rfl rfl fun B=> ?_
 show bR _ _ _ _ _ _ (mZ r) _
 unfold kM at h
 refine sz tT (Wh p s_) {fr:=[(0,18),(1,19)] } [18,19] ?_
 refine aQ (bE h fun r_ hr_ h=> ?_)
 have q0:=jU p s_ hr_
 refine rg tT (aeV p s_ r_) [_] {an:=[(2,cA q0 [])] } [] ⟨q0,trivial⟩ ?_
 refine aQ (sz tT ⟨[k26 p,k10 s_,(6,vI r_),(16,vB (!decide (r_=0)))],[]⟩ {} [] ?_)
 refine bI h (fun hb4 h=> ?_) (fun hb4 h=> ?_)
 ·refine ct hb4 ?_
  refine sz tT ⟨[(4,vD nS),(5,vI r_)],[]⟩ {} [] ?_
  refine aI (cO.le (st':=⟨[(4,vD (bJ none 2 aM.cell ([]:List aM))),(5,vI r_)],[]⟩) ⟨⟨⟨_,rfl,eB.v (fG.one (eZ.d iM.nil'))⟩,tR,trivial⟩,trivial⟩) ?_
  refine aR ?_
  obtain rfl:=oi h
  exact rl [sD (bJ none 2 aM.cell ([]:List aM)),sI r_]
 ·refine cf hb4 ?_
  refine aP (aQ (bE h fun u0 hr_1 h=> ?_))
  have q0:=vv p s_ hr_1
  refine rg tT ⟨[k26 p,k10 s_,qK u0],[]⟩ [_] {an:=[(2,cA q0 [])] } [] ⟨q0,trivial⟩ ?_
  refine sz tT ⟨[k26 p,k10 s_,qK u0,(9,vD nS)],[]⟩ {} [] ?_
  refine aQ (sz tT ⟨[k26 p,k10 s_,qK u0,(9,vD nS),(10,vI 0)],[]⟩ {} [] ?_)
  refine bE h fun y hy h=> ?_
  refine aI (.trans (cO.UF (t:=9) (b:=28) (esz0:=0) (el0:=fun _ _=> .nilp) (E:=117) (esz:=2) (el:=aS aM.cell ([]:List aM)) (by kernel_rfl) (by kernel_rfl)) (.trans (cO.fin (st':=⟨[k26 p,k10 s_,qK u0,(9,vO 21 false 0),(10,vI 0)],[(21,some (.arr 117 2 0 (aS aM.cell ([]:List aM))))]⟩) (cs:=[]) ⟨[],[(28,21)]⟩ [2,3,8,9,10] (by kernel_rfl) trivial) (cO.le (st':=⟨[k26 p,k10 s_,qK u0,(9,vO 21 false (([]:List aM).length)),(10,vI 0)],[af4]⟩) ⟨⟨tR,tR,tR,⟨_,rfl,eB.v (fG.one cW)⟩,tR,trivial⟩,⟨rfl,oW,trivial⟩⟩))) ?_
  refine aL [] (BA p s_ u0) (Ce p s_ u0) mZ hy (fun s f h=> ?_) ?_
  ·clear hy
   show bR _ _ _ _ _ _ ((KI p s_ u0) f) _
   unfold pR at h
   obtain⟨u1,k⟩:=s
   refine aQ (sz tT ⟨[k26 p,k10 s_,qK u0,DN u1,(10,vI k),(28,k53 p k)],Dz u1⟩ {} [] ?_)
   refine bI h (fun hb1 h=> ?_) (fun hb1 h=> ?_)
   ·refine ct hb1 ?_
    refine aP (aQ (aB (aQ (bE h fun u4 hr_2 h=> ?_))))
    refine aO h fun⟨a1,a2⟩ h=> ?_
    have q0:=uQ p s_ k hr_2
    refine rg tT ⟨[k26 p,k10 s_,qK u0,DN u1,(10,vI k),(46,vB (bif u4 then(!(at' u0.2 (Wu p k)))else false))],Dz u1⟩ (_::(eqs u4 5 ((gP (gY [(4,u4)]) [(4,true)]→All [(0:Int)≤k∧k<(p.ah.length:Int)])::(eqs u4 3 ((gP (gY [(4,u4)]) [(4,true)]→All [(0:Int)≤(at' p.ah k.toNat).bus∧(at' p.ah k.toNat).bus<(u0.2.length:Int)])::(eqs u4 3 [])))))) {yb:=[(4,u4)],an:=[(3,cA q0 [])] } [] ⟨q0,ae ⟨(fun hg=> ⟨a1 (bC hg),trivial⟩),ae ⟨(fun hg=> ⟨a2 (bC hg),trivial⟩),ae trivial⟩⟩⟩ ?_
    refine bI h (fun hb h=> ?_) (fun hb h=> ?_)
    ·refine ct hb ?_
     refine aO h fun⟨a1,a2⟩ h=> ?_
     refine rg tT ⟨[k26 p,k10 s_,qK u0,(9,vO 27 false ((u1++[(⟨2,k⟩:aM)]).length)),(10,vI k)],[(27,some (bW 117 2 aM.cell (u1++[(⟨2,k⟩:aM)])))]⟩ [[(⟨2,k⟩:aM)].length=1,aZ 1 2 (kg 2 [.int .i64 2,.int .i64 k]) (aS aM.cell [(⟨2,k⟩:aM)]),u1.length=u1.length,_,_,(u1++[(⟨2,k⟩:aM)]).length=u1.length+[(⟨2,k⟩:aM)].length,aZ (u1.length+[(⟨2,k⟩:aM)].length) 2 (Ff (aS aM.cell u1) u1.length (aS aM.cell [(⟨2,k⟩:aM)])) (aS aM.cell (u1++[(⟨2,k⟩:aM)]))] {an:=[(3, .arr [(⟨2,k⟩:aM)].length (aS aM.cell [(⟨2,k⟩:aM)])),(4, .arr (u1++[(⟨2,k⟩:aM)]).length (aS aM.cell (u1++[(⟨2,k⟩:aM)])))],fr:=[(3,26),(4,27)] } [] ⟨rfl,(by intro i hi j hj;match i,j,hi,hj with|0,0,_,_=>rfl|0,1,_,_=>rfl),rfl,a1,a2,List.length_append,kz _ _ _ _,trivial⟩ ?_
     refine ri tT ⟨[k26 p,k10 s_,qK u0,(9,vO 27 false ((u1++[(⟨2,k⟩:aM)]).length)),Qx k],[(27,some (bW 117 2 aM.cell (u1++[(⟨2,k⟩:aM)])))]⟩ [] {} [] trivial (cO.fin (st':=⟨[k26 p,k10 s_,qK u0,(9,vO 21 false ((u1++[(⟨2,k⟩:aM)]).length)),Qx k],[(21,some (bW 117 2 aM.cell (u1++[(⟨2,k⟩:aM)])))]⟩) (cs:=[]) ⟨[],[(27,21)]⟩ [2,3,8,9,10] (by kernel_rfl) trivial) ?_
     obtain rfl:=oi h
     exact lN
    ·refine cf hb ?_
     refine aP (rz tT ⟨[k26 p,k10 s_,qK u0,DN u1,Qx k],Dz u1⟩ {} [] ?_)
     obtain rfl:=oi h
     exact lN
   ·refine cf hb1 ?_
    refine aI (fz (afc p s_ u0 u1) []) ?_
    refine aX ?_
    obtain rfl:=oi h
    exact lB
  ·clear hy
   cases y with
   |brk z=>
    obtain⟨u6,rfl⟩: ∃q,q=z:=⟨_,rfl⟩
    unfold dZ
    refine⟨_, .refl, ?_⟩
    refine aQ (sz tT ⟨[k26 p,k10 s_,qK u0,DN u6,(11,vI 0)],Dz u6⟩ {} [] ?_)
    refine bE h fun y1 hy h=> ?_
    refine aL [] (BV p s_ u0) BZ mZ hy (fun s f h=> ?_) ?_
    ·clear hy
     show bR _ _ _ _ _ _ ((Lp p s_ u0) f) _
     unfold pX at h
     obtain⟨u2,i⟩:=s
     refine aQ (sz tT ⟨[k26 p,k10 s_,qK u0,DN u2,(11,vI i),(56,k65 p i)],Dz u2⟩ {} [] ?_)
     refine bI h (fun hb3 h=> ?_) (fun hb3 h=> ?_)
     ·refine ct hb3 ?_
      refine aP (aQ (aB (aQ (bE h fun u3 hr_3 h=> ?_))))
      refine aO h fun⟨a1,a2,a3⟩ h=> ?_
      have q0:=qc p s_ i hr_3
      refine dg tT mX ⟨[k26 p,k10 s_,qK u0,DN u2,(11,vI i),(83,vB (bif u3 then(!((at' u0.2 (WS i p))==(at' u0.2 (Zk i p))))else false))],Dz u2⟩ (_::(eqs u3 5 ((XT u3 i p)::(eqs u3 3 ((gP (gY [(4,u3)]) [(4,true)]→All [(0:Int)≤(at' p.ai i.toNat).a∧(at' p.ai i.toNat).a<(u0.2.length:Int)])::(eqs u3 6 ((XT u3 i p)::(eqs u3 3 ((gP (gY [(4,u3)]) [(4,true)]→All [(0:Int)≤(at' p.ai i.toNat).b∧(at' p.ai i.toNat).b<(u0.2.length:Int)])::(eqs u3 3 [])))))))))) {yb:=[(4,u3)],an:=[(3,cA q0 [])] } [] ⟨q0,ae ⟨(fun hg=> ⟨a1 (bC hg),trivial⟩),ae ⟨(fun hg=> ⟨a2 (bC hg),trivial⟩),ae ⟨(fun hg=> ⟨a1 (bC hg),trivial⟩),ae ⟨(fun hg=> ⟨a3 (bC hg),trivial⟩),ae trivial⟩⟩⟩⟩⟩ ?_
      refine bI h (fun hb2 h=> ?_) (fun hb2 h=> ?_)
      ·refine ct hb2 ?_
       refine aO h fun⟨a1,a2⟩ h=> ?_
       refine rg tT ⟨[k26 p,k10 s_,qK u0,(9,vO 36 false ((u2++[(⟨3,i⟩:aM)]).length)),(11,vI i)],[(36,some (bW 117 2 aM.cell (u2++[(⟨3,i⟩:aM)])))]⟩ [[(⟨3,i⟩:aM)].length=1,aZ 1 2 (kg 2 [.int .i64 3,.int .i64 i]) (aS aM.cell [(⟨3,i⟩:aM)]),u2.length=u2.length,_,_,(u2++[(⟨3,i⟩:aM)]).length=u2.length+[(⟨3,i⟩:aM)].length,aZ (u2.length+[(⟨3,i⟩:aM)].length) 2 (Ff (aS aM.cell u2) u2.length (aS aM.cell [(⟨3,i⟩:aM)])) (aS aM.cell (u2++[(⟨3,i⟩:aM)]))] {an:=[(3, .arr [(⟨3,i⟩:aM)].length (aS aM.cell [(⟨3,i⟩:aM)])),(4, .arr (u2++[(⟨3,i⟩:aM)]).length (aS aM.cell (u2++[(⟨3,i⟩:aM)])))],fr:=[(3,35),(4,36)] } [] ⟨rfl,(by intro i hi j hj;match i,j,hi,hj with|0,0,_,_=>rfl|0,1,_,_=>rfl),rfl,a1,a2,List.length_append,kz _ _ _ _,trivial⟩ ?_
       refine ri tT ⟨[k26 p,k10 s_,qK u0,(9,vO 36 false ((u2++[(⟨3,i⟩:aM)]).length)),Y6 i],[(36,some (bW 117 2 aM.cell (u2++[(⟨3,i⟩:aM)])))]⟩ [] {} [] trivial (cO.fin (st':=⟨[k26 p,k10 s_,qK u0,(9,vO 21 false ((u2++[(⟨3,i⟩:aM)]).length)),Y6 i],[(21,some (bW 117 2 aM.cell (u2++[(⟨3,i⟩:aM)])))]⟩) (cs:=[]) ⟨[],[(36,21)]⟩ [2,3,8,9,11] (by kernel_rfl) trivial) ?_
       obtain rfl:=oi h
       exact lN
      ·refine cf hb2 ?_
       refine aP (rz tT ⟨[k26 p,k10 s_,qK u0,DN u2,Y6 i],Dz u2⟩ {} [] ?_)
       obtain rfl:=oi h
       exact lN
     ·refine cf hb3 ?_
      refine aI (fz ⟨[DN u2],Dz u2⟩ []) ?_
      refine aX ?_
      obtain rfl:=oi h
      exact lB
    ·clear hy
     cases y1 with
     |brk z=>
      obtain⟨u5,rfl⟩: ∃q,q=z:=⟨_,rfl⟩
      unfold dZ
      refine⟨_, .refl, ?_⟩
      refine sg tT ⟨[(4,vD (bJ none 2 aM.cell u5)),(5,vI 0)],[]⟩ [u5.length=u5.length] {} [21] ⟨rfl,trivial⟩ ?_
      refine aR ?_
      obtain rfl:=oi h
      exact rl [sD (bJ none 2 aM.cell u5),sI 0]
     |ret v=>
      obtain rfl:=oi h
      unfold dZ
      intro e st hn ha hR
      cases e with
      |normal=>exact absurd rfl hn
      |exit id=>exact hR
      |goto l=>exact hR
      |ret=>exact hR
      |panic c=>exact hR
      |outgrown=>exact hR
   |ret v=>
    obtain rfl:=oi h
    unfold dZ
    intro e st hn ha hR
    cases e with
    |normal=>exact absurd rfl hn
    |exit id=>exact hR
    |goto l=>exact hR
    |ret=>exact hR
    |panic c=>exact hR
    |outgrown=>exact hR
def yg  :(Bool × Int)→Exit→St→Prop:=
  fun r=>bL TT [.tmp 4, .tmp 5] (.jl [sB r.1,sI r.2]) []
def DJ (p:au) (s_:aA):(Int × Int)→St:=
  fun zz=>match zz with|(u0,u1)=> ⟨[k26 p,k10 s_,(7,vI u0),(8,vI u1)],[]⟩
section
variable (p:au) (s_:aA) (u0:Int)
abbrev aeZ:St:=⟨[k26 p,k10 s_,(7,vI u0)],[]⟩
end
def DI (p:au) (s_:aA):Int→St:=
  fun u0=>(aeZ p s_ u0)
def Na (p:au) (s_:aA):(aY (Int × Int) (Ex Int (Bool × Int)))→Exit→St→Prop:=
  LQ 0 [] (DJ p s_) (DI p s_) yg
theorem MI (p:au) (s_:aA) {r:Bool × Int} (h:mG p s_=some r):Fn Try.prog 36 (Ms p s_) [] (.jl [sB r.1,sI r.2]) []:=by
 refine fN tT Try.func36 rfl rfl fun B=> ?_
 show bR _ _ _ _ _ _ (yg r) _
 unfold mG at h
 refine sz tT (Wh p s_) {fr:=[(0,2),(1,3)] } [2,3] ?_
 refine aQ (bE h fun r_ hr_ h=> ?_)
 have q0:=jU p s_ hr_
 refine rg tT (aeV p s_ r_) [_] {an:=[(2,cA q0 [])] } [] ⟨q0,trivial⟩ ?_
 refine aQ (sz tT ⟨[k26 p,k10 s_,(6,vI r_),(15,vB (!decide (r_=0)))],[]⟩ {} [] ?_)
 refine bI h (fun hb1 h=> ?_) (fun hb1 h=> ?_)
 ·refine ct hb1 ?_
  refine sz tT ⟨[(4,vB false),(5,vI r_)],[]⟩ {} [] ?_
  refine aR ?_
  obtain rfl:=oi h
  exact rl [sB false,sI r_]
 ·refine cf hb1 ?_
  refine aP (sz tT ⟨[k26 p,k10 s_,(7,vI 0)],[]⟩ {} [] ?_)
  refine aQ (sz tT ⟨[k26 p,k10 s_,(7,vI 0),(8,vI 0)],[]⟩ {} [] ?_)
  refine bE h fun y hy h=> ?_
  refine aL [] (DJ p s_) (DI p s_) yg hy (fun s f h=> ?_) ?_
  ·clear hy
   show bR _ _ _ _ _ _ ((Na p s_) f) _
   unfold qP at h
   obtain⟨u1,u0⟩:=s
   refine aQ (sz tT ⟨[k26 p,k10 s_,(7,vI u1),(8,vI u0),(21,k66 p u0)],[]⟩ {} [] ?_)
   refine bI h (fun hb h=> ?_) (fun hb h=> ?_)
   ·refine ct hb ?_
    refine aP (aQ (aB (aO h fun a1 h=> ?_)))
    refine rg tT ⟨[k26 p,k10 s_,X3 p u0 u1,(8,vI u0)],[]⟩ [_] {} [] ⟨a1,trivial⟩ ?_
    refine rz tT ⟨[k26 p,k10 s_,X3 p u0 u1,Hz u0],[]⟩ {} [] ?_
    obtain rfl:=oi h
    exact lN
   ·refine cf hb ?_
    refine aI (fz (aeZ p s_ u1) []) ?_
    refine aX ?_
    obtain rfl:=oi h
    exact lB
  ·clear hy
   cases y with
   |brk z=>
    obtain⟨u2,rfl⟩: ∃q,q=z:=⟨_,rfl⟩
    unfold dZ
    refine⟨_, .refl, ?_⟩
    refine aQ (bE h fun u3 hr_2 h=> ?_)
    have q0:=vv p s_ hr_2
    refine rg tT ⟨[(7,vI u2),(9,vI u3.1)],[]⟩ [_] {an:=[(2,cA q0 [])] } [] ⟨q0,trivial⟩ ?_
    refine sz tT ⟨[(4,vB (decide (u3.1=u2))),(5,vI 0)],[]⟩ {} [] ?_
    refine aR ?_
    obtain rfl:=oi h
    exact rl [sB (decide (u3.1=u2)),sI 0]
   |ret v=>
    obtain rfl:=oi h
    unfold dZ
    intro e st hn ha hR
    cases e with
    |normal=>exact absurd rfl hn
    |exit id=>exact hR
    |goto l=>exact hR
    |ret=>exact hR
    |panic c=>exact hR
    |outgrown=>exact hR
def qd  :Bool→Exit→St→Prop:=
  fun r=>bL TT [.tmp 4] (vB r) []
section
variable (b:List ay)
abbrev OL:Nat × TV:=(1,vD (Z7 b))
end
def vH (a:List ay) (b:List ay):Int→St:=
  fun i=> ⟨[EK a,OL b,(5,vI i)],[]⟩
def vK  :Unit→St:=
  fun _=> ⟨[],[]⟩
def Fh (a:List ay) (b:List ay):(aY Int (Ex Unit Bool))→Exit→St→Prop:=
  LQ 0 [] (vH a b) vK qd
theorem EG (a:List ay) (b:List ay) {r:Bool} (h:kF a b=some r):Fn Try.prog 86 [sD (Z7 a),sD (Z7 b)] [] (vB r) []:=by
 refine fN tT Try.func86 rfl rfl fun B=> ?_
 show bR _ _ _ _ _ _ (qd r) _
 unfold kF at h
 refine sz tT ⟨[EK a,OL b],[]⟩ {} [] ?_
 refine aQ (sz tT ⟨[EK a,OL b,(10,vB (!decide ((a.length:Int)=(b.length:Int))))],[]⟩ {} [] ?_)
 refine bI h (fun hb2 h=> ?_) (fun hb2 h=> ?_)
 ·refine ct hb2 ?_
  refine sz tT ⟨[(4,vB false)],[]⟩ {} [] ?_
  refine aR ?_
  obtain rfl:=oi h
  exact rl [sB false]
 ·refine cf hb2 ?_
  refine aP (aQ (sz tT ⟨[EK a,OL b,(5,vI 0)],[]⟩ {} [] ?_))
  refine bE h fun y hy h=> ?_
  refine aL [] (vH a b) vK qd hy (fun s f h=> ?_) ?_
  ·clear hy
   show bR _ _ _ _ _ _ ((Fh a b) f) _
   unfold iT at h
   obtain⟨i,rfl⟩: ∃q,q=s:=⟨_,rfl⟩
   refine aQ (sz tT ⟨[EK a,OL b,(5,vI i),(14,vB (decide (i<(a.length:Int))))],[]⟩ {} [] ?_)
   refine bI h (fun hb1 h=> ?_) (fun hb1 h=> ?_)
   ·refine ct hb1 ?_
    refine aP (aQ (aB (aQ (aO h fun⟨a1,a2⟩ h=> ?_))))
    refine dg tT mX ⟨[EK a,OL b,(5,vI i),(25,vB (!((decide (((at' a i.toNat).bus)=((at' b i.toNat).bus))) && ((decide (((at' a i.toNat).kind)=((at' b i.toNat).kind))) && ((decide (((at' a i.toNat).aV)=((at' b i.toNat).aV))) && ((decide (((at' a i.toNat).sync)=((at' b i.toNat).sync))) && ((decide (((at' a i.toNat).gM)=((at' b i.toNat).gM))) && true)))))))],[]⟩ [_,_] {} [] ⟨a1,a2,trivial⟩ ?_
    refine bI h (fun hb h=> ?_) (fun hb h=> ?_)
    ·refine ct hb ?_
     refine sz tT ⟨[(4,vB false)],[]⟩ {} [] ?_
     refine aR ?_
     obtain rfl:=oi h
     exact lR dw (dm 0) dz (bL.mk (.inr rfl) (p:=[]) (l:=[sB false]) (by kernel_rfl) trivial (eB.refl _) trivial)
    ·refine cf hb ?_
     refine aP (rz tT ⟨[EK a,OL b,k2 i],[]⟩ {} [] ?_)
     obtain rfl:=oi h
     exact lN
   ·refine cf hb1 ?_
    refine aI (fz ⟨[],[]⟩ []) ?_
    refine aX ?_
    obtain rfl:=oi h
    exact lB
  ·clear hy
   cases y with
   |brk z=>
    unfold dZ
    refine⟨_, .refl, ?_⟩
    refine sz tT ⟨[(4,vB true)],[]⟩ {} [] ?_
    refine aR ?_
    obtain rfl:=oi h
    exact rl [sB true]
   |ret v=>
    obtain rfl:=oi h
    unfold dZ
    intro e st hn ha hR
    cases e with
    |normal=>exact absurd rfl hn
    |exit id=>exact hR
    |goto l=>exact hR
    |ret=>exact hR
    |panic c=>exact hR
    |outgrown=>exact hR
def r9  :Bool→Exit→St→Prop:=
  fun r=>bL TT [.tmp 4] (vB r) []
section
variable (b:List dV)
abbrev Ol:Nat × TV:=(1,vD (bJ none 2 dV.cell b))
end
def y9 (a:List dV) (b:List dV):Int→St:=
  fun i=> ⟨[JQ a,Ol b,(5,vI i)],[]⟩
def yA  :Unit→St:=
  fun _=> ⟨[],[]⟩
def Hr (a:List dV) (b:List dV):(aY Int (Ex Unit Bool))→Exit→St→Prop:=
  LQ 0 [] (y9 a b) yA r9
theorem IC (a:List dV) (b:List dV) {r:Bool} (h:ng a b=some r):Fn Try.prog 148 [sD (bJ none 2 dV.cell a),sD (bJ none 2 dV.cell b)] [] (vB r) []:=by
 refine fN tT Try.func148 rfl rfl fun B=> ?_
 show bR _ _ _ _ _ _ (r9 r) _
 unfold ng at h
 refine sz tT ⟨[JQ a,Ol b],[]⟩ {} [] ?_
 refine aQ (sz tT ⟨[JQ a,Ol b,(10,vB (!decide ((a.length:Int)=(b.length:Int))))],[]⟩ {} [] ?_)
 refine bI h (fun hb2 h=> ?_) (fun hb2 h=> ?_)
 ·refine ct hb2 ?_
  refine sz tT ⟨[(4,vB false)],[]⟩ {} [] ?_
  refine aR ?_
  obtain rfl:=oi h
  exact rl [sB false]
 ·refine cf hb2 ?_
  refine aP (aQ (sz tT ⟨[JQ a,Ol b,(5,vI 0)],[]⟩ {} [] ?_))
  refine bE h fun y hy h=> ?_
  refine aL [] (y9 a b) yA r9 hy (fun s f h=> ?_) ?_
  ·clear hy
   show bR _ _ _ _ _ _ ((Hr a b) f) _
   unfold jL at h
   obtain⟨i,rfl⟩: ∃q,q=s:=⟨_,rfl⟩
   refine aQ (sz tT ⟨[JQ a,Ol b,(5,vI i),(14,vB (decide (i<(a.length:Int))))],[]⟩ {} [] ?_)
   refine bI h (fun hb1 h=> ?_) (fun hb1 h=> ?_)
   ·refine ct hb1 ?_
    refine aP (aQ (aB (aQ (aO h fun⟨a1,a2⟩ h=> ?_))))
    refine dg tT mX ⟨[JQ a,Ol b,(5,vI i),(25,vB (!((decide (((at' a i.toNat).amps)=((at' b i.toNat).amps))) && ((decide (((at' a i.toNat).jd)=((at' b i.toNat).jd))) && true))))],[]⟩ [_,_] {} [] ⟨a1,a2,trivial⟩ ?_
    refine bI h (fun hb h=> ?_) (fun hb h=> ?_)
    ·refine ct hb ?_
     refine sz tT ⟨[(4,vB false)],[]⟩ {} [] ?_
     refine aR ?_
     obtain rfl:=oi h
     exact lR dw (dm 0) dz (bL.mk (.inr rfl) (p:=[]) (l:=[sB false]) (by kernel_rfl) trivial (eB.refl _) trivial)
    ·refine cf hb ?_
     refine aP (rz tT ⟨[JQ a,Ol b,k2 i],[]⟩ {} [] ?_)
     obtain rfl:=oi h
     exact lN
   ·refine cf hb1 ?_
    refine aI (fz ⟨[],[]⟩ []) ?_
    refine aX ?_
    obtain rfl:=oi h
    exact lB
  ·clear hy
   cases y with
   |brk z=>
    unfold dZ
    refine⟨_, .refl, ?_⟩
    refine sz tT ⟨[(4,vB true)],[]⟩ {} [] ?_
    refine aR ?_
    obtain rfl:=oi h
    exact rl [sB true]
   |ret v=>
    obtain rfl:=oi h
    unfold dZ
    intro e st hn ha hR
    cases e with
    |normal=>exact absurd rfl hn
    |exit id=>exact hR
    |goto l=>exact hR
    |ret=>exact hR
    |panic c=>exact hR
    |outgrown=>exact hR
def Lr  :Bool→Exit→St→Prop:=
  fun r=>bL TT [.tmp 4] (vB r) []
section
variable (a:aH) (b:aH) (r_:Bool)
abbrev Xz:=(bif (decide (a.a=b.a))then(decide (a.b=b.b))else false)
abbrev Xv:=(bif (Xz a b)then(decide (a.kind=b.kind))else false)
abbrev Xx:=(bif (Xv a b)then(decide (a.most=b.most))else false)
abbrev Qy:=(bif (Xx a b)then(decide (a.gM=b.gM))else false)
abbrev afi:=(bif (Qy a b)then r_ else false)
end
theorem JS (a:aH) (b:aH) {r:Bool} (h:o9 a b=some r):Fn Try.prog 126 [.agg (k21 a),.agg (k21 b)] [] (vB r) []:=by
 refine fN tT Try.func126 rfl rfl fun B=> ?_
 show bR _ _ _ _ _ _ (Lr r) _
 unfold o9 at h
 refine sz tT ⟨[RX a,(3,amQ b)],[]⟩ {fr:=[(0,2),(1,3)] } [2,3] ?_
 refine aQ (bE h fun r_ hr_ h=> ?_)
 refine rg tT ⟨[(4,vB (afi a b r_))],[]⟩ (eqs (decide (a.a=b.a)) 6 (eqs (Xz a b) 6 (eqs (Xv a b) 6 (eqs (Xx a b) 6 (eqs (Qy a b) 5 [gP (gY [(5,decide (a.a=b.a)),(12,Xz a b),(19,Xv a b),(26,Xx a b),(33,Qy a b)]) [(33,true)]→All [Fn Try.prog 148 [sD (bJ none 2 dV.cell a.trip),sD (bJ none 2 dV.cell b.trip)] [] (vB r_) []],(Qy a b)=(Qy a b)]))))) {yb:=[(5,decide (a.a=b.a)),(12,Xz a b),(19,Xv a b),(26,Xx a b),(33,Qy a b)],an:=[(38, .call [] (vB r_) [])] } [] (ae (ae (ae (ae (ae ⟨(fun hg=> ⟨IC a.trip b.trip (d9 hr_ (bC hg)),trivial⟩),rfl,trivial⟩))))) ?_
 refine aR ?_
 obtain rfl:=oi h
 exact rl [sB (afi a b r_)]
def rX  :Bool→Exit→St→Prop:=
  fun r=>bL TT [.tmp 4] (vB r) []
section
variable (b:List aH)
abbrev N8:Nat × TV:=(1,vD (k92 b))
end
def y8 (a:List aH) (b:List aH):Int→St:=
  fun i=> ⟨[vT a,N8 b,(5,vI i)],[]⟩
def yu  :Unit→St:=
  fun _=> ⟨[],[]⟩
def Hy (a:List aH) (b:List aH):(aY Int (Ex Unit Bool))→Exit→St→Prop:=
  LQ 0 [] (y8 a b) yu rX
theorem H6 (a:List aH) (b:List aH) {r:Bool} (h:nH a b=some r):Fn Try.prog 87 [sD (k92 a),sD (k92 b)] [] (vB r) []:=by
 refine fN tT Try.func87 rfl rfl fun B=> ?_
 show bR _ _ _ _ _ _ (rX r) _
 unfold nH at h
 refine sz tT ⟨[vT a,N8 b],[]⟩ {} [] ?_
 refine aQ (sz tT ⟨[vT a,N8 b,(10,vB (!decide ((a.length:Int)=(b.length:Int))))],[]⟩ {} [] ?_)
 refine bI h (fun hb2 h=> ?_) (fun hb2 h=> ?_)
 ·refine ct hb2 ?_
  refine sz tT ⟨[(4,vB false)],[]⟩ {} [] ?_
  refine aR ?_
  obtain rfl:=oi h
  exact rl [sB false]
 ·refine cf hb2 ?_
  refine aP (aQ (sz tT ⟨[vT a,N8 b,(5,vI 0)],[]⟩ {} [] ?_))
  refine bE h fun y hy h=> ?_
  refine aL [] (y8 a b) yu rX hy (fun s f h=> ?_) ?_
  ·clear hy
   show bR _ _ _ _ _ _ ((Hy a b) f) _
   unfold jT at h
   obtain⟨i,rfl⟩: ∃q,q=s:=⟨_,rfl⟩
   refine aQ (sz tT ⟨[vT a,N8 b,(5,vI i),(14,vB (decide (i<(a.length:Int))))],[]⟩ {} [] ?_)
   refine bI h (fun hb1 h=> ?_) (fun hb1 h=> ?_)
   ·refine ct hb1 ?_
    refine aP (aQ (aB (aQ (bE h fun r_ hr_ h=> ?_))))
    refine aO h fun⟨a1,a2⟩ h=> ?_
    have q2:=JS (at' a i.toNat) (at' b i.toNat) hr_
    refine dg tT mX ⟨[vT a,N8 b,(5,vI i),(26,vB (!r_))],[]⟩ [_,_,_] {an:=[(8,cA q2 [])] } [] ⟨a1,a2,q2,trivial⟩ ?_
    refine bI h (fun hb h=> ?_) (fun hb h=> ?_)
    ·refine ct hb ?_
     refine sz tT ⟨[(4,vB false)],[]⟩ {} [] ?_
     refine aR ?_
     obtain rfl:=oi h
     exact lR dw (dm 0) dz (bL.mk (.inr rfl) (p:=[]) (l:=[sB false]) (by kernel_rfl) trivial (eB.refl _) trivial)
    ·refine cf hb ?_
     refine aP (rz tT ⟨[vT a,N8 b,k2 i],[]⟩ {} [] ?_)
     obtain rfl:=oi h
     exact lN
   ·refine cf hb1 ?_
    refine aI (fz ⟨[],[]⟩ []) ?_
    refine aX ?_
    obtain rfl:=oi h
    exact lB
  ·clear hy
   cases y with
   |brk z=>
    unfold dZ
    refine⟨_, .refl, ?_⟩
    refine sz tT ⟨[(4,vB true)],[]⟩ {} [] ?_
    refine aR ?_
    obtain rfl:=oi h
    exact rl [sB true]
   |ret v=>
    obtain rfl:=oi h
    unfold dZ
    intro e st hn ha hR
    cases e with
    |normal=>exact absurd rfl hn
    |exit id=>exact hR
    |goto l=>exact hR
    |ret=>exact hR
    |panic c=>exact hR
    |outgrown=>exact hR
def sQ  :Bool→Exit→St→Prop:=
  fun r=>bL TT [.tmp 4] (vB r) []
section
variable (b:List aK)
abbrev OM:Nat × TV:=(1,vD (Wq b))
end
def zb (a:List aK) (b:List aK):Int→St:=
  fun i=> ⟨[Fa a,OM b,(5,vI i)],[]⟩
def yY  :Unit→St:=
  fun _=> ⟨[],[]⟩
def Ip (a:List aK) (b:List aK):(aY Int (Ex Unit Bool))→Exit→St→Prop:=
  LQ 0 [] (zb a b) yY sQ
theorem Ij (a:List aK) (b:List aK) {r:Bool} (h:mW a b=some r):Fn Try.prog 88 [sD (Wq a),sD (Wq b)] [] (vB r) []:=by
 refine fN tT Try.func88 rfl rfl fun B=> ?_
 show bR _ _ _ _ _ _ (sQ r) _
 unfold mW at h
 refine sz tT ⟨[Fa a,OM b],[]⟩ {} [] ?_
 refine aQ (sz tT ⟨[Fa a,OM b,(10,vB (!decide ((a.length:Int)=(b.length:Int))))],[]⟩ {} [] ?_)
 refine bI h (fun hb2 h=> ?_) (fun hb2 h=> ?_)
 ·refine ct hb2 ?_
  refine sz tT ⟨[(4,vB false)],[]⟩ {} [] ?_
  refine aR ?_
  obtain rfl:=oi h
  exact rl [sB false]
 ·refine cf hb2 ?_
  refine aP (aQ (sz tT ⟨[Fa a,OM b,(5,vI 0)],[]⟩ {} [] ?_))
  refine bE h fun y hy h=> ?_
  refine aL [] (zb a b) yY sQ hy (fun s f h=> ?_) ?_
  ·clear hy
   show bR _ _ _ _ _ _ ((Ip a b) f) _
   unfold jQ at h
   obtain⟨i,rfl⟩: ∃q,q=s:=⟨_,rfl⟩
   refine aQ (sz tT ⟨[Fa a,OM b,(5,vI i),(14,vB (decide (i<(a.length:Int))))],[]⟩ {} [] ?_)
   refine bI h (fun hb1 h=> ?_) (fun hb1 h=> ?_)
   ·refine ct hb1 ?_
    refine aP (aQ (aB (aQ (aO h fun⟨a1,a2⟩ h=> ?_))))
    refine dg tT mX ⟨[Fa a,OM b,(5,vI i),(25,vB (!((decide ((((at' a i.toNat).aC).e0)=(((at' b i.toNat).aC).e0))) && ((decide ((((at' a i.toNat).aC).e1)=(((at' b i.toNat).aC).e1))) && ((decide (((at' a i.toNat).aV)=((at' b i.toNat).aV))) && ((decide (((at' a i.toNat).kJ)=((at' b i.toNat).kJ))) && true))))))],[]⟩ [_,_] {} [] ⟨a1,a2,trivial⟩ ?_
    refine bI h (fun hb h=> ?_) (fun hb h=> ?_)
    ·refine ct hb ?_
     refine sz tT ⟨[(4,vB false)],[]⟩ {} [] ?_
     refine aR ?_
     obtain rfl:=oi h
     exact lR dw (dm 0) dz (bL.mk (.inr rfl) (p:=[]) (l:=[sB false]) (by kernel_rfl) trivial (eB.refl _) trivial)
    ·refine cf hb ?_
     refine aP (rz tT ⟨[Fa a,OM b,k2 i],[]⟩ {} [] ?_)
     obtain rfl:=oi h
     exact lN
   ·refine cf hb1 ?_
    refine aI (fz ⟨[],[]⟩ []) ?_
    refine aX ?_
    obtain rfl:=oi h
    exact lB
  ·clear hy
   cases y with
   |brk z=>
    unfold dZ
    refine⟨_, .refl, ?_⟩
    refine sz tT ⟨[(4,vB true)],[]⟩ {} [] ?_
    refine aR ?_
    obtain rfl:=oi h
    exact rl [sB true]
   |ret v=>
    obtain rfl:=oi h
    unfold dZ
    intro e st hn ha hR
    cases e with
    |normal=>exact absurd rfl hn
    |exit id=>exact hR
    |goto l=>exact hR
    |ret=>exact hR
    |panic c=>exact hR
    |outgrown=>exact hR
def JI  :Bool→Exit→St→Prop:=
  fun r=>bL TT [.tmp 4] (vB r) []
section
variable (a:au) (b:au) (r_:Bool) (u0:Bool)
abbrev afz:List SV:=[.agg (k22 a),.agg (k22 b)]
abbrev QZ:=(bif (decide (a.ax=b.ax))then r_ else false)
abbrev Oh:=(bif (QZ a b r_)then u0 else false)
abbrev abC:=(gY [(5,decide (a.ax=b.ax)),(12,QZ a b r_),(19,Oh a b r_ u0)])
end
theorem Ja (a:au) (b:au) {r:Bool} (h:nE a b=some r):Fn Try.prog 39 (afz a b) [] (vB r) []:=by
 refine fN tT Try.func39 rfl rfl fun B=> ?_
 show bR _ _ _ _ _ _ (JI r) _
 unfold nE at h
 refine sz tT ⟨[k26 a,bg b],[]⟩ {fr:=[(0,2),(1,3)] } [2,3] ?_
 refine aQ (bE h fun r_ hr_ h=> ?_)
 refine bE h fun u0 hr_1 h=> ?_
 refine bE h fun u1 hr_2 h=> ?_
 refine rg tT ⟨[(4,vB (bif (Oh a b r_ u0)then u1 else false))],[]⟩ (eqs (decide (a.ax=b.ax)) 5 ((gP (abC a b r_ u0) [(5,true)]→All [Fn Try.prog 86 [sD (k23 a),sD (k23 b)] [] (vB r_) []])::((decide (a.ax=b.ax))=(decide (a.ax=b.ax)))::(eqs (QZ a b r_) 5 ((gP (abC a b r_ u0) [(12,true)]→All [Fn Try.prog 87 [sD (k24 a),sD (k24 b)] [] (vB u0) []])::((QZ a b r_)=(QZ a b r_))::(eqs (Oh a b r_ u0) 5 [gP (abC a b r_ u0) [(19,true)]→All [Fn Try.prog 88 [sD (k25 a),sD (k25 b)] [] (vB u1) []],(Oh a b r_ u0)=(Oh a b r_ u0)]))))) {yb:=[(5,decide (a.ax=b.ax)),(12,QZ a b r_),(19,Oh a b r_ u0)],an:=[(10, .call [] (vB r_) []),(17, .call [] (vB u0) []),(24, .call [] (vB u1) [])] } [] (ae ⟨(fun hg=> ⟨EG a.ah b.ah (d9 hr_ (bC hg)),trivial⟩),rfl,ae ⟨(fun hg=> ⟨H6 a.ai b.ai (d9 hr_1 (bC hg)),trivial⟩),rfl,ae ⟨(fun hg=> ⟨Ij a.af b.af (d9 hr_2 (bC hg)),trivial⟩),rfl,trivial⟩⟩⟩) ?_
 refine aR ?_
 obtain rfl:=oi h
 exact rl [sB (bif (Oh a b r_ u0)then u1 else false)]
def ig  :Int→Exit→St→Prop:=
  fun r=>bL TT [.tmp 6] (vI r) []
section
variable (x:aD)
abbrev iH:Nat × TV:=(4,ahW x)
end
def yO (p:au) (x:aD) (b:Int):(Int × Int)→St:=
  fun zz=>match zz with|(n,k)=> ⟨[(2,vI b),bg p,iH x,(7,vI n),(8,vI k)],[]⟩
section
variable (b:Int) (p:au) (x:aD) (n1:Int)
abbrev XM:St:=⟨[(2,vI b),bg p,iH x,(7,vI n1)],[]⟩
end
def yZ (p:au) (x:aD) (b:Int):Int→St:=
  fun n1=>(XM b p x n1)
def IW (p:au) (x:aD) (b:Int):(aY (Int × Int) (Ex Int Int))→Exit→St→Prop:=
  LQ 0 [] (yO p x b) (yZ p x b) ig
section
variable (b:Int) (p:au) (x:aD) (n2:Int) (i:Int)
abbrev aa3:St:=⟨[(2,vI b),bg p,iH x,(7,vI n2),(9,vI i)],[]⟩
end
def zC (p:au) (x:aD) (b:Int):(Int × Int)→St:=
  fun zz=>match zz with|(n2,i)=>(aa3 b p x n2 i)
def zB (p:au) (x:aD) (b:Int):Int→St:=
  fun n3=>(XM b p x n3)
def Iq (p:au) (x:aD) (b:Int):(aY (Int × Int) (Ex Int Int))→Exit→St→Prop:=
  LQ 2 [] (zC p x b) (zB p x b) ig
section
variable (b:Int) (p:au) (x:aD) (n5:Int) (r_:Int)
abbrev abY:St:=⟨[(2,vI b),bg p,iH x,(7,vI n5),(10,vI r_)],[]⟩
end
def yc (p:au) (x:aD) (b:Int):(Int × Int)→St:=
  fun zz=>match zz with|(n5,r_)=>(abY b p x n5 r_)
def yT  :Int→St:=
  fun n6=> ⟨[(7,vI n6)],[]⟩
def q9 (p:au) (x:aD) (b:Int):(aY (Int × Int) (Ex Int Int))→Exit→St→Prop:=
  LQ 4 [] (yc p x b) yT ig
def yj (p:au) (x:aD) (b:Int) (r_:Int):(Int × Int)→St:=
  fun zz=>match zz with|(n7,k1)=> ⟨[(2,vI b),bg p,iH x,(7,vI n7),(10,vI r_),(11,vI k1)],[]⟩
def yC (p:au) (x:aD) (b:Int) (r_:Int):Int→St:=
  fun n8=>(abY b p x n8 r_)
def IE (p:au) (x:aD) (b:Int) (r_:Int):(aY (Int × Int) (Ex Int (aY (Int × Int) (Ex Int Int))))→Exit→St→Prop:=
  LQ 6 [5] (yj p x b r_) (yC p x b r_) (q9 p x b)
section
variable (b:Int) (p:au) (x:aD) (n2:Int) (i:Int)
abbrev afb:St:=⟨[(2,vI b),bg p,iH x,(7,vI (IntKind.wrap .i64 (n2 - (at' x.ai i.toNat)))),(9,vI i)],[]⟩
end
theorem IY (p:au) (x:aD) (b:Int) {r:Int} (h:nk p x b=some r):Fn Try.prog 127 [.agg (k22 p),.agg (abZ x),sI b] [] (vI r) []:=by
 refine fN tT Try.func127 rfl rfl fun B=> ?_
 show bR _ _ _ _ _ _ (ig r) _
 unfold nk at h
 refine sz tT ⟨[(2,vI b),bg p,iH x],[]⟩ {fr:=[(0,2),(1,3)] } [2,3] ?_
 refine sz tT ⟨[(2,vI b),bg p,iH x,(7,vI 0)],[]⟩ {} [] ?_
 refine aQ (sz tT ⟨[(2,vI b),bg p,iH x,(7,vI 0),(8,vI 0)],[]⟩ {} [] ?_)
 refine bE h fun y hy h=> ?_
 refine aL [] (yO p x b) (yZ p x b) ig hy (fun s f h=> ?_) ?_
 ·clear hy
  show bR _ _ _ _ _ _ ((IW p x b) f) _
  unfold mM at h
  obtain⟨n,k⟩:=s
  refine aQ (sz tT ⟨[(2,vI b),bg p,iH x,(7,vI n),(8,vI k),(16,ady x k)],[]⟩ {} [] ?_)
  refine bI h (fun hb1 h=> ?_) (fun hb1 h=> ?_)
  ·refine ct hb1 ?_
   refine aP (aQ (aB (aQ (aO h fun a1 h=> ?_))))
   refine rg tT ⟨[(2,vI b),bg p,iH x,(7,vI n),(8,vI k),(26,vB (decide ((k55 p k)=b)))],[]⟩ [_] {} [] ⟨a1,trivial⟩ ?_
   refine bI h (fun hb h=> ?_) (fun hb h=> ?_)
   ·refine ct hb ?_
    refine aO h fun a1 h=> ?_
    refine rg tT ⟨[(2,vI b),bg p,iH x,(7,vI (IntKind.wrap .i64 (n+(at' x.ah k.toNat)))),(8,vI k)],[]⟩ [_] {} [] ⟨a1,trivial⟩ ?_
    refine rz tT ⟨[(2,vI b),bg p,iH x,(7,vI (IntKind.wrap .i64 (n+(at' x.ah k.toNat)))),Hz k],[]⟩ {} [] ?_
    obtain rfl:=oi h
    exact lN
   ·refine cf hb ?_
    refine aP (rz tT ⟨[(2,vI b),bg p,iH x,(7,vI n),Hz k],[]⟩ {} [] ?_)
    obtain rfl:=oi h
    exact lN
  ·refine cf hb1 ?_
   refine aI (fz (XM b p x n) []) ?_
   refine aX ?_
   obtain rfl:=oi h
   exact lB
 ·clear hy
  cases y with
  |brk z=>
   obtain⟨n1,rfl⟩: ∃q,q=z:=⟨_,rfl⟩
   unfold dZ
   refine⟨_, .refl, ?_⟩
   refine aQ (sz tT ⟨[(2,vI b),bg p,iH x,(7,vI n1),(9,vI 0)],[]⟩ {} [] ?_)
   refine bE h fun y2 hy h=> ?_
   refine aL [] (zC p x b) (zB p x b) ig hy (fun s f h=> ?_) ?_
   ·clear hy
    show bR _ _ _ _ _ _ ((Iq p x b) f) _
    unfold mI at h
    obtain⟨n2,i⟩:=s
    refine aQ (sz tT ⟨[(2,vI b),bg p,iH x,(7,vI n2),(9,vI i),(38,adl x i)],[]⟩ {} [] ?_)
    refine bI h (fun hb5 h=> ?_) (fun hb5 h=> ?_)
    ·refine ct hb5 ?_
     refine aP (bE h fun y1 hy h=> ?_)
     refine KX (o:=y1) (fun n4=>(aa3 b p x n4 i)) ?_ ?_
     ·replace h:=hy
      clear hy
      refine aB (aQ (aQ (aO h fun a1 h=> ?_)))
      refine rg tT ⟨[(2,vI b),bg p,iH x,(7,vI n2),(9,vI i),(48,vB (decide (((at' p.ai i.toNat).a)=b)))],[]⟩ [_] {} [] ⟨a1,trivial⟩ ?_
      refine bI h (fun hb4 h=> ?_) (fun hb4 h=> ?_)
      ·refine ct hb4 ?_
       refine aO h fun a1 h=> ?_
       refine rg tT (afb b p x n2 i) [_] {} [] ⟨a1,trivial⟩ ?_
       refine aQ (aO h fun a1 h=> ?_)
       refine rg tT ⟨[(2,vI b),bg p,iH x,(7,vI (IntKind.wrap .i64 (n2 - (at' x.ai i.toNat)))),(9,vI i),(63,vB (decide (((at' p.ai i.toNat).b)=b)))],[]⟩ [_] {} [] ⟨a1,trivial⟩ ?_
       refine bI h (fun hb2 h=> ?_) (fun hb2 h=> ?_)
       ·refine ct hb2 ?_
        refine aO h fun a1 h=> ?_
        refine rg tT ⟨[(2,vI b),bg p,iH x,(7,vI (IntKind.wrap .i64 ((IntKind.wrap .i64 (n2 - (at' x.ai i.toNat)))+(at' x.ai i.toNat)))),(9,vI i)],[]⟩ [_] {} [] ⟨a1,trivial⟩ ?_
        obtain rfl:=oi h
        exact⟨rfl,by kernel_rfl⟩
       ·refine cf hb2 ?_
        refine aI (fz (afb b p x n2 i) []) ?_
        refine aP ?_
        obtain rfl:=oi h
        exact⟨rfl,by kernel_rfl⟩
      ·refine cf hb4 ?_
       refine aP (aQ (aO h fun a1 h=> ?_))
       refine rg tT ⟨[(2,vI b),bg p,iH x,(7,vI n2),(9,vI i),(63,vB (decide (((at' p.ai i.toNat).b)=b)))],[]⟩ [_] {} [] ⟨a1,trivial⟩ ?_
       refine bI h (fun hb3 h=> ?_) (fun hb3 h=> ?_)
       ·refine ct hb3 ?_
        refine aO h fun a1 h=> ?_
        refine rg tT ⟨[(2,vI b),bg p,iH x,(7,vI (IntKind.wrap .i64 (n2+(at' x.ai i.toNat)))),(9,vI i)],[]⟩ [_] {} [] ⟨a1,trivial⟩ ?_
        obtain rfl:=oi h
        exact⟨rfl,by kernel_rfl⟩
       ·refine cf hb3 ?_
        refine aI (fz (aa3 b p x n2 i) []) ?_
        refine aP ?_
        obtain rfl:=oi h
        exact⟨rfl,by kernel_rfl⟩
     ·clear hy
      obtain⟨n4,rfl⟩: ∃q,q=y1:=⟨_,rfl⟩
      refine rz tT ⟨[(2,vI b),bg p,iH x,(7,vI n4),abj i],[]⟩ {} [] ?_
      obtain rfl:=oi h
      exact lN
    ·refine cf hb5 ?_
     refine aI (fz (XM b p x n2) []) ?_
     refine aX ?_
     obtain rfl:=oi h
     exact lB
   ·clear hy
    cases y2 with
    |brk z=>
     obtain⟨n3,rfl⟩: ∃q,q=z:=⟨_,rfl⟩
     unfold dZ
     refine⟨_, .refl, ?_⟩
     refine aQ (sz tT ⟨[(2,vI b),bg p,iH x,(7,vI n3),(10,vI 0)],[]⟩ {} [] ?_)
     refine bE h fun y4 hy h=> ?_
     refine aL [] (yc p x b) yT ig hy (fun s f h=> ?_) ?_
     ·clear hy
      show bR _ _ _ _ _ _ ((q9 p x b) f) _
      unfold mR at h
      obtain⟨n5,r_⟩:=s
      refine aQ (sz tT ⟨[(2,vI b),bg p,iH x,(7,vI n5),(10,vI r_),(75,ab0 x r_)],[]⟩ {} [] ?_)
      refine bI h (fun hb11 h=> ?_) (fun hb11 h=> ?_)
      ·refine ct hb11 ?_
       refine aP (aQ (aB (sz tT ⟨[(2,vI b),bg p,iH x,(7,vI n5),(10,vI r_),(11,vI 0)],[]⟩ {} [] ?_)))
       refine bE h fun y3 hy h=> ?_
       refine aL [5] (yj p x b r_) (yC p x b r_) (q9 p x b) hy (fun s f h=> ?_) ?_
       ·clear hy
        show bR _ _ _ _ _ _ ((IE p x b r_) f) _
        unfold fD at h
        obtain⟨n7,k1⟩:=s
        refine aQ (sz tT ⟨[(2,vI b),bg p,iH x,(7,vI n7),(10,vI r_),(11,vI k1),(79,vB (decide (k1<2)))],[]⟩ {} [] ?_)
        refine bI h (fun hb10 h=> ?_) (fun hb10 h=> ?_)
        ·refine ct hb10 ?_
         refine aP (aQ (aB (aQ ?_)))
         refine bI h (fun hb6 h=> ?_) (fun _ h=> ?_)
         ·skip
          refine aI (cO.le (st':=⟨[(2,vI b),bg p,iH x,(7,vI n7),(10,vI r_),(11,vI 0),(79,vB (decide (k1<2)))],[]⟩) ⟨⟨tR,tR,tR,tR,tR,⟨_,rfl,eB.v (fG.one (eZ.of (congrArg (fun n=>CV.d (.int .i64 n)) (of_decide_eq_true hb6))))⟩,tR,trivial⟩,trivial⟩) ?_
          refine aO h fun a1 h=> ?_
          refine rg tT ⟨[(2,vI b),bg p,iH x,(7,vI n7),(10,vI r_),(11,vI 0),(91,vB (decide ((X8 p r_)=b)))],[]⟩ [_,(0:Int)≤0∧(0:Int)<(2:Nat)] {} [] ⟨a1,(by decide),trivial⟩ ?_
          refine bI h (fun hb7 h=> ?_) (fun hb7 h=> ?_)
          ·refine ct hb7 ?_
           refine aO h fun a1 h=> ?_
           refine rg tT ⟨[(2,vI b),bg p,iH x,(7,vI (IntKind.wrap .i64 (n7 - (MN x r_)))),(10,vI r_),(11,vI 0)],[]⟩ [_,(0:Int)≤0∧(0:Int)<(2:Nat)] {} [] ⟨a1,(by decide),trivial⟩ ?_
           refine rz tT ⟨[(2,vI b),bg p,iH x,(7,vI (IntKind.wrap .i64 (n7 - (MN x r_)))),(10,vI r_),(11,vI 1)],[]⟩ {} [] ?_
           obtain rfl:=oi h
           exact lN
          ·refine cf hb7 ?_
           refine aP (rz tT ⟨[(2,vI b),bg p,iH x,(7,vI n7),(10,vI r_),(11,vI 1)],[]⟩ {} [] ?_)
           obtain rfl:=oi h
           exact lN
         ·skip
          refine aO h fun a1 h=> ?_
          refine aI (cO.le (st':=⟨[(2,vI b),bg p,iH x,(7,vI n7),(10,vI r_),(11,vI 1),(79,vB (decide (k1<2)))],[]⟩) ⟨⟨tR,tR,tR,tR,tR,⟨_,rfl,eB.v (fG.one (eZ.of (congrArg (fun n=>CV.d (.int .i64 n)) a1)))⟩,tR,trivial⟩,trivial⟩) ?_
          refine aO h fun a1 h=> ?_
          refine rg tT ⟨[(2,vI b),bg p,iH x,(7,vI n7),(10,vI r_),(11,vI 1),(91,vB (decide ((XC p r_)=b)))],[]⟩ [_,(0:Int)≤1∧(1:Int)<(2:Nat)] {} [] ⟨a1,(by decide),trivial⟩ ?_
          refine bI h (fun hb9 h=> ?_) (fun hb9 h=> ?_)
          ·refine ct hb9 ?_
           refine aO h fun a1 h=> ?_
           refine rg tT ⟨[(2,vI b),bg p,iH x,(7,vI (IntKind.wrap .i64 (n7 - (Nk x r_)))),(10,vI r_),(11,vI 1)],[]⟩ [_,(0:Int)≤1∧(1:Int)<(2:Nat)] {} [] ⟨a1,(by decide),trivial⟩ ?_
           refine rz tT ⟨[(2,vI b),bg p,iH x,(7,vI (IntKind.wrap .i64 (n7 - (Nk x r_)))),(10,vI r_),(11,vI 2)],[]⟩ {} [] ?_
           obtain rfl:=oi h
           exact lN
          ·refine cf hb9 ?_
           refine aP (rz tT ⟨[(2,vI b),bg p,iH x,(7,vI n7),(10,vI r_),(11,vI 2)],[]⟩ {} [] ?_)
           obtain rfl:=oi h
           exact lN
        ·refine cf hb10 ?_
         refine aI (fz (abY b p x n7 r_) []) ?_
         refine aX ?_
         obtain rfl:=oi h
         exact lB
       ·clear hy
        cases y3 with
        |brk z=>
         obtain⟨n8,rfl⟩: ∃q,q=z:=⟨_,rfl⟩
         unfold dZ
         refine⟨_, .refl, ?_⟩
         refine rz tT ⟨[(2,vI b),bg p,iH x,(7,vI n8),Qx r_],[]⟩ {} [] ?_
         obtain rfl:=oi h
         exact lN
        |ret v=>
         obtain rfl:=oi h
         unfold dZ
         intro e st hn ha hR
         cases e with
         |normal=>exact absurd rfl hn
         |exit id=>simp only [qW (b:=5) ha rfl,cond_false];exact hR
         |goto l=>exact hR
         |ret=>exact hR
         |panic c=>exact hR
         |outgrown=>exact hR
      ·refine cf hb11 ?_
       refine aI (fz ⟨[(7,vI n5)],[]⟩ []) ?_
       refine aX ?_
       obtain rfl:=oi h
       exact lB
     ·clear hy
      cases y4 with
      |brk z=>
       obtain⟨n6,rfl⟩: ∃q,q=z:=⟨_,rfl⟩
       unfold dZ
       refine⟨_, .refl, ?_⟩
       refine sz tT ⟨[(6,vI n6)],[]⟩ {} [] ?_
       refine aR ?_
       obtain rfl:=oi h
       exact rl [sI n6]
      |ret v=>
       obtain rfl:=oi h
       unfold dZ
       intro e st hn ha hR
       cases e with
       |normal=>exact absurd rfl hn
       |exit id=>exact hR
       |goto l=>exact hR
       |ret=>exact hR
       |panic c=>exact hR
       |outgrown=>exact hR
    |ret v=>
     obtain rfl:=oi h
     unfold dZ
     intro e st hn ha hR
     cases e with
     |normal=>exact absurd rfl hn
     |exit id=>exact hR
     |goto l=>exact hR
     |ret=>exact hR
     |panic c=>exact hR
     |outgrown=>exact hR
  |ret v=>
   obtain rfl:=oi h
   unfold dZ
   intro e st hn ha hR
   cases e with
   |normal=>exact absurd rfl hn
   |exit id=>exact hR
   |goto l=>exact hR
   |ret=>exact hR
   |panic c=>exact hR
   |outgrown=>exact hR
def eG  :Bool→Exit→St→Prop:=
  fun r=>bL TT [.tmp 6] (vB r) []
def wL (p:au) (s_:aA) (x:aD):Int→St:=
  fun k=>(agC p s_ x k)
def wS (p:au) (s_:aA) (x:aD):Unit→St:=
  fun _=>(PK p s_ x)
def Gq (p:au) (s_:aA) (x:aD):(aY Int (Ex Unit Bool))→Exit→St→Prop:=
  LQ 0 [] (wL p s_ x) (wS p s_ x) eG
def wX (p:au) (s_:aA) (x:aD):Int→St:=
  fun i=> ⟨[bg p,bG s_,eP x,(9,vI i)],[]⟩
def wG (p:au) (s_:aA) (x:aD):Unit→St:=
  fun _=>(PK p s_ x)
def GA (p:au) (s_:aA) (x:aD):(aY Int (Ex Unit Bool))→Exit→St→Prop:=
  LQ 2 [] (wX p s_ x) (wG p s_ x) eG
def wN (p:au) (s_:aA) (x:aD):Int→St:=
  fun u0=> ⟨[bg p,bG s_,eP x,(11,vI u0)],[]⟩
section
variable (p:au) (x:aD)
abbrev afm:St:=⟨[bg p,eP x],[]⟩
end
def xu (p:au) (x:aD):Unit→St:=
  fun _=>(afm p x)
def qm (p:au) (s_:aA) (x:aD):(aY Int (Ex Unit Bool))→Exit→St→Prop:=
  LQ 4 [] (wN p s_ x) (xu p x) eG
def wZ (p:au) (s_:aA) (x:aD) (u0:Int):(Int × Int)→St:=
  fun zz=>match zz with|(u1,k1)=> ⟨[bg p,bG s_,eP x,(11,vI u0),(12,vI u1),(13,vI k1)],[]⟩
section
variable (p:au) (s_:aA) (x:aD) (u0:Int) (u1:Int)
abbrev afw:St:=⟨[bg p,bG s_,eP x,(11,vI u0),(12,vI u1)],[]⟩
end
def wY (p:au) (s_:aA) (x:aD) (u0:Int):Int→St:=
  fun u1=>(afw p s_ x u0 u1)
def GJ (p:au) (s_:aA) (x:aD) (u0:Int):(aY (Int × Int) (Ex Int (aY Int (Ex Unit Bool))))→Exit→St→Prop:=
  LQ 6 [5] (wZ p s_ x u0) (wY p s_ x u0) (qm p s_ x)
def wT (p:au) (x:aD):Int→St:=
  fun b=> ⟨[bg p,eP x,(16,vI b)],[]⟩
def wR  :Unit→St:=
  fun _=> ⟨[],[]⟩
def Gv (p:au) (x:aD):(aY Int (Ex Unit Bool))→Exit→St→Prop:=
  LQ 8 [] (wT p x) wR eG
section
variable (x:aD) (k:Int) (p:au) (s_:aA) (i:Int) (u0:Int) (u1:Int)
abbrev ae7:=(eqs (Oj x k) 4 ((gP (gY [(6,Oj x k)]) [(6,false)]→All [(0:Int)≤k∧k<(x.ah.length:Int)])::(eqs (Oj x k) 4 [])))
abbrev aeP:St:=⟨[bg p,bG s_,eP x,(7,k3 k)],[]⟩
abbrev afg:St:=⟨[bg p,bG s_,eP x,abj i],[]⟩
abbrev UR:=(decide ((at' x.ai i.toNat)<(IntKind.wrap .i64 (0 - 0))))
abbrev UJ:=(decide (0≤(X8 p u0)))
abbrev Hg:=(decide ((MN x u0)<0))
abbrev afB:=(eqs (Hg x u0) 5 ((gP (gY [(8,Hg x u0)]) [(8,false)]→All [(0:Int)≤u0∧u0<(x.af.length:Int)])::((Hg x u0)=(Hg x u0))::(gP (gY [(8,Hg x u0)]) [(8,false)]→All [(0:Int)≤0∧(0:Int)<(2:Nat)])::(eqs (Hg x u0) 4 [])))
abbrev aft:St:=⟨[bg p,bG s_,eP x,(11,vI u0),(12,vI (IntKind.wrap .i64 (u1+(MN x u0)))),(13,vI 0)],[]⟩
abbrev afv:St:=⟨[bg p,bG s_,eP x,(11,vI u0),(12,vI (IntKind.wrap .i64 (u1+(MN x u0)))),(13,vI 1)],[]⟩
abbrev G8:=(decide ((Nk x u0)<0))
abbrev afa:=(eqs (G8 x u0) 5 ((gP (gY [(8,G8 x u0)]) [(8,false)]→All [(0:Int)≤u0∧u0<(x.af.length:Int)])::((G8 x u0)=(G8 x u0))::(gP (gY [(8,G8 x u0)]) [(8,false)]→All [(0:Int)≤1∧(1:Int)<(2:Nat)])::(eqs (G8 x u0) 4 [])))
abbrev afx:St:=⟨[bg p,bG s_,eP x,(11,vI u0),(12,vI (IntKind.wrap .i64 (u1+(Nk x u0)))),(13,vI 1)],[]⟩
abbrev aff:St:=⟨[bg p,bG s_,eP x,(11,vI u0),(12,vI (IntKind.wrap .i64 (u1+(Nk x u0)))),(13,vI 2)],[]⟩
end
theorem Gx (p:au) (s_:aA) (x:aD) {r:Bool} (h:lK p s_ x=some r):Fn Try.prog 90 (V3 p s_ x) [] (vB r) []:=by
 refine fN tT Try.func90 rfl rfl fun B=> ?_
 show bR _ _ _ _ _ _ (eG r) _
 unfold lK at h
 refine sz tT (PK p s_ x) {fr:=[(0,3),(1,4),(2,5)] } [3,4,5] ?_
 refine aQ (sg tT ⟨[bg p,bG s_,eP x,(41,alF p x)],[]⟩ (aiY p x) {yb:=[(7,adh p x),(16,adt p x)] } [] (ae (ae trivial)) ?_)
 refine bI h (fun hb21 h=> ?_) (fun hb21 h=> ?_)
 ·refine ct hb21 ?_
  refine sz tT ⟨[(6,vB false)],[]⟩ {} [] ?_
  refine aR ?_
  obtain rfl:=oi h
  exact rl [sB false]
 ·refine cf hb21 ?_
  refine aP (aQ (sz tT ⟨[bg p,bG s_,eP x,(7,vI 0)],[]⟩ {} [] ?_))
  refine bE h fun y hy h=> ?_
  refine aL [] (wL p s_ x) (wS p s_ x) eG hy (fun s f h=> ?_) ?_
  ·clear hy
   show bR _ _ _ _ _ _ ((Gq p s_ x) f) _
   unfold kZ at h
   obtain⟨k,rfl⟩: ∃q,q=s:=⟨_,rfl⟩
   refine aQ (sz tT ⟨[bg p,bG s_,eP x,(7,vI k),(46,ady x k)],[]⟩ {} [] ?_)
   refine bI h (fun hb3 h=> ?_) (fun hb3 h=> ?_)
   ·refine ct hb3 ?_
    refine aP (aQ (aB (sz tT ⟨[bg p,bG s_,eP x,(7,vI k),(8,vI 0)],[]⟩ {} [] ?_)))
    refine aQ (aQ (bE h fun r_ hr_ h=> ?_))
    have q0:=uQ p s_ k hr_
    refine rg tT ⟨[bg p,bG s_,eP x,(7,vI k),(8,vI 0),(52,vB r_)],[]⟩ [_] {an:=[(3,cA q0 [])] } [] ⟨q0,trivial⟩ ?_
    refine bI h (fun hb2 h=> ?_) (fun hb2 h=> ?_)
    ·refine ct hb2 ?_
     refine aO h fun a1 h=> ?_
     refine rg tT ⟨[bg p,bG s_,eP x,(7,vI k),(8,vI (k56 p k))],[]⟩ [_] {} [] ⟨a1,trivial⟩ ?_
     refine aQ (aO h fun⟨a1,a2⟩ h=> ?_)
     refine rg tT ⟨[bg p,bG s_,eP x,(7,vI k),(73,vB (RD p x k))],[]⟩ (_::(ae7 x k)) {yb:=[(6,Oj x k)] } [] ⟨a1,ae ⟨(fun hg=> ⟨a2 (bC hg),trivial⟩),ae trivial⟩⟩ ?_
     refine bI h (fun hb h=> ?_) (fun hb h=> ?_)
     ·refine ct hb ?_
      refine sz tT ⟨[(6,vB false)],[]⟩ {} [] ?_
      refine aR ?_
      obtain rfl:=oi h
      exact lR dw (dm 0) dz (bL.mk (.inr rfl) (p:=[]) (l:=[sB false]) (by kernel_rfl) trivial (eB.refl _) trivial)
     ·refine cf hb ?_
      refine aP (rz tT (aeP x k p s_) {} [] ?_)
      obtain rfl:=oi h
      exact lN
    ·refine cf hb2 ?_
     refine aP (aQ (aO h fun⟨a1,a2⟩ h=> ?_))
     refine rg tT ⟨[bg p,bG s_,eP x,(7,vI k),(73,vB (bif (Oj x k)then true else(SF x k)))],[]⟩ (_::(ae7 x k)) {yb:=[(6,Oj x k)] } [] ⟨a1,ae ⟨(fun hg=> ⟨a2 (bC hg),trivial⟩),ae trivial⟩⟩ ?_
     refine bI h (fun hb1 h=> ?_) (fun hb1 h=> ?_)
     ·refine ct hb1 ?_
      refine sz tT ⟨[(6,vB false)],[]⟩ {} [] ?_
      refine aR ?_
      obtain rfl:=oi h
      exact lR dw (dm 0) dz (bL.mk (.inr rfl) (p:=[]) (l:=[sB false]) (by kernel_rfl) trivial (eB.refl _) trivial)
     ·refine cf hb1 ?_
      refine aP (rz tT (aeP x k p s_) {} [] ?_)
      obtain rfl:=oi h
      exact lN
   ·refine cf hb3 ?_
    refine aI (fz (PK p s_ x) []) ?_
    refine aX ?_
    obtain rfl:=oi h
    exact lB
  ·clear hy
   cases y with
   |brk z=>
    unfold dZ
    refine⟨_, .refl, ?_⟩
    refine aQ (sz tT ⟨[bg p,bG s_,eP x,(9,vI 0)],[]⟩ {} [] ?_)
    refine bE h fun y1 hy h=> ?_
    refine aL [] (wX p s_ x) (wG p s_ x) eG hy (fun s f h=> ?_) ?_
    ·clear hy
     show bR _ _ _ _ _ _ ((GA p s_ x) f) _
     unfold kW at h
     obtain⟨i,rfl⟩: ∃q,q=s:=⟨_,rfl⟩
     refine aQ (sz tT ⟨[bg p,bG s_,eP x,(9,vI i),(78,adl x i)],[]⟩ {} [] ?_)
     refine bI h (fun hb7 h=> ?_) (fun hb7 h=> ?_)
     ·refine ct hb7 ?_
      refine aP (aQ (aB (sz tT ⟨[bg p,bG s_,eP x,(9,vI i),(10,vI 0)],[]⟩ {} [] ?_)))
      refine aQ (aQ (bE h fun u2 hr_1 h=> ?_))
      have q0:=qc p s_ i hr_1
      refine rg tT ⟨[bg p,bG s_,eP x,(9,vI i),(10,vI 0),(84,vB u2)],[]⟩ [_] {an:=[(3,cA q0 [])] } [] ⟨q0,trivial⟩ ?_
      refine bI h (fun hb6 h=> ?_) (fun hb6 h=> ?_)
      ·refine ct hb6 ?_
       refine aO h fun a1 h=> ?_
       refine rg tT ⟨[bg p,bG s_,eP x,(9,vI i),(10,vI (Qi p i))],[]⟩ [_] {} [] ⟨a1,trivial⟩ ?_
       refine aQ (aO h fun⟨a1,a2⟩ h=> ?_)
       refine rg tT ⟨[bg p,bG s_,eP x,(9,vI i),(107,vB (Rw p x i))],[]⟩ (_::(eqs (RF p x i) 4 ((gP (gY [(8,RF p x i)]) [(8,false)]→All [(0:Int)≤i∧i<(x.ai.length:Int)])::(eqs (RF p x i) 4 [])))) {yb:=[(8,RF p x i)] } [] ⟨a1,ae ⟨(fun hg=> ⟨a2 (bC hg),trivial⟩),ae trivial⟩⟩ ?_
       refine bI h (fun hb4 h=> ?_) (fun hb4 h=> ?_)
       ·refine ct hb4 ?_
        refine sz tT ⟨[(6,vB false)],[]⟩ {} [] ?_
        refine aR ?_
        obtain rfl:=oi h
        exact lR dw (dm 2) dz (bL.mk (.inr rfl) (p:=[]) (l:=[sB false]) (by kernel_rfl) trivial (eB.refl _) trivial)
       ·refine cf hb4 ?_
        refine aP (rz tT (afg x p s_ i) {} [] ?_)
        obtain rfl:=oi h
        exact lN
      ·refine cf hb6 ?_
       refine aP (aQ (aO h fun⟨a1,a2⟩ h=> ?_))
       refine rg tT ⟨[bg p,bG s_,eP x,(9,vI i),(107,vB (bif (UR x i)then true else(decide (0<(at' x.ai i.toNat)))))],[]⟩ (_::(eqs (UR x i) 4 ((gP (gY [(8,UR x i)]) [(8,false)]→All [(0:Int)≤i∧i<(x.ai.length:Int)])::(eqs (UR x i) 4 [])))) {yb:=[(8,UR x i)] } [] ⟨a1,ae ⟨(fun hg=> ⟨a2 (bC hg),trivial⟩),ae trivial⟩⟩ ?_
       refine bI h (fun hb5 h=> ?_) (fun hb5 h=> ?_)
       ·refine ct hb5 ?_
        refine sz tT ⟨[(6,vB false)],[]⟩ {} [] ?_
        refine aR ?_
        obtain rfl:=oi h
        exact lR dw (dm 2) dz (bL.mk (.inr rfl) (p:=[]) (l:=[sB false]) (by kernel_rfl) trivial (eB.refl _) trivial)
       ·refine cf hb5 ?_
        refine aP (rz tT (afg x p s_ i) {} [] ?_)
        obtain rfl:=oi h
        exact lN
     ·refine cf hb7 ?_
      refine aI (fz (PK p s_ x) []) ?_
      refine aX ?_
      obtain rfl:=oi h
      exact lB
    ·clear hy
     cases y1 with
     |brk z=>
      unfold dZ
      refine⟨_, .refl, ?_⟩
      refine aQ (sz tT ⟨[bg p,bG s_,eP x,(11,vI 0)],[]⟩ {} [] ?_)
      refine bE h fun y3 hy h=> ?_
      refine aL [] (wN p s_ x) (xu p x) eG hy (fun s f h=> ?_) ?_
      ·clear hy
       show bR _ _ _ _ _ _ ((qm p s_ x) f) _
       unfold kU at h
       obtain⟨u0,rfl⟩: ∃q,q=s:=⟨_,rfl⟩
       refine aQ (sz tT ⟨[bg p,bG s_,eP x,(11,vI u0),(112,ab0 x u0)],[]⟩ {} [] ?_)
       refine bI h (fun hb18 h=> ?_) (fun hb18 h=> ?_)
       ·refine ct hb18 ?_
        refine aP (aQ (aB (sz tT ⟨[bg p,bG s_,eP x,(11,vI u0),(12,vI 0)],[]⟩ {} [] ?_)))
        refine aQ (sz tT ⟨[bg p,bG s_,eP x,(11,vI u0),(12,vI 0),(13,vI 0)],[]⟩ {} [] ?_)
        refine bE h fun y2 hy h=> ?_
        refine aL [5] (wZ p s_ x u0) (wY p s_ x u0) (qm p s_ x) hy (fun s f h=> ?_) ?_
        ·clear hy
         show bR _ _ _ _ _ _ ((GJ p s_ x u0) f) _
         unfold dG at h
         obtain⟨u1,k1⟩:=s
         refine aQ (sz tT ⟨[bg p,bG s_,eP x,(11,vI u0),(12,vI u1),(13,vI k1),(116,vB (decide (k1<2)))],[]⟩ {} [] ?_)
         refine bI h (fun hb16 h=> ?_) (fun hb16 h=> ?_)
         ·refine ct hb16 ?_
          refine aP (aQ (aB (aQ ?_)))
          refine bI h (fun hb8 h=> ?_) (fun _ h=> ?_)
          ·skip
           refine aI (cO.le (st':=⟨[bg p,bG s_,eP x,(11,vI u0),(12,vI u1),(13,vI 0),(116,vB (decide (k1<2)))],[]⟩) ⟨⟨tR,tR,tR,tR,tR,⟨_,rfl,eB.v (fG.one (eZ.of (congrArg (fun n=>CV.d (.int .i64 n)) (of_decide_eq_true hb8))))⟩,tR,trivial⟩,trivial⟩) ?_
           refine aO h fun a1 h=> ?_
           refine rg tT ⟨[bg p,bG s_,eP x,(11,vI u0),(12,vI u1),(13,vI 0),(14,vI (X8 p u0))],[]⟩ [_,(0:Int)≤0∧(0:Int)<(2:Nat)] {} [] ⟨a1,(by decide),trivial⟩ ?_
           refine sz tT ⟨[bg p,bG s_,eP x,(11,vI u0),(12,vI u1),(13,vI 0),(14,vI (X8 p u0)),(15,vI 0)],[]⟩ {} [] ?_
           refine aQ (aQ (aO h fun a1 h=> ?_))
           refine rg tT ⟨[bg p,bG s_,eP x,(11,vI u0),(12,vI u1),(13,vI 0),(15,vI 0),(137,vB (bif (UJ p u0)then(!(at' s_.aW ((if(Py p u0).e0<0 then 0 else(Py p u0).e0).toNat)))else false))],[]⟩ (eqs (UJ p u0) 5 ((gP (gY [(2,UJ p u0)]) [(2,true)]→All [(0:Int)≤(if(Py p u0).e0<0 then 0 else(Py p u0).e0)∧(if(Py p u0).e0<0 then 0 else(Py p u0).e0)<(s_.aW.length:Int)])::(eqs (UJ p u0) 3 []))) {yb:=[(2,UJ p u0)] } [] (ae ⟨(fun hg=> ⟨a1 (bC hg),trivial⟩),ae trivial⟩) ?_
           refine bI h (fun hb11 h=> ?_) (fun hb11 h=> ?_)
           ·refine ct hb11 ?_
            refine aO h fun a1 h=> ?_
            refine rg tT ⟨[bg p,bG s_,eP x,(11,vI u0),(12,vI u1),(13,vI 0),(15,vI (Yp p u0))],[]⟩ [_] {} [] ⟨a1,trivial⟩ ?_
            refine aQ (aQ (aO h fun⟨a1,a2⟩ h=> ?_))
            refine rg tT ⟨[bg p,bG s_,eP x,(11,vI u0),(12,vI u1),(13,vI 0),(162,vB (bif (Hg x u0)then true else(decide ((Yp p u0)<(MN x u0)))))],[]⟩ (_::((0:Int)≤0∧(0:Int)<(2:Nat))::(afB x u0)) {yb:=[(8,Hg x u0)] } [] ⟨a1,(by decide),ae ⟨(fun hg=> ⟨a2 (bC hg),trivial⟩),rfl,(fun hg=> ⟨(by decide),trivial⟩),ae trivial⟩⟩ ?_
            refine bI h (fun hb9 h=> ?_) (fun hb9 h=> ?_)
            ·refine ct hb9 ?_
             refine sz tT ⟨[(6,vB false)],[]⟩ {} [] ?_
             refine aR ?_
             obtain rfl:=oi h
             exact lR dw (dm 6) dz (lR dw (dm 4) dz (bL.mk (.inr rfl) (p:=[]) (l:=[sB false]) (by kernel_rfl) trivial (eB.refl _) trivial))
            ·refine cf hb9 ?_
             refine aP (aO h fun a1 h=> ?_)
             refine rg tT (aft x p s_ u0 u1) [_,(0:Int)≤0∧(0:Int)<(2:Nat)] {} [] ⟨a1,(by decide),trivial⟩ ?_
             refine rz tT (afv x p s_ u0 u1) {} [] ?_
             obtain rfl:=oi h
             exact lN
           ·refine cf hb11 ?_
            refine aP (aQ (aQ (aO h fun⟨a1,a2⟩ h=> ?_)))
            refine rg tT ⟨[bg p,bG s_,eP x,(11,vI u0),(12,vI u1),(13,vI 0),(162,vB (bif (Hg x u0)then true else(decide (0<(MN x u0)))))],[]⟩ (_::((0:Int)≤0∧(0:Int)<(2:Nat))::(afB x u0)) {yb:=[(8,Hg x u0)] } [] ⟨a1,(by decide),ae ⟨(fun hg=> ⟨a2 (bC hg),trivial⟩),rfl,(fun hg=> ⟨(by decide),trivial⟩),ae trivial⟩⟩ ?_
            refine bI h (fun hb10 h=> ?_) (fun hb10 h=> ?_)
            ·refine ct hb10 ?_
             refine sz tT ⟨[(6,vB false)],[]⟩ {} [] ?_
             refine aR ?_
             obtain rfl:=oi h
             exact lR dw (dm 6) dz (lR dw (dm 4) dz (bL.mk (.inr rfl) (p:=[]) (l:=[sB false]) (by kernel_rfl) trivial (eB.refl _) trivial))
            ·refine cf hb10 ?_
             refine aP (aO h fun a1 h=> ?_)
             refine rg tT (aft x p s_ u0 u1) [_,(0:Int)≤0∧(0:Int)<(2:Nat)] {} [] ⟨a1,(by decide),trivial⟩ ?_
             refine rz tT (afv x p s_ u0 u1) {} [] ?_
             obtain rfl:=oi h
             exact lN
          ·skip
           refine aO h fun a1 h=> ?_
           refine aI (cO.le (st':=⟨[bg p,bG s_,eP x,(11,vI u0),(12,vI u1),(13,vI 1),(116,vB (decide (k1<2)))],[]⟩) ⟨⟨tR,tR,tR,tR,tR,⟨_,rfl,eB.v (fG.one (eZ.of (congrArg (fun n=>CV.d (.int .i64 n)) a1)))⟩,tR,trivial⟩,trivial⟩) ?_
           refine aO h fun a1 h=> ?_
           refine rg tT ⟨[bg p,bG s_,eP x,(11,vI u0),(12,vI u1),(13,vI 1),(14,vI (XC p u0))],[]⟩ [_,(0:Int)≤1∧(1:Int)<(2:Nat)] {} [] ⟨a1,(by decide),trivial⟩ ?_
           refine sz tT ⟨[bg p,bG s_,eP x,(11,vI u0),(12,vI u1),(13,vI 1),(14,vI (XC p u0)),(15,vI 0)],[]⟩ {} [] ?_
           refine aQ (aQ (aO h fun a1 h=> ?_))
           refine rg tT ⟨[bg p,bG s_,eP x,(11,vI u0),(12,vI u1),(13,vI 1),(15,vI 0),(137,vB (bif (BU p u0)then(!(at' s_.aW (ae0 p u0)))else false))],[]⟩ (eqs (BU p u0) 5 ((gP (gY [(2,BU p u0)]) [(2,true)]→All [(0:Int)≤(if(Py p u0).e1<0 then 0 else(Py p u0).e1)∧(if(Py p u0).e1<0 then 0 else(Py p u0).e1)<(s_.aW.length:Int)])::(eqs (BU p u0) 3 []))) {yb:=[(2,BU p u0)] } [] (ae ⟨(fun hg=> ⟨a1 (bC hg),trivial⟩),ae trivial⟩) ?_
           refine bI h (fun hb15 h=> ?_) (fun hb15 h=> ?_)
           ·refine ct hb15 ?_
            refine aO h fun a1 h=> ?_
            refine rg tT ⟨[bg p,bG s_,eP x,(11,vI u0),(12,vI u1),(13,vI 1),(15,vI (Yp p u0))],[]⟩ [_] {} [] ⟨a1,trivial⟩ ?_
            refine aQ (aQ (aO h fun⟨a1,a2⟩ h=> ?_))
            refine rg tT ⟨[bg p,bG s_,eP x,(11,vI u0),(12,vI u1),(13,vI 1),(162,vB (bif (G8 x u0)then true else(decide ((Yp p u0)<(Nk x u0)))))],[]⟩ (_::((0:Int)≤1∧(1:Int)<(2:Nat))::(afa x u0)) {yb:=[(8,G8 x u0)] } [] ⟨a1,(by decide),ae ⟨(fun hg=> ⟨a2 (bC hg),trivial⟩),rfl,(fun hg=> ⟨(by decide),trivial⟩),ae trivial⟩⟩ ?_
            refine bI h (fun hb13 h=> ?_) (fun hb13 h=> ?_)
            ·refine ct hb13 ?_
             refine sz tT ⟨[(6,vB false)],[]⟩ {} [] ?_
             refine aR ?_
             obtain rfl:=oi h
             exact lR dw (dm 6) dz (lR dw (dm 4) dz (bL.mk (.inr rfl) (p:=[]) (l:=[sB false]) (by kernel_rfl) trivial (eB.refl _) trivial))
            ·refine cf hb13 ?_
             refine aP (aO h fun a1 h=> ?_)
             refine rg tT (afx x p s_ u0 u1) [_,(0:Int)≤1∧(1:Int)<(2:Nat)] {} [] ⟨a1,(by decide),trivial⟩ ?_
             refine rz tT (aff x p s_ u0 u1) {} [] ?_
             obtain rfl:=oi h
             exact lN
           ·refine cf hb15 ?_
            refine aP (aQ (aQ (aO h fun⟨a1,a2⟩ h=> ?_)))
            refine rg tT ⟨[bg p,bG s_,eP x,(11,vI u0),(12,vI u1),(13,vI 1),(162,vB (bif (G8 x u0)then true else(decide (0<(Nk x u0)))))],[]⟩ (_::((0:Int)≤1∧(1:Int)<(2:Nat))::(afa x u0)) {yb:=[(8,G8 x u0)] } [] ⟨a1,(by decide),ae ⟨(fun hg=> ⟨a2 (bC hg),trivial⟩),rfl,(fun hg=> ⟨(by decide),trivial⟩),ae trivial⟩⟩ ?_
            refine bI h (fun hb14 h=> ?_) (fun hb14 h=> ?_)
            ·refine ct hb14 ?_
             refine sz tT ⟨[(6,vB false)],[]⟩ {} [] ?_
             refine aR ?_
             obtain rfl:=oi h
             exact lR dw (dm 6) dz (lR dw (dm 4) dz (bL.mk (.inr rfl) (p:=[]) (l:=[sB false]) (by kernel_rfl) trivial (eB.refl _) trivial))
            ·refine cf hb14 ?_
             refine aP (aO h fun a1 h=> ?_)
             refine rg tT (afx x p s_ u0 u1) [_,(0:Int)≤1∧(1:Int)<(2:Nat)] {} [] ⟨a1,(by decide),trivial⟩ ?_
             refine rz tT (aff x p s_ u0 u1) {} [] ?_
             obtain rfl:=oi h
             exact lN
         ·refine cf hb16 ?_
          refine aI (fz (afw p s_ x u0 u1) []) ?_
          refine aX ?_
          obtain rfl:=oi h
          exact lB
        ·clear hy
         cases y2 with
         |brk z=>
          obtain⟨u3,rfl⟩: ∃q,q=z:=⟨_,rfl⟩
          unfold dZ
          refine⟨_, .refl, ?_⟩
          refine aQ (aO h fun a1 h=> ?_)
          refine rg tT ⟨[bg p,bG s_,eP x,(11,vI u0),(179,vB (decide ((Yp p u0)<u3)))],[]⟩ [_] {} [] ⟨a1,trivial⟩ ?_
          refine bI h (fun hb17 h=> ?_) (fun hb17 h=> ?_)
          ·refine ct hb17 ?_
           refine sz tT ⟨[(6,vB false)],[]⟩ {} [] ?_
           refine aR ?_
           obtain rfl:=oi h
           exact lR dw (dm 4) dz (bL.mk (.inr rfl) (p:=[]) (l:=[sB false]) (by kernel_rfl) trivial (eB.refl _) trivial)
          ·refine cf hb17 ?_
           refine aP (rz tT ⟨[bg p,bG s_,eP x,Y6 u0],[]⟩ {} [] ?_)
           obtain rfl:=oi h
           exact lN
         |ret v=>
          obtain rfl:=oi h
          unfold dZ
          intro e st hn ha hR
          cases e with
          |normal=>exact absurd rfl hn
          |exit id=>simp only [qW (b:=5) ha rfl,cond_false];exact hR
          |goto l=>exact hR
          |ret=>exact hR
          |panic c=>exact hR
          |outgrown=>exact hR
       ·refine cf hb18 ?_
        refine aI (fz (afm p x) []) ?_
        refine aX ?_
        obtain rfl:=oi h
        exact lB
      ·clear hy
       cases y3 with
       |brk z=>
        unfold dZ
        refine⟨_, .refl, ?_⟩
        refine aQ (sz tT ⟨[bg p,eP x,(16,vI 0)],[]⟩ {} [] ?_)
        refine bE h fun y4 hy h=> ?_
        refine aL [] (wT p x) wR eG hy (fun s f h=> ?_) ?_
        ·clear hy
         show bR _ _ _ _ _ _ ((Gv p x) f) _
         unfold kV at h
         obtain⟨b,rfl⟩: ∃q,q=s:=⟨_,rfl⟩
         refine aQ (sz tT ⟨[bg p,eP x,(16,vI b),(183,vB (decide (b<p.ax)))],[]⟩ {} [] ?_)
         refine bI h (fun hb20 h=> ?_) (fun hb20 h=> ?_)
         ·refine ct hb20 ?_
          refine aP (aQ (aB (aQ (bE h fun u4 hr_3 h=> ?_))))
          have q0:=IY p x b hr_3
          refine rg tT ⟨[bg p,eP x,(16,vI b),(190,vB (!decide (u4=0)))],[]⟩ [_] {an:=[(3,cA q0 [])] } [] ⟨q0,trivial⟩ ?_
          refine bI h (fun hb19 h=> ?_) (fun hb19 h=> ?_)
          ·refine ct hb19 ?_
           refine sz tT ⟨[(6,vB false)],[]⟩ {} [] ?_
           refine aR ?_
           obtain rfl:=oi h
           exact lR dw (dm 8) dz (bL.mk (.inr rfl) (p:=[]) (l:=[sB false]) (by kernel_rfl) trivial (eB.refl _) trivial)
          ·refine cf hb19 ?_
           refine aP (rz tT ⟨[bg p,eP x,(16,k3 b)],[]⟩ {} [] ?_)
           obtain rfl:=oi h
           exact lN
         ·refine cf hb20 ?_
          refine aI (fz ⟨[],[]⟩ []) ?_
          refine aX ?_
          obtain rfl:=oi h
          exact lB
        ·clear hy
         cases y4 with
         |brk z=>
          unfold dZ
          refine⟨_, .refl, ?_⟩
          refine sz tT ⟨[(6,vB true)],[]⟩ {} [] ?_
          refine aR ?_
          obtain rfl:=oi h
          exact rl [sB true]
         |ret v=>
          obtain rfl:=oi h
          unfold dZ
          intro e st hn ha hR
          cases e with
          |normal=>exact absurd rfl hn
          |exit id=>exact hR
          |goto l=>exact hR
          |ret=>exact hR
          |panic c=>exact hR
          |outgrown=>exact hR
       |ret v=>
        obtain rfl:=oi h
        unfold dZ
        intro e st hn ha hR
        cases e with
        |normal=>exact absurd rfl hn
        |exit id=>exact hR
        |goto l=>exact hR
        |ret=>exact hR
        |panic c=>exact hR
        |outgrown=>exact hR
     |ret v=>
      obtain rfl:=oi h
      unfold dZ
      intro e st hn ha hR
      cases e with
      |normal=>exact absurd rfl hn
      |exit id=>exact hR
      |goto l=>exact hR
      |ret=>exact hR
      |panic c=>exact hR
      |outgrown=>exact hR
   |ret v=>
    obtain rfl:=oi h
    unfold dZ
    intro e st hn ha hR
    cases e with
    |normal=>exact absurd rfl hn
    |exit id=>exact hR
    |goto l=>exact hR
    |ret=>exact hR
    |panic c=>exact hR
    |outgrown=>exact hR
def CP  :Int→Exit→St→Prop:=
  fun r=>bL TT [.tmp 6] (vI r) []
theorem BM (p:au) (s_:aA) (x:aD) {r:Int} (h:iY p s_ x=some r):Fn Try.prog 43 (V3 p s_ x) [] (vI r) []:=by
 refine fN tT Try.func43 rfl rfl fun B=> ?_
 show bR _ _ _ _ _ _ (CP r) _
 unfold iY at h
 refine sz tT (PK p s_ x) {fr:=[(0,3),(1,4),(2,5)] } [3,4,5] ?_
 refine aQ (bE h fun r_ hr_ h=> ?_)
 have q0:=jU p s_ hr_
 refine rg tT (agC p s_ x r_) [_] {an:=[(2,cA q0 [])] } [] ⟨q0,trivial⟩ ?_
 refine aQ (aQ (bE h fun u0 hr_1 h=> ?_))
 refine rg tT ⟨[(7,vI r_),(19,vB (bif (decide (r_=0))then(!u0)else false))],[]⟩ (eqs (decide (r_=0)) 4 ((gP (gY [(2,decide (r_=0))]) [(2,true)]→All [Fn Try.prog 90 (V3 p s_ x) [] (vB u0) []])::(eqs (decide (r_=0)) 2 []))) {yb:=[(2,decide (r_=0))],an:=[(6, .call [] (vB u0) [])] } [] (ae ⟨(fun hg=> ⟨Gx p s_ x (d9 hr_1 (bC hg)),trivial⟩),ae trivial⟩) ?_
 refine bI h (fun hb h=> ?_) (fun hb h=> ?_)
 ·refine ct hb ?_
  refine rz tT ⟨[(7,vI 20)],[]⟩ {} [] ?_
  refine sz tT ⟨[(6,vI 20)],[]⟩ {} [] ?_
  refine aR ?_
  obtain rfl:=oi h
  exact rl [sI 20]
 ·refine cf hb ?_
  refine aP (sz tT ⟨[(6,vI r_)],[]⟩ {} [] ?_)
  refine aR ?_
  obtain rfl:=oi h
  exact rl [sI r_]
def EB  :au→Exit→St→Prop:=
  fun r=>bL TT [.cell 2 26] (.v (.agg [cI r.ax,.own 0 false r.ah.length,.own 1 false r.ai.length,.own 2 false r.af.length])) [(0,some (bW 126 5 ay.cell r.ah)),(1,some (bW 53 6 aH.cell r.ai)),(2,some (bW 166 4 aK.cell r.af)),(3,none)]
theorem Ea (x:au) {r:au} (h:nC x=some r):Fn Try.prog 31 (k52 x) [] (.v (.agg [cI r.ax,.own 0 false r.ah.length,.own 1 false r.ai.length,.own 2 false r.af.length])) [(0,some (bW 126 5 ay.cell r.ah)),(1,some (bW 53 6 aH.cell r.ai)),(2,some (bW 166 4 aK.cell r.af)),(3,none)]:=by
 refine fN tT Try.func31 rfl rfl fun B=> ?_
 show bR _ _ _ _ _ _ (EB r) _
 unfold nC at h
 refine sz tT ⟨[(1,vP 5 0),(2,vP 6 0)],[(5,some (k50 x)),(6,some (.cells 26 [cI 0,.d nS,.d nS,.d nS]))]⟩ {fr:=[(0,5),(1,6)] } [] ?_
 refine aQ (bE h fun r_ hr_ h=> ?_)
 refine bE h fun u0 hr_1 h=> ?_
 refine bE h fun u1 hr_2 h=> ?_
 have q0:=rk [(0,7)] (Cb x.ah hr_)
 have q1:=rk [(0,8)] (Ep x.ai hr_1)
 have q2:=rk [(0,9)] (En x.af hr_2)
 refine dg tT mX ⟨[(2,vP 6 0)],[(6,some (.cells 26 [cI x.ax,.own 7 false r_.length,.own 8 false u0.length,.own 9 false u1.length])),(7,some (bW 126 5 ay.cell r_)),(8,some (bW 53 6 aH.cell u0)),(9,some (bW 166 4 aK.cell u1))]⟩ [_,_,_] {an:=[(4,cA q0 []),(7,cA q1 []),(10,cA q2 [])] } [] ⟨q0,q1,q2,trivial⟩ ?_
 refine aI (cO.fin (st':=⟨[(2,vP 3 0)],[(0,some (bW 126 5 ay.cell r_)),(1,some (bW 53 6 aH.cell u0)),(2,some (bW 166 4 aK.cell u1)),(3,some (.cells 26 [cI x.ax,.own 0 false r_.length,.own 1 false u0.length,.own 2 false u1.length]))]⟩) (cs:=[]) ⟨[],[(7,0),(8,1),(9,2),(6,3)]⟩ [2] (by kernel_rfl) trivial) ?_
 refine aR ?_
 obtain rfl:=oi h
 exact rh [.agg [cI x.ax,.own 0 false r_.length,.own 1 false u0.length,.own 2 false u1.length]] (.refl _) (hN 3 ⟨rfl,trivial,trivial⟩)
def Fw  :aA→Exit→St→Prop:=
  fun r=>bL TT [.cell 2 29] (.v (.agg [.own 0 false r.bH.length,.own 1 false r.bZ.length,.own 2 false r.bN.length,.own 3 false r.on_.length,.own 4 false r.bD.length,.own 5 false r.cK.length,.own 6 false r.aW.length])) [(0,some (bW 4 1 aF r.bH)),(1,some (bW 4 1 aF r.bZ)),(2,some (bW 4 1 aF r.bN)),(3,some (bW 4 1 aF r.on_)),(4,some (bW 4 1 aF r.bD)),(5,some (bW 4 1 aF r.cK)),(6,some (bW 4 1 aF r.aW)),(7,none)]
section
variable (r_:List Bool) (u0:List Bool) (u1:List Bool) (u2:List Bool) (u3:List Bool) (u4:List Bool) (u5:List Bool)
abbrev afA:List CV:=[.own 0 false r_.length,.own 1 false u0.length,.own 2 false u1.length,.own 3 false u2.length,.own 4 false u3.length,.own 5 false u4.length,.own 6 false u5.length]
end
theorem Eg (x:aA) {r:aA} (h:nG x=some r):Fn Try.prog 16 [.agg (k5 x)] [] (.v (.agg [.own 0 false r.bH.length,.own 1 false r.bZ.length,.own 2 false r.bN.length,.own 3 false r.on_.length,.own 4 false r.bD.length,.own 5 false r.cK.length,.own 6 false r.aW.length])) [(0,some (bW 4 1 aF r.bH)),(1,some (bW 4 1 aF r.bZ)),(2,some (bW 4 1 aF r.bN)),(3,some (bW 4 1 aF r.on_)),(4,some (bW 4 1 aF r.bD)),(5,some (bW 4 1 aF r.cK)),(6,some (bW 4 1 aF r.aW)),(7,none)]:=by
 refine fN tT Try.func16 rfl rfl fun B=> ?_
 show bR _ _ _ _ _ _ (Fw r) _
 unfold nG at h
 refine sz tT ⟨[(1,k8 x),(2,vP 10 0)],[(10,some (.cells 29 [.d nS,.d nS,.d nS,.d nS,.d nS,.d nS,.d nS]))]⟩ {fr:=[(0,9),(1,10)] } [9] ?_
 refine aQ (bE h fun r_ hr_ h=> ?_)
 refine bE h fun u0 hr_1 h=> ?_
 refine bE h fun u1 hr_2 h=> ?_
 refine bE h fun u2 hr_3 h=> ?_
 refine bE h fun u3 hr_4 h=> ?_
 refine bE h fun u4 hr_5 h=> ?_
 refine bE h fun u5 hr_6 h=> ?_
 have q0:=rk [(0,11)] (eD x.bH hr_)
 have q1:=rk [(0,12)] (eD x.bZ hr_1)
 have q2:=rk [(0,13)] (eD x.bN hr_2)
 have q3:=rk [(0,14)] (eD x.on_ hr_3)
 have q4:=rk [(0,15)] (eD x.bD hr_4)
 have q5:=rk [(0,16)] (eD x.cK hr_5)
 have q6:=rk [(0,17)] (eD x.aW hr_6)
 refine dg tT mX ⟨[(2,vP 10 0)],[(10,some (.cells 29 [.own 11 false r_.length,.own 12 false u0.length,.own 13 false u1.length,.own 14 false u2.length,.own 15 false u3.length,.own 16 false u4.length,.own 17 false u5.length])),(11,some (bW 4 1 aF r_)),(12,some (bW 4 1 aF u0)),QG u1,(14,some (bW 4 1 aF u2)),(15,some (bW 4 1 aF u3)),(16,some (bW 4 1 aF u4)),(17,some (bW 4 1 aF u5))]⟩ [_,_,_,_,_,_,_] {an:=[(2,cA q0 []),(5,cA q1 []),(8,cA q2 []),(11,cA q3 []),(14,cA q4 []),(17,cA q5 []),(20,cA q6 [])] } [] ⟨q0,q1,q2,q3,q4,q5,q6,trivial⟩ ?_
 refine aI (cO.fin (st':=⟨[(2,vP 7 0)],[(0,some (bW 4 1 aF r_)),(1,some (bW 4 1 aF u0)),(2,some (bW 4 1 aF u1)),yL u2,(4,some (bW 4 1 aF u3)),(5,some (bW 4 1 aF u4)),(6,some (bW 4 1 aF u5)),(7,some (.cells 29 (afA r_ u0 u1 u2 u3 u4 u5)))]⟩) (cs:=[]) ⟨[],[(11,0),(12,1),(13,2),(14,3),(15,4),(16,5),(17,6),(10,7)]⟩ [2] (by kernel_rfl) trivial) ?_
 refine aR ?_
 obtain rfl:=oi h
 exact rh [.agg (afA r_ u0 u1 u2 u3 u4 u5)] (.refl _) (hN 7 ⟨rfl,trivial,trivial⟩)
def FJ  :Bool→Exit→St→Prop:=
  fun r=>bL TT [.tmp 4] (vB r) []
section
variable (u2:au) (u1:aA) (u0:aD × (List Bool) × Int) (u4:(List aM) × Int) (u7:Int) (u6:(List aM) × Int) (u3:Bool × Int) (u5:Bool × Int) (v0:Bool) (v3:Bool) (v4:Bool) (u9:Int) (u8:Int × (List Bool)) (v1:Bool) (v2:Int)
abbrev NG:Nat × TV:=(5,k27 u2)
abbrev Pg:Nat × TV:=(6,k8 u1)
abbrev JG:Nat × TV:=(8,vD (K8 u0))
abbrev Mh:Nat × TV:=(7,ahH u0)
abbrev XG:Nat × TV:=(10,vD (Rj u4))
abbrev XR:=(bif (!decide (u0.2.2=u7))then true else(!decide (u4.2=u6.2)))
abbrev T9:=(bif (XR u0 u4 u7 u6)then true else(!decide (u3.2=u5.2)))
abbrev XU:=(bif (T9 u0 u4 u7 u6 u3 u5)then true else(!v0))
abbrev U7:=(bif (XU u0 u4 u7 u6 u3 u5 v0)then true else(!(u3.1==u5.1)))
abbrev UY:=(bif (U7 u0 u4 u7 u6 u3 u5 v0)then true else(!v3))
abbrev abl:=(gY [(5,!decide (u0.2.2=u7)),(10,XR u0 u4 u7 u6),(15,T9 u0 u4 u7 u6 u3 u5),(21,XU u0 u4 u7 u6 u3 u5 v0),(26,U7 u0 u4 u7 u6 u3 u5 v0),(32,UY u0 u4 u7 u6 u3 u5 v0 v3)])
abbrev Nt:=(decide ((IntKind.wrap .i64 ((IntKind.wrap .i64 ((IntKind.wrap .i64 ((u0.1.ah.length:Int)+(u0.1.ai.length:Int)))+(u0.1.af.length:Int)))+(u0.2.1.length:Int)))=0))
abbrev ae8:=(bif (Nt u0)then v4 else false)
abbrev U1:=(bif (decide (u9=u8.1))then v1 else false)
abbrev LH:=(bif (U1 u9 u8 v1)then(decide (v2=0))else false)
abbrev aa1:=(gY [(4,decide (u9=u8.1)),(9,U1 u9 u8 v1),(16,LH u9 u8 v1 v2)])
end
theorem Ef (p:au) (s_:aA) {r:Bool} (h:jS p s_=some r):Fn Try.prog 6 (Ms p s_) [] (vB r) []:=by
 refine fN tT Try.func6 rfl rfl fun B=> ?_
 show bR _ _ _ _ _ _ (FJ r) _
 unfold jS at h
 refine sz tT (Wh p s_) {fr:=[(0,22),(1,23)] } [22,23] ?_
 refine aQ (aQ (bE h fun r_ hr_ h=> ?_))
 have q0:=Oz p hr_
 refine rg tT ⟨[k26 p,k10 s_,(21,vB r_)],[]⟩ [_] {an:=[(1,cA q0 [])] } [] ⟨q0,trivial⟩ ?_
 refine bI h (fun hb2 h=> ?_) (fun hb2 h=> ?_)
 ·refine ct hb2 ?_
  refine aQ (bE h fun v7 hr_1 h=> ?_)
  have q0:=uL hr_1
  refine rg tT ⟨[(4,vB v7)],[]⟩ [_] {an:=[(0,cA q0 [])] } [] ⟨q0,trivial⟩ ?_
  refine aR ?_
  obtain rfl:=oi h
  exact rl [sB v7]
 ·refine cf hb2 ?_
  refine aP (aQ (bE h fun u2 hr_2 h=> ?_))
  refine bE h fun u1 hr_3 h=> ?_
  have q0:=rk [(0,24),(1,25),(2,26),(3,27)] (Ea p hr_2)
  have q1:=rk [(0,28),(1,29),(2,30),(3,31),(4,32),(5,33),(6,34),(7,35)] (Eg s_ hr_3)
  refine di tT mX ⟨[k26 p,k10 s_,(5,vP 36 0),(6,vP 37 0)],[(36,some (k50 u2)),(37,some (ajm u1))]⟩ [_,_,u2.ah.length=u2.ah.length,u2.ai.length=u2.ai.length,u2.af.length=u2.af.length,u1.bH.length=u1.bH.length,u1.bZ.length=u1.bZ.length,u1.bN.length=u1.bN.length,u1.on_.length=u1.on_.length,u1.bD.length=u1.bD.length,u1.cK.length=u1.cK.length,u1.aW.length=u1.aW.length] {an:=[(1,cA q0 []),(3,cA q1 [])],fr:=[(4,36),(5,37)] } [24,25,26,28,29,30,31,32,33,34] ⟨q0,q1,rfl,rfl,rfl,rfl,rfl,rfl,rfl,rfl,rfl,rfl,trivial⟩ (fz ⟨[k26 p,k10 s_,NG u2,Pg u1],[]⟩ [36,37]) ?_
  refine aQ (bE h fun u0 hr_4 h=> ?_)
  have q0:=rk [(0,38),(1,39),(2,40),(3,41),(4,42)] (ru u2 u1 hr_4)
  refine ri tT ⟨[k26 p,k10 s_,NG u2,Pg u1,(7,vP 43 0),JG u0,(9,vI u0.2.2)],[(43,some (agf u0))]⟩ [_,u0.2.1.length=u0.2.1.length,u0.1.ah.length=u0.1.ah.length,u0.1.ai.length=u0.1.ai.length,u0.1.af.length=u0.1.af.length] {an:=[(2,cA q0 [])],fr:=[(7,43)] } [38,39,40,41] ⟨q0,rfl,rfl,rfl,rfl,trivial⟩ (fz ⟨[k26 p,k10 s_,NG u2,Pg u1,Mh u0,JG u0,(9,vI u0.2.2)],[]⟩ [43]) ?_
  refine aQ (bE h fun u4 hr_5 h=> ?_)
  have q0:=Dt u2 u1 hr_5
  refine rg tT ⟨[k26 p,k10 s_,NG u2,Pg u1,Mh u0,JG u0,(9,vI u0.2.2),XG u4,(11,vI u4.2)],[]⟩ [_] {an:=[(2,cA q0 [])] } [] ⟨q0,trivial⟩ ?_
  refine aQ (bE h fun u3 hr_6 h=> ?_)
  have q0:=ED u2 u1 hr_6
  refine rg tT ⟨[k26 p,k10 s_,NG u2,Pg u1,Mh u0,JG u0,(9,vI u0.2.2),XG u4,(11,vI u4.2),(12,vB u3.1),(13,vI u3.2)],[]⟩ [_] {an:=[(2,cA q0 [])] } [] ⟨q0,trivial⟩ ?_
  refine aQ (bE h fun u6 hr_7 h=> ?_)
  have q0:=Li p s_ hr_7
  refine rg tT ⟨[k26 p,k10 s_,NG u2,Pg u1,Mh u0,JG u0,(9,vI u0.2.2),XG u4,(11,vI u4.2),(12,vB u3.1),(13,vI u3.2),(14,vD (Rj u6)),(15,vI u6.2)],[]⟩ [_] {an:=[(2,cA q0 [])] } [] ⟨q0,trivial⟩ ?_
  refine aQ (bE h fun u5 hr_8 h=> ?_)
  have q0:=MI p s_ hr_8
  refine rg tT ⟨[k26 p,k10 s_,NG u2,Pg u1,Mh u0,JG u0,(9,vI u0.2.2),XG u4,(11,vI u4.2),(12,vB u3.1),(13,vI u3.2),(14,vD (Rj u6)),(15,vI u6.2),(16,vB u5.1),(17,vI u5.2)],[]⟩ [_] {an:=[(2,cA q0 [])] } [] ⟨q0,trivial⟩ ?_
  refine aQ (aQ (bE h fun u7 hr_9 h=> ?_))
  refine bE h fun v0 hr_10 h=> ?_
  refine bE h fun v3 hr_11 h=> ?_
  refine bE h fun v6 hr_12 h=> ?_
  have q0:=jU p s_ hr_9
  refine rg tT ⟨[k26 p,k10 s_,Mh u0,JG u0,(9,vI u0.2.2),(95,vB (bif (UY u0 u4 u7 u6 u3 u5 v0 v3)then true else(!v6)))],[]⟩ (_::(eqs (!decide (u0.2.2=u7)) 4 (eqs (XR u0 u4 u7 u6) 4 (eqs (T9 u0 u4 u7 u6 u3 u5) 3 ((gP (abl u0 u4 u7 u6 u3 u5 v0 v3) [(15,false)]→All [Fn Try.prog 38 [sD (Rj u4),sD (Rj u6)] [] (vB v0) []])::(eqs (T9 u0 u4 u7 u6 u3 u5) 2 (eqs (XU u0 u4 u7 u6 u3 u5 v0) 4 (eqs (U7 u0 u4 u7 u6 u3 u5 v0) 3 ((gP (abl u0 u4 u7 u6 u3 u5 v0 v3) [(26,false)]→All [Fn Try.prog 39 (afz p u2) [] (vB v3) []])::(eqs (U7 u0 u4 u7 u6 u3 u5 v0) 2 (eqs (UY u0 u4 u7 u6 u3 u5 v0 v3) 3 ((gP (abl u0 u4 u7 u6 u3 u5 v0 v3) [(32,false)]→All [Fn Try.prog 20 (k4 s_ u1) [] (vB v6) []])::(eqs (UY u0 u4 u7 u6 u3 u5 v0 v3) 2 []))))))))))))) {yb:=[(5,!decide (u0.2.2=u7)),(10,XR u0 u4 u7 u6),(15,T9 u0 u4 u7 u6 u3 u5),(21,XU u0 u4 u7 u6 u3 u5 v0),(26,U7 u0 u4 u7 u6 u3 u5 v0),(32,UY u0 u4 u7 u6 u3 u5 v0 v3)],an:=[(3,cA q0 []),(18, .call [] (vB v0) []),(29, .call [] (vB v3) []),(35, .call [] (vB v6) [])] } [] ⟨q0,ae (ae (ae ⟨(fun hg=> ⟨qY u4.1 u6.1 (d9 hr_10 (bC hg)),trivial⟩),ae (ae (ae ⟨(fun hg=> ⟨Ja p u2 (d9 hr_11 (bC hg)),trivial⟩),ae (ae ⟨(fun hg=> ⟨II s_ u1 (d9 hr_12 (bC hg)),trivial⟩),ae trivial⟩)⟩))⟩))⟩ ?_
  refine bI h (fun hb1 h=> ?_) (fun hb1 h=> ?_)
  ·refine ct hb1 ?_
   refine sz tT ⟨[(4,vB false)],[]⟩ {} [] ?_
   refine aR ?_
   obtain rfl:=oi h
   exact rl [sB false]
  ·refine cf hb1 ?_
   refine aP (aQ (sz tT ⟨[k26 p,k10 s_,Mh u0,JG u0,(97,vB (!decide (u0.2.2=0)))],[]⟩ {} [] ?_))
   refine bI h (fun hb h=> ?_) (fun hb h=> ?_)
   ·refine ct hb ?_
    refine aQ (bE h fun v4 hr_13 h=> ?_)
    refine rg tT ⟨[(4,vB (ae8 u0 v4))],[]⟩ [(Nt u0)=(Nt u0),gP (gY [(15,Nt u0)]) [(15,true)]→All [Fn Try.prog 30 [] [] (vB v4) []],(Nt u0)=(Nt u0)] {yb:=[(15,Nt u0)],an:=[(16, .call [] (vB v4) [])] } [] ⟨rfl,(fun hg=> ⟨uL (d9 hr_13 (bC hg)),trivial⟩),rfl,trivial⟩ ?_
    refine aR ?_
    obtain rfl:=oi h
    exact rl [sB (ae8 u0 v4)]
   ·refine cf hb ?_
    refine aP (aQ (bE h fun u8 hr_14 h=> ?_))
    have q0:=vv p s_ hr_14
    refine rg tT ⟨[k26 p,k10 s_,Mh u0,JG u0,(18,vI u8.1),(19,vD (bJ none 1 aF u8.2))],[]⟩ [_] {an:=[(2,cA q0 [])] } [] ⟨q0,trivial⟩ ?_
    refine aQ (bE h fun u9 hr_15 h=> ?_)
    refine bE h fun v1 hr_16 h=> ?_
    refine bE h fun v2 hr_17 h=> ?_
    refine bE h fun v5 hr_18 h=> ?_
    have q0:=fK u0.1 hr_15
    refine rg tT ⟨[(4,vB (bif (LH u9 u8 v1 v2)then v5 else false))],[]⟩ (_::(eqs (decide (u9=u8.1)) 3 ((gP (aa1 u9 u8 v1 v2) [(4,true)]→All [Fn Try.prog 42 [sD (K8 u0),sD (bJ none 1 aF u8.2)] [] (vB v1) []])::((decide (u9=u8.1))=(decide (u9=u8.1)))::(eqs (U1 u9 u8 v1) 4 ((gP (aa1 u9 u8 v1 v2) [(9,true)]→All [Fn Try.prog 43 [.agg (k22 p),.agg (k5 s_),.agg (adN u0)] [] (vI v2) []])::(eqs (U1 u9 u8 v1) 2 [(LH u9 u8 v1 v2)=(LH u9 u8 v1 v2),gP (aa1 u9 u8 v1 v2) [(16,true)]→All [Fn Try.prog 30 [] [] (vB v5) []],(LH u9 u8 v1 v2)=(LH u9 u8 v1 v2)])))))) {yb:=[(4,decide (u9=u8.1)),(9,U1 u9 u8 v1),(16,LH u9 u8 v1 v2)],an:=[(1,cA q0 []),(7, .call [] (vB v1) []),(13, .call [] (vI v2) []),(17, .call [] (vB v5) [])] } [] ⟨q0,ae ⟨(fun hg=> ⟨dH u0.2.1 u8.2 (d9 hr_16 (bC hg)),trivial⟩),rfl,ae ⟨(fun hg=> ⟨BM p s_ u0.1 (d9 hr_17 (bC hg)),trivial⟩),ae ⟨rfl,(fun hg=> ⟨uL (d9 hr_18 (bC hg)),trivial⟩),rfl,trivial⟩⟩⟩⟩ ?_
    refine aR ?_
    obtain rfl:=oi h
    exact rl [sB (bif (LH u9 u8 v1 v2)then v5 else false)]
end
end Sg
