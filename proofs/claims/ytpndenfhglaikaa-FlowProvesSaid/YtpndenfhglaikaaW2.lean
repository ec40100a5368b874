import Derived.Test.YtpndenfhglaikaaW1
set_option linter.all false
namespace Sg
open Go Go.Proofs
set_option maxRecDepth 20000
noncomputable section
section
variable (a:(List Short)) (i:Int) (b:(List Short))
abbrev QR:=(!decide (((at' a i.toNat).source)=((at' b i.toNat).source)))
abbrev R4:=(bif (QR a i b)then true else(!decide (((at' a i.toNat).iL)=((at' b i.toNat).iL))))
abbrev OH:=(bif (R4 a i b)then true else(!decide (((at' a i.toNat).amps)=((at' b i.toNat).amps))))
abbrev Pw:=(jl [(11,(QR a i b)),(24,(R4 a i b)),(37,(OH a i b))])
end
theorem bY (a:(List Short)) (b:(List Short)) {r:Bool} (h:gJ a b=some r):Fn Try.prog 52 [(sD (aK none 4 Short.cell a)),(sD (aK none 4 Short.cell b))] [] (vB r) []:=by
 refine fN tT Try.func52 rfl rfl fun B=> ?_
 show bJ _ _ _ _ _ _ (lY r) _
 unfold gJ at h
 refine sz tT ⟨[(OB a),(Gt b)],[]⟩ {} [] ?_
 refine aQ (sz tT ⟨[(OB a),(Gt b),(10,(vB (!decide ((a.length:Int)=(b.length:Int)))))],[]⟩ {} [] ?_)
 refine bI h (fun hb2 h=> ?_) (fun hb2 h=> ?_)
 ·refine ct hb2 ?_
  refine sz tT ⟨[(4,(vB false))],[]⟩ {} [] ?_
  refine aR ?_
  obtain rfl:=oi h
  exact rl [(sB false)]
 ·refine cf hb2 ?_
  refine aP (aQ (sz tT ⟨[(OB a),(Gt b),(5,(vI 0))],[]⟩ {} [] ?_))
  refine bE h fun y hy h=> ?_
  refine aL [] (pW a b) qg lY hy (fun s f h=> ?_) ?_
  ·clear hy
   show bJ _ _ _ _ _ _ ((zU a b) f) _
   unfold qo at h
   obtain⟨i,rfl⟩: ∃q,q=s:=⟨_,rfl⟩
   refine aQ (sz tT ⟨[(OB a),(Gt b),(5,(vI i)),(14,(vB (decide (i<(a.length:Int)))))],[]⟩ {} [] ?_)
   refine bI h (fun hb1 h=> ?_) (fun hb1 h=> ?_)
   ·refine ct hb1 ?_
    refine aP (aQ (aB (aQ (bE h fun r_ hr_ h=> ?_))))
    refine aO h fun⟨a1,a2,a3,a4,a5,a6,a7,a8⟩ h=> ?_
    refine dg tT mX ⟨[(OB a),(Gt b),(5,(vI i)),(67,(vB (bif (OH a i b)then true else(!r_))))],[]⟩ (_::_::(eqs (QR a i b) 3 ((gP (Pw a i b) [(11,false)]→All [(0:Int)≤i∧i<(a.length:Int)])::(eqs (QR a i b) 5 ((gP (Pw a i b) [(11,false)]→All [(0:Int)≤i∧i<(b.length:Int)])::(eqs (QR a i b) 4 (eqs (R4 a i b) 3 ((gP (Pw a i b) [(24,false)]→All [(0:Int)≤i∧i<(a.length:Int)])::(eqs (R4 a i b) 5 ((gP (Pw a i b) [(24,false)]→All [(0:Int)≤i∧i<(b.length:Int)])::(eqs (R4 a i b) 4 (eqs (OH a i b) 3 ((gP (Pw a i b) [(37,false)]→All [(0:Int)≤i∧i<(a.length:Int)])::(eqs (OH a i b) 5 ((gP (Pw a i b) [(37,false)]→All [(0:Int)≤i∧i<(b.length:Int)])::(eqs (OH a i b) 3 ((gP (Pw a i b) [(37,false)]→All [Fn Try.prog 54 [(sD (WU a i)),(sD (WU b i))] [] (vB r_) []])::(eqs (OH a i b) 2 [])))))))))))))))))) {yb:=[(11,(QR a i b)),(24,(R4 a i b)),(37,(OH a i b))],an:=[(48, .call [] (vB r_) [])] } [] ⟨a1,a2,(ae ⟨(fun hg=> ⟨(a3 (aZ hg)),trivial⟩),(ae ⟨(fun hg=> ⟨(a4 (aZ hg)),trivial⟩),(ae (ae ⟨(fun hg=> ⟨(a5 (aZ hg)),trivial⟩),(ae ⟨(fun hg=> ⟨(a6 (aZ hg)),trivial⟩),(ae (ae ⟨(fun hg=> ⟨(a7 (aZ hg)),trivial⟩),(ae ⟨(fun hg=> ⟨(a8 (aZ hg)),trivial⟩),(ae ⟨(fun hg=> ⟨(dG ((at' a i.toNat).links) ((at' b i.toNat).links) (gF hr_ (aZ hg))),trivial⟩),(ae trivial)⟩)⟩)⟩))⟩)⟩))⟩)⟩)⟩ ?_
    refine bI h (fun hb h=> ?_) (fun hb h=> ?_)
    ·refine ct hb ?_
     refine sz tT ⟨[(4,(vB false))],[]⟩ {} [] ?_
     refine aR ?_
     obtain rfl:=oi h
     exact lR dX (dZ 0) dY (bB.mk (.inr rfl) (p:=[]) (l:=[(sB false)]) (by kernel_rfl) trivial (eH.refl _) trivial)
    ·refine cf hb ?_
     refine aP (rz tT ⟨[(OB a),(Gt b),(k2 i)],[]⟩ {} [] ?_)
     obtain rfl:=oi h
     exact lN
   ·refine cf hb1 ?_
    refine aI (fz ⟨[],[]⟩ []) ?_
    refine aX ?_
    obtain rfl:=oi h
    exact lB
  ·clear hy
   cases y with
   |brk z=>
    unfold gm
    refine⟨_, .refl, ?_⟩
    refine sz tT ⟨[(4,(vB true))],[]⟩ {} [] ?_
    refine aR ?_
    obtain rfl:=oi h
    exact rl [(sB true)]
   |ret v=>
    obtain rfl:=oi h
    unfold gm
    intro e st hn ha hR
    cases e with
    |normal=>exact absurd rfl hn
    |exit id=>exact hR
    |goto l=>exact hR
    |ret=>exact hR
    |panic c=>exact hR
    |outgrown=>exact hR
def lZ (u0:(List Int)):(ah × State)→Exit→St→Prop:=
  fun r=>bB TT [.cell 2 26, .cell 3 29] (.iP [(.agg [(cI r.1.buses),(.d (aK none 5 Source.cell r.1.sources)),(.d (aK none 6 Link.cell r.1.links)),(.d (aK none 4 ay.cell r.1.racks))]),(.agg [(.d (aK none 1 aj r.2.closed)),(.d (aK none 1 aj r.2.locked)),(.d (aK none 1 aj r.2.badLink)),(.d (aK none 1 aj r.2.on_)),(.d (aK none 1 aj r.2.badSource)),(.d (aK none 1 aj r.2.earthed)),(.d (aK none 1 aj r.2.badBus))])]) (uN u0)
section
variable (u0:(List Int)) (p3:(List ay))
abbrev LU:Nat × Option Ob:=(21,some (.cells 26 [(cI 0),(.d nS),(.d nS),(.d nS)]))
abbrev Lb:Nat × Option Ob:=(22,some (.cells 29 [(.d nS),(.d nS),(.d nS),(.d nS),(.d nS),(.d nS),(.d nS)]))
abbrev MO:Nat × Option Ob:=(23,some (bZ 126 5 Source.cell [(⟨0,1,500,0,20⟩:Source),(⟨2,2,300,0,40⟩:Source)]))
abbrev Pg:Nat × Option Ob:=(24,some (bZ 53 6 Link.cell [(⟨0,1,3,400,10,([]:List iQ)⟩:Link),(⟨1,2,3,400,10,([]:List iQ)⟩:Link)]))
abbrev XO:List (Nat × Option Ob):=[(Fq u0),LU,Lb,MO,Pg,(25,some (.cells 26 [(cI 3),(.own 23 true ([(⟨0,1,500,0,20⟩:Source),(⟨2,2,300,0,40⟩:Source)].length)),(.own 24 true ([(⟨0,1,3,400,10,([]:List iQ)⟩:Link),(⟨1,2,3,400,10,([]:List iQ)⟩:Link)].length)),(.own 27 false p3.length)])),(27,some (bZ 166 4 ay.cell p3))]
end
def qp (u0:(List Int)):((List ay) × Int)→St:=
  fun zz=>match zz with|(p3,i)=> ⟨[(BA u0),(2,(vP 21 0)),(3,(vP 22 0)),(4,(vP 25 0)),(5,(vI i))],(XO u0 p3)⟩
section
variable (u1:(List Int)) (u0:(List ay))
abbrev adx:St:=⟨[(2,(vP 21 0)),(3,(vP 22 0)),(4,(vP 25 0))],(XO u1 u0)⟩
end
def ql (u1:(List Int)):(List ay)→St:=
  fun u0=>(adx u1 u0)
def zV (u0:(List Int)):(aM ((List ay) × Int) (Ex (List ay) (ah × State)))→Exit→St→Prop:=
  LQ 0 [] (qp u0) (ql u0) (lZ u0)
section
variable (u0:(List Int)) (i:Int) (p3:(List ay))
abbrev adm:List CV:=[(cI 3),(.own 23 true ([(⟨0,1,500,0,20⟩:Source),(⟨2,2,300,0,40⟩:Source)].length)),(.own 24 true ([(⟨0,1,3,400,10,([]:List iQ)⟩:Link),(⟨1,2,3,400,10,([]:List iQ)⟩:Link)].length)),(.d nS)]
abbrev adl:Nat × Option Ob:=(25,some (.cells 26 adm))
abbrev acN:List (Nat × Option Ob):=[(Fq u0),LU,Lb,MO,Pg,adl]
abbrev XG:List (Nat × TV):=[(BA u0),(2,(vP 21 0)),(3,(vP 22 0)),(4,(vP 25 0)),(5,(vI 0))]
abbrev QM:=(⟨(⟨1,(-1)⟩:af),(at' u0 i.toNat),1⟩:ay)
abbrev ML:=(p3++[(QM u0 i)])
abbrev abJ:List (Nat × Option Ob):=[(Fq u0),LU,Lb,MO,Pg,(25,some (.cells 26 [(cI 3),(.own 23 true ([(⟨0,1,500,0,20⟩:Source),(⟨2,2,300,0,40⟩:Source)].length)),(.own 24 true ([(⟨0,1,3,400,10,([]:List iQ)⟩:Link),(⟨1,2,3,400,10,([]:List iQ)⟩:Link)].length)),(.own 33 false ((ML u0 i p3).length))])),(33,some (bZ 166 4 ay.cell (ML u0 i p3)))]
abbrev Y0:=(aC ay.cell [(QM u0 i)])
abbrev aev:List (Nat × TV):=[(BA u0),(2,(vP 21 0)),(3,(vP 22 0)),(4,(vP 25 0)),(k2 i)]
abbrev afu:DV:=(aK (some true) 5 Source.cell [(⟨0,1,500,0,20⟩:Source),(⟨2,2,300,0,40⟩:Source)])
abbrev adE:DV:=(aK (some true) 6 Link.cell [(⟨0,1,3,400,10,([]:List iQ)⟩:Link),(⟨1,2,3,400,10,([]:List iQ)⟩:Link)])
abbrev Xe:DV:=(aK (some true) 1 aj [true,true])
abbrev QO:DV:=(aK (some true) 1 aj (List.replicate 2 (false:Bool)))
abbrev VZ:DV:=(aK (some true) 1 aj (List.replicate 3 (false:Bool)))
abbrev ae7:DV:=(aK none 5 Source.cell [(⟨0,1,500,0,20⟩:Source),(⟨2,2,300,0,40⟩:Source)])
abbrev afX:DV:=(aK none 6 Link.cell [(⟨0,1,3,400,10,([]:List iQ)⟩:Link),(⟨1,2,3,400,10,([]:List iQ)⟩:Link)])
abbrev Sl:DV:=(aK none 1 aj (List.replicate 2 (false:Bool)))
abbrev Xi:DV:=(aK none 1 aj (List.replicate 3 (false:Bool)))
end
theorem qw (u0:(List Int)) {r:(ah × State)} (h:nQ u0=some r):Fn Try.prog 73 [(.one (.own 0 true u0.length))] (uN u0) (.iP [(.agg [(cI r.1.buses),(.d (aK none 5 Source.cell r.1.sources)),(.d (aK none 6 Link.cell r.1.links)),(.d (aK none 4 ay.cell r.1.racks))]),(.agg [(.d (aK none 1 aj r.2.closed)),(.d (aK none 1 aj r.2.locked)),(.d (aK none 1 aj r.2.badLink)),(.d (aK none 1 aj r.2.on_)),(.d (aK none 1 aj r.2.badSource)),(.d (aK none 1 aj r.2.earthed)),(.d (aK none 1 aj r.2.badBus))])]) (uN u0):=by
 refine fN tT Try.func73 rfl rfl fun B=> ?_
 show bJ _ _ _ _ _ _ ((lZ u0) r) _
 unfold nQ at h
 refine sz tT ⟨[(BA u0),(2,(vP 21 0)),(3,(vP 22 0))],[(Fq u0),LU,Lb]⟩ {fr:=[(0,21),(1,22)] } [] ?_
 refine si tT ⟨[(BA u0),(2,(vP 21 0)),(3,(vP 22 0)),(4,(vP 25 0))],[(Fq u0),LU,Lb,MO,(24,some (.arr 53 6 [(⟨0,1,3,400,10,([]:List iQ)⟩:Link),(⟨1,2,3,400,10,([]:List iQ)⟩:Link)].length (jD 6 [(.int .i64 0),(.int .i64 1),(.int .i64 3),(.int .i64 400),(.int .i64 10),nS,(.int .i64 1),(.int .i64 2),(.int .i64 3),(.int .i64 400),(.int .i64 10),nS]))),adl]⟩ [[(⟨0,1,500,0,20⟩:Source),(⟨2,2,300,0,40⟩:Source)].length=2,aG 2 5 (jD 5 [(.int .i64 0),(.int .i64 1),(.int .i64 500),(.int .i64 0),(.int .i64 20),(.int .i64 2),(.int .i64 2),(.int .i64 300),(.int .i64 0),(.int .i64 40)]) (aC Source.cell [(⟨0,1,500,0,20⟩:Source),(⟨2,2,300,0,40⟩:Source)]),[(⟨0,1,3,400,10,([]:List iQ)⟩:Link),(⟨1,2,3,400,10,([]:List iQ)⟩:Link)].length=2,aG 2 6 (jD 6 [(.int .i64 0),(.int .i64 1),(.int .i64 3),(.int .i64 400),(.int .i64 10),nS,(.int .i64 1),(.int .i64 2),(.int .i64 3),(.int .i64 400),(.int .i64 10),nS]) (jD 6 [(.int .i64 0),(.int .i64 1),(.int .i64 3),(.int .i64 400),(.int .i64 10),nS,(.int .i64 1),(.int .i64 2),(.int .i64 3),(.int .i64 400),(.int .i64 10),nS])] {an:=[(2, .arr [(⟨0,1,500,0,20⟩:Source),(⟨2,2,300,0,40⟩:Source)].length (aC Source.cell [(⟨0,1,500,0,20⟩:Source),(⟨2,2,300,0,40⟩:Source)])),(5, .arr [(⟨0,1,3,400,10,([]:List iQ)⟩:Link),(⟨1,2,3,400,10,([]:List iQ)⟩:Link)].length (jD 6 [(.int .i64 0),(.int .i64 1),(.int .i64 3),(.int .i64 400),(.int .i64 10),nS,(.int .i64 1),(.int .i64 2),(.int .i64 3),(.int .i64 400),(.int .i64 10),nS]))],fr:=[(2,23),(5,24),(7,25)] } [] ⟨(rfl),((by intro i hi j hj;match i,j,hi,hj with|0,0,_,_=>rfl|0,1,_,_=>rfl|0,2,_,_=>rfl|0,3,_,_=>rfl|0,4,_,_=>rfl|1,0,_,_=>rfl|1,1,_,_=>rfl|1,2,_,_=>rfl|1,3,_,_=>rfl|1,4,_,_=>rfl)),(rfl),(iq _ _ _),trivial⟩ (bM.le (st':=⟨[(BA u0),(2,(vP 21 0)),(3,(vP 22 0)),(4,(vP 25 0))],(acN u0)⟩) ⟨⟨tR,tR,tR,tR,trivial⟩,(hN 4 ⟨rfl,QD (by intro i hi j hj;match i,j,hi,hj with|0,0,_,_=>exact .refl _|0,1,_,_=>exact .refl _|0,2,_,_=>exact .refl _|0,3,_,_=>exact .refl _|0,4,_,_=>exact .refl _|0,5,_,_=>exact gV.nil'|1,0,_,_=>exact .refl _|1,1,_,_=>exact .refl _|1,2,_,_=>exact .refl _|1,3,_,_=>exact .refl _|1,4,_,_=>exact .refl _|1,5,_,_=>exact gV.nil'),(.refl _)⟩)⟩) ?_
 refine aQ (sz tT ⟨(XG u0),(acN u0)⟩ {} [] ?_)
 refine bE h fun y hy h=> ?_
 refine aI (.trans (bM.zb (E:=0) (esz:=0) (E0:=26) (cs:=adm) (p:=25) (q:=3) (b:=34) (esz0:=0) (el0:=fun _ _=> .nilp) (ob:= .arr 166 4 0 (aC ay.cell ([]:List ay))) (fun _ _ _ _ h=> .inl ⟨h,rfl⟩) (by kernel_rfl) (by kernel_rfl) (by kernel_rfl)) (.trans (fz ⟨(XG u0),[(Fq u0),LU,Lb,MO,Pg,(25,some (.cells 26 [(cI 3),(.own 23 true ([(⟨0,1,500,0,20⟩:Source),(⟨2,2,300,0,40⟩:Source)].length)),(.own 24 true ([(⟨0,1,3,400,10,([]:List iQ)⟩:Link),(⟨1,2,3,400,10,([]:List iQ)⟩:Link)].length)),(.own 34 false 0)])),(34,some (.arr 166 4 0 (aC ay.cell ([]:List ay))))]⟩ []) (.trans (bM.fin (st':=⟨(XG u0),[(Fq u0),LU,Lb,MO,Pg,(25,some (.cells 26 [(cI 3),(.own 23 true ([(⟨0,1,500,0,20⟩:Source),(⟨2,2,300,0,40⟩:Source)].length)),(.own 24 true ([(⟨0,1,3,400,10,([]:List iQ)⟩:Link),(⟨1,2,3,400,10,([]:List iQ)⟩:Link)].length)),(.own 27 false 0)])),(27,some (.arr 166 4 0 (aC ay.cell ([]:List ay))))]⟩) (cs:=[]) ⟨[],[(0,0),(21,21),(22,22),(23,23),(24,24),(25,25),(34,27)]⟩ [0,2,3,4,5] (by kernel_rfl) trivial) (bM.le (st':=⟨(XG u0),[(Fq u0),LU,Lb,MO,Pg,(25,some (.cells 26 [(cI 3),(.own 23 true ([(⟨0,1,500,0,20⟩:Source),(⟨2,2,300,0,40⟩:Source)].length)),(.own 24 true ([(⟨0,1,3,400,10,([]:List iQ)⟩:Link),(⟨1,2,3,400,10,([]:List iQ)⟩:Link)].length)),(.own 27 false (([]:List ay).length))])),(27,some (bZ 166 4 ay.cell ([]:List ay)))]⟩) ⟨⟨tR,tR,tR,tR,tR,trivial⟩,(hN 5 ⟨rfl,bA ⟨dO.refl _,dO.refl _,dO.refl _,cW,trivial⟩,⟨rfl,oW,trivial⟩⟩)⟩)))) ?_
 refine aL [] (qp u0) (ql u0) (lZ u0) hy (fun s f h=> ?_) ?_
 ·clear hy
  show bJ _ _ _ _ _ _ ((zV u0) f) _
  unfold uz at h
  obtain⟨p3,i⟩:=s
  refine aQ (sz tT ⟨[(BA u0),(2,(vP 21 0)),(3,(vP 22 0)),(4,(vP 25 0)),(5,(vI i)),(17,(Uw i u0))],(XO u0 p3)⟩ {} [] ?_)
  refine bI h (fun hb h=> ?_) (fun hb h=> ?_)
  ·refine ct hb ?_
   refine aP (aQ (aB (sz tT ⟨[(BA u0),(2,(vP 21 0)),(3,(vP 22 0)),(4,(vP 25 0)),(5,(vI i)),(6,(vO 27 false p3.length))],(XO u0 p3)⟩ {} [] ?_)))
   refine aO h fun⟨a1,a2,a3⟩ h=> ?_
   refine rg tT ⟨[(BA u0),(2,(vP 21 0)),(3,(vP 22 0)),(4,(vP 25 0)),(5,(vI i))],(abJ u0 i p3)⟩ [_,_,[(QM u0 i)].length=1,aG 1 4 (jD 4 [(.int .i64 1),(.int .i64 (-1)),(.int .i64 (at' u0 i.toNat)),(.int .i64 1)]) (Y0 u0 i),p3.length=p3.length,_,_,(ML u0 i p3).length=p3.length+[(QM u0 i)].length,aG (p3.length+[(QM u0 i)].length) 4 (EM (aC ay.cell p3) p3.length (Y0 u0 i)) (aC ay.cell (ML u0 i p3))] {an:=[(7, .arr [(QM u0 i)].length (Y0 u0 i)),(8, .arr (ML u0 i p3).length (aC ay.cell (ML u0 i p3)))],fr:=[(7,32),(8,33)] } [] ⟨a1,(tL a1),(rfl),((by intro i hi j hj;match i,j,hi,hj with|0,0,_,_=>rfl|0,1,_,_=>rfl|0,2,_,_=>rfl|0,3,_,_=>rfl)),rfl,a2,a3,(List.length_append),(mU _ _ _ _),trivial⟩ ?_
   refine ri tT ⟨(aev u0 i),(abJ u0 i p3)⟩ [] {} [] trivial (bM.fin (st':=⟨(aev u0 i),[(Fq u0),LU,Lb,MO,Pg,(25,some (.cells 26 [(cI 3),(.own 23 true ([(⟨0,1,500,0,20⟩:Source),(⟨2,2,300,0,40⟩:Source)].length)),(.own 24 true ([(⟨0,1,3,400,10,([]:List iQ)⟩:Link),(⟨1,2,3,400,10,([]:List iQ)⟩:Link)].length)),(.own 27 false ((ML u0 i p3).length))])),(27,some (bZ 166 4 ay.cell (ML u0 i p3)))]⟩) (cs:=[]) ⟨[],[(0,0),(21,21),(22,22),(23,23),(24,24),(25,25),(33,27)]⟩ [0,2,3,4,5] (by kernel_rfl) trivial) ?_
   obtain rfl:=oi h
   exact lN
  ·refine cf hb ?_
   refine aI (fz (adx u0 p3) []) ?_
   refine aX ?_
   obtain rfl:=oi h
   exact lB
 ·clear hy
  cases y with
  |brk z=>
   obtain⟨u1,rfl⟩: ∃q,q=z:=⟨_,rfl⟩
   unfold gm
   refine⟨_, .refl, ?_⟩
   refine aQ (aO h fun⟨a1,a2,a3,a4,a5,a6⟩ h=> ?_)
   refine di tT mX ⟨[(2,(vP 21 0)),(3,(vP 22 0))],[(Fq u0),(21,some (.cells 26 [(cI 3),(.d afu),(.d adE),(.d (k14 u1))])),(22,some (.cells 29 [(.d Xe),(.d QO),(.d QO),(.d Xe),(.d QO),(.d VZ),(.d VZ)]))]⟩ (([true,true].length=2)::aG 2 1 (jD 1 [(.bool true),(.bool true)]) (aC aj [true,true])::_::((2:Int)=2)::_::_::((List.replicate 2 (false:Bool)).length=2)::aG 2 1 (fun _ j=>[(.bool false)].getD j .nilp) (aC aj (List.replicate 2 (false:Bool)))::_::((2:Int)=2)::_::_::((List.replicate 2 (false:Bool)).length=2)::aG 2 1 (fun _ j=>[(.bool false)].getD j .nilp) (aC aj (List.replicate 2 (false:Bool)))::([true,true].length=2)::aG 2 1 (jD 1 [(.bool true),(.bool true)]) (aC aj [true,true])::_::((2:Int)=2)::_::_::((List.replicate 2 (false:Bool)).length=2)::aG 2 1 (fun _ j=>[(.bool false)].getD j .nilp) (aC aj (List.replicate 2 (false:Bool)))::_::((3:Int)=3)::_::_::((List.replicate 3 (false:Bool)).length=3)::aG 3 1 (fun _ j=>[(.bool false)].getD j .nilp) (aC aj (List.replicate 3 (false:Bool)))::_::((3:Int)=3)::_::_::((List.replicate 3 (false:Bool)).length=3)::aG 3 1 (fun _ j=>[(.bool false)].getD j .nilp) (aC aj (List.replicate 3 (false:Bool)))::([(⟨0,1,500,0,20⟩:Source),(⟨2,2,300,0,40⟩:Source)].length=[(⟨0,1,500,0,20⟩:Source),(⟨2,2,300,0,40⟩:Source)].length)::([(⟨0,1,3,400,10,([]:List iQ)⟩:Link),(⟨1,2,3,400,10,([]:List iQ)⟩:Link)].length=[(⟨0,1,3,400,10,([]:List iQ)⟩:Link),(⟨1,2,3,400,10,([]:List iQ)⟩:Link)].length)::(u1.length=u1.length)::([true,true].length=[true,true].length)::(eqs (List.replicate 2 (false:Bool)).length 2 (([true,true].length=[true,true].length)::((List.replicate 2 (false:Bool)).length=(List.replicate 2 (false:Bool)).length)::(eqs (List.replicate 3 (false:Bool)).length 2 [])))) {an:=[(1, .arr [true,true].length (aC aj [true,true])),(2, .arr (List.replicate 2 (false:Bool)).length (aC aj (List.replicate 2 (false:Bool)))),(3, .arr (List.replicate 2 (false:Bool)).length (aC aj (List.replicate 2 (false:Bool)))),(4, .arr [true,true].length (aC aj [true,true])),(5, .arr (List.replicate 2 (false:Bool)).length (aC aj (List.replicate 2 (false:Bool)))),(6, .arr (List.replicate 3 (false:Bool)).length (aC aj (List.replicate 3 (false:Bool)))),(7, .arr (List.replicate 3 (false:Bool)).length (aC aj (List.replicate 3 (false:Bool))))],fr:=[(1,35),(2,36),(3,37),(4,38),(5,39),(6,40),(7,41)] } [23,24,27,35,36,37,38,39,40,41] ⟨(rfl),((by intro i hi j hj;match i,j,hi,hj with|0,0,_,_=>rfl|1,0,_,_=>rfl)),a1,rfl,a2,a3,(List.length_replicate),(dP _ _ _ _ _ (fun j hj=>(match j,hj with|0,_=>rfl))),a1,rfl,a2,a3,(List.length_replicate),(dP _ _ _ _ _ (fun j hj=>(match j,hj with|0,_=>rfl))),(rfl),((by intro i hi j hj;match i,j,hi,hj with|0,0,_,_=>rfl|1,0,_,_=>rfl)),a1,rfl,a2,a3,(List.length_replicate),(dP _ _ _ _ _ (fun j hj=>(match j,hj with|0,_=>rfl))),a4,rfl,a5,a6,(List.length_replicate),(dP _ _ _ _ _ (fun j hj=>(match j,hj with|0,_=>rfl))),a4,rfl,a5,a6,(List.length_replicate),(dP _ _ _ _ _ (fun j hj=>(match j,hj with|0,_=>rfl))),rfl,rfl,rfl,rfl,(ae ⟨rfl,rfl,(ae trivial)⟩)⟩ (fz ⟨[(2,(vD (lT [(.int .i64 3),afu,adE,(k14 u1)] 0))),(3,(vD (lT [Xe,QO,QO,Xe,QO,VZ,VZ] 0)))],(uN u0)⟩ [21,22]) ?_
   refine aI (bM.le (st':=⟨[(2,(vD (lT [(.int .i64 3),ae7,afX,(k14 u1)] 0))),(3,(vD (lT [(aK none 1 aj [true,true]),Sl,Sl,(aK none 1 aj [true,true]),Sl,Xi,Xi] 0)))],(uN u0)⟩) ⟨⟨⟨_,rfl,eH.v (eO.one (dO.d (K7 ⟨.refl _,gV.nT,gV.nT, .refl _,trivial⟩)))⟩,⟨_,rfl,eH.v (eO.one (dO.d (K7 ⟨gV.nT,gV.nT,gV.nT,gV.nT,gV.nT,gV.nT,gV.nT,trivial⟩)))⟩,trivial⟩,(.refl _)⟩) ?_
   refine aR ?_
   obtain rfl:=oi h
   exact rl [(.agg [(cI 3),(.d ae7),(.d afX),(.d (k14 u1))]),(.agg [(.d (aK none 1 aj [true,true])),(.d Sl),(.d Sl),(.d (aK none 1 aj [true,true])),(.d Sl),(.d Xi),(.d Xi)])]
  |ret v=>
   obtain rfl:=oi h
   unfold gm
   intro e st hn ha hR
   cases e with
   |normal=>exact absurd rfl hn
   |exit id=>exact hR
   |goto l=>exact hR
   |ret=>exact hR
   |panic c=>exact hR
   |outgrown=>exact hR
def GR  :Bool→Exit→St→Prop:=
  fun r=>bB TT [.tmp 0] (vB r) []
section
variable (r_:(ah × State)) (u9:(ai × (List Bool) × Int)) (v4:(Bool × Int)) (v6:Int) (u3:(ah × State)) (u0:(ai × (List Bool) × Int)) (u1:(Int × Int)) (u2:((List Part) × Int)) (u4:Int) (u5:((List Short) × Int)) (v0:((List Int) × Bool × Int)) (v8:Bool) (w3:Bool) (w4:Bool) (v7:Bool) (v5:Bool) (w1:Bool)
abbrev acD:List CV:=[(cI r_.1.buses),(.d (aK none 5 Source.cell r_.1.sources)),(.d (aK none 6 Link.cell r_.1.links)),(.d (aK none 4 ay.cell r_.1.racks))]
abbrev ae3:Nat × Option Ob:=(68,some (.cells 26 (acD r_)))
abbrev aft:List CV:=[(.d (aK none 1 aj r_.2.closed)),(.d (aK none 1 aj r_.2.locked)),(.d (aK none 1 aj r_.2.badLink)),(.d (aK none 1 aj r_.2.on_)),(.d (aK none 1 aj r_.2.badSource)),(.d (aK none 1 aj r_.2.earthed)),(.d (aK none 1 aj r_.2.badBus))]
abbrev ade:Nat × Option Ob:=(69,some (.cells 29 (aft r_)))
abbrev Tv:Nat × TV:=(4,(vD (FB u9)))
abbrev acz:Nat × Option Ob:=(70,some (aeN u9))
abbrev Sk:List (Nat × Option Ob):=[(ae3 r_),(ade r_),(acz u9)]
abbrev Ld:=(bif (!decide (u9.2.2=0))then true else(!decide (v4.2=0)))
abbrev Pf:=(bif (Ld u9 v4)then true else(!decide (v6=100)))
abbrev Gz:=(bif (Pf u9 v4 v6)then true else(!v4.1))
abbrev Ud:=(jl [(2,(!decide (u9.2.2=0))),(6,(Ld u9 v4)),(11,(Pf u9 v4 v6)),(15,true)])
abbrev O4:List SV:=[(.agg (XY u9))]
abbrev Xt:=(jl [(2,(!decide (u9.2.2=0))),(6,(Ld u9 v4)),(11,(Pf u9 v4 v6)),(15,false)])
abbrev Lc:Nat × TV:=(1,(vD (lT [(.int .i64 u3.1.buses),(aK none 5 Source.cell u3.1.sources),(aK none 6 Link.cell u3.1.links),(aK none 4 ay.cell u3.1.racks)] 0)))
abbrev MW:Nat × TV:=(2,(vD (lT [(aK none 1 aj u3.2.closed),(aK none 1 aj u3.2.locked),(aK none 1 aj u3.2.badLink),(aK none 1 aj u3.2.on_),(aK none 1 aj u3.2.badSource),(aK none 1 aj u3.2.earthed),(aK none 1 aj u3.2.badBus)] 0)))
abbrev aaE:Nat × TV:=(3,(ZP u0))
abbrev FD:=(bif (!decide (u0.2.2=0))then true else(!decide (u1.2=0)))
abbrev Am:=(bif (FD u0 u1)then true else(!decide (u2.2=0)))
abbrev Fv:=(bif (Am u0 u1 u2)then true else(!decide (u4=700)))
abbrev XQ:=(bif (Fv u0 u1 u2 u4)then true else(!decide (u1.1=700)))
abbrev Yb:=(bif (XQ u0 u1 u2 u4)then true else false)
abbrev T9:=(bif (Yb u0 u1 u2 u4)then true else false)
abbrev He:=(jl [(2,(!decide (u0.2.2=0))),(6,(FD u0 u1)),(10,(Am u0 u1 u2)),(15,(Fv u0 u1 u2 u4)),(19,true),(25,true),(33,(T9 u0 u1 u2 u4))])
abbrev JV:=((XQ u0 u1 u2 u4)=true)
abbrev PI:=((Yb u0 u1 u2 u4)=true)
abbrev V5:List SV:=[(.agg (acD u3)),(.agg (aft u3)),(.agg (XY u0)),(sD (FB u0))]
abbrev H9:DV:=(aK none 4 Short.cell u5.1)
abbrev WC:St:=⟨[(Lc u3),(5,(vI u5.2)),(11,(vD (H9 u5)))],[]⟩
abbrev JZ:DV:=(aK (some v0.2.1) 1 (au .i64) v0.1)
abbrev V6:St:=⟨[(5,(vI u5.2)),(7,(vI v0.2.2)),(11,(vD (H9 u5))),(12,(vD (JZ v0)))],[]⟩
abbrev bK:=(bif (decide (u5.2=0))then(decide (v0.2.2=0))else false)
abbrev mP:=(bif (bK u5 v0)then v8 else false)
abbrev Xc:St:=⟨[(0,(vB (bif (mP u5 v0 v8)then w3 else false)))],[]⟩
abbrev nA:=(jl [(2,(decide (u5.2=0))),(6,true),(15,true)])
abbrev ni:List DV:=[(.int .i64 0),(.int .i64 30),(.int .i64 13334),(aK (some true) 1 (au .i64) [0]),(.int .i64 1),(.int .i64 50),(.int .i64 8000),(aK (some true) 1 (au .i64) [1])]
abbrev afS:List (Nat × Option Ob):=[(78,some (.arr 103 4 [(⟨0,30,13334,[0]⟩:Short),(⟨1,50,8000,[1]⟩:Short)].length (jD 4 ni)))]
abbrev NU:List DV:=[(.int .i64 13334),(.int .i64 8000)]
abbrev BV:Ob:=(bZ 3 1 (au .i64) [13334,8000])
abbrev Mt:List SV:=[(sD (H9 u5)),(sD (.sl (some true) 4 [(⟨0,30,13334,[0]⟩:Short),(⟨1,50,8000,[1]⟩:Short)].length (jD 4 ni)))]
abbrev Od:List SV:=[(sD (JZ v0)),(sD (aK (some true) 1 (au .i64) [13334,8000]))]
abbrev Ww:St:=⟨[(0,(vB (bif (mP u5 v0 v8)then false else false)))],[]⟩
abbrev ny:=(jl [(2,(decide (u5.2=0))),(6,true),(15,false)])
abbrev af9:List (Nat × Option Ob):=[(82,some (.arr 103 4 [(⟨0,30,13334,[0]⟩:Short),(⟨1,50,8000,[1]⟩:Short)].length (jD 4 ni)))]
abbrev vH:=(bif (bK u5 v0)then false else false)
abbrev WX:St:=⟨[(0,(vB (bif (vH u5 v0)then w4 else false)))],[]⟩
abbrev jX:=(jl [(2,(decide (u5.2=0))),(6,false),(15,true)])
abbrev WZ:St:=⟨[(0,(vB (bif (vH u5 v0)then false else false)))],[]⟩
abbrev J2:=(jl [(2,(decide (u5.2=0))),(6,false),(15,false)])
abbrev WW:=(eqs (decide (u5.2=0)) 3 [(bK u5 v0)=false, ¬ gP (J2 u5) [(6,true)],(bK u5 v0)=false, ¬ gP (J2 u5) [(6,true)],(bK u5 v0)=false, ¬ gP (J2 u5) [(6,true)],(bK u5 v0)=false, ¬ gP (J2 u5) [(6,true)],(bK u5 v0)=false, ¬ gP (J2 u5) [(6,true)],(bK u5 v0)=false, ¬ gP (J2 u5) [(6,true)],(bK u5 v0)=false, ¬ gP (J2 u5) [(6,true)],(bK u5 v0)=false,(vH u5 v0)=false, ¬ gP (J2 u5) [(15,true)],(vH u5 v0)=false, ¬ gP (J2 u5) [(15,true)],(vH u5 v0)=false, ¬ gP (J2 u5) [(15,true)],(vH u5 v0)=false])
abbrev UE:=(bif (Yb u0 u1 u2 u4)then true else(!v7))
abbrev LH:=(jl [(2,(!decide (u0.2.2=0))),(6,(FD u0 u1)),(10,(Am u0 u1 u2)),(15,(Fv u0 u1 u2 u4)),(19,true),(25,false),(33,(UE u0 u1 u2 u4 v7))])
abbrev OE:=((Yb u0 u1 u2 u4)=false)
abbrev ad2:List SV:=[(sD (aK none 2 Part.cell u2.1)),(sD (aK (some true) 2 Part.cell [(⟨2,1⟩:Part),(⟨3,0⟩:Part)]))]
abbrev agk:List (Nat × Option Ob):=[(90,some (.arr 103 4 [(⟨0,30,13334,[0]⟩:Short),(⟨1,50,8000,[1]⟩:Short)].length (jD 4 ni)))]
abbrev agO:List (Nat × Option Ob):=[(94,some (.arr 103 4 [(⟨0,30,13334,[0]⟩:Short),(⟨1,50,8000,[1]⟩:Short)].length (jD 4 ni)))]
abbrev Xa:=(bif (XQ u0 u1 u2 u4)then true else(!v5))
abbrev UM:=(bif (Xa u0 u1 u2 u4 v5)then true else false)
abbrev Ih:=(jl [(2,(!decide (u0.2.2=0))),(6,(FD u0 u1)),(10,(Am u0 u1 u2)),(15,(Fv u0 u1 u2 u4)),(19,false),(25,true),(33,(UM u0 u1 u2 u4 v5))])
abbrev JN:=((XQ u0 u1 u2 u4)=false)
abbrev Pv:=((Xa u0 u1 u2 u4 v5)=true)
abbrev agh:List (Nat × Option Ob):=[(103,some (.arr 103 4 [(⟨0,30,13334,[0]⟩:Short),(⟨1,50,8000,[1]⟩:Short)].length (jD 4 ni)))]
abbrev aeo:List (Nat × Option Ob):=[(107,some (.arr 103 4 [(⟨0,30,13334,[0]⟩:Short),(⟨1,50,8000,[1]⟩:Short)].length (jD 4 ni)))]
abbrev Ui:=(bif (Xa u0 u1 u2 u4 v5)then true else(!w1))
abbrev MJ:=(jl [(2,(!decide (u0.2.2=0))),(6,(FD u0 u1)),(10,(Am u0 u1 u2)),(15,(Fv u0 u1 u2 u4)),(19,false),(25,false),(33,(Ui u0 u1 u2 u4 v5 w1))])
abbrev OJ:=((Xa u0 u1 u2 u4 v5)=false)
abbrev aeb:List (Nat × Option Ob):=[(116,some (.arr 103 4 [(⟨0,30,13334,[0]⟩:Short),(⟨1,50,8000,[1]⟩:Short)].length (jD 4 ni)))]
abbrev ab4:List (Nat × Option Ob):=[(120,some (.arr 103 4 [(⟨0,30,13334,[0]⟩:Short),(⟨1,50,8000,[1]⟩:Short)].length (jD 4 ni)))]
end
theorem yo  {r:Bool} (h:nO=some r):Fn Try.prog 30 [] [] (vB r) []:=by
 refine fN tT Try.func30 rfl rfl fun B=> ?_
 show bJ _ _ _ _ _ _ (GR r) _
 unfold nO at h
 refine sz tT ⟨[],[]⟩ {} [] ?_
 refine aQ (bE h fun r_ hr_ h=> ?_)
 have q2:=rk [(0,67)] (qw [100] hr_)
 refine rg tT ⟨[(1,(vP 68 0)),(2,(vP 69 0))],[(ae3 r_),(ade r_)]⟩ [[100].length=1,aG 1 1 (jD 1 [(.int .i64 100)]) (aC (au .i64) [100]),_] {an:=[(0, .arr [100].length (aC (au .i64) [100])),(1,cR q2 [67])],fr:=[(0,67),(5,68),(6,69)] } [] ⟨(rfl),((by intro i hi j hj;match i,j,hi,hj with|0,0,_,_=>rfl)),q2,trivial⟩ ?_
 refine aQ (bE h fun u9 hr_1 h=> ?_)
 have q0:=zH r_.1 r_.2 hr_1
 refine rg tT ⟨[(1,(vP 68 0)),(2,(vP 69 0)),(3,(vP 70 0)),(Tv u9),(5,(vI u9.2.2))],(Sk r_ u9)⟩ [_] {an:=[(2,cA q0 [])],fr:=[(7,70)] } [] ⟨q0,trivial⟩ ?_
 refine aQ (bE h fun v4 hr_2 h=> ?_)
 have q0:=IW r_.1 r_.2 hr_2
 refine rg tT ⟨[(1,(vP 68 0)),(2,(vP 69 0)),(3,(vP 70 0)),(Tv u9),(5,(vI u9.2.2)),(6,(vB v4.1)),(7,(vI v4.2))],(Sk r_ u9)⟩ [_] {an:=[(2,cA q0 [])] } [] ⟨q0,trivial⟩ ?_
 refine aQ (aQ (bE h fun v6 hr_3 h=> ?_))
 refine bI h (fun hb h=> ?_) (fun hb h=> ?_)
 ·skip
  refine ri tT ⟨[(1,(vP 68 0)),(2,(vP 69 0)),(3,(vP 70 0)),(51,(vB (bif (Gz u9 v4 v6)then true else false)))],(Sk r_ u9)⟩ (eqs (!decide (u9.2.2=0)) 3 (eqs (Ld u9 v4) 2 ((gP (Ud u9 v4 v6) [(6,false)]→All [Fn Try.prog 41 (O4 u9) [] (vI v6) []])::(eqs (Ld u9 v4) 2 (eqs (Pf u9 v4 v6) 3 [(Gz u9 v4 v6)=true, ¬ gP (Ud u9 v4 v6) [(15,false)],(Gz u9 v4 v6)=true, ¬ gP (Ud u9 v4 v6) [(15,false)],(Gz u9 v4 v6)=true, ¬ gP (Ud u9 v4 v6) [(15,false)],(Gz u9 v4 v6)=true, ¬ gP (Ud u9 v4 v6) [(15,false)],(Gz u9 v4 v6)=true]))))) {yb:=[(2,(!decide (u9.2.2=0))),(6,(Ld u9 v4)),(11,(Pf u9 v4 v6)),(15,true)],an:=[(8, .call [] (vI v6) []),(16, .skip),(17, .skip),(18, .skip),(19, .skip)] } [] (ae (ae ⟨(fun hg=> ⟨(dA u9.1 (gF hr_3 (aZ hg))),trivial⟩),(ae (ae ⟨(hb),((fun h=>Bool.noConfusion (show true=false from h.1))),(hb),((fun h=>Bool.noConfusion (show true=false from h.1))),(hb),((fun h=>Bool.noConfusion (show true=false from h.1))),(hb),((fun h=>Bool.noConfusion (show true=false from h.1))),(hb),trivial⟩))⟩)) (bM.le (st':=⟨[(1,(vP 68 0)),(2,(vP 69 0)),(3,(vP 70 0)),(51,(vB true))],(Sk r_ u9)⟩) ⟨⟨tR,tR,tR,⟨_,rfl,eH.v (eO.one (dO.of (congrArg (fun b=>CV.d (.bool b)) (BF hb))))⟩,trivial⟩,(.refl _)⟩) ?_
  refine ck (sz tT ⟨[(0,(vB false))],[]⟩ {} [] ?_)
  refine aR ?_
  obtain rfl:=oi h
  exact rl [(sB false)]
 ·skip
  refine bE h fun x1 hr_4 h=> ?_
  refine ri tT ⟨[(1,(vP 68 0)),(2,(vP 69 0)),(3,(vP 70 0)),(51,(vB (bif (Gz u9 v4 v6)then true else(!x1))))],(Sk r_ u9)⟩ (eqs (!decide (u9.2.2=0)) 3 (eqs (Ld u9 v4) 2 ((gP (Xt u9 v4 v6) [(6,false)]→All [Fn Try.prog 41 (O4 u9) [] (vI v6) []])::(eqs (Ld u9 v4) 2 (eqs (Pf u9 v4 v6) 3 [(Gz u9 v4 v6)=false,(Gz u9 v4 v6)=false,gP (Xt u9 v4 v6) [(15,false)]→All [[true,true,true].length=3,aG 3 1 (jD 1 [(.bool true),(.bool true),(.bool true)]) (aC aj [true,true,true])],gP (Xt u9 v4 v6) [(15,false)],(Gz u9 v4 v6)=false,gP (Xt u9 v4 v6) [(15,false)]→All [Fn Try.prog 42 [(sD (FB u9)),(.one (.own 71 true ([true,true,true].length)))] [(71,some (bZ 4 1 aj [true,true,true]))] (vB x1) [(71,some (bZ 4 1 aj [true,true,true]))]],(Gz u9 v4 v6)=false,(Gz u9 v4 v6)=false]))))) {yb:=[(2,(!decide (u9.2.2=0))),(6,(Ld u9 v4)),(11,(Pf u9 v4 v6)),(15,false)],an:=[(8, .call [] (vI v6) []),(17, .arr [true,true,true].length (aC aj [true,true,true])),(18, .callR [71] (vB x1))],fr:=[(17,71)] } [] (ae (ae ⟨(fun hg=> ⟨(dA u9.1 (gF hr_3 (aZ hg))),trivial⟩),(ae (ae ⟨(hb),(hb),(fun hg=> ⟨(rfl),((by intro i hi j hj;match i,j,hi,hj with|0,0,_,_=>rfl|1,0,_,_=>rfl|2,0,_,_=>rfl)),trivial⟩),(⟨rfl,trivial⟩),(hb),(fun hg=> ⟨(Fn.vG (frz:=[71]) (p:=[[true,true,true].length=[true,true,true].length]) (Fn.le (args':=[(sD (FB u9)),(sD (aK (some true) 1 aj [true,true,true]))]) (ng u9.2.1 [true,true,true] hr_4) ⟨eO.refl _,eO.one (dO.d gV.nT),trivial⟩) (by kernel_rfl) ⟨rfl,trivial⟩ rfl),trivial⟩),(hb),(hb),trivial⟩))⟩)) (bM.le (st':=⟨[(1,(vP 68 0)),(2,(vP 69 0)),(3,(vP 70 0)),(51,(vB (!x1)))],(Sk r_ u9)⟩) ⟨⟨tR,tR,tR,⟨_,rfl,eH.v (eO.one (dO.of (congrArg (fun b=>CV.d (.bool b)) (Cg hb))))⟩,trivial⟩,(.refl _)⟩) ?_
  refine bI h (fun hb20 h=> ?_) (fun hb20 h=> ?_)
  ·refine ct hb20 ?_
   refine sz tT ⟨[(0,(vB false))],[]⟩ {} [] ?_
   refine aR ?_
   obtain rfl:=oi h
   exact rl [(sB false)]
  ·refine cf hb20 ?_
   refine aP (aQ (bE h fun u3 hr_5 h=> ?_))
   have q2:=rk [(0,72)] (qw [300,600] hr_5)
   refine rg tT ⟨[(Lc u3),(MW u3),(3,(vP 70 0))],[(acz u9)]⟩ [[300,600].length=2,aG 2 1 (jD 1 [(.int .i64 300),(.int .i64 600)]) (aC (au .i64) [300,600]),_] {an:=[(0, .arr [300,600].length (aC (au .i64) [300,600])),(1,cR q2 [72])],fr:=[(0,72)] } [68,69] ⟨(rfl),((by intro i hi j hj;match i,j,hi,hj with|0,0,_,_=>rfl|1,0,_,_=>rfl)),q2,trivial⟩ ?_
   refine aQ (bE h fun u0 hr_6 h=> ?_)
   have q0:=zH u3.1 u3.2 hr_6
   refine rg tT ⟨[(Lc u3),(MW u3),(aaE u0),(Tv u0),(5,(vI u0.2.2))],[]⟩ [_] {an:=[(2,cA q0 [])] } [70] ⟨q0,trivial⟩ ?_
   refine aQ (bE h fun u1 hr_7 h=> ?_)
   have q0:=og u3.1 u3.2 u0.2.1 hr_7
   refine rg tT ⟨[(Lc u3),(MW u3),(aaE u0),(Tv u0),(5,(vI u0.2.2)),(7,(vI u1.2)),(8,(vI u1.1))],[]⟩ [_] {an:=[(3,cA q0 [])] } [] ⟨q0,trivial⟩ ?_
   refine aQ (bE h fun u2 hr_8 h=> ?_)
   have q0:=GX u3.1 u3.2 hr_8
   refine rg tT ⟨[(Lc u3),(MW u3),(aaE u0),(Tv u0),(5,(vI u0.2.2)),(7,(vI u1.2)),(8,(vI u1.1)),(9,(vD (aK none 2 Part.cell u2.1))),(10,(vI u2.2))],[]⟩ [_] {an:=[(2,cA q0 [])] } [] ⟨q0,trivial⟩ ?_
   refine aQ (aQ (bE h fun u4 hr_9 h=> ?_))
   refine bI h (fun hb1 h=> ?_) (fun hb1 h=> ?_)
   ·skip
    refine bI h (fun hb2 h=> ?_) (fun hb2 h=> ?_)
    ·skip
     refine bE h fun x2 hr_10 h=> ?_
     refine rg tT ⟨[(Lc u3),(MW u3),(117,(vB (bif (T9 u0 u1 u2 u4)then true else(!decide (x2=0)))))],[]⟩ (eqs (!decide (u0.2.2=0)) 3 (eqs (FD u0 u1) 3 (eqs (Am u0 u1 u2) 2 ((gP (He u0 u1 u2 u4) [(10,false)]→All [Fn Try.prog 41 (O4 u0) [] (vI u4) []])::(eqs (Am u0 u1 u2) 2 (eqs (Fv u0 u1 u2 u4) 3 ((JV u0 u1 u2 u4)::(¬ gP (He u0 u1 u2 u4) [(19,false)])::(JV u0 u1 u2 u4)::(¬ gP (He u0 u1 u2 u4) [(19,false)])::(JV u0 u1 u2 u4)::(¬ gP (He u0 u1 u2 u4) [(19,false)])::(JV u0 u1 u2 u4)::(¬ gP (He u0 u1 u2 u4) [(19,false)])::(JV u0 u1 u2 u4)::(PI u0 u1 u2 u4)::(¬ gP (He u0 u1 u2 u4) [(25,false)])::(PI u0 u1 u2 u4)::(¬ gP (He u0 u1 u2 u4) [(25,false)])::(PI u0 u1 u2 u4)::(¬ gP (He u0 u1 u2 u4) [(25,false)])::(PI u0 u1 u2 u4)::(¬ gP (He u0 u1 u2 u4) [(25,false)])::(PI u0 u1 u2 u4)::(¬ gP (He u0 u1 u2 u4) [(25,false)])::(PI u0 u1 u2 u4)::(¬ gP (He u0 u1 u2 u4) [(25,false)])::(PI u0 u1 u2 u4)::(eqs (T9 u0 u1 u2 u4) 5 ((gP (He u0 u1 u2 u4) [(33,false)]→All [Fn Try.prog 49 (V5 u3 u0) [] (vI x2) []])::(eqs (T9 u0 u1 u2 u4) 2 [])))))))))) {yb:=[(2,(!decide (u0.2.2=0))),(6,(FD u0 u1)),(10,(Am u0 u1 u2)),(15,(Fv u0 u1 u2 u4)),(19,true),(25,true),(33,(T9 u0 u1 u2 u4))],an:=[(12, .call [] (vI u4) []),(20, .skip),(21, .skip),(22, .skip),(23, .skip),(26, .skip),(27, .skip),(28, .skip),(29, .skip),(30, .skip),(31, .skip),(38, .call [] (vI x2) [])] } [] (ae (ae (ae ⟨(fun hg=> ⟨(dA u0.1 (gF hr_9 (aZ hg))),trivial⟩),(ae (ae ⟨(hb1),((fun h=>Bool.noConfusion (show true=false from h.1))),(hb1),((fun h=>Bool.noConfusion (show true=false from h.1))),(hb1),((fun h=>Bool.noConfusion (show true=false from h.1))),(hb1),((fun h=>Bool.noConfusion (show true=false from h.1))),(hb1),(hb2),((fun h=>Bool.noConfusion (show true=false from h.1))),(hb2),((fun h=>Bool.noConfusion (show true=false from h.1))),(hb2),((fun h=>Bool.noConfusion (show true=false from h.1))),(hb2),((fun h=>Bool.noConfusion (show true=false from h.1))),(hb2),((fun h=>Bool.noConfusion (show true=false from h.1))),(hb2),((fun h=>Bool.noConfusion (show true=false from h.1))),(hb2),(ae ⟨(fun hg=> ⟨(jC u3.1 u3.2 u0.1 u0.2.1 (gF hr_10 (aZ hg))),trivial⟩),(ae trivial)⟩)⟩))⟩))) ?_
     refine bI h (fun hb6 h=> ?_) (fun hb6 h=> ?_)
     ·refine ct hb6 ?_
      refine sz tT ⟨[(0,(vB false))],[]⟩ {} [] ?_
      refine aR ?_
      obtain rfl:=oi h
      exact rl [(sB false)]
     ·refine cf hb6 ?_
      refine aP (aQ (bE h fun u5 hr_11 h=> ?_))
      have q0:=mV u3.1 u3.2 1 hr_11
      refine rg tT (WC u3 u5) [_] {an:=[(2,cA q0 [])] } [] ⟨q0,trivial⟩ ?_
      refine aQ (bE h fun v0 hr_12 h=> ?_)
      have q0:=lu u3.1 u5.1 hr_12
      refine rg tT (V6 u5 v0) [_] {an:=[(2,cA q0 [])] } [] ⟨q0,trivial⟩ ?_
      refine aQ ?_
      refine bI h (fun hb3 h=> ?_) (fun hb3 h=> ?_)
      ·skip
       refine bE h fun v8 hr_13 h=> ?_
       refine bI h (fun hb4 h=> ?_) (fun hb4 h=> ?_)
       ·skip
        refine bE h fun w3 hr_14 h=> ?_
        refine ri tT (Xc u5 v0 v8 w3) (eqs (decide (u5.2=0)) 3 [(bK u5 v0)=true,(bK u5 v0)=true,gP (nA u5) [(6,true)]→All [[0].length=1,aG 1 1 (jD 1 [(.int .i64 0)]) (aC (au .i64) [0])],(bK u5 v0)=true,(bK u5 v0)=true,gP (nA u5) [(6,true)]→All [[1].length=1,aG 1 1 (jD 1 [(.int .i64 1)]) (aC (au .i64) [1])],(bK u5 v0)=true,(bK u5 v0)=true,gP (nA u5) [(6,true)]→All [[(⟨0,30,13334,[0]⟩:Short),(⟨1,50,8000,[1]⟩:Short)].length=2,aG 2 4 (jD 4 ni) (jD 4 ni)],gP (nA u5) [(6,true)],(bK u5 v0)=true,gP (nA u5) [(6,true)]→All [Fn Try.prog 52 [(sD (H9 u5)),(.one (.own 78 true ([(⟨0,30,13334,[0]⟩:Short),(⟨1,50,8000,[1]⟩:Short)].length)))] afS (vB v8) afS],(bK u5 v0)=true,(mP u5 v0 v8)=true,(mP u5 v0 v8)=true,gP (nA u5) [(15,true)]→All [[13334,8000].length=2,aG 2 1 (jD 1 NU) (aC (au .i64) [13334,8000])],gP (nA u5) [(15,true)],(mP u5 v0 v8)=true,gP (nA u5) [(15,true)]→All [Fn Try.prog 54 [(sD (JZ v0)),(.one (.own 79 true ([13334,8000].length)))] [(79,some BV)] (vB w3) [(79,some BV)]],(mP u5 v0 v8)=true]) {yb:=[(2,(decide (u5.2=0))),(6,true),(15,true)],an:=[(8, .frz [0].length (aC (au .i64) [0])),(10, .frz [1].length (aC (au .i64) [1])),(12, .arr [(⟨0,30,13334,[0]⟩:Short),(⟨1,50,8000,[1]⟩:Short)].length (jD 4 ni)),(13, .callR [78] (vB v8)),(17, .arr [13334,8000].length (aC (au .i64) [13334,8000])),(18, .callR [79] (vB w3))],fr:=[(12,78),(17,79)] } [] (ae ⟨(hb3),(hb3),(fun hg=> ⟨(rfl),((by intro i hi j hj;match i,j,hi,hj with|0,0,_,_=>rfl)),trivial⟩),(hb3),(hb3),(fun hg=> ⟨(rfl),((by intro i hi j hj;match i,j,hi,hj with|0,0,_,_=>rfl)),trivial⟩),(hb3),(hb3),(fun hg=> ⟨(rfl),(iq _ _ _),trivial⟩),(⟨rfl,trivial⟩),(hb3),(fun hg=> ⟨(Fn.vG (frz:=[78]) (p:=[[(⟨0,30,13334,[0]⟩:Short),(⟨1,50,8000,[1]⟩:Short)].length=[(⟨0,30,13334,[0]⟩:Short),(⟨1,50,8000,[1]⟩:Short)].length]) (Fn.le (args':=(Mt u5)) (bY u5.1 [(⟨0,30,13334,[0]⟩:Short),(⟨1,50,8000,[1]⟩:Short)] hr_13) ⟨eO.refl _,eO.one (dO.d (gV.sl (.inl rfl) (by intro i hi j hj;match i,j,hi,hj with|0,0,_,_=>exact .refl _|0,1,_,_=>exact .refl _|0,2,_,_=>exact .refl _|0,3,_,_=>exact gV.nT|1,0,_,_=>exact .refl _|1,1,_,_=>exact .refl _|1,2,_,_=>exact .refl _|1,3,_,_=>exact gV.nT))),trivial⟩) (by kernel_rfl) ⟨rfl,trivial⟩ rfl),trivial⟩),(hb3),(hb4),(hb4),(fun hg=> ⟨(rfl),((by intro i hi j hj;match i,j,hi,hj with|0,0,_,_=>rfl|1,0,_,_=>rfl)),trivial⟩),(⟨rfl,trivial⟩),(hb4),(fun hg=> ⟨(Fn.vG (frz:=[79]) (p:=[[13334,8000].length=[13334,8000].length]) (Fn.le (args':=(Od v0)) (dG v0.1 [13334,8000] hr_14) ⟨eO.one (dO.d gV.nT),eO.one (dO.d gV.nT),trivial⟩) (by kernel_rfl) ⟨rfl,trivial⟩ rfl),trivial⟩),(hb4),trivial⟩) (bM.le (st':=⟨[(0,(vB w3))],[]⟩) ⟨⟨⟨_,rfl,eH.v (eO.one (dO.of (congrArg (fun b=>CV.d (.bool b)) (BF hb4))))⟩,trivial⟩,trivial⟩) ?_
        refine aR ?_
        obtain rfl:=oi h
        exact rl [(sB w3)]
       ·skip
        refine ri tT (Ww u5 v0 v8) (eqs (decide (u5.2=0)) 3 [(bK u5 v0)=true,(bK u5 v0)=true,gP (ny u5) [(6,true)]→All [[0].length=1,aG 1 1 (jD 1 [(.int .i64 0)]) (aC (au .i64) [0])],(bK u5 v0)=true,(bK u5 v0)=true,gP (ny u5) [(6,true)]→All [[1].length=1,aG 1 1 (jD 1 [(.int .i64 1)]) (aC (au .i64) [1])],(bK u5 v0)=true,(bK u5 v0)=true,gP (ny u5) [(6,true)]→All [[(⟨0,30,13334,[0]⟩:Short),(⟨1,50,8000,[1]⟩:Short)].length=2,aG 2 4 (jD 4 ni) (jD 4 ni)],gP (ny u5) [(6,true)],(bK u5 v0)=true,gP (ny u5) [(6,true)]→All [Fn Try.prog 52 [(sD (H9 u5)),(.one (.own 82 true ([(⟨0,30,13334,[0]⟩:Short),(⟨1,50,8000,[1]⟩:Short)].length)))] af9 (vB v8) af9],(bK u5 v0)=true,(mP u5 v0 v8)=false, ¬ gP (ny u5) [(15,true)],(mP u5 v0 v8)=false, ¬ gP (ny u5) [(15,true)],(mP u5 v0 v8)=false, ¬ gP (ny u5) [(15,true)],(mP u5 v0 v8)=false]) {yb:=[(2,(decide (u5.2=0))),(6,true),(15,false)],an:=[(8, .frz [0].length (aC (au .i64) [0])),(10, .frz [1].length (aC (au .i64) [1])),(12, .arr [(⟨0,30,13334,[0]⟩:Short),(⟨1,50,8000,[1]⟩:Short)].length (jD 4 ni)),(13, .callR [82] (vB v8)),(16, .skip),(17, .skip),(18, .skip)],fr:=[(12,82)] } [] (ae ⟨(hb3),(hb3),(fun hg=> ⟨(rfl),((by intro i hi j hj;match i,j,hi,hj with|0,0,_,_=>rfl)),trivial⟩),(hb3),(hb3),(fun hg=> ⟨(rfl),((by intro i hi j hj;match i,j,hi,hj with|0,0,_,_=>rfl)),trivial⟩),(hb3),(hb3),(fun hg=> ⟨(rfl),(iq _ _ _),trivial⟩),(⟨rfl,trivial⟩),(hb3),(fun hg=> ⟨(Fn.vG (frz:=[82]) (p:=[[(⟨0,30,13334,[0]⟩:Short),(⟨1,50,8000,[1]⟩:Short)].length=[(⟨0,30,13334,[0]⟩:Short),(⟨1,50,8000,[1]⟩:Short)].length]) (Fn.le (args':=(Mt u5)) (bY u5.1 [(⟨0,30,13334,[0]⟩:Short),(⟨1,50,8000,[1]⟩:Short)] hr_13) ⟨eO.refl _,eO.one (dO.d (gV.sl (.inl rfl) (by intro i hi j hj;match i,j,hi,hj with|0,0,_,_=>exact .refl _|0,1,_,_=>exact .refl _|0,2,_,_=>exact .refl _|0,3,_,_=>exact gV.nT|1,0,_,_=>exact .refl _|1,1,_,_=>exact .refl _|1,2,_,_=>exact .refl _|1,3,_,_=>exact gV.nT))),trivial⟩) (by kernel_rfl) ⟨rfl,trivial⟩ rfl),trivial⟩),(hb3),(hb4),((fun h=>Bool.noConfusion (show false=true from h.1))),(hb4),((fun h=>Bool.noConfusion (show false=true from h.1))),(hb4),((fun h=>Bool.noConfusion (show false=true from h.1))),(hb4),trivial⟩) (bM.le (st':=⟨[(0,(vB false))],[]⟩) ⟨⟨⟨_,rfl,eH.v (eO.one (dO.of (congrArg (fun b=>CV.d (.bool b)) (Cg hb4))))⟩,trivial⟩,trivial⟩) ?_
        refine aR ?_
        obtain rfl:=oi h
        exact rl [(sB false)]
      ·skip
       refine bI h (fun hb5 h=> ?_) (fun hb5 h=> ?_)
       ·skip
        refine bE h fun w4 hr_15 h=> ?_
        refine ri tT (WX u5 v0 w4) (eqs (decide (u5.2=0)) 3 [(bK u5 v0)=false, ¬ gP (jX u5) [(6,true)],(bK u5 v0)=false, ¬ gP (jX u5) [(6,true)],(bK u5 v0)=false, ¬ gP (jX u5) [(6,true)],(bK u5 v0)=false, ¬ gP (jX u5) [(6,true)],(bK u5 v0)=false, ¬ gP (jX u5) [(6,true)],(bK u5 v0)=false, ¬ gP (jX u5) [(6,true)],(bK u5 v0)=false, ¬ gP (jX u5) [(6,true)],(bK u5 v0)=false,(vH u5 v0)=true,(vH u5 v0)=true,gP (jX u5) [(15,true)]→All [[13334,8000].length=2,aG 2 1 (jD 1 NU) (aC (au .i64) [13334,8000])],gP (jX u5) [(15,true)],(vH u5 v0)=true,gP (jX u5) [(15,true)]→All [Fn Try.prog 54 [(sD (JZ v0)),(.one (.own 83 true ([13334,8000].length)))] [(83,some BV)] (vB w4) [(83,some BV)]],(vH u5 v0)=true]) {yb:=[(2,(decide (u5.2=0))),(6,false),(15,true)],an:=[(7, .skip),(8, .skip),(9, .skip),(10, .skip),(11, .skip),(12, .skip),(13, .skip),(17, .arr [13334,8000].length (aC (au .i64) [13334,8000])),(18, .callR [83] (vB w4))],fr:=[(17,83)] } [] (ae ⟨(hb3),((fun h=>Bool.noConfusion (show false=true from h.1))),(hb3),((fun h=>Bool.noConfusion (show false=true from h.1))),(hb3),((fun h=>Bool.noConfusion (show false=true from h.1))),(hb3),((fun h=>Bool.noConfusion (show false=true from h.1))),(hb3),((fun h=>Bool.noConfusion (show false=true from h.1))),(hb3),((fun h=>Bool.noConfusion (show false=true from h.1))),(hb3),((fun h=>Bool.noConfusion (show false=true from h.1))),(hb3),(hb5),(hb5),(fun hg=> ⟨(rfl),((by intro i hi j hj;match i,j,hi,hj with|0,0,_,_=>rfl|1,0,_,_=>rfl)),trivial⟩),(⟨rfl,trivial⟩),(hb5),(fun hg=> ⟨(Fn.vG (frz:=[83]) (p:=[[13334,8000].length=[13334,8000].length]) (Fn.le (args':=(Od v0)) (dG v0.1 [13334,8000] hr_15) ⟨eO.one (dO.d gV.nT),eO.one (dO.d gV.nT),trivial⟩) (by kernel_rfl) ⟨rfl,trivial⟩ rfl),trivial⟩),(hb5),trivial⟩) (bM.le (st':=⟨[(0,(vB w4))],[]⟩) ⟨⟨⟨_,rfl,eH.v (eO.one (dO.of (congrArg (fun b=>CV.d (.bool b)) (BF hb5))))⟩,trivial⟩,trivial⟩) ?_
        refine aR ?_
        obtain rfl:=oi h
        exact rl [(sB w4)]
       ·skip
        refine ri tT (WZ u5 v0) (WW u5 v0) {yb:=[(2,(decide (u5.2=0))),(6,false),(15,false)],an:=[(7, .skip),(8, .skip),(9, .skip),(10, .skip),(11, .skip),(12, .skip),(13, .skip),(16, .skip),(17, .skip),(18, .skip)] } [] (ae ⟨(hb3),((fun h=>Bool.noConfusion (show false=true from h.1))),(hb3),((fun h=>Bool.noConfusion (show false=true from h.1))),(hb3),((fun h=>Bool.noConfusion (show false=true from h.1))),(hb3),((fun h=>Bool.noConfusion (show false=true from h.1))),(hb3),((fun h=>Bool.noConfusion (show false=true from h.1))),(hb3),((fun h=>Bool.noConfusion (show false=true from h.1))),(hb3),((fun h=>Bool.noConfusion (show false=true from h.1))),(hb3),(hb5),((fun h=>Bool.noConfusion (show false=true from h.1))),(hb5),((fun h=>Bool.noConfusion (show false=true from h.1))),(hb5),((fun h=>Bool.noConfusion (show false=true from h.1))),(hb5),trivial⟩) (bM.le (st':=⟨[(0,(vB false))],[]⟩) ⟨⟨⟨_,rfl,eH.v (eO.one (dO.of (congrArg (fun b=>CV.d (.bool b)) (Cg hb5))))⟩,trivial⟩,trivial⟩) ?_
        refine aR ?_
        obtain rfl:=oi h
        exact rl [(sB false)]
    ·skip
     refine bE h fun v7 hr_16 h=> ?_
     refine bE h fun x3 hr_17 h=> ?_
     refine rg tT ⟨[(Lc u3),(MW u3),(117,(vB (bif (UE u0 u1 u2 u4 v7)then true else(!decide (x3=0)))))],[]⟩ (eqs (!decide (u0.2.2=0)) 3 (eqs (FD u0 u1) 3 (eqs (Am u0 u1 u2) 2 ((gP (LH u0 u1 u2 u4 v7) [(10,false)]→All [Fn Try.prog 41 (O4 u0) [] (vI u4) []])::(eqs (Am u0 u1 u2) 2 (eqs (Fv u0 u1 u2 u4) 3 ((JV u0 u1 u2 u4)::(¬ gP (LH u0 u1 u2 u4 v7) [(19,false)])::(JV u0 u1 u2 u4)::(¬ gP (LH u0 u1 u2 u4 v7) [(19,false)])::(JV u0 u1 u2 u4)::(¬ gP (LH u0 u1 u2 u4 v7) [(19,false)])::(JV u0 u1 u2 u4)::(¬ gP (LH u0 u1 u2 u4 v7) [(19,false)])::(JV u0 u1 u2 u4)::(OE u0 u1 u2 u4)::(OE u0 u1 u2 u4)::(OE u0 u1 u2 u4)::(OE u0 u1 u2 u4)::(gP (LH u0 u1 u2 u4 v7) [(25,false)]→All [[(⟨2,1⟩:Part),(⟨3,0⟩:Part)].length=2,aG 2 2 (jD 2 [(.int .i64 2),(.int .i64 1),(.int .i64 3),(.int .i64 0)]) (aC Part.cell [(⟨2,1⟩:Part),(⟨3,0⟩:Part)])])::(gP (LH u0 u1 u2 u4 v7) [(25,false)])::(OE u0 u1 u2 u4)::(gP (LH u0 u1 u2 u4 v7) [(25,false)]→All [Fn Try.prog 38 [(sD (aK none 2 Part.cell u2.1)),(.one (.own 84 true ([(⟨2,1⟩:Part),(⟨3,0⟩:Part)].length)))] [(84,some (bZ 117 2 Part.cell [(⟨2,1⟩:Part),(⟨3,0⟩:Part)]))] (vB v7) [(84,some (bZ 117 2 Part.cell [(⟨2,1⟩:Part),(⟨3,0⟩:Part)]))]])::(OE u0 u1 u2 u4)::(OE u0 u1 u2 u4)::(eqs (UE u0 u1 u2 u4 v7) 5 ((gP (LH u0 u1 u2 u4 v7) [(33,false)]→All [Fn Try.prog 49 (V5 u3 u0) [] (vI x3) []])::(eqs (UE u0 u1 u2 u4 v7) 2 [])))))))))) {yb:=[(2,(!decide (u0.2.2=0))),(6,(FD u0 u1)),(10,(Am u0 u1 u2)),(15,(Fv u0 u1 u2 u4)),(19,true),(25,false),(33,(UE u0 u1 u2 u4 v7))],an:=[(12, .call [] (vI u4) []),(20, .skip),(21, .skip),(22, .skip),(23, .skip),(29, .arr [(⟨2,1⟩:Part),(⟨3,0⟩:Part)].length (aC Part.cell [(⟨2,1⟩:Part),(⟨3,0⟩:Part)])),(30, .callR [84] (vB v7)),(38, .call [] (vI x3) [])],fr:=[(29,84)] } [] (ae (ae (ae ⟨(fun hg=> ⟨(dA u0.1 (gF hr_9 (aZ hg))),trivial⟩),(ae (ae ⟨(hb1),((fun h=>Bool.noConfusion (show true=false from h.1))),(hb1),((fun h=>Bool.noConfusion (show true=false from h.1))),(hb1),((fun h=>Bool.noConfusion (show true=false from h.1))),(hb1),((fun h=>Bool.noConfusion (show true=false from h.1))),(hb1),(hb2),(hb2),(hb2),(hb2),(fun hg=> ⟨(rfl),((by intro i hi j hj;match i,j,hi,hj with|0,0,_,_=>rfl|0,1,_,_=>rfl|1,0,_,_=>rfl|1,1,_,_=>rfl)),trivial⟩),(⟨rfl,trivial⟩),(hb2),(fun hg=> ⟨(Fn.vG (frz:=[84]) (p:=[[(⟨2,1⟩:Part),(⟨3,0⟩:Part)].length=[(⟨2,1⟩:Part),(⟨3,0⟩:Part)].length]) (Fn.le (args':=(ad2 u2)) (tV u2.1 [(⟨2,1⟩:Part),(⟨3,0⟩:Part)] hr_16) ⟨eO.refl _,eO.one (dO.d gV.nT),trivial⟩) (by kernel_rfl) ⟨rfl,trivial⟩ rfl),trivial⟩),(hb2),(hb2),(ae ⟨(fun hg=> ⟨(jC u3.1 u3.2 u0.1 u0.2.1 (gF hr_17 (aZ hg))),trivial⟩),(ae trivial)⟩)⟩))⟩))) ?_
     refine bI h (fun hb10 h=> ?_) (fun hb10 h=> ?_)
     ·refine ct hb10 ?_
      refine sz tT ⟨[(0,(vB false))],[]⟩ {} [] ?_
      refine aR ?_
      obtain rfl:=oi h
      exact rl [(sB false)]
     ·refine cf hb10 ?_
      refine aP (aQ (bE h fun u6 hr_18 h=> ?_))
      have q0:=mV u3.1 u3.2 1 hr_18
      refine rg tT (WC u3 u6) [_] {an:=[(2,cA q0 [])] } [] ⟨q0,trivial⟩ ?_
      refine aQ (bE h fun v1 hr_19 h=> ?_)
      have q0:=lu u3.1 u6.1 hr_19
      refine rg tT (V6 u6 v1) [_] {an:=[(2,cA q0 [])] } [] ⟨q0,trivial⟩ ?_
      refine aQ ?_
      refine bI h (fun hb7 h=> ?_) (fun hb7 h=> ?_)
      ·skip
       refine bE h fun v9 hr_20 h=> ?_
       refine bI h (fun hb8 h=> ?_) (fun hb8 h=> ?_)
       ·skip
        refine bE h fun w5 hr_21 h=> ?_
        refine ri tT (Xc u6 v1 v9 w5) (eqs (decide (u6.2=0)) 3 [(bK u6 v1)=true,(bK u6 v1)=true,gP (nA u6) [(6,true)]→All [[0].length=1,aG 1 1 (jD 1 [(.int .i64 0)]) (aC (au .i64) [0])],(bK u6 v1)=true,(bK u6 v1)=true,gP (nA u6) [(6,true)]→All [[1].length=1,aG 1 1 (jD 1 [(.int .i64 1)]) (aC (au .i64) [1])],(bK u6 v1)=true,(bK u6 v1)=true,gP (nA u6) [(6,true)]→All [[(⟨0,30,13334,[0]⟩:Short),(⟨1,50,8000,[1]⟩:Short)].length=2,aG 2 4 (jD 4 ni) (jD 4 ni)],gP (nA u6) [(6,true)],(bK u6 v1)=true,gP (nA u6) [(6,true)]→All [Fn Try.prog 52 [(sD (H9 u6)),(.one (.own 90 true ([(⟨0,30,13334,[0]⟩:Short),(⟨1,50,8000,[1]⟩:Short)].length)))] agk (vB v9) agk],(bK u6 v1)=true,(mP u6 v1 v9)=true,(mP u6 v1 v9)=true,gP (nA u6) [(15,true)]→All [[13334,8000].length=2,aG 2 1 (jD 1 NU) (aC (au .i64) [13334,8000])],gP (nA u6) [(15,true)],(mP u6 v1 v9)=true,gP (nA u6) [(15,true)]→All [Fn Try.prog 54 [(sD (JZ v1)),(.one (.own 91 true ([13334,8000].length)))] [(91,some BV)] (vB w5) [(91,some BV)]],(mP u6 v1 v9)=true]) {yb:=[(2,(decide (u6.2=0))),(6,true),(15,true)],an:=[(8, .frz [0].length (aC (au .i64) [0])),(10, .frz [1].length (aC (au .i64) [1])),(12, .arr [(⟨0,30,13334,[0]⟩:Short),(⟨1,50,8000,[1]⟩:Short)].length (jD 4 ni)),(13, .callR [90] (vB v9)),(17, .arr [13334,8000].length (aC (au .i64) [13334,8000])),(18, .callR [91] (vB w5))],fr:=[(12,90),(17,91)] } [] (ae ⟨(hb7),(hb7),(fun hg=> ⟨(rfl),((by intro i hi j hj;match i,j,hi,hj with|0,0,_,_=>rfl)),trivial⟩),(hb7),(hb7),(fun hg=> ⟨(rfl),((by intro i hi j hj;match i,j,hi,hj with|0,0,_,_=>rfl)),trivial⟩),(hb7),(hb7),(fun hg=> ⟨(rfl),(iq _ _ _),trivial⟩),(⟨rfl,trivial⟩),(hb7),(fun hg=> ⟨(Fn.vG (frz:=[90]) (p:=[[(⟨0,30,13334,[0]⟩:Short),(⟨1,50,8000,[1]⟩:Short)].length=[(⟨0,30,13334,[0]⟩:Short),(⟨1,50,8000,[1]⟩:Short)].length]) (Fn.le (args':=(Mt u6)) (bY u6.1 [(⟨0,30,13334,[0]⟩:Short),(⟨1,50,8000,[1]⟩:Short)] hr_20) ⟨eO.refl _,eO.one (dO.d (gV.sl (.inl rfl) (by intro i hi j hj;match i,j,hi,hj with|0,0,_,_=>exact .refl _|0,1,_,_=>exact .refl _|0,2,_,_=>exact .refl _|0,3,_,_=>exact gV.nT|1,0,_,_=>exact .refl _|1,1,_,_=>exact .refl _|1,2,_,_=>exact .refl _|1,3,_,_=>exact gV.nT))),trivial⟩) (by kernel_rfl) ⟨rfl,trivial⟩ rfl),trivial⟩),(hb7),(hb8),(hb8),(fun hg=> ⟨(rfl),((by intro i hi j hj;match i,j,hi,hj with|0,0,_,_=>rfl|1,0,_,_=>rfl)),trivial⟩),(⟨rfl,trivial⟩),(hb8),(fun hg=> ⟨(Fn.vG (frz:=[91]) (p:=[[13334,8000].length=[13334,8000].length]) (Fn.le (args':=(Od v1)) (dG v1.1 [13334,8000] hr_21) ⟨eO.one (dO.d gV.nT),eO.one (dO.d gV.nT),trivial⟩) (by kernel_rfl) ⟨rfl,trivial⟩ rfl),trivial⟩),(hb8),trivial⟩) (bM.le (st':=⟨[(0,(vB w5))],[]⟩) ⟨⟨⟨_,rfl,eH.v (eO.one (dO.of (congrArg (fun b=>CV.d (.bool b)) (BF hb8))))⟩,trivial⟩,trivial⟩) ?_
        refine aR ?_
        obtain rfl:=oi h
        exact rl [(sB w5)]
       ·skip
        refine ri tT (Ww u6 v1 v9) (eqs (decide (u6.2=0)) 3 [(bK u6 v1)=true,(bK u6 v1)=true,gP (ny u6) [(6,true)]→All [[0].length=1,aG 1 1 (jD 1 [(.int .i64 0)]) (aC (au .i64) [0])],(bK u6 v1)=true,(bK u6 v1)=true,gP (ny u6) [(6,true)]→All [[1].length=1,aG 1 1 (jD 1 [(.int .i64 1)]) (aC (au .i64) [1])],(bK u6 v1)=true,(bK u6 v1)=true,gP (ny u6) [(6,true)]→All [[(⟨0,30,13334,[0]⟩:Short),(⟨1,50,8000,[1]⟩:Short)].length=2,aG 2 4 (jD 4 ni) (jD 4 ni)],gP (ny u6) [(6,true)],(bK u6 v1)=true,gP (ny u6) [(6,true)]→All [Fn Try.prog 52 [(sD (H9 u6)),(.one (.own 94 true ([(⟨0,30,13334,[0]⟩:Short),(⟨1,50,8000,[1]⟩:Short)].length)))] agO (vB v9) agO],(bK u6 v1)=true,(mP u6 v1 v9)=false, ¬ gP (ny u6) [(15,true)],(mP u6 v1 v9)=false, ¬ gP (ny u6) [(15,true)],(mP u6 v1 v9)=false, ¬ gP (ny u6) [(15,true)],(mP u6 v1 v9)=false]) {yb:=[(2,(decide (u6.2=0))),(6,true),(15,false)],an:=[(8, .frz [0].length (aC (au .i64) [0])),(10, .frz [1].length (aC (au .i64) [1])),(12, .arr [(⟨0,30,13334,[0]⟩:Short),(⟨1,50,8000,[1]⟩:Short)].length (jD 4 ni)),(13, .callR [94] (vB v9)),(16, .skip),(17, .skip),(18, .skip)],fr:=[(12,94)] } [] (ae ⟨(hb7),(hb7),(fun hg=> ⟨(rfl),((by intro i hi j hj;match i,j,hi,hj with|0,0,_,_=>rfl)),trivial⟩),(hb7),(hb7),(fun hg=> ⟨(rfl),((by intro i hi j hj;match i,j,hi,hj with|0,0,_,_=>rfl)),trivial⟩),(hb7),(hb7),(fun hg=> ⟨(rfl),(iq _ _ _),trivial⟩),(⟨rfl,trivial⟩),(hb7),(fun hg=> ⟨(Fn.vG (frz:=[94]) (p:=[[(⟨0,30,13334,[0]⟩:Short),(⟨1,50,8000,[1]⟩:Short)].length=[(⟨0,30,13334,[0]⟩:Short),(⟨1,50,8000,[1]⟩:Short)].length]) (Fn.le (args':=(Mt u6)) (bY u6.1 [(⟨0,30,13334,[0]⟩:Short),(⟨1,50,8000,[1]⟩:Short)] hr_20) ⟨eO.refl _,eO.one (dO.d (gV.sl (.inl rfl) (by intro i hi j hj;match i,j,hi,hj with|0,0,_,_=>exact .refl _|0,1,_,_=>exact .refl _|0,2,_,_=>exact .refl _|0,3,_,_=>exact gV.nT|1,0,_,_=>exact .refl _|1,1,_,_=>exact .refl _|1,2,_,_=>exact .refl _|1,3,_,_=>exact gV.nT))),trivial⟩) (by kernel_rfl) ⟨rfl,trivial⟩ rfl),trivial⟩),(hb7),(hb8),((fun h=>Bool.noConfusion (show false=true from h.1))),(hb8),((fun h=>Bool.noConfusion (show false=true from h.1))),(hb8),((fun h=>Bool.noConfusion (show false=true from h.1))),(hb8),trivial⟩) (bM.le (st':=⟨[(0,(vB false))],[]⟩) ⟨⟨⟨_,rfl,eH.v (eO.one (dO.of (congrArg (fun b=>CV.d (.bool b)) (Cg hb8))))⟩,trivial⟩,trivial⟩) ?_
        refine aR ?_
        obtain rfl:=oi h
        exact rl [(sB false)]
      ·skip
       refine bI h (fun hb9 h=> ?_) (fun hb9 h=> ?_)
       ·skip
        refine bE h fun w6 hr_22 h=> ?_
        refine ri tT (WX u6 v1 w6) (eqs (decide (u6.2=0)) 3 [(bK u6 v1)=false, ¬ gP (jX u6) [(6,true)],(bK u6 v1)=false, ¬ gP (jX u6) [(6,true)],(bK u6 v1)=false, ¬ gP (jX u6) [(6,true)],(bK u6 v1)=false, ¬ gP (jX u6) [(6,true)],(bK u6 v1)=false, ¬ gP (jX u6) [(6,true)],(bK u6 v1)=false, ¬ gP (jX u6) [(6,true)],(bK u6 v1)=false, ¬ gP (jX u6) [(6,true)],(bK u6 v1)=false,(vH u6 v1)=true,(vH u6 v1)=true,gP (jX u6) [(15,true)]→All [[13334,8000].length=2,aG 2 1 (jD 1 NU) (aC (au .i64) [13334,8000])],gP (jX u6) [(15,true)],(vH u6 v1)=true,gP (jX u6) [(15,true)]→All [Fn Try.prog 54 [(sD (JZ v1)),(.one (.own 95 true ([13334,8000].length)))] [(95,some BV)] (vB w6) [(95,some BV)]],(vH u6 v1)=true]) {yb:=[(2,(decide (u6.2=0))),(6,false),(15,true)],an:=[(7, .skip),(8, .skip),(9, .skip),(10, .skip),(11, .skip),(12, .skip),(13, .skip),(17, .arr [13334,8000].length (aC (au .i64) [13334,8000])),(18, .callR [95] (vB w6))],fr:=[(17,95)] } [] (ae ⟨(hb7),((fun h=>Bool.noConfusion (show false=true from h.1))),(hb7),((fun h=>Bool.noConfusion (show false=true from h.1))),(hb7),((fun h=>Bool.noConfusion (show false=true from h.1))),(hb7),((fun h=>Bool.noConfusion (show false=true from h.1))),(hb7),((fun h=>Bool.noConfusion (show false=true from h.1))),(hb7),((fun h=>Bool.noConfusion (show false=true from h.1))),(hb7),((fun h=>Bool.noConfusion (show false=true from h.1))),(hb7),(hb9),(hb9),(fun hg=> ⟨(rfl),((by intro i hi j hj;match i,j,hi,hj with|0,0,_,_=>rfl|1,0,_,_=>rfl)),trivial⟩),(⟨rfl,trivial⟩),(hb9),(fun hg=> ⟨(Fn.vG (frz:=[95]) (p:=[[13334,8000].length=[13334,8000].length]) (Fn.le (args':=(Od v1)) (dG v1.1 [13334,8000] hr_22) ⟨eO.one (dO.d gV.nT),eO.one (dO.d gV.nT),trivial⟩) (by kernel_rfl) ⟨rfl,trivial⟩ rfl),trivial⟩),(hb9),trivial⟩) (bM.le (st':=⟨[(0,(vB w6))],[]⟩) ⟨⟨⟨_,rfl,eH.v (eO.one (dO.of (congrArg (fun b=>CV.d (.bool b)) (BF hb9))))⟩,trivial⟩,trivial⟩) ?_
        refine aR ?_
        obtain rfl:=oi h
        exact rl [(sB w6)]
       ·skip
        refine ri tT (WZ u6 v1) (WW u6 v1) {yb:=[(2,(decide (u6.2=0))),(6,false),(15,false)],an:=[(7, .skip),(8, .skip),(9, .skip),(10, .skip),(11, .skip),(12, .skip),(13, .skip),(16, .skip),(17, .skip),(18, .skip)] } [] (ae ⟨(hb7),((fun h=>Bool.noConfusion (show false=true from h.1))),(hb7),((fun h=>Bool.noConfusion (show false=true from h.1))),(hb7),((fun h=>Bool.noConfusion (show false=true from h.1))),(hb7),((fun h=>Bool.noConfusion (show false=true from h.1))),(hb7),((fun h=>Bool.noConfusion (show false=true from h.1))),(hb7),((fun h=>Bool.noConfusion (show false=true from h.1))),(hb7),((fun h=>Bool.noConfusion (show false=true from h.1))),(hb7),(hb9),((fun h=>Bool.noConfusion (show false=true from h.1))),(hb9),((fun h=>Bool.noConfusion (show false=true from h.1))),(hb9),((fun h=>Bool.noConfusion (show false=true from h.1))),(hb9),trivial⟩) (bM.le (st':=⟨[(0,(vB false))],[]⟩) ⟨⟨⟨_,rfl,eH.v (eO.one (dO.of (congrArg (fun b=>CV.d (.bool b)) (Cg hb9))))⟩,trivial⟩,trivial⟩) ?_
        refine aR ?_
        obtain rfl:=oi h
        exact rl [(sB false)]
   ·skip
    refine bE h fun v5 hr_23 h=> ?_
    refine bI h (fun hb11 h=> ?_) (fun hb11 h=> ?_)
    ·skip
     refine bE h fun x4 hr_24 h=> ?_
     refine rg tT ⟨[(Lc u3),(MW u3),(117,(vB (bif (UM u0 u1 u2 u4 v5)then true else(!decide (x4=0)))))],[]⟩ (eqs (!decide (u0.2.2=0)) 3 (eqs (FD u0 u1) 3 (eqs (Am u0 u1 u2) 2 ((gP (Ih u0 u1 u2 u4 v5) [(10,false)]→All [Fn Try.prog 41 (O4 u0) [] (vI u4) []])::(eqs (Am u0 u1 u2) 2 (eqs (Fv u0 u1 u2 u4) 3 ((JN u0 u1 u2 u4)::(JN u0 u1 u2 u4)::(gP (Ih u0 u1 u2 u4 v5) [(19,false)]→All [[true,false,false].length=3,aG 3 1 (jD 1 [(.bool true),(.bool false),(.bool false)]) (aC aj [true,false,false])])::(gP (Ih u0 u1 u2 u4 v5) [(19,false)])::(JN u0 u1 u2 u4)::(gP (Ih u0 u1 u2 u4 v5) [(19,false)]→All [Fn Try.prog 42 [(sD (FB u0)),(.one (.own 97 true ([true,false,false].length)))] [(97,some (bZ 4 1 aj [true,false,false]))] (vB v5) [(97,some (bZ 4 1 aj [true,false,false]))]])::(JN u0 u1 u2 u4)::(JN u0 u1 u2 u4)::(Pv u0 u1 u2 u4 v5)::(¬ gP (Ih u0 u1 u2 u4 v5) [(25,false)])::(Pv u0 u1 u2 u4 v5)::(¬ gP (Ih u0 u1 u2 u4 v5) [(25,false)])::(Pv u0 u1 u2 u4 v5)::(¬ gP (Ih u0 u1 u2 u4 v5) [(25,false)])::(Pv u0 u1 u2 u4 v5)::(¬ gP (Ih u0 u1 u2 u4 v5) [(25,false)])::(Pv u0 u1 u2 u4 v5)::(¬ gP (Ih u0 u1 u2 u4 v5) [(25,false)])::(Pv u0 u1 u2 u4 v5)::(¬ gP (Ih u0 u1 u2 u4 v5) [(25,false)])::(Pv u0 u1 u2 u4 v5)::(eqs (UM u0 u1 u2 u4 v5) 5 ((gP (Ih u0 u1 u2 u4 v5) [(33,false)]→All [Fn Try.prog 49 (V5 u3 u0) [] (vI x4) []])::(eqs (UM u0 u1 u2 u4 v5) 2 [])))))))))) {yb:=[(2,(!decide (u0.2.2=0))),(6,(FD u0 u1)),(10,(Am u0 u1 u2)),(15,(Fv u0 u1 u2 u4)),(19,false),(25,true),(33,(UM u0 u1 u2 u4 v5))],an:=[(12, .call [] (vI u4) []),(21, .arr [true,false,false].length (aC aj [true,false,false])),(22, .callR [97] (vB v5)),(26, .skip),(27, .skip),(28, .skip),(29, .skip),(30, .skip),(31, .skip),(38, .call [] (vI x4) [])],fr:=[(21,97)] } [] (ae (ae (ae ⟨(fun hg=> ⟨(dA u0.1 (gF hr_9 (aZ hg))),trivial⟩),(ae (ae ⟨(hb1),(hb1),(fun hg=> ⟨(rfl),((by intro i hi j hj;match i,j,hi,hj with|0,0,_,_=>rfl|1,0,_,_=>rfl|2,0,_,_=>rfl)),trivial⟩),(⟨rfl,trivial⟩),(hb1),(fun hg=> ⟨(Fn.vG (frz:=[97]) (p:=[[true,false,false].length=[true,false,false].length]) (Fn.le (args':=[(sD (FB u0)),(sD (aK (some true) 1 aj [true,false,false]))]) (ng u0.2.1 [true,false,false] hr_23) ⟨eO.refl _,eO.one (dO.d gV.nT),trivial⟩) (by kernel_rfl) ⟨rfl,trivial⟩ rfl),trivial⟩),(hb1),(hb1),(hb11),((fun h=>Bool.noConfusion (show true=false from h.1))),(hb11),((fun h=>Bool.noConfusion (show true=false from h.1))),(hb11),((fun h=>Bool.noConfusion (show true=false from h.1))),(hb11),((fun h=>Bool.noConfusion (show true=false from h.1))),(hb11),((fun h=>Bool.noConfusion (show true=false from h.1))),(hb11),((fun h=>Bool.noConfusion (show true=false from h.1))),(hb11),(ae ⟨(fun hg=> ⟨(jC u3.1 u3.2 u0.1 u0.2.1 (gF hr_24 (aZ hg))),trivial⟩),(ae trivial)⟩)⟩))⟩))) ?_
     refine bI h (fun hb15 h=> ?_) (fun hb15 h=> ?_)
     ·refine ct hb15 ?_
      refine sz tT ⟨[(0,(vB false))],[]⟩ {} [] ?_
      refine aR ?_
      obtain rfl:=oi h
      exact rl [(sB false)]
     ·refine cf hb15 ?_
      refine aP (aQ (bE h fun u7 hr_25 h=> ?_))
      have q0:=mV u3.1 u3.2 1 hr_25
      refine rg tT (WC u3 u7) [_] {an:=[(2,cA q0 [])] } [] ⟨q0,trivial⟩ ?_
      refine aQ (bE h fun v2 hr_26 h=> ?_)
      have q0:=lu u3.1 u7.1 hr_26
      refine rg tT (V6 u7 v2) [_] {an:=[(2,cA q0 [])] } [] ⟨q0,trivial⟩ ?_
      refine aQ ?_
      refine bI h (fun hb12 h=> ?_) (fun hb12 h=> ?_)
      ·skip
       refine bE h fun w0 hr_27 h=> ?_
       refine bI h (fun hb13 h=> ?_) (fun hb13 h=> ?_)
       ·skip
        refine bE h fun w7 hr_28 h=> ?_
        refine ri tT (Xc u7 v2 w0 w7) (eqs (decide (u7.2=0)) 3 [(bK u7 v2)=true,(bK u7 v2)=true,gP (nA u7) [(6,true)]→All [[0].length=1,aG 1 1 (jD 1 [(.int .i64 0)]) (aC (au .i64) [0])],(bK u7 v2)=true,(bK u7 v2)=true,gP (nA u7) [(6,true)]→All [[1].length=1,aG 1 1 (jD 1 [(.int .i64 1)]) (aC (au .i64) [1])],(bK u7 v2)=true,(bK u7 v2)=true,gP (nA u7) [(6,true)]→All [[(⟨0,30,13334,[0]⟩:Short),(⟨1,50,8000,[1]⟩:Short)].length=2,aG 2 4 (jD 4 ni) (jD 4 ni)],gP (nA u7) [(6,true)],(bK u7 v2)=true,gP (nA u7) [(6,true)]→All [Fn Try.prog 52 [(sD (H9 u7)),(.one (.own 103 true ([(⟨0,30,13334,[0]⟩:Short),(⟨1,50,8000,[1]⟩:Short)].length)))] agh (vB w0) agh],(bK u7 v2)=true,(mP u7 v2 w0)=true,(mP u7 v2 w0)=true,gP (nA u7) [(15,true)]→All [[13334,8000].length=2,aG 2 1 (jD 1 NU) (aC (au .i64) [13334,8000])],gP (nA u7) [(15,true)],(mP u7 v2 w0)=true,gP (nA u7) [(15,true)]→All [Fn Try.prog 54 [(sD (JZ v2)),(.one (.own 104 true ([13334,8000].length)))] [(104,some BV)] (vB w7) [(104,some BV)]],(mP u7 v2 w0)=true]) {yb:=[(2,(decide (u7.2=0))),(6,true),(15,true)],an:=[(8, .frz [0].length (aC (au .i64) [0])),(10, .frz [1].length (aC (au .i64) [1])),(12, .arr [(⟨0,30,13334,[0]⟩:Short),(⟨1,50,8000,[1]⟩:Short)].length (jD 4 ni)),(13, .callR [103] (vB w0)),(17, .arr [13334,8000].length (aC (au .i64) [13334,8000])),(18, .callR [104] (vB w7))],fr:=[(12,103),(17,104)] } [] (ae ⟨(hb12),(hb12),(fun hg=> ⟨(rfl),((by intro i hi j hj;match i,j,hi,hj with|0,0,_,_=>rfl)),trivial⟩),(hb12),(hb12),(fun hg=> ⟨(rfl),((by intro i hi j hj;match i,j,hi,hj with|0,0,_,_=>rfl)),trivial⟩),(hb12),(hb12),(fun hg=> ⟨(rfl),(iq _ _ _),trivial⟩),(⟨rfl,trivial⟩),(hb12),(fun hg=> ⟨(Fn.vG (frz:=[103]) (p:=[[(⟨0,30,13334,[0]⟩:Short),(⟨1,50,8000,[1]⟩:Short)].length=[(⟨0,30,13334,[0]⟩:Short),(⟨1,50,8000,[1]⟩:Short)].length]) (Fn.le (args':=(Mt u7)) (bY u7.1 [(⟨0,30,13334,[0]⟩:Short),(⟨1,50,8000,[1]⟩:Short)] hr_27) ⟨eO.refl _,eO.one (dO.d (gV.sl (.inl rfl) (by intro i hi j hj;match i,j,hi,hj with|0,0,_,_=>exact .refl _|0,1,_,_=>exact .refl _|0,2,_,_=>exact .refl _|0,3,_,_=>exact gV.nT|1,0,_,_=>exact .refl _|1,1,_,_=>exact .refl _|1,2,_,_=>exact .refl _|1,3,_,_=>exact gV.nT))),trivial⟩) (by kernel_rfl) ⟨rfl,trivial⟩ rfl),trivial⟩),(hb12),(hb13),(hb13),(fun hg=> ⟨(rfl),((by intro i hi j hj;match i,j,hi,hj with|0,0,_,_=>rfl|1,0,_,_=>rfl)),trivial⟩),(⟨rfl,trivial⟩),(hb13),(fun hg=> ⟨(Fn.vG (frz:=[104]) (p:=[[13334,8000].length=[13334,8000].length]) (Fn.le (args':=(Od v2)) (dG v2.1 [13334,8000] hr_28) ⟨eO.one (dO.d gV.nT),eO.one (dO.d gV.nT),trivial⟩) (by kernel_rfl) ⟨rfl,trivial⟩ rfl),trivial⟩),(hb13),trivial⟩) (bM.le (st':=⟨[(0,(vB w7))],[]⟩) ⟨⟨⟨_,rfl,eH.v (eO.one (dO.of (congrArg (fun b=>CV.d (.bool b)) (BF hb13))))⟩,trivial⟩,trivial⟩) ?_
        refine aR ?_
        obtain rfl:=oi h
        exact rl [(sB w7)]
       ·skip
        refine ri tT (Ww u7 v2 w0) (eqs (decide (u7.2=0)) 3 [(bK u7 v2)=true,(bK u7 v2)=true,gP (ny u7) [(6,true)]→All [[0].length=1,aG 1 1 (jD 1 [(.int .i64 0)]) (aC (au .i64) [0])],(bK u7 v2)=true,(bK u7 v2)=true,gP (ny u7) [(6,true)]→All [[1].length=1,aG 1 1 (jD 1 [(.int .i64 1)]) (aC (au .i64) [1])],(bK u7 v2)=true,(bK u7 v2)=true,gP (ny u7) [(6,true)]→All [[(⟨0,30,13334,[0]⟩:Short),(⟨1,50,8000,[1]⟩:Short)].length=2,aG 2 4 (jD 4 ni) (jD 4 ni)],gP (ny u7) [(6,true)],(bK u7 v2)=true,gP (ny u7) [(6,true)]→All [Fn Try.prog 52 [(sD (H9 u7)),(.one (.own 107 true ([(⟨0,30,13334,[0]⟩:Short),(⟨1,50,8000,[1]⟩:Short)].length)))] aeo (vB w0) aeo],(bK u7 v2)=true,(mP u7 v2 w0)=false, ¬ gP (ny u7) [(15,true)],(mP u7 v2 w0)=false, ¬ gP (ny u7) [(15,true)],(mP u7 v2 w0)=false, ¬ gP (ny u7) [(15,true)],(mP u7 v2 w0)=false]) {yb:=[(2,(decide (u7.2=0))),(6,true),(15,false)],an:=[(8, .frz [0].length (aC (au .i64) [0])),(10, .frz [1].length (aC (au .i64) [1])),(12, .arr [(⟨0,30,13334,[0]⟩:Short),(⟨1,50,8000,[1]⟩:Short)].length (jD 4 ni)),(13, .callR [107] (vB w0)),(16, .skip),(17, .skip),(18, .skip)],fr:=[(12,107)] } [] (ae ⟨(hb12),(hb12),(fun hg=> ⟨(rfl),((by intro i hi j hj;match i,j,hi,hj with|0,0,_,_=>rfl)),trivial⟩),(hb12),(hb12),(fun hg=> ⟨(rfl),((by intro i hi j hj;match i,j,hi,hj with|0,0,_,_=>rfl)),trivial⟩),(hb12),(hb12),(fun hg=> ⟨(rfl),(iq _ _ _),trivial⟩),(⟨rfl,trivial⟩),(hb12),(fun hg=> ⟨(Fn.vG (frz:=[107]) (p:=[[(⟨0,30,13334,[0]⟩:Short),(⟨1,50,8000,[1]⟩:Short)].length=[(⟨0,30,13334,[0]⟩:Short),(⟨1,50,8000,[1]⟩:Short)].length]) (Fn.le (args':=(Mt u7)) (bY u7.1 [(⟨0,30,13334,[0]⟩:Short),(⟨1,50,8000,[1]⟩:Short)] hr_27) ⟨eO.refl _,eO.one (dO.d (gV.sl (.inl rfl) (by intro i hi j hj;match i,j,hi,hj with|0,0,_,_=>exact .refl _|0,1,_,_=>exact .refl _|0,2,_,_=>exact .refl _|0,3,_,_=>exact gV.nT|1,0,_,_=>exact .refl _|1,1,_,_=>exact .refl _|1,2,_,_=>exact .refl _|1,3,_,_=>exact gV.nT))),trivial⟩) (by kernel_rfl) ⟨rfl,trivial⟩ rfl),trivial⟩),(hb12),(hb13),((fun h=>Bool.noConfusion (show false=true from h.1))),(hb13),((fun h=>Bool.noConfusion (show false=true from h.1))),(hb13),((fun h=>Bool.noConfusion (show false=true from h.1))),(hb13),trivial⟩) (bM.le (st':=⟨[(0,(vB false))],[]⟩) ⟨⟨⟨_,rfl,eH.v (eO.one (dO.of (congrArg (fun b=>CV.d (.bool b)) (Cg hb13))))⟩,trivial⟩,trivial⟩) ?_
        refine aR ?_
        obtain rfl:=oi h
        exact rl [(sB false)]
      ·skip
       refine bI h (fun hb14 h=> ?_) (fun hb14 h=> ?_)
       ·skip
        refine bE h fun w8 hr_29 h=> ?_
        refine ri tT (WX u7 v2 w8) (eqs (decide (u7.2=0)) 3 [(bK u7 v2)=false, ¬ gP (jX u7) [(6,true)],(bK u7 v2)=false, ¬ gP (jX u7) [(6,true)],(bK u7 v2)=false, ¬ gP (jX u7) [(6,true)],(bK u7 v2)=false, ¬ gP (jX u7) [(6,true)],(bK u7 v2)=false, ¬ gP (jX u7) [(6,true)],(bK u7 v2)=false, ¬ gP (jX u7) [(6,true)],(bK u7 v2)=false, ¬ gP (jX u7) [(6,true)],(bK u7 v2)=false,(vH u7 v2)=true,(vH u7 v2)=true,gP (jX u7) [(15,true)]→All [[13334,8000].length=2,aG 2 1 (jD 1 NU) (aC (au .i64) [13334,8000])],gP (jX u7) [(15,true)],(vH u7 v2)=true,gP (jX u7) [(15,true)]→All [Fn Try.prog 54 [(sD (JZ v2)),(.one (.own 108 true ([13334,8000].length)))] [(108,some BV)] (vB w8) [(108,some BV)]],(vH u7 v2)=true]) {yb:=[(2,(decide (u7.2=0))),(6,false),(15,true)],an:=[(7, .skip),(8, .skip),(9, .skip),(10, .skip),(11, .skip),(12, .skip),(13, .skip),(17, .arr [13334,8000].length (aC (au .i64) [13334,8000])),(18, .callR [108] (vB w8))],fr:=[(17,108)] } [] (ae ⟨(hb12),((fun h=>Bool.noConfusion (show false=true from h.1))),(hb12),((fun h=>Bool.noConfusion (show false=true from h.1))),(hb12),((fun h=>Bool.noConfusion (show false=true from h.1))),(hb12),((fun h=>Bool.noConfusion (show false=true from h.1))),(hb12),((fun h=>Bool.noConfusion (show false=true from h.1))),(hb12),((fun h=>Bool.noConfusion (show false=true from h.1))),(hb12),((fun h=>Bool.noConfusion (show false=true from h.1))),(hb12),(hb14),(hb14),(fun hg=> ⟨(rfl),((by intro i hi j hj;match i,j,hi,hj with|0,0,_,_=>rfl|1,0,_,_=>rfl)),trivial⟩),(⟨rfl,trivial⟩),(hb14),(fun hg=> ⟨(Fn.vG (frz:=[108]) (p:=[[13334,8000].length=[13334,8000].length]) (Fn.le (args':=(Od v2)) (dG v2.1 [13334,8000] hr_29) ⟨eO.one (dO.d gV.nT),eO.one (dO.d gV.nT),trivial⟩) (by kernel_rfl) ⟨rfl,trivial⟩ rfl),trivial⟩),(hb14),trivial⟩) (bM.le (st':=⟨[(0,(vB w8))],[]⟩) ⟨⟨⟨_,rfl,eH.v (eO.one (dO.of (congrArg (fun b=>CV.d (.bool b)) (BF hb14))))⟩,trivial⟩,trivial⟩) ?_
        refine aR ?_
        obtain rfl:=oi h
        exact rl [(sB w8)]
       ·skip
        refine ri tT (WZ u7 v2) (WW u7 v2) {yb:=[(2,(decide (u7.2=0))),(6,false),(15,false)],an:=[(7, .skip),(8, .skip),(9, .skip),(10, .skip),(11, .skip),(12, .skip),(13, .skip),(16, .skip),(17, .skip),(18, .skip)] } [] (ae ⟨(hb12),((fun h=>Bool.noConfusion (show false=true from h.1))),(hb12),((fun h=>Bool.noConfusion (show false=true from h.1))),(hb12),((fun h=>Bool.noConfusion (show false=true from h.1))),(hb12),((fun h=>Bool.noConfusion (show false=true from h.1))),(hb12),((fun h=>Bool.noConfusion (show false=true from h.1))),(hb12),((fun h=>Bool.noConfusion (show false=true from h.1))),(hb12),((fun h=>Bool.noConfusion (show false=true from h.1))),(hb12),(hb14),((fun h=>Bool.noConfusion (show false=true from h.1))),(hb14),((fun h=>Bool.noConfusion (show false=true from h.1))),(hb14),((fun h=>Bool.noConfusion (show false=true from h.1))),(hb14),trivial⟩) (bM.le (st':=⟨[(0,(vB false))],[]⟩) ⟨⟨⟨_,rfl,eH.v (eO.one (dO.of (congrArg (fun b=>CV.d (.bool b)) (Cg hb14))))⟩,trivial⟩,trivial⟩) ?_
        refine aR ?_
        obtain rfl:=oi h
        exact rl [(sB false)]
    ·skip
     refine bE h fun w1 hr_30 h=> ?_
     refine bE h fun x5 hr_31 h=> ?_
     refine rg tT ⟨[(Lc u3),(MW u3),(117,(vB (bif (Ui u0 u1 u2 u4 v5 w1)then true else(!decide (x5=0)))))],[]⟩ (eqs (!decide (u0.2.2=0)) 3 (eqs (FD u0 u1) 3 (eqs (Am u0 u1 u2) 2 ((gP (MJ u0 u1 u2 u4 v5 w1) [(10,false)]→All [Fn Try.prog 41 (O4 u0) [] (vI u4) []])::(eqs (Am u0 u1 u2) 2 (eqs (Fv u0 u1 u2 u4) 3 ((JN u0 u1 u2 u4)::(JN u0 u1 u2 u4)::(gP (MJ u0 u1 u2 u4 v5 w1) [(19,false)]→All [[true,false,false].length=3,aG 3 1 (jD 1 [(.bool true),(.bool false),(.bool false)]) (aC aj [true,false,false])])::(gP (MJ u0 u1 u2 u4 v5 w1) [(19,false)])::(JN u0 u1 u2 u4)::(gP (MJ u0 u1 u2 u4 v5 w1) [(19,false)]→All [Fn Try.prog 42 [(sD (FB u0)),(.one (.own 109 true ([true,false,false].length)))] [(109,some (bZ 4 1 aj [true,false,false]))] (vB v5) [(109,some (bZ 4 1 aj [true,false,false]))]])::(JN u0 u1 u2 u4)::(JN u0 u1 u2 u4)::(OJ u0 u1 u2 u4 v5)::(OJ u0 u1 u2 u4 v5)::(OJ u0 u1 u2 u4 v5)::(OJ u0 u1 u2 u4 v5)::(gP (MJ u0 u1 u2 u4 v5 w1) [(25,false)]→All [[(⟨2,1⟩:Part),(⟨3,0⟩:Part)].length=2,aG 2 2 (jD 2 [(.int .i64 2),(.int .i64 1),(.int .i64 3),(.int .i64 0)]) (aC Part.cell [(⟨2,1⟩:Part),(⟨3,0⟩:Part)])])::(gP (MJ u0 u1 u2 u4 v5 w1) [(25,false)])::(OJ u0 u1 u2 u4 v5)::(gP (MJ u0 u1 u2 u4 v5 w1) [(25,false)]→All [Fn Try.prog 38 [(sD (aK none 2 Part.cell u2.1)),(.one (.own 110 true ([(⟨2,1⟩:Part),(⟨3,0⟩:Part)].length)))] [(110,some (bZ 117 2 Part.cell [(⟨2,1⟩:Part),(⟨3,0⟩:Part)]))] (vB w1) [(110,some (bZ 117 2 Part.cell [(⟨2,1⟩:Part),(⟨3,0⟩:Part)]))]])::(OJ u0 u1 u2 u4 v5)::(OJ u0 u1 u2 u4 v5)::(eqs (Ui u0 u1 u2 u4 v5 w1) 5 ((gP (MJ u0 u1 u2 u4 v5 w1) [(33,false)]→All [Fn Try.prog 49 (V5 u3 u0) [] (vI x5) []])::(eqs (Ui u0 u1 u2 u4 v5 w1) 2 [])))))))))) {yb:=[(2,(!decide (u0.2.2=0))),(6,(FD u0 u1)),(10,(Am u0 u1 u2)),(15,(Fv u0 u1 u2 u4)),(19,false),(25,false),(33,(Ui u0 u1 u2 u4 v5 w1))],an:=[(12, .call [] (vI u4) []),(21, .arr [true,false,false].length (aC aj [true,false,false])),(22, .callR [109] (vB v5)),(29, .arr [(⟨2,1⟩:Part),(⟨3,0⟩:Part)].length (aC Part.cell [(⟨2,1⟩:Part),(⟨3,0⟩:Part)])),(30, .callR [110] (vB w1)),(38, .call [] (vI x5) [])],fr:=[(21,109),(29,110)] } [] (ae (ae (ae ⟨(fun hg=> ⟨(dA u0.1 (gF hr_9 (aZ hg))),trivial⟩),(ae (ae ⟨(hb1),(hb1),(fun hg=> ⟨(rfl),((by intro i hi j hj;match i,j,hi,hj with|0,0,_,_=>rfl|1,0,_,_=>rfl|2,0,_,_=>rfl)),trivial⟩),(⟨rfl,trivial⟩),(hb1),(fun hg=> ⟨(Fn.vG (frz:=[109]) (p:=[[true,false,false].length=[true,false,false].length]) (Fn.le (args':=[(sD (FB u0)),(sD (aK (some true) 1 aj [true,false,false]))]) (ng u0.2.1 [true,false,false] hr_23) ⟨eO.refl _,eO.one (dO.d gV.nT),trivial⟩) (by kernel_rfl) ⟨rfl,trivial⟩ rfl),trivial⟩),(hb1),(hb1),(hb11),(hb11),(hb11),(hb11),(fun hg=> ⟨(rfl),((by intro i hi j hj;match i,j,hi,hj with|0,0,_,_=>rfl|0,1,_,_=>rfl|1,0,_,_=>rfl|1,1,_,_=>rfl)),trivial⟩),(⟨rfl,trivial⟩),(hb11),(fun hg=> ⟨(Fn.vG (frz:=[110]) (p:=[[(⟨2,1⟩:Part),(⟨3,0⟩:Part)].length=[(⟨2,1⟩:Part),(⟨3,0⟩:Part)].length]) (Fn.le (args':=(ad2 u2)) (tV u2.1 [(⟨2,1⟩:Part),(⟨3,0⟩:Part)] hr_30) ⟨eO.refl _,eO.one (dO.d gV.nT),trivial⟩) (by kernel_rfl) ⟨rfl,trivial⟩ rfl),trivial⟩),(hb11),(hb11),(ae ⟨(fun hg=> ⟨(jC u3.1 u3.2 u0.1 u0.2.1 (gF hr_31 (aZ hg))),trivial⟩),(ae trivial)⟩)⟩))⟩))) ?_
     refine bI h (fun hb19 h=> ?_) (fun hb19 h=> ?_)
     ·refine ct hb19 ?_
      refine sz tT ⟨[(0,(vB false))],[]⟩ {} [] ?_
      refine aR ?_
      obtain rfl:=oi h
      exact rl [(sB false)]
     ·refine cf hb19 ?_
      refine aP (aQ (bE h fun u8 hr_32 h=> ?_))
      have q0:=mV u3.1 u3.2 1 hr_32
      refine rg tT (WC u3 u8) [_] {an:=[(2,cA q0 [])] } [] ⟨q0,trivial⟩ ?_
      refine aQ (bE h fun v3 hr_33 h=> ?_)
      have q0:=lu u3.1 u8.1 hr_33
      refine rg tT (V6 u8 v3) [_] {an:=[(2,cA q0 [])] } [] ⟨q0,trivial⟩ ?_
      refine aQ ?_
      refine bI h (fun hb16 h=> ?_) (fun hb16 h=> ?_)
      ·skip
       refine bE h fun w2 hr_34 h=> ?_
       refine bI h (fun hb17 h=> ?_) (fun hb17 h=> ?_)
       ·skip
        refine bE h fun w9 hr_35 h=> ?_
        refine ri tT (Xc u8 v3 w2 w9) (eqs (decide (u8.2=0)) 3 [(bK u8 v3)=true,(bK u8 v3)=true,gP (nA u8) [(6,true)]→All [[0].length=1,aG 1 1 (jD 1 [(.int .i64 0)]) (aC (au .i64) [0])],(bK u8 v3)=true,(bK u8 v3)=true,gP (nA u8) [(6,true)]→All [[1].length=1,aG 1 1 (jD 1 [(.int .i64 1)]) (aC (au .i64) [1])],(bK u8 v3)=true,(bK u8 v3)=true,gP (nA u8) [(6,true)]→All [[(⟨0,30,13334,[0]⟩:Short),(⟨1,50,8000,[1]⟩:Short)].length=2,aG 2 4 (jD 4 ni) (jD 4 ni)],gP (nA u8) [(6,true)],(bK u8 v3)=true,gP (nA u8) [(6,true)]→All [Fn Try.prog 52 [(sD (H9 u8)),(.one (.own 116 true ([(⟨0,30,13334,[0]⟩:Short),(⟨1,50,8000,[1]⟩:Short)].length)))] aeb (vB w2) aeb],(bK u8 v3)=true,(mP u8 v3 w2)=true,(mP u8 v3 w2)=true,gP (nA u8) [(15,true)]→All [[13334,8000].length=2,aG 2 1 (jD 1 NU) (aC (au .i64) [13334,8000])],gP (nA u8) [(15,true)],(mP u8 v3 w2)=true,gP (nA u8) [(15,true)]→All [Fn Try.prog 54 [(sD (JZ v3)),(.one (.own 117 true ([13334,8000].length)))] [(117,some BV)] (vB w9) [(117,some BV)]],(mP u8 v3 w2)=true]) {yb:=[(2,(decide (u8.2=0))),(6,true),(15,true)],an:=[(8, .frz [0].length (aC (au .i64) [0])),(10, .frz [1].length (aC (au .i64) [1])),(12, .arr [(⟨0,30,13334,[0]⟩:Short),(⟨1,50,8000,[1]⟩:Short)].length (jD 4 ni)),(13, .callR [116] (vB w2)),(17, .arr [13334,8000].length (aC (au .i64) [13334,8000])),(18, .callR [117] (vB w9))],fr:=[(12,116),(17,117)] } [] (ae ⟨(hb16),(hb16),(fun hg=> ⟨(rfl),((by intro i hi j hj;match i,j,hi,hj with|0,0,_,_=>rfl)),trivial⟩),(hb16),(hb16),(fun hg=> ⟨(rfl),((by intro i hi j hj;match i,j,hi,hj with|0,0,_,_=>rfl)),trivial⟩),(hb16),(hb16),(fun hg=> ⟨(rfl),(iq _ _ _),trivial⟩),(⟨rfl,trivial⟩),(hb16),(fun hg=> ⟨(Fn.vG (frz:=[116]) (p:=[[(⟨0,30,13334,[0]⟩:Short),(⟨1,50,8000,[1]⟩:Short)].length=[(⟨0,30,13334,[0]⟩:Short),(⟨1,50,8000,[1]⟩:Short)].length]) (Fn.le (args':=(Mt u8)) (bY u8.1 [(⟨0,30,13334,[0]⟩:Short),(⟨1,50,8000,[1]⟩:Short)] hr_34) ⟨eO.refl _,eO.one (dO.d (gV.sl (.inl rfl) (by intro i hi j hj;match i,j,hi,hj with|0,0,_,_=>exact .refl _|0,1,_,_=>exact .refl _|0,2,_,_=>exact .refl _|0,3,_,_=>exact gV.nT|1,0,_,_=>exact .refl _|1,1,_,_=>exact .refl _|1,2,_,_=>exact .refl _|1,3,_,_=>exact gV.nT))),trivial⟩) (by kernel_rfl) ⟨rfl,trivial⟩ rfl),trivial⟩),(hb16),(hb17),(hb17),(fun hg=> ⟨(rfl),((by intro i hi j hj;match i,j,hi,hj with|0,0,_,_=>rfl|1,0,_,_=>rfl)),trivial⟩),(⟨rfl,trivial⟩),(hb17),(fun hg=> ⟨(Fn.vG (frz:=[117]) (p:=[[13334,8000].length=[13334,8000].length]) (Fn.le (args':=(Od v3)) (dG v3.1 [13334,8000] hr_35) ⟨eO.one (dO.d gV.nT),eO.one (dO.d gV.nT),trivial⟩) (by kernel_rfl) ⟨rfl,trivial⟩ rfl),trivial⟩),(hb17),trivial⟩) (bM.le (st':=⟨[(0,(vB w9))],[]⟩) ⟨⟨⟨_,rfl,eH.v (eO.one (dO.of (congrArg (fun b=>CV.d (.bool b)) (BF hb17))))⟩,trivial⟩,trivial⟩) ?_
        refine aR ?_
        obtain rfl:=oi h
        exact rl [(sB w9)]
       ·skip
        refine ri tT (Ww u8 v3 w2) (eqs (decide (u8.2=0)) 3 [(bK u8 v3)=true,(bK u8 v3)=true,gP (ny u8) [(6,true)]→All [[0].length=1,aG 1 1 (jD 1 [(.int .i64 0)]) (aC (au .i64) [0])],(bK u8 v3)=true,(bK u8 v3)=true,gP (ny u8) [(6,true)]→All [[1].length=1,aG 1 1 (jD 1 [(.int .i64 1)]) (aC (au .i64) [1])],(bK u8 v3)=true,(bK u8 v3)=true,gP (ny u8) [(6,true)]→All [[(⟨0,30,13334,[0]⟩:Short),(⟨1,50,8000,[1]⟩:Short)].length=2,aG 2 4 (jD 4 ni) (jD 4 ni)],gP (ny u8) [(6,true)],(bK u8 v3)=true,gP (ny u8) [(6,true)]→All [Fn Try.prog 52 [(sD (H9 u8)),(.one (.own 120 true ([(⟨0,30,13334,[0]⟩:Short),(⟨1,50,8000,[1]⟩:Short)].length)))] ab4 (vB w2) ab4],(bK u8 v3)=true,(mP u8 v3 w2)=false, ¬ gP (ny u8) [(15,true)],(mP u8 v3 w2)=false, ¬ gP (ny u8) [(15,true)],(mP u8 v3 w2)=false, ¬ gP (ny u8) [(15,true)],(mP u8 v3 w2)=false]) {yb:=[(2,(decide (u8.2=0))),(6,true),(15,false)],an:=[(8, .frz [0].length (aC (au .i64) [0])),(10, .frz [1].length (aC (au .i64) [1])),(12, .arr [(⟨0,30,13334,[0]⟩:Short),(⟨1,50,8000,[1]⟩:Short)].length (jD 4 ni)),(13, .callR [120] (vB w2)),(16, .skip),(17, .skip),(18, .skip)],fr:=[(12,120)] } [] (ae ⟨(hb16),(hb16),(fun hg=> ⟨(rfl),((by intro i hi j hj;match i,j,hi,hj with|0,0,_,_=>rfl)),trivial⟩),(hb16),(hb16),(fun hg=> ⟨(rfl),((by intro i hi j hj;match i,j,hi,hj with|0,0,_,_=>rfl)),trivial⟩),(hb16),(hb16),(fun hg=> ⟨(rfl),(iq _ _ _),trivial⟩),(⟨rfl,trivial⟩),(hb16),(fun hg=> ⟨(Fn.vG (frz:=[120]) (p:=[[(⟨0,30,13334,[0]⟩:Short),(⟨1,50,8000,[1]⟩:Short)].length=[(⟨0,30,13334,[0]⟩:Short),(⟨1,50,8000,[1]⟩:Short)].length]) (Fn.le (args':=(Mt u8)) (bY u8.1 [(⟨0,30,13334,[0]⟩:Short),(⟨1,50,8000,[1]⟩:Short)] hr_34) ⟨eO.refl _,eO.one (dO.d (gV.sl (.inl rfl) (by intro i hi j hj;match i,j,hi,hj with|0,0,_,_=>exact .refl _|0,1,_,_=>exact .refl _|0,2,_,_=>exact .refl _|0,3,_,_=>exact gV.nT|1,0,_,_=>exact .refl _|1,1,_,_=>exact .refl _|1,2,_,_=>exact .refl _|1,3,_,_=>exact gV.nT))),trivial⟩) (by kernel_rfl) ⟨rfl,trivial⟩ rfl),trivial⟩),(hb16),(hb17),((fun h=>Bool.noConfusion (show false=true from h.1))),(hb17),((fun h=>Bool.noConfusion (show false=true from h.1))),(hb17),((fun h=>Bool.noConfusion (show false=true from h.1))),(hb17),trivial⟩) (bM.le (st':=⟨[(0,(vB false))],[]⟩) ⟨⟨⟨_,rfl,eH.v (eO.one (dO.of (congrArg (fun b=>CV.d (.bool b)) (Cg hb17))))⟩,trivial⟩,trivial⟩) ?_
        refine aR ?_
        obtain rfl:=oi h
        exact rl [(sB false)]
      ·skip
       refine bI h (fun hb18 h=> ?_) (fun hb18 h=> ?_)
       ·skip
        refine bE h fun x0 hr_36 h=> ?_
        refine ri tT (WX u8 v3 x0) (eqs (decide (u8.2=0)) 3 [(bK u8 v3)=false, ¬ gP (jX u8) [(6,true)],(bK u8 v3)=false, ¬ gP (jX u8) [(6,true)],(bK u8 v3)=false, ¬ gP (jX u8) [(6,true)],(bK u8 v3)=false, ¬ gP (jX u8) [(6,true)],(bK u8 v3)=false, ¬ gP (jX u8) [(6,true)],(bK u8 v3)=false, ¬ gP (jX u8) [(6,true)],(bK u8 v3)=false, ¬ gP (jX u8) [(6,true)],(bK u8 v3)=false,(vH u8 v3)=true,(vH u8 v3)=true,gP (jX u8) [(15,true)]→All [[13334,8000].length=2,aG 2 1 (jD 1 NU) (aC (au .i64) [13334,8000])],gP (jX u8) [(15,true)],(vH u8 v3)=true,gP (jX u8) [(15,true)]→All [Fn Try.prog 54 [(sD (JZ v3)),(.one (.own 121 true ([13334,8000].length)))] [(121,some BV)] (vB x0) [(121,some BV)]],(vH u8 v3)=true]) {yb:=[(2,(decide (u8.2=0))),(6,false),(15,true)],an:=[(7, .skip),(8, .skip),(9, .skip),(10, .skip),(11, .skip),(12, .skip),(13, .skip),(17, .arr [13334,8000].length (aC (au .i64) [13334,8000])),(18, .callR [121] (vB x0))],fr:=[(17,121)] } [] (ae ⟨(hb16),((fun h=>Bool.noConfusion (show false=true from h.1))),(hb16),((fun h=>Bool.noConfusion (show false=true from h.1))),(hb16),((fun h=>Bool.noConfusion (show false=true from h.1))),(hb16),((fun h=>Bool.noConfusion (show false=true from h.1))),(hb16),((fun h=>Bool.noConfusion (show false=true from h.1))),(hb16),((fun h=>Bool.noConfusion (show false=true from h.1))),(hb16),((fun h=>Bool.noConfusion (show false=true from h.1))),(hb16),(hb18),(hb18),(fun hg=> ⟨(rfl),((by intro i hi j hj;match i,j,hi,hj with|0,0,_,_=>rfl|1,0,_,_=>rfl)),trivial⟩),(⟨rfl,trivial⟩),(hb18),(fun hg=> ⟨(Fn.vG (frz:=[121]) (p:=[[13334,8000].length=[13334,8000].length]) (Fn.le (args':=(Od v3)) (dG v3.1 [13334,8000] hr_36) ⟨eO.one (dO.d gV.nT),eO.one (dO.d gV.nT),trivial⟩) (by kernel_rfl) ⟨rfl,trivial⟩ rfl),trivial⟩),(hb18),trivial⟩) (bM.le (st':=⟨[(0,(vB x0))],[]⟩) ⟨⟨⟨_,rfl,eH.v (eO.one (dO.of (congrArg (fun b=>CV.d (.bool b)) (BF hb18))))⟩,trivial⟩,trivial⟩) ?_
        refine aR ?_
        obtain rfl:=oi h
        exact rl [(sB x0)]
       ·skip
        refine ri tT (WZ u8 v3) (WW u8 v3) {yb:=[(2,(decide (u8.2=0))),(6,false),(15,false)],an:=[(7, .skip),(8, .skip),(9, .skip),(10, .skip),(11, .skip),(12, .skip),(13, .skip),(16, .skip),(17, .skip),(18, .skip)] } [] (ae ⟨(hb16),((fun h=>Bool.noConfusion (show false=true from h.1))),(hb16),((fun h=>Bool.noConfusion (show false=true from h.1))),(hb16),((fun h=>Bool.noConfusion (show false=true from h.1))),(hb16),((fun h=>Bool.noConfusion (show false=true from h.1))),(hb16),((fun h=>Bool.noConfusion (show false=true from h.1))),(hb16),((fun h=>Bool.noConfusion (show false=true from h.1))),(hb16),((fun h=>Bool.noConfusion (show false=true from h.1))),(hb16),(hb18),((fun h=>Bool.noConfusion (show false=true from h.1))),(hb18),((fun h=>Bool.noConfusion (show false=true from h.1))),(hb18),((fun h=>Bool.noConfusion (show false=true from h.1))),(hb18),trivial⟩) (bM.le (st':=⟨[(0,(vB false))],[]⟩) ⟨⟨⟨_,rfl,eH.v (eO.one (dO.of (congrArg (fun b=>CV.d (.bool b)) (Cg hb18))))⟩,trivial⟩,trivial⟩) ?_
        refine aR ?_
        obtain rfl:=oi h
        exact rl [(sB false)]
def mE  :Bool→Exit→St→Prop:=
  fun r=>bB TT [.tmp 6] (vB r) []
section
variable (u1:(List (List Bool))) (u0:(ai × (List Bool) × Int)) (p:ah) (s_:State) (i:Int)
abbrev uZ:Nat × TV:=(2,(vD (aK none 1 (IU 1 aj) u1)))
abbrev yD:Nat × TV:=(7,(ZP u0))
abbrev wY:Nat × TV:=(8,(vD (FB u0)))
abbrev aaA:St:=⟨[(uZ u1),(bn p),(aV s_),(yD u0),(wY u0),(10,(vI i))],[]⟩
end
def qh (p:ah) (s_:State) (u1:(List (List Bool))) (u0:(ai × (List Bool) × Int)):Int→St:=
  fun i=>(aaA u1 u0 p s_ i)
def p8  :Unit→St:=
  fun _=> ⟨[],[]⟩
def gG (p:ah) (s_:State) (u0:(List (List Bool))) (u1:(ai × (List Bool) × Int)):(aM Int (Ex Unit Bool))→Exit→St→Prop:=
  LQ 0 [] (qh p s_ u0 u1) p8 mE
section
variable (u2:(List (List Bool))) (p:ah) (s_:State) (u0:(ai × (List Bool) × Int)) (i:Int) (u1:(List Bool)) (b:Int)
abbrev afg:List (Nat × TV):=[(uZ u2),(bn p),(aV s_),(yD u0),(wY u0),(10,(vI i)),(11,(vO 23 true u1.length)),(12,(vI b))]
abbrev U6:List (Nat × Option Ob):=[(23,some (bZ 4 1 aj u1))]
end
def pY (p:ah) (s_:State) (u2:(List (List Bool))) (u0:(ai × (List Bool) × Int)) (i:Int):((List Bool) × Int)→St:=
  fun zz=>match zz with|(u1,b)=> ⟨(afg u2 p s_ u0 i u1 b),(U6 u1)⟩
section
variable (u2:(List (List Bool))) (p:ah) (s_:State) (u0:(ai × (List Bool) × Int)) (i:Int) (u1:(List Bool))
abbrev ac3:St:=⟨[(uZ u2),(bn p),(aV s_),(yD u0),(wY u0),(10,(vI i)),(11,(vO 23 true u1.length))],(U6 u1)⟩
end
def qd (p:ah) (s_:State) (u2:(List (List Bool))) (u0:(ai × (List Bool) × Int)) (i:Int):(List Bool)→St:=
  fun u1=>(ac3 u2 p s_ u0 i u1)
def zT (p:ah) (s_:State) (u0:(List (List Bool))) (u1:(ai × (List Bool) × Int)) (i:Int):(aM ((List Bool) × Int) (Ex (List Bool) (aM Int (Ex Unit Bool))))→Exit→St→Prop:=
  LQ 2 [1] (pY p s_ u0 u1 i) (qd p s_ u0 u1 i) (gG p s_ u0 u1)
section
variable (u2:(List Bool))
abbrev PY:Nat × TV:=(11,(vD (aK (some true) 1 aj u2)))
end
def qc (p:ah) (s_:State) (u1:(List (List Bool))) (u0:(ai × (List Bool) × Int)) (i:Int) (u2:(List Bool)) (u3:(Int × Int)):Int→St:=
  fun b1=> ⟨[(uZ u1),(bn p),(aV s_),(yD u0),(wY u0),(10,(vI i)),(PY u2),(13,(vI u3.1)),(15,(vI b1))],[]⟩
def qi (p:ah) (s_:State) (u1:(List (List Bool))) (u0:(ai × (List Bool) × Int)) (i:Int):Unit→St:=
  fun _=>(aaA u1 u0 p s_ i)
def zP (p:ah) (s_:State) (u0:(List (List Bool))) (u1:(ai × (List Bool) × Int)) (i:Int) (u2:(List Bool)) (u3:(Int × Int)):(aM Int (Ex Unit (aM Int (Ex Unit Bool))))→Exit→St→Prop:=
  LQ 4 [1] (qc p s_ u0 u1 i u2 u3) (qi p s_ u0 u1 i) (gG p s_ u0 u1)
section
variable (p:ah) (u0:(ai × (List Bool) × Int)) (u4:(List Bool)) (b:Int) (u1:(List (List Bool))) (i:Int) (s_:State) (u2:(Int × Int)) (u5:Int) (b1:Int)
abbrev XT:=(decide (60<(p.sources.length:Int)))
abbrev XF:=(bif (XT p)then true else(decide (60<(p.links.length:Int))))
abbrev Uu:=(bif (XF p)then true else(decide (60<(p.racks.length:Int))))
abbrev TK:=(bif (!decide (u0.2.2=0))then true else(!decide ((u0.2.1.length:Int)=p.buses)))
abbrev aa7:=(u4.set b.toNat (bif (at' (at' u1 i.toNat) b.toNat)then(!(at' s_.badBus b.toNat))else false))
abbrev aaU:=(aC aj (aa7 u4 b u1 i s_))
abbrev afZ:Nat × TV:=(11,(vO 23 true ((aa7 u4 b u1 i s_).length)))
abbrev afN:List (Nat × Option Ob):=[(23,some (bZ 4 1 aj (aa7 u4 b u1 i s_)))]
abbrev SL:=(bif (decide (u2.1=u5))then(at' u0.2.1 b1.toNat)else false)
end
theorem Ab (p:ah) (s_:State) (u1:(List (List Bool))) {r:Bool} (h:iW p s_ u1=some r):Fn Try.prog 9 [(.agg (k5 p)),(.agg (QK s_)),(sD (aK none 1 (IU 1 aj) u1))] [] (vB r) []:=by
 refine fN tT Try.func9 rfl rfl fun B=> ?_
 show bJ _ _ _ _ _ _ (mE r) _
 unfold iW at h
 refine sz tT ⟨[(uZ u1),(bn p),(aV s_)],[]⟩ {fr:=[(0,12),(1,13)] } [12,13] ?_
 refine aQ (aQ (bE h fun r_ hr_ h=> ?_))
 refine rg tT ⟨[(uZ u1),(bn p),(aV s_),(37,(vB (bif (Uu p)then true else(!decide (r_=0)))))],[]⟩ (eqs (XT p) 5 (eqs (XF p) 5 (eqs (Uu p) 3 ((gP (jl [(4,(XT p)),(10,(XF p)),(16,(Uu p))]) [(16,false)]→All [Fn Try.prog 12 (k91 s_ p) [] (vI r_) []])::(eqs (Uu p) 2 []))))) {yb:=[(4,(XT p)),(10,(XF p)),(16,(Uu p))],an:=[(19, .call [] (vI r_) [])] } [] (ae (ae (ae ⟨(fun hg=> ⟨(eG p s_ (gF hr_ (aZ hg))),trivial⟩),(ae trivial)⟩))) ?_
 refine bI h (fun hb6 h=> ?_) (fun hb6 h=> ?_)
 ·refine ct hb6 ?_
  refine aQ (bE h fun u8 hr_1 h=> ?_)
  have q0:=yo hr_1
  refine rg tT ⟨[(6,(vB u8))],[]⟩ [_] {an:=[(0,cA q0 [])] } [] ⟨q0,trivial⟩ ?_
  refine aR ?_
  obtain rfl:=oi h
  exact rl [(sB u8)]
 ·refine cf hb6 ?_
  refine aP (aQ (bE h fun u0 hr_2 h=> ?_))
  have q0:=rk [(0,14),(1,15),(2,16),(3,17),(4,18)] (nY p s_ hr_2)
  refine ri tT ⟨[(uZ u1),(bn p),(aV s_),(7,(vP 19 0)),(wY u0),(9,(vI u0.2.2))],[(ael u0)]⟩ [_,u0.2.1.length=u0.2.1.length,u0.1.sources.length=u0.1.sources.length,u0.1.links.length=u0.1.links.length,u0.1.racks.length=u0.1.racks.length] {an:=[(2,cA q0 [])],fr:=[(7,19)] } [14,15,16,17] ⟨q0,rfl,rfl,rfl,rfl,trivial⟩ (fz ⟨[(uZ u1),(bn p),(aV s_),(yD u0),(wY u0),(9,(vI u0.2.2))],[]⟩ [19]) ?_
  refine aQ (aQ (bE h fun u6 hr_3 h=> ?_))
  refine rg tT ⟨[(uZ u1),(bn p),(aV s_),(yD u0),(wY u0),(62,(vB (bif (TK p u0)then true else(!decide (u6=0)))))],[]⟩ (eqs (!decide (u0.2.2=0)) 6 (eqs (TK p u0) 5 ((gP (jl [(2,(!decide (u0.2.2=0))),(9,(TK p u0))]) [(9,false)]→All [Fn Try.prog 49 [(.agg (k5 p)),(.agg (QK s_)),(.agg (XY u0)),(sD (FB u0))] [] (vI u6) []])::(eqs (TK p u0) 2 [])))) {yb:=[(2,(!decide (u0.2.2=0))),(9,(TK p u0))],an:=[(14, .call [] (vI u6) [])] } [] (ae (ae ⟨(fun hg=> ⟨(jC p s_ u0.1 u0.2.1 (gF hr_3 (aZ hg))),trivial⟩),(ae trivial)⟩)) ?_
  refine bI h (fun hb5 h=> ?_) (fun hb5 h=> ?_)
  ·refine ct hb5 ?_
   refine sz tT ⟨[(6,(vB false))],[]⟩ {} [] ?_
   refine aR ?_
   obtain rfl:=oi h
   exact rl [(sB false)]
  ·refine cf hb5 ?_
   refine aP (aQ (sz tT ⟨[(uZ u1),(bn p),(aV s_),(yD u0),(wY u0),(10,(vI 0))],[]⟩ {} [] ?_))
   refine bE h fun y2 hy h=> ?_
   refine aL [] (qh p s_ u1 u0) p8 mE hy (fun s f h=> ?_) ?_
   ·clear hy
    show bJ _ _ _ _ _ _ ((gG p s_ u1 u0) f) _
    unfold gq at h
    obtain⟨i,rfl⟩: ∃q,q=s:=⟨_,rfl⟩
    refine aQ (sg tT ⟨[(uZ u1),(bn p),(aV s_),(yD u0),(wY u0),(10,(vI i)),(70,(vB (bif (decide (i<(u1.length:Int)))then(decide (i<20))else false)))],[]⟩ (eqs (decide (i<(u1.length:Int))) 3 []) {yb:=[(4,(decide (i<(u1.length:Int))))] } [] (ae trivial) ?_)
    refine bI h (fun hb4 h=> ?_) (fun hb4 h=> ?_)
    ·refine ct hb4 ?_
     refine aP (aQ (aB (aQ (aO h fun⟨a1,a2,a3⟩ h=> ?_))))
     refine rg tT ⟨[(uZ u1),(bn p),(aV s_),(yD u0),(wY u0),(10,(vI i)),(11,(vO 23 true (Wd p)))],[(23,some (XU p))]⟩ [_,(p.buses:Int)=p.buses,_,_,(Jb p).length=p.buses.toNat,aG p.buses.toNat 1 (fun _ j=>[(.bool false)].getD j .nilp) (QV p)] {an:=[(2, .arr (Jb p).length (QV p))],fr:=[(2,23)] } [] ⟨a1,rfl,a2,a3,(List.length_replicate),(dP _ _ _ _ _ (fun j hj=>(match j,hj with|0,_=>rfl))),trivial⟩ ?_
     refine aQ (sz tT ⟨[(uZ u1),(bn p),(aV s_),(yD u0),(wY u0),(10,(vI i)),(11,(vO 23 true (Wd p))),(12,(vI 0))],[(23,some (XU p))]⟩ {} [] ?_)
     refine bE h fun y hy h=> ?_
     refine aL [1] (pY p s_ u1 u0 i) (qd p s_ u1 u0 i) (gG p s_ u1 u0) hy (fun s f h=> ?_) ?_
     ·clear hy
      show bJ _ _ _ _ _ _ ((zT p s_ u1 u0 i) f) _
      unfold gH at h
      obtain⟨u4,b⟩:=s
      refine aQ (aQ (aO h fun a1 h=> ?_))
      refine rg tT ⟨[(uZ u1),(bn p),(aV s_),(yD u0),(wY u0),(10,(vI i)),(11,(vO 23 true u4.length)),(12,(vI b)),(88,(vB (bif (decide (b<p.buses))then(decide (b<((at' u1 i.toNat).length:Int)))else false)))],(U6 u4)⟩ (eqs (decide (b<p.buses)) 4 ((gP (jl [(4,(decide (b<p.buses)))]) [(4,true)]→All [(0:Int)≤i∧i<(u1.length:Int)])::(eqs (decide (b<p.buses)) 4 []))) {yb:=[(4,(decide (b<p.buses)))] } [] (ae ⟨(fun hg=> ⟨(a1 (aZ hg)),trivial⟩),(ae trivial)⟩) ?_
      refine bI h (fun hb h=> ?_) (fun hb h=> ?_)
      ·refine ct hb ?_
       refine aP (aQ (aB (aO h fun⟨a1,a2,a3,a4⟩ h=> ?_)))
       refine ri tT ⟨(afg u1 p s_ u0 i u4 b),[(23,some (.arr 4 1 u4.length (aaU u4 b u1 i s_)))]⟩ (_::_::(eqs (at' (at' u1 i.toNat) b.toNat) 4 ((gP (jl [(9,(at' (at' u1 i.toNat) b.toNat))]) [(9,true)]→All [(0:Int)≤b∧b<(s_.badBus.length:Int)])::(eqs (at' (at' u1 i.toNat) b.toNat) 3 [_,_,aG u4.length 1 (jZ (aC aj u4) b.toNat 0 [(.bool (bif (at' (at' u1 i.toNat) b.toNat)then(!(at' s_.badBus b.toNat))else false))]) (aaU u4 b u1 i s_)])))) {yb:=[(9,(at' (at' u1 i.toNat) b.toNat))],an:=[(18, .arr 0 (aaU u4 b u1 i s_))] } [] ⟨a1,a2,(ae ⟨(fun hg=> ⟨(a3 (aZ hg)),trivial⟩),(ae ⟨a4,(tL a4),(bL _ _ _ _ _ _ _ _ rfl (fun j hj=>(match j,hj with|0,_=>rfl))),trivial⟩)⟩)⟩ (bM.le (st':=⟨[(uZ u1),(bn p),(aV s_),(yD u0),(wY u0),(10,(vI i)),(afZ u4 b u1 i s_),(12,(vI b))],(afN u4 b u1 i s_)⟩) ⟨⟨tR,tR,tR,tR,tR,tR,⟨_,rfl,eH.v (eO.one cW)⟩,tR,trivial⟩,⟨rfl,oW,trivial⟩⟩) ?_
       refine rz tT ⟨[(uZ u1),(bn p),(aV s_),(yD u0),(wY u0),(10,(vI i)),(afZ u4 b u1 i s_),(12,(k3 b))],(afN u4 b u1 i s_)⟩ {} [] ?_
       obtain rfl:=oi h
       exact lN
      ·refine cf hb ?_
       refine aI (fz (ac3 u1 p s_ u0 i u4) []) ?_
       refine aX ?_
       obtain rfl:=oi h
       exact lB
     ·clear hy
      cases y with
      |brk z=>
       obtain⟨u3,rfl⟩: ∃q,q=z:=⟨_,rfl⟩
       unfold gm
       refine⟨_, .refl, ?_⟩
       refine aQ (bE h fun u2 hr_4 h=> ?_)
       refine rg tT ⟨[(uZ u1),(bn p),(aV s_),(yD u0),(wY u0),(10,(vI i)),(PY u3),(13,(vI u2.1)),(14,(vI u2.2))],[]⟩ [Fn Try.prog 45 [(.agg (k5 p)),(.agg (QK s_)),(.one (.own 23 true u3.length))] (U6 u3) (.iP [(sI u2.1),(sI u2.2)]) (U6 u3),u3.length=u3.length] {an:=[(3, .callR [23] (.iP [(sI u2.1),(sI u2.2)]))] } [23] ⟨(Fn.vG (frz:=[23]) (p:=[u3.length=u3.length]) (Fn.le (args':=[(.agg (k5 p)),(.agg (QK s_)),(sD (aK (some true) 1 aj u3))]) (og p s_ u3 hr_4) ⟨eO.refl _,eO.refl _,eO.one (dO.d gV.nT),trivial⟩) (by kernel_rfl) ⟨rfl,trivial⟩ rfl),rfl,trivial⟩ ?_
       refine aQ (aQ (bE h fun u7 hr_5 h=> ?_))
       refine rg tT ⟨[(uZ u1),(bn p),(aV s_),(yD u0),(wY u0),(10,(vI i)),(PY u3),(13,(vI u2.1)),(123,(vB (bif (!decide (u2.2=0))then true else(decide (u2.1<u7)))))],[]⟩ (eqs (!decide (u2.2=0)) 3 ((gP (jl [(2,(!decide (u2.2=0)))]) [(2,false)]→All [Fn Try.prog 41 (O4 u0) [] (vI u7) []])::(eqs (!decide (u2.2=0)) 2 []))) {yb:=[(2,(!decide (u2.2=0)))],an:=[(5, .call [] (vI u7) [])] } [] (ae ⟨(fun hg=> ⟨(dA u0.1 (gF hr_5 (aZ hg))),trivial⟩),(ae trivial)⟩) ?_
       refine bI h (fun hb3 h=> ?_) (fun hb3 h=> ?_)
       ·refine ct hb3 ?_
        refine sz tT ⟨[(6,(vB false))],[]⟩ {} [] ?_
        refine aR ?_
        obtain rfl:=oi h
        exact lR dX (dZ 0) dY (bB.mk (.inr rfl) (p:=[]) (l:=[(sB false)]) (by kernel_rfl) trivial (eH.refl _) trivial)
       ·refine cf hb3 ?_
        refine aP (sz tT ⟨[(uZ u1),(bn p),(aV s_),(yD u0),(wY u0),(10,(vI i)),(PY u3),(13,(vI u2.1)),(15,(vI 0))],[]⟩ {} [] ?_)
        refine bE h fun y1 hy h=> ?_
        refine aL [1] (qc p s_ u1 u0 i u3 u2) (qi p s_ u1 u0 i) (gG p s_ u1 u0) hy (fun s f h=> ?_) ?_
        ·clear hy
         show bJ _ _ _ _ _ _ ((zP p s_ u1 u0 i u3 u2) f) _
         unfold gy at h
         obtain⟨b1,rfl⟩: ∃q,q=s:=⟨_,rfl⟩
         refine aQ (sz tT ⟨[(uZ u1),(bn p),(aV s_),(yD u0),(wY u0),(10,(vI i)),(PY u3),(13,(vI u2.1)),(15,(vI b1)),(127,(vB (decide (b1<p.buses))))],[]⟩ {} [] ?_)
         refine bI h (fun hb2 h=> ?_) (fun hb2 h=> ?_)
         ·refine ct hb2 ?_
          refine aP (aQ (aB (aQ (bE h fun u5 hr_6 h=> ?_))))
          refine aO h fun⟨a1,a2⟩ h=> ?_
          have q0:=dA u0.1 hr_6
          refine rg tT ⟨[(uZ u1),(bn p),(aV s_),(yD u0),(wY u0),(10,(vI i)),(PY u3),(13,(vI u2.1)),(15,(vI b1)),(146,(vB (bif (SL u0 u2 u5 b1)then(!(at' u3 b1.toNat))else false)))],[]⟩ (_::(eqs (decide (u2.1=u5)) 3 ((gP (jl [(4,(decide (u2.1=u5))),(10,(SL u0 u2 u5 b1))]) [(4,true)]→All [(0:Int)≤b1∧b1<(u0.2.1.length:Int)])::(eqs (decide (u2.1=u5)) 2 (eqs (SL u0 u2 u5 b1) 3 ((gP (jl [(4,(decide (u2.1=u5))),(10,(SL u0 u2 u5 b1))]) [(10,true)]→All [(0:Int)≤b1∧b1<(u3.length:Int)])::(eqs (SL u0 u2 u5 b1) 3 []))))))) {yb:=[(4,(decide (u2.1=u5))),(10,(SL u0 u2 u5 b1))],an:=[(2,cA q0 [])] } [] ⟨q0,(ae ⟨(fun hg=> ⟨(a1 (aZ hg)),trivial⟩),(ae (ae ⟨(fun hg=> ⟨(a2 (aZ hg)),trivial⟩),(ae trivial)⟩))⟩)⟩ ?_
          refine bI h (fun hb1 h=> ?_) (fun hb1 h=> ?_)
          ·refine ct hb1 ?_
           refine sz tT ⟨[(6,(vB false))],[]⟩ {} [] ?_
           refine aR ?_
           obtain rfl:=oi h
           exact lR dX (dZ 4) dY (lR dX (dZ 0) dY (bB.mk (.inr rfl) (p:=[]) (l:=[(sB false)]) (by kernel_rfl) trivial (eH.refl _) trivial))
          ·refine cf hb1 ?_
           refine aP (rz tT ⟨[(uZ u1),(bn p),(aV s_),(yD u0),(wY u0),(10,(vI i)),(PY u3),(13,(vI u2.1)),(15,(k3 b1))],[]⟩ {} [] ?_)
           obtain rfl:=oi h
           exact lN
         ·refine cf hb2 ?_
          refine aI (fz (aaA u1 u0 p s_ i) []) ?_
          refine aX ?_
          obtain rfl:=oi h
          exact lB
        ·clear hy
         cases y1 with
         |brk z=>
          unfold gm
          refine⟨_, .refl, ?_⟩
          refine rz tT ⟨[(uZ u1),(bn p),(aV s_),(yD u0),(wY u0),(10,(k3 i))],[]⟩ {} [] ?_
          obtain rfl:=oi h
          exact lN
         |ret v=>
          obtain rfl:=oi h
          unfold gm
          intro e st hn ha hR
          cases e with
          |normal=>exact absurd rfl hn
          |exit id=>simp only [qz (b:=1) ha rfl,cond_false];exact hR
          |goto l=>exact hR
          |ret=>exact hR
          |panic c=>exact hR
          |outgrown=>exact hR
      |ret v=>
       obtain rfl:=oi h
       unfold gm
       intro e st hn ha hR
       cases e with
       |normal=>exact absurd rfl hn
       |exit id=>simp only [qz (b:=1) ha rfl,cond_false];exact hR
       |goto l=>exact hR
       |ret=>exact hR
       |panic c=>exact hR
       |outgrown=>exact hR
    ·refine cf hb4 ?_
     refine aI (fz ⟨[],[]⟩ []) ?_
     refine aX ?_
     obtain rfl:=oi h
     exact lB
   ·clear hy
    cases y2 with
    |brk z=>
     unfold gm
     refine⟨_, .refl, ?_⟩
     refine aQ (bE h fun u9 hr_7 h=> ?_)
     have q0:=yo hr_7
     refine rg tT ⟨[(6,(vB u9))],[]⟩ [_] {an:=[(0,cA q0 [])] } [] ⟨q0,trivial⟩ ?_
     refine aR ?_
     obtain rfl:=oi h
     exact rl [(sB u9)]
    |ret v=>
     obtain rfl:=oi h
     unfold gm
     intro e st hn ha hR
     cases e with
     |normal=>exact absurd rfl hn
     |exit id=>exact hR
     |goto l=>exact hR
     |ret=>exact hR
     |panic c=>exact hR
     |outgrown=>exact hR
end
end Sg
