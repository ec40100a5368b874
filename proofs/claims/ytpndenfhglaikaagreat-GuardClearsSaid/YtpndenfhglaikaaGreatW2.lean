import Derived.Test.YtpndenfhglaikaaGreatW1
set_option linter.all false
namespace Sg
open Go Go.Proofs
set_option maxRecDepth 20000
noncomputable section
section
variable (p:ah) (u0:(List Int)) (u2:(List Bool)) (l:(List Short)) (n:Int) (i:Int) (u1:(List Int)) (k:Int)
abbrev Yt:DV:=(aD none 1 (aC .i64) ([]:List Int))
abbrev Y3:TV:=(vD Yt)
abbrev ahm:St:=⟨[(4,Y3),(5,(vI 1))],[]⟩
abbrev agW:List SV:=[(sD Yt),(sI 1)]
abbrev amJ:List (Nat × Option Ob):=[(7,some (ahq p))]
abbrev Za:=(List.replicate (KZ p) (false:Bool))
abbrev aj4:Nat × TV:=(9,(vO 11 true ((Za p).length)))
abbrev ako:List (Nat × Option Ob):=[(ab0 u0),(11,some (aF 4 1 af (Za p)))]
abbrev ahA:=(au af (u2.set ((at' ((at' l n.toNat).links) i.toNat).toNat) true))
abbrev alK:List (Nat × Option Ob):=[(ab0 u0),(11,some (aF 4 1 af (u2.set ((at' ((at' l n.toNat).links) i.toNat).toNat) true)))]
abbrev adM:Nat × TV:=(10,(Am i))
abbrev alC:Nat × TV:=(7,(vO 7 true ((aaw l n u1 k).length)))
abbrev alB:List (Nat × Option Ob):=[(7,some (aF 3 1 (aC .i64) (aaw l n u1 k)))]
end
theorem Gc (p:ah) (l:(List Short)) {r:((List Int) × Int)} (h:mI p l=some r):Fn Tryz.prog 40 (ajZ p l) [] (.iB [(sD (aD none 1 (aC .i64) r.1)),(sI r.2)]) []:=by
 refine fN tT Tryz.func40 rfl rfl fun B=> ?_
 show bG _ _ _ _ _ _ (sH r) _
 unfold mI at h
 refine sz tT (ajK p l) {fr:=[(0,6)] } [6] ?_
 refine aQ (bE h fun r_ hr_ h=> ?_)
 have q0:=tO p hr_
 refine rg tT (alN p l r_) [_] {an:=[(1,cA q0 [])] } [] ⟨q0,trivial⟩ ?_
 refine aQ (sz tT ⟨[(qV l),(k7 p),(6,(vI r_)),(16,(vB (!decide (r_=0))))],[]⟩ {} [] ?_)
 refine bI h (fun hb7 h=> ?_) (fun hb7 h=> ?_)
 ·refine ct hb7 ?_
  refine sz tT ⟨[(4,(vD nS)),(5,(vI r_))],[]⟩ {} [] ?_
  refine aI (bJ.le (st':=⟨[(4,Y3),(5,(vI r_))],[]⟩) ⟨⟨⟨_,rfl,fe.v (jB.one (bH.d dR.nil'))⟩,tR,trivial⟩,trivial⟩) ?_
  refine aR ?_
  obtain rfl:=oi h
  exact rl [(sD Yt),(sI r_)]
 ·refine cf hb7 ?_
  refine aP (aQ (sz tT ⟨[(qV l),(k7 p),(20,(vB (decide (8<(l.length:Int)))))],[]⟩ {} [] ?_))
  refine bI h (fun hb6 h=> ?_) (fun hb6 h=> ?_)
  ·refine ct hb6 ?_
   refine sz tT ZL {} [] ?_
   refine aI (bJ.le (st':=ahm) ⟨⟨⟨_,rfl,fe.v (jB.one (bH.d dR.nil'))⟩,tR,trivial⟩,trivial⟩) ?_
   refine aR ?_
   obtain rfl:=oi h
   exact rl agW
  ·refine cf hb6 ?_
   refine aP (aQ (aO h fun⟨a1,a2,a3⟩ h=> ?_))
   refine rg tT ⟨[(qV l),(k7 p),(7,(vO 7 true (aek p)))],(amJ p)⟩ [_,(aaJ p)=(p.links.length:Int),_,_,(FR p).length=(KZ p),aT (KZ p) 1 (fun _ j=>[(.int .i64 0)].getD j .nilp) (SF p)] {an:=[(3, .arr (FR p).length (SF p))],fr:=[(3,7)] } [] ⟨a1,rfl,a2,a3,(List.length_replicate),(iZ _ _ _ _ _ (fun j hj=>(match j,hj with|0,_=>rfl))),trivial⟩ ?_
   refine aQ (sz tT ⟨[(qV l),(k7 p),(7,(vO 7 true (aek p))),(8,(vI 0))],(amJ p)⟩ {} [] ?_)
   refine bE h fun y2 hy h=> ?_
   refine aL [] (yA p l) yw sH hy (fun s f h=> ?_) ?_
   ·clear hy
    show bG _ _ _ _ _ _ ((jV p l) f) _
    unfold iC at h
    obtain⟨u0,n⟩:=s
    refine aQ (sz tT ⟨[(qV l),(k7 p),(Bv u0),(8,(vI n)),(28,(vB (decide (n<(l.length:Int)))))],(LP u0)⟩ {} [] ?_)
    refine bI h (fun hb5 h=> ?_) (fun hb5 h=> ?_)
    ·refine ct hb5 ?_
     refine aP (aQ (aB (aQ (aQ (aO h fun⟨a1,a2⟩ h=> ?_)))))
     refine rg tT ⟨[(qV l),(k7 p),(Bv u0),(8,(vI n)),(44,(vB (Wj l n)))],(LP u0)⟩ (_::(eqs (UG l n) 3 ((gP (ic [(6,(UG l n))]) [(6,false)]→All [(0:Int)≤n∧n<(l.length:Int)])::(eqs (UG l n) 4 [])))) {yb:=[(6,(UG l n))] } [] ⟨a1,(ae ⟨(fun hg=> ⟨(a2 (aU hg)),trivial⟩),(ae trivial)⟩)⟩ ?_
     refine bI h (fun hb4 h=> ?_) (fun hb4 h=> ?_)
     ·refine ct hb4 ?_
      refine sz tT ZL {} [] ?_
      refine aI (bJ.le (st':=ahm) ⟨⟨⟨_,rfl,fe.v (jB.one (bH.d dR.nil'))⟩,tR,trivial⟩,trivial⟩) ?_
      refine aR ?_
      obtain rfl:=oi h
      exact lR bY (dm 0) bZ (aW.mk (.inr rfl) (p:=[]) (l:=agW) (by kernel_rfl) trivial (fe.refl _) trivial)
     ·refine cf hb4 ?_
      refine aP (aQ (aO h fun⟨a1,a2,a3⟩ h=> ?_))
      refine rg tT ⟨[(qV l),(k7 p),(Bv u0),(8,(vI n)),(aj4 p)],(ako p u0)⟩ [_,(aaJ p)=(p.links.length:Int),_,_,(Za p).length=(KZ p),aT (KZ p) 1 (fun _ j=>[(.bool false)].getD j .nilp) (au af (Za p))] {an:=[(3, .arr (Za p).length (au af (Za p)))],fr:=[(3,11)] } [] ⟨a1,rfl,a2,a3,(List.length_replicate),(iZ _ _ _ _ _ (fun j hj=>(match j,hj with|0,_=>rfl))),trivial⟩ ?_
      refine aQ (sz tT ⟨[(qV l),(k7 p),(Bv u0),(8,(vI n)),(aj4 p),(10,(vI 0))],(ako p u0)⟩ {} [] ?_)
      refine bE h fun y hy h=> ?_
      refine aL [1] (xI p l u0 n) (xV p l u0 n) (jV p l) hy (fun s f h=> ?_) ?_
      ·clear hy
       show bG _ _ _ _ _ _ ((F8 p l u0 n) f) _
       unfold iI at h
       obtain⟨u2,i⟩:=s
       refine aQ (aQ (aO h fun a1 h=> ?_))
       refine rg tT ⟨[(qV l),(k7 p),(Bv u0),(8,(vI n)),(9,(vO 11 true u2.length)),(10,(vI i)),(56,(vB (decide (i<(((at' l n.toNat).links).length:Int)))))],(abW u0 u2)⟩ [_] {} [] ⟨a1,trivial⟩ ?_
       refine bI h (fun hb1 h=> ?_) (fun hb1 h=> ?_)
       ·refine ct hb1 ?_
        refine aP (aQ (aB (aQ (aO h fun⟨a1,a2⟩ h=> ?_))))
        refine rg tT ⟨[(qV l),(k7 p),(Bv u0),(8,(vI n)),(9,(vO 11 true u2.length)),(10,(vI i)),(11,(vI (at' ((at' l n.toNat).links) i.toNat)))],(abW u0 u2)⟩ [_,_] {} [] ⟨a1,a2,trivial⟩ ?_
        refine aQ (sg tT ⟨[(qV l),(k7 p),(Bv u0),(8,(vI n)),(9,(vO 11 true u2.length)),(10,(vI i)),(11,(vI (at' ((at' l n.toNat).links) i.toNat))),(75,(vB (bif (decide ((at' ((at' l n.toNat).links) i.toNat)<0))then true else(decide ((p.links.length:Int)≤(at' ((at' l n.toNat).links) i.toNat))))))],(abW u0 u2)⟩ (eqs (decide ((at' ((at' l n.toNat).links) i.toNat)<0)) 6 []) {yb:=[(2,(decide ((at' ((at' l n.toNat).links) i.toNat)<0)))] } [] (ae trivial) ?_)
        refine bI h (fun hb h=> ?_) (fun hb h=> ?_)
        ·refine ct hb ?_
         refine sz tT ZL {} [] ?_
         refine aI (bJ.le (st':=ahm) ⟨⟨⟨_,rfl,fe.v (jB.one (bH.d dR.nil'))⟩,tR,trivial⟩,trivial⟩) ?_
         refine aR ?_
         obtain rfl:=oi h
         exact lR bY (dm 2) bZ (lR bY (dm 0) bZ (aW.mk (.inr rfl) (p:=[]) (l:=agW) (by kernel_rfl) trivial (fe.refl _) trivial))
        ·refine cf hb ?_
         refine aP (aO h fun a1 h=> ?_)
         refine ri tT ⟨(akJ l p u0 n u2 i),[(ab0 u0),(11,some (.arr 4 1 u2.length (ahA u2 l n i)))]⟩ [_,_,aT u2.length 1 (lH (au af u2) ((at' ((at' l n.toNat).links) i.toNat).toNat) 0 [(.bool true)]) (ahA u2 l n i)] {an:=[(3, .arr 0 (ahA u2 l n i))] } [] ⟨a1,(tL a1),(dD _ _ _ _ _ _ _ _ rfl (fun j hj=>(match j,hj with|0,_=>rfl))),trivial⟩ (bJ.le (st':=⟨[(qV l),(k7 p),(Bv u0),(8,(vI n)),(9,(vO 11 true ((u2.set ((at' ((at' l n.toNat).links) i.toNat).toNat) true).length))),(10,(vI i))],(alK u0 u2 l n i)⟩) ⟨⟨tR,tR,tR,tR,⟨_,rfl,fe.v (jB.one cW)⟩,tR,trivial⟩,⟨rfl, .refl _,⟨rfl,oW,trivial⟩⟩⟩) ?_
         refine rz tT ⟨[(qV l),(k7 p),(Bv u0),(8,(vI n)),(9,(vO 11 true ((u2.set ((at' ((at' l n.toNat).links) i.toNat).toNat) true).length))),(adM i)],(alK u0 u2 l n i)⟩ {} [] ?_
         obtain rfl:=oi h
         exact lN
       ·refine cf hb1 ?_
        refine aI (fz (amF l p u0 n u2) []) ?_
        refine aX ?_
        obtain rfl:=oi h
        exact lB
      ·clear hy
       cases y with
       |brk z=>
        obtain⟨u3,rfl⟩: ∃q,q=z:=⟨_,rfl⟩
        unfold fE
        refine⟨_, .refl, ?_⟩
        refine sg tT ⟨[(qV l),(k7 p),(Bv u0),(8,(vI n)),(Ww u3),(12,(vI 0))],(LP u0)⟩ [u3.length=u3.length] {} [11] ⟨rfl,trivial⟩ ?_
        refine bE h fun y1 hy h=> ?_
        refine aL [1] (xq p l n u3) (xM p l n) (jV p l) hy (fun s f h=> ?_) ?_
        ·clear hy
         show bG _ _ _ _ _ _ ((Gh p l n u3) f) _
         unfold iF at h
         obtain⟨u1,k⟩:=s
         refine aQ (sz tT ⟨[(qV l),(k7 p),(Bv u1),(8,(vI n)),(Ww u3),(12,(vI k)),(82,(QT k u1))],(LP u1)⟩ {} [] ?_)
         refine bI h (fun hb3 h=> ?_) (fun hb3 h=> ?_)
         ·refine ct hb3 ?_
          refine aP (aQ (aB (aQ (aO h fun a1 h=> ?_))))
          refine rg tT ⟨[(qV l),(k7 p),(Bv u1),(8,(vI n)),(Ww u3),(12,(vI k)),(88,(vB (at' u3 k.toNat)))],(LP u1)⟩ [_] {} [] ⟨a1,trivial⟩ ?_
          refine bI h (fun hb2 h=> ?_) (fun hb2 h=> ?_)
          ·refine ct hb2 ?_
           refine aO h fun⟨a1,a2⟩ h=> ?_
           refine di tT mX ⟨(akx u3 l p u1 n k),[(7,some (.arr 3 1 u1.length (Y9 l n u1 k)))]⟩ [_,_,_,_,_,aT u1.length 1 (ajH l n u1 k) (Y9 l n u1 k)] {an:=[(13, .arr 0 (Y9 l n u1 k))] } [] ⟨a1,(tL a1),a2,a1,(tL a1),(dD _ _ _ _ _ _ _ _ rfl (fun j hj=>(match j,hj with|0,_=>rfl))),trivial⟩ (bJ.le (st':=⟨[(qV l),(k7 p),(alC l n u1 k),(8,(vI n)),(Ww u3),(12,(vI k))],(alB l n u1 k)⟩) ⟨⟨tR,tR,⟨_,rfl,fe.v (jB.one cW)⟩,tR,tR,tR,trivial⟩,⟨rfl,oW,trivial⟩⟩) ?_
           refine rz tT ⟨[(qV l),(k7 p),(alC l n u1 k),(8,(vI n)),(Ww u3),(12,(Am k))],(alB l n u1 k)⟩ {} [] ?_
           obtain rfl:=oi h
           exact lN
          ·refine cf hb2 ?_
           refine aP (rz tT ⟨[(qV l),(k7 p),(Bv u1),(8,(vI n)),(Ww u3),(12,(Am k))],(LP u1)⟩ {} [] ?_)
           obtain rfl:=oi h
           exact lN
         ·refine cf hb3 ?_
          refine aI (fz (ag6 u1 l p n) []) ?_
          refine aX ?_
          obtain rfl:=oi h
          exact lB
        ·clear hy
         cases y1 with
         |brk z=>
          obtain⟨u5,rfl⟩: ∃q,q=z:=⟨_,rfl⟩
          unfold fE
          refine⟨_, .refl, ?_⟩
          refine rz tT ⟨[(qV l),(k7 p),(Bv u5),(Zv n)],(LP u5)⟩ {} [] ?_
          obtain rfl:=oi h
          exact lN
         |ret v=>
          obtain rfl:=oi h
          unfold fE
          intro e st hn ha hR
          cases e with
          |normal=>exact absurd rfl hn
          |exit id=>simp only [tZ (b:=1) ha rfl,cond_false];exact hR
          |goto l=>exact hR
          |ret=>exact hR
          |panic c=>exact hR
          |outgrown=>exact hR
       |ret v=>
        obtain rfl:=oi h
        unfold fE
        intro e st hn ha hR
        cases e with
        |normal=>exact absurd rfl hn
        |exit id=>simp only [tZ (b:=1) ha rfl,cond_false];exact hR
        |goto l=>exact hR
        |ret=>exact hR
        |panic c=>exact hR
        |outgrown=>exact hR
    ·refine cf hb5 ?_
     refine aI (fz ⟨[(Bv u0)],(LP u0)⟩ []) ?_
     refine aX ?_
     obtain rfl:=oi h
     exact lB
   ·clear hy
    cases y2 with
    |brk z=>
     obtain⟨u4,rfl⟩: ∃q,q=z:=⟨_,rfl⟩
     unfold fE
     refine⟨_, .refl, ?_⟩
     refine sg tT ⟨[(4,(vD (aD (some true) 1 (aC .i64) u4))),(5,(vI 0))],[]⟩ [u4.length=u4.length] {} [7] ⟨rfl,trivial⟩ ?_
     refine aI (bJ.le (st':=⟨[(4,(Uj u4)),(5,(vI 0))],[]⟩) ⟨⟨⟨_,rfl,fe.v (jB.one (bH.d dR.nI))⟩,tR,trivial⟩,trivial⟩) ?_
     refine aR ?_
     obtain rfl:=oi h
     exact rl [(sD (Fg u4)),(sI 0)]
    |ret v=>
     obtain rfl:=oi h
     unfold fE
     intro e st hn ha hR
     cases e with
     |normal=>exact absurd rfl hn
     |exit id=>exact hR
     |goto l=>exact hR
     |ret=>exact hR
     |panic c=>exact hR
     |outgrown=>exact hR
def vv  :(Int × Bool)→Exit→St→Prop:=
  fun r=>aW TT [.tmp 4, .tmp 5] (.iB [(sI r.1),(sB r.2)]) []
def Af (x:Link) (u0:Int):(Int × Bool × Int)→St:=
  fun zz=>match zz with|(u1,ok,i)=> ⟨[(1,(vI u0)),(Ld x),(6,(vI u1)),(7,(vB ok)),(8,(vI i))],[]⟩
def Ai  :(Int × Bool)→St:=
  fun zz=>match zz with|(u0,u1)=> ⟨[(6,(vI u0)),(7,(vB u1))],[]⟩
def Jl (x:Link) (u0:Int):(aM (Int × Bool × Int) (Ex (Int × Bool) (Int × Bool)))→Exit→St→Prop:=
  LQ 0 [] (Af x u0) Ai vv
theorem IZ (x:Link) (u0:Int) {r:(Int × Bool)} (h:pV x u0=some r):Fn Tryz.prog 58 (amE x u0) [] (.iB [(sI r.1),(sB r.2)]) []:=by
 refine fN tT Tryz.func58 rfl rfl fun B=> ?_
 show bG _ _ _ _ _ _ (vv r) _
 unfold pV at h
 refine sz tT (am4 x u0) {fr:=[(0,1)] } [1] ?_
 refine sz tT ⟨[(1,(vI u0)),(Ld x),(6,(vI 0)),(7,(vB false))],[]⟩ {} [] ?_
 refine aQ (sz tT ⟨[(1,(vI u0)),(Ld x),(6,(vI 0)),(7,(vB false)),(8,(vI 0))],[]⟩ {} [] ?_)
 refine bE h fun y hy h=> ?_
 refine aL [] (Af x u0) Ai vv hy (fun s f h=> ?_) ?_
 ·clear hy
  show bG _ _ _ _ _ _ ((Jl x u0) f) _
  unfold jL at h
  obtain⟨u1,ok,i⟩:=s
  refine aQ (sz tT ⟨[(1,(vI u0)),(Ld x),(6,(vI u1)),(7,(vB ok)),(8,(vI i)),(13,(vB (decide (i<(x.trip.length:Int)))))],[]⟩ {} [] ?_)
  refine bI h (fun hb1 h=> ?_) (fun hb1 h=> ?_)
  ·refine ct hb1 ?_
   refine aP (aQ (aB (aQ (aO h fun a1 h=> ?_))))
   refine rg tT ⟨[(1,(vI u0)),(Ld x),(6,(vI u1)),(7,(vB ok)),(8,(vI i)),(23,(vB (decide (((at' x.trip i.toNat).amps)≤u0))))],[]⟩ [_] {} [] ⟨a1,trivial⟩ ?_
   refine bI h (fun hb h=> ?_) (fun hb h=> ?_)
   ·refine ct hb ?_
    refine aQ (aO h fun a1 h=> ?_)
    refine rg tT ⟨[(1,(vI u0)),(Ld x),(6,(vI (k23 x i))),(8,(vI i))],[]⟩ [_] {} [] ⟨a1,trivial⟩ ?_
    refine rz tT ⟨[(1,(vI u0)),(Ld x),(6,(vI (k23 x i))),(7,(vB true)),(8,(vI i))],[]⟩ {} [] ?_
    refine rz tT ⟨[(1,(vI u0)),(Ld x),(6,(vI (k23 x i))),(7,(vB true)),(Zv i)],[]⟩ {} [] ?_
    obtain rfl:=oi h
    exact lN
   ·refine cf hb ?_
    refine aP (rz tT ⟨[(1,(vI u0)),(Ld x),(6,(vI u1)),(7,(vB ok)),(Zv i)],[]⟩ {} [] ?_)
    obtain rfl:=oi h
    exact lN
  ·refine cf hb1 ?_
   refine aI (fz ⟨[(6,(vI u1)),(7,(vB ok))],[]⟩ []) ?_
   refine aX ?_
   obtain rfl:=oi h
   exact lB
 ·clear hy
  cases y with
  |brk z=>
   obtain⟨u2,u3⟩:=z
   unfold fE
   refine⟨_, .refl, ?_⟩
   refine sz tT ⟨[(4,(vI u2)),(5,(vB u3))],[]⟩ {} [] ?_
   refine aR ?_
   obtain rfl:=oi h
   exact rl [(sI u2),(sB u3)]
  |ret v=>
   obtain rfl:=oi h
   unfold fE
   intro e st hn ha hR
   cases e with
   |normal=>exact absurd rfl hn
   |exit id=>exact hR
   |goto l=>exact hR
   |ret=>exact hR
   |panic c=>exact hR
   |outgrown=>exact hR
def Oy  :Int→Exit→St→Prop:=
  fun r=>aW TT [.tmp 10] (vI r) []
section
variable (p:ah) (i:Int) (s_:State)
abbrev aiF:Nat × TV:=(5,(k8 p))
abbrev ab1:=(!decide (((at' p.links i.toNat).kind)=3))
abbrev ZT:=(bif (ab1 p i)then true else(Fe s_ i))
abbrev amk:=(ic [(7,(ab1 p i)),(15,(ZT p i s_))])
end
theorem rA (p:ah) (s_:State) (i:Int) (u1:Int) (u0:Int) {r:Int} (h:kE p s_ i u1 u0=some r):Fn Tryz.prog 41 [(.agg (k3 p)),(.agg (Rx s_)),(sI i),(sI u1),(sI u0)] [] (vI r) []:=by
 refine fN tT Tryz.func41 rfl rfl fun B=> ?_
 show bG _ _ _ _ _ _ (Oy r) _
 unfold kE at h
 refine sz tT ⟨[(2,(vI i)),(3,(vI u1)),(4,(vI u0)),(aiF p),(6,(Y2 s_))],[]⟩ {fr:=[(0,2),(1,3)] } [2,3] ?_
 refine aQ (aQ (aO h fun⟨a1,a2,a3⟩ h=> ?_))
 refine rg tT ⟨[(2,(vI i)),(3,(vI u1)),(4,(vI u0)),(aiF p),(34,(vB (bif (ZT p i s_)then true else(at' s_.badLink i.toNat))))],[]⟩ (_::(eqs (ab1 p i) 4 ((gP (amk p i s_) [(7,false)]→All [(0:Int)≤i∧i<(s_.closed.length:Int)])::(eqs (ab1 p i) 3 (eqs (ZT p i s_) 4 ((gP (amk p i s_) [(15,false)]→All [(0:Int)≤i∧i<(s_.badLink.length:Int)])::(eqs (ZT p i s_) 2 []))))))) {yb:=[(7,(ab1 p i)),(15,(ZT p i s_))] } [] ⟨a1,(ae ⟨(fun hg=> ⟨(a2 (aU hg)),trivial⟩),(ae (ae ⟨(fun hg=> ⟨(a3 (aU hg)),trivial⟩),(ae trivial)⟩))⟩)⟩ ?_
 refine bI h (fun hb1 h=> ?_) (fun hb1 h=> ?_)
 ·refine ct hb1 ?_
  refine sz tT ⟨[(10,(vI (-1)))],[]⟩ {} [] ?_
  refine aR ?_
  obtain rfl:=oi h
  exact rl [(sI (-1))]
 ·refine cf hb1 ?_
  refine aP (aQ (bE h fun r_ hr_ h=> ?_))
  refine aO h fun a1 h=> ?_
  have q1:=IZ (at' p.links i.toNat) u1 hr_
  refine rg tT ⟨[(4,(vI u0)),(11,(vI r_.1)),(12,(vB r_.2))],[]⟩ [_,_] {an:=[(6,cA q1 [])] } [] ⟨a1,q1,trivial⟩ ?_
  refine aQ (sz tT ⟨[(4,(vI u0)),(11,(vI r_.1)),(46,(vB (!r_.2)))],[]⟩ {} [] ?_)
  refine bI h (fun hb h=> ?_) (fun hb h=> ?_)
  ·refine ct hb ?_
   refine sz tT ⟨[(10,(vI (-1)))],[]⟩ {} [] ?_
   refine aR ?_
   obtain rfl:=oi h
   exact rl [(sI (-1))]
  ·refine cf hb ?_
   refine aP (sz tT ⟨[(10,(vI (IntKind.wrap .i64 (u0+r_.1))))],[]⟩ {} [] ?_)
   refine aR ?_
   obtain rfl:=oi h
   exact rl [(sI (IntKind.wrap .i64 (u0+r_.1)))]
def Dw  :State→Exit→St→Prop:=
  fun r=>aW TT [.cell 2 29] (.v (.agg [(.own 0 false r.closed.length),(.own 1 false r.locked.length),(.own 2 false r.badLink.length),(.own 3 false r.on_.length),(.own 4 false r.badSource.length),(.own 5 false r.earthed.length),(.own 6 false r.badBus.length)])) [(0,some (aF 4 1 af r.closed)),(1,some (aF 4 1 af r.locked)),(2,some (aF 4 1 af r.badLink)),(3,some (aF 4 1 af r.on_)),(4,some (aF 4 1 af r.badSource)),(5,some (aF 4 1 af r.earthed)),(6,some (aF 4 1 af r.badBus)),(7,none)]
theorem sN (x:State) {r:State} (h:gX x=some r):Fn Tryz.prog 9 (ahz x) [] (.v (.agg [(.own 0 false r.closed.length),(.own 1 false r.locked.length),(.own 2 false r.badLink.length),(.own 3 false r.on_.length),(.own 4 false r.badSource.length),(.own 5 false r.earthed.length),(.own 6 false r.badBus.length)])) [(0,some (aF 4 1 af r.closed)),(1,some (aF 4 1 af r.locked)),(2,some (aF 4 1 af r.badLink)),(3,some (aF 4 1 af r.on_)),(4,some (aF 4 1 af r.badSource)),(5,some (aF 4 1 af r.earthed)),(6,some (aF 4 1 af r.badBus)),(7,none)]:=by
 refine fN tT Tryz.func9 rfl rfl fun B=> ?_
 show bG _ _ _ _ _ _ (Dw r) _
 unfold gX at h
 refine sz tT (akq x) {fr:=[(0,9),(1,10)] } [9] ?_
 refine aQ (bE h fun r_ hr_ h=> ?_)
 refine bE h fun u0 hr_1 h=> ?_
 refine bE h fun u1 hr_2 h=> ?_
 refine bE h fun u2 hr_3 h=> ?_
 refine bE h fun u3 hr_4 h=> ?_
 refine bE h fun u4 hr_5 h=> ?_
 refine bE h fun u5 hr_6 h=> ?_
 have q0:=rk [(0,11)] (dP x.closed hr_)
 have q1:=rk [(0,12)] (dP x.locked hr_1)
 have q2:=rk [(0,13)] (dP x.badLink hr_2)
 have q3:=rk [(0,14)] (dP x.on_ hr_3)
 have q4:=rk [(0,15)] (dP x.badSource hr_4)
 have q5:=rk [(0,16)] (dP x.earthed hr_5)
 have q6:=rk [(0,17)] (dP x.badBus hr_6)
 refine dg tT mX (al9 r_ u1 u2 u3 u4 u0 u5) [_,_,_,_,_,_,_] {an:=[(2,cA q0 []),(5,cA q1 []),(8,cA q2 []),(11,cA q3 []),(14,cA q4 []),(17,cA q5 []),(20,cA q6 [])] } [] ⟨q0,q1,q2,q3,q4,q5,q6,trivial⟩ ?_
 refine aI (bJ.fin (st':=(afX r_ u1 u2 u3 u4 u0 u5)) (cs:=[]) ⟨[],[(11,0),(12,1),(13,2),(14,3),(15,4),(16,5),(17,6),(10,7)]⟩ [2] (by kernel_rfl) trivial) ?_
 refine aR ?_
 obtain rfl:=oi h
 exact rh (agk r_ u1 u2 u3 u4 u0 u5) (.refl _) (hN 7 ⟨rfl,trivial,trivial⟩)
def uz (s_:State):(Int × (List Int))→Exit→St→Prop:=
  fun r=>aW TT [.tmp 10, .tmp 11] (.iB [(sI r.1),(sD (aD none 1 (aC .i64) r.2))]) (jr s_)
section
variable (u4:(List Int)) (u2:(List Bool)) (u0:Int) (p:ah) (s_:State) (u1:Int) (u3:Int) (i:Int)
abbrev CZ:Nat × TV:=(13,(Uj u4))
abbrev Oi:=((Es u2).set u0.toNat true)
abbrev acI:DV:=(aD none 1 af (Oi u2 u0))
abbrev yF:Nat × TV:=(14,(vD (acI u2 u0)))
abbrev amN:Nat × Option Ob:=(83,some (Xh p))
abbrev ajE:Nat × Option Ob:=(84,some (adX s_))
abbrev tJ:List (Nat × Option Ob):=[(o8 s_),(o6 s_),(o5 s_),(oO s_),(pq s_),(oZ s_),(o7 s_),(amN p),(ajE s_)]
abbrev G7:St:=⟨[(2,(vI u0)),(3,(vI u1)),(5,(vP 83 0)),(6,(vP 84 0)),(12,(vI u3)),(CZ u4),(yF u2 u0),(15,(vI i))],(tJ p s_)⟩
end
def zu (p:ah) (s_:State) (u0:Int) (u1:Int) (u2:(List Bool)):(Int × (List Int) × Int)→St:=
  fun zz=>match zz with|(u3,u4,i)=>(G7 u4 u2 u0 p s_ u1 u3 i)
section
variable (u0:Int) (u1:(List Int)) (s_:State)
abbrev ajF:St:=⟨[(12,(vI u0)),(CZ u1)],(jr s_)⟩
end
def zn (s_:State):(Int × (List Int))→St:=
  fun zz=>match zz with|(u0,u1)=>(ajF u0 u1 s_)
def GN (p:ah) (s_:State) (u0:Int) (u1:Int) (u2:(List Bool)):(aM (Int × (List Int) × Int) (Ex (Int × (List Int)) (Int × (List Int))))→Exit→St→Prop:=
  LQ 0 [] (zu p s_ u0 u1 u2) (zn s_) (uz s_)
section
variable (p:ah) (s_:State) (u0:Int) (u2:Int) (u1:(List Bool)) (i:Int) (u3:Int) (u4:(List Int)) (r_:Bool) (u5:(Int × (List Int))) (v1:Bool) (w0:(List Int))
abbrev afZ:List SV:=[(.agg (k3 p)),(.agg (Rm s_)),(sI u0),(sI u2),(sD (aD none 1 af u1))]
abbrev af7:=(au af (Oi u1 u0))
abbrev IK:Nat × TV:=(16,(ahM p i))
abbrev amh:St:=⟨[(2,(vI u0)),(3,(vI u2)),(5,(vP 83 0)),(6,(vP 84 0)),(12,(vI u3)),(CZ u4),(yF u1 u0),(15,(vI i)),(IK p i),(17,(vI (Jq p i)))],(tJ p s_)⟩
abbrev XG:=(decide ((Jq p i)<0))
abbrev XJ:=(bif (XG p i)then true else(at' (Oi u1 u0) (abO i p)))
abbrev aiC:St:=⟨[(2,(vI u0)),(3,(vI u2)),(5,(vP 83 0)),(6,(vP 84 0)),(12,(vI u3)),(CZ u4),(yF u1 u0),(15,(vI i)),(IK p i),(17,(vI (Jq p i))),(67,(vB (bif (XJ p u0 u1 i)then true else(!r_))))],(tJ p s_)⟩
abbrev ajA:=(ic [(2,(XG p i)),(8,(XJ p u0 u1 i))])
abbrev aiG:=(eqs (XG p i) 3 ((gP (ajA p u0 u1 i) [(2,false)]→All [(0:Int)≤(at' p.links i.toNat).a∧(at' p.links i.toNat).a<((Oi u1 u0).length:Int)])::(eqs (XG p i) 2 (eqs (XJ p u0 u1 i) 4 ((gP (ajA p u0 u1 i) [(8,false)]→All [Fn Tryz.prog 96 (QM p s_ i) (jr s_) (vB r_) (jr s_)])::(eqs (XJ p u0 u1 i) 2 []))))))
abbrev adn:St:=⟨[(2,(vI u0)),(3,(vI u2)),(5,(vP 83 0)),(6,(vP 84 0)),(12,(vI u3)),(CZ u4),(yF u1 u0),(15,(vI i)),(IK p i),(18,(vI u5.1)),(19,(vD (aD none 1 (aC .i64) u5.2)))],(tJ p s_)⟩
abbrev ajl:List SV:=[(.agg (k3 p)),(.agg (Rm s_)),(sI (Jq p i)),(sI u2),(sD (acI u1 u0))]
abbrev NU:TV:=(.iB [(sI u5.1),(sD (aD none 1 (aC .i64) u5.2))])
abbrev aeM:St:=⟨[(2,(vI u0)),(3,(vI u2)),(5,(vP 83 0)),(6,(vP 84 0)),(12,(vI u3)),(CZ u4),(yF u1 u0),(15,(vI i)),(IK p i),(18,(vI u5.1)),(19,(vD (aD none 1 (aC .i64) u5.2))),(78,(vB (decide (u5.1<0))))],(tJ p s_)⟩
abbrev aec:St:=⟨[(2,(vI u0)),(3,(vI u2)),(5,(vP 83 0)),(6,(vP 84 0)),(12,(vI u3)),(CZ u4),(yF u1 u0),(15,(vI i)),(IK p i),(18,(vI u5.1)),(19,(vD (aD none 1 (aC .i64) ([i]++u5.2))))],(tJ p s_)⟩
abbrev ady:=(yJ (au (aC .i64) [i]) [i].length (au (aC .i64) u5.2))
abbrev Uw:=(au (aC .i64) ([i]++u5.2))
abbrev acH:St:=⟨[(2,(vI u0)),(3,(vI u2)),(5,(vP 83 0)),(6,(vP 84 0)),(12,(vI u3)),(CZ u4),(yF u1 u0),(15,(vI i)),(IK p i),(18,(vI u5.1)),(19,(vD (aD none 1 (aC .i64) ([i]++u5.2)))),(94,(vB (bif (decide (u3<0))then true else v1)))],(tJ p s_)⟩
abbrev VG:=(IntKind.wrap .i64 (((at' p.links i.toNat).bK)+u5.1))
abbrev ac6:=(eqs (decide (u3<0)) 8 [gP (ic [(2,(decide (u3<0)))]) [(2,false)]→All [Fn Tryz.prog 116 [(sI (VG p i u5)),(sD (aD none 1 (aC .i64) ([i]++u5.2))),(sI u3),(sD (Fg u4))] [] (vB v1) []],(decide (u3<0))=(decide (u3<0))])
abbrev adq:St:=⟨[(2,(vI u0)),(3,(vI u2)),(5,(vP 83 0)),(6,(vP 84 0)),(12,(vI (VG p i u5))),(yF u1 u0),(15,(vI i)),(19,(vD (aD none 1 (aC .i64) ([i]++u5.2))))],(tJ p s_)⟩
abbrev adv:St:=⟨[(2,(vI u0)),(3,(vI u2)),(5,(vP 83 0)),(6,(vP 84 0)),(12,(vI (VG p i u5))),(13,(vD (aD none 1 (aC .i64) ([i]++u5.2)))),(yF u1 u0),(15,(vI i))],(tJ p s_)⟩
abbrev abg:=(decide ((Gs p i)<0))
abbrev ab3:=(bif (abg p i)then true else(at' (Oi u1 u0) (abu i p)))
abbrev alp:=(ic [(2,(abg p i)),(8,(ab3 p u0 u1 i))])
abbrev aaF:Nat × TV:=(15,(Am i))
abbrev yh:Nat × TV:=(11,(Uj w0))
end
theorem BJ (v8:ah→State→Int→Int→(List Bool)→Option (Int × (List Int))) (rec_ok: ∀(p:ah) (s_:State) (u0:Int) (u2:Int) (u1:(List Bool)) (r:(Int × (List Int))),v8 p s_ u0 u2 u1=some r→Fn Tryz.prog 89 (afZ p s_ u0 u2 u1) (jr s_) (.iB [(sI r.1),(sD (aD none 1 (aC .i64) r.2))]) (jr s_)) (p:ah) (s_:State) (u0:Int) (u2:Int) (u1:(List Bool)) {r:(Int × (List Int))} (h:lJ v8 p s_ u0 u2 u1=some r):Fn Tryz.prog 89 (afZ p s_ u0 u2 u1) (jr s_) (.iB [(sI r.1),(sD (aD none 1 (aC .i64) r.2))]) (jr s_):=by
 refine fN tT Tryz.func89 rfl rfl fun B=> ?_
 show bG _ _ _ _ _ _ ((uz s_) r) _
 unfold lJ at h
 refine sz tT ⟨[(2,(vI u0)),(3,(vI u2)),(Zo u1),(5,(vP 83 0)),(6,(vP 84 0))],(tJ p s_)⟩ {fr:=[(0,83),(1,84)] } [] ?_
 refine aQ (sz tT ⟨[(2,(vI u0)),(3,(vI u2)),(Zo u1),(5,(vP 83 0)),(6,(vP 84 0)),(22,(vB (decide (u0=u2))))],(tJ p s_)⟩ {} [] ?_)
 refine bI h (fun hb16 h=> ?_) (fun hb16 h=> ?_)
 ·refine ct hb16 ?_
  refine sz tT ⟨[(10,(vI 0)),(11,(vD nS))],(jr s_)⟩ {} [] ?_
  refine aI (bJ.le (st':=⟨[(10,(vI 0)),(11,Y3)],(jr s_)⟩) ⟨⟨tR,⟨_,rfl,fe.v (jB.one (bH.d dR.nil'))⟩,trivial⟩,(.refl _)⟩) ?_
  refine aR ?_
  obtain rfl:=oi h
  exact rl [(sI 0),(sD Yt)]
 ·refine cf hb16 ?_
  refine aP (sz tT ⟨[(2,(vI u0)),(3,(vI u2)),(Zo u1),(5,(vP 83 0)),(6,(vP 84 0)),(12,(vI (-1)))],(tJ p s_)⟩ {} [] ?_)
  refine sz tT ⟨[(2,(vI u0)),(3,(vI u2)),(Zo u1),(5,(vP 83 0)),(6,(vP 84 0)),(12,(vI (-1))),(13,(vD nS))],(tJ p s_)⟩ {} [] ?_
  refine aQ (aO h fun⟨a1,a2⟩ h=> ?_)
  refine rg tT ⟨[(2,(vI u0)),(3,(vI u2)),(5,(vP 83 0)),(6,(vP 84 0)),(12,(vI (-1))),(13,(vD nS)),(14,(vO 86 false ((Es u1).length)))],[(o8 s_),(o6 s_),(o5 s_),(oO s_),(pq s_),(oZ s_),(o7 s_),(amN p),(ajE s_),(86,some (aF 4 1 af (Es u1)))]⟩ [([]:List Bool).length=0,aT 0 1 (xL 1 []) (au af ([]:List Bool)),([]:List Bool).length=([]:List Bool).length,_,_,(Es u1).length=([]:List Bool).length+u1.length,aT (([]:List Bool).length+u1.length) 1 (yJ (au af ([]:List Bool)) ([]:List Bool).length (au af u1)) (abV u1)] {an:=[(0, .arr ([]:List Bool).length (au af ([]:List Bool))),(2, .arr (Es u1).length (abV u1))],fr:=[(0,85),(2,86)] } [] ⟨(rfl),((fun i hi=>absurd hi (Nat.not_lt_zero i))),rfl,a1,a2,(List.length_append),(dA _ _ _ _),trivial⟩ ?_
  refine aQ (aO h fun a1 h=> ?_)
  refine ri tT ⟨[(2,(vI u0)),(3,(vI u2)),(5,(vP 83 0)),(6,(vP 84 0)),(12,(vI (-1))),(13,(vD nS)),(14,(vD (.sl none 1 (Es u1).length (af7 u0 u1))))],(tJ p s_)⟩ [_,_,aT (Es u1).length 1 (lH (abV u1) u0.toNat 0 [(.bool true)]) (af7 u0 u1),(Es u1).length=(Es u1).length] {an:=[(3, .arr 0 (af7 u0 u1))] } [86] ⟨a1,(tL a1),(dD _ _ _ _ _ _ _ _ rfl (fun j hj=>(match j,hj with|0,_=>rfl))),rfl,trivial⟩ (bJ.le (st':=⟨[(2,(vI u0)),(3,(vI u2)),(5,(vP 83 0)),(6,(vP 84 0)),(12,(vI (-1))),(13,(vD nS)),(yF u1 u0)],(tJ p s_)⟩) ⟨⟨tR,tR,tR,tR,tR,tR,⟨_,rfl,fe.v (jB.one (bH.d (dR.slN (by simp only [List.length_set]) (.inr rfl) (fun _ _ _ _=> .refl _))))⟩,trivial⟩,(.refl _)⟩) ?_
  refine aQ (sz tT ⟨[(2,(vI u0)),(3,(vI u2)),(5,(vP 83 0)),(6,(vP 84 0)),(12,(vI (-1))),(13,(vD nS)),(yF u1 u0),(15,(vI 0))],(tJ p s_)⟩ {} [] ?_)
  refine bE h fun y1 hy h=> ?_
  refine aI (bJ.le (st':=⟨[(2,(vI u0)),(3,(vI u2)),(5,(vP 83 0)),(6,(vP 84 0)),(12,(vI (-1))),(13,Y3),(yF u1 u0),(15,(vI 0))],(tJ p s_)⟩) ⟨⟨tR,tR,tR,tR,tR,⟨_,rfl,fe.v (jB.one (bH.d dR.nil'))⟩,tR,tR,trivial⟩,(.refl _)⟩) ?_
  refine aL [] (zu p s_ u0 u2 u1) (zn s_) (uz s_) hy (fun s f h=> ?_) ?_
  ·clear hy
   show bG _ _ _ _ _ _ ((GN p s_ u0 u2 u1) f) _
   unfold lm at h
   obtain⟨u3,u4,i⟩:=s
   refine aQ (sz tT ⟨[(2,(vI u0)),(3,(vI u2)),(5,(vP 83 0)),(6,(vP 84 0)),(12,(vI u3)),(CZ u4),(yF u1 u0),(15,(vI i)),(33,(k48 p i))],(tJ p s_)⟩ {} [] ?_)
   refine bI h (fun hb15 h=> ?_) (fun hb15 h=> ?_)
   ·refine ct hb15 ?_
    refine aP (bE h fun y hy h=> ?_)
    refine Ju (o:=y) (fun zz=>match zz with|(u9,v0)=>(G7 v0 u1 u0 p s_ u2 u9 i)) ?_ ?_
    ·replace h:=hy
     clear hy
     refine aB (aQ (aO h fun a1 h=> ?_))
     refine rg tT ⟨[(2,(vI u0)),(3,(vI u2)),(5,(vP 83 0)),(6,(vP 84 0)),(12,(vI u3)),(CZ u4),(yF u1 u0),(15,(vI i)),(IK p i)],(tJ p s_)⟩ [_] {fr:=[(5,150)] } [150] ⟨a1,trivial⟩ ?_
     refine sz tT ⟨[(2,(vI u0)),(3,(vI u2)),(5,(vP 83 0)),(6,(vP 84 0)),(12,(vI u3)),(CZ u4),(yF u1 u0),(15,(vI i)),(IK p i),(17,(vI (-1)))],(tJ p s_)⟩ {} [] ?_
     refine aQ (sz tT ⟨[(2,(vI u0)),(3,(vI u2)),(5,(vP 83 0)),(6,(vP 84 0)),(12,(vI u3)),(CZ u4),(yF u1 u0),(15,(vI i)),(IK p i),(17,(vI (-1))),(44,(vB (Y8 p i u0)))],(tJ p s_)⟩ {} [] ?_)
     refine bI h (fun hb14 h=> ?_) (fun hb14 h=> ?_)
     ·refine ct hb14 ?_
      refine rz tT ⟨[(2,(vI u0)),(3,(vI u2)),(5,(vP 83 0)),(6,(vP 84 0)),(12,(vI u3)),(CZ u4),(yF u1 u0),(15,(vI i)),(IK p i),(17,(vI (Gs p i)))],(tJ p s_)⟩ {} [] ?_
      refine aQ (sz tT ⟨[(2,(vI u0)),(3,(vI u2)),(5,(vP 83 0)),(6,(vP 84 0)),(12,(vI u3)),(CZ u4),(yF u1 u0),(15,(vI i)),(IK p i),(17,(vI (Gs p i))),(50,(vB (decide ((Gs p i)=u0))))],(tJ p s_)⟩ {} [] ?_)
      refine bI h (fun hb6 h=> ?_) (fun hb6 h=> ?_)
      ·refine ct hb6 ?_
       refine rz tT (amh p s_ u0 u2 u1 i u3 u4) {} [] ?_
       refine aQ (aQ (bE h fun r_ hr_ h=> ?_))
       refine aO h fun a1 h=> ?_
       refine rg tT (aiC p s_ u0 u2 u1 i u3 u4 r_) (aiG p s_ u0 u1 i r_) {yb:=[(2,(XG p i)),(8,(XJ p u0 u1 i))],an:=[(12, .callR [0,1,2,3,4,5,6] (vB r_))] } [] (ae ⟨(fun hg=> ⟨(a1 (aU hg)),trivial⟩),(ae (ae ⟨(fun hg=> ⟨(Fn.DK (frz:=[0,1,2,3,4,5,6]) (p:=[s_.closed.length=s_.closed.length,s_.locked.length=s_.locked.length,s_.badLink.length=s_.badLink.length,s_.on_.length=s_.on_.length,s_.badSource.length=s_.badSource.length,s_.earthed.length=s_.earthed.length,s_.badBus.length=s_.badBus.length]) (jm p s_ i (fD hr_ (aU hg))) (by kernel_rfl) ⟨rfl,rfl,rfl,rfl,rfl,rfl,rfl,trivial⟩ rfl),trivial⟩),(ae trivial)⟩))⟩) ?_
       refine bI h (fun hb2 h=> ?_) (fun hb2 h=> ?_)
       ·refine ct hb2 ?_
        refine aI (fz (G7 u4 u1 u0 p s_ u2 u3 i) []) ?_
        refine aX ?_
        obtain rfl:=oi h
        exact⟨rfl,by kernel_rfl⟩
       ·refine cf hb2 ?_
        refine aP (aQ (bE h fun u5 hr_1 h=> ?_))
        refine rg tT (adn p s_ u0 u2 u1 i u3 u4 u5) [Fn Tryz.prog 89 (ajl p s_ u0 u2 u1 i) (jr s_) (NU u5) (jr s_)] {an:=[(5, .callR [0,1,2,3,4,5,6] (NU u5))] } [] ⟨(rec_ok p s_ (Jq p i) u2 (Oi u1 u0) _ hr_1),trivial⟩ ?_
        refine aQ (sz tT (aeM p s_ u0 u2 u1 i u3 u4 u5) {} [] ?_)
        refine bI h (fun hb1 h=> ?_) (fun hb1 h=> ?_)
        ·refine ct hb1 ?_
         refine aI (fz (G7 u4 u1 u0 p s_ u2 u3 i) []) ?_
         refine aX ?_
         obtain rfl:=oi h
         exact⟨rfl,by kernel_rfl⟩
        ·refine cf hb1 ?_
         refine aP (aQ (aO h fun⟨a1,a2⟩ h=> ?_))
         refine rg tT (aec p s_ u0 u2 u1 i u3 u4 u5) [[i].length=1,aT 1 1 (xL 1 [(.int .i64 i)]) (au (aC .i64) [i]),[i].length=[i].length,_,_,([i]++u5.2).length=[i].length+u5.2.length,aT ([i].length+u5.2.length) 1 (ady i u5) (Uw i u5),([i]++u5.2).length=([i]++u5.2).length] {an:=[(1, .arr [i].length (au (aC .i64) [i])),(3, .arr ([i]++u5.2).length (Uw i u5))],fr:=[(1,151),(3,152)] } [152] ⟨(rfl),((by intro i hi j hj;match i,j,hi,hj with|0,0,_,_=>rfl)),rfl,a1,a2,(List.length_append),(dA _ _ _ _),rfl,trivial⟩ ?_
         refine aQ (bE h fun v1 hr_2 h=> ?_)
         refine rg tT (acH p s_ u0 u2 u1 i u3 u4 u5 v1) (ac6 p i u3 u4 u5 v1) {yb:=[(2,(decide (u3<0)))],an:=[(10, .call [] (vB v1) [])] } [] (ae ⟨(fun hg=> ⟨(l9 (VG p i u5) ([i]++u5.2) u3 u4 (fD hr_2 (aU hg))),trivial⟩),rfl,trivial⟩) ?_
         refine bI h (fun hb h=> ?_) (fun hb h=> ?_)
         ·refine ct hb ?_
          refine sz tT (adq p s_ u0 u2 u1 i u5) {} [] ?_
          refine rz tT (adv p s_ u0 u2 u1 i u5) {} [] ?_
          obtain rfl:=oi h
          exact⟨rfl,by kernel_rfl⟩
         ·refine cf hb ?_
          refine aI (fz (G7 u4 u1 u0 p s_ u2 u3 i) []) ?_
          refine aP ?_
          obtain rfl:=oi h
          exact⟨rfl,by kernel_rfl⟩
      ·refine cf hb6 ?_
       refine aP (aQ (aQ (bE h fun v2 hr_3 h=> ?_)))
       refine aO h fun a1 h=> ?_
       refine rg tT ⟨[(2,(vI u0)),(3,(vI u2)),(5,(vP 83 0)),(6,(vP 84 0)),(12,(vI u3)),(CZ u4),(yF u1 u0),(15,(vI i)),(IK p i),(17,(vI (Gs p i))),(67,(vB (bif (ab3 p u0 u1 i)then true else(!v2))))],(tJ p s_)⟩ (eqs (abg p i) 3 ((gP (alp p u0 u1 i) [(2,false)]→All [(0:Int)≤(at' p.links i.toNat).b∧(at' p.links i.toNat).b<((Oi u1 u0).length:Int)])::(eqs (abg p i) 2 (eqs (ab3 p u0 u1 i) 4 ((gP (alp p u0 u1 i) [(8,false)]→All [Fn Tryz.prog 96 (QM p s_ i) (jr s_) (vB v2) (jr s_)])::(eqs (ab3 p u0 u1 i) 2 [])))))) {yb:=[(2,(abg p i)),(8,(ab3 p u0 u1 i))],an:=[(12, .callR [0,1,2,3,4,5,6] (vB v2))] } [] (ae ⟨(fun hg=> ⟨(a1 (aU hg)),trivial⟩),(ae (ae ⟨(fun hg=> ⟨(Fn.DK (frz:=[0,1,2,3,4,5,6]) (p:=[s_.closed.length=s_.closed.length,s_.locked.length=s_.locked.length,s_.badLink.length=s_.badLink.length,s_.on_.length=s_.on_.length,s_.badSource.length=s_.badSource.length,s_.earthed.length=s_.earthed.length,s_.badBus.length=s_.badBus.length]) (jm p s_ i (fD hr_3 (aU hg))) (by kernel_rfl) ⟨rfl,rfl,rfl,rfl,rfl,rfl,rfl,trivial⟩ rfl),trivial⟩),(ae trivial)⟩))⟩) ?_
       refine bI h (fun hb5 h=> ?_) (fun hb5 h=> ?_)
       ·refine ct hb5 ?_
        refine aI (fz (G7 u4 u1 u0 p s_ u2 u3 i) []) ?_
        refine aX ?_
        obtain rfl:=oi h
        exact⟨rfl,by kernel_rfl⟩
       ·refine cf hb5 ?_
        refine aP (aQ (bE h fun u6 hr_4 h=> ?_))
        refine rg tT (adn p s_ u0 u2 u1 i u3 u4 u6) [Fn Tryz.prog 89 [(.agg (k3 p)),(.agg (Rm s_)),(sI (Gs p i)),(sI u2),(sD (acI u1 u0))] (jr s_) (NU u6) (jr s_)] {an:=[(5, .callR [0,1,2,3,4,5,6] (NU u6))] } [] ⟨(rec_ok p s_ (Gs p i) u2 (Oi u1 u0) _ hr_4),trivial⟩ ?_
        refine aQ (sz tT (aeM p s_ u0 u2 u1 i u3 u4 u6) {} [] ?_)
        refine bI h (fun hb4 h=> ?_) (fun hb4 h=> ?_)
        ·refine ct hb4 ?_
         refine aI (fz (G7 u4 u1 u0 p s_ u2 u3 i) []) ?_
         refine aX ?_
         obtain rfl:=oi h
         exact⟨rfl,by kernel_rfl⟩
        ·refine cf hb4 ?_
         refine aP (aQ (aO h fun⟨a1,a2⟩ h=> ?_))
         refine rg tT (aec p s_ u0 u2 u1 i u3 u4 u6) [[i].length=1,aT 1 1 (xL 1 [(.int .i64 i)]) (au (aC .i64) [i]),[i].length=[i].length,_,_,([i]++u6.2).length=[i].length+u6.2.length,aT ([i].length+u6.2.length) 1 (ady i u6) (Uw i u6),([i]++u6.2).length=([i]++u6.2).length] {an:=[(1, .arr [i].length (au (aC .i64) [i])),(3, .arr ([i]++u6.2).length (Uw i u6))],fr:=[(1,153),(3,154)] } [154] ⟨(rfl),((by intro i hi j hj;match i,j,hi,hj with|0,0,_,_=>rfl)),rfl,a1,a2,(List.length_append),(dA _ _ _ _),rfl,trivial⟩ ?_
         refine aQ (bE h fun v3 hr_5 h=> ?_)
         refine rg tT (acH p s_ u0 u2 u1 i u3 u4 u6 v3) (ac6 p i u3 u4 u6 v3) {yb:=[(2,(decide (u3<0)))],an:=[(10, .call [] (vB v3) [])] } [] (ae ⟨(fun hg=> ⟨(l9 (VG p i u6) ([i]++u6.2) u3 u4 (fD hr_5 (aU hg))),trivial⟩),rfl,trivial⟩) ?_
         refine bI h (fun hb3 h=> ?_) (fun hb3 h=> ?_)
         ·refine ct hb3 ?_
          refine sz tT (adq p s_ u0 u2 u1 i u6) {} [] ?_
          refine rz tT (adv p s_ u0 u2 u1 i u6) {} [] ?_
          obtain rfl:=oi h
          exact⟨rfl,by kernel_rfl⟩
         ·refine cf hb3 ?_
          refine aI (fz (G7 u4 u1 u0 p s_ u2 u3 i) []) ?_
          refine aP ?_
          obtain rfl:=oi h
          exact⟨rfl,by kernel_rfl⟩
     ·refine cf hb14 ?_
      refine aP (aQ (sz tT ⟨[(2,(vI u0)),(3,(vI u2)),(5,(vP 83 0)),(6,(vP 84 0)),(12,(vI u3)),(CZ u4),(yF u1 u0),(15,(vI i)),(IK p i),(17,(vI (-1))),(50,(vB (decide ((Gs p i)=u0))))],(tJ p s_)⟩ {} [] ?_))
      refine bI h (fun hb13 h=> ?_) (fun hb13 h=> ?_)
      ·refine ct hb13 ?_
       refine rz tT (amh p s_ u0 u2 u1 i u3 u4) {} [] ?_
       refine aQ (aQ (bE h fun v4 hr_6 h=> ?_))
       refine aO h fun a1 h=> ?_
       refine rg tT (aiC p s_ u0 u2 u1 i u3 u4 v4) (aiG p s_ u0 u1 i v4) {yb:=[(2,(XG p i)),(8,(XJ p u0 u1 i))],an:=[(12, .callR [0,1,2,3,4,5,6] (vB v4))] } [] (ae ⟨(fun hg=> ⟨(a1 (aU hg)),trivial⟩),(ae (ae ⟨(fun hg=> ⟨(Fn.DK (frz:=[0,1,2,3,4,5,6]) (p:=[s_.closed.length=s_.closed.length,s_.locked.length=s_.locked.length,s_.badLink.length=s_.badLink.length,s_.on_.length=s_.on_.length,s_.badSource.length=s_.badSource.length,s_.earthed.length=s_.earthed.length,s_.badBus.length=s_.badBus.length]) (jm p s_ i (fD hr_6 (aU hg))) (by kernel_rfl) ⟨rfl,rfl,rfl,rfl,rfl,rfl,rfl,trivial⟩ rfl),trivial⟩),(ae trivial)⟩))⟩) ?_
       refine bI h (fun hb9 h=> ?_) (fun hb9 h=> ?_)
       ·refine ct hb9 ?_
        refine aI (fz (G7 u4 u1 u0 p s_ u2 u3 i) []) ?_
        refine aX ?_
        obtain rfl:=oi h
        exact⟨rfl,by kernel_rfl⟩
       ·refine cf hb9 ?_
        refine aP (aQ (bE h fun u7 hr_7 h=> ?_))
        refine rg tT (adn p s_ u0 u2 u1 i u3 u4 u7) [Fn Tryz.prog 89 (ajl p s_ u0 u2 u1 i) (jr s_) (NU u7) (jr s_)] {an:=[(5, .callR [0,1,2,3,4,5,6] (NU u7))] } [] ⟨(rec_ok p s_ (Jq p i) u2 (Oi u1 u0) _ hr_7),trivial⟩ ?_
        refine aQ (sz tT (aeM p s_ u0 u2 u1 i u3 u4 u7) {} [] ?_)
        refine bI h (fun hb8 h=> ?_) (fun hb8 h=> ?_)
        ·refine ct hb8 ?_
         refine aI (fz (G7 u4 u1 u0 p s_ u2 u3 i) []) ?_
         refine aX ?_
         obtain rfl:=oi h
         exact⟨rfl,by kernel_rfl⟩
        ·refine cf hb8 ?_
         refine aP (aQ (aO h fun⟨a1,a2⟩ h=> ?_))
         refine rg tT (aec p s_ u0 u2 u1 i u3 u4 u7) [[i].length=1,aT 1 1 (xL 1 [(.int .i64 i)]) (au (aC .i64) [i]),[i].length=[i].length,_,_,([i]++u7.2).length=[i].length+u7.2.length,aT ([i].length+u7.2.length) 1 (ady i u7) (Uw i u7),([i]++u7.2).length=([i]++u7.2).length] {an:=[(1, .arr [i].length (au (aC .i64) [i])),(3, .arr ([i]++u7.2).length (Uw i u7))],fr:=[(1,155),(3,156)] } [156] ⟨(rfl),((by intro i hi j hj;match i,j,hi,hj with|0,0,_,_=>rfl)),rfl,a1,a2,(List.length_append),(dA _ _ _ _),rfl,trivial⟩ ?_
         refine aQ (bE h fun v5 hr_8 h=> ?_)
         refine rg tT (acH p s_ u0 u2 u1 i u3 u4 u7 v5) (ac6 p i u3 u4 u7 v5) {yb:=[(2,(decide (u3<0)))],an:=[(10, .call [] (vB v5) [])] } [] (ae ⟨(fun hg=> ⟨(l9 (VG p i u7) ([i]++u7.2) u3 u4 (fD hr_8 (aU hg))),trivial⟩),rfl,trivial⟩) ?_
         refine bI h (fun hb7 h=> ?_) (fun hb7 h=> ?_)
         ·refine ct hb7 ?_
          refine sz tT (adq p s_ u0 u2 u1 i u7) {} [] ?_
          refine rz tT (adv p s_ u0 u2 u1 i u7) {} [] ?_
          obtain rfl:=oi h
          exact⟨rfl,by kernel_rfl⟩
         ·refine cf hb7 ?_
          refine aI (fz (G7 u4 u1 u0 p s_ u2 u3 i) []) ?_
          refine aP ?_
          obtain rfl:=oi h
          exact⟨rfl,by kernel_rfl⟩
      ·refine cf hb13 ?_
       refine aP (aQ (aQ (bE h fun v6 hr_9 h=> ?_)))
       refine rg tT ⟨[(2,(vI u0)),(3,(vI u2)),(5,(vP 83 0)),(6,(vP 84 0)),(12,(vI u3)),(CZ u4),(yF u1 u0),(15,(vI i)),(IK p i),(17,(vI (-1))),(67,(vB (bif (bif true then true else false)then true else(!v6))))],(tJ p s_)⟩ ((true=true)::(¬ gP (ic [(2,true),(8,(bif true then true else false))]) [(2,false)])::(true=true)::(¬ gP (ic [(2,true),(8,(bif true then true else false))]) [(2,false)])::(true=true)::(¬ gP (ic [(2,true),(8,(bif true then true else false))]) [(2,false)])::(true=true)::(¬ gP (ic [(2,true),(8,(bif true then true else false))]) [(2,false)])::(true=true)::(eqs (bif true then true else false) 4 ((gP (ic [(2,true),(8,(bif true then true else false))]) [(8,false)]→All [Fn Tryz.prog 96 (QM p s_ i) (jr s_) (vB v6) (jr s_)])::(eqs (bif true then true else false) 2 [])))) {yb:=[(2,true),(8,(bif true then true else false))],an:=[(3, .skip),(4, .skip),(5, .skip),(6, .skip),(12, .callR [0,1,2,3,4,5,6] (vB v6))] } [] ⟨(rfl),((fun h=>Bool.noConfusion (show true=false from h.1))),(rfl),((fun h=>Bool.noConfusion (show true=false from h.1))),(rfl),((fun h=>Bool.noConfusion (show true=false from h.1))),(rfl),((fun h=>Bool.noConfusion (show true=false from h.1))),(rfl),(ae ⟨(fun hg=> ⟨(Fn.DK (frz:=[0,1,2,3,4,5,6]) (p:=[s_.closed.length=s_.closed.length,s_.locked.length=s_.locked.length,s_.badLink.length=s_.badLink.length,s_.on_.length=s_.on_.length,s_.badSource.length=s_.badSource.length,s_.earthed.length=s_.earthed.length,s_.badBus.length=s_.badBus.length]) (jm p s_ i (fD hr_9 (aU hg))) (by kernel_rfl) ⟨rfl,rfl,rfl,rfl,rfl,rfl,rfl,trivial⟩ rfl),trivial⟩),(ae trivial)⟩)⟩ ?_
       refine bI h (fun hb12 h=> ?_) (fun hb12 h=> ?_)
       ·refine ct hb12 ?_
        refine aI (fz (G7 u4 u1 u0 p s_ u2 u3 i) []) ?_
        refine aX ?_
        obtain rfl:=oi h
        exact⟨rfl,by kernel_rfl⟩
       ·refine cf hb12 ?_
        refine aP (aQ (bE h fun u8 hr_10 h=> ?_))
        refine rg tT (adn p s_ u0 u2 u1 i u3 u4 u8) [Fn Tryz.prog 89 [(.agg (k3 p)),(.agg (Rm s_)),(sI (-1)),(sI u2),(sD (acI u1 u0))] (jr s_) (NU u8) (jr s_)] {an:=[(5, .callR [0,1,2,3,4,5,6] (NU u8))] } [] ⟨(rec_ok p s_ (-1) u2 (Oi u1 u0) _ hr_10),trivial⟩ ?_
        refine aQ (sz tT (aeM p s_ u0 u2 u1 i u3 u4 u8) {} [] ?_)
        refine bI h (fun hb11 h=> ?_) (fun hb11 h=> ?_)
        ·refine ct hb11 ?_
         refine aI (fz (G7 u4 u1 u0 p s_ u2 u3 i) []) ?_
         refine aX ?_
         obtain rfl:=oi h
         exact⟨rfl,by kernel_rfl⟩
        ·refine cf hb11 ?_
         refine aP (aQ (aO h fun⟨a1,a2⟩ h=> ?_))
         refine rg tT (aec p s_ u0 u2 u1 i u3 u4 u8) [[i].length=1,aT 1 1 (xL 1 [(.int .i64 i)]) (au (aC .i64) [i]),[i].length=[i].length,_,_,([i]++u8.2).length=[i].length+u8.2.length,aT ([i].length+u8.2.length) 1 (ady i u8) (Uw i u8),([i]++u8.2).length=([i]++u8.2).length] {an:=[(1, .arr [i].length (au (aC .i64) [i])),(3, .arr ([i]++u8.2).length (Uw i u8))],fr:=[(1,157),(3,158)] } [158] ⟨(rfl),((by intro i hi j hj;match i,j,hi,hj with|0,0,_,_=>rfl)),rfl,a1,a2,(List.length_append),(dA _ _ _ _),rfl,trivial⟩ ?_
         refine aQ (bE h fun v7 hr_11 h=> ?_)
         refine rg tT (acH p s_ u0 u2 u1 i u3 u4 u8 v7) (ac6 p i u3 u4 u8 v7) {yb:=[(2,(decide (u3<0)))],an:=[(10, .call [] (vB v7) [])] } [] (ae ⟨(fun hg=> ⟨(l9 (VG p i u8) ([i]++u8.2) u3 u4 (fD hr_11 (aU hg))),trivial⟩),rfl,trivial⟩) ?_
         refine bI h (fun hb10 h=> ?_) (fun hb10 h=> ?_)
         ·refine ct hb10 ?_
          refine sz tT (adq p s_ u0 u2 u1 i u8) {} [] ?_
          refine rz tT (adv p s_ u0 u2 u1 i u8) {} [] ?_
          obtain rfl:=oi h
          exact⟨rfl,by kernel_rfl⟩
         ·refine cf hb10 ?_
          refine aI (fz (G7 u4 u1 u0 p s_ u2 u3 i) []) ?_
          refine aP ?_
          obtain rfl:=oi h
          exact⟨rfl,by kernel_rfl⟩
    ·clear hy
     obtain⟨u9,v0⟩:=y
     refine rz tT ⟨[(2,(vI u0)),(3,(vI u2)),(5,(vP 83 0)),(6,(vP 84 0)),(12,(vI u9)),(CZ v0),(yF u1 u0),(aaF i)],(tJ p s_)⟩ {} [] ?_
     obtain rfl:=oi h
     exact lN
   ·refine cf hb15 ?_
    refine aI (fz (ajF u3 u4 s_) []) ?_
    refine aX ?_
    obtain rfl:=oi h
    exact lB
  ·clear hy
   cases y1 with
   |brk z=>
    obtain⟨v9,w0⟩:=z
    unfold fE
    refine⟨_, .refl, ?_⟩
    refine sz tT ⟨[(10,(vI v9)),(yh w0)],(jr s_)⟩ {} [] ?_
    refine aR ?_
    obtain rfl:=oi h
    exact rl [(sI v9),(sD (Fg w0))]
   |ret v=>
    obtain rfl:=oi h
    unfold fE
    intro e st hn ha hR
    cases e with
    |normal=>exact absurd rfl hn
    |exit id=>exact hR
    |goto l=>exact hR
    |ret=>exact hR
    |panic c=>exact hR
    |outgrown=>exact hR
theorem zy: ∀(n:Nat) (p:ah) (s_:State) (u0:Int) (u1:Int) (u2:(List Bool)) {r:(Int × (List Int))} (_:jE n p s_ u0 u1 u2=some r),Fn Tryz.prog 89 (afZ p s_ u0 u1 u2) (jr s_) (.iB [(sI r.1),(sD (aD none 1 (aC .i64) r.2))]) (jr s_)
 |0,_,_,_,_,_,_,h=>by cases h
 |n+1,p,s_,u0,u1,u2,_,h=>BJ (jE n) (fun p s_ u0 u1 u2 _ h=>zy n p s_ u0 u1 u2 h) p s_ u0 u1 u2 h
def pz (s_:State):((List Short) × Int)→Exit→St→Prop:=
  fun r=>aW TT [.tmp 6, .tmp 7] (.iB [(sD (aD none 4 Short.cell r.1)),(sI r.2)]) (jr s_)
section
variable (u0:(List Short)) (s_:State) (u1:Int) (p:ah) (k:Int)
abbrev Nz:Nat × TV:=(9,(vO 54 false u0.length))
abbrev TW:Nat × Option Ob:=(51,some (adX s_))
abbrev N7:List (Nat × Option Ob):=[(o8 s_),(o6 s_),(o5 s_),(oO s_),(pq s_),(oZ s_),(o7 s_),(TW s_),(54,some (aF 103 4 Short.cell u0))]
abbrev ac8:St:=⟨[(2,(vI u1)),(bB p),(4,(vP 51 0)),(Nz u0),(10,(vI k))],(N7 u0 s_)⟩
end
def uP (p:ah) (s_:State) (u1:Int):((List Short) × Int)→St:=
  fun zz=>match zz with|(u0,k)=>(ac8 u0 s_ u1 p k)
section
variable (u0:(List Short)) (s_:State)
abbrev aif:St:=⟨[(Nz u0)],[(o8 s_),(o6 s_),(o5 s_),(oO s_),(pq s_),(oZ s_),(o7 s_),(54,some (aF 103 4 Short.cell u0))]⟩
end
def uI (s_:State):(List Short)→St:=
  fun u0=>(aif u0 s_)
def Dm (p:ah) (s_:State) (u0:Int):(aM ((List Short) × Int) (Ex (List Short) ((List Short) × Int)))→Exit→St→Prop:=
  LQ 0 [] (uP p s_ u0) (uI s_) (pz s_)
section
variable (s_:State) (u0:(Int × (List Int))) (p:ah) (k:Int) (u1:(List Short))
abbrev XL:List (Nat × Option Ob):=[(o8 s_),(o6 s_),(o5 s_),(oO s_),(pq s_),(oZ s_),(o7 s_),(TW s_)]
abbrev YP:Nat × TV:=(12,(vD (aD none 1 (aC .i64) u0.2)))
abbrev U9:=(IntKind.wrap .i64 (u0.1+((at' p.sources k.toNat).bK)))
abbrev aeN:Nat × TV:=(13,(vI (U9 u0 p k)))
abbrev acp:=(IntKind.wrap .i64 (Int.tdiv (400000:Int) (U9 u0 p k)))
abbrev akI:Nat × TV:=(14,(vI (acp u0 p k)))
abbrev agI:=(IntKind.wrap .i64 ((acp u0 p k)+1))
abbrev Y7:=(⟨k,(U9 u0 p k),(agI u0 p k),u0.2⟩:Short)
abbrev aaP:=(u1++[(Y7 u0 p k)])
abbrev aly:=((aaP u0 p k u1).length)
abbrev alS:Ob:=(aF 103 4 Short.cell (aaP u0 p k u1))
abbrev aht:=(au Short.cell [(Y7 u0 p k)])
abbrev ajB:=(au Short.cell (aaP u0 p k u1))
abbrev X8:=(⟨k,(U9 u0 p k),(acp u0 p k),u0.2⟩:Short)
abbrev abl:=(u1++[(X8 u0 p k)])
abbrev aiY:=((abl u0 p k u1).length)
abbrev amV:Ob:=(aF 103 4 Short.cell (abl u0 p k u1))
abbrev agL:=(au Short.cell [(X8 u0 p k)])
abbrev aj7:=(au Short.cell (abl u0 p k u1))
end
theorem Dv (p:ah) (s_:State) (u2:Int) {r:((List Short) × Int)} (h:nU p s_ u2=some r):Fn Tryz.prog 39 (QM p s_ u2) (jr s_) (.iB [(sD (aD none 4 Short.cell r.1)),(sI r.2)]) (jr s_):=by
 refine fN tT Tryz.func39 rfl rfl fun B=> ?_
 show bG _ _ _ _ _ _ ((pz s_) r) _
 unfold nU at h
 refine sz tT ⟨[(2,(vI u2)),(bB p),(4,(vP 51 0))],(XL s_)⟩ {fr:=[(0,50),(1,51)] } [50] ?_
 refine aQ (bE h fun r_ hr_ h=> ?_)
 refine rg tT ⟨[(2,(vI u2)),(bB p),(4,(vP 51 0)),(8,(vI r_))],(XL s_)⟩ [Fn Tryz.prog 38 (alT s_ p) (jr s_) (vI r_) (jr s_)] {an:=[(2, .callR [0,1,2,3,4,5,6] (vI r_))] } [] ⟨(Fn.DK (frz:=[0,1,2,3,4,5,6]) (p:=[s_.closed.length=s_.closed.length,s_.locked.length=s_.locked.length,s_.badLink.length=s_.badLink.length,s_.on_.length=s_.on_.length,s_.badSource.length=s_.badSource.length,s_.earthed.length=s_.earthed.length,s_.badBus.length=s_.badBus.length]) (nA p s_ hr_) (by kernel_rfl) ⟨rfl,rfl,rfl,rfl,rfl,rfl,rfl,trivial⟩ rfl),trivial⟩ ?_
 refine aQ (sz tT ⟨[(2,(vI u2)),(bB p),(4,(vP 51 0)),(8,(vI r_)),(19,(vB (!decide (r_=0))))],(XL s_)⟩ {} [] ?_)
 refine bI h (fun hb5 h=> ?_) (fun hb5 h=> ?_)
 ·refine ct hb5 ?_
  refine sz tT (ajd s_ r_) {} [] ?_
  refine aI (bJ.le (st':=(alm s_ r_)) ⟨⟨⟨_,rfl,fe.v (jB.one (bH.d dR.nil'))⟩,tR,trivial⟩,(.refl _)⟩) ?_
  refine aR ?_
  obtain rfl:=oi h
  exact rl [(sD (aD none 4 Short.cell ([]:List Short))),(sI r_)]
 ·refine cf hb5 ?_
  refine aP (aQ (sg tT ⟨[(2,(vI u2)),(bB p),(4,(vP 51 0)),(28,(adQ p u2))],(XL s_)⟩ (eqs (decide (u2<0)) 5 []) {yb:=[(2,(decide (u2<0)))] } [] (ae trivial) ?_))
  refine bI h (fun hb4 h=> ?_) (fun hb4 h=> ?_)
  ·refine ct hb4 ?_
   refine sz tT (alQ s_) {} [] ?_
   refine aI (bJ.le (st':=(ama s_)) ⟨⟨⟨_,rfl,fe.v (jB.one (bH.d dR.nil'))⟩,tR,trivial⟩,(.refl _)⟩) ?_
   refine aR ?_
   obtain rfl:=oi h
   exact rl [(sD (aD none 4 Short.cell ([]:List Short))),(sI 1)]
  ·refine cf hb4 ?_
   refine aP (sz tT ⟨[(2,(vI u2)),(bB p),(4,(vP 51 0)),(9,(vD nS))],(XL s_)⟩ {} [] ?_)
   refine aQ (sz tT ⟨[(2,(vI u2)),(bB p),(4,(vP 51 0)),(9,(vD nS)),(10,(vI 0))],(XL s_)⟩ {} [] ?_)
   refine bE h fun y1 hy h=> ?_
   refine aI (.trans (bJ.Er (t:=9) (b:=92) (esz0:=0) (el0:=fun _ _=> .nilp) (E:=103) (esz:=4) (el:=au Short.cell ([]:List Short)) (by kernel_rfl) (by kernel_rfl)) (.trans (bJ.fin (st':=⟨[(2,(vI u2)),(bB p),(4,(vP 51 0)),(9,(vO 54 false 0)),(10,(vI 0))],[(o8 s_),(o6 s_),(o5 s_),(oO s_),(pq s_),(oZ s_),(o7 s_),(TW s_),(54,some (.arr 103 4 0 (au Short.cell ([]:List Short))))]⟩) (cs:=[]) ⟨[],[(0,0),(1,1),(2,2),(3,3),(4,4),(5,5),(6,6),(51,51),(92,54)]⟩ [2,3,4,9,10] (by kernel_rfl) trivial) (bJ.le (st':=⟨[(2,(vI u2)),(bB p),(4,(vP 51 0)),(9,(vO 54 false (([]:List Short).length))),(10,(vI 0))],[(o8 s_),(o6 s_),(o5 s_),(oO s_),(pq s_),(oZ s_),(o7 s_),(TW s_),(54,some (aF 103 4 Short.cell ([]:List Short)))]⟩) ⟨⟨tR,tR,tR,⟨_,rfl,fe.v (jB.one cW)⟩,tR,trivial⟩,(hN 8 ⟨rfl,oW,trivial⟩)⟩))) ?_
   refine aL [] (uP p s_ u2) (uI s_) (pz s_) hy (fun s f h=> ?_) ?_
   ·clear hy
    show bG _ _ _ _ _ _ ((Dm p s_ u2) f) _
    unfold eu at h
    obtain⟨u1,k⟩:=s
    refine aQ (aQ (aO h fun a1 h=> ?_))
    refine rg tT ⟨[(2,(vI u2)),(bB p),(4,(vP 51 0)),(Nz u1),(10,(vI k)),(41,(vB (bif (k37 p k)then(!(at' s_.badBus u2.toNat))else false)))],(N7 u1 s_)⟩ (eqs (k37 p k) 4 ((gP (ic [(5,(k37 p k))]) [(5,true)]→All [(0:Int)≤u2∧u2<(s_.badBus.length:Int)])::((k37 p k)=(k37 p k))::(gP (ic [(5,(k37 p k))]) [(5,true)]→All [u2.toNat<s_.badBus.length])::(eqs (k37 p k) 2 []))) {yb:=[(5,(k37 p k))] } [] (ae ⟨(fun hg=> ⟨(a1 (aU hg)),trivial⟩),rfl,(fun hg=> ⟨((fun hq=>tL (a1 hq)) (aU hg)),trivial⟩),(ae trivial)⟩) ?_
    refine bI h (fun hb3 h=> ?_) (fun hb3 h=> ?_)
    ·refine ct hb3 ?_
     refine aP (bE h fun y hy h=> ?_)
     refine Ju (o:=y) (fun u3=>(ac8 u3 s_ u2 p k)) ?_ ?_
     ·replace h:=hy
      clear hy
      refine aB (aQ (aQ (bE h fun u5 hr_1 h=> ?_)))
      refine rg tT ⟨[(2,(vI u2)),(bB p),(4,(vP 51 0)),(Nz u1),(10,(vI k)),(48,(vB (!u5)))],(N7 u1 s_)⟩ [Fn Tryz.prog 88 (QM p s_ k) (jr s_) (vB u5) (jr s_)] {an:=[(3, .callR [0,1,2,3,4,5,6] (vB u5))] } [] ⟨(Fn.DK (frz:=[0,1,2,3,4,5,6]) (p:=[s_.closed.length=s_.closed.length,s_.locked.length=s_.locked.length,s_.badLink.length=s_.badLink.length,s_.on_.length=s_.on_.length,s_.badSource.length=s_.badSource.length,s_.earthed.length=s_.earthed.length,s_.badBus.length=s_.badBus.length]) (AR p s_ k hr_1) (by kernel_rfl) ⟨rfl,rfl,rfl,rfl,rfl,rfl,rfl,trivial⟩ rfl),trivial⟩ ?_
      refine bI h (fun hb2 h=> ?_) (fun hb2 h=> ?_)
      ·refine ct hb2 ?_
       refine aI (fz (ac8 u1 s_ u2 p k) []) ?_
       refine aX ?_
       obtain rfl:=oi h
       exact⟨rfl,by kernel_rfl⟩
      ·refine cf hb2 ?_
       refine aP (aQ (bE h fun u0 hr_2 h=> ?_))
       refine aO h fun⟨a1,a2,a3,a4⟩ h=> ?_
       refine dg tT mX ⟨[(2,(vI u2)),(bB p),(4,(vP 51 0)),(Nz u1),(10,(vI k)),(11,(vI u0.1)),(YP u0)],(N7 u1 s_)⟩ [_,_,(p.buses:Int)=p.buses,_,_,(Dr p).length=p.buses.toNat,aT p.buses.toNat 1 (fun _ j=>[(.bool false)].getD j .nilp) (QR p),Fn Tryz.prog 89 [(.agg (k3 p)),(.agg (Rm s_)),(sI (ZJ p k)),(sI u2),(sD (aD (some true) 1 af (Dr p)))] (jr s_) (NU u0) (jr s_)] {an:=[(11, .frz (Dr p).length (QR p)),(12, .callR [0,1,2,3,4,5,6] (NU u0))],fr:=[(11,87)] } [] ⟨a1,a2,rfl,a3,a4,(List.length_replicate),(iZ _ _ _ _ _ (fun j hj=>(match j,hj with|0,_=>rfl))),(Fn.leH (args:=[(.agg (k3 p)),(.agg (Rm s_)),(sI (ZJ p k)),(sI u2),(sD (aD none 1 af (Dr p)))]) (hin:=(jr s_)) (zy FUEL p s_ (ZJ p k) u2 (Dr p) hr_2) ⟨jB.refl _,jB.refl _,jB.refl _,jB.refl _,jB.one (bH.d dR.nI),trivial⟩ (.refl _)),trivial⟩ ?_
       refine aQ (sz tT ⟨[(2,(vI u2)),(bB p),(4,(vP 51 0)),(Nz u1),(10,(vI k)),(11,(vI u0.1)),(YP u0),(66,(vB (decide (u0.1<0))))],(N7 u1 s_)⟩ {} [] ?_)
       refine bI h (fun hb1 h=> ?_) (fun hb1 h=> ?_)
       ·refine ct hb1 ?_
        refine aI (fz (ac8 u1 s_ u2 p k) []) ?_
        refine aX ?_
        obtain rfl:=oi h
        exact⟨rfl,by kernel_rfl⟩
       ·refine cf hb1 ?_
        refine aP (aQ (aO h fun a1 h=> ?_))
        refine rg tT ⟨[(2,(vI u2)),(bB p),(4,(vP 51 0)),(Nz u1),(10,(vI k)),(YP u0),(aeN u0 p k)],(N7 u1 s_)⟩ [_] {} [] ⟨a1,trivial⟩ ?_
        refine aQ (aO h fun a1 h=> ?_)
        refine rg tT ⟨[(2,(vI u2)),(bB p),(4,(vP 51 0)),(Nz u1),(10,(vI k)),(YP u0),(aeN u0 p k),(akI u0 p k)],(N7 u1 s_)⟩ [_] {} [] ⟨a1,trivial⟩ ?_
        refine aQ (sz tT ⟨[(2,(vI u2)),(bB p),(4,(vP 51 0)),(Nz u1),(10,(vI k)),(YP u0),(aeN u0 p k),(akI u0 p k),(80,(vB (decide ((IntKind.wrap .i64 ((acp u0 p k)*(U9 u0 p k)))<400000))))],(N7 u1 s_)⟩ {} [] ?_)
        refine bI h (fun hb h=> ?_) (fun hb h=> ?_)
        ·refine ct hb ?_
         refine rz tT ⟨[(2,(vI u2)),(bB p),(4,(vP 51 0)),(Nz u1),(10,(vI k)),(YP u0),(aeN u0 p k),(14,(vI (agI u0 p k)))],(N7 u1 s_)⟩ {} [] ?_
         refine aO h fun⟨a1,a2⟩ h=> ?_
         refine ri tT ⟨[(2,(vI u2)),(bB p),(4,(vP 51 0)),(9,(vO 89 false (aly u0 p k u1))),(10,(vI k))],[(o8 s_),(o6 s_),(o5 s_),(oO s_),(pq s_),(oZ s_),(o7 s_),(TW s_),(89,some (alS u0 p k u1))]⟩ [[(Y7 u0 p k)].length=1,aT 1 4 (xL 4 [(.int .i64 k),(.int .i64 (U9 u0 p k)),(.int .i64 (agI u0 p k)),(aD none 1 (aC .i64) u0.2)]) (aht u0 p k),u1.length=u1.length,_,_,(aaP u0 p k u1).length=u1.length+[(Y7 u0 p k)].length,aT (u1.length+[(Y7 u0 p k)].length) 4 (yJ (au Short.cell u1) u1.length (aht u0 p k)) (ajB u0 p k u1)] {an:=[(6, .arr [(Y7 u0 p k)].length (aht u0 p k)),(7, .arr (aaP u0 p k u1).length (ajB u0 p k u1))],fr:=[(6,88),(7,89)] } [] ⟨(rfl),((by intro i hi j hj;match i,j,hi,hj with|0,0,_,_=>rfl|0,1,_,_=>rfl|0,2,_,_=>rfl|0,3,_,_=>rfl)),rfl,a1,a2,(List.length_append),(dA _ _ _ _),trivial⟩ (bJ.fin (st':=⟨[(2,(vI u2)),(bB p),(4,(vP 51 0)),(9,(vO 54 false (aly u0 p k u1))),(10,(vI k))],[(o8 s_),(o6 s_),(o5 s_),(oO s_),(pq s_),(oZ s_),(o7 s_),(TW s_),(54,some (alS u0 p k u1))]⟩) (cs:=[]) ⟨[],[(0,0),(1,1),(2,2),(3,3),(4,4),(5,5),(6,6),(51,51),(89,54)]⟩ [2,3,4,9,10] (by kernel_rfl) trivial) ?_
         obtain rfl:=oi h
         exact⟨rfl,by kernel_rfl⟩
        ·refine cf hb ?_
         refine aP (aO h fun⟨a1,a2⟩ h=> ?_)
         refine ri tT ⟨[(2,(vI u2)),(bB p),(4,(vP 51 0)),(9,(vO 91 false (aiY u0 p k u1))),(10,(vI k))],[(o8 s_),(o6 s_),(o5 s_),(oO s_),(pq s_),(oZ s_),(o7 s_),(TW s_),(91,some (amV u0 p k u1))]⟩ [[(X8 u0 p k)].length=1,aT 1 4 (xL 4 [(.int .i64 k),(.int .i64 (U9 u0 p k)),(.int .i64 (acp u0 p k)),(aD none 1 (aC .i64) u0.2)]) (agL u0 p k),u1.length=u1.length,_,_,(abl u0 p k u1).length=u1.length+[(X8 u0 p k)].length,aT (u1.length+[(X8 u0 p k)].length) 4 (yJ (au Short.cell u1) u1.length (agL u0 p k)) (aj7 u0 p k u1)] {an:=[(6, .arr [(X8 u0 p k)].length (agL u0 p k)),(7, .arr (abl u0 p k u1).length (aj7 u0 p k u1))],fr:=[(6,90),(7,91)] } [] ⟨(rfl),((by intro i hi j hj;match i,j,hi,hj with|0,0,_,_=>rfl|0,1,_,_=>rfl|0,2,_,_=>rfl|0,3,_,_=>rfl)),rfl,a1,a2,(List.length_append),(dA _ _ _ _),trivial⟩ (bJ.fin (st':=⟨[(2,(vI u2)),(bB p),(4,(vP 51 0)),(9,(vO 54 false (aiY u0 p k u1))),(10,(vI k))],[(o8 s_),(o6 s_),(o5 s_),(oO s_),(pq s_),(oZ s_),(o7 s_),(TW s_),(54,some (amV u0 p k u1))]⟩) (cs:=[]) ⟨[],[(0,0),(1,1),(2,2),(3,3),(4,4),(5,5),(6,6),(51,51),(91,54)]⟩ [2,3,4,9,10] (by kernel_rfl) trivial) ?_
         obtain rfl:=oi h
         exact⟨rfl,by kernel_rfl⟩
     ·clear hy
      obtain⟨u3,rfl⟩: ∃q,q=y:=⟨_,rfl⟩
      refine rz tT ⟨[(2,(vI u2)),(bB p),(4,(vP 51 0)),(Nz u3),(adM k)],(N7 u3 s_)⟩ {} [] ?_
      obtain rfl:=oi h
      exact lN
    ·refine cf hb3 ?_
     refine aI (fz (aif u1 s_) []) ?_
     refine aX ?_
     obtain rfl:=oi h
     exact lB
   ·clear hy
    cases y1 with
    |brk z=>
     obtain⟨u4,rfl⟩: ∃q,q=z:=⟨_,rfl⟩
     unfold fE
     refine⟨_, .refl, ?_⟩
     refine sg tT (amH s_ u4) [u4.length=u4.length] {} [54] ⟨rfl,trivial⟩ ?_
     refine aR ?_
     obtain rfl:=oi h
     exact rl [(sD (aD none 4 Short.cell u4)),(sI 0)]
    |ret v=>
     obtain rfl:=oi h
     unfold fE
     intro e st hn ha hR
     cases e with
     |normal=>exact absurd rfl hn
     |exit id=>exact hR
     |goto l=>exact hR
     |ret=>exact hR
     |panic c=>exact hR
     |outgrown=>exact hR
def qw  :Bool→Exit→St→Prop:=
  fun r=>aW TT [.tmp 4] (vB r) []
section
variable (b:(List Bool))
abbrev VE:Nat × TV:=(1,(vD (aD none 1 af b)))
end
def wu (a:(List Bool)) (b:(List Bool)):Int→St:=
  fun i=> ⟨[(Rl a),(VE b),(5,(vI i))],[]⟩
def vV  :Unit→St:=
  fun _=> ⟨[],[]⟩
def Fb (a:(List Bool)) (b:(List Bool)):(aM Int (Ex Unit Bool))→Exit→St→Prop:=
  LQ 0 [] (wu a b) vV qw
theorem fw (a:(List Bool)) (b:(List Bool)) {r:Bool} (h:dF a b=some r):Fn Tryz.prog 52 [(sD (aD none 1 af a)),(sD (aD none 1 af b))] [] (vB r) []:=by
 refine fN tT Tryz.func52 rfl rfl fun B=> ?_
 show bG _ _ _ _ _ _ (qw r) _
 unfold dF at h
 refine sz tT ⟨[(Rl a),(VE b)],[]⟩ {} [] ?_
 refine aQ (sz tT ⟨[(Rl a),(VE b),(10,(vB (!decide ((a.length:Int)=(b.length:Int)))))],[]⟩ {} [] ?_)
 refine bI h (fun hb2 h=> ?_) (fun hb2 h=> ?_)
 ·refine ct hb2 ?_
  refine sz tT ⟨[(4,(vB false))],[]⟩ {} [] ?_
  refine aR ?_
  obtain rfl:=oi h
  exact rl [(sB false)]
 ·refine cf hb2 ?_
  refine aP (aQ (sz tT ⟨[(Rl a),(VE b),(5,(vI 0))],[]⟩ {} [] ?_))
  refine bE h fun y hy h=> ?_
  refine aL [] (wu a b) vV qw hy (fun s f h=> ?_) ?_
  ·clear hy
   show bG _ _ _ _ _ _ ((Fb a b) f) _
   unfold jo at h
   obtain⟨i,rfl⟩: ∃q,q=s:=⟨_,rfl⟩
   refine aQ (sz tT ⟨[(Rl a),(VE b),(5,(vI i)),(14,(vB (decide (i<(a.length:Int)))))],[]⟩ {} [] ?_)
   refine bI h (fun hb1 h=> ?_) (fun hb1 h=> ?_)
   ·refine ct hb1 ?_
    refine aP (aQ (aB (aQ (aO h fun⟨a1,a2⟩ h=> ?_))))
    refine dg tT mX ⟨[(Rl a),(VE b),(5,(vI i)),(25,(vB (!((at' a i.toNat)==(at' b i.toNat)))))],[]⟩ [_,_] {} [] ⟨a1,a2,trivial⟩ ?_
    refine bI h (fun hb h=> ?_) (fun hb h=> ?_)
    ·refine ct hb ?_
     refine sz tT ⟨[(4,(vB false))],[]⟩ {} [] ?_
     refine aR ?_
     obtain rfl:=oi h
     exact lR bY (dm 0) bZ (aW.mk (.inr rfl) (p:=[]) (l:=[(sB false)]) (by kernel_rfl) trivial (fe.refl _) trivial)
    ·refine cf hb ?_
     refine aP (rz tT ⟨[(Rl a),(VE b),(k30 i)],[]⟩ {} [] ?_)
     obtain rfl:=oi h
     exact lN
   ·refine cf hb1 ?_
    refine aI (fz ⟨[],[]⟩ []) ?_
    refine aX ?_
    obtain rfl:=oi h
    exact lB
  ·clear hy
   cases y with
   |brk z=>
    unfold fE
    refine⟨_, .refl, ?_⟩
    refine sz tT ⟨[(4,(vB true))],[]⟩ {} [] ?_
    refine aR ?_
    obtain rfl:=oi h
    exact rl [(sB true)]
   |ret v=>
    obtain rfl:=oi h
    unfold fE
    intro e st hn ha hR
    cases e with
    |normal=>exact absurd rfl hn
    |exit id=>exact hR
    |goto l=>exact hR
    |ret=>exact hR
    |panic c=>exact hR
    |outgrown=>exact hR
def Ii  :Bool→Exit→St→Prop:=
  fun r=>aW TT [.tmp 4] (vB r) []
section
variable (a:State) (b:State) (r_:Bool) (u0:Bool) (u1:Bool) (u2:Bool) (u3:Bool) (u4:Bool) (u5:Bool)
abbrev aj8:List SV:=[(.agg (Rx a)),(.agg (Rx b))]
abbrev Zj:=(bif (k78 r_ u0 u1 u2 u3)then u4 else false)
abbrev amn:=(bif (Zj r_ u0 u1 u2 u3 u4)then u5 else false)
abbrev Zp:=(ic [(5,r_),(12,(NP r_ u0)),(19,(k80 r_ u0 u1)),(26,(k79 r_ u0 u1 u2)),(33,(k78 r_ u0 u1 u2 u3)),(40,(Zj r_ u0 u1 u2 u3 u4))])
end
theorem xJ (a:State) (b:State) {r:Bool} (h:gW a b=some r):Fn Tryz.prog 20 (aj8 a b) [] (vB r) []:=by
 refine fN tT Tryz.func20 rfl rfl fun B=> ?_
 show bG _ _ _ _ _ _ (Ii r) _
 unfold gW at h
 refine sz tT ⟨[(2,(Y2 a)),(dS b)],[]⟩ {fr:=[(0,2),(1,3)] } [2,3] ?_
 refine aQ (bE h fun r_ hr_ h=> ?_)
 refine bE h fun u0 hr_1 h=> ?_
 refine bE h fun u1 hr_2 h=> ?_
 refine bE h fun u2 hr_3 h=> ?_
 refine bE h fun u3 hr_4 h=> ?_
 refine bE h fun u4 hr_5 h=> ?_
 refine bE h fun u5 hr_6 h=> ?_
 have q0:=fw a.closed b.closed hr_
 refine rg tT ⟨[(4,(vB (amn r_ u0 u1 u2 u3 u4 u5)))],[]⟩ (_::(eqs r_ 5 ((gP (Zp r_ u0 u1 u2 u3 u4) [(5,true)]→All [Fn Tryz.prog 52 [(sD (KF a)),(sD (KF b))] [] (vB u0) []])::(r_=r_)::(eqs (NP r_ u0) 5 ((gP (Zp r_ u0 u1 u2 u3 u4) [(12,true)]→All [Fn Tryz.prog 52 [(sD (MP a)),(sD (MP b))] [] (vB u1) []])::((NP r_ u0)=(NP r_ u0))::(eqs (k80 r_ u0 u1) 5 ((gP (Zp r_ u0 u1 u2 u3 u4) [(19,true)]→All [Fn Tryz.prog 52 [(sD (Ht a)),(sD (Ht b))] [] (vB u2) []])::(k83 r_ u0 u1)::(eqs (k79 r_ u0 u1 u2) 5 ((gP (Zp r_ u0 u1 u2 u3 u4) [(26,true)]→All [Fn Tryz.prog 52 [(sD (Jy a)),(sD (Jy b))] [] (vB u3) []])::((k79 r_ u0 u1 u2)=(k79 r_ u0 u1 u2))::(eqs (k78 r_ u0 u1 u2 u3) 5 ((gP (Zp r_ u0 u1 u2 u3 u4) [(33,true)]→All [Fn Tryz.prog 52 [(sD (EW a)),(sD (EW b))] [] (vB u4) []])::((k78 r_ u0 u1 u2 u3)=(k78 r_ u0 u1 u2 u3))::(eqs (Zj r_ u0 u1 u2 u3 u4) 5 [gP (Zp r_ u0 u1 u2 u3 u4) [(40,true)]→All [Fn Tryz.prog 52 [(sD (Ga a)),(sD (Ga b))] [] (vB u5) []],(Zj r_ u0 u1 u2 u3 u4)=(Zj r_ u0 u1 u2 u3 u4)])))))))))))) {yb:=[(5,r_),(12,(NP r_ u0)),(19,(k80 r_ u0 u1)),(26,(k79 r_ u0 u1 u2)),(33,(k78 r_ u0 u1 u2 u3)),(40,(Zj r_ u0 u1 u2 u3 u4))],an:=[(4,cA q0 []),(10, .call [] (vB u0) []),(17, .call [] (vB u1) []),(24, .call [] (vB u2) []),(31, .call [] (vB u3) []),(38, .call [] (vB u4) []),(45, .call [] (vB u5) [])] } [] ⟨q0,(ae ⟨(fun hg=> ⟨(fw a.locked b.locked (fD hr_1 (aU hg))),trivial⟩),rfl,(ae ⟨(fun hg=> ⟨(fw a.badLink b.badLink (fD hr_2 (aU hg))),trivial⟩),rfl,(ae ⟨(fun hg=> ⟨(fw a.on_ b.on_ (fD hr_3 (aU hg))),trivial⟩),rfl,(ae ⟨(fun hg=> ⟨(fw a.badSource b.badSource (fD hr_4 (aU hg))),trivial⟩),rfl,(ae ⟨(fun hg=> ⟨(fw a.earthed b.earthed (fD hr_5 (aU hg))),trivial⟩),rfl,(ae ⟨(fun hg=> ⟨(fw a.badBus b.badBus (fD hr_6 (aU hg))),trivial⟩),rfl,trivial⟩)⟩)⟩)⟩)⟩)⟩)⟩ ?_
 refine aR ?_
 obtain rfl:=oi h
 exact rl [(sB (amn r_ u0 u1 u2 u3 u4 u5))]
def yc  :Bool→Exit→St→Prop:=
  fun r=>aW TT [.tmp 4] (vB r) []
section
variable (a:bg) (b:aj)
abbrev V6:Nat × TV:=(2,(vD (oL [(aD none 2 Event.cell a.events),(.bool a.cleared),(.int .i64 a.millis),(.int .i64 a.energy),(aD none 1 af a.state.closed),(aD none 1 af a.state.locked),(aD none 1 af a.state.badLink),(aD none 1 af a.state.on_),(aD none 1 af a.state.badSource),(aD none 1 af a.state.earthed),(aD none 1 af a.state.badBus)] 0)))
abbrev WG:Nat × TV:=(3,(vD (oL [(aD none 2 Event.cell b.events),(.bool b.cleared),(.int .i64 b.millis),(.int .i64 b.energy),(aD none 1 af b.state.closed),(aD none 1 af b.state.locked),(aD none 1 af b.state.badLink),(aD none 1 af b.state.on_),(aD none 1 af b.state.badSource),(aD none 1 af b.state.earthed),(aD none 1 af b.state.badBus)] 0)))
end
def Cg (a:bg) (b:aj):Int→St:=
  fun i=> ⟨[(V6 a),(WG b),(5,(vI i))],[]⟩
def Cs  :Unit→St:=
  fun _=> ⟨[],[]⟩
def KX (a:bg) (b:aj):(aM Int (Ex Unit Bool))→Exit→St→Prop:=
  LQ 0 [] (Cg a b) Cs yc
section
variable (a:bg) (b:aj)
abbrev adr:=(!decide ((a.events.length:Int)=(b.events.length:Int)))
abbrev aeL:=(bif (adr a b)then true else(!(a.cleared==b.cleared)))
abbrev ael:=(bif (aeL a b)then true else(!decide (a.millis=b.millis)))
abbrev acy:=(bif (ael a b)then true else(!decide (a.energy=b.energy)))
end
theorem KT (a:bg) (b:aj) {r:Bool} (h:mG a b=some r):Fn Tryz.prog 13 [(.agg [(.d (aD none 2 Event.cell a.events)),(cB a.cleared),(cI a.millis),(cI a.energy),(.d (aD none 1 af a.state.closed)),(.d (aD none 1 af a.state.locked)),(.d (aD none 1 af a.state.badLink)),(.d (aD none 1 af a.state.on_)),(.d (aD none 1 af a.state.badSource)),(.d (aD none 1 af a.state.earthed)),(.d (aD none 1 af a.state.badBus))]),(.agg [(.d (aD none 2 Event.cell b.events)),(cB b.cleared),(cI b.millis),(cI b.energy),(.d (aD none 1 af b.state.closed)),(.d (aD none 1 af b.state.locked)),(.d (aD none 1 af b.state.badLink)),(.d (aD none 1 af b.state.on_)),(.d (aD none 1 af b.state.badSource)),(.d (aD none 1 af b.state.earthed)),(.d (aD none 1 af b.state.badBus))])] [] (vB r) []:=by
 refine fN tT Tryz.func13 rfl rfl fun B=> ?_
 show bG _ _ _ _ _ _ (yc r) _
 unfold mG at h
 refine sz tT ⟨[(V6 a),(WG b)],[]⟩ {fr:=[(0,2),(1,3)] } [2,3] ?_
 refine aQ (aQ (bE h fun r_ hr_ h=> ?_))
 refine rg tT ⟨[(V6 a),(WG b),(41,(vB (bif (acy a b)then true else(!r_))))],[]⟩ (eqs (adr a b) 6 (eqs (aeL a b) 6 (eqs (ael a b) 6 (eqs (acy a b) 5 ((gP (ic [(7,(adr a b)),(14,(aeL a b)),(21,(ael a b)),(28,(acy a b))]) [(28,false)]→All [Fn Tryz.prog 20 [(.agg [(.d (aD none 1 af a.state.closed)),(.d (aD none 1 af a.state.locked)),(.d (aD none 1 af a.state.badLink)),(.d (aD none 1 af a.state.on_)),(.d (aD none 1 af a.state.badSource)),(.d (aD none 1 af a.state.earthed)),(.d (aD none 1 af a.state.badBus))]),(.agg [(.d (aD none 1 af b.state.closed)),(.d (aD none 1 af b.state.locked)),(.d (aD none 1 af b.state.badLink)),(.d (aD none 1 af b.state.on_)),(.d (aD none 1 af b.state.badSource)),(.d (aD none 1 af b.state.earthed)),(.d (aD none 1 af b.state.badBus))])] [] (vB r_) []])::(eqs (acy a b) 2 [])))))) {yb:=[(7,(adr a b)),(14,(aeL a b)),(21,(ael a b)),(28,(acy a b))],an:=[(33, .call [] (vB r_) [])] } [] (ae (ae (ae (ae ⟨(fun hg=> ⟨(xJ a.state b.state (fD hr_ (aU hg))),trivial⟩),(ae trivial)⟩)))) ?_
 refine bI h (fun hb2 h=> ?_) (fun hb2 h=> ?_)
 ·refine ct hb2 ?_
  refine sz tT ⟨[(4,(vB false))],[]⟩ {} [] ?_
  refine aR ?_
  obtain rfl:=oi h
  exact rl [(sB false)]
 ·refine cf hb2 ?_
  refine aP (aQ (sz tT ⟨[(V6 a),(WG b),(5,(vI 0))],[]⟩ {} [] ?_))
  refine bE h fun y hy h=> ?_
  refine aL [] (Cg a b) Cs yc hy (fun s f h=> ?_) ?_
  ·clear hy
   show bG _ _ _ _ _ _ ((KX a b) f) _
   unfold mP at h
   obtain⟨i,rfl⟩: ∃q,q=s:=⟨_,rfl⟩
   refine aQ (sz tT ⟨[(V6 a),(WG b),(5,(vI i)),(46,(vB (decide (i<(a.events.length:Int)))))],[]⟩ {} [] ?_)
   refine bI h (fun hb1 h=> ?_) (fun hb1 h=> ?_)
   ·refine ct hb1 ?_
    refine aP (aQ (aB (aQ (aO h fun⟨a1,a2⟩ h=> ?_))))
    refine dg tT mX ⟨[(V6 a),(WG b),(5,(vI i)),(59,(vB (!((decide (((at' a.events i.toNat).millis)=((at' b.events i.toNat).millis))) && ((decide (((at' a.events i.toNat).link)=((at' b.events i.toNat).link))) && true)))))],[]⟩ [_,_] {} [] ⟨a1,a2,trivial⟩ ?_
    refine bI h (fun hb h=> ?_) (fun hb h=> ?_)
    ·refine ct hb ?_
     refine sz tT ⟨[(4,(vB false))],[]⟩ {} [] ?_
     refine aR ?_
     obtain rfl:=oi h
     exact lR bY (dm 0) bZ (aW.mk (.inr rfl) (p:=[]) (l:=[(sB false)]) (by kernel_rfl) trivial (fe.refl _) trivial)
    ·refine cf hb ?_
     refine aP (rz tT ⟨[(V6 a),(WG b),(k30 i)],[]⟩ {} [] ?_)
     obtain rfl:=oi h
     exact lN
   ·refine cf hb1 ?_
    refine aI (fz ⟨[],[]⟩ []) ?_
    refine aX ?_
    obtain rfl:=oi h
    exact lB
  ·clear hy
   cases y with
   |brk z=>
    unfold fE
    refine⟨_, .refl, ?_⟩
    refine sz tT ⟨[(4,(vB true))],[]⟩ {} [] ?_
    refine aR ?_
    obtain rfl:=oi h
    exact rl [(sB true)]
   |ret v=>
    obtain rfl:=oi h
    unfold fE
    intro e st hn ha hR
    cases e with
    |normal=>exact absurd rfl hn
    |exit id=>exact hR
    |goto l=>exact hR
    |ret=>exact hR
    |panic c=>exact hR
    |outgrown=>exact hR
def qz  :(aj × Int)→Exit→St→Prop:=
  fun r=>aW TT [.cell 6 44, .tmp 7] (.iB [(.agg [(.own 0 false r.1.events.length),(cB r.1.cleared),(cI r.1.millis),(cI r.1.energy),(.own 1 false r.1.state.closed.length),(.own 2 false r.1.state.locked.length),(.own 3 false r.1.state.badLink.length),(.own 4 false r.1.state.on_.length),(.own 5 false r.1.state.badSource.length),(.own 6 false r.1.state.earthed.length),(.own 7 false r.1.state.badBus.length)]),(sI r.2)]) [(0,some (aF 105 2 Event.cell r.1.events)),(1,some (aF 4 1 af r.1.state.closed)),(2,some (aF 4 1 af r.1.state.locked)),(3,some (aF 4 1 af r.1.state.badLink)),(4,some (aF 4 1 af r.1.state.on_)),(5,some (aF 4 1 af r.1.state.badSource)),(6,some (aF 4 1 af r.1.state.earthed)),(7,some (aF 4 1 af r.1.state.badBus)),(8,none)]
section
variable (u1:(List Int)) (c4:(List Bool)) (u0:State) (c0:(List Event)) (c2:Int) (c3:Int)
abbrev ow:Nat × TV:=(10,(vO 106 true u1.length))
abbrev yx:Nat × Option Ob:=(80,some (.cells 44 YX))
abbrev I9:Nat × Option Ob:=(97,some (aF 4 1 af c4))
abbrev vN:Nat × Option Ob:=(98,some (aF 4 1 af u0.locked))
abbrev vC:Nat × Option Ob:=(99,some (aF 4 1 af u0.badLink))
abbrev vT:Nat × Option Ob:=(100,some (aF 4 1 af u0.on_))
abbrev vQ:Nat × Option Ob:=(101,some (aF 4 1 af u0.badSource))
abbrev vJ:Nat × Option Ob:=(102,some (aF 4 1 af u0.earthed))
abbrev vz:Nat × Option Ob:=(103,some (aF 4 1 af u0.badBus))
abbrev akb:Ob:=(.cells 44 [(.own 109 false c0.length),(cB false),(cI c2),(cI c3),(.own 97 false c4.length),(.own 98 false u0.locked.length),(.own 99 false u0.badLink.length),(.own 100 false u0.on_.length),(.own 101 false u0.badSource.length),(.own 102 false u0.earthed.length),(.own 103 false u0.badBus.length)])
abbrev agO:Nat × Option Ob:=(105,some (akb c4 u0 c0 c2 c3))
abbrev GD:Nat × Option Ob:=(106,some (zP u1))
abbrev NV:Nat × Option Ob:=(109,some (aF 105 2 Event.cell c0))
abbrev uS:List (Nat × Option Ob):=[yx,(I9 c4),(vN u0),(vC u0),(vT u0),(vQ u0),(vJ u0),(vz u0),(agO c4 u0 c0 c2 c3),(GD u1),(NV c0)]
end
def wH (p:ah) (u2:Int) (u0:State):((List Event) × Int × Int × (List Bool) × (List Int) × (List Int))→St:=
  fun zz=>match zz with|(c0,c2,c3,c4,u1,u3)=> ⟨[(2,(vI u2)),(bB p),(6,(vP 80 0)),(9,(vP 105 0)),(ow u1),(yh u3)],(uS u1 c4 u0 c0 c2 c3)⟩
def vX  :Unit→St:=
  fun _=> ⟨[],[]⟩
def EQ (p:ah) (u0:Int) (u1:State):(aM ((List Event) × Int × Int × (List Bool) × (List Int) × (List Int)) (Ex Unit (aj × Int)))→Exit→St→Prop:=
  LQ 0 [] (wH p u0 u1) vX qz
section
variable (u4:((List Short) × Int)) (u5:((List Int) × Int))
abbrev RY:Nat × TV:=(12,(vD (aD none 4 Short.cell u4.1)))
abbrev oo:Nat × TV:=(14,(Ya u5))
end
def wz (p:ah) (u2:Int) (u0:State) (c0:(List Event)) (c2:Int) (c3:Int) (c4:(List Bool)) (u1:(List Int)) (u3:(List Int)) (u4:((List Short) × Int)) (u5:((List Int) × Int)):(Int × Int)→St:=
  fun zz=>match zz with|(u6,k)=> ⟨[(2,(vI u2)),(bB p),(6,(vP 80 0)),(9,(vP 105 0)),(ow u1),(yh u3),(RY u4),(oo u5),(16,(vI u6)),(17,(vI k))],(uS u1 c4 u0 c0 c2 c3)⟩
section
variable (u2:Int) (p:ah) (u1:(List Int)) (u3:(List Int)) (u4:((List Int) × Int)) (u5:Int) (c4:(List Bool)) (u0:State) (c0:(List Event)) (c2:Int) (c3:Int)
abbrev aip:St:=⟨[(2,(vI u2)),(bB p),(6,(vP 80 0)),(9,(vP 105 0)),(ow u1),(yh u3),(oo u4),(16,(vI u5))],(uS u1 c4 u0 c0 c2 c3)⟩
end
def wD (p:ah) (u2:Int) (u0:State) (c0:(List Event)) (c2:Int) (c3:Int) (c4:(List Bool)) (u1:(List Int)) (u3:(List Int)) (u4:((List Int) × Int)):Int→St:=
  fun u5=>(aip u2 p u1 u3 u4 u5 c4 u0 c0 c2 c3)
section
variable (p:ah) (u0:Int) (u1:State)
abbrev QB:=(EQ p u0 u1)
end
def Fa (p:ah) (u0:Int) (u1:State) (c0:(List Event)) (c2:Int) (c3:Int) (c4:(List Bool)) (u2:(List Int)) (u3:(List Int)) (u5:((List Short) × Int)) (u4:((List Int) × Int)):(aM (Int × Int) (Ex Int (aM ((List Event) × Int × Int × (List Bool) × (List Int) × (List Int)) (Ex Unit (aj × Int)))))→Exit→St→Prop:=
  LQ 2 [1] (wz p u0 u1 c0 c2 c3 c4 u2 u3 u5 u4) (wD p u0 u1 c0 c2 c3 c4 u2 u3 u4) (QB p u0 u1)
section
variable (u2:Int) (p:ah) (u1:(List Int)) (u3:(List Int)) (u4:((List Int) × Int)) (u5:Int) (u6:Int) (i:Int) (c4:(List Bool)) (u0:State) (c0:(List Event)) (c2:Int) (c3:Int)
abbrev ajY:List (Nat × TV):=[(2,(vI u2)),(bB p),(6,(vP 80 0)),(9,(vP 105 0)),(ow u1),(yh u3),(oo u4),(16,(vI u5)),(18,(vI u6)),(19,(vI i))]
abbrev adl:St:=⟨(ajY u2 p u1 u3 u4 u5 u6 i),(uS u1 c4 u0 c0 c2 c3)⟩
end
def wB (p:ah) (u2:Int) (u0:State) (c0:(List Event)) (c2:Int) (c3:Int) (c4:(List Bool)) (u3:(List Int)) (u4:((List Int) × Int)) (u5:Int):((List Int) × Int × Int)→St:=
  fun zz=>match zz with|(u1,u6,i)=>(adl u2 p u1 u3 u4 u5 u6 i c4 u0 c0 c2 c3)
section
variable (u2:Int) (p:ah) (u1:(List Int)) (u3:((List Int) × Int)) (u4:Int) (u5:Int) (c4:(List Bool)) (u0:State) (c0:(List Event)) (c2:Int) (c3:Int)
abbrev ak2:St:=⟨[(2,(vI u2)),(bB p),(6,(vP 80 0)),(9,(vP 105 0)),(ow u1),(oo u3),(16,(vI u4)),(18,(vI u5))],(uS u1 c4 u0 c0 c2 c3)⟩
end
def wE (p:ah) (u2:Int) (u0:State) (c0:(List Event)) (c2:Int) (c3:Int) (c4:(List Bool)) (u3:((List Int) × Int)) (u4:Int):((List Int) × Int)→St:=
  fun zz=>match zz with|(u1,u5)=>(ak2 u2 p u1 u3 u4 u5 c4 u0 c0 c2 c3)
def Fu (p:ah) (u0:Int) (u1:State) (c0:(List Event)) (c2:Int) (c3:Int) (c4:(List Bool)) (u4:(List Int)) (u2:((List Int) × Int)) (u3:Int):(aM ((List Int) × Int × Int) (Ex ((List Int) × Int) (aM ((List Event) × Int × Int × (List Bool) × (List Int) × (List Int)) (Ex Unit (aj × Int)))))→Exit→St→Prop:=
  LQ 4 [1] (wB p u0 u1 c0 c2 c3 c4 u4 u2 u3) (wE p u0 u1 c0 c2 c3 c4 u2 u3) (QB p u0 u1)
section
variable (u2:((List Int) × Int)) (u1:Int) (c2:Int) (u7:Int) (p:ah) (u4:(List Int)) (i1:Int) (u3:Int) (c3:Int) (u6:(List Bool)) (u0:State) (u5:(List Event))
abbrev Gn:Nat × TV:=(11,(Ya u2))
abbrev KO:Nat × TV:=(18,(vI (if u1<c2 then c2 else u1)))
abbrev UB:List (Nat × TV):=[(2,(vI u7)),(bB p),(6,(vP 80 0)),(9,(vP 105 0)),(ow u4),(Gn u2),(oo u2),(KO u1 c2),(22,(vI i1))]
abbrev acz:=(IntKind.wrap .i64 (Int.tdiv (IntKind.wrap .i64 (u3*u3)) 1000))
abbrev alE:=(IntKind.wrap .i64 ((acz u3)+1))
abbrev aaG:=(IntKind.wrap .i64 (c3+(IntKind.wrap .i64 ((alE u3)*(IntKind.wrap .i64 ((if u1<c2 then c2 else u1) - c2))))))
abbrev Rp:List (Nat × Option Ob):=[yx,(I9 u6),(vN u0),(vC u0),(vT u0),(vQ u0),(vJ u0),(vz u0),(105,some (.cells 44 [(.own 109 false u5.length),(cB false),(cI (if u1<c2 then c2 else u1)),(cI (aaG u1 c2 u3 c3)),(.own 97 false u6.length),(.own 98 false u0.locked.length),(.own 99 false u0.badLink.length),(.own 100 false u0.on_.length),(.own 101 false u0.badSource.length),(.own 102 false u0.earthed.length),(.own 103 false u0.badBus.length)])),(GD u4),(NV u5)]
end
def vY (p:ah) (u7:Int) (u0:State) (c2:Int) (c3:Int) (u2:((List Int) × Int)) (u3:Int) (u4:(List Int)) (u1:Int):((List Event) × (List Bool) × Int)→St:=
  fun zz=>match zz with|(u5,u6,i1)=> ⟨(UB u2 u1 c2 u7 p u4 i1),(Rp u1 c2 u4 u3 c3 u6 u0 u5)⟩
section
variable (u6:Int) (p:ah) (u3:(List Int)) (u7:((List Int) × Int)) (u5:(List Bool)) (u0:State) (u4:(List Event)) (u1:Int) (c2:Int) (c3:Int) (u2:Int)
abbrev ahu:List (Nat × TV):=[(2,(vI u6)),(bB p),(6,(vP 80 0)),(9,(vP 105 0)),(ow u3),(Gn u7)]
abbrev alJ:St:=⟨(ahu u6 p u3 u7),(Rp u1 c2 u3 u2 c3 u5 u0 u4)⟩
end
def wh (p:ah) (u6:Int) (u0:State) (c2:Int) (c3:Int) (u7:((List Int) × Int)) (u2:Int) (u3:(List Int)) (u1:Int):((List Event) × (List Bool))→St:=
  fun zz=>match zz with|(u4,u5)=>(alJ u6 p u3 u7 u5 u0 u4 u1 c2 c3 u2)
def Fq (p:ah) (u0:Int) (u1:State) (c2:Int) (c3:Int) (u2:((List Int) × Int)) (u3:Int) (u4:(List Int)) (u5:Int):(aM ((List Event) × (List Bool) × Int) (Ex ((List Event) × (List Bool)) (aM ((List Event) × Int × Int × (List Bool) × (List Int) × (List Int)) (Ex Unit (aj × Int)))))→Exit→St→Prop:=
  LQ 6 [1] (vY p u0 u1 c2 c3 u2 u3 u4 u5) (wh p u0 u1 c2 c3 u2 u3 u4 u5) (QB p u0 u1)
section
variable (c3:Int) (u3:Int) (u1:Int) (c2:Int) (u6:(List Bool)) (u0:State) (u5:(List Event)) (u4:(List Int))
abbrev Yj:=(IntKind.wrap .i64 (c3+(IntKind.wrap .i64 ((acz u3)*(IntKind.wrap .i64 ((if u1<c2 then c2 else u1) - c2))))))
abbrev Ry:List (Nat × Option Ob):=[yx,(I9 u6),(vN u0),(vC u0),(vT u0),(vQ u0),(vJ u0),(vz u0),(105,some (.cells 44 [(.own 109 false u5.length),(cB false),(cI (if u1<c2 then c2 else u1)),(cI (Yj c3 u3 u1 c2)),(.own 97 false u6.length),(.own 98 false u0.locked.length),(.own 99 false u0.badLink.length),(.own 100 false u0.on_.length),(.own 101 false u0.badSource.length),(.own 102 false u0.earthed.length),(.own 103 false u0.badBus.length)])),(GD u4),(NV u5)]
end
def wF (p:ah) (u7:Int) (u0:State) (c2:Int) (c3:Int) (u2:((List Int) × Int)) (u3:Int) (u4:(List Int)) (u1:Int):((List Event) × (List Bool) × Int)→St:=
  fun zz=>match zz with|(u5,u6,i2)=> ⟨(UB u2 u1 c2 u7 p u4 i2),(Ry c3 u3 u1 c2 u6 u0 u5 u4)⟩
def wC (p:ah) (u4:Int) (u0:State) (c2:Int) (c3:Int) (u5:((List Int) × Int)) (u2:Int) (u3:(List Int)) (u1:Int):((List Event) × (List Bool))→St:=
  fun zz=>match zz with|(c04,c44)=> ⟨(ahu u4 p u3 u5),[yx,(97,some (aF 4 1 af c44)),(vN u0),(vC u0),(vT u0),(vQ u0),(vJ u0),(vz u0),(105,some (.cells 44 [(.own 109 false c04.length),(cB false),(cI (if u1<c2 then c2 else u1)),(cI (Yj c3 u2 u1 c2)),(.own 97 false c44.length),(.own 98 false u0.locked.length),(.own 99 false u0.badLink.length),(.own 100 false u0.on_.length),(.own 101 false u0.badSource.length),(.own 102 false u0.earthed.length),(.own 103 false u0.badBus.length)])),(GD u3),(109,some (aF 105 2 Event.cell c04))]⟩
def Fj (p:ah) (u0:Int) (u1:State) (c2:Int) (c3:Int) (u2:((List Int) × Int)) (u3:Int) (u4:(List Int)) (u5:Int):(aM ((List Event) × (List Bool) × Int) (Ex ((List Event) × (List Bool)) (aM ((List Event) × Int × Int × (List Bool) × (List Int) × (List Int)) (Ex Unit (aj × Int)))))→Exit→St→Prop:=
  LQ 6 [1] (wF p u0 u1 c2 c3 u2 u3 u4 u5) (wC p u0 u1 c2 c3 u2 u3 u4 u5) (QB p u0 u1)
section
variable (r_:Int) (u0:State) (p:ah) (u4:Int) (c4:(List Bool)) (c0:(List Event)) (c2:Int) (c3:Int) (u6:(List Int)) (i:Int) (v1:(List Int)) (u2:((List Int) × Int)) (u3:Int) (v3:Int) (v4:Int) (u5:(List Int)) (u1:Int) (i1:Int) (v7:Int) (u7:(List Event)) (u8:(List Bool)) (u9:(List Event)) (i2:Int) (v0:(List Bool))
abbrev Zx:List (Nat × Option Ob):=[yx]
abbrev Iq:List (Nat × TV):=[(6,(vP 80 0)),(7,(vI r_))]
abbrev ae4:List CV:=[(.own 81 false 0),(cB false),(cI 0),(cI 0),(.d nS),(.d nS),(.d nS),(.d nS),(.d nS),(.d nS),(.d nS)]
abbrev JX:Nat × Option Ob:=(81,some (.arr 105 2 0 (au Event.cell ([]:List Event))))
abbrev ae1:List CV:=[(.own 81 false 0),(cB false),(cI 0),(cI 0),(.own 82 false 0),(.d nS),(.d nS),(.d nS),(.d nS),(.d nS),(.d nS)]
abbrev Nn:Nat × Option Ob:=(82,some (.arr 4 1 0 (au af ([]:List Bool))))
abbrev afm:List CV:=[(.own 81 false 0),(cB false),(cI 0),(cI 0),(.own 82 false 0),(.own 83 false 0),(.d nS),(.d nS),(.d nS),(.d nS),(.d nS)]
abbrev O5:Nat × Option Ob:=(83,some (.arr 4 1 0 (au af ([]:List Bool))))
abbrev aeV:List CV:=[(.own 81 false 0),(cB false),(cI 0),(cI 0),(.own 82 false 0),(.own 83 false 0),(.own 84 false 0),(.d nS),(.d nS),(.d nS),(.d nS)]
abbrev Ux:Nat × Option Ob:=(84,some (.arr 4 1 0 (au af ([]:List Bool))))
abbrev aeR:List CV:=[(.own 81 false 0),(cB false),(cI 0),(cI 0),(.own 82 false 0),(.own 83 false 0),(.own 84 false 0),(.own 85 false 0),(.d nS),(.d nS),(.d nS)]
abbrev Xq:Nat × Option Ob:=(85,some (.arr 4 1 0 (au af ([]:List Bool))))
abbrev afD:List CV:=[(.own 81 false 0),(cB false),(cI 0),(cI 0),(.own 82 false 0),(.own 83 false 0),(.own 84 false 0),(.own 85 false 0),(.own 86 false 0),(.d nS),(.d nS)]
abbrev Z4:Nat × Option Ob:=(86,some (.arr 4 1 0 (au af ([]:List Bool))))
abbrev afF:List CV:=[(.own 81 false 0),(cB false),(cI 0),(cI 0),(.own 82 false 0),(.own 83 false 0),(.own 84 false 0),(.own 85 false 0),(.own 86 false 0),(.own 87 false 0),(.d nS)]
abbrev afr:List (Nat × Option Ob):=[(0,some (.arr 105 2 0 (au Event.cell ([]:List Event)))),(1,some (.arr 4 1 0 (au af ([]:List Bool)))),(2,some (.arr 4 1 0 (au af ([]:List Bool)))),(3,some (.arr 4 1 0 (au af ([]:List Bool)))),(4,some (.arr 4 1 0 (au af ([]:List Bool)))),(5,some (.arr 4 1 0 (au af ([]:List Bool)))),(6,some (.arr 4 1 0 (au af ([]:List Bool)))),(7,some (.arr 4 1 0 (au af ([]:List Bool)))),(8,some (.cells 44 ake))]
abbrev aft:List (Nat × Option Ob):=[(0,some (aF 105 2 Event.cell ([]:List Event))),(1,some FY),(2,some FY),(3,some FY),(4,some FY),(5,some FY),(6,some FY),(7,some FY),(8,some (.cells 44 adY))]
abbrev IC:List (Nat × TV):=[(6,(vP 80 0)),(7,(vI 1))]
abbrev afG:List CV:=[(.own 89 false 0),(cB false),(cI 0),(cI 0),(.d nS),(.d nS),(.d nS),(.d nS),(.d nS),(.d nS),(.d nS)]
abbrev Kc:Nat × Option Ob:=(89,some (.arr 105 2 0 (au Event.cell ([]:List Event))))
abbrev ae7:List CV:=[(.own 89 false 0),(cB false),(cI 0),(cI 0),(.own 90 false 0),(.d nS),(.d nS),(.d nS),(.d nS),(.d nS),(.d nS)]
abbrev Mj:Nat × Option Ob:=(90,some (.arr 4 1 0 (au af ([]:List Bool))))
abbrev ae8:List CV:=[(.own 89 false 0),(cB false),(cI 0),(cI 0),(.own 90 false 0),(.own 91 false 0),(.d nS),(.d nS),(.d nS),(.d nS),(.d nS)]
abbrev OM:Nat × Option Ob:=(91,some (.arr 4 1 0 (au af ([]:List Bool))))
abbrev afO:List CV:=[(.own 89 false 0),(cB false),(cI 0),(cI 0),(.own 90 false 0),(.own 91 false 0),(.own 92 false 0),(.d nS),(.d nS),(.d nS),(.d nS)]
abbrev Sz:Nat × Option Ob:=(92,some (.arr 4 1 0 (au af ([]:List Bool))))
abbrev ae6:List CV:=[(.own 89 false 0),(cB false),(cI 0),(cI 0),(.own 90 false 0),(.own 91 false 0),(.own 92 false 0),(.own 93 false 0),(.d nS),(.d nS),(.d nS)]
abbrev Xb:Nat × Option Ob:=(93,some (.arr 4 1 0 (au af ([]:List Bool))))
abbrev afq:List CV:=[(.own 89 false 0),(cB false),(cI 0),(cI 0),(.own 90 false 0),(.own 91 false 0),(.own 92 false 0),(.own 93 false 0),(.own 94 false 0),(.d nS),(.d nS)]
abbrev aah:Nat × Option Ob:=(94,some (.arr 4 1 0 (au af ([]:List Bool))))
abbrev afy:List CV:=[(.own 89 false 0),(cB false),(cI 0),(cI 0),(.own 90 false 0),(.own 91 false 0),(.own 92 false 0),(.own 93 false 0),(.own 94 false 0),(.own 95 false 0),(.d nS)]
abbrev UH:Nat × Option Ob:=(97,some (aF 4 1 af u0.closed))
abbrev ae0:List CV:=[(.d nS),(cB false),(cI 0),(cI 0),(.own 97 false u0.closed.length),(.own 98 false u0.locked.length),(.own 99 false u0.badLink.length),(.own 100 false u0.on_.length),(.own 101 false u0.badSource.length),(.own 102 false u0.earthed.length),(.own 103 false u0.badBus.length)]
abbrev aff:Nat × Option Ob:=(105,some (.cells 44 (ae0 u0)))
abbrev ack:Nat × TV:=(10,(vO 106 true (aek p)))
abbrev Xc:Nat × Option Ob:=(106,some (ahq p))
abbrev afv:List (Nat × Option Ob):=[yx,(UH u0),(vN u0),(vC u0),(vT u0),(vQ u0),(vJ u0),(vz u0),(aff u0),(Xc p)]
abbrev abQ:List (Nat × TV):=[(2,(vI u4)),(bB p),(6,(vP 80 0)),(9,(vP 105 0)),(ack p),(11,(vD (aD (some true) 1 (aC .i64) (FR p))))]
abbrev Ui:=(⟨c4,u0.locked,u0.badLink,u0.on_,u0.badSource,u0.earthed,u0.badBus⟩:State)
abbrev afH:Ob:=(.cells 44 [(.own 109 false c0.length),(cB true),(cI c2),(cI c3),(.own 97 false c4.length),(.own 98 false u0.locked.length),(.own 99 false u0.badLink.length),(.own 100 false u0.on_.length),(.own 101 false u0.badSource.length),(.own 102 false u0.earthed.length),(.own 103 false u0.badBus.length)])
abbrev aeW:List CV:=[(.own 0 false c0.length),(cB true),(cI c2),(cI c3),(.own 1 false c4.length),(.own 2 false u0.locked.length),(.own 3 false u0.badLink.length),(.own 4 false u0.on_.length),(.own 5 false u0.badSource.length),(.own 6 false u0.earthed.length),(.own 7 false u0.badBus.length)]
abbrev aaj:List (Nat × Option Ob):=[yx,(I9 c4),(vN u0),(vC u0),(vT u0),(vQ u0),(vJ u0),(vz u0),(agO c4 u0 c0 c2 c3),(106,some (aF 3 1 (aC .i64) (u6.set i.toNat c2))),(NV c0)]
abbrev ach:St:=⟨[(2,(vI u4)),(bB p),(6,(vP 80 0)),(9,(vP 105 0)),(10,(vO 106 true ((u6.set i.toNat c2).length))),(yh v1),(oo u2),(16,(vI u3)),(18,(vI v3)),(19,(vI i))],(aaj u0 c4 c0 c2 c3 u6 i)⟩
abbrev afs:List CV:=[(.own 97 false c4.length),(.own 98 false u0.locked.length),(.own 99 false u0.badLink.length),(.own 100 false u0.on_.length),(.own 101 false u0.badSource.length),(.own 102 false u0.earthed.length),(.own 103 false u0.badBus.length)]
abbrev JZ:List (Nat × Option Ob):=[(I9 c4),(vN u0),(vC u0),(vT u0),(vQ u0),(vJ u0),(vz u0)]
abbrev afb:Nat × TV:=(127,(vB (bif (decide (0≤v4))then(bif (decide (v3<0))then true else(decide (v4<v3)))else false)))
abbrev ae5:=(eqs (decide (0≤v4)) 3 (eqs (decide (v3<0)) 3 [(decide (0≤v4))=(decide (0≤v4)),gP (ic [(2,(decide (0≤v4))),(5,(decide (v3<0)))]) [(2,true)]→All [(decide (v3<0))=(decide (v3<0))],(decide (0≤v4))=(decide (0≤v4))]))
abbrev abv:List SV:=[(.agg (k3 p)),(.agg (afs u0 c4)),(sI i),(sI (at' u2.1 i.toNat)),(sI (at' u6 i.toNat))]
abbrev afj:List CV:=[(.own 0 false c0.length),(cB false),(cI c2),(cI c3),(.own 1 false c4.length),(.own 2 false u0.locked.length),(.own 3 false u0.badLink.length),(.own 4 false u0.on_.length),(.own 5 false u0.badSource.length),(.own 6 false u0.earthed.length),(.own 7 false u0.badBus.length)]
abbrev Xe:List (Nat × TV):=[(2,(vI u4)),(bB p),(6,(vP 80 0)),(9,(vP 105 0)),(ow u5),(Gn u2),(oo u2),(KO u1 c2)]
abbrev ae9:List (Nat × TV):=[(2,(vI u4)),(bB p),(6,(vP 80 0)),(9,(vP 105 0)),(ow u5),(Gn u2),(oo u2),(KO u1 c2),(22,(vI 0))]
abbrev aeT:List (Nat × TV):=[(2,(vI u4)),(bB p),(6,(vP 80 0)),(9,(vP 105 0)),(ow u5),(Gn u2),(oo u2),(KO u1 c2),(22,(vI i1)),(165,(k48 p i1))]
abbrev afd:List (Nat × TV):=[(2,(vI u4)),(bB p),(6,(vP 80 0)),(9,(vP 105 0)),(ow u5),(Gn u2),(oo u2),(KO u1 c2),(22,(vI i1)),(23,(vI v7))]
abbrev afJ:List (Nat × TV):=[(2,(vI u4)),(bB p),(6,(vP 80 0)),(9,(vP 105 0)),(ow u5),(Gn u2),(oo u2),(KO u1 c2),(22,(vI i1)),(187,(vB (bif (decide (0≤v7))then(decide (v7≤(if u1<c2 then c2 else u1)))else false)))]
abbrev afx:List (Nat × TV):=[(2,(vI u4)),(bB p),(6,(vP 80 0)),(9,(vP 105 0)),(ow u5),(Gn u2),(oo u2),(KO u1 c2),(22,(vI i1)),(24,(vO 109 false u7.length))]
abbrev Fw:=(⟨(if u1<c2 then c2 else u1),i1⟩:Event)
abbrev Na:=(u7++[(Fw c2 u1 i1)])
abbrev OJ:=((Na c2 u1 i1 u7).length)
abbrev afl:Nat × Option Ob:=(105,some (.cells 44 [(.own 163 false (OJ c2 u1 i1 u7)),(cB false),(cI (if u1<c2 then c2 else u1)),(cI (aaG u1 c2 u3 c3)),(.own 97 false u8.length),(.own 98 false u0.locked.length),(.own 99 false u0.badLink.length),(.own 100 false u0.on_.length),(.own 101 false u0.badSource.length),(.own 102 false u0.earthed.length),(.own 103 false u0.badBus.length)]))
abbrev Xu:Ob:=(aF 105 2 Event.cell (Na c2 u1 i1 u7))
abbrev aaL:Nat × Option Ob:=(163,some (Xu c2 u1 i1 u7))
abbrev OV:=(au Event.cell [(Fw c2 u1 i1)])
abbrev Xr:=(au Event.cell (Na c2 u1 i1 u7))
abbrev OY:=(au af (u8.set i1.toNat false))
abbrev Xp:Nat × Option Ob:=(97,some (aF 4 1 af (u8.set i1.toNat false)))
abbrev aeY:List (Nat × Option Ob):=[yx,(Xp i1 u8),(vN u0),(vC u0),(vT u0),(vQ u0),(vJ u0),(vz u0),(105,some (.cells 44 [(.own 163 false (OJ c2 u1 i1 u7)),(cB false),(cI (if u1<c2 then c2 else u1)),(cI (aaG u1 c2 u3 c3)),(.own 97 false ((u8.set i1.toNat false).length)),(.own 98 false u0.locked.length),(.own 99 false u0.badLink.length),(.own 100 false u0.on_.length),(.own 101 false u0.badSource.length),(.own 102 false u0.earthed.length),(.own 103 false u0.badBus.length)])),(GD u5),(aaL c2 u1 i1 u7)]
abbrev OT:List (Nat × TV):=[(2,(vI u4)),(bB p),(6,(vP 80 0)),(9,(vP 105 0)),(ow u5),(Gn u2),(oo u2),(KO u1 c2),(22,(Am i1))]
abbrev afh:Nat × Option Ob:=(105,some (.cells 44 [(.own 171 false (OJ c2 u1 i2 u9)),(cB false),(cI (if u1<c2 then c2 else u1)),(cI (Yj c3 u3 u1 c2)),(.own 97 false v0.length),(.own 98 false u0.locked.length),(.own 99 false u0.badLink.length),(.own 100 false u0.on_.length),(.own 101 false u0.badSource.length),(.own 102 false u0.earthed.length),(.own 103 false u0.badBus.length)]))
abbrev abG:Nat × Option Ob:=(171,some (Xu c2 u1 i2 u9))
abbrev afP:List (Nat × Option Ob):=[yx,(Xp i2 v0),(vN u0),(vC u0),(vT u0),(vQ u0),(vJ u0),(vz u0),(105,some (.cells 44 [(.own 171 false (OJ c2 u1 i2 u9)),(cB false),(cI (if u1<c2 then c2 else u1)),(cI (Yj c3 u3 u1 c2)),(.own 97 false ((v0.set i2.toNat false).length)),(.own 98 false u0.locked.length),(.own 99 false u0.badLink.length),(.own 100 false u0.on_.length),(.own 101 false u0.badSource.length),(.own 102 false u0.earthed.length),(.own 103 false u0.badBus.length)])),(GD u5),(abG c2 u1 u9 i2)]
end
theorem pE (p:ah) (s_:State) (u4:Int) {r:(aj × Int)} (h:eZ p s_ u4=some r):Fn Tryz.prog 12 (Kj p s_ u4) [] (.iB [(.agg [(.own 0 false r.1.events.length),(cB r.1.cleared),(cI r.1.millis),(cI r.1.energy),(.own 1 false r.1.state.closed.length),(.own 2 false r.1.state.locked.length),(.own 3 false r.1.state.badLink.length),(.own 4 false r.1.state.on_.length),(.own 5 false r.1.state.badSource.length),(.own 6 false r.1.state.earthed.length),(.own 7 false r.1.state.badBus.length)]),(sI r.2)]) [(0,some (aF 105 2 Event.cell r.1.events)),(1,some (aF 4 1 af r.1.state.closed)),(2,some (aF 4 1 af r.1.state.locked)),(3,some (aF 4 1 af r.1.state.badLink)),(4,some (aF 4 1 af r.1.state.on_)),(5,some (aF 4 1 af r.1.state.badSource)),(6,some (aF 4 1 af r.1.state.earthed)),(7,some (aF 4 1 af r.1.state.badBus)),(8,none)]:=by
 refine fN tT Tryz.func12 rfl rfl fun B=> ?_
 show bG _ _ _ _ _ _ (qz r) _
 unfold eZ at h
 refine sz tT ⟨[(2,(vI u4)),(bB p),(fH s_),(6,(vP 80 0))],Zx⟩ {fr:=[(0,78),(1,79),(2,80)] } [78,79] ?_
 refine aQ (bE h fun r_ hr_ h=> ?_)
 have q0:=nA p s_ hr_
 refine rg tT ⟨[(2,(vI u4)),(bB p),(fH s_),(6,(vP 80 0)),(8,(vI r_))],Zx⟩ [_] {an:=[(2,cA q0 [])] } [] ⟨q0,trivial⟩ ?_
 refine aQ (sz tT ⟨[(2,(vI u4)),(bB p),(fH s_),(6,(vP 80 0)),(8,(vI r_)),(29,(vB (!decide (r_=0))))],Zx⟩ {} [] ?_)
 refine bI h (fun hb13 h=> ?_) (fun hb13 h=> ?_)
 ·refine ct hb13 ?_
  refine sz tT ⟨(Iq r_),Zx⟩ {} [] ?_
  refine aI (.trans (bJ.eY (E:=0) (esz:=0) (E0:=44) (cs:=YX) (p:=80) (q:=0) (b:=81) (esz0:=0) (el0:=fun _ _=> .nilp) (ob:= .arr 105 2 0 (au Event.cell ([]:List Event))) (fun _ _ _ _ h=> .inl ⟨h,rfl⟩) (by kernel_rfl) (by kernel_rfl) (by kernel_rfl)) (.trans (fz ⟨(Iq r_),[(80,some (.cells 44 ae4)),JX]⟩ []) (.trans (bJ.eY (E:=0) (esz:=0) (E0:=44) (cs:=ae4) (p:=80) (q:=4) (b:=82) (esz0:=0) (el0:=fun _ _=> .nilp) (ob:= .arr 4 1 0 (au af ([]:List Bool))) (fun _ _ _ _ h=> .inl ⟨h,rfl⟩) (by kernel_rfl) (by kernel_rfl) (by kernel_rfl)) (.trans (fz ⟨(Iq r_),[(80,some (.cells 44 ae1)),JX,Nn]⟩ []) (.trans (bJ.eY (E:=0) (esz:=0) (E0:=44) (cs:=ae1) (p:=80) (q:=5) (b:=83) (esz0:=0) (el0:=fun _ _=> .nilp) (ob:= .arr 4 1 0 (au af ([]:List Bool))) (fun _ _ _ _ h=> .inl ⟨h,rfl⟩) (by kernel_rfl) (by kernel_rfl) (by kernel_rfl)) (.trans (fz ⟨(Iq r_),[(80,some (.cells 44 afm)),JX,Nn,O5]⟩ []) (.trans (bJ.eY (E:=0) (esz:=0) (E0:=44) (cs:=afm) (p:=80) (q:=6) (b:=84) (esz0:=0) (el0:=fun _ _=> .nilp) (ob:= .arr 4 1 0 (au af ([]:List Bool))) (fun _ _ _ _ h=> .inl ⟨h,rfl⟩) (by kernel_rfl) (by kernel_rfl) (by kernel_rfl)) (.trans (fz ⟨(Iq r_),[(80,some (.cells 44 aeV)),JX,Nn,O5,Ux]⟩ []) (.trans (bJ.eY (E:=0) (esz:=0) (E0:=44) (cs:=aeV) (p:=80) (q:=7) (b:=85) (esz0:=0) (el0:=fun _ _=> .nilp) (ob:= .arr 4 1 0 (au af ([]:List Bool))) (fun _ _ _ _ h=> .inl ⟨h,rfl⟩) (by kernel_rfl) (by kernel_rfl) (by kernel_rfl)) (.trans (fz ⟨(Iq r_),[(80,some (.cells 44 aeR)),JX,Nn,O5,Ux,Xq]⟩ []) (.trans (bJ.eY (E:=0) (esz:=0) (E0:=44) (cs:=aeR) (p:=80) (q:=8) (b:=86) (esz0:=0) (el0:=fun _ _=> .nilp) (ob:= .arr 4 1 0 (au af ([]:List Bool))) (fun _ _ _ _ h=> .inl ⟨h,rfl⟩) (by kernel_rfl) (by kernel_rfl) (by kernel_rfl)) (.trans (fz ⟨(Iq r_),[(80,some (.cells 44 afD)),JX,Nn,O5,Ux,Xq,Z4]⟩ []) (.trans (bJ.eY (E:=0) (esz:=0) (E0:=44) (cs:=afD) (p:=80) (q:=9) (b:=87) (esz0:=0) (el0:=fun _ _=> .nilp) (ob:= .arr 4 1 0 (au af ([]:List Bool))) (fun _ _ _ _ h=> .inl ⟨h,rfl⟩) (by kernel_rfl) (by kernel_rfl) (by kernel_rfl)) (.trans (fz ⟨(Iq r_),[(80,some (.cells 44 afF)),JX,Nn,O5,Ux,Xq,Z4,(87,some (.arr 4 1 0 (au af ([]:List Bool))))]⟩ []) (.trans (bJ.eY (E:=0) (esz:=0) (E0:=44) (cs:=afF) (p:=80) (q:=10) (b:=88) (esz0:=0) (el0:=fun _ _=> .nilp) (ob:= .arr 4 1 0 (au af ([]:List Bool))) (fun _ _ _ _ h=> .inl ⟨h,rfl⟩) (by kernel_rfl) (by kernel_rfl) (by kernel_rfl)) (.trans (fz ⟨(Iq r_),[(80,some (.cells 44 [(.own 81 false 0),(cB false),(cI 0),(cI 0),(.own 82 false 0),(.own 83 false 0),(.own 84 false 0),(.own 85 false 0),(.own 86 false 0),(.own 87 false 0),(.own 88 false 0)])),JX,Nn,O5,Ux,Xq,Z4,(87,some (.arr 4 1 0 (au af ([]:List Bool)))),(88,some (.arr 4 1 0 (au af ([]:List Bool))))]⟩ []) (.trans (bJ.fin (st':=⟨[(6,(vP 8 0)),(7,(vI r_))],afr⟩) (cs:=[]) ⟨[],[(81,0),(82,1),(83,2),(84,3),(85,4),(86,5),(87,6),(88,7),(80,8)]⟩ [6,7] (by kernel_rfl) trivial) (bJ.le (st':=⟨[(6,(vP 8 0)),(7,(vI r_))],aft⟩) ⟨⟨tR,tR,trivial⟩,⟨rfl,oW,⟨rfl,oW,⟨rfl,oW,⟨rfl,oW,⟨rfl,oW,⟨rfl,oW,⟨rfl,oW,⟨rfl,oW,⟨rfl,fG ⟨cW,bH.refl _,bH.refl _,bH.refl _,cW,cW,cW,cW,cW,cW,cW,trivial⟩,trivial⟩⟩⟩⟩⟩⟩⟩⟩⟩⟩)))))))))))))))))) ?_
  refine aR ?_
  obtain rfl:=oi h
  exact rh (ajS r_) (.refl _) (hN 8 ⟨rfl,trivial,trivial⟩)
 ·refine cf hb13 ?_
  refine aP (aQ (sg tT ⟨[(2,(vI u4)),(bB p),(fH s_),(6,(vP 80 0)),(39,(adQ p u4))],Zx⟩ (eqs (decide (u4<0)) 5 []) {yb:=[(2,(decide (u4<0)))] } [] (ae trivial) ?_))
  refine bI h (fun hb12 h=> ?_) (fun hb12 h=> ?_)
  ·refine ct hb12 ?_
   refine sz tT ⟨IC,Zx⟩ {} [] ?_
   refine aI (.trans (bJ.eY (E:=0) (esz:=0) (E0:=44) (cs:=YX) (p:=80) (q:=0) (b:=89) (esz0:=0) (el0:=fun _ _=> .nilp) (ob:= .arr 105 2 0 (au Event.cell ([]:List Event))) (fun _ _ _ _ h=> .inl ⟨h,rfl⟩) (by kernel_rfl) (by kernel_rfl) (by kernel_rfl)) (.trans (fz ⟨IC,[(80,some (.cells 44 afG)),Kc]⟩ []) (.trans (bJ.eY (E:=0) (esz:=0) (E0:=44) (cs:=afG) (p:=80) (q:=4) (b:=90) (esz0:=0) (el0:=fun _ _=> .nilp) (ob:= .arr 4 1 0 (au af ([]:List Bool))) (fun _ _ _ _ h=> .inl ⟨h,rfl⟩) (by kernel_rfl) (by kernel_rfl) (by kernel_rfl)) (.trans (fz ⟨IC,[(80,some (.cells 44 ae7)),Kc,Mj]⟩ []) (.trans (bJ.eY (E:=0) (esz:=0) (E0:=44) (cs:=ae7) (p:=80) (q:=5) (b:=91) (esz0:=0) (el0:=fun _ _=> .nilp) (ob:= .arr 4 1 0 (au af ([]:List Bool))) (fun _ _ _ _ h=> .inl ⟨h,rfl⟩) (by kernel_rfl) (by kernel_rfl) (by kernel_rfl)) (.trans (fz ⟨IC,[(80,some (.cells 44 ae8)),Kc,Mj,OM]⟩ []) (.trans (bJ.eY (E:=0) (esz:=0) (E0:=44) (cs:=ae8) (p:=80) (q:=6) (b:=92) (esz0:=0) (el0:=fun _ _=> .nilp) (ob:= .arr 4 1 0 (au af ([]:List Bool))) (fun _ _ _ _ h=> .inl ⟨h,rfl⟩) (by kernel_rfl) (by kernel_rfl) (by kernel_rfl)) (.trans (fz ⟨IC,[(80,some (.cells 44 afO)),Kc,Mj,OM,Sz]⟩ []) (.trans (bJ.eY (E:=0) (esz:=0) (E0:=44) (cs:=afO) (p:=80) (q:=7) (b:=93) (esz0:=0) (el0:=fun _ _=> .nilp) (ob:= .arr 4 1 0 (au af ([]:List Bool))) (fun _ _ _ _ h=> .inl ⟨h,rfl⟩) (by kernel_rfl) (by kernel_rfl) (by kernel_rfl)) (.trans (fz ⟨IC,[(80,some (.cells 44 ae6)),Kc,Mj,OM,Sz,Xb]⟩ []) (.trans (bJ.eY (E:=0) (esz:=0) (E0:=44) (cs:=ae6) (p:=80) (q:=8) (b:=94) (esz0:=0) (el0:=fun _ _=> .nilp) (ob:= .arr 4 1 0 (au af ([]:List Bool))) (fun _ _ _ _ h=> .inl ⟨h,rfl⟩) (by kernel_rfl) (by kernel_rfl) (by kernel_rfl)) (.trans (fz ⟨IC,[(80,some (.cells 44 afq)),Kc,Mj,OM,Sz,Xb,aah]⟩ []) (.trans (bJ.eY (E:=0) (esz:=0) (E0:=44) (cs:=afq) (p:=80) (q:=9) (b:=95) (esz0:=0) (el0:=fun _ _=> .nilp) (ob:= .arr 4 1 0 (au af ([]:List Bool))) (fun _ _ _ _ h=> .inl ⟨h,rfl⟩) (by kernel_rfl) (by kernel_rfl) (by kernel_rfl)) (.trans (fz ⟨IC,[(80,some (.cells 44 afy)),Kc,Mj,OM,Sz,Xb,aah,(95,some (.arr 4 1 0 (au af ([]:List Bool))))]⟩ []) (.trans (bJ.eY (E:=0) (esz:=0) (E0:=44) (cs:=afy) (p:=80) (q:=10) (b:=96) (esz0:=0) (el0:=fun _ _=> .nilp) (ob:= .arr 4 1 0 (au af ([]:List Bool))) (fun _ _ _ _ h=> .inl ⟨h,rfl⟩) (by kernel_rfl) (by kernel_rfl) (by kernel_rfl)) (.trans (fz ⟨IC,[(80,some (.cells 44 [(.own 89 false 0),(cB false),(cI 0),(cI 0),(.own 90 false 0),(.own 91 false 0),(.own 92 false 0),(.own 93 false 0),(.own 94 false 0),(.own 95 false 0),(.own 96 false 0)])),Kc,Mj,OM,Sz,Xb,aah,(95,some (.arr 4 1 0 (au af ([]:List Bool)))),(96,some (.arr 4 1 0 (au af ([]:List Bool))))]⟩ []) (.trans (bJ.fin (st':=⟨[(6,(vP 8 0)),(7,(vI 1))],afr⟩) (cs:=[]) ⟨[],[(89,0),(90,1),(91,2),(92,3),(93,4),(94,5),(95,6),(96,7),(80,8)]⟩ [6,7] (by kernel_rfl) trivial) (bJ.le (st':=⟨[(6,(vP 8 0)),(7,(vI 1))],aft⟩) ⟨⟨tR,tR,trivial⟩,⟨rfl,oW,⟨rfl,oW,⟨rfl,oW,⟨rfl,oW,⟨rfl,oW,⟨rfl,oW,⟨rfl,oW,⟨rfl,oW,⟨rfl,fG ⟨cW,bH.refl _,bH.refl _,bH.refl _,cW,cW,cW,cW,cW,cW,cW,trivial⟩,trivial⟩⟩⟩⟩⟩⟩⟩⟩⟩⟩)))))))))))))))))) ?_
   refine aR ?_
   obtain rfl:=oi h
   exact rh amy (.refl _) (hN 8 ⟨rfl,trivial,trivial⟩)
  ·refine cf hb12 ?_
   refine aP (aQ (bE h fun u0 hr_1 h=> ?_))
   have q0:=rk [(0,97),(1,98),(2,99),(3,100),(4,101),(5,102),(6,103),(7,104)] (sN s_ hr_1)
   refine rg tT ⟨[(2,(vI u4)),(bB p),(6,(vP 80 0)),(9,(vP 105 0))],[yx,(UH u0),(vN u0),(vC u0),(vT u0),(vQ u0),(vJ u0),(vz u0),(aff u0)]⟩ [_] {an:=[(1,cA q0 [])],fr:=[(3,105)] } [] ⟨q0,trivial⟩ ?_
   refine aQ (aO h fun⟨a1,a2,a3⟩ h=> ?_)
   refine rg tT ⟨[(2,(vI u4)),(bB p),(6,(vP 80 0)),(9,(vP 105 0)),(ack p)],(afv u0 p)⟩ [_,(aaJ p)=(p.links.length:Int),_,_,(FR p).length=(KZ p),aT (KZ p) 1 (fun _ j=>[(.int .i64 0)].getD j .nilp) (SF p)] {an:=[(3, .arr (FR p).length (SF p))],fr:=[(3,106)] } [] ⟨a1,rfl,a2,a3,(List.length_replicate),(iZ _ _ _ _ _ (fun j hj=>(match j,hj with|0,_=>rfl))),trivial⟩ ?_
   refine aQ (aO h fun⟨a1,a2,a3⟩ h=> ?_)
   refine rg tT ⟨(abQ p u4),(afv u0 p)⟩ [_,(aaJ p)=(p.links.length:Int),_,_,(FR p).length=(KZ p),aT (KZ p) 1 (fun _ j=>[(.int .i64 0)].getD j .nilp) (SF p),(FR p).length=(FR p).length] {an:=[(3, .arr (FR p).length (SF p))],fr:=[(3,107)] } [107] ⟨a1,rfl,a2,a3,(List.length_replicate),(iZ _ _ _ _ _ (fun j hj=>(match j,hj with|0,_=>rfl))),rfl,trivial⟩ ?_
   refine bE h fun y5 hy h=> ?_
   refine aI (.trans (bJ.eY (E:=0) (esz:=0) (E0:=44) (cs:=(ae0 u0)) (p:=105) (q:=0) (b:=172) (esz0:=0) (el0:=fun _ _=> .nilp) (ob:= .arr 105 2 0 (au Event.cell ([]:List Event))) (fun _ _ _ _ h=> .inl ⟨h,rfl⟩) (by kernel_rfl) (by kernel_rfl) (by kernel_rfl)) (.trans (fz ⟨(abQ p u4),[yx,(UH u0),(vN u0),(vC u0),(vT u0),(vQ u0),(vJ u0),(vz u0),(105,some (.cells 44 [(.own 172 false 0),(cB false),(cI 0),(cI 0),(.own 97 false u0.closed.length),(.own 98 false u0.locked.length),(.own 99 false u0.badLink.length),(.own 100 false u0.on_.length),(.own 101 false u0.badSource.length),(.own 102 false u0.earthed.length),(.own 103 false u0.badBus.length)])),(Xc p),(172,some (.arr 105 2 0 (au Event.cell ([]:List Event))))]⟩ []) (.trans (bJ.fin (st':=⟨(abQ p u4),[yx,(UH u0),(vN u0),(vC u0),(vT u0),(vQ u0),(vJ u0),(vz u0),(105,some (.cells 44 [(.own 109 false 0),(cB false),(cI 0),(cI 0),(.own 97 false u0.closed.length),(.own 98 false u0.locked.length),(.own 99 false u0.badLink.length),(.own 100 false u0.on_.length),(.own 101 false u0.badSource.length),(.own 102 false u0.earthed.length),(.own 103 false u0.badBus.length)])),(Xc p),(109,some (.arr 105 2 0 (au Event.cell ([]:List Event))))]⟩) (cs:=[]) ⟨[],[(80,80),(97,97),(98,98),(99,99),(100,100),(101,101),(102,102),(103,103),(105,105),(106,106),(172,109)]⟩ [2,3,6,9,10,11] (by kernel_rfl) trivial) (bJ.le (st':=⟨[(2,(vI u4)),(bB p),(6,(vP 80 0)),(9,(vP 105 0)),(ack p),(11,(vD (aD none 1 (aC .i64) (FR p))))],[yx,(UH u0),(vN u0),(vC u0),(vT u0),(vQ u0),(vJ u0),(vz u0),(105,some (.cells 44 [(.own 109 false (([]:List Event).length)),(cB false),(cI 0),(cI 0),(.own 97 false u0.closed.length),(.own 98 false u0.locked.length),(.own 99 false u0.badLink.length),(.own 100 false u0.on_.length),(.own 101 false u0.badSource.length),(.own 102 false u0.earthed.length),(.own 103 false u0.badBus.length)])),(Xc p),(109,some (aF 105 2 Event.cell ([]:List Event)))]⟩) ⟨⟨tR,tR,tR,tR,tR,⟨_,rfl,fe.v (jB.one (bH.d dR.nI))⟩,trivial⟩,(hN 8 ⟨rfl,fG ⟨cW,bH.refl _,bH.refl _,bH.refl _,bH.refl _,bH.refl _,bH.refl _,bH.refl _,bH.refl _,bH.refl _,bH.refl _,trivial⟩,⟨rfl, .refl _,⟨rfl,oW,trivial⟩⟩⟩)⟩)))) ?_
   refine aL [] (wH p u4 u0) vX qz hy (fun s f h=> ?_) ?_
   ·clear hy
    show bG _ _ _ _ _ _ ((QB p u4 u0) f) _
    unfold iE at h
    obtain⟨c0,c2,c3,c4,v2,v1⟩:=s
    refine aB (aQ (bE h fun v6 hr_2 h=> ?_))
    have q0:=rk [(0,97),(1,98),(2,99),(3,100),(4,101),(5,102),(6,103)] (Dv p (Ui u0 c4) u4 hr_2)
    refine rg tT ⟨[(2,(vI u4)),(bB p),(6,(vP 80 0)),(9,(vP 105 0)),(ow v2),(yh v1),(RY v6)],(uS v2 c4 u0 c0 c2 c3)⟩ [_] {an:=[(4,cR q0 [97,98,99,100,101,102,103])] } [] ⟨q0,trivial⟩ ?_
    refine aQ (bE h fun u2 hr_3 h=> ?_)
    have q0:=Gc p v6.1 hr_3
    refine rg tT ⟨[(2,(vI u4)),(bB p),(6,(vP 80 0)),(9,(vP 105 0)),(ow v2),(yh v1),(RY v6),(oo u2)],(uS v2 c4 u0 c0 c2 c3)⟩ [_] {an:=[(2,cA q0 [])] } [] ⟨q0,trivial⟩ ?_
    refine sz tT ⟨[(2,(vI u4)),(bB p),(6,(vP 80 0)),(9,(vP 105 0)),(ow v2),(yh v1),(RY v6),(oo u2),(16,(vI 0))],(uS v2 c4 u0 c0 c2 c3)⟩ {} [] ?_
    refine aQ (sz tT ⟨[(2,(vI u4)),(bB p),(6,(vP 80 0)),(9,(vP 105 0)),(ow v2),(yh v1),(RY v6),(oo u2),(16,(vI 0)),(17,(vI 0))],(uS v2 c4 u0 c0 c2 c3)⟩ {} [] ?_)
    refine bE h fun y hy h=> ?_
    refine aL [1] (wz p u4 u0 c0 c2 c3 c4 v2 v1 v6 u2) (wD p u4 u0 c0 c2 c3 c4 v2 v1 u2) (QB p u4 u0) hy (fun s f h=> ?_) ?_
    ·clear hy
     show bG _ _ _ _ _ _ ((Fa p u4 u0 c0 c2 c3 c4 v2 v1 v6 u2) f) _
     unfold lQ at h
     obtain⟨w0,k⟩:=s
     refine aQ (sz tT ⟨[(2,(vI u4)),(bB p),(6,(vP 80 0)),(9,(vP 105 0)),(ow v2),(yh v1),(RY v6),(oo u2),(16,(vI w0)),(17,(vI k)),(69,(vB (decide (k<(v6.1.length:Int)))))],(uS v2 c4 u0 c0 c2 c3)⟩ {} [] ?_)
     refine bI h (fun hb h=> ?_) (fun hb h=> ?_)
     ·refine ct hb ?_
      refine aP (aQ (aB (aO h fun a1 h=> ?_)))
      refine rg tT ⟨[(2,(vI u4)),(bB p),(6,(vP 80 0)),(9,(vP 105 0)),(ow v2),(yh v1),(RY v6),(oo u2),(16,(vI (IntKind.wrap .i64 (w0+((at' v6.1 k.toNat).amps))))),(17,(vI k))],(uS v2 c4 u0 c0 c2 c3)⟩ [_] {} [] ⟨a1,trivial⟩ ?_
      refine rz tT ⟨[(2,(vI u4)),(bB p),(6,(vP 80 0)),(9,(vP 105 0)),(ow v2),(yh v1),(RY v6),(oo u2),(16,(vI (IntKind.wrap .i64 (w0+((at' v6.1 k.toNat).amps))))),(17,(Am k))],(uS v2 c4 u0 c0 c2 c3)⟩ {} [] ?_
      obtain rfl:=oi h
      exact lN
     ·refine cf hb ?_
      refine aI (fz (aip u4 p v2 v1 u2 w0 c4 u0 c0 c2 c3) []) ?_
      refine aX ?_
      obtain rfl:=oi h
      exact lB
    ·clear hy
     cases y with
     |brk z=>
      obtain⟨u3,rfl⟩: ∃q,q=z:=⟨_,rfl⟩
      unfold fE
      refine⟨_, .refl, ?_⟩
      refine aQ (sz tT ⟨[(2,(vI u4)),(bB p),(6,(vP 80 0)),(9,(vP 105 0)),(ow v2),(yh v1),(oo u2),(16,(vI u3)),(80,(vB (decide (u3=0))))],(uS v2 c4 u0 c0 c2 c3)⟩ {} [] ?_)
      refine bI h (fun hb11 h=> ?_) (fun hb11 h=> ?_)
      ·refine ct hb11 ?_
       refine sz tT ⟨[(6,(vP 80 0)),(9,(vP 105 0))],[yx,(I9 c4),(vN u0),(vC u0),(vT u0),(vQ u0),(vJ u0),(vz u0),(105,some (afH u0 c4 c0 c2 c3)),(NV c0)]⟩ {} [] ?_
       refine sz tT ⟨[(6,(vP 80 0)),(7,(vI 0))],[(80,some (afH u0 c4 c0 c2 c3)),(I9 c4),(vN u0),(vC u0),(vT u0),(vQ u0),(vJ u0),(vz u0),(NV c0)]⟩ {} [] ?_
       refine aI (bJ.fin (st':=⟨[(6,(vP 8 0)),(7,(vI 0))],[(0,some (aF 105 2 Event.cell c0)),(1,some (aF 4 1 af c4)),(2,some (aF 4 1 af u0.locked)),(3,some (aF 4 1 af u0.badLink)),(4,some (aF 4 1 af u0.on_)),(5,some (aF 4 1 af u0.badSource)),(6,some (aF 4 1 af u0.earthed)),(7,some (aF 4 1 af u0.badBus)),(8,some (.cells 44 (aeW u0 c4 c0 c2 c3)))]⟩) (cs:=[]) ⟨[],[(109,0),(97,1),(98,2),(99,3),(100,4),(101,5),(102,6),(103,7),(80,8)]⟩ [6,7] (by kernel_rfl) trivial) ?_
       refine aR ?_
       obtain rfl:=oi h
       exact lR bY (dm 0) bZ (aW.mk (.inr rfl) (p:=[]) (l:=[(.agg (aeW u0 c4 c0 c2 c3)),(sI 0)]) (by kernel_rfl) trivial (fe.refl _) (hN 8 ⟨rfl,trivial,trivial⟩))
      ·refine cf hb11 ?_
       refine aP (sz tT ⟨[(2,(vI u4)),(bB p),(6,(vP 80 0)),(9,(vP 105 0)),(ow v2),(yh v1),(oo u2),(16,(vI u3)),(18,(vI (-1)))],(uS v2 c4 u0 c0 c2 c3)⟩ {} [] ?_)
       refine aQ (sz tT ⟨[(2,(vI u4)),(bB p),(6,(vP 80 0)),(9,(vP 105 0)),(ow v2),(yh v1),(oo u2),(16,(vI u3)),(18,(vI (-1))),(19,(vI 0))],(uS v2 c4 u0 c0 c2 c3)⟩ {} [] ?_)
       refine bE h fun y2 hy h=> ?_
       refine aL [1] (wB p u4 u0 c0 c2 c3 c4 v1 u2 u3) (wE p u4 u0 c0 c2 c3 c4 u2 u3) (QB p u4 u0) hy (fun s f h=> ?_) ?_
       ·clear hy
        show bG _ _ _ _ _ _ ((Fu p u4 u0 c0 c2 c3 c4 v1 u2 u3) f) _
        unfold jG at h
        obtain⟨u6,v3,i⟩:=s
        refine aQ (sz tT ⟨[(2,(vI u4)),(bB p),(6,(vP 80 0)),(9,(vP 105 0)),(ow u6),(yh v1),(oo u2),(16,(vI u3)),(18,(vI v3)),(19,(vI i)),(87,(k48 p i))],(uS u6 c4 u0 c0 c2 c3)⟩ {} [] ?_)
        refine bI h (fun hb4 h=> ?_) (fun hb4 h=> ?_)
        ·refine ct hb4 ?_
         refine aP (bE h fun y1 hy h=> ?_)
         refine Ju (o:=y1) (fun zz=>match zz with|(v9,w1)=>(adl u4 p v9 v1 u2 u3 w1 i c4 u0 c0 c2 c3)) ?_ ?_
         ·replace h:=hy
          clear hy
          refine aB (aQ (aQ (aO h fun⟨a1,a2⟩ h=> ?_)))
          refine dg tT mX ⟨[(2,(vI u4)),(bB p),(6,(vP 80 0)),(9,(vP 105 0)),(ow u6),(yh v1),(oo u2),(16,(vI u3)),(18,(vI v3)),(19,(vI i)),(98,(vB (!decide ((at' u2.1 i.toNat)=(at' v1 i.toNat)))))],(uS u6 c4 u0 c0 c2 c3)⟩ [_,_] {} [] ⟨a1,a2,trivial⟩ ?_
          refine bI h (fun hb3 h=> ?_) (fun hb3 h=> ?_)
          ·refine ct hb3 ?_
           refine aO h fun a1 h=> ?_
           refine ri tT ⟨(ajY u4 p u6 v1 u2 u3 v3 i),[yx,(I9 c4),(vN u0),(vC u0),(vT u0),(vQ u0),(vJ u0),(vz u0),(agO c4 u0 c0 c2 c3),(106,some (.arr 3 1 u6.length (au (aC .i64) (u6.set i.toNat c2)))),(NV c0)]⟩ [_,_,aT u6.length 1 (lH (au (aC .i64) u6) i.toNat 0 [(.int .i64 c2)]) (au (aC .i64) (u6.set i.toNat c2))] {an:=[(5, .arr 0 (au (aC .i64) (u6.set i.toNat c2)))] } [] ⟨a1,(tL a1),(dD _ _ _ _ _ _ _ _ rfl (fun j hj=>(match j,hj with|0,_=>rfl))),trivial⟩ (bJ.le (st':=(ach u0 p u4 c4 c0 c2 c3 u6 i v1 u2 u3 v3)) ⟨⟨tR,tR,tR,tR,⟨_,rfl,fe.v (jB.one cW)⟩,tR,tR,tR,tR,tR,trivial⟩,(hN 9 ⟨rfl,oW,(.refl _)⟩)⟩) ?_
           refine aQ (bE h fun v4 hr_4 h=> ?_)
           refine aO h fun⟨a1,a2⟩ h=> ?_
           refine dg tT mX ⟨[(2,(vI u4)),(bB p),(6,(vP 80 0)),(9,(vP 105 0)),(10,(vO 106 true ((u6.set i.toNat c2).length))),(yh v1),(oo u2),(16,(vI u3)),(18,(vI v3)),(19,(vI i)),(20,(vI v4))],(aaj u0 c4 c0 c2 c3 u6 i)⟩ [_,_,_,Fn Tryz.prog 41 [(.agg (k3 p)),(.agg (afs u0 c4)),(sI i),(sI (at' u2.1 i.toNat)),(sI (at' (u6.set i.toNat c2) i.toNat))] (JZ u0 c4) (vI v4) (JZ u0 c4)] {an:=[(12, .callR [97,98,99,100,101,102,103] (vI v4))] } [] ⟨a1,a2,(tL a2),(Fn.DK (frz:=[97,98,99,100,101,102,103]) (p:=[c4.length=c4.length,u0.locked.length=u0.locked.length,u0.badLink.length=u0.badLink.length,u0.on_.length=u0.on_.length,u0.badSource.length=u0.badSource.length,u0.earthed.length=u0.earthed.length,u0.badBus.length=u0.badBus.length]) (rA p (Ui u0 c4) i (at' u2.1 i.toNat) (at' (u6.set i.toNat c2) i.toNat) hr_4) (by kernel_rfl) ⟨rfl,rfl,rfl,rfl,rfl,rfl,rfl,trivial⟩ rfl),trivial⟩ ?_
           refine sg tT ⟨[(2,(vI u4)),(bB p),(6,(vP 80 0)),(9,(vP 105 0)),(10,(vO 106 true ((u6.set i.toNat c2).length))),(yh v1),(oo u2),(16,(vI u3)),(18,(vI v3)),(19,(vI i)),(20,(vI v4)),(afb v3 v4)],(aaj u0 c4 c0 c2 c3 u6 i)⟩ (ae5 v3 v4) {yb:=[(2,(decide (0≤v4))),(5,(decide (v3<0)))] } [] (ae (ae ⟨rfl,(fun hg=> ⟨rfl,trivial⟩),rfl,trivial⟩)) ?_
           refine bI h (fun hb1 h=> ?_) (fun hb1 h=> ?_)
           ·refine ct hb1 ?_
            refine rz tT (ach u0 p u4 c4 c0 c2 c3 u6 i v1 u2 u3 v4) {} [] ?_
            obtain rfl:=oi h
            exact⟨rfl,by kernel_rfl⟩
           ·refine cf hb1 ?_
            refine aI (fz (ach u0 p u4 c4 c0 c2 c3 u6 i v1 u2 u3 v3) []) ?_
            refine aP ?_
            obtain rfl:=oi h
            exact⟨rfl,by kernel_rfl⟩
          ·refine cf hb3 ?_
           refine aP (aQ (bE h fun v5 hr_5 h=> ?_))
           refine aO h fun⟨a1,a2⟩ h=> ?_
           refine dg tT mX ⟨[(2,(vI u4)),(bB p),(6,(vP 80 0)),(9,(vP 105 0)),(ow u6),(yh v1),(oo u2),(16,(vI u3)),(18,(vI v3)),(19,(vI i)),(20,(vI v5))],(uS u6 c4 u0 c0 c2 c3)⟩ [_,_,_,Fn Tryz.prog 41 (abv u0 p c4 u6 i u2) (JZ u0 c4) (vI v5) (JZ u0 c4)] {an:=[(12, .callR [97,98,99,100,101,102,103] (vI v5))] } [] ⟨a1,a2,(tL a2),(Fn.DK (frz:=[97,98,99,100,101,102,103]) (p:=[c4.length=c4.length,u0.locked.length=u0.locked.length,u0.badLink.length=u0.badLink.length,u0.on_.length=u0.on_.length,u0.badSource.length=u0.badSource.length,u0.earthed.length=u0.earthed.length,u0.badBus.length=u0.badBus.length]) (rA p (Ui u0 c4) i (at' u2.1 i.toNat) (at' u6 i.toNat) hr_5) (by kernel_rfl) ⟨rfl,rfl,rfl,rfl,rfl,rfl,rfl,trivial⟩ rfl),trivial⟩ ?_
           refine sg tT ⟨[(2,(vI u4)),(bB p),(6,(vP 80 0)),(9,(vP 105 0)),(ow u6),(yh v1),(oo u2),(16,(vI u3)),(18,(vI v3)),(19,(vI i)),(20,(vI v5)),(afb v3 v5)],(uS u6 c4 u0 c0 c2 c3)⟩ (ae5 v3 v5) {yb:=[(2,(decide (0≤v5))),(5,(decide (v3<0)))] } [] (ae (ae ⟨rfl,(fun hg=> ⟨rfl,trivial⟩),rfl,trivial⟩)) ?_
           refine bI h (fun hb2 h=> ?_) (fun hb2 h=> ?_)
           ·refine ct hb2 ?_
            refine rz tT (adl u4 p u6 v1 u2 u3 v5 i c4 u0 c0 c2 c3) {} [] ?_
            obtain rfl:=oi h
            exact⟨rfl,by kernel_rfl⟩
           ·refine cf hb2 ?_
            refine aI (fz (adl u4 p u6 v1 u2 u3 v3 i c4 u0 c0 c2 c3) []) ?_
            refine aP ?_
            obtain rfl:=oi h
            exact⟨rfl,by kernel_rfl⟩
         ·clear hy
          obtain⟨v9,w1⟩:=y1
          refine rz tT ⟨[(2,(vI u4)),(bB p),(6,(vP 80 0)),(9,(vP 105 0)),(ow v9),(yh v1),(oo u2),(16,(vI u3)),(18,(vI w1)),(19,(Am i))],(uS v9 c4 u0 c0 c2 c3)⟩ {} [] ?_
          obtain rfl:=oi h
          exact lN
        ·refine cf hb4 ?_
         refine aI (fz (ak2 u4 p u6 u2 u3 v3 c4 u0 c0 c2 c3) []) ?_
         refine aX ?_
         obtain rfl:=oi h
         exact lB
       ·clear hy
        cases y2 with
        |brk z=>
         obtain⟨u5,u1⟩:=z
         unfold fE
         refine⟨_, .refl, ?_⟩
         refine sz tT ⟨[(2,(vI u4)),(bB p),(6,(vP 80 0)),(9,(vP 105 0)),(ow u5),(Gn u2),(oo u2),(16,(vI u3)),(18,(vI u1))],(uS u5 c4 u0 c0 c2 c3)⟩ {} [] ?_
         refine aQ (sz tT ⟨[(2,(vI u4)),(bB p),(6,(vP 80 0)),(9,(vP 105 0)),(ow u5),(Gn u2),(oo u2),(16,(vI u3)),(18,(vI u1)),(131,(vB (decide (u1<0))))],(uS u5 c4 u0 c0 c2 c3)⟩ {} [] ?_)
         refine bI h (fun hb10 h=> ?_) (fun hb10 h=> ?_)
         ·refine ct hb10 ?_
          refine sz tT ⟨[(6,(vP 80 0)),(7,(vI 0))],[(80,some (akb c4 u0 c0 c2 c3)),(I9 c4),(vN u0),(vC u0),(vT u0),(vQ u0),(vJ u0),(vz u0),(NV c0)]⟩ {} [] ?_
          refine aI (bJ.fin (st':=⟨[(6,(vP 8 0)),(7,(vI 0))],[(0,some (aF 105 2 Event.cell c0)),(1,some (aF 4 1 af c4)),(2,some (aF 4 1 af u0.locked)),(3,some (aF 4 1 af u0.badLink)),(4,some (aF 4 1 af u0.on_)),(5,some (aF 4 1 af u0.badSource)),(6,some (aF 4 1 af u0.earthed)),(7,some (aF 4 1 af u0.badBus)),(8,some (.cells 44 (afj u0 c4 c0 c2 c3)))]⟩) (cs:=[]) ⟨[],[(109,0),(97,1),(98,2),(99,3),(100,4),(101,5),(102,6),(103,7),(80,8)]⟩ [6,7] (by kernel_rfl) trivial) ?_
          refine aR ?_
          obtain rfl:=oi h
          exact lR bY (dm 0) bZ (aW.mk (.inr rfl) (p:=[]) (l:=[(.agg (afj u0 c4 c0 c2 c3)),(sI 0)]) (by kernel_rfl) trivial (fe.refl _) (hN 8 ⟨rfl,trivial,trivial⟩))
         ·refine cf hb10 ?_
          refine aP (sz tT ⟨[(2,(vI u4)),(bB p),(6,(vP 80 0)),(9,(vP 105 0)),(ow u5),(Gn u2),(oo u2),(16,(vI u3)),(KO u1 c2)],(uS u5 c4 u0 c0 c2 c3)⟩ {} [] ?_)
          refine aQ (aO h fun a1 h=> ?_)
          refine rg tT ⟨[(2,(vI u4)),(bB p),(6,(vP 80 0)),(9,(vP 105 0)),(ow u5),(Gn u2),(oo u2),(16,(vI u3)),(KO u1 c2),(21,(vI (acz u3)))],(uS u5 c4 u0 c0 c2 c3)⟩ [_] {} [] ⟨a1,trivial⟩ ?_
          refine aQ (sz tT ⟨[(2,(vI u4)),(bB p),(6,(vP 80 0)),(9,(vP 105 0)),(ow u5),(Gn u2),(oo u2),(KO u1 c2),(21,(vI (acz u3))),(146,(vB (decide ((IntKind.wrap .i64 ((acz u3)*1000))<(IntKind.wrap .i64 (u3*u3))))))],(uS u5 c4 u0 c0 c2 c3)⟩ {} [] ?_)
          refine bI h (fun hb9 h=> ?_) (fun hb9 h=> ?_)
          ·refine ct hb9 ?_
           refine rz tT ⟨[(2,(vI u4)),(bB p),(6,(vP 80 0)),(9,(vP 105 0)),(ow u5),(Gn u2),(oo u2),(KO u1 c2),(21,(vI (alE u3)))],(uS u5 c4 u0 c0 c2 c3)⟩ {} [] ?_
           refine sz tT ⟨(Xe p u4 c2 u2 u5 u1),[yx,(I9 c4),(vN u0),(vC u0),(vT u0),(vQ u0),(vJ u0),(vz u0),(105,some (.cells 44 [(.own 109 false c0.length),(cB false),(cI c2),(cI (aaG u1 c2 u3 c3)),(.own 97 false c4.length),(.own 98 false u0.locked.length),(.own 99 false u0.badLink.length),(.own 100 false u0.on_.length),(.own 101 false u0.badSource.length),(.own 102 false u0.earthed.length),(.own 103 false u0.badBus.length)])),(GD u5),(NV c0)]⟩ {} [] ?_
           refine sz tT ⟨(Xe p u4 c2 u2 u5 u1),(Rp u1 c2 u5 u3 c3 c4 u0 c0)⟩ {} [] ?_
           refine sz tT ⟨(ae9 p u4 c2 u2 u5 u1),(Rp u1 c2 u5 u3 c3 c4 u0 c0)⟩ {} [] ?_
           refine bE h fun y3 hy h=> ?_
           refine aL [1] (vY p u4 u0 c2 c3 u2 u3 u5 u1) (wh p u4 u0 c2 c3 u2 u3 u5 u1) (QB p u4 u0) hy (fun s f h=> ?_) ?_
           ·clear hy
            show bG _ _ _ _ _ _ ((Fq p u4 u0 c2 c3 u2 u3 u5 u1) f) _
            unfold jK at h
            obtain⟨u7,u8,i1⟩:=s
            refine aQ (sz tT ⟨(aeT p u4 c2 u2 u5 u1 i1),(Rp u1 c2 u5 u3 c3 u8 u0 u7)⟩ {} [] ?_)
            refine bI h (fun hb6 h=> ?_) (fun hb6 h=> ?_)
            ·refine ct hb6 ?_
             refine aP (aQ (aB (aQ (bE h fun v7 hr_6 h=> ?_))))
             refine aO h fun⟨a1,a2⟩ h=> ?_
             refine dg tT mX ⟨(afd p u4 c2 u2 u5 u1 i1 v7),(Rp u1 c2 u5 u3 c3 u8 u0 u7)⟩ [_,_,_,Fn Tryz.prog 41 (abv u0 p u8 u5 i1 u2) (JZ u0 u8) (vI v7) (JZ u0 u8)] {an:=[(12, .callR [97,98,99,100,101,102,103] (vI v7))] } [] ⟨a1,a2,(tL a2),(Fn.DK (frz:=[97,98,99,100,101,102,103]) (p:=[u8.length=u8.length,u0.locked.length=u0.locked.length,u0.badLink.length=u0.badLink.length,u0.on_.length=u0.on_.length,u0.badSource.length=u0.badSource.length,u0.earthed.length=u0.earthed.length,u0.badBus.length=u0.badBus.length]) (rA p (Ui u0 u8) i1 (at' u2.1 i1.toNat) (at' u5 i1.toNat) hr_6) (by kernel_rfl) ⟨rfl,rfl,rfl,rfl,rfl,rfl,rfl,trivial⟩ rfl),trivial⟩ ?_
             refine sg tT ⟨(afJ p u4 c2 u2 u5 u1 i1 v7),(Rp u1 c2 u5 u3 c3 u8 u0 u7)⟩ (eqs (decide (0≤v7)) 4 []) {yb:=[(2,(decide (0≤v7)))] } [] (ae trivial) ?_
             refine bI h (fun hb5 h=> ?_) (fun hb5 h=> ?_)
             ·refine ct hb5 ?_
              refine sz tT ⟨(afx p u4 c2 u2 u5 u1 i1 u7),(Rp u1 c2 u5 u3 c3 u8 u0 u7)⟩ {} [] ?_
              refine aQ (aO h fun⟨a1,a2⟩ h=> ?_)
              refine rg tT ⟨(UB u2 u1 c2 u4 p u5 i1),[yx,(I9 u8),(vN u0),(vC u0),(vT u0),(vQ u0),(vJ u0),(vz u0),(afl u0 c2 c3 u3 u1 i1 u7 u8),(GD u5),(aaL c2 u1 i1 u7)]⟩ [[(Fw c2 u1 i1)].length=1,aT 1 2 (xL 2 [(.int .i64 (if u1<c2 then c2 else u1)),(.int .i64 i1)]) (OV c2 u1 i1),u7.length=u7.length,_,_,(Na c2 u1 i1 u7).length=u7.length+[(Fw c2 u1 i1)].length,aT (u7.length+[(Fw c2 u1 i1)].length) 2 (yJ (au Event.cell u7) u7.length (OV c2 u1 i1)) (Xr c2 u1 i1 u7)] {an:=[(4, .arr [(Fw c2 u1 i1)].length (OV c2 u1 i1)),(5, .arr (Na c2 u1 i1 u7).length (Xr c2 u1 i1 u7))],fr:=[(4,162),(5,163)] } [] ⟨(rfl),((by intro i hi j hj;match i,j,hi,hj with|0,0,_,_=>rfl|0,1,_,_=>rfl)),rfl,a1,a2,(List.length_append),(dA _ _ _ _),trivial⟩ ?_
              refine aO h fun a1 h=> ?_
              refine ri tT ⟨(UB u2 u1 c2 u4 p u5 i1),[yx,(97,some (.arr 4 1 u8.length (OY i1 u8))),(vN u0),(vC u0),(vT u0),(vQ u0),(vJ u0),(vz u0),(afl u0 c2 c3 u3 u1 i1 u7 u8),(GD u5),(aaL c2 u1 i1 u7)]⟩ [_,_,aT u8.length 1 (lH (au af u8) i1.toNat 0 [(.bool false)]) (OY i1 u8)] {an:=[(5, .arr 0 (OY i1 u8))] } [] ⟨a1,(tL a1),(dD _ _ _ _ _ _ _ _ rfl (fun j hj=>(match j,hj with|0,_=>rfl))),trivial⟩ (bJ.le (st':=⟨(UB u2 u1 c2 u4 p u5 i1),(aeY u0 c2 c3 u3 u5 u1 i1 u7 u8)⟩) ⟨⟨tR,tR,tR,tR,tR,tR,tR,tR,tR,trivial⟩,⟨rfl, .refl _,⟨rfl,oW,⟨rfl, .refl _,⟨rfl, .refl _,⟨rfl, .refl _,⟨rfl, .refl _,⟨rfl, .refl _,⟨rfl, .refl _,⟨rfl,fG ⟨bH.refl _,bH.refl _,bH.refl _,bH.refl _,cW,bH.refl _,bH.refl _,bH.refl _,bH.refl _,bH.refl _,bH.refl _,trivial⟩,⟨rfl, .refl _,⟨rfl, .refl _,trivial⟩⟩⟩⟩⟩⟩⟩⟩⟩⟩⟩⟩) ?_
              refine ri tT ⟨(OT p u4 c2 u2 u5 u1 i1),(aeY u0 c2 c3 u3 u5 u1 i1 u7 u8)⟩ [] {} [] trivial (bJ.fin (st':=⟨(OT p u4 c2 u2 u5 u1 i1),[yx,(Xp i1 u8),(vN u0),(vC u0),(vT u0),(vQ u0),(vJ u0),(vz u0),(105,some (.cells 44 [(.own 109 false (OJ c2 u1 i1 u7)),(cB false),(cI (if u1<c2 then c2 else u1)),(cI (aaG u1 c2 u3 c3)),(.own 97 false ((u8.set i1.toNat false).length)),(.own 98 false u0.locked.length),(.own 99 false u0.badLink.length),(.own 100 false u0.on_.length),(.own 101 false u0.badSource.length),(.own 102 false u0.earthed.length),(.own 103 false u0.badBus.length)])),(GD u5),(109,some (Xu c2 u1 i1 u7))]⟩) (cs:=[]) ⟨[],[(80,80),(97,97),(98,98),(99,99),(100,100),(101,101),(102,102),(103,103),(105,105),(106,106),(163,109)]⟩ [2,3,6,9,10,11,14,18,22] (by kernel_rfl) trivial) ?_
              obtain rfl:=oi h
              exact lN
             ·refine cf hb5 ?_
              refine aP (rz tT ⟨(OT p u4 c2 u2 u5 u1 i1),(Rp u1 c2 u5 u3 c3 u8 u0 u7)⟩ {} [] ?_)
              obtain rfl:=oi h
              exact lN
            ·refine cf hb6 ?_
             refine aI (fz (alJ u4 p u5 u2 u8 u0 u7 u1 c2 c3 u3) []) ?_
             refine aX ?_
             obtain rfl:=oi h
             exact lB
           ·clear hy
            cases y3 with
            |brk z=>
             obtain⟨w2,w3⟩:=z
             unfold fE
             refine⟨_, .refl, ?_⟩
             obtain rfl:=oi h
             exact lN
            |ret v=>
             obtain rfl:=oi h
             unfold fE
             intro e st hn ha hR
             cases e with
             |normal=>exact absurd rfl hn
             |exit id=>simp only [tZ (b:=1) ha rfl,cond_false];exact hR
             |goto l=>exact hR
             |ret=>exact hR
             |panic c=>exact hR
             |outgrown=>exact hR
          ·refine cf hb9 ?_
           refine aP (sz tT ⟨(Xe p u4 c2 u2 u5 u1),[yx,(I9 c4),(vN u0),(vC u0),(vT u0),(vQ u0),(vJ u0),(vz u0),(105,some (.cells 44 [(.own 109 false c0.length),(cB false),(cI c2),(cI (Yj c3 u3 u1 c2)),(.own 97 false c4.length),(.own 98 false u0.locked.length),(.own 99 false u0.badLink.length),(.own 100 false u0.on_.length),(.own 101 false u0.badSource.length),(.own 102 false u0.earthed.length),(.own 103 false u0.badBus.length)])),(GD u5),(NV c0)]⟩ {} [] ?_)
           refine sz tT ⟨(Xe p u4 c2 u2 u5 u1),(Ry c3 u3 u1 c2 c4 u0 c0 u5)⟩ {} [] ?_
           refine sz tT ⟨(ae9 p u4 c2 u2 u5 u1),(Ry c3 u3 u1 c2 c4 u0 c0 u5)⟩ {} [] ?_
           refine bE h fun y4 hy h=> ?_
           refine aL [1] (wF p u4 u0 c2 c3 u2 u3 u5 u1) (wC p u4 u0 c2 c3 u2 u3 u5 u1) (QB p u4 u0) hy (fun s f h=> ?_) ?_
           ·clear hy
            show bG _ _ _ _ _ _ ((Fj p u4 u0 c2 c3 u2 u3 u5 u1) f) _
            unfold jI at h
            obtain⟨u9,v0,i2⟩:=s
            refine aQ (sz tT ⟨(aeT p u4 c2 u2 u5 u1 i2),(Ry c3 u3 u1 c2 v0 u0 u9 u5)⟩ {} [] ?_)
            refine bI h (fun hb8 h=> ?_) (fun hb8 h=> ?_)
            ·refine ct hb8 ?_
             refine aP (aQ (aB (aQ (bE h fun v8 hr_7 h=> ?_))))
             refine aO h fun⟨a1,a2⟩ h=> ?_
             refine dg tT mX ⟨(afd p u4 c2 u2 u5 u1 i2 v8),(Ry c3 u3 u1 c2 v0 u0 u9 u5)⟩ [_,_,_,Fn Tryz.prog 41 (abv u0 p v0 u5 i2 u2) (JZ u0 v0) (vI v8) (JZ u0 v0)] {an:=[(12, .callR [97,98,99,100,101,102,103] (vI v8))] } [] ⟨a1,a2,(tL a2),(Fn.DK (frz:=[97,98,99,100,101,102,103]) (p:=[v0.length=v0.length,u0.locked.length=u0.locked.length,u0.badLink.length=u0.badLink.length,u0.on_.length=u0.on_.length,u0.badSource.length=u0.badSource.length,u0.earthed.length=u0.earthed.length,u0.badBus.length=u0.badBus.length]) (rA p (Ui u0 v0) i2 (at' u2.1 i2.toNat) (at' u5 i2.toNat) hr_7) (by kernel_rfl) ⟨rfl,rfl,rfl,rfl,rfl,rfl,rfl,trivial⟩ rfl),trivial⟩ ?_
             refine sg tT ⟨(afJ p u4 c2 u2 u5 u1 i2 v8),(Ry c3 u3 u1 c2 v0 u0 u9 u5)⟩ (eqs (decide (0≤v8)) 4 []) {yb:=[(2,(decide (0≤v8)))] } [] (ae trivial) ?_
             refine bI h (fun hb7 h=> ?_) (fun hb7 h=> ?_)
             ·refine ct hb7 ?_
              refine sz tT ⟨(afx p u4 c2 u2 u5 u1 i2 u9),(Ry c3 u3 u1 c2 v0 u0 u9 u5)⟩ {} [] ?_
              refine aQ (aO h fun⟨a1,a2⟩ h=> ?_)
              refine rg tT ⟨(UB u2 u1 c2 u4 p u5 i2),[yx,(I9 v0),(vN u0),(vC u0),(vT u0),(vQ u0),(vJ u0),(vz u0),(afh u0 c2 c3 u3 u1 u9 i2 v0),(GD u5),(abG c2 u1 u9 i2)]⟩ [[(Fw c2 u1 i2)].length=1,aT 1 2 (xL 2 [(.int .i64 (if u1<c2 then c2 else u1)),(.int .i64 i2)]) (OV c2 u1 i2),u9.length=u9.length,_,_,(Na c2 u1 i2 u9).length=u9.length+[(Fw c2 u1 i2)].length,aT (u9.length+[(Fw c2 u1 i2)].length) 2 (yJ (au Event.cell u9) u9.length (OV c2 u1 i2)) (Xr c2 u1 i2 u9)] {an:=[(4, .arr [(Fw c2 u1 i2)].length (OV c2 u1 i2)),(5, .arr (Na c2 u1 i2 u9).length (Xr c2 u1 i2 u9))],fr:=[(4,170),(5,171)] } [] ⟨(rfl),((by intro i hi j hj;match i,j,hi,hj with|0,0,_,_=>rfl|0,1,_,_=>rfl)),rfl,a1,a2,(List.length_append),(dA _ _ _ _),trivial⟩ ?_
              refine aO h fun a1 h=> ?_
              refine ri tT ⟨(UB u2 u1 c2 u4 p u5 i2),[yx,(97,some (.arr 4 1 v0.length (OY i2 v0))),(vN u0),(vC u0),(vT u0),(vQ u0),(vJ u0),(vz u0),(afh u0 c2 c3 u3 u1 u9 i2 v0),(GD u5),(abG c2 u1 u9 i2)]⟩ [_,_,aT v0.length 1 (lH (au af v0) i2.toNat 0 [(.bool false)]) (OY i2 v0)] {an:=[(5, .arr 0 (OY i2 v0))] } [] ⟨a1,(tL a1),(dD _ _ _ _ _ _ _ _ rfl (fun j hj=>(match j,hj with|0,_=>rfl))),trivial⟩ (bJ.le (st':=⟨(UB u2 u1 c2 u4 p u5 i2),(afP u0 c2 c3 u3 u5 u1 u9 i2 v0)⟩) ⟨⟨tR,tR,tR,tR,tR,tR,tR,tR,tR,trivial⟩,⟨rfl, .refl _,⟨rfl,oW,⟨rfl, .refl _,⟨rfl, .refl _,⟨rfl, .refl _,⟨rfl, .refl _,⟨rfl, .refl _,⟨rfl, .refl _,⟨rfl,fG ⟨bH.refl _,bH.refl _,bH.refl _,bH.refl _,cW,bH.refl _,bH.refl _,bH.refl _,bH.refl _,bH.refl _,bH.refl _,trivial⟩,⟨rfl, .refl _,⟨rfl, .refl _,trivial⟩⟩⟩⟩⟩⟩⟩⟩⟩⟩⟩⟩) ?_
              refine ri tT ⟨(OT p u4 c2 u2 u5 u1 i2),(afP u0 c2 c3 u3 u5 u1 u9 i2 v0)⟩ [] {} [] trivial (bJ.fin (st':=⟨(OT p u4 c2 u2 u5 u1 i2),[yx,(Xp i2 v0),(vN u0),(vC u0),(vT u0),(vQ u0),(vJ u0),(vz u0),(105,some (.cells 44 [(.own 109 false (OJ c2 u1 i2 u9)),(cB false),(cI (if u1<c2 then c2 else u1)),(cI (Yj c3 u3 u1 c2)),(.own 97 false ((v0.set i2.toNat false).length)),(.own 98 false u0.locked.length),(.own 99 false u0.badLink.length),(.own 100 false u0.on_.length),(.own 101 false u0.badSource.length),(.own 102 false u0.earthed.length),(.own 103 false u0.badBus.length)])),(GD u5),(109,some (Xu c2 u1 i2 u9))]⟩) (cs:=[]) ⟨[],[(80,80),(97,97),(98,98),(99,99),(100,100),(101,101),(102,102),(103,103),(105,105),(106,106),(171,109)]⟩ [2,3,6,9,10,11,14,18,22] (by kernel_rfl) trivial) ?_
              obtain rfl:=oi h
              exact lN
             ·refine cf hb7 ?_
              refine aP (rz tT ⟨(OT p u4 c2 u2 u5 u1 i2),(Ry c3 u3 u1 c2 v0 u0 u9 u5)⟩ {} [] ?_)
              obtain rfl:=oi h
              exact lN
            ·refine cf hb8 ?_
             refine aI (fz ⟨(ahu u4 p u5 u2),(Ry c3 u3 u1 c2 v0 u0 u9 u5)⟩ []) ?_
             refine aX ?_
             obtain rfl:=oi h
             exact lB
           ·clear hy
            cases y4 with
            |brk z=>
             obtain⟨c04,c44⟩:=z
             unfold fE
             refine⟨_, .refl, ?_⟩
             obtain rfl:=oi h
             exact lN
            |ret v=>
             obtain rfl:=oi h
             unfold fE
             intro e st hn ha hR
             cases e with
             |normal=>exact absurd rfl hn
             |exit id=>simp only [tZ (b:=1) ha rfl,cond_false];exact hR
             |goto l=>exact hR
             |ret=>exact hR
             |panic c=>exact hR
             |outgrown=>exact hR
        |ret v=>
         obtain rfl:=oi h
         unfold fE
         intro e st hn ha hR
         cases e with
         |normal=>exact absurd rfl hn
         |exit id=>simp only [tZ (b:=1) ha rfl,cond_false];exact hR
         |goto l=>exact hR
         |ret=>exact hR
         |panic c=>exact hR
         |outgrown=>exact hR
     |ret v=>
      obtain rfl:=oi h
      unfold fE
      intro e st hn ha hR
      cases e with
      |normal=>exact absurd rfl hn
      |exit id=>simp only [tZ (b:=1) ha rfl,cond_false];exact hR
      |goto l=>exact hR
      |ret=>exact hR
      |panic c=>exact hR
      |outgrown=>exact hR
   ·clear hy
    cases y5 with
    |brk z=>exact absurd h (by simp)
    |ret v=>
     obtain rfl:=oi h
     unfold fE
     intro e st hn ha hR
     cases e with
     |normal=>exact absurd rfl hn
     |exit id=>exact hR
     |goto l=>exact hR
     |ret=>exact hR
     |panic c=>exact hR
     |outgrown=>exact hR
def pF  :(Bool × Int)→Exit→St→Prop:=
  fun r=>aW TT [.tmp 6, .tmp 7] (.iB [(sB r.1),(sI r.2)]) []
section
variable (p:ah) (r_:(aj × Int))
abbrev aeS:Nat × Option Ob:=(16,some (Xh p))
abbrev J7:List (Nat × Option Ob):=[(aeS p),(18,some (aF 105 2 Event.cell r_.1.events)),(19,some (aF 4 1 af r_.1.state.closed)),(20,some (aF 4 1 af r_.1.state.locked)),(21,some (aF 4 1 af r_.1.state.badLink)),(22,some (aF 4 1 af r_.1.state.on_)),(23,some (aF 4 1 af r_.1.state.badSource)),(24,some (aF 4 1 af r_.1.state.earthed)),(25,some (aF 4 1 af r_.1.state.badBus)),(27,some (.cells 44 [(.own 18 false r_.1.events.length),(cB r_.1.cleared),(cI r_.1.millis),(cI r_.1.energy),(.own 19 false r_.1.state.closed.length),(.own 20 false r_.1.state.locked.length),(.own 21 false r_.1.state.badLink.length),(.own 22 false r_.1.state.on_.length),(.own 23 false r_.1.state.badSource.length),(.own 24 false r_.1.state.earthed.length),(.own 25 false r_.1.state.badBus.length)]))]
end
def uR (p:ah) (u0:Int) (r_:(aj × Int)):Int→St:=
  fun i=> ⟨[(2,(vI u0)),(3,(vP 16 0)),(8,(vP 27 0)),(10,(vI i))],(J7 p r_)⟩
def uY  :Unit→St:=
  fun _=> ⟨[],[]⟩
def Et (p:ah) (u0:Int) (r_:(aj × Int)):(aM Int (Ex Unit (Bool × Int)))→Exit→St→Prop:=
  LQ 0 [] (uR p u0 r_) uY pF
section
variable (p:ah) (r_:(aj × Int)) (i:Int) (u0:Int)
abbrev J8:=(at' p.links (((at' r_.1.events i.toNat).link).toNat))
abbrev aaR:=(!decide (((J8 p r_ i).a)=u0))
end
theorem Dy (p:ah) (s_:State) (u0:Int) {r:(Bool × Int)} (h:iY p s_ u0=some r):Fn Tryz.prog 15 (Kj p s_ u0) [] (.iB [(sB r.1),(sI r.2)]) []:=by
 refine fN tT Tryz.func15 rfl rfl fun B=> ?_
 show bG _ _ _ _ _ _ (pF r) _
 unfold iY at h
 refine sz tT ⟨[(2,(vI u0)),(3,(vP 16 0)),(fH s_)],[(aeS p)]⟩ {fr:=[(0,16),(1,17)] } [17] ?_
 refine aQ (bE h fun r_ hr_ h=> ?_)
 have q0:=rk [(0,18),(1,19),(2,20),(3,21),(4,22),(5,23),(6,24),(7,25),(8,26)] (pE p s_ u0 hr_)
 refine rg tT ⟨[(2,(vI u0)),(3,(vP 16 0)),(8,(vP 27 0)),(9,(vI r_.2))],(J7 p r_)⟩ [_] {an:=[(3,cA q0 [])],fr:=[(7,27)] } [] ⟨q0,trivial⟩ ?_
 refine aQ (sg tT ⟨[(2,(vI u0)),(3,(vP 16 0)),(8,(vP 27 0)),(9,(vI r_.2)),(25,(vB (bif (!decide (r_.2=0))then true else(!r_.1.cleared))))],(J7 p r_)⟩ (eqs (!decide (r_.2=0)) 4 []) {yb:=[(2,(!decide (r_.2=0)))] } [] (ae trivial) ?_)
 refine bI h (fun hb2 h=> ?_) (fun hb2 h=> ?_)
 ·refine ct hb2 ?_
  refine sz tT ⟨[(6,(vB false)),(7,(vI r_.2))],[]⟩ {} [] ?_
  refine aR ?_
  obtain rfl:=oi h
  exact rl [(sB false),(sI r_.2)]
 ·refine cf hb2 ?_
  refine aP (aQ (sz tT ⟨[(2,(vI u0)),(3,(vP 16 0)),(8,(vP 27 0)),(10,(vI 0))],(J7 p r_)⟩ {} [] ?_))
  refine bE h fun y hy h=> ?_
  refine aL [] (uR p u0 r_) uY pF hy (fun s f h=> ?_) ?_
  ·clear hy
   show bG _ _ _ _ _ _ ((Et p u0 r_) f) _
   unfold iT at h
   obtain⟨i,rfl⟩: ∃q,q=s:=⟨_,rfl⟩
   refine aQ (sz tT ⟨[(2,(vI u0)),(3,(vP 16 0)),(8,(vP 27 0)),(10,(vI i)),(31,(vB (decide (i<(r_.1.events.length:Int)))))],(J7 p r_)⟩ {} [] ?_)
   refine bI h (fun hb1 h=> ?_) (fun hb1 h=> ?_)
   ·refine ct hb1 ?_
    refine aP (aQ (aB (aQ (aO h fun⟨a1,a2⟩ h=> ?_))))
    refine dg tT mX ⟨[(2,(vI u0)),(3,(vP 16 0)),(8,(vP 27 0)),(10,(vI i)),(11,(vD (oL [(.int .i64 ((J8 p r_ i).a)),(.int .i64 ((J8 p r_ i).b)),(.int .i64 ((J8 p r_ i).kind)),(.int .i64 ((J8 p r_ i).most)),(.int .i64 ((J8 p r_ i).bK)),(aD none 2 bP.cell ((J8 p r_ i).trip))] 0)))],(J7 p r_)⟩ [_,_,_] {fr:=[(10,31)] } [31] ⟨a1,(tL a1),a2,trivial⟩ ?_
    refine sg tT ⟨[(2,(vI u0)),(3,(vP 16 0)),(8,(vP 27 0)),(10,(vI i)),(53,(vB (bif (aaR p r_ i u0)then(!decide (((J8 p r_ i).b)=u0))else false)))],(J7 p r_)⟩ (eqs (aaR p r_ i u0) 5 []) {yb:=[(4,(aaR p r_ i u0))] } [] (ae trivial) ?_
    refine bI h (fun hb h=> ?_) (fun hb h=> ?_)
    ·refine ct hb ?_
     refine sz tT ⟨[(6,(vB false)),(7,(vI 0))],[]⟩ {} [] ?_
     refine aR ?_
     obtain rfl:=oi h
     exact lR bY (dm 0) bZ (aW.mk (.inr rfl) (p:=[]) (l:=[(sB false),(sI 0)]) (by kernel_rfl) trivial (fe.refl _) trivial)
    ·refine cf hb ?_
     refine aP (rz tT ⟨[(2,(vI u0)),(3,(vP 16 0)),(8,(vP 27 0)),(adM i)],(J7 p r_)⟩ {} [] ?_)
     obtain rfl:=oi h
     exact lN
   ·refine cf hb1 ?_
    refine aI (fz ⟨[],[]⟩ []) ?_
    refine aX ?_
    obtain rfl:=oi h
    exact lB
  ·clear hy
   cases y with
   |brk z=>
    unfold fE
    refine⟨_, .refl, ?_⟩
    refine sz tT ⟨[(6,(vB true)),(7,(vI 0))],[]⟩ {} [] ?_
    refine aR ?_
    obtain rfl:=oi h
    exact rl [(sB true),(sI 0)]
   |ret v=>
    obtain rfl:=oi h
    unfold fE
    intro e st hn ha hR
    cases e with
    |normal=>exact absurd rfl hn
    |exit id=>exact hR
    |goto l=>exact hR
    |ret=>exact hR
    |panic c=>exact hR
    |outgrown=>exact hR
def vS  :(List Bool)→Exit→St→Prop:=
  fun r=>aW TT [.tmp 6] (vD (aD none 1 af r)) []
section
variable (u0:(List Bool)) (p:ah) (s_:State) (n:Int)
abbrev Ea:Nat × TV:=(7,(vO 21 true u0.length))
abbrev FI:Nat × Option Ob:=(19,some (Xh p))
abbrev Ns:List (Nat × Option Ob):=[(FI p),(21,some (aF 4 1 af u0))]
abbrev aaA:St:=⟨[(3,(vP 19 0)),(fH s_),(Ea u0),(8,(vI n))],(Ns u0 p)⟩
end
def Bl (p:ah) (s_:State):((List Bool) × Int)→St:=
  fun zz=>match zz with|(u0,n)=>(aaA u0 p s_ n)
def Ao  :(List Bool)→St:=
  fun u0=> ⟨[(Ea u0)],[(21,some (aF 4 1 af u0))]⟩
def tN (p:ah) (s_:State):(aM ((List Bool) × Int) (Ex (List Bool) (List Bool)))→Exit→St→Prop:=
  LQ 0 [] (Bl p s_) Ao vS
def Be (p:ah) (s_:State) (n:Int):((List Bool) × Int)→St:=
  fun zz=>match zz with|(u0,i)=> ⟨[(3,(vP 19 0)),(fH s_),(Ea u0),(8,(vI n)),(9,(vI i))],(Ns u0 p)⟩
def AZ (p:ah) (s_:State) (n:Int):(List Bool)→St:=
  fun u0=>(aaA u0 p s_ n)
def Jz (p:ah) (s_:State) (n:Int):(aM ((List Bool) × Int) (Ex (List Bool) (aM ((List Bool) × Int) (Ex (List Bool) (List Bool)))))→Exit→St→Prop:=
  LQ 2 [1] (Be p s_ n) (AZ p s_ n) (tN p s_)
section
variable (p:ah) (b:Int) (s_:State) (u0:(List Bool)) (n:Int) (i:Int) (r_:Bool)
abbrev Xn:=((Dr p).set b.toNat true)
abbrev aaM:=(au af (Xn p b))
abbrev afa:List (Nat × Option Ob):=[(FI p),(21,some (aF 4 1 af (Xn p b)))]
abbrev afL:List (Nat × TV):=[(3,(vP 19 0)),(fH s_),(Ea u0),(8,(vI n)),(9,(vI i)),(10,(vP 37 0))]
abbrev ZP:Nat × Option Ob:=(37,some (.cells 66 [(cI (Jq p i)),(cI (Gs p i)),(cI ((at' p.links i.toNat).kind)),(cI ((at' p.links i.toNat).most)),(cI ((at' p.links i.toNat).bK)),(.d (aD none 2 bP.cell ((at' p.links i.toNat).trip)))]))
abbrev afi:List (Nat × Option Ob):=[(FI p),(21,some (aF 4 1 af u0)),(ZP p i)]
abbrev JS:=(at' u0 (abO i p))
abbrev Ul:=(ic [(4,r_),(10,(JS p u0 i))])
abbrev MQ:=(u0.set (abO i p) true)
abbrev Xz:=(au af (MQ p u0 i))
abbrev aac:=((MQ p u0 i).set (abu i p) true)
abbrev ZU:=(au af (aac p u0 i))
abbrev afn:Nat × TV:=(7,(vO 21 true ((aac p u0 i).length)))
abbrev afN:List (Nat × Option Ob):=[(FI p),(21,some (aF 4 1 af (aac p u0 i)))]
end
theorem JL (p:ah) (s_:State) (b:Int) {r:(List Bool)} (h:kT p s_ b=some r):Fn Tryz.prog 119 (Kj p s_ b) [] (vD (aD none 1 af r)) []:=by
 refine fN tT Tryz.func119 rfl rfl fun B=> ?_
 show bG _ _ _ _ _ _ (vS r) _
 unfold kT at h
 refine sz tT ⟨[(2,(vI b)),(3,(vP 19 0)),(fH s_)],[(FI p)]⟩ {fr:=[(0,19),(1,20)] } [20] ?_
 refine aQ (aO h fun⟨a1,a2,a3⟩ h=> ?_)
 refine rg tT ⟨[(2,(vI b)),(3,(vP 19 0)),(fH s_),(7,(vO 21 true (YB p)))],[(FI p),(21,some (aaV p))]⟩ [_,(p.buses:Int)=p.buses,_,_,(Dr p).length=p.buses.toNat,aT p.buses.toNat 1 (fun _ j=>[(.bool false)].getD j .nilp) (QR p)] {an:=[(2, .arr (Dr p).length (QR p))],fr:=[(2,21)] } [] ⟨a1,rfl,a2,a3,(List.length_replicate),(iZ _ _ _ _ _ (fun j hj=>(match j,hj with|0,_=>rfl))),trivial⟩ ?_
 refine aQ (aO h fun a1 h=> ?_)
 refine ri tT ⟨[(3,(vP 19 0)),(fH s_),(7,(vO 21 true (YB p)))],[(FI p),(21,some (.arr 4 1 (Dr p).length (aaM p b)))]⟩ [_,_,aT (Dr p).length 1 (lH (QR p) b.toNat 0 [(.bool true)]) (aaM p b)] {an:=[(3, .arr 0 (aaM p b))] } [] ⟨a1,(tL a1),(dD _ _ _ _ _ _ _ _ rfl (fun j hj=>(match j,hj with|0,_=>rfl))),trivial⟩ (bJ.le (st':=⟨[(3,(vP 19 0)),(fH s_),(7,(vO 21 true ((Xn p b).length)))],(afa p b)⟩) ⟨⟨tR,tR,⟨_,rfl,fe.v (jB.one cW)⟩,trivial⟩,⟨rfl, .refl _,⟨rfl,oW,trivial⟩⟩⟩) ?_
 refine aQ (sz tT ⟨[(3,(vP 19 0)),(fH s_),(7,(vO 21 true ((Xn p b).length))),(8,(vI 0))],(afa p b)⟩ {} [] ?_)
 refine bE h fun y1 hy h=> ?_
 refine aL [] (Bl p s_) Ao vS hy (fun s f h=> ?_) ?_
 ·clear hy
  show bG _ _ _ _ _ _ ((tN p s_) f) _
  unfold jF at h
  obtain⟨u1,n⟩:=s
  refine aQ (sz tT ⟨[(3,(vP 19 0)),(fH s_),(Ea u1),(8,(vI n)),(20,(vB (decide (n<p.buses))))],(Ns u1 p)⟩ {} [] ?_)
  refine bI h (fun hb2 h=> ?_) (fun hb2 h=> ?_)
  ·refine ct hb2 ?_
   refine aP (aQ (aB (sz tT ⟨[(3,(vP 19 0)),(fH s_),(Ea u1),(8,(vI n)),(9,(vI 0))],(Ns u1 p)⟩ {} [] ?_)))
   refine bE h fun y hy h=> ?_
   refine aL [1] (Be p s_ n) (AZ p s_ n) (tN p s_) hy (fun s f h=> ?_) ?_
   ·clear hy
    show bG _ _ _ _ _ _ ((Jz p s_ n) f) _
    unfold jM at h
    obtain⟨u0,i⟩:=s
    refine aQ (sz tT ⟨[(3,(vP 19 0)),(fH s_),(Ea u0),(8,(vI n)),(9,(vI i)),(27,(k48 p i))],(Ns u0 p)⟩ {} [] ?_)
    refine bI h (fun hb1 h=> ?_) (fun hb1 h=> ?_)
    ·refine ct hb1 ?_
     refine aP (aQ (aB (aQ (aO h fun a1 h=> ?_))))
     refine rg tT ⟨(afL s_ u0 n i),(afi p u0 i)⟩ [_] {fr:=[(5,37)] } [] ⟨a1,trivial⟩ ?_
     refine aQ (bE h fun r_ hr_ h=> ?_)
     refine aO h fun⟨a1,a2⟩ h=> ?_
     have q0:=jm p s_ i hr_
     refine rg tT ⟨[(3,(vP 19 0)),(fH s_),(Ea u0),(8,(vI n)),(9,(vI i)),(10,(vP 37 0)),(52,(vB (bif r_ then(bif (JS p u0 i)then true else(at' u0 (abu i p)))else false)))],(afi p u0 i)⟩ (_::(eqs r_ 4 ((gP (Ul p u0 i r_) [(4,true)]→All [(0:Int)≤(at' p.links i.toNat).a∧(at' p.links i.toNat).a<(u0.length:Int)])::(r_=r_)::(gP (Ul p u0 i r_) [(4,true)]→All [(Jq p i).toNat<u0.length])::(r_=r_)::(eqs (JS p u0 i) 4 [gP (Ul p u0 i r_) [(10,false),(4,true)]→All [(0:Int)≤(at' p.links i.toNat).b∧(at' p.links i.toNat).b<(u0.length:Int)],(JS p u0 i)=(JS p u0 i),gP (Ul p u0 i r_) [(10,false),(4,true)]→All [(Gs p i).toNat<u0.length],r_=r_,gP (Ul p u0 i r_) [(4,true)]→All [(JS p u0 i)=(JS p u0 i)],r_=r_])))) {yb:=[(4,r_),(10,(JS p u0 i))],an:=[(3,cA q0 [])] } [] ⟨q0,(ae ⟨(fun hg=> ⟨(a1 (aU hg)),trivial⟩),rfl,(fun hg=> ⟨((fun hq=>tL (a1 hq)) (aU hg)),trivial⟩),rfl,(ae ⟨(fun hg=> ⟨(a2 (aU hg)),trivial⟩),rfl,(fun hg=> ⟨((fun hq=>tL (a2 hq)) (aU hg)),trivial⟩),rfl,(fun hg=> ⟨rfl,trivial⟩),rfl,trivial⟩)⟩)⟩ ?_
     refine bI h (fun hb h=> ?_) (fun hb h=> ?_)
     ·refine ct hb ?_
      refine aQ (aO h fun a1 h=> ?_)
      refine ri tT ⟨(afL s_ u0 n i),[(FI p),(21,some (.arr 4 1 u0.length (Xz p u0 i))),(ZP p i)]⟩ [_,_,aT u0.length 1 (lH (au af u0) (abO i p) 0 [(.bool true)]) (Xz p u0 i)] {an:=[(4, .arr 0 (Xz p u0 i))] } [] ⟨a1,(tL a1),(dD _ _ _ _ _ _ _ _ rfl (fun j hj=>(match j,hj with|0,_=>rfl))),trivial⟩ (bJ.le (st':=⟨[(3,(vP 19 0)),(fH s_),(7,(vO 21 true ((MQ p u0 i).length))),(8,(vI n)),(9,(vI i)),(10,(vP 37 0))],[(FI p),(21,some (aF 4 1 af (MQ p u0 i))),(ZP p i)]⟩) ⟨⟨tR,tR,⟨_,rfl,fe.v (jB.one cW)⟩,tR,tR,tR,trivial⟩,⟨rfl, .refl _,⟨rfl,oW,⟨rfl, .refl _,trivial⟩⟩⟩⟩) ?_
      refine aO h fun a1 h=> ?_
      refine ri tT ⟨[(3,(vP 19 0)),(fH s_),(7,(vO 21 true ((MQ p u0 i).length))),(8,(vI n)),(9,(vI i))],[(FI p),(21,some (.arr 4 1 (MQ p u0 i).length (ZU p u0 i)))]⟩ [_,_,aT (MQ p u0 i).length 1 (lH (Xz p u0 i) (abu i p) 0 [(.bool true)]) (ZU p u0 i)] {an:=[(4, .arr 0 (ZU p u0 i))] } [] ⟨a1,(tL a1),(dD _ _ _ _ _ _ _ _ rfl (fun j hj=>(match j,hj with|0,_=>rfl))),trivial⟩ (bJ.le (st':=⟨[(3,(vP 19 0)),(fH s_),(afn p u0 i),(8,(vI n)),(9,(vI i))],(afN p u0 i)⟩) ⟨⟨tR,tR,⟨_,rfl,fe.v (jB.one cW)⟩,tR,tR,trivial⟩,⟨rfl, .refl _,⟨rfl,oW,trivial⟩⟩⟩) ?_
      refine rz tT ⟨[(3,(vP 19 0)),(fH s_),(afn p u0 i),(8,(vI n)),(Y6 i)],(afN p u0 i)⟩ {} [] ?_
      obtain rfl:=oi h
      exact lN
     ·refine cf hb ?_
      refine aP (rz tT ⟨[(3,(vP 19 0)),(fH s_),(Ea u0),(8,(vI n)),(Y6 i)],(Ns u0 p)⟩ {} [] ?_)
      obtain rfl:=oi h
      exact lN
    ·refine cf hb1 ?_
     refine aI (fz (aaA u0 p s_ n) []) ?_
     refine aX ?_
     obtain rfl:=oi h
     exact lB
   ·clear hy
    cases y with
    |brk z=>
     obtain⟨u3,rfl⟩: ∃q,q=z:=⟨_,rfl⟩
     unfold fE
     refine⟨_, .refl, ?_⟩
     refine rz tT ⟨[(3,(vP 19 0)),(fH s_),(Ea u3),(Zv n)],(Ns u3 p)⟩ {} [] ?_
     obtain rfl:=oi h
     exact lN
    |ret v=>
     obtain rfl:=oi h
     unfold fE
     intro e st hn ha hR
     cases e with
     |normal=>exact absurd rfl hn
     |exit id=>simp only [tZ (b:=1) ha rfl,cond_false];exact hR
     |goto l=>exact hR
     |ret=>exact hR
     |panic c=>exact hR
     |outgrown=>exact hR
  ·refine cf hb2 ?_
   refine aI (fz ⟨[(Ea u1)],[(21,some (aF 4 1 af u1))]⟩ []) ?_
   refine aX ?_
   obtain rfl:=oi h
   exact lB
 ·clear hy
  cases y1 with
  |brk z=>
   obtain⟨u2,rfl⟩: ∃q,q=z:=⟨_,rfl⟩
   unfold fE
   refine⟨_, .refl, ?_⟩
   refine sg tT ⟨[(6,(vD (aD (some true) 1 af u2)))],[]⟩ [u2.length=u2.length] {} [21] ⟨rfl,trivial⟩ ?_
   refine aI (bJ.le (st':=⟨[(6,(vD (aD none 1 af u2)))],[]⟩) ⟨⟨⟨_,rfl,fe.v (jB.one (bH.d dR.nI))⟩,trivial⟩,trivial⟩) ?_
   refine aR ?_
   obtain rfl:=oi h
   exact rl [(sD (aD none 1 af u2))]
  |ret v=>
   obtain rfl:=oi h
   unfold fE
   intro e st hn ha hR
   cases e with
   |normal=>exact absurd rfl hn
   |exit id=>exact hR
   |goto l=>exact hR
   |ret=>exact hR
   |panic c=>exact hR
   |outgrown=>exact hR
def yB  :((List Bool) × Int)→Exit→St→Prop:=
  fun r=>aW TT [.tmp 4, .tmp 5] (.iB [(sD (aD none 1 af r.1)),(sI r.2)]) []
section
variable (u0:(List Bool)) (p:ah) (s_:State) (k:Int)
abbrev FL:Nat × TV:=(7,(vO 5 true u0.length))
abbrev FB:List (Nat × Option Ob):=[(5,some (aF 4 1 af u0))]
abbrev ab4:St:=⟨[(k7 p),(dS s_),(FL u0),(8,(vI k))],(FB u0)⟩
end
def Ck (p:ah) (s_:State):((List Bool) × Int)→St:=
  fun zz=>match zz with|(u0,k)=>(ab4 u0 p s_ k)
def Cx  :(List Bool)→St:=
  fun u0=> ⟨[(FL u0)],(FB u0)⟩
def vH (p:ah) (s_:State):(aM ((List Bool) × Int) (Ex (List Bool) ((List Bool) × Int)))→Exit→St→Prop:=
  LQ 0 [] (Ck p s_) Cx yB
section
variable (u1:(List Bool)) (p:ah) (s_:State) (u0:(List Bool)) (k:Int) (b:Int)
abbrev O6:Nat × TV:=(9,(vD (aD none 1 af u1)))
abbrev ae2:List (Nat × TV):=[(k7 p),(dS s_),(FL u0),(8,(vI k)),(O6 u1),(10,(vI b))]
end
def Ct (p:ah) (s_:State) (k:Int) (u1:(List Bool)):((List Bool) × Int)→St:=
  fun zz=>match zz with|(u0,b)=> ⟨(ae2 u1 p s_ u0 k b),(FB u0)⟩
def Cu (p:ah) (s_:State) (k:Int):(List Bool)→St:=
  fun u0=>(ab4 u0 p s_ k)
def KI (p:ah) (s_:State) (k:Int) (u0:(List Bool)):(aM ((List Bool) × Int) (Ex (List Bool) (aM ((List Bool) × Int) (Ex (List Bool) ((List Bool) × Int)))))→Exit→St→Prop:=
  LQ 2 [1] (Ct p s_ k u0) (Cu p s_ k) (vH p s_)
section
variable (p:ah) (s_:State) (u2:(List Bool)) (k:Int) (u0:(List Bool)) (b:Int) (u1:(List Bool))
abbrev afE:St:=⟨[(k7 p),(dS s_),(FL u2),(Zv k)],(FB u2)⟩
abbrev R4:=(u0.set b.toNat (bif (at' u0 b.toNat)then true else(at' u1 b.toNat)))
abbrev acw:=(au af (R4 u0 b u1))
end
theorem Kq (p:ah) (s_:State) {r:((List Bool) × Int)} (h:oM p s_=some r):Fn Tryz.prog 93 (Oc s_ p) [] (.iB [(sD (aD none 1 af r.1)),(sI r.2)]) []:=by
 refine fN tT Tryz.func93 rfl rfl fun B=> ?_
 show bG _ _ _ _ _ _ (yB r) _
 unfold oM at h
 refine sz tT (ZX p s_) {fr:=[(0,3),(1,4)] } [3,4] ?_
 refine aQ (bE h fun r_ hr_ h=> ?_)
 have q0:=nA p s_ hr_
 refine rg tT (ajn p s_ r_) [_] {an:=[(2,cA q0 [])] } [] ⟨q0,trivial⟩ ?_
 refine aQ (sz tT ⟨[(k7 p),(dS s_),(6,(vI r_)),(15,(vB (!decide (r_=0))))],[]⟩ {} [] ?_)
 refine bI h (fun hb3 h=> ?_) (fun hb3 h=> ?_)
 ·refine ct hb3 ?_
  refine sz tT ⟨[(4,(vD nS)),(5,(vI r_))],[]⟩ {} [] ?_
  refine aI (bJ.le (st':=⟨[(4,(vD CQ)),(5,(vI r_))],[]⟩) ⟨⟨⟨_,rfl,fe.v (jB.one (bH.d dR.nil'))⟩,tR,trivial⟩,trivial⟩) ?_
  refine aR ?_
  obtain rfl:=oi h
  exact rl [(sD CQ),(sI r_)]
 ·refine cf hb3 ?_
  refine aP (aQ (aO h fun⟨a1,a2,a3⟩ h=> ?_))
  refine rg tT ⟨[(k7 p),(dS s_),(7,(vO 5 true (YB p)))],[(5,some (aaV p))]⟩ [_,(p.buses:Int)=p.buses,_,_,(Dr p).length=p.buses.toNat,aT p.buses.toNat 1 (fun _ j=>[(.bool false)].getD j .nilp) (QR p)] {an:=[(2, .arr (Dr p).length (QR p))],fr:=[(2,5)] } [] ⟨a1,rfl,a2,a3,(List.length_replicate),(iZ _ _ _ _ _ (fun j hj=>(match j,hj with|0,_=>rfl))),trivial⟩ ?_
  refine aQ (sz tT ⟨[(k7 p),(dS s_),(7,(vO 5 true (YB p))),(8,(vI 0))],[(5,some (aaV p))]⟩ {} [] ?_)
  refine bE h fun y1 hy h=> ?_
  refine aL [] (Ck p s_) Cx yB hy (fun s f h=> ?_) ?_
  ·clear hy
   show bG _ _ _ _ _ _ ((vH p s_) f) _
   unfold ji at h
   obtain⟨u2,k⟩:=s
   refine aQ (sz tT ⟨[(k7 p),(dS s_),(FL u2),(8,(vI k)),(24,(k36 p k))],(FB u2)⟩ {} [] ?_)
   refine bI h (fun hb2 h=> ?_) (fun hb2 h=> ?_)
   ·refine ct hb2 ?_
    refine aP (aQ (aB (aQ (aQ (bE h fun u5 hr_1 h=> ?_)))))
    have q0:=AR p s_ k hr_1
    refine rg tT ⟨[(k7 p),(dS s_),(FL u2),(8,(vI k)),(31,(vB (!u5)))],(FB u2)⟩ [_] {an:=[(3,cA q0 [])] } [] ⟨q0,trivial⟩ ?_
    refine bI h (fun hb1 h=> ?_) (fun hb1 h=> ?_)
    ·refine ct hb1 ?_
     refine aX (rz tT (afE p s_ u2 k) {} [] ?_)
     obtain rfl:=oi h
     exact lN
    ·refine cf hb1 ?_
     refine aP (aQ (bE h fun u1 hr_2 h=> ?_))
     refine aO h fun a1 h=> ?_
     have q1:=JL p s_ (ZJ p k) hr_2
     refine dg tT mX ⟨[(k7 p),(dS s_),(FL u2),(8,(vI k)),(O6 u1)],(FB u2)⟩ [_,_] {an:=[(8,cA q1 [])] } [] ⟨a1,q1,trivial⟩ ?_
     refine sz tT ⟨[(k7 p),(dS s_),(FL u2),(8,(vI k)),(O6 u1),(10,(vI 0))],(FB u2)⟩ {} [] ?_
     refine bE h fun y hy h=> ?_
     refine aL [1] (Ct p s_ k u1) (Cu p s_ k) (vH p s_) hy (fun s f h=> ?_) ?_
     ·clear hy
      show bG _ _ _ _ _ _ ((KI p s_ k u1) f) _
      unfold jd at h
      obtain⟨u0,b⟩:=s
      refine aQ (sz tT ⟨[(k7 p),(dS s_),(FL u0),(8,(vI k)),(O6 u1),(10,(vI b)),(44,(vB (decide (b<p.buses))))],(FB u0)⟩ {} [] ?_)
      refine bI h (fun hb h=> ?_) (fun hb h=> ?_)
      ·refine ct hb ?_
       refine aP (aQ (aB (aO h fun⟨a1,a2⟩ h=> ?_)))
       refine ri tT ⟨(ae2 u1 p s_ u0 k b),[(5,some (.arr 4 1 u0.length (acw u0 b u1)))]⟩ (_::_::(eqs (at' u0 b.toNat) 3 ((gP (ic [(6,(at' u0 b.toNat))]) [(6,false)]→All [(0:Int)≤b∧b<(u1.length:Int)])::(eqs (at' u0 b.toNat) 2 [_,_,aT u0.length 1 (lH (au af u0) b.toNat 0 [(.bool (bif (at' u0 b.toNat)then true else(at' u1 b.toNat)))]) (acw u0 b u1)])))) {yb:=[(6,(at' u0 b.toNat))],an:=[(13, .arr 0 (acw u0 b u1))] } [] ⟨a1,(tL a1),(ae ⟨(fun hg=> ⟨(a2 (aU hg)),trivial⟩),(ae ⟨a1,(tL a1),(dD _ _ _ _ _ _ _ _ rfl (fun j hj=>(match j,hj with|0,_=>rfl))),trivial⟩)⟩)⟩ (bJ.le (st':=⟨[(k7 p),(dS s_),(7,(vO 5 true ((R4 u0 b u1).length))),(8,(vI k)),(O6 u1),(10,(vI b))],[(5,some (aF 4 1 af (R4 u0 b u1)))]⟩) ⟨⟨tR,tR,⟨_,rfl,fe.v (jB.one cW)⟩,tR,tR,tR,trivial⟩,⟨rfl,oW,trivial⟩⟩) ?_
       refine rz tT ⟨[(k7 p),(dS s_),(7,(vO 5 true ((R4 u0 b u1).length))),(8,(vI k)),(O6 u1),(adM b)],[(5,some (aF 4 1 af (R4 u0 b u1)))]⟩ {} [] ?_
       obtain rfl:=oi h
       exact lN
      ·refine cf hb ?_
       refine aI (fz (ab4 u0 p s_ k) []) ?_
       refine aX ?_
       obtain rfl:=oi h
       exact lB
     ·clear hy
      cases y with
      |brk z=>
       obtain⟨u4,rfl⟩: ∃q,q=z:=⟨_,rfl⟩
       unfold fE
       refine⟨_, .refl, ?_⟩
       refine rz tT (afE p s_ u4 k) {} [] ?_
       obtain rfl:=oi h
       exact lN
      |ret v=>
       obtain rfl:=oi h
       unfold fE
       intro e st hn ha hR
       cases e with
       |normal=>exact absurd rfl hn
       |exit id=>simp only [tZ (b:=1) ha rfl,cond_false];exact hR
       |goto l=>exact hR
       |ret=>exact hR
       |panic c=>exact hR
       |outgrown=>exact hR
   ·refine cf hb2 ?_
    refine aI (fz ⟨[(FL u2)],(FB u2)⟩ []) ?_
    refine aX ?_
    obtain rfl:=oi h
    exact lB
  ·clear hy
   cases y1 with
   |brk z=>
    obtain⟨u3,rfl⟩: ∃q,q=z:=⟨_,rfl⟩
    unfold fE
    refine⟨_, .refl, ?_⟩
    refine sg tT ⟨[(4,(vD (aD (some true) 1 af u3))),(5,(vI 0))],[]⟩ [u3.length=u3.length] {} [5] ⟨rfl,trivial⟩ ?_
    refine aI (bJ.le (st':=⟨[(Zo u3),(5,(vI 0))],[]⟩) ⟨⟨⟨_,rfl,fe.v (jB.one (bH.d dR.nI))⟩,tR,trivial⟩,trivial⟩) ?_
    refine aR ?_
    obtain rfl:=oi h
    exact rl [(sD (aD none 1 af u3)),(sI 0)]
   |ret v=>
    obtain rfl:=oi h
    unfold fE
    intro e st hn ha hR
    cases e with
    |normal=>exact absurd rfl hn
    |exit id=>exact hR
    |goto l=>exact hR
    |ret=>exact hR
    |panic c=>exact hR
    |outgrown=>exact hR
def zT  :((List ax) × Int)→Exit→St→Prop:=
  fun r=>aW TT [.tmp 4, .tmp 5] (.iB [(sD (aD none 2 ax.cell r.1)),(sI r.2)]) []
section
variable (p:ah) (u0:(List ax))
abbrev Pw:Nat × Option Ob:=(14,some (Xh p))
abbrev aaI:List (Nat × Option Ob):=[(Pw p),(18,some (aF 116 2 ax.cell u0))]
end
def Em (p:ah) (r_:((List Bool) × Int)):((List ax) × Int)→St:=
  fun zz=>match zz with|(u0,u1)=> ⟨[(2,(vP 14 0)),(pG r_),(8,(vO 18 false u0.length)),(9,(vI u1))],(aaI p u0)⟩
def DW  :(List ax)→St:=
  fun u0=> ⟨[(8,(vO 18 false u0.length))],[(18,some (aF 116 2 ax.cell u0))]⟩
def Nr (p:ah) (r_:((List Bool) × Int)):(aM ((List ax) × Int) (Ex (List ax) ((List ax) × Int)))→Exit→St→Prop:=
  LQ 0 [] (Em p r_) DW zT
section
variable (p:ah) (u0:Int) (r_:((List Bool) × Int)) (u1:(List ax))
abbrev TY:List (Nat × Option Ob):=[(Pw p)]
abbrev afB:=(bif (K3 p u0)then(at' r_.1 ((if(ZK p u0).e1<0 then 0 else(ZK p u0).e1).toNat))else false)
abbrev Pj:=(⟨(at' r_.1 ((Xj p u0).toNat)),(afB p u0 r_)⟩:ax)
abbrev U3:=(u1++[(Pj p u0 r_)])
abbrev afe:=((U3 p u0 r_ u1).length)
abbrev afR:Nat × TV:=(8,(vO 27 false (afe p u0 r_ u1)))
abbrev afA:Ob:=(aF 116 2 ax.cell (U3 p u0 r_ u1))
abbrev afc:List (Nat × Option Ob):=[(Pw p),(27,some (afA p u0 r_ u1))]
abbrev ab2:=(au ax.cell [(Pj p u0 r_)])
abbrev afS:=(au ax.cell (U3 p u0 r_ u1))
end
theorem DC (p:ah) (s_:State) {r:((List ax) × Int)} (h:qE p s_=some r):Fn Tryz.prog 48 (Oc s_ p) [] (.iB [(sD (aD none 2 ax.cell r.1)),(sI r.2)]) []:=by
 refine fN tT Tryz.func48 rfl rfl fun B=> ?_
 show bG _ _ _ _ _ _ (zT r) _
 unfold qE at h
 refine sz tT ⟨[(2,(vP 14 0)),(dS s_)],(TY p)⟩ {fr:=[(0,14),(1,15)] } [15] ?_
 refine aQ (bE h fun r_ hr_ h=> ?_)
 have q0:=Kq p s_ hr_
 refine rg tT ⟨[(2,(vP 14 0)),(pG r_),(7,(vI r_.2))],(TY p)⟩ [_] {an:=[(2,cA q0 [])] } [] ⟨q0,trivial⟩ ?_
 refine aQ (sz tT ⟨[(2,(vP 14 0)),(pG r_),(7,(vI r_.2)),(18,(vB (!decide (r_.2=0))))],(TY p)⟩ {} [] ?_)
 refine bI h (fun hb1 h=> ?_) (fun hb1 h=> ?_)
 ·refine ct hb1 ?_
  refine sz tT ⟨[(4,(vD nS)),(5,(vI r_.2))],[]⟩ {} [] ?_
  refine aI (bJ.le (st':=⟨[(4,(vD (aD none 2 ax.cell ([]:List ax)))),(5,(vI r_.2))],[]⟩) ⟨⟨⟨_,rfl,fe.v (jB.one (bH.d dR.nil'))⟩,tR,trivial⟩,trivial⟩) ?_
  refine aR ?_
  obtain rfl:=oi h
  exact rl [(sD (aD none 2 ax.cell ([]:List ax))),(sI r_.2)]
 ·refine cf hb1 ?_
  refine aP (sz tT ⟨[(2,(vP 14 0)),(pG r_),(8,(vD nS))],(TY p)⟩ {} [] ?_)
  refine aQ (sz tT ⟨[(2,(vP 14 0)),(pG r_),(8,(vD nS)),(9,(vI 0))],(TY p)⟩ {} [] ?_)
  refine bE h fun y hy h=> ?_
  refine aI (.trans (bJ.Er (t:=8) (b:=28) (esz0:=0) (el0:=fun _ _=> .nilp) (E:=116) (esz:=2) (el:=au ax.cell ([]:List ax)) (by kernel_rfl) (by kernel_rfl)) (.trans (bJ.fin (st':=⟨[(2,(vP 14 0)),(pG r_),(8,(vO 18 false 0)),(9,(vI 0))],[(Pw p),(18,some (.arr 116 2 0 (au ax.cell ([]:List ax))))]⟩) (cs:=[]) ⟨[],[(14,14),(28,18)]⟩ [2,6,8,9] (by kernel_rfl) trivial) (bJ.le (st':=⟨[(2,(vP 14 0)),(pG r_),(8,(vO 18 false (([]:List ax).length))),(9,(vI 0))],[(Pw p),(18,some (aF 116 2 ax.cell ([]:List ax)))]⟩) ⟨⟨tR,tR,⟨_,rfl,fe.v (jB.one cW)⟩,tR,trivial⟩,⟨rfl, .refl _,⟨rfl,oW,trivial⟩⟩⟩))) ?_
  refine aL [] (Em p r_) DW zT hy (fun s f h=> ?_) ?_
  ·clear hy
   show bG _ _ _ _ _ _ ((Nr p r_) f) _
   unfold jN at h
   obtain⟨u1,u0⟩:=s
   refine aQ (sz tT ⟨[(2,(vP 14 0)),(pG r_),(8,(vO 18 false u1.length)),(9,(vI u0)),(24,(k49 p u0))],(aaI p u1)⟩ {} [] ?_)
   refine bI h (fun hb h=> ?_) (fun hb h=> ?_)
   ·refine ct hb ?_
    refine aP (aQ (aB (aQ (aO h fun a1 h=> ?_))))
    refine rg tT ⟨[(2,(vP 14 0)),(pG r_),(8,(vO 18 false u1.length)),(9,(vI u0)),(10,(vD (oL [(.int .i64 (Xj p u0)),(.int .i64 (YM p u0))] 0)))],(aaI p u1)⟩ [_] {fr:=[(6,25)] } [25] ⟨a1,trivial⟩ ?_
    refine aO h fun⟨a1,a2,a3,a4⟩ h=> ?_
    refine dg tT mX ⟨[(2,(vP 14 0)),(pG r_),(afR p u0 r_ u1),(9,(vI u0))],(afc p u0 r_ u1)⟩ (((0:Int)≤0∧(0:Int)<(2:Nat))::_::((0:Int)≤1∧(1:Int)<(2:Nat))::(eqs (K3 p u0) 2 ((gP (ic [(9,(K3 p u0))]) [(9,true)]→All [(0:Int)≤1∧(1:Int)<(2:Nat)])::(eqs (K3 p u0) 3 ((gP (ic [(9,(K3 p u0))]) [(9,true)]→All [(0:Int)≤(if(ZK p u0).e1<0 then 0 else(ZK p u0).e1)∧(if(ZK p u0).e1<0 then 0 else(ZK p u0).e1)<(r_.1.length:Int)])::(eqs (K3 p u0) 2 [[(Pj p u0 r_)].length=1,aT 1 2 (xL 2 [(.bool (at' r_.1 ((Xj p u0).toNat))),(.bool (afB p u0 r_))]) (ab2 p u0 r_),u1.length=u1.length,_,_,(U3 p u0 r_ u1).length=u1.length+[(Pj p u0 r_)].length,aT (u1.length+[(Pj p u0 r_)].length) 2 (yJ (au ax.cell u1) u1.length (ab2 p u0 r_)) (afS p u0 r_ u1)])))))) {yb:=[(9,(K3 p u0))],an:=[(18, .arr [(Pj p u0 r_)].length (ab2 p u0 r_)),(19, .arr (U3 p u0 r_ u1).length (afS p u0 r_ u1))],fr:=[(18,26),(19,27)] } [] ⟨((by decide)),a1,((by decide)),(ae ⟨(fun hg=> ⟨((by decide)),trivial⟩),(ae ⟨(fun hg=> ⟨(a2 (aU hg)),trivial⟩),(ae ⟨(rfl),((by intro i hi j hj;match i,j,hi,hj with|0,0,_,_=>rfl|0,1,_,_=>rfl)),rfl,a3,a4,(List.length_append),(dA _ _ _ _),trivial⟩)⟩)⟩)⟩ ?_
    refine ri tT ⟨[(2,(vP 14 0)),(pG r_),(afR p u0 r_ u1),(Y6 u0)],(afc p u0 r_ u1)⟩ [] {} [] trivial (bJ.fin (st':=⟨[(2,(vP 14 0)),(pG r_),(8,(vO 18 false (afe p u0 r_ u1))),(Y6 u0)],[(Pw p),(18,some (afA p u0 r_ u1))]⟩) (cs:=[]) ⟨[],[(14,14),(27,18)]⟩ [2,6,8,9] (by kernel_rfl) trivial) ?_
    obtain rfl:=oi h
    exact lN
   ·refine cf hb ?_
    refine aI (fz ⟨[(8,(vO 18 false u1.length))],[(18,some (aF 116 2 ax.cell u1))]⟩ []) ?_
    refine aX ?_
    obtain rfl:=oi h
    exact lB
  ·clear hy
   cases y with
   |brk z=>
    obtain⟨u2,rfl⟩: ∃q,q=z:=⟨_,rfl⟩
    unfold fE
    refine⟨_, .refl, ?_⟩
    refine sg tT ⟨[(4,(vD (aD none 2 ax.cell u2))),(5,(vI 0))],[]⟩ [u2.length=u2.length] {} [18] ⟨rfl,trivial⟩ ?_
    refine aR ?_
    obtain rfl:=oi h
    exact rl [(sD (aD none 2 ax.cell u2)),(sI 0)]
   |ret v=>
    obtain rfl:=oi h
    unfold fE
    intro e st hn ha hR
    cases e with
    |normal=>exact absurd rfl hn
    |exit id=>exact hR
    |goto l=>exact hR
    |ret=>exact hR
    |panic c=>exact hR
    |outgrown=>exact hR
def yo  :((List Int) × Int)→Exit→St→Prop:=
  fun r=>aW TT [.tmp 6, .tmp 7] (.iB [(sD (aD none 1 (aC .i64) r.1)),(sI r.2)]) []
section
variable (u1:((List ax) × Int)) (u0:(List Int))
abbrev AA:Nat × TV:=(10,(vD (aD none 2 ax.cell u1.1)))
abbrev P7:List (Nat × Option Ob):=[(33,some (zP u0))]
end
def Cj (p:ah) (u1:((List ax) × Int)) (u2:((List ax) × Int)):((List Int) × Int)→St:=
  fun zz=>match zz with|(u0,u3)=> ⟨[(bB p),(AA u1),(uj u2),(14,(vO 33 false u0.length)),(15,(vI u3))],(P7 u0)⟩
def Cr  :(List Int)→St:=
  fun u0=> ⟨[(14,(vO 33 false u0.length))],(P7 u0)⟩
def KJ (p:ah) (u0:((List ax) × Int)) (u1:((List ax) × Int)):(aM ((List Int) × Int) (Ex (List Int) ((List Int) × Int)))→Exit→St→Prop:=
  LQ 0 [] (Cj p u0 u1) Cr yo
section
variable (r_:(aj × Int)) (p:ah) (s_:State) (u4:Int) (u1:((List ax) × Int)) (u0:Int) (u2:((List ax) × Int))
abbrev aa4:List (Nat × Option Ob):=[(22,some (aF 105 2 Event.cell r_.1.events)),(23,some (aF 4 1 af r_.1.state.closed)),(24,some (aF 4 1 af r_.1.state.locked)),(25,some (aF 4 1 af r_.1.state.badLink)),(26,some (aF 4 1 af r_.1.state.on_)),(27,some (aF 4 1 af r_.1.state.badSource)),(28,some (aF 4 1 af r_.1.state.earthed)),(29,some (aF 4 1 af r_.1.state.badBus)),(31,some (.cells 44 [(.own 22 false r_.1.events.length),(cB r_.1.cleared),(cI r_.1.millis),(cI r_.1.energy),(.own 23 false r_.1.state.closed.length),(.own 24 false r_.1.state.locked.length),(.own 25 false r_.1.state.badLink.length),(.own 26 false r_.1.state.on_.length),(.own 27 false r_.1.state.badSource.length),(.own 28 false r_.1.state.earthed.length),(.own 29 false r_.1.state.badBus.length)]))]
abbrev afp:List (Nat × TV):=[(bB p),(fH s_),(8,(vP 31 0))]
abbrev Uh:DV:=(aD none 2 Event.cell r_.1.events)
abbrev SQ:DV:=(aD none 1 af r_.1.state.closed)
abbrev Tp:DV:=(aD none 1 af r_.1.state.locked)
abbrev RQ:DV:=(aD none 1 af r_.1.state.badLink)
abbrev UO:DV:=(aD none 1 af r_.1.state.on_)
abbrev Uq:DV:=(aD none 1 af r_.1.state.badSource)
abbrev TR:DV:=(aD none 1 af r_.1.state.earthed)
abbrev afg:Nat × TV:=(8,(vD (oL [(Uh r_),(.bool r_.1.cleared),(.int .i64 r_.1.millis),(.int .i64 r_.1.energy),(SQ r_),(Tp r_),(RQ r_),(UO r_),(Uq r_),(TR r_),(aD none 1 af (r_.1.state.badBus.set u4.toNat true))] 0)))
abbrev MK:=(bif (at' u1.1 u0.toNat).e0 then true else(at' u1.1 u0.toNat).e1)
abbrev MW:=(bif (MK u1 u0)then(!((at' u2.1 u0.toNat).e0))else false)
abbrev PY:=(ic [(5,(at' u1.1 u0.toNat).e0),(12,(MK u1 u0)),(20,(MW u1 u0 u2))])
end
theorem Kv (p:ah) (s_:State) (u4:Int) {r:((List Int) × Int)} (h:l8 p s_ u4=some r):Fn Tryz.prog 17 (Kj p s_ u4) [] (.iB [(sD (aD none 1 (aC .i64) r.1)),(sI r.2)]) []:=by
 refine fN tT Tryz.func17 rfl rfl fun B=> ?_
 show bG _ _ _ _ _ _ (yo r) _
 unfold l8 at h
 refine sz tT (Y5 p s_ u4) {fr:=[(0,20),(1,21)] } [20,21] ?_
 refine aQ (bE h fun r_ hr_ h=> ?_)
 have q0:=rk [(0,22),(1,23),(2,24),(3,25),(4,26),(5,27),(6,28),(7,29),(8,30)] (pE p s_ u4 hr_)
 refine rg tT ⟨[(2,(vI u4)),(bB p),(fH s_),(8,(vP 31 0)),(9,(vI r_.2))],(aa4 r_)⟩ [_] {an:=[(3,cA q0 [])],fr:=[(7,31)] } [] ⟨q0,trivial⟩ ?_
 refine aQ (sz tT ⟨[(2,(vI u4)),(bB p),(fH s_),(8,(vP 31 0)),(9,(vI r_.2)),(24,(vB (!decide (r_.2=0))))],(aa4 r_)⟩ {} [] ?_)
 refine bI h (fun hb3 h=> ?_) (fun hb3 h=> ?_)
 ·refine ct hb3 ?_
  refine sz tT ⟨[(6,(vD nS)),(7,(vI r_.2))],[]⟩ {} [] ?_
  refine aI (bJ.le (st':=⟨[(6,Y3),(7,(vI r_.2))],[]⟩) ⟨⟨⟨_,rfl,fe.v (jB.one (bH.d dR.nil'))⟩,tR,trivial⟩,trivial⟩) ?_
  refine aR ?_
  obtain rfl:=oi h
  exact rl [(sD Yt),(sI r_.2)]
 ·refine cf hb3 ?_
  refine aP (aQ (sz tT ⟨[(2,(vI u4)),(bB p),(fH s_),(8,(vP 31 0)),(28,(vB (!r_.1.cleared)))],(aa4 r_)⟩ {} [] ?_))
  refine bI h (fun hb2 h=> ?_) (fun hb2 h=> ?_)
  ·refine ct hb2 ?_
   refine sz tT ⟨[(6,(vD nS)),(7,(vI 4))],[]⟩ {} [] ?_
   refine aI (bJ.le (st':=⟨[(6,Y3),(7,(vI 4))],[]⟩) ⟨⟨⟨_,rfl,fe.v (jB.one (bH.d dR.nil'))⟩,tR,trivial⟩,trivial⟩) ?_
   refine aR ?_
   obtain rfl:=oi h
   exact rl [(sD Yt),(sI 4)]
  ·refine cf hb2 ?_
   refine aP (aQ (aO h fun a1 h=> ?_))
   refine ri tT ⟨(afp p s_),[(31,some (.cells 44 [(.d (Uh r_)),(cB r_.1.cleared),(cI r_.1.millis),(cI r_.1.energy),(.d (SQ r_)),(.d (Tp r_)),(.d (RQ r_)),(.d (UO r_)),(.d (Uq r_)),(.d (TR r_)),(.d (.sl none 1 r_.1.state.badBus.length (au af (r_.1.state.badBus.set u4.toNat true))))]))]⟩ [_,_,aT r_.1.state.badBus.length 1 (lH (au af r_.1.state.badBus) u4.toNat 0 [(.bool true)]) (au af (r_.1.state.badBus.set u4.toNat true)),r_.1.events.length=r_.1.events.length,r_.1.state.closed.length=r_.1.state.closed.length,r_.1.state.locked.length=r_.1.state.locked.length,r_.1.state.badLink.length=r_.1.state.badLink.length,r_.1.state.on_.length=r_.1.state.on_.length,r_.1.state.badSource.length=r_.1.state.badSource.length,r_.1.state.earthed.length=r_.1.state.earthed.length,r_.1.state.badBus.length=r_.1.state.badBus.length] {an:=[(5, .arr 0 (au af (r_.1.state.badBus.set u4.toNat true)))] } [22,23,24,25,26,27,28,29] ⟨a1,(tL a1),(dD _ _ _ _ _ _ _ _ rfl (fun j hj=>(match j,hj with|0,_=>rfl))),rfl,rfl,rfl,rfl,rfl,rfl,rfl,rfl,trivial⟩ (.trans (bJ.le (st':=⟨(afp p s_),[(31,some (.cells 44 [(.d (Uh r_)),(cB r_.1.cleared),(cI r_.1.millis),(cI r_.1.energy),(.d (SQ r_)),(.d (Tp r_)),(.d (RQ r_)),(.d (UO r_)),(.d (Uq r_)),(.d (TR r_)),(.d (aD none 1 af (r_.1.state.badBus.set u4.toNat true)))]))]⟩) ⟨⟨tR,tR,tR,trivial⟩,⟨rfl,fG ⟨bH.refl _,bH.refl _,bH.refl _,bH.refl _,bH.refl _,bH.refl _,bH.refl _,bH.refl _,bH.refl _,bH.refl _,bH.d (dR.slN (by simp only [List.length_set]) (.inr rfl) (fun _ _ _ _=> .refl _)),trivial⟩,trivial⟩⟩) (fz ⟨[(bB p),(fH s_),(afg r_ u4)],[]⟩ [31])) ?_
   refine aQ (bE h fun u1 hr_1 h=> ?_)
   have q0:=DC p s_ hr_1
   refine rg tT ⟨[(bB p),(afg r_ u4),(AA u1)],[]⟩ [_] {an:=[(2,cA q0 [])] } [] ⟨q0,trivial⟩ ?_
   refine aQ (bE h fun u2 hr_2 h=> ?_)
   have q0:=DC p (⟨r_.1.state.closed,r_.1.state.locked,r_.1.state.badLink,r_.1.state.on_,r_.1.state.badSource,r_.1.state.earthed,(r_.1.state.badBus.set u4.toNat true)⟩:State) hr_2
   refine rg tT ⟨[(bB p),(AA u1),(uj u2)],[]⟩ [_] {an:=[(3,cA q0 [])] } [] ⟨q0,trivial⟩ ?_
   refine sz tT ⟨[(bB p),(AA u1),(uj u2),(14,(vD nS))],[]⟩ {} [] ?_
   refine aQ (sz tT ⟨[(bB p),(AA u1),(uj u2),(14,(vD nS)),(15,(vI 0))],[]⟩ {} [] ?_)
   refine bE h fun y hy h=> ?_
   refine aI (.trans (bJ.Er (t:=14) (b:=40) (esz0:=0) (el0:=fun _ _=> .nilp) (E:=3) (esz:=1) (el:=au (aC .i64) ([]:List Int)) (by kernel_rfl) (by kernel_rfl)) (.trans (bJ.fin (st':=⟨[(bB p),(AA u1),(uj u2),(14,(vO 33 false 0)),(15,(vI 0))],[(33,some (.arr 3 1 0 (au (aC .i64) ([]:List Int))))]⟩) (cs:=[]) ⟨[],[(40,33)]⟩ [3,10,12,14,15] (by kernel_rfl) trivial) (bJ.le (st':=⟨[(bB p),(AA u1),(uj u2),(14,(vO 33 false (([]:List Int).length))),(15,(vI 0))],[(33,some adP)]⟩) ⟨⟨tR,tR,tR,⟨_,rfl,fe.v (jB.one cW)⟩,tR,trivial⟩,⟨rfl,oW,trivial⟩⟩))) ?_
   refine aL [] (Cj p u1 u2) Cr yo hy (fun s f h=> ?_) ?_
   ·clear hy
    show bG _ _ _ _ _ _ ((KJ p u1 u2) f) _
    unfold jf at h
    obtain⟨u3,u0⟩:=s
    refine aQ (sz tT ⟨[(bB p),(AA u1),(uj u2),(14,(vO 33 false u3.length)),(15,(vI u0)),(51,(k49 p u0))],(P7 u3)⟩ {} [] ?_)
    refine bI h (fun hb1 h=> ?_) (fun hb1 h=> ?_)
    ·refine ct hb1 ?_
     refine aP (aQ (aB (aQ (aO h fun⟨a1,a2,a3,a4⟩ h=> ?_))))
     refine rg tT ⟨[(bB p),(AA u1),(uj u2),(14,(vO 33 false u3.length)),(15,(vI u0)),(81,(vB (bif (MW u1 u0 u2)then(!((at' u2.1 u0.toNat).e1))else false)))],(P7 u3)⟩ (_::((0:Int)≤0∧(0:Int)<(2:Nat))::(eqs ((at' u1.1 u0.toNat).e0) 3 ((gP (PY u1 u0 u2) [(5,false)]→All [(0:Int)≤u0∧u0<(u1.1.length:Int)])::(((at' u1.1 u0.toNat).e0)=((at' u1.1 u0.toNat).e0))::(gP (PY u1 u0 u2) [(5,false)]→All [(0:Int)≤1∧(1:Int)<(2:Nat)])::(eqs ((at' u1.1 u0.toNat).e0) 2 (eqs (MK u1 u0) 3 ((gP (PY u1 u0 u2) [(12,true)]→All [(0:Int)≤u0∧u0<(u2.1.length:Int)])::((MK u1 u0)=(MK u1 u0))::(gP (PY u1 u0 u2) [(12,true)]→All [(0:Int)≤0∧(0:Int)<(2:Nat)])::(eqs (MK u1 u0) 3 (eqs (MW u1 u0 u2) 3 ((gP (PY u1 u0 u2) [(20,true)]→All [(0:Int)≤u0∧u0<(u2.1.length:Int)])::((MW u1 u0 u2)=(MW u1 u0 u2))::(gP (PY u1 u0 u2) [(20,true)]→All [(0:Int)≤1∧(1:Int)<(2:Nat)])::(eqs (MW u1 u0 u2) 3 [])))))))))) {yb:=[(5,(at' u1.1 u0.toNat).e0),(12,(MK u1 u0)),(20,(MW u1 u0 u2))] } [] ⟨a1,((by decide)),(ae ⟨(fun hg=> ⟨(a2 (aU hg)),trivial⟩),rfl,(fun hg=> ⟨((by decide)),trivial⟩),(ae (ae ⟨(fun hg=> ⟨(a3 (aU hg)),trivial⟩),rfl,(fun hg=> ⟨((by decide)),trivial⟩),(ae (ae ⟨(fun hg=> ⟨(a4 (aU hg)),trivial⟩),rfl,(fun hg=> ⟨((by decide)),trivial⟩),(ae trivial)⟩))⟩))⟩)⟩ ?_
     refine bI h (fun hb h=> ?_) (fun hb h=> ?_)
     ·refine ct hb ?_
      refine aO h fun⟨a1,a2⟩ h=> ?_
      refine rg tT ⟨[(bB p),(AA u1),(uj u2),(14,(vO 39 false ((u3++[u0]).length))),(15,(vI u0))],[(39,some (SC u3 u0))]⟩ [[u0].length=1,aT 1 1 (xL 1 [(.int .i64 u0)]) (au (aC .i64) [u0]),u3.length=u3.length,_,_,(u3++[u0]).length=u3.length+[u0].length,aT (u3.length+[u0].length) 1 (adT u0 u3) (Tj u0 u3)] {an:=[(2, .arr [u0].length (au (aC .i64) [u0])),(3, .arr (u3++[u0]).length (Tj u0 u3))],fr:=[(2,38),(3,39)] } [] ⟨(rfl),((by intro i hi j hj;match i,j,hi,hj with|0,0,_,_=>rfl)),rfl,a1,a2,(List.length_append),(dA _ _ _ _),trivial⟩ ?_
      refine ri tT ⟨[(bB p),(AA u1),(uj u2),(14,(vO 39 false ((u3++[u0]).length))),(aaF u0)],[(39,some (SC u3 u0))]⟩ [] {} [] trivial (bJ.fin (st':=⟨[(bB p),(AA u1),(uj u2),(14,(vO 33 false ((u3++[u0]).length))),(aaF u0)],[(33,some (SC u3 u0))]⟩) (cs:=[]) ⟨[],[(39,33)]⟩ [3,10,12,14,15] (by kernel_rfl) trivial) ?_
      obtain rfl:=oi h
      exact lN
     ·refine cf hb ?_
      refine aP (rz tT ⟨[(bB p),(AA u1),(uj u2),(14,(vO 33 false u3.length)),(aaF u0)],(P7 u3)⟩ {} [] ?_)
      obtain rfl:=oi h
      exact lN
    ·refine cf hb1 ?_
     refine aI (fz ⟨[(14,(vO 33 false u3.length))],(P7 u3)⟩ []) ?_
     refine aX ?_
     obtain rfl:=oi h
     exact lB
   ·clear hy
    cases y with
    |brk z=>
     obtain⟨u5,rfl⟩: ∃q,q=z:=⟨_,rfl⟩
     unfold fE
     refine⟨_, .refl, ?_⟩
     refine sg tT ⟨[(WU u5),(7,(vI 0))],[]⟩ [u5.length=u5.length] {} [33] ⟨rfl,trivial⟩ ?_
     refine aR ?_
     obtain rfl:=oi h
     exact rl [(sD (Fg u5)),(sI 0)]
    |ret v=>
     obtain rfl:=oi h
     unfold fE
     intro e st hn ha hR
     cases e with
     |normal=>exact absurd rfl hn
     |exit id=>exact hR
     |goto l=>exact hR
     |ret=>exact hR
     |panic c=>exact hR
     |outgrown=>exact hR
def pu  :Bool→Exit→St→Prop:=
  fun r=>aW TT [.tmp 4] (vB r) []
section
variable (b:(List Source))
abbrev NH:Nat × TV:=(1,(vD (k73 b)))
end
def vk (a:(List Source)) (b:(List Source)):Int→St:=
  fun i=> ⟨[(SA a),(NH b),(5,(vI i))],[]⟩
def uU  :Unit→St:=
  fun _=> ⟨[],[]⟩
def EC (a:(List Source)) (b:(List Source)):(aM Int (Ex Unit Bool))→Exit→St→Prop:=
  LQ 0 [] (vk a b) uU pu
theorem Dx (a:(List Source)) (b:(List Source)) {r:Bool} (h:kD a b=some r):Fn Tryz.prog 49 [(sD (k73 a)),(sD (k73 b))] [] (vB r) []:=by
 refine fN tT Tryz.func49 rfl rfl fun B=> ?_
 show bG _ _ _ _ _ _ (pu r) _
 unfold kD at h
 refine sz tT ⟨[(SA a),(NH b)],[]⟩ {} [] ?_
 refine aQ (sz tT ⟨[(SA a),(NH b),(10,(vB (!decide ((a.length:Int)=(b.length:Int)))))],[]⟩ {} [] ?_)
 refine bI h (fun hb2 h=> ?_) (fun hb2 h=> ?_)
 ·refine ct hb2 ?_
  refine sz tT ⟨[(4,(vB false))],[]⟩ {} [] ?_
  refine aR ?_
  obtain rfl:=oi h
  exact rl [(sB false)]
 ·refine cf hb2 ?_
  refine aP (aQ (sz tT ⟨[(SA a),(NH b),(5,(vI 0))],[]⟩ {} [] ?_))
  refine bE h fun y hy h=> ?_
  refine aL [] (vk a b) uU pu hy (fun s f h=> ?_) ?_
  ·clear hy
   show bG _ _ _ _ _ _ ((EC a b) f) _
   unfold iU at h
   obtain⟨i,rfl⟩: ∃q,q=s:=⟨_,rfl⟩
   refine aQ (sz tT ⟨[(SA a),(NH b),(5,(vI i)),(14,(vB (decide (i<(a.length:Int)))))],[]⟩ {} [] ?_)
   refine bI h (fun hb1 h=> ?_) (fun hb1 h=> ?_)
   ·refine ct hb1 ?_
    refine aP (aQ (aB (aQ (aO h fun⟨a1,a2⟩ h=> ?_))))
    refine dg tT mX ⟨[(SA a),(NH b),(5,(vI i)),(25,(vB (!((decide (((at' a i.toNat).bus)=((at' b i.toNat).bus))) && ((decide (((at' a i.toNat).kind)=((at' b i.toNat).kind))) && ((decide (((at' a i.toNat).power)=((at' b i.toNat).power))) && ((decide (((at' a i.toNat).sync)=((at' b i.toNat).sync))) && ((decide (((at' a i.toNat).bK)=((at' b i.toNat).bK))) && true))))))))],[]⟩ [_,_] {} [] ⟨a1,a2,trivial⟩ ?_
    refine bI h (fun hb h=> ?_) (fun hb h=> ?_)
    ·refine ct hb ?_
     refine sz tT ⟨[(4,(vB false))],[]⟩ {} [] ?_
     refine aR ?_
     obtain rfl:=oi h
     exact lR bY (dm 0) bZ (aW.mk (.inr rfl) (p:=[]) (l:=[(sB false)]) (by kernel_rfl) trivial (fe.refl _) trivial)
    ·refine cf hb ?_
     refine aP (rz tT ⟨[(SA a),(NH b),(k30 i)],[]⟩ {} [] ?_)
     obtain rfl:=oi h
     exact lN
   ·refine cf hb1 ?_
    refine aI (fz ⟨[],[]⟩ []) ?_
    refine aX ?_
    obtain rfl:=oi h
    exact lB
  ·clear hy
   cases y with
   |brk z=>
    unfold fE
    refine⟨_, .refl, ?_⟩
    refine sz tT ⟨[(4,(vB true))],[]⟩ {} [] ?_
    refine aR ?_
    obtain rfl:=oi h
    exact rl [(sB true)]
   |ret v=>
    obtain rfl:=oi h
    unfold fE
    intro e st hn ha hR
    cases e with
    |normal=>exact absurd rfl hn
    |exit id=>exact hR
    |goto l=>exact hR
    |ret=>exact hR
    |panic c=>exact hR
    |outgrown=>exact hR
def rT  :Bool→Exit→St→Prop:=
  fun r=>aW TT [.tmp 4] (vB r) []
section
variable (b:(List bP))
abbrev Lx:Nat × TV:=(1,(vD (LF b)))
end
def yC (a:(List bP)) (b:(List bP)):Int→St:=
  fun i=> ⟨[(RL a),(Lx b),(5,(vI i))],[]⟩
def xC  :Unit→St:=
  fun _=> ⟨[],[]⟩
def GA (a:(List bP)) (b:(List bP)):(aM Int (Ex Unit Bool))→Exit→St→Prop:=
  LQ 0 [] (yC a b) xC rT
theorem F6 (a:(List bP)) (b:(List bP)) {r:Bool} (h:mV a b=some r):Fn Tryz.prog 120 [(sD (LF a)),(sD (LF b))] [] (vB r) []:=by
 refine fN tT Tryz.func120 rfl rfl fun B=> ?_
 show bG _ _ _ _ _ _ (rT r) _
 unfold mV at h
 refine sz tT ⟨[(RL a),(Lx b)],[]⟩ {} [] ?_
 refine aQ (sz tT ⟨[(RL a),(Lx b),(10,(vB (!decide ((a.length:Int)=(b.length:Int)))))],[]⟩ {} [] ?_)
 refine bI h (fun hb2 h=> ?_) (fun hb2 h=> ?_)
 ·refine ct hb2 ?_
  refine sz tT ⟨[(4,(vB false))],[]⟩ {} [] ?_
  refine aR ?_
  obtain rfl:=oi h
  exact rl [(sB false)]
 ·refine cf hb2 ?_
  refine aP (aQ (sz tT ⟨[(RL a),(Lx b),(5,(vI 0))],[]⟩ {} [] ?_))
  refine bE h fun y hy h=> ?_
  refine aL [] (yC a b) xC rT hy (fun s f h=> ?_) ?_
  ·clear hy
   show bG _ _ _ _ _ _ ((GA a b) f) _
   unfold jX at h
   obtain⟨i,rfl⟩: ∃q,q=s:=⟨_,rfl⟩
   refine aQ (sz tT ⟨[(RL a),(Lx b),(5,(vI i)),(14,(vB (decide (i<(a.length:Int)))))],[]⟩ {} [] ?_)
   refine bI h (fun hb1 h=> ?_) (fun hb1 h=> ?_)
   ·refine ct hb1 ?_
    refine aP (aQ (aB (aQ (aO h fun⟨a1,a2⟩ h=> ?_))))
    refine dg tT mX ⟨[(RL a),(Lx b),(5,(vI i)),(25,(vB (!((decide (((at' a i.toNat).amps)=((at' b i.toNat).amps))) && ((decide (((at' a i.toNat).millis)=((at' b i.toNat).millis))) && true)))))],[]⟩ [_,_] {} [] ⟨a1,a2,trivial⟩ ?_
    refine bI h (fun hb h=> ?_) (fun hb h=> ?_)
    ·refine ct hb ?_
     refine sz tT ⟨[(4,(vB false))],[]⟩ {} [] ?_
     refine aR ?_
     obtain rfl:=oi h
     exact lR bY (dm 0) bZ (aW.mk (.inr rfl) (p:=[]) (l:=[(sB false)]) (by kernel_rfl) trivial (fe.refl _) trivial)
    ·refine cf hb ?_
     refine aP (rz tT ⟨[(RL a),(Lx b),(k30 i)],[]⟩ {} [] ?_)
     obtain rfl:=oi h
     exact lN
   ·refine cf hb1 ?_
    refine aI (fz ⟨[],[]⟩ []) ?_
    refine aX ?_
    obtain rfl:=oi h
    exact lB
  ·clear hy
   cases y with
   |brk z=>
    unfold fE
    refine⟨_, .refl, ?_⟩
    refine sz tT ⟨[(4,(vB true))],[]⟩ {} [] ?_
    refine aR ?_
    obtain rfl:=oi h
    exact rl [(sB true)]
   |ret v=>
    obtain rfl:=oi h
    unfold fE
    intro e st hn ha hR
    cases e with
    |normal=>exact absurd rfl hn
    |exit id=>exact hR
    |goto l=>exact hR
    |ret=>exact hR
    |panic c=>exact hR
    |outgrown=>exact hR
def JC  :Bool→Exit→St→Prop:=
  fun r=>aW TT [.tmp 4] (vB r) []
section
variable (a:Link) (b:Link) (r_:Bool)
abbrev W9:=(bif (decide (a.a=b.a))then(decide (a.b=b.b))else false)
abbrev XE:=(bif (W9 a b)then(decide (a.kind=b.kind))else false)
abbrev XC:=(bif (XE a b)then(decide (a.most=b.most))else false)
abbrev OX:=(bif (XC a b)then(decide (a.bK=b.bK))else false)
abbrev afz:=(bif (OX a b)then r_ else false)
end
theorem Ie (a:Link) (b:Link) {r:Bool} (h:oJ a b=some r):Fn Tryz.prog 94 [(.agg (k2 a)),(.agg (k2 b))] [] (vB r) []:=by
 refine fN tT Tryz.func94 rfl rfl fun B=> ?_
 show bG _ _ _ _ _ _ (JC r) _
 unfold oJ at h
 refine sz tT ⟨[(Ld a),(3,(k96 b))],[]⟩ {fr:=[(0,2),(1,3)] } [2,3] ?_
 refine aQ (bE h fun r_ hr_ h=> ?_)
 refine rg tT ⟨[(4,(vB (afz a b r_)))],[]⟩ (eqs (decide (a.a=b.a)) 6 (eqs (W9 a b) 6 (eqs (XE a b) 6 (eqs (XC a b) 6 (eqs (OX a b) 5 [gP (ic [(5,(decide (a.a=b.a))),(12,(W9 a b)),(19,(XE a b)),(26,(XC a b)),(33,(OX a b))]) [(33,true)]→All [Fn Tryz.prog 120 [(sD (aD none 2 bP.cell a.trip)),(sD (aD none 2 bP.cell b.trip))] [] (vB r_) []],(OX a b)=(OX a b)]))))) {yb:=[(5,(decide (a.a=b.a))),(12,(W9 a b)),(19,(XE a b)),(26,(XC a b)),(33,(OX a b))],an:=[(38, .call [] (vB r_) [])] } [] (ae (ae (ae (ae (ae ⟨(fun hg=> ⟨(F6 a.trip b.trip (fD hr_ (aU hg))),trivial⟩),rfl,trivial⟩))))) ?_
 refine aR ?_
 obtain rfl:=oi h
 exact rl [(sB (afz a b r_))]
def rY  :Bool→Exit→St→Prop:=
  fun r=>aW TT [.tmp 4] (vB r) []
section
variable (b:(List Link))
abbrev LZ:Nat × TV:=(1,(vD (k74 b)))
end
def xW (a:(List Link)) (b:(List Link)):Int→St:=
  fun i=> ⟨[(vR a),(LZ b),(5,(vI i))],[]⟩
def xU  :Unit→St:=
  fun _=> ⟨[],[]⟩
def Gq (a:(List Link)) (b:(List Link)):(aM Int (Ex Unit Bool))→Exit→St→Prop:=
  LQ 0 [] (xW a b) xU rY
theorem F3 (a:(List Link)) (b:(List Link)) {r:Bool} (h:mK a b=some r):Fn Tryz.prog 50 [(sD (k74 a)),(sD (k74 b))] [] (vB r) []:=by
 refine fN tT Tryz.func50 rfl rfl fun B=> ?_
 show bG _ _ _ _ _ _ (rY r) _
 unfold mK at h
 refine sz tT ⟨[(vR a),(LZ b)],[]⟩ {} [] ?_
 refine aQ (sz tT ⟨[(vR a),(LZ b),(10,(vB (!decide ((a.length:Int)=(b.length:Int)))))],[]⟩ {} [] ?_)
 refine bI h (fun hb2 h=> ?_) (fun hb2 h=> ?_)
 ·refine ct hb2 ?_
  refine sz tT ⟨[(4,(vB false))],[]⟩ {} [] ?_
  refine aR ?_
  obtain rfl:=oi h
  exact rl [(sB false)]
 ·refine cf hb2 ?_
  refine aP (aQ (sz tT ⟨[(vR a),(LZ b),(5,(vI 0))],[]⟩ {} [] ?_))
  refine bE h fun y hy h=> ?_
  refine aL [] (xW a b) xU rY hy (fun s f h=> ?_) ?_
  ·clear hy
   show bG _ _ _ _ _ _ ((Gq a b) f) _
   unfold jR at h
   obtain⟨i,rfl⟩: ∃q,q=s:=⟨_,rfl⟩
   refine aQ (sz tT ⟨[(vR a),(LZ b),(5,(vI i)),(14,(vB (decide (i<(a.length:Int)))))],[]⟩ {} [] ?_)
   refine bI h (fun hb1 h=> ?_) (fun hb1 h=> ?_)
   ·refine ct hb1 ?_
    refine aP (aQ (aB (aQ (bE h fun r_ hr_ h=> ?_))))
    refine aO h fun⟨a1,a2⟩ h=> ?_
    have q2:=Ie (at' a i.toNat) (at' b i.toNat) hr_
    refine dg tT mX ⟨[(vR a),(LZ b),(5,(vI i)),(26,(vB (!r_)))],[]⟩ [_,_,_] {an:=[(8,cA q2 [])] } [] ⟨a1,a2,q2,trivial⟩ ?_
    refine bI h (fun hb h=> ?_) (fun hb h=> ?_)
    ·refine ct hb ?_
     refine sz tT ⟨[(4,(vB false))],[]⟩ {} [] ?_
     refine aR ?_
     obtain rfl:=oi h
     exact lR bY (dm 0) bZ (aW.mk (.inr rfl) (p:=[]) (l:=[(sB false)]) (by kernel_rfl) trivial (fe.refl _) trivial)
    ·refine cf hb ?_
     refine aP (rz tT ⟨[(vR a),(LZ b),(k30 i)],[]⟩ {} [] ?_)
     obtain rfl:=oi h
     exact lN
   ·refine cf hb1 ?_
    refine aI (fz ⟨[],[]⟩ []) ?_
    refine aX ?_
    obtain rfl:=oi h
    exact lB
  ·clear hy
   cases y with
   |brk z=>
    unfold fE
    refine⟨_, .refl, ?_⟩
    refine sz tT ⟨[(4,(vB true))],[]⟩ {} [] ?_
    refine aR ?_
    obtain rfl:=oi h
    exact rl [(sB true)]
   |ret v=>
    obtain rfl:=oi h
    unfold fE
    intro e st hn ha hR
    cases e with
    |normal=>exact absurd rfl hn
    |exit id=>exact hR
    |goto l=>exact hR
    |ret=>exact hR
    |panic c=>exact hR
    |outgrown=>exact hR
def rO  :Bool→Exit→St→Prop:=
  fun r=>aW TT [.tmp 4] (vB r) []
section
variable (b:(List aJ))
abbrev MO:Nat × TV:=(1,(vD (k75 b)))
end
def xh (a:(List aJ)) (b:(List aJ)):Int→St:=
  fun i=> ⟨[(DL a),(MO b),(5,(vI i))],[]⟩
def xH  :Unit→St:=
  fun _=> ⟨[],[]⟩
def F5 (a:(List aJ)) (b:(List aJ)):(aM Int (Ex Unit Bool))→Exit→St→Prop:=
  LQ 0 [] (xh a b) xH rO
theorem FN (a:(List aJ)) (b:(List aJ)) {r:Bool} (h:mQ a b=some r):Fn Tryz.prog 51 [(sD (k75 a)),(sD (k75 b))] [] (vB r) []:=by
 refine fN tT Tryz.func51 rfl rfl fun B=> ?_
 show bG _ _ _ _ _ _ (rO r) _
 unfold mQ at h
 refine sz tT ⟨[(DL a),(MO b)],[]⟩ {} [] ?_
 refine aQ (sz tT ⟨[(DL a),(MO b),(10,(vB (!decide ((a.length:Int)=(b.length:Int)))))],[]⟩ {} [] ?_)
 refine bI h (fun hb2 h=> ?_) (fun hb2 h=> ?_)
 ·refine ct hb2 ?_
  refine sz tT ⟨[(4,(vB false))],[]⟩ {} [] ?_
  refine aR ?_
  obtain rfl:=oi h
  exact rl [(sB false)]
 ·refine cf hb2 ?_
  refine aP (aQ (sz tT ⟨[(DL a),(MO b),(5,(vI 0))],[]⟩ {} [] ?_))
  refine bE h fun y hy h=> ?_
  refine aL [] (xh a b) xH rO hy (fun s f h=> ?_) ?_
  ·clear hy
   show bG _ _ _ _ _ _ ((F5 a b) f) _
   unfold jT at h
   obtain⟨i,rfl⟩: ∃q,q=s:=⟨_,rfl⟩
   refine aQ (sz tT ⟨[(DL a),(MO b),(5,(vI i)),(14,(vB (decide (i<(a.length:Int)))))],[]⟩ {} [] ?_)
   refine bI h (fun hb1 h=> ?_) (fun hb1 h=> ?_)
   ·refine ct hb1 ?_
    refine aP (aQ (aB (aQ (aO h fun⟨a1,a2⟩ h=> ?_))))
    refine dg tT mX ⟨[(DL a),(MO b),(5,(vI i)),(25,(vB (!((decide ((((at' a i.toNat).feeds).e0)=(((at' b i.toNat).feeds).e0))) && ((decide ((((at' a i.toNat).feeds).e1)=(((at' b i.toNat).feeds).e1))) && ((decide (((at' a i.toNat).power)=((at' b i.toNat).power))) && ((decide (((at' a i.toNat).paths)=((at' b i.toNat).paths))) && true)))))))],[]⟩ [_,_] {} [] ⟨a1,a2,trivial⟩ ?_
    refine bI h (fun hb h=> ?_) (fun hb h=> ?_)
    ·refine ct hb ?_
     refine sz tT ⟨[(4,(vB false))],[]⟩ {} [] ?_
     refine aR ?_
     obtain rfl:=oi h
     exact lR bY (dm 0) bZ (aW.mk (.inr rfl) (p:=[]) (l:=[(sB false)]) (by kernel_rfl) trivial (fe.refl _) trivial)
    ·refine cf hb ?_
     refine aP (rz tT ⟨[(DL a),(MO b),(k30 i)],[]⟩ {} [] ?_)
     obtain rfl:=oi h
     exact lN
   ·refine cf hb1 ?_
    refine aI (fz ⟨[],[]⟩ []) ?_
    refine aX ?_
    obtain rfl:=oi h
    exact lB
  ·clear hy
   cases y with
   |brk z=>
    unfold fE
    refine⟨_, .refl, ?_⟩
    refine sz tT ⟨[(4,(vB true))],[]⟩ {} [] ?_
    refine aR ?_
    obtain rfl:=oi h
    exact rl [(sB true)]
   |ret v=>
    obtain rfl:=oi h
    unfold fE
    intro e st hn ha hR
    cases e with
    |normal=>exact absurd rfl hn
    |exit id=>exact hR
    |goto l=>exact hR
    |ret=>exact hR
    |panic c=>exact hR
    |outgrown=>exact hR
def HV  :Bool→Exit→St→Prop:=
  fun r=>aW TT [.tmp 4] (vB r) []
section
variable (a:ah) (b:ah) (r_:Bool) (u0:Bool)
abbrev OU:=(bif (decide (a.buses=b.buses))then r_ else false)
abbrev LU:=(bif (OU a b r_)then u0 else false)
abbrev abT:=(ic [(5,(decide (a.buses=b.buses))),(12,(OU a b r_)),(19,(LU a b r_ u0))])
end
theorem FV (a:ah) (b:ah) {r:Bool} (h:mW a b=some r):Fn Tryz.prog 19 [(.agg (k3 a)),(.agg (k3 b))] [] (vB r) []:=by
 refine fN tT Tryz.func19 rfl rfl fun B=> ?_
 show bG _ _ _ _ _ _ (HV r) _
 unfold mW at h
 refine sz tT ⟨[(k7 a),(bB b)],[]⟩ {fr:=[(0,2),(1,3)] } [2,3] ?_
 refine aQ (bE h fun r_ hr_ h=> ?_)
 refine bE h fun u0 hr_1 h=> ?_
 refine bE h fun u1 hr_2 h=> ?_
 refine rg tT ⟨[(4,(vB (bif (LU a b r_ u0)then u1 else false)))],[]⟩ (eqs (decide (a.buses=b.buses)) 5 ((gP (abT a b r_ u0) [(5,true)]→All [Fn Tryz.prog 49 [(sD (k4 a)),(sD (k4 b))] [] (vB r_) []])::((decide (a.buses=b.buses))=(decide (a.buses=b.buses)))::(eqs (OU a b r_) 5 ((gP (abT a b r_ u0) [(12,true)]→All [Fn Tryz.prog 50 [(sD (k5 a)),(sD (k5 b))] [] (vB u0) []])::((OU a b r_)=(OU a b r_))::(eqs (LU a b r_ u0) 5 [gP (abT a b r_ u0) [(19,true)]→All [Fn Tryz.prog 51 [(sD (k6 a)),(sD (k6 b))] [] (vB u1) []],(LU a b r_ u0)=(LU a b r_ u0)]))))) {yb:=[(5,(decide (a.buses=b.buses))),(12,(OU a b r_)),(19,(LU a b r_ u0))],an:=[(10, .call [] (vB r_) []),(17, .call [] (vB u0) []),(24, .call [] (vB u1) [])] } [] (ae ⟨(fun hg=> ⟨(Dx a.sources b.sources (fD hr_ (aU hg))),trivial⟩),rfl,(ae ⟨(fun hg=> ⟨(F3 a.links b.links (fD hr_1 (aU hg))),trivial⟩),rfl,(ae ⟨(fun hg=> ⟨(FN a.racks b.racks (fD hr_2 (aU hg))),trivial⟩),rfl,trivial⟩)⟩)⟩) ?_
 refine aR ?_
 obtain rfl:=oi h
 exact rl [(sB (bif (LU a b r_ u0)then u1 else false))]
def DJ  :ah→Exit→St→Prop:=
  fun r=>aW TT [.cell 2 26] (.v (.agg [(cI r.buses),(.own 0 false r.sources.length),(.own 1 false r.links.length),(.own 2 false r.racks.length)])) [(0,some (aF 60 5 Source.cell r.sources)),(1,some (aF 66 6 Link.cell r.links)),(2,some (aF 71 4 aJ.cell r.racks)),(3,none)]
theorem CW (x:ah) {r:ah} (h:mO x=some r):Fn Tryz.prog 8 (k35 x) [] (.v (.agg [(cI r.buses),(.own 0 false r.sources.length),(.own 1 false r.links.length),(.own 2 false r.racks.length)])) [(0,some (aF 60 5 Source.cell r.sources)),(1,some (aF 66 6 Link.cell r.links)),(2,some (aF 71 4 aJ.cell r.racks)),(3,none)]:=by
 refine fN tT Tryz.func8 rfl rfl fun B=> ?_
 show bG _ _ _ _ _ _ (DJ r) _
 unfold mO at h
 refine sz tT ⟨[(1,(vP 5 0)),(2,(vP 6 0))],[(5,some (Xh x)),(6,some (.cells 26 [(cI 0),(.d nS),(.d nS),(.d nS)]))]⟩ {fr:=[(0,5),(1,6)] } [] ?_
 refine aQ (bE h fun r_ hr_ h=> ?_)
 refine bE h fun u0 hr_1 h=> ?_
 refine bE h fun u1 hr_2 h=> ?_
 have q0:=rk [(0,7)] (Bd x.sources hr_)
 have q1:=rk [(0,8)] (Dc x.links hr_1)
 have q2:=rk [(0,9)] (C9 x.racks hr_2)
 refine dg tT mX ⟨[(2,(vP 6 0))],[(6,some (.cells 26 [(cI x.buses),(.own 7 false r_.length),(.own 8 false u0.length),(.own 9 false u1.length)])),(7,some (aF 60 5 Source.cell r_)),(8,some (aF 66 6 Link.cell u0)),(9,some (aF 71 4 aJ.cell u1))]⟩ [_,_,_] {an:=[(4,cA q0 []),(7,cA q1 []),(10,cA q2 [])] } [] ⟨q0,q1,q2,trivial⟩ ?_
 refine aI (bJ.fin (st':=⟨[(2,(vP 3 0))],[(0,some (aF 60 5 Source.cell r_)),(1,some (aF 66 6 Link.cell u0)),(2,some (aF 71 4 aJ.cell u1)),(3,some (.cells 26 [(cI x.buses),(.own 0 false r_.length),(.own 1 false u0.length),(.own 2 false u1.length)]))]⟩) (cs:=[]) ⟨[],[(7,0),(8,1),(9,2),(6,3)]⟩ [2] (by kernel_rfl) trivial) ?_
 refine aR ?_
 obtain rfl:=oi h
 exact rh [(.agg [(cI x.buses),(.own 0 false r_.length),(.own 1 false u0.length),(.own 2 false u1.length)])] (.refl _) (hN 3 ⟨rfl,trivial,trivial⟩)
def nG  :Bool→Exit→St→Prop:=
  fun r=>aW TT [.tmp 6] (vB r) []
section
variable (u1:ah) (u0:State) (u2:Int) (u3:Int)
abbrev pR:Nat × TV:=(7,(k8 u1))
abbrev p9:Nat × TV:=(8,(Y2 u0))
abbrev rW:Nat × TV:=(32,(vD (aD (some true) 1 (aC .i64) [u2,u3])))
abbrev rf:Nat × TV:=(33,(vI ([u2,u3].length:Int)))
end
def r9 (p:ah) (s_:State) (u2:Int) (u1:ah) (u0:State) (u3:Int):Int→St:=
  fun u4=> ⟨[(bB p),(fH s_),(pR u1),(p9 u0),(rW u2 u3),(rf u2 u3),(34,(vI u4))],[]⟩
section
variable (p:ah) (s_:State) (u1:ah) (u0:State)
abbrev aeQ:St:=⟨[(bB p),(fH s_),(pR u1),(p9 u0)],[]⟩
end
def sK (p:ah) (s_:State) (u1:ah) (u0:State):Unit→St:=
  fun _=>(aeQ p s_ u1 u0)
def mg (p:ah) (s_:State) (u2:Int) (u0:ah) (u1:State) (u3:Int):(aM Int (Ex Unit Bool))→Exit→St→Prop:=
  LQ 0 [] (r9 p s_ u2 u0 u1 u3) (sK p s_ u0 u1) nG
section
variable (u3:Int) (u4:Int) (u5:Int) (p:ah) (s_:State) (u2:ah) (u1:State) (i:Int) (u0:(bg × Int)) (a5:(List Bool))
abbrev Ah:Nat × TV:=(10,(vI (at' [u3,u4] u5.toNat)))
abbrev abw:List (Nat × TV):=[(bB p),(fH s_),(pR u2),(p9 u1),(Ah u3 u4 u5),(11,(vP 190 0)),(15,(vI i)),(rW u3 u4),(rf u3 u4),(34,(vI u5))]
abbrev OQ:Nat × Option Ob:=(181,some (aF 87 2 Event.cell u0.1.events))
abbrev O8:Nat × Option Ob:=(182,some (aF 4 1 af u0.1.state.closed))
abbrev PU:Nat × Option Ob:=(184,some (aF 4 1 af u0.1.state.badLink))
abbrev P8:Nat × Option Ob:=(185,some (aF 4 1 af u0.1.state.on_))
abbrev OW:Nat × Option Ob:=(186,some (aF 4 1 af u0.1.state.badSource))
abbrev OP:Nat × Option Ob:=(187,some (aF 4 1 af u0.1.state.earthed))
abbrev Pf:Nat × Option Ob:=(188,some (aF 4 1 af u0.1.state.badBus))
abbrev aeU:Nat × Option Ob:=(190,some (.cells 38 [(.own 181 false u0.1.events.length),(cB u0.1.cleared),(cI u0.1.millis),(cI u0.1.energy),(.own 182 false u0.1.state.closed.length),(.own 183 false a5.length),(.own 184 false u0.1.state.badLink.length),(.own 185 false u0.1.state.on_.length),(.own 186 false u0.1.state.badSource.length),(.own 187 false u0.1.state.earthed.length),(.own 188 false u0.1.state.badBus.length)]))
abbrev afC:List (Nat × Option Ob):=[(OQ u0),(O8 u0),(183,some (aF 4 1 af a5)),(PU u0),(P8 u0),(OW u0),(OP u0),(Pf u0),(aeU u0 a5)]
end
def rQ (p:ah) (s_:State) (u3:Int) (u2:ah) (u1:State) (u4:Int) (u5:Int) (u0:(bg × Int)):((List Bool) × Int)→St:=
  fun zz=>match zz with|(a5,i)=> ⟨(abw u3 u4 u5 p s_ u2 u1 i),(afC u0 a5)⟩
section
variable (p:ah) (s_:State) (u1:ah) (u0:State) (u2:Int) (u3:Int) (u4:Int)
abbrev abY:St:=⟨[(bB p),(fH s_),(pR u1),(p9 u0),(Ah u2 u3 u4),(rW u2 u3),(rf u2 u3),(34,(vI u4))],[]⟩
end
def qR (p:ah) (s_:State) (u2:Int) (u1:ah) (u0:State) (u3:Int) (u4:Int):Unit→St:=
  fun _=>(abY p s_ u1 u0 u2 u3 u4)
def BS (p:ah) (s_:State) (u0:Int) (u1:ah) (u2:State) (u3:Int) (u4:Int) (u5:(bg × Int)):(aM ((List Bool) × Int) (Ex Unit (aM Int (Ex Unit Bool))))→Exit→St→Prop:=
  LQ 2 [1] (rQ p s_ u0 u1 u2 u3 u4 u5) (qR p s_ u0 u1 u2 u3 u4) (mg p s_ u0 u1 u2 u3)
section
variable (u0:(bg × Int)) (u5:(aj × Int)) (a5:(List Bool)) (i:Int)
abbrev afo:List CV:=[(.own 181 false u0.1.events.length),(cB u0.1.cleared),(cI u0.1.millis),(cI u0.1.energy),(.own 182 false u0.1.state.closed.length),(.own 183 false u0.1.state.locked.length),(.own 184 false u0.1.state.badLink.length),(.own 185 false u0.1.state.on_.length),(.own 186 false u0.1.state.badSource.length),(.own 187 false u0.1.state.earthed.length),(.own 188 false u0.1.state.badBus.length)]
abbrev afw:Nat × Option Ob:=(190,some (.cells 38 (afo u0)))
abbrev Xm:List (Nat × Option Ob):=[(OQ u0),(O8 u0),(183,some (aF 4 1 af u0.1.state.locked)),(PU u0),(P8 u0),(OW u0),(OP u0),(Pf u0),(afw u0)]
abbrev afM:List CV:=[(.d (Uh u5)),(cB u5.1.cleared),(cI u5.1.millis),(cI u5.1.energy),(.d (SQ u5)),(.d (Tp u5)),(.d (RQ u5)),(.d (UO u5)),(.d (Uq u5)),(.d (TR u5)),(.d (aD none 1 af u5.1.state.badBus))]
abbrev afI:List (Nat × Option Ob):=[(OQ u0),(O8 u0),(183,some (aF 4 1 af u0.1.state.locked)),(PU u0),(P8 u0),(OW u0),(OP u0),(Pf u0)]
abbrev aeX:List (Nat × Option Ob):=[(OQ u0),(O8 u0),(183,some (aF 4 1 af (a5.set i.toNat (!(at' a5 i.toNat))))),(PU u0),(P8 u0),(OW u0),(OP u0),(Pf u0),(190,some (.cells 38 [(.own 181 false u0.1.events.length),(cB u0.1.cleared),(cI u0.1.millis),(cI u0.1.energy),(.own 182 false u0.1.state.closed.length),(.own 183 false ((a5.set i.toNat (!(at' a5 i.toNat))).length)),(.own 184 false u0.1.state.badLink.length),(.own 185 false u0.1.state.on_.length),(.own 186 false u0.1.state.badSource.length),(.own 187 false u0.1.state.earthed.length),(.own 188 false u0.1.state.badBus.length)]))]
end
theorem BB (p:ah) (s_:State) (u3:Int) {r:Bool} (h:jl p s_ u3=some r):Fn Tryz.prog 3 (Kj p s_ u3) [] (vB r) []:=by
 refine fN tT Tryz.func3 rfl rfl fun B=> ?_
 show bG _ _ _ _ _ _ (nG r) _
 unfold jl at h
 refine sz tT (Y5 p s_ u3) {fr:=[(0,101),(1,102)] } [101,102] ?_
 refine aQ (aQ (bE h fun r_ hr_ h=> ?_))
 have q0:=Ll p hr_
 refine rg tT ⟨[(2,(vI u3)),(bB p),(fH s_),(21,(vB r_))],[]⟩ [_] {an:=[(1,cA q0 [])] } [] ⟨q0,trivial⟩ ?_
 refine bI h (fun hb5 h=> ?_) (fun hb5 h=> ?_)
 ·refine ct hb5 ?_
  refine aQ (bE h fun v6 hr_1 h=> ?_)
  have q0:=Bq hr_1
  refine rg tT ⟨[(6,(vB v6))],[]⟩ [_] {an:=[(0,cA q0 [])] } [] ⟨q0,trivial⟩ ?_
  refine aR ?_
  obtain rfl:=oi h
  exact rl [(sB v6)]
 ·refine cf hb5 ?_
  refine aP (aQ (bE h fun u2 hr_2 h=> ?_))
  refine bE h fun u1 hr_3 h=> ?_
  have q0:=rk [(0,103),(1,104),(2,105),(3,106)] (CW p hr_2)
  have q1:=rk [(0,107),(1,108),(2,109),(3,110),(4,111),(5,112),(6,113),(7,114)] (sN s_ hr_3)
  refine di tT mX ⟨[(2,(vI u3)),(bB p),(fH s_),(7,(vP 115 0)),(8,(vP 116 0))],[(115,some (Xh u2)),(116,some (ac5 u1))]⟩ [_,_,u2.sources.length=u2.sources.length,u2.links.length=u2.links.length,u2.racks.length=u2.racks.length,u1.closed.length=u1.closed.length,u1.locked.length=u1.locked.length,u1.badLink.length=u1.badLink.length,u1.on_.length=u1.on_.length,u1.badSource.length=u1.badSource.length,u1.earthed.length=u1.earthed.length,u1.badBus.length=u1.badBus.length] {an:=[(1,cA q0 []),(3,cA q1 [])],fr:=[(4,115),(5,116)] } [103,104,105,107,108,109,110,111,112,113] ⟨q0,q1,rfl,rfl,rfl,rfl,rfl,rfl,rfl,rfl,rfl,rfl,trivial⟩ (fz ⟨[(2,(vI u3)),(bB p),(fH s_),(pR u2),(p9 u1)],[]⟩ [115,116]) ?_
  refine aQ (aQ (bE h fun u4 hr_4 h=> ?_))
  have q0:=NY u3 p.buses hr_4
  refine rg tT ⟨[(bB p),(fH s_),(pR u2),(p9 u1),(rW u3 u4),(rf u3 u4),(34,(vI 0))],[]⟩ [_,[u3,u4].length=2,aT 2 1 (xL 1 [(.int .i64 u3),(.int .i64 u4)]) (au (aC .i64) [u3,u4]),[u3,u4].length=[u3,u4].length] {an:=[(4,cA q0 []),(5, .arr [u3,u4].length (au (aC .i64) [u3,u4]))],fr:=[(5,117)] } [117] ⟨q0,(rfl),((by intro i hi j hj;match i,j,hi,hj with|0,0,_,_=>rfl|1,0,_,_=>rfl)),rfl,trivial⟩ ?_
  refine bE h fun y1 hy h=> ?_
  refine aL [] (r9 p s_ u3 u2 u1 u4) (sK p s_ u2 u1) nG hy (fun s f h=> ?_) ?_
  ·clear hy
   show bG _ _ _ _ _ _ ((mg p s_ u3 u2 u1 u4) f) _
   unfold gQ at h
   obtain⟨u6,rfl⟩: ∃q,q=s:=⟨_,rfl⟩
   refine sz tT ⟨[(bB p),(fH s_),(pR u2),(p9 u1),(rW u3 u4),(rf u3 u4),(34,(vI u6)),(35,(vB (decide (u6<([u3,u4].length:Int)))))],[]⟩ {} [] ?_
   refine aQ ?_
   refine bI h (fun hb4 h=> ?_) (fun hb4 h=> ?_)
   ·refine ct hb4 ?_
    refine aP (aQ (aB (aQ (aO h fun a1 h=> ?_))))
    refine rg tT (abY p s_ u2 u1 u3 u4 u6) [_] {} [] ⟨a1,trivial⟩ ?_
    refine aQ (bE h fun u0 hr_5 h=> ?_)
    have q0:=rk [(0,181),(1,182),(2,183),(3,184),(4,185),(5,186),(6,187),(7,188),(8,189)] (jv u2 u1 (at' [u3,u4] u6.toNat) hr_5)
    refine rg tT ⟨[(bB p),(fH s_),(pR u2),(p9 u1),(Ah u3 u4 u6),(11,(vP 190 0)),(12,(vI u0.2)),(rW u3 u4),(rf u3 u4),(34,(vI u6))],(Xm u0)⟩ [_] {an:=[(3,cA q0 [])],fr:=[(7,190)] } [] ⟨q0,trivial⟩ ?_
    refine aQ (bE h fun u5 hr_6 h=> ?_)
    have q0:=rk [(0,191),(1,192),(2,193),(3,194),(4,195),(5,196),(6,197),(7,198),(8,199)] (pE p s_ (at' [u3,u4] u6.toNat) hr_6)
    refine ri tT ⟨[(bB p),(fH s_),(pR u2),(p9 u1),(Ah u3 u4 u6),(11,(vP 190 0)),(12,(vI u0.2)),(13,(vP 200 0)),(14,(vI u5.2)),(rW u3 u4),(rf u3 u4),(34,(vI u6))],[(OQ u0),(O8 u0),(183,some (aF 4 1 af u0.1.state.locked)),(PU u0),(P8 u0),(OW u0),(OP u0),(Pf u0),(afw u0),(200,some (.cells 44 (afM u5)))]⟩ [_,u5.1.events.length=u5.1.events.length,u5.1.state.closed.length=u5.1.state.closed.length,u5.1.state.locked.length=u5.1.state.locked.length,u5.1.state.badLink.length=u5.1.state.badLink.length,u5.1.state.on_.length=u5.1.state.on_.length,u5.1.state.badSource.length=u5.1.state.badSource.length,u5.1.state.earthed.length=u5.1.state.earthed.length,u5.1.state.badBus.length=u5.1.state.badBus.length] {an:=[(3,cA q0 [])],fr:=[(7,200)] } [191,192,193,194,195,196,197,198] ⟨q0,rfl,rfl,rfl,rfl,rfl,rfl,rfl,rfl,trivial⟩ (fz ⟨[(bB p),(fH s_),(pR u2),(p9 u1),(Ah u3 u4 u6),(11,(vP 190 0)),(12,(vI u0.2)),(13,(vD (oL [(Uh u5),(.bool u5.1.cleared),(.int .i64 u5.1.millis),(.int .i64 u5.1.energy),(SQ u5),(Tp u5),(RQ u5),(UO u5),(Uq u5),(TR u5),(aD none 1 af u5.1.state.badBus)] 0))),(14,(vI u5.2)),(rW u3 u4),(rf u3 u4),(34,(vI u6))],(Xm u0)⟩ [200]) ?_
    refine aQ (aQ (bE h fun v4 hr_7 h=> ?_))
    refine rg tT ⟨[(bB p),(fH s_),(pR u2),(p9 u1),(Ah u3 u4 u6),(11,(vP 190 0)),(rW u3 u4),(rf u3 u4),(34,(vI u6)),(60,(vB (bif (!decide (u0.2=u5.2))then true else(!v4))))],(Xm u0)⟩ (eqs (!decide (u0.2=u5.2)) 3 ((gP (ic [(3,(!decide (u0.2=u5.2)))]) [(3,false)]→All [Fn Tryz.prog 13 [(.agg (afo u0)),(.agg (afM u5))] (afI u0) (vB v4) (afI u0)])::(eqs (!decide (u0.2=u5.2)) 2 []))) {yb:=[(3,(!decide (u0.2=u5.2)))],an:=[(6, .callR [181,182,183,184,185,186,187,188] (vB v4))] } [] (ae ⟨(fun hg=> ⟨(Fn.DK (frz:=[181,182,183,184,185,186,187,188]) (p:=[u0.1.events.length=u0.1.events.length,u0.1.state.closed.length=u0.1.state.closed.length,u0.1.state.locked.length=u0.1.state.locked.length,u0.1.state.badLink.length=u0.1.state.badLink.length,u0.1.state.on_.length=u0.1.state.on_.length,u0.1.state.badSource.length=u0.1.state.badSource.length,u0.1.state.earthed.length=u0.1.state.earthed.length,u0.1.state.badBus.length=u0.1.state.badBus.length]) (KT u0.1 u5.1 (fD hr_7 (aU hg))) (by kernel_rfl) ⟨rfl,rfl,rfl,rfl,rfl,rfl,rfl,rfl,trivial⟩ rfl),trivial⟩),(ae trivial)⟩) ?_
    refine bI h (fun hb3 h=> ?_) (fun hb3 h=> ?_)
    ·refine ct hb3 ?_
     refine sz tT ⟨[(6,(vB false))],[]⟩ {} [] ?_
     refine aR ?_
     obtain rfl:=oi h
     exact lR bY (dm 0) bZ (aW.mk (.inr rfl) (p:=[]) (l:=[(sB false)]) (by kernel_rfl) trivial (fe.refl _) trivial)
    ·refine cf hb3 ?_
     refine aP (aQ (sz tT ⟨[(bB p),(fH s_),(pR u2),(p9 u1),(Ah u3 u4 u6),(11,(vP 190 0)),(15,(vI 0)),(rW u3 u4),(rf u3 u4),(34,(vI u6))],(Xm u0)⟩ {} [] ?_))
     refine bE h fun y hy h=> ?_
     refine aL [1] (rQ p s_ u3 u2 u1 u4 u6 u0) (qR p s_ u3 u2 u1 u4 u6) (mg p s_ u3 u2 u1 u4) hy (fun s f h=> ?_) ?_
     ·clear hy
      show bG _ _ _ _ _ _ ((BS p s_ u3 u2 u1 u4 u6 u0) f) _
      unfold dQ at h
      obtain⟨a5,i⟩:=s
      refine aQ (sz tT ⟨[(bB p),(fH s_),(pR u2),(p9 u1),(Ah u3 u4 u6),(11,(vP 190 0)),(15,(vI i)),(rW u3 u4),(rf u3 u4),(34,(vI u6)),(66,(vB (decide (i<(a5.length:Int)))))],(afC u0 a5)⟩ {} [] ?_)
      refine bI h (fun hb h=> ?_) (fun hb h=> ?_)
      ·refine ct hb ?_
       refine aP (aQ (aB (aO h fun a1 h=> ?_)))
       refine di tT mX ⟨(abw u3 u4 u6 p s_ u2 u1 i),[(OQ u0),(O8 u0),(183,some (.arr 4 1 a5.length (au af (a5.set i.toNat (!(at' a5 i.toNat)))))),(PU u0),(P8 u0),(OW u0),(OP u0),(Pf u0),(aeU u0 a5)]⟩ [_,_,_,_,aT a5.length 1 (lH (au af a5) i.toNat 0 [(.bool (!(at' a5 i.toNat)))]) (au af (a5.set i.toNat (!(at' a5 i.toNat))))] {an:=[(12, .arr 0 (au af (a5.set i.toNat (!(at' a5 i.toNat)))))] } [] ⟨a1,(tL a1),a1,(tL a1),(dD _ _ _ _ _ _ _ _ rfl (fun j hj=>(match j,hj with|0,_=>rfl))),trivial⟩ (bJ.le (st':=⟨(abw u3 u4 u6 p s_ u2 u1 i),(aeX u0 a5 i)⟩) ⟨⟨tR,tR,tR,tR,tR,tR,tR,tR,tR,tR,trivial⟩,(hN 2 ⟨rfl,oW,(hN 5 ⟨rfl,fG ⟨bH.refl _,bH.refl _,bH.refl _,bH.refl _,bH.refl _,cW,bH.refl _,bH.refl _,bH.refl _,bH.refl _,bH.refl _,trivial⟩,trivial⟩)⟩)⟩) ?_
       refine rz tT ⟨[(bB p),(fH s_),(pR u2),(p9 u1),(Ah u3 u4 u6),(11,(vP 190 0)),(aaF i),(rW u3 u4),(rf u3 u4),(34,(vI u6))],(aeX u0 a5 i)⟩ {} [] ?_
       obtain rfl:=oi h
       exact lN
      ·refine cf hb ?_
       refine aI (fz (abY p s_ u2 u1 u3 u4 u6) []) ?_
       refine aX ?_
       obtain rfl:=oi h
       exact lB
     ·clear hy
      cases y with
      |brk z=>
       unfold fE
       refine⟨_, .refl, ?_⟩
       refine aQ (bE h fun v1 hr_8 h=> ?_)
       have q0:=nP u2 u1 (at' [u3,u4] u6.toNat) hr_8
       refine rg tT ⟨[(bB p),(fH s_),(pR u2),(p9 u1),(Ah u3 u4 u6),(12,(vI v1.2)),(16,(vB v1.1)),(rW u3 u4),(rf u3 u4),(34,(vI u6))],[]⟩ [_] {an:=[(3,cA q0 [])] } [] ⟨q0,trivial⟩ ?_
       refine aQ (bE h fun v2 hr_9 h=> ?_)
       have q0:=Dy p s_ (at' [u3,u4] u6.toNat) hr_9
       refine rg tT ⟨[(bB p),(fH s_),(pR u2),(p9 u1),(Ah u3 u4 u6),(12,(vI v1.2)),(14,(vI v2.2)),(16,(vB v1.1)),(17,(vB v2.1)),(rW u3 u4),(rf u3 u4),(34,(vI u6))],[]⟩ [_] {an:=[(3,cA q0 [])] } [] ⟨q0,trivial⟩ ?_
       refine aQ (sg tT ⟨[(bB p),(fH s_),(pR u2),(p9 u1),(Ah u3 u4 u6),(rW u3 u4),(rf u3 u4),(34,(vI u6)),(102,(vB (bif (!decide (v1.2=v2.2))then true else(!(v1.1==v2.1)))))],[]⟩ (eqs (!decide (v1.2=v2.2)) 4 []) {yb:=[(3,(!decide (v1.2=v2.2)))] } [] (ae trivial) ?_)
       refine bI h (fun hb2 h=> ?_) (fun hb2 h=> ?_)
       ·refine ct hb2 ?_
        refine sz tT ⟨[(6,(vB false))],[]⟩ {} [] ?_
        refine aR ?_
        obtain rfl:=oi h
        exact lR bY (dm 0) bZ (aW.mk (.inr rfl) (p:=[]) (l:=[(sB false)]) (by kernel_rfl) trivial (fe.refl _) trivial)
       ·refine cf hb2 ?_
        refine aP (aQ (bE h fun u8 hr_10 h=> ?_))
        have q0:=rk [(0,201)] (xk u2 u1 (at' [u3,u4] u6.toNat) hr_10)
        refine rg tT ⟨[(bB p),(fH s_),(pR u2),(p9 u1),(Ah u3 u4 u6),(12,(vI u8.2)),(18,(Ya u8)),(rW u3 u4),(rf u3 u4),(34,(vI u6))],[]⟩ [_,u8.1.length=u8.1.length] {an:=[(3,cA q0 [])] } [201] ⟨q0,rfl,trivial⟩ ?_
        refine aQ (bE h fun v0 hr_11 h=> ?_)
        have q0:=Kv p s_ (at' [u3,u4] u6.toNat) hr_11
        refine rg tT ⟨[(bB p),(fH s_),(pR u2),(p9 u1),(12,(vI u8.2)),(14,(vI v0.2)),(18,(Ya u8)),(19,(Ya v0)),(rW u3 u4),(rf u3 u4),(34,(vI u6))],[]⟩ [_] {an:=[(3,cA q0 [])] } [] ⟨q0,trivial⟩ ?_
        refine aQ (bE h fun v5 hr_12 h=> ?_)
        refine rg tT ⟨[(bB p),(fH s_),(pR u2),(p9 u1),(rW u3 u4),(rf u3 u4),(34,(vI u6)),(125,(vB (bif (!decide (u8.2=v0.2))then true else(!v5))))],[]⟩ (eqs (!decide (u8.2=v0.2)) 3 ((gP (ic [(3,(!decide (u8.2=v0.2)))]) [(3,false)]→All [Fn Tryz.prog 18 [(sD (aD none 1 (aC .i64) u8.1)),(sD (aD none 1 (aC .i64) v0.1))] [] (vB v5) []])::(eqs (!decide (u8.2=v0.2)) 2 []))) {yb:=[(3,(!decide (u8.2=v0.2)))],an:=[(6, .call [] (vB v5) [])] } [] (ae ⟨(fun hg=> ⟨(zo u8.1 v0.1 (fD hr_12 (aU hg))),trivial⟩),(ae trivial)⟩) ?_
        refine bI h (fun hb1 h=> ?_) (fun hb1 h=> ?_)
        ·refine ct hb1 ?_
         refine sz tT ⟨[(6,(vB false))],[]⟩ {} [] ?_
         refine aR ?_
         obtain rfl:=oi h
         exact lR bY (dm 0) bZ (aW.mk (.inr rfl) (p:=[]) (l:=[(sB false)]) (by kernel_rfl) trivial (fe.refl _) trivial)
        ·refine cf hb1 ?_
         refine aP (rz tT ⟨[(bB p),(fH s_),(pR u2),(p9 u1),(rW u3 u4),(rf u3 u4),(34,(Am u6))],[]⟩ {} [] ?_)
         obtain rfl:=oi h
         exact lN
      |ret v=>
       obtain rfl:=oi h
       unfold fE
       intro e st hn ha hR
       cases e with
       |normal=>exact absurd rfl hn
       |exit id=>simp only [tZ (b:=1) ha rfl,cond_false];exact hR
       |goto l=>exact hR
       |ret=>exact hR
       |panic c=>exact hR
       |outgrown=>exact hR
   ·refine cf hb4 ?_
    refine aI (fz (aeQ p s_ u2 u1) []) ?_
    refine aX ?_
    obtain rfl:=oi h
    exact lB
  ·clear hy
   cases y1 with
   |brk z=>
    unfold fE
    refine⟨_, .refl, ?_⟩
    refine aQ (bE h fun u7 hr_13 h=> ?_)
    refine bE h fun u9 hr_14 h=> ?_
    refine bE h fun v3 hr_15 h=> ?_
    have q0:=FV p u2 hr_13
    refine rg tT ⟨[(6,(vB (k80 u7 u9 v3)))],[]⟩ (_::(eqs u7 3 [gP (ic [(3,u7),(8,(NP u7 u9))]) [(3,true)]→All [Fn Tryz.prog 20 (aj8 s_ u1) [] (vB u9) []],u7=u7,(NP u7 u9)=(NP u7 u9),gP (ic [(3,u7),(8,(NP u7 u9))]) [(8,true)]→All [Fn Tryz.prog 7 [] [] (vB v3) []],(NP u7 u9)=(NP u7 u9)])) {yb:=[(3,u7),(8,(NP u7 u9))],an:=[(2,cA q0 []),(6, .call [] (vB u9) []),(9, .call [] (vB v3) [])] } [] ⟨q0,(ae ⟨(fun hg=> ⟨(xJ s_ u1 (fD hr_14 (aU hg))),trivial⟩),rfl,rfl,(fun hg=> ⟨(Bq (fD hr_15 (aU hg))),trivial⟩),rfl,trivial⟩)⟩ ?_
    refine aR ?_
    obtain rfl:=oi h
    exact rl [(sB (k80 u7 u9 v3))]
   |ret v=>
    obtain rfl:=oi h
    unfold fE
    intro e st hn ha hR
    cases e with
    |normal=>exact absurd rfl hn
    |exit id=>exact hR
    |goto l=>exact hR
    |ret=>exact hR
    |panic c=>exact hR
    |outgrown=>exact hR
end
end Sg
