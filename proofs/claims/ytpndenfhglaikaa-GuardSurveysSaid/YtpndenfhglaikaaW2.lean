import Derived.Test.YtpndenfhglaikaaW1
set_option linter.all false
namespace Sg
open Go Go.Proofs
set_option maxRecDepth 20000
noncomputable section
theorem kW (u1:Int) (l:(List Int)) (u2:Int) (u0:(List Int)) {r:Bool} (h:fe u1 l u2 u0=some r):Fn Try.prog 131 [(sI u1),(sD (Ef l)),(sI u2),(sD (Ef u0))] [] (vB r) []:=by
 refine fN tT Try.func131 rfl rfl fun B=> ?_
 show bJ _ _ _ _ _ _ (p9 r) _
 unfold fe at h
 refine sz tT ⟨[(0,(vI u1)),(uz l),(2,(vI u2)),(PX u0)],[]⟩ {} [] ?_
 refine aQ (sz tT ⟨[(0,(vI u1)),(uz l),(2,(vI u2)),(PX u0),(12,(vB (!decide (u1=u2))))],[]⟩ {} [] ?_)
 refine bI h (fun hb3 h=> ?_) (fun hb3 h=> ?_)
 ·refine ct hb3 ?_
  refine sz tT ⟨[(8,(vB (decide (u1<u2))))],[]⟩ {} [] ?_
  refine aR ?_
  obtain rfl:=oi h
  exact rl [(sB (decide (u1<u2)))]
 ·refine cf hb3 ?_
  refine aP (aQ (sz tT ⟨[(uz l),(PX u0),(20,(vB (!decide ((l.length:Int)=(u0.length:Int)))))],[]⟩ {} [] ?_))
  refine bI h (fun hb2 h=> ?_) (fun hb2 h=> ?_)
  ·refine ct hb2 ?_
   refine sz tT ⟨[(8,(vB (decide ((l.length:Int)<(u0.length:Int)))))],[]⟩ {} [] ?_
   refine aR ?_
   obtain rfl:=oi h
   exact rl [(sB (decide ((l.length:Int)<(u0.length:Int))))]
  ·refine cf hb2 ?_
   refine aP (aQ (sz tT ⟨[(uz l),(PX u0),(9,(vI 0))],[]⟩ {} [] ?_))
   refine bE h fun y hy h=> ?_
   refine aL [] (vY l u0) uW p9 hy (fun s f h=> ?_) ?_
   ·clear hy
    show bJ _ _ _ _ _ _ ((Es l u0) f) _
    unfold fA at h
    obtain⟨i,rfl⟩: ∃q,q=s:=⟨_,rfl⟩
    refine aQ (sz tT ⟨[(uz l),(PX u0),(9,(vI i)),(29,(Ow i l))],[]⟩ {} [] ?_)
    refine bI h (fun hb1 h=> ?_) (fun hb1 h=> ?_)
    ·refine ct hb1 ?_
     refine aP (aQ (aB (aQ (aO h fun⟨a1,a2⟩ h=> ?_))))
     refine dg tT mX ⟨[(uz l),(PX u0),(9,(vI i)),(40,(vB (!decide ((at' l i.toNat)=(at' u0 i.toNat)))))],[]⟩ [_,_] {} [] ⟨a1,a2,trivial⟩ ?_
     refine bI h (fun hb h=> ?_) (fun hb h=> ?_)
     ·refine ct hb ?_
      refine aQ (aO h fun⟨a1,a2⟩ h=> ?_)
      refine dg tT mX ⟨[(8,(vB (decide ((at' l i.toNat)<(at' u0 i.toNat)))))],[]⟩ [_,_] {} [] ⟨a1,a2,trivial⟩ ?_
      refine aR ?_
      obtain rfl:=oi h
      exact lR dF (dM 0) dB (bn.mk (.inr rfl) (p:=[]) (l:=[(sB (decide ((at' l i.toNat)<(at' u0 i.toNat))))]) (by kernel_rfl) trivial (fC.refl _) trivial)
     ·refine cf hb ?_
      refine aP (rz tT ⟨[(uz l),(PX u0),(9,(uM i))],[]⟩ {} [] ?_)
      obtain rfl:=oi h
      exact lN
    ·refine cf hb1 ?_
     refine aI (fz ⟨[],[]⟩ []) ?_
     refine aX ?_
     obtain rfl:=oi h
     exact lB
   ·clear hy
    cases y with
    |brk z=>
     unfold fZ
     refine⟨_, .refl, ?_⟩
     refine sz tT ⟨[(8,(vB false))],[]⟩ {} [] ?_
     refine aR ?_
     obtain rfl:=oi h
     exact rl [(sB false)]
    |ret v=>
     obtain rfl:=oi h
     unfold fZ
     intro e st hn ha hR
     cases e with
     |normal=>exact absurd rfl hn
     |exit id=>exact hR
     |goto l=>exact hR
     |ret=>exact hR
     |panic c=>exact hR
     |outgrown=>exact hR
def qc  :((List Int) × Int)→Exit→St→Prop:=
  fun r=>bn TT [.tmp 4, .tmp 5] (.gL [(sD (aC none 1 (aA .i64) r.1)),(sI r.2)]) []
section
variable (u0:(List Int)) (l:(List Short)) (p:ai) (n:Int)
abbrev zL:Nat × TV:=(7,(vO 7 true u0.length))
abbrev WE:Nat × Option Ob:=(7,some (yQ u0))
abbrev Jr:List (Nat × Option Ob):=[(WE u0)]
abbrev acW:St:=⟨[(qa l),(fo p),(zL u0),(8,(vI n))],(Jr u0)⟩
end
def wu (p:ai) (l:(List Short)):((List Int) × Int)→St:=
  fun zz=>match zz with|(u0,n)=>(acW u0 l p n)
def vZ  :(List Int)→St:=
  fun u0=> ⟨[(zL u0)],(Jr u0)⟩
def je (p:ai) (l:(List Short)):(aS ((List Int) × Int) (Ex (List Int) ((List Int) × Int)))→Exit→St→Prop:=
  LQ 0 [] (wu p l) vZ qc
section
variable (l:(List Short)) (p:ai) (u0:(List Int)) (n:Int) (u1:(List Bool)) (i:Int)
abbrev ajz:List (Nat × TV):=[(qa l),(fo p),(zL u0),(8,(vI n)),(9,(vO 11 true u1.length)),(10,(vI i))]
abbrev WT:List (Nat × Option Ob):=[(WE u0),(Uf u1)]
end
def vN (p:ai) (l:(List Short)) (u0:(List Int)) (n:Int):((List Bool) × Int)→St:=
  fun zz=>match zz with|(u1,i)=> ⟨(ajz l p u0 n u1 i),(WT u0 u1)⟩
section
variable (l:(List Short)) (p:ai) (u0:(List Int)) (n:Int) (u1:(List Bool))
abbrev ah3:St:=⟨[(qa l),(fo p),(zL u0),(8,(vI n)),(9,(vO 11 true u1.length))],(WT u0 u1)⟩
end
def uX (p:ai) (l:(List Short)) (u0:(List Int)) (n:Int):(List Bool)→St:=
  fun u1=>(ah3 l p u0 n u1)
def Ee (p:ai) (l:(List Short)) (u0:(List Int)) (n:Int):(aS ((List Bool) × Int) (Ex (List Bool) (aS ((List Int) × Int) (Ex (List Int) ((List Int) × Int)))))→Exit→St→Prop:=
  LQ 2 [1] (vN p l u0 n) (uX p l u0 n) (je p l)
section
variable (u1:(List Bool)) (l:(List Short)) (p:ai) (u0:(List Int)) (n:Int) (k:Int)
abbrev Ro:Nat × TV:=(9,(vD (aC (some true) 1 ah u1)))
abbrev afJ:List (Nat × TV):=[(qa l),(fo p),(zL u0),(8,(vI n)),(Ro u1),(12,(vI k))]
end
def vQ (p:ai) (l:(List Short)) (n:Int) (u1:(List Bool)):((List Int) × Int)→St:=
  fun zz=>match zz with|(u0,k)=> ⟨(afJ u1 l p u0 n k),(Jr u0)⟩
def uV (p:ai) (l:(List Short)) (n:Int):(List Int)→St:=
  fun u0=>(acW u0 l p n)
def DX (p:ai) (l:(List Short)) (n:Int) (u0:(List Bool)):(aS ((List Int) × Int) (Ex (List Int) (aS ((List Int) × Int) (Ex (List Int) ((List Int) × Int)))))→Exit→St→Prop:=
  LQ 4 [1] (vQ p l n u0) (uV p l n) (je p l)
section
variable (p:ai) (u0:(List Int)) (u2:(List Bool)) (l:(List Short)) (n:Int) (i:Int) (u1:(List Int)) (k:Int)
abbrev SL:DV:=(aC none 1 (aA .i64) ([]:List Int))
abbrev ac1:St:=⟨[(4,(vD SL)),(5,(vI 1))],[]⟩
abbrev acH:List SV:=[(sD SL),(sI 1)]
abbrev agL:List (Nat × Option Ob):=[(7,some (acr p))]
abbrev Ve:=(List.replicate (Iw p) (false:Bool))
abbrev ajE:Nat × TV:=(9,(vO 11 true ((Ve p).length)))
abbrev afC:List (Nat × Option Ob):=[(WE u0),(11,some (aG 4 1 ah (Ve p)))]
abbrev adh:=(au ah (u2.set ((at' ((at' l n.toNat).links) i.toNat).toNat) true))
abbrev aiK:List (Nat × Option Ob):=[(WE u0),(11,some (aG 4 1 ah (u2.set ((at' ((at' l n.toNat).links) i.toNat).toNat) true)))]
abbrev ahR:Nat × TV:=(7,(vO 7 true ((XE l n u1 k).length)))
abbrev ajx:List (Nat × Option Ob):=[(7,some (aG 3 1 (aA .i64) (XE l n u1 k)))]
end
theorem Em (p:ai) (l:(List Short)) {r:((List Int) × Int)} (h:lq p l=some r):Fn Try.prog 53 (ajy p l) [] (.gL [(sD (aC none 1 (aA .i64) r.1)),(sI r.2)]) []:=by
 refine fN tT Try.func53 rfl rfl fun B=> ?_
 show bJ _ _ _ _ _ _ (qc r) _
 unfold lq at h
 refine sz tT (aiB p l) {fr:=[(0,6)] } [6] ?_
 refine aQ (bE h fun r_ hr_ h=> ?_)
 have q0:=qQ p hr_
 refine rg tT (aeK p l r_) [_] {an:=[(1,cA q0 [])] } [] ⟨q0,trivial⟩ ?_
 refine aQ (sz tT ⟨[(qa l),(fo p),(6,(vI r_)),(16,(vB (!decide (r_=0))))],[]⟩ {} [] ?_)
 refine bI h (fun hb7 h=> ?_) (fun hb7 h=> ?_)
 ·refine ct hb7 ?_
  refine sz tT (Yv r_) {} [] ?_
  refine aI (bG.le (st':=⟨[(4,(vD SL)),(5,(vI r_))],[]⟩) ⟨⟨⟨_,rfl,fC.v (jw.one (bL.d dP.nil'))⟩,tR,trivial⟩,trivial⟩) ?_
  refine aR ?_
  obtain rfl:=oi h
  exact rl [(sD SL),(sI r_)]
 ·refine cf hb7 ?_
  refine aP (aQ (sz tT ⟨[(qa l),(fo p),(20,(vB (decide (8<(l.length:Int)))))],[]⟩ {} [] ?_))
  refine bI h (fun hb6 h=> ?_) (fun hb6 h=> ?_)
  ·refine ct hb6 ?_
   refine sz tT WH {} [] ?_
   refine aI (bG.le (st':=ac1) ⟨⟨⟨_,rfl,fC.v (jw.one (bL.d dP.nil'))⟩,tR,trivial⟩,trivial⟩) ?_
   refine aR ?_
   obtain rfl:=oi h
   exact rl acH
  ·refine cf hb6 ?_
   refine aP (aQ (aO h fun⟨a1,a2,a3⟩ h=> ?_))
   refine rg tT ⟨[(qa l),(fo p),(7,(vO 7 true (aa4 p)))],(agL p)⟩ [_,(X4 p)=(p.links.length:Int),_,_,(DW p).length=(Iw p),aY (Iw p) 1 (fun _ j=>[(.int .i64 0)].getD j .nilp) (OP p)] {an:=[(3, .arr (DW p).length (OP p))],fr:=[(3,7)] } [] ⟨a1,rfl,a2,a3,(List.length_replicate),(jA _ _ _ _ _ (fun j hj=>(match j,hj with|0,_=>rfl))),trivial⟩ ?_
   refine aQ (sz tT ⟨[(qa l),(fo p),(7,(vO 7 true (aa4 p))),(8,(vI 0))],(agL p)⟩ {} [] ?_)
   refine bE h fun y2 hy h=> ?_
   refine aL [] (wu p l) vZ qc hy (fun s f h=> ?_) ?_
   ·clear hy
    show bJ _ _ _ _ _ _ ((je p l) f) _
    unfold gN at h
    obtain⟨u0,n⟩:=s
    refine aQ (sz tT ⟨[(qa l),(fo p),(zL u0),(8,(vI n)),(28,(vB (decide (n<(l.length:Int)))))],(Jr u0)⟩ {} [] ?_)
    refine bI h (fun hb5 h=> ?_) (fun hb5 h=> ?_)
    ·refine ct hb5 ?_
     refine aP (aQ (aB (aQ (aQ (aO h fun⟨a1,a2⟩ h=> ?_)))))
     refine rg tT ⟨[(qa l),(fo p),(zL u0),(8,(vI n)),(44,(vB (RH l n)))],(Jr u0)⟩ (_::(eqs (Ql l n) 3 ((gP (iD [(6,(Ql l n))]) [(6,false)]→All [(0:Int)≤n∧n<(l.length:Int)])::(eqs (Ql l n) 4 [])))) {yb:=[(6,(Ql l n))] } [] ⟨a1,(ae ⟨(fun hg=> ⟨(a2 (aZ hg)),trivial⟩),(ae trivial)⟩)⟩ ?_
     refine bI h (fun hb4 h=> ?_) (fun hb4 h=> ?_)
     ·refine ct hb4 ?_
      refine sz tT WH {} [] ?_
      refine aI (bG.le (st':=ac1) ⟨⟨⟨_,rfl,fC.v (jw.one (bL.d dP.nil'))⟩,tR,trivial⟩,trivial⟩) ?_
      refine aR ?_
      obtain rfl:=oi h
      exact lR dF (dM 0) dB (bn.mk (.inr rfl) (p:=[]) (l:=acH) (by kernel_rfl) trivial (fC.refl _) trivial)
     ·refine cf hb4 ?_
      refine aP (aQ (aO h fun⟨a1,a2,a3⟩ h=> ?_))
      refine rg tT ⟨[(qa l),(fo p),(zL u0),(8,(vI n)),(ajE p)],(afC p u0)⟩ [_,(X4 p)=(p.links.length:Int),_,_,(Ve p).length=(Iw p),aY (Iw p) 1 (fun _ j=>[(.bool false)].getD j .nilp) (au ah (Ve p))] {an:=[(3, .arr (Ve p).length (au ah (Ve p)))],fr:=[(3,11)] } [] ⟨a1,rfl,a2,a3,(List.length_replicate),(jA _ _ _ _ _ (fun j hj=>(match j,hj with|0,_=>rfl))),trivial⟩ ?_
      refine aQ (sz tT ⟨[(qa l),(fo p),(zL u0),(8,(vI n)),(ajE p),(10,(vI 0))],(afC p u0)⟩ {} [] ?_)
      refine bE h fun y hy h=> ?_
      refine aL [1] (vN p l u0 n) (uX p l u0 n) (je p l) hy (fun s f h=> ?_) ?_
      ·clear hy
       show bJ _ _ _ _ _ _ ((Ee p l u0 n) f) _
       unfold gU at h
       obtain⟨u2,i⟩:=s
       refine aQ (aQ (aO h fun a1 h=> ?_))
       refine rg tT ⟨[(qa l),(fo p),(zL u0),(8,(vI n)),(9,(vO 11 true u2.length)),(10,(vI i)),(56,(vB (decide (i<(((at' l n.toNat).links).length:Int)))))],(WT u0 u2)⟩ [_] {} [] ⟨a1,trivial⟩ ?_
       refine bI h (fun hb1 h=> ?_) (fun hb1 h=> ?_)
       ·refine ct hb1 ?_
        refine aP (aQ (aB (aQ (aO h fun⟨a1,a2⟩ h=> ?_))))
        refine rg tT ⟨[(qa l),(fo p),(zL u0),(8,(vI n)),(9,(vO 11 true u2.length)),(10,(vI i)),(11,(vI (at' ((at' l n.toNat).links) i.toNat)))],(WT u0 u2)⟩ [_,_] {} [] ⟨a1,a2,trivial⟩ ?_
        refine aQ (sg tT ⟨[(qa l),(fo p),(zL u0),(8,(vI n)),(9,(vO 11 true u2.length)),(10,(vI i)),(11,(vI (at' ((at' l n.toNat).links) i.toNat))),(75,(vB (bif (decide ((at' ((at' l n.toNat).links) i.toNat)<0))then true else(decide ((p.links.length:Int)≤(at' ((at' l n.toNat).links) i.toNat))))))],(WT u0 u2)⟩ (eqs (decide ((at' ((at' l n.toNat).links) i.toNat)<0)) 6 []) {yb:=[(2,(decide ((at' ((at' l n.toNat).links) i.toNat)<0)))] } [] (ae trivial) ?_)
        refine bI h (fun hb h=> ?_) (fun hb h=> ?_)
        ·refine ct hb ?_
         refine sz tT WH {} [] ?_
         refine aI (bG.le (st':=ac1) ⟨⟨⟨_,rfl,fC.v (jw.one (bL.d dP.nil'))⟩,tR,trivial⟩,trivial⟩) ?_
         refine aR ?_
         obtain rfl:=oi h
         exact lR dF (dM 2) dB (lR dF (dM 0) dB (bn.mk (.inr rfl) (p:=[]) (l:=acH) (by kernel_rfl) trivial (fC.refl _) trivial))
        ·refine cf hb ?_
         refine aP (aO h fun a1 h=> ?_)
         refine ri tT ⟨(ajz l p u0 n u2 i),[(WE u0),(11,some (.arr 4 1 u2.length (adh u2 l n i)))]⟩ [_,_,aY u2.length 1 (nP (au ah u2) ((at' ((at' l n.toNat).links) i.toNat).toNat) 0 [(.bool true)]) (adh u2 l n i)] {an:=[(3, .arr 0 (adh u2 l n i))] } [] ⟨a1,(tL a1),(fU _ _ _ _ _ _ _ _ rfl (fun j hj=>(match j,hj with|0,_=>rfl))),trivial⟩ (bG.le (st':=⟨[(qa l),(fo p),(zL u0),(8,(vI n)),(9,(vO 11 true ((u2.set ((at' ((at' l n.toNat).links) i.toNat).toNat) true).length))),(10,(vI i))],(aiK u0 u2 l n i)⟩) ⟨⟨tR,tR,tR,tR,⟨_,rfl,fC.v (jw.one cW)⟩,tR,trivial⟩,⟨rfl, .refl _,⟨rfl,oW,trivial⟩⟩⟩) ?_
         refine rz tT ⟨[(qa l),(fo p),(zL u0),(8,(vI n)),(9,(vO 11 true ((u2.set ((at' ((at' l n.toNat).links) i.toNat).toNat) true).length))),(10,(uM i))],(aiK u0 u2 l n i)⟩ {} [] ?_
         obtain rfl:=oi h
         exact lN
       ·refine cf hb1 ?_
        refine aI (fz (ah3 l p u0 n u2) []) ?_
        refine aX ?_
        obtain rfl:=oi h
        exact lB
      ·clear hy
       cases y with
       |brk z=>
        obtain⟨u3,rfl⟩: ∃q,q=z:=⟨_,rfl⟩
        unfold fZ
        refine⟨_, .refl, ?_⟩
        refine sg tT ⟨[(qa l),(fo p),(zL u0),(8,(vI n)),(Ro u3),(12,(vI 0))],(Jr u0)⟩ [u3.length=u3.length] {} [11] ⟨rfl,trivial⟩ ?_
        refine bE h fun y1 hy h=> ?_
        refine aL [1] (vQ p l n u3) (uV p l n) (je p l) hy (fun s f h=> ?_) ?_
        ·clear hy
         show bJ _ _ _ _ _ _ ((DX p l n u3) f) _
         unfold gQ at h
         obtain⟨u1,k⟩:=s
         refine aQ (sz tT ⟨[(qa l),(fo p),(zL u1),(8,(vI n)),(Ro u3),(12,(vI k)),(82,(Ow k u1))],(Jr u1)⟩ {} [] ?_)
         refine bI h (fun hb3 h=> ?_) (fun hb3 h=> ?_)
         ·refine ct hb3 ?_
          refine aP (aQ (aB (aQ (aO h fun a1 h=> ?_))))
          refine rg tT ⟨[(qa l),(fo p),(zL u1),(8,(vI n)),(Ro u3),(12,(vI k)),(88,(vB (at' u3 k.toNat)))],(Jr u1)⟩ [_] {} [] ⟨a1,trivial⟩ ?_
          refine bI h (fun hb2 h=> ?_) (fun hb2 h=> ?_)
          ·refine ct hb2 ?_
           refine aO h fun⟨a1,a2⟩ h=> ?_
           refine di tT mX ⟨(afJ u3 l p u1 n k),[(7,some (.arr 3 1 u1.length (Uh l n u1 k)))]⟩ [_,_,_,_,_,aY u1.length 1 (af9 l n u1 k) (Uh l n u1 k)] {an:=[(13, .arr 0 (Uh l n u1 k))] } [] ⟨a1,(tL a1),a2,a1,(tL a1),(fU _ _ _ _ _ _ _ _ rfl (fun j hj=>(match j,hj with|0,_=>rfl))),trivial⟩ (bG.le (st':=⟨[(qa l),(fo p),(ahR l n u1 k),(8,(vI n)),(Ro u3),(12,(vI k))],(ajx l n u1 k)⟩) ⟨⟨tR,tR,⟨_,rfl,fC.v (jw.one cW)⟩,tR,tR,tR,trivial⟩,⟨rfl,oW,trivial⟩⟩) ?_
           refine rz tT ⟨[(qa l),(fo p),(ahR l n u1 k),(8,(vI n)),(Ro u3),(12,(uM k))],(ajx l n u1 k)⟩ {} [] ?_
           obtain rfl:=oi h
           exact lN
          ·refine cf hb2 ?_
           refine aP (rz tT ⟨[(qa l),(fo p),(zL u1),(8,(vI n)),(Ro u3),(12,(uM k))],(Jr u1)⟩ {} [] ?_)
           obtain rfl:=oi h
           exact lN
         ·refine cf hb3 ?_
          refine aI (fz (acW u1 l p n) []) ?_
          refine aX ?_
          obtain rfl:=oi h
          exact lB
        ·clear hy
         cases y1 with
         |brk z=>
          obtain⟨u5,rfl⟩: ∃q,q=z:=⟨_,rfl⟩
          unfold fZ
          refine⟨_, .refl, ?_⟩
          refine rz tT ⟨[(qa l),(fo p),(zL u5),(Vd n)],(Jr u5)⟩ {} [] ?_
          obtain rfl:=oi h
          exact lN
         |ret v=>
          obtain rfl:=oi h
          unfold fZ
          intro e st hn ha hR
          cases e with
          |normal=>exact absurd rfl hn
          |exit id=>simp only [vk (b:=1) ha rfl,cond_false];exact hR
          |goto l=>exact hR
          |ret=>exact hR
          |panic c=>exact hR
          |outgrown=>exact hR
       |ret v=>
        obtain rfl:=oi h
        unfold fZ
        intro e st hn ha hR
        cases e with
        |normal=>exact absurd rfl hn
        |exit id=>simp only [vk (b:=1) ha rfl,cond_false];exact hR
        |goto l=>exact hR
        |ret=>exact hR
        |panic c=>exact hR
        |outgrown=>exact hR
    ·refine cf hb5 ?_
     refine aI (fz ⟨[(zL u0)],(Jr u0)⟩ []) ?_
     refine aX ?_
     obtain rfl:=oi h
     exact lB
   ·clear hy
    cases y2 with
    |brk z=>
     obtain⟨u4,rfl⟩: ∃q,q=z:=⟨_,rfl⟩
     unfold fZ
     refine⟨_, .refl, ?_⟩
     refine sg tT ⟨[(4,(vD (aC (some true) 1 (aA .i64) u4))),(5,(vI 0))],[]⟩ [u4.length=u4.length] {} [7] ⟨rfl,trivial⟩ ?_
     refine aI (bG.le (st':=⟨[(4,(PZ u4)),(5,(vI 0))],[]⟩) ⟨⟨⟨_,rfl,fC.v (jw.one (bL.d dP.l9))⟩,tR,trivial⟩,trivial⟩) ?_
     refine aR ?_
     obtain rfl:=oi h
     exact rl [(sD (Ef u4)),(sI 0)]
    |ret v=>
     obtain rfl:=oi h
     unfold fZ
     intro e st hn ha hR
     cases e with
     |normal=>exact absurd rfl hn
     |exit id=>exact hR
     |goto l=>exact hR
     |ret=>exact hR
     |panic c=>exact hR
     |outgrown=>exact hR
def tH  :(Int × Bool)→Exit→St→Prop:=
  fun r=>bn TT [.tmp 4, .tmp 5] (.gL [(sI r.1),(sB r.2)]) []
def zm (x:Link) (u0:Int):(Int × Bool × Int)→St:=
  fun zz=>match zz with|(u1,ok,i)=> ⟨[(1,(vI u0)),(KR x),(6,(vI u1)),(7,(vB ok)),(8,(vI i))],[]⟩
def zJ  :(Int × Bool)→St:=
  fun zz=>match zz with|(u0,u1)=> ⟨[(6,(vI u0)),(7,(vB u1))],[]⟩
def F6 (x:Link) (u0:Int):(aS (Int × Bool × Int) (Ex (Int × Bool) (Int × Bool)))→Exit→St→Prop:=
  LQ 0 [] (zm x u0) zJ tH
theorem yB (x:Link) (u0:Int) {r:(Int × Bool)} (h:lI x u0=some r):Fn Try.prog 28 (afv x u0) [] (.gL [(sI r.1),(sB r.2)]) []:=by
 refine fN tT Try.func28 rfl rfl fun B=> ?_
 show bJ _ _ _ _ _ _ (tH r) _
 unfold lI at h
 refine sz tT (afM x u0) {fr:=[(0,1)] } [1] ?_
 refine sz tT ⟨[(1,(vI u0)),(KR x),(6,(vI 0)),(7,(vB false))],[]⟩ {} [] ?_
 refine aQ (sz tT ⟨[(1,(vI u0)),(KR x),(6,(vI 0)),(7,(vB false)),(8,(vI 0))],[]⟩ {} [] ?_)
 refine bE h fun y hy h=> ?_
 refine aL [] (zm x u0) zJ tH hy (fun s f h=> ?_) ?_
 ·clear hy
  show bJ _ _ _ _ _ _ ((F6 x u0) f) _
  unfold iY at h
  obtain⟨u1,ok,i⟩:=s
  refine aQ (sz tT ⟨[(1,(vI u0)),(KR x),(6,(vI u1)),(7,(vB ok)),(8,(vI i)),(13,(vB (decide (i<(x.trip.length:Int)))))],[]⟩ {} [] ?_)
  refine bI h (fun hb1 h=> ?_) (fun hb1 h=> ?_)
  ·refine ct hb1 ?_
   refine aP (aQ (aB (aQ (aO h fun a1 h=> ?_))))
   refine rg tT ⟨[(1,(vI u0)),(KR x),(6,(vI u1)),(7,(vB ok)),(8,(vI i)),(23,(vB (decide (((at' x.trip i.toNat).amps)≤u0))))],[]⟩ [_] {} [] ⟨a1,trivial⟩ ?_
   refine bI h (fun hb h=> ?_) (fun hb h=> ?_)
   ·refine ct hb ?_
    refine aQ (aO h fun a1 h=> ?_)
    refine rg tT ⟨[(1,(vI u0)),(KR x),(6,(vI (Yf x i))),(8,(vI i))],[]⟩ [_] {} [] ⟨a1,trivial⟩ ?_
    refine rz tT ⟨[(1,(vI u0)),(KR x),(6,(vI (Yf x i))),(7,(vB true)),(8,(vI i))],[]⟩ {} [] ?_
    refine rz tT ⟨[(1,(vI u0)),(KR x),(6,(vI (Yf x i))),(7,(vB true)),(Vd i)],[]⟩ {} [] ?_
    obtain rfl:=oi h
    exact lN
   ·refine cf hb ?_
    refine aP (rz tT ⟨[(1,(vI u0)),(KR x),(6,(vI u1)),(7,(vB ok)),(Vd i)],[]⟩ {} [] ?_)
    obtain rfl:=oi h
    exact lN
  ·refine cf hb1 ?_
   refine aI (fz ⟨[(6,(vI u1)),(7,(vB ok))],[]⟩ []) ?_
   refine aX ?_
   obtain rfl:=oi h
   exact lB
 ·clear hy
  cases y with
  |brk z=>
   obtain⟨u2,u3⟩:=z
   unfold fZ
   refine⟨_, .refl, ?_⟩
   refine sz tT ⟨[(4,(vI u2)),(5,(vB u3))],[]⟩ {} [] ?_
   refine aR ?_
   obtain rfl:=oi h
   exact rl [(sI u2),(sB u3)]
  |ret v=>
   obtain rfl:=oi h
   unfold fZ
   intro e st hn ha hR
   cases e with
   |normal=>exact absurd rfl hn
   |exit id=>exact hR
   |goto l=>exact hR
   |ret=>exact hR
   |panic c=>exact hR
   |outgrown=>exact hR
def LF  :Int→Exit→St→Prop:=
  fun r=>bn TT [.tmp 10] (vI r) []
section
variable (p:ai) (i:Int) (s_:State)
abbrev agS:Nat × TV:=(5,(k7 p))
abbrev XO:=(!decide (((at' p.links i.toNat).kind)=3))
abbrev XG:=(bif (XO p i)then true else(CS s_ i))
abbrev aiz:=(iD [(7,(XO p i)),(15,(XG p i s_))])
end
theorem pQ (p:ai) (s_:State) (i:Int) (u1:Int) (u0:Int) {r:Int} (h:jC p s_ i u1 u0=some r):Fn Try.prog 119 [(.agg (k1 p)),(.agg (Li s_)),(sI i),(sI u1),(sI u0)] [] (vI r) []:=by
 refine fN tT Try.func119 rfl rfl fun B=> ?_
 show bJ _ _ _ _ _ _ (LF r) _
 unfold jC at h
 refine sz tT ⟨[(2,(vI i)),(3,(vI u1)),(4,(vI u0)),(agS p),(6,(k77 s_))],[]⟩ {fr:=[(0,2),(1,3)] } [2,3] ?_
 refine aQ (aQ (aO h fun⟨a1,a2,a3⟩ h=> ?_))
 refine rg tT ⟨[(2,(vI i)),(3,(vI u1)),(4,(vI u0)),(agS p),(34,(vB (bif (XG p i s_)then true else(at' s_.badLink i.toNat))))],[]⟩ (_::(eqs (XO p i) 4 ((gP (aiz p i s_) [(7,false)]→All [(0:Int)≤i∧i<(s_.closed.length:Int)])::(eqs (XO p i) 3 (eqs (XG p i s_) 4 ((gP (aiz p i s_) [(15,false)]→All [(0:Int)≤i∧i<(s_.badLink.length:Int)])::(eqs (XG p i s_) 2 []))))))) {yb:=[(7,(XO p i)),(15,(XG p i s_))] } [] ⟨a1,(ae ⟨(fun hg=> ⟨(a2 (aZ hg)),trivial⟩),(ae (ae ⟨(fun hg=> ⟨(a3 (aZ hg)),trivial⟩),(ae trivial)⟩))⟩)⟩ ?_
 refine bI h (fun hb1 h=> ?_) (fun hb1 h=> ?_)
 ·refine ct hb1 ?_
  refine sz tT ⟨[(10,(vI (-1)))],[]⟩ {} [] ?_
  refine aR ?_
  obtain rfl:=oi h
  exact rl [(sI (-1))]
 ·refine cf hb1 ?_
  refine aP (aQ (bE h fun r_ hr_ h=> ?_))
  refine aO h fun a1 h=> ?_
  have q1:=yB (at' p.links i.toNat) u1 hr_
  refine rg tT ⟨[(4,(vI u0)),(11,(vI r_.1)),(12,(vB r_.2))],[]⟩ [_,_] {an:=[(6,cA q1 [])] } [] ⟨a1,q1,trivial⟩ ?_
  refine aQ (sz tT ⟨[(4,(vI u0)),(11,(vI r_.1)),(46,(vB (!r_.2)))],[]⟩ {} [] ?_)
  refine bI h (fun hb h=> ?_) (fun hb h=> ?_)
  ·refine ct hb ?_
   refine sz tT ⟨[(10,(vI (-1)))],[]⟩ {} [] ?_
   refine aR ?_
   obtain rfl:=oi h
   exact rl [(sI (-1))]
  ·refine cf hb ?_
   refine aP (sz tT ⟨[(10,(vI (IntKind.wrap .i64 (u0+r_.1))))],[]⟩ {} [] ?_)
   refine aR ?_
   obtain rfl:=oi h
   exact rl [(sI (IntKind.wrap .i64 (u0+r_.1)))]
def Bt  :State→Exit→St→Prop:=
  fun r=>bn TT [.cell 2 29] (.v (.agg [(.own 0 false r.closed.length),(.own 1 false r.locked.length),(.own 2 false r.badLink.length),(.own 3 false r.on_.length),(.own 4 false r.badSource.length),(.own 5 false r.earthed.length),(.own 6 false r.badBus.length)])) [(0,some (aG 4 1 ah r.closed)),(1,some (aG 4 1 ah r.locked)),(2,some (aG 4 1 ah r.badLink)),(3,some (aG 4 1 ah r.on_)),(4,some (aG 4 1 ah r.badSource)),(5,some (aG 4 1 ah r.earthed)),(6,some (aG 4 1 ah r.badBus)),(7,none)]
theorem AO (x:State) {r:State} (h:lm x=some r):Fn Try.prog 16 (ad8 x) [] (.v (.agg [(.own 0 false r.closed.length),(.own 1 false r.locked.length),(.own 2 false r.badLink.length),(.own 3 false r.on_.length),(.own 4 false r.badSource.length),(.own 5 false r.earthed.length),(.own 6 false r.badBus.length)])) [(0,some (aG 4 1 ah r.closed)),(1,some (aG 4 1 ah r.locked)),(2,some (aG 4 1 ah r.badLink)),(3,some (aG 4 1 ah r.on_)),(4,some (aG 4 1 ah r.badSource)),(5,some (aG 4 1 ah r.earthed)),(6,some (aG 4 1 ah r.badBus)),(7,none)]:=by
 refine fN tT Try.func16 rfl rfl fun B=> ?_
 show bJ _ _ _ _ _ _ (Bt r) _
 unfold lm at h
 refine sz tT (aju x) {fr:=[(0,9),(1,10)] } [9] ?_
 refine aQ (bE h fun r_ hr_ h=> ?_)
 refine bE h fun u0 hr_1 h=> ?_
 refine bE h fun u1 hr_2 h=> ?_
 refine bE h fun u2 hr_3 h=> ?_
 refine bE h fun u3 hr_4 h=> ?_
 refine bE h fun u4 hr_5 h=> ?_
 refine bE h fun u5 hr_6 h=> ?_
 have q0:=rk [(0,11)] (dA x.closed hr_)
 have q1:=rk [(0,12)] (dA x.locked hr_1)
 have q2:=rk [(0,13)] (dA x.badLink hr_2)
 have q3:=rk [(0,14)] (dA x.on_ hr_3)
 have q4:=rk [(0,15)] (dA x.badSource hr_4)
 have q5:=rk [(0,16)] (dA x.earthed hr_5)
 have q6:=rk [(0,17)] (dA x.badBus hr_6)
 refine dg tT mX (ai1 r_ u1 u2 u3 u4 u0 u5) [_,_,_,_,_,_,_] {an:=[(2,cA q0 []),(5,cA q1 []),(8,cA q2 []),(11,cA q3 []),(14,cA q4 []),(17,cA q5 []),(20,cA q6 [])] } [] ⟨q0,q1,q2,q3,q4,q5,q6,trivial⟩ ?_
 refine aI (bG.fin (st':=(aej r_ u1 u2 u3 u4 u0 u5)) (cs:=[]) ⟨[],[(11,0),(12,1),(13,2),(14,3),(15,4),(16,5),(17,6),(10,7)]⟩ [2] (by kernel_rfl) trivial) ?_
 refine aR ?_
 obtain rfl:=oi h
 exact rh (ac4 r_ u1 u2 u3 u4 u0 u5) (.refl _) (hN 7 ⟨rfl,trivial,trivial⟩)
def qL (s_:State):(Int × (List Int))→Exit→St→Prop:=
  fun r=>bn TT [.tmp 10, .tmp 11] (.gL [(sI r.1),(sD (aC none 1 (aA .i64) r.2))]) (iP s_)
section
variable (u4:(List Int)) (u2:(List Bool)) (u0:Int) (p:ai) (s_:State) (u1:Int) (u3:Int) (i:Int)
abbrev Bd:Nat × TV:=(13,(PZ u4))
abbrev LP:=((BQ u2).set u0.toNat true)
abbrev Z9:DV:=(aC none 1 ah (LP u2 u0))
abbrev wJ:Nat × TV:=(14,(vD (Z9 u2 u0)))
abbrev afQ:Nat × Option Ob:=(83,some (k97 p))
abbrev af0:Nat × Option Ob:=(84,some (aaE s_))
abbrev qK:List (Nat × Option Ob):=[(mZ s_),(nG s_),(nk s_),(ni s_),(nu s_),(nI s_),(ny s_),(afQ p),(af0 s_)]
abbrev FO:St:=⟨[(2,(vI u0)),(3,(vI u1)),(5,(vP 83 0)),(6,(vP 84 0)),(12,(vI u3)),(Bd u4),(wJ u2 u0),(15,(vI i))],(qK p s_)⟩
end
def wR (p:ai) (s_:State) (u0:Int) (u1:Int) (u2:(List Bool)):(Int × (List Int) × Int)→St:=
  fun zz=>match zz with|(u3,u4,i)=>(FO u4 u2 u0 p s_ u1 u3 i)
section
variable (u0:Int) (u1:(List Int)) (s_:State)
abbrev agk:St:=⟨[(12,(vI u0)),(Bd u1)],(iP s_)⟩
end
def wS (s_:State):(Int × (List Int))→St:=
  fun zz=>match zz with|(u0,u1)=>(agk u0 u1 s_)
def FD (p:ai) (s_:State) (u0:Int) (u1:Int) (u2:(List Bool)):(aS (Int × (List Int) × Int) (Ex (Int × (List Int)) (Int × (List Int))))→Exit→St→Prop:=
  LQ 0 [] (wR p s_ u0 u1 u2) (wS s_) (qL s_)
section
variable (p:ai) (s_:State) (u0:Int) (u2:Int) (u1:(List Bool)) (i:Int) (u3:Int) (u4:(List Int)) (r_:Bool) (u5:(Int × (List Int))) (v1:Bool) (w0:(List Int))
abbrev ad2:List SV:=[(.agg (k1 p)),(.agg (OM s_)),(sI u0),(sI u2),(sD (aC none 1 ah u1))]
abbrev ad3:=(au ah (LP u1 u0))
abbrev FR:Nat × TV:=(16,(acQ p i))
abbrev af2:St:=⟨[(2,(vI u0)),(3,(vI u2)),(5,(vP 83 0)),(6,(vP 84 0)),(12,(vI u3)),(Bd u4),(wJ u1 u0),(15,(vI i)),(FR p i),(17,(vI (IY p i)))],(qK p s_)⟩
abbrev U4:=(decide ((IY p i)<0))
abbrev U0:=(bif (U4 p i)then true else(at' (LP u1 u0) ((IY p i).toNat)))
abbrev aiI:St:=⟨[(2,(vI u0)),(3,(vI u2)),(5,(vP 83 0)),(6,(vP 84 0)),(12,(vI u3)),(Bd u4),(wJ u1 u0),(15,(vI i)),(FR p i),(17,(vI (IY p i))),(67,(vB (bif (U0 p u0 u1 i)then true else(!r_))))],(qK p s_)⟩
abbrev aho:=(iD [(2,(U4 p i)),(8,(U0 p u0 u1 i))])
abbrev aji:=(eqs (U4 p i) 3 ((gP (aho p u0 u1 i) [(2,false)]→All [(0:Int)≤(at' p.links i.toNat).a∧(at' p.links i.toNat).a<((LP u1 u0).length:Int)])::(eqs (U4 p i) 2 (eqs (U0 p u0 u1 i) 4 ((gP (aho p u0 u1 i) [(8,false)]→All [Fn Try.prog 84 (N9 p s_ i) (iP s_) (vB r_) (iP s_)])::(eqs (U0 p u0 u1 i) 2 []))))))
abbrev ZY:St:=⟨[(2,(vI u0)),(3,(vI u2)),(5,(vP 83 0)),(6,(vP 84 0)),(12,(vI u3)),(Bd u4),(wJ u1 u0),(15,(vI i)),(FR p i),(18,(vI u5.1)),(19,(vD (aC none 1 (aA .i64) u5.2)))],(qK p s_)⟩
abbrev agm:List SV:=[(.agg (k1 p)),(.agg (OM s_)),(sI (IY p i)),(sI u2),(sD (Z9 u1 u0))]
abbrev Lh:TV:=(.gL [(sI u5.1),(sD (aC none 1 (aA .i64) u5.2))])
abbrev ZP:St:=⟨[(2,(vI u0)),(3,(vI u2)),(5,(vP 83 0)),(6,(vP 84 0)),(12,(vI u3)),(Bd u4),(wJ u1 u0),(15,(vI i)),(FR p i),(18,(vI u5.1)),(19,(vD (aC none 1 (aA .i64) u5.2))),(78,(vB (decide (u5.1<0))))],(qK p s_)⟩
abbrev ZG:St:=⟨[(2,(vI u0)),(3,(vI u2)),(5,(vP 83 0)),(6,(vP 84 0)),(12,(vI u3)),(Bd u4),(wJ u1 u0),(15,(vI i)),(FR p i),(18,(vI u5.1)),(19,(vD (aC none 1 (aA .i64) ([i]++u5.2))))],(qK p s_)⟩
abbrev YR:=(wE (au (aA .i64) [i]) [i].length (au (aA .i64) u5.2))
abbrev PW:=(au (aA .i64) ([i]++u5.2))
abbrev Zq:St:=⟨[(2,(vI u0)),(3,(vI u2)),(5,(vP 83 0)),(6,(vP 84 0)),(12,(vI u3)),(Bd u4),(wJ u1 u0),(15,(vI i)),(FR p i),(18,(vI u5.1)),(19,(vD (aC none 1 (aA .i64) ([i]++u5.2)))),(94,(vB (bif (decide (u3<0))then true else v1)))],(qK p s_)⟩
abbrev Tn:=(IntKind.wrap .i64 (((at' p.links i.toNat).bK)+u5.1))
abbrev YS:=(eqs (decide (u3<0)) 8 [gP (iD [(2,(decide (u3<0)))]) [(2,false)]→All [Fn Try.prog 131 [(sI (Tn p i u5)),(sD (aC none 1 (aA .i64) ([i]++u5.2))),(sI u3),(sD (Ef u4))] [] (vB v1) []],(decide (u3<0))=(decide (u3<0))])
abbrev Zg:St:=⟨[(2,(vI u0)),(3,(vI u2)),(5,(vP 83 0)),(6,(vP 84 0)),(12,(vI (Tn p i u5))),(wJ u1 u0),(15,(vI i)),(19,(vD (aC none 1 (aA .i64) ([i]++u5.2))))],(qK p s_)⟩
abbrev aao:St:=⟨[(2,(vI u0)),(3,(vI u2)),(5,(vP 83 0)),(6,(vP 84 0)),(12,(vI (Tn p i u5))),(13,(vD (aC none 1 (aA .i64) ([i]++u5.2)))),(wJ u1 u0),(15,(vI i))],(qK p s_)⟩
abbrev YJ:=(decide ((EL p i)<0))
abbrev Ye:=(bif (YJ p i)then true else(at' (LP u1 u0) ((EL p i).toNat)))
abbrev ahZ:=(iD [(2,(YJ p i)),(8,(Ye p u0 u1 i))])
abbrev vv:Nat × TV:=(11,(PZ w0))
end
theorem zX (v8:ai→State→Int→Int→(List Bool)→Option (Int × (List Int))) (rec_ok: ∀(p:ai) (s_:State) (u0:Int) (u2:Int) (u1:(List Bool)) (r:(Int × (List Int))),v8 p s_ u0 u2 u1=some r→Fn Try.prog 92 (ad2 p s_ u0 u2 u1) (iP s_) (.gL [(sI r.1),(sD (aC none 1 (aA .i64) r.2))]) (iP s_)) (p:ai) (s_:State) (u0:Int) (u2:Int) (u1:(List Bool)) {r:(Int × (List Int))} (h:ku v8 p s_ u0 u2 u1=some r):Fn Try.prog 92 (ad2 p s_ u0 u2 u1) (iP s_) (.gL [(sI r.1),(sD (aC none 1 (aA .i64) r.2))]) (iP s_):=by
 refine fN tT Try.func92 rfl rfl fun B=> ?_
 show bJ _ _ _ _ _ _ ((qL s_) r) _
 unfold ku at h
 refine sz tT ⟨[(2,(vI u0)),(3,(vI u2)),(YF u1),(5,(vP 83 0)),(6,(vP 84 0))],(qK p s_)⟩ {fr:=[(0,83),(1,84)] } [] ?_
 refine aQ (sz tT ⟨[(2,(vI u0)),(3,(vI u2)),(YF u1),(5,(vP 83 0)),(6,(vP 84 0)),(22,(vB (decide (u0=u2))))],(qK p s_)⟩ {} [] ?_)
 refine bI h (fun hb16 h=> ?_) (fun hb16 h=> ?_)
 ·refine ct hb16 ?_
  refine sz tT ⟨[(10,(vI 0)),(11,(vD nS))],(iP s_)⟩ {} [] ?_
  refine aI (bG.le (st':=⟨[(10,(vI 0)),(11,(vD SL))],(iP s_)⟩) ⟨⟨tR,⟨_,rfl,fC.v (jw.one (bL.d dP.nil'))⟩,trivial⟩,(.refl _)⟩) ?_
  refine aR ?_
  obtain rfl:=oi h
  exact rl [(sI 0),(sD SL)]
 ·refine cf hb16 ?_
  refine aP (sz tT ⟨[(2,(vI u0)),(3,(vI u2)),(YF u1),(5,(vP 83 0)),(6,(vP 84 0)),(12,(vI (-1)))],(qK p s_)⟩ {} [] ?_)
  refine sz tT ⟨[(2,(vI u0)),(3,(vI u2)),(YF u1),(5,(vP 83 0)),(6,(vP 84 0)),(12,(vI (-1))),(13,(vD nS))],(qK p s_)⟩ {} [] ?_
  refine aQ (aO h fun⟨a1,a2⟩ h=> ?_)
  refine rg tT ⟨[(2,(vI u0)),(3,(vI u2)),(5,(vP 83 0)),(6,(vP 84 0)),(12,(vI (-1))),(13,(vD nS)),(14,(vO 86 false ((BQ u1).length)))],[(mZ s_),(nG s_),(nk s_),(ni s_),(nu s_),(nI s_),(ny s_),(afQ p),(af0 s_),(86,some (aG 4 1 ah (BQ u1)))]⟩ [([]:List Bool).length=0,aY 0 1 (wF 1 []) (au ah ([]:List Bool)),([]:List Bool).length=([]:List Bool).length,_,_,(BQ u1).length=([]:List Bool).length+u1.length,aY (([]:List Bool).length+u1.length) 1 (wE (au ah ([]:List Bool)) ([]:List Bool).length (au ah u1)) (WW u1)] {an:=[(0, .arr ([]:List Bool).length (au ah ([]:List Bool))),(2, .arr (BQ u1).length (WW u1))],fr:=[(0,85),(2,86)] } [] ⟨(rfl),((fun i hi=>absurd hi (Nat.not_lt_zero i))),rfl,a1,a2,(List.length_append),(dz _ _ _ _),trivial⟩ ?_
  refine aQ (aO h fun a1 h=> ?_)
  refine ri tT ⟨[(2,(vI u0)),(3,(vI u2)),(5,(vP 83 0)),(6,(vP 84 0)),(12,(vI (-1))),(13,(vD nS)),(14,(vD (.sl none 1 (BQ u1).length (ad3 u0 u1))))],(qK p s_)⟩ [_,_,aY (BQ u1).length 1 (nP (WW u1) u0.toNat 0 [(.bool true)]) (ad3 u0 u1),(BQ u1).length=(BQ u1).length] {an:=[(3, .arr 0 (ad3 u0 u1))] } [86] ⟨a1,(tL a1),(fU _ _ _ _ _ _ _ _ rfl (fun j hj=>(match j,hj with|0,_=>rfl))),rfl,trivial⟩ (bG.le (st':=⟨[(2,(vI u0)),(3,(vI u2)),(5,(vP 83 0)),(6,(vP 84 0)),(12,(vI (-1))),(13,(vD nS)),(wJ u1 u0)],(qK p s_)⟩) ⟨⟨tR,tR,tR,tR,tR,tR,⟨_,rfl,fC.v (jw.one (bL.d (dP.slN (by simp only [List.length_set]) (.inr rfl) (fun _ _ _ _=> .refl _))))⟩,trivial⟩,(.refl _)⟩) ?_
  refine aQ (sz tT ⟨[(2,(vI u0)),(3,(vI u2)),(5,(vP 83 0)),(6,(vP 84 0)),(12,(vI (-1))),(13,(vD nS)),(wJ u1 u0),(15,(vI 0))],(qK p s_)⟩ {} [] ?_)
  refine bE h fun y1 hy h=> ?_
  refine aI (bG.le (st':=⟨[(2,(vI u0)),(3,(vI u2)),(5,(vP 83 0)),(6,(vP 84 0)),(12,(vI (-1))),(13,(vD SL)),(wJ u1 u0),(15,(vI 0))],(qK p s_)⟩) ⟨⟨tR,tR,tR,tR,tR,⟨_,rfl,fC.v (jw.one (bL.d dP.nil'))⟩,tR,tR,trivial⟩,(.refl _)⟩) ?_
  refine aL [] (wR p s_ u0 u2 u1) (wS s_) (qL s_) hy (fun s f h=> ?_) ?_
  ·clear hy
   show bJ _ _ _ _ _ _ ((FD p s_ u0 u2 u1) f) _
   unfold kz at h
   obtain⟨u3,u4,i⟩:=s
   refine aQ (sz tT ⟨[(2,(vI u0)),(3,(vI u2)),(5,(vP 83 0)),(6,(vP 84 0)),(12,(vI u3)),(Bd u4),(wJ u1 u0),(15,(vI i)),(33,(Ph p i))],(qK p s_)⟩ {} [] ?_)
   refine bI h (fun hb15 h=> ?_) (fun hb15 h=> ?_)
   ·refine ct hb15 ?_
    refine aP (bE h fun y hy h=> ?_)
    refine GV (o:=y) (fun zz=>match zz with|(u9,v0)=>(FO v0 u1 u0 p s_ u2 u9 i)) ?_ ?_
    ·replace h:=hy
     clear hy
     refine aB (aQ (aO h fun a1 h=> ?_))
     refine rg tT ⟨[(2,(vI u0)),(3,(vI u2)),(5,(vP 83 0)),(6,(vP 84 0)),(12,(vI u3)),(Bd u4),(wJ u1 u0),(15,(vI i)),(FR p i)],(qK p s_)⟩ [_] {fr:=[(5,150)] } [150] ⟨a1,trivial⟩ ?_
     refine sz tT ⟨[(2,(vI u0)),(3,(vI u2)),(5,(vP 83 0)),(6,(vP 84 0)),(12,(vI u3)),(Bd u4),(wJ u1 u0),(15,(vI i)),(FR p i),(17,(vI (-1)))],(qK p s_)⟩ {} [] ?_
     refine aQ (sz tT ⟨[(2,(vI u0)),(3,(vI u2)),(5,(vP 83 0)),(6,(vP 84 0)),(12,(vI u3)),(Bd u4),(wJ u1 u0),(15,(vI i)),(FR p i),(17,(vI (-1))),(44,(vB (UO p i u0)))],(qK p s_)⟩ {} [] ?_)
     refine bI h (fun hb14 h=> ?_) (fun hb14 h=> ?_)
     ·refine ct hb14 ?_
      refine rz tT ⟨[(2,(vI u0)),(3,(vI u2)),(5,(vP 83 0)),(6,(vP 84 0)),(12,(vI u3)),(Bd u4),(wJ u1 u0),(15,(vI i)),(FR p i),(17,(vI (EL p i)))],(qK p s_)⟩ {} [] ?_
      refine aQ (sz tT ⟨[(2,(vI u0)),(3,(vI u2)),(5,(vP 83 0)),(6,(vP 84 0)),(12,(vI u3)),(Bd u4),(wJ u1 u0),(15,(vI i)),(FR p i),(17,(vI (EL p i))),(50,(vB (decide ((EL p i)=u0))))],(qK p s_)⟩ {} [] ?_)
      refine bI h (fun hb6 h=> ?_) (fun hb6 h=> ?_)
      ·refine ct hb6 ?_
       refine rz tT (af2 p s_ u0 u2 u1 i u3 u4) {} [] ?_
       refine aQ (aQ (bE h fun r_ hr_ h=> ?_))
       refine aO h fun a1 h=> ?_
       refine rg tT (aiI p s_ u0 u2 u1 i u3 u4 r_) (aji p s_ u0 u1 i r_) {yb:=[(2,(U4 p i)),(8,(U0 p u0 u1 i))],an:=[(12, .callR [0,1,2,3,4,5,6] (vB r_))] } [] (ae ⟨(fun hg=> ⟨(a1 (aZ hg)),trivial⟩),(ae (ae ⟨(fun hg=> ⟨(Fn.Df (frz:=[0,1,2,3,4,5,6]) (p:=[s_.closed.length=s_.closed.length,s_.locked.length=s_.locked.length,s_.badLink.length=s_.badLink.length,s_.on_.length=s_.on_.length,s_.badSource.length=s_.badSource.length,s_.earthed.length=s_.earthed.length,s_.badBus.length=s_.badBus.length]) (jV p s_ i (gD hr_ (aZ hg))) (by kernel_rfl) ⟨rfl,rfl,rfl,rfl,rfl,rfl,rfl,trivial⟩ rfl),trivial⟩),(ae trivial)⟩))⟩) ?_
       refine bI h (fun hb2 h=> ?_) (fun hb2 h=> ?_)
       ·refine ct hb2 ?_
        refine aI (fz (FO u4 u1 u0 p s_ u2 u3 i) []) ?_
        refine aX ?_
        obtain rfl:=oi h
        exact⟨rfl,by kernel_rfl⟩
       ·refine cf hb2 ?_
        refine aP (aQ (bE h fun u5 hr_1 h=> ?_))
        refine rg tT (ZY p s_ u0 u2 u1 i u3 u4 u5) [Fn Try.prog 92 (agm p s_ u0 u2 u1 i) (iP s_) (Lh u5) (iP s_)] {an:=[(5, .callR [0,1,2,3,4,5,6] (Lh u5))] } [] ⟨(rec_ok p s_ (IY p i) u2 (LP u1 u0) _ hr_1),trivial⟩ ?_
        refine aQ (sz tT (ZP p s_ u0 u2 u1 i u3 u4 u5) {} [] ?_)
        refine bI h (fun hb1 h=> ?_) (fun hb1 h=> ?_)
        ·refine ct hb1 ?_
         refine aI (fz (FO u4 u1 u0 p s_ u2 u3 i) []) ?_
         refine aX ?_
         obtain rfl:=oi h
         exact⟨rfl,by kernel_rfl⟩
        ·refine cf hb1 ?_
         refine aP (aQ (aO h fun⟨a1,a2⟩ h=> ?_))
         refine rg tT (ZG p s_ u0 u2 u1 i u3 u4 u5) [[i].length=1,aY 1 1 (wF 1 [(.int .i64 i)]) (au (aA .i64) [i]),[i].length=[i].length,_,_,([i]++u5.2).length=[i].length+u5.2.length,aY ([i].length+u5.2.length) 1 (YR i u5) (PW i u5),([i]++u5.2).length=([i]++u5.2).length] {an:=[(1, .arr [i].length (au (aA .i64) [i])),(3, .arr ([i]++u5.2).length (PW i u5))],fr:=[(1,151),(3,152)] } [152] ⟨(rfl),((by intro i hi j hj;match i,j,hi,hj with|0,0,_,_=>rfl)),rfl,a1,a2,(List.length_append),(dz _ _ _ _),rfl,trivial⟩ ?_
         refine aQ (bE h fun v1 hr_2 h=> ?_)
         refine rg tT (Zq p s_ u0 u2 u1 i u3 u4 u5 v1) (YS p i u3 u4 u5 v1) {yb:=[(2,(decide (u3<0)))],an:=[(10, .call [] (vB v1) [])] } [] (ae ⟨(fun hg=> ⟨(kW (Tn p i u5) ([i]++u5.2) u3 u4 (gD hr_2 (aZ hg))),trivial⟩),rfl,trivial⟩) ?_
         refine bI h (fun hb h=> ?_) (fun hb h=> ?_)
         ·refine ct hb ?_
          refine sz tT (Zg p s_ u0 u2 u1 i u5) {} [] ?_
          refine rz tT (aao p s_ u0 u2 u1 i u5) {} [] ?_
          obtain rfl:=oi h
          exact⟨rfl,by kernel_rfl⟩
         ·refine cf hb ?_
          refine aI (fz (FO u4 u1 u0 p s_ u2 u3 i) []) ?_
          refine aP ?_
          obtain rfl:=oi h
          exact⟨rfl,by kernel_rfl⟩
      ·refine cf hb6 ?_
       refine aP (aQ (aQ (bE h fun v2 hr_3 h=> ?_)))
       refine aO h fun a1 h=> ?_
       refine rg tT ⟨[(2,(vI u0)),(3,(vI u2)),(5,(vP 83 0)),(6,(vP 84 0)),(12,(vI u3)),(Bd u4),(wJ u1 u0),(15,(vI i)),(FR p i),(17,(vI (EL p i))),(67,(vB (bif (Ye p u0 u1 i)then true else(!v2))))],(qK p s_)⟩ (eqs (YJ p i) 3 ((gP (ahZ p u0 u1 i) [(2,false)]→All [(0:Int)≤(at' p.links i.toNat).b∧(at' p.links i.toNat).b<((LP u1 u0).length:Int)])::(eqs (YJ p i) 2 (eqs (Ye p u0 u1 i) 4 ((gP (ahZ p u0 u1 i) [(8,false)]→All [Fn Try.prog 84 (N9 p s_ i) (iP s_) (vB v2) (iP s_)])::(eqs (Ye p u0 u1 i) 2 [])))))) {yb:=[(2,(YJ p i)),(8,(Ye p u0 u1 i))],an:=[(12, .callR [0,1,2,3,4,5,6] (vB v2))] } [] (ae ⟨(fun hg=> ⟨(a1 (aZ hg)),trivial⟩),(ae (ae ⟨(fun hg=> ⟨(Fn.Df (frz:=[0,1,2,3,4,5,6]) (p:=[s_.closed.length=s_.closed.length,s_.locked.length=s_.locked.length,s_.badLink.length=s_.badLink.length,s_.on_.length=s_.on_.length,s_.badSource.length=s_.badSource.length,s_.earthed.length=s_.earthed.length,s_.badBus.length=s_.badBus.length]) (jV p s_ i (gD hr_3 (aZ hg))) (by kernel_rfl) ⟨rfl,rfl,rfl,rfl,rfl,rfl,rfl,trivial⟩ rfl),trivial⟩),(ae trivial)⟩))⟩) ?_
       refine bI h (fun hb5 h=> ?_) (fun hb5 h=> ?_)
       ·refine ct hb5 ?_
        refine aI (fz (FO u4 u1 u0 p s_ u2 u3 i) []) ?_
        refine aX ?_
        obtain rfl:=oi h
        exact⟨rfl,by kernel_rfl⟩
       ·refine cf hb5 ?_
        refine aP (aQ (bE h fun u6 hr_4 h=> ?_))
        refine rg tT (ZY p s_ u0 u2 u1 i u3 u4 u6) [Fn Try.prog 92 [(.agg (k1 p)),(.agg (OM s_)),(sI (EL p i)),(sI u2),(sD (Z9 u1 u0))] (iP s_) (Lh u6) (iP s_)] {an:=[(5, .callR [0,1,2,3,4,5,6] (Lh u6))] } [] ⟨(rec_ok p s_ (EL p i) u2 (LP u1 u0) _ hr_4),trivial⟩ ?_
        refine aQ (sz tT (ZP p s_ u0 u2 u1 i u3 u4 u6) {} [] ?_)
        refine bI h (fun hb4 h=> ?_) (fun hb4 h=> ?_)
        ·refine ct hb4 ?_
         refine aI (fz (FO u4 u1 u0 p s_ u2 u3 i) []) ?_
         refine aX ?_
         obtain rfl:=oi h
         exact⟨rfl,by kernel_rfl⟩
        ·refine cf hb4 ?_
         refine aP (aQ (aO h fun⟨a1,a2⟩ h=> ?_))
         refine rg tT (ZG p s_ u0 u2 u1 i u3 u4 u6) [[i].length=1,aY 1 1 (wF 1 [(.int .i64 i)]) (au (aA .i64) [i]),[i].length=[i].length,_,_,([i]++u6.2).length=[i].length+u6.2.length,aY ([i].length+u6.2.length) 1 (YR i u6) (PW i u6),([i]++u6.2).length=([i]++u6.2).length] {an:=[(1, .arr [i].length (au (aA .i64) [i])),(3, .arr ([i]++u6.2).length (PW i u6))],fr:=[(1,153),(3,154)] } [154] ⟨(rfl),((by intro i hi j hj;match i,j,hi,hj with|0,0,_,_=>rfl)),rfl,a1,a2,(List.length_append),(dz _ _ _ _),rfl,trivial⟩ ?_
         refine aQ (bE h fun v3 hr_5 h=> ?_)
         refine rg tT (Zq p s_ u0 u2 u1 i u3 u4 u6 v3) (YS p i u3 u4 u6 v3) {yb:=[(2,(decide (u3<0)))],an:=[(10, .call [] (vB v3) [])] } [] (ae ⟨(fun hg=> ⟨(kW (Tn p i u6) ([i]++u6.2) u3 u4 (gD hr_5 (aZ hg))),trivial⟩),rfl,trivial⟩) ?_
         refine bI h (fun hb3 h=> ?_) (fun hb3 h=> ?_)
         ·refine ct hb3 ?_
          refine sz tT (Zg p s_ u0 u2 u1 i u6) {} [] ?_
          refine rz tT (aao p s_ u0 u2 u1 i u6) {} [] ?_
          obtain rfl:=oi h
          exact⟨rfl,by kernel_rfl⟩
         ·refine cf hb3 ?_
          refine aI (fz (FO u4 u1 u0 p s_ u2 u3 i) []) ?_
          refine aP ?_
          obtain rfl:=oi h
          exact⟨rfl,by kernel_rfl⟩
     ·refine cf hb14 ?_
      refine aP (aQ (sz tT ⟨[(2,(vI u0)),(3,(vI u2)),(5,(vP 83 0)),(6,(vP 84 0)),(12,(vI u3)),(Bd u4),(wJ u1 u0),(15,(vI i)),(FR p i),(17,(vI (-1))),(50,(vB (decide ((EL p i)=u0))))],(qK p s_)⟩ {} [] ?_))
      refine bI h (fun hb13 h=> ?_) (fun hb13 h=> ?_)
      ·refine ct hb13 ?_
       refine rz tT (af2 p s_ u0 u2 u1 i u3 u4) {} [] ?_
       refine aQ (aQ (bE h fun v4 hr_6 h=> ?_))
       refine aO h fun a1 h=> ?_
       refine rg tT (aiI p s_ u0 u2 u1 i u3 u4 v4) (aji p s_ u0 u1 i v4) {yb:=[(2,(U4 p i)),(8,(U0 p u0 u1 i))],an:=[(12, .callR [0,1,2,3,4,5,6] (vB v4))] } [] (ae ⟨(fun hg=> ⟨(a1 (aZ hg)),trivial⟩),(ae (ae ⟨(fun hg=> ⟨(Fn.Df (frz:=[0,1,2,3,4,5,6]) (p:=[s_.closed.length=s_.closed.length,s_.locked.length=s_.locked.length,s_.badLink.length=s_.badLink.length,s_.on_.length=s_.on_.length,s_.badSource.length=s_.badSource.length,s_.earthed.length=s_.earthed.length,s_.badBus.length=s_.badBus.length]) (jV p s_ i (gD hr_6 (aZ hg))) (by kernel_rfl) ⟨rfl,rfl,rfl,rfl,rfl,rfl,rfl,trivial⟩ rfl),trivial⟩),(ae trivial)⟩))⟩) ?_
       refine bI h (fun hb9 h=> ?_) (fun hb9 h=> ?_)
       ·refine ct hb9 ?_
        refine aI (fz (FO u4 u1 u0 p s_ u2 u3 i) []) ?_
        refine aX ?_
        obtain rfl:=oi h
        exact⟨rfl,by kernel_rfl⟩
       ·refine cf hb9 ?_
        refine aP (aQ (bE h fun u7 hr_7 h=> ?_))
        refine rg tT (ZY p s_ u0 u2 u1 i u3 u4 u7) [Fn Try.prog 92 (agm p s_ u0 u2 u1 i) (iP s_) (Lh u7) (iP s_)] {an:=[(5, .callR [0,1,2,3,4,5,6] (Lh u7))] } [] ⟨(rec_ok p s_ (IY p i) u2 (LP u1 u0) _ hr_7),trivial⟩ ?_
        refine aQ (sz tT (ZP p s_ u0 u2 u1 i u3 u4 u7) {} [] ?_)
        refine bI h (fun hb8 h=> ?_) (fun hb8 h=> ?_)
        ·refine ct hb8 ?_
         refine aI (fz (FO u4 u1 u0 p s_ u2 u3 i) []) ?_
         refine aX ?_
         obtain rfl:=oi h
         exact⟨rfl,by kernel_rfl⟩
        ·refine cf hb8 ?_
         refine aP (aQ (aO h fun⟨a1,a2⟩ h=> ?_))
         refine rg tT (ZG p s_ u0 u2 u1 i u3 u4 u7) [[i].length=1,aY 1 1 (wF 1 [(.int .i64 i)]) (au (aA .i64) [i]),[i].length=[i].length,_,_,([i]++u7.2).length=[i].length+u7.2.length,aY ([i].length+u7.2.length) 1 (YR i u7) (PW i u7),([i]++u7.2).length=([i]++u7.2).length] {an:=[(1, .arr [i].length (au (aA .i64) [i])),(3, .arr ([i]++u7.2).length (PW i u7))],fr:=[(1,155),(3,156)] } [156] ⟨(rfl),((by intro i hi j hj;match i,j,hi,hj with|0,0,_,_=>rfl)),rfl,a1,a2,(List.length_append),(dz _ _ _ _),rfl,trivial⟩ ?_
         refine aQ (bE h fun v5 hr_8 h=> ?_)
         refine rg tT (Zq p s_ u0 u2 u1 i u3 u4 u7 v5) (YS p i u3 u4 u7 v5) {yb:=[(2,(decide (u3<0)))],an:=[(10, .call [] (vB v5) [])] } [] (ae ⟨(fun hg=> ⟨(kW (Tn p i u7) ([i]++u7.2) u3 u4 (gD hr_8 (aZ hg))),trivial⟩),rfl,trivial⟩) ?_
         refine bI h (fun hb7 h=> ?_) (fun hb7 h=> ?_)
         ·refine ct hb7 ?_
          refine sz tT (Zg p s_ u0 u2 u1 i u7) {} [] ?_
          refine rz tT (aao p s_ u0 u2 u1 i u7) {} [] ?_
          obtain rfl:=oi h
          exact⟨rfl,by kernel_rfl⟩
         ·refine cf hb7 ?_
          refine aI (fz (FO u4 u1 u0 p s_ u2 u3 i) []) ?_
          refine aP ?_
          obtain rfl:=oi h
          exact⟨rfl,by kernel_rfl⟩
      ·refine cf hb13 ?_
       refine aP (aQ (aQ (bE h fun v6 hr_9 h=> ?_)))
       refine rg tT ⟨[(2,(vI u0)),(3,(vI u2)),(5,(vP 83 0)),(6,(vP 84 0)),(12,(vI u3)),(Bd u4),(wJ u1 u0),(15,(vI i)),(FR p i),(17,(vI (-1))),(67,(vB (bif (bif true then true else false)then true else(!v6))))],(qK p s_)⟩ ((true=true)::(¬ gP (iD [(2,true),(8,(bif true then true else false))]) [(2,false)])::(true=true)::(¬ gP (iD [(2,true),(8,(bif true then true else false))]) [(2,false)])::(true=true)::(¬ gP (iD [(2,true),(8,(bif true then true else false))]) [(2,false)])::(true=true)::(¬ gP (iD [(2,true),(8,(bif true then true else false))]) [(2,false)])::(true=true)::(eqs (bif true then true else false) 4 ((gP (iD [(2,true),(8,(bif true then true else false))]) [(8,false)]→All [Fn Try.prog 84 (N9 p s_ i) (iP s_) (vB v6) (iP s_)])::(eqs (bif true then true else false) 2 [])))) {yb:=[(2,true),(8,(bif true then true else false))],an:=[(3, .skip),(4, .skip),(5, .skip),(6, .skip),(12, .callR [0,1,2,3,4,5,6] (vB v6))] } [] ⟨(rfl),((fun h=>Bool.noConfusion (show true=false from h.1))),(rfl),((fun h=>Bool.noConfusion (show true=false from h.1))),(rfl),((fun h=>Bool.noConfusion (show true=false from h.1))),(rfl),((fun h=>Bool.noConfusion (show true=false from h.1))),(rfl),(ae ⟨(fun hg=> ⟨(Fn.Df (frz:=[0,1,2,3,4,5,6]) (p:=[s_.closed.length=s_.closed.length,s_.locked.length=s_.locked.length,s_.badLink.length=s_.badLink.length,s_.on_.length=s_.on_.length,s_.badSource.length=s_.badSource.length,s_.earthed.length=s_.earthed.length,s_.badBus.length=s_.badBus.length]) (jV p s_ i (gD hr_9 (aZ hg))) (by kernel_rfl) ⟨rfl,rfl,rfl,rfl,rfl,rfl,rfl,trivial⟩ rfl),trivial⟩),(ae trivial)⟩)⟩ ?_
       refine bI h (fun hb12 h=> ?_) (fun hb12 h=> ?_)
       ·refine ct hb12 ?_
        refine aI (fz (FO u4 u1 u0 p s_ u2 u3 i) []) ?_
        refine aX ?_
        obtain rfl:=oi h
        exact⟨rfl,by kernel_rfl⟩
       ·refine cf hb12 ?_
        refine aP (aQ (bE h fun u8 hr_10 h=> ?_))
        refine rg tT (ZY p s_ u0 u2 u1 i u3 u4 u8) [Fn Try.prog 92 [(.agg (k1 p)),(.agg (OM s_)),(sI (-1)),(sI u2),(sD (Z9 u1 u0))] (iP s_) (Lh u8) (iP s_)] {an:=[(5, .callR [0,1,2,3,4,5,6] (Lh u8))] } [] ⟨(rec_ok p s_ (-1) u2 (LP u1 u0) _ hr_10),trivial⟩ ?_
        refine aQ (sz tT (ZP p s_ u0 u2 u1 i u3 u4 u8) {} [] ?_)
        refine bI h (fun hb11 h=> ?_) (fun hb11 h=> ?_)
        ·refine ct hb11 ?_
         refine aI (fz (FO u4 u1 u0 p s_ u2 u3 i) []) ?_
         refine aX ?_
         obtain rfl:=oi h
         exact⟨rfl,by kernel_rfl⟩
        ·refine cf hb11 ?_
         refine aP (aQ (aO h fun⟨a1,a2⟩ h=> ?_))
         refine rg tT (ZG p s_ u0 u2 u1 i u3 u4 u8) [[i].length=1,aY 1 1 (wF 1 [(.int .i64 i)]) (au (aA .i64) [i]),[i].length=[i].length,_,_,([i]++u8.2).length=[i].length+u8.2.length,aY ([i].length+u8.2.length) 1 (YR i u8) (PW i u8),([i]++u8.2).length=([i]++u8.2).length] {an:=[(1, .arr [i].length (au (aA .i64) [i])),(3, .arr ([i]++u8.2).length (PW i u8))],fr:=[(1,157),(3,158)] } [158] ⟨(rfl),((by intro i hi j hj;match i,j,hi,hj with|0,0,_,_=>rfl)),rfl,a1,a2,(List.length_append),(dz _ _ _ _),rfl,trivial⟩ ?_
         refine aQ (bE h fun v7 hr_11 h=> ?_)
         refine rg tT (Zq p s_ u0 u2 u1 i u3 u4 u8 v7) (YS p i u3 u4 u8 v7) {yb:=[(2,(decide (u3<0)))],an:=[(10, .call [] (vB v7) [])] } [] (ae ⟨(fun hg=> ⟨(kW (Tn p i u8) ([i]++u8.2) u3 u4 (gD hr_11 (aZ hg))),trivial⟩),rfl,trivial⟩) ?_
         refine bI h (fun hb10 h=> ?_) (fun hb10 h=> ?_)
         ·refine ct hb10 ?_
          refine sz tT (Zg p s_ u0 u2 u1 i u8) {} [] ?_
          refine rz tT (aao p s_ u0 u2 u1 i u8) {} [] ?_
          obtain rfl:=oi h
          exact⟨rfl,by kernel_rfl⟩
         ·refine cf hb10 ?_
          refine aI (fz (FO u4 u1 u0 p s_ u2 u3 i) []) ?_
          refine aP ?_
          obtain rfl:=oi h
          exact⟨rfl,by kernel_rfl⟩
    ·clear hy
     obtain⟨u9,v0⟩:=y
     refine rz tT ⟨[(2,(vI u0)),(3,(vI u2)),(5,(vP 83 0)),(6,(vP 84 0)),(12,(vI u9)),(Bd v0),(wJ u1 u0),(15,(uM i))],(qK p s_)⟩ {} [] ?_
     obtain rfl:=oi h
     exact lN
   ·refine cf hb15 ?_
    refine aI (fz (agk u3 u4 s_) []) ?_
    refine aX ?_
    obtain rfl:=oi h
    exact lB
  ·clear hy
   cases y1 with
   |brk z=>
    obtain⟨v9,w0⟩:=z
    unfold fZ
    refine⟨_, .refl, ?_⟩
    refine sz tT ⟨[(10,(vI v9)),(vv w0)],(iP s_)⟩ {} [] ?_
    refine aR ?_
    obtain rfl:=oi h
    exact rl [(sI v9),(sD (Ef w0))]
   |ret v=>
    obtain rfl:=oi h
    unfold fZ
    intro e st hn ha hR
    cases e with
    |normal=>exact absurd rfl hn
    |exit id=>exact hR
    |goto l=>exact hR
    |ret=>exact hR
    |panic c=>exact hR
    |outgrown=>exact hR
theorem wQ: ∀(n:Nat) (p:ai) (s_:State) (u0:Int) (u1:Int) (u2:(List Bool)) {r:(Int × (List Int))} (_:iX n p s_ u0 u1 u2=some r),Fn Try.prog 92 (ad2 p s_ u0 u1 u2) (iP s_) (.gL [(sI r.1),(sD (aC none 1 (aA .i64) r.2))]) (iP s_)
 |0,_,_,_,_,_,_,h=>by cases h
 |n+1,p,s_,u0,u1,u2,_,h=>zX (iX n) (fun p s_ u0 u1 u2 _ h=>wQ n p s_ u0 u1 u2 h) p s_ u0 u1 u2 h
def nM (s_:State):((List Short) × Int)→Exit→St→Prop:=
  fun r=>bn TT [.tmp 6, .tmp 7] (.gL [(sD (aC none 4 Short.cell r.1)),(sI r.2)]) (iP s_)
section
variable (u0:(List Short)) (s_:State) (u1:Int) (p:ai) (k:Int)
abbrev JM:Nat × TV:=(9,(vO 54 false u0.length))
abbrev O7:Nat × Option Ob:=(51,some (aaE s_))
abbrev LH:List (Nat × Option Ob):=[(mZ s_),(nG s_),(nk s_),(ni s_),(nu s_),(nI s_),(ny s_),(O7 s_),(54,some (aG 103 4 Short.cell u0))]
abbrev Zw:St:=⟨[(2,(vI u1)),(bO p),(4,(vP 51 0)),(JM u0),(10,(vI k))],(LH u0 s_)⟩
end
def rH (p:ai) (s_:State) (u1:Int):((List Short) × Int)→St:=
  fun zz=>match zz with|(u0,k)=>(Zw u0 s_ u1 p k)
section
variable (u0:(List Short)) (s_:State)
abbrev afq:St:=⟨[(JM u0)],[(mZ s_),(nG s_),(nk s_),(ni s_),(nu s_),(nI s_),(ny s_),(54,some (aG 103 4 Short.cell u0))]⟩
end
def rW (s_:State):(List Short)→St:=
  fun u0=>(afq u0 s_)
def BR (p:ai) (s_:State) (u0:Int):(aS ((List Short) × Int) (Ex (List Short) ((List Short) × Int)))→Exit→St→Prop:=
  LQ 0 [] (rH p s_ u0) (rW s_) (nM s_)
section
variable (s_:State) (u0:(Int × (List Int))) (p:ai) (k:Int) (u1:(List Short))
abbrev Vy:List (Nat × Option Ob):=[(mZ s_),(nG s_),(nk s_),(ni s_),(nu s_),(nI s_),(ny s_),(O7 s_)]
abbrev Uq:Nat × TV:=(12,(vD (aC none 1 (aA .i64) u0.2)))
abbrev Sv:=(IntKind.wrap .i64 (u0.1+((at' p.sources k.toNat).bK)))
abbrev aam:Nat × TV:=(13,(vI (Sv u0 p k)))
abbrev Wx:=(IntKind.wrap .i64 (Int.tdiv (400000:Int) (Sv u0 p k)))
abbrev afg:Nat × TV:=(14,(vI (Wx u0 p k)))
abbrev aee:=(IntKind.wrap .i64 ((Wx u0 p k)+1))
abbrev VX:=(⟨k,(Sv u0 p k),(aee u0 p k),u0.2⟩:Short)
abbrev WM:=(u1++[(VX u0 p k)])
abbrev aid:=((WM u0 p k u1).length)
abbrev afL:Ob:=(aG 103 4 Short.cell (WM u0 p k u1))
abbrev aco:=(au Short.cell [(VX u0 p k)])
abbrev aeJ:=(au Short.cell (WM u0 p k u1))
abbrev Vg:=(⟨k,(Sv u0 p k),(Wx u0 p k),u0.2⟩:Short)
abbrev Xl:=(u1++[(Vg u0 p k)])
abbrev ajc:=((Xl u0 p k u1).length)
abbrev ajo:Ob:=(aG 103 4 Short.cell (Xl u0 p k u1))
abbrev acw:=(au Short.cell [(Vg u0 p k)])
abbrev aiU:=(au Short.cell (Xl u0 p k u1))
end
theorem BU (p:ai) (s_:State) (u2:Int) {r:((List Short) × Int)} (h:mP p s_ u2=some r):Fn Try.prog 51 (N9 p s_ u2) (iP s_) (.gL [(sD (aC none 4 Short.cell r.1)),(sI r.2)]) (iP s_):=by
 refine fN tT Try.func51 rfl rfl fun B=> ?_
 show bJ _ _ _ _ _ _ ((nM s_) r) _
 unfold mP at h
 refine sz tT ⟨[(2,(vI u2)),(bO p),(4,(vP 51 0))],(Vy s_)⟩ {fr:=[(0,50),(1,51)] } [50] ?_
 refine aQ (bE h fun r_ hr_ h=> ?_)
 refine rg tT ⟨[(2,(vI u2)),(bO p),(4,(vP 51 0)),(8,(vI r_))],(Vy s_)⟩ [Fn Try.prog 37 (ais s_ p) (iP s_) (vI r_) (iP s_)] {an:=[(2, .callR [0,1,2,3,4,5,6] (vI r_))] } [] ⟨(Fn.Df (frz:=[0,1,2,3,4,5,6]) (p:=[s_.closed.length=s_.closed.length,s_.locked.length=s_.locked.length,s_.badLink.length=s_.badLink.length,s_.on_.length=s_.on_.length,s_.badSource.length=s_.badSource.length,s_.earthed.length=s_.earthed.length,s_.badBus.length=s_.badBus.length]) (lQ p s_ hr_) (by kernel_rfl) ⟨rfl,rfl,rfl,rfl,rfl,rfl,rfl,trivial⟩ rfl),trivial⟩ ?_
 refine aQ (sz tT ⟨[(2,(vI u2)),(bO p),(4,(vP 51 0)),(8,(vI r_)),(19,(vB (!decide (r_=0))))],(Vy s_)⟩ {} [] ?_)
 refine bI h (fun hb5 h=> ?_) (fun hb5 h=> ?_)
 ·refine ct hb5 ?_
  refine sz tT (af3 s_ r_) {} [] ?_
  refine aI (bG.le (st':=(ag2 s_ r_)) ⟨⟨⟨_,rfl,fC.v (jw.one (bL.d dP.nil'))⟩,tR,trivial⟩,(.refl _)⟩) ?_
  refine aR ?_
  obtain rfl:=oi h
  exact rl [(sD (aC none 4 Short.cell ([]:List Short))),(sI r_)]
 ·refine cf hb5 ?_
  refine aP (aQ (sg tT ⟨[(2,(vI u2)),(bO p),(4,(vP 51 0)),(28,(aag p u2))],(Vy s_)⟩ (eqs (decide (u2<0)) 5 []) {yb:=[(2,(decide (u2<0)))] } [] (ae trivial) ?_))
  refine bI h (fun hb4 h=> ?_) (fun hb4 h=> ?_)
  ·refine ct hb4 ?_
   refine sz tT (afN s_) {} [] ?_
   refine aI (bG.le (st':=(ahS s_)) ⟨⟨⟨_,rfl,fC.v (jw.one (bL.d dP.nil'))⟩,tR,trivial⟩,(.refl _)⟩) ?_
   refine aR ?_
   obtain rfl:=oi h
   exact rl [(sD (aC none 4 Short.cell ([]:List Short))),(sI 1)]
  ·refine cf hb4 ?_
   refine aP (sz tT ⟨[(2,(vI u2)),(bO p),(4,(vP 51 0)),(9,(vD nS))],(Vy s_)⟩ {} [] ?_)
   refine aQ (sz tT ⟨[(2,(vI u2)),(bO p),(4,(vP 51 0)),(9,(vD nS)),(10,(vI 0))],(Vy s_)⟩ {} [] ?_)
   refine bE h fun y1 hy h=> ?_
   refine aI (.trans (bG.Ci (t:=9) (b:=92) (esz0:=0) (el0:=fun _ _=> .nilp) (E:=103) (esz:=4) (el:=au Short.cell ([]:List Short)) (by kernel_rfl) (by kernel_rfl)) (.trans (bG.fin (st':=⟨[(2,(vI u2)),(bO p),(4,(vP 51 0)),(9,(vO 54 false 0)),(10,(vI 0))],[(mZ s_),(nG s_),(nk s_),(ni s_),(nu s_),(nI s_),(ny s_),(O7 s_),(54,some (.arr 103 4 0 (au Short.cell ([]:List Short))))]⟩) (cs:=[]) ⟨[],[(0,0),(1,1),(2,2),(3,3),(4,4),(5,5),(6,6),(51,51),(92,54)]⟩ [2,3,4,9,10] (by kernel_rfl) trivial) (bG.le (st':=⟨[(2,(vI u2)),(bO p),(4,(vP 51 0)),(9,(vO 54 false (([]:List Short).length))),(10,(vI 0))],[(mZ s_),(nG s_),(nk s_),(ni s_),(nu s_),(nI s_),(ny s_),(O7 s_),(54,some (aG 103 4 Short.cell ([]:List Short)))]⟩) ⟨⟨tR,tR,tR,⟨_,rfl,fC.v (jw.one cW)⟩,tR,trivial⟩,(hN 8 ⟨rfl,oW,trivial⟩)⟩))) ?_
   refine aL [] (rH p s_ u2) (rW s_) (nM s_) hy (fun s f h=> ?_) ?_
   ·clear hy
    show bJ _ _ _ _ _ _ ((BR p s_ u2) f) _
    unfold dQ at h
    obtain⟨u1,k⟩:=s
    refine aQ (aQ (aO h fun a1 h=> ?_))
    refine rg tT ⟨[(2,(vI u2)),(bO p),(4,(vP 51 0)),(JM u1),(10,(vI k)),(41,(vB (bif (JS p k)then(!(at' s_.badBus u2.toNat))else false)))],(LH u1 s_)⟩ (eqs (JS p k) 4 ((gP (iD [(5,(JS p k))]) [(5,true)]→All [(0:Int)≤u2∧u2<(s_.badBus.length:Int)])::((JS p k)=(JS p k))::(gP (iD [(5,(JS p k))]) [(5,true)]→All [u2.toNat<s_.badBus.length])::(eqs (JS p k) 2 []))) {yb:=[(5,(JS p k))] } [] (ae ⟨(fun hg=> ⟨(a1 (aZ hg)),trivial⟩),rfl,(fun hg=> ⟨((fun hq=>tL (a1 hq)) (aZ hg)),trivial⟩),(ae trivial)⟩) ?_
    refine bI h (fun hb3 h=> ?_) (fun hb3 h=> ?_)
    ·refine ct hb3 ?_
     refine aP (bE h fun y hy h=> ?_)
     refine GV (o:=y) (fun u3=>(Zw u3 s_ u2 p k)) ?_ ?_
     ·replace h:=hy
      clear hy
      refine aB (aQ (aQ (bE h fun u5 hr_1 h=> ?_)))
      refine rg tT ⟨[(2,(vI u2)),(bO p),(4,(vP 51 0)),(JM u1),(10,(vI k)),(48,(vB (!u5)))],(LH u1 s_)⟩ [Fn Try.prog 83 (N9 p s_ k) (iP s_) (vB u5) (iP s_)] {an:=[(3, .callR [0,1,2,3,4,5,6] (vB u5))] } [] ⟨(Fn.Df (frz:=[0,1,2,3,4,5,6]) (p:=[s_.closed.length=s_.closed.length,s_.locked.length=s_.locked.length,s_.badLink.length=s_.badLink.length,s_.on_.length=s_.on_.length,s_.badSource.length=s_.badSource.length,s_.earthed.length=s_.earthed.length,s_.badBus.length=s_.badBus.length]) (F4 p s_ k hr_1) (by kernel_rfl) ⟨rfl,rfl,rfl,rfl,rfl,rfl,rfl,trivial⟩ rfl),trivial⟩ ?_
      refine bI h (fun hb2 h=> ?_) (fun hb2 h=> ?_)
      ·refine ct hb2 ?_
       refine aI (fz (Zw u1 s_ u2 p k) []) ?_
       refine aX ?_
       obtain rfl:=oi h
       exact⟨rfl,by kernel_rfl⟩
      ·refine cf hb2 ?_
       refine aP (aQ (bE h fun u0 hr_2 h=> ?_))
       refine aO h fun⟨a1,a2,a3,a4⟩ h=> ?_
       refine dg tT mX ⟨[(2,(vI u2)),(bO p),(4,(vP 51 0)),(JM u1),(10,(vI k)),(11,(vI u0.1)),(Uq u0)],(LH u1 s_)⟩ [_,_,(p.buses:Int)=p.buses,_,_,(IL p).length=p.buses.toNat,aY p.buses.toNat 1 (fun _ j=>[(.bool false)].getD j .nilp) (aat p),Fn Try.prog 92 [(.agg (k1 p)),(.agg (OM s_)),(sI (Ki p k)),(sI u2),(sD (aC (some true) 1 ah (IL p)))] (iP s_) (Lh u0) (iP s_)] {an:=[(11, .frz (IL p).length (aat p)),(12, .callR [0,1,2,3,4,5,6] (Lh u0))],fr:=[(11,87)] } [] ⟨a1,a2,rfl,a3,a4,(List.length_replicate),(jA _ _ _ _ _ (fun j hj=>(match j,hj with|0,_=>rfl))),(Fn.leH (args:=[(.agg (k1 p)),(.agg (OM s_)),(sI (Ki p k)),(sI u2),(sD (aC none 1 ah (IL p)))]) (hin:=(iP s_)) (wQ FUEL p s_ (Ki p k) u2 (IL p) hr_2) ⟨jw.refl _,jw.refl _,jw.refl _,jw.refl _,jw.one (bL.d dP.l9),trivial⟩ (.refl _)),trivial⟩ ?_
       refine aQ (sz tT ⟨[(2,(vI u2)),(bO p),(4,(vP 51 0)),(JM u1),(10,(vI k)),(11,(vI u0.1)),(Uq u0),(66,(vB (decide (u0.1<0))))],(LH u1 s_)⟩ {} [] ?_)
       refine bI h (fun hb1 h=> ?_) (fun hb1 h=> ?_)
       ·refine ct hb1 ?_
        refine aI (fz (Zw u1 s_ u2 p k) []) ?_
        refine aX ?_
        obtain rfl:=oi h
        exact⟨rfl,by kernel_rfl⟩
       ·refine cf hb1 ?_
        refine aP (aQ (aO h fun a1 h=> ?_))
        refine rg tT ⟨[(2,(vI u2)),(bO p),(4,(vP 51 0)),(JM u1),(10,(vI k)),(Uq u0),(aam u0 p k)],(LH u1 s_)⟩ [_] {} [] ⟨a1,trivial⟩ ?_
        refine aQ (aO h fun a1 h=> ?_)
        refine rg tT ⟨[(2,(vI u2)),(bO p),(4,(vP 51 0)),(JM u1),(10,(vI k)),(Uq u0),(aam u0 p k),(afg u0 p k)],(LH u1 s_)⟩ [_] {} [] ⟨a1,trivial⟩ ?_
        refine aQ (sz tT ⟨[(2,(vI u2)),(bO p),(4,(vP 51 0)),(JM u1),(10,(vI k)),(Uq u0),(aam u0 p k),(afg u0 p k),(80,(vB (decide ((IntKind.wrap .i64 ((Wx u0 p k)*(Sv u0 p k)))<400000))))],(LH u1 s_)⟩ {} [] ?_)
        refine bI h (fun hb h=> ?_) (fun hb h=> ?_)
        ·refine ct hb ?_
         refine rz tT ⟨[(2,(vI u2)),(bO p),(4,(vP 51 0)),(JM u1),(10,(vI k)),(Uq u0),(aam u0 p k),(14,(vI (aee u0 p k)))],(LH u1 s_)⟩ {} [] ?_
         refine aO h fun⟨a1,a2⟩ h=> ?_
         refine ri tT ⟨[(2,(vI u2)),(bO p),(4,(vP 51 0)),(9,(vO 89 false (aid u0 p k u1))),(10,(vI k))],[(mZ s_),(nG s_),(nk s_),(ni s_),(nu s_),(nI s_),(ny s_),(O7 s_),(89,some (afL u0 p k u1))]⟩ [[(VX u0 p k)].length=1,aY 1 4 (wF 4 [(.int .i64 k),(.int .i64 (Sv u0 p k)),(.int .i64 (aee u0 p k)),(aC none 1 (aA .i64) u0.2)]) (aco u0 p k),u1.length=u1.length,_,_,(WM u0 p k u1).length=u1.length+[(VX u0 p k)].length,aY (u1.length+[(VX u0 p k)].length) 4 (wE (au Short.cell u1) u1.length (aco u0 p k)) (aeJ u0 p k u1)] {an:=[(6, .arr [(VX u0 p k)].length (aco u0 p k)),(7, .arr (WM u0 p k u1).length (aeJ u0 p k u1))],fr:=[(6,88),(7,89)] } [] ⟨(rfl),((by intro i hi j hj;match i,j,hi,hj with|0,0,_,_=>rfl|0,1,_,_=>rfl|0,2,_,_=>rfl|0,3,_,_=>rfl)),rfl,a1,a2,(List.length_append),(dz _ _ _ _),trivial⟩ (bG.fin (st':=⟨[(2,(vI u2)),(bO p),(4,(vP 51 0)),(9,(vO 54 false (aid u0 p k u1))),(10,(vI k))],[(mZ s_),(nG s_),(nk s_),(ni s_),(nu s_),(nI s_),(ny s_),(O7 s_),(54,some (afL u0 p k u1))]⟩) (cs:=[]) ⟨[],[(0,0),(1,1),(2,2),(3,3),(4,4),(5,5),(6,6),(51,51),(89,54)]⟩ [2,3,4,9,10] (by kernel_rfl) trivial) ?_
         obtain rfl:=oi h
         exact⟨rfl,by kernel_rfl⟩
        ·refine cf hb ?_
         refine aP (aO h fun⟨a1,a2⟩ h=> ?_)
         refine ri tT ⟨[(2,(vI u2)),(bO p),(4,(vP 51 0)),(9,(vO 91 false (ajc u0 p k u1))),(10,(vI k))],[(mZ s_),(nG s_),(nk s_),(ni s_),(nu s_),(nI s_),(ny s_),(O7 s_),(91,some (ajo u0 p k u1))]⟩ [[(Vg u0 p k)].length=1,aY 1 4 (wF 4 [(.int .i64 k),(.int .i64 (Sv u0 p k)),(.int .i64 (Wx u0 p k)),(aC none 1 (aA .i64) u0.2)]) (acw u0 p k),u1.length=u1.length,_,_,(Xl u0 p k u1).length=u1.length+[(Vg u0 p k)].length,aY (u1.length+[(Vg u0 p k)].length) 4 (wE (au Short.cell u1) u1.length (acw u0 p k)) (aiU u0 p k u1)] {an:=[(6, .arr [(Vg u0 p k)].length (acw u0 p k)),(7, .arr (Xl u0 p k u1).length (aiU u0 p k u1))],fr:=[(6,90),(7,91)] } [] ⟨(rfl),((by intro i hi j hj;match i,j,hi,hj with|0,0,_,_=>rfl|0,1,_,_=>rfl|0,2,_,_=>rfl|0,3,_,_=>rfl)),rfl,a1,a2,(List.length_append),(dz _ _ _ _),trivial⟩ (bG.fin (st':=⟨[(2,(vI u2)),(bO p),(4,(vP 51 0)),(9,(vO 54 false (ajc u0 p k u1))),(10,(vI k))],[(mZ s_),(nG s_),(nk s_),(ni s_),(nu s_),(nI s_),(ny s_),(O7 s_),(54,some (ajo u0 p k u1))]⟩) (cs:=[]) ⟨[],[(0,0),(1,1),(2,2),(3,3),(4,4),(5,5),(6,6),(51,51),(91,54)]⟩ [2,3,4,9,10] (by kernel_rfl) trivial) ?_
         obtain rfl:=oi h
         exact⟨rfl,by kernel_rfl⟩
     ·clear hy
      obtain⟨u3,rfl⟩: ∃q,q=y:=⟨_,rfl⟩
      refine rz tT ⟨[(2,(vI u2)),(bO p),(4,(vP 51 0)),(JM u3),(10,(uM k))],(LH u3 s_)⟩ {} [] ?_
      obtain rfl:=oi h
      exact lN
    ·refine cf hb3 ?_
     refine aI (fz (afq u1 s_) []) ?_
     refine aX ?_
     obtain rfl:=oi h
     exact lB
   ·clear hy
    cases y1 with
    |brk z=>
     obtain⟨u4,rfl⟩: ∃q,q=z:=⟨_,rfl⟩
     unfold fZ
     refine⟨_, .refl, ?_⟩
     refine sg tT (agr s_ u4) [u4.length=u4.length] {} [54] ⟨rfl,trivial⟩ ?_
     refine aR ?_
     obtain rfl:=oi h
     exact rl [(sD (aC none 4 Short.cell u4)),(sI 0)]
    |ret v=>
     obtain rfl:=oi h
     unfold fZ
     intro e st hn ha hR
     cases e with
     |normal=>exact absurd rfl hn
     |exit id=>exact hR
     |goto l=>exact hR
     |ret=>exact hR
     |panic c=>exact hR
     |outgrown=>exact hR
def oF  :(af × Int)→Exit→St→Prop:=
  fun r=>bn TT [.cell 6 70, .tmp 7] (.gL [(.agg [(.own 0 false r.1.events.length),(cB r.1.cleared),(cI r.1.millis),(cI r.1.energy),(.own 1 false r.1.state.closed.length),(.own 2 false r.1.state.locked.length),(.own 3 false r.1.state.badLink.length),(.own 4 false r.1.state.on_.length),(.own 5 false r.1.state.badSource.length),(.own 6 false r.1.state.earthed.length),(.own 7 false r.1.state.badBus.length)]),(sI r.2)]) [(0,some (aG 152 2 Event.cell r.1.events)),(1,some (aG 4 1 ah r.1.state.closed)),(2,some (aG 4 1 ah r.1.state.locked)),(3,some (aG 4 1 ah r.1.state.badLink)),(4,some (aG 4 1 ah r.1.state.on_)),(5,some (aG 4 1 ah r.1.state.badSource)),(6,some (aG 4 1 ah r.1.state.earthed)),(7,some (aG 4 1 ah r.1.state.badBus)),(8,none)]
section
variable (u1:(List Int)) (c4:(List Bool)) (u0:State) (c0:(List Event)) (c2:Int) (c3:Int)
abbrev mQ:Nat × TV:=(10,(vO 106 true u1.length))
abbrev vF:Nat × Option Ob:=(80,some (.cells 70 Vm))
abbrev Gi:Nat × Option Ob:=(97,some (aG 4 1 ah c4))
abbrev sU:Nat × Option Ob:=(98,some (aG 4 1 ah u0.locked))
abbrev sW:Nat × Option Ob:=(99,some (aG 4 1 ah u0.badLink))
abbrev sK:Nat × Option Ob:=(100,some (aG 4 1 ah u0.on_))
abbrev tq:Nat × Option Ob:=(101,some (aG 4 1 ah u0.badSource))
abbrev tu:Nat × Option Ob:=(102,some (aG 4 1 ah u0.earthed))
abbrev tK:Nat × Option Ob:=(103,some (aG 4 1 ah u0.badBus))
abbrev ai9:Ob:=(.cells 70 [(.own 109 false c0.length),(cB false),(cI c2),(cI c3),(.own 97 false c4.length),(.own 98 false u0.locked.length),(.own 99 false u0.badLink.length),(.own 100 false u0.on_.length),(.own 101 false u0.badSource.length),(.own 102 false u0.earthed.length),(.own 103 false u0.badBus.length)])
abbrev aem:Nat × Option Ob:=(105,some (ai9 c4 u0 c0 c2 c3))
abbrev E5:Nat × Option Ob:=(106,some (yQ u1))
abbrev Lc:Nat × Option Ob:=(109,some (aG 152 2 Event.cell c0))
abbrev rT:List (Nat × Option Ob):=[vF,(Gi c4),(sU u0),(sW u0),(sK u0),(tq u0),(tu u0),(tK u0),(aem c4 u0 c0 c2 c3),(E5 u1),(Lc c0)]
end
def ul (p:ai) (u2:Int) (u0:State):((List Event) × Int × Int × (List Bool) × (List Int) × (List Int))→St:=
  fun zz=>match zz with|(c0,c2,c3,c4,u1,u3)=> ⟨[(2,(vI u2)),(bO p),(6,(vP 80 0)),(9,(vP 105 0)),(mQ u1),(vv u3)],(rT u1 c4 u0 c0 c2 c3)⟩
def um  :Unit→St:=
  fun _=> ⟨[],[]⟩
def CW (p:ai) (u0:Int) (u1:State):(aS ((List Event) × Int × Int × (List Bool) × (List Int) × (List Int)) (Ex Unit (af × Int)))→Exit→St→Prop:=
  LQ 0 [] (ul p u0 u1) um oF
section
variable (u4:((List Short) × Int)) (u5:((List Int) × Int))
abbrev Qy:Nat × TV:=(12,(vD (aC none 4 Short.cell u4.1)))
abbrev mG:Nat × TV:=(14,(vD (aC none 1 (aA .i64) u5.1)))
end
def ug (p:ai) (u2:Int) (u0:State) (c0:(List Event)) (c2:Int) (c3:Int) (c4:(List Bool)) (u1:(List Int)) (u3:(List Int)) (u4:((List Short) × Int)) (u5:((List Int) × Int)):(Int × Int)→St:=
  fun zz=>match zz with|(u6,k)=> ⟨[(2,(vI u2)),(bO p),(6,(vP 80 0)),(9,(vP 105 0)),(mQ u1),(vv u3),(Qy u4),(mG u5),(16,(vI u6)),(17,(vI k))],(rT u1 c4 u0 c0 c2 c3)⟩
section
variable (u2:Int) (p:ai) (u1:(List Int)) (u3:(List Int)) (u4:((List Int) × Int)) (u5:Int) (c4:(List Bool)) (u0:State) (c0:(List Event)) (c2:Int) (c3:Int)
abbrev ahQ:St:=⟨[(2,(vI u2)),(bO p),(6,(vP 80 0)),(9,(vP 105 0)),(mQ u1),(vv u3),(mG u4),(16,(vI u5))],(rT u1 c4 u0 c0 c2 c3)⟩
end
def uw (p:ai) (u2:Int) (u0:State) (c0:(List Event)) (c2:Int) (c3:Int) (c4:(List Bool)) (u1:(List Int)) (u3:(List Int)) (u4:((List Int) × Int)):Int→St:=
  fun u5=>(ahQ u2 p u1 u3 u4 u5 c4 u0 c0 c2 c3)
section
variable (p:ai) (u0:Int) (u1:State)
abbrev NE:=(CW p u0 u1)
end
def CR (p:ai) (u0:Int) (u1:State) (c0:(List Event)) (c2:Int) (c3:Int) (c4:(List Bool)) (u2:(List Int)) (u3:(List Int)) (u5:((List Short) × Int)) (u4:((List Int) × Int)):(aS (Int × Int) (Ex Int (aS ((List Event) × Int × Int × (List Bool) × (List Int) × (List Int)) (Ex Unit (af × Int)))))→Exit→St→Prop:=
  LQ 2 [1] (ug p u0 u1 c0 c2 c3 c4 u2 u3 u5 u4) (uw p u0 u1 c0 c2 c3 c4 u2 u3 u4) (NE p u0 u1)
section
variable (u2:Int) (p:ai) (u1:(List Int)) (u3:(List Int)) (u4:((List Int) × Int)) (u5:Int) (u6:Int) (i:Int) (c4:(List Bool)) (u0:State) (c0:(List Event)) (c2:Int) (c3:Int)
abbrev ahX:List (Nat × TV):=[(2,(vI u2)),(bO p),(6,(vP 80 0)),(9,(vP 105 0)),(mQ u1),(vv u3),(mG u4),(16,(vI u5)),(18,(vI u6)),(19,(vI i))]
abbrev Y6:St:=⟨(ahX u2 p u1 u3 u4 u5 u6 i),(rT u1 c4 u0 c0 c2 c3)⟩
end
def uf (p:ai) (u2:Int) (u0:State) (c0:(List Event)) (c2:Int) (c3:Int) (c4:(List Bool)) (u3:(List Int)) (u4:((List Int) × Int)) (u5:Int):((List Int) × Int × Int)→St:=
  fun zz=>match zz with|(u1,u6,i)=>(Y6 u2 p u1 u3 u4 u5 u6 i c4 u0 c0 c2 c3)
section
variable (u2:Int) (p:ai) (u1:(List Int)) (u3:((List Int) × Int)) (u4:Int) (u5:Int) (c4:(List Bool)) (u0:State) (c0:(List Event)) (c2:Int) (c3:Int)
abbrev ajL:St:=⟨[(2,(vI u2)),(bO p),(6,(vP 80 0)),(9,(vP 105 0)),(mQ u1),(mG u3),(16,(vI u4)),(18,(vI u5))],(rT u1 c4 u0 c0 c2 c3)⟩
end
def tO (p:ai) (u2:Int) (u0:State) (c0:(List Event)) (c2:Int) (c3:Int) (c4:(List Bool)) (u3:((List Int) × Int)) (u4:Int):((List Int) × Int)→St:=
  fun zz=>match zz with|(u1,u5)=>(ajL u2 p u1 u3 u4 u5 c4 u0 c0 c2 c3)
def Dl (p:ai) (u0:Int) (u1:State) (c0:(List Event)) (c2:Int) (c3:Int) (c4:(List Bool)) (u4:(List Int)) (u2:((List Int) × Int)) (u3:Int):(aS ((List Int) × Int × Int) (Ex ((List Int) × Int) (aS ((List Event) × Int × Int × (List Bool) × (List Int) × (List Int)) (Ex Unit (af × Int)))))→Exit→St→Prop:=
  LQ 4 [1] (uf p u0 u1 c0 c2 c3 c4 u4 u2 u3) (tO p u0 u1 c0 c2 c3 c4 u2 u3) (NE p u0 u1)
section
variable (u2:((List Int) × Int)) (u1:Int) (c2:Int) (u7:Int) (p:ai) (u4:(List Int)) (i1:Int) (u3:Int) (c3:Int) (u6:(List Bool)) (u0:State) (u5:(List Event))
abbrev DN:Nat × TV:=(11,(vD (aC none 1 (aA .i64) u2.1)))
abbrev IK:Nat × TV:=(18,(vI (if u1<c2 then c2 else u1)))
abbrev PG:List (Nat × TV):=[(2,(vI u7)),(bO p),(6,(vP 80 0)),(9,(vP 105 0)),(mQ u4),(DN u2),(mG u2),(IK u1 c2),(22,(vI i1))]
abbrev WX:=(IntKind.wrap .i64 (Int.tdiv (IntKind.wrap .i64 (u3*u3)) 1000))
abbrev ajv:=(IntKind.wrap .i64 ((WX u3)+1))
abbrev Xf:=(IntKind.wrap .i64 (c3+(IntKind.wrap .i64 ((ajv u3)*(IntKind.wrap .i64 ((if u1<c2 then c2 else u1) - c2))))))
abbrev M8:List (Nat × Option Ob):=[vF,(Gi u6),(sU u0),(sW u0),(sK u0),(tq u0),(tu u0),(tK u0),(105,some (.cells 70 [(.own 109 false u5.length),(cB false),(cI (if u1<c2 then c2 else u1)),(cI (Xf u1 c2 u3 c3)),(.own 97 false u6.length),(.own 98 false u0.locked.length),(.own 99 false u0.badLink.length),(.own 100 false u0.on_.length),(.own 101 false u0.badSource.length),(.own 102 false u0.earthed.length),(.own 103 false u0.badBus.length)])),(E5 u4),(Lc u5)]
end
def tN (p:ai) (u7:Int) (u0:State) (c2:Int) (c3:Int) (u2:((List Int) × Int)) (u3:Int) (u4:(List Int)) (u1:Int):((List Event) × (List Bool) × Int)→St:=
  fun zz=>match zz with|(u5,u6,i1)=> ⟨(PG u2 u1 c2 u7 p u4 i1),(M8 u1 c2 u4 u3 c3 u6 u0 u5)⟩
section
variable (u6:Int) (p:ai) (u3:(List Int)) (u7:((List Int) × Int)) (u5:(List Bool)) (u0:State) (u4:(List Event)) (u1:Int) (c2:Int) (c3:Int) (u2:Int)
abbrev acE:List (Nat × TV):=[(2,(vI u6)),(bO p),(6,(vP 80 0)),(9,(vP 105 0)),(mQ u3),(DN u7)]
abbrev agI:St:=⟨(acE u6 p u3 u7),(M8 u1 c2 u3 u2 c3 u5 u0 u4)⟩
end
def tY (p:ai) (u6:Int) (u0:State) (c2:Int) (c3:Int) (u7:((List Int) × Int)) (u2:Int) (u3:(List Int)) (u1:Int):((List Event) × (List Bool))→St:=
  fun zz=>match zz with|(u4,u5)=>(agI u6 p u3 u7 u5 u0 u4 u1 c2 c3 u2)
def CU (p:ai) (u0:Int) (u1:State) (c2:Int) (c3:Int) (u2:((List Int) × Int)) (u3:Int) (u4:(List Int)) (u5:Int):(aS ((List Event) × (List Bool) × Int) (Ex ((List Event) × (List Bool)) (aS ((List Event) × Int × Int × (List Bool) × (List Int) × (List Int)) (Ex Unit (af × Int)))))→Exit→St→Prop:=
  LQ 6 [1] (tN p u0 u1 c2 c3 u2 u3 u4 u5) (tY p u0 u1 c2 c3 u2 u3 u4 u5) (NE p u0 u1)
section
variable (c3:Int) (u3:Int) (u1:Int) (c2:Int) (u6:(List Bool)) (u0:State) (u5:(List Event)) (u4:(List Int))
abbrev Vl:=(IntKind.wrap .i64 (c3+(IntKind.wrap .i64 ((WX u3)*(IntKind.wrap .i64 ((if u1<c2 then c2 else u1) - c2))))))
abbrev NA:List (Nat × Option Ob):=[vF,(Gi u6),(sU u0),(sW u0),(sK u0),(tq u0),(tu u0),(tK u0),(105,some (.cells 70 [(.own 109 false u5.length),(cB false),(cI (if u1<c2 then c2 else u1)),(cI (Vl c3 u3 u1 c2)),(.own 97 false u6.length),(.own 98 false u0.locked.length),(.own 99 false u0.badLink.length),(.own 100 false u0.on_.length),(.own 101 false u0.badSource.length),(.own 102 false u0.earthed.length),(.own 103 false u0.badBus.length)])),(E5 u4),(Lc u5)]
end
def tQ (p:ai) (u7:Int) (u0:State) (c2:Int) (c3:Int) (u2:((List Int) × Int)) (u3:Int) (u4:(List Int)) (u1:Int):((List Event) × (List Bool) × Int)→St:=
  fun zz=>match zz with|(u5,u6,i2)=> ⟨(PG u2 u1 c2 u7 p u4 i2),(NA c3 u3 u1 c2 u6 u0 u5 u4)⟩
def tV (p:ai) (u4:Int) (u0:State) (c2:Int) (c3:Int) (u5:((List Int) × Int)) (u2:Int) (u3:(List Int)) (u1:Int):((List Event) × (List Bool))→St:=
  fun zz=>match zz with|(c04,c44)=> ⟨(acE u4 p u3 u5),[vF,(97,some (aG 4 1 ah c44)),(sU u0),(sW u0),(sK u0),(tq u0),(tu u0),(tK u0),(105,some (.cells 70 [(.own 109 false c04.length),(cB false),(cI (if u1<c2 then c2 else u1)),(cI (Vl c3 u2 u1 c2)),(.own 97 false c44.length),(.own 98 false u0.locked.length),(.own 99 false u0.badLink.length),(.own 100 false u0.on_.length),(.own 101 false u0.badSource.length),(.own 102 false u0.earthed.length),(.own 103 false u0.badBus.length)])),(E5 u3),(109,some (aG 152 2 Event.cell c04))]⟩
def Da (p:ai) (u0:Int) (u1:State) (c2:Int) (c3:Int) (u2:((List Int) × Int)) (u3:Int) (u4:(List Int)) (u5:Int):(aS ((List Event) × (List Bool) × Int) (Ex ((List Event) × (List Bool)) (aS ((List Event) × Int × Int × (List Bool) × (List Int) × (List Int)) (Ex Unit (af × Int)))))→Exit→St→Prop:=
  LQ 6 [1] (tQ p u0 u1 c2 c3 u2 u3 u4 u5) (tV p u0 u1 c2 c3 u2 u3 u4 u5) (NE p u0 u1)
section
variable (r_:Int) (u0:State) (p:ai) (u4:Int) (c4:(List Bool)) (c0:(List Event)) (c2:Int) (c3:Int) (u6:(List Int)) (i:Int) (v1:(List Int)) (u2:((List Int) × Int)) (u3:Int) (v3:Int) (v4:Int) (u5:(List Int)) (u1:Int) (i1:Int) (v7:Int) (u7:(List Event)) (u8:(List Bool)) (u9:(List Event)) (i2:Int) (v0:(List Bool))
abbrev Vn:List (Nat × Option Ob):=[vF]
abbrev Nb:List (Nat × TV):=[(6,(vP 80 0)),(7,(vI r_))]
abbrev aiy:List CV:=[(.own 81 false 0),(cB false),(cI 0),(cI 0),(.d nS),(.d nS),(.d nS),(.d nS),(.d nS),(.d nS),(.d nS)]
abbrev O1:Nat × Option Ob:=(81,some (.arr 152 2 0 (au Event.cell ([]:List Event))))
abbrev ae9:List CV:=[(.own 81 false 0),(cB false),(cI 0),(cI 0),(.own 82 false 0),(.d nS),(.d nS),(.d nS),(.d nS),(.d nS),(.d nS)]
abbrev RQ:Nat × Option Ob:=(82,some (.arr 4 1 0 (au ah ([]:List Bool))))
abbrev ah4:List CV:=[(.own 81 false 0),(cB false),(cI 0),(cI 0),(.own 82 false 0),(.own 83 false 0),(.d nS),(.d nS),(.d nS),(.d nS),(.d nS)]
abbrev Vt:Nat × Option Ob:=(83,some (.arr 4 1 0 (au ah ([]:List Bool))))
abbrev ajP:List CV:=[(.own 81 false 0),(cB false),(cI 0),(cI 0),(.own 82 false 0),(.own 83 false 0),(.own 84 false 0),(.d nS),(.d nS),(.d nS),(.d nS)]
abbrev Xy:Nat × Option Ob:=(84,some (.arr 4 1 0 (au ah ([]:List Bool))))
abbrev ajn:List CV:=[(.own 81 false 0),(cB false),(cI 0),(cI 0),(.own 82 false 0),(.own 83 false 0),(.own 84 false 0),(.own 85 false 0),(.d nS),(.d nS),(.d nS)]
abbrev aaU:Nat × Option Ob:=(85,some (.arr 4 1 0 (au ah ([]:List Bool))))
abbrev ajs:List CV:=[(.own 81 false 0),(cB false),(cI 0),(cI 0),(.own 82 false 0),(.own 83 false 0),(.own 84 false 0),(.own 85 false 0),(.own 86 false 0),(.d nS),(.d nS)]
abbrev aea:Nat × Option Ob:=(86,some (.arr 4 1 0 (au ah ([]:List Bool))))
abbrev aie:List CV:=[(.own 81 false 0),(cB false),(cI 0),(cI 0),(.own 82 false 0),(.own 83 false 0),(.own 84 false 0),(.own 85 false 0),(.own 86 false 0),(.own 87 false 0),(.d nS)]
abbrev agu:List (Nat × Option Ob):=[(0,some (.arr 152 2 0 (au Event.cell ([]:List Event)))),(1,some (.arr 4 1 0 (au ah ([]:List Bool)))),(2,some (.arr 4 1 0 (au ah ([]:List Bool)))),(3,some (.arr 4 1 0 (au ah ([]:List Bool)))),(4,some (.arr 4 1 0 (au ah ([]:List Bool)))),(5,some (.arr 4 1 0 (au ah ([]:List Bool)))),(6,some (.arr 4 1 0 (au ah ([]:List Bool)))),(7,some (.arr 4 1 0 (au ah ([]:List Bool)))),(8,some (.cells 70 af4))]
abbrev afl:List (Nat × Option Ob):=[(0,some (aG 152 2 Event.cell ([]:List Event))),(1,some D7),(2,some D7),(3,some D7),(4,some D7),(5,some D7),(6,some D7),(7,some D7),(8,some (.cells 70 aa2))]
abbrev Ns:List (Nat × TV):=[(6,(vP 80 0)),(7,(vI 1))]
abbrev aeW:List CV:=[(.own 89 false 0),(cB false),(cI 0),(cI 0),(.d nS),(.d nS),(.d nS),(.d nS),(.d nS),(.d nS),(.d nS)]
abbrev O9:Nat × Option Ob:=(89,some (.arr 152 2 0 (au Event.cell ([]:List Event))))
abbrev af6:List CV:=[(.own 89 false 0),(cB false),(cI 0),(cI 0),(.own 90 false 0),(.d nS),(.d nS),(.d nS),(.d nS),(.d nS),(.d nS)]
abbrev Ru:Nat × Option Ob:=(90,some (.arr 4 1 0 (au ah ([]:List Bool))))
abbrev ae5:List CV:=[(.own 89 false 0),(cB false),(cI 0),(cI 0),(.own 90 false 0),(.own 91 false 0),(.d nS),(.d nS),(.d nS),(.d nS),(.d nS)]
abbrev Ul:Nat × Option Ob:=(91,some (.arr 4 1 0 (au ah ([]:List Bool))))
abbrev agO:List CV:=[(.own 89 false 0),(cB false),(cI 0),(cI 0),(.own 90 false 0),(.own 91 false 0),(.own 92 false 0),(.d nS),(.d nS),(.d nS),(.d nS)]
abbrev Yg:Nat × Option Ob:=(92,some (.arr 4 1 0 (au ah ([]:List Bool))))
abbrev afB:List CV:=[(.own 89 false 0),(cB false),(cI 0),(cI 0),(.own 90 false 0),(.own 91 false 0),(.own 92 false 0),(.own 93 false 0),(.d nS),(.d nS),(.d nS)]
abbrev Zu:Nat × Option Ob:=(93,some (.arr 4 1 0 (au ah ([]:List Bool))))
abbrev abO:List CV:=[(.own 89 false 0),(cB false),(cI 0),(cI 0),(.own 90 false 0),(.own 91 false 0),(.own 92 false 0),(.own 93 false 0),(.own 94 false 0),(.d nS),(.d nS)]
abbrev YG:Nat × Option Ob:=(94,some (.arr 4 1 0 (au ah ([]:List Bool))))
abbrev abM:List CV:=[(.own 89 false 0),(cB false),(cI 0),(cI 0),(.own 90 false 0),(.own 91 false 0),(.own 92 false 0),(.own 93 false 0),(.own 94 false 0),(.own 95 false 0),(.d nS)]
abbrev Qu:Nat × Option Ob:=(97,some (aG 4 1 ah u0.closed))
abbrev abu:List CV:=[(.d nS),(cB false),(cI 0),(cI 0),(.own 97 false u0.closed.length),(.own 98 false u0.locked.length),(.own 99 false u0.badLink.length),(.own 100 false u0.on_.length),(.own 101 false u0.badSource.length),(.own 102 false u0.earthed.length),(.own 103 false u0.badBus.length)]
abbrev abw:Nat × Option Ob:=(105,some (.cells 70 (abu u0)))
abbrev XV:Nat × TV:=(10,(vO 106 true (aa4 p)))
abbrev Ub:Nat × Option Ob:=(106,some (acr p))
abbrev abQ:List (Nat × Option Ob):=[vF,(Qu u0),(sU u0),(sW u0),(sK u0),(tq u0),(tu u0),(tK u0),(abw u0),(Ub p)]
abbrev YE:List (Nat × TV):=[(2,(vI u4)),(bO p),(6,(vP 80 0)),(9,(vP 105 0)),(XV p),(11,(vD (aC (some true) 1 (aA .i64) (DW p))))]
abbrev QU:=(⟨c4,u0.locked,u0.badLink,u0.on_,u0.badSource,u0.earthed,u0.badBus⟩:State)
abbrev abT:Ob:=(.cells 70 [(.own 109 false c0.length),(cB true),(cI c2),(cI c3),(.own 97 false c4.length),(.own 98 false u0.locked.length),(.own 99 false u0.badLink.length),(.own 100 false u0.on_.length),(.own 101 false u0.badSource.length),(.own 102 false u0.earthed.length),(.own 103 false u0.badBus.length)])
abbrev abm:List CV:=[(.own 0 false c0.length),(cB true),(cI c2),(cI c3),(.own 1 false c4.length),(.own 2 false u0.locked.length),(.own 3 false u0.badLink.length),(.own 4 false u0.on_.length),(.own 5 false u0.badSource.length),(.own 6 false u0.earthed.length),(.own 7 false u0.badBus.length)]
abbrev XH:List (Nat × Option Ob):=[vF,(Gi c4),(sU u0),(sW u0),(sK u0),(tq u0),(tu u0),(tK u0),(aem c4 u0 c0 c2 c3),(106,some (aG 3 1 (aA .i64) (u6.set i.toNat c2))),(Lc c0)]
abbrev Wi:St:=⟨[(2,(vI u4)),(bO p),(6,(vP 80 0)),(9,(vP 105 0)),(10,(vO 106 true ((u6.set i.toNat c2).length))),(vv v1),(mG u2),(16,(vI u3)),(18,(vI v3)),(19,(vI i))],(XH u0 c4 c0 c2 c3 u6 i)⟩
abbrev abI:List CV:=[(.own 97 false c4.length),(.own 98 false u0.locked.length),(.own 99 false u0.badLink.length),(.own 100 false u0.on_.length),(.own 101 false u0.badSource.length),(.own 102 false u0.earthed.length),(.own 103 false u0.badBus.length)]
abbrev Hy:List (Nat × Option Ob):=[(Gi c4),(sU u0),(sW u0),(sK u0),(tq u0),(tu u0),(tK u0)]
abbrev abL:Nat × TV:=(127,(vB (bif (decide (0≤v4))then(bif (decide (v3<0))then true else(decide (v4<v3)))else false)))
abbrev aa9:=(eqs (decide (0≤v4)) 3 (eqs (decide (v3<0)) 3 [(decide (0≤v4))=(decide (0≤v4)),gP (iD [(2,(decide (0≤v4))),(5,(decide (v3<0)))]) [(2,true)]→All [(decide (v3<0))=(decide (v3<0))],(decide (0≤v4))=(decide (0≤v4))]))
abbrev Wm:List SV:=[(.agg (k1 p)),(.agg (abI u0 c4)),(sI i),(sI (at' u2.1 i.toNat)),(sI (at' u6 i.toNat))]
abbrev abn:List CV:=[(.own 0 false c0.length),(cB false),(cI c2),(cI c3),(.own 1 false c4.length),(.own 2 false u0.locked.length),(.own 3 false u0.badLink.length),(.own 4 false u0.on_.length),(.own 5 false u0.badSource.length),(.own 6 false u0.earthed.length),(.own 7 false u0.badBus.length)]
abbrev TP:List (Nat × TV):=[(2,(vI u4)),(bO p),(6,(vP 80 0)),(9,(vP 105 0)),(mQ u5),(DN u2),(mG u2),(IK u1 c2)]
abbrev abA:List (Nat × TV):=[(2,(vI u4)),(bO p),(6,(vP 80 0)),(9,(vP 105 0)),(mQ u5),(DN u2),(mG u2),(IK u1 c2),(22,(vI 0))]
abbrev abv:List (Nat × TV):=[(2,(vI u4)),(bO p),(6,(vP 80 0)),(9,(vP 105 0)),(mQ u5),(DN u2),(mG u2),(IK u1 c2),(22,(vI i1)),(165,(Ph p i1))]
abbrev abG:List (Nat × TV):=[(2,(vI u4)),(bO p),(6,(vP 80 0)),(9,(vP 105 0)),(mQ u5),(DN u2),(mG u2),(IK u1 c2),(22,(vI i1)),(23,(vI v7))]
abbrev abJ:List (Nat × TV):=[(2,(vI u4)),(bO p),(6,(vP 80 0)),(9,(vP 105 0)),(mQ u5),(DN u2),(mG u2),(IK u1 c2),(22,(vI i1)),(187,(vB (bif (decide (0≤v7))then(decide (v7≤(if u1<c2 then c2 else u1)))else false)))]
abbrev abl:List (Nat × TV):=[(2,(vI u4)),(bO p),(6,(vP 80 0)),(9,(vP 105 0)),(mQ u5),(DN u2),(mG u2),(IK u1 c2),(22,(vI i1)),(24,(vO 109 false u7.length))]
abbrev DC:=(⟨(if u1<c2 then c2 else u1),i1⟩:Event)
abbrev Jy:=(u7++[(DC c2 u1 i1)])
abbrev Mr:=((Jy c2 u1 i1 u7).length)
abbrev abS:Nat × Option Ob:=(105,some (.cells 70 [(.own 163 false (Mr c2 u1 i1 u7)),(cB false),(cI (if u1<c2 then c2 else u1)),(cI (Xf u1 c2 u3 c3)),(.own 97 false u8.length),(.own 98 false u0.locked.length),(.own 99 false u0.badLink.length),(.own 100 false u0.on_.length),(.own 101 false u0.badSource.length),(.own 102 false u0.earthed.length),(.own 103 false u0.badBus.length)]))
abbrev TB:Ob:=(aG 152 2 Event.cell (Jy c2 u1 i1 u7))
abbrev XW:Nat × Option Ob:=(163,some (TB c2 u1 i1 u7))
abbrev M4:=(au Event.cell [(DC c2 u1 i1)])
abbrev TW:=(au Event.cell (Jy c2 u1 i1 u7))
abbrev MU:=(au ah (u8.set i1.toNat false))
abbrev T9:Nat × Option Ob:=(97,some (aG 4 1 ah (u8.set i1.toNat false)))
abbrev abD:List (Nat × Option Ob):=[vF,(T9 i1 u8),(sU u0),(sW u0),(sK u0),(tq u0),(tu u0),(tK u0),(105,some (.cells 70 [(.own 163 false (Mr c2 u1 i1 u7)),(cB false),(cI (if u1<c2 then c2 else u1)),(cI (Xf u1 c2 u3 c3)),(.own 97 false ((u8.set i1.toNat false).length)),(.own 98 false u0.locked.length),(.own 99 false u0.badLink.length),(.own 100 false u0.on_.length),(.own 101 false u0.badSource.length),(.own 102 false u0.earthed.length),(.own 103 false u0.badBus.length)])),(E5 u5),(XW c2 u1 i1 u7)]
abbrev LW:List (Nat × TV):=[(2,(vI u4)),(bO p),(6,(vP 80 0)),(9,(vP 105 0)),(mQ u5),(DN u2),(mG u2),(IK u1 c2),(22,(uM i1))]
abbrev abB:Nat × Option Ob:=(105,some (.cells 70 [(.own 171 false (Mr c2 u1 i2 u9)),(cB false),(cI (if u1<c2 then c2 else u1)),(cI (Vl c3 u3 u1 c2)),(.own 97 false v0.length),(.own 98 false u0.locked.length),(.own 99 false u0.badLink.length),(.own 100 false u0.on_.length),(.own 101 false u0.badSource.length),(.own 102 false u0.earthed.length),(.own 103 false u0.badBus.length)]))
abbrev Xh:Nat × Option Ob:=(171,some (TB c2 u1 i2 u9))
abbrev abg:List (Nat × Option Ob):=[vF,(T9 i2 v0),(sU u0),(sW u0),(sK u0),(tq u0),(tu u0),(tK u0),(105,some (.cells 70 [(.own 171 false (Mr c2 u1 i2 u9)),(cB false),(cI (if u1<c2 then c2 else u1)),(cI (Vl c3 u3 u1 c2)),(.own 97 false ((v0.set i2.toNat false).length)),(.own 98 false u0.locked.length),(.own 99 false u0.badLink.length),(.own 100 false u0.on_.length),(.own 101 false u0.badSource.length),(.own 102 false u0.earthed.length),(.own 103 false u0.badBus.length)])),(E5 u5),(Xh c2 u1 u9 i2)]
end
theorem Di (p:ai) (s_:State) (u4:Int) {r:(af × Int)} (h:jK p s_ u4=some r):Fn Try.prog 72 (Qm p s_ u4) [] (.gL [(.agg [(.own 0 false r.1.events.length),(cB r.1.cleared),(cI r.1.millis),(cI r.1.energy),(.own 1 false r.1.state.closed.length),(.own 2 false r.1.state.locked.length),(.own 3 false r.1.state.badLink.length),(.own 4 false r.1.state.on_.length),(.own 5 false r.1.state.badSource.length),(.own 6 false r.1.state.earthed.length),(.own 7 false r.1.state.badBus.length)]),(sI r.2)]) [(0,some (aG 152 2 Event.cell r.1.events)),(1,some (aG 4 1 ah r.1.state.closed)),(2,some (aG 4 1 ah r.1.state.locked)),(3,some (aG 4 1 ah r.1.state.badLink)),(4,some (aG 4 1 ah r.1.state.on_)),(5,some (aG 4 1 ah r.1.state.badSource)),(6,some (aG 4 1 ah r.1.state.earthed)),(7,some (aG 4 1 ah r.1.state.badBus)),(8,none)]:=by
 refine fN tT Try.func72 rfl rfl fun B=> ?_
 show bJ _ _ _ _ _ _ (oF r) _
 unfold jK at h
 refine sz tT ⟨[(2,(vI u4)),(bO p),(Be s_),(6,(vP 80 0))],Vn⟩ {fr:=[(0,78),(1,79),(2,80)] } [78,79] ?_
 refine aQ (bE h fun r_ hr_ h=> ?_)
 have q0:=lQ p s_ hr_
 refine rg tT ⟨[(2,(vI u4)),(bO p),(Be s_),(6,(vP 80 0)),(8,(vI r_))],Vn⟩ [_] {an:=[(2,cA q0 [])] } [] ⟨q0,trivial⟩ ?_
 refine aQ (sz tT ⟨[(2,(vI u4)),(bO p),(Be s_),(6,(vP 80 0)),(8,(vI r_)),(29,(vB (!decide (r_=0))))],Vn⟩ {} [] ?_)
 refine bI h (fun hb13 h=> ?_) (fun hb13 h=> ?_)
 ·refine ct hb13 ?_
  refine sz tT ⟨(Nb r_),Vn⟩ {} [] ?_
  refine aI (.trans (bG.d9 (E:=0) (esz:=0) (E0:=70) (cs:=Vm) (p:=80) (q:=0) (b:=81) (esz0:=0) (el0:=fun _ _=> .nilp) (ob:= .arr 152 2 0 (au Event.cell ([]:List Event))) (fun _ _ _ _ h=> .inl ⟨h,rfl⟩) (by kernel_rfl) (by kernel_rfl) (by kernel_rfl)) (.trans (fz ⟨(Nb r_),[(80,some (.cells 70 aiy)),O1]⟩ []) (.trans (bG.d9 (E:=0) (esz:=0) (E0:=70) (cs:=aiy) (p:=80) (q:=4) (b:=82) (esz0:=0) (el0:=fun _ _=> .nilp) (ob:= .arr 4 1 0 (au ah ([]:List Bool))) (fun _ _ _ _ h=> .inl ⟨h,rfl⟩) (by kernel_rfl) (by kernel_rfl) (by kernel_rfl)) (.trans (fz ⟨(Nb r_),[(80,some (.cells 70 ae9)),O1,RQ]⟩ []) (.trans (bG.d9 (E:=0) (esz:=0) (E0:=70) (cs:=ae9) (p:=80) (q:=5) (b:=83) (esz0:=0) (el0:=fun _ _=> .nilp) (ob:= .arr 4 1 0 (au ah ([]:List Bool))) (fun _ _ _ _ h=> .inl ⟨h,rfl⟩) (by kernel_rfl) (by kernel_rfl) (by kernel_rfl)) (.trans (fz ⟨(Nb r_),[(80,some (.cells 70 ah4)),O1,RQ,Vt]⟩ []) (.trans (bG.d9 (E:=0) (esz:=0) (E0:=70) (cs:=ah4) (p:=80) (q:=6) (b:=84) (esz0:=0) (el0:=fun _ _=> .nilp) (ob:= .arr 4 1 0 (au ah ([]:List Bool))) (fun _ _ _ _ h=> .inl ⟨h,rfl⟩) (by kernel_rfl) (by kernel_rfl) (by kernel_rfl)) (.trans (fz ⟨(Nb r_),[(80,some (.cells 70 ajP)),O1,RQ,Vt,Xy]⟩ []) (.trans (bG.d9 (E:=0) (esz:=0) (E0:=70) (cs:=ajP) (p:=80) (q:=7) (b:=85) (esz0:=0) (el0:=fun _ _=> .nilp) (ob:= .arr 4 1 0 (au ah ([]:List Bool))) (fun _ _ _ _ h=> .inl ⟨h,rfl⟩) (by kernel_rfl) (by kernel_rfl) (by kernel_rfl)) (.trans (fz ⟨(Nb r_),[(80,some (.cells 70 ajn)),O1,RQ,Vt,Xy,aaU]⟩ []) (.trans (bG.d9 (E:=0) (esz:=0) (E0:=70) (cs:=ajn) (p:=80) (q:=8) (b:=86) (esz0:=0) (el0:=fun _ _=> .nilp) (ob:= .arr 4 1 0 (au ah ([]:List Bool))) (fun _ _ _ _ h=> .inl ⟨h,rfl⟩) (by kernel_rfl) (by kernel_rfl) (by kernel_rfl)) (.trans (fz ⟨(Nb r_),[(80,some (.cells 70 ajs)),O1,RQ,Vt,Xy,aaU,aea]⟩ []) (.trans (bG.d9 (E:=0) (esz:=0) (E0:=70) (cs:=ajs) (p:=80) (q:=9) (b:=87) (esz0:=0) (el0:=fun _ _=> .nilp) (ob:= .arr 4 1 0 (au ah ([]:List Bool))) (fun _ _ _ _ h=> .inl ⟨h,rfl⟩) (by kernel_rfl) (by kernel_rfl) (by kernel_rfl)) (.trans (fz ⟨(Nb r_),[(80,some (.cells 70 aie)),O1,RQ,Vt,Xy,aaU,aea,(87,some (.arr 4 1 0 (au ah ([]:List Bool))))]⟩ []) (.trans (bG.d9 (E:=0) (esz:=0) (E0:=70) (cs:=aie) (p:=80) (q:=10) (b:=88) (esz0:=0) (el0:=fun _ _=> .nilp) (ob:= .arr 4 1 0 (au ah ([]:List Bool))) (fun _ _ _ _ h=> .inl ⟨h,rfl⟩) (by kernel_rfl) (by kernel_rfl) (by kernel_rfl)) (.trans (fz ⟨(Nb r_),[(80,some (.cells 70 [(.own 81 false 0),(cB false),(cI 0),(cI 0),(.own 82 false 0),(.own 83 false 0),(.own 84 false 0),(.own 85 false 0),(.own 86 false 0),(.own 87 false 0),(.own 88 false 0)])),O1,RQ,Vt,Xy,aaU,aea,(87,some (.arr 4 1 0 (au ah ([]:List Bool)))),(88,some (.arr 4 1 0 (au ah ([]:List Bool))))]⟩ []) (.trans (bG.fin (st':=⟨[(6,(vP 8 0)),(7,(vI r_))],agu⟩) (cs:=[]) ⟨[],[(81,0),(82,1),(83,2),(84,3),(85,4),(86,5),(87,6),(88,7),(80,8)]⟩ [6,7] (by kernel_rfl) trivial) (bG.le (st':=⟨[(6,(vP 8 0)),(7,(vI r_))],afl⟩) ⟨⟨tR,tR,trivial⟩,⟨rfl,oW,⟨rfl,oW,⟨rfl,oW,⟨rfl,oW,⟨rfl,oW,⟨rfl,oW,⟨rfl,oW,⟨rfl,oW,⟨rfl,fV ⟨cW,bL.refl _,bL.refl _,bL.refl _,cW,cW,cW,cW,cW,cW,cW,trivial⟩,trivial⟩⟩⟩⟩⟩⟩⟩⟩⟩⟩)))))))))))))))))) ?_
  refine aR ?_
  obtain rfl:=oi h
  exact rh (aha r_) (.refl _) (hN 8 ⟨rfl,trivial,trivial⟩)
 ·refine cf hb13 ?_
  refine aP (aQ (sg tT ⟨[(2,(vI u4)),(bO p),(Be s_),(6,(vP 80 0)),(39,(aag p u4))],Vn⟩ (eqs (decide (u4<0)) 5 []) {yb:=[(2,(decide (u4<0)))] } [] (ae trivial) ?_))
  refine bI h (fun hb12 h=> ?_) (fun hb12 h=> ?_)
  ·refine ct hb12 ?_
   refine sz tT ⟨Ns,Vn⟩ {} [] ?_
   refine aI (.trans (bG.d9 (E:=0) (esz:=0) (E0:=70) (cs:=Vm) (p:=80) (q:=0) (b:=89) (esz0:=0) (el0:=fun _ _=> .nilp) (ob:= .arr 152 2 0 (au Event.cell ([]:List Event))) (fun _ _ _ _ h=> .inl ⟨h,rfl⟩) (by kernel_rfl) (by kernel_rfl) (by kernel_rfl)) (.trans (fz ⟨Ns,[(80,some (.cells 70 aeW)),O9]⟩ []) (.trans (bG.d9 (E:=0) (esz:=0) (E0:=70) (cs:=aeW) (p:=80) (q:=4) (b:=90) (esz0:=0) (el0:=fun _ _=> .nilp) (ob:= .arr 4 1 0 (au ah ([]:List Bool))) (fun _ _ _ _ h=> .inl ⟨h,rfl⟩) (by kernel_rfl) (by kernel_rfl) (by kernel_rfl)) (.trans (fz ⟨Ns,[(80,some (.cells 70 af6)),O9,Ru]⟩ []) (.trans (bG.d9 (E:=0) (esz:=0) (E0:=70) (cs:=af6) (p:=80) (q:=5) (b:=91) (esz0:=0) (el0:=fun _ _=> .nilp) (ob:= .arr 4 1 0 (au ah ([]:List Bool))) (fun _ _ _ _ h=> .inl ⟨h,rfl⟩) (by kernel_rfl) (by kernel_rfl) (by kernel_rfl)) (.trans (fz ⟨Ns,[(80,some (.cells 70 ae5)),O9,Ru,Ul]⟩ []) (.trans (bG.d9 (E:=0) (esz:=0) (E0:=70) (cs:=ae5) (p:=80) (q:=6) (b:=92) (esz0:=0) (el0:=fun _ _=> .nilp) (ob:= .arr 4 1 0 (au ah ([]:List Bool))) (fun _ _ _ _ h=> .inl ⟨h,rfl⟩) (by kernel_rfl) (by kernel_rfl) (by kernel_rfl)) (.trans (fz ⟨Ns,[(80,some (.cells 70 agO)),O9,Ru,Ul,Yg]⟩ []) (.trans (bG.d9 (E:=0) (esz:=0) (E0:=70) (cs:=agO) (p:=80) (q:=7) (b:=93) (esz0:=0) (el0:=fun _ _=> .nilp) (ob:= .arr 4 1 0 (au ah ([]:List Bool))) (fun _ _ _ _ h=> .inl ⟨h,rfl⟩) (by kernel_rfl) (by kernel_rfl) (by kernel_rfl)) (.trans (fz ⟨Ns,[(80,some (.cells 70 afB)),O9,Ru,Ul,Yg,Zu]⟩ []) (.trans (bG.d9 (E:=0) (esz:=0) (E0:=70) (cs:=afB) (p:=80) (q:=8) (b:=94) (esz0:=0) (el0:=fun _ _=> .nilp) (ob:= .arr 4 1 0 (au ah ([]:List Bool))) (fun _ _ _ _ h=> .inl ⟨h,rfl⟩) (by kernel_rfl) (by kernel_rfl) (by kernel_rfl)) (.trans (fz ⟨Ns,[(80,some (.cells 70 abO)),O9,Ru,Ul,Yg,Zu,YG]⟩ []) (.trans (bG.d9 (E:=0) (esz:=0) (E0:=70) (cs:=abO) (p:=80) (q:=9) (b:=95) (esz0:=0) (el0:=fun _ _=> .nilp) (ob:= .arr 4 1 0 (au ah ([]:List Bool))) (fun _ _ _ _ h=> .inl ⟨h,rfl⟩) (by kernel_rfl) (by kernel_rfl) (by kernel_rfl)) (.trans (fz ⟨Ns,[(80,some (.cells 70 abM)),O9,Ru,Ul,Yg,Zu,YG,(95,some (.arr 4 1 0 (au ah ([]:List Bool))))]⟩ []) (.trans (bG.d9 (E:=0) (esz:=0) (E0:=70) (cs:=abM) (p:=80) (q:=10) (b:=96) (esz0:=0) (el0:=fun _ _=> .nilp) (ob:= .arr 4 1 0 (au ah ([]:List Bool))) (fun _ _ _ _ h=> .inl ⟨h,rfl⟩) (by kernel_rfl) (by kernel_rfl) (by kernel_rfl)) (.trans (fz ⟨Ns,[(80,some (.cells 70 [(.own 89 false 0),(cB false),(cI 0),(cI 0),(.own 90 false 0),(.own 91 false 0),(.own 92 false 0),(.own 93 false 0),(.own 94 false 0),(.own 95 false 0),(.own 96 false 0)])),O9,Ru,Ul,Yg,Zu,YG,(95,some (.arr 4 1 0 (au ah ([]:List Bool)))),(96,some (.arr 4 1 0 (au ah ([]:List Bool))))]⟩ []) (.trans (bG.fin (st':=⟨[(6,(vP 8 0)),(7,(vI 1))],agu⟩) (cs:=[]) ⟨[],[(89,0),(90,1),(91,2),(92,3),(93,4),(94,5),(95,6),(96,7),(80,8)]⟩ [6,7] (by kernel_rfl) trivial) (bG.le (st':=⟨[(6,(vP 8 0)),(7,(vI 1))],afl⟩) ⟨⟨tR,tR,trivial⟩,⟨rfl,oW,⟨rfl,oW,⟨rfl,oW,⟨rfl,oW,⟨rfl,oW,⟨rfl,oW,⟨rfl,oW,⟨rfl,oW,⟨rfl,fV ⟨cW,bL.refl _,bL.refl _,bL.refl _,cW,cW,cW,cW,cW,cW,cW,trivial⟩,trivial⟩⟩⟩⟩⟩⟩⟩⟩⟩⟩)))))))))))))))))) ?_
   refine aR ?_
   obtain rfl:=oi h
   exact rh ai2 (.refl _) (hN 8 ⟨rfl,trivial,trivial⟩)
  ·refine cf hb12 ?_
   refine aP (aQ (bE h fun u0 hr_1 h=> ?_))
   have q0:=rk [(0,97),(1,98),(2,99),(3,100),(4,101),(5,102),(6,103),(7,104)] (AO s_ hr_1)
   refine rg tT ⟨[(2,(vI u4)),(bO p),(6,(vP 80 0)),(9,(vP 105 0))],[vF,(Qu u0),(sU u0),(sW u0),(sK u0),(tq u0),(tu u0),(tK u0),(abw u0)]⟩ [_] {an:=[(1,cA q0 [])],fr:=[(3,105)] } [] ⟨q0,trivial⟩ ?_
   refine aQ (aO h fun⟨a1,a2,a3⟩ h=> ?_)
   refine rg tT ⟨[(2,(vI u4)),(bO p),(6,(vP 80 0)),(9,(vP 105 0)),(XV p)],(abQ u0 p)⟩ [_,(X4 p)=(p.links.length:Int),_,_,(DW p).length=(Iw p),aY (Iw p) 1 (fun _ j=>[(.int .i64 0)].getD j .nilp) (OP p)] {an:=[(3, .arr (DW p).length (OP p))],fr:=[(3,106)] } [] ⟨a1,rfl,a2,a3,(List.length_replicate),(jA _ _ _ _ _ (fun j hj=>(match j,hj with|0,_=>rfl))),trivial⟩ ?_
   refine aQ (aO h fun⟨a1,a2,a3⟩ h=> ?_)
   refine rg tT ⟨(YE p u4),(abQ u0 p)⟩ [_,(X4 p)=(p.links.length:Int),_,_,(DW p).length=(Iw p),aY (Iw p) 1 (fun _ j=>[(.int .i64 0)].getD j .nilp) (OP p),(DW p).length=(DW p).length] {an:=[(3, .arr (DW p).length (OP p))],fr:=[(3,107)] } [107] ⟨a1,rfl,a2,a3,(List.length_replicate),(jA _ _ _ _ _ (fun j hj=>(match j,hj with|0,_=>rfl))),rfl,trivial⟩ ?_
   refine bE h fun y5 hy h=> ?_
   refine aI (.trans (bG.d9 (E:=0) (esz:=0) (E0:=70) (cs:=(abu u0)) (p:=105) (q:=0) (b:=172) (esz0:=0) (el0:=fun _ _=> .nilp) (ob:= .arr 152 2 0 (au Event.cell ([]:List Event))) (fun _ _ _ _ h=> .inl ⟨h,rfl⟩) (by kernel_rfl) (by kernel_rfl) (by kernel_rfl)) (.trans (fz ⟨(YE p u4),[vF,(Qu u0),(sU u0),(sW u0),(sK u0),(tq u0),(tu u0),(tK u0),(105,some (.cells 70 [(.own 172 false 0),(cB false),(cI 0),(cI 0),(.own 97 false u0.closed.length),(.own 98 false u0.locked.length),(.own 99 false u0.badLink.length),(.own 100 false u0.on_.length),(.own 101 false u0.badSource.length),(.own 102 false u0.earthed.length),(.own 103 false u0.badBus.length)])),(Ub p),(172,some (.arr 152 2 0 (au Event.cell ([]:List Event))))]⟩ []) (.trans (bG.fin (st':=⟨(YE p u4),[vF,(Qu u0),(sU u0),(sW u0),(sK u0),(tq u0),(tu u0),(tK u0),(105,some (.cells 70 [(.own 109 false 0),(cB false),(cI 0),(cI 0),(.own 97 false u0.closed.length),(.own 98 false u0.locked.length),(.own 99 false u0.badLink.length),(.own 100 false u0.on_.length),(.own 101 false u0.badSource.length),(.own 102 false u0.earthed.length),(.own 103 false u0.badBus.length)])),(Ub p),(109,some (.arr 152 2 0 (au Event.cell ([]:List Event))))]⟩) (cs:=[]) ⟨[],[(80,80),(97,97),(98,98),(99,99),(100,100),(101,101),(102,102),(103,103),(105,105),(106,106),(172,109)]⟩ [2,3,6,9,10,11] (by kernel_rfl) trivial) (bG.le (st':=⟨[(2,(vI u4)),(bO p),(6,(vP 80 0)),(9,(vP 105 0)),(XV p),(11,(vD (aC none 1 (aA .i64) (DW p))))],[vF,(Qu u0),(sU u0),(sW u0),(sK u0),(tq u0),(tu u0),(tK u0),(105,some (.cells 70 [(.own 109 false (([]:List Event).length)),(cB false),(cI 0),(cI 0),(.own 97 false u0.closed.length),(.own 98 false u0.locked.length),(.own 99 false u0.badLink.length),(.own 100 false u0.on_.length),(.own 101 false u0.badSource.length),(.own 102 false u0.earthed.length),(.own 103 false u0.badBus.length)])),(Ub p),(109,some (aG 152 2 Event.cell ([]:List Event)))]⟩) ⟨⟨tR,tR,tR,tR,tR,⟨_,rfl,fC.v (jw.one (bL.d dP.l9))⟩,trivial⟩,(hN 8 ⟨rfl,fV ⟨cW,bL.refl _,bL.refl _,bL.refl _,bL.refl _,bL.refl _,bL.refl _,bL.refl _,bL.refl _,bL.refl _,bL.refl _,trivial⟩,⟨rfl, .refl _,⟨rfl,oW,trivial⟩⟩⟩)⟩)))) ?_
   refine aL [] (ul p u4 u0) um oF hy (fun s f h=> ?_) ?_
   ·clear hy
    show bJ _ _ _ _ _ _ ((NE p u4 u0) f) _
    unfold gT at h
    obtain⟨c0,c2,c3,c4,v2,v1⟩:=s
    refine aB (aQ (bE h fun v6 hr_2 h=> ?_))
    have q0:=rk [(0,97),(1,98),(2,99),(3,100),(4,101),(5,102),(6,103)] (BU p (QU u0 c4) u4 hr_2)
    refine rg tT ⟨[(2,(vI u4)),(bO p),(6,(vP 80 0)),(9,(vP 105 0)),(mQ v2),(vv v1),(Qy v6)],(rT v2 c4 u0 c0 c2 c3)⟩ [_] {an:=[(4,cR q0 [97,98,99,100,101,102,103])] } [] ⟨q0,trivial⟩ ?_
    refine aQ (bE h fun u2 hr_3 h=> ?_)
    have q0:=Em p v6.1 hr_3
    refine rg tT ⟨[(2,(vI u4)),(bO p),(6,(vP 80 0)),(9,(vP 105 0)),(mQ v2),(vv v1),(Qy v6),(mG u2)],(rT v2 c4 u0 c0 c2 c3)⟩ [_] {an:=[(2,cA q0 [])] } [] ⟨q0,trivial⟩ ?_
    refine sz tT ⟨[(2,(vI u4)),(bO p),(6,(vP 80 0)),(9,(vP 105 0)),(mQ v2),(vv v1),(Qy v6),(mG u2),(16,(vI 0))],(rT v2 c4 u0 c0 c2 c3)⟩ {} [] ?_
    refine aQ (sz tT ⟨[(2,(vI u4)),(bO p),(6,(vP 80 0)),(9,(vP 105 0)),(mQ v2),(vv v1),(Qy v6),(mG u2),(16,(vI 0)),(17,(vI 0))],(rT v2 c4 u0 c0 c2 c3)⟩ {} [] ?_)
    refine bE h fun y hy h=> ?_
    refine aL [1] (ug p u4 u0 c0 c2 c3 c4 v2 v1 v6 u2) (uw p u4 u0 c0 c2 c3 c4 v2 v1 u2) (NE p u4 u0) hy (fun s f h=> ?_) ?_
    ·clear hy
     show bJ _ _ _ _ _ _ ((CR p u4 u0 c0 c2 c3 c4 v2 v1 v6 u2) f) _
     unfold jZ at h
     obtain⟨w0,k⟩:=s
     refine aQ (sz tT ⟨[(2,(vI u4)),(bO p),(6,(vP 80 0)),(9,(vP 105 0)),(mQ v2),(vv v1),(Qy v6),(mG u2),(16,(vI w0)),(17,(vI k)),(69,(vB (decide (k<(v6.1.length:Int)))))],(rT v2 c4 u0 c0 c2 c3)⟩ {} [] ?_)
     refine bI h (fun hb h=> ?_) (fun hb h=> ?_)
     ·refine ct hb ?_
      refine aP (aQ (aB (aO h fun a1 h=> ?_)))
      refine rg tT ⟨[(2,(vI u4)),(bO p),(6,(vP 80 0)),(9,(vP 105 0)),(mQ v2),(vv v1),(Qy v6),(mG u2),(16,(vI (IntKind.wrap .i64 (w0+((at' v6.1 k.toNat).amps))))),(17,(vI k))],(rT v2 c4 u0 c0 c2 c3)⟩ [_] {} [] ⟨a1,trivial⟩ ?_
      refine rz tT ⟨[(2,(vI u4)),(bO p),(6,(vP 80 0)),(9,(vP 105 0)),(mQ v2),(vv v1),(Qy v6),(mG u2),(16,(vI (IntKind.wrap .i64 (w0+((at' v6.1 k.toNat).amps))))),(17,(uM k))],(rT v2 c4 u0 c0 c2 c3)⟩ {} [] ?_
      obtain rfl:=oi h
      exact lN
     ·refine cf hb ?_
      refine aI (fz (ahQ u4 p v2 v1 u2 w0 c4 u0 c0 c2 c3) []) ?_
      refine aX ?_
      obtain rfl:=oi h
      exact lB
    ·clear hy
     cases y with
     |brk z=>
      obtain⟨u3,rfl⟩: ∃q,q=z:=⟨_,rfl⟩
      unfold fZ
      refine⟨_, .refl, ?_⟩
      refine aQ (sz tT ⟨[(2,(vI u4)),(bO p),(6,(vP 80 0)),(9,(vP 105 0)),(mQ v2),(vv v1),(mG u2),(16,(vI u3)),(80,(vB (decide (u3=0))))],(rT v2 c4 u0 c0 c2 c3)⟩ {} [] ?_)
      refine bI h (fun hb11 h=> ?_) (fun hb11 h=> ?_)
      ·refine ct hb11 ?_
       refine sz tT ⟨[(6,(vP 80 0)),(9,(vP 105 0))],[vF,(Gi c4),(sU u0),(sW u0),(sK u0),(tq u0),(tu u0),(tK u0),(105,some (abT u0 c4 c0 c2 c3)),(Lc c0)]⟩ {} [] ?_
       refine sz tT ⟨[(6,(vP 80 0)),(7,(vI 0))],[(80,some (abT u0 c4 c0 c2 c3)),(Gi c4),(sU u0),(sW u0),(sK u0),(tq u0),(tu u0),(tK u0),(Lc c0)]⟩ {} [] ?_
       refine aI (bG.fin (st':=⟨[(6,(vP 8 0)),(7,(vI 0))],[(0,some (aG 152 2 Event.cell c0)),(1,some (aG 4 1 ah c4)),(2,some (aG 4 1 ah u0.locked)),(3,some (aG 4 1 ah u0.badLink)),(4,some (aG 4 1 ah u0.on_)),(5,some (aG 4 1 ah u0.badSource)),(6,some (aG 4 1 ah u0.earthed)),(7,some (aG 4 1 ah u0.badBus)),(8,some (.cells 70 (abm u0 c4 c0 c2 c3)))]⟩) (cs:=[]) ⟨[],[(109,0),(97,1),(98,2),(99,3),(100,4),(101,5),(102,6),(103,7),(80,8)]⟩ [6,7] (by kernel_rfl) trivial) ?_
       refine aR ?_
       obtain rfl:=oi h
       exact lR dF (dM 0) dB (bn.mk (.inr rfl) (p:=[]) (l:=[(.agg (abm u0 c4 c0 c2 c3)),(sI 0)]) (by kernel_rfl) trivial (fC.refl _) (hN 8 ⟨rfl,trivial,trivial⟩))
      ·refine cf hb11 ?_
       refine aP (sz tT ⟨[(2,(vI u4)),(bO p),(6,(vP 80 0)),(9,(vP 105 0)),(mQ v2),(vv v1),(mG u2),(16,(vI u3)),(18,(vI (-1)))],(rT v2 c4 u0 c0 c2 c3)⟩ {} [] ?_)
       refine aQ (sz tT ⟨[(2,(vI u4)),(bO p),(6,(vP 80 0)),(9,(vP 105 0)),(mQ v2),(vv v1),(mG u2),(16,(vI u3)),(18,(vI (-1))),(19,(vI 0))],(rT v2 c4 u0 c0 c2 c3)⟩ {} [] ?_)
       refine bE h fun y2 hy h=> ?_
       refine aL [1] (uf p u4 u0 c0 c2 c3 c4 v1 u2 u3) (tO p u4 u0 c0 c2 c3 c4 u2 u3) (NE p u4 u0) hy (fun s f h=> ?_) ?_
       ·clear hy
        show bJ _ _ _ _ _ _ ((Dl p u4 u0 c0 c2 c3 c4 v1 u2 u3) f) _
        unfold iZ at h
        obtain⟨u6,v3,i⟩:=s
        refine aQ (sz tT ⟨[(2,(vI u4)),(bO p),(6,(vP 80 0)),(9,(vP 105 0)),(mQ u6),(vv v1),(mG u2),(16,(vI u3)),(18,(vI v3)),(19,(vI i)),(87,(Ph p i))],(rT u6 c4 u0 c0 c2 c3)⟩ {} [] ?_)
        refine bI h (fun hb4 h=> ?_) (fun hb4 h=> ?_)
        ·refine ct hb4 ?_
         refine aP (bE h fun y1 hy h=> ?_)
         refine GV (o:=y1) (fun zz=>match zz with|(v9,w1)=>(Y6 u4 p v9 v1 u2 u3 w1 i c4 u0 c0 c2 c3)) ?_ ?_
         ·replace h:=hy
          clear hy
          refine aB (aQ (aQ (aO h fun⟨a1,a2⟩ h=> ?_)))
          refine dg tT mX ⟨[(2,(vI u4)),(bO p),(6,(vP 80 0)),(9,(vP 105 0)),(mQ u6),(vv v1),(mG u2),(16,(vI u3)),(18,(vI v3)),(19,(vI i)),(98,(vB (!decide ((at' u2.1 i.toNat)=(at' v1 i.toNat)))))],(rT u6 c4 u0 c0 c2 c3)⟩ [_,_] {} [] ⟨a1,a2,trivial⟩ ?_
          refine bI h (fun hb3 h=> ?_) (fun hb3 h=> ?_)
          ·refine ct hb3 ?_
           refine aO h fun a1 h=> ?_
           refine ri tT ⟨(ahX u4 p u6 v1 u2 u3 v3 i),[vF,(Gi c4),(sU u0),(sW u0),(sK u0),(tq u0),(tu u0),(tK u0),(aem c4 u0 c0 c2 c3),(106,some (.arr 3 1 u6.length (au (aA .i64) (u6.set i.toNat c2)))),(Lc c0)]⟩ [_,_,aY u6.length 1 (nP (au (aA .i64) u6) i.toNat 0 [(.int .i64 c2)]) (au (aA .i64) (u6.set i.toNat c2))] {an:=[(5, .arr 0 (au (aA .i64) (u6.set i.toNat c2)))] } [] ⟨a1,(tL a1),(fU _ _ _ _ _ _ _ _ rfl (fun j hj=>(match j,hj with|0,_=>rfl))),trivial⟩ (bG.le (st':=(Wi u0 p u4 c4 c0 c2 c3 u6 i v1 u2 u3 v3)) ⟨⟨tR,tR,tR,tR,⟨_,rfl,fC.v (jw.one cW)⟩,tR,tR,tR,tR,tR,trivial⟩,(hN 9 ⟨rfl,oW,(.refl _)⟩)⟩) ?_
           refine aQ (bE h fun v4 hr_4 h=> ?_)
           refine aO h fun⟨a1,a2⟩ h=> ?_
           refine dg tT mX ⟨[(2,(vI u4)),(bO p),(6,(vP 80 0)),(9,(vP 105 0)),(10,(vO 106 true ((u6.set i.toNat c2).length))),(vv v1),(mG u2),(16,(vI u3)),(18,(vI v3)),(19,(vI i)),(20,(vI v4))],(XH u0 c4 c0 c2 c3 u6 i)⟩ [_,_,_,Fn Try.prog 119 [(.agg (k1 p)),(.agg (abI u0 c4)),(sI i),(sI (at' u2.1 i.toNat)),(sI (at' (u6.set i.toNat c2) i.toNat))] (Hy u0 c4) (vI v4) (Hy u0 c4)] {an:=[(12, .callR [97,98,99,100,101,102,103] (vI v4))] } [] ⟨a1,a2,(tL a2),(Fn.Df (frz:=[97,98,99,100,101,102,103]) (p:=[c4.length=c4.length,u0.locked.length=u0.locked.length,u0.badLink.length=u0.badLink.length,u0.on_.length=u0.on_.length,u0.badSource.length=u0.badSource.length,u0.earthed.length=u0.earthed.length,u0.badBus.length=u0.badBus.length]) (pQ p (QU u0 c4) i (at' u2.1 i.toNat) (at' (u6.set i.toNat c2) i.toNat) hr_4) (by kernel_rfl) ⟨rfl,rfl,rfl,rfl,rfl,rfl,rfl,trivial⟩ rfl),trivial⟩ ?_
           refine sg tT ⟨[(2,(vI u4)),(bO p),(6,(vP 80 0)),(9,(vP 105 0)),(10,(vO 106 true ((u6.set i.toNat c2).length))),(vv v1),(mG u2),(16,(vI u3)),(18,(vI v3)),(19,(vI i)),(20,(vI v4)),(abL v3 v4)],(XH u0 c4 c0 c2 c3 u6 i)⟩ (aa9 v3 v4) {yb:=[(2,(decide (0≤v4))),(5,(decide (v3<0)))] } [] (ae (ae ⟨rfl,(fun hg=> ⟨rfl,trivial⟩),rfl,trivial⟩)) ?_
           refine bI h (fun hb1 h=> ?_) (fun hb1 h=> ?_)
           ·refine ct hb1 ?_
            refine rz tT (Wi u0 p u4 c4 c0 c2 c3 u6 i v1 u2 u3 v4) {} [] ?_
            obtain rfl:=oi h
            exact⟨rfl,by kernel_rfl⟩
           ·refine cf hb1 ?_
            refine aI (fz (Wi u0 p u4 c4 c0 c2 c3 u6 i v1 u2 u3 v3) []) ?_
            refine aP ?_
            obtain rfl:=oi h
            exact⟨rfl,by kernel_rfl⟩
          ·refine cf hb3 ?_
           refine aP (aQ (bE h fun v5 hr_5 h=> ?_))
           refine aO h fun⟨a1,a2⟩ h=> ?_
           refine dg tT mX ⟨[(2,(vI u4)),(bO p),(6,(vP 80 0)),(9,(vP 105 0)),(mQ u6),(vv v1),(mG u2),(16,(vI u3)),(18,(vI v3)),(19,(vI i)),(20,(vI v5))],(rT u6 c4 u0 c0 c2 c3)⟩ [_,_,_,Fn Try.prog 119 (Wm u0 p c4 u6 i u2) (Hy u0 c4) (vI v5) (Hy u0 c4)] {an:=[(12, .callR [97,98,99,100,101,102,103] (vI v5))] } [] ⟨a1,a2,(tL a2),(Fn.Df (frz:=[97,98,99,100,101,102,103]) (p:=[c4.length=c4.length,u0.locked.length=u0.locked.length,u0.badLink.length=u0.badLink.length,u0.on_.length=u0.on_.length,u0.badSource.length=u0.badSource.length,u0.earthed.length=u0.earthed.length,u0.badBus.length=u0.badBus.length]) (pQ p (QU u0 c4) i (at' u2.1 i.toNat) (at' u6 i.toNat) hr_5) (by kernel_rfl) ⟨rfl,rfl,rfl,rfl,rfl,rfl,rfl,trivial⟩ rfl),trivial⟩ ?_
           refine sg tT ⟨[(2,(vI u4)),(bO p),(6,(vP 80 0)),(9,(vP 105 0)),(mQ u6),(vv v1),(mG u2),(16,(vI u3)),(18,(vI v3)),(19,(vI i)),(20,(vI v5)),(abL v3 v5)],(rT u6 c4 u0 c0 c2 c3)⟩ (aa9 v3 v5) {yb:=[(2,(decide (0≤v5))),(5,(decide (v3<0)))] } [] (ae (ae ⟨rfl,(fun hg=> ⟨rfl,trivial⟩),rfl,trivial⟩)) ?_
           refine bI h (fun hb2 h=> ?_) (fun hb2 h=> ?_)
           ·refine ct hb2 ?_
            refine rz tT (Y6 u4 p u6 v1 u2 u3 v5 i c4 u0 c0 c2 c3) {} [] ?_
            obtain rfl:=oi h
            exact⟨rfl,by kernel_rfl⟩
           ·refine cf hb2 ?_
            refine aI (fz (Y6 u4 p u6 v1 u2 u3 v3 i c4 u0 c0 c2 c3) []) ?_
            refine aP ?_
            obtain rfl:=oi h
            exact⟨rfl,by kernel_rfl⟩
         ·clear hy
          obtain⟨v9,w1⟩:=y1
          refine rz tT ⟨[(2,(vI u4)),(bO p),(6,(vP 80 0)),(9,(vP 105 0)),(mQ v9),(vv v1),(mG u2),(16,(vI u3)),(18,(vI w1)),(19,(uM i))],(rT v9 c4 u0 c0 c2 c3)⟩ {} [] ?_
          obtain rfl:=oi h
          exact lN
        ·refine cf hb4 ?_
         refine aI (fz (ajL u4 p u6 u2 u3 v3 c4 u0 c0 c2 c3) []) ?_
         refine aX ?_
         obtain rfl:=oi h
         exact lB
       ·clear hy
        cases y2 with
        |brk z=>
         obtain⟨u5,u1⟩:=z
         unfold fZ
         refine⟨_, .refl, ?_⟩
         refine sz tT ⟨[(2,(vI u4)),(bO p),(6,(vP 80 0)),(9,(vP 105 0)),(mQ u5),(DN u2),(mG u2),(16,(vI u3)),(18,(vI u1))],(rT u5 c4 u0 c0 c2 c3)⟩ {} [] ?_
         refine aQ (sz tT ⟨[(2,(vI u4)),(bO p),(6,(vP 80 0)),(9,(vP 105 0)),(mQ u5),(DN u2),(mG u2),(16,(vI u3)),(18,(vI u1)),(131,(vB (decide (u1<0))))],(rT u5 c4 u0 c0 c2 c3)⟩ {} [] ?_)
         refine bI h (fun hb10 h=> ?_) (fun hb10 h=> ?_)
         ·refine ct hb10 ?_
          refine sz tT ⟨[(6,(vP 80 0)),(7,(vI 0))],[(80,some (ai9 c4 u0 c0 c2 c3)),(Gi c4),(sU u0),(sW u0),(sK u0),(tq u0),(tu u0),(tK u0),(Lc c0)]⟩ {} [] ?_
          refine aI (bG.fin (st':=⟨[(6,(vP 8 0)),(7,(vI 0))],[(0,some (aG 152 2 Event.cell c0)),(1,some (aG 4 1 ah c4)),(2,some (aG 4 1 ah u0.locked)),(3,some (aG 4 1 ah u0.badLink)),(4,some (aG 4 1 ah u0.on_)),(5,some (aG 4 1 ah u0.badSource)),(6,some (aG 4 1 ah u0.earthed)),(7,some (aG 4 1 ah u0.badBus)),(8,some (.cells 70 (abn u0 c4 c0 c2 c3)))]⟩) (cs:=[]) ⟨[],[(109,0),(97,1),(98,2),(99,3),(100,4),(101,5),(102,6),(103,7),(80,8)]⟩ [6,7] (by kernel_rfl) trivial) ?_
          refine aR ?_
          obtain rfl:=oi h
          exact lR dF (dM 0) dB (bn.mk (.inr rfl) (p:=[]) (l:=[(.agg (abn u0 c4 c0 c2 c3)),(sI 0)]) (by kernel_rfl) trivial (fC.refl _) (hN 8 ⟨rfl,trivial,trivial⟩))
         ·refine cf hb10 ?_
          refine aP (sz tT ⟨[(2,(vI u4)),(bO p),(6,(vP 80 0)),(9,(vP 105 0)),(mQ u5),(DN u2),(mG u2),(16,(vI u3)),(IK u1 c2)],(rT u5 c4 u0 c0 c2 c3)⟩ {} [] ?_)
          refine aQ (aO h fun a1 h=> ?_)
          refine rg tT ⟨[(2,(vI u4)),(bO p),(6,(vP 80 0)),(9,(vP 105 0)),(mQ u5),(DN u2),(mG u2),(16,(vI u3)),(IK u1 c2),(21,(vI (WX u3)))],(rT u5 c4 u0 c0 c2 c3)⟩ [_] {} [] ⟨a1,trivial⟩ ?_
          refine aQ (sz tT ⟨[(2,(vI u4)),(bO p),(6,(vP 80 0)),(9,(vP 105 0)),(mQ u5),(DN u2),(mG u2),(IK u1 c2),(21,(vI (WX u3))),(146,(vB (decide ((IntKind.wrap .i64 ((WX u3)*1000))<(IntKind.wrap .i64 (u3*u3))))))],(rT u5 c4 u0 c0 c2 c3)⟩ {} [] ?_)
          refine bI h (fun hb9 h=> ?_) (fun hb9 h=> ?_)
          ·refine ct hb9 ?_
           refine rz tT ⟨[(2,(vI u4)),(bO p),(6,(vP 80 0)),(9,(vP 105 0)),(mQ u5),(DN u2),(mG u2),(IK u1 c2),(21,(vI (ajv u3)))],(rT u5 c4 u0 c0 c2 c3)⟩ {} [] ?_
           refine sz tT ⟨(TP p u4 c2 u2 u5 u1),[vF,(Gi c4),(sU u0),(sW u0),(sK u0),(tq u0),(tu u0),(tK u0),(105,some (.cells 70 [(.own 109 false c0.length),(cB false),(cI c2),(cI (Xf u1 c2 u3 c3)),(.own 97 false c4.length),(.own 98 false u0.locked.length),(.own 99 false u0.badLink.length),(.own 100 false u0.on_.length),(.own 101 false u0.badSource.length),(.own 102 false u0.earthed.length),(.own 103 false u0.badBus.length)])),(E5 u5),(Lc c0)]⟩ {} [] ?_
           refine sz tT ⟨(TP p u4 c2 u2 u5 u1),(M8 u1 c2 u5 u3 c3 c4 u0 c0)⟩ {} [] ?_
           refine sz tT ⟨(abA p u4 c2 u2 u5 u1),(M8 u1 c2 u5 u3 c3 c4 u0 c0)⟩ {} [] ?_
           refine bE h fun y3 hy h=> ?_
           refine aL [1] (tN p u4 u0 c2 c3 u2 u3 u5 u1) (tY p u4 u0 c2 c3 u2 u3 u5 u1) (NE p u4 u0) hy (fun s f h=> ?_) ?_
           ·clear hy
            show bJ _ _ _ _ _ _ ((CU p u4 u0 c2 c3 u2 u3 u5 u1) f) _
            unfold jd at h
            obtain⟨u7,u8,i1⟩:=s
            refine aQ (sz tT ⟨(abv p u4 c2 u2 u5 u1 i1),(M8 u1 c2 u5 u3 c3 u8 u0 u7)⟩ {} [] ?_)
            refine bI h (fun hb6 h=> ?_) (fun hb6 h=> ?_)
            ·refine ct hb6 ?_
             refine aP (aQ (aB (aQ (bE h fun v7 hr_6 h=> ?_))))
             refine aO h fun⟨a1,a2⟩ h=> ?_
             refine dg tT mX ⟨(abG p u4 c2 u2 u5 u1 i1 v7),(M8 u1 c2 u5 u3 c3 u8 u0 u7)⟩ [_,_,_,Fn Try.prog 119 (Wm u0 p u8 u5 i1 u2) (Hy u0 u8) (vI v7) (Hy u0 u8)] {an:=[(12, .callR [97,98,99,100,101,102,103] (vI v7))] } [] ⟨a1,a2,(tL a2),(Fn.Df (frz:=[97,98,99,100,101,102,103]) (p:=[u8.length=u8.length,u0.locked.length=u0.locked.length,u0.badLink.length=u0.badLink.length,u0.on_.length=u0.on_.length,u0.badSource.length=u0.badSource.length,u0.earthed.length=u0.earthed.length,u0.badBus.length=u0.badBus.length]) (pQ p (QU u0 u8) i1 (at' u2.1 i1.toNat) (at' u5 i1.toNat) hr_6) (by kernel_rfl) ⟨rfl,rfl,rfl,rfl,rfl,rfl,rfl,trivial⟩ rfl),trivial⟩ ?_
             refine sg tT ⟨(abJ p u4 c2 u2 u5 u1 i1 v7),(M8 u1 c2 u5 u3 c3 u8 u0 u7)⟩ (eqs (decide (0≤v7)) 4 []) {yb:=[(2,(decide (0≤v7)))] } [] (ae trivial) ?_
             refine bI h (fun hb5 h=> ?_) (fun hb5 h=> ?_)
             ·refine ct hb5 ?_
              refine sz tT ⟨(abl p u4 c2 u2 u5 u1 i1 u7),(M8 u1 c2 u5 u3 c3 u8 u0 u7)⟩ {} [] ?_
              refine aQ (aO h fun⟨a1,a2⟩ h=> ?_)
              refine rg tT ⟨(PG u2 u1 c2 u4 p u5 i1),[vF,(Gi u8),(sU u0),(sW u0),(sK u0),(tq u0),(tu u0),(tK u0),(abS u0 c2 c3 u3 u1 i1 u7 u8),(E5 u5),(XW c2 u1 i1 u7)]⟩ [[(DC c2 u1 i1)].length=1,aY 1 2 (wF 2 [(.int .i64 (if u1<c2 then c2 else u1)),(.int .i64 i1)]) (M4 c2 u1 i1),u7.length=u7.length,_,_,(Jy c2 u1 i1 u7).length=u7.length+[(DC c2 u1 i1)].length,aY (u7.length+[(DC c2 u1 i1)].length) 2 (wE (au Event.cell u7) u7.length (M4 c2 u1 i1)) (TW c2 u1 i1 u7)] {an:=[(4, .arr [(DC c2 u1 i1)].length (M4 c2 u1 i1)),(5, .arr (Jy c2 u1 i1 u7).length (TW c2 u1 i1 u7))],fr:=[(4,162),(5,163)] } [] ⟨(rfl),((by intro i hi j hj;match i,j,hi,hj with|0,0,_,_=>rfl|0,1,_,_=>rfl)),rfl,a1,a2,(List.length_append),(dz _ _ _ _),trivial⟩ ?_
              refine aO h fun a1 h=> ?_
              refine ri tT ⟨(PG u2 u1 c2 u4 p u5 i1),[vF,(97,some (.arr 4 1 u8.length (MU i1 u8))),(sU u0),(sW u0),(sK u0),(tq u0),(tu u0),(tK u0),(abS u0 c2 c3 u3 u1 i1 u7 u8),(E5 u5),(XW c2 u1 i1 u7)]⟩ [_,_,aY u8.length 1 (nP (au ah u8) i1.toNat 0 [(.bool false)]) (MU i1 u8)] {an:=[(5, .arr 0 (MU i1 u8))] } [] ⟨a1,(tL a1),(fU _ _ _ _ _ _ _ _ rfl (fun j hj=>(match j,hj with|0,_=>rfl))),trivial⟩ (bG.le (st':=⟨(PG u2 u1 c2 u4 p u5 i1),(abD u0 c2 c3 u3 u5 u1 i1 u7 u8)⟩) ⟨⟨tR,tR,tR,tR,tR,tR,tR,tR,tR,trivial⟩,⟨rfl, .refl _,⟨rfl,oW,⟨rfl, .refl _,⟨rfl, .refl _,⟨rfl, .refl _,⟨rfl, .refl _,⟨rfl, .refl _,⟨rfl, .refl _,⟨rfl,fV ⟨bL.refl _,bL.refl _,bL.refl _,bL.refl _,cW,bL.refl _,bL.refl _,bL.refl _,bL.refl _,bL.refl _,bL.refl _,trivial⟩,⟨rfl, .refl _,⟨rfl, .refl _,trivial⟩⟩⟩⟩⟩⟩⟩⟩⟩⟩⟩⟩) ?_
              refine ri tT ⟨(LW p u4 c2 u2 u5 u1 i1),(abD u0 c2 c3 u3 u5 u1 i1 u7 u8)⟩ [] {} [] trivial (bG.fin (st':=⟨(LW p u4 c2 u2 u5 u1 i1),[vF,(T9 i1 u8),(sU u0),(sW u0),(sK u0),(tq u0),(tu u0),(tK u0),(105,some (.cells 70 [(.own 109 false (Mr c2 u1 i1 u7)),(cB false),(cI (if u1<c2 then c2 else u1)),(cI (Xf u1 c2 u3 c3)),(.own 97 false ((u8.set i1.toNat false).length)),(.own 98 false u0.locked.length),(.own 99 false u0.badLink.length),(.own 100 false u0.on_.length),(.own 101 false u0.badSource.length),(.own 102 false u0.earthed.length),(.own 103 false u0.badBus.length)])),(E5 u5),(109,some (TB c2 u1 i1 u7))]⟩) (cs:=[]) ⟨[],[(80,80),(97,97),(98,98),(99,99),(100,100),(101,101),(102,102),(103,103),(105,105),(106,106),(163,109)]⟩ [2,3,6,9,10,11,14,18,22] (by kernel_rfl) trivial) ?_
              obtain rfl:=oi h
              exact lN
             ·refine cf hb5 ?_
              refine aP (rz tT ⟨(LW p u4 c2 u2 u5 u1 i1),(M8 u1 c2 u5 u3 c3 u8 u0 u7)⟩ {} [] ?_)
              obtain rfl:=oi h
              exact lN
            ·refine cf hb6 ?_
             refine aI (fz (agI u4 p u5 u2 u8 u0 u7 u1 c2 c3 u3) []) ?_
             refine aX ?_
             obtain rfl:=oi h
             exact lB
           ·clear hy
            cases y3 with
            |brk z=>
             obtain⟨w2,w3⟩:=z
             unfold fZ
             refine⟨_, .refl, ?_⟩
             obtain rfl:=oi h
             exact lN
            |ret v=>
             obtain rfl:=oi h
             unfold fZ
             intro e st hn ha hR
             cases e with
             |normal=>exact absurd rfl hn
             |exit id=>simp only [vk (b:=1) ha rfl,cond_false];exact hR
             |goto l=>exact hR
             |ret=>exact hR
             |panic c=>exact hR
             |outgrown=>exact hR
          ·refine cf hb9 ?_
           refine aP (sz tT ⟨(TP p u4 c2 u2 u5 u1),[vF,(Gi c4),(sU u0),(sW u0),(sK u0),(tq u0),(tu u0),(tK u0),(105,some (.cells 70 [(.own 109 false c0.length),(cB false),(cI c2),(cI (Vl c3 u3 u1 c2)),(.own 97 false c4.length),(.own 98 false u0.locked.length),(.own 99 false u0.badLink.length),(.own 100 false u0.on_.length),(.own 101 false u0.badSource.length),(.own 102 false u0.earthed.length),(.own 103 false u0.badBus.length)])),(E5 u5),(Lc c0)]⟩ {} [] ?_)
           refine sz tT ⟨(TP p u4 c2 u2 u5 u1),(NA c3 u3 u1 c2 c4 u0 c0 u5)⟩ {} [] ?_
           refine sz tT ⟨(abA p u4 c2 u2 u5 u1),(NA c3 u3 u1 c2 c4 u0 c0 u5)⟩ {} [] ?_
           refine bE h fun y4 hy h=> ?_
           refine aL [1] (tQ p u4 u0 c2 c3 u2 u3 u5 u1) (tV p u4 u0 c2 c3 u2 u3 u5 u1) (NE p u4 u0) hy (fun s f h=> ?_) ?_
           ·clear hy
            show bJ _ _ _ _ _ _ ((Da p u4 u0 c2 c3 u2 u3 u5 u1) f) _
            unfold jb at h
            obtain⟨u9,v0,i2⟩:=s
            refine aQ (sz tT ⟨(abv p u4 c2 u2 u5 u1 i2),(NA c3 u3 u1 c2 v0 u0 u9 u5)⟩ {} [] ?_)
            refine bI h (fun hb8 h=> ?_) (fun hb8 h=> ?_)
            ·refine ct hb8 ?_
             refine aP (aQ (aB (aQ (bE h fun v8 hr_7 h=> ?_))))
             refine aO h fun⟨a1,a2⟩ h=> ?_
             refine dg tT mX ⟨(abG p u4 c2 u2 u5 u1 i2 v8),(NA c3 u3 u1 c2 v0 u0 u9 u5)⟩ [_,_,_,Fn Try.prog 119 (Wm u0 p v0 u5 i2 u2) (Hy u0 v0) (vI v8) (Hy u0 v0)] {an:=[(12, .callR [97,98,99,100,101,102,103] (vI v8))] } [] ⟨a1,a2,(tL a2),(Fn.Df (frz:=[97,98,99,100,101,102,103]) (p:=[v0.length=v0.length,u0.locked.length=u0.locked.length,u0.badLink.length=u0.badLink.length,u0.on_.length=u0.on_.length,u0.badSource.length=u0.badSource.length,u0.earthed.length=u0.earthed.length,u0.badBus.length=u0.badBus.length]) (pQ p (QU u0 v0) i2 (at' u2.1 i2.toNat) (at' u5 i2.toNat) hr_7) (by kernel_rfl) ⟨rfl,rfl,rfl,rfl,rfl,rfl,rfl,trivial⟩ rfl),trivial⟩ ?_
             refine sg tT ⟨(abJ p u4 c2 u2 u5 u1 i2 v8),(NA c3 u3 u1 c2 v0 u0 u9 u5)⟩ (eqs (decide (0≤v8)) 4 []) {yb:=[(2,(decide (0≤v8)))] } [] (ae trivial) ?_
             refine bI h (fun hb7 h=> ?_) (fun hb7 h=> ?_)
             ·refine ct hb7 ?_
              refine sz tT ⟨(abl p u4 c2 u2 u5 u1 i2 u9),(NA c3 u3 u1 c2 v0 u0 u9 u5)⟩ {} [] ?_
              refine aQ (aO h fun⟨a1,a2⟩ h=> ?_)
              refine rg tT ⟨(PG u2 u1 c2 u4 p u5 i2),[vF,(Gi v0),(sU u0),(sW u0),(sK u0),(tq u0),(tu u0),(tK u0),(abB u0 c2 c3 u3 u1 u9 i2 v0),(E5 u5),(Xh c2 u1 u9 i2)]⟩ [[(DC c2 u1 i2)].length=1,aY 1 2 (wF 2 [(.int .i64 (if u1<c2 then c2 else u1)),(.int .i64 i2)]) (M4 c2 u1 i2),u9.length=u9.length,_,_,(Jy c2 u1 i2 u9).length=u9.length+[(DC c2 u1 i2)].length,aY (u9.length+[(DC c2 u1 i2)].length) 2 (wE (au Event.cell u9) u9.length (M4 c2 u1 i2)) (TW c2 u1 i2 u9)] {an:=[(4, .arr [(DC c2 u1 i2)].length (M4 c2 u1 i2)),(5, .arr (Jy c2 u1 i2 u9).length (TW c2 u1 i2 u9))],fr:=[(4,170),(5,171)] } [] ⟨(rfl),((by intro i hi j hj;match i,j,hi,hj with|0,0,_,_=>rfl|0,1,_,_=>rfl)),rfl,a1,a2,(List.length_append),(dz _ _ _ _),trivial⟩ ?_
              refine aO h fun a1 h=> ?_
              refine ri tT ⟨(PG u2 u1 c2 u4 p u5 i2),[vF,(97,some (.arr 4 1 v0.length (MU i2 v0))),(sU u0),(sW u0),(sK u0),(tq u0),(tu u0),(tK u0),(abB u0 c2 c3 u3 u1 u9 i2 v0),(E5 u5),(Xh c2 u1 u9 i2)]⟩ [_,_,aY v0.length 1 (nP (au ah v0) i2.toNat 0 [(.bool false)]) (MU i2 v0)] {an:=[(5, .arr 0 (MU i2 v0))] } [] ⟨a1,(tL a1),(fU _ _ _ _ _ _ _ _ rfl (fun j hj=>(match j,hj with|0,_=>rfl))),trivial⟩ (bG.le (st':=⟨(PG u2 u1 c2 u4 p u5 i2),(abg u0 c2 c3 u3 u5 u1 u9 i2 v0)⟩) ⟨⟨tR,tR,tR,tR,tR,tR,tR,tR,tR,trivial⟩,⟨rfl, .refl _,⟨rfl,oW,⟨rfl, .refl _,⟨rfl, .refl _,⟨rfl, .refl _,⟨rfl, .refl _,⟨rfl, .refl _,⟨rfl, .refl _,⟨rfl,fV ⟨bL.refl _,bL.refl _,bL.refl _,bL.refl _,cW,bL.refl _,bL.refl _,bL.refl _,bL.refl _,bL.refl _,bL.refl _,trivial⟩,⟨rfl, .refl _,⟨rfl, .refl _,trivial⟩⟩⟩⟩⟩⟩⟩⟩⟩⟩⟩⟩) ?_
              refine ri tT ⟨(LW p u4 c2 u2 u5 u1 i2),(abg u0 c2 c3 u3 u5 u1 u9 i2 v0)⟩ [] {} [] trivial (bG.fin (st':=⟨(LW p u4 c2 u2 u5 u1 i2),[vF,(T9 i2 v0),(sU u0),(sW u0),(sK u0),(tq u0),(tu u0),(tK u0),(105,some (.cells 70 [(.own 109 false (Mr c2 u1 i2 u9)),(cB false),(cI (if u1<c2 then c2 else u1)),(cI (Vl c3 u3 u1 c2)),(.own 97 false ((v0.set i2.toNat false).length)),(.own 98 false u0.locked.length),(.own 99 false u0.badLink.length),(.own 100 false u0.on_.length),(.own 101 false u0.badSource.length),(.own 102 false u0.earthed.length),(.own 103 false u0.badBus.length)])),(E5 u5),(109,some (TB c2 u1 i2 u9))]⟩) (cs:=[]) ⟨[],[(80,80),(97,97),(98,98),(99,99),(100,100),(101,101),(102,102),(103,103),(105,105),(106,106),(171,109)]⟩ [2,3,6,9,10,11,14,18,22] (by kernel_rfl) trivial) ?_
              obtain rfl:=oi h
              exact lN
             ·refine cf hb7 ?_
              refine aP (rz tT ⟨(LW p u4 c2 u2 u5 u1 i2),(NA c3 u3 u1 c2 v0 u0 u9 u5)⟩ {} [] ?_)
              obtain rfl:=oi h
              exact lN
            ·refine cf hb8 ?_
             refine aI (fz ⟨(acE u4 p u5 u2),(NA c3 u3 u1 c2 v0 u0 u9 u5)⟩ []) ?_
             refine aX ?_
             obtain rfl:=oi h
             exact lB
           ·clear hy
            cases y4 with
            |brk z=>
             obtain⟨c04,c44⟩:=z
             unfold fZ
             refine⟨_, .refl, ?_⟩
             obtain rfl:=oi h
             exact lN
            |ret v=>
             obtain rfl:=oi h
             unfold fZ
             intro e st hn ha hR
             cases e with
             |normal=>exact absurd rfl hn
             |exit id=>simp only [vk (b:=1) ha rfl,cond_false];exact hR
             |goto l=>exact hR
             |ret=>exact hR
             |panic c=>exact hR
             |outgrown=>exact hR
        |ret v=>
         obtain rfl:=oi h
         unfold fZ
         intro e st hn ha hR
         cases e with
         |normal=>exact absurd rfl hn
         |exit id=>simp only [vk (b:=1) ha rfl,cond_false];exact hR
         |goto l=>exact hR
         |ret=>exact hR
         |panic c=>exact hR
         |outgrown=>exact hR
     |ret v=>
      obtain rfl:=oi h
      unfold fZ
      intro e st hn ha hR
      cases e with
      |normal=>exact absurd rfl hn
      |exit id=>simp only [vk (b:=1) ha rfl,cond_false];exact hR
      |goto l=>exact hR
      |ret=>exact hR
      |panic c=>exact hR
      |outgrown=>exact hR
   ·clear hy
    cases y5 with
    |brk z=>exact absurd h (by simp)
    |ret v=>
     obtain rfl:=oi h
     unfold fZ
     intro e st hn ha hR
     cases e with
     |normal=>exact absurd rfl hn
     |exit id=>exact hR
     |goto l=>exact hR
     |ret=>exact hR
     |panic c=>exact hR
     |outgrown=>exact hR
def qV  :((List af) × Int)→Exit→St→Prop:=
  fun r=>bn TT [.tmp 4, .tmp 5] (.gL [(sD (aC none 11 af.cell r.1)),(sI r.2)]) []
section
variable (u0:(List af))
abbrev Qa:List (Nat × Option Ob):=[(63,some (aG 70 11 af.cell u0))]
end
def wZ (p:ai) (s_:State):((List af) × Int)→St:=
  fun zz=>match zz with|(u0,b)=> ⟨[(fo p),(jU s_),(7,(vO 63 false u0.length)),(8,(vI b))],(Qa u0)⟩
def xA  :(List af)→St:=
  fun u0=> ⟨[(7,(vO 63 false u0.length))],(Qa u0)⟩
def EO (p:ai) (s_:State):(aS ((List af) × Int) (Ex (List af) ((List af) × Int)))→Exit→St→Prop:=
  LQ 0 [] (wZ p s_) xA qV
section
variable (p:ai) (s_:State) (r_:Int) (u0:(af × Int))
abbrev abo:St:=⟨[(fo p),(jU s_),(6,(vI r_)),(15,(vB (!decide (r_=0))))],[]⟩
abbrev aa8:St:=⟨[(fo p),(jU s_),(7,(vD nS))],[]⟩
abbrev aby:List DV:=[(aC none 2 Event.cell u0.1.events),(.bool u0.1.cleared),(.int .i64 u0.1.millis),(.int .i64 u0.1.energy),(aC none 1 ah u0.1.state.closed),(aC none 1 ah u0.1.state.locked),(aC none 1 ah u0.1.state.badLink),(aC none 1 ah u0.1.state.on_),(aC none 1 ah u0.1.state.badSource),(aC none 1 ah u0.1.state.earthed),(aC none 1 ah u0.1.state.badBus)]
end
theorem xE (p:ai) (s_:State) {r:((List af) × Int)} (h:fT p s_=some r):Fn Try.prog 24 (Iq s_ p) [] (.gL [(sD (aC none 11 af.cell r.1)),(sI r.2)]) []:=by
 refine fN tT Try.func24 rfl rfl fun B=> ?_
 show bJ _ _ _ _ _ _ (qV r) _
 unfold fT at h
 refine sz tT (O4 p s_) {fr:=[(0,50),(1,51)] } [50,51] ?_
 refine aQ (bE h fun r_ hr_ h=> ?_)
 have q0:=lQ p s_ hr_
 refine rg tT (aec p s_ r_) [_] {an:=[(2,cA q0 [])] } [] ⟨q0,trivial⟩ ?_
 refine aQ (sz tT (abo p s_ r_) {} [] ?_)
 refine bI h (fun hb1 h=> ?_) (fun hb1 h=> ?_)
 ·refine ct hb1 ?_
  refine sz tT (Yv r_) {} [] ?_
  refine aI (bG.le (st':=⟨[(4,(vD (aC none 11 af.cell ([]:List af)))),(5,(vI r_))],[]⟩) ⟨⟨⟨_,rfl,fC.v (jw.one (bL.d dP.nil'))⟩,tR,trivial⟩,trivial⟩) ?_
  refine aR ?_
  obtain rfl:=oi h
  exact rl [(sD (aC none 11 af.cell ([]:List af))),(sI r_)]
 ·refine cf hb1 ?_
  refine aP (sz tT (aa8 p s_) {} [] ?_)
  refine aQ (sz tT ⟨[(fo p),(jU s_),(7,(vD nS)),(8,(vI 0))],[]⟩ {} [] ?_)
  refine bE h fun y hy h=> ?_
  refine aI (.trans (bG.Ci (t:=7) (b:=100) (esz0:=0) (el0:=fun _ _=> .nilp) (E:=70) (esz:=11) (el:=au af.cell ([]:List af)) (by kernel_rfl) (by kernel_rfl)) (.trans (bG.fin (st':=⟨[(fo p),(jU s_),(7,(vO 63 false 0)),(8,(vI 0))],[(63,some (.arr 70 11 0 (au af.cell ([]:List af))))]⟩) (cs:=[]) ⟨[],[(100,63)]⟩ [2,3,7,8] (by kernel_rfl) trivial) (bG.le (st':=⟨[(fo p),(jU s_),(7,(vO 63 false (([]:List af).length))),(8,(vI 0))],[(63,some (aG 70 11 af.cell ([]:List af)))]⟩) ⟨⟨tR,tR,⟨_,rfl,fC.v (jw.one cW)⟩,tR,trivial⟩,⟨rfl,oW,trivial⟩⟩))) ?_
  refine aL [] (wZ p s_) xA qV hy (fun s f h=> ?_) ?_
  ·clear hy
   show bJ _ _ _ _ _ _ ((EO p s_) f) _
   unfold iG at h
   obtain⟨u1,b⟩:=s
   refine aQ (sz tT ⟨[(fo p),(jU s_),(7,(vO 63 false u1.length)),(8,(vI b)),(20,(vB (decide (b<p.buses))))],(Qa u1)⟩ {} [] ?_)
   refine bI h (fun hb h=> ?_) (fun hb h=> ?_)
   ·refine ct hb ?_
    refine aP (aQ (aB (aQ (bE h fun u0 hr_1 h=> ?_))))
    have q0:=rk [(0,88),(1,89),(2,90),(3,91),(4,92),(5,93),(6,94),(7,95),(8,96)] (Di p s_ b hr_1)
    refine ri tT ⟨[(fo p),(jU s_),(7,(vO 63 false u1.length)),(8,(vI b)),(9,(vP 97 0))],[(63,some (aG 70 11 af.cell u1)),(97,some (.cells 70 [(.d (aC none 2 Event.cell u0.1.events)),(cB u0.1.cleared),(cI u0.1.millis),(cI u0.1.energy),(.d (aC none 1 ah u0.1.state.closed)),(.d (aC none 1 ah u0.1.state.locked)),(.d (aC none 1 ah u0.1.state.badLink)),(.d (aC none 1 ah u0.1.state.on_)),(.d (aC none 1 ah u0.1.state.badSource)),(.d (aC none 1 ah u0.1.state.earthed)),(.d (aC none 1 ah u0.1.state.badBus))]))]⟩ [_,u0.1.events.length=u0.1.events.length,u0.1.state.closed.length=u0.1.state.closed.length,u0.1.state.locked.length=u0.1.state.locked.length,u0.1.state.badLink.length=u0.1.state.badLink.length,u0.1.state.on_.length=u0.1.state.on_.length,u0.1.state.badSource.length=u0.1.state.badSource.length,u0.1.state.earthed.length=u0.1.state.earthed.length,u0.1.state.badBus.length=u0.1.state.badBus.length] {an:=[(3,cA q0 [])],fr:=[(7,97)] } [88,89,90,91,92,93,94,95] ⟨q0,rfl,rfl,rfl,rfl,rfl,rfl,rfl,rfl,trivial⟩ (fz ⟨[(fo p),(jU s_),(7,(vO 63 false u1.length)),(8,(vI b)),(9,(vD (nN (aby u0) 0)))],(Qa u1)⟩ [97]) ?_
    refine aO h fun⟨a1,a2⟩ h=> ?_
    refine rg tT ⟨[(fo p),(jU s_),(7,(vO 99 false ((u1++[u0.1]).length))),(8,(vI b))],[(99,some (aG 70 11 af.cell (u1++[u0.1])))]⟩ [[u0.1].length=1,aY 1 11 (wF 11 (aby u0)) (au af.cell [u0.1]),u1.length=u1.length,_,_,(u1++[u0.1]).length=u1.length+[u0.1].length,aY (u1.length+[u0.1].length) 11 (wE (au af.cell u1) u1.length (au af.cell [u0.1])) (au af.cell (u1++[u0.1]))] {an:=[(2, .arr [u0.1].length (au af.cell [u0.1])),(3, .arr (u1++[u0.1]).length (au af.cell (u1++[u0.1])))],fr:=[(2,98),(3,99)] } [] ⟨(rfl),((by intro i hi j hj;match i,j,hi,hj with|0,0,_,_=>rfl|0,1,_,_=>rfl|0,2,_,_=>rfl|0,3,_,_=>rfl|0,4,_,_=>rfl|0,5,_,_=>rfl|0,6,_,_=>rfl|0,7,_,_=>rfl|0,8,_,_=>rfl|0,9,_,_=>rfl|0,10,_,_=>rfl)),rfl,a1,a2,(List.length_append),(dz _ _ _ _),trivial⟩ ?_
    refine ri tT ⟨[(fo p),(jU s_),(7,(vO 99 false ((u1++[u0.1]).length))),(Vd b)],[(99,some (aG 70 11 af.cell (u1++[u0.1])))]⟩ [] {} [] trivial (bG.fin (st':=⟨[(fo p),(jU s_),(7,(vO 63 false ((u1++[u0.1]).length))),(Vd b)],[(63,some (aG 70 11 af.cell (u1++[u0.1])))]⟩) (cs:=[]) ⟨[],[(99,63)]⟩ [2,3,7,8] (by kernel_rfl) trivial) ?_
    obtain rfl:=oi h
    exact lN
   ·refine cf hb ?_
    refine aI (fz ⟨[(7,(vO 63 false u1.length))],(Qa u1)⟩ []) ?_
    refine aX ?_
    obtain rfl:=oi h
    exact lB
  ·clear hy
   cases y with
   |brk z=>
    obtain⟨u2,rfl⟩: ∃q,q=z:=⟨_,rfl⟩
    unfold fZ
    refine⟨_, .refl, ?_⟩
    refine sg tT ⟨[(4,(vD (aC none 11 af.cell u2))),(5,(vI 0))],[]⟩ [u2.length=u2.length] {} [63] ⟨rfl,trivial⟩ ?_
    refine aR ?_
    obtain rfl:=oi h
    exact rl [(sD (aC none 11 af.cell u2)),(sI 0)]
   |ret v=>
    obtain rfl:=oi h
    unfold fZ
    intro e st hn ha hR
    cases e with
    |normal=>exact absurd rfl hn
    |exit id=>exact hR
    |goto l=>exact hR
    |ret=>exact hR
    |panic c=>exact hR
    |outgrown=>exact hR
def oH  :Bool→Exit→St→Prop:=
  fun r=>bn TT [.tmp 4] (vB r) []
section
variable (b:(List Bool))
abbrev K5:Nat × TV:=(1,(vD (aC none 1 ah b)))
end
def uh (a:(List Bool)) (b:(List Bool)):Int→St:=
  fun i=> ⟨[(NH a),(K5 b),(5,(vI i))],[]⟩
def tZ  :Unit→St:=
  fun _=> ⟨[],[]⟩
def CQ (a:(List Bool)) (b:(List Bool)):(aS Int (Ex Unit Bool))→Exit→St→Prop:=
  LQ 0 [] (uh a b) tZ oH
theorem eG (a:(List Bool)) (b:(List Bool)) {r:Bool} (h:cu a b=some r):Fn Try.prog 42 [(sD (aC none 1 ah a)),(sD (aC none 1 ah b))] [] (vB r) []:=by
 refine fN tT Try.func42 rfl rfl fun B=> ?_
 show bJ _ _ _ _ _ _ (oH r) _
 unfold cu at h
 refine sz tT ⟨[(NH a),(K5 b)],[]⟩ {} [] ?_
 refine aQ (sz tT ⟨[(NH a),(K5 b),(10,(vB (!decide ((a.length:Int)=(b.length:Int)))))],[]⟩ {} [] ?_)
 refine bI h (fun hb2 h=> ?_) (fun hb2 h=> ?_)
 ·refine ct hb2 ?_
  refine sz tT ⟨[(4,(vB false))],[]⟩ {} [] ?_
  refine aR ?_
  obtain rfl:=oi h
  exact rl [(sB false)]
 ·refine cf hb2 ?_
  refine aP (aQ (sz tT ⟨[(NH a),(K5 b),(5,(vI 0))],[]⟩ {} [] ?_))
  refine bE h fun y hy h=> ?_
  refine aL [] (uh a b) tZ oH hy (fun s f h=> ?_) ?_
  ·clear hy
   show bJ _ _ _ _ _ _ ((CQ a b) f) _
   unfold iM at h
   obtain⟨i,rfl⟩: ∃q,q=s:=⟨_,rfl⟩
   refine aQ (sz tT ⟨[(NH a),(K5 b),(5,(vI i)),(14,(vB (decide (i<(a.length:Int)))))],[]⟩ {} [] ?_)
   refine bI h (fun hb1 h=> ?_) (fun hb1 h=> ?_)
   ·refine ct hb1 ?_
    refine aP (aQ (aB (aQ (aO h fun⟨a1,a2⟩ h=> ?_))))
    refine dg tT mX ⟨[(NH a),(K5 b),(5,(vI i)),(25,(vB (!((at' a i.toNat)==(at' b i.toNat)))))],[]⟩ [_,_] {} [] ⟨a1,a2,trivial⟩ ?_
    refine bI h (fun hb h=> ?_) (fun hb h=> ?_)
    ·refine ct hb ?_
     refine sz tT ⟨[(4,(vB false))],[]⟩ {} [] ?_
     refine aR ?_
     obtain rfl:=oi h
     exact lR dF (dM 0) dB (bn.mk (.inr rfl) (p:=[]) (l:=[(sB false)]) (by kernel_rfl) trivial (fC.refl _) trivial)
    ·refine cf hb ?_
     refine aP (rz tT ⟨[(NH a),(K5 b),(WJ i)],[]⟩ {} [] ?_)
     obtain rfl:=oi h
     exact lN
   ·refine cf hb1 ?_
    refine aI (fz ⟨[],[]⟩ []) ?_
    refine aX ?_
    obtain rfl:=oi h
    exact lB
  ·clear hy
   cases y with
   |brk z=>
    unfold fZ
    refine⟨_, .refl, ?_⟩
    refine sz tT ⟨[(4,(vB true))],[]⟩ {} [] ?_
    refine aR ?_
    obtain rfl:=oi h
    exact rl [(sB true)]
   |ret v=>
    obtain rfl:=oi h
    unfold fZ
    intro e st hn ha hR
    cases e with
    |normal=>exact absurd rfl hn
    |exit id=>exact hR
    |goto l=>exact hR
    |ret=>exact hR
    |panic c=>exact hR
    |outgrown=>exact hR
def Fq  :Bool→Exit→St→Prop:=
  fun r=>bn TT [.tmp 4] (vB r) []
section
variable (r_:Bool) (u0:Bool) (u1:Bool) (u2:Bool) (u3:Bool) (u4:Bool) (u5:Bool)
abbrev M0:=(bif (k14 r_ u0 u1 u2 u3)then u4 else false)
abbrev abr:=(bif (M0 r_ u0 u1 u2 u3 u4)then u5 else false)
abbrev Mq:=(iD [(5,r_),(12,(k17 r_ u0)),(19,(k16 r_ u0 u1)),(26,(k15 r_ u0 u1 u2)),(33,(k14 r_ u0 u1 u2 u3)),(40,(M0 r_ u0 u1 u2 u3 u4))])
end
theorem Ea (a:State) (b:State) {r:Bool} (h:lu a b=some r):Fn Try.prog 20 [(.agg (Li a)),(.agg (Li b))] [] (vB r) []:=by
 refine fN tT Try.func20 rfl rfl fun B=> ?_
 show bJ _ _ _ _ _ _ (Fq r) _
 unfold lu at h
 refine sz tT ⟨[(2,(k77 a)),(jU b)],[]⟩ {fr:=[(0,2),(1,3)] } [2,3] ?_
 refine aQ (bE h fun r_ hr_ h=> ?_)
 refine bE h fun u0 hr_1 h=> ?_
 refine bE h fun u1 hr_2 h=> ?_
 refine bE h fun u2 hr_3 h=> ?_
 refine bE h fun u3 hr_4 h=> ?_
 refine bE h fun u4 hr_5 h=> ?_
 refine bE h fun u5 hr_6 h=> ?_
 have q0:=eG a.closed b.closed hr_
 refine rg tT ⟨[(4,(vB (abr r_ u0 u1 u2 u3 u4 u5)))],[]⟩ (_::(eqs r_ 5 ((gP (Mq r_ u0 u1 u2 u3 u4) [(5,true)]→All [Fn Try.prog 42 [(sD (V9 a)),(sD (V9 b))] [] (vB u0) []])::(r_=r_)::(eqs (k17 r_ u0) 5 ((gP (Mq r_ u0 u1 u2 u3 u4) [(12,true)]→All [Fn Try.prog 42 [(sD (W9 a)),(sD (W9 b))] [] (vB u1) []])::((k17 r_ u0)=(k17 r_ u0))::(eqs (k16 r_ u0 u1) 5 ((gP (Mq r_ u0 u1 u2 u3 u4) [(19,true)]→All [Fn Try.prog 42 [(sD (TL a)),(sD (TL b))] [] (vB u2) []])::(k19 r_ u0 u1)::(eqs (k15 r_ u0 u1 u2) 5 ((gP (Mq r_ u0 u1 u2 u3 u4) [(26,true)]→All [Fn Try.prog 42 [(sD (UF a)),(sD (UF b))] [] (vB u3) []])::((k15 r_ u0 u1 u2)=(k15 r_ u0 u1 u2))::(eqs (k14 r_ u0 u1 u2 u3) 5 ((gP (Mq r_ u0 u1 u2 u3 u4) [(33,true)]→All [Fn Try.prog 42 [(sD (Rh a)),(sD (Rh b))] [] (vB u4) []])::((k14 r_ u0 u1 u2 u3)=(k14 r_ u0 u1 u2 u3))::(eqs (M0 r_ u0 u1 u2 u3 u4) 5 [gP (Mq r_ u0 u1 u2 u3 u4) [(40,true)]→All [Fn Try.prog 42 [(sD (RF a)),(sD (RF b))] [] (vB u5) []],(M0 r_ u0 u1 u2 u3 u4)=(M0 r_ u0 u1 u2 u3 u4)])))))))))))) {yb:=[(5,r_),(12,(k17 r_ u0)),(19,(k16 r_ u0 u1)),(26,(k15 r_ u0 u1 u2)),(33,(k14 r_ u0 u1 u2 u3)),(40,(M0 r_ u0 u1 u2 u3 u4))],an:=[(4,cA q0 []),(10, .call [] (vB u0) []),(17, .call [] (vB u1) []),(24, .call [] (vB u2) []),(31, .call [] (vB u3) []),(38, .call [] (vB u4) []),(45, .call [] (vB u5) [])] } [] ⟨q0,(ae ⟨(fun hg=> ⟨(eG a.locked b.locked (gD hr_1 (aZ hg))),trivial⟩),rfl,(ae ⟨(fun hg=> ⟨(eG a.badLink b.badLink (gD hr_2 (aZ hg))),trivial⟩),rfl,(ae ⟨(fun hg=> ⟨(eG a.on_ b.on_ (gD hr_3 (aZ hg))),trivial⟩),rfl,(ae ⟨(fun hg=> ⟨(eG a.badSource b.badSource (gD hr_4 (aZ hg))),trivial⟩),rfl,(ae ⟨(fun hg=> ⟨(eG a.earthed b.earthed (gD hr_5 (aZ hg))),trivial⟩),rfl,(ae ⟨(fun hg=> ⟨(eG a.badBus b.badBus (gD hr_6 (aZ hg))),trivial⟩),rfl,trivial⟩)⟩)⟩)⟩)⟩)⟩)⟩ ?_
 refine aR ?_
 obtain rfl:=oi h
 exact rl [(sB (abr r_ u0 u1 u2 u3 u4 u5))]
def vz  :Bool→Exit→St→Prop:=
  fun r=>bn TT [.tmp 4] (vB r) []
section
variable (a:aj) (b:af)
abbrev KY:Nat × TV:=(2,(vD (nN [(aC none 2 Event.cell a.events),(.bool a.cleared),(.int .i64 a.millis),(.int .i64 a.energy),(aC none 1 ah a.state.closed),(aC none 1 ah a.state.locked),(aC none 1 ah a.state.badLink),(aC none 1 ah a.state.on_),(aC none 1 ah a.state.badSource),(aC none 1 ah a.state.earthed),(aC none 1 ah a.state.badBus)] 0)))
abbrev Ko:Nat × TV:=(3,(vD (nN [(aC none 2 Event.cell b.events),(.bool b.cleared),(.int .i64 b.millis),(.int .i64 b.energy),(aC none 1 ah b.state.closed),(aC none 1 ah b.state.locked),(aC none 1 ah b.state.badLink),(aC none 1 ah b.state.on_),(aC none 1 ah b.state.badSource),(aC none 1 ah b.state.earthed),(aC none 1 ah b.state.badBus)] 0)))
end
def Am (a:aj) (b:af):Int→St:=
  fun i=> ⟨[(KY a),(Ko b),(5,(vI i))],[]⟩
def Ap  :Unit→St:=
  fun _=> ⟨[],[]⟩
def IB (a:aj) (b:af):(aS Int (Ex Unit Bool))→Exit→St→Prop:=
  LQ 0 [] (Am a b) Ap vz
section
variable (a:aj) (b:af)
abbrev TK:=(!decide ((a.events.length:Int)=(b.events.length:Int)))
abbrev TN:=(bif (TK a b)then true else(!(a.cleared==b.cleared)))
abbrev TQ:=(bif (TN a b)then true else(!decide (a.millis=b.millis)))
abbrev QD:=(bif (TQ a b)then true else(!decide (a.energy=b.energy)))
end
theorem Im (a:aj) (b:af) {r:Bool} (h:nE a b=some r):Fn Try.prog 25 [(.agg [(.d (aC none 2 Event.cell a.events)),(cB a.cleared),(cI a.millis),(cI a.energy),(.d (aC none 1 ah a.state.closed)),(.d (aC none 1 ah a.state.locked)),(.d (aC none 1 ah a.state.badLink)),(.d (aC none 1 ah a.state.on_)),(.d (aC none 1 ah a.state.badSource)),(.d (aC none 1 ah a.state.earthed)),(.d (aC none 1 ah a.state.badBus))]),(.agg [(.d (aC none 2 Event.cell b.events)),(cB b.cleared),(cI b.millis),(cI b.energy),(.d (aC none 1 ah b.state.closed)),(.d (aC none 1 ah b.state.locked)),(.d (aC none 1 ah b.state.badLink)),(.d (aC none 1 ah b.state.on_)),(.d (aC none 1 ah b.state.badSource)),(.d (aC none 1 ah b.state.earthed)),(.d (aC none 1 ah b.state.badBus))])] [] (vB r) []:=by
 refine fN tT Try.func25 rfl rfl fun B=> ?_
 show bJ _ _ _ _ _ _ (vz r) _
 unfold nE at h
 refine sz tT ⟨[(KY a),(Ko b)],[]⟩ {fr:=[(0,2),(1,3)] } [2,3] ?_
 refine aQ (aQ (bE h fun r_ hr_ h=> ?_))
 refine rg tT ⟨[(KY a),(Ko b),(41,(vB (bif (QD a b)then true else(!r_))))],[]⟩ (eqs (TK a b) 6 (eqs (TN a b) 6 (eqs (TQ a b) 6 (eqs (QD a b) 5 ((gP (iD [(7,(TK a b)),(14,(TN a b)),(21,(TQ a b)),(28,(QD a b))]) [(28,false)]→All [Fn Try.prog 20 [(.agg [(.d (aC none 1 ah a.state.closed)),(.d (aC none 1 ah a.state.locked)),(.d (aC none 1 ah a.state.badLink)),(.d (aC none 1 ah a.state.on_)),(.d (aC none 1 ah a.state.badSource)),(.d (aC none 1 ah a.state.earthed)),(.d (aC none 1 ah a.state.badBus))]),(.agg [(.d (aC none 1 ah b.state.closed)),(.d (aC none 1 ah b.state.locked)),(.d (aC none 1 ah b.state.badLink)),(.d (aC none 1 ah b.state.on_)),(.d (aC none 1 ah b.state.badSource)),(.d (aC none 1 ah b.state.earthed)),(.d (aC none 1 ah b.state.badBus))])] [] (vB r_) []])::(eqs (QD a b) 2 [])))))) {yb:=[(7,(TK a b)),(14,(TN a b)),(21,(TQ a b)),(28,(QD a b))],an:=[(33, .call [] (vB r_) [])] } [] (ae (ae (ae (ae ⟨(fun hg=> ⟨(Ea a.state b.state (gD hr_ (aZ hg))),trivial⟩),(ae trivial)⟩)))) ?_
 refine bI h (fun hb2 h=> ?_) (fun hb2 h=> ?_)
 ·refine ct hb2 ?_
  refine sz tT ⟨[(4,(vB false))],[]⟩ {} [] ?_
  refine aR ?_
  obtain rfl:=oi h
  exact rl [(sB false)]
 ·refine cf hb2 ?_
  refine aP (aQ (sz tT ⟨[(KY a),(Ko b),(5,(vI 0))],[]⟩ {} [] ?_))
  refine bE h fun y hy h=> ?_
  refine aL [] (Am a b) Ap vz hy (fun s f h=> ?_) ?_
  ·clear hy
   show bJ _ _ _ _ _ _ ((IB a b) f) _
   unfold lg at h
   obtain⟨i,rfl⟩: ∃q,q=s:=⟨_,rfl⟩
   refine aQ (sz tT ⟨[(KY a),(Ko b),(5,(vI i)),(46,(vB (decide (i<(a.events.length:Int)))))],[]⟩ {} [] ?_)
   refine bI h (fun hb1 h=> ?_) (fun hb1 h=> ?_)
   ·refine ct hb1 ?_
    refine aP (aQ (aB (aQ (aO h fun⟨a1,a2⟩ h=> ?_))))
    refine dg tT mX ⟨[(KY a),(Ko b),(5,(vI i)),(59,(vB (!((decide (((at' a.events i.toNat).millis)=((at' b.events i.toNat).millis))) && ((decide (((at' a.events i.toNat).link)=((at' b.events i.toNat).link))) && true)))))],[]⟩ [_,_] {} [] ⟨a1,a2,trivial⟩ ?_
    refine bI h (fun hb h=> ?_) (fun hb h=> ?_)
    ·refine ct hb ?_
     refine sz tT ⟨[(4,(vB false))],[]⟩ {} [] ?_
     refine aR ?_
     obtain rfl:=oi h
     exact lR dF (dM 0) dB (bn.mk (.inr rfl) (p:=[]) (l:=[(sB false)]) (by kernel_rfl) trivial (fC.refl _) trivial)
    ·refine cf hb ?_
     refine aP (rz tT ⟨[(KY a),(Ko b),(WJ i)],[]⟩ {} [] ?_)
     obtain rfl:=oi h
     exact lN
   ·refine cf hb1 ?_
    refine aI (fz ⟨[],[]⟩ []) ?_
    refine aX ?_
    obtain rfl:=oi h
    exact lB
  ·clear hy
   cases y with
   |brk z=>
    unfold fZ
    refine⟨_, .refl, ?_⟩
    refine sz tT ⟨[(4,(vB true))],[]⟩ {} [] ?_
    refine aR ?_
    obtain rfl:=oi h
    exact rl [(sB true)]
   |ret v=>
    obtain rfl:=oi h
    unfold fZ
    intro e st hn ha hR
    cases e with
    |normal=>exact absurd rfl hn
    |exit id=>exact hR
    |goto l=>exact hR
    |ret=>exact hR
    |panic c=>exact hR
    |outgrown=>exact hR
def nO  :((List aj) × Int)→Exit→St→Prop:=
  fun r=>bn TT [.tmp 4, .tmp 5] (.gL [(.one (.own 0 false r.1.length)),(sI r.2)]) [(0,some (aG 36 11 aj.cell r.1))]
section
variable (u0:(List aj))
abbrev KT:Nat × TV:=(7,(vO 64 false u0.length))
abbrev JB:List (Nat × Option Ob):=[(64,some (aG 36 11 aj.cell u0))]
end
def r9 (p:ai) (s_:State):((List aj) × Int)→St:=
  fun zz=>match zz with|(u0,u1)=> ⟨[(fo p),(jU s_),(KT u0),(18,(vI p.buses)),(19,(vI u1))],(JB u0)⟩
def sF  :(List aj)→St:=
  fun u0=> ⟨[(KT u0)],(JB u0)⟩
def Cf (p:ai) (s_:State):(aS ((List aj) × Int) (Ex (List aj) ((List aj) × Int)))→Exit→St→Prop:=
  LQ 0 [] (r9 p s_) sF nO
theorem rF (p:ai) (s_:State) {r:((List aj) × Int)} (h:fO p s_=some r):Fn Try.prog 23 (Iq s_ p) [] (.gL [(.one (.own 0 false r.1.length)),(sI r.2)]) [(0,some (aG 36 11 aj.cell r.1))]:=by
 refine fN tT Try.func23 rfl rfl fun B=> ?_
 show bJ _ _ _ _ _ _ (nO r) _
 unfold fO at h
 refine sz tT (O4 p s_) {fr:=[(0,50),(1,51)] } [50,51] ?_
 refine aQ (aQ (bE h fun r_ hr_ h=> ?_))
 have q0:=gI p s_ hr_
 refine rg tT (aec p s_ r_) [_] {an:=[(2,cA q0 [])] } [] ⟨q0,trivial⟩ ?_
 refine sz tT (abo p s_ r_) {} [] ?_
 refine bI h (fun hb1 h=> ?_) (fun hb1 h=> ?_)
 ·refine ct hb1 ?_
  refine sz tT (Yv r_) {} [] ?_
  refine aI (.trans (bG.Ci (t:=4) (b:=52) (esz0:=0) (el0:=fun _ _=> .nilp) (E:=36) (esz:=11) (el:=au aj.cell ([]:List aj)) (by kernel_rfl) (by kernel_rfl)) (.trans (bG.fin (st':=⟨[(4,(vO 0 false 0)),(5,(vI r_))],[(0,some (.arr 36 11 0 (au aj.cell ([]:List aj))))]⟩) (cs:=[]) ⟨[],[(52,0)]⟩ [4,5] (by kernel_rfl) trivial) (bG.le (st':=⟨[(4,(vO 0 false (([]:List aj).length))),(5,(vI r_))],[(0,some (aG 36 11 aj.cell ([]:List aj)))]⟩) ⟨⟨⟨_,rfl,fC.v (jw.one cW)⟩,tR,trivial⟩,⟨rfl,oW,trivial⟩⟩))) ?_
  refine aR ?_
  obtain rfl:=oi h
  exact rl [(.one (.own 0 false (([]:List aj).length))),(sI r_)]
 ·refine cf hb1 ?_
  refine aP (sz tT (aa8 p s_) {} [] ?_)
  refine aQ (sz tT ⟨[(fo p),(jU s_),(7,(vD nS)),(18,(vI p.buses)),(19,(vI 0))],[]⟩ {} [] ?_)
  refine bE h fun y hy h=> ?_
  refine aI (.trans (bG.Ci (t:=7) (b:=101) (esz0:=0) (el0:=fun _ _=> .nilp) (E:=36) (esz:=11) (el:=au aj.cell ([]:List aj)) (by kernel_rfl) (by kernel_rfl)) (.trans (bG.fin (st':=⟨[(fo p),(jU s_),(7,(vO 64 false 0)),(18,(vI p.buses)),(19,(vI 0))],[(64,some (.arr 36 11 0 (au aj.cell ([]:List aj))))]⟩) (cs:=[]) ⟨[],[(101,64)]⟩ [2,3,7,18,19] (by kernel_rfl) trivial) (bG.le (st':=⟨[(fo p),(jU s_),(7,(vO 64 false (([]:List aj).length))),(18,(vI p.buses)),(19,(vI 0))],[(64,some (aG 36 11 aj.cell ([]:List aj)))]⟩) ⟨⟨tR,tR,⟨_,rfl,fC.v (jw.one cW)⟩,tR,tR,trivial⟩,⟨rfl,oW,trivial⟩⟩))) ?_
  refine aL [] (r9 p s_) sF nO hy (fun s f h=> ?_) ?_
  ·clear hy
   show bJ _ _ _ _ _ _ ((Cf p s_) f) _
   unfold iE at h
   obtain⟨u1,u2⟩:=s
   refine sz tT ⟨[(fo p),(jU s_),(KT u1),(18,(vI p.buses)),(19,(vI u2)),(20,(vB (decide (u2<p.buses))))],(JB u1)⟩ {} [] ?_
   refine aQ ?_
   refine bI h (fun hb h=> ?_) (fun hb h=> ?_)
   ·refine ct hb ?_
    refine aP (aQ (aB (sz tT ⟨[(fo p),(jU s_),(KT u1),(8,(vI u2)),(18,(vI p.buses)),(19,(vI u2))],(JB u1)⟩ {} [] ?_)))
    refine aQ (bE h fun u0 hr_1 h=> ?_)
    have q0:=rk [(0,89),(1,90),(2,91),(3,92),(4,93),(5,94),(6,95),(7,96),(8,97)] (iR p s_ u2 hr_1)
    refine ri tT ⟨[(fo p),(jU s_),(KT u1),(9,(vP 98 0)),(18,(vI p.buses)),(19,(vI u2))],[(64,some (aG 36 11 aj.cell u1)),(98,some (aaB u0))]⟩ [_,u0.1.events.length=u0.1.events.length,u0.1.state.closed.length=u0.1.state.closed.length,u0.1.state.locked.length=u0.1.state.locked.length,u0.1.state.badLink.length=u0.1.state.badLink.length,u0.1.state.on_.length=u0.1.state.on_.length,u0.1.state.badSource.length=u0.1.state.badSource.length,u0.1.state.earthed.length=u0.1.state.earthed.length,u0.1.state.badBus.length=u0.1.state.badBus.length] {an:=[(3,cA q0 [])],fr:=[(7,98)] } [89,90,91,92,93,94,95,96] ⟨q0,rfl,rfl,rfl,rfl,rfl,rfl,rfl,rfl,trivial⟩ (fz ⟨[(fo p),(jU s_),(KT u1),(9,(ab8 u0)),(18,(vI p.buses)),(19,(vI u2))],(JB u1)⟩ [98]) ?_
    refine aO h fun⟨a1,a2⟩ h=> ?_
    refine rg tT ⟨[(fo p),(jU s_),(7,(vO 100 false ((u1++[u0.1]).length))),(18,(vI p.buses)),(19,(vI u2))],[(100,some (aG 36 11 aj.cell (u1++[u0.1])))]⟩ [[u0.1].length=1,aY 1 11 (wF 11 (aiv u0)) (au aj.cell [u0.1]),u1.length=u1.length,_,_,(u1++[u0.1]).length=u1.length+[u0.1].length,aY (u1.length+[u0.1].length) 11 (wE (au aj.cell u1) u1.length (au aj.cell [u0.1])) (au aj.cell (u1++[u0.1]))] {an:=[(2, .arr [u0.1].length (au aj.cell [u0.1])),(3, .arr (u1++[u0.1]).length (au aj.cell (u1++[u0.1])))],fr:=[(2,99),(3,100)] } [] ⟨(rfl),((by intro i hi j hj;match i,j,hi,hj with|0,0,_,_=>rfl|0,1,_,_=>rfl|0,2,_,_=>rfl|0,3,_,_=>rfl|0,4,_,_=>rfl|0,5,_,_=>rfl|0,6,_,_=>rfl|0,7,_,_=>rfl|0,8,_,_=>rfl|0,9,_,_=>rfl|0,10,_,_=>rfl)),rfl,a1,a2,(List.length_append),(dz _ _ _ _),trivial⟩ ?_
    refine ri tT ⟨[(fo p),(jU s_),(7,(vO 100 false ((u1++[u0.1]).length))),(18,(vI p.buses)),(19,(uM u2))],[(100,some (aG 36 11 aj.cell (u1++[u0.1])))]⟩ [] {} [] trivial (bG.fin (st':=⟨[(fo p),(jU s_),(7,(vO 64 false ((u1++[u0.1]).length))),(18,(vI p.buses)),(19,(uM u2))],[(64,some (aG 36 11 aj.cell (u1++[u0.1])))]⟩) (cs:=[]) ⟨[],[(100,64)]⟩ [2,3,7,18,19] (by kernel_rfl) trivial) ?_
    obtain rfl:=oi h
    exact lN
   ·refine cf hb ?_
    refine aI (fz ⟨[(KT u1)],(JB u1)⟩ []) ?_
    refine aX ?_
    obtain rfl:=oi h
    exact lB
  ·clear hy
   cases y with
   |brk z=>
    obtain⟨u3,rfl⟩: ∃q,q=z:=⟨_,rfl⟩
    unfold fZ
    refine⟨_, .refl, ?_⟩
    refine sz tT ⟨[(4,(vO 64 false u3.length)),(5,(vI 0))],(JB u3)⟩ {} [] ?_
    refine aI (bG.fin (st':=⟨[(4,(vO 0 false u3.length)),(5,(vI 0))],[(0,some (aG 36 11 aj.cell u3))]⟩) (cs:=[]) ⟨[],[(64,0)]⟩ [4,5] (by kernel_rfl) trivial) ?_
    refine aR ?_
    obtain rfl:=oi h
    exact rl [(.one (.own 0 false u3.length)),(sI 0)]
   |ret v=>
    obtain rfl:=oi h
    unfold fZ
    intro e st hn ha hR
    cases e with
    |normal=>exact absurd rfl hn
    |exit id=>exact hR
    |goto l=>exact hR
    |ret=>exact hR
    |panic c=>exact hR
    |outgrown=>exact hR
def sP  :(Int × Int × Int)→Exit→St→Prop:=
  fun r=>bn TT [.tmp 4, .tmp 5, .tmp 6] (.gL [(sI r.1),(sI r.2.1),(sI r.2.2)]) []
section
variable (r_:((List aj) × Int))
abbrev G7:Nat × TV:=(22,(vO 9 false r_.1.length))
abbrev Hr:Nat × TV:=(23,(vI (r_.1.length:Int)))
abbrev Ca:List (Nat × Option Ob):=[(9,some (aG 36 11 aj.cell r_.1))]
end
def zD (r_:((List aj) × Int)):(Int × Int × Int)→St:=
  fun zz=>match zz with|(u0,u1,u2)=> ⟨[(9,(vI u0)),(10,(vI u1)),(G7 r_),(Hr r_),(24,(vI u2))],(Ca r_)⟩
def yj  :(Int × Int)→St:=
  fun zz=>match zz with|(u0,u1)=> ⟨[(9,(vI u0)),(10,(vI u1))],[]⟩
def GA (r_:((List aj) × Int)):(aS (Int × Int × Int) (Ex (Int × Int) (Int × Int × Int)))→Exit→St→Prop:=
  LQ 0 [] (zD r_) yj sP
section
variable (r_:((List aj) × Int)) (u0:Int)
abbrev Hu:=((at' r_.1 u0.toNat).state)
abbrev abN:Nat × TV:=(12,(vD (nN [(aC none 2 Event.cell ((at' r_.1 u0.toNat).events)),(.bool ((at' r_.1 u0.toNat).cleared)),(.int .i64 ((at' r_.1 u0.toNat).millis)),(.int .i64 ((at' r_.1 u0.toNat).energy)),(aC none 1 ah ((Hu r_ u0).closed)),(aC none 1 ah ((Hu r_ u0).locked)),(aC none 1 ah ((Hu r_ u0).badLink)),(aC none 1 ah ((Hu r_ u0).on_)),(aC none 1 ah ((Hu r_ u0).badSource)),(aC none 1 ah ((Hu r_ u0).earthed)),(aC none 1 ah ((Hu r_ u0).badBus))] 0)))
end
theorem FY (p:ai) (s_:State) {r:(Int × Int × Int)} (h:jN p s_=some r):Fn Try.prog 26 (Iq s_ p) [] (.gL [(sI r.1),(sI r.2.1),(sI r.2.2)]) []:=by
 refine fN tT Try.func26 rfl rfl fun B=> ?_
 show bJ _ _ _ _ _ _ (sP r) _
 unfold jN at h
 refine sz tT (O4 p s_) {fr:=[(0,7),(1,8)] } [7,8] ?_
 refine aQ (bE h fun r_ hr_ h=> ?_)
 have q0:=rk [(0,9)] (rF p s_ hr_)
 refine rg tT ⟨[(7,(vO 9 false r_.1.length)),(8,(vI r_.2))],(Ca r_)⟩ [_] {an:=[(2,cA q0 [])] } [] ⟨q0,trivial⟩ ?_
 refine aQ (sz tT ⟨[(7,(vO 9 false r_.1.length)),(8,(vI r_.2)),(20,(vB (!decide (r_.2=0))))],(Ca r_)⟩ {} [] ?_)
 refine bI h (fun hb2 h=> ?_) (fun hb2 h=> ?_)
 ·refine ct hb2 ?_
  refine sz tT ⟨[(4,(vI 0)),(5,(vI 0)),(6,(vI r_.2))],[]⟩ {} [] ?_
  refine aR ?_
  obtain rfl:=oi h
  exact rl [(sI 0),(sI 0),(sI r_.2)]
 ·refine cf hb2 ?_
  refine aP (sz tT ⟨[(7,(vO 9 false r_.1.length)),(9,(vI (-1))),(10,(vI 0))],(Ca r_)⟩ {} [] ?_)
  refine aQ (sz tT ⟨[(9,(vI (-1))),(10,(vI 0)),(G7 r_),(Hr r_),(24,(vI 0))],(Ca r_)⟩ {} [] ?_)
  refine bE h fun y hy h=> ?_
  refine aL [] (zD r_) yj sP hy (fun s f h=> ?_) ?_
  ·clear hy
   show bJ _ _ _ _ _ _ ((GA r_) f) _
   unfold gX at h
   obtain⟨u1,u2,u0⟩:=s
   refine sz tT ⟨[(9,(vI u1)),(10,(vI u2)),(G7 r_),(Hr r_),(24,(vI u0)),(25,(vB (decide (u0<(r_.1.length:Int)))))],(Ca r_)⟩ {} [] ?_
   refine aQ ?_
   refine bI h (fun hb1 h=> ?_) (fun hb1 h=> ?_)
   ·refine ct hb1 ?_
    refine aP (aQ (aB (aQ (aO h fun a1 h=> ?_))))
    refine rg tT ⟨[(9,(vI u1)),(10,(vI u2)),(11,(vI u0)),(abN r_ u0),(G7 r_),(Hr r_),(24,(vI u0))],(Ca r_)⟩ [_,_] {fr:=[(3,13)] } [13] ⟨a1,(tL a1),trivial⟩ ?_
    refine sg tT ⟨[(9,(vI u1)),(10,(vI u2)),(11,(vI u0)),(abN r_ u0),(G7 r_),(Hr r_),(24,(vI u0)),(40,(vB (bif (at' r_.1 u0.toNat).cleared then(bif (decide (u1<0))then true else(decide (u2<((at' r_.1 u0.toNat).energy))))else false)))],(Ca r_)⟩ (eqs ((at' r_.1 u0.toNat).cleared) 3 (eqs (decide (u1<0)) 4 [((at' r_.1 u0.toNat).cleared)=((at' r_.1 u0.toNat).cleared),gP (iD [(2,(at' r_.1 u0.toNat).cleared),(5,(decide (u1<0)))]) [(2,true)]→All [(decide (u1<0))=(decide (u1<0))],((at' r_.1 u0.toNat).cleared)=((at' r_.1 u0.toNat).cleared)])) {yb:=[(2,(at' r_.1 u0.toNat).cleared),(5,(decide (u1<0)))] } [] (ae (ae ⟨rfl,(fun hg=> ⟨rfl,trivial⟩),rfl,trivial⟩)) ?_
    refine bI h (fun hb h=> ?_) (fun hb h=> ?_)
    ·refine ct hb ?_
     refine dg tT mX ⟨[(9,(vI u0)),(10,(vI ((at' r_.1 u0.toNat).energy))),(G7 r_),(Hr r_),(24,(vI u0))],(Ca r_)⟩ [] {} [] trivial ?_
     refine rz tT ⟨[(9,(vI u0)),(10,(vI ((at' r_.1 u0.toNat).energy))),(G7 r_),(Hr r_),(24,(uM u0))],(Ca r_)⟩ {} [] ?_
     obtain rfl:=oi h
     exact lN
    ·refine cf hb ?_
     refine aP (rz tT ⟨[(9,(vI u1)),(10,(vI u2)),(G7 r_),(Hr r_),(24,(uM u0))],(Ca r_)⟩ {} [] ?_)
     obtain rfl:=oi h
     exact lN
   ·refine cf hb1 ?_
    refine aI (fz ⟨[(9,(vI u1)),(10,(vI u2))],[]⟩ []) ?_
    refine aX ?_
    obtain rfl:=oi h
    exact lB
  ·clear hy
   cases y with
   |brk z=>
    obtain⟨u3,u4⟩:=z
    unfold fZ
    refine⟨_, .refl, ?_⟩
    refine sz tT ⟨[(4,(vI u3)),(5,(vI u4)),(6,(vI 0))],[]⟩ {} [] ?_
    refine aR ?_
    obtain rfl:=oi h
    exact rl [(sI u3),(sI u4),(sI 0)]
   |ret v=>
    obtain rfl:=oi h
    unfold fZ
    intro e st hn ha hR
    cases e with
    |normal=>exact absurd rfl hn
    |exit id=>exact hR
    |goto l=>exact hR
    |ret=>exact hR
    |panic c=>exact hR
    |outgrown=>exact hR
def sS  :(Int × Int × Int)→Exit→St→Prop:=
  fun r=>bn TT [.tmp 4, .tmp 5, .tmp 6] (.gL [(sI r.1),(sI r.2.1),(sI r.2.2)]) []
section
variable (r_:((List af) × Int))
abbrev rE:Nat × TV:=(7,(vD (aC none 11 af.cell r_.1)))
end
def y9 (r_:((List af) × Int)):Int→St:=
  fun b=> ⟨[(rE r_),(9,(vI b))],[]⟩
def yt  :Unit→St:=
  fun _=> ⟨[],[]⟩
def qO (r_:((List af) × Int)):(aS Int (Ex Unit (Int × Int × Int)))→Exit→St→Prop:=
  LQ 0 [] (y9 r_) yt sS
def yw (r_:((List af) × Int)) (b:Int):(Bool × Int)→St:=
  fun zz=>match zz with|(u0,c)=> ⟨[(rE r_),(9,(vI b)),(10,(vB u0)),(11,(vI c))],[]⟩
def yu (r_:((List af) × Int)) (b:Int):Bool→St:=
  fun u0=> ⟨[(rE r_),(9,(vI b)),(10,(vB u0))],[]⟩
def GY (r_:((List af) × Int)) (b:Int):(aS (Bool × Int) (Ex Bool (aS Int (Ex Unit (Int × Int × Int)))))→Exit→St→Prop:=
  LQ 2 [1] (yw r_ b) (yu r_ b) (qO r_)
section
variable (r_:((List af) × Int)) (b:Int) (c:Int)
abbrev FM:=((at' r_.1 b.toNat).cleared)
abbrev DF:=(decide (((at' r_.1 b.toNat).energy)<((at' r_.1 c.toNat).energy)))
abbrev Mg:=(decide (((at' r_.1 c.toNat).energy)=((at' r_.1 b.toNat).energy)))
abbrev MX:=(iD [(5,(at' r_.1 c.toNat).cleared),(17,(DF r_ b c)),(29,(Mg r_ b c))])
end
theorem Ga (p:ai) (s_:State) {r:(Int × Int × Int)} (h:jQ p s_=some r):Fn Try.prog 27 (Iq s_ p) [] (.gL [(sI r.1),(sI r.2.1),(sI r.2.2)]) []:=by
 refine fN tT Try.func27 rfl rfl fun B=> ?_
 show bJ _ _ _ _ _ _ (sS r) _
 unfold jQ at h
 refine sz tT (O4 p s_) {fr:=[(0,2),(1,3)] } [2,3] ?_
 refine aQ (bE h fun r_ hr_ h=> ?_)
 have q0:=xE p s_ hr_
 refine rg tT ⟨[(rE r_),(8,(vI r_.2))],[]⟩ [_] {an:=[(2,cA q0 [])] } [] ⟨q0,trivial⟩ ?_
 refine aQ (sz tT ⟨[(rE r_),(8,(vI r_.2)),(19,(vB (!decide (r_.2=0))))],[]⟩ {} [] ?_)
 refine bI h (fun hb4 h=> ?_) (fun hb4 h=> ?_)
 ·refine ct hb4 ?_
  refine sz tT ⟨[(4,(vI 0)),(5,(vI 0)),(6,(vI r_.2))],[]⟩ {} [] ?_
  refine aR ?_
  obtain rfl:=oi h
  exact rl [(sI 0),(sI 0),(sI r_.2)]
 ·refine cf hb4 ?_
  refine aP (aQ (sz tT ⟨[(rE r_),(9,(vI 0))],[]⟩ {} [] ?_))
  refine bE h fun y1 hy h=> ?_
  refine aL [] (y9 r_) yt sS hy (fun s f h=> ?_) ?_
  ·clear hy
   show bJ _ _ _ _ _ _ ((qO r_) f) _
   unfold ja at h
   obtain⟨b,rfl⟩: ∃q,q=s:=⟨_,rfl⟩
   refine aQ (sz tT ⟨[(rE r_),(9,(vI b)),(24,(vB (decide (b<(r_.1.length:Int)))))],[]⟩ {} [] ?_)
   refine bI h (fun hb3 h=> ?_) (fun hb3 h=> ?_)
   ·refine ct hb3 ?_
    refine aP (aQ (aB (aQ (aO h fun a1 h=> ?_))))
    refine rg tT ⟨[(rE r_),(9,(vI b)),(10,(vB (FM r_ b)))],[]⟩ [_] {} [] ⟨a1,trivial⟩ ?_
    refine aQ (sz tT ⟨[(rE r_),(9,(vI b)),(10,(vB (FM r_ b))),(11,(vI 0))],[]⟩ {} [] ?_)
    refine bE h fun y hy h=> ?_
    refine aL [1] (yw r_ b) (yu r_ b) (qO r_) hy (fun s f h=> ?_) ?_
    ·clear hy
     show bJ _ _ _ _ _ _ ((GY r_ b) f) _
     unfold gW at h
     obtain⟨u0,c⟩:=s
     refine aQ (sz tT ⟨[(rE r_),(9,(vI b)),(10,(vB u0)),(11,(vI c)),(35,(vB (decide (c<(r_.1.length:Int)))))],[]⟩ {} [] ?_)
     refine bI h (fun hb1 h=> ?_) (fun hb1 h=> ?_)
     ·refine ct hb1 ?_
      refine aP (aQ (aB (aQ (aO h fun⟨a1,a2,a3,a4,a5⟩ h=> ?_))))
      refine dg tT mX ⟨[(rE r_),(9,(vI b)),(10,(vB u0)),(11,(vI c)),(73,(vB (bif (at' r_.1 c.toNat).cleared then(bif (DF r_ b c)then true else(bif (Mg r_ b c)then(decide (c<b))else false))else false)))],[]⟩ (_::(eqs (FM r_ c) 3 ((gP (MX r_ b c) [(5,true)]→All [(0:Int)≤c∧c<(r_.1.length:Int)])::(eqs (FM r_ c) 5 ((gP (MX r_ b c) [(5,true)]→All [(0:Int)≤b∧b<(r_.1.length:Int)])::(eqs (FM r_ c) 4 (eqs (DF r_ b c) 3 ((gP (MX r_ b c) [(17,false),(5,true)]→All [(0:Int)≤c∧c<(r_.1.length:Int)])::(eqs (DF r_ b c) 5 ((gP (MX r_ b c) [(17,false),(5,true)]→All [(0:Int)≤b∧b<(r_.1.length:Int)])::(eqs (DF r_ b c) 4 (eqs (Mg r_ b c) 3 [(DF r_ b c)=(DF r_ b c),gP (MX r_ b c) [(17,false),(5,true)]→All [(Mg r_ b c)=(Mg r_ b c)],(FM r_ c)=(FM r_ c),gP (MX r_ b c) [(5,true)]→All [(DF r_ b c)=(DF r_ b c)],(FM r_ c)=(FM r_ c)])))))))))))) {yb:=[(5,(at' r_.1 c.toNat).cleared),(17,(DF r_ b c)),(29,(Mg r_ b c))] } [] ⟨a1,(ae ⟨(fun hg=> ⟨(a2 (aZ hg)),trivial⟩),(ae ⟨(fun hg=> ⟨(a3 (aZ hg)),trivial⟩),(ae (ae ⟨(fun hg=> ⟨(a4 (aZ hg)),trivial⟩),(ae ⟨(fun hg=> ⟨(a5 (aZ hg)),trivial⟩),(ae (ae ⟨rfl,(fun hg=> ⟨rfl,trivial⟩),rfl,(fun hg=> ⟨rfl,trivial⟩),rfl,trivial⟩))⟩)⟩))⟩)⟩)⟩ ?_
      refine bI h (fun hb h=> ?_) (fun hb h=> ?_)
      ·refine ct hb ?_
       refine rz tT ⟨[(rE r_),(9,(vI b)),(10,(vB false)),(11,(vI c))],[]⟩ {} [] ?_
       refine rz tT ⟨[(rE r_),(9,(vI b)),(10,(vB false)),(11,(uM c))],[]⟩ {} [] ?_
       obtain rfl:=oi h
       exact lN
      ·refine cf hb ?_
       refine aP (rz tT ⟨[(rE r_),(9,(vI b)),(10,(vB u0)),(11,(uM c))],[]⟩ {} [] ?_)
       obtain rfl:=oi h
       exact lN
     ·refine cf hb1 ?_
      refine aI (fz ⟨[(rE r_),(9,(vI b)),(10,(vB u0))],[]⟩ []) ?_
      refine aX ?_
      obtain rfl:=oi h
      exact lB
    ·clear hy
     cases y with
     |brk z=>
      obtain⟨u1,rfl⟩: ∃q,q=z:=⟨_,rfl⟩
      unfold fZ
      refine⟨_, .refl, ?_⟩
      refine sz tT ⟨[(rE r_),(9,(vI b)),(74,(vB u1))],[]⟩ {} [] ?_
      refine bI h (fun hb2 h=> ?_) (fun hb2 h=> ?_)
      ·refine ct hb2 ?_
       refine aQ (aO h fun a1 h=> ?_)
       refine dg tT mX ⟨[(4,(vI b)),(5,(vI ((at' r_.1 b.toNat).energy))),(6,(vI 0))],[]⟩ [_] {} [] ⟨a1,trivial⟩ ?_
       refine aR ?_
       obtain rfl:=oi h
       exact lR dF (dM 0) dB (bn.mk (.inr rfl) (p:=[]) (l:=[(sI b),(sI ((at' r_.1 b.toNat).energy)),(sI 0)]) (by kernel_rfl) trivial (fC.refl _) trivial)
      ·refine cf hb2 ?_
       refine aP (rz tT ⟨[(rE r_),(9,(uM b))],[]⟩ {} [] ?_)
       obtain rfl:=oi h
       exact lN
     |ret v=>
      obtain rfl:=oi h
      unfold fZ
      intro e st hn ha hR
      cases e with
      |normal=>exact absurd rfl hn
      |exit id=>simp only [vk (b:=1) ha rfl,cond_false];exact hR
      |goto l=>exact hR
      |ret=>exact hR
      |panic c=>exact hR
      |outgrown=>exact hR
   ·refine cf hb3 ?_
    refine aI (fz ⟨[],[]⟩ []) ?_
    refine aX ?_
    obtain rfl:=oi h
    exact lB
  ·clear hy
   cases y1 with
   |brk z=>
    unfold fZ
    refine⟨_, .refl, ?_⟩
    refine sz tT ⟨[(4,(vI (-1))),(5,(vI 0)),(6,(vI 0))],[]⟩ {} [] ?_
    refine aR ?_
    obtain rfl:=oi h
    exact rl [(sI (-1)),(sI 0),(sI 0)]
   |ret v=>
    obtain rfl:=oi h
    unfold fZ
    intro e st hn ha hR
    cases e with
    |normal=>exact absurd rfl hn
    |exit id=>exact hR
    |goto l=>exact hR
    |ret=>exact hR
    |panic c=>exact hR
    |outgrown=>exact hR
def kT  :Bool→Exit→St→Prop:=
  fun r=>bn TT [.tmp 8] (vB r) []
section
variable (s_:State) (x:Link) (u1:((List aj) × Int)) (u2:((List af) × Int))
abbrev Cq:Nat × TV:=(5,(k77 s_))
abbrev yx:Nat × TV:=(6,(k33 x))
abbrev G6:Nat × TV:=(9,(vD (aC none 11 aj.cell u1.1)))
abbrev JN:Nat × TV:=(11,(vD (aC none 11 af.cell u2.1)))
end
def oL (p:ai) (s_:State) (x:Link) (u0:Int) (u1:((List aj) × Int)) (u2:((List af) × Int)):Int→St:=
  fun i=> ⟨[(3,(vI u0)),(Ib p),(Cq s_),(yx x),(G6 u1),(JN u2),(13,(vI i))],[]⟩
section
variable (u0:Int) (p:ai) (s_:State) (x:Link)
abbrev Ww:St:=⟨[(3,(vI u0)),(Ib p),(Cq s_),(yx x)],[]⟩
end
def o9 (p:ai) (s_:State) (x:Link) (u0:Int):Unit→St:=
  fun _=>(Ww u0 p s_ x)
def yY (p:ai) (s_:State) (x:Link) (u0:Int) (u1:((List aj) × Int)) (u2:((List af) × Int)):(aS Int (Ex Unit Bool))→Exit→St→Prop:=
  LQ 0 [] (oL p s_ x u0 u1 u2) (o9 p s_ x u0) kT
section
variable (u0:(Int × Int × Int)) (u1:(Int × Int × Int)) (u3:(Int × Bool)) (u4:(Int × Bool)) (u7:Bool)
abbrev TY:=(bif (decide (u0.1=u1.1))then(decide (u0.2.1=u1.2.1))else false)
abbrev Ud:=(bif (TY u0 u1)then(decide (u0.2.2=u1.2.2))else false)
abbrev TH:=(bif (Ud u0 u1)then(decide (u3.1=u4.1))else false)
abbrev JZ:=(bif (TH u0 u1 u3 u4)then(u3.2==u4.2)else false)
abbrev abR:=(bif (JZ u0 u1 u3 u4)then u7 else false)
end
theorem yN (p:ai) (s_:State) (x:Link) (u5:Int) {r:Bool} (h:iw p s_ x u5=some r):Fn Try.prog 5 [(.agg (k1 p)),(.agg (Li s_)),(.agg (k37 x)),(sI u5)] [] (vB r) []:=by
 refine fN tT Try.func5 rfl rfl fun B=> ?_
 show bJ _ _ _ _ _ _ (kT r) _
 unfold iw at h
 refine sz tT (Ww u5 p s_ x) {fr:=[(0,4),(1,5),(2,6)] } [4,5,6] ?_
 refine aQ (aQ (bE h fun r_ hr_ h=> ?_))
 have q0:=JP p hr_
 refine rg tT ⟨[(3,(vI u5)),(Ib p),(Cq s_),(yx x),(29,(vB (bif r_ then true else(decide (20<(x.trip.length:Int))))))],[]⟩ (_::(eqs r_ 5 [])) {yb:=[(2,r_)],an:=[(1,cA q0 [])] } [] ⟨q0,(ae trivial)⟩ ?_
 refine bI h (fun hb3 h=> ?_) (fun hb3 h=> ?_)
 ·refine ct hb3 ?_
  refine aQ (bE h fun u8 hr_1 h=> ?_)
  have q0:=zy hr_1
  refine rg tT ⟨[(8,(vB u8))],[]⟩ [_] {an:=[(0,cA q0 [])] } [] ⟨q0,trivial⟩ ?_
  refine aR ?_
  obtain rfl:=oi h
  exact rl [(sB u8)]
 ·refine cf hb3 ?_
  refine aP (aQ (bE h fun u2 hr_2 h=> ?_))
  have q0:=rk [(0,7)] (rF p s_ hr_2)
  refine rg tT ⟨[(3,(vI u5)),(Ib p),(Cq s_),(yx x),(G6 u2),(10,(vI u2.2))],[]⟩ [_,u2.1.length=u2.1.length] {an:=[(2,cA q0 [])] } [7] ⟨q0,rfl,trivial⟩ ?_
  refine aQ (bE h fun u6 hr_3 h=> ?_)
  have q0:=xE p s_ hr_3
  refine rg tT ⟨[(3,(vI u5)),(Ib p),(Cq s_),(yx x),(G6 u2),(10,(vI u2.2)),(JN u6),(12,(vI u6.2))],[]⟩ [_] {an:=[(2,cA q0 [])] } [] ⟨q0,trivial⟩ ?_
  refine aQ (sg tT ⟨[(3,(vI u5)),(Ib p),(Cq s_),(yx x),(G6 u2),(JN u6),(52,(vB (bif (!decide (u2.2=u6.2))then true else(!decide ((u2.1.length:Int)=(u6.1.length:Int))))))],[]⟩ (eqs (!decide (u2.2=u6.2)) 6 []) {yb:=[(3,(!decide (u2.2=u6.2)))] } [] (ae trivial) ?_)
  refine bI h (fun hb2 h=> ?_) (fun hb2 h=> ?_)
  ·refine ct hb2 ?_
   refine sz tT ⟨[(8,(vB false))],[]⟩ {} [] ?_
   refine aR ?_
   obtain rfl:=oi h
   exact rl [(sB false)]
  ·refine cf hb2 ?_
   refine aP (aQ (sz tT ⟨[(3,(vI u5)),(Ib p),(Cq s_),(yx x),(G6 u2),(JN u6),(13,(vI 0))],[]⟩ {} [] ?_))
   refine bE h fun y hy h=> ?_
   refine aL [] (oL p s_ x u5 u2 u6) (o9 p s_ x u5) kT hy (fun s f h=> ?_) ?_
   ·clear hy
    show bJ _ _ _ _ _ _ ((yY p s_ x u5 u2 u6) f) _
    unfold bY at h
    obtain⟨i,rfl⟩: ∃q,q=s:=⟨_,rfl⟩
    refine aQ (sz tT ⟨[(3,(vI u5)),(Ib p),(Cq s_),(yx x),(G6 u2),(JN u6),(13,(vI i)),(56,(vB (decide (i<(u2.1.length:Int)))))],[]⟩ {} [] ?_)
    refine bI h (fun hb1 h=> ?_) (fun hb1 h=> ?_)
    ·refine ct hb1 ?_
     refine aP (aQ (aB (aQ (bE h fun u9 hr_4 h=> ?_))))
     refine aO h fun⟨a1,a2⟩ h=> ?_
     have q2:=Im (⟨(at' u2.1 i.toNat).events,(at' u2.1 i.toNat).cleared,(at' u2.1 i.toNat).millis,(at' u2.1 i.toNat).energy,(Hu u2 i)⟩:aj) (⟨(at' u6.1 i.toNat).events,(at' u6.1 i.toNat).cleared,(at' u6.1 i.toNat).millis,(at' u6.1 i.toNat).energy,((at' u6.1 i.toNat).state)⟩:af) hr_4
     refine dg tT mX ⟨[(3,(vI u5)),(Ib p),(Cq s_),(yx x),(G6 u2),(JN u6),(13,(vI i)),(68,(vB (!u9)))],[]⟩ [_,_,_] {an:=[(8,cA q2 [])] } [] ⟨a1,a2,q2,trivial⟩ ?_
     refine bI h (fun hb h=> ?_) (fun hb h=> ?_)
     ·refine ct hb ?_
      refine sz tT ⟨[(8,(vB false))],[]⟩ {} [] ?_
      refine aR ?_
      obtain rfl:=oi h
      exact lR dF (dM 0) dB (bn.mk (.inr rfl) (p:=[]) (l:=[(sB false)]) (by kernel_rfl) trivial (fC.refl _) trivial)
     ·refine cf hb ?_
      refine aP (rz tT ⟨[(3,(vI u5)),(Ib p),(Cq s_),(yx x),(G6 u2),(JN u6),(13,(uM i))],[]⟩ {} [] ?_)
      obtain rfl:=oi h
      exact lN
    ·refine cf hb1 ?_
     refine aI (fz (Ww u5 p s_ x) []) ?_
     refine aX ?_
     obtain rfl:=oi h
     exact lB
   ·clear hy
    cases y with
    |brk z=>
     unfold fZ
     refine⟨_, .refl, ?_⟩
     refine aQ (bE h fun u0 hr_5 h=> ?_)
     have q0:=FY p s_ hr_5
     refine rg tT ⟨[(3,(vI u5)),(Ib p),(Cq s_),(yx x),(10,(vI u0.2.2)),(14,(vI u0.1)),(15,(vI u0.2.1))],[]⟩ [_] {an:=[(2,cA q0 [])] } [] ⟨q0,trivial⟩ ?_
     refine aQ (bE h fun u1 hr_6 h=> ?_)
     have q0:=Ga p s_ hr_6
     refine rg tT ⟨[(3,(vI u5)),(yx x),(10,(vI u0.2.2)),(12,(vI u1.2.2)),(14,(vI u0.1)),(15,(vI u0.2.1)),(16,(vI u1.1)),(17,(vI u1.2.1))],[]⟩ [_] {an:=[(2,cA q0 [])] } [] ⟨q0,trivial⟩ ?_
     refine aQ (bE h fun u3 hr_7 h=> ?_)
     have q0:=q8 x u5 hr_7
     refine rg tT ⟨[(3,(vI u5)),(yx x),(10,(vI u0.2.2)),(12,(vI u1.2.2)),(14,(vI u0.1)),(15,(vI u0.2.1)),(16,(vI u1.1)),(17,(vI u1.2.1)),(18,(vI u3.1)),(19,(vB u3.2))],[]⟩ [_] {an:=[(2,cA q0 [])] } [] ⟨q0,trivial⟩ ?_
     refine aQ (bE h fun u4 hr_8 h=> ?_)
     have q0:=yB x u5 hr_8
     refine rg tT ⟨[(10,(vI u0.2.2)),(12,(vI u1.2.2)),(14,(vI u0.1)),(15,(vI u0.2.1)),(16,(vI u1.1)),(17,(vI u1.2.1)),(18,(vI u3.1)),(19,(vB u3.2)),(20,(vI u4.1)),(21,(vB u4.2))],[]⟩ [_] {an:=[(2,cA q0 [])] } [] ⟨q0,trivial⟩ ?_
     refine aQ (bE h fun u7 hr_9 h=> ?_)
     refine rg tT ⟨[(8,(vB (abR u0 u1 u3 u4 u7)))],[]⟩ (eqs (decide (u0.1=u1.1)) 4 (eqs (TY u0 u1) 4 (eqs (Ud u0 u1) 4 (eqs (TH u0 u1 u3 u4) 4 [(JZ u0 u1 u3 u4)=(JZ u0 u1 u3 u4),gP (iD [(3,(decide (u0.1=u1.1))),(8,(TY u0 u1)),(13,(Ud u0 u1)),(18,(TH u0 u1 u3 u4)),(23,(JZ u0 u1 u3 u4))]) [(23,true)]→All [Fn Try.prog 13 [] [] (vB u7) []],(JZ u0 u1 u3 u4)=(JZ u0 u1 u3 u4)])))) {yb:=[(3,(decide (u0.1=u1.1))),(8,(TY u0 u1)),(13,(Ud u0 u1)),(18,(TH u0 u1 u3 u4)),(23,(JZ u0 u1 u3 u4))],an:=[(24, .call [] (vB u7) [])] } [] (ae (ae (ae (ae ⟨rfl,(fun hg=> ⟨(zy (gD hr_9 (aZ hg))),trivial⟩),rfl,trivial⟩)))) ?_
     refine aR ?_
     obtain rfl:=oi h
     exact rl [(sB (abR u0 u1 u3 u4 u7))]
    |ret v=>
     obtain rfl:=oi h
     unfold fZ
     intro e st hn ha hR
     cases e with
     |normal=>exact absurd rfl hn
     |exit id=>exact hR
     |goto l=>exact hR
     |ret=>exact hR
     |panic c=>exact hR
     |outgrown=>exact hR
end
end Sg
