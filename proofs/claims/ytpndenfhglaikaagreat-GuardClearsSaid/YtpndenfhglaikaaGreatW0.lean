import Derived.Test.YtpndenfhglaikaaGreatGm
import Derived.Test.YtpndenfhglaikaaGreatProg
set_option linter.all false
namespace Sg
open Go Go.Proofs
set_option maxRecDepth 20000
noncomputable section
noncomputable def TT:List (Nat × TI):=[(3,⟨Tryz.t3.desc,Tryz.t3.size,Tryz.t3.bytes,zl Tryz.t3,false⟩),
  (4,⟨Tryz.t4.desc,Tryz.t4.size,Tryz.t4.bytes,zl Tryz.t4,false⟩),
  (22,⟨Tryz.t22.desc,Tryz.t22.size,Tryz.t22.bytes,zl Tryz.t22,false⟩),
  (23,⟨Tryz.t23.desc,Tryz.t23.size,Tryz.t23.bytes,zl Tryz.t23,false⟩),
  (24,⟨Tryz.t24.desc,Tryz.t24.size,Tryz.t24.bytes,zl Tryz.t24,false⟩),
  (26,⟨Tryz.t25.desc,Tryz.t26.size,Tryz.t26.bytes,zl Tryz.t26,false⟩),
  (27,⟨Tryz.t27.desc,Tryz.t27.size,Tryz.t27.bytes,zl Tryz.t27,false⟩),
  (29,⟨Tryz.t28.desc,Tryz.t29.size,Tryz.t29.bytes,zl Tryz.t29,false⟩),
  (35,⟨Tryz.t35.desc,Tryz.t35.size,Tryz.t35.bytes,zl Tryz.t35,false⟩),
  (36,⟨Tryz.t36.desc,Tryz.t36.size,Tryz.t36.bytes,zl Tryz.t36,false⟩),
  (38,⟨Tryz.t37.desc,Tryz.t38.size,Tryz.t38.bytes,zl Tryz.t38,false⟩),
  (42,⟨Tryz.t42.desc,Tryz.t42.size,Tryz.t42.bytes,zl Tryz.t42,false⟩),
  (44,⟨Tryz.t43.desc,Tryz.t44.size,Tryz.t44.bytes,zl Tryz.t44,false⟩),
  (58,⟨Tryz.t3.desc,Tryz.t58.size,Tryz.t58.bytes,zl Tryz.t58,false⟩),
  (60,⟨Tryz.t59.desc,Tryz.t60.size,Tryz.t60.bytes,zl Tryz.t60,true⟩),
  (61,⟨Tryz.t3.desc,Tryz.t61.size,Tryz.t61.bytes,zl Tryz.t61,false⟩),
  (63,⟨Tryz.t62.desc,Tryz.t63.size,Tryz.t63.bytes,zl Tryz.t63,true⟩),
  (64,⟨Tryz.t64.desc,Tryz.t64.size,Tryz.t64.bytes,zl Tryz.t64,false⟩),
  (66,⟨Tryz.t65.desc,Tryz.t66.size,Tryz.t66.bytes,zl Tryz.t66,false⟩),
  (69,⟨Tryz.t69.desc,Tryz.t69.size,Tryz.t69.bytes,zl Tryz.t69,true⟩),
  (71,⟨Tryz.t70.desc,Tryz.t71.size,Tryz.t71.bytes,zl Tryz.t71,true⟩),
  (87,⟨Tryz.t86.desc,Tryz.t87.size,Tryz.t87.bytes,zl Tryz.t87,true⟩),
  (93,⟨Tryz.t93.desc,Tryz.t93.size,Tryz.t93.bytes,zl Tryz.t93,false⟩),
  (94,⟨Tryz.t94.desc,Tryz.t94.size,Tryz.t94.bytes,zl Tryz.t94,false⟩),
  (96,⟨Tryz.t95.desc,Tryz.t96.size,Tryz.t96.bytes,zl Tryz.t96,false⟩),
  (98,⟨Tryz.t98.desc,Tryz.t98.size,Tryz.t98.bytes,zl Tryz.t98,false⟩),
  (103,⟨Tryz.t102.desc,Tryz.t103.size,Tryz.t103.bytes,zl Tryz.t103,false⟩),
  (105,⟨Tryz.t86.desc,Tryz.t105.size,Tryz.t105.bytes,zl Tryz.t105,true⟩),
  (110,⟨Tryz.t3.desc,Tryz.t110.size,Tryz.t110.bytes,zl Tryz.t110,false⟩),
  (112,⟨Tryz.t111.desc,Tryz.t112.size,Tryz.t112.bytes,zl Tryz.t112,true⟩),
  (113,⟨Tryz.t113.desc,Tryz.t113.size,Tryz.t113.bytes,zl Tryz.t113,false⟩),
  (116,⟨Tryz.t116.desc,Tryz.t116.size,Tryz.t116.bytes,zl Tryz.t116,true⟩),
  (141,⟨Tryz.t141.desc,Tryz.t141.size,Tryz.t141.bytes,zl Tryz.t141,false⟩),
  (142,⟨Tryz.t102.desc,Tryz.t142.size,Tryz.t142.bytes,zl Tryz.t142,false⟩),
  (167,⟨Tryz.t167.desc,Tryz.t167.size,Tryz.t167.bytes,zl Tryz.t167,false⟩),
  (168,⟨Tryz.t168.desc,Tryz.t168.size,Tryz.t168.bytes,zl Tryz.t168,false⟩),
  (182,⟨Tryz.t181.desc,Tryz.t182.size,Tryz.t182.bytes,zl Tryz.t182,false⟩),
  (183,⟨Tryz.t183.desc,Tryz.t183.size,Tryz.t183.bytes,zl Tryz.t183,false⟩),
  (198,⟨Tryz.t198.desc,Tryz.t198.size,Tryz.t198.bytes,zl Tryz.t198,false⟩),
  (201,⟨Tryz.t201.desc,Tryz.t201.size,Tryz.t201.bytes,zl Tryz.t201,false⟩),
  (204,⟨Tryz.t204.desc,Tryz.t204.size,Tryz.t204.bytes,zl Tryz.t204,false⟩),
  (207,⟨Tryz.t207.desc,Tryz.t207.size,Tryz.t207.bytes,zl Tryz.t207,false⟩),
  (208,⟨Tryz.t208.desc,Tryz.t208.size,Tryz.t208.bytes,zl Tryz.t208,false⟩),
  (211,⟨Tryz.t210.desc,Tryz.t211.size,Tryz.t211.bytes,zl Tryz.t211,false⟩),
  (219,⟨Tryz.t219.desc,Tryz.t219.size,Tryz.t219.bytes,zl Tryz.t219,true⟩),
  (233,⟨Tryz.t233.desc,Tryz.t233.size,Tryz.t233.bytes,zl Tryz.t233,false⟩),
  (234,⟨Tryz.t234.desc,Tryz.t234.size,Tryz.t234.bytes,zl Tryz.t234,false⟩),
  (236,⟨Tryz.t235.desc,Tryz.t236.size,Tryz.t236.bytes,zl Tryz.t236,false⟩)]
theorem tT:vo Tryz.prog TT:=⟨jJ (by kernel_rfl) (by kernel_rfl) (by kernel_rfl),⟨mr,eD (by kernel_rfl)⟩,jJ (by kernel_rfl) (by kernel_rfl) (by kernel_rfl),⟨mr,eD (by kernel_rfl)⟩,jJ (by kernel_rfl) (by kernel_rfl) (by kernel_rfl),⟨mr,eD (by kernel_rfl)⟩,jJ (by kernel_rfl) (by kernel_rfl) (by kernel_rfl),⟨mr,eD (by kernel_rfl)⟩,jJ (by kernel_rfl) (by kernel_rfl) (by kernel_rfl),⟨mr,eD (by kernel_rfl)⟩,jJ (by kernel_rfl) (by kernel_rfl) (by kernel_rfl),⟨mr,eD (by kernel_rfl)⟩,jJ (by kernel_rfl) (by kernel_rfl) (by kernel_rfl),⟨mr,eD (by kernel_rfl)⟩,jJ (by kernel_rfl) (by kernel_rfl) (by kernel_rfl),⟨mr,eD (by kernel_rfl)⟩,jJ (by kernel_rfl) (by kernel_rfl) (by kernel_rfl),⟨mr,eD (by kernel_rfl)⟩,jJ (by kernel_rfl) (by kernel_rfl) (by kernel_rfl),⟨mr,eD (by kernel_rfl)⟩,jJ (by kernel_rfl) (by kernel_rfl) (by kernel_rfl),⟨mr,eD (by kernel_rfl)⟩,jJ (by kernel_rfl) (by kernel_rfl) (by kernel_rfl),⟨mr,eD (by kernel_rfl)⟩,jJ (by kernel_rfl) (by kernel_rfl) (by kernel_rfl),⟨mr,eD (by kernel_rfl)⟩,jJ (by kernel_rfl) (by kernel_rfl) (by kernel_rfl),⟨mr,eD (by kernel_rfl)⟩,jJ (by kernel_rfl) (by kernel_rfl) (by kernel_rfl),⟨fun _=> ⟨by kernel_rfl,by kernel_rfl⟩,eD (by kernel_rfl)⟩,jJ (by kernel_rfl) (by kernel_rfl) (by kernel_rfl),⟨mr,eD (by kernel_rfl)⟩,jJ (by kernel_rfl) (by kernel_rfl) (by kernel_rfl),⟨fun _=> ⟨by kernel_rfl,by kernel_rfl⟩,eD (by kernel_rfl)⟩,jJ (by kernel_rfl) (by kernel_rfl) (by kernel_rfl),⟨mr,eD (by kernel_rfl)⟩,jJ (by kernel_rfl) (by kernel_rfl) (by kernel_rfl),⟨mr,eD (by kernel_rfl)⟩,jJ (by kernel_rfl) (by kernel_rfl) (by kernel_rfl),⟨fun _=> ⟨by kernel_rfl,by kernel_rfl⟩,eD (by kernel_rfl)⟩,jJ (by kernel_rfl) (by kernel_rfl) (by kernel_rfl),⟨fun _=> ⟨by kernel_rfl,by kernel_rfl⟩,eD (by kernel_rfl)⟩,jJ (by kernel_rfl) (by kernel_rfl) (by kernel_rfl),⟨fun _=> ⟨by kernel_rfl,by kernel_rfl⟩,eD (by kernel_rfl)⟩,jJ (by kernel_rfl) (by kernel_rfl) (by kernel_rfl),⟨mr,eD (by kernel_rfl)⟩,jJ (by kernel_rfl) (by kernel_rfl) (by kernel_rfl),⟨mr,eD (by kernel_rfl)⟩,jJ (by kernel_rfl) (by kernel_rfl) (by kernel_rfl),⟨mr,eD (by kernel_rfl)⟩,jJ (by kernel_rfl) (by kernel_rfl) (by kernel_rfl),⟨mr,eD (by kernel_rfl)⟩,jJ (by kernel_rfl) (by kernel_rfl) (by kernel_rfl),⟨mr,eD (by kernel_rfl)⟩,jJ (by kernel_rfl) (by kernel_rfl) (by kernel_rfl),⟨fun _=> ⟨by kernel_rfl,by kernel_rfl⟩,eD (by kernel_rfl)⟩,jJ (by kernel_rfl) (by kernel_rfl) (by kernel_rfl),⟨mr,eD (by kernel_rfl)⟩,jJ (by kernel_rfl) (by kernel_rfl) (by kernel_rfl),⟨fun _=> ⟨by kernel_rfl,by kernel_rfl⟩,eD (by kernel_rfl)⟩,jJ (by kernel_rfl) (by kernel_rfl) (by kernel_rfl),⟨mr,eD (by kernel_rfl)⟩,jJ (by kernel_rfl) (by kernel_rfl) (by kernel_rfl),⟨fun _=> ⟨by kernel_rfl,by kernel_rfl⟩,eD (by kernel_rfl)⟩,jJ (by kernel_rfl) (by kernel_rfl) (by kernel_rfl),⟨mr,eD (by kernel_rfl)⟩,jJ (by kernel_rfl) (by kernel_rfl) (by kernel_rfl),⟨mr,eD (by kernel_rfl)⟩,jJ (by kernel_rfl) (by kernel_rfl) (by kernel_rfl),⟨mr,eD (by kernel_rfl)⟩,jJ (by kernel_rfl) (by kernel_rfl) (by kernel_rfl),⟨mr,eD (by kernel_rfl)⟩,jJ (by kernel_rfl) (by kernel_rfl) (by kernel_rfl),⟨mr,eD (by kernel_rfl)⟩,jJ (by kernel_rfl) (by kernel_rfl) (by kernel_rfl),⟨mr,eD (by kernel_rfl)⟩,jJ (by kernel_rfl) (by kernel_rfl) (by kernel_rfl),⟨mr,eD (by kernel_rfl)⟩,jJ (by kernel_rfl) (by kernel_rfl) (by kernel_rfl),⟨mr,eD (by kernel_rfl)⟩,jJ (by kernel_rfl) (by kernel_rfl) (by kernel_rfl),⟨mr,eD (by kernel_rfl)⟩,jJ (by kernel_rfl) (by kernel_rfl) (by kernel_rfl),⟨mr,eD (by kernel_rfl)⟩,jJ (by kernel_rfl) (by kernel_rfl) (by kernel_rfl),⟨mr,eD (by kernel_rfl)⟩,jJ (by kernel_rfl) (by kernel_rfl) (by kernel_rfl),⟨mr,eD (by kernel_rfl)⟩,jJ (by kernel_rfl) (by kernel_rfl) (by kernel_rfl),⟨fun _=> ⟨by kernel_rfl,by kernel_rfl⟩,eD (by kernel_rfl)⟩,jJ (by kernel_rfl) (by kernel_rfl) (by kernel_rfl),⟨mr,eD (by kernel_rfl)⟩,jJ (by kernel_rfl) (by kernel_rfl) (by kernel_rfl),⟨mr,eD (by kernel_rfl)⟩,jJ (by kernel_rfl) (by kernel_rfl) (by kernel_rfl),⟨mr,eD (by kernel_rfl)⟩,trivial⟩
theorem mX:Tryz.prog.follows .mixedOrders=true:=by kernel_rfl
def xE  :Bool→Exit→St→Prop:=
  fun r=>aW TT [.tmp 4] (vB r) []
section
variable (x:Link)
abbrev k2:List CV:=[(cI x.a),(cI x.b),(cI x.kind),(cI x.most),(cI x.bK),(.d (aD none 2 bP.cell x.trip))]
abbrev k1:Ob:=(.cells 66 (k2 x))
abbrev k0:List (Nat × Option Ob):=[(7,some (k1 x))]
end
def Cv (x:Link):Int→St:=
  fun i=> ⟨[(3,(vP 7 0)),(5,(vI i))],(k0 x)⟩
def Cn  :Unit→St:=
  fun _=> ⟨[],[]⟩
def Ko (x:Link):(aM Int (Ex Unit Bool))→Exit→St→Prop:=
  LQ 0 [] (Cv x) Cn xE
section
variable (p:ah) (x:Link) (i:Int)
abbrev k4:DV:=(aD none 5 Source.cell p.sources)
abbrev k5:DV:=(aD none 6 Link.cell p.links)
abbrev k6:DV:=(aD none 4 aJ.cell p.racks)
abbrev k3:List CV:=[(cI p.buses),(.d (k4 p)),(.d (k5 p)),(.d (k6 p))]
abbrev k9:DV:=(oL [(.int .i64 p.buses),(k4 p),(k5 p),(k6 p)] 0)
abbrev k8:TV:=(vD (k9 p))
abbrev k7:Nat × TV:=(2,(k8 p))
abbrev k18:=(bif (decide (x.a<0))then true else(decide (p.buses≤x.a)))
abbrev k17:=(bif (k18 p x)then true else(decide (x.b<0)))
abbrev k16:=(bif (k17 p x)then true else(decide (p.buses≤x.b)))
abbrev k15:=(bif (k16 p x)then true else(decide (x.a=x.b)))
abbrev k14:=(bif (k15 p x)then true else(decide (x.kind<1)))
abbrev k13:=(bif (k14 p x)then true else(decide (3<x.kind)))
abbrev k12:=(bif (k13 p x)then true else(decide (x.most<1)))
abbrev k11:=(bif (k12 p x)then true else(decide (100000<x.most)))
abbrev k10:=(bif (k11 p x)then true else(decide (x.bK<10)))
abbrev k19:=(decide (6<(x.trip.length:Int)))
abbrev k20:=(decide (0<(x.trip.length:Int)))
abbrev k23:=((at' x.trip i.toNat).millis)
abbrev k22:TV:=(vD (oL [(.int .i64 ((at' x.trip i.toNat).amps)),(.int .i64 (k23 x i))] 0))
abbrev k21:Nat × TV:=(6,(k22 x i))
abbrev k25:=(bif (decide (((at' x.trip i.toNat).amps)<1))then true else(decide (1000000<((at' x.trip i.toNat).amps))))
abbrev k24:=(bif (k25 x i)then true else(decide ((k23 x i)<1)))
abbrev k28:=(IntKind.wrap .i64 (i - 1))
abbrev k27:=(decide (((at' x.trip i.toNat).amps)≤((at' x.trip ((k28 i).toNat)).amps)))
abbrev k26:=(bif (decide (0<i))then(bif (k27 x i)then true else(decide (((at' x.trip ((k28 i).toNat)).millis)≤(k23 x i))))else false)
abbrev k29:=(ic [(2,(decide (0<i))),(13,(k27 x i))])
abbrev Am:TV:=(vI (IntKind.wrap .i64 (i+1)))
abbrev k30:Nat × TV:=(5,(Am i))
end
theorem Kr (p:ah) (x:Link) {r:Bool} (h:rM p x=some r):Fn Tryz.prog 81 [(.agg (k3 p)),(.agg (k2 x))] [] (vB r) []:=by
 refine fN tT Tryz.func81 rfl rfl fun B=> ?_
 show bG _ _ _ _ _ _ (xE r) _
 unfold rM at h
 refine sz tT ⟨[(k7 p),(3,(vP 7 0))],(k0 x)⟩ {fr:=[(0,6),(1,7)] } [6] ?_
 refine aQ (sg tT ⟨[(3,(vP 7 0)),(65,(vB (bif (k10 p x)then true else(decide (100000<x.bK)))))],(k0 x)⟩ (eqs (decide (x.a<0)) 6 (eqs (k18 p x) 4 (eqs (k17 p x) 6 (eqs (k16 p x) 6 (eqs (k15 p x) 4 (eqs (k14 p x) 4 (eqs (k13 p x) 4 (eqs (k12 p x) 4 (eqs (k11 p x) 4 (eqs (k10 p x) 4 [])))))))))) {yb:=[(3,(decide (x.a<0))),(10,(k18 p x)),(15,(k17 p x)),(22,(k16 p x)),(29,(k15 p x)),(34,(k14 p x)),(39,(k13 p x)),(44,(k12 p x)),(49,(k11 p x)),(54,(k10 p x))] } [] (ae (ae (ae (ae (ae (ae (ae (ae (ae (ae trivial)))))))))) ?_)
 refine bI h (fun hb4 h=> ?_) (fun hb4 h=> ?_)
 ·refine ct hb4 ?_
  refine sz tT ⟨[(4,(vB false))],[]⟩ {} [] ?_
  refine aR ?_
  obtain rfl:=oi h
  exact rl [(sB false)]
 ·refine cf hb4 ?_
  refine aP (aQ (sg tT ⟨[(3,(vP 7 0)),(80,(vB (bif (k19 x)then true else(bif (k20 x)then(!decide (x.kind=3))else false))))],(k0 x)⟩ (eqs (k19 x) 5 (eqs (k20 x) 3 [(k19 x)=(k19 x),gP (ic [(4,(k19 x)),(9,(k20 x))]) [(4,false)]→All [(k20 x)=(k20 x)],(k19 x)=(k19 x)])) {yb:=[(4,(k19 x)),(9,(k20 x))] } [] (ae (ae ⟨rfl,(fun hg=> ⟨rfl,trivial⟩),rfl,trivial⟩)) ?_))
  refine bI h (fun hb3 h=> ?_) (fun hb3 h=> ?_)
  ·refine ct hb3 ?_
   refine sz tT ⟨[(4,(vB false))],[]⟩ {} [] ?_
   refine aR ?_
   obtain rfl:=oi h
   exact rl [(sB false)]
  ·refine cf hb3 ?_
   refine aP (aQ (sz tT ⟨[(3,(vP 7 0)),(5,(vI 0))],(k0 x)⟩ {} [] ?_))
   refine bE h fun y hy h=> ?_
   refine aL [] (Cv x) Cn xE hy (fun s f h=> ?_) ?_
   ·clear hy
    show bG _ _ _ _ _ _ ((Ko x) f) _
    unfold mJ at h
    obtain⟨i,rfl⟩: ∃q,q=s:=⟨_,rfl⟩
    refine aQ (sz tT ⟨[(3,(vP 7 0)),(5,(vI i)),(85,(vB (decide (i<(x.trip.length:Int)))))],(k0 x)⟩ {} [] ?_)
    refine bI h (fun hb2 h=> ?_) (fun hb2 h=> ?_)
    ·refine ct hb2 ?_
     refine aP (aQ (aB (aQ (aO h fun a1 h=> ?_))))
     refine rg tT ⟨[(3,(vP 7 0)),(5,(vI i)),(k21 x i)],(k0 x)⟩ [_] {fr:=[(5,11)] } [11] ⟨a1,trivial⟩ ?_
     refine aQ (sg tT ⟨[(3,(vP 7 0)),(5,(vI i)),(k21 x i),(110,(vB (bif (k24 x i)then true else(decide (100000<(k23 x i))))))],(k0 x)⟩ (eqs (decide (((at' x.trip i.toNat).amps)<1)) 4 (eqs (k25 x i) 4 (eqs (k24 x i) 4 []))) {yb:=[(3,(decide (((at' x.trip i.toNat).amps)<1))),(8,(k25 x i)),(13,(k24 x i))] } [] (ae (ae (ae trivial))) ?_)
     refine bI h (fun hb1 h=> ?_) (fun hb1 h=> ?_)
     ·refine ct hb1 ?_
      refine sz tT ⟨[(4,(vB false))],[]⟩ {} [] ?_
      refine aR ?_
      obtain rfl:=oi h
      exact lR bY (dm 0) bZ (aW.mk (.inr rfl) (p:=[]) (l:=[(sB false)]) (by kernel_rfl) trivial (fe.refl _) trivial)
     ·refine cf hb1 ?_
      refine aP (aQ (aO h fun⟨a1,a2⟩ h=> ?_))
      refine dg tT mX ⟨[(3,(vP 7 0)),(5,(vI i)),(136,(vB (k26 x i)))],(k0 x)⟩ (eqs (decide (0<i)) 5 ((gP (k29 x i) [(2,true)]→All [(0:Int)≤(k28 i)∧(k28 i)<(x.trip.length:Int)])::(eqs (decide (0<i)) 6 (eqs (k27 x i) 5 ((gP (k29 x i) [(13,false),(2,true)]→All [(0:Int)≤(k28 i)∧(k28 i)<(x.trip.length:Int)])::(eqs (k27 x i) 5 [(decide (0<i))=(decide (0<i)),gP (k29 x i) [(2,true)]→All [(k27 x i)=(k27 x i)],(decide (0<i))=(decide (0<i))])))))) {yb:=[(2,(decide (0<i))),(13,(k27 x i))] } [] (ae ⟨(fun hg=> ⟨(a1 (aU hg)),trivial⟩),(ae (ae ⟨(fun hg=> ⟨(a2 (aU hg)),trivial⟩),(ae ⟨rfl,(fun hg=> ⟨rfl,trivial⟩),rfl,trivial⟩)⟩))⟩) ?_
      refine bI h (fun hb h=> ?_) (fun hb h=> ?_)
      ·refine ct hb ?_
       refine sz tT ⟨[(4,(vB false))],[]⟩ {} [] ?_
       refine aR ?_
       obtain rfl:=oi h
       exact lR bY (dm 0) bZ (aW.mk (.inr rfl) (p:=[]) (l:=[(sB false)]) (by kernel_rfl) trivial (fe.refl _) trivial)
      ·refine cf hb ?_
       refine aP (rz tT ⟨[(3,(vP 7 0)),(k30 i)],(k0 x)⟩ {} [] ?_)
       obtain rfl:=oi h
       exact lN
    ·refine cf hb2 ?_
     refine aI (fz ⟨[],[]⟩ []) ?_
     refine aX ?_
     obtain rfl:=oi h
     exact lB
   ·clear hy
    cases y with
    |brk z=>
     unfold fE
     refine⟨_, .refl, ?_⟩
     refine sz tT ⟨[(4,(vB true))],[]⟩ {} [] ?_
     refine aR ?_
     obtain rfl:=oi h
     exact rl [(sB true)]
    |ret v=>
     obtain rfl:=oi h
     unfold fE
     intro e st hn ha hR
     cases e with
     |normal=>exact absurd rfl hn
     |exit id=>exact hR
     |goto l=>exact hR
     |ret=>exact hR
     |panic c=>exact hR
     |outgrown=>exact hR
def je  :Int→Exit→St→Prop:=
  fun r=>aW TT [.tmp 2] (vI r) []
section
variable (p:ah)
abbrev Xh:Ob:=(.cells 26 (k3 p))
abbrev JA:List (Nat × Option Ob):=[(9,some (Xh p))]
end
def Ay (p:ah):Int→St:=
  fun i=> ⟨[(1,(vP 9 0)),(3,(vI i))],(JA p)⟩
section
variable (p:ah)
abbrev k34:St:=⟨[(1,(vP 9 0))],(JA p)⟩
end
def Ak (p:ah):Unit→St:=
  fun _=>(k34 p)
def JO (p:ah):(aM Int (Ex Unit Int))→Exit→St→Prop:=
  LQ 0 [] (Ay p) (Ak p) je
def Ap (p:ah):Int→St:=
  fun i1=> ⟨[(1,(vP 9 0)),(5,(vI i1))],(JA p)⟩
def AJ (p:ah):Unit→St:=
  fun _=>(k34 p)
def Jt (p:ah):(aM Int (Ex Unit Int))→Exit→St→Prop:=
  LQ 2 [] (Ap p) (AJ p) je
def AP (p:ah):Int→St:=
  fun i2=> ⟨[(1,(vP 9 0)),(6,(vI i2))],(JA p)⟩
def Au  :Unit→St:=
  fun _=> ⟨[],[]⟩
def I4 (p:ah):(aM Int (Ex Unit Int))→Exit→St→Prop:=
  LQ 4 [] (AP p) Au je
section
variable (p:ah) (i:Int) (i1:Int) (i2:Int)
abbrev k35:List SV:=[(.agg (k3 p))]
abbrev k37:=(decide (i<(p.sources.length:Int)))
abbrev k36:TV:=(vB (k37 p i))
abbrev ZJ:=((at' p.sources i.toNat).bus)
abbrev k38:TV:=(vD (oL [(.int .i64 (ZJ p i)),(.int .i64 ((at' p.sources i.toNat).kind)),(.int .i64 ((at' p.sources i.toNat).power)),(.int .i64 ((at' p.sources i.toNat).sync)),(.int .i64 ((at' p.sources i.toNat).bK))] 0))
abbrev k47:=(bif (decide ((ZJ p i)<0))then true else(decide (p.buses≤(ZJ p i))))
abbrev k46:=(bif (k47 p i)then true else(decide (((at' p.sources i.toNat).kind)<1)))
abbrev k45:=(bif (k46 p i)then true else(decide (3<((at' p.sources i.toNat).kind))))
abbrev k44:=(bif (k45 p i)then true else(decide (((at' p.sources i.toNat).power)<1)))
abbrev k43:=(bif (k44 p i)then true else(decide (100000<((at' p.sources i.toNat).power))))
abbrev k42:=(bif (k43 p i)then true else(decide (((at' p.sources i.toNat).sync)<0)))
abbrev k41:=(bif (k42 p i)then true else(decide (8<((at' p.sources i.toNat).sync))))
abbrev k40:=(bif (k41 p i)then true else(decide (((at' p.sources i.toNat).bK)<10)))
abbrev k48:TV:=(vB (decide (i1<(p.links.length:Int))))
abbrev k49:TV:=(vB (decide (i2<(p.racks.length:Int))))
abbrev ZK:=((at' p.racks i2.toNat).feeds)
abbrev Xj:=((ZK p i2).e0)
abbrev YM:=((ZK p i2).e1)
abbrev k51:TV:=(vD (oL [(.int .i64 (Xj p i2)),(.int .i64 (YM p i2)),(.int .i64 ((at' p.racks i2.toNat).power)),(.int .i64 ((at' p.racks i2.toNat).paths))] 0))
abbrev k50:Nat × TV:=(7,(k51 p i2))
abbrev k55:Nat × TV:=(8,(vI (Xj p i2)))
abbrev k56:Nat × TV:=(9,(vI (YM p i2)))
abbrev k64:=(decide ((Xj p i2)<0))
abbrev k63:=(bif (k64 p i2)then true else(decide (p.buses≤(Xj p i2))))
abbrev k62:=(bif (k63 p i2)then true else(decide ((YM p i2)<(-1))))
abbrev k61:=(bif (k62 p i2)then true else(decide (p.buses≤(YM p i2))))
abbrev k60:=(bif (k61 p i2)then true else(decide ((Xj p i2)=(YM p i2))))
abbrev k59:=(bif (k60 p i2)then true else(decide (((at' p.racks i2.toNat).power)<1)))
abbrev k58:=(bif (k59 p i2)then true else(decide (100000<((at' p.racks i2.toNat).power))))
abbrev k57:=(bif (k58 p i2)then true else(decide (((at' p.racks i2.toNat).paths)<0)))
abbrev k65:=(eqs (k64 p i2) 5 (eqs (k63 p i2) 3 (eqs (k62 p i2) 5 (eqs (k61 p i2) 4 (eqs (k60 p i2) 4 (eqs (k59 p i2) 4 (eqs (k58 p i2) 4 (eqs (k57 p i2) 5 []))))))))
abbrev k66:St:=⟨[(1,(vP 9 0)),(6,(Am i2))],(JA p)⟩
end
theorem tO (p:ah) {r:Int} (h:kQ p=some r):Fn Tryz.prog 30 (k35 p) [] (vI r) []:=by
 refine fN tT Tryz.func30 rfl rfl fun B=> ?_
 show bG _ _ _ _ _ _ (je r) _
 unfold kQ at h
 refine sz tT (k34 p) {fr:=[(0,9)] } [] ?_
 refine aQ (sg tT ⟨[(1,(vP 9 0)),(18,(vB (bif (decide (p.buses<1))then true else(decide (24<p.buses)))))],(JA p)⟩ (eqs (decide (p.buses<1)) 4 []) {yb:=[(3,(decide (p.buses<1)))] } [] (ae trivial) ?_)
 refine bI h (fun hb11 h=> ?_) (fun hb11 h=> ?_)
 ·refine ct hb11 ?_
  refine sz tT ⟨[(2,(vI 10))],[]⟩ {} [] ?_
  refine aR ?_
  obtain rfl:=oi h
  exact rl [(sI 10)]
 ·refine cf hb11 ?_
  refine aP (aQ (sz tT ⟨[(1,(vP 9 0)),(22,(vB (decide (8<(p.sources.length:Int)))))],(JA p)⟩ {} [] ?_))
  refine bI h (fun hb10 h=> ?_) (fun hb10 h=> ?_)
  ·refine ct hb10 ?_
   refine sz tT ⟨[(2,(vI 11))],[]⟩ {} [] ?_
   refine aR ?_
   obtain rfl:=oi h
   exact rl [(sI 11)]
  ·refine cf hb10 ?_
   refine aP (aQ (sz tT ⟨[(1,(vP 9 0)),(3,(vI 0))],(JA p)⟩ {} [] ?_))
   refine bE h fun y hy h=> ?_
   refine aL [] (Ay p) (Ak p) je hy (fun s f h=> ?_) ?_
   ·clear hy
    show bG _ _ _ _ _ _ ((JO p) f) _
    unfold lI at h
    obtain⟨i,rfl⟩: ∃q,q=s:=⟨_,rfl⟩
    refine aQ (sz tT ⟨[(1,(vP 9 0)),(3,(vI i)),(27,(k36 p i))],(JA p)⟩ {} [] ?_)
    refine bI h (fun hb1 h=> ?_) (fun hb1 h=> ?_)
    ·refine ct hb1 ?_
     refine aP (aQ (aB (aQ (aO h fun a1 h=> ?_))))
     refine rg tT ⟨[(1,(vP 9 0)),(3,(vI i)),(4,(k38 p i))],(JA p)⟩ [_] {fr:=[(5,13)] } [13] ⟨a1,trivial⟩ ?_
     refine sg tT ⟨[(1,(vP 9 0)),(3,(vI i)),(84,(vB (bif (k40 p i)then true else(decide (100000<((at' p.sources i.toNat).bK))))))],(JA p)⟩ (eqs (decide ((ZJ p i)<0)) 6 (eqs (k47 p i) 4 (eqs (k46 p i) 4 (eqs (k45 p i) 4 (eqs (k44 p i) 4 (eqs (k43 p i) 4 (eqs (k42 p i) 4 (eqs (k41 p i) 4 (eqs (k40 p i) 4 []))))))))) {yb:=[(3,(decide ((ZJ p i)<0))),(10,(k47 p i)),(15,(k46 p i)),(20,(k45 p i)),(25,(k44 p i)),(30,(k43 p i)),(35,(k42 p i)),(40,(k41 p i)),(45,(k40 p i))] } [] (ae (ae (ae (ae (ae (ae (ae (ae (ae trivial))))))))) ?_
     refine bI h (fun hb h=> ?_) (fun hb h=> ?_)
     ·refine ct hb ?_
      refine sz tT ⟨[(2,(vI 11))],[]⟩ {} [] ?_
      refine aR ?_
      obtain rfl:=oi h
      exact lR bY (dm 0) bZ (aW.mk (.inr rfl) (p:=[]) (l:=[(sI 11)]) (by kernel_rfl) trivial (fe.refl _) trivial)
     ·refine cf hb ?_
      refine aP (rz tT ⟨[(1,(vP 9 0)),(3,(Am i))],(JA p)⟩ {} [] ?_)
      obtain rfl:=oi h
      exact lN
    ·refine cf hb1 ?_
     refine aI (fz (k34 p) []) ?_
     refine aX ?_
     obtain rfl:=oi h
     exact lB
   ·clear hy
    cases y with
    |brk z=>
     unfold fE
     refine⟨_, .refl, ?_⟩
     refine aQ (sz tT ⟨[(1,(vP 9 0)),(88,(vB (decide (40<(p.links.length:Int)))))],(JA p)⟩ {} [] ?_)
     refine bI h (fun hb9 h=> ?_) (fun hb9 h=> ?_)
     ·refine ct hb9 ?_
      refine sz tT ⟨[(2,(vI 12))],[]⟩ {} [] ?_
      refine aR ?_
      obtain rfl:=oi h
      exact rl [(sI 12)]
     ·refine cf hb9 ?_
      refine aP (aQ (sz tT ⟨[(1,(vP 9 0)),(5,(vI 0))],(JA p)⟩ {} [] ?_))
      refine bE h fun y1 hy h=> ?_
      refine aL [] (Ap p) (AJ p) je hy (fun s f h=> ?_) ?_
      ·clear hy
       show bG _ _ _ _ _ _ ((Jt p) f) _
       unfold lM at h
       obtain⟨i1,rfl⟩: ∃q,q=s:=⟨_,rfl⟩
       refine aQ (sz tT ⟨[(1,(vP 9 0)),(5,(vI i1)),(93,(k48 p i1))],(JA p)⟩ {} [] ?_)
       refine bI h (fun hb3 h=> ?_) (fun hb3 h=> ?_)
       ·refine ct hb3 ?_
        refine aP (aQ (aB (aQ (bE h fun r_ hr_ h=> ?_))))
        refine aO h fun a1 h=> ?_
        have q1:=Kr p (at' p.links i1.toNat) hr_
        refine dg tT mX ⟨[(1,(vP 9 0)),(5,(vI i1)),(103,(vB (!r_)))],(JA p)⟩ [_,_] {an:=[(6,cA q1 [])] } [] ⟨a1,q1,trivial⟩ ?_
        refine bI h (fun hb2 h=> ?_) (fun hb2 h=> ?_)
        ·refine ct hb2 ?_
         refine sz tT ⟨[(2,(vI 12))],[]⟩ {} [] ?_
         refine aR ?_
         obtain rfl:=oi h
         exact lR bY (dm 2) bZ (aW.mk (.inr rfl) (p:=[]) (l:=[(sI 12)]) (by kernel_rfl) trivial (fe.refl _) trivial)
        ·refine cf hb2 ?_
         refine aP (rz tT ⟨[(1,(vP 9 0)),(k30 i1)],(JA p)⟩ {} [] ?_)
         obtain rfl:=oi h
         exact lN
       ·refine cf hb3 ?_
        refine aI (fz (k34 p) []) ?_
        refine aX ?_
        obtain rfl:=oi h
        exact lB
      ·clear hy
       cases y1 with
       |brk z=>
        unfold fE
        refine⟨_, .refl, ?_⟩
        refine aQ (sz tT ⟨[(1,(vP 9 0)),(107,(vB (decide (24<(p.racks.length:Int)))))],(JA p)⟩ {} [] ?_)
        refine bI h (fun hb8 h=> ?_) (fun hb8 h=> ?_)
        ·refine ct hb8 ?_
         refine sz tT ⟨[(2,(vI 13))],[]⟩ {} [] ?_
         refine aR ?_
         obtain rfl:=oi h
         exact rl [(sI 13)]
        ·refine cf hb8 ?_
         refine aP (aQ (sz tT ⟨[(1,(vP 9 0)),(6,(vI 0))],(JA p)⟩ {} [] ?_))
         refine bE h fun y2 hy h=> ?_
         refine aL [] (AP p) Au je hy (fun s f h=> ?_) ?_
         ·clear hy
          show bG _ _ _ _ _ _ ((I4 p) f) _
          unfold lD at h
          obtain⟨i2,rfl⟩: ∃q,q=s:=⟨_,rfl⟩
          refine aQ (sz tT ⟨[(1,(vP 9 0)),(6,(vI i2)),(112,(k49 p i2))],(JA p)⟩ {} [] ?_)
          refine bI h (fun hb7 h=> ?_) (fun hb7 h=> ?_)
          ·refine ct hb7 ?_
           refine aP (aQ (aB (aQ (aO h fun a1 h=> ?_))))
           refine rg tT ⟨[(1,(vP 9 0)),(6,(vI i2)),(k50 p i2)],(JA p)⟩ [_] {fr:=[(5,17)] } [17] ⟨a1,trivial⟩ ?_
           refine sd tT mX ⟨[(1,(vP 9 0)),(6,(vI i2)),(k50 p i2),(k55 p i2),(k56 p i2)],(JA p)⟩ [(0:Int)≤0∧(0:Int)<(2:Nat),(0:Int)≤1∧(1:Int)<(2:Nat)] {} [] ⟨((by decide)),((by decide)),trivial⟩ ?_
           refine sz tT ⟨[(1,(vP 9 0)),(6,(vI i2)),(k50 p i2),(k55 p i2),(k56 p i2),(10,(vI 2))],(JA p)⟩ {} [] ?_
           refine aQ (sz tT ⟨[(1,(vP 9 0)),(6,(vI i2)),(k50 p i2),(k55 p i2),(k56 p i2),(10,(vI 2)),(127,(vB (decide ((YM p i2)=(-1)))))],(JA p)⟩ {} [] ?_)
           refine bI h (fun hb6 h=> ?_) (fun hb6 h=> ?_)
           ·refine ct hb6 ?_
            refine rz tT ⟨[(1,(vP 9 0)),(6,(vI i2)),(k50 p i2),(k55 p i2),(k56 p i2),(10,(vI 1))],(JA p)⟩ {} [] ?_
            refine sg tT ⟨[(1,(vP 9 0)),(6,(vI i2)),(171,(vB (bif (k57 p i2)then true else(decide (1<((at' p.racks i2.toNat).paths))))))],(JA p)⟩ (k65 p i2) {yb:=[(2,(k64 p i2)),(8,(k63 p i2)),(12,(k62 p i2)),(18,(k61 p i2)),(23,(k60 p i2)),(28,(k59 p i2)),(33,(k58 p i2)),(38,(k57 p i2))] } [] (ae (ae (ae (ae (ae (ae (ae (ae trivial)))))))) ?_
            refine bI h (fun hb4 h=> ?_) (fun hb4 h=> ?_)
            ·refine ct hb4 ?_
             refine sz tT ⟨[(2,(vI 13))],[]⟩ {} [] ?_
             refine aR ?_
             obtain rfl:=oi h
             exact lR bY (dm 4) bZ (aW.mk (.inr rfl) (p:=[]) (l:=[(sI 13)]) (by kernel_rfl) trivial (fe.refl _) trivial)
            ·refine cf hb4 ?_
             refine aP (rz tT (k66 p i2) {} [] ?_)
             obtain rfl:=oi h
             exact lN
           ·refine cf hb6 ?_
            refine aP (sg tT ⟨[(1,(vP 9 0)),(6,(vI i2)),(171,(vB (bif (k57 p i2)then true else(decide (2<((at' p.racks i2.toNat).paths))))))],(JA p)⟩ (k65 p i2) {yb:=[(2,(k64 p i2)),(8,(k63 p i2)),(12,(k62 p i2)),(18,(k61 p i2)),(23,(k60 p i2)),(28,(k59 p i2)),(33,(k58 p i2)),(38,(k57 p i2))] } [] (ae (ae (ae (ae (ae (ae (ae (ae trivial)))))))) ?_)
            refine bI h (fun hb5 h=> ?_) (fun hb5 h=> ?_)
            ·refine ct hb5 ?_
             refine sz tT ⟨[(2,(vI 13))],[]⟩ {} [] ?_
             refine aR ?_
             obtain rfl:=oi h
             exact lR bY (dm 4) bZ (aW.mk (.inr rfl) (p:=[]) (l:=[(sI 13)]) (by kernel_rfl) trivial (fe.refl _) trivial)
            ·refine cf hb5 ?_
             refine aP (rz tT (k66 p i2) {} [] ?_)
             obtain rfl:=oi h
             exact lN
          ·refine cf hb7 ?_
           refine aI (fz ⟨[],[]⟩ []) ?_
           refine aX ?_
           obtain rfl:=oi h
           exact lB
         ·clear hy
          cases y2 with
          |brk z=>
           unfold fE
           refine⟨_, .refl, ?_⟩
           refine sz tT ⟨[(2,(vI 0))],[]⟩ {} [] ?_
           refine aR ?_
           obtain rfl:=oi h
           exact rl [(sI 0)]
          |ret v=>
           obtain rfl:=oi h
           unfold fE
           intro e st hn ha hR
           cases e with
           |normal=>exact absurd rfl hn
           |exit id=>exact hR
           |goto l=>exact hR
           |ret=>exact hR
           |panic c=>exact hR
           |outgrown=>exact hR
       |ret v=>
        obtain rfl:=oi h
        unfold fE
        intro e st hn ha hR
        cases e with
        |normal=>exact absurd rfl hn
        |exit id=>exact hR
        |goto l=>exact hR
        |ret=>exact hR
        |panic c=>exact hR
        |outgrown=>exact hR
    |ret v=>
     obtain rfl:=oi h
     unfold fE
     intro e st hn ha hR
     cases e with
     |normal=>exact absurd rfl hn
     |exit id=>exact hR
     |goto l=>exact hR
     |ret=>exact hR
     |panic c=>exact hR
     |outgrown=>exact hR
def zJ  :Bool→Exit→St→Prop:=
  fun r=>aW TT [.tmp 2] (vB r) []
section
variable (p:ah)
abbrev k67:Nat × TV:=(1,(k8 p))
end
def Dn (p:ah):Int→St:=
  fun i=> ⟨[(k67 p),(3,(vI i))],[]⟩
section
variable (p:ah)
abbrev k68:St:=⟨[(k67 p)],[]⟩
end
def D5 (p:ah):Unit→St:=
  fun _=>(k68 p)
def Mg (p:ah):(aM Int (Ex Unit Bool))→Exit→St→Prop:=
  LQ 0 [] (Dn p) (D5 p) zJ
section
variable (p:ah) (r_:Int)
abbrev k69:=(bif (decide (60<(p.sources.length:Int)))then true else(decide (60<(p.links.length:Int))))
abbrev k70:=(bif (decide (r_=0))then(bif (decide (10<p.buses))then true else(decide (16<(p.links.length:Int))))else false)
end
theorem Ll (p:ah) {r:Bool} (h:uZ p=some r):Fn Tryz.prog 6 (k35 p) [] (vB r) []:=by
 refine fN tT Tryz.func6 rfl rfl fun B=> ?_
 show bG _ _ _ _ _ _ (zJ r) _
 unfold uZ at h
 refine sz tT (k68 p) {fr:=[(0,1)] } [1] ?_
 refine aQ (sg tT ⟨[(k67 p),(19,(vB (bif (k69 p)then true else(decide (60<(p.racks.length:Int))))))],[]⟩ (eqs (decide (60<(p.sources.length:Int))) 5 (eqs (k69 p) 5 [])) {yb:=[(4,(decide (60<(p.sources.length:Int)))),(10,(k69 p))] } [] (ae (ae trivial)) ?_)
 refine bI h (fun hb2 h=> ?_) (fun hb2 h=> ?_)
 ·refine ct hb2 ?_
  refine sz tT ⟨[(2,(vB true))],[]⟩ {} [] ?_
  refine aR ?_
  obtain rfl:=oi h
  exact rl [(sB true)]
 ·refine cf hb2 ?_
  refine aP (aQ (sz tT ⟨[(k67 p),(3,(vI 0))],[]⟩ {} [] ?_))
  refine bE h fun y hy h=> ?_
  refine aL [] (Dn p) (D5 p) zJ hy (fun s f h=> ?_) ?_
  ·clear hy
   show bG _ _ _ _ _ _ ((Mg p) f) _
   unfold nT at h
   obtain⟨i,rfl⟩: ∃q,q=s:=⟨_,rfl⟩
   refine aQ (sz tT ⟨[(k67 p),(3,(vI i)),(24,(k48 p i))],[]⟩ {} [] ?_)
   refine bI h (fun hb1 h=> ?_) (fun hb1 h=> ?_)
   ·refine ct hb1 ?_
    refine aP (aQ (aB (aQ (aO h fun a1 h=> ?_))))
    refine rg tT ⟨[(k67 p),(3,(vI i)),(34,(vB (decide (20<(((at' p.links i.toNat).trip).length:Int)))))],[]⟩ [_] {} [] ⟨a1,trivial⟩ ?_
    refine bI h (fun hb h=> ?_) (fun hb h=> ?_)
    ·refine ct hb ?_
     refine sz tT ⟨[(2,(vB true))],[]⟩ {} [] ?_
     refine aR ?_
     obtain rfl:=oi h
     exact lR bY (dm 0) bZ (aW.mk (.inr rfl) (p:=[]) (l:=[(sB true)]) (by kernel_rfl) trivial (fe.refl _) trivial)
    ·refine cf hb ?_
     refine aP (rz tT ⟨[(k67 p),(3,(Am i))],[]⟩ {} [] ?_)
     obtain rfl:=oi h
     exact lN
   ·refine cf hb1 ?_
    refine aI (fz (k68 p) []) ?_
    refine aX ?_
    obtain rfl:=oi h
    exact lB
  ·clear hy
   cases y with
   |brk z=>
    unfold fE
    refine⟨_, .refl, ?_⟩
    refine aQ (bE h fun r_ hr_ h=> ?_)
    have q0:=tO p hr_
    refine rg tT ⟨[(2,(vB (k70 p r_)))],[]⟩ (_::(eqs (decide (r_=0)) 4 (eqs (decide (10<p.buses)) 4 [(decide (r_=0))=(decide (r_=0)),gP (ic [(3,(decide (r_=0))),(7,(decide (10<p.buses)))]) [(3,true)]→All [(decide (10<p.buses))=(decide (10<p.buses))],(decide (r_=0))=(decide (r_=0))]))) {yb:=[(3,(decide (r_=0))),(7,(decide (10<p.buses)))],an:=[(1,cA q0 [])] } [] ⟨q0,(ae (ae ⟨rfl,(fun hg=> ⟨rfl,trivial⟩),rfl,trivial⟩))⟩ ?_
    refine aR ?_
    obtain rfl:=oi h
    exact rl [(sB (k70 p r_))]
   |ret v=>
    obtain rfl:=oi h
    unfold fE
    intro e st hn ha hR
    cases e with
    |normal=>exact absurd rfl hn
    |exit id=>exact hR
    |goto l=>exact hR
    |ret=>exact hR
    |panic c=>exact hR
    |outgrown=>exact hR
def JK  :Bool→Exit→St→Prop:=
  fun r=>aW TT [.tmp 6] (vB r) []
theorem aV (n:Int) (u0:Int) (u1:Int) {r:Bool} (h:bn n u0 u1=some r):Fn Tryz.prog 108 [(sI n),(sI u0),(sI u1)] [] (vB r) []:=by
 refine fN tT Tryz.func108 rfl rfl fun B=> ?_
 show bG _ _ _ _ _ _ (JK r) _
 unfold bn at h
 refine sz tT ⟨[(0,(vI n)),(1,(vI u0)),(2,(vI u1))],[]⟩ {} [] ?_
 refine sg tT ⟨[(6,(vB (bif (decide (u0≤n))then(decide (n≤u1))else false)))],[]⟩ (eqs (decide (u0≤n)) 4 []) {yb:=[(3,(decide (u0≤n)))] } [] (ae trivial) ?_
 refine aR ?_
 obtain rfl:=oi h
 exact rl [(sB (bif (decide (u0≤n))then(decide (n≤u1))else false))]
def Jd  :(Int × (List Source) × (List Link) × (List aJ))→Exit→St→Prop:=
  fun r=>aW TT [.tmp 2] (vD (.fn 133 1 (wQ [(oL [(.int .i64 r.1),(aD none 5 Source.cell r.2.1),(aD none 6 Link.cell r.2.2.1),(aD none 4 aJ.cell r.2.2.2)] 0)]))) []
section
variable (p:ah)
abbrev k71:=(wQ [(k9 p)])
end
theorem G6 (p:ah) {r:(Int × (List Source) × (List Link) × (List aJ))} (h:q8 p=some r):Fn Tryz.prog 110 (k35 p) [] (vD (.fn 133 1 (wQ [(oL [(.int .i64 r.1),(aD none 5 Source.cell r.2.1),(aD none 6 Link.cell r.2.2.1),(aD none 4 aJ.cell r.2.2.2)] 0)]))) []:=by
 refine fN tT Tryz.func110 rfl rfl fun B=> ?_
 show bG _ _ _ _ _ _ (Jd r) _
 unfold q8 at h
 refine sz tT (k68 p) {fr:=[(0,1)] } [1] ?_
 refine sz tT ⟨[(2,(vD (.fn 133 1 (k71 p))))],[]⟩ {} [] ?_
 refine aR ?_
 obtain rfl:=oi h
 exact rl [(sD (.fn 133 1 (k71 p)))]
def ML  :(Int × (List Source) × (List Link) × (List aJ))→Exit→St→Prop:=
  fun r=>aW TT [.tmp 2] (vD (.fn 136 1 (wQ [(oL [(.int .i64 r.1),(aD none 5 Source.cell r.2.1),(aD none 6 Link.cell r.2.2.1),(aD none 4 aJ.cell r.2.2.2)] 0)]))) []
theorem Kt (p:ah) {r:(Int × (List Source) × (List Link) × (List aJ))} (h:wN p=some r):Fn Tryz.prog 112 (k35 p) [] (vD (.fn 136 1 (wQ [(oL [(.int .i64 r.1),(aD none 5 Source.cell r.2.1),(aD none 6 Link.cell r.2.2.1),(aD none 4 aJ.cell r.2.2.2)] 0)]))) []:=by
 refine fN tT Tryz.func112 rfl rfl fun B=> ?_
 show bG _ _ _ _ _ _ (ML r) _
 unfold wN at h
 refine sz tT (k68 p) {fr:=[(0,1)] } [1] ?_
 refine sz tT ⟨[(2,(vD (.fn 136 1 (k71 p))))],[]⟩ {} [] ?_
 refine aR ?_
 obtain rfl:=oi h
 exact rl [(sD (.fn 136 1 (k71 p)))]
def Mr  :(Int × (List Source) × (List Link) × (List aJ))→Exit→St→Prop:=
  fun r=>aW TT [.tmp 2] (vD (.fn 139 1 (wQ [(oL [(.int .i64 r.1),(aD none 5 Source.cell r.2.1),(aD none 6 Link.cell r.2.2.1),(aD none 4 aJ.cell r.2.2.2)] 0)]))) []
theorem Ki (p:ah) {r:(Int × (List Source) × (List Link) × (List aJ))} (h:wP p=some r):Fn Tryz.prog 114 (k35 p) [] (vD (.fn 139 1 (wQ [(oL [(.int .i64 r.1),(aD none 5 Source.cell r.2.1),(aD none 6 Link.cell r.2.2.1),(aD none 4 aJ.cell r.2.2.2)] 0)]))) []:=by
 refine fN tT Tryz.func114 rfl rfl fun B=> ?_
 show bG _ _ _ _ _ _ (Mr r) _
 unfold wP at h
 refine sz tT (k68 p) {fr:=[(0,1)] } [1] ?_
 refine sz tT ⟨[(2,(vD (.fn 139 1 (k71 p))))],[]⟩ {} [] ?_
 refine aR ?_
 obtain rfl:=oi h
 exact rl [(sD (.fn 139 1 (k71 p)))]
def FZ  :Bool→Exit→St→Prop:=
  fun r=>aW TT [.tmp 3] (vB r) []
section
variable (u4:(List Source)) (u5:(List Link)) (u6:(List aJ)) (x1:Int) (x:Source) (r_:Bool) (u0:Bool) (u1:Bool) (u2:Bool) (u3:Bool)
abbrev k73:DV:=(aD none 5 Source.cell u4)
abbrev k74:DV:=(aD none 6 Link.cell u5)
abbrev k75:DV:=(aD none 4 aJ.cell u6)
abbrev k72:DV:=(oL [(.int .i64 x1),(k73 u4),(k74 u5),(k75 u6)] 0)
abbrev k76:Nat × TV:=(1,(vD (k72 u4 u5 u6 x1)))
abbrev k77:Nat × TV:=(2,(vD (oL [(.int .i64 x.bus),(.int .i64 x.kind),(.int .i64 x.power),(.int .i64 x.sync),(.int .i64 x.bK)] 0)))
abbrev NP:=(bif r_ then u0 else false)
abbrev k80:=(bif (NP r_ u0)then u1 else false)
abbrev k79:=(bif (k80 r_ u0 u1)then u2 else false)
abbrev k78:=(bif (k79 r_ u0 u1 u2)then u3 else false)
abbrev k82:=(ic [(6,r_),(11,(NP r_ u0)),(16,(k80 r_ u0 u1)),(21,(k79 r_ u0 u1 u2))])
abbrev k83:=((k80 r_ u0 u1)=(k80 r_ u0 u1))
end
theorem EZ (x:Source) (x1:Int) (u4:(List Source)) (u5:(List Link)) (u6:(List aJ)) {r:Bool} (h:lu x x1 u4 u5 u6=some r):Fn Tryz.prog 133 [(.agg [(cI x.bus),(cI x.kind),(cI x.power),(cI x.sync),(cI x.bK)]),(sD (k72 u4 u5 u6 x1))] [] (vB r) []:=by
 refine fN tT Tryz.func133 rfl rfl fun B=> ?_
 show bG _ _ _ _ _ _ (FZ r) _
 unfold lu at h
 refine sz tT ⟨[(k76 u4 u5 u6 x1),(k77 x)],[]⟩ {fr:=[(0,1)] } [1] ?_
 refine aQ (bE h fun r_ hr_ h=> ?_)
 refine bE h fun u0 hr_1 h=> ?_
 refine bE h fun u1 hr_2 h=> ?_
 refine bE h fun u2 hr_3 h=> ?_
 refine bE h fun u3 hr_4 h=> ?_
 have q0:=aV x.bus 0 (k28 x1) hr_
 refine rg tT ⟨[(3,(vB (k78 r_ u0 u1 u2 u3)))],[]⟩ (_::(eqs r_ 3 ((gP (k82 r_ u0 u1 u2) [(6,true)]→All [Fn Tryz.prog 108 [(sI x.kind),(sI 1),(sI 3)] [] (vB u0) []])::(r_=r_)::(eqs (NP r_ u0) 3 ((gP (k82 r_ u0 u1 u2) [(11,true)]→All [Fn Tryz.prog 108 [(sI x.power),(sI 1),(sI 100000)] [] (vB u1) []])::((NP r_ u0)=(NP r_ u0))::(eqs (k80 r_ u0 u1) 3 ((gP (k82 r_ u0 u1 u2) [(16,true)]→All [Fn Tryz.prog 108 [(sI x.sync),(sI 0),(sI 8)] [] (vB u2) []])::(k83 r_ u0 u1)::(eqs (k79 r_ u0 u1 u2) 3 [gP (k82 r_ u0 u1 u2) [(21,true)]→All [Fn Tryz.prog 108 [(sI x.bK),(sI 10),(sI 100000)] [] (vB u3) []],(k79 r_ u0 u1 u2)=(k79 r_ u0 u1 u2)])))))))) {yb:=[(6,r_),(11,(NP r_ u0)),(16,(k80 r_ u0 u1)),(21,(k79 r_ u0 u1 u2))],an:=[(5,cA q0 []),(9, .call [] (vB u0) []),(14, .call [] (vB u1) []),(19, .call [] (vB u2) []),(24, .call [] (vB u3) [])] } [] ⟨q0,(ae ⟨(fun hg=> ⟨(aV x.kind 1 3 (fD hr_1 (aU hg))),trivial⟩),rfl,(ae ⟨(fun hg=> ⟨(aV x.power 1 100000 (fD hr_2 (aU hg))),trivial⟩),rfl,(ae ⟨(fun hg=> ⟨(aV x.sync 0 8 (fD hr_3 (aU hg))),trivial⟩),rfl,(ae ⟨(fun hg=> ⟨(aV x.bK 10 100000 (fD hr_4 (aU hg))),trivial⟩),rfl,trivial⟩)⟩)⟩)⟩)⟩ ?_
 refine aR ?_
 obtain rfl:=oi h
 exact rl [(sB (k78 r_ u0 u1 u2 u3))]
def JB  :Bool→Exit→St→Prop:=
  fun r=>aW TT [.tmp 3] (vB r) []
section
variable (x1:Int) (u0:(List Source)) (u1:(List Link)) (u2:(List aJ))
abbrev k85:=(wQ [(k72 u0 u1 u2 x1)])
abbrev k84:DV:=(oL [(.fn 133 1 (k85 x1 u0 u1 u2))] 0)
abbrev k86:TV:=(vD (k84 x1 u0 u1 u2))
end
theorem He (x:Source) (x1:Int) (u0:(List Source)) (u1:(List Link)) (u2:(List aJ)) {r:Bool} (h:ru x x1 u0 u1 u2=some r):Fn Tryz.prog 132 [(.agg [(cI x.bus),(cI x.kind),(cI x.power),(cI x.sync),(cI x.bK)]),(sD (k84 x1 u0 u1 u2))] [] (vB r) []:=by
 refine fN tT Tryz.func132 rfl rfl fun B=> ?_
 show bG _ _ _ _ _ _ (JB r) _
 unfold ru at h
 refine sz tT ⟨[(1,(k86 x1 u0 u1 u2)),(k77 x)],[]⟩ {fr:=[(0,1)] } [1] ?_
 refine aQ (bE h fun r_ hr_ h=> ?_)
 have q0:=EZ x x1 u0 u1 u2 hr_
 refine rg tT ⟨[(3,(vB (!r_)))],[]⟩ [_] {an:=[(2,cA q0 [])] } [] ⟨q0,trivial⟩ ?_
 refine aR ?_
 obtain rfl:=oi h
 exact rl [(sB (!r_))]
def oF  :Int→Exit→St→Prop:=
  fun r=>aW TT [.tmp 4] (vI r) []
section
variable (s_:(List Source)) (f_:Int) (u0:(List Source)) (u1:(List Link)) (u2:(List aJ))
abbrev SA:Nat × TV:=(0,(vD (k73 s_)))
abbrev k89:=(wQ [(k84 f_ u0 u1 u2)])
abbrev k88:Nat × TV:=(1,(vD (.fn 132 1 (k89 f_ u0 u1 u2))))
abbrev k90:Nat × TV:=(7,(vI (s_.length:Int)))
end
def tC (s_:(List Source)) (f_:Int) (u0:(List Source)) (u1:(List Link)) (u2:(List aJ)):Int→St:=
  fun t8=> ⟨[(SA s_),(k88 f_ u0 u1 u2),(k90 s_),(8,(vI t8))],[]⟩
def tu  :Unit→St:=
  fun _=> ⟨[],[]⟩
def Da (s_:(List Source)) (f_:Int) (u0:(List Source)) (u1:(List Link)) (u2:(List aJ)):(aM Int (Ex Unit Int))→Exit→St→Prop:=
  LQ 0 [] (tC s_ f_ u0 u1 u2) tu oF
section
variable (s_:(List Source)) (f_:Int) (u0:(List Source)) (u1:(List Link)) (u2:(List aJ)) (t8:Int)
abbrev k91:List SV:=[(sD (k73 s_)),(sD (.fn 132 1 (k89 f_ u0 u1 u2)))]
abbrev k92:St:=⟨[(SA s_),(k88 f_ u0 u1 u2)],[]⟩
abbrev Zv:Nat × TV:=(8,(Am t8))
end
theorem CY (s_:(List Source)) (f_:Int) (u0:(List Source)) (u1:(List Link)) (u2:(List aJ)) {r:Int} (h:mE s_ f_ u0 u1 u2=some r):Fn Tryz.prog 149 (k91 s_ f_ u0 u1 u2) [] (vI r) []:=by
 refine fN tT Tryz.func149 rfl rfl fun B=> ?_
 show bG _ _ _ _ _ _ (oF r) _
 unfold mE at h
 refine sz tT (k92 s_ f_ u0 u1 u2) {} [] ?_
 refine aQ (sz tT ⟨[(SA s_),(k88 f_ u0 u1 u2),(k90 s_),(8,(vI 0))],[]⟩ {} [] ?_)
 refine bE h fun y hy h=> ?_
 refine aL [] (tC s_ f_ u0 u1 u2) tu oF hy (fun s f h=> ?_) ?_
 ·clear hy
  show bG _ _ _ _ _ _ ((Da s_ f_ u0 u1 u2) f) _
  unfold j5 at h
  obtain⟨t8,rfl⟩: ∃q,q=s:=⟨_,rfl⟩
  refine sz tT ⟨[(SA s_),(k88 f_ u0 u1 u2),(k90 s_),(8,(vI t8)),(9,(vB (decide (t8<(s_.length:Int)))))],[]⟩ {} [] ?_
  refine aQ ?_
  refine bI h (fun hb1 h=> ?_) (fun hb1 h=> ?_)
  ·refine ct hb1 ?_
   refine aP (aQ (aB (sz tT ⟨[(SA s_),(k88 f_ u0 u1 u2),(5,(vI t8)),(k90 s_),(8,(vI t8))],[]⟩ {} [] ?_)))
   refine aQ (bE h fun r_ hr_ h=> ?_)
   refine aO h fun a1 h=> ?_
   have q1:=He (at' s_ t8.toNat) f_ u0 u1 u2 hr_
   refine rg tT ⟨[(SA s_),(k88 f_ u0 u1 u2),(5,(vI t8)),(k90 s_),(8,(vI t8)),(16,(vB r_))],[]⟩ [_,_] {an:=[(5,cA q1 [])] } [] ⟨a1,q1,trivial⟩ ?_
   refine bI h (fun hb h=> ?_) (fun hb h=> ?_)
   ·refine ct hb ?_
    refine sz tT ⟨[(4,(vI t8))],[]⟩ {} [] ?_
    refine aR ?_
    obtain rfl:=oi h
    exact lR bY (dm 0) bZ (aW.mk (.inr rfl) (p:=[]) (l:=[(sI t8)]) (by kernel_rfl) trivial (fe.refl _) trivial)
   ·refine cf hb ?_
    refine aP (rz tT ⟨[(SA s_),(k88 f_ u0 u1 u2),(k90 s_),(Zv t8)],[]⟩ {} [] ?_)
    obtain rfl:=oi h
    exact lN
  ·refine cf hb1 ?_
   refine aI (fz ⟨[],[]⟩ []) ?_
   refine aX ?_
   obtain rfl:=oi h
   exact lB
 ·clear hy
  cases y with
  |brk z=>
   unfold fE
   refine⟨_, .refl, ?_⟩
   refine sz tT ⟨[(4,(vI (-1)))],[]⟩ {} [] ?_
   refine aR ?_
   obtain rfl:=oi h
   exact rl [(sI (-1))]
  |ret v=>
   obtain rfl:=oi h
   unfold fE
   intro e st hn ha hR
   cases e with
   |normal=>exact absurd rfl hn
   |exit id=>exact hR
   |goto l=>exact hR
   |ret=>exact hR
   |panic c=>exact hR
   |outgrown=>exact hR
def AL  :Bool→Exit→St→Prop:=
  fun r=>aW TT [.tmp 4] (vB r) []
section
variable (r_:Int)
abbrev k94:St:=⟨[(4,(vB (decide (0≤r_))))],[]⟩
end
theorem zD (s_:(List Source)) (f_:Int) (u0:(List Source)) (u1:(List Link)) (u2:(List aJ)) {r:Bool} (h:iw s_ f_ u0 u1 u2=some r):Fn Tryz.prog 131 (k91 s_ f_ u0 u1 u2) [] (vB r) []:=by
 refine fN tT Tryz.func131 rfl rfl fun B=> ?_
 show bG _ _ _ _ _ _ (AL r) _
 unfold iw at h
 refine sz tT (k92 s_ f_ u0 u1 u2) {} [] ?_
 refine aQ (bE h fun r_ hr_ h=> ?_)
 have q0:=CY s_ f_ u0 u1 u2 hr_
 refine rg tT (k94 r_) [_] {an:=[(2,cA q0 [])] } [] ⟨q0,trivial⟩ ?_
 refine aR ?_
 obtain rfl:=oi h
 exact rl [(sB (decide (0≤r_)))]
def Nb  :Bool→Exit→St→Prop:=
  fun r=>aW TT [.tmp 6] (vB r) []
theorem KW (l:(List Source)) (u0:Int) (u1:Int) (u2:(List Source)) (u3:(List Link)) (u4:(List aJ)) {r:Bool} (h:qY l u0 u1 u2 u3 u4=some r):Fn Tryz.prog 109 [(sD (k73 l)),(sI u0),(sD (.fn 133 1 (k85 u1 u2 u3 u4)))] [] (vB r) []:=by
 refine fN tT Tryz.func109 rfl rfl fun B=> ?_
 show bG _ _ _ _ _ _ (Nb r) _
 unfold qY at h
 refine sz tT ⟨[(SA l),(1,(vI u0)),(5,(k86 u1 u2 u3 u4))],[]⟩ {fr:=[(0,1)] } [1] ?_
 refine aQ (bE h fun r_ hr_ h=> ?_)
 refine rg tT ⟨[(6,(vB (bif (decide ((l.length:Int)≤u0))then(!r_)else false)))],[]⟩ (eqs (decide ((l.length:Int)≤u0)) 3 ((gP (ic [(4,(decide ((l.length:Int)≤u0)))]) [(4,true)]→All [Fn Tryz.prog 131 (k91 l u1 u2 u3 u4) [] (vB r_) []])::(eqs (decide ((l.length:Int)≤u0)) 2 []))) {yb:=[(4,(decide ((l.length:Int)≤u0)))],an:=[(7, .call [] (vB r_) [])] } [] (ae ⟨(fun hg=> ⟨(zD l u1 u2 u3 u4 (fD hr_ (aU hg))),trivial⟩),(ae trivial)⟩) ?_
 refine aR ?_
 obtain rfl:=oi h
 exact rl [(sB (bif (decide ((l.length:Int)≤u0))then(!r_)else false))]
def ug  :Bool→Exit→St→Prop:=
  fun r=>aW TT [.tmp 3] (vB r) []
section
variable (x:Link)
abbrev k97:List DV:=[(.int .i64 x.a),(.int .i64 x.b),(.int .i64 x.kind),(.int .i64 x.most),(.int .i64 x.bK),(aD none 2 bP.cell x.trip)]
abbrev k96:TV:=(vD (oL (k97 x) 0))
abbrev Ld:Nat × TV:=(2,(k96 x))
abbrev k98:Nat × TV:=(48,(vD (aD none 2 bP.cell x.trip)))
abbrev k99:Nat × TV:=(49,(vI (x.trip.length:Int)))
end
def zA (x:Link):Int→St:=
  fun u0=> ⟨[(Ld x),(k98 x),(k99 x),(50,(vI u0))],[]⟩
section
variable (x:Link)
abbrev amY:St:=⟨[(Ld x)],[]⟩
end
def zC (x:Link):Unit→St:=
  fun _=>(amY x)
def G9 (x:Link):(aM Int (Ex Unit Bool))→Exit→St→Prop:=
  LQ 0 [] (zA x) (zC x) ug
section
variable (x:Link) (r_:Bool) (u1:Bool) (u3:Bool) (u5:Bool) (u2:Bool) (u4:Bool) (u0:Int)
abbrev ale:List (Nat × Option Ob):=[(5,some (k1 x))]
abbrev KN:=(bif (!r_)then true else(!u1))
abbrev aaC:=(bif (KN r_ u1)then true else(decide (x.a=x.b)))
abbrev ZV:=(bif (aaC x r_ u1)then true else(!u3))
abbrev abd:=(bif (ZV x r_ u1 u3)then true else(!u5))
abbrev ad6:=(ic [(7,(!r_)),(16,(KN r_ u1)),(23,(aaC x r_ u1)),(29,(ZV x r_ u1 u3)),(35,(abd x r_ u1 u3 u5))])
abbrev ab5:=(ic [(4,(!u2)),(10,(KN u2 u4)),(13,(decide (0<u0))),(24,(k27 x u0))])
abbrev Uz:=(decide ((x.trip.length:Int)≤6))
abbrev Zt:=(decide ((x.trip.length:Int)=0))
abbrev aj5:=(bif (Uz x)then(bif (Zt x)then true else(decide (x.kind=3)))else false)
end
theorem H8 (x:Link) (x1:Int) (u6:(List Source)) (u7:(List Link)) (u8:(List aJ)) {r:Bool} (h:nX x x1 u6 u7 u8=some r):Fn Tryz.prog 136 [(.agg (k2 x)),(sD (k72 u6 u7 u8 x1))] [] (vB r) []:=by
 refine fN tT Tryz.func136 rfl rfl fun B=> ?_
 show bG _ _ _ _ _ _ (ug r) _
 unfold nX at h
 refine sz tT ⟨[(k76 u6 u7 u8 x1),(2,(vP 5 0))],(ale x)⟩ {fr:=[(0,5)] } [] ?_
 refine aQ (aQ (bE h fun r_ hr_ h=> ?_))
 refine bE h fun u1 hr_1 h=> ?_
 refine bE h fun u3 hr_2 h=> ?_
 refine bE h fun u5 hr_3 h=> ?_
 refine bE h fun u9 hr_4 h=> ?_
 have q0:=aV x.a 0 (k28 x1) hr_
 refine rg tT ⟨[(2,(vP 5 0)),(46,(vB (bif (abd x r_ u1 u3 u5)then true else(!u9))))],(ale x)⟩ (_::(eqs (!r_) 6 ((gP (ad6 x r_ u1 u3 u5) [(7,false)]→All [Fn Tryz.prog 108 [(sI x.b),(sI 0),(sI (k28 x1))] [] (vB u1) []])::(eqs (!r_) 2 (eqs (KN r_ u1) 6 (eqs (aaC x r_ u1) 3 ((gP (ad6 x r_ u1 u3 u5) [(23,false)]→All [Fn Tryz.prog 108 [(sI x.kind),(sI 1),(sI 3)] [] (vB u3) []])::(eqs (aaC x r_ u1) 2 (eqs (ZV x r_ u1 u3) 3 ((gP (ad6 x r_ u1 u3 u5) [(29,false)]→All [Fn Tryz.prog 108 [(sI x.most),(sI 1),(sI 100000)] [] (vB u5) []])::(eqs (ZV x r_ u1 u3) 2 (eqs (abd x r_ u1 u3 u5) 3 ((gP (ad6 x r_ u1 u3 u5) [(35,false)]→All [Fn Tryz.prog 108 [(sI x.bK),(sI 10),(sI 100000)] [] (vB u9) []])::(eqs (abd x r_ u1 u3 u5) 2 [])))))))))))))) {yb:=[(7,(!r_)),(16,(KN r_ u1)),(23,(aaC x r_ u1)),(29,(ZV x r_ u1 u3)),(35,(abd x r_ u1 u3 u5))],an:=[(5,cA q0 []),(13, .call [] (vB u1) []),(26, .call [] (vB u3) []),(32, .call [] (vB u5) []),(38, .call [] (vB u9) [])] } [] ⟨q0,(ae ⟨(fun hg=> ⟨(aV x.b 0 (k28 x1) (fD hr_1 (aU hg))),trivial⟩),(ae (ae (ae ⟨(fun hg=> ⟨(aV x.kind 1 3 (fD hr_2 (aU hg))),trivial⟩),(ae (ae ⟨(fun hg=> ⟨(aV x.most 1 100000 (fD hr_3 (aU hg))),trivial⟩),(ae (ae ⟨(fun hg=> ⟨(aV x.bK 10 100000 (fD hr_4 (aU hg))),trivial⟩),(ae trivial)⟩))⟩))⟩)))⟩)⟩ ?_
 refine bI h (fun hb2 h=> ?_) (fun hb2 h=> ?_)
 ·refine ct hb2 ?_
  refine sz tT ⟨[(3,(vB false))],[]⟩ {} [] ?_
  refine aR ?_
  obtain rfl:=oi h
  exact rl [(sB false)]
 ·refine cf hb2 ?_
  refine aP (aQ (sz tT ⟨[(Ld x),(k98 x),(k99 x),(50,(vI 0))],[]⟩ {} [5] ?_))
  refine bE h fun y hy h=> ?_
  refine aL [] (zA x) (zC x) ug hy (fun s f h=> ?_) ?_
  ·clear hy
   show bG _ _ _ _ _ _ ((G9 x) f) _
   unfold kK at h
   obtain⟨u0,rfl⟩: ∃q,q=s:=⟨_,rfl⟩
   refine sz tT ⟨[(Ld x),(k98 x),(k99 x),(50,(vI u0)),(51,(vB (decide (u0<(x.trip.length:Int)))))],[]⟩ {} [] ?_
   refine aQ ?_
   refine bI h (fun hb1 h=> ?_) (fun hb1 h=> ?_)
   ·refine ct hb1 ?_
    refine aP (aQ (aB (aQ (aO h fun a1 h=> ?_))))
    refine rg tT ⟨[(Ld x),(4,(vI u0)),(5,(k22 x u0)),(k98 x),(k99 x),(50,(vI u0))],[]⟩ [_] {fr:=[(3,9)] } [9] ⟨a1,trivial⟩ ?_
    refine aQ (bE h fun u2 hr_5 h=> ?_)
    refine bE h fun u4 hr_6 h=> ?_
    refine aO h fun⟨a1,a2⟩ h=> ?_
    have q0:=aV ((at' x.trip u0.toNat).amps) 1 1000000 hr_5
    refine dg tT mX ⟨[(Ld x),(k98 x),(k99 x),(50,(vI u0)),(92,(vB (bif (KN u2 u4)then true else(k26 x u0))))],[]⟩ (_::(eqs (!u2) 3 ((gP (ab5 x u2 u4 u0) [(4,false)]→All [Fn Tryz.prog 108 [(sI (k23 x u0)),(sI 1),(sI 100000)] [] (vB u4) []])::(eqs (!u2) 2 (eqs (KN u2 u4) 3 (eqs (decide (0<u0)) 7 ((gP (ab5 x u2 u4 u0) [(13,true),(10,false)]→All [(0:Int)≤(k28 u0)∧(k28 u0)<(x.trip.length:Int)])::(eqs (decide (0<u0)) 4 (eqs (k27 x u0) 7 ((gP (ab5 x u2 u4 u0) [(24,false),(13,true),(10,false)]→All [(0:Int)≤(k28 u0)∧(k28 u0)<(x.trip.length:Int)])::(eqs (k27 x u0) 3 [(decide (0<u0))=(decide (0<u0)),gP (ab5 x u2 u4 u0) [(13,true),(10,false)]→All [(k27 x u0)=(k27 x u0)],(KN u2 u4)=(KN u2 u4),gP (ab5 x u2 u4 u0) [(10,false)]→All [(decide (0<u0))=(decide (0<u0))],(KN u2 u4)=(KN u2 u4)]))))))))))) {yb:=[(4,(!u2)),(10,(KN u2 u4)),(13,(decide (0<u0))),(24,(k27 x u0))],an:=[(2,cA q0 []),(7, .call [] (vB u4) [])] } [] ⟨q0,(ae ⟨(fun hg=> ⟨(aV (k23 x u0) 1 100000 (fD hr_6 (aU hg))),trivial⟩),(ae (ae (ae ⟨(fun hg=> ⟨(a1 (aU hg)),trivial⟩),(ae (ae ⟨(fun hg=> ⟨(a2 (aU hg)),trivial⟩),(ae ⟨rfl,(fun hg=> ⟨rfl,trivial⟩),rfl,(fun hg=> ⟨rfl,trivial⟩),rfl,trivial⟩)⟩))⟩)))⟩)⟩ ?_
    refine bI h (fun hb h=> ?_) (fun hb h=> ?_)
    ·refine ct hb ?_
     refine sz tT ⟨[(3,(vB false))],[]⟩ {} [] ?_
     refine aR ?_
     obtain rfl:=oi h
     exact lR bY (dm 0) bZ (aW.mk (.inr rfl) (p:=[]) (l:=[(sB false)]) (by kernel_rfl) trivial (fe.refl _) trivial)
    ·refine cf hb ?_
     refine aP (rz tT ⟨[(Ld x),(k98 x),(k99 x),(50,(Am u0))],[]⟩ {} [] ?_)
     obtain rfl:=oi h
     exact lN
   ·refine cf hb1 ?_
    refine aI (fz (amY x) []) ?_
    refine aX ?_
    obtain rfl:=oi h
    exact lB
  ·clear hy
   cases y with
   |brk z=>
    unfold fE
    refine⟨_, .refl, ?_⟩
    refine sg tT ⟨[(3,(vB (aj5 x)))],[]⟩ (eqs (Uz x) 5 (eqs (Zt x) 3 [(Uz x)=(Uz x),gP (ic [(4,(Uz x)),(9,(Zt x))]) [(4,true)]→All [(Zt x)=(Zt x)],(Uz x)=(Uz x)])) {yb:=[(4,(Uz x)),(9,(Zt x))] } [] (ae (ae ⟨rfl,(fun hg=> ⟨rfl,trivial⟩),rfl,trivial⟩)) ?_
    refine aR ?_
    obtain rfl:=oi h
    exact rl [(sB (aj5 x))]
   |ret v=>
    obtain rfl:=oi h
    unfold fE
    intro e st hn ha hR
    cases e with
    |normal=>exact absurd rfl hn
    |exit id=>exact hR
    |goto l=>exact hR
    |ret=>exact hR
    |panic c=>exact hR
    |outgrown=>exact hR
def ET  :Bool→Exit→St→Prop:=
  fun r=>aW TT [.tmp 3] (vB r) []
section
variable (x1:Int) (u0:(List Source)) (u1:(List Link)) (u2:(List aJ))
abbrev ahx:DV:=(oL [(.fn 136 1 (k85 x1 u0 u1 u2))] 0)
abbrev aks:TV:=(vD (ahx x1 u0 u1 u2))
end
theorem Dt (x:Link) (x1:Int) (u0:(List Source)) (u1:(List Link)) (u2:(List aJ)) {r:Bool} (h:nH x x1 u0 u1 u2=some r):Fn Tryz.prog 135 [(.agg (k2 x)),(sD (ahx x1 u0 u1 u2))] [] (vB r) []:=by
 refine fN tT Tryz.func135 rfl rfl fun B=> ?_
 show bG _ _ _ _ _ _ (ET r) _
 unfold nH at h
 refine sz tT ⟨[(1,(aks x1 u0 u1 u2)),(Ld x)],[]⟩ {fr:=[(0,1)] } [1] ?_
 refine aQ (bE h fun r_ hr_ h=> ?_)
 have q0:=H8 x x1 u0 u1 u2 hr_
 refine rg tT ⟨[(3,(vB (!r_)))],[]⟩ [_] {an:=[(2,cA q0 [])] } [] ⟨q0,trivial⟩ ?_
 refine aR ?_
 obtain rfl:=oi h
 exact rl [(sB (!r_))]
def lU  :Int→Exit→St→Prop:=
  fun r=>aW TT [.tmp 4] (vI r) []
section
variable (s_:(List Link)) (f_:Int) (u0:(List Source)) (u1:(List Link)) (u2:(List aJ))
abbrev vR:Nat × TV:=(0,(vD (k74 s_)))
abbrev ajf:=(wQ [(ahx f_ u0 u1 u2)])
abbrev Vs:Nat × TV:=(1,(vD (.fn 135 1 (ajf f_ u0 u1 u2))))
abbrev Yi:Nat × TV:=(7,(vI (s_.length:Int)))
end
def pX (s_:(List Link)) (f_:Int) (u0:(List Source)) (u1:(List Link)) (u2:(List aJ)):Int→St:=
  fun t8=> ⟨[(vR s_),(Vs f_ u0 u1 u2),(Yi s_),(8,(vI t8))],[]⟩
def p8  :Unit→St:=
  fun _=> ⟨[],[]⟩
def zQ (s_:(List Link)) (f_:Int) (u0:(List Source)) (u1:(List Link)) (u2:(List aJ)):(aM Int (Ex Unit Int))→Exit→St→Prop:=
  LQ 0 [] (pX s_ f_ u0 u1 u2) p8 lU
section
variable (s_:(List Link)) (f_:Int) (u0:(List Source)) (u1:(List Link)) (u2:(List aJ))
abbrev agH:List SV:=[(sD (k74 s_)),(sD (.fn 135 1 (ajf f_ u0 u1 u2)))]
abbrev akr:St:=⟨[(vR s_),(Vs f_ u0 u1 u2)],[]⟩
end
theorem zW (s_:(List Link)) (f_:Int) (u0:(List Source)) (u1:(List Link)) (u2:(List aJ)) {r:Int} (h:jZ s_ f_ u0 u1 u2=some r):Fn Tryz.prog 150 (agH s_ f_ u0 u1 u2) [] (vI r) []:=by
 refine fN tT Tryz.func150 rfl rfl fun B=> ?_
 show bG _ _ _ _ _ _ (lU r) _
 unfold jZ at h
 refine sz tT (akr s_ f_ u0 u1 u2) {} [] ?_
 refine aQ (sz tT ⟨[(vR s_),(Vs f_ u0 u1 u2),(Yi s_),(8,(vI 0))],[]⟩ {} [] ?_)
 refine bE h fun y hy h=> ?_
 refine aL [] (pX s_ f_ u0 u1 u2) p8 lU hy (fun s f h=> ?_) ?_
 ·clear hy
  show bG _ _ _ _ _ _ ((zQ s_ f_ u0 u1 u2) f) _
  unfold iK at h
  obtain⟨t8,rfl⟩: ∃q,q=s:=⟨_,rfl⟩
  refine sz tT ⟨[(vR s_),(Vs f_ u0 u1 u2),(Yi s_),(8,(vI t8)),(9,(vB (decide (t8<(s_.length:Int)))))],[]⟩ {} [] ?_
  refine aQ ?_
  refine bI h (fun hb1 h=> ?_) (fun hb1 h=> ?_)
  ·refine ct hb1 ?_
   refine aP (aQ (aB (sz tT ⟨[(vR s_),(Vs f_ u0 u1 u2),(5,(vI t8)),(Yi s_),(8,(vI t8))],[]⟩ {} [] ?_)))
   refine aQ (bE h fun r_ hr_ h=> ?_)
   refine aO h fun a1 h=> ?_
   have q1:=Dt (at' s_ t8.toNat) f_ u0 u1 u2 hr_
   refine rg tT ⟨[(vR s_),(Vs f_ u0 u1 u2),(5,(vI t8)),(Yi s_),(8,(vI t8)),(16,(vB r_))],[]⟩ [_,_] {an:=[(5,cA q1 [])] } [] ⟨a1,q1,trivial⟩ ?_
   refine bI h (fun hb h=> ?_) (fun hb h=> ?_)
   ·refine ct hb ?_
    refine sz tT ⟨[(4,(vI t8))],[]⟩ {} [] ?_
    refine aR ?_
    obtain rfl:=oi h
    exact lR bY (dm 0) bZ (aW.mk (.inr rfl) (p:=[]) (l:=[(sI t8)]) (by kernel_rfl) trivial (fe.refl _) trivial)
   ·refine cf hb ?_
    refine aP (rz tT ⟨[(vR s_),(Vs f_ u0 u1 u2),(Yi s_),(Zv t8)],[]⟩ {} [] ?_)
    obtain rfl:=oi h
    exact lN
  ·refine cf hb1 ?_
   refine aI (fz ⟨[],[]⟩ []) ?_
   refine aX ?_
   obtain rfl:=oi h
   exact lB
 ·clear hy
  cases y with
  |brk z=>
   unfold fE
   refine⟨_, .refl, ?_⟩
   refine sz tT ⟨[(4,(vI (-1)))],[]⟩ {} [] ?_
   refine aR ?_
   obtain rfl:=oi h
   exact rl [(sI (-1))]
  |ret v=>
   obtain rfl:=oi h
   unfold fE
   intro e st hn ha hR
   cases e with
   |normal=>exact absurd rfl hn
   |exit id=>exact hR
   |goto l=>exact hR
   |ret=>exact hR
   |panic c=>exact hR
   |outgrown=>exact hR
def xN  :Bool→Exit→St→Prop:=
  fun r=>aW TT [.tmp 4] (vB r) []
theorem wL (s_:(List Link)) (f_:Int) (u0:(List Source)) (u1:(List Link)) (u2:(List aJ)) {r:Bool} (h:fK s_ f_ u0 u1 u2=some r):Fn Tryz.prog 134 (agH s_ f_ u0 u1 u2) [] (vB r) []:=by
 refine fN tT Tryz.func134 rfl rfl fun B=> ?_
 show bG _ _ _ _ _ _ (xN r) _
 unfold fK at h
 refine sz tT (akr s_ f_ u0 u1 u2) {} [] ?_
 refine aQ (bE h fun r_ hr_ h=> ?_)
 have q0:=zW s_ f_ u0 u1 u2 hr_
 refine rg tT (k94 r_) [_] {an:=[(2,cA q0 [])] } [] ⟨q0,trivial⟩ ?_
 refine aR ?_
 obtain rfl:=oi h
 exact rl [(sB (decide (0≤r_)))]
def Jm  :Bool→Exit→St→Prop:=
  fun r=>aW TT [.tmp 6] (vB r) []
theorem Ig (l:(List Link)) (u0:Int) (u1:Int) (u2:(List Source)) (u3:(List Link)) (u4:(List aJ)) {r:Bool} (h:ol l u0 u1 u2 u3 u4=some r):Fn Tryz.prog 111 [(sD (k74 l)),(sI u0),(sD (.fn 136 1 (k85 u1 u2 u3 u4)))] [] (vB r) []:=by
 refine fN tT Tryz.func111 rfl rfl fun B=> ?_
 show bG _ _ _ _ _ _ (Jm r) _
 unfold ol at h
 refine sz tT ⟨[(vR l),(1,(vI u0)),(5,(aks u1 u2 u3 u4))],[]⟩ {fr:=[(0,1)] } [1] ?_
 refine aQ (bE h fun r_ hr_ h=> ?_)
 refine rg tT ⟨[(6,(vB (bif (decide ((l.length:Int)≤u0))then(!r_)else false)))],[]⟩ (eqs (decide ((l.length:Int)≤u0)) 3 ((gP (ic [(4,(decide ((l.length:Int)≤u0)))]) [(4,true)]→All [Fn Tryz.prog 134 (agH l u1 u2 u3 u4) [] (vB r_) []])::(eqs (decide ((l.length:Int)≤u0)) 2 []))) {yb:=[(4,(decide ((l.length:Int)≤u0)))],an:=[(7, .call [] (vB r_) [])] } [] (ae ⟨(fun hg=> ⟨(wL l u1 u2 u3 u4 (fD hr_ (aU hg))),trivial⟩),(ae trivial)⟩) ?_
 refine aR ?_
 obtain rfl:=oi h
 exact rl [(sB (bif (decide ((l.length:Int)≤u0))then(!r_)else false))]
def K6  :Int→Exit→St→Prop:=
  fun r=>aW TT [.tmp 2] (vI r) []
section
variable (x:aJ)
abbrev aeC:List CV:=[(cI x.feeds.e0),(cI x.feeds.e1),(cI x.power),(cI x.paths)]
abbrev aiN:TV:=(vD (oL [(.int .i64 x.feeds.e0),(.int .i64 x.feeds.e1),(.int .i64 x.power),(.int .i64 x.paths)] 0))
end
theorem Jh (x:aJ) {r:Int} (h:pQ x=some r):Fn Tryz.prog 140 [(.agg (aeC x))] [] (vI r) []:=by
 refine fN tT Tryz.func140 rfl rfl fun B=> ?_
 show bG _ _ _ _ _ _ (K6 r) _
 unfold pQ at h
 refine sz tT ⟨[(1,(aiN x))],[]⟩ {fr:=[(0,1)] } [1] ?_
 refine aQ (sg tT ⟨[(6,(vB (decide (x.feeds.e1=(-1)))))],[]⟩ [(0:Int)≤1∧(1:Int)<(2:Nat)] {} [] ⟨((by decide)),trivial⟩ ?_)
 refine bI h (fun hb h=> ?_) (fun hb h=> ?_)
 ·refine ct hb ?_
  refine sz tT ⟨[(2,(vI 1))],[]⟩ {} [] ?_
  refine aR ?_
  obtain rfl:=oi h
  exact rl [(sI 1)]
 ·refine cf hb ?_
  refine aP (sz tT ⟨[(2,(vI 2))],[]⟩ {} [] ?_)
  refine aR ?_
  obtain rfl:=oi h
  exact rl [(sI 2)]
def JR  :Bool→Exit→St→Prop:=
  fun r=>aW TT [.tmp 3] (vB r) []
section
variable (x:aJ) (r_:Bool) (u0:Bool) (u1:Bool) (u6:Bool)
abbrev ahT:Nat × TV:=(2,(aiN x))
abbrev X0:=(bif (NP r_ u0)then(!decide (x.feeds.e0=x.feeds.e1))else false)
abbrev TB:=(bif (X0 x r_ u0)then u1 else false)
abbrev alv:=(bif (TB x r_ u0 u1)then u6 else false)
abbrev adU:=(ic [(5,r_),(12,(NP r_ u0)),(17,(X0 x r_ u0)),(22,(TB x r_ u0 u1))])
end
theorem IG (x:aJ) (x1:Int) (u2:(List Source)) (u3:(List Link)) (u4:(List aJ)) {r:Bool} (h:nV x x1 u2 u3 u4=some r):Fn Tryz.prog 139 [(.agg (aeC x)),(sD (k72 u2 u3 u4 x1))] [] (vB r) []:=by
 refine fN tT Tryz.func139 rfl rfl fun B=> ?_
 show bG _ _ _ _ _ _ (JR r) _
 unfold nV at h
 refine sz tT ⟨[(k76 u2 u3 u4 x1),(ahT x)],[]⟩ {fr:=[(0,1)] } [1] ?_
 refine sd tT mX ⟨[(k76 u2 u3 u4 x1),(ahT x),(4,(vI x.feeds.e0)),(5,(vI x.feeds.e1))],[]⟩ [(0:Int)≤0∧(0:Int)<(2:Nat),(0:Int)≤1∧(1:Int)<(2:Nat)] {} [] ⟨((by decide)),((by decide)),trivial⟩ ?_
 refine aQ (bE h fun r_ hr_ h=> ?_)
 refine bE h fun u0 hr_1 h=> ?_
 refine bE h fun u1 hr_2 h=> ?_
 refine bE h fun u5 hr_3 h=> ?_
 refine bE h fun u6 hr_4 h=> ?_
 have q0:=aV x.feeds.e0 0 (k28 x1) hr_
 refine dg tT mX ⟨[(3,(vB (alv x r_ u0 u1 u6)))],[]⟩ (_::(eqs r_ 5 ((gP (adU x r_ u0 u1) [(5,true)]→All [Fn Tryz.prog 108 [(sI x.feeds.e1),(sI (-1)),(sI (k28 x1))] [] (vB u0) []])::(r_=r_)::(eqs (NP r_ u0) 4 (eqs (X0 x r_ u0) 3 ((gP (adU x r_ u0 u1) [(17,true)]→All [Fn Tryz.prog 108 [(sI x.power),(sI 1),(sI 100000)] [] (vB u1) []])::((X0 x r_ u0)=(X0 x r_ u0))::(eqs (TB x r_ u0 u1) 4 [gP (adU x r_ u0 u1) [(22,true)]→All [Fn Tryz.prog 140 [(.agg (aeC x))] [] (vI u5) []],(TB x r_ u0 u1)=(TB x r_ u0 u1),gP (adU x r_ u0 u1) [(22,true)]→All [Fn Tryz.prog 108 [(sI x.paths),(sI 0),(sI u5)] [] (vB u6) []],(TB x r_ u0 u1)=(TB x r_ u0 u1)]))))))) {yb:=[(5,r_),(12,(NP r_ u0)),(17,(X0 x r_ u0)),(22,(TB x r_ u0 u1))],an:=[(4,cA q0 []),(10, .call [] (vB u0) []),(20, .call [] (vB u1) []),(26, .call [] (vI u5) []),(27, .call [] (vB u6) [])] } [] ⟨q0,(ae ⟨(fun hg=> ⟨(aV x.feeds.e1 (-1) (k28 x1) (fD hr_1 (aU hg))),trivial⟩),rfl,(ae (ae ⟨(fun hg=> ⟨(aV x.power 1 100000 (fD hr_2 (aU hg))),trivial⟩),rfl,(ae ⟨(fun hg=> ⟨(Jh x (fD hr_3 (aU hg))),trivial⟩),rfl,(fun hg=> ⟨(aV x.paths 0 u5 (fD hr_4 (aU hg))),trivial⟩),rfl,trivial⟩)⟩))⟩)⟩ ?_
 refine aR ?_
 obtain rfl:=oi h
 exact rl [(sB (alv x r_ u0 u1 u6))]
def EU  :Bool→Exit→St→Prop:=
  fun r=>aW TT [.tmp 3] (vB r) []
section
variable (x1:Int) (u0:(List Source)) (u1:(List Link)) (u2:(List aJ))
abbrev ahg:DV:=(oL [(.fn 139 1 (k85 x1 u0 u1 u2))] 0)
abbrev alO:TV:=(vD (ahg x1 u0 u1 u2))
end
theorem Ei (x:aJ) (x1:Int) (u0:(List Source)) (u1:(List Link)) (u2:(List aJ)) {r:Bool} (h:nN x x1 u0 u1 u2=some r):Fn Tryz.prog 138 [(.agg (aeC x)),(sD (ahg x1 u0 u1 u2))] [] (vB r) []:=by
 refine fN tT Tryz.func138 rfl rfl fun B=> ?_
 show bG _ _ _ _ _ _ (EU r) _
 unfold nN at h
 refine sz tT ⟨[(1,(alO x1 u0 u1 u2)),(ahT x)],[]⟩ {fr:=[(0,1)] } [1] ?_
 refine aQ (bE h fun r_ hr_ h=> ?_)
 have q0:=IG x x1 u0 u1 u2 hr_
 refine rg tT ⟨[(3,(vB (!r_)))],[]⟩ [_] {an:=[(2,cA q0 [])] } [] ⟨q0,trivial⟩ ?_
 refine aR ?_
 obtain rfl:=oi h
 exact rl [(sB (!r_))]
def lq  :Int→Exit→St→Prop:=
  fun r=>aW TT [.tmp 4] (vI r) []
section
variable (s_:(List aJ)) (f_:Int) (u0:(List Source)) (u1:(List Link)) (u2:(List aJ))
abbrev DL:Nat × TV:=(0,(vD (k75 s_)))
abbrev akH:=(wQ [(ahg f_ u0 u1 u2)])
abbrev Vj:Nat × TV:=(1,(vD (.fn 138 1 (akH f_ u0 u1 u2))))
abbrev XU:Nat × TV:=(7,(vI (s_.length:Int)))
end
def qf (s_:(List aJ)) (f_:Int) (u0:(List Source)) (u1:(List Link)) (u2:(List aJ)):Int→St:=
  fun t8=> ⟨[(DL s_),(Vj f_ u0 u1 u2),(XU s_),(8,(vI t8))],[]⟩
def pY  :Unit→St:=
  fun _=> ⟨[],[]⟩
def zO (s_:(List aJ)) (f_:Int) (u0:(List Source)) (u1:(List Link)) (u2:(List aJ)):(aM Int (Ex Unit Int))→Exit→St→Prop:=
  LQ 0 [] (qf s_ f_ u0 u1 u2) pY lq
section
variable (s_:(List aJ)) (f_:Int) (u0:(List Source)) (u1:(List Link)) (u2:(List aJ))
abbrev agc:List SV:=[(sD (k75 s_)),(sD (.fn 138 1 (akH f_ u0 u1 u2)))]
abbrev amM:St:=⟨[(DL s_),(Vj f_ u0 u1 u2)],[]⟩
end
theorem zN (s_:(List aJ)) (f_:Int) (u0:(List Source)) (u1:(List Link)) (u2:(List aJ)) {r:Int} (h:jY s_ f_ u0 u1 u2=some r):Fn Tryz.prog 151 (agc s_ f_ u0 u1 u2) [] (vI r) []:=by
 refine fN tT Tryz.func151 rfl rfl fun B=> ?_
 show bG _ _ _ _ _ _ (lq r) _
 unfold jY at h
 refine sz tT (amM s_ f_ u0 u1 u2) {} [] ?_
 refine aQ (sz tT ⟨[(DL s_),(Vj f_ u0 u1 u2),(XU s_),(8,(vI 0))],[]⟩ {} [] ?_)
 refine bE h fun y hy h=> ?_
 refine aL [] (qf s_ f_ u0 u1 u2) pY lq hy (fun s f h=> ?_) ?_
 ·clear hy
  show bG _ _ _ _ _ _ ((zO s_ f_ u0 u1 u2) f) _
  unfold iM at h
  obtain⟨t8,rfl⟩: ∃q,q=s:=⟨_,rfl⟩
  refine sz tT ⟨[(DL s_),(Vj f_ u0 u1 u2),(XU s_),(8,(vI t8)),(9,(vB (decide (t8<(s_.length:Int)))))],[]⟩ {} [] ?_
  refine aQ ?_
  refine bI h (fun hb1 h=> ?_) (fun hb1 h=> ?_)
  ·refine ct hb1 ?_
   refine aP (aQ (aB (sz tT ⟨[(DL s_),(Vj f_ u0 u1 u2),(5,(vI t8)),(XU s_),(8,(vI t8))],[]⟩ {} [] ?_)))
   refine aQ (bE h fun r_ hr_ h=> ?_)
   refine aO h fun a1 h=> ?_
   have q1:=Ei (⟨((at' s_ t8.toNat).feeds),(at' s_ t8.toNat).power,(at' s_ t8.toNat).paths⟩:aJ) f_ u0 u1 u2 hr_
   refine rg tT ⟨[(DL s_),(Vj f_ u0 u1 u2),(5,(vI t8)),(XU s_),(8,(vI t8)),(16,(vB r_))],[]⟩ [_,_] {an:=[(5,cA q1 [])] } [] ⟨a1,q1,trivial⟩ ?_
   refine bI h (fun hb h=> ?_) (fun hb h=> ?_)
   ·refine ct hb ?_
    refine sz tT ⟨[(4,(vI t8))],[]⟩ {} [] ?_
    refine aR ?_
    obtain rfl:=oi h
    exact lR bY (dm 0) bZ (aW.mk (.inr rfl) (p:=[]) (l:=[(sI t8)]) (by kernel_rfl) trivial (fe.refl _) trivial)
   ·refine cf hb ?_
    refine aP (rz tT ⟨[(DL s_),(Vj f_ u0 u1 u2),(XU s_),(Zv t8)],[]⟩ {} [] ?_)
    obtain rfl:=oi h
    exact lN
  ·refine cf hb1 ?_
   refine aI (fz ⟨[],[]⟩ []) ?_
   refine aX ?_
   obtain rfl:=oi h
   exact lB
 ·clear hy
  cases y with
  |brk z=>
   unfold fE
   refine⟨_, .refl, ?_⟩
   refine sz tT ⟨[(4,(vI (-1)))],[]⟩ {} [] ?_
   refine aR ?_
   obtain rfl:=oi h
   exact rl [(sI (-1))]
  |ret v=>
   obtain rfl:=oi h
   unfold fE
   intro e st hn ha hR
   cases e with
   |normal=>exact absurd rfl hn
   |exit id=>exact hR
   |goto l=>exact hR
   |ret=>exact hR
   |panic c=>exact hR
   |outgrown=>exact hR
def xD  :Bool→Exit→St→Prop:=
  fun r=>aW TT [.tmp 4] (vB r) []
theorem wO (s_:(List aJ)) (f_:Int) (u0:(List Source)) (u1:(List Link)) (u2:(List aJ)) {r:Bool} (h:fO s_ f_ u0 u1 u2=some r):Fn Tryz.prog 137 (agc s_ f_ u0 u1 u2) [] (vB r) []:=by
 refine fN tT Tryz.func137 rfl rfl fun B=> ?_
 show bG _ _ _ _ _ _ (xD r) _
 unfold fO at h
 refine sz tT (amM s_ f_ u0 u1 u2) {} [] ?_
 refine aQ (bE h fun r_ hr_ h=> ?_)
 have q0:=zN s_ f_ u0 u1 u2 hr_
 refine rg tT (k94 r_) [_] {an:=[(2,cA q0 [])] } [] ⟨q0,trivial⟩ ?_
 refine aR ?_
 obtain rfl:=oi h
 exact rl [(sB (decide (0≤r_)))]
def I8  :Bool→Exit→St→Prop:=
  fun r=>aW TT [.tmp 6] (vB r) []
theorem GU (l:(List aJ)) (u0:Int) (u1:Int) (u2:(List Source)) (u3:(List Link)) (u4:(List aJ)) {r:Bool} (h:oq l u0 u1 u2 u3 u4=some r):Fn Tryz.prog 113 [(sD (k75 l)),(sI u0),(sD (.fn 139 1 (k85 u1 u2 u3 u4)))] [] (vB r) []:=by
 refine fN tT Tryz.func113 rfl rfl fun B=> ?_
 show bG _ _ _ _ _ _ (I8 r) _
 unfold oq at h
 refine sz tT ⟨[(DL l),(1,(vI u0)),(5,(alO u1 u2 u3 u4))],[]⟩ {fr:=[(0,1)] } [1] ?_
 refine aQ (bE h fun r_ hr_ h=> ?_)
 refine rg tT ⟨[(6,(vB (bif (decide ((l.length:Int)≤u0))then(!r_)else false)))],[]⟩ (eqs (decide ((l.length:Int)≤u0)) 3 ((gP (ic [(4,(decide ((l.length:Int)≤u0)))]) [(4,true)]→All [Fn Tryz.prog 137 (agc l u1 u2 u3 u4) [] (vB r_) []])::(eqs (decide ((l.length:Int)≤u0)) 2 []))) {yb:=[(4,(decide ((l.length:Int)≤u0)))],an:=[(7, .call [] (vB r_) [])] } [] (ae ⟨(fun hg=> ⟨(wO l u1 u2 u3 u4 (fD hr_ (aU hg))),trivial⟩),(ae trivial)⟩) ?_
 refine aR ?_
 obtain rfl:=oi h
 exact rl [(sB (bif (decide ((l.length:Int)≤u0))then(!r_)else false))]
def Ku  :Int→Exit→St→Prop:=
  fun r=>aW TT [.tmp 2] (vI r) []
theorem Aq (p:ah) {r:Int} (h:nk p=some r):Fn Tryz.prog 83 (k35 p) [] (vI r) []:=by
 refine fN tT Tryz.func83 rfl rfl fun B=> ?_
 show bG _ _ _ _ _ _ (Ku r) _
 unfold nk at h
 refine sz tT (k68 p) {fr:=[(0,1)] } [1] ?_
 refine aQ (aB (aQ (bE h fun r_ hr_ h=> ?_)))
 have q0:=aV p.buses 1 24 hr_
 refine rg tT ⟨[(k67 p),(3,(vB (!r_)))],[]⟩ [_] {an:=[(2,cA q0 [])] } [] ⟨q0,trivial⟩ ?_
 refine bI h (fun hb3 h=> ?_) (fun hb3 h=> ?_)
 ·refine ct hb3 ?_
  refine sz tT ⟨[(2,(vI 10))],[]⟩ {} [] ?_
  refine aR ?_
  obtain rfl:=oi h
  exact rl [(sI 10)]
 ·refine cf hb3 ?_
  refine aQ (bE h fun u0 hr_1 h=> ?_)
  refine bE h fun u3 hr_2 h=> ?_
  have q0:=G6 p hr_1
  have q1:=KW p.sources 8 u0.1 u0.2.1 u0.2.2.1 u0.2.2.2 hr_2
  refine dg tT mX ⟨[(k67 p),(8,(vB (!u3)))],[]⟩ [_,_] {an:=[(3,cA q0 []),(4,cA q1 [])] } [] ⟨q0,q1,trivial⟩ ?_
  refine bI h (fun hb2 h=> ?_) (fun hb2 h=> ?_)
  ·refine ct hb2 ?_
   refine sz tT ⟨[(2,(vI 11))],[]⟩ {} [] ?_
   refine aR ?_
   obtain rfl:=oi h
   exact rl [(sI 11)]
  ·refine cf hb2 ?_
   refine aQ (bE h fun u1 hr_3 h=> ?_)
   refine bE h fun u4 hr_4 h=> ?_
   have q0:=Kt p hr_3
   have q1:=Ig p.links 40 u1.1 u1.2.1 u1.2.2.1 u1.2.2.2 hr_4
   refine dg tT mX ⟨[(k67 p),(15,(vB (!u4)))],[]⟩ [_,_] {an:=[(3,cA q0 []),(4,cA q1 [])] } [] ⟨q0,q1,trivial⟩ ?_
   refine bI h (fun hb1 h=> ?_) (fun hb1 h=> ?_)
   ·refine ct hb1 ?_
    refine sz tT ⟨[(2,(vI 12))],[]⟩ {} [] ?_
    refine aR ?_
    obtain rfl:=oi h
    exact rl [(sI 12)]
   ·refine cf hb1 ?_
    refine aQ (bE h fun u2 hr_5 h=> ?_)
    refine bE h fun u5 hr_6 h=> ?_
    have q0:=Ki p hr_5
    have q1:=GU p.racks 24 u2.1 u2.2.1 u2.2.2.1 u2.2.2.2 hr_6
    refine dg tT mX ⟨[(22,(vB (!u5)))],[]⟩ [_,_] {an:=[(3,cA q0 []),(4,cA q1 [])] } [] ⟨q0,q1,trivial⟩ ?_
    refine bI h (fun hb h=> ?_) (fun hb h=> ?_)
    ·refine ct hb ?_
     refine sz tT ⟨[(2,(vI 13))],[]⟩ {} [] ?_
     refine aR ?_
     obtain rfl:=oi h
     exact rl [(sI 13)]
    ·refine cf hb ?_
     refine aP (sz tT ⟨[(2,(vI 0))],[]⟩ {} [] ?_)
     refine aR ?_
     obtain rfl:=oi h
     exact rl [(sI 0)]
def iR  :Int→Exit→St→Prop:=
  fun r=>aW TT [.tmp 4] (vI r) []
section
variable (s_:State) (p:ah)
abbrev QK:DV:=(aD none 1 af s_.closed)
abbrev KF:DV:=(aD none 1 af s_.locked)
abbrev MP:DV:=(aD none 1 af s_.badLink)
abbrev Ht:DV:=(aD none 1 af s_.on_)
abbrev Jy:DV:=(aD none 1 af s_.badSource)
abbrev EW:DV:=(aD none 1 af s_.earthed)
abbrev Ga:DV:=(aD none 1 af s_.badBus)
abbrev amU:DV:=(oL [(QK s_),(KF s_),(MP s_),(Ht s_),(Jy s_),(EW s_),(Ga s_)] 0)
abbrev Y2:TV:=(vD (amU s_))
abbrev dS:Nat × TV:=(3,(Y2 s_))
abbrev R5:=(⟨s_.closed,(p.links.length:Int)⟩:dX)
abbrev Ta:=(⟨s_.locked,(p.links.length:Int)⟩:dX)
abbrev Sn:=(⟨s_.badLink,(p.links.length:Int)⟩:dX)
abbrev Tn:=(⟨s_.on_,(p.sources.length:Int)⟩:dX)
abbrev Sd:=(⟨s_.badSource,(p.sources.length:Int)⟩:dX)
abbrev SG:=(⟨s_.earthed,p.buses⟩:dX)
abbrev Tq:=(⟨s_.badBus,p.buses⟩:dX)
abbrev YS:Nat × TV:=(53,(vO 13 true ([(R5 s_ p),(Ta s_ p),(Sn s_ p),(Tn s_ p),(Sd s_ p),(SG s_ p),(Tq s_ p)].length)))
abbrev Yv:Nat × TV:=(54,(vI ([(R5 s_ p),(Ta s_ p),(Sn s_ p),(Tn s_ p),(Sd s_ p),(SG s_ p),(Tq s_ p)].length:Int)))
abbrev ahk:Nat × Option Ob:=(11,some (Xh p))
abbrev XZ:List (Nat × Option Ob):=[(ahk p),(13,some (aF 167 2 dX.cell [(R5 s_ p),(Ta s_ p),(Sn s_ p),(Tn s_ p),(Sd s_ p),(SG s_ p),(Tq s_ p)]))]
end
def tH (p:ah) (s_:State):Int→St:=
  fun u0=> ⟨[(2,(vP 11 0)),(dS s_),(YS s_ p),(Yv s_ p),(55,(vI u0))],(XZ s_ p)⟩
section
variable (s_:State) (p:ah)
abbrev ak8:St:=⟨[(2,(vP 11 0)),(dS s_)],[(ahk p)]⟩
end
def sS (p:ah) (s_:State):Unit→St:=
  fun _=>(ak8 s_ p)
def CU (p:ah) (s_:State):(aM Int (Ex Unit Int))→Exit→St→Prop:=
  LQ 0 [] (tH p s_) (sS p s_) iR
section
variable (p:ah)
abbrev Yg:Nat × TV:=(67,(vD (k5 p)))
abbrev YN:Nat × TV:=(68,(vI (p.links.length:Int)))
end
def sV (p:ah) (s_:State):Int→St:=
  fun u0=> ⟨[(dS s_),(Yg p),(YN p),(69,(vI u0))],[]⟩
def sO  :Unit→St:=
  fun _=> ⟨[],[]⟩
def Dj (p:ah) (s_:State):(aM Int (Ex Unit Int))→Exit→St→Prop:=
  LQ 2 [] (sV p s_) sO iR
section
variable (s_:State) (p:ah) (u1:Int) (u0:Int)
abbrev Rx:List CV:=[(.d (QK s_)),(.d (KF s_)),(.d (MP s_)),(.d (Ht s_)),(.d (Jy s_)),(.d (EW s_)),(.d (Ga s_))]
abbrev Oc:List SV:=[(.agg (k3 p)),(.agg (Rx s_))]
abbrev ac5:Ob:=(.cells 29 (Rx s_))
abbrev adk:List (Nat × Option Ob):=[(ahk p),(12,some (ac5 s_))]
abbrev ajW:=(au dX.cell [(R5 s_ p),(Ta s_ p),(Sn s_ p),(Tn s_ p),(Sd s_ p),(SG s_ p),(Tq s_ p)])
abbrev al5:=(at' [(R5 s_ p),(Ta s_ p),(Sn s_ p),(Tn s_ p),(Sd s_ p),(SG s_ p),(Tq s_ p)] u1.toNat)
abbrev aiw:=((al5 s_ p u1).l)
abbrev amg:=((al5 s_ p u1).n)
abbrev Jq:=((at' p.links u0.toNat).a)
abbrev Gs:=((at' p.links u0.toNat).b)
abbrev ahM:TV:=(vD (oL [(.int .i64 (Jq p u0)),(.int .i64 (Gs p u0)),(.int .i64 ((at' p.links u0.toNat).kind)),(.int .i64 ((at' p.links u0.toNat).most)),(.int .i64 ((at' p.links u0.toNat).bK)),(aD none 2 bP.cell ((at' p.links u0.toNat).trip))] 0))
abbrev DU:Nat × TV:=(11,(ahM p u0))
abbrev DX:=(decide (((at' p.links u0.toNat).kind)=1))
abbrev Fe:=(!(at' s_.closed u0.toNat))
abbrev alP:TV:=(vB (bif (DX p u0)then(bif (Fe s_ u0)then true else(at' s_.locked u0.toNat))else false))
abbrev ahP:=(ic [(3,(DX p u0)),(10,(Fe s_ u0))])
end
theorem j4 (p:ah) (s_:State) {r:Int} (h:eT p s_=some r):Fn Tryz.prog 35 (Oc s_ p) [] (vI r) []:=by
 refine fN tT Tryz.func35 rfl rfl fun B=> ?_
 show bG _ _ _ _ _ _ (iR r) _
 unfold eT at h
 refine sz tT ⟨[(2,(vP 11 0)),(3,(vP 12 0))],(adk s_ p)⟩ {fr:=[(0,11),(1,12)] } [] ?_
 refine aQ (aQ (bE h fun r_ hr_ h=> ?_))
 have q0:=Aq p hr_
 refine rg tT ⟨[(2,(vP 11 0)),(3,(vP 12 0)),(5,(vI r_))],(adk s_ p)⟩ [_] {an:=[(1,cA q0 [])] } [] ⟨q0,trivial⟩ ?_
 refine sz tT ⟨[(2,(vP 11 0)),(3,(vP 12 0)),(5,(vI r_)),(15,(vB (!decide (r_=0))))],(adk s_ p)⟩ {} [] ?_
 refine bI h (fun hb4 h=> ?_) (fun hb4 h=> ?_)
 ·refine ct hb4 ?_
  refine sz tT ⟨[(4,(vI r_))],[]⟩ {} [] ?_
  refine aR ?_
  obtain rfl:=oi h
  exact rl [(sI r_)]
 ·refine cf hb4 ?_
  refine aP (sd tT mX ⟨[(2,(vP 11 0)),(3,(vP 12 0)),(6,(vI (p.links.length:Int))),(7,(vI (p.sources.length:Int)))],(adk s_ p)⟩ [] {} [] trivial ?_)
  refine aQ (sg tT ⟨[(2,(vP 11 0)),(dS s_),(YS s_ p),(Yv s_ p),(55,(vI 0))],(XZ s_ p)⟩ [[(R5 s_ p),(Ta s_ p),(Sn s_ p),(Tn s_ p),(Sd s_ p),(SG s_ p),(Tq s_ p)].length=7,aT 7 2 (xL 2 [(QK s_),(.int .i64 (p.links.length:Int)),(KF s_),(.int .i64 (p.links.length:Int)),(MP s_),(.int .i64 (p.links.length:Int)),(Ht s_),(.int .i64 (p.sources.length:Int)),(Jy s_),(.int .i64 (p.sources.length:Int)),(EW s_),(.int .i64 p.buses),(Ga s_),(.int .i64 p.buses)]) (ajW s_ p)] {an:=[(30, .arr [(R5 s_ p),(Ta s_ p),(Sn s_ p),(Tn s_ p),(Sd s_ p),(SG s_ p),(Tq s_ p)].length (ajW s_ p))],fr:=[(30,13)] } [12] ⟨(rfl),((by intro i hi j hj;match i,j,hi,hj with|0,0,_,_=>rfl|0,1,_,_=>rfl|1,0,_,_=>rfl|1,1,_,_=>rfl|2,0,_,_=>rfl|2,1,_,_=>rfl|3,0,_,_=>rfl|3,1,_,_=>rfl|4,0,_,_=>rfl|4,1,_,_=>rfl|5,0,_,_=>rfl|5,1,_,_=>rfl|6,0,_,_=>rfl|6,1,_,_=>rfl)),trivial⟩ ?_)
  refine bE h fun y hy h=> ?_
  refine aL [] (tH p s_) (sS p s_) iR hy (fun s f h=> ?_) ?_
  ·clear hy
   show bG _ _ _ _ _ _ ((CU p s_) f) _
   unfold iq at h
   obtain⟨u1,rfl⟩: ∃q,q=s:=⟨_,rfl⟩
   refine sz tT ⟨[(2,(vP 11 0)),(dS s_),(YS s_ p),(Yv s_ p),(55,(vI u1)),(56,(vB (decide (u1<([(R5 s_ p),(Ta s_ p),(Sn s_ p),(Tn s_ p),(Sd s_ p),(SG s_ p),(Tq s_ p)].length:Int)))))],(XZ s_ p)⟩ {} [] ?_
   refine aQ ?_
   refine bI h (fun hb1 h=> ?_) (fun hb1 h=> ?_)
   ·refine ct hb1 ?_
    refine aP (aQ (aB (aQ (aO h fun a1 h=> ?_))))
    refine rg tT ⟨[(2,(vP 11 0)),(dS s_),(9,(vD (oL [(aD none 1 af (aiw s_ p u1)),(.int .i64 (amg s_ p u1))] 0))),(YS s_ p),(Yv s_ p),(55,(vI u1))],(XZ s_ p)⟩ [_,_] {fr:=[(2,17)] } [17] ⟨a1,(tL a1),trivial⟩ ?_
    refine sz tT ⟨[(2,(vP 11 0)),(dS s_),(YS s_ p),(Yv s_ p),(55,(vI u1)),(64,(vB (!decide (((aiw s_ p u1).length:Int)=(amg s_ p u1)))))],(XZ s_ p)⟩ {} [] ?_
    refine bI h (fun hb h=> ?_) (fun hb h=> ?_)
    ·refine ct hb ?_
     refine sz tT ⟨[(4,(vI 9))],[]⟩ {} [] ?_
     refine aR ?_
     obtain rfl:=oi h
     exact lR bY (dm 0) bZ (aW.mk (.inr rfl) (p:=[]) (l:=[(sI 9)]) (by kernel_rfl) trivial (fe.refl _) trivial)
    ·refine cf hb ?_
     refine aP (rz tT ⟨[(2,(vP 11 0)),(dS s_),(YS s_ p),(Yv s_ p),(55,(Am u1))],(XZ s_ p)⟩ {} [] ?_)
     obtain rfl:=oi h
     exact lN
   ·refine cf hb1 ?_
    refine aI (fz (ak8 s_ p) []) ?_
    refine aX ?_
    obtain rfl:=oi h
    exact lB
  ·clear hy
   cases y with
   |brk z=>
    unfold fE
    refine⟨_, .refl, ?_⟩
    refine aQ (sz tT ⟨[(dS s_),(Yg p),(YN p),(69,(vI 0))],[]⟩ {} [] ?_)
    refine bE h fun y1 hy h=> ?_
    refine aL [] (sV p s_) sO iR hy (fun s f h=> ?_) ?_
    ·clear hy
     show bG _ _ _ _ _ _ ((Dj p s_) f) _
     unfold iA at h
     obtain⟨u0,rfl⟩: ∃q,q=s:=⟨_,rfl⟩
     refine sz tT ⟨[(dS s_),(Yg p),(YN p),(69,(vI u0)),(70,(k48 p u0))],[]⟩ {} [] ?_
     refine aQ ?_
     refine bI h (fun hb3 h=> ?_) (fun hb3 h=> ?_)
     ·refine ct hb3 ?_
      refine aP (aQ (aB (aQ (aO h fun a1 h=> ?_))))
      refine rg tT ⟨[(dS s_),(10,(vI u0)),(DU p u0),(Yg p),(YN p),(69,(vI u0))],[]⟩ [_] {fr:=[(3,21)] } [21] ⟨a1,trivial⟩ ?_
      refine aQ (aO h fun⟨a1,a2⟩ h=> ?_)
      refine rg tT ⟨[(dS s_),(Yg p),(YN p),(69,(vI u0)),(91,(alP s_ p u0))],[]⟩ (eqs (DX p u0) 4 ((gP (ahP s_ p u0) [(3,true)]→All [(0:Int)≤u0∧u0<(s_.closed.length:Int)])::(eqs (DX p u0) 3 (eqs (Fe s_ u0) 4 [gP (ahP s_ p u0) [(10,false),(3,true)]→All [(0:Int)≤u0∧u0<(s_.locked.length:Int)],(Fe s_ u0)=(Fe s_ u0),(DX p u0)=(DX p u0),gP (ahP s_ p u0) [(3,true)]→All [(Fe s_ u0)=(Fe s_ u0)],(DX p u0)=(DX p u0)])))) {yb:=[(3,(DX p u0)),(10,(Fe s_ u0))] } [] (ae ⟨(fun hg=> ⟨(a1 (aU hg)),trivial⟩),(ae (ae ⟨(fun hg=> ⟨(a2 (aU hg)),trivial⟩),rfl,rfl,(fun hg=> ⟨rfl,trivial⟩),rfl,trivial⟩))⟩) ?_
      refine bI h (fun hb2 h=> ?_) (fun hb2 h=> ?_)
      ·refine ct hb2 ?_
       refine sz tT ⟨[(4,(vI 9))],[]⟩ {} [] ?_
       refine aR ?_
       obtain rfl:=oi h
       exact lR bY (dm 2) bZ (aW.mk (.inr rfl) (p:=[]) (l:=[(sI 9)]) (by kernel_rfl) trivial (fe.refl _) trivial)
      ·refine cf hb2 ?_
       refine aP (rz tT ⟨[(dS s_),(Yg p),(YN p),(69,(Am u0))],[]⟩ {} [] ?_)
       obtain rfl:=oi h
       exact lN
     ·refine cf hb3 ?_
      refine aI (fz ⟨[],[]⟩ []) ?_
      refine aX ?_
      obtain rfl:=oi h
      exact lB
    ·clear hy
     cases y1 with
     |brk z=>
      unfold fE
      refine⟨_, .refl, ?_⟩
      refine sz tT ⟨[(4,(vI 0))],[]⟩ {} [] ?_
      refine aR ?_
      obtain rfl:=oi h
      exact rl [(sI 0)]
     |ret v=>
      obtain rfl:=oi h
      unfold fE
      intro e st hn ha hR
      cases e with
      |normal=>exact absurd rfl hn
      |exit id=>exact hR
      |goto l=>exact hR
      |ret=>exact hR
      |panic c=>exact hR
      |outgrown=>exact hR
   |ret v=>
    obtain rfl:=oi h
    unfold fE
    intro e st hn ha hR
    cases e with
    |normal=>exact absurd rfl hn
    |exit id=>exact hR
    |goto l=>exact hR
    |ret=>exact hR
    |panic c=>exact hR
    |outgrown=>exact hR
def Fh  :(List Bool)→Exit→St→Prop:=
  fun r=>aW TT [.tmp 2] (vO 0 false r.length) [(0,some (aF 4 1 af r))]
section
variable (s_:(List Bool))
abbrev FY:Ob:=(aF 4 1 af ([]:List Bool))
abbrev Es:=(([]:List Bool)++s_)
abbrev abV:=(au af (Es s_))
end
theorem uT (s_:(List Bool)) (u0:Bool) {r:(List Bool)} (h:rV s_ u0=some r):Fn Tryz.prog 84 [(sD (aD (some u0) 1 af s_))] [] (vO 0 false r.length) [(0,some (aF 4 1 af r))]:=by
 refine fN tT Tryz.func84 rfl rfl fun B=> ?_
 show bG _ _ _ _ _ _ (Fh r) _
 unfold rV at h
 refine sz tT ⟨[(0,(vD (aD (some u0) 1 af s_)))],[]⟩ {} [] ?_
 refine aQ (sz tT ⟨[(0,(vD (aD (some u0) 1 af s_))),(4,(vB (!u0)))],[]⟩ {} [] ?_)
 refine bI h (fun hb h=> ?_) (fun hb h=> ?_)
 ·refine ct hb ?_
  refine sz tT ⟨[(2,(vD nS))],[]⟩ {} [] ?_
  refine aI (.trans (bJ.Er (t:=2) (b:=2) (esz0:=0) (el0:=fun _ _=> .nilp) (E:=4) (esz:=1) (el:=au af ([]:List Bool)) (by kernel_rfl) (by kernel_rfl)) (.trans (bJ.fin (st':=⟨[(2,(vO 0 false 0))],[(0,some (.arr 4 1 0 (au af ([]:List Bool))))]⟩) (cs:=[]) ⟨[],[(2,0)]⟩ [2] (by kernel_rfl) trivial) (bJ.le (st':=⟨[(2,(vO 0 false (([]:List Bool).length)))],[(0,some FY)]⟩) ⟨⟨⟨_,rfl,fe.v (jB.one cW)⟩,trivial⟩,⟨rfl,oW,trivial⟩⟩))) ?_
  refine aR ?_
  obtain rfl:=oi h
  exact rl [(.one (.own 0 false (([]:List Bool).length)))]
 ·refine cf hb ?_
  refine aP (aQ (aO h fun⟨a1,a2⟩ h=> ?_))
  refine rg tT ⟨[(2,(vO 4 false ((Es s_).length)))],[(4,some (aF 4 1 af (Es s_)))]⟩ [([]:List Bool).length=0,aT 0 1 (xL 1 []) (au af ([]:List Bool)),([]:List Bool).length=([]:List Bool).length,_,_,(Es s_).length=([]:List Bool).length+s_.length,aT (([]:List Bool).length+s_.length) 1 (yJ (au af ([]:List Bool)) ([]:List Bool).length (au af s_)) (abV s_)] {an:=[(0, .arr ([]:List Bool).length (au af ([]:List Bool))),(2, .arr (Es s_).length (abV s_))],fr:=[(0,3),(2,4)] } [] ⟨(rfl),((fun i hi=>absurd hi (Nat.not_lt_zero i))),rfl,a1,a2,(List.length_append),(dA _ _ _ _),trivial⟩ ?_
  refine aI (bJ.fin (st':=⟨[(2,(vO 0 false ((Es s_).length)))],[(0,some (aF 4 1 af (Es s_)))]⟩) (cs:=[]) ⟨[],[(4,0)]⟩ [2] (by kernel_rfl) trivial) ?_
  refine aR ?_
  obtain rfl:=oi h
  exact rl [(.one (.own 0 false ((Es s_).length)))]
theorem aZ (s:(List Bool)) {r:(List Bool)} (h:bC s=some r):Fn Tryz.prog 84 [(sD (aD none 1 af s))] [] (vO 0 false r.length) [(0,some (aF 4 1 af r))]:=by
 refine Fn.nn (uT s true h) fun hl=> ?_
 have hs:s=[]:=List.eq_nil_of_length_eq_zero hl
 subst hs
 exact uT [] false (by rw [←h];kernel_rfl)
def MV  :Bool→Exit→St→Prop:=
  fun r=>aW TT [.tmp 6] (vB r) []
section
variable (p:ah) (s_:State) (k:Int)
abbrev Kj:List SV:=[(.agg (k3 p)),(.agg (Rx s_)),(sI k)]
abbrev bB:Nat × TV:=(3,(k8 p))
abbrev fH:Nat × TV:=(4,(Y2 s_))
abbrev Y5:St:=⟨[(2,(vI k)),(bB p),(fH s_)],[]⟩
abbrev Qy:=(bif (at' s_.on_ k.toNat)then(!(at' s_.badSource k.toNat))else false)
abbrev amG:=(bif (Qy s_ k)then(!(at' s_.badBus ((ZJ p k).toNat)))else false)
abbrev aim:TV:=(vB (amG p s_ k))
abbrev ak4:St:=⟨[(6,(aim p s_ k))],[]⟩
abbrev ahV:=(ic [(5,(at' s_.on_ k.toNat)),(13,(Qy s_ k))])
abbrev aja:=(gP (ahV s_ k) [(5,true)]→All [(0:Int)≤k∧k<(s_.badSource.length:Int)])
abbrev amW:=((gP (ahV s_ k) [(13,true)]→All [(0:Int)≤(at' p.sources k.toNat).bus∧(at' p.sources k.toNat).bus<(s_.badBus.length:Int)])::(eqs (Qy s_ k) 3 []))
abbrev alF:=(eqs (at' s_.on_ k.toNat) 4 ((aja s_ k)::(eqs (at' s_.on_ k.toNat) 3 (eqs (Qy s_ k) 6 ((gP (ahV s_ k) [(13,true)]→All [(0:Int)≤k∧k<(p.sources.length:Int)])::(eqs (Qy s_ k) 3 (amW p s_ k)))))))
abbrev ai9:List SV:=[(sB (amG p s_ k))]
end
theorem KV (p:ah) (s_:State) (k:Int) {r:Bool} (h:rq p s_ k=some r):Fn Tryz.prog 71 (Kj p s_ k) [] (vB r) []:=by
 refine fN tT Tryz.func71 rfl rfl fun B=> ?_
 show bG _ _ _ _ _ _ (MV r) _
 unfold rq at h
 refine sz tT (Y5 p s_ k) {fr:=[(0,2),(1,3)] } [2,3] ?_
 refine aQ (aO h fun⟨a1,a2,a3,a4⟩ h=> ?_)
 refine dg tT mX (ak4 p s_ k) (_::(alF p s_ k)) {yb:=[(5,(at' s_.on_ k.toNat)),(13,(Qy s_ k))] } [] ⟨a1,(ae ⟨(fun hg=> ⟨(a2 (aU hg)),trivial⟩),(ae (ae ⟨(fun hg=> ⟨(a3 (aU hg)),trivial⟩),(ae ⟨(fun hg=> ⟨(a4 (aU hg)),trivial⟩),(ae trivial)⟩)⟩))⟩)⟩ ?_
 refine aR ?_
 obtain rfl:=oi h
 exact rl (ai9 p s_ k)
def GX  :Bool→Exit→St→Prop:=
  fun r=>aW TT [.tmp 6] (vB r) []
section
variable (s_:State) (i:Int) (p:ah)
abbrev N9:=(bif (at' s_.closed i.toNat)then(!(at' s_.badLink i.toNat))else false)
abbrev abO:=((Jq p i).toNat)
abbrev QF:=(bif (N9 s_ i)then(!(at' s_.badBus (abO i p)))else false)
abbrev abu:=((Gs p i).toNat)
abbrev aiP:=(bif (QF s_ i p)then(!(at' s_.badBus (abu i p)))else false)
abbrev alD:St:=⟨[(6,(vB (aiP s_ i p)))],[]⟩
abbrev agR:=(ic [(5,(at' s_.closed i.toNat)),(13,(N9 s_ i)),(22,(QF s_ i p))])
abbrev ajt:=(eqs (QF s_ i p) 3 [])
abbrev al1:List SV:=[(sB (aiP s_ i p))]
end
theorem Gz (p:ah) (s_:State) (i:Int) {r:Bool} (h:mU p s_ i=some r):Fn Tryz.prog 73 (Kj p s_ i) [] (vB r) []:=by
 refine fN tT Tryz.func73 rfl rfl fun B=> ?_
 show bG _ _ _ _ _ _ (GX r) _
 unfold mU at h
 refine sz tT ⟨[(2,(vI i)),(3,(vP 3 0)),(fH s_)],[(3,some (Xh p))]⟩ {fr:=[(0,3),(1,4)] } [4] ?_
 refine aQ (aO h fun a1 h=> ?_)
 refine rg tT ⟨[(2,(vI i)),(fH s_),(7,(ahM p i))],[]⟩ [_] {fr:=[(5,5)] } [5] ⟨a1,trivial⟩ ?_
 refine aQ (aO h fun⟨a1,a2,a3,a4⟩ h=> ?_)
 refine rg tT (alD s_ i p) (_::(eqs (at' s_.closed i.toNat) 4 ((gP (agR s_ i p) [(5,true)]→All [(0:Int)≤i∧i<(s_.badLink.length:Int)])::(eqs (at' s_.closed i.toNat) 3 (eqs (N9 s_ i) 5 ((gP (agR s_ i p) [(13,true)]→All [(0:Int)≤(at' p.links i.toNat).a∧(at' p.links i.toNat).a<(s_.badBus.length:Int)])::(eqs (N9 s_ i) 3 (eqs (QF s_ i p) 5 ((gP (agR s_ i p) [(22,true)]→All [(0:Int)≤(at' p.links i.toNat).b∧(at' p.links i.toNat).b<(s_.badBus.length:Int)])::(ajt s_ i p)))))))))) {yb:=[(5,(at' s_.closed i.toNat)),(13,(N9 s_ i)),(22,(QF s_ i p))] } [] ⟨a1,(ae ⟨(fun hg=> ⟨(a2 (aU hg)),trivial⟩),(ae (ae ⟨(fun hg=> ⟨(a3 (aU hg)),trivial⟩),(ae (ae ⟨(fun hg=> ⟨(a4 (aU hg)),trivial⟩),(ae trivial)⟩))⟩))⟩)⟩ ?_
 refine aR ?_
 obtain rfl:=oi h
 exact rl (al1 s_ i p)
def BQ  :(List Int)→Exit→St→Prop:=
  fun r=>aW TT [.tmp 2] (vO 0 false r.length) [(0,some (aF 3 1 (aC .i64) r))]
abbrev agC:List (Nat × Option Ob):=[(0,some (.arr 3 1 0 (au (aC .i64) ([]:List Int))))]
abbrev adP:Ob:=(aF 3 1 (aC .i64) ([]:List Int))
abbrev agA:List (Nat × Option Ob):=[(0,some adP)]
theorem qJ (s_:(List Int)) (u0:Bool) {r:(List Int)} (h:nK s_ u0=some r):Fn Tryz.prog 127 [(sD (aD (some u0) 1 (aC .i64) s_))] [] (vO 0 false r.length) [(0,some (aF 3 1 (aC .i64) r))]:=by
 refine fN tT Tryz.func127 rfl rfl fun B=> ?_
 show bG _ _ _ _ _ _ (BQ r) _
 unfold nK at h
 refine sz tT ⟨[(0,(vD (aD (some u0) 1 (aC .i64) s_)))],[]⟩ {} [] ?_
 refine aQ (sz tT ⟨[(0,(vD (aD (some u0) 1 (aC .i64) s_))),(4,(vB (!u0)))],[]⟩ {} [] ?_)
 refine bI h (fun hb h=> ?_) (fun hb h=> ?_)
 ·refine ct hb ?_
  refine sz tT ⟨[(2,(vD nS))],[]⟩ {} [] ?_
  refine aI (.trans (bJ.Er (t:=2) (b:=2) (esz0:=0) (el0:=fun _ _=> .nilp) (E:=3) (esz:=1) (el:=au (aC .i64) ([]:List Int)) (by kernel_rfl) (by kernel_rfl)) (.trans (bJ.fin (st':=⟨[(2,(vO 0 false 0))],agC⟩) (cs:=[]) ⟨[],[(2,0)]⟩ [2] (by kernel_rfl) trivial) (bJ.le (st':=⟨[(2,(vO 0 false (([]:List Int).length)))],agA⟩) ⟨⟨⟨_,rfl,fe.v (jB.one cW)⟩,trivial⟩,⟨rfl,oW,trivial⟩⟩))) ?_
  refine aR ?_
  obtain rfl:=oi h
  exact rl [(.one (.own 0 false (([]:List Int).length)))]
 ·refine cf hb ?_
  refine aP (aQ (aO h fun⟨a1,a2⟩ h=> ?_))
  refine rg tT ⟨[(2,(vO 4 false ((([]:List Int)++s_).length)))],[(4,some (aF 3 1 (aC .i64) (([]:List Int)++s_)))]⟩ [([]:List Int).length=0,aT 0 1 (xL 1 []) (au (aC .i64) ([]:List Int)),([]:List Int).length=([]:List Int).length,_,_,(([]:List Int)++s_).length=([]:List Int).length+s_.length,aT (([]:List Int).length+s_.length) 1 (yJ (au (aC .i64) ([]:List Int)) ([]:List Int).length (au (aC .i64) s_)) (au (aC .i64) (([]:List Int)++s_))] {an:=[(0, .arr ([]:List Int).length (au (aC .i64) ([]:List Int))),(2, .arr (([]:List Int)++s_).length (au (aC .i64) (([]:List Int)++s_)))],fr:=[(0,3),(2,4)] } [] ⟨(rfl),((fun i hi=>absurd hi (Nat.not_lt_zero i))),rfl,a1,a2,(List.length_append),(dA _ _ _ _),trivial⟩ ?_
  refine aI (bJ.fin (st':=⟨[(2,(vO 0 false ((([]:List Int)++s_).length)))],[(0,some (aF 3 1 (aC .i64) (([]:List Int)++s_)))]⟩) (cs:=[]) ⟨[],[(4,0)]⟩ [2] (by kernel_rfl) trivial) ?_
  refine aR ?_
  obtain rfl:=oi h
  exact rl [(.one (.own 0 false ((([]:List Int)++s_).length)))]
theorem yG (s:(List Int)) {r:(List Int)} (h:jA s=some r):Fn Tryz.prog 127 [(sD (aD none 1 (aC .i64) s))] [] (vO 0 false r.length) [(0,some (aF 3 1 (aC .i64) r))]:=by
 refine Fn.nn (qJ s true h) fun hl=> ?_
 have hs:s=[]:=List.eq_nil_of_length_eq_zero hl
 subst hs
 exact qJ [] false (by rw [←h];kernel_rfl)
def OE  :Bool→Exit→St→Prop:=
  fun r=>aW TT [.tmp 2] (vB r) []
theorem DZ (x:Int) {r:Bool} (h:uW x=some r):Fn Tryz.prog 153 [(sI x)] [] (vB r) []:=by
 refine fN tT Tryz.func153 rfl rfl fun B=> ?_
 show bG _ _ _ _ _ _ (OE r) _
 unfold uW at h
 refine sz tT ⟨[(0,(vI x))],[]⟩ {} [] ?_
 refine sz tT ⟨[(2,(vB (!decide (x=x))))],[]⟩ {} [] ?_
 refine aR ?_
 obtain rfl:=oi h
 exact rl [(sB (!decide (x=x)))]
def KL  :Int→Exit→St→Prop:=
  fun r=>aW TT [.tmp 4] (vI r) []
theorem Jc (x:Int) (y:Int) {r:Int} (h:qj x y=some r):Fn Tryz.prog 145 [(sI x),(sI y)] [] (vI r) []:=by
 refine fN tT Tryz.func145 rfl rfl fun B=> ?_
 show bG _ _ _ _ _ _ (KL r) _
 unfold qj at h
 refine sz tT ⟨[(0,(vI x)),(1,(vI y))],[]⟩ {} [] ?_
 refine aQ (bE h fun r_ hr_ h=> ?_)
 have q0:=DZ x hr_
 refine rg tT ⟨[(0,(vI x)),(1,(vI y)),(5,(vB r_))],[]⟩ [_] {an:=[(1,cA q0 [])] } [] ⟨q0,trivial⟩ ?_
 refine aQ (bE h fun u0 hr_1 h=> ?_)
 have q0:=DZ y hr_1
 refine rg tT ⟨[(0,(vI x)),(1,(vI y)),(5,(vB r_)),(6,(vB u0))],[]⟩ [_] {an:=[(1,cA q0 [])] } [] ⟨q0,trivial⟩ ?_
 refine aQ (sz tT ⟨[(0,(vI x)),(1,(vI y)),(6,(vB u0)),(11,(vB r_))],[]⟩ {} [] ?_)
 refine bI h (fun hb4 h=> ?_) (fun hb4 h=> ?_)
 ·refine ct hb4 ?_
  refine aQ (sz tT ⟨[(12,(vB u0))],[]⟩ {} [] ?_)
  refine bI h (fun hb h=> ?_) (fun hb h=> ?_)
  ·refine ct hb ?_
   refine sz tT ⟨[(4,(vI 0))],[]⟩ {} [] ?_
   refine aR ?_
   obtain rfl:=oi h
   exact rl [(sI 0)]
  ·refine cf hb ?_
   refine aP (sz tT ⟨[(4,(vI (-1)))],[]⟩ {} [] ?_)
   refine aR ?_
   obtain rfl:=oi h
   exact rl [(sI (-1))]
 ·refine cf hb4 ?_
  refine aP (aQ (sz tT ⟨[(0,(vI x)),(1,(vI y)),(13,(vB u0))],[]⟩ {} [] ?_))
  refine bI h (fun hb3 h=> ?_) (fun hb3 h=> ?_)
  ·refine ct hb3 ?_
   refine sz tT ⟨[(4,(vI 1))],[]⟩ {} [] ?_
   refine aR ?_
   obtain rfl:=oi h
   exact rl [(sI 1)]
  ·refine cf hb3 ?_
   refine aP (aQ (sz tT ⟨[(0,(vI x)),(1,(vI y)),(16,(vB (decide (x<y))))],[]⟩ {} [] ?_))
   refine bI h (fun hb2 h=> ?_) (fun hb2 h=> ?_)
   ·refine ct hb2 ?_
    refine sz tT ⟨[(4,(vI (-1)))],[]⟩ {} [] ?_
    refine aR ?_
    obtain rfl:=oi h
    exact rl [(sI (-1))]
   ·refine cf hb2 ?_
    refine aP (aQ (sz tT ⟨[(19,(vB (decide (y<x))))],[]⟩ {} [] ?_))
    refine bI h (fun hb1 h=> ?_) (fun hb1 h=> ?_)
    ·refine ct hb1 ?_
     refine sz tT ⟨[(4,(vI 1))],[]⟩ {} [] ?_
     refine aR ?_
     obtain rfl:=oi h
     exact rl [(sI 1)]
    ·refine cf hb1 ?_
     refine aP (sz tT ⟨[(4,(vI 0))],[]⟩ {} [] ?_)
     refine aR ?_
     obtain rfl:=oi h
     exact rl [(sI 0)]
def qp  :Int→Exit→St→Prop:=
  fun r=>aW TT [.tmp 4] (vI r) []
section
variable (s1:(List Int)) (s2:(List Int))
abbrev Fg:DV:=(aD none 1 (aC .i64) s1)
abbrev Uj:TV:=(vD (Fg s1))
abbrev pJ:Nat × TV:=(0,(Uj s1))
abbrev wK:Nat × TV:=(1,(Uj s2))
abbrev QE:Nat × TV:=(9,(Uj s1))
abbrev Rk:Nat × TV:=(10,(vI (s1.length:Int)))
end
def wG (s1:(List Int)) (s2:(List Int)):Int→St:=
  fun u0=> ⟨[(pJ s1),(wK s2),(QE s1),(Rk s1),(11,(vI u0))],[]⟩
section
variable (s1:(List Int)) (s2:(List Int))
abbrev aeg:St:=⟨[(pJ s1),(wK s2)],[]⟩
end
def vW (s1:(List Int)) (s2:(List Int)):Unit→St:=
  fun _=>(aeg s1 s2)
def ES (s1:(List Int)) (s2:(List Int)):(aM Int (Ex Unit Int))→Exit→St→Prop:=
  LQ 0 [] (wG s1 s2) (vW s1 s2) qp
section
variable (u0:Int) (s1:(List Int))
abbrev QT:TV:=(vB (decide (u0<(s1.length:Int))))
end
theorem Fs (s1:(List Int)) (s2:(List Int)) {r:Int} (h:o9 s1 s2=some r):Fn Tryz.prog 126 [(sD (Fg s1)),(sD (Fg s2))] [] (vI r) []:=by
 refine fN tT Tryz.func126 rfl rfl fun B=> ?_
 show bG _ _ _ _ _ _ (qp r) _
 unfold o9 at h
 refine sz tT (aeg s1 s2) {} [] ?_
 refine aQ (sz tT ⟨[(pJ s1),(wK s2),(QE s1),(Rk s1),(11,(vI 0))],[]⟩ {} [] ?_)
 refine bE h fun y hy h=> ?_
 refine aL [] (wG s1 s2) (vW s1 s2) qp hy (fun s f h=> ?_) ?_
 ·clear hy
  show bG _ _ _ _ _ _ ((ES s1 s2) f) _
  unfold bO at h
  obtain⟨u0,rfl⟩: ∃q,q=s:=⟨_,rfl⟩
  refine sz tT ⟨[(pJ s1),(wK s2),(QE s1),(Rk s1),(11,(vI u0)),(12,(QT u0 s1))],[]⟩ {} [] ?_
  refine aQ ?_
  refine bI h (fun hb2 h=> ?_) (fun hb2 h=> ?_)
  ·refine ct hb2 ?_
   refine aP (aQ (aB (aQ (aO h fun a1 h=> ?_))))
   refine rg tT ⟨[(pJ s1),(wK s2),(5,(vI u0)),(6,(vI (at' s1 u0.toNat))),(QE s1),(Rk s1),(11,(vI u0))],[]⟩ [_] {} [] ⟨a1,trivial⟩ ?_
   refine aQ (sz tT ⟨[(pJ s1),(wK s2),(5,(vI u0)),(6,(vI (at' s1 u0.toNat))),(QE s1),(Rk s1),(11,(vI u0)),(19,(vB (decide ((s2.length:Int)≤u0))))],[]⟩ {} [] ?_)
   refine bI h (fun hb1 h=> ?_) (fun hb1 h=> ?_)
   ·refine ct hb1 ?_
    refine sz tT ⟨[(4,(vI 1))],[]⟩ {} [] ?_
    refine aR ?_
    obtain rfl:=oi h
    exact lR bY (dm 0) bZ (aW.mk (.inr rfl) (p:=[]) (l:=[(sI 1)]) (by kernel_rfl) trivial (fe.refl _) trivial)
   ·refine cf hb1 ?_
    refine aP (aQ (aO h fun a1 h=> ?_))
    refine rg tT ⟨[(pJ s1),(wK s2),(6,(vI (at' s1 u0.toNat))),(7,(vI (at' s2 u0.toNat))),(QE s1),(Rk s1),(11,(vI u0))],[]⟩ [_] {} [] ⟨a1,trivial⟩ ?_
    refine aQ (bE h fun r_ hr_ h=> ?_)
    have q0:=Jc (at' s1 u0.toNat) (at' s2 u0.toNat) hr_
    refine rg tT ⟨[(pJ s1),(wK s2),(8,(vI r_)),(QE s1),(Rk s1),(11,(vI u0))],[]⟩ [_] {an:=[(2,cA q0 [])] } [] ⟨q0,trivial⟩ ?_
    refine sz tT ⟨[(pJ s1),(wK s2),(8,(vI r_)),(QE s1),(Rk s1),(11,(vI u0)),(28,(vB (!decide (r_=0))))],[]⟩ {} [] ?_
    refine bI h (fun hb h=> ?_) (fun hb h=> ?_)
    ·refine ct hb ?_
     refine sz tT ⟨[(4,(vI r_))],[]⟩ {} [] ?_
     refine aR ?_
     obtain rfl:=oi h
     exact lR bY (dm 0) bZ (aW.mk (.inr rfl) (p:=[]) (l:=[(sI r_)]) (by kernel_rfl) trivial (fe.refl _) trivial)
    ·refine cf hb ?_
     refine aP (rz tT ⟨[(pJ s1),(wK s2),(QE s1),(Rk s1),(11,(Am u0))],[]⟩ {} [] ?_)
     obtain rfl:=oi h
     exact lN
  ·refine cf hb2 ?_
   refine aI (fz (aeg s1 s2) []) ?_
   refine aX ?_
   obtain rfl:=oi h
   exact lB
 ·clear hy
  cases y with
  |brk z=>
   unfold fE
   refine⟨_, .refl, ?_⟩
   refine aQ (sz tT ⟨[(35,(vB (decide ((s1.length:Int)<(s2.length:Int)))))],[]⟩ {} [] ?_)
   refine bI h (fun hb3 h=> ?_) (fun hb3 h=> ?_)
   ·refine ct hb3 ?_
    refine sz tT ⟨[(4,(vI (-1)))],[]⟩ {} [] ?_
    refine aR ?_
    obtain rfl:=oi h
    exact rl [(sI (-1))]
   ·refine cf hb3 ?_
    refine aP (sz tT ⟨[(4,(vI 0))],[]⟩ {} [] ?_)
    refine aR ?_
    obtain rfl:=oi h
    exact rl [(sI 0)]
  |ret v=>
   obtain rfl:=oi h
   unfold fE
   intro e st hn ha hR
   cases e with
   |normal=>exact absurd rfl hn
   |exit id=>exact hR
   |goto l=>exact hR
   |ret=>exact hR
   |panic c=>exact hR
   |outgrown=>exact hR
def FU  :Int→Exit→St→Prop:=
  fun r=>aW TT [.tmp 2] (vI r) []
section
variable (u0:(List Int))
abbrev WU:Nat × TV:=(6,(Uj u0))
abbrev CS:Nat × TV:=(7,(vI (u0.length:Int)))
end
def JW (u0:(List Int)):Int→St:=
  fun t8=> ⟨[(3,(vI 0)),(WU u0),(CS u0),(8,(vI t8))],[]⟩
def Ke  :Unit→St:=
  fun _=> ⟨[(3,(vI 0))],[]⟩
def TD (u0:(List Int)):(aM Int (Ex Unit Int))→Exit→St→Prop:=
  LQ 0 [] (JW u0) Ke FU
theorem UI (u0:(List Int)) {r:Int} (h:Ed u0=some r):Fn Tryz.prog 125 [(sD (Fg u0))] [] (vI r) []:=by
 refine fN tT Tryz.func125 rfl rfl fun B=> ?_
 show bG _ _ _ _ _ _ (FU r) _
 unfold Ed at h
 refine sz tT ⟨[(pJ u0)],[]⟩ {} [] ?_
 refine sz tT ⟨[(pJ u0),(3,(vI 0))],[]⟩ {} [] ?_
 refine aQ (sz tT ⟨[(3,(vI 0)),(WU u0),(CS u0),(8,(vI 0))],[]⟩ {} [] ?_)
 refine bE h fun y hy h=> ?_
 refine aL [] (JW u0) Ke FU hy (fun s f h=> ?_) ?_
 ·clear hy
  show bG _ _ _ _ _ _ ((TD u0) f) _
  unfold zf at h
  obtain⟨t8,rfl⟩: ∃q,q=s:=⟨_,rfl⟩
  refine sz tT ⟨[(3,(vI 0)),(WU u0),(CS u0),(8,(vI t8)),(9,(QT t8 u0))],[]⟩ {} [] ?_
  refine aQ ?_
  refine bI h (fun hb1 h=> ?_) (fun hb1 h=> ?_)
  ·refine ct hb1 ?_
   refine aP (aQ (aB (aQ (aO h fun a1 h=> ?_))))
   refine rg tT ⟨[(3,(vI 0)),(5,(vI (at' u0 t8.toNat))),(WU u0),(CS u0),(8,(vI t8))],[]⟩ [_] {} [] ⟨a1,trivial⟩ ?_
   refine sz tT ⟨[(3,(vI 0)),(5,(vI (at' u0 t8.toNat))),(WU u0),(CS u0),(8,(vI t8)),(14,(vB (!decide ((at' u0 t8.toNat)=0))))],[]⟩ {} [] ?_
   refine bI h (fun hb h=> ?_) (fun hb h=> ?_)
   ·refine ct hb ?_
    refine sz tT ⟨[(2,(vI (at' u0 t8.toNat)))],[]⟩ {} [] ?_
    refine aR ?_
    obtain rfl:=oi h
    exact lR bY (dm 0) bZ (aW.mk (.inr rfl) (p:=[]) (l:=[(sI (at' u0 t8.toNat))]) (by kernel_rfl) trivial (fe.refl _) trivial)
   ·refine cf hb ?_
    refine aP (rz tT ⟨[(3,(vI 0)),(WU u0),(CS u0),(Zv t8)],[]⟩ {} [] ?_)
    obtain rfl:=oi h
    exact lN
  ·refine cf hb1 ?_
   refine aI (fz ⟨[(3,(vI 0))],[]⟩ []) ?_
   refine aX ?_
   obtain rfl:=oi h
   exact lB
 ·clear hy
  cases y with
  |brk z=>
   unfold fE
   refine⟨_, .refl, ?_⟩
   refine sz tT ⟨[(2,(vI 0))],[]⟩ {} [] ?_
   refine aR ?_
   obtain rfl:=oi h
   exact rl [(sI 0)]
  |ret v=>
   obtain rfl:=oi h
   unfold fE
   intro e st hn ha hR
   cases e with
   |normal=>exact absurd rfl hn
   |exit id=>exact hR
   |goto l=>exact hR
   |ret=>exact hR
   |panic c=>exact hR
   |outgrown=>exact hR
def KG  :Bool→Exit→St→Prop:=
  fun r=>aW TT [.tmp 4] (vB r) []
section
variable (a:Way) (b:Way) (r_:Int)
abbrev Og:=(IntKind.wrap .i64 (a.bK - b.bK))
abbrev Ol:=(IntKind.wrap .i64 ((a.links.length:Int) - (b.links.length:Int)))
abbrev ajD:=(au (aC .i64) [(Og a b),(Ol a b),r_])
abbrev amr:List (Nat × Option Ob):=[(6,some (aF 3 1 (aC .i64) [(Og a b),(Ol a b),r_]))]
end
theorem I5 (a:Way) (b:Way) {r:Bool} (h:jD a b=some r):Fn Tryz.prog 124 [(.agg [(cB a.there),(cI a.bK),(.d (aD none 1 (aC .i64) a.links))]),(.agg [(cB b.there),(cI b.bK),(.d (aD none 1 (aC .i64) b.links))])] [] (vB r) []:=by
 refine fN tT Tryz.func124 rfl rfl fun B=> ?_
 show bG _ _ _ _ _ _ (KG r) _
 unfold jD at h
 refine sz tT ⟨[(2,(vD (oL [(.bool a.there),(.int .i64 a.bK),(aD none 1 (aC .i64) a.links)] 0))),(3,(vD (oL [(.bool b.there),(.int .i64 b.bK),(aD none 1 (aC .i64) b.links)] 0)))],[]⟩ {fr:=[(0,4),(1,5)] } [4,5] ?_
 refine aQ ?_
 refine bI h (fun hb h=> ?_) (fun hb h=> ?_)
 ·skip
  refine di tT mX ⟨[(4,(vB (bif (!b.there)then true else false)))],[]⟩ [(!b.there)=true, ¬ gP (ic [(3,true)]) [(3,false)],(!b.there)=true, ¬ gP (ic [(3,true)]) [(3,false)],(!b.there)=true, ¬ gP (ic [(3,true)]) [(3,false)],(!b.there)=true, ¬ gP (ic [(3,true)]) [(3,false)],(!b.there)=true, ¬ gP (ic [(3,true)]) [(3,false)],(!b.there)=true, ¬ gP (ic [(3,true)]) [(3,false)],(!b.there)=true, ¬ gP (ic [(3,true)]) [(3,false)],(!b.there)=true, ¬ gP (ic [(3,true)]) [(3,false)],(!b.there)=true, ¬ gP (ic [(3,true)]) [(3,false)],(!b.there)=true, ¬ gP (ic [(3,true)]) [(3,false)],(!b.there)=true, ¬ gP (ic [(3,true)]) [(3,false)],(!b.there)=true, ¬ gP (ic [(3,true)]) [(3,false)],(!b.there)=true, ¬ gP (ic [(3,true)]) [(3,false)],(!b.there)=true, ¬ gP (ic [(3,true)]) [(3,false)],(!b.there)=true, ¬ gP (ic [(3,true)]) [(3,false)],(!b.there)=true, ¬ gP (ic [(3,true)]) [(3,false)],(!b.there)=true, ¬ gP (ic [(3,true)]) [(3,false)],(!b.there)=true, ¬ gP (ic [(3,true)]) [(3,false)],(!b.there)=true, ¬ gP (ic [(3,true)]) [(3,false)],(!b.there)=true, ¬ gP (ic [(3,true)]) [(3,false)],(!b.there)=true] {yb:=[(3,true)],an:=[(4, .skip),(5, .skip),(6, .skip),(7, .skip),(8, .skip),(9, .skip),(10, .skip),(11, .skip),(12, .skip),(13, .skip),(14, .skip),(15, .skip),(16, .skip),(17, .skip),(18, .skip),(19, .skip),(20, .skip),(21, .skip),(22, .skip),(23, .skip)] } [] ⟨(hb),((fun h=>Bool.noConfusion (show true=false from h.1))),(hb),((fun h=>Bool.noConfusion (show true=false from h.1))),(hb),((fun h=>Bool.noConfusion (show true=false from h.1))),(hb),((fun h=>Bool.noConfusion (show true=false from h.1))),(hb),((fun h=>Bool.noConfusion (show true=false from h.1))),(hb),((fun h=>Bool.noConfusion (show true=false from h.1))),(hb),((fun h=>Bool.noConfusion (show true=false from h.1))),(hb),((fun h=>Bool.noConfusion (show true=false from h.1))),(hb),((fun h=>Bool.noConfusion (show true=false from h.1))),(hb),((fun h=>Bool.noConfusion (show true=false from h.1))),(hb),((fun h=>Bool.noConfusion (show true=false from h.1))),(hb),((fun h=>Bool.noConfusion (show true=false from h.1))),(hb),((fun h=>Bool.noConfusion (show true=false from h.1))),(hb),((fun h=>Bool.noConfusion (show true=false from h.1))),(hb),((fun h=>Bool.noConfusion (show true=false from h.1))),(hb),((fun h=>Bool.noConfusion (show true=false from h.1))),(hb),((fun h=>Bool.noConfusion (show true=false from h.1))),(hb),((fun h=>Bool.noConfusion (show true=false from h.1))),(hb),((fun h=>Bool.noConfusion (show true=false from h.1))),(hb),((fun h=>Bool.noConfusion (show true=false from h.1))),(hb),trivial⟩ (bJ.le (st':=⟨[(4,(vB true))],[]⟩) ⟨⟨⟨_,rfl,fe.v (jB.one (bH.of (congrArg (fun b=>CV.d (.bool b)) (aaO hb))))⟩,trivial⟩,trivial⟩) ?_
  refine aR ?_
  obtain rfl:=oi h
  exact rl [(sB true)]
 ·skip
  refine bE h fun r_ hr_ h=> ?_
  refine bE h fun u0 hr_1 h=> ?_
  refine di tT mX ⟨[(4,(vB (bif (!b.there)then true else(decide (u0<0)))))],[]⟩ [(!b.there)=false,(!b.there)=false,(!b.there)=false,(!b.there)=false,(!b.there)=false,(!b.there)=false,(!b.there)=false,(!b.there)=false,(!b.there)=false,(!b.there)=false,(!b.there)=false,(!b.there)=false,(!b.there)=false,(!b.there)=false,(!b.there)=false,(!b.there)=false,(!b.there)=false,gP (ic [(3,false)]) [(3,false)]→All [Fn Tryz.prog 126 [(sD (aD none 1 (aC .i64) a.links)),(sD (aD none 1 (aC .i64) b.links))] [] (vI r_) []],(!b.there)=false,gP (ic [(3,false)]) [(3,false)]→All [[(Og a b),(Ol a b),r_].length=3,aT 3 1 (xL 1 [(.int .i64 (Og a b)),(.int .i64 (Ol a b)),(.int .i64 r_)]) (ajD a b r_)],gP (ic [(3,false)]) [(3,false)],(!b.there)=false,gP (ic [(3,false)]) [(3,false)]→All [Fn Tryz.prog 125 [(.one (.own 6 true ([(Og a b),(Ol a b),r_].length)))] (amr a b r_) (vI u0) (amr a b r_)],(!b.there)=false,(!b.there)=false] {yb:=[(3,false)],an:=[(20, .call [] (vI r_) []),(21, .arr [(Og a b),(Ol a b),r_].length (ajD a b r_)),(22, .callR [6] (vI u0))],fr:=[(21,6)] } [] ⟨(hb),(hb),(hb),(hb),(hb),(hb),(hb),(hb),(hb),(hb),(hb),(hb),(hb),(hb),(hb),(hb),(hb),(fun hg=> ⟨(Fs a.links b.links hr_),trivial⟩),(hb),(fun hg=> ⟨(rfl),((by intro i hi j hj;match i,j,hi,hj with|0,0,_,_=>rfl|1,0,_,_=>rfl|2,0,_,_=>rfl)),trivial⟩),(⟨rfl,trivial⟩),(hb),(fun hg=> ⟨(Fn.DK (frz:=[6]) (p:=[[(Og a b),(Ol a b),r_].length=[(Og a b),(Ol a b),r_].length]) (Fn.le (args':=[(sD (aD (some true) 1 (aC .i64) [(Og a b),(Ol a b),r_]))]) (UI [(Og a b),(Ol a b),r_] hr_1) ⟨jB.one (bH.d dR.nI),trivial⟩) (by kernel_rfl) ⟨rfl,trivial⟩ rfl),trivial⟩),(hb),(hb),trivial⟩ (bJ.le (st':=⟨[(4,(vB (decide (u0<0))))],[]⟩) ⟨⟨⟨_,rfl,fe.v (jB.one (bH.of (congrArg (fun b=>CV.d (.bool b)) (acd hb))))⟩,trivial⟩,trivial⟩) ?_
  refine aR ?_
  obtain rfl:=oi h
  exact rl [(sB (decide (u0<0)))]
def uE  :Int→Exit→St→Prop:=
  fun r=>aW TT [.tmp 4] (vI r) []
def yO (s_:(List Int)) (v_:Int):Int→St:=
  fun t8=> ⟨[(pJ s_),(1,(vI v_)),(CS s_),(8,(vI t8))],[]⟩
def yY  :Unit→St:=
  fun _=> ⟨[],[]⟩
def IW (s_:(List Int)) (v_:Int):(aM Int (Ex Unit Int))→Exit→St→Prop:=
  LQ 0 [] (yO s_ v_) yY uE
theorem Il (s_:(List Int)) (v_:Int) {r:Int} (h:sJ s_ v_=some r):Fn Tryz.prog 129 [(sD (Fg s_)),(sI v_)] [] (vI r) []:=by
 refine fN tT Tryz.func129 rfl rfl fun B=> ?_
 show bG _ _ _ _ _ _ (uE r) _
 unfold sJ at h
 refine sz tT ⟨[(pJ s_),(1,(vI v_))],[]⟩ {} [] ?_
 refine aQ (sz tT ⟨[(pJ s_),(1,(vI v_)),(CS s_),(8,(vI 0))],[]⟩ {} [] ?_)
 refine bE h fun y hy h=> ?_
 refine aL [] (yO s_ v_) yY uE hy (fun s f h=> ?_) ?_
 ·clear hy
  show bG _ _ _ _ _ _ ((IW s_ v_) f) _
  unfold nJ at h
  obtain⟨t8,rfl⟩: ∃q,q=s:=⟨_,rfl⟩
  refine sz tT ⟨[(pJ s_),(1,(vI v_)),(CS s_),(8,(vI t8)),(9,(QT t8 s_))],[]⟩ {} [] ?_
  refine aQ ?_
  refine bI h (fun hb1 h=> ?_) (fun hb1 h=> ?_)
  ·refine ct hb1 ?_
   refine aP (aQ (aB (sz tT ⟨[(pJ s_),(1,(vI v_)),(5,(vI t8)),(CS s_),(8,(vI t8))],[]⟩ {} [] ?_)))
   refine aQ (aO h fun a1 h=> ?_)
   refine rg tT ⟨[(pJ s_),(1,(vI v_)),(5,(vI t8)),(CS s_),(8,(vI t8)),(16,(vB (decide (v_=(at' s_ t8.toNat)))))],[]⟩ [_] {} [] ⟨a1,trivial⟩ ?_
   refine bI h (fun hb h=> ?_) (fun hb h=> ?_)
   ·refine ct hb ?_
    refine sz tT ⟨[(4,(vI t8))],[]⟩ {} [] ?_
    refine aR ?_
    obtain rfl:=oi h
    exact lR bY (dm 0) bZ (aW.mk (.inr rfl) (p:=[]) (l:=[(sI t8)]) (by kernel_rfl) trivial (fe.refl _) trivial)
   ·refine cf hb ?_
    refine aP (rz tT ⟨[(pJ s_),(1,(vI v_)),(CS s_),(Zv t8)],[]⟩ {} [] ?_)
    obtain rfl:=oi h
    exact lN
  ·refine cf hb1 ?_
   refine aI (fz ⟨[],[]⟩ []) ?_
   refine aX ?_
   obtain rfl:=oi h
   exact lB
 ·clear hy
  cases y with
  |brk z=>
   unfold fE
   refine⟨_, .refl, ?_⟩
   refine sz tT ⟨[(4,(vI (-1)))],[]⟩ {} [] ?_
   refine aR ?_
   obtain rfl:=oi h
   exact rl [(sI (-1))]
  |ret v=>
   obtain rfl:=oi h
   unfold fE
   intro e st hn ha hR
   cases e with
   |normal=>exact absurd rfl hn
   |exit id=>exact hR
   |goto l=>exact hR
   |ret=>exact hR
   |panic c=>exact hR
   |outgrown=>exact hR
def E8  :Bool→Exit→St→Prop:=
  fun r=>aW TT [.tmp 4] (vB r) []
theorem Ej (s_:(List Int)) (v_:Int) {r:Bool} (h:kN s_ v_=some r):Fn Tryz.prog 102 [(sD (Fg s_)),(sI v_)] [] (vB r) []:=by
 refine fN tT Tryz.func102 rfl rfl fun B=> ?_
 show bG _ _ _ _ _ _ (E8 r) _
 unfold kN at h
 refine sz tT ⟨[(pJ s_),(1,(vI v_))],[]⟩ {} [] ?_
 refine aQ (bE h fun r_ hr_ h=> ?_)
 have q0:=Il s_ v_ hr_
 refine rg tT (k94 r_) [_] {an:=[(2,cA q0 [])] } [] ⟨q0,trivial⟩ ?_
 refine aR ?_
 obtain rfl:=oi h
 exact rl [(sB (decide (0≤r_)))]
section
variable (o_:(List Int))
abbrev zP:Ob:=(aF 3 1 (aC .i64) o_)
abbrev yH:List (Nat × Option Ob):=[(0,some (.cells 35 [(.own 1 true o_.length)])),(1,some (zP o_))]
end
def F9 (o_:(List Int)):Bool→Exit→St→Prop:=
  fun r=>aW TT [.tmp 3] (vB r) (yH o_)
theorem E5 (i:Int) (o_:(List Int)) {r:Bool} (h:oN i o_=some r):Fn Tryz.prog 101 [(sI i),(.one (.ptr 0 0))] (yH o_) (vB r) (yH o_):=by
 refine fN tT Tryz.func101 rfl rfl fun B=> ?_
 show bG _ _ _ _ _ _ ((F9 o_) r) _
 unfold oN at h
 refine sz tT ⟨[(0,(vI i)),(1,(vP 0 0))],(yH o_)⟩ {} [] ?_
 refine sg tT ⟨[(3,(vB (bif (decide (i<0))then true else(decide ((o_.length:Int)≤i)))))],(yH o_)⟩ (eqs (decide (i<0)) 5 []) {yb:=[(2,(decide (i<0)))] } [] (ae trivial) ?_
 refine aR ?_
 obtain rfl:=oi h
 exact rl [(sB (bif (decide (i<0))then true else(decide ((o_.length:Int)≤i))))]
def lg (o_:(List Int)):Int→Exit→St→Prop:=
  fun r=>aW TT [.tmp 4] (vI r) (yH o_)
abbrev WV:Nat × TV:=(1,(.v (.one (.fn 101 0 1 (DI [(.ptr 0 0)])))))
def qc (s_:(List Int)) (o_:(List Int)):Int→St:=
  fun t8=> ⟨[(pJ s_),WV,(CS s_),(8,(vI t8))],(yH o_)⟩
section
variable (o_:(List Int))
abbrev ajs:St:=⟨[],(yH o_)⟩
end
def qh (o_:(List Int)):Unit→St:=
  fun _=>(ajs o_)
def zY (s_:(List Int)) (o_:(List Int)):(aM Int (Ex Unit Int))→Exit→St→Prop:=
  LQ 0 [] (qc s_ o_) (qh o_) (lg o_)
section
variable (s_:(List Int)) (o_:(List Int))
abbrev aiR:St:=⟨[(pJ s_),WV],(yH o_)⟩
end
theorem zS (s_:(List Int)) (o_:(List Int)) {r:Int} (h:j3 s_ o_=some r):Fn Tryz.prog 128 [(sD (Fg s_)),(.one (.fn 101 0 1 (DI [(.ptr 0 0)])))] (yH o_) (vI r) (yH o_):=by
 refine fN tT Tryz.func128 rfl rfl fun B=> ?_
 show bG _ _ _ _ _ _ ((lg o_) r) _
 unfold j3 at h
 refine sz tT (aiR s_ o_) {} [] ?_
 refine aQ (sz tT ⟨[(pJ s_),WV,(CS s_),(8,(vI 0))],(yH o_)⟩ {} [] ?_)
 refine bE h fun y hy h=> ?_
 refine aL [] (qc s_ o_) (qh o_) (lg o_) hy (fun s f h=> ?_) ?_
 ·clear hy
  show bG _ _ _ _ _ _ ((zY s_ o_) f) _
  unfold iL at h
  obtain⟨t8,rfl⟩: ∃q,q=s:=⟨_,rfl⟩
  refine sz tT ⟨[(pJ s_),WV,(CS s_),(8,(vI t8)),(9,(QT t8 s_))],(yH o_)⟩ {} [] ?_
  refine aQ ?_
  refine bI h (fun hb1 h=> ?_) (fun hb1 h=> ?_)
  ·refine ct hb1 ?_
   refine aP (aQ (aB (sz tT ⟨[(pJ s_),WV,(5,(vI t8)),(CS s_),(8,(vI t8))],(yH o_)⟩ {} [] ?_)))
   refine aQ (bE h fun r_ hr_ h=> ?_)
   refine aO h fun a1 h=> ?_
   have q1:=E5 (at' s_ t8.toNat) o_ hr_
   refine rg tT ⟨[(pJ s_),WV,(5,(vI t8)),(CS s_),(8,(vI t8)),(16,(vB r_))],(yH o_)⟩ [_,_] {an:=[(5,cR q1 [0,1])] } [] ⟨a1,q1,trivial⟩ ?_
   refine bI h (fun hb h=> ?_) (fun hb h=> ?_)
   ·refine ct hb ?_
    refine sz tT ⟨[(4,(vI t8))],(yH o_)⟩ {} [] ?_
    refine aR ?_
    obtain rfl:=oi h
    exact lR bY (dm 0) bZ (aW.mk (.inr rfl) (p:=[]) (l:=[(sI t8)]) (by kernel_rfl) trivial (fe.refl _) (.refl _))
   ·refine cf hb ?_
    refine aP (rz tT ⟨[(pJ s_),WV,(CS s_),(Zv t8)],(yH o_)⟩ {} [] ?_)
    obtain rfl:=oi h
    exact lN
  ·refine cf hb1 ?_
   refine aI (fz (ajs o_) []) ?_
   refine aX ?_
   obtain rfl:=oi h
   exact lB
 ·clear hy
  cases y with
  |brk z=>
   unfold fE
   refine⟨_, .refl, ?_⟩
   refine sz tT ⟨[(4,(vI (-1)))],(yH o_)⟩ {} [] ?_
   refine aR ?_
   obtain rfl:=oi h
   exact rl [(sI (-1))]
  |ret v=>
   obtain rfl:=oi h
   unfold fE
   intro e st hn ha hR
   cases e with
   |normal=>exact absurd rfl hn
   |exit id=>exact hR
   |goto l=>exact hR
   |ret=>exact hR
   |panic c=>exact hR
   |outgrown=>exact hR
def yM (o_:(List Int)):Bool→Exit→St→Prop:=
  fun r=>aW TT [.tmp 4] (vB r) (yH o_)
theorem yg (s_:(List Int)) (o_:(List Int)) {r:Bool} (h:gD s_ o_=some r):Fn Tryz.prog 100 [(sD (Fg s_)),(.one (.fn 101 0 1 (DI [(.ptr 0 0)])))] (yH o_) (vB r) (yH o_):=by
 refine fN tT Tryz.func100 rfl rfl fun B=> ?_
 show bG _ _ _ _ _ _ ((yM o_) r) _
 unfold gD at h
 refine sz tT (aiR s_ o_) {} [] ?_
 refine aQ (bE h fun r_ hr_ h=> ?_)
 have q0:=zS s_ o_ hr_
 refine rg tT ⟨[(4,(vB (decide (0≤r_))))],(yH o_)⟩ [_] {an:=[(2,cR q0 [0,1])] } [] ⟨q0,trivial⟩ ?_
 refine aR ?_
 obtain rfl:=oi h
 exact rl [(sB (decide (0≤r_)))]
def uy  :((List Int) × Bool × Int)→Exit→St→Prop:=
  fun r=>aW TT [.tmp 4, .tmp 5] (.iB [(sD (aD (some r.2.1) 1 (aC .i64) r.1)),(sI r.2.2)]) []
section
variable (l:(List Short)) (u0:(List Int)) (u1:Int)
abbrev KH:Nat × TV:=(23,(vD (aD none 4 Short.cell l)))
abbrev Kl:Nat × TV:=(24,(vI (l.length:Int)))
abbrev Kn:List (Nat × Option Ob):=[(8,some (zP u0)),(9,some (.cells 35 [(.own 8 true u0.length)]))]
abbrev afU:St:=⟨[(7,(vP 9 0)),(KH l),(Kl l),(25,(vI u1))],(Kn u0)⟩
end
def zb (l:(List Short)):((List Int) × Int)→St:=
  fun zz=>match zz with|(u0,u1)=>(afU l u0 u1)
section
variable (u0:(List Int))
abbrev ajk:St:=⟨[(7,(vP 9 0))],(Kn u0)⟩
end
def yT  :(List Int)→St:=
  fun u0=>(ajk u0)
def rP (l:(List Short)):(aM ((List Int) × Int) (Ex (List Int) ((List Int) × Bool × Int)))→Exit→St→Prop:=
  LQ 0 [] (zb l) yT uy
section
variable (l:(List Short)) (u0:Int) (u2:(List Int)) (u3:Int)
abbrev R7:Nat × TV:=(9,(vD (oL [(.int .i64 ((at' l u0.toNat).source)),(.int .i64 ((at' l u0.toNat).bK)),(.int .i64 ((at' l u0.toNat).amps)),(aD none 1 (aC .i64) ((at' l u0.toNat).links))] 0)))
abbrev Yp:Nat × TV:=(44,(vI (u2.length:Int)))
abbrev af5:List (Nat × TV):=[(7,(vP 9 0)),(R7 l u0),(KH l),(Kl l),(25,(vI u0)),(Yp u2),(45,(vI u3))]
end
def yR (l:(List Short)) (u2:(List Int)) (u0:Int):((List Int) × Int)→St:=
  fun zz=>match zz with|(u1,u3)=> ⟨(af5 l u0 u2 u3),(Kn u1)⟩
def zi (l:(List Short)) (u1:Int):(List Int)→St:=
  fun u0=>(afU l u0 u1)
def Im (l:(List Short)) (u1:(List Int)) (u0:Int):(aM ((List Int) × Int) (Ex (List Int) (aM ((List Int) × Int) (Ex (List Int) ((List Int) × Bool × Int)))))→Exit→St→Prop:=
  LQ 2 [1] (yR l u1 u0) (zi l u0) (rP l)
section
variable (p:ah) (l:(List Short)) (r_:Int) (u0:Int) (u1:(List Int)) (u2:Int) (u3:(List Int))
abbrev ajZ:List SV:=[(.agg (k3 p)),(sD (aD none 4 Short.cell l))]
abbrev qV:Nat × TV:=(1,(vD (aD none 4 Short.cell l)))
abbrev ajK:St:=⟨[(qV l),(k7 p)],[]⟩
abbrev alN:St:=⟨[(qV l),(k7 p),(6,(vI r_))],[]⟩
abbrev Vl:DV:=(aD (some false) 1 (aC .i64) ([]:List Int))
abbrev ZL:St:=⟨[(4,(vD nS)),(5,(vI 1))],[]⟩
abbrev KZ:=((p.links.length:Int).toNat)
abbrev FR:=(List.replicate (KZ p) (0:Int))
abbrev ahq:Ob:=(aF 3 1 (aC .i64) (FR p))
abbrev aek:=((FR p).length)
abbrev alx:List (Nat × Option Ob):=[(8,some (ahq p)),(9,some (.cells 35 [(.own 8 true (aek p))]))]
abbrev aaJ:=((p.links.length:Int):Int)
abbrev SF:=(au (aC .i64) (FR p))
abbrev UG:=(decide (((at' l u0.toNat).amps)<0))
abbrev Wj:=(bif (UG l u0)then true else(decide (1000000<((at' l u0.toNat).amps))))
abbrev aaw:=(u1.set u2.toNat (IntKind.wrap .i64 ((at' u1 u2.toNat)+((at' l u0.toNat).amps))))
abbrev Y9:=(au (aC .i64) (aaw l u0 u1 u2))
abbrev ajH:=(lH (au (aC .i64) u1) u2.toNat 0 [(.int .i64 (IntKind.wrap .i64 ((at' u1 u2.toNat)+((at' l u0.toNat).amps))))])
abbrev ajQ:List (Nat × Option Ob):=[(8,some (aF 3 1 (aC .i64) (aaw l u0 u1 u2))),(9,some (.cells 35 [(.own 8 true ((aaw l u0 u1 u2).length))]))]
abbrev al0:List (Nat × TV):=[(7,(vP 9 0)),(R7 l u0),(KH l),(Kl l),(25,(vI u0)),(Yp u3),(45,(Am u2))]
end
theorem Ho (p:ah) (l:(List Short)) {r:((List Int) × Bool × Int)} (h:lV p l=some r):Fn Tryz.prog 70 (ajZ p l) [] (.iB [(sD (aD (some r.2.1) 1 (aC .i64) r.1)),(sI r.2.2)]) []:=by
 refine fN tT Tryz.func70 rfl rfl fun B=> ?_
 show bG _ _ _ _ _ _ (uy r) _
 unfold lV at h
 refine sz tT (ajK p l) {fr:=[(0,7)] } [7] ?_
 refine aQ (aQ (bE h fun r_ hr_ h=> ?_))
 have q0:=Aq p hr_
 refine rg tT (alN p l r_) [_] {an:=[(1,cA q0 [])] } [] ⟨q0,trivial⟩ ?_
 refine sz tT ⟨[(qV l),(k7 p),(6,(vI r_)),(14,(vB (!decide (r_=0))))],[]⟩ {} [] ?_
 refine bI h (fun hb5 h=> ?_) (fun hb5 h=> ?_)
 ·refine ct hb5 ?_
  refine sz tT ⟨[(4,(vD nS)),(5,(vI r_))],[]⟩ {} [] ?_
  refine aI (bJ.le (st':=⟨[(4,(vD Vl)),(5,(vI r_))],[]⟩) ⟨⟨⟨_,rfl,fe.v (jB.one (bH.d dR.XA))⟩,tR,trivial⟩,trivial⟩) ?_
  refine aR ?_
  obtain rfl:=oi h
  exact rl [(sD Vl),(sI r_)]
 ·refine cf hb5 ?_
  refine aP (aQ (sz tT ⟨[(qV l),(k7 p),(18,(vB (decide (8<(l.length:Int)))))],[]⟩ {} [] ?_))
  refine bI h (fun hb4 h=> ?_) (fun hb4 h=> ?_)
  ·refine ct hb4 ?_
   refine sz tT ZL {} [] ?_
   refine aI (bJ.le (st':=⟨[(4,(vD Vl)),(5,(vI 1))],[]⟩) ⟨⟨⟨_,rfl,fe.v (jB.one (bH.d dR.XA))⟩,tR,trivial⟩,trivial⟩) ?_
   refine aR ?_
   obtain rfl:=oi h
   exact rl [(sD Vl),(sI 1)]
  ·refine cf hb4 ?_
   refine aP (aQ (aO h fun⟨a1,a2,a3⟩ h=> ?_))
   refine rg tT ⟨[(qV l),(7,(vP 9 0))],(alx p)⟩ [_,(aaJ p)=(p.links.length:Int),_,_,(FR p).length=(KZ p),aT (KZ p) 1 (fun _ j=>[(.int .i64 0)].getD j .nilp) (SF p)] {an:=[(3, .arr (FR p).length (SF p))],fr:=[(3,8),(4,9)] } [] ⟨a1,rfl,a2,a3,(List.length_replicate),(iZ _ _ _ _ _ (fun j hj=>(match j,hj with|0,_=>rfl))),trivial⟩ ?_
   refine aQ (sz tT ⟨[(7,(vP 9 0)),(KH l),(Kl l),(25,(vI 0))],(alx p)⟩ {} [] ?_)
   refine bE h fun y1 hy h=> ?_
   refine aL [] (zb l) yT uy hy (fun s f h=> ?_) ?_
   ·clear hy
    show bG _ _ _ _ _ _ ((rP l) f) _
    unfold fB at h
    obtain⟨u3,u0⟩:=s
    refine sz tT ⟨[(7,(vP 9 0)),(KH l),(Kl l),(25,(vI u0)),(26,(vB (decide (u0<(l.length:Int)))))],(Kn u3)⟩ {} [] ?_
    refine aQ ?_
    refine bI h (fun hb3 h=> ?_) (fun hb3 h=> ?_)
    ·refine ct hb3 ?_
     refine aP (aQ (aB (aQ (aO h fun a1 h=> ?_))))
     refine rg tT ⟨[(7,(vP 9 0)),(R7 l u0),(KH l),(Kl l),(25,(vI u0))],(Kn u3)⟩ [_] {fr:=[(2,13)] } [13] ⟨a1,trivial⟩ ?_
     refine aQ (aQ (bE h fun u5 hr_1 h=> ?_))
     refine rg tT ⟨[(7,(vP 9 0)),(R7 l u0),(KH l),(Kl l),(25,(vI u0)),(42,(vB (bif (Wj l u0)then true else u5)))],(Kn u3)⟩ (eqs (UG l u0) 4 (eqs (Wj l u0) 4 [gP (ic [(3,(UG l u0)),(8,(Wj l u0))]) [(8,false)]→All [Fn Tryz.prog 100 [(sD (aD none 1 (aC .i64) ((at' l u0.toNat).links))),(.one (.fn 101 0 1 (DI [(.ptr 9 0)])))] [(9,some (.cells 35 [(.own 8 true u3.length)])),(8,some (zP u3))] (vB u5) [(9,some (.cells 35 [(.own 8 true u3.length)])),(8,some (zP u3))]],(Wj l u0)=(Wj l u0)])) {yb:=[(3,(UG l u0)),(8,(Wj l u0))],an:=[(12, .callR [9,8] (vB u5))] } [] (ae (ae ⟨(fun hg=> ⟨(rK [(0,9),(1,8)] (yg ((at' l u0.toNat).links) u3 (fD hr_1 (aU hg)))),trivial⟩),rfl,trivial⟩)) ?_
     refine bI h (fun hb2 h=> ?_) (fun hb2 h=> ?_)
     ·refine ct hb2 ?_
      refine sz tT ZL {} [] ?_
      refine aI (bJ.le (st':=⟨[(4,(vD Vl)),(5,(vI 1))],[]⟩) ⟨⟨⟨_,rfl,fe.v (jB.one (bH.d dR.XA))⟩,tR,trivial⟩,trivial⟩) ?_
      refine aR ?_
      obtain rfl:=oi h
      exact lR bY (dm 0) bZ (aW.mk (.inr rfl) (p:=[]) (l:=[(sD Vl),(sI 1)]) (by kernel_rfl) trivial (fe.refl _) trivial)
     ·refine cf hb2 ?_
      refine aP (sz tT ⟨[(7,(vP 9 0)),(R7 l u0),(KH l),(Kl l),(25,(vI u0)),(Yp u3),(45,(vI 0))],(Kn u3)⟩ {} [] ?_)
      refine bE h fun y hy h=> ?_
      refine aL [1] (yR l u3 u0) (zi l u0) (rP l) hy (fun s f h=> ?_) ?_
      ·clear hy
       show bG _ _ _ _ _ _ ((Im l u3 u0) f) _
       unfold ja at h
       obtain⟨u1,u2⟩:=s
       refine sz tT ⟨[(7,(vP 9 0)),(R7 l u0),(KH l),(Kl l),(25,(vI u0)),(Yp u3),(45,(vI u2)),(46,(QT u2 u3))],(Kn u1)⟩ {} [] ?_
       refine aQ ?_
       refine bI h (fun hb1 h=> ?_) (fun hb1 h=> ?_)
       ·refine ct hb1 ?_
        refine aP (aQ (aB (sz tT ⟨[(7,(vP 9 0)),(R7 l u0),(10,(vI u2)),(KH l),(Kl l),(25,(vI u0)),(Yp u3),(45,(vI u2))],(Kn u1)⟩ {} [] ?_)))
        refine aQ (bE h fun u7 hr_2 h=> ?_)
        have q0:=Ej ((at' l u0.toNat).links) u2 hr_2
        refine rg tT ⟨[(7,(vP 9 0)),(R7 l u0),(10,(vI u2)),(KH l),(Kl l),(25,(vI u0)),(Yp u3),(45,(vI u2)),(51,(vB u7))],(Kn u1)⟩ [_] {an:=[(3,cA q0 [])] } [] ⟨q0,trivial⟩ ?_
        refine bI h (fun hb h=> ?_) (fun hb h=> ?_)
        ·refine ct hb ?_
         refine aO h fun a1 h=> ?_
         refine di tT mX ⟨(af5 l u0 u3 u2),[(8,some (.arr 3 1 u1.length (Y9 l u0 u1 u2))),(9,some (.cells 35 [(.own 8 true u1.length)]))]⟩ [_,_,_,_,aT u1.length 1 (ajH l u0 u1 u2) (Y9 l u0 u1 u2)] {an:=[(8, .arr 0 (Y9 l u0 u1 u2))] } [] ⟨a1,(tL a1),a1,(tL a1),(dD _ _ _ _ _ _ _ _ rfl (fun j hj=>(match j,hj with|0,_=>rfl))),trivial⟩ (bJ.le (st':=⟨(af5 l u0 u3 u2),(ajQ l u0 u1 u2)⟩) ⟨⟨tR,tR,tR,tR,tR,tR,tR,trivial⟩,⟨rfl,oW,⟨rfl,fG ⟨cW,trivial⟩,trivial⟩⟩⟩) ?_
         refine rz tT ⟨(al0 l u0 u2 u3),(ajQ l u0 u1 u2)⟩ {} [] ?_
         obtain rfl:=oi h
         exact lN
        ·refine cf hb ?_
         refine aP (rz tT ⟨(al0 l u0 u2 u3),(Kn u1)⟩ {} [] ?_)
         obtain rfl:=oi h
         exact lN
       ·refine cf hb1 ?_
        refine aI (fz (afU l u1 u0) []) ?_
        refine aX ?_
        obtain rfl:=oi h
        exact lB
      ·clear hy
       cases y with
       |brk z=>
        obtain⟨u6,rfl⟩: ∃q,q=z:=⟨_,rfl⟩
        unfold fE
        refine⟨_, .refl, ?_⟩
        refine rz tT ⟨[(7,(vP 9 0)),(KH l),(Kl l),(25,(Am u0))],(Kn u6)⟩ {} [] ?_
        obtain rfl:=oi h
        exact lN
       |ret v=>
        obtain rfl:=oi h
        unfold fE
        intro e st hn ha hR
        cases e with
        |normal=>exact absurd rfl hn
        |exit id=>simp only [tZ (b:=1) ha rfl,cond_false];exact hR
        |goto l=>exact hR
        |ret=>exact hR
        |panic c=>exact hR
        |outgrown=>exact hR
    ·refine cf hb3 ?_
     refine aI (fz (ajk u3) []) ?_
     refine aX ?_
     obtain rfl:=oi h
     exact lB
   ·clear hy
    cases y1 with
    |brk z=>
     obtain⟨u4,rfl⟩: ∃q,q=z:=⟨_,rfl⟩
     unfold fE
     refine⟨_, .refl, ?_⟩
     refine sg tT ⟨[(4,(vD (aD (some true) 1 (aC .i64) u4))),(5,(vI 0))],[]⟩ [u4.length=u4.length] {} [8] ⟨rfl,trivial⟩ ?_
     refine aR ?_
     obtain rfl:=oi h
     exact rl [(sD (aD (some true) 1 (aC .i64) u4)),(sI 0)]
    |ret v=>
     obtain rfl:=oi h
     unfold fE
     intro e st hn ha hR
     cases e with
     |normal=>exact absurd rfl hn
     |exit id=>exact hR
     |goto l=>exact hR
     |ret=>exact hR
     |panic c=>exact hR
     |outgrown=>exact hR
def EP  :State→Exit→St→Prop:=
  fun r=>aW TT [.cell 2 29] (.v (.agg [(.own 0 false r.closed.length),(.own 1 false r.locked.length),(.own 2 false r.badLink.length),(.own 3 false r.on_.length),(.own 4 false r.badSource.length),(.own 5 false r.earthed.length),(.own 6 false r.badBus.length)])) [(0,some (aF 4 1 af r.closed)),(1,some (aF 4 1 af r.locked)),(2,some (aF 4 1 af r.badLink)),(3,some (aF 4 1 af r.on_)),(4,some (aF 4 1 af r.badSource)),(5,some (aF 4 1 af r.earthed)),(6,some (aF 4 1 af r.badBus)),(7,none)]
section
variable (s_:State) (r_:(List Bool)) (u1:(List Bool)) (u2:(List Bool)) (u3:(List Bool)) (u4:(List Bool)) (u0:(List Bool)) (u5:(List Bool))
abbrev ahz:List SV:=[(.agg (Rx s_))]
abbrev ac1:Ob:=(.cells 29 [(.d nS),(.d nS),(.d nS),(.d nS),(.d nS),(.d nS),(.d nS)])
abbrev akq:St:=⟨[(1,(Y2 s_)),(2,(vP 10 0))],[(10,some ac1)]⟩
abbrev Zw:Nat × Option Ob:=(11,some (aF 4 1 af r_))
abbrev Ri:Nat × Option Ob:=(13,some (aF 4 1 af u1))
abbrev Un:Nat × Option Ob:=(14,some (aF 4 1 af u2))
abbrev Wm:Nat × Option Ob:=(15,some (aF 4 1 af u3))
abbrev X7:Nat × Option Ob:=(16,some (aF 4 1 af u4))
abbrev al9:St:=⟨[(2,(vP 10 0))],[(10,some (.cells 29 [(.own 11 false r_.length),(.own 12 false u0.length),(.own 13 false u1.length),(.own 14 false u2.length),(.own 15 false u3.length),(.own 16 false u4.length),(.own 17 false u5.length)])),(Zw r_),(12,some (aF 4 1 af u0)),(Ri u1),(Un u2),(Wm u3),(X7 u4),(17,some (aF 4 1 af u5))]⟩
abbrev akh:List CV:=[(.own 0 false r_.length),(.own 1 false u0.length),(.own 2 false u1.length),(.own 3 false u2.length),(.own 4 false u3.length),(.own 5 false u4.length),(.own 6 false u5.length)]
abbrev afX:St:=⟨[(2,(vP 7 0))],[(0,some (aF 4 1 af r_)),(1,some (aF 4 1 af u0)),(2,some (aF 4 1 af u1)),(3,some (aF 4 1 af u2)),(4,some (aF 4 1 af u3)),(5,some (aF 4 1 af u4)),(6,some (aF 4 1 af u5)),(7,some (.cells 29 (akh r_ u1 u2 u3 u4 u0 u5)))]⟩
abbrev agk:List SV:=[(.agg (akh r_ u1 u2 u3 u4 u0 u5))]
end
theorem D8 (s_:State) {r:State} (h:oC s_=some r):Fn Tryz.prog 36 (ahz s_) [] (.v (.agg [(.own 0 false r.closed.length),(.own 1 false r.locked.length),(.own 2 false r.badLink.length),(.own 3 false r.on_.length),(.own 4 false r.badSource.length),(.own 5 false r.earthed.length),(.own 6 false r.badBus.length)])) [(0,some (aF 4 1 af r.closed)),(1,some (aF 4 1 af r.locked)),(2,some (aF 4 1 af r.badLink)),(3,some (aF 4 1 af r.on_)),(4,some (aF 4 1 af r.badSource)),(5,some (aF 4 1 af r.earthed)),(6,some (aF 4 1 af r.badBus)),(7,none)]:=by
 refine fN tT Tryz.func36 rfl rfl fun B=> ?_
 show bG _ _ _ _ _ _ (EP r) _
 unfold oC at h
 refine sz tT (akq s_) {fr:=[(0,9),(1,10)] } [9] ?_
 refine aQ (bE h fun r_ hr_ h=> ?_)
 refine bE h fun u0 hr_1 h=> ?_
 refine bE h fun u1 hr_2 h=> ?_
 refine bE h fun u2 hr_3 h=> ?_
 refine bE h fun u3 hr_4 h=> ?_
 refine bE h fun u4 hr_5 h=> ?_
 refine bE h fun u5 hr_6 h=> ?_
 have q0:=rk [(0,11)] (aZ s_.closed hr_)
 have q1:=rk [(0,12)] (aZ s_.locked hr_1)
 have q2:=rk [(0,13)] (aZ s_.badLink hr_2)
 have q3:=rk [(0,14)] (aZ s_.on_ hr_3)
 have q4:=rk [(0,15)] (aZ s_.badSource hr_4)
 have q5:=rk [(0,16)] (aZ s_.earthed hr_5)
 have q6:=rk [(0,17)] (aZ s_.badBus hr_6)
 refine dg tT mX (al9 r_ u1 u2 u3 u4 u0 u5) [_,_,_,_,_,_,_] {an:=[(2,cA q0 []),(5,cA q1 []),(8,cA q2 []),(11,cA q3 []),(14,cA q4 []),(17,cA q5 []),(20,cA q6 [])] } [] ⟨q0,q1,q2,q3,q4,q5,q6,trivial⟩ ?_
 refine aI (bJ.fin (st':=(afX r_ u1 u2 u3 u4 u0 u5)) (cs:=[]) ⟨[],[(11,0),(12,1),(13,2),(14,3),(15,4),(16,5),(17,6),(10,7)]⟩ [2] (by kernel_rfl) trivial) ?_
 refine aR ?_
 obtain rfl:=oi h
 exact rh (agk r_ u1 u2 u3 u4 u0 u5) (.refl _) (hN 7 ⟨rfl,trivial,trivial⟩)
section
variable (s_:State)
abbrev o8:Nat × Option Ob:=(0,some (aF 4 1 af s_.closed))
abbrev o6:Nat × Option Ob:=(1,some (aF 4 1 af s_.locked))
abbrev o5:Nat × Option Ob:=(2,some (aF 4 1 af s_.badLink))
abbrev oO:Nat × Option Ob:=(3,some (aF 4 1 af s_.on_))
abbrev pq:Nat × Option Ob:=(4,some (aF 4 1 af s_.badSource))
abbrev oZ:Nat × Option Ob:=(5,some (aF 4 1 af s_.earthed))
abbrev o7:Nat × Option Ob:=(6,some (aF 4 1 af s_.badBus))
end
def tQ (s_:State):(List Way)→Exit→St→Prop:=
  fun r=>aW TT [.tmp 6] (vO 7 true r.length) [(o8 s_),(o6 s_),(o5 s_),(oO s_),(pq s_),(oZ s_),(o7 s_),(7,some (aF 182 3 Way.cell r))]
section
variable (u0:(List Way)) (p:ah) (s_:State) (u1:Bool)
abbrev sM:Nat × TV:=(7,(vD (.fn 124 0 (wQ []))))
abbrev zM:Nat × TV:=(8,(vO 412 true u0.length))
abbrev OG:Nat × Option Ob:=(410,some (Xh p))
abbrev Rm:List CV:=[(.own 0 false s_.closed.length),(.own 1 false s_.locked.length),(.own 2 false s_.badLink.length),(.own 3 false s_.on_.length),(.own 4 false s_.badSource.length),(.own 5 false s_.earthed.length),(.own 6 false s_.badBus.length)]
abbrev adX:Ob:=(.cells 29 (Rm s_))
abbrev Ow:Nat × Option Ob:=(411,some (adX s_))
abbrev Ec:List (Nat × Option Ob):=[(o8 s_),(o6 s_),(o5 s_),(oO s_),(pq s_),(oZ s_),(o7 s_),(OG p),(Ow s_),(412,some (aF 182 3 Way.cell u0))]
abbrev agQ:St:=⟨[(3,(vP 410 0)),(4,(vP 411 0)),sM,(zM u0),(9,(vB u1))],(Ec u0 p s_)⟩
end
def zx (p:ah) (s_:State):((List Way) × Bool)→St:=
  fun zz=>match zz with|(u0,u1)=>(agQ u0 p s_ u1)
section
variable (s_:State) (u0:(List Way))
abbrev aij:List (Nat × Option Ob):=[(o8 s_),(o6 s_),(o5 s_),(oO s_),(pq s_),(oZ s_),(o7 s_),(412,some (aF 182 3 Way.cell u0))]
abbrev ajr:St:=⟨[(zM u0)],(aij s_ u0)⟩
end
def y8 (s_:State):(List Way)→St:=
  fun u0=>(ajr s_ u0)
def q9 (p:ah) (s_:State):(aM ((List Way) × Bool) (Ex (List Way) (List Way)))→Exit→St→Prop:=
  LQ 0 [] (zx p s_) (y8 s_) (tQ s_)
section
variable (p:ah) (u0:(List Way)) (u1:Bool) (u2:Int) (s_:State)
abbrev Ae:Nat × TV:=(26,(vD (k5 p)))
abbrev AB:Nat × TV:=(27,(vI (p.links.length:Int)))
abbrev ag5:St:=⟨[(3,(vP 410 0)),(4,(vP 411 0)),sM,(zM u0),(9,(vB u1)),(Ae p),(AB p),(28,(vI u2))],(Ec u0 p s_)⟩
end
def yU (p:ah) (s_:State):((List Way) × Bool × Int)→St:=
  fun zz=>match zz with|(u0,u1,u2)=>(ag5 p u0 u1 u2 s_)
def zm (p:ah) (s_:State):((List Way) × Bool)→St:=
  fun zz=>match zz with|(u0,u1)=>(agQ u0 p s_ u1)
def qZ (p:ah) (s_:State):(aM ((List Way) × Bool × Int) (Ex ((List Way) × Bool) (aM ((List Way) × Bool) (Ex (List Way) (List Way)))))→Exit→St→Prop:=
  LQ 2 [1] (yU p s_) (zm p s_) (q9 p s_)
section
variable (p:ah) (u0:Int)
abbrev ahY:List CV:=[(cI (Jq p u0)),(cI (Gs p u0)),(cI (Gs p u0)),(cI (Jq p u0))]
abbrev H6:Nat × TV:=(48,(.v (.agg (ahY p u0))))
end
def yS (p:ah) (s_:State) (u0:Int):((List Way) × Bool × Int)→St:=
  fun zz=>match zz with|(u1,u2,u3)=> ⟨[(3,(vP 410 0)),(4,(vP 411 0)),sM,(zM u1),(9,(vB u2)),(10,(vI u0)),(DU p u0),(Ae p),(AB p),(28,(vI u0)),(H6 p u0),(49,(vI u3))],(Ec u1 p s_)⟩
def zw (p:ah) (s_:State) (u1:Int):((List Way) × Bool)→St:=
  fun zz=>match zz with|(u0,u2)=>(ag5 p u0 u2 u1 s_)
def H7 (p:ah) (s_:State) (u0:Int):(aM ((List Way) × Bool × Int) (Ex ((List Way) × Bool) (aM ((List Way) × Bool × Int) (Ex ((List Way) × Bool) (aM ((List Way) × Bool) (Ex (List Way) (List Way)))))))→Exit→St→Prop:=
  LQ 4 [3] (yS p s_ u0) (zw p s_ u0) (qZ p s_)
section
variable (p:ah) (s_:State) (u3:Int) (u5:(List Way)) (u8:Bool) (u0:Int) (u1:Int) (u2:(List Way)) (u6:Bool) (u4:(List Int))
abbrev QM:List SV:=[(.agg (k3 p)),(.agg (Rm s_)),(sI u3)]
abbrev jr:List (Nat × Option Ob):=[(o8 s_),(o6 s_),(o5 s_),(oO s_),(pq s_),(oZ s_),(o7 s_)]
abbrev amO:List (Nat × Option Ob):=[(o8 s_),(o6 s_),(o5 s_),(oO s_),(pq s_),(oZ s_),(o7 s_),(OG p),(Ow s_)]
abbrev M7:=(List.replicate p.buses.toNat ((⟨false,0,([]:List Int)⟩:Way):Way))
abbrev akt:Nat × TV:=(8,(vO 412 true ((M7 p).length)))
abbrev akd:List (Nat × TV):=[(2,(vI u3)),(3,(vP 410 0)),(4,(vP 411 0)),sM,(akt p)]
abbrev agG:=((M7 p).set u3.toNat (⟨true,(at' (M7 p) u3.toNat).bK,(at' (M7 p) u3.toNat).links⟩:Way))
abbrev agj:=(au Way.cell (agG p u3))
abbrev aiz:Nat × TV:=(8,(vO 412 true ((agG p u3).length)))
abbrev aiq:List (Nat × Option Ob):=[(o8 s_),(o6 s_),(o5 s_),(oO s_),(pq s_),(oZ s_),(o7 s_),(OG p),(Ow s_),(412,some (aF 182 3 Way.cell (agG p u3)))]
abbrev am2:St:=⟨[(3,(vP 410 0)),(4,(vP 411 0)),sM,(zM u5),(9,(vB u8)),(Ae p),(AB p),(28,(Am u0))],(Ec u5 p s_)⟩
abbrev ahf:=(⟨(at' p.links u0.toNat).a,(at' p.links u0.toNat).b⟩:bL)
abbrev ahb:=(⟨(at' p.links u0.toNat).b,(at' p.links u0.toNat).a⟩:bL)
abbrev ai5:=(at' [(ahf p u0),(ahb p u0)] u1.toNat)
abbrev ahC:=((ai5 p u0 u1).e0)
abbrev ad9:=((ai5 p u0 u1).e1)
abbrev ajg:List DV:=[(.int .i64 (ahC p u0 u1)),(.int .i64 (ad9 p u0 u1))]
abbrev ahL:=(at' u2 ((ahC p u0 u1).toNat))
abbrev ak7:=((ahL p u0 u1 u2).there)
abbrev alr:=((ahL p u0 u1 u2).bK)
abbrev amw:=((ahL p u0 u1 u2).links)
abbrev aj2:Nat × TV:=(14,(vD (oL [(.bool (ak7 p u0 u1 u2)),(.int .i64 (alr p u0 u1 u2)),(aD none 1 (aC .i64) (amw p u0 u1 u2))] 0)))
abbrev aau:Nat × TV:=(15,(vI (ad9 p u0 u1)))
abbrev amd:St:=⟨[(3,(vP 410 0)),(4,(vP 411 0)),sM,(zM u2),(9,(vB u6)),(10,(vI u0)),(DU p u0),(Ae p),(AB p),(28,(vI u0)),(H6 p u0),(49,(Am u1))],(Ec u2 p s_)⟩
abbrev ahU:=(IntKind.wrap .i64 ((alr p u0 u1 u2)+((at' p.links u0.toNat).bK)))
abbrev adT:=(yJ (au (aC .i64) u4) u4.length (au (aC .i64) [u0]))
abbrev Tj:=(au (aC .i64) (u4++[u0]))
abbrev aix:List DV:=[(.bool true),(.int .i64 (ahU p u0 u1 u2)),(aD none 1 (aC .i64) (u4++[u0]))]
abbrev aia:Nat × TV:=(16,(vD (oL (aix p u0 u1 u2 u4) 0)))
abbrev alM:=(⟨true,(ahU p u0 u1 u2),(u4++[u0])⟩:Way)
abbrev aga:=((ad9 p u0 u1).toNat)
abbrev ahh:=(u2.set (aga p u0 u1) (alM p u0 u1 u2 u4))
abbrev agy:=(au Way.cell (ahh p u0 u1 u2 u4))
abbrev ahw:Nat × TV:=(8,(vO 412 true ((ahh p u0 u1 u2 u4).length)))
abbrev agT:List (Nat × Option Ob):=[(o8 s_),(o6 s_),(o5 s_),(oO s_),(pq s_),(oZ s_),(o7 s_),(OG p),(Ow s_),(412,some (aF 182 3 Way.cell (ahh p u0 u1 u2 u4)))]
end
theorem IJ (p:ah) (s_:State) (u3:Int) {r:(List Way)} (h:nZ p s_ u3=some r):Fn Tryz.prog 99 (QM p s_ u3) (jr s_) (vO 7 true r.length) [(o8 s_),(o6 s_),(o5 s_),(oO s_),(pq s_),(oZ s_),(o7 s_),(7,some (aF 182 3 Way.cell r))]:=by
 refine fN tT Tryz.func99 rfl rfl fun B=> ?_
 show bG _ _ _ _ _ _ ((tQ s_) r) _
 unfold nZ at h
 refine sz tT ⟨[(2,(vI u3)),(3,(vP 410 0)),(4,(vP 411 0))],(amO p s_)⟩ {fr:=[(0,410),(1,411)] } [] ?_
 refine sz tT ⟨[(2,(vI u3)),(3,(vP 410 0)),(4,(vP 411 0)),sM],(amO p s_)⟩ {} [] ?_
 refine aQ (aO h fun⟨a1,a2,a3⟩ h=> ?_)
 refine ri tT ⟨(akd p u3),[(o8 s_),(o6 s_),(o5 s_),(oO s_),(pq s_),(oZ s_),(o7 s_),(OG p),(Ow s_),(412,some (.arr 182 3 (M7 p).length (fun _ j=>[(.bool false),(.int .i64 0),nS].getD j .nilp)))]⟩ [_,(p.buses:Int)=p.buses,_,_,(M7 p).length=p.buses.toNat,aT p.buses.toNat 3 (fun _ j=>[(.bool false),(.int .i64 0),nS].getD j .nilp) (fun _ j=>[(.bool false),(.int .i64 0),nS].getD j .nilp)] {an:=[(2, .arr (M7 p).length (fun _ j=>[(.bool false),(.int .i64 0),nS].getD j .nilp))],fr:=[(2,412)] } [] ⟨a1,rfl,a2,a3,(List.length_replicate),(nQ _ _ _),trivial⟩ (bJ.le (st':=⟨(akd p u3),[(o8 s_),(o6 s_),(o5 s_),(oO s_),(pq s_),(oZ s_),(o7 s_),(OG p),(Ow s_),(412,some (aF 182 3 Way.cell (M7 p)))]⟩) ⟨⟨tR,tR,tR,tR,tR,trivial⟩,(hN 9 ⟨rfl,Xo (ak5 _ _ _ _ _ (fun j hj=>match j,hj with|0,_=> .refl _|1,_=> .refl _|2,_=>dR.nil')),trivial⟩)⟩) ?_
 refine aQ (aO h fun a1 h=> ?_)
 refine ri tT ⟨[(3,(vP 410 0)),(4,(vP 411 0)),sM,(akt p)],[(o8 s_),(o6 s_),(o5 s_),(oO s_),(pq s_),(oZ s_),(o7 s_),(OG p),(Ow s_),(412,some (.arr 182 3 (M7 p).length (agj p u3)))]⟩ [_,_,aT (M7 p).length 3 (lH (au Way.cell (M7 p)) u3.toNat 0 [(.bool true)]) (agj p u3)] {an:=[(4, .arr 0 (agj p u3))] } [] ⟨a1,(tL a1),(dD _ _ _ _ _ _ _ _ rfl (fun j hj=>(match j,hj with|0,_=>rfl|1,_=>rfl|2,_=>rfl))),trivial⟩ (bJ.le (st':=⟨[(3,(vP 410 0)),(4,(vP 411 0)),sM,(aiz p u3)],(aiq p s_ u3)⟩) ⟨⟨tR,tR,tR,⟨_,rfl,fe.v (jB.one cW)⟩,trivial⟩,(hN 9 ⟨rfl,oW,trivial⟩)⟩) ?_
 refine aQ (sz tT ⟨[(3,(vP 410 0)),(4,(vP 411 0)),sM,(aiz p u3),(9,(vB true))],(aiq p s_ u3)⟩ {} [] ?_)
 refine bE h fun y2 hy h=> ?_
 refine aL [] (zx p s_) (y8 s_) (tQ s_) hy (fun s f h=> ?_) ?_
 ·clear hy
  show bG _ _ _ _ _ _ ((q9 p s_) f) _
  unfold lC at h
  obtain⟨u7,v1⟩:=s
  refine aQ (sz tT ⟨[(3,(vP 410 0)),(4,(vP 411 0)),sM,(zM u7),(24,(vB v1))],(Ec u7 p s_)⟩ {} [] ?_)
  refine bI h (fun hb5 h=> ?_) (fun hb5 h=> ?_)
  ·refine ct hb5 ?_
   refine aP (aB (sz tT ⟨[(3,(vP 410 0)),(4,(vP 411 0)),sM,(zM u7),(9,(vB false))],(Ec u7 p s_)⟩ {} [] ?_))
   refine sz tT ⟨[(3,(vP 410 0)),(4,(vP 411 0)),sM,(zM u7),(9,(vB false)),(Ae p),(AB p),(28,(vI 0))],(Ec u7 p s_)⟩ {} [] ?_
   refine bE h fun y1 hy h=> ?_
   refine aL [1] (yU p s_) (zm p s_) (q9 p s_) hy (fun s f h=> ?_) ?_
   ·clear hy
    show bG _ _ _ _ _ _ ((qZ p s_) f) _
    unfold om at h
    obtain⟨u5,u8,u0⟩:=s
    refine sz tT ⟨[(3,(vP 410 0)),(4,(vP 411 0)),sM,(zM u5),(9,(vB u8)),(Ae p),(AB p),(28,(vI u0)),(29,(k48 p u0))],(Ec u5 p s_)⟩ {} [] ?_
    refine aQ ?_
    refine bI h (fun hb4 h=> ?_) (fun hb4 h=> ?_)
    ·refine ct hb4 ?_
     refine aP (aQ (aB (aQ (aO h fun a1 h=> ?_))))
     refine rg tT ⟨[(3,(vP 410 0)),(4,(vP 411 0)),sM,(zM u5),(9,(vB u8)),(10,(vI u0)),(DU p u0),(Ae p),(AB p),(28,(vI u0))],(Ec u5 p s_)⟩ [_] {fr:=[(3,788)] } [788] ⟨a1,trivial⟩ ?_
     refine aQ (aQ (bE h fun r_ hr_ h=> ?_))
     refine rg tT ⟨[(3,(vP 410 0)),(4,(vP 411 0)),sM,(zM u5),(9,(vB u8)),(10,(vI u0)),(DU p u0),(Ae p),(AB p),(28,(vI u0)),(37,(vB (!r_)))],(Ec u5 p s_)⟩ [Fn Tryz.prog 73 (QM p s_ u0) (jr s_) (vB r_) (jr s_)] {an:=[(3, .callR [0,1,2,3,4,5,6] (vB r_))] } [] ⟨(Fn.DK (frz:=[0,1,2,3,4,5,6]) (p:=[s_.closed.length=s_.closed.length,s_.locked.length=s_.locked.length,s_.badLink.length=s_.badLink.length,s_.on_.length=s_.on_.length,s_.badSource.length=s_.badSource.length,s_.earthed.length=s_.earthed.length,s_.badBus.length=s_.badBus.length]) (Gz p s_ u0 hr_) (by kernel_rfl) ⟨rfl,rfl,rfl,rfl,rfl,rfl,rfl,trivial⟩ rfl),trivial⟩ ?_
     refine bI h (fun hb3 h=> ?_) (fun hb3 h=> ?_)
     ·refine ct hb3 ?_
      refine aX (rz tT (am2 p s_ u5 u8 u0) {} [] ?_)
      obtain rfl:=oi h
      exact lN
     ·refine cf hb3 ?_
      refine aP (sz tT ⟨[(3,(vP 410 0)),(4,(vP 411 0)),sM,(zM u5),(9,(vB u8)),(10,(vI u0)),(DU p u0),(Ae p),(AB p),(28,(vI u0)),(H6 p u0),(49,(vI 0))],(Ec u5 p s_)⟩ {} [] ?_)
      refine bE h fun y hy h=> ?_
      refine aL [3] (yS p s_ u0) (zw p s_ u0) (qZ p s_) hy (fun s f h=> ?_) ?_
      ·clear hy
       show bG _ _ _ _ _ _ ((H7 p s_ u0) f) _
       unfold jW at h
       obtain⟨u2,u6,u1⟩:=s
       refine sz tT ⟨[(3,(vP 410 0)),(4,(vP 411 0)),sM,(zM u2),(9,(vB u6)),(10,(vI u0)),(DU p u0),(Ae p),(AB p),(28,(vI u0)),(H6 p u0),(49,(vI u1)),(50,(vB (decide (u1<2))))],(Ec u2 p s_)⟩ {} [] ?_
       refine aQ ?_
       refine bI h (fun hb2 h=> ?_) (fun hb2 h=> ?_)
       ·refine ct hb2 ?_
        refine aP (aQ (aB (aQ (aO h fun a1 h=> ?_))))
        refine rg tT ⟨[(3,(vP 410 0)),(4,(vP 411 0)),sM,(zM u2),(9,(vB u6)),(10,(vI u0)),(DU p u0),(13,(vP 807 0)),(Ae p),(AB p),(28,(vI u0)),(H6 p u0),(49,(vI u1))],[(o8 s_),(o6 s_),(o5 s_),(oO s_),(pq s_),(oZ s_),(o7 s_),(OG p),(Ow s_),(412,some (aF 182 3 Way.cell u2)),(807,some (.cells 69 [(cI (ahC p u0 u1)),(cI (ad9 p u0 u1))]))]⟩ [_,u1.toNat*2+2≤(ahY p u0).length,((ahY p u0).drop (u1.toNat*2)).take 2=(ajg p u0 u1).map .d] {an:=[(0, .vals (ajg p u0 u1))],fr:=[(1,807)] } [] ⟨a1,(anD (n:=2) (sz:=2) (Nat.le_refl _) a1),(anY (n:=2) (sz:=2) (g:=fun q=>[(cI ((at' [(ahf p u0),(ahb p u0)] q).e0)),(cI ((at' [(ahf p u0),(ahb p u0)] q).e1))]) (by intro q hq;match q,hq with|0,_=>rfl|1,_=>rfl) a1),trivial⟩ ?_
        refine aQ (aO h fun a1 h=> ?_)
        refine dg tT mX ⟨[(3,(vP 410 0)),(4,(vP 411 0)),sM,(zM u2),(9,(vB u6)),(10,(vI u0)),(DU p u0),(aj2 p u0 u1 u2),(aau p u0 u1),(Ae p),(AB p),(28,(vI u0)),(H6 p u0),(49,(vI u1))],(Ec u2 p s_)⟩ [(0:Int)≤0∧(0:Int)<(2:Nat),_,_,(0:Int)≤1∧(1:Int)<(2:Nat)] {fr:=[(7,808)] } [808] ⟨((by decide)),a1,(tL a1),((by decide)),trivial⟩ ?_
        refine aQ (sz tT ⟨[(3,(vP 410 0)),(4,(vP 411 0)),sM,(zM u2),(9,(vB u6)),(10,(vI u0)),(DU p u0),(aj2 p u0 u1 u2),(aau p u0 u1),(Ae p),(AB p),(28,(vI u0)),(H6 p u0),(49,(vI u1)),(61,(vB (!(ak7 p u0 u1 u2))))],(Ec u2 p s_)⟩ {} [] ?_)
        refine bI h (fun hb1 h=> ?_) (fun hb1 h=> ?_)
        ·refine ct hb1 ?_
         refine aX (rz tT (amd p s_ u0 u1 u2 u6) {} [] ?_)
         obtain rfl:=oi h
         exact lN
        ·refine cf hb1 ?_
         refine aP (aQ (bE h fun u4 hr_1 h=> ?_))
         refine aO h fun⟨a1,a2⟩ h=> ?_
         have q0:=rk [(0,809)] (yG (amw p u0 u1 u2) hr_1)
         refine di tT mX ⟨[(3,(vP 410 0)),(4,(vP 411 0)),sM,(zM u2),(9,(vB u6)),(10,(vI u0)),(DU p u0),(aau p u0 u1),(16,(vP 812 0)),(Ae p),(AB p),(28,(vI u0)),(H6 p u0),(49,(vI u1))],[(o8 s_),(o6 s_),(o5 s_),(oO s_),(pq s_),(oZ s_),(o7 s_),(OG p),(Ow s_),(412,some (aF 182 3 Way.cell u2)),(812,some (.cells 182 [(cB true),(cI (ahU p u0 u1 u2)),(.d (aD none 1 (aC .i64) (u4++[u0])))]))]⟩ [_,[u0].length=1,aT 1 1 (xL 1 [(.int .i64 u0)]) (au (aC .i64) [u0]),u4.length=u4.length,_,_,(u4++[u0]).length=u4.length+[u0].length,aT (u4.length+[u0].length) 1 (adT u0 u4) (Tj u0 u4),(u4++[u0]).length=(u4++[u0]).length] {an:=[(7,cA q0 []),(9, .arr [u0].length (au (aC .i64) [u0])),(10, .arr (u4++[u0]).length (Tj u0 u4))],fr:=[(9,810),(10,811),(12,812)] } [811] ⟨q0,(rfl),((by intro i hi j hj;match i,j,hi,hj with|0,0,_,_=>rfl)),rfl,a1,a2,(List.length_append),(dA _ _ _ _),rfl,trivial⟩ (fz ⟨[(3,(vP 410 0)),(4,(vP 411 0)),sM,(zM u2),(9,(vB u6)),(10,(vI u0)),(DU p u0),(aau p u0 u1),(aia p u0 u1 u2 u4),(Ae p),(AB p),(28,(vI u0)),(H6 p u0),(49,(vI u1))],(Ec u2 p s_)⟩ [812]) ?_
         refine aQ (bE h fun v2 hr_2 h=> ?_)
         refine aO h fun a1 h=> ?_
         have q2:=I5 (alM p u0 u1 u2 u4) (at' u2 (aga p u0 u1)) hr_2
         refine dg tT mX ⟨[(3,(vP 410 0)),(4,(vP 411 0)),sM,(zM u2),(9,(vB u6)),(10,(vI u0)),(DU p u0),(aau p u0 u1),(aia p u0 u1 u2 u4),(Ae p),(AB p),(28,(vI u0)),(H6 p u0),(49,(vI u1)),(80,(vB v2))],(Ec u2 p s_)⟩ [_,_,_] {an:=[(6,cA q2 [])] } [] ⟨a1,(tL a1),q2,trivial⟩ ?_
         refine bI h (fun hb h=> ?_) (fun hb h=> ?_)
         ·refine ct hb ?_
          refine aQ (aO h fun a1 h=> ?_)
          refine ri tT ⟨[(3,(vP 410 0)),(4,(vP 411 0)),sM,(zM u2),(10,(vI u0)),(DU p u0),(Ae p),(AB p),(28,(vI u0)),(H6 p u0),(49,(vI u1))],[(o8 s_),(o6 s_),(o5 s_),(oO s_),(pq s_),(oZ s_),(o7 s_),(OG p),(Ow s_),(412,some (.arr 182 3 u2.length (agy p u0 u1 u2 u4)))]⟩ [_,_,aT u2.length 3 (lH (au Way.cell u2) (aga p u0 u1) 0 (aix p u0 u1 u2 u4)) (agy p u0 u1 u2 u4)] {an:=[(4, .arr 0 (agy p u0 u1 u2 u4))] } [] ⟨a1,(tL a1),(dD _ _ _ _ _ _ _ _ rfl (fun j hj=>(match j,hj with|0,_=>rfl|1,_=>rfl|2,_=>rfl))),trivial⟩ (bJ.le (st':=⟨[(3,(vP 410 0)),(4,(vP 411 0)),sM,(ahw p u0 u1 u2 u4),(10,(vI u0)),(DU p u0),(Ae p),(AB p),(28,(vI u0)),(H6 p u0),(49,(vI u1))],(agT p s_ u0 u1 u2 u4)⟩) ⟨⟨tR,tR,tR,⟨_,rfl,fe.v (jB.one cW)⟩,tR,tR,tR,tR,tR,tR,tR,trivial⟩,(hN 9 ⟨rfl,oW,trivial⟩)⟩) ?_
          refine rz tT ⟨[(3,(vP 410 0)),(4,(vP 411 0)),sM,(ahw p u0 u1 u2 u4),(9,(vB true)),(10,(vI u0)),(DU p u0),(Ae p),(AB p),(28,(vI u0)),(H6 p u0),(49,(vI u1))],(agT p s_ u0 u1 u2 u4)⟩ {} [] ?_
          refine rz tT ⟨[(3,(vP 410 0)),(4,(vP 411 0)),sM,(ahw p u0 u1 u2 u4),(9,(vB true)),(10,(vI u0)),(DU p u0),(Ae p),(AB p),(28,(vI u0)),(H6 p u0),(49,(Am u1))],(agT p s_ u0 u1 u2 u4)⟩ {} [] ?_
          obtain rfl:=oi h
          exact lN
         ·refine cf hb ?_
          refine aP (rz tT (amd p s_ u0 u1 u2 u6) {} [] ?_)
          obtain rfl:=oi h
          exact lN
       ·refine cf hb2 ?_
        refine aI (fz (ag5 p u2 u6 u0 s_) []) ?_
        refine aX ?_
        obtain rfl:=oi h
        exact lB
      ·clear hy
       cases y with
       |brk z=>
        obtain⟨v0,v3⟩:=z
        unfold fE
        refine⟨_, .refl, ?_⟩
        refine rz tT (am2 p s_ v0 v3 u0) {} [] ?_
        obtain rfl:=oi h
        exact lN
       |ret v=>
        obtain rfl:=oi h
        unfold fE
        intro e st hn ha hR
        cases e with
        |normal=>exact absurd rfl hn
        |exit id=>simp only [tZ (b:=3) ha rfl,cond_false];exact hR
        |goto l=>exact hR
        |ret=>exact hR
        |panic c=>exact hR
        |outgrown=>exact hR
    ·refine cf hb4 ?_
     refine aI (fz (agQ u5 p s_ u8) []) ?_
     refine aX ?_
     obtain rfl:=oi h
     exact lB
   ·clear hy
    cases y1 with
    |brk z=>
     obtain⟨v4,v5⟩:=z
     unfold fE
     refine⟨_, .refl, ?_⟩
     obtain rfl:=oi h
     exact lN
    |ret v=>
     obtain rfl:=oi h
     unfold fE
     intro e st hn ha hR
     cases e with
     |normal=>exact absurd rfl hn
     |exit id=>simp only [tZ (b:=1) ha rfl,cond_false];exact hR
     |goto l=>exact hR
     |ret=>exact hR
     |panic c=>exact hR
     |outgrown=>exact hR
  ·refine cf hb5 ?_
   refine aI (fz (ajr s_ u7) []) ?_
   refine aX ?_
   obtain rfl:=oi h
   exact lB
 ·clear hy
  cases y2 with
  |brk z=>
   obtain⟨u9,rfl⟩: ∃q,q=z:=⟨_,rfl⟩
   unfold fE
   refine⟨_, .refl, ?_⟩
   refine sz tT ⟨[(6,(vO 412 true u9.length))],(aij s_ u9)⟩ {} [] ?_
   refine aI (bJ.fin (st':=⟨[(6,(vO 7 true u9.length))],[(o8 s_),(o6 s_),(o5 s_),(oO s_),(pq s_),(oZ s_),(o7 s_),(7,some (aF 182 3 Way.cell u9))]⟩) (cs:=[]) ⟨[],[(0,0),(1,1),(2,2),(3,3),(4,4),(5,5),(6,6),(412,7)]⟩ [6] (by kernel_rfl) trivial) ?_
   refine aR ?_
   obtain rfl:=oi h
   exact rl [(.one (.own 7 true u9.length))]
  |ret v=>
   obtain rfl:=oi h
   unfold fE
   intro e st hn ha hR
   cases e with
   |normal=>exact absurd rfl hn
   |exit id=>exact hR
   |goto l=>exact hR
   |ret=>exact hR
   |panic c=>exact hR
   |outgrown=>exact hR
def qy (s_:State):((List Short) × Int)→Exit→St→Prop:=
  fun r=>aW TT [.tmp 6, .tmp 7] (.iB [(sD (aD none 4 Short.cell r.1)),(sI r.2)]) (jr s_)
section
variable (u0:(List Short)) (p:ah) (s_:State)
abbrev QI:Nat × TV:=(9,(vO 35 false u0.length))
abbrev Iy:Nat × TV:=(29,(vD (k4 p)))
abbrev HZ:Nat × TV:=(30,(vI (p.sources.length:Int)))
abbrev VW:Nat × Option Ob:=(30,some (adX s_))
abbrev Uu:List (Nat × Option Ob):=[(o8 s_),(o6 s_),(o5 s_),(oO s_),(pq s_),(oZ s_),(o7 s_),(VW s_),(35,some (aF 142 4 Short.cell u0))]
end
def wo (p:ah) (s_:State) (u1:Int):((List Short) × Int)→St:=
  fun zz=>match zz with|(u0,u2)=> ⟨[(2,(vI u1)),(bB p),(4,(vP 30 0)),(QI u0),(Iy p),(HZ p),(31,(vI u2))],(Uu u0 s_)⟩
section
variable (u0:(List Short)) (s_:State)
abbrev ah7:St:=⟨[(QI u0)],[(o8 s_),(o6 s_),(o5 s_),(oO s_),(pq s_),(oZ s_),(o7 s_),(35,some (aF 142 4 Short.cell u0))]⟩
end
def vZ (s_:State):(List Short)→St:=
  fun u0=>(ah7 u0 s_)
def ER (p:ah) (s_:State) (u0:Int):(aM ((List Short) × Int) (Ex (List Short) ((List Short) × Int)))→Exit→St→Prop:=
  LQ 0 [] (wo p s_ u0) (vZ s_) (qy s_)
section
variable (s_:State) (p:ah) (r_:Int) (u0:Int) (u1:Int) (u3:(List Short)) (u2:(List Way)) (u4:(List Short))
abbrev abK:List (Nat × Option Ob):=[(o8 s_),(o6 s_),(o5 s_),(oO s_),(pq s_),(oZ s_),(o7 s_),(29,some (Xh p)),(VW s_)]
abbrev alT:List SV:=[(.agg (k3 p)),(.agg (Rm s_))]
abbrev ajd:St:=⟨[(6,(vD nS)),(7,(vI r_))],(jr s_)⟩
abbrev alm:St:=⟨[(6,(vD (aD none 4 Short.cell ([]:List Short)))),(7,(vI r_))],(jr s_)⟩
abbrev adQ:TV:=(vB (bif (decide (u0<0))then true else(decide (p.buses≤u0))))
abbrev alQ:St:=⟨[(6,(vD nS)),(7,(vI 1))],(jr s_)⟩
abbrev ama:St:=⟨[(6,(vD (aD none 4 Short.cell ([]:List Short)))),(7,(vI 1))],(jr s_)⟩
abbrev acM:Nat × TV:=(11,(k38 p u1))
abbrev amx:St:=⟨[(2,(vI u0)),(bB p),(4,(vP 30 0)),(QI u3),(Iy p),(HZ p),(31,(Am u1))],(Uu u3 s_)⟩
abbrev ahr:Nat × TV:=(12,(vD (oL [(.bool ((at' u2 u0.toNat).there)),(.int .i64 ((at' u2 u0.toNat).bK)),(aD none 1 (aC .i64) ((at' u2 u0.toNat).links))] 0)))
abbrev abr:=(IntKind.wrap .i64 (((at' p.sources u1.toNat).bK)+((at' u2 u0.toNat).bK)))
abbrev am0:=(IntKind.wrap .i64 (Int.tdiv (IntKind.wrap .i64 ((IntKind.wrap .i64 ((400000:Int)+(abr p u0 u1 u2))) - 1)) (abr p u0 u1 u2)))
abbrev XW:=(⟨u1,(abr p u0 u1 u2),(am0 p u0 u1 u2),(at' u2 u0.toNat).links⟩:Short)
abbrev ab9:=(u3++[(XW p u0 u1 u2)])
abbrev aiL:=((ab9 p u0 u1 u3 u2).length)
abbrev akN:Nat × TV:=(9,(vO 50 false (aiL p u0 u1 u3 u2)))
abbrev alz:Ob:=(aF 142 4 Short.cell (ab9 p u0 u1 u3 u2))
abbrev aiJ:List (Nat × Option Ob):=[(o8 s_),(o6 s_),(o5 s_),(oO s_),(pq s_),(oZ s_),(o7 s_),(VW s_),(50,some (alz p u0 u1 u3 u2))]
abbrev agr:=(au Short.cell [(XW p u0 u1 u2)])
abbrev am9:=(au Short.cell (ab9 p u0 u1 u3 u2))
abbrev amH:St:=⟨[(6,(vD (aD none 4 Short.cell u4))),(7,(vI 0))],(jr s_)⟩
end
theorem E9 (p:ah) (s_:State) (u0:Int) {r:((List Short) × Int)} (h:pM p s_ u0=some r):Fn Tryz.prog 68 (QM p s_ u0) (jr s_) (.iB [(sD (aD none 4 Short.cell r.1)),(sI r.2)]) (jr s_):=by
 refine fN tT Tryz.func68 rfl rfl fun B=> ?_
 show bG _ _ _ _ _ _ ((qy s_) r) _
 unfold pM at h
 refine sz tT ⟨[(2,(vI u0)),(3,(vP 29 0)),(4,(vP 30 0))],(abK s_ p)⟩ {fr:=[(0,29),(1,30)] } [] ?_
 refine aQ (aQ (bE h fun r_ hr_ h=> ?_))
 refine rg tT ⟨[(2,(vI u0)),(3,(vP 29 0)),(4,(vP 30 0)),(8,(vI r_))],(abK s_ p)⟩ [Fn Tryz.prog 35 (alT s_ p) (jr s_) (vI r_) (jr s_)] {an:=[(2, .callR [0,1,2,3,4,5,6] (vI r_))] } [] ⟨(Fn.DK (frz:=[0,1,2,3,4,5,6]) (p:=[s_.closed.length=s_.closed.length,s_.locked.length=s_.locked.length,s_.badLink.length=s_.badLink.length,s_.on_.length=s_.on_.length,s_.badSource.length=s_.badSource.length,s_.earthed.length=s_.earthed.length,s_.badBus.length=s_.badBus.length]) (j4 p s_ hr_) (by kernel_rfl) ⟨rfl,rfl,rfl,rfl,rfl,rfl,rfl,trivial⟩ rfl),trivial⟩ ?_
 refine sz tT ⟨[(2,(vI u0)),(3,(vP 29 0)),(4,(vP 30 0)),(8,(vI r_)),(18,(vB (!decide (r_=0))))],(abK s_ p)⟩ {} [] ?_
 refine bI h (fun hb4 h=> ?_) (fun hb4 h=> ?_)
 ·refine ct hb4 ?_
  refine sz tT (ajd s_ r_) {} [] ?_
  refine aI (bJ.le (st':=(alm s_ r_)) ⟨⟨⟨_,rfl,fe.v (jB.one (bH.d dR.nil'))⟩,tR,trivial⟩,(.refl _)⟩) ?_
  refine aR ?_
  obtain rfl:=oi h
  exact rl [(sD (aD none 4 Short.cell ([]:List Short))),(sI r_)]
 ·refine cf hb4 ?_
  refine aP (aQ (sg tT ⟨[(2,(vI u0)),(3,(vP 29 0)),(4,(vP 30 0)),(27,(adQ p u0))],(abK s_ p)⟩ (eqs (decide (u0<0)) 5 []) {yb:=[(2,(decide (u0<0)))] } [] (ae trivial) ?_))
  refine bI h (fun hb3 h=> ?_) (fun hb3 h=> ?_)
  ·refine ct hb3 ?_
   refine sz tT (alQ s_) {} [] ?_
   refine aI (bJ.le (st':=(ama s_)) ⟨⟨⟨_,rfl,fe.v (jB.one (bH.d dR.nil'))⟩,tR,trivial⟩,(.refl _)⟩) ?_
   refine aR ?_
   obtain rfl:=oi h
   exact rl [(sD (aD none 4 Short.cell ([]:List Short))),(sI 1)]
  ·refine cf hb3 ?_
   refine aP (sz tT ⟨[(2,(vI u0)),(3,(vP 29 0)),(4,(vP 30 0)),(9,(vD nS))],(abK s_ p)⟩ {} [] ?_)
   refine aQ (sz tT ⟨[(2,(vI u0)),(bB p),(4,(vP 30 0)),(9,(vD nS)),(Iy p),(HZ p),(31,(vI 0))],[(o8 s_),(o6 s_),(o5 s_),(oO s_),(pq s_),(oZ s_),(o7 s_),(VW s_)]⟩ {} [29] ?_)
   refine bE h fun y hy h=> ?_
   refine aI (.trans (bJ.Er (t:=9) (b:=51) (esz0:=0) (el0:=fun _ _=> .nilp) (E:=142) (esz:=4) (el:=au Short.cell ([]:List Short)) (by kernel_rfl) (by kernel_rfl)) (.trans (bJ.fin (st':=⟨[(2,(vI u0)),(bB p),(4,(vP 30 0)),(9,(vO 35 false 0)),(Iy p),(HZ p),(31,(vI 0))],[(o8 s_),(o6 s_),(o5 s_),(oO s_),(pq s_),(oZ s_),(o7 s_),(VW s_),(35,some (.arr 142 4 0 (au Short.cell ([]:List Short))))]⟩) (cs:=[]) ⟨[],[(0,0),(1,1),(2,2),(3,3),(4,4),(5,5),(6,6),(30,30),(51,35)]⟩ [2,3,4,9,29,30,31] (by kernel_rfl) trivial) (bJ.le (st':=⟨[(2,(vI u0)),(bB p),(4,(vP 30 0)),(9,(vO 35 false (([]:List Short).length))),(Iy p),(HZ p),(31,(vI 0))],[(o8 s_),(o6 s_),(o5 s_),(oO s_),(pq s_),(oZ s_),(o7 s_),(VW s_),(35,some (aF 142 4 Short.cell ([]:List Short)))]⟩) ⟨⟨tR,tR,tR,⟨_,rfl,fe.v (jB.one cW)⟩,tR,tR,tR,trivial⟩,(hN 8 ⟨rfl,oW,trivial⟩)⟩))) ?_
   refine aL [] (wo p s_ u0) (vZ s_) (qy s_) hy (fun s f h=> ?_) ?_
   ·clear hy
    show bG _ _ _ _ _ _ ((ER p s_ u0) f) _
    unfold lG at h
    obtain⟨u3,u1⟩:=s
    refine sz tT ⟨[(2,(vI u0)),(bB p),(4,(vP 30 0)),(QI u3),(Iy p),(HZ p),(31,(vI u1)),(32,(k36 p u1))],(Uu u3 s_)⟩ {} [] ?_
    refine aQ ?_
    refine bI h (fun hb2 h=> ?_) (fun hb2 h=> ?_)
    ·refine ct hb2 ?_
     refine aP (aQ (aB (aQ (aO h fun a1 h=> ?_))))
     refine rg tT ⟨[(2,(vI u0)),(bB p),(4,(vP 30 0)),(QI u3),(10,(vI u1)),(acM p u1),(Iy p),(HZ p),(31,(vI u1))],(Uu u3 s_)⟩ [_] {fr:=[(3,46)] } [46] ⟨a1,trivial⟩ ?_
     refine aQ (aQ (bE h fun u5 hr_1 h=> ?_))
     refine aO h fun a1 h=> ?_
     refine rg tT ⟨[(2,(vI u0)),(bB p),(4,(vP 30 0)),(QI u3),(10,(vI u1)),(acM p u1),(Iy p),(HZ p),(31,(vI u1)),(47,(vB (bif (at' s_.badBus u0.toNat)then true else(!u5))))],(Uu u3 s_)⟩ (_::_::(eqs (at' s_.badBus u0.toNat) 4 ((gP (ic [(5,(at' s_.badBus u0.toNat))]) [(5,false)]→All [Fn Tryz.prog 71 (QM p s_ u1) (jr s_) (vB u5) (jr s_)])::(eqs (at' s_.badBus u0.toNat) 2 [])))) {yb:=[(5,(at' s_.badBus u0.toNat))],an:=[(9, .callR [0,1,2,3,4,5,6] (vB u5))] } [] ⟨a1,(tL a1),(ae ⟨(fun hg=> ⟨(Fn.DK (frz:=[0,1,2,3,4,5,6]) (p:=[s_.closed.length=s_.closed.length,s_.locked.length=s_.locked.length,s_.badLink.length=s_.badLink.length,s_.on_.length=s_.on_.length,s_.badSource.length=s_.badSource.length,s_.earthed.length=s_.earthed.length,s_.badBus.length=s_.badBus.length]) (KV p s_ u1 (fD hr_1 (aU hg))) (by kernel_rfl) ⟨rfl,rfl,rfl,rfl,rfl,rfl,rfl,trivial⟩ rfl),trivial⟩),(ae trivial)⟩)⟩ ?_
     refine bI h (fun hb1 h=> ?_) (fun hb1 h=> ?_)
     ·refine ct hb1 ?_
      refine aX (rz tT (amx s_ p u0 u1 u3) {} [] ?_)
      obtain rfl:=oi h
      exact lN
     ·refine cf hb1 ?_
      refine aP (aQ (bE h fun u2 hr_2 h=> ?_))
      refine aO h fun a1 h=> ?_
      have q0:=rk [(7,47)] (IJ p s_ (ZJ p u1) hr_2)
      refine rg tT ⟨[(2,(vI u0)),(bB p),(4,(vP 30 0)),(QI u3),(10,(vI u1)),(acM p u1),(ahr u0 u2),(Iy p),(HZ p),(31,(vI u1))],(Uu u3 s_)⟩ [_,_,_] {an:=[(4,cA q0 [0,1,2,3,4,5,6])],fr:=[(8,48)] } [48] ⟨q0,a1,(tL a1),trivial⟩ ?_
      refine sz tT ⟨[(2,(vI u0)),(bB p),(4,(vP 30 0)),(QI u3),(10,(vI u1)),(acM p u1),(ahr u0 u2),(Iy p),(HZ p),(31,(vI u1)),(57,(vB ((at' u2 u0.toNat).there)))],(Uu u3 s_)⟩ {} [] ?_
      refine bI h (fun hb h=> ?_) (fun hb h=> ?_)
      ·refine ct hb ?_
       refine sz tT ⟨[(2,(vI u0)),(bB p),(4,(vP 30 0)),(QI u3),(10,(vI u1)),(ahr u0 u2),(13,(vI (abr p u0 u1 u2))),(Iy p),(HZ p),(31,(vI u1))],(Uu u3 s_)⟩ {} [] ?_
       refine aO h fun⟨a1,a2,a3⟩ h=> ?_
       refine dg tT mX ⟨[(2,(vI u0)),(bB p),(4,(vP 30 0)),(akN p u0 u1 u3 u2),(Iy p),(HZ p),(31,(vI u1))],(aiJ s_ p u0 u1 u3 u2)⟩ [_,[(XW p u0 u1 u2)].length=1,aT 1 4 (xL 4 [(.int .i64 u1),(.int .i64 (abr p u0 u1 u2)),(.int .i64 (am0 p u0 u1 u2)),(aD none 1 (aC .i64) ((at' u2 u0.toNat).links))]) (agr p u0 u1 u2),u3.length=u3.length,_,_,(ab9 p u0 u1 u3 u2).length=u3.length+[(XW p u0 u1 u2)].length,aT (u3.length+[(XW p u0 u1 u2)].length) 4 (yJ (au Short.cell u3) u3.length (agr p u0 u1 u2)) (am9 p u0 u1 u3 u2)] {an:=[(11, .arr [(XW p u0 u1 u2)].length (agr p u0 u1 u2)),(12, .arr (ab9 p u0 u1 u3 u2).length (am9 p u0 u1 u3 u2))],fr:=[(11,49),(12,50)] } [] ⟨a1,(rfl),((by intro i hi j hj;match i,j,hi,hj with|0,0,_,_=>rfl|0,1,_,_=>rfl|0,2,_,_=>rfl|0,3,_,_=>rfl)),rfl,a2,a3,(List.length_append),(dA _ _ _ _),trivial⟩ ?_
       refine ri tT ⟨[(2,(vI u0)),(bB p),(4,(vP 30 0)),(akN p u0 u1 u3 u2),(Iy p),(HZ p),(31,(Am u1))],(aiJ s_ p u0 u1 u3 u2)⟩ [] {} [] trivial (bJ.fin (st':=⟨[(2,(vI u0)),(bB p),(4,(vP 30 0)),(9,(vO 35 false (aiL p u0 u1 u3 u2))),(Iy p),(HZ p),(31,(Am u1))],[(o8 s_),(o6 s_),(o5 s_),(oO s_),(pq s_),(oZ s_),(o7 s_),(VW s_),(35,some (alz p u0 u1 u3 u2))]⟩) (cs:=[]) ⟨[],[(0,0),(1,1),(2,2),(3,3),(4,4),(5,5),(6,6),(30,30),(50,35)]⟩ [2,3,4,9,29,30,31] (by kernel_rfl) trivial) ?_
       obtain rfl:=oi h
       exact lN
      ·refine cf hb ?_
       refine aP (rz tT (amx s_ p u0 u1 u3) {} [] ?_)
       obtain rfl:=oi h
       exact lN
    ·refine cf hb2 ?_
     refine aI (fz (ah7 u3 s_) []) ?_
     refine aX ?_
     obtain rfl:=oi h
     exact lB
   ·clear hy
    cases y with
    |brk z=>
     obtain⟨u4,rfl⟩: ∃q,q=z:=⟨_,rfl⟩
     unfold fE
     refine⟨_, .refl, ?_⟩
     refine sg tT (amH s_ u4) [u4.length=u4.length] {} [35] ⟨rfl,trivial⟩ ?_
     refine aR ?_
     obtain rfl:=oi h
     exact rl [(sD (aD none 4 Short.cell u4)),(sI 0)]
    |ret v=>
     obtain rfl:=oi h
     unfold fE
     intro e st hn ha hR
     cases e with
     |normal=>exact absurd rfl hn
     |exit id=>exact hR
     |goto l=>exact hR
     |ret=>exact hR
     |panic c=>exact hR
     |outgrown=>exact hR
section
variable (u0:Machine)
abbrev Mh:Ob:=(aF 87 2 Event.cell u0.clearing.events)
abbrev qP:Nat × Option Ob:=(1,some (Mh u0))
abbrev Vd:Ob:=(aF 4 1 af u0.clearing.state.closed)
abbrev kF:Nat × Option Ob:=(2,some (Vd u0))
abbrev YW:Ob:=(aF 4 1 af u0.clearing.state.locked)
abbrev iD:Nat × Option Ob:=(3,some (YW u0))
abbrev Zz:Ob:=(aF 4 1 af u0.clearing.state.badLink)
abbrev gY:Nat × Option Ob:=(4,some (Zz u0))
abbrev YD:Ob:=(aF 4 1 af u0.clearing.state.on_)
abbrev gU:Nat × Option Ob:=(5,some (YD u0))
abbrev Zu:Ob:=(aF 4 1 af u0.clearing.state.badSource)
abbrev gJ:Nat × Option Ob:=(6,some (Zu u0))
abbrev UK:Ob:=(aF 4 1 af u0.clearing.state.earthed)
abbrev gm:Nat × Option Ob:=(7,some (UK u0))
abbrev Zc:Ob:=(aF 4 1 af u0.clearing.state.badBus)
abbrev fJ:Nat × Option Ob:=(8,some (Zc u0))
end
def gT (u0:Machine):(Machine × Bool)→Exit→St→Prop:=
  fun r=>aW TT [] (.iB []) [(0,some (.cells 96 [(.own 1 false u0.clearing.events.length),(cB r.1.clearing.cleared),(cI r.1.clearing.millis),(cI r.1.clearing.energy),(.own 2 false u0.clearing.state.closed.length),(.own 3 false u0.clearing.state.locked.length),(.own 4 false u0.clearing.state.badLink.length),(.own 5 false u0.clearing.state.on_.length),(.own 6 false u0.clearing.state.badSource.length),(.own 7 false u0.clearing.state.earthed.length),(.own 8 false u0.clearing.state.badBus.length),(cI r.1.p.buses),(.d (aD none 5 Source.cell r.1.p.sources)),(.d (aD none 6 Link.cell r.1.p.links)),(.d (aD none 4 aJ.cell r.1.p.racks)),(cI r.1.bus),(.d (aD (some r.2) 1 (aC .i64) r.1.amps)),(cI r.1.total),(.mp 9),(cI r.1.now)])),(qP u0),(kF u0),(iD u0),(gY u0),(gU u0),(gJ u0),(gm u0),(fJ u0),(9,some (Px 3 3 false false 1 1 (aC .i64) (aC .i64) r.1.since))]
section
variable (u1:((List Int) × Bool × Int)) (r_:((List Short) × Int)) (u4:Int) (u0:Machine) (u2:Bool) (u3:Int)
abbrev Ib:Nat × TV:=(4,(vD (aD (some u1.2.1) 1 (aC .i64) u1.1)))
abbrev Z5:Nat × TV:=(39,(vD (aD none 4 Short.cell r_.1)))
abbrev ail:List (Nat × TV):=[(0,(vP 0 0)),(Ib u1),(Z5 r_),(40,(vI (r_.1.length:Int))),(41,(vI u4))]
abbrev xg:DV:=(aD none 5 Source.cell u0.p.sources)
abbrev wJ:DV:=(aD none 6 Link.cell u0.p.links)
abbrev xA:DV:=(aD none 4 aJ.cell u0.p.racks)
abbrev yE:DV:=(aD (some u2) 1 (aC .i64) u0.amps)
abbrev ahO:Nat × Option Ob:=(0,some (.cells 96 [(.own 1 false u0.clearing.events.length),(cB u0.clearing.cleared),(cI u0.clearing.millis),(cI u0.clearing.energy),(.own 2 false u0.clearing.state.closed.length),(.own 3 false u0.clearing.state.locked.length),(.own 4 false u0.clearing.state.badLink.length),(.own 5 false u0.clearing.state.on_.length),(.own 6 false u0.clearing.state.badSource.length),(.own 7 false u0.clearing.state.earthed.length),(.own 8 false u0.clearing.state.badBus.length),(cI u0.p.buses),(.d (xg u0)),(.d (wJ u0)),(.d (xA u0)),(cI u0.bus),(.d (yE u0 u2)),(cI u3),(.mp 9),(cI u0.now)]))
abbrev aha:Ob:=(Px 3 3 false false 1 1 (aC .i64) (aC .i64) u0.since)
abbrev kV:Nat × Option Ob:=(9,some (aha u0))
abbrev aaS:List (Nat × Option Ob):=[(ahO u0 u2 u3),(qP u0),(kF u0),(iD u0),(gY u0),(gU u0),(gJ u0),(gm u0),(fJ u0),(kV u0)]
end
def qF (u0:Machine) (u2:Bool) (r_:((List Short) × Int)) (u1:((List Int) × Bool × Int)):(Int × Int)→St:=
  fun zz=>match zz with|(u3,u4)=> ⟨(ail u1 r_ u4),(aaS u0 u2 u3)⟩
section
variable (u1:((List Int) × Bool × Int)) (u0:Machine) (u2:Bool) (u3:Int)
abbrev akY:St:=⟨[(0,(vP 0 0)),(Ib u1)],(aaS u0 u2 u3)⟩
end
def qK (u0:Machine) (u2:Bool) (u1:((List Int) × Bool × Int)):Int→St:=
  fun u3=>(akY u1 u0 u2 u3)
def Bf (u0:Machine) (u1:Bool) (r_:((List Short) × Int)) (u2:((List Int) × Bool × Int)):(aM (Int × Int) (Ex Int (Machine × Bool)))→Exit→St→Prop:=
  LQ 0 [] (qF u0 u1 r_ u2) (qK u0 u1 u2) (gT u0)
section
variable (u1:((List Int) × Bool × Int)) (u5:Int) (u4:(List (Int × Int))) (u0:Machine) (u2:Bool) (u3:Int)
abbrev Y1:Nat × TV:=(55,(vD (aD (some u1.2.1) 1 (aC .i64) u1.1)))
abbrev X3:Nat × TV:=(56,(vI (u1.1.length:Int)))
abbrev ak9:List (Nat × TV):=[(0,(vP 0 0)),(Ib u1),(Y1 u1),(X3 u1),(57,(vI u5))]
abbrev adW:Ob:=(Px 3 3 false false 1 1 (aC .i64) (aC .i64) u4)
abbrev agf:Nat × Option Ob:=(9,some (adW u4))
abbrev Yu:List (Nat × Option Ob):=[(ahO u0 u2 u3),(qP u0),(kF u0),(iD u0),(gY u0),(gU u0),(gJ u0),(gm u0),(fJ u0),(agf u4)]
end
def qI (u0:Machine) (u2:Bool) (u1:((List Int) × Bool × Int)) (u3:Int):((List (Int × Int)) × Int)→St:=
  fun zz=>match zz with|(u4,u5)=> ⟨(ak9 u1 u5),(Yu u4 u0 u2 u3)⟩
section
variable (u1:((List Int) × Bool × Int)) (u0:Machine) (u2:Bool) (u3:Int) (u4:(List (Int × Int)))
abbrev am3:St:=⟨[(0,(vP 0 0)),(Ib u1)],(Yu u4 u0 u2 u3)⟩
end
def qL (u0:Machine) (u2:Bool) (u1:((List Int) × Bool × Int)) (u3:Int):(List (Int × Int))→St:=
  fun u4=>(am3 u1 u0 u2 u3 u4)
def Ad (u0:Machine) (u1:Bool) (u2:((List Int) × Bool × Int)) (u3:Int):(aM ((List (Int × Int)) × Int) (Ex (List (Int × Int)) (Machine × Bool)))→Exit→St→Prop:=
  LQ 2 [] (qI u0 u1 u2 u3) (qL u0 u1 u2 u3) (gT u0)
section
variable (u0:Machine) (u2:Bool) (r_:((List Short) × Int)) (u1:((List Int) × Bool × Int)) (u7:Int) (u6:Int) (u5:Int) (u3:Int) (u4:(List (Int × Int)))
abbrev ahp:List CV:=[(.own 1 false u0.clearing.events.length),(cB u0.clearing.cleared),(cI u0.clearing.millis),(cI u0.clearing.energy),(.own 2 false u0.clearing.state.closed.length),(.own 3 false u0.clearing.state.locked.length),(.own 4 false u0.clearing.state.badLink.length),(.own 5 false u0.clearing.state.on_.length),(.own 6 false u0.clearing.state.badSource.length),(.own 7 false u0.clearing.state.earthed.length),(.own 8 false u0.clearing.state.badBus.length),(cI u0.p.buses),(.d (xg u0)),(.d (wJ u0)),(.d (xA u0)),(cI u0.bus),(.d (yE u0 u2)),(cI u0.total),(.mp 9),(cI u0.now)]
abbrev CX:Nat × Option Ob:=(0,some (.cells 96 (ahp u0 u2)))
abbrev SS:List (Nat × Option Ob):=[(CX u0 u2),(qP u0),(kF u0),(iD u0),(gY u0),(gU u0),(gJ u0),(gm u0),(fJ u0),(kV u0)]
abbrev ajq:List (Nat × TV):=[(0,(vP 0 0)),(2,(vD (aD none 4 Short.cell r_.1))),(Ib u1)]
abbrev akp:List (Nat × Option Ob):=[(0,some (.cells 96 [(.own 1 false u0.clearing.events.length),(cB u0.clearing.cleared),(cI u0.clearing.millis),(cI u0.clearing.energy),(.own 2 false u0.clearing.state.closed.length),(.own 3 false u0.clearing.state.locked.length),(.own 4 false u0.clearing.state.badLink.length),(.own 5 false u0.clearing.state.on_.length),(.own 6 false u0.clearing.state.badSource.length),(.own 7 false u0.clearing.state.earthed.length),(.own 8 false u0.clearing.state.badBus.length),(cI u0.p.buses),(.d (xg u0)),(.d (wJ u0)),(.d (xA u0)),(cI u0.bus),(.d (yE u0 u2)),(cI 0),(.mp 9),(cI u0.now)])),(qP u0),(kF u0),(iD u0),(gY u0),(gU u0),(gJ u0),(gm u0),(fJ u0),(kV u0)]
abbrev alh:List (Nat × Option Ob):=[(0,some (.cells 96 [(.own 1 false u0.clearing.events.length),(cB u0.clearing.cleared),(cI u0.clearing.millis),(cI u0.clearing.energy),(.own 2 false u0.clearing.state.closed.length),(.own 3 false u0.clearing.state.locked.length),(.own 4 false u0.clearing.state.badLink.length),(.own 5 false u0.clearing.state.on_.length),(.own 6 false u0.clearing.state.badSource.length),(.own 7 false u0.clearing.state.earthed.length),(.own 8 false u0.clearing.state.badBus.length),(cI u0.p.buses),(.d (xg u0)),(.d (wJ u0)),(.d (xA u0)),(cI u0.bus),(.d (yE u0 u2)),(cI (IntKind.wrap .i64 (u7+((at' r_.1 u6.toNat).amps)))),(.mp 9),(cI u0.now)])),(qP u0),(kF u0),(iD u0),(gY u0),(gU u0),(gJ u0),(gm u0),(fJ u0),(kV u0)]
abbrev akl:List (Nat × Option Ob):=[(ahO u0 u2 u5),(qP u0),(kF u0),(iD u0),(gY u0),(gU u0),(gJ u0),(gm u0),(fJ u0),(9,some (Px 3 3 false false 1 1 (aC .i64) (aC .i64) (jH gI u3 u0.now u4)))]
abbrev akv:List (Nat × TV):=[(0,(vP 0 0)),(Ib u1),(Y1 u1),(X3 u1),(57,(Am u3))]
end
theorem Bg (u0:Machine) (u2:Bool) {r:(Machine × Bool)} (h:dL u0 u2=some r):Fn Tryz.prog 86 [(.one (.ptr 0 0))] (SS u0 u2) (.iB []) [(0,some (.cells 96 [(.own 1 false u0.clearing.events.length),(cB r.1.clearing.cleared),(cI r.1.clearing.millis),(cI r.1.clearing.energy),(.own 2 false u0.clearing.state.closed.length),(.own 3 false u0.clearing.state.locked.length),(.own 4 false u0.clearing.state.badLink.length),(.own 5 false u0.clearing.state.on_.length),(.own 6 false u0.clearing.state.badSource.length),(.own 7 false u0.clearing.state.earthed.length),(.own 8 false u0.clearing.state.badBus.length),(cI r.1.p.buses),(.d (aD none 5 Source.cell r.1.p.sources)),(.d (aD none 6 Link.cell r.1.p.links)),(.d (aD none 4 aJ.cell r.1.p.racks)),(cI r.1.bus),(.d (aD (some r.2) 1 (aC .i64) r.1.amps)),(cI r.1.total),(.mp 9),(cI r.1.now)])),(qP u0),(kF u0),(iD u0),(gY u0),(gU u0),(gJ u0),(gm u0),(fJ u0),(9,some (Px 3 3 false false 1 1 (aC .i64) (aC .i64) r.1.since))]:=by
 refine fN tT Tryz.func86 rfl rfl fun B=> ?_
 show bG _ _ _ _ _ _ ((gT u0) r) _
 unfold dL at h
 refine aQ (bE h fun r_ hr_ h=> ?_)
 have q0:=rk [(0,2),(1,3),(0,4),(1,5),(0,6),(1,7),(0,8)] (E9 u0.p u0.clearing.state u0.bus hr_)
 refine dg tT mX ⟨[(0,(vP 0 0)),(2,(vD (aD none 4 Short.cell r_.1)))],(SS u0 u2)⟩ [_] {an:=[(13,cR q0 [2,3,4,5,6,7,8])] } [] ⟨q0,trivial⟩ ?_
 refine aQ (bE h fun u1 hr_1 h=> ?_)
 have q0:=Ho u0.p r_.1 hr_1
 refine rg tT ⟨(ajq r_ u1),(SS u0 u2)⟩ [_] {an:=[(5,cA q0 [])] } [] ⟨q0,trivial⟩ ?_
 refine sz tT ⟨(ajq r_ u1),(akp u0 u2)⟩ {} [] ?_
 refine aQ (sz tT ⟨[(0,(vP 0 0)),(Ib u1),(Z5 r_),(40,(vI (r_.1.length:Int))),(41,(vI 0))],(akp u0 u2)⟩ {} [] ?_)
 refine bE h fun y hy h=> ?_
 refine aL [] (qF u0 u2 r_ u1) (qK u0 u2 u1) (gT u0) hy (fun s f h=> ?_) ?_
 ·clear hy
  show bG _ _ _ _ _ _ ((Bf u0 u2 r_ u1) f) _
  unfold gF at h
  obtain⟨u7,u6⟩:=s
  refine sz tT ⟨[(0,(vP 0 0)),(Ib u1),(Z5 r_),(40,(vI (r_.1.length:Int))),(41,(vI u6)),(42,(vB (decide (u6<(r_.1.length:Int)))))],(aaS u0 u2 u7)⟩ {} [] ?_
  refine aQ ?_
  refine bI h (fun hb h=> ?_) (fun hb h=> ?_)
  ·refine ct hb ?_
   refine aP (aQ (aB (aQ (aO h fun a1 h=> ?_))))
   refine rg tT ⟨[(0,(vP 0 0)),(Ib u1),(7,(vD (oL [(.int .i64 ((at' r_.1 u6.toNat).source)),(.int .i64 ((at' r_.1 u6.toNat).bK)),(.int .i64 ((at' r_.1 u6.toNat).amps)),(aD none 1 (aC .i64) ((at' r_.1 u6.toNat).links))] 0))),(Z5 r_),(40,(vI (r_.1.length:Int))),(41,(vI u6))],(aaS u0 u2 u7)⟩ [_] {fr:=[(2,17)] } [17] ⟨a1,trivial⟩ ?_
   refine dg tT mX ⟨(ail u1 r_ u6),(alh u0 u2 r_ u7 u6)⟩ [] {} [] trivial ?_
   refine rz tT ⟨[(0,(vP 0 0)),(Ib u1),(Z5 r_),(40,(vI (r_.1.length:Int))),(41,(Am u6))],(alh u0 u2 r_ u7 u6)⟩ {} [] ?_
   obtain rfl:=oi h
   exact lN
  ·refine cf hb ?_
   refine aI (fz (akY u1 u0 u2 u7) []) ?_
   refine aX ?_
   obtain rfl:=oi h
   exact lB
 ·clear hy
  cases y with
  |brk z=>
   obtain⟨u5,rfl⟩: ∃q,q=z:=⟨_,rfl⟩
   unfold fE
   refine⟨_, .refl, ?_⟩
   refine aQ (sz tT ⟨[(0,(vP 0 0)),(Ib u1),(Y1 u1),(X3 u1),(57,(vI 0))],(aaS u0 u2 u5)⟩ {} [] ?_)
   refine bE h fun y1 hy h=> ?_
   refine aL [] (qI u0 u2 u1 u5) (qL u0 u2 u1 u5) (gT u0) hy (fun s f h=> ?_) ?_
   ·clear hy
    show bG _ _ _ _ _ _ ((Ad u0 u2 u1 u5) f) _
    unfold eF at h
    obtain⟨u4,u3⟩:=s
    refine sz tT ⟨[(0,(vP 0 0)),(Ib u1),(Y1 u1),(X3 u1),(57,(vI u3)),(58,(vB (decide (u3<(u1.1.length:Int)))))],(Yu u4 u0 u2 u5)⟩ {} [] ?_
    refine aQ ?_
    refine bI h (fun hb2 h=> ?_) (fun hb2 h=> ?_)
    ·refine ct hb2 ?_
     refine aP (aQ (aB (aQ (aO h fun a1 h=> ?_))))
     refine rg tT ⟨[(0,(vP 0 0)),(Ib u1),(8,(vI u3)),(9,(vI (at' u1.1 u3.toNat))),(Y1 u1),(X3 u1),(57,(vI u3))],(Yu u4 u0 u2 u5)⟩ [_] {} [] ⟨a1,trivial⟩ ?_
     refine aQ (aO h fun a1 h=> ?_)
     refine rg tT ⟨[(0,(vP 0 0)),(Ib u1),(8,(vI u3)),(Y1 u1),(X3 u1),(57,(vI u3)),(77,(vB (bif (!u2)then true else(!decide ((at' u0.amps u3.toNat)=(at' u1.1 u3.toNat))))))],(Yu u4 u0 u2 u5)⟩ (eqs (!u2) 6 ((gP (ic [(5,(!u2))]) [(5,false)]→All [(0:Int)≤u3∧u3<(u0.amps.length:Int)])::(eqs (!u2) 4 []))) {yb:=[(5,(!u2))] } [] (ae ⟨(fun hg=> ⟨(a1 (aU hg)),trivial⟩),(ae trivial)⟩) ?_
     refine bI h (fun hb1 h=> ?_) (fun hb1 h=> ?_)
     ·refine ct hb1 ?_
      refine dg tT mX ⟨(ak9 u1 u3),(akl u0 u2 u5 u3 u4)⟩ [uL [some .i64] 1 1 u4.length (Gb (aC .i64) u4) (IB (aC .i64) u4) [(.int .i64 u3)] [(cI u0.now)] [] (jH gI u3 u0.now u4).length (Gb (aC .i64) (jH gI u3 u0.now u4)) (IB (aC .i64) (jH gI u3 u0.now u4))] {an:=[(9, .map (jH gI u3 u0.now u4).length (Gb (aC .i64) (jH gI u3 u0.now u4)) (IB (aC .i64) (jH gI u3 u0.now u4)) [])] } [] ⟨(NN (fun _=>rfl) (fun _ _=>rfl) u4 u3 u0.now rfl rfl),trivial⟩ ?_
      refine rz tT ⟨(akv u1 u3),(akl u0 u2 u5 u3 u4)⟩ {} [] ?_
      obtain rfl:=oi h
      exact lN
     ·refine cf hb1 ?_
      refine aP (rz tT ⟨(akv u1 u3),(Yu u4 u0 u2 u5)⟩ {} [] ?_)
      obtain rfl:=oi h
      exact lN
    ·refine cf hb2 ?_
     refine aI (fz (am3 u1 u0 u2 u5 u4) []) ?_
     refine aX ?_
     obtain rfl:=oi h
     exact lB
   ·clear hy
    cases y1 with
    |brk z=>
     obtain⟨u8,rfl⟩: ∃q,q=z:=⟨_,rfl⟩
     unfold fE
     refine⟨_, .refl, ?_⟩
     refine rz tT ⟨[],[(0,some (.cells 96 [(.own 1 false u0.clearing.events.length),(cB u0.clearing.cleared),(cI u0.clearing.millis),(cI u0.clearing.energy),(.own 2 false u0.clearing.state.closed.length),(.own 3 false u0.clearing.state.locked.length),(.own 4 false u0.clearing.state.badLink.length),(.own 5 false u0.clearing.state.on_.length),(.own 6 false u0.clearing.state.badSource.length),(.own 7 false u0.clearing.state.earthed.length),(.own 8 false u0.clearing.state.badBus.length),(cI u0.p.buses),(.d (xg u0)),(.d (wJ u0)),(.d (xA u0)),(cI u0.bus),(.d (aD (some u1.2.1) 1 (aC .i64) u1.1)),(cI u5),(.mp 9),(cI u0.now)])),(qP u0),(kF u0),(iD u0),(gY u0),(gU u0),(gJ u0),(gm u0),(fJ u0),(agf u8)]⟩ {} [] ?_
     obtain rfl:=oi h
     exact aW.mk (.inl rfl) (p:=[]) (l:=[]) (by kernel_rfl) trivial (fe.refl _) (.refl _)
    |ret v=>
     obtain rfl:=oi h
     unfold fE
     intro e st hn ha hR
     cases e with
     |normal=>exact absurd rfl hn
     |exit id=>exact hR
     |goto l=>exact hR
     |ret=>exact hR
     |panic c=>exact hR
     |outgrown=>exact hR
  |ret v=>
   obtain rfl:=oi h
   unfold fE
   intro e st hn ha hR
   cases e with
   |normal=>exact absurd rfl hn
   |exit id=>exact hR
   |goto l=>exact hR
   |ret=>exact hR
   |panic c=>exact hR
   |outgrown=>exact hR
section
variable (u0:Machine) (u1:Bool)
abbrev afT:List (Nat × Option Ob):=[(CX u0 u1),(qP u0),(kF u0),(iD u0),(gY u0),(gU u0),(gJ u0),(gm u0),(fJ u0),(kV u0),(10,some (.cells 93 [(.ptr 0 0)]))]
end
def Al (u0:Machine) (u1:Bool):Unit→Exit→St→Prop:=
  fun _=>aW TT [.tmp 2] (.v (.one (.fn 141 0 1 (DI [(.ptr 10 0)])))) (afT u0 u1)
section
variable (u0:Machine) (u1:Bool)
abbrev amX:List (Nat × Option Ob):=[(CX u0 u1),(qP u0),(kF u0),(iD u0),(gY u0),(gU u0),(gJ u0),(gm u0),(fJ u0),(kV u0),(11,some (.cells 93 [(.ptr 0 0)]))]
end
theorem pU (u0:Machine) (u1:Bool) {r:Unit} (h:ig u0 u1=some r):Fn Tryz.prog 115 [(.one (.ptr 0 0))] (SS u0 u1) (.v (.one (.fn 141 0 1 (DI [(.ptr 10 0)])))) (afT u0 u1):=by
 refine fN tT Tryz.func115 rfl rfl fun B=> ?_
 show bG _ _ _ _ _ _ ((Al u0 u1) r) _
 unfold ig at h
 refine sz tT ⟨[(1,(vP 11 0))],(amX u0 u1)⟩ {fr:=[(0,11)] } [] ?_
 refine sz tT ⟨[(2,(.v (.one (.fn 141 0 1 (DI [(.ptr 11 0)])))))],(amX u0 u1)⟩ {} [] ?_
 refine aI (bJ.fin (st':=⟨[(2,(.v (.one (.fn 141 0 1 (DI [(.ptr 10 0)])))))],(afT u0 u1)⟩) (cs:=[]) ⟨[],[(0,0),(1,1),(2,2),(3,3),(4,4),(5,5),(6,6),(7,7),(8,8),(9,9),(11,10)]⟩ [2] (by kernel_rfl) trivial) ?_
 refine aR ?_
 obtain rfl:=oi h
 exact rl [(.one (.fn 141 0 1 (DI [(.ptr 10 0)])))]
noncomputable def bR:rX:=⟨[13,14],Om ([1,1,0,1,0]++[0]) (vM Tryz.f85),Om ([1,1,0,1,0]++[1]) (vM Tryz.f85),119,[]⟩
def vU  :(Int × Bool)→Exit→St→Prop:=
  fun r=>aW TT [.tmp 4, .tmp 5] (.iB [(sI r.1),(sB r.2)]) []
def AY (x:Link) (u0:Int):Int→St:=
  fun i=> ⟨[(1,(vI u0)),(Ld x),(6,(vI i))],[]⟩
def Bj  :Unit→St:=
  fun _=> ⟨[],[]⟩
def Jr (x:Link) (u0:Int):(aM Int (Ex Unit (Int × Bool)))→Exit→St→Prop:=
  LQ 0 [] (AY x u0) Bj vU
section
variable (x:Link) (u0:Int)
abbrev amE:List SV:=[(.agg (k2 x)),(sI u0)]
abbrev am4:St:=⟨[(1,(vI u0)),(Ld x)],[]⟩
end
theorem Aa (x:Link) (u0:Int) {r:(Int × Bool)} (h:kU x u0=some r):Fn Tryz.prog 57 (amE x u0) [] (.iB [(sI r.1),(sB r.2)]) []:=by
 refine fN tT Tryz.func57 rfl rfl fun B=> ?_
 show bG _ _ _ _ _ _ (vU r) _
 unfold kU at h
 refine sz tT (am4 x u0) {fr:=[(0,1)] } [1] ?_
 refine aQ (sz tT ⟨[(1,(vI u0)),(Ld x),(6,(vI (IntKind.wrap .i64 ((x.trip.length:Int) - 1))))],[]⟩ {} [] ?_)
 refine bE h fun y hy h=> ?_
 refine aL [] (AY x u0) Bj vU hy (fun s f h=> ?_) ?_
 ·clear hy
  show bG _ _ _ _ _ _ ((Jr x u0) f) _
  unfold dU at h
  obtain⟨i,rfl⟩: ∃q,q=s:=⟨_,rfl⟩
  refine aQ (sz tT ⟨[(1,(vI u0)),(Ld x),(6,(vI i)),(12,(vB (decide (0≤i))))],[]⟩ {} [] ?_)
  refine bI h (fun hb1 h=> ?_) (fun hb1 h=> ?_)
  ·refine ct hb1 ?_
   refine aP (aQ (aB (aQ (aO h fun a1 h=> ?_))))
   refine rg tT ⟨[(1,(vI u0)),(Ld x),(6,(vI i)),(22,(vB (decide (((at' x.trip i.toNat).amps)≤u0))))],[]⟩ [_] {} [] ⟨a1,trivial⟩ ?_
   refine bI h (fun hb h=> ?_) (fun hb h=> ?_)
   ·refine ct hb ?_
    refine aQ (aO h fun a1 h=> ?_)
    refine rg tT ⟨[(4,(vI (k23 x i))),(5,(vB true))],[]⟩ [_] {} [] ⟨a1,trivial⟩ ?_
    refine aR ?_
    obtain rfl:=oi h
    exact lR bY (dm 0) bZ (aW.mk (.inr rfl) (p:=[]) (l:=[(sI (k23 x i)),(sB true)]) (by kernel_rfl) trivial (fe.refl _) trivial)
   ·refine cf hb ?_
    refine aP (rz tT ⟨[(1,(vI u0)),(Ld x),(6,(vI (k28 i)))],[]⟩ {} [] ?_)
    obtain rfl:=oi h
    exact lN
  ·refine cf hb1 ?_
   refine aI (fz ⟨[],[]⟩ []) ?_
   refine aX ?_
   obtain rfl:=oi h
   exact lB
 ·clear hy
  cases y with
  |brk z=>
   unfold fE
   refine⟨_, .refl, ?_⟩
   refine sz tT ⟨[(4,(vI 0)),(5,(vB false))],[]⟩ {} [] ?_
   refine aR ?_
   obtain rfl:=oi h
   exact rl [(sI 0),(sB false)]
  |ret v=>
   obtain rfl:=oi h
   unfold fE
   intro e st hn ha hR
   cases e with
   |normal=>exact absurd rfl hn
   |exit id=>exact hR
   |goto l=>exact hR
   |ret=>exact hR
   |panic c=>exact hR
   |outgrown=>exact hR
abbrev agz:Nat × Option Ob:=(0,some (.loop bR 0 [(3,(vP 1 0))]))
def vL  :Int→Exit→St→Prop:=
  fun r=>uw 0 bR (vB true) [agz,(1,some (.cells 3 [(cI r)]))]
section
variable (u0:Int) (u1:Int)
abbrev OH:Nat × Option Ob:=(1,some (.cells 3 [(cI u0)]))
abbrev aeH:List (Nat × Option Ob):=[agz,(OH u0)]
abbrev ahN:List (Nat × Option Ob):=[(0,some (.loop bR 1 [(3,(vP 1 0))])),(OH u0)]
abbrev amz:St:=⟨[],(ahN u1)⟩
end
theorem uX (u2:Int) (u1:Int) (u0:Int) {r:Int} (h:eG u2 u1 u0=some r):Yl Tryz.prog 0 [(sI u2),(sI u1)] (aeH u0) (vB true) [agz,(1,some (.cells 3 [(cI r)]))]:=by
 refine MJ (r:=bR) (sl:=[(3,(vP 1 0))]) (sl1:=[(3,(vP 1 0)),(5,(vI u1))]) (h1:=(aeH u0)) (sl2:=[(3,(vP 1 0))]) (by kernel_rfl) rfl rfl (by kernel_rfl) (fun rd B=> ?_) (by kernel_rfl) (fun rd B=> ?_)
 ·refine Ab (c:=Om ([1,1,0,1,0]++[0]) (vM Tryz.f85)) rfl ?_
  refine wU (st:=⟨[(13,(vI u2)),(14,(vI u1)),(3,(vP 1 0))],(aeH u0)⟩) (by kernel_rfl) ?_
  refine rz tT ⟨[(3,(vP 1 0)),(5,(vI u1))],(aeH u0)⟩ {} [] ?_
  exact⟨rfl,rfl⟩
 ·refine Ab (c:=Om ([1,1,0,1,0]++[1]) (vM Tryz.f85)) rfl ?_
  refine wU (st:=⟨[(3,(vP 1 0)),(5,(vI u1))],(ahN u0)⟩) (by kernel_rfl) ?_
  show bG _ _ _ _ _ _ (vL r) _
  unfold eG at h
  refine aB (sg tT ⟨[(3,(vP 1 0)),(5,(vI u1)),(21,(vB (bif (decide (u0<0))then true else(decide (u1<u0)))))],(ahN u0)⟩ (eqs (decide (u0<0)) 4 []) {yb:=[(2,(decide (u0<0)))] } [] (ae trivial) ?_)
  refine bI h (fun hb h=> ?_) (fun hb h=> ?_)
  ·refine ct hb ?_
   refine rz tT (amz u1) {} [] ?_
   obtain rfl:=oi h
   exact uw.on (sl:=[(3,(vP 1 0))]) (by kernel_rfl) (Hz (by kernel_rfl)) (fe.refl _)
  ·refine cf hb ?_
   refine aI (fz (amz u0) []) ?_
   refine aP ?_
   obtain rfl:=oi h
   exact uw.on (sl:=[(3,(vP 1 0))]) (by kernel_rfl) (Hz (by kernel_rfl)) (fe.refl _)
section
variable (u0:Machine) (u1:Bool)
abbrev aaU:Nat × Option Ob:=(0,some (.loop bR 0 [(3,(vP 2 0))]))
abbrev adR:Nat × Option Ob:=(1,some (.cells 93 [(.ptr 3 0)]))
abbrev acS:Nat × Option Ob:=(3,some (.cells 96 [(.own 4 false u0.clearing.events.length),(cB u0.clearing.cleared),(cI u0.clearing.millis),(cI u0.clearing.energy),(.own 5 false u0.clearing.state.closed.length),(.own 6 false u0.clearing.state.locked.length),(.own 7 false u0.clearing.state.badLink.length),(.own 8 false u0.clearing.state.on_.length),(.own 9 false u0.clearing.state.badSource.length),(.own 10 false u0.clearing.state.earthed.length),(.own 11 false u0.clearing.state.badBus.length),(cI u0.p.buses),(.d (xg u0)),(.d (wJ u0)),(.d (xA u0)),(cI u0.bus),(.d (yE u0 u1)),(cI u0.total),(.mp 12),(cI u0.now)]))
abbrev adK:Nat × Option Ob:=(4,some (Mh u0))
abbrev adt:Nat × Option Ob:=(5,some (Vd u0))
abbrev ac4:Nat × Option Ob:=(6,some (YW u0))
abbrev adi:Nat × Option Ob:=(7,some (Zz u0))
abbrev adp:Nat × Option Ob:=(8,some (YD u0))
abbrev adD:Nat × Option Ob:=(9,some (Zu u0))
abbrev ada:Nat × Option Ob:=(10,some (UK u0))
abbrev aez:Nat × Option Ob:=(11,some (Zc u0))
abbrev acT:Nat × Option Ob:=(12,some (aha u0))
end
def ku (u0:Machine) (u1:Bool):Int→Exit→St→Prop:=
  fun r=>aW TT [] (.iB []) [aaU,adR,(2,some (.cells 3 [(cI r)])),(acS u0 u1),(adK u0),(adt u0),(ac4 u0),(adi u0),(adp u0),(adD u0),(ada u0),(aez u0),(acT u0)]
section
variable (u0:Machine) (u3:Int) (u2:Int) (u1:Bool)
abbrev AO:Nat × TV:=(0,(.v (.one (.yl 0))))
abbrev M8:Nat × TV:=(11,(vD (wJ u0)))
abbrev MF:Nat × TV:=(12,(vI (u0.p.links.length:Int)))
abbrev alf:List (Nat × TV):=[AO,(1,(vP 1 0)),(M8 u0),(MF u0),(13,(vI u3))]
abbrev JM:Nat × Option Ob:=(2,some (.cells 3 [(cI u2)]))
abbrev JG:List (Nat × Option Ob):=[aaU,adR,(JM u2),(acS u0 u1),(adK u0),(adt u0),(ac4 u0),(adi u0),(adp u0),(adD u0),(ada u0),(aez u0),(acT u0)]
end
def oD (u0:Machine) (u1:Bool):(Int × Int)→St:=
  fun zz=>match zz with|(u2,u3)=> ⟨(alf u0 u3),(JG u0 u2 u1)⟩
def oH (u0:Machine) (u1:Bool):Int→St:=
  fun o301=> ⟨[],[aaU,adR,(2,some (.cells 3 [(cI o301)])),(acS u0 u1),(adK u0),(adt u0),(ac4 u0),(adi u0),(adp u0),(adD u0),(ada u0),(aez u0),(acT u0)]⟩
def yj (u0:Machine) (u1:Bool):(aM (Int × Int) (Ex Int Int))→Exit→St→Prop:=
  LQ 0 [] (oD u0 u1) (oH u0 u1) (ku u0 u1)
section
variable (u0:Machine) (u1:Int) (u3:Int) (u2:Bool) (r_:(Int × Bool)) (u4:Int)
abbrev adx:List (Nat × TV):=[AO,(1,(vP 1 0)),(M8 u0),(MF u0),(13,(vI 0))]
abbrev alW:List (Nat × TV):=[AO,(1,(vP 1 0)),(M8 u0),(MF u0),(13,(vI u1)),(14,(vB (decide (u1<(u0.p.links.length:Int)))))]
abbrev aji:Nat × TV:=(4,(vD (oL [(.int .i64 ((at' u0.p.links u1.toNat).a)),(.int .i64 ((at' u0.p.links u1.toNat).b)),(.int .i64 ((at' u0.p.links u1.toNat).kind)),(.int .i64 ((at' u0.p.links u1.toNat).most)),(.int .i64 ((at' u0.p.links u1.toNat).bK)),(aD none 2 bP.cell ((at' u0.p.links u1.toNat).trip))] 0)))
abbrev amq:List (Nat × TV):=[AO,(1,(vP 1 0)),(3,(vI u1)),(aji u0 u1),(M8 u0),(MF u0),(13,(vI u1))]
abbrev Uo:=(!decide (((at' u0.p.links u1.toNat).kind)=3))
abbrev Ro:=(bif (Uo u0 u1)then true else(!(at' u0.clearing.state.closed u1.toNat)))
abbrev ajT:List (Nat × TV):=[AO,(1,(vP 1 0)),(3,(vI u1)),(aji u0 u1),(M8 u0),(MF u0),(13,(vI u1)),(43,(vB (bif (Ro u0 u1)then true else(at' u0.clearing.state.badLink u1.toNat))))]
abbrev adm:=(ic [(3,(Uo u0 u1)),(15,(Ro u0 u1))])
abbrev aj3:=(eqs (Uo u0 u1) 8 ((gP (adm u0 u1) [(3,false)]→All [(0:Int)≤u1∧u1<(u0.clearing.state.closed.length:Int)])::((Uo u0 u1)=(Uo u0 u1))::(gP (adm u0 u1) [(3,false)]→All [u1.toNat<u0.clearing.state.closed.length])::(eqs (Uo u0 u1) 2 (eqs (Ro u0 u1) 8 [gP (adm u0 u1) [(15,false)]→All [(0:Int)≤u1∧u1<(u0.clearing.state.badLink.length:Int)],(Ro u0 u1)=(Ro u0 u1),gP (adm u0 u1) [(15,false)]→All [u1.toNat<u0.clearing.state.badLink.length],(Ro u0 u1)=(Ro u0 u1)]))))
abbrev agt:List (Nat × TV):=[AO,(1,(vP 1 0)),(M8 u0),(MF u0),(13,(Am u1))]
abbrev ahG:St:=⟨(agt u0 u1),(JG u0 u3 u2)⟩
abbrev amS:List (Nat × TV):=[AO,(1,(vP 1 0)),(3,(vI u1)),(5,(vI r_.1)),(6,(vB r_.2)),(M8 u0),(MF u0),(13,(vI u1))]
abbrev aiZ:List (Nat × TV):=[AO,(1,(vP 1 0)),(M8 u0),(MF u0),(13,(vI u1)),(70,(vB (bif r_.2 then(!true)else false)))]
abbrev aeh:=(IntKind.wrap .i64 (((bQ gI u1 u0.since).getD 0)+r_.1))
abbrev af0:List (Nat × Option Ob):=[aaU,(JM u3)]
abbrev ajc:List (Nat × TV):=[AO,(1,(vP 1 0)),(M8 u0),(MF u0),(13,(vI u1)),(70,(vB (!true)))]
abbrev ai1:St:=⟨[],(JG u0 u4 u2)⟩
abbrev akm:List (Nat × TV):=[AO,(1,(vP 1 0)),(M8 u0),(MF u0),(13,(vI u1)),(70,(vB (bif r_.2 then false else false)))]
abbrev aiW:List (Nat × TV):=[AO,(1,(vP 1 0)),(M8 u0),(MF u0),(13,(vI u1)),(70,(vB false))]
end
theorem xR (u5:Int) (u0:Machine) (u2:Bool) {r:Int} (h:gy u5 u0 u2=some r):Fn Tryz.prog 141 [(.one (.yl 0)),(.one (.ptr 1 0))] (JG u0 u5 u2) (.iB []) [aaU,adR,(2,some (.cells 3 [(cI r)])),(acS u0 u2),(adK u0),(adt u0),(ac4 u0),(adi u0),(adp u0),(adD u0),(ada u0),(aez u0),(acT u0)]:=by
 refine fN tT Tryz.func141 rfl rfl fun B=> ?_
 show bG _ _ _ _ _ _ ((ku u0 u2) r) _
 unfold gy at h
 refine sz tT ⟨(adx u0),(JG u0 u5 u2)⟩ {} [] ?_
 refine bE h fun y hy h=> ?_
 refine aL [] (oD u0 u2) (oH u0 u2) (ku u0 u2) hy (fun s f h=> ?_) ?_
 ·clear hy
  show bG _ _ _ _ _ _ ((yj u0 u2) f) _
  unfold eU at h
  obtain⟨u3,u1⟩:=s
  refine sz tT ⟨(alW u0 u1),(JG u0 u3 u2)⟩ {} [] ?_
  refine aQ ?_
  refine bI h (fun hb3 h=> ?_) (fun hb3 h=> ?_)
  ·refine ct hb3 ?_
   refine aP (aQ (aB (aQ (aO h fun a1 h=> ?_))))
   refine rg tT ⟨(amq u0 u1),(JG u0 u3 u2)⟩ [_] {fr:=[(3,20)] } [20] ⟨a1,trivial⟩ ?_
   refine aQ (aQ (aO h fun⟨a1,a2⟩ h=> ?_))
   refine rg tT ⟨(ajT u0 u1),(JG u0 u3 u2)⟩ (aj3 u0 u1) {yb:=[(3,(Uo u0 u1)),(15,(Ro u0 u1))] } [] (ae ⟨(fun hg=> ⟨(a1 (aU hg)),trivial⟩),rfl,(fun hg=> ⟨((fun hq=>tL (a1 hq)) (aU hg)),trivial⟩),(ae (ae ⟨(fun hg=> ⟨(a2 (aU hg)),trivial⟩),rfl,(fun hg=> ⟨((fun hq=>tL (a2 hq)) (aU hg)),trivial⟩),rfl,trivial⟩))⟩) ?_
   refine bI h (fun hb2 h=> ?_) (fun hb2 h=> ?_)
   ·refine ct hb2 ?_
    refine aX (rz tT (ahG u0 u1 u3 u2) {} [] ?_)
    obtain rfl:=oi h
    exact lN
   ·refine cf hb2 ?_
    refine aP (aQ (bE h fun r_ hr_ h=> ?_))
    refine aO h fun a1 h=> ?_
    have q1:=Aa (at' u0.p.links u1.toNat) (at' u0.amps u1.toNat) hr_
    refine dg tT mX ⟨(amS u0 u1 r_),(JG u0 u3 u2)⟩ [_,_] {an:=[(8,cA q1 [])] } [] ⟨a1,q1,trivial⟩ ?_
    refine aQ ?_
    refine bI h (fun hb h=> ?_) (fun hb h=> ?_)
    ·skip
     refine bE h fun u4 hr_1 h=> ?_
     refine ri tT ⟨(aiZ u0 u1 r_),(JG u0 u4 u2)⟩ [r_.2=true,r_.2=true,r_.2=true,r_.2=true,r_.2=true,r_.2=true,r_.2=true,r_.2=true,gP (ic [(1,true)]) [(1,true)]→All [tV [some .i64] 1 1 u0.since.length (Gb (aC .i64) u0.since) (IB (aC .i64) u0.since) [(.int .i64 u1)] [(.d (.int .i64 0))] (bQ gI u1 u0.since).isSome [(cI ((bQ gI u1 u0.since).getD 0))]],r_.2=true,r_.2=true,r_.2=true,gP (ic [(1,true)]) [(1,true)]→All [Yl Tryz.prog 0 [(sI u1),(sI (aeh u0 u1 r_))] (af0 u3) (vB true) (af0 u4)],gP (ic [(1,true)]) [(1,true)],r_.2=true,r_.2=true] {yb:=[(1,true)],an:=[(9, .look (bQ gI u1 u0.since).isSome [(cI ((bQ gI u1 u0.since).getD 0))]),(12, .call [0,2] (vB true) (af0 u4))] } [] ⟨(hb),(hb),(hb),(hb),(hb),(hb),(hb),(hb),(fun hg=> ⟨(um (fun _=>rfl) (fun _ _=>rfl) u0.since u1 0 rfl rfl rfl),trivial⟩),(hb),(hb),(hb),(fun hg=> ⟨(yK [(1,2)] (uX u1 (aeh u0 u1 r_) u3 hr_1)),trivial⟩),(⟨rfl,trivial⟩),(hb),(hb),trivial⟩ (bJ.le (st':=⟨(ajc u0 u1),(JG u0 u4 u2)⟩) ⟨⟨tR,tR,tR,tR,tR,⟨_,rfl,fe.v (jB.one (bH.of (congrArg (fun b=>CV.d (.bool b)) (aaO hb))))⟩,trivial⟩,(.refl _)⟩) ?_
     refine bI h (fun hb1 h=> ?_) (fun hb1 h=> ?_)
     ·refine ct hb1 ?_
      refine aI (fz (ai1 u0 u2 u4) []) ?_
      refine aR ?_
      obtain rfl:=oi h
      exact lR bY (dm 0) bZ (aW.mk (.inr rfl) (p:=[]) (l:=[]) (by kernel_rfl) trivial (fe.refl _) (.refl _))
     ·refine cf hb1 ?_
      refine aP (rz tT (ahG u0 u1 u4 u2) {} [] ?_)
      obtain rfl:=oi h
      exact lN
    ·skip
     refine ri tT ⟨(akm u0 u1 r_),(JG u0 u3 u2)⟩ [r_.2=false, ¬ gP (ic [(1,false)]) [(1,true)],r_.2=false, ¬ gP (ic [(1,false)]) [(1,true)],r_.2=false, ¬ gP (ic [(1,false)]) [(1,true)],r_.2=false, ¬ gP (ic [(1,false)]) [(1,true)],r_.2=false, ¬ gP (ic [(1,false)]) [(1,true)],r_.2=false, ¬ gP (ic [(1,false)]) [(1,true)],r_.2=false, ¬ gP (ic [(1,false)]) [(1,true)],r_.2=false, ¬ gP (ic [(1,false)]) [(1,true)],r_.2=false, ¬ gP (ic [(1,false)]) [(1,true)],r_.2=false, ¬ gP (ic [(1,false)]) [(1,true)],r_.2=false, ¬ gP (ic [(1,false)]) [(1,true)],r_.2=false, ¬ gP (ic [(1,false)]) [(1,true)],r_.2=false] {yb:=[(1,false)],an:=[(2, .skip),(3, .skip),(4, .skip),(5, .skip),(6, .skip),(7, .skip),(8, .skip),(9, .skip),(10, .skip),(11, .skip),(12, .skip),(13, .skip)] } [] ⟨(hb),((fun h=>Bool.noConfusion (show false=true from h.1))),(hb),((fun h=>Bool.noConfusion (show false=true from h.1))),(hb),((fun h=>Bool.noConfusion (show false=true from h.1))),(hb),((fun h=>Bool.noConfusion (show false=true from h.1))),(hb),((fun h=>Bool.noConfusion (show false=true from h.1))),(hb),((fun h=>Bool.noConfusion (show false=true from h.1))),(hb),((fun h=>Bool.noConfusion (show false=true from h.1))),(hb),((fun h=>Bool.noConfusion (show false=true from h.1))),(hb),((fun h=>Bool.noConfusion (show false=true from h.1))),(hb),((fun h=>Bool.noConfusion (show false=true from h.1))),(hb),((fun h=>Bool.noConfusion (show false=true from h.1))),(hb),((fun h=>Bool.noConfusion (show false=true from h.1))),(hb),trivial⟩ (bJ.le (st':=⟨(aiW u0 u1),(JG u0 u3 u2)⟩) ⟨⟨tR,tR,tR,tR,tR,⟨_,rfl,fe.v (jB.one (bH.of (congrArg (fun b=>CV.d (.bool b)) (acd hb))))⟩,trivial⟩,(.refl _)⟩) ?_
     refine cn (aP (rz tT (ahG u0 u1 u3 u2) {} [] ?_))
     obtain rfl:=oi h
     exact lN
  ·refine cf hb3 ?_
   refine aI (fz (ai1 u0 u2 u3) []) ?_
   refine aX ?_
   obtain rfl:=oi h
   exact lB
 ·clear hy
  cases y with
  |brk z=>
   obtain⟨o301,rfl⟩: ∃q,q=z:=⟨_,rfl⟩
   unfold fE
   refine⟨_, .refl, ?_⟩
   obtain rfl:=oi h
   exact aW.mk (.inl rfl) (p:=[]) (l:=[]) (by kernel_rfl) trivial (fe.refl _) (.refl _)
  |ret v=>
   obtain rfl:=oi h
   unfold fE
   intro e st hn ha hR
   cases e with
   |normal=>exact absurd rfl hn
   |exit id=>exact hR
   |goto l=>exact hR
   |ret=>exact hR
   |panic c=>exact hR
   |outgrown=>exact hR
noncomputable def bT:rX:=⟨[33,34],Om ([1,1,1,1,1,1,0,1,0]++[0]) (vM Tryz.f85),Om ([1,1,1,1,1,1,0,1,0]++[1]) (vM Tryz.f85),119,[]⟩
abbrev YA:List (Nat × TV):=[(3,(vP 1 0)),(6,(vP 2 0))]
abbrev agB:Nat × Option Ob:=(0,some (.loop bT 0 YA))
def vK (u0:Int):(List Int)→Exit→St→Prop:=
  fun r=>uw 0 bT (vB true) [agB,(OH u0),(2,some (.cells 35 [(.own 4 false r.length)])),(3,none),(4,some (aF 3 1 (aC .i64) r))]
section
variable (u1:Int) (o_:(List Int)) (u0:Int) (u2:Int)
abbrev abZ:List (Nat × Option Ob):=[agB,(OH u1),(2,some (.cells 35 [(.own 3 false o_.length)])),(3,some (zP o_))]
abbrev ahS:List (Nat × TV):=[(3,(vP 1 0)),(6,(vP 2 0)),(7,(vI u0)),(8,(vI u2))]
abbrev acs:Nat × Option Ob:=(0,some (.loop bT 1 YA))
abbrev ajw:List (Nat × Option Ob):=[acs,(OH u1),(2,some (.cells 35 [(.own 3 false o_.length)])),(3,some (zP o_))]
abbrev SC:Ob:=(aF 3 1 (aC .i64) (o_++[u0]))
end
theorem uH (u0:Int) (u2:Int) (u1:Int) (o_:(List Int)) {r:(List Int)} (h:eO u0 u2 u1 o_=some r):Yl Tryz.prog 0 [(sI u0),(sI u2)] (abZ u1 o_) (vB true) [agB,(OH u1),(2,some (.cells 35 [(.own 4 false r.length)])),(3,none),(4,some (aF 3 1 (aC .i64) r))]:=by
 refine MJ (r:=bT) (sl:=YA) (sl1:=(ahS u0 u2)) (h1:=(abZ u1 o_)) (sl2:=YA) (by kernel_rfl) rfl rfl (by kernel_rfl) (fun rd B=> ?_) (by kernel_rfl) (fun rd B=> ?_)
 ·refine Ab (c:=Om ([1,1,1,1,1,1,0,1,0]++[0]) (vM Tryz.f85)) rfl ?_
  refine wU (st:=⟨[(33,(vI u0)),(34,(vI u2)),(3,(vP 1 0)),(6,(vP 2 0))],(abZ u1 o_)⟩) (by kernel_rfl) ?_
  refine sz tT ⟨[(3,(vP 1 0)),(6,(vP 2 0)),(7,(vI u0)),(34,(vI u2))],(abZ u1 o_)⟩ {} [] ?_
  refine rz tT ⟨(ahS u0 u2),(abZ u1 o_)⟩ {} [] ?_
  exact⟨rfl,rfl⟩
 ·refine Ab (c:=Om ([1,1,1,1,1,1,0,1,0]++[1]) (vM Tryz.f85)) rfl ?_
  refine wU (st:=⟨(ahS u0 u2),(ajw u1 o_)⟩) (by kernel_rfl) ?_
  show bG _ _ _ _ _ _ ((vK u1) r) _
  unfold eO at h
  refine aB (sz tT ⟨[(6,(vP 2 0)),(7,(vI u0)),(37,(vB (decide (u2≤u1))))],(ajw u1 o_)⟩ {} [] ?_)
  refine bI h (fun hb h=> ?_) (fun hb h=> ?_)
  ·refine ct hb ?_
   refine aO h fun⟨a1,a2⟩ h=> ?_
   refine ri tT ⟨[],[acs,(OH u1),(2,some (.cells 35 [(.own 7 false ((o_++[u0]).length))])),(3,none),(7,some (SC o_ u0))]⟩ [[u0].length=1,aT 1 1 (xL 1 [(.int .i64 u0)]) (au (aC .i64) [u0]),o_.length=o_.length,_,_,(o_++[u0]).length=o_.length+[u0].length,aT (o_.length+[u0].length) 1 (adT u0 o_) (Tj u0 o_)] {an:=[(2, .arr [u0].length (au (aC .i64) [u0])),(3, .arr (o_++[u0]).length (Tj u0 o_))],fr:=[(2,6),(3,7)] } [] ⟨(rfl),((by intro i hi j hj;match i,j,hi,hj with|0,0,_,_=>rfl)),rfl,a1,a2,(List.length_append),(dA _ _ _ _),trivial⟩ (bJ.fin (st':=⟨[],[acs,(OH u1),(2,some (.cells 35 [(.own 4 false ((o_++[u0]).length))])),(3,none),(4,some (SC o_ u0))]⟩) (cs:=[]) ⟨[],[(0,0),(1,1),(2,2),(3,3),(7,4)]⟩ [] (by kernel_rfl) trivial) ?_
   obtain rfl:=oi h
   exact uw.on (sl:=YA) (by kernel_rfl) (Hz (by kernel_rfl)) (fe.refl _)
  ·refine cf hb ?_
   refine aI (.trans (bJ.rD (E0:=35) (cs:=[(.own 3 false o_.length)]) (nn:=false) (len:=o_.length) (E:=3) (esz:=1) (n:=o_.length) (el:=au (aC .i64) o_) (p:=2) (q:=0) (b:=3) (b':=8) (by kernel_rfl) (by kernel_rfl) (by kernel_rfl) (by kernel_rfl)) (.trans (fz ⟨[(6,(vP 2 0)),(7,(vI u0)),(37,(vB (decide (u2≤u1))))],[acs,(OH u1),(2,some (.cells 35 [(.own 8 false o_.length)])),(3,none),(8,some (zP o_))]⟩ []) (bJ.fin (st':=⟨[],[acs,(OH u1),(2,some (.cells 35 [(.own 4 false o_.length)])),(3,none),(4,some (zP o_))]⟩) (cs:=[]) ⟨[],[(0,0),(1,1),(2,2),(3,3),(8,4)]⟩ [] (by kernel_rfl) trivial))) ?_
   refine aP ?_
   obtain rfl:=oi h
   exact uw.on (sl:=YA) (by kernel_rfl) (Hz (by kernel_rfl)) (fe.refl _)
section
variable (u0:Machine) (u2:Bool)
abbrev Mv:Nat × Option Ob:=(0,some (.loop bT 0 [(3,(vP 2 0)),(6,(vP 3 0))]))
abbrev Rt:Nat × Option Ob:=(1,some (.cells 93 [(.ptr 4 0)]))
abbrev Qz:Nat × Option Ob:=(4,some (.cells 96 [(.own 6 false u0.clearing.events.length),(cB u0.clearing.cleared),(cI u0.clearing.millis),(cI u0.clearing.energy),(.own 7 false u0.clearing.state.closed.length),(.own 8 false u0.clearing.state.locked.length),(.own 9 false u0.clearing.state.badLink.length),(.own 10 false u0.clearing.state.on_.length),(.own 11 false u0.clearing.state.badSource.length),(.own 12 false u0.clearing.state.earthed.length),(.own 13 false u0.clearing.state.badBus.length),(cI u0.p.buses),(.d (xg u0)),(.d (wJ u0)),(.d (xA u0)),(cI u0.bus),(.d (yE u0 u2)),(cI u0.total),(.mp 14),(cI u0.now)]))
abbrev RD:Nat × Option Ob:=(6,some (Mh u0))
abbrev QJ:Nat × Option Ob:=(7,some (Vd u0))
abbrev Qf:Nat × Option Ob:=(8,some (YW u0))
abbrev Qr:Nat × Option Ob:=(9,some (Zz u0))
abbrev Qg:Nat × Option Ob:=(10,some (YD u0))
abbrev Qd:Nat × Option Ob:=(11,some (Zu u0))
abbrev QH:Nat × Option Ob:=(12,some (UK u0))
abbrev Qc:Nat × Option Ob:=(13,some (Zc u0))
abbrev QA:Nat × Option Ob:=(14,some (aha u0))
end
def jh (u1:Int) (u0:Machine) (u2:Bool):(List Int)→Exit→St→Prop:=
  fun r=>aW TT [] (.iB []) [Mv,Rt,(JM u1),(3,some (.cells 35 [(.own 15 false r.length)])),(Qz u0 u2),(5,none),(RD u0),(QJ u0),(Qf u0),(Qr u0),(Qg u0),(Qd u0),(QH u0),(Qc u0),(QA u0),(15,some (aF 3 1 (aC .i64) r))]
section
variable (u2:Int) (u1:(List Int)) (u0:Machine) (u3:Bool)
abbrev Oo:List (Nat × Option Ob):=[Mv,Rt,(JM u2),(3,some (.cells 35 [(.own 31 false u1.length)])),(Qz u0 u3),(5,none),(RD u0),(QJ u0),(Qf u0),(Qr u0),(Qg u0),(Qd u0),(QH u0),(Qc u0),(QA u0),(31,some (zP u1))]
end
def lZ (u2:Int) (u0:Machine) (u3:Bool):((List Int) × Int)→St:=
  fun zz=>match zz with|(u1,u4)=> ⟨(alf u0 u4),(Oo u2 u1 u0 u3)⟩
def l7 (u1:Int) (u0:Machine) (u2:Bool):(List Int)→St:=
  fun o601=> ⟨[],[Mv,Rt,(JM u1),(3,some (.cells 35 [(.own 31 false o601.length)])),(Qz u0 u2),(5,none),(RD u0),(QJ u0),(Qf u0),(Qr u0),(Qg u0),(Qd u0),(QH u0),(Qc u0),(QA u0),(31,some (aF 3 1 (aC .i64) o601))]⟩
def uV (u0:Int) (u1:Machine) (u2:Bool):(aM ((List Int) × Int) (Ex (List Int) (List Int)))→Exit→St→Prop:=
  LQ 0 [] (lZ u0 u1 u2) (l7 u0 u1 u2) (jh u0 u1 u2)
section
variable (u2:Int) (o_:(List Int)) (u0:Machine) (u3:Bool) (u1:Int) (u4:(List Int)) (u5:(List Int))
abbrev akC:List (Nat × Option Ob):=[Mv,Rt,(JM u2),(3,some (.cells 35 [(.own 5 false o_.length)])),(Qz u0 u3),(5,some (zP o_)),(RD u0),(QJ u0),(Qf u0),(Qr u0),(Qg u0),(Qd u0),(QH u0),(Qc u0),(QA u0)]
abbrev agN:St:=⟨(agt u0 u1),(Oo u2 u4 u0 u3)⟩
abbrev agb:List (Nat × Option Ob):=[Mv,Rt,(JM u2),(3,some (.cells 35 [(.own 35 false u5.length)])),(Qz u0 u3),(5,none),(RD u0),(QJ u0),(Qf u0),(Qr u0),(Qg u0),(Qd u0),(QH u0),(Qc u0),(QA u0),(35,some (zP u5))]
abbrev am7:List (Nat × Option Ob):=[Mv,(JM u2),(3,some (.cells 35 [(.own 35 false u5.length)])),(31,none),(35,some (zP u5))]
end
theorem uK (u2:Int) (o_:(List Int)) (u0:Machine) (u3:Bool) {r:(List Int)} (h:eP u2 o_ u0 u3=some r):Fn Tryz.prog 141 [(.one (.yl 0)),(.one (.ptr 1 0))] (akC u2 o_ u0 u3) (.iB []) [Mv,Rt,(JM u2),(3,some (.cells 35 [(.own 15 false r.length)])),(Qz u0 u3),(5,none),(RD u0),(QJ u0),(Qf u0),(Qr u0),(Qg u0),(Qd u0),(QH u0),(Qc u0),(QA u0),(15,some (aF 3 1 (aC .i64) r))]:=by
 refine fN tT Tryz.func141 rfl rfl fun B=> ?_
 show bG _ _ _ _ _ _ ((jh u2 u0 u3) r) _
 unfold eP at h
 refine sz tT ⟨(adx u0),(akC u2 o_ u0 u3)⟩ {} [] ?_
 refine bE h fun y hy h=> ?_
 refine aI (.trans (bJ.rD (E0:=35) (cs:=[(.own 5 false o_.length)]) (nn:=false) (len:=o_.length) (E:=3) (esz:=1) (n:=o_.length) (el:=au (aC .i64) o_) (p:=3) (q:=0) (b:=5) (b':=36) (by kernel_rfl) (by kernel_rfl) (by kernel_rfl) (by kernel_rfl)) (.trans (fz ⟨(adx u0),[Mv,Rt,(JM u2),(3,some (.cells 35 [(.own 36 false o_.length)])),(Qz u0 u3),(5,none),(RD u0),(QJ u0),(Qf u0),(Qr u0),(Qg u0),(Qd u0),(QH u0),(Qc u0),(QA u0),(36,some (zP o_))]⟩ []) (bJ.fin (st':=⟨(adx u0),(Oo u2 o_ u0 u3)⟩) (cs:=[]) ⟨[],[(0,0),(1,1),(2,2),(3,3),(4,4),(5,5),(6,6),(7,7),(8,8),(9,9),(10,10),(11,11),(12,12),(13,13),(14,14),(36,31)]⟩ [0,1,11,12,13] (by kernel_rfl) trivial))) ?_
 refine aL [] (lZ u2 u0 u3) (l7 u2 u0 u3) (jh u2 u0 u3) hy (fun s f h=> ?_) ?_
 ·clear hy
  show bG _ _ _ _ _ _ ((uV u2 u0 u3) f) _
  unfold dM at h
  obtain⟨u4,u1⟩:=s
  refine sz tT ⟨(alW u0 u1),(Oo u2 u4 u0 u3)⟩ {} [] ?_
  refine aQ ?_
  refine bI h (fun hb3 h=> ?_) (fun hb3 h=> ?_)
  ·refine ct hb3 ?_
   refine aP (aQ (aB (aQ (aO h fun a1 h=> ?_))))
   refine rg tT ⟨(amq u0 u1),(Oo u2 u4 u0 u3)⟩ [_] {fr:=[(3,34)] } [34] ⟨a1,trivial⟩ ?_
   refine aQ (aQ (aO h fun⟨a1,a2⟩ h=> ?_))
   refine rg tT ⟨(ajT u0 u1),(Oo u2 u4 u0 u3)⟩ (aj3 u0 u1) {yb:=[(3,(Uo u0 u1)),(15,(Ro u0 u1))] } [] (ae ⟨(fun hg=> ⟨(a1 (aU hg)),trivial⟩),rfl,(fun hg=> ⟨((fun hq=>tL (a1 hq)) (aU hg)),trivial⟩),(ae (ae ⟨(fun hg=> ⟨(a2 (aU hg)),trivial⟩),rfl,(fun hg=> ⟨((fun hq=>tL (a2 hq)) (aU hg)),trivial⟩),rfl,trivial⟩))⟩) ?_
   refine bI h (fun hb2 h=> ?_) (fun hb2 h=> ?_)
   ·refine ct hb2 ?_
    refine aX (rz tT (agN u2 u0 u3 u1 u4) {} [] ?_)
    obtain rfl:=oi h
    exact lN
   ·refine cf hb2 ?_
    refine aP (aQ (bE h fun r_ hr_ h=> ?_))
    refine aO h fun a1 h=> ?_
    have q1:=Aa (at' u0.p.links u1.toNat) (at' u0.amps u1.toNat) hr_
    refine dg tT mX ⟨(amS u0 u1 r_),(Oo u2 u4 u0 u3)⟩ [_,_] {an:=[(8,cA q1 [])] } [] ⟨a1,q1,trivial⟩ ?_
    refine aQ ?_
    refine bI h (fun hb h=> ?_) (fun hb h=> ?_)
    ·skip
     refine bE h fun u5 hr_1 h=> ?_
     refine ri tT ⟨(aiZ u0 u1 r_),(agb u2 u0 u3 u5)⟩ [r_.2=true,r_.2=true,r_.2=true,r_.2=true,r_.2=true,r_.2=true,r_.2=true,r_.2=true,gP (ic [(1,true)]) [(1,true)]→All [tV [some .i64] 1 1 u0.since.length (Gb (aC .i64) u0.since) (IB (aC .i64) u0.since) [(.int .i64 u1)] [(.d (.int .i64 0))] (bQ gI u1 u0.since).isSome [(cI ((bQ gI u1 u0.since).getD 0))]],r_.2=true,r_.2=true,r_.2=true,gP (ic [(1,true)]) [(1,true)]→All [Yl Tryz.prog 0 [(sI u1),(sI (aeh u0 u1 r_))] [Mv,(JM u2),(3,some (.cells 35 [(.own 31 false u4.length)])),(31,some (zP u4))] (vB true) (am7 u2 u5)],gP (ic [(1,true)]) [(1,true)],r_.2=true,r_.2=true] {yb:=[(1,true)],an:=[(9, .look (bQ gI u1 u0.since).isSome [(cI ((bQ gI u1 u0.since).getD 0))]),(12, .call [0,2,3,31] (vB true) (am7 u2 u5))] } [] ⟨(hb),(hb),(hb),(hb),(hb),(hb),(hb),(hb),(fun hg=> ⟨(um (fun _=>rfl) (fun _ _=>rfl) u0.since u1 0 rfl rfl rfl),trivial⟩),(hb),(hb),(hb),(fun hg=> ⟨(yK [(1,2),(1,3),(1,31),(4,35)] (uH u1 (aeh u0 u1 r_) u2 u4 hr_1)),trivial⟩),(⟨rfl,trivial⟩),(hb),(hb),trivial⟩ (bJ.le (st':=⟨(ajc u0 u1),(agb u2 u0 u3 u5)⟩) ⟨⟨tR,tR,tR,tR,tR,⟨_,rfl,fe.v (jB.one (bH.of (congrArg (fun b=>CV.d (.bool b)) (aaO hb))))⟩,trivial⟩,(.refl _)⟩) ?_
     refine bI h (fun hb1 h=> ?_) (fun hb1 h=> ?_)
     ·refine ct hb1 ?_
      refine aI (bJ.fin (st':=⟨[],[Mv,Rt,(JM u2),(3,some (.cells 35 [(.own 15 false u5.length)])),(Qz u0 u3),(5,none),(RD u0),(QJ u0),(Qf u0),(Qr u0),(Qg u0),(Qd u0),(QH u0),(Qc u0),(QA u0),(15,some (zP u5))]⟩) (cs:=[]) ⟨[],[(0,0),(1,1),(2,2),(3,3),(4,4),(5,5),(6,6),(7,7),(8,8),(9,9),(10,10),(11,11),(12,12),(13,13),(14,14),(35,15)]⟩ [] (by kernel_rfl) trivial) ?_
      refine aR ?_
      obtain rfl:=oi h
      exact lR bY (dm 0) bZ (aW.mk (.inr rfl) (p:=[]) (l:=[]) (by kernel_rfl) trivial (fe.refl _) (hN 5 ⟨rfl,trivial,(.refl _)⟩))
     ·refine cf hb1 ?_
      refine aP (ri tT ⟨(agt u0 u1),(agb u2 u0 u3 u5)⟩ [] {} [] trivial (bJ.fin (st':=(agN u2 u0 u3 u1 u5)) (cs:=[]) ⟨[],[(0,0),(1,1),(2,2),(3,3),(4,4),(5,5),(6,6),(7,7),(8,8),(9,9),(10,10),(11,11),(12,12),(13,13),(14,14),(35,31)]⟩ [0,1,11,12,13] (by kernel_rfl) trivial) ?_)
      obtain rfl:=oi h
      exact lN
    ·skip
     refine ri tT ⟨(akm u0 u1 r_),(Oo u2 u4 u0 u3)⟩ [r_.2=false, ¬ gP (ic [(1,false)]) [(1,true)],r_.2=false, ¬ gP (ic [(1,false)]) [(1,true)],r_.2=false, ¬ gP (ic [(1,false)]) [(1,true)],r_.2=false, ¬ gP (ic [(1,false)]) [(1,true)],r_.2=false, ¬ gP (ic [(1,false)]) [(1,true)],r_.2=false, ¬ gP (ic [(1,false)]) [(1,true)],r_.2=false, ¬ gP (ic [(1,false)]) [(1,true)],r_.2=false, ¬ gP (ic [(1,false)]) [(1,true)],r_.2=false, ¬ gP (ic [(1,false)]) [(1,true)],r_.2=false, ¬ gP (ic [(1,false)]) [(1,true)],r_.2=false, ¬ gP (ic [(1,false)]) [(1,true)],r_.2=false, ¬ gP (ic [(1,false)]) [(1,true)],r_.2=false] {yb:=[(1,false)],an:=[(2, .skip),(3, .skip),(4, .skip),(5, .skip),(6, .skip),(7, .skip),(8, .skip),(9, .skip),(10, .skip),(11, .skip),(12, .skip),(13, .skip)] } [] ⟨(hb),((fun h=>Bool.noConfusion (show false=true from h.1))),(hb),((fun h=>Bool.noConfusion (show false=true from h.1))),(hb),((fun h=>Bool.noConfusion (show false=true from h.1))),(hb),((fun h=>Bool.noConfusion (show false=true from h.1))),(hb),((fun h=>Bool.noConfusion (show false=true from h.1))),(hb),((fun h=>Bool.noConfusion (show false=true from h.1))),(hb),((fun h=>Bool.noConfusion (show false=true from h.1))),(hb),((fun h=>Bool.noConfusion (show false=true from h.1))),(hb),((fun h=>Bool.noConfusion (show false=true from h.1))),(hb),((fun h=>Bool.noConfusion (show false=true from h.1))),(hb),((fun h=>Bool.noConfusion (show false=true from h.1))),(hb),((fun h=>Bool.noConfusion (show false=true from h.1))),(hb),trivial⟩ (bJ.le (st':=⟨(aiW u0 u1),(Oo u2 u4 u0 u3)⟩) ⟨⟨tR,tR,tR,tR,tR,⟨_,rfl,fe.v (jB.one (bH.of (congrArg (fun b=>CV.d (.bool b)) (acd hb))))⟩,trivial⟩,(.refl _)⟩) ?_
     refine cn (aP (rz tT (agN u2 u0 u3 u1 u4) {} [] ?_))
     obtain rfl:=oi h
     exact lN
  ·refine cf hb3 ?_
   refine aI (fz ⟨[],(Oo u2 u4 u0 u3)⟩ []) ?_
   refine aX ?_
   obtain rfl:=oi h
   exact lB
 ·clear hy
  cases y with
  |brk z=>
   obtain⟨o601,rfl⟩: ∃q,q=z:=⟨_,rfl⟩
   unfold fE
   refine⟨_,(bJ.fin (st':=⟨[],[Mv,Rt,(JM u2),(3,some (.cells 35 [(.own 15 false o601.length)])),(Qz u0 u3),(5,none),(RD u0),(QJ u0),(Qf u0),(Qr u0),(Qg u0),(Qd u0),(QH u0),(Qc u0),(QA u0),(15,some (aF 3 1 (aC .i64) o601))]⟩) (cs:=[]) ⟨[],[(0,0),(1,1),(2,2),(3,3),(4,4),(5,5),(6,6),(7,7),(8,8),(9,9),(10,10),(11,11),(12,12),(13,13),(14,14),(31,15)]⟩ [] (by kernel_rfl) trivial), ?_⟩
   obtain rfl:=oi h
   exact aW.mk (.inl rfl) (p:=[]) (l:=[]) (by kernel_rfl) trivial (fe.refl _) (hN 5 ⟨rfl,trivial,(.refl _)⟩)
  |ret v=>
   obtain rfl:=oi h
   unfold fE
   intro e st hn ha hR
   cases e with
   |normal=>exact absurd rfl hn
   |exit id=>exact hR
   |goto l=>exact hR
   |ret=>exact hR
   |panic c=>exact hR
   |outgrown=>exact hR
def lF (u0:Machine):(Bool × Machine × Bool)→Exit→St→Prop:=
  fun r=>aW TT [.tmp 2] (vB r.1) [(0,some (.cells 96 [(.own 10 false r.2.1.clearing.events.length),(cB r.2.1.clearing.cleared),(cI r.2.1.clearing.millis),(cI r.2.1.clearing.energy),(.own 11 false r.2.1.clearing.state.closed.length),(.own 3 false u0.clearing.state.locked.length),(.own 4 false u0.clearing.state.badLink.length),(.own 5 false u0.clearing.state.on_.length),(.own 6 false u0.clearing.state.badSource.length),(.own 7 false u0.clearing.state.earthed.length),(.own 8 false u0.clearing.state.badBus.length),(cI r.2.1.p.buses),(.d (aD none 5 Source.cell r.2.1.p.sources)),(.d (aD none 6 Link.cell r.2.1.p.links)),(.d (aD none 4 aJ.cell r.2.1.p.racks)),(cI r.2.1.bus),(.d (aD (some r.2.2) 1 (aC .i64) r.2.1.amps)),(cI r.2.1.total),(.mp 9),(cI r.2.1.now)])),(1,none),(2,none),(iD u0),(gY u0),(gU u0),(gJ u0),(gm u0),(fJ u0),(kV u0),(10,some (aF 87 2 Event.cell r.2.1.clearing.events)),(11,some (aF 4 1 af r.2.1.clearing.state.closed))]
section
variable (u1:Int) (u0:Machine) (u2:(List Int)) (u4:Int) (o0:(List Event)) (o4:(List Bool)) (u3:Bool)
abbrev Yc:Nat × TV:=(3,(vD (oL [(.int .i64 (if u1<u0.now then u0.now else u1))] 0)))
abbrev akw:List (Nat × TV):=[(0,(vP 0 0)),(Yc u1 u0),(90,(vO 38 false u2.length)),(91,(vI (u2.length:Int))),(92,(vI u4))]
abbrev Oa:=(IntKind.wrap .i64 (u0.clearing.energy+(IntKind.wrap .i64 ((IntKind.wrap .i64 (Int.tdiv (IntKind.wrap .i64 ((IntKind.wrap .i64 (u0.total*u0.total))+999)) 1000))*(IntKind.wrap .i64 ((if u1<u0.now then u0.now else u1) - u0.now))))))
abbrev ahR:Nat × Option Ob:=(0,some (.cells 96 [(.own 45 false o0.length),(cB u0.clearing.cleared),(cI (if u1<u0.now then u0.now else u1)),(cI (Oa u1 u0)),(.own 39 false o4.length),(.own 3 false u0.clearing.state.locked.length),(.own 4 false u0.clearing.state.badLink.length),(.own 5 false u0.clearing.state.on_.length),(.own 6 false u0.clearing.state.badSource.length),(.own 7 false u0.clearing.state.earthed.length),(.own 8 false u0.clearing.state.badBus.length),(cI u0.p.buses),(.d (xg u0)),(.d (wJ u0)),(.d (xA u0)),(cI u0.bus),(.d (yE u0 u3)),(cI u0.total),(.mp 9),(cI (if u1<u0.now then u0.now else u1))]))
abbrev JD:Nat × Option Ob:=(38,some (zP u2))
abbrev SE:Nat × Option Ob:=(39,some (aF 4 1 af o4))
abbrev agU:List (Nat × Option Ob):=[(ahR u1 u0 o0 o4 u3),(1,none),(kF u0),(iD u0),(gY u0),(gU u0),(gJ u0),(gm u0),(fJ u0),(kV u0),(JD u2),(SE o4),(45,some (aF 87 2 Event.cell o0))]
end
def qg (u0:Machine) (u3:Bool) (u1:Int) (u2:(List Int)):((List Event) × (List Bool) × Int)→St:=
  fun zz=>match zz with|(o0,o4,u4)=> ⟨(akw u1 u0 u2 u4),(agU u1 u0 u2 o0 o4 u3)⟩
section
variable (u2:(List Event)) (u0:Machine) (u1:Int) (u3:(List Bool)) (u4:Bool)
abbrev ai6:List (Nat × Option Ob):=[(ahR u1 u0 u2 u3 u4),(1,none),(kF u0),(iD u0),(gY u0),(gU u0),(gJ u0),(gm u0),(fJ u0),(kV u0),(SE u3),(45,some (aF 87 2 Event.cell u2))]
abbrev aiD:St:=⟨[],(ai6 u2 u0 u1 u3 u4)⟩
end
def pW (u0:Machine) (u4:Bool) (u1:Int):((List Event) × (List Bool))→St:=
  fun zz=>match zz with|(u2,u3)=>(aiD u2 u0 u1 u3 u4)
def zV (u0:Machine) (u1:Bool) (u2:Int) (u3:(List Int)):(aM ((List Event) × (List Bool) × Int) (Ex ((List Event) × (List Bool)) (Bool × Machine × Bool)))→Exit→St→Prop:=
  LQ 4 [] (qg u0 u1 u2 u3) (pW u0 u1 u2) (lF u0)
section
variable (u0:Machine) (u3:Bool) (u1:Int) (u2:(List Int)) (u5:(List Bool)) (u4:Int) (o4:(List Bool)) (o0:(List Event)) (u6:(List Event)) (u7:(List Bool))
abbrev alq:List (Nat × TV):=[(0,(vP 0 0)),(3,(vP 29 0)),(12,(.v (.one (.fn 141 0 1 (DI [(.ptr 30 0)])))))]
abbrev adG:Nat × Option Ob:=(30,some (.cells 93 [(.ptr 0 0)]))
abbrev ajU:List CV:=[(.own 32 false u0.clearing.events.length),(cB u0.clearing.cleared),(cI u0.clearing.millis),(cI u0.clearing.energy),(.own 2 false u0.clearing.state.closed.length),(.own 3 false u0.clearing.state.locked.length),(.own 4 false u0.clearing.state.badLink.length),(.own 5 false u0.clearing.state.on_.length),(.own 6 false u0.clearing.state.badSource.length),(.own 7 false u0.clearing.state.earthed.length),(.own 8 false u0.clearing.state.badBus.length),(cI u0.p.buses),(.d (xg u0)),(.d (wJ u0)),(.d (xA u0)),(cI u0.bus),(.d (yE u0 u3)),(cI u0.total),(.mp 9),(cI u0.now)]
abbrev Ru:Nat × Option Ob:=(29,some (.cells 3 [(cI (if u1<u0.now then u0.now else u1))]))
abbrev acO:List (Nat × TV):=[(0,(vP 0 0)),(3,(vP 29 0)),(6,(vP 34 0))]
abbrev ahZ:Nat × Option Ob:=(34,some (.cells 35 [(.own 35 false (([]:List Int).length))]))
abbrev agD:Nat × Option Ob:=(35,some adP)
abbrev als:List (Nat × TV):=[(0,(vP 0 0)),(3,(vP 29 0)),(6,(vP 34 0)),(32,(.v (.one (.fn 141 0 1 (DI [(.ptr 36 0)])))))]
abbrev aeK:Nat × Option Ob:=(36,some (.cells 93 [(.ptr 0 0)]))
abbrev abn:Nat × Option Ob:=(34,some (.cells 35 [(.own 38 false u2.length)]))
abbrev alg:List (Nat × TV):=[(0,(vP 0 0)),(Yc u1 u0),(6,(vP 34 0))]
abbrev anb:List CV:=[(.own 1 false u0.clearing.events.length),(cB u0.clearing.cleared),(cI (if u1<u0.now then u0.now else u1)),(cI (Oa u1 u0)),(.own 39 false u5.length),(.own 3 false u0.clearing.state.locked.length),(.own 4 false u0.clearing.state.badLink.length),(.own 5 false u0.clearing.state.on_.length),(.own 6 false u0.clearing.state.badSource.length),(.own 7 false u0.clearing.state.earthed.length),(.own 8 false u0.clearing.state.badBus.length),(cI u0.p.buses),(.d (xg u0)),(.d (wJ u0)),(.d (xA u0)),(cI u0.bus),(.d (yE u0 u3)),(cI u0.total),(.mp 9),(cI (if u1<u0.now then u0.now else u1))]
abbrev ana:Nat × Option Ob:=(0,some (.cells 96 (anb u0 u3 u1 u5)))
abbrev agY:List (Nat × TV):=[(0,(vP 0 0)),(Yc u1 u0),(90,(vO 38 false u2.length)),(91,(vI (u2.length:Int))),(92,(vI 0))]
abbrev aho:List (Nat × TV):=[(0,(vP 0 0)),(Yc u1 u0),(10,(vI (at' u2 u4.toNat))),(90,(vO 38 false u2.length)),(91,(vI (u2.length:Int))),(92,(vI u4))]
abbrev ahI:Nat × Option Ob:=(39,some (aF 4 1 af (o4.set ((at' u2 u4.toNat).toNat) false)))
abbrev Zf:=(⟨(if u1<u0.now then u0.now else u1),(at' u2 u4.toNat)⟩:Event)
abbrev Ub:=(o0++[(Zf u0 u1 u2 u4)])
abbrev akX:List (Nat × Option Ob):=[(0,some (.cells 96 [(.own 49 false ((Ub u0 u1 u2 u4 o0).length)),(cB u0.clearing.cleared),(cI (if u1<u0.now then u0.now else u1)),(cI (Oa u1 u0)),(.own 39 false ((o4.set ((at' u2 u4.toNat).toNat) false).length)),(.own 3 false u0.clearing.state.locked.length),(.own 4 false u0.clearing.state.badLink.length),(.own 5 false u0.clearing.state.on_.length),(.own 6 false u0.clearing.state.badSource.length),(.own 7 false u0.clearing.state.earthed.length),(.own 8 false u0.clearing.state.badBus.length),(cI u0.p.buses),(.d (xg u0)),(.d (wJ u0)),(.d (xA u0)),(cI u0.bus),(.d (yE u0 u3)),(cI u0.total),(.mp 9),(cI (if u1<u0.now then u0.now else u1))])),(1,none),(kF u0),(iD u0),(gY u0),(gU u0),(gJ u0),(gm u0),(fJ u0),(kV u0),(JD u2),(ahI u2 u4 o4),(49,some (aF 87 2 Event.cell (Ub u0 u1 u2 u4 o0)))]
abbrev af2:=(au Event.cell [(Zf u0 u1 u2 u4)])
abbrev amZ:List (Nat × TV):=[(0,(vP 0 0)),(Yc u1 u0),(90,(vO 38 false u2.length)),(91,(vI (u2.length:Int))),(92,(Am u4))]
abbrev aiU:Nat × Option Ob:=(0,some (.cells 96 [(.own 10 false u6.length),(cB u0.clearing.cleared),(cI (if u1<u0.now then u0.now else u1)),(cI (Oa u1 u0)),(.own 11 false u7.length),(.own 3 false u0.clearing.state.locked.length),(.own 4 false u0.clearing.state.badLink.length),(.own 5 false u0.clearing.state.on_.length),(.own 6 false u0.clearing.state.badSource.length),(.own 7 false u0.clearing.state.earthed.length),(.own 8 false u0.clearing.state.badBus.length),(cI u0.p.buses),(.d (xg u0)),(.d (wJ u0)),(.d (xA u0)),(cI u0.bus),(.d (yE u0 u3)),(cI u0.total),(.mp 9),(cI (if u1<u0.now then u0.now else u1))]))
end
theorem zI (u0:Machine) (u3:Bool) {r:(Bool × Machine × Bool)} (h:dZ u0 u3=some r):Fn Tryz.prog 85 [(.one (.ptr 0 0))] (SS u0 u3) (vB r.1) [(0,some (.cells 96 [(.own 10 false r.2.1.clearing.events.length),(cB r.2.1.clearing.cleared),(cI r.2.1.clearing.millis),(cI r.2.1.clearing.energy),(.own 11 false r.2.1.clearing.state.closed.length),(.own 3 false u0.clearing.state.locked.length),(.own 4 false u0.clearing.state.badLink.length),(.own 5 false u0.clearing.state.on_.length),(.own 6 false u0.clearing.state.badSource.length),(.own 7 false u0.clearing.state.earthed.length),(.own 8 false u0.clearing.state.badBus.length),(cI r.2.1.p.buses),(.d (aD none 5 Source.cell r.2.1.p.sources)),(.d (aD none 6 Link.cell r.2.1.p.links)),(.d (aD none 4 aJ.cell r.2.1.p.racks)),(cI r.2.1.bus),(.d (aD (some r.2.2) 1 (aC .i64) r.2.1.amps)),(cI r.2.1.total),(.mp 9),(cI r.2.1.now)])),(1,none),(2,none),(iD u0),(gY u0),(gU u0),(gJ u0),(gm u0),(fJ u0),(kV u0),(10,some (aF 87 2 Event.cell r.2.1.clearing.events)),(11,some (aF 4 1 af r.2.1.clearing.state.closed))]:=by
 refine fN tT Tryz.func85 rfl rfl fun B=> ?_
 show bG _ _ _ _ _ _ ((lF u0) r) _
 unfold dZ at h
 refine sz tT ⟨[(0,(vP 0 0))],(SS u0 u3)⟩ {} [] ?_
 refine sz tT ⟨[(0,(vP 0 0)),(3,(vP 29 0))],[(CX u0 u3),(qP u0),(kF u0),(iD u0),(gY u0),(gU u0),(gJ u0),(gm u0),(fJ u0),(kV u0),(29,some (.cells 3 [(cI (-1))]))]⟩ {fr:=[(0,29)] } [] ?_
 refine aQ (aQ (bE h fun r_ hr_ h=> ?_))
 have q0:=rk [(10,30)] (pU u0 u3 hr_)
 refine rg tT ⟨alq,[(CX u0 u3),(qP u0),(kF u0),(iD u0),(gY u0),(gU u0),(gJ u0),(gm u0),(fJ u0),(kV u0),(29,some (.cells 3 [(cI (-1))])),adG]⟩ [_] {an:=[(1,cA q0 [0,1,2,3,4,5,6,7,8,9])] } [] ⟨q0,trivial⟩ ?_
 refine aB (bE h fun u1 hr_1 h=> ?_)
 refine x9 31 [(3,(vP 29 0))] [] [31,30,29,0,1,2,3,4,5,6,7,8,9] (.iB []) [(31,some (.loop bR 0 [(3,(vP 29 0))])),adG,(29,some (.cells 3 [(cI u1)])),(CX u0 u3),(qP u0),(kF u0),(iD u0),(gY u0),(gU u0),(gJ u0),(gm u0),(fJ u0),(kV u0)] (.v (.one (.fn 141 0 1 (DI [(.ptr 30 0)])))) 141 [] [(.ptr 30 0)] [(31,some (.loop bR 0 [(3,(vP 29 0))])),adG,(29,some (.cells 3 [(cI (-1))])),(CX u0 u3),(qP u0),(kF u0),(iD u0),(gY u0),(gU u0),(gJ u0),(gm u0),(fJ u0),(kV u0)] [(.one (.yl 31)),(.one (.ptr 30 0))] bR 0 [(3,(vP 29 0))] (by kernel_rfl) (by kernel_rfl) (by kernel_rfl) (by kernel_rfl) (by kernel_rfl) (by kernel_rfl) (by kernel_rfl) (rK [(0,31),(1,30),(2,29),(3,0),(4,1),(5,2),(6,3),(7,4),(8,5),(9,6),(10,7),(11,8),(12,9)] (xR (-1) u0 u3 hr_1)) (by kernel_rfl) rfl (Rj.zero rfl) (bJ.fin (st':=⟨alq,[(CX u0 u3),(qP u0),(kF u0),(iD u0),(gY u0),(gU u0),(gJ u0),(gm u0),(fJ u0),(kV u0),(29,some (.cells 3 [(cI u1)])),adG]⟩) (cs:=[]) ⟨[],[(0,0),(1,1),(2,2),(3,3),(4,4),(5,5),(6,6),(7,7),(8,8),(9,9),(29,29),(30,30)]⟩ [0,3,12] (by kernel_rfl) trivial) ?_
 refine aQ (sz tT ⟨[(0,(vP 0 0)),(3,(vP 29 0)),(24,(vB (decide (u1<0))))],[(CX u0 u3),(qP u0),(kF u0),(iD u0),(gY u0),(gU u0),(gJ u0),(gm u0),(fJ u0),(kV u0),(29,some (.cells 3 [(cI u1)]))]⟩ {} [] ?_)
 refine bI h (fun hb1 h=> ?_) (fun hb1 h=> ?_)
 ·refine ct hb1 ?_
  refine sz tT ⟨[(2,(vB false))],(SS u0 u3)⟩ {} [] ?_
  refine aI (.trans (bJ.rD (E0:=96) (cs:=(ahp u0 u3)) (nn:=false) (len:=u0.clearing.events.length) (E:=87) (esz:=2) (n:=u0.clearing.events.length) (el:=au Event.cell u0.clearing.events) (p:=0) (q:=0) (b:=1) (b':=32) (by kernel_rfl) (by kernel_rfl) (by kernel_rfl) (by kernel_rfl)) (.trans (fz ⟨[(2,(vB false))],[(0,some (.cells 96 (ajU u0 u3))),(1,none),(kF u0),(iD u0),(gY u0),(gU u0),(gJ u0),(gm u0),(fJ u0),(kV u0),(32,some (Mh u0))]⟩ []) (.trans (bJ.rD (E0:=96) (cs:=(ajU u0 u3)) (nn:=false) (len:=u0.clearing.state.closed.length) (E:=4) (esz:=1) (n:=u0.clearing.state.closed.length) (el:=au af u0.clearing.state.closed) (p:=0) (q:=4) (b:=2) (b':=33) (by kernel_rfl) (by kernel_rfl) (by kernel_rfl) (by kernel_rfl)) (.trans (fz ⟨[(2,(vB false))],[(0,some (.cells 96 [(.own 32 false u0.clearing.events.length),(cB u0.clearing.cleared),(cI u0.clearing.millis),(cI u0.clearing.energy),(.own 33 false u0.clearing.state.closed.length),(.own 3 false u0.clearing.state.locked.length),(.own 4 false u0.clearing.state.badLink.length),(.own 5 false u0.clearing.state.on_.length),(.own 6 false u0.clearing.state.badSource.length),(.own 7 false u0.clearing.state.earthed.length),(.own 8 false u0.clearing.state.badBus.length),(cI u0.p.buses),(.d (xg u0)),(.d (wJ u0)),(.d (xA u0)),(cI u0.bus),(.d (yE u0 u3)),(cI u0.total),(.mp 9),(cI u0.now)])),(1,none),(2,none),(iD u0),(gY u0),(gU u0),(gJ u0),(gm u0),(fJ u0),(kV u0),(32,some (Mh u0)),(33,some (Vd u0))]⟩ []) (bJ.fin (st':=⟨[(2,(vB false))],[(0,some (.cells 96 [(.own 10 false u0.clearing.events.length),(cB u0.clearing.cleared),(cI u0.clearing.millis),(cI u0.clearing.energy),(.own 11 false u0.clearing.state.closed.length),(.own 3 false u0.clearing.state.locked.length),(.own 4 false u0.clearing.state.badLink.length),(.own 5 false u0.clearing.state.on_.length),(.own 6 false u0.clearing.state.badSource.length),(.own 7 false u0.clearing.state.earthed.length),(.own 8 false u0.clearing.state.badBus.length),(cI u0.p.buses),(.d (xg u0)),(.d (wJ u0)),(.d (xA u0)),(cI u0.bus),(.d (yE u0 u3)),(cI u0.total),(.mp 9),(cI u0.now)])),(1,none),(2,none),(iD u0),(gY u0),(gU u0),(gJ u0),(gm u0),(fJ u0),(kV u0),(10,some (Mh u0)),(11,some (Vd u0))]⟩) (cs:=[]) ⟨[],[(0,0),(1,1),(2,2),(3,3),(4,4),(5,5),(6,6),(7,7),(8,8),(9,9),(32,10),(33,11)]⟩ [2] (by kernel_rfl) trivial))))) ?_
  refine aR ?_
  obtain rfl:=oi h
  exact rh [(sB false)] (.refl _) ⟨rfl, .refl _,⟨rfl,trivial,⟨rfl,trivial,⟨rfl, .refl _,⟨rfl, .refl _,⟨rfl, .refl _,⟨rfl, .refl _,⟨rfl, .refl _,⟨rfl, .refl _,⟨rfl, .refl _,⟨rfl, .refl _,⟨rfl, .refl _,trivial⟩⟩⟩⟩⟩⟩⟩⟩⟩⟩⟩⟩
 ·refine cf hb1 ?_
  refine aP (sd tT mX ⟨[(0,(vP 0 0)),(3,(vP 29 0))],[(CX u0 u3),(qP u0),(kF u0),(iD u0),(gY u0),(gU u0),(gJ u0),(gm u0),(fJ u0),(kV u0),(Ru u0 u1)]⟩ [] {} [] trivial ?_)
  refine si tT ⟨acO,[(CX u0 u3),(qP u0),(kF u0),(iD u0),(gY u0),(gU u0),(gJ u0),(gm u0),(fJ u0),(kV u0),(Ru u0 u1),(34,some (.cells 35 [(.d nS)]))]⟩ [] {fr:=[(0,34)] } [] trivial (.trans (bJ.eY (E:=0) (esz:=0) (E0:=35) (cs:=[(.d nS)]) (p:=34) (q:=0) (b:=35) (esz0:=0) (el0:=fun _ _=> .nilp) (ob:= .arr 3 1 0 (au (aC .i64) ([]:List Int))) (fun _ _ _ _ h=> .inl ⟨h,rfl⟩) (by kernel_rfl) (by kernel_rfl) (by kernel_rfl)) (.trans (fz ⟨acO,[(CX u0 u3),(qP u0),(kF u0),(iD u0),(gY u0),(gU u0),(gJ u0),(gm u0),(fJ u0),(kV u0),(Ru u0 u1),(34,some (.cells 35 [(.own 35 false 0)])),(35,some (.arr 3 1 0 (au (aC .i64) ([]:List Int))))]⟩ []) (bJ.le (st':=⟨acO,[(CX u0 u3),(qP u0),(kF u0),(iD u0),(gY u0),(gU u0),(gJ u0),(gm u0),(fJ u0),(kV u0),(Ru u0 u1),ahZ,agD]⟩) ⟨⟨tR,tR,tR,trivial⟩,(hN 11 ⟨rfl,fG ⟨cW,trivial⟩,⟨rfl,oW,trivial⟩⟩)⟩))) ?_
  refine aQ (aQ (bE h fun u8 hr_2 h=> ?_))
  have q0:=rk [(10,36)] (pU u0 u3 hr_2)
  refine rg tT ⟨als,[(CX u0 u3),(qP u0),(kF u0),(iD u0),(gY u0),(gU u0),(gJ u0),(gm u0),(fJ u0),(kV u0),(Ru u0 u1),ahZ,agD,aeK]⟩ [_] {an:=[(1,cA q0 [0,1,2,3,4,5,6,7,8,9])] } [] ⟨q0,trivial⟩ ?_
  refine aB (bE h fun u2 hr_3 h=> ?_)
  refine x9 37 [(3,(vP 29 0)),(6,(vP 34 0))] [] [37,36,29,34,0,35,1,2,3,4,5,6,7,8,9] (.iB []) [(37,some (.loop bT 0 [(3,(vP 29 0)),(6,(vP 34 0))])),aeK,(Ru u0 u1),(abn u2),(CX u0 u3),(35,none),(qP u0),(kF u0),(iD u0),(gY u0),(gU u0),(gJ u0),(gm u0),(fJ u0),(kV u0),(JD u2)] (.v (.one (.fn 141 0 1 (DI [(.ptr 36 0)])))) 141 [] [(.ptr 36 0)] [(37,some (.loop bT 0 [(3,(vP 29 0)),(6,(vP 34 0))])),aeK,(Ru u0 u1),ahZ,(CX u0 u3),agD,(qP u0),(kF u0),(iD u0),(gY u0),(gU u0),(gJ u0),(gm u0),(fJ u0),(kV u0)] [(.one (.yl 37)),(.one (.ptr 36 0))] bT 0 [(3,(vP 29 0)),(6,(vP 34 0))] (by kernel_rfl) (by kernel_rfl) (by kernel_rfl) (by kernel_rfl) (by kernel_rfl) (by kernel_rfl) (by kernel_rfl) (rK [(0,37),(1,36),(2,29),(3,34),(4,0),(5,35),(6,1),(7,2),(8,3),(9,4),(10,5),(11,6),(12,7),(13,8),(14,9),(15,38)] (uK (if u1<u0.now then u0.now else u1) ([]:List Int) u0 u3 hr_3)) (by kernel_rfl) rfl (Rj.zero rfl) (bJ.fin (st':=⟨als,[(CX u0 u3),(qP u0),(kF u0),(iD u0),(gY u0),(gU u0),(gJ u0),(gm u0),(fJ u0),(kV u0),(Ru u0 u1),(abn u2),(35,none),aeK,(JD u2)]⟩) (cs:=[]) ⟨[],[(0,0),(1,1),(2,2),(3,3),(4,4),(5,5),(6,6),(7,7),(8,8),(9,9),(29,29),(34,34),(35,35),(36,36),(38,38)]⟩ [0,3,6,32] (by kernel_rfl) trivial) ?_
  refine aQ (aO h fun a1 h=> ?_)
  refine dg tT mX ⟨acO,[(0,some (.cells 96 [(.own 1 false u0.clearing.events.length),(cB u0.clearing.cleared),(cI u0.clearing.millis),(cI (Oa u1 u0)),(.own 2 false u0.clearing.state.closed.length),(.own 3 false u0.clearing.state.locked.length),(.own 4 false u0.clearing.state.badLink.length),(.own 5 false u0.clearing.state.on_.length),(.own 6 false u0.clearing.state.badSource.length),(.own 7 false u0.clearing.state.earthed.length),(.own 8 false u0.clearing.state.badBus.length),(cI u0.p.buses),(.d (xg u0)),(.d (wJ u0)),(.d (xA u0)),(cI u0.bus),(.d (yE u0 u3)),(cI u0.total),(.mp 9),(cI u0.now)])),(qP u0),(kF u0),(iD u0),(gY u0),(gU u0),(gJ u0),(gm u0),(fJ u0),(kV u0),(Ru u0 u1),(abn u2),(JD u2)]⟩ [_] {} [] ⟨a1,trivial⟩ ?_
  refine sd tT mX ⟨(alg u0 u1),[(0,some (.cells 96 [(.own 1 false u0.clearing.events.length),(cB u0.clearing.cleared),(cI (if u1<u0.now then u0.now else u1)),(cI (Oa u1 u0)),(.own 2 false u0.clearing.state.closed.length),(.own 3 false u0.clearing.state.locked.length),(.own 4 false u0.clearing.state.badLink.length),(.own 5 false u0.clearing.state.on_.length),(.own 6 false u0.clearing.state.badSource.length),(.own 7 false u0.clearing.state.earthed.length),(.own 8 false u0.clearing.state.badBus.length),(cI u0.p.buses),(.d (xg u0)),(.d (wJ u0)),(.d (xA u0)),(cI u0.bus),(.d (yE u0 u3)),(cI u0.total),(.mp 9),(cI (if u1<u0.now then u0.now else u1))])),(qP u0),(kF u0),(iD u0),(gY u0),(gU u0),(gJ u0),(gm u0),(fJ u0),(kV u0),(abn u2),(JD u2)]⟩ [] {} [29] trivial ?_
  refine aQ (bE h fun u5 hr_4 h=> ?_)
  refine rg tT ⟨(alg u0 u1),[(ana u0 u3 u1 u5),(qP u0),(kF u0),(iD u0),(gY u0),(gU u0),(gJ u0),(gm u0),(fJ u0),(kV u0),(abn u2),(JD u2),(SE u5)]⟩ [Fn Tryz.prog 84 [(.one (.own 2 false u0.clearing.state.closed.length))] [(kF u0)] (vO 39 false u5.length) [(kF u0),(SE u5)]] {an:=[(7, .call [2] (vO 39 false u5.length) [(kF u0),(SE u5)])] } [] ⟨(Fn.aaf (args:=[(sD (aD none 1 af u0.clearing.state.closed))]) (frz:=[2]) (p:=[u0.clearing.state.closed.length=u0.clearing.state.closed.length]) (rK [(0,39)] (aZ u0.clearing.state.closed hr_4)) (by kernel_rfl) ⟨rfl,trivial⟩ (by kernel_rfl) ⟨(fun _ _=>rfl),trivial⟩ (by kernel_rfl)),trivial⟩ ?_
  refine aQ (sz tT ⟨(agY u0 u1 u2),[(ana u0 u3 u1 u5),(qP u0),(kF u0),(iD u0),(gY u0),(gU u0),(gJ u0),(gm u0),(fJ u0),(kV u0),(JD u2),(SE u5)]⟩ {} [] ?_)
  refine bE h fun y hy h=> ?_
  refine aI (.trans (bJ.rD (E0:=96) (cs:=(anb u0 u3 u1 u5)) (nn:=false) (len:=u0.clearing.events.length) (E:=87) (esz:=2) (n:=u0.clearing.events.length) (el:=au Event.cell u0.clearing.events) (p:=0) (q:=0) (b:=1) (b':=50) (by kernel_rfl) (by kernel_rfl) (by kernel_rfl) (by kernel_rfl)) (.trans (fz ⟨(agY u0 u1 u2),[(0,some (.cells 96 [(.own 50 false u0.clearing.events.length),(cB u0.clearing.cleared),(cI (if u1<u0.now then u0.now else u1)),(cI (Oa u1 u0)),(.own 39 false u5.length),(.own 3 false u0.clearing.state.locked.length),(.own 4 false u0.clearing.state.badLink.length),(.own 5 false u0.clearing.state.on_.length),(.own 6 false u0.clearing.state.badSource.length),(.own 7 false u0.clearing.state.earthed.length),(.own 8 false u0.clearing.state.badBus.length),(cI u0.p.buses),(.d (xg u0)),(.d (wJ u0)),(.d (xA u0)),(cI u0.bus),(.d (yE u0 u3)),(cI u0.total),(.mp 9),(cI (if u1<u0.now then u0.now else u1))])),(1,none),(kF u0),(iD u0),(gY u0),(gU u0),(gJ u0),(gm u0),(fJ u0),(kV u0),(JD u2),(SE u5),(50,some (Mh u0))]⟩ []) (bJ.fin (st':=⟨(agY u0 u1 u2),[(0,some (.cells 96 [(.own 45 false u0.clearing.events.length),(cB u0.clearing.cleared),(cI (if u1<u0.now then u0.now else u1)),(cI (Oa u1 u0)),(.own 39 false u5.length),(.own 3 false u0.clearing.state.locked.length),(.own 4 false u0.clearing.state.badLink.length),(.own 5 false u0.clearing.state.on_.length),(.own 6 false u0.clearing.state.badSource.length),(.own 7 false u0.clearing.state.earthed.length),(.own 8 false u0.clearing.state.badBus.length),(cI u0.p.buses),(.d (xg u0)),(.d (wJ u0)),(.d (xA u0)),(cI u0.bus),(.d (yE u0 u3)),(cI u0.total),(.mp 9),(cI (if u1<u0.now then u0.now else u1))])),(1,none),(kF u0),(iD u0),(gY u0),(gU u0),(gJ u0),(gm u0),(fJ u0),(kV u0),(JD u2),(SE u5),(45,some (Mh u0))]⟩) (cs:=[]) ⟨[],[(0,0),(1,1),(2,2),(3,3),(4,4),(5,5),(6,6),(7,7),(8,8),(9,9),(38,38),(39,39),(50,45)]⟩ [0,3,90,91,92] (by kernel_rfl) trivial))) ?_
  refine aL [] (qg u0 u3 u1 u2) (pW u0 u3 u1) (lF u0) hy (fun s f h=> ?_) ?_
  ·clear hy
   show bG _ _ _ _ _ _ ((zV u0 u3 u1 u2) f) _
   unfold dW at h
   obtain⟨o0,o4,u4⟩:=s
   refine sz tT ⟨[(0,(vP 0 0)),(Yc u1 u0),(90,(vO 38 false u2.length)),(91,(vI (u2.length:Int))),(92,(vI u4)),(93,(QT u4 u2))],(agU u1 u0 u2 o0 o4 u3)⟩ {} [] ?_
   refine aQ ?_
   refine bI h (fun hb h=> ?_) (fun hb h=> ?_)
   ·refine ct hb ?_
    refine aP (aQ (aB (aQ (aO h fun a1 h=> ?_))))
    refine rg tT ⟨(aho u0 u1 u2 u4),(agU u1 u0 u2 o0 o4 u3)⟩ [_,_] {} [] ⟨a1,(tL a1),trivial⟩ ?_
    refine aQ (aO h fun a1 h=> ?_)
    refine ri tT ⟨(aho u0 u1 u2 u4),[(ahR u1 u0 o0 o4 u3),(1,none),(kF u0),(iD u0),(gY u0),(gU u0),(gJ u0),(gm u0),(fJ u0),(kV u0),(JD u2),(39,some (.arr 4 1 o4.length (au af (o4.set ((at' u2 u4.toNat).toNat) false)))),(45,some (aF 87 2 Event.cell o0))]⟩ [_,_,aT o4.length 1 (lH (au af o4) ((at' u2 u4.toNat).toNat) 0 [(.bool false)]) (au af (o4.set ((at' u2 u4.toNat).toNat) false))] {an:=[(8, .arr 0 (au af (o4.set ((at' u2 u4.toNat).toNat) false)))] } [] ⟨a1,(tL a1),(dD _ _ _ _ _ _ _ _ rfl (fun j hj=>(match j,hj with|0,_=>rfl))),trivial⟩ (bJ.le (st':=⟨(aho u0 u1 u2 u4),[(0,some (.cells 96 [(.own 45 false o0.length),(cB u0.clearing.cleared),(cI (if u1<u0.now then u0.now else u1)),(cI (Oa u1 u0)),(.own 39 false ((o4.set ((at' u2 u4.toNat).toNat) false).length)),(.own 3 false u0.clearing.state.locked.length),(.own 4 false u0.clearing.state.badLink.length),(.own 5 false u0.clearing.state.on_.length),(.own 6 false u0.clearing.state.badSource.length),(.own 7 false u0.clearing.state.earthed.length),(.own 8 false u0.clearing.state.badBus.length),(cI u0.p.buses),(.d (xg u0)),(.d (wJ u0)),(.d (xA u0)),(cI u0.bus),(.d (yE u0 u3)),(cI u0.total),(.mp 9),(cI (if u1<u0.now then u0.now else u1))])),(1,none),(kF u0),(iD u0),(gY u0),(gU u0),(gJ u0),(gm u0),(fJ u0),(kV u0),(JD u2),(ahI u2 u4 o4),(45,some (aF 87 2 Event.cell o0))]⟩) ⟨⟨tR,tR,tR,tR,tR,tR,trivial⟩,⟨rfl,fG ⟨bH.refl _,bH.refl _,bH.refl _,bH.refl _,cW,bH.refl _,bH.refl _,bH.refl _,bH.refl _,bH.refl _,bH.refl _,bH.refl _,bH.refl _,bH.refl _,bH.refl _,bH.refl _,bH.refl _,bH.refl _,bH.refl _,bH.refl _,trivial⟩,(hN 10 ⟨rfl,oW,(.refl _)⟩)⟩⟩) ?_
    refine aO h fun⟨a1,a2⟩ h=> ?_
    refine dg tT mX ⟨(akw u1 u0 u2 u4),(akX u0 u3 u1 u2 u4 o4 o0)⟩ [[(Zf u0 u1 u2 u4)].length=1,aT 1 2 (xL 2 [(.int .i64 (if u1<u0.now then u0.now else u1)),(.int .i64 (at' u2 u4.toNat))]) (af2 u0 u1 u2 u4),o0.length=o0.length,_,_,(Ub u0 u1 u2 u4 o0).length=o0.length+[(Zf u0 u1 u2 u4)].length,aT (o0.length+[(Zf u0 u1 u2 u4)].length) 2 (yJ (au Event.cell o0) o0.length (af2 u0 u1 u2 u4)) (au Event.cell (Ub u0 u1 u2 u4 o0))] {an:=[(9, .arr [(Zf u0 u1 u2 u4)].length (af2 u0 u1 u2 u4)),(10, .arr (Ub u0 u1 u2 u4 o0).length (au Event.cell (Ub u0 u1 u2 u4 o0)))],fr:=[(9,48),(10,49)] } [] ⟨(rfl),((by intro i hi j hj;match i,j,hi,hj with|0,0,_,_=>rfl|0,1,_,_=>rfl)),rfl,a1,a2,(List.length_append),(dA _ _ _ _),trivial⟩ ?_
    refine ri tT ⟨(amZ u0 u1 u2 u4),(akX u0 u3 u1 u2 u4 o4 o0)⟩ [] {} [] trivial (bJ.fin (st':=⟨(amZ u0 u1 u2 u4),[(0,some (.cells 96 [(.own 45 false ((Ub u0 u1 u2 u4 o0).length)),(cB u0.clearing.cleared),(cI (if u1<u0.now then u0.now else u1)),(cI (Oa u1 u0)),(.own 39 false ((o4.set ((at' u2 u4.toNat).toNat) false).length)),(.own 3 false u0.clearing.state.locked.length),(.own 4 false u0.clearing.state.badLink.length),(.own 5 false u0.clearing.state.on_.length),(.own 6 false u0.clearing.state.badSource.length),(.own 7 false u0.clearing.state.earthed.length),(.own 8 false u0.clearing.state.badBus.length),(cI u0.p.buses),(.d (xg u0)),(.d (wJ u0)),(.d (xA u0)),(cI u0.bus),(.d (yE u0 u3)),(cI u0.total),(.mp 9),(cI (if u1<u0.now then u0.now else u1))])),(1,none),(kF u0),(iD u0),(gY u0),(gU u0),(gJ u0),(gm u0),(fJ u0),(kV u0),(JD u2),(ahI u2 u4 o4),(45,some (aF 87 2 Event.cell (Ub u0 u1 u2 u4 o0)))]⟩) (cs:=[]) ⟨[],[(0,0),(1,1),(2,2),(3,3),(4,4),(5,5),(6,6),(7,7),(8,8),(9,9),(38,38),(39,39),(49,45)]⟩ [0,3,90,91,92] (by kernel_rfl) trivial) ?_
    obtain rfl:=oi h
    exact lN
   ·refine cf hb ?_
    refine aI (fz (aiD o0 u0 u1 o4 u3) []) ?_
    refine aX ?_
    obtain rfl:=oi h
    exact lB
  ·clear hy
   cases y with
   |brk z=>
    obtain⟨u6,u7⟩:=z
    unfold fE
    refine⟨_, .refl, ?_⟩
    refine sz tT ⟨[(2,(vB true))],(ai6 u6 u0 u1 u7 u3)⟩ {} [] ?_
    refine aI (.trans (bJ.fin (st':=⟨[(2,(vB true))],[(aiU u0 u3 u1 u6 u7),(1,none),(kF u0),(iD u0),(gY u0),(gU u0),(gJ u0),(gm u0),(fJ u0),(kV u0),(10,some (aF 87 2 Event.cell u6)),(Zw u7)]⟩) (cs:=[]) ⟨[],[(0,0),(1,1),(2,2),(3,3),(4,4),(5,5),(6,6),(7,7),(8,8),(9,9),(45,10),(39,11)]⟩ [2] (by kernel_rfl) trivial) (bJ.le (st':=⟨[(2,(vB true))],[(aiU u0 u3 u1 u6 u7),(1,none),(2,none),(iD u0),(gY u0),(gU u0),(gJ u0),(gm u0),(fJ u0),(kV u0),(10,some (aF 87 2 Event.cell u6)),(Zw u7)]⟩) ⟨⟨tR,trivial⟩,(hN 2 ⟨rfl,trivial,(.refl _)⟩)⟩)) ?_
    refine aR ?_
    obtain rfl:=oi h
    exact rh [(sB true)] (.refl _) ⟨rfl, .refl _,⟨rfl,trivial,⟨rfl,trivial,⟨rfl, .refl _,⟨rfl, .refl _,⟨rfl, .refl _,⟨rfl, .refl _,⟨rfl, .refl _,⟨rfl, .refl _,⟨rfl, .refl _,⟨rfl, .refl _,⟨rfl, .refl _,trivial⟩⟩⟩⟩⟩⟩⟩⟩⟩⟩⟩⟩
   |ret v=>
    obtain rfl:=oi h
    unfold fE
    intro e st hn ha hR
    cases e with
    |normal=>exact absurd rfl hn
    |exit id=>exact hR
    |goto l=>exact hR
    |ret=>exact hR
    |panic c=>exact hR
    |outgrown=>exact hR
def nC  :(bg × (List (Int × Int)))→Exit→St→Prop:=
  fun r=>aW TT [.cell 2 38] (.v (.agg [(.own 10 false r.1.events.length),(cB r.1.cleared),(cI r.1.millis),(cI r.1.energy),(.own 11 false r.1.state.closed.length),(.own 12 false r.1.state.locked.length),(.own 13 false r.1.state.badLink.length),(.own 14 false r.1.state.on_.length),(.own 15 false r.1.state.badSource.length),(.own 16 false r.1.state.earthed.length),(.own 17 false r.1.state.badBus.length)])) [(0,none),(1,none),(2,none),(3,none),(4,none),(5,none),(6,none),(7,none),(8,none),(9,some (Px 3 3 false false 1 1 (aC .i64) (aC .i64) r.2)),(10,some (aF 87 2 Event.cell r.1.events)),(11,some (aF 4 1 af r.1.state.closed)),(12,some (aF 4 1 af r.1.state.locked)),(13,some (aF 4 1 af r.1.state.badLink)),(14,some (aF 4 1 af r.1.state.on_)),(15,some (aF 4 1 af r.1.state.badSource)),(16,some (aF 4 1 af r.1.state.earthed)),(17,some (aF 4 1 af r.1.state.badBus)),(18,none)]
section
variable (o0:(List Event)) (o4:(List Bool))
abbrev agu:Nat × TV:=(3,(.v (.one (.fn 85 1 1 (DI [(.ptr 0 0)])))))
abbrev VO:List (Nat × TV):=[(0,(vP 0 0)),(2,(vP 23 0)),agu]
abbrev YX:List CV:=[(.d nS),(cB false),(cI 0),(cI 0),(.d nS),(.d nS),(.d nS),(.d nS),(.d nS),(.d nS),(.d nS)]
abbrev aiK:Ob:=(.cells 38 YX)
abbrev Rh:Nat × Option Ob:=(23,some aiK)
abbrev Ov:Nat × Option Ob:=(26,some (aF 87 2 Event.cell o0))
abbrev NZ:Nat × Option Ob:=(27,some (aF 4 1 af o4))
end
def qU (u0:Machine):((List Event) × Bool × Int × Int × (List Bool) × Int × (List Source) × (List Link) × (List aJ) × Int × Bool × (List Int) × Int × (List (Int × Int)) × Int)→St:=
  fun zz=>match zz with|(o0,o1,o2,o3,o4,u1,u2,u3,u4,u5,u6,u7,u8,u9,v0)=> ⟨VO,[(0,some (.cells 96 [(.own 26 false o0.length),(cB o1),(cI o2),(cI o3),(.own 27 false o4.length),(.own 3 false u0.clearing.state.locked.length),(.own 4 false u0.clearing.state.badLink.length),(.own 5 false u0.clearing.state.on_.length),(.own 6 false u0.clearing.state.badSource.length),(.own 7 false u0.clearing.state.earthed.length),(.own 8 false u0.clearing.state.badBus.length),(cI u1),(.d (k73 u2)),(.d (k74 u3)),(.d (k75 u4)),(cI u5),(.d (aD (some u6) 1 (aC .i64) u7)),(cI u8),(.mp 9),(cI v0)])),(1,none),(2,none),(iD u0),(gY u0),(gU u0),(gJ u0),(gm u0),(fJ u0),(agf u9),Rh,(Ov o0),(NZ o4)]⟩
def BN (u0:Machine):(aM ((List Event) × Bool × Int × Int × (List Bool) × Int × (List Source) × (List Link) × (List aJ) × Int × Bool × (List Int) × Int × (List (Int × Int)) × Int) (Ex Unit (bg × (List (Int × Int)))))→Exit→St→Prop:=
  GQ 0 (qU u0) (JQ [] (fun _:Unit=>(⟨[],[]⟩:St)) nC)
end
end Sg
