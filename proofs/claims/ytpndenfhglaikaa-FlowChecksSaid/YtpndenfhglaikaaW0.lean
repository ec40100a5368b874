import Derived.Test.YtpndenfhglaikaaGm
import Derived.Test.YtpndenfhglaikaaProg
set_option linter.all false
namespace Sg
open Go Go.Proofs
set_option maxRecDepth 20000
noncomputable section
noncomputable def TT:List (Nat × TI):=[(3,⟨Try.t3.desc,Try.t3.size,Try.t3.bytes,zl Try.t3,false⟩),
  (4,⟨Try.t4.desc,Try.t4.size,Try.t4.bytes,zl Try.t4,false⟩),
  (22,⟨Try.t22.desc,Try.t22.size,Try.t22.bytes,zl Try.t22,false⟩),
  (23,⟨Try.t23.desc,Try.t23.size,Try.t23.bytes,zl Try.t23,false⟩),
  (24,⟨Try.t24.desc,Try.t24.size,Try.t24.bytes,zl Try.t24,false⟩),
  (26,⟨Try.t25.desc,Try.t26.size,Try.t26.bytes,zl Try.t26,false⟩),
  (27,⟨Try.t27.desc,Try.t27.size,Try.t27.bytes,zl Try.t27,false⟩),
  (29,⟨Try.t28.desc,Try.t29.size,Try.t29.bytes,zl Try.t29,false⟩),
  (40,⟨Try.t40.desc,Try.t40.size,Try.t40.bytes,zl Try.t40,false⟩),
  (41,⟨Try.t41.desc,Try.t41.size,Try.t41.bytes,zl Try.t41,false⟩),
  (47,⟨Try.t46.desc,Try.t47.size,Try.t47.bytes,zl Try.t47,false⟩),
  (50,⟨Try.t3.desc,Try.t50.size,Try.t50.bytes,zl Try.t50,false⟩),
  (51,⟨Try.t51.desc,Try.t51.size,Try.t51.bytes,zl Try.t51,false⟩),
  (53,⟨Try.t52.desc,Try.t53.size,Try.t53.bytes,zl Try.t53,false⟩),
  (75,⟨Try.t75.desc,Try.t75.size,Try.t75.bytes,zl Try.t75,false⟩),
  (77,⟨Try.t76.desc,Try.t77.size,Try.t77.bytes,zl Try.t77,false⟩),
  (80,⟨Try.t80.desc,Try.t80.size,Try.t80.bytes,zl Try.t80,false⟩),
  (92,⟨Try.t76.desc,Try.t92.size,Try.t92.bytes,zl Try.t92,false⟩),
  (102,⟨Try.t102.desc,Try.t102.size,Try.t102.bytes,zl Try.t102,false⟩),
  (103,⟨Try.t46.desc,Try.t103.size,Try.t103.bytes,zl Try.t103,false⟩),
  (110,⟨Try.t110.desc,Try.t110.size,Try.t110.bytes,zl Try.t110,false⟩),
  (115,⟨Try.t3.desc,Try.t115.size,Try.t115.bytes,zl Try.t115,false⟩),
  (117,⟨Try.t116.desc,Try.t117.size,Try.t117.bytes,zl Try.t117,true⟩),
  (119,⟨Try.t119.desc,Try.t119.size,Try.t119.bytes,zl Try.t119,false⟩),
  (123,⟨Try.t122.desc,Try.t123.size,Try.t123.bytes,zl Try.t123,false⟩),
  (124,⟨Try.t3.desc,Try.t124.size,Try.t124.bytes,zl Try.t124,false⟩),
  (126,⟨Try.t125.desc,Try.t126.size,Try.t126.bytes,zl Try.t126,true⟩),
  (128,⟨Try.t128.desc,Try.t128.size,Try.t128.bytes,zl Try.t128,false⟩),
  (129,⟨Try.t129.desc,Try.t129.size,Try.t129.bytes,zl Try.t129,false⟩),
  (135,⟨Try.t135.desc,Try.t135.size,Try.t135.bytes,zl Try.t135,false⟩),
  (141,⟨Try.t140.desc,Try.t141.size,Try.t141.bytes,zl Try.t141,false⟩),
  (142,⟨Try.t142.desc,Try.t142.size,Try.t142.bytes,zl Try.t142,false⟩),
  (148,⟨Try.t147.desc,Try.t148.size,Try.t148.bytes,zl Try.t148,true⟩),
  (157,⟨Try.t157.desc,Try.t157.size,Try.t157.bytes,zl Try.t157,false⟩),
  (158,⟨Try.t158.desc,Try.t158.size,Try.t158.bytes,zl Try.t158,false⟩),
  (159,⟨Try.t159.desc,Try.t159.size,Try.t159.bytes,zl Try.t159,false⟩),
  (161,⟨Try.t160.desc,Try.t161.size,Try.t161.bytes,zl Try.t161,false⟩),
  (162,⟨Try.t162.desc,Try.t162.size,Try.t162.bytes,zl Try.t162,false⟩),
  (164,⟨Try.t164.desc,Try.t164.size,Try.t164.bytes,zl Try.t164,true⟩),
  (166,⟨Try.t165.desc,Try.t166.size,Try.t166.bytes,zl Try.t166,true⟩),
  (170,⟨Try.t169.desc,Try.t170.size,Try.t170.bytes,zl Try.t170,true⟩),
  (182,⟨Try.t182.desc,Try.t182.size,Try.t182.bytes,zl Try.t182,false⟩),
  (184,⟨Try.t184.desc,Try.t184.size,Try.t184.bytes,zl Try.t184,false⟩),
  (186,⟨Try.t185.desc,Try.t186.size,Try.t186.bytes,zl Try.t186,false⟩),
  (192,⟨Try.t192.desc,Try.t192.size,Try.t192.bytes,zl Try.t192,false⟩),
  (195,⟨Try.t195.desc,Try.t195.size,Try.t195.bytes,zl Try.t195,false⟩),
  (198,⟨Try.t198.desc,Try.t198.size,Try.t198.bytes,zl Try.t198,false⟩),
  (211,⟨Try.t211.desc,Try.t211.size,Try.t211.bytes,zl Try.t211,true⟩),
  (215,⟨Try.t214.desc,Try.t215.size,Try.t215.bytes,zl Try.t215,false⟩),
  (226,⟨Try.t225.desc,Try.t226.size,Try.t226.bytes,zl Try.t226,false⟩),
  (234,⟨Try.t234.desc,Try.t234.size,Try.t234.bytes,zl Try.t234,false⟩),
  (243,⟨Try.t243.desc,Try.t243.size,Try.t243.bytes,zl Try.t243,false⟩),
  (244,⟨Try.t244.desc,Try.t244.size,Try.t244.bytes,zl Try.t244,false⟩)]
theorem tT:qY Try.prog TT:=⟨gD (by kernel_rfl) (by kernel_rfl) (by kernel_rfl),⟨iQ,bY (by kernel_rfl)⟩,gD (by kernel_rfl) (by kernel_rfl) (by kernel_rfl),⟨iQ,bY (by kernel_rfl)⟩,gD (by kernel_rfl) (by kernel_rfl) (by kernel_rfl),⟨iQ,bY (by kernel_rfl)⟩,gD (by kernel_rfl) (by kernel_rfl) (by kernel_rfl),⟨iQ,bY (by kernel_rfl)⟩,gD (by kernel_rfl) (by kernel_rfl) (by kernel_rfl),⟨iQ,bY (by kernel_rfl)⟩,gD (by kernel_rfl) (by kernel_rfl) (by kernel_rfl),⟨iQ,bY (by kernel_rfl)⟩,gD (by kernel_rfl) (by kernel_rfl) (by kernel_rfl),⟨iQ,bY (by kernel_rfl)⟩,gD (by kernel_rfl) (by kernel_rfl) (by kernel_rfl),⟨iQ,bY (by kernel_rfl)⟩,gD (by kernel_rfl) (by kernel_rfl) (by kernel_rfl),⟨iQ,bY (by kernel_rfl)⟩,gD (by kernel_rfl) (by kernel_rfl) (by kernel_rfl),⟨iQ,bY (by kernel_rfl)⟩,gD (by kernel_rfl) (by kernel_rfl) (by kernel_rfl),⟨iQ,bY (by kernel_rfl)⟩,gD (by kernel_rfl) (by kernel_rfl) (by kernel_rfl),⟨iQ,bY (by kernel_rfl)⟩,gD (by kernel_rfl) (by kernel_rfl) (by kernel_rfl),⟨iQ,bY (by kernel_rfl)⟩,gD (by kernel_rfl) (by kernel_rfl) (by kernel_rfl),⟨iQ,bY (by kernel_rfl)⟩,gD (by kernel_rfl) (by kernel_rfl) (by kernel_rfl),⟨iQ,bY (by kernel_rfl)⟩,gD (by kernel_rfl) (by kernel_rfl) (by kernel_rfl),⟨iQ,bY (by kernel_rfl)⟩,gD (by kernel_rfl) (by kernel_rfl) (by kernel_rfl),⟨iQ,bY (by kernel_rfl)⟩,gD (by kernel_rfl) (by kernel_rfl) (by kernel_rfl),⟨iQ,bY (by kernel_rfl)⟩,gD (by kernel_rfl) (by kernel_rfl) (by kernel_rfl),⟨iQ,bY (by kernel_rfl)⟩,gD (by kernel_rfl) (by kernel_rfl) (by kernel_rfl),⟨iQ,bY (by kernel_rfl)⟩,gD (by kernel_rfl) (by kernel_rfl) (by kernel_rfl),⟨iQ,bY (by kernel_rfl)⟩,gD (by kernel_rfl) (by kernel_rfl) (by kernel_rfl),⟨iQ,bY (by kernel_rfl)⟩,gD (by kernel_rfl) (by kernel_rfl) (by kernel_rfl),⟨fun _=> ⟨by kernel_rfl,by kernel_rfl⟩,bY (by kernel_rfl)⟩,gD (by kernel_rfl) (by kernel_rfl) (by kernel_rfl),⟨iQ,bY (by kernel_rfl)⟩,gD (by kernel_rfl) (by kernel_rfl) (by kernel_rfl),⟨iQ,bY (by kernel_rfl)⟩,gD (by kernel_rfl) (by kernel_rfl) (by kernel_rfl),⟨iQ,bY (by kernel_rfl)⟩,gD (by kernel_rfl) (by kernel_rfl) (by kernel_rfl),⟨fun _=> ⟨by kernel_rfl,by kernel_rfl⟩,bY (by kernel_rfl)⟩,gD (by kernel_rfl) (by kernel_rfl) (by kernel_rfl),⟨iQ,bY (by kernel_rfl)⟩,gD (by kernel_rfl) (by kernel_rfl) (by kernel_rfl),⟨iQ,bY (by kernel_rfl)⟩,gD (by kernel_rfl) (by kernel_rfl) (by kernel_rfl),⟨iQ,bY (by kernel_rfl)⟩,gD (by kernel_rfl) (by kernel_rfl) (by kernel_rfl),⟨iQ,bY (by kernel_rfl)⟩,gD (by kernel_rfl) (by kernel_rfl) (by kernel_rfl),⟨iQ,bY (by kernel_rfl)⟩,gD (by kernel_rfl) (by kernel_rfl) (by kernel_rfl),⟨fun _=> ⟨by kernel_rfl,by kernel_rfl⟩,bY (by kernel_rfl)⟩,gD (by kernel_rfl) (by kernel_rfl) (by kernel_rfl),⟨iQ,bY (by kernel_rfl)⟩,gD (by kernel_rfl) (by kernel_rfl) (by kernel_rfl),⟨iQ,bY (by kernel_rfl)⟩,gD (by kernel_rfl) (by kernel_rfl) (by kernel_rfl),⟨iQ,bY (by kernel_rfl)⟩,gD (by kernel_rfl) (by kernel_rfl) (by kernel_rfl),⟨iQ,bY (by kernel_rfl)⟩,gD (by kernel_rfl) (by kernel_rfl) (by kernel_rfl),⟨iQ,bY (by kernel_rfl)⟩,gD (by kernel_rfl) (by kernel_rfl) (by kernel_rfl),⟨fun _=> ⟨by kernel_rfl,by kernel_rfl⟩,bY (by kernel_rfl)⟩,gD (by kernel_rfl) (by kernel_rfl) (by kernel_rfl),⟨fun _=> ⟨by kernel_rfl,by kernel_rfl⟩,bY (by kernel_rfl)⟩,gD (by kernel_rfl) (by kernel_rfl) (by kernel_rfl),⟨fun _=> ⟨by kernel_rfl,by kernel_rfl⟩,bY (by kernel_rfl)⟩,gD (by kernel_rfl) (by kernel_rfl) (by kernel_rfl),⟨iQ,bY (by kernel_rfl)⟩,gD (by kernel_rfl) (by kernel_rfl) (by kernel_rfl),⟨iQ,bY (by kernel_rfl)⟩,gD (by kernel_rfl) (by kernel_rfl) (by kernel_rfl),⟨iQ,bY (by kernel_rfl)⟩,gD (by kernel_rfl) (by kernel_rfl) (by kernel_rfl),⟨iQ,bY (by kernel_rfl)⟩,gD (by kernel_rfl) (by kernel_rfl) (by kernel_rfl),⟨iQ,bY (by kernel_rfl)⟩,gD (by kernel_rfl) (by kernel_rfl) (by kernel_rfl),⟨iQ,bY (by kernel_rfl)⟩,gD (by kernel_rfl) (by kernel_rfl) (by kernel_rfl),⟨fun _=> ⟨by kernel_rfl,by kernel_rfl⟩,bY (by kernel_rfl)⟩,gD (by kernel_rfl) (by kernel_rfl) (by kernel_rfl),⟨iQ,bY (by kernel_rfl)⟩,gD (by kernel_rfl) (by kernel_rfl) (by kernel_rfl),⟨iQ,bY (by kernel_rfl)⟩,gD (by kernel_rfl) (by kernel_rfl) (by kernel_rfl),⟨iQ,bY (by kernel_rfl)⟩,gD (by kernel_rfl) (by kernel_rfl) (by kernel_rfl),⟨iQ,bY (by kernel_rfl)⟩,gD (by kernel_rfl) (by kernel_rfl) (by kernel_rfl),⟨iQ,bY (by kernel_rfl)⟩,trivial⟩
theorem mX:Try.prog.follows .mixedOrders=true:=by kernel_rfl
def oI  :Bool→Exit→St→Prop:=
  fun r=>aW TT [.tmp 4] (vB r) []
section
variable (a:(List Bool)) (b:(List Bool))
abbrev k0:Nat × TV:=(0,(vD (aU none 1 aj a)))
abbrev k1:Nat × TV:=(1,(vD (aU none 1 aj b)))
end
def sS (a:(List Bool)) (b:(List Bool)):Int→St:=
  fun i=> ⟨[(k0 a),(k1 b),(5,(vI i))],[]⟩
def uI  :Unit→St:=
  fun _=> ⟨[],[]⟩
def Dw (a:(List Bool)) (b:(List Bool)):(aJ Int (Ex Unit Bool))→Exit→St→Prop:=
  LQ 0 [] (sS a b) uI oI
section
variable (i:Int)
abbrev k3:TV:=(vI (IntKind.wrap .i64 (i+1)))
abbrev k2:Nat × TV:=(5,(k3 i))
end
theorem nD (a:(List Bool)) (b:(List Bool)) {r:Bool} (h:mW a b=some r):Fn Try.prog 42 [(sD (aU none 1 aj a)),(sD (aU none 1 aj b))] [] (vB r) []:=by
 refine fN tT Try.func42 rfl rfl fun B=> ?_
 show bn _ _ _ _ _ _ (oI r) _
 unfold mW at h
 refine sz tT ⟨[(k0 a),(k1 b)],[]⟩ {} [] ?_
 refine aQ (sz tT ⟨[(k0 a),(k1 b),(10,(vB (!decide ((a.length:Int)=(b.length:Int)))))],[]⟩ {} [] ?_)
 refine bI h (fun hb2 h=> ?_) (fun hb2 h=> ?_)
 ·refine ct hb2 ?_
  refine sz tT ⟨[(4,(vB false))],[]⟩ {} [] ?_
  refine aR ?_
  obtain rfl:=oi h
  exact rl [(sB false)]
 ·refine cf hb2 ?_
  refine aP (aQ (sz tT ⟨[(k0 a),(k1 b),(5,(vI 0))],[]⟩ {} [] ?_))
  refine bE h fun y hy h=> ?_
  refine aL [] (sS a b) uI oI hy (fun s f h=> ?_) ?_
  ·clear hy
   show bn _ _ _ _ _ _ ((Dw a b) f) _
   unfold uH at h
   obtain⟨i,rfl⟩: ∃q,q=s:=⟨_,rfl⟩
   refine aQ (sz tT ⟨[(k0 a),(k1 b),(5,(vI i)),(14,(vB (decide (i<(a.length:Int)))))],[]⟩ {} [] ?_)
   refine bI h (fun hb1 h=> ?_) (fun hb1 h=> ?_)
   ·refine ct hb1 ?_
    refine aP (aQ (aB (aQ (aO h fun⟨a1,a2⟩ h=> ?_))))
    refine dg tT mX ⟨[(k0 a),(k1 b),(5,(vI i)),(25,(vB (!((at' a i.toNat)==(at' b i.toNat)))))],[]⟩ [_,_] {} [] ⟨a1,a2,trivial⟩ ?_
    refine bI h (fun hb h=> ?_) (fun hb h=> ?_)
    ·refine ct hb ?_
     refine sz tT ⟨[(4,(vB false))],[]⟩ {} [] ?_
     refine aR ?_
     obtain rfl:=oi h
     exact lR bD (bC 0) bG (aW.mk (.inr rfl) (p:=[]) (l:=[(sB false)]) (by kernel_rfl) trivial (dh.refl _) trivial)
    ·refine cf hb ?_
     refine aP (rz tT ⟨[(k0 a),(k1 b),(k2 i)],[]⟩ {} [] ?_)
     obtain rfl:=oi h
     exact lN
   ·refine cf hb1 ?_
    refine aI (fz ⟨[],[]⟩ []) ?_
    refine aX ?_
    obtain rfl:=oi h
    exact lB
  ·clear hy
   cases y with
   |brk z=>
    unfold dA
    refine⟨_, .refl, ?_⟩
    refine sz tT ⟨[(4,(vB true))],[]⟩ {} [] ?_
    refine aR ?_
    obtain rfl:=oi h
    exact rl [(sB true)]
   |ret v=>
    obtain rfl:=oi h
    unfold dA
    intro e st hn ha hR
    cases e with
    |normal=>exact absurd rfl hn
    |exit id=>exact hR
    |goto l=>exact hR
    |ret=>exact hR
    |panic c=>exact hR
    |outgrown=>exact hR
def wB  :Bool→Exit→St→Prop:=
  fun r=>aW TT [.tmp 4] (vB r) []
section
variable (x:Link)
abbrev k6:List CV:=[(cI x.a),(cI x.b),(cI x.kind),(cI x.most),(cI x.fT),(.d (aU none 2 iL.cell x.trip))]
abbrev k5:Ob:=(.cells 53 (k6 x))
abbrev k4:List (Nat × Option Ob):=[(7,some (k5 x))]
end
def AZ (x:Link):Int→St:=
  fun i=> ⟨[(3,(vP 7 0)),(5,(vI i))],(k4 x)⟩
def Ar  :Unit→St:=
  fun _=> ⟨[],[]⟩
def IA (x:Link):(aJ Int (Ex Unit Bool))→Exit→St→Prop:=
  LQ 0 [] (AZ x) Ar wB
section
variable (p:ah) (x:Link) (i:Int)
abbrev k8:DV:=(aU none 4 ay.cell p.racks)
abbrev k7:List CV:=[(cI p.buses),(.d (aU none 5 Source.cell p.sources)),(.d (aU none 6 Link.cell p.links)),(.d (k8 p))]
abbrev k11:DV:=(l8 [(.int .i64 p.buses),(aU none 5 Source.cell p.sources),(aU none 6 Link.cell p.links),(k8 p)] 0)
abbrev k10:TV:=(vD (k11 p))
abbrev k9:Nat × TV:=(2,(k10 p))
abbrev k20:=(bif (decide (x.a<0))then true else(decide (p.buses≤x.a)))
abbrev k19:=(bif (k20 p x)then true else(decide (x.b<0)))
abbrev k18:=(bif (k19 p x)then true else(decide (p.buses≤x.b)))
abbrev k17:=(bif (k18 p x)then true else(decide (x.a=x.b)))
abbrev k16:=(bif (k17 p x)then true else(decide (x.kind<1)))
abbrev k15:=(bif (k16 p x)then true else(decide (3<x.kind)))
abbrev k14:=(bif (k15 p x)then true else(decide (x.most<1)))
abbrev k13:=(bif (k14 p x)then true else(decide (100000<x.most)))
abbrev k12:=(bif (k13 p x)then true else(decide (x.fT<10)))
abbrev k21:=(decide (6<(x.trip.length:Int)))
abbrev k22:=(decide (0<(x.trip.length:Int)))
abbrev k25:=((at' x.trip i.toNat).millis)
abbrev k24:TV:=(vD (l8 [(.int .i64 ((at' x.trip i.toNat).amps)),(.int .i64 (k25 x i))] 0))
abbrev k23:Nat × TV:=(6,(k24 x i))
abbrev k27:=(bif (decide (((at' x.trip i.toNat).amps)<1))then true else(decide (1000000<((at' x.trip i.toNat).amps))))
abbrev k26:=(bif (k27 x i)then true else(decide ((k25 x i)<1)))
abbrev Lr:=(IntKind.wrap .i64 (i - 1))
abbrev TF:=(decide (((at' x.trip i.toNat).amps)≤((at' x.trip ((Lr i).toNat)).amps)))
abbrev k28:=(bif (decide (0<i))then(bif (TF x i)then true else(decide (((at' x.trip ((Lr i).toNat)).millis)≤(k25 x i))))else false)
abbrev k31:=(fQ [(2,(decide (0<i))),(13,(TF x i))])
end
theorem I4 (p:ah) (x:Link) {r:Bool} (h:pK p x=some r):Fn Try.prog 118 [(.agg (k7 p)),(.agg (k6 x))] [] (vB r) []:=by
 refine fN tT Try.func118 rfl rfl fun B=> ?_
 show bn _ _ _ _ _ _ (wB r) _
 unfold pK at h
 refine sz tT ⟨[(k9 p),(3,(vP 7 0))],(k4 x)⟩ {fr:=[(0,6),(1,7)] } [6] ?_
 refine aQ (sg tT ⟨[(3,(vP 7 0)),(65,(vB (bif (k12 p x)then true else(decide (100000<x.fT)))))],(k4 x)⟩ (eqs (decide (x.a<0)) 6 (eqs (k20 p x) 4 (eqs (k19 p x) 6 (eqs (k18 p x) 6 (eqs (k17 p x) 4 (eqs (k16 p x) 4 (eqs (k15 p x) 4 (eqs (k14 p x) 4 (eqs (k13 p x) 4 (eqs (k12 p x) 4 [])))))))))) {yb:=[(3,(decide (x.a<0))),(10,(k20 p x)),(15,(k19 p x)),(22,(k18 p x)),(29,(k17 p x)),(34,(k16 p x)),(39,(k15 p x)),(44,(k14 p x)),(49,(k13 p x)),(54,(k12 p x))] } [] (ae (ae (ae (ae (ae (ae (ae (ae (ae (ae trivial)))))))))) ?_)
 refine bI h (fun hb4 h=> ?_) (fun hb4 h=> ?_)
 ·refine ct hb4 ?_
  refine sz tT ⟨[(4,(vB false))],[]⟩ {} [] ?_
  refine aR ?_
  obtain rfl:=oi h
  exact rl [(sB false)]
 ·refine cf hb4 ?_
  refine aP (aQ (sg tT ⟨[(3,(vP 7 0)),(80,(vB (bif (k21 x)then true else(bif (k22 x)then(!decide (x.kind=3))else false))))],(k4 x)⟩ (eqs (k21 x) 5 (eqs (k22 x) 3 [(k21 x)=(k21 x),gP (fQ [(4,(k21 x)),(9,(k22 x))]) [(4,false)]→All [(k22 x)=(k22 x)],(k21 x)=(k21 x)])) {yb:=[(4,(k21 x)),(9,(k22 x))] } [] (ae (ae ⟨rfl,(fun hg=> ⟨rfl,trivial⟩),rfl,trivial⟩)) ?_))
  refine bI h (fun hb3 h=> ?_) (fun hb3 h=> ?_)
  ·refine ct hb3 ?_
   refine sz tT ⟨[(4,(vB false))],[]⟩ {} [] ?_
   refine aR ?_
   obtain rfl:=oi h
   exact rl [(sB false)]
  ·refine cf hb3 ?_
   refine aP (aQ (sz tT ⟨[(3,(vP 7 0)),(5,(vI 0))],(k4 x)⟩ {} [] ?_))
   refine bE h fun y hy h=> ?_
   refine aL [] (AZ x) Ar wB hy (fun s f h=> ?_) ?_
   ·clear hy
    show bn _ _ _ _ _ _ ((IA x) f) _
    unfold kJ at h
    obtain⟨i,rfl⟩: ∃q,q=s:=⟨_,rfl⟩
    refine aQ (sz tT ⟨[(3,(vP 7 0)),(5,(vI i)),(85,(vB (decide (i<(x.trip.length:Int)))))],(k4 x)⟩ {} [] ?_)
    refine bI h (fun hb2 h=> ?_) (fun hb2 h=> ?_)
    ·refine ct hb2 ?_
     refine aP (aQ (aB (aQ (aO h fun a1 h=> ?_))))
     refine rg tT ⟨[(3,(vP 7 0)),(5,(vI i)),(k23 x i)],(k4 x)⟩ [_] {fr:=[(5,11)] } [11] ⟨a1,trivial⟩ ?_
     refine aQ (sg tT ⟨[(3,(vP 7 0)),(5,(vI i)),(k23 x i),(110,(vB (bif (k26 x i)then true else(decide (100000<(k25 x i))))))],(k4 x)⟩ (eqs (decide (((at' x.trip i.toNat).amps)<1)) 4 (eqs (k27 x i) 4 (eqs (k26 x i) 4 []))) {yb:=[(3,(decide (((at' x.trip i.toNat).amps)<1))),(8,(k27 x i)),(13,(k26 x i))] } [] (ae (ae (ae trivial))) ?_)
     refine bI h (fun hb1 h=> ?_) (fun hb1 h=> ?_)
     ·refine ct hb1 ?_
      refine sz tT ⟨[(4,(vB false))],[]⟩ {} [] ?_
      refine aR ?_
      obtain rfl:=oi h
      exact lR bD (bC 0) bG (aW.mk (.inr rfl) (p:=[]) (l:=[(sB false)]) (by kernel_rfl) trivial (dh.refl _) trivial)
     ·refine cf hb1 ?_
      refine aP (aQ (aO h fun⟨a1,a2⟩ h=> ?_))
      refine dg tT mX ⟨[(3,(vP 7 0)),(5,(vI i)),(136,(vB (k28 x i)))],(k4 x)⟩ (eqs (decide (0<i)) 5 ((gP (k31 x i) [(2,true)]→All [(0:Int)≤(Lr i)∧(Lr i)<(x.trip.length:Int)])::(eqs (decide (0<i)) 6 (eqs (TF x i) 5 ((gP (k31 x i) [(13,false),(2,true)]→All [(0:Int)≤(Lr i)∧(Lr i)<(x.trip.length:Int)])::(eqs (TF x i) 5 [(decide (0<i))=(decide (0<i)),gP (k31 x i) [(2,true)]→All [(TF x i)=(TF x i)],(decide (0<i))=(decide (0<i))])))))) {yb:=[(2,(decide (0<i))),(13,(TF x i))] } [] (ae ⟨(fun hg=> ⟨(a1 (aM hg)),trivial⟩),(ae (ae ⟨(fun hg=> ⟨(a2 (aM hg)),trivial⟩),(ae ⟨rfl,(fun hg=> ⟨rfl,trivial⟩),rfl,trivial⟩)⟩))⟩) ?_
      refine bI h (fun hb h=> ?_) (fun hb h=> ?_)
      ·refine ct hb ?_
       refine sz tT ⟨[(4,(vB false))],[]⟩ {} [] ?_
       refine aR ?_
       obtain rfl:=oi h
       exact lR bD (bC 0) bG (aW.mk (.inr rfl) (p:=[]) (l:=[(sB false)]) (by kernel_rfl) trivial (dh.refl _) trivial)
      ·refine cf hb ?_
       refine aP (rz tT ⟨[(3,(vP 7 0)),(k2 i)],(k4 x)⟩ {} [] ?_)
       obtain rfl:=oi h
       exact lN
    ·refine cf hb2 ?_
     refine aI (fz ⟨[],[]⟩ []) ?_
     refine aX ?_
     obtain rfl:=oi h
     exact lB
   ·clear hy
    cases y with
    |brk z=>
     unfold dA
     refine⟨_, .refl, ?_⟩
     refine sz tT ⟨[(4,(vB true))],[]⟩ {} [] ?_
     refine aR ?_
     obtain rfl:=oi h
     exact rl [(sB true)]
    |ret v=>
     obtain rfl:=oi h
     unfold dA
     intro e st hn ha hR
     cases e with
     |normal=>exact absurd rfl hn
     |exit id=>exact hR
     |goto l=>exact hR
     |ret=>exact hR
     |panic c=>exact hR
     |outgrown=>exact hR
def gN  :Int→Exit→St→Prop:=
  fun r=>aW TT [.tmp 2] (vI r) []
section
variable (p:ah)
abbrev YV:Ob:=(.cells 26 (k7 p))
abbrev Gt:List (Nat × Option Ob):=[(9,some (YV p))]
end
def zO (p:ah):Int→St:=
  fun i=> ⟨[(1,(vP 9 0)),(3,(vI i))],(Gt p)⟩
section
variable (p:ah)
abbrev k34:St:=⟨[(1,(vP 9 0))],(Gt p)⟩
end
def zK (p:ah):Unit→St:=
  fun _=>(k34 p)
def GR (p:ah):(aJ Int (Ex Unit Int))→Exit→St→Prop:=
  LQ 0 [] (zO p) (zK p) gN
def yU (p:ah):Int→St:=
  fun i1=> ⟨[(1,(vP 9 0)),(5,(vI i1))],(Gt p)⟩
def zL (p:ah):Unit→St:=
  fun _=>(k34 p)
def GU (p:ah):(aJ Int (Ex Unit Int))→Exit→St→Prop:=
  LQ 2 [] (yU p) (zL p) gN
def zi (p:ah):Int→St:=
  fun i2=> ⟨[(1,(vP 9 0)),(6,(vI i2))],(Gt p)⟩
def zN  :Unit→St:=
  fun _=> ⟨[],[]⟩
def GI (p:ah):(aJ Int (Ex Unit Int))→Exit→St→Prop:=
  LQ 4 [] (zi p) zN gN
section
variable (p:ah) (i:Int) (i1:Int) (i2:Int)
abbrev k35:List SV:=[(.agg (k7 p))]
abbrev k36:TV:=(vB (decide (i<(p.sources.length:Int))))
abbrev XM:=((at' p.sources i.toNat).bus)
abbrev YM:=((at' p.sources i.toNat).power)
abbrev k37:TV:=(vD (l8 [(.int .i64 (XM p i)),(.int .i64 ((at' p.sources i.toNat).kind)),(.int .i64 (YM p i)),(.int .i64 ((at' p.sources i.toNat).sync)),(.int .i64 ((at' p.sources i.toNat).fT))] 0))
abbrev k47:=(bif (decide ((XM p i)<0))then true else(decide (p.buses≤(XM p i))))
abbrev k46:=(bif (k47 p i)then true else(decide (((at' p.sources i.toNat).kind)<1)))
abbrev k45:=(bif (k46 p i)then true else(decide (3<((at' p.sources i.toNat).kind))))
abbrev k44:=(bif (k45 p i)then true else(decide ((YM p i)<1)))
abbrev k43:=(bif (k44 p i)then true else(decide (100000<(YM p i))))
abbrev k42:=(bif (k43 p i)then true else(decide (((at' p.sources i.toNat).sync)<0)))
abbrev k41:=(bif (k42 p i)then true else(decide (8<((at' p.sources i.toNat).sync))))
abbrev k40:=(bif (k41 p i)then true else(decide (((at' p.sources i.toNat).fT)<10)))
abbrev k48:TV:=(vB (decide (i1<(p.links.length:Int))))
abbrev KZ:=((at' p.racks i2.toNat).feeds)
abbrev R9:=((KZ p i2).e0)
abbrev Sd:=((KZ p i2).e1)
abbrev R3:=((at' p.racks i2.toNat).power)
abbrev k50:TV:=(vD (l8 [(.int .i64 (R9 p i2)),(.int .i64 (Sd p i2)),(.int .i64 (R3 p i2)),(.int .i64 ((at' p.racks i2.toNat).paths))] 0))
abbrev k49:Nat × TV:=(7,(k50 p i2))
abbrev k55:Nat × TV:=(8,(vI (R9 p i2)))
abbrev k56:Nat × TV:=(9,(vI (Sd p i2)))
abbrev k64:=(decide ((R9 p i2)<0))
abbrev k63:=(bif (k64 p i2)then true else(decide (p.buses≤(R9 p i2))))
abbrev k62:=(bif (k63 p i2)then true else(decide ((Sd p i2)<(-1))))
abbrev k61:=(bif (k62 p i2)then true else(decide (p.buses≤(Sd p i2))))
abbrev k60:=(bif (k61 p i2)then true else(decide ((R9 p i2)=(Sd p i2))))
abbrev k59:=(bif (k60 p i2)then true else(decide ((R3 p i2)<1)))
abbrev k58:=(bif (k59 p i2)then true else(decide (100000<(R3 p i2))))
abbrev k57:=(bif (k58 p i2)then true else(decide (((at' p.racks i2.toNat).paths)<0)))
abbrev k65:=(eqs (k64 p i2) 5 (eqs (k63 p i2) 3 (eqs (k62 p i2) 5 (eqs (k61 p i2) 4 (eqs (k60 p i2) 4 (eqs (k59 p i2) 4 (eqs (k58 p i2) 4 (eqs (k57 p i2) 5 []))))))))
abbrev k66:St:=⟨[(1,(vP 9 0)),(6,(k3 i2))],(Gt p)⟩
end
theorem Hw (p:ah) {r:Int} (h:nP p=some r):Fn Try.prog 71 (k35 p) [] (vI r) []:=by
 refine fN tT Try.func71 rfl rfl fun B=> ?_
 show bn _ _ _ _ _ _ (gN r) _
 unfold nP at h
 refine sz tT (k34 p) {fr:=[(0,9)] } [] ?_
 refine aQ (sg tT ⟨[(1,(vP 9 0)),(18,(vB (bif (decide (p.buses<1))then true else(decide (24<p.buses)))))],(Gt p)⟩ (eqs (decide (p.buses<1)) 4 []) {yb:=[(3,(decide (p.buses<1)))] } [] (ae trivial) ?_)
 refine bI h (fun hb11 h=> ?_) (fun hb11 h=> ?_)
 ·refine ct hb11 ?_
  refine sz tT ⟨[(2,(vI 10))],[]⟩ {} [] ?_
  refine aR ?_
  obtain rfl:=oi h
  exact rl [(sI 10)]
 ·refine cf hb11 ?_
  refine aP (aQ (sz tT ⟨[(1,(vP 9 0)),(22,(vB (decide (8<(p.sources.length:Int)))))],(Gt p)⟩ {} [] ?_))
  refine bI h (fun hb10 h=> ?_) (fun hb10 h=> ?_)
  ·refine ct hb10 ?_
   refine sz tT ⟨[(2,(vI 11))],[]⟩ {} [] ?_
   refine aR ?_
   obtain rfl:=oi h
   exact rl [(sI 11)]
  ·refine cf hb10 ?_
   refine aP (aQ (sz tT ⟨[(1,(vP 9 0)),(3,(vI 0))],(Gt p)⟩ {} [] ?_))
   refine bE h fun y hy h=> ?_
   refine aL [] (zO p) (zK p) gN hy (fun s f h=> ?_) ?_
   ·clear hy
    show bn _ _ _ _ _ _ ((GR p) f) _
    unfold jS at h
    obtain⟨i,rfl⟩: ∃q,q=s:=⟨_,rfl⟩
    refine aQ (sz tT ⟨[(1,(vP 9 0)),(3,(vI i)),(27,(k36 p i))],(Gt p)⟩ {} [] ?_)
    refine bI h (fun hb1 h=> ?_) (fun hb1 h=> ?_)
    ·refine ct hb1 ?_
     refine aP (aQ (aB (aQ (aO h fun a1 h=> ?_))))
     refine rg tT ⟨[(1,(vP 9 0)),(3,(vI i)),(4,(k37 p i))],(Gt p)⟩ [_] {fr:=[(5,13)] } [13] ⟨a1,trivial⟩ ?_
     refine sg tT ⟨[(1,(vP 9 0)),(3,(vI i)),(84,(vB (bif (k40 p i)then true else(decide (100000<((at' p.sources i.toNat).fT))))))],(Gt p)⟩ (eqs (decide ((XM p i)<0)) 6 (eqs (k47 p i) 4 (eqs (k46 p i) 4 (eqs (k45 p i) 4 (eqs (k44 p i) 4 (eqs (k43 p i) 4 (eqs (k42 p i) 4 (eqs (k41 p i) 4 (eqs (k40 p i) 4 []))))))))) {yb:=[(3,(decide ((XM p i)<0))),(10,(k47 p i)),(15,(k46 p i)),(20,(k45 p i)),(25,(k44 p i)),(30,(k43 p i)),(35,(k42 p i)),(40,(k41 p i)),(45,(k40 p i))] } [] (ae (ae (ae (ae (ae (ae (ae (ae (ae trivial))))))))) ?_
     refine bI h (fun hb h=> ?_) (fun hb h=> ?_)
     ·refine ct hb ?_
      refine sz tT ⟨[(2,(vI 11))],[]⟩ {} [] ?_
      refine aR ?_
      obtain rfl:=oi h
      exact lR bD (bC 0) bG (aW.mk (.inr rfl) (p:=[]) (l:=[(sI 11)]) (by kernel_rfl) trivial (dh.refl _) trivial)
     ·refine cf hb ?_
      refine aP (rz tT ⟨[(1,(vP 9 0)),(3,(k3 i))],(Gt p)⟩ {} [] ?_)
      obtain rfl:=oi h
      exact lN
    ·refine cf hb1 ?_
     refine aI (fz (k34 p) []) ?_
     refine aX ?_
     obtain rfl:=oi h
     exact lB
   ·clear hy
    cases y with
    |brk z=>
     unfold dA
     refine⟨_, .refl, ?_⟩
     refine aQ (sz tT ⟨[(1,(vP 9 0)),(88,(vB (decide (40<(p.links.length:Int)))))],(Gt p)⟩ {} [] ?_)
     refine bI h (fun hb9 h=> ?_) (fun hb9 h=> ?_)
     ·refine ct hb9 ?_
      refine sz tT ⟨[(2,(vI 12))],[]⟩ {} [] ?_
      refine aR ?_
      obtain rfl:=oi h
      exact rl [(sI 12)]
     ·refine cf hb9 ?_
      refine aP (aQ (sz tT ⟨[(1,(vP 9 0)),(5,(vI 0))],(Gt p)⟩ {} [] ?_))
      refine bE h fun y1 hy h=> ?_
      refine aL [] (yU p) (zL p) gN hy (fun s f h=> ?_) ?_
      ·clear hy
       show bn _ _ _ _ _ _ ((GU p) f) _
       unfold jW at h
       obtain⟨i1,rfl⟩: ∃q,q=s:=⟨_,rfl⟩
       refine aQ (sz tT ⟨[(1,(vP 9 0)),(5,(vI i1)),(93,(k48 p i1))],(Gt p)⟩ {} [] ?_)
       refine bI h (fun hb3 h=> ?_) (fun hb3 h=> ?_)
       ·refine ct hb3 ?_
        refine aP (aQ (aB (aQ (bE h fun r_ hr_ h=> ?_))))
        refine aO h fun a1 h=> ?_
        have q1:=I4 p (at' p.links i1.toNat) hr_
        refine dg tT mX ⟨[(1,(vP 9 0)),(5,(vI i1)),(103,(vB (!r_)))],(Gt p)⟩ [_,_] {an:=[(6,cA q1 [])] } [] ⟨a1,q1,trivial⟩ ?_
        refine bI h (fun hb2 h=> ?_) (fun hb2 h=> ?_)
        ·refine ct hb2 ?_
         refine sz tT ⟨[(2,(vI 12))],[]⟩ {} [] ?_
         refine aR ?_
         obtain rfl:=oi h
         exact lR bD (bC 2) bG (aW.mk (.inr rfl) (p:=[]) (l:=[(sI 12)]) (by kernel_rfl) trivial (dh.refl _) trivial)
        ·refine cf hb2 ?_
         refine aP (rz tT ⟨[(1,(vP 9 0)),(k2 i1)],(Gt p)⟩ {} [] ?_)
         obtain rfl:=oi h
         exact lN
       ·refine cf hb3 ?_
        refine aI (fz (k34 p) []) ?_
        refine aX ?_
        obtain rfl:=oi h
        exact lB
      ·clear hy
       cases y1 with
       |brk z=>
        unfold dA
        refine⟨_, .refl, ?_⟩
        refine aQ (sz tT ⟨[(1,(vP 9 0)),(107,(vB (decide (24<(p.racks.length:Int)))))],(Gt p)⟩ {} [] ?_)
        refine bI h (fun hb8 h=> ?_) (fun hb8 h=> ?_)
        ·refine ct hb8 ?_
         refine sz tT ⟨[(2,(vI 13))],[]⟩ {} [] ?_
         refine aR ?_
         obtain rfl:=oi h
         exact rl [(sI 13)]
        ·refine cf hb8 ?_
         refine aP (aQ (sz tT ⟨[(1,(vP 9 0)),(6,(vI 0))],(Gt p)⟩ {} [] ?_))
         refine bE h fun y2 hy h=> ?_
         refine aL [] (zi p) zN gN hy (fun s f h=> ?_) ?_
         ·clear hy
          show bn _ _ _ _ _ _ ((GI p) f) _
          unfold jK at h
          obtain⟨i2,rfl⟩: ∃q,q=s:=⟨_,rfl⟩
          refine aQ (sz tT ⟨[(1,(vP 9 0)),(6,(vI i2)),(112,(vB (decide (i2<(p.racks.length:Int)))))],(Gt p)⟩ {} [] ?_)
          refine bI h (fun hb7 h=> ?_) (fun hb7 h=> ?_)
          ·refine ct hb7 ?_
           refine aP (aQ (aB (aQ (aO h fun a1 h=> ?_))))
           refine rg tT ⟨[(1,(vP 9 0)),(6,(vI i2)),(k49 p i2)],(Gt p)⟩ [_] {fr:=[(5,17)] } [17] ⟨a1,trivial⟩ ?_
           refine sd tT mX ⟨[(1,(vP 9 0)),(6,(vI i2)),(k49 p i2),(k55 p i2),(k56 p i2)],(Gt p)⟩ [(0:Int)≤0∧(0:Int)<(2:Nat),(0:Int)≤1∧(1:Int)<(2:Nat)] {} [] ⟨((by decide)),((by decide)),trivial⟩ ?_
           refine sz tT ⟨[(1,(vP 9 0)),(6,(vI i2)),(k49 p i2),(k55 p i2),(k56 p i2),(10,(vI 2))],(Gt p)⟩ {} [] ?_
           refine aQ (sz tT ⟨[(1,(vP 9 0)),(6,(vI i2)),(k49 p i2),(k55 p i2),(k56 p i2),(10,(vI 2)),(127,(vB (decide ((Sd p i2)=(-1)))))],(Gt p)⟩ {} [] ?_)
           refine bI h (fun hb6 h=> ?_) (fun hb6 h=> ?_)
           ·refine ct hb6 ?_
            refine rz tT ⟨[(1,(vP 9 0)),(6,(vI i2)),(k49 p i2),(k55 p i2),(k56 p i2),(10,(vI 1))],(Gt p)⟩ {} [] ?_
            refine sg tT ⟨[(1,(vP 9 0)),(6,(vI i2)),(171,(vB (bif (k57 p i2)then true else(decide (1<((at' p.racks i2.toNat).paths))))))],(Gt p)⟩ (k65 p i2) {yb:=[(2,(k64 p i2)),(8,(k63 p i2)),(12,(k62 p i2)),(18,(k61 p i2)),(23,(k60 p i2)),(28,(k59 p i2)),(33,(k58 p i2)),(38,(k57 p i2))] } [] (ae (ae (ae (ae (ae (ae (ae (ae trivial)))))))) ?_
            refine bI h (fun hb4 h=> ?_) (fun hb4 h=> ?_)
            ·refine ct hb4 ?_
             refine sz tT ⟨[(2,(vI 13))],[]⟩ {} [] ?_
             refine aR ?_
             obtain rfl:=oi h
             exact lR bD (bC 4) bG (aW.mk (.inr rfl) (p:=[]) (l:=[(sI 13)]) (by kernel_rfl) trivial (dh.refl _) trivial)
            ·refine cf hb4 ?_
             refine aP (rz tT (k66 p i2) {} [] ?_)
             obtain rfl:=oi h
             exact lN
           ·refine cf hb6 ?_
            refine aP (sg tT ⟨[(1,(vP 9 0)),(6,(vI i2)),(171,(vB (bif (k57 p i2)then true else(decide (2<((at' p.racks i2.toNat).paths))))))],(Gt p)⟩ (k65 p i2) {yb:=[(2,(k64 p i2)),(8,(k63 p i2)),(12,(k62 p i2)),(18,(k61 p i2)),(23,(k60 p i2)),(28,(k59 p i2)),(33,(k58 p i2)),(38,(k57 p i2))] } [] (ae (ae (ae (ae (ae (ae (ae (ae trivial)))))))) ?_)
            refine bI h (fun hb5 h=> ?_) (fun hb5 h=> ?_)
            ·refine ct hb5 ?_
             refine sz tT ⟨[(2,(vI 13))],[]⟩ {} [] ?_
             refine aR ?_
             obtain rfl:=oi h
             exact lR bD (bC 4) bG (aW.mk (.inr rfl) (p:=[]) (l:=[(sI 13)]) (by kernel_rfl) trivial (dh.refl _) trivial)
            ·refine cf hb5 ?_
             refine aP (rz tT (k66 p i2) {} [] ?_)
             obtain rfl:=oi h
             exact lN
          ·refine cf hb7 ?_
           refine aI (fz ⟨[],[]⟩ []) ?_
           refine aX ?_
           obtain rfl:=oi h
           exact lB
         ·clear hy
          cases y2 with
          |brk z=>
           unfold dA
           refine⟨_, .refl, ?_⟩
           refine sz tT ⟨[(2,(vI 0))],[]⟩ {} [] ?_
           refine aR ?_
           obtain rfl:=oi h
           exact rl [(sI 0)]
          |ret v=>
           obtain rfl:=oi h
           unfold dA
           intro e st hn ha hR
           cases e with
           |normal=>exact absurd rfl hn
           |exit id=>exact hR
           |goto l=>exact hR
           |ret=>exact hR
           |panic c=>exact hR
           |outgrown=>exact hR
       |ret v=>
        obtain rfl:=oi h
        unfold dA
        intro e st hn ha hR
        cases e with
        |normal=>exact absurd rfl hn
        |exit id=>exact hR
        |goto l=>exact hR
        |ret=>exact hR
        |panic c=>exact hR
        |outgrown=>exact hR
    |ret v=>
     obtain rfl:=oi h
     unfold dA
     intro e st hn ha hR
     cases e with
     |normal=>exact absurd rfl hn
     |exit id=>exact hR
     |goto l=>exact hR
     |ret=>exact hR
     |panic c=>exact hR
     |outgrown=>exact hR
def GD  :Bool→Exit→St→Prop:=
  fun r=>aW TT [.tmp 6] (vB r) []
theorem aY (n:Int) (u0:Int) (u1:Int) {r:Bool} (h:aZ n u0 u1=some r):Fn Try.prog 94 [(sI n),(sI u0),(sI u1)] [] (vB r) []:=by
 refine fN tT Try.func94 rfl rfl fun B=> ?_
 show bn _ _ _ _ _ _ (GD r) _
 unfold aZ at h
 refine sz tT ⟨[(0,(vI n)),(1,(vI u0)),(2,(vI u1))],[]⟩ {} [] ?_
 refine sg tT ⟨[(6,(vB (bif (decide (u0≤n))then(decide (n≤u1))else false)))],[]⟩ (eqs (decide (u0≤n)) 4 []) {yb:=[(3,(decide (u0≤n)))] } [] (ae trivial) ?_
 refine aR ?_
 obtain rfl:=oi h
 exact rl [(sB (bif (decide (u0≤n))then(decide (n≤u1))else false))]
def Gv  :(Int × (List Source) × (List Link) × (List ay))→Exit→St→Prop:=
  fun r=>aW TT [.tmp 2] (vD (.fn 135 1 (nV [(l8 [(.int .i64 r.1),(aU none 5 Source.cell r.2.1),(aU none 6 Link.cell r.2.2.1),(aU none 4 ay.cell r.2.2.2)] 0)]))) []
section
variable (p:ah)
abbrev k68:Nat × TV:=(1,(k10 p))
abbrev k67:St:=⟨[(k68 p)],[]⟩
abbrev k69:=(nV [(k11 p)])
end
theorem Fv (p:ah) {r:(Int × (List Source) × (List Link) × (List ay))} (h:o9 p=some r):Fn Try.prog 96 (k35 p) [] (vD (.fn 135 1 (nV [(l8 [(.int .i64 r.1),(aU none 5 Source.cell r.2.1),(aU none 6 Link.cell r.2.2.1),(aU none 4 ay.cell r.2.2.2)] 0)]))) []:=by
 refine fN tT Try.func96 rfl rfl fun B=> ?_
 show bn _ _ _ _ _ _ (Gv r) _
 unfold o9 at h
 refine sz tT (k67 p) {fr:=[(0,1)] } [1] ?_
 refine sz tT ⟨[(2,(vD (.fn 135 1 (k69 p))))],[]⟩ {} [] ?_
 refine aR ?_
 obtain rfl:=oi h
 exact rl [(sD (.fn 135 1 (k69 p)))]
def J4  :(Int × (List Source) × (List Link) × (List ay))→Exit→St→Prop:=
  fun r=>aW TT [.tmp 2] (vD (.fn 138 1 (nV [(l8 [(.int .i64 r.1),(aU none 5 Source.cell r.2.1),(aU none 6 Link.cell r.2.2.1),(aU none 4 ay.cell r.2.2.2)] 0)]))) []
theorem Ji (p:ah) {r:(Int × (List Source) × (List Link) × (List ay))} (h:uY p=some r):Fn Try.prog 98 (k35 p) [] (vD (.fn 138 1 (nV [(l8 [(.int .i64 r.1),(aU none 5 Source.cell r.2.1),(aU none 6 Link.cell r.2.2.1),(aU none 4 ay.cell r.2.2.2)] 0)]))) []:=by
 refine fN tT Try.func98 rfl rfl fun B=> ?_
 show bn _ _ _ _ _ _ (J4 r) _
 unfold uY at h
 refine sz tT (k67 p) {fr:=[(0,1)] } [1] ?_
 refine sz tT ⟨[(2,(vD (.fn 138 1 (k69 p))))],[]⟩ {} [] ?_
 refine aR ?_
 obtain rfl:=oi h
 exact rl [(sD (.fn 138 1 (k69 p)))]
def KT  :(Int × (List Source) × (List Link) × (List ay))→Exit→St→Prop:=
  fun r=>aW TT [.tmp 2] (vD (.fn 141 1 (nV [(l8 [(.int .i64 r.1),(aU none 5 Source.cell r.2.1),(aU none 6 Link.cell r.2.2.1),(aU none 4 ay.cell r.2.2.2)] 0)]))) []
theorem Jp (p:ah) {r:(Int × (List Source) × (List Link) × (List ay))} (h:uQ p=some r):Fn Try.prog 100 (k35 p) [] (vD (.fn 141 1 (nV [(l8 [(.int .i64 r.1),(aU none 5 Source.cell r.2.1),(aU none 6 Link.cell r.2.2.1),(aU none 4 ay.cell r.2.2.2)] 0)]))) []:=by
 refine fN tT Try.func100 rfl rfl fun B=> ?_
 show bn _ _ _ _ _ _ (KT r) _
 unfold uQ at h
 refine sz tT (k67 p) {fr:=[(0,1)] } [1] ?_
 refine sz tT ⟨[(2,(vD (.fn 141 1 (k69 p))))],[]⟩ {} [] ?_
 refine aR ?_
 obtain rfl:=oi h
 exact rl [(sD (.fn 141 1 (k69 p)))]
def EJ  :Bool→Exit→St→Prop:=
  fun r=>aW TT [.tmp 3] (vB r) []
section
variable (u4:(List Source)) (u6:(List ay)) (x1:Int) (u5:(List Link)) (x:Source) (r_:Bool) (u0:Bool) (u1:Bool) (u2:Bool)
abbrev Z4:DV:=(aU none 5 Source.cell u4)
abbrev VZ:DV:=(aU none 4 ay.cell u6)
abbrev k70:DV:=(l8 [(.int .i64 x1),(Z4 u4),(aU none 6 Link.cell u5),(VZ u6)] 0)
abbrev MB:Nat × TV:=(1,(vD (k70 u4 u6 x1 u5)))
abbrev k74:Nat × TV:=(2,(vD (l8 [(.int .i64 x.bus),(.int .i64 x.kind),(.int .i64 x.power),(.int .i64 x.sync),(.int .i64 x.fT)] 0)))
abbrev XO:=(bif r_ then u0 else false)
abbrev k76:=(bif (XO r_ u0)then u1 else false)
abbrev k75:=(bif (k76 r_ u0 u1)then u2 else false)
abbrev k78:=(fQ [(6,r_),(11,(XO r_ u0)),(16,(k76 r_ u0 u1)),(21,(k75 r_ u0 u1 u2))])
end
theorem CB (x:Source) (x1:Int) (u4:(List Source)) (u5:(List Link)) (u6:(List ay)) {r:Bool} (h:jE x x1 u4 u5 u6=some r):Fn Try.prog 135 [(.agg [(cI x.bus),(cI x.kind),(cI x.power),(cI x.sync),(cI x.fT)]),(sD (k70 u4 u6 x1 u5))] [] (vB r) []:=by
 refine fN tT Try.func135 rfl rfl fun B=> ?_
 show bn _ _ _ _ _ _ (EJ r) _
 unfold jE at h
 refine sz tT ⟨[(MB u4 u6 x1 u5),(k74 x)],[]⟩ {fr:=[(0,1)] } [1] ?_
 refine aQ (bE h fun r_ hr_ h=> ?_)
 refine bE h fun u0 hr_1 h=> ?_
 refine bE h fun u1 hr_2 h=> ?_
 refine bE h fun u2 hr_3 h=> ?_
 refine bE h fun u3 hr_4 h=> ?_
 have q0:=aY x.bus 0 (Lr x1) hr_
 refine rg tT ⟨[(3,(vB (bif (k75 r_ u0 u1 u2)then u3 else false)))],[]⟩ (_::(eqs r_ 3 ((gP (k78 r_ u0 u1 u2) [(6,true)]→All [Fn Try.prog 94 [(sI x.kind),(sI 1),(sI 3)] [] (vB u0) []])::(r_=r_)::(eqs (XO r_ u0) 3 ((gP (k78 r_ u0 u1 u2) [(11,true)]→All [Fn Try.prog 94 [(sI x.power),(sI 1),(sI 100000)] [] (vB u1) []])::((XO r_ u0)=(XO r_ u0))::(eqs (k76 r_ u0 u1) 3 ((gP (k78 r_ u0 u1 u2) [(16,true)]→All [Fn Try.prog 94 [(sI x.sync),(sI 0),(sI 8)] [] (vB u2) []])::((k76 r_ u0 u1)=(k76 r_ u0 u1))::(eqs (k75 r_ u0 u1 u2) 3 [gP (k78 r_ u0 u1 u2) [(21,true)]→All [Fn Try.prog 94 [(sI x.fT),(sI 10),(sI 100000)] [] (vB u3) []],(k75 r_ u0 u1 u2)=(k75 r_ u0 u1 u2)])))))))) {yb:=[(6,r_),(11,(XO r_ u0)),(16,(k76 r_ u0 u1)),(21,(k75 r_ u0 u1 u2))],an:=[(5,cA q0 []),(9, .call [] (vB u0) []),(14, .call [] (vB u1) []),(19, .call [] (vB u2) []),(24, .call [] (vB u3) [])] } [] ⟨q0,(ae ⟨(fun hg=> ⟨(aY x.kind 1 3 (dU hr_1 (aM hg))),trivial⟩),rfl,(ae ⟨(fun hg=> ⟨(aY x.power 1 100000 (dU hr_2 (aM hg))),trivial⟩),rfl,(ae ⟨(fun hg=> ⟨(aY x.sync 0 8 (dU hr_3 (aM hg))),trivial⟩),rfl,(ae ⟨(fun hg=> ⟨(aY x.fT 10 100000 (dU hr_4 (aM hg))),trivial⟩),rfl,trivial⟩)⟩)⟩)⟩)⟩ ?_
 refine aR ?_
 obtain rfl:=oi h
 exact rl [(sB (bif (k75 r_ u0 u1 u2)then u3 else false))]
def Hy  :Bool→Exit→St→Prop:=
  fun r=>aW TT [.tmp 3] (vB r) []
section
variable (x1:Int) (u0:(List Source)) (u1:(List Link)) (u2:(List ay))
abbrev k80:=(nV [(k70 u0 u2 x1 u1)])
abbrev k79:DV:=(l8 [(.fn 135 1 (k80 x1 u0 u1 u2))] 0)
abbrev k81:TV:=(vD (k79 x1 u0 u1 u2))
end
theorem Fq (x:Source) (x1:Int) (u0:(List Source)) (u1:(List Link)) (u2:(List ay)) {r:Bool} (h:pM x x1 u0 u1 u2=some r):Fn Try.prog 134 [(.agg [(cI x.bus),(cI x.kind),(cI x.power),(cI x.sync),(cI x.fT)]),(sD (k79 x1 u0 u1 u2))] [] (vB r) []:=by
 refine fN tT Try.func134 rfl rfl fun B=> ?_
 show bn _ _ _ _ _ _ (Hy r) _
 unfold pM at h
 refine sz tT ⟨[(1,(k81 x1 u0 u1 u2)),(k74 x)],[]⟩ {fr:=[(0,1)] } [1] ?_
 refine aQ (bE h fun r_ hr_ h=> ?_)
 have q0:=CB x x1 u0 u1 u2 hr_
 refine rg tT ⟨[(3,(vB (!r_)))],[]⟩ [_] {an:=[(2,cA q0 [])] } [] ⟨q0,trivial⟩ ?_
 refine aR ?_
 obtain rfl:=oi h
 exact rl [(sB (!r_))]
def mU  :Int→Exit→St→Prop:=
  fun r=>aW TT [.tmp 4] (vI r) []
section
variable (s_:(List Source)) (f_:Int) (u0:(List Source)) (u1:(List Link)) (u2:(List ay))
abbrev Z8:Nat × TV:=(0,(vD (Z4 s_)))
abbrev k84:=(nV [(k79 f_ u0 u1 u2)])
abbrev k83:Nat × TV:=(1,(vD (.fn 134 1 (k84 f_ u0 u1 u2))))
abbrev k85:Nat × TV:=(7,(vI (s_.length:Int)))
end
def qy (s_:(List Source)) (f_:Int) (u0:(List Source)) (u1:(List Link)) (u2:(List ay)):Int→St:=
  fun t8=> ⟨[(Z8 s_),(k83 f_ u0 u1 u2),(k85 s_),(8,(vI t8))],[]⟩
def qD  :Unit→St:=
  fun _=> ⟨[],[]⟩
def Bf (s_:(List Source)) (f_:Int) (u0:(List Source)) (u1:(List Link)) (u2:(List ay)):(aJ Int (Ex Unit Int))→Exit→St→Prop:=
  LQ 0 [] (qy s_ f_ u0 u1 u2) qD mU
section
variable (s_:(List Source)) (f_:Int) (u0:(List Source)) (u1:(List Link)) (u2:(List ay)) (t8:Int)
abbrev k86:List SV:=[(sD (Z4 s_)),(sD (.fn 134 1 (k84 f_ u0 u1 u2)))]
abbrev k87:St:=⟨[(Z8 s_),(k83 f_ u0 u1 u2)],[]⟩
abbrev Ul:Nat × TV:=(8,(k3 t8))
end
theorem Bg (s_:(List Source)) (f_:Int) (u0:(List Source)) (u1:(List Link)) (u2:(List ay)) {r:Int} (h:ku s_ f_ u0 u1 u2=some r):Fn Try.prog 150 (k86 s_ f_ u0 u1 u2) [] (vI r) []:=by
 refine fN tT Try.func150 rfl rfl fun B=> ?_
 show bn _ _ _ _ _ _ (mU r) _
 unfold ku at h
 refine sz tT (k87 s_ f_ u0 u1 u2) {} [] ?_
 refine aQ (sz tT ⟨[(Z8 s_),(k83 f_ u0 u1 u2),(k85 s_),(8,(vI 0))],[]⟩ {} [] ?_)
 refine bE h fun y hy h=> ?_
 refine aL [] (qy s_ f_ u0 u1 u2) qD mU hy (fun s f h=> ?_) ?_
 ·clear hy
  show bn _ _ _ _ _ _ ((Bf s_ f_ u0 u1 u2) f) _
  unfold iM at h
  obtain⟨t8,rfl⟩: ∃q,q=s:=⟨_,rfl⟩
  refine sz tT ⟨[(Z8 s_),(k83 f_ u0 u1 u2),(k85 s_),(8,(vI t8)),(9,(vB (decide (t8<(s_.length:Int)))))],[]⟩ {} [] ?_
  refine aQ ?_
  refine bI h (fun hb1 h=> ?_) (fun hb1 h=> ?_)
  ·refine ct hb1 ?_
   refine aP (aQ (aB (sz tT ⟨[(Z8 s_),(k83 f_ u0 u1 u2),(5,(vI t8)),(k85 s_),(8,(vI t8))],[]⟩ {} [] ?_)))
   refine aQ (bE h fun r_ hr_ h=> ?_)
   refine aO h fun a1 h=> ?_
   have q1:=Fq (at' s_ t8.toNat) f_ u0 u1 u2 hr_
   refine rg tT ⟨[(Z8 s_),(k83 f_ u0 u1 u2),(5,(vI t8)),(k85 s_),(8,(vI t8)),(16,(vB r_))],[]⟩ [_,_] {an:=[(5,cA q1 [])] } [] ⟨a1,q1,trivial⟩ ?_
   refine bI h (fun hb h=> ?_) (fun hb h=> ?_)
   ·refine ct hb ?_
    refine sz tT ⟨[(4,(vI t8))],[]⟩ {} [] ?_
    refine aR ?_
    obtain rfl:=oi h
    exact lR bD (bC 0) bG (aW.mk (.inr rfl) (p:=[]) (l:=[(sI t8)]) (by kernel_rfl) trivial (dh.refl _) trivial)
   ·refine cf hb ?_
    refine aP (rz tT ⟨[(Z8 s_),(k83 f_ u0 u1 u2),(k85 s_),(Ul t8)],[]⟩ {} [] ?_)
    obtain rfl:=oi h
    exact lN
  ·refine cf hb1 ?_
   refine aI (fz ⟨[],[]⟩ []) ?_
   refine aX ?_
   obtain rfl:=oi h
   exact lB
 ·clear hy
  cases y with
  |brk z=>
   unfold dA
   refine⟨_, .refl, ?_⟩
   refine sz tT ⟨[(4,(vI (-1)))],[]⟩ {} [] ?_
   refine aR ?_
   obtain rfl:=oi h
   exact rl [(sI (-1))]
  |ret v=>
   obtain rfl:=oi h
   unfold dA
   intro e st hn ha hR
   cases e with
   |normal=>exact absurd rfl hn
   |exit id=>exact hR
   |goto l=>exact hR
   |ret=>exact hR
   |panic c=>exact hR
   |outgrown=>exact hR
def y9  :Bool→Exit→St→Prop:=
  fun r=>aW TT [.tmp 4] (vB r) []
section
variable (r_:Int)
abbrev k89:St:=⟨[(4,(vB (decide (0≤r_))))],[]⟩
end
theorem yN (s_:(List Source)) (f_:Int) (u0:(List Source)) (u1:(List Link)) (u2:(List ay)) {r:Bool} (h:fD s_ f_ u0 u1 u2=some r):Fn Try.prog 133 (k86 s_ f_ u0 u1 u2) [] (vB r) []:=by
 refine fN tT Try.func133 rfl rfl fun B=> ?_
 show bn _ _ _ _ _ _ (y9 r) _
 unfold fD at h
 refine sz tT (k87 s_ f_ u0 u1 u2) {} [] ?_
 refine aQ (bE h fun r_ hr_ h=> ?_)
 have q0:=Bg s_ f_ u0 u1 u2 hr_
 refine rg tT (k89 r_) [_] {an:=[(2,cA q0 [])] } [] ⟨q0,trivial⟩ ?_
 refine aR ?_
 obtain rfl:=oi h
 exact rl [(sB (decide (0≤r_)))]
def JZ  :Bool→Exit→St→Prop:=
  fun r=>aW TT [.tmp 6] (vB r) []
theorem IK (l:(List Source)) (u0:Int) (u1:Int) (u2:(List Source)) (u3:(List Link)) (u4:(List ay)) {r:Bool} (h:oV l u0 u1 u2 u3 u4=some r):Fn Try.prog 95 [(sD (Z4 l)),(sI u0),(sD (.fn 135 1 (k80 u1 u2 u3 u4)))] [] (vB r) []:=by
 refine fN tT Try.func95 rfl rfl fun B=> ?_
 show bn _ _ _ _ _ _ (JZ r) _
 unfold oV at h
 refine sz tT ⟨[(Z8 l),(1,(vI u0)),(5,(k81 u1 u2 u3 u4))],[]⟩ {fr:=[(0,1)] } [1] ?_
 refine aQ (bE h fun r_ hr_ h=> ?_)
 refine rg tT ⟨[(6,(vB (bif (decide ((l.length:Int)≤u0))then(!r_)else false)))],[]⟩ (eqs (decide ((l.length:Int)≤u0)) 3 ((gP (fQ [(4,(decide ((l.length:Int)≤u0)))]) [(4,true)]→All [Fn Try.prog 133 (k86 l u1 u2 u3 u4) [] (vB r_) []])::(eqs (decide ((l.length:Int)≤u0)) 2 []))) {yb:=[(4,(decide ((l.length:Int)≤u0)))],an:=[(7, .call [] (vB r_) [])] } [] (ae ⟨(fun hg=> ⟨(yN l u1 u2 u3 u4 (dU hr_ (aM hg))),trivial⟩),(ae trivial)⟩) ?_
 refine aR ?_
 obtain rfl:=oi h
 exact rl [(sB (bif (decide ((l.length:Int)≤u0))then(!r_)else false))]
def qW  :Bool→Exit→St→Prop:=
  fun r=>aW TT [.tmp 3] (vB r) []
section
variable (x:Link)
abbrev ZW:Nat × TV:=(2,(vD (l8 [(.int .i64 x.a),(.int .i64 x.b),(.int .i64 x.kind),(.int .i64 x.most),(.int .i64 x.fT),(aU none 2 iL.cell x.trip)] 0)))
abbrev k91:Nat × TV:=(48,(vD (aU none 2 iL.cell x.trip)))
abbrev k92:Nat × TV:=(49,(vI (x.trip.length:Int)))
end
def xC (x:Link):Int→St:=
  fun u0=> ⟨[(ZW x),(k91 x),(k92 x),(50,(vI u0))],[]⟩
section
variable (x:Link)
abbrev k93:St:=⟨[(ZW x)],[]⟩
end
def xK (x:Link):Unit→St:=
  fun _=>(k93 x)
def FK (x:Link):(aJ Int (Ex Unit Bool))→Exit→St→Prop:=
  LQ 0 [] (xC x) (xK x) qW
section
variable (x:Link) (r_:Bool) (u1:Bool) (u3:Bool) (u5:Bool) (u2:Bool) (u4:Bool) (u0:Int)
abbrev k94:List (Nat × Option Ob):=[(5,some (k5 x))]
abbrev U3:=(bif (!r_)then true else(!u1))
abbrev k97:=(bif (U3 r_ u1)then true else(decide (x.a=x.b)))
abbrev k96:=(bif (k97 x r_ u1)then true else(!u3))
abbrev k95:=(bif (k96 x r_ u1 u3)then true else(!u5))
abbrev k99:=(fQ [(7,(!r_)),(16,(U3 r_ u1)),(23,(k97 x r_ u1)),(29,(k96 x r_ u1 u3)),(35,(k95 x r_ u1 u3 u5))])
abbrev Vg:=(fQ [(4,(!u2)),(10,(U3 u2 u4)),(13,(decide (0<u0))),(24,(TF x u0))])
abbrev P9:=(decide ((x.trip.length:Int)≤6))
abbrev Te:=(decide ((x.trip.length:Int)=0))
abbrev adV:=(bif (P9 x)then(bif (Te x)then true else(decide (x.kind=3)))else false)
end
theorem FH (x:Link) (x1:Int) (u6:(List Source)) (u7:(List Link)) (u8:(List ay)) {r:Bool} (h:mF x x1 u6 u7 u8=some r):Fn Try.prog 138 [(.agg (k6 x)),(sD (k70 u6 u8 x1 u7))] [] (vB r) []:=by
 refine fN tT Try.func138 rfl rfl fun B=> ?_
 show bn _ _ _ _ _ _ (qW r) _
 unfold mF at h
 refine sz tT ⟨[(MB u6 u8 x1 u7),(2,(vP 5 0))],(k94 x)⟩ {fr:=[(0,5)] } [] ?_
 refine aQ (aQ (bE h fun r_ hr_ h=> ?_))
 refine bE h fun u1 hr_1 h=> ?_
 refine bE h fun u3 hr_2 h=> ?_
 refine bE h fun u5 hr_3 h=> ?_
 refine bE h fun u9 hr_4 h=> ?_
 have q0:=aY x.a 0 (Lr x1) hr_
 refine rg tT ⟨[(2,(vP 5 0)),(46,(vB (bif (k95 x r_ u1 u3 u5)then true else(!u9))))],(k94 x)⟩ (_::(eqs (!r_) 6 ((gP (k99 x r_ u1 u3 u5) [(7,false)]→All [Fn Try.prog 94 [(sI x.b),(sI 0),(sI (Lr x1))] [] (vB u1) []])::(eqs (!r_) 2 (eqs (U3 r_ u1) 6 (eqs (k97 x r_ u1) 3 ((gP (k99 x r_ u1 u3 u5) [(23,false)]→All [Fn Try.prog 94 [(sI x.kind),(sI 1),(sI 3)] [] (vB u3) []])::(eqs (k97 x r_ u1) 2 (eqs (k96 x r_ u1 u3) 3 ((gP (k99 x r_ u1 u3 u5) [(29,false)]→All [Fn Try.prog 94 [(sI x.most),(sI 1),(sI 100000)] [] (vB u5) []])::(eqs (k96 x r_ u1 u3) 2 (eqs (k95 x r_ u1 u3 u5) 3 ((gP (k99 x r_ u1 u3 u5) [(35,false)]→All [Fn Try.prog 94 [(sI x.fT),(sI 10),(sI 100000)] [] (vB u9) []])::(eqs (k95 x r_ u1 u3 u5) 2 [])))))))))))))) {yb:=[(7,(!r_)),(16,(U3 r_ u1)),(23,(k97 x r_ u1)),(29,(k96 x r_ u1 u3)),(35,(k95 x r_ u1 u3 u5))],an:=[(5,cA q0 []),(13, .call [] (vB u1) []),(26, .call [] (vB u3) []),(32, .call [] (vB u5) []),(38, .call [] (vB u9) [])] } [] ⟨q0,(ae ⟨(fun hg=> ⟨(aY x.b 0 (Lr x1) (dU hr_1 (aM hg))),trivial⟩),(ae (ae (ae ⟨(fun hg=> ⟨(aY x.kind 1 3 (dU hr_2 (aM hg))),trivial⟩),(ae (ae ⟨(fun hg=> ⟨(aY x.most 1 100000 (dU hr_3 (aM hg))),trivial⟩),(ae (ae ⟨(fun hg=> ⟨(aY x.fT 10 100000 (dU hr_4 (aM hg))),trivial⟩),(ae trivial)⟩))⟩))⟩)))⟩)⟩ ?_
 refine bI h (fun hb2 h=> ?_) (fun hb2 h=> ?_)
 ·refine ct hb2 ?_
  refine sz tT ⟨[(3,(vB false))],[]⟩ {} [] ?_
  refine aR ?_
  obtain rfl:=oi h
  exact rl [(sB false)]
 ·refine cf hb2 ?_
  refine aP (aQ (sz tT ⟨[(ZW x),(k91 x),(k92 x),(50,(vI 0))],[]⟩ {} [5] ?_))
  refine bE h fun y hy h=> ?_
  refine aL [] (xC x) (xK x) qW hy (fun s f h=> ?_) ?_
  ·clear hy
   show bn _ _ _ _ _ _ ((FK x) f) _
   unfold jd at h
   obtain⟨u0,rfl⟩: ∃q,q=s:=⟨_,rfl⟩
   refine sz tT ⟨[(ZW x),(k91 x),(k92 x),(50,(vI u0)),(51,(vB (decide (u0<(x.trip.length:Int)))))],[]⟩ {} [] ?_
   refine aQ ?_
   refine bI h (fun hb1 h=> ?_) (fun hb1 h=> ?_)
   ·refine ct hb1 ?_
    refine aP (aQ (aB (aQ (aO h fun a1 h=> ?_))))
    refine rg tT ⟨[(ZW x),(4,(vI u0)),(5,(k24 x u0)),(k91 x),(k92 x),(50,(vI u0))],[]⟩ [_] {fr:=[(3,9)] } [9] ⟨a1,trivial⟩ ?_
    refine aQ (bE h fun u2 hr_5 h=> ?_)
    refine bE h fun u4 hr_6 h=> ?_
    refine aO h fun⟨a1,a2⟩ h=> ?_
    have q0:=aY ((at' x.trip u0.toNat).amps) 1 1000000 hr_5
    refine dg tT mX ⟨[(ZW x),(k91 x),(k92 x),(50,(vI u0)),(92,(vB (bif (U3 u2 u4)then true else(k28 x u0))))],[]⟩ (_::(eqs (!u2) 3 ((gP (Vg x u2 u4 u0) [(4,false)]→All [Fn Try.prog 94 [(sI (k25 x u0)),(sI 1),(sI 100000)] [] (vB u4) []])::(eqs (!u2) 2 (eqs (U3 u2 u4) 3 (eqs (decide (0<u0)) 7 ((gP (Vg x u2 u4 u0) [(13,true),(10,false)]→All [(0:Int)≤(Lr u0)∧(Lr u0)<(x.trip.length:Int)])::(eqs (decide (0<u0)) 4 (eqs (TF x u0) 7 ((gP (Vg x u2 u4 u0) [(24,false),(13,true),(10,false)]→All [(0:Int)≤(Lr u0)∧(Lr u0)<(x.trip.length:Int)])::(eqs (TF x u0) 3 [(decide (0<u0))=(decide (0<u0)),gP (Vg x u2 u4 u0) [(13,true),(10,false)]→All [(TF x u0)=(TF x u0)],(U3 u2 u4)=(U3 u2 u4),gP (Vg x u2 u4 u0) [(10,false)]→All [(decide (0<u0))=(decide (0<u0))],(U3 u2 u4)=(U3 u2 u4)]))))))))))) {yb:=[(4,(!u2)),(10,(U3 u2 u4)),(13,(decide (0<u0))),(24,(TF x u0))],an:=[(2,cA q0 []),(7, .call [] (vB u4) [])] } [] ⟨q0,(ae ⟨(fun hg=> ⟨(aY (k25 x u0) 1 100000 (dU hr_6 (aM hg))),trivial⟩),(ae (ae (ae ⟨(fun hg=> ⟨(a1 (aM hg)),trivial⟩),(ae (ae ⟨(fun hg=> ⟨(a2 (aM hg)),trivial⟩),(ae ⟨rfl,(fun hg=> ⟨rfl,trivial⟩),rfl,(fun hg=> ⟨rfl,trivial⟩),rfl,trivial⟩)⟩))⟩)))⟩)⟩ ?_
    refine bI h (fun hb h=> ?_) (fun hb h=> ?_)
    ·refine ct hb ?_
     refine sz tT ⟨[(3,(vB false))],[]⟩ {} [] ?_
     refine aR ?_
     obtain rfl:=oi h
     exact lR bD (bC 0) bG (aW.mk (.inr rfl) (p:=[]) (l:=[(sB false)]) (by kernel_rfl) trivial (dh.refl _) trivial)
    ·refine cf hb ?_
     refine aP (rz tT ⟨[(ZW x),(k91 x),(k92 x),(50,(k3 u0))],[]⟩ {} [] ?_)
     obtain rfl:=oi h
     exact lN
   ·refine cf hb1 ?_
    refine aI (fz (k93 x) []) ?_
    refine aX ?_
    obtain rfl:=oi h
    exact lB
  ·clear hy
   cases y with
   |brk z=>
    unfold dA
    refine⟨_, .refl, ?_⟩
    refine sg tT ⟨[(3,(vB (adV x)))],[]⟩ (eqs (P9 x) 5 (eqs (Te x) 3 [(P9 x)=(P9 x),gP (fQ [(4,(P9 x)),(9,(Te x))]) [(4,true)]→All [(Te x)=(Te x)],(P9 x)=(P9 x)])) {yb:=[(4,(P9 x)),(9,(Te x))] } [] (ae (ae ⟨rfl,(fun hg=> ⟨rfl,trivial⟩),rfl,trivial⟩)) ?_
    refine aR ?_
    obtain rfl:=oi h
    exact rl [(sB (adV x))]
   |ret v=>
    obtain rfl:=oi h
    unfold dA
    intro e st hn ha hR
    cases e with
    |normal=>exact absurd rfl hn
    |exit id=>exact hR
    |goto l=>exact hR
    |ret=>exact hR
    |panic c=>exact hR
    |outgrown=>exact hR
def Dc  :Bool→Exit→St→Prop:=
  fun r=>aW TT [.tmp 3] (vB r) []
section
variable (x1:Int) (u0:(List Source)) (u1:(List Link)) (u2:(List ay))
abbrev abP:DV:=(l8 [(.fn 138 1 (k80 x1 u0 u1 u2))] 0)
abbrev agN:TV:=(vD (abP x1 u0 u1 u2))
end
theorem Bu (x:Link) (x1:Int) (u0:(List Source)) (u1:(List Link)) (u2:(List ay)) {r:Bool} (h:lC x x1 u0 u1 u2=some r):Fn Try.prog 137 [(.agg (k6 x)),(sD (abP x1 u0 u1 u2))] [] (vB r) []:=by
 refine fN tT Try.func137 rfl rfl fun B=> ?_
 show bn _ _ _ _ _ _ (Dc r) _
 unfold lC at h
 refine sz tT ⟨[(1,(agN x1 u0 u1 u2)),(ZW x)],[]⟩ {fr:=[(0,1)] } [1] ?_
 refine aQ (bE h fun r_ hr_ h=> ?_)
 have q0:=FH x x1 u0 u1 u2 hr_
 refine rg tT ⟨[(3,(vB (!r_)))],[]⟩ [_] {an:=[(2,cA q0 [])] } [] ⟨q0,trivial⟩ ?_
 refine aR ?_
 obtain rfl:=oi h
 exact rl [(sB (!r_))]
def jD  :Int→Exit→St→Prop:=
  fun r=>aW TT [.tmp 4] (vI r) []
section
variable (s_:(List Link)) (f_:Int) (u0:(List Source)) (u1:(List Link)) (u2:(List ay))
abbrev Og:Nat × TV:=(0,(vD (aU none 6 Link.cell s_)))
abbrev afz:=(nV [(abP f_ u0 u1 u2)])
abbrev Rj:Nat × TV:=(1,(vD (.fn 137 1 (afz f_ u0 u1 u2))))
abbrev SX:Nat × TV:=(7,(vI (s_.length:Int)))
end
def nT (s_:(List Link)) (f_:Int) (u0:(List Source)) (u1:(List Link)) (u2:(List ay)):Int→St:=
  fun t8=> ⟨[(Og s_),(Rj f_ u0 u1 u2),(SX s_),(8,(vI t8))],[]⟩
def nX  :Unit→St:=
  fun _=> ⟨[],[]⟩
def yM (s_:(List Link)) (f_:Int) (u0:(List Source)) (u1:(List Link)) (u2:(List ay)):(aJ Int (Ex Unit Int))→Exit→St→Prop:=
  LQ 0 [] (nT s_ f_ u0 u1 u2) nX jD
section
variable (s_:(List Link)) (f_:Int) (u0:(List Source)) (u1:(List Link)) (u2:(List ay))
abbrev acD:List SV:=[(sD (aU none 6 Link.cell s_)),(sD (.fn 137 1 (afz f_ u0 u1 u2)))]
abbrev ahr:St:=⟨[(Og s_),(Rj f_ u0 u1 u2)],[]⟩
end
theorem yB (s_:(List Link)) (f_:Int) (u0:(List Source)) (u1:(List Link)) (u2:(List ay)) {r:Int} (h:iP s_ f_ u0 u1 u2=some r):Fn Try.prog 151 (acD s_ f_ u0 u1 u2) [] (vI r) []:=by
 refine fN tT Try.func151 rfl rfl fun B=> ?_
 show bn _ _ _ _ _ _ (jD r) _
 unfold iP at h
 refine sz tT (ahr s_ f_ u0 u1 u2) {} [] ?_
 refine aQ (sz tT ⟨[(Og s_),(Rj f_ u0 u1 u2),(SX s_),(8,(vI 0))],[]⟩ {} [] ?_)
 refine bE h fun y hy h=> ?_
 refine aL [] (nT s_ f_ u0 u1 u2) nX jD hy (fun s f h=> ?_) ?_
 ·clear hy
  show bn _ _ _ _ _ _ ((yM s_ f_ u0 u1 u2) f) _
  unfold gm at h
  obtain⟨t8,rfl⟩: ∃q,q=s:=⟨_,rfl⟩
  refine sz tT ⟨[(Og s_),(Rj f_ u0 u1 u2),(SX s_),(8,(vI t8)),(9,(vB (decide (t8<(s_.length:Int)))))],[]⟩ {} [] ?_
  refine aQ ?_
  refine bI h (fun hb1 h=> ?_) (fun hb1 h=> ?_)
  ·refine ct hb1 ?_
   refine aP (aQ (aB (sz tT ⟨[(Og s_),(Rj f_ u0 u1 u2),(5,(vI t8)),(SX s_),(8,(vI t8))],[]⟩ {} [] ?_)))
   refine aQ (bE h fun r_ hr_ h=> ?_)
   refine aO h fun a1 h=> ?_
   have q1:=Bu (at' s_ t8.toNat) f_ u0 u1 u2 hr_
   refine rg tT ⟨[(Og s_),(Rj f_ u0 u1 u2),(5,(vI t8)),(SX s_),(8,(vI t8)),(16,(vB r_))],[]⟩ [_,_] {an:=[(5,cA q1 [])] } [] ⟨a1,q1,trivial⟩ ?_
   refine bI h (fun hb h=> ?_) (fun hb h=> ?_)
   ·refine ct hb ?_
    refine sz tT ⟨[(4,(vI t8))],[]⟩ {} [] ?_
    refine aR ?_
    obtain rfl:=oi h
    exact lR bD (bC 0) bG (aW.mk (.inr rfl) (p:=[]) (l:=[(sI t8)]) (by kernel_rfl) trivial (dh.refl _) trivial)
   ·refine cf hb ?_
    refine aP (rz tT ⟨[(Og s_),(Rj f_ u0 u1 u2),(SX s_),(Ul t8)],[]⟩ {} [] ?_)
    obtain rfl:=oi h
    exact lN
  ·refine cf hb1 ?_
   refine aI (fz ⟨[],[]⟩ []) ?_
   refine aX ?_
   obtain rfl:=oi h
   exact lB
 ·clear hy
  cases y with
  |brk z=>
   unfold dA
   refine⟨_, .refl, ?_⟩
   refine sz tT ⟨[(4,(vI (-1)))],[]⟩ {} [] ?_
   refine aR ?_
   obtain rfl:=oi h
   exact rl [(sI (-1))]
  |ret v=>
   obtain rfl:=oi h
   unfold dA
   intro e st hn ha hR
   cases e with
   |normal=>exact absurd rfl hn
   |exit id=>exact hR
   |goto l=>exact hR
   |ret=>exact hR
   |panic c=>exact hR
   |outgrown=>exact hR
def wK  :Bool→Exit→St→Prop:=
  fun r=>aW TT [.tmp 4] (vB r) []
theorem uN (s_:(List Link)) (f_:Int) (u0:(List Source)) (u1:(List Link)) (u2:(List ay)) {r:Bool} (h:d9 s_ f_ u0 u1 u2=some r):Fn Try.prog 136 (acD s_ f_ u0 u1 u2) [] (vB r) []:=by
 refine fN tT Try.func136 rfl rfl fun B=> ?_
 show bn _ _ _ _ _ _ (wK r) _
 unfold d9 at h
 refine sz tT (ahr s_ f_ u0 u1 u2) {} [] ?_
 refine aQ (bE h fun r_ hr_ h=> ?_)
 have q0:=yB s_ f_ u0 u1 u2 hr_
 refine rg tT (k89 r_) [_] {an:=[(2,cA q0 [])] } [] ⟨q0,trivial⟩ ?_
 refine aR ?_
 obtain rfl:=oi h
 exact rl [(sB (decide (0≤r_)))]
def GV  :Bool→Exit→St→Prop:=
  fun r=>aW TT [.tmp 6] (vB r) []
theorem Fp (l:(List Link)) (u0:Int) (u1:Int) (u2:(List Source)) (u3:(List Link)) (u4:(List ay)) {r:Bool} (h:mK l u0 u1 u2 u3 u4=some r):Fn Try.prog 97 [(sD (aU none 6 Link.cell l)),(sI u0),(sD (.fn 138 1 (k80 u1 u2 u3 u4)))] [] (vB r) []:=by
 refine fN tT Try.func97 rfl rfl fun B=> ?_
 show bn _ _ _ _ _ _ (GV r) _
 unfold mK at h
 refine sz tT ⟨[(Og l),(1,(vI u0)),(5,(agN u1 u2 u3 u4))],[]⟩ {fr:=[(0,1)] } [1] ?_
 refine aQ (bE h fun r_ hr_ h=> ?_)
 refine rg tT ⟨[(6,(vB (bif (decide ((l.length:Int)≤u0))then(!r_)else false)))],[]⟩ (eqs (decide ((l.length:Int)≤u0)) 3 ((gP (fQ [(4,(decide ((l.length:Int)≤u0)))]) [(4,true)]→All [Fn Try.prog 136 (acD l u1 u2 u3 u4) [] (vB r_) []])::(eqs (decide ((l.length:Int)≤u0)) 2 []))) {yb:=[(4,(decide ((l.length:Int)≤u0)))],an:=[(7, .call [] (vB r_) [])] } [] (ae ⟨(fun hg=> ⟨(uN l u1 u2 u3 u4 (dU hr_ (aM hg))),trivial⟩),(ae trivial)⟩) ?_
 refine aR ?_
 obtain rfl:=oi h
 exact rl [(sB (bif (decide ((l.length:Int)≤u0))then(!r_)else false))]
def IX  :Int→Exit→St→Prop:=
  fun r=>aW TT [.tmp 2] (vI r) []
section
variable (x:ay)
abbrev Yn:List CV:=[(cI x.feeds.e0),(cI x.feeds.e1),(cI x.power),(cI x.paths)]
abbrev ahL:TV:=(vD (l8 [(.int .i64 x.feeds.e0),(.int .i64 x.feeds.e1),(.int .i64 x.power),(.int .i64 x.paths)] 0))
end
theorem Ht (x:ay) {r:Int} (h:oh x=some r):Fn Try.prog 142 [(.agg (Yn x))] [] (vI r) []:=by
 refine fN tT Try.func142 rfl rfl fun B=> ?_
 show bn _ _ _ _ _ _ (IX r) _
 unfold oh at h
 refine sz tT ⟨[(1,(ahL x))],[]⟩ {fr:=[(0,1)] } [1] ?_
 refine aQ (sg tT ⟨[(6,(vB (decide (x.feeds.e1=(-1)))))],[]⟩ [(0:Int)≤1∧(1:Int)<(2:Nat)] {} [] ⟨((by decide)),trivial⟩ ?_)
 refine bI h (fun hb h=> ?_) (fun hb h=> ?_)
 ·refine ct hb ?_
  refine sz tT ⟨[(2,(vI 1))],[]⟩ {} [] ?_
  refine aR ?_
  obtain rfl:=oi h
  exact rl [(sI 1)]
 ·refine cf hb ?_
  refine aP (sz tT ⟨[(2,(vI 2))],[]⟩ {} [] ?_)
  refine aR ?_
  obtain rfl:=oi h
  exact rl [(sI 2)]
def Hf  :Bool→Exit→St→Prop:=
  fun r=>aW TT [.tmp 3] (vB r) []
section
variable (x:ay) (r_:Bool) (u0:Bool) (u1:Bool) (u6:Bool)
abbrev acX:Nat × TV:=(2,(ahL x))
abbrev TD:=(bif (XO r_ u0)then(!decide (x.feeds.e0=x.feeds.e1))else false)
abbrev NY:=(bif (TD x r_ u0)then u1 else false)
abbrev agJ:=(bif (NY x r_ u0 u1)then u6 else false)
abbrev Zp:=(fQ [(5,r_),(12,(XO r_ u0)),(17,(TD x r_ u0)),(22,(NY x r_ u0 u1))])
end
theorem F7 (x:ay) (x1:Int) (u2:(List Source)) (u3:(List Link)) (u4:(List ay)) {r:Bool} (h:mQ x x1 u2 u3 u4=some r):Fn Try.prog 141 [(.agg (Yn x)),(sD (k70 u2 u4 x1 u3))] [] (vB r) []:=by
 refine fN tT Try.func141 rfl rfl fun B=> ?_
 show bn _ _ _ _ _ _ (Hf r) _
 unfold mQ at h
 refine sz tT ⟨[(MB u2 u4 x1 u3),(acX x)],[]⟩ {fr:=[(0,1)] } [1] ?_
 refine sd tT mX ⟨[(MB u2 u4 x1 u3),(acX x),(4,(vI x.feeds.e0)),(5,(vI x.feeds.e1))],[]⟩ [(0:Int)≤0∧(0:Int)<(2:Nat),(0:Int)≤1∧(1:Int)<(2:Nat)] {} [] ⟨((by decide)),((by decide)),trivial⟩ ?_
 refine aQ (bE h fun r_ hr_ h=> ?_)
 refine bE h fun u0 hr_1 h=> ?_
 refine bE h fun u1 hr_2 h=> ?_
 refine bE h fun u5 hr_3 h=> ?_
 refine bE h fun u6 hr_4 h=> ?_
 have q0:=aY x.feeds.e0 0 (Lr x1) hr_
 refine dg tT mX ⟨[(3,(vB (agJ x r_ u0 u1 u6)))],[]⟩ (_::(eqs r_ 5 ((gP (Zp x r_ u0 u1) [(5,true)]→All [Fn Try.prog 94 [(sI x.feeds.e1),(sI (-1)),(sI (Lr x1))] [] (vB u0) []])::(r_=r_)::(eqs (XO r_ u0) 4 (eqs (TD x r_ u0) 3 ((gP (Zp x r_ u0 u1) [(17,true)]→All [Fn Try.prog 94 [(sI x.power),(sI 1),(sI 100000)] [] (vB u1) []])::((TD x r_ u0)=(TD x r_ u0))::(eqs (NY x r_ u0 u1) 4 [gP (Zp x r_ u0 u1) [(22,true)]→All [Fn Try.prog 142 [(.agg (Yn x))] [] (vI u5) []],(NY x r_ u0 u1)=(NY x r_ u0 u1),gP (Zp x r_ u0 u1) [(22,true)]→All [Fn Try.prog 94 [(sI x.paths),(sI 0),(sI u5)] [] (vB u6) []],(NY x r_ u0 u1)=(NY x r_ u0 u1)]))))))) {yb:=[(5,r_),(12,(XO r_ u0)),(17,(TD x r_ u0)),(22,(NY x r_ u0 u1))],an:=[(4,cA q0 []),(10, .call [] (vB u0) []),(20, .call [] (vB u1) []),(26, .call [] (vI u5) []),(27, .call [] (vB u6) [])] } [] ⟨q0,(ae ⟨(fun hg=> ⟨(aY x.feeds.e1 (-1) (Lr x1) (dU hr_1 (aM hg))),trivial⟩),rfl,(ae (ae ⟨(fun hg=> ⟨(aY x.power 1 100000 (dU hr_2 (aM hg))),trivial⟩),rfl,(ae ⟨(fun hg=> ⟨(Ht x (dU hr_3 (aM hg))),trivial⟩),rfl,(fun hg=> ⟨(aY x.paths 0 u5 (dU hr_4 (aM hg))),trivial⟩),rfl,trivial⟩)⟩))⟩)⟩ ?_
 refine aR ?_
 obtain rfl:=oi h
 exact rl [(sB (agJ x r_ u0 u1 u6))]
def CR  :Bool→Exit→St→Prop:=
  fun r=>aW TT [.tmp 3] (vB r) []
section
variable (x1:Int) (u0:(List Source)) (u1:(List Link)) (u2:(List ay))
abbrev abr:DV:=(l8 [(.fn 141 1 (k80 x1 u0 u1 u2))] 0)
abbrev aeQ:TV:=(vD (abr x1 u0 u1 u2))
end
theorem Co (x:ay) (x1:Int) (u0:(List Source)) (u1:(List Link)) (u2:(List ay)) {r:Bool} (h:lg x x1 u0 u1 u2=some r):Fn Try.prog 140 [(.agg (Yn x)),(sD (abr x1 u0 u1 u2))] [] (vB r) []:=by
 refine fN tT Try.func140 rfl rfl fun B=> ?_
 show bn _ _ _ _ _ _ (CR r) _
 unfold lg at h
 refine sz tT ⟨[(1,(aeQ x1 u0 u1 u2)),(acX x)],[]⟩ {fr:=[(0,1)] } [1] ?_
 refine aQ (bE h fun r_ hr_ h=> ?_)
 have q0:=F7 x x1 u0 u1 u2 hr_
 refine rg tT ⟨[(3,(vB (!r_)))],[]⟩ [_] {an:=[(2,cA q0 [])] } [] ⟨q0,trivial⟩ ?_
 refine aR ?_
 obtain rfl:=oi h
 exact rl [(sB (!r_))]
def jV  :Int→Exit→St→Prop:=
  fun r=>aW TT [.tmp 4] (vI r) []
section
variable (s_:(List ay)) (f_:Int) (u0:(List Source)) (u1:(List Link)) (u2:(List ay))
abbrev Pm:Nat × TV:=(0,(vD (VZ s_)))
abbrev afy:=(nV [(abr f_ u0 u1 u2)])
abbrev RF:Nat × TV:=(1,(vD (.fn 140 1 (afy f_ u0 u1 u2))))
abbrev UR:Nat × TV:=(7,(vI (s_.length:Int)))
end
def nM (s_:(List ay)) (f_:Int) (u0:(List Source)) (u1:(List Link)) (u2:(List ay)):Int→St:=
  fun t8=> ⟨[(Pm s_),(RF f_ u0 u1 u2),(UR s_),(8,(vI t8))],[]⟩
def og  :Unit→St:=
  fun _=> ⟨[],[]⟩
def yI (s_:(List ay)) (f_:Int) (u0:(List Source)) (u1:(List Link)) (u2:(List ay)):(aJ Int (Ex Unit Int))→Exit→St→Prop:=
  LQ 0 [] (nM s_ f_ u0 u1 u2) og jV
section
variable (s_:(List ay)) (f_:Int) (u0:(List Source)) (u1:(List Link)) (u2:(List ay)) (t8:Int)
abbrev ada:List SV:=[(sD (VZ s_)),(sD (.fn 140 1 (afy f_ u0 u1 u2)))]
abbrev ad8:St:=⟨[(Pm s_),(RF f_ u0 u1 u2)],[]⟩
abbrev yx:=((at' s_ t8.toNat).feeds)
end
theorem yt (s_:(List ay)) (f_:Int) (u0:(List Source)) (u1:(List Link)) (u2:(List ay)) {r:Int} (h:iN s_ f_ u0 u1 u2=some r):Fn Try.prog 152 (ada s_ f_ u0 u1 u2) [] (vI r) []:=by
 refine fN tT Try.func152 rfl rfl fun B=> ?_
 show bn _ _ _ _ _ _ (jV r) _
 unfold iN at h
 refine sz tT (ad8 s_ f_ u0 u1 u2) {} [] ?_
 refine aQ (sz tT ⟨[(Pm s_),(RF f_ u0 u1 u2),(UR s_),(8,(vI 0))],[]⟩ {} [] ?_)
 refine bE h fun y hy h=> ?_
 refine aL [] (nM s_ f_ u0 u1 u2) og jV hy (fun s f h=> ?_) ?_
 ·clear hy
  show bn _ _ _ _ _ _ ((yI s_ f_ u0 u1 u2) f) _
  unfold fZ at h
  obtain⟨t8,rfl⟩: ∃q,q=s:=⟨_,rfl⟩
  refine sz tT ⟨[(Pm s_),(RF f_ u0 u1 u2),(UR s_),(8,(vI t8)),(9,(vB (decide (t8<(s_.length:Int)))))],[]⟩ {} [] ?_
  refine aQ ?_
  refine bI h (fun hb1 h=> ?_) (fun hb1 h=> ?_)
  ·refine ct hb1 ?_
   refine aP (aQ (aB (sz tT ⟨[(Pm s_),(RF f_ u0 u1 u2),(5,(vI t8)),(UR s_),(8,(vI t8))],[]⟩ {} [] ?_)))
   refine aQ (bE h fun r_ hr_ h=> ?_)
   refine aO h fun a1 h=> ?_
   have q1:=Co (⟨(yx s_ t8),(at' s_ t8.toNat).power,(at' s_ t8.toNat).paths⟩:ay) f_ u0 u1 u2 hr_
   refine rg tT ⟨[(Pm s_),(RF f_ u0 u1 u2),(5,(vI t8)),(UR s_),(8,(vI t8)),(16,(vB r_))],[]⟩ [_,_] {an:=[(5,cA q1 [])] } [] ⟨a1,q1,trivial⟩ ?_
   refine bI h (fun hb h=> ?_) (fun hb h=> ?_)
   ·refine ct hb ?_
    refine sz tT ⟨[(4,(vI t8))],[]⟩ {} [] ?_
    refine aR ?_
    obtain rfl:=oi h
    exact lR bD (bC 0) bG (aW.mk (.inr rfl) (p:=[]) (l:=[(sI t8)]) (by kernel_rfl) trivial (dh.refl _) trivial)
   ·refine cf hb ?_
    refine aP (rz tT ⟨[(Pm s_),(RF f_ u0 u1 u2),(UR s_),(Ul t8)],[]⟩ {} [] ?_)
    obtain rfl:=oi h
    exact lN
  ·refine cf hb1 ?_
   refine aI (fz ⟨[],[]⟩ []) ?_
   refine aX ?_
   obtain rfl:=oi h
   exact lB
 ·clear hy
  cases y with
  |brk z=>
   unfold dA
   refine⟨_, .refl, ?_⟩
   refine sz tT ⟨[(4,(vI (-1)))],[]⟩ {} [] ?_
   refine aR ?_
   obtain rfl:=oi h
   exact rl [(sI (-1))]
  |ret v=>
   obtain rfl:=oi h
   unfold dA
   intro e st hn ha hR
   cases e with
   |normal=>exact absurd rfl hn
   |exit id=>exact hR
   |goto l=>exact hR
   |ret=>exact hR
   |panic c=>exact hR
   |outgrown=>exact hR
def wV  :Bool→Exit→St→Prop:=
  fun r=>aW TT [.tmp 4] (vB r) []
theorem vg (s_:(List ay)) (f_:Int) (u0:(List Source)) (u1:(List Link)) (u2:(List ay)) {r:Bool} (h:eu s_ f_ u0 u1 u2=some r):Fn Try.prog 139 (ada s_ f_ u0 u1 u2) [] (vB r) []:=by
 refine fN tT Try.func139 rfl rfl fun B=> ?_
 show bn _ _ _ _ _ _ (wV r) _
 unfold eu at h
 refine sz tT (ad8 s_ f_ u0 u1 u2) {} [] ?_
 refine aQ (bE h fun r_ hr_ h=> ?_)
 have q0:=yt s_ f_ u0 u1 u2 hr_
 refine rg tT (k89 r_) [_] {an:=[(2,cA q0 [])] } [] ⟨q0,trivial⟩ ?_
 refine aR ?_
 obtain rfl:=oi h
 exact rl [(sB (decide (0≤r_)))]
def Gq  :Bool→Exit→St→Prop:=
  fun r=>aW TT [.tmp 6] (vB r) []
theorem FD (l:(List ay)) (u0:Int) (u1:Int) (u2:(List Source)) (u3:(List Link)) (u4:(List ay)) {r:Bool} (h:mI l u0 u1 u2 u3 u4=some r):Fn Try.prog 99 [(sD (VZ l)),(sI u0),(sD (.fn 141 1 (k80 u1 u2 u3 u4)))] [] (vB r) []:=by
 refine fN tT Try.func99 rfl rfl fun B=> ?_
 show bn _ _ _ _ _ _ (Gq r) _
 unfold mI at h
 refine sz tT ⟨[(Pm l),(1,(vI u0)),(5,(aeQ u1 u2 u3 u4))],[]⟩ {fr:=[(0,1)] } [1] ?_
 refine aQ (bE h fun r_ hr_ h=> ?_)
 refine rg tT ⟨[(6,(vB (bif (decide ((l.length:Int)≤u0))then(!r_)else false)))],[]⟩ (eqs (decide ((l.length:Int)≤u0)) 3 ((gP (fQ [(4,(decide ((l.length:Int)≤u0)))]) [(4,true)]→All [Fn Try.prog 139 (ada l u1 u2 u3 u4) [] (vB r_) []])::(eqs (decide ((l.length:Int)≤u0)) 2 []))) {yb:=[(4,(decide ((l.length:Int)≤u0)))],an:=[(7, .call [] (vB r_) [])] } [] (ae ⟨(fun hg=> ⟨(vg l u1 u2 u3 u4 (dU hr_ (aM hg))),trivial⟩),(ae trivial)⟩) ?_
 refine aR ?_
 obtain rfl:=oi h
 exact rl [(sB (bif (decide ((l.length:Int)≤u0))then(!r_)else false))]
def Ja  :Int→Exit→St→Prop:=
  fun r=>aW TT [.tmp 2] (vI r) []
theorem zH (p:ah) {r:Int} (h:kP p=some r):Fn Try.prog 58 (k35 p) [] (vI r) []:=by
 refine fN tT Try.func58 rfl rfl fun B=> ?_
 show bn _ _ _ _ _ _ (Ja r) _
 unfold kP at h
 refine sz tT (k67 p) {fr:=[(0,1)] } [1] ?_
 refine aQ (aB (aQ (bE h fun r_ hr_ h=> ?_)))
 have q0:=aY p.buses 1 24 hr_
 refine rg tT ⟨[(k68 p),(3,(vB (!r_)))],[]⟩ [_] {an:=[(2,cA q0 [])] } [] ⟨q0,trivial⟩ ?_
 refine bI h (fun hb3 h=> ?_) (fun hb3 h=> ?_)
 ·refine ct hb3 ?_
  refine sz tT ⟨[(2,(vI 10))],[]⟩ {} [] ?_
  refine aR ?_
  obtain rfl:=oi h
  exact rl [(sI 10)]
 ·refine cf hb3 ?_
  refine aQ (bE h fun u0 hr_1 h=> ?_)
  refine bE h fun u3 hr_2 h=> ?_
  have q0:=Fv p hr_1
  have q1:=IK p.sources 8 u0.1 u0.2.1 u0.2.2.1 u0.2.2.2 hr_2
  refine dg tT mX ⟨[(k68 p),(8,(vB (!u3)))],[]⟩ [_,_] {an:=[(3,cA q0 []),(4,cA q1 [])] } [] ⟨q0,q1,trivial⟩ ?_
  refine bI h (fun hb2 h=> ?_) (fun hb2 h=> ?_)
  ·refine ct hb2 ?_
   refine sz tT ⟨[(2,(vI 11))],[]⟩ {} [] ?_
   refine aR ?_
   obtain rfl:=oi h
   exact rl [(sI 11)]
  ·refine cf hb2 ?_
   refine aQ (bE h fun u1 hr_3 h=> ?_)
   refine bE h fun u4 hr_4 h=> ?_
   have q0:=Ji p hr_3
   have q1:=Fp p.links 40 u1.1 u1.2.1 u1.2.2.1 u1.2.2.2 hr_4
   refine dg tT mX ⟨[(k68 p),(15,(vB (!u4)))],[]⟩ [_,_] {an:=[(3,cA q0 []),(4,cA q1 [])] } [] ⟨q0,q1,trivial⟩ ?_
   refine bI h (fun hb1 h=> ?_) (fun hb1 h=> ?_)
   ·refine ct hb1 ?_
    refine sz tT ⟨[(2,(vI 12))],[]⟩ {} [] ?_
    refine aR ?_
    obtain rfl:=oi h
    exact rl [(sI 12)]
   ·refine cf hb1 ?_
    refine aQ (bE h fun u2 hr_5 h=> ?_)
    refine bE h fun u5 hr_6 h=> ?_
    have q0:=Jp p hr_5
    have q1:=FD p.racks 24 u2.1 u2.2.1 u2.2.2.1 u2.2.2.2 hr_6
    refine dg tT mX ⟨[(22,(vB (!u5)))],[]⟩ [_,_] {an:=[(3,cA q0 []),(4,cA q1 [])] } [] ⟨q0,q1,trivial⟩ ?_
    refine bI h (fun hb h=> ?_) (fun hb h=> ?_)
    ·refine ct hb ?_
     refine sz tT ⟨[(2,(vI 13))],[]⟩ {} [] ?_
     refine aR ?_
     obtain rfl:=oi h
     exact rl [(sI 13)]
    ·refine cf hb ?_
     refine aP (sz tT ⟨[(2,(vI 0))],[]⟩ {} [] ?_)
     refine aR ?_
     obtain rfl:=oi h
     exact rl [(sI 0)]
def gI  :Int→Exit→St→Prop:=
  fun r=>aW TT [.tmp 4] (vI r) []
section
variable (s_:State) (p:ah)
abbrev afU:DV:=(l8 [(aU none 1 aj s_.closed),(aU none 1 aj s_.locked),(aU none 1 aj s_.badLink),(aU none 1 aj s_.on_),(aU none 1 aj s_.badSource),(aU none 1 aj s_.earthed),(aU none 1 aj s_.badBus)] 0)
abbrev ZA:TV:=(vD (afU s_))
abbrev bX:Nat × TV:=(3,(ZA s_))
abbrev PK:=(⟨s_.closed,(p.links.length:Int)⟩:dw)
abbrev PN:=(⟨s_.locked,(p.links.length:Int)⟩:dw)
abbrev Oc:=(⟨s_.badLink,(p.links.length:Int)⟩:dw)
abbrev Pq:=(⟨s_.on_,(p.sources.length:Int)⟩:dw)
abbrev PV:=(⟨s_.badSource,(p.sources.length:Int)⟩:dw)
abbrev OP:=(⟨s_.earthed,p.buses⟩:dw)
abbrev NK:=(⟨s_.badBus,p.buses⟩:dw)
abbrev UF:Nat × TV:=(53,(vO 13 true ([(PK s_ p),(PN s_ p),(Oc s_ p),(Pq s_ p),(PV s_ p),(OP s_ p),(NK s_ p)].length)))
abbrev UE:Nat × TV:=(54,(vI ([(PK s_ p),(PN s_ p),(Oc s_ p),(Pq s_ p),(PV s_ p),(OP s_ p),(NK s_ p)].length:Int)))
abbrev abN:Nat × Option Ob:=(11,some (YV p))
abbrev UJ:List (Nat × Option Ob):=[(abN p),(13,some (bU 128 2 dw.cell [(PK s_ p),(PN s_ p),(Oc s_ p),(Pq s_ p),(PV s_ p),(OP s_ p),(NK s_ p)]))]
end
def qC (p:ah) (s_:State):Int→St:=
  fun u0=> ⟨[(2,(vP 11 0)),(bX s_),(UF s_ p),(UE s_ p),(55,(vI u0))],(UJ s_ p)⟩
section
variable (s_:State) (p:ah)
abbrev aid:St:=⟨[(2,(vP 11 0)),(bX s_)],[(abN p)]⟩
end
def qm (p:ah) (s_:State):Unit→St:=
  fun _=>(aid s_ p)
def Bb (p:ah) (s_:State):(aJ Int (Ex Unit Int))→Exit→St→Prop:=
  LQ 0 [] (qC p s_) (qm p s_) gI
section
variable (p:ah)
abbrev Uc:Nat × TV:=(67,(vD (aU none 6 Link.cell p.links)))
abbrev UX:Nat × TV:=(68,(vI (p.links.length:Int)))
end
def ql (p:ah) (s_:State):Int→St:=
  fun u0=> ⟨[(bX s_),(Uc p),(UX p),(69,(vI u0))],[]⟩
def qz  :Unit→St:=
  fun _=> ⟨[],[]⟩
def Bc (p:ah) (s_:State):(aJ Int (Ex Unit Int))→Exit→St→Prop:=
  LQ 2 [] (ql p s_) qz gI
section
variable (s_:State) (p:ah) (u1:Int) (u0:Int)
abbrev JR:List CV:=[(.d (aU none 1 aj s_.closed)),(.d (aU none 1 aj s_.locked)),(.d (aU none 1 aj s_.badLink)),(.d (aU none 1 aj s_.on_)),(.d (aU none 1 aj s_.badSource)),(.d (aU none 1 aj s_.earthed)),(.d (aU none 1 aj s_.badBus))]
abbrev OQ:List SV:=[(.agg (k7 p)),(.agg (JR s_))]
abbrev Zx:List (Nat × Option Ob):=[(abN p),(12,some (.cells 29 (JR s_)))]
abbrev adT:=(aC dw.cell [(PK s_ p),(PN s_ p),(Oc s_ p),(Pq s_ p),(PV s_ p),(OP s_ p),(NK s_ p)])
abbrev agl:=(at' [(PK s_ p),(PN s_ p),(Oc s_ p),(Pq s_ p),(PV s_ p),(OP s_ p),(NK s_ p)] u1.toNat)
abbrev ae5:=((agl s_ p u1).l)
abbrev adC:=((agl s_ p u1).n)
abbrev Lg:=((at' p.links u0.toNat).most)
abbrev acL:TV:=(vD (l8 [(.int .i64 ((at' p.links u0.toNat).a)),(.int .i64 ((at' p.links u0.toNat).b)),(.int .i64 ((at' p.links u0.toNat).kind)),(.int .i64 (Lg p u0)),(.int .i64 ((at' p.links u0.toNat).fT)),(aU none 2 iL.cell ((at' p.links u0.toNat).trip))] 0))
abbrev BO:Nat × TV:=(11,(acL p u0))
abbrev Ca:=(decide (((at' p.links u0.toNat).kind)=1))
abbrev ER:=(!(at' s_.closed u0.toNat))
abbrev afd:TV:=(vB (bif (Ca p u0)then(bif (ER s_ u0)then true else(at' s_.locked u0.toNat))else false))
abbrev acE:=(fQ [(3,(Ca p u0)),(10,(ER s_ u0))])
end
theorem fE (p:ah) (s_:State) {r:Int} (h:dL p s_=some r):Fn Try.prog 12 (OQ s_ p) [] (vI r) []:=by
 refine fN tT Try.func12 rfl rfl fun B=> ?_
 show bn _ _ _ _ _ _ (gI r) _
 unfold dL at h
 refine sz tT ⟨[(2,(vP 11 0)),(3,(vP 12 0))],(Zx s_ p)⟩ {fr:=[(0,11),(1,12)] } [] ?_
 refine aQ (aQ (bE h fun r_ hr_ h=> ?_))
 have q0:=zH p hr_
 refine rg tT ⟨[(2,(vP 11 0)),(3,(vP 12 0)),(5,(vI r_))],(Zx s_ p)⟩ [_] {an:=[(1,cA q0 [])] } [] ⟨q0,trivial⟩ ?_
 refine sz tT ⟨[(2,(vP 11 0)),(3,(vP 12 0)),(5,(vI r_)),(15,(vB (!decide (r_=0))))],(Zx s_ p)⟩ {} [] ?_
 refine bI h (fun hb4 h=> ?_) (fun hb4 h=> ?_)
 ·refine ct hb4 ?_
  refine sz tT ⟨[(4,(vI r_))],[]⟩ {} [] ?_
  refine aR ?_
  obtain rfl:=oi h
  exact rl [(sI r_)]
 ·refine cf hb4 ?_
  refine aP (sd tT mX ⟨[(2,(vP 11 0)),(3,(vP 12 0)),(6,(vI (p.links.length:Int))),(7,(vI (p.sources.length:Int)))],(Zx s_ p)⟩ [] {} [] trivial ?_)
  refine aQ (sg tT ⟨[(2,(vP 11 0)),(bX s_),(UF s_ p),(UE s_ p),(55,(vI 0))],(UJ s_ p)⟩ [[(PK s_ p),(PN s_ p),(Oc s_ p),(Pq s_ p),(PV s_ p),(OP s_ p),(NK s_ p)].length=7,aH 7 2 (iZ 2 [(aU none 1 aj s_.closed),(.int .i64 (p.links.length:Int)),(aU none 1 aj s_.locked),(.int .i64 (p.links.length:Int)),(aU none 1 aj s_.badLink),(.int .i64 (p.links.length:Int)),(aU none 1 aj s_.on_),(.int .i64 (p.sources.length:Int)),(aU none 1 aj s_.badSource),(.int .i64 (p.sources.length:Int)),(aU none 1 aj s_.earthed),(.int .i64 p.buses),(aU none 1 aj s_.badBus),(.int .i64 p.buses)]) (adT s_ p)] {an:=[(30, .arr [(PK s_ p),(PN s_ p),(Oc s_ p),(Pq s_ p),(PV s_ p),(OP s_ p),(NK s_ p)].length (adT s_ p))],fr:=[(30,13)] } [12] ⟨(rfl),((by intro i hi j hj;match i,j,hi,hj with|0,0,_,_=>rfl|0,1,_,_=>rfl|1,0,_,_=>rfl|1,1,_,_=>rfl|2,0,_,_=>rfl|2,1,_,_=>rfl|3,0,_,_=>rfl|3,1,_,_=>rfl|4,0,_,_=>rfl|4,1,_,_=>rfl|5,0,_,_=>rfl|5,1,_,_=>rfl|6,0,_,_=>rfl|6,1,_,_=>rfl)),trivial⟩ ?_)
  refine bE h fun y hy h=> ?_
  refine aL [] (qC p s_) (qm p s_) gI hy (fun s f h=> ?_) ?_
  ·clear hy
   show bn _ _ _ _ _ _ ((Bb p s_) f) _
   unfold fH at h
   obtain⟨u1,rfl⟩: ∃q,q=s:=⟨_,rfl⟩
   refine sz tT ⟨[(2,(vP 11 0)),(bX s_),(UF s_ p),(UE s_ p),(55,(vI u1)),(56,(vB (decide (u1<([(PK s_ p),(PN s_ p),(Oc s_ p),(Pq s_ p),(PV s_ p),(OP s_ p),(NK s_ p)].length:Int)))))],(UJ s_ p)⟩ {} [] ?_
   refine aQ ?_
   refine bI h (fun hb1 h=> ?_) (fun hb1 h=> ?_)
   ·refine ct hb1 ?_
    refine aP (aQ (aB (aQ (aO h fun a1 h=> ?_))))
    refine rg tT ⟨[(2,(vP 11 0)),(bX s_),(9,(vD (l8 [(aU none 1 aj (ae5 s_ p u1)),(.int .i64 (adC s_ p u1))] 0))),(UF s_ p),(UE s_ p),(55,(vI u1))],(UJ s_ p)⟩ [_,_] {fr:=[(2,17)] } [17] ⟨a1,(tL a1),trivial⟩ ?_
    refine sz tT ⟨[(2,(vP 11 0)),(bX s_),(UF s_ p),(UE s_ p),(55,(vI u1)),(64,(vB (!decide (((ae5 s_ p u1).length:Int)=(adC s_ p u1)))))],(UJ s_ p)⟩ {} [] ?_
    refine bI h (fun hb h=> ?_) (fun hb h=> ?_)
    ·refine ct hb ?_
     refine sz tT ⟨[(4,(vI 9))],[]⟩ {} [] ?_
     refine aR ?_
     obtain rfl:=oi h
     exact lR bD (bC 0) bG (aW.mk (.inr rfl) (p:=[]) (l:=[(sI 9)]) (by kernel_rfl) trivial (dh.refl _) trivial)
    ·refine cf hb ?_
     refine aP (rz tT ⟨[(2,(vP 11 0)),(bX s_),(UF s_ p),(UE s_ p),(55,(k3 u1))],(UJ s_ p)⟩ {} [] ?_)
     obtain rfl:=oi h
     exact lN
   ·refine cf hb1 ?_
    refine aI (fz (aid s_ p) []) ?_
    refine aX ?_
    obtain rfl:=oi h
    exact lB
  ·clear hy
   cases y with
   |brk z=>
    unfold dA
    refine⟨_, .refl, ?_⟩
    refine aQ (sz tT ⟨[(bX s_),(Uc p),(UX p),(69,(vI 0))],[]⟩ {} [] ?_)
    refine bE h fun y1 hy h=> ?_
    refine aL [] (ql p s_) qz gI hy (fun s f h=> ?_) ?_
    ·clear hy
     show bn _ _ _ _ _ _ ((Bc p s_) f) _
     unfold fG at h
     obtain⟨u0,rfl⟩: ∃q,q=s:=⟨_,rfl⟩
     refine sz tT ⟨[(bX s_),(Uc p),(UX p),(69,(vI u0)),(70,(k48 p u0))],[]⟩ {} [] ?_
     refine aQ ?_
     refine bI h (fun hb3 h=> ?_) (fun hb3 h=> ?_)
     ·refine ct hb3 ?_
      refine aP (aQ (aB (aQ (aO h fun a1 h=> ?_))))
      refine rg tT ⟨[(bX s_),(10,(vI u0)),(BO p u0),(Uc p),(UX p),(69,(vI u0))],[]⟩ [_] {fr:=[(3,21)] } [21] ⟨a1,trivial⟩ ?_
      refine aQ (aO h fun⟨a1,a2⟩ h=> ?_)
      refine rg tT ⟨[(bX s_),(Uc p),(UX p),(69,(vI u0)),(91,(afd s_ p u0))],[]⟩ (eqs (Ca p u0) 4 ((gP (acE s_ p u0) [(3,true)]→All [(0:Int)≤u0∧u0<(s_.closed.length:Int)])::(eqs (Ca p u0) 3 (eqs (ER s_ u0) 4 [gP (acE s_ p u0) [(10,false),(3,true)]→All [(0:Int)≤u0∧u0<(s_.locked.length:Int)],(ER s_ u0)=(ER s_ u0),(Ca p u0)=(Ca p u0),gP (acE s_ p u0) [(3,true)]→All [(ER s_ u0)=(ER s_ u0)],(Ca p u0)=(Ca p u0)])))) {yb:=[(3,(Ca p u0)),(10,(ER s_ u0))] } [] (ae ⟨(fun hg=> ⟨(a1 (aM hg)),trivial⟩),(ae (ae ⟨(fun hg=> ⟨(a2 (aM hg)),trivial⟩),rfl,rfl,(fun hg=> ⟨rfl,trivial⟩),rfl,trivial⟩))⟩) ?_
      refine bI h (fun hb2 h=> ?_) (fun hb2 h=> ?_)
      ·refine ct hb2 ?_
       refine sz tT ⟨[(4,(vI 9))],[]⟩ {} [] ?_
       refine aR ?_
       obtain rfl:=oi h
       exact lR bD (bC 2) bG (aW.mk (.inr rfl) (p:=[]) (l:=[(sI 9)]) (by kernel_rfl) trivial (dh.refl _) trivial)
      ·refine cf hb2 ?_
       refine aP (rz tT ⟨[(bX s_),(Uc p),(UX p),(69,(k3 u0))],[]⟩ {} [] ?_)
       obtain rfl:=oi h
       exact lN
     ·refine cf hb3 ?_
      refine aI (fz ⟨[],[]⟩ []) ?_
      refine aX ?_
      obtain rfl:=oi h
      exact lB
    ·clear hy
     cases y1 with
     |brk z=>
      unfold dA
      refine⟨_, .refl, ?_⟩
      refine sz tT ⟨[(4,(vI 0))],[]⟩ {} [] ?_
      refine aR ?_
      obtain rfl:=oi h
      exact rl [(sI 0)]
     |ret v=>
      obtain rfl:=oi h
      unfold dA
      intro e st hn ha hR
      cases e with
      |normal=>exact absurd rfl hn
      |exit id=>exact hR
      |goto l=>exact hR
      |ret=>exact hR
      |panic c=>exact hR
      |outgrown=>exact hR
   |ret v=>
    obtain rfl:=oi h
    unfold dA
    intro e st hn ha hR
    cases e with
    |normal=>exact absurd rfl hn
    |exit id=>exact hR
    |goto l=>exact hR
    |ret=>exact hR
    |panic c=>exact hR
    |outgrown=>exact hR
def JG  :Bool→Exit→St→Prop:=
  fun r=>aW TT [.tmp 6] (vB r) []
section
variable (p:ah) (s_:State) (k:Int)
abbrev Ng:List SV:=[(.agg (k7 p)),(.agg (JR s_)),(sI k)]
abbrev aD:Nat × TV:=(3,(k10 p))
abbrev aK:Nat × TV:=(4,(ZA s_))
abbrev acv:St:=⟨[(2,(vI k)),(aD p),(aK s_)],[]⟩
abbrev Rf:=(bif (at' s_.on_ k.toNat)then(!(at' s_.badSource k.toNat))else false)
abbrev Un:=((XM p k).toNat)
abbrev aip:=(bif (Rf s_ k)then(!(at' s_.badBus (Un p k)))else false)
abbrev ahU:St:=⟨[(6,(vB (aip p s_ k)))],[]⟩
abbrev acT:=(fQ [(5,(at' s_.on_ k.toNat)),(13,(Rf s_ k))])
abbrev aeB:=(eqs (at' s_.on_ k.toNat) 4 ((gP (acT s_ k) [(5,true)]→All [(0:Int)≤k∧k<(s_.badSource.length:Int)])::(eqs (at' s_.on_ k.toNat) 3 (eqs (Rf s_ k) 6 ((gP (acT s_ k) [(13,true)]→All [(0:Int)≤k∧k<(p.sources.length:Int)])::(eqs (Rf s_ k) 3 ((gP (acT s_ k) [(13,true)]→All [(0:Int)≤(at' p.sources k.toNat).bus∧(at' p.sources k.toNat).bus<(s_.badBus.length:Int)])::(eqs (Rf s_ k) 3 []))))))))
abbrev adx:List SV:=[(sB (aip p s_ k))]
end
theorem fC (p:ah) (s_:State) (k:Int) {r:Bool} (h:gq p s_ k=some r):Fn Try.prog 65 (Ng p s_ k) [] (vB r) []:=by
 refine fN tT Try.func65 rfl rfl fun B=> ?_
 show bn _ _ _ _ _ _ (JG r) _
 unfold gq at h
 refine sz tT (acv p s_ k) {fr:=[(0,2),(1,3)] } [2,3] ?_
 refine aQ (aO h fun⟨a1,a2,a3,a4⟩ h=> ?_)
 refine dg tT mX (ahU p s_ k) (_::(aeB p s_ k)) {yb:=[(5,(at' s_.on_ k.toNat)),(13,(Rf s_ k))] } [] ⟨a1,(ae ⟨(fun hg=> ⟨(a2 (aM hg)),trivial⟩),(ae (ae ⟨(fun hg=> ⟨(a3 (aM hg)),trivial⟩),(ae ⟨(fun hg=> ⟨(a4 (aM hg)),trivial⟩),(ae trivial)⟩)⟩))⟩)⟩ ?_
 refine aR ?_
 obtain rfl:=oi h
 exact rl (adx p s_ k)
def Fh  :Bool→Exit→St→Prop:=
  fun r=>aW TT [.tmp 6] (vB r) []
section
variable (s_:State) (i:Int) (p:ah)
abbrev K5:=(bif (at' s_.closed i.toNat)then(!(at' s_.badLink i.toNat))else false)
abbrev UY:=(((at' p.links i.toNat).a).toNat)
abbrev Nh:=(bif (K5 s_ i)then(!(at' s_.badBus (UY i p)))else false)
abbrev VD:=(((at' p.links i.toNat).b).toNat)
abbrev ahF:=(bif (Nh s_ i p)then(!(at' s_.badBus (VD i p)))else false)
abbrev adz:St:=⟨[(6,(vB (ahF s_ i p)))],[]⟩
abbrev abe:=(fQ [(5,(at' s_.closed i.toNat)),(13,(K5 s_ i)),(22,(Nh s_ i p))])
abbrev ahN:=(eqs (Nh s_ i p) 3 [])
abbrev ahg:List SV:=[(sB (ahF s_ i p))]
end
theorem dI (p:ah) (s_:State) (i:Int) {r:Bool} (h:dN p s_ i=some r):Fn Try.prog 78 (Ng p s_ i) [] (vB r) []:=by
 refine fN tT Try.func78 rfl rfl fun B=> ?_
 show bn _ _ _ _ _ _ (Fh r) _
 unfold dN at h
 refine sz tT ⟨[(2,(vI i)),(3,(vP 3 0)),(aK s_)],[(3,some (YV p))]⟩ {fr:=[(0,3),(1,4)] } [4] ?_
 refine aQ (aO h fun a1 h=> ?_)
 refine rg tT ⟨[(2,(vI i)),(aK s_),(7,(acL p i))],[]⟩ [_] {fr:=[(5,5)] } [5] ⟨a1,trivial⟩ ?_
 refine aQ (aO h fun⟨a1,a2,a3,a4⟩ h=> ?_)
 refine rg tT (adz s_ i p) (_::(eqs (at' s_.closed i.toNat) 4 ((gP (abe s_ i p) [(5,true)]→All [(0:Int)≤i∧i<(s_.badLink.length:Int)])::(eqs (at' s_.closed i.toNat) 3 (eqs (K5 s_ i) 5 ((gP (abe s_ i p) [(13,true)]→All [(0:Int)≤(at' p.links i.toNat).a∧(at' p.links i.toNat).a<(s_.badBus.length:Int)])::(eqs (K5 s_ i) 3 (eqs (Nh s_ i p) 5 ((gP (abe s_ i p) [(22,true)]→All [(0:Int)≤(at' p.links i.toNat).b∧(at' p.links i.toNat).b<(s_.badBus.length:Int)])::(ahN s_ i p)))))))))) {yb:=[(5,(at' s_.closed i.toNat)),(13,(K5 s_ i)),(22,(Nh s_ i p))] } [] ⟨a1,(ae ⟨(fun hg=> ⟨(a2 (aM hg)),trivial⟩),(ae (ae ⟨(fun hg=> ⟨(a3 (aM hg)),trivial⟩),(ae (ae ⟨(fun hg=> ⟨(a4 (aM hg)),trivial⟩),(ae trivial)⟩))⟩))⟩)⟩ ?_
 refine aR ?_
 obtain rfl:=oi h
 exact rl (ahg s_ i p)
def z8  :(List Int)→Exit→St→Prop:=
  fun r=>aW TT [.tmp 2] (vO 0 false r.length) [(0,some (bU 3 1 (au .i64) r))]
theorem oN (s_:(List Int)) (u0:Bool) {r:(List Int)} (h:qd s_ u0=some r):Fn Try.prog 112 [(sD (aU (some u0) 1 (au .i64) s_))] [] (vO 0 false r.length) [(0,some (bU 3 1 (au .i64) r))]:=by
 refine fN tT Try.func112 rfl rfl fun B=> ?_
 show bn _ _ _ _ _ _ (z8 r) _
 unfold qd at h
 refine sz tT ⟨[(0,(vD (aU (some u0) 1 (au .i64) s_)))],[]⟩ {} [] ?_
 refine aQ (sz tT ⟨[(0,(vD (aU (some u0) 1 (au .i64) s_))),(4,(vB (!u0)))],[]⟩ {} [] ?_)
 refine bI h (fun hb h=> ?_) (fun hb h=> ?_)
 ·refine ct hb ?_
  refine sz tT ⟨[(2,(vD nS))],[]⟩ {} [] ?_
  refine aI (.trans (bH.WK (t:=2) (b:=2) (esz0:=0) (el0:=fun _ _=> .nilp) (E:=3) (esz:=1) (el:=aC (au .i64) ([]:List Int)) (by kernel_rfl) (by kernel_rfl)) (.trans (bH.fin (st':=⟨[(2,(vO 0 false 0))],[(0,some (.arr 3 1 0 (aC (au .i64) ([]:List Int))))]⟩) (cs:=[]) ⟨[],[(2,0)]⟩ [2] (by kernel_rfl) trivial) (bH.le (st':=⟨[(2,(vO 0 false (([]:List Int).length)))],[(0,some (bU 3 1 (au .i64) ([]:List Int)))]⟩) ⟨⟨⟨_,rfl,dh.v (dX.one cW)⟩,trivial⟩,⟨rfl,oW,trivial⟩⟩))) ?_
  refine aR ?_
  obtain rfl:=oi h
  exact rl [(.one (.own 0 false (([]:List Int).length)))]
 ·refine cf hb ?_
  refine aP (aQ (aO h fun⟨a1,a2⟩ h=> ?_))
  refine rg tT ⟨[(2,(vO 4 false ((([]:List Int)++s_).length)))],[(4,some (bU 3 1 (au .i64) (([]:List Int)++s_)))]⟩ [([]:List Int).length=0,aH 0 1 (iZ 1 []) (aC (au .i64) ([]:List Int)),([]:List Int).length=([]:List Int).length,_,_,(([]:List Int)++s_).length=([]:List Int).length+s_.length,aH (([]:List Int).length+s_.length) 1 (Eg (aC (au .i64) ([]:List Int)) ([]:List Int).length (aC (au .i64) s_)) (aC (au .i64) (([]:List Int)++s_))] {an:=[(0, .arr ([]:List Int).length (aC (au .i64) ([]:List Int))),(2, .arr (([]:List Int)++s_).length (aC (au .i64) (([]:List Int)++s_)))],fr:=[(0,3),(2,4)] } [] ⟨(rfl),((fun i hi=>absurd hi (Nat.not_lt_zero i))),rfl,a1,a2,(List.length_append),(kS _ _ _ _),trivial⟩ ?_
  refine aI (bH.fin (st':=⟨[(2,(vO 0 false ((([]:List Int)++s_).length)))],[(0,some (bU 3 1 (au .i64) (([]:List Int)++s_)))]⟩) (cs:=[]) ⟨[],[(4,0)]⟩ [2] (by kernel_rfl) trivial) ?_
  refine aR ?_
  obtain rfl:=oi h
  exact rl [(.one (.own 0 false ((([]:List Int)++s_).length)))]
theorem xk (s:(List Int)) {r:(List Int)} (h:uJ s=some r):Fn Try.prog 112 [(sD (aU none 1 (au .i64) s))] [] (vO 0 false r.length) [(0,some (bU 3 1 (au .i64) r))]:=by
 refine Fn.nn (oN s true h) fun hl=> ?_
 have hs:s=[]:=List.eq_nil_of_length_eq_zero hl
 subst hs
 exact oN [] false (by rw [←h];kernel_rfl)
def LB  :Bool→Exit→St→Prop:=
  fun r=>aW TT [.tmp 2] (vB r) []
theorem BR (x:Int) {r:Bool} (h:xN x=some r):Fn Try.prog 154 [(sI x)] [] (vB r) []:=by
 refine fN tT Try.func154 rfl rfl fun B=> ?_
 show bn _ _ _ _ _ _ (LB r) _
 unfold xN at h
 refine sz tT ⟨[(0,(vI x))],[]⟩ {} [] ?_
 refine sz tT ⟨[(2,(vB (!decide (x=x))))],[]⟩ {} [] ?_
 refine aR ?_
 obtain rfl:=oi h
 exact rl [(sB (!decide (x=x)))]
def Jm  :Int→Exit→St→Prop:=
  fun r=>aW TT [.tmp 4] (vI r) []
theorem GA (x:Int) (y:Int) {r:Int} (h:yD x y=some r):Fn Try.prog 145 [(sI x),(sI y)] [] (vI r) []:=by
 refine fN tT Try.func145 rfl rfl fun B=> ?_
 show bn _ _ _ _ _ _ (Jm r) _
 unfold yD at h
 refine sz tT ⟨[(0,(vI x)),(1,(vI y))],[]⟩ {} [] ?_
 refine aQ (bE h fun r_ hr_ h=> ?_)
 have q0:=BR x hr_
 refine rg tT ⟨[(0,(vI x)),(1,(vI y)),(5,(vB r_))],[]⟩ [_] {an:=[(1,cA q0 [])] } [] ⟨q0,trivial⟩ ?_
 refine aQ (bE h fun u0 hr_1 h=> ?_)
 have q0:=BR y hr_1
 refine rg tT ⟨[(0,(vI x)),(1,(vI y)),(5,(vB r_)),(6,(vB u0))],[]⟩ [_] {an:=[(1,cA q0 [])] } [] ⟨q0,trivial⟩ ?_
 refine aQ (sz tT ⟨[(0,(vI x)),(1,(vI y)),(6,(vB u0)),(11,(vB r_))],[]⟩ {} [] ?_)
 refine bI h (fun hb4 h=> ?_) (fun hb4 h=> ?_)
 ·refine ct hb4 ?_
  refine aQ (sz tT ⟨[(12,(vB u0))],[]⟩ {} [] ?_)
  refine bI h (fun hb h=> ?_) (fun hb h=> ?_)
  ·refine ct hb ?_
   refine sz tT ⟨[(4,(vI 0))],[]⟩ {} [] ?_
   refine aR ?_
   obtain rfl:=oi h
   exact rl [(sI 0)]
  ·refine cf hb ?_
   refine aP (sz tT ⟨[(4,(vI (-1)))],[]⟩ {} [] ?_)
   refine aR ?_
   obtain rfl:=oi h
   exact rl [(sI (-1))]
 ·refine cf hb4 ?_
  refine aP (aQ (sz tT ⟨[(0,(vI x)),(1,(vI y)),(13,(vB u0))],[]⟩ {} [] ?_))
  refine bI h (fun hb3 h=> ?_) (fun hb3 h=> ?_)
  ·refine ct hb3 ?_
   refine sz tT ⟨[(4,(vI 1))],[]⟩ {} [] ?_
   refine aR ?_
   obtain rfl:=oi h
   exact rl [(sI 1)]
  ·refine cf hb3 ?_
   refine aP (aQ (sz tT ⟨[(0,(vI x)),(1,(vI y)),(16,(vB (decide (x<y))))],[]⟩ {} [] ?_))
   refine bI h (fun hb2 h=> ?_) (fun hb2 h=> ?_)
   ·refine ct hb2 ?_
    refine sz tT ⟨[(4,(vI (-1)))],[]⟩ {} [] ?_
    refine aR ?_
    obtain rfl:=oi h
    exact rl [(sI (-1))]
   ·refine cf hb2 ?_
    refine aP (aQ (sz tT ⟨[(19,(vB (decide (y<x))))],[]⟩ {} [] ?_))
    refine bI h (fun hb1 h=> ?_) (fun hb1 h=> ?_)
    ·refine ct hb1 ?_
     refine sz tT ⟨[(4,(vI 1))],[]⟩ {} [] ?_
     refine aR ?_
     obtain rfl:=oi h
     exact rl [(sI 1)]
    ·refine cf hb1 ?_
     refine aP (sz tT ⟨[(4,(vI 0))],[]⟩ {} [] ?_)
     refine aR ?_
     obtain rfl:=oi h
     exact rl [(sI 0)]
def oF  :Int→Exit→St→Prop:=
  fun r=>aW TT [.tmp 4] (vI r) []
section
variable (s1:(List Int)) (s2:(List Int))
abbrev vk:DV:=(aU none 1 (au .i64) s1)
abbrev jk:Nat × TV:=(0,(vD (vk s1)))
abbrev CX:Nat × TV:=(1,(vD (vk s2)))
abbrev M4:Nat × TV:=(9,(vD (vk s1)))
abbrev MU:Nat × TV:=(10,(vI (s1.length:Int)))
end
def uq (s1:(List Int)) (s2:(List Int)):Int→St:=
  fun u0=> ⟨[(jk s1),(CX s2),(M4 s1),(MU s1),(11,(vI u0))],[]⟩
section
variable (s1:(List Int)) (s2:(List Int))
abbrev Yc:St:=⟨[(jk s1),(CX s2)],[]⟩
end
def tY (s1:(List Int)) (s2:(List Int)):Unit→St:=
  fun _=>(Yc s1 s2)
def Da (s1:(List Int)) (s2:(List Int)):(aJ Int (Ex Unit Int))→Exit→St→Prop:=
  LQ 0 [] (uq s1 s2) (tY s1 s2) oF
section
variable (u0:Int) (s1:(List Int))
abbrev Xg:TV:=(vB (decide (u0<(s1.length:Int))))
end
theorem Db (s1:(List Int)) (s2:(List Int)) {r:Int} (h:qL s1 s2=some r):Fn Try.prog 111 [(sD (vk s1)),(sD (vk s2))] [] (vI r) []:=by
 refine fN tT Try.func111 rfl rfl fun B=> ?_
 show bn _ _ _ _ _ _ (oF r) _
 unfold qL at h
 refine sz tT (Yc s1 s2) {} [] ?_
 refine aQ (sz tT ⟨[(jk s1),(CX s2),(M4 s1),(MU s1),(11,(vI 0))],[]⟩ {} [] ?_)
 refine bE h fun y hy h=> ?_
 refine aL [] (uq s1 s2) (tY s1 s2) oF hy (fun s f h=> ?_) ?_
 ·clear hy
  show bn _ _ _ _ _ _ ((Da s1 s2) f) _
  unfold uz at h
  obtain⟨u0,rfl⟩: ∃q,q=s:=⟨_,rfl⟩
  refine sz tT ⟨[(jk s1),(CX s2),(M4 s1),(MU s1),(11,(vI u0)),(12,(Xg u0 s1))],[]⟩ {} [] ?_
  refine aQ ?_
  refine bI h (fun hb2 h=> ?_) (fun hb2 h=> ?_)
  ·refine ct hb2 ?_
   refine aP (aQ (aB (aQ (aO h fun a1 h=> ?_))))
   refine rg tT ⟨[(jk s1),(CX s2),(5,(vI u0)),(6,(vI (at' s1 u0.toNat))),(M4 s1),(MU s1),(11,(vI u0))],[]⟩ [_] {} [] ⟨a1,trivial⟩ ?_
   refine aQ (sz tT ⟨[(jk s1),(CX s2),(5,(vI u0)),(6,(vI (at' s1 u0.toNat))),(M4 s1),(MU s1),(11,(vI u0)),(19,(vB (decide ((s2.length:Int)≤u0))))],[]⟩ {} [] ?_)
   refine bI h (fun hb1 h=> ?_) (fun hb1 h=> ?_)
   ·refine ct hb1 ?_
    refine sz tT ⟨[(4,(vI 1))],[]⟩ {} [] ?_
    refine aR ?_
    obtain rfl:=oi h
    exact lR bD (bC 0) bG (aW.mk (.inr rfl) (p:=[]) (l:=[(sI 1)]) (by kernel_rfl) trivial (dh.refl _) trivial)
   ·refine cf hb1 ?_
    refine aP (aQ (aO h fun a1 h=> ?_))
    refine rg tT ⟨[(jk s1),(CX s2),(6,(vI (at' s1 u0.toNat))),(7,(vI (at' s2 u0.toNat))),(M4 s1),(MU s1),(11,(vI u0))],[]⟩ [_] {} [] ⟨a1,trivial⟩ ?_
    refine aQ (bE h fun r_ hr_ h=> ?_)
    have q0:=GA (at' s1 u0.toNat) (at' s2 u0.toNat) hr_
    refine rg tT ⟨[(jk s1),(CX s2),(8,(vI r_)),(M4 s1),(MU s1),(11,(vI u0))],[]⟩ [_] {an:=[(2,cA q0 [])] } [] ⟨q0,trivial⟩ ?_
    refine sz tT ⟨[(jk s1),(CX s2),(8,(vI r_)),(M4 s1),(MU s1),(11,(vI u0)),(28,(vB (!decide (r_=0))))],[]⟩ {} [] ?_
    refine bI h (fun hb h=> ?_) (fun hb h=> ?_)
    ·refine ct hb ?_
     refine sz tT ⟨[(4,(vI r_))],[]⟩ {} [] ?_
     refine aR ?_
     obtain rfl:=oi h
     exact lR bD (bC 0) bG (aW.mk (.inr rfl) (p:=[]) (l:=[(sI r_)]) (by kernel_rfl) trivial (dh.refl _) trivial)
    ·refine cf hb ?_
     refine aP (rz tT ⟨[(jk s1),(CX s2),(M4 s1),(MU s1),(11,(k3 u0))],[]⟩ {} [] ?_)
     obtain rfl:=oi h
     exact lN
  ·refine cf hb2 ?_
   refine aI (fz (Yc s1 s2) []) ?_
   refine aX ?_
   obtain rfl:=oi h
   exact lB
 ·clear hy
  cases y with
  |brk z=>
   unfold dA
   refine⟨_, .refl, ?_⟩
   refine aQ (sz tT ⟨[(35,(vB (decide ((s1.length:Int)<(s2.length:Int)))))],[]⟩ {} [] ?_)
   refine bI h (fun hb3 h=> ?_) (fun hb3 h=> ?_)
   ·refine ct hb3 ?_
    refine sz tT ⟨[(4,(vI (-1)))],[]⟩ {} [] ?_
    refine aR ?_
    obtain rfl:=oi h
    exact rl [(sI (-1))]
   ·refine cf hb3 ?_
    refine aP (sz tT ⟨[(4,(vI 0))],[]⟩ {} [] ?_)
    refine aR ?_
    obtain rfl:=oi h
    exact rl [(sI 0)]
  |ret v=>
   obtain rfl:=oi h
   unfold dA
   intro e st hn ha hR
   cases e with
   |normal=>exact absurd rfl hn
   |exit id=>exact hR
   |goto l=>exact hR
   |ret=>exact hR
   |panic c=>exact hR
   |outgrown=>exact hR
def Ew  :Int→Exit→St→Prop:=
  fun r=>aW TT [.tmp 2] (vI r) []
section
variable (u0:(List Int))
abbrev Td:Nat × TV:=(6,(vD (vk u0)))
abbrev oU:Nat × TV:=(7,(vI (u0.length:Int)))
end
def Im (u0:(List Int)):Int→St:=
  fun t8=> ⟨[(3,(vI 0)),(Td u0),(oU u0),(8,(vI t8))],[]⟩
def Ir  :Unit→St:=
  fun _=> ⟨[(3,(vI 0))],[]⟩
def OL (u0:(List Int)):(aJ Int (Ex Unit Int))→Exit→St→Prop:=
  LQ 0 [] (Im u0) Ir Ew
section
variable (t8:Int) (u0:(List Int))
abbrev VH:Nat × TV:=(9,(Xg t8 u0))
end
theorem Px (u0:(List Int)) {r:Int} (h:Ke u0=some r):Fn Try.prog 110 [(sD (vk u0))] [] (vI r) []:=by
 refine fN tT Try.func110 rfl rfl fun B=> ?_
 show bn _ _ _ _ _ _ (Ew r) _
 unfold Ke at h
 refine sz tT ⟨[(jk u0)],[]⟩ {} [] ?_
 refine sz tT ⟨[(jk u0),(3,(vI 0))],[]⟩ {} [] ?_
 refine aQ (sz tT ⟨[(3,(vI 0)),(Td u0),(oU u0),(8,(vI 0))],[]⟩ {} [] ?_)
 refine bE h fun y hy h=> ?_
 refine aL [] (Im u0) Ir Ew hy (fun s f h=> ?_) ?_
 ·clear hy
  show bn _ _ _ _ _ _ ((OL u0) f) _
  unfold H7 at h
  obtain⟨t8,rfl⟩: ∃q,q=s:=⟨_,rfl⟩
  refine sz tT ⟨[(3,(vI 0)),(Td u0),(oU u0),(8,(vI t8)),(VH t8 u0)],[]⟩ {} [] ?_
  refine aQ ?_
  refine bI h (fun hb1 h=> ?_) (fun hb1 h=> ?_)
  ·refine ct hb1 ?_
   refine aP (aQ (aB (aQ (aO h fun a1 h=> ?_))))
   refine rg tT ⟨[(3,(vI 0)),(5,(vI (at' u0 t8.toNat))),(Td u0),(oU u0),(8,(vI t8))],[]⟩ [_] {} [] ⟨a1,trivial⟩ ?_
   refine sz tT ⟨[(3,(vI 0)),(5,(vI (at' u0 t8.toNat))),(Td u0),(oU u0),(8,(vI t8)),(14,(vB (!decide ((at' u0 t8.toNat)=0))))],[]⟩ {} [] ?_
   refine bI h (fun hb h=> ?_) (fun hb h=> ?_)
   ·refine ct hb ?_
    refine sz tT ⟨[(2,(vI (at' u0 t8.toNat)))],[]⟩ {} [] ?_
    refine aR ?_
    obtain rfl:=oi h
    exact lR bD (bC 0) bG (aW.mk (.inr rfl) (p:=[]) (l:=[(sI (at' u0 t8.toNat))]) (by kernel_rfl) trivial (dh.refl _) trivial)
   ·refine cf hb ?_
    refine aP (rz tT ⟨[(3,(vI 0)),(Td u0),(oU u0),(Ul t8)],[]⟩ {} [] ?_)
    obtain rfl:=oi h
    exact lN
  ·refine cf hb1 ?_
   refine aI (fz ⟨[(3,(vI 0))],[]⟩ []) ?_
   refine aX ?_
   obtain rfl:=oi h
   exact lB
 ·clear hy
  cases y with
  |brk z=>
   unfold dA
   refine⟨_, .refl, ?_⟩
   refine sz tT ⟨[(2,(vI 0))],[]⟩ {} [] ?_
   refine aR ?_
   obtain rfl:=oi h
   exact rl [(sI 0)]
  |ret v=>
   obtain rfl:=oi h
   unfold dA
   intro e st hn ha hR
   cases e with
   |normal=>exact absurd rfl hn
   |exit id=>exact hR
   |goto l=>exact hR
   |ret=>exact hR
   |panic c=>exact hR
   |outgrown=>exact hR
def IY  :Bool→Exit→St→Prop:=
  fun r=>aW TT [.tmp 4] (vB r) []
section
variable (a:Way) (b:Way) (r_:Int)
abbrev Lp:=(IntKind.wrap .i64 (a.fT - b.fT))
abbrev Lv:=(IntKind.wrap .i64 ((a.links.length:Int) - (b.links.length:Int)))
abbrev afM:=(aC (au .i64) [(Lp a b),(Lv a b),r_])
abbrev aga:List (Nat × Option Ob):=[(6,some (bU 3 1 (au .i64) [(Lp a b),(Lv a b),r_]))]
end
theorem Gu (a:Way) (b:Way) {r:Bool} (h:yw a b=some r):Fn Try.prog 109 [(.agg [(cB a.there),(cI a.fT),(.d (aU none 1 (au .i64) a.links))]),(.agg [(cB b.there),(cI b.fT),(.d (aU none 1 (au .i64) b.links))])] [] (vB r) []:=by
 refine fN tT Try.func109 rfl rfl fun B=> ?_
 show bn _ _ _ _ _ _ (IY r) _
 unfold yw at h
 refine sz tT ⟨[(2,(vD (l8 [(.bool a.there),(.int .i64 a.fT),(aU none 1 (au .i64) a.links)] 0))),(3,(vD (l8 [(.bool b.there),(.int .i64 b.fT),(aU none 1 (au .i64) b.links)] 0)))],[]⟩ {fr:=[(0,4),(1,5)] } [4,5] ?_
 refine aQ ?_
 refine bI h (fun hb h=> ?_) (fun hb h=> ?_)
 ·skip
  refine di tT mX ⟨[(4,(vB (bif (!b.there)then true else false)))],[]⟩ [(!b.there)=true, ¬ gP (fQ [(3,true)]) [(3,false)],(!b.there)=true, ¬ gP (fQ [(3,true)]) [(3,false)],(!b.there)=true, ¬ gP (fQ [(3,true)]) [(3,false)],(!b.there)=true, ¬ gP (fQ [(3,true)]) [(3,false)],(!b.there)=true, ¬ gP (fQ [(3,true)]) [(3,false)],(!b.there)=true, ¬ gP (fQ [(3,true)]) [(3,false)],(!b.there)=true, ¬ gP (fQ [(3,true)]) [(3,false)],(!b.there)=true, ¬ gP (fQ [(3,true)]) [(3,false)],(!b.there)=true, ¬ gP (fQ [(3,true)]) [(3,false)],(!b.there)=true, ¬ gP (fQ [(3,true)]) [(3,false)],(!b.there)=true, ¬ gP (fQ [(3,true)]) [(3,false)],(!b.there)=true, ¬ gP (fQ [(3,true)]) [(3,false)],(!b.there)=true, ¬ gP (fQ [(3,true)]) [(3,false)],(!b.there)=true, ¬ gP (fQ [(3,true)]) [(3,false)],(!b.there)=true, ¬ gP (fQ [(3,true)]) [(3,false)],(!b.there)=true, ¬ gP (fQ [(3,true)]) [(3,false)],(!b.there)=true, ¬ gP (fQ [(3,true)]) [(3,false)],(!b.there)=true, ¬ gP (fQ [(3,true)]) [(3,false)],(!b.there)=true, ¬ gP (fQ [(3,true)]) [(3,false)],(!b.there)=true, ¬ gP (fQ [(3,true)]) [(3,false)],(!b.there)=true] {yb:=[(3,true)],an:=[(4, .skip),(5, .skip),(6, .skip),(7, .skip),(8, .skip),(9, .skip),(10, .skip),(11, .skip),(12, .skip),(13, .skip),(14, .skip),(15, .skip),(16, .skip),(17, .skip),(18, .skip),(19, .skip),(20, .skip),(21, .skip),(22, .skip),(23, .skip)] } [] ⟨(hb),((fun h=>Bool.noConfusion (show true=false from h.1))),(hb),((fun h=>Bool.noConfusion (show true=false from h.1))),(hb),((fun h=>Bool.noConfusion (show true=false from h.1))),(hb),((fun h=>Bool.noConfusion (show true=false from h.1))),(hb),((fun h=>Bool.noConfusion (show true=false from h.1))),(hb),((fun h=>Bool.noConfusion (show true=false from h.1))),(hb),((fun h=>Bool.noConfusion (show true=false from h.1))),(hb),((fun h=>Bool.noConfusion (show true=false from h.1))),(hb),((fun h=>Bool.noConfusion (show true=false from h.1))),(hb),((fun h=>Bool.noConfusion (show true=false from h.1))),(hb),((fun h=>Bool.noConfusion (show true=false from h.1))),(hb),((fun h=>Bool.noConfusion (show true=false from h.1))),(hb),((fun h=>Bool.noConfusion (show true=false from h.1))),(hb),((fun h=>Bool.noConfusion (show true=false from h.1))),(hb),((fun h=>Bool.noConfusion (show true=false from h.1))),(hb),((fun h=>Bool.noConfusion (show true=false from h.1))),(hb),((fun h=>Bool.noConfusion (show true=false from h.1))),(hb),((fun h=>Bool.noConfusion (show true=false from h.1))),(hb),((fun h=>Bool.noConfusion (show true=false from h.1))),(hb),((fun h=>Bool.noConfusion (show true=false from h.1))),(hb),trivial⟩ (bH.le (st':=⟨[(4,(vB true))],[]⟩) ⟨⟨⟨_,rfl,dh.v (dX.one (dD.of (congrArg (fun b=>CV.d (.bool b)) (CK hb))))⟩,trivial⟩,trivial⟩) ?_
  refine aR ?_
  obtain rfl:=oi h
  exact rl [(sB true)]
 ·skip
  refine bE h fun r_ hr_ h=> ?_
  refine bE h fun u0 hr_1 h=> ?_
  refine di tT mX ⟨[(4,(vB (bif (!b.there)then true else(decide (u0<0)))))],[]⟩ [(!b.there)=false,(!b.there)=false,(!b.there)=false,(!b.there)=false,(!b.there)=false,(!b.there)=false,(!b.there)=false,(!b.there)=false,(!b.there)=false,(!b.there)=false,(!b.there)=false,(!b.there)=false,(!b.there)=false,(!b.there)=false,(!b.there)=false,(!b.there)=false,(!b.there)=false,gP (fQ [(3,false)]) [(3,false)]→All [Fn Try.prog 111 [(sD (aU none 1 (au .i64) a.links)),(sD (aU none 1 (au .i64) b.links))] [] (vI r_) []],(!b.there)=false,gP (fQ [(3,false)]) [(3,false)]→All [[(Lp a b),(Lv a b),r_].length=3,aH 3 1 (iZ 1 [(.int .i64 (Lp a b)),(.int .i64 (Lv a b)),(.int .i64 r_)]) (afM a b r_)],gP (fQ [(3,false)]) [(3,false)],(!b.there)=false,gP (fQ [(3,false)]) [(3,false)]→All [Fn Try.prog 110 [(.one (.own 6 true ([(Lp a b),(Lv a b),r_].length)))] (aga a b r_) (vI u0) (aga a b r_)],(!b.there)=false,(!b.there)=false] {yb:=[(3,false)],an:=[(20, .call [] (vI r_) []),(21, .arr [(Lp a b),(Lv a b),r_].length (afM a b r_)),(22, .callR [6] (vI u0))],fr:=[(21,6)] } [] ⟨(hb),(hb),(hb),(hb),(hb),(hb),(hb),(hb),(hb),(hb),(hb),(hb),(hb),(hb),(hb),(hb),(hb),(fun hg=> ⟨(Db a.links b.links hr_),trivial⟩),(hb),(fun hg=> ⟨(rfl),((by intro i hi j hj;match i,j,hi,hj with|0,0,_,_=>rfl|1,0,_,_=>rfl|2,0,_,_=>rfl)),trivial⟩),(⟨rfl,trivial⟩),(hb),(fun hg=> ⟨(Fn.xh (frz:=[6]) (p:=[[(Lp a b),(Lv a b),r_].length=[(Lp a b),(Lv a b),r_].length]) (Fn.le (args':=[(sD (aU (some true) 1 (au .i64) [(Lp a b),(Lv a b),r_]))]) (Px [(Lp a b),(Lv a b),r_] hr_1) ⟨dX.one (dD.d gG.oH),trivial⟩) (by kernel_rfl) ⟨rfl,trivial⟩ rfl),trivial⟩),(hb),(hb),trivial⟩ (bH.le (st':=⟨[(4,(vB (decide (u0<0))))],[]⟩) ⟨⟨⟨_,rfl,dh.v (dX.one (dD.of (congrArg (fun b=>CV.d (.bool b)) (Dq hb))))⟩,trivial⟩,trivial⟩) ?_
  refine aR ?_
  obtain rfl:=oi h
  exact rl [(sB (decide (u0<0)))]
def qM  :(List Way)→Exit→St→Prop:=
  fun r=>aW TT [.tmp 6] (vO 0 true r.length) [(0,some (bU 141 3 Way.cell r))]
section
variable (u0:(List Way)) (p:ah) (s_:State) (u1:Bool)
abbrev qg:Nat × TV:=(7,(vD (.fn 109 0 (nV []))))
abbrev wX:Nat × TV:=(8,(vO 405 true u0.length))
abbrev Lu:Nat × Option Ob:=(403,some (YV p))
abbrev BG:List (Nat × Option Ob):=[(Lu p),(405,some (bU 141 3 Way.cell u0))]
abbrev aaw:St:=⟨[(3,(vP 403 0)),(aK s_),qg,(wX u0),(9,(vB u1))],(BG u0 p)⟩
end
def xU (p:ah) (s_:State):((List Way) × Bool)→St:=
  fun zz=>match zz with|(u0,u1)=>(aaw u0 p s_ u1)
def xw  :(List Way)→St:=
  fun u0=> ⟨[(wX u0)],[(405,some (bU 141 3 Way.cell u0))]⟩
def qa (p:ah) (s_:State):(aJ ((List Way) × Bool) (Ex (List Way) (List Way)))→Exit→St→Prop:=
  LQ 0 [] (xU p s_) xw qM
section
variable (p:ah) (s_:State) (u0:(List Way)) (u1:Bool) (u2:Int)
abbrev zf:Nat × TV:=(26,(vD (aU none 6 Link.cell p.links)))
abbrev zq:Nat × TV:=(27,(vI (p.links.length:Int)))
abbrev adg:St:=⟨[(3,(vP 403 0)),(aK s_),qg,(wX u0),(9,(vB u1)),(zf p),(zq p),(28,(vI u2))],(BG u0 p)⟩
end
def xI (p:ah) (s_:State):((List Way) × Bool × Int)→St:=
  fun zz=>match zz with|(u0,u1,u2)=>(adg p s_ u0 u1 u2)
def yo (p:ah) (s_:State):((List Way) × Bool)→St:=
  fun zz=>match zz with|(u0,u1)=>(aaw u0 p s_ u1)
def oZ (p:ah) (s_:State):(aJ ((List Way) × Bool × Int) (Ex ((List Way) × Bool) (aJ ((List Way) × Bool) (Ex (List Way) (List Way)))))→Exit→St→Prop:=
  LQ 2 [1] (xI p s_) (yo p s_) (qa p s_)
section
variable (p:ah) (u0:Int)
abbrev ab5:List CV:=[(cI ((at' p.links u0.toNat).a)),(cI ((at' p.links u0.toNat).b)),(cI ((at' p.links u0.toNat).b)),(cI ((at' p.links u0.toNat).a))]
abbrev Fe:Nat × TV:=(48,(.v (.agg (ab5 p u0))))
end
def xq (p:ah) (s_:State) (u0:Int):((List Way) × Bool × Int)→St:=
  fun zz=>match zz with|(u1,u2,u3)=> ⟨[(3,(vP 403 0)),(aK s_),qg,(wX u1),(9,(vB u2)),(10,(vI u0)),(BO p u0),(zf p),(zq p),(28,(vI u0)),(Fe p u0),(49,(vI u3))],(BG u1 p)⟩
def xL (p:ah) (s_:State) (u1:Int):((List Way) × Bool)→St:=
  fun zz=>match zz with|(u0,u2)=>(adg p s_ u0 u2 u1)
def Gb (p:ah) (s_:State) (u0:Int):(aJ ((List Way) × Bool × Int) (Ex ((List Way) × Bool) (aJ ((List Way) × Bool × Int) (Ex ((List Way) × Bool) (aJ ((List Way) × Bool) (Ex (List Way) (List Way)))))))→Exit→St→Prop:=
  LQ 4 [3] (xq p s_ u0) (xL p s_ u0) (oZ p s_)
section
variable (p:ah) (u3:Int) (s_:State) (u5:(List Way)) (u8:Bool) (u0:Int) (u1:Int) (u2:(List Way)) (u6:Bool) (u4:(List Int))
abbrev ae2:List (Nat × Option Ob):=[(Lu p)]
abbrev KI:=(List.replicate p.buses.toNat ((⟨false,0,([]:List Int)⟩:Way):Way))
abbrev aiw:Nat × TV:=(8,(vO 405 true ((KI p).length)))
abbrev ahv:List (Nat × TV):=[(2,(vI u3)),(3,(vP 403 0)),(aK s_),qg,(aiw p)]
abbrev acw:=((KI p).set u3.toNat (⟨true,(at' (KI p) u3.toNat).fT,(at' (KI p) u3.toNat).links⟩:Way))
abbrev abI:=(aC Way.cell (acw p u3))
abbrev aez:Nat × TV:=(8,(vO 405 true ((acw p u3).length)))
abbrev afl:List (Nat × Option Ob):=[(Lu p),(405,some (bU 141 3 Way.cell (acw p u3)))]
abbrev adr:St:=⟨[(3,(vP 403 0)),(aK s_),qg,(wX u5),(9,(vB u8)),(zf p),(zq p),(28,(k3 u0))],(BG u5 p)⟩
abbrev aaS:=(⟨(at' p.links u0.toNat).a,(at' p.links u0.toNat).b⟩:af)
abbrev ab0:=(⟨(at' p.links u0.toNat).b,(at' p.links u0.toNat).a⟩:af)
abbrev aht:=(at' [(aaS p u0),(ab0 p u0)] u1.toNat)
abbrev ab4:=((aht p u0 u1).e0)
abbrev Zf:=((aht p u0 u1).e1)
abbrev ahf:List DV:=[(.int .i64 (ab4 p u0 u1)),(.int .i64 (Zf p u0 u1))]
abbrev abf:=(at' u2 ((ab4 p u0 u1).toNat))
abbrev aec:=((abf p u0 u1 u2).there)
abbrev adO:=((abf p u0 u1 u2).fT)
abbrev adM:=((abf p u0 u1 u2).links)
abbrev adA:Nat × TV:=(14,(vD (l8 [(.bool (aec p u0 u1 u2)),(.int .i64 (adO p u0 u1 u2)),(aU none 1 (au .i64) (adM p u0 u1 u2))] 0)))
abbrev WJ:Nat × TV:=(15,(vI (Zf p u0 u1)))
abbrev aia:St:=⟨[(3,(vP 403 0)),(aK s_),qg,(wX u2),(9,(vB u6)),(10,(vI u0)),(BO p u0),(zf p),(zq p),(28,(vI u0)),(Fe p u0),(49,(k3 u1))],(BG u2 p)⟩
abbrev ac7:=(IntKind.wrap .i64 ((adO p u0 u1 u2)+((at' p.links u0.toNat).fT)))
abbrev aie:List DV:=[(.bool true),(.int .i64 (ac7 p u0 u1 u2)),(aU none 1 (au .i64) (u4++[u0]))]
abbrev aiB:Nat × TV:=(16,(vD (l8 (aie p u0 u1 u2 u4) 0)))
abbrev afP:=(⟨true,(ac7 p u0 u1 u2),(u4++[u0])⟩:Way)
abbrev acj:=((Zf p u0 u1).toNat)
abbrev ab1:=(u2.set (acj p u0 u1) (afP p u0 u1 u2 u4))
abbrev abR:=(aC Way.cell (ab1 p u0 u1 u2 u4))
abbrev ac9:Nat × TV:=(8,(vO 405 true ((ab1 p u0 u1 u2 u4).length)))
abbrev acy:List (Nat × Option Ob):=[(Lu p),(405,some (bU 141 3 Way.cell (ab1 p u0 u1 u2 u4)))]
end
theorem Gp (p:ah) (s_:State) (u3:Int) {r:(List Way)} (h:BJ p s_ u3=some r):Fn Try.prog 66 (Ng p s_ u3) [] (vO 0 true r.length) [(0,some (bU 141 3 Way.cell r))]:=by
 refine fN tT Try.func66 rfl rfl fun B=> ?_
 show bn _ _ _ _ _ _ (qM r) _
 unfold BJ at h
 refine sz tT ⟨[(2,(vI u3)),(3,(vP 403 0)),(aK s_)],(ae2 p)⟩ {fr:=[(0,403),(1,404)] } [404] ?_
 refine sz tT ⟨[(2,(vI u3)),(3,(vP 403 0)),(aK s_),qg],(ae2 p)⟩ {} [] ?_
 refine aQ (aO h fun⟨a1,a2,a3⟩ h=> ?_)
 refine ri tT ⟨(ahv p u3 s_),[(Lu p),(405,some (.arr 141 3 (KI p).length (fun _ j=>[(.bool false),(.int .i64 0),nS].getD j .nilp)))]⟩ [_,(p.buses:Int)=p.buses,_,_,(KI p).length=p.buses.toNat,aH p.buses.toNat 3 (fun _ j=>[(.bool false),(.int .i64 0),nS].getD j .nilp) (fun _ j=>[(.bool false),(.int .i64 0),nS].getD j .nilp)] {an:=[(2, .arr (KI p).length (fun _ j=>[(.bool false),(.int .i64 0),nS].getD j .nilp))],fr:=[(2,405)] } [] ⟨a1,rfl,a2,a3,(List.length_replicate),(fJ _ _ _),trivial⟩ (bH.le (st':=⟨(ahv p u3 s_),[(Lu p),(405,some (bU 141 3 Way.cell (KI p)))]⟩) ⟨⟨tR,tR,tR,tR,tR,trivial⟩,⟨rfl, .refl _,⟨rfl,Sn (agp _ _ _ _ _ (fun j hj=>match j,hj with|0,_=> .refl _|1,_=> .refl _|2,_=>gG.nil')),trivial⟩⟩⟩) ?_
 refine aQ (aO h fun a1 h=> ?_)
 refine ri tT ⟨[(3,(vP 403 0)),(aK s_),qg,(aiw p)],[(Lu p),(405,some (.arr 141 3 (KI p).length (abI p u3)))]⟩ [_,_,aH (KI p).length 3 (kK (aC Way.cell (KI p)) u3.toNat 0 [(.bool true)]) (abI p u3)] {an:=[(4, .arr 0 (abI p u3))] } [] ⟨a1,(tL a1),(bL _ _ _ _ _ _ _ _ rfl (fun j hj=>(match j,hj with|0,_=>rfl|1,_=>rfl|2,_=>rfl))),trivial⟩ (bH.le (st':=⟨[(3,(vP 403 0)),(aK s_),qg,(aez p u3)],(afl p u3)⟩) ⟨⟨tR,tR,tR,⟨_,rfl,dh.v (dX.one cW)⟩,trivial⟩,⟨rfl, .refl _,⟨rfl,oW,trivial⟩⟩⟩) ?_
 refine aQ (sz tT ⟨[(3,(vP 403 0)),(aK s_),qg,(aez p u3),(9,(vB true))],(afl p u3)⟩ {} [] ?_)
 refine bE h fun y2 hy h=> ?_
 refine aL [] (xU p s_) xw qM hy (fun s f h=> ?_) ?_
 ·clear hy
  show bn _ _ _ _ _ _ ((qa p s_) f) _
  unfold Ch at h
  obtain⟨u7,v1⟩:=s
  refine aQ (sz tT ⟨[(3,(vP 403 0)),(aK s_),qg,(wX u7),(24,(vB v1))],(BG u7 p)⟩ {} [] ?_)
  refine bI h (fun hb5 h=> ?_) (fun hb5 h=> ?_)
  ·refine ct hb5 ?_
   refine aP (aB (sz tT ⟨[(3,(vP 403 0)),(aK s_),qg,(wX u7),(9,(vB false))],(BG u7 p)⟩ {} [] ?_))
   refine sz tT ⟨[(3,(vP 403 0)),(aK s_),qg,(wX u7),(9,(vB false)),(zf p),(zq p),(28,(vI 0))],(BG u7 p)⟩ {} [] ?_
   refine bE h fun y1 hy h=> ?_
   refine aL [1] (xI p s_) (yo p s_) (qa p s_) hy (fun s f h=> ?_) ?_
   ·clear hy
    show bn _ _ _ _ _ _ ((oZ p s_) f) _
    unfold BI at h
    obtain⟨u5,u8,u0⟩:=s
    refine sz tT ⟨[(3,(vP 403 0)),(aK s_),qg,(wX u5),(9,(vB u8)),(zf p),(zq p),(28,(vI u0)),(29,(k48 p u0))],(BG u5 p)⟩ {} [] ?_
    refine aQ ?_
    refine bI h (fun hb4 h=> ?_) (fun hb4 h=> ?_)
    ·refine ct hb4 ?_
     refine aP (aQ (aB (aQ (aO h fun a1 h=> ?_))))
     refine rg tT ⟨[(3,(vP 403 0)),(aK s_),qg,(wX u5),(9,(vB u8)),(10,(vI u0)),(BO p u0),(zf p),(zq p),(28,(vI u0))],(BG u5 p)⟩ [_] {fr:=[(3,781)] } [781] ⟨a1,trivial⟩ ?_
     refine aQ (aQ (bE h fun r_ hr_ h=> ?_))
     have q0:=dI p s_ u0 hr_
     refine rg tT ⟨[(3,(vP 403 0)),(aK s_),qg,(wX u5),(9,(vB u8)),(10,(vI u0)),(BO p u0),(zf p),(zq p),(28,(vI u0)),(37,(vB (!r_)))],(BG u5 p)⟩ [_] {an:=[(3,cA q0 [])] } [] ⟨q0,trivial⟩ ?_
     refine bI h (fun hb3 h=> ?_) (fun hb3 h=> ?_)
     ·refine ct hb3 ?_
      refine aX (rz tT (adr p s_ u5 u8 u0) {} [] ?_)
      obtain rfl:=oi h
      exact lN
     ·refine cf hb3 ?_
      refine aP (sz tT ⟨[(3,(vP 403 0)),(aK s_),qg,(wX u5),(9,(vB u8)),(10,(vI u0)),(BO p u0),(zf p),(zq p),(28,(vI u0)),(Fe p u0),(49,(vI 0))],(BG u5 p)⟩ {} [] ?_)
      refine bE h fun y hy h=> ?_
      refine aL [3] (xq p s_ u0) (xL p s_ u0) (oZ p s_) hy (fun s f h=> ?_) ?_
      ·clear hy
       show bn _ _ _ _ _ _ ((Gb p s_ u0) f) _
       unfold BX at h
       obtain⟨u2,u6,u1⟩:=s
       refine sz tT ⟨[(3,(vP 403 0)),(aK s_),qg,(wX u2),(9,(vB u6)),(10,(vI u0)),(BO p u0),(zf p),(zq p),(28,(vI u0)),(Fe p u0),(49,(vI u1)),(50,(vB (decide (u1<2))))],(BG u2 p)⟩ {} [] ?_
       refine aQ ?_
       refine bI h (fun hb2 h=> ?_) (fun hb2 h=> ?_)
       ·refine ct hb2 ?_
        refine aP (aQ (aB (aQ (aO h fun a1 h=> ?_))))
        refine rg tT ⟨[(3,(vP 403 0)),(aK s_),qg,(wX u2),(9,(vB u6)),(10,(vI u0)),(BO p u0),(13,(vP 800 0)),(zf p),(zq p),(28,(vI u0)),(Fe p u0),(49,(vI u1))],[(Lu p),(405,some (bU 141 3 Way.cell u2)),(800,some (.cells 164 [(cI (ab4 p u0 u1)),(cI (Zf p u0 u1))]))]⟩ [_,u1.toNat*2+2≤(ab5 p u0).length,((ab5 p u0).drop (u1.toNat*2)).take 2=(ahf p u0 u1).map .d] {an:=[(0, .vals (ahf p u0 u1))],fr:=[(1,800)] } [] ⟨a1,(Wq (n:=2) (sz:=2) (Nat.le_refl _) a1),(Xd (n:=2) (sz:=2) (g:=fun q=>[(cI ((at' [(aaS p u0),(ab0 p u0)] q).e0)),(cI ((at' [(aaS p u0),(ab0 p u0)] q).e1))]) (by intro q hq;match q,hq with|0,_=>rfl|1,_=>rfl) a1),trivial⟩ ?_
        refine aQ (aO h fun a1 h=> ?_)
        refine dg tT mX ⟨[(3,(vP 403 0)),(aK s_),qg,(wX u2),(9,(vB u6)),(10,(vI u0)),(BO p u0),(adA p u0 u1 u2),(WJ p u0 u1),(zf p),(zq p),(28,(vI u0)),(Fe p u0),(49,(vI u1))],(BG u2 p)⟩ [(0:Int)≤0∧(0:Int)<(2:Nat),_,_,(0:Int)≤1∧(1:Int)<(2:Nat)] {fr:=[(7,801)] } [801] ⟨((by decide)),a1,(tL a1),((by decide)),trivial⟩ ?_
        refine aQ (sz tT ⟨[(3,(vP 403 0)),(aK s_),qg,(wX u2),(9,(vB u6)),(10,(vI u0)),(BO p u0),(adA p u0 u1 u2),(WJ p u0 u1),(zf p),(zq p),(28,(vI u0)),(Fe p u0),(49,(vI u1)),(61,(vB (!(aec p u0 u1 u2))))],(BG u2 p)⟩ {} [] ?_)
        refine bI h (fun hb1 h=> ?_) (fun hb1 h=> ?_)
        ·refine ct hb1 ?_
         refine aX (rz tT (aia p s_ u0 u1 u2 u6) {} [] ?_)
         obtain rfl:=oi h
         exact lN
        ·refine cf hb1 ?_
         refine aP (aQ (bE h fun u4 hr_1 h=> ?_))
         refine aO h fun⟨a1,a2⟩ h=> ?_
         have q0:=rk [(0,802)] (xk (adM p u0 u1 u2) hr_1)
         refine di tT mX ⟨[(3,(vP 403 0)),(aK s_),qg,(wX u2),(9,(vB u6)),(10,(vI u0)),(BO p u0),(WJ p u0 u1),(16,(vP 805 0)),(zf p),(zq p),(28,(vI u0)),(Fe p u0),(49,(vI u1))],[(Lu p),(405,some (bU 141 3 Way.cell u2)),(805,some (.cells 141 [(cB true),(cI (ac7 p u0 u1 u2)),(.d (aU none 1 (au .i64) (u4++[u0])))]))]⟩ [_,[u0].length=1,aH 1 1 (iZ 1 [(.int .i64 u0)]) (aC (au .i64) [u0]),u4.length=u4.length,_,_,(u4++[u0]).length=u4.length+[u0].length,aH (u4.length+[u0].length) 1 (Eg (aC (au .i64) u4) u4.length (aC (au .i64) [u0])) (aC (au .i64) (u4++[u0])),(u4++[u0]).length=(u4++[u0]).length] {an:=[(7,cA q0 []),(9, .arr [u0].length (aC (au .i64) [u0])),(10, .arr (u4++[u0]).length (aC (au .i64) (u4++[u0])))],fr:=[(9,803),(10,804),(12,805)] } [804] ⟨q0,(rfl),((by intro i hi j hj;match i,j,hi,hj with|0,0,_,_=>rfl)),rfl,a1,a2,(List.length_append),(kS _ _ _ _),rfl,trivial⟩ (fz ⟨[(3,(vP 403 0)),(aK s_),qg,(wX u2),(9,(vB u6)),(10,(vI u0)),(BO p u0),(WJ p u0 u1),(aiB p u0 u1 u2 u4),(zf p),(zq p),(28,(vI u0)),(Fe p u0),(49,(vI u1))],(BG u2 p)⟩ [805]) ?_
         refine aQ (bE h fun v2 hr_2 h=> ?_)
         refine aO h fun a1 h=> ?_
         have q2:=Gu (afP p u0 u1 u2 u4) (at' u2 (acj p u0 u1)) hr_2
         refine dg tT mX ⟨[(3,(vP 403 0)),(aK s_),qg,(wX u2),(9,(vB u6)),(10,(vI u0)),(BO p u0),(WJ p u0 u1),(aiB p u0 u1 u2 u4),(zf p),(zq p),(28,(vI u0)),(Fe p u0),(49,(vI u1)),(80,(vB v2))],(BG u2 p)⟩ [_,_,_] {an:=[(6,cA q2 [])] } [] ⟨a1,(tL a1),q2,trivial⟩ ?_
         refine bI h (fun hb h=> ?_) (fun hb h=> ?_)
         ·refine ct hb ?_
          refine aQ (aO h fun a1 h=> ?_)
          refine ri tT ⟨[(3,(vP 403 0)),(aK s_),qg,(wX u2),(10,(vI u0)),(BO p u0),(zf p),(zq p),(28,(vI u0)),(Fe p u0),(49,(vI u1))],[(Lu p),(405,some (.arr 141 3 u2.length (abR p u0 u1 u2 u4)))]⟩ [_,_,aH u2.length 3 (kK (aC Way.cell u2) (acj p u0 u1) 0 (aie p u0 u1 u2 u4)) (abR p u0 u1 u2 u4)] {an:=[(4, .arr 0 (abR p u0 u1 u2 u4))] } [] ⟨a1,(tL a1),(bL _ _ _ _ _ _ _ _ rfl (fun j hj=>(match j,hj with|0,_=>rfl|1,_=>rfl|2,_=>rfl))),trivial⟩ (bH.le (st':=⟨[(3,(vP 403 0)),(aK s_),qg,(ac9 p u0 u1 u2 u4),(10,(vI u0)),(BO p u0),(zf p),(zq p),(28,(vI u0)),(Fe p u0),(49,(vI u1))],(acy p u0 u1 u2 u4)⟩) ⟨⟨tR,tR,tR,⟨_,rfl,dh.v (dX.one cW)⟩,tR,tR,tR,tR,tR,tR,tR,trivial⟩,⟨rfl, .refl _,⟨rfl,oW,trivial⟩⟩⟩) ?_
          refine rz tT ⟨[(3,(vP 403 0)),(aK s_),qg,(ac9 p u0 u1 u2 u4),(9,(vB true)),(10,(vI u0)),(BO p u0),(zf p),(zq p),(28,(vI u0)),(Fe p u0),(49,(vI u1))],(acy p u0 u1 u2 u4)⟩ {} [] ?_
          refine rz tT ⟨[(3,(vP 403 0)),(aK s_),qg,(ac9 p u0 u1 u2 u4),(9,(vB true)),(10,(vI u0)),(BO p u0),(zf p),(zq p),(28,(vI u0)),(Fe p u0),(49,(k3 u1))],(acy p u0 u1 u2 u4)⟩ {} [] ?_
          obtain rfl:=oi h
          exact lN
         ·refine cf hb ?_
          refine aP (rz tT (aia p s_ u0 u1 u2 u6) {} [] ?_)
          obtain rfl:=oi h
          exact lN
       ·refine cf hb2 ?_
        refine aI (fz (adg p s_ u2 u6 u0) []) ?_
        refine aX ?_
        obtain rfl:=oi h
        exact lB
      ·clear hy
       cases y with
       |brk z=>
        obtain⟨v0,v3⟩:=z
        unfold dA
        refine⟨_, .refl, ?_⟩
        refine rz tT (adr p s_ v0 v3 u0) {} [] ?_
        obtain rfl:=oi h
        exact lN
       |ret v=>
        obtain rfl:=oi h
        unfold dA
        intro e st hn ha hR
        cases e with
        |normal=>exact absurd rfl hn
        |exit id=>simp only [qX (b:=3) ha rfl,cond_false];exact hR
        |goto l=>exact hR
        |ret=>exact hR
        |panic c=>exact hR
        |outgrown=>exact hR
    ·refine cf hb4 ?_
     refine aI (fz (aaw u5 p s_ u8) []) ?_
     refine aX ?_
     obtain rfl:=oi h
     exact lB
   ·clear hy
    cases y1 with
    |brk z=>
     obtain⟨v4,v5⟩:=z
     unfold dA
     refine⟨_, .refl, ?_⟩
     obtain rfl:=oi h
     exact lN
    |ret v=>
     obtain rfl:=oi h
     unfold dA
     intro e st hn ha hR
     cases e with
     |normal=>exact absurd rfl hn
     |exit id=>simp only [qX (b:=1) ha rfl,cond_false];exact hR
     |goto l=>exact hR
     |ret=>exact hR
     |panic c=>exact hR
     |outgrown=>exact hR
  ·refine cf hb5 ?_
   refine aI (fz ⟨[(wX u7)],[(405,some (bU 141 3 Way.cell u7))]⟩ []) ?_
   refine aX ?_
   obtain rfl:=oi h
   exact lB
 ·clear hy
  cases y2 with
  |brk z=>
   obtain⟨u9,rfl⟩: ∃q,q=z:=⟨_,rfl⟩
   unfold dA
   refine⟨_, .refl, ?_⟩
   refine sz tT ⟨[(6,(vO 405 true u9.length))],[(405,some (bU 141 3 Way.cell u9))]⟩ {} [] ?_
   refine aI (bH.fin (st':=⟨[(6,(vO 0 true u9.length))],[(0,some (bU 141 3 Way.cell u9))]⟩) (cs:=[]) ⟨[],[(405,0)]⟩ [6] (by kernel_rfl) trivial) ?_
   refine aR ?_
   obtain rfl:=oi h
   exact rl [(.one (.own 0 true u9.length))]
  |ret v=>
   obtain rfl:=oi h
   unfold dA
   intro e st hn ha hR
   cases e with
   |normal=>exact absurd rfl hn
   |exit id=>exact hR
   |goto l=>exact hR
   |ret=>exact hR
   |panic c=>exact hR
   |outgrown=>exact hR
def rV  :((List Short) × Int)→Exit→St→Prop:=
  fun r=>aW TT [.tmp 6, .tmp 7] (.iq [(sD (aU none 4 Short.cell r.1)),(sI r.2)]) []
section
variable (u0:(List Short)) (p:ah)
abbrev Lh:Nat × TV:=(9,(vO 28 false u0.length))
abbrev FI:Nat × TV:=(29,(vD (aU none 5 Source.cell p.sources)))
abbrev Ff:Nat × TV:=(30,(vI (p.sources.length:Int)))
abbrev Ll:List (Nat × Option Ob):=[(28,some (bU 47 4 Short.cell u0))]
end
def zk (p:ah) (s_:State) (u1:Int):((List Short) × Int)→St:=
  fun zz=>match zz with|(u0,u2)=> ⟨[(2,(vI u1)),(aD p),(aK s_),(Lh u0),(FI p),(Ff p),(31,(vI u2))],(Ll u0)⟩
def yS  :(List Short)→St:=
  fun u0=> ⟨[(Lh u0)],(Ll u0)⟩
def GY (p:ah) (s_:State) (u0:Int):(aJ ((List Short) × Int) (Ex (List Short) ((List Short) × Int)))→Exit→St→Prop:=
  LQ 0 [] (zk p s_ u0) yS rV
section
variable (p:ah) (u1:Int) (u0:Int) (s_:State) (u3:(List Short)) (u2:(List Way))
abbrev WW:List (Nat × Option Ob):=[(22,some (YV p))]
abbrev YQ:Nat × TV:=(11,(k37 p u1))
abbrev adY:St:=⟨[(2,(vI u0)),(aD p),(aK s_),(Lh u3),(FI p),(Ff p),(31,(k3 u1))],(Ll u3)⟩
abbrev aa8:Nat × TV:=(12,(vD (l8 [(.bool ((at' u2 u0.toNat).there)),(.int .i64 ((at' u2 u0.toNat).fT)),(aU none 1 (au .i64) ((at' u2 u0.toNat).links))] 0)))
abbrev VW:=(IntKind.wrap .i64 (((at' p.sources u1.toNat).fT)+((at' u2 u0.toNat).fT)))
abbrev ahV:=(IntKind.wrap .i64 (Int.tdiv (IntKind.wrap .i64 ((IntKind.wrap .i64 ((400000:Int)+(VW p u1 u0 u2))) - 1)) (VW p u1 u0 u2)))
abbrev Tg:=(⟨u1,(VW p u1 u0 u2),(ahV p u1 u0 u2),(at' u2 u0.toNat).links⟩:Short)
abbrev Xv:=(u3++[(Tg p u1 u0 u2)])
abbrev afY:=((Xv p u1 u0 u3 u2).length)
abbrev af3:Nat × TV:=(9,(vO 43 false (afY p u1 u0 u3 u2)))
abbrev afp:Ob:=(bU 47 4 Short.cell (Xv p u1 u0 u3 u2))
abbrev afu:List (Nat × Option Ob):=[(43,some (afp p u1 u0 u3 u2))]
abbrev aaW:=(aC Short.cell [(Tg p u1 u0 u2)])
abbrev adK:=(aC Short.cell (Xv p u1 u0 u3 u2))
end
theorem mZ (p:ah) (s_:State) (u0:Int) {r:((List Short) × Int)} (h:kQ p s_ u0=some r):Fn Try.prog 17 (Ng p s_ u0) [] (.iq [(sD (aU none 4 Short.cell r.1)),(sI r.2)]) []:=by
 refine fN tT Try.func17 rfl rfl fun B=> ?_
 show bn _ _ _ _ _ _ (rV r) _
 unfold kQ at h
 refine sz tT ⟨[(2,(vI u0)),(3,(vP 22 0)),(aK s_)],(WW p)⟩ {fr:=[(0,22),(1,23)] } [23] ?_
 refine aQ (aQ (bE h fun r_ hr_ h=> ?_))
 have q0:=fE p s_ hr_
 refine rg tT ⟨[(2,(vI u0)),(3,(vP 22 0)),(aK s_),(8,(vI r_))],(WW p)⟩ [_] {an:=[(2,cA q0 [])] } [] ⟨q0,trivial⟩ ?_
 refine sz tT ⟨[(2,(vI u0)),(3,(vP 22 0)),(aK s_),(8,(vI r_)),(18,(vB (!decide (r_=0))))],(WW p)⟩ {} [] ?_
 refine bI h (fun hb4 h=> ?_) (fun hb4 h=> ?_)
 ·refine ct hb4 ?_
  refine sz tT ⟨[(6,(vD nS)),(7,(vI r_))],[]⟩ {} [] ?_
  refine aI (bH.le (st':=⟨[(6,(vD (aU none 4 Short.cell ([]:List Short)))),(7,(vI r_))],[]⟩) ⟨⟨⟨_,rfl,dh.v (dX.one (dD.d gG.nil'))⟩,tR,trivial⟩,trivial⟩) ?_
  refine aR ?_
  obtain rfl:=oi h
  exact rl [(sD (aU none 4 Short.cell ([]:List Short))),(sI r_)]
 ·refine cf hb4 ?_
  refine aP (aQ (sg tT ⟨[(2,(vI u0)),(3,(vP 22 0)),(aK s_),(27,(vB (bif (decide (u0<0))then true else(decide (p.buses≤u0)))))],(WW p)⟩ (eqs (decide (u0<0)) 5 []) {yb:=[(2,(decide (u0<0)))] } [] (ae trivial) ?_))
  refine bI h (fun hb3 h=> ?_) (fun hb3 h=> ?_)
  ·refine ct hb3 ?_
   refine sz tT ⟨[(6,(vD nS)),(7,(vI 1))],[]⟩ {} [] ?_
   refine aI (bH.le (st':=⟨[(6,(vD (aU none 4 Short.cell ([]:List Short)))),(7,(vI 1))],[]⟩) ⟨⟨⟨_,rfl,dh.v (dX.one (dD.d gG.nil'))⟩,tR,trivial⟩,trivial⟩) ?_
   refine aR ?_
   obtain rfl:=oi h
   exact rl [(sD (aU none 4 Short.cell ([]:List Short))),(sI 1)]
  ·refine cf hb3 ?_
   refine aP (sz tT ⟨[(2,(vI u0)),(3,(vP 22 0)),(aK s_),(9,(vD nS))],(WW p)⟩ {} [] ?_)
   refine aQ (sz tT ⟨[(2,(vI u0)),(aD p),(aK s_),(9,(vD nS)),(FI p),(Ff p),(31,(vI 0))],[]⟩ {} [22] ?_)
   refine bE h fun y hy h=> ?_
   refine aI (.trans (bH.WK (t:=9) (b:=44) (esz0:=0) (el0:=fun _ _=> .nilp) (E:=47) (esz:=4) (el:=aC Short.cell ([]:List Short)) (by kernel_rfl) (by kernel_rfl)) (.trans (bH.fin (st':=⟨[(2,(vI u0)),(aD p),(aK s_),(9,(vO 28 false 0)),(FI p),(Ff p),(31,(vI 0))],[(28,some (.arr 47 4 0 (aC Short.cell ([]:List Short))))]⟩) (cs:=[]) ⟨[],[(44,28)]⟩ [2,3,4,9,29,30,31] (by kernel_rfl) trivial) (bH.le (st':=⟨[(2,(vI u0)),(aD p),(aK s_),(9,(vO 28 false (([]:List Short).length))),(FI p),(Ff p),(31,(vI 0))],[(28,some (bU 47 4 Short.cell ([]:List Short)))]⟩) ⟨⟨tR,tR,tR,⟨_,rfl,dh.v (dX.one cW)⟩,tR,tR,tR,trivial⟩,⟨rfl,oW,trivial⟩⟩))) ?_
   refine aL [] (zk p s_ u0) yS rV hy (fun s f h=> ?_) ?_
   ·clear hy
    show bn _ _ _ _ _ _ ((GY p s_ u0) f) _
    unfold zu at h
    obtain⟨u3,u1⟩:=s
    refine sz tT ⟨[(2,(vI u0)),(aD p),(aK s_),(Lh u3),(FI p),(Ff p),(31,(vI u1)),(32,(k36 p u1))],(Ll u3)⟩ {} [] ?_
    refine aQ ?_
    refine bI h (fun hb2 h=> ?_) (fun hb2 h=> ?_)
    ·refine ct hb2 ?_
     refine aP (aQ (aB (aQ (aO h fun a1 h=> ?_))))
     refine rg tT ⟨[(2,(vI u0)),(aD p),(aK s_),(Lh u3),(10,(vI u1)),(YQ p u1),(FI p),(Ff p),(31,(vI u1))],(Ll u3)⟩ [_] {fr:=[(3,39)] } [39] ⟨a1,trivial⟩ ?_
     refine aQ (aQ (bE h fun u5 hr_1 h=> ?_))
     refine aO h fun a1 h=> ?_
     refine rg tT ⟨[(2,(vI u0)),(aD p),(aK s_),(Lh u3),(10,(vI u1)),(YQ p u1),(FI p),(Ff p),(31,(vI u1)),(47,(vB (bif (at' s_.badBus u0.toNat)then true else(!u5))))],(Ll u3)⟩ (_::(eqs (at' s_.badBus u0.toNat) 4 ((gP (fQ [(5,(at' s_.badBus u0.toNat))]) [(5,false)]→All [Fn Try.prog 65 (Ng p s_ u1) [] (vB u5) []])::(eqs (at' s_.badBus u0.toNat) 2 [])))) {yb:=[(5,(at' s_.badBus u0.toNat))],an:=[(9, .call [] (vB u5) [])] } [] ⟨a1,(ae ⟨(fun hg=> ⟨(fC p s_ u1 (dU hr_1 (aM hg))),trivial⟩),(ae trivial)⟩)⟩ ?_
     refine bI h (fun hb1 h=> ?_) (fun hb1 h=> ?_)
     ·refine ct hb1 ?_
      refine aX (rz tT (adY p u1 u0 s_ u3) {} [] ?_)
      obtain rfl:=oi h
      exact lN
     ·refine cf hb1 ?_
      refine aP (aQ (bE h fun u2 hr_2 h=> ?_))
      refine aO h fun a1 h=> ?_
      have q0:=rk [(0,40)] (Gp p s_ (XM p u1) hr_2)
      refine rg tT ⟨[(2,(vI u0)),(aD p),(aK s_),(Lh u3),(10,(vI u1)),(YQ p u1),(aa8 u0 u2),(FI p),(Ff p),(31,(vI u1))],(Ll u3)⟩ [_,_,_] {an:=[(4,cA q0 [])],fr:=[(8,41)] } [41] ⟨q0,a1,(tL a1),trivial⟩ ?_
      refine sz tT ⟨[(2,(vI u0)),(aD p),(aK s_),(Lh u3),(10,(vI u1)),(YQ p u1),(aa8 u0 u2),(FI p),(Ff p),(31,(vI u1)),(57,(vB ((at' u2 u0.toNat).there)))],(Ll u3)⟩ {} [] ?_
      refine bI h (fun hb h=> ?_) (fun hb h=> ?_)
      ·refine ct hb ?_
       refine sz tT ⟨[(2,(vI u0)),(aD p),(aK s_),(Lh u3),(10,(vI u1)),(aa8 u0 u2),(13,(vI (VW p u1 u0 u2))),(FI p),(Ff p),(31,(vI u1))],(Ll u3)⟩ {} [] ?_
       refine aO h fun⟨a1,a2,a3⟩ h=> ?_
       refine dg tT mX ⟨[(2,(vI u0)),(aD p),(aK s_),(af3 p u1 u0 u3 u2),(FI p),(Ff p),(31,(vI u1))],(afu p u1 u0 u3 u2)⟩ [_,[(Tg p u1 u0 u2)].length=1,aH 1 4 (iZ 4 [(.int .i64 u1),(.int .i64 (VW p u1 u0 u2)),(.int .i64 (ahV p u1 u0 u2)),(aU none 1 (au .i64) ((at' u2 u0.toNat).links))]) (aaW p u1 u0 u2),u3.length=u3.length,_,_,(Xv p u1 u0 u3 u2).length=u3.length+[(Tg p u1 u0 u2)].length,aH (u3.length+[(Tg p u1 u0 u2)].length) 4 (Eg (aC Short.cell u3) u3.length (aaW p u1 u0 u2)) (adK p u1 u0 u3 u2)] {an:=[(11, .arr [(Tg p u1 u0 u2)].length (aaW p u1 u0 u2)),(12, .arr (Xv p u1 u0 u3 u2).length (adK p u1 u0 u3 u2))],fr:=[(11,42),(12,43)] } [] ⟨a1,(rfl),((by intro i hi j hj;match i,j,hi,hj with|0,0,_,_=>rfl|0,1,_,_=>rfl|0,2,_,_=>rfl|0,3,_,_=>rfl)),rfl,a2,a3,(List.length_append),(kS _ _ _ _),trivial⟩ ?_
       refine ri tT ⟨[(2,(vI u0)),(aD p),(aK s_),(af3 p u1 u0 u3 u2),(FI p),(Ff p),(31,(k3 u1))],(afu p u1 u0 u3 u2)⟩ [] {} [] trivial (bH.fin (st':=⟨[(2,(vI u0)),(aD p),(aK s_),(9,(vO 28 false (afY p u1 u0 u3 u2))),(FI p),(Ff p),(31,(k3 u1))],[(28,some (afp p u1 u0 u3 u2))]⟩) (cs:=[]) ⟨[],[(43,28)]⟩ [2,3,4,9,29,30,31] (by kernel_rfl) trivial) ?_
       obtain rfl:=oi h
       exact lN
      ·refine cf hb ?_
       refine aP (rz tT (adY p u1 u0 s_ u3) {} [] ?_)
       obtain rfl:=oi h
       exact lN
    ·refine cf hb2 ?_
     refine aI (fz ⟨[(Lh u3)],(Ll u3)⟩ []) ?_
     refine aX ?_
     obtain rfl:=oi h
     exact lB
   ·clear hy
    cases y with
    |brk z=>
     obtain⟨u4,rfl⟩: ∃q,q=z:=⟨_,rfl⟩
     unfold dA
     refine⟨_, .refl, ?_⟩
     refine sg tT ⟨[(6,(vD (aU none 4 Short.cell u4))),(7,(vI 0))],[]⟩ [u4.length=u4.length] {} [28] ⟨rfl,trivial⟩ ?_
     refine aR ?_
     obtain rfl:=oi h
     exact rl [(sD (aU none 4 Short.cell u4)),(sI 0)]
    |ret v=>
     obtain rfl:=oi h
     unfold dA
     intro e st hn ha hR
     cases e with
     |normal=>exact absurd rfl hn
     |exit id=>exact hR
     |goto l=>exact hR
     |ret=>exact hR
     |panic c=>exact hR
     |outgrown=>exact hR
def qR  :Int→Exit→St→Prop:=
  fun r=>aW TT [.tmp 4] (vI r) []
def xX (s_:(List Int)) (v_:Int):Int→St:=
  fun t8=> ⟨[(jk s_),(1,(vI v_)),(oU s_),(8,(vI t8))],[]⟩
def xB  :Unit→St:=
  fun _=> ⟨[],[]⟩
def FL (s_:(List Int)) (v_:Int):(aJ Int (Ex Unit Int))→Exit→St→Prop:=
  LQ 0 [] (xX s_ v_) xB qR
theorem FM (s_:(List Int)) (v_:Int) {r:Int} (h:wh s_ v_=some r):Fn Try.prog 114 [(sD (vk s_)),(sI v_)] [] (vI r) []:=by
 refine fN tT Try.func114 rfl rfl fun B=> ?_
 show bn _ _ _ _ _ _ (qR r) _
 unfold wh at h
 refine sz tT ⟨[(jk s_),(1,(vI v_))],[]⟩ {} [] ?_
 refine aQ (sz tT ⟨[(jk s_),(1,(vI v_)),(oU s_),(8,(vI 0))],[]⟩ {} [] ?_)
 refine bE h fun y hy h=> ?_
 refine aL [] (xX s_ v_) xB qR hy (fun s f h=> ?_) ?_
 ·clear hy
  show bn _ _ _ _ _ _ ((FL s_ v_) f) _
  unfold xP at h
  obtain⟨t8,rfl⟩: ∃q,q=s:=⟨_,rfl⟩
  refine sz tT ⟨[(jk s_),(1,(vI v_)),(oU s_),(8,(vI t8)),(VH t8 s_)],[]⟩ {} [] ?_
  refine aQ ?_
  refine bI h (fun hb1 h=> ?_) (fun hb1 h=> ?_)
  ·refine ct hb1 ?_
   refine aP (aQ (aB (sz tT ⟨[(jk s_),(1,(vI v_)),(5,(vI t8)),(oU s_),(8,(vI t8))],[]⟩ {} [] ?_)))
   refine aQ (aO h fun a1 h=> ?_)
   refine rg tT ⟨[(jk s_),(1,(vI v_)),(5,(vI t8)),(oU s_),(8,(vI t8)),(16,(vB (decide (v_=(at' s_ t8.toNat)))))],[]⟩ [_] {} [] ⟨a1,trivial⟩ ?_
   refine bI h (fun hb h=> ?_) (fun hb h=> ?_)
   ·refine ct hb ?_
    refine sz tT ⟨[(4,(vI t8))],[]⟩ {} [] ?_
    refine aR ?_
    obtain rfl:=oi h
    exact lR bD (bC 0) bG (aW.mk (.inr rfl) (p:=[]) (l:=[(sI t8)]) (by kernel_rfl) trivial (dh.refl _) trivial)
   ·refine cf hb ?_
    refine aP (rz tT ⟨[(jk s_),(1,(vI v_)),(oU s_),(Ul t8)],[]⟩ {} [] ?_)
    obtain rfl:=oi h
    exact lN
  ·refine cf hb1 ?_
   refine aI (fz ⟨[],[]⟩ []) ?_
   refine aX ?_
   obtain rfl:=oi h
   exact lB
 ·clear hy
  cases y with
  |brk z=>
   unfold dA
   refine⟨_, .refl, ?_⟩
   refine sz tT ⟨[(4,(vI (-1)))],[]⟩ {} [] ?_
   refine aR ?_
   obtain rfl:=oi h
   exact rl [(sI (-1))]
  |ret v=>
   obtain rfl:=oi h
   unfold dA
   intro e st hn ha hR
   cases e with
   |normal=>exact absurd rfl hn
   |exit id=>exact hR
   |goto l=>exact hR
   |ret=>exact hR
   |panic c=>exact hR
   |outgrown=>exact hR
def CW  :Bool→Exit→St→Prop:=
  fun r=>aW TT [.tmp 4] (vB r) []
theorem BZ (s_:(List Int)) (v_:Int) {r:Bool} (h:pz s_ v_=some r):Fn Try.prog 69 [(sD (vk s_)),(sI v_)] [] (vB r) []:=by
 refine fN tT Try.func69 rfl rfl fun B=> ?_
 show bn _ _ _ _ _ _ (CW r) _
 unfold pz at h
 refine sz tT ⟨[(jk s_),(1,(vI v_))],[]⟩ {} [] ?_
 refine aQ (bE h fun r_ hr_ h=> ?_)
 have q0:=FM s_ v_ hr_
 refine rg tT (k89 r_) [_] {an:=[(2,cA q0 [])] } [] ⟨q0,trivial⟩ ?_
 refine aR ?_
 obtain rfl:=oi h
 exact rl [(sB (decide (0≤r_)))]
section
variable (o_:(List Int))
abbrev Cz:Ob:=(bU 3 1 (au .i64) o_)
abbrev wW:List (Nat × Option Ob):=[(0,some (.cells 40 [(.own 1 true o_.length)])),(1,some (Cz o_))]
end
def EY (o_:(List Int)):Bool→Exit→St→Prop:=
  fun r=>aW TT [.tmp 3] (vB r) (wW o_)
theorem Dx (i:Int) (o_:(List Int)) {r:Bool} (h:qF i o_=some r):Fn Try.prog 68 [(sI i),(.one (.ptr 0 0))] (wW o_) (vB r) (wW o_):=by
 refine fN tT Try.func68 rfl rfl fun B=> ?_
 show bn _ _ _ _ _ _ ((EY o_) r) _
 unfold qF at h
 refine sz tT ⟨[(0,(vI i)),(1,(vP 0 0))],(wW o_)⟩ {} [] ?_
 refine sg tT ⟨[(3,(vB (bif (decide (i<0))then true else(decide ((o_.length:Int)≤i)))))],(wW o_)⟩ (eqs (decide (i<0)) 5 []) {yb:=[(2,(decide (i<0)))] } [] (ae trivial) ?_
 refine aR ?_
 obtain rfl:=oi h
 exact rl [(sB (bif (decide (i<0))then true else(decide ((o_.length:Int)≤i))))]
def jP (o_:(List Int)):Int→Exit→St→Prop:=
  fun r=>aW TT [.tmp 4] (vI r) (wW o_)
abbrev Q9:Nat × TV:=(1,(.v (.one (.fn 68 0 1 (BF [(.ptr 0 0)])))))
def ol (s_:(List Int)) (o_:(List Int)):Int→St:=
  fun t8=> ⟨[(jk s_),Q9,(oU s_),(8,(vI t8))],(wW o_)⟩
section
variable (o_:(List Int))
abbrev ahu:St:=⟨[],(wW o_)⟩
end
def nR (o_:(List Int)):Unit→St:=
  fun _=>(ahu o_)
def yE (s_:(List Int)) (o_:(List Int)):(aJ Int (Ex Unit Int))→Exit→St→Prop:=
  LQ 0 [] (ol s_ o_) (nR o_) (jP o_)
section
variable (s_:(List Int)) (o_:(List Int))
abbrev aey:St:=⟨[(jk s_),Q9],(wW o_)⟩
end
theorem yG (s_:(List Int)) (o_:(List Int)) {r:Int} (h:kU s_ o_=some r):Fn Try.prog 113 [(sD (vk s_)),(.one (.fn 68 0 1 (BF [(.ptr 0 0)])))] (wW o_) (vI r) (wW o_):=by
 refine fN tT Try.func113 rfl rfl fun B=> ?_
 show bn _ _ _ _ _ _ ((jP o_) r) _
 unfold kU at h
 refine sz tT (aey s_ o_) {} [] ?_
 refine aQ (sz tT ⟨[(jk s_),Q9,(oU s_),(8,(vI 0))],(wW o_)⟩ {} [] ?_)
 refine bE h fun y hy h=> ?_
 refine aL [] (ol s_ o_) (nR o_) (jP o_) hy (fun s f h=> ?_) ?_
 ·clear hy
  show bn _ _ _ _ _ _ ((yE s_ o_) f) _
  unfold nO at h
  obtain⟨t8,rfl⟩: ∃q,q=s:=⟨_,rfl⟩
  refine sz tT ⟨[(jk s_),Q9,(oU s_),(8,(vI t8)),(VH t8 s_)],(wW o_)⟩ {} [] ?_
  refine aQ ?_
  refine bI h (fun hb1 h=> ?_) (fun hb1 h=> ?_)
  ·refine ct hb1 ?_
   refine aP (aQ (aB (sz tT ⟨[(jk s_),Q9,(5,(vI t8)),(oU s_),(8,(vI t8))],(wW o_)⟩ {} [] ?_)))
   refine aQ (bE h fun r_ hr_ h=> ?_)
   refine aO h fun a1 h=> ?_
   have q1:=Dx (at' s_ t8.toNat) o_ hr_
   refine rg tT ⟨[(jk s_),Q9,(5,(vI t8)),(oU s_),(8,(vI t8)),(16,(vB r_))],(wW o_)⟩ [_,_] {an:=[(5,cR q1 [0,1])] } [] ⟨a1,q1,trivial⟩ ?_
   refine bI h (fun hb h=> ?_) (fun hb h=> ?_)
   ·refine ct hb ?_
    refine sz tT ⟨[(4,(vI t8))],(wW o_)⟩ {} [] ?_
    refine aR ?_
    obtain rfl:=oi h
    exact lR bD (bC 0) bG (aW.mk (.inr rfl) (p:=[]) (l:=[(sI t8)]) (by kernel_rfl) trivial (dh.refl _) (.refl _))
   ·refine cf hb ?_
    refine aP (rz tT ⟨[(jk s_),Q9,(oU s_),(Ul t8)],(wW o_)⟩ {} [] ?_)
    obtain rfl:=oi h
    exact lN
  ·refine cf hb1 ?_
   refine aI (fz (ahu o_) []) ?_
   refine aX ?_
   obtain rfl:=oi h
   exact lB
 ·clear hy
  cases y with
  |brk z=>
   unfold dA
   refine⟨_, .refl, ?_⟩
   refine sz tT ⟨[(4,(vI (-1)))],(wW o_)⟩ {} [] ?_
   refine aR ?_
   obtain rfl:=oi h
   exact rl [(sI (-1))]
  |ret v=>
   obtain rfl:=oi h
   unfold dA
   intro e st hn ha hR
   cases e with
   |normal=>exact absurd rfl hn
   |exit id=>exact hR
   |goto l=>exact hR
   |ret=>exact hR
   |panic c=>exact hR
   |outgrown=>exact hR
def wZ (o_:(List Int)):Bool→Exit→St→Prop:=
  fun r=>aW TT [.tmp 4] (vB r) (wW o_)
theorem wC (s_:(List Int)) (o_:(List Int)) {r:Bool} (h:jZ s_ o_=some r):Fn Try.prog 67 [(sD (vk s_)),(.one (.fn 68 0 1 (BF [(.ptr 0 0)])))] (wW o_) (vB r) (wW o_):=by
 refine fN tT Try.func67 rfl rfl fun B=> ?_
 show bn _ _ _ _ _ _ ((wZ o_) r) _
 unfold jZ at h
 refine sz tT (aey s_ o_) {} [] ?_
 refine aQ (bE h fun r_ hr_ h=> ?_)
 have q0:=yG s_ o_ hr_
 refine rg tT ⟨[(4,(vB (decide (0≤r_))))],(wW o_)⟩ [_] {an:=[(2,cR q0 [0,1])] } [] ⟨q0,trivial⟩ ?_
 refine aR ?_
 obtain rfl:=oi h
 exact rl [(sB (decide (0≤r_)))]
def qH  :((List Int) × Bool × Int)→Exit→St→Prop:=
  fun r=>aW TT [.tmp 4, .tmp 5] (.iq [(sD (aU (some r.2.1) 1 (au .i64) r.1)),(sI r.2.2)]) []
section
variable (l:(List Short)) (u0:(List Int)) (u1:Int)
abbrev IC:Nat × TV:=(23,(vD (aU none 4 Short.cell l)))
abbrev I8:Nat × TV:=(24,(vI (l.length:Int)))
abbrev Jo:List (Nat × Option Ob):=[(8,some (Cz u0)),(9,some (.cells 40 [(.own 8 true u0.length)]))]
abbrev aaT:St:=⟨[(7,(vP 9 0)),(IC l),(I8 l),(25,(vI u1))],(Jo u0)⟩
end
def xu (l:(List Short)):((List Int) × Int)→St:=
  fun zz=>match zz with|(u0,u1)=>(aaT l u0 u1)
section
variable (u0:(List Int))
abbrev afr:St:=⟨[(7,(vP 9 0))],(Jo u0)⟩
end
def xH  :(List Int)→St:=
  fun u0=>(afr u0)
def pI (l:(List Short)):(aJ ((List Int) × Int) (Ex (List Int) ((List Int) × Bool × Int)))→Exit→St→Prop:=
  LQ 0 [] (xu l) xH qH
section
variable (l:(List Short)) (u0:Int) (u2:(List Int)) (u3:Int)
abbrev Zu:DV:=(aU none 1 (au .i64) ((at' l u0.toNat).links))
abbrev N8:Nat × TV:=(9,(vD (l8 [(.int .i64 ((at' l u0.toNat).source)),(.int .i64 ((at' l u0.toNat).fT)),(.int .i64 ((at' l u0.toNat).amps)),(Zu l u0)] 0)))
abbrev UD:Nat × TV:=(44,(vI (u2.length:Int)))
abbrev aaQ:List (Nat × TV):=[(7,(vP 9 0)),(N8 l u0),(IC l),(I8 l),(25,(vI u0)),(UD u2),(45,(vI u3))]
end
def yg (l:(List Short)) (u2:(List Int)) (u0:Int):((List Int) × Int)→St:=
  fun zz=>match zz with|(u1,u3)=> ⟨(aaQ l u0 u2 u3),(Jo u1)⟩
def xV (l:(List Short)) (u1:Int):(List Int)→St:=
  fun u0=>(aaT l u0 u1)
def E9 (l:(List Short)) (u1:(List Int)) (u0:Int):(aJ ((List Int) × Int) (Ex (List Int) (aJ ((List Int) × Int) (Ex (List Int) ((List Int) × Bool × Int)))))→Exit→St→Prop:=
  LQ 2 [1] (yg l u1 u0) (xV l u0) (pI l)
section
variable (l:(List Short)) (p:ah) (u0:Int) (u1:(List Int)) (u2:Int) (u3:(List Int)) (u4:(List Int))
abbrev I6:Nat × TV:=(1,(vD (aU none 4 Short.cell l)))
abbrev TM:DV:=(aU (some false) 1 (au .i64) ([]:List Int))
abbrev Rb:=((p.links.length:Int).toNat)
abbrev NH:=(List.replicate (Rb p) (0:Int))
abbrev abH:Ob:=(bU 3 1 (au .i64) (NH p))
abbrev Ws:=((NH p).length)
abbrev aed:List (Nat × Option Ob):=[(8,some (abH p)),(9,some (.cells 40 [(.own 8 true (Ws p))]))]
abbrev Tp:=(aC (au .i64) (NH p))
abbrev Ux:=(bif (decide (((at' l u0.toNat).amps)<0))then true else(decide (1000000<((at' l u0.toNat).amps))))
abbrev abZ:=(u1.set u2.toNat (IntKind.wrap .i64 ((at' u1 u2.toNat)+((at' l u0.toNat).amps))))
abbrev aaU:=(aC (au .i64) (abZ l u0 u1 u2))
abbrev agA:List (Nat × Option Ob):=[(8,some (bU 3 1 (au .i64) (abZ l u0 u1 u2))),(9,some (.cells 40 [(.own 8 true ((abZ l u0 u1 u2).length))]))]
abbrev ad7:List (Nat × TV):=[(7,(vP 9 0)),(N8 l u0),(IC l),(I8 l),(25,(vI u0)),(UD u3),(45,(k3 u2))]
abbrev TN:DV:=(aU (some true) 1 (au .i64) u4)
end
theorem lH (p:ah) (l:(List Short)) {r:((List Int) × Bool × Int)} (h:jJ p l=some r):Fn Try.prog 18 [(.agg (k7 p)),(sD (aU none 4 Short.cell l))] [] (.iq [(sD (aU (some r.2.1) 1 (au .i64) r.1)),(sI r.2.2)]) []:=by
 refine fN tT Try.func18 rfl rfl fun B=> ?_
 show bn _ _ _ _ _ _ (qH r) _
 unfold jJ at h
 refine sz tT ⟨[(I6 l),(k9 p)],[]⟩ {fr:=[(0,7)] } [7] ?_
 refine aQ (aQ (bE h fun r_ hr_ h=> ?_))
 have q0:=zH p hr_
 refine rg tT ⟨[(I6 l),(k9 p),(6,(vI r_))],[]⟩ [_] {an:=[(1,cA q0 [])] } [] ⟨q0,trivial⟩ ?_
 refine sz tT ⟨[(I6 l),(k9 p),(6,(vI r_)),(14,(vB (!decide (r_=0))))],[]⟩ {} [] ?_
 refine bI h (fun hb5 h=> ?_) (fun hb5 h=> ?_)
 ·refine ct hb5 ?_
  refine sz tT ⟨[(4,(vD nS)),(5,(vI r_))],[]⟩ {} [] ?_
  refine aI (bH.le (st':=⟨[(4,(vD TM)),(5,(vI r_))],[]⟩) ⟨⟨⟨_,rfl,dh.v (dX.one (dD.d gG.WI))⟩,tR,trivial⟩,trivial⟩) ?_
  refine aR ?_
  obtain rfl:=oi h
  exact rl [(sD TM),(sI r_)]
 ·refine cf hb5 ?_
  refine aP (aQ (sz tT ⟨[(I6 l),(k9 p),(18,(vB (decide (8<(l.length:Int)))))],[]⟩ {} [] ?_))
  refine bI h (fun hb4 h=> ?_) (fun hb4 h=> ?_)
  ·refine ct hb4 ?_
   refine sz tT ⟨[(4,(vD nS)),(5,(vI 1))],[]⟩ {} [] ?_
   refine aI (bH.le (st':=⟨[(4,(vD TM)),(5,(vI 1))],[]⟩) ⟨⟨⟨_,rfl,dh.v (dX.one (dD.d gG.WI))⟩,tR,trivial⟩,trivial⟩) ?_
   refine aR ?_
   obtain rfl:=oi h
   exact rl [(sD TM),(sI 1)]
  ·refine cf hb4 ?_
   refine aP (aQ (aO h fun⟨a1,a2,a3⟩ h=> ?_))
   refine rg tT ⟨[(I6 l),(7,(vP 9 0))],(aed p)⟩ [_,((p.links.length:Int):Int)=(p.links.length:Int),_,_,(NH p).length=(Rb p),aH (Rb p) 1 (fun _ j=>[(.int .i64 0)].getD j .nilp) (Tp p)] {an:=[(3, .arr (NH p).length (Tp p))],fr:=[(3,8),(4,9)] } [] ⟨a1,rfl,a2,a3,(List.length_replicate),(dZ _ _ _ _ _ (fun j hj=>(match j,hj with|0,_=>rfl))),trivial⟩ ?_
   refine aQ (sz tT ⟨[(7,(vP 9 0)),(IC l),(I8 l),(25,(vI 0))],(aed p)⟩ {} [] ?_)
   refine bE h fun y1 hy h=> ?_
   refine aL [] (xu l) xH qH hy (fun s f h=> ?_) ?_
   ·clear hy
    show bn _ _ _ _ _ _ ((pI l) f) _
    unfold xG at h
    obtain⟨u3,u0⟩:=s
    refine sz tT ⟨[(7,(vP 9 0)),(IC l),(I8 l),(25,(vI u0)),(26,(vB (decide (u0<(l.length:Int)))))],(Jo u3)⟩ {} [] ?_
    refine aQ ?_
    refine bI h (fun hb3 h=> ?_) (fun hb3 h=> ?_)
    ·refine ct hb3 ?_
     refine aP (aQ (aB (aQ (aO h fun a1 h=> ?_))))
     refine rg tT ⟨[(7,(vP 9 0)),(N8 l u0),(IC l),(I8 l),(25,(vI u0))],(Jo u3)⟩ [_] {fr:=[(2,13)] } [13] ⟨a1,trivial⟩ ?_
     refine aQ (aQ (bE h fun u5 hr_1 h=> ?_))
     refine rg tT ⟨[(7,(vP 9 0)),(N8 l u0),(IC l),(I8 l),(25,(vI u0)),(42,(vB (bif (Ux l u0)then true else u5)))],(Jo u3)⟩ (eqs (decide (((at' l u0.toNat).amps)<0)) 4 (eqs (Ux l u0) 4 [gP (fQ [(3,(decide (((at' l u0.toNat).amps)<0))),(8,(Ux l u0))]) [(8,false)]→All [Fn Try.prog 67 [(sD (Zu l u0)),(.one (.fn 68 0 1 (BF [(.ptr 9 0)])))] [(9,some (.cells 40 [(.own 8 true u3.length)])),(8,some (Cz u3))] (vB u5) [(9,some (.cells 40 [(.own 8 true u3.length)])),(8,some (Cz u3))]],(Ux l u0)=(Ux l u0)])) {yb:=[(3,(decide (((at' l u0.toNat).amps)<0))),(8,(Ux l u0))],an:=[(12, .callR [9,8] (vB u5))] } [] (ae (ae ⟨(fun hg=> ⟨(rK [(0,9),(1,8)] (wC ((at' l u0.toNat).links) u3 (dU hr_1 (aM hg)))),trivial⟩),rfl,trivial⟩)) ?_
     refine bI h (fun hb2 h=> ?_) (fun hb2 h=> ?_)
     ·refine ct hb2 ?_
      refine sz tT ⟨[(4,(vD nS)),(5,(vI 1))],[]⟩ {} [] ?_
      refine aI (bH.le (st':=⟨[(4,(vD TM)),(5,(vI 1))],[]⟩) ⟨⟨⟨_,rfl,dh.v (dX.one (dD.d gG.WI))⟩,tR,trivial⟩,trivial⟩) ?_
      refine aR ?_
      obtain rfl:=oi h
      exact lR bD (bC 0) bG (aW.mk (.inr rfl) (p:=[]) (l:=[(sD TM),(sI 1)]) (by kernel_rfl) trivial (dh.refl _) trivial)
     ·refine cf hb2 ?_
      refine aP (sz tT ⟨[(7,(vP 9 0)),(N8 l u0),(IC l),(I8 l),(25,(vI u0)),(UD u3),(45,(vI 0))],(Jo u3)⟩ {} [] ?_)
      refine bE h fun y hy h=> ?_
      refine aL [1] (yg l u3 u0) (xV l u0) (pI l) hy (fun s f h=> ?_) ?_
      ·clear hy
       show bn _ _ _ _ _ _ ((E9 l u3 u0) f) _
       unfold xW at h
       obtain⟨u1,u2⟩:=s
       refine sz tT ⟨[(7,(vP 9 0)),(N8 l u0),(IC l),(I8 l),(25,(vI u0)),(UD u3),(45,(vI u2)),(46,(Xg u2 u3))],(Jo u1)⟩ {} [] ?_
       refine aQ ?_
       refine bI h (fun hb1 h=> ?_) (fun hb1 h=> ?_)
       ·refine ct hb1 ?_
        refine aP (aQ (aB (sz tT ⟨[(7,(vP 9 0)),(N8 l u0),(10,(vI u2)),(IC l),(I8 l),(25,(vI u0)),(UD u3),(45,(vI u2))],(Jo u1)⟩ {} [] ?_)))
        refine aQ (bE h fun u7 hr_2 h=> ?_)
        have q0:=BZ ((at' l u0.toNat).links) u2 hr_2
        refine rg tT ⟨[(7,(vP 9 0)),(N8 l u0),(10,(vI u2)),(IC l),(I8 l),(25,(vI u0)),(UD u3),(45,(vI u2)),(51,(vB u7))],(Jo u1)⟩ [_] {an:=[(3,cA q0 [])] } [] ⟨q0,trivial⟩ ?_
        refine bI h (fun hb h=> ?_) (fun hb h=> ?_)
        ·refine ct hb ?_
         refine aO h fun a1 h=> ?_
         refine di tT mX ⟨(aaQ l u0 u3 u2),[(8,some (.arr 3 1 u1.length (aaU l u0 u1 u2))),(9,some (.cells 40 [(.own 8 true u1.length)]))]⟩ [_,_,_,_,aH u1.length 1 (kK (aC (au .i64) u1) u2.toNat 0 [(.int .i64 (IntKind.wrap .i64 ((at' u1 u2.toNat)+((at' l u0.toNat).amps))))]) (aaU l u0 u1 u2)] {an:=[(8, .arr 0 (aaU l u0 u1 u2))] } [] ⟨a1,(tL a1),a1,(tL a1),(bL _ _ _ _ _ _ _ _ rfl (fun j hj=>(match j,hj with|0,_=>rfl))),trivial⟩ (bH.le (st':=⟨(aaQ l u0 u3 u2),(agA l u0 u1 u2)⟩) ⟨⟨tR,tR,tR,tR,tR,tR,tR,trivial⟩,⟨rfl,oW,⟨rfl,bA ⟨cW,trivial⟩,trivial⟩⟩⟩) ?_
         refine rz tT ⟨(ad7 l u0 u2 u3),(agA l u0 u1 u2)⟩ {} [] ?_
         obtain rfl:=oi h
         exact lN
        ·refine cf hb ?_
         refine aP (rz tT ⟨(ad7 l u0 u2 u3),(Jo u1)⟩ {} [] ?_)
         obtain rfl:=oi h
         exact lN
       ·refine cf hb1 ?_
        refine aI (fz (aaT l u1 u0) []) ?_
        refine aX ?_
        obtain rfl:=oi h
        exact lB
      ·clear hy
       cases y with
       |brk z=>
        obtain⟨u6,rfl⟩: ∃q,q=z:=⟨_,rfl⟩
        unfold dA
        refine⟨_, .refl, ?_⟩
        refine rz tT ⟨[(7,(vP 9 0)),(IC l),(I8 l),(25,(k3 u0))],(Jo u6)⟩ {} [] ?_
        obtain rfl:=oi h
        exact lN
       |ret v=>
        obtain rfl:=oi h
        unfold dA
        intro e st hn ha hR
        cases e with
        |normal=>exact absurd rfl hn
        |exit id=>simp only [qX (b:=1) ha rfl,cond_false];exact hR
        |goto l=>exact hR
        |ret=>exact hR
        |panic c=>exact hR
        |outgrown=>exact hR
    ·refine cf hb3 ?_
     refine aI (fz (afr u3) []) ?_
     refine aX ?_
     obtain rfl:=oi h
     exact lB
   ·clear hy
    cases y1 with
    |brk z=>
     obtain⟨u4,rfl⟩: ∃q,q=z:=⟨_,rfl⟩
     unfold dA
     refine⟨_, .refl, ?_⟩
     refine sg tT ⟨[(4,(vD (TN u4))),(5,(vI 0))],[]⟩ [u4.length=u4.length] {} [8] ⟨rfl,trivial⟩ ?_
     refine aR ?_
     obtain rfl:=oi h
     exact rl [(sD (TN u4)),(sI 0)]
    |ret v=>
     obtain rfl:=oi h
     unfold dA
     intro e st hn ha hR
     cases e with
     |normal=>exact absurd rfl hn
     |exit id=>exact hR
     |goto l=>exact hR
     |ret=>exact hR
     |panic c=>exact hR
     |outgrown=>exact hR
def Hl  :Bool→Exit→St→Prop:=
  fun r=>aW TT [.tmp 4] (vB r) []
theorem lQ (s_:State) (b:Int) {r:Bool} (h:iG s_ b=some r):Fn Try.prog 79 [(.agg (JR s_)),(sI b)] [] (vB r) []:=by
 refine fN tT Try.func79 rfl rfl fun B=> ?_
 show bn _ _ _ _ _ _ (Hl r) _
 unfold iG at h
 refine sz tT ⟨[(1,(vI b)),(2,(ZA s_))],[]⟩ {fr:=[(0,1)] } [1] ?_
 refine aQ (aO h fun a1 h=> ?_)
 refine rg tT ⟨[(4,(vB (bif (decide (0≤b))then(!(at' s_.badBus b.toNat))else false)))],[]⟩ (eqs (decide (0≤b)) 4 ((gP (fQ [(2,(decide (0≤b)))]) [(2,true)]→All [(0:Int)≤b∧b<(s_.badBus.length:Int)])::(eqs (decide (0≤b)) 3 []))) {yb:=[(2,(decide (0≤b)))] } [] (ae ⟨(fun hg=> ⟨(a1 (aM hg)),trivial⟩),(ae trivial)⟩) ?_
 refine aR ?_
 obtain rfl:=oi h
 exact rl [(sB (bif (decide (0≤b))then(!(at' s_.badBus b.toNat))else false))]
def BA  :(Int × Network)→Exit→St→Prop:=
  fun r=>aW TT [.tmp 10] (vI r.1) [(0,some (.cells 161 [(.own 3 false r.2.arcs.length),(.own 2 true r.2.from_.length)])),(1,none),(2,some (.rows 40 1 r.2.from_.length (Ag sP r.2.from_) none)),(3,some (bU 170 2 bJ.cell r.2.arcs))]
section
variable (u0:Network) (b:Int) (u1:Int) (a:Int) (u2:Int)
abbrev VB:Nat × Option Ob:=(1,some (bU 170 2 bJ.cell u0.arcs))
abbrev abn:List (Nat × Option Ob):=[(0,some (.cells 161 [(.own 1 false u0.arcs.length),(.own 2 true u0.from_.length)])),(VB u0),(2,some (.rows 40 1 u0.from_.length (Ag sP u0.from_) none))]
abbrev QZ:=(u0.arcs++[(⟨b,u1⟩:bJ),(⟨a,u2⟩:bJ)])
abbrev YG:=((QZ u0 b u1 a u2).length)
abbrev afD:Nat × Option Ob:=(0,some (.cells 161 [(.own 12 false (YG u0 b u1 a u2)),(.own 2 true u0.from_.length)]))
abbrev Xi:Nat × Option Ob:=(12,some (bU 170 2 bJ.cell (QZ u0 b u1 a u2)))
abbrev Q6:=((at' u0.from_ a.toNat)++[(u0.arcs.length:Int)])
abbrev JW:=(u0.from_.set a.toNat (Q6 u0 a))
abbrev Xf:=(Ag sP (JW u0 a))
abbrev aau:=(aC (au .i64) (Q6 u0 a))
abbrev agK:Nat × Option Ob:=(0,some (.cells 161 [(.own 12 false (YG u0 b u1 a u2)),(.own 2 true ((JW u0 a).length))]))
abbrev M8:=(at' (JW u0 a) b.toNat)
abbrev NW:=(IntKind.wrap .i64 ((u0.arcs.length:Int)+1))
abbrev Qw:=((M8 u0 b a)++[(NW u0)])
abbrev acV:=((JW u0 a).set b.toNat (Qw u0 b a))
abbrev Yx:=(Ag sP (acV u0 b a))
abbrev aaC:=(aC (au .i64) [(NW u0)])
abbrev ag7:=((M8 u0 b a).length+[(NW u0)].length)
abbrev adf:=(aC (au .i64) (Qw u0 b a))
abbrev aeJ:=((acV u0 b a).length)
abbrev ag0:Nat × Option Ob:=(2,some (.rows 40 1 (acV u0 b a).length (Yx u0 b a) none))
abbrev aib:List (Nat × Option Ob):=[(0,some (.cells 161 [(.own 12 false (YG u0 b u1 a u2)),(.own 2 true (aeJ u0 b a))])),(1,none),(ag0 u0 b a),(Xi u0 b u1 a u2)]
end
theorem bT (a:Int) (b:Int) (u1:Int) (u2:Int) (u0:Network) {r:(Int × Network)} (h:fI a b u1 u2 u0=some r):Fn Try.prog 77 [(.one (.ptr 0 0)),(sI a),(sI b),(sI u1),(sI u2)] (abn u0) (vI r.1) [(0,some (.cells 161 [(.own 3 false r.2.arcs.length),(.own 2 true r.2.from_.length)])),(1,none),(2,some (.rows 40 1 r.2.from_.length (Ag sP r.2.from_) none)),(3,some (bU 170 2 bJ.cell r.2.arcs))]:=by
 refine fN tT Try.func77 rfl rfl fun B=> ?_
 show bn _ _ _ _ _ _ (BA r) _
 unfold fI at h
 refine sz tT ⟨[(0,(vP 0 0)),(1,(vI a)),(2,(vI b)),(3,(vI u1)),(4,(vI u2))],(abn u0)⟩ {} [] ?_
 refine sz tT ⟨[(0,(vP 0 0)),(1,(vI a)),(2,(vI b)),(3,(vI u1)),(4,(vI u2)),(11,(vI (u0.arcs.length:Int)))],(abn u0)⟩ {} [] ?_
 refine aQ (aO h fun⟨a1,a2⟩ h=> ?_)
 refine rg tT ⟨[(0,(vP 0 0)),(1,(vI a)),(2,(vI b)),(11,(vI (u0.arcs.length:Int)))],[(afD u0 b u1 a u2),(1,none),(2,some (.rows 40 1 u0.from_.length (Ag sP u0.from_) none)),(Xi u0 b u1 a u2)]⟩ [[(⟨b,u1⟩:bJ),(⟨a,u2⟩:bJ)].length=2,aH 2 2 (iZ 2 [(.int .i64 b),(.int .i64 u1),(.int .i64 a),(.int .i64 u2)]) (aC bJ.cell [(⟨b,u1⟩:bJ),(⟨a,u2⟩:bJ)]),u0.arcs.length=u0.arcs.length,_,_,(QZ u0 b u1 a u2).length=u0.arcs.length+[(⟨b,u1⟩:bJ),(⟨a,u2⟩:bJ)].length,aH (u0.arcs.length+[(⟨b,u1⟩:bJ),(⟨a,u2⟩:bJ)].length) 2 (Eg (aC bJ.cell u0.arcs) u0.arcs.length (aC bJ.cell [(⟨b,u1⟩:bJ),(⟨a,u2⟩:bJ)])) (aC bJ.cell (QZ u0 b u1 a u2))] {an:=[(11, .arr [(⟨b,u1⟩:bJ),(⟨a,u2⟩:bJ)].length (aC bJ.cell [(⟨b,u1⟩:bJ),(⟨a,u2⟩:bJ)])),(12, .arr (QZ u0 b u1 a u2).length (aC bJ.cell (QZ u0 b u1 a u2)))],fr:=[(11,11),(12,12)] } [] ⟨(rfl),((by intro i hi j hj;match i,j,hi,hj with|0,0,_,_=>rfl|0,1,_,_=>rfl|1,0,_,_=>rfl|1,1,_,_=>rfl)),rfl,a1,a2,(List.length_append),(kS _ _ _ _),trivial⟩ ?_
 refine aQ (aO h fun⟨a1,a2,a3⟩ h=> ?_)
 refine di tT mX ⟨[(0,(vP 0 0)),(2,(vI b)),(11,(vI (u0.arcs.length:Int)))],[(afD u0 b u1 a u2),(1,none),(2,some (.rows 40 1 u0.from_.length (Xf u0 a) none)),(Xi u0 b u1 a u2)]⟩ [(0:Int)≤a∧a<(u0.from_.length:Int),a.toNat<u0.from_.length,[(u0.arcs.length:Int)].length=1,aH 1 1 (iZ 1 [(.int .i64 (u0.arcs.length:Int))]) (aC (au .i64) [(u0.arcs.length:Int)]),(at' u0.from_ a.toNat).length=(at' u0.from_ a.toNat).length,((at' u0.from_ a.toNat).length+[(u0.arcs.length:Int)].length)*8≤140737488355328,(at' u0.from_ a.toNat).length+[(u0.arcs.length:Int)].length≤4611686018427387904,(Q6 u0 a).length=(at' u0.from_ a.toNat).length+[(u0.arcs.length:Int)].length,aH ((at' u0.from_ a.toNat).length+[(u0.arcs.length:Int)].length) 1 (Eg (aC (au .i64) (at' u0.from_ a.toNat)) (at' u0.from_ a.toNat).length (aC (au .i64) [(u0.arcs.length:Int)])) (aau u0 a),(0:Int)≤a∧a<(u0.from_.length:Int),a.toNat<u0.from_.length,(Q6 u0 a).length=(Q6 u0 a).length,X3 u0.from_.length 1 (stV (Ag sP u0.from_) a.toNat 0 (.row 3 1 (Q6 u0 a).length (aau u0 a))) (Xf u0 a),∀i0 j0 c0,((some (a.toNat,0,CV.own 13 false (at' u0.from_ a.toNat).length)):Option (Nat × Nat × CV))=some (i0,j0,c0)→i0=a.toNat∧j0=0] {an:=[(11, .take 13),(13, .arr [(u0.arcs.length:Int)].length (aC (au .i64) [(u0.arcs.length:Int)])),(14, .arr (Q6 u0 a).length (aau u0 a)),(16, .rows 0 (Xf u0 a))],fr:=[(13,14),(14,15)] } [] ⟨a1,(tL a1),(rfl),((by intro i hi j hj;match i,j,hi,hj with|0,0,_,_=>rfl)),rfl,a2,a3,(List.length_append),(kS _ _ _ _),a1,(tL a1),rfl,(Oo _ _ _ _ _ _ _ _ rfl (fun j hj=>(match j,hj with|0,_=>rfl))),((fun i0 j0 c0 e=>by cases e;exact⟨rfl,rfl⟩)),trivial⟩ (bH.le (st':=⟨[(0,(vP 0 0)),(2,(vI b)),(11,(vI (u0.arcs.length:Int)))],[(agK u0 b u1 a u2),(1,none),(2,some (.rows 40 1 (JW u0 a).length (Xf u0 a) none)),(Xi u0 b u1 a u2)]⟩) ⟨⟨tR,tR,tR,trivial⟩,⟨rfl,bA ⟨dD.refl _,cW,trivial⟩,⟨rfl, .refl _,⟨rfl,NR (by simp only [List.length_set,List.length_append,List.length_cons,List.length_nil,List.length_replicate,List.length_drop]),⟨rfl, .refl _,trivial⟩⟩⟩⟩⟩) ?_
 refine aQ (aO h fun⟨a1,a2,a3⟩ h=> ?_)
 refine di tT mX ⟨[(11,(vI (u0.arcs.length:Int)))],[(agK u0 b u1 a u2),(1,none),(2,some (.rows 40 1 (JW u0 a).length (Yx u0 b a) none)),(Xi u0 b u1 a u2)]⟩ [(0:Int)≤b∧b<((JW u0 a).length:Int),b.toNat<(JW u0 a).length,[(NW u0)].length=1,aH 1 1 (iZ 1 [(.int .i64 (NW u0))]) (aaC u0),(M8 u0 b a).length=(M8 u0 b a).length,(ag7 u0 b a)*8≤140737488355328,(M8 u0 b a).length+[(NW u0)].length≤4611686018427387904,(Qw u0 b a).length=(M8 u0 b a).length+[(NW u0)].length,aH (ag7 u0 b a) 1 (Eg (aC (au .i64) (M8 u0 b a)) (M8 u0 b a).length (aaC u0)) (adf u0 b a),(0:Int)≤b∧b<((JW u0 a).length:Int),b.toNat<(JW u0 a).length,(Qw u0 b a).length=(Qw u0 b a).length,X3 (JW u0 a).length 1 (stV (Xf u0 a) b.toNat 0 (.row 3 1 (Qw u0 b a).length (adf u0 b a))) (Yx u0 b a),∀i0 j0 c0,((some (b.toNat,0,CV.own 16 false (M8 u0 b a).length)):Option (Nat × Nat × CV))=some (i0,j0,c0)→i0=b.toNat∧j0=0] {an:=[(11, .take 16),(14, .arr [(NW u0)].length (aaC u0)),(15, .arr (Qw u0 b a).length (adf u0 b a)),(17, .rows 0 (Yx u0 b a))],fr:=[(14,17),(15,18)] } [] ⟨a1,(tL a1),(rfl),((by intro i hi j hj;match i,j,hi,hj with|0,0,_,_=>rfl)),rfl,a2,a3,(List.length_append),(kS _ _ _ _),a1,(tL a1),rfl,(Oo _ _ _ _ _ _ _ _ rfl (fun j hj=>(match j,hj with|0,_=>rfl))),((fun i0 j0 c0 e=>by cases e;exact⟨rfl,rfl⟩)),trivial⟩ (bH.le (st':=⟨[(11,(vI (u0.arcs.length:Int)))],(aib u0 b u1 a u2)⟩) ⟨⟨tR,trivial⟩,⟨rfl,bA ⟨dD.refl _,cW,trivial⟩,⟨rfl, .refl _,⟨rfl,NR (by simp only [List.length_set,List.length_append,List.length_cons,List.length_nil,List.length_replicate,List.length_drop]),⟨rfl, .refl _,trivial⟩⟩⟩⟩⟩) ?_
 refine sz tT ⟨[(10,(vI (u0.arcs.length:Int)))],(aib u0 b u1 a u2)⟩ {} [] ?_
 refine aI (bH.fin (st':=⟨[(10,(vI (u0.arcs.length:Int)))],[(0,some (.cells 161 [(.own 3 false (YG u0 b u1 a u2)),(.own 2 true (aeJ u0 b a))])),(1,none),(ag0 u0 b a),(3,some (bU 170 2 bJ.cell (QZ u0 b u1 a u2)))]⟩) (cs:=[]) ⟨[],[(0,0),(1,1),(2,2),(12,3)]⟩ [10] (by kernel_rfl) trivial) ?_
 refine aR ?_
 obtain rfl:=oi h
 exact rh [(sI (u0.arcs.length:Int))] (.refl _) ⟨rfl, .refl _,⟨rfl,trivial,⟨rfl, .refl _,⟨rfl, .refl _,trivial⟩⟩⟩⟩
section
variable (u0:Network)
abbrev Ki:DV:=(aU none 1 (LA 1 (au .i64)) u0.from_)
abbrev Y5:Nat × Option Ob:=(0,some (.cells 161 [(.own 1 false u0.arcs.length),(.d (Ki u0))]))
abbrev aaJ:List (Nat × Option Ob):=[(Y5 u0),(VB u0),(2,some (.cells 157 [(.ptr 0 0)]))]
end
def yC (u0:Network):Unit→Exit→St→Prop:=
  fun _=>aW TT [.tmp 2] (.v (.one (.fn 121 0 1 (BF [(.ptr 2 0)])))) (aaJ u0)
section
variable (u0:Network)
abbrev agM:List (Nat × Option Ob):=[(Y5 u0),(VB u0)]
abbrev adF:List (Nat × Option Ob):=[(Y5 u0),(VB u0),(3,some (.cells 157 [(.ptr 0 0)]))]
end
theorem iV (u0:Network) {r:Unit} (h:gY u0=some r):Fn Try.prog 81 [(.one (.ptr 0 0))] (agM u0) (.v (.one (.fn 121 0 1 (BF [(.ptr 2 0)])))) (aaJ u0):=by
 refine fN tT Try.func81 rfl rfl fun B=> ?_
 show bn _ _ _ _ _ _ ((yC u0) r) _
 unfold gY at h
 refine sz tT ⟨[(1,(vP 3 0))],(adF u0)⟩ {fr:=[(0,3)] } [] ?_
 refine sz tT ⟨[(2,(.v (.one (.fn 121 0 1 (BF [(.ptr 3 0)])))))],(adF u0)⟩ {} [] ?_
 refine aI (bH.fin (st':=⟨[(2,(.v (.one (.fn 121 0 1 (BF [(.ptr 2 0)])))))],(aaJ u0)⟩) (cs:=[]) ⟨[],[(0,0),(1,1),(3,2)]⟩ [2] (by kernel_rfl) trivial) ?_
 refine aR ?_
 obtain rfl:=oi h
 exact rl [(.one (.fn 121 0 1 (BF [(.ptr 2 0)])))]
noncomputable def aT:ou:=⟨[19,20],Je ([1,0,1,0,0,0,1,0,1,0]++[0]) (nG Try.f80),Je ([1,0,1,0,0,0,1,0,1,0]++[1]) (nG Try.f80),114,[.exit 1]⟩
section
variable (u0:Int)
abbrev Pz:List (Nat × TV):=[(2,(vP 1 0)),(3,(vP 2 0)),(4,(vP 3 0))]
abbrev JA:Nat × Option Ob:=(1,some (.cells 157 [(.ptr 4 0)]))
abbrev KR:Nat × Option Ob:=(2,some (.cells 3 [(cI u0)]))
end
def wL (u0:Int):(Nat × (List Int) × Network)→Exit→St→Prop:=
  fun r=>nI 0 aT (vB (Nat.beq r.1 0)) [(0,some (.loop aT r.1 Pz)),JA,(KR u0),(3,some (.cells 40 [(.own 5 true r.2.1.length)])),(4,some (.cells 161 [(.own 6 false r.2.2.arcs.length),(.d (aU none 1 (LA 1 (au .i64)) r.2.2.from_))])),(5,some (bU 3 1 (au .i64) r.2.1)),(6,some (bU 170 2 bJ.cell r.2.2.arcs))]
section
variable (o_:(List Int)) (u1:Int) (u2:Int) (u0:Network) (u3:Int) (u4:Int) (u5:Int)
abbrev N9:Nat × Option Ob:=(0,some (.loop aT 1 Pz))
abbrev Ty:Nat × Option Ob:=(3,some (.cells 40 [(.own 5 true ((o_.set u1.toNat u2).length))]))
abbrev YN:Nat × Option Ob:=(4,some (.cells 161 [(.own 6 false u0.arcs.length),(.d (Ki u0))]))
abbrev Ug:Nat × Option Ob:=(5,some (bU 3 1 (au .i64) (o_.set u1.toNat u2)))
abbrev YP:Nat × Option Ob:=(6,some (bU 170 2 bJ.cell u0.arcs))
abbrev HV:List (Nat × Option Ob):=[N9,JA,(KR u3),(Ty o_ u1 u2),(YN u0),(Ug o_ u1 u2),(YP u0)]
abbrev aa3:St:=⟨[(2,(vP 1 0)),(3,(vP 2 0)),(4,(vP 3 0)),(7,(vI u4)),(8,(vI u5))],(HV o_ u1 u2 u0 u3)⟩
end
def lS (u1:Int) (u2:Int) (u3:Int) (o_:(List Int)) (u0:Network):(Int × Int)→St:=
  fun zz=>match zz with|(u4,u5)=>(aa3 o_ u1 u2 u0 u3 u4 u5)
section
variable (u4:Int) (u3:Int) (o_:(List Int)) (u1:Int) (u2:Int) (u0:Network)
abbrev ae1:St:=⟨[(2,(vP 1 0)),(3,(vP 2 0)),(4,(vP 3 0)),(7,(vI u4))],(HV o_ u1 u2 u0 u3)⟩
end
def lD (u1:Int) (u2:Int) (u3:Int) (o_:(List Int)) (u0:Network):Int→St:=
  fun u4=>(ae1 u4 u3 o_ u1 u2 u0)
section
variable (u0:Int)
abbrev Xt:=(wL u0)
end
def uO (u1:Int) (u2:Int) (u0:Int) (o_:(List Int)) (u3:Network):(aJ (Int × Int) (Ex Int (Nat × (List Int) × Network)))→Exit→St→Prop:=
  LQ 4 [3] (lS u1 u2 u0 o_ u3) (lD u1 u2 u0 o_ u3) (Xt u0)
section
variable (u5:Int) (u6:Int) (u2:(List bJ)) (u4:Network) (u3:Int) (o_:(List Int)) (u0:Int) (u1:Int)
abbrev SE:List (Nat × TV):=[(2,(vP 1 0)),(4,(vP 3 0)),(7,(vI u5)),(10,(vI u6))]
abbrev ahZ:Nat × Option Ob:=(4,some (.cells 161 [(.own 6 false u2.length),(.d (Ki u4))]))
abbrev abG:List (Nat × Option Ob):=[N9,JA,(KR u3),(Ty o_ u0 u1),(ahZ u2 u4),(Ug o_ u0 u1),(6,some (bU 170 2 bJ.cell u2))]
end
def kY (u0:Int) (u1:Int) (u3:Int) (o_:(List Int)) (u4:Network) (u5:Int):((List bJ) × Int)→St:=
  fun zz=>match zz with|(u2,u6)=> ⟨(SE u5 u6),(abG u2 u4 u3 o_ u0 u1)⟩
section
variable (u3:Int) (o_:(List Int)) (u0:Int) (u1:Int) (u2:(List bJ)) (u4:Network)
abbrev afL:St:=⟨[],(abG u2 u4 u3 o_ u0 u1)⟩
end
def l9 (u0:Int) (u1:Int) (u3:Int) (o_:(List Int)) (u4:Network):(List bJ)→St:=
  fun u2=>(afL u3 o_ u0 u1 u2 u4)
def uM (u1:Int) (u2:Int) (u0:Int) (o_:(List Int)) (u3:Network) (u4:Int):(aJ ((List bJ) × Int) (Ex (List bJ) (Nat × (List Int) × Network)))→Exit→St→Prop:=
  LQ 6 [3] (kY u1 u2 u0 o_ u3 u4) (l9 u1 u2 u0 o_ u3) (Xt u0)
section
variable (u6:Int) (o_:(List Int)) (u4:Network) (u0:Int) (u1:Int) (u7:Int) (u3:(List bJ)) (u2:Int) (u5:Int)
abbrev Ve:List (Nat × Option Ob):=[(0,some (.loop aT 0 Pz)),JA,(KR u6),(3,some (.cells 40 [(.own 5 true o_.length)])),(YN u4),(5,some (Cz o_)),(YP u4)]
abbrev aaH:List (Nat × TV):=[(2,(vP 1 0)),(3,(vP 2 0)),(4,(vP 3 0)),(5,(vI u0)),(6,(vI u1))]
abbrev VO:=((IntKind.wrap .i64 (((BitVec.ofInt (IntKind.bits .i64) (at' (o_.set u0.toNat u1) u7.toNat) ^^^ BitVec.ofInt (IntKind.bits .i64) 1).toNat:Int))).toNat)
abbrev RG:=(u3.set ((at' (o_.set u0.toNat u1) u2.toNat).toNat) (⟨(at' u3 ((at' (o_.set u0.toNat u1) u2.toNat).toNat)).to_,(IntKind.wrap .i64 (((at' u3 ((at' (o_.set u0.toNat u1) u2.toNat).toNat)).left) - u5))⟩:bJ))
abbrev YK:=(aC bJ.cell (RG o_ u0 u1 u3 u2 u5))
abbrev ahx:Nat × Option Ob:=(4,some (.cells 161 [(.own 6 false ((RG o_ u0 u1 u3 u2 u5).length)),(.d (Ki u4))]))
abbrev aeA:=(at' (RG o_ u0 u1 u3 u2 u5) (VO o_ u0 u1 u2))
abbrev ad5:=(IntKind.wrap .i64 (((aeA o_ u0 u1 u3 u2 u5).left)+u5))
abbrev Zy:=((RG o_ u0 u1 u3 u2 u5).set (VO o_ u0 u1 u2) (⟨(aeA o_ u0 u1 u3 u2 u5).to_,(ad5 o_ u0 u1 u3 u2 u5)⟩:bJ))
abbrev aaz:=(aC bJ.cell (Zy o_ u0 u1 u3 u2 u5))
abbrev ah3:List (Nat × Option Ob):=[N9,JA,(KR u6),(Ty o_ u0 u1),(4,some (.cells 161 [(.own 6 false ((Zy o_ u0 u1 u3 u2 u5).length)),(.d (Ki u4))])),(Ug o_ u0 u1),(6,some (bU 170 2 bJ.cell (Zy o_ u0 u1 u3 u2 u5)))]
end
theorem lI (u0:Int) (u1:Int) (u6:Int) (o_:(List Int)) (u4:Network) {r:(Nat × (List Int) × Network)} (h:jh u0 u1 u6 o_ u4=some r):Yl Try.prog 0 [(sI u0),(sI u1)] (Ve u6 o_ u4) (vB (Nat.beq r.1 0)) [(0,some (.loop aT r.1 Pz)),JA,(KR u6),(3,some (.cells 40 [(.own 5 true r.2.1.length)])),(4,some (.cells 161 [(.own 6 false r.2.2.arcs.length),(.d (aU none 1 (LA 1 (au .i64)) r.2.2.from_))])),(5,some (bU 3 1 (au .i64) r.2.1)),(6,some (bU 170 2 bJ.cell r.2.2.arcs))]:=by
 refine Gd (r:=aT) (sl:=Pz) (sl1:=(aaH u0 u1)) (h1:=(Ve u6 o_ u4)) (sl2:=Pz) (by kernel_rfl) rfl rfl (by kernel_rfl) (fun rd B=> ?_) (by kernel_rfl) (fun rd B=> ?_)
 ·refine rE (c:=Je ([1,0,1,0,0,0,1,0,1,0]++[0]) (nG Try.f80)) rfl ?_
  refine oL (st:=⟨[(19,(vI u0)),(20,(vI u1)),(2,(vP 1 0)),(3,(vP 2 0)),(4,(vP 3 0))],(Ve u6 o_ u4)⟩) (by kernel_rfl) ?_
  refine sz tT ⟨[(2,(vP 1 0)),(3,(vP 2 0)),(4,(vP 3 0)),(5,(vI u0)),(20,(vI u1))],(Ve u6 o_ u4)⟩ {} [] ?_
  refine rz tT ⟨(aaH u0 u1),(Ve u6 o_ u4)⟩ {} [] ?_
  exact⟨rfl,rfl⟩
 ·refine rE (c:=Je ([1,0,1,0,0,0,1,0,1,0]++[1]) (nG Try.f80)) rfl ?_
  refine oL (st:=⟨(aaH u0 u1),[N9,JA,(KR u6),(3,some (.cells 40 [(.own 5 true o_.length)])),(YN u4),(5,some (Cz o_)),(YP u4)]⟩) (by kernel_rfl) ?_
  show bn _ _ _ _ _ _ ((Xt u6) r) _
  unfold jh at h
  refine aB (aQ (aO h fun a1 h=> ?_))
  refine ri tT ⟨[(2,(vP 1 0)),(3,(vP 2 0)),(4,(vP 3 0)),(5,(vI u0))],[N9,JA,(KR u6),(3,some (.cells 40 [(.own 5 true o_.length)])),(YN u4),(5,some (.arr 3 1 o_.length (aC (au .i64) (o_.set u0.toNat u1)))),(YP u4)]⟩ [_,_,aH o_.length 1 (kK (aC (au .i64) o_) u0.toNat 0 [(.int .i64 u1)]) (aC (au .i64) (o_.set u0.toNat u1))] {an:=[(4, .arr 0 (aC (au .i64) (o_.set u0.toNat u1)))] } [] ⟨a1,(tL a1),(bL _ _ _ _ _ _ _ _ rfl (fun j hj=>(match j,hj with|0,_=>rfl))),trivial⟩ (bH.le (st':=⟨[(2,(vP 1 0)),(3,(vP 2 0)),(4,(vP 3 0)),(5,(vI u0))],(HV o_ u0 u1 u4 u6)⟩) ⟨⟨tR,tR,tR,tR,trivial⟩,(hN 3 ⟨rfl,bA ⟨cW,trivial⟩,⟨rfl, .refl _,⟨rfl,oW,⟨rfl, .refl _,trivial⟩⟩⟩⟩)⟩) ?_
  refine aQ (sz tT ⟨[(2,(vP 1 0)),(3,(vP 2 0)),(4,(vP 3 0)),(27,(vB (!decide (u0=u6))))],(HV o_ u0 u1 u4 u6)⟩ {} [] ?_)
  refine bI h (fun hb3 h=> ?_) (fun hb3 h=> ?_)
  ·refine ct hb3 ?_
   refine aI (fz ⟨[],(HV o_ u0 u1 u4 u6)⟩ []) ?_
   refine aX ?_
   obtain rfl:=oi h
   exact nI.on (sl:=Pz) (by kernel_rfl) (zX (by kernel_rfl)) (dh.refl _)
  ·refine cf hb3 ?_
   refine aP (sz tT ⟨[(2,(vP 1 0)),(3,(vP 2 0)),(4,(vP 3 0)),(7,(vI (-1)))],(HV o_ u0 u1 u4 u6)⟩ {} [] ?_)
   refine aQ (sz tT ⟨[(2,(vP 1 0)),(3,(vP 2 0)),(4,(vP 3 0)),(7,(vI (-1))),(8,(vI u6))],(HV o_ u0 u1 u4 u6)⟩ {} [] ?_)
   refine bE h fun y1 hy h=> ?_
   refine aL [3] (lS u0 u1 u6 o_ u4) (lD u0 u1 u6 o_ u4) (Xt u6) hy (fun s f h=> ?_) ?_
   ·clear hy
    show bn _ _ _ _ _ _ ((uO u0 u1 u6 o_ u4) f) _
    unfold lV at h
    obtain⟨u8,u7⟩:=s
    refine aQ (aQ (aO h fun a1 h=> ?_))
    refine rg tT ⟨[(2,(vP 1 0)),(3,(vP 2 0)),(4,(vP 3 0)),(7,(vI u8)),(8,(vI u7)),(33,(vB (decide (0≤(at' (o_.set u0.toNat u1) u7.toNat)))))],(HV o_ u0 u1 u4 u6)⟩ [_,_] {} [] ⟨a1,(tL a1),trivial⟩ ?_
    refine bI h (fun hb1 h=> ?_) (fun hb1 h=> ?_)
    ·refine ct hb1 ?_
     refine aP (bE h fun y hy h=> ?_)
     refine Mx (o:=y) (fun u9=>(aa3 o_ u0 u1 u4 u6 u9 u7)) ?_ ?_
     ·replace h:=hy
      clear hy
      refine aB (aQ (aO h fun⟨a1,a2⟩ h=> ?_))
      refine dg tT mX ⟨[(2,(vP 1 0)),(3,(vP 2 0)),(4,(vP 3 0)),(7,(vI u8)),(8,(vI u7)),(9,(vI ((at' u4.arcs ((at' (o_.set u0.toNat u1) u7.toNat).toNat)).left)))],(HV o_ u0 u1 u4 u6)⟩ [_,_,_,_] {} [] ⟨a1,(tL a1),a2,(tL a2),trivial⟩ ?_
      refine sg tT ⟨[(2,(vP 1 0)),(3,(vP 2 0)),(4,(vP 3 0)),(7,(vI u8)),(8,(vI u7)),(9,(vI ((at' u4.arcs ((at' (o_.set u0.toNat u1) u7.toNat).toNat)).left))),(63,(vB (bif (decide (u8<0))then true else(decide (((at' u4.arcs ((at' (o_.set u0.toNat u1) u7.toNat).toNat)).left)<u8)))))],(HV o_ u0 u1 u4 u6)⟩ (eqs (decide (u8<0)) 4 []) {yb:=[(2,(decide (u8<0)))] } [] (ae trivial) ?_
      refine bI h (fun hb h=> ?_) (fun hb h=> ?_)
      ·refine ct hb ?_
       refine rz tT ⟨[(2,(vP 1 0)),(3,(vP 2 0)),(4,(vP 3 0)),(7,(vI ((at' u4.arcs ((at' (o_.set u0.toNat u1) u7.toNat).toNat)).left))),(8,(vI u7))],(HV o_ u0 u1 u4 u6)⟩ {} [] ?_
       obtain rfl:=oi h
       exact⟨rfl,by kernel_rfl⟩
      ·refine cf hb ?_
       refine aI (fz (aa3 o_ u0 u1 u4 u6 u8 u7) []) ?_
       refine aP ?_
       obtain rfl:=oi h
       exact⟨rfl,by kernel_rfl⟩
     ·clear hy
      obtain⟨u9,rfl⟩: ∃q,q=y:=⟨_,rfl⟩
      refine aO h fun⟨a1,a2⟩ h=> ?_
      refine dg tT mX ⟨[(2,(vP 1 0)),(3,(vP 2 0)),(4,(vP 3 0)),(7,(vI u9)),(8,(vI ((at' u4.arcs (VO o_ u0 u1 u7)).to_)))],(HV o_ u0 u1 u4 u6)⟩ [_,_,_,_] {} [] ⟨a1,(tL a1),a2,(tL a2),trivial⟩ ?_
      obtain rfl:=oi h
      exact lN
    ·refine cf hb1 ?_
     refine aI (fz (ae1 u8 u6 o_ u0 u1 u4) []) ?_
     refine aX ?_
     obtain rfl:=oi h
     exact lB
   ·clear hy
    cases y1 with
    |brk z=>
     obtain⟨u5,rfl⟩: ∃q,q=z:=⟨_,rfl⟩
     unfold dA
     refine⟨_, .refl, ?_⟩
     refine aQ (sz tT ⟨(SE u5 u6),(HV o_ u0 u1 u4 u6)⟩ {} [] ?_)
     refine bE h fun y2 hy h=> ?_
     refine aL [3] (kY u0 u1 u6 o_ u4 u5) (l9 u0 u1 u6 o_ u4) (Xt u6) hy (fun s f h=> ?_) ?_
     ·clear hy
      show bn _ _ _ _ _ _ ((uM u0 u1 u6 o_ u4 u5) f) _
      unfold lY at h
      obtain⟨u3,u2⟩:=s
      refine aQ (aQ (aO h fun a1 h=> ?_))
      refine rg tT ⟨[(2,(vP 1 0)),(4,(vP 3 0)),(7,(vI u5)),(10,(vI u2)),(70,(vB (decide (0≤(at' (o_.set u0.toNat u1) u2.toNat)))))],(abG u3 u4 u6 o_ u0 u1)⟩ [_,_] {} [] ⟨a1,(tL a1),trivial⟩ ?_
      refine bI h (fun hb2 h=> ?_) (fun hb2 h=> ?_)
      ·refine ct hb2 ?_
       refine aP (aQ (aB (aQ (aO h fun⟨a1,a2⟩ h=> ?_))))
       refine di tT mX ⟨(SE u5 u2),[N9,JA,(KR u6),(Ty o_ u0 u1),(ahZ u3 u4),(Ug o_ u0 u1),(6,some (.arr 170 2 u3.length (YK o_ u0 u1 u3 u2 u5)))]⟩ [_,_,_,_,_,_,aH u3.length 2 (kK (aC bJ.cell u3) ((at' (o_.set u0.toNat u1) u2.toNat).toNat) 1 [(.int .i64 (IntKind.wrap .i64 (((at' u3 ((at' (o_.set u0.toNat u1) u2.toNat).toNat)).left) - u5)))]) (YK o_ u0 u1 u3 u2 u5)] {an:=[(15, .arr 0 (YK o_ u0 u1 u3 u2 u5))] } [] ⟨a1,(tL a1),a2,(tL a2),a2,(tL a2),(bL _ _ _ _ _ _ _ _ rfl (fun j hj=>(match j,hj with|0,_=>rfl|1,_=>rfl))),trivial⟩ (bH.le (st':=⟨(SE u5 u2),[N9,JA,(KR u6),(Ty o_ u0 u1),(ahx o_ u4 u0 u1 u3 u2 u5),(Ug o_ u0 u1),(6,some (bU 170 2 bJ.cell (RG o_ u0 u1 u3 u2 u5)))]⟩) ⟨⟨tR,tR,tR,tR,trivial⟩,(hN 4 ⟨rfl,bA ⟨cW,dD.refl _,trivial⟩,⟨rfl, .refl _,⟨rfl,oW,trivial⟩⟩⟩)⟩) ?_
       refine aO h fun⟨a1,a2⟩ h=> ?_
       refine di tT mX ⟨(SE u5 u2),[N9,JA,(KR u6),(Ty o_ u0 u1),(ahx o_ u4 u0 u1 u3 u2 u5),(Ug o_ u0 u1),(6,some (.arr 170 2 (RG o_ u0 u1 u3 u2 u5).length (aaz o_ u0 u1 u3 u2 u5)))]⟩ [_,_,_,_,_,_,aH (RG o_ u0 u1 u3 u2 u5).length 2 (kK (YK o_ u0 u1 u3 u2 u5) (VO o_ u0 u1 u2) 1 [(.int .i64 (ad5 o_ u0 u1 u3 u2 u5))]) (aaz o_ u0 u1 u3 u2 u5)] {an:=[(16, .arr 0 (aaz o_ u0 u1 u3 u2 u5))] } [] ⟨a1,(tL a1),a2,(tL a2),a2,(tL a2),(bL _ _ _ _ _ _ _ _ rfl (fun j hj=>(match j,hj with|0,_=>rfl|1,_=>rfl))),trivial⟩ (bH.le (st':=⟨(SE u5 u2),(ah3 u6 o_ u4 u0 u1 u3 u2 u5)⟩) ⟨⟨tR,tR,tR,tR,trivial⟩,(hN 4 ⟨rfl,bA ⟨cW,dD.refl _,trivial⟩,⟨rfl, .refl _,⟨rfl,oW,trivial⟩⟩⟩)⟩) ?_
       refine aO h fun⟨a1,a2⟩ h=> ?_
       refine dg tT mX ⟨[(2,(vP 1 0)),(4,(vP 3 0)),(7,(vI u5)),(10,(vI ((at' (Zy o_ u0 u1 u3 u2 u5) (VO o_ u0 u1 u2)).to_)))],(ah3 u6 o_ u4 u0 u1 u3 u2 u5)⟩ [_,_,_,_] {} [] ⟨a1,(tL a1),a2,(tL a2),trivial⟩ ?_
       obtain rfl:=oi h
       exact lN
      ·refine cf hb2 ?_
       refine aI (fz (afL u6 o_ u0 u1 u3 u4) []) ?_
       refine aX ?_
       obtain rfl:=oi h
       exact lB
     ·clear hy
      cases y2 with
      |brk z=>
       obtain⟨v0,rfl⟩: ∃q,q=z:=⟨_,rfl⟩
       unfold dA
       refine⟨_, .refl, ?_⟩
       refine aX ?_
       obtain rfl:=oi h
       exact nI.off (sl:=Pz) (k:=0) (c:= .exit 1) (by kernel_rfl) rfl rfl (by kernel_rfl) (zX (by kernel_rfl)) (dh.refl _)
      |ret v=>
       obtain rfl:=oi h
       unfold dA
       intro e st hn ha hR
       cases e with
       |normal=>exact absurd rfl hn
       |exit id=>simp only [qX (b:=3) ha rfl,cond_false];exact hR
       |goto l=>exact hR
       |ret=>exact hR
       |panic c=>exact hR
       |outgrown=>exact hR
    |ret v=>
     obtain rfl:=oi h
     unfold dA
     intro e st hn ha hR
     cases e with
     |normal=>exact absurd rfl hn
     |exit id=>simp only [qX (b:=3) ha rfl,cond_false];exact hR
     |goto l=>exact hR
     |ret=>exact hR
     |panic c=>exact hR
     |outgrown=>exact hR
def EL  :aS→Exit→St→Prop:=
  fun r=>aW TT [] (.iq []) [(0,some (.cells 226 [(.own 2 false r.l.length)])),(1,none),(2,some (bU 164 2 af.cell r.l))]
section
variable (o_:aS)
abbrev Ns:Ob:=(bU 164 2 af.cell o_.l)
abbrev Yz:List (Nat × Option Ob):=[(0,some (.cells 226 [(.own 1 false o_.l.length)])),(1,some (Ns o_))]
end
theorem uo (x:af) (o_:aS) {r:aS} (h:ni x o_=some r):Fn Try.prog 122 [(.one (.ptr 0 0)),(.agg [(cI x.e0),(cI x.e1)])] (Yz o_) (.iq []) [(0,some (.cells 226 [(.own 2 false r.l.length)])),(1,none),(2,some (bU 164 2 af.cell r.l))]:=by
 refine fN tT Try.func122 rfl rfl fun B=> ?_
 show bn _ _ _ _ _ _ (EL r) _
 unfold ni at h
 refine sz tT ⟨[(0,(vP 0 0)),(3,(vD (l8 [(.int .i64 x.e0),(.int .i64 x.e1)] 0)))],(Yz o_)⟩ {fr:=[(0,5)] } [5] ?_
 refine aO h fun⟨a1,a2⟩ h=> ?_
 refine di tT mX ⟨[],[(0,some (.cells 226 [(.own 7 false ((o_.l++[x]).length))])),(1,none),(7,some (bU 164 2 af.cell (o_.l++[x])))]⟩ [[x].length=1,aH 1 2 (iZ 2 [(.int .i64 x.e0),(.int .i64 x.e1)]) (aC af.cell [x]),o_.l.length=o_.l.length,_,_,(o_.l++[x]).length=o_.l.length+[x].length,aH (o_.l.length+[x].length) 2 (Eg (aC af.cell o_.l) o_.l.length (aC af.cell [x])) (aC af.cell (o_.l++[x]))] {an:=[(6, .arr [x].length (aC af.cell [x])),(7, .arr (o_.l++[x]).length (aC af.cell (o_.l++[x])))],fr:=[(6,6),(7,7)] } [] ⟨(rfl),((by intro i hi j hj;match i,j,hi,hj with|0,0,_,_=>rfl|0,1,_,_=>rfl)),rfl,a1,a2,(List.length_append),(kS _ _ _ _),trivial⟩ (bH.fin (st':=⟨[],[(0,some (.cells 226 [(.own 2 false ((o_.l++[x]).length))])),(1,none),(2,some (bU 164 2 af.cell (o_.l++[x])))]⟩) (cs:=[]) ⟨[],[(0,0),(1,1),(7,2)]⟩ [] (by kernel_rfl) trivial) ?_
 obtain rfl:=oi h
 exact aW.mk (.inl rfl) (p:=[]) (l:=[]) (by kernel_rfl) trivial (dh.refl _) ⟨rfl, .refl _,⟨rfl,trivial,⟨rfl, .refl _,trivial⟩⟩⟩
def Dg  :(af × Bool × aS)→Exit→St→Prop:=
  fun r=>aW TT [.cell 2 164, .tmp 3] (.iq [(.agg [(cI r.1.e0),(cI r.1.e1)]),(sB r.2.1)]) [(0,some (.cells 226 [(.own 2 false r.2.2.l.length)])),(1,none),(2,some (bU 164 2 af.cell r.2.2.l))]
section
variable (o_:aS)
abbrev adp:List (Nat × Option Ob):=[(0,some (.cells 226 [(.own 1 false o_.l.length)])),(1,some (Ns o_)),(4,some (.cells 164 [(cI 0),(cI 0)]))]
abbrev aa9:List (Nat × TV):=[(2,(vD (l8 [(.int .i64 0),(.int .i64 0)] 0))),(3,(vB false))]
abbrev aaM:Nat × Option Ob:=(4,some (.cells 164 [(cI ((at' o_.l 0).e0)),(cI ((at' o_.l 0).e1))]))
abbrev afB:List (Nat × TV):=[(2,(vD (l8 [(.int .i64 ((at' o_.l 0).e0)),(.int .i64 ((at' o_.l 0).e1))] 0))),(3,(vB true))]
end
theorem q9 (o_:aS) {r:(af × Bool × aS)} (h:mh o_=some r):Fn Try.prog 123 [(.one (.ptr 0 0))] (Yz o_) (.iq [(.agg [(cI r.1.e0),(cI r.1.e1)]),(sB r.2.1)]) [(0,some (.cells 226 [(.own 2 false r.2.2.l.length)])),(1,none),(2,some (bU 164 2 af.cell r.2.2.l))]:=by
 refine fN tT Try.func123 rfl rfl fun B=> ?_
 show bn _ _ _ _ _ _ (Dg r) _
 unfold mh at h
 refine sz tT ⟨[(0,(vP 0 0)),(2,(vP 4 0))],(adp o_)⟩ {fr:=[(0,4)] } [] ?_
 refine aQ (sz tT ⟨[(0,(vP 0 0)),(2,(vP 4 0)),(9,(vB (decide ((o_.l.length:Int)=0))))],(adp o_)⟩ {} [] ?_)
 refine bI h (fun hb h=> ?_) (fun hb h=> ?_)
 ·refine ct hb ?_
  refine sz tT ⟨aa9,(Yz o_)⟩ {} [4] ?_
  refine aI (.trans (bH.Wj (E0:=226) (cs:=[(.own 1 false o_.l.length)]) (nn:=false) (len:=o_.l.length) (E:=164) (esz:=2) (n:=o_.l.length) (el:=aC af.cell o_.l) (p:=0) (q:=0) (b:=1) (b':=5) (by kernel_rfl) (by kernel_rfl) (by kernel_rfl) (by kernel_rfl)) (.trans (fz ⟨aa9,[(0,some (.cells 226 [(.own 5 false o_.l.length)])),(1,none),(5,some (Ns o_))]⟩ []) (bH.fin (st':=⟨aa9,[(0,some (.cells 226 [(.own 2 false o_.l.length)])),(1,none),(2,some (Ns o_))]⟩) (cs:=[]) ⟨[],[(0,0),(1,1),(5,2)]⟩ [2,3] (by kernel_rfl) trivial))) ?_
  refine aR ?_
  obtain rfl:=oi h
  exact rh [(.agg [(cI 0),(cI 0)]),(sB false)] (.refl _) ⟨rfl, .refl _,⟨rfl,trivial,⟨rfl, .refl _,trivial⟩⟩⟩
 ·refine cf hb ?_
  refine aP (aQ (aO h fun⟨a1,a2⟩ h=> ?_))
  refine di tT mX ⟨[(2,(vP 4 0))],[(0,some (.cells 226 [(.own 6 false (o_.l.length - 1))])),(1,some (Ns o_)),(aaM o_),(6,some (.suf 1 1 2))]⟩ [_,_,o_.l.length=o_.l.length,_] {an:=[(11, .cells)],fr:=[(11,6)] } [] ⟨a1,(tL a1),rfl,a2,trivial⟩ (.trans (bH.abU (b:=1) (c:=6) (k:=1) (E:=164) (esz:=2) (cf:=af.cell) (l:=o_.l) (by kernel_rfl) (by kernel_rfl) (by omega)) (.trans (fz ⟨[(2,(vP 4 0))],[(0,some (.cells 226 [(.own 6 false (o_.l.length - 1))])),(1,none),(aaM o_),(6,some (.arr 164 2 (o_.l.length - 1) (aC af.cell (o_.l.drop 1))))]⟩ []) (bH.le (st':=⟨[(2,(vP 4 0))],[(0,some (.cells 226 [(.own 6 false ((o_.l.drop 1).length))])),(1,none),(aaM o_),(6,some (bU 164 2 af.cell (o_.l.drop 1)))]⟩) ⟨⟨tR,trivial⟩,⟨rfl,bA ⟨cW,trivial⟩,(hN 2 ⟨rfl,oW,trivial⟩)⟩⟩))) ?_
  refine sz tT ⟨(afB o_),[(0,some (.cells 226 [(.own 6 false ((o_.l.drop 1).length))])),(1,none),(6,some (bU 164 2 af.cell (o_.l.drop 1)))]⟩ {} [4] ?_
  refine aI (bH.fin (st':=⟨(afB o_),[(0,some (.cells 226 [(.own 2 false ((o_.l.drop 1).length))])),(1,none),(2,some (bU 164 2 af.cell (o_.l.drop 1)))]⟩) (cs:=[]) ⟨[],[(0,0),(1,1),(6,2)]⟩ [2,3] (by kernel_rfl) trivial) ?_
  refine aR ?_
  obtain rfl:=oi h
  exact rh [(.agg [(cI ((at' o_.l 0).e0)),(cI ((at' o_.l 0).e1))]),(sB true)] (.refl _) ⟨rfl, .refl _,⟨rfl,trivial,⟨rfl, .refl _,trivial⟩⟩⟩
section
variable (u0:Int)
abbrev WY:List (Nat × TV):=[(2,(vP 2 0)),(3,(vP 3 0)),(4,(vP 4 0))]
abbrev rO:Nat × Option Ob:=(1,some (.cells 157 [(.ptr 5 0)]))
abbrev qh:Nat × Option Ob:=(2,some (.cells 157 [(.ptr 5 0)]))
abbrev qf:Nat × Option Ob:=(3,some (.cells 3 [(cI u0)]))
end
def iC (u0:Int):(Nat × (List Int) × Network)→Exit→St→Prop:=
  fun r=>aW TT [] (.iq []) [(0,some (.loop aT r.1 WY)),rO,qh,(qf u0),(4,some (.cells 40 [(.own 6 true r.2.1.length)])),(5,some (.cells 161 [(.own 7 false r.2.2.arcs.length),(.d (aU none 1 (LA 1 (au .i64)) r.2.2.from_))])),(6,some (bU 3 1 (au .i64) r.2.1)),(7,some (bU 170 2 bJ.cell r.2.2.arcs))]
section
variable (u2:(List Bool)) (u1:(List Int)) (u4:(List (List Int))) (q0:(List af)) (u5:Int) (u6:Int)
abbrev dR:Nat × TV:=(0,(.v (.one (.yl 0))))
abbrev El:Nat × TV:=(3,(vO 56 true u2.length))
abbrev XR:List (Nat × TV):=[dR,(1,(vP 1 0)),(El u2),(4,(vP 57 0)),(5,(vP 59 0))]
abbrev vN:Nat × Option Ob:=(0,some (.loop aT 0 WY))
abbrev Lx:Nat × Option Ob:=(4,some (.cells 40 [(.own 6 true u1.length)]))
abbrev RL:DV:=(aU none 1 (LA 1 (au .i64)) u4)
abbrev Ld:Nat × Option Ob:=(6,some (Cz u1))
abbrev Nj:Nat × Option Ob:=(56,some (bU 4 1 aj u2))
abbrev Tq:Nat × Option Ob:=(57,some (.cells 226 [(.own 58 false q0.length)]))
abbrev UZ:Nat × Option Ob:=(58,some (bU 164 2 af.cell q0))
abbrev NG:Nat × Option Ob:=(59,some (.cells 164 [(cI u5),(cI u6)]))
end
def lG (u3:Int):((List bJ) × (List (List Int)) × (List Int) × (List Bool) × (List af) × Int × Int)→St:=
  fun zz=>match zz with|(u0,u4,u1,u2,q0,u5,u6)=> ⟨(XR u2),[vN,rO,qh,(qf u3),(Lx u1),(5,some (.cells 161 [(.own 7 false u0.length),(.d (RL u4))])),(Ld u1),(7,some (bU 170 2 bJ.cell u0)),(Nj u2),(Tq q0),(UZ q0),(NG u5 u6)]⟩
def lM  :Unit→St:=
  fun _=> ⟨[],[]⟩
def gZ (u0:Int):(aJ ((List bJ) × (List (List Int)) × (List Int) × (List Bool) × (List af) × Int × Int) (Ex Unit (Nat × (List Int) × Network)))→Exit→St→Prop:=
  LQ 0 [] (lG u0) lM (iC u0)
section
variable (r_:(Nat × (List Int) × Network)) (u0:Int) (u3:Int) (u1:(List Bool)) (u2:(List af)) (u4:Int)
abbrev Km:Nat × TV:=(34,(vD (aU none 1 (au .i64) (at' r_.2.2.from_ u0.toNat))))
abbrev JP:Nat × TV:=(35,(vI ((at' r_.2.2.from_ u0.toNat).length:Int)))
abbrev Dj:Nat × Option Ob:=(4,some (.cells 40 [(.own 6 true r_.2.1.length)]))
abbrev Cy:Nat × Option Ob:=(5,some (.cells 161 [(.own 7 false r_.2.2.arcs.length),(.d (aU none 1 (LA 1 (au .i64)) r_.2.2.from_))]))
abbrev CJ:Nat × Option Ob:=(6,some (bU 3 1 (au .i64) r_.2.1))
abbrev C9:Nat × Option Ob:=(7,some (bU 170 2 bJ.cell r_.2.2.arcs))
abbrev QM:List (Nat × Option Ob):=[vN,rO,qh,(qf u3),(Dj r_),(Cy r_),(CJ r_),(C9 r_),(Nj u1),(Tq u2),(UZ u2),(NG u0 u4)]
end
def lX (u3:Int) (u0:Int) (u4:Int) (r_:(Nat × (List Int) × Network)):((List Bool) × (List af) × Int)→St:=
  fun zz=>match zz with|(u1,u2,u5)=> ⟨[dR,(1,(vP 1 0)),(El u1),(4,(vP 57 0)),(5,(vP 59 0)),(Km r_ u0),(JP r_ u0),(36,(vI u5))],(QM r_ u0 u3 u1 u2 u4)⟩
section
variable (u0:(List Bool)) (u2:Int) (r_:(Nat × (List Int) × Network)) (u1:(List af)) (u3:Int) (u4:Int)
abbrev aif:St:=⟨(XR u0),(QM r_ u3 u2 u0 u1 u4)⟩
end
def mo (u2:Int) (u3:Int) (u4:Int) (r_:(Nat × (List Int) × Network)):((List Bool) × (List af))→St:=
  fun zz=>match zz with|(u0,u1)=>(aif u0 u2 r_ u1 u3 u4)
def uT (u0:Int) (u1:Int) (u2:Int) (r_:(Nat × (List Int) × Network)):(aJ ((List Bool) × (List af) × Int) (Ex ((List Bool) × (List af)) (aJ ((List bJ) × (List (List Int)) × (List Int) × (List Bool) × (List af) × Int × Int) (Ex Unit (Nat × (List Int) × Network)))))→Exit→St→Prop:=
  LQ 2 [1] (lX u0 u1 u2 r_) (mo u0 u1 u2 r_) (gZ u0)
section
variable (u1:Network) (u2:Int) (v0:(List Int)) (u9:(List bJ)) (v3:(List (List Int))) (r_:(Nat × (List Int) × Network)) (u0:Int) (u3:Int) (u4:(List Bool)) (u7:(List af)) (u6:Int) (v2:aS) (u5:(af × Bool × aS)) (u8:(List Bool))
abbrev PI:Nat × Option Ob:=(5,some (.cells 161 [(.own 7 false u1.arcs.length),(.d (Ki u1))]))
abbrev Ow:Nat × Option Ob:=(7,some (bU 170 2 bJ.cell u1.arcs))
abbrev Ph:=(List.replicate ((u1.from_.length:Int).toNat) (false:Bool))
abbrev aim:List (Nat × TV):=[dR,(1,(vP 1 0)),(3,(vO 56 true ((Ph u1).length)))]
abbrev ach:=(aC aj (Ph u1))
abbrev abT:=((Ph u1).set 0 true)
abbrev abL:=(aC aj (abT u1))
abbrev acM:Nat × TV:=(3,(vO 56 true ((abT u1).length)))
abbrev VQ:Nat × Option Ob:=(56,some (bU 4 1 aj (abT u1)))
abbrev ab9:List (Nat × TV):=[dR,(1,(vP 1 0)),(acM u1),(4,(vP 57 0))]
abbrev agO:List (Nat × Option Ob):=[vN,qh,(qf u2),(Lx v0),(5,some (.cells 161 [(.own 7 false u9.length),(.d (RL v3))])),(Ld v0),(7,some (bU 170 2 bJ.cell u9))]
abbrev ahe:List (Nat × Option Ob):=[vN,qh,(qf u2),(Dj r_),(Cy r_),(CJ r_),(C9 r_)]
abbrev acd:Nat × Option Ob:=(0,some (.loop aT r_.1 WY))
abbrev Y4:List (Nat × Option Ob):=[(acd r_),qh,(qf u2),(Dj r_),(Cy r_),(CJ r_),(C9 r_)]
abbrev XG:Nat × TV:=(7,(vI (at' (at' r_.2.2.from_ u0.toNat) u3.toNat)))
abbrev Xu:=(at' r_.2.2.arcs ((at' (at' r_.2.2.from_ u0.toNat) u3.toNat).toNat))
abbrev Y6:=((Xu r_ u0 u3).to_)
abbrev aa0:=((Xu r_ u0 u3).left)
abbrev afT:List (Nat × Option Ob):=[vN,rO,qh,(qf u2),(Dj r_),(Cy r_),(CJ r_),(C9 r_),(Nj u4),(Tq u7),(UZ u7),(NG u0 u6),(99,some (.cells 170 [(cI (Y6 r_ u0 u3)),(cI (aa0 r_ u0 u3))]))]
abbrev QS:=(decide (0<(aa0 r_ u0 u3)))
abbrev aaP:=((Y6 r_ u0 u3).toNat)
abbrev agG:=(fQ [(3,(QS r_ u0 u3))])
abbrev aff:Nat × TV:=(8,(vD (l8 [(.int .i64 (Y6 r_ u0 u3)),(.int .i64 (aa0 r_ u0 u3))] 0)))
abbrev adb:=(u4.set (aaP r_ u0 u3) true)
abbrev aaI:=(aC aj (adb r_ u0 u3 u4))
abbrev acn:Nat × TV:=(3,(vO 56 true ((adb r_ u0 u3 u4).length)))
abbrev aa2:Nat × Option Ob:=(56,some (bU 4 1 aj (adb r_ u0 u3 u4)))
abbrev afc:List (Nat × Option Ob):=[vN,rO,qh,(qf u2),(Dj r_),(Cy r_),(CJ r_),(C9 r_),(aa2 r_ u0 u3 u4),(57,some (.cells 226 [(.own 100 false v2.l.length)])),(NG u0 u6),(100,some (Ns v2))]
abbrev Zc:Nat × TV:=(36,(k3 u3))
abbrev ahA:List (Nat × TV):=[dR,(1,(vP 1 0)),(acn r_ u0 u3 u4),(4,(vP 57 0)),(5,(vP 59 0)),(Km r_ u0),(JP r_ u0),(Zc u3)]
abbrev Yh:Nat × Option Ob:=(57,some (.cells 226 [(.own 101 false u5.2.2.l.length)]))
abbrev Zb:Nat × Option Ob:=(101,some (bU 164 2 af.cell u5.2.2.l))
abbrev Pn:Ob:=(.cells 164 [(cI u5.1.e0),(cI u5.1.e1)])
abbrev ad2:List (Nat × Option Ob):=[vN,rO,qh,(qf u2),(Dj r_),(Cy r_),(CJ r_),(C9 r_),(Nj u8),(Yh u5),(NG u0 u6),(Zb u5),(102,some (Pn u5))]
end
theorem lU (u2:Int) (o_:(List Int)) (u1:Network) {r:(Nat × (List Int) × Network)} (h:jg u2 o_ u1=some r):Fn Try.prog 121 [(.one (.yl 0)),(.one (.ptr 1 0))] [vN,rO,qh,(qf u2),(Lx o_),(PI u1),(Ld o_),(Ow u1)] (.iq []) [(0,some (.loop aT r.1 WY)),rO,qh,(qf u2),(4,some (.cells 40 [(.own 6 true r.2.1.length)])),(5,some (.cells 161 [(.own 7 false r.2.2.arcs.length),(.d (aU none 1 (LA 1 (au .i64)) r.2.2.from_))])),(6,some (bU 3 1 (au .i64) r.2.1)),(7,some (bU 170 2 bJ.cell r.2.2.arcs))]:=by
 refine fN tT Try.func121 rfl rfl fun B=> ?_
 show bn _ _ _ _ _ _ ((iC u2) r) _
 unfold jg at h
 refine aQ (aO h fun⟨a1,a2,a3⟩ h=> ?_)
 refine rg tT ⟨(aim u1),[vN,rO,qh,(qf u2),(Lx o_),(PI u1),(Ld o_),(Ow u1),(56,some (bU 4 1 aj (Ph u1)))]⟩ [_,((u1.from_.length:Int):Int)=(u1.from_.length:Int),_,_,(Ph u1).length=((u1.from_.length:Int).toNat),aH ((u1.from_.length:Int).toNat) 1 (fun _ j=>[(.bool false)].getD j .nilp) (ach u1)] {an:=[(5, .arr (Ph u1).length (ach u1))],fr:=[(5,56)] } [] ⟨a1,rfl,a2,a3,(List.length_replicate),(dZ _ _ _ _ _ (fun j hj=>(match j,hj with|0,_=>rfl))),trivial⟩ ?_
 refine aQ (aO h fun a1 h=> ?_)
 refine ri tT ⟨(aim u1),[vN,rO,qh,(qf u2),(Lx o_),(PI u1),(Ld o_),(Ow u1),(56,some (.arr 4 1 (Ph u1).length (abL u1)))]⟩ [_,_,aH (Ph u1).length 1 (kK (ach u1) 0 0 [(.bool true)]) (abL u1)] {an:=[(2, .arr 0 (abL u1))] } [] ⟨a1,(tL a1),(bL _ _ _ _ _ _ _ _ rfl (fun j hj=>(match j,hj with|0,_=>rfl))),trivial⟩ (bH.le (st':=⟨[dR,(1,(vP 1 0)),(acM u1)],[vN,rO,qh,(qf u2),(Lx o_),(PI u1),(Ld o_),(Ow u1),(VQ u1)]⟩) ⟨⟨tR,tR,⟨_,rfl,dh.v (dX.one cW)⟩,trivial⟩,(hN 8 ⟨rfl,oW,trivial⟩)⟩) ?_
 refine si tT ⟨(ab9 u1),[vN,rO,qh,(qf u2),(Lx o_),(PI u1),(Ld o_),(Ow u1),(VQ u1),(57,some (.cells 226 [(.d nS)]))]⟩ [] {fr:=[(0,57)] } [] trivial (.trans (bH.Ac (E:=0) (esz:=0) (E0:=226) (cs:=[(.d nS)]) (p:=57) (q:=0) (b:=58) (esz0:=0) (el0:=fun _ _=> .nilp) (ob:= .arr 164 2 0 (aC af.cell ([]:List af))) (fun _ _ _ _ h=> .inl ⟨h,rfl⟩) (by kernel_rfl) (by kernel_rfl) (by kernel_rfl)) (.trans (fz ⟨(ab9 u1),[vN,rO,qh,(qf u2),(Lx o_),(PI u1),(Ld o_),(Ow u1),(VQ u1),(57,some (.cells 226 [(.own 58 false 0)])),(58,some (.arr 164 2 0 (aC af.cell ([]:List af))))]⟩ []) (bH.le (st':=⟨(ab9 u1),[vN,rO,qh,(qf u2),(Lx o_),(PI u1),(Ld o_),(Ow u1),(VQ u1),(57,some (.cells 226 [(.own 58 false (([]:List af).length))])),(58,some (bU 164 2 af.cell ([]:List af)))]⟩) ⟨⟨tR,tR,tR,tR,trivial⟩,(hN 9 ⟨rfl,bA ⟨cW,trivial⟩,⟨rfl,oW,trivial⟩⟩)⟩))) ?_
 refine sz tT ⟨[dR,(1,(vP 1 0)),(acM u1),(4,(vP 57 0)),(5,(vP 59 0))],[vN,rO,qh,(qf u2),(Lx o_),(PI u1),(Ld o_),(Ow u1),(VQ u1),(57,some (.cells 226 [(.own 58 false (([]:List af).length))])),(58,some (bU 164 2 af.cell ([]:List af))),(59,some (.cells 164 [(cI 0),(cI (-1))]))]⟩ {fr:=[(1,59)] } [] ?_
 refine bE h fun y1 hy h=> ?_
 refine aL [] (lG u2) lM (iC u2) hy (fun s f h=> ?_) ?_
 ·clear hy
  show bn _ _ _ _ _ _ ((gZ u2) f) _
  unfold lT at h
  obtain⟨u9,v3,v0,v1,q0,u0,u6⟩:=s
  refine aQ (aB (aQ (aQ (bE h fun r_ hr_ h=> ?_))))
  refine bI h (fun hb h=> ?_) (fun hb h=> ?_)
  ·skip
   refine rg tT ⟨[dR,(1,(vP 1 0)),(El v1),(4,(vP 57 0)),(5,(vP 59 0)),(26,(vB false))],(QM r_ u0 u2 v1 q0 u6)⟩ [(0:Int)≤0∧(0:Int)<(2:Nat),(0:Int)≤1∧(1:Int)<(2:Nat),Yl Try.prog 0 [(sI u0),(sI u6)] (agO u2 v0 u9 v3) (vB true) (ahe u2 r_)] {an:=[(5, .call [0,2,3,4,5,6,7] (vB true) (ahe u2 r_))] } [] ⟨((by decide)),((by decide)),(Yl.leR (res:=(vB (Nat.beq r_.1 0))) (hout:=(Y4 u2 r_)) (yK [(1,2),(1,3),(1,4),(1,5),(1,6),(1,7)] (lI u0 u6 u2 v0 (⟨u9,v3⟩:Network) hr_)) (dh.of (congrArg vB hb)) ⟨rfl,R6.of (congrArg (fun n=>some (Ob.loop aT n WY)) (Nat.eq_of_beq_eq_true hb)),(.refl _)⟩),trivial⟩ ?_
   refine cn (aP (aQ (aQ (aO h fun a1 h=> ?_))))
   refine dg tT mX ⟨[dR,(1,(vP 1 0)),(El v1),(4,(vP 57 0)),(5,(vP 59 0)),(Km r_ u0),(JP r_ u0),(36,(vI 0))],(QM r_ u0 u2 v1 q0 u6)⟩ [(0:Int)≤0∧(0:Int)<(2:Nat),_] {} [] ⟨((by decide)),a1,trivial⟩ ?_
   refine bE h fun y hy h=> ?_
   refine aL [1] (lX u2 u0 u6 r_) (mo u2 u0 u6 r_) (gZ u2) hy (fun s f h=> ?_) ?_
   ·clear hy
    show bn _ _ _ _ _ _ ((uT u2 u0 u6 r_) f) _
    unfold lK at h
    obtain⟨u4,u7,u3⟩:=s
    refine sz tT ⟨[dR,(1,(vP 1 0)),(El u4),(4,(vP 57 0)),(5,(vP 59 0)),(Km r_ u0),(JP r_ u0),(36,(vI u3)),(37,(vB (decide (u3<((at' r_.2.2.from_ u0.toNat).length:Int)))))],(QM r_ u0 u2 u4 u7 u6)⟩ {} [] ?_
    refine aQ ?_
    refine bI h (fun hb2 h=> ?_) (fun hb2 h=> ?_)
    ·refine ct hb2 ?_
     refine aP (aQ (aB (aQ (aO h fun a1 h=> ?_))))
     refine rg tT ⟨[dR,(1,(vP 1 0)),(El u4),(4,(vP 57 0)),(5,(vP 59 0)),(XG r_ u0 u3),(Km r_ u0),(JP r_ u0),(36,(vI u3))],(QM r_ u0 u2 u4 u7 u6)⟩ [_] {} [] ⟨a1,trivial⟩ ?_
     refine aQ (aO h fun a1 h=> ?_)
     refine rg tT ⟨[dR,(1,(vP 1 0)),(El u4),(4,(vP 57 0)),(5,(vP 59 0)),(XG r_ u0 u3),(8,(vP 99 0)),(Km r_ u0),(JP r_ u0),(36,(vI u3))],(afT u2 r_ u0 u3 u4 u7 u6)⟩ [_,_] {fr:=[(7,99)] } [] ⟨a1,(tL a1),trivial⟩ ?_
     refine aQ (aO h fun a1 h=> ?_)
     refine rg tT ⟨[dR,(1,(vP 1 0)),(El u4),(4,(vP 57 0)),(5,(vP 59 0)),(XG r_ u0 u3),(8,(vP 99 0)),(Km r_ u0),(JP r_ u0),(36,(vI u3)),(57,(vB (bif (QS r_ u0 u3)then(!(at' u4 (aaP r_ u0 u3)))else false)))],(afT u2 r_ u0 u3 u4 u7 u6)⟩ (eqs (QS r_ u0 u3) 4 ((gP (agG r_ u0 u3) [(3,true)]→All [(0:Int)≤(Xu r_ u0 u3).to_∧(Xu r_ u0 u3).to_<(u4.length:Int)])::((QS r_ u0 u3)=(QS r_ u0 u3))::(gP (agG r_ u0 u3) [(3,true)]→All [(Y6 r_ u0 u3).toNat<u4.length])::(eqs (QS r_ u0 u3) 2 []))) {yb:=[(3,(QS r_ u0 u3))] } [] (ae ⟨(fun hg=> ⟨(a1 (aM hg)),trivial⟩),rfl,(fun hg=> ⟨((fun hq=>tL (a1 hq)) (aM hg)),trivial⟩),(ae trivial)⟩) ?_
     refine bI h (fun hb1 h=> ?_) (fun hb1 h=> ?_)
     ·refine ct hb1 ?_
      refine aQ (aO h fun a1 h=> ?_)
      refine ri tT ⟨[dR,(1,(vP 1 0)),(El u4),(4,(vP 57 0)),(5,(vP 59 0)),(XG r_ u0 u3),(aff r_ u0 u3),(Km r_ u0),(JP r_ u0),(36,(vI u3))],[vN,rO,qh,(qf u2),(Dj r_),(Cy r_),(CJ r_),(C9 r_),(56,some (.arr 4 1 u4.length (aaI r_ u0 u3 u4))),(Tq u7),(UZ u7),(NG u0 u6)]⟩ [_,_,aH u4.length 1 (kK (aC aj u4) (aaP r_ u0 u3) 0 [(.bool true)]) (aaI r_ u0 u3 u4)] {an:=[(4, .arr 0 (aaI r_ u0 u3 u4))] } [99] ⟨a1,(tL a1),(bL _ _ _ _ _ _ _ _ rfl (fun j hj=>(match j,hj with|0,_=>rfl))),trivial⟩ (bH.le (st':=⟨[dR,(1,(vP 1 0)),(acn r_ u0 u3 u4),(4,(vP 57 0)),(5,(vP 59 0)),(XG r_ u0 u3),(aff r_ u0 u3),(Km r_ u0),(JP r_ u0),(36,(vI u3))],[vN,rO,qh,(qf u2),(Dj r_),(Cy r_),(CJ r_),(C9 r_),(aa2 r_ u0 u3 u4),(Tq u7),(UZ u7),(NG u0 u6)]⟩) ⟨⟨tR,tR,⟨_,rfl,dh.v (dX.one cW)⟩,tR,tR,tR,tR,tR,tR,tR,trivial⟩,(hN 8 ⟨rfl,oW,(.refl _)⟩)⟩) ?_
      refine bE h fun v2 hr_1 h=> ?_
      have q0:=rk [(0,57),(1,58),(2,100)] (uo (⟨(Xu r_ u0 u3).to_,(at' (at' r_.2.2.from_ u0.toNat) u3.toNat)⟩:af) (⟨u7⟩:aS) hr_1)
      refine rg tT ⟨[dR,(1,(vP 1 0)),(acn r_ u0 u3 u4),(4,(vP 57 0)),(5,(vP 59 0)),(Km r_ u0),(JP r_ u0),(36,(vI u3))],(afc u2 r_ u0 u3 u4 u6 v2)⟩ [_] {an:=[(4,cA q0 [57,58])] } [] ⟨q0,trivial⟩ ?_
      refine ri tT ⟨(ahA r_ u0 u3 u4),(afc u2 r_ u0 u3 u4 u6 v2)⟩ [] {} [] trivial (bH.fin (st':=⟨(ahA r_ u0 u3 u4),[vN,rO,qh,(qf u2),(Dj r_),(Cy r_),(CJ r_),(C9 r_),(aa2 r_ u0 u3 u4),(57,some (.cells 226 [(.own 58 false v2.l.length)])),(58,some (Ns v2)),(NG u0 u6)]⟩) (cs:=[]) ⟨[],[(0,0),(1,1),(2,2),(3,3),(4,4),(5,5),(6,6),(7,7),(56,56),(57,57),(100,58),(59,59)]⟩ [0,1,3,4,5,34,35,36] (by kernel_rfl) trivial) ?_
      obtain rfl:=oi h
      exact lN
     ·refine cf hb1 ?_
      refine aP (rz tT ⟨[dR,(1,(vP 1 0)),(El u4),(4,(vP 57 0)),(5,(vP 59 0)),(Km r_ u0),(JP r_ u0),(Zc u3)],(QM r_ u0 u2 u4 u7 u6)⟩ {} [] ?_)
      obtain rfl:=oi h
      exact lN
    ·refine cf hb2 ?_
     refine aI (fz (aif u4 u2 r_ u7 u0 u6) []) ?_
     refine aX ?_
     obtain rfl:=oi h
     exact lB
   ·clear hy
    cases y with
    |brk z=>
     obtain⟨u8,v4⟩:=z
     unfold dA
     refine⟨_, .refl, ?_⟩
     refine aQ (bE h fun u5 hr_2 h=> ?_)
     have q0:=rk [(0,57),(1,58),(2,101)] (q9 (⟨v4⟩:aS) hr_2)
     refine rg tT ⟨[dR,(1,(vP 1 0)),(El u8),(4,(vP 57 0)),(5,(vP 59 0)),(9,(vP 102 0)),(10,(vB u5.2.1))],(ad2 u2 r_ u0 u6 u5 u8)⟩ [_] {an:=[(0,cA q0 [57,58])],fr:=[(4,102)] } [] ⟨q0,trivial⟩ ?_
     refine aQ (sz tT ⟨[dR,(1,(vP 1 0)),(El u8),(4,(vP 57 0)),(5,(vP 59 0)),(9,(vP 102 0)),(73,(vB (!u5.2.1)))],(ad2 u2 r_ u0 u6 u5 u8)⟩ {} [] ?_)
     refine bI h (fun hb3 h=> ?_) (fun hb3 h=> ?_)
     ·refine ct hb3 ?_
      refine aI (fz ⟨[],[vN,rO,qh,(qf u2),(Dj r_),(Cy r_),(CJ r_),(C9 r_)]⟩ []) ?_
      refine aR ?_
      obtain rfl:=oi h
      exact lR bD (bC 0) bG (aW.mk (.inr rfl) (p:=[]) (l:=[]) (by kernel_rfl) trivial (dh.refl _) (.refl _))
     ·refine cf hb3 ?_
      refine aP (rz tT ⟨(XR u8),[vN,rO,qh,(qf u2),(Dj r_),(Cy r_),(CJ r_),(C9 r_),(Nj u8),(Yh u5),(59,some (Pn u5)),(Zb u5)]⟩ {} [] ?_)
      refine sz tT ⟨[dR,(1,(vP 1 0)),(El u8),(4,(vP 57 0)),(75,(.v (.agg [(cI u5.1.e0),(cI u5.1.e1)])))],[vN,rO,qh,(qf u2),(Dj r_),(Cy r_),(CJ r_),(C9 r_),(Nj u8),(Yh u5),(Zb u5)]⟩ {} [] ?_
      refine ri tT ⟨[dR,(1,(vP 1 0)),(El u8),(4,(vP 57 0)),(5,(vP 103 0))],[vN,rO,qh,(qf u2),(Dj r_),(Cy r_),(CJ r_),(C9 r_),(Nj u8),(Yh u5),(Zb u5),(103,some (Pn u5))]⟩ [] {fr:=[(0,103)] } [] trivial (bH.fin (st':=⟨(XR u8),[vN,rO,qh,(qf u2),(Dj r_),(Cy r_),(CJ r_),(C9 r_),(Nj u8),(57,some (.cells 226 [(.own 58 false u5.2.2.l.length)])),(58,some (bU 164 2 af.cell u5.2.2.l)),(59,some (Pn u5))]⟩) (cs:=[]) ⟨[],[(0,0),(1,1),(2,2),(3,3),(4,4),(5,5),(6,6),(7,7),(56,56),(57,57),(101,58),(103,59)]⟩ [0,1,3,4,5] (by kernel_rfl) trivial) ?_
      obtain rfl:=oi h
      exact lN
    |ret v=>
     obtain rfl:=oi h
     unfold dA
     intro e st hn ha hR
     cases e with
     |normal=>exact absurd rfl hn
     |exit id=>simp only [qX (b:=1) ha rfl,cond_false];exact hR
     |goto l=>exact hR
     |ret=>exact hR
     |panic c=>exact hR
     |outgrown=>exact hR
  ·skip
   refine rg tT ⟨[dR,(1,(vP 1 0)),(El v1),(4,(vP 57 0)),(5,(vP 59 0)),(26,(vB true))],[(acd r_),rO,qh,(qf u2),(Dj r_),(Cy r_),(CJ r_),(C9 r_),(Nj v1),(Tq q0),(UZ q0),(NG u0 u6)]⟩ [(0:Int)≤0∧(0:Int)<(2:Nat),(0:Int)≤1∧(1:Int)<(2:Nat),Yl Try.prog 0 [(sI u0),(sI u6)] (agO u2 v0 u9 v3) (vB false) (Y4 u2 r_)] {an:=[(5, .call [0,2,3,4,5,6,7] (vB false) (Y4 u2 r_))] } [] ⟨((by decide)),((by decide)),(Yl.leR (res:=(vB (Nat.beq r_.1 0))) (hout:=(Y4 u2 r_)) (yK [(1,2),(1,3),(1,4),(1,5),(1,6),(1,7)] (lI u0 u6 u2 v0 (⟨u9,v3⟩:Network) hr_)) (dh.of (congrArg vB hb)) (.refl _)),trivial⟩ ?_
   refine ck (aI (fz ⟨[],[(acd r_),rO,qh,(qf u2),(Dj r_),(Cy r_),(CJ r_),(C9 r_)]⟩ []) ?_)
   refine aR ?_
   obtain rfl:=oi h
   exact lR bD (bC 0) bG (aW.mk (.inr rfl) (p:=[]) (l:=[]) (by kernel_rfl) trivial (dh.refl _) (.refl _))
 ·clear hy
  cases y1 with
  |brk z=>exact absurd h (by simp)
  |ret v=>
   obtain rfl:=oi h
   unfold dA
   intro e st hn ha hR
   cases e with
   |normal=>exact absurd rfl hn
   |exit id=>exact hR
   |goto l=>exact hR
   |ret=>exact hR
   |panic c=>exact hR
   |outgrown=>exact hR
def iO  :Network→Exit→St→Prop:=
  fun r=>aW TT [] (.iq []) [(0,some (.cells 161 [(.own 1 false r.arcs.length),(.d (aU none 1 (LA 1 (au .i64)) r.from_))])),(1,some (bU 170 2 bJ.cell r.arcs))]
section
variable (o0:(List bJ)) (o1:(List (List Int))) (u0:Int)
abbrev Zm:Nat × Option Ob:=(0,some (.cells 161 [(.own 1 false o0.length),(.d (RL o1))]))
abbrev OE:Nat × Option Ob:=(20,some (.cells 157 [(.ptr 0 0)]))
abbrev PY:Nat × Option Ob:=(21,some (.cells 3 [(cI u0)]))
end
def kD (u0:Int):((List bJ) × (List (List Int)))→St:=
  fun zz=>match zz with|(o0,o1)=> ⟨[(2,(vP 20 0)),(3,(vP 21 0))],[(Zm o0 o1),(1,some (bU 170 2 bJ.cell o0)),OE,(PY u0)]⟩
def kC  :Unit→St:=
  fun _=> ⟨[],[]⟩
def zZ (u0:Int):(aJ ((List bJ) × (List (List Int))) (Ex Unit Network))→Exit→St→Prop:=
  LQ 0 [] (kD u0) kC (SQ1 iO)
section
variable (o1:(List (List Int))) (u0:(Nat × (List Int) × Network)) (u1:Int) (o0:(List bJ))
abbrev Ru:List (Nat × TV):=[(2,(vP 20 0)),(3,(vP 21 0)),(4,(vP 35 0))]
abbrev Qm:=(List.replicate ((o1.length:Int).toNat) (0:Int))
abbrev abk:Nat × Option Ob:=(34,some (bU 3 1 (au .i64) (Qm o1)))
abbrev abb:Nat × Option Ob:=(35,some (.cells 40 [(.own 34 true ((Qm o1).length))]))
abbrev afS:List (Nat × TV):=[(2,(vP 20 0)),(3,(vP 21 0)),(4,(vP 35 0)),(18,(.v (.one (.fn 121 0 1 (BF [(.ptr 36 0)])))))]
abbrev YH:Nat × Option Ob:=(36,some (.cells 157 [(.ptr 0 0)]))
abbrev Yv:Nat × Option Ob:=(0,some (.cells 161 [(.own 1 false u0.2.2.arcs.length),(.d (aU none 1 (LA 1 (au .i64)) u0.2.2.from_))]))
abbrev YO:Nat × Option Ob:=(1,some (bU 170 2 bJ.cell u0.2.2.arcs))
abbrev afa:List (Nat × Option Ob):=[(37,some (.loop aT u0.1 Ru)),YH,OE,(PY u1),(35,some (.cells 40 [(.own 34 true u0.2.1.length)])),(Yv u0),(34,some (bU 3 1 (au .i64) u0.2.1)),(YO u0)]
abbrev ahj:List (Nat × Option Ob):=[(37,some (.loop aT 0 Ru)),YH,OE,(PY u1),(abb o1),(Zm o0 o1),(abk o1),(1,some (bU 170 2 bJ.cell o0))]
abbrev adt:St:=⟨afS,[(Yv u0),(YO u0),OE,(PY u1),(34,some (bU 3 1 (au .i64) u0.2.1)),(35,some (.cells 40 [(.own 34 true u0.2.1.length)])),YH]⟩
end
theorem pW (u1:Int) (u2:Network) {r:Network} (h:nE u1 u2=some r):Fn Try.prog 80 [(.one (.ptr 0 0)),(sI u1)] (agM u2) (.iq []) [(0,some (.cells 161 [(.own 1 false r.arcs.length),(.d (aU none 1 (LA 1 (au .i64)) r.from_))])),(1,some (bU 170 2 bJ.cell r.arcs))]:=by
 refine fN tT Try.func80 rfl rfl fun B=> ?_
 show bn _ _ _ _ _ _ (iO r) _
 unfold nE at h
 refine sz tT ⟨[(2,(vP 20 0)),(3,(vP 21 0))],[(Y5 u2),(VB u2),OE,(PY u1)]⟩ {fr:=[(0,20),(1,21)] } [] ?_
 refine Rw ?_
 refine aQ (SG ?_)
 refine bE h fun y hy h=> ?_
 refine aL [] (kD u1) kC (SQ1 iO) hy (fun s f h=> ?_) ?_
 ·clear hy
  show bn _ _ _ _ _ _ ((zZ u1) f) _
  unfold pF at h
  obtain⟨o0,o1⟩:=s
  refine aB (aQ (aO h fun⟨a1,a2,a3⟩ h=> ?_))
  refine rg tT ⟨Ru,[(Zm o0 o1),(1,some (bU 170 2 bJ.cell o0)),OE,(PY u1),(abk o1),(abb o1)]⟩ [_,((o1.length:Int):Int)=(o1.length:Int),_,_,(Qm o1).length=((o1.length:Int).toNat),aH ((o1.length:Int).toNat) 1 (fun _ j=>[(.int .i64 0)].getD j .nilp) (aC (au .i64) (Qm o1))] {an:=[(5, .arr (Qm o1).length (aC (au .i64) (Qm o1)))],fr:=[(5,34),(6,35)] } [] ⟨a1,rfl,a2,a3,(List.length_replicate),(dZ _ _ _ _ _ (fun j hj=>(match j,hj with|0,_=>rfl))),trivial⟩ ?_
  refine aQ (aQ (bE h fun r_ hr_ h=> ?_))
  have q0:=rk [(2,36)] (iV (⟨o0,o1⟩:Network) hr_)
  refine rg tT ⟨afS,[(Zm o0 o1),(1,some (bU 170 2 bJ.cell o0)),OE,(PY u1),(abk o1),(abb o1),YH]⟩ [_] {an:=[(1,cA q0 [0,1])] } [] ⟨q0,trivial⟩ ?_
  refine aB (bE h fun u0 hr_1 h=> ?_)
  refine bI h (fun hb h=> ?_) (fun hb h=> ?_)
  ·skip
   refine jN 37 Ru [.exit 1] [37,36,20,21,35,0,34,1] (.iq []) (afa u0 u1) (.v (.one (.fn 121 0 1 (BF [(.ptr 36 0)])))) 121 [] [(.ptr 36 0)] (ahj o1 u1 o0) [(.one (.yl 37)),(.one (.ptr 36 0))] aT u0.1 Ru (by kernel_rfl) (by kernel_rfl) (by kernel_rfl) (by kernel_rfl) (by kernel_rfl) (by kernel_rfl) (by kernel_rfl) (rK [(0,37),(1,36),(2,20),(3,21),(4,35),(5,0),(6,34),(7,1)] (lU u1 (Qm o1) (⟨o0,o1⟩:Network) hr_1)) (by kernel_rfl) rfl (EU.zero (Nat.eq_of_beq_eq_true hb)) (bH.fin (st':=(adt u0 u1)) (cs:=[]) ⟨[],[(0,0),(1,1),(20,20),(21,21),(34,34),(35,35),(36,36)]⟩ [2,3,4,18] (by kernel_rfl) trivial) ?_
   refine aI (fz ⟨[],[(Yv u0),(YO u0)]⟩ []) ?_
   refine aR ?_
   obtain rfl:=oi h
   exact lR bD (bC 0) bG (abM (aW.mk (.inr rfl) (p:=[]) (l:=[]) (by kernel_rfl) trivial (dh.refl _) (.refl _)))
  ·skip
   refine aO h fun a1 h=> ?_
   refine jN 37 Ru [.exit 1] [37,36,20,21,35,0,34,1] (.iq []) (afa u0 u1) (.v (.one (.fn 121 0 1 (BF [(.ptr 36 0)])))) 121 [] [(.ptr 36 0)] (ahj o1 u1 o0) [(.one (.yl 37)),(.one (.ptr 36 0))] aT u0.1 Ru (by kernel_rfl) (by kernel_rfl) (by kernel_rfl) (by kernel_rfl) (by kernel_rfl) (by kernel_rfl) (by kernel_rfl) (rK [(0,37),(1,36),(2,20),(3,21),(4,35),(5,0),(6,34),(7,1)] (lU u1 (Qm o1) (⟨o0,o1⟩:Network) hr_1)) (by kernel_rfl) rfl (EU.aiW (k:=0) (e:=(.exit 1)) a1 rfl rfl rfl) (.trans (bH.fin (st':=(adt u0 u1)) (cs:=[]) ⟨[],[(0,0),(1,1),(20,20),(21,21),(34,34),(35,35),(36,36)]⟩ [2,3,4,18] (by kernel_rfl) trivial) (bH.fin (st':=⟨[(2,(vP 20 0)),(3,(vP 21 0))],[(Yv u0),(YO u0),OE,(PY u1)]⟩) (cs:=[]) ⟨[],[(0,0),(1,1),(20,20),(21,21)]⟩ [2,3] (by kernel_rfl) trivial)) ?_
   obtain rfl:=oi h
   exact R5 (b:=0) (av:=[]) (S:=(kD u1)) (Sb:=kC) (Qo:=(SQ1 iO)) (by kernel_rfl)
 ·clear hy
  cases y with
  |brk z=>exact absurd h (by simp)
  |ret v=>
   obtain rfl:=oi h
   unfold dA
   intro e st hn ha hR
   cases e with
   |normal=>exact absurd rfl hn
   |exit id=>exact hR
   |goto l=>exact hR
   |ret=>exact hR
   |panic c=>exact hR
   |outgrown=>exact hR
noncomputable def dM:ou:=⟨[236,237],Je ([1,1,1,1,1,1,1,1,1,1,1,1,1,1,0,1,0]++[0]) (nG Try.f32),Je ([1,1,1,1,1,1,1,1,1,1,1,1,1,1,0,1,0]++[1]) (nG Try.f32),252,[]⟩
section
variable (u0:ah)
abbrev Um:List (Nat × TV):=[(2,(vP 1 0)),(28,(vP 2 0))]
abbrev wG:Nat × Option Ob:=(0,some (.loop dM 0 Um))
abbrev ru:Nat × Option Ob:=(1,some (YV u0))
end
def Dk (u0:ah):(List Bool)→Exit→St→Prop:=
  fun r=>nI 0 dM (vB true) [wG,(ru u0),(2,some (.cells 27 [(.own 3 true r.length)])),(3,some (bU 4 1 aj r))]
section
variable (o_:(List Bool)) (u0:ah) (u1:Int)
abbrev yJ:Nat × Option Ob:=(2,some (.cells 27 [(.own 3 true o_.length)]))
abbrev wY:Nat × Option Ob:=(3,some (bU 4 1 aj o_))
abbrev MX:List (Nat × Option Ob):=[wG,(ru u0),(yJ o_),(wY o_)]
abbrev acf:Nat × Option Ob:=(0,some (.loop dM 1 Um))
abbrev aaL:List (Nat × Option Ob):=[acf,(ru u0),(yJ o_),(wY o_)]
abbrev abd:=(aC aj (o_.set ((Lr u1).toNat) true))
end
theorem Cc (u1:Int) (u2:Int) (u0:ah) (o_:(List Bool)) {r:(List Bool)} (h:pu u1 u2 u0 o_=some r):Yl Try.prog 0 [(sI u1),(sI u2)] (MX o_ u0) (vB true) [wG,(ru u0),(2,some (.cells 27 [(.own 3 true r.length)])),(3,some (bU 4 1 aj r))]:=by
 refine Gd (r:=dM) (sl:=Um) (sl1:=[(2,(vP 1 0)),(28,(vP 2 0)),(29,(vI u1))]) (h1:=(MX o_ u0)) (sl2:=Um) (by kernel_rfl) rfl rfl (by kernel_rfl) (fun rd B=> ?_) (by kernel_rfl) (fun rd B=> ?_)
 ·refine rE (c:=Je ([1,1,1,1,1,1,1,1,1,1,1,1,1,1,0,1,0]++[0]) (nG Try.f32)) rfl ?_
  refine oL (st:=⟨[(236,(vI u1)),(237,(vI u2)),(2,(vP 1 0)),(28,(vP 2 0))],(MX o_ u0)⟩) (by kernel_rfl) ?_
  refine rz tT ⟨[(2,(vP 1 0)),(28,(vP 2 0)),(29,(vI u1))],(MX o_ u0)⟩ {} [] ?_
  exact⟨rfl,rfl⟩
 ·refine rE (c:=Je ([1,1,1,1,1,1,1,1,1,1,1,1,1,1,0,1,0]++[1]) (nG Try.f32)) rfl ?_
  refine oL (st:=⟨[(2,(vP 1 0)),(28,(vP 2 0)),(29,(vI u1))],(aaL o_ u0)⟩) (by kernel_rfl) ?_
  show bn _ _ _ _ _ _ ((Dk u0) r) _
  unfold pu at h
  refine aB (sg tT ⟨[(28,(vP 2 0)),(29,(vI u1)),(245,(vB (bif (decide (0<u1))then(decide (u1≤u0.buses))else false)))],(aaL o_ u0)⟩ (eqs (decide (0<u1)) 5 []) {yb:=[(2,(decide (0<u1)))] } [] (ae trivial) ?_)
  refine bI h (fun hb h=> ?_) (fun hb h=> ?_)
  ·refine ct hb ?_
   refine aO h fun a1 h=> ?_
   refine ri tT ⟨[],[acf,(ru u0),(yJ o_),(3,some (.arr 4 1 o_.length (abd o_ u1)))]⟩ [_,_,aH o_.length 1 (kK (aC aj o_) ((Lr u1).toNat) 0 [(.bool true)]) (abd o_ u1)] {an:=[(4, .arr 0 (abd o_ u1))] } [] ⟨a1,(tL a1),(bL _ _ _ _ _ _ _ _ rfl (fun j hj=>(match j,hj with|0,_=>rfl))),trivial⟩ (bH.le (st':=⟨[],[acf,(ru u0),(2,some (.cells 27 [(.own 3 true ((o_.set ((Lr u1).toNat) true).length))])),(3,some (bU 4 1 aj (o_.set ((Lr u1).toNat) true)))]⟩) ⟨trivial,(hN 2 ⟨rfl,bA ⟨cW,trivial⟩,⟨rfl,oW,trivial⟩⟩)⟩) ?_
   obtain rfl:=oi h
   exact nI.on (sl:=Um) (by kernel_rfl) (zX (by kernel_rfl)) (dh.refl _)
  ·refine cf hb ?_
   refine aI (fz ⟨[],(aaL o_ u0)⟩ []) ?_
   refine aP ?_
   obtain rfl:=oi h
   exact nI.on (sl:=Um) (by kernel_rfl) (zX (by kernel_rfl)) (dh.refl _)
def gF (u0:ah):(List Bool)→Exit→St→Prop:=
  fun r=>aW TT [] (.iq []) [wG,(ru u0),(2,some (.cells 27 [(.own 3 true r.length)])),(3,some (bU 4 1 aj r))]
section
variable (x1:(List bJ)) (u3:(List (List Int))) (u2:(List Bool)) (q0:(List af)) (u4:Int) (u5:Int) (u0:ah) (u1:(List Bool))
abbrev yO:Nat × TV:=(1,(vD (l8 [(l8 [(aU none 2 bJ.cell x1),(RL u3)] 0)] 0)))
abbrev F5:Nat × TV:=(3,(vO 52 true u2.length))
abbrev abY:List (Nat × TV):=[dR,(yO x1 u3),(F5 u2),(4,(vP 53 0)),(5,(vP 55 0))]
abbrev QA:Nat × Option Ob:=(52,some (bU 4 1 aj u2))
abbrev Yd:Nat × Option Ob:=(53,some (.cells 226 [(.own 54 false q0.length)]))
abbrev XT:Nat × Option Ob:=(54,some (bU 164 2 af.cell q0))
abbrev Rv:Nat × Option Ob:=(55,some (.cells 164 [(cI u4),(cI u5)]))
abbrev QI:List (Nat × Option Ob):=[wG,(ru u0),(yJ u1),(wY u1),(QA u2),(Yd q0),(XT q0),(Rv u4 u5)]
abbrev acJ:St:=⟨(abY x1 u3 u2),(QI u2 q0 u4 u5 u0 u1)⟩
end
def jM (x1:(List bJ)) (u3:(List (List Int))) (u0:ah):((List Bool) × (List Bool) × (List af) × Int × Int)→St:=
  fun zz=>match zz with|(u1,u2,q0,u4,u5)=>(acJ x1 u3 u2 q0 u4 u5 u0 u1)
def jH  :Unit→St:=
  fun _=> ⟨[],[]⟩
def fK (x1:(List bJ)) (u1:(List (List Int))) (u0:ah):(aJ ((List Bool) × (List Bool) × (List af) × Int × Int) (Ex Unit (List Bool)))→Exit→St→Prop:=
  LQ 0 [] (jM x1 u1 u0) jH (gF u0)
section
variable (u1:(List (List Int))) (u2:Int)
abbrev KH:Nat × TV:=(34,(vD (aU none 1 (au .i64) (at' u1 u2.toNat))))
abbrev JF:Nat × TV:=(35,(vI ((at' u1 u2.toNat).length:Int)))
end
def jB (x1:(List bJ)) (u1:(List (List Int))) (u0:ah) (u2:Int) (u5:Int) (r_:(List Bool)):((List Bool) × (List af) × Int)→St:=
  fun zz=>match zz with|(u3,u4,u6)=> ⟨[dR,(yO x1 u1),(F5 u3),(4,(vP 53 0)),(5,(vP 55 0)),(KH u1 u2),(JF u1 u2),(36,(vI u6))],(QI u3 u4 u2 u5 u0 r_)⟩
def jT (x1:(List bJ)) (u3:(List (List Int))) (u0:ah) (u4:Int) (u5:Int) (r_:(List Bool)):((List Bool) × (List af))→St:=
  fun zz=>match zz with|(u1,u2)=>(acJ x1 u3 u1 u2 u4 u5 u0 r_)
def qP (x1:(List bJ)) (u0:(List (List Int))) (u1:ah) (u2:Int) (u3:Int) (r_:(List Bool)):(aJ ((List Bool) × (List af) × Int) (Ex ((List Bool) × (List af)) (aJ ((List Bool) × (List Bool) × (List af) × Int × Int) (Ex Unit (List Bool)))))→Exit→St→Prop:=
  LQ 2 [1] (jB x1 u0 u1 u2 u3 r_) (jT x1 u0 u1 u2 u3 r_) (fK x1 u0 u1)
section
variable (u1:(List (List Int))) (x1:(List bJ)) (u2:Int) (u3:Int) (u0:ah) (r_:(List Bool)) (u4:(List Bool)) (u7:(List af)) (u6:Int) (u9:aS) (u5:(af × Bool × aS)) (u8:(List Bool))
abbrev Pf:=(List.replicate ((u1.length:Int).toNat) (false:Bool))
abbrev afG:List (Nat × TV):=[dR,(yO x1 u1),(3,(vO 52 true ((Pf u1).length)))]
abbrev abV:=(aC aj (Pf u1))
abbrev acU:=((Pf u1).set 0 true)
abbrev ac4:=(aC aj (acU u1))
abbrev abh:Nat × TV:=(3,(vO 52 true ((acU u1).length)))
abbrev XA:Nat × Option Ob:=(52,some (bU 4 1 aj (acU u1)))
abbrev aaG:List (Nat × TV):=[dR,(yO x1 u1),(abh u1),(4,(vP 53 0))]
abbrev Xa:Nat × TV:=(7,(vI (at' (at' u1 u2.toNat) u3.toNat)))
abbrev QT:=(at' x1 ((at' (at' u1 u2.toNat) u3.toNat).toNat))
abbrev TR:=((QT u1 x1 u2 u3).to_)
abbrev ag1:List (Nat × Option Ob):=[wG,(ru u0),(yJ r_),(wY r_),(QA u4),(Yd u7),(XT u7),(Rv u2 u6),(95,some (.cells 170 [(cI (TR u1 x1 u2 u3)),(cI ((QT u1 x1 u2 u3).left))]))]
abbrev PX:=(decide (0<((QT u1 x1 u2 u3).left)))
abbrev aiC:Nat × TV:=(8,(vD (l8 [(.int .i64 (TR u1 x1 u2 u3)),(.int .i64 ((QT u1 x1 u2 u3).left))] 0)))
abbrev abX:=(u4.set ((TR u1 x1 u2 u3).toNat) true)
abbrev aci:=(aC aj (abX u1 x1 u2 u3 u4))
abbrev aaV:Nat × TV:=(3,(vO 52 true ((abX u1 x1 u2 u3 u4).length)))
abbrev aaB:Nat × Option Ob:=(52,some (bU 4 1 aj (abX u1 x1 u2 u3 u4)))
abbrev afe:List (Nat × Option Ob):=[wG,(ru u0),(yJ r_),(wY r_),(aaB u1 x1 u2 u3 u4),(53,some (.cells 226 [(.own 96 false u9.l.length)])),(Rv u2 u6),(96,some (Ns u9))]
abbrev ae0:List (Nat × TV):=[dR,(yO x1 u1),(aaV u1 x1 u2 u3 u4),(4,(vP 53 0)),(5,(vP 55 0)),(KH u1 u2),(JF u1 u2),(Zc u3)]
abbrev YE:Nat × Option Ob:=(53,some (.cells 226 [(.own 97 false u5.2.2.l.length)]))
abbrev Yj:Nat × Option Ob:=(97,some (bU 164 2 af.cell u5.2.2.l))
abbrev ah6:List (Nat × Option Ob):=[wG,(ru u0),(yJ r_),(wY r_),(QA u8),(YE u5),(Rv u2 u6),(Yj u5),(98,some (Pn u5))]
end
theorem jF (x1:(List bJ)) (u1:(List (List Int))) (u0:ah) (o_:(List Bool)) {r:(List Bool)} (h:gV x1 u1 u0 o_=some r):Fn Try.prog 121 [(.one (.yl 0)),(sD (l8 [(l8 [(aU none 2 bJ.cell x1),(RL u1)] 0)] 0))] (MX o_ u0) (.iq []) [wG,(ru u0),(2,some (.cells 27 [(.own 3 true r.length)])),(3,some (bU 4 1 aj r))]:=by
 refine fN tT Try.func121 rfl rfl fun B=> ?_
 show bn _ _ _ _ _ _ ((gF u0) r) _
 unfold gV at h
 refine aQ (aO h fun⟨a1,a2,a3⟩ h=> ?_)
 refine rg tT ⟨(afG u1 x1),[wG,(ru u0),(yJ o_),(wY o_),(52,some (bU 4 1 aj (Pf u1)))]⟩ [_,((u1.length:Int):Int)=(u1.length:Int),_,_,(Pf u1).length=((u1.length:Int).toNat),aH ((u1.length:Int).toNat) 1 (fun _ j=>[(.bool false)].getD j .nilp) (abV u1)] {an:=[(5, .arr (Pf u1).length (abV u1))],fr:=[(5,52)] } [] ⟨a1,rfl,a2,a3,(List.length_replicate),(dZ _ _ _ _ _ (fun j hj=>(match j,hj with|0,_=>rfl))),trivial⟩ ?_
 refine aQ (aO h fun a1 h=> ?_)
 refine ri tT ⟨(afG u1 x1),[wG,(ru u0),(yJ o_),(wY o_),(52,some (.arr 4 1 (Pf u1).length (ac4 u1)))]⟩ [_,_,aH (Pf u1).length 1 (kK (abV u1) 0 0 [(.bool true)]) (ac4 u1)] {an:=[(2, .arr 0 (ac4 u1))] } [] ⟨a1,(tL a1),(bL _ _ _ _ _ _ _ _ rfl (fun j hj=>(match j,hj with|0,_=>rfl))),trivial⟩ (bH.le (st':=⟨[dR,(yO x1 u1),(abh u1)],[wG,(ru u0),(yJ o_),(wY o_),(XA u1)]⟩) ⟨⟨tR,tR,⟨_,rfl,dh.v (dX.one cW)⟩,trivial⟩,(hN 4 ⟨rfl,oW,trivial⟩)⟩) ?_
 refine si tT ⟨(aaG u1 x1),[wG,(ru u0),(yJ o_),(wY o_),(XA u1),(53,some (.cells 226 [(.d nS)]))]⟩ [] {fr:=[(0,53)] } [] trivial (.trans (bH.Ac (E:=0) (esz:=0) (E0:=226) (cs:=[(.d nS)]) (p:=53) (q:=0) (b:=54) (esz0:=0) (el0:=fun _ _=> .nilp) (ob:= .arr 164 2 0 (aC af.cell ([]:List af))) (fun _ _ _ _ h=> .inl ⟨h,rfl⟩) (by kernel_rfl) (by kernel_rfl) (by kernel_rfl)) (.trans (fz ⟨(aaG u1 x1),[wG,(ru u0),(yJ o_),(wY o_),(XA u1),(53,some (.cells 226 [(.own 54 false 0)])),(54,some (.arr 164 2 0 (aC af.cell ([]:List af))))]⟩ []) (bH.le (st':=⟨(aaG u1 x1),[wG,(ru u0),(yJ o_),(wY o_),(XA u1),(53,some (.cells 226 [(.own 54 false (([]:List af).length))])),(54,some (bU 164 2 af.cell ([]:List af)))]⟩) ⟨⟨tR,tR,tR,tR,trivial⟩,(hN 5 ⟨rfl,bA ⟨cW,trivial⟩,⟨rfl,oW,trivial⟩⟩)⟩))) ?_
 refine sz tT ⟨[dR,(yO x1 u1),(abh u1),(4,(vP 53 0)),(5,(vP 55 0))],[wG,(ru u0),(yJ o_),(wY o_),(XA u1),(53,some (.cells 226 [(.own 54 false (([]:List af).length))])),(54,some (bU 164 2 af.cell ([]:List af))),(55,some (.cells 164 [(cI 0),(cI (-1))]))]⟩ {fr:=[(1,55)] } [] ?_
 refine bE h fun y1 hy h=> ?_
 refine aL [] (jM x1 u1 u0) jH (gF u0) hy (fun s f h=> ?_) ?_
 ·clear hy
  show bn _ _ _ _ _ _ ((fK x1 u1 u0) f) _
  unfold jQ at h
  obtain⟨v1,v0,q0,u2,u6⟩:=s
  refine aQ (aB (aQ (aQ (bE h fun r_ hr_ h=> ?_))))
  refine rg tT ⟨[dR,(yO x1 u1),(F5 v0),(4,(vP 53 0)),(5,(vP 55 0)),(26,(vB false))],(QI v0 q0 u2 u6 u0 r_)⟩ [(0:Int)≤0∧(0:Int)<(2:Nat),(0:Int)≤1∧(1:Int)<(2:Nat),Yl Try.prog 0 [(sI u2),(sI u6)] (MX v1 u0) (vB true) (MX r_ u0)] {an:=[(5, .call [0,1,2,3] (vB true) (MX r_ u0))] } [] ⟨((by decide)),((by decide)),(Cc u2 u6 u0 v1 hr_),trivial⟩ ?_
  refine cn (aP (aQ (aQ (aO h fun a1 h=> ?_))))
  refine dg tT mX ⟨[dR,(yO x1 u1),(F5 v0),(4,(vP 53 0)),(5,(vP 55 0)),(KH u1 u2),(JF u1 u2),(36,(vI 0))],(QI v0 q0 u2 u6 u0 r_)⟩ [(0:Int)≤0∧(0:Int)<(2:Nat),_] {} [] ⟨((by decide)),a1,trivial⟩ ?_
  refine bE h fun y hy h=> ?_
  refine aL [1] (jB x1 u1 u0 u2 u6 r_) (jT x1 u1 u0 u2 u6 r_) (fK x1 u1 u0) hy (fun s f h=> ?_) ?_
  ·clear hy
   show bn _ _ _ _ _ _ ((qP x1 u1 u0 u2 u6 r_) f) _
   unfold jI at h
   obtain⟨u4,u7,u3⟩:=s
   refine sz tT ⟨[dR,(yO x1 u1),(F5 u4),(4,(vP 53 0)),(5,(vP 55 0)),(KH u1 u2),(JF u1 u2),(36,(vI u3)),(37,(vB (decide (u3<((at' u1 u2.toNat).length:Int)))))],(QI u4 u7 u2 u6 u0 r_)⟩ {} [] ?_
   refine aQ ?_
   refine bI h (fun hb1 h=> ?_) (fun hb1 h=> ?_)
   ·refine ct hb1 ?_
    refine aP (aQ (aB (aQ (aO h fun a1 h=> ?_))))
    refine rg tT ⟨[dR,(yO x1 u1),(F5 u4),(4,(vP 53 0)),(5,(vP 55 0)),(Xa u1 u2 u3),(KH u1 u2),(JF u1 u2),(36,(vI u3))],(QI u4 u7 u2 u6 u0 r_)⟩ [_] {} [] ⟨a1,trivial⟩ ?_
    refine aQ (aO h fun a1 h=> ?_)
    refine rg tT ⟨[dR,(yO x1 u1),(F5 u4),(4,(vP 53 0)),(5,(vP 55 0)),(Xa u1 u2 u3),(8,(vP 95 0)),(KH u1 u2),(JF u1 u2),(36,(vI u3))],(ag1 u1 x1 u2 u3 u0 r_ u4 u7 u6)⟩ [_] {fr:=[(7,95)] } [] ⟨a1,trivial⟩ ?_
    refine aQ (aO h fun a1 h=> ?_)
    refine rg tT ⟨[dR,(yO x1 u1),(F5 u4),(4,(vP 53 0)),(5,(vP 55 0)),(Xa u1 u2 u3),(8,(vP 95 0)),(KH u1 u2),(JF u1 u2),(36,(vI u3)),(57,(vB (bif (PX u1 x1 u2 u3)then(!(at' u4 ((TR u1 x1 u2 u3).toNat)))else false)))],(ag1 u1 x1 u2 u3 u0 r_ u4 u7 u6)⟩ (eqs (PX u1 x1 u2 u3) 4 ((gP (fQ [(3,(PX u1 x1 u2 u3))]) [(3,true)]→All [(0:Int)≤(QT u1 x1 u2 u3).to_∧(QT u1 x1 u2 u3).to_<(u4.length:Int)])::((PX u1 x1 u2 u3)=(PX u1 x1 u2 u3))::(gP (fQ [(3,(PX u1 x1 u2 u3))]) [(3,true)]→All [(TR u1 x1 u2 u3).toNat<u4.length])::(eqs (PX u1 x1 u2 u3) 2 []))) {yb:=[(3,(PX u1 x1 u2 u3))] } [] (ae ⟨(fun hg=> ⟨(a1 (aM hg)),trivial⟩),rfl,(fun hg=> ⟨((fun hq=>tL (a1 hq)) (aM hg)),trivial⟩),(ae trivial)⟩) ?_
    refine bI h (fun hb h=> ?_) (fun hb h=> ?_)
    ·refine ct hb ?_
     refine aQ (aO h fun a1 h=> ?_)
     refine ri tT ⟨[dR,(yO x1 u1),(F5 u4),(4,(vP 53 0)),(5,(vP 55 0)),(Xa u1 u2 u3),(aiC u1 x1 u2 u3),(KH u1 u2),(JF u1 u2),(36,(vI u3))],[wG,(ru u0),(yJ r_),(wY r_),(52,some (.arr 4 1 u4.length (aci u1 x1 u2 u3 u4))),(Yd u7),(XT u7),(Rv u2 u6)]⟩ [_,_,aH u4.length 1 (kK (aC aj u4) ((TR u1 x1 u2 u3).toNat) 0 [(.bool true)]) (aci u1 x1 u2 u3 u4)] {an:=[(4, .arr 0 (aci u1 x1 u2 u3 u4))] } [95] ⟨a1,(tL a1),(bL _ _ _ _ _ _ _ _ rfl (fun j hj=>(match j,hj with|0,_=>rfl))),trivial⟩ (bH.le (st':=⟨[dR,(yO x1 u1),(aaV u1 x1 u2 u3 u4),(4,(vP 53 0)),(5,(vP 55 0)),(Xa u1 u2 u3),(aiC u1 x1 u2 u3),(KH u1 u2),(JF u1 u2),(36,(vI u3))],[wG,(ru u0),(yJ r_),(wY r_),(aaB u1 x1 u2 u3 u4),(Yd u7),(XT u7),(Rv u2 u6)]⟩) ⟨⟨tR,tR,⟨_,rfl,dh.v (dX.one cW)⟩,tR,tR,tR,tR,tR,tR,tR,trivial⟩,(hN 4 ⟨rfl,oW,(.refl _)⟩)⟩) ?_
     refine bE h fun u9 hr_1 h=> ?_
     have q0:=rk [(0,53),(1,54),(2,96)] (uo (⟨(QT u1 x1 u2 u3).to_,(at' (at' u1 u2.toNat) u3.toNat)⟩:af) (⟨u7⟩:aS) hr_1)
     refine rg tT ⟨[dR,(yO x1 u1),(aaV u1 x1 u2 u3 u4),(4,(vP 53 0)),(5,(vP 55 0)),(KH u1 u2),(JF u1 u2),(36,(vI u3))],(afe u1 x1 u2 u3 u0 r_ u4 u6 u9)⟩ [_] {an:=[(4,cA q0 [53,54])] } [] ⟨q0,trivial⟩ ?_
     refine ri tT ⟨(ae0 u1 x1 u2 u3 u4),(afe u1 x1 u2 u3 u0 r_ u4 u6 u9)⟩ [] {} [] trivial (bH.fin (st':=⟨(ae0 u1 x1 u2 u3 u4),[wG,(ru u0),(yJ r_),(wY r_),(aaB u1 x1 u2 u3 u4),(53,some (.cells 226 [(.own 54 false u9.l.length)])),(54,some (Ns u9)),(Rv u2 u6)]⟩) (cs:=[]) ⟨[],[(0,0),(1,1),(2,2),(3,3),(52,52),(53,53),(96,54),(55,55)]⟩ [0,1,3,4,5,34,35,36] (by kernel_rfl) trivial) ?_
     obtain rfl:=oi h
     exact lN
    ·refine cf hb ?_
     refine aP (rz tT ⟨[dR,(yO x1 u1),(F5 u4),(4,(vP 53 0)),(5,(vP 55 0)),(KH u1 u2),(JF u1 u2),(Zc u3)],(QI u4 u7 u2 u6 u0 r_)⟩ {} [] ?_)
     obtain rfl:=oi h
     exact lN
   ·refine cf hb1 ?_
    refine aI (fz (acJ x1 u1 u4 u7 u2 u6 u0 r_) []) ?_
    refine aX ?_
    obtain rfl:=oi h
    exact lB
  ·clear hy
   cases y with
   |brk z=>
    obtain⟨u8,v2⟩:=z
    unfold dA
    refine⟨_, .refl, ?_⟩
    refine aQ (bE h fun u5 hr_2 h=> ?_)
    have q0:=rk [(0,53),(1,54),(2,97)] (q9 (⟨v2⟩:aS) hr_2)
    refine rg tT ⟨[dR,(yO x1 u1),(F5 u8),(4,(vP 53 0)),(5,(vP 55 0)),(9,(vP 98 0)),(10,(vB u5.2.1))],(ah6 u2 u0 r_ u6 u5 u8)⟩ [_] {an:=[(0,cA q0 [53,54])],fr:=[(4,98)] } [] ⟨q0,trivial⟩ ?_
    refine aQ (sz tT ⟨[dR,(yO x1 u1),(F5 u8),(4,(vP 53 0)),(5,(vP 55 0)),(9,(vP 98 0)),(73,(vB (!u5.2.1)))],(ah6 u2 u0 r_ u6 u5 u8)⟩ {} [] ?_)
    refine bI h (fun hb2 h=> ?_) (fun hb2 h=> ?_)
    ·refine ct hb2 ?_
     refine aI (fz ⟨[],(MX r_ u0)⟩ []) ?_
     refine aR ?_
     obtain rfl:=oi h
     exact lR bD (bC 0) bG (aW.mk (.inr rfl) (p:=[]) (l:=[]) (by kernel_rfl) trivial (dh.refl _) (.refl _))
    ·refine cf hb2 ?_
     refine aP (rz tT ⟨(abY x1 u1 u8),[wG,(ru u0),(yJ r_),(wY r_),(QA u8),(YE u5),(55,some (Pn u5)),(Yj u5)]⟩ {} [] ?_)
     refine sz tT ⟨[dR,(yO x1 u1),(F5 u8),(4,(vP 53 0)),(75,(.v (.agg [(cI u5.1.e0),(cI u5.1.e1)])))],[wG,(ru u0),(yJ r_),(wY r_),(QA u8),(YE u5),(Yj u5)]⟩ {} [] ?_
     refine ri tT ⟨[dR,(yO x1 u1),(F5 u8),(4,(vP 53 0)),(5,(vP 99 0))],[wG,(ru u0),(yJ r_),(wY r_),(QA u8),(YE u5),(Yj u5),(99,some (Pn u5))]⟩ [] {fr:=[(0,99)] } [] trivial (bH.fin (st':=⟨(abY x1 u1 u8),[wG,(ru u0),(yJ r_),(wY r_),(QA u8),(53,some (.cells 226 [(.own 54 false u5.2.2.l.length)])),(54,some (bU 164 2 af.cell u5.2.2.l)),(55,some (Pn u5))]⟩) (cs:=[]) ⟨[],[(0,0),(1,1),(2,2),(3,3),(52,52),(53,53),(97,54),(99,55)]⟩ [0,1,3,4,5] (by kernel_rfl) trivial) ?_
     obtain rfl:=oi h
     exact lN
   |ret v=>
    obtain rfl:=oi h
    unfold dA
    intro e st hn ha hR
    cases e with
    |normal=>exact absurd rfl hn
    |exit id=>simp only [qX (b:=1) ha rfl,cond_false];exact hR
    |goto l=>exact hR
    |ret=>exact hR
    |panic c=>exact hR
    |outgrown=>exact hR
 ·clear hy
  cases y1 with
  |brk z=>exact absurd h (by simp)
  |ret v=>
   obtain rfl:=oi h
   unfold dA
   intro e st hn ha hR
   cases e with
   |normal=>exact absurd rfl hn
   |exit id=>exact hR
   |goto l=>exact hR
   |ret=>exact hR
   |panic c=>exact hR
   |outgrown=>exact hR
def iF  :(ai × (List Bool) × Int)→Exit→St→Prop:=
  fun r=>aW TT [.cell 4 77, .tmp 5, .tmp 6] (.iq [(.agg [(.d (aU none 1 (au .i64) r.1.sources)),(.d (aU none 1 (au .i64) r.1.links)),(.d (aU none 2 af.cell r.1.racks))]),(sD (aU none 1 aj r.2.1)),(sI r.2.2)]) []
section
variable (p:ah) (s_:State) (u1:Int) (n1:(List (List Int))) (n0:(List bJ)) (u0:(List (Int × Int)))
abbrev nJ:Nat × TV:=(8,(vI (IntKind.wrap .i64 ((IntKind.wrap .i64 ((1:Int)+p.buses))+(p.racks.length:Int)))))
abbrev q8:Nat × TV:=(11,(.v (.one (.mp 73))))
abbrev pQ:Nat × TV:=(12,(.v (.one (.mp 74))))
abbrev nQ:Nat × TV:=(13,(.v (.one (.mp 75))))
abbrev Jb:Nat × TV:=(66,(vD (aU none 5 Source.cell p.sources)))
abbrev Jf:Nat × TV:=(67,(vI (p.sources.length:Int)))
abbrev afA:List (Nat × TV):=[(2,(vP 63 0)),(bX s_),(4,(vP 65 0)),(nJ p),(9,(vP 67 0)),(10,(vP 72 0)),q8,pQ,nQ,(Jb p),(Jf p),(68,(vI u1))]
abbrev Ab:Nat × Option Ob:=(63,some (YV p))
abbrev bO:Nat × Option Ob:=(65,some (.cells 77 [(.d nS),(.d nS),(.d nS)]))
abbrev UM:Nat × Option Ob:=(66,some (.rows 40 1 n1.length (Ag sP n1) none))
abbrev VN:Nat × Option Ob:=(67,some (.cells 161 [(.own 68 false n0.length),(.own 66 true n1.length)]))
abbrev MQ:Nat × Option Ob:=(68,some (bU 170 2 bJ.cell n0))
abbrev Xb:=((p.sources.length:Int).toNat)
abbrev M9:=(List.replicate (Xb p) (0:Int))
abbrev VK:Nat × Option Ob:=(69,some (bU 3 1 (au .i64) (M9 p)))
abbrev Nk:Nat × Option Ob:=(70,some (abH p))
abbrev Vk:=((p.racks.length:Int).toNat)
abbrev Rz:=(List.replicate (Vk p) ((⟨0,0⟩:af):af))
abbrev agC:Ob:=(bU 164 2 af.cell (Rz p))
abbrev K7:Nat × Option Ob:=(71,some (agC p))
abbrev Ue:=((Rz p).length)
abbrev VY:Nat × Option Ob:=(72,some (.cells 77 [(.own 69 true ((M9 p).length)),(.own 70 true (Ws p)),(.own 71 true (Ue p))]))
abbrev Zq:Ob:=(Ti 3 3 false false 1 1 (au .i64) (au .i64) u0)
abbrev Eo:Nat × Option Ob:=(73,some (Zq u0))
abbrev Yb:Ob:=(Ti 3 3 false false 1 1 (au .i64) (au .i64) ([]:(List (Int × Int))))
abbrev V6:Nat × Option Ob:=(74,some Yb)
abbrev NE:Nat × Option Ob:=(75,some (Ti 164 3 true false 2 1 af.cell (au .i64) ([]:(List (af × Int)))))
abbrev Uv:List (Nat × Option Ob):=[(Ab p),bO,(UM n1),(VN n1 n0),(MQ n0),(VK p),(Nk p),(K7 p),(VY p),(Eo u0),V6,NE]
end
def AV (p:ah) (s_:State):((List bJ) × (List (List Int)) × (List (Int × Int)) × Int)→St:=
  fun zz=>match zz with|(n0,n1,u0,u1)=> ⟨(afA p s_ u1),(Uv p n1 n0 u0)⟩
section
variable (s_:State) (p:ah) (p1:(List Source)) (x0:(List Int)) (u0:(List (List Int))) (u1:(List bJ)) (u2:(List (Int × Int)))
abbrev Vp:List (Nat × TV):=[(2,(vP 63 0)),(bX s_),(4,(vP 65 0)),(nJ p),(9,(vP 67 0)),(10,(vP 72 0)),q8,pQ,nQ]
abbrev Pg:Nat × Option Ob:=(63,some (.cells 26 [(cI p.buses),(.d (Z4 p1)),(.d (aU none 6 Link.cell p.links)),(.d (k8 p))]))
abbrev nC:Nat × Option Ob:=(69,some (Cz x0))
abbrev Ye:Nat × Option Ob:=(72,some (.cells 77 [(.own 69 true x0.length),(.own 70 true (Ws p)),(.own 71 true (Ue p))]))
abbrev ad1:List (Nat × Option Ob):=[(Pg p p1),bO,(UM u0),(VN u0 u1),(MQ u1),(nC x0),(Nk p),(K7 p),(Ye p x0),(Eo u2),V6,NE]
end
def AX (p:ah) (s_:State):((List Source) × (List bJ) × (List (List Int)) × (List Int) × (List (Int × Int)))→St:=
  fun zz=>match zz with|(p1,u1,u0,x0,u2)=> ⟨(Vp s_ p),(ad1 p p1 x0 u0 u1 u2)⟩
def I5 (p:ah) (s_:State):(aJ ((List bJ) × (List (List Int)) × (List (Int × Int)) × Int) (Ex ((List Source) × (List bJ) × (List (List Int)) × (List Int) × (List (Int × Int))) (ai × (List Bool) × Int)))→Exit→St→Prop:=
  LQ 0 [] (AV p s_) (AX p s_) iF
section
variable (p:ah) (s_:State) (u4:Int) (u3:(List (Int × Int))) (p1:(List Source)) (u0:(List (List Int))) (u1:(List bJ)) (x0:(List Int)) (u2:(List (Int × Int)))
abbrev Jl:Nat × TV:=(88,(vD (aU none 6 Link.cell p.links)))
abbrev IE:Nat × TV:=(89,(vI (p.links.length:Int)))
abbrev adN:List (Nat × TV):=[(2,(vP 63 0)),(bX s_),(4,(vP 65 0)),(nJ p),(9,(vP 67 0)),(10,(vP 72 0)),q8,pQ,nQ,(Jl p),(IE p),(90,(vI u4))]
abbrev EB:Nat × Option Ob:=(74,some (Zq u3))
abbrev Uk:List (Nat × Option Ob):=[(Pg p p1),bO,(UM u0),(VN u0 u1),(MQ u1),(nC x0),(Nk p),(K7 p),(Ye p x0),(Eo u2),(EB u3),NE]
end
def Az (p:ah) (s_:State) (p1:(List Source)) (x0:(List Int)) (u2:(List (Int × Int))):((List bJ) × (List (List Int)) × (List (Int × Int)) × Int)→St:=
  fun zz=>match zz with|(u1,u0,u3,u4)=> ⟨(adN p s_ u4),(Uk p u3 p1 u0 u1 x0 u2)⟩
section
variable (p:ah) (p1:(List Source)) (p2:(List Link)) (x1:(List Int)) (u0:(List (List Int))) (u1:(List bJ)) (x0:(List Int)) (u2:(List (Int × Int))) (u3:(List (Int × Int)))
abbrev agd:Nat × Option Ob:=(63,some (.cells 26 [(cI p.buses),(.d (Z4 p1)),(.d (aU none 6 Link.cell p2)),(.d (k8 p))]))
abbrev oQ:Nat × Option Ob:=(70,some (Cz x1))
abbrev aiz:List (Nat × Option Ob):=[(agd p p1 p2),bO,(UM u0),(VN u0 u1),(MQ u1),(nC x0),(oQ x1),(K7 p),(72,some (.cells 77 [(.own 69 true x0.length),(.own 70 true x1.length),(.own 71 true (Ue p))])),(Eo u2),(EB u3),NE]
end
def AY (p:ah) (s_:State) (p1:(List Source)) (x0:(List Int)) (u2:(List (Int × Int))):((List Link) × (List bJ) × (List (List Int)) × (List Int) × (List (Int × Int)))→St:=
  fun zz=>match zz with|(p2,u1,u0,x1,u3)=> ⟨(Vp s_ p),(aiz p p1 p2 x1 u0 u1 x0 u2 u3)⟩
def IB (p:ah) (s_:State) (p1:(List Source)) (x0:(List Int)) (u0:(List (Int × Int))):(aJ ((List bJ) × (List (List Int)) × (List (Int × Int)) × Int) (Ex ((List Link) × (List bJ) × (List (List Int)) × (List Int) × (List (Int × Int))) (ai × (List Bool) × Int)))→Exit→St→Prop:=
  LQ 2 [] (Az p s_ p1 x0 u0) (AY p s_ p1 x0 u0) iF
section
variable (u6:(List ay)) (s_:State) (u4:Int) (u7:Int) (u8:Int) (p:ah) (p1:(List Source)) (p2:(List Link)) (p3:(List ay)) (x2:(List af)) (x0:(List Int)) (x1:(List Int)) (u5:(List (af × Int))) (u0:(List (List Int))) (u1:(List bJ)) (u2:(List (Int × Int))) (u3:(List (Int × Int)))
abbrev zy:Nat × TV:=(115,(vD (VZ u6)))
abbrev adu:List (Nat × TV):=[(2,(vP 63 0)),(bX s_),(4,(vP 65 0)),(8,(vI u4)),(9,(vP 67 0)),(10,(vP 72 0)),q8,pQ,nQ,(zy u6),(116,(vI u7)),(117,(vI u8))]
abbrev dW:Nat × Option Ob:=(63,some (.cells 26 [(cI p.buses),(.d (Z4 p1)),(.d (aU none 6 Link.cell p2)),(.d (VZ p3))]))
abbrev qU:Nat × Option Ob:=(71,some (bU 164 2 af.cell x2))
abbrev qI:Nat × Option Ob:=(72,some (.cells 77 [(.own 69 true x0.length),(.own 70 true x1.length),(.own 71 true x2.length)]))
abbrev FC:Nat × Option Ob:=(75,some (Ti 164 3 true false 2 1 af.cell (au .i64) u5))
abbrev VJ:List (Nat × Option Ob):=[(dW p p1 p2 p3),bO,(UM u0),(VN u0 u1),(MQ u1),(nC x0),(oQ x1),(qU x2),(qI x2 x0 x1),(Eo u2),(EB u3),(FC u5)]
end
def Av (p:ah) (s_:State) (p1:(List Source)) (x0:(List Int)) (u2:(List (Int × Int))) (p2:(List Link)) (x1:(List Int)) (u3:(List (Int × Int))):((List ay) × Int × (List bJ) × (List (List Int)) × (List af) × (List (af × Int)) × (List ay) × Int × Int)→St:=
  fun zz=>match zz with|(p3,u4,u1,u0,x2,u5,u6,u7,u8)=> ⟨(adu u6 s_ u4 u7 u8),(VJ p p1 p2 p3 x2 x0 x1 u5 u0 u1 u2 u3)⟩
section
variable (u6:Int) (p:ah) (p1:(List Source)) (p2:(List Link)) (u5:(List ay)) (u0:(List (List Int))) (u1:(List bJ)) (x0:(List Int)) (x1:(List Int)) (u2:(List af)) (u3:(List (Int × Int))) (u4:(List (Int × Int))) (u7:(List (af × Int)))
abbrev ab3:List (Nat × TV):=[(2,(vP 63 0)),(4,(vP 65 0)),(8,(vI u6)),(9,(vP 67 0)),(10,(vP 72 0)),q8,pQ,nQ]
abbrev aeT:St:=⟨(ab3 u6),(VJ p p1 p2 u5 u2 x0 x1 u7 u0 u1 u3 u4)⟩
end
def AQ (p:ah) (p1:(List Source)) (x0:(List Int)) (u3:(List (Int × Int))) (p2:(List Link)) (x1:(List Int)) (u4:(List (Int × Int))):((List ay) × Int × (List bJ) × (List (List Int)) × (List af) × (List (af × Int)))→St:=
  fun zz=>match zz with|(u5,u6,u1,u0,u2,u7)=>(aeT u6 p p1 p2 u5 u0 u1 x0 x1 u2 u3 u4 u7)
def rR (p:ah) (s_:State) (p1:(List Source)) (x0:(List Int)) (u0:(List (Int × Int))) (p2:(List Link)) (x1:(List Int)) (u1:(List (Int × Int))):(aJ ((List ay) × Int × (List bJ) × (List (List Int)) × (List af) × (List (af × Int)) × (List ay) × Int × Int) (Ex ((List ay) × Int × (List bJ) × (List (List Int)) × (List af) × (List (af × Int))) (ai × (List Bool) × Int)))→Exit→St→Prop:=
  LQ 4 [] (Av p s_ p1 x0 u0 p2 x1 u1) (AQ p p1 x0 u0 p2 x1 u1) iF
section
variable (u1:(List ay)) (u0:Int) (s_:State) (u6:Int) (u7:Int) (u9:Int) (p:ah) (p1:(List Source)) (p2:(List Link)) (p3:(List ay)) (u2:(List (List Int))) (u3:(List bJ)) (x0:(List Int)) (x1:(List Int)) (x2:(List af)) (u4:(List (Int × Int))) (u5:(List (Int × Int))) (u8:(List (af × Int)))
abbrev aa5:List DV:=[(.int .i64 ((yx u1 u0).e0)),(.int .i64 ((yx u1 u0).e1)),(.int .i64 ((at' u1 u0.toNat).power)),(.int .i64 ((at' u1 u0.toNat).paths))]
abbrev aeW:TV:=(vD (l8 (aa5 u1 u0) 0))
abbrev Gf:Nat × TV:=(19,(aeW u1 u0))
abbrev Vb:List CV:=[(cI ((yx u1 u0).e0)),(cI ((yx u1 u0).e1))]
abbrev I9:Nat × TV:=(133,(.v (.agg (Vb u1 u0))))
abbrev ag9:List (Nat × TV):=[(2,(vP 63 0)),(bX s_),(4,(vP 65 0)),(8,(vI u6)),(9,(vP 67 0)),(10,(vP 72 0)),q8,pQ,nQ,(18,(vI u0)),(Gf u1 u0),(zy u1),(116,(vI u7)),(117,(vI u0)),(I9 u1 u0),(134,(vI u9))]
abbrev Ra:List (Nat × Option Ob):=[(dW p p1 p2 p3),bO,(UM u2),(67,some (.cells 161 [(.own 111 false u3.length),(.own 66 true u2.length)])),(nC x0),(oQ x1),(qU x2),(qI x2 x0 x1),(Eo u4),(EB u5),(FC u8),(111,some (bU 170 2 bJ.cell u3))]
end
def Aw (p:ah) (s_:State) (p1:(List Source)) (x0:(List Int)) (u4:(List (Int × Int))) (p2:(List Link)) (x1:(List Int)) (u5:(List (Int × Int))) (p3:(List ay)) (u6:Int) (x2:(List af)) (u1:(List ay)) (u7:Int) (u0:Int):((List bJ) × (List (List Int)) × (List (af × Int)) × Int)→St:=
  fun zz=>match zz with|(u3,u2,u8,u9)=> ⟨(ag9 u1 u0 s_ u6 u7 u9),(Ra p p1 p2 p3 u2 u3 x0 x1 x2 u4 u5 u8)⟩
section
variable (s_:State) (u4:Int) (u5:(List ay)) (u6:Int) (u7:Int) (p:ah) (p1:(List Source)) (p2:(List Link)) (p3:(List ay)) (u0:(List (List Int))) (u1:(List bJ)) (x0:(List Int)) (x1:(List Int)) (x2:(List af)) (u2:(List (Int × Int))) (u3:(List (Int × Int))) (u8:(List (af × Int)))
abbrev aix:St:=⟨(adu u5 s_ u4 u6 u7),(Ra p p1 p2 p3 u0 u1 x0 x1 x2 u2 u3 u8)⟩
end
def Au (p:ah) (s_:State) (p1:(List Source)) (x0:(List Int)) (u2:(List (Int × Int))) (p2:(List Link)) (x1:(List Int)) (u3:(List (Int × Int))) (p3:(List ay)) (u4:Int) (x2:(List af)) (u5:(List ay)) (u6:Int) (u7:Int):((List bJ) × (List (List Int)) × (List (af × Int)))→St:=
  fun zz=>match zz with|(u1,u0,u8)=>(aix s_ u4 u5 u6 u7 p p1 p2 p3 u0 u1 x0 x1 x2 u2 u3 u8)
def IU (p:ah) (s_:State) (p1:(List Source)) (x0:(List Int)) (u0:(List (Int × Int))) (p2:(List Link)) (x1:(List Int)) (u1:(List (Int × Int))) (p3:(List ay)) (u2:Int) (x2:(List af)) (u3:(List ay)) (u4:Int) (u5:Int):(aJ ((List bJ) × (List (List Int)) × (List (af × Int)) × Int) (Ex ((List bJ) × (List (List Int)) × (List (af × Int))) (aJ ((List ay) × Int × (List bJ) × (List (List Int)) × (List af) × (List (af × Int)) × (List ay) × Int × Int) (Ex ((List ay) × Int × (List bJ) × (List (List Int)) × (List af) × (List (af × Int))) (ai × (List Bool) × Int)))))→Exit→St→Prop:=
  LQ 6 [5] (Aw p s_ p1 x0 u0 p2 x1 u1 p3 u2 x2 u3 u4 u5) (Au p s_ p1 x0 u0 p2 x1 u1 p3 u2 x2 u3 u4 u5) (rR p s_ p1 x0 u0 p2 x1 u1)
section
variable (u0:Network) (p:ah) (p1:(List Source)) (p2:(List Link)) (u4:(List ay)) (u2:(List Int)) (x1:(List Int)) (u1:(List af)) (u3:(List (Int × Int))) (u5:(List (af × Int)))
abbrev abO:List (Nat × TV):=[(2,(vP 63 0)),(4,(vP 65 0)),(9,(vP 67 0)),(10,(vP 72 0)),pQ,nQ,(162,(vP 116 0))]
abbrev yV:Nat × Option Ob:=(67,some (.cells 161 [(.own 68 false u0.arcs.length),(.d (Ki u0))]))
abbrev zw:Nat × Option Ob:=(68,some (bU 170 2 bJ.cell u0.arcs))
abbrev ahs:List (Nat × Option Ob):=[(dW p p1 p2 u4),bO,(yV u0),(zw u0),(nC u2),(oQ x1),(qU u1),(qI u1 u2 x1),(EB u3),(FC u5),(116,none)]
abbrev agh:St:=⟨abO,(ahs u0 p p1 p2 u4 u2 x1 u1 u3 u5)⟩
end
def Jd (p:ah) (p1:(List Source)) (p2:(List Link)) (x1:(List Int)) (u3:(List (Int × Int))) (u4:(List ay)) (u1:(List af)) (u5:(List (af × Int))) (u0:Network):(List Int)→St:=
  fun u2=>(agh u0 p p1 p2 u4 u2 x1 u1 u3 u5)
section
variable (p:ah) (p1:(List Source)) (p2:(List Link)) (u4:(List ay)) (u0:Network) (u2:(List Int)) (u3:(List Int)) (u1:(List af)) (u5:(List (af × Int)))
abbrev aa7:List (Nat × TV):=[(2,(vP 63 0)),(4,(vP 65 0)),(9,(vP 67 0)),(10,(vP 72 0)),nQ,(182,(vP 117 0))]
abbrev ahT:List (Nat × Option Ob):=[(dW p p1 p2 u4),bO,(yV u0),(zw u0),(nC u2),(oQ u3),(qU u1),(qI u1 u2 u3),(FC u5),(117,none)]
abbrev ain:St:=⟨aa7,(ahT p p1 p2 u4 u0 u2 u3 u1 u5)⟩
end
def IZ (p:ah) (p1:(List Source)) (p2:(List Link)) (u4:(List ay)) (u1:(List af)) (u5:(List (af × Int))) (u0:Network) (u2:(List Int)):(List Int)→St:=
  fun u3=>(ain p p1 p2 u4 u0 u2 u3 u1 u5)
section
variable (p:ah) (p1:(List Source)) (p2:(List Link)) (u4:(List ay)) (u0:Network) (u1:(List Int)) (u2:(List Int)) (u3:(List af))
abbrev WM:List (Nat × TV):=[(2,(vP 63 0)),(4,(vP 65 0)),(9,(vP 67 0)),(10,(vP 72 0)),(208,(vP 118 0))]
abbrev ahz:St:=⟨WM,[(dW p p1 p2 u4),bO,(yV u0),(zw u0),(nC u1),(oQ u2),(qU u3),(qI u3 u1 u2),(118,none)]⟩
end
def IG (p:ah) (p1:(List Source)) (p2:(List Link)) (u4:(List ay)) (u0:Network) (u1:(List Int)) (u2:(List Int)):(List af)→St:=
  fun u3=>(ahz p p1 p2 u4 u0 u1 u2 u3)
end
end Sg
