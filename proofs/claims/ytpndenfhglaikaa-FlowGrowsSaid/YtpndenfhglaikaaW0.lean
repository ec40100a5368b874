import Derived.Test.YtpndenfhglaikaaGm
import Derived.Test.YtpndenfhglaikaaProg
set_option linter.all false
namespace Sg
open Go Go.Proofs
set_option maxRecDepth 20000
noncomputable section
noncomputable def TT:List (Nat × TI):=[(3,⟨Try.t3.desc,Try.t3.size,Try.t3.bytes,zl Try.t3,false⟩),
  (4,⟨Try.t4.desc,Try.t4.size,Try.t4.bytes,zl Try.t4,false⟩),
  (22,⟨Try.t22.desc,Try.t22.size,Try.t22.bytes,zl Try.t22,false⟩),
  (23,⟨Try.t23.desc,Try.t23.size,Try.t23.bytes,zl Try.t23,false⟩),
  (24,⟨Try.t24.desc,Try.t24.size,Try.t24.bytes,zl Try.t24,false⟩),
  (26,⟨Try.t25.desc,Try.t26.size,Try.t26.bytes,zl Try.t26,false⟩),
  (27,⟨Try.t27.desc,Try.t27.size,Try.t27.bytes,zl Try.t27,false⟩),
  (29,⟨Try.t28.desc,Try.t29.size,Try.t29.bytes,zl Try.t29,false⟩),
  (40,⟨Try.t40.desc,Try.t40.size,Try.t40.bytes,zl Try.t40,false⟩),
  (41,⟨Try.t41.desc,Try.t41.size,Try.t41.bytes,zl Try.t41,false⟩),
  (47,⟨Try.t46.desc,Try.t47.size,Try.t47.bytes,zl Try.t47,false⟩),
  (50,⟨Try.t3.desc,Try.t50.size,Try.t50.bytes,zl Try.t50,false⟩),
  (51,⟨Try.t51.desc,Try.t51.size,Try.t51.bytes,zl Try.t51,false⟩),
  (53,⟨Try.t52.desc,Try.t53.size,Try.t53.bytes,zl Try.t53,false⟩),
  (75,⟨Try.t75.desc,Try.t75.size,Try.t75.bytes,zl Try.t75,false⟩),
  (77,⟨Try.t76.desc,Try.t77.size,Try.t77.bytes,zl Try.t77,false⟩),
  (80,⟨Try.t80.desc,Try.t80.size,Try.t80.bytes,zl Try.t80,false⟩),
  (92,⟨Try.t76.desc,Try.t92.size,Try.t92.bytes,zl Try.t92,false⟩),
  (102,⟨Try.t102.desc,Try.t102.size,Try.t102.bytes,zl Try.t102,false⟩),
  (103,⟨Try.t46.desc,Try.t103.size,Try.t103.bytes,zl Try.t103,false⟩),
  (110,⟨Try.t110.desc,Try.t110.size,Try.t110.bytes,zl Try.t110,false⟩),
  (115,⟨Try.t3.desc,Try.t115.size,Try.t115.bytes,zl Try.t115,false⟩),
  (117,⟨Try.t116.desc,Try.t117.size,Try.t117.bytes,zl Try.t117,true⟩),
  (119,⟨Try.t119.desc,Try.t119.size,Try.t119.bytes,zl Try.t119,false⟩),
  (123,⟨Try.t122.desc,Try.t123.size,Try.t123.bytes,zl Try.t123,false⟩),
  (124,⟨Try.t3.desc,Try.t124.size,Try.t124.bytes,zl Try.t124,false⟩),
  (126,⟨Try.t125.desc,Try.t126.size,Try.t126.bytes,zl Try.t126,true⟩),
  (128,⟨Try.t128.desc,Try.t128.size,Try.t128.bytes,zl Try.t128,false⟩),
  (129,⟨Try.t129.desc,Try.t129.size,Try.t129.bytes,zl Try.t129,false⟩),
  (135,⟨Try.t135.desc,Try.t135.size,Try.t135.bytes,zl Try.t135,false⟩),
  (141,⟨Try.t140.desc,Try.t141.size,Try.t141.bytes,zl Try.t141,false⟩),
  (142,⟨Try.t142.desc,Try.t142.size,Try.t142.bytes,zl Try.t142,false⟩),
  (148,⟨Try.t147.desc,Try.t148.size,Try.t148.bytes,zl Try.t148,true⟩),
  (157,⟨Try.t157.desc,Try.t157.size,Try.t157.bytes,zl Try.t157,false⟩),
  (158,⟨Try.t158.desc,Try.t158.size,Try.t158.bytes,zl Try.t158,false⟩),
  (159,⟨Try.t159.desc,Try.t159.size,Try.t159.bytes,zl Try.t159,false⟩),
  (161,⟨Try.t160.desc,Try.t161.size,Try.t161.bytes,zl Try.t161,false⟩),
  (162,⟨Try.t162.desc,Try.t162.size,Try.t162.bytes,zl Try.t162,false⟩),
  (164,⟨Try.t164.desc,Try.t164.size,Try.t164.bytes,zl Try.t164,true⟩),
  (166,⟨Try.t165.desc,Try.t166.size,Try.t166.bytes,zl Try.t166,true⟩),
  (170,⟨Try.t169.desc,Try.t170.size,Try.t170.bytes,zl Try.t170,true⟩),
  (182,⟨Try.t182.desc,Try.t182.size,Try.t182.bytes,zl Try.t182,false⟩),
  (184,⟨Try.t184.desc,Try.t184.size,Try.t184.bytes,zl Try.t184,false⟩),
  (186,⟨Try.t185.desc,Try.t186.size,Try.t186.bytes,zl Try.t186,false⟩),
  (192,⟨Try.t192.desc,Try.t192.size,Try.t192.bytes,zl Try.t192,false⟩),
  (195,⟨Try.t195.desc,Try.t195.size,Try.t195.bytes,zl Try.t195,false⟩),
  (198,⟨Try.t198.desc,Try.t198.size,Try.t198.bytes,zl Try.t198,false⟩),
  (211,⟨Try.t211.desc,Try.t211.size,Try.t211.bytes,zl Try.t211,true⟩),
  (215,⟨Try.t214.desc,Try.t215.size,Try.t215.bytes,zl Try.t215,false⟩),
  (226,⟨Try.t225.desc,Try.t226.size,Try.t226.bytes,zl Try.t226,false⟩),
  (234,⟨Try.t234.desc,Try.t234.size,Try.t234.bytes,zl Try.t234,false⟩),
  (243,⟨Try.t243.desc,Try.t243.size,Try.t243.bytes,zl Try.t243,false⟩),
  (244,⟨Try.t244.desc,Try.t244.size,Try.t244.bytes,zl Try.t244,false⟩)]
theorem tT:rR Try.prog TT:=⟨iy (by kernel_rfl) (by kernel_rfl) (by kernel_rfl),⟨jC,dN (by kernel_rfl)⟩,iy (by kernel_rfl) (by kernel_rfl) (by kernel_rfl),⟨jC,dN (by kernel_rfl)⟩,iy (by kernel_rfl) (by kernel_rfl) (by kernel_rfl),⟨jC,dN (by kernel_rfl)⟩,iy (by kernel_rfl) (by kernel_rfl) (by kernel_rfl),⟨jC,dN (by kernel_rfl)⟩,iy (by kernel_rfl) (by kernel_rfl) (by kernel_rfl),⟨jC,dN (by kernel_rfl)⟩,iy (by kernel_rfl) (by kernel_rfl) (by kernel_rfl),⟨jC,dN (by kernel_rfl)⟩,iy (by kernel_rfl) (by kernel_rfl) (by kernel_rfl),⟨jC,dN (by kernel_rfl)⟩,iy (by kernel_rfl) (by kernel_rfl) (by kernel_rfl),⟨jC,dN (by kernel_rfl)⟩,iy (by kernel_rfl) (by kernel_rfl) (by kernel_rfl),⟨jC,dN (by kernel_rfl)⟩,iy (by kernel_rfl) (by kernel_rfl) (by kernel_rfl),⟨jC,dN (by kernel_rfl)⟩,iy (by kernel_rfl) (by kernel_rfl) (by kernel_rfl),⟨jC,dN (by kernel_rfl)⟩,iy (by kernel_rfl) (by kernel_rfl) (by kernel_rfl),⟨jC,dN (by kernel_rfl)⟩,iy (by kernel_rfl) (by kernel_rfl) (by kernel_rfl),⟨jC,dN (by kernel_rfl)⟩,iy (by kernel_rfl) (by kernel_rfl) (by kernel_rfl),⟨jC,dN (by kernel_rfl)⟩,iy (by kernel_rfl) (by kernel_rfl) (by kernel_rfl),⟨jC,dN (by kernel_rfl)⟩,iy (by kernel_rfl) (by kernel_rfl) (by kernel_rfl),⟨jC,dN (by kernel_rfl)⟩,iy (by kernel_rfl) (by kernel_rfl) (by kernel_rfl),⟨jC,dN (by kernel_rfl)⟩,iy (by kernel_rfl) (by kernel_rfl) (by kernel_rfl),⟨jC,dN (by kernel_rfl)⟩,iy (by kernel_rfl) (by kernel_rfl) (by kernel_rfl),⟨jC,dN (by kernel_rfl)⟩,iy (by kernel_rfl) (by kernel_rfl) (by kernel_rfl),⟨jC,dN (by kernel_rfl)⟩,iy (by kernel_rfl) (by kernel_rfl) (by kernel_rfl),⟨jC,dN (by kernel_rfl)⟩,iy (by kernel_rfl) (by kernel_rfl) (by kernel_rfl),⟨jC,dN (by kernel_rfl)⟩,iy (by kernel_rfl) (by kernel_rfl) (by kernel_rfl),⟨fun _=> ⟨by kernel_rfl,by kernel_rfl⟩,dN (by kernel_rfl)⟩,iy (by kernel_rfl) (by kernel_rfl) (by kernel_rfl),⟨jC,dN (by kernel_rfl)⟩,iy (by kernel_rfl) (by kernel_rfl) (by kernel_rfl),⟨jC,dN (by kernel_rfl)⟩,iy (by kernel_rfl) (by kernel_rfl) (by kernel_rfl),⟨jC,dN (by kernel_rfl)⟩,iy (by kernel_rfl) (by kernel_rfl) (by kernel_rfl),⟨fun _=> ⟨by kernel_rfl,by kernel_rfl⟩,dN (by kernel_rfl)⟩,iy (by kernel_rfl) (by kernel_rfl) (by kernel_rfl),⟨jC,dN (by kernel_rfl)⟩,iy (by kernel_rfl) (by kernel_rfl) (by kernel_rfl),⟨jC,dN (by kernel_rfl)⟩,iy (by kernel_rfl) (by kernel_rfl) (by kernel_rfl),⟨jC,dN (by kernel_rfl)⟩,iy (by kernel_rfl) (by kernel_rfl) (by kernel_rfl),⟨jC,dN (by kernel_rfl)⟩,iy (by kernel_rfl) (by kernel_rfl) (by kernel_rfl),⟨jC,dN (by kernel_rfl)⟩,iy (by kernel_rfl) (by kernel_rfl) (by kernel_rfl),⟨fun _=> ⟨by kernel_rfl,by kernel_rfl⟩,dN (by kernel_rfl)⟩,iy (by kernel_rfl) (by kernel_rfl) (by kernel_rfl),⟨jC,dN (by kernel_rfl)⟩,iy (by kernel_rfl) (by kernel_rfl) (by kernel_rfl),⟨jC,dN (by kernel_rfl)⟩,iy (by kernel_rfl) (by kernel_rfl) (by kernel_rfl),⟨jC,dN (by kernel_rfl)⟩,iy (by kernel_rfl) (by kernel_rfl) (by kernel_rfl),⟨jC,dN (by kernel_rfl)⟩,iy (by kernel_rfl) (by kernel_rfl) (by kernel_rfl),⟨jC,dN (by kernel_rfl)⟩,iy (by kernel_rfl) (by kernel_rfl) (by kernel_rfl),⟨fun _=> ⟨by kernel_rfl,by kernel_rfl⟩,dN (by kernel_rfl)⟩,iy (by kernel_rfl) (by kernel_rfl) (by kernel_rfl),⟨fun _=> ⟨by kernel_rfl,by kernel_rfl⟩,dN (by kernel_rfl)⟩,iy (by kernel_rfl) (by kernel_rfl) (by kernel_rfl),⟨fun _=> ⟨by kernel_rfl,by kernel_rfl⟩,dN (by kernel_rfl)⟩,iy (by kernel_rfl) (by kernel_rfl) (by kernel_rfl),⟨jC,dN (by kernel_rfl)⟩,iy (by kernel_rfl) (by kernel_rfl) (by kernel_rfl),⟨jC,dN (by kernel_rfl)⟩,iy (by kernel_rfl) (by kernel_rfl) (by kernel_rfl),⟨jC,dN (by kernel_rfl)⟩,iy (by kernel_rfl) (by kernel_rfl) (by kernel_rfl),⟨jC,dN (by kernel_rfl)⟩,iy (by kernel_rfl) (by kernel_rfl) (by kernel_rfl),⟨jC,dN (by kernel_rfl)⟩,iy (by kernel_rfl) (by kernel_rfl) (by kernel_rfl),⟨jC,dN (by kernel_rfl)⟩,iy (by kernel_rfl) (by kernel_rfl) (by kernel_rfl),⟨fun _=> ⟨by kernel_rfl,by kernel_rfl⟩,dN (by kernel_rfl)⟩,iy (by kernel_rfl) (by kernel_rfl) (by kernel_rfl),⟨jC,dN (by kernel_rfl)⟩,iy (by kernel_rfl) (by kernel_rfl) (by kernel_rfl),⟨jC,dN (by kernel_rfl)⟩,iy (by kernel_rfl) (by kernel_rfl) (by kernel_rfl),⟨jC,dN (by kernel_rfl)⟩,iy (by kernel_rfl) (by kernel_rfl) (by kernel_rfl),⟨jC,dN (by kernel_rfl)⟩,iy (by kernel_rfl) (by kernel_rfl) (by kernel_rfl),⟨jC,dN (by kernel_rfl)⟩,trivial⟩
theorem mX:Try.prog.follows .mixedOrders=true:=by kernel_rfl
def BA  :(List Bool)→Exit→St→Prop:=
  fun r=>bJ TT [.tmp 2] (vO 0 false r.length) [(0,some (bg 4 1 ah r))]
section
variable (l:(List Bool))
abbrev k0:Nat × TV:=(0,(vD (aG none 1 ah l)))
end
theorem dR (l:(List Bool)) {r:(List Bool)} (h:dM l=some r):Fn Try.prog 64 [(sD (aG none 1 ah l))] [] (vO 0 false r.length) [(0,some (bg 4 1 ah r))]:=by
 refine fN tT Try.func64 rfl rfl fun B=> ?_
 show bL _ _ _ _ _ _ (BA r) _
 unfold dM at h
 refine sz tT ⟨[(k0 l)],[]⟩ {} [] ?_
 refine sz tT ⟨[(k0 l),(3,(vD nS))],[]⟩ {} [] ?_
 refine aQ (aO h fun⟨a1,a2⟩ h=> ?_)
 refine rg tT ⟨[(2,(vO 1 false l.length))],[(1,some (bg 4 1 ah l))]⟩ [_,_,l.length=l.length,aC l.length 1 (ay ah l) (ay ah l)] {an:=[(2, .arr l.length (ay ah l))],fr:=[(2,1)] } [] ⟨a1,a2,rfl,(gy _ _ _),trivial⟩ ?_
 refine aI (bB.fin (st':=⟨[(2,(vO 0 false l.length))],[(0,some (bg 4 1 ah l))]⟩) (cs:=[]) ⟨[],[(1,0)]⟩ [2] (by kernel_rfl) trivial) ?_
 refine aR ?_
 obtain rfl:=oi h
 exact rl [(.one (.own 0 false l.length))]
def oM  :Bool→Exit→St→Prop:=
  fun r=>bJ TT [.tmp 4] (vB r) []
section
variable (b:(List Bool))
abbrev k1:Nat × TV:=(1,(vD (aG none 1 ah b)))
end
def tX (a:(List Bool)) (b:(List Bool)):Int→St:=
  fun i=> ⟨[(k0 a),(k1 b),(5,(vI i))],[]⟩
def sZ  :Unit→St:=
  fun _=> ⟨[],[]⟩
def Dl (a:(List Bool)) (b:(List Bool)):(aU Int (Ex Unit Bool))→Exit→St→Prop:=
  LQ 0 [] (tX a b) sZ oM
section
variable (i:Int)
abbrev k3:TV:=(vI (IntKind.wrap .i64 (i+1)))
abbrev k2:Nat × TV:=(5,(k3 i))
end
theorem nR (a:(List Bool)) (b:(List Bool)) {r:Bool} (h:nC a b=some r):Fn Try.prog 42 [(sD (aG none 1 ah a)),(sD (aG none 1 ah b))] [] (vB r) []:=by
 refine fN tT Try.func42 rfl rfl fun B=> ?_
 show bL _ _ _ _ _ _ (oM r) _
 unfold nC at h
 refine sz tT ⟨[(k0 a),(k1 b)],[]⟩ {} [] ?_
 refine aQ (sz tT ⟨[(k0 a),(k1 b),(10,(vB (!decide ((a.length:Int)=(b.length:Int)))))],[]⟩ {} [] ?_)
 refine bI h (fun hb2 h=> ?_) (fun hb2 h=> ?_)
 ·refine ct hb2 ?_
  refine sz tT ⟨[(4,(vB false))],[]⟩ {} [] ?_
  refine aR ?_
  obtain rfl:=oi h
  exact rl [(sB false)]
 ·refine cf hb2 ?_
  refine aP (aQ (sz tT ⟨[(k0 a),(k1 b),(5,(vI 0))],[]⟩ {} [] ?_))
  refine bE h fun y hy h=> ?_
  refine aL [] (tX a b) sZ oM hy (fun s f h=> ?_) ?_
  ·clear hy
   show bL _ _ _ _ _ _ ((Dl a b) f) _
   unfold tY at h
   obtain⟨i,rfl⟩: ∃q,q=s:=⟨_,rfl⟩
   refine aQ (sz tT ⟨[(k0 a),(k1 b),(5,(vI i)),(14,(vB (decide (i<(a.length:Int)))))],[]⟩ {} [] ?_)
   refine bI h (fun hb1 h=> ?_) (fun hb1 h=> ?_)
   ·refine ct hb1 ?_
    refine aP (aQ (aB (aQ (aO h fun⟨a1,a2⟩ h=> ?_))))
    refine dg tT mX ⟨[(k0 a),(k1 b),(5,(vI i)),(25,(vB (!((at' a i.toNat)==(at' b i.toNat)))))],[]⟩ [_,_] {} [] ⟨a1,a2,trivial⟩ ?_
    refine bI h (fun hb h=> ?_) (fun hb h=> ?_)
    ·refine ct hb ?_
     refine sz tT ⟨[(4,(vB false))],[]⟩ {} [] ?_
     refine aR ?_
     obtain rfl:=oi h
     exact lR fQ (fT 0) fU (bJ.mk (.inr rfl) (p:=[]) (l:=[(sB false)]) (by kernel_rfl) trivial (eX.refl _) trivial)
    ·refine cf hb ?_
     refine aP (rz tT ⟨[(k0 a),(k1 b),(k2 i)],[]⟩ {} [] ?_)
     obtain rfl:=oi h
     exact lN
   ·refine cf hb1 ?_
    refine aI (fz ⟨[],[]⟩ []) ?_
    refine aX ?_
    obtain rfl:=oi h
    exact lB
  ·clear hy
   cases y with
   |brk z=>
    unfold fZ
    refine⟨_, .refl, ?_⟩
    refine sz tT ⟨[(4,(vB true))],[]⟩ {} [] ?_
    refine aR ?_
    obtain rfl:=oi h
    exact rl [(sB true)]
   |ret v=>
    obtain rfl:=oi h
    unfold fZ
    intro e st hn ha hR
    cases e with
    |normal=>exact absurd rfl hn
    |exit id=>exact hR
    |goto l=>exact hR
    |ret=>exact hR
    |panic c=>exact hR
    |outgrown=>exact hR
def Ib  :Bool→Exit→St→Prop:=
  fun r=>bJ TT [.tmp 6] (vB r) []
theorem aK (n:Int) (u0:Int) (u1:Int) {r:Bool} (h:aS n u0 u1=some r):Fn Try.prog 94 [(sI n),(sI u0),(sI u1)] [] (vB r) []:=by
 refine fN tT Try.func94 rfl rfl fun B=> ?_
 show bL _ _ _ _ _ _ (Ib r) _
 unfold aS at h
 refine sz tT ⟨[(0,(vI n)),(1,(vI u0)),(2,(vI u1))],[]⟩ {} [] ?_
 refine sg tT ⟨[(6,(vB (bif (decide (u0≤n))then(decide (n≤u1))else false)))],[]⟩ (eqs (decide (u0≤n)) 4 []) {yb:=[(3,(decide (u0≤n)))] } [] (ae trivial) ?_
 refine aR ?_
 obtain rfl:=oi h
 exact rl [(sB (bif (decide (u0≤n))then(decide (n≤u1))else false))]
def G8  :(Int × (List Source) × (List Link) × (List ax))→Exit→St→Prop:=
  fun r=>bJ TT [.tmp 2] (vD (.fn 135 1 (og [(kH [(.int .i64 r.1),(aG none 5 Source.cell r.2.1),(aG none 6 Link.cell r.2.2.1),(aG none 4 ax.cell r.2.2.2)] 0)]))) []
section
variable (p:ai)
abbrev k6:DV:=(aG none 4 ax.cell p.racks)
abbrev k5:List CV:=[(cI p.buses),(.d (aG none 5 Source.cell p.sources)),(.d (aG none 6 Link.cell p.links)),(.d (k6 p))]
abbrev k4:List SV:=[(.agg (k5 p))]
abbrev k10:DV:=(kH [(.int .i64 p.buses),(aG none 5 Source.cell p.sources),(aG none 6 Link.cell p.links),(k6 p)] 0)
abbrev k9:TV:=(vD (k10 p))
abbrev k8:Nat × TV:=(1,(k9 p))
abbrev k7:St:=⟨[(k8 p)],[]⟩
abbrev k11:=(og [(k10 p)])
end
theorem Fz (p:ai) {r:(Int × (List Source) × (List Link) × (List ax))} (h:pE p=some r):Fn Try.prog 96 (k4 p) [] (vD (.fn 135 1 (og [(kH [(.int .i64 r.1),(aG none 5 Source.cell r.2.1),(aG none 6 Link.cell r.2.2.1),(aG none 4 ax.cell r.2.2.2)] 0)]))) []:=by
 refine fN tT Try.func96 rfl rfl fun B=> ?_
 show bL _ _ _ _ _ _ (G8 r) _
 unfold pE at h
 refine sz tT (k7 p) {fr:=[(0,1)] } [1] ?_
 refine sz tT ⟨[(2,(vD (.fn 135 1 (k11 p))))],[]⟩ {} [] ?_
 refine aR ?_
 obtain rfl:=oi h
 exact rl [(sD (.fn 135 1 (k11 p)))]
def J5  :(Int × (List Source) × (List Link) × (List ax))→Exit→St→Prop:=
  fun r=>bJ TT [.tmp 2] (vD (.fn 138 1 (og [(kH [(.int .i64 r.1),(aG none 5 Source.cell r.2.1),(aG none 6 Link.cell r.2.2.1),(aG none 4 ax.cell r.2.2.2)] 0)]))) []
theorem Jl (p:ai) {r:(Int × (List Source) × (List Link) × (List ax))} (h:uN p=some r):Fn Try.prog 98 (k4 p) [] (vD (.fn 138 1 (og [(kH [(.int .i64 r.1),(aG none 5 Source.cell r.2.1),(aG none 6 Link.cell r.2.2.1),(aG none 4 ax.cell r.2.2.2)] 0)]))) []:=by
 refine fN tT Try.func98 rfl rfl fun B=> ?_
 show bL _ _ _ _ _ _ (J5 r) _
 unfold uN at h
 refine sz tT (k7 p) {fr:=[(0,1)] } [1] ?_
 refine sz tT ⟨[(2,(vD (.fn 138 1 (k11 p))))],[]⟩ {} [] ?_
 refine aR ?_
 obtain rfl:=oi h
 exact rl [(sD (.fn 138 1 (k11 p)))]
def KJ  :(Int × (List Source) × (List Link) × (List ax))→Exit→St→Prop:=
  fun r=>bJ TT [.tmp 2] (vD (.fn 141 1 (og [(kH [(.int .i64 r.1),(aG none 5 Source.cell r.2.1),(aG none 6 Link.cell r.2.2.1),(aG none 4 ax.cell r.2.2.2)] 0)]))) []
theorem Ju (p:ai) {r:(Int × (List Source) × (List Link) × (List ax))} (h:uH p=some r):Fn Try.prog 100 (k4 p) [] (vD (.fn 141 1 (og [(kH [(.int .i64 r.1),(aG none 5 Source.cell r.2.1),(aG none 6 Link.cell r.2.2.1),(aG none 4 ax.cell r.2.2.2)] 0)]))) []:=by
 refine fN tT Try.func100 rfl rfl fun B=> ?_
 show bL _ _ _ _ _ _ (KJ r) _
 unfold uH at h
 refine sz tT (k7 p) {fr:=[(0,1)] } [1] ?_
 refine sz tT ⟨[(2,(vD (.fn 141 1 (k11 p))))],[]⟩ {} [] ?_
 refine aR ?_
 obtain rfl:=oi h
 exact rl [(sD (.fn 141 1 (k11 p)))]
def EU  :Bool→Exit→St→Prop:=
  fun r=>bJ TT [.tmp 3] (vB r) []
section
variable (u4:(List Source)) (u6:(List ax)) (x1:Int) (u5:(List Link)) (x:Source) (r_:Bool) (u0:Bool) (u1:Bool) (u2:Bool)
abbrev k13:DV:=(aG none 5 Source.cell u4)
abbrev k14:DV:=(aG none 4 ax.cell u6)
abbrev k12:DV:=(kH [(.int .i64 x1),(k13 u4),(aG none 6 Link.cell u5),(k14 u6)] 0)
abbrev k15:Nat × TV:=(1,(vD (k12 u4 u6 x1 u5)))
abbrev k16:Nat × TV:=(2,(vD (kH [(.int .i64 x.bus),(.int .i64 x.kind),(.int .i64 x.power),(.int .i64 x.sync),(.int .i64 x.iR)] 0)))
abbrev k17:=(IntKind.wrap .i64 (x1 - 1))
abbrev k20:=(bif r_ then u0 else false)
abbrev k19:=(bif (k20 r_ u0)then u1 else false)
abbrev k18:=(bif (k19 r_ u0 u1)then u2 else false)
abbrev k21:=(jP [(6,r_),(11,(k20 r_ u0)),(16,(k19 r_ u0 u1)),(21,(k18 r_ u0 u1 u2))])
end
theorem Da (x:Source) (x1:Int) (u4:(List Source)) (u5:(List Link)) (u6:(List ax)) {r:Bool} (h:kF x x1 u4 u5 u6=some r):Fn Try.prog 135 [(.agg [(cI x.bus),(cI x.kind),(cI x.power),(cI x.sync),(cI x.iR)]),(sD (k12 u4 u6 x1 u5))] [] (vB r) []:=by
 refine fN tT Try.func135 rfl rfl fun B=> ?_
 show bL _ _ _ _ _ _ (EU r) _
 unfold kF at h
 refine sz tT ⟨[(k15 u4 u6 x1 u5),(k16 x)],[]⟩ {fr:=[(0,1)] } [1] ?_
 refine aQ (bE h fun r_ hr_ h=> ?_)
 refine bE h fun u0 hr_1 h=> ?_
 refine bE h fun u1 hr_2 h=> ?_
 refine bE h fun u2 hr_3 h=> ?_
 refine bE h fun u3 hr_4 h=> ?_
 have q0:=aK x.bus 0 (k17 x1) hr_
 refine rg tT ⟨[(3,(vB (bif (k18 r_ u0 u1 u2)then u3 else false)))],[]⟩ (_::(eqs r_ 3 ((gP (k21 r_ u0 u1 u2) [(6,true)]→All [Fn Try.prog 94 [(sI x.kind),(sI 1),(sI 3)] [] (vB u0) []])::(r_=r_)::(eqs (k20 r_ u0) 3 ((gP (k21 r_ u0 u1 u2) [(11,true)]→All [Fn Try.prog 94 [(sI x.power),(sI 1),(sI 100000)] [] (vB u1) []])::((k20 r_ u0)=(k20 r_ u0))::(eqs (k19 r_ u0 u1) 3 ((gP (k21 r_ u0 u1 u2) [(16,true)]→All [Fn Try.prog 94 [(sI x.sync),(sI 0),(sI 8)] [] (vB u2) []])::((k19 r_ u0 u1)=(k19 r_ u0 u1))::(eqs (k18 r_ u0 u1 u2) 3 [gP (k21 r_ u0 u1 u2) [(21,true)]→All [Fn Try.prog 94 [(sI x.iR),(sI 10),(sI 100000)] [] (vB u3) []],(k18 r_ u0 u1 u2)=(k18 r_ u0 u1 u2)])))))))) {yb:=[(6,r_),(11,(k20 r_ u0)),(16,(k19 r_ u0 u1)),(21,(k18 r_ u0 u1 u2))],an:=[(5,cA q0 []),(9, .call [] (vB u0) []),(14, .call [] (vB u1) []),(19, .call [] (vB u2) []),(24, .call [] (vB u3) [])] } [] ⟨q0,(ae ⟨(fun hg=> ⟨(aK x.kind 1 3 (dZ hr_1 (aY hg))),trivial⟩),rfl,(ae ⟨(fun hg=> ⟨(aK x.power 1 100000 (dZ hr_2 (aY hg))),trivial⟩),rfl,(ae ⟨(fun hg=> ⟨(aK x.sync 0 8 (dZ hr_3 (aY hg))),trivial⟩),rfl,(ae ⟨(fun hg=> ⟨(aK x.iR 10 100000 (dZ hr_4 (aY hg))),trivial⟩),rfl,trivial⟩)⟩)⟩)⟩)⟩ ?_
 refine aR ?_
 obtain rfl:=oi h
 exact rl [(sB (bif (k18 r_ u0 u1 u2)then u3 else false))]
def Ht  :Bool→Exit→St→Prop:=
  fun r=>bJ TT [.tmp 3] (vB r) []
section
variable (x1:Int) (u0:(List Source)) (u1:(List Link)) (u2:(List ax))
abbrev k23:=(og [(k12 u0 u2 x1 u1)])
abbrev k22:DV:=(kH [(.fn 135 1 (k23 x1 u0 u1 u2))] 0)
abbrev k24:TV:=(vD (k22 x1 u0 u1 u2))
end
theorem Gq (x:Source) (x1:Int) (u0:(List Source)) (u1:(List Link)) (u2:(List ax)) {r:Bool} (h:qy x x1 u0 u1 u2=some r):Fn Try.prog 134 [(.agg [(cI x.bus),(cI x.kind),(cI x.power),(cI x.sync),(cI x.iR)]),(sD (k22 x1 u0 u1 u2))] [] (vB r) []:=by
 refine fN tT Try.func134 rfl rfl fun B=> ?_
 show bL _ _ _ _ _ _ (Ht r) _
 unfold qy at h
 refine sz tT ⟨[(1,(k24 x1 u0 u1 u2)),(k16 x)],[]⟩ {fr:=[(0,1)] } [1] ?_
 refine aQ (bE h fun r_ hr_ h=> ?_)
 have q0:=Da x x1 u0 u1 u2 hr_
 refine rg tT ⟨[(3,(vB (!r_)))],[]⟩ [_] {an:=[(2,cA q0 [])] } [] ⟨q0,trivial⟩ ?_
 refine aR ?_
 obtain rfl:=oi h
 exact rl [(sB (!r_))]
def mM  :Int→Exit→St→Prop:=
  fun r=>bJ TT [.tmp 4] (vI r) []
section
variable (s_:(List Source)) (f_:Int) (u0:(List Source)) (u1:(List Link)) (u2:(List ax))
abbrev k25:Nat × TV:=(0,(vD (k13 s_)))
abbrev k27:=(og [(k22 f_ u0 u1 u2)])
abbrev k26:Nat × TV:=(1,(vD (.fn 134 1 (k27 f_ u0 u1 u2))))
abbrev k28:Nat × TV:=(7,(vI (s_.length:Int)))
end
def qP (s_:(List Source)) (f_:Int) (u0:(List Source)) (u1:(List Link)) (u2:(List ax)):Int→St:=
  fun t8=> ⟨[(k25 s_),(k26 f_ u0 u1 u2),(k28 s_),(8,(vI t8))],[]⟩
def qQ  :Unit→St:=
  fun _=> ⟨[],[]⟩
def Bw (s_:(List Source)) (f_:Int) (u0:(List Source)) (u1:(List Link)) (u2:(List ax)):(aU Int (Ex Unit Int))→Exit→St→Prop:=
  LQ 0 [] (qP s_ f_ u0 u1 u2) qQ mM
section
variable (s_:(List Source)) (f_:Int) (u0:(List Source)) (u1:(List Link)) (u2:(List ax)) (t8:Int)
abbrev k29:List SV:=[(sD (k13 s_)),(sD (.fn 134 1 (k27 f_ u0 u1 u2)))]
abbrev k30:St:=⟨[(k25 s_),(k26 f_ u0 u1 u2)],[]⟩
abbrev k31:Nat × TV:=(8,(k3 t8))
end
theorem Br (s_:(List Source)) (f_:Int) (u0:(List Source)) (u1:(List Link)) (u2:(List ax)) {r:Int} (h:kS s_ f_ u0 u1 u2=some r):Fn Try.prog 150 (k29 s_ f_ u0 u1 u2) [] (vI r) []:=by
 refine fN tT Try.func150 rfl rfl fun B=> ?_
 show bL _ _ _ _ _ _ (mM r) _
 unfold kS at h
 refine sz tT (k30 s_ f_ u0 u1 u2) {} [] ?_
 refine aQ (sz tT ⟨[(k25 s_),(k26 f_ u0 u1 u2),(k28 s_),(8,(vI 0))],[]⟩ {} [] ?_)
 refine bE h fun y hy h=> ?_
 refine aL [] (qP s_ f_ u0 u1 u2) qQ mM hy (fun s f h=> ?_) ?_
 ·clear hy
  show bL _ _ _ _ _ _ ((Bw s_ f_ u0 u1 u2) f) _
  unfold jy at h
  obtain⟨t8,rfl⟩: ∃q,q=s:=⟨_,rfl⟩
  refine sz tT ⟨[(k25 s_),(k26 f_ u0 u1 u2),(k28 s_),(8,(vI t8)),(9,(vB (decide (t8<(s_.length:Int)))))],[]⟩ {} [] ?_
  refine aQ ?_
  refine bI h (fun hb1 h=> ?_) (fun hb1 h=> ?_)
  ·refine ct hb1 ?_
   refine aP (aQ (aB (sz tT ⟨[(k25 s_),(k26 f_ u0 u1 u2),(5,(vI t8)),(k28 s_),(8,(vI t8))],[]⟩ {} [] ?_)))
   refine aQ (bE h fun r_ hr_ h=> ?_)
   refine aO h fun a1 h=> ?_
   have q1:=Gq (at' s_ t8.toNat) f_ u0 u1 u2 hr_
   refine rg tT ⟨[(k25 s_),(k26 f_ u0 u1 u2),(5,(vI t8)),(k28 s_),(8,(vI t8)),(16,(vB r_))],[]⟩ [_,_] {an:=[(5,cA q1 [])] } [] ⟨a1,q1,trivial⟩ ?_
   refine bI h (fun hb h=> ?_) (fun hb h=> ?_)
   ·refine ct hb ?_
    refine sz tT ⟨[(4,(vI t8))],[]⟩ {} [] ?_
    refine aR ?_
    obtain rfl:=oi h
    exact lR fQ (fT 0) fU (bJ.mk (.inr rfl) (p:=[]) (l:=[(sI t8)]) (by kernel_rfl) trivial (eX.refl _) trivial)
   ·refine cf hb ?_
    refine aP (rz tT ⟨[(k25 s_),(k26 f_ u0 u1 u2),(k28 s_),(k31 t8)],[]⟩ {} [] ?_)
    obtain rfl:=oi h
    exact lN
  ·refine cf hb1 ?_
   refine aI (fz ⟨[],[]⟩ []) ?_
   refine aX ?_
   obtain rfl:=oi h
   exact lB
 ·clear hy
  cases y with
  |brk z=>
   unfold fZ
   refine⟨_, .refl, ?_⟩
   refine sz tT ⟨[(4,(vI (-1)))],[]⟩ {} [] ?_
   refine aR ?_
   obtain rfl:=oi h
   exact rl [(sI (-1))]
  |ret v=>
   obtain rfl:=oi h
   unfold fZ
   intro e st hn ha hR
   cases e with
   |normal=>exact absurd rfl hn
   |exit id=>exact hR
   |goto l=>exact hR
   |ret=>exact hR
   |panic c=>exact hR
   |outgrown=>exact hR
def zB  :Bool→Exit→St→Prop:=
  fun r=>bJ TT [.tmp 4] (vB r) []
section
variable (r_:Int)
abbrev k32:St:=⟨[(4,(vB (decide (0≤r_))))],[]⟩
end
theorem yC (s_:(List Source)) (f_:Int) (u0:(List Source)) (u1:(List Link)) (u2:(List ax)) {r:Bool} (h:gL s_ f_ u0 u1 u2=some r):Fn Try.prog 133 (k29 s_ f_ u0 u1 u2) [] (vB r) []:=by
 refine fN tT Try.func133 rfl rfl fun B=> ?_
 show bL _ _ _ _ _ _ (zB r) _
 unfold gL at h
 refine sz tT (k30 s_ f_ u0 u1 u2) {} [] ?_
 refine aQ (bE h fun r_ hr_ h=> ?_)
 have q0:=Br s_ f_ u0 u1 u2 hr_
 refine rg tT (k32 r_) [_] {an:=[(2,cA q0 [])] } [] ⟨q0,trivial⟩ ?_
 refine aR ?_
 obtain rfl:=oi h
 exact rl [(sB (decide (0≤r_)))]
def Lc  :Bool→Exit→St→Prop:=
  fun r=>bJ TT [.tmp 6] (vB r) []
theorem IY (l:(List Source)) (u0:Int) (u1:Int) (u2:(List Source)) (u3:(List Link)) (u4:(List ax)) {r:Bool} (h:pW l u0 u1 u2 u3 u4=some r):Fn Try.prog 95 [(sD (k13 l)),(sI u0),(sD (.fn 135 1 (k23 u1 u2 u3 u4)))] [] (vB r) []:=by
 refine fN tT Try.func95 rfl rfl fun B=> ?_
 show bL _ _ _ _ _ _ (Lc r) _
 unfold pW at h
 refine sz tT ⟨[(k25 l),(1,(vI u0)),(5,(k24 u1 u2 u3 u4))],[]⟩ {fr:=[(0,1)] } [1] ?_
 refine aQ (bE h fun r_ hr_ h=> ?_)
 refine rg tT ⟨[(6,(vB (bif (decide ((l.length:Int)≤u0))then(!r_)else false)))],[]⟩ (eqs (decide ((l.length:Int)≤u0)) 3 ((gP (jP [(4,(decide ((l.length:Int)≤u0)))]) [(4,true)]→All [Fn Try.prog 133 (k29 l u1 u2 u3 u4) [] (vB r_) []])::(eqs (decide ((l.length:Int)≤u0)) 2 []))) {yb:=[(4,(decide ((l.length:Int)≤u0)))],an:=[(7, .call [] (vB r_) [])] } [] (ae ⟨(fun hg=> ⟨(yC l u1 u2 u3 u4 (dZ hr_ (aY hg))),trivial⟩),(ae trivial)⟩) ?_
 refine aR ?_
 obtain rfl:=oi h
 exact rl [(sB (bif (decide ((l.length:Int)≤u0))then(!r_)else false))]
def rP  :Bool→Exit→St→Prop:=
  fun r=>bJ TT [.tmp 3] (vB r) []
section
variable (x:Link)
abbrev k33:Nat × TV:=(2,(vD (kH [(.int .i64 x.a),(.int .i64 x.b),(.int .i64 x.kind),(.int .i64 x.most),(.int .i64 x.iR),(aG none 2 je.cell x.trip)] 0)))
abbrev k34:Nat × TV:=(48,(vD (aG none 2 je.cell x.trip)))
abbrev k35:Nat × TV:=(49,(vI (x.trip.length:Int)))
end
def xZ (x:Link):Int→St:=
  fun u0=> ⟨[(k33 x),(k34 x),(k35 x),(50,(vI u0))],[]⟩
section
variable (x:Link)
abbrev k36:St:=⟨[(k33 x)],[]⟩
end
def yg (x:Link):Unit→St:=
  fun _=>(k36 x)
def Gl (x:Link):(aU Int (Ex Unit Bool))→Exit→St→Prop:=
  LQ 0 [] (xZ x) (yg x) rP
section
variable (x:Link) (r_:Bool) (u1:Bool) (u3:Bool) (u5:Bool) (u0:Int) (u2:Bool) (u4:Bool)
abbrev k37:List CV:=[(cI x.a),(cI x.b),(cI x.kind),(cI x.most),(cI x.iR),(.d (aG none 2 je.cell x.trip))]
abbrev k38:List (Nat × Option Ob):=[(5,some (.cells 53 (k37 x)))]
abbrev Wi:=(bif (!r_)then true else(!u1))
abbrev k41:=(bif (Wi r_ u1)then true else(decide (x.a=x.b)))
abbrev k40:=(bif (k41 x r_ u1)then true else(!u3))
abbrev k39:=(bif (k40 x r_ u1 u3)then true else(!u5))
abbrev k43:=(jP [(7,(!r_)),(16,(Wi r_ u1)),(23,(k41 x r_ u1)),(29,(k40 x r_ u1 u3)),(35,(k39 x r_ u1 u3 u5))])
abbrev k44:=(decide (((at' x.trip u0.toNat).amps)≤((at' x.trip ((k17 u0).toNat)).amps)))
abbrev k45:=(jP [(4,(!u2)),(10,(Wi u2 u4)),(13,(decide (0<u0))),(24,(k44 x u0))])
abbrev k47:=(decide ((x.trip.length:Int)≤6))
abbrev k48:=(decide ((x.trip.length:Int)=0))
abbrev k46:=(bif (k47 x)then(bif (k48 x)then true else(decide (x.kind=3)))else false)
end
theorem Gs (x:Link) (x1:Int) (u6:(List Source)) (u7:(List Link)) (u8:(List ax)) {r:Bool} (h:mJ x x1 u6 u7 u8=some r):Fn Try.prog 138 [(.agg (k37 x)),(sD (k12 u6 u8 x1 u7))] [] (vB r) []:=by
 refine fN tT Try.func138 rfl rfl fun B=> ?_
 show bL _ _ _ _ _ _ (rP r) _
 unfold mJ at h
 refine sz tT ⟨[(k15 u6 u8 x1 u7),(2,(vP 5 0))],(k38 x)⟩ {fr:=[(0,5)] } [] ?_
 refine aQ (aQ (bE h fun r_ hr_ h=> ?_))
 refine bE h fun u1 hr_1 h=> ?_
 refine bE h fun u3 hr_2 h=> ?_
 refine bE h fun u5 hr_3 h=> ?_
 refine bE h fun u9 hr_4 h=> ?_
 have q0:=aK x.a 0 (k17 x1) hr_
 refine rg tT ⟨[(2,(vP 5 0)),(46,(vB (bif (k39 x r_ u1 u3 u5)then true else(!u9))))],(k38 x)⟩ (_::(eqs (!r_) 6 ((gP (k43 x r_ u1 u3 u5) [(7,false)]→All [Fn Try.prog 94 [(sI x.b),(sI 0),(sI (k17 x1))] [] (vB u1) []])::(eqs (!r_) 2 (eqs (Wi r_ u1) 6 (eqs (k41 x r_ u1) 3 ((gP (k43 x r_ u1 u3 u5) [(23,false)]→All [Fn Try.prog 94 [(sI x.kind),(sI 1),(sI 3)] [] (vB u3) []])::(eqs (k41 x r_ u1) 2 (eqs (k40 x r_ u1 u3) 3 ((gP (k43 x r_ u1 u3 u5) [(29,false)]→All [Fn Try.prog 94 [(sI x.most),(sI 1),(sI 100000)] [] (vB u5) []])::(eqs (k40 x r_ u1 u3) 2 (eqs (k39 x r_ u1 u3 u5) 3 ((gP (k43 x r_ u1 u3 u5) [(35,false)]→All [Fn Try.prog 94 [(sI x.iR),(sI 10),(sI 100000)] [] (vB u9) []])::(eqs (k39 x r_ u1 u3 u5) 2 [])))))))))))))) {yb:=[(7,(!r_)),(16,(Wi r_ u1)),(23,(k41 x r_ u1)),(29,(k40 x r_ u1 u3)),(35,(k39 x r_ u1 u3 u5))],an:=[(5,cA q0 []),(13, .call [] (vB u1) []),(26, .call [] (vB u3) []),(32, .call [] (vB u5) []),(38, .call [] (vB u9) [])] } [] ⟨q0,(ae ⟨(fun hg=> ⟨(aK x.b 0 (k17 x1) (dZ hr_1 (aY hg))),trivial⟩),(ae (ae (ae ⟨(fun hg=> ⟨(aK x.kind 1 3 (dZ hr_2 (aY hg))),trivial⟩),(ae (ae ⟨(fun hg=> ⟨(aK x.most 1 100000 (dZ hr_3 (aY hg))),trivial⟩),(ae (ae ⟨(fun hg=> ⟨(aK x.iR 10 100000 (dZ hr_4 (aY hg))),trivial⟩),(ae trivial)⟩))⟩))⟩)))⟩)⟩ ?_
 refine bI h (fun hb2 h=> ?_) (fun hb2 h=> ?_)
 ·refine ct hb2 ?_
  refine sz tT ⟨[(3,(vB false))],[]⟩ {} [] ?_
  refine aR ?_
  obtain rfl:=oi h
  exact rl [(sB false)]
 ·refine cf hb2 ?_
  refine aP (aQ (sz tT ⟨[(k33 x),(k34 x),(k35 x),(50,(vI 0))],[]⟩ {} [5] ?_))
  refine bE h fun y hy h=> ?_
  refine aL [] (xZ x) (yg x) rP hy (fun s f h=> ?_) ?_
  ·clear hy
   show bL _ _ _ _ _ _ ((Gl x) f) _
   unfold jS at h
   obtain⟨u0,rfl⟩: ∃q,q=s:=⟨_,rfl⟩
   refine sz tT ⟨[(k33 x),(k34 x),(k35 x),(50,(vI u0)),(51,(vB (decide (u0<(x.trip.length:Int)))))],[]⟩ {} [] ?_
   refine aQ ?_
   refine bI h (fun hb1 h=> ?_) (fun hb1 h=> ?_)
   ·refine ct hb1 ?_
    refine aP (aQ (aB (aQ (aO h fun a1 h=> ?_))))
    refine rg tT ⟨[(k33 x),(4,(vI u0)),(5,(vD (kH [(.int .i64 ((at' x.trip u0.toNat).amps)),(.int .i64 ((at' x.trip u0.toNat).millis))] 0))),(k34 x),(k35 x),(50,(vI u0))],[]⟩ [_] {fr:=[(3,9)] } [9] ⟨a1,trivial⟩ ?_
    refine aQ (bE h fun u2 hr_5 h=> ?_)
    refine bE h fun u4 hr_6 h=> ?_
    refine aO h fun⟨a1,a2⟩ h=> ?_
    have q0:=aK ((at' x.trip u0.toNat).amps) 1 1000000 hr_5
    refine dg tT mX ⟨[(k33 x),(k34 x),(k35 x),(50,(vI u0)),(92,(vB (bif (Wi u2 u4)then true else(bif (decide (0<u0))then(bif (k44 x u0)then true else(decide (((at' x.trip ((k17 u0).toNat)).millis)≤((at' x.trip u0.toNat).millis))))else false))))],[]⟩ (_::(eqs (!u2) 3 ((gP (k45 x u0 u2 u4) [(4,false)]→All [Fn Try.prog 94 [(sI ((at' x.trip u0.toNat).millis)),(sI 1),(sI 100000)] [] (vB u4) []])::(eqs (!u2) 2 (eqs (Wi u2 u4) 3 (eqs (decide (0<u0)) 7 ((gP (k45 x u0 u2 u4) [(13,true),(10,false)]→All [(0:Int)≤(k17 u0)∧(k17 u0)<(x.trip.length:Int)])::(eqs (decide (0<u0)) 4 (eqs (k44 x u0) 7 ((gP (k45 x u0 u2 u4) [(24,false),(13,true),(10,false)]→All [(0:Int)≤(k17 u0)∧(k17 u0)<(x.trip.length:Int)])::(eqs (k44 x u0) 3 [(decide (0<u0))=(decide (0<u0)),gP (k45 x u0 u2 u4) [(13,true),(10,false)]→All [(k44 x u0)=(k44 x u0)],(Wi u2 u4)=(Wi u2 u4),gP (k45 x u0 u2 u4) [(10,false)]→All [(decide (0<u0))=(decide (0<u0))],(Wi u2 u4)=(Wi u2 u4)]))))))))))) {yb:=[(4,(!u2)),(10,(Wi u2 u4)),(13,(decide (0<u0))),(24,(k44 x u0))],an:=[(2,cA q0 []),(7, .call [] (vB u4) [])] } [] ⟨q0,(ae ⟨(fun hg=> ⟨(aK ((at' x.trip u0.toNat).millis) 1 100000 (dZ hr_6 (aY hg))),trivial⟩),(ae (ae (ae ⟨(fun hg=> ⟨(a1 (aY hg)),trivial⟩),(ae (ae ⟨(fun hg=> ⟨(a2 (aY hg)),trivial⟩),(ae ⟨rfl,(fun hg=> ⟨rfl,trivial⟩),rfl,(fun hg=> ⟨rfl,trivial⟩),rfl,trivial⟩)⟩))⟩)))⟩)⟩ ?_
    refine bI h (fun hb h=> ?_) (fun hb h=> ?_)
    ·refine ct hb ?_
     refine sz tT ⟨[(3,(vB false))],[]⟩ {} [] ?_
     refine aR ?_
     obtain rfl:=oi h
     exact lR fQ (fT 0) fU (bJ.mk (.inr rfl) (p:=[]) (l:=[(sB false)]) (by kernel_rfl) trivial (eX.refl _) trivial)
    ·refine cf hb ?_
     refine aP (rz tT ⟨[(k33 x),(k34 x),(k35 x),(50,(k3 u0))],[]⟩ {} [] ?_)
     obtain rfl:=oi h
     exact lN
   ·refine cf hb1 ?_
    refine aI (fz (k36 x) []) ?_
    refine aX ?_
    obtain rfl:=oi h
    exact lB
  ·clear hy
   cases y with
   |brk z=>
    unfold fZ
    refine⟨_, .refl, ?_⟩
    refine sg tT ⟨[(3,(vB (k46 x)))],[]⟩ (eqs (k47 x) 5 (eqs (k48 x) 3 [(k47 x)=(k47 x),gP (jP [(4,(k47 x)),(9,(k48 x))]) [(4,true)]→All [(k48 x)=(k48 x)],(k47 x)=(k47 x)])) {yb:=[(4,(k47 x)),(9,(k48 x))] } [] (ae (ae ⟨rfl,(fun hg=> ⟨rfl,trivial⟩),rfl,trivial⟩)) ?_
    refine aR ?_
    obtain rfl:=oi h
    exact rl [(sB (k46 x))]
   |ret v=>
    obtain rfl:=oi h
    unfold fZ
    intro e st hn ha hR
    cases e with
    |normal=>exact absurd rfl hn
    |exit id=>exact hR
    |goto l=>exact hR
    |ret=>exact hR
    |panic c=>exact hR
    |outgrown=>exact hR
def DW  :Bool→Exit→St→Prop:=
  fun r=>bJ TT [.tmp 3] (vB r) []
section
variable (x1:Int) (u0:(List Source)) (u1:(List Link)) (u2:(List ax))
abbrev k49:DV:=(kH [(.fn 138 1 (k23 x1 u0 u1 u2))] 0)
abbrev k50:TV:=(vD (k49 x1 u0 u1 u2))
end
theorem Cm (x:Link) (x1:Int) (u0:(List Source)) (u1:(List Link)) (u2:(List ax)) {r:Bool} (h:mD x x1 u0 u1 u2=some r):Fn Try.prog 137 [(.agg (k37 x)),(sD (k49 x1 u0 u1 u2))] [] (vB r) []:=by
 refine fN tT Try.func137 rfl rfl fun B=> ?_
 show bL _ _ _ _ _ _ (DW r) _
 unfold mD at h
 refine sz tT ⟨[(1,(k50 x1 u0 u1 u2)),(k33 x)],[]⟩ {fr:=[(0,1)] } [1] ?_
 refine aQ (bE h fun r_ hr_ h=> ?_)
 have q0:=Gs x x1 u0 u1 u2 hr_
 refine rg tT ⟨[(3,(vB (!r_)))],[]⟩ [_] {an:=[(2,cA q0 [])] } [] ⟨q0,trivial⟩ ?_
 refine aR ?_
 obtain rfl:=oi h
 exact rl [(sB (!r_))]
def kE  :Int→Exit→St→Prop:=
  fun r=>bJ TT [.tmp 4] (vI r) []
section
variable (s_:(List Link)) (f_:Int) (u0:(List Source)) (u1:(List Link)) (u2:(List ax))
abbrev k51:Nat × TV:=(0,(vD (aG none 6 Link.cell s_)))
abbrev k53:=(og [(k49 f_ u0 u1 u2)])
abbrev k52:Nat × TV:=(1,(vD (.fn 137 1 (k53 f_ u0 u1 u2))))
abbrev k54:Nat × TV:=(7,(vI (s_.length:Int)))
end
def oz (s_:(List Link)) (f_:Int) (u0:(List Source)) (u1:(List Link)) (u2:(List ax)):Int→St:=
  fun t8=> ⟨[(k51 s_),(k52 f_ u0 u1 u2),(k54 s_),(8,(vI t8))],[]⟩
def nW  :Unit→St:=
  fun _=> ⟨[],[]⟩
def yL (s_:(List Link)) (f_:Int) (u0:(List Source)) (u1:(List Link)) (u2:(List ax)):(aU Int (Ex Unit Int))→Exit→St→Prop:=
  LQ 0 [] (oz s_ f_ u0 u1 u2) nW kE
section
variable (s_:(List Link)) (f_:Int) (u0:(List Source)) (u1:(List Link)) (u2:(List ax))
abbrev k55:List SV:=[(sD (aG none 6 Link.cell s_)),(sD (.fn 137 1 (k53 f_ u0 u1 u2)))]
abbrev k56:St:=⟨[(k51 s_),(k52 f_ u0 u1 u2)],[]⟩
end
theorem yu (s_:(List Link)) (f_:Int) (u0:(List Source)) (u1:(List Link)) (u2:(List ax)) {r:Int} (h:jA s_ f_ u0 u1 u2=some r):Fn Try.prog 151 (k55 s_ f_ u0 u1 u2) [] (vI r) []:=by
 refine fN tT Try.func151 rfl rfl fun B=> ?_
 show bL _ _ _ _ _ _ (kE r) _
 unfold jA at h
 refine sz tT (k56 s_ f_ u0 u1 u2) {} [] ?_
 refine aQ (sz tT ⟨[(k51 s_),(k52 f_ u0 u1 u2),(k54 s_),(8,(vI 0))],[]⟩ {} [] ?_)
 refine bE h fun y hy h=> ?_
 refine aL [] (oz s_ f_ u0 u1 u2) nW kE hy (fun s f h=> ?_) ?_
 ·clear hy
  show bL _ _ _ _ _ _ ((yL s_ f_ u0 u1 u2) f) _
  unfold gZ at h
  obtain⟨t8,rfl⟩: ∃q,q=s:=⟨_,rfl⟩
  refine sz tT ⟨[(k51 s_),(k52 f_ u0 u1 u2),(k54 s_),(8,(vI t8)),(9,(vB (decide (t8<(s_.length:Int)))))],[]⟩ {} [] ?_
  refine aQ ?_
  refine bI h (fun hb1 h=> ?_) (fun hb1 h=> ?_)
  ·refine ct hb1 ?_
   refine aP (aQ (aB (sz tT ⟨[(k51 s_),(k52 f_ u0 u1 u2),(5,(vI t8)),(k54 s_),(8,(vI t8))],[]⟩ {} [] ?_)))
   refine aQ (bE h fun r_ hr_ h=> ?_)
   refine aO h fun a1 h=> ?_
   have q1:=Cm (at' s_ t8.toNat) f_ u0 u1 u2 hr_
   refine rg tT ⟨[(k51 s_),(k52 f_ u0 u1 u2),(5,(vI t8)),(k54 s_),(8,(vI t8)),(16,(vB r_))],[]⟩ [_,_] {an:=[(5,cA q1 [])] } [] ⟨a1,q1,trivial⟩ ?_
   refine bI h (fun hb h=> ?_) (fun hb h=> ?_)
   ·refine ct hb ?_
    refine sz tT ⟨[(4,(vI t8))],[]⟩ {} [] ?_
    refine aR ?_
    obtain rfl:=oi h
    exact lR fQ (fT 0) fU (bJ.mk (.inr rfl) (p:=[]) (l:=[(sI t8)]) (by kernel_rfl) trivial (eX.refl _) trivial)
   ·refine cf hb ?_
    refine aP (rz tT ⟨[(k51 s_),(k52 f_ u0 u1 u2),(k54 s_),(k31 t8)],[]⟩ {} [] ?_)
    obtain rfl:=oi h
    exact lN
  ·refine cf hb1 ?_
   refine aI (fz ⟨[],[]⟩ []) ?_
   refine aX ?_
   obtain rfl:=oi h
   exact lB
 ·clear hy
  cases y with
  |brk z=>
   unfold fZ
   refine⟨_, .refl, ?_⟩
   refine sz tT ⟨[(4,(vI (-1)))],[]⟩ {} [] ?_
   refine aR ?_
   obtain rfl:=oi h
   exact rl [(sI (-1))]
  |ret v=>
   obtain rfl:=oi h
   unfold fZ
   intro e st hn ha hR
   cases e with
   |normal=>exact absurd rfl hn
   |exit id=>exact hR
   |goto l=>exact hR
   |ret=>exact hR
   |panic c=>exact hR
   |outgrown=>exact hR
def vT  :Bool→Exit→St→Prop:=
  fun r=>bJ TT [.tmp 4] (vB r) []
theorem uF (s_:(List Link)) (f_:Int) (u0:(List Source)) (u1:(List Link)) (u2:(List ax)) {r:Bool} (h:fE s_ f_ u0 u1 u2=some r):Fn Try.prog 136 (k55 s_ f_ u0 u1 u2) [] (vB r) []:=by
 refine fN tT Try.func136 rfl rfl fun B=> ?_
 show bL _ _ _ _ _ _ (vT r) _
 unfold fE at h
 refine sz tT (k56 s_ f_ u0 u1 u2) {} [] ?_
 refine aQ (bE h fun r_ hr_ h=> ?_)
 have q0:=yu s_ f_ u0 u1 u2 hr_
 refine rg tT (k32 r_) [_] {an:=[(2,cA q0 [])] } [] ⟨q0,trivial⟩ ?_
 refine aR ?_
 obtain rfl:=oi h
 exact rl [(sB (decide (0≤r_)))]
def GV  :Bool→Exit→St→Prop:=
  fun r=>bJ TT [.tmp 6] (vB r) []
theorem FE (l:(List Link)) (u0:Int) (u1:Int) (u2:(List Source)) (u3:(List Link)) (u4:(List ax)) {r:Bool} (h:ni l u0 u1 u2 u3 u4=some r):Fn Try.prog 97 [(sD (aG none 6 Link.cell l)),(sI u0),(sD (.fn 138 1 (k23 u1 u2 u3 u4)))] [] (vB r) []:=by
 refine fN tT Try.func97 rfl rfl fun B=> ?_
 show bL _ _ _ _ _ _ (GV r) _
 unfold ni at h
 refine sz tT ⟨[(k51 l),(1,(vI u0)),(5,(k50 u1 u2 u3 u4))],[]⟩ {fr:=[(0,1)] } [1] ?_
 refine aQ (bE h fun r_ hr_ h=> ?_)
 refine rg tT ⟨[(6,(vB (bif (decide ((l.length:Int)≤u0))then(!r_)else false)))],[]⟩ (eqs (decide ((l.length:Int)≤u0)) 3 ((gP (jP [(4,(decide ((l.length:Int)≤u0)))]) [(4,true)]→All [Fn Try.prog 136 (k55 l u1 u2 u3 u4) [] (vB r_) []])::(eqs (decide ((l.length:Int)≤u0)) 2 []))) {yb:=[(4,(decide ((l.length:Int)≤u0)))],an:=[(7, .call [] (vB r_) [])] } [] (ae ⟨(fun hg=> ⟨(uF l u1 u2 u3 u4 (dZ hr_ (aY hg))),trivial⟩),(ae trivial)⟩) ?_
 refine aR ?_
 obtain rfl:=oi h
 exact rl [(sB (bif (decide ((l.length:Int)≤u0))then(!r_)else false))]
def Ji  :Int→Exit→St→Prop:=
  fun r=>bJ TT [.tmp 2] (vI r) []
section
variable (x:ax)
abbrev k57:List CV:=[(cI x.feeds.e0),(cI x.feeds.e1),(cI x.power),(cI x.paths)]
abbrev k58:TV:=(vD (kH [(.int .i64 x.feeds.e0),(.int .i64 x.feeds.e1),(.int .i64 x.power),(.int .i64 x.paths)] 0))
end
theorem H8 (x:ax) {r:Int} (h:oq x=some r):Fn Try.prog 142 [(.agg (k57 x))] [] (vI r) []:=by
 refine fN tT Try.func142 rfl rfl fun B=> ?_
 show bL _ _ _ _ _ _ (Ji r) _
 unfold oq at h
 refine sz tT ⟨[(1,(k58 x))],[]⟩ {fr:=[(0,1)] } [1] ?_
 refine aQ (sg tT ⟨[(6,(vB (decide (x.feeds.e1=(-1)))))],[]⟩ [(0:Int)≤1∧(1:Int)<(2:Nat)] {} [] ⟨((by decide)),trivial⟩ ?_)
 refine bI h (fun hb h=> ?_) (fun hb h=> ?_)
 ·refine ct hb ?_
  refine sz tT ⟨[(2,(vI 1))],[]⟩ {} [] ?_
  refine aR ?_
  obtain rfl:=oi h
  exact rl [(sI 1)]
 ·refine cf hb ?_
  refine aP (sz tT ⟨[(2,(vI 2))],[]⟩ {} [] ?_)
  refine aR ?_
  obtain rfl:=oi h
  exact rl [(sI 2)]
def H7  :Bool→Exit→St→Prop:=
  fun r=>bJ TT [.tmp 3] (vB r) []
section
variable (x:ax) (r_:Bool) (u0:Bool) (u1:Bool) (u6:Bool)
abbrev k59:Nat × TV:=(2,(k58 x))
abbrev k62:=(bif (k20 r_ u0)then(!decide (x.feeds.e0=x.feeds.e1))else false)
abbrev k61:=(bif (k62 x r_ u0)then u1 else false)
abbrev k60:=(bif (k61 x r_ u0 u1)then u6 else false)
abbrev k63:=(jP [(5,r_),(12,(k20 r_ u0)),(17,(k62 x r_ u0)),(22,(k61 x r_ u0 u1))])
end
theorem FJ (x:ax) (x1:Int) (u2:(List Source)) (u3:(List Link)) (u4:(List ax)) {r:Bool} (h:mV x x1 u2 u3 u4=some r):Fn Try.prog 141 [(.agg (k57 x)),(sD (k12 u2 u4 x1 u3))] [] (vB r) []:=by
 refine fN tT Try.func141 rfl rfl fun B=> ?_
 show bL _ _ _ _ _ _ (H7 r) _
 unfold mV at h
 refine sz tT ⟨[(k15 u2 u4 x1 u3),(k59 x)],[]⟩ {fr:=[(0,1)] } [1] ?_
 refine sd tT mX ⟨[(k15 u2 u4 x1 u3),(k59 x),(4,(vI x.feeds.e0)),(5,(vI x.feeds.e1))],[]⟩ [(0:Int)≤0∧(0:Int)<(2:Nat),(0:Int)≤1∧(1:Int)<(2:Nat)] {} [] ⟨((by decide)),((by decide)),trivial⟩ ?_
 refine aQ (bE h fun r_ hr_ h=> ?_)
 refine bE h fun u0 hr_1 h=> ?_
 refine bE h fun u1 hr_2 h=> ?_
 refine bE h fun u5 hr_3 h=> ?_
 refine bE h fun u6 hr_4 h=> ?_
 have q0:=aK x.feeds.e0 0 (k17 x1) hr_
 refine dg tT mX ⟨[(3,(vB (k60 x r_ u0 u1 u6)))],[]⟩ (_::(eqs r_ 5 ((gP (k63 x r_ u0 u1) [(5,true)]→All [Fn Try.prog 94 [(sI x.feeds.e1),(sI (-1)),(sI (k17 x1))] [] (vB u0) []])::(r_=r_)::(eqs (k20 r_ u0) 4 (eqs (k62 x r_ u0) 3 ((gP (k63 x r_ u0 u1) [(17,true)]→All [Fn Try.prog 94 [(sI x.power),(sI 1),(sI 100000)] [] (vB u1) []])::((k62 x r_ u0)=(k62 x r_ u0))::(eqs (k61 x r_ u0 u1) 4 [gP (k63 x r_ u0 u1) [(22,true)]→All [Fn Try.prog 142 [(.agg (k57 x))] [] (vI u5) []],(k61 x r_ u0 u1)=(k61 x r_ u0 u1),gP (k63 x r_ u0 u1) [(22,true)]→All [Fn Try.prog 94 [(sI x.paths),(sI 0),(sI u5)] [] (vB u6) []],(k61 x r_ u0 u1)=(k61 x r_ u0 u1)]))))))) {yb:=[(5,r_),(12,(k20 r_ u0)),(17,(k62 x r_ u0)),(22,(k61 x r_ u0 u1))],an:=[(4,cA q0 []),(10, .call [] (vB u0) []),(20, .call [] (vB u1) []),(26, .call [] (vI u5) []),(27, .call [] (vB u6) [])] } [] ⟨q0,(ae ⟨(fun hg=> ⟨(aK x.feeds.e1 (-1) (k17 x1) (dZ hr_1 (aY hg))),trivial⟩),rfl,(ae (ae ⟨(fun hg=> ⟨(aK x.power 1 100000 (dZ hr_2 (aY hg))),trivial⟩),rfl,(ae ⟨(fun hg=> ⟨(H8 x (dZ hr_3 (aY hg))),trivial⟩),rfl,(fun hg=> ⟨(aK x.paths 0 u5 (dZ hr_4 (aY hg))),trivial⟩),rfl,trivial⟩)⟩))⟩)⟩ ?_
 refine aR ?_
 obtain rfl:=oi h
 exact rl [(sB (k60 x r_ u0 u1 u6))]
def DZ  :Bool→Exit→St→Prop:=
  fun r=>bJ TT [.tmp 3] (vB r) []
section
variable (x1:Int) (u0:(List Source)) (u1:(List Link)) (u2:(List ax))
abbrev k64:DV:=(kH [(.fn 141 1 (k23 x1 u0 u1 u2))] 0)
abbrev k65:TV:=(vD (k64 x1 u0 u1 u2))
end
theorem CQ (x:ax) (x1:Int) (u0:(List Source)) (u1:(List Link)) (u2:(List ax)) {r:Bool} (h:lV x x1 u0 u1 u2=some r):Fn Try.prog 140 [(.agg (k57 x)),(sD (k64 x1 u0 u1 u2))] [] (vB r) []:=by
 refine fN tT Try.func140 rfl rfl fun B=> ?_
 show bL _ _ _ _ _ _ (DZ r) _
 unfold lV at h
 refine sz tT ⟨[(1,(k65 x1 u0 u1 u2)),(k59 x)],[]⟩ {fr:=[(0,1)] } [1] ?_
 refine aQ (bE h fun r_ hr_ h=> ?_)
 have q0:=FJ x x1 u0 u1 u2 hr_
 refine rg tT ⟨[(3,(vB (!r_)))],[]⟩ [_] {an:=[(2,cA q0 [])] } [] ⟨q0,trivial⟩ ?_
 refine aR ?_
 obtain rfl:=oi h
 exact rl [(sB (!r_))]
def j5  :Int→Exit→St→Prop:=
  fun r=>bJ TT [.tmp 4] (vI r) []
section
variable (s_:(List ax)) (f_:Int) (u0:(List Source)) (u1:(List Link)) (u2:(List ax))
abbrev k66:Nat × TV:=(0,(vD (k14 s_)))
abbrev k68:=(og [(k64 f_ u0 u1 u2)])
abbrev k67:Nat × TV:=(1,(vD (.fn 140 1 (k68 f_ u0 u1 u2))))
abbrev k69:Nat × TV:=(7,(vI (s_.length:Int)))
end
def oh (s_:(List ax)) (f_:Int) (u0:(List Source)) (u1:(List Link)) (u2:(List ax)):Int→St:=
  fun t8=> ⟨[(k66 s_),(k67 f_ u0 u1 u2),(k69 s_),(8,(vI t8))],[]⟩
def nT  :Unit→St:=
  fun _=> ⟨[],[]⟩
def yI (s_:(List ax)) (f_:Int) (u0:(List Source)) (u1:(List Link)) (u2:(List ax)):(aU Int (Ex Unit Int))→Exit→St→Prop:=
  LQ 0 [] (oh s_ f_ u0 u1 u2) nT j5
section
variable (s_:(List ax)) (f_:Int) (u0:(List Source)) (u1:(List Link)) (u2:(List ax)) (t8:Int)
abbrev k70:List SV:=[(sD (k14 s_)),(sD (.fn 140 1 (k68 f_ u0 u1 u2)))]
abbrev k71:St:=⟨[(k66 s_),(k67 f_ u0 u1 u2)],[]⟩
abbrev Ko:=((at' s_ t8.toNat).feeds)
end
theorem yJ (s_:(List ax)) (f_:Int) (u0:(List Source)) (u1:(List Link)) (u2:(List ax)) {r:Int} (h:jw s_ f_ u0 u1 u2=some r):Fn Try.prog 152 (k70 s_ f_ u0 u1 u2) [] (vI r) []:=by
 refine fN tT Try.func152 rfl rfl fun B=> ?_
 show bL _ _ _ _ _ _ (j5 r) _
 unfold jw at h
 refine sz tT (k71 s_ f_ u0 u1 u2) {} [] ?_
 refine aQ (sz tT ⟨[(k66 s_),(k67 f_ u0 u1 u2),(k69 s_),(8,(vI 0))],[]⟩ {} [] ?_)
 refine bE h fun y hy h=> ?_
 refine aL [] (oh s_ f_ u0 u1 u2) nT j5 hy (fun s f h=> ?_) ?_
 ·clear hy
  show bL _ _ _ _ _ _ ((yI s_ f_ u0 u1 u2) f) _
  unfold ic at h
  obtain⟨t8,rfl⟩: ∃q,q=s:=⟨_,rfl⟩
  refine sz tT ⟨[(k66 s_),(k67 f_ u0 u1 u2),(k69 s_),(8,(vI t8)),(9,(vB (decide (t8<(s_.length:Int)))))],[]⟩ {} [] ?_
  refine aQ ?_
  refine bI h (fun hb1 h=> ?_) (fun hb1 h=> ?_)
  ·refine ct hb1 ?_
   refine aP (aQ (aB (sz tT ⟨[(k66 s_),(k67 f_ u0 u1 u2),(5,(vI t8)),(k69 s_),(8,(vI t8))],[]⟩ {} [] ?_)))
   refine aQ (bE h fun r_ hr_ h=> ?_)
   refine aO h fun a1 h=> ?_
   have q1:=CQ (⟨(Ko s_ t8),(at' s_ t8.toNat).power,(at' s_ t8.toNat).paths⟩:ax) f_ u0 u1 u2 hr_
   refine rg tT ⟨[(k66 s_),(k67 f_ u0 u1 u2),(5,(vI t8)),(k69 s_),(8,(vI t8)),(16,(vB r_))],[]⟩ [_,_] {an:=[(5,cA q1 [])] } [] ⟨a1,q1,trivial⟩ ?_
   refine bI h (fun hb h=> ?_) (fun hb h=> ?_)
   ·refine ct hb ?_
    refine sz tT ⟨[(4,(vI t8))],[]⟩ {} [] ?_
    refine aR ?_
    obtain rfl:=oi h
    exact lR fQ (fT 0) fU (bJ.mk (.inr rfl) (p:=[]) (l:=[(sI t8)]) (by kernel_rfl) trivial (eX.refl _) trivial)
   ·refine cf hb ?_
    refine aP (rz tT ⟨[(k66 s_),(k67 f_ u0 u1 u2),(k69 s_),(k31 t8)],[]⟩ {} [] ?_)
    obtain rfl:=oi h
    exact lN
  ·refine cf hb1 ?_
   refine aI (fz ⟨[],[]⟩ []) ?_
   refine aX ?_
   obtain rfl:=oi h
   exact lB
 ·clear hy
  cases y with
  |brk z=>
   unfold fZ
   refine⟨_, .refl, ?_⟩
   refine sz tT ⟨[(4,(vI (-1)))],[]⟩ {} [] ?_
   refine aR ?_
   obtain rfl:=oi h
   exact rl [(sI (-1))]
  |ret v=>
   obtain rfl:=oi h
   unfold fZ
   intro e st hn ha hR
   cases e with
   |normal=>exact absurd rfl hn
   |exit id=>exact hR
   |goto l=>exact hR
   |ret=>exact hR
   |panic c=>exact hR
   |outgrown=>exact hR
def vK  :Bool→Exit→St→Prop:=
  fun r=>bJ TT [.tmp 4] (vB r) []
theorem uE (s_:(List ax)) (f_:Int) (u0:(List Source)) (u1:(List Link)) (u2:(List ax)) {r:Bool} (h:fD s_ f_ u0 u1 u2=some r):Fn Try.prog 139 (k70 s_ f_ u0 u1 u2) [] (vB r) []:=by
 refine fN tT Try.func139 rfl rfl fun B=> ?_
 show bL _ _ _ _ _ _ (vK r) _
 unfold fD at h
 refine sz tT (k71 s_ f_ u0 u1 u2) {} [] ?_
 refine aQ (bE h fun r_ hr_ h=> ?_)
 have q0:=yJ s_ f_ u0 u1 u2 hr_
 refine rg tT (k32 r_) [_] {an:=[(2,cA q0 [])] } [] ⟨q0,trivial⟩ ?_
 refine aR ?_
 obtain rfl:=oi h
 exact rl [(sB (decide (0≤r_)))]
def Hg  :Bool→Exit→St→Prop:=
  fun r=>bJ TT [.tmp 6] (vB r) []
theorem Gf (l:(List ax)) (u0:Int) (u1:Int) (u2:(List Source)) (u3:(List Link)) (u4:(List ax)) {r:Bool} (h:mQ l u0 u1 u2 u3 u4=some r):Fn Try.prog 99 [(sD (k14 l)),(sI u0),(sD (.fn 141 1 (k23 u1 u2 u3 u4)))] [] (vB r) []:=by
 refine fN tT Try.func99 rfl rfl fun B=> ?_
 show bL _ _ _ _ _ _ (Hg r) _
 unfold mQ at h
 refine sz tT ⟨[(k66 l),(1,(vI u0)),(5,(k65 u1 u2 u3 u4))],[]⟩ {fr:=[(0,1)] } [1] ?_
 refine aQ (bE h fun r_ hr_ h=> ?_)
 refine rg tT ⟨[(6,(vB (bif (decide ((l.length:Int)≤u0))then(!r_)else false)))],[]⟩ (eqs (decide ((l.length:Int)≤u0)) 3 ((gP (jP [(4,(decide ((l.length:Int)≤u0)))]) [(4,true)]→All [Fn Try.prog 139 (k70 l u1 u2 u3 u4) [] (vB r_) []])::(eqs (decide ((l.length:Int)≤u0)) 2 []))) {yb:=[(4,(decide ((l.length:Int)≤u0)))],an:=[(7, .call [] (vB r_) [])] } [] (ae ⟨(fun hg=> ⟨(uE l u1 u2 u3 u4 (dZ hr_ (aY hg))),trivial⟩),(ae trivial)⟩) ?_
 refine aR ?_
 obtain rfl:=oi h
 exact rl [(sB (bif (decide ((l.length:Int)≤u0))then(!r_)else false))]
def Jk  :Int→Exit→St→Prop:=
  fun r=>bJ TT [.tmp 2] (vI r) []
theorem q8 (p:ai) {r:Int} (h:jU p=some r):Fn Try.prog 58 (k4 p) [] (vI r) []:=by
 refine fN tT Try.func58 rfl rfl fun B=> ?_
 show bL _ _ _ _ _ _ (Jk r) _
 unfold jU at h
 refine sz tT (k7 p) {fr:=[(0,1)] } [1] ?_
 refine aQ (aB (aQ (bE h fun r_ hr_ h=> ?_)))
 have q0:=aK p.buses 1 24 hr_
 refine rg tT ⟨[(k8 p),(3,(vB (!r_)))],[]⟩ [_] {an:=[(2,cA q0 [])] } [] ⟨q0,trivial⟩ ?_
 refine bI h (fun hb3 h=> ?_) (fun hb3 h=> ?_)
 ·refine ct hb3 ?_
  refine sz tT ⟨[(2,(vI 10))],[]⟩ {} [] ?_
  refine aR ?_
  obtain rfl:=oi h
  exact rl [(sI 10)]
 ·refine cf hb3 ?_
  refine aQ (bE h fun u0 hr_1 h=> ?_)
  refine bE h fun u3 hr_2 h=> ?_
  have q0:=Fz p hr_1
  have q1:=IY p.sources 8 u0.1 u0.2.1 u0.2.2.1 u0.2.2.2 hr_2
  refine dg tT mX ⟨[(k8 p),(8,(vB (!u3)))],[]⟩ [_,_] {an:=[(3,cA q0 []),(4,cA q1 [])] } [] ⟨q0,q1,trivial⟩ ?_
  refine bI h (fun hb2 h=> ?_) (fun hb2 h=> ?_)
  ·refine ct hb2 ?_
   refine sz tT ⟨[(2,(vI 11))],[]⟩ {} [] ?_
   refine aR ?_
   obtain rfl:=oi h
   exact rl [(sI 11)]
  ·refine cf hb2 ?_
   refine aQ (bE h fun u1 hr_3 h=> ?_)
   refine bE h fun u4 hr_4 h=> ?_
   have q0:=Jl p hr_3
   have q1:=FE p.links 40 u1.1 u1.2.1 u1.2.2.1 u1.2.2.2 hr_4
   refine dg tT mX ⟨[(k8 p),(15,(vB (!u4)))],[]⟩ [_,_] {an:=[(3,cA q0 []),(4,cA q1 [])] } [] ⟨q0,q1,trivial⟩ ?_
   refine bI h (fun hb1 h=> ?_) (fun hb1 h=> ?_)
   ·refine ct hb1 ?_
    refine sz tT ⟨[(2,(vI 12))],[]⟩ {} [] ?_
    refine aR ?_
    obtain rfl:=oi h
    exact rl [(sI 12)]
   ·refine cf hb1 ?_
    refine aQ (bE h fun u2 hr_5 h=> ?_)
    refine bE h fun u5 hr_6 h=> ?_
    have q0:=Ju p hr_5
    have q1:=Gf p.racks 24 u2.1 u2.2.1 u2.2.2.1 u2.2.2.2 hr_6
    refine dg tT mX ⟨[(22,(vB (!u5)))],[]⟩ [_,_] {an:=[(3,cA q0 []),(4,cA q1 [])] } [] ⟨q0,q1,trivial⟩ ?_
    refine bI h (fun hb h=> ?_) (fun hb h=> ?_)
    ·refine ct hb ?_
     refine sz tT ⟨[(2,(vI 13))],[]⟩ {} [] ?_
     refine aR ?_
     obtain rfl:=oi h
     exact rl [(sI 13)]
    ·refine cf hb ?_
     refine aP (sz tT ⟨[(2,(vI 0))],[]⟩ {} [] ?_)
     refine aR ?_
     obtain rfl:=oi h
     exact rl [(sI 0)]
def ig  :Int→Exit→St→Prop:=
  fun r=>bJ TT [.tmp 4] (vI r) []
section
variable (s_:State) (p:ai)
abbrev Wm:DV:=(aG none 1 ah s_.closed)
abbrev Q9:DV:=(aG none 1 ah s_.locked)
abbrev SN:DV:=(aG none 1 ah s_.badLink)
abbrev Wd:DV:=(aG none 1 ah s_.on_)
abbrev P6:DV:=(aG none 1 ah s_.badSource)
abbrev Mt:DV:=(aG none 1 ah s_.earthed)
abbrev Od:DV:=(aG none 1 ah s_.badBus)
abbrev k75:DV:=(kH [(Wm s_),(Q9 s_),(SN s_),(Wd s_),(P6 s_),(Mt s_),(Od s_)] 0)
abbrev k74:TV:=(vD (k75 s_))
abbrev lW:Nat × TV:=(3,(k74 s_))
abbrev k84:=(⟨s_.closed,(p.links.length:Int)⟩:dV)
abbrev k85:=(⟨s_.locked,(p.links.length:Int)⟩:dV)
abbrev k86:=(⟨s_.badLink,(p.links.length:Int)⟩:dV)
abbrev k87:=(⟨s_.on_,(p.sources.length:Int)⟩:dV)
abbrev k88:=(⟨s_.badSource,(p.sources.length:Int)⟩:dV)
abbrev k89:=(⟨s_.earthed,p.buses⟩:dV)
abbrev k90:=(⟨s_.badBus,p.buses⟩:dV)
abbrev k83:Nat × TV:=(53,(vO 13 true ([(k84 s_ p),(k85 s_ p),(k86 s_ p),(k87 s_ p),(k88 s_ p),(k89 s_ p),(k90 s_ p)].length)))
abbrev k91:Nat × TV:=(54,(vI ([(k84 s_ p),(k85 s_ p),(k86 s_ p),(k87 s_ p),(k88 s_ p),(k89 s_ p),(k90 s_ p)].length:Int)))
abbrev ZW:Ob:=(.cells 26 (k5 p))
abbrev k93:Nat × Option Ob:=(11,some (ZW p))
abbrev k92:List (Nat × Option Ob):=[(k93 p),(13,some (bg 128 2 dV.cell [(k84 s_ p),(k85 s_ p),(k86 s_ p),(k87 s_ p),(k88 s_ p),(k89 s_ p),(k90 s_ p)]))]
end
def qL (p:ai) (s_:State):Int→St:=
  fun u0=> ⟨[(2,(vP 11 0)),(lW s_),(k83 s_ p),(k91 s_ p),(55,(vI u0))],(k92 s_ p)⟩
section
variable (s_:State) (p:ai)
abbrev k95:St:=⟨[(2,(vP 11 0)),(lW s_)],[(k93 p)]⟩
end
def qU (p:ai) (s_:State):Unit→St:=
  fun _=>(k95 s_ p)
def Bf (p:ai) (s_:State):(aU Int (Ex Unit Int))→Exit→St→Prop:=
  LQ 0 [] (qL p s_) (qU p s_) ig
section
variable (p:ai)
abbrev k96:Nat × TV:=(67,(vD (aG none 6 Link.cell p.links)))
abbrev k97:Nat × TV:=(68,(vI (p.links.length:Int)))
end
def qJ (p:ai) (s_:State):Int→St:=
  fun u0=> ⟨[(lW s_),(k96 p),(k97 p),(69,(vI u0))],[]⟩
def qI  :Unit→St:=
  fun _=> ⟨[],[]⟩
def BD (p:ai) (s_:State):(aU Int (Ex Unit Int))→Exit→St→Prop:=
  LQ 2 [] (qJ p s_) qI ig
section
variable (s_:State) (p:ai) (u1:Int) (u0:Int)
abbrev Vl:List CV:=[(.d (Wm s_)),(.d (Q9 s_)),(.d (SN s_)),(.d (Wd s_)),(.d (P6 s_)),(.d (Mt s_)),(.d (Od s_))]
abbrev k98:List SV:=[(.agg (k5 p)),(.agg (Vl s_))]
abbrev aeA:Ob:=(.cells 29 (Vl s_))
abbrev Y3:List (Nat × Option Ob):=[(k93 p),(12,some (aeA s_))]
abbrev ai2:=(ay dV.cell [(k84 s_ p),(k85 s_ p),(k86 s_ p),(k87 s_ p),(k88 s_ p),(k89 s_ p),(k90 s_ p)])
abbrev ajc:=(at' [(k84 s_ p),(k85 s_ p),(k86 s_ p),(k87 s_ p),(k88 s_ p),(k89 s_ p),(k90 s_ p)] u1.toNat)
abbrev ahq:=((ajc s_ p u1).l)
abbrev aiD:=((ajc s_ p u1).n)
abbrev NG:=((at' p.links u0.toNat).most)
abbrev aei:TV:=(vD (kH [(.int .i64 ((at' p.links u0.toNat).a)),(.int .i64 ((at' p.links u0.toNat).b)),(.int .i64 ((at' p.links u0.toNat).kind)),(.int .i64 (NG p u0)),(.int .i64 ((at' p.links u0.toNat).iR)),(aG none 2 je.cell ((at' p.links u0.toNat).trip))] 0))
abbrev BS:Nat × TV:=(11,(aei p u0))
abbrev NE:=(decide (((at' p.links u0.toNat).kind)=1))
abbrev Qc:=(!(at' s_.closed u0.toNat))
abbrev acz:=(jP [(3,(NE p u0)),(10,(Qc s_ u0))])
end
theorem dL (p:ai) (s_:State) {r:Int} (h:dD p s_=some r):Fn Try.prog 12 (k98 s_ p) [] (vI r) []:=by
 refine fN tT Try.func12 rfl rfl fun B=> ?_
 show bL _ _ _ _ _ _ (ig r) _
 unfold dD at h
 refine sz tT ⟨[(2,(vP 11 0)),(3,(vP 12 0))],(Y3 s_ p)⟩ {fr:=[(0,11),(1,12)] } [] ?_
 refine aQ (aQ (bE h fun r_ hr_ h=> ?_))
 have q0:=q8 p hr_
 refine rg tT ⟨[(2,(vP 11 0)),(3,(vP 12 0)),(5,(vI r_))],(Y3 s_ p)⟩ [_] {an:=[(1,cA q0 [])] } [] ⟨q0,trivial⟩ ?_
 refine sz tT ⟨[(2,(vP 11 0)),(3,(vP 12 0)),(5,(vI r_)),(15,(vB (!decide (r_=0))))],(Y3 s_ p)⟩ {} [] ?_
 refine bI h (fun hb4 h=> ?_) (fun hb4 h=> ?_)
 ·refine ct hb4 ?_
  refine sz tT ⟨[(4,(vI r_))],[]⟩ {} [] ?_
  refine aR ?_
  obtain rfl:=oi h
  exact rl [(sI r_)]
 ·refine cf hb4 ?_
  refine aP (sd tT mX ⟨[(2,(vP 11 0)),(3,(vP 12 0)),(6,(vI (p.links.length:Int))),(7,(vI (p.sources.length:Int)))],(Y3 s_ p)⟩ [] {} [] trivial ?_)
  refine aQ (sg tT ⟨[(2,(vP 11 0)),(lW s_),(k83 s_ p),(k91 s_ p),(55,(vI 0))],(k92 s_ p)⟩ [[(k84 s_ p),(k85 s_ p),(k86 s_ p),(k87 s_ p),(k88 s_ p),(k89 s_ p),(k90 s_ p)].length=7,aC 7 2 (jG 2 [(Wm s_),(.int .i64 (p.links.length:Int)),(Q9 s_),(.int .i64 (p.links.length:Int)),(SN s_),(.int .i64 (p.links.length:Int)),(Wd s_),(.int .i64 (p.sources.length:Int)),(P6 s_),(.int .i64 (p.sources.length:Int)),(Mt s_),(.int .i64 p.buses),(Od s_),(.int .i64 p.buses)]) (ai2 s_ p)] {an:=[(30, .arr [(k84 s_ p),(k85 s_ p),(k86 s_ p),(k87 s_ p),(k88 s_ p),(k89 s_ p),(k90 s_ p)].length (ai2 s_ p))],fr:=[(30,13)] } [12] ⟨(rfl),((by intro i hi j hj;match i,j,hi,hj with|0,0,_,_=>rfl|0,1,_,_=>rfl|1,0,_,_=>rfl|1,1,_,_=>rfl|2,0,_,_=>rfl|2,1,_,_=>rfl|3,0,_,_=>rfl|3,1,_,_=>rfl|4,0,_,_=>rfl|4,1,_,_=>rfl|5,0,_,_=>rfl|5,1,_,_=>rfl|6,0,_,_=>rfl|6,1,_,_=>rfl)),trivial⟩ ?_)
  refine bE h fun y hy h=> ?_
  refine aL [] (qL p s_) (qU p s_) ig hy (fun s f h=> ?_) ?_
  ·clear hy
   show bL _ _ _ _ _ _ ((Bf p s_) f) _
   unfold gJ at h
   obtain⟨u1,rfl⟩: ∃q,q=s:=⟨_,rfl⟩
   refine sz tT ⟨[(2,(vP 11 0)),(lW s_),(k83 s_ p),(k91 s_ p),(55,(vI u1)),(56,(vB (decide (u1<([(k84 s_ p),(k85 s_ p),(k86 s_ p),(k87 s_ p),(k88 s_ p),(k89 s_ p),(k90 s_ p)].length:Int)))))],(k92 s_ p)⟩ {} [] ?_
   refine aQ ?_
   refine bI h (fun hb1 h=> ?_) (fun hb1 h=> ?_)
   ·refine ct hb1 ?_
    refine aP (aQ (aB (aQ (aO h fun a1 h=> ?_))))
    refine rg tT ⟨[(2,(vP 11 0)),(lW s_),(9,(vD (kH [(aG none 1 ah (ahq s_ p u1)),(.int .i64 (aiD s_ p u1))] 0))),(k83 s_ p),(k91 s_ p),(55,(vI u1))],(k92 s_ p)⟩ [_,_] {fr:=[(2,17)] } [17] ⟨a1,(tL a1),trivial⟩ ?_
    refine sz tT ⟨[(2,(vP 11 0)),(lW s_),(k83 s_ p),(k91 s_ p),(55,(vI u1)),(64,(vB (!decide (((ahq s_ p u1).length:Int)=(aiD s_ p u1)))))],(k92 s_ p)⟩ {} [] ?_
    refine bI h (fun hb h=> ?_) (fun hb h=> ?_)
    ·refine ct hb ?_
     refine sz tT ⟨[(4,(vI 9))],[]⟩ {} [] ?_
     refine aR ?_
     obtain rfl:=oi h
     exact lR fQ (fT 0) fU (bJ.mk (.inr rfl) (p:=[]) (l:=[(sI 9)]) (by kernel_rfl) trivial (eX.refl _) trivial)
    ·refine cf hb ?_
     refine aP (rz tT ⟨[(2,(vP 11 0)),(lW s_),(k83 s_ p),(k91 s_ p),(55,(k3 u1))],(k92 s_ p)⟩ {} [] ?_)
     obtain rfl:=oi h
     exact lN
   ·refine cf hb1 ?_
    refine aI (fz (k95 s_ p) []) ?_
    refine aX ?_
    obtain rfl:=oi h
    exact lB
  ·clear hy
   cases y with
   |brk z=>
    unfold fZ
    refine⟨_, .refl, ?_⟩
    refine aQ (sz tT ⟨[(lW s_),(k96 p),(k97 p),(69,(vI 0))],[]⟩ {} [] ?_)
    refine bE h fun y1 hy h=> ?_
    refine aL [] (qJ p s_) qI ig hy (fun s f h=> ?_) ?_
    ·clear hy
     show bL _ _ _ _ _ _ ((BD p s_) f) _
     unfold gM at h
     obtain⟨u0,rfl⟩: ∃q,q=s:=⟨_,rfl⟩
     refine sz tT ⟨[(lW s_),(k96 p),(k97 p),(69,(vI u0)),(70,(vB (decide (u0<(p.links.length:Int)))))],[]⟩ {} [] ?_
     refine aQ ?_
     refine bI h (fun hb3 h=> ?_) (fun hb3 h=> ?_)
     ·refine ct hb3 ?_
      refine aP (aQ (aB (aQ (aO h fun a1 h=> ?_))))
      refine rg tT ⟨[(lW s_),(10,(vI u0)),(BS p u0),(k96 p),(k97 p),(69,(vI u0))],[]⟩ [_] {fr:=[(3,21)] } [21] ⟨a1,trivial⟩ ?_
      refine aQ (aO h fun⟨a1,a2⟩ h=> ?_)
      refine rg tT ⟨[(lW s_),(k96 p),(k97 p),(69,(vI u0)),(91,(vB (bif (NE p u0)then(bif (Qc s_ u0)then true else(at' s_.locked u0.toNat))else false)))],[]⟩ (eqs (NE p u0) 4 ((gP (acz s_ p u0) [(3,true)]→All [(0:Int)≤u0∧u0<(s_.closed.length:Int)])::(eqs (NE p u0) 3 (eqs (Qc s_ u0) 4 [gP (acz s_ p u0) [(10,false),(3,true)]→All [(0:Int)≤u0∧u0<(s_.locked.length:Int)],(Qc s_ u0)=(Qc s_ u0),(NE p u0)=(NE p u0),gP (acz s_ p u0) [(3,true)]→All [(Qc s_ u0)=(Qc s_ u0)],(NE p u0)=(NE p u0)])))) {yb:=[(3,(NE p u0)),(10,(Qc s_ u0))] } [] (ae ⟨(fun hg=> ⟨(a1 (aY hg)),trivial⟩),(ae (ae ⟨(fun hg=> ⟨(a2 (aY hg)),trivial⟩),rfl,rfl,(fun hg=> ⟨rfl,trivial⟩),rfl,trivial⟩))⟩) ?_
      refine bI h (fun hb2 h=> ?_) (fun hb2 h=> ?_)
      ·refine ct hb2 ?_
       refine sz tT ⟨[(4,(vI 9))],[]⟩ {} [] ?_
       refine aR ?_
       obtain rfl:=oi h
       exact lR fQ (fT 2) fU (bJ.mk (.inr rfl) (p:=[]) (l:=[(sI 9)]) (by kernel_rfl) trivial (eX.refl _) trivial)
      ·refine cf hb2 ?_
       refine aP (rz tT ⟨[(lW s_),(k96 p),(k97 p),(69,(k3 u0))],[]⟩ {} [] ?_)
       obtain rfl:=oi h
       exact lN
     ·refine cf hb3 ?_
      refine aI (fz ⟨[],[]⟩ []) ?_
      refine aX ?_
      obtain rfl:=oi h
      exact lB
    ·clear hy
     cases y1 with
     |brk z=>
      unfold fZ
      refine⟨_, .refl, ?_⟩
      refine sz tT ⟨[(4,(vI 0))],[]⟩ {} [] ?_
      refine aR ?_
      obtain rfl:=oi h
      exact rl [(sI 0)]
     |ret v=>
      obtain rfl:=oi h
      unfold fZ
      intro e st hn ha hR
      cases e with
      |normal=>exact absurd rfl hn
      |exit id=>exact hR
      |goto l=>exact hR
      |ret=>exact hR
      |panic c=>exact hR
      |outgrown=>exact hR
   |ret v=>
    obtain rfl:=oi h
    unfold fZ
    intro e st hn ha hR
    cases e with
    |normal=>exact absurd rfl hn
    |exit id=>exact hR
    |goto l=>exact hR
    |ret=>exact hR
    |panic c=>exact hR
    |outgrown=>exact hR
def KX  :Bool→Exit→St→Prop:=
  fun r=>bJ TT [.tmp 6] (vB r) []
section
variable (p:ai) (s_:State) (k:Int)
abbrev Tn:List SV:=[(.agg (k5 p)),(.agg (Vl s_)),(sI k)]
abbrev bU:Nat × TV:=(3,(k9 p))
abbrev bO:Nat × TV:=(4,(k74 s_))
abbrev VY:=(bif (at' s_.on_ k.toNat)then(!(at' s_.badSource k.toNat))else false)
abbrev agD:=(bif (VY s_ k)then(!(at' s_.badBus (((at' p.sources k.toNat).bus).toNat)))else false)
abbrev aeF:=(jP [(5,(at' s_.on_ k.toNat)),(13,(VY s_ k))])
end
theorem fF (p:ai) (s_:State) (k:Int) {r:Bool} (h:iW p s_ k=some r):Fn Try.prog 65 (Tn p s_ k) [] (vB r) []:=by
 refine fN tT Try.func65 rfl rfl fun B=> ?_
 show bL _ _ _ _ _ _ (KX r) _
 unfold iW at h
 refine sz tT ⟨[(2,(vI k)),(bU p),(bO s_)],[]⟩ {fr:=[(0,2),(1,3)] } [2,3] ?_
 refine aQ (aO h fun⟨a1,a2,a3,a4⟩ h=> ?_)
 refine dg tT mX ⟨[(6,(vB (agD p s_ k)))],[]⟩ (_::(eqs (at' s_.on_ k.toNat) 4 ((gP (aeF s_ k) [(5,true)]→All [(0:Int)≤k∧k<(s_.badSource.length:Int)])::(eqs (at' s_.on_ k.toNat) 3 (eqs (VY s_ k) 6 ((gP (aeF s_ k) [(13,true)]→All [(0:Int)≤k∧k<(p.sources.length:Int)])::(eqs (VY s_ k) 3 ((gP (aeF s_ k) [(13,true)]→All [(0:Int)≤(at' p.sources k.toNat).bus∧(at' p.sources k.toNat).bus<(s_.badBus.length:Int)])::(eqs (VY s_ k) 3 []))))))))) {yb:=[(5,(at' s_.on_ k.toNat)),(13,(VY s_ k))] } [] ⟨a1,(ae ⟨(fun hg=> ⟨(a2 (aY hg)),trivial⟩),(ae (ae ⟨(fun hg=> ⟨(a3 (aY hg)),trivial⟩),(ae ⟨(fun hg=> ⟨(a4 (aY hg)),trivial⟩),(ae trivial)⟩)⟩))⟩)⟩ ?_
 refine aR ?_
 obtain rfl:=oi h
 exact rl [(sB (agD p s_ k))]
def FZ  :Bool→Exit→St→Prop:=
  fun r=>bJ TT [.tmp 6] (vB r) []
section
variable (s_:State) (i:Int) (p:ai)
abbrev Yf:=(bif (at' s_.closed i.toNat)then(!(at' s_.badLink i.toNat))else false)
abbrev XR:=(bif (Yf s_ i)then(!(at' s_.badBus (((at' p.links i.toNat).a).toNat)))else false)
abbrev akl:=(bif (XR s_ i p)then(!(at' s_.badBus (((at' p.links i.toNat).b).toNat)))else false)
abbrev adI:=(jP [(5,(at' s_.closed i.toNat)),(13,(Yf s_ i)),(22,(XR s_ i p))])
end
theorem dP (p:ai) (s_:State) (i:Int) {r:Bool} (h:eH p s_ i=some r):Fn Try.prog 78 (Tn p s_ i) [] (vB r) []:=by
 refine fN tT Try.func78 rfl rfl fun B=> ?_
 show bL _ _ _ _ _ _ (FZ r) _
 unfold eH at h
 refine sz tT ⟨[(2,(vI i)),(3,(vP 3 0)),(bO s_)],[(3,some (ZW p))]⟩ {fr:=[(0,3),(1,4)] } [4] ?_
 refine aQ (aO h fun a1 h=> ?_)
 refine rg tT ⟨[(2,(vI i)),(bO s_),(7,(aei p i))],[]⟩ [_] {fr:=[(5,5)] } [5] ⟨a1,trivial⟩ ?_
 refine aQ (aO h fun⟨a1,a2,a3,a4⟩ h=> ?_)
 refine rg tT ⟨[(6,(vB (akl s_ i p)))],[]⟩ (_::(eqs (at' s_.closed i.toNat) 4 ((gP (adI s_ i p) [(5,true)]→All [(0:Int)≤i∧i<(s_.badLink.length:Int)])::(eqs (at' s_.closed i.toNat) 3 (eqs (Yf s_ i) 5 ((gP (adI s_ i p) [(13,true)]→All [(0:Int)≤(at' p.links i.toNat).a∧(at' p.links i.toNat).a<(s_.badBus.length:Int)])::(eqs (Yf s_ i) 3 (eqs (XR s_ i p) 5 ((gP (adI s_ i p) [(22,true)]→All [(0:Int)≤(at' p.links i.toNat).b∧(at' p.links i.toNat).b<(s_.badBus.length:Int)])::(eqs (XR s_ i p) 3 [])))))))))) {yb:=[(5,(at' s_.closed i.toNat)),(13,(Yf s_ i)),(22,(XR s_ i p))] } [] ⟨a1,(ae ⟨(fun hg=> ⟨(a2 (aY hg)),trivial⟩),(ae (ae ⟨(fun hg=> ⟨(a3 (aY hg)),trivial⟩),(ae (ae ⟨(fun hg=> ⟨(a4 (aY hg)),trivial⟩),(ae trivial)⟩))⟩))⟩)⟩ ?_
 refine aR ?_
 obtain rfl:=oi h
 exact rl [(sB (akl s_ i p))]
def Ag  :(List Int)→Exit→St→Prop:=
  fun r=>bJ TT [.tmp 2] (vO 0 false r.length) [(0,some (bg 3 1 (au .i64) r))]
abbrev Ye:Ob:=(bg 3 1 (au .i64) ([]:List Int))
theorem o8 (s_:(List Int)) (u0:Bool) {r:(List Int)} (h:pV s_ u0=some r):Fn Try.prog 112 [(sD (aG (some u0) 1 (au .i64) s_))] [] (vO 0 false r.length) [(0,some (bg 3 1 (au .i64) r))]:=by
 refine fN tT Try.func112 rfl rfl fun B=> ?_
 show bL _ _ _ _ _ _ (Ag r) _
 unfold pV at h
 refine sz tT ⟨[(0,(vD (aG (some u0) 1 (au .i64) s_)))],[]⟩ {} [] ?_
 refine aQ (sz tT ⟨[(0,(vD (aG (some u0) 1 (au .i64) s_))),(4,(vB (!u0)))],[]⟩ {} [] ?_)
 refine bI h (fun hb h=> ?_) (fun hb h=> ?_)
 ·refine ct hb ?_
  refine sz tT ⟨[(2,(vD nS))],[]⟩ {} [] ?_
  refine aI (.trans (bB.MQ (t:=2) (b:=2) (esz0:=0) (el0:=fun _ _=> .nilp) (E:=3) (esz:=1) (el:=ay (au .i64) ([]:List Int)) (by kernel_rfl) (by kernel_rfl)) (.trans (bB.fin (st':=⟨[(2,(vO 0 false 0))],[(0,some (.arr 3 1 0 (ay (au .i64) ([]:List Int))))]⟩) (cs:=[]) ⟨[],[(2,0)]⟩ [2] (by kernel_rfl) trivial) (bB.le (st':=⟨[(2,(vO 0 false (([]:List Int).length)))],[(0,some Ye)]⟩) ⟨⟨⟨_,rfl,eX.v (eO.one cW)⟩,trivial⟩,⟨rfl,oW,trivial⟩⟩))) ?_
  refine aR ?_
  obtain rfl:=oi h
  exact rl [(.one (.own 0 false (([]:List Int).length)))]
 ·refine cf hb ?_
  refine aP (aQ (aO h fun⟨a1,a2⟩ h=> ?_))
  refine rg tT ⟨[(2,(vO 4 false ((([]:List Int)++s_).length)))],[(4,some (bg 3 1 (au .i64) (([]:List Int)++s_)))]⟩ [([]:List Int).length=0,aC 0 1 (jG 1 []) (ay (au .i64) ([]:List Int)),([]:List Int).length=([]:List Int).length,_,_,(([]:List Int)++s_).length=([]:List Int).length+s_.length,aC (([]:List Int).length+s_.length) 1 (Dn (ay (au .i64) ([]:List Int)) ([]:List Int).length (ay (au .i64) s_)) (ay (au .i64) (([]:List Int)++s_))] {an:=[(0, .arr ([]:List Int).length (ay (au .i64) ([]:List Int))),(2, .arr (([]:List Int)++s_).length (ay (au .i64) (([]:List Int)++s_)))],fr:=[(0,3),(2,4)] } [] ⟨(rfl),((fun i hi=>absurd hi (Nat.not_lt_zero i))),rfl,a1,a2,(List.length_append),(jY _ _ _ _),trivial⟩ ?_
  refine aI (bB.fin (st':=⟨[(2,(vO 0 false ((([]:List Int)++s_).length)))],[(0,some (bg 3 1 (au .i64) (([]:List Int)++s_)))]⟩) (cs:=[]) ⟨[],[(4,0)]⟩ [2] (by kernel_rfl) trivial) ?_
  refine aR ?_
  obtain rfl:=oi h
  exact rl [(.one (.own 0 false ((([]:List Int)++s_).length)))]
theorem wU (s:(List Int)) {r:(List Int)} (h:tC s=some r):Fn Try.prog 112 [(sD (aG none 1 (au .i64) s))] [] (vO 0 false r.length) [(0,some (bg 3 1 (au .i64) r))]:=by
 refine Fn.nn (o8 s true h) fun hl=> ?_
 have hs:s=[]:=List.eq_nil_of_length_eq_zero hl
 subst hs
 exact o8 [] false (by rw [←h];kernel_rfl)
def LJ  :Bool→Exit→St→Prop:=
  fun r=>bJ TT [.tmp 2] (vB r) []
theorem Cj (x:Int) {r:Bool} (h:xX x=some r):Fn Try.prog 154 [(sI x)] [] (vB r) []:=by
 refine fN tT Try.func154 rfl rfl fun B=> ?_
 show bL _ _ _ _ _ _ (LJ r) _
 unfold xX at h
 refine sz tT ⟨[(0,(vI x))],[]⟩ {} [] ?_
 refine sz tT ⟨[(2,(vB (!decide (x=x))))],[]⟩ {} [] ?_
 refine aR ?_
 obtain rfl:=oi h
 exact rl [(sB (!decide (x=x)))]
def Jg  :Int→Exit→St→Prop:=
  fun r=>bJ TT [.tmp 4] (vI r) []
theorem Ii (x:Int) (y:Int) {r:Int} (h:yw x y=some r):Fn Try.prog 145 [(sI x),(sI y)] [] (vI r) []:=by
 refine fN tT Try.func145 rfl rfl fun B=> ?_
 show bL _ _ _ _ _ _ (Jg r) _
 unfold yw at h
 refine sz tT ⟨[(0,(vI x)),(1,(vI y))],[]⟩ {} [] ?_
 refine aQ (bE h fun r_ hr_ h=> ?_)
 have q0:=Cj x hr_
 refine rg tT ⟨[(0,(vI x)),(1,(vI y)),(5,(vB r_))],[]⟩ [_] {an:=[(1,cA q0 [])] } [] ⟨q0,trivial⟩ ?_
 refine aQ (bE h fun u0 hr_1 h=> ?_)
 have q0:=Cj y hr_1
 refine rg tT ⟨[(0,(vI x)),(1,(vI y)),(5,(vB r_)),(6,(vB u0))],[]⟩ [_] {an:=[(1,cA q0 [])] } [] ⟨q0,trivial⟩ ?_
 refine aQ (sz tT ⟨[(0,(vI x)),(1,(vI y)),(6,(vB u0)),(11,(vB r_))],[]⟩ {} [] ?_)
 refine bI h (fun hb4 h=> ?_) (fun hb4 h=> ?_)
 ·refine ct hb4 ?_
  refine aQ (sz tT ⟨[(12,(vB u0))],[]⟩ {} [] ?_)
  refine bI h (fun hb h=> ?_) (fun hb h=> ?_)
  ·refine ct hb ?_
   refine sz tT ⟨[(4,(vI 0))],[]⟩ {} [] ?_
   refine aR ?_
   obtain rfl:=oi h
   exact rl [(sI 0)]
  ·refine cf hb ?_
   refine aP (sz tT ⟨[(4,(vI (-1)))],[]⟩ {} [] ?_)
   refine aR ?_
   obtain rfl:=oi h
   exact rl [(sI (-1))]
 ·refine cf hb4 ?_
  refine aP (aQ (sz tT ⟨[(0,(vI x)),(1,(vI y)),(13,(vB u0))],[]⟩ {} [] ?_))
  refine bI h (fun hb3 h=> ?_) (fun hb3 h=> ?_)
  ·refine ct hb3 ?_
   refine sz tT ⟨[(4,(vI 1))],[]⟩ {} [] ?_
   refine aR ?_
   obtain rfl:=oi h
   exact rl [(sI 1)]
  ·refine cf hb3 ?_
   refine aP (aQ (sz tT ⟨[(0,(vI x)),(1,(vI y)),(16,(vB (decide (x<y))))],[]⟩ {} [] ?_))
   refine bI h (fun hb2 h=> ?_) (fun hb2 h=> ?_)
   ·refine ct hb2 ?_
    refine sz tT ⟨[(4,(vI (-1)))],[]⟩ {} [] ?_
    refine aR ?_
    obtain rfl:=oi h
    exact rl [(sI (-1))]
   ·refine cf hb2 ?_
    refine aP (aQ (sz tT ⟨[(19,(vB (decide (y<x))))],[]⟩ {} [] ?_))
    refine bI h (fun hb1 h=> ?_) (fun hb1 h=> ?_)
    ·refine ct hb1 ?_
     refine sz tT ⟨[(4,(vI 1))],[]⟩ {} [] ?_
     refine aR ?_
     obtain rfl:=oi h
     exact rl [(sI 1)]
    ·refine cf hb1 ?_
     refine aP (sz tT ⟨[(4,(vI 0))],[]⟩ {} [] ?_)
     refine aR ?_
     obtain rfl:=oi h
     exact rl [(sI 0)]
def oL  :Int→Exit→St→Prop:=
  fun r=>bJ TT [.tmp 4] (vI r) []
section
variable (s1:(List Int)) (s2:(List Int))
abbrev zR:DV:=(aG none 1 (au .i64) s1)
abbrev kP:Nat × TV:=(0,(vD (zR s1)))
abbrev DC:Nat × TV:=(1,(vD (zR s2)))
abbrev Oj:Nat × TV:=(9,(vD (zR s1)))
abbrev NC:Nat × TV:=(10,(vI (s1.length:Int)))
end
def tq (s1:(List Int)) (s2:(List Int)):Int→St:=
  fun u0=> ⟨[(kP s1),(DC s2),(Oj s1),(NC s1),(11,(vI u0))],[]⟩
section
variable (s1:(List Int)) (s2:(List Int))
abbrev Y6:St:=⟨[(kP s1),(DC s2)],[]⟩
end
def tF (s1:(List Int)) (s2:(List Int)):Unit→St:=
  fun _=>(Y6 s1 s2)
def DU (s1:(List Int)) (s2:(List Int)):(aU Int (Ex Unit Int))→Exit→St→Prop:=
  LQ 0 [] (tq s1 s2) (tF s1 s2) oL
section
variable (u0:Int) (s1:(List Int))
abbrev WN:TV:=(vB (decide (u0<(s1.length:Int))))
end
theorem DY (s1:(List Int)) (s2:(List Int)) {r:Int} (h:rf s1 s2=some r):Fn Try.prog 111 [(sD (zR s1)),(sD (zR s2))] [] (vI r) []:=by
 refine fN tT Try.func111 rfl rfl fun B=> ?_
 show bL _ _ _ _ _ _ (oL r) _
 unfold rf at h
 refine sz tT (Y6 s1 s2) {} [] ?_
 refine aQ (sz tT ⟨[(kP s1),(DC s2),(Oj s1),(NC s1),(11,(vI 0))],[]⟩ {} [] ?_)
 refine bE h fun y hy h=> ?_
 refine aL [] (tq s1 s2) (tF s1 s2) oL hy (fun s f h=> ?_) ?_
 ·clear hy
  show bL _ _ _ _ _ _ ((DU s1 s2) f) _
  unfold tV at h
  obtain⟨u0,rfl⟩: ∃q,q=s:=⟨_,rfl⟩
  refine sz tT ⟨[(kP s1),(DC s2),(Oj s1),(NC s1),(11,(vI u0)),(12,(WN u0 s1))],[]⟩ {} [] ?_
  refine aQ ?_
  refine bI h (fun hb2 h=> ?_) (fun hb2 h=> ?_)
  ·refine ct hb2 ?_
   refine aP (aQ (aB (aQ (aO h fun a1 h=> ?_))))
   refine rg tT ⟨[(kP s1),(DC s2),(5,(vI u0)),(6,(vI (at' s1 u0.toNat))),(Oj s1),(NC s1),(11,(vI u0))],[]⟩ [_] {} [] ⟨a1,trivial⟩ ?_
   refine aQ (sz tT ⟨[(kP s1),(DC s2),(5,(vI u0)),(6,(vI (at' s1 u0.toNat))),(Oj s1),(NC s1),(11,(vI u0)),(19,(vB (decide ((s2.length:Int)≤u0))))],[]⟩ {} [] ?_)
   refine bI h (fun hb1 h=> ?_) (fun hb1 h=> ?_)
   ·refine ct hb1 ?_
    refine sz tT ⟨[(4,(vI 1))],[]⟩ {} [] ?_
    refine aR ?_
    obtain rfl:=oi h
    exact lR fQ (fT 0) fU (bJ.mk (.inr rfl) (p:=[]) (l:=[(sI 1)]) (by kernel_rfl) trivial (eX.refl _) trivial)
   ·refine cf hb1 ?_
    refine aP (aQ (aO h fun a1 h=> ?_))
    refine rg tT ⟨[(kP s1),(DC s2),(6,(vI (at' s1 u0.toNat))),(7,(vI (at' s2 u0.toNat))),(Oj s1),(NC s1),(11,(vI u0))],[]⟩ [_] {} [] ⟨a1,trivial⟩ ?_
    refine aQ (bE h fun r_ hr_ h=> ?_)
    have q0:=Ii (at' s1 u0.toNat) (at' s2 u0.toNat) hr_
    refine rg tT ⟨[(kP s1),(DC s2),(8,(vI r_)),(Oj s1),(NC s1),(11,(vI u0))],[]⟩ [_] {an:=[(2,cA q0 [])] } [] ⟨q0,trivial⟩ ?_
    refine sz tT ⟨[(kP s1),(DC s2),(8,(vI r_)),(Oj s1),(NC s1),(11,(vI u0)),(28,(vB (!decide (r_=0))))],[]⟩ {} [] ?_
    refine bI h (fun hb h=> ?_) (fun hb h=> ?_)
    ·refine ct hb ?_
     refine sz tT ⟨[(4,(vI r_))],[]⟩ {} [] ?_
     refine aR ?_
     obtain rfl:=oi h
     exact lR fQ (fT 0) fU (bJ.mk (.inr rfl) (p:=[]) (l:=[(sI r_)]) (by kernel_rfl) trivial (eX.refl _) trivial)
    ·refine cf hb ?_
     refine aP (rz tT ⟨[(kP s1),(DC s2),(Oj s1),(NC s1),(11,(k3 u0))],[]⟩ {} [] ?_)
     obtain rfl:=oi h
     exact lN
  ·refine cf hb2 ?_
   refine aI (fz (Y6 s1 s2) []) ?_
   refine aX ?_
   obtain rfl:=oi h
   exact lB
 ·clear hy
  cases y with
  |brk z=>
   unfold fZ
   refine⟨_, .refl, ?_⟩
   refine aQ (sz tT ⟨[(35,(vB (decide ((s1.length:Int)<(s2.length:Int)))))],[]⟩ {} [] ?_)
   refine bI h (fun hb3 h=> ?_) (fun hb3 h=> ?_)
   ·refine ct hb3 ?_
    refine sz tT ⟨[(4,(vI (-1)))],[]⟩ {} [] ?_
    refine aR ?_
    obtain rfl:=oi h
    exact rl [(sI (-1))]
   ·refine cf hb3 ?_
    refine aP (sz tT ⟨[(4,(vI 0))],[]⟩ {} [] ?_)
    refine aR ?_
    obtain rfl:=oi h
    exact rl [(sI 0)]
  |ret v=>
   obtain rfl:=oi h
   unfold fZ
   intro e st hn ha hR
   cases e with
   |normal=>exact absurd rfl hn
   |exit id=>exact hR
   |goto l=>exact hR
   |ret=>exact hR
   |panic c=>exact hR
   |outgrown=>exact hR
def EI  :Int→Exit→St→Prop:=
  fun r=>bJ TT [.tmp 2] (vI r) []
section
variable (u0:(List Int))
abbrev V7:Nat × TV:=(6,(vD (zR u0)))
abbrev pz:Nat × TV:=(7,(vI (u0.length:Int)))
end
def Ir (u0:(List Int)):Int→St:=
  fun t8=> ⟨[(3,(vI 0)),(V7 u0),(pz u0),(8,(vI t8))],[]⟩
def Iy  :Unit→St:=
  fun _=> ⟨[(3,(vI 0))],[]⟩
def O4 (u0:(List Int)):(aU Int (Ex Unit Int))→Exit→St→Prop:=
  LQ 0 [] (Ir u0) Iy EI
section
variable (t8:Int) (u0:(List Int))
abbrev WG:Nat × TV:=(9,(WN t8 u0))
end
theorem OQ (u0:(List Int)) {r:Int} (h:Kj u0=some r):Fn Try.prog 110 [(sD (zR u0))] [] (vI r) []:=by
 refine fN tT Try.func110 rfl rfl fun B=> ?_
 show bL _ _ _ _ _ _ (EI r) _
 unfold Kj at h
 refine sz tT ⟨[(kP u0)],[]⟩ {} [] ?_
 refine sz tT ⟨[(kP u0),(3,(vI 0))],[]⟩ {} [] ?_
 refine aQ (sz tT ⟨[(3,(vI 0)),(V7 u0),(pz u0),(8,(vI 0))],[]⟩ {} [] ?_)
 refine bE h fun y hy h=> ?_
 refine aL [] (Ir u0) Iy EI hy (fun s f h=> ?_) ?_
 ·clear hy
  show bL _ _ _ _ _ _ ((O4 u0) f) _
  unfold IQ at h
  obtain⟨t8,rfl⟩: ∃q,q=s:=⟨_,rfl⟩
  refine sz tT ⟨[(3,(vI 0)),(V7 u0),(pz u0),(8,(vI t8)),(WG t8 u0)],[]⟩ {} [] ?_
  refine aQ ?_
  refine bI h (fun hb1 h=> ?_) (fun hb1 h=> ?_)
  ·refine ct hb1 ?_
   refine aP (aQ (aB (aQ (aO h fun a1 h=> ?_))))
   refine rg tT ⟨[(3,(vI 0)),(5,(vI (at' u0 t8.toNat))),(V7 u0),(pz u0),(8,(vI t8))],[]⟩ [_] {} [] ⟨a1,trivial⟩ ?_
   refine sz tT ⟨[(3,(vI 0)),(5,(vI (at' u0 t8.toNat))),(V7 u0),(pz u0),(8,(vI t8)),(14,(vB (!decide ((at' u0 t8.toNat)=0))))],[]⟩ {} [] ?_
   refine bI h (fun hb h=> ?_) (fun hb h=> ?_)
   ·refine ct hb ?_
    refine sz tT ⟨[(2,(vI (at' u0 t8.toNat)))],[]⟩ {} [] ?_
    refine aR ?_
    obtain rfl:=oi h
    exact lR fQ (fT 0) fU (bJ.mk (.inr rfl) (p:=[]) (l:=[(sI (at' u0 t8.toNat))]) (by kernel_rfl) trivial (eX.refl _) trivial)
   ·refine cf hb ?_
    refine aP (rz tT ⟨[(3,(vI 0)),(V7 u0),(pz u0),(k31 t8)],[]⟩ {} [] ?_)
    obtain rfl:=oi h
    exact lN
  ·refine cf hb1 ?_
   refine aI (fz ⟨[(3,(vI 0))],[]⟩ []) ?_
   refine aX ?_
   obtain rfl:=oi h
   exact lB
 ·clear hy
  cases y with
  |brk z=>
   unfold fZ
   refine⟨_, .refl, ?_⟩
   refine sz tT ⟨[(2,(vI 0))],[]⟩ {} [] ?_
   refine aR ?_
   obtain rfl:=oi h
   exact rl [(sI 0)]
  |ret v=>
   obtain rfl:=oi h
   unfold fZ
   intro e st hn ha hR
   cases e with
   |normal=>exact absurd rfl hn
   |exit id=>exact hR
   |goto l=>exact hR
   |ret=>exact hR
   |panic c=>exact hR
   |outgrown=>exact hR
def Jy  :Bool→Exit→St→Prop:=
  fun r=>bJ TT [.tmp 4] (vB r) []
section
variable (a:Way) (b:Way) (r_:Int)
abbrev Lr:=(IntKind.wrap .i64 (a.iR - b.iR))
abbrev LB:=(IntKind.wrap .i64 ((a.links.length:Int) - (b.links.length:Int)))
abbrev aiX:=(ay (au .i64) [(Lr a b),(LB a b),r_])
abbrev ai0:List (Nat × Option Ob):=[(6,some (bg 3 1 (au .i64) [(Lr a b),(LB a b),r_]))]
end
theorem Hq (a:Way) (b:Way) {r:Bool} (h:yx a b=some r):Fn Try.prog 109 [(.agg [(cB a.there),(cI a.iR),(.d (aG none 1 (au .i64) a.links))]),(.agg [(cB b.there),(cI b.iR),(.d (aG none 1 (au .i64) b.links))])] [] (vB r) []:=by
 refine fN tT Try.func109 rfl rfl fun B=> ?_
 show bL _ _ _ _ _ _ (Jy r) _
 unfold yx at h
 refine sz tT ⟨[(2,(vD (kH [(.bool a.there),(.int .i64 a.iR),(aG none 1 (au .i64) a.links)] 0))),(3,(vD (kH [(.bool b.there),(.int .i64 b.iR),(aG none 1 (au .i64) b.links)] 0)))],[]⟩ {fr:=[(0,4),(1,5)] } [4,5] ?_
 refine aQ ?_
 refine bI h (fun hb h=> ?_) (fun hb h=> ?_)
 ·skip
  refine di tT mX ⟨[(4,(vB (bif (!b.there)then true else false)))],[]⟩ [(!b.there)=true, ¬ gP (jP [(3,true)]) [(3,false)],(!b.there)=true, ¬ gP (jP [(3,true)]) [(3,false)],(!b.there)=true, ¬ gP (jP [(3,true)]) [(3,false)],(!b.there)=true, ¬ gP (jP [(3,true)]) [(3,false)],(!b.there)=true, ¬ gP (jP [(3,true)]) [(3,false)],(!b.there)=true, ¬ gP (jP [(3,true)]) [(3,false)],(!b.there)=true, ¬ gP (jP [(3,true)]) [(3,false)],(!b.there)=true, ¬ gP (jP [(3,true)]) [(3,false)],(!b.there)=true, ¬ gP (jP [(3,true)]) [(3,false)],(!b.there)=true, ¬ gP (jP [(3,true)]) [(3,false)],(!b.there)=true, ¬ gP (jP [(3,true)]) [(3,false)],(!b.there)=true, ¬ gP (jP [(3,true)]) [(3,false)],(!b.there)=true, ¬ gP (jP [(3,true)]) [(3,false)],(!b.there)=true, ¬ gP (jP [(3,true)]) [(3,false)],(!b.there)=true, ¬ gP (jP [(3,true)]) [(3,false)],(!b.there)=true, ¬ gP (jP [(3,true)]) [(3,false)],(!b.there)=true, ¬ gP (jP [(3,true)]) [(3,false)],(!b.there)=true, ¬ gP (jP [(3,true)]) [(3,false)],(!b.there)=true, ¬ gP (jP [(3,true)]) [(3,false)],(!b.there)=true, ¬ gP (jP [(3,true)]) [(3,false)],(!b.there)=true] {yb:=[(3,true)],an:=[(4, .skip),(5, .skip),(6, .skip),(7, .skip),(8, .skip),(9, .skip),(10, .skip),(11, .skip),(12, .skip),(13, .skip),(14, .skip),(15, .skip),(16, .skip),(17, .skip),(18, .skip),(19, .skip),(20, .skip),(21, .skip),(22, .skip),(23, .skip)] } [] ⟨(hb),((fun h=>Bool.noConfusion (show true=false from h.1))),(hb),((fun h=>Bool.noConfusion (show true=false from h.1))),(hb),((fun h=>Bool.noConfusion (show true=false from h.1))),(hb),((fun h=>Bool.noConfusion (show true=false from h.1))),(hb),((fun h=>Bool.noConfusion (show true=false from h.1))),(hb),((fun h=>Bool.noConfusion (show true=false from h.1))),(hb),((fun h=>Bool.noConfusion (show true=false from h.1))),(hb),((fun h=>Bool.noConfusion (show true=false from h.1))),(hb),((fun h=>Bool.noConfusion (show true=false from h.1))),(hb),((fun h=>Bool.noConfusion (show true=false from h.1))),(hb),((fun h=>Bool.noConfusion (show true=false from h.1))),(hb),((fun h=>Bool.noConfusion (show true=false from h.1))),(hb),((fun h=>Bool.noConfusion (show true=false from h.1))),(hb),((fun h=>Bool.noConfusion (show true=false from h.1))),(hb),((fun h=>Bool.noConfusion (show true=false from h.1))),(hb),((fun h=>Bool.noConfusion (show true=false from h.1))),(hb),((fun h=>Bool.noConfusion (show true=false from h.1))),(hb),((fun h=>Bool.noConfusion (show true=false from h.1))),(hb),((fun h=>Bool.noConfusion (show true=false from h.1))),(hb),((fun h=>Bool.noConfusion (show true=false from h.1))),(hb),trivial⟩ (bB.le (st':=⟨[(4,(vB true))],[]⟩) ⟨⟨⟨_,rfl,eX.v (eO.one (bR.of (congrArg (fun b=>CV.d (.bool b)) (DI hb))))⟩,trivial⟩,trivial⟩) ?_
  refine aR ?_
  obtain rfl:=oi h
  exact rl [(sB true)]
 ·skip
  refine bE h fun r_ hr_ h=> ?_
  refine bE h fun u0 hr_1 h=> ?_
  refine di tT mX ⟨[(4,(vB (bif (!b.there)then true else(decide (u0<0)))))],[]⟩ [(!b.there)=false,(!b.there)=false,(!b.there)=false,(!b.there)=false,(!b.there)=false,(!b.there)=false,(!b.there)=false,(!b.there)=false,(!b.there)=false,(!b.there)=false,(!b.there)=false,(!b.there)=false,(!b.there)=false,(!b.there)=false,(!b.there)=false,(!b.there)=false,(!b.there)=false,gP (jP [(3,false)]) [(3,false)]→All [Fn Try.prog 111 [(sD (aG none 1 (au .i64) a.links)),(sD (aG none 1 (au .i64) b.links))] [] (vI r_) []],(!b.there)=false,gP (jP [(3,false)]) [(3,false)]→All [[(Lr a b),(LB a b),r_].length=3,aC 3 1 (jG 1 [(.int .i64 (Lr a b)),(.int .i64 (LB a b)),(.int .i64 r_)]) (aiX a b r_)],gP (jP [(3,false)]) [(3,false)],(!b.there)=false,gP (jP [(3,false)]) [(3,false)]→All [Fn Try.prog 110 [(.one (.own 6 true ([(Lr a b),(LB a b),r_].length)))] (ai0 a b r_) (vI u0) (ai0 a b r_)],(!b.there)=false,(!b.there)=false] {yb:=[(3,false)],an:=[(20, .call [] (vI r_) []),(21, .arr [(Lr a b),(LB a b),r_].length (aiX a b r_)),(22, .callR [6] (vI u0))],fr:=[(21,6)] } [] ⟨(hb),(hb),(hb),(hb),(hb),(hb),(hb),(hb),(hb),(hb),(hb),(hb),(hb),(hb),(hb),(hb),(hb),(fun hg=> ⟨(DY a.links b.links hr_),trivial⟩),(hb),(fun hg=> ⟨(rfl),((by intro i hi j hj;match i,j,hi,hj with|0,0,_,_=>rfl|1,0,_,_=>rfl|2,0,_,_=>rfl)),trivial⟩),(⟨rfl,trivial⟩),(hb),(fun hg=> ⟨(Fn.rY (frz:=[6]) (p:=[[(Lr a b),(LB a b),r_].length=[(Lr a b),(LB a b),r_].length]) (Fn.le (args':=[(sD (aG (some true) 1 (au .i64) [(Lr a b),(LB a b),r_]))]) (OQ [(Lr a b),(LB a b),r_] hr_1) ⟨eO.one (bR.d dX.nL),trivial⟩) (by kernel_rfl) ⟨rfl,trivial⟩ rfl),trivial⟩),(hb),(hb),trivial⟩ (bB.le (st':=⟨[(4,(vB (decide (u0<0))))],[]⟩) ⟨⟨⟨_,rfl,eX.v (eO.one (bR.of (congrArg (fun b=>CV.d (.bool b)) (Df hb))))⟩,trivial⟩,trivial⟩) ?_
  refine aR ?_
  obtain rfl:=oi h
  exact rl [(sB (decide (u0<0)))]
def rD  :(List Way)→Exit→St→Prop:=
  fun r=>bJ TT [.tmp 6] (vO 0 true r.length) [(0,some (bg 141 3 Way.cell r))]
section
variable (u0:(List Way)) (p:ai) (s_:State) (u1:Bool)
abbrev qE:Nat × TV:=(7,(vD (.fn 109 0 (og []))))
abbrev wT:Nat × TV:=(8,(vO 405 true u0.length))
abbrev Lj:Nat × Option Ob:=(403,some (ZW p))
abbrev Cf:List (Nat × Option Ob):=[(Lj p),(405,some (bg 141 3 Way.cell u0))]
abbrev aem:St:=⟨[(3,(vP 403 0)),(bO s_),qE,(wT u0),(9,(vB u1))],(Cf u0 p)⟩
end
def yt (p:ai) (s_:State):((List Way) × Bool)→St:=
  fun zz=>match zz with|(u0,u1)=>(aem u0 p s_ u1)
def xY  :(List Way)→St:=
  fun u0=> ⟨[(wT u0)],[(405,some (bg 141 3 Way.cell u0))]⟩
def pJ (p:ai) (s_:State):(aU ((List Way) × Bool) (Ex (List Way) (List Way)))→Exit→St→Prop:=
  LQ 0 [] (yt p s_) xY rD
section
variable (p:ai) (s_:State) (u0:(List Way)) (u1:Bool) (u2:Int)
abbrev zh:Nat × TV:=(26,(vD (aG none 6 Link.cell p.links)))
abbrev y8:Nat × TV:=(27,(vI (p.links.length:Int)))
abbrev aex:St:=⟨[(3,(vP 403 0)),(bO s_),qE,(wT u0),(9,(vB u1)),(zh p),(y8 p),(28,(vI u2))],(Cf u0 p)⟩
end
def xg (p:ai) (s_:State):((List Way) × Bool × Int)→St:=
  fun zz=>match zz with|(u0,u1,u2)=>(aex p s_ u0 u1 u2)
def xN (p:ai) (s_:State):((List Way) × Bool)→St:=
  fun zz=>match zz with|(u0,u1)=>(aem u0 p s_ u1)
def qB (p:ai) (s_:State):(aU ((List Way) × Bool × Int) (Ex ((List Way) × Bool) (aU ((List Way) × Bool) (Ex (List Way) (List Way)))))→Exit→St→Prop:=
  LQ 2 [1] (xg p s_) (xN p s_) (pJ p s_)
section
variable (p:ai) (u0:Int)
abbrev acA:List CV:=[(cI ((at' p.links u0.toNat).a)),(cI ((at' p.links u0.toNat).b)),(cI ((at' p.links u0.toNat).b)),(cI ((at' p.links u0.toNat).a))]
abbrev Gi:Nat × TV:=(48,(.v (.agg (acA p u0))))
end
def wZ (p:ai) (s_:State) (u0:Int):((List Way) × Bool × Int)→St:=
  fun zz=>match zz with|(u1,u2,u3)=> ⟨[(3,(vP 403 0)),(bO s_),qE,(wT u1),(9,(vB u2)),(10,(vI u0)),(BS p u0),(zh p),(y8 p),(28,(vI u0)),(Gi p u0),(49,(vI u3))],(Cf u1 p)⟩
def xM (p:ai) (s_:State) (u1:Int):((List Way) × Bool)→St:=
  fun zz=>match zz with|(u0,u2)=>(aex p s_ u0 u2 u1)
def Gg (p:ai) (s_:State) (u0:Int):(aU ((List Way) × Bool × Int) (Ex ((List Way) × Bool) (aU ((List Way) × Bool × Int) (Ex ((List Way) × Bool) (aU ((List Way) × Bool) (Ex (List Way) (List Way)))))))→Exit→St→Prop:=
  LQ 4 [3] (wZ p s_ u0) (xM p s_ u0) (qB p s_)
section
variable (p:ai) (u3:Int) (s_:State) (u5:(List Way)) (u8:Bool) (u0:Int) (u1:Int) (u2:(List Way)) (u6:Bool) (u4:(List Int))
abbrev aj9:List (Nat × Option Ob):=[(Lj p)]
abbrev Kq:=(List.replicate p.buses.toNat ((⟨false,0,([]:List Int)⟩:Way):Way))
abbrev ahR:Nat × TV:=(8,(vO 405 true ((Kq p).length)))
abbrev af2:List (Nat × TV):=[(2,(vI u3)),(3,(vP 403 0)),(bO s_),qE,(ahR p)]
abbrev adq:=((Kq p).set u3.toNat (⟨true,(at' (Kq p) u3.toNat).iR,(at' (Kq p) u3.toNat).links⟩:Way))
abbrev abW:=(ay Way.cell (adq p u3))
abbrev ajA:Nat × TV:=(8,(vO 405 true ((adq p u3).length)))
abbrev aii:List (Nat × Option Ob):=[(Lj p),(405,some (bg 141 3 Way.cell (adq p u3)))]
abbrev ajz:St:=⟨[(3,(vP 403 0)),(bO s_),qE,(wT u5),(9,(vB u8)),(zh p),(y8 p),(28,(k3 u0))],(Cf u5 p)⟩
abbrev ae8:=(⟨(at' p.links u0.toNat).a,(at' p.links u0.toNat).b⟩:af)
abbrev adJ:=(⟨(at' p.links u0.toNat).b,(at' p.links u0.toNat).a⟩:af)
abbrev aim:=(at' [(ae8 p u0),(adJ p u0)] u1.toNat)
abbrev aeB:=((aim p u0 u1).e0)
abbrev aas:=((aim p u0 u1).e1)
abbrev afI:List DV:=[(.int .i64 (aeB p u0 u1)),(.int .i64 (aas p u0 u1))]
abbrev aeH:=(at' u2 ((aeB p u0 u1).toNat))
abbrev ahc:=((aeH p u0 u1 u2).there)
abbrev aib:=((aeH p u0 u1 u2).iR)
abbrev ajQ:=((aeH p u0 u1 u2).links)
abbrev ai1:Nat × TV:=(14,(vD (kH [(.bool (ahc p u0 u1 u2)),(.int .i64 (aib p u0 u1 u2)),(aG none 1 (au .i64) (ajQ p u0 u1 u2))] 0)))
abbrev Xb:Nat × TV:=(15,(vI (aas p u0 u1)))
abbrev agX:St:=⟨[(3,(vP 403 0)),(bO s_),qE,(wT u2),(9,(vB u6)),(10,(vI u0)),(BS p u0),(zh p),(y8 p),(28,(vI u0)),(Gi p u0),(49,(k3 u1))],(Cf u2 p)⟩
abbrev ada:=(IntKind.wrap .i64 ((aib p u0 u1 u2)+((at' p.links u0.toNat).iR)))
abbrev ajy:List DV:=[(.bool true),(.int .i64 (ada p u0 u1 u2)),(aG none 1 (au .i64) (u4++[u0]))]
abbrev afP:Nat × TV:=(16,(vD (kH (ajy p u0 u1 u2 u4) 0)))
abbrev afy:=(⟨true,(ada p u0 u1 u2),(u4++[u0])⟩:Way)
abbrev ab0:=((aas p u0 u1).toNat)
abbrev ac2:=(u2.set (ab0 p u0 u1) (afy p u0 u1 u2 u4))
abbrev aec:=(ay Way.cell (ac2 p u0 u1 u2 u4))
abbrev aeh:Nat × TV:=(8,(vO 405 true ((ac2 p u0 u1 u2 u4).length)))
abbrev ab1:List (Nat × Option Ob):=[(Lj p),(405,some (bg 141 3 Way.cell (ac2 p u0 u1 u2 u4)))]
end
theorem Gc (p:ai) (s_:State) (u3:Int) {r:(List Way)} (h:Cy p s_ u3=some r):Fn Try.prog 66 (Tn p s_ u3) [] (vO 0 true r.length) [(0,some (bg 141 3 Way.cell r))]:=by
 refine fN tT Try.func66 rfl rfl fun B=> ?_
 show bL _ _ _ _ _ _ (rD r) _
 unfold Cy at h
 refine sz tT ⟨[(2,(vI u3)),(3,(vP 403 0)),(bO s_)],(aj9 p)⟩ {fr:=[(0,403),(1,404)] } [404] ?_
 refine sz tT ⟨[(2,(vI u3)),(3,(vP 403 0)),(bO s_),qE],(aj9 p)⟩ {} [] ?_
 refine aQ (aO h fun⟨a1,a2,a3⟩ h=> ?_)
 refine ri tT ⟨(af2 p u3 s_),[(Lj p),(405,some (.arr 141 3 (Kq p).length (fun _ j=>[(.bool false),(.int .i64 0),nS].getD j .nilp)))]⟩ [_,(p.buses:Int)=p.buses,_,_,(Kq p).length=p.buses.toNat,aC p.buses.toNat 3 (fun _ j=>[(.bool false),(.int .i64 0),nS].getD j .nilp) (fun _ j=>[(.bool false),(.int .i64 0),nS].getD j .nilp)] {an:=[(2, .arr (Kq p).length (fun _ j=>[(.bool false),(.int .i64 0),nS].getD j .nilp))],fr:=[(2,405)] } [] ⟨a1,rfl,a2,a3,(List.length_replicate),(gy _ _ _),trivial⟩ (bB.le (st':=⟨(af2 p u3 s_),[(Lj p),(405,some (bg 141 3 Way.cell (Kq p)))]⟩) ⟨⟨tR,tR,tR,tR,tR,trivial⟩,⟨rfl, .refl _,⟨rfl,TP (ahi _ _ _ _ _ (fun j hj=>match j,hj with|0,_=> .refl _|1,_=> .refl _|2,_=>dX.nil')),trivial⟩⟩⟩) ?_
 refine aQ (aO h fun a1 h=> ?_)
 refine ri tT ⟨[(3,(vP 403 0)),(bO s_),qE,(ahR p)],[(Lj p),(405,some (.arr 141 3 (Kq p).length (abW p u3)))]⟩ [_,_,aC (Kq p).length 3 (jo (ay Way.cell (Kq p)) u3.toNat 0 [(.bool true)]) (abW p u3)] {an:=[(4, .arr 0 (abW p u3))] } [] ⟨a1,(tL a1),(aW _ _ _ _ _ _ _ _ rfl (fun j hj=>(match j,hj with|0,_=>rfl|1,_=>rfl|2,_=>rfl))),trivial⟩ (bB.le (st':=⟨[(3,(vP 403 0)),(bO s_),qE,(ajA p u3)],(aii p u3)⟩) ⟨⟨tR,tR,tR,⟨_,rfl,eX.v (eO.one cW)⟩,trivial⟩,⟨rfl, .refl _,⟨rfl,oW,trivial⟩⟩⟩) ?_
 refine aQ (sz tT ⟨[(3,(vP 403 0)),(bO s_),qE,(ajA p u3),(9,(vB true))],(aii p u3)⟩ {} [] ?_)
 refine bE h fun y2 hy h=> ?_
 refine aL [] (yt p s_) xY rD hy (fun s f h=> ?_) ?_
 ·clear hy
  show bL _ _ _ _ _ _ ((pJ p s_) f) _
  unfold CP at h
  obtain⟨u7,v1⟩:=s
  refine aQ (sz tT ⟨[(3,(vP 403 0)),(bO s_),qE,(wT u7),(24,(vB v1))],(Cf u7 p)⟩ {} [] ?_)
  refine bI h (fun hb5 h=> ?_) (fun hb5 h=> ?_)
  ·refine ct hb5 ?_
   refine aP (aB (sz tT ⟨[(3,(vP 403 0)),(bO s_),qE,(wT u7),(9,(vB false))],(Cf u7 p)⟩ {} [] ?_))
   refine sz tT ⟨[(3,(vP 403 0)),(bO s_),qE,(wT u7),(9,(vB false)),(zh p),(y8 p),(28,(vI 0))],(Cf u7 p)⟩ {} [] ?_
   refine bE h fun y1 hy h=> ?_
   refine aL [1] (xg p s_) (xN p s_) (pJ p s_) hy (fun s f h=> ?_) ?_
   ·clear hy
    show bL _ _ _ _ _ _ ((qB p s_) f) _
    unfold Co at h
    obtain⟨u5,u8,u0⟩:=s
    refine sz tT ⟨[(3,(vP 403 0)),(bO s_),qE,(wT u5),(9,(vB u8)),(zh p),(y8 p),(28,(vI u0)),(29,(vB (decide (u0<(p.links.length:Int)))))],(Cf u5 p)⟩ {} [] ?_
    refine aQ ?_
    refine bI h (fun hb4 h=> ?_) (fun hb4 h=> ?_)
    ·refine ct hb4 ?_
     refine aP (aQ (aB (aQ (aO h fun a1 h=> ?_))))
     refine rg tT ⟨[(3,(vP 403 0)),(bO s_),qE,(wT u5),(9,(vB u8)),(10,(vI u0)),(BS p u0),(zh p),(y8 p),(28,(vI u0))],(Cf u5 p)⟩ [_] {fr:=[(3,781)] } [781] ⟨a1,trivial⟩ ?_
     refine aQ (aQ (bE h fun r_ hr_ h=> ?_))
     have q0:=dP p s_ u0 hr_
     refine rg tT ⟨[(3,(vP 403 0)),(bO s_),qE,(wT u5),(9,(vB u8)),(10,(vI u0)),(BS p u0),(zh p),(y8 p),(28,(vI u0)),(37,(vB (!r_)))],(Cf u5 p)⟩ [_] {an:=[(3,cA q0 [])] } [] ⟨q0,trivial⟩ ?_
     refine bI h (fun hb3 h=> ?_) (fun hb3 h=> ?_)
     ·refine ct hb3 ?_
      refine aX (rz tT (ajz p s_ u5 u8 u0) {} [] ?_)
      obtain rfl:=oi h
      exact lN
     ·refine cf hb3 ?_
      refine aP (sz tT ⟨[(3,(vP 403 0)),(bO s_),qE,(wT u5),(9,(vB u8)),(10,(vI u0)),(BS p u0),(zh p),(y8 p),(28,(vI u0)),(Gi p u0),(49,(vI 0))],(Cf u5 p)⟩ {} [] ?_)
      refine bE h fun y hy h=> ?_
      refine aL [3] (wZ p s_ u0) (xM p s_ u0) (qB p s_) hy (fun s f h=> ?_) ?_
      ·clear hy
       show bL _ _ _ _ _ _ ((Gg p s_ u0) f) _
       unfold BZ at h
       obtain⟨u2,u6,u1⟩:=s
       refine sz tT ⟨[(3,(vP 403 0)),(bO s_),qE,(wT u2),(9,(vB u6)),(10,(vI u0)),(BS p u0),(zh p),(y8 p),(28,(vI u0)),(Gi p u0),(49,(vI u1)),(50,(vB (decide (u1<2))))],(Cf u2 p)⟩ {} [] ?_
       refine aQ ?_
       refine bI h (fun hb2 h=> ?_) (fun hb2 h=> ?_)
       ·refine ct hb2 ?_
        refine aP (aQ (aB (aQ (aO h fun a1 h=> ?_))))
        refine rg tT ⟨[(3,(vP 403 0)),(bO s_),qE,(wT u2),(9,(vB u6)),(10,(vI u0)),(BS p u0),(13,(vP 800 0)),(zh p),(y8 p),(28,(vI u0)),(Gi p u0),(49,(vI u1))],[(Lj p),(405,some (bg 141 3 Way.cell u2)),(800,some (.cells 164 [(cI (aeB p u0 u1)),(cI (aas p u0 u1))]))]⟩ [_,u1.toNat*2+2≤(acA p u0).length,((acA p u0).drop (u1.toNat*2)).take 2=(afI p u0 u1).map .d] {an:=[(0, .vals (afI p u0 u1))],fr:=[(1,800)] } [] ⟨a1,(Vz (n:=2) (sz:=2) (Nat.le_refl _) a1),(VZ (n:=2) (sz:=2) (g:=fun q=>[(cI ((at' [(ae8 p u0),(adJ p u0)] q).e0)),(cI ((at' [(ae8 p u0),(adJ p u0)] q).e1))]) (by intro q hq;match q,hq with|0,_=>rfl|1,_=>rfl) a1),trivial⟩ ?_
        refine aQ (aO h fun a1 h=> ?_)
        refine dg tT mX ⟨[(3,(vP 403 0)),(bO s_),qE,(wT u2),(9,(vB u6)),(10,(vI u0)),(BS p u0),(ai1 p u0 u1 u2),(Xb p u0 u1),(zh p),(y8 p),(28,(vI u0)),(Gi p u0),(49,(vI u1))],(Cf u2 p)⟩ [(0:Int)≤0∧(0:Int)<(2:Nat),_,_,(0:Int)≤1∧(1:Int)<(2:Nat)] {fr:=[(7,801)] } [801] ⟨((by decide)),a1,(tL a1),((by decide)),trivial⟩ ?_
        refine aQ (sz tT ⟨[(3,(vP 403 0)),(bO s_),qE,(wT u2),(9,(vB u6)),(10,(vI u0)),(BS p u0),(ai1 p u0 u1 u2),(Xb p u0 u1),(zh p),(y8 p),(28,(vI u0)),(Gi p u0),(49,(vI u1)),(61,(vB (!(ahc p u0 u1 u2))))],(Cf u2 p)⟩ {} [] ?_)
        refine bI h (fun hb1 h=> ?_) (fun hb1 h=> ?_)
        ·refine ct hb1 ?_
         refine aX (rz tT (agX p s_ u0 u1 u2 u6) {} [] ?_)
         obtain rfl:=oi h
         exact lN
        ·refine cf hb1 ?_
         refine aP (aQ (bE h fun u4 hr_1 h=> ?_))
         refine aO h fun⟨a1,a2⟩ h=> ?_
         have q0:=rk [(0,802)] (wU (ajQ p u0 u1 u2) hr_1)
         refine di tT mX ⟨[(3,(vP 403 0)),(bO s_),qE,(wT u2),(9,(vB u6)),(10,(vI u0)),(BS p u0),(Xb p u0 u1),(16,(vP 805 0)),(zh p),(y8 p),(28,(vI u0)),(Gi p u0),(49,(vI u1))],[(Lj p),(405,some (bg 141 3 Way.cell u2)),(805,some (.cells 141 [(cB true),(cI (ada p u0 u1 u2)),(.d (aG none 1 (au .i64) (u4++[u0])))]))]⟩ [_,[u0].length=1,aC 1 1 (jG 1 [(.int .i64 u0)]) (ay (au .i64) [u0]),u4.length=u4.length,_,_,(u4++[u0]).length=u4.length+[u0].length,aC (u4.length+[u0].length) 1 (Dn (ay (au .i64) u4) u4.length (ay (au .i64) [u0])) (ay (au .i64) (u4++[u0])),(u4++[u0]).length=(u4++[u0]).length] {an:=[(7,cA q0 []),(9, .arr [u0].length (ay (au .i64) [u0])),(10, .arr (u4++[u0]).length (ay (au .i64) (u4++[u0])))],fr:=[(9,803),(10,804),(12,805)] } [804] ⟨q0,(rfl),((by intro i hi j hj;match i,j,hi,hj with|0,0,_,_=>rfl)),rfl,a1,a2,(List.length_append),(jY _ _ _ _),rfl,trivial⟩ (fz ⟨[(3,(vP 403 0)),(bO s_),qE,(wT u2),(9,(vB u6)),(10,(vI u0)),(BS p u0),(Xb p u0 u1),(afP p u0 u1 u2 u4),(zh p),(y8 p),(28,(vI u0)),(Gi p u0),(49,(vI u1))],(Cf u2 p)⟩ [805]) ?_
         refine aQ (bE h fun v2 hr_2 h=> ?_)
         refine aO h fun a1 h=> ?_
         have q2:=Hq (afy p u0 u1 u2 u4) (at' u2 (ab0 p u0 u1)) hr_2
         refine dg tT mX ⟨[(3,(vP 403 0)),(bO s_),qE,(wT u2),(9,(vB u6)),(10,(vI u0)),(BS p u0),(Xb p u0 u1),(afP p u0 u1 u2 u4),(zh p),(y8 p),(28,(vI u0)),(Gi p u0),(49,(vI u1)),(80,(vB v2))],(Cf u2 p)⟩ [_,_,_] {an:=[(6,cA q2 [])] } [] ⟨a1,(tL a1),q2,trivial⟩ ?_
         refine bI h (fun hb h=> ?_) (fun hb h=> ?_)
         ·refine ct hb ?_
          refine aQ (aO h fun a1 h=> ?_)
          refine ri tT ⟨[(3,(vP 403 0)),(bO s_),qE,(wT u2),(10,(vI u0)),(BS p u0),(zh p),(y8 p),(28,(vI u0)),(Gi p u0),(49,(vI u1))],[(Lj p),(405,some (.arr 141 3 u2.length (aec p u0 u1 u2 u4)))]⟩ [_,_,aC u2.length 3 (jo (ay Way.cell u2) (ab0 p u0 u1) 0 (ajy p u0 u1 u2 u4)) (aec p u0 u1 u2 u4)] {an:=[(4, .arr 0 (aec p u0 u1 u2 u4))] } [] ⟨a1,(tL a1),(aW _ _ _ _ _ _ _ _ rfl (fun j hj=>(match j,hj with|0,_=>rfl|1,_=>rfl|2,_=>rfl))),trivial⟩ (bB.le (st':=⟨[(3,(vP 403 0)),(bO s_),qE,(aeh p u0 u1 u2 u4),(10,(vI u0)),(BS p u0),(zh p),(y8 p),(28,(vI u0)),(Gi p u0),(49,(vI u1))],(ab1 p u0 u1 u2 u4)⟩) ⟨⟨tR,tR,tR,⟨_,rfl,eX.v (eO.one cW)⟩,tR,tR,tR,tR,tR,tR,tR,trivial⟩,⟨rfl, .refl _,⟨rfl,oW,trivial⟩⟩⟩) ?_
          refine rz tT ⟨[(3,(vP 403 0)),(bO s_),qE,(aeh p u0 u1 u2 u4),(9,(vB true)),(10,(vI u0)),(BS p u0),(zh p),(y8 p),(28,(vI u0)),(Gi p u0),(49,(vI u1))],(ab1 p u0 u1 u2 u4)⟩ {} [] ?_
          refine rz tT ⟨[(3,(vP 403 0)),(bO s_),qE,(aeh p u0 u1 u2 u4),(9,(vB true)),(10,(vI u0)),(BS p u0),(zh p),(y8 p),(28,(vI u0)),(Gi p u0),(49,(k3 u1))],(ab1 p u0 u1 u2 u4)⟩ {} [] ?_
          obtain rfl:=oi h
          exact lN
         ·refine cf hb ?_
          refine aP (rz tT (agX p s_ u0 u1 u2 u6) {} [] ?_)
          obtain rfl:=oi h
          exact lN
       ·refine cf hb2 ?_
        refine aI (fz (aex p s_ u2 u6 u0) []) ?_
        refine aX ?_
        obtain rfl:=oi h
        exact lB
      ·clear hy
       cases y with
       |brk z=>
        obtain⟨v0,v3⟩:=z
        unfold fZ
        refine⟨_, .refl, ?_⟩
        refine rz tT (ajz p s_ v0 v3 u0) {} [] ?_
        obtain rfl:=oi h
        exact lN
       |ret v=>
        obtain rfl:=oi h
        unfold fZ
        intro e st hn ha hR
        cases e with
        |normal=>exact absurd rfl hn
        |exit id=>simp only [rF (b:=3) ha rfl,cond_false];exact hR
        |goto l=>exact hR
        |ret=>exact hR
        |panic c=>exact hR
        |outgrown=>exact hR
    ·refine cf hb4 ?_
     refine aI (fz (aem u5 p s_ u8) []) ?_
     refine aX ?_
     obtain rfl:=oi h
     exact lB
   ·clear hy
    cases y1 with
    |brk z=>
     obtain⟨v4,v5⟩:=z
     unfold fZ
     refine⟨_, .refl, ?_⟩
     obtain rfl:=oi h
     exact lN
    |ret v=>
     obtain rfl:=oi h
     unfold fZ
     intro e st hn ha hR
     cases e with
     |normal=>exact absurd rfl hn
     |exit id=>simp only [rF (b:=1) ha rfl,cond_false];exact hR
     |goto l=>exact hR
     |ret=>exact hR
     |panic c=>exact hR
     |outgrown=>exact hR
  ·refine cf hb5 ?_
   refine aI (fz ⟨[(wT u7)],[(405,some (bg 141 3 Way.cell u7))]⟩ []) ?_
   refine aX ?_
   obtain rfl:=oi h
   exact lB
 ·clear hy
  cases y2 with
  |brk z=>
   obtain⟨u9,rfl⟩: ∃q,q=z:=⟨_,rfl⟩
   unfold fZ
   refine⟨_, .refl, ?_⟩
   refine sz tT ⟨[(6,(vO 405 true u9.length))],[(405,some (bg 141 3 Way.cell u9))]⟩ {} [] ?_
   refine aI (bB.fin (st':=⟨[(6,(vO 0 true u9.length))],[(0,some (bg 141 3 Way.cell u9))]⟩) (cs:=[]) ⟨[],[(405,0)]⟩ [6] (by kernel_rfl) trivial) ?_
   refine aR ?_
   obtain rfl:=oi h
   exact rl [(.one (.own 0 true u9.length))]
  |ret v=>
   obtain rfl:=oi h
   unfold fZ
   intro e st hn ha hR
   cases e with
   |normal=>exact absurd rfl hn
   |exit id=>exact hR
   |goto l=>exact hR
   |ret=>exact hR
   |panic c=>exact hR
   |outgrown=>exact hR
def sG  :((List Short) × Int)→Exit→St→Prop:=
  fun r=>bJ TT [.tmp 6, .tmp 7] (.iC [(sD (aG none 4 Short.cell r.1)),(sI r.2)]) []
section
variable (u0:(List Short)) (p:ai)
abbrev LX:Nat × TV:=(9,(vO 28 false u0.length))
abbrev Ga:Nat × TV:=(29,(vD (aG none 5 Source.cell p.sources)))
abbrev Gb:Nat × TV:=(30,(vI (p.sources.length:Int)))
abbrev LH:List (Nat × Option Ob):=[(28,some (bg 47 4 Short.cell u0))]
end
def zw (p:ai) (s_:State) (u1:Int):((List Short) × Int)→St:=
  fun zz=>match zz with|(u0,u2)=> ⟨[(2,(vI u1)),(bU p),(bO s_),(LX u0),(Ga p),(Gb p),(31,(vI u2))],(LH u0)⟩
def yV  :(List Short)→St:=
  fun u0=> ⟨[(LX u0)],(LH u0)⟩
def Ia (p:ai) (s_:State) (u0:Int):(aU ((List Short) × Int) (Ex (List Short) ((List Short) × Int)))→Exit→St→Prop:=
  LQ 0 [] (zw p s_ u0) yV sG
section
variable (p:ai) (u1:Int) (u0:Int) (s_:State) (u3:(List Short)) (u2:(List Way))
abbrev X7:List (Nat × Option Ob):=[(22,some (ZW p))]
abbrev ag5:TV:=(vD (kH [(.int .i64 ((at' p.sources u1.toNat).bus)),(.int .i64 ((at' p.sources u1.toNat).kind)),(.int .i64 ((at' p.sources u1.toNat).power)),(.int .i64 ((at' p.sources u1.toNat).sync)),(.int .i64 ((at' p.sources u1.toNat).iR))] 0))
abbrev Zx:Nat × TV:=(11,(ag5 p u1))
abbrev ahs:St:=⟨[(2,(vI u0)),(bU p),(bO s_),(LX u3),(Ga p),(Gb p),(31,(k3 u1))],(LH u3)⟩
abbrev adw:Nat × TV:=(12,(vD (kH [(.bool ((at' u2 u0.toNat).there)),(.int .i64 ((at' u2 u0.toNat).iR)),(aG none 1 (au .i64) ((at' u2 u0.toNat).links))] 0)))
abbrev Xg:=(IntKind.wrap .i64 (((at' p.sources u1.toNat).iR)+((at' u2 u0.toNat).iR)))
abbrev ahB:=(IntKind.wrap .i64 (Int.tdiv (IntKind.wrap .i64 ((IntKind.wrap .i64 ((400000:Int)+(Xg p u1 u0 u2))) - 1)) (Xg p u1 u0 u2)))
abbrev Vg:=(⟨u1,(Xg p u1 u0 u2),(ahB p u1 u0 u2),(at' u2 u0.toNat).links⟩:Short)
abbrev XL:=(u3++[(Vg p u1 u0 u2)])
abbrev aiQ:=((XL p u1 u0 u3 u2).length)
abbrev ajW:Nat × TV:=(9,(vO 43 false (aiQ p u1 u0 u3 u2)))
abbrev ajJ:Ob:=(bg 47 4 Short.cell (XL p u1 u0 u3 u2))
abbrev ahb:List (Nat × Option Ob):=[(43,some (ajJ p u1 u0 u3 u2))]
abbrev ad5:=(ay Short.cell [(Vg p u1 u0 u2)])
abbrev ajd:=(ay Short.cell (XL p u1 u0 u3 u2))
end
theorem nE (p:ai) (s_:State) (u0:Int) {r:((List Short) × Int)} (h:lD p s_ u0=some r):Fn Try.prog 17 (Tn p s_ u0) [] (.iC [(sD (aG none 4 Short.cell r.1)),(sI r.2)]) []:=by
 refine fN tT Try.func17 rfl rfl fun B=> ?_
 show bL _ _ _ _ _ _ (sG r) _
 unfold lD at h
 refine sz tT ⟨[(2,(vI u0)),(3,(vP 22 0)),(bO s_)],(X7 p)⟩ {fr:=[(0,22),(1,23)] } [23] ?_
 refine aQ (aQ (bE h fun r_ hr_ h=> ?_))
 have q0:=dL p s_ hr_
 refine rg tT ⟨[(2,(vI u0)),(3,(vP 22 0)),(bO s_),(8,(vI r_))],(X7 p)⟩ [_] {an:=[(2,cA q0 [])] } [] ⟨q0,trivial⟩ ?_
 refine sz tT ⟨[(2,(vI u0)),(3,(vP 22 0)),(bO s_),(8,(vI r_)),(18,(vB (!decide (r_=0))))],(X7 p)⟩ {} [] ?_
 refine bI h (fun hb4 h=> ?_) (fun hb4 h=> ?_)
 ·refine ct hb4 ?_
  refine sz tT ⟨[(6,(vD nS)),(7,(vI r_))],[]⟩ {} [] ?_
  refine aI (bB.le (st':=⟨[(6,(vD (aG none 4 Short.cell ([]:List Short)))),(7,(vI r_))],[]⟩) ⟨⟨⟨_,rfl,eX.v (eO.one (bR.d dX.nil'))⟩,tR,trivial⟩,trivial⟩) ?_
  refine aR ?_
  obtain rfl:=oi h
  exact rl [(sD (aG none 4 Short.cell ([]:List Short))),(sI r_)]
 ·refine cf hb4 ?_
  refine aP (aQ (sg tT ⟨[(2,(vI u0)),(3,(vP 22 0)),(bO s_),(27,(vB (bif (decide (u0<0))then true else(decide (p.buses≤u0)))))],(X7 p)⟩ (eqs (decide (u0<0)) 5 []) {yb:=[(2,(decide (u0<0)))] } [] (ae trivial) ?_))
  refine bI h (fun hb3 h=> ?_) (fun hb3 h=> ?_)
  ·refine ct hb3 ?_
   refine sz tT ⟨[(6,(vD nS)),(7,(vI 1))],[]⟩ {} [] ?_
   refine aI (bB.le (st':=⟨[(6,(vD (aG none 4 Short.cell ([]:List Short)))),(7,(vI 1))],[]⟩) ⟨⟨⟨_,rfl,eX.v (eO.one (bR.d dX.nil'))⟩,tR,trivial⟩,trivial⟩) ?_
   refine aR ?_
   obtain rfl:=oi h
   exact rl [(sD (aG none 4 Short.cell ([]:List Short))),(sI 1)]
  ·refine cf hb3 ?_
   refine aP (sz tT ⟨[(2,(vI u0)),(3,(vP 22 0)),(bO s_),(9,(vD nS))],(X7 p)⟩ {} [] ?_)
   refine aQ (sz tT ⟨[(2,(vI u0)),(bU p),(bO s_),(9,(vD nS)),(Ga p),(Gb p),(31,(vI 0))],[]⟩ {} [22] ?_)
   refine bE h fun y hy h=> ?_
   refine aI (.trans (bB.MQ (t:=9) (b:=44) (esz0:=0) (el0:=fun _ _=> .nilp) (E:=47) (esz:=4) (el:=ay Short.cell ([]:List Short)) (by kernel_rfl) (by kernel_rfl)) (.trans (bB.fin (st':=⟨[(2,(vI u0)),(bU p),(bO s_),(9,(vO 28 false 0)),(Ga p),(Gb p),(31,(vI 0))],[(28,some (.arr 47 4 0 (ay Short.cell ([]:List Short))))]⟩) (cs:=[]) ⟨[],[(44,28)]⟩ [2,3,4,9,29,30,31] (by kernel_rfl) trivial) (bB.le (st':=⟨[(2,(vI u0)),(bU p),(bO s_),(9,(vO 28 false (([]:List Short).length))),(Ga p),(Gb p),(31,(vI 0))],[(28,some (bg 47 4 Short.cell ([]:List Short)))]⟩) ⟨⟨tR,tR,tR,⟨_,rfl,eX.v (eO.one cW)⟩,tR,tR,tR,trivial⟩,⟨rfl,oW,trivial⟩⟩))) ?_
   refine aL [] (zw p s_ u0) yV sG hy (fun s f h=> ?_) ?_
   ·clear hy
    show bL _ _ _ _ _ _ ((Ia p s_ u0) f) _
    unfold zf at h
    obtain⟨u3,u1⟩:=s
    refine sz tT ⟨[(2,(vI u0)),(bU p),(bO s_),(LX u3),(Ga p),(Gb p),(31,(vI u1)),(32,(vB (decide (u1<(p.sources.length:Int)))))],(LH u3)⟩ {} [] ?_
    refine aQ ?_
    refine bI h (fun hb2 h=> ?_) (fun hb2 h=> ?_)
    ·refine ct hb2 ?_
     refine aP (aQ (aB (aQ (aO h fun a1 h=> ?_))))
     refine rg tT ⟨[(2,(vI u0)),(bU p),(bO s_),(LX u3),(10,(vI u1)),(Zx p u1),(Ga p),(Gb p),(31,(vI u1))],(LH u3)⟩ [_] {fr:=[(3,39)] } [39] ⟨a1,trivial⟩ ?_
     refine aQ (aQ (bE h fun u5 hr_1 h=> ?_))
     refine aO h fun a1 h=> ?_
     refine rg tT ⟨[(2,(vI u0)),(bU p),(bO s_),(LX u3),(10,(vI u1)),(Zx p u1),(Ga p),(Gb p),(31,(vI u1)),(47,(vB (bif (at' s_.badBus u0.toNat)then true else(!u5))))],(LH u3)⟩ (_::(eqs (at' s_.badBus u0.toNat) 4 ((gP (jP [(5,(at' s_.badBus u0.toNat))]) [(5,false)]→All [Fn Try.prog 65 (Tn p s_ u1) [] (vB u5) []])::(eqs (at' s_.badBus u0.toNat) 2 [])))) {yb:=[(5,(at' s_.badBus u0.toNat))],an:=[(9, .call [] (vB u5) [])] } [] ⟨a1,(ae ⟨(fun hg=> ⟨(fF p s_ u1 (dZ hr_1 (aY hg))),trivial⟩),(ae trivial)⟩)⟩ ?_
     refine bI h (fun hb1 h=> ?_) (fun hb1 h=> ?_)
     ·refine ct hb1 ?_
      refine aX (rz tT (ahs p u1 u0 s_ u3) {} [] ?_)
      obtain rfl:=oi h
      exact lN
     ·refine cf hb1 ?_
      refine aP (aQ (bE h fun u2 hr_2 h=> ?_))
      refine aO h fun a1 h=> ?_
      have q0:=rk [(0,40)] (Gc p s_ ((at' p.sources u1.toNat).bus) hr_2)
      refine rg tT ⟨[(2,(vI u0)),(bU p),(bO s_),(LX u3),(10,(vI u1)),(Zx p u1),(adw u0 u2),(Ga p),(Gb p),(31,(vI u1))],(LH u3)⟩ [_,_,_] {an:=[(4,cA q0 [])],fr:=[(8,41)] } [41] ⟨q0,a1,(tL a1),trivial⟩ ?_
      refine sz tT ⟨[(2,(vI u0)),(bU p),(bO s_),(LX u3),(10,(vI u1)),(Zx p u1),(adw u0 u2),(Ga p),(Gb p),(31,(vI u1)),(57,(vB ((at' u2 u0.toNat).there)))],(LH u3)⟩ {} [] ?_
      refine bI h (fun hb h=> ?_) (fun hb h=> ?_)
      ·refine ct hb ?_
       refine sz tT ⟨[(2,(vI u0)),(bU p),(bO s_),(LX u3),(10,(vI u1)),(adw u0 u2),(13,(vI (Xg p u1 u0 u2))),(Ga p),(Gb p),(31,(vI u1))],(LH u3)⟩ {} [] ?_
       refine aO h fun⟨a1,a2,a3⟩ h=> ?_
       refine dg tT mX ⟨[(2,(vI u0)),(bU p),(bO s_),(ajW p u1 u0 u3 u2),(Ga p),(Gb p),(31,(vI u1))],(ahb p u1 u0 u3 u2)⟩ [_,[(Vg p u1 u0 u2)].length=1,aC 1 4 (jG 4 [(.int .i64 u1),(.int .i64 (Xg p u1 u0 u2)),(.int .i64 (ahB p u1 u0 u2)),(aG none 1 (au .i64) ((at' u2 u0.toNat).links))]) (ad5 p u1 u0 u2),u3.length=u3.length,_,_,(XL p u1 u0 u3 u2).length=u3.length+[(Vg p u1 u0 u2)].length,aC (u3.length+[(Vg p u1 u0 u2)].length) 4 (Dn (ay Short.cell u3) u3.length (ad5 p u1 u0 u2)) (ajd p u1 u0 u3 u2)] {an:=[(11, .arr [(Vg p u1 u0 u2)].length (ad5 p u1 u0 u2)),(12, .arr (XL p u1 u0 u3 u2).length (ajd p u1 u0 u3 u2))],fr:=[(11,42),(12,43)] } [] ⟨a1,(rfl),((by intro i hi j hj;match i,j,hi,hj with|0,0,_,_=>rfl|0,1,_,_=>rfl|0,2,_,_=>rfl|0,3,_,_=>rfl)),rfl,a2,a3,(List.length_append),(jY _ _ _ _),trivial⟩ ?_
       refine ri tT ⟨[(2,(vI u0)),(bU p),(bO s_),(ajW p u1 u0 u3 u2),(Ga p),(Gb p),(31,(k3 u1))],(ahb p u1 u0 u3 u2)⟩ [] {} [] trivial (bB.fin (st':=⟨[(2,(vI u0)),(bU p),(bO s_),(9,(vO 28 false (aiQ p u1 u0 u3 u2))),(Ga p),(Gb p),(31,(k3 u1))],[(28,some (ajJ p u1 u0 u3 u2))]⟩) (cs:=[]) ⟨[],[(43,28)]⟩ [2,3,4,9,29,30,31] (by kernel_rfl) trivial) ?_
       obtain rfl:=oi h
       exact lN
      ·refine cf hb ?_
       refine aP (rz tT (ahs p u1 u0 s_ u3) {} [] ?_)
       obtain rfl:=oi h
       exact lN
    ·refine cf hb2 ?_
     refine aI (fz ⟨[(LX u3)],(LH u3)⟩ []) ?_
     refine aX ?_
     obtain rfl:=oi h
     exact lB
   ·clear hy
    cases y with
    |brk z=>
     obtain⟨u4,rfl⟩: ∃q,q=z:=⟨_,rfl⟩
     unfold fZ
     refine⟨_, .refl, ?_⟩
     refine sg tT ⟨[(6,(vD (aG none 4 Short.cell u4))),(7,(vI 0))],[]⟩ [u4.length=u4.length] {} [28] ⟨rfl,trivial⟩ ?_
     refine aR ?_
     obtain rfl:=oi h
     exact rl [(sD (aG none 4 Short.cell u4)),(sI 0)]
    |ret v=>
     obtain rfl:=oi h
     unfold fZ
     intro e st hn ha hR
     cases e with
     |normal=>exact absurd rfl hn
     |exit id=>exact hR
     |goto l=>exact hR
     |ret=>exact hR
     |panic c=>exact hR
     |outgrown=>exact hR
def rJ  :Int→Exit→St→Prop:=
  fun r=>bJ TT [.tmp 4] (vI r) []
def xE (s_:(List Int)) (v_:Int):Int→St:=
  fun t8=> ⟨[(kP s_),(1,(vI v_)),(pz s_),(8,(vI t8))],[]⟩
def xO  :Unit→St:=
  fun _=> ⟨[],[]⟩
def GK (s_:(List Int)) (v_:Int):(aU Int (Ex Unit Int))→Exit→St→Prop:=
  LQ 0 [] (xE s_ v_) xO rJ
theorem Fs (s_:(List Int)) (v_:Int) {r:Int} (h:uV s_ v_=some r):Fn Try.prog 114 [(sD (zR s_)),(sI v_)] [] (vI r) []:=by
 refine fN tT Try.func114 rfl rfl fun B=> ?_
 show bL _ _ _ _ _ _ (rJ r) _
 unfold uV at h
 refine sz tT ⟨[(kP s_),(1,(vI v_))],[]⟩ {} [] ?_
 refine aQ (sz tT ⟨[(kP s_),(1,(vI v_)),(pz s_),(8,(vI 0))],[]⟩ {} [] ?_)
 refine bE h fun y hy h=> ?_
 refine aL [] (xE s_ v_) xO rJ hy (fun s f h=> ?_) ?_
 ·clear hy
  show bL _ _ _ _ _ _ ((GK s_ v_) f) _
  unfold xQ at h
  obtain⟨t8,rfl⟩: ∃q,q=s:=⟨_,rfl⟩
  refine sz tT ⟨[(kP s_),(1,(vI v_)),(pz s_),(8,(vI t8)),(WG t8 s_)],[]⟩ {} [] ?_
  refine aQ ?_
  refine bI h (fun hb1 h=> ?_) (fun hb1 h=> ?_)
  ·refine ct hb1 ?_
   refine aP (aQ (aB (sz tT ⟨[(kP s_),(1,(vI v_)),(5,(vI t8)),(pz s_),(8,(vI t8))],[]⟩ {} [] ?_)))
   refine aQ (aO h fun a1 h=> ?_)
   refine rg tT ⟨[(kP s_),(1,(vI v_)),(5,(vI t8)),(pz s_),(8,(vI t8)),(16,(vB (decide (v_=(at' s_ t8.toNat)))))],[]⟩ [_] {} [] ⟨a1,trivial⟩ ?_
   refine bI h (fun hb h=> ?_) (fun hb h=> ?_)
   ·refine ct hb ?_
    refine sz tT ⟨[(4,(vI t8))],[]⟩ {} [] ?_
    refine aR ?_
    obtain rfl:=oi h
    exact lR fQ (fT 0) fU (bJ.mk (.inr rfl) (p:=[]) (l:=[(sI t8)]) (by kernel_rfl) trivial (eX.refl _) trivial)
   ·refine cf hb ?_
    refine aP (rz tT ⟨[(kP s_),(1,(vI v_)),(pz s_),(k31 t8)],[]⟩ {} [] ?_)
    obtain rfl:=oi h
    exact lN
  ·refine cf hb1 ?_
   refine aI (fz ⟨[],[]⟩ []) ?_
   refine aX ?_
   obtain rfl:=oi h
   exact lB
 ·clear hy
  cases y with
  |brk z=>
   unfold fZ
   refine⟨_, .refl, ?_⟩
   refine sz tT ⟨[(4,(vI (-1)))],[]⟩ {} [] ?_
   refine aR ?_
   obtain rfl:=oi h
   exact rl [(sI (-1))]
  |ret v=>
   obtain rfl:=oi h
   unfold fZ
   intro e st hn ha hR
   cases e with
   |normal=>exact absurd rfl hn
   |exit id=>exact hR
   |goto l=>exact hR
   |ret=>exact hR
   |panic c=>exact hR
   |outgrown=>exact hR
def Db  :Bool→Exit→St→Prop:=
  fun r=>bJ TT [.tmp 4] (vB r) []
theorem Ck (s_:(List Int)) (v_:Int) {r:Bool} (h:qb s_ v_=some r):Fn Try.prog 69 [(sD (zR s_)),(sI v_)] [] (vB r) []:=by
 refine fN tT Try.func69 rfl rfl fun B=> ?_
 show bL _ _ _ _ _ _ (Db r) _
 unfold qb at h
 refine sz tT ⟨[(kP s_),(1,(vI v_))],[]⟩ {} [] ?_
 refine aQ (bE h fun r_ hr_ h=> ?_)
 have q0:=Fs s_ v_ hr_
 refine rg tT (k32 r_) [_] {an:=[(2,cA q0 [])] } [] ⟨q0,trivial⟩ ?_
 refine aR ?_
 obtain rfl:=oi h
 exact rl [(sB (decide (0≤r_)))]
section
variable (o_:(List Int))
abbrev wW:Ob:=(bg 3 1 (au .i64) o_)
abbrev wV:List (Nat × Option Ob):=[(0,some (.cells 40 [(.own 1 true o_.length)])),(1,some (wW o_))]
end
def ED (o_:(List Int)):Bool→Exit→St→Prop:=
  fun r=>bJ TT [.tmp 3] (vB r) (wV o_)
theorem Dk (i:Int) (o_:(List Int)) {r:Bool} (h:rq i o_=some r):Fn Try.prog 68 [(sI i),(.one (.ptr 0 0))] (wV o_) (vB r) (wV o_):=by
 refine fN tT Try.func68 rfl rfl fun B=> ?_
 show bL _ _ _ _ _ _ ((ED o_) r) _
 unfold rq at h
 refine sz tT ⟨[(0,(vI i)),(1,(vP 0 0))],(wV o_)⟩ {} [] ?_
 refine sg tT ⟨[(3,(vB (bif (decide (i<0))then true else(decide ((o_.length:Int)≤i)))))],(wV o_)⟩ (eqs (decide (i<0)) 5 []) {yb:=[(2,(decide (i<0)))] } [] (ae trivial) ?_
 refine aR ?_
 obtain rfl:=oi h
 exact rl [(sB (bif (decide (i<0))then true else(decide ((o_.length:Int)≤i))))]
def jZ (o_:(List Int)):Int→Exit→St→Prop:=
  fun r=>bJ TT [.tmp 4] (vI r) (wV o_)
abbrev RH:Nat × TV:=(1,(.v (.one (.fn 68 0 1 (Bq [(.ptr 0 0)])))))
def nY (s_:(List Int)) (o_:(List Int)):Int→St:=
  fun t8=> ⟨[(kP s_),RH,(pz s_),(8,(vI t8))],(wV o_)⟩
section
variable (o_:(List Int))
abbrev ahf:St:=⟨[],(wV o_)⟩
end
def nU (o_:(List Int)):Unit→St:=
  fun _=>(ahf o_)
def yR (s_:(List Int)) (o_:(List Int)):(aU Int (Ex Unit Int))→Exit→St→Prop:=
  LQ 0 [] (nY s_ o_) (nU o_) (jZ o_)
section
variable (s_:(List Int)) (o_:(List Int))
abbrev agi:St:=⟨[(kP s_),RH],(wV o_)⟩
end
theorem yA (s_:(List Int)) (o_:(List Int)) {r:Int} (h:lF s_ o_=some r):Fn Try.prog 113 [(sD (zR s_)),(.one (.fn 68 0 1 (Bq [(.ptr 0 0)])))] (wV o_) (vI r) (wV o_):=by
 refine fN tT Try.func113 rfl rfl fun B=> ?_
 show bL _ _ _ _ _ _ ((jZ o_) r) _
 unfold lF at h
 refine sz tT (agi s_ o_) {} [] ?_
 refine aQ (sz tT ⟨[(kP s_),RH,(pz s_),(8,(vI 0))],(wV o_)⟩ {} [] ?_)
 refine bE h fun y hy h=> ?_
 refine aL [] (nY s_ o_) (nU o_) (jZ o_) hy (fun s f h=> ?_) ?_
 ·clear hy
  show bL _ _ _ _ _ _ ((yR s_ o_) f) _
  unfold ow at h
  obtain⟨t8,rfl⟩: ∃q,q=s:=⟨_,rfl⟩
  refine sz tT ⟨[(kP s_),RH,(pz s_),(8,(vI t8)),(WG t8 s_)],(wV o_)⟩ {} [] ?_
  refine aQ ?_
  refine bI h (fun hb1 h=> ?_) (fun hb1 h=> ?_)
  ·refine ct hb1 ?_
   refine aP (aQ (aB (sz tT ⟨[(kP s_),RH,(5,(vI t8)),(pz s_),(8,(vI t8))],(wV o_)⟩ {} [] ?_)))
   refine aQ (bE h fun r_ hr_ h=> ?_)
   refine aO h fun a1 h=> ?_
   have q1:=Dk (at' s_ t8.toNat) o_ hr_
   refine rg tT ⟨[(kP s_),RH,(5,(vI t8)),(pz s_),(8,(vI t8)),(16,(vB r_))],(wV o_)⟩ [_,_] {an:=[(5,cR q1 [0,1])] } [] ⟨a1,q1,trivial⟩ ?_
   refine bI h (fun hb h=> ?_) (fun hb h=> ?_)
   ·refine ct hb ?_
    refine sz tT ⟨[(4,(vI t8))],(wV o_)⟩ {} [] ?_
    refine aR ?_
    obtain rfl:=oi h
    exact lR fQ (fT 0) fU (bJ.mk (.inr rfl) (p:=[]) (l:=[(sI t8)]) (by kernel_rfl) trivial (eX.refl _) (.refl _))
   ·refine cf hb ?_
    refine aP (rz tT ⟨[(kP s_),RH,(pz s_),(k31 t8)],(wV o_)⟩ {} [] ?_)
    obtain rfl:=oi h
    exact lN
  ·refine cf hb1 ?_
   refine aI (fz (ahf o_) []) ?_
   refine aX ?_
   obtain rfl:=oi h
   exact lB
 ·clear hy
  cases y with
  |brk z=>
   unfold fZ
   refine⟨_, .refl, ?_⟩
   refine sz tT ⟨[(4,(vI (-1)))],(wV o_)⟩ {} [] ?_
   refine aR ?_
   obtain rfl:=oi h
   exact rl [(sI (-1))]
  |ret v=>
   obtain rfl:=oi h
   unfold fZ
   intro e st hn ha hR
   cases e with
   |normal=>exact absurd rfl hn
   |exit id=>exact hR
   |goto l=>exact hR
   |ret=>exact hR
   |panic c=>exact hR
   |outgrown=>exact hR
def wY (o_:(List Int)):Bool→Exit→St→Prop:=
  fun r=>bJ TT [.tmp 4] (vB r) (wV o_)
theorem uX (s_:(List Int)) (o_:(List Int)) {r:Bool} (h:kJ s_ o_=some r):Fn Try.prog 67 [(sD (zR s_)),(.one (.fn 68 0 1 (Bq [(.ptr 0 0)])))] (wV o_) (vB r) (wV o_):=by
 refine fN tT Try.func67 rfl rfl fun B=> ?_
 show bL _ _ _ _ _ _ ((wY o_) r) _
 unfold kJ at h
 refine sz tT (agi s_ o_) {} [] ?_
 refine aQ (bE h fun r_ hr_ h=> ?_)
 have q0:=yA s_ o_ hr_
 refine rg tT ⟨[(4,(vB (decide (0≤r_))))],(wV o_)⟩ [_] {an:=[(2,cR q0 [0,1])] } [] ⟨q0,trivial⟩ ?_
 refine aR ?_
 obtain rfl:=oi h
 exact rl [(sB (decide (0≤r_)))]
def rO  :((List Int) × Bool × Int)→Exit→St→Prop:=
  fun r=>bJ TT [.tmp 4, .tmp 5] (.iC [(sD (aG (some r.2.1) 1 (au .i64) r.1)),(sI r.2.2)]) []
section
variable (l:(List Short)) (u0:(List Int)) (u1:Int)
abbrev I8:Nat × TV:=(23,(vD (aG none 4 Short.cell l)))
abbrev Jm:Nat × TV:=(24,(vI (l.length:Int)))
abbrev IU:List (Nat × Option Ob):=[(8,some (wW u0)),(9,some (.cells 40 [(.own 8 true u0.length)]))]
abbrev adY:St:=⟨[(7,(vP 9 0)),(I8 l),(Jm l),(25,(vI u1))],(IU u0)⟩
end
def xW (l:(List Short)):((List Int) × Int)→St:=
  fun zz=>match zz with|(u0,u1)=>(adY l u0 u1)
section
variable (u0:(List Int))
abbrev ajm:St:=⟨[(7,(vP 9 0))],(IU u0)⟩
end
def xD  :(List Int)→St:=
  fun u0=>(ajm u0)
def qi (l:(List Short)):(aU ((List Int) × Int) (Ex (List Int) ((List Int) × Bool × Int)))→Exit→St→Prop:=
  LQ 0 [] (xW l) xD rO
section
variable (l:(List Short)) (u0:Int) (u2:(List Int)) (u3:Int)
abbrev ZT:DV:=(aG none 1 (au .i64) ((at' l u0.toNat).links))
abbrev QT:Nat × TV:=(9,(vD (kH [(.int .i64 ((at' l u0.toNat).source)),(.int .i64 ((at' l u0.toNat).iR)),(.int .i64 ((at' l u0.toNat).amps)),(ZT l u0)] 0)))
abbrev VU:Nat × TV:=(44,(vI (u2.length:Int)))
abbrev acp:List (Nat × TV):=[(7,(vP 9 0)),(QT l u0),(I8 l),(Jm l),(25,(vI u0)),(VU u2),(45,(vI u3))]
end
def xI (l:(List Short)) (u2:(List Int)) (u0:Int):((List Int) × Int)→St:=
  fun zz=>match zz with|(u1,u3)=> ⟨(acp l u0 u2 u3),(IU u1)⟩
def yh (l:(List Short)) (u1:Int):(List Int)→St:=
  fun u0=>(adY l u0 u1)
def FC (l:(List Short)) (u1:(List Int)) (u0:Int):(aU ((List Int) × Int) (Ex (List Int) (aU ((List Int) × Int) (Ex (List Int) ((List Int) × Bool × Int)))))→Exit→St→Prop:=
  LQ 2 [1] (xI l u1 u0) (yh l u0) (qi l)
section
variable (l:(List Short)) (p:ai) (u0:Int) (u1:(List Int)) (u2:Int) (u3:(List Int)) (u4:(List Int))
abbrev Jh:Nat × TV:=(1,(vD (aG none 4 Short.cell l)))
abbrev P9:Nat × TV:=(2,(k9 p))
abbrev Vu:DV:=(aG (some false) 1 (au .i64) ([]:List Int))
abbrev Ot:=((p.links.length:Int).toNat)
abbrev JJ:=(List.replicate (Ot p) (0:Int))
abbrev ZB:Ob:=(bg 3 1 (au .i64) (JJ p))
abbrev Sk:=((JJ p).length)
abbrev ahJ:List (Nat × Option Ob):=[(8,some (ZB p)),(9,some (.cells 40 [(.own 8 true (Sk p))]))]
abbrev OW:=(ay (au .i64) (JJ p))
abbrev Vq:=(bif (decide (((at' l u0.toNat).amps)<0))then true else(decide (1000000<((at' l u0.toNat).amps))))
abbrev aek:=(u1.set u2.toNat (IntKind.wrap .i64 ((at' u1 u2.toNat)+((at' l u0.toNat).amps))))
abbrev adm:=(ay (au .i64) (aek l u0 u1 u2))
abbrev af6:List (Nat × Option Ob):=[(8,some (bg 3 1 (au .i64) (aek l u0 u1 u2))),(9,some (.cells 40 [(.own 8 true ((aek l u0 u1 u2).length))]))]
abbrev afv:List (Nat × TV):=[(7,(vP 9 0)),(QT l u0),(I8 l),(Jm l),(25,(vI u0)),(VU u3),(45,(k3 u2))]
abbrev Vd:DV:=(aG (some true) 1 (au .i64) u4)
end
theorem lH (p:ai) (l:(List Short)) {r:((List Int) × Bool × Int)} (h:kL p l=some r):Fn Try.prog 18 [(.agg (k5 p)),(sD (aG none 4 Short.cell l))] [] (.iC [(sD (aG (some r.2.1) 1 (au .i64) r.1)),(sI r.2.2)]) []:=by
 refine fN tT Try.func18 rfl rfl fun B=> ?_
 show bL _ _ _ _ _ _ (rO r) _
 unfold kL at h
 refine sz tT ⟨[(Jh l),(P9 p)],[]⟩ {fr:=[(0,7)] } [7] ?_
 refine aQ (aQ (bE h fun r_ hr_ h=> ?_))
 have q0:=q8 p hr_
 refine rg tT ⟨[(Jh l),(P9 p),(6,(vI r_))],[]⟩ [_] {an:=[(1,cA q0 [])] } [] ⟨q0,trivial⟩ ?_
 refine sz tT ⟨[(Jh l),(P9 p),(6,(vI r_)),(14,(vB (!decide (r_=0))))],[]⟩ {} [] ?_
 refine bI h (fun hb5 h=> ?_) (fun hb5 h=> ?_)
 ·refine ct hb5 ?_
  refine sz tT ⟨[(4,(vD nS)),(5,(vI r_))],[]⟩ {} [] ?_
  refine aI (bB.le (st':=⟨[(4,(vD Vu)),(5,(vI r_))],[]⟩) ⟨⟨⟨_,rfl,eX.v (eO.one (bR.d dX.W9))⟩,tR,trivial⟩,trivial⟩) ?_
  refine aR ?_
  obtain rfl:=oi h
  exact rl [(sD Vu),(sI r_)]
 ·refine cf hb5 ?_
  refine aP (aQ (sz tT ⟨[(Jh l),(P9 p),(18,(vB (decide (8<(l.length:Int)))))],[]⟩ {} [] ?_))
  refine bI h (fun hb4 h=> ?_) (fun hb4 h=> ?_)
  ·refine ct hb4 ?_
   refine sz tT ⟨[(4,(vD nS)),(5,(vI 1))],[]⟩ {} [] ?_
   refine aI (bB.le (st':=⟨[(4,(vD Vu)),(5,(vI 1))],[]⟩) ⟨⟨⟨_,rfl,eX.v (eO.one (bR.d dX.W9))⟩,tR,trivial⟩,trivial⟩) ?_
   refine aR ?_
   obtain rfl:=oi h
   exact rl [(sD Vu),(sI 1)]
  ·refine cf hb4 ?_
   refine aP (aQ (aO h fun⟨a1,a2,a3⟩ h=> ?_))
   refine rg tT ⟨[(Jh l),(7,(vP 9 0))],(ahJ p)⟩ [_,((p.links.length:Int):Int)=(p.links.length:Int),_,_,(JJ p).length=(Ot p),aC (Ot p) 1 (fun _ j=>[(.int .i64 0)].getD j .nilp) (OW p)] {an:=[(3, .arr (JJ p).length (OW p))],fr:=[(3,8),(4,9)] } [] ⟨a1,rfl,a2,a3,(List.length_replicate),(dO _ _ _ _ _ (fun j hj=>(match j,hj with|0,_=>rfl))),trivial⟩ ?_
   refine aQ (sz tT ⟨[(7,(vP 9 0)),(I8 l),(Jm l),(25,(vI 0))],(ahJ p)⟩ {} [] ?_)
   refine bE h fun y1 hy h=> ?_
   refine aL [] (xW l) xD rO hy (fun s f h=> ?_) ?_
   ·clear hy
    show bL _ _ _ _ _ _ ((qi l) f) _
    unfold xq at h
    obtain⟨u3,u0⟩:=s
    refine sz tT ⟨[(7,(vP 9 0)),(I8 l),(Jm l),(25,(vI u0)),(26,(vB (decide (u0<(l.length:Int)))))],(IU u3)⟩ {} [] ?_
    refine aQ ?_
    refine bI h (fun hb3 h=> ?_) (fun hb3 h=> ?_)
    ·refine ct hb3 ?_
     refine aP (aQ (aB (aQ (aO h fun a1 h=> ?_))))
     refine rg tT ⟨[(7,(vP 9 0)),(QT l u0),(I8 l),(Jm l),(25,(vI u0))],(IU u3)⟩ [_] {fr:=[(2,13)] } [13] ⟨a1,trivial⟩ ?_
     refine aQ (aQ (bE h fun u5 hr_1 h=> ?_))
     refine rg tT ⟨[(7,(vP 9 0)),(QT l u0),(I8 l),(Jm l),(25,(vI u0)),(42,(vB (bif (Vq l u0)then true else u5)))],(IU u3)⟩ (eqs (decide (((at' l u0.toNat).amps)<0)) 4 (eqs (Vq l u0) 4 [gP (jP [(3,(decide (((at' l u0.toNat).amps)<0))),(8,(Vq l u0))]) [(8,false)]→All [Fn Try.prog 67 [(sD (ZT l u0)),(.one (.fn 68 0 1 (Bq [(.ptr 9 0)])))] [(9,some (.cells 40 [(.own 8 true u3.length)])),(8,some (wW u3))] (vB u5) [(9,some (.cells 40 [(.own 8 true u3.length)])),(8,some (wW u3))]],(Vq l u0)=(Vq l u0)])) {yb:=[(3,(decide (((at' l u0.toNat).amps)<0))),(8,(Vq l u0))],an:=[(12, .callR [9,8] (vB u5))] } [] (ae (ae ⟨(fun hg=> ⟨(rK [(0,9),(1,8)] (uX ((at' l u0.toNat).links) u3 (dZ hr_1 (aY hg)))),trivial⟩),rfl,trivial⟩)) ?_
     refine bI h (fun hb2 h=> ?_) (fun hb2 h=> ?_)
     ·refine ct hb2 ?_
      refine sz tT ⟨[(4,(vD nS)),(5,(vI 1))],[]⟩ {} [] ?_
      refine aI (bB.le (st':=⟨[(4,(vD Vu)),(5,(vI 1))],[]⟩) ⟨⟨⟨_,rfl,eX.v (eO.one (bR.d dX.W9))⟩,tR,trivial⟩,trivial⟩) ?_
      refine aR ?_
      obtain rfl:=oi h
      exact lR fQ (fT 0) fU (bJ.mk (.inr rfl) (p:=[]) (l:=[(sD Vu),(sI 1)]) (by kernel_rfl) trivial (eX.refl _) trivial)
     ·refine cf hb2 ?_
      refine aP (sz tT ⟨[(7,(vP 9 0)),(QT l u0),(I8 l),(Jm l),(25,(vI u0)),(VU u3),(45,(vI 0))],(IU u3)⟩ {} [] ?_)
      refine bE h fun y hy h=> ?_
      refine aL [1] (xI l u3 u0) (yh l u0) (qi l) hy (fun s f h=> ?_) ?_
      ·clear hy
       show bL _ _ _ _ _ _ ((FC l u3 u0) f) _
       unfold xC at h
       obtain⟨u1,u2⟩:=s
       refine sz tT ⟨[(7,(vP 9 0)),(QT l u0),(I8 l),(Jm l),(25,(vI u0)),(VU u3),(45,(vI u2)),(46,(WN u2 u3))],(IU u1)⟩ {} [] ?_
       refine aQ ?_
       refine bI h (fun hb1 h=> ?_) (fun hb1 h=> ?_)
       ·refine ct hb1 ?_
        refine aP (aQ (aB (sz tT ⟨[(7,(vP 9 0)),(QT l u0),(10,(vI u2)),(I8 l),(Jm l),(25,(vI u0)),(VU u3),(45,(vI u2))],(IU u1)⟩ {} [] ?_)))
        refine aQ (bE h fun u7 hr_2 h=> ?_)
        have q0:=Ck ((at' l u0.toNat).links) u2 hr_2
        refine rg tT ⟨[(7,(vP 9 0)),(QT l u0),(10,(vI u2)),(I8 l),(Jm l),(25,(vI u0)),(VU u3),(45,(vI u2)),(51,(vB u7))],(IU u1)⟩ [_] {an:=[(3,cA q0 [])] } [] ⟨q0,trivial⟩ ?_
        refine bI h (fun hb h=> ?_) (fun hb h=> ?_)
        ·refine ct hb ?_
         refine aO h fun a1 h=> ?_
         refine di tT mX ⟨(acp l u0 u3 u2),[(8,some (.arr 3 1 u1.length (adm l u0 u1 u2))),(9,some (.cells 40 [(.own 8 true u1.length)]))]⟩ [_,_,_,_,aC u1.length 1 (jo (ay (au .i64) u1) u2.toNat 0 [(.int .i64 (IntKind.wrap .i64 ((at' u1 u2.toNat)+((at' l u0.toNat).amps))))]) (adm l u0 u1 u2)] {an:=[(8, .arr 0 (adm l u0 u1 u2))] } [] ⟨a1,(tL a1),a1,(tL a1),(aW _ _ _ _ _ _ _ _ rfl (fun j hj=>(match j,hj with|0,_=>rfl))),trivial⟩ (bB.le (st':=⟨(acp l u0 u3 u2),(af6 l u0 u1 u2)⟩) ⟨⟨tR,tR,tR,tR,tR,tR,tR,trivial⟩,⟨rfl,oW,⟨rfl,aJ ⟨cW,trivial⟩,trivial⟩⟩⟩) ?_
         refine rz tT ⟨(afv l u0 u2 u3),(af6 l u0 u1 u2)⟩ {} [] ?_
         obtain rfl:=oi h
         exact lN
        ·refine cf hb ?_
         refine aP (rz tT ⟨(afv l u0 u2 u3),(IU u1)⟩ {} [] ?_)
         obtain rfl:=oi h
         exact lN
       ·refine cf hb1 ?_
        refine aI (fz (adY l u1 u0) []) ?_
        refine aX ?_
        obtain rfl:=oi h
        exact lB
      ·clear hy
       cases y with
       |brk z=>
        obtain⟨u6,rfl⟩: ∃q,q=z:=⟨_,rfl⟩
        unfold fZ
        refine⟨_, .refl, ?_⟩
        refine rz tT ⟨[(7,(vP 9 0)),(I8 l),(Jm l),(25,(k3 u0))],(IU u6)⟩ {} [] ?_
        obtain rfl:=oi h
        exact lN
       |ret v=>
        obtain rfl:=oi h
        unfold fZ
        intro e st hn ha hR
        cases e with
        |normal=>exact absurd rfl hn
        |exit id=>simp only [rF (b:=1) ha rfl,cond_false];exact hR
        |goto l=>exact hR
        |ret=>exact hR
        |panic c=>exact hR
        |outgrown=>exact hR
    ·refine cf hb3 ?_
     refine aI (fz (ajm u3) []) ?_
     refine aX ?_
     obtain rfl:=oi h
     exact lB
   ·clear hy
    cases y1 with
    |brk z=>
     obtain⟨u4,rfl⟩: ∃q,q=z:=⟨_,rfl⟩
     unfold fZ
     refine⟨_, .refl, ?_⟩
     refine sg tT ⟨[(4,(vD (Vd u4))),(5,(vI 0))],[]⟩ [u4.length=u4.length] {} [8] ⟨rfl,trivial⟩ ?_
     refine aR ?_
     obtain rfl:=oi h
     exact rl [(sD (Vd u4)),(sI 0)]
    |ret v=>
     obtain rfl:=oi h
     unfold fZ
     intro e st hn ha hR
     cases e with
     |normal=>exact absurd rfl hn
     |exit id=>exact hR
     |goto l=>exact hR
     |ret=>exact hR
     |panic c=>exact hR
     |outgrown=>exact hR
def G5  :Bool→Exit→St→Prop:=
  fun r=>bJ TT [.tmp 4] (vB r) []
theorem jR (s_:State) (b:Int) {r:Bool} (h:jf s_ b=some r):Fn Try.prog 79 [(.agg (Vl s_)),(sI b)] [] (vB r) []:=by
 refine fN tT Try.func79 rfl rfl fun B=> ?_
 show bL _ _ _ _ _ _ (G5 r) _
 unfold jf at h
 refine sz tT ⟨[(1,(vI b)),(2,(k74 s_))],[]⟩ {fr:=[(0,1)] } [1] ?_
 refine aQ (aO h fun a1 h=> ?_)
 refine rg tT ⟨[(4,(vB (bif (decide (0≤b))then(!(at' s_.badBus b.toNat))else false)))],[]⟩ (eqs (decide (0≤b)) 4 ((gP (jP [(2,(decide (0≤b)))]) [(2,true)]→All [(0:Int)≤b∧b<(s_.badBus.length:Int)])::(eqs (decide (0≤b)) 3 []))) {yb:=[(2,(decide (0≤b)))] } [] (ae ⟨(fun hg=> ⟨(a1 (aY hg)),trivial⟩),(ae trivial)⟩) ?_
 refine aR ?_
 obtain rfl:=oi h
 exact rl [(sB (bif (decide (0≤b))then(!(at' s_.badBus b.toNat))else false))]
def CK  :(Int × Network)→Exit→St→Prop:=
  fun r=>bJ TT [.tmp 10] (vI r.1) [(0,some (.cells 161 [(.own 3 false r.2.arcs.length),(.own 2 true r.2.from_.length)])),(1,none),(2,some (.rows 40 1 r.2.from_.length (uS oZ r.2.from_) none)),(3,some (bg 170 2 aV.cell r.2.arcs))]
section
variable (u0:Network) (b:Int) (u1:Int) (a:Int) (u2:Int)
abbrev Vb:Ob:=(bg 170 2 aV.cell u0.arcs)
abbrev XQ:Nat × Option Ob:=(1,some (Vb u0))
abbrev aeL:List (Nat × Option Ob):=[(0,some (.cells 161 [(.own 1 false u0.arcs.length),(.own 2 true u0.from_.length)])),(XQ u0),(2,some (.rows 40 1 u0.from_.length (uS oZ u0.from_) none))]
abbrev R8:=(u0.arcs++[(⟨b,u1⟩:aV),(⟨a,u2⟩:aV)])
abbrev Zu:=((R8 u0 b u1 a u2).length)
abbrev ah2:Nat × Option Ob:=(0,some (.cells 161 [(.own 12 false (Zu u0 b u1 a u2)),(.own 2 true u0.from_.length)]))
abbrev WO:Nat × Option Ob:=(12,some (bg 170 2 aV.cell (R8 u0 b u1 a u2)))
abbrev RF:=((at' u0.from_ a.toNat)++[(u0.arcs.length:Int)])
abbrev Ku:=(u0.from_.set a.toNat (RF u0 a))
abbrev YN:=(uS oZ (Ku u0 a))
abbrev adF:=(ay (au .i64) (RF u0 a))
abbrev aj0:Nat × Option Ob:=(0,some (.cells 161 [(.own 12 false (Zu u0 b u1 a u2)),(.own 2 true ((Ku u0 a).length))]))
abbrev Ox:=(at' (Ku u0 a) b.toNat)
abbrev QC:=(IntKind.wrap .i64 ((u0.arcs.length:Int)+1))
abbrev R3:=((Ox u0 b a)++[(QC u0)])
abbrev aeW:=((Ku u0 a).set b.toNat (R3 u0 b a))
abbrev aad:=(uS oZ (aeW u0 b a))
abbrev ab9:=(ay (au .i64) [(QC u0)])
abbrev agP:=((Ox u0 b a).length+[(QC u0)].length)
abbrev ady:=(ay (au .i64) (R3 u0 b a))
abbrev afW:=((aeW u0 b a).length)
abbrev agC:Nat × Option Ob:=(2,some (.rows 40 1 (aeW u0 b a).length (aad u0 b a) none))
abbrev ahX:List (Nat × Option Ob):=[(0,some (.cells 161 [(.own 12 false (Zu u0 b u1 a u2)),(.own 2 true (afW u0 b a))])),(1,none),(agC u0 b a),(WO u0 b u1 a u2)]
end
theorem bG (a:Int) (b:Int) (u1:Int) (u2:Int) (u0:Network) {r:(Int × Network)} (h:dQ a b u1 u2 u0=some r):Fn Try.prog 77 [(.one (.ptr 0 0)),(sI a),(sI b),(sI u1),(sI u2)] (aeL u0) (vI r.1) [(0,some (.cells 161 [(.own 3 false r.2.arcs.length),(.own 2 true r.2.from_.length)])),(1,none),(2,some (.rows 40 1 r.2.from_.length (uS oZ r.2.from_) none)),(3,some (bg 170 2 aV.cell r.2.arcs))]:=by
 refine fN tT Try.func77 rfl rfl fun B=> ?_
 show bL _ _ _ _ _ _ (CK r) _
 unfold dQ at h
 refine sz tT ⟨[(0,(vP 0 0)),(1,(vI a)),(2,(vI b)),(3,(vI u1)),(4,(vI u2))],(aeL u0)⟩ {} [] ?_
 refine sz tT ⟨[(0,(vP 0 0)),(1,(vI a)),(2,(vI b)),(3,(vI u1)),(4,(vI u2)),(11,(vI (u0.arcs.length:Int)))],(aeL u0)⟩ {} [] ?_
 refine aQ (aO h fun⟨a1,a2⟩ h=> ?_)
 refine rg tT ⟨[(0,(vP 0 0)),(1,(vI a)),(2,(vI b)),(11,(vI (u0.arcs.length:Int)))],[(ah2 u0 b u1 a u2),(1,none),(2,some (.rows 40 1 u0.from_.length (uS oZ u0.from_) none)),(WO u0 b u1 a u2)]⟩ [[(⟨b,u1⟩:aV),(⟨a,u2⟩:aV)].length=2,aC 2 2 (jG 2 [(.int .i64 b),(.int .i64 u1),(.int .i64 a),(.int .i64 u2)]) (ay aV.cell [(⟨b,u1⟩:aV),(⟨a,u2⟩:aV)]),u0.arcs.length=u0.arcs.length,_,_,(R8 u0 b u1 a u2).length=u0.arcs.length+[(⟨b,u1⟩:aV),(⟨a,u2⟩:aV)].length,aC (u0.arcs.length+[(⟨b,u1⟩:aV),(⟨a,u2⟩:aV)].length) 2 (Dn (ay aV.cell u0.arcs) u0.arcs.length (ay aV.cell [(⟨b,u1⟩:aV),(⟨a,u2⟩:aV)])) (ay aV.cell (R8 u0 b u1 a u2))] {an:=[(11, .arr [(⟨b,u1⟩:aV),(⟨a,u2⟩:aV)].length (ay aV.cell [(⟨b,u1⟩:aV),(⟨a,u2⟩:aV)])),(12, .arr (R8 u0 b u1 a u2).length (ay aV.cell (R8 u0 b u1 a u2)))],fr:=[(11,11),(12,12)] } [] ⟨(rfl),((by intro i hi j hj;match i,j,hi,hj with|0,0,_,_=>rfl|0,1,_,_=>rfl|1,0,_,_=>rfl|1,1,_,_=>rfl)),rfl,a1,a2,(List.length_append),(jY _ _ _ _),trivial⟩ ?_
 refine aQ (aO h fun⟨a1,a2,a3⟩ h=> ?_)
 refine di tT mX ⟨[(0,(vP 0 0)),(2,(vI b)),(11,(vI (u0.arcs.length:Int)))],[(ah2 u0 b u1 a u2),(1,none),(2,some (.rows 40 1 u0.from_.length (YN u0 a) none)),(WO u0 b u1 a u2)]⟩ [(0:Int)≤a∧a<(u0.from_.length:Int),a.toNat<u0.from_.length,[(u0.arcs.length:Int)].length=1,aC 1 1 (jG 1 [(.int .i64 (u0.arcs.length:Int))]) (ay (au .i64) [(u0.arcs.length:Int)]),(at' u0.from_ a.toNat).length=(at' u0.from_ a.toNat).length,((at' u0.from_ a.toNat).length+[(u0.arcs.length:Int)].length)*8≤140737488355328,(at' u0.from_ a.toNat).length+[(u0.arcs.length:Int)].length≤4611686018427387904,(RF u0 a).length=(at' u0.from_ a.toNat).length+[(u0.arcs.length:Int)].length,aC ((at' u0.from_ a.toNat).length+[(u0.arcs.length:Int)].length) 1 (Dn (ay (au .i64) (at' u0.from_ a.toNat)) (at' u0.from_ a.toNat).length (ay (au .i64) [(u0.arcs.length:Int)])) (adF u0 a),(0:Int)≤a∧a<(u0.from_.length:Int),a.toNat<u0.from_.length,(RF u0 a).length=(RF u0 a).length,ZJ u0.from_.length 1 (stV (uS oZ u0.from_) a.toNat 0 (.row 3 1 (RF u0 a).length (adF u0 a))) (YN u0 a),∀i0 j0 c0,((some (a.toNat,0,CV.own 13 false (at' u0.from_ a.toNat).length)):Option (Nat × Nat × CV))=some (i0,j0,c0)→i0=a.toNat∧j0=0] {an:=[(11, .take 13),(13, .arr [(u0.arcs.length:Int)].length (ay (au .i64) [(u0.arcs.length:Int)])),(14, .arr (RF u0 a).length (adF u0 a)),(16, .rows 0 (YN u0 a))],fr:=[(13,14),(14,15)] } [] ⟨a1,(tL a1),(rfl),((by intro i hi j hj;match i,j,hi,hj with|0,0,_,_=>rfl)),rfl,a2,a3,(List.length_append),(jY _ _ _ _),a1,(tL a1),rfl,(OO _ _ _ _ _ _ _ _ rfl (fun j hj=>(match j,hj with|0,_=>rfl))),((fun i0 j0 c0 e=>by cases e;exact⟨rfl,rfl⟩)),trivial⟩ (bB.le (st':=⟨[(0,(vP 0 0)),(2,(vI b)),(11,(vI (u0.arcs.length:Int)))],[(aj0 u0 b u1 a u2),(1,none),(2,some (.rows 40 1 (Ku u0 a).length (YN u0 a) none)),(WO u0 b u1 a u2)]⟩) ⟨⟨tR,tR,tR,trivial⟩,⟨rfl,aJ ⟨bR.refl _,cW,trivial⟩,⟨rfl, .refl _,⟨rfl,PS (by simp only [List.length_set,List.length_append,List.length_cons,List.length_nil,List.length_replicate,List.length_drop]),⟨rfl, .refl _,trivial⟩⟩⟩⟩⟩) ?_
 refine aQ (aO h fun⟨a1,a2,a3⟩ h=> ?_)
 refine di tT mX ⟨[(11,(vI (u0.arcs.length:Int)))],[(aj0 u0 b u1 a u2),(1,none),(2,some (.rows 40 1 (Ku u0 a).length (aad u0 b a) none)),(WO u0 b u1 a u2)]⟩ [(0:Int)≤b∧b<((Ku u0 a).length:Int),b.toNat<(Ku u0 a).length,[(QC u0)].length=1,aC 1 1 (jG 1 [(.int .i64 (QC u0))]) (ab9 u0),(Ox u0 b a).length=(Ox u0 b a).length,(agP u0 b a)*8≤140737488355328,(Ox u0 b a).length+[(QC u0)].length≤4611686018427387904,(R3 u0 b a).length=(Ox u0 b a).length+[(QC u0)].length,aC (agP u0 b a) 1 (Dn (ay (au .i64) (Ox u0 b a)) (Ox u0 b a).length (ab9 u0)) (ady u0 b a),(0:Int)≤b∧b<((Ku u0 a).length:Int),b.toNat<(Ku u0 a).length,(R3 u0 b a).length=(R3 u0 b a).length,ZJ (Ku u0 a).length 1 (stV (YN u0 a) b.toNat 0 (.row 3 1 (R3 u0 b a).length (ady u0 b a))) (aad u0 b a),∀i0 j0 c0,((some (b.toNat,0,CV.own 16 false (Ox u0 b a).length)):Option (Nat × Nat × CV))=some (i0,j0,c0)→i0=b.toNat∧j0=0] {an:=[(11, .take 16),(14, .arr [(QC u0)].length (ab9 u0)),(15, .arr (R3 u0 b a).length (ady u0 b a)),(17, .rows 0 (aad u0 b a))],fr:=[(14,17),(15,18)] } [] ⟨a1,(tL a1),(rfl),((by intro i hi j hj;match i,j,hi,hj with|0,0,_,_=>rfl)),rfl,a2,a3,(List.length_append),(jY _ _ _ _),a1,(tL a1),rfl,(OO _ _ _ _ _ _ _ _ rfl (fun j hj=>(match j,hj with|0,_=>rfl))),((fun i0 j0 c0 e=>by cases e;exact⟨rfl,rfl⟩)),trivial⟩ (bB.le (st':=⟨[(11,(vI (u0.arcs.length:Int)))],(ahX u0 b u1 a u2)⟩) ⟨⟨tR,trivial⟩,⟨rfl,aJ ⟨bR.refl _,cW,trivial⟩,⟨rfl, .refl _,⟨rfl,PS (by simp only [List.length_set,List.length_append,List.length_cons,List.length_nil,List.length_replicate,List.length_drop]),⟨rfl, .refl _,trivial⟩⟩⟩⟩⟩) ?_
 refine sz tT ⟨[(10,(vI (u0.arcs.length:Int)))],(ahX u0 b u1 a u2)⟩ {} [] ?_
 refine aI (bB.fin (st':=⟨[(10,(vI (u0.arcs.length:Int)))],[(0,some (.cells 161 [(.own 3 false (Zu u0 b u1 a u2)),(.own 2 true (afW u0 b a))])),(1,none),(agC u0 b a),(3,some (bg 170 2 aV.cell (R8 u0 b u1 a u2)))]⟩) (cs:=[]) ⟨[],[(0,0),(1,1),(2,2),(12,3)]⟩ [10] (by kernel_rfl) trivial) ?_
 refine aR ?_
 obtain rfl:=oi h
 exact rh [(sI (u0.arcs.length:Int))] (.refl _) ⟨rfl, .refl _,⟨rfl,trivial,⟨rfl, .refl _,⟨rfl, .refl _,trivial⟩⟩⟩⟩
section
variable (u0:Network)
abbrev Jc:DV:=(aG none 1 (ML 1 (au .i64)) u0.from_)
abbrev ZV:Nat × Option Ob:=(0,some (.cells 161 [(.own 1 false u0.arcs.length),(.d (Jc u0))]))
abbrev ach:List (Nat × Option Ob):=[(ZV u0),(XQ u0),(2,some (.cells 157 [(.ptr 0 0)]))]
end
def yN (u0:Network):Unit→Exit→St→Prop:=
  fun _=>bJ TT [.tmp 2] (.v (.one (.fn 121 0 1 (Bq [(.ptr 2 0)])))) (ach u0)
section
variable (u0:Network)
abbrev afX:List (Nat × Option Ob):=[(ZV u0),(XQ u0)]
abbrev aiI:List (Nat × Option Ob):=[(ZV u0),(XQ u0),(3,some (.cells 157 [(.ptr 0 0)]))]
end
theorem gI (u0:Network) {r:Unit} (h:eT u0=some r):Fn Try.prog 81 [(.one (.ptr 0 0))] (afX u0) (.v (.one (.fn 121 0 1 (Bq [(.ptr 2 0)])))) (ach u0):=by
 refine fN tT Try.func81 rfl rfl fun B=> ?_
 show bL _ _ _ _ _ _ ((yN u0) r) _
 unfold eT at h
 refine sz tT ⟨[(1,(vP 3 0))],(aiI u0)⟩ {fr:=[(0,3)] } [] ?_
 refine sz tT ⟨[(2,(.v (.one (.fn 121 0 1 (Bq [(.ptr 3 0)])))))],(aiI u0)⟩ {} [] ?_
 refine aI (bB.fin (st':=⟨[(2,(.v (.one (.fn 121 0 1 (Bq [(.ptr 2 0)])))))],(ach u0)⟩) (cs:=[]) ⟨[],[(0,0),(1,1),(3,2)]⟩ [2] (by kernel_rfl) trivial) ?_
 refine aR ?_
 obtain rfl:=oi h
 exact rl [(.one (.fn 121 0 1 (Bq [(.ptr 2 0)])))]
noncomputable def aN:oG:=⟨[19,20],IW ([1,0,1,0,0,0,1,0,1,0]++[0]) (nP Try.f80),IW ([1,0,1,0,0,0,1,0,1,0]++[1]) (nP Try.f80),114,[.exit 1]⟩
section
variable (u0:Int)
abbrev QV:List (Nat × TV):=[(2,(vP 1 0)),(3,(vP 2 0)),(4,(vP 3 0))]
abbrev KM:Nat × Option Ob:=(1,some (.cells 157 [(.ptr 4 0)]))
abbrev JU:Nat × Option Ob:=(2,some (.cells 3 [(cI u0)]))
end
def vL (u0:Int):(Nat × (List Int) × Network)→Exit→St→Prop:=
  fun r=>nO 0 aN (vB (Nat.beq r.1 0)) [(0,some (.loop aN r.1 QV)),KM,(JU u0),(3,some (.cells 40 [(.own 5 true r.2.1.length)])),(4,some (.cells 161 [(.own 6 false r.2.2.arcs.length),(.d (aG none 1 (ML 1 (au .i64)) r.2.2.from_))])),(5,some (bg 3 1 (au .i64) r.2.1)),(6,some (bg 170 2 aV.cell r.2.2.arcs))]
section
variable (o_:(List Int)) (u1:Int) (u2:Int) (u0:Network) (u3:Int) (u4:Int) (u5:Int)
abbrev Qu:Nat × Option Ob:=(0,some (.loop aN 1 QV))
abbrev Vp:Nat × Option Ob:=(3,some (.cells 40 [(.own 5 true ((o_.set u1.toNat u2).length))]))
abbrev Zq:Nat × Option Ob:=(4,some (.cells 161 [(.own 6 false u0.arcs.length),(.d (Jc u0))]))
abbrev VE:Nat × Option Ob:=(5,some (bg 3 1 (au .i64) (o_.set u1.toNat u2)))
abbrev aal:Nat × Option Ob:=(6,some (Vb u0))
abbrev G7:List (Nat × Option Ob):=[Qu,KM,(JU u3),(Vp o_ u1 u2),(Zq u0),(VE o_ u1 u2),(aal u0)]
abbrev ab3:St:=⟨[(2,(vP 1 0)),(3,(vP 2 0)),(4,(vP 3 0)),(7,(vI u4)),(8,(vI u5))],(G7 o_ u1 u2 u0 u3)⟩
end
def lZ (u1:Int) (u2:Int) (u3:Int) (o_:(List Int)) (u0:Network):(Int × Int)→St:=
  fun zz=>match zz with|(u4,u5)=>(ab3 o_ u1 u2 u0 u3 u4 u5)
section
variable (u4:Int) (u3:Int) (o_:(List Int)) (u1:Int) (u2:Int) (u0:Network)
abbrev agh:St:=⟨[(2,(vP 1 0)),(3,(vP 2 0)),(4,(vP 3 0)),(7,(vI u4))],(G7 o_ u1 u2 u0 u3)⟩
end
def mh (u1:Int) (u2:Int) (u3:Int) (o_:(List Int)) (u0:Network):Int→St:=
  fun u4=>(agh u4 u3 o_ u1 u2 u0)
section
variable (u0:Int)
abbrev X0:=(vL u0)
end
def uJ (u1:Int) (u2:Int) (u0:Int) (o_:(List Int)) (u3:Network):(aU (Int × Int) (Ex Int (Nat × (List Int) × Network)))→Exit→St→Prop:=
  LQ 4 [3] (lZ u1 u2 u0 o_ u3) (mh u1 u2 u0 o_ u3) (X0 u0)
section
variable (u5:Int) (u6:Int) (u2:(List aV)) (u4:Network) (u3:Int) (o_:(List Int)) (u0:Int) (u1:Int)
abbrev UK:List (Nat × TV):=[(2,(vP 1 0)),(4,(vP 3 0)),(7,(vI u5)),(10,(vI u6))]
abbrev ahh:Nat × Option Ob:=(4,some (.cells 161 [(.own 6 false u2.length),(.d (Jc u4))]))
abbrev acY:List (Nat × Option Ob):=[Qu,KM,(JU u3),(Vp o_ u0 u1),(ahh u2 u4),(VE o_ u0 u1),(6,some (bg 170 2 aV.cell u2))]
end
def mr (u0:Int) (u1:Int) (u3:Int) (o_:(List Int)) (u4:Network) (u5:Int):((List aV) × Int)→St:=
  fun zz=>match zz with|(u2,u6)=> ⟨(UK u5 u6),(acY u2 u4 u3 o_ u0 u1)⟩
section
variable (u3:Int) (o_:(List Int)) (u0:Int) (u1:Int) (u2:(List aV)) (u4:Network)
abbrev aiF:St:=⟨[],(acY u2 u4 u3 o_ u0 u1)⟩
end
def lS (u0:Int) (u1:Int) (u3:Int) (o_:(List Int)) (u4:Network):(List aV)→St:=
  fun u2=>(aiF u3 o_ u0 u1 u2 u4)
def uy (u1:Int) (u2:Int) (u0:Int) (o_:(List Int)) (u3:Network) (u4:Int):(aU ((List aV) × Int) (Ex (List aV) (Nat × (List Int) × Network)))→Exit→St→Prop:=
  LQ 6 [3] (mr u1 u2 u0 o_ u3 u4) (lS u1 u2 u0 o_ u3) (X0 u0)
section
variable (u6:Int) (o_:(List Int)) (u4:Network) (u0:Int) (u1:Int) (u7:Int) (u3:(List aV)) (u2:Int) (u5:Int)
abbrev Xz:List (Nat × Option Ob):=[(0,some (.loop aN 0 QV)),KM,(JU u6),(3,some (.cells 40 [(.own 5 true o_.length)])),(Zq u4),(5,some (wW o_)),(aal u4)]
abbrev acs:List (Nat × TV):=[(2,(vP 1 0)),(3,(vP 2 0)),(4,(vP 3 0)),(5,(vI u0)),(6,(vI u1))]
abbrev WT:=((IntKind.wrap .i64 (((BitVec.ofInt (IntKind.bits .i64) (at' (o_.set u0.toNat u1) u7.toNat) ^^^ BitVec.ofInt (IntKind.bits .i64) 1).toNat:Int))).toNat)
abbrev Ri:=(u3.set ((at' (o_.set u0.toNat u1) u2.toNat).toNat) (⟨(at' u3 ((at' (o_.set u0.toNat u1) u2.toNat).toNat)).to_,(IntKind.wrap .i64 (((at' u3 ((at' (o_.set u0.toNat u1) u2.toNat).toNat)).left) - u5))⟩:aV))
abbrev Zn:=(ay aV.cell (Ri o_ u0 u1 u3 u2 u5))
abbrev ai4:Nat × Option Ob:=(4,some (.cells 161 [(.own 6 false ((Ri o_ u0 u1 u3 u2 u5).length)),(.d (Jc u4))]))
abbrev ag9:=(at' (Ri o_ u0 u1 u3 u2 u5) (WT o_ u0 u1 u2))
abbrev ahe:=(IntKind.wrap .i64 (((ag9 o_ u0 u1 u3 u2 u5).left)+u5))
abbrev Z4:=((Ri o_ u0 u1 u3 u2 u5).set (WT o_ u0 u1 u2) (⟨(ag9 o_ u0 u1 u3 u2 u5).to_,(ahe o_ u0 u1 u3 u2 u5)⟩:aV))
abbrev aen:=(ay aV.cell (Z4 o_ u0 u1 u3 u2 u5))
abbrev akf:List (Nat × Option Ob):=[Qu,KM,(JU u6),(Vp o_ u0 u1),(4,some (.cells 161 [(.own 6 false ((Z4 o_ u0 u1 u3 u2 u5).length)),(.d (Jc u4))])),(VE o_ u0 u1),(6,some (bg 170 2 aV.cell (Z4 o_ u0 u1 u3 u2 u5)))]
end
theorem lY (u0:Int) (u1:Int) (u6:Int) (o_:(List Int)) (u4:Network) {r:(Nat × (List Int) × Network)} (h:dG u0 u1 u6 o_ u4=some r):Yl Try.prog 0 [(sI u0),(sI u1)] (Xz u6 o_ u4) (vB (Nat.beq r.1 0)) [(0,some (.loop aN r.1 QV)),KM,(JU u6),(3,some (.cells 40 [(.own 5 true r.2.1.length)])),(4,some (.cells 161 [(.own 6 false r.2.2.arcs.length),(.d (aG none 1 (ML 1 (au .i64)) r.2.2.from_))])),(5,some (bg 3 1 (au .i64) r.2.1)),(6,some (bg 170 2 aV.cell r.2.2.arcs))]:=by
 refine FH (r:=aN) (sl:=QV) (sl1:=(acs u0 u1)) (h1:=(Xz u6 o_ u4)) (sl2:=QV) (by kernel_rfl) rfl rfl (by kernel_rfl) (fun rd B=> ?_) (by kernel_rfl) (fun rd B=> ?_)
 ·refine r9 (c:=IW ([1,0,1,0,0,0,1,0,1,0]++[0]) (nP Try.f80)) rfl ?_
  refine o7 (st:=⟨[(19,(vI u0)),(20,(vI u1)),(2,(vP 1 0)),(3,(vP 2 0)),(4,(vP 3 0))],(Xz u6 o_ u4)⟩) (by kernel_rfl) ?_
  refine sz tT ⟨[(2,(vP 1 0)),(3,(vP 2 0)),(4,(vP 3 0)),(5,(vI u0)),(20,(vI u1))],(Xz u6 o_ u4)⟩ {} [] ?_
  refine rz tT ⟨(acs u0 u1),(Xz u6 o_ u4)⟩ {} [] ?_
  exact⟨rfl,rfl⟩
 ·refine r9 (c:=IW ([1,0,1,0,0,0,1,0,1,0]++[1]) (nP Try.f80)) rfl ?_
  refine o7 (st:=⟨(acs u0 u1),[Qu,KM,(JU u6),(3,some (.cells 40 [(.own 5 true o_.length)])),(Zq u4),(5,some (wW o_)),(aal u4)]⟩) (by kernel_rfl) ?_
  show bL _ _ _ _ _ _ ((X0 u6) r) _
  unfold dG at h
  refine aB (aQ (aO h fun a1 h=> ?_))
  refine ri tT ⟨[(2,(vP 1 0)),(3,(vP 2 0)),(4,(vP 3 0)),(5,(vI u0))],[Qu,KM,(JU u6),(3,some (.cells 40 [(.own 5 true o_.length)])),(Zq u4),(5,some (.arr 3 1 o_.length (ay (au .i64) (o_.set u0.toNat u1)))),(aal u4)]⟩ [_,_,aC o_.length 1 (jo (ay (au .i64) o_) u0.toNat 0 [(.int .i64 u1)]) (ay (au .i64) (o_.set u0.toNat u1))] {an:=[(4, .arr 0 (ay (au .i64) (o_.set u0.toNat u1)))] } [] ⟨a1,(tL a1),(aW _ _ _ _ _ _ _ _ rfl (fun j hj=>(match j,hj with|0,_=>rfl))),trivial⟩ (bB.le (st':=⟨[(2,(vP 1 0)),(3,(vP 2 0)),(4,(vP 3 0)),(5,(vI u0))],(G7 o_ u0 u1 u4 u6)⟩) ⟨⟨tR,tR,tR,tR,trivial⟩,(hN 3 ⟨rfl,aJ ⟨cW,trivial⟩,⟨rfl, .refl _,⟨rfl,oW,⟨rfl, .refl _,trivial⟩⟩⟩⟩)⟩) ?_
  refine aQ (sz tT ⟨[(2,(vP 1 0)),(3,(vP 2 0)),(4,(vP 3 0)),(27,(vB (!decide (u0=u6))))],(G7 o_ u0 u1 u4 u6)⟩ {} [] ?_)
  refine bI h (fun hb3 h=> ?_) (fun hb3 h=> ?_)
  ·refine ct hb3 ?_
   refine aI (fz ⟨[],(G7 o_ u0 u1 u4 u6)⟩ []) ?_
   refine aX ?_
   obtain rfl:=oi h
   exact nO.on (sl:=QV) (by kernel_rfl) (Ab (by kernel_rfl)) (eX.refl _)
  ·refine cf hb3 ?_
   refine aP (sz tT ⟨[(2,(vP 1 0)),(3,(vP 2 0)),(4,(vP 3 0)),(7,(vI (-1)))],(G7 o_ u0 u1 u4 u6)⟩ {} [] ?_)
   refine aQ (sz tT ⟨[(2,(vP 1 0)),(3,(vP 2 0)),(4,(vP 3 0)),(7,(vI (-1))),(8,(vI u6))],(G7 o_ u0 u1 u4 u6)⟩ {} [] ?_)
   refine bE h fun y1 hy h=> ?_
   refine aL [3] (lZ u0 u1 u6 o_ u4) (mh u0 u1 u6 o_ u4) (X0 u6) hy (fun s f h=> ?_) ?_
   ·clear hy
    show bL _ _ _ _ _ _ ((uJ u0 u1 u6 o_ u4) f) _
    unfold bM at h
    obtain⟨u8,u7⟩:=s
    refine aQ (aQ (aO h fun a1 h=> ?_))
    refine rg tT ⟨[(2,(vP 1 0)),(3,(vP 2 0)),(4,(vP 3 0)),(7,(vI u8)),(8,(vI u7)),(33,(vB (decide (0≤(at' (o_.set u0.toNat u1) u7.toNat)))))],(G7 o_ u0 u1 u4 u6)⟩ [_,_] {} [] ⟨a1,(tL a1),trivial⟩ ?_
    refine bI h (fun hb1 h=> ?_) (fun hb1 h=> ?_)
    ·refine ct hb1 ?_
     refine aP (bE h fun y hy h=> ?_)
     refine VG (o:=y) (fun u9=>(ab3 o_ u0 u1 u4 u6 u9 u7)) ?_ ?_
     ·replace h:=hy
      clear hy
      refine aB (aQ (aO h fun⟨a1,a2⟩ h=> ?_))
      refine dg tT mX ⟨[(2,(vP 1 0)),(3,(vP 2 0)),(4,(vP 3 0)),(7,(vI u8)),(8,(vI u7)),(9,(vI ((at' u4.arcs ((at' (o_.set u0.toNat u1) u7.toNat).toNat)).left)))],(G7 o_ u0 u1 u4 u6)⟩ [_,_,_,_] {} [] ⟨a1,(tL a1),a2,(tL a2),trivial⟩ ?_
      refine sg tT ⟨[(2,(vP 1 0)),(3,(vP 2 0)),(4,(vP 3 0)),(7,(vI u8)),(8,(vI u7)),(9,(vI ((at' u4.arcs ((at' (o_.set u0.toNat u1) u7.toNat).toNat)).left))),(63,(vB (bif (decide (u8<0))then true else(decide (((at' u4.arcs ((at' (o_.set u0.toNat u1) u7.toNat).toNat)).left)<u8)))))],(G7 o_ u0 u1 u4 u6)⟩ (eqs (decide (u8<0)) 4 []) {yb:=[(2,(decide (u8<0)))] } [] (ae trivial) ?_
      refine bI h (fun hb h=> ?_) (fun hb h=> ?_)
      ·refine ct hb ?_
       refine rz tT ⟨[(2,(vP 1 0)),(3,(vP 2 0)),(4,(vP 3 0)),(7,(vI ((at' u4.arcs ((at' (o_.set u0.toNat u1) u7.toNat).toNat)).left))),(8,(vI u7))],(G7 o_ u0 u1 u4 u6)⟩ {} [] ?_
       obtain rfl:=oi h
       exact⟨rfl,by kernel_rfl⟩
      ·refine cf hb ?_
       refine aI (fz (ab3 o_ u0 u1 u4 u6 u8 u7) []) ?_
       refine aP ?_
       obtain rfl:=oi h
       exact⟨rfl,by kernel_rfl⟩
     ·clear hy
      obtain⟨u9,rfl⟩: ∃q,q=y:=⟨_,rfl⟩
      refine aO h fun⟨a1,a2⟩ h=> ?_
      refine dg tT mX ⟨[(2,(vP 1 0)),(3,(vP 2 0)),(4,(vP 3 0)),(7,(vI u9)),(8,(vI ((at' u4.arcs (WT o_ u0 u1 u7)).to_)))],(G7 o_ u0 u1 u4 u6)⟩ [_,_,_,_] {} [] ⟨a1,(tL a1),a2,(tL a2),trivial⟩ ?_
      obtain rfl:=oi h
      exact lN
    ·refine cf hb1 ?_
     refine aI (fz (agh u8 u6 o_ u0 u1 u4) []) ?_
     refine aX ?_
     obtain rfl:=oi h
     exact lB
   ·clear hy
    cases y1 with
    |brk z=>
     obtain⟨u5,rfl⟩: ∃q,q=z:=⟨_,rfl⟩
     unfold fZ
     refine⟨_, .refl, ?_⟩
     refine aQ (sz tT ⟨(UK u5 u6),(G7 o_ u0 u1 u4 u6)⟩ {} [] ?_)
     refine bE h fun y2 hy h=> ?_
     refine aL [3] (mr u0 u1 u6 o_ u4 u5) (lS u0 u1 u6 o_ u4) (X0 u6) hy (fun s f h=> ?_) ?_
     ·clear hy
      show bL _ _ _ _ _ _ ((uy u0 u1 u6 o_ u4 u5) f) _
      unfold bN at h
      obtain⟨u3,u2⟩:=s
      refine aQ (aQ (aO h fun a1 h=> ?_))
      refine rg tT ⟨[(2,(vP 1 0)),(4,(vP 3 0)),(7,(vI u5)),(10,(vI u2)),(70,(vB (decide (0≤(at' (o_.set u0.toNat u1) u2.toNat)))))],(acY u3 u4 u6 o_ u0 u1)⟩ [_,_] {} [] ⟨a1,(tL a1),trivial⟩ ?_
      refine bI h (fun hb2 h=> ?_) (fun hb2 h=> ?_)
      ·refine ct hb2 ?_
       refine aP (aQ (aB (aQ (aO h fun⟨a1,a2⟩ h=> ?_))))
       refine di tT mX ⟨(UK u5 u2),[Qu,KM,(JU u6),(Vp o_ u0 u1),(ahh u3 u4),(VE o_ u0 u1),(6,some (.arr 170 2 u3.length (Zn o_ u0 u1 u3 u2 u5)))]⟩ [_,_,_,_,_,_,aC u3.length 2 (jo (ay aV.cell u3) ((at' (o_.set u0.toNat u1) u2.toNat).toNat) 1 [(.int .i64 (IntKind.wrap .i64 (((at' u3 ((at' (o_.set u0.toNat u1) u2.toNat).toNat)).left) - u5)))]) (Zn o_ u0 u1 u3 u2 u5)] {an:=[(15, .arr 0 (Zn o_ u0 u1 u3 u2 u5))] } [] ⟨a1,(tL a1),a2,(tL a2),a2,(tL a2),(aW _ _ _ _ _ _ _ _ rfl (fun j hj=>(match j,hj with|0,_=>rfl|1,_=>rfl))),trivial⟩ (bB.le (st':=⟨(UK u5 u2),[Qu,KM,(JU u6),(Vp o_ u0 u1),(ai4 o_ u4 u0 u1 u3 u2 u5),(VE o_ u0 u1),(6,some (bg 170 2 aV.cell (Ri o_ u0 u1 u3 u2 u5)))]⟩) ⟨⟨tR,tR,tR,tR,trivial⟩,(hN 4 ⟨rfl,aJ ⟨cW,bR.refl _,trivial⟩,⟨rfl, .refl _,⟨rfl,oW,trivial⟩⟩⟩)⟩) ?_
       refine aO h fun⟨a1,a2⟩ h=> ?_
       refine di tT mX ⟨(UK u5 u2),[Qu,KM,(JU u6),(Vp o_ u0 u1),(ai4 o_ u4 u0 u1 u3 u2 u5),(VE o_ u0 u1),(6,some (.arr 170 2 (Ri o_ u0 u1 u3 u2 u5).length (aen o_ u0 u1 u3 u2 u5)))]⟩ [_,_,_,_,_,_,aC (Ri o_ u0 u1 u3 u2 u5).length 2 (jo (Zn o_ u0 u1 u3 u2 u5) (WT o_ u0 u1 u2) 1 [(.int .i64 (ahe o_ u0 u1 u3 u2 u5))]) (aen o_ u0 u1 u3 u2 u5)] {an:=[(16, .arr 0 (aen o_ u0 u1 u3 u2 u5))] } [] ⟨a1,(tL a1),a2,(tL a2),a2,(tL a2),(aW _ _ _ _ _ _ _ _ rfl (fun j hj=>(match j,hj with|0,_=>rfl|1,_=>rfl))),trivial⟩ (bB.le (st':=⟨(UK u5 u2),(akf u6 o_ u4 u0 u1 u3 u2 u5)⟩) ⟨⟨tR,tR,tR,tR,trivial⟩,(hN 4 ⟨rfl,aJ ⟨cW,bR.refl _,trivial⟩,⟨rfl, .refl _,⟨rfl,oW,trivial⟩⟩⟩)⟩) ?_
       refine aO h fun⟨a1,a2⟩ h=> ?_
       refine dg tT mX ⟨[(2,(vP 1 0)),(4,(vP 3 0)),(7,(vI u5)),(10,(vI ((at' (Z4 o_ u0 u1 u3 u2 u5) (WT o_ u0 u1 u2)).to_)))],(akf u6 o_ u4 u0 u1 u3 u2 u5)⟩ [_,_,_,_] {} [] ⟨a1,(tL a1),a2,(tL a2),trivial⟩ ?_
       obtain rfl:=oi h
       exact lN
      ·refine cf hb2 ?_
       refine aI (fz (aiF u6 o_ u0 u1 u3 u4) []) ?_
       refine aX ?_
       obtain rfl:=oi h
       exact lB
     ·clear hy
      cases y2 with
      |brk z=>
       obtain⟨v0,rfl⟩: ∃q,q=z:=⟨_,rfl⟩
       unfold fZ
       refine⟨_, .refl, ?_⟩
       refine aX ?_
       obtain rfl:=oi h
       exact nO.off (sl:=QV) (k:=0) (c:= .exit 1) (by kernel_rfl) rfl rfl (by kernel_rfl) (Ab (by kernel_rfl)) (eX.refl _)
      |ret v=>
       obtain rfl:=oi h
       unfold fZ
       intro e st hn ha hR
       cases e with
       |normal=>exact absurd rfl hn
       |exit id=>simp only [rF (b:=3) ha rfl,cond_false];exact hR
       |goto l=>exact hR
       |ret=>exact hR
       |panic c=>exact hR
       |outgrown=>exact hR
    |ret v=>
     obtain rfl:=oi h
     unfold fZ
     intro e st hn ha hR
     cases e with
     |normal=>exact absurd rfl hn
     |exit id=>simp only [rF (b:=3) ha rfl,cond_false];exact hR
     |goto l=>exact hR
     |ret=>exact hR
     |panic c=>exact hR
     |outgrown=>exact hR
def EG  :aM→Exit→St→Prop:=
  fun r=>bJ TT [] (.iC []) [(0,some (.cells 226 [(.own 2 false r.l.length)])),(1,none),(2,some (bg 164 2 af.cell r.l))]
section
variable (o_:aM)
abbrev NS:Ob:=(bg 164 2 af.cell o_.l)
abbrev aaB:List (Nat × Option Ob):=[(0,some (.cells 226 [(.own 1 false o_.l.length)])),(1,some (NS o_))]
end
theorem uo (x:af) (o_:aM) {r:aM} (h:ja x o_=some r):Fn Try.prog 122 [(.one (.ptr 0 0)),(.agg [(cI x.e0),(cI x.e1)])] (aaB o_) (.iC []) [(0,some (.cells 226 [(.own 2 false r.l.length)])),(1,none),(2,some (bg 164 2 af.cell r.l))]:=by
 refine fN tT Try.func122 rfl rfl fun B=> ?_
 show bL _ _ _ _ _ _ (EG r) _
 unfold ja at h
 refine sz tT ⟨[(0,(vP 0 0)),(3,(vD (kH [(.int .i64 x.e0),(.int .i64 x.e1)] 0)))],(aaB o_)⟩ {fr:=[(0,5)] } [5] ?_
 refine aO h fun⟨a1,a2⟩ h=> ?_
 refine di tT mX ⟨[],[(0,some (.cells 226 [(.own 7 false ((o_.l++[x]).length))])),(1,none),(7,some (bg 164 2 af.cell (o_.l++[x])))]⟩ [[x].length=1,aC 1 2 (jG 2 [(.int .i64 x.e0),(.int .i64 x.e1)]) (ay af.cell [x]),o_.l.length=o_.l.length,_,_,(o_.l++[x]).length=o_.l.length+[x].length,aC (o_.l.length+[x].length) 2 (Dn (ay af.cell o_.l) o_.l.length (ay af.cell [x])) (ay af.cell (o_.l++[x]))] {an:=[(6, .arr [x].length (ay af.cell [x])),(7, .arr (o_.l++[x]).length (ay af.cell (o_.l++[x])))],fr:=[(6,6),(7,7)] } [] ⟨(rfl),((by intro i hi j hj;match i,j,hi,hj with|0,0,_,_=>rfl|0,1,_,_=>rfl)),rfl,a1,a2,(List.length_append),(jY _ _ _ _),trivial⟩ (bB.fin (st':=⟨[],[(0,some (.cells 226 [(.own 2 false ((o_.l++[x]).length))])),(1,none),(2,some (bg 164 2 af.cell (o_.l++[x])))]⟩) (cs:=[]) ⟨[],[(0,0),(1,1),(7,2)]⟩ [] (by kernel_rfl) trivial) ?_
 obtain rfl:=oi h
 exact bJ.mk (.inl rfl) (p:=[]) (l:=[]) (by kernel_rfl) trivial (eX.refl _) ⟨rfl, .refl _,⟨rfl,trivial,⟨rfl, .refl _,trivial⟩⟩⟩
def Dx  :(af × Bool × aM)→Exit→St→Prop:=
  fun r=>bJ TT [.cell 2 164, .tmp 3] (.iC [(.agg [(cI r.1.e0),(cI r.1.e1)]),(sB r.2.1)]) [(0,some (.cells 226 [(.own 2 false r.2.2.l.length)])),(1,none),(2,some (bg 164 2 af.cell r.2.2.l))]
section
variable (o_:aM)
abbrev ahp:List (Nat × Option Ob):=[(0,some (.cells 226 [(.own 1 false o_.l.length)])),(1,some (NS o_)),(4,some (.cells 164 [(cI 0),(cI 0)]))]
abbrev ad4:List (Nat × TV):=[(2,(vD (kH [(.int .i64 0),(.int .i64 0)] 0))),(3,(vB false))]
abbrev ae1:Nat × Option Ob:=(4,some (.cells 164 [(cI ((at' o_.l 0).e0)),(cI ((at' o_.l 0).e1))]))
abbrev aiv:List (Nat × TV):=[(2,(vD (kH [(.int .i64 ((at' o_.l 0).e0)),(.int .i64 ((at' o_.l 0).e1))] 0))),(3,(vB true))]
end
theorem rU (o_:aM) {r:(af × Bool × aM)} (h:iE o_=some r):Fn Try.prog 123 [(.one (.ptr 0 0))] (aaB o_) (.iC [(.agg [(cI r.1.e0),(cI r.1.e1)]),(sB r.2.1)]) [(0,some (.cells 226 [(.own 2 false r.2.2.l.length)])),(1,none),(2,some (bg 164 2 af.cell r.2.2.l))]:=by
 refine fN tT Try.func123 rfl rfl fun B=> ?_
 show bL _ _ _ _ _ _ (Dx r) _
 unfold iE at h
 refine sz tT ⟨[(0,(vP 0 0)),(2,(vP 4 0))],(ahp o_)⟩ {fr:=[(0,4)] } [] ?_
 refine aQ (sz tT ⟨[(0,(vP 0 0)),(2,(vP 4 0)),(9,(vB (decide ((o_.l.length:Int)=0))))],(ahp o_)⟩ {} [] ?_)
 refine bI h (fun hb h=> ?_) (fun hb h=> ?_)
 ·refine ct hb ?_
  refine sz tT ⟨ad4,(aaB o_)⟩ {} [4] ?_
  refine aI (.trans (bB.XG (E0:=226) (cs:=[(.own 1 false o_.l.length)]) (nn:=false) (len:=o_.l.length) (E:=164) (esz:=2) (n:=o_.l.length) (el:=ay af.cell o_.l) (p:=0) (q:=0) (b:=1) (b':=5) (by kernel_rfl) (by kernel_rfl) (by kernel_rfl) (by kernel_rfl)) (.trans (fz ⟨ad4,[(0,some (.cells 226 [(.own 5 false o_.l.length)])),(1,none),(5,some (NS o_))]⟩ []) (bB.fin (st':=⟨ad4,[(0,some (.cells 226 [(.own 2 false o_.l.length)])),(1,none),(2,some (NS o_))]⟩) (cs:=[]) ⟨[],[(0,0),(1,1),(5,2)]⟩ [2,3] (by kernel_rfl) trivial))) ?_
  refine aR ?_
  obtain rfl:=oi h
  exact rh [(.agg [(cI 0),(cI 0)]),(sB false)] (.refl _) ⟨rfl, .refl _,⟨rfl,trivial,⟨rfl, .refl _,trivial⟩⟩⟩
 ·refine cf hb ?_
  refine aP (aQ (aO h fun⟨a1,a2⟩ h=> ?_))
  refine di tT mX ⟨[(2,(vP 4 0))],[(0,some (.cells 226 [(.own 6 false (o_.l.length - 1))])),(1,some (NS o_)),(ae1 o_),(6,some (.suf 1 1 2))]⟩ [_,_,o_.l.length=o_.l.length,_] {an:=[(11, .cells)],fr:=[(11,6)] } [] ⟨a1,(tL a1),rfl,a2,trivial⟩ (.trans (bB.afa (b:=1) (c:=6) (k:=1) (E:=164) (esz:=2) (cf:=af.cell) (l:=o_.l) (by kernel_rfl) (by kernel_rfl) (by omega)) (.trans (fz ⟨[(2,(vP 4 0))],[(0,some (.cells 226 [(.own 6 false (o_.l.length - 1))])),(1,none),(ae1 o_),(6,some (.arr 164 2 (o_.l.length - 1) (ay af.cell (o_.l.drop 1))))]⟩ []) (bB.le (st':=⟨[(2,(vP 4 0))],[(0,some (.cells 226 [(.own 6 false ((o_.l.drop 1).length))])),(1,none),(ae1 o_),(6,some (bg 164 2 af.cell (o_.l.drop 1)))]⟩) ⟨⟨tR,trivial⟩,⟨rfl,aJ ⟨cW,trivial⟩,(hN 2 ⟨rfl,oW,trivial⟩)⟩⟩))) ?_
  refine sz tT ⟨(aiv o_),[(0,some (.cells 226 [(.own 6 false ((o_.l.drop 1).length))])),(1,none),(6,some (bg 164 2 af.cell (o_.l.drop 1)))]⟩ {} [4] ?_
  refine aI (bB.fin (st':=⟨(aiv o_),[(0,some (.cells 226 [(.own 2 false ((o_.l.drop 1).length))])),(1,none),(2,some (bg 164 2 af.cell (o_.l.drop 1)))]⟩) (cs:=[]) ⟨[],[(0,0),(1,1),(6,2)]⟩ [2,3] (by kernel_rfl) trivial) ?_
  refine aR ?_
  obtain rfl:=oi h
  exact rh [(.agg [(cI ((at' o_.l 0).e0)),(cI ((at' o_.l 0).e1))]),(sB true)] (.refl _) ⟨rfl, .refl _,⟨rfl,trivial,⟨rfl, .refl _,trivial⟩⟩⟩
section
variable (u0:Int)
abbrev Yg:List (Nat × TV):=[(2,(vP 2 0)),(3,(vP 3 0)),(4,(vP 4 0))]
abbrev sW:Nat × Option Ob:=(1,some (.cells 157 [(.ptr 5 0)]))
abbrev qC:Nat × Option Ob:=(2,some (.cells 157 [(.ptr 5 0)]))
abbrev qF:Nat × Option Ob:=(3,some (.cells 3 [(cI u0)]))
end
def jr (u0:Int):(Nat × (List Int) × Network)→Exit→St→Prop:=
  fun r=>bJ TT [] (.iC []) [(0,some (.loop aN r.1 Yg)),sW,qC,(qF u0),(4,some (.cells 40 [(.own 6 true r.2.1.length)])),(5,some (.cells 161 [(.own 7 false r.2.2.arcs.length),(.d (aG none 1 (ML 1 (au .i64)) r.2.2.from_))])),(6,some (bg 3 1 (au .i64) r.2.1)),(7,some (bg 170 2 aV.cell r.2.2.arcs))]
section
variable (u2:(List Bool)) (u1:(List Int)) (u4:(List (List Int))) (q0:(List af)) (u5:Int) (u6:Int)
abbrev eZ:Nat × TV:=(0,(.v (.one (.yl 0))))
abbrev EN:Nat × TV:=(3,(vO 56 true u2.length))
abbrev Y8:List (Nat × TV):=[eZ,(1,(vP 1 0)),(EN u2),(4,(vP 57 0)),(5,(vP 59 0))]
abbrev wm:Nat × Option Ob:=(0,some (.loop aN 0 Yg))
abbrev LF:Nat × Option Ob:=(4,some (.cells 40 [(.own 6 true u1.length)]))
abbrev OU:DV:=(aG none 1 (ML 1 (au .i64)) u4)
abbrev Ls:Nat × Option Ob:=(6,some (wW u1))
abbrev Nj:Nat × Option Ob:=(56,some (bg 4 1 ah u2))
abbrev Vx:Nat × Option Ob:=(57,some (.cells 226 [(.own 58 false q0.length)]))
abbrev Ou:Ob:=(bg 164 2 af.cell q0)
abbrev Vt:Nat × Option Ob:=(58,some (Ou q0))
abbrev Og:Nat × Option Ob:=(59,some (.cells 164 [(cI u5),(cI u6)]))
end
def lJ (u3:Int):((List aV) × (List (List Int)) × (List Int) × (List Bool) × (List af) × Int × Int)→St:=
  fun zz=>match zz with|(u0,u4,u1,u2,q0,u5,u6)=> ⟨(Y8 u2),[wm,sW,qC,(qF u3),(LF u1),(5,some (.cells 161 [(.own 7 false u0.length),(.d (OU u4))])),(Ls u1),(7,some (bg 170 2 aV.cell u0)),(Nj u2),(Vx q0),(Vt q0),(Og u5 u6)]⟩
def mq  :Unit→St:=
  fun _=> ⟨[],[]⟩
def iT (u0:Int):(aU ((List aV) × (List (List Int)) × (List Int) × (List Bool) × (List af) × Int × Int) (Ex Unit (Nat × (List Int) × Network)))→Exit→St→Prop:=
  LQ 0 [] (lJ u0) mq (jr u0)
section
variable (r_:(Nat × (List Int) × Network)) (u0:Int) (u3:Int) (u1:(List Bool)) (u2:(List af)) (u4:Int)
abbrev KO:Nat × TV:=(34,(vD (aG none 1 (au .i64) (at' r_.2.2.from_ u0.toNat))))
abbrev JP:Nat × TV:=(35,(vI ((at' r_.2.2.from_ u0.toNat).length:Int)))
abbrev Dp:Nat × Option Ob:=(4,some (.cells 40 [(.own 6 true r_.2.1.length)]))
abbrev Dg:Nat × Option Ob:=(5,some (.cells 161 [(.own 7 false r_.2.2.arcs.length),(.d (aG none 1 (ML 1 (au .i64)) r_.2.2.from_))]))
abbrev Dt:Nat × Option Ob:=(6,some (bg 3 1 (au .i64) r_.2.1))
abbrev Dm:Nat × Option Ob:=(7,some (bg 170 2 aV.cell r_.2.2.arcs))
abbrev Si:List (Nat × Option Ob):=[wm,sW,qC,(qF u3),(Dp r_),(Dg r_),(Dt r_),(Dm r_),(Nj u1),(Vx u2),(Vt u2),(Og u0 u4)]
end
def lM (u3:Int) (u0:Int) (u4:Int) (r_:(Nat × (List Int) × Network)):((List Bool) × (List af) × Int)→St:=
  fun zz=>match zz with|(u1,u2,u5)=> ⟨[eZ,(1,(vP 1 0)),(EN u1),(4,(vP 57 0)),(5,(vP 59 0)),(KO r_ u0),(JP r_ u0),(36,(vI u5))],(Si r_ u0 u3 u1 u2 u4)⟩
section
variable (u0:(List Bool)) (u2:Int) (r_:(Nat × (List Int) × Network)) (u1:(List af)) (u3:Int) (u4:Int)
abbrev aiY:St:=⟨(Y8 u0),(Si r_ u3 u2 u0 u1 u4)⟩
end
def l8 (u2:Int) (u3:Int) (u4:Int) (r_:(Nat × (List Int) × Network)):((List Bool) × (List af))→St:=
  fun zz=>match zz with|(u0,u1)=>(aiY u0 u2 r_ u1 u3 u4)
def uG (u0:Int) (u1:Int) (u2:Int) (r_:(Nat × (List Int) × Network)):(aU ((List Bool) × (List af) × Int) (Ex ((List Bool) × (List af)) (aU ((List aV) × (List (List Int)) × (List Int) × (List Bool) × (List af) × Int × Int) (Ex Unit (Nat × (List Int) × Network)))))→Exit→St→Prop:=
  LQ 2 [1] (lM u0 u1 u2 r_) (l8 u0 u1 u2 r_) (iT u0)
section
variable (u1:Network) (u2:Int) (v0:(List Int)) (u9:(List aV)) (v3:(List (List Int))) (r_:(Nat × (List Int) × Network)) (u0:Int) (u3:Int) (u4:(List Bool)) (u7:(List af)) (u6:Int) (v2:aM) (u5:(af × Bool × aM)) (u8:(List Bool))
abbrev QN:Nat × Option Ob:=(5,some (.cells 161 [(.own 7 false u1.arcs.length),(.d (Jc u1))]))
abbrev Q0:Nat × Option Ob:=(7,some (Vb u1))
abbrev OI:=(List.replicate ((u1.from_.length:Int).toNat) (false:Bool))
abbrev ajx:List (Nat × TV):=[eZ,(1,(vP 1 0)),(3,(vO 56 true ((OI u1).length)))]
abbrev abY:=(ay ah (OI u1))
abbrev ac5:=((OI u1).set 0 true)
abbrev ad2:=(ay ah (ac5 u1))
abbrev adt:Nat × TV:=(3,(vO 56 true ((ac5 u1).length)))
abbrev Xt:Nat × Option Ob:=(56,some (bg 4 1 ah (ac5 u1)))
abbrev adX:List (Nat × TV):=[eZ,(1,(vP 1 0)),(adt u1),(4,(vP 57 0))]
abbrev V6:Ob:=(bg 164 2 af.cell ([]:List af))
abbrev ajD:List (Nat × Option Ob):=[wm,qC,(qF u2),(LF v0),(5,some (.cells 161 [(.own 7 false u9.length),(.d (OU v3))])),(Ls v0),(7,some (bg 170 2 aV.cell u9))]
abbrev agp:List (Nat × Option Ob):=[wm,qC,(qF u2),(Dp r_),(Dg r_),(Dt r_),(Dm r_)]
abbrev acN:Nat × Option Ob:=(0,some (.loop aN r_.1 Yg))
abbrev aan:List (Nat × Option Ob):=[(acN r_),qC,(qF u2),(Dp r_),(Dg r_),(Dt r_),(Dm r_)]
abbrev Yv:Nat × TV:=(7,(vI (at' (at' r_.2.2.from_ u0.toNat) u3.toNat)))
abbrev YB:=(at' r_.2.2.arcs ((at' (at' r_.2.2.from_ u0.toNat) u3.toNat).toNat))
abbrev aay:=((YB r_ u0 u3).to_)
abbrev adL:=((YB r_ u0 u3).left)
abbrev aj3:List (Nat × Option Ob):=[wm,sW,qC,(qF u2),(Dp r_),(Dg r_),(Dt r_),(Dm r_),(Nj u4),(Vx u7),(Vt u7),(Og u0 u6),(99,some (.cells 170 [(cI (aay r_ u0 u3)),(cI (adL r_ u0 u3))]))]
abbrev Rm:=(decide (0<(adL r_ u0 u3)))
abbrev adK:=((aay r_ u0 u3).toNat)
abbrev af7:=(jP [(3,(Rm r_ u0 u3))])
abbrev ahk:Nat × TV:=(8,(vD (kH [(.int .i64 (aay r_ u0 u3)),(.int .i64 (adL r_ u0 u3))] 0)))
abbrev abZ:=(u4.set (adK r_ u0 u3) true)
abbrev adZ:=(ay ah (abZ r_ u0 u3 u4))
abbrev adW:Nat × TV:=(3,(vO 56 true ((abZ r_ u0 u3 u4).length)))
abbrev acL:Nat × Option Ob:=(56,some (bg 4 1 ah (abZ r_ u0 u3 u4)))
abbrev agI:List (Nat × Option Ob):=[wm,sW,qC,(qF u2),(Dp r_),(Dg r_),(Dt r_),(Dm r_),(acL r_ u0 u3 u4),(57,some (.cells 226 [(.own 100 false v2.l.length)])),(Og u0 u6),(100,some (NS v2))]
abbrev aah:Nat × TV:=(36,(k3 u3))
abbrev ag3:List (Nat × TV):=[eZ,(1,(vP 1 0)),(adW r_ u0 u3 u4),(4,(vP 57 0)),(5,(vP 59 0)),(KO r_ u0),(JP r_ u0),(aah u3)]
abbrev ZH:Nat × Option Ob:=(57,some (.cells 226 [(.own 101 false u5.2.2.l.length)]))
abbrev YX:Nat × Option Ob:=(101,some (bg 164 2 af.cell u5.2.2.l))
abbrev OT:Ob:=(.cells 164 [(cI u5.1.e0),(cI u5.1.e1)])
abbrev aja:List (Nat × Option Ob):=[wm,sW,qC,(qF u2),(Dp r_),(Dg r_),(Dt r_),(Dm r_),(Nj u8),(ZH u5),(Og u0 u6),(YX u5),(102,some (OT u5))]
end
theorem lX (u2:Int) (o_:(List Int)) (u1:Network) {r:(Nat × (List Int) × Network)} (h:fB u2 o_ u1=some r):Fn Try.prog 121 [(.one (.yl 0)),(.one (.ptr 1 0))] [wm,sW,qC,(qF u2),(LF o_),(QN u1),(Ls o_),(Q0 u1)] (.iC []) [(0,some (.loop aN r.1 Yg)),sW,qC,(qF u2),(4,some (.cells 40 [(.own 6 true r.2.1.length)])),(5,some (.cells 161 [(.own 7 false r.2.2.arcs.length),(.d (aG none 1 (ML 1 (au .i64)) r.2.2.from_))])),(6,some (bg 3 1 (au .i64) r.2.1)),(7,some (bg 170 2 aV.cell r.2.2.arcs))]:=by
 refine fN tT Try.func121 rfl rfl fun B=> ?_
 show bL _ _ _ _ _ _ ((jr u2) r) _
 unfold fB at h
 refine aQ (aO h fun⟨a1,a2,a3⟩ h=> ?_)
 refine rg tT ⟨(ajx u1),[wm,sW,qC,(qF u2),(LF o_),(QN u1),(Ls o_),(Q0 u1),(56,some (bg 4 1 ah (OI u1)))]⟩ [_,((u1.from_.length:Int):Int)=(u1.from_.length:Int),_,_,(OI u1).length=((u1.from_.length:Int).toNat),aC ((u1.from_.length:Int).toNat) 1 (fun _ j=>[(.bool false)].getD j .nilp) (abY u1)] {an:=[(5, .arr (OI u1).length (abY u1))],fr:=[(5,56)] } [] ⟨a1,rfl,a2,a3,(List.length_replicate),(dO _ _ _ _ _ (fun j hj=>(match j,hj with|0,_=>rfl))),trivial⟩ ?_
 refine aQ (aO h fun a1 h=> ?_)
 refine ri tT ⟨(ajx u1),[wm,sW,qC,(qF u2),(LF o_),(QN u1),(Ls o_),(Q0 u1),(56,some (.arr 4 1 (OI u1).length (ad2 u1)))]⟩ [_,_,aC (OI u1).length 1 (jo (abY u1) 0 0 [(.bool true)]) (ad2 u1)] {an:=[(2, .arr 0 (ad2 u1))] } [] ⟨a1,(tL a1),(aW _ _ _ _ _ _ _ _ rfl (fun j hj=>(match j,hj with|0,_=>rfl))),trivial⟩ (bB.le (st':=⟨[eZ,(1,(vP 1 0)),(adt u1)],[wm,sW,qC,(qF u2),(LF o_),(QN u1),(Ls o_),(Q0 u1),(Xt u1)]⟩) ⟨⟨tR,tR,⟨_,rfl,eX.v (eO.one cW)⟩,trivial⟩,(hN 8 ⟨rfl,oW,trivial⟩)⟩) ?_
 refine si tT ⟨(adX u1),[wm,sW,qC,(qF u2),(LF o_),(QN u1),(Ls o_),(Q0 u1),(Xt u1),(57,some (.cells 226 [(.d nS)]))]⟩ [] {fr:=[(0,57)] } [] trivial (.trans (bB.rA (E:=0) (esz:=0) (E0:=226) (cs:=[(.d nS)]) (p:=57) (q:=0) (b:=58) (esz0:=0) (el0:=fun _ _=> .nilp) (ob:= .arr 164 2 0 (ay af.cell ([]:List af))) (fun _ _ _ _ h=> .inl ⟨h,rfl⟩) (by kernel_rfl) (by kernel_rfl) (by kernel_rfl)) (.trans (fz ⟨(adX u1),[wm,sW,qC,(qF u2),(LF o_),(QN u1),(Ls o_),(Q0 u1),(Xt u1),(57,some (.cells 226 [(.own 58 false 0)])),(58,some (.arr 164 2 0 (ay af.cell ([]:List af))))]⟩ []) (bB.le (st':=⟨(adX u1),[wm,sW,qC,(qF u2),(LF o_),(QN u1),(Ls o_),(Q0 u1),(Xt u1),(57,some (.cells 226 [(.own 58 false (([]:List af).length))])),(58,some V6)]⟩) ⟨⟨tR,tR,tR,tR,trivial⟩,(hN 9 ⟨rfl,aJ ⟨cW,trivial⟩,⟨rfl,oW,trivial⟩⟩)⟩))) ?_
 refine sz tT ⟨[eZ,(1,(vP 1 0)),(adt u1),(4,(vP 57 0)),(5,(vP 59 0))],[wm,sW,qC,(qF u2),(LF o_),(QN u1),(Ls o_),(Q0 u1),(Xt u1),(57,some (.cells 226 [(.own 58 false (([]:List af).length))])),(58,some V6),(59,some (.cells 164 [(cI 0),(cI (-1))]))]⟩ {fr:=[(1,59)] } [] ?_
 refine bE h fun y1 hy h=> ?_
 refine aL [] (lJ u2) mq (jr u2) hy (fun s f h=> ?_) ?_
 ·clear hy
  show bL _ _ _ _ _ _ ((iT u2) f) _
  unfold fO at h
  obtain⟨u9,v3,v0,v1,q0,u0,u6⟩:=s
  refine aQ (aB (aQ (aQ (bE h fun r_ hr_ h=> ?_))))
  refine bI h (fun hb h=> ?_) (fun hb h=> ?_)
  ·skip
   refine rg tT ⟨[eZ,(1,(vP 1 0)),(EN v1),(4,(vP 57 0)),(5,(vP 59 0)),(26,(vB false))],(Si r_ u0 u2 v1 q0 u6)⟩ [(0:Int)≤0∧(0:Int)<(2:Nat),(0:Int)≤1∧(1:Int)<(2:Nat),Yl Try.prog 0 [(sI u0),(sI u6)] (ajD u2 v0 u9 v3) (vB true) (agp u2 r_)] {an:=[(5, .call [0,2,3,4,5,6,7] (vB true) (agp u2 r_))] } [] ⟨((by decide)),((by decide)),(Yl.leR (res:=(vB (Nat.beq r_.1 0))) (hout:=(aan u2 r_)) (yK [(1,2),(1,3),(1,4),(1,5),(1,6),(1,7)] (lY u0 u6 u2 v0 (⟨u9,v3⟩:Network) hr_)) (eX.of (congrArg vB hb)) ⟨rfl,TY.of (congrArg (fun n=>some (Ob.loop aN n Yg)) (Nat.eq_of_beq_eq_true hb)),(.refl _)⟩),trivial⟩ ?_
   refine cn (aP (aQ (aQ (aO h fun a1 h=> ?_))))
   refine dg tT mX ⟨[eZ,(1,(vP 1 0)),(EN v1),(4,(vP 57 0)),(5,(vP 59 0)),(KO r_ u0),(JP r_ u0),(36,(vI 0))],(Si r_ u0 u2 v1 q0 u6)⟩ [(0:Int)≤0∧(0:Int)<(2:Nat),_] {} [] ⟨((by decide)),a1,trivial⟩ ?_
   refine bE h fun y hy h=> ?_
   refine aL [1] (lM u2 u0 u6 r_) (l8 u2 u0 u6 r_) (iT u2) hy (fun s f h=> ?_) ?_
   ·clear hy
    show bL _ _ _ _ _ _ ((uG u2 u0 u6 r_) f) _
    unfold dH at h
    obtain⟨u4,u7,u3⟩:=s
    refine sz tT ⟨[eZ,(1,(vP 1 0)),(EN u4),(4,(vP 57 0)),(5,(vP 59 0)),(KO r_ u0),(JP r_ u0),(36,(vI u3)),(37,(vB (decide (u3<((at' r_.2.2.from_ u0.toNat).length:Int)))))],(Si r_ u0 u2 u4 u7 u6)⟩ {} [] ?_
    refine aQ ?_
    refine bI h (fun hb2 h=> ?_) (fun hb2 h=> ?_)
    ·refine ct hb2 ?_
     refine aP (aQ (aB (aQ (aO h fun a1 h=> ?_))))
     refine rg tT ⟨[eZ,(1,(vP 1 0)),(EN u4),(4,(vP 57 0)),(5,(vP 59 0)),(Yv r_ u0 u3),(KO r_ u0),(JP r_ u0),(36,(vI u3))],(Si r_ u0 u2 u4 u7 u6)⟩ [_] {} [] ⟨a1,trivial⟩ ?_
     refine aQ (aO h fun a1 h=> ?_)
     refine rg tT ⟨[eZ,(1,(vP 1 0)),(EN u4),(4,(vP 57 0)),(5,(vP 59 0)),(Yv r_ u0 u3),(8,(vP 99 0)),(KO r_ u0),(JP r_ u0),(36,(vI u3))],(aj3 u2 r_ u0 u3 u4 u7 u6)⟩ [_,_] {fr:=[(7,99)] } [] ⟨a1,(tL a1),trivial⟩ ?_
     refine aQ (aO h fun a1 h=> ?_)
     refine rg tT ⟨[eZ,(1,(vP 1 0)),(EN u4),(4,(vP 57 0)),(5,(vP 59 0)),(Yv r_ u0 u3),(8,(vP 99 0)),(KO r_ u0),(JP r_ u0),(36,(vI u3)),(57,(vB (bif (Rm r_ u0 u3)then(!(at' u4 (adK r_ u0 u3)))else false)))],(aj3 u2 r_ u0 u3 u4 u7 u6)⟩ (eqs (Rm r_ u0 u3) 4 ((gP (af7 r_ u0 u3) [(3,true)]→All [(0:Int)≤(YB r_ u0 u3).to_∧(YB r_ u0 u3).to_<(u4.length:Int)])::((Rm r_ u0 u3)=(Rm r_ u0 u3))::(gP (af7 r_ u0 u3) [(3,true)]→All [(aay r_ u0 u3).toNat<u4.length])::(eqs (Rm r_ u0 u3) 2 []))) {yb:=[(3,(Rm r_ u0 u3))] } [] (ae ⟨(fun hg=> ⟨(a1 (aY hg)),trivial⟩),rfl,(fun hg=> ⟨((fun hq=>tL (a1 hq)) (aY hg)),trivial⟩),(ae trivial)⟩) ?_
     refine bI h (fun hb1 h=> ?_) (fun hb1 h=> ?_)
     ·refine ct hb1 ?_
      refine aQ (aO h fun a1 h=> ?_)
      refine ri tT ⟨[eZ,(1,(vP 1 0)),(EN u4),(4,(vP 57 0)),(5,(vP 59 0)),(Yv r_ u0 u3),(ahk r_ u0 u3),(KO r_ u0),(JP r_ u0),(36,(vI u3))],[wm,sW,qC,(qF u2),(Dp r_),(Dg r_),(Dt r_),(Dm r_),(56,some (.arr 4 1 u4.length (adZ r_ u0 u3 u4))),(Vx u7),(Vt u7),(Og u0 u6)]⟩ [_,_,aC u4.length 1 (jo (ay ah u4) (adK r_ u0 u3) 0 [(.bool true)]) (adZ r_ u0 u3 u4)] {an:=[(4, .arr 0 (adZ r_ u0 u3 u4))] } [99] ⟨a1,(tL a1),(aW _ _ _ _ _ _ _ _ rfl (fun j hj=>(match j,hj with|0,_=>rfl))),trivial⟩ (bB.le (st':=⟨[eZ,(1,(vP 1 0)),(adW r_ u0 u3 u4),(4,(vP 57 0)),(5,(vP 59 0)),(Yv r_ u0 u3),(ahk r_ u0 u3),(KO r_ u0),(JP r_ u0),(36,(vI u3))],[wm,sW,qC,(qF u2),(Dp r_),(Dg r_),(Dt r_),(Dm r_),(acL r_ u0 u3 u4),(Vx u7),(Vt u7),(Og u0 u6)]⟩) ⟨⟨tR,tR,⟨_,rfl,eX.v (eO.one cW)⟩,tR,tR,tR,tR,tR,tR,tR,trivial⟩,(hN 8 ⟨rfl,oW,(.refl _)⟩)⟩) ?_
      refine bE h fun v2 hr_1 h=> ?_
      have q0:=rk [(0,57),(1,58),(2,100)] (uo (⟨(YB r_ u0 u3).to_,(at' (at' r_.2.2.from_ u0.toNat) u3.toNat)⟩:af) (⟨u7⟩:aM) hr_1)
      refine rg tT ⟨[eZ,(1,(vP 1 0)),(adW r_ u0 u3 u4),(4,(vP 57 0)),(5,(vP 59 0)),(KO r_ u0),(JP r_ u0),(36,(vI u3))],(agI u2 r_ u0 u3 u4 u6 v2)⟩ [_] {an:=[(4,cA q0 [57,58])] } [] ⟨q0,trivial⟩ ?_
      refine ri tT ⟨(ag3 r_ u0 u3 u4),(agI u2 r_ u0 u3 u4 u6 v2)⟩ [] {} [] trivial (bB.fin (st':=⟨(ag3 r_ u0 u3 u4),[wm,sW,qC,(qF u2),(Dp r_),(Dg r_),(Dt r_),(Dm r_),(acL r_ u0 u3 u4),(57,some (.cells 226 [(.own 58 false v2.l.length)])),(58,some (NS v2)),(Og u0 u6)]⟩) (cs:=[]) ⟨[],[(0,0),(1,1),(2,2),(3,3),(4,4),(5,5),(6,6),(7,7),(56,56),(57,57),(100,58),(59,59)]⟩ [0,1,3,4,5,34,35,36] (by kernel_rfl) trivial) ?_
      obtain rfl:=oi h
      exact lN
     ·refine cf hb1 ?_
      refine aP (rz tT ⟨[eZ,(1,(vP 1 0)),(EN u4),(4,(vP 57 0)),(5,(vP 59 0)),(KO r_ u0),(JP r_ u0),(aah u3)],(Si r_ u0 u2 u4 u7 u6)⟩ {} [] ?_)
      obtain rfl:=oi h
      exact lN
    ·refine cf hb2 ?_
     refine aI (fz (aiY u4 u2 r_ u7 u0 u6) []) ?_
     refine aX ?_
     obtain rfl:=oi h
     exact lB
   ·clear hy
    cases y with
    |brk z=>
     obtain⟨u8,v4⟩:=z
     unfold fZ
     refine⟨_, .refl, ?_⟩
     refine aQ (bE h fun u5 hr_2 h=> ?_)
     have q0:=rk [(0,57),(1,58),(2,101)] (rU (⟨v4⟩:aM) hr_2)
     refine rg tT ⟨[eZ,(1,(vP 1 0)),(EN u8),(4,(vP 57 0)),(5,(vP 59 0)),(9,(vP 102 0)),(10,(vB u5.2.1))],(aja u2 r_ u0 u6 u5 u8)⟩ [_] {an:=[(0,cA q0 [57,58])],fr:=[(4,102)] } [] ⟨q0,trivial⟩ ?_
     refine aQ (sz tT ⟨[eZ,(1,(vP 1 0)),(EN u8),(4,(vP 57 0)),(5,(vP 59 0)),(9,(vP 102 0)),(73,(vB (!u5.2.1)))],(aja u2 r_ u0 u6 u5 u8)⟩ {} [] ?_)
     refine bI h (fun hb3 h=> ?_) (fun hb3 h=> ?_)
     ·refine ct hb3 ?_
      refine aI (fz ⟨[],[wm,sW,qC,(qF u2),(Dp r_),(Dg r_),(Dt r_),(Dm r_)]⟩ []) ?_
      refine aR ?_
      obtain rfl:=oi h
      exact lR fQ (fT 0) fU (bJ.mk (.inr rfl) (p:=[]) (l:=[]) (by kernel_rfl) trivial (eX.refl _) (.refl _))
     ·refine cf hb3 ?_
      refine aP (rz tT ⟨(Y8 u8),[wm,sW,qC,(qF u2),(Dp r_),(Dg r_),(Dt r_),(Dm r_),(Nj u8),(ZH u5),(59,some (OT u5)),(YX u5)]⟩ {} [] ?_)
      refine sz tT ⟨[eZ,(1,(vP 1 0)),(EN u8),(4,(vP 57 0)),(75,(.v (.agg [(cI u5.1.e0),(cI u5.1.e1)])))],[wm,sW,qC,(qF u2),(Dp r_),(Dg r_),(Dt r_),(Dm r_),(Nj u8),(ZH u5),(YX u5)]⟩ {} [] ?_
      refine ri tT ⟨[eZ,(1,(vP 1 0)),(EN u8),(4,(vP 57 0)),(5,(vP 103 0))],[wm,sW,qC,(qF u2),(Dp r_),(Dg r_),(Dt r_),(Dm r_),(Nj u8),(ZH u5),(YX u5),(103,some (OT u5))]⟩ [] {fr:=[(0,103)] } [] trivial (bB.fin (st':=⟨(Y8 u8),[wm,sW,qC,(qF u2),(Dp r_),(Dg r_),(Dt r_),(Dm r_),(Nj u8),(57,some (.cells 226 [(.own 58 false u5.2.2.l.length)])),(58,some (bg 164 2 af.cell u5.2.2.l)),(59,some (OT u5))]⟩) (cs:=[]) ⟨[],[(0,0),(1,1),(2,2),(3,3),(4,4),(5,5),(6,6),(7,7),(56,56),(57,57),(101,58),(103,59)]⟩ [0,1,3,4,5] (by kernel_rfl) trivial) ?_
      obtain rfl:=oi h
      exact lN
    |ret v=>
     obtain rfl:=oi h
     unfold fZ
     intro e st hn ha hR
     cases e with
     |normal=>exact absurd rfl hn
     |exit id=>simp only [rF (b:=1) ha rfl,cond_false];exact hR
     |goto l=>exact hR
     |ret=>exact hR
     |panic c=>exact hR
     |outgrown=>exact hR
  ·skip
   refine rg tT ⟨[eZ,(1,(vP 1 0)),(EN v1),(4,(vP 57 0)),(5,(vP 59 0)),(26,(vB true))],[(acN r_),sW,qC,(qF u2),(Dp r_),(Dg r_),(Dt r_),(Dm r_),(Nj v1),(Vx q0),(Vt q0),(Og u0 u6)]⟩ [(0:Int)≤0∧(0:Int)<(2:Nat),(0:Int)≤1∧(1:Int)<(2:Nat),Yl Try.prog 0 [(sI u0),(sI u6)] (ajD u2 v0 u9 v3) (vB false) (aan u2 r_)] {an:=[(5, .call [0,2,3,4,5,6,7] (vB false) (aan u2 r_))] } [] ⟨((by decide)),((by decide)),(Yl.leR (res:=(vB (Nat.beq r_.1 0))) (hout:=(aan u2 r_)) (yK [(1,2),(1,3),(1,4),(1,5),(1,6),(1,7)] (lY u0 u6 u2 v0 (⟨u9,v3⟩:Network) hr_)) (eX.of (congrArg vB hb)) (.refl _)),trivial⟩ ?_
   refine ck (aI (fz ⟨[],[(acN r_),sW,qC,(qF u2),(Dp r_),(Dg r_),(Dt r_),(Dm r_)]⟩ []) ?_)
   refine aR ?_
   obtain rfl:=oi h
   exact lR fQ (fT 0) fU (bJ.mk (.inr rfl) (p:=[]) (l:=[]) (by kernel_rfl) trivial (eX.refl _) (.refl _))
 ·clear hy
  cases y1 with
  |brk z=>exact absurd h (by simp)
  |ret v=>
   obtain rfl:=oi h
   unfold fZ
   intro e st hn ha hR
   cases e with
   |normal=>exact absurd rfl hn
   |exit id=>exact hR
   |goto l=>exact hR
   |ret=>exact hR
   |panic c=>exact hR
   |outgrown=>exact hR
def jB  :Network→Exit→St→Prop:=
  fun r=>bJ TT [] (.iC []) [(0,some (.cells 161 [(.own 1 false r.arcs.length),(.d (aG none 1 (ML 1 (au .i64)) r.from_))])),(1,some (bg 170 2 aV.cell r.arcs))]
section
variable (o0:(List aV)) (o1:(List (List Int))) (u0:Int)
abbrev Zz:Nat × Option Ob:=(0,some (.cells 161 [(.own 1 false o0.length),(.d (OU o1))]))
abbrev O1:Nat × Option Ob:=(20,some (.cells 157 [(.ptr 0 0)]))
abbrev PN:Nat × Option Ob:=(21,some (.cells 3 [(cI u0)]))
end
def kV (u0:Int):((List aV) × (List (List Int)))→St:=
  fun zz=>match zz with|(o0,o1)=> ⟨[(2,(vP 20 0)),(3,(vP 21 0))],[(Zz o0 o1),(1,some (bg 170 2 aV.cell o0)),O1,(PN u0)]⟩
def kZ  :Unit→St:=
  fun _=> ⟨[],[]⟩
def zO (u0:Int):(aU ((List aV) × (List (List Int))) (Ex Unit Network))→Exit→St→Prop:=
  LQ 0 [] (kV u0) kZ (SQ1 jB)
section
variable (o1:(List (List Int))) (u0:(Nat × (List Int) × Network)) (u1:Int) (o0:(List aV))
abbrev RG:List (Nat × TV):=[(2,(vP 20 0)),(3,(vP 21 0)),(4,(vP 35 0))]
abbrev Qj:=(List.replicate ((o1.length:Int).toNat) (0:Int))
abbrev acH:Nat × Option Ob:=(34,some (bg 3 1 (au .i64) (Qj o1)))
abbrev acv:Nat × Option Ob:=(35,some (.cells 40 [(.own 34 true ((Qj o1).length))]))
abbrev aje:List (Nat × TV):=[(2,(vP 20 0)),(3,(vP 21 0)),(4,(vP 35 0)),(18,(.v (.one (.fn 121 0 1 (Bq [(.ptr 36 0)])))))]
abbrev Y9:Nat × Option Ob:=(36,some (.cells 157 [(.ptr 0 0)]))
abbrev ZP:Nat × Option Ob:=(0,some (.cells 161 [(.own 1 false u0.2.2.arcs.length),(.d (aG none 1 (ML 1 (au .i64)) u0.2.2.from_))]))
abbrev Z8:Nat × Option Ob:=(1,some (bg 170 2 aV.cell u0.2.2.arcs))
abbrev aiE:List (Nat × Option Ob):=[(37,some (.loop aN u0.1 RG)),Y9,O1,(PN u1),(35,some (.cells 40 [(.own 34 true u0.2.1.length)])),(ZP u0),(34,some (bg 3 1 (au .i64) u0.2.1)),(Z8 u0)]
abbrev ah5:List (Nat × Option Ob):=[(37,some (.loop aN 0 RG)),Y9,O1,(PN u1),(acv o1),(Zz o0 o1),(acH o1),(1,some (bg 170 2 aV.cell o0))]
abbrev ajS:St:=⟨aje,[(ZP u0),(Z8 u0),O1,(PN u1),(34,some (bg 3 1 (au .i64) u0.2.1)),(35,some (.cells 40 [(.own 34 true u0.2.1.length)])),Y9]⟩
end
theorem kW (u1:Int) (u2:Network) {r:Network} (h:iP u1 u2=some r):Fn Try.prog 80 [(.one (.ptr 0 0)),(sI u1)] (afX u2) (.iC []) [(0,some (.cells 161 [(.own 1 false r.arcs.length),(.d (aG none 1 (ML 1 (au .i64)) r.from_))])),(1,some (bg 170 2 aV.cell r.arcs))]:=by
 refine fN tT Try.func80 rfl rfl fun B=> ?_
 show bL _ _ _ _ _ _ (jB r) _
 unfold iP at h
 refine sz tT ⟨[(2,(vP 20 0)),(3,(vP 21 0))],[(ZV u2),(XQ u2),O1,(PN u1)]⟩ {fr:=[(0,20),(1,21)] } [] ?_
 refine Rw ?_
 refine aQ (UW ?_)
 refine bE h fun y hy h=> ?_
 refine aL [] (kV u1) kZ (SQ1 jB) hy (fun s f h=> ?_) ?_
 ·clear hy
  show bL _ _ _ _ _ _ ((zO u1) f) _
  unfold iV at h
  obtain⟨o0,o1⟩:=s
  refine aB (aQ (aO h fun⟨a1,a2,a3⟩ h=> ?_))
  refine rg tT ⟨RG,[(Zz o0 o1),(1,some (bg 170 2 aV.cell o0)),O1,(PN u1),(acH o1),(acv o1)]⟩ [_,((o1.length:Int):Int)=(o1.length:Int),_,_,(Qj o1).length=((o1.length:Int).toNat),aC ((o1.length:Int).toNat) 1 (fun _ j=>[(.int .i64 0)].getD j .nilp) (ay (au .i64) (Qj o1))] {an:=[(5, .arr (Qj o1).length (ay (au .i64) (Qj o1)))],fr:=[(5,34),(6,35)] } [] ⟨a1,rfl,a2,a3,(List.length_replicate),(dO _ _ _ _ _ (fun j hj=>(match j,hj with|0,_=>rfl))),trivial⟩ ?_
  refine aQ (aQ (bE h fun r_ hr_ h=> ?_))
  have q0:=rk [(2,36)] (gI (⟨o0,o1⟩:Network) hr_)
  refine rg tT ⟨aje,[(Zz o0 o1),(1,some (bg 170 2 aV.cell o0)),O1,(PN u1),(acH o1),(acv o1),Y9]⟩ [_] {an:=[(1,cA q0 [0,1])] } [] ⟨q0,trivial⟩ ?_
  refine aB (bE h fun u0 hr_1 h=> ?_)
  refine bI h (fun hb h=> ?_) (fun hb h=> ?_)
  ·skip
   refine jq 37 RG [.exit 1] [37,36,20,21,35,0,34,1] (.iC []) (aiE u0 u1) (.v (.one (.fn 121 0 1 (Bq [(.ptr 36 0)])))) 121 [] [(.ptr 36 0)] (ah5 o1 u1 o0) [(.one (.yl 37)),(.one (.ptr 36 0))] aN u0.1 RG (by kernel_rfl) (by kernel_rfl) (by kernel_rfl) (by kernel_rfl) (by kernel_rfl) (by kernel_rfl) (by kernel_rfl) (rK [(0,37),(1,36),(2,20),(3,21),(4,35),(5,0),(6,34),(7,1)] (lX u1 (Qj o1) (⟨o0,o1⟩:Network) hr_1)) (by kernel_rfl) rfl (DL.zero (Nat.eq_of_beq_eq_true hb)) (bB.fin (st':=(ajS u0 u1)) (cs:=[]) ⟨[],[(0,0),(1,1),(20,20),(21,21),(34,34),(35,35),(36,36)]⟩ [2,3,4,18] (by kernel_rfl) trivial) ?_
   refine aI (fz ⟨[],[(ZP u0),(Z8 u0)]⟩ []) ?_
   refine aR ?_
   obtain rfl:=oi h
   exact lR fQ (fT 0) fU (ael (bJ.mk (.inr rfl) (p:=[]) (l:=[]) (by kernel_rfl) trivial (eX.refl _) (.refl _)))
  ·skip
   refine aO h fun a1 h=> ?_
   refine jq 37 RG [.exit 1] [37,36,20,21,35,0,34,1] (.iC []) (aiE u0 u1) (.v (.one (.fn 121 0 1 (Bq [(.ptr 36 0)])))) 121 [] [(.ptr 36 0)] (ah5 o1 u1 o0) [(.one (.yl 37)),(.one (.ptr 36 0))] aN u0.1 RG (by kernel_rfl) (by kernel_rfl) (by kernel_rfl) (by kernel_rfl) (by kernel_rfl) (by kernel_rfl) (by kernel_rfl) (rK [(0,37),(1,36),(2,20),(3,21),(4,35),(5,0),(6,34),(7,1)] (lX u1 (Qj o1) (⟨o0,o1⟩:Network) hr_1)) (by kernel_rfl) rfl (DL.aku (k:=0) (e:=(.exit 1)) a1 rfl rfl rfl) (.trans (bB.fin (st':=(ajS u0 u1)) (cs:=[]) ⟨[],[(0,0),(1,1),(20,20),(21,21),(34,34),(35,35),(36,36)]⟩ [2,3,4,18] (by kernel_rfl) trivial) (bB.fin (st':=⟨[(2,(vP 20 0)),(3,(vP 21 0))],[(ZP u0),(Z8 u0),O1,(PN u1)]⟩) (cs:=[]) ⟨[],[(0,0),(1,1),(20,20),(21,21)]⟩ [2,3] (by kernel_rfl) trivial)) ?_
   obtain rfl:=oi h
   exact Tq (b:=0) (av:=[]) (S:=(kV u1)) (Sb:=kZ) (Qo:=(SQ1 jB)) (by kernel_rfl)
 ·clear hy
  cases y with
  |brk z=>exact absurd h (by simp)
  |ret v=>
   obtain rfl:=oi h
   unfold fZ
   intro e st hn ha hR
   cases e with
   |normal=>exact absurd rfl hn
   |exit id=>exact hR
   |goto l=>exact hR
   |ret=>exact hR
   |panic c=>exact hR
   |outgrown=>exact hR
noncomputable def bY:oG:=⟨[236,237],IW ([1,1,1,1,1,1,1,1,1,1,1,1,1,1,0,1,0]++[0]) (nP Try.f32),IW ([1,1,1,1,1,1,1,1,1,1,1,1,1,1,0,1,0]++[1]) (nP Try.f32),252,[]⟩
section
variable (u0:ai)
abbrev U7:List (Nat × TV):=[(2,(vP 1 0)),(28,(vP 2 0))]
abbrev vS:Nat × Option Ob:=(0,some (.loop bY 0 U7))
abbrev su:Nat × Option Ob:=(1,some (ZW u0))
end
def DT (u0:ai):(List Bool)→Exit→St→Prop:=
  fun r=>nO 0 bY (vB true) [vS,(su u0),(2,some (.cells 27 [(.own 3 true r.length)])),(3,some (bg 4 1 ah r))]
section
variable (o_:(List Bool)) (u0:ai) (u1:Int)
abbrev yP:Nat × Option Ob:=(2,some (.cells 27 [(.own 3 true o_.length)]))
abbrev vQ:Nat × Option Ob:=(3,some (bg 4 1 ah o_))
abbrev Nw:List (Nat × Option Ob):=[vS,(su u0),(yP o_),(vQ o_)]
abbrev ab8:Nat × Option Ob:=(0,some (.loop bY 1 U7))
abbrev acM:List (Nat × Option Ob):=[ab8,(su u0),(yP o_),(vQ o_)]
abbrev ac6:=(ay ah (o_.set ((k17 u1).toNat) true))
end
theorem BO (u1:Int) (u2:Int) (u0:ai) (o_:(List Bool)) {r:(List Bool)} (h:jM u1 u2 u0 o_=some r):Yl Try.prog 0 [(sI u1),(sI u2)] (Nw o_ u0) (vB true) [vS,(su u0),(2,some (.cells 27 [(.own 3 true r.length)])),(3,some (bg 4 1 ah r))]:=by
 refine FH (r:=bY) (sl:=U7) (sl1:=[(2,(vP 1 0)),(28,(vP 2 0)),(29,(vI u1))]) (h1:=(Nw o_ u0)) (sl2:=U7) (by kernel_rfl) rfl rfl (by kernel_rfl) (fun rd B=> ?_) (by kernel_rfl) (fun rd B=> ?_)
 ·refine r9 (c:=IW ([1,1,1,1,1,1,1,1,1,1,1,1,1,1,0,1,0]++[0]) (nP Try.f32)) rfl ?_
  refine o7 (st:=⟨[(236,(vI u1)),(237,(vI u2)),(2,(vP 1 0)),(28,(vP 2 0))],(Nw o_ u0)⟩) (by kernel_rfl) ?_
  refine rz tT ⟨[(2,(vP 1 0)),(28,(vP 2 0)),(29,(vI u1))],(Nw o_ u0)⟩ {} [] ?_
  exact⟨rfl,rfl⟩
 ·refine r9 (c:=IW ([1,1,1,1,1,1,1,1,1,1,1,1,1,1,0,1,0]++[1]) (nP Try.f32)) rfl ?_
  refine o7 (st:=⟨[(2,(vP 1 0)),(28,(vP 2 0)),(29,(vI u1))],(acM o_ u0)⟩) (by kernel_rfl) ?_
  show bL _ _ _ _ _ _ ((DT u0) r) _
  unfold jM at h
  refine aB (sg tT ⟨[(28,(vP 2 0)),(29,(vI u1)),(245,(vB (bif (decide (0<u1))then(decide (u1≤u0.buses))else false)))],(acM o_ u0)⟩ (eqs (decide (0<u1)) 5 []) {yb:=[(2,(decide (0<u1)))] } [] (ae trivial) ?_)
  refine bI h (fun hb h=> ?_) (fun hb h=> ?_)
  ·refine ct hb ?_
   refine aO h fun a1 h=> ?_
   refine ri tT ⟨[],[ab8,(su u0),(yP o_),(3,some (.arr 4 1 o_.length (ac6 o_ u1)))]⟩ [_,_,aC o_.length 1 (jo (ay ah o_) ((k17 u1).toNat) 0 [(.bool true)]) (ac6 o_ u1)] {an:=[(4, .arr 0 (ac6 o_ u1))] } [] ⟨a1,(tL a1),(aW _ _ _ _ _ _ _ _ rfl (fun j hj=>(match j,hj with|0,_=>rfl))),trivial⟩ (bB.le (st':=⟨[],[ab8,(su u0),(2,some (.cells 27 [(.own 3 true ((o_.set ((k17 u1).toNat) true).length))])),(3,some (bg 4 1 ah (o_.set ((k17 u1).toNat) true)))]⟩) ⟨trivial,(hN 2 ⟨rfl,aJ ⟨cW,trivial⟩,⟨rfl,oW,trivial⟩⟩)⟩) ?_
   obtain rfl:=oi h
   exact nO.on (sl:=U7) (by kernel_rfl) (Ab (by kernel_rfl)) (eX.refl _)
  ·refine cf hb ?_
   refine aI (fz ⟨[],(acM o_ u0)⟩ []) ?_
   refine aP ?_
   obtain rfl:=oi h
   exact nO.on (sl:=U7) (by kernel_rfl) (Ab (by kernel_rfl)) (eX.refl _)
def iw (u0:ai):(List Bool)→Exit→St→Prop:=
  fun r=>bJ TT [] (.iC []) [vS,(su u0),(2,some (.cells 27 [(.own 3 true r.length)])),(3,some (bg 4 1 ah r))]
section
variable (x1:(List aV)) (u3:(List (List Int))) (u2:(List Bool)) (q0:(List af)) (u4:Int) (u5:Int) (u0:ai) (u1:(List Bool))
abbrev yH:Nat × TV:=(1,(vD (kH [(kH [(aG none 2 aV.cell x1),(OU u3)] 0)] 0)))
abbrev Gj:Nat × TV:=(3,(vO 52 true u2.length))
abbrev aeo:List (Nat × TV):=[eZ,(yH x1 u3),(Gj u2),(4,(vP 53 0)),(5,(vP 55 0))]
abbrev R4:Nat × Option Ob:=(52,some (bg 4 1 ah u2))
abbrev aar:Nat × Option Ob:=(53,some (.cells 226 [(.own 54 false q0.length)]))
abbrev Zi:Nat × Option Ob:=(54,some (Ou q0))
abbrev RX:Nat × Option Ob:=(55,some (.cells 164 [(cI u4),(cI u5)]))
abbrev Sj:List (Nat × Option Ob):=[vS,(su u0),(yP u1),(vQ u1),(R4 u2),(aar q0),(Zi q0),(RX u4 u5)]
abbrev aej:St:=⟨(aeo x1 u3 u2),(Sj u2 q0 u4 u5 u0 u1)⟩
end
def kK (x1:(List aV)) (u3:(List (List Int))) (u0:ai):((List Bool) × (List Bool) × (List af) × Int × Int)→St:=
  fun zz=>match zz with|(u1,u2,q0,u4,u5)=>(aej x1 u3 u2 q0 u4 u5 u0 u1)
def kz  :Unit→St:=
  fun _=> ⟨[],[]⟩
def gW (x1:(List aV)) (u1:(List (List Int))) (u0:ai):(aU ((List Bool) × (List Bool) × (List af) × Int × Int) (Ex Unit (List Bool)))→Exit→St→Prop:=
  LQ 0 [] (kK x1 u1 u0) kz (iw u0)
section
variable (u1:(List (List Int))) (u2:Int)
abbrev Ke:Nat × TV:=(34,(vD (aG none 1 (au .i64) (at' u1 u2.toNat))))
abbrev JW:Nat × TV:=(35,(vI ((at' u1 u2.toNat).length:Int)))
end
def kC (x1:(List aV)) (u1:(List (List Int))) (u0:ai) (u2:Int) (u5:Int) (r_:(List Bool)):((List Bool) × (List af) × Int)→St:=
  fun zz=>match zz with|(u3,u4,u6)=> ⟨[eZ,(yH x1 u1),(Gj u3),(4,(vP 53 0)),(5,(vP 55 0)),(Ke u1 u2),(JW u1 u2),(36,(vI u6))],(Sj u3 u4 u2 u5 u0 r_)⟩
def kI (x1:(List aV)) (u3:(List (List Int))) (u0:ai) (u4:Int) (u5:Int) (r_:(List Bool)):((List Bool) × (List af))→St:=
  fun zz=>match zz with|(u1,u2)=>(aej x1 u3 u1 u2 u4 u5 u0 r_)
def q9 (x1:(List aV)) (u0:(List (List Int))) (u1:ai) (u2:Int) (u3:Int) (r_:(List Bool)):(aU ((List Bool) × (List af) × Int) (Ex ((List Bool) × (List af)) (aU ((List Bool) × (List Bool) × (List af) × Int × Int) (Ex Unit (List Bool)))))→Exit→St→Prop:=
  LQ 2 [1] (kC x1 u0 u1 u2 u3 r_) (kI x1 u0 u1 u2 u3 r_) (gW x1 u0 u1)
section
variable (u1:(List (List Int))) (x1:(List aV)) (u2:Int) (u3:Int) (u0:ai) (r_:(List Bool)) (u4:(List Bool)) (u7:(List af)) (u6:Int) (u9:aM) (u5:(af × Bool × aM)) (u8:(List Bool))
abbrev QW:=(List.replicate ((u1.length:Int).toNat) (false:Bool))
abbrev aki:List (Nat × TV):=[eZ,(yH x1 u1),(3,(vO 52 true ((QW u1).length)))]
abbrev ad9:=(ay ah (QW u1))
abbrev adx:=((QW u1).set 0 true)
abbrev acX:=(ay ah (adx u1))
abbrev adg:Nat × TV:=(3,(vO 52 true ((adx u1).length)))
abbrev YO:Nat × Option Ob:=(52,some (bg 4 1 ah (adx u1)))
abbrev acS:List (Nat × TV):=[eZ,(yH x1 u1),(adg u1),(4,(vP 53 0))]
abbrev WQ:Nat × TV:=(7,(vI (at' (at' u1 u2.toNat) u3.toNat)))
abbrev Rq:=(at' x1 ((at' (at' u1 u2.toNat) u3.toNat).toNat))
abbrev Un:=((Rq u1 x1 u2 u3).to_)
abbrev aiJ:List (Nat × Option Ob):=[vS,(su u0),(yP r_),(vQ r_),(R4 u4),(aar u7),(Zi u7),(RX u2 u6),(95,some (.cells 170 [(cI (Un u1 x1 u2 u3)),(cI ((Rq u1 x1 u2 u3).left))]))]
abbrev Qr:=(decide (0<((Rq u1 x1 u2 u3).left)))
abbrev agm:Nat × TV:=(8,(vD (kH [(.int .i64 (Un u1 x1 u2 u3)),(.int .i64 ((Rq u1 x1 u2 u3).left))] 0)))
abbrev adN:=(u4.set ((Un u1 x1 u2 u3).toNat) true)
abbrev acu:=(ay ah (adN u1 x1 u2 u3 u4))
abbrev ad8:Nat × TV:=(3,(vO 52 true ((adN u1 x1 u2 u3 u4).length)))
abbrev adD:Nat × Option Ob:=(52,some (bg 4 1 ah (adN u1 x1 u2 u3 u4)))
abbrev afU:List (Nat × Option Ob):=[vS,(su u0),(yP r_),(vQ r_),(adD u1 x1 u2 u3 u4),(53,some (.cells 226 [(.own 96 false u9.l.length)])),(RX u2 u6),(96,some (NS u9))]
abbrev agB:List (Nat × TV):=[eZ,(yH x1 u1),(ad8 u1 x1 u2 u3 u4),(4,(vP 53 0)),(5,(vP 55 0)),(Ke u1 u2),(JW u1 u2),(aah u3)]
abbrev Za:Nat × Option Ob:=(53,some (.cells 226 [(.own 97 false u5.2.2.l.length)]))
abbrev aaN:Nat × Option Ob:=(97,some (bg 164 2 af.cell u5.2.2.l))
abbrev ai5:List (Nat × Option Ob):=[vS,(su u0),(yP r_),(vQ r_),(R4 u8),(Za u5),(RX u2 u6),(aaN u5),(98,some (OT u5))]
end
theorem gU (x1:(List aV)) (u1:(List (List Int))) (u0:ai) (o_:(List Bool)) {r:(List Bool)} (h:dI x1 u1 u0 o_=some r):Fn Try.prog 121 [(.one (.yl 0)),(sD (kH [(kH [(aG none 2 aV.cell x1),(OU u1)] 0)] 0))] (Nw o_ u0) (.iC []) [vS,(su u0),(2,some (.cells 27 [(.own 3 true r.length)])),(3,some (bg 4 1 ah r))]:=by
 refine fN tT Try.func121 rfl rfl fun B=> ?_
 show bL _ _ _ _ _ _ ((iw u0) r) _
 unfold dI at h
 refine aQ (aO h fun⟨a1,a2,a3⟩ h=> ?_)
 refine rg tT ⟨(aki u1 x1),[vS,(su u0),(yP o_),(vQ o_),(52,some (bg 4 1 ah (QW u1)))]⟩ [_,((u1.length:Int):Int)=(u1.length:Int),_,_,(QW u1).length=((u1.length:Int).toNat),aC ((u1.length:Int).toNat) 1 (fun _ j=>[(.bool false)].getD j .nilp) (ad9 u1)] {an:=[(5, .arr (QW u1).length (ad9 u1))],fr:=[(5,52)] } [] ⟨a1,rfl,a2,a3,(List.length_replicate),(dO _ _ _ _ _ (fun j hj=>(match j,hj with|0,_=>rfl))),trivial⟩ ?_
 refine aQ (aO h fun a1 h=> ?_)
 refine ri tT ⟨(aki u1 x1),[vS,(su u0),(yP o_),(vQ o_),(52,some (.arr 4 1 (QW u1).length (acX u1)))]⟩ [_,_,aC (QW u1).length 1 (jo (ad9 u1) 0 0 [(.bool true)]) (acX u1)] {an:=[(2, .arr 0 (acX u1))] } [] ⟨a1,(tL a1),(aW _ _ _ _ _ _ _ _ rfl (fun j hj=>(match j,hj with|0,_=>rfl))),trivial⟩ (bB.le (st':=⟨[eZ,(yH x1 u1),(adg u1)],[vS,(su u0),(yP o_),(vQ o_),(YO u1)]⟩) ⟨⟨tR,tR,⟨_,rfl,eX.v (eO.one cW)⟩,trivial⟩,(hN 4 ⟨rfl,oW,trivial⟩)⟩) ?_
 refine si tT ⟨(acS u1 x1),[vS,(su u0),(yP o_),(vQ o_),(YO u1),(53,some (.cells 226 [(.d nS)]))]⟩ [] {fr:=[(0,53)] } [] trivial (.trans (bB.rA (E:=0) (esz:=0) (E0:=226) (cs:=[(.d nS)]) (p:=53) (q:=0) (b:=54) (esz0:=0) (el0:=fun _ _=> .nilp) (ob:= .arr 164 2 0 (ay af.cell ([]:List af))) (fun _ _ _ _ h=> .inl ⟨h,rfl⟩) (by kernel_rfl) (by kernel_rfl) (by kernel_rfl)) (.trans (fz ⟨(acS u1 x1),[vS,(su u0),(yP o_),(vQ o_),(YO u1),(53,some (.cells 226 [(.own 54 false 0)])),(54,some (.arr 164 2 0 (ay af.cell ([]:List af))))]⟩ []) (bB.le (st':=⟨(acS u1 x1),[vS,(su u0),(yP o_),(vQ o_),(YO u1),(53,some (.cells 226 [(.own 54 false (([]:List af).length))])),(54,some V6)]⟩) ⟨⟨tR,tR,tR,tR,trivial⟩,(hN 5 ⟨rfl,aJ ⟨cW,trivial⟩,⟨rfl,oW,trivial⟩⟩)⟩))) ?_
 refine sz tT ⟨[eZ,(yH x1 u1),(adg u1),(4,(vP 53 0)),(5,(vP 55 0))],[vS,(su u0),(yP o_),(vQ o_),(YO u1),(53,some (.cells 226 [(.own 54 false (([]:List af).length))])),(54,some V6),(55,some (.cells 164 [(cI 0),(cI (-1))]))]⟩ {fr:=[(1,55)] } [] ?_
 refine bE h fun y1 hy h=> ?_
 refine aL [] (kK x1 u1 u0) kz (iw u0) hy (fun s f h=> ?_) ?_
 ·clear hy
  show bL _ _ _ _ _ _ ((gW x1 u1 u0) f) _
  unfold eU at h
  obtain⟨v1,v0,q0,u2,u6⟩:=s
  refine aQ (aB (aQ (aQ (bE h fun r_ hr_ h=> ?_))))
  refine rg tT ⟨[eZ,(yH x1 u1),(Gj v0),(4,(vP 53 0)),(5,(vP 55 0)),(26,(vB false))],(Sj v0 q0 u2 u6 u0 r_)⟩ [(0:Int)≤0∧(0:Int)<(2:Nat),(0:Int)≤1∧(1:Int)<(2:Nat),Yl Try.prog 0 [(sI u2),(sI u6)] (Nw v1 u0) (vB true) (Nw r_ u0)] {an:=[(5, .call [0,1,2,3] (vB true) (Nw r_ u0))] } [] ⟨((by decide)),((by decide)),(BO u2 u6 u0 v1 hr_),trivial⟩ ?_
  refine cn (aP (aQ (aQ (aO h fun a1 h=> ?_))))
  refine dg tT mX ⟨[eZ,(yH x1 u1),(Gj v0),(4,(vP 53 0)),(5,(vP 55 0)),(Ke u1 u2),(JW u1 u2),(36,(vI 0))],(Sj v0 q0 u2 u6 u0 r_)⟩ [(0:Int)≤0∧(0:Int)<(2:Nat),_] {} [] ⟨((by decide)),a1,trivial⟩ ?_
  refine bE h fun y hy h=> ?_
  refine aL [1] (kC x1 u1 u0 u2 u6 r_) (kI x1 u1 u0 u2 u6 r_) (gW x1 u1 u0) hy (fun s f h=> ?_) ?_
  ·clear hy
   show bL _ _ _ _ _ _ ((q9 x1 u1 u0 u2 u6 r_) f) _
   unfold bS at h
   obtain⟨u4,u7,u3⟩:=s
   refine sz tT ⟨[eZ,(yH x1 u1),(Gj u4),(4,(vP 53 0)),(5,(vP 55 0)),(Ke u1 u2),(JW u1 u2),(36,(vI u3)),(37,(vB (decide (u3<((at' u1 u2.toNat).length:Int)))))],(Sj u4 u7 u2 u6 u0 r_)⟩ {} [] ?_
   refine aQ ?_
   refine bI h (fun hb1 h=> ?_) (fun hb1 h=> ?_)
   ·refine ct hb1 ?_
    refine aP (aQ (aB (aQ (aO h fun a1 h=> ?_))))
    refine rg tT ⟨[eZ,(yH x1 u1),(Gj u4),(4,(vP 53 0)),(5,(vP 55 0)),(WQ u1 u2 u3),(Ke u1 u2),(JW u1 u2),(36,(vI u3))],(Sj u4 u7 u2 u6 u0 r_)⟩ [_] {} [] ⟨a1,trivial⟩ ?_
    refine aQ (aO h fun a1 h=> ?_)
    refine rg tT ⟨[eZ,(yH x1 u1),(Gj u4),(4,(vP 53 0)),(5,(vP 55 0)),(WQ u1 u2 u3),(8,(vP 95 0)),(Ke u1 u2),(JW u1 u2),(36,(vI u3))],(aiJ u1 x1 u2 u3 u0 r_ u4 u7 u6)⟩ [_] {fr:=[(7,95)] } [] ⟨a1,trivial⟩ ?_
    refine aQ (aO h fun a1 h=> ?_)
    refine rg tT ⟨[eZ,(yH x1 u1),(Gj u4),(4,(vP 53 0)),(5,(vP 55 0)),(WQ u1 u2 u3),(8,(vP 95 0)),(Ke u1 u2),(JW u1 u2),(36,(vI u3)),(57,(vB (bif (Qr u1 x1 u2 u3)then(!(at' u4 ((Un u1 x1 u2 u3).toNat)))else false)))],(aiJ u1 x1 u2 u3 u0 r_ u4 u7 u6)⟩ (eqs (Qr u1 x1 u2 u3) 4 ((gP (jP [(3,(Qr u1 x1 u2 u3))]) [(3,true)]→All [(0:Int)≤(Rq u1 x1 u2 u3).to_∧(Rq u1 x1 u2 u3).to_<(u4.length:Int)])::((Qr u1 x1 u2 u3)=(Qr u1 x1 u2 u3))::(gP (jP [(3,(Qr u1 x1 u2 u3))]) [(3,true)]→All [(Un u1 x1 u2 u3).toNat<u4.length])::(eqs (Qr u1 x1 u2 u3) 2 []))) {yb:=[(3,(Qr u1 x1 u2 u3))] } [] (ae ⟨(fun hg=> ⟨(a1 (aY hg)),trivial⟩),rfl,(fun hg=> ⟨((fun hq=>tL (a1 hq)) (aY hg)),trivial⟩),(ae trivial)⟩) ?_
    refine bI h (fun hb h=> ?_) (fun hb h=> ?_)
    ·refine ct hb ?_
     refine aQ (aO h fun a1 h=> ?_)
     refine ri tT ⟨[eZ,(yH x1 u1),(Gj u4),(4,(vP 53 0)),(5,(vP 55 0)),(WQ u1 u2 u3),(agm u1 x1 u2 u3),(Ke u1 u2),(JW u1 u2),(36,(vI u3))],[vS,(su u0),(yP r_),(vQ r_),(52,some (.arr 4 1 u4.length (acu u1 x1 u2 u3 u4))),(aar u7),(Zi u7),(RX u2 u6)]⟩ [_,_,aC u4.length 1 (jo (ay ah u4) ((Un u1 x1 u2 u3).toNat) 0 [(.bool true)]) (acu u1 x1 u2 u3 u4)] {an:=[(4, .arr 0 (acu u1 x1 u2 u3 u4))] } [95] ⟨a1,(tL a1),(aW _ _ _ _ _ _ _ _ rfl (fun j hj=>(match j,hj with|0,_=>rfl))),trivial⟩ (bB.le (st':=⟨[eZ,(yH x1 u1),(ad8 u1 x1 u2 u3 u4),(4,(vP 53 0)),(5,(vP 55 0)),(WQ u1 u2 u3),(agm u1 x1 u2 u3),(Ke u1 u2),(JW u1 u2),(36,(vI u3))],[vS,(su u0),(yP r_),(vQ r_),(adD u1 x1 u2 u3 u4),(aar u7),(Zi u7),(RX u2 u6)]⟩) ⟨⟨tR,tR,⟨_,rfl,eX.v (eO.one cW)⟩,tR,tR,tR,tR,tR,tR,tR,trivial⟩,(hN 4 ⟨rfl,oW,(.refl _)⟩)⟩) ?_
     refine bE h fun u9 hr_1 h=> ?_
     have q0:=rk [(0,53),(1,54),(2,96)] (uo (⟨(Rq u1 x1 u2 u3).to_,(at' (at' u1 u2.toNat) u3.toNat)⟩:af) (⟨u7⟩:aM) hr_1)
     refine rg tT ⟨[eZ,(yH x1 u1),(ad8 u1 x1 u2 u3 u4),(4,(vP 53 0)),(5,(vP 55 0)),(Ke u1 u2),(JW u1 u2),(36,(vI u3))],(afU u1 x1 u2 u3 u0 r_ u4 u6 u9)⟩ [_] {an:=[(4,cA q0 [53,54])] } [] ⟨q0,trivial⟩ ?_
     refine ri tT ⟨(agB u1 x1 u2 u3 u4),(afU u1 x1 u2 u3 u0 r_ u4 u6 u9)⟩ [] {} [] trivial (bB.fin (st':=⟨(agB u1 x1 u2 u3 u4),[vS,(su u0),(yP r_),(vQ r_),(adD u1 x1 u2 u3 u4),(53,some (.cells 226 [(.own 54 false u9.l.length)])),(54,some (NS u9)),(RX u2 u6)]⟩) (cs:=[]) ⟨[],[(0,0),(1,1),(2,2),(3,3),(52,52),(53,53),(96,54),(55,55)]⟩ [0,1,3,4,5,34,35,36] (by kernel_rfl) trivial) ?_
     obtain rfl:=oi h
     exact lN
    ·refine cf hb ?_
     refine aP (rz tT ⟨[eZ,(yH x1 u1),(Gj u4),(4,(vP 53 0)),(5,(vP 55 0)),(Ke u1 u2),(JW u1 u2),(aah u3)],(Sj u4 u7 u2 u6 u0 r_)⟩ {} [] ?_)
     obtain rfl:=oi h
     exact lN
   ·refine cf hb1 ?_
    refine aI (fz (aej x1 u1 u4 u7 u2 u6 u0 r_) []) ?_
    refine aX ?_
    obtain rfl:=oi h
    exact lB
  ·clear hy
   cases y with
   |brk z=>
    obtain⟨u8,v2⟩:=z
    unfold fZ
    refine⟨_, .refl, ?_⟩
    refine aQ (bE h fun u5 hr_2 h=> ?_)
    have q0:=rk [(0,53),(1,54),(2,97)] (rU (⟨v2⟩:aM) hr_2)
    refine rg tT ⟨[eZ,(yH x1 u1),(Gj u8),(4,(vP 53 0)),(5,(vP 55 0)),(9,(vP 98 0)),(10,(vB u5.2.1))],(ai5 u2 u0 r_ u6 u5 u8)⟩ [_] {an:=[(0,cA q0 [53,54])],fr:=[(4,98)] } [] ⟨q0,trivial⟩ ?_
    refine aQ (sz tT ⟨[eZ,(yH x1 u1),(Gj u8),(4,(vP 53 0)),(5,(vP 55 0)),(9,(vP 98 0)),(73,(vB (!u5.2.1)))],(ai5 u2 u0 r_ u6 u5 u8)⟩ {} [] ?_)
    refine bI h (fun hb2 h=> ?_) (fun hb2 h=> ?_)
    ·refine ct hb2 ?_
     refine aI (fz ⟨[],(Nw r_ u0)⟩ []) ?_
     refine aR ?_
     obtain rfl:=oi h
     exact lR fQ (fT 0) fU (bJ.mk (.inr rfl) (p:=[]) (l:=[]) (by kernel_rfl) trivial (eX.refl _) (.refl _))
    ·refine cf hb2 ?_
     refine aP (rz tT ⟨(aeo x1 u1 u8),[vS,(su u0),(yP r_),(vQ r_),(R4 u8),(Za u5),(55,some (OT u5)),(aaN u5)]⟩ {} [] ?_)
     refine sz tT ⟨[eZ,(yH x1 u1),(Gj u8),(4,(vP 53 0)),(75,(.v (.agg [(cI u5.1.e0),(cI u5.1.e1)])))],[vS,(su u0),(yP r_),(vQ r_),(R4 u8),(Za u5),(aaN u5)]⟩ {} [] ?_
     refine ri tT ⟨[eZ,(yH x1 u1),(Gj u8),(4,(vP 53 0)),(5,(vP 99 0))],[vS,(su u0),(yP r_),(vQ r_),(R4 u8),(Za u5),(aaN u5),(99,some (OT u5))]⟩ [] {fr:=[(0,99)] } [] trivial (bB.fin (st':=⟨(aeo x1 u1 u8),[vS,(su u0),(yP r_),(vQ r_),(R4 u8),(53,some (.cells 226 [(.own 54 false u5.2.2.l.length)])),(54,some (bg 164 2 af.cell u5.2.2.l)),(55,some (OT u5))]⟩) (cs:=[]) ⟨[],[(0,0),(1,1),(2,2),(3,3),(52,52),(53,53),(97,54),(99,55)]⟩ [0,1,3,4,5] (by kernel_rfl) trivial) ?_
     obtain rfl:=oi h
     exact lN
   |ret v=>
    obtain rfl:=oi h
    unfold fZ
    intro e st hn ha hR
    cases e with
    |normal=>exact absurd rfl hn
    |exit id=>simp only [rF (b:=1) ha rfl,cond_false];exact hR
    |goto l=>exact hR
    |ret=>exact hR
    |panic c=>exact hR
    |outgrown=>exact hR
 ·clear hy
  cases y1 with
  |brk z=>exact absurd h (by simp)
  |ret v=>
   obtain rfl:=oi h
   unfold fZ
   intro e st hn ha hR
   cases e with
   |normal=>exact absurd rfl hn
   |exit id=>exact hR
   |goto l=>exact hR
   |ret=>exact hR
   |panic c=>exact hR
   |outgrown=>exact hR
def jk  :(aj × (List Bool) × Int)→Exit→St→Prop:=
  fun r=>bJ TT [.cell 4 77, .tmp 5, .tmp 6] (.iC [(.agg [(.d (aG none 1 (au .i64) r.1.sources)),(.d (aG none 1 (au .i64) r.1.links)),(.d (aG none 2 af.cell r.1.racks))]),(sD (aG none 1 ah r.2.1)),(sI r.2.2)]) []
section
variable (p:ai) (s_:State) (u1:Int) (n1:(List (List Int))) (n0:(List aV)) (u0:(List (Int × Int)))
abbrev iN:Nat × TV:=(8,(vI (IntKind.wrap .i64 ((IntKind.wrap .i64 ((1:Int)+p.buses))+(p.racks.length:Int)))))
abbrev rV:Nat × TV:=(11,(.v (.one (.mp 73))))
abbrev p9:Nat × TV:=(12,(.v (.one (.mp 74))))
abbrev nZ:Nat × TV:=(13,(.v (.one (.mp 75))))
abbrev Bu:Nat × TV:=(66,(vD (aG none 5 Source.cell p.sources)))
abbrev Bg:Nat × TV:=(67,(vI (p.sources.length:Int)))
abbrev agR:List (Nat × TV):=[(2,(vP 63 0)),(lW s_),(4,(vP 65 0)),(iN p),(9,(vP 67 0)),(10,(vP 72 0)),rV,p9,nZ,(Bu p),(Bg p),(68,(vI u1))]
abbrev Ae:Nat × Option Ob:=(63,some (ZW p))
abbrev bW:Nat × Option Ob:=(65,some (.cells 77 [(.d nS),(.d nS),(.d nS)]))
abbrev V3:Nat × Option Ob:=(66,some (.rows 40 1 n1.length (uS oZ n1) none))
abbrev WM:Nat × Option Ob:=(67,some (.cells 161 [(.own 68 false n0.length),(.own 66 true n1.length)]))
abbrev N7:Nat × Option Ob:=(68,some (bg 170 2 aV.cell n0))
abbrev RB:=((p.sources.length:Int).toNat)
abbrev NR:=(List.replicate (RB p) (0:Int))
abbrev aeS:Ob:=(bg 3 1 (au .i64) (NR p))
abbrev Xp:Nat × Option Ob:=(69,some (aeS p))
abbrev NA:Nat × Option Ob:=(70,some (ZB p))
abbrev Sw:=((p.racks.length:Int).toNat)
abbrev Ni:=(List.replicate (Sw p) ((⟨0,0⟩:af):af))
abbrev aev:Ob:=(bg 164 2 af.cell (Ni p))
abbrev LV:Nat × Option Ob:=(71,some (aev p))
abbrev ac7:=((NR p).length)
abbrev Nr:=((Ni p).length)
abbrev WC:Nat × Option Ob:=(72,some (.cells 77 [(.own 69 true (ac7 p)),(.own 70 true (Sk p)),(.own 71 true (Nr p))]))
abbrev Vr:Ob:=(TR 3 3 false false 1 1 (au .i64) (au .i64) u0)
abbrev EK:Nat × Option Ob:=(73,some (Vr u0))
abbrev U9:Ob:=(TR 3 3 false false 1 1 (au .i64) (au .i64) ([]:(List (Int × Int))))
abbrev XP:Nat × Option Ob:=(74,some U9)
abbrev ae9:Ob:=(TR 164 3 true false 2 1 af.cell (au .i64) ([]:(List (af × Int))))
abbrev Nt:Nat × Option Ob:=(75,some ae9)
abbrev VI:List (Nat × Option Ob):=[(Ae p),bW,(V3 n1),(WM n1 n0),(N7 n0),(Xp p),(NA p),(LV p),(WC p),(EK u0),XP,Nt]
end
def Au (p:ai) (s_:State):((List aV) × (List (List Int)) × (List (Int × Int)) × Int)→St:=
  fun zz=>match zz with|(n0,n1,u0,u1)=> ⟨(agR p s_ u1),(VI p n1 n0 u0)⟩
section
variable (s_:State) (p:ai) (p1:(List Source)) (x0:(List Int)) (u0:(List (List Int))) (u1:(List aV)) (u2:(List (Int × Int)))
abbrev Yw:List (Nat × TV):=[(2,(vP 63 0)),(lW s_),(4,(vP 65 0)),(iN p),(9,(vP 67 0)),(10,(vP 72 0)),rV,p9,nZ]
abbrev ahH:List CV:=[(cI p.buses),(.d (k13 p1)),(.d (aG none 6 Link.cell p.links)),(.d (k6 p))]
abbrev aic:Ob:=(.cells 26 (ahH p p1))
abbrev Qi:Nat × Option Ob:=(63,some (aic p p1))
abbrev nG:Nat × Option Ob:=(69,some (wW x0))
abbrev aaK:Nat × Option Ob:=(72,some (.cells 77 [(.own 69 true x0.length),(.own 70 true (Sk p)),(.own 71 true (Nr p))]))
abbrev aiG:List (Nat × Option Ob):=[(Qi p p1),bW,(V3 u0),(WM u0 u1),(N7 u1),(nG x0),(NA p),(LV p),(aaK p x0),(EK u2),XP,Nt]
end
def AX (p:ai) (s_:State):((List Source) × (List aV) × (List (List Int)) × (List Int) × (List (Int × Int)))→St:=
  fun zz=>match zz with|(p1,u1,u0,x0,u2)=> ⟨(Yw s_ p),(aiG p p1 x0 u0 u1 u2)⟩
def Js (p:ai) (s_:State):(aU ((List aV) × (List (List Int)) × (List (Int × Int)) × Int) (Ex ((List Source) × (List aV) × (List (List Int)) × (List Int) × (List (Int × Int))) (aj × (List Bool) × Int)))→Exit→St→Prop:=
  LQ 0 [] (Au p s_) (AX p s_) jk
section
variable (p:ai) (s_:State) (u4:Int) (u3:(List (Int × Int))) (p1:(List Source)) (u0:(List (List Int))) (u1:(List aV)) (x0:(List Int)) (u2:(List (Int × Int)))
abbrev Bn:Nat × TV:=(88,(vD (aG none 6 Link.cell p.links)))
abbrev Bo:Nat × TV:=(89,(vI (p.links.length:Int)))
abbrev aht:List (Nat × TV):=[(2,(vP 63 0)),(lW s_),(4,(vP 65 0)),(iN p),(9,(vP 67 0)),(10,(vP 72 0)),rV,p9,nZ,(Bn p),(Bo p),(90,(vI u4))]
abbrev Ez:Nat × Option Ob:=(74,some (Vr u3))
abbrev Ur:List (Nat × Option Ob):=[(Qi p p1),bW,(V3 u0),(WM u0 u1),(N7 u1),(nG x0),(NA p),(LV p),(aaK p x0),(EK u2),(Ez u3),Nt]
end
def AO (p:ai) (s_:State) (p1:(List Source)) (x0:(List Int)) (u2:(List (Int × Int))):((List aV) × (List (List Int)) × (List (Int × Int)) × Int)→St:=
  fun zz=>match zz with|(u1,u0,u3,u4)=> ⟨(aht p s_ u4),(Ur p u3 p1 u0 u1 x0 u2)⟩
section
variable (p:ai) (p1:(List Source)) (p2:(List Link)) (x1:(List Int)) (u0:(List (List Int))) (u1:(List aV)) (x0:(List Int)) (u2:(List (Int × Int))) (u3:(List (Int × Int)))
abbrev af8:Ob:=(.cells 26 [(cI p.buses),(.d (k13 p1)),(.d (aG none 6 Link.cell p2)),(.d (k6 p))])
abbrev agM:Nat × Option Ob:=(63,some (af8 p p1 p2))
abbrev pq:Nat × Option Ob:=(70,some (wW x1))
abbrev ajs:List (Nat × Option Ob):=[(agM p p1 p2),bW,(V3 u0),(WM u0 u1),(N7 u1),(nG x0),(pq x1),(LV p),(72,some (.cells 77 [(.own 69 true x0.length),(.own 70 true x1.length),(.own 71 true (Nr p))])),(EK u2),(Ez u3),Nt]
end
def Az (p:ai) (s_:State) (p1:(List Source)) (x0:(List Int)) (u2:(List (Int × Int))):((List Link) × (List aV) × (List (List Int)) × (List Int) × (List (Int × Int)))→St:=
  fun zz=>match zz with|(p2,u1,u0,x1,u3)=> ⟨(Yw s_ p),(ajs p p1 p2 x1 u0 u1 x0 u2 u3)⟩
def IV (p:ai) (s_:State) (p1:(List Source)) (x0:(List Int)) (u0:(List (Int × Int))):(aU ((List aV) × (List (List Int)) × (List (Int × Int)) × Int) (Ex ((List Link) × (List aV) × (List (List Int)) × (List Int) × (List (Int × Int))) (aj × (List Bool) × Int)))→Exit→St→Prop:=
  LQ 2 [] (AO p s_ p1 x0 u0) (Az p s_ p1 x0 u0) jk
section
variable (u6:(List ax)) (s_:State) (u4:Int) (u7:Int) (u8:Int) (p:ai) (p1:(List Source)) (p2:(List Link)) (p3:(List ax)) (x2:(List af)) (x0:(List Int)) (x1:(List Int)) (u5:(List (af × Int))) (u0:(List (List Int))) (u1:(List aV)) (u2:(List (Int × Int))) (u3:(List (Int × Int)))
abbrev pu:Nat × TV:=(115,(vD (k14 u6)))
abbrev akc:List (Nat × TV):=[(2,(vP 63 0)),(lW s_),(4,(vP 65 0)),(8,(vI u4)),(9,(vP 67 0)),(10,(vP 72 0)),rV,p9,nZ,(pu u6),(116,(vI u7)),(117,(vI u8))]
abbrev agf:Ob:=(.cells 26 [(cI p.buses),(.d (k13 p1)),(.d (aG none 6 Link.cell p2)),(.d (k14 p3))])
abbrev fq:Nat × Option Ob:=(63,some (agf p p1 p2 p3))
abbrev rG:Nat × Option Ob:=(71,some (Ou x2))
abbrev rH:Nat × Option Ob:=(72,some (.cells 77 [(.own 69 true x0.length),(.own 70 true x1.length),(.own 71 true x2.length)]))
abbrev aeX:Ob:=(TR 164 3 true false 2 1 af.cell (au .i64) u5)
abbrev GH:Nat × Option Ob:=(75,some (aeX u5))
abbrev XK:List (Nat × Option Ob):=[(fq p p1 p2 p3),bW,(V3 u0),(WM u0 u1),(N7 u1),(nG x0),(pq x1),(rG x2),(rH x2 x0 x1),(EK u2),(Ez u3),(GH u5)]
end
def Ar (p:ai) (s_:State) (p1:(List Source)) (x0:(List Int)) (u2:(List (Int × Int))) (p2:(List Link)) (x1:(List Int)) (u3:(List (Int × Int))):((List ax) × Int × (List aV) × (List (List Int)) × (List af) × (List (af × Int)) × (List ax) × Int × Int)→St:=
  fun zz=>match zz with|(p3,u4,u1,u0,x2,u5,u6,u7,u8)=> ⟨(akc u6 s_ u4 u7 u8),(XK p p1 p2 p3 x2 x0 x1 u5 u0 u1 u2 u3)⟩
section
variable (u6:Int) (p:ai) (p1:(List Source)) (p2:(List Link)) (u5:(List ax)) (u0:(List (List Int))) (u1:(List aV)) (x0:(List Int)) (x1:(List Int)) (u2:(List af)) (u3:(List (Int × Int))) (u4:(List (Int × Int))) (u7:(List (af × Int)))
abbrev adz:List (Nat × TV):=[(2,(vP 63 0)),(4,(vP 65 0)),(8,(vI u6)),(9,(vP 67 0)),(10,(vP 72 0)),rV,p9,nZ]
abbrev afD:St:=⟨(adz u6),(XK p p1 p2 u5 u2 x0 x1 u7 u0 u1 u3 u4)⟩
end
def AB (p:ai) (p1:(List Source)) (x0:(List Int)) (u3:(List (Int × Int))) (p2:(List Link)) (x1:(List Int)) (u4:(List (Int × Int))):((List ax) × Int × (List aV) × (List (List Int)) × (List af) × (List (af × Int)))→St:=
  fun zz=>match zz with|(u5,u6,u1,u0,u2,u7)=>(afD u6 p p1 p2 u5 u0 u1 x0 x1 u2 u3 u4 u7)
def sO (p:ai) (s_:State) (p1:(List Source)) (x0:(List Int)) (u0:(List (Int × Int))) (p2:(List Link)) (x1:(List Int)) (u1:(List (Int × Int))):(aU ((List ax) × Int × (List aV) × (List (List Int)) × (List af) × (List (af × Int)) × (List ax) × Int × Int) (Ex ((List ax) × Int × (List aV) × (List (List Int)) × (List af) × (List (af × Int))) (aj × (List Bool) × Int)))→Exit→St→Prop:=
  LQ 4 [] (Ar p s_ p1 x0 u0 p2 x1 u1) (AB p p1 x0 u0 p2 x1 u1) jk
section
variable (u1:(List ax)) (u0:Int) (s_:State) (u6:Int) (u7:Int) (u9:Int) (p:ai) (p1:(List Source)) (p2:(List Link)) (p3:(List ax)) (u2:(List (List Int))) (u3:(List aV)) (x0:(List Int)) (x1:(List Int)) (x2:(List af)) (u4:(List (Int × Int))) (u5:(List (Int × Int))) (u8:(List (af × Int)))
abbrev Ld:=((at' u1 u0.toNat).power)
abbrev acT:List DV:=[(.int .i64 ((Ko u1 u0).e0)),(.int .i64 ((Ko u1 u0).e1)),(.int .i64 (Ld u1 u0)),(.int .i64 ((at' u1 u0.toNat).paths))]
abbrev ajX:TV:=(vD (kH (acT u1 u0) 0))
abbrev yB:Nat × TV:=(19,(ajX u1 u0))
abbrev SF:List CV:=[(cI ((Ko u1 u0).e0)),(cI ((Ko u1 u0).e1))]
abbrev Bz:Nat × TV:=(133,(.v (.agg (SF u1 u0))))
abbrev akj:List (Nat × TV):=[(2,(vP 63 0)),(lW s_),(4,(vP 65 0)),(8,(vI u6)),(9,(vP 67 0)),(10,(vP 72 0)),rV,p9,nZ,(18,(vI u0)),(yB u1 u0),(pu u1),(116,(vI u7)),(117,(vI u0)),(Bz u1 u0),(134,(vI u9))]
abbrev Td:List (Nat × Option Ob):=[(fq p p1 p2 p3),bW,(V3 u2),(67,some (.cells 161 [(.own 111 false u3.length),(.own 66 true u2.length)])),(nG x0),(pq x1),(rG x2),(rH x2 x0 x1),(EK u4),(Ez u5),(GH u8),(111,some (bg 170 2 aV.cell u3))]
end
def AY (p:ai) (s_:State) (p1:(List Source)) (x0:(List Int)) (u4:(List (Int × Int))) (p2:(List Link)) (x1:(List Int)) (u5:(List (Int × Int))) (p3:(List ax)) (u6:Int) (x2:(List af)) (u1:(List ax)) (u7:Int) (u0:Int):((List aV) × (List (List Int)) × (List (af × Int)) × Int)→St:=
  fun zz=>match zz with|(u3,u2,u8,u9)=> ⟨(akj u1 u0 s_ u6 u7 u9),(Td p p1 p2 p3 u2 u3 x0 x1 x2 u4 u5 u8)⟩
section
variable (s_:State) (u4:Int) (u5:(List ax)) (u6:Int) (u7:Int) (p:ai) (p1:(List Source)) (p2:(List Link)) (p3:(List ax)) (u0:(List (List Int))) (u1:(List aV)) (x0:(List Int)) (x1:(List Int)) (x2:(List af)) (u2:(List (Int × Int))) (u3:(List (Int × Int))) (u8:(List (af × Int)))
abbrev ahC:St:=⟨(akc u5 s_ u4 u6 u7),(Td p p1 p2 p3 u0 u1 x0 x1 x2 u2 u3 u8)⟩
end
def AU (p:ai) (s_:State) (p1:(List Source)) (x0:(List Int)) (u2:(List (Int × Int))) (p2:(List Link)) (x1:(List Int)) (u3:(List (Int × Int))) (p3:(List ax)) (u4:Int) (x2:(List af)) (u5:(List ax)) (u6:Int) (u7:Int):((List aV) × (List (List Int)) × (List (af × Int)))→St:=
  fun zz=>match zz with|(u1,u0,u8)=>(ahC s_ u4 u5 u6 u7 p p1 p2 p3 u0 u1 x0 x1 x2 u2 u3 u8)
def Jp (p:ai) (s_:State) (p1:(List Source)) (x0:(List Int)) (u0:(List (Int × Int))) (p2:(List Link)) (x1:(List Int)) (u1:(List (Int × Int))) (p3:(List ax)) (u2:Int) (x2:(List af)) (u3:(List ax)) (u4:Int) (u5:Int):(aU ((List aV) × (List (List Int)) × (List (af × Int)) × Int) (Ex ((List aV) × (List (List Int)) × (List (af × Int))) (aU ((List ax) × Int × (List aV) × (List (List Int)) × (List af) × (List (af × Int)) × (List ax) × Int × Int) (Ex ((List ax) × Int × (List aV) × (List (List Int)) × (List af) × (List (af × Int))) (aj × (List Bool) × Int)))))→Exit→St→Prop:=
  LQ 6 [5] (AY p s_ p1 x0 u0 p2 x1 u1 p3 u2 x2 u3 u4 u5) (AU p s_ p1 x0 u0 p2 x1 u1 p3 u2 x2 u3 u4 u5) (sO p s_ p1 x0 u0 p2 x1 u1)
section
variable (u0:Network) (p:ai) (p1:(List Source)) (p2:(List Link)) (u4:(List ax)) (u2:(List Int)) (x1:(List Int)) (u1:(List af)) (u3:(List (Int × Int))) (u5:(List (af × Int)))
abbrev aeR:List (Nat × TV):=[(2,(vP 63 0)),(4,(vP 65 0)),(9,(vP 67 0)),(10,(vP 72 0)),p9,nZ,(162,(vP 116 0))]
abbrev zb:Nat × Option Ob:=(67,some (.cells 161 [(.own 68 false u0.arcs.length),(.d (Jc u0))]))
abbrev zy:Nat × Option Ob:=(68,some (Vb u0))
abbrev ain:List (Nat × Option Ob):=[(fq p p1 p2 u4),bW,(zb u0),(zy u0),(nG u2),(pq x1),(rG u1),(rH u1 u2 x1),(Ez u3),(GH u5),(116,none)]
abbrev afF:St:=⟨aeR,(ain u0 p p1 p2 u4 u2 x1 u1 u3 u5)⟩
end
def I6 (p:ai) (p1:(List Source)) (p2:(List Link)) (x1:(List Int)) (u3:(List (Int × Int))) (u4:(List ax)) (u1:(List af)) (u5:(List (af × Int))) (u0:Network):(List Int)→St:=
  fun u2=>(afF u0 p p1 p2 u4 u2 x1 u1 u3 u5)
section
variable (p:ai) (p1:(List Source)) (p2:(List Link)) (u4:(List ax)) (u0:Network) (u2:(List Int)) (u3:(List Int)) (u1:(List af)) (u5:(List (af × Int)))
abbrev aeu:List (Nat × TV):=[(2,(vP 63 0)),(4,(vP 65 0)),(9,(vP 67 0)),(10,(vP 72 0)),nZ,(182,(vP 117 0))]
abbrev ahl:List (Nat × Option Ob):=[(fq p p1 p2 u4),bW,(zb u0),(zy u0),(nG u2),(pq u3),(rG u1),(rH u1 u2 u3),(GH u5),(117,none)]
abbrev afS:St:=⟨aeu,(ahl p p1 p2 u4 u0 u2 u3 u1 u5)⟩
end
def Jr (p:ai) (p1:(List Source)) (p2:(List Link)) (u4:(List ax)) (u1:(List af)) (u5:(List (af × Int))) (u0:Network) (u2:(List Int)):(List Int)→St:=
  fun u3=>(afS p p1 p2 u4 u0 u2 u3 u1 u5)
section
variable (p:ai) (p1:(List Source)) (p2:(List Link)) (u4:(List ax)) (u0:Network) (u1:(List Int)) (u2:(List Int)) (u3:(List af))
abbrev Xm:List (Nat × TV):=[(2,(vP 63 0)),(4,(vP 65 0)),(9,(vP 67 0)),(10,(vP 72 0)),(208,(vP 118 0))]
abbrev ah6:St:=⟨Xm,[(fq p p1 p2 u4),bW,(zb u0),(zy u0),(nG u1),(pq u2),(rG u3),(rH u3 u1 u2),(118,none)]⟩
end
def I4 (p:ai) (p1:(List Source)) (p2:(List Link)) (u4:(List ax)) (u0:Network) (u1:(List Int)) (u2:(List Int)):(List af)→St:=
  fun u3=>(ah6 p p1 p2 u4 u0 u1 u2 u3)
end
end Sg
