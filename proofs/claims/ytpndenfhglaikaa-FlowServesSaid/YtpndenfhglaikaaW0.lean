import Derived.Test.YtpndenfhglaikaaGm
import Derived.Test.YtpndenfhglaikaaProg
set_option linter.all false
namespace Sg
open Go Go.Proofs
set_option maxRecDepth 20000
noncomputable section
noncomputable def TT:List (Nat × TI):=[(3,⟨Try.t3.desc,Try.t3.size,Try.t3.bytes,zl Try.t3,false⟩),
  (4,⟨Try.t4.desc,Try.t4.size,Try.t4.bytes,zl Try.t4,false⟩),
  (22,⟨Try.t22.desc,Try.t22.size,Try.t22.bytes,zl Try.t22,false⟩),
  (23,⟨Try.t23.desc,Try.t23.size,Try.t23.bytes,zl Try.t23,false⟩),
  (24,⟨Try.t24.desc,Try.t24.size,Try.t24.bytes,zl Try.t24,false⟩),
  (26,⟨Try.t25.desc,Try.t26.size,Try.t26.bytes,zl Try.t26,false⟩),
  (27,⟨Try.t27.desc,Try.t27.size,Try.t27.bytes,zl Try.t27,false⟩),
  (29,⟨Try.t28.desc,Try.t29.size,Try.t29.bytes,zl Try.t29,false⟩),
  (40,⟨Try.t40.desc,Try.t40.size,Try.t40.bytes,zl Try.t40,false⟩),
  (41,⟨Try.t41.desc,Try.t41.size,Try.t41.bytes,zl Try.t41,false⟩),
  (47,⟨Try.t46.desc,Try.t47.size,Try.t47.bytes,zl Try.t47,false⟩),
  (50,⟨Try.t3.desc,Try.t50.size,Try.t50.bytes,zl Try.t50,false⟩),
  (51,⟨Try.t51.desc,Try.t51.size,Try.t51.bytes,zl Try.t51,false⟩),
  (53,⟨Try.t52.desc,Try.t53.size,Try.t53.bytes,zl Try.t53,false⟩),
  (75,⟨Try.t75.desc,Try.t75.size,Try.t75.bytes,zl Try.t75,false⟩),
  (77,⟨Try.t76.desc,Try.t77.size,Try.t77.bytes,zl Try.t77,false⟩),
  (80,⟨Try.t80.desc,Try.t80.size,Try.t80.bytes,zl Try.t80,false⟩),
  (92,⟨Try.t76.desc,Try.t92.size,Try.t92.bytes,zl Try.t92,false⟩),
  (102,⟨Try.t102.desc,Try.t102.size,Try.t102.bytes,zl Try.t102,false⟩),
  (103,⟨Try.t46.desc,Try.t103.size,Try.t103.bytes,zl Try.t103,false⟩),
  (110,⟨Try.t110.desc,Try.t110.size,Try.t110.bytes,zl Try.t110,false⟩),
  (115,⟨Try.t3.desc,Try.t115.size,Try.t115.bytes,zl Try.t115,false⟩),
  (117,⟨Try.t116.desc,Try.t117.size,Try.t117.bytes,zl Try.t117,true⟩),
  (119,⟨Try.t119.desc,Try.t119.size,Try.t119.bytes,zl Try.t119,false⟩),
  (123,⟨Try.t122.desc,Try.t123.size,Try.t123.bytes,zl Try.t123,false⟩),
  (124,⟨Try.t3.desc,Try.t124.size,Try.t124.bytes,zl Try.t124,false⟩),
  (126,⟨Try.t125.desc,Try.t126.size,Try.t126.bytes,zl Try.t126,true⟩),
  (128,⟨Try.t128.desc,Try.t128.size,Try.t128.bytes,zl Try.t128,false⟩),
  (129,⟨Try.t129.desc,Try.t129.size,Try.t129.bytes,zl Try.t129,false⟩),
  (135,⟨Try.t135.desc,Try.t135.size,Try.t135.bytes,zl Try.t135,false⟩),
  (141,⟨Try.t140.desc,Try.t141.size,Try.t141.bytes,zl Try.t141,false⟩),
  (142,⟨Try.t142.desc,Try.t142.size,Try.t142.bytes,zl Try.t142,false⟩),
  (148,⟨Try.t147.desc,Try.t148.size,Try.t148.bytes,zl Try.t148,true⟩),
  (157,⟨Try.t157.desc,Try.t157.size,Try.t157.bytes,zl Try.t157,false⟩),
  (158,⟨Try.t158.desc,Try.t158.size,Try.t158.bytes,zl Try.t158,false⟩),
  (159,⟨Try.t159.desc,Try.t159.size,Try.t159.bytes,zl Try.t159,false⟩),
  (161,⟨Try.t160.desc,Try.t161.size,Try.t161.bytes,zl Try.t161,false⟩),
  (162,⟨Try.t162.desc,Try.t162.size,Try.t162.bytes,zl Try.t162,false⟩),
  (164,⟨Try.t164.desc,Try.t164.size,Try.t164.bytes,zl Try.t164,true⟩),
  (166,⟨Try.t165.desc,Try.t166.size,Try.t166.bytes,zl Try.t166,true⟩),
  (170,⟨Try.t169.desc,Try.t170.size,Try.t170.bytes,zl Try.t170,true⟩),
  (182,⟨Try.t182.desc,Try.t182.size,Try.t182.bytes,zl Try.t182,false⟩),
  (184,⟨Try.t184.desc,Try.t184.size,Try.t184.bytes,zl Try.t184,false⟩),
  (186,⟨Try.t185.desc,Try.t186.size,Try.t186.bytes,zl Try.t186,false⟩),
  (192,⟨Try.t192.desc,Try.t192.size,Try.t192.bytes,zl Try.t192,false⟩),
  (195,⟨Try.t195.desc,Try.t195.size,Try.t195.bytes,zl Try.t195,false⟩),
  (198,⟨Try.t198.desc,Try.t198.size,Try.t198.bytes,zl Try.t198,false⟩),
  (211,⟨Try.t211.desc,Try.t211.size,Try.t211.bytes,zl Try.t211,true⟩),
  (215,⟨Try.t214.desc,Try.t215.size,Try.t215.bytes,zl Try.t215,false⟩),
  (226,⟨Try.t225.desc,Try.t226.size,Try.t226.bytes,zl Try.t226,false⟩),
  (234,⟨Try.t234.desc,Try.t234.size,Try.t234.bytes,zl Try.t234,false⟩),
  (243,⟨Try.t243.desc,Try.t243.size,Try.t243.bytes,zl Try.t243,false⟩),
  (244,⟨Try.t244.desc,Try.t244.size,Try.t244.bytes,zl Try.t244,false⟩)]
theorem tT:vz Try.prog TT:=⟨iU (by kernel_rfl) (by kernel_rfl) (by kernel_rfl),⟨jZ,eu (by kernel_rfl)⟩,iU (by kernel_rfl) (by kernel_rfl) (by kernel_rfl),⟨jZ,eu (by kernel_rfl)⟩,iU (by kernel_rfl) (by kernel_rfl) (by kernel_rfl),⟨jZ,eu (by kernel_rfl)⟩,iU (by kernel_rfl) (by kernel_rfl) (by kernel_rfl),⟨jZ,eu (by kernel_rfl)⟩,iU (by kernel_rfl) (by kernel_rfl) (by kernel_rfl),⟨jZ,eu (by kernel_rfl)⟩,iU (by kernel_rfl) (by kernel_rfl) (by kernel_rfl),⟨jZ,eu (by kernel_rfl)⟩,iU (by kernel_rfl) (by kernel_rfl) (by kernel_rfl),⟨jZ,eu (by kernel_rfl)⟩,iU (by kernel_rfl) (by kernel_rfl) (by kernel_rfl),⟨jZ,eu (by kernel_rfl)⟩,iU (by kernel_rfl) (by kernel_rfl) (by kernel_rfl),⟨jZ,eu (by kernel_rfl)⟩,iU (by kernel_rfl) (by kernel_rfl) (by kernel_rfl),⟨jZ,eu (by kernel_rfl)⟩,iU (by kernel_rfl) (by kernel_rfl) (by kernel_rfl),⟨jZ,eu (by kernel_rfl)⟩,iU (by kernel_rfl) (by kernel_rfl) (by kernel_rfl),⟨jZ,eu (by kernel_rfl)⟩,iU (by kernel_rfl) (by kernel_rfl) (by kernel_rfl),⟨jZ,eu (by kernel_rfl)⟩,iU (by kernel_rfl) (by kernel_rfl) (by kernel_rfl),⟨jZ,eu (by kernel_rfl)⟩,iU (by kernel_rfl) (by kernel_rfl) (by kernel_rfl),⟨jZ,eu (by kernel_rfl)⟩,iU (by kernel_rfl) (by kernel_rfl) (by kernel_rfl),⟨jZ,eu (by kernel_rfl)⟩,iU (by kernel_rfl) (by kernel_rfl) (by kernel_rfl),⟨jZ,eu (by kernel_rfl)⟩,iU (by kernel_rfl) (by kernel_rfl) (by kernel_rfl),⟨jZ,eu (by kernel_rfl)⟩,iU (by kernel_rfl) (by kernel_rfl) (by kernel_rfl),⟨jZ,eu (by kernel_rfl)⟩,iU (by kernel_rfl) (by kernel_rfl) (by kernel_rfl),⟨jZ,eu (by kernel_rfl)⟩,iU (by kernel_rfl) (by kernel_rfl) (by kernel_rfl),⟨jZ,eu (by kernel_rfl)⟩,iU (by kernel_rfl) (by kernel_rfl) (by kernel_rfl),⟨jZ,eu (by kernel_rfl)⟩,iU (by kernel_rfl) (by kernel_rfl) (by kernel_rfl),⟨fun _=> ⟨by kernel_rfl,by kernel_rfl⟩,eu (by kernel_rfl)⟩,iU (by kernel_rfl) (by kernel_rfl) (by kernel_rfl),⟨jZ,eu (by kernel_rfl)⟩,iU (by kernel_rfl) (by kernel_rfl) (by kernel_rfl),⟨jZ,eu (by kernel_rfl)⟩,iU (by kernel_rfl) (by kernel_rfl) (by kernel_rfl),⟨jZ,eu (by kernel_rfl)⟩,iU (by kernel_rfl) (by kernel_rfl) (by kernel_rfl),⟨fun _=> ⟨by kernel_rfl,by kernel_rfl⟩,eu (by kernel_rfl)⟩,iU (by kernel_rfl) (by kernel_rfl) (by kernel_rfl),⟨jZ,eu (by kernel_rfl)⟩,iU (by kernel_rfl) (by kernel_rfl) (by kernel_rfl),⟨jZ,eu (by kernel_rfl)⟩,iU (by kernel_rfl) (by kernel_rfl) (by kernel_rfl),⟨jZ,eu (by kernel_rfl)⟩,iU (by kernel_rfl) (by kernel_rfl) (by kernel_rfl),⟨jZ,eu (by kernel_rfl)⟩,iU (by kernel_rfl) (by kernel_rfl) (by kernel_rfl),⟨jZ,eu (by kernel_rfl)⟩,iU (by kernel_rfl) (by kernel_rfl) (by kernel_rfl),⟨fun _=> ⟨by kernel_rfl,by kernel_rfl⟩,eu (by kernel_rfl)⟩,iU (by kernel_rfl) (by kernel_rfl) (by kernel_rfl),⟨jZ,eu (by kernel_rfl)⟩,iU (by kernel_rfl) (by kernel_rfl) (by kernel_rfl),⟨jZ,eu (by kernel_rfl)⟩,iU (by kernel_rfl) (by kernel_rfl) (by kernel_rfl),⟨jZ,eu (by kernel_rfl)⟩,iU (by kernel_rfl) (by kernel_rfl) (by kernel_rfl),⟨jZ,eu (by kernel_rfl)⟩,iU (by kernel_rfl) (by kernel_rfl) (by kernel_rfl),⟨jZ,eu (by kernel_rfl)⟩,iU (by kernel_rfl) (by kernel_rfl) (by kernel_rfl),⟨fun _=> ⟨by kernel_rfl,by kernel_rfl⟩,eu (by kernel_rfl)⟩,iU (by kernel_rfl) (by kernel_rfl) (by kernel_rfl),⟨fun _=> ⟨by kernel_rfl,by kernel_rfl⟩,eu (by kernel_rfl)⟩,iU (by kernel_rfl) (by kernel_rfl) (by kernel_rfl),⟨fun _=> ⟨by kernel_rfl,by kernel_rfl⟩,eu (by kernel_rfl)⟩,iU (by kernel_rfl) (by kernel_rfl) (by kernel_rfl),⟨jZ,eu (by kernel_rfl)⟩,iU (by kernel_rfl) (by kernel_rfl) (by kernel_rfl),⟨jZ,eu (by kernel_rfl)⟩,iU (by kernel_rfl) (by kernel_rfl) (by kernel_rfl),⟨jZ,eu (by kernel_rfl)⟩,iU (by kernel_rfl) (by kernel_rfl) (by kernel_rfl),⟨jZ,eu (by kernel_rfl)⟩,iU (by kernel_rfl) (by kernel_rfl) (by kernel_rfl),⟨jZ,eu (by kernel_rfl)⟩,iU (by kernel_rfl) (by kernel_rfl) (by kernel_rfl),⟨jZ,eu (by kernel_rfl)⟩,iU (by kernel_rfl) (by kernel_rfl) (by kernel_rfl),⟨fun _=> ⟨by kernel_rfl,by kernel_rfl⟩,eu (by kernel_rfl)⟩,iU (by kernel_rfl) (by kernel_rfl) (by kernel_rfl),⟨jZ,eu (by kernel_rfl)⟩,iU (by kernel_rfl) (by kernel_rfl) (by kernel_rfl),⟨jZ,eu (by kernel_rfl)⟩,iU (by kernel_rfl) (by kernel_rfl) (by kernel_rfl),⟨jZ,eu (by kernel_rfl)⟩,iU (by kernel_rfl) (by kernel_rfl) (by kernel_rfl),⟨jZ,eu (by kernel_rfl)⟩,iU (by kernel_rfl) (by kernel_rfl) (by kernel_rfl),⟨jZ,eu (by kernel_rfl)⟩,trivial⟩
theorem mX:Try.prog.follows .mixedOrders=true:=by kernel_rfl
def Et  :(List Bool)→Exit→St→Prop:=
  fun r=>bL TT [.tmp 2] (vO 0 false r.length) [(0,some (bW 4 1 aF r))]
section
variable (l:List Bool)
abbrev k0:Nat × TV:=(0,vD (bJ none 1 aF l))
end
theorem eD (l:List Bool) {r:List Bool} (h:dY l=some r):Fn Try.prog 64 [sD (bJ none 1 aF l)] [] (vO 0 false r.length) [(0,some (bW 4 1 aF r))]:=by
 refine fN tT Try.func64 rfl rfl fun B=> ?_
 show bR _ _ _ _ _ _ (Et r) _
 unfold dY at h
 refine sz tT ⟨[k0 l],[]⟩ {} [] ?_
 refine sz tT ⟨[k0 l,(3,vD nS)],[]⟩ {} [] ?_
 refine aQ (aO h fun⟨a1,a2⟩ h=> ?_)
 refine rg tT ⟨[(2,vO 1 false l.length)],[(1,some (bW 4 1 aF l))]⟩ [_,_,l.length=l.length,aZ l.length 1 (aS aF l) (aS aF l)] {an:=[(2, .arr l.length (aS aF l))],fr:=[(2,1)] } [] ⟨a1,a2,rfl,fQ _ _ _,trivial⟩ ?_
 refine aI (cO.fin (st':=⟨[(2,vO 0 false l.length)],[(0,some (bW 4 1 aF l))]⟩) (cs:=[]) ⟨[],[(1,0)]⟩ [2] (by kernel_rfl) trivial) ?_
 refine aR ?_
 obtain rfl:=oi h
 exact rl [.one (.own 0 false l.length)]
def qV  :Bool→Exit→St→Prop:=
  fun r=>bL TT [.tmp 4] (vB r) []
section
variable (b:List Bool)
abbrev k1:Nat × TV:=(1,vD (bJ none 1 aF b))
end
def xg (a:List Bool) (b:List Bool):Int→St:=
  fun i=> ⟨[k0 a,k1 b,(5,vI i)],[]⟩
def wK  :Unit→St:=
  fun _=> ⟨[],[]⟩
def Gd (a:List Bool) (b:List Bool):(aY Int (Ex Unit Bool))→Exit→St→Prop:=
  LQ 0 [] (xg a b) wK qV
section
variable (i:Int)
abbrev k3:TV:=(vI (IntKind.wrap .i64 (i+1)))
abbrev k2:Nat × TV:=(5,k3 i)
end
theorem dH (a:List Bool) (b:List Bool) {r:Bool} (h:dD a b=some r):Fn Try.prog 42 [sD (bJ none 1 aF a),sD (bJ none 1 aF b)] [] (vB r) []:=by
 refine fN tT Try.func42 rfl rfl fun B=> ?_
 show bR _ _ _ _ _ _ (qV r) _
 unfold dD at h
 refine sz tT ⟨[k0 a,k1 b],[]⟩ {} [] ?_
 refine aQ (sz tT ⟨[k0 a,k1 b,(10,vB (!decide ((a.length:Int)=(b.length:Int))))],[]⟩ {} [] ?_)
 refine bI h (fun hb2 h=> ?_) (fun hb2 h=> ?_)
 ·refine ct hb2 ?_
  refine sz tT ⟨[(4,vB false)],[]⟩ {} [] ?_
  refine aR ?_
  obtain rfl:=oi h
  exact rl [sB false]
 ·refine cf hb2 ?_
  refine aP (aQ (sz tT ⟨[k0 a,k1 b,(5,vI 0)],[]⟩ {} [] ?_))
  refine bE h fun y hy h=> ?_
  refine aL [] (xg a b) wK qV hy (fun s f h=> ?_) ?_
  ·clear hy
   show bR _ _ _ _ _ _ ((Gd a b) f) _
   unfold jr at h
   obtain⟨i,rfl⟩: ∃q,q=s:=⟨_,rfl⟩
   refine aQ (sz tT ⟨[k0 a,k1 b,(5,vI i),(14,vB (decide (i<(a.length:Int))))],[]⟩ {} [] ?_)
   refine bI h (fun hb1 h=> ?_) (fun hb1 h=> ?_)
   ·refine ct hb1 ?_
    refine aP (aQ (aB (aQ (aO h fun⟨a1,a2⟩ h=> ?_))))
    refine dg tT mX ⟨[k0 a,k1 b,(5,vI i),(25,vB (!((at' a i.toNat)==(at' b i.toNat))))],[]⟩ [_,_] {} [] ⟨a1,a2,trivial⟩ ?_
    refine bI h (fun hb h=> ?_) (fun hb h=> ?_)
    ·refine ct hb ?_
     refine sz tT ⟨[(4,vB false)],[]⟩ {} [] ?_
     refine aR ?_
     obtain rfl:=oi h
     exact lR dw (dm 0) dz (bL.mk (.inr rfl) (p:=[]) (l:=[sB false]) (by kernel_rfl) trivial (eB.refl _) trivial)
    ·refine cf hb ?_
     refine aP (rz tT ⟨[k0 a,k1 b,k2 i],[]⟩ {} [] ?_)
     obtain rfl:=oi h
     exact lN
   ·refine cf hb1 ?_
    refine aI (fz ⟨[],[]⟩ []) ?_
    refine aX ?_
    obtain rfl:=oi h
    exact lB
  ·clear hy
   cases y with
   |brk z=>
    unfold dZ
    refine⟨_, .refl, ?_⟩
    refine sz tT ⟨[(4,vB true)],[]⟩ {} [] ?_
    refine aR ?_
    obtain rfl:=oi h
    exact rl [sB true]
   |ret v=>
    obtain rfl:=oi h
    unfold dZ
    intro e st hn ha hR
    cases e with
    |normal=>exact absurd rfl hn
    |exit id=>exact hR
    |goto l=>exact hR
    |ret=>exact hR
    |panic c=>exact hR
    |outgrown=>exact hR
def Jj  :Bool→Exit→St→Prop:=
  fun r=>bL TT [.tmp 4] (vB r) []
section
variable (a:aA) (b:aA) (r_:Bool) (u0:Bool) (u1:Bool) (u2:Bool) (u3:Bool) (u4:Bool) (u5:Bool)
abbrev k6:DV:=(bJ none 1 aF a.bD)
abbrev k5:List CV:=[.d (bJ none 1 aF a.bH),.d (bJ none 1 aF a.bZ),.d (bJ none 1 aF a.bN),.d (bJ none 1 aF a.on_),.d (k6 a),.d (bJ none 1 aF a.cK),.d (bJ none 1 aF a.aW)]
abbrev k4:List SV:=[.agg (k5 a),.agg (k5 b)]
abbrev k9:DV:=(ow [bJ none 1 aF a.bH,bJ none 1 aF a.bZ,bJ none 1 aF a.bN,bJ none 1 aF a.on_,k6 a,bJ none 1 aF a.cK,bJ none 1 aF a.aW] 0)
abbrev k8:TV:=(vD (k9 a))
abbrev k7:Nat × TV:=(2,k8 a)
abbrev k10:Nat × TV:=(3,k8 b)
abbrev k16:=(bif r_ then u0 else false)
abbrev k15:=(bif (k16 r_ u0)then u1 else false)
abbrev k14:=(bif (k15 r_ u0 u1)then u2 else false)
abbrev k13:=(bif (k14 r_ u0 u1 u2)then u3 else false)
abbrev k12:=(bif (k13 r_ u0 u1 u2 u3)then u4 else false)
abbrev k11:=(bif (k12 r_ u0 u1 u2 u3 u4)then u5 else false)
abbrev k17:=(gY [(5,r_),(12,k16 r_ u0),(19,k15 r_ u0 u1),(26,k14 r_ u0 u1 u2),(33,k13 r_ u0 u1 u2 u3),(40,k12 r_ u0 u1 u2 u3 u4)])
abbrev k18:=((k15 r_ u0 u1)=(k15 r_ u0 u1))
end
theorem II (a:aA) (b:aA) {r:Bool} (h:mY a b=some r):Fn Try.prog 20 (k4 a b) [] (vB r) []:=by
 refine fN tT Try.func20 rfl rfl fun B=> ?_
 show bR _ _ _ _ _ _ (Jj r) _
 unfold mY at h
 refine sz tT ⟨[k7 a,k10 b],[]⟩ {fr:=[(0,2),(1,3)] } [2,3] ?_
 refine aQ (bE h fun r_ hr_ h=> ?_)
 refine bE h fun u0 hr_1 h=> ?_
 refine bE h fun u1 hr_2 h=> ?_
 refine bE h fun u2 hr_3 h=> ?_
 refine bE h fun u3 hr_4 h=> ?_
 refine bE h fun u4 hr_5 h=> ?_
 refine bE h fun u5 hr_6 h=> ?_
 have q0:=dH a.bH b.bH hr_
 refine rg tT ⟨[(4,vB (k11 r_ u0 u1 u2 u3 u4 u5))],[]⟩ (_::(eqs r_ 5 ((gP (k17 r_ u0 u1 u2 u3 u4) [(5,true)]→All [Fn Try.prog 42 [sD (bJ none 1 aF a.bZ),sD (bJ none 1 aF b.bZ)] [] (vB u0) []])::(r_=r_)::(eqs (k16 r_ u0) 5 ((gP (k17 r_ u0 u1 u2 u3 u4) [(12,true)]→All [Fn Try.prog 42 [sD (bJ none 1 aF a.bN),sD (bJ none 1 aF b.bN)] [] (vB u1) []])::((k16 r_ u0)=(k16 r_ u0))::(eqs (k15 r_ u0 u1) 5 ((gP (k17 r_ u0 u1 u2 u3 u4) [(19,true)]→All [Fn Try.prog 42 [sD (bJ none 1 aF a.on_),sD (bJ none 1 aF b.on_)] [] (vB u2) []])::(k18 r_ u0 u1)::(eqs (k14 r_ u0 u1 u2) 5 ((gP (k17 r_ u0 u1 u2 u3 u4) [(26,true)]→All [Fn Try.prog 42 [sD (k6 a),sD (k6 b)] [] (vB u3) []])::((k14 r_ u0 u1 u2)=(k14 r_ u0 u1 u2))::(eqs (k13 r_ u0 u1 u2 u3) 5 ((gP (k17 r_ u0 u1 u2 u3 u4) [(33,true)]→All [Fn Try.prog 42 [sD (bJ none 1 aF a.cK),sD (bJ none 1 aF b.cK)] [] (vB u4) []])::((k13 r_ u0 u1 u2 u3)=(k13 r_ u0 u1 u2 u3))::(eqs (k12 r_ u0 u1 u2 u3 u4) 5 [gP (k17 r_ u0 u1 u2 u3 u4) [(40,true)]→All [Fn Try.prog 42 [sD (bJ none 1 aF a.aW),sD (bJ none 1 aF b.aW)] [] (vB u5) []],(k12 r_ u0 u1 u2 u3 u4)=(k12 r_ u0 u1 u2 u3 u4)])))))))))))) {yb:=[(5,r_),(12,k16 r_ u0),(19,k15 r_ u0 u1),(26,k14 r_ u0 u1 u2),(33,k13 r_ u0 u1 u2 u3),(40,k12 r_ u0 u1 u2 u3 u4)],an:=[(4,cA q0 []),(10, .call [] (vB u0) []),(17, .call [] (vB u1) []),(24, .call [] (vB u2) []),(31, .call [] (vB u3) []),(38, .call [] (vB u4) []),(45, .call [] (vB u5) [])] } [] ⟨q0,ae ⟨(fun hg=> ⟨dH a.bZ b.bZ (d9 hr_1 (bC hg)),trivial⟩),rfl,ae ⟨(fun hg=> ⟨dH a.bN b.bN (d9 hr_2 (bC hg)),trivial⟩),rfl,ae ⟨(fun hg=> ⟨dH a.on_ b.on_ (d9 hr_3 (bC hg)),trivial⟩),rfl,ae ⟨(fun hg=> ⟨dH a.bD b.bD (d9 hr_4 (bC hg)),trivial⟩),rfl,ae ⟨(fun hg=> ⟨dH a.cK b.cK (d9 hr_5 (bC hg)),trivial⟩),rfl,ae ⟨(fun hg=> ⟨dH a.aW b.aW (d9 hr_6 (bC hg)),trivial⟩),rfl,trivial⟩⟩⟩⟩⟩⟩⟩ ?_
 refine aR ?_
 obtain rfl:=oi h
 exact rl [sB (k11 r_ u0 u1 u2 u3 u4 u5)]
def yG  :Bool→Exit→St→Prop:=
  fun r=>bL TT [.tmp 4] (vB r) []
section
variable (x:aH)
abbrev k21:List CV:=[cI x.a,cI x.b,cI x.kind,cI x.most,cI x.gM,.d (bJ none 2 dV.cell x.trip)]
abbrev k20:Ob:=(.cells 53 (k21 x))
abbrev k19:List (Nat × Option Ob):=[(7,some (k20 x))]
end
def D5 (x:aH):Int→St:=
  fun i=> ⟨[(3,vP 7 0),(5,vI i)],k19 x⟩
def DK  :Unit→St:=
  fun _=> ⟨[],[]⟩
def M5 (x:aH):(aY Int (Ex Unit Bool))→Exit→St→Prop:=
  LQ 0 [] (D5 x) DK yG
section
variable (p:au) (x:aH) (i:Int)
abbrev k23:DV:=(bJ none 5 ay.cell p.ah)
abbrev k24:DV:=(bJ none 6 aH.cell p.ai)
abbrev k25:DV:=(bJ none 4 aK.cell p.af)
abbrev k22:List CV:=[cI p.ax,.d (k23 p),.d (k24 p),.d (k25 p)]
abbrev k28:DV:=(ow [.int .i64 p.ax,k23 p,k24 p,k25 p] 0)
abbrev k27:TV:=(vD (k28 p))
abbrev k26:Nat × TV:=(2,k27 p)
abbrev k37:=(bif (decide (x.a<0))then true else(decide (p.ax≤x.a)))
abbrev k36:=(bif (k37 p x)then true else(decide (x.b<0)))
abbrev k35:=(bif (k36 p x)then true else(decide (p.ax≤x.b)))
abbrev k34:=(bif (k35 p x)then true else(decide (x.a=x.b)))
abbrev k33:=(bif (k34 p x)then true else(decide (x.kind<1)))
abbrev k32:=(bif (k33 p x)then true else(decide (3<x.kind)))
abbrev k31:=(bif (k32 p x)then true else(decide (x.most<1)))
abbrev k30:=(bif (k31 p x)then true else(decide (100000<x.most)))
abbrev k29:=(bif (k30 p x)then true else(decide (x.gM<10)))
abbrev k38:=(decide (6<(x.trip.length:Int)))
abbrev k39:=(decide (0<(x.trip.length:Int)))
abbrev k42:=((at' x.trip i.toNat).jd)
abbrev k41:TV:=(vD (ow [.int .i64 ((at' x.trip i.toNat).amps),.int .i64 (k42 x i)] 0))
abbrev k40:Nat × TV:=(6,k41 x i)
abbrev k44:=(bif (decide (((at' x.trip i.toNat).amps)<1))then true else(decide (1000000<((at' x.trip i.toNat).amps))))
abbrev k43:=(bif (k44 x i)then true else(decide ((k42 x i)<1)))
abbrev Qj:=(IntKind.wrap .i64 (i - 1))
abbrev Zf:=(decide (((at' x.trip i.toNat).amps)≤((at' x.trip ((Qj i).toNat)).amps)))
abbrev k45:=(bif (decide (0<i))then(bif (Zf x i)then true else(decide (((at' x.trip ((Qj i).toNat)).jd)≤(k42 x i))))else false)
abbrev k48:=(gY [(2,decide (0<i)),(13,Zf x i)])
end
theorem Nh (p:au) (x:aH) {r:Bool} (h:sV p x=some r):Fn Try.prog 118 [.agg (k22 p),.agg (k21 x)] [] (vB r) []:=by
 refine fN tT Try.func118 rfl rfl fun B=> ?_
 show bR _ _ _ _ _ _ (yG r) _
 unfold sV at h
 refine sz tT ⟨[k26 p,(3,vP 7 0)],k19 x⟩ {fr:=[(0,6),(1,7)] } [6] ?_
 refine aQ (sg tT ⟨[(3,vP 7 0),(65,vB (bif (k29 p x)then true else(decide (100000<x.gM))))],k19 x⟩ (eqs (decide (x.a<0)) 6 (eqs (k37 p x) 4 (eqs (k36 p x) 6 (eqs (k35 p x) 6 (eqs (k34 p x) 4 (eqs (k33 p x) 4 (eqs (k32 p x) 4 (eqs (k31 p x) 4 (eqs (k30 p x) 4 (eqs (k29 p x) 4 [])))))))))) {yb:=[(3,decide (x.a<0)),(10,k37 p x),(15,k36 p x),(22,k35 p x),(29,k34 p x),(34,k33 p x),(39,k32 p x),(44,k31 p x),(49,k30 p x),(54,k29 p x)] } [] (ae (ae (ae (ae (ae (ae (ae (ae (ae (ae trivial)))))))))) ?_)
 refine bI h (fun hb4 h=> ?_) (fun hb4 h=> ?_)
 ·refine ct hb4 ?_
  refine sz tT ⟨[(4,vB false)],[]⟩ {} [] ?_
  refine aR ?_
  obtain rfl:=oi h
  exact rl [sB false]
 ·refine cf hb4 ?_
  refine aP (aQ (sg tT ⟨[(3,vP 7 0),(80,vB (bif (k38 x)then true else(bif (k39 x)then(!decide (x.kind=3))else false)))],k19 x⟩ (eqs (k38 x) 5 (eqs (k39 x) 3 [(k38 x)=(k38 x),gP (gY [(4,k38 x),(9,k39 x)]) [(4,false)]→All [(k39 x)=(k39 x)],(k38 x)=(k38 x)])) {yb:=[(4,k38 x),(9,k39 x)] } [] (ae (ae ⟨rfl,(fun hg=> ⟨rfl,trivial⟩),rfl,trivial⟩)) ?_))
  refine bI h (fun hb3 h=> ?_) (fun hb3 h=> ?_)
  ·refine ct hb3 ?_
   refine sz tT ⟨[(4,vB false)],[]⟩ {} [] ?_
   refine aR ?_
   obtain rfl:=oi h
   exact rl [sB false]
  ·refine cf hb3 ?_
   refine aP (aQ (sz tT ⟨[(3,vP 7 0),(5,vI 0)],k19 x⟩ {} [] ?_))
   refine bE h fun y hy h=> ?_
   refine aL [] (D5 x) DK yG hy (fun s f h=> ?_) ?_
   ·clear hy
    show bR _ _ _ _ _ _ ((M5 x) f) _
    unfold nI at h
    obtain⟨i,rfl⟩: ∃q,q=s:=⟨_,rfl⟩
    refine aQ (sz tT ⟨[(3,vP 7 0),(5,vI i),(85,vB (decide (i<(x.trip.length:Int))))],k19 x⟩ {} [] ?_)
    refine bI h (fun hb2 h=> ?_) (fun hb2 h=> ?_)
    ·refine ct hb2 ?_
     refine aP (aQ (aB (aQ (aO h fun a1 h=> ?_))))
     refine rg tT ⟨[(3,vP 7 0),(5,vI i),k40 x i],k19 x⟩ [_] {fr:=[(5,11)] } [11] ⟨a1,trivial⟩ ?_
     refine aQ (sg tT ⟨[(3,vP 7 0),(5,vI i),k40 x i,(110,vB (bif (k43 x i)then true else(decide (100000<(k42 x i)))))],k19 x⟩ (eqs (decide (((at' x.trip i.toNat).amps)<1)) 4 (eqs (k44 x i) 4 (eqs (k43 x i) 4 []))) {yb:=[(3,decide (((at' x.trip i.toNat).amps)<1)),(8,k44 x i),(13,k43 x i)] } [] (ae (ae (ae trivial))) ?_)
     refine bI h (fun hb1 h=> ?_) (fun hb1 h=> ?_)
     ·refine ct hb1 ?_
      refine sz tT ⟨[(4,vB false)],[]⟩ {} [] ?_
      refine aR ?_
      obtain rfl:=oi h
      exact lR dw (dm 0) dz (bL.mk (.inr rfl) (p:=[]) (l:=[sB false]) (by kernel_rfl) trivial (eB.refl _) trivial)
     ·refine cf hb1 ?_
      refine aP (aQ (aO h fun⟨a1,a2⟩ h=> ?_))
      refine dg tT mX ⟨[(3,vP 7 0),(5,vI i),(136,vB (k45 x i))],k19 x⟩ (eqs (decide (0<i)) 5 ((gP (k48 x i) [(2,true)]→All [(0:Int)≤(Qj i)∧(Qj i)<(x.trip.length:Int)])::(eqs (decide (0<i)) 6 (eqs (Zf x i) 5 ((gP (k48 x i) [(13,false),(2,true)]→All [(0:Int)≤(Qj i)∧(Qj i)<(x.trip.length:Int)])::(eqs (Zf x i) 5 [(decide (0<i))=(decide (0<i)),gP (k48 x i) [(2,true)]→All [(Zf x i)=(Zf x i)],(decide (0<i))=(decide (0<i))])))))) {yb:=[(2,decide (0<i)),(13,Zf x i)] } [] (ae ⟨(fun hg=> ⟨a1 (bC hg),trivial⟩),ae (ae ⟨(fun hg=> ⟨a2 (bC hg),trivial⟩),ae ⟨rfl,(fun hg=> ⟨rfl,trivial⟩),rfl,trivial⟩⟩)⟩) ?_
      refine bI h (fun hb h=> ?_) (fun hb h=> ?_)
      ·refine ct hb ?_
       refine sz tT ⟨[(4,vB false)],[]⟩ {} [] ?_
       refine aR ?_
       obtain rfl:=oi h
       exact lR dw (dm 0) dz (bL.mk (.inr rfl) (p:=[]) (l:=[sB false]) (by kernel_rfl) trivial (eB.refl _) trivial)
      ·refine cf hb ?_
       refine aP (rz tT ⟨[(3,vP 7 0),k2 i],k19 x⟩ {} [] ?_)
       obtain rfl:=oi h
       exact lN
    ·refine cf hb2 ?_
     refine aI (fz ⟨[],[]⟩ []) ?_
     refine aX ?_
     obtain rfl:=oi h
     exact lB
   ·clear hy
    cases y with
    |brk z=>
     unfold dZ
     refine⟨_, .refl, ?_⟩
     refine sz tT ⟨[(4,vB true)],[]⟩ {} [] ?_
     refine aR ?_
     obtain rfl:=oi h
     exact rl [sB true]
    |ret v=>
     obtain rfl:=oi h
     unfold dZ
     intro e st hn ha hR
     cases e with
     |normal=>exact absurd rfl hn
     |exit id=>exact hR
     |goto l=>exact hR
     |ret=>exact hR
     |panic c=>exact hR
     |outgrown=>exact hR
def jg  :Int→Exit→St→Prop:=
  fun r=>bL TT [.tmp 2] (vI r) []
section
variable (p:au)
abbrev k50:Ob:=(.cells 26 (k22 p))
abbrev KR:List (Nat × Option Ob):=[(9,some (k50 p))]
end
def Cj (p:au):Int→St:=
  fun i=> ⟨[(1,vP 9 0),(3,vI i)],KR p⟩
section
variable (p:au)
abbrev k51:St:=⟨[(1,vP 9 0)],KR p⟩
end
def BB (p:au):Unit→St:=
  fun _=>(k51 p)
def Lv (p:au):(aY Int (Ex Unit Int))→Exit→St→Prop:=
  LQ 0 [] (Cj p) (BB p) jg
def BQ (p:au):Int→St:=
  fun i1=> ⟨[(1,vP 9 0),(5,vI i1)],KR p⟩
def Cf (p:au):Unit→St:=
  fun _=>(k51 p)
def KD (p:au):(aY Int (Ex Unit Int))→Exit→St→Prop:=
  LQ 2 [] (BQ p) (Cf p) jg
def Cs (p:au):Int→St:=
  fun i2=> ⟨[(1,vP 9 0),(6,vI i2)],KR p⟩
def BP  :Unit→St:=
  fun _=> ⟨[],[]⟩
def K6 (p:au):(aY Int (Ex Unit Int))→Exit→St→Prop:=
  LQ 4 [] (Cs p) BP jg
section
variable (p:au) (i:Int) (i1:Int) (i2:Int)
abbrev k52:List SV:=[.agg (k22 p)]
abbrev k53:TV:=(vB (decide (i<(p.ah.length:Int))))
abbrev k55:=((at' p.ah i.toNat).bus)
abbrev k56:=((at' p.ah i.toNat).aV)
abbrev k54:TV:=(vD (ow [.int .i64 (k55 p i),.int .i64 ((at' p.ah i.toNat).kind),.int .i64 (k56 p i),.int .i64 ((at' p.ah i.toNat).sync),.int .i64 ((at' p.ah i.toNat).gM)] 0))
abbrev k64:=(bif (decide ((k55 p i)<0))then true else(decide (p.ax≤(k55 p i))))
abbrev k63:=(bif (k64 p i)then true else(decide (((at' p.ah i.toNat).kind)<1)))
abbrev k62:=(bif (k63 p i)then true else(decide (3<((at' p.ah i.toNat).kind))))
abbrev k61:=(bif (k62 p i)then true else(decide ((k56 p i)<1)))
abbrev k60:=(bif (k61 p i)then true else(decide (100000<(k56 p i))))
abbrev k59:=(bif (k60 p i)then true else(decide (((at' p.ah i.toNat).sync)<0)))
abbrev k58:=(bif (k59 p i)then true else(decide (8<((at' p.ah i.toNat).sync))))
abbrev k57:=(bif (k58 p i)then true else(decide (((at' p.ah i.toNat).gM)<10)))
abbrev k65:TV:=(vB (decide (i1<(p.ai.length:Int))))
abbrev k66:TV:=(vB (decide (i2<(p.af.length:Int))))
abbrev Py:=((at' p.af i2.toNat).aC)
abbrev X8:=((Py p i2).e0)
abbrev XC:=((Py p i2).e1)
abbrev Yp:=((at' p.af i2.toNat).aV)
abbrev k68:TV:=(vD (ow [.int .i64 (X8 p i2),.int .i64 (XC p i2),.int .i64 (Yp p i2),.int .i64 ((at' p.af i2.toNat).kJ)] 0))
abbrev k67:Nat × TV:=(7,k68 p i2)
abbrev k73:Nat × TV:=(8,vI (X8 p i2))
abbrev k74:Nat × TV:=(9,vI (XC p i2))
abbrev k82:=(decide ((X8 p i2)<0))
abbrev k81:=(bif (k82 p i2)then true else(decide (p.ax≤(X8 p i2))))
abbrev k80:=(bif (k81 p i2)then true else(decide ((XC p i2)<(-1))))
abbrev k79:=(bif (k80 p i2)then true else(decide (p.ax≤(XC p i2))))
abbrev k78:=(bif (k79 p i2)then true else(decide ((X8 p i2)=(XC p i2))))
abbrev k77:=(bif (k78 p i2)then true else(decide ((Yp p i2)<1)))
abbrev k76:=(bif (k77 p i2)then true else(decide (100000<(Yp p i2))))
abbrev k75:=(bif (k76 p i2)then true else(decide (((at' p.af i2.toNat).kJ)<0)))
abbrev k83:=(eqs (k82 p i2) 5 (eqs (k81 p i2) 3 (eqs (k80 p i2) 5 (eqs (k79 p i2) 4 (eqs (k78 p i2) 4 (eqs (k77 p i2) 4 (eqs (k76 p i2) 4 (eqs (k75 p i2) 5 []))))))))
abbrev k84:St:=⟨[(1,vP 9 0),(6,k3 i2)],KR p⟩
end
theorem Bu (p:au) {r:Int} (h:nM p=some r):Fn Try.prog 71 (k52 p) [] (vI r) []:=by
 refine fN tT Try.func71 rfl rfl fun B=> ?_
 show bR _ _ _ _ _ _ (jg r) _
 unfold nM at h
 refine sz tT (k51 p) {fr:=[(0,9)] } [] ?_
 refine aQ (sg tT ⟨[(1,vP 9 0),(18,vB (bif (decide (p.ax<1))then true else(decide (24<p.ax))))],KR p⟩ (eqs (decide (p.ax<1)) 4 []) {yb:=[(3,decide (p.ax<1))] } [] (ae trivial) ?_)
 refine bI h (fun hb11 h=> ?_) (fun hb11 h=> ?_)
 ·refine ct hb11 ?_
  refine sz tT ⟨[(2,vI 10)],[]⟩ {} [] ?_
  refine aR ?_
  obtain rfl:=oi h
  exact rl [sI 10]
 ·refine cf hb11 ?_
  refine aP (aQ (sz tT ⟨[(1,vP 9 0),(22,vB (decide (8<(p.ah.length:Int))))],KR p⟩ {} [] ?_))
  refine bI h (fun hb10 h=> ?_) (fun hb10 h=> ?_)
  ·refine ct hb10 ?_
   refine sz tT ⟨[(2,vI 11)],[]⟩ {} [] ?_
   refine aR ?_
   obtain rfl:=oi h
   exact rl [sI 11]
  ·refine cf hb10 ?_
   refine aP (aQ (sz tT ⟨[(1,vP 9 0),(3,vI 0)],KR p⟩ {} [] ?_))
   refine bE h fun y hy h=> ?_
   refine aL [] (Cj p) (BB p) jg hy (fun s f h=> ?_) ?_
   ·clear hy
    show bR _ _ _ _ _ _ ((Lv p) f) _
    unfold lH at h
    obtain⟨i,rfl⟩: ∃q,q=s:=⟨_,rfl⟩
    refine aQ (sz tT ⟨[(1,vP 9 0),(3,vI i),(27,k53 p i)],KR p⟩ {} [] ?_)
    refine bI h (fun hb1 h=> ?_) (fun hb1 h=> ?_)
    ·refine ct hb1 ?_
     refine aP (aQ (aB (aQ (aO h fun a1 h=> ?_))))
     refine rg tT ⟨[(1,vP 9 0),(3,vI i),(4,k54 p i)],KR p⟩ [_] {fr:=[(5,13)] } [13] ⟨a1,trivial⟩ ?_
     refine sg tT ⟨[(1,vP 9 0),(3,vI i),(84,vB (bif (k57 p i)then true else(decide (100000<((at' p.ah i.toNat).gM)))))],KR p⟩ (eqs (decide ((k55 p i)<0)) 6 (eqs (k64 p i) 4 (eqs (k63 p i) 4 (eqs (k62 p i) 4 (eqs (k61 p i) 4 (eqs (k60 p i) 4 (eqs (k59 p i) 4 (eqs (k58 p i) 4 (eqs (k57 p i) 4 []))))))))) {yb:=[(3,decide ((k55 p i)<0)),(10,k64 p i),(15,k63 p i),(20,k62 p i),(25,k61 p i),(30,k60 p i),(35,k59 p i),(40,k58 p i),(45,k57 p i)] } [] (ae (ae (ae (ae (ae (ae (ae (ae (ae trivial))))))))) ?_
     refine bI h (fun hb h=> ?_) (fun hb h=> ?_)
     ·refine ct hb ?_
      refine sz tT ⟨[(2,vI 11)],[]⟩ {} [] ?_
      refine aR ?_
      obtain rfl:=oi h
      exact lR dw (dm 0) dz (bL.mk (.inr rfl) (p:=[]) (l:=[sI 11]) (by kernel_rfl) trivial (eB.refl _) trivial)
     ·refine cf hb ?_
      refine aP (rz tT ⟨[(1,vP 9 0),(3,k3 i)],KR p⟩ {} [] ?_)
      obtain rfl:=oi h
      exact lN
    ·refine cf hb1 ?_
     refine aI (fz (k51 p) []) ?_
     refine aX ?_
     obtain rfl:=oi h
     exact lB
   ·clear hy
    cases y with
    |brk z=>
     unfold dZ
     refine⟨_, .refl, ?_⟩
     refine aQ (sz tT ⟨[(1,vP 9 0),(88,vB (decide (40<(p.ai.length:Int))))],KR p⟩ {} [] ?_)
     refine bI h (fun hb9 h=> ?_) (fun hb9 h=> ?_)
     ·refine ct hb9 ?_
      refine sz tT ⟨[(2,vI 12)],[]⟩ {} [] ?_
      refine aR ?_
      obtain rfl:=oi h
      exact rl [sI 12]
     ·refine cf hb9 ?_
      refine aP (aQ (sz tT ⟨[(1,vP 9 0),(5,vI 0)],KR p⟩ {} [] ?_))
      refine bE h fun y1 hy h=> ?_
      refine aL [] (BQ p) (Cf p) jg hy (fun s f h=> ?_) ?_
      ·clear hy
       show bR _ _ _ _ _ _ ((KD p) f) _
       unfold lD at h
       obtain⟨i1,rfl⟩: ∃q,q=s:=⟨_,rfl⟩
       refine aQ (sz tT ⟨[(1,vP 9 0),(5,vI i1),(93,k65 p i1)],KR p⟩ {} [] ?_)
       refine bI h (fun hb3 h=> ?_) (fun hb3 h=> ?_)
       ·refine ct hb3 ?_
        refine aP (aQ (aB (aQ (bE h fun r_ hr_ h=> ?_))))
        refine aO h fun a1 h=> ?_
        have q1:=Nh p (at' p.ai i1.toNat) hr_
        refine dg tT mX ⟨[(1,vP 9 0),(5,vI i1),(103,vB (!r_))],KR p⟩ [_,_] {an:=[(6,cA q1 [])] } [] ⟨a1,q1,trivial⟩ ?_
        refine bI h (fun hb2 h=> ?_) (fun hb2 h=> ?_)
        ·refine ct hb2 ?_
         refine sz tT ⟨[(2,vI 12)],[]⟩ {} [] ?_
         refine aR ?_
         obtain rfl:=oi h
         exact lR dw (dm 2) dz (bL.mk (.inr rfl) (p:=[]) (l:=[sI 12]) (by kernel_rfl) trivial (eB.refl _) trivial)
        ·refine cf hb2 ?_
         refine aP (rz tT ⟨[(1,vP 9 0),k2 i1],KR p⟩ {} [] ?_)
         obtain rfl:=oi h
         exact lN
       ·refine cf hb3 ?_
        refine aI (fz (k51 p) []) ?_
        refine aX ?_
        obtain rfl:=oi h
        exact lB
      ·clear hy
       cases y1 with
       |brk z=>
        unfold dZ
        refine⟨_, .refl, ?_⟩
        refine aQ (sz tT ⟨[(1,vP 9 0),(107,vB (decide (24<(p.af.length:Int))))],KR p⟩ {} [] ?_)
        refine bI h (fun hb8 h=> ?_) (fun hb8 h=> ?_)
        ·refine ct hb8 ?_
         refine sz tT ⟨[(2,vI 13)],[]⟩ {} [] ?_
         refine aR ?_
         obtain rfl:=oi h
         exact rl [sI 13]
        ·refine cf hb8 ?_
         refine aP (aQ (sz tT ⟨[(1,vP 9 0),(6,vI 0)],KR p⟩ {} [] ?_))
         refine bE h fun y2 hy h=> ?_
         refine aL [] (Cs p) BP jg hy (fun s f h=> ?_) ?_
         ·clear hy
          show bR _ _ _ _ _ _ ((K6 p) f) _
          unfold l8 at h
          obtain⟨i2,rfl⟩: ∃q,q=s:=⟨_,rfl⟩
          refine aQ (sz tT ⟨[(1,vP 9 0),(6,vI i2),(112,k66 p i2)],KR p⟩ {} [] ?_)
          refine bI h (fun hb7 h=> ?_) (fun hb7 h=> ?_)
          ·refine ct hb7 ?_
           refine aP (aQ (aB (aQ (aO h fun a1 h=> ?_))))
           refine rg tT ⟨[(1,vP 9 0),(6,vI i2),k67 p i2],KR p⟩ [_] {fr:=[(5,17)] } [17] ⟨a1,trivial⟩ ?_
           refine sd tT mX ⟨[(1,vP 9 0),(6,vI i2),k67 p i2,k73 p i2,k74 p i2],KR p⟩ [(0:Int)≤0∧(0:Int)<(2:Nat),(0:Int)≤1∧(1:Int)<(2:Nat)] {} [] ⟨(by decide),(by decide),trivial⟩ ?_
           refine sz tT ⟨[(1,vP 9 0),(6,vI i2),k67 p i2,k73 p i2,k74 p i2,(10,vI 2)],KR p⟩ {} [] ?_
           refine aQ (sz tT ⟨[(1,vP 9 0),(6,vI i2),k67 p i2,k73 p i2,k74 p i2,(10,vI 2),(127,vB (decide ((XC p i2)=(-1))))],KR p⟩ {} [] ?_)
           refine bI h (fun hb6 h=> ?_) (fun hb6 h=> ?_)
           ·refine ct hb6 ?_
            refine rz tT ⟨[(1,vP 9 0),(6,vI i2),k67 p i2,k73 p i2,k74 p i2,(10,vI 1)],KR p⟩ {} [] ?_
            refine sg tT ⟨[(1,vP 9 0),(6,vI i2),(171,vB (bif (k75 p i2)then true else(decide (1<((at' p.af i2.toNat).kJ)))))],KR p⟩ (k83 p i2) {yb:=[(2,k82 p i2),(8,k81 p i2),(12,k80 p i2),(18,k79 p i2),(23,k78 p i2),(28,k77 p i2),(33,k76 p i2),(38,k75 p i2)] } [] (ae (ae (ae (ae (ae (ae (ae (ae trivial)))))))) ?_
            refine bI h (fun hb4 h=> ?_) (fun hb4 h=> ?_)
            ·refine ct hb4 ?_
             refine sz tT ⟨[(2,vI 13)],[]⟩ {} [] ?_
             refine aR ?_
             obtain rfl:=oi h
             exact lR dw (dm 4) dz (bL.mk (.inr rfl) (p:=[]) (l:=[sI 13]) (by kernel_rfl) trivial (eB.refl _) trivial)
            ·refine cf hb4 ?_
             refine aP (rz tT (k84 p i2) {} [] ?_)
             obtain rfl:=oi h
             exact lN
           ·refine cf hb6 ?_
            refine aP (sg tT ⟨[(1,vP 9 0),(6,vI i2),(171,vB (bif (k75 p i2)then true else(decide (2<((at' p.af i2.toNat).kJ)))))],KR p⟩ (k83 p i2) {yb:=[(2,k82 p i2),(8,k81 p i2),(12,k80 p i2),(18,k79 p i2),(23,k78 p i2),(28,k77 p i2),(33,k76 p i2),(38,k75 p i2)] } [] (ae (ae (ae (ae (ae (ae (ae (ae trivial)))))))) ?_)
            refine bI h (fun hb5 h=> ?_) (fun hb5 h=> ?_)
            ·refine ct hb5 ?_
             refine sz tT ⟨[(2,vI 13)],[]⟩ {} [] ?_
             refine aR ?_
             obtain rfl:=oi h
             exact lR dw (dm 4) dz (bL.mk (.inr rfl) (p:=[]) (l:=[sI 13]) (by kernel_rfl) trivial (eB.refl _) trivial)
            ·refine cf hb5 ?_
             refine aP (rz tT (k84 p i2) {} [] ?_)
             obtain rfl:=oi h
             exact lN
          ·refine cf hb7 ?_
           refine aI (fz ⟨[],[]⟩ []) ?_
           refine aX ?_
           obtain rfl:=oi h
           exact lB
         ·clear hy
          cases y2 with
          |brk z=>
           unfold dZ
           refine⟨_, .refl, ?_⟩
           refine sz tT ⟨[(2,vI 0)],[]⟩ {} [] ?_
           refine aR ?_
           obtain rfl:=oi h
           exact rl [sI 0]
          |ret v=>
           obtain rfl:=oi h
           unfold dZ
           intro e st hn ha hR
           cases e with
           |normal=>exact absurd rfl hn
           |exit id=>exact hR
           |goto l=>exact hR
           |ret=>exact hR
           |panic c=>exact hR
           |outgrown=>exact hR
       |ret v=>
        obtain rfl:=oi h
        unfold dZ
        intro e st hn ha hR
        cases e with
        |normal=>exact absurd rfl hn
        |exit id=>exact hR
        |goto l=>exact hR
        |ret=>exact hR
        |panic c=>exact hR
        |outgrown=>exact hR
    |ret v=>
     obtain rfl:=oi h
     unfold dZ
     intro e st hn ha hR
     cases e with
     |normal=>exact absurd rfl hn
     |exit id=>exact hR
     |goto l=>exact hR
     |ret=>exact hR
     |panic c=>exact hR
     |outgrown=>exact hR
def PZ  :Bool→Exit→St→Prop:=
  fun r=>bL TT [.tmp 2] (vB r) []
section
variable (p:au) (r_:Int)
abbrev k86:Nat × TV:=(1,k27 p)
abbrev k85:St:=⟨[k86 p],[]⟩
abbrev k87:=(bif (decide (60<(p.ah.length:Int)))then true else(decide (60<(p.ai.length:Int))))
abbrev k88:=(bif (decide (r_=0))then(bif (decide (10<p.ax))then true else(decide (16<(p.ai.length:Int))))else false)
end
theorem Oz (p:au) {r:Bool} (h:Ay p=some r):Fn Try.prog 29 (k52 p) [] (vB r) []:=by
 refine fN tT Try.func29 rfl rfl fun B=> ?_
 show bR _ _ _ _ _ _ (PZ r) _
 unfold Ay at h
 refine sz tT (k85 p) {fr:=[(0,1)] } [1] ?_
 refine aQ (sg tT ⟨[k86 p,(18,vB (bif (k87 p)then true else(decide (60<(p.af.length:Int)))))],[]⟩ (eqs (decide (60<(p.ah.length:Int))) 5 (eqs (k87 p) 5 [])) {yb:=[(4,decide (60<(p.ah.length:Int))),(10,k87 p)] } [] (ae (ae trivial)) ?_)
 refine bI h (fun hb h=> ?_) (fun hb h=> ?_)
 ·refine ct hb ?_
  refine sz tT ⟨[(2,vB true)],[]⟩ {} [] ?_
  refine aR ?_
  obtain rfl:=oi h
  exact rl [sB true]
 ·refine cf hb ?_
  refine aP (aQ (bE h fun r_ hr_ h=> ?_))
  have q0:=Bu p hr_
  refine rg tT ⟨[(2,vB (k88 p r_))],[]⟩ (_::(eqs (decide (r_=0)) 4 (eqs (decide (10<p.ax)) 4 [(decide (r_=0))=(decide (r_=0)),gP (gY [(3,decide (r_=0)),(7,decide (10<p.ax))]) [(3,true)]→All [(decide (10<p.ax))=(decide (10<p.ax))],(decide (r_=0))=(decide (r_=0))]))) {yb:=[(3,decide (r_=0)),(7,decide (10<p.ax))],an:=[(1,cA q0 [])] } [] ⟨q0,ae (ae ⟨rfl,(fun hg=> ⟨rfl,trivial⟩),rfl,trivial⟩)⟩ ?_
  refine aR ?_
  obtain rfl:=oi h
  exact rl [sB (k88 p r_)]
def Lx  :Bool→Exit→St→Prop:=
  fun r=>bL TT [.tmp 6] (vB r) []
theorem bS (n:Int) (u0:Int) (u1:Int) {r:Bool} (h:bT n u0 u1=some r):Fn Try.prog 94 [sI n,sI u0,sI u1] [] (vB r) []:=by
 refine fN tT Try.func94 rfl rfl fun B=> ?_
 show bR _ _ _ _ _ _ (Lx r) _
 unfold bT at h
 refine sz tT ⟨[(0,vI n),(1,vI u0),(2,vI u1)],[]⟩ {} [] ?_
 refine sg tT ⟨[(6,vB (bif (decide (u0≤n))then(decide (n≤u1))else false))],[]⟩ (eqs (decide (u0≤n)) 4 []) {yb:=[(3,decide (u0≤n))] } [] (ae trivial) ?_
 refine aR ?_
 obtain rfl:=oi h
 exact rl [sB (bif (decide (u0≤n))then(decide (n≤u1))else false)]
def Lf  :(Int × (List ay) × (List aH) × (List aK))→Exit→St→Prop:=
  fun r=>bL TT [.tmp 2] (vD (.fn 135 1 (qC [ow [.int .i64 r.1,bJ none 5 ay.cell r.2.1,bJ none 6 aH.cell r.2.2.1,bJ none 4 aK.cell r.2.2.2] 0]))) []
section
variable (p:au)
abbrev k89:=(qC [k28 p])
end
theorem J3 (p:au) {r:Int × (List ay) × (List aH) × (List aK)} (h:rW p=some r):Fn Try.prog 96 (k52 p) [] (vD (.fn 135 1 (qC [ow [.int .i64 r.1,bJ none 5 ay.cell r.2.1,bJ none 6 aH.cell r.2.2.1,bJ none 4 aK.cell r.2.2.2] 0]))) []:=by
 refine fN tT Try.func96 rfl rfl fun B=> ?_
 show bR _ _ _ _ _ _ (Lf r) _
 unfold rW at h
 refine sz tT (k85 p) {fr:=[(0,1)] } [1] ?_
 refine sz tT ⟨[(2,vD (.fn 135 1 (k89 p)))],[]⟩ {} [] ?_
 refine aR ?_
 obtain rfl:=oi h
 exact rl [sD (.fn 135 1 (k89 p))]
def OZ  :(Int × (List ay) × (List aH) × (List aK))→Exit→St→Prop:=
  fun r=>bL TT [.tmp 2] (vD (.fn 138 1 (qC [ow [.int .i64 r.1,bJ none 5 ay.cell r.2.1,bJ none 6 aH.cell r.2.2.1,bJ none 4 aK.cell r.2.2.2] 0]))) []
theorem MH (p:au) {r:Int × (List ay) × (List aH) × (List aK)} (h:xC p=some r):Fn Try.prog 98 (k52 p) [] (vD (.fn 138 1 (qC [ow [.int .i64 r.1,bJ none 5 ay.cell r.2.1,bJ none 6 aH.cell r.2.2.1,bJ none 4 aK.cell r.2.2.2] 0]))) []:=by
 refine fN tT Try.func98 rfl rfl fun B=> ?_
 show bR _ _ _ _ _ _ (OZ r) _
 unfold xC at h
 refine sz tT (k85 p) {fr:=[(0,1)] } [1] ?_
 refine sz tT ⟨[(2,vD (.fn 138 1 (k89 p)))],[]⟩ {} [] ?_
 refine aR ?_
 obtain rfl:=oi h
 exact rl [sD (.fn 138 1 (k89 p))]
def O6  :(Int × (List ay) × (List aH) × (List aK))→Exit→St→Prop:=
  fun r=>bL TT [.tmp 2] (vD (.fn 141 1 (qC [ow [.int .i64 r.1,bJ none 5 ay.cell r.2.1,bJ none 6 aH.cell r.2.2.1,bJ none 4 aK.cell r.2.2.2] 0]))) []
theorem MU (p:au) {r:Int × (List ay) × (List aH) × (List aK)} (h:xB p=some r):Fn Try.prog 100 (k52 p) [] (vD (.fn 141 1 (qC [ow [.int .i64 r.1,bJ none 5 ay.cell r.2.1,bJ none 6 aH.cell r.2.2.1,bJ none 4 aK.cell r.2.2.2] 0]))) []:=by
 refine fN tT Try.func100 rfl rfl fun B=> ?_
 show bR _ _ _ _ _ _ (O6 r) _
 unfold xB at h
 refine sz tT (k85 p) {fr:=[(0,1)] } [1] ?_
 refine sz tT ⟨[(2,vD (.fn 141 1 (k89 p)))],[]⟩ {} [] ?_
 refine aR ?_
 obtain rfl:=oi h
 exact rl [sD (.fn 141 1 (k89 p))]
def Ia  :Bool→Exit→St→Prop:=
  fun r=>bL TT [.tmp 3] (vB r) []
section
variable (u4:List ay) (u5:List aH) (u6:List aK) (x1:Int) (x:ay) (r_:Bool) (u0:Bool) (u1:Bool) (u2:Bool)
abbrev Z7:DV:=(bJ none 5 ay.cell u4)
abbrev k92:DV:=(bJ none 6 aH.cell u5)
abbrev Wq:DV:=(bJ none 4 aK.cell u6)
abbrev k90:DV:=(ow [.int .i64 x1,Z7 u4,k92 u5,Wq u6] 0)
abbrev Rc:Nat × TV:=(1,vD (k90 u4 u5 u6 x1))
abbrev k95:Nat × TV:=(2,vD (ow [.int .i64 x.bus,.int .i64 x.kind,.int .i64 x.aV,.int .i64 x.sync,.int .i64 x.gM] 0))
abbrev k96:=(gY [(6,r_),(11,k16 r_ u0),(16,k15 r_ u0 u1),(21,k14 r_ u0 u1 u2)])
end
theorem GI (x:ay) (x1:Int) (u4:List ay) (u5:List aH) (u6:List aK) {r:Bool} (h:lC x x1 u4 u5 u6=some r):Fn Try.prog 135 [.agg [cI x.bus,cI x.kind,cI x.aV,cI x.sync,cI x.gM],sD (k90 u4 u5 u6 x1)] [] (vB r) []:=by
 refine fN tT Try.func135 rfl rfl fun B=> ?_
 show bR _ _ _ _ _ _ (Ia r) _
 unfold lC at h
 refine sz tT ⟨[Rc u4 u5 u6 x1,k95 x],[]⟩ {fr:=[(0,1)] } [1] ?_
 refine aQ (bE h fun r_ hr_ h=> ?_)
 refine bE h fun u0 hr_1 h=> ?_
 refine bE h fun u1 hr_2 h=> ?_
 refine bE h fun u2 hr_3 h=> ?_
 refine bE h fun u3 hr_4 h=> ?_
 have q0:=bS x.bus 0 (Qj x1) hr_
 refine rg tT ⟨[(3,vB (k13 r_ u0 u1 u2 u3))],[]⟩ (_::(eqs r_ 3 ((gP (k96 r_ u0 u1 u2) [(6,true)]→All [Fn Try.prog 94 [sI x.kind,sI 1,sI 3] [] (vB u0) []])::(r_=r_)::(eqs (k16 r_ u0) 3 ((gP (k96 r_ u0 u1 u2) [(11,true)]→All [Fn Try.prog 94 [sI x.aV,sI 1,sI 100000] [] (vB u1) []])::((k16 r_ u0)=(k16 r_ u0))::(eqs (k15 r_ u0 u1) 3 ((gP (k96 r_ u0 u1 u2) [(16,true)]→All [Fn Try.prog 94 [sI x.sync,sI 0,sI 8] [] (vB u2) []])::(k18 r_ u0 u1)::(eqs (k14 r_ u0 u1 u2) 3 [gP (k96 r_ u0 u1 u2) [(21,true)]→All [Fn Try.prog 94 [sI x.gM,sI 10,sI 100000] [] (vB u3) []],(k14 r_ u0 u1 u2)=(k14 r_ u0 u1 u2)])))))))) {yb:=[(6,r_),(11,k16 r_ u0),(16,k15 r_ u0 u1),(21,k14 r_ u0 u1 u2)],an:=[(5,cA q0 []),(9, .call [] (vB u0) []),(14, .call [] (vB u1) []),(19, .call [] (vB u2) []),(24, .call [] (vB u3) [])] } [] ⟨q0,ae ⟨(fun hg=> ⟨bS x.kind 1 3 (d9 hr_1 (bC hg)),trivial⟩),rfl,ae ⟨(fun hg=> ⟨bS x.aV 1 100000 (d9 hr_2 (bC hg)),trivial⟩),rfl,ae ⟨(fun hg=> ⟨bS x.sync 0 8 (d9 hr_3 (bC hg)),trivial⟩),rfl,ae ⟨(fun hg=> ⟨bS x.gM 10 100000 (d9 hr_4 (bC hg)),trivial⟩),rfl,trivial⟩⟩⟩⟩⟩ ?_
 refine aR ?_
 obtain rfl:=oi h
 exact rl [sB (k13 r_ u0 u1 u2 u3)]
def KW  :Bool→Exit→St→Prop:=
  fun r=>bL TT [.tmp 3] (vB r) []
section
variable (x1:Int) (u0:List ay) (u1:List aH) (u2:List aK)
abbrev k98:=(qC [k90 u0 u1 u2 x1])
abbrev k97:DV:=(ow [.fn 135 1 (k98 x1 u0 u1 u2)] 0)
abbrev k99:TV:=(vD (k97 x1 u0 u1 u2))
end
theorem JM (x:ay) (x1:Int) (u0:List ay) (u1:List aH) (u2:List aK) {r:Bool} (h:sK x x1 u0 u1 u2=some r):Fn Try.prog 134 [.agg [cI x.bus,cI x.kind,cI x.aV,cI x.sync,cI x.gM],sD (k97 x1 u0 u1 u2)] [] (vB r) []:=by
 refine fN tT Try.func134 rfl rfl fun B=> ?_
 show bR _ _ _ _ _ _ (KW r) _
 unfold sK at h
 refine sz tT ⟨[(1,k99 x1 u0 u1 u2),k95 x],[]⟩ {fr:=[(0,1)] } [1] ?_
 refine aQ (bE h fun r_ hr_ h=> ?_)
 have q0:=GI x x1 u0 u1 u2 hr_
 refine rg tT ⟨[(3,vB (!r_))],[]⟩ [_] {an:=[(2,cA q0 [])] } [] ⟨q0,trivial⟩ ?_
 refine aR ?_
 obtain rfl:=oi h
 exact rl [sB (!r_)]
def oV  :Int→Exit→St→Prop:=
  fun r=>bL TT [.tmp 4] (vI r) []
section
variable (s_:List ay) (f_:Int) (u0:List ay) (u1:List aH) (u2:List aK)
abbrev EK:Nat × TV:=(0,vD (Z7 s_))
abbrev akM:=(qC [k97 f_ u0 u1 u2])
abbrev WN:Nat × TV:=(1,vD (.fn 134 1 (akM f_ u0 u1 u2)))
abbrev ZJ:Nat × TV:=(7,vI (s_.length:Int))
end
def uG (s_:List ay) (f_:Int) (u0:List ay) (u1:List aH) (u2:List aK):Int→St:=
  fun t8=> ⟨[EK s_,WN f_ u0 u1 u2,ZJ s_,(8,vI t8)],[]⟩
def uK  :Unit→St:=
  fun _=> ⟨[],[]⟩
def Eh (s_:List ay) (f_:Int) (u0:List ay) (u1:List aH) (u2:List aK):(aY Int (Ex Unit Int))→Exit→St→Prop:=
  LQ 0 [] (uG s_ f_ u0 u1 u2) uK oV
section
variable (s_:List ay) (f_:Int) (u0:List ay) (u1:List aH) (u2:List aK) (t8:Int)
abbrev agR:List SV:=[sD (Z7 s_),sD (.fn 134 1 (akM f_ u0 u1 u2))]
abbrev al4:St:=⟨[EK s_,WN f_ u0 u1 u2],[]⟩
abbrev Hz:Nat × TV:=(8,k3 t8)
end
theorem Ei (s_:List ay) (f_:Int) (u0:List ay) (u1:List aH) (u2:List aK) {r:Int} (h:mQ s_ f_ u0 u1 u2=some r):Fn Try.prog 150 (agR s_ f_ u0 u1 u2) [] (vI r) []:=by
 refine fN tT Try.func150 rfl rfl fun B=> ?_
 show bR _ _ _ _ _ _ (oV r) _
 unfold mQ at h
 refine sz tT (al4 s_ f_ u0 u1 u2) {} [] ?_
 refine aQ (sz tT ⟨[EK s_,WN f_ u0 u1 u2,ZJ s_,(8,vI 0)],[]⟩ {} [] ?_)
 refine bE h fun y hy h=> ?_
 refine aL [] (uG s_ f_ u0 u1 u2) uK oV hy (fun s f h=> ?_) ?_
 ·clear hy
  show bR _ _ _ _ _ _ ((Eh s_ f_ u0 u1 u2) f) _
  unfold jY at h
  obtain⟨t8,rfl⟩: ∃q,q=s:=⟨_,rfl⟩
  refine sz tT ⟨[EK s_,WN f_ u0 u1 u2,ZJ s_,(8,vI t8),(9,vB (decide (t8<(s_.length:Int))))],[]⟩ {} [] ?_
  refine aQ ?_
  refine bI h (fun hb1 h=> ?_) (fun hb1 h=> ?_)
  ·refine ct hb1 ?_
   refine aP (aQ (aB (sz tT ⟨[EK s_,WN f_ u0 u1 u2,(5,vI t8),ZJ s_,(8,vI t8)],[]⟩ {} [] ?_)))
   refine aQ (bE h fun r_ hr_ h=> ?_)
   refine aO h fun a1 h=> ?_
   have q1:=JM (at' s_ t8.toNat) f_ u0 u1 u2 hr_
   refine rg tT ⟨[EK s_,WN f_ u0 u1 u2,(5,vI t8),ZJ s_,(8,vI t8),(16,vB r_)],[]⟩ [_,_] {an:=[(5,cA q1 [])] } [] ⟨a1,q1,trivial⟩ ?_
   refine bI h (fun hb h=> ?_) (fun hb h=> ?_)
   ·refine ct hb ?_
    refine sz tT ⟨[(4,vI t8)],[]⟩ {} [] ?_
    refine aR ?_
    obtain rfl:=oi h
    exact lR dw (dm 0) dz (bL.mk (.inr rfl) (p:=[]) (l:=[sI t8]) (by kernel_rfl) trivial (eB.refl _) trivial)
   ·refine cf hb ?_
    refine aP (rz tT ⟨[EK s_,WN f_ u0 u1 u2,ZJ s_,Hz t8],[]⟩ {} [] ?_)
    obtain rfl:=oi h
    exact lN
  ·refine cf hb1 ?_
   refine aI (fz ⟨[],[]⟩ []) ?_
   refine aX ?_
   obtain rfl:=oi h
   exact lB
 ·clear hy
  cases y with
  |brk z=>
   unfold dZ
   refine⟨_, .refl, ?_⟩
   refine sz tT ⟨[(4,vI (-1))],[]⟩ {} [] ?_
   refine aR ?_
   obtain rfl:=oi h
   exact rl [sI (-1)]
  |ret v=>
   obtain rfl:=oi h
   unfold dZ
   intro e st hn ha hR
   cases e with
   |normal=>exact absurd rfl hn
   |exit id=>exact hR
   |goto l=>exact hR
   |ret=>exact hR
   |panic c=>exact hR
   |outgrown=>exact hR
def Ch  :Bool→Exit→St→Prop:=
  fun r=>bL TT [.tmp 4] (vB r) []
section
variable (r_:Int)
abbrev aah:St:=⟨[(4,vB (decide (0≤r_)))],[]⟩
end
theorem A8 (s_:List ay) (f_:Int) (u0:List ay) (u1:List aH) (u2:List aK) {r:Bool} (h:iE s_ f_ u0 u1 u2=some r):Fn Try.prog 133 (agR s_ f_ u0 u1 u2) [] (vB r) []:=by
 refine fN tT Try.func133 rfl rfl fun B=> ?_
 show bR _ _ _ _ _ _ (Ch r) _
 unfold iE at h
 refine sz tT (al4 s_ f_ u0 u1 u2) {} [] ?_
 refine aQ (bE h fun r_ hr_ h=> ?_)
 have q0:=Ei s_ f_ u0 u1 u2 hr_
 refine rg tT (aah r_) [_] {an:=[(2,cA q0 [])] } [] ⟨q0,trivial⟩ ?_
 refine aR ?_
 obtain rfl:=oi h
 exact rl [sB (decide (0≤r_))]
def Nv  :Bool→Exit→St→Prop:=
  fun r=>bL TT [.tmp 6] (vB r) []
theorem MR (l:List ay) (u0:Int) (u1:Int) (u2:List ay) (u3:List aH) (u4:List aK) {r:Bool} (h:rP l u0 u1 u2 u3 u4=some r):Fn Try.prog 95 [sD (Z7 l),sI u0,sD (.fn 135 1 (k98 u1 u2 u3 u4))] [] (vB r) []:=by
 refine fN tT Try.func95 rfl rfl fun B=> ?_
 show bR _ _ _ _ _ _ (Nv r) _
 unfold rP at h
 refine sz tT ⟨[EK l,(1,vI u0),(5,k99 u1 u2 u3 u4)],[]⟩ {fr:=[(0,1)] } [1] ?_
 refine aQ (bE h fun r_ hr_ h=> ?_)
 refine rg tT ⟨[(6,vB (bif (decide ((l.length:Int)≤u0))then(!r_)else false))],[]⟩ (eqs (decide ((l.length:Int)≤u0)) 3 ((gP (gY [(4,decide ((l.length:Int)≤u0))]) [(4,true)]→All [Fn Try.prog 133 (agR l u1 u2 u3 u4) [] (vB r_) []])::(eqs (decide ((l.length:Int)≤u0)) 2 []))) {yb:=[(4,decide ((l.length:Int)≤u0))],an:=[(7, .call [] (vB r_) [])] } [] (ae ⟨(fun hg=> ⟨A8 l u1 u2 u3 u4 (d9 hr_ (bC hg)),trivial⟩),ae trivial⟩) ?_
 refine aR ?_
 obtain rfl:=oi h
 exact rl [sB (bif (decide ((l.length:Int)≤u0))then(!r_)else false)]
def uT  :Bool→Exit→St→Prop:=
  fun r=>bL TT [.tmp 3] (vB r) []
section
variable (x:aH)
abbrev aiw:List DV:=[.int .i64 x.a,.int .i64 x.b,.int .i64 x.kind,.int .i64 x.most,.int .i64 x.gM,bJ none 2 dV.cell x.trip]
abbrev amQ:TV:=(vD (ow (aiw x) 0))
abbrev RX:Nat × TV:=(2,amQ x)
abbrev YB:Nat × TV:=(48,vD (bJ none 2 dV.cell x.trip))
abbrev Zz:Nat × TV:=(49,vI (x.trip.length:Int))
end
def Al (x:aH):Int→St:=
  fun u0=> ⟨[RX x,YB x,Zz x,(50,vI u0)],[]⟩
section
variable (x:aH)
abbrev ajO:St:=⟨[RX x],[]⟩
end
def Ad (x:aH):Unit→St:=
  fun _=>(ajO x)
def Ku (x:aH):(aY Int (Ex Unit Bool))→Exit→St→Prop:=
  LQ 0 [] (Al x) (Ad x) uT
section
variable (x:aH) (r_:Bool) (u1:Bool) (u3:Bool) (u5:Bool) (u2:Bool) (u4:Bool) (u0:Int)
abbrev ako:List (Nat × Option Ob):=[(5,some (k20 x))]
abbrev MK:=(bif (!r_)then true else(!u1))
abbrev aaL:=(bif (MK r_ u1)then true else(decide (x.a=x.b)))
abbrev ace:=(bif (aaL x r_ u1)then true else(!u3))
abbrev aap:=(bif (ace x r_ u1 u3)then true else(!u5))
abbrev adY:=(gY [(7,!r_),(16,MK r_ u1),(23,aaL x r_ u1),(29,ace x r_ u1 u3),(35,aap x r_ u1 u3 u5)])
abbrev aaj:=(gY [(4,!u2),(10,MK u2 u4),(13,decide (0<u0)),(24,Zf x u0)])
abbrev Uc:=(decide ((x.trip.length:Int)≤6))
abbrev Yz:=(decide ((x.trip.length:Int)=0))
abbrev amb:=(bif (Uc x)then(bif (Yz x)then true else(decide (x.kind=3)))else false)
end
theorem Kv (x:aH) (x1:Int) (u6:List ay) (u7:List aH) (u8:List aK) {r:Bool} (h:oP x x1 u6 u7 u8=some r):Fn Try.prog 138 [.agg (k21 x),sD (k90 u6 u7 u8 x1)] [] (vB r) []:=by
 refine fN tT Try.func138 rfl rfl fun B=> ?_
 show bR _ _ _ _ _ _ (uT r) _
 unfold oP at h
 refine sz tT ⟨[Rc u6 u7 u8 x1,(2,vP 5 0)],ako x⟩ {fr:=[(0,5)] } [] ?_
 refine aQ (aQ (bE h fun r_ hr_ h=> ?_))
 refine bE h fun u1 hr_1 h=> ?_
 refine bE h fun u3 hr_2 h=> ?_
 refine bE h fun u5 hr_3 h=> ?_
 refine bE h fun u9 hr_4 h=> ?_
 have q0:=bS x.a 0 (Qj x1) hr_
 refine rg tT ⟨[(2,vP 5 0),(46,vB (bif (aap x r_ u1 u3 u5)then true else(!u9)))],ako x⟩ (_::(eqs (!r_) 6 ((gP (adY x r_ u1 u3 u5) [(7,false)]→All [Fn Try.prog 94 [sI x.b,sI 0,sI (Qj x1)] [] (vB u1) []])::(eqs (!r_) 2 (eqs (MK r_ u1) 6 (eqs (aaL x r_ u1) 3 ((gP (adY x r_ u1 u3 u5) [(23,false)]→All [Fn Try.prog 94 [sI x.kind,sI 1,sI 3] [] (vB u3) []])::(eqs (aaL x r_ u1) 2 (eqs (ace x r_ u1 u3) 3 ((gP (adY x r_ u1 u3 u5) [(29,false)]→All [Fn Try.prog 94 [sI x.most,sI 1,sI 100000] [] (vB u5) []])::(eqs (ace x r_ u1 u3) 2 (eqs (aap x r_ u1 u3 u5) 3 ((gP (adY x r_ u1 u3 u5) [(35,false)]→All [Fn Try.prog 94 [sI x.gM,sI 10,sI 100000] [] (vB u9) []])::(eqs (aap x r_ u1 u3 u5) 2 [])))))))))))))) {yb:=[(7,!r_),(16,MK r_ u1),(23,aaL x r_ u1),(29,ace x r_ u1 u3),(35,aap x r_ u1 u3 u5)],an:=[(5,cA q0 []),(13, .call [] (vB u1) []),(26, .call [] (vB u3) []),(32, .call [] (vB u5) []),(38, .call [] (vB u9) [])] } [] ⟨q0,ae ⟨(fun hg=> ⟨bS x.b 0 (Qj x1) (d9 hr_1 (bC hg)),trivial⟩),ae (ae (ae ⟨(fun hg=> ⟨bS x.kind 1 3 (d9 hr_2 (bC hg)),trivial⟩),ae (ae ⟨(fun hg=> ⟨bS x.most 1 100000 (d9 hr_3 (bC hg)),trivial⟩),ae (ae ⟨(fun hg=> ⟨bS x.gM 10 100000 (d9 hr_4 (bC hg)),trivial⟩),ae trivial⟩)⟩)⟩))⟩⟩ ?_
 refine bI h (fun hb2 h=> ?_) (fun hb2 h=> ?_)
 ·refine ct hb2 ?_
  refine sz tT ⟨[(3,vB false)],[]⟩ {} [] ?_
  refine aR ?_
  obtain rfl:=oi h
  exact rl [sB false]
 ·refine cf hb2 ?_
  refine aP (aQ (sz tT ⟨[RX x,YB x,Zz x,(50,vI 0)],[]⟩ {} [5] ?_))
  refine bE h fun y hy h=> ?_
  refine aL [] (Al x) (Ad x) uT hy (fun s f h=> ?_) ?_
  ·clear hy
   show bR _ _ _ _ _ _ ((Ku x) f) _
   unfold kG at h
   obtain⟨u0,rfl⟩: ∃q,q=s:=⟨_,rfl⟩
   refine sz tT ⟨[RX x,YB x,Zz x,(50,vI u0),(51,vB (decide (u0<(x.trip.length:Int))))],[]⟩ {} [] ?_
   refine aQ ?_
   refine bI h (fun hb1 h=> ?_) (fun hb1 h=> ?_)
   ·refine ct hb1 ?_
    refine aP (aQ (aB (aQ (aO h fun a1 h=> ?_))))
    refine rg tT ⟨[RX x,(4,vI u0),(5,k41 x u0),YB x,Zz x,(50,vI u0)],[]⟩ [_] {fr:=[(3,9)] } [9] ⟨a1,trivial⟩ ?_
    refine aQ (bE h fun u2 hr_5 h=> ?_)
    refine bE h fun u4 hr_6 h=> ?_
    refine aO h fun⟨a1,a2⟩ h=> ?_
    have q0:=bS ((at' x.trip u0.toNat).amps) 1 1000000 hr_5
    refine dg tT mX ⟨[RX x,YB x,Zz x,(50,vI u0),(92,vB (bif (MK u2 u4)then true else(k45 x u0)))],[]⟩ (_::(eqs (!u2) 3 ((gP (aaj x u2 u4 u0) [(4,false)]→All [Fn Try.prog 94 [sI (k42 x u0),sI 1,sI 100000] [] (vB u4) []])::(eqs (!u2) 2 (eqs (MK u2 u4) 3 (eqs (decide (0<u0)) 7 ((gP (aaj x u2 u4 u0) [(13,true),(10,false)]→All [(0:Int)≤(Qj u0)∧(Qj u0)<(x.trip.length:Int)])::(eqs (decide (0<u0)) 4 (eqs (Zf x u0) 7 ((gP (aaj x u2 u4 u0) [(24,false),(13,true),(10,false)]→All [(0:Int)≤(Qj u0)∧(Qj u0)<(x.trip.length:Int)])::(eqs (Zf x u0) 3 [(decide (0<u0))=(decide (0<u0)),gP (aaj x u2 u4 u0) [(13,true),(10,false)]→All [(Zf x u0)=(Zf x u0)],(MK u2 u4)=(MK u2 u4),gP (aaj x u2 u4 u0) [(10,false)]→All [(decide (0<u0))=(decide (0<u0))],(MK u2 u4)=(MK u2 u4)]))))))))))) {yb:=[(4,!u2),(10,MK u2 u4),(13,decide (0<u0)),(24,Zf x u0)],an:=[(2,cA q0 []),(7, .call [] (vB u4) [])] } [] ⟨q0,ae ⟨(fun hg=> ⟨bS (k42 x u0) 1 100000 (d9 hr_6 (bC hg)),trivial⟩),ae (ae (ae ⟨(fun hg=> ⟨a1 (bC hg),trivial⟩),ae (ae ⟨(fun hg=> ⟨a2 (bC hg),trivial⟩),ae ⟨rfl,(fun hg=> ⟨rfl,trivial⟩),rfl,(fun hg=> ⟨rfl,trivial⟩),rfl,trivial⟩⟩)⟩))⟩⟩ ?_
    refine bI h (fun hb h=> ?_) (fun hb h=> ?_)
    ·refine ct hb ?_
     refine sz tT ⟨[(3,vB false)],[]⟩ {} [] ?_
     refine aR ?_
     obtain rfl:=oi h
     exact lR dw (dm 0) dz (bL.mk (.inr rfl) (p:=[]) (l:=[sB false]) (by kernel_rfl) trivial (eB.refl _) trivial)
    ·refine cf hb ?_
     refine aP (rz tT ⟨[RX x,YB x,Zz x,(50,k3 u0)],[]⟩ {} [] ?_)
     obtain rfl:=oi h
     exact lN
   ·refine cf hb1 ?_
    refine aI (fz (ajO x) []) ?_
    refine aX ?_
    obtain rfl:=oi h
    exact lB
  ·clear hy
   cases y with
   |brk z=>
    unfold dZ
    refine⟨_, .refl, ?_⟩
    refine sg tT ⟨[(3,vB (amb x))],[]⟩ (eqs (Uc x) 5 (eqs (Yz x) 3 [(Uc x)=(Uc x),gP (gY [(4,Uc x),(9,Yz x)]) [(4,true)]→All [(Yz x)=(Yz x)],(Uc x)=(Uc x)])) {yb:=[(4,Uc x),(9,Yz x)] } [] (ae (ae ⟨rfl,(fun hg=> ⟨rfl,trivial⟩),rfl,trivial⟩)) ?_
    refine aR ?_
    obtain rfl:=oi h
    exact rl [sB (amb x)]
   |ret v=>
    obtain rfl:=oi h
    unfold dZ
    intro e st hn ha hR
    cases e with
    |normal=>exact absurd rfl hn
    |exit id=>exact hR
    |goto l=>exact hR
    |ret=>exact hR
    |panic c=>exact hR
    |outgrown=>exact hR
def GD  :Bool→Exit→St→Prop:=
  fun r=>bL TT [.tmp 3] (vB r) []
section
variable (x1:Int) (u0:List ay) (u1:List aH) (u2:List aK)
abbrev agt:DV:=(ow [.fn 138 1 (k98 x1 u0 u1 u2)] 0)
abbrev ang:TV:=(vD (agt x1 u0 u1 u2))
end
theorem EZ (x:aH) (x1:Int) (u0:List ay) (u1:List aH) (u2:List aK) {r:Bool} (h:nX x x1 u0 u1 u2=some r):Fn Try.prog 137 [.agg (k21 x),sD (agt x1 u0 u1 u2)] [] (vB r) []:=by
 refine fN tT Try.func137 rfl rfl fun B=> ?_
 show bR _ _ _ _ _ _ (GD r) _
 unfold nX at h
 refine sz tT ⟨[(1,ang x1 u0 u1 u2),RX x],[]⟩ {fr:=[(0,1)] } [1] ?_
 refine aQ (bE h fun r_ hr_ h=> ?_)
 have q0:=Kv x x1 u0 u1 u2 hr_
 refine rg tT ⟨[(3,vB (!r_))],[]⟩ [_] {an:=[(2,cA q0 [])] } [] ⟨q0,trivial⟩ ?_
 refine aR ?_
 obtain rfl:=oi h
 exact rl [sB (!r_)]
def lm  :Int→Exit→St→Prop:=
  fun r=>bL TT [.tmp 4] (vI r) []
section
variable (s_:List aH) (f_:Int) (u0:List ay) (u1:List aH) (u2:List aK)
abbrev vT:Nat × TV:=(0,vD (k92 s_))
abbrev amU:=(qC [agt f_ u0 u1 u2])
abbrev VD:Nat × TV:=(1,vD (.fn 137 1 (amU f_ u0 u1 u2)))
abbrev Zj:Nat × TV:=(7,vI (s_.length:Int))
end
def qp (s_:List aH) (f_:Int) (u0:List ay) (u1:List aH) (u2:List aK):Int→St:=
  fun t8=> ⟨[vT s_,VD f_ u0 u1 u2,Zj s_,(8,vI t8)],[]⟩
def qF  :Unit→St:=
  fun _=> ⟨[],[]⟩
def AX (s_:List aH) (f_:Int) (u0:List ay) (u1:List aH) (u2:List aK):(aY Int (Ex Unit Int))→Exit→St→Prop:=
  LQ 0 [] (qp s_ f_ u0 u1 u2) qF lm
section
variable (s_:List aH) (f_:Int) (u0:List ay) (u1:List aH) (u2:List aK)
abbrev agA:List SV:=[sD (k92 s_),sD (.fn 137 1 (amU f_ u0 u1 u2))]
abbrev anr:St:=⟨[vT s_,VD f_ u0 u1 u2],[]⟩
end
theorem Bg (s_:List aH) (f_:Int) (u0:List ay) (u1:List aH) (u2:List aK) {r:Int} (h:jW s_ f_ u0 u1 u2=some r):Fn Try.prog 151 (agA s_ f_ u0 u1 u2) [] (vI r) []:=by
 refine fN tT Try.func151 rfl rfl fun B=> ?_
 show bR _ _ _ _ _ _ (lm r) _
 unfold jW at h
 refine sz tT (anr s_ f_ u0 u1 u2) {} [] ?_
 refine aQ (sz tT ⟨[vT s_,VD f_ u0 u1 u2,Zj s_,(8,vI 0)],[]⟩ {} [] ?_)
 refine bE h fun y hy h=> ?_
 refine aL [] (qp s_ f_ u0 u1 u2) qF lm hy (fun s f h=> ?_) ?_
 ·clear hy
  show bR _ _ _ _ _ _ ((AX s_ f_ u0 u1 u2) f) _
  unfold iO at h
  obtain⟨t8,rfl⟩: ∃q,q=s:=⟨_,rfl⟩
  refine sz tT ⟨[vT s_,VD f_ u0 u1 u2,Zj s_,(8,vI t8),(9,vB (decide (t8<(s_.length:Int))))],[]⟩ {} [] ?_
  refine aQ ?_
  refine bI h (fun hb1 h=> ?_) (fun hb1 h=> ?_)
  ·refine ct hb1 ?_
   refine aP (aQ (aB (sz tT ⟨[vT s_,VD f_ u0 u1 u2,(5,vI t8),Zj s_,(8,vI t8)],[]⟩ {} [] ?_)))
   refine aQ (bE h fun r_ hr_ h=> ?_)
   refine aO h fun a1 h=> ?_
   have q1:=EZ (at' s_ t8.toNat) f_ u0 u1 u2 hr_
   refine rg tT ⟨[vT s_,VD f_ u0 u1 u2,(5,vI t8),Zj s_,(8,vI t8),(16,vB r_)],[]⟩ [_,_] {an:=[(5,cA q1 [])] } [] ⟨a1,q1,trivial⟩ ?_
   refine bI h (fun hb h=> ?_) (fun hb h=> ?_)
   ·refine ct hb ?_
    refine sz tT ⟨[(4,vI t8)],[]⟩ {} [] ?_
    refine aR ?_
    obtain rfl:=oi h
    exact lR dw (dm 0) dz (bL.mk (.inr rfl) (p:=[]) (l:=[sI t8]) (by kernel_rfl) trivial (eB.refl _) trivial)
   ·refine cf hb ?_
    refine aP (rz tT ⟨[vT s_,VD f_ u0 u1 u2,Zj s_,Hz t8],[]⟩ {} [] ?_)
    obtain rfl:=oi h
    exact lN
  ·refine cf hb1 ?_
   refine aI (fz ⟨[],[]⟩ []) ?_
   refine aX ?_
   obtain rfl:=oi h
   exact lB
 ·clear hy
  cases y with
  |brk z=>
   unfold dZ
   refine⟨_, .refl, ?_⟩
   refine sz tT ⟨[(4,vI (-1))],[]⟩ {} [] ?_
   refine aR ?_
   obtain rfl:=oi h
   exact rl [sI (-1)]
  |ret v=>
   obtain rfl:=oi h
   unfold dZ
   intro e st hn ha hR
   cases e with
   |normal=>exact absurd rfl hn
   |exit id=>exact hR
   |goto l=>exact hR
   |ret=>exact hR
   |panic c=>exact hR
   |outgrown=>exact hR
def yx  :Bool→Exit→St→Prop:=
  fun r=>bL TT [.tmp 4] (vB r) []
theorem xP (s_:List aH) (f_:Int) (u0:List ay) (u1:List aH) (u2:List aK) {r:Bool} (h:gD s_ f_ u0 u1 u2=some r):Fn Try.prog 136 (agA s_ f_ u0 u1 u2) [] (vB r) []:=by
 refine fN tT Try.func136 rfl rfl fun B=> ?_
 show bR _ _ _ _ _ _ (yx r) _
 unfold gD at h
 refine sz tT (anr s_ f_ u0 u1 u2) {} [] ?_
 refine aQ (bE h fun r_ hr_ h=> ?_)
 have q0:=Bg s_ f_ u0 u1 u2 hr_
 refine rg tT (aah r_) [_] {an:=[(2,cA q0 [])] } [] ⟨q0,trivial⟩ ?_
 refine aR ?_
 obtain rfl:=oi h
 exact rl [sB (decide (0≤r_))]
def LA  :Bool→Exit→St→Prop:=
  fun r=>bL TT [.tmp 6] (vB r) []
theorem Jg (l:List aH) (u0:Int) (u1:Int) (u2:List ay) (u3:List aH) (u4:List aK) {r:Bool} (h:pG l u0 u1 u2 u3 u4=some r):Fn Try.prog 97 [sD (k92 l),sI u0,sD (.fn 138 1 (k98 u1 u2 u3 u4))] [] (vB r) []:=by
 refine fN tT Try.func97 rfl rfl fun B=> ?_
 show bR _ _ _ _ _ _ (LA r) _
 unfold pG at h
 refine sz tT ⟨[vT l,(1,vI u0),(5,ang u1 u2 u3 u4)],[]⟩ {fr:=[(0,1)] } [1] ?_
 refine aQ (bE h fun r_ hr_ h=> ?_)
 refine rg tT ⟨[(6,vB (bif (decide ((l.length:Int)≤u0))then(!r_)else false))],[]⟩ (eqs (decide ((l.length:Int)≤u0)) 3 ((gP (gY [(4,decide ((l.length:Int)≤u0))]) [(4,true)]→All [Fn Try.prog 136 (agA l u1 u2 u3 u4) [] (vB r_) []])::(eqs (decide ((l.length:Int)≤u0)) 2 []))) {yb:=[(4,decide ((l.length:Int)≤u0))],an:=[(7, .call [] (vB r_) [])] } [] (ae ⟨(fun hg=> ⟨xP l u1 u2 u3 u4 (d9 hr_ (bC hg)),trivial⟩),ae trivial⟩) ?_
 refine aR ?_
 obtain rfl:=oi h
 exact rl [sB (bif (decide ((l.length:Int)≤u0))then(!r_)else false)]
def Nb  :Int→Exit→St→Prop:=
  fun r=>bL TT [.tmp 2] (vI r) []
section
variable (x:aK)
abbrev aep:List CV:=[cI x.aC.e0,cI x.aC.e1,cI x.aV,cI x.kJ]
abbrev amx:TV:=(vD (ow [.int .i64 x.aC.e0,.int .i64 x.aC.e1,.int .i64 x.aV,.int .i64 x.kJ] 0))
end
theorem KO (x:aK) {r:Int} (h:qo x=some r):Fn Try.prog 142 [.agg (aep x)] [] (vI r) []:=by
 refine fN tT Try.func142 rfl rfl fun B=> ?_
 show bR _ _ _ _ _ _ (Nb r) _
 unfold qo at h
 refine sz tT ⟨[(1,amx x)],[]⟩ {fr:=[(0,1)] } [1] ?_
 refine aQ (sg tT ⟨[(6,vB (decide (x.aC.e1=(-1))))],[]⟩ [(0:Int)≤1∧(1:Int)<(2:Nat)] {} [] ⟨(by decide),trivial⟩ ?_)
 refine bI h (fun hb h=> ?_) (fun hb h=> ?_)
 ·refine ct hb ?_
  refine sz tT ⟨[(2,vI 1)],[]⟩ {} [] ?_
  refine aR ?_
  obtain rfl:=oi h
  exact rl [sI 1]
 ·refine cf hb ?_
  refine aP (sz tT ⟨[(2,vI 2)],[]⟩ {} [] ?_)
  refine aR ?_
  obtain rfl:=oi h
  exact rl [sI 2]
def KQ  :Bool→Exit→St→Prop:=
  fun r=>bL TT [.tmp 3] (vB r) []
section
variable (x:aK) (r_:Bool) (u0:Bool) (u1:Bool) (u6:Bool)
abbrev agm:Nat × TV:=(2,amx x)
abbrev Yw:=(bif (k16 r_ u0)then(!decide (x.aC.e0=x.aC.e1))else false)
abbrev TP:=(bif (Yw x r_ u0)then u1 else false)
abbrev al2:=(bif (TP x r_ u0 u1)then u6 else false)
abbrev aev:=(gY [(5,r_),(12,k16 r_ u0),(17,Yw x r_ u0),(22,TP x r_ u0 u1)])
end
theorem JL (x:aK) (x1:Int) (u2:List ay) (u3:List aH) (u4:List aK) {r:Bool} (h:o7 x x1 u2 u3 u4=some r):Fn Try.prog 141 [.agg (aep x),sD (k90 u2 u3 u4 x1)] [] (vB r) []:=by
 refine fN tT Try.func141 rfl rfl fun B=> ?_
 show bR _ _ _ _ _ _ (KQ r) _
 unfold o7 at h
 refine sz tT ⟨[Rc u2 u3 u4 x1,agm x],[]⟩ {fr:=[(0,1)] } [1] ?_
 refine sd tT mX ⟨[Rc u2 u3 u4 x1,agm x,(4,vI x.aC.e0),(5,vI x.aC.e1)],[]⟩ [(0:Int)≤0∧(0:Int)<(2:Nat),(0:Int)≤1∧(1:Int)<(2:Nat)] {} [] ⟨(by decide),(by decide),trivial⟩ ?_
 refine aQ (bE h fun r_ hr_ h=> ?_)
 refine bE h fun u0 hr_1 h=> ?_
 refine bE h fun u1 hr_2 h=> ?_
 refine bE h fun u5 hr_3 h=> ?_
 refine bE h fun u6 hr_4 h=> ?_
 have q0:=bS x.aC.e0 0 (Qj x1) hr_
 refine dg tT mX ⟨[(3,vB (al2 x r_ u0 u1 u6))],[]⟩ (_::(eqs r_ 5 ((gP (aev x r_ u0 u1) [(5,true)]→All [Fn Try.prog 94 [sI x.aC.e1,sI (-1),sI (Qj x1)] [] (vB u0) []])::(r_=r_)::(eqs (k16 r_ u0) 4 (eqs (Yw x r_ u0) 3 ((gP (aev x r_ u0 u1) [(17,true)]→All [Fn Try.prog 94 [sI x.aV,sI 1,sI 100000] [] (vB u1) []])::((Yw x r_ u0)=(Yw x r_ u0))::(eqs (TP x r_ u0 u1) 4 [gP (aev x r_ u0 u1) [(22,true)]→All [Fn Try.prog 142 [.agg (aep x)] [] (vI u5) []],(TP x r_ u0 u1)=(TP x r_ u0 u1),gP (aev x r_ u0 u1) [(22,true)]→All [Fn Try.prog 94 [sI x.kJ,sI 0,sI u5] [] (vB u6) []],(TP x r_ u0 u1)=(TP x r_ u0 u1)]))))))) {yb:=[(5,r_),(12,k16 r_ u0),(17,Yw x r_ u0),(22,TP x r_ u0 u1)],an:=[(4,cA q0 []),(10, .call [] (vB u0) []),(20, .call [] (vB u1) []),(26, .call [] (vI u5) []),(27, .call [] (vB u6) [])] } [] ⟨q0,ae ⟨(fun hg=> ⟨bS x.aC.e1 (-1) (Qj x1) (d9 hr_1 (bC hg)),trivial⟩),rfl,ae (ae ⟨(fun hg=> ⟨bS x.aV 1 100000 (d9 hr_2 (bC hg)),trivial⟩),rfl,ae ⟨(fun hg=> ⟨KO x (d9 hr_3 (bC hg)),trivial⟩),rfl,(fun hg=> ⟨bS x.kJ 0 u5 (d9 hr_4 (bC hg)),trivial⟩),rfl,trivial⟩⟩)⟩⟩ ?_
 refine aR ?_
 obtain rfl:=oi h
 exact rl [sB (al2 x r_ u0 u1 u6)]
def FZ  :Bool→Exit→St→Prop:=
  fun r=>bL TT [.tmp 3] (vB r) []
section
variable (x1:Int) (u0:List ay) (u1:List aH) (u2:List aK)
abbrev afE:DV:=(ow [.fn 141 1 (k98 x1 u0 u1 u2)] 0)
abbrev alP:TV:=(vD (afE x1 u0 u1 u2))
end
theorem EJ (x:aK) (x1:Int) (u0:List ay) (u1:List aH) (u2:List aK) {r:Bool} (h:og x x1 u0 u1 u2=some r):Fn Try.prog 140 [.agg (aep x),sD (afE x1 u0 u1 u2)] [] (vB r) []:=by
 refine fN tT Try.func140 rfl rfl fun B=> ?_
 show bR _ _ _ _ _ _ (FZ r) _
 unfold og at h
 refine sz tT ⟨[(1,alP x1 u0 u1 u2),agm x],[]⟩ {fr:=[(0,1)] } [1] ?_
 refine aQ (bE h fun r_ hr_ h=> ?_)
 have q0:=JL x x1 u0 u1 u2 hr_
 refine rg tT ⟨[(3,vB (!r_))],[]⟩ [_] {an:=[(2,cA q0 [])] } [] ⟨q0,trivial⟩ ?_
 refine aR ?_
 obtain rfl:=oi h
 exact rl [sB (!r_)]
def lU  :Int→Exit→St→Prop:=
  fun r=>bL TT [.tmp 4] (vI r) []
section
variable (s_:List aK) (f_:Int) (u0:List ay) (u1:List aH) (u2:List aK)
abbrev Fa:Nat × TV:=(0,vD (Wq s_))
abbrev am2:=(qC [afE f_ u0 u1 u2])
abbrev WV:Nat × TV:=(1,vD (.fn 140 1 (am2 f_ u0 u1 u2)))
abbrev ZC:Nat × TV:=(7,vI (s_.length:Int))
end
def qL (s_:List aK) (f_:Int) (u0:List ay) (u1:List aH) (u2:List aK):Int→St:=
  fun t8=> ⟨[Fa s_,WV f_ u0 u1 u2,ZC s_,(8,vI t8)],[]⟩
def qG  :Unit→St:=
  fun _=> ⟨[],[]⟩
def AY (s_:List aK) (f_:Int) (u0:List ay) (u1:List aH) (u2:List aK):(aY Int (Ex Unit Int))→Exit→St→Prop:=
  LQ 0 [] (qL s_ f_ u0 u1 u2) qG lU
section
variable (s_:List aK) (f_:Int) (u0:List ay) (u1:List aH) (u2:List aK) (t8:Int)
abbrev af7:List SV:=[sD (Wq s_),sD (.fn 140 1 (am2 f_ u0 u1 u2))]
abbrev alZ:St:=⟨[Fa s_,WV f_ u0 u1 u2],[]⟩
abbrev Bj:=((at' s_ t8.toNat).aC)
end
theorem Bh (s_:List aK) (f_:Int) (u0:List ay) (u1:List aH) (u2:List aK) {r:Int} (h:jV s_ f_ u0 u1 u2=some r):Fn Try.prog 152 (af7 s_ f_ u0 u1 u2) [] (vI r) []:=by
 refine fN tT Try.func152 rfl rfl fun B=> ?_
 show bR _ _ _ _ _ _ (lU r) _
 unfold jV at h
 refine sz tT (alZ s_ f_ u0 u1 u2) {} [] ?_
 refine aQ (sz tT ⟨[Fa s_,WV f_ u0 u1 u2,ZC s_,(8,vI 0)],[]⟩ {} [] ?_)
 refine bE h fun y hy h=> ?_
 refine aL [] (qL s_ f_ u0 u1 u2) qG lU hy (fun s f h=> ?_) ?_
 ·clear hy
  show bR _ _ _ _ _ _ ((AY s_ f_ u0 u1 u2) f) _
  unfold iR at h
  obtain⟨t8,rfl⟩: ∃q,q=s:=⟨_,rfl⟩
  refine sz tT ⟨[Fa s_,WV f_ u0 u1 u2,ZC s_,(8,vI t8),(9,vB (decide (t8<(s_.length:Int))))],[]⟩ {} [] ?_
  refine aQ ?_
  refine bI h (fun hb1 h=> ?_) (fun hb1 h=> ?_)
  ·refine ct hb1 ?_
   refine aP (aQ (aB (sz tT ⟨[Fa s_,WV f_ u0 u1 u2,(5,vI t8),ZC s_,(8,vI t8)],[]⟩ {} [] ?_)))
   refine aQ (bE h fun r_ hr_ h=> ?_)
   refine aO h fun a1 h=> ?_
   have q1:=EJ (⟨Bj s_ t8,(at' s_ t8.toNat).aV,(at' s_ t8.toNat).kJ⟩:aK) f_ u0 u1 u2 hr_
   refine rg tT ⟨[Fa s_,WV f_ u0 u1 u2,(5,vI t8),ZC s_,(8,vI t8),(16,vB r_)],[]⟩ [_,_] {an:=[(5,cA q1 [])] } [] ⟨a1,q1,trivial⟩ ?_
   refine bI h (fun hb h=> ?_) (fun hb h=> ?_)
   ·refine ct hb ?_
    refine sz tT ⟨[(4,vI t8)],[]⟩ {} [] ?_
    refine aR ?_
    obtain rfl:=oi h
    exact lR dw (dm 0) dz (bL.mk (.inr rfl) (p:=[]) (l:=[sI t8]) (by kernel_rfl) trivial (eB.refl _) trivial)
   ·refine cf hb ?_
    refine aP (rz tT ⟨[Fa s_,WV f_ u0 u1 u2,ZC s_,Hz t8],[]⟩ {} [] ?_)
    obtain rfl:=oi h
    exact lN
  ·refine cf hb1 ?_
   refine aI (fz ⟨[],[]⟩ []) ?_
   refine aX ?_
   obtain rfl:=oi h
   exact lB
 ·clear hy
  cases y with
  |brk z=>
   unfold dZ
   refine⟨_, .refl, ?_⟩
   refine sz tT ⟨[(4,vI (-1))],[]⟩ {} [] ?_
   refine aR ?_
   obtain rfl:=oi h
   exact rl [sI (-1)]
  |ret v=>
   obtain rfl:=oi h
   unfold dZ
   intro e st hn ha hR
   cases e with
   |normal=>exact absurd rfl hn
   |exit id=>exact hR
   |goto l=>exact hR
   |ret=>exact hR
   |panic c=>exact hR
   |outgrown=>exact hR
def zM  :Bool→Exit→St→Prop:=
  fun r=>bL TT [.tmp 4] (vB r) []
theorem xG (s_:List aK) (f_:Int) (u0:List ay) (u1:List aH) (u2:List aK) {r:Bool} (h:gy s_ f_ u0 u1 u2=some r):Fn Try.prog 139 (af7 s_ f_ u0 u1 u2) [] (vB r) []:=by
 refine fN tT Try.func139 rfl rfl fun B=> ?_
 show bR _ _ _ _ _ _ (zM r) _
 unfold gy at h
 refine sz tT (alZ s_ f_ u0 u1 u2) {} [] ?_
 refine aQ (bE h fun r_ hr_ h=> ?_)
 have q0:=Bh s_ f_ u0 u1 u2 hr_
 refine rg tT (aah r_) [_] {an:=[(2,cA q0 [])] } [] ⟨q0,trivial⟩ ?_
 refine aR ?_
 obtain rfl:=oi h
 exact rl [sB (decide (0≤r_))]
def KG  :Bool→Exit→St→Prop:=
  fun r=>bL TT [.tmp 6] (vB r) []
theorem JW (l:List aK) (u0:Int) (u1:Int) (u2:List ay) (u3:List aH) (u4:List aK) {r:Bool} (h:o8 l u0 u1 u2 u3 u4=some r):Fn Try.prog 99 [sD (Wq l),sI u0,sD (.fn 141 1 (k98 u1 u2 u3 u4))] [] (vB r) []:=by
 refine fN tT Try.func99 rfl rfl fun B=> ?_
 show bR _ _ _ _ _ _ (KG r) _
 unfold o8 at h
 refine sz tT ⟨[Fa l,(1,vI u0),(5,alP u1 u2 u3 u4)],[]⟩ {fr:=[(0,1)] } [1] ?_
 refine aQ (bE h fun r_ hr_ h=> ?_)
 refine rg tT ⟨[(6,vB (bif (decide ((l.length:Int)≤u0))then(!r_)else false))],[]⟩ (eqs (decide ((l.length:Int)≤u0)) 3 ((gP (gY [(4,decide ((l.length:Int)≤u0))]) [(4,true)]→All [Fn Try.prog 139 (af7 l u1 u2 u3 u4) [] (vB r_) []])::(eqs (decide ((l.length:Int)≤u0)) 2 []))) {yb:=[(4,decide ((l.length:Int)≤u0))],an:=[(7, .call [] (vB r_) [])] } [] (ae ⟨(fun hg=> ⟨xG l u1 u2 u3 u4 (d9 hr_ (bC hg)),trivial⟩),ae trivial⟩) ?_
 refine aR ?_
 obtain rfl:=oi h
 exact rl [sB (bif (decide ((l.length:Int)≤u0))then(!r_)else false)]
def MO  :Int→Exit→St→Prop:=
  fun r=>bL TT [.tmp 2] (vI r) []
theorem Bo (p:au) {r:Int} (h:nN p=some r):Fn Try.prog 58 (k52 p) [] (vI r) []:=by
 refine fN tT Try.func58 rfl rfl fun B=> ?_
 show bR _ _ _ _ _ _ (MO r) _
 unfold nN at h
 refine sz tT (k85 p) {fr:=[(0,1)] } [1] ?_
 refine aQ (aB (aQ (bE h fun r_ hr_ h=> ?_)))
 have q0:=bS p.ax 1 24 hr_
 refine rg tT ⟨[k86 p,(3,vB (!r_))],[]⟩ [_] {an:=[(2,cA q0 [])] } [] ⟨q0,trivial⟩ ?_
 refine bI h (fun hb3 h=> ?_) (fun hb3 h=> ?_)
 ·refine ct hb3 ?_
  refine sz tT ⟨[(2,vI 10)],[]⟩ {} [] ?_
  refine aR ?_
  obtain rfl:=oi h
  exact rl [sI 10]
 ·refine cf hb3 ?_
  refine aQ (bE h fun u0 hr_1 h=> ?_)
  refine bE h fun u3 hr_2 h=> ?_
  have q0:=J3 p hr_1
  have q1:=MR p.ah 8 u0.1 u0.2.1 u0.2.2.1 u0.2.2.2 hr_2
  refine dg tT mX ⟨[k86 p,(8,vB (!u3))],[]⟩ [_,_] {an:=[(3,cA q0 []),(4,cA q1 [])] } [] ⟨q0,q1,trivial⟩ ?_
  refine bI h (fun hb2 h=> ?_) (fun hb2 h=> ?_)
  ·refine ct hb2 ?_
   refine sz tT ⟨[(2,vI 11)],[]⟩ {} [] ?_
   refine aR ?_
   obtain rfl:=oi h
   exact rl [sI 11]
  ·refine cf hb2 ?_
   refine aQ (bE h fun u1 hr_3 h=> ?_)
   refine bE h fun u4 hr_4 h=> ?_
   have q0:=MH p hr_3
   have q1:=Jg p.ai 40 u1.1 u1.2.1 u1.2.2.1 u1.2.2.2 hr_4
   refine dg tT mX ⟨[k86 p,(15,vB (!u4))],[]⟩ [_,_] {an:=[(3,cA q0 []),(4,cA q1 [])] } [] ⟨q0,q1,trivial⟩ ?_
   refine bI h (fun hb1 h=> ?_) (fun hb1 h=> ?_)
   ·refine ct hb1 ?_
    refine sz tT ⟨[(2,vI 12)],[]⟩ {} [] ?_
    refine aR ?_
    obtain rfl:=oi h
    exact rl [sI 12]
   ·refine cf hb1 ?_
    refine aQ (bE h fun u2 hr_5 h=> ?_)
    refine bE h fun u5 hr_6 h=> ?_
    have q0:=MU p hr_5
    have q1:=JW p.af 24 u2.1 u2.2.1 u2.2.2.1 u2.2.2.2 hr_6
    refine dg tT mX ⟨[(22,vB (!u5))],[]⟩ [_,_] {an:=[(3,cA q0 []),(4,cA q1 [])] } [] ⟨q0,q1,trivial⟩ ?_
    refine bI h (fun hb h=> ?_) (fun hb h=> ?_)
    ·refine ct hb ?_
     refine sz tT ⟨[(2,vI 13)],[]⟩ {} [] ?_
     refine aR ?_
     obtain rfl:=oi h
     exact rl [sI 13]
    ·refine cf hb ?_
     refine aP (sz tT ⟨[(2,vI 0)],[]⟩ {} [] ?_)
     refine aR ?_
     obtain rfl:=oi h
     exact rl [sI 0]
def iV  :Int→Exit→St→Prop:=
  fun r=>bL TT [.tmp 4] (vI r) []
section
variable (s_:aA) (p:au)
abbrev Vb:=(⟨s_.bH,(p.ai.length:Int)⟩:eT)
abbrev U5:=(⟨s_.bZ,(p.ai.length:Int)⟩:eT)
abbrev UM:=(⟨s_.bN,(p.ai.length:Int)⟩:eT)
abbrev Td:=(⟨s_.on_,(p.ah.length:Int)⟩:eT)
abbrev Tc:=(⟨s_.bD,(p.ah.length:Int)⟩:eT)
abbrev Um:=(⟨s_.cK,p.ax⟩:eT)
abbrev TQ:=(⟨s_.aW,p.ax⟩:eT)
abbrev Y0:Nat × TV:=(53,vO 13 true ([Vb s_ p,U5 s_ p,UM s_ p,Td s_ p,Tc s_ p,Um s_ p,TQ s_ p].length))
abbrev Y2:Nat × TV:=(54,vI ([Vb s_ p,U5 s_ p,UM s_ p,Td s_ p,Tc s_ p,Um s_ p,TQ s_ p].length:Int))
abbrev ahn:Nat × Option Ob:=(11,some (k50 p))
abbrev ZA:List (Nat × Option Ob):=[ahn p,(13,some (bW 128 2 eT.cell [Vb s_ p,U5 s_ p,UM s_ p,Td s_ p,Tc s_ p,Um s_ p,TQ s_ p]))]
end
def uo (p:au) (s_:aA):Int→St:=
  fun u0=> ⟨[(2,vP 11 0),k10 s_,Y0 s_ p,Y2 s_ p,(55,vI u0)],ZA s_ p⟩
section
variable (s_:aA) (p:au)
abbrev amR:St:=⟨[(2,vP 11 0),k10 s_],[ahn p]⟩
end
def uq (p:au) (s_:aA):Unit→St:=
  fun _=>(amR s_ p)
def Ec (p:au) (s_:aA):(aY Int (Ex Unit Int))→Exit→St→Prop:=
  LQ 0 [] (uo p s_) (uq p s_) iV
section
variable (p:au)
abbrev Zh:Nat × TV:=(67,vD (k24 p))
abbrev Y4:Nat × TV:=(68,vI (p.ai.length:Int))
end
def uH (p:au) (s_:aA):Int→St:=
  fun u0=> ⟨[k10 s_,Zh p,Y4 p,(69,vI u0)],[]⟩
def uz  :Unit→St:=
  fun _=> ⟨[],[]⟩
def Ee (p:au) (s_:aA):(aY Int (Ex Unit Int))→Exit→St→Prop:=
  LQ 2 [] (uH p s_) uz iV
section
variable (p:au) (s_:aA) (u1:Int) (u0:Int)
abbrev Ms:List SV:=[.agg (k22 p),.agg (k5 s_)]
abbrev ajm:Ob:=(.cells 29 (k5 s_))
abbrev adu:List (Nat × Option Ob):=[ahn p,(12,some (ajm s_))]
abbrev ai4:=(aS eT.cell [Vb s_ p,U5 s_ p,UM s_ p,Td s_ p,Tc s_ p,Um s_ p,TQ s_ p])
abbrev akO:=(at' [Vb s_ p,U5 s_ p,UM s_ p,Td s_ p,Tc s_ p,Um s_ p,TQ s_ p] u1.toNat)
abbrev ajX:=((akO p s_ u1).l)
abbrev anJ:=((akO p s_ u1).n)
abbrev Qi:=((at' p.ai u0.toNat).most)
abbrev ahU:TV:=(vD (ow [.int .i64 ((at' p.ai u0.toNat).a),.int .i64 ((at' p.ai u0.toNat).b),.int .i64 ((at' p.ai u0.toNat).kind),.int .i64 (Qi p u0),.int .i64 ((at' p.ai u0.toNat).gM),bJ none 2 dV.cell ((at' p.ai u0.toNat).trip)] 0))
abbrev EX:Nat × TV:=(11,ahU p u0)
abbrev FD:=(decide (((at' p.ai u0.toNat).kind)=1))
abbrev Ie:=(!(at' s_.bH u0.toNat))
abbrev ajK:TV:=(vB (bif (FD p u0)then(bif (Ie s_ u0)then true else(at' s_.bZ u0.toNat))else false))
abbrev aif:=(gY [(3,FD p u0),(10,Ie s_ u0)])
end
theorem iD (p:au) (s_:aA) {r:Int} (h:fC p s_=some r):Fn Try.prog 12 (Ms p s_) [] (vI r) []:=by
 refine fN tT Try.func12 rfl rfl fun B=> ?_
 show bR _ _ _ _ _ _ (iV r) _
 unfold fC at h
 refine sz tT ⟨[(2,vP 11 0),(3,vP 12 0)],adu p s_⟩ {fr:=[(0,11),(1,12)] } [] ?_
 refine aQ (aQ (bE h fun r_ hr_ h=> ?_))
 have q0:=Bo p hr_
 refine rg tT ⟨[(2,vP 11 0),(3,vP 12 0),(5,vI r_)],adu p s_⟩ [_] {an:=[(1,cA q0 [])] } [] ⟨q0,trivial⟩ ?_
 refine sz tT ⟨[(2,vP 11 0),(3,vP 12 0),(5,vI r_),(15,vB (!decide (r_=0)))],adu p s_⟩ {} [] ?_
 refine bI h (fun hb4 h=> ?_) (fun hb4 h=> ?_)
 ·refine ct hb4 ?_
  refine sz tT ⟨[(4,vI r_)],[]⟩ {} [] ?_
  refine aR ?_
  obtain rfl:=oi h
  exact rl [sI r_]
 ·refine cf hb4 ?_
  refine aP (sd tT mX ⟨[(2,vP 11 0),(3,vP 12 0),(6,vI (p.ai.length:Int)),(7,vI (p.ah.length:Int))],adu p s_⟩ [] {} [] trivial ?_)
  refine aQ (sg tT ⟨[(2,vP 11 0),k10 s_,Y0 s_ p,Y2 s_ p,(55,vI 0)],ZA s_ p⟩ [[Vb s_ p,U5 s_ p,UM s_ p,Td s_ p,Tc s_ p,Um s_ p,TQ s_ p].length=7,aZ 7 2 (kg 2 [bJ none 1 aF s_.bH,.int .i64 (p.ai.length:Int),bJ none 1 aF s_.bZ,.int .i64 (p.ai.length:Int),bJ none 1 aF s_.bN,.int .i64 (p.ai.length:Int),bJ none 1 aF s_.on_,.int .i64 (p.ah.length:Int),k6 s_,.int .i64 (p.ah.length:Int),bJ none 1 aF s_.cK,.int .i64 p.ax,bJ none 1 aF s_.aW,.int .i64 p.ax]) (ai4 p s_)] {an:=[(30, .arr [Vb s_ p,U5 s_ p,UM s_ p,Td s_ p,Tc s_ p,Um s_ p,TQ s_ p].length (ai4 p s_))],fr:=[(30,13)] } [12] ⟨rfl,(by intro i hi j hj;match i,j,hi,hj with|0,0,_,_=>rfl|0,1,_,_=>rfl|1,0,_,_=>rfl|1,1,_,_=>rfl|2,0,_,_=>rfl|2,1,_,_=>rfl|3,0,_,_=>rfl|3,1,_,_=>rfl|4,0,_,_=>rfl|4,1,_,_=>rfl|5,0,_,_=>rfl|5,1,_,_=>rfl|6,0,_,_=>rfl|6,1,_,_=>rfl),trivial⟩ ?_)
  refine bE h fun y hy h=> ?_
  refine aL [] (uo p s_) (uq p s_) iV hy (fun s f h=> ?_) ?_
  ·clear hy
   show bR _ _ _ _ _ _ ((Ec p s_) f) _
   unfold iF at h
   obtain⟨u1,rfl⟩: ∃q,q=s:=⟨_,rfl⟩
   refine sz tT ⟨[(2,vP 11 0),k10 s_,Y0 s_ p,Y2 s_ p,(55,vI u1),(56,vB (decide (u1<([Vb s_ p,U5 s_ p,UM s_ p,Td s_ p,Tc s_ p,Um s_ p,TQ s_ p].length:Int))))],ZA s_ p⟩ {} [] ?_
   refine aQ ?_
   refine bI h (fun hb1 h=> ?_) (fun hb1 h=> ?_)
   ·refine ct hb1 ?_
    refine aP (aQ (aB (aQ (aO h fun a1 h=> ?_))))
    refine rg tT ⟨[(2,vP 11 0),k10 s_,(9,vD (ow [bJ none 1 aF (ajX p s_ u1),.int .i64 (anJ p s_ u1)] 0)),Y0 s_ p,Y2 s_ p,(55,vI u1)],ZA s_ p⟩ [_,_] {fr:=[(2,17)] } [17] ⟨a1,tL a1,trivial⟩ ?_
    refine sz tT ⟨[(2,vP 11 0),k10 s_,Y0 s_ p,Y2 s_ p,(55,vI u1),(64,vB (!decide (((ajX p s_ u1).length:Int)=(anJ p s_ u1))))],ZA s_ p⟩ {} [] ?_
    refine bI h (fun hb h=> ?_) (fun hb h=> ?_)
    ·refine ct hb ?_
     refine sz tT ⟨[(4,vI 9)],[]⟩ {} [] ?_
     refine aR ?_
     obtain rfl:=oi h
     exact lR dw (dm 0) dz (bL.mk (.inr rfl) (p:=[]) (l:=[sI 9]) (by kernel_rfl) trivial (eB.refl _) trivial)
    ·refine cf hb ?_
     refine aP (rz tT ⟨[(2,vP 11 0),k10 s_,Y0 s_ p,Y2 s_ p,(55,k3 u1)],ZA s_ p⟩ {} [] ?_)
     obtain rfl:=oi h
     exact lN
   ·refine cf hb1 ?_
    refine aI (fz (amR s_ p) []) ?_
    refine aX ?_
    obtain rfl:=oi h
    exact lB
  ·clear hy
   cases y with
   |brk z=>
    unfold dZ
    refine⟨_, .refl, ?_⟩
    refine aQ (sz tT ⟨[k10 s_,Zh p,Y4 p,(69,vI 0)],[]⟩ {} [] ?_)
    refine bE h fun y1 hy h=> ?_
    refine aL [] (uH p s_) uz iV hy (fun s f h=> ?_) ?_
    ·clear hy
     show bR _ _ _ _ _ _ ((Ee p s_) f) _
     unfold iG at h
     obtain⟨u0,rfl⟩: ∃q,q=s:=⟨_,rfl⟩
     refine sz tT ⟨[k10 s_,Zh p,Y4 p,(69,vI u0),(70,k65 p u0)],[]⟩ {} [] ?_
     refine aQ ?_
     refine bI h (fun hb3 h=> ?_) (fun hb3 h=> ?_)
     ·refine ct hb3 ?_
      refine aP (aQ (aB (aQ (aO h fun a1 h=> ?_))))
      refine rg tT ⟨[k10 s_,(10,vI u0),EX p u0,Zh p,Y4 p,(69,vI u0)],[]⟩ [_] {fr:=[(3,21)] } [21] ⟨a1,trivial⟩ ?_
      refine aQ (aO h fun⟨a1,a2⟩ h=> ?_)
      refine rg tT ⟨[k10 s_,Zh p,Y4 p,(69,vI u0),(91,ajK p s_ u0)],[]⟩ (eqs (FD p u0) 4 ((gP (aif p s_ u0) [(3,true)]→All [(0:Int)≤u0∧u0<(s_.bH.length:Int)])::(eqs (FD p u0) 3 (eqs (Ie s_ u0) 4 [gP (aif p s_ u0) [(10,false),(3,true)]→All [(0:Int)≤u0∧u0<(s_.bZ.length:Int)],(Ie s_ u0)=(Ie s_ u0),(FD p u0)=(FD p u0),gP (aif p s_ u0) [(3,true)]→All [(Ie s_ u0)=(Ie s_ u0)],(FD p u0)=(FD p u0)])))) {yb:=[(3,FD p u0),(10,Ie s_ u0)] } [] (ae ⟨(fun hg=> ⟨a1 (bC hg),trivial⟩),ae (ae ⟨(fun hg=> ⟨a2 (bC hg),trivial⟩),rfl,rfl,(fun hg=> ⟨rfl,trivial⟩),rfl,trivial⟩)⟩) ?_
      refine bI h (fun hb2 h=> ?_) (fun hb2 h=> ?_)
      ·refine ct hb2 ?_
       refine sz tT ⟨[(4,vI 9)],[]⟩ {} [] ?_
       refine aR ?_
       obtain rfl:=oi h
       exact lR dw (dm 2) dz (bL.mk (.inr rfl) (p:=[]) (l:=[sI 9]) (by kernel_rfl) trivial (eB.refl _) trivial)
      ·refine cf hb2 ?_
       refine aP (rz tT ⟨[k10 s_,Zh p,Y4 p,(69,k3 u0)],[]⟩ {} [] ?_)
       obtain rfl:=oi h
       exact lN
     ·refine cf hb3 ?_
      refine aI (fz ⟨[],[]⟩ []) ?_
      refine aX ?_
      obtain rfl:=oi h
      exact lB
    ·clear hy
     cases y1 with
     |brk z=>
      unfold dZ
      refine⟨_, .refl, ?_⟩
      refine sz tT ⟨[(4,vI 0)],[]⟩ {} [] ?_
      refine aR ?_
      obtain rfl:=oi h
      exact rl [sI 0]
     |ret v=>
      obtain rfl:=oi h
      unfold dZ
      intro e st hn ha hR
      cases e with
      |normal=>exact absurd rfl hn
      |exit id=>exact hR
      |goto l=>exact hR
      |ret=>exact hR
      |panic c=>exact hR
      |outgrown=>exact hR
   |ret v=>
    obtain rfl:=oi h
    unfold dZ
    intro e st hn ha hR
    cases e with
    |normal=>exact absurd rfl hn
    |exit id=>exact hR
    |goto l=>exact hR
    |ret=>exact hR
    |panic c=>exact hR
    |outgrown=>exact hR
def NI  :Bool→Exit→St→Prop:=
  fun r=>bL TT [.tmp 6] (vB r) []
section
variable (p:au) (s_:aA) (k:Int)
abbrev Rh:List SV:=[.agg (k22 p),.agg (k5 s_),sI k]
abbrev bg:Nat × TV:=(3,k27 p)
abbrev bG:Nat × TV:=(4,k8 s_)
abbrev ahb:St:=⟨[(2,vI k),bg p,bG s_],[]⟩
abbrev VZ:=(bif (at' s_.on_ k.toNat)then(!(at' s_.bD k.toNat))else false)
abbrev Wu:=((k55 p k).toNat)
abbrev akG:=(bif (VZ s_ k)then(!(at' s_.aW (Wu p k)))else false)
abbrev akt:St:=⟨[(6,vB (akG p s_ k))],[]⟩
abbrev afC:=(gY [(5,at' s_.on_ k.toNat),(13,VZ s_ k)])
abbrev aj9:=(eqs (at' s_.on_ k.toNat) 4 ((gP (afC s_ k) [(5,true)]→All [(0:Int)≤k∧k<(s_.bD.length:Int)])::(eqs (at' s_.on_ k.toNat) 3 (eqs (VZ s_ k) 6 ((gP (afC s_ k) [(13,true)]→All [(0:Int)≤k∧k<(p.ah.length:Int)])::(eqs (VZ s_ k) 3 ((gP (afC s_ k) [(13,true)]→All [(0:Int)≤(at' p.ah k.toNat).bus∧(at' p.ah k.toNat).bus<(s_.aW.length:Int)])::(eqs (VZ s_ k) 3 []))))))))
abbrev ami:List SV:=[sB (akG p s_ k)]
end
theorem iB (p:au) (s_:aA) (k:Int) {r:Bool} (h:iP p s_ k=some r):Fn Try.prog 65 (Rh p s_ k) [] (vB r) []:=by
 refine fN tT Try.func65 rfl rfl fun B=> ?_
 show bR _ _ _ _ _ _ (NI r) _
 unfold iP at h
 refine sz tT (ahb p s_ k) {fr:=[(0,2),(1,3)] } [2,3] ?_
 refine aQ (aO h fun⟨a1,a2,a3,a4⟩ h=> ?_)
 refine dg tT mX (akt p s_ k) (_::(aj9 p s_ k)) {yb:=[(5,at' s_.on_ k.toNat),(13,VZ s_ k)] } [] ⟨a1,ae ⟨(fun hg=> ⟨a2 (bC hg),trivial⟩),ae (ae ⟨(fun hg=> ⟨a3 (bC hg),trivial⟩),ae ⟨(fun hg=> ⟨a4 (bC hg),trivial⟩),ae trivial⟩⟩)⟩⟩ ?_
 refine aR ?_
 obtain rfl:=oi h
 exact rl (ami p s_ k)
def Kk  :Bool→Exit→St→Prop:=
  fun r=>bL TT [.tmp 6] (vB r) []
section
variable (s_:aA) (i:Int) (p:au)
abbrev PN:=(bif (at' s_.bH i.toNat)then(!(at' s_.bN i.toNat))else false)
abbrev WS:=(((at' p.ai i.toNat).a).toNat)
abbrev Si:=(bif (PN s_ i)then(!(at' s_.aW (WS i p)))else false)
abbrev Zk:=(((at' p.ai i.toNat).b).toNat)
abbrev akm:=(bif (Si s_ i p)then(!(at' s_.aW (Zk i p)))else false)
abbrev aml:St:=⟨[(6,vB (akm s_ i p))],[]⟩
abbrev ahO:=(gY [(5,at' s_.bH i.toNat),(13,PN s_ i),(22,Si s_ i p)])
abbrev amG:=(eqs (Si s_ i p) 3 [])
abbrev alL:List SV:=[sB (akm s_ i p)]
end
theorem fA (p:au) (s_:aA) (i:Int) {r:Bool} (h:eH p s_ i=some r):Fn Try.prog 78 (Rh p s_ i) [] (vB r) []:=by
 refine fN tT Try.func78 rfl rfl fun B=> ?_
 show bR _ _ _ _ _ _ (Kk r) _
 unfold eH at h
 refine sz tT ⟨[(2,vI i),(3,vP 3 0),bG s_],[(3,some (k50 p))]⟩ {fr:=[(0,3),(1,4)] } [4] ?_
 refine aQ (aO h fun a1 h=> ?_)
 refine rg tT ⟨[(2,vI i),bG s_,(7,ahU p i)],[]⟩ [_] {fr:=[(5,5)] } [5] ⟨a1,trivial⟩ ?_
 refine aQ (aO h fun⟨a1,a2,a3,a4⟩ h=> ?_)
 refine rg tT (aml s_ i p) (_::(eqs (at' s_.bH i.toNat) 4 ((gP (ahO s_ i p) [(5,true)]→All [(0:Int)≤i∧i<(s_.bN.length:Int)])::(eqs (at' s_.bH i.toNat) 3 (eqs (PN s_ i) 5 ((gP (ahO s_ i p) [(13,true)]→All [(0:Int)≤(at' p.ai i.toNat).a∧(at' p.ai i.toNat).a<(s_.aW.length:Int)])::(eqs (PN s_ i) 3 (eqs (Si s_ i p) 5 ((gP (ahO s_ i p) [(22,true)]→All [(0:Int)≤(at' p.ai i.toNat).b∧(at' p.ai i.toNat).b<(s_.aW.length:Int)])::(amG s_ i p)))))))))) {yb:=[(5,at' s_.bH i.toNat),(13,PN s_ i),(22,Si s_ i p)] } [] ⟨a1,ae ⟨(fun hg=> ⟨a2 (bC hg),trivial⟩),ae (ae ⟨(fun hg=> ⟨a3 (bC hg),trivial⟩),ae (ae ⟨(fun hg=> ⟨a4 (bC hg),trivial⟩),ae trivial⟩)⟩)⟩⟩ ?_
 refine aR ?_
 obtain rfl:=oi h
 exact rl (alL s_ i p)
def Dh  :(List Int)→Exit→St→Prop:=
  fun r=>bL TT [.tmp 2] (vO 0 false r.length) [(0,some (bW 3 1 (aT .i64) r))]
theorem rC (s_:List Int) (u0:Bool) {r:List Int} (h:sZ s_ u0=some r):Fn Try.prog 112 [sD (bJ (some u0) 1 (aT .i64) s_)] [] (vO 0 false r.length) [(0,some (bW 3 1 (aT .i64) r))]:=by
 refine fN tT Try.func112 rfl rfl fun B=> ?_
 show bR _ _ _ _ _ _ (Dh r) _
 unfold sZ at h
 refine sz tT ⟨[(0,vD (bJ (some u0) 1 (aT .i64) s_))],[]⟩ {} [] ?_
 refine aQ (sz tT ⟨[(0,vD (bJ (some u0) 1 (aT .i64) s_)),(4,vB (!u0))],[]⟩ {} [] ?_)
 refine bI h (fun hb h=> ?_) (fun hb h=> ?_)
 ·refine ct hb ?_
  refine sz tT ⟨[(2,vD nS)],[]⟩ {} [] ?_
  refine aI (.trans (cO.UF (t:=2) (b:=2) (esz0:=0) (el0:=fun _ _=> .nilp) (E:=3) (esz:=1) (el:=aS (aT .i64) ([]:List Int)) (by kernel_rfl) (by kernel_rfl)) (.trans (cO.fin (st':=⟨[(2,vO 0 false 0)],[(0,some (.arr 3 1 0 (aS (aT .i64) ([]:List Int))))]⟩) (cs:=[]) ⟨[],[(2,0)]⟩ [2] (by kernel_rfl) trivial) (cO.le (st':=⟨[(2,vO 0 false (([]:List Int).length))],[(0,some (bW 3 1 (aT .i64) ([]:List Int)))]⟩) ⟨⟨⟨_,rfl,eB.v (fG.one cW)⟩,trivial⟩,⟨rfl,oW,trivial⟩⟩))) ?_
  refine aR ?_
  obtain rfl:=oi h
  exact rl [.one (.own 0 false (([]:List Int).length))]
 ·refine cf hb ?_
  refine aP (aQ (aO h fun⟨a1,a2⟩ h=> ?_))
  refine rg tT ⟨[(2,vO 4 false ((([]:List Int)++s_).length))],[(4,some (bW 3 1 (aT .i64) (([]:List Int)++s_)))]⟩ [([]:List Int).length=0,aZ 0 1 (kg 1 []) (aS (aT .i64) ([]:List Int)),([]:List Int).length=([]:List Int).length,_,_,(([]:List Int)++s_).length=([]:List Int).length+s_.length,aZ (([]:List Int).length+s_.length) 1 (Ff (aS (aT .i64) ([]:List Int)) ([]:List Int).length (aS (aT .i64) s_)) (aS (aT .i64) (([]:List Int)++s_))] {an:=[(0, .arr ([]:List Int).length (aS (aT .i64) ([]:List Int))),(2, .arr (([]:List Int)++s_).length (aS (aT .i64) (([]:List Int)++s_)))],fr:=[(0,3),(2,4)] } [] ⟨rfl,(fun i hi=>absurd hi (Nat.not_lt_zero i)),rfl,a1,a2,List.length_append,kz _ _ _ _,trivial⟩ ?_
  refine aI (cO.fin (st':=⟨[(2,vO 0 false ((([]:List Int)++s_).length))],[(0,some (bW 3 1 (aT .i64) (([]:List Int)++s_)))]⟩) (cs:=[]) ⟨[],[(4,0)]⟩ [2] (by kernel_rfl) trivial) ?_
  refine aR ?_
  obtain rfl:=oi h
  exact rl [.one (.own 0 false ((([]:List Int)++s_).length))]
theorem zP (s:List Int) {r:List Int} (h:wE s=some r):Fn Try.prog 112 [sD (bJ none 1 (aT .i64) s)] [] (vO 0 false r.length) [(0,some (bW 3 1 (aT .i64) r))]:=by
 refine Fn.nn (rC s true h) fun hl=> ?_
 have hs:s=[]:=List.eq_nil_of_length_eq_zero hl
 subst hs
 exact rC [] false (by rw [←h];kernel_rfl)
def PL  :Bool→Exit→St→Prop:=
  fun r=>bL TT [.tmp 2] (vB r) []
theorem FK (x:Int) {r:Bool} (h:Aa x=some r):Fn Try.prog 154 [sI x] [] (vB r) []:=by
 refine fN tT Try.func154 rfl rfl fun B=> ?_
 show bR _ _ _ _ _ _ (PL r) _
 unfold Aa at h
 refine sz tT ⟨[(0,vI x)],[]⟩ {} [] ?_
 refine sz tT ⟨[(2,vB (!decide (x=x)))],[]⟩ {} [] ?_
 refine aR ?_
 obtain rfl:=oi h
 exact rl [sB (!decide (x=x))]
def ML  :Int→Exit→St→Prop:=
  fun r=>bL TT [.tmp 4] (vI r) []
theorem KC (x:Int) (y:Int) {r:Int} (h:AR x y=some r):Fn Try.prog 145 [sI x,sI y] [] (vI r) []:=by
 refine fN tT Try.func145 rfl rfl fun B=> ?_
 show bR _ _ _ _ _ _ (ML r) _
 unfold AR at h
 refine sz tT ⟨[(0,vI x),(1,vI y)],[]⟩ {} [] ?_
 refine aQ (bE h fun r_ hr_ h=> ?_)
 have q0:=FK x hr_
 refine rg tT ⟨[(0,vI x),(1,vI y),(5,vB r_)],[]⟩ [_] {an:=[(1,cA q0 [])] } [] ⟨q0,trivial⟩ ?_
 refine aQ (bE h fun u0 hr_1 h=> ?_)
 have q0:=FK y hr_1
 refine rg tT ⟨[(0,vI x),(1,vI y),(5,vB r_),(6,vB u0)],[]⟩ [_] {an:=[(1,cA q0 [])] } [] ⟨q0,trivial⟩ ?_
 refine aQ (sz tT ⟨[(0,vI x),(1,vI y),(6,vB u0),(11,vB r_)],[]⟩ {} [] ?_)
 refine bI h (fun hb4 h=> ?_) (fun hb4 h=> ?_)
 ·refine ct hb4 ?_
  refine aQ (sz tT ⟨[(12,vB u0)],[]⟩ {} [] ?_)
  refine bI h (fun hb h=> ?_) (fun hb h=> ?_)
  ·refine ct hb ?_
   refine sz tT ⟨[(4,vI 0)],[]⟩ {} [] ?_
   refine aR ?_
   obtain rfl:=oi h
   exact rl [sI 0]
  ·refine cf hb ?_
   refine aP (sz tT ⟨[(4,vI (-1))],[]⟩ {} [] ?_)
   refine aR ?_
   obtain rfl:=oi h
   exact rl [sI (-1)]
 ·refine cf hb4 ?_
  refine aP (aQ (sz tT ⟨[(0,vI x),(1,vI y),(13,vB u0)],[]⟩ {} [] ?_))
  refine bI h (fun hb3 h=> ?_) (fun hb3 h=> ?_)
  ·refine ct hb3 ?_
   refine sz tT ⟨[(4,vI 1)],[]⟩ {} [] ?_
   refine aR ?_
   obtain rfl:=oi h
   exact rl [sI 1]
  ·refine cf hb3 ?_
   refine aP (aQ (sz tT ⟨[(0,vI x),(1,vI y),(16,vB (decide (x<y)))],[]⟩ {} [] ?_))
   refine bI h (fun hb2 h=> ?_) (fun hb2 h=> ?_)
   ·refine ct hb2 ?_
    refine sz tT ⟨[(4,vI (-1))],[]⟩ {} [] ?_
    refine aR ?_
    obtain rfl:=oi h
    exact rl [sI (-1)]
   ·refine cf hb2 ?_
    refine aP (aQ (sz tT ⟨[(19,vB (decide (y<x)))],[]⟩ {} [] ?_))
    refine bI h (fun hb1 h=> ?_) (fun hb1 h=> ?_)
    ·refine ct hb1 ?_
     refine sz tT ⟨[(4,vI 1)],[]⟩ {} [] ?_
     refine aR ?_
     obtain rfl:=oi h
     exact rl [sI 1]
    ·refine cf hb1 ?_
     refine aP (sz tT ⟨[(4,vI 0)],[]⟩ {} [] ?_)
     refine aR ?_
     obtain rfl:=oi h
     exact rl [sI 0]
def qZ  :Int→Exit→St→Prop:=
  fun r=>bL TT [.tmp 4] (vI r) []
section
variable (s1:List Int) (s2:List Int)
abbrev Dk:DV:=(bJ none 1 (aT .i64) s1)
abbrev mr:Nat × TV:=(0,vD (Dk s1))
abbrev F6:Nat × TV:=(1,vD (Dk s2))
abbrev Rm:Nat × TV:=(9,vD (Dk s1))
abbrev RQ:Nat × TV:=(10,vI (s1.length:Int))
end
def wH (s1:List Int) (s2:List Int):Int→St:=
  fun u0=> ⟨[mr s1,F6 s2,Rm s1,RQ s1,(11,vI u0)],[]⟩
section
variable (s1:List Int) (s2:List Int)
abbrev aeg:St:=⟨[mr s1,F6 s2],[]⟩
end
def wQ (s1:List Int) (s2:List Int):Unit→St:=
  fun _=>(aeg s1 s2)
def Gs (s1:List Int) (s2:List Int):(aY Int (Ex Unit Int))→Exit→St→Prop:=
  LQ 0 [] (wH s1 s2) (wQ s1 s2) qZ
section
variable (u0:Int) (s1:List Int)
abbrev aat:TV:=(vB (decide (u0<(s1.length:Int))))
abbrev Y6:Nat × TV:=(11,k3 u0)
end
theorem Gp (s1:List Int) (s2:List Int) {r:Int} (h:ve s1 s2=some r):Fn Try.prog 111 [sD (Dk s1),sD (Dk s2)] [] (vI r) []:=by
 refine fN tT Try.func111 rfl rfl fun B=> ?_
 show bR _ _ _ _ _ _ (qZ r) _
 unfold ve at h
 refine sz tT (aeg s1 s2) {} [] ?_
 refine aQ (sz tT ⟨[mr s1,F6 s2,Rm s1,RQ s1,(11,vI 0)],[]⟩ {} [] ?_)
 refine bE h fun y hy h=> ?_
 refine aL [] (wH s1 s2) (wQ s1 s2) qZ hy (fun s f h=> ?_) ?_
 ·clear hy
  show bR _ _ _ _ _ _ ((Gs s1 s2) f) _
  unfold wJ at h
  obtain⟨u0,rfl⟩: ∃q,q=s:=⟨_,rfl⟩
  refine sz tT ⟨[mr s1,F6 s2,Rm s1,RQ s1,(11,vI u0),(12,aat u0 s1)],[]⟩ {} [] ?_
  refine aQ ?_
  refine bI h (fun hb2 h=> ?_) (fun hb2 h=> ?_)
  ·refine ct hb2 ?_
   refine aP (aQ (aB (aQ (aO h fun a1 h=> ?_))))
   refine rg tT ⟨[mr s1,F6 s2,(5,vI u0),(6,vI (at' s1 u0.toNat)),Rm s1,RQ s1,(11,vI u0)],[]⟩ [_] {} [] ⟨a1,trivial⟩ ?_
   refine aQ (sz tT ⟨[mr s1,F6 s2,(5,vI u0),(6,vI (at' s1 u0.toNat)),Rm s1,RQ s1,(11,vI u0),(19,vB (decide ((s2.length:Int)≤u0)))],[]⟩ {} [] ?_)
   refine bI h (fun hb1 h=> ?_) (fun hb1 h=> ?_)
   ·refine ct hb1 ?_
    refine sz tT ⟨[(4,vI 1)],[]⟩ {} [] ?_
    refine aR ?_
    obtain rfl:=oi h
    exact lR dw (dm 0) dz (bL.mk (.inr rfl) (p:=[]) (l:=[sI 1]) (by kernel_rfl) trivial (eB.refl _) trivial)
   ·refine cf hb1 ?_
    refine aP (aQ (aO h fun a1 h=> ?_))
    refine rg tT ⟨[mr s1,F6 s2,(6,vI (at' s1 u0.toNat)),(7,vI (at' s2 u0.toNat)),Rm s1,RQ s1,(11,vI u0)],[]⟩ [_] {} [] ⟨a1,trivial⟩ ?_
    refine aQ (bE h fun r_ hr_ h=> ?_)
    have q0:=KC (at' s1 u0.toNat) (at' s2 u0.toNat) hr_
    refine rg tT ⟨[mr s1,F6 s2,(8,vI r_),Rm s1,RQ s1,(11,vI u0)],[]⟩ [_] {an:=[(2,cA q0 [])] } [] ⟨q0,trivial⟩ ?_
    refine sz tT ⟨[mr s1,F6 s2,(8,vI r_),Rm s1,RQ s1,(11,vI u0),(28,vB (!decide (r_=0)))],[]⟩ {} [] ?_
    refine bI h (fun hb h=> ?_) (fun hb h=> ?_)
    ·refine ct hb ?_
     refine sz tT ⟨[(4,vI r_)],[]⟩ {} [] ?_
     refine aR ?_
     obtain rfl:=oi h
     exact lR dw (dm 0) dz (bL.mk (.inr rfl) (p:=[]) (l:=[sI r_]) (by kernel_rfl) trivial (eB.refl _) trivial)
    ·refine cf hb ?_
     refine aP (rz tT ⟨[mr s1,F6 s2,Rm s1,RQ s1,Y6 u0],[]⟩ {} [] ?_)
     obtain rfl:=oi h
     exact lN
  ·refine cf hb2 ?_
   refine aI (fz (aeg s1 s2) []) ?_
   refine aX ?_
   obtain rfl:=oi h
   exact lB
 ·clear hy
  cases y with
  |brk z=>
   unfold dZ
   refine⟨_, .refl, ?_⟩
   refine aQ (sz tT ⟨[(35,vB (decide ((s1.length:Int)<(s2.length:Int))))],[]⟩ {} [] ?_)
   refine bI h (fun hb3 h=> ?_) (fun hb3 h=> ?_)
   ·refine ct hb3 ?_
    refine sz tT ⟨[(4,vI (-1))],[]⟩ {} [] ?_
    refine aR ?_
    obtain rfl:=oi h
    exact rl [sI (-1)]
   ·refine cf hb3 ?_
    refine aP (sz tT ⟨[(4,vI 0)],[]⟩ {} [] ?_)
    refine aR ?_
    obtain rfl:=oi h
    exact rl [sI 0]
  |ret v=>
   obtain rfl:=oi h
   unfold dZ
   intro e st hn ha hR
   cases e with
   |normal=>exact absurd rfl hn
   |exit id=>exact hR
   |goto l=>exact hR
   |ret=>exact hR
   |panic c=>exact hR
   |outgrown=>exact hR
def Il  :Int→Exit→St→Prop:=
  fun r=>bL TT [.tmp 2] (vI r) []
section
variable (u0:List Int)
abbrev Yy:Nat × TV:=(6,vD (Dk u0))
abbrev rG:Nat × TV:=(7,vI (u0.length:Int))
end
def Mf (u0:List Int):Int→St:=
  fun t8=> ⟨[(3,vI 0),Yy u0,rG u0,(8,vI t8)],[]⟩
def LJ  :Unit→St:=
  fun _=> ⟨[(3,vI 0)],[]⟩
def Uq (u0:List Int):(aY Int (Ex Unit Int))→Exit→St→Prop:=
  LQ 0 [] (Mf u0) LJ Il
section
variable (t8:Int) (u0:List Int)
abbrev aay:Nat × TV:=(9,aat t8 u0)
end
theorem Vh (u0:List Int) {r:Int} (h:O1 u0=some r):Fn Try.prog 110 [sD (Dk u0)] [] (vI r) []:=by
 refine fN tT Try.func110 rfl rfl fun B=> ?_
 show bR _ _ _ _ _ _ (Il r) _
 unfold O1 at h
 refine sz tT ⟨[mr u0],[]⟩ {} [] ?_
 refine sz tT ⟨[mr u0,(3,vI 0)],[]⟩ {} [] ?_
 refine aQ (sz tT ⟨[(3,vI 0),Yy u0,rG u0,(8,vI 0)],[]⟩ {} [] ?_)
 refine bE h fun y hy h=> ?_
 refine aL [] (Mf u0) LJ Il hy (fun s f h=> ?_) ?_
 ·clear hy
  show bR _ _ _ _ _ _ ((Uq u0) f) _
  unfold Ma at h
  obtain⟨t8,rfl⟩: ∃q,q=s:=⟨_,rfl⟩
  refine sz tT ⟨[(3,vI 0),Yy u0,rG u0,(8,vI t8),aay t8 u0],[]⟩ {} [] ?_
  refine aQ ?_
  refine bI h (fun hb1 h=> ?_) (fun hb1 h=> ?_)
  ·refine ct hb1 ?_
   refine aP (aQ (aB (aQ (aO h fun a1 h=> ?_))))
   refine rg tT ⟨[(3,vI 0),(5,vI (at' u0 t8.toNat)),Yy u0,rG u0,(8,vI t8)],[]⟩ [_] {} [] ⟨a1,trivial⟩ ?_
   refine sz tT ⟨[(3,vI 0),(5,vI (at' u0 t8.toNat)),Yy u0,rG u0,(8,vI t8),(14,vB (!decide ((at' u0 t8.toNat)=0)))],[]⟩ {} [] ?_
   refine bI h (fun hb h=> ?_) (fun hb h=> ?_)
   ·refine ct hb ?_
    refine sz tT ⟨[(2,vI (at' u0 t8.toNat))],[]⟩ {} [] ?_
    refine aR ?_
    obtain rfl:=oi h
    exact lR dw (dm 0) dz (bL.mk (.inr rfl) (p:=[]) (l:=[sI (at' u0 t8.toNat)]) (by kernel_rfl) trivial (eB.refl _) trivial)
   ·refine cf hb ?_
    refine aP (rz tT ⟨[(3,vI 0),Yy u0,rG u0,Hz t8],[]⟩ {} [] ?_)
    obtain rfl:=oi h
    exact lN
  ·refine cf hb1 ?_
   refine aI (fz ⟨[(3,vI 0)],[]⟩ []) ?_
   refine aX ?_
   obtain rfl:=oi h
   exact lB
 ·clear hy
  cases y with
  |brk z=>
   unfold dZ
   refine⟨_, .refl, ?_⟩
   refine sz tT ⟨[(2,vI 0)],[]⟩ {} [] ?_
   refine aR ?_
   obtain rfl:=oi h
   exact rl [sI 0]
  |ret v=>
   obtain rfl:=oi h
   unfold dZ
   intro e st hn ha hR
   cases e with
   |normal=>exact absurd rfl hn
   |exit id=>exact hR
   |goto l=>exact hR
   |ret=>exact hR
   |panic c=>exact hR
   |outgrown=>exact hR
def M4  :Bool→Exit→St→Prop:=
  fun r=>bL TT [.tmp 4] (vB r) []
section
variable (a:Way) (b:Way) (r_:Int)
abbrev PI:=(IntKind.wrap .i64 (a.gM - b.gM))
abbrev PD:=(IntKind.wrap .i64 ((a.ai.length:Int) - (b.ai.length:Int)))
abbrev ajD:=(aS (aT .i64) [PI a b,PD a b,r_])
abbrev aks:List (Nat × Option Ob):=[(6,some (bW 3 1 (aT .i64) [PI a b,PD a b,r_]))]
end
theorem Ll (a:Way) (b:Way) {r:Bool} (h:Be a b=some r):Fn Try.prog 109 [.agg [cB a.there,cI a.gM,.d (bJ none 1 (aT .i64) a.ai)],.agg [cB b.there,cI b.gM,.d (bJ none 1 (aT .i64) b.ai)]] [] (vB r) []:=by
 refine fN tT Try.func109 rfl rfl fun B=> ?_
 show bR _ _ _ _ _ _ (M4 r) _
 unfold Be at h
 refine sz tT ⟨[(2,vD (ow [.bool a.there,.int .i64 a.gM,bJ none 1 (aT .i64) a.ai] 0)),(3,vD (ow [.bool b.there,.int .i64 b.gM,bJ none 1 (aT .i64) b.ai] 0))],[]⟩ {fr:=[(0,4),(1,5)] } [4,5] ?_
 refine aQ ?_
 refine bI h (fun hb h=> ?_) (fun hb h=> ?_)
 ·skip
  refine di tT mX ⟨[(4,vB (bif (!b.there)then true else false))],[]⟩ [(!b.there)=true, ¬ gP (gY [(3,true)]) [(3,false)],(!b.there)=true, ¬ gP (gY [(3,true)]) [(3,false)],(!b.there)=true, ¬ gP (gY [(3,true)]) [(3,false)],(!b.there)=true, ¬ gP (gY [(3,true)]) [(3,false)],(!b.there)=true, ¬ gP (gY [(3,true)]) [(3,false)],(!b.there)=true, ¬ gP (gY [(3,true)]) [(3,false)],(!b.there)=true, ¬ gP (gY [(3,true)]) [(3,false)],(!b.there)=true, ¬ gP (gY [(3,true)]) [(3,false)],(!b.there)=true, ¬ gP (gY [(3,true)]) [(3,false)],(!b.there)=true, ¬ gP (gY [(3,true)]) [(3,false)],(!b.there)=true, ¬ gP (gY [(3,true)]) [(3,false)],(!b.there)=true, ¬ gP (gY [(3,true)]) [(3,false)],(!b.there)=true, ¬ gP (gY [(3,true)]) [(3,false)],(!b.there)=true, ¬ gP (gY [(3,true)]) [(3,false)],(!b.there)=true, ¬ gP (gY [(3,true)]) [(3,false)],(!b.there)=true, ¬ gP (gY [(3,true)]) [(3,false)],(!b.there)=true, ¬ gP (gY [(3,true)]) [(3,false)],(!b.there)=true, ¬ gP (gY [(3,true)]) [(3,false)],(!b.there)=true, ¬ gP (gY [(3,true)]) [(3,false)],(!b.there)=true, ¬ gP (gY [(3,true)]) [(3,false)],(!b.there)=true] {yb:=[(3,true)],an:=[(4, .skip),(5, .skip),(6, .skip),(7, .skip),(8, .skip),(9, .skip),(10, .skip),(11, .skip),(12, .skip),(13, .skip),(14, .skip),(15, .skip),(16, .skip),(17, .skip),(18, .skip),(19, .skip),(20, .skip),(21, .skip),(22, .skip),(23, .skip)] } [] ⟨hb,(fun h=>Bool.noConfusion (show true=false from h.1)),hb,(fun h=>Bool.noConfusion (show true=false from h.1)),hb,(fun h=>Bool.noConfusion (show true=false from h.1)),hb,(fun h=>Bool.noConfusion (show true=false from h.1)),hb,(fun h=>Bool.noConfusion (show true=false from h.1)),hb,(fun h=>Bool.noConfusion (show true=false from h.1)),hb,(fun h=>Bool.noConfusion (show true=false from h.1)),hb,(fun h=>Bool.noConfusion (show true=false from h.1)),hb,(fun h=>Bool.noConfusion (show true=false from h.1)),hb,(fun h=>Bool.noConfusion (show true=false from h.1)),hb,(fun h=>Bool.noConfusion (show true=false from h.1)),hb,(fun h=>Bool.noConfusion (show true=false from h.1)),hb,(fun h=>Bool.noConfusion (show true=false from h.1)),hb,(fun h=>Bool.noConfusion (show true=false from h.1)),hb,(fun h=>Bool.noConfusion (show true=false from h.1)),hb,(fun h=>Bool.noConfusion (show true=false from h.1)),hb,(fun h=>Bool.noConfusion (show true=false from h.1)),hb,(fun h=>Bool.noConfusion (show true=false from h.1)),hb,(fun h=>Bool.noConfusion (show true=false from h.1)),hb,(fun h=>Bool.noConfusion (show true=false from h.1)),hb,trivial⟩ (cO.le (st':=⟨[(4,vB true)],[]⟩) ⟨⟨⟨_,rfl,eB.v (fG.one (eZ.of (congrArg (fun b=>CV.d (.bool b)) (Gz hb))))⟩,trivial⟩,trivial⟩) ?_
  refine aR ?_
  obtain rfl:=oi h
  exact rl [sB true]
 ·skip
  refine bE h fun r_ hr_ h=> ?_
  refine bE h fun u0 hr_1 h=> ?_
  refine di tT mX ⟨[(4,vB (bif (!b.there)then true else(decide (u0<0))))],[]⟩ [(!b.there)=false,(!b.there)=false,(!b.there)=false,(!b.there)=false,(!b.there)=false,(!b.there)=false,(!b.there)=false,(!b.there)=false,(!b.there)=false,(!b.there)=false,(!b.there)=false,(!b.there)=false,(!b.there)=false,(!b.there)=false,(!b.there)=false,(!b.there)=false,(!b.there)=false,gP (gY [(3,false)]) [(3,false)]→All [Fn Try.prog 111 [sD (bJ none 1 (aT .i64) a.ai),sD (bJ none 1 (aT .i64) b.ai)] [] (vI r_) []],(!b.there)=false,gP (gY [(3,false)]) [(3,false)]→All [[PI a b,PD a b,r_].length=3,aZ 3 1 (kg 1 [.int .i64 (PI a b),.int .i64 (PD a b),.int .i64 r_]) (ajD a b r_)],gP (gY [(3,false)]) [(3,false)],(!b.there)=false,gP (gY [(3,false)]) [(3,false)]→All [Fn Try.prog 110 [.one (.own 6 true ([PI a b,PD a b,r_].length))] (aks a b r_) (vI u0) (aks a b r_)],(!b.there)=false,(!b.there)=false] {yb:=[(3,false)],an:=[(20, .call [] (vI r_) []),(21, .arr [PI a b,PD a b,r_].length (ajD a b r_)),(22, .callR [6] (vI u0))],fr:=[(21,6)] } [] ⟨hb,hb,hb,hb,hb,hb,hb,hb,hb,hb,hb,hb,hb,hb,hb,hb,hb,(fun hg=> ⟨Gp a.ai b.ai hr_,trivial⟩),hb,(fun hg=> ⟨rfl,(by intro i hi j hj;match i,j,hi,hj with|0,0,_,_=>rfl|1,0,_,_=>rfl|2,0,_,_=>rfl),trivial⟩),⟨rfl,trivial⟩,hb,(fun hg=> ⟨Fn.zy (frz:=[6]) (p:=[[PI a b,PD a b,r_].length=[PI a b,PD a b,r_].length]) (Fn.le (args':=[sD (bJ (some true) 1 (aT .i64) [PI a b,PD a b,r_])]) (Vh [PI a b,PD a b,r_] hr_1) ⟨fG.one (eZ.d iM.qB),trivial⟩) (by kernel_rfl) ⟨rfl,trivial⟩ rfl,trivial⟩),hb,hb,trivial⟩ (cO.le (st':=⟨[(4,vB (decide (u0<0)))],[]⟩) ⟨⟨⟨_,rfl,eB.v (fG.one (eZ.of (congrArg (fun b=>CV.d (.bool b)) (FV hb))))⟩,trivial⟩,trivial⟩) ?_
  refine aR ?_
  obtain rfl:=oi h
  exact rl [sB (decide (u0<0))]
def uY  :(List Way)→Exit→St→Prop:=
  fun r=>bL TT [.tmp 6] (vO 0 true r.length) [(0,some (bW 141 3 Way.cell r))]
section
variable (u0:List Way) (p:au) (s_:aA) (u1:Bool)
abbrev tX:Nat × TV:=(7,vD (.fn 109 0 (qC [])))
abbrev zQ:Nat × TV:=(8,vO 405 true u0.length)
abbrev PX:Nat × Option Ob:=(403,some (k50 p))
abbrev E8:List (Nat × Option Ob):=[PX p,(405,some (bW 141 3 Way.cell u0))]
abbrev ahM:St:=⟨[(3,vP 403 0),bG s_,tX,zQ u0,(9,vB u1)],E8 u0 p⟩
end
def AJ (p:au) (s_:aA):((List Way) × Bool)→St:=
  fun zz=>match zz with|(u0,u1)=>(ahM u0 p s_ u1)
def Aj  :(List Way)→St:=
  fun u0=> ⟨[zQ u0],[(405,some (bW 141 3 Way.cell u0))]⟩
def sP (p:au) (s_:aA):(aY ((List Way) × Bool) (Ex (List Way) (List Way)))→Exit→St→Prop:=
  LQ 0 [] (AJ p s_) Aj uY
section
variable (p:au) (s_:aA) (u0:List Way) (u1:Bool) (u2:Int)
abbrev Br:Nat × TV:=(26,vD (k24 p))
abbrev BD:Nat × TV:=(27,vI (p.ai.length:Int))
abbrev agv:St:=⟨[(3,vP 403 0),bG s_,tX,zQ u0,(9,vB u1),Br p,BD p,(28,vI u2)],E8 u0 p⟩
end
def Au (p:au) (s_:aA):((List Way) × Bool × Int)→St:=
  fun zz=>match zz with|(u0,u1,u2)=>(agv p s_ u0 u1 u2)
def zX (p:au) (s_:aA):((List Way) × Bool)→St:=
  fun zz=>match zz with|(u0,u1)=>(ahM u0 p s_ u1)
def tF (p:au) (s_:aA):(aY ((List Way) × Bool × Int) (Ex ((List Way) × Bool) (aY ((List Way) × Bool) (Ex (List Way) (List Way)))))→Exit→St→Prop:=
  LQ 2 [1] (Au p s_) (zX p s_) (sP p s_)
section
variable (p:au) (u0:Int)
abbrev ahv:List CV:=[cI ((at' p.ai u0.toNat).a),cI ((at' p.ai u0.toNat).b),cI ((at' p.ai u0.toNat).b),cI ((at' p.ai u0.toNat).a)]
abbrev JB:Nat × TV:=(48,.v (.agg (ahv p u0)))
end
def zY (p:au) (s_:aA) (u0:Int):((List Way) × Bool × Int)→St:=
  fun zz=>match zz with|(u1,u2,u3)=> ⟨[(3,vP 403 0),bG s_,tX,zQ u1,(9,vB u2),(10,vI u0),EX p u0,Br p,BD p,(28,vI u0),JB p u0,(49,vI u3)],E8 u1 p⟩
def Ac (p:au) (s_:aA) (u1:Int):((List Way) × Bool)→St:=
  fun zz=>match zz with|(u0,u2)=>(agv p s_ u0 u2 u1)
def Je (p:au) (s_:aA) (u0:Int):(aY ((List Way) × Bool × Int) (Ex ((List Way) × Bool) (aY ((List Way) × Bool × Int) (Ex ((List Way) × Bool) (aY ((List Way) × Bool) (Ex (List Way) (List Way)))))))→Exit→St→Prop:=
  LQ 4 [3] (zY p s_ u0) (Ac p s_ u0) (tF p s_)
section
variable (p:au) (u3:Int) (s_:aA) (u5:List Way) (u8:Bool) (u0:Int) (u1:Int) (u2:List Way) (u6:Bool) (u4:List Int)
abbrev aln:List (Nat × Option Ob):=[PX p]
abbrev NK:=(List.replicate p.ax.toNat ((⟨false,0,([]:List Int)⟩:Way):Way))
abbrev anz:Nat × TV:=(8,vO 405 true ((NK p).length))
abbrev amo:List (Nat × TV):=[(2,vI u3),(3,vP 403 0),bG s_,tX,anz p]
abbrev ah0:=((NK p).set u3.toNat (⟨true,(at' (NK p) u3.toNat).gM,(at' (NK p) u3.toNat).ai⟩:Way))
abbrev agn:=(aS Way.cell (ah0 p u3))
abbrev aiQ:Nat × TV:=(8,vO 405 true ((ah0 p u3).length))
abbrev alY:List (Nat × Option Ob):=[PX p,(405,some (bW 141 3 Way.cell (ah0 p u3)))]
abbrev alM:St:=⟨[(3,vP 403 0),bG s_,tX,zQ u5,(9,vB u8),Br p,BD p,(28,k3 u0)],E8 u5 p⟩
abbrev ahg:=(⟨(at' p.ai u0.toNat).a,(at' p.ai u0.toNat).b⟩:aj)
abbrev agM:=(⟨(at' p.ai u0.toNat).b,(at' p.ai u0.toNat).a⟩:aj)
abbrev alX:=(at' [ahg p u0,agM p u0] u1.toNat)
abbrev afJ:=((alX p u0 u1).e0)
abbrev aey:=((alX p u0 u1).e1)
abbrev akc:List DV:=[.int .i64 (afJ p u0 u1),.int .i64 (aey p u0 u1)]
abbrev ahu:=(at' u2 ((afJ p u0 u1).toNat))
abbrev akf:=((ahu p u0 u1 u2).there)
abbrev aiE:=((ahu p u0 u1 u2).gM)
abbrev alv:=((ahu p u0 u1 u2).ai)
abbrev ak9:Nat × TV:=(14,vD (ow [.bool (akf p u0 u1 u2),.int .i64 (aiE p u0 u1 u2),bJ none 1 (aT .i64) (alv p u0 u1 u2)] 0))
abbrev abV:Nat × TV:=(15,vI (aey p u0 u1))
abbrev amN:St:=⟨[(3,vP 403 0),bG s_,tX,zQ u2,(9,vB u6),(10,vI u0),EX p u0,Br p,BD p,(28,vI u0),JB p u0,(49,k3 u1)],E8 u2 p⟩
abbrev agV:=(IntKind.wrap .i64 ((aiE p u0 u1 u2)+((at' p.ai u0.toNat).gM)))
abbrev alx:List DV:=[.bool true,.int .i64 (agV p u0 u1 u2),bJ none 1 (aT .i64) (u4++[u0])]
abbrev ai9:Nat × TV:=(16,vD (ow (alx p u0 u1 u2 u4) 0))
abbrev akU:=(⟨true,agV p u0 u1 u2,u4++[u0]⟩:Way)
abbrev ahR:=((aey p u0 u1).toNat)
abbrev agO:=(u2.set (ahR p u0 u1) (akU p u0 u1 u2 u4))
abbrev ahd:=(aS Way.cell (agO p u0 u1 u2 u4))
abbrev afG:Nat × TV:=(8,vO 405 true ((agO p u0 u1 u2 u4).length))
abbrev ahK:List (Nat × Option Ob):=[PX p,(405,some (bW 141 3 Way.cell (agO p u0 u1 u2 u4)))]
end
theorem Kh (p:au) (s_:aA) (u3:Int) {r:List Way} (h:Ew p s_ u3=some r):Fn Try.prog 66 (Rh p s_ u3) [] (vO 0 true r.length) [(0,some (bW 141 3 Way.cell r))]:=by
 refine fN tT Try.func66 rfl rfl fun B=> ?_
 show bR _ _ _ _ _ _ (uY r) _
 unfold Ew at h
 refine sz tT ⟨[(2,vI u3),(3,vP 403 0),bG s_],aln p⟩ {fr:=[(0,403),(1,404)] } [404] ?_
 refine sz tT ⟨[(2,vI u3),(3,vP 403 0),bG s_,tX],aln p⟩ {} [] ?_
 refine aQ (aO h fun⟨a1,a2,a3⟩ h=> ?_)
 refine ri tT ⟨amo p u3 s_,[PX p,(405,some (.arr 141 3 (NK p).length (fun _ j=>[.bool false,.int .i64 0,nS].getD j .nilp)))]⟩ [_,(p.ax:Int)=p.ax,_,_,(NK p).length=p.ax.toNat,aZ p.ax.toNat 3 (fun _ j=>[.bool false,.int .i64 0,nS].getD j .nilp) (fun _ j=>[.bool false,.int .i64 0,nS].getD j .nilp)] {an:=[(2, .arr (NK p).length (fun _ j=>[.bool false,.int .i64 0,nS].getD j .nilp))],fr:=[(2,405)] } [] ⟨a1,rfl,a2,a3,List.length_replicate,fQ _ _ _,trivial⟩ (cO.le (st':=⟨amo p u3 s_,[PX p,(405,some (bW 141 3 Way.cell (NK p)))]⟩) ⟨⟨tR,tR,tR,tR,tR,trivial⟩,⟨rfl, .refl _,⟨rfl,XJ (aiN _ _ _ _ _ (fun j hj=>match j,hj with|0,_=> .refl _|1,_=> .refl _|2,_=>iM.nil')),trivial⟩⟩⟩) ?_
 refine aQ (aO h fun a1 h=> ?_)
 refine ri tT ⟨[(3,vP 403 0),bG s_,tX,anz p],[PX p,(405,some (.arr 141 3 (NK p).length (agn p u3)))]⟩ [_,_,aZ (NK p).length 3 (lZ (aS Way.cell (NK p)) u3.toNat 0 [.bool true]) (agn p u3)] {an:=[(4, .arr 0 (agn p u3))] } [] ⟨a1,tL a1,dA _ _ _ _ _ _ _ _ rfl (fun j hj=>(match j,hj with|0,_=>rfl|1,_=>rfl|2,_=>rfl)),trivial⟩ (cO.le (st':=⟨[(3,vP 403 0),bG s_,tX,aiQ p u3],alY p u3⟩) ⟨⟨tR,tR,tR,⟨_,rfl,eB.v (fG.one cW)⟩,trivial⟩,⟨rfl, .refl _,⟨rfl,oW,trivial⟩⟩⟩) ?_
 refine aQ (sz tT ⟨[(3,vP 403 0),bG s_,tX,aiQ p u3,(9,vB true)],alY p u3⟩ {} [] ?_)
 refine bE h fun y2 hy h=> ?_
 refine aL [] (AJ p s_) Aj uY hy (fun s f h=> ?_) ?_
 ·clear hy
  show bR _ _ _ _ _ _ ((sP p s_) f) _
  unfold Fg at h
  obtain⟨u7,v1⟩:=s
  refine aQ (sz tT ⟨[(3,vP 403 0),bG s_,tX,zQ u7,(24,vB v1)],E8 u7 p⟩ {} [] ?_)
  refine bI h (fun hb5 h=> ?_) (fun hb5 h=> ?_)
  ·refine ct hb5 ?_
   refine aP (aB (sz tT ⟨[(3,vP 403 0),bG s_,tX,zQ u7,(9,vB false)],E8 u7 p⟩ {} [] ?_))
   refine sz tT ⟨[(3,vP 403 0),bG s_,tX,zQ u7,(9,vB false),Br p,BD p,(28,vI 0)],E8 u7 p⟩ {} [] ?_
   refine bE h fun y1 hy h=> ?_
   refine aL [1] (Au p s_) (zX p s_) (sP p s_) hy (fun s f h=> ?_) ?_
   ·clear hy
    show bR _ _ _ _ _ _ ((tF p s_) f) _
    unfold Fv at h
    obtain⟨u5,u8,u0⟩:=s
    refine sz tT ⟨[(3,vP 403 0),bG s_,tX,zQ u5,(9,vB u8),Br p,BD p,(28,vI u0),(29,k65 p u0)],E8 u5 p⟩ {} [] ?_
    refine aQ ?_
    refine bI h (fun hb4 h=> ?_) (fun hb4 h=> ?_)
    ·refine ct hb4 ?_
     refine aP (aQ (aB (aQ (aO h fun a1 h=> ?_))))
     refine rg tT ⟨[(3,vP 403 0),bG s_,tX,zQ u5,(9,vB u8),(10,vI u0),EX p u0,Br p,BD p,(28,vI u0)],E8 u5 p⟩ [_] {fr:=[(3,781)] } [781] ⟨a1,trivial⟩ ?_
     refine aQ (aQ (bE h fun r_ hr_ h=> ?_))
     have q0:=fA p s_ u0 hr_
     refine rg tT ⟨[(3,vP 403 0),bG s_,tX,zQ u5,(9,vB u8),(10,vI u0),EX p u0,Br p,BD p,(28,vI u0),(37,vB (!r_))],E8 u5 p⟩ [_] {an:=[(3,cA q0 [])] } [] ⟨q0,trivial⟩ ?_
     refine bI h (fun hb3 h=> ?_) (fun hb3 h=> ?_)
     ·refine ct hb3 ?_
      refine aX (rz tT (alM p s_ u5 u8 u0) {} [] ?_)
      obtain rfl:=oi h
      exact lN
     ·refine cf hb3 ?_
      refine aP (sz tT ⟨[(3,vP 403 0),bG s_,tX,zQ u5,(9,vB u8),(10,vI u0),EX p u0,Br p,BD p,(28,vI u0),JB p u0,(49,vI 0)],E8 u5 p⟩ {} [] ?_)
      refine bE h fun y hy h=> ?_
      refine aL [3] (zY p s_ u0) (Ac p s_ u0) (tF p s_) hy (fun s f h=> ?_) ?_
      ·clear hy
       show bR _ _ _ _ _ _ ((Je p s_ u0) f) _
       unfold FC at h
       obtain⟨u2,u6,u1⟩:=s
       refine sz tT ⟨[(3,vP 403 0),bG s_,tX,zQ u2,(9,vB u6),(10,vI u0),EX p u0,Br p,BD p,(28,vI u0),JB p u0,(49,vI u1),(50,vB (decide (u1<2)))],E8 u2 p⟩ {} [] ?_
       refine aQ ?_
       refine bI h (fun hb2 h=> ?_) (fun hb2 h=> ?_)
       ·refine ct hb2 ?_
        refine aP (aQ (aB (aQ (aO h fun a1 h=> ?_))))
        refine rg tT ⟨[(3,vP 403 0),bG s_,tX,zQ u2,(9,vB u6),(10,vI u0),EX p u0,(13,vP 800 0),Br p,BD p,(28,vI u0),JB p u0,(49,vI u1)],[PX p,(405,some (bW 141 3 Way.cell u2)),(800,some (.cells 164 [cI (afJ p u0 u1),cI (aey p u0 u1)]))]⟩ [_,u1.toNat*2+2≤(ahv p u0).length,((ahv p u0).drop (u1.toNat*2)).take 2=(akc p u0 u1).map .d] {an:=[(0, .vals (akc p u0 u1))],fr:=[(1,800)] } [] ⟨a1,abz (n:=2) (sz:=2) (Nat.le_refl _) a1,aan (n:=2) (sz:=2) (g:=fun q=>[cI ((at' [ahg p u0,agM p u0] q).e0),cI ((at' [ahg p u0,agM p u0] q).e1)]) (by intro q hq;match q,hq with|0,_=>rfl|1,_=>rfl) a1,trivial⟩ ?_
        refine aQ (aO h fun a1 h=> ?_)
        refine dg tT mX ⟨[(3,vP 403 0),bG s_,tX,zQ u2,(9,vB u6),(10,vI u0),EX p u0,ak9 p u0 u1 u2,abV p u0 u1,Br p,BD p,(28,vI u0),JB p u0,(49,vI u1)],E8 u2 p⟩ [(0:Int)≤0∧(0:Int)<(2:Nat),_,_,(0:Int)≤1∧(1:Int)<(2:Nat)] {fr:=[(7,801)] } [801] ⟨(by decide),a1,tL a1,(by decide),trivial⟩ ?_
        refine aQ (sz tT ⟨[(3,vP 403 0),bG s_,tX,zQ u2,(9,vB u6),(10,vI u0),EX p u0,ak9 p u0 u1 u2,abV p u0 u1,Br p,BD p,(28,vI u0),JB p u0,(49,vI u1),(61,vB (!(akf p u0 u1 u2)))],E8 u2 p⟩ {} [] ?_)
        refine bI h (fun hb1 h=> ?_) (fun hb1 h=> ?_)
        ·refine ct hb1 ?_
         refine aX (rz tT (amN p s_ u0 u1 u2 u6) {} [] ?_)
         obtain rfl:=oi h
         exact lN
        ·refine cf hb1 ?_
         refine aP (aQ (bE h fun u4 hr_1 h=> ?_))
         refine aO h fun⟨a1,a2⟩ h=> ?_
         have q0:=rk [(0,802)] (zP (alv p u0 u1 u2) hr_1)
         refine di tT mX ⟨[(3,vP 403 0),bG s_,tX,zQ u2,(9,vB u6),(10,vI u0),EX p u0,abV p u0 u1,(16,vP 805 0),Br p,BD p,(28,vI u0),JB p u0,(49,vI u1)],[PX p,(405,some (bW 141 3 Way.cell u2)),(805,some (.cells 141 [cB true,cI (agV p u0 u1 u2),.d (bJ none 1 (aT .i64) (u4++[u0]))]))]⟩ [_,[u0].length=1,aZ 1 1 (kg 1 [.int .i64 u0]) (aS (aT .i64) [u0]),u4.length=u4.length,_,_,(u4++[u0]).length=u4.length+[u0].length,aZ (u4.length+[u0].length) 1 (Ff (aS (aT .i64) u4) u4.length (aS (aT .i64) [u0])) (aS (aT .i64) (u4++[u0])),(u4++[u0]).length=(u4++[u0]).length] {an:=[(7,cA q0 []),(9, .arr [u0].length (aS (aT .i64) [u0])),(10, .arr (u4++[u0]).length (aS (aT .i64) (u4++[u0])))],fr:=[(9,803),(10,804),(12,805)] } [804] ⟨q0,rfl,(by intro i hi j hj;match i,j,hi,hj with|0,0,_,_=>rfl),rfl,a1,a2,List.length_append,kz _ _ _ _,rfl,trivial⟩ (fz ⟨[(3,vP 403 0),bG s_,tX,zQ u2,(9,vB u6),(10,vI u0),EX p u0,abV p u0 u1,ai9 p u0 u1 u2 u4,Br p,BD p,(28,vI u0),JB p u0,(49,vI u1)],E8 u2 p⟩ [805]) ?_
         refine aQ (bE h fun v2 hr_2 h=> ?_)
         refine aO h fun a1 h=> ?_
         have q2:=Ll (akU p u0 u1 u2 u4) (at' u2 (ahR p u0 u1)) hr_2
         refine dg tT mX ⟨[(3,vP 403 0),bG s_,tX,zQ u2,(9,vB u6),(10,vI u0),EX p u0,abV p u0 u1,ai9 p u0 u1 u2 u4,Br p,BD p,(28,vI u0),JB p u0,(49,vI u1),(80,vB v2)],E8 u2 p⟩ [_,_,_] {an:=[(6,cA q2 [])] } [] ⟨a1,tL a1,q2,trivial⟩ ?_
         refine bI h (fun hb h=> ?_) (fun hb h=> ?_)
         ·refine ct hb ?_
          refine aQ (aO h fun a1 h=> ?_)
          refine ri tT ⟨[(3,vP 403 0),bG s_,tX,zQ u2,(10,vI u0),EX p u0,Br p,BD p,(28,vI u0),JB p u0,(49,vI u1)],[PX p,(405,some (.arr 141 3 u2.length (ahd p u0 u1 u2 u4)))]⟩ [_,_,aZ u2.length 3 (lZ (aS Way.cell u2) (ahR p u0 u1) 0 (alx p u0 u1 u2 u4)) (ahd p u0 u1 u2 u4)] {an:=[(4, .arr 0 (ahd p u0 u1 u2 u4))] } [] ⟨a1,tL a1,dA _ _ _ _ _ _ _ _ rfl (fun j hj=>(match j,hj with|0,_=>rfl|1,_=>rfl|2,_=>rfl)),trivial⟩ (cO.le (st':=⟨[(3,vP 403 0),bG s_,tX,afG p u0 u1 u2 u4,(10,vI u0),EX p u0,Br p,BD p,(28,vI u0),JB p u0,(49,vI u1)],ahK p u0 u1 u2 u4⟩) ⟨⟨tR,tR,tR,⟨_,rfl,eB.v (fG.one cW)⟩,tR,tR,tR,tR,tR,tR,tR,trivial⟩,⟨rfl, .refl _,⟨rfl,oW,trivial⟩⟩⟩) ?_
          refine rz tT ⟨[(3,vP 403 0),bG s_,tX,afG p u0 u1 u2 u4,(9,vB true),(10,vI u0),EX p u0,Br p,BD p,(28,vI u0),JB p u0,(49,vI u1)],ahK p u0 u1 u2 u4⟩ {} [] ?_
          refine rz tT ⟨[(3,vP 403 0),bG s_,tX,afG p u0 u1 u2 u4,(9,vB true),(10,vI u0),EX p u0,Br p,BD p,(28,vI u0),JB p u0,(49,k3 u1)],ahK p u0 u1 u2 u4⟩ {} [] ?_
          obtain rfl:=oi h
          exact lN
         ·refine cf hb ?_
          refine aP (rz tT (amN p s_ u0 u1 u2 u6) {} [] ?_)
          obtain rfl:=oi h
          exact lN
       ·refine cf hb2 ?_
        refine aI (fz (agv p s_ u2 u6 u0) []) ?_
        refine aX ?_
        obtain rfl:=oi h
        exact lB
      ·clear hy
       cases y with
       |brk z=>
        obtain⟨v0,v3⟩:=z
        unfold dZ
        refine⟨_, .refl, ?_⟩
        refine rz tT (alM p s_ v0 v3 u0) {} [] ?_
        obtain rfl:=oi h
        exact lN
       |ret v=>
        obtain rfl:=oi h
        unfold dZ
        intro e st hn ha hR
        cases e with
        |normal=>exact absurd rfl hn
        |exit id=>simp only [qW (b:=3) ha rfl,cond_false];exact hR
        |goto l=>exact hR
        |ret=>exact hR
        |panic c=>exact hR
        |outgrown=>exact hR
    ·refine cf hb4 ?_
     refine aI (fz (ahM u5 p s_ u8) []) ?_
     refine aX ?_
     obtain rfl:=oi h
     exact lB
   ·clear hy
    cases y1 with
    |brk z=>
     obtain⟨v4,v5⟩:=z
     unfold dZ
     refine⟨_, .refl, ?_⟩
     obtain rfl:=oi h
     exact lN
    |ret v=>
     obtain rfl:=oi h
     unfold dZ
     intro e st hn ha hR
     cases e with
     |normal=>exact absurd rfl hn
     |exit id=>simp only [qW (b:=1) ha rfl,cond_false];exact hR
     |goto l=>exact hR
     |ret=>exact hR
     |panic c=>exact hR
     |outgrown=>exact hR
  ·refine cf hb5 ?_
   refine aI (fz ⟨[zQ u7],[(405,some (bW 141 3 Way.cell u7))]⟩ []) ?_
   refine aX ?_
   obtain rfl:=oi h
   exact lB
 ·clear hy
  cases y2 with
  |brk z=>
   obtain⟨u9,rfl⟩: ∃q,q=z:=⟨_,rfl⟩
   unfold dZ
   refine⟨_, .refl, ?_⟩
   refine sz tT ⟨[(6,vO 405 true u9.length)],[(405,some (bW 141 3 Way.cell u9))]⟩ {} [] ?_
   refine aI (cO.fin (st':=⟨[(6,vO 0 true u9.length)],[(0,some (bW 141 3 Way.cell u9))]⟩) (cs:=[]) ⟨[],[(405,0)]⟩ [6] (by kernel_rfl) trivial) ?_
   refine aR ?_
   obtain rfl:=oi h
   exact rl [.one (.own 0 true u9.length)]
  |ret v=>
   obtain rfl:=oi h
   unfold dZ
   intro e st hn ha hR
   cases e with
   |normal=>exact absurd rfl hn
   |exit id=>exact hR
   |goto l=>exact hR
   |ret=>exact hR
   |panic c=>exact hR
   |outgrown=>exact hR
def vW  :((List aJ) × Int)→Exit→St→Prop:=
  fun r=>bL TT [.tmp 6, .tmp 7] (.jl [sD (bJ none 4 aJ.cell r.1),sI r.2]) []
section
variable (u0:List aJ) (p:au)
abbrev PS:Nat × TV:=(9,vO 28 false u0.length)
abbrev JC:Nat × TV:=(29,vD (k23 p))
abbrev JF:Nat × TV:=(30,vI (p.ah.length:Int))
abbrev Qc:List (Nat × Option Ob):=[(28,some (bW 47 4 aJ.cell u0))]
end
def BR (p:au) (s_:aA) (u1:Int):((List aJ) × Int)→St:=
  fun zz=>match zz with|(u0,u2)=> ⟨[(2,vI u1),bg p,bG s_,PS u0,JC p,JF p,(31,vI u2)],Qc u0⟩
def Cq  :(List aJ)→St:=
  fun u0=> ⟨[PS u0],Qc u0⟩
def Kz (p:au) (s_:aA) (u0:Int):(aY ((List aJ) × Int) (Ex (List aJ) ((List aJ) × Int)))→Exit→St→Prop:=
  LQ 0 [] (BR p s_ u0) Cq vW
section
variable (p:au) (u1:Int) (u0:Int) (s_:aA) (u3:List aJ) (u2:List Way)
abbrev aae:List (Nat × Option Ob):=[(22,some (k50 p))]
abbrev ad1:Nat × TV:=(11,k54 p u1)
abbrev amC:St:=⟨[(2,vI u0),bg p,bG s_,PS u3,JC p,JF p,(31,k3 u1)],Qc u3⟩
abbrev ahm:Nat × TV:=(12,vD (ow [.bool ((at' u2 u0.toNat).there),.int .i64 ((at' u2 u0.toNat).gM),bJ none 1 (aT .i64) ((at' u2 u0.toNat).ai)] 0))
abbrev acG:=(IntKind.wrap .i64 (((at' p.ah u1.toNat).gM)+((at' u2 u0.toNat).gM)))
abbrev alC:=(IntKind.wrap .i64 (Int.tdiv (IntKind.wrap .i64 ((IntKind.wrap .i64 ((400000:Int)+(acG p u1 u0 u2))) - 1)) (acG p u1 u0 u2)))
abbrev ZN:=(⟨u1,acG p u1 u0 u2,alC p u1 u0 u2,(at' u2 u0.toNat).ai⟩:aJ)
abbrev acw:=(u3++[ZN p u1 u0 u2])
abbrev ak5:=((acw p u1 u0 u3 u2).length)
abbrev amO:Nat × TV:=(9,vO 43 false (ak5 p u1 u0 u3 u2))
abbrev alg:Ob:=(bW 47 4 aJ.cell (acw p u1 u0 u3 u2))
abbrev aje:List (Nat × Option Ob):=[(43,some (alg p u1 u0 u3 u2))]
abbrev aij:=(aS aJ.cell [ZN p u1 u0 u2])
abbrev amJ:=(aS aJ.cell (acw p u1 u0 u3 u2))
end
theorem qa (p:au) (s_:aA) (u0:Int) {r:(List aJ) × Int} (h:nJ p s_ u0=some r):Fn Try.prog 17 (Rh p s_ u0) [] (.jl [sD (bJ none 4 aJ.cell r.1),sI r.2]) []:=by
 refine fN tT Try.func17 rfl rfl fun B=> ?_
 show bR _ _ _ _ _ _ (vW r) _
 unfold nJ at h
 refine sz tT ⟨[(2,vI u0),(3,vP 22 0),bG s_],aae p⟩ {fr:=[(0,22),(1,23)] } [23] ?_
 refine aQ (aQ (bE h fun r_ hr_ h=> ?_))
 have q0:=iD p s_ hr_
 refine rg tT ⟨[(2,vI u0),(3,vP 22 0),bG s_,(8,vI r_)],aae p⟩ [_] {an:=[(2,cA q0 [])] } [] ⟨q0,trivial⟩ ?_
 refine sz tT ⟨[(2,vI u0),(3,vP 22 0),bG s_,(8,vI r_),(18,vB (!decide (r_=0)))],aae p⟩ {} [] ?_
 refine bI h (fun hb4 h=> ?_) (fun hb4 h=> ?_)
 ·refine ct hb4 ?_
  refine sz tT ⟨[(6,vD nS),(7,vI r_)],[]⟩ {} [] ?_
  refine aI (cO.le (st':=⟨[(6,vD (bJ none 4 aJ.cell ([]:List aJ))),(7,vI r_)],[]⟩) ⟨⟨⟨_,rfl,eB.v (fG.one (eZ.d iM.nil'))⟩,tR,trivial⟩,trivial⟩) ?_
  refine aR ?_
  obtain rfl:=oi h
  exact rl [sD (bJ none 4 aJ.cell ([]:List aJ)),sI r_]
 ·refine cf hb4 ?_
  refine aP (aQ (sg tT ⟨[(2,vI u0),(3,vP 22 0),bG s_,(27,vB (bif (decide (u0<0))then true else(decide (p.ax≤u0))))],aae p⟩ (eqs (decide (u0<0)) 5 []) {yb:=[(2,decide (u0<0))] } [] (ae trivial) ?_))
  refine bI h (fun hb3 h=> ?_) (fun hb3 h=> ?_)
  ·refine ct hb3 ?_
   refine sz tT ⟨[(6,vD nS),(7,vI 1)],[]⟩ {} [] ?_
   refine aI (cO.le (st':=⟨[(6,vD (bJ none 4 aJ.cell ([]:List aJ))),(7,vI 1)],[]⟩) ⟨⟨⟨_,rfl,eB.v (fG.one (eZ.d iM.nil'))⟩,tR,trivial⟩,trivial⟩) ?_
   refine aR ?_
   obtain rfl:=oi h
   exact rl [sD (bJ none 4 aJ.cell ([]:List aJ)),sI 1]
  ·refine cf hb3 ?_
   refine aP (sz tT ⟨[(2,vI u0),(3,vP 22 0),bG s_,(9,vD nS)],aae p⟩ {} [] ?_)
   refine aQ (sz tT ⟨[(2,vI u0),bg p,bG s_,(9,vD nS),JC p,JF p,(31,vI 0)],[]⟩ {} [22] ?_)
   refine bE h fun y hy h=> ?_
   refine aI (.trans (cO.UF (t:=9) (b:=44) (esz0:=0) (el0:=fun _ _=> .nilp) (E:=47) (esz:=4) (el:=aS aJ.cell ([]:List aJ)) (by kernel_rfl) (by kernel_rfl)) (.trans (cO.fin (st':=⟨[(2,vI u0),bg p,bG s_,(9,vO 28 false 0),JC p,JF p,(31,vI 0)],[(28,some (.arr 47 4 0 (aS aJ.cell ([]:List aJ))))]⟩) (cs:=[]) ⟨[],[(44,28)]⟩ [2,3,4,9,29,30,31] (by kernel_rfl) trivial) (cO.le (st':=⟨[(2,vI u0),bg p,bG s_,(9,vO 28 false (([]:List aJ).length)),JC p,JF p,(31,vI 0)],[(28,some (bW 47 4 aJ.cell ([]:List aJ)))]⟩) ⟨⟨tR,tR,tR,⟨_,rfl,eB.v (fG.one cW)⟩,tR,tR,tR,trivial⟩,⟨rfl,oW,trivial⟩⟩))) ?_
   refine aL [] (BR p s_ u0) Cq vW hy (fun s f h=> ?_) ?_
   ·clear hy
    show bR _ _ _ _ _ _ ((Kz p s_ u0) f) _
    unfold Ct at h
    obtain⟨u3,u1⟩:=s
    refine sz tT ⟨[(2,vI u0),bg p,bG s_,PS u3,JC p,JF p,(31,vI u1),(32,k53 p u1)],Qc u3⟩ {} [] ?_
    refine aQ ?_
    refine bI h (fun hb2 h=> ?_) (fun hb2 h=> ?_)
    ·refine ct hb2 ?_
     refine aP (aQ (aB (aQ (aO h fun a1 h=> ?_))))
     refine rg tT ⟨[(2,vI u0),bg p,bG s_,PS u3,(10,vI u1),ad1 p u1,JC p,JF p,(31,vI u1)],Qc u3⟩ [_] {fr:=[(3,39)] } [39] ⟨a1,trivial⟩ ?_
     refine aQ (aQ (bE h fun u5 hr_1 h=> ?_))
     refine aO h fun a1 h=> ?_
     refine rg tT ⟨[(2,vI u0),bg p,bG s_,PS u3,(10,vI u1),ad1 p u1,JC p,JF p,(31,vI u1),(47,vB (bif (at' s_.aW u0.toNat)then true else(!u5)))],Qc u3⟩ (_::(eqs (at' s_.aW u0.toNat) 4 ((gP (gY [(5,at' s_.aW u0.toNat)]) [(5,false)]→All [Fn Try.prog 65 (Rh p s_ u1) [] (vB u5) []])::(eqs (at' s_.aW u0.toNat) 2 [])))) {yb:=[(5,at' s_.aW u0.toNat)],an:=[(9, .call [] (vB u5) [])] } [] ⟨a1,ae ⟨(fun hg=> ⟨iB p s_ u1 (d9 hr_1 (bC hg)),trivial⟩),ae trivial⟩⟩ ?_
     refine bI h (fun hb1 h=> ?_) (fun hb1 h=> ?_)
     ·refine ct hb1 ?_
      refine aX (rz tT (amC p u1 u0 s_ u3) {} [] ?_)
      obtain rfl:=oi h
      exact lN
     ·refine cf hb1 ?_
      refine aP (aQ (bE h fun u2 hr_2 h=> ?_))
      refine aO h fun a1 h=> ?_
      have q0:=rk [(0,40)] (Kh p s_ (k55 p u1) hr_2)
      refine rg tT ⟨[(2,vI u0),bg p,bG s_,PS u3,(10,vI u1),ad1 p u1,ahm u0 u2,JC p,JF p,(31,vI u1)],Qc u3⟩ [_,_,_] {an:=[(4,cA q0 [])],fr:=[(8,41)] } [41] ⟨q0,a1,tL a1,trivial⟩ ?_
      refine sz tT ⟨[(2,vI u0),bg p,bG s_,PS u3,(10,vI u1),ad1 p u1,ahm u0 u2,JC p,JF p,(31,vI u1),(57,vB ((at' u2 u0.toNat).there))],Qc u3⟩ {} [] ?_
      refine bI h (fun hb h=> ?_) (fun hb h=> ?_)
      ·refine ct hb ?_
       refine sz tT ⟨[(2,vI u0),bg p,bG s_,PS u3,(10,vI u1),ahm u0 u2,(13,vI (acG p u1 u0 u2)),JC p,JF p,(31,vI u1)],Qc u3⟩ {} [] ?_
       refine aO h fun⟨a1,a2,a3⟩ h=> ?_
       refine dg tT mX ⟨[(2,vI u0),bg p,bG s_,amO p u1 u0 u3 u2,JC p,JF p,(31,vI u1)],aje p u1 u0 u3 u2⟩ [_,[ZN p u1 u0 u2].length=1,aZ 1 4 (kg 4 [.int .i64 u1,.int .i64 (acG p u1 u0 u2),.int .i64 (alC p u1 u0 u2),bJ none 1 (aT .i64) ((at' u2 u0.toNat).ai)]) (aij p u1 u0 u2),u3.length=u3.length,_,_,(acw p u1 u0 u3 u2).length=u3.length+[ZN p u1 u0 u2].length,aZ (u3.length+[ZN p u1 u0 u2].length) 4 (Ff (aS aJ.cell u3) u3.length (aij p u1 u0 u2)) (amJ p u1 u0 u3 u2)] {an:=[(11, .arr [ZN p u1 u0 u2].length (aij p u1 u0 u2)),(12, .arr (acw p u1 u0 u3 u2).length (amJ p u1 u0 u3 u2))],fr:=[(11,42),(12,43)] } [] ⟨a1,rfl,(by intro i hi j hj;match i,j,hi,hj with|0,0,_,_=>rfl|0,1,_,_=>rfl|0,2,_,_=>rfl|0,3,_,_=>rfl),rfl,a2,a3,List.length_append,kz _ _ _ _,trivial⟩ ?_
       refine ri tT ⟨[(2,vI u0),bg p,bG s_,amO p u1 u0 u3 u2,JC p,JF p,(31,k3 u1)],aje p u1 u0 u3 u2⟩ [] {} [] trivial (cO.fin (st':=⟨[(2,vI u0),bg p,bG s_,(9,vO 28 false (ak5 p u1 u0 u3 u2)),JC p,JF p,(31,k3 u1)],[(28,some (alg p u1 u0 u3 u2))]⟩) (cs:=[]) ⟨[],[(43,28)]⟩ [2,3,4,9,29,30,31] (by kernel_rfl) trivial) ?_
       obtain rfl:=oi h
       exact lN
      ·refine cf hb ?_
       refine aP (rz tT (amC p u1 u0 s_ u3) {} [] ?_)
       obtain rfl:=oi h
       exact lN
    ·refine cf hb2 ?_
     refine aI (fz ⟨[PS u3],Qc u3⟩ []) ?_
     refine aX ?_
     obtain rfl:=oi h
     exact lB
   ·clear hy
    cases y with
    |brk z=>
     obtain⟨u4,rfl⟩: ∃q,q=z:=⟨_,rfl⟩
     unfold dZ
     refine⟨_, .refl, ?_⟩
     refine sg tT ⟨[(6,vD (bJ none 4 aJ.cell u4)),(7,vI 0)],[]⟩ [u4.length=u4.length] {} [28] ⟨rfl,trivial⟩ ?_
     refine aR ?_
     obtain rfl:=oi h
     exact rl [sD (bJ none 4 aJ.cell u4),sI 0]
    |ret v=>
     obtain rfl:=oi h
     unfold dZ
     intro e st hn ha hR
     cases e with
     |normal=>exact absurd rfl hn
     |exit id=>exact hR
     |goto l=>exact hR
     |ret=>exact hR
     |panic c=>exact hR
     |outgrown=>exact hR
def uV  :Int→Exit→St→Prop:=
  fun r=>bL TT [.tmp 4] (vI r) []
def AA (s_:List Int) (v_:Int):Int→St:=
  fun t8=> ⟨[mr s_,(1,vI v_),rG s_,(8,vI t8)],[]⟩
def Ao  :Unit→St:=
  fun _=> ⟨[],[]⟩
def Ke (s_:List Int) (v_:Int):(aY Int (Ex Unit Int))→Exit→St→Prop:=
  LQ 0 [] (AA s_ v_) Ao uV
theorem Jr (s_:List Int) (v_:Int) {r:Int} (h:yJ s_ v_=some r):Fn Try.prog 114 [sD (Dk s_),sI v_] [] (vI r) []:=by
 refine fN tT Try.func114 rfl rfl fun B=> ?_
 show bR _ _ _ _ _ _ (uV r) _
 unfold yJ at h
 refine sz tT ⟨[mr s_,(1,vI v_)],[]⟩ {} [] ?_
 refine aQ (sz tT ⟨[mr s_,(1,vI v_),rG s_,(8,vI 0)],[]⟩ {} [] ?_)
 refine bE h fun y hy h=> ?_
 refine aL [] (AA s_ v_) Ao uV hy (fun s f h=> ?_) ?_
 ·clear hy
  show bR _ _ _ _ _ _ ((Ke s_ v_) f) _
  unfold Az at h
  obtain⟨t8,rfl⟩: ∃q,q=s:=⟨_,rfl⟩
  refine sz tT ⟨[mr s_,(1,vI v_),rG s_,(8,vI t8),aay t8 s_],[]⟩ {} [] ?_
  refine aQ ?_
  refine bI h (fun hb1 h=> ?_) (fun hb1 h=> ?_)
  ·refine ct hb1 ?_
   refine aP (aQ (aB (sz tT ⟨[mr s_,(1,vI v_),(5,vI t8),rG s_,(8,vI t8)],[]⟩ {} [] ?_)))
   refine aQ (aO h fun a1 h=> ?_)
   refine rg tT ⟨[mr s_,(1,vI v_),(5,vI t8),rG s_,(8,vI t8),(16,vB (decide (v_=(at' s_ t8.toNat))))],[]⟩ [_] {} [] ⟨a1,trivial⟩ ?_
   refine bI h (fun hb h=> ?_) (fun hb h=> ?_)
   ·refine ct hb ?_
    refine sz tT ⟨[(4,vI t8)],[]⟩ {} [] ?_
    refine aR ?_
    obtain rfl:=oi h
    exact lR dw (dm 0) dz (bL.mk (.inr rfl) (p:=[]) (l:=[sI t8]) (by kernel_rfl) trivial (eB.refl _) trivial)
   ·refine cf hb ?_
    refine aP (rz tT ⟨[mr s_,(1,vI v_),rG s_,Hz t8],[]⟩ {} [] ?_)
    obtain rfl:=oi h
    exact lN
  ·refine cf hb1 ?_
   refine aI (fz ⟨[],[]⟩ []) ?_
   refine aX ?_
   obtain rfl:=oi h
   exact lB
 ·clear hy
  cases y with
  |brk z=>
   unfold dZ
   refine⟨_, .refl, ?_⟩
   refine sz tT ⟨[(4,vI (-1))],[]⟩ {} [] ?_
   refine aR ?_
   obtain rfl:=oi h
   exact rl [sI (-1)]
  |ret v=>
   obtain rfl:=oi h
   unfold dZ
   intro e st hn ha hR
   cases e with
   |normal=>exact absurd rfl hn
   |exit id=>exact hR
   |goto l=>exact hR
   |ret=>exact hR
   |panic c=>exact hR
   |outgrown=>exact hR
def Gw  :Bool→Exit→St→Prop:=
  fun r=>bL TT [.tmp 4] (vB r) []
theorem Fy (s_:List Int) (v_:Int) {r:Bool} (h:sJ s_ v_=some r):Fn Try.prog 69 [sD (Dk s_),sI v_] [] (vB r) []:=by
 refine fN tT Try.func69 rfl rfl fun B=> ?_
 show bR _ _ _ _ _ _ (Gw r) _
 unfold sJ at h
 refine sz tT ⟨[mr s_,(1,vI v_)],[]⟩ {} [] ?_
 refine aQ (bE h fun r_ hr_ h=> ?_)
 have q0:=Jr s_ v_ hr_
 refine rg tT (aah r_) [_] {an:=[(2,cA q0 [])] } [] ⟨q0,trivial⟩ ?_
 refine aR ?_
 obtain rfl:=oi h
 exact rl [sB (decide (0≤r_))]
section
variable (o_:List Int)
abbrev Gy:Ob:=(bW 3 1 (aT .i64) o_)
abbrev zR:List (Nat × Option Ob):=[(0,some (.cells 40 [.own 1 true o_.length])),(1,some (Gy o_))]
end
def IJ (o_:List Int):Bool→Exit→St→Prop:=
  fun r=>bL TT [.tmp 3] (vB r) (zR o_)
theorem Gc (i:Int) (o_:List Int) {r:Bool} (h:uN i o_=some r):Fn Try.prog 68 [sI i,.one (.ptr 0 0)] (zR o_) (vB r) (zR o_):=by
 refine fN tT Try.func68 rfl rfl fun B=> ?_
 show bR _ _ _ _ _ _ ((IJ o_) r) _
 unfold uN at h
 refine sz tT ⟨[(0,vI i),(1,vP 0 0)],zR o_⟩ {} [] ?_
 refine sg tT ⟨[(3,vB (bif (decide (i<0))then true else(decide ((o_.length:Int)≤i))))],zR o_⟩ (eqs (decide (i<0)) 5 []) {yb:=[(2,decide (i<0))] } [] (ae trivial) ?_
 refine aR ?_
 obtain rfl:=oi h
 exact rl [sB (bif (decide (i<0))then true else(decide ((o_.length:Int)≤i)))]
def mh (o_:List Int):Int→Exit→St→Prop:=
  fun r=>bL TT [.tmp 4] (vI r) (zR o_)
abbrev VH:Nat × TV:=(1,.v (.one (.fn 68 0 1 (EN [.ptr 0 0]))))
def qE (s_:List Int) (o_:List Int):Int→St:=
  fun t8=> ⟨[mr s_,VH,rG s_,(8,vI t8)],zR o_⟩
section
variable (o_:List Int)
abbrev ajf:St:=⟨[],zR o_⟩
end
def qI (o_:List Int):Unit→St:=
  fun _=>(ajf o_)
def A9 (s_:List Int) (o_:List Int):(aY Int (Ex Unit Int))→Exit→St→Prop:=
  LQ 0 [] (qE s_ o_) (qI o_) (mh o_)
section
variable (s_:List Int) (o_:List Int)
abbrev aiW:St:=⟨[mr s_,VH],zR o_⟩
end
theorem Ba (s_:List Int) (o_:List Int) {r:Int} (h:nQ s_ o_=some r):Fn Try.prog 113 [sD (Dk s_),.one (.fn 68 0 1 (EN [.ptr 0 0]))] (zR o_) (vI r) (zR o_):=by
 refine fN tT Try.func113 rfl rfl fun B=> ?_
 show bR _ _ _ _ _ _ ((mh o_) r) _
 unfold nQ at h
 refine sz tT (aiW s_ o_) {} [] ?_
 refine aQ (sz tT ⟨[mr s_,VH,rG s_,(8,vI 0)],zR o_⟩ {} [] ?_)
 refine bE h fun y hy h=> ?_
 refine aL [] (qE s_ o_) (qI o_) (mh o_) hy (fun s f h=> ?_) ?_
 ·clear hy
  show bR _ _ _ _ _ _ ((A9 s_ o_) f) _
  unfold qA at h
  obtain⟨t8,rfl⟩: ∃q,q=s:=⟨_,rfl⟩
  refine sz tT ⟨[mr s_,VH,rG s_,(8,vI t8),aay t8 s_],zR o_⟩ {} [] ?_
  refine aQ ?_
  refine bI h (fun hb1 h=> ?_) (fun hb1 h=> ?_)
  ·refine ct hb1 ?_
   refine aP (aQ (aB (sz tT ⟨[mr s_,VH,(5,vI t8),rG s_,(8,vI t8)],zR o_⟩ {} [] ?_)))
   refine aQ (bE h fun r_ hr_ h=> ?_)
   refine aO h fun a1 h=> ?_
   have q1:=Gc (at' s_ t8.toNat) o_ hr_
   refine rg tT ⟨[mr s_,VH,(5,vI t8),rG s_,(8,vI t8),(16,vB r_)],zR o_⟩ [_,_] {an:=[(5,cR q1 [0,1])] } [] ⟨a1,q1,trivial⟩ ?_
   refine bI h (fun hb h=> ?_) (fun hb h=> ?_)
   ·refine ct hb ?_
    refine sz tT ⟨[(4,vI t8)],zR o_⟩ {} [] ?_
    refine aR ?_
    obtain rfl:=oi h
    exact lR dw (dm 0) dz (bL.mk (.inr rfl) (p:=[]) (l:=[sI t8]) (by kernel_rfl) trivial (eB.refl _) (.refl _))
   ·refine cf hb ?_
    refine aP (rz tT ⟨[mr s_,VH,rG s_,Hz t8],zR o_⟩ {} [] ?_)
    obtain rfl:=oi h
    exact lN
  ·refine cf hb1 ?_
   refine aI (fz (ajf o_) []) ?_
   refine aX ?_
   obtain rfl:=oi h
   exact lB
 ·clear hy
  cases y with
  |brk z=>
   unfold dZ
   refine⟨_, .refl, ?_⟩
   refine sz tT ⟨[(4,vI (-1))],zR o_⟩ {} [] ?_
   refine aR ?_
   obtain rfl:=oi h
   exact rl [sI (-1)]
  |ret v=>
   obtain rfl:=oi h
   unfold dZ
   intro e st hn ha hR
   cases e with
   |normal=>exact absurd rfl hn
   |exit id=>exact hR
   |goto l=>exact hR
   |ret=>exact hR
   |panic c=>exact hR
   |outgrown=>exact hR
def zO (o_:List Int):Bool→Exit→St→Prop:=
  fun r=>bL TT [.tmp 4] (vB r) (zR o_)
theorem zo (s_:List Int) (o_:List Int) {r:Bool} (h:lu s_ o_=some r):Fn Try.prog 67 [sD (Dk s_),.one (.fn 68 0 1 (EN [.ptr 0 0]))] (zR o_) (vB r) (zR o_):=by
 refine fN tT Try.func67 rfl rfl fun B=> ?_
 show bR _ _ _ _ _ _ ((zO o_) r) _
 unfold lu at h
 refine sz tT (aiW s_ o_) {} [] ?_
 refine aQ (bE h fun r_ hr_ h=> ?_)
 have q0:=Ba s_ o_ hr_
 refine rg tT ⟨[(4,vB (decide (0≤r_)))],zR o_⟩ [_] {an:=[(2,cR q0 [0,1])] } [] ⟨q0,trivial⟩ ?_
 refine aR ?_
 obtain rfl:=oi h
 exact rl [sB (decide (0≤r_))]
def uP  :((List Int) × Bool × Int)→Exit→St→Prop:=
  fun r=>bL TT [.tmp 4, .tmp 5] (.jl [sD (bJ (some r.2.1) 1 (aT .i64) r.1),sI r.2.2]) []
section
variable (l:List aJ) (u0:List Int) (u1:Int)
abbrev Ng:Nat × TV:=(23,vD (bJ none 4 aJ.cell l))
abbrev MQ:Nat × TV:=(24,vI (l.length:Int))
abbrev Mt:List (Nat × Option Ob):=[(8,some (Gy u0)),(9,some (.cells 40 [.own 8 true u0.length]))]
abbrev ahr:St:=⟨[(7,vP 9 0),Ng l,MQ l,(25,vI u1)],Mt u0⟩
end
def Av (l:List aJ):((List Int) × Int)→St:=
  fun zz=>match zz with|(u0,u1)=>(ahr l u0 u1)
section
variable (u0:List Int)
abbrev ajt:St:=⟨[(7,vP 9 0)],Mt u0⟩
end
def Aq  :(List Int)→St:=
  fun u0=>(ajt u0)
def tN (l:List aJ):(aY ((List Int) × Int) (Ex (List Int) ((List Int) × Bool × Int)))→Exit→St→Prop:=
  LQ 0 [] (Av l) Aq uP
section
variable (l:List aJ) (u0:Int) (u2:List Int) (u3:Int)
abbrev aed:DV:=(bJ none 1 (aT .i64) ((at' l u0.toNat).ai))
abbrev Vj:Nat × TV:=(9,vD (ow [.int .i64 ((at' l u0.toNat).source),.int .i64 ((at' l u0.toNat).gM),.int .i64 ((at' l u0.toNat).amps),aed l u0] 0))
abbrev YS:Nat × TV:=(44,vI (u2.length:Int))
abbrev afM:List (Nat × TV):=[(7,vP 9 0),Vj l u0,Ng l,MQ l,(25,vI u0),YS u2,(45,vI u3)]
end
def Am (l:List aJ) (u2:List Int) (u0:Int):((List Int) × Int)→St:=
  fun zz=>match zz with|(u1,u3)=> ⟨afM l u0 u2 u3,Mt u1⟩
def Ar (l:List aJ) (u1:Int):(List Int)→St:=
  fun u0=>(ahr l u0 u1)
def Jm (l:List aJ) (u1:List Int) (u0:Int):(aY ((List Int) × Int) (Ex (List Int) (aY ((List Int) × Int) (Ex (List Int) ((List Int) × Bool × Int)))))→Exit→St→Prop:=
  LQ 2 [1] (Am l u1 u0) (Ar l u0) (tN l)
section
variable (l:List aJ) (p:au) (u0:Int) (u1:List Int) (u2:Int) (u3:List Int) (u4:List Int)
abbrev MC:Nat × TV:=(1,vD (bJ none 4 aJ.cell l))
abbrev YW:DV:=(bJ (some false) 1 (aT .i64) ([]:List Int))
abbrev Ws:=((p.ai.length:Int).toNat)
abbrev Sz:=(List.replicate (Ws p) (0:Int))
abbrev agr:Ob:=(bW 3 1 (aT .i64) (Sz p))
abbrev aag:=((Sz p).length)
abbrev alm:List (Nat × Option Ob):=[(8,some (agr p)),(9,some (.cells 40 [.own 8 true (aag p)]))]
abbrev YL:=(aS (aT .i64) (Sz p))
abbrev YR:=(bif (decide (((at' l u0.toNat).amps)<0))then true else(decide (1000000<((at' l u0.toNat).amps))))
abbrev ah9:=(u1.set u2.toNat (IntKind.wrap .i64 ((at' u1 u2.toNat)+((at' l u0.toNat).amps))))
abbrev ah7:=(aS (aT .i64) (ah9 l u0 u1 u2))
abbrev ank:List (Nat × Option Ob):=[(8,some (bW 3 1 (aT .i64) (ah9 l u0 u1 u2))),(9,some (.cells 40 [.own 8 true ((ah9 l u0 u1 u2).length)]))]
abbrev amI:List (Nat × TV):=[(7,vP 9 0),Vj l u0,Ng l,MQ l,(25,vI u0),YS u3,(45,k3 u2)]
abbrev YP:DV:=(bJ (some true) 1 (aT .i64) u4)
end
theorem oK (p:au) (l:List aJ) {r:(List Int) × Bool × Int} (h:lX p l=some r):Fn Try.prog 18 [.agg (k22 p),sD (bJ none 4 aJ.cell l)] [] (.jl [sD (bJ (some r.2.1) 1 (aT .i64) r.1),sI r.2.2]) []:=by
 refine fN tT Try.func18 rfl rfl fun B=> ?_
 show bR _ _ _ _ _ _ (uP r) _
 unfold lX at h
 refine sz tT ⟨[MC l,k26 p],[]⟩ {fr:=[(0,7)] } [7] ?_
 refine aQ (aQ (bE h fun r_ hr_ h=> ?_))
 have q0:=Bo p hr_
 refine rg tT ⟨[MC l,k26 p,(6,vI r_)],[]⟩ [_] {an:=[(1,cA q0 [])] } [] ⟨q0,trivial⟩ ?_
 refine sz tT ⟨[MC l,k26 p,(6,vI r_),(14,vB (!decide (r_=0)))],[]⟩ {} [] ?_
 refine bI h (fun hb5 h=> ?_) (fun hb5 h=> ?_)
 ·refine ct hb5 ?_
  refine sz tT ⟨[(4,vD nS),(5,vI r_)],[]⟩ {} [] ?_
  refine aI (cO.le (st':=⟨[(4,vD YW),(5,vI r_)],[]⟩) ⟨⟨⟨_,rfl,eB.v (fG.one (eZ.d iM.ach))⟩,tR,trivial⟩,trivial⟩) ?_
  refine aR ?_
  obtain rfl:=oi h
  exact rl [sD YW,sI r_]
 ·refine cf hb5 ?_
  refine aP (aQ (sz tT ⟨[MC l,k26 p,(18,vB (decide (8<(l.length:Int))))],[]⟩ {} [] ?_))
  refine bI h (fun hb4 h=> ?_) (fun hb4 h=> ?_)
  ·refine ct hb4 ?_
   refine sz tT ⟨[(4,vD nS),(5,vI 1)],[]⟩ {} [] ?_
   refine aI (cO.le (st':=⟨[(4,vD YW),(5,vI 1)],[]⟩) ⟨⟨⟨_,rfl,eB.v (fG.one (eZ.d iM.ach))⟩,tR,trivial⟩,trivial⟩) ?_
   refine aR ?_
   obtain rfl:=oi h
   exact rl [sD YW,sI 1]
  ·refine cf hb4 ?_
   refine aP (aQ (aO h fun⟨a1,a2,a3⟩ h=> ?_))
   refine rg tT ⟨[MC l,(7,vP 9 0)],alm p⟩ [_,((p.ai.length:Int):Int)=(p.ai.length:Int),_,_,(Sz p).length=(Ws p),aZ (Ws p) 1 (fun _ j=>[.int .i64 0].getD j .nilp) (YL p)] {an:=[(3, .arr (Sz p).length (YL p))],fr:=[(3,8),(4,9)] } [] ⟨a1,rfl,a2,a3,List.length_replicate,fe _ _ _ _ _ (fun j hj=>(match j,hj with|0,_=>rfl)),trivial⟩ ?_
   refine aQ (sz tT ⟨[(7,vP 9 0),Ng l,MQ l,(25,vI 0)],alm p⟩ {} [] ?_)
   refine bE h fun y1 hy h=> ?_
   refine aL [] (Av l) Aq uP hy (fun s f h=> ?_) ?_
   ·clear hy
    show bR _ _ _ _ _ _ ((tN l) f) _
    unfold AO at h
    obtain⟨u3,u0⟩:=s
    refine sz tT ⟨[(7,vP 9 0),Ng l,MQ l,(25,vI u0),(26,vB (decide (u0<(l.length:Int))))],Mt u3⟩ {} [] ?_
    refine aQ ?_
    refine bI h (fun hb3 h=> ?_) (fun hb3 h=> ?_)
    ·refine ct hb3 ?_
     refine aP (aQ (aB (aQ (aO h fun a1 h=> ?_))))
     refine rg tT ⟨[(7,vP 9 0),Vj l u0,Ng l,MQ l,(25,vI u0)],Mt u3⟩ [_] {fr:=[(2,13)] } [13] ⟨a1,trivial⟩ ?_
     refine aQ (aQ (bE h fun u5 hr_1 h=> ?_))
     refine rg tT ⟨[(7,vP 9 0),Vj l u0,Ng l,MQ l,(25,vI u0),(42,vB (bif (YR l u0)then true else u5))],Mt u3⟩ (eqs (decide (((at' l u0.toNat).amps)<0)) 4 (eqs (YR l u0) 4 [gP (gY [(3,decide (((at' l u0.toNat).amps)<0)),(8,YR l u0)]) [(8,false)]→All [Fn Try.prog 67 [sD (aed l u0),.one (.fn 68 0 1 (EN [.ptr 9 0]))] [(9,some (.cells 40 [.own 8 true u3.length])),(8,some (Gy u3))] (vB u5) [(9,some (.cells 40 [.own 8 true u3.length])),(8,some (Gy u3))]],(YR l u0)=(YR l u0)])) {yb:=[(3,decide (((at' l u0.toNat).amps)<0)),(8,YR l u0)],an:=[(12, .callR [9,8] (vB u5))] } [] (ae (ae ⟨(fun hg=> ⟨rK [(0,9),(1,8)] (zo ((at' l u0.toNat).ai) u3 (d9 hr_1 (bC hg))),trivial⟩),rfl,trivial⟩)) ?_
     refine bI h (fun hb2 h=> ?_) (fun hb2 h=> ?_)
     ·refine ct hb2 ?_
      refine sz tT ⟨[(4,vD nS),(5,vI 1)],[]⟩ {} [] ?_
      refine aI (cO.le (st':=⟨[(4,vD YW),(5,vI 1)],[]⟩) ⟨⟨⟨_,rfl,eB.v (fG.one (eZ.d iM.ach))⟩,tR,trivial⟩,trivial⟩) ?_
      refine aR ?_
      obtain rfl:=oi h
      exact lR dw (dm 0) dz (bL.mk (.inr rfl) (p:=[]) (l:=[sD YW,sI 1]) (by kernel_rfl) trivial (eB.refl _) trivial)
     ·refine cf hb2 ?_
      refine aP (sz tT ⟨[(7,vP 9 0),Vj l u0,Ng l,MQ l,(25,vI u0),YS u3,(45,vI 0)],Mt u3⟩ {} [] ?_)
      refine bE h fun y hy h=> ?_
      refine aL [1] (Am l u3 u0) (Ar l u0) (tN l) hy (fun s f h=> ?_) ?_
      ·clear hy
       show bR _ _ _ _ _ _ ((Jm l u3 u0) f) _
       unfold AL at h
       obtain⟨u1,u2⟩:=s
       refine sz tT ⟨[(7,vP 9 0),Vj l u0,Ng l,MQ l,(25,vI u0),YS u3,(45,vI u2),(46,aat u2 u3)],Mt u1⟩ {} [] ?_
       refine aQ ?_
       refine bI h (fun hb1 h=> ?_) (fun hb1 h=> ?_)
       ·refine ct hb1 ?_
        refine aP (aQ (aB (sz tT ⟨[(7,vP 9 0),Vj l u0,(10,vI u2),Ng l,MQ l,(25,vI u0),YS u3,(45,vI u2)],Mt u1⟩ {} [] ?_)))
        refine aQ (bE h fun u7 hr_2 h=> ?_)
        have q0:=Fy ((at' l u0.toNat).ai) u2 hr_2
        refine rg tT ⟨[(7,vP 9 0),Vj l u0,(10,vI u2),Ng l,MQ l,(25,vI u0),YS u3,(45,vI u2),(51,vB u7)],Mt u1⟩ [_] {an:=[(3,cA q0 [])] } [] ⟨q0,trivial⟩ ?_
        refine bI h (fun hb h=> ?_) (fun hb h=> ?_)
        ·refine ct hb ?_
         refine aO h fun a1 h=> ?_
         refine di tT mX ⟨afM l u0 u3 u2,[(8,some (.arr 3 1 u1.length (ah7 l u0 u1 u2))),(9,some (.cells 40 [.own 8 true u1.length]))]⟩ [_,_,_,_,aZ u1.length 1 (lZ (aS (aT .i64) u1) u2.toNat 0 [.int .i64 (IntKind.wrap .i64 ((at' u1 u2.toNat)+((at' l u0.toNat).amps)))]) (ah7 l u0 u1 u2)] {an:=[(8, .arr 0 (ah7 l u0 u1 u2))] } [] ⟨a1,tL a1,a1,tL a1,dA _ _ _ _ _ _ _ _ rfl (fun j hj=>(match j,hj with|0,_=>rfl)),trivial⟩ (cO.le (st':=⟨afM l u0 u3 u2,ank l u0 u1 u2⟩) ⟨⟨tR,tR,tR,tR,tR,tR,tR,trivial⟩,⟨rfl,oW,⟨rfl,cu ⟨cW,trivial⟩,trivial⟩⟩⟩) ?_
         refine rz tT ⟨amI l u0 u2 u3,ank l u0 u1 u2⟩ {} [] ?_
         obtain rfl:=oi h
         exact lN
        ·refine cf hb ?_
         refine aP (rz tT ⟨amI l u0 u2 u3,Mt u1⟩ {} [] ?_)
         obtain rfl:=oi h
         exact lN
       ·refine cf hb1 ?_
        refine aI (fz (ahr l u1 u0) []) ?_
        refine aX ?_
        obtain rfl:=oi h
        exact lB
      ·clear hy
       cases y with
       |brk z=>
        obtain⟨u6,rfl⟩: ∃q,q=z:=⟨_,rfl⟩
        unfold dZ
        refine⟨_, .refl, ?_⟩
        refine rz tT ⟨[(7,vP 9 0),Ng l,MQ l,(25,k3 u0)],Mt u6⟩ {} [] ?_
        obtain rfl:=oi h
        exact lN
       |ret v=>
        obtain rfl:=oi h
        unfold dZ
        intro e st hn ha hR
        cases e with
        |normal=>exact absurd rfl hn
        |exit id=>simp only [qW (b:=1) ha rfl,cond_false];exact hR
        |goto l=>exact hR
        |ret=>exact hR
        |panic c=>exact hR
        |outgrown=>exact hR
    ·refine cf hb3 ?_
     refine aI (fz (ajt u3) []) ?_
     refine aX ?_
     obtain rfl:=oi h
     exact lB
   ·clear hy
    cases y1 with
    |brk z=>
     obtain⟨u4,rfl⟩: ∃q,q=z:=⟨_,rfl⟩
     unfold dZ
     refine⟨_, .refl, ?_⟩
     refine sg tT ⟨[(4,vD (YP u4)),(5,vI 0)],[]⟩ [u4.length=u4.length] {} [8] ⟨rfl,trivial⟩ ?_
     refine aR ?_
     obtain rfl:=oi h
     exact rl [sD (YP u4),sI 0]
    |ret v=>
     obtain rfl:=oi h
     unfold dZ
     intro e st hn ha hR
     cases e with
     |normal=>exact absurd rfl hn
     |exit id=>exact hR
     |goto l=>exact hR
     |ret=>exact hR
     |panic c=>exact hR
     |outgrown=>exact hR
def KH  :Bool→Exit→St→Prop:=
  fun r=>bL TT [.tmp 4] (vB r) []
theorem nW (s_:aA) (b:Int) {r:Bool} (h:jP s_ b=some r):Fn Try.prog 79 [.agg (k5 s_),sI b] [] (vB r) []:=by
 refine fN tT Try.func79 rfl rfl fun B=> ?_
 show bR _ _ _ _ _ _ (KH r) _
 unfold jP at h
 refine sz tT ⟨[(1,vI b),k7 s_],[]⟩ {fr:=[(0,1)] } [1] ?_
 refine aQ (aO h fun a1 h=> ?_)
 refine rg tT ⟨[(4,vB (bif (decide (0≤b))then(!(at' s_.aW b.toNat))else false))],[]⟩ (eqs (decide (0≤b)) 4 ((gP (gY [(2,decide (0≤b))]) [(2,true)]→All [(0:Int)≤b∧b<(s_.aW.length:Int)])::(eqs (decide (0≤b)) 3 []))) {yb:=[(2,decide (0≤b))] } [] (ae ⟨(fun hg=> ⟨a1 (bC hg),trivial⟩),ae trivial⟩) ?_
 refine aR ?_
 obtain rfl:=oi h
 exact rl [sB (bif (decide (0≤b))then(!(at' s_.aW b.toNat))else false)]
def Fb  :(Int × aN)→Exit→St→Prop:=
  fun r=>bL TT [.tmp 10] (vI r.1) [(0,some (.cells 161 [.own 3 false r.2.bP.length,.own 2 true r.2.from_.length])),(1,none),(2,some (.rows 40 1 r.2.from_.length (CS wI r.2.from_) none)),(3,some (bW 170 2 bU.cell r.2.bP))]
section
variable (u0:aN) (b:Int) (u1:Int) (a:Int) (u2:Int)
abbrev aaz:Nat × Option Ob:=(1,some (bW 170 2 bU.cell u0.bP))
abbrev ag3:List (Nat × Option Ob):=[(0,some (.cells 161 [.own 1 false u0.bP.length,.own 2 true u0.from_.length])),aaz u0,(2,some (.rows 40 1 u0.from_.length (CS wI u0.from_) none))]
abbrev V8:=(u0.bP++[(⟨b,u1⟩:bU),(⟨a,u2⟩:bU)])
abbrev ad8:=((V8 u0 b u1 a u2).length)
abbrev alc:Nat × Option Ob:=(0,some (.cells 161 [.own 12 false (ad8 u0 b u1 a u2),.own 2 true u0.from_.length]))
abbrev acF:Nat × Option Ob:=(12,some (bW 170 2 bU.cell (V8 u0 b u1 a u2)))
abbrev WM:=((at' u0.from_ a.toNat)++[(u0.bP.length:Int)])
abbrev Pj:=(u0.from_.set a.toNat (WM u0 a))
abbrev abG:=(CS wI (Pj u0 a))
abbrev agq:=(aS (aT .i64) (WM u0 a))
abbrev ajy:Nat × Option Ob:=(0,some (.cells 161 [.own 12 false (ad8 u0 b u1 a u2),.own 2 true ((Pj u0 a).length)]))
abbrev Rx:=(at' (Pj u0 a) b.toNat)
abbrev Tn:=(IntKind.wrap .i64 ((u0.bP.length:Int)+1))
abbrev Vx:=((Rx u0 b a)++[Tn u0])
abbrev af9:=((Pj u0 a).set b.toNat (Vx u0 b a))
abbrev ac8:=(CS wI (af9 u0 b a))
abbrev ahE:=(aS (aT .i64) [Tn u0])
abbrev ajH:=((Rx u0 b a).length+[Tn u0].length)
abbrev ahz:=(aS (aT .i64) (Vx u0 b a))
abbrev ajE:=((af9 u0 b a).length)
abbrev am9:Nat × Option Ob:=(2,some (.rows 40 1 (af9 u0 b a).length (ac8 u0 b a) none))
abbrev alN:List (Nat × Option Ob):=[(0,some (.cells 161 [.own 12 false (ad8 u0 b u1 a u2),.own 2 true (ajE u0 b a)])),(1,none),am9 u0 b a,acF u0 b u1 a u2]
end
theorem dU (a:Int) (b:Int) (u1:Int) (u2:Int) (u0:aN) {r:Int × aN} (h:eF a b u1 u2 u0=some r):Fn Try.prog 77 [.one (.ptr 0 0),sI a,sI b,sI u1,sI u2] (ag3 u0) (vI r.1) [(0,some (.cells 161 [.own 3 false r.2.bP.length,.own 2 true r.2.from_.length])),(1,none),(2,some (.rows 40 1 r.2.from_.length (CS wI r.2.from_) none)),(3,some (bW 170 2 bU.cell r.2.bP))]:=by
 refine fN tT Try.func77 rfl rfl fun B=> ?_
 show bR _ _ _ _ _ _ (Fb r) _
 unfold eF at h
 refine sz tT ⟨[(0,vP 0 0),(1,vI a),(2,vI b),(3,vI u1),(4,vI u2)],ag3 u0⟩ {} [] ?_
 refine sz tT ⟨[(0,vP 0 0),(1,vI a),(2,vI b),(3,vI u1),(4,vI u2),(11,vI (u0.bP.length:Int))],ag3 u0⟩ {} [] ?_
 refine aQ (aO h fun⟨a1,a2⟩ h=> ?_)
 refine rg tT ⟨[(0,vP 0 0),(1,vI a),(2,vI b),(11,vI (u0.bP.length:Int))],[alc u0 b u1 a u2,(1,none),(2,some (.rows 40 1 u0.from_.length (CS wI u0.from_) none)),acF u0 b u1 a u2]⟩ [[(⟨b,u1⟩:bU),(⟨a,u2⟩:bU)].length=2,aZ 2 2 (kg 2 [.int .i64 b,.int .i64 u1,.int .i64 a,.int .i64 u2]) (aS bU.cell [(⟨b,u1⟩:bU),(⟨a,u2⟩:bU)]),u0.bP.length=u0.bP.length,_,_,(V8 u0 b u1 a u2).length=u0.bP.length+[(⟨b,u1⟩:bU),(⟨a,u2⟩:bU)].length,aZ (u0.bP.length+[(⟨b,u1⟩:bU),(⟨a,u2⟩:bU)].length) 2 (Ff (aS bU.cell u0.bP) u0.bP.length (aS bU.cell [(⟨b,u1⟩:bU),(⟨a,u2⟩:bU)])) (aS bU.cell (V8 u0 b u1 a u2))] {an:=[(11, .arr [(⟨b,u1⟩:bU),(⟨a,u2⟩:bU)].length (aS bU.cell [(⟨b,u1⟩:bU),(⟨a,u2⟩:bU)])),(12, .arr (V8 u0 b u1 a u2).length (aS bU.cell (V8 u0 b u1 a u2)))],fr:=[(11,11),(12,12)] } [] ⟨rfl,(by intro i hi j hj;match i,j,hi,hj with|0,0,_,_=>rfl|0,1,_,_=>rfl|1,0,_,_=>rfl|1,1,_,_=>rfl),rfl,a1,a2,List.length_append,kz _ _ _ _,trivial⟩ ?_
 refine aQ (aO h fun⟨a1,a2,a3⟩ h=> ?_)
 refine di tT mX ⟨[(0,vP 0 0),(2,vI b),(11,vI (u0.bP.length:Int))],[alc u0 b u1 a u2,(1,none),(2,some (.rows 40 1 u0.from_.length (abG u0 a) none)),acF u0 b u1 a u2]⟩ [(0:Int)≤a∧a<(u0.from_.length:Int),a.toNat<u0.from_.length,[(u0.bP.length:Int)].length=1,aZ 1 1 (kg 1 [.int .i64 (u0.bP.length:Int)]) (aS (aT .i64) [(u0.bP.length:Int)]),(at' u0.from_ a.toNat).length=(at' u0.from_ a.toNat).length,((at' u0.from_ a.toNat).length+[(u0.bP.length:Int)].length)*8≤140737488355328,(at' u0.from_ a.toNat).length+[(u0.bP.length:Int)].length≤4611686018427387904,(WM u0 a).length=(at' u0.from_ a.toNat).length+[(u0.bP.length:Int)].length,aZ ((at' u0.from_ a.toNat).length+[(u0.bP.length:Int)].length) 1 (Ff (aS (aT .i64) (at' u0.from_ a.toNat)) (at' u0.from_ a.toNat).length (aS (aT .i64) [(u0.bP.length:Int)])) (agq u0 a),(0:Int)≤a∧a<(u0.from_.length:Int),a.toNat<u0.from_.length,(WM u0 a).length=(WM u0 a).length,aef u0.from_.length 1 (stV (CS wI u0.from_) a.toNat 0 (.row 3 1 (WM u0 a).length (agq u0 a))) (abG u0 a),∀i0 j0 c0,((some (a.toNat,0,CV.own 13 false (at' u0.from_ a.toNat).length)):Option (Nat × Nat × CV))=some (i0,j0,c0)→i0=a.toNat∧j0=0] {an:=[(11, .take 13),(13, .arr [(u0.bP.length:Int)].length (aS (aT .i64) [(u0.bP.length:Int)])),(14, .arr (WM u0 a).length (agq u0 a)),(16, .rows 0 (abG u0 a))],fr:=[(13,14),(14,15)] } [] ⟨a1,tL a1,rfl,(by intro i hi j hj;match i,j,hi,hj with|0,0,_,_=>rfl),rfl,a2,a3,List.length_append,kz _ _ _ _,a1,tL a1,rfl,UB _ _ _ _ _ _ _ _ rfl (fun j hj=>(match j,hj with|0,_=>rfl)),(fun i0 j0 c0 e=>by cases e;exact⟨rfl,rfl⟩),trivial⟩ (cO.le (st':=⟨[(0,vP 0 0),(2,vI b),(11,vI (u0.bP.length:Int))],[ajy u0 b u1 a u2,(1,none),(2,some (.rows 40 1 (Pj u0 a).length (abG u0 a) none)),acF u0 b u1 a u2]⟩) ⟨⟨tR,tR,tR,trivial⟩,⟨rfl,cu ⟨eZ.refl _,cW,trivial⟩,⟨rfl, .refl _,⟨rfl,Uh (by simp only [List.length_set,List.length_append,List.length_cons,List.length_nil,List.length_replicate,List.length_drop]),⟨rfl, .refl _,trivial⟩⟩⟩⟩⟩) ?_
 refine aQ (aO h fun⟨a1,a2,a3⟩ h=> ?_)
 refine di tT mX ⟨[(11,vI (u0.bP.length:Int))],[ajy u0 b u1 a u2,(1,none),(2,some (.rows 40 1 (Pj u0 a).length (ac8 u0 b a) none)),acF u0 b u1 a u2]⟩ [(0:Int)≤b∧b<((Pj u0 a).length:Int),b.toNat<(Pj u0 a).length,[Tn u0].length=1,aZ 1 1 (kg 1 [.int .i64 (Tn u0)]) (ahE u0),(Rx u0 b a).length=(Rx u0 b a).length,(ajH u0 b a)*8≤140737488355328,(Rx u0 b a).length+[Tn u0].length≤4611686018427387904,(Vx u0 b a).length=(Rx u0 b a).length+[Tn u0].length,aZ (ajH u0 b a) 1 (Ff (aS (aT .i64) (Rx u0 b a)) (Rx u0 b a).length (ahE u0)) (ahz u0 b a),(0:Int)≤b∧b<((Pj u0 a).length:Int),b.toNat<(Pj u0 a).length,(Vx u0 b a).length=(Vx u0 b a).length,aef (Pj u0 a).length 1 (stV (abG u0 a) b.toNat 0 (.row 3 1 (Vx u0 b a).length (ahz u0 b a))) (ac8 u0 b a),∀i0 j0 c0,((some (b.toNat,0,CV.own 16 false (Rx u0 b a).length)):Option (Nat × Nat × CV))=some (i0,j0,c0)→i0=b.toNat∧j0=0] {an:=[(11, .take 16),(14, .arr [Tn u0].length (ahE u0)),(15, .arr (Vx u0 b a).length (ahz u0 b a)),(17, .rows 0 (ac8 u0 b a))],fr:=[(14,17),(15,18)] } [] ⟨a1,tL a1,rfl,(by intro i hi j hj;match i,j,hi,hj with|0,0,_,_=>rfl),rfl,a2,a3,List.length_append,kz _ _ _ _,a1,tL a1,rfl,UB _ _ _ _ _ _ _ _ rfl (fun j hj=>(match j,hj with|0,_=>rfl)),(fun i0 j0 c0 e=>by cases e;exact⟨rfl,rfl⟩),trivial⟩ (cO.le (st':=⟨[(11,vI (u0.bP.length:Int))],alN u0 b u1 a u2⟩) ⟨⟨tR,trivial⟩,⟨rfl,cu ⟨eZ.refl _,cW,trivial⟩,⟨rfl, .refl _,⟨rfl,Uh (by simp only [List.length_set,List.length_append,List.length_cons,List.length_nil,List.length_replicate,List.length_drop]),⟨rfl, .refl _,trivial⟩⟩⟩⟩⟩) ?_
 refine sz tT ⟨[(10,vI (u0.bP.length:Int))],alN u0 b u1 a u2⟩ {} [] ?_
 refine aI (cO.fin (st':=⟨[(10,vI (u0.bP.length:Int))],[(0,some (.cells 161 [.own 3 false (ad8 u0 b u1 a u2),.own 2 true (ajE u0 b a)])),(1,none),am9 u0 b a,(3,some (bW 170 2 bU.cell (V8 u0 b u1 a u2)))]⟩) (cs:=[]) ⟨[],[(0,0),(1,1),(2,2),(12,3)]⟩ [10] (by kernel_rfl) trivial) ?_
 refine aR ?_
 obtain rfl:=oi h
 exact rh [sI (u0.bP.length:Int)] (.refl _) ⟨rfl, .refl _,⟨rfl,trivial,⟨rfl, .refl _,⟨rfl, .refl _,trivial⟩⟩⟩⟩
section
variable (u0:aN)
abbrev O4:DV:=(bJ none 1 (Rf 1 (aT .i64)) u0.from_)
abbrev aej:Nat × Option Ob:=(0,some (.cells 161 [.own 1 false u0.bP.length,.d (O4 u0)]))
abbrev ag4:List (Nat × Option Ob):=[aej u0,aaz u0,(2,some (.cells 157 [.ptr 0 0]))]
end
def Bf (u0:aN):Unit→Exit→St→Prop:=
  fun _=>bL TT [.tmp 2] (.v (.one (.fn 121 0 1 (EN [.ptr 2 0])))) (ag4 u0)
section
variable (u0:aN)
abbrev ajZ:List (Nat × Option Ob):=[aej u0,aaz u0]
abbrev aiB:List (Nat × Option Ob):=[aej u0,aaz u0,(3,some (.cells 157 [.ptr 0 0]))]
end
theorem ko (u0:aN) {r:Unit} (h:fJ u0=some r):Fn Try.prog 81 [.one (.ptr 0 0)] (ajZ u0) (.v (.one (.fn 121 0 1 (EN [.ptr 2 0])))) (ag4 u0):=by
 refine fN tT Try.func81 rfl rfl fun B=> ?_
 show bR _ _ _ _ _ _ ((Bf u0) r) _
 unfold fJ at h
 refine sz tT ⟨[(1,vP 3 0)],aiB u0⟩ {fr:=[(0,3)] } [] ?_
 refine sz tT ⟨[(2,.v (.one (.fn 121 0 1 (EN [.ptr 3 0]))))],aiB u0⟩ {} [] ?_
 refine aI (cO.fin (st':=⟨[(2,.v (.one (.fn 121 0 1 (EN [.ptr 2 0]))))],ag4 u0⟩) (cs:=[]) ⟨[],[(0,0),(1,1),(3,2)]⟩ [2] (by kernel_rfl) trivial) ?_
 refine aR ?_
 obtain rfl:=oi h
 exact rl [.one (.fn 121 0 1 (EN [.ptr 2 0]))]
noncomputable def bM:qN:=⟨[19,20],MV ([1,0,1,0,0,0,1,0,1,0]++[0]) (qg Try.f80),MV ([1,0,1,0,0,0,1,0,1,0]++[1]) (qg Try.f80),114,[.exit 1]⟩
section
variable (u0:Int)
abbrev UK:List (Nat × TV):=[(2,vP 1 0),(3,vP 2 0),(4,vP 3 0)]
abbrev NE:Nat × Option Ob:=(1,some (.cells 157 [.ptr 4 0]))
abbrev OU:Nat × Option Ob:=(2,some (.cells 3 [cI u0]))
end
def zk (u0:Int):(Nat × (List Int) × aN)→Exit→St→Prop:=
  fun r=>qb 0 bM (vB (Nat.beq r.1 0)) [(0,some (.loop bM r.1 UK)),NE,OU u0,(3,some (.cells 40 [.own 5 true r.2.1.length])),(4,some (.cells 161 [.own 6 false r.2.2.bP.length,.d (bJ none 1 (Rf 1 (aT .i64)) r.2.2.from_)])),(5,some (bW 3 1 (aT .i64) r.2.1)),(6,some (bW 170 2 bU.cell r.2.2.bP))]
section
variable (o_:List Int) (u1:Int) (u2:Int) (u0:aN) (u3:Int) (u4:Int) (u5:Int)
abbrev Uf:Nat × Option Ob:=(0,some (.loop bM 1 UK))
abbrev YX:Nat × Option Ob:=(3,some (.cells 40 [.own 5 true ((o_.set u1.toNat u2).length)]))
abbrev adD:Nat × Option Ob:=(4,some (.cells 161 [.own 6 false u0.bP.length,.d (O4 u0)]))
abbrev Z0:Nat × Option Ob:=(5,some (bW 3 1 (aT .i64) (o_.set u1.toNat u2)))
abbrev adF:Nat × Option Ob:=(6,some (bW 170 2 bU.cell u0.bP))
abbrev Lh:List (Nat × Option Ob):=[Uf,NE,OU u3,YX o_ u1 u2,adD u0,Z0 o_ u1 u2,adF u0]
abbrev ags:St:=⟨[(2,vP 1 0),(3,vP 2 0),(4,vP 3 0),(7,vI u4),(8,vI u5)],Lh o_ u1 u2 u0 u3⟩
end
def oq (u1:Int) (u2:Int) (u3:Int) (o_:List Int) (u0:aN):(Int × Int)→St:=
  fun zz=>match zz with|(u4,u5)=>(ags o_ u1 u2 u0 u3 u4 u5)
section
variable (u4:Int) (u3:Int) (o_:List Int) (u1:Int) (u2:Int) (u0:aN)
abbrev akD:St:=⟨[(2,vP 1 0),(3,vP 2 0),(4,vP 3 0),(7,vI u4)],Lh o_ u1 u2 u0 u3⟩
end
def oG (u1:Int) (u2:Int) (u3:Int) (o_:List Int) (u0:aN):Int→St:=
  fun u4=>(akD u4 u3 o_ u1 u2 u0)
section
variable (u0:Int)
abbrev abk:=(zk u0)
end
def xK (u1:Int) (u2:Int) (u0:Int) (o_:List Int) (u3:aN):(aY (Int × Int) (Ex Int (Nat × (List Int) × aN)))→Exit→St→Prop:=
  LQ 4 [3] (oq u1 u2 u0 o_ u3) (oG u1 u2 u0 o_ u3) (abk u0)
section
variable (u5:Int) (u6:Int) (u2:List bU) (u4:aN) (u3:Int) (o_:List Int) (u0:Int) (u1:Int)
abbrev Zg:List (Nat × TV):=[(2,vP 1 0),(4,vP 3 0),(7,vI u5),(10,vI u6)]
abbrev ajx:Nat × Option Ob:=(4,some (.cells 161 [.own 6 false u2.length,.d (O4 u4)]))
abbrev afW:List (Nat × Option Ob):=[Uf,NE,OU u3,YX o_ u0 u1,ajx u2 u4,Z0 o_ u0 u1,(6,some (bW 170 2 bU.cell u2))]
end
def oI (u0:Int) (u1:Int) (u3:Int) (o_:List Int) (u4:aN) (u5:Int):((List bU) × Int)→St:=
  fun zz=>match zz with|(u2,u6)=> ⟨Zg u5 u6,afW u2 u4 u3 o_ u0 u1⟩
section
variable (u3:Int) (o_:List Int) (u0:Int) (u1:Int) (u2:List bU) (u4:aN)
abbrev ajl:St:=⟨[],afW u2 u4 u3 o_ u0 u1⟩
end
def nU (u0:Int) (u1:Int) (u3:Int) (o_:List Int) (u4:aN):(List bU)→St:=
  fun u2=>(ajl u3 o_ u0 u1 u2 u4)
def xE (u1:Int) (u2:Int) (u0:Int) (o_:List Int) (u3:aN) (u4:Int):(aY ((List bU) × Int) (Ex (List bU) (Nat × (List Int) × aN)))→Exit→St→Prop:=
  LQ 6 [3] (oI u1 u2 u0 o_ u3 u4) (nU u1 u2 u0 o_ u3) (abk u0)
section
variable (u6:Int) (o_:List Int) (u4:aN) (u0:Int) (u1:Int) (u7:Int) (u3:List bU) (u2:Int) (u5:Int)
abbrev aaW:List (Nat × Option Ob):=[(0,some (.loop bM 0 UK)),NE,OU u6,(3,some (.cells 40 [.own 5 true o_.length])),adD u4,(5,some (Gy o_)),adF u4]
abbrev agp:List (Nat × TV):=[(2,vP 1 0),(3,vP 2 0),(4,vP 3 0),(5,vI u0),(6,vI u1)]
abbrev acv:=((IntKind.wrap .i64 (((BitVec.ofInt (IntKind.bits .i64) (at' (o_.set u0.toNat u1) u7.toNat) ^^^ BitVec.ofInt (IntKind.bits .i64) 1).toNat:Int))).toNat)
abbrev Ww:=(u3.set ((at' (o_.set u0.toNat u1) u2.toNat).toNat) (⟨(at' u3 ((at' (o_.set u0.toNat u1) u2.toNat).toNat)).to_,IntKind.wrap .i64 (((at' u3 ((at' (o_.set u0.toNat u1) u2.toNat).toNat)).left) - u5)⟩:bU))
abbrev adX:=(aS bU.cell (Ww o_ u0 u1 u3 u2 u5))
abbrev amA:Nat × Option Ob:=(4,some (.cells 161 [.own 6 false ((Ww o_ u0 u1 u3 u2 u5).length),.d (O4 u4)]))
abbrev akB:=(at' (Ww o_ u0 u1 u3 u2 u5) (acv o_ u0 u1 u2))
abbrev aiS:=(IntKind.wrap .i64 (((akB o_ u0 u1 u3 u2 u5).left)+u5))
abbrev adB:=((Ww o_ u0 u1 u3 u2 u5).set (acv o_ u0 u1 u2) (⟨(akB o_ u0 u1 u3 u2 u5).to_,aiS o_ u0 u1 u3 u2 u5⟩:bU))
abbrev agI:=(aS bU.cell (adB o_ u0 u1 u3 u2 u5))
abbrev ajQ:List (Nat × Option Ob):=[Uf,NE,OU u6,YX o_ u0 u1,(4,some (.cells 161 [.own 6 false ((adB o_ u0 u1 u3 u2 u5).length),.d (O4 u4)])),Z0 o_ u0 u1,(6,some (bW 170 2 bU.cell (adB o_ u0 u1 u3 u2 u5)))]
end
theorem om (u0:Int) (u1:Int) (u6:Int) (o_:List Int) (u4:aN) {r:Nat × (List Int) × aN} (h:dO u0 u1 u6 o_ u4=some r):Yl Try.prog 0 [sI u0,sI u1] (aaW u6 o_ u4) (vB (Nat.beq r.1 0)) [(0,some (.loop bM r.1 UK)),NE,OU u6,(3,some (.cells 40 [.own 5 true r.2.1.length])),(4,some (.cells 161 [.own 6 false r.2.2.bP.length,.d (bJ none 1 (Rf 1 (aT .i64)) r.2.2.from_)])),(5,some (bW 3 1 (aT .i64) r.2.1)),(6,some (bW 170 2 bU.cell r.2.2.bP))]:=by
 refine Jh (r:=bM) (sl:=UK) (sl1:=(agp u0 u1)) (h1:=(aaW u6 o_ u4)) (sl2:=UK) (by kernel_rfl) rfl rfl (by kernel_rfl) (fun rd B=> ?_) (by kernel_rfl) (fun rd B=> ?_)
 ·refine vR (c:=MV ([1,0,1,0,0,0,1,0,1,0]++[0]) (qg Try.f80)) rfl ?_
  refine rA (st:=⟨[(19,vI u0),(20,vI u1),(2,vP 1 0),(3,vP 2 0),(4,vP 3 0)],aaW u6 o_ u4⟩) (by kernel_rfl) ?_
  refine sz tT ⟨[(2,vP 1 0),(3,vP 2 0),(4,vP 3 0),(5,vI u0),(20,vI u1)],aaW u6 o_ u4⟩ {} [] ?_
  refine rz tT ⟨agp u0 u1,aaW u6 o_ u4⟩ {} [] ?_
  exact⟨rfl,rfl⟩
 ·refine vR (c:=MV ([1,0,1,0,0,0,1,0,1,0]++[1]) (qg Try.f80)) rfl ?_
  refine rA (st:=⟨agp u0 u1,[Uf,NE,OU u6,(3,some (.cells 40 [.own 5 true o_.length])),adD u4,(5,some (Gy o_)),adF u4]⟩) (by kernel_rfl) ?_
  show bR _ _ _ _ _ _ ((abk u6) r) _
  unfold dO at h
  refine aB (aQ (aO h fun a1 h=> ?_))
  refine ri tT ⟨[(2,vP 1 0),(3,vP 2 0),(4,vP 3 0),(5,vI u0)],[Uf,NE,OU u6,(3,some (.cells 40 [.own 5 true o_.length])),adD u4,(5,some (.arr 3 1 o_.length (aS (aT .i64) (o_.set u0.toNat u1)))),adF u4]⟩ [_,_,aZ o_.length 1 (lZ (aS (aT .i64) o_) u0.toNat 0 [.int .i64 u1]) (aS (aT .i64) (o_.set u0.toNat u1))] {an:=[(4, .arr 0 (aS (aT .i64) (o_.set u0.toNat u1)))] } [] ⟨a1,tL a1,dA _ _ _ _ _ _ _ _ rfl (fun j hj=>(match j,hj with|0,_=>rfl)),trivial⟩ (cO.le (st':=⟨[(2,vP 1 0),(3,vP 2 0),(4,vP 3 0),(5,vI u0)],Lh o_ u0 u1 u4 u6⟩) ⟨⟨tR,tR,tR,tR,trivial⟩,hN 3 ⟨rfl,cu ⟨cW,trivial⟩,⟨rfl, .refl _,⟨rfl,oW,⟨rfl, .refl _,trivial⟩⟩⟩⟩⟩) ?_
  refine aQ (sz tT ⟨[(2,vP 1 0),(3,vP 2 0),(4,vP 3 0),(27,vB (!decide (u0=u6)))],Lh o_ u0 u1 u4 u6⟩ {} [] ?_)
  refine bI h (fun hb3 h=> ?_) (fun hb3 h=> ?_)
  ·refine ct hb3 ?_
   refine aI (fz ⟨[],Lh o_ u0 u1 u4 u6⟩ []) ?_
   refine aX ?_
   obtain rfl:=oi h
   exact qb.on (sl:=UK) (by kernel_rfl) (Cw (by kernel_rfl)) (eB.refl _)
  ·refine cf hb3 ?_
   refine aP (sz tT ⟨[(2,vP 1 0),(3,vP 2 0),(4,vP 3 0),(7,vI (-1))],Lh o_ u0 u1 u4 u6⟩ {} [] ?_)
   refine aQ (sz tT ⟨[(2,vP 1 0),(3,vP 2 0),(4,vP 3 0),(7,vI (-1)),(8,vI u6)],Lh o_ u0 u1 u4 u6⟩ {} [] ?_)
   refine bE h fun y1 hy h=> ?_
   refine aL [3] (oq u0 u1 u6 o_ u4) (oG u0 u1 u6 o_ u4) (abk u6) hy (fun s f h=> ?_) ?_
   ·clear hy
    show bR _ _ _ _ _ _ ((xK u0 u1 u6 o_ u4) f) _
    unfold cZ at h
    obtain⟨u8,u7⟩:=s
    refine aQ (aQ (aO h fun a1 h=> ?_))
    refine rg tT ⟨[(2,vP 1 0),(3,vP 2 0),(4,vP 3 0),(7,vI u8),(8,vI u7),(33,vB (decide (0≤(at' (o_.set u0.toNat u1) u7.toNat))))],Lh o_ u0 u1 u4 u6⟩ [_,_] {} [] ⟨a1,tL a1,trivial⟩ ?_
    refine bI h (fun hb1 h=> ?_) (fun hb1 h=> ?_)
    ·refine ct hb1 ?_
     refine aP (bE h fun y hy h=> ?_)
     refine KX (o:=y) (fun u9=>(ags o_ u0 u1 u4 u6 u9 u7)) ?_ ?_
     ·replace h:=hy
      clear hy
      refine aB (aQ (aO h fun⟨a1,a2⟩ h=> ?_))
      refine dg tT mX ⟨[(2,vP 1 0),(3,vP 2 0),(4,vP 3 0),(7,vI u8),(8,vI u7),(9,vI ((at' u4.bP ((at' (o_.set u0.toNat u1) u7.toNat).toNat)).left))],Lh o_ u0 u1 u4 u6⟩ [_,_,_,_] {} [] ⟨a1,tL a1,a2,tL a2,trivial⟩ ?_
      refine sg tT ⟨[(2,vP 1 0),(3,vP 2 0),(4,vP 3 0),(7,vI u8),(8,vI u7),(9,vI ((at' u4.bP ((at' (o_.set u0.toNat u1) u7.toNat).toNat)).left)),(63,vB (bif (decide (u8<0))then true else(decide (((at' u4.bP ((at' (o_.set u0.toNat u1) u7.toNat).toNat)).left)<u8))))],Lh o_ u0 u1 u4 u6⟩ (eqs (decide (u8<0)) 4 []) {yb:=[(2,decide (u8<0))] } [] (ae trivial) ?_
      refine bI h (fun hb h=> ?_) (fun hb h=> ?_)
      ·refine ct hb ?_
       refine rz tT ⟨[(2,vP 1 0),(3,vP 2 0),(4,vP 3 0),(7,vI ((at' u4.bP ((at' (o_.set u0.toNat u1) u7.toNat).toNat)).left)),(8,vI u7)],Lh o_ u0 u1 u4 u6⟩ {} [] ?_
       obtain rfl:=oi h
       exact⟨rfl,by kernel_rfl⟩
      ·refine cf hb ?_
       refine aI (fz (ags o_ u0 u1 u4 u6 u8 u7) []) ?_
       refine aP ?_
       obtain rfl:=oi h
       exact⟨rfl,by kernel_rfl⟩
     ·clear hy
      obtain⟨u9,rfl⟩: ∃q,q=y:=⟨_,rfl⟩
      refine aO h fun⟨a1,a2⟩ h=> ?_
      refine dg tT mX ⟨[(2,vP 1 0),(3,vP 2 0),(4,vP 3 0),(7,vI u9),(8,vI ((at' u4.bP (acv o_ u0 u1 u7)).to_))],Lh o_ u0 u1 u4 u6⟩ [_,_,_,_] {} [] ⟨a1,tL a1,a2,tL a2,trivial⟩ ?_
      obtain rfl:=oi h
      exact lN
    ·refine cf hb1 ?_
     refine aI (fz (akD u8 u6 o_ u0 u1 u4) []) ?_
     refine aX ?_
     obtain rfl:=oi h
     exact lB
   ·clear hy
    cases y1 with
    |brk z=>
     obtain⟨u5,rfl⟩: ∃q,q=z:=⟨_,rfl⟩
     unfold dZ
     refine⟨_, .refl, ?_⟩
     refine aQ (sz tT ⟨Zg u5 u6,Lh o_ u0 u1 u4 u6⟩ {} [] ?_)
     refine bE h fun y2 hy h=> ?_
     refine aL [3] (oI u0 u1 u6 o_ u4 u5) (nU u0 u1 u6 o_ u4) (abk u6) hy (fun s f h=> ?_) ?_
     ·clear hy
      show bR _ _ _ _ _ _ ((xE u0 u1 u6 o_ u4 u5) f) _
      unfold dh at h
      obtain⟨u3,u2⟩:=s
      refine aQ (aQ (aO h fun a1 h=> ?_))
      refine rg tT ⟨[(2,vP 1 0),(4,vP 3 0),(7,vI u5),(10,vI u2),(70,vB (decide (0≤(at' (o_.set u0.toNat u1) u2.toNat))))],afW u3 u4 u6 o_ u0 u1⟩ [_,_] {} [] ⟨a1,tL a1,trivial⟩ ?_
      refine bI h (fun hb2 h=> ?_) (fun hb2 h=> ?_)
      ·refine ct hb2 ?_
       refine aP (aQ (aB (aQ (aO h fun⟨a1,a2⟩ h=> ?_))))
       refine di tT mX ⟨Zg u5 u2,[Uf,NE,OU u6,YX o_ u0 u1,ajx u3 u4,Z0 o_ u0 u1,(6,some (.arr 170 2 u3.length (adX o_ u0 u1 u3 u2 u5)))]⟩ [_,_,_,_,_,_,aZ u3.length 2 (lZ (aS bU.cell u3) ((at' (o_.set u0.toNat u1) u2.toNat).toNat) 1 [.int .i64 (IntKind.wrap .i64 (((at' u3 ((at' (o_.set u0.toNat u1) u2.toNat).toNat)).left) - u5))]) (adX o_ u0 u1 u3 u2 u5)] {an:=[(15, .arr 0 (adX o_ u0 u1 u3 u2 u5))] } [] ⟨a1,tL a1,a2,tL a2,a2,tL a2,dA _ _ _ _ _ _ _ _ rfl (fun j hj=>(match j,hj with|0,_=>rfl|1,_=>rfl)),trivial⟩ (cO.le (st':=⟨Zg u5 u2,[Uf,NE,OU u6,YX o_ u0 u1,amA o_ u4 u0 u1 u3 u2 u5,Z0 o_ u0 u1,(6,some (bW 170 2 bU.cell (Ww o_ u0 u1 u3 u2 u5)))]⟩) ⟨⟨tR,tR,tR,tR,trivial⟩,hN 4 ⟨rfl,cu ⟨cW,eZ.refl _,trivial⟩,⟨rfl, .refl _,⟨rfl,oW,trivial⟩⟩⟩⟩) ?_
       refine aO h fun⟨a1,a2⟩ h=> ?_
       refine di tT mX ⟨Zg u5 u2,[Uf,NE,OU u6,YX o_ u0 u1,amA o_ u4 u0 u1 u3 u2 u5,Z0 o_ u0 u1,(6,some (.arr 170 2 (Ww o_ u0 u1 u3 u2 u5).length (agI o_ u0 u1 u3 u2 u5)))]⟩ [_,_,_,_,_,_,aZ (Ww o_ u0 u1 u3 u2 u5).length 2 (lZ (adX o_ u0 u1 u3 u2 u5) (acv o_ u0 u1 u2) 1 [.int .i64 (aiS o_ u0 u1 u3 u2 u5)]) (agI o_ u0 u1 u3 u2 u5)] {an:=[(16, .arr 0 (agI o_ u0 u1 u3 u2 u5))] } [] ⟨a1,tL a1,a2,tL a2,a2,tL a2,dA _ _ _ _ _ _ _ _ rfl (fun j hj=>(match j,hj with|0,_=>rfl|1,_=>rfl)),trivial⟩ (cO.le (st':=⟨Zg u5 u2,ajQ u6 o_ u4 u0 u1 u3 u2 u5⟩) ⟨⟨tR,tR,tR,tR,trivial⟩,hN 4 ⟨rfl,cu ⟨cW,eZ.refl _,trivial⟩,⟨rfl, .refl _,⟨rfl,oW,trivial⟩⟩⟩⟩) ?_
       refine aO h fun⟨a1,a2⟩ h=> ?_
       refine dg tT mX ⟨[(2,vP 1 0),(4,vP 3 0),(7,vI u5),(10,vI ((at' (adB o_ u0 u1 u3 u2 u5) (acv o_ u0 u1 u2)).to_))],ajQ u6 o_ u4 u0 u1 u3 u2 u5⟩ [_,_,_,_] {} [] ⟨a1,tL a1,a2,tL a2,trivial⟩ ?_
       obtain rfl:=oi h
       exact lN
      ·refine cf hb2 ?_
       refine aI (fz (ajl u6 o_ u0 u1 u3 u4) []) ?_
       refine aX ?_
       obtain rfl:=oi h
       exact lB
     ·clear hy
      cases y2 with
      |brk z=>
       obtain⟨v0,rfl⟩: ∃q,q=z:=⟨_,rfl⟩
       unfold dZ
       refine⟨_, .refl, ?_⟩
       refine aX ?_
       obtain rfl:=oi h
       exact qb.off (sl:=UK) (k:=0) (c:= .exit 1) (by kernel_rfl) rfl rfl (by kernel_rfl) (Cw (by kernel_rfl)) (eB.refl _)
      |ret v=>
       obtain rfl:=oi h
       unfold dZ
       intro e st hn ha hR
       cases e with
       |normal=>exact absurd rfl hn
       |exit id=>simp only [qW (b:=3) ha rfl,cond_false];exact hR
       |goto l=>exact hR
       |ret=>exact hR
       |panic c=>exact hR
       |outgrown=>exact hR
    |ret v=>
     obtain rfl:=oi h
     unfold dZ
     intro e st hn ha hR
     cases e with
     |normal=>exact absurd rfl hn
     |exit id=>simp only [qW (b:=3) ha rfl,cond_false];exact hR
     |goto l=>exact hR
     |ret=>exact hR
     |panic c=>exact hR
     |outgrown=>exact hR
def Hl  :bK→Exit→St→Prop:=
  fun r=>bL TT [] (.jl []) [(0,some (.cells 226 [.own 2 false r.l.length])),(1,none),(2,some (bW 164 2 aj.cell r.l))]
section
variable (o_:bK)
abbrev SH:Ob:=(bW 164 2 aj.cell o_.l)
abbrev aex:List (Nat × Option Ob):=[(0,some (.cells 226 [.own 1 false o_.l.length])),(1,some (SH o_))]
end
theorem xk (x:aj) (o_:bK) {r:bK} (h:jF x o_=some r):Fn Try.prog 122 [.one (.ptr 0 0),.agg [cI x.e0,cI x.e1]] (aex o_) (.jl []) [(0,some (.cells 226 [.own 2 false r.l.length])),(1,none),(2,some (bW 164 2 aj.cell r.l))]:=by
 refine fN tT Try.func122 rfl rfl fun B=> ?_
 show bR _ _ _ _ _ _ (Hl r) _
 unfold jF at h
 refine sz tT ⟨[(0,vP 0 0),(3,vD (ow [.int .i64 x.e0,.int .i64 x.e1] 0))],aex o_⟩ {fr:=[(0,5)] } [5] ?_
 refine aO h fun⟨a1,a2⟩ h=> ?_
 refine di tT mX ⟨[],[(0,some (.cells 226 [.own 7 false ((o_.l++[x]).length)])),(1,none),(7,some (bW 164 2 aj.cell (o_.l++[x])))]⟩ [[x].length=1,aZ 1 2 (kg 2 [.int .i64 x.e0,.int .i64 x.e1]) (aS aj.cell [x]),o_.l.length=o_.l.length,_,_,(o_.l++[x]).length=o_.l.length+[x].length,aZ (o_.l.length+[x].length) 2 (Ff (aS aj.cell o_.l) o_.l.length (aS aj.cell [x])) (aS aj.cell (o_.l++[x]))] {an:=[(6, .arr [x].length (aS aj.cell [x])),(7, .arr (o_.l++[x]).length (aS aj.cell (o_.l++[x])))],fr:=[(6,6),(7,7)] } [] ⟨rfl,(by intro i hi j hj;match i,j,hi,hj with|0,0,_,_=>rfl|0,1,_,_=>rfl),rfl,a1,a2,List.length_append,kz _ _ _ _,trivial⟩ (cO.fin (st':=⟨[],[(0,some (.cells 226 [.own 2 false ((o_.l++[x]).length)])),(1,none),(2,some (bW 164 2 aj.cell (o_.l++[x])))]⟩) (cs:=[]) ⟨[],[(0,0),(1,1),(7,2)]⟩ [] (by kernel_rfl) trivial) ?_
 obtain rfl:=oi h
 exact bL.mk (.inl rfl) (p:=[]) (l:=[]) (by kernel_rfl) trivial (eB.refl _) ⟨rfl, .refl _,⟨rfl,trivial,⟨rfl, .refl _,trivial⟩⟩⟩
def FX  :(aj × Bool × bK)→Exit→St→Prop:=
  fun r=>bL TT [.cell 2 164, .tmp 3] (.jl [.agg [cI r.1.e0,cI r.1.e1],sB r.2.1]) [(0,some (.cells 226 [.own 2 false r.2.2.l.length])),(1,none),(2,some (bW 164 2 aj.cell r.2.2.l))]
section
variable (o_:bK)
abbrev alR:List (Nat × Option Ob):=[(0,some (.cells 226 [.own 1 false o_.l.length])),(1,some (SH o_)),(4,some (.cells 164 [cI 0,cI 0]))]
abbrev af3:List (Nat × TV):=[(2,vD (ow [.int .i64 0,.int .i64 0] 0)),(3,vB false)]
abbrev aha:Nat × Option Ob:=(4,some (.cells 164 [cI ((at' o_.l 0).e0),cI ((at' o_.l 0).e1)]))
abbrev amw:List (Nat × TV):=[(2,vD (ow [.int .i64 ((at' o_.l 0).e0),.int .i64 ((at' o_.l 0).e1)] 0)),(3,vB true)]
end
theorem vJ (o_:bK) {r:aj × Bool × bK} (h:je o_=some r):Fn Try.prog 123 [.one (.ptr 0 0)] (aex o_) (.jl [.agg [cI r.1.e0,cI r.1.e1],sB r.2.1]) [(0,some (.cells 226 [.own 2 false r.2.2.l.length])),(1,none),(2,some (bW 164 2 aj.cell r.2.2.l))]:=by
 refine fN tT Try.func123 rfl rfl fun B=> ?_
 show bR _ _ _ _ _ _ (FX r) _
 unfold je at h
 refine sz tT ⟨[(0,vP 0 0),(2,vP 4 0)],alR o_⟩ {fr:=[(0,4)] } [] ?_
 refine aQ (sz tT ⟨[(0,vP 0 0),(2,vP 4 0),(9,vB (decide ((o_.l.length:Int)=0)))],alR o_⟩ {} [] ?_)
 refine bI h (fun hb h=> ?_) (fun hb h=> ?_)
 ·refine ct hb ?_
  refine sz tT ⟨af3,aex o_⟩ {} [4] ?_
  refine aI (.trans (cO.aaI (E0:=226) (cs:=[.own 1 false o_.l.length]) (nn:=false) (len:=o_.l.length) (E:=164) (esz:=2) (n:=o_.l.length) (el:=aS aj.cell o_.l) (p:=0) (q:=0) (b:=1) (b':=5) (by kernel_rfl) (by kernel_rfl) (by kernel_rfl) (by kernel_rfl)) (.trans (fz ⟨af3,[(0,some (.cells 226 [.own 5 false o_.l.length])),(1,none),(5,some (SH o_))]⟩ []) (cO.fin (st':=⟨af3,[(0,some (.cells 226 [.own 2 false o_.l.length])),(1,none),(2,some (SH o_))]⟩) (cs:=[]) ⟨[],[(0,0),(1,1),(5,2)]⟩ [2,3] (by kernel_rfl) trivial))) ?_
  refine aR ?_
  obtain rfl:=oi h
  exact rh [.agg [cI 0,cI 0],sB false] (.refl _) ⟨rfl, .refl _,⟨rfl,trivial,⟨rfl, .refl _,trivial⟩⟩⟩
 ·refine cf hb ?_
  refine aP (aQ (aO h fun⟨a1,a2⟩ h=> ?_))
  refine di tT mX ⟨[(2,vP 4 0)],[(0,some (.cells 226 [.own 6 false (o_.l.length - 1)])),(1,some (SH o_)),aha o_,(6,some (.suf 1 1 2))]⟩ [_,_,o_.l.length=o_.l.length,_] {an:=[(11, .cells)],fr:=[(11,6)] } [] ⟨a1,tL a1,rfl,a2,trivial⟩ (.trans (cO.agG (b:=1) (c:=6) (k:=1) (E:=164) (esz:=2) (cf:=aj.cell) (l:=o_.l) (by kernel_rfl) (by kernel_rfl) (by omega)) (.trans (fz ⟨[(2,vP 4 0)],[(0,some (.cells 226 [.own 6 false (o_.l.length - 1)])),(1,none),aha o_,(6,some (.arr 164 2 (o_.l.length - 1) (aS aj.cell (o_.l.drop 1))))]⟩ []) (cO.le (st':=⟨[(2,vP 4 0)],[(0,some (.cells 226 [.own 6 false ((o_.l.drop 1).length)])),(1,none),aha o_,(6,some (bW 164 2 aj.cell (o_.l.drop 1)))]⟩) ⟨⟨tR,trivial⟩,⟨rfl,cu ⟨cW,trivial⟩,hN 2 ⟨rfl,oW,trivial⟩⟩⟩))) ?_
  refine sz tT ⟨amw o_,[(0,some (.cells 226 [.own 6 false ((o_.l.drop 1).length)])),(1,none),(6,some (bW 164 2 aj.cell (o_.l.drop 1)))]⟩ {} [4] ?_
  refine aI (cO.fin (st':=⟨amw o_,[(0,some (.cells 226 [.own 2 false ((o_.l.drop 1).length)])),(1,none),(2,some (bW 164 2 aj.cell (o_.l.drop 1)))]⟩) (cs:=[]) ⟨[],[(0,0),(1,1),(6,2)]⟩ [2,3] (by kernel_rfl) trivial) ?_
  refine aR ?_
  obtain rfl:=oi h
  exact rh [.agg [cI ((at' o_.l 0).e0),cI ((at' o_.l 0).e1)],sB true] (.refl _) ⟨rfl, .refl _,⟨rfl,trivial,⟨rfl, .refl _,trivial⟩⟩⟩
section
variable (u0:Int)
abbrev abe:List (Nat × TV):=[(2,vP 2 0),(3,vP 3 0),(4,vP 4 0)]
abbrev wB:Nat × Option Ob:=(1,some (.cells 157 [.ptr 5 0]))
abbrev tV:Nat × Option Ob:=(2,some (.cells 157 [.ptr 5 0]))
abbrev tQ:Nat × Option Ob:=(3,some (.cells 3 [cI u0]))
end
def jO (u0:Int):(Nat × (List Int) × aN)→Exit→St→Prop:=
  fun r=>bL TT [] (.jl []) [(0,some (.loop bM r.1 abe)),wB,tV,tQ u0,(4,some (.cells 40 [.own 6 true r.2.1.length])),(5,some (.cells 161 [.own 7 false r.2.2.bP.length,.d (bJ none 1 (Rf 1 (aT .i64)) r.2.2.from_)])),(6,some (bW 3 1 (aT .i64) r.2.1)),(7,some (bW 170 2 bU.cell r.2.2.bP))]
section
variable (u2:List Bool) (u1:List Int) (u4:List (List Int)) (q0:List aj) (u5:Int) (u6:Int)
abbrev fO:Nat × TV:=(0,.v (.one (.yl 0)))
abbrev Ic:Nat × TV:=(3,vO 56 true u2.length)
abbrev acX:List (Nat × TV):=[fO,(1,vP 1 0),Ic u2,(4,vP 57 0),(5,vP 59 0)]
abbrev y7:Nat × Option Ob:=(0,some (.loop bM 0 abe))
abbrev Qb:Nat × Option Ob:=(4,some (.cells 40 [.own 6 true u1.length]))
abbrev VY:DV:=(bJ none 1 (Rf 1 (aT .i64)) u4)
abbrev Qa:Nat × Option Ob:=(6,some (Gy u1))
abbrev SB:Nat × Option Ob:=(56,some (bW 4 1 aF u2))
abbrev Ye:Nat × Option Ob:=(57,some (.cells 226 [.own 58 false q0.length]))
abbrev ZX:Nat × Option Ob:=(58,some (bW 164 2 aj.cell q0))
abbrev Sq:Nat × Option Ob:=(59,some (.cells 164 [cI u5,cI u6]))
end
def nZ (u3:Int):((List bU) × (List (List Int)) × (List Int) × (List Bool) × (List aj) × Int × Int)→St:=
  fun zz=>match zz with|(u0,u4,u1,u2,q0,u5,u6)=> ⟨acX u2,[y7,wB,tV,tQ u3,Qb u1,(5,some (.cells 161 [.own 7 false u0.length,.d (VY u4)])),Qa u1,(7,some (bW 170 2 bU.cell u0)),SB u2,Ye q0,ZX q0,Sq u5 u6]⟩
def oH  :Unit→St:=
  fun _=> ⟨[],[]⟩
def jw (u0:Int):(aY ((List bU) × (List (List Int)) × (List Int) × (List Bool) × (List aj) × Int × Int) (Ex Unit (Nat × (List Int) × aN)))→Exit→St→Prop:=
  LQ 0 [] (nZ u0) oH (jO u0)
section
variable (r_:Nat × (List Int) × aN) (u0:Int) (u3:Int) (u1:List Bool) (u2:List aj) (u4:Int)
abbrev O8:Nat × TV:=(34,vD (bJ none 1 (aT .i64) (at' r_.2.2.from_ u0.toNat)))
abbrev O5:Nat × TV:=(35,vI ((at' r_.2.2.from_ u0.toNat).length:Int))
abbrev Gf:Nat × Option Ob:=(4,some (.cells 40 [.own 6 true r_.2.1.length]))
abbrev GQ:Nat × Option Ob:=(5,some (.cells 161 [.own 7 false r_.2.2.bP.length,.d (bJ none 1 (Rf 1 (aT .i64)) r_.2.2.from_)]))
abbrev GK:Nat × Option Ob:=(6,some (bW 3 1 (aT .i64) r_.2.1))
abbrev F5:Nat × Option Ob:=(7,some (bW 170 2 bU.cell r_.2.2.bP))
abbrev V4:List (Nat × Option Ob):=[y7,wB,tV,tQ u3,Gf r_,GQ r_,GK r_,F5 r_,SB u1,Ye u2,ZX u2,Sq u0 u4]
end
def ou (u3:Int) (u0:Int) (u4:Int) (r_:Nat × (List Int) × aN):((List Bool) × (List aj) × Int)→St:=
  fun zz=>match zz with|(u1,u2,u5)=> ⟨[fO,(1,vP 1 0),Ic u1,(4,vP 57 0),(5,vP 59 0),O8 r_ u0,O5 r_ u0,(36,vI u5)],V4 r_ u0 u3 u1 u2 u4⟩
section
variable (u0:List Bool) (u2:Int) (r_:Nat × (List Int) × aN) (u1:List aj) (u3:Int) (u4:Int)
abbrev ant:St:=⟨acX u0,V4 r_ u3 u2 u0 u1 u4⟩
end
def oF (u2:Int) (u3:Int) (u4:Int) (r_:Nat × (List Int) × aN):((List Bool) × (List aj))→St:=
  fun zz=>match zz with|(u0,u1)=>(ant u0 u2 r_ u1 u3 u4)
def xD (u0:Int) (u1:Int) (u2:Int) (r_:Nat × (List Int) × aN):(aY ((List Bool) × (List aj) × Int) (Ex ((List Bool) × (List aj)) (aY ((List bU) × (List (List Int)) × (List Int) × (List Bool) × (List aj) × Int × Int) (Ex Unit (Nat × (List Int) × aN)))))→Exit→St→Prop:=
  LQ 2 [1] (ou u0 u1 u2 r_) (oF u0 u1 u2 r_) (jw u0)
section
variable (u1:aN) (u2:Int) (v0:List Int) (u9:List bU) (v3:List (List Int)) (r_:Nat × (List Int) × aN) (u0:Int) (u3:Int) (u4:List Bool) (u7:List aj) (u6:Int) (v2:bK) (u5:aj × Bool × bK) (u8:List Bool)
abbrev Un:Nat × Option Ob:=(5,some (.cells 161 [.own 7 false u1.bP.length,.d (O4 u1)]))
abbrev Tx:Nat × Option Ob:=(7,some (bW 170 2 bU.cell u1.bP))
abbrev Vg:=(List.replicate ((u1.from_.length:Int).toNat) (false:Bool))
abbrev am0:List (Nat × TV):=[fO,(1,vP 1 0),(3,vO 56 true ((Vg u1).length))]
abbrev agJ:=(aS aF (Vg u1))
abbrev ahN:=((Vg u1).set 0 true)
abbrev agP:=(aS aF (ahN u1))
abbrev ahC:Nat × TV:=(3,vO 56 true ((ahN u1).length))
abbrev ab3:Nat × Option Ob:=(56,some (bW 4 1 aF (ahN u1)))
abbrev aib:List (Nat × TV):=[fO,(1,vP 1 0),ahC u1,(4,vP 57 0)]
abbrev alB:List (Nat × Option Ob):=[y7,tV,tQ u2,Qb v0,(5,some (.cells 161 [.own 7 false u9.length,.d (VY v3)])),Qa v0,(7,some (bW 170 2 bU.cell u9))]
abbrev amP:List (Nat × Option Ob):=[y7,tV,tQ u2,Gf r_,GQ r_,GK r_,F5 r_]
abbrev agB:Nat × Option Ob:=(0,some (.loop bM r_.1 abe))
abbrev aeh:List (Nat × Option Ob):=[agB r_,tV,tQ u2,Gf r_,GQ r_,GK r_,F5 r_]
abbrev aaR:Nat × TV:=(7,vI (at' (at' r_.2.2.from_ u0.toNat) u3.toNat))
abbrev abn:=(at' r_.2.2.bP ((at' (at' r_.2.2.from_ u0.toNat) u3.toNat).toNat))
abbrev adK:=((abn r_ u0 u3).to_)
abbrev afH:=((abn r_ u0 u3).left)
abbrev ak3:List (Nat × Option Ob):=[y7,wB,tV,tQ u2,Gf r_,GQ r_,GK r_,F5 r_,SB u4,Ye u7,ZX u7,Sq u0 u6,(99,some (.cells 170 [cI (adK r_ u0 u3),cI (afH r_ u0 u3)]))]
abbrev WB:=(decide (0<(afH r_ u0 u3)))
abbrev ain:=((adK r_ u0 u3).toNat)
abbrev anC:=(gY [(3,WB r_ u0 u3)])
abbrev ak4:Nat × TV:=(8,vD (ow [.int .i64 (adK r_ u0 u3),.int .i64 (afH r_ u0 u3)] 0))
abbrev afD:=(u4.set (ain r_ u0 u3) true)
abbrev agD:=(aS aF (afD r_ u0 u3 u4))
abbrev agd:Nat × TV:=(3,vO 56 true ((afD r_ u0 u3 u4).length))
abbrev agz:Nat × Option Ob:=(56,some (bW 4 1 aF (afD r_ u0 u3 u4)))
abbrev ajN:List (Nat × Option Ob):=[y7,wB,tV,tQ u2,Gf r_,GQ r_,GK r_,F5 r_,agz r_ u0 u3 u4,(57,some (.cells 226 [.own 100 false v2.l.length])),Sq u0 u6,(100,some (SH v2))]
abbrev aek:Nat × TV:=(36,k3 u3)
abbrev akw:List (Nat × TV):=[fO,(1,vP 1 0),agd r_ u0 u3 u4,(4,vP 57 0),(5,vP 59 0),O8 r_ u0,O5 r_ u0,aek u3]
abbrev ads:Nat × Option Ob:=(57,some (.cells 226 [.own 101 false u5.2.2.l.length]))
abbrev ac0:Nat × Option Ob:=(101,some (bW 164 2 aj.cell u5.2.2.l))
abbrev Uv:Ob:=(.cells 164 [cI u5.1.e0,cI u5.1.e1])
abbrev aiX:List (Nat × Option Ob):=[y7,wB,tV,tQ u2,Gf r_,GQ r_,GK r_,F5 r_,SB u8,ads u5,Sq u0 u6,ac0 u5,(102,some (Uv u5))]
end
theorem oh (u2:Int) (o_:List Int) (u1:aN) {r:Nat × (List Int) × aN} (h:gG u2 o_ u1=some r):Fn Try.prog 121 [.one (.yl 0),.one (.ptr 1 0)] [y7,wB,tV,tQ u2,Qb o_,Un u1,Qa o_,Tx u1] (.jl []) [(0,some (.loop bM r.1 abe)),wB,tV,tQ u2,(4,some (.cells 40 [.own 6 true r.2.1.length])),(5,some (.cells 161 [.own 7 false r.2.2.bP.length,.d (bJ none 1 (Rf 1 (aT .i64)) r.2.2.from_)])),(6,some (bW 3 1 (aT .i64) r.2.1)),(7,some (bW 170 2 bU.cell r.2.2.bP))]:=by
 refine fN tT Try.func121 rfl rfl fun B=> ?_
 show bR _ _ _ _ _ _ ((jO u2) r) _
 unfold gG at h
 refine aQ (aO h fun⟨a1,a2,a3⟩ h=> ?_)
 refine rg tT ⟨am0 u1,[y7,wB,tV,tQ u2,Qb o_,Un u1,Qa o_,Tx u1,(56,some (bW 4 1 aF (Vg u1)))]⟩ [_,((u1.from_.length:Int):Int)=(u1.from_.length:Int),_,_,(Vg u1).length=((u1.from_.length:Int).toNat),aZ ((u1.from_.length:Int).toNat) 1 (fun _ j=>[.bool false].getD j .nilp) (agJ u1)] {an:=[(5, .arr (Vg u1).length (agJ u1))],fr:=[(5,56)] } [] ⟨a1,rfl,a2,a3,List.length_replicate,fe _ _ _ _ _ (fun j hj=>(match j,hj with|0,_=>rfl)),trivial⟩ ?_
 refine aQ (aO h fun a1 h=> ?_)
 refine ri tT ⟨am0 u1,[y7,wB,tV,tQ u2,Qb o_,Un u1,Qa o_,Tx u1,(56,some (.arr 4 1 (Vg u1).length (agP u1)))]⟩ [_,_,aZ (Vg u1).length 1 (lZ (agJ u1) 0 0 [.bool true]) (agP u1)] {an:=[(2, .arr 0 (agP u1))] } [] ⟨a1,tL a1,dA _ _ _ _ _ _ _ _ rfl (fun j hj=>(match j,hj with|0,_=>rfl)),trivial⟩ (cO.le (st':=⟨[fO,(1,vP 1 0),ahC u1],[y7,wB,tV,tQ u2,Qb o_,Un u1,Qa o_,Tx u1,ab3 u1]⟩) ⟨⟨tR,tR,⟨_,rfl,eB.v (fG.one cW)⟩,trivial⟩,hN 8 ⟨rfl,oW,trivial⟩⟩) ?_
 refine si tT ⟨aib u1,[y7,wB,tV,tQ u2,Qb o_,Un u1,Qa o_,Tx u1,ab3 u1,(57,some (.cells 226 [.d nS]))]⟩ [] {fr:=[(0,57)] } [] trivial (.trans (cO.Dl (E:=0) (esz:=0) (E0:=226) (cs:=[.d nS]) (p:=57) (q:=0) (b:=58) (esz0:=0) (el0:=fun _ _=> .nilp) (ob:= .arr 164 2 0 (aS aj.cell ([]:List aj))) (fun _ _ _ _ h=> .inl ⟨h,rfl⟩) (by kernel_rfl) (by kernel_rfl) (by kernel_rfl)) (.trans (fz ⟨aib u1,[y7,wB,tV,tQ u2,Qb o_,Un u1,Qa o_,Tx u1,ab3 u1,(57,some (.cells 226 [.own 58 false 0])),(58,some (.arr 164 2 0 (aS aj.cell ([]:List aj))))]⟩ []) (cO.le (st':=⟨aib u1,[y7,wB,tV,tQ u2,Qb o_,Un u1,Qa o_,Tx u1,ab3 u1,(57,some (.cells 226 [.own 58 false (([]:List aj).length)])),(58,some (bW 164 2 aj.cell ([]:List aj)))]⟩) ⟨⟨tR,tR,tR,tR,trivial⟩,hN 9 ⟨rfl,cu ⟨cW,trivial⟩,⟨rfl,oW,trivial⟩⟩⟩))) ?_
 refine sz tT ⟨[fO,(1,vP 1 0),ahC u1,(4,vP 57 0),(5,vP 59 0)],[y7,wB,tV,tQ u2,Qb o_,Un u1,Qa o_,Tx u1,ab3 u1,(57,some (.cells 226 [.own 58 false (([]:List aj).length)])),(58,some (bW 164 2 aj.cell ([]:List aj))),(59,some (.cells 164 [cI 0,cI (-1)]))]⟩ {fr:=[(1,59)] } [] ?_
 refine bE h fun y1 hy h=> ?_
 refine aL [] (nZ u2) oH (jO u2) hy (fun s f h=> ?_) ?_
 ·clear hy
  show bR _ _ _ _ _ _ ((jw u2) f) _
  unfold gT at h
  obtain⟨u9,v3,v0,v1,q0,u0,u6⟩:=s
  refine aQ (aB (aQ (aQ (bE h fun r_ hr_ h=> ?_))))
  refine bI h (fun hb h=> ?_) (fun hb h=> ?_)
  ·skip
   refine rg tT ⟨[fO,(1,vP 1 0),Ic v1,(4,vP 57 0),(5,vP 59 0),(26,vB false)],V4 r_ u0 u2 v1 q0 u6⟩ [(0:Int)≤0∧(0:Int)<(2:Nat),(0:Int)≤1∧(1:Int)<(2:Nat),Yl Try.prog 0 [sI u0,sI u6] (alB u2 v0 u9 v3) (vB true) (amP u2 r_)] {an:=[(5, .call [0,2,3,4,5,6,7] (vB true) (amP u2 r_))] } [] ⟨(by decide),(by decide),Yl.leR (res:=(vB (Nat.beq r_.1 0))) (hout:=(aeh u2 r_)) (yK [(1,2),(1,3),(1,4),(1,5),(1,6),(1,7)] (om u0 u6 u2 v0 (⟨u9,v3⟩:aN) hr_)) (eB.of (congrArg vB hb)) ⟨rfl,XZ.of (congrArg (fun n=>some (Ob.loop bM n abe)) (Nat.eq_of_beq_eq_true hb)),.refl _⟩,trivial⟩ ?_
   refine cn (aP (aQ (aQ (aO h fun a1 h=> ?_))))
   refine dg tT mX ⟨[fO,(1,vP 1 0),Ic v1,(4,vP 57 0),(5,vP 59 0),O8 r_ u0,O5 r_ u0,(36,vI 0)],V4 r_ u0 u2 v1 q0 u6⟩ [(0:Int)≤0∧(0:Int)<(2:Nat),_] {} [] ⟨(by decide),a1,trivial⟩ ?_
   refine bE h fun y hy h=> ?_
   refine aL [1] (ou u2 u0 u6 r_) (oF u2 u0 u6 r_) (jw u2) hy (fun s f h=> ?_) ?_
   ·clear hy
    show bR _ _ _ _ _ _ ((xD u2 u0 u6 r_) f) _
    unfold dQ at h
    obtain⟨u4,u7,u3⟩:=s
    refine sz tT ⟨[fO,(1,vP 1 0),Ic u4,(4,vP 57 0),(5,vP 59 0),O8 r_ u0,O5 r_ u0,(36,vI u3),(37,vB (decide (u3<((at' r_.2.2.from_ u0.toNat).length:Int))))],V4 r_ u0 u2 u4 u7 u6⟩ {} [] ?_
    refine aQ ?_
    refine bI h (fun hb2 h=> ?_) (fun hb2 h=> ?_)
    ·refine ct hb2 ?_
     refine aP (aQ (aB (aQ (aO h fun a1 h=> ?_))))
     refine rg tT ⟨[fO,(1,vP 1 0),Ic u4,(4,vP 57 0),(5,vP 59 0),aaR r_ u0 u3,O8 r_ u0,O5 r_ u0,(36,vI u3)],V4 r_ u0 u2 u4 u7 u6⟩ [_] {} [] ⟨a1,trivial⟩ ?_
     refine aQ (aO h fun a1 h=> ?_)
     refine rg tT ⟨[fO,(1,vP 1 0),Ic u4,(4,vP 57 0),(5,vP 59 0),aaR r_ u0 u3,(8,vP 99 0),O8 r_ u0,O5 r_ u0,(36,vI u3)],ak3 u2 r_ u0 u3 u4 u7 u6⟩ [_,_] {fr:=[(7,99)] } [] ⟨a1,tL a1,trivial⟩ ?_
     refine aQ (aO h fun a1 h=> ?_)
     refine rg tT ⟨[fO,(1,vP 1 0),Ic u4,(4,vP 57 0),(5,vP 59 0),aaR r_ u0 u3,(8,vP 99 0),O8 r_ u0,O5 r_ u0,(36,vI u3),(57,vB (bif (WB r_ u0 u3)then(!(at' u4 (ain r_ u0 u3)))else false))],ak3 u2 r_ u0 u3 u4 u7 u6⟩ (eqs (WB r_ u0 u3) 4 ((gP (anC r_ u0 u3) [(3,true)]→All [(0:Int)≤(abn r_ u0 u3).to_∧(abn r_ u0 u3).to_<(u4.length:Int)])::((WB r_ u0 u3)=(WB r_ u0 u3))::(gP (anC r_ u0 u3) [(3,true)]→All [(adK r_ u0 u3).toNat<u4.length])::(eqs (WB r_ u0 u3) 2 []))) {yb:=[(3,WB r_ u0 u3)] } [] (ae ⟨(fun hg=> ⟨a1 (bC hg),trivial⟩),rfl,(fun hg=> ⟨(fun hq=>tL (a1 hq)) (bC hg),trivial⟩),ae trivial⟩) ?_
     refine bI h (fun hb1 h=> ?_) (fun hb1 h=> ?_)
     ·refine ct hb1 ?_
      refine aQ (aO h fun a1 h=> ?_)
      refine ri tT ⟨[fO,(1,vP 1 0),Ic u4,(4,vP 57 0),(5,vP 59 0),aaR r_ u0 u3,ak4 r_ u0 u3,O8 r_ u0,O5 r_ u0,(36,vI u3)],[y7,wB,tV,tQ u2,Gf r_,GQ r_,GK r_,F5 r_,(56,some (.arr 4 1 u4.length (agD r_ u0 u3 u4))),Ye u7,ZX u7,Sq u0 u6]⟩ [_,_,aZ u4.length 1 (lZ (aS aF u4) (ain r_ u0 u3) 0 [.bool true]) (agD r_ u0 u3 u4)] {an:=[(4, .arr 0 (agD r_ u0 u3 u4))] } [99] ⟨a1,tL a1,dA _ _ _ _ _ _ _ _ rfl (fun j hj=>(match j,hj with|0,_=>rfl)),trivial⟩ (cO.le (st':=⟨[fO,(1,vP 1 0),agd r_ u0 u3 u4,(4,vP 57 0),(5,vP 59 0),aaR r_ u0 u3,ak4 r_ u0 u3,O8 r_ u0,O5 r_ u0,(36,vI u3)],[y7,wB,tV,tQ u2,Gf r_,GQ r_,GK r_,F5 r_,agz r_ u0 u3 u4,Ye u7,ZX u7,Sq u0 u6]⟩) ⟨⟨tR,tR,⟨_,rfl,eB.v (fG.one cW)⟩,tR,tR,tR,tR,tR,tR,tR,trivial⟩,hN 8 ⟨rfl,oW,.refl _⟩⟩) ?_
      refine bE h fun v2 hr_1 h=> ?_
      have q0:=rk [(0,57),(1,58),(2,100)] (xk (⟨(abn r_ u0 u3).to_,at' (at' r_.2.2.from_ u0.toNat) u3.toNat⟩:aj) (⟨u7⟩:bK) hr_1)
      refine rg tT ⟨[fO,(1,vP 1 0),agd r_ u0 u3 u4,(4,vP 57 0),(5,vP 59 0),O8 r_ u0,O5 r_ u0,(36,vI u3)],ajN u2 r_ u0 u3 u4 u6 v2⟩ [_] {an:=[(4,cA q0 [57,58])] } [] ⟨q0,trivial⟩ ?_
      refine ri tT ⟨akw r_ u0 u3 u4,ajN u2 r_ u0 u3 u4 u6 v2⟩ [] {} [] trivial (cO.fin (st':=⟨akw r_ u0 u3 u4,[y7,wB,tV,tQ u2,Gf r_,GQ r_,GK r_,F5 r_,agz r_ u0 u3 u4,(57,some (.cells 226 [.own 58 false v2.l.length])),(58,some (SH v2)),Sq u0 u6]⟩) (cs:=[]) ⟨[],[(0,0),(1,1),(2,2),(3,3),(4,4),(5,5),(6,6),(7,7),(56,56),(57,57),(100,58),(59,59)]⟩ [0,1,3,4,5,34,35,36] (by kernel_rfl) trivial) ?_
      obtain rfl:=oi h
      exact lN
     ·refine cf hb1 ?_
      refine aP (rz tT ⟨[fO,(1,vP 1 0),Ic u4,(4,vP 57 0),(5,vP 59 0),O8 r_ u0,O5 r_ u0,aek u3],V4 r_ u0 u2 u4 u7 u6⟩ {} [] ?_)
      obtain rfl:=oi h
      exact lN
    ·refine cf hb2 ?_
     refine aI (fz (ant u4 u2 r_ u7 u0 u6) []) ?_
     refine aX ?_
     obtain rfl:=oi h
     exact lB
   ·clear hy
    cases y with
    |brk z=>
     obtain⟨u8,v4⟩:=z
     unfold dZ
     refine⟨_, .refl, ?_⟩
     refine aQ (bE h fun u5 hr_2 h=> ?_)
     have q0:=rk [(0,57),(1,58),(2,101)] (vJ (⟨v4⟩:bK) hr_2)
     refine rg tT ⟨[fO,(1,vP 1 0),Ic u8,(4,vP 57 0),(5,vP 59 0),(9,vP 102 0),(10,vB u5.2.1)],aiX u2 r_ u0 u6 u5 u8⟩ [_] {an:=[(0,cA q0 [57,58])],fr:=[(4,102)] } [] ⟨q0,trivial⟩ ?_
     refine aQ (sz tT ⟨[fO,(1,vP 1 0),Ic u8,(4,vP 57 0),(5,vP 59 0),(9,vP 102 0),(73,vB (!u5.2.1))],aiX u2 r_ u0 u6 u5 u8⟩ {} [] ?_)
     refine bI h (fun hb3 h=> ?_) (fun hb3 h=> ?_)
     ·refine ct hb3 ?_
      refine aI (fz ⟨[],[y7,wB,tV,tQ u2,Gf r_,GQ r_,GK r_,F5 r_]⟩ []) ?_
      refine aR ?_
      obtain rfl:=oi h
      exact lR dw (dm 0) dz (bL.mk (.inr rfl) (p:=[]) (l:=[]) (by kernel_rfl) trivial (eB.refl _) (.refl _))
     ·refine cf hb3 ?_
      refine aP (rz tT ⟨acX u8,[y7,wB,tV,tQ u2,Gf r_,GQ r_,GK r_,F5 r_,SB u8,ads u5,(59,some (Uv u5)),ac0 u5]⟩ {} [] ?_)
      refine sz tT ⟨[fO,(1,vP 1 0),Ic u8,(4,vP 57 0),(75,.v (.agg [cI u5.1.e0,cI u5.1.e1]))],[y7,wB,tV,tQ u2,Gf r_,GQ r_,GK r_,F5 r_,SB u8,ads u5,ac0 u5]⟩ {} [] ?_
      refine ri tT ⟨[fO,(1,vP 1 0),Ic u8,(4,vP 57 0),(5,vP 103 0)],[y7,wB,tV,tQ u2,Gf r_,GQ r_,GK r_,F5 r_,SB u8,ads u5,ac0 u5,(103,some (Uv u5))]⟩ [] {fr:=[(0,103)] } [] trivial (cO.fin (st':=⟨acX u8,[y7,wB,tV,tQ u2,Gf r_,GQ r_,GK r_,F5 r_,SB u8,(57,some (.cells 226 [.own 58 false u5.2.2.l.length])),(58,some (bW 164 2 aj.cell u5.2.2.l)),(59,some (Uv u5))]⟩) (cs:=[]) ⟨[],[(0,0),(1,1),(2,2),(3,3),(4,4),(5,5),(6,6),(7,7),(56,56),(57,57),(101,58),(103,59)]⟩ [0,1,3,4,5] (by kernel_rfl) trivial) ?_
      obtain rfl:=oi h
      exact lN
    |ret v=>
     obtain rfl:=oi h
     unfold dZ
     intro e st hn ha hR
     cases e with
     |normal=>exact absurd rfl hn
     |exit id=>simp only [qW (b:=1) ha rfl,cond_false];exact hR
     |goto l=>exact hR
     |ret=>exact hR
     |panic c=>exact hR
     |outgrown=>exact hR
  ·skip
   refine rg tT ⟨[fO,(1,vP 1 0),Ic v1,(4,vP 57 0),(5,vP 59 0),(26,vB true)],[agB r_,wB,tV,tQ u2,Gf r_,GQ r_,GK r_,F5 r_,SB v1,Ye q0,ZX q0,Sq u0 u6]⟩ [(0:Int)≤0∧(0:Int)<(2:Nat),(0:Int)≤1∧(1:Int)<(2:Nat),Yl Try.prog 0 [sI u0,sI u6] (alB u2 v0 u9 v3) (vB false) (aeh u2 r_)] {an:=[(5, .call [0,2,3,4,5,6,7] (vB false) (aeh u2 r_))] } [] ⟨(by decide),(by decide),Yl.leR (res:=(vB (Nat.beq r_.1 0))) (hout:=(aeh u2 r_)) (yK [(1,2),(1,3),(1,4),(1,5),(1,6),(1,7)] (om u0 u6 u2 v0 (⟨u9,v3⟩:aN) hr_)) (eB.of (congrArg vB hb)) (.refl _),trivial⟩ ?_
   refine ck (aI (fz ⟨[],[agB r_,wB,tV,tQ u2,Gf r_,GQ r_,GK r_,F5 r_]⟩ []) ?_)
   refine aR ?_
   obtain rfl:=oi h
   exact lR dw (dm 0) dz (bL.mk (.inr rfl) (p:=[]) (l:=[]) (by kernel_rfl) trivial (eB.refl _) (.refl _))
 ·clear hy
  cases y1 with
  |brk z=>exact absurd h (by simp)
  |ret v=>
   obtain rfl:=oi h
   unfold dZ
   intro e st hn ha hR
   cases e with
   |normal=>exact absurd rfl hn
   |exit id=>exact hR
   |goto l=>exact hR
   |ret=>exact hR
   |panic c=>exact hR
   |outgrown=>exact hR
def jX  :aN→Exit→St→Prop:=
  fun r=>bL TT [] (.jl []) [(0,some (.cells 161 [.own 1 false r.bP.length,.d (bJ none 1 (Rf 1 (aT .i64)) r.from_)])),(1,some (bW 170 2 bU.cell r.bP))]
section
variable (o0:List bU) (o1:List (List Int)) (u0:Int)
abbrev adW:Nat × Option Ob:=(0,some (.cells 161 [.own 1 false o0.length,.d (VY o1)]))
abbrev Uu:Nat × Option Ob:=(20,some (.cells 157 [.ptr 0 0]))
abbrev Ta:Nat × Option Ob:=(21,some (.cells 3 [cI u0]))
end
def mK (u0:Int):((List bU) × (List (List Int)))→St:=
  fun zz=>match zz with|(o0,o1)=> ⟨[(2,vP 20 0),(3,vP 21 0)],[adW o0 o1,(1,some (bW 170 2 bU.cell o0)),Uu,Ta u0]⟩
def mJ  :Unit→St:=
  fun _=> ⟨[],[]⟩
def CX (u0:Int):(aY ((List bU) × (List (List Int))) (Ex Unit aN))→Exit→St→Prop:=
  LQ 0 [] (mK u0) mJ (SQ1 jX)
section
variable (o1:List (List Int)) (u0:Nat × (List Int) × aN) (u1:Int) (o0:List bU)
abbrev Xq:List (Nat × TV):=[(2,vP 20 0),(3,vP 21 0),(4,vP 35 0)]
abbrev UU:=(List.replicate ((o1.length:Int).toNat) (0:Int))
abbrev ahj:Nat × Option Ob:=(34,some (bW 3 1 (aT .i64) (UU o1)))
abbrev agl:Nat × Option Ob:=(35,some (.cells 40 [.own 34 true ((UU o1).length)]))
abbrev anv:List (Nat × TV):=[(2,vP 20 0),(3,vP 21 0),(4,vP 35 0),(18,.v (.one (.fn 121 0 1 (EN [.ptr 36 0]))))]
abbrev ad2:Nat × Option Ob:=(36,some (.cells 157 [.ptr 0 0]))
abbrev aeJ:Nat × Option Ob:=(0,some (.cells 161 [.own 1 false u0.2.2.bP.length,.d (bJ none 1 (Rf 1 (aT .i64)) u0.2.2.from_)]))
abbrev aeI:Nat × Option Ob:=(1,some (bW 170 2 bU.cell u0.2.2.bP))
abbrev amD:List (Nat × Option Ob):=[(37,some (.loop bM u0.1 Xq)),ad2,Uu,Ta u1,(35,some (.cells 40 [.own 34 true u0.2.1.length])),aeJ u0,(34,some (bW 3 1 (aT .i64) u0.2.1)),aeI u0]
abbrev akq:List (Nat × Option Ob):=[(37,some (.loop bM 0 Xq)),ad2,Uu,Ta u1,agl o1,adW o0 o1,ahj o1,(1,some (bW 170 2 bU.cell o0))]
abbrev akR:St:=⟨anv,[aeJ u0,aeI u0,Uu,Ta u1,(34,some (bW 3 1 (aT .i64) u0.2.1)),(35,some (.cells 40 [.own 34 true u0.2.1.length])),ad2]⟩
end
theorem rQ (u1:Int) (u2:aN) {r:aN} (h:jo u1 u2=some r):Fn Try.prog 80 [.one (.ptr 0 0),sI u1] (ajZ u2) (.jl []) [(0,some (.cells 161 [.own 1 false r.bP.length,.d (bJ none 1 (Rf 1 (aT .i64)) r.from_)])),(1,some (bW 170 2 bU.cell r.bP))]:=by
 refine fN tT Try.func80 rfl rfl fun B=> ?_
 show bR _ _ _ _ _ _ (jX r) _
 unfold jo at h
 refine sz tT ⟨[(2,vP 20 0),(3,vP 21 0)],[aej u2,aaz u2,Uu,Ta u1]⟩ {fr:=[(0,20),(1,21)] } [] ?_
 refine WT ?_
 refine aQ (ZO ?_)
 refine bE h fun y hy h=> ?_
 refine aL [] (mK u1) mJ (SQ1 jX) hy (fun s f h=> ?_) ?_
 ·clear hy
  show bR _ _ _ _ _ _ ((CX u1) f) _
  unfold jA at h
  obtain⟨o0,o1⟩:=s
  refine aB (aQ (aO h fun⟨a1,a2,a3⟩ h=> ?_))
  refine rg tT ⟨Xq,[adW o0 o1,(1,some (bW 170 2 bU.cell o0)),Uu,Ta u1,ahj o1,agl o1]⟩ [_,((o1.length:Int):Int)=(o1.length:Int),_,_,(UU o1).length=((o1.length:Int).toNat),aZ ((o1.length:Int).toNat) 1 (fun _ j=>[.int .i64 0].getD j .nilp) (aS (aT .i64) (UU o1))] {an:=[(5, .arr (UU o1).length (aS (aT .i64) (UU o1)))],fr:=[(5,34),(6,35)] } [] ⟨a1,rfl,a2,a3,List.length_replicate,fe _ _ _ _ _ (fun j hj=>(match j,hj with|0,_=>rfl)),trivial⟩ ?_
  refine aQ (aQ (bE h fun r_ hr_ h=> ?_))
  have q0:=rk [(2,36)] (ko (⟨o0,o1⟩:aN) hr_)
  refine rg tT ⟨anv,[adW o0 o1,(1,some (bW 170 2 bU.cell o0)),Uu,Ta u1,ahj o1,agl o1,ad2]⟩ [_] {an:=[(1,cA q0 [0,1])] } [] ⟨q0,trivial⟩ ?_
  refine aB (bE h fun u0 hr_1 h=> ?_)
  refine bI h (fun hb h=> ?_) (fun hb h=> ?_)
  ·skip
   refine mg 37 Xq [.exit 1] [37,36,20,21,35,0,34,1] (.jl []) (amD u0 u1) (.v (.one (.fn 121 0 1 (EN [.ptr 36 0])))) 121 [] [.ptr 36 0] (akq o1 u1 o0) [.one (.yl 37),.one (.ptr 36 0)] bM u0.1 Xq (by kernel_rfl) (by kernel_rfl) (by kernel_rfl) (by kernel_rfl) (by kernel_rfl) (by kernel_rfl) (by kernel_rfl) (rK [(0,37),(1,36),(2,20),(3,21),(4,35),(5,0),(6,34),(7,1)] (oh u1 (UU o1) (⟨o0,o1⟩:aN) hr_1)) (by kernel_rfl) rfl (IG.zero (Nat.eq_of_beq_eq_true hb)) (cO.fin (st':=(akR u0 u1)) (cs:=[]) ⟨[],[(0,0),(1,1),(20,20),(21,21),(34,34),(35,35),(36,36)]⟩ [2,3,4,18] (by kernel_rfl) trivial) ?_
   refine aI (fz ⟨[],[aeJ u0,aeI u0]⟩ []) ?_
   refine aR ?_
   obtain rfl:=oi h
   exact lR dw (dm 0) dz (ahJ (bL.mk (.inr rfl) (p:=[]) (l:=[]) (by kernel_rfl) trivial (eB.refl _) (.refl _)))
  ·skip
   refine aO h fun a1 h=> ?_
   refine mg 37 Xq [.exit 1] [37,36,20,21,35,0,34,1] (.jl []) (amD u0 u1) (.v (.one (.fn 121 0 1 (EN [.ptr 36 0])))) 121 [] [.ptr 36 0] (akq o1 u1 o0) [.one (.yl 37),.one (.ptr 36 0)] bM u0.1 Xq (by kernel_rfl) (by kernel_rfl) (by kernel_rfl) (by kernel_rfl) (by kernel_rfl) (by kernel_rfl) (by kernel_rfl) (rK [(0,37),(1,36),(2,20),(3,21),(4,35),(5,0),(6,34),(7,1)] (oh u1 (UU o1) (⟨o0,o1⟩:aN) hr_1)) (by kernel_rfl) rfl (IG.an7 (k:=0) (e:=(.exit 1)) a1 rfl rfl rfl) (.trans (cO.fin (st':=(akR u0 u1)) (cs:=[]) ⟨[],[(0,0),(1,1),(20,20),(21,21),(34,34),(35,35),(36,36)]⟩ [2,3,4,18] (by kernel_rfl) trivial) (cO.fin (st':=⟨[(2,vP 20 0),(3,vP 21 0)],[aeJ u0,aeI u0,Uu,Ta u1]⟩) (cs:=[]) ⟨[],[(0,0),(1,1),(20,20),(21,21)]⟩ [2,3] (by kernel_rfl) trivial)) ?_
   obtain rfl:=oi h
   exact XF (b:=0) (av:=[]) (S:=(mK u1)) (Sb:=mJ) (Qo:=(SQ1 jX)) (by kernel_rfl)
 ·clear hy
  cases y with
  |brk z=>exact absurd h (by simp)
  |ret v=>
   obtain rfl:=oi h
   unfold dZ
   intro e st hn ha hR
   cases e with
   |normal=>exact absurd rfl hn
   |exit id=>exact hR
   |goto l=>exact hR
   |ret=>exact hR
   |panic c=>exact hR
   |outgrown=>exact hR
noncomputable def fF:qN:=⟨[236,237],MV ([1,1,1,1,1,1,1,1,1,1,1,1,1,1,0,1,0]++[0]) (qg Try.f32),MV ([1,1,1,1,1,1,1,1,1,1,1,1,1,1,0,1,0]++[1]) (qg Try.f32),252,[]⟩
section
variable (u0:au)
abbrev YU:List (Nat × TV):=[(2,vP 1 0),(28,vP 2 0)]
abbrev yB:Nat × Option Ob:=(0,some (.loop fF 0 YU))
abbrev vS:Nat × Option Ob:=(1,some (k50 u0))
end
def F4 (u0:au):(List Bool)→Exit→St→Prop:=
  fun r=>qb 0 fF (vB true) [yB,vS u0,(2,some (.cells 27 [.own 3 true r.length])),(3,some (bW 4 1 aF r))]
section
variable (o_:List Bool) (u0:au) (u1:Int)
abbrev AZ:Nat × Option Ob:=(2,some (.cells 27 [.own 3 true o_.length]))
abbrev yL:Nat × Option Ob:=(3,some (bW 4 1 aF o_))
abbrev R4:List (Nat × Option Ob):=[yB,vS u0,AZ o_,yL o_]
abbrev afQ:Nat × Option Ob:=(0,some (.loop fF 1 YU))
abbrev agL:List (Nat × Option Ob):=[afQ,vS u0,AZ o_,yL o_]
abbrev aid:=(aS aF (o_.set ((Qj u1).toNat) true))
end
theorem FH (u1:Int) (u2:Int) (u0:au) (o_:List Bool) {r:List Bool} (h:kE u1 u2 u0 o_=some r):Yl Try.prog 0 [sI u1,sI u2] (R4 o_ u0) (vB true) [yB,vS u0,(2,some (.cells 27 [.own 3 true r.length])),(3,some (bW 4 1 aF r))]:=by
 refine Jh (r:=fF) (sl:=YU) (sl1:=[(2,vP 1 0),(28,vP 2 0),(29,vI u1)]) (h1:=(R4 o_ u0)) (sl2:=YU) (by kernel_rfl) rfl rfl (by kernel_rfl) (fun rd B=> ?_) (by kernel_rfl) (fun rd B=> ?_)
 ·refine vR (c:=MV ([1,1,1,1,1,1,1,1,1,1,1,1,1,1,0,1,0]++[0]) (qg Try.f32)) rfl ?_
  refine rA (st:=⟨[(236,vI u1),(237,vI u2),(2,vP 1 0),(28,vP 2 0)],R4 o_ u0⟩) (by kernel_rfl) ?_
  refine rz tT ⟨[(2,vP 1 0),(28,vP 2 0),(29,vI u1)],R4 o_ u0⟩ {} [] ?_
  exact⟨rfl,rfl⟩
 ·refine vR (c:=MV ([1,1,1,1,1,1,1,1,1,1,1,1,1,1,0,1,0]++[1]) (qg Try.f32)) rfl ?_
  refine rA (st:=⟨[(2,vP 1 0),(28,vP 2 0),(29,vI u1)],agL o_ u0⟩) (by kernel_rfl) ?_
  show bR _ _ _ _ _ _ ((F4 u0) r) _
  unfold kE at h
  refine aB (sg tT ⟨[(28,vP 2 0),(29,vI u1),(245,vB (bif (decide (0<u1))then(decide (u1≤u0.ax))else false))],agL o_ u0⟩ (eqs (decide (0<u1)) 5 []) {yb:=[(2,decide (0<u1))] } [] (ae trivial) ?_)
  refine bI h (fun hb h=> ?_) (fun hb h=> ?_)
  ·refine ct hb ?_
   refine aO h fun a1 h=> ?_
   refine ri tT ⟨[],[afQ,vS u0,AZ o_,(3,some (.arr 4 1 o_.length (aid o_ u1)))]⟩ [_,_,aZ o_.length 1 (lZ (aS aF o_) ((Qj u1).toNat) 0 [.bool true]) (aid o_ u1)] {an:=[(4, .arr 0 (aid o_ u1))] } [] ⟨a1,tL a1,dA _ _ _ _ _ _ _ _ rfl (fun j hj=>(match j,hj with|0,_=>rfl)),trivial⟩ (cO.le (st':=⟨[],[afQ,vS u0,(2,some (.cells 27 [.own 3 true ((o_.set ((Qj u1).toNat) true).length)])),(3,some (bW 4 1 aF (o_.set ((Qj u1).toNat) true)))]⟩) ⟨trivial,hN 2 ⟨rfl,cu ⟨cW,trivial⟩,⟨rfl,oW,trivial⟩⟩⟩) ?_
   obtain rfl:=oi h
   exact qb.on (sl:=YU) (by kernel_rfl) (Cw (by kernel_rfl)) (eB.refl _)
  ·refine cf hb ?_
   refine aI (fz ⟨[],agL o_ u0⟩ []) ?_
   refine aP ?_
   obtain rfl:=oi h
   exact qb.on (sl:=YU) (by kernel_rfl) (Cw (by kernel_rfl)) (eB.refl _)
def iZ (u0:au):(List Bool)→Exit→St→Prop:=
  fun r=>bL TT [] (.jl []) [yB,vS u0,(2,some (.cells 27 [.own 3 true r.length])),(3,some (bW 4 1 aF r))]
section
variable (x1:List bU) (u3:List (List Int)) (u2:List Bool) (q0:List aj) (u4:Int) (u5:Int) (u0:au) (u1:List Bool)
abbrev Bc:Nat × TV:=(1,vD (ow [ow [bJ none 2 bU.cell x1,VY u3] 0] 0))
abbrev Jb:Nat × TV:=(3,vO 52 true u2.length)
abbrev agw:List (Nat × TV):=[fO,Bc x1 u3,Jb u2,(4,vP 53 0),(5,vP 55 0)]
abbrev V9:Nat × Option Ob:=(52,some (bW 4 1 aF u2))
abbrev aeG:Nat × Option Ob:=(53,some (.cells 226 [.own 54 false q0.length]))
abbrev aeF:Nat × Option Ob:=(54,some (bW 164 2 aj.cell q0))
abbrev VQ:Nat × Option Ob:=(55,some (.cells 164 [cI u4,cI u5]))
abbrev Vy:List (Nat × Option Ob):=[yB,vS u0,AZ u1,yL u1,V9 u2,aeG q0,aeF q0,VQ u4 u5]
abbrev ah2:St:=⟨agw x1 u3 u2,Vy u2 q0 u4 u5 u0 u1⟩
end
def lq (x1:List bU) (u3:List (List Int)) (u0:au):((List Bool) × (List Bool) × (List aj) × Int × Int)→St:=
  fun zz=>match zz with|(u1,u2,q0,u4,u5)=>(ah2 x1 u3 u2 q0 u4 u5 u0 u1)
def lQ  :Unit→St:=
  fun _=> ⟨[],[]⟩
def iI (x1:List bU) (u1:List (List Int)) (u0:au):(aY ((List Bool) × (List Bool) × (List aj) × Int × Int) (Ex Unit (List Bool)))→Exit→St→Prop:=
  LQ 0 [] (lq x1 u1 u0) lQ (iZ u0)
section
variable (u1:List (List Int)) (u2:Int)
abbrev Pe:Nat × TV:=(34,vD (bJ none 1 (aT .i64) (at' u1 u2.toNat)))
abbrev Nw:Nat × TV:=(35,vI ((at' u1 u2.toNat).length:Int))
end
def lI (x1:List bU) (u1:List (List Int)) (u0:au) (u2:Int) (u5:Int) (r_:List Bool):((List Bool) × (List aj) × Int)→St:=
  fun zz=>match zz with|(u3,u4,u6)=> ⟨[fO,Bc x1 u1,Jb u3,(4,vP 53 0),(5,vP 55 0),Pe u1 u2,Nw u1 u2,(36,vI u6)],Vy u3 u4 u2 u5 u0 r_⟩
def lW (x1:List bU) (u3:List (List Int)) (u0:au) (u4:Int) (u5:Int) (r_:List Bool):((List Bool) × (List aj))→St:=
  fun zz=>match zz with|(u1,u2)=>(ah2 x1 u3 u1 u2 u4 u5 u0 r_)
def uU (x1:List bU) (u0:List (List Int)) (u1:au) (u2:Int) (u3:Int) (r_:List Bool):(aY ((List Bool) × (List aj) × Int) (Ex ((List Bool) × (List aj)) (aY ((List Bool) × (List Bool) × (List aj) × Int × Int) (Ex Unit (List Bool)))))→Exit→St→Prop:=
  LQ 2 [1] (lI x1 u0 u1 u2 u3 r_) (lW x1 u0 u1 u2 u3 r_) (iI x1 u0 u1)
section
variable (u1:List (List Int)) (x1:List bU) (u2:Int) (u3:Int) (u0:au) (r_:List Bool) (u4:List Bool) (u7:List aj) (u6:Int) (u9:bK) (u5:aj × Bool × bK) (u8:List Bool)
abbrev Ub:=(List.replicate ((u1.length:Int).toNat) (false:Bool))
abbrev ala:List (Nat × TV):=[fO,Bc x1 u1,(3,vO 52 true ((Ub u1).length))]
abbrev agx:=(aS aF (Ub u1))
abbrev agY:=((Ub u1).set 0 true)
abbrev ah3:=(aS aF (agY u1))
abbrev ahf:Nat × TV:=(3,vO 52 true ((agY u1).length))
abbrev aa5:Nat × Option Ob:=(52,some (bW 4 1 aF (agY u1)))
abbrev ag7:List (Nat × TV):=[fO,Bc x1 u1,ahf u1,(4,vP 53 0)]
abbrev aa2:Nat × TV:=(7,vI (at' (at' u1 u2.toNat) u3.toNat))
abbrev Xr:=(at' x1 ((at' (at' u1 u2.toNat) u3.toNat).toNat))
abbrev Zc:=((Xr u1 x1 u2 u3).to_)
abbrev akI:List (Nat × Option Ob):=[yB,vS u0,AZ r_,yL r_,V9 u4,aeG u7,aeF u7,VQ u2 u6,(95,some (.cells 170 [cI (Zc u1 x1 u2 u3),cI ((Xr u1 x1 u2 u3).left)]))]
abbrev Vo:=(decide (0<((Xr u1 x1 u2 u3).left)))
abbrev alh:Nat × TV:=(8,vD (ow [.int .i64 (Zc u1 x1 u2 u3),.int .i64 ((Xr u1 x1 u2 u3).left)] 0))
abbrev afN:=(u4.set ((Zc u1 x1 u2 u3).toNat) true)
abbrev agF:=(aS aF (afN u1 x1 u2 u3 u4))
abbrev agk:Nat × TV:=(3,vO 52 true ((afN u1 x1 u2 u3 u4).length))
abbrev agu:Nat × Option Ob:=(52,some (bW 4 1 aF (afN u1 x1 u2 u3 u4)))
abbrev aiH:List (Nat × Option Ob):=[yB,vS u0,AZ r_,yL r_,agu u1 x1 u2 u3 u4,(53,some (.cells 226 [.own 96 false u9.l.length])),VQ u2 u6,(96,some (SH u9))]
abbrev als:List (Nat × TV):=[fO,Bc x1 u1,agk u1 x1 u2 u3 u4,(4,vP 53 0),(5,vP 55 0),Pe u1 u2,Nw u1 u2,aek u3]
abbrev acY:Nat × Option Ob:=(53,some (.cells 226 [.own 97 false u5.2.2.l.length]))
abbrev aeL:Nat × Option Ob:=(97,some (bW 164 2 aj.cell u5.2.2.l))
abbrev ajF:List (Nat × Option Ob):=[yB,vS u0,AZ r_,yL r_,V9 u8,acY u5,VQ u2 u6,aeL u5,(98,some (Uv u5))]
end
theorem lg (x1:List bU) (u1:List (List Int)) (u0:au) (o_:List Bool) {r:List Bool} (h:dP x1 u1 u0 o_=some r):Fn Try.prog 121 [.one (.yl 0),sD (ow [ow [bJ none 2 bU.cell x1,VY u1] 0] 0)] (R4 o_ u0) (.jl []) [yB,vS u0,(2,some (.cells 27 [.own 3 true r.length])),(3,some (bW 4 1 aF r))]:=by
 refine fN tT Try.func121 rfl rfl fun B=> ?_
 show bR _ _ _ _ _ _ ((iZ u0) r) _
 unfold dP at h
 refine aQ (aO h fun⟨a1,a2,a3⟩ h=> ?_)
 refine rg tT ⟨ala u1 x1,[yB,vS u0,AZ o_,yL o_,(52,some (bW 4 1 aF (Ub u1)))]⟩ [_,((u1.length:Int):Int)=(u1.length:Int),_,_,(Ub u1).length=((u1.length:Int).toNat),aZ ((u1.length:Int).toNat) 1 (fun _ j=>[.bool false].getD j .nilp) (agx u1)] {an:=[(5, .arr (Ub u1).length (agx u1))],fr:=[(5,52)] } [] ⟨a1,rfl,a2,a3,List.length_replicate,fe _ _ _ _ _ (fun j hj=>(match j,hj with|0,_=>rfl)),trivial⟩ ?_
 refine aQ (aO h fun a1 h=> ?_)
 refine ri tT ⟨ala u1 x1,[yB,vS u0,AZ o_,yL o_,(52,some (.arr 4 1 (Ub u1).length (ah3 u1)))]⟩ [_,_,aZ (Ub u1).length 1 (lZ (agx u1) 0 0 [.bool true]) (ah3 u1)] {an:=[(2, .arr 0 (ah3 u1))] } [] ⟨a1,tL a1,dA _ _ _ _ _ _ _ _ rfl (fun j hj=>(match j,hj with|0,_=>rfl)),trivial⟩ (cO.le (st':=⟨[fO,Bc x1 u1,ahf u1],[yB,vS u0,AZ o_,yL o_,aa5 u1]⟩) ⟨⟨tR,tR,⟨_,rfl,eB.v (fG.one cW)⟩,trivial⟩,hN 4 ⟨rfl,oW,trivial⟩⟩) ?_
 refine si tT ⟨ag7 u1 x1,[yB,vS u0,AZ o_,yL o_,aa5 u1,(53,some (.cells 226 [.d nS]))]⟩ [] {fr:=[(0,53)] } [] trivial (.trans (cO.Dl (E:=0) (esz:=0) (E0:=226) (cs:=[.d nS]) (p:=53) (q:=0) (b:=54) (esz0:=0) (el0:=fun _ _=> .nilp) (ob:= .arr 164 2 0 (aS aj.cell ([]:List aj))) (fun _ _ _ _ h=> .inl ⟨h,rfl⟩) (by kernel_rfl) (by kernel_rfl) (by kernel_rfl)) (.trans (fz ⟨ag7 u1 x1,[yB,vS u0,AZ o_,yL o_,aa5 u1,(53,some (.cells 226 [.own 54 false 0])),(54,some (.arr 164 2 0 (aS aj.cell ([]:List aj))))]⟩ []) (cO.le (st':=⟨ag7 u1 x1,[yB,vS u0,AZ o_,yL o_,aa5 u1,(53,some (.cells 226 [.own 54 false (([]:List aj).length)])),(54,some (bW 164 2 aj.cell ([]:List aj)))]⟩) ⟨⟨tR,tR,tR,tR,trivial⟩,hN 5 ⟨rfl,cu ⟨cW,trivial⟩,⟨rfl,oW,trivial⟩⟩⟩))) ?_
 refine sz tT ⟨[fO,Bc x1 u1,ahf u1,(4,vP 53 0),(5,vP 55 0)],[yB,vS u0,AZ o_,yL o_,aa5 u1,(53,some (.cells 226 [.own 54 false (([]:List aj).length)])),(54,some (bW 164 2 aj.cell ([]:List aj))),(55,some (.cells 164 [cI 0,cI (-1)]))]⟩ {fr:=[(1,55)] } [] ?_
 refine bE h fun y1 hy h=> ?_
 refine aL [] (lq x1 u1 u0) lQ (iZ u0) hy (fun s f h=> ?_) ?_
 ·clear hy
  show bR _ _ _ _ _ _ ((iI x1 u1 u0) f) _
  unfold fH at h
  obtain⟨v1,v0,q0,u2,u6⟩:=s
  refine aQ (aB (aQ (aQ (bE h fun r_ hr_ h=> ?_))))
  refine rg tT ⟨[fO,Bc x1 u1,Jb v0,(4,vP 53 0),(5,vP 55 0),(26,vB false)],Vy v0 q0 u2 u6 u0 r_⟩ [(0:Int)≤0∧(0:Int)<(2:Nat),(0:Int)≤1∧(1:Int)<(2:Nat),Yl Try.prog 0 [sI u2,sI u6] (R4 v1 u0) (vB true) (R4 r_ u0)] {an:=[(5, .call [0,1,2,3] (vB true) (R4 r_ u0))] } [] ⟨(by decide),(by decide),FH u2 u6 u0 v1 hr_,trivial⟩ ?_
  refine cn (aP (aQ (aQ (aO h fun a1 h=> ?_))))
  refine dg tT mX ⟨[fO,Bc x1 u1,Jb v0,(4,vP 53 0),(5,vP 55 0),Pe u1 u2,Nw u1 u2,(36,vI 0)],Vy v0 q0 u2 u6 u0 r_⟩ [(0:Int)≤0∧(0:Int)<(2:Nat),_] {} [] ⟨(by decide),a1,trivial⟩ ?_
  refine bE h fun y hy h=> ?_
  refine aL [1] (lI x1 u1 u0 u2 u6 r_) (lW x1 u1 u0 u2 u6 r_) (iI x1 u1 u0) hy (fun s f h=> ?_) ?_
  ·clear hy
   show bR _ _ _ _ _ _ ((uU x1 u1 u0 u2 u6 r_) f) _
   unfold dJ at h
   obtain⟨u4,u7,u3⟩:=s
   refine sz tT ⟨[fO,Bc x1 u1,Jb u4,(4,vP 53 0),(5,vP 55 0),Pe u1 u2,Nw u1 u2,(36,vI u3),(37,vB (decide (u3<((at' u1 u2.toNat).length:Int))))],Vy u4 u7 u2 u6 u0 r_⟩ {} [] ?_
   refine aQ ?_
   refine bI h (fun hb1 h=> ?_) (fun hb1 h=> ?_)
   ·refine ct hb1 ?_
    refine aP (aQ (aB (aQ (aO h fun a1 h=> ?_))))
    refine rg tT ⟨[fO,Bc x1 u1,Jb u4,(4,vP 53 0),(5,vP 55 0),aa2 u1 u2 u3,Pe u1 u2,Nw u1 u2,(36,vI u3)],Vy u4 u7 u2 u6 u0 r_⟩ [_] {} [] ⟨a1,trivial⟩ ?_
    refine aQ (aO h fun a1 h=> ?_)
    refine rg tT ⟨[fO,Bc x1 u1,Jb u4,(4,vP 53 0),(5,vP 55 0),aa2 u1 u2 u3,(8,vP 95 0),Pe u1 u2,Nw u1 u2,(36,vI u3)],akI u1 x1 u2 u3 u0 r_ u4 u7 u6⟩ [_] {fr:=[(7,95)] } [] ⟨a1,trivial⟩ ?_
    refine aQ (aO h fun a1 h=> ?_)
    refine rg tT ⟨[fO,Bc x1 u1,Jb u4,(4,vP 53 0),(5,vP 55 0),aa2 u1 u2 u3,(8,vP 95 0),Pe u1 u2,Nw u1 u2,(36,vI u3),(57,vB (bif (Vo u1 x1 u2 u3)then(!(at' u4 ((Zc u1 x1 u2 u3).toNat)))else false))],akI u1 x1 u2 u3 u0 r_ u4 u7 u6⟩ (eqs (Vo u1 x1 u2 u3) 4 ((gP (gY [(3,Vo u1 x1 u2 u3)]) [(3,true)]→All [(0:Int)≤(Xr u1 x1 u2 u3).to_∧(Xr u1 x1 u2 u3).to_<(u4.length:Int)])::((Vo u1 x1 u2 u3)=(Vo u1 x1 u2 u3))::(gP (gY [(3,Vo u1 x1 u2 u3)]) [(3,true)]→All [(Zc u1 x1 u2 u3).toNat<u4.length])::(eqs (Vo u1 x1 u2 u3) 2 []))) {yb:=[(3,Vo u1 x1 u2 u3)] } [] (ae ⟨(fun hg=> ⟨a1 (bC hg),trivial⟩),rfl,(fun hg=> ⟨(fun hq=>tL (a1 hq)) (bC hg),trivial⟩),ae trivial⟩) ?_
    refine bI h (fun hb h=> ?_) (fun hb h=> ?_)
    ·refine ct hb ?_
     refine aQ (aO h fun a1 h=> ?_)
     refine ri tT ⟨[fO,Bc x1 u1,Jb u4,(4,vP 53 0),(5,vP 55 0),aa2 u1 u2 u3,alh u1 x1 u2 u3,Pe u1 u2,Nw u1 u2,(36,vI u3)],[yB,vS u0,AZ r_,yL r_,(52,some (.arr 4 1 u4.length (agF u1 x1 u2 u3 u4))),aeG u7,aeF u7,VQ u2 u6]⟩ [_,_,aZ u4.length 1 (lZ (aS aF u4) ((Zc u1 x1 u2 u3).toNat) 0 [.bool true]) (agF u1 x1 u2 u3 u4)] {an:=[(4, .arr 0 (agF u1 x1 u2 u3 u4))] } [95] ⟨a1,tL a1,dA _ _ _ _ _ _ _ _ rfl (fun j hj=>(match j,hj with|0,_=>rfl)),trivial⟩ (cO.le (st':=⟨[fO,Bc x1 u1,agk u1 x1 u2 u3 u4,(4,vP 53 0),(5,vP 55 0),aa2 u1 u2 u3,alh u1 x1 u2 u3,Pe u1 u2,Nw u1 u2,(36,vI u3)],[yB,vS u0,AZ r_,yL r_,agu u1 x1 u2 u3 u4,aeG u7,aeF u7,VQ u2 u6]⟩) ⟨⟨tR,tR,⟨_,rfl,eB.v (fG.one cW)⟩,tR,tR,tR,tR,tR,tR,tR,trivial⟩,hN 4 ⟨rfl,oW,.refl _⟩⟩) ?_
     refine bE h fun u9 hr_1 h=> ?_
     have q0:=rk [(0,53),(1,54),(2,96)] (xk (⟨(Xr u1 x1 u2 u3).to_,at' (at' u1 u2.toNat) u3.toNat⟩:aj) (⟨u7⟩:bK) hr_1)
     refine rg tT ⟨[fO,Bc x1 u1,agk u1 x1 u2 u3 u4,(4,vP 53 0),(5,vP 55 0),Pe u1 u2,Nw u1 u2,(36,vI u3)],aiH u1 x1 u2 u3 u0 r_ u4 u6 u9⟩ [_] {an:=[(4,cA q0 [53,54])] } [] ⟨q0,trivial⟩ ?_
     refine ri tT ⟨als u1 x1 u2 u3 u4,aiH u1 x1 u2 u3 u0 r_ u4 u6 u9⟩ [] {} [] trivial (cO.fin (st':=⟨als u1 x1 u2 u3 u4,[yB,vS u0,AZ r_,yL r_,agu u1 x1 u2 u3 u4,(53,some (.cells 226 [.own 54 false u9.l.length])),(54,some (SH u9)),VQ u2 u6]⟩) (cs:=[]) ⟨[],[(0,0),(1,1),(2,2),(3,3),(52,52),(53,53),(96,54),(55,55)]⟩ [0,1,3,4,5,34,35,36] (by kernel_rfl) trivial) ?_
     obtain rfl:=oi h
     exact lN
    ·refine cf hb ?_
     refine aP (rz tT ⟨[fO,Bc x1 u1,Jb u4,(4,vP 53 0),(5,vP 55 0),Pe u1 u2,Nw u1 u2,aek u3],Vy u4 u7 u2 u6 u0 r_⟩ {} [] ?_)
     obtain rfl:=oi h
     exact lN
   ·refine cf hb1 ?_
    refine aI (fz (ah2 x1 u1 u4 u7 u2 u6 u0 r_) []) ?_
    refine aX ?_
    obtain rfl:=oi h
    exact lB
  ·clear hy
   cases y with
   |brk z=>
    obtain⟨u8,v2⟩:=z
    unfold dZ
    refine⟨_, .refl, ?_⟩
    refine aQ (bE h fun u5 hr_2 h=> ?_)
    have q0:=rk [(0,53),(1,54),(2,97)] (vJ (⟨v2⟩:bK) hr_2)
    refine rg tT ⟨[fO,Bc x1 u1,Jb u8,(4,vP 53 0),(5,vP 55 0),(9,vP 98 0),(10,vB u5.2.1)],ajF u2 u0 r_ u6 u5 u8⟩ [_] {an:=[(0,cA q0 [53,54])],fr:=[(4,98)] } [] ⟨q0,trivial⟩ ?_
    refine aQ (sz tT ⟨[fO,Bc x1 u1,Jb u8,(4,vP 53 0),(5,vP 55 0),(9,vP 98 0),(73,vB (!u5.2.1))],ajF u2 u0 r_ u6 u5 u8⟩ {} [] ?_)
    refine bI h (fun hb2 h=> ?_) (fun hb2 h=> ?_)
    ·refine ct hb2 ?_
     refine aI (fz ⟨[],R4 r_ u0⟩ []) ?_
     refine aR ?_
     obtain rfl:=oi h
     exact lR dw (dm 0) dz (bL.mk (.inr rfl) (p:=[]) (l:=[]) (by kernel_rfl) trivial (eB.refl _) (.refl _))
    ·refine cf hb2 ?_
     refine aP (rz tT ⟨agw x1 u1 u8,[yB,vS u0,AZ r_,yL r_,V9 u8,acY u5,(55,some (Uv u5)),aeL u5]⟩ {} [] ?_)
     refine sz tT ⟨[fO,Bc x1 u1,Jb u8,(4,vP 53 0),(75,.v (.agg [cI u5.1.e0,cI u5.1.e1]))],[yB,vS u0,AZ r_,yL r_,V9 u8,acY u5,aeL u5]⟩ {} [] ?_
     refine ri tT ⟨[fO,Bc x1 u1,Jb u8,(4,vP 53 0),(5,vP 99 0)],[yB,vS u0,AZ r_,yL r_,V9 u8,acY u5,aeL u5,(99,some (Uv u5))]⟩ [] {fr:=[(0,99)] } [] trivial (cO.fin (st':=⟨agw x1 u1 u8,[yB,vS u0,AZ r_,yL r_,V9 u8,(53,some (.cells 226 [.own 54 false u5.2.2.l.length])),(54,some (bW 164 2 aj.cell u5.2.2.l)),(55,some (Uv u5))]⟩) (cs:=[]) ⟨[],[(0,0),(1,1),(2,2),(3,3),(52,52),(53,53),(97,54),(99,55)]⟩ [0,1,3,4,5] (by kernel_rfl) trivial) ?_
     obtain rfl:=oi h
     exact lN
   |ret v=>
    obtain rfl:=oi h
    unfold dZ
    intro e st hn ha hR
    cases e with
    |normal=>exact absurd rfl hn
    |exit id=>simp only [qW (b:=1) ha rfl,cond_false];exact hR
    |goto l=>exact hR
    |ret=>exact hR
    |panic c=>exact hR
    |outgrown=>exact hR
 ·clear hy
  cases y1 with
  |brk z=>exact absurd h (by simp)
  |ret v=>
   obtain rfl:=oi h
   unfold dZ
   intro e st hn ha hR
   cases e with
   |normal=>exact absurd rfl hn
   |exit id=>exact hR
   |goto l=>exact hR
   |ret=>exact hR
   |panic c=>exact hR
   |outgrown=>exact hR
def jI  :(aD × (List Bool) × Int)→Exit→St→Prop:=
  fun r=>bL TT [.cell 4 77, .tmp 5, .tmp 6] (.jl [.agg [.d (bJ none 1 (aT .i64) r.1.ah),.d (bJ none 1 (aT .i64) r.1.ai),.d (bJ none 2 aj.cell r.1.af)],sD (bJ none 1 aF r.2.1),sI r.2.2]) []
section
variable (p:au) (s_:aA) (u1:Int) (n1:List (List Int)) (n0:List bU) (u0:List (Int × Int))
abbrev qf:Nat × TV:=(8,vI (IntKind.wrap .i64 ((IntKind.wrap .i64 ((1:Int)+p.ax))+(p.af.length:Int))))
abbrev vC:Nat × TV:=(11,.v (.one (.mp 73)))
abbrev rY:Nat × TV:=(12,.v (.one (.mp 74)))
abbrev qy:Nat × TV:=(13,.v (.one (.mp 75)))
abbrev Ni:Nat × TV:=(66,vD (k23 p))
abbrev M0:Nat × TV:=(67,vI (p.ah.length:Int))
abbrev amZ:List (Nat × TV):=[(2,vP 63 0),k10 s_,(4,vP 65 0),qf p,(9,vP 67 0),(10,vP 72 0),vC,rY,qy,Ni p,M0 p,(68,vI u1)]
abbrev CJ:Nat × Option Ob:=(63,some (k50 p))
abbrev dL:Nat × Option Ob:=(65,some (.cells 77 [.d nS,.d nS,.d nS]))
abbrev ZL:Nat × Option Ob:=(66,some (.rows 40 1 n1.length (CS wI n1) none))
abbrev aa4:Nat × Option Ob:=(67,some (.cells 161 [.own 68 false n0.length,.own 66 true n1.length]))
abbrev Sc:Nat × Option Ob:=(68,some (bW 170 2 bU.cell n0))
abbrev aaw:=((p.ah.length:Int).toNat)
abbrev RU:=(List.replicate (aaw p) (0:Int))
abbrev aa9:Nat × Option Ob:=(69,some (bW 3 1 (aT .i64) (RU p)))
abbrev Rp:Nat × Option Ob:=(70,some (agr p))
abbrev aav:=((p.af.length:Int).toNat)
abbrev V6:=(List.replicate (aav p) ((⟨0,0⟩:aj):aj))
abbrev ajq:Ob:=(bW 164 2 aj.cell (V6 p))
abbrev PW:Nat × Option Ob:=(71,some (ajq p))
abbrev ZI:=((V6 p).length)
abbrev acI:Nat × Option Ob:=(72,some (.cells 77 [.own 69 true ((RU p).length),.own 70 true (aag p),.own 71 true (ZI p)]))
abbrev adU:Ob:=(Zy 3 3 false false 1 1 (aT .i64) (aT .i64) u0)
abbrev IL:Nat × Option Ob:=(73,some (adU u0))
abbrev ac1:Ob:=(Zy 3 3 false false 1 1 (aT .i64) (aT .i64) ([]:(List (Int × Int))))
abbrev abg:Nat × Option Ob:=(74,some ac1)
abbrev Rt:Nat × Option Ob:=(75,some (Zy 164 3 true false 2 1 aj.cell (aT .i64) ([]:(List (aj × Int)))))
abbrev YV:List (Nat × Option Ob):=[CJ p,dL,ZL n1,aa4 n1 n0,Sc n0,aa9 p,Rp p,PW p,acI p,IL u0,abg,Rt]
end
def D8 (p:au) (s_:aA):((List bU) × (List (List Int)) × (List (Int × Int)) × Int)→St:=
  fun zz=>match zz with|(n0,n1,u0,u1)=> ⟨amZ p s_ u1,YV p n1 n0 u0⟩
section
variable (s_:aA) (p:au) (p1:List ay) (x0:List Int) (u0:List (List Int)) (u1:List bU) (u2:List (Int × Int))
abbrev aa7:List (Nat × TV):=[(2,vP 63 0),k10 s_,(4,vP 65 0),qf p,(9,vP 67 0),(10,vP 72 0),vC,rY,qy]
abbrev TR:Nat × Option Ob:=(63,some (.cells 26 [cI p.ax,.d (Z7 p1),.d (k24 p),.d (k25 p)]))
abbrev pU:Nat × Option Ob:=(69,some (Gy x0))
abbrev adT:Nat × Option Ob:=(72,some (.cells 77 [.own 69 true x0.length,.own 70 true (aag p),.own 71 true (ZI p)]))
abbrev anb:List (Nat × Option Ob):=[TR p p1,dL,ZL u0,aa4 u0 u1,Sc u1,pU x0,Rp p,PW p,adT p x0,IL u2,abg,Rt]
end
def Dx (p:au) (s_:aA):((List ay) × (List bU) × (List (List Int)) × (List Int) × (List (Int × Int)))→St:=
  fun zz=>match zz with|(p1,u1,u0,x0,u2)=> ⟨aa7 s_ p,anb p p1 x0 u0 u1 u2⟩
def M7 (p:au) (s_:aA):(aY ((List bU) × (List (List Int)) × (List (Int × Int)) × Int) (Ex ((List ay) × (List bU) × (List (List Int)) × (List Int) × (List (Int × Int))) (aD × (List Bool) × Int)))→Exit→St→Prop:=
  LQ 0 [] (D8 p s_) (Dx p s_) jI
section
variable (p:au) (s_:aA) (u4:Int) (u3:List (Int × Int)) (p1:List ay) (u0:List (List Int)) (u1:List bU) (x0:List Int) (u2:List (Int × Int))
abbrev MZ:Nat × TV:=(88,vD (k24 p))
abbrev MW:Nat × TV:=(89,vI (p.ai.length:Int))
abbrev akJ:List (Nat × TV):=[(2,vP 63 0),k10 s_,(4,vP 65 0),qf p,(9,vP 67 0),(10,vP 72 0),vC,rY,qy,MZ p,MW p,(90,vI u4)]
abbrev Iw:Nat × Option Ob:=(74,some (adU u3))
abbrev ZK:List (Nat × Option Ob):=[TR p p1,dL,ZL u0,aa4 u0 u1,Sc u1,pU x0,Rp p,PW p,adT p x0,IL u2,Iw u3,Rt]
end
def D7 (p:au) (s_:aA) (p1:List ay) (x0:List Int) (u2:List (Int × Int)):((List bU) × (List (List Int)) × (List (Int × Int)) × Int)→St:=
  fun zz=>match zz with|(u1,u0,u3,u4)=> ⟨akJ p s_ u4,ZK p u3 p1 u0 u1 x0 u2⟩
section
variable (p:au) (p1:List ay) (p2:List aH) (x1:List Int) (u0:List (List Int)) (u1:List bU) (x0:List Int) (u2:List (Int × Int)) (u3:List (Int × Int))
abbrev ane:Nat × Option Ob:=(63,some (.cells 26 [cI p.ax,.d (Z7 p1),.d (k92 p2),.d (k25 p)]))
abbrev rH:Nat × Option Ob:=(70,some (Gy x1))
abbrev amm:List (Nat × Option Ob):=[ane p p1 p2,dL,ZL u0,aa4 u0 u1,Sc u1,pU x0,rH x1,PW p,(72,some (.cells 77 [.own 69 true x0.length,.own 70 true x1.length,.own 71 true (ZI p)])),IL u2,Iw u3,Rt]
end
def Du (p:au) (s_:aA) (p1:List ay) (x0:List Int) (u2:List (Int × Int)):((List aH) × (List bU) × (List (List Int)) × (List Int) × (List (Int × Int)))→St:=
  fun zz=>match zz with|(p2,u1,u0,x1,u3)=> ⟨aa7 s_ p,amm p p1 p2 x1 u0 u1 x0 u2 u3⟩
def Nc (p:au) (s_:aA) (p1:List ay) (x0:List Int) (u0:List (Int × Int)):(aY ((List bU) × (List (List Int)) × (List (Int × Int)) × Int) (Ex ((List aH) × (List bU) × (List (List Int)) × (List Int) × (List (Int × Int))) (aD × (List Bool) × Int)))→Exit→St→Prop:=
  LQ 2 [] (D7 p s_ p1 x0 u0) (Du p s_ p1 x0 u0) jI
section
variable (u6:List aK) (s_:aA) (u4:Int) (u7:Int) (u8:Int) (p:au) (p1:List ay) (p2:List aH) (p3:List aK) (x2:List aj) (x0:List Int) (x1:List Int) (u5:List (aj × Int)) (u0:List (List Int)) (u1:List bU) (u2:List (Int × Int)) (u3:List (Int × Int))
abbrev BS:Nat × TV:=(115,vD (Wq u6))
abbrev ajP:List (Nat × TV):=[(2,vP 63 0),k10 s_,(4,vP 65 0),(8,vI u4),(9,vP 67 0),(10,vP 72 0),vC,rY,qy,BS u6,(116,vI u7),(117,vI u8)]
abbrev gm:Nat × Option Ob:=(63,some (.cells 26 [cI p.ax,.d (Z7 p1),.d (k92 p2),.d (Wq p3)]))
abbrev uM:Nat × Option Ob:=(71,some (bW 164 2 aj.cell x2))
abbrev uW:Nat × Option Ob:=(72,some (.cells 77 [.own 69 true x0.length,.own 70 true x1.length,.own 71 true x2.length]))
abbrev Ju:Nat × Option Ob:=(75,some (Zy 164 3 true false 2 1 aj.cell (aT .i64) u5))
abbrev aai:List (Nat × Option Ob):=[gm p p1 p2 p3,dL,ZL u0,aa4 u0 u1,Sc u1,pU x0,rH x1,uM x2,uW x2 x0 x1,IL u2,Iw u3,Ju u5]
end
def DR (p:au) (s_:aA) (p1:List ay) (x0:List Int) (u2:List (Int × Int)) (p2:List aH) (x1:List Int) (u3:List (Int × Int)):((List aK) × Int × (List bU) × (List (List Int)) × (List aj) × (List (aj × Int)) × (List aK) × Int × Int)→St:=
  fun zz=>match zz with|(p3,u4,u1,u0,x2,u5,u6,u7,u8)=> ⟨ajP u6 s_ u4 u7 u8,aai p p1 p2 p3 x2 x0 x1 u5 u0 u1 u2 u3⟩
section
variable (u6:Int) (p:au) (p1:List ay) (p2:List aH) (u5:List aK) (u0:List (List Int)) (u1:List bU) (x0:List Int) (x1:List Int) (u2:List aj) (u3:List (Int × Int)) (u4:List (Int × Int)) (u7:List (aj × Int))
abbrev ahe:List (Nat × TV):=[(2,vP 63 0),(4,vP 65 0),(8,vI u6),(9,vP 67 0),(10,vP 72 0),vC,rY,qy]
abbrev amH:St:=⟨ahe u6,aai p p1 p2 u5 u2 x0 x1 u7 u0 u1 u3 u4⟩
end
def DT (p:au) (p1:List ay) (x0:List Int) (u3:List (Int × Int)) (p2:List aH) (x1:List Int) (u4:List (Int × Int)):((List aK) × Int × (List bU) × (List (List Int)) × (List aj) × (List (aj × Int)))→St:=
  fun zz=>match zz with|(u5,u6,u1,u0,u2,u7)=>(amH u6 p p1 p2 u5 u0 u1 x0 x1 u2 u3 u4 u7)
def wh (p:au) (s_:aA) (p1:List ay) (x0:List Int) (u0:List (Int × Int)) (p2:List aH) (x1:List Int) (u1:List (Int × Int)):(aY ((List aK) × Int × (List bU) × (List (List Int)) × (List aj) × (List (aj × Int)) × (List aK) × Int × Int) (Ex ((List aK) × Int × (List bU) × (List (List Int)) × (List aj) × (List (aj × Int))) (aD × (List Bool) × Int)))→Exit→St→Prop:=
  LQ 4 [] (DR p s_ p1 x0 u0 p2 x1 u1) (DT p p1 x0 u0 p2 x1 u1) jI
section
variable (u1:List aK) (u0:Int) (s_:aA) (u6:Int) (u7:Int) (u9:Int) (p:au) (p1:List ay) (p2:List aH) (p3:List aK) (u2:List (List Int)) (u3:List bU) (x0:List Int) (x1:List Int) (x2:List aj) (u4:List (Int × Int)) (u5:List (Int × Int)) (u8:List (aj × Int))
abbrev ag0:List DV:=[.int .i64 ((Bj u1 u0).e0),.int .i64 ((Bj u1 u0).e1),.int .i64 ((at' u1 u0.toNat).aV),.int .i64 ((at' u1 u0.toNat).kJ)]
abbrev akb:TV:=(vD (ow (ag0 u1 u0) 0))
abbrev Ki:Nat × TV:=(19,akb u1 u0)
abbrev acJ:List CV:=[cI ((Bj u1 u0).e0),cI ((Bj u1 u0).e1)]
abbrev M6:Nat × TV:=(133,.v (.agg (acJ u1 u0)))
abbrev akg:List (Nat × TV):=[(2,vP 63 0),k10 s_,(4,vP 65 0),(8,vI u6),(9,vP 67 0),(10,vP 72 0),vC,rY,qy,(18,vI u0),Ki u1 u0,BS u1,(116,vI u7),(117,vI u0),M6 u1 u0,(134,vI u9)]
abbrev VK:List (Nat × Option Ob):=[gm p p1 p2 p3,dL,ZL u2,(67,some (.cells 161 [.own 111 false u3.length,.own 66 true u2.length])),pU x0,rH x1,uM x2,uW x2 x0 x1,IL u4,Iw u5,Ju u8,(111,some (bW 170 2 bU.cell u3))]
end
def DU (p:au) (s_:aA) (p1:List ay) (x0:List Int) (u4:List (Int × Int)) (p2:List aH) (x1:List Int) (u5:List (Int × Int)) (p3:List aK) (u6:Int) (x2:List aj) (u1:List aK) (u7:Int) (u0:Int):((List bU) × (List (List Int)) × (List (aj × Int)) × Int)→St:=
  fun zz=>match zz with|(u3,u2,u8,u9)=> ⟨akg u1 u0 s_ u6 u7 u9,VK p p1 p2 p3 u2 u3 x0 x1 x2 u4 u5 u8⟩
end
end Sg
