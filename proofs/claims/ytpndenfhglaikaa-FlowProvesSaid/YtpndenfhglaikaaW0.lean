import Derived.Test.YtpndenfhglaikaaGm
import Derived.Test.YtpndenfhglaikaaProg
set_option linter.all false
namespace Sg
open Go Go.Proofs
set_option maxRecDepth 20000
noncomputable section
noncomputable def TT:List (Nat × TI):=[(3,⟨Try.t3.desc,Try.t3.size,Try.t3.bytes,zl Try.t3,false⟩),
  (4,⟨Try.t4.desc,Try.t4.size,Try.t4.bytes,zl Try.t4,false⟩),
  (22,⟨Try.t22.desc,Try.t22.size,Try.t22.bytes,zl Try.t22,false⟩),
  (23,⟨Try.t23.desc,Try.t23.size,Try.t23.bytes,zl Try.t23,false⟩),
  (24,⟨Try.t24.desc,Try.t24.size,Try.t24.bytes,zl Try.t24,false⟩),
  (26,⟨Try.t25.desc,Try.t26.size,Try.t26.bytes,zl Try.t26,false⟩),
  (27,⟨Try.t27.desc,Try.t27.size,Try.t27.bytes,zl Try.t27,false⟩),
  (29,⟨Try.t28.desc,Try.t29.size,Try.t29.bytes,zl Try.t29,false⟩),
  (40,⟨Try.t40.desc,Try.t40.size,Try.t40.bytes,zl Try.t40,false⟩),
  (41,⟨Try.t41.desc,Try.t41.size,Try.t41.bytes,zl Try.t41,false⟩),
  (47,⟨Try.t46.desc,Try.t47.size,Try.t47.bytes,zl Try.t47,false⟩),
  (50,⟨Try.t3.desc,Try.t50.size,Try.t50.bytes,zl Try.t50,false⟩),
  (51,⟨Try.t51.desc,Try.t51.size,Try.t51.bytes,zl Try.t51,false⟩),
  (53,⟨Try.t52.desc,Try.t53.size,Try.t53.bytes,zl Try.t53,false⟩),
  (75,⟨Try.t75.desc,Try.t75.size,Try.t75.bytes,zl Try.t75,false⟩),
  (77,⟨Try.t76.desc,Try.t77.size,Try.t77.bytes,zl Try.t77,false⟩),
  (80,⟨Try.t80.desc,Try.t80.size,Try.t80.bytes,zl Try.t80,false⟩),
  (92,⟨Try.t76.desc,Try.t92.size,Try.t92.bytes,zl Try.t92,false⟩),
  (102,⟨Try.t102.desc,Try.t102.size,Try.t102.bytes,zl Try.t102,false⟩),
  (103,⟨Try.t46.desc,Try.t103.size,Try.t103.bytes,zl Try.t103,false⟩),
  (110,⟨Try.t110.desc,Try.t110.size,Try.t110.bytes,zl Try.t110,false⟩),
  (115,⟨Try.t3.desc,Try.t115.size,Try.t115.bytes,zl Try.t115,false⟩),
  (117,⟨Try.t116.desc,Try.t117.size,Try.t117.bytes,zl Try.t117,true⟩),
  (119,⟨Try.t119.desc,Try.t119.size,Try.t119.bytes,zl Try.t119,false⟩),
  (123,⟨Try.t122.desc,Try.t123.size,Try.t123.bytes,zl Try.t123,false⟩),
  (124,⟨Try.t3.desc,Try.t124.size,Try.t124.bytes,zl Try.t124,false⟩),
  (126,⟨Try.t125.desc,Try.t126.size,Try.t126.bytes,zl Try.t126,true⟩),
  (128,⟨Try.t128.desc,Try.t128.size,Try.t128.bytes,zl Try.t128,false⟩),
  (129,⟨Try.t129.desc,Try.t129.size,Try.t129.bytes,zl Try.t129,false⟩),
  (135,⟨Try.t135.desc,Try.t135.size,Try.t135.bytes,zl Try.t135,false⟩),
  (141,⟨Try.t140.desc,Try.t141.size,Try.t141.bytes,zl Try.t141,false⟩),
  (142,⟨Try.t142.desc,Try.t142.size,Try.t142.bytes,zl Try.t142,false⟩),
  (148,⟨Try.t147.desc,Try.t148.size,Try.t148.bytes,zl Try.t148,true⟩),
  (157,⟨Try.t157.desc,Try.t157.size,Try.t157.bytes,zl Try.t157,false⟩),
  (158,⟨Try.t158.desc,Try.t158.size,Try.t158.bytes,zl Try.t158,false⟩),
  (159,⟨Try.t159.desc,Try.t159.size,Try.t159.bytes,zl Try.t159,false⟩),
  (161,⟨Try.t160.desc,Try.t161.size,Try.t161.bytes,zl Try.t161,false⟩),
  (162,⟨Try.t162.desc,Try.t162.size,Try.t162.bytes,zl Try.t162,false⟩),
  (164,⟨Try.t164.desc,Try.t164.size,Try.t164.bytes,zl Try.t164,true⟩),
  (166,⟨Try.t165.desc,Try.t166.size,Try.t166.bytes,zl Try.t166,true⟩),
  (170,⟨Try.t169.desc,Try.t170.size,Try.t170.bytes,zl Try.t170,true⟩),
  (182,⟨Try.t182.desc,Try.t182.size,Try.t182.bytes,zl Try.t182,false⟩),
  (184,⟨Try.t184.desc,Try.t184.size,Try.t184.bytes,zl Try.t184,false⟩),
  (186,⟨Try.t185.desc,Try.t186.size,Try.t186.bytes,zl Try.t186,false⟩),
  (192,⟨Try.t192.desc,Try.t192.size,Try.t192.bytes,zl Try.t192,false⟩),
  (195,⟨Try.t195.desc,Try.t195.size,Try.t195.bytes,zl Try.t195,false⟩),
  (198,⟨Try.t198.desc,Try.t198.size,Try.t198.bytes,zl Try.t198,false⟩),
  (211,⟨Try.t211.desc,Try.t211.size,Try.t211.bytes,zl Try.t211,true⟩),
  (215,⟨Try.t214.desc,Try.t215.size,Try.t215.bytes,zl Try.t215,false⟩),
  (226,⟨Try.t225.desc,Try.t226.size,Try.t226.bytes,zl Try.t226,false⟩),
  (234,⟨Try.t234.desc,Try.t234.size,Try.t234.bytes,zl Try.t234,false⟩),
  (243,⟨Try.t243.desc,Try.t243.size,Try.t243.bytes,zl Try.t243,false⟩),
  (244,⟨Try.t244.desc,Try.t244.size,Try.t244.bytes,zl Try.t244,false⟩)]
theorem tT:qO Try.prog TT:=⟨gY (by kernel_rfl) (by kernel_rfl) (by kernel_rfl),⟨ji,cZ (by kernel_rfl)⟩,gY (by kernel_rfl) (by kernel_rfl) (by kernel_rfl),⟨ji,cZ (by kernel_rfl)⟩,gY (by kernel_rfl) (by kernel_rfl) (by kernel_rfl),⟨ji,cZ (by kernel_rfl)⟩,gY (by kernel_rfl) (by kernel_rfl) (by kernel_rfl),⟨ji,cZ (by kernel_rfl)⟩,gY (by kernel_rfl) (by kernel_rfl) (by kernel_rfl),⟨ji,cZ (by kernel_rfl)⟩,gY (by kernel_rfl) (by kernel_rfl) (by kernel_rfl),⟨ji,cZ (by kernel_rfl)⟩,gY (by kernel_rfl) (by kernel_rfl) (by kernel_rfl),⟨ji,cZ (by kernel_rfl)⟩,gY (by kernel_rfl) (by kernel_rfl) (by kernel_rfl),⟨ji,cZ (by kernel_rfl)⟩,gY (by kernel_rfl) (by kernel_rfl) (by kernel_rfl),⟨ji,cZ (by kernel_rfl)⟩,gY (by kernel_rfl) (by kernel_rfl) (by kernel_rfl),⟨ji,cZ (by kernel_rfl)⟩,gY (by kernel_rfl) (by kernel_rfl) (by kernel_rfl),⟨ji,cZ (by kernel_rfl)⟩,gY (by kernel_rfl) (by kernel_rfl) (by kernel_rfl),⟨ji,cZ (by kernel_rfl)⟩,gY (by kernel_rfl) (by kernel_rfl) (by kernel_rfl),⟨ji,cZ (by kernel_rfl)⟩,gY (by kernel_rfl) (by kernel_rfl) (by kernel_rfl),⟨ji,cZ (by kernel_rfl)⟩,gY (by kernel_rfl) (by kernel_rfl) (by kernel_rfl),⟨ji,cZ (by kernel_rfl)⟩,gY (by kernel_rfl) (by kernel_rfl) (by kernel_rfl),⟨ji,cZ (by kernel_rfl)⟩,gY (by kernel_rfl) (by kernel_rfl) (by kernel_rfl),⟨ji,cZ (by kernel_rfl)⟩,gY (by kernel_rfl) (by kernel_rfl) (by kernel_rfl),⟨ji,cZ (by kernel_rfl)⟩,gY (by kernel_rfl) (by kernel_rfl) (by kernel_rfl),⟨ji,cZ (by kernel_rfl)⟩,gY (by kernel_rfl) (by kernel_rfl) (by kernel_rfl),⟨ji,cZ (by kernel_rfl)⟩,gY (by kernel_rfl) (by kernel_rfl) (by kernel_rfl),⟨ji,cZ (by kernel_rfl)⟩,gY (by kernel_rfl) (by kernel_rfl) (by kernel_rfl),⟨ji,cZ (by kernel_rfl)⟩,gY (by kernel_rfl) (by kernel_rfl) (by kernel_rfl),⟨fun _=> ⟨by kernel_rfl,by kernel_rfl⟩,cZ (by kernel_rfl)⟩,gY (by kernel_rfl) (by kernel_rfl) (by kernel_rfl),⟨ji,cZ (by kernel_rfl)⟩,gY (by kernel_rfl) (by kernel_rfl) (by kernel_rfl),⟨ji,cZ (by kernel_rfl)⟩,gY (by kernel_rfl) (by kernel_rfl) (by kernel_rfl),⟨ji,cZ (by kernel_rfl)⟩,gY (by kernel_rfl) (by kernel_rfl) (by kernel_rfl),⟨fun _=> ⟨by kernel_rfl,by kernel_rfl⟩,cZ (by kernel_rfl)⟩,gY (by kernel_rfl) (by kernel_rfl) (by kernel_rfl),⟨ji,cZ (by kernel_rfl)⟩,gY (by kernel_rfl) (by kernel_rfl) (by kernel_rfl),⟨ji,cZ (by kernel_rfl)⟩,gY (by kernel_rfl) (by kernel_rfl) (by kernel_rfl),⟨ji,cZ (by kernel_rfl)⟩,gY (by kernel_rfl) (by kernel_rfl) (by kernel_rfl),⟨ji,cZ (by kernel_rfl)⟩,gY (by kernel_rfl) (by kernel_rfl) (by kernel_rfl),⟨ji,cZ (by kernel_rfl)⟩,gY (by kernel_rfl) (by kernel_rfl) (by kernel_rfl),⟨fun _=> ⟨by kernel_rfl,by kernel_rfl⟩,cZ (by kernel_rfl)⟩,gY (by kernel_rfl) (by kernel_rfl) (by kernel_rfl),⟨ji,cZ (by kernel_rfl)⟩,gY (by kernel_rfl) (by kernel_rfl) (by kernel_rfl),⟨ji,cZ (by kernel_rfl)⟩,gY (by kernel_rfl) (by kernel_rfl) (by kernel_rfl),⟨ji,cZ (by kernel_rfl)⟩,gY (by kernel_rfl) (by kernel_rfl) (by kernel_rfl),⟨ji,cZ (by kernel_rfl)⟩,gY (by kernel_rfl) (by kernel_rfl) (by kernel_rfl),⟨ji,cZ (by kernel_rfl)⟩,gY (by kernel_rfl) (by kernel_rfl) (by kernel_rfl),⟨fun _=> ⟨by kernel_rfl,by kernel_rfl⟩,cZ (by kernel_rfl)⟩,gY (by kernel_rfl) (by kernel_rfl) (by kernel_rfl),⟨fun _=> ⟨by kernel_rfl,by kernel_rfl⟩,cZ (by kernel_rfl)⟩,gY (by kernel_rfl) (by kernel_rfl) (by kernel_rfl),⟨fun _=> ⟨by kernel_rfl,by kernel_rfl⟩,cZ (by kernel_rfl)⟩,gY (by kernel_rfl) (by kernel_rfl) (by kernel_rfl),⟨ji,cZ (by kernel_rfl)⟩,gY (by kernel_rfl) (by kernel_rfl) (by kernel_rfl),⟨ji,cZ (by kernel_rfl)⟩,gY (by kernel_rfl) (by kernel_rfl) (by kernel_rfl),⟨ji,cZ (by kernel_rfl)⟩,gY (by kernel_rfl) (by kernel_rfl) (by kernel_rfl),⟨ji,cZ (by kernel_rfl)⟩,gY (by kernel_rfl) (by kernel_rfl) (by kernel_rfl),⟨ji,cZ (by kernel_rfl)⟩,gY (by kernel_rfl) (by kernel_rfl) (by kernel_rfl),⟨ji,cZ (by kernel_rfl)⟩,gY (by kernel_rfl) (by kernel_rfl) (by kernel_rfl),⟨fun _=> ⟨by kernel_rfl,by kernel_rfl⟩,cZ (by kernel_rfl)⟩,gY (by kernel_rfl) (by kernel_rfl) (by kernel_rfl),⟨ji,cZ (by kernel_rfl)⟩,gY (by kernel_rfl) (by kernel_rfl) (by kernel_rfl),⟨ji,cZ (by kernel_rfl)⟩,gY (by kernel_rfl) (by kernel_rfl) (by kernel_rfl),⟨ji,cZ (by kernel_rfl)⟩,gY (by kernel_rfl) (by kernel_rfl) (by kernel_rfl),⟨ji,cZ (by kernel_rfl)⟩,gY (by kernel_rfl) (by kernel_rfl) (by kernel_rfl),⟨ji,cZ (by kernel_rfl)⟩,trivial⟩
theorem mX:Try.prog.follows .mixedOrders=true:=by kernel_rfl
def nZ  :Bool→Exit→St→Prop:=
  fun r=>bB TT [.tmp 4] (vB r) []
section
variable (a:(List Bool)) (b:(List Bool))
abbrev k0:Nat × TV:=(0,(vD (aK none 1 aj a)))
abbrev k1:Nat × TV:=(1,(vD (aK none 1 aj b)))
end
def rW (a:(List Bool)) (b:(List Bool)):Int→St:=
  fun i=> ⟨[(k0 a),(k1 b),(5,(vI i))],[]⟩
def sG  :Unit→St:=
  fun _=> ⟨[],[]⟩
def BZ (a:(List Bool)) (b:(List Bool)):(aM Int (Ex Unit Bool))→Exit→St→Prop:=
  LQ 0 [] (rW a b) sG nZ
section
variable (i:Int)
abbrev k3:TV:=(vI (IntKind.wrap .i64 (i+1)))
abbrev k2:Nat × TV:=(5,(k3 i))
end
theorem ng (a:(List Bool)) (b:(List Bool)) {r:Bool} (h:mW a b=some r):Fn Try.prog 42 [(sD (aK none 1 aj a)),(sD (aK none 1 aj b))] [] (vB r) []:=by
 refine fN tT Try.func42 rfl rfl fun B=> ?_
 show bJ _ _ _ _ _ _ (nZ r) _
 unfold mW at h
 refine sz tT ⟨[(k0 a),(k1 b)],[]⟩ {} [] ?_
 refine aQ (sz tT ⟨[(k0 a),(k1 b),(10,(vB (!decide ((a.length:Int)=(b.length:Int)))))],[]⟩ {} [] ?_)
 refine bI h (fun hb2 h=> ?_) (fun hb2 h=> ?_)
 ·refine ct hb2 ?_
  refine sz tT ⟨[(4,(vB false))],[]⟩ {} [] ?_
  refine aR ?_
  obtain rfl:=oi h
  exact rl [(sB false)]
 ·refine cf hb2 ?_
  refine aP (aQ (sz tT ⟨[(k0 a),(k1 b),(5,(vI 0))],[]⟩ {} [] ?_))
  refine bE h fun y hy h=> ?_
  refine aL [] (rW a b) sG nZ hy (fun s f h=> ?_) ?_
  ·clear hy
   show bJ _ _ _ _ _ _ ((BZ a b) f) _
   unfold sJ at h
   obtain⟨i,rfl⟩: ∃q,q=s:=⟨_,rfl⟩
   refine aQ (sz tT ⟨[(k0 a),(k1 b),(5,(vI i)),(14,(vB (decide (i<(a.length:Int)))))],[]⟩ {} [] ?_)
   refine bI h (fun hb1 h=> ?_) (fun hb1 h=> ?_)
   ·refine ct hb1 ?_
    refine aP (aQ (aB (aQ (aO h fun⟨a1,a2⟩ h=> ?_))))
    refine dg tT mX ⟨[(k0 a),(k1 b),(5,(vI i)),(25,(vB (!((at' a i.toNat)==(at' b i.toNat)))))],[]⟩ [_,_] {} [] ⟨a1,a2,trivial⟩ ?_
    refine bI h (fun hb h=> ?_) (fun hb h=> ?_)
    ·refine ct hb ?_
     refine sz tT ⟨[(4,(vB false))],[]⟩ {} [] ?_
     refine aR ?_
     obtain rfl:=oi h
     exact lR dX (dZ 0) dY (bB.mk (.inr rfl) (p:=[]) (l:=[(sB false)]) (by kernel_rfl) trivial (eH.refl _) trivial)
    ·refine cf hb ?_
     refine aP (rz tT ⟨[(k0 a),(k1 b),(k2 i)],[]⟩ {} [] ?_)
     obtain rfl:=oi h
     exact lN
   ·refine cf hb1 ?_
    refine aI (fz ⟨[],[]⟩ []) ?_
    refine aX ?_
    obtain rfl:=oi h
    exact lB
  ·clear hy
   cases y with
   |brk z=>
    unfold gm
    refine⟨_, .refl, ?_⟩
    refine sz tT ⟨[(4,(vB true))],[]⟩ {} [] ?_
    refine aR ?_
    obtain rfl:=oi h
    exact rl [(sB true)]
   |ret v=>
    obtain rfl:=oi h
    unfold gm
    intro e st hn ha hR
    cases e with
    |normal=>exact absurd rfl hn
    |exit id=>exact hR
    |goto l=>exact hR
    |ret=>exact hR
    |panic c=>exact hR
    |outgrown=>exact hR
def FJ  :Bool→Exit→St→Prop:=
  fun r=>bB TT [.tmp 6] (vB r) []
theorem aU (n:Int) (u0:Int) (u1:Int) {r:Bool} (h:aW n u0 u1=some r):Fn Try.prog 94 [(sI n),(sI u0),(sI u1)] [] (vB r) []:=by
 refine fN tT Try.func94 rfl rfl fun B=> ?_
 show bJ _ _ _ _ _ _ (FJ r) _
 unfold aW at h
 refine sz tT ⟨[(0,(vI n)),(1,(vI u0)),(2,(vI u1))],[]⟩ {} [] ?_
 refine sg tT ⟨[(6,(vB (bif (decide (u0≤n))then(decide (n≤u1))else false)))],[]⟩ (eqs (decide (u0≤n)) 4 []) {yb:=[(3,(decide (u0≤n)))] } [] (ae trivial) ?_
 refine aR ?_
 obtain rfl:=oi h
 exact rl [(sB (bif (decide (u0≤n))then(decide (n≤u1))else false))]
def Fh  :(Int × (List Source) × (List Link) × (List ay))→Exit→St→Prop:=
  fun r=>bB TT [.tmp 2] (vD (.fn 135 1 (nC [(lT [(.int .i64 r.1),(aK none 5 Source.cell r.2.1),(aK none 6 Link.cell r.2.2.1),(aK none 4 ay.cell r.2.2.2)] 0)]))) []
section
variable (p:ah)
abbrev k6:DV:=(aK none 4 ay.cell p.racks)
abbrev k5:List CV:=[(cI p.buses),(.d (aK none 5 Source.cell p.sources)),(.d (aK none 6 Link.cell p.links)),(.d (k6 p))]
abbrev k4:List SV:=[(.agg (k5 p))]
abbrev k10:DV:=(lT [(.int .i64 p.buses),(aK none 5 Source.cell p.sources),(aK none 6 Link.cell p.links),(k6 p)] 0)
abbrev k9:TV:=(vD (k10 p))
abbrev k8:Nat × TV:=(1,(k9 p))
abbrev k7:St:=⟨[(k8 p)],[]⟩
abbrev k11:=(nC [(k10 p)])
end
theorem Ev (p:ah) {r:(Int × (List Source) × (List Link) × (List ay))} (h:oK p=some r):Fn Try.prog 96 (k4 p) [] (vD (.fn 135 1 (nC [(lT [(.int .i64 r.1),(aK none 5 Source.cell r.2.1),(aK none 6 Link.cell r.2.2.1),(aK none 4 ay.cell r.2.2.2)] 0)]))) []:=by
 refine fN tT Try.func96 rfl rfl fun B=> ?_
 show bJ _ _ _ _ _ _ (Fh r) _
 unfold oK at h
 refine sz tT (k7 p) {fr:=[(0,1)] } [1] ?_
 refine sz tT ⟨[(2,(vD (.fn 135 1 (k11 p))))],[]⟩ {} [] ?_
 refine aR ?_
 obtain rfl:=oi h
 exact rl [(sD (.fn 135 1 (k11 p)))]
def Iy  :(Int × (List Source) × (List Link) × (List ay))→Exit→St→Prop:=
  fun r=>bB TT [.tmp 2] (vD (.fn 138 1 (nC [(lT [(.int .i64 r.1),(aK none 5 Source.cell r.2.1),(aK none 6 Link.cell r.2.2.1),(aK none 4 ay.cell r.2.2.2)] 0)]))) []
theorem Gx (p:ah) {r:(Int × (List Source) × (List Link) × (List ay))} (h:sQ p=some r):Fn Try.prog 98 (k4 p) [] (vD (.fn 138 1 (nC [(lT [(.int .i64 r.1),(aK none 5 Source.cell r.2.1),(aK none 6 Link.cell r.2.2.1),(aK none 4 ay.cell r.2.2.2)] 0)]))) []:=by
 refine fN tT Try.func98 rfl rfl fun B=> ?_
 show bJ _ _ _ _ _ _ (Iy r) _
 unfold sQ at h
 refine sz tT (k7 p) {fr:=[(0,1)] } [1] ?_
 refine sz tT ⟨[(2,(vD (.fn 138 1 (k11 p))))],[]⟩ {} [] ?_
 refine aR ?_
 obtain rfl:=oi h
 exact rl [(sD (.fn 138 1 (k11 p)))]
def Ia  :(Int × (List Source) × (List Link) × (List ay))→Exit→St→Prop:=
  fun r=>bB TT [.tmp 2] (vD (.fn 141 1 (nC [(lT [(.int .i64 r.1),(aK none 5 Source.cell r.2.1),(aK none 6 Link.cell r.2.2.1),(aK none 4 ay.cell r.2.2.2)] 0)]))) []
theorem GJ (p:ah) {r:(Int × (List Source) × (List Link) × (List ay))} (h:tN p=some r):Fn Try.prog 100 (k4 p) [] (vD (.fn 141 1 (nC [(lT [(.int .i64 r.1),(aK none 5 Source.cell r.2.1),(aK none 6 Link.cell r.2.2.1),(aK none 4 ay.cell r.2.2.2)] 0)]))) []:=by
 refine fN tT Try.func100 rfl rfl fun B=> ?_
 show bJ _ _ _ _ _ _ (Ia r) _
 unfold tN at h
 refine sz tT (k7 p) {fr:=[(0,1)] } [1] ?_
 refine sz tT ⟨[(2,(vD (.fn 141 1 (k11 p))))],[]⟩ {} [] ?_
 refine aR ?_
 obtain rfl:=oi h
 exact rl [(sD (.fn 141 1 (k11 p)))]
def Cu  :Bool→Exit→St→Prop:=
  fun r=>bB TT [.tmp 3] (vB r) []
section
variable (u4:(List Source)) (u6:(List ay)) (x1:Int) (u5:(List Link)) (x:Source) (r_:Bool) (u0:Bool) (u1:Bool) (u2:Bool)
abbrev k13:DV:=(aK none 5 Source.cell u4)
abbrev k14:DV:=(aK none 4 ay.cell u6)
abbrev k12:DV:=(lT [(.int .i64 x1),(k13 u4),(aK none 6 Link.cell u5),(k14 u6)] 0)
abbrev k15:Nat × TV:=(1,(vD (k12 u4 u6 x1 u5)))
abbrev k16:Nat × TV:=(2,(vD (lT [(.int .i64 x.bus),(.int .i64 x.kind),(.int .i64 x.power),(.int .i64 x.sync),(.int .i64 x.iL)] 0)))
abbrev k17:=(IntKind.wrap .i64 (x1 - 1))
abbrev k20:=(bif r_ then u0 else false)
abbrev k19:=(bif (k20 r_ u0)then u1 else false)
abbrev k18:=(bif (k19 r_ u0 u1)then u2 else false)
abbrev k21:=(jl [(6,r_),(11,(k20 r_ u0)),(16,(k19 r_ u0 u1)),(21,(k18 r_ u0 u1 u2))])
end
theorem BP (x:Source) (x1:Int) (u4:(List Source)) (u5:(List Link)) (u6:(List ay)) {r:Bool} (h:jM x x1 u4 u5 u6=some r):Fn Try.prog 135 [(.agg [(cI x.bus),(cI x.kind),(cI x.power),(cI x.sync),(cI x.iL)]),(sD (k12 u4 u6 x1 u5))] [] (vB r) []:=by
 refine fN tT Try.func135 rfl rfl fun B=> ?_
 show bJ _ _ _ _ _ _ (Cu r) _
 unfold jM at h
 refine sz tT ⟨[(k15 u4 u6 x1 u5),(k16 x)],[]⟩ {fr:=[(0,1)] } [1] ?_
 refine aQ (bE h fun r_ hr_ h=> ?_)
 refine bE h fun u0 hr_1 h=> ?_
 refine bE h fun u1 hr_2 h=> ?_
 refine bE h fun u2 hr_3 h=> ?_
 refine bE h fun u3 hr_4 h=> ?_
 have q0:=aU x.bus 0 (k17 x1) hr_
 refine rg tT ⟨[(3,(vB (bif (k18 r_ u0 u1 u2)then u3 else false)))],[]⟩ (_::(eqs r_ 3 ((gP (k21 r_ u0 u1 u2) [(6,true)]→All [Fn Try.prog 94 [(sI x.kind),(sI 1),(sI 3)] [] (vB u0) []])::(r_=r_)::(eqs (k20 r_ u0) 3 ((gP (k21 r_ u0 u1 u2) [(11,true)]→All [Fn Try.prog 94 [(sI x.power),(sI 1),(sI 100000)] [] (vB u1) []])::((k20 r_ u0)=(k20 r_ u0))::(eqs (k19 r_ u0 u1) 3 ((gP (k21 r_ u0 u1 u2) [(16,true)]→All [Fn Try.prog 94 [(sI x.sync),(sI 0),(sI 8)] [] (vB u2) []])::((k19 r_ u0 u1)=(k19 r_ u0 u1))::(eqs (k18 r_ u0 u1 u2) 3 [gP (k21 r_ u0 u1 u2) [(21,true)]→All [Fn Try.prog 94 [(sI x.iL),(sI 10),(sI 100000)] [] (vB u3) []],(k18 r_ u0 u1 u2)=(k18 r_ u0 u1 u2)])))))))) {yb:=[(6,r_),(11,(k20 r_ u0)),(16,(k19 r_ u0 u1)),(21,(k18 r_ u0 u1 u2))],an:=[(5,cA q0 []),(9, .call [] (vB u0) []),(14, .call [] (vB u1) []),(19, .call [] (vB u2) []),(24, .call [] (vB u3) [])] } [] ⟨q0,(ae ⟨(fun hg=> ⟨(aU x.kind 1 3 (gF hr_1 (aZ hg))),trivial⟩),rfl,(ae ⟨(fun hg=> ⟨(aU x.power 1 100000 (gF hr_2 (aZ hg))),trivial⟩),rfl,(ae ⟨(fun hg=> ⟨(aU x.sync 0 8 (gF hr_3 (aZ hg))),trivial⟩),rfl,(ae ⟨(fun hg=> ⟨(aU x.iL 10 100000 (gF hr_4 (aZ hg))),trivial⟩),rfl,trivial⟩)⟩)⟩)⟩)⟩ ?_
 refine aR ?_
 obtain rfl:=oi h
 exact rl [(sB (bif (k18 r_ u0 u1 u2)then u3 else false))]
def EY  :Bool→Exit→St→Prop:=
  fun r=>bB TT [.tmp 3] (vB r) []
section
variable (x1:Int) (u0:(List Source)) (u1:(List Link)) (u2:(List ay))
abbrev k23:=(nC [(k12 u0 u2 x1 u1)])
abbrev k22:DV:=(lT [(.fn 135 1 (k23 x1 u0 u1 u2))] 0)
abbrev k24:TV:=(vD (k22 x1 u0 u1 u2))
end
theorem Ep (x:Source) (x1:Int) (u0:(List Source)) (u1:(List Link)) (u2:(List ay)) {r:Bool} (h:pM x x1 u0 u1 u2=some r):Fn Try.prog 134 [(.agg [(cI x.bus),(cI x.kind),(cI x.power),(cI x.sync),(cI x.iL)]),(sD (k22 x1 u0 u1 u2))] [] (vB r) []:=by
 refine fN tT Try.func134 rfl rfl fun B=> ?_
 show bJ _ _ _ _ _ _ (EY r) _
 unfold pM at h
 refine sz tT ⟨[(1,(k24 x1 u0 u1 u2)),(k16 x)],[]⟩ {fr:=[(0,1)] } [1] ?_
 refine aQ (bE h fun r_ hr_ h=> ?_)
 have q0:=BP x x1 u0 u1 u2 hr_
 refine rg tT ⟨[(3,(vB (!r_)))],[]⟩ [_] {an:=[(2,cA q0 [])] } [] ⟨q0,trivial⟩ ?_
 refine aR ?_
 obtain rfl:=oi h
 exact rl [(sB (!r_))]
def l9  :Int→Exit→St→Prop:=
  fun r=>bB TT [.tmp 4] (vI r) []
section
variable (s_:(List Source)) (f_:Int) (u0:(List Source)) (u1:(List Link)) (u2:(List ay))
abbrev k25:Nat × TV:=(0,(vD (k13 s_)))
abbrev k27:=(nC [(k22 f_ u0 u1 u2)])
abbrev k26:Nat × TV:=(1,(vD (.fn 134 1 (k27 f_ u0 u1 u2))))
abbrev k28:Nat × TV:=(7,(vI (s_.length:Int)))
end
def qa (s_:(List Source)) (f_:Int) (u0:(List Source)) (u1:(List Link)) (u2:(List ay)):Int→St:=
  fun t8=> ⟨[(k25 s_),(k26 f_ u0 u1 u2),(k28 s_),(8,(vI t8))],[]⟩
def qm  :Unit→St:=
  fun _=> ⟨[],[]⟩
def zZ (s_:(List Source)) (f_:Int) (u0:(List Source)) (u1:(List Link)) (u2:(List ay)):(aM Int (Ex Unit Int))→Exit→St→Prop:=
  LQ 0 [] (qa s_ f_ u0 u1 u2) qm l9
section
variable (s_:(List Source)) (f_:Int) (u0:(List Source)) (u1:(List Link)) (u2:(List ay)) (t8:Int)
abbrev k29:List SV:=[(sD (k13 s_)),(sD (.fn 134 1 (k27 f_ u0 u1 u2)))]
abbrev k30:St:=⟨[(k25 s_),(k26 f_ u0 u1 u2)],[]⟩
abbrev Yj:Nat × TV:=(8,(k3 t8))
end
theorem zR (s_:(List Source)) (f_:Int) (u0:(List Source)) (u1:(List Link)) (u2:(List ay)) {r:Int} (h:ko s_ f_ u0 u1 u2=some r):Fn Try.prog 150 (k29 s_ f_ u0 u1 u2) [] (vI r) []:=by
 refine fN tT Try.func150 rfl rfl fun B=> ?_
 show bJ _ _ _ _ _ _ (l9 r) _
 unfold ko at h
 refine sz tT (k30 s_ f_ u0 u1 u2) {} [] ?_
 refine aQ (sz tT ⟨[(k25 s_),(k26 f_ u0 u1 u2),(k28 s_),(8,(vI 0))],[]⟩ {} [] ?_)
 refine bE h fun y hy h=> ?_
 refine aL [] (qa s_ f_ u0 u1 u2) qm l9 hy (fun s f h=> ?_) ?_
 ·clear hy
  show bJ _ _ _ _ _ _ ((zZ s_ f_ u0 u1 u2) f) _
  unfold jf at h
  obtain⟨t8,rfl⟩: ∃q,q=s:=⟨_,rfl⟩
  refine sz tT ⟨[(k25 s_),(k26 f_ u0 u1 u2),(k28 s_),(8,(vI t8)),(9,(vB (decide (t8<(s_.length:Int)))))],[]⟩ {} [] ?_
  refine aQ ?_
  refine bI h (fun hb1 h=> ?_) (fun hb1 h=> ?_)
  ·refine ct hb1 ?_
   refine aP (aQ (aB (sz tT ⟨[(k25 s_),(k26 f_ u0 u1 u2),(5,(vI t8)),(k28 s_),(8,(vI t8))],[]⟩ {} [] ?_)))
   refine aQ (bE h fun r_ hr_ h=> ?_)
   refine aO h fun a1 h=> ?_
   have q1:=Ep (at' s_ t8.toNat) f_ u0 u1 u2 hr_
   refine rg tT ⟨[(k25 s_),(k26 f_ u0 u1 u2),(5,(vI t8)),(k28 s_),(8,(vI t8)),(16,(vB r_))],[]⟩ [_,_] {an:=[(5,cA q1 [])] } [] ⟨a1,q1,trivial⟩ ?_
   refine bI h (fun hb h=> ?_) (fun hb h=> ?_)
   ·refine ct hb ?_
    refine sz tT ⟨[(4,(vI t8))],[]⟩ {} [] ?_
    refine aR ?_
    obtain rfl:=oi h
    exact lR dX (dZ 0) dY (bB.mk (.inr rfl) (p:=[]) (l:=[(sI t8)]) (by kernel_rfl) trivial (eH.refl _) trivial)
   ·refine cf hb ?_
    refine aP (rz tT ⟨[(k25 s_),(k26 f_ u0 u1 u2),(k28 s_),(Yj t8)],[]⟩ {} [] ?_)
    obtain rfl:=oi h
    exact lN
  ·refine cf hb1 ?_
   refine aI (fz ⟨[],[]⟩ []) ?_
   refine aX ?_
   obtain rfl:=oi h
   exact lB
 ·clear hy
  cases y with
  |brk z=>
   unfold gm
   refine⟨_, .refl, ?_⟩
   refine sz tT ⟨[(4,(vI (-1)))],[]⟩ {} [] ?_
   refine aR ?_
   obtain rfl:=oi h
   exact rl [(sI (-1))]
  |ret v=>
   obtain rfl:=oi h
   unfold gm
   intro e st hn ha hR
   cases e with
   |normal=>exact absurd rfl hn
   |exit id=>exact hR
   |goto l=>exact hR
   |ret=>exact hR
   |panic c=>exact hR
   |outgrown=>exact hR
def yh  :Bool→Exit→St→Prop:=
  fun r=>bB TT [.tmp 4] (vB r) []
section
variable (r_:Int)
abbrev k32:St:=⟨[(4,(vB (decide (0≤r_))))],[]⟩
end
theorem xB (s_:(List Source)) (f_:Int) (u0:(List Source)) (u1:(List Link)) (u2:(List ay)) {r:Bool} (h:gD s_ f_ u0 u1 u2=some r):Fn Try.prog 133 (k29 s_ f_ u0 u1 u2) [] (vB r) []:=by
 refine fN tT Try.func133 rfl rfl fun B=> ?_
 show bJ _ _ _ _ _ _ (yh r) _
 unfold gD at h
 refine sz tT (k30 s_ f_ u0 u1 u2) {} [] ?_
 refine aQ (bE h fun r_ hr_ h=> ?_)
 have q0:=zR s_ f_ u0 u1 u2 hr_
 refine rg tT (k32 r_) [_] {an:=[(2,cA q0 [])] } [] ⟨q0,trivial⟩ ?_
 refine aR ?_
 obtain rfl:=oi h
 exact rl [(sB (decide (0≤r_)))]
def HZ  :Bool→Exit→St→Prop:=
  fun r=>bB TT [.tmp 6] (vB r) []
theorem G7 (l:(List Source)) (u0:Int) (u1:Int) (u2:(List Source)) (u3:(List Link)) (u4:(List ay)) {r:Bool} (h:o9 l u0 u1 u2 u3 u4=some r):Fn Try.prog 95 [(sD (k13 l)),(sI u0),(sD (.fn 135 1 (k23 u1 u2 u3 u4)))] [] (vB r) []:=by
 refine fN tT Try.func95 rfl rfl fun B=> ?_
 show bJ _ _ _ _ _ _ (HZ r) _
 unfold o9 at h
 refine sz tT ⟨[(k25 l),(1,(vI u0)),(5,(k24 u1 u2 u3 u4))],[]⟩ {fr:=[(0,1)] } [1] ?_
 refine aQ (bE h fun r_ hr_ h=> ?_)
 refine rg tT ⟨[(6,(vB (bif (decide ((l.length:Int)≤u0))then(!r_)else false)))],[]⟩ (eqs (decide ((l.length:Int)≤u0)) 3 ((gP (jl [(4,(decide ((l.length:Int)≤u0)))]) [(4,true)]→All [Fn Try.prog 133 (k29 l u1 u2 u3 u4) [] (vB r_) []])::(eqs (decide ((l.length:Int)≤u0)) 2 []))) {yb:=[(4,(decide ((l.length:Int)≤u0)))],an:=[(7, .call [] (vB r_) [])] } [] (ae ⟨(fun hg=> ⟨(xB l u1 u2 u3 u4 (gF hr_ (aZ hg))),trivial⟩),(ae trivial)⟩) ?_
 refine aR ?_
 obtain rfl:=oi h
 exact rl [(sB (bif (decide ((l.length:Int)≤u0))then(!r_)else false))]
def qH  :Bool→Exit→St→Prop:=
  fun r=>bB TT [.tmp 3] (vB r) []
section
variable (x:Link)
abbrev Yd:Nat × TV:=(2,(vD (lT [(.int .i64 x.a),(.int .i64 x.b),(.int .i64 x.kind),(.int .i64 x.most),(.int .i64 x.iL),(aK none 2 iQ.cell x.trip)] 0)))
abbrev k34:Nat × TV:=(48,(vD (aK none 2 iQ.cell x.trip)))
abbrev k35:Nat × TV:=(49,(vI (x.trip.length:Int)))
end
def wS (x:Link):Int→St:=
  fun u0=> ⟨[(Yd x),(k34 x),(k35 x),(50,(vI u0))],[]⟩
section
variable (x:Link)
abbrev k36:St:=⟨[(Yd x)],[]⟩
end
def wN (x:Link):Unit→St:=
  fun _=>(k36 x)
def EA (x:Link):(aM Int (Ex Unit Bool))→Exit→St→Prop:=
  LQ 0 [] (wS x) (wN x) qH
section
variable (x:Link) (r_:Bool) (u1:Bool) (u3:Bool) (u5:Bool) (u0:Int) (u2:Bool) (u4:Bool)
abbrev k37:List CV:=[(cI x.a),(cI x.b),(cI x.kind),(cI x.most),(cI x.iL),(.d (aK none 2 iQ.cell x.trip))]
abbrev k38:List (Nat × Option Ob):=[(5,some (.cells 53 (k37 x)))]
abbrev Te:=(bif (!r_)then true else(!u1))
abbrev k41:=(bif (Te r_ u1)then true else(decide (x.a=x.b)))
abbrev k40:=(bif (k41 x r_ u1)then true else(!u3))
abbrev k39:=(bif (k40 x r_ u1 u3)then true else(!u5))
abbrev k43:=(jl [(7,(!r_)),(16,(Te r_ u1)),(23,(k41 x r_ u1)),(29,(k40 x r_ u1 u3)),(35,(k39 x r_ u1 u3 u5))])
abbrev Zz:=(decide (((at' x.trip u0.toNat).amps)≤((at' x.trip ((k17 u0).toNat)).amps)))
abbrev k45:=(jl [(4,(!u2)),(10,(Te u2 u4)),(13,(decide (0<u0))),(24,(Zz x u0))])
abbrev Yg:=(decide ((x.trip.length:Int)≤6))
abbrev k48:=(decide ((x.trip.length:Int)=0))
abbrev k46:=(bif (Yg x)then(bif (k48 x)then true else(decide (x.kind=3)))else false)
end
theorem EK (x:Link) (x1:Int) (u6:(List Source)) (u7:(List Link)) (u8:(List ay)) {r:Bool} (h:mF x x1 u6 u7 u8=some r):Fn Try.prog 138 [(.agg (k37 x)),(sD (k12 u6 u8 x1 u7))] [] (vB r) []:=by
 refine fN tT Try.func138 rfl rfl fun B=> ?_
 show bJ _ _ _ _ _ _ (qH r) _
 unfold mF at h
 refine sz tT ⟨[(k15 u6 u8 x1 u7),(2,(vP 5 0))],(k38 x)⟩ {fr:=[(0,5)] } [] ?_
 refine aQ (aQ (bE h fun r_ hr_ h=> ?_))
 refine bE h fun u1 hr_1 h=> ?_
 refine bE h fun u3 hr_2 h=> ?_
 refine bE h fun u5 hr_3 h=> ?_
 refine bE h fun u9 hr_4 h=> ?_
 have q0:=aU x.a 0 (k17 x1) hr_
 refine rg tT ⟨[(2,(vP 5 0)),(46,(vB (bif (k39 x r_ u1 u3 u5)then true else(!u9))))],(k38 x)⟩ (_::(eqs (!r_) 6 ((gP (k43 x r_ u1 u3 u5) [(7,false)]→All [Fn Try.prog 94 [(sI x.b),(sI 0),(sI (k17 x1))] [] (vB u1) []])::(eqs (!r_) 2 (eqs (Te r_ u1) 6 (eqs (k41 x r_ u1) 3 ((gP (k43 x r_ u1 u3 u5) [(23,false)]→All [Fn Try.prog 94 [(sI x.kind),(sI 1),(sI 3)] [] (vB u3) []])::(eqs (k41 x r_ u1) 2 (eqs (k40 x r_ u1 u3) 3 ((gP (k43 x r_ u1 u3 u5) [(29,false)]→All [Fn Try.prog 94 [(sI x.most),(sI 1),(sI 100000)] [] (vB u5) []])::(eqs (k40 x r_ u1 u3) 2 (eqs (k39 x r_ u1 u3 u5) 3 ((gP (k43 x r_ u1 u3 u5) [(35,false)]→All [Fn Try.prog 94 [(sI x.iL),(sI 10),(sI 100000)] [] (vB u9) []])::(eqs (k39 x r_ u1 u3 u5) 2 [])))))))))))))) {yb:=[(7,(!r_)),(16,(Te r_ u1)),(23,(k41 x r_ u1)),(29,(k40 x r_ u1 u3)),(35,(k39 x r_ u1 u3 u5))],an:=[(5,cA q0 []),(13, .call [] (vB u1) []),(26, .call [] (vB u3) []),(32, .call [] (vB u5) []),(38, .call [] (vB u9) [])] } [] ⟨q0,(ae ⟨(fun hg=> ⟨(aU x.b 0 (k17 x1) (gF hr_1 (aZ hg))),trivial⟩),(ae (ae (ae ⟨(fun hg=> ⟨(aU x.kind 1 3 (gF hr_2 (aZ hg))),trivial⟩),(ae (ae ⟨(fun hg=> ⟨(aU x.most 1 100000 (gF hr_3 (aZ hg))),trivial⟩),(ae (ae ⟨(fun hg=> ⟨(aU x.iL 10 100000 (gF hr_4 (aZ hg))),trivial⟩),(ae trivial)⟩))⟩))⟩)))⟩)⟩ ?_
 refine bI h (fun hb2 h=> ?_) (fun hb2 h=> ?_)
 ·refine ct hb2 ?_
  refine sz tT ⟨[(3,(vB false))],[]⟩ {} [] ?_
  refine aR ?_
  obtain rfl:=oi h
  exact rl [(sB false)]
 ·refine cf hb2 ?_
  refine aP (aQ (sz tT ⟨[(Yd x),(k34 x),(k35 x),(50,(vI 0))],[]⟩ {} [5] ?_))
  refine bE h fun y hy h=> ?_
  refine aL [] (wS x) (wN x) qH hy (fun s f h=> ?_) ?_
  ·clear hy
   show bJ _ _ _ _ _ _ ((EA x) f) _
   unfold jy at h
   obtain⟨u0,rfl⟩: ∃q,q=s:=⟨_,rfl⟩
   refine sz tT ⟨[(Yd x),(k34 x),(k35 x),(50,(vI u0)),(51,(vB (decide (u0<(x.trip.length:Int)))))],[]⟩ {} [] ?_
   refine aQ ?_
   refine bI h (fun hb1 h=> ?_) (fun hb1 h=> ?_)
   ·refine ct hb1 ?_
    refine aP (aQ (aB (aQ (aO h fun a1 h=> ?_))))
    refine rg tT ⟨[(Yd x),(4,(vI u0)),(5,(vD (lT [(.int .i64 ((at' x.trip u0.toNat).amps)),(.int .i64 ((at' x.trip u0.toNat).millis))] 0))),(k34 x),(k35 x),(50,(vI u0))],[]⟩ [_] {fr:=[(3,9)] } [9] ⟨a1,trivial⟩ ?_
    refine aQ (bE h fun u2 hr_5 h=> ?_)
    refine bE h fun u4 hr_6 h=> ?_
    refine aO h fun⟨a1,a2⟩ h=> ?_
    have q0:=aU ((at' x.trip u0.toNat).amps) 1 1000000 hr_5
    refine dg tT mX ⟨[(Yd x),(k34 x),(k35 x),(50,(vI u0)),(92,(vB (bif (Te u2 u4)then true else(bif (decide (0<u0))then(bif (Zz x u0)then true else(decide (((at' x.trip ((k17 u0).toNat)).millis)≤((at' x.trip u0.toNat).millis))))else false))))],[]⟩ (_::(eqs (!u2) 3 ((gP (k45 x u0 u2 u4) [(4,false)]→All [Fn Try.prog 94 [(sI ((at' x.trip u0.toNat).millis)),(sI 1),(sI 100000)] [] (vB u4) []])::(eqs (!u2) 2 (eqs (Te u2 u4) 3 (eqs (decide (0<u0)) 7 ((gP (k45 x u0 u2 u4) [(13,true),(10,false)]→All [(0:Int)≤(k17 u0)∧(k17 u0)<(x.trip.length:Int)])::(eqs (decide (0<u0)) 4 (eqs (Zz x u0) 7 ((gP (k45 x u0 u2 u4) [(24,false),(13,true),(10,false)]→All [(0:Int)≤(k17 u0)∧(k17 u0)<(x.trip.length:Int)])::(eqs (Zz x u0) 3 [(decide (0<u0))=(decide (0<u0)),gP (k45 x u0 u2 u4) [(13,true),(10,false)]→All [(Zz x u0)=(Zz x u0)],(Te u2 u4)=(Te u2 u4),gP (k45 x u0 u2 u4) [(10,false)]→All [(decide (0<u0))=(decide (0<u0))],(Te u2 u4)=(Te u2 u4)]))))))))))) {yb:=[(4,(!u2)),(10,(Te u2 u4)),(13,(decide (0<u0))),(24,(Zz x u0))],an:=[(2,cA q0 []),(7, .call [] (vB u4) [])] } [] ⟨q0,(ae ⟨(fun hg=> ⟨(aU ((at' x.trip u0.toNat).millis) 1 100000 (gF hr_6 (aZ hg))),trivial⟩),(ae (ae (ae ⟨(fun hg=> ⟨(a1 (aZ hg)),trivial⟩),(ae (ae ⟨(fun hg=> ⟨(a2 (aZ hg)),trivial⟩),(ae ⟨rfl,(fun hg=> ⟨rfl,trivial⟩),rfl,(fun hg=> ⟨rfl,trivial⟩),rfl,trivial⟩)⟩))⟩)))⟩)⟩ ?_
    refine bI h (fun hb h=> ?_) (fun hb h=> ?_)
    ·refine ct hb ?_
     refine sz tT ⟨[(3,(vB false))],[]⟩ {} [] ?_
     refine aR ?_
     obtain rfl:=oi h
     exact lR dX (dZ 0) dY (bB.mk (.inr rfl) (p:=[]) (l:=[(sB false)]) (by kernel_rfl) trivial (eH.refl _) trivial)
    ·refine cf hb ?_
     refine aP (rz tT ⟨[(Yd x),(k34 x),(k35 x),(50,(k3 u0))],[]⟩ {} [] ?_)
     obtain rfl:=oi h
     exact lN
   ·refine cf hb1 ?_
    refine aI (fz (k36 x) []) ?_
    refine aX ?_
    obtain rfl:=oi h
    exact lB
  ·clear hy
   cases y with
   |brk z=>
    unfold gm
    refine⟨_, .refl, ?_⟩
    refine sg tT ⟨[(3,(vB (k46 x)))],[]⟩ (eqs (Yg x) 5 (eqs (k48 x) 3 [(Yg x)=(Yg x),gP (jl [(4,(Yg x)),(9,(k48 x))]) [(4,true)]→All [(k48 x)=(k48 x)],(Yg x)=(Yg x)])) {yb:=[(4,(Yg x)),(9,(k48 x))] } [] (ae (ae ⟨rfl,(fun hg=> ⟨rfl,trivial⟩),rfl,trivial⟩)) ?_
    refine aR ?_
    obtain rfl:=oi h
    exact rl [(sB (k46 x))]
   |ret v=>
    obtain rfl:=oi h
    unfold gm
    intro e st hn ha hR
    cases e with
    |normal=>exact absurd rfl hn
    |exit id=>exact hR
    |goto l=>exact hR
    |ret=>exact hR
    |panic c=>exact hR
    |outgrown=>exact hR
def Cc  :Bool→Exit→St→Prop:=
  fun r=>bB TT [.tmp 3] (vB r) []
section
variable (x1:Int) (u0:(List Source)) (u1:(List Link)) (u2:(List ay))
abbrev k49:DV:=(lT [(.fn 138 1 (k23 x1 u0 u1 u2))] 0)
abbrev k50:TV:=(vD (k49 x1 u0 u1 u2))
end
theorem A8 (x:Link) (x1:Int) (u0:(List Source)) (u1:(List Link)) (u2:(List ay)) {r:Bool} (h:lG x x1 u0 u1 u2=some r):Fn Try.prog 137 [(.agg (k37 x)),(sD (k49 x1 u0 u1 u2))] [] (vB r) []:=by
 refine fN tT Try.func137 rfl rfl fun B=> ?_
 show bJ _ _ _ _ _ _ (Cc r) _
 unfold lG at h
 refine sz tT ⟨[(1,(k50 x1 u0 u1 u2)),(Yd x)],[]⟩ {fr:=[(0,1)] } [1] ?_
 refine aQ (bE h fun r_ hr_ h=> ?_)
 have q0:=EK x x1 u0 u1 u2 hr_
 refine rg tT ⟨[(3,(vB (!r_)))],[]⟩ [_] {an:=[(2,cA q0 [])] } [] ⟨q0,trivial⟩ ?_
 refine aR ?_
 obtain rfl:=oi h
 exact rl [(sB (!r_))]
def jQ  :Int→Exit→St→Prop:=
  fun r=>bB TT [.tmp 4] (vI r) []
section
variable (s_:(List Link)) (f_:Int) (u0:(List Source)) (u1:(List Link)) (u2:(List ay))
abbrev Yv:Nat × TV:=(0,(vD (aK none 6 Link.cell s_)))
abbrev k53:=(nC [(k49 f_ u0 u1 u2)])
abbrev k52:Nat × TV:=(1,(vD (.fn 137 1 (k53 f_ u0 u1 u2))))
abbrev k54:Nat × TV:=(7,(vI (s_.length:Int)))
end
def nM (s_:(List Link)) (f_:Int) (u0:(List Source)) (u1:(List Link)) (u2:(List ay)):Int→St:=
  fun t8=> ⟨[(Yv s_),(k52 f_ u0 u1 u2),(k54 s_),(8,(vI t8))],[]⟩
def nu  :Unit→St:=
  fun _=> ⟨[],[]⟩
def xu (s_:(List Link)) (f_:Int) (u0:(List Source)) (u1:(List Link)) (u2:(List ay)):(aM Int (Ex Unit Int))→Exit→St→Prop:=
  LQ 0 [] (nM s_ f_ u0 u1 u2) nu jQ
section
variable (s_:(List Link)) (f_:Int) (u0:(List Source)) (u1:(List Link)) (u2:(List ay))
abbrev k55:List SV:=[(sD (aK none 6 Link.cell s_)),(sD (.fn 137 1 (k53 f_ u0 u1 u2)))]
abbrev k56:St:=⟨[(Yv s_),(k52 f_ u0 u1 u2)],[]⟩
end
theorem xE (s_:(List Link)) (f_:Int) (u0:(List Source)) (u1:(List Link)) (u2:(List ay)) {r:Int} (h:jd s_ f_ u0 u1 u2=some r):Fn Try.prog 151 (k55 s_ f_ u0 u1 u2) [] (vI r) []:=by
 refine fN tT Try.func151 rfl rfl fun B=> ?_
 show bJ _ _ _ _ _ _ (jQ r) _
 unfold jd at h
 refine sz tT (k56 s_ f_ u0 u1 u2) {} [] ?_
 refine aQ (sz tT ⟨[(Yv s_),(k52 f_ u0 u1 u2),(k54 s_),(8,(vI 0))],[]⟩ {} [] ?_)
 refine bE h fun y hy h=> ?_
 refine aL [] (nM s_ f_ u0 u1 u2) nu jQ hy (fun s f h=> ?_) ?_
 ·clear hy
  show bJ _ _ _ _ _ _ ((xu s_ f_ u0 u1 u2) f) _
  unfold gT at h
  obtain⟨t8,rfl⟩: ∃q,q=s:=⟨_,rfl⟩
  refine sz tT ⟨[(Yv s_),(k52 f_ u0 u1 u2),(k54 s_),(8,(vI t8)),(9,(vB (decide (t8<(s_.length:Int)))))],[]⟩ {} [] ?_
  refine aQ ?_
  refine bI h (fun hb1 h=> ?_) (fun hb1 h=> ?_)
  ·refine ct hb1 ?_
   refine aP (aQ (aB (sz tT ⟨[(Yv s_),(k52 f_ u0 u1 u2),(5,(vI t8)),(k54 s_),(8,(vI t8))],[]⟩ {} [] ?_)))
   refine aQ (bE h fun r_ hr_ h=> ?_)
   refine aO h fun a1 h=> ?_
   have q1:=A8 (at' s_ t8.toNat) f_ u0 u1 u2 hr_
   refine rg tT ⟨[(Yv s_),(k52 f_ u0 u1 u2),(5,(vI t8)),(k54 s_),(8,(vI t8)),(16,(vB r_))],[]⟩ [_,_] {an:=[(5,cA q1 [])] } [] ⟨a1,q1,trivial⟩ ?_
   refine bI h (fun hb h=> ?_) (fun hb h=> ?_)
   ·refine ct hb ?_
    refine sz tT ⟨[(4,(vI t8))],[]⟩ {} [] ?_
    refine aR ?_
    obtain rfl:=oi h
    exact lR dX (dZ 0) dY (bB.mk (.inr rfl) (p:=[]) (l:=[(sI t8)]) (by kernel_rfl) trivial (eH.refl _) trivial)
   ·refine cf hb ?_
    refine aP (rz tT ⟨[(Yv s_),(k52 f_ u0 u1 u2),(k54 s_),(Yj t8)],[]⟩ {} [] ?_)
    obtain rfl:=oi h
    exact lN
  ·refine cf hb1 ?_
   refine aI (fz ⟨[],[]⟩ []) ?_
   refine aX ?_
   obtain rfl:=oi h
   exact lB
 ·clear hy
  cases y with
  |brk z=>
   unfold gm
   refine⟨_, .refl, ?_⟩
   refine sz tT ⟨[(4,(vI (-1)))],[]⟩ {} [] ?_
   refine aR ?_
   obtain rfl:=oi h
   exact rl [(sI (-1))]
  |ret v=>
   obtain rfl:=oi h
   unfold gm
   intro e st hn ha hR
   cases e with
   |normal=>exact absurd rfl hn
   |exit id=>exact hR
   |goto l=>exact hR
   |ret=>exact hR
   |panic c=>exact hR
   |outgrown=>exact hR
def uh  :Bool→Exit→St→Prop:=
  fun r=>bB TT [.tmp 4] (vB r) []
theorem sU (s_:(List Link)) (f_:Int) (u0:(List Source)) (u1:(List Link)) (u2:(List ay)) {r:Bool} (h:eX s_ f_ u0 u1 u2=some r):Fn Try.prog 136 (k55 s_ f_ u0 u1 u2) [] (vB r) []:=by
 refine fN tT Try.func136 rfl rfl fun B=> ?_
 show bJ _ _ _ _ _ _ (uh r) _
 unfold eX at h
 refine sz tT (k56 s_ f_ u0 u1 u2) {} [] ?_
 refine aQ (bE h fun r_ hr_ h=> ?_)
 have q0:=xE s_ f_ u0 u1 u2 hr_
 refine rg tT (k32 r_) [_] {an:=[(2,cA q0 [])] } [] ⟨q0,trivial⟩ ?_
 refine aR ?_
 obtain rfl:=oi h
 exact rl [(sB (decide (0≤r_)))]
def FO  :Bool→Exit→St→Prop:=
  fun r=>bB TT [.tmp 6] (vB r) []
theorem ED (l:(List Link)) (u0:Int) (u1:Int) (u2:(List Source)) (u3:(List Link)) (u4:(List ay)) {r:Bool} (h:mq l u0 u1 u2 u3 u4=some r):Fn Try.prog 97 [(sD (aK none 6 Link.cell l)),(sI u0),(sD (.fn 138 1 (k23 u1 u2 u3 u4)))] [] (vB r) []:=by
 refine fN tT Try.func97 rfl rfl fun B=> ?_
 show bJ _ _ _ _ _ _ (FO r) _
 unfold mq at h
 refine sz tT ⟨[(Yv l),(1,(vI u0)),(5,(k50 u1 u2 u3 u4))],[]⟩ {fr:=[(0,1)] } [1] ?_
 refine aQ (bE h fun r_ hr_ h=> ?_)
 refine rg tT ⟨[(6,(vB (bif (decide ((l.length:Int)≤u0))then(!r_)else false)))],[]⟩ (eqs (decide ((l.length:Int)≤u0)) 3 ((gP (jl [(4,(decide ((l.length:Int)≤u0)))]) [(4,true)]→All [Fn Try.prog 136 (k55 l u1 u2 u3 u4) [] (vB r_) []])::(eqs (decide ((l.length:Int)≤u0)) 2 []))) {yb:=[(4,(decide ((l.length:Int)≤u0)))],an:=[(7, .call [] (vB r_) [])] } [] (ae ⟨(fun hg=> ⟨(sU l u1 u2 u3 u4 (gF hr_ (aZ hg))),trivial⟩),(ae trivial)⟩) ?_
 refine aR ?_
 obtain rfl:=oi h
 exact rl [(sB (bif (decide ((l.length:Int)≤u0))then(!r_)else false))]
def G9  :Int→Exit→St→Prop:=
  fun r=>bB TT [.tmp 2] (vI r) []
section
variable (x:ay)
abbrev k57:List CV:=[(cI x.feeds.e0),(cI x.feeds.e1),(cI x.power),(cI x.paths)]
abbrev k58:TV:=(vD (lT [(.int .i64 x.feeds.e0),(.int .i64 x.feeds.e1),(.int .i64 x.power),(.int .i64 x.paths)] 0))
end
theorem Fx (x:ay) {r:Int} (h:nL x=some r):Fn Try.prog 142 [(.agg (k57 x))] [] (vI r) []:=by
 refine fN tT Try.func142 rfl rfl fun B=> ?_
 show bJ _ _ _ _ _ _ (G9 r) _
 unfold nL at h
 refine sz tT ⟨[(1,(k58 x))],[]⟩ {fr:=[(0,1)] } [1] ?_
 refine aQ (sg tT ⟨[(6,(vB (decide (x.feeds.e1=(-1)))))],[]⟩ [(0:Int)≤1∧(1:Int)<(2:Nat)] {} [] ⟨((by decide)),trivial⟩ ?_)
 refine bI h (fun hb h=> ?_) (fun hb h=> ?_)
 ·refine ct hb ?_
  refine sz tT ⟨[(2,(vI 1))],[]⟩ {} [] ?_
  refine aR ?_
  obtain rfl:=oi h
  exact rl [(sI 1)]
 ·refine cf hb ?_
  refine aP (sz tT ⟨[(2,(vI 2))],[]⟩ {} [] ?_)
  refine aR ?_
  obtain rfl:=oi h
  exact rl [(sI 2)]
def FK  :Bool→Exit→St→Prop:=
  fun r=>bB TT [.tmp 3] (vB r) []
section
variable (x:ay) (r_:Bool) (u0:Bool) (u1:Bool) (u6:Bool)
abbrev k59:Nat × TV:=(2,(k58 x))
abbrev k62:=(bif (k20 r_ u0)then(!decide (x.feeds.e0=x.feeds.e1))else false)
abbrev Yq:=(bif (k62 x r_ u0)then u1 else false)
abbrev k60:=(bif (Yq x r_ u0 u1)then u6 else false)
abbrev k63:=(jl [(5,r_),(12,(k20 r_ u0)),(17,(k62 x r_ u0)),(22,(Yq x r_ u0 u1))])
end
theorem Eu (x:ay) (x1:Int) (u2:(List Source)) (u3:(List Link)) (u4:(List ay)) {r:Bool} (h:lW x x1 u2 u3 u4=some r):Fn Try.prog 141 [(.agg (k57 x)),(sD (k12 u2 u4 x1 u3))] [] (vB r) []:=by
 refine fN tT Try.func141 rfl rfl fun B=> ?_
 show bJ _ _ _ _ _ _ (FK r) _
 unfold lW at h
 refine sz tT ⟨[(k15 u2 u4 x1 u3),(k59 x)],[]⟩ {fr:=[(0,1)] } [1] ?_
 refine sd tT mX ⟨[(k15 u2 u4 x1 u3),(k59 x),(4,(vI x.feeds.e0)),(5,(vI x.feeds.e1))],[]⟩ [(0:Int)≤0∧(0:Int)<(2:Nat),(0:Int)≤1∧(1:Int)<(2:Nat)] {} [] ⟨((by decide)),((by decide)),trivial⟩ ?_
 refine aQ (bE h fun r_ hr_ h=> ?_)
 refine bE h fun u0 hr_1 h=> ?_
 refine bE h fun u1 hr_2 h=> ?_
 refine bE h fun u5 hr_3 h=> ?_
 refine bE h fun u6 hr_4 h=> ?_
 have q0:=aU x.feeds.e0 0 (k17 x1) hr_
 refine dg tT mX ⟨[(3,(vB (k60 x r_ u0 u1 u6)))],[]⟩ (_::(eqs r_ 5 ((gP (k63 x r_ u0 u1) [(5,true)]→All [Fn Try.prog 94 [(sI x.feeds.e1),(sI (-1)),(sI (k17 x1))] [] (vB u0) []])::(r_=r_)::(eqs (k20 r_ u0) 4 (eqs (k62 x r_ u0) 3 ((gP (k63 x r_ u0 u1) [(17,true)]→All [Fn Try.prog 94 [(sI x.power),(sI 1),(sI 100000)] [] (vB u1) []])::((k62 x r_ u0)=(k62 x r_ u0))::(eqs (Yq x r_ u0 u1) 4 [gP (k63 x r_ u0 u1) [(22,true)]→All [Fn Try.prog 142 [(.agg (k57 x))] [] (vI u5) []],(Yq x r_ u0 u1)=(Yq x r_ u0 u1),gP (k63 x r_ u0 u1) [(22,true)]→All [Fn Try.prog 94 [(sI x.paths),(sI 0),(sI u5)] [] (vB u6) []],(Yq x r_ u0 u1)=(Yq x r_ u0 u1)]))))))) {yb:=[(5,r_),(12,(k20 r_ u0)),(17,(k62 x r_ u0)),(22,(Yq x r_ u0 u1))],an:=[(4,cA q0 []),(10, .call [] (vB u0) []),(20, .call [] (vB u1) []),(26, .call [] (vI u5) []),(27, .call [] (vB u6) [])] } [] ⟨q0,(ae ⟨(fun hg=> ⟨(aU x.feeds.e1 (-1) (k17 x1) (gF hr_1 (aZ hg))),trivial⟩),rfl,(ae (ae ⟨(fun hg=> ⟨(aU x.power 1 100000 (gF hr_2 (aZ hg))),trivial⟩),rfl,(ae ⟨(fun hg=> ⟨(Fx x (gF hr_3 (aZ hg))),trivial⟩),rfl,(fun hg=> ⟨(aU x.paths 0 u5 (gF hr_4 (aZ hg))),trivial⟩),rfl,trivial⟩)⟩))⟩)⟩ ?_
 refine aR ?_
 obtain rfl:=oi h
 exact rl [(sB (k60 x r_ u0 u1 u6))]
def BK  :Bool→Exit→St→Prop:=
  fun r=>bB TT [.tmp 3] (vB r) []
section
variable (x1:Int) (u0:(List Source)) (u1:(List Link)) (u2:(List ay))
abbrev k64:DV:=(lT [(.fn 141 1 (k23 x1 u0 u1 u2))] 0)
abbrev k65:TV:=(vD (k64 x1 u0 u1 u2))
end
theorem Aj (x:ay) (x1:Int) (u0:(List Source)) (u1:(List Link)) (u2:(List ay)) {r:Bool} (h:kT x x1 u0 u1 u2=some r):Fn Try.prog 140 [(.agg (k57 x)),(sD (k64 x1 u0 u1 u2))] [] (vB r) []:=by
 refine fN tT Try.func140 rfl rfl fun B=> ?_
 show bJ _ _ _ _ _ _ (BK r) _
 unfold kT at h
 refine sz tT ⟨[(1,(k65 x1 u0 u1 u2)),(k59 x)],[]⟩ {fr:=[(0,1)] } [1] ?_
 refine aQ (bE h fun r_ hr_ h=> ?_)
 have q0:=Eu x x1 u0 u1 u2 hr_
 refine rg tT ⟨[(3,(vB (!r_)))],[]⟩ [_] {an:=[(2,cA q0 [])] } [] ⟨q0,trivial⟩ ?_
 refine aR ?_
 obtain rfl:=oi h
 exact rl [(sB (!r_))]
def jV  :Int→Exit→St→Prop:=
  fun r=>bB TT [.tmp 4] (vI r) []
section
variable (s_:(List ay)) (f_:Int) (u0:(List Source)) (u1:(List Link)) (u2:(List ay))
abbrev Yx:Nat × TV:=(0,(vD (k14 s_)))
abbrev k68:=(nC [(k64 f_ u0 u1 u2)])
abbrev k67:Nat × TV:=(1,(vD (.fn 140 1 (k68 f_ u0 u1 u2))))
abbrev k69:Nat × TV:=(7,(vI (s_.length:Int)))
end
def nE (s_:(List ay)) (f_:Int) (u0:(List Source)) (u1:(List Link)) (u2:(List ay)):Int→St:=
  fun t8=> ⟨[(Yx s_),(k67 f_ u0 u1 u2),(k69 s_),(8,(vI t8))],[]⟩
def nG  :Unit→St:=
  fun _=> ⟨[],[]⟩
def xG (s_:(List ay)) (f_:Int) (u0:(List Source)) (u1:(List Link)) (u2:(List ay)):(aM Int (Ex Unit Int))→Exit→St→Prop:=
  LQ 0 [] (nE s_ f_ u0 u1 u2) nG jV
section
variable (s_:(List ay)) (f_:Int) (u0:(List Source)) (u1:(List Link)) (u2:(List ay)) (t8:Int)
abbrev k70:List SV:=[(sD (k14 s_)),(sD (.fn 140 1 (k68 f_ u0 u1 u2)))]
abbrev k71:St:=⟨[(Yx s_),(k67 f_ u0 u1 u2)],[]⟩
abbrev JK:=((at' s_ t8.toNat).feeds)
end
theorem xg (s_:(List ay)) (f_:Int) (u0:(List Source)) (u1:(List Link)) (u2:(List ay)) {r:Int} (h:je s_ f_ u0 u1 u2=some r):Fn Try.prog 152 (k70 s_ f_ u0 u1 u2) [] (vI r) []:=by
 refine fN tT Try.func152 rfl rfl fun B=> ?_
 show bJ _ _ _ _ _ _ (jV r) _
 unfold je at h
 refine sz tT (k71 s_ f_ u0 u1 u2) {} [] ?_
 refine aQ (sz tT ⟨[(Yx s_),(k67 f_ u0 u1 u2),(k69 s_),(8,(vI 0))],[]⟩ {} [] ?_)
 refine bE h fun y hy h=> ?_
 refine aL [] (nE s_ f_ u0 u1 u2) nG jV hy (fun s f h=> ?_) ?_
 ·clear hy
  show bJ _ _ _ _ _ _ ((xG s_ f_ u0 u1 u2) f) _
  unfold gN at h
  obtain⟨t8,rfl⟩: ∃q,q=s:=⟨_,rfl⟩
  refine sz tT ⟨[(Yx s_),(k67 f_ u0 u1 u2),(k69 s_),(8,(vI t8)),(9,(vB (decide (t8<(s_.length:Int)))))],[]⟩ {} [] ?_
  refine aQ ?_
  refine bI h (fun hb1 h=> ?_) (fun hb1 h=> ?_)
  ·refine ct hb1 ?_
   refine aP (aQ (aB (sz tT ⟨[(Yx s_),(k67 f_ u0 u1 u2),(5,(vI t8)),(k69 s_),(8,(vI t8))],[]⟩ {} [] ?_)))
   refine aQ (bE h fun r_ hr_ h=> ?_)
   refine aO h fun a1 h=> ?_
   have q1:=Aj (⟨(JK s_ t8),(at' s_ t8.toNat).power,(at' s_ t8.toNat).paths⟩:ay) f_ u0 u1 u2 hr_
   refine rg tT ⟨[(Yx s_),(k67 f_ u0 u1 u2),(5,(vI t8)),(k69 s_),(8,(vI t8)),(16,(vB r_))],[]⟩ [_,_] {an:=[(5,cA q1 [])] } [] ⟨a1,q1,trivial⟩ ?_
   refine bI h (fun hb h=> ?_) (fun hb h=> ?_)
   ·refine ct hb ?_
    refine sz tT ⟨[(4,(vI t8))],[]⟩ {} [] ?_
    refine aR ?_
    obtain rfl:=oi h
    exact lR dX (dZ 0) dY (bB.mk (.inr rfl) (p:=[]) (l:=[(sI t8)]) (by kernel_rfl) trivial (eH.refl _) trivial)
   ·refine cf hb ?_
    refine aP (rz tT ⟨[(Yx s_),(k67 f_ u0 u1 u2),(k69 s_),(Yj t8)],[]⟩ {} [] ?_)
    obtain rfl:=oi h
    exact lN
  ·refine cf hb1 ?_
   refine aI (fz ⟨[],[]⟩ []) ?_
   refine aX ?_
   obtain rfl:=oi h
   exact lB
 ·clear hy
  cases y with
  |brk z=>
   unfold gm
   refine⟨_, .refl, ?_⟩
   refine sz tT ⟨[(4,(vI (-1)))],[]⟩ {} [] ?_
   refine aR ?_
   obtain rfl:=oi h
   exact rl [(sI (-1))]
  |ret v=>
   obtain rfl:=oi h
   unfold gm
   intro e st hn ha hR
   cases e with
   |normal=>exact absurd rfl hn
   |exit id=>exact hR
   |goto l=>exact hR
   |ret=>exact hR
   |panic c=>exact hR
   |outgrown=>exact hR
def uQ  :Bool→Exit→St→Prop:=
  fun r=>bB TT [.tmp 4] (vB r) []
theorem sO (s_:(List ay)) (f_:Int) (u0:(List Source)) (u1:(List Link)) (u2:(List ay)) {r:Bool} (h:eY s_ f_ u0 u1 u2=some r):Fn Try.prog 139 (k70 s_ f_ u0 u1 u2) [] (vB r) []:=by
 refine fN tT Try.func139 rfl rfl fun B=> ?_
 show bJ _ _ _ _ _ _ (uQ r) _
 unfold eY at h
 refine sz tT (k71 s_ f_ u0 u1 u2) {} [] ?_
 refine aQ (bE h fun r_ hr_ h=> ?_)
 have q0:=xg s_ f_ u0 u1 u2 hr_
 refine rg tT (k32 r_) [_] {an:=[(2,cA q0 [])] } [] ⟨q0,trivial⟩ ?_
 refine aR ?_
 obtain rfl:=oi h
 exact rl [(sB (decide (0≤r_)))]
def Fj  :Bool→Exit→St→Prop:=
  fun r=>bB TT [.tmp 6] (vB r) []
theorem Eo (l:(List ay)) (u0:Int) (u1:Int) (u2:(List Source)) (u3:(List Link)) (u4:(List ay)) {r:Bool} (h:mh l u0 u1 u2 u3 u4=some r):Fn Try.prog 99 [(sD (k14 l)),(sI u0),(sD (.fn 141 1 (k23 u1 u2 u3 u4)))] [] (vB r) []:=by
 refine fN tT Try.func99 rfl rfl fun B=> ?_
 show bJ _ _ _ _ _ _ (Fj r) _
 unfold mh at h
 refine sz tT ⟨[(Yx l),(1,(vI u0)),(5,(k65 u1 u2 u3 u4))],[]⟩ {fr:=[(0,1)] } [1] ?_
 refine aQ (bE h fun r_ hr_ h=> ?_)
 refine rg tT ⟨[(6,(vB (bif (decide ((l.length:Int)≤u0))then(!r_)else false)))],[]⟩ (eqs (decide ((l.length:Int)≤u0)) 3 ((gP (jl [(4,(decide ((l.length:Int)≤u0)))]) [(4,true)]→All [Fn Try.prog 139 (k70 l u1 u2 u3 u4) [] (vB r_) []])::(eqs (decide ((l.length:Int)≤u0)) 2 []))) {yb:=[(4,(decide ((l.length:Int)≤u0)))],an:=[(7, .call [] (vB r_) [])] } [] (ae ⟨(fun hg=> ⟨(sO l u1 u2 u3 u4 (gF hr_ (aZ hg))),trivial⟩),(ae trivial)⟩) ?_
 refine aR ?_
 obtain rfl:=oi h
 exact rl [(sB (bif (decide ((l.length:Int)≤u0))then(!r_)else false))]
def Gw  :Int→Exit→St→Prop:=
  fun r=>bB TT [.tmp 2] (vI r) []
theorem yu (p:ah) {r:Int} (h:kM p=some r):Fn Try.prog 58 (k4 p) [] (vI r) []:=by
 refine fN tT Try.func58 rfl rfl fun B=> ?_
 show bJ _ _ _ _ _ _ (Gw r) _
 unfold kM at h
 refine sz tT (k7 p) {fr:=[(0,1)] } [1] ?_
 refine aQ (aB (aQ (bE h fun r_ hr_ h=> ?_)))
 have q0:=aU p.buses 1 24 hr_
 refine rg tT ⟨[(k8 p),(3,(vB (!r_)))],[]⟩ [_] {an:=[(2,cA q0 [])] } [] ⟨q0,trivial⟩ ?_
 refine bI h (fun hb3 h=> ?_) (fun hb3 h=> ?_)
 ·refine ct hb3 ?_
  refine sz tT ⟨[(2,(vI 10))],[]⟩ {} [] ?_
  refine aR ?_
  obtain rfl:=oi h
  exact rl [(sI 10)]
 ·refine cf hb3 ?_
  refine aQ (bE h fun u0 hr_1 h=> ?_)
  refine bE h fun u3 hr_2 h=> ?_
  have q0:=Ev p hr_1
  have q1:=G7 p.sources 8 u0.1 u0.2.1 u0.2.2.1 u0.2.2.2 hr_2
  refine dg tT mX ⟨[(k8 p),(8,(vB (!u3)))],[]⟩ [_,_] {an:=[(3,cA q0 []),(4,cA q1 [])] } [] ⟨q0,q1,trivial⟩ ?_
  refine bI h (fun hb2 h=> ?_) (fun hb2 h=> ?_)
  ·refine ct hb2 ?_
   refine sz tT ⟨[(2,(vI 11))],[]⟩ {} [] ?_
   refine aR ?_
   obtain rfl:=oi h
   exact rl [(sI 11)]
  ·refine cf hb2 ?_
   refine aQ (bE h fun u1 hr_3 h=> ?_)
   refine bE h fun u4 hr_4 h=> ?_
   have q0:=Gx p hr_3
   have q1:=ED p.links 40 u1.1 u1.2.1 u1.2.2.1 u1.2.2.2 hr_4
   refine dg tT mX ⟨[(k8 p),(15,(vB (!u4)))],[]⟩ [_,_] {an:=[(3,cA q0 []),(4,cA q1 [])] } [] ⟨q0,q1,trivial⟩ ?_
   refine bI h (fun hb1 h=> ?_) (fun hb1 h=> ?_)
   ·refine ct hb1 ?_
    refine sz tT ⟨[(2,(vI 12))],[]⟩ {} [] ?_
    refine aR ?_
    obtain rfl:=oi h
    exact rl [(sI 12)]
   ·refine cf hb1 ?_
    refine aQ (bE h fun u2 hr_5 h=> ?_)
    refine bE h fun u5 hr_6 h=> ?_
    have q0:=GJ p hr_5
    have q1:=Eo p.racks 24 u2.1 u2.2.1 u2.2.2.1 u2.2.2.2 hr_6
    refine dg tT mX ⟨[(22,(vB (!u5)))],[]⟩ [_,_] {an:=[(3,cA q0 []),(4,cA q1 [])] } [] ⟨q0,q1,trivial⟩ ?_
    refine bI h (fun hb h=> ?_) (fun hb h=> ?_)
    ·refine ct hb ?_
     refine sz tT ⟨[(2,(vI 13))],[]⟩ {} [] ?_
     refine aR ?_
     obtain rfl:=oi h
     exact rl [(sI 13)]
    ·refine cf hb ?_
     refine aP (sz tT ⟨[(2,(vI 0))],[]⟩ {} [] ?_)
     refine aR ?_
     obtain rfl:=oi h
     exact rl [(sI 0)]
def gW  :Int→Exit→St→Prop:=
  fun r=>bB TT [.tmp 4] (vI r) []
section
variable (s_:State) (p:ah)
abbrev k75:DV:=(lT [(aK none 1 aj s_.closed),(aK none 1 aj s_.locked),(aK none 1 aj s_.badLink),(aK none 1 aj s_.on_),(aK none 1 aj s_.badSource),(aK none 1 aj s_.earthed),(aK none 1 aj s_.badBus)] 0)
abbrev k74:TV:=(vD (k75 s_))
abbrev lg:Nat × TV:=(3,(k74 s_))
abbrev Yw:=(⟨s_.closed,(p.links.length:Int)⟩:dD)
abbrev Ym:=(⟨s_.locked,(p.links.length:Int)⟩:dD)
abbrev Yc:=(⟨s_.badLink,(p.links.length:Int)⟩:dD)
abbrev Yi:=(⟨s_.on_,(p.sources.length:Int)⟩:dD)
abbrev Ye:=(⟨s_.badSource,(p.sources.length:Int)⟩:dD)
abbrev Yf:=(⟨s_.earthed,p.buses⟩:dD)
abbrev Yu:=(⟨s_.badBus,p.buses⟩:dD)
abbrev k76:Nat × TV:=(53,(vO 13 true ([(Yw s_ p),(Ym s_ p),(Yc s_ p),(Yi s_ p),(Ye s_ p),(Yf s_ p),(Yu s_ p)].length)))
abbrev k84:Nat × TV:=(54,(vI ([(Yw s_ p),(Ym s_ p),(Yc s_ p),(Yi s_ p),(Ye s_ p),(Yf s_ p),(Yu s_ p)].length:Int)))
abbrev Yr:Ob:=(.cells 26 (k5 p))
abbrev k86:Nat × Option Ob:=(11,some (Yr p))
abbrev k85:List (Nat × Option Ob):=[(k86 p),(13,some (bZ 128 2 dD.cell [(Yw s_ p),(Ym s_ p),(Yc s_ p),(Yi s_ p),(Ye s_ p),(Yf s_ p),(Yu s_ p)]))]
end
def p9 (p:ah) (s_:State):Int→St:=
  fun u0=> ⟨[(2,(vP 11 0)),(lg s_),(k76 s_ p),(k84 s_ p),(55,(vI u0))],(k85 s_ p)⟩
section
variable (s_:State) (p:ah)
abbrev k88:St:=⟨[(2,(vP 11 0)),(lg s_)],[(k86 p)]⟩
end
def pX (p:ah) (s_:State):Unit→St:=
  fun _=>(k88 s_ p)
def zY (p:ah) (s_:State):(aM Int (Ex Unit Int))→Exit→St→Prop:=
  LQ 0 [] (p9 p s_) (pX p s_) gW
section
variable (p:ah)
abbrev k89:Nat × TV:=(67,(vD (aK none 6 Link.cell p.links)))
abbrev k90:Nat × TV:=(68,(vI (p.links.length:Int)))
end
def qb (p:ah) (s_:State):Int→St:=
  fun u0=> ⟨[(lg s_),(k89 p),(k90 p),(69,(vI u0))],[]⟩
def qj  :Unit→St:=
  fun _=> ⟨[],[]⟩
def zS (p:ah) (s_:State):(aM Int (Ex Unit Int))→Exit→St→Prop:=
  LQ 2 [] (qb p s_) qj gW
section
variable (s_:State) (p:ah) (u1:Int) (u0:Int)
abbrev QK:List CV:=[(.d (aK none 1 aj s_.closed)),(.d (aK none 1 aj s_.locked)),(.d (aK none 1 aj s_.badLink)),(.d (aK none 1 aj s_.on_)),(.d (aK none 1 aj s_.badSource)),(.d (aK none 1 aj s_.earthed)),(.d (aK none 1 aj s_.badBus))]
abbrev k91:List SV:=[(.agg (k5 p)),(.agg (QK s_))]
abbrev k93:List (Nat × Option Ob):=[(k86 p),(12,some (.cells 29 (QK s_)))]
abbrev k94:=(aC dD.cell [(Yw s_ p),(Ym s_ p),(Yc s_ p),(Yi s_ p),(Ye s_ p),(Yf s_ p),(Yu s_ p)])
abbrev k96:=(at' [(Yw s_ p),(Ym s_ p),(Yc s_ p),(Yi s_ p),(Ye s_ p),(Yf s_ p),(Yu s_ p)] u1.toNat)
abbrev k95:=((k96 s_ p u1).l)
abbrev k97:=((k96 s_ p u1).n)
abbrev Pz:=((at' p.links u0.toNat).most)
abbrev k99:TV:=(vD (lT [(.int .i64 ((at' p.links u0.toNat).a)),(.int .i64 ((at' p.links u0.toNat).b)),(.int .i64 ((at' p.links u0.toNat).kind)),(.int .i64 (Pz p u0)),(.int .i64 ((at' p.links u0.toNat).iL)),(aK none 2 iQ.cell ((at' p.links u0.toNat).trip))] 0))
abbrev Mc:Nat × TV:=(11,(k99 p u0))
abbrev LD:=(decide (((at' p.links u0.toNat).kind)=1))
abbrev ME:=(!(at' s_.closed u0.toNat))
abbrev aag:=(jl [(3,(LD p u0)),(10,(ME s_ u0))])
end
theorem eG (p:ah) (s_:State) {r:Int} (h:dm p s_=some r):Fn Try.prog 12 (k91 s_ p) [] (vI r) []:=by
 refine fN tT Try.func12 rfl rfl fun B=> ?_
 show bJ _ _ _ _ _ _ (gW r) _
 unfold dm at h
 refine sz tT ⟨[(2,(vP 11 0)),(3,(vP 12 0))],(k93 s_ p)⟩ {fr:=[(0,11),(1,12)] } [] ?_
 refine aQ (aQ (bE h fun r_ hr_ h=> ?_))
 have q0:=yu p hr_
 refine rg tT ⟨[(2,(vP 11 0)),(3,(vP 12 0)),(5,(vI r_))],(k93 s_ p)⟩ [_] {an:=[(1,cA q0 [])] } [] ⟨q0,trivial⟩ ?_
 refine sz tT ⟨[(2,(vP 11 0)),(3,(vP 12 0)),(5,(vI r_)),(15,(vB (!decide (r_=0))))],(k93 s_ p)⟩ {} [] ?_
 refine bI h (fun hb4 h=> ?_) (fun hb4 h=> ?_)
 ·refine ct hb4 ?_
  refine sz tT ⟨[(4,(vI r_))],[]⟩ {} [] ?_
  refine aR ?_
  obtain rfl:=oi h
  exact rl [(sI r_)]
 ·refine cf hb4 ?_
  refine aP (sd tT mX ⟨[(2,(vP 11 0)),(3,(vP 12 0)),(6,(vI (p.links.length:Int))),(7,(vI (p.sources.length:Int)))],(k93 s_ p)⟩ [] {} [] trivial ?_)
  refine aQ (sg tT ⟨[(2,(vP 11 0)),(lg s_),(k76 s_ p),(k84 s_ p),(55,(vI 0))],(k85 s_ p)⟩ [[(Yw s_ p),(Ym s_ p),(Yc s_ p),(Yi s_ p),(Ye s_ p),(Yf s_ p),(Yu s_ p)].length=7,aG 7 2 (jD 2 [(aK none 1 aj s_.closed),(.int .i64 (p.links.length:Int)),(aK none 1 aj s_.locked),(.int .i64 (p.links.length:Int)),(aK none 1 aj s_.badLink),(.int .i64 (p.links.length:Int)),(aK none 1 aj s_.on_),(.int .i64 (p.sources.length:Int)),(aK none 1 aj s_.badSource),(.int .i64 (p.sources.length:Int)),(aK none 1 aj s_.earthed),(.int .i64 p.buses),(aK none 1 aj s_.badBus),(.int .i64 p.buses)]) (k94 s_ p)] {an:=[(30, .arr [(Yw s_ p),(Ym s_ p),(Yc s_ p),(Yi s_ p),(Ye s_ p),(Yf s_ p),(Yu s_ p)].length (k94 s_ p))],fr:=[(30,13)] } [12] ⟨(rfl),((by intro i hi j hj;match i,j,hi,hj with|0,0,_,_=>rfl|0,1,_,_=>rfl|1,0,_,_=>rfl|1,1,_,_=>rfl|2,0,_,_=>rfl|2,1,_,_=>rfl|3,0,_,_=>rfl|3,1,_,_=>rfl|4,0,_,_=>rfl|4,1,_,_=>rfl|5,0,_,_=>rfl|5,1,_,_=>rfl|6,0,_,_=>rfl|6,1,_,_=>rfl)),trivial⟩ ?_)
  refine bE h fun y hy h=> ?_
  refine aL [] (p9 p s_) (pX p s_) gW hy (fun s f h=> ?_) ?_
  ·clear hy
   show bJ _ _ _ _ _ _ ((zY p s_) f) _
   unfold gu at h
   obtain⟨u1,rfl⟩: ∃q,q=s:=⟨_,rfl⟩
   refine sz tT ⟨[(2,(vP 11 0)),(lg s_),(k76 s_ p),(k84 s_ p),(55,(vI u1)),(56,(vB (decide (u1<([(Yw s_ p),(Ym s_ p),(Yc s_ p),(Yi s_ p),(Ye s_ p),(Yf s_ p),(Yu s_ p)].length:Int)))))],(k85 s_ p)⟩ {} [] ?_
   refine aQ ?_
   refine bI h (fun hb1 h=> ?_) (fun hb1 h=> ?_)
   ·refine ct hb1 ?_
    refine aP (aQ (aB (aQ (aO h fun a1 h=> ?_))))
    refine rg tT ⟨[(2,(vP 11 0)),(lg s_),(9,(vD (lT [(aK none 1 aj (k95 s_ p u1)),(.int .i64 (k97 s_ p u1))] 0))),(k76 s_ p),(k84 s_ p),(55,(vI u1))],(k85 s_ p)⟩ [_,_] {fr:=[(2,17)] } [17] ⟨a1,(tL a1),trivial⟩ ?_
    refine sz tT ⟨[(2,(vP 11 0)),(lg s_),(k76 s_ p),(k84 s_ p),(55,(vI u1)),(64,(vB (!decide (((k95 s_ p u1).length:Int)=(k97 s_ p u1)))))],(k85 s_ p)⟩ {} [] ?_
    refine bI h (fun hb h=> ?_) (fun hb h=> ?_)
    ·refine ct hb ?_
     refine sz tT ⟨[(4,(vI 9))],[]⟩ {} [] ?_
     refine aR ?_
     obtain rfl:=oi h
     exact lR dX (dZ 0) dY (bB.mk (.inr rfl) (p:=[]) (l:=[(sI 9)]) (by kernel_rfl) trivial (eH.refl _) trivial)
    ·refine cf hb ?_
     refine aP (rz tT ⟨[(2,(vP 11 0)),(lg s_),(k76 s_ p),(k84 s_ p),(55,(k3 u1))],(k85 s_ p)⟩ {} [] ?_)
     obtain rfl:=oi h
     exact lN
   ·refine cf hb1 ?_
    refine aI (fz (k88 s_ p) []) ?_
    refine aX ?_
    obtain rfl:=oi h
    exact lB
  ·clear hy
   cases y with
   |brk z=>
    unfold gm
    refine⟨_, .refl, ?_⟩
    refine aQ (sz tT ⟨[(lg s_),(k89 p),(k90 p),(69,(vI 0))],[]⟩ {} [] ?_)
    refine bE h fun y1 hy h=> ?_
    refine aL [] (qb p s_) qj gW hy (fun s f h=> ?_) ?_
    ·clear hy
     show bJ _ _ _ _ _ _ ((zS p s_) f) _
     unfold gI at h
     obtain⟨u0,rfl⟩: ∃q,q=s:=⟨_,rfl⟩
     refine sz tT ⟨[(lg s_),(k89 p),(k90 p),(69,(vI u0)),(70,(vB (decide (u0<(p.links.length:Int)))))],[]⟩ {} [] ?_
     refine aQ ?_
     refine bI h (fun hb3 h=> ?_) (fun hb3 h=> ?_)
     ·refine ct hb3 ?_
      refine aP (aQ (aB (aQ (aO h fun a1 h=> ?_))))
      refine rg tT ⟨[(lg s_),(10,(vI u0)),(Mc p u0),(k89 p),(k90 p),(69,(vI u0))],[]⟩ [_] {fr:=[(3,21)] } [21] ⟨a1,trivial⟩ ?_
      refine aQ (aO h fun⟨a1,a2⟩ h=> ?_)
      refine rg tT ⟨[(lg s_),(k89 p),(k90 p),(69,(vI u0)),(91,(vB (bif (LD p u0)then(bif (ME s_ u0)then true else(at' s_.locked u0.toNat))else false)))],[]⟩ (eqs (LD p u0) 4 ((gP (aag s_ p u0) [(3,true)]→All [(0:Int)≤u0∧u0<(s_.closed.length:Int)])::(eqs (LD p u0) 3 (eqs (ME s_ u0) 4 [gP (aag s_ p u0) [(10,false),(3,true)]→All [(0:Int)≤u0∧u0<(s_.locked.length:Int)],(ME s_ u0)=(ME s_ u0),(LD p u0)=(LD p u0),gP (aag s_ p u0) [(3,true)]→All [(ME s_ u0)=(ME s_ u0)],(LD p u0)=(LD p u0)])))) {yb:=[(3,(LD p u0)),(10,(ME s_ u0))] } [] (ae ⟨(fun hg=> ⟨(a1 (aZ hg)),trivial⟩),(ae (ae ⟨(fun hg=> ⟨(a2 (aZ hg)),trivial⟩),rfl,rfl,(fun hg=> ⟨rfl,trivial⟩),rfl,trivial⟩))⟩) ?_
      refine bI h (fun hb2 h=> ?_) (fun hb2 h=> ?_)
      ·refine ct hb2 ?_
       refine sz tT ⟨[(4,(vI 9))],[]⟩ {} [] ?_
       refine aR ?_
       obtain rfl:=oi h
       exact lR dX (dZ 2) dY (bB.mk (.inr rfl) (p:=[]) (l:=[(sI 9)]) (by kernel_rfl) trivial (eH.refl _) trivial)
      ·refine cf hb2 ?_
       refine aP (rz tT ⟨[(lg s_),(k89 p),(k90 p),(69,(k3 u0))],[]⟩ {} [] ?_)
       obtain rfl:=oi h
       exact lN
     ·refine cf hb3 ?_
      refine aI (fz ⟨[],[]⟩ []) ?_
      refine aX ?_
      obtain rfl:=oi h
      exact lB
    ·clear hy
     cases y1 with
     |brk z=>
      unfold gm
      refine⟨_, .refl, ?_⟩
      refine sz tT ⟨[(4,(vI 0))],[]⟩ {} [] ?_
      refine aR ?_
      obtain rfl:=oi h
      exact rl [(sI 0)]
     |ret v=>
      obtain rfl:=oi h
      unfold gm
      intro e st hn ha hR
      cases e with
      |normal=>exact absurd rfl hn
      |exit id=>exact hR
      |goto l=>exact hR
      |ret=>exact hR
      |panic c=>exact hR
      |outgrown=>exact hR
   |ret v=>
    obtain rfl:=oi h
    unfold gm
    intro e st hn ha hR
    cases e with
    |normal=>exact absurd rfl hn
    |exit id=>exact hR
    |goto l=>exact hR
    |ret=>exact hR
    |panic c=>exact hR
    |outgrown=>exact hR
def Jm  :Bool→Exit→St→Prop:=
  fun r=>bB TT [.tmp 6] (vB r) []
section
variable (p:ah) (s_:State) (k:Int)
abbrev O7:List SV:=[(.agg (k5 p)),(.agg (QK s_)),(sI k)]
abbrev bn:Nat × TV:=(3,(k9 p))
abbrev aV:Nat × TV:=(4,(k74 s_))
abbrev QW:=(bif (at' s_.on_ k.toNat)then(!(at' s_.badSource k.toNat))else false)
abbrev agt:=(bif (QW s_ k)then(!(at' s_.badBus (((at' p.sources k.toNat).bus).toNat)))else false)
abbrev aax:=(jl [(5,(at' s_.on_ k.toNat)),(13,(QW s_ k))])
end
theorem fZ (p:ah) (s_:State) (k:Int) {r:Bool} (h:gU p s_ k=some r):Fn Try.prog 65 (O7 p s_ k) [] (vB r) []:=by
 refine fN tT Try.func65 rfl rfl fun B=> ?_
 show bJ _ _ _ _ _ _ (Jm r) _
 unfold gU at h
 refine sz tT ⟨[(2,(vI k)),(bn p),(aV s_)],[]⟩ {fr:=[(0,2),(1,3)] } [2,3] ?_
 refine aQ (aO h fun⟨a1,a2,a3,a4⟩ h=> ?_)
 refine dg tT mX ⟨[(6,(vB (agt p s_ k)))],[]⟩ (_::(eqs (at' s_.on_ k.toNat) 4 ((gP (aax s_ k) [(5,true)]→All [(0:Int)≤k∧k<(s_.badSource.length:Int)])::(eqs (at' s_.on_ k.toNat) 3 (eqs (QW s_ k) 6 ((gP (aax s_ k) [(13,true)]→All [(0:Int)≤k∧k<(p.sources.length:Int)])::(eqs (QW s_ k) 3 ((gP (aax s_ k) [(13,true)]→All [(0:Int)≤(at' p.sources k.toNat).bus∧(at' p.sources k.toNat).bus<(s_.badBus.length:Int)])::(eqs (QW s_ k) 3 []))))))))) {yb:=[(5,(at' s_.on_ k.toNat)),(13,(QW s_ k))] } [] ⟨a1,(ae ⟨(fun hg=> ⟨(a2 (aZ hg)),trivial⟩),(ae (ae ⟨(fun hg=> ⟨(a3 (aZ hg)),trivial⟩),(ae ⟨(fun hg=> ⟨(a4 (aZ hg)),trivial⟩),(ae trivial)⟩)⟩))⟩)⟩ ?_
 refine aR ?_
 obtain rfl:=oi h
 exact rl [(sB (agt p s_ k))]
def Dz  :Bool→Exit→St→Prop:=
  fun r=>bB TT [.tmp 6] (vB r) []
section
variable (s_:State) (i:Int) (p:ah)
abbrev TL:=(bif (at' s_.closed i.toNat)then(!(at' s_.badLink i.toNat))else false)
abbrev UO:=(bif (TL s_ i)then(!(at' s_.badBus (((at' p.links i.toNat).a).toNat)))else false)
abbrev acu:=(bif (UO s_ i p)then(!(at' s_.badBus (((at' p.links i.toNat).b).toNat)))else false)
abbrev Za:=(jl [(5,(at' s_.closed i.toNat)),(13,(TL s_ i)),(22,(UO s_ i p))])
end
theorem dK (p:ah) (s_:State) (i:Int) {r:Bool} (h:dz p s_ i=some r):Fn Try.prog 78 (O7 p s_ i) [] (vB r) []:=by
 refine fN tT Try.func78 rfl rfl fun B=> ?_
 show bJ _ _ _ _ _ _ (Dz r) _
 unfold dz at h
 refine sz tT ⟨[(2,(vI i)),(3,(vP 3 0)),(aV s_)],[(3,some (Yr p))]⟩ {fr:=[(0,3),(1,4)] } [4] ?_
 refine aQ (aO h fun a1 h=> ?_)
 refine rg tT ⟨[(2,(vI i)),(aV s_),(7,(k99 p i))],[]⟩ [_] {fr:=[(5,5)] } [5] ⟨a1,trivial⟩ ?_
 refine aQ (aO h fun⟨a1,a2,a3,a4⟩ h=> ?_)
 refine rg tT ⟨[(6,(vB (acu s_ i p)))],[]⟩ (_::(eqs (at' s_.closed i.toNat) 4 ((gP (Za s_ i p) [(5,true)]→All [(0:Int)≤i∧i<(s_.badLink.length:Int)])::(eqs (at' s_.closed i.toNat) 3 (eqs (TL s_ i) 5 ((gP (Za s_ i p) [(13,true)]→All [(0:Int)≤(at' p.links i.toNat).a∧(at' p.links i.toNat).a<(s_.badBus.length:Int)])::(eqs (TL s_ i) 3 (eqs (UO s_ i p) 5 ((gP (Za s_ i p) [(22,true)]→All [(0:Int)≤(at' p.links i.toNat).b∧(at' p.links i.toNat).b<(s_.badBus.length:Int)])::(eqs (UO s_ i p) 3 [])))))))))) {yb:=[(5,(at' s_.closed i.toNat)),(13,(TL s_ i)),(22,(UO s_ i p))] } [] ⟨a1,(ae ⟨(fun hg=> ⟨(a2 (aZ hg)),trivial⟩),(ae (ae ⟨(fun hg=> ⟨(a3 (aZ hg)),trivial⟩),(ae (ae ⟨(fun hg=> ⟨(a4 (aZ hg)),trivial⟩),(ae trivial)⟩))⟩))⟩)⟩ ?_
 refine aR ?_
 obtain rfl:=oi h
 exact rl [(sB (acu s_ i p))]
def y8  :(List Int)→Exit→St→Prop:=
  fun r=>bB TT [.tmp 2] (vO 0 false r.length) [(0,some (bZ 3 1 (au .i64) r))]
theorem ou (s_:(List Int)) (u0:Bool) {r:(List Int)} (h:oP s_ u0=some r):Fn Try.prog 112 [(sD (aK (some u0) 1 (au .i64) s_))] [] (vO 0 false r.length) [(0,some (bZ 3 1 (au .i64) r))]:=by
 refine fN tT Try.func112 rfl rfl fun B=> ?_
 show bJ _ _ _ _ _ _ (y8 r) _
 unfold oP at h
 refine sz tT ⟨[(0,(vD (aK (some u0) 1 (au .i64) s_)))],[]⟩ {} [] ?_
 refine aQ (sz tT ⟨[(0,(vD (aK (some u0) 1 (au .i64) s_))),(4,(vB (!u0)))],[]⟩ {} [] ?_)
 refine bI h (fun hb h=> ?_) (fun hb h=> ?_)
 ·refine ct hb ?_
  refine sz tT ⟨[(2,(vD nS))],[]⟩ {} [] ?_
  refine aI (.trans (bM.Tk (t:=2) (b:=2) (esz0:=0) (el0:=fun _ _=> .nilp) (E:=3) (esz:=1) (el:=aC (au .i64) ([]:List Int)) (by kernel_rfl) (by kernel_rfl)) (.trans (bM.fin (st':=⟨[(2,(vO 0 false 0))],[(0,some (.arr 3 1 0 (aC (au .i64) ([]:List Int))))]⟩) (cs:=[]) ⟨[],[(2,0)]⟩ [2] (by kernel_rfl) trivial) (bM.le (st':=⟨[(2,(vO 0 false (([]:List Int).length)))],[(0,some (bZ 3 1 (au .i64) ([]:List Int)))]⟩) ⟨⟨⟨_,rfl,eH.v (eO.one cW)⟩,trivial⟩,⟨rfl,oW,trivial⟩⟩))) ?_
  refine aR ?_
  obtain rfl:=oi h
  exact rl [(.one (.own 0 false (([]:List Int).length)))]
 ·refine cf hb ?_
  refine aP (aQ (aO h fun⟨a1,a2⟩ h=> ?_))
  refine rg tT ⟨[(2,(vO 4 false ((([]:List Int)++s_).length)))],[(4,some (bZ 3 1 (au .i64) (([]:List Int)++s_)))]⟩ [([]:List Int).length=0,aG 0 1 (jD 1 []) (aC (au .i64) ([]:List Int)),([]:List Int).length=([]:List Int).length,_,_,(([]:List Int)++s_).length=([]:List Int).length+s_.length,aG (([]:List Int).length+s_.length) 1 (EM (aC (au .i64) ([]:List Int)) ([]:List Int).length (aC (au .i64) s_)) (aC (au .i64) (([]:List Int)++s_))] {an:=[(0, .arr ([]:List Int).length (aC (au .i64) ([]:List Int))),(2, .arr (([]:List Int)++s_).length (aC (au .i64) (([]:List Int)++s_)))],fr:=[(0,3),(2,4)] } [] ⟨(rfl),((fun i hi=>absurd hi (Nat.not_lt_zero i))),rfl,a1,a2,(List.length_append),(mU _ _ _ _),trivial⟩ ?_
  refine aI (bM.fin (st':=⟨[(2,(vO 0 false ((([]:List Int)++s_).length)))],[(0,some (bZ 3 1 (au .i64) (([]:List Int)++s_)))]⟩) (cs:=[]) ⟨[],[(4,0)]⟩ [2] (by kernel_rfl) trivial) ?_
  refine aR ?_
  obtain rfl:=oi h
  exact rl [(.one (.own 0 false ((([]:List Int)++s_).length)))]
theorem vM (s:(List Int)) {r:(List Int)} (h:sM s=some r):Fn Try.prog 112 [(sD (aK none 1 (au .i64) s))] [] (vO 0 false r.length) [(0,some (bZ 3 1 (au .i64) r))]:=by
 refine Fn.nn (ou s true h) fun hl=> ?_
 have hs:s=[]:=List.eq_nil_of_length_eq_zero hl
 subst hs
 exact ou [] false (by rw [←h];kernel_rfl)
def J3  :Bool→Exit→St→Prop:=
  fun r=>bB TT [.tmp 2] (vB r) []
theorem AB (x:Int) {r:Bool} (h:vT x=some r):Fn Try.prog 154 [(sI x)] [] (vB r) []:=by
 refine fN tT Try.func154 rfl rfl fun B=> ?_
 show bJ _ _ _ _ _ _ (J3 r) _
 unfold vT at h
 refine sz tT ⟨[(0,(vI x))],[]⟩ {} [] ?_
 refine sz tT ⟨[(2,(vB (!decide (x=x))))],[]⟩ {} [] ?_
 refine aR ?_
 obtain rfl:=oi h
 exact rl [(sB (!decide (x=x)))]
def G6  :Int→Exit→St→Prop:=
  fun r=>bB TT [.tmp 4] (vI r) []
theorem EW (x:Int) (y:Int) {r:Int} (h:wW x y=some r):Fn Try.prog 145 [(sI x),(sI y)] [] (vI r) []:=by
 refine fN tT Try.func145 rfl rfl fun B=> ?_
 show bJ _ _ _ _ _ _ (G6 r) _
 unfold wW at h
 refine sz tT ⟨[(0,(vI x)),(1,(vI y))],[]⟩ {} [] ?_
 refine aQ (bE h fun r_ hr_ h=> ?_)
 have q0:=AB x hr_
 refine rg tT ⟨[(0,(vI x)),(1,(vI y)),(5,(vB r_))],[]⟩ [_] {an:=[(1,cA q0 [])] } [] ⟨q0,trivial⟩ ?_
 refine aQ (bE h fun u0 hr_1 h=> ?_)
 have q0:=AB y hr_1
 refine rg tT ⟨[(0,(vI x)),(1,(vI y)),(5,(vB r_)),(6,(vB u0))],[]⟩ [_] {an:=[(1,cA q0 [])] } [] ⟨q0,trivial⟩ ?_
 refine aQ (sz tT ⟨[(0,(vI x)),(1,(vI y)),(6,(vB u0)),(11,(vB r_))],[]⟩ {} [] ?_)
 refine bI h (fun hb4 h=> ?_) (fun hb4 h=> ?_)
 ·refine ct hb4 ?_
  refine aQ (sz tT ⟨[(12,(vB u0))],[]⟩ {} [] ?_)
  refine bI h (fun hb h=> ?_) (fun hb h=> ?_)
  ·refine ct hb ?_
   refine sz tT ⟨[(4,(vI 0))],[]⟩ {} [] ?_
   refine aR ?_
   obtain rfl:=oi h
   exact rl [(sI 0)]
  ·refine cf hb ?_
   refine aP (sz tT ⟨[(4,(vI (-1)))],[]⟩ {} [] ?_)
   refine aR ?_
   obtain rfl:=oi h
   exact rl [(sI (-1))]
 ·refine cf hb4 ?_
  refine aP (aQ (sz tT ⟨[(0,(vI x)),(1,(vI y)),(13,(vB u0))],[]⟩ {} [] ?_))
  refine bI h (fun hb3 h=> ?_) (fun hb3 h=> ?_)
  ·refine ct hb3 ?_
   refine sz tT ⟨[(4,(vI 1))],[]⟩ {} [] ?_
   refine aR ?_
   obtain rfl:=oi h
   exact rl [(sI 1)]
  ·refine cf hb3 ?_
   refine aP (aQ (sz tT ⟨[(0,(vI x)),(1,(vI y)),(16,(vB (decide (x<y))))],[]⟩ {} [] ?_))
   refine bI h (fun hb2 h=> ?_) (fun hb2 h=> ?_)
   ·refine ct hb2 ?_
    refine sz tT ⟨[(4,(vI (-1)))],[]⟩ {} [] ?_
    refine aR ?_
    obtain rfl:=oi h
    exact rl [(sI (-1))]
   ·refine cf hb2 ?_
    refine aP (aQ (sz tT ⟨[(19,(vB (decide (y<x))))],[]⟩ {} [] ?_))
    refine bI h (fun hb1 h=> ?_) (fun hb1 h=> ?_)
    ·refine ct hb1 ?_
     refine sz tT ⟨[(4,(vI 1))],[]⟩ {} [] ?_
     refine aR ?_
     obtain rfl:=oi h
     exact rl [(sI 1)]
    ·refine cf hb1 ?_
     refine aP (sz tT ⟨[(4,(vI 0))],[]⟩ {} [] ?_)
     refine aR ?_
     obtain rfl:=oi h
     exact rl [(sI 0)]
def nX  :Int→Exit→St→Prop:=
  fun r=>bB TT [.tmp 4] (vI r) []
section
variable (s1:(List Int)) (s2:(List Int))
abbrev y9:DV:=(aK none 1 (au .i64) s1)
abbrev jW:Nat × TV:=(0,(vD (y9 s1)))
abbrev BD:Nat × TV:=(1,(vD (y9 s2)))
abbrev Ls:Nat × TV:=(9,(vD (y9 s1)))
abbrev KL:Nat × TV:=(10,(vI (s1.length:Int)))
end
def rV (s1:(List Int)) (s2:(List Int)):Int→St:=
  fun u0=> ⟨[(jW s1),(BD s2),(Ls s1),(KL s1),(11,(vI u0))],[]⟩
section
variable (s1:(List Int)) (s2:(List Int))
abbrev Xu:St:=⟨[(jW s1),(BD s2)],[]⟩
end
def su (s1:(List Int)) (s2:(List Int)):Unit→St:=
  fun _=>(Xu s1 s2)
def BX (s1:(List Int)) (s2:(List Int)):(aM Int (Ex Unit Int))→Exit→St→Prop:=
  LQ 0 [] (rV s1 s2) (su s1 s2) nX
section
variable (u0:Int) (s1:(List Int))
abbrev Uw:TV:=(vB (decide (u0<(s1.length:Int))))
end
theorem Ca (s1:(List Int)) (s2:(List Int)) {r:Int} (h:qK s1 s2=some r):Fn Try.prog 111 [(sD (y9 s1)),(sD (y9 s2))] [] (vI r) []:=by
 refine fN tT Try.func111 rfl rfl fun B=> ?_
 show bJ _ _ _ _ _ _ (nX r) _
 unfold qK at h
 refine sz tT (Xu s1 s2) {} [] ?_
 refine aQ (sz tT ⟨[(jW s1),(BD s2),(Ls s1),(KL s1),(11,(vI 0))],[]⟩ {} [] ?_)
 refine bE h fun y hy h=> ?_
 refine aL [] (rV s1 s2) (su s1 s2) nX hy (fun s f h=> ?_) ?_
 ·clear hy
  show bJ _ _ _ _ _ _ ((BX s1 s2) f) _
  unfold r9 at h
  obtain⟨u0,rfl⟩: ∃q,q=s:=⟨_,rfl⟩
  refine sz tT ⟨[(jW s1),(BD s2),(Ls s1),(KL s1),(11,(vI u0)),(12,(Uw u0 s1))],[]⟩ {} [] ?_
  refine aQ ?_
  refine bI h (fun hb2 h=> ?_) (fun hb2 h=> ?_)
  ·refine ct hb2 ?_
   refine aP (aQ (aB (aQ (aO h fun a1 h=> ?_))))
   refine rg tT ⟨[(jW s1),(BD s2),(5,(vI u0)),(6,(vI (at' s1 u0.toNat))),(Ls s1),(KL s1),(11,(vI u0))],[]⟩ [_] {} [] ⟨a1,trivial⟩ ?_
   refine aQ (sz tT ⟨[(jW s1),(BD s2),(5,(vI u0)),(6,(vI (at' s1 u0.toNat))),(Ls s1),(KL s1),(11,(vI u0)),(19,(vB (decide ((s2.length:Int)≤u0))))],[]⟩ {} [] ?_)
   refine bI h (fun hb1 h=> ?_) (fun hb1 h=> ?_)
   ·refine ct hb1 ?_
    refine sz tT ⟨[(4,(vI 1))],[]⟩ {} [] ?_
    refine aR ?_
    obtain rfl:=oi h
    exact lR dX (dZ 0) dY (bB.mk (.inr rfl) (p:=[]) (l:=[(sI 1)]) (by kernel_rfl) trivial (eH.refl _) trivial)
   ·refine cf hb1 ?_
    refine aP (aQ (aO h fun a1 h=> ?_))
    refine rg tT ⟨[(jW s1),(BD s2),(6,(vI (at' s1 u0.toNat))),(7,(vI (at' s2 u0.toNat))),(Ls s1),(KL s1),(11,(vI u0))],[]⟩ [_] {} [] ⟨a1,trivial⟩ ?_
    refine aQ (bE h fun r_ hr_ h=> ?_)
    have q0:=EW (at' s1 u0.toNat) (at' s2 u0.toNat) hr_
    refine rg tT ⟨[(jW s1),(BD s2),(8,(vI r_)),(Ls s1),(KL s1),(11,(vI u0))],[]⟩ [_] {an:=[(2,cA q0 [])] } [] ⟨q0,trivial⟩ ?_
    refine sz tT ⟨[(jW s1),(BD s2),(8,(vI r_)),(Ls s1),(KL s1),(11,(vI u0)),(28,(vB (!decide (r_=0))))],[]⟩ {} [] ?_
    refine bI h (fun hb h=> ?_) (fun hb h=> ?_)
    ·refine ct hb ?_
     refine sz tT ⟨[(4,(vI r_))],[]⟩ {} [] ?_
     refine aR ?_
     obtain rfl:=oi h
     exact lR dX (dZ 0) dY (bB.mk (.inr rfl) (p:=[]) (l:=[(sI r_)]) (by kernel_rfl) trivial (eH.refl _) trivial)
    ·refine cf hb ?_
     refine aP (rz tT ⟨[(jW s1),(BD s2),(Ls s1),(KL s1),(11,(k3 u0))],[]⟩ {} [] ?_)
     obtain rfl:=oi h
     exact lN
  ·refine cf hb2 ?_
   refine aI (fz (Xu s1 s2) []) ?_
   refine aX ?_
   obtain rfl:=oi h
   exact lB
 ·clear hy
  cases y with
  |brk z=>
   unfold gm
   refine⟨_, .refl, ?_⟩
   refine aQ (sz tT ⟨[(35,(vB (decide ((s1.length:Int)<(s2.length:Int)))))],[]⟩ {} [] ?_)
   refine bI h (fun hb3 h=> ?_) (fun hb3 h=> ?_)
   ·refine ct hb3 ?_
    refine sz tT ⟨[(4,(vI (-1)))],[]⟩ {} [] ?_
    refine aR ?_
    obtain rfl:=oi h
    exact rl [(sI (-1))]
   ·refine cf hb3 ?_
    refine aP (sz tT ⟨[(4,(vI 0))],[]⟩ {} [] ?_)
    refine aR ?_
    obtain rfl:=oi h
    exact rl [(sI 0)]
  |ret v=>
   obtain rfl:=oi h
   unfold gm
   intro e st hn ha hR
   cases e with
   |normal=>exact absurd rfl hn
   |exit id=>exact hR
   |goto l=>exact hR
   |ret=>exact hR
   |panic c=>exact hR
   |outgrown=>exact hR
def CZ  :Int→Exit→St→Prop:=
  fun r=>bB TT [.tmp 2] (vI r) []
section
variable (u0:(List Int))
abbrev Rx:Nat × TV:=(6,(vD (y9 u0)))
abbrev oC:Nat × TV:=(7,(vI (u0.length:Int)))
end
def FZ (u0:(List Int)):Int→St:=
  fun t8=> ⟨[(3,(vI 0)),(Rx u0),(oC u0),(8,(vI t8))],[]⟩
def FU  :Unit→St:=
  fun _=> ⟨[(3,(vI 0))],[]⟩
def Md (u0:(List Int)):(aM Int (Ex Unit Int))→Exit→St→Prop:=
  LQ 0 [] (FZ u0) FU CZ
section
variable (t8:Int) (u0:(List Int))
abbrev Tt:Nat × TV:=(9,(Uw t8 u0))
end
theorem Mf (u0:(List Int)) {r:Int} (h:Ie u0=some r):Fn Try.prog 110 [(sD (y9 u0))] [] (vI r) []:=by
 refine fN tT Try.func110 rfl rfl fun B=> ?_
 show bJ _ _ _ _ _ _ (CZ r) _
 unfold Ie at h
 refine sz tT ⟨[(jW u0)],[]⟩ {} [] ?_
 refine sz tT ⟨[(jW u0),(3,(vI 0))],[]⟩ {} [] ?_
 refine aQ (sz tT ⟨[(3,(vI 0)),(Rx u0),(oC u0),(8,(vI 0))],[]⟩ {} [] ?_)
 refine bE h fun y hy h=> ?_
 refine aL [] (FZ u0) FU CZ hy (fun s f h=> ?_) ?_
 ·clear hy
  show bJ _ _ _ _ _ _ ((Md u0) f) _
  unfold FV at h
  obtain⟨t8,rfl⟩: ∃q,q=s:=⟨_,rfl⟩
  refine sz tT ⟨[(3,(vI 0)),(Rx u0),(oC u0),(8,(vI t8)),(Tt t8 u0)],[]⟩ {} [] ?_
  refine aQ ?_
  refine bI h (fun hb1 h=> ?_) (fun hb1 h=> ?_)
  ·refine ct hb1 ?_
   refine aP (aQ (aB (aQ (aO h fun a1 h=> ?_))))
   refine rg tT ⟨[(3,(vI 0)),(5,(vI (at' u0 t8.toNat))),(Rx u0),(oC u0),(8,(vI t8))],[]⟩ [_] {} [] ⟨a1,trivial⟩ ?_
   refine sz tT ⟨[(3,(vI 0)),(5,(vI (at' u0 t8.toNat))),(Rx u0),(oC u0),(8,(vI t8)),(14,(vB (!decide ((at' u0 t8.toNat)=0))))],[]⟩ {} [] ?_
   refine bI h (fun hb h=> ?_) (fun hb h=> ?_)
   ·refine ct hb ?_
    refine sz tT ⟨[(2,(vI (at' u0 t8.toNat)))],[]⟩ {} [] ?_
    refine aR ?_
    obtain rfl:=oi h
    exact lR dX (dZ 0) dY (bB.mk (.inr rfl) (p:=[]) (l:=[(sI (at' u0 t8.toNat))]) (by kernel_rfl) trivial (eH.refl _) trivial)
   ·refine cf hb ?_
    refine aP (rz tT ⟨[(3,(vI 0)),(Rx u0),(oC u0),(Yj t8)],[]⟩ {} [] ?_)
    obtain rfl:=oi h
    exact lN
  ·refine cf hb1 ?_
   refine aI (fz ⟨[(3,(vI 0))],[]⟩ []) ?_
   refine aX ?_
   obtain rfl:=oi h
   exact lB
 ·clear hy
  cases y with
  |brk z=>
   unfold gm
   refine⟨_, .refl, ?_⟩
   refine sz tT ⟨[(2,(vI 0))],[]⟩ {} [] ?_
   refine aR ?_
   obtain rfl:=oi h
   exact rl [(sI 0)]
  |ret v=>
   obtain rfl:=oi h
   unfold gm
   intro e st hn ha hR
   cases e with
   |normal=>exact absurd rfl hn
   |exit id=>exact hR
   |goto l=>exact hR
   |ret=>exact hR
   |panic c=>exact hR
   |outgrown=>exact hR
def Hg  :Bool→Exit→St→Prop:=
  fun r=>bB TT [.tmp 4] (vB r) []
section
variable (a:Way) (b:Way) (r_:Int)
abbrev JG:=(IntKind.wrap .i64 (a.iL - b.iL))
abbrev JX:=(IntKind.wrap .i64 ((a.links.length:Int) - (b.links.length:Int)))
abbrev acR:=(aC (au .i64) [(JG a b),(JX a b),r_])
abbrev aeZ:List (Nat × Option Ob):=[(6,some (bZ 3 1 (au .i64) [(JG a b),(JX a b),r_]))]
end
theorem FL (a:Way) (b:Way) {r:Bool} (h:xq a b=some r):Fn Try.prog 109 [(.agg [(cB a.there),(cI a.iL),(.d (aK none 1 (au .i64) a.links))]),(.agg [(cB b.there),(cI b.iL),(.d (aK none 1 (au .i64) b.links))])] [] (vB r) []:=by
 refine fN tT Try.func109 rfl rfl fun B=> ?_
 show bJ _ _ _ _ _ _ (Hg r) _
 unfold xq at h
 refine sz tT ⟨[(2,(vD (lT [(.bool a.there),(.int .i64 a.iL),(aK none 1 (au .i64) a.links)] 0))),(3,(vD (lT [(.bool b.there),(.int .i64 b.iL),(aK none 1 (au .i64) b.links)] 0)))],[]⟩ {fr:=[(0,4),(1,5)] } [4,5] ?_
 refine aQ ?_
 refine bI h (fun hb h=> ?_) (fun hb h=> ?_)
 ·skip
  refine di tT mX ⟨[(4,(vB (bif (!b.there)then true else false)))],[]⟩ [(!b.there)=true, ¬ gP (jl [(3,true)]) [(3,false)],(!b.there)=true, ¬ gP (jl [(3,true)]) [(3,false)],(!b.there)=true, ¬ gP (jl [(3,true)]) [(3,false)],(!b.there)=true, ¬ gP (jl [(3,true)]) [(3,false)],(!b.there)=true, ¬ gP (jl [(3,true)]) [(3,false)],(!b.there)=true, ¬ gP (jl [(3,true)]) [(3,false)],(!b.there)=true, ¬ gP (jl [(3,true)]) [(3,false)],(!b.there)=true, ¬ gP (jl [(3,true)]) [(3,false)],(!b.there)=true, ¬ gP (jl [(3,true)]) [(3,false)],(!b.there)=true, ¬ gP (jl [(3,true)]) [(3,false)],(!b.there)=true, ¬ gP (jl [(3,true)]) [(3,false)],(!b.there)=true, ¬ gP (jl [(3,true)]) [(3,false)],(!b.there)=true, ¬ gP (jl [(3,true)]) [(3,false)],(!b.there)=true, ¬ gP (jl [(3,true)]) [(3,false)],(!b.there)=true, ¬ gP (jl [(3,true)]) [(3,false)],(!b.there)=true, ¬ gP (jl [(3,true)]) [(3,false)],(!b.there)=true, ¬ gP (jl [(3,true)]) [(3,false)],(!b.there)=true, ¬ gP (jl [(3,true)]) [(3,false)],(!b.there)=true, ¬ gP (jl [(3,true)]) [(3,false)],(!b.there)=true, ¬ gP (jl [(3,true)]) [(3,false)],(!b.there)=true] {yb:=[(3,true)],an:=[(4, .skip),(5, .skip),(6, .skip),(7, .skip),(8, .skip),(9, .skip),(10, .skip),(11, .skip),(12, .skip),(13, .skip),(14, .skip),(15, .skip),(16, .skip),(17, .skip),(18, .skip),(19, .skip),(20, .skip),(21, .skip),(22, .skip),(23, .skip)] } [] ⟨(hb),((fun h=>Bool.noConfusion (show true=false from h.1))),(hb),((fun h=>Bool.noConfusion (show true=false from h.1))),(hb),((fun h=>Bool.noConfusion (show true=false from h.1))),(hb),((fun h=>Bool.noConfusion (show true=false from h.1))),(hb),((fun h=>Bool.noConfusion (show true=false from h.1))),(hb),((fun h=>Bool.noConfusion (show true=false from h.1))),(hb),((fun h=>Bool.noConfusion (show true=false from h.1))),(hb),((fun h=>Bool.noConfusion (show true=false from h.1))),(hb),((fun h=>Bool.noConfusion (show true=false from h.1))),(hb),((fun h=>Bool.noConfusion (show true=false from h.1))),(hb),((fun h=>Bool.noConfusion (show true=false from h.1))),(hb),((fun h=>Bool.noConfusion (show true=false from h.1))),(hb),((fun h=>Bool.noConfusion (show true=false from h.1))),(hb),((fun h=>Bool.noConfusion (show true=false from h.1))),(hb),((fun h=>Bool.noConfusion (show true=false from h.1))),(hb),((fun h=>Bool.noConfusion (show true=false from h.1))),(hb),((fun h=>Bool.noConfusion (show true=false from h.1))),(hb),((fun h=>Bool.noConfusion (show true=false from h.1))),(hb),((fun h=>Bool.noConfusion (show true=false from h.1))),(hb),((fun h=>Bool.noConfusion (show true=false from h.1))),(hb),trivial⟩ (bM.le (st':=⟨[(4,(vB true))],[]⟩) ⟨⟨⟨_,rfl,eH.v (eO.one (dO.of (congrArg (fun b=>CV.d (.bool b)) (BF hb))))⟩,trivial⟩,trivial⟩) ?_
  refine aR ?_
  obtain rfl:=oi h
  exact rl [(sB true)]
 ·skip
  refine bE h fun r_ hr_ h=> ?_
  refine bE h fun u0 hr_1 h=> ?_
  refine di tT mX ⟨[(4,(vB (bif (!b.there)then true else(decide (u0<0)))))],[]⟩ [(!b.there)=false,(!b.there)=false,(!b.there)=false,(!b.there)=false,(!b.there)=false,(!b.there)=false,(!b.there)=false,(!b.there)=false,(!b.there)=false,(!b.there)=false,(!b.there)=false,(!b.there)=false,(!b.there)=false,(!b.there)=false,(!b.there)=false,(!b.there)=false,(!b.there)=false,gP (jl [(3,false)]) [(3,false)]→All [Fn Try.prog 111 [(sD (aK none 1 (au .i64) a.links)),(sD (aK none 1 (au .i64) b.links))] [] (vI r_) []],(!b.there)=false,gP (jl [(3,false)]) [(3,false)]→All [[(JG a b),(JX a b),r_].length=3,aG 3 1 (jD 1 [(.int .i64 (JG a b)),(.int .i64 (JX a b)),(.int .i64 r_)]) (acR a b r_)],gP (jl [(3,false)]) [(3,false)],(!b.there)=false,gP (jl [(3,false)]) [(3,false)]→All [Fn Try.prog 110 [(.one (.own 6 true ([(JG a b),(JX a b),r_].length)))] (aeZ a b r_) (vI u0) (aeZ a b r_)],(!b.there)=false,(!b.there)=false] {yb:=[(3,false)],an:=[(20, .call [] (vI r_) []),(21, .arr [(JG a b),(JX a b),r_].length (acR a b r_)),(22, .callR [6] (vI u0))],fr:=[(21,6)] } [] ⟨(hb),(hb),(hb),(hb),(hb),(hb),(hb),(hb),(hb),(hb),(hb),(hb),(hb),(hb),(hb),(hb),(hb),(fun hg=> ⟨(Ca a.links b.links hr_),trivial⟩),(hb),(fun hg=> ⟨(rfl),((by intro i hi j hj;match i,j,hi,hj with|0,0,_,_=>rfl|1,0,_,_=>rfl|2,0,_,_=>rfl)),trivial⟩),(⟨rfl,trivial⟩),(hb),(fun hg=> ⟨(Fn.vG (frz:=[6]) (p:=[[(JG a b),(JX a b),r_].length=[(JG a b),(JX a b),r_].length]) (Fn.le (args':=[(sD (aK (some true) 1 (au .i64) [(JG a b),(JX a b),r_]))]) (Mf [(JG a b),(JX a b),r_] hr_1) ⟨eO.one (dO.d gV.nT),trivial⟩) (by kernel_rfl) ⟨rfl,trivial⟩ rfl),trivial⟩),(hb),(hb),trivial⟩ (bM.le (st':=⟨[(4,(vB (decide (u0<0))))],[]⟩) ⟨⟨⟨_,rfl,eH.v (eO.one (dO.of (congrArg (fun b=>CV.d (.bool b)) (Cg hb))))⟩,trivial⟩,trivial⟩) ?_
  refine aR ?_
  obtain rfl:=oi h
  exact rl [(sB (decide (u0<0)))]
def qE  :(List Way)→Exit→St→Prop:=
  fun r=>bB TT [.tmp 6] (vO 0 true r.length) [(0,some (bZ 141 3 Way.cell r))]
section
variable (u0:(List Way)) (p:ah) (s_:State) (u1:Bool)
abbrev pR:Nat × TV:=(7,(vD (.fn 109 0 (nC []))))
abbrev vN:Nat × TV:=(8,(vO 405 true u0.length))
abbrev JO:Nat × Option Ob:=(403,some (Yr p))
abbrev A9:List (Nat × Option Ob):=[(JO p),(405,some (bZ 141 3 Way.cell u0))]
abbrev YQ:St:=⟨[(3,(vP 403 0)),(aV s_),pR,(vN u0),(9,(vB u1))],(A9 u0 p)⟩
end
def wP (p:ah) (s_:State):((List Way) × Bool)→St:=
  fun zz=>match zz with|(u0,u1)=>(YQ u0 p s_ u1)
def vS  :(List Way)→St:=
  fun u0=> ⟨[(vN u0)],[(405,some (bZ 141 3 Way.cell u0))]⟩
def oH (p:ah) (s_:State):(aM ((List Way) × Bool) (Ex (List Way) (List Way)))→Exit→St→Prop:=
  LQ 0 [] (wP p s_) vS qE
section
variable (p:ah) (s_:State) (u0:(List Way)) (u1:Bool) (u2:Int)
abbrev yt:Nat × TV:=(26,(vD (aK none 6 Link.cell p.links)))
abbrev xW:Nat × TV:=(27,(vI (p.links.length:Int)))
abbrev Z4:St:=⟨[(3,(vP 403 0)),(aV s_),pR,(vN u0),(9,(vB u1)),(yt p),(xW p),(28,(vI u2))],(A9 u0 p)⟩
end
def vR (p:ah) (s_:State):((List Way) × Bool × Int)→St:=
  fun zz=>match zz with|(u0,u1,u2)=>(Z4 p s_ u0 u1 u2)
def wI (p:ah) (s_:State):((List Way) × Bool)→St:=
  fun zz=>match zz with|(u0,u1)=>(YQ u0 p s_ u1)
def oQ (p:ah) (s_:State):(aM ((List Way) × Bool × Int) (Ex ((List Way) × Bool) (aM ((List Way) × Bool) (Ex (List Way) (List Way)))))→Exit→St→Prop:=
  LQ 2 [1] (vR p s_) (wI p s_) (oH p s_)
section
variable (p:ah) (u0:Int)
abbrev abt:List CV:=[(cI ((at' p.links u0.toNat).a)),(cI ((at' p.links u0.toNat).b)),(cI ((at' p.links u0.toNat).b)),(cI ((at' p.links u0.toNat).a))]
abbrev DR:Nat × TV:=(48,(.v (.agg (abt p u0))))
end
def wK (p:ah) (s_:State) (u0:Int):((List Way) × Bool × Int)→St:=
  fun zz=>match zz with|(u1,u2,u3)=> ⟨[(3,(vP 403 0)),(aV s_),pR,(vN u1),(9,(vB u2)),(10,(vI u0)),(Mc p u0),(yt p),(xW p),(28,(vI u0)),(DR p u0),(49,(vI u3))],(A9 u1 p)⟩
def wR (p:ah) (s_:State) (u1:Int):((List Way) × Bool)→St:=
  fun zz=>match zz with|(u0,u2)=>(Z4 p s_ u0 u2 u1)
def DY (p:ah) (s_:State) (u0:Int):(aM ((List Way) × Bool × Int) (Ex ((List Way) × Bool) (aM ((List Way) × Bool × Int) (Ex ((List Way) × Bool) (aM ((List Way) × Bool) (Ex (List Way) (List Way)))))))→Exit→St→Prop:=
  LQ 4 [3] (wK p s_ u0) (wR p s_ u0) (oQ p s_)
section
variable (p:ah) (u3:Int) (s_:State) (u5:(List Way)) (u8:Bool) (u0:Int) (u1:Int) (u2:(List Way)) (u6:Bool) (u4:(List Int))
abbrev aea:List (Nat × Option Ob):=[(JO p)]
abbrev I6:=(List.replicate p.buses.toNat ((⟨false,0,([]:List Int)⟩:Way):Way))
abbrev acC:Nat × TV:=(8,(vO 405 true ((I6 p).length)))
abbrev ab8:List (Nat × TV):=[(2,(vI u3)),(3,(vP 403 0)),(aV s_),pR,(acC p)]
abbrev Zc:=((I6 p).set u3.toNat (⟨true,(at' (I6 p) u3.toNat).iL,(at' (I6 p) u3.toNat).links⟩:Way))
abbrev Zh:=(aC Way.cell (Zc p u3))
abbrev acd:Nat × TV:=(8,(vO 405 true ((Zc p u3).length)))
abbrev adO:List (Nat × Option Ob):=[(JO p),(405,some (bZ 141 3 Way.cell (Zc p u3)))]
abbrev aeW:St:=⟨[(3,(vP 403 0)),(aV s_),pR,(vN u5),(9,(vB u8)),(yt p),(xW p),(28,(k3 u0))],(A9 u5 p)⟩
abbrev aaw:=(⟨(at' p.links u0.toNat).a,(at' p.links u0.toNat).b⟩:af)
abbrev ZJ:=(⟨(at' p.links u0.toNat).b,(at' p.links u0.toNat).a⟩:af)
abbrev afy:=(at' [(aaw p u0),(ZJ p u0)] u1.toNat)
abbrev ZY:=((afy p u0 u1).e0)
abbrev XV:=((afy p u0 u1).e1)
abbrev agn:List DV:=[(.int .i64 (ZY p u0 u1)),(.int .i64 (XV p u0 u1))]
abbrev aaS:=(at' u2 ((ZY p u0 u1).toNat))
abbrev ads:=((aaS p u0 u1 u2).there)
abbrev afz:=((aaS p u0 u1 u2).iL)
abbrev aew:=((aaS p u0 u1 u2).links)
abbrev af8:Nat × TV:=(14,(vD (lT [(.bool (ads p u0 u1 u2)),(.int .i64 (afz p u0 u1 u2)),(aK none 1 (au .i64) (aew p u0 u1 u2))] 0)))
abbrev Vn:Nat × TV:=(15,(vI (XV p u0 u1)))
abbrev afl:St:=⟨[(3,(vP 403 0)),(aV s_),pR,(vN u2),(9,(vB u6)),(10,(vI u0)),(Mc p u0),(yt p),(xW p),(28,(vI u0)),(DR p u0),(49,(k3 u1))],(A9 u2 p)⟩
abbrev YS:=(IntKind.wrap .i64 ((afz p u0 u1 u2)+((at' p.links u0.toNat).iL)))
abbrev acL:List DV:=[(.bool true),(.int .i64 (YS p u0 u1 u2)),(aK none 1 (au .i64) (u4++[u0]))]
abbrev af2:Nat × TV:=(16,(vD (lT (acL p u0 u1 u2 u4) 0)))
abbrev aeB:=(⟨true,(YS p u0 u1 u2),(u4++[u0])⟩:Way)
abbrev aaF:=((XV p u0 u1).toNat)
abbrev ZR:=(u2.set (aaF p u0 u1) (aeB p u0 u1 u2 u4))
abbrev Zy:=(aC Way.cell (ZR p u0 u1 u2 u4))
abbrev ZC:Nat × TV:=(8,(vO 405 true ((ZR p u0 u1 u2 u4).length)))
abbrev aa8:List (Nat × Option Ob):=[(JO p),(405,some (bZ 141 3 Way.cell (ZR p u0 u1 u2 u4)))]
end
theorem EG (p:ah) (s_:State) (u3:Int) {r:(List Way)} (h:Au p s_ u3=some r):Fn Try.prog 66 (O7 p s_ u3) [] (vO 0 true r.length) [(0,some (bZ 141 3 Way.cell r))]:=by
 refine fN tT Try.func66 rfl rfl fun B=> ?_
 show bJ _ _ _ _ _ _ (qE r) _
 unfold Au at h
 refine sz tT ⟨[(2,(vI u3)),(3,(vP 403 0)),(aV s_)],(aea p)⟩ {fr:=[(0,403),(1,404)] } [404] ?_
 refine sz tT ⟨[(2,(vI u3)),(3,(vP 403 0)),(aV s_),pR],(aea p)⟩ {} [] ?_
 refine aQ (aO h fun⟨a1,a2,a3⟩ h=> ?_)
 refine ri tT ⟨(ab8 p u3 s_),[(JO p),(405,some (.arr 141 3 (I6 p).length (fun _ j=>[(.bool false),(.int .i64 0),nS].getD j .nilp)))]⟩ [_,(p.buses:Int)=p.buses,_,_,(I6 p).length=p.buses.toNat,aG p.buses.toNat 3 (fun _ j=>[(.bool false),(.int .i64 0),nS].getD j .nilp) (fun _ j=>[(.bool false),(.int .i64 0),nS].getD j .nilp)] {an:=[(2, .arr (I6 p).length (fun _ j=>[(.bool false),(.int .i64 0),nS].getD j .nilp))],fr:=[(2,405)] } [] ⟨a1,rfl,a2,a3,(List.length_replicate),(iq _ _ _),trivial⟩ (bM.le (st':=⟨(ab8 p u3 s_),[(JO p),(405,some (bZ 141 3 Way.cell (I6 p)))]⟩) ⟨⟨tR,tR,tR,tR,tR,trivial⟩,⟨rfl, .refl _,⟨rfl,QD (adT _ _ _ _ _ (fun j hj=>match j,hj with|0,_=> .refl _|1,_=> .refl _|2,_=>gV.nil')),trivial⟩⟩⟩) ?_
 refine aQ (aO h fun a1 h=> ?_)
 refine ri tT ⟨[(3,(vP 403 0)),(aV s_),pR,(acC p)],[(JO p),(405,some (.arr 141 3 (I6 p).length (Zh p u3)))]⟩ [_,_,aG (I6 p).length 3 (jZ (aC Way.cell (I6 p)) u3.toNat 0 [(.bool true)]) (Zh p u3)] {an:=[(4, .arr 0 (Zh p u3))] } [] ⟨a1,(tL a1),(bL _ _ _ _ _ _ _ _ rfl (fun j hj=>(match j,hj with|0,_=>rfl|1,_=>rfl|2,_=>rfl))),trivial⟩ (bM.le (st':=⟨[(3,(vP 403 0)),(aV s_),pR,(acd p u3)],(adO p u3)⟩) ⟨⟨tR,tR,tR,⟨_,rfl,eH.v (eO.one cW)⟩,trivial⟩,⟨rfl, .refl _,⟨rfl,oW,trivial⟩⟩⟩) ?_
 refine aQ (sz tT ⟨[(3,(vP 403 0)),(aV s_),pR,(acd p u3),(9,(vB true))],(adO p u3)⟩ {} [] ?_)
 refine bE h fun y2 hy h=> ?_
 refine aL [] (wP p s_) vS qE hy (fun s f h=> ?_) ?_
 ·clear hy
  show bJ _ _ _ _ _ _ ((oH p s_) f) _
  unfold Ar at h
  obtain⟨u7,v1⟩:=s
  refine aQ (sz tT ⟨[(3,(vP 403 0)),(aV s_),pR,(vN u7),(24,(vB v1))],(A9 u7 p)⟩ {} [] ?_)
  refine bI h (fun hb5 h=> ?_) (fun hb5 h=> ?_)
  ·refine ct hb5 ?_
   refine aP (aB (sz tT ⟨[(3,(vP 403 0)),(aV s_),pR,(vN u7),(9,(vB false))],(A9 u7 p)⟩ {} [] ?_))
   refine sz tT ⟨[(3,(vP 403 0)),(aV s_),pR,(vN u7),(9,(vB false)),(yt p),(xW p),(28,(vI 0))],(A9 u7 p)⟩ {} [] ?_
   refine bE h fun y1 hy h=> ?_
   refine aL [1] (vR p s_) (wI p s_) (oH p s_) hy (fun s f h=> ?_) ?_
   ·clear hy
    show bJ _ _ _ _ _ _ ((oQ p s_) f) _
    unfold AX at h
    obtain⟨u5,u8,u0⟩:=s
    refine sz tT ⟨[(3,(vP 403 0)),(aV s_),pR,(vN u5),(9,(vB u8)),(yt p),(xW p),(28,(vI u0)),(29,(vB (decide (u0<(p.links.length:Int)))))],(A9 u5 p)⟩ {} [] ?_
    refine aQ ?_
    refine bI h (fun hb4 h=> ?_) (fun hb4 h=> ?_)
    ·refine ct hb4 ?_
     refine aP (aQ (aB (aQ (aO h fun a1 h=> ?_))))
     refine rg tT ⟨[(3,(vP 403 0)),(aV s_),pR,(vN u5),(9,(vB u8)),(10,(vI u0)),(Mc p u0),(yt p),(xW p),(28,(vI u0))],(A9 u5 p)⟩ [_] {fr:=[(3,781)] } [781] ⟨a1,trivial⟩ ?_
     refine aQ (aQ (bE h fun r_ hr_ h=> ?_))
     have q0:=dK p s_ u0 hr_
     refine rg tT ⟨[(3,(vP 403 0)),(aV s_),pR,(vN u5),(9,(vB u8)),(10,(vI u0)),(Mc p u0),(yt p),(xW p),(28,(vI u0)),(37,(vB (!r_)))],(A9 u5 p)⟩ [_] {an:=[(3,cA q0 [])] } [] ⟨q0,trivial⟩ ?_
     refine bI h (fun hb3 h=> ?_) (fun hb3 h=> ?_)
     ·refine ct hb3 ?_
      refine aX (rz tT (aeW p s_ u5 u8 u0) {} [] ?_)
      obtain rfl:=oi h
      exact lN
     ·refine cf hb3 ?_
      refine aP (sz tT ⟨[(3,(vP 403 0)),(aV s_),pR,(vN u5),(9,(vB u8)),(10,(vI u0)),(Mc p u0),(yt p),(xW p),(28,(vI u0)),(DR p u0),(49,(vI 0))],(A9 u5 p)⟩ {} [] ?_)
      refine bE h fun y hy h=> ?_
      refine aL [3] (wK p s_ u0) (wR p s_ u0) (oQ p s_) hy (fun s f h=> ?_) ?_
      ·clear hy
       show bJ _ _ _ _ _ _ ((DY p s_ u0) f) _
       unfold Ap at h
       obtain⟨u2,u6,u1⟩:=s
       refine sz tT ⟨[(3,(vP 403 0)),(aV s_),pR,(vN u2),(9,(vB u6)),(10,(vI u0)),(Mc p u0),(yt p),(xW p),(28,(vI u0)),(DR p u0),(49,(vI u1)),(50,(vB (decide (u1<2))))],(A9 u2 p)⟩ {} [] ?_
       refine aQ ?_
       refine bI h (fun hb2 h=> ?_) (fun hb2 h=> ?_)
       ·refine ct hb2 ?_
        refine aP (aQ (aB (aQ (aO h fun a1 h=> ?_))))
        refine rg tT ⟨[(3,(vP 403 0)),(aV s_),pR,(vN u2),(9,(vB u6)),(10,(vI u0)),(Mc p u0),(13,(vP 800 0)),(yt p),(xW p),(28,(vI u0)),(DR p u0),(49,(vI u1))],[(JO p),(405,some (bZ 141 3 Way.cell u2)),(800,some (.cells 164 [(cI (ZY p u0 u1)),(cI (XV p u0 u1))]))]⟩ [_,u1.toNat*2+2≤(abt p u0).length,((abt p u0).drop (u1.toNat*2)).take 2=(agn p u0 u1).map .d] {an:=[(0, .vals (agn p u0 u1))],fr:=[(1,800)] } [] ⟨a1,(Uy (n:=2) (sz:=2) (Nat.le_refl _) a1),(Uo (n:=2) (sz:=2) (g:=fun q=>[(cI ((at' [(aaw p u0),(ZJ p u0)] q).e0)),(cI ((at' [(aaw p u0),(ZJ p u0)] q).e1))]) (by intro q hq;match q,hq with|0,_=>rfl|1,_=>rfl) a1),trivial⟩ ?_
        refine aQ (aO h fun a1 h=> ?_)
        refine dg tT mX ⟨[(3,(vP 403 0)),(aV s_),pR,(vN u2),(9,(vB u6)),(10,(vI u0)),(Mc p u0),(af8 p u0 u1 u2),(Vn p u0 u1),(yt p),(xW p),(28,(vI u0)),(DR p u0),(49,(vI u1))],(A9 u2 p)⟩ [(0:Int)≤0∧(0:Int)<(2:Nat),_,_,(0:Int)≤1∧(1:Int)<(2:Nat)] {fr:=[(7,801)] } [801] ⟨((by decide)),a1,(tL a1),((by decide)),trivial⟩ ?_
        refine aQ (sz tT ⟨[(3,(vP 403 0)),(aV s_),pR,(vN u2),(9,(vB u6)),(10,(vI u0)),(Mc p u0),(af8 p u0 u1 u2),(Vn p u0 u1),(yt p),(xW p),(28,(vI u0)),(DR p u0),(49,(vI u1)),(61,(vB (!(ads p u0 u1 u2))))],(A9 u2 p)⟩ {} [] ?_)
        refine bI h (fun hb1 h=> ?_) (fun hb1 h=> ?_)
        ·refine ct hb1 ?_
         refine aX (rz tT (afl p s_ u0 u1 u2 u6) {} [] ?_)
         obtain rfl:=oi h
         exact lN
        ·refine cf hb1 ?_
         refine aP (aQ (bE h fun u4 hr_1 h=> ?_))
         refine aO h fun⟨a1,a2⟩ h=> ?_
         have q0:=rk [(0,802)] (vM (aew p u0 u1 u2) hr_1)
         refine di tT mX ⟨[(3,(vP 403 0)),(aV s_),pR,(vN u2),(9,(vB u6)),(10,(vI u0)),(Mc p u0),(Vn p u0 u1),(16,(vP 805 0)),(yt p),(xW p),(28,(vI u0)),(DR p u0),(49,(vI u1))],[(JO p),(405,some (bZ 141 3 Way.cell u2)),(805,some (.cells 141 [(cB true),(cI (YS p u0 u1 u2)),(.d (aK none 1 (au .i64) (u4++[u0])))]))]⟩ [_,[u0].length=1,aG 1 1 (jD 1 [(.int .i64 u0)]) (aC (au .i64) [u0]),u4.length=u4.length,_,_,(u4++[u0]).length=u4.length+[u0].length,aG (u4.length+[u0].length) 1 (EM (aC (au .i64) u4) u4.length (aC (au .i64) [u0])) (aC (au .i64) (u4++[u0])),(u4++[u0]).length=(u4++[u0]).length] {an:=[(7,cA q0 []),(9, .arr [u0].length (aC (au .i64) [u0])),(10, .arr (u4++[u0]).length (aC (au .i64) (u4++[u0])))],fr:=[(9,803),(10,804),(12,805)] } [804] ⟨q0,(rfl),((by intro i hi j hj;match i,j,hi,hj with|0,0,_,_=>rfl)),rfl,a1,a2,(List.length_append),(mU _ _ _ _),rfl,trivial⟩ (fz ⟨[(3,(vP 403 0)),(aV s_),pR,(vN u2),(9,(vB u6)),(10,(vI u0)),(Mc p u0),(Vn p u0 u1),(af2 p u0 u1 u2 u4),(yt p),(xW p),(28,(vI u0)),(DR p u0),(49,(vI u1))],(A9 u2 p)⟩ [805]) ?_
         refine aQ (bE h fun v2 hr_2 h=> ?_)
         refine aO h fun a1 h=> ?_
         have q2:=FL (aeB p u0 u1 u2 u4) (at' u2 (aaF p u0 u1)) hr_2
         refine dg tT mX ⟨[(3,(vP 403 0)),(aV s_),pR,(vN u2),(9,(vB u6)),(10,(vI u0)),(Mc p u0),(Vn p u0 u1),(af2 p u0 u1 u2 u4),(yt p),(xW p),(28,(vI u0)),(DR p u0),(49,(vI u1)),(80,(vB v2))],(A9 u2 p)⟩ [_,_,_] {an:=[(6,cA q2 [])] } [] ⟨a1,(tL a1),q2,trivial⟩ ?_
         refine bI h (fun hb h=> ?_) (fun hb h=> ?_)
         ·refine ct hb ?_
          refine aQ (aO h fun a1 h=> ?_)
          refine ri tT ⟨[(3,(vP 403 0)),(aV s_),pR,(vN u2),(10,(vI u0)),(Mc p u0),(yt p),(xW p),(28,(vI u0)),(DR p u0),(49,(vI u1))],[(JO p),(405,some (.arr 141 3 u2.length (Zy p u0 u1 u2 u4)))]⟩ [_,_,aG u2.length 3 (jZ (aC Way.cell u2) (aaF p u0 u1) 0 (acL p u0 u1 u2 u4)) (Zy p u0 u1 u2 u4)] {an:=[(4, .arr 0 (Zy p u0 u1 u2 u4))] } [] ⟨a1,(tL a1),(bL _ _ _ _ _ _ _ _ rfl (fun j hj=>(match j,hj with|0,_=>rfl|1,_=>rfl|2,_=>rfl))),trivial⟩ (bM.le (st':=⟨[(3,(vP 403 0)),(aV s_),pR,(ZC p u0 u1 u2 u4),(10,(vI u0)),(Mc p u0),(yt p),(xW p),(28,(vI u0)),(DR p u0),(49,(vI u1))],(aa8 p u0 u1 u2 u4)⟩) ⟨⟨tR,tR,tR,⟨_,rfl,eH.v (eO.one cW)⟩,tR,tR,tR,tR,tR,tR,tR,trivial⟩,⟨rfl, .refl _,⟨rfl,oW,trivial⟩⟩⟩) ?_
          refine rz tT ⟨[(3,(vP 403 0)),(aV s_),pR,(ZC p u0 u1 u2 u4),(9,(vB true)),(10,(vI u0)),(Mc p u0),(yt p),(xW p),(28,(vI u0)),(DR p u0),(49,(vI u1))],(aa8 p u0 u1 u2 u4)⟩ {} [] ?_
          refine rz tT ⟨[(3,(vP 403 0)),(aV s_),pR,(ZC p u0 u1 u2 u4),(9,(vB true)),(10,(vI u0)),(Mc p u0),(yt p),(xW p),(28,(vI u0)),(DR p u0),(49,(k3 u1))],(aa8 p u0 u1 u2 u4)⟩ {} [] ?_
          obtain rfl:=oi h
          exact lN
         ·refine cf hb ?_
          refine aP (rz tT (afl p s_ u0 u1 u2 u6) {} [] ?_)
          obtain rfl:=oi h
          exact lN
       ·refine cf hb2 ?_
        refine aI (fz (Z4 p s_ u2 u6 u0) []) ?_
        refine aX ?_
        obtain rfl:=oi h
        exact lB
      ·clear hy
       cases y with
       |brk z=>
        obtain⟨v0,v3⟩:=z
        unfold gm
        refine⟨_, .refl, ?_⟩
        refine rz tT (aeW p s_ v0 v3 u0) {} [] ?_
        obtain rfl:=oi h
        exact lN
       |ret v=>
        obtain rfl:=oi h
        unfold gm
        intro e st hn ha hR
        cases e with
        |normal=>exact absurd rfl hn
        |exit id=>simp only [qz (b:=3) ha rfl,cond_false];exact hR
        |goto l=>exact hR
        |ret=>exact hR
        |panic c=>exact hR
        |outgrown=>exact hR
    ·refine cf hb4 ?_
     refine aI (fz (YQ u5 p s_ u8) []) ?_
     refine aX ?_
     obtain rfl:=oi h
     exact lB
   ·clear hy
    cases y1 with
    |brk z=>
     obtain⟨v4,v5⟩:=z
     unfold gm
     refine⟨_, .refl, ?_⟩
     obtain rfl:=oi h
     exact lN
    |ret v=>
     obtain rfl:=oi h
     unfold gm
     intro e st hn ha hR
     cases e with
     |normal=>exact absurd rfl hn
     |exit id=>simp only [qz (b:=1) ha rfl,cond_false];exact hR
     |goto l=>exact hR
     |ret=>exact hR
     |panic c=>exact hR
     |outgrown=>exact hR
  ·refine cf hb5 ?_
   refine aI (fz ⟨[(vN u7)],[(405,some (bZ 141 3 Way.cell u7))]⟩ []) ?_
   refine aX ?_
   obtain rfl:=oi h
   exact lB
 ·clear hy
  cases y2 with
  |brk z=>
   obtain⟨u9,rfl⟩: ∃q,q=z:=⟨_,rfl⟩
   unfold gm
   refine⟨_, .refl, ?_⟩
   refine sz tT ⟨[(6,(vO 405 true u9.length))],[(405,some (bZ 141 3 Way.cell u9))]⟩ {} [] ?_
   refine aI (bM.fin (st':=⟨[(6,(vO 0 true u9.length))],[(0,some (bZ 141 3 Way.cell u9))]⟩) (cs:=[]) ⟨[],[(405,0)]⟩ [6] (by kernel_rfl) trivial) ?_
   refine aR ?_
   obtain rfl:=oi h
   exact rl [(.one (.own 0 true u9.length))]
  |ret v=>
   obtain rfl:=oi h
   unfold gm
   intro e st hn ha hR
   cases e with
   |normal=>exact absurd rfl hn
   |exit id=>exact hR
   |goto l=>exact hR
   |ret=>exact hR
   |panic c=>exact hR
   |outgrown=>exact hR
def rF  :((List Short) × Int)→Exit→St→Prop:=
  fun r=>bB TT [.tmp 6, .tmp 7] (.iP [(sD (aK none 4 Short.cell r.1)),(sI r.2)]) []
section
variable (u0:(List Short)) (p:ah)
abbrev JM:Nat × TV:=(9,(vO 28 false u0.length))
abbrev Eg:Nat × TV:=(29,(vD (aK none 5 Source.cell p.sources)))
abbrev Er:Nat × TV:=(30,(vI (p.sources.length:Int)))
abbrev JI:List (Nat × Option Ob):=[(28,some (bZ 47 4 Short.cell u0))]
end
def xY (p:ah) (s_:State) (u1:Int):((List Short) × Int)→St:=
  fun zz=>match zz with|(u0,u2)=> ⟨[(2,(vI u1)),(bn p),(aV s_),(JM u0),(Eg p),(Er p),(31,(vI u2))],(JI u0)⟩
def yC  :(List Short)→St:=
  fun u0=> ⟨[(JM u0)],(JI u0)⟩
def FH (p:ah) (s_:State) (u0:Int):(aM ((List Short) × Int) (Ex (List Short) ((List Short) × Int)))→Exit→St→Prop:=
  LQ 0 [] (xY p s_ u0) yC rF
section
variable (p:ah) (u1:Int) (u0:Int) (s_:State) (u3:(List Short)) (u2:(List Way))
abbrev Uh:List (Nat × Option Ob):=[(22,some (Yr p))]
abbrev aga:TV:=(vD (lT [(.int .i64 ((at' p.sources u1.toNat).bus)),(.int .i64 ((at' p.sources u1.toNat).kind)),(.int .i64 ((at' p.sources u1.toNat).power)),(.int .i64 ((at' p.sources u1.toNat).sync)),(.int .i64 ((at' p.sources u1.toNat).iL))] 0))
abbrev WS:Nat × TV:=(11,(aga p u1))
abbrev adb:St:=⟨[(2,(vI u0)),(bn p),(aV s_),(JM u3),(Eg p),(Er p),(31,(k3 u1))],(JI u3)⟩
abbrev abq:Nat × TV:=(12,(vD (lT [(.bool ((at' u2 u0.toNat).there)),(.int .i64 ((at' u2 u0.toNat).iL)),(aK none 1 (au .i64) ((at' u2 u0.toNat).links))] 0)))
abbrev Uk:=(IntKind.wrap .i64 (((at' p.sources u1.toNat).iL)+((at' u2 u0.toNat).iL)))
abbrev ac9:=(IntKind.wrap .i64 (Int.tdiv (IntKind.wrap .i64 ((IntKind.wrap .i64 ((400000:Int)+(Uk p u1 u0 u2))) - 1)) (Uk p u1 u0 u2)))
abbrev RA:=(⟨u1,(Uk p u1 u0 u2),(ac9 p u1 u0 u2),(at' u2 u0.toNat).links⟩:Short)
abbrev Ur:=(u3++[(RA p u1 u0 u2)])
abbrev acg:=((Ur p u1 u0 u3 u2).length)
abbrev adF:Nat × TV:=(9,(vO 43 false (acg p u1 u0 u3 u2)))
abbrev acY:Ob:=(bZ 47 4 Short.cell (Ur p u1 u0 u3 u2))
abbrev ad8:List (Nat × Option Ob):=[(43,some (acY p u1 u0 u3 u2))]
abbrev YP:=(aC Short.cell [(RA p u1 u0 u2)])
abbrev agL:=(aC Short.cell (Ur p u1 u0 u3 u2))
end
theorem mV (p:ah) (s_:State) (u0:Int) {r:((List Short) × Int)} (h:kN p s_ u0=some r):Fn Try.prog 17 (O7 p s_ u0) [] (.iP [(sD (aK none 4 Short.cell r.1)),(sI r.2)]) []:=by
 refine fN tT Try.func17 rfl rfl fun B=> ?_
 show bJ _ _ _ _ _ _ (rF r) _
 unfold kN at h
 refine sz tT ⟨[(2,(vI u0)),(3,(vP 22 0)),(aV s_)],(Uh p)⟩ {fr:=[(0,22),(1,23)] } [23] ?_
 refine aQ (aQ (bE h fun r_ hr_ h=> ?_))
 have q0:=eG p s_ hr_
 refine rg tT ⟨[(2,(vI u0)),(3,(vP 22 0)),(aV s_),(8,(vI r_))],(Uh p)⟩ [_] {an:=[(2,cA q0 [])] } [] ⟨q0,trivial⟩ ?_
 refine sz tT ⟨[(2,(vI u0)),(3,(vP 22 0)),(aV s_),(8,(vI r_)),(18,(vB (!decide (r_=0))))],(Uh p)⟩ {} [] ?_
 refine bI h (fun hb4 h=> ?_) (fun hb4 h=> ?_)
 ·refine ct hb4 ?_
  refine sz tT ⟨[(6,(vD nS)),(7,(vI r_))],[]⟩ {} [] ?_
  refine aI (bM.le (st':=⟨[(6,(vD (aK none 4 Short.cell ([]:List Short)))),(7,(vI r_))],[]⟩) ⟨⟨⟨_,rfl,eH.v (eO.one (dO.d gV.nil'))⟩,tR,trivial⟩,trivial⟩) ?_
  refine aR ?_
  obtain rfl:=oi h
  exact rl [(sD (aK none 4 Short.cell ([]:List Short))),(sI r_)]
 ·refine cf hb4 ?_
  refine aP (aQ (sg tT ⟨[(2,(vI u0)),(3,(vP 22 0)),(aV s_),(27,(vB (bif (decide (u0<0))then true else(decide (p.buses≤u0)))))],(Uh p)⟩ (eqs (decide (u0<0)) 5 []) {yb:=[(2,(decide (u0<0)))] } [] (ae trivial) ?_))
  refine bI h (fun hb3 h=> ?_) (fun hb3 h=> ?_)
  ·refine ct hb3 ?_
   refine sz tT ⟨[(6,(vD nS)),(7,(vI 1))],[]⟩ {} [] ?_
   refine aI (bM.le (st':=⟨[(6,(vD (aK none 4 Short.cell ([]:List Short)))),(7,(vI 1))],[]⟩) ⟨⟨⟨_,rfl,eH.v (eO.one (dO.d gV.nil'))⟩,tR,trivial⟩,trivial⟩) ?_
   refine aR ?_
   obtain rfl:=oi h
   exact rl [(sD (aK none 4 Short.cell ([]:List Short))),(sI 1)]
  ·refine cf hb3 ?_
   refine aP (sz tT ⟨[(2,(vI u0)),(3,(vP 22 0)),(aV s_),(9,(vD nS))],(Uh p)⟩ {} [] ?_)
   refine aQ (sz tT ⟨[(2,(vI u0)),(bn p),(aV s_),(9,(vD nS)),(Eg p),(Er p),(31,(vI 0))],[]⟩ {} [22] ?_)
   refine bE h fun y hy h=> ?_
   refine aI (.trans (bM.Tk (t:=9) (b:=44) (esz0:=0) (el0:=fun _ _=> .nilp) (E:=47) (esz:=4) (el:=aC Short.cell ([]:List Short)) (by kernel_rfl) (by kernel_rfl)) (.trans (bM.fin (st':=⟨[(2,(vI u0)),(bn p),(aV s_),(9,(vO 28 false 0)),(Eg p),(Er p),(31,(vI 0))],[(28,some (.arr 47 4 0 (aC Short.cell ([]:List Short))))]⟩) (cs:=[]) ⟨[],[(44,28)]⟩ [2,3,4,9,29,30,31] (by kernel_rfl) trivial) (bM.le (st':=⟨[(2,(vI u0)),(bn p),(aV s_),(9,(vO 28 false (([]:List Short).length))),(Eg p),(Er p),(31,(vI 0))],[(28,some (bZ 47 4 Short.cell ([]:List Short)))]⟩) ⟨⟨tR,tR,tR,⟨_,rfl,eH.v (eO.one cW)⟩,tR,tR,tR,trivial⟩,⟨rfl,oW,trivial⟩⟩))) ?_
   refine aL [] (xY p s_ u0) yC rF hy (fun s f h=> ?_) ?_
   ·clear hy
    show bJ _ _ _ _ _ _ ((FH p s_ u0) f) _
    unfold yB at h
    obtain⟨u3,u1⟩:=s
    refine sz tT ⟨[(2,(vI u0)),(bn p),(aV s_),(JM u3),(Eg p),(Er p),(31,(vI u1)),(32,(vB (decide (u1<(p.sources.length:Int)))))],(JI u3)⟩ {} [] ?_
    refine aQ ?_
    refine bI h (fun hb2 h=> ?_) (fun hb2 h=> ?_)
    ·refine ct hb2 ?_
     refine aP (aQ (aB (aQ (aO h fun a1 h=> ?_))))
     refine rg tT ⟨[(2,(vI u0)),(bn p),(aV s_),(JM u3),(10,(vI u1)),(WS p u1),(Eg p),(Er p),(31,(vI u1))],(JI u3)⟩ [_] {fr:=[(3,39)] } [39] ⟨a1,trivial⟩ ?_
     refine aQ (aQ (bE h fun u5 hr_1 h=> ?_))
     refine aO h fun a1 h=> ?_
     refine rg tT ⟨[(2,(vI u0)),(bn p),(aV s_),(JM u3),(10,(vI u1)),(WS p u1),(Eg p),(Er p),(31,(vI u1)),(47,(vB (bif (at' s_.badBus u0.toNat)then true else(!u5))))],(JI u3)⟩ (_::(eqs (at' s_.badBus u0.toNat) 4 ((gP (jl [(5,(at' s_.badBus u0.toNat))]) [(5,false)]→All [Fn Try.prog 65 (O7 p s_ u1) [] (vB u5) []])::(eqs (at' s_.badBus u0.toNat) 2 [])))) {yb:=[(5,(at' s_.badBus u0.toNat))],an:=[(9, .call [] (vB u5) [])] } [] ⟨a1,(ae ⟨(fun hg=> ⟨(fZ p s_ u1 (gF hr_1 (aZ hg))),trivial⟩),(ae trivial)⟩)⟩ ?_
     refine bI h (fun hb1 h=> ?_) (fun hb1 h=> ?_)
     ·refine ct hb1 ?_
      refine aX (rz tT (adb p u1 u0 s_ u3) {} [] ?_)
      obtain rfl:=oi h
      exact lN
     ·refine cf hb1 ?_
      refine aP (aQ (bE h fun u2 hr_2 h=> ?_))
      refine aO h fun a1 h=> ?_
      have q0:=rk [(0,40)] (EG p s_ ((at' p.sources u1.toNat).bus) hr_2)
      refine rg tT ⟨[(2,(vI u0)),(bn p),(aV s_),(JM u3),(10,(vI u1)),(WS p u1),(abq u0 u2),(Eg p),(Er p),(31,(vI u1))],(JI u3)⟩ [_,_,_] {an:=[(4,cA q0 [])],fr:=[(8,41)] } [41] ⟨q0,a1,(tL a1),trivial⟩ ?_
      refine sz tT ⟨[(2,(vI u0)),(bn p),(aV s_),(JM u3),(10,(vI u1)),(WS p u1),(abq u0 u2),(Eg p),(Er p),(31,(vI u1)),(57,(vB ((at' u2 u0.toNat).there)))],(JI u3)⟩ {} [] ?_
      refine bI h (fun hb h=> ?_) (fun hb h=> ?_)
      ·refine ct hb ?_
       refine sz tT ⟨[(2,(vI u0)),(bn p),(aV s_),(JM u3),(10,(vI u1)),(abq u0 u2),(13,(vI (Uk p u1 u0 u2))),(Eg p),(Er p),(31,(vI u1))],(JI u3)⟩ {} [] ?_
       refine aO h fun⟨a1,a2,a3⟩ h=> ?_
       refine dg tT mX ⟨[(2,(vI u0)),(bn p),(aV s_),(adF p u1 u0 u3 u2),(Eg p),(Er p),(31,(vI u1))],(ad8 p u1 u0 u3 u2)⟩ [_,[(RA p u1 u0 u2)].length=1,aG 1 4 (jD 4 [(.int .i64 u1),(.int .i64 (Uk p u1 u0 u2)),(.int .i64 (ac9 p u1 u0 u2)),(aK none 1 (au .i64) ((at' u2 u0.toNat).links))]) (YP p u1 u0 u2),u3.length=u3.length,_,_,(Ur p u1 u0 u3 u2).length=u3.length+[(RA p u1 u0 u2)].length,aG (u3.length+[(RA p u1 u0 u2)].length) 4 (EM (aC Short.cell u3) u3.length (YP p u1 u0 u2)) (agL p u1 u0 u3 u2)] {an:=[(11, .arr [(RA p u1 u0 u2)].length (YP p u1 u0 u2)),(12, .arr (Ur p u1 u0 u3 u2).length (agL p u1 u0 u3 u2))],fr:=[(11,42),(12,43)] } [] ⟨a1,(rfl),((by intro i hi j hj;match i,j,hi,hj with|0,0,_,_=>rfl|0,1,_,_=>rfl|0,2,_,_=>rfl|0,3,_,_=>rfl)),rfl,a2,a3,(List.length_append),(mU _ _ _ _),trivial⟩ ?_
       refine ri tT ⟨[(2,(vI u0)),(bn p),(aV s_),(adF p u1 u0 u3 u2),(Eg p),(Er p),(31,(k3 u1))],(ad8 p u1 u0 u3 u2)⟩ [] {} [] trivial (bM.fin (st':=⟨[(2,(vI u0)),(bn p),(aV s_),(9,(vO 28 false (acg p u1 u0 u3 u2))),(Eg p),(Er p),(31,(k3 u1))],[(28,some (acY p u1 u0 u3 u2))]⟩) (cs:=[]) ⟨[],[(43,28)]⟩ [2,3,4,9,29,30,31] (by kernel_rfl) trivial) ?_
       obtain rfl:=oi h
       exact lN
      ·refine cf hb ?_
       refine aP (rz tT (adb p u1 u0 s_ u3) {} [] ?_)
       obtain rfl:=oi h
       exact lN
    ·refine cf hb2 ?_
     refine aI (fz ⟨[(JM u3)],(JI u3)⟩ []) ?_
     refine aX ?_
     obtain rfl:=oi h
     exact lB
   ·clear hy
    cases y with
    |brk z=>
     obtain⟨u4,rfl⟩: ∃q,q=z:=⟨_,rfl⟩
     unfold gm
     refine⟨_, .refl, ?_⟩
     refine sg tT ⟨[(6,(vD (aK none 4 Short.cell u4))),(7,(vI 0))],[]⟩ [u4.length=u4.length] {} [28] ⟨rfl,trivial⟩ ?_
     refine aR ?_
     obtain rfl:=oi h
     exact rl [(sD (aK none 4 Short.cell u4)),(sI 0)]
    |ret v=>
     obtain rfl:=oi h
     unfold gm
     intro e st hn ha hR
     cases e with
     |normal=>exact absurd rfl hn
     |exit id=>exact hR
     |goto l=>exact hR
     |ret=>exact hR
     |panic c=>exact hR
     |outgrown=>exact hR
def qL  :Int→Exit→St→Prop:=
  fun r=>bB TT [.tmp 4] (vI r) []
def wJ (s_:(List Int)) (v_:Int):Int→St:=
  fun t8=> ⟨[(jW s_),(1,(vI v_)),(oC s_),(8,(vI t8))],[]⟩
def wz  :Unit→St:=
  fun _=> ⟨[],[]⟩
def DL (s_:(List Int)) (v_:Int):(aM Int (Ex Unit Int))→Exit→St→Prop:=
  LQ 0 [] (wJ s_ v_) wz qL
theorem Ea (s_:(List Int)) (v_:Int) {r:Int} (h:uD s_ v_=some r):Fn Try.prog 114 [(sD (y9 s_)),(sI v_)] [] (vI r) []:=by
 refine fN tT Try.func114 rfl rfl fun B=> ?_
 show bJ _ _ _ _ _ _ (qL r) _
 unfold uD at h
 refine sz tT ⟨[(jW s_),(1,(vI v_))],[]⟩ {} [] ?_
 refine aQ (sz tT ⟨[(jW s_),(1,(vI v_)),(oC s_),(8,(vI 0))],[]⟩ {} [] ?_)
 refine bE h fun y hy h=> ?_
 refine aL [] (wJ s_ v_) wz qL hy (fun s f h=> ?_) ?_
 ·clear hy
  show bJ _ _ _ _ _ _ ((DL s_ v_) f) _
  unfold wh at h
  obtain⟨t8,rfl⟩: ∃q,q=s:=⟨_,rfl⟩
  refine sz tT ⟨[(jW s_),(1,(vI v_)),(oC s_),(8,(vI t8)),(Tt t8 s_)],[]⟩ {} [] ?_
  refine aQ ?_
  refine bI h (fun hb1 h=> ?_) (fun hb1 h=> ?_)
  ·refine ct hb1 ?_
   refine aP (aQ (aB (sz tT ⟨[(jW s_),(1,(vI v_)),(5,(vI t8)),(oC s_),(8,(vI t8))],[]⟩ {} [] ?_)))
   refine aQ (aO h fun a1 h=> ?_)
   refine rg tT ⟨[(jW s_),(1,(vI v_)),(5,(vI t8)),(oC s_),(8,(vI t8)),(16,(vB (decide (v_=(at' s_ t8.toNat)))))],[]⟩ [_] {} [] ⟨a1,trivial⟩ ?_
   refine bI h (fun hb h=> ?_) (fun hb h=> ?_)
   ·refine ct hb ?_
    refine sz tT ⟨[(4,(vI t8))],[]⟩ {} [] ?_
    refine aR ?_
    obtain rfl:=oi h
    exact lR dX (dZ 0) dY (bB.mk (.inr rfl) (p:=[]) (l:=[(sI t8)]) (by kernel_rfl) trivial (eH.refl _) trivial)
   ·refine cf hb ?_
    refine aP (rz tT ⟨[(jW s_),(1,(vI v_)),(oC s_),(Yj t8)],[]⟩ {} [] ?_)
    obtain rfl:=oi h
    exact lN
  ·refine cf hb1 ?_
   refine aI (fz ⟨[],[]⟩ []) ?_
   refine aX ?_
   obtain rfl:=oi h
   exact lB
 ·clear hy
  cases y with
  |brk z=>
   unfold gm
   refine⟨_, .refl, ?_⟩
   refine sz tT ⟨[(4,(vI (-1)))],[]⟩ {} [] ?_
   refine aR ?_
   obtain rfl:=oi h
   exact rl [(sI (-1))]
  |ret v=>
   obtain rfl:=oi h
   unfold gm
   intro e st hn ha hR
   cases e with
   |normal=>exact absurd rfl hn
   |exit id=>exact hR
   |goto l=>exact hR
   |ret=>exact hR
   |panic c=>exact hR
   |outgrown=>exact hR
def Bv  :Bool→Exit→St→Prop:=
  fun r=>bB TT [.tmp 4] (vB r) []
theorem Bc (s_:(List Int)) (v_:Int) {r:Bool} (h:pI s_ v_=some r):Fn Try.prog 69 [(sD (y9 s_)),(sI v_)] [] (vB r) []:=by
 refine fN tT Try.func69 rfl rfl fun B=> ?_
 show bJ _ _ _ _ _ _ (Bv r) _
 unfold pI at h
 refine sz tT ⟨[(jW s_),(1,(vI v_))],[]⟩ {} [] ?_
 refine aQ (bE h fun r_ hr_ h=> ?_)
 have q0:=Ea s_ v_ hr_
 refine rg tT (k32 r_) [_] {an:=[(2,cA q0 [])] } [] ⟨q0,trivial⟩ ?_
 refine aR ?_
 obtain rfl:=oi h
 exact rl [(sB (decide (0≤r_)))]
section
variable (o_:(List Int))
abbrev BJ:Ob:=(bZ 3 1 (au .i64) o_)
abbrev vK:List (Nat × Option Ob):=[(0,some (.cells 40 [(.own 1 true o_.length)])),(1,some (BJ o_))]
end
def Cy (o_:(List Int)):Bool→Exit→St→Prop:=
  fun r=>bB TT [.tmp 3] (vB r) (vK o_)
theorem Cf (i:Int) (o_:(List Int)) {r:Bool} (h:qB i o_=some r):Fn Try.prog 68 [(sI i),(.one (.ptr 0 0))] (vK o_) (vB r) (vK o_):=by
 refine fN tT Try.func68 rfl rfl fun B=> ?_
 show bJ _ _ _ _ _ _ ((Cy o_) r) _
 unfold qB at h
 refine sz tT ⟨[(0,(vI i)),(1,(vP 0 0))],(vK o_)⟩ {} [] ?_
 refine sg tT ⟨[(3,(vB (bif (decide (i<0))then true else(decide ((o_.length:Int)≤i)))))],(vK o_)⟩ (eqs (decide (i<0)) 5 []) {yb:=[(2,(decide (i<0)))] } [] (ae trivial) ?_
 refine aR ?_
 obtain rfl:=oi h
 exact rl [(sB (bif (decide (i<0))then true else(decide ((o_.length:Int)≤i))))]
def jK (o_:(List Int)):Int→Exit→St→Prop:=
  fun r=>bB TT [.tmp 4] (vI r) (vK o_)
abbrev OZ:Nat × TV:=(1,(.v (.one (.fn 68 0 1 (Al [(.ptr 0 0)])))))
def nN (s_:(List Int)) (o_:(List Int)):Int→St:=
  fun t8=> ⟨[(jW s_),OZ,(oC s_),(8,(vI t8))],(vK o_)⟩
section
variable (o_:(List Int))
abbrev afA:St:=⟨[],(vK o_)⟩
end
def nD (o_:(List Int)):Unit→St:=
  fun _=>(afA o_)
def xA (s_:(List Int)) (o_:(List Int)):(aM Int (Ex Unit Int))→Exit→St→Prop:=
  LQ 0 [] (nN s_ o_) (nD o_) (jK o_)
section
variable (s_:(List Int)) (o_:(List Int))
abbrev acG:St:=⟨[(jW s_),OZ],(vK o_)⟩
end
theorem xk (s_:(List Int)) (o_:(List Int)) {r:Int} (h:kP s_ o_=some r):Fn Try.prog 113 [(sD (y9 s_)),(.one (.fn 68 0 1 (Al [(.ptr 0 0)])))] (vK o_) (vI r) (vK o_):=by
 refine fN tT Try.func113 rfl rfl fun B=> ?_
 show bJ _ _ _ _ _ _ ((jK o_) r) _
 unfold kP at h
 refine sz tT (acG s_ o_) {} [] ?_
 refine aQ (sz tT ⟨[(jW s_),OZ,(oC s_),(8,(vI 0))],(vK o_)⟩ {} [] ?_)
 refine bE h fun y hy h=> ?_
 refine aL [] (nN s_ o_) (nD o_) (jK o_) hy (fun s f h=> ?_) ?_
 ·clear hy
  show bJ _ _ _ _ _ _ ((xA s_ o_) f) _
  unfold nH at h
  obtain⟨t8,rfl⟩: ∃q,q=s:=⟨_,rfl⟩
  refine sz tT ⟨[(jW s_),OZ,(oC s_),(8,(vI t8)),(Tt t8 s_)],(vK o_)⟩ {} [] ?_
  refine aQ ?_
  refine bI h (fun hb1 h=> ?_) (fun hb1 h=> ?_)
  ·refine ct hb1 ?_
   refine aP (aQ (aB (sz tT ⟨[(jW s_),OZ,(5,(vI t8)),(oC s_),(8,(vI t8))],(vK o_)⟩ {} [] ?_)))
   refine aQ (bE h fun r_ hr_ h=> ?_)
   refine aO h fun a1 h=> ?_
   have q1:=Cf (at' s_ t8.toNat) o_ hr_
   refine rg tT ⟨[(jW s_),OZ,(5,(vI t8)),(oC s_),(8,(vI t8)),(16,(vB r_))],(vK o_)⟩ [_,_] {an:=[(5,cR q1 [0,1])] } [] ⟨a1,q1,trivial⟩ ?_
   refine bI h (fun hb h=> ?_) (fun hb h=> ?_)
   ·refine ct hb ?_
    refine sz tT ⟨[(4,(vI t8))],(vK o_)⟩ {} [] ?_
    refine aR ?_
    obtain rfl:=oi h
    exact lR dX (dZ 0) dY (bB.mk (.inr rfl) (p:=[]) (l:=[(sI t8)]) (by kernel_rfl) trivial (eH.refl _) (.refl _))
   ·refine cf hb ?_
    refine aP (rz tT ⟨[(jW s_),OZ,(oC s_),(Yj t8)],(vK o_)⟩ {} [] ?_)
    obtain rfl:=oi h
    exact lN
  ·refine cf hb1 ?_
   refine aI (fz (afA o_) []) ?_
   refine aX ?_
   obtain rfl:=oi h
   exact lB
 ·clear hy
  cases y with
  |brk z=>
   unfold gm
   refine⟨_, .refl, ?_⟩
   refine sz tT ⟨[(4,(vI (-1)))],(vK o_)⟩ {} [] ?_
   refine aR ?_
   obtain rfl:=oi h
   exact rl [(sI (-1))]
  |ret v=>
   obtain rfl:=oi h
   unfold gm
   intro e st hn ha hR
   cases e with
   |normal=>exact absurd rfl hn
   |exit id=>exact hR
   |goto l=>exact hR
   |ret=>exact hR
   |panic c=>exact hR
   |outgrown=>exact hR
def vL (o_:(List Int)):Bool→Exit→St→Prop:=
  fun r=>bB TT [.tmp 4] (vB r) (vK o_)
theorem uK (s_:(List Int)) (o_:(List Int)) {r:Bool} (h:jR s_ o_=some r):Fn Try.prog 67 [(sD (y9 s_)),(.one (.fn 68 0 1 (Al [(.ptr 0 0)])))] (vK o_) (vB r) (vK o_):=by
 refine fN tT Try.func67 rfl rfl fun B=> ?_
 show bJ _ _ _ _ _ _ ((vL o_) r) _
 unfold jR at h
 refine sz tT (acG s_ o_) {} [] ?_
 refine aQ (bE h fun r_ hr_ h=> ?_)
 have q0:=xk s_ o_ hr_
 refine rg tT ⟨[(4,(vB (decide (0≤r_))))],(vK o_)⟩ [_] {an:=[(2,cR q0 [0,1])] } [] ⟨q0,trivial⟩ ?_
 refine aR ?_
 obtain rfl:=oi h
 exact rl [(sB (decide (0≤r_)))]
def qJ  :((List Int) × Bool × Int)→Exit→St→Prop:=
  fun r=>bB TT [.tmp 4, .tmp 5] (.iP [(sD (aK (some r.2.1) 1 (au .i64) r.1)),(sI r.2.2)]) []
section
variable (l:(List Short)) (u0:(List Int)) (u1:Int)
abbrev Gv:Nat × TV:=(23,(vD (aK none 4 Short.cell l)))
abbrev GV:Nat × TV:=(24,(vI (l.length:Int)))
abbrev GI:List (Nat × Option Ob):=[(8,some (BJ u0)),(9,some (.cells 40 [(.own 8 true u0.length)]))]
abbrev YW:St:=⟨[(7,(vP 9 0)),(Gv l),(GV l),(25,(vI u1))],(GI u0)⟩
end
def wB (l:(List Short)):((List Int) × Int)→St:=
  fun zz=>match zz with|(u0,u1)=>(YW l u0 u1)
section
variable (u0:(List Int))
abbrev ace:St:=⟨[(7,(vP 9 0))],(GI u0)⟩
end
def vV  :(List Int)→St:=
  fun u0=>(ace u0)
def oO (l:(List Short)):(aM ((List Int) × Int) (Ex (List Int) ((List Int) × Bool × Int)))→Exit→St→Prop:=
  LQ 0 [] (wB l) vV qJ
section
variable (l:(List Short)) (u0:Int) (u2:(List Int)) (u3:Int)
abbrev WU:DV:=(aK none 1 (au .i64) ((at' l u0.toNat).links))
abbrev Mq:Nat × TV:=(9,(vD (lT [(.int .i64 ((at' l u0.toNat).source)),(.int .i64 ((at' l u0.toNat).iL)),(.int .i64 ((at' l u0.toNat).amps)),(WU l u0)] 0)))
abbrev RY:Nat × TV:=(44,(vI (u2.length:Int)))
abbrev YJ:List (Nat × TV):=[(7,(vP 9 0)),(Mq l u0),(Gv l),(GV l),(25,(vI u0)),(RY u2),(45,(vI u3))]
end
def wQ (l:(List Short)) (u2:(List Int)) (u0:Int):((List Int) × Int)→St:=
  fun zz=>match zz with|(u1,u3)=> ⟨(YJ l u0 u2 u3),(GI u1)⟩
def wE (l:(List Short)) (u1:Int):(List Int)→St:=
  fun u0=>(YW l u0 u1)
def Ec (l:(List Short)) (u1:(List Int)) (u0:Int):(aM ((List Int) × Int) (Ex (List Int) (aM ((List Int) × Int) (Ex (List Int) ((List Int) × Bool × Int)))))→Exit→St→Prop:=
  LQ 2 [1] (wQ l u1 u0) (wE l u0) (oO l)
section
variable (l:(List Short)) (p:ah) (u0:Int) (u1:(List Int)) (u2:Int) (u3:(List Int)) (u4:(List Int))
abbrev Gt:Nat × TV:=(1,(vD (aK none 4 Short.cell l)))
abbrev L9:Nat × TV:=(2,(k9 p))
abbrev Q7:DV:=(aK (some false) 1 (au .i64) ([]:List Int))
abbrev PS:=((p.links.length:Int).toNat)
abbrev La:=(List.replicate (PS p) (0:Int))
abbrev Zf:Ob:=(bZ 3 1 (au .i64) (La p))
abbrev TA:=((La p).length)
abbrev ae2:List (Nat × Option Ob):=[(8,some (Zf p)),(9,some (.cells 40 [(.own 8 true (TA p))]))]
abbrev QS:=(aC (au .i64) (La p))
abbrev Ro:=(bif (decide (((at' l u0.toNat).amps)<0))then true else(decide (1000000<((at' l u0.toNat).amps))))
abbrev YK:=(u1.set u2.toNat (IntKind.wrap .i64 ((at' u1 u2.toNat)+((at' l u0.toNat).amps))))
abbrev ZA:=(aC (au .i64) (YK l u0 u1 u2))
abbrev afP:List (Nat × Option Ob):=[(8,some (bZ 3 1 (au .i64) (YK l u0 u1 u2))),(9,some (.cells 40 [(.own 8 true ((YK l u0 u1 u2).length))]))]
abbrev afI:List (Nat × TV):=[(7,(vP 9 0)),(Mq l u0),(Gv l),(GV l),(25,(vI u0)),(RY u3),(45,(k3 u2))]
abbrev QJ:DV:=(aK (some true) 1 (au .i64) u4)
end
theorem lu (p:ah) (l:(List Short)) {r:((List Int) × Bool × Int)} (h:jP p l=some r):Fn Try.prog 18 [(.agg (k5 p)),(sD (aK none 4 Short.cell l))] [] (.iP [(sD (aK (some r.2.1) 1 (au .i64) r.1)),(sI r.2.2)]) []:=by
 refine fN tT Try.func18 rfl rfl fun B=> ?_
 show bJ _ _ _ _ _ _ (qJ r) _
 unfold jP at h
 refine sz tT ⟨[(Gt l),(L9 p)],[]⟩ {fr:=[(0,7)] } [7] ?_
 refine aQ (aQ (bE h fun r_ hr_ h=> ?_))
 have q0:=yu p hr_
 refine rg tT ⟨[(Gt l),(L9 p),(6,(vI r_))],[]⟩ [_] {an:=[(1,cA q0 [])] } [] ⟨q0,trivial⟩ ?_
 refine sz tT ⟨[(Gt l),(L9 p),(6,(vI r_)),(14,(vB (!decide (r_=0))))],[]⟩ {} [] ?_
 refine bI h (fun hb5 h=> ?_) (fun hb5 h=> ?_)
 ·refine ct hb5 ?_
  refine sz tT ⟨[(4,(vD nS)),(5,(vI r_))],[]⟩ {} [] ?_
  refine aI (bM.le (st':=⟨[(4,(vD Q7)),(5,(vI r_))],[]⟩) ⟨⟨⟨_,rfl,eH.v (eO.one (dO.d gV.Uq))⟩,tR,trivial⟩,trivial⟩) ?_
  refine aR ?_
  obtain rfl:=oi h
  exact rl [(sD Q7),(sI r_)]
 ·refine cf hb5 ?_
  refine aP (aQ (sz tT ⟨[(Gt l),(L9 p),(18,(vB (decide (8<(l.length:Int)))))],[]⟩ {} [] ?_))
  refine bI h (fun hb4 h=> ?_) (fun hb4 h=> ?_)
  ·refine ct hb4 ?_
   refine sz tT ⟨[(4,(vD nS)),(5,(vI 1))],[]⟩ {} [] ?_
   refine aI (bM.le (st':=⟨[(4,(vD Q7)),(5,(vI 1))],[]⟩) ⟨⟨⟨_,rfl,eH.v (eO.one (dO.d gV.Uq))⟩,tR,trivial⟩,trivial⟩) ?_
   refine aR ?_
   obtain rfl:=oi h
   exact rl [(sD Q7),(sI 1)]
  ·refine cf hb4 ?_
   refine aP (aQ (aO h fun⟨a1,a2,a3⟩ h=> ?_))
   refine rg tT ⟨[(Gt l),(7,(vP 9 0))],(ae2 p)⟩ [_,((p.links.length:Int):Int)=(p.links.length:Int),_,_,(La p).length=(PS p),aG (PS p) 1 (fun _ j=>[(.int .i64 0)].getD j .nilp) (QS p)] {an:=[(3, .arr (La p).length (QS p))],fr:=[(3,8),(4,9)] } [] ⟨a1,rfl,a2,a3,(List.length_replicate),(dP _ _ _ _ _ (fun j hj=>(match j,hj with|0,_=>rfl))),trivial⟩ ?_
   refine aQ (sz tT ⟨[(7,(vP 9 0)),(Gv l),(GV l),(25,(vI 0))],(ae2 p)⟩ {} [] ?_)
   refine bE h fun y1 hy h=> ?_
   refine aL [] (wB l) vV qJ hy (fun s f h=> ?_) ?_
   ·clear hy
    show bJ _ _ _ _ _ _ ((oO l) f) _
    unfold vY at h
    obtain⟨u3,u0⟩:=s
    refine sz tT ⟨[(7,(vP 9 0)),(Gv l),(GV l),(25,(vI u0)),(26,(vB (decide (u0<(l.length:Int)))))],(GI u3)⟩ {} [] ?_
    refine aQ ?_
    refine bI h (fun hb3 h=> ?_) (fun hb3 h=> ?_)
    ·refine ct hb3 ?_
     refine aP (aQ (aB (aQ (aO h fun a1 h=> ?_))))
     refine rg tT ⟨[(7,(vP 9 0)),(Mq l u0),(Gv l),(GV l),(25,(vI u0))],(GI u3)⟩ [_] {fr:=[(2,13)] } [13] ⟨a1,trivial⟩ ?_
     refine aQ (aQ (bE h fun u5 hr_1 h=> ?_))
     refine rg tT ⟨[(7,(vP 9 0)),(Mq l u0),(Gv l),(GV l),(25,(vI u0)),(42,(vB (bif (Ro l u0)then true else u5)))],(GI u3)⟩ (eqs (decide (((at' l u0.toNat).amps)<0)) 4 (eqs (Ro l u0) 4 [gP (jl [(3,(decide (((at' l u0.toNat).amps)<0))),(8,(Ro l u0))]) [(8,false)]→All [Fn Try.prog 67 [(sD (WU l u0)),(.one (.fn 68 0 1 (Al [(.ptr 9 0)])))] [(9,some (.cells 40 [(.own 8 true u3.length)])),(8,some (BJ u3))] (vB u5) [(9,some (.cells 40 [(.own 8 true u3.length)])),(8,some (BJ u3))]],(Ro l u0)=(Ro l u0)])) {yb:=[(3,(decide (((at' l u0.toNat).amps)<0))),(8,(Ro l u0))],an:=[(12, .callR [9,8] (vB u5))] } [] (ae (ae ⟨(fun hg=> ⟨(rK [(0,9),(1,8)] (uK ((at' l u0.toNat).links) u3 (gF hr_1 (aZ hg)))),trivial⟩),rfl,trivial⟩)) ?_
     refine bI h (fun hb2 h=> ?_) (fun hb2 h=> ?_)
     ·refine ct hb2 ?_
      refine sz tT ⟨[(4,(vD nS)),(5,(vI 1))],[]⟩ {} [] ?_
      refine aI (bM.le (st':=⟨[(4,(vD Q7)),(5,(vI 1))],[]⟩) ⟨⟨⟨_,rfl,eH.v (eO.one (dO.d gV.Uq))⟩,tR,trivial⟩,trivial⟩) ?_
      refine aR ?_
      obtain rfl:=oi h
      exact lR dX (dZ 0) dY (bB.mk (.inr rfl) (p:=[]) (l:=[(sD Q7),(sI 1)]) (by kernel_rfl) trivial (eH.refl _) trivial)
     ·refine cf hb2 ?_
      refine aP (sz tT ⟨[(7,(vP 9 0)),(Mq l u0),(Gv l),(GV l),(25,(vI u0)),(RY u3),(45,(vI 0))],(GI u3)⟩ {} [] ?_)
      refine bE h fun y hy h=> ?_
      refine aL [1] (wQ l u3 u0) (wE l u0) (oO l) hy (fun s f h=> ?_) ?_
      ·clear hy
       show bJ _ _ _ _ _ _ ((Ec l u3 u0) f) _
       unfold vW at h
       obtain⟨u1,u2⟩:=s
       refine sz tT ⟨[(7,(vP 9 0)),(Mq l u0),(Gv l),(GV l),(25,(vI u0)),(RY u3),(45,(vI u2)),(46,(Uw u2 u3))],(GI u1)⟩ {} [] ?_
       refine aQ ?_
       refine bI h (fun hb1 h=> ?_) (fun hb1 h=> ?_)
       ·refine ct hb1 ?_
        refine aP (aQ (aB (sz tT ⟨[(7,(vP 9 0)),(Mq l u0),(10,(vI u2)),(Gv l),(GV l),(25,(vI u0)),(RY u3),(45,(vI u2))],(GI u1)⟩ {} [] ?_)))
        refine aQ (bE h fun u7 hr_2 h=> ?_)
        have q0:=Bc ((at' l u0.toNat).links) u2 hr_2
        refine rg tT ⟨[(7,(vP 9 0)),(Mq l u0),(10,(vI u2)),(Gv l),(GV l),(25,(vI u0)),(RY u3),(45,(vI u2)),(51,(vB u7))],(GI u1)⟩ [_] {an:=[(3,cA q0 [])] } [] ⟨q0,trivial⟩ ?_
        refine bI h (fun hb h=> ?_) (fun hb h=> ?_)
        ·refine ct hb ?_
         refine aO h fun a1 h=> ?_
         refine di tT mX ⟨(YJ l u0 u3 u2),[(8,some (.arr 3 1 u1.length (ZA l u0 u1 u2))),(9,some (.cells 40 [(.own 8 true u1.length)]))]⟩ [_,_,_,_,aG u1.length 1 (jZ (aC (au .i64) u1) u2.toNat 0 [(.int .i64 (IntKind.wrap .i64 ((at' u1 u2.toNat)+((at' l u0.toNat).amps))))]) (ZA l u0 u1 u2)] {an:=[(8, .arr 0 (ZA l u0 u1 u2))] } [] ⟨a1,(tL a1),a1,(tL a1),(bL _ _ _ _ _ _ _ _ rfl (fun j hj=>(match j,hj with|0,_=>rfl))),trivial⟩ (bM.le (st':=⟨(YJ l u0 u3 u2),(afP l u0 u1 u2)⟩) ⟨⟨tR,tR,tR,tR,tR,tR,tR,trivial⟩,⟨rfl,oW,⟨rfl,bA ⟨cW,trivial⟩,trivial⟩⟩⟩) ?_
         refine rz tT ⟨(afI l u0 u2 u3),(afP l u0 u1 u2)⟩ {} [] ?_
         obtain rfl:=oi h
         exact lN
        ·refine cf hb ?_
         refine aP (rz tT ⟨(afI l u0 u2 u3),(GI u1)⟩ {} [] ?_)
         obtain rfl:=oi h
         exact lN
       ·refine cf hb1 ?_
        refine aI (fz (YW l u1 u0) []) ?_
        refine aX ?_
        obtain rfl:=oi h
        exact lB
      ·clear hy
       cases y with
       |brk z=>
        obtain⟨u6,rfl⟩: ∃q,q=z:=⟨_,rfl⟩
        unfold gm
        refine⟨_, .refl, ?_⟩
        refine rz tT ⟨[(7,(vP 9 0)),(Gv l),(GV l),(25,(k3 u0))],(GI u6)⟩ {} [] ?_
        obtain rfl:=oi h
        exact lN
       |ret v=>
        obtain rfl:=oi h
        unfold gm
        intro e st hn ha hR
        cases e with
        |normal=>exact absurd rfl hn
        |exit id=>simp only [qz (b:=1) ha rfl,cond_false];exact hR
        |goto l=>exact hR
        |ret=>exact hR
        |panic c=>exact hR
        |outgrown=>exact hR
    ·refine cf hb3 ?_
     refine aI (fz (ace u3) []) ?_
     refine aX ?_
     obtain rfl:=oi h
     exact lB
   ·clear hy
    cases y1 with
    |brk z=>
     obtain⟨u4,rfl⟩: ∃q,q=z:=⟨_,rfl⟩
     unfold gm
     refine⟨_, .refl, ?_⟩
     refine sg tT ⟨[(4,(vD (QJ u4))),(5,(vI 0))],[]⟩ [u4.length=u4.length] {} [8] ⟨rfl,trivial⟩ ?_
     refine aR ?_
     obtain rfl:=oi h
     exact rl [(sD (QJ u4)),(sI 0)]
    |ret v=>
     obtain rfl:=oi h
     unfold gm
     intro e st hn ha hR
     cases e with
     |normal=>exact absurd rfl hn
     |exit id=>exact hR
     |goto l=>exact hR
     |ret=>exact hR
     |panic c=>exact hR
     |outgrown=>exact hR
def E8  :Bool→Exit→St→Prop:=
  fun r=>bB TT [.tmp 4] (vB r) []
theorem kW (s_:State) (b:Int) {r:Bool} (h:fO s_ b=some r):Fn Try.prog 79 [(.agg (QK s_)),(sI b)] [] (vB r) []:=by
 refine fN tT Try.func79 rfl rfl fun B=> ?_
 show bJ _ _ _ _ _ _ (E8 r) _
 unfold fO at h
 refine sz tT ⟨[(1,(vI b)),(2,(k74 s_))],[]⟩ {fr:=[(0,1)] } [1] ?_
 refine aQ (aO h fun a1 h=> ?_)
 refine rg tT ⟨[(4,(vB (bif (decide (0≤b))then(!(at' s_.badBus b.toNat))else false)))],[]⟩ (eqs (decide (0≤b)) 4 ((gP (jl [(2,(decide (0≤b)))]) [(2,true)]→All [(0:Int)≤b∧b<(s_.badBus.length:Int)])::(eqs (decide (0≤b)) 3 []))) {yb:=[(2,(decide (0≤b)))] } [] (ae ⟨(fun hg=> ⟨(a1 (aZ hg)),trivial⟩),(ae trivial)⟩) ?_
 refine aR ?_
 obtain rfl:=oi h
 exact rl [(sB (bif (decide (0≤b))then(!(at' s_.badBus b.toNat))else false))]
def AL  :(Int × Network)→Exit→St→Prop:=
  fun r=>bB TT [.tmp 10] (vI r.1) [(0,some (.cells 161 [(.own 3 false r.2.arcs.length),(.own 2 true r.2.from_.length)])),(1,none),(2,some (.rows 40 1 r.2.from_.length (yH rQ r.2.from_) none)),(3,some (bZ 170 2 aY.cell r.2.arcs))]
section
variable (u0:Network) (b:Int) (u1:Int) (a:Int) (u2:Int)
abbrev TF:Nat × Option Ob:=(1,some (bZ 170 2 aY.cell u0.arcs))
abbrev aa3:List (Nat × Option Ob):=[(0,some (.cells 161 [(.own 1 false u0.arcs.length),(.own 2 true u0.from_.length)])),(TF u0),(2,some (.rows 40 1 u0.from_.length (yH rQ u0.from_) none))]
abbrev Pn:=(u0.arcs++[(⟨b,u1⟩:aY),(⟨a,u2⟩:aY)])
abbrev WV:=((Pn u0 b u1 a u2).length)
abbrev agH:Nat × Option Ob:=(0,some (.cells 161 [(.own 12 false (WV u0 b u1 a u2)),(.own 2 true u0.from_.length)]))
abbrev Vr:Nat × Option Ob:=(12,some (bZ 170 2 aY.cell (Pn u0 b u1 a u2)))
abbrev Qf:=((at' u0.from_ a.toNat)++[(u0.arcs.length:Int)])
abbrev Jg:=(u0.from_.set a.toNat (Qf u0 a))
abbrev Vb:=(yH rQ (Jg u0 a))
abbrev abm:=(aC (au .i64) (Qf u0 a))
abbrev agy:Nat × Option Ob:=(0,some (.cells 161 [(.own 12 false (WV u0 b u1 a u2)),(.own 2 true ((Jg u0 a).length))]))
abbrev Lr:=(at' (Jg u0 a) b.toNat)
abbrev M0:=(IntKind.wrap .i64 ((u0.arcs.length:Int)+1))
abbrev OL:=((Lr u0 b a)++[(M0 u0)])
abbrev abr:=((Jg u0 a).set b.toNat (OL u0 b a))
abbrev WN:=(yH rQ (abr u0 b a))
abbrev aan:=(aC (au .i64) [(M0 u0)])
abbrev abM:=((Lr u0 b a).length+[(M0 u0)].length)
abbrev YH:=(aC (au .i64) (OL u0 b a))
abbrev afv:=((abr u0 b a).length)
abbrev afF:Nat × Option Ob:=(2,some (.rows 40 1 (abr u0 b a).length (WN u0 b a) none))
abbrev aci:List (Nat × Option Ob):=[(0,some (.cells 161 [(.own 12 false (WV u0 b u1 a u2)),(.own 2 true (afv u0 b a))])),(1,none),(afF u0 b a),(Vr u0 b u1 a u2)]
end
theorem bX (a:Int) (b:Int) (u1:Int) (u2:Int) (u0:Network) {r:(Int × Network)} (h:dw a b u1 u2 u0=some r):Fn Try.prog 77 [(.one (.ptr 0 0)),(sI a),(sI b),(sI u1),(sI u2)] (aa3 u0) (vI r.1) [(0,some (.cells 161 [(.own 3 false r.2.arcs.length),(.own 2 true r.2.from_.length)])),(1,none),(2,some (.rows 40 1 r.2.from_.length (yH rQ r.2.from_) none)),(3,some (bZ 170 2 aY.cell r.2.arcs))]:=by
 refine fN tT Try.func77 rfl rfl fun B=> ?_
 show bJ _ _ _ _ _ _ (AL r) _
 unfold dw at h
 refine sz tT ⟨[(0,(vP 0 0)),(1,(vI a)),(2,(vI b)),(3,(vI u1)),(4,(vI u2))],(aa3 u0)⟩ {} [] ?_
 refine sz tT ⟨[(0,(vP 0 0)),(1,(vI a)),(2,(vI b)),(3,(vI u1)),(4,(vI u2)),(11,(vI (u0.arcs.length:Int)))],(aa3 u0)⟩ {} [] ?_
 refine aQ (aO h fun⟨a1,a2⟩ h=> ?_)
 refine rg tT ⟨[(0,(vP 0 0)),(1,(vI a)),(2,(vI b)),(11,(vI (u0.arcs.length:Int)))],[(agH u0 b u1 a u2),(1,none),(2,some (.rows 40 1 u0.from_.length (yH rQ u0.from_) none)),(Vr u0 b u1 a u2)]⟩ [[(⟨b,u1⟩:aY),(⟨a,u2⟩:aY)].length=2,aG 2 2 (jD 2 [(.int .i64 b),(.int .i64 u1),(.int .i64 a),(.int .i64 u2)]) (aC aY.cell [(⟨b,u1⟩:aY),(⟨a,u2⟩:aY)]),u0.arcs.length=u0.arcs.length,_,_,(Pn u0 b u1 a u2).length=u0.arcs.length+[(⟨b,u1⟩:aY),(⟨a,u2⟩:aY)].length,aG (u0.arcs.length+[(⟨b,u1⟩:aY),(⟨a,u2⟩:aY)].length) 2 (EM (aC aY.cell u0.arcs) u0.arcs.length (aC aY.cell [(⟨b,u1⟩:aY),(⟨a,u2⟩:aY)])) (aC aY.cell (Pn u0 b u1 a u2))] {an:=[(11, .arr [(⟨b,u1⟩:aY),(⟨a,u2⟩:aY)].length (aC aY.cell [(⟨b,u1⟩:aY),(⟨a,u2⟩:aY)])),(12, .arr (Pn u0 b u1 a u2).length (aC aY.cell (Pn u0 b u1 a u2)))],fr:=[(11,11),(12,12)] } [] ⟨(rfl),((by intro i hi j hj;match i,j,hi,hj with|0,0,_,_=>rfl|0,1,_,_=>rfl|1,0,_,_=>rfl|1,1,_,_=>rfl)),rfl,a1,a2,(List.length_append),(mU _ _ _ _),trivial⟩ ?_
 refine aQ (aO h fun⟨a1,a2,a3⟩ h=> ?_)
 refine di tT mX ⟨[(0,(vP 0 0)),(2,(vI b)),(11,(vI (u0.arcs.length:Int)))],[(agH u0 b u1 a u2),(1,none),(2,some (.rows 40 1 u0.from_.length (Vb u0 a) none)),(Vr u0 b u1 a u2)]⟩ [(0:Int)≤a∧a<(u0.from_.length:Int),a.toNat<u0.from_.length,[(u0.arcs.length:Int)].length=1,aG 1 1 (jD 1 [(.int .i64 (u0.arcs.length:Int))]) (aC (au .i64) [(u0.arcs.length:Int)]),(at' u0.from_ a.toNat).length=(at' u0.from_ a.toNat).length,((at' u0.from_ a.toNat).length+[(u0.arcs.length:Int)].length)*8≤140737488355328,(at' u0.from_ a.toNat).length+[(u0.arcs.length:Int)].length≤4611686018427387904,(Qf u0 a).length=(at' u0.from_ a.toNat).length+[(u0.arcs.length:Int)].length,aG ((at' u0.from_ a.toNat).length+[(u0.arcs.length:Int)].length) 1 (EM (aC (au .i64) (at' u0.from_ a.toNat)) (at' u0.from_ a.toNat).length (aC (au .i64) [(u0.arcs.length:Int)])) (abm u0 a),(0:Int)≤a∧a<(u0.from_.length:Int),a.toNat<u0.from_.length,(Qf u0 a).length=(Qf u0 a).length,Xj u0.from_.length 1 (stV (yH rQ u0.from_) a.toNat 0 (.row 3 1 (Qf u0 a).length (abm u0 a))) (Vb u0 a),∀i0 j0 c0,((some (a.toNat,0,CV.own 13 false (at' u0.from_ a.toNat).length)):Option (Nat × Nat × CV))=some (i0,j0,c0)→i0=a.toNat∧j0=0] {an:=[(11, .take 13),(13, .arr [(u0.arcs.length:Int)].length (aC (au .i64) [(u0.arcs.length:Int)])),(14, .arr (Qf u0 a).length (abm u0 a)),(16, .rows 0 (Vb u0 a))],fr:=[(13,14),(14,15)] } [] ⟨a1,(tL a1),(rfl),((by intro i hi j hj;match i,j,hi,hj with|0,0,_,_=>rfl)),rfl,a2,a3,(List.length_append),(mU _ _ _ _),a1,(tL a1),rfl,(Np _ _ _ _ _ _ _ _ rfl (fun j hj=>(match j,hj with|0,_=>rfl))),((fun i0 j0 c0 e=>by cases e;exact⟨rfl,rfl⟩)),trivial⟩ (bM.le (st':=⟨[(0,(vP 0 0)),(2,(vI b)),(11,(vI (u0.arcs.length:Int)))],[(agy u0 b u1 a u2),(1,none),(2,some (.rows 40 1 (Jg u0 a).length (Vb u0 a) none)),(Vr u0 b u1 a u2)]⟩) ⟨⟨tR,tR,tR,trivial⟩,⟨rfl,bA ⟨dO.refl _,cW,trivial⟩,⟨rfl, .refl _,⟨rfl,NA (by simp only [List.length_set,List.length_append,List.length_cons,List.length_nil,List.length_replicate,List.length_drop]),⟨rfl, .refl _,trivial⟩⟩⟩⟩⟩) ?_
 refine aQ (aO h fun⟨a1,a2,a3⟩ h=> ?_)
 refine di tT mX ⟨[(11,(vI (u0.arcs.length:Int)))],[(agy u0 b u1 a u2),(1,none),(2,some (.rows 40 1 (Jg u0 a).length (WN u0 b a) none)),(Vr u0 b u1 a u2)]⟩ [(0:Int)≤b∧b<((Jg u0 a).length:Int),b.toNat<(Jg u0 a).length,[(M0 u0)].length=1,aG 1 1 (jD 1 [(.int .i64 (M0 u0))]) (aan u0),(Lr u0 b a).length=(Lr u0 b a).length,(abM u0 b a)*8≤140737488355328,(Lr u0 b a).length+[(M0 u0)].length≤4611686018427387904,(OL u0 b a).length=(Lr u0 b a).length+[(M0 u0)].length,aG (abM u0 b a) 1 (EM (aC (au .i64) (Lr u0 b a)) (Lr u0 b a).length (aan u0)) (YH u0 b a),(0:Int)≤b∧b<((Jg u0 a).length:Int),b.toNat<(Jg u0 a).length,(OL u0 b a).length=(OL u0 b a).length,Xj (Jg u0 a).length 1 (stV (Vb u0 a) b.toNat 0 (.row 3 1 (OL u0 b a).length (YH u0 b a))) (WN u0 b a),∀i0 j0 c0,((some (b.toNat,0,CV.own 16 false (Lr u0 b a).length)):Option (Nat × Nat × CV))=some (i0,j0,c0)→i0=b.toNat∧j0=0] {an:=[(11, .take 16),(14, .arr [(M0 u0)].length (aan u0)),(15, .arr (OL u0 b a).length (YH u0 b a)),(17, .rows 0 (WN u0 b a))],fr:=[(14,17),(15,18)] } [] ⟨a1,(tL a1),(rfl),((by intro i hi j hj;match i,j,hi,hj with|0,0,_,_=>rfl)),rfl,a2,a3,(List.length_append),(mU _ _ _ _),a1,(tL a1),rfl,(Np _ _ _ _ _ _ _ _ rfl (fun j hj=>(match j,hj with|0,_=>rfl))),((fun i0 j0 c0 e=>by cases e;exact⟨rfl,rfl⟩)),trivial⟩ (bM.le (st':=⟨[(11,(vI (u0.arcs.length:Int)))],(aci u0 b u1 a u2)⟩) ⟨⟨tR,trivial⟩,⟨rfl,bA ⟨dO.refl _,cW,trivial⟩,⟨rfl, .refl _,⟨rfl,NA (by simp only [List.length_set,List.length_append,List.length_cons,List.length_nil,List.length_replicate,List.length_drop]),⟨rfl, .refl _,trivial⟩⟩⟩⟩⟩) ?_
 refine sz tT ⟨[(10,(vI (u0.arcs.length:Int)))],(aci u0 b u1 a u2)⟩ {} [] ?_
 refine aI (bM.fin (st':=⟨[(10,(vI (u0.arcs.length:Int)))],[(0,some (.cells 161 [(.own 3 false (WV u0 b u1 a u2)),(.own 2 true (afv u0 b a))])),(1,none),(afF u0 b a),(3,some (bZ 170 2 aY.cell (Pn u0 b u1 a u2)))]⟩) (cs:=[]) ⟨[],[(0,0),(1,1),(2,2),(12,3)]⟩ [10] (by kernel_rfl) trivial) ?_
 refine aR ?_
 obtain rfl:=oi h
 exact rh [(sI (u0.arcs.length:Int))] (.refl _) ⟨rfl, .refl _,⟨rfl,trivial,⟨rfl, .refl _,⟨rfl, .refl _,trivial⟩⟩⟩⟩
section
variable (u0:Network)
abbrev Hy:DV:=(aK none 1 (IU 1 (au .i64)) u0.from_)
abbrev XJ:Nat × Option Ob:=(0,some (.cells 161 [(.own 1 false u0.arcs.length),(.d (Hy u0))]))
abbrev aaO:List (Nat × Option Ob):=[(XJ u0),(TF u0),(2,some (.cells 157 [(.ptr 0 0)]))]
end
def wX (u0:Network):Unit→Exit→St→Prop:=
  fun _=>bB TT [.tmp 2] (.v (.one (.fn 121 0 1 (Al [(.ptr 2 0)])))) (aaO u0)
section
variable (u0:Network)
abbrev agx:List (Nat × Option Ob):=[(XJ u0),(TF u0)]
abbrev adW:List (Nat × Option Ob):=[(XJ u0),(TF u0),(3,some (.cells 157 [(.ptr 0 0)]))]
end
theorem jm (u0:Network) {r:Unit} (h:dR u0=some r):Fn Try.prog 81 [(.one (.ptr 0 0))] (agx u0) (.v (.one (.fn 121 0 1 (Al [(.ptr 2 0)])))) (aaO u0):=by
 refine fN tT Try.func81 rfl rfl fun B=> ?_
 show bJ _ _ _ _ _ _ ((wX u0) r) _
 unfold dR at h
 refine sz tT ⟨[(1,(vP 3 0))],(adW u0)⟩ {fr:=[(0,3)] } [] ?_
 refine sz tT ⟨[(2,(.v (.one (.fn 121 0 1 (Al [(.ptr 3 0)])))))],(adW u0)⟩ {} [] ?_
 refine aI (bM.fin (st':=⟨[(2,(.v (.one (.fn 121 0 1 (Al [(.ptr 2 0)])))))],(aaO u0)⟩) (cs:=[]) ⟨[],[(0,0),(1,1),(3,2)]⟩ [2] (by kernel_rfl) trivial) ?_
 refine aR ?_
 obtain rfl:=oi h
 exact rl [(.one (.fn 121 0 1 (Al [(.ptr 2 0)])))]
noncomputable def aJ:nR:=⟨[19,20],Gs ([1,0,1,0,0,0,1,0,1,0]++[0]) (mY Try.f80),Gs ([1,0,1,0,0,0,1,0,1,0]++[1]) (mY Try.f80),114,[.exit 1]⟩
section
variable (u0:Int)
abbrev Oi:List (Nat × TV):=[(2,(vP 1 0)),(3,(vP 2 0)),(4,(vP 3 0))]
abbrev Hz:Nat × Option Ob:=(1,some (.cells 157 [(.ptr 4 0)]))
abbrev I9:Nat × Option Ob:=(2,some (.cells 3 [(cI u0)]))
end
def uX (u0:Int):(Nat × (List Int) × Network)→Exit→St→Prop:=
  fun r=>nk 0 aJ (vB (Nat.beq r.1 0)) [(0,some (.loop aJ r.1 Oi)),Hz,(I9 u0),(3,some (.cells 40 [(.own 5 true r.2.1.length)])),(4,some (.cells 161 [(.own 6 false r.2.2.arcs.length),(.d (aK none 1 (IU 1 (au .i64)) r.2.2.from_))])),(5,some (bZ 3 1 (au .i64) r.2.1)),(6,some (bZ 170 2 aY.cell r.2.2.arcs))]
section
variable (o_:(List Int)) (u1:Int) (u2:Int) (u0:Network) (u3:Int) (u4:Int) (u5:Int)
abbrev M5:Nat × Option Ob:=(0,some (.loop aJ 1 Oi))
abbrev Rl:Nat × Option Ob:=(3,some (.cells 40 [(.own 5 true ((o_.set u1.toNat u2).length))]))
abbrev VW:Nat × Option Ob:=(4,some (.cells 161 [(.own 6 false u0.arcs.length),(.d (Hy u0))]))
abbrev Rm:Nat × Option Ob:=(5,some (bZ 3 1 (au .i64) (o_.set u1.toNat u2)))
abbrev VU:Nat × Option Ob:=(6,some (bZ 170 2 aY.cell u0.arcs))
abbrev FI:List (Nat × Option Ob):=[M5,Hz,(I9 u3),(Rl o_ u1 u2),(VW u0),(Rm o_ u1 u2),(VU u0)]
abbrev aah:St:=⟨[(2,(vP 1 0)),(3,(vP 2 0)),(4,(vP 3 0)),(7,(vI u4)),(8,(vI u5))],(FI o_ u1 u2 u0 u3)⟩
end
def lm (u1:Int) (u2:Int) (u3:Int) (o_:(List Int)) (u0:Network):(Int × Int)→St:=
  fun zz=>match zz with|(u4,u5)=>(aah o_ u1 u2 u0 u3 u4 u5)
section
variable (u4:Int) (u3:Int) (o_:(List Int)) (u1:Int) (u2:Int) (u0:Network)
abbrev af7:St:=⟨[(2,(vP 1 0)),(3,(vP 2 0)),(4,(vP 3 0)),(7,(vI u4))],(FI o_ u1 u2 u0 u3)⟩
end
def lM (u1:Int) (u2:Int) (u3:Int) (o_:(List Int)) (u0:Network):Int→St:=
  fun u4=>(af7 u4 u3 o_ u1 u2 u0)
section
variable (u0:Int)
abbrev UZ:=(uX u0)
end
def tH (u1:Int) (u2:Int) (u0:Int) (o_:(List Int)) (u3:Network):(aM (Int × Int) (Ex Int (Nat × (List Int) × Network)))→Exit→St→Prop:=
  LQ 4 [3] (lm u1 u2 u0 o_ u3) (lM u1 u2 u0 o_ u3) (UZ u0)
section
variable (u5:Int) (u6:Int) (u2:(List aY)) (u4:Network) (u3:Int) (o_:(List Int)) (u0:Int) (u1:Int)
abbrev QT:List (Nat × TV):=[(2,(vP 1 0)),(4,(vP 3 0)),(7,(vI u5)),(10,(vI u6))]
abbrev aef:Nat × Option Ob:=(4,some (.cells 161 [(.own 6 false u2.length),(.d (Hy u4))]))
abbrev ZI:List (Nat × Option Ob):=[M5,Hz,(I9 u3),(Rl o_ u0 u1),(aef u2 u4),(Rm o_ u0 u1),(6,some (bZ 170 2 aY.cell u2))]
end
def lQ (u0:Int) (u1:Int) (u3:Int) (o_:(List Int)) (u4:Network) (u5:Int):((List aY) × Int)→St:=
  fun zz=>match zz with|(u2,u6)=> ⟨(QT u5 u6),(ZI u2 u4 u3 o_ u0 u1)⟩
section
variable (u3:Int) (o_:(List Int)) (u0:Int) (u1:Int) (u2:(List aY)) (u4:Network)
abbrev abT:St:=⟨[],(ZI u2 u4 u3 o_ u0 u1)⟩
end
def kV (u0:Int) (u1:Int) (u3:Int) (o_:(List Int)) (u4:Network):(List aY)→St:=
  fun u2=>(abT u3 o_ u0 u1 u2 u4)
def tJ (u1:Int) (u2:Int) (u0:Int) (o_:(List Int)) (u3:Network) (u4:Int):(aM ((List aY) × Int) (Ex (List aY) (Nat × (List Int) × Network)))→Exit→St→Prop:=
  LQ 6 [3] (lQ u1 u2 u0 o_ u3 u4) (kV u1 u2 u0 o_ u3) (UZ u0)
section
variable (u6:Int) (o_:(List Int)) (u4:Network) (u0:Int) (u1:Int) (u7:Int) (u3:(List aY)) (u2:Int) (u5:Int)
abbrev Uj:List (Nat × Option Ob):=[(0,some (.loop aJ 0 Oi)),Hz,(I9 u6),(3,some (.cells 40 [(.own 5 true o_.length)])),(VW u4),(5,some (BJ o_)),(VU u4)]
abbrev abf:List (Nat × TV):=[(2,(vP 1 0)),(3,(vP 2 0)),(4,(vP 3 0)),(5,(vI u0)),(6,(vI u1))]
abbrev Ty:=((IntKind.wrap .i64 (((BitVec.ofInt (IntKind.bits .i64) (at' (o_.set u0.toNat u1) u7.toNat) ^^^ BitVec.ofInt (IntKind.bits .i64) 1).toNat:Int))).toNat)
abbrev Qe:=(u3.set ((at' (o_.set u0.toNat u1) u2.toNat).toNat) (⟨(at' u3 ((at' (o_.set u0.toNat u1) u2.toNat).toNat)).to_,(IntKind.wrap .i64 (((at' u3 ((at' (o_.set u0.toNat u1) u2.toNat).toNat)).left) - u5))⟩:aY))
abbrev Xd:=(aC aY.cell (Qe o_ u0 u1 u3 u2 u5))
abbrev aez:Nat × Option Ob:=(4,some (.cells 161 [(.own 6 false ((Qe o_ u0 u1 u3 u2 u5).length)),(.d (Hy u4))]))
abbrev aeS:=(at' (Qe o_ u0 u1 u3 u2 u5) (Ty o_ u0 u1 u2))
abbrev afd:=(IntKind.wrap .i64 (((aeS o_ u0 u1 u3 u2 u5).left)+u5))
abbrev VX:=((Qe o_ u0 u1 u3 u2 u5).set (Ty o_ u0 u1 u2) (⟨(aeS o_ u0 u1 u3 u2 u5).to_,(afd o_ u0 u1 u3 u2 u5)⟩:aY))
abbrev aam:=(aC aY.cell (VX o_ u0 u1 u3 u2 u5))
abbrev acy:List (Nat × Option Ob):=[M5,Hz,(I9 u6),(Rl o_ u0 u1),(4,some (.cells 161 [(.own 6 false ((VX o_ u0 u1 u3 u2 u5).length)),(.d (Hy u4))])),(Rm o_ u0 u1),(6,some (bZ 170 2 aY.cell (VX o_ u0 u1 u3 u2 u5)))]
end
theorem lF (u0:Int) (u1:Int) (u6:Int) (o_:(List Int)) (u4:Network) {r:(Nat × (List Int) × Network)} (h:bT u0 u1 u6 o_ u4=some r):Yl Try.prog 0 [(sI u0),(sI u1)] (Uj u6 o_ u4) (vB (Nat.beq r.1 0)) [(0,some (.loop aJ r.1 Oi)),Hz,(I9 u6),(3,some (.cells 40 [(.own 5 true r.2.1.length)])),(4,some (.cells 161 [(.own 6 false r.2.2.arcs.length),(.d (aK none 1 (IU 1 (au .i64)) r.2.2.from_))])),(5,some (bZ 3 1 (au .i64) r.2.1)),(6,some (bZ 170 2 aY.cell r.2.2.arcs))]:=by
 refine EL (r:=aJ) (sl:=Oi) (sl1:=(abf u0 u1)) (h1:=(Uj u6 o_ u4)) (sl2:=Oi) (by kernel_rfl) rfl rfl (by kernel_rfl) (fun rd B=> ?_) (by kernel_rfl) (fun rd B=> ?_)
 ·refine qY (c:=Gs ([1,0,1,0,0,0,1,0,1,0]++[0]) (mY Try.f80)) rfl ?_
  refine oo (st:=⟨[(19,(vI u0)),(20,(vI u1)),(2,(vP 1 0)),(3,(vP 2 0)),(4,(vP 3 0))],(Uj u6 o_ u4)⟩) (by kernel_rfl) ?_
  refine sz tT ⟨[(2,(vP 1 0)),(3,(vP 2 0)),(4,(vP 3 0)),(5,(vI u0)),(20,(vI u1))],(Uj u6 o_ u4)⟩ {} [] ?_
  refine rz tT ⟨(abf u0 u1),(Uj u6 o_ u4)⟩ {} [] ?_
  exact⟨rfl,rfl⟩
 ·refine qY (c:=Gs ([1,0,1,0,0,0,1,0,1,0]++[1]) (mY Try.f80)) rfl ?_
  refine oo (st:=⟨(abf u0 u1),[M5,Hz,(I9 u6),(3,some (.cells 40 [(.own 5 true o_.length)])),(VW u4),(5,some (BJ o_)),(VU u4)]⟩) (by kernel_rfl) ?_
  show bJ _ _ _ _ _ _ ((UZ u6) r) _
  unfold bT at h
  refine aB (aQ (aO h fun a1 h=> ?_))
  refine ri tT ⟨[(2,(vP 1 0)),(3,(vP 2 0)),(4,(vP 3 0)),(5,(vI u0))],[M5,Hz,(I9 u6),(3,some (.cells 40 [(.own 5 true o_.length)])),(VW u4),(5,some (.arr 3 1 o_.length (aC (au .i64) (o_.set u0.toNat u1)))),(VU u4)]⟩ [_,_,aG o_.length 1 (jZ (aC (au .i64) o_) u0.toNat 0 [(.int .i64 u1)]) (aC (au .i64) (o_.set u0.toNat u1))] {an:=[(4, .arr 0 (aC (au .i64) (o_.set u0.toNat u1)))] } [] ⟨a1,(tL a1),(bL _ _ _ _ _ _ _ _ rfl (fun j hj=>(match j,hj with|0,_=>rfl))),trivial⟩ (bM.le (st':=⟨[(2,(vP 1 0)),(3,(vP 2 0)),(4,(vP 3 0)),(5,(vI u0))],(FI o_ u0 u1 u4 u6)⟩) ⟨⟨tR,tR,tR,tR,trivial⟩,(hN 3 ⟨rfl,bA ⟨cW,trivial⟩,⟨rfl, .refl _,⟨rfl,oW,⟨rfl, .refl _,trivial⟩⟩⟩⟩)⟩) ?_
  refine aQ (sz tT ⟨[(2,(vP 1 0)),(3,(vP 2 0)),(4,(vP 3 0)),(27,(vB (!decide (u0=u6))))],(FI o_ u0 u1 u4 u6)⟩ {} [] ?_)
  refine bI h (fun hb3 h=> ?_) (fun hb3 h=> ?_)
  ·refine ct hb3 ?_
   refine aI (fz ⟨[],(FI o_ u0 u1 u4 u6)⟩ []) ?_
   refine aX ?_
   obtain rfl:=oi h
   exact nk.on (sl:=Oi) (by kernel_rfl) (zf (by kernel_rfl)) (eH.refl _)
  ·refine cf hb3 ?_
   refine aP (sz tT ⟨[(2,(vP 1 0)),(3,(vP 2 0)),(4,(vP 3 0)),(7,(vI (-1)))],(FI o_ u0 u1 u4 u6)⟩ {} [] ?_)
   refine aQ (sz tT ⟨[(2,(vP 1 0)),(3,(vP 2 0)),(4,(vP 3 0)),(7,(vI (-1))),(8,(vI u6))],(FI o_ u0 u1 u4 u6)⟩ {} [] ?_)
   refine bE h fun y1 hy h=> ?_
   refine aL [3] (lm u0 u1 u6 o_ u4) (lM u0 u1 u6 o_ u4) (UZ u6) hy (fun s f h=> ?_) ?_
   ·clear hy
    show bJ _ _ _ _ _ _ ((tH u0 u1 u6 o_ u4) f) _
    unfold bD at h
    obtain⟨u8,u7⟩:=s
    refine aQ (aQ (aO h fun a1 h=> ?_))
    refine rg tT ⟨[(2,(vP 1 0)),(3,(vP 2 0)),(4,(vP 3 0)),(7,(vI u8)),(8,(vI u7)),(33,(vB (decide (0≤(at' (o_.set u0.toNat u1) u7.toNat)))))],(FI o_ u0 u1 u4 u6)⟩ [_,_] {} [] ⟨a1,(tL a1),trivial⟩ ?_
    refine bI h (fun hb1 h=> ?_) (fun hb1 h=> ?_)
    ·refine ct hb1 ?_
     refine aP (bE h fun y hy h=> ?_)
     refine QG (o:=y) (fun u9=>(aah o_ u0 u1 u4 u6 u9 u7)) ?_ ?_
     ·replace h:=hy
      clear hy
      refine aB (aQ (aO h fun⟨a1,a2⟩ h=> ?_))
      refine dg tT mX ⟨[(2,(vP 1 0)),(3,(vP 2 0)),(4,(vP 3 0)),(7,(vI u8)),(8,(vI u7)),(9,(vI ((at' u4.arcs ((at' (o_.set u0.toNat u1) u7.toNat).toNat)).left)))],(FI o_ u0 u1 u4 u6)⟩ [_,_,_,_] {} [] ⟨a1,(tL a1),a2,(tL a2),trivial⟩ ?_
      refine sg tT ⟨[(2,(vP 1 0)),(3,(vP 2 0)),(4,(vP 3 0)),(7,(vI u8)),(8,(vI u7)),(9,(vI ((at' u4.arcs ((at' (o_.set u0.toNat u1) u7.toNat).toNat)).left))),(63,(vB (bif (decide (u8<0))then true else(decide (((at' u4.arcs ((at' (o_.set u0.toNat u1) u7.toNat).toNat)).left)<u8)))))],(FI o_ u0 u1 u4 u6)⟩ (eqs (decide (u8<0)) 4 []) {yb:=[(2,(decide (u8<0)))] } [] (ae trivial) ?_
      refine bI h (fun hb h=> ?_) (fun hb h=> ?_)
      ·refine ct hb ?_
       refine rz tT ⟨[(2,(vP 1 0)),(3,(vP 2 0)),(4,(vP 3 0)),(7,(vI ((at' u4.arcs ((at' (o_.set u0.toNat u1) u7.toNat).toNat)).left))),(8,(vI u7))],(FI o_ u0 u1 u4 u6)⟩ {} [] ?_
       obtain rfl:=oi h
       exact⟨rfl,by kernel_rfl⟩
      ·refine cf hb ?_
       refine aI (fz (aah o_ u0 u1 u4 u6 u8 u7) []) ?_
       refine aP ?_
       obtain rfl:=oi h
       exact⟨rfl,by kernel_rfl⟩
     ·clear hy
      obtain⟨u9,rfl⟩: ∃q,q=y:=⟨_,rfl⟩
      refine aO h fun⟨a1,a2⟩ h=> ?_
      refine dg tT mX ⟨[(2,(vP 1 0)),(3,(vP 2 0)),(4,(vP 3 0)),(7,(vI u9)),(8,(vI ((at' u4.arcs (Ty o_ u0 u1 u7)).to_)))],(FI o_ u0 u1 u4 u6)⟩ [_,_,_,_] {} [] ⟨a1,(tL a1),a2,(tL a2),trivial⟩ ?_
      obtain rfl:=oi h
      exact lN
    ·refine cf hb1 ?_
     refine aI (fz (af7 u8 u6 o_ u0 u1 u4) []) ?_
     refine aX ?_
     obtain rfl:=oi h
     exact lB
   ·clear hy
    cases y1 with
    |brk z=>
     obtain⟨u5,rfl⟩: ∃q,q=z:=⟨_,rfl⟩
     unfold gm
     refine⟨_, .refl, ?_⟩
     refine aQ (sz tT ⟨(QT u5 u6),(FI o_ u0 u1 u4 u6)⟩ {} [] ?_)
     refine bE h fun y2 hy h=> ?_
     refine aL [3] (lQ u0 u1 u6 o_ u4 u5) (kV u0 u1 u6 o_ u4) (UZ u6) hy (fun s f h=> ?_) ?_
     ·clear hy
      show bJ _ _ _ _ _ _ ((tJ u0 u1 u6 o_ u4 u5) f) _
      unfold bC at h
      obtain⟨u3,u2⟩:=s
      refine aQ (aQ (aO h fun a1 h=> ?_))
      refine rg tT ⟨[(2,(vP 1 0)),(4,(vP 3 0)),(7,(vI u5)),(10,(vI u2)),(70,(vB (decide (0≤(at' (o_.set u0.toNat u1) u2.toNat)))))],(ZI u3 u4 u6 o_ u0 u1)⟩ [_,_] {} [] ⟨a1,(tL a1),trivial⟩ ?_
      refine bI h (fun hb2 h=> ?_) (fun hb2 h=> ?_)
      ·refine ct hb2 ?_
       refine aP (aQ (aB (aQ (aO h fun⟨a1,a2⟩ h=> ?_))))
       refine di tT mX ⟨(QT u5 u2),[M5,Hz,(I9 u6),(Rl o_ u0 u1),(aef u3 u4),(Rm o_ u0 u1),(6,some (.arr 170 2 u3.length (Xd o_ u0 u1 u3 u2 u5)))]⟩ [_,_,_,_,_,_,aG u3.length 2 (jZ (aC aY.cell u3) ((at' (o_.set u0.toNat u1) u2.toNat).toNat) 1 [(.int .i64 (IntKind.wrap .i64 (((at' u3 ((at' (o_.set u0.toNat u1) u2.toNat).toNat)).left) - u5)))]) (Xd o_ u0 u1 u3 u2 u5)] {an:=[(15, .arr 0 (Xd o_ u0 u1 u3 u2 u5))] } [] ⟨a1,(tL a1),a2,(tL a2),a2,(tL a2),(bL _ _ _ _ _ _ _ _ rfl (fun j hj=>(match j,hj with|0,_=>rfl|1,_=>rfl))),trivial⟩ (bM.le (st':=⟨(QT u5 u2),[M5,Hz,(I9 u6),(Rl o_ u0 u1),(aez o_ u4 u0 u1 u3 u2 u5),(Rm o_ u0 u1),(6,some (bZ 170 2 aY.cell (Qe o_ u0 u1 u3 u2 u5)))]⟩) ⟨⟨tR,tR,tR,tR,trivial⟩,(hN 4 ⟨rfl,bA ⟨cW,dO.refl _,trivial⟩,⟨rfl, .refl _,⟨rfl,oW,trivial⟩⟩⟩)⟩) ?_
       refine aO h fun⟨a1,a2⟩ h=> ?_
       refine di tT mX ⟨(QT u5 u2),[M5,Hz,(I9 u6),(Rl o_ u0 u1),(aez o_ u4 u0 u1 u3 u2 u5),(Rm o_ u0 u1),(6,some (.arr 170 2 (Qe o_ u0 u1 u3 u2 u5).length (aam o_ u0 u1 u3 u2 u5)))]⟩ [_,_,_,_,_,_,aG (Qe o_ u0 u1 u3 u2 u5).length 2 (jZ (Xd o_ u0 u1 u3 u2 u5) (Ty o_ u0 u1 u2) 1 [(.int .i64 (afd o_ u0 u1 u3 u2 u5))]) (aam o_ u0 u1 u3 u2 u5)] {an:=[(16, .arr 0 (aam o_ u0 u1 u3 u2 u5))] } [] ⟨a1,(tL a1),a2,(tL a2),a2,(tL a2),(bL _ _ _ _ _ _ _ _ rfl (fun j hj=>(match j,hj with|0,_=>rfl|1,_=>rfl))),trivial⟩ (bM.le (st':=⟨(QT u5 u2),(acy u6 o_ u4 u0 u1 u3 u2 u5)⟩) ⟨⟨tR,tR,tR,tR,trivial⟩,(hN 4 ⟨rfl,bA ⟨cW,dO.refl _,trivial⟩,⟨rfl, .refl _,⟨rfl,oW,trivial⟩⟩⟩)⟩) ?_
       refine aO h fun⟨a1,a2⟩ h=> ?_
       refine dg tT mX ⟨[(2,(vP 1 0)),(4,(vP 3 0)),(7,(vI u5)),(10,(vI ((at' (VX o_ u0 u1 u3 u2 u5) (Ty o_ u0 u1 u2)).to_)))],(acy u6 o_ u4 u0 u1 u3 u2 u5)⟩ [_,_,_,_] {} [] ⟨a1,(tL a1),a2,(tL a2),trivial⟩ ?_
       obtain rfl:=oi h
       exact lN
      ·refine cf hb2 ?_
       refine aI (fz (abT u6 o_ u0 u1 u3 u4) []) ?_
       refine aX ?_
       obtain rfl:=oi h
       exact lB
     ·clear hy
      cases y2 with
      |brk z=>
       obtain⟨v0,rfl⟩: ∃q,q=z:=⟨_,rfl⟩
       unfold gm
       refine⟨_, .refl, ?_⟩
       refine aX ?_
       obtain rfl:=oi h
       exact nk.off (sl:=Oi) (k:=0) (c:= .exit 1) (by kernel_rfl) rfl rfl (by kernel_rfl) (zf (by kernel_rfl)) (eH.refl _)
      |ret v=>
       obtain rfl:=oi h
       unfold gm
       intro e st hn ha hR
       cases e with
       |normal=>exact absurd rfl hn
       |exit id=>simp only [qz (b:=3) ha rfl,cond_false];exact hR
       |goto l=>exact hR
       |ret=>exact hR
       |panic c=>exact hR
       |outgrown=>exact hR
    |ret v=>
     obtain rfl:=oi h
     unfold gm
     intro e st hn ha hR
     cases e with
     |normal=>exact absurd rfl hn
     |exit id=>simp only [qz (b:=3) ha rfl,cond_false];exact hR
     |goto l=>exact hR
     |ret=>exact hR
     |panic c=>exact hR
     |outgrown=>exact hR
def CG  :aH→Exit→St→Prop:=
  fun r=>bB TT [] (.iP []) [(0,some (.cells 226 [(.own 2 false r.l.length)])),(1,none),(2,some (bZ 164 2 af.cell r.l))]
section
variable (o_:aH)
abbrev LY:Ob:=(bZ 164 2 af.cell o_.l)
abbrev X0:List (Nat × Option Ob):=[(0,some (.cells 226 [(.own 1 false o_.l.length)])),(1,some (LY o_))]
end
theorem rR (x:af) (o_:aH) {r:aH} (h:iO x o_=some r):Fn Try.prog 122 [(.one (.ptr 0 0)),(.agg [(cI x.e0),(cI x.e1)])] (X0 o_) (.iP []) [(0,some (.cells 226 [(.own 2 false r.l.length)])),(1,none),(2,some (bZ 164 2 af.cell r.l))]:=by
 refine fN tT Try.func122 rfl rfl fun B=> ?_
 show bJ _ _ _ _ _ _ (CG r) _
 unfold iO at h
 refine sz tT ⟨[(0,(vP 0 0)),(3,(vD (lT [(.int .i64 x.e0),(.int .i64 x.e1)] 0)))],(X0 o_)⟩ {fr:=[(0,5)] } [5] ?_
 refine aO h fun⟨a1,a2⟩ h=> ?_
 refine di tT mX ⟨[],[(0,some (.cells 226 [(.own 7 false ((o_.l++[x]).length))])),(1,none),(7,some (bZ 164 2 af.cell (o_.l++[x])))]⟩ [[x].length=1,aG 1 2 (jD 2 [(.int .i64 x.e0),(.int .i64 x.e1)]) (aC af.cell [x]),o_.l.length=o_.l.length,_,_,(o_.l++[x]).length=o_.l.length+[x].length,aG (o_.l.length+[x].length) 2 (EM (aC af.cell o_.l) o_.l.length (aC af.cell [x])) (aC af.cell (o_.l++[x]))] {an:=[(6, .arr [x].length (aC af.cell [x])),(7, .arr (o_.l++[x]).length (aC af.cell (o_.l++[x])))],fr:=[(6,6),(7,7)] } [] ⟨(rfl),((by intro i hi j hj;match i,j,hi,hj with|0,0,_,_=>rfl|0,1,_,_=>rfl)),rfl,a1,a2,(List.length_append),(mU _ _ _ _),trivial⟩ (bM.fin (st':=⟨[],[(0,some (.cells 226 [(.own 2 false ((o_.l++[x]).length))])),(1,none),(2,some (bZ 164 2 af.cell (o_.l++[x])))]⟩) (cs:=[]) ⟨[],[(0,0),(1,1),(7,2)]⟩ [] (by kernel_rfl) trivial) ?_
 obtain rfl:=oi h
 exact bB.mk (.inl rfl) (p:=[]) (l:=[]) (by kernel_rfl) trivial (eH.refl _) ⟨rfl, .refl _,⟨rfl,trivial,⟨rfl, .refl _,trivial⟩⟩⟩
def BQ  :(af × Bool × aH)→Exit→St→Prop:=
  fun r=>bB TT [.cell 2 164, .tmp 3] (.iP [(.agg [(cI r.1.e0),(cI r.1.e1)]),(sB r.2.1)]) [(0,some (.cells 226 [(.own 2 false r.2.2.l.length)])),(1,none),(2,some (bZ 164 2 af.cell r.2.2.l))]
section
variable (o_:aH)
abbrev ab5:List (Nat × Option Ob):=[(0,some (.cells 226 [(.own 1 false o_.l.length)])),(1,some (LY o_)),(4,some (.cells 164 [(cI 0),(cI 0)]))]
abbrev aaK:List (Nat × TV):=[(2,(vD (lT [(.int .i64 0),(.int .i64 0)] 0))),(3,(vB false))]
abbrev ZB:Nat × Option Ob:=(4,some (.cells 164 [(cI ((at' o_.l 0).e0)),(cI ((at' o_.l 0).e1))]))
abbrev agJ:List (Nat × TV):=[(2,(vD (lT [(.int .i64 ((at' o_.l 0).e0)),(.int .i64 ((at' o_.l 0).e1))] 0))),(3,(vB true))]
end
theorem qU (o_:aH) {r:(af × Bool × aH)} (h:ig o_=some r):Fn Try.prog 123 [(.one (.ptr 0 0))] (X0 o_) (.iP [(.agg [(cI r.1.e0),(cI r.1.e1)]),(sB r.2.1)]) [(0,some (.cells 226 [(.own 2 false r.2.2.l.length)])),(1,none),(2,some (bZ 164 2 af.cell r.2.2.l))]:=by
 refine fN tT Try.func123 rfl rfl fun B=> ?_
 show bJ _ _ _ _ _ _ (BQ r) _
 unfold ig at h
 refine sz tT ⟨[(0,(vP 0 0)),(2,(vP 4 0))],(ab5 o_)⟩ {fr:=[(0,4)] } [] ?_
 refine aQ (sz tT ⟨[(0,(vP 0 0)),(2,(vP 4 0)),(9,(vB (decide ((o_.l.length:Int)=0))))],(ab5 o_)⟩ {} [] ?_)
 refine bI h (fun hb h=> ?_) (fun hb h=> ?_)
 ·refine ct hb ?_
  refine sz tT ⟨aaK,(X0 o_)⟩ {} [4] ?_
  refine aI (.trans (bM.Uz (E0:=226) (cs:=[(.own 1 false o_.l.length)]) (nn:=false) (len:=o_.l.length) (E:=164) (esz:=2) (n:=o_.l.length) (el:=aC af.cell o_.l) (p:=0) (q:=0) (b:=1) (b':=5) (by kernel_rfl) (by kernel_rfl) (by kernel_rfl) (by kernel_rfl)) (.trans (fz ⟨aaK,[(0,some (.cells 226 [(.own 5 false o_.l.length)])),(1,none),(5,some (LY o_))]⟩ []) (bM.fin (st':=⟨aaK,[(0,some (.cells 226 [(.own 2 false o_.l.length)])),(1,none),(2,some (LY o_))]⟩) (cs:=[]) ⟨[],[(0,0),(1,1),(5,2)]⟩ [2,3] (by kernel_rfl) trivial))) ?_
  refine aR ?_
  obtain rfl:=oi h
  exact rh [(.agg [(cI 0),(cI 0)]),(sB false)] (.refl _) ⟨rfl, .refl _,⟨rfl,trivial,⟨rfl, .refl _,trivial⟩⟩⟩
 ·refine cf hb ?_
  refine aP (aQ (aO h fun⟨a1,a2⟩ h=> ?_))
  refine di tT mX ⟨[(2,(vP 4 0))],[(0,some (.cells 226 [(.own 6 false (o_.l.length - 1))])),(1,some (LY o_)),(ZB o_),(6,some (.suf 1 1 2))]⟩ [_,_,o_.l.length=o_.l.length,_] {an:=[(11, .cells)],fr:=[(11,6)] } [] ⟨a1,(tL a1),rfl,a2,trivial⟩ (.trans (bM.YN (b:=1) (c:=6) (k:=1) (E:=164) (esz:=2) (cf:=af.cell) (l:=o_.l) (by kernel_rfl) (by kernel_rfl) (by omega)) (.trans (fz ⟨[(2,(vP 4 0))],[(0,some (.cells 226 [(.own 6 false (o_.l.length - 1))])),(1,none),(ZB o_),(6,some (.arr 164 2 (o_.l.length - 1) (aC af.cell (o_.l.drop 1))))]⟩ []) (bM.le (st':=⟨[(2,(vP 4 0))],[(0,some (.cells 226 [(.own 6 false ((o_.l.drop 1).length))])),(1,none),(ZB o_),(6,some (bZ 164 2 af.cell (o_.l.drop 1)))]⟩) ⟨⟨tR,trivial⟩,⟨rfl,bA ⟨cW,trivial⟩,(hN 2 ⟨rfl,oW,trivial⟩)⟩⟩))) ?_
  refine sz tT ⟨(agJ o_),[(0,some (.cells 226 [(.own 6 false ((o_.l.drop 1).length))])),(1,none),(6,some (bZ 164 2 af.cell (o_.l.drop 1)))]⟩ {} [4] ?_
  refine aI (bM.fin (st':=⟨(agJ o_),[(0,some (.cells 226 [(.own 2 false ((o_.l.drop 1).length))])),(1,none),(2,some (bZ 164 2 af.cell (o_.l.drop 1)))]⟩) (cs:=[]) ⟨[],[(0,0),(1,1),(6,2)]⟩ [2,3] (by kernel_rfl) trivial) ?_
  refine aR ?_
  obtain rfl:=oi h
  exact rh [(.agg [(cI ((at' o_.l 0).e0)),(cI ((at' o_.l 0).e1))]),(sB true)] (.refl _) ⟨rfl, .refl _,⟨rfl,trivial,⟨rfl, .refl _,trivial⟩⟩⟩
section
variable (u0:Int)
abbrev Vu:List (Nat × TV):=[(2,(vP 2 0)),(3,(vP 3 0)),(4,(vP 4 0))]
abbrev rA:Nat × Option Ob:=(1,some (.cells 157 [(.ptr 5 0)]))
abbrev pQ:Nat × Option Ob:=(2,some (.cells 157 [(.ptr 5 0)]))
abbrev pU:Nat × Option Ob:=(3,some (.cells 3 [(cI u0)]))
end
def ja (u0:Int):(Nat × (List Int) × Network)→Exit→St→Prop:=
  fun r=>bB TT [] (.iP []) [(0,some (.loop aJ r.1 Vu)),rA,pQ,(pU u0),(4,some (.cells 40 [(.own 6 true r.2.1.length)])),(5,some (.cells 161 [(.own 7 false r.2.2.arcs.length),(.d (aK none 1 (IU 1 (au .i64)) r.2.2.from_))])),(6,some (bZ 3 1 (au .i64) r.2.1)),(7,some (bZ 170 2 aY.cell r.2.2.arcs))]
section
variable (u2:(List Bool)) (u1:(List Int)) (u4:(List (List Int))) (q0:(List af)) (u5:Int) (u6:Int)
abbrev dV:Nat × TV:=(0,(.v (.one (.yl 0))))
abbrev CS:Nat × TV:=(3,(vO 56 true u2.length))
abbrev WB:List (Nat × TV):=[dV,(1,(vP 1 0)),(CS u2),(4,(vP 57 0)),(5,(vP 59 0))]
abbrev uR:Nat × Option Ob:=(0,some (.loop aJ 0 Vu))
abbrev JA:Nat × Option Ob:=(4,some (.cells 40 [(.own 6 true u1.length)]))
abbrev Pd:DV:=(aK none 1 (IU 1 (au .i64)) u4)
abbrev JC:Nat × Option Ob:=(6,some (BJ u1))
abbrev K9:Nat × Option Ob:=(56,some (bZ 4 1 aj u2))
abbrev SC:Nat × Option Ob:=(57,some (.cells 226 [(.own 58 false q0.length)]))
abbrev QZ:Nat × Option Ob:=(58,some (bZ 164 2 af.cell q0))
abbrev Lj:Nat × Option Ob:=(59,some (.cells 164 [(cI u5),(cI u6)]))
end
def kS (u3:Int):((List aY) × (List (List Int)) × (List Int) × (List Bool) × (List af) × Int × Int)→St:=
  fun zz=>match zz with|(u0,u4,u1,u2,q0,u5,u6)=> ⟨(WB u2),[uR,rA,pQ,(pU u3),(JA u1),(5,some (.cells 161 [(.own 7 false u0.length),(.d (Pd u4))])),(JC u1),(7,some (bZ 170 2 aY.cell u0)),(K9 u2),(SC q0),(QZ q0),(Lj u5 u6)]⟩
def kX  :Unit→St:=
  fun _=> ⟨[],[]⟩
def iI (u0:Int):(aM ((List aY) × (List (List Int)) × (List Int) × (List Bool) × (List af) × Int × Int) (Ex Unit (Nat × (List Int) × Network)))→Exit→St→Prop:=
  LQ 0 [] (kS u0) kX (ja u0)
section
variable (r_:(Nat × (List Int) × Network)) (u0:Int) (u3:Int) (u1:(List Bool)) (u2:(List af)) (u4:Int)
abbrev I5:Nat × TV:=(34,(vD (aK none 1 (au .i64) (at' r_.2.2.from_ u0.toNat))))
abbrev IJ:Nat × TV:=(35,(vI ((at' r_.2.2.from_ u0.toNat).length:Int)))
abbrev Ce:Nat × Option Ob:=(4,some (.cells 40 [(.own 6 true r_.2.1.length)]))
abbrev BO:Nat × Option Ob:=(5,some (.cells 161 [(.own 7 false r_.2.2.arcs.length),(.d (aK none 1 (IU 1 (au .i64)) r_.2.2.from_))]))
abbrev BB:Nat × Option Ob:=(6,some (bZ 3 1 (au .i64) r_.2.1))
abbrev BU:Nat × Option Ob:=(7,some (bZ 170 2 aY.cell r_.2.2.arcs))
abbrev PG:List (Nat × Option Ob):=[uR,rA,pQ,(pU u3),(Ce r_),(BO r_),(BB r_),(BU r_),(K9 u1),(SC u2),(QZ u2),(Lj u0 u4)]
end
def lS (u3:Int) (u0:Int) (u4:Int) (r_:(Nat × (List Int) × Network)):((List Bool) × (List af) × Int)→St:=
  fun zz=>match zz with|(u1,u2,u5)=> ⟨[dV,(1,(vP 1 0)),(CS u1),(4,(vP 57 0)),(5,(vP 59 0)),(I5 r_ u0),(IJ r_ u0),(36,(vI u5))],(PG r_ u0 u3 u1 u2 u4)⟩
section
variable (u0:(List Bool)) (u2:Int) (r_:(Nat × (List Int) × Network)) (u1:(List af)) (u3:Int) (u4:Int)
abbrev adn:St:=⟨(WB u0),(PG r_ u3 u2 u0 u1 u4)⟩
end
def lJ (u2:Int) (u3:Int) (u4:Int) (r_:(Nat × (List Int) × Network)):((List Bool) × (List af))→St:=
  fun zz=>match zz with|(u0,u1)=>(adn u0 u2 r_ u1 u3 u4)
def sW (u0:Int) (u1:Int) (u2:Int) (r_:(Nat × (List Int) × Network)):(aM ((List Bool) × (List af) × Int) (Ex ((List Bool) × (List af)) (aM ((List aY) × (List (List Int)) × (List Int) × (List Bool) × (List af) × Int × Int) (Ex Unit (Nat × (List Int) × Network)))))→Exit→St→Prop:=
  LQ 2 [1] (lS u0 u1 u2 r_) (lJ u0 u1 u2 r_) (iI u0)
section
variable (u1:Network) (u2:Int) (v0:(List Int)) (u9:(List aY)) (v3:(List (List Int))) (r_:(Nat × (List Int) × Network)) (u0:Int) (u3:Int) (u4:(List Bool)) (u7:(List af)) (u6:Int) (v2:aH) (u5:(af × Bool × aH)) (u8:(List Bool))
abbrev Ns:Nat × Option Ob:=(5,some (.cells 161 [(.own 7 false u1.arcs.length),(.d (Hy u1))]))
abbrev NP:Nat × Option Ob:=(7,some (bZ 170 2 aY.cell u1.arcs))
abbrev N8:=(List.replicate ((u1.from_.length:Int).toNat) (false:Bool))
abbrev agq:List (Nat × TV):=[dV,(1,(vP 1 0)),(3,(vO 56 true ((N8 u1).length)))]
abbrev YC:=(aC aj (N8 u1))
abbrev Zq:=((N8 u1).set 0 true)
abbrev Y3:=(aC aj (Zq u1))
abbrev ZQ:Nat × TV:=(3,(vO 56 true ((Zq u1).length)))
abbrev Ve:Nat × Option Ob:=(56,some (bZ 4 1 aj (Zq u1)))
abbrev aak:List (Nat × TV):=[dV,(1,(vP 1 0)),(ZQ u1),(4,(vP 57 0))]
abbrev ac8:List (Nat × Option Ob):=[uR,pQ,(pU u2),(JA v0),(5,some (.cells 161 [(.own 7 false u9.length),(.d (Pd v3))])),(JC v0),(7,some (bZ 170 2 aY.cell u9))]
abbrev afq:List (Nat × Option Ob):=[uR,pQ,(pU u2),(Ce r_),(BO r_),(BB r_),(BU r_)]
abbrev YO:Nat × Option Ob:=(0,some (.loop aJ r_.1 Vu))
abbrev WE:List (Nat × Option Ob):=[(YO r_),pQ,(pU u2),(Ce r_),(BO r_),(BB r_),(BU r_)]
abbrev TM:Nat × TV:=(7,(vI (at' (at' r_.2.2.from_ u0.toNat) u3.toNat)))
abbrev Va:=(at' r_.2.2.arcs ((at' (at' r_.2.2.from_ u0.toNat) u3.toNat).toNat))
abbrev X3:=((Va r_ u0 u3).to_)
abbrev aaf:=((Va r_ u0 u3).left)
abbrev ac6:List (Nat × Option Ob):=[uR,rA,pQ,(pU u2),(Ce r_),(BO r_),(BB r_),(BU r_),(K9 u4),(SC u7),(QZ u7),(Lj u0 u6),(99,some (.cells 170 [(cI (X3 r_ u0 u3)),(cI (aaf r_ u0 u3))]))]
abbrev PX:=(decide (0<(aaf r_ u0 u3)))
abbrev ZN:=((X3 r_ u0 u3).toNat)
abbrev abY:=(jl [(3,(PX r_ u0 u3))])
abbrev acr:Nat × TV:=(8,(vD (lT [(.int .i64 (X3 r_ u0 u3)),(.int .i64 (aaf r_ u0 u3))] 0)))
abbrev YI:=(u4.set (ZN r_ u0 u3) true)
abbrev Zx:=(aC aj (YI r_ u0 u3 u4))
abbrev aaJ:Nat × TV:=(3,(vO 56 true ((YI r_ u0 u3 u4).length)))
abbrev Z6:Nat × Option Ob:=(56,some (bZ 4 1 aj (YI r_ u0 u3 u4)))
abbrev ada:List (Nat × Option Ob):=[uR,rA,pQ,(pU u2),(Ce r_),(BO r_),(BB r_),(BU r_),(Z6 r_ u0 u3 u4),(57,some (.cells 226 [(.own 100 false v2.l.length)])),(Lj u0 u6),(100,some (LY v2))]
abbrev V7:Nat × TV:=(36,(k3 u3))
abbrev acM:List (Nat × TV):=[dV,(1,(vP 1 0)),(aaJ r_ u0 u3 u4),(4,(vP 57 0)),(5,(vP 59 0)),(I5 r_ u0),(IJ r_ u0),(V7 u3)]
abbrev X8:Nat × Option Ob:=(57,some (.cells 226 [(.own 101 false u5.2.2.l.length)]))
abbrev X9:Nat × Option Ob:=(101,some (bZ 164 2 af.cell u5.2.2.l))
abbrev Oj:Ob:=(.cells 164 [(cI u5.1.e0),(cI u5.1.e1)])
abbrev adj:List (Nat × Option Ob):=[uR,rA,pQ,(pU u2),(Ce r_),(BO r_),(BB r_),(BU r_),(K9 u8),(X8 u5),(Lj u0 u6),(X9 u5),(102,some (Oj u5))]
end
theorem kY (u2:Int) (o_:(List Int)) (u1:Network) {r:(Nat × (List Int) × Network)} (h:eU u2 o_ u1=some r):Fn Try.prog 121 [(.one (.yl 0)),(.one (.ptr 1 0))] [uR,rA,pQ,(pU u2),(JA o_),(Ns u1),(JC o_),(NP u1)] (.iP []) [(0,some (.loop aJ r.1 Vu)),rA,pQ,(pU u2),(4,some (.cells 40 [(.own 6 true r.2.1.length)])),(5,some (.cells 161 [(.own 7 false r.2.2.arcs.length),(.d (aK none 1 (IU 1 (au .i64)) r.2.2.from_))])),(6,some (bZ 3 1 (au .i64) r.2.1)),(7,some (bZ 170 2 aY.cell r.2.2.arcs))]:=by
 refine fN tT Try.func121 rfl rfl fun B=> ?_
 show bJ _ _ _ _ _ _ ((ja u2) r) _
 unfold eU at h
 refine aQ (aO h fun⟨a1,a2,a3⟩ h=> ?_)
 refine rg tT ⟨(agq u1),[uR,rA,pQ,(pU u2),(JA o_),(Ns u1),(JC o_),(NP u1),(56,some (bZ 4 1 aj (N8 u1)))]⟩ [_,((u1.from_.length:Int):Int)=(u1.from_.length:Int),_,_,(N8 u1).length=((u1.from_.length:Int).toNat),aG ((u1.from_.length:Int).toNat) 1 (fun _ j=>[(.bool false)].getD j .nilp) (YC u1)] {an:=[(5, .arr (N8 u1).length (YC u1))],fr:=[(5,56)] } [] ⟨a1,rfl,a2,a3,(List.length_replicate),(dP _ _ _ _ _ (fun j hj=>(match j,hj with|0,_=>rfl))),trivial⟩ ?_
 refine aQ (aO h fun a1 h=> ?_)
 refine ri tT ⟨(agq u1),[uR,rA,pQ,(pU u2),(JA o_),(Ns u1),(JC o_),(NP u1),(56,some (.arr 4 1 (N8 u1).length (Y3 u1)))]⟩ [_,_,aG (N8 u1).length 1 (jZ (YC u1) 0 0 [(.bool true)]) (Y3 u1)] {an:=[(2, .arr 0 (Y3 u1))] } [] ⟨a1,(tL a1),(bL _ _ _ _ _ _ _ _ rfl (fun j hj=>(match j,hj with|0,_=>rfl))),trivial⟩ (bM.le (st':=⟨[dV,(1,(vP 1 0)),(ZQ u1)],[uR,rA,pQ,(pU u2),(JA o_),(Ns u1),(JC o_),(NP u1),(Ve u1)]⟩) ⟨⟨tR,tR,⟨_,rfl,eH.v (eO.one cW)⟩,trivial⟩,(hN 8 ⟨rfl,oW,trivial⟩)⟩) ?_
 refine si tT ⟨(aak u1),[uR,rA,pQ,(pU u2),(JA o_),(Ns u1),(JC o_),(NP u1),(Ve u1),(57,some (.cells 226 [(.d nS)]))]⟩ [] {fr:=[(0,57)] } [] trivial (.trans (bM.zb (E:=0) (esz:=0) (E0:=226) (cs:=[(.d nS)]) (p:=57) (q:=0) (b:=58) (esz0:=0) (el0:=fun _ _=> .nilp) (ob:= .arr 164 2 0 (aC af.cell ([]:List af))) (fun _ _ _ _ h=> .inl ⟨h,rfl⟩) (by kernel_rfl) (by kernel_rfl) (by kernel_rfl)) (.trans (fz ⟨(aak u1),[uR,rA,pQ,(pU u2),(JA o_),(Ns u1),(JC o_),(NP u1),(Ve u1),(57,some (.cells 226 [(.own 58 false 0)])),(58,some (.arr 164 2 0 (aC af.cell ([]:List af))))]⟩ []) (bM.le (st':=⟨(aak u1),[uR,rA,pQ,(pU u2),(JA o_),(Ns u1),(JC o_),(NP u1),(Ve u1),(57,some (.cells 226 [(.own 58 false (([]:List af).length))])),(58,some (bZ 164 2 af.cell ([]:List af)))]⟩) ⟨⟨tR,tR,tR,tR,trivial⟩,(hN 9 ⟨rfl,bA ⟨cW,trivial⟩,⟨rfl,oW,trivial⟩⟩)⟩))) ?_
 refine sz tT ⟨[dV,(1,(vP 1 0)),(ZQ u1),(4,(vP 57 0)),(5,(vP 59 0))],[uR,rA,pQ,(pU u2),(JA o_),(Ns u1),(JC o_),(NP u1),(Ve u1),(57,some (.cells 226 [(.own 58 false (([]:List af).length))])),(58,some (bZ 164 2 af.cell ([]:List af))),(59,some (.cells 164 [(cI 0),(cI (-1))]))]⟩ {fr:=[(1,59)] } [] ?_
 refine bE h fun y1 hy h=> ?_
 refine aL [] (kS u2) kX (ja u2) hy (fun s f h=> ?_) ?_
 ·clear hy
  show bJ _ _ _ _ _ _ ((iI u2) f) _
  unfold fG at h
  obtain⟨u9,v3,v0,v1,q0,u0,u6⟩:=s
  refine aQ (aB (aQ (aQ (bE h fun r_ hr_ h=> ?_))))
  refine bI h (fun hb h=> ?_) (fun hb h=> ?_)
  ·skip
   refine rg tT ⟨[dV,(1,(vP 1 0)),(CS v1),(4,(vP 57 0)),(5,(vP 59 0)),(26,(vB false))],(PG r_ u0 u2 v1 q0 u6)⟩ [(0:Int)≤0∧(0:Int)<(2:Nat),(0:Int)≤1∧(1:Int)<(2:Nat),Yl Try.prog 0 [(sI u0),(sI u6)] (ac8 u2 v0 u9 v3) (vB true) (afq u2 r_)] {an:=[(5, .call [0,2,3,4,5,6,7] (vB true) (afq u2 r_))] } [] ⟨((by decide)),((by decide)),(Yl.leR (res:=(vB (Nat.beq r_.1 0))) (hout:=(WE u2 r_)) (yK [(1,2),(1,3),(1,4),(1,5),(1,6),(1,7)] (lF u0 u6 u2 v0 (⟨u9,v3⟩:Network) hr_)) (eH.of (congrArg vB hb)) ⟨rfl,Qj.of (congrArg (fun n=>some (Ob.loop aJ n Vu)) (Nat.eq_of_beq_eq_true hb)),(.refl _)⟩),trivial⟩ ?_
   refine cn (aP (aQ (aQ (aO h fun a1 h=> ?_))))
   refine dg tT mX ⟨[dV,(1,(vP 1 0)),(CS v1),(4,(vP 57 0)),(5,(vP 59 0)),(I5 r_ u0),(IJ r_ u0),(36,(vI 0))],(PG r_ u0 u2 v1 q0 u6)⟩ [(0:Int)≤0∧(0:Int)<(2:Nat),_] {} [] ⟨((by decide)),a1,trivial⟩ ?_
   refine bE h fun y hy h=> ?_
   refine aL [1] (lS u2 u0 u6 r_) (lJ u2 u0 u6 r_) (iI u2) hy (fun s f h=> ?_) ?_
   ·clear hy
    show bJ _ _ _ _ _ _ ((sW u2 u0 u6 r_) f) _
    unfold bV at h
    obtain⟨u4,u7,u3⟩:=s
    refine sz tT ⟨[dV,(1,(vP 1 0)),(CS u4),(4,(vP 57 0)),(5,(vP 59 0)),(I5 r_ u0),(IJ r_ u0),(36,(vI u3)),(37,(vB (decide (u3<((at' r_.2.2.from_ u0.toNat).length:Int)))))],(PG r_ u0 u2 u4 u7 u6)⟩ {} [] ?_
    refine aQ ?_
    refine bI h (fun hb2 h=> ?_) (fun hb2 h=> ?_)
    ·refine ct hb2 ?_
     refine aP (aQ (aB (aQ (aO h fun a1 h=> ?_))))
     refine rg tT ⟨[dV,(1,(vP 1 0)),(CS u4),(4,(vP 57 0)),(5,(vP 59 0)),(TM r_ u0 u3),(I5 r_ u0),(IJ r_ u0),(36,(vI u3))],(PG r_ u0 u2 u4 u7 u6)⟩ [_] {} [] ⟨a1,trivial⟩ ?_
     refine aQ (aO h fun a1 h=> ?_)
     refine rg tT ⟨[dV,(1,(vP 1 0)),(CS u4),(4,(vP 57 0)),(5,(vP 59 0)),(TM r_ u0 u3),(8,(vP 99 0)),(I5 r_ u0),(IJ r_ u0),(36,(vI u3))],(ac6 u2 r_ u0 u3 u4 u7 u6)⟩ [_,_] {fr:=[(7,99)] } [] ⟨a1,(tL a1),trivial⟩ ?_
     refine aQ (aO h fun a1 h=> ?_)
     refine rg tT ⟨[dV,(1,(vP 1 0)),(CS u4),(4,(vP 57 0)),(5,(vP 59 0)),(TM r_ u0 u3),(8,(vP 99 0)),(I5 r_ u0),(IJ r_ u0),(36,(vI u3)),(57,(vB (bif (PX r_ u0 u3)then(!(at' u4 (ZN r_ u0 u3)))else false)))],(ac6 u2 r_ u0 u3 u4 u7 u6)⟩ (eqs (PX r_ u0 u3) 4 ((gP (abY r_ u0 u3) [(3,true)]→All [(0:Int)≤(Va r_ u0 u3).to_∧(Va r_ u0 u3).to_<(u4.length:Int)])::((PX r_ u0 u3)=(PX r_ u0 u3))::(gP (abY r_ u0 u3) [(3,true)]→All [(X3 r_ u0 u3).toNat<u4.length])::(eqs (PX r_ u0 u3) 2 []))) {yb:=[(3,(PX r_ u0 u3))] } [] (ae ⟨(fun hg=> ⟨(a1 (aZ hg)),trivial⟩),rfl,(fun hg=> ⟨((fun hq=>tL (a1 hq)) (aZ hg)),trivial⟩),(ae trivial)⟩) ?_
     refine bI h (fun hb1 h=> ?_) (fun hb1 h=> ?_)
     ·refine ct hb1 ?_
      refine aQ (aO h fun a1 h=> ?_)
      refine ri tT ⟨[dV,(1,(vP 1 0)),(CS u4),(4,(vP 57 0)),(5,(vP 59 0)),(TM r_ u0 u3),(acr r_ u0 u3),(I5 r_ u0),(IJ r_ u0),(36,(vI u3))],[uR,rA,pQ,(pU u2),(Ce r_),(BO r_),(BB r_),(BU r_),(56,some (.arr 4 1 u4.length (Zx r_ u0 u3 u4))),(SC u7),(QZ u7),(Lj u0 u6)]⟩ [_,_,aG u4.length 1 (jZ (aC aj u4) (ZN r_ u0 u3) 0 [(.bool true)]) (Zx r_ u0 u3 u4)] {an:=[(4, .arr 0 (Zx r_ u0 u3 u4))] } [99] ⟨a1,(tL a1),(bL _ _ _ _ _ _ _ _ rfl (fun j hj=>(match j,hj with|0,_=>rfl))),trivial⟩ (bM.le (st':=⟨[dV,(1,(vP 1 0)),(aaJ r_ u0 u3 u4),(4,(vP 57 0)),(5,(vP 59 0)),(TM r_ u0 u3),(acr r_ u0 u3),(I5 r_ u0),(IJ r_ u0),(36,(vI u3))],[uR,rA,pQ,(pU u2),(Ce r_),(BO r_),(BB r_),(BU r_),(Z6 r_ u0 u3 u4),(SC u7),(QZ u7),(Lj u0 u6)]⟩) ⟨⟨tR,tR,⟨_,rfl,eH.v (eO.one cW)⟩,tR,tR,tR,tR,tR,tR,tR,trivial⟩,(hN 8 ⟨rfl,oW,(.refl _)⟩)⟩) ?_
      refine bE h fun v2 hr_1 h=> ?_
      have q0:=rk [(0,57),(1,58),(2,100)] (rR (⟨(Va r_ u0 u3).to_,(at' (at' r_.2.2.from_ u0.toNat) u3.toNat)⟩:af) (⟨u7⟩:aH) hr_1)
      refine rg tT ⟨[dV,(1,(vP 1 0)),(aaJ r_ u0 u3 u4),(4,(vP 57 0)),(5,(vP 59 0)),(I5 r_ u0),(IJ r_ u0),(36,(vI u3))],(ada u2 r_ u0 u3 u4 u6 v2)⟩ [_] {an:=[(4,cA q0 [57,58])] } [] ⟨q0,trivial⟩ ?_
      refine ri tT ⟨(acM r_ u0 u3 u4),(ada u2 r_ u0 u3 u4 u6 v2)⟩ [] {} [] trivial (bM.fin (st':=⟨(acM r_ u0 u3 u4),[uR,rA,pQ,(pU u2),(Ce r_),(BO r_),(BB r_),(BU r_),(Z6 r_ u0 u3 u4),(57,some (.cells 226 [(.own 58 false v2.l.length)])),(58,some (LY v2)),(Lj u0 u6)]⟩) (cs:=[]) ⟨[],[(0,0),(1,1),(2,2),(3,3),(4,4),(5,5),(6,6),(7,7),(56,56),(57,57),(100,58),(59,59)]⟩ [0,1,3,4,5,34,35,36] (by kernel_rfl) trivial) ?_
      obtain rfl:=oi h
      exact lN
     ·refine cf hb1 ?_
      refine aP (rz tT ⟨[dV,(1,(vP 1 0)),(CS u4),(4,(vP 57 0)),(5,(vP 59 0)),(I5 r_ u0),(IJ r_ u0),(V7 u3)],(PG r_ u0 u2 u4 u7 u6)⟩ {} [] ?_)
      obtain rfl:=oi h
      exact lN
    ·refine cf hb2 ?_
     refine aI (fz (adn u4 u2 r_ u7 u0 u6) []) ?_
     refine aX ?_
     obtain rfl:=oi h
     exact lB
   ·clear hy
    cases y with
    |brk z=>
     obtain⟨u8,v4⟩:=z
     unfold gm
     refine⟨_, .refl, ?_⟩
     refine aQ (bE h fun u5 hr_2 h=> ?_)
     have q0:=rk [(0,57),(1,58),(2,101)] (qU (⟨v4⟩:aH) hr_2)
     refine rg tT ⟨[dV,(1,(vP 1 0)),(CS u8),(4,(vP 57 0)),(5,(vP 59 0)),(9,(vP 102 0)),(10,(vB u5.2.1))],(adj u2 r_ u0 u6 u5 u8)⟩ [_] {an:=[(0,cA q0 [57,58])],fr:=[(4,102)] } [] ⟨q0,trivial⟩ ?_
     refine aQ (sz tT ⟨[dV,(1,(vP 1 0)),(CS u8),(4,(vP 57 0)),(5,(vP 59 0)),(9,(vP 102 0)),(73,(vB (!u5.2.1)))],(adj u2 r_ u0 u6 u5 u8)⟩ {} [] ?_)
     refine bI h (fun hb3 h=> ?_) (fun hb3 h=> ?_)
     ·refine ct hb3 ?_
      refine aI (fz ⟨[],[uR,rA,pQ,(pU u2),(Ce r_),(BO r_),(BB r_),(BU r_)]⟩ []) ?_
      refine aR ?_
      obtain rfl:=oi h
      exact lR dX (dZ 0) dY (bB.mk (.inr rfl) (p:=[]) (l:=[]) (by kernel_rfl) trivial (eH.refl _) (.refl _))
     ·refine cf hb3 ?_
      refine aP (rz tT ⟨(WB u8),[uR,rA,pQ,(pU u2),(Ce r_),(BO r_),(BB r_),(BU r_),(K9 u8),(X8 u5),(59,some (Oj u5)),(X9 u5)]⟩ {} [] ?_)
      refine sz tT ⟨[dV,(1,(vP 1 0)),(CS u8),(4,(vP 57 0)),(75,(.v (.agg [(cI u5.1.e0),(cI u5.1.e1)])))],[uR,rA,pQ,(pU u2),(Ce r_),(BO r_),(BB r_),(BU r_),(K9 u8),(X8 u5),(X9 u5)]⟩ {} [] ?_
      refine ri tT ⟨[dV,(1,(vP 1 0)),(CS u8),(4,(vP 57 0)),(5,(vP 103 0))],[uR,rA,pQ,(pU u2),(Ce r_),(BO r_),(BB r_),(BU r_),(K9 u8),(X8 u5),(X9 u5),(103,some (Oj u5))]⟩ [] {fr:=[(0,103)] } [] trivial (bM.fin (st':=⟨(WB u8),[uR,rA,pQ,(pU u2),(Ce r_),(BO r_),(BB r_),(BU r_),(K9 u8),(57,some (.cells 226 [(.own 58 false u5.2.2.l.length)])),(58,some (bZ 164 2 af.cell u5.2.2.l)),(59,some (Oj u5))]⟩) (cs:=[]) ⟨[],[(0,0),(1,1),(2,2),(3,3),(4,4),(5,5),(6,6),(7,7),(56,56),(57,57),(101,58),(103,59)]⟩ [0,1,3,4,5] (by kernel_rfl) trivial) ?_
      obtain rfl:=oi h
      exact lN
    |ret v=>
     obtain rfl:=oi h
     unfold gm
     intro e st hn ha hR
     cases e with
     |normal=>exact absurd rfl hn
     |exit id=>simp only [qz (b:=1) ha rfl,cond_false];exact hR
     |goto l=>exact hR
     |ret=>exact hR
     |panic c=>exact hR
     |outgrown=>exact hR
  ·skip
   refine rg tT ⟨[dV,(1,(vP 1 0)),(CS v1),(4,(vP 57 0)),(5,(vP 59 0)),(26,(vB true))],[(YO r_),rA,pQ,(pU u2),(Ce r_),(BO r_),(BB r_),(BU r_),(K9 v1),(SC q0),(QZ q0),(Lj u0 u6)]⟩ [(0:Int)≤0∧(0:Int)<(2:Nat),(0:Int)≤1∧(1:Int)<(2:Nat),Yl Try.prog 0 [(sI u0),(sI u6)] (ac8 u2 v0 u9 v3) (vB false) (WE u2 r_)] {an:=[(5, .call [0,2,3,4,5,6,7] (vB false) (WE u2 r_))] } [] ⟨((by decide)),((by decide)),(Yl.leR (res:=(vB (Nat.beq r_.1 0))) (hout:=(WE u2 r_)) (yK [(1,2),(1,3),(1,4),(1,5),(1,6),(1,7)] (lF u0 u6 u2 v0 (⟨u9,v3⟩:Network) hr_)) (eH.of (congrArg vB hb)) (.refl _)),trivial⟩ ?_
   refine ck (aI (fz ⟨[],[(YO r_),rA,pQ,(pU u2),(Ce r_),(BO r_),(BB r_),(BU r_)]⟩ []) ?_)
   refine aR ?_
   obtain rfl:=oi h
   exact lR dX (dZ 0) dY (bB.mk (.inr rfl) (p:=[]) (l:=[]) (by kernel_rfl) trivial (eH.refl _) (.refl _))
 ·clear hy
  cases y1 with
  |brk z=>exact absurd h (by simp)
  |ret v=>
   obtain rfl:=oi h
   unfold gm
   intro e st hn ha hR
   cases e with
   |normal=>exact absurd rfl hn
   |exit id=>exact hR
   |goto l=>exact hR
   |ret=>exact hR
   |panic c=>exact hR
   |outgrown=>exact hR
def jg  :Network→Exit→St→Prop:=
  fun r=>bB TT [] (.iP []) [(0,some (.cells 161 [(.own 1 false r.arcs.length),(.d (aK none 1 (IU 1 (au .i64)) r.from_))])),(1,some (bZ 170 2 aY.cell r.arcs))]
section
variable (o0:(List aY)) (o1:(List (List Int))) (u0:Int)
abbrev Xr:Nat × Option Ob:=(0,some (.cells 161 [(.own 1 false o0.length),(.d (Pd o1))]))
abbrev Nv:Nat × Option Ob:=(20,some (.cells 157 [(.ptr 0 0)]))
abbrev NS:Nat × Option Ob:=(21,some (.cells 3 [(cI u0)]))
end
def ku (u0:Int):((List aY) × (List (List Int)))→St:=
  fun zz=>match zz with|(o0,o1)=> ⟨[(2,(vP 20 0)),(3,(vP 21 0))],[(Xr o0 o1),(1,some (bZ 170 2 aY.cell o0)),Nv,(NS u0)]⟩
def kF  :Unit→St:=
  fun _=> ⟨[],[]⟩
def yP (u0:Int):(aM ((List aY) × (List (List Int))) (Ex Unit Network))→Exit→St→Prop:=
  LQ 0 [] (ku u0) kF (SQ1 jg)
section
variable (o1:(List (List Int))) (u0:(Nat × (List Int) × Network)) (u1:Int) (o0:(List aY))
abbrev PV:List (Nat × TV):=[(2,(vP 20 0)),(3,(vP 21 0)),(4,(vP 35 0))]
abbrev MR:=(List.replicate ((o1.length:Int).toNat) (0:Int))
abbrev abu:Nat × Option Ob:=(34,some (bZ 3 1 (au .i64) (MR o1)))
abbrev Zi:Nat × Option Ob:=(35,some (.cells 40 [(.own 34 true ((MR o1).length))]))
abbrev adf:List (Nat × TV):=[(2,(vP 20 0)),(3,(vP 21 0)),(4,(vP 35 0)),(18,(.v (.one (.fn 121 0 1 (Al [(.ptr 36 0)])))))]
abbrev Xw:Nat × Option Ob:=(36,some (.cells 157 [(.ptr 0 0)]))
abbrev Wt:Nat × Option Ob:=(0,some (.cells 161 [(.own 1 false u0.2.2.arcs.length),(.d (aK none 1 (IU 1 (au .i64)) u0.2.2.from_))]))
abbrev WK:Nat × Option Ob:=(1,some (bZ 170 2 aY.cell u0.2.2.arcs))
abbrev agf:List (Nat × Option Ob):=[(37,some (.loop aJ u0.1 PV)),Xw,Nv,(NS u1),(35,some (.cells 40 [(.own 34 true u0.2.1.length)])),(Wt u0),(34,some (bZ 3 1 (au .i64) u0.2.1)),(WK u0)]
abbrev adY:List (Nat × Option Ob):=[(37,some (.loop aJ 0 PV)),Xw,Nv,(NS u1),(Zi o1),(Xr o0 o1),(abu o1),(1,some (bZ 170 2 aY.cell o0))]
abbrev aem:St:=⟨adf,[(Wt u0),(WK u0),Nv,(NS u1),(34,some (bZ 3 1 (au .i64) u0.2.1)),(35,some (.cells 40 [(.own 34 true u0.2.1.length)])),Xw]⟩
end
theorem pE (u1:Int) (u2:Network) {r:Network} (h:iD u1 u2=some r):Fn Try.prog 80 [(.one (.ptr 0 0)),(sI u1)] (agx u2) (.iP []) [(0,some (.cells 161 [(.own 1 false r.arcs.length),(.d (aK none 1 (IU 1 (au .i64)) r.from_))])),(1,some (bZ 170 2 aY.cell r.arcs))]:=by
 refine fN tT Try.func80 rfl rfl fun B=> ?_
 show bJ _ _ _ _ _ _ (jg r) _
 unfold iD at h
 refine sz tT ⟨[(2,(vP 20 0)),(3,(vP 21 0))],[(XJ u2),(TF u2),Nv,(NS u1)]⟩ {fr:=[(0,20),(1,21)] } [] ?_
 refine OQ ?_
 refine aQ (SH ?_)
 refine bE h fun y hy h=> ?_
 refine aL [] (ku u1) kF (SQ1 jg) hy (fun s f h=> ?_) ?_
 ·clear hy
  show bJ _ _ _ _ _ _ ((yP u1) f) _
  unfold iK at h
  obtain⟨o0,o1⟩:=s
  refine aB (aQ (aO h fun⟨a1,a2,a3⟩ h=> ?_))
  refine rg tT ⟨PV,[(Xr o0 o1),(1,some (bZ 170 2 aY.cell o0)),Nv,(NS u1),(abu o1),(Zi o1)]⟩ [_,((o1.length:Int):Int)=(o1.length:Int),_,_,(MR o1).length=((o1.length:Int).toNat),aG ((o1.length:Int).toNat) 1 (fun _ j=>[(.int .i64 0)].getD j .nilp) (aC (au .i64) (MR o1))] {an:=[(5, .arr (MR o1).length (aC (au .i64) (MR o1)))],fr:=[(5,34),(6,35)] } [] ⟨a1,rfl,a2,a3,(List.length_replicate),(dP _ _ _ _ _ (fun j hj=>(match j,hj with|0,_=>rfl))),trivial⟩ ?_
  refine aQ (aQ (bE h fun r_ hr_ h=> ?_))
  have q0:=rk [(2,36)] (jm (⟨o0,o1⟩:Network) hr_)
  refine rg tT ⟨adf,[(Xr o0 o1),(1,some (bZ 170 2 aY.cell o0)),Nv,(NS u1),(abu o1),(Zi o1),Xw]⟩ [_] {an:=[(1,cA q0 [0,1])] } [] ⟨q0,trivial⟩ ?_
  refine aB (bE h fun u0 hr_1 h=> ?_)
  refine bI h (fun hb h=> ?_) (fun hb h=> ?_)
  ·skip
   refine jI 37 PV [.exit 1] [37,36,20,21,35,0,34,1] (.iP []) (agf u0 u1) (.v (.one (.fn 121 0 1 (Al [(.ptr 36 0)])))) 121 [] [(.ptr 36 0)] (adY o1 u1 o0) [(.one (.yl 37)),(.one (.ptr 36 0))] aJ u0.1 PV (by kernel_rfl) (by kernel_rfl) (by kernel_rfl) (by kernel_rfl) (by kernel_rfl) (by kernel_rfl) (by kernel_rfl) (rK [(0,37),(1,36),(2,20),(3,21),(4,35),(5,0),(6,34),(7,1)] (kY u1 (MR o1) (⟨o0,o1⟩:Network) hr_1)) (by kernel_rfl) rfl (CQ.zero (Nat.eq_of_beq_eq_true hb)) (bM.fin (st':=(aem u0 u1)) (cs:=[]) ⟨[],[(0,0),(1,1),(20,20),(21,21),(34,34),(35,35),(36,36)]⟩ [2,3,4,18] (by kernel_rfl) trivial) ?_
   refine aI (fz ⟨[],[(Wt u0),(WK u0)]⟩ []) ?_
   refine aR ?_
   obtain rfl:=oi h
   exact lR dX (dZ 0) dY (aaG (bB.mk (.inr rfl) (p:=[]) (l:=[]) (by kernel_rfl) trivial (eH.refl _) (.refl _)))
  ·skip
   refine aO h fun a1 h=> ?_
   refine jI 37 PV [.exit 1] [37,36,20,21,35,0,34,1] (.iP []) (agf u0 u1) (.v (.one (.fn 121 0 1 (Al [(.ptr 36 0)])))) 121 [] [(.ptr 36 0)] (adY o1 u1 o0) [(.one (.yl 37)),(.one (.ptr 36 0))] aJ u0.1 PV (by kernel_rfl) (by kernel_rfl) (by kernel_rfl) (by kernel_rfl) (by kernel_rfl) (by kernel_rfl) (by kernel_rfl) (rK [(0,37),(1,36),(2,20),(3,21),(4,35),(5,0),(6,34),(7,1)] (kY u1 (MR o1) (⟨o0,o1⟩:Network) hr_1)) (by kernel_rfl) rfl (CQ.ag7 (k:=0) (e:=(.exit 1)) a1 rfl rfl rfl) (.trans (bM.fin (st':=(aem u0 u1)) (cs:=[]) ⟨[],[(0,0),(1,1),(20,20),(21,21),(34,34),(35,35),(36,36)]⟩ [2,3,4,18] (by kernel_rfl) trivial) (bM.fin (st':=⟨[(2,(vP 20 0)),(3,(vP 21 0))],[(Wt u0),(WK u0),Nv,(NS u1)]⟩) (cs:=[]) ⟨[],[(0,0),(1,1),(20,20),(21,21)]⟩ [2,3] (by kernel_rfl) trivial)) ?_
   obtain rfl:=oi h
   exact Qn (b:=0) (av:=[]) (S:=(ku u1)) (Sb:=kF) (Qo:=(SQ1 jg)) (by kernel_rfl)
 ·clear hy
  cases y with
  |brk z=>exact absurd h (by simp)
  |ret v=>
   obtain rfl:=oi h
   unfold gm
   intro e st hn ha hR
   cases e with
   |normal=>exact absurd rfl hn
   |exit id=>exact hR
   |goto l=>exact hR
   |ret=>exact hR
   |panic c=>exact hR
   |outgrown=>exact hR
noncomputable def dN:nR:=⟨[236,237],Gs ([1,1,1,1,1,1,1,1,1,1,1,1,1,1,0,1,0]++[0]) (mY Try.f32),Gs ([1,1,1,1,1,1,1,1,1,1,1,1,1,1,0,1,0]++[1]) (mY Try.f32),252,[]⟩
section
variable (u0:ah)
abbrev S9:List (Nat × TV):=[(2,(vP 1 0)),(28,(vP 2 0))]
abbrev tX:Nat × Option Ob:=(0,some (.loop dN 0 S9))
abbrev qV:Nat × Option Ob:=(1,some (Yr u0))
end
def Bu (u0:ah):(List Bool)→Exit→St→Prop:=
  fun r=>nk 0 dN (vB true) [tX,(qV u0),(2,some (.cells 27 [(.own 3 true r.length)])),(3,some (bZ 4 1 aj r))]
section
variable (o_:(List Bool)) (u0:ah) (u1:Int)
abbrev xw:Nat × Option Ob:=(2,some (.cells 27 [(.own 3 true o_.length)]))
abbrev vJ:Nat × Option Ob:=(3,some (bZ 4 1 aj o_))
abbrev KX:List (Nat × Option Ob):=[tX,(qV u0),(xw o_),(vJ o_)]
abbrev Zg:Nat × Option Ob:=(0,some (.loop dN 1 S9))
abbrev Y8:List (Nat × Option Ob):=[Zg,(qV u0),(xw o_),(vJ o_)]
abbrev ZX:=(aC aj (o_.set ((k17 u1).toNat) true))
end
theorem Ag (u1:Int) (u2:Int) (u0:ah) (o_:(List Bool)) {r:(List Bool)} (h:jB u1 u2 u0 o_=some r):Yl Try.prog 0 [(sI u1),(sI u2)] (KX o_ u0) (vB true) [tX,(qV u0),(2,some (.cells 27 [(.own 3 true r.length)])),(3,some (bZ 4 1 aj r))]:=by
 refine EL (r:=dN) (sl:=S9) (sl1:=[(2,(vP 1 0)),(28,(vP 2 0)),(29,(vI u1))]) (h1:=(KX o_ u0)) (sl2:=S9) (by kernel_rfl) rfl rfl (by kernel_rfl) (fun rd B=> ?_) (by kernel_rfl) (fun rd B=> ?_)
 ·refine qY (c:=Gs ([1,1,1,1,1,1,1,1,1,1,1,1,1,1,0,1,0]++[0]) (mY Try.f32)) rfl ?_
  refine oo (st:=⟨[(236,(vI u1)),(237,(vI u2)),(2,(vP 1 0)),(28,(vP 2 0))],(KX o_ u0)⟩) (by kernel_rfl) ?_
  refine rz tT ⟨[(2,(vP 1 0)),(28,(vP 2 0)),(29,(vI u1))],(KX o_ u0)⟩ {} [] ?_
  exact⟨rfl,rfl⟩
 ·refine qY (c:=Gs ([1,1,1,1,1,1,1,1,1,1,1,1,1,1,0,1,0]++[1]) (mY Try.f32)) rfl ?_
  refine oo (st:=⟨[(2,(vP 1 0)),(28,(vP 2 0)),(29,(vI u1))],(Y8 o_ u0)⟩) (by kernel_rfl) ?_
  show bJ _ _ _ _ _ _ ((Bu u0) r) _
  unfold jB at h
  refine aB (sg tT ⟨[(28,(vP 2 0)),(29,(vI u1)),(245,(vB (bif (decide (0<u1))then(decide (u1≤u0.buses))else false)))],(Y8 o_ u0)⟩ (eqs (decide (0<u1)) 5 []) {yb:=[(2,(decide (0<u1)))] } [] (ae trivial) ?_)
  refine bI h (fun hb h=> ?_) (fun hb h=> ?_)
  ·refine ct hb ?_
   refine aO h fun a1 h=> ?_
   refine ri tT ⟨[],[Zg,(qV u0),(xw o_),(3,some (.arr 4 1 o_.length (ZX o_ u1)))]⟩ [_,_,aG o_.length 1 (jZ (aC aj o_) ((k17 u1).toNat) 0 [(.bool true)]) (ZX o_ u1)] {an:=[(4, .arr 0 (ZX o_ u1))] } [] ⟨a1,(tL a1),(bL _ _ _ _ _ _ _ _ rfl (fun j hj=>(match j,hj with|0,_=>rfl))),trivial⟩ (bM.le (st':=⟨[],[Zg,(qV u0),(2,some (.cells 27 [(.own 3 true ((o_.set ((k17 u1).toNat) true).length))])),(3,some (bZ 4 1 aj (o_.set ((k17 u1).toNat) true)))]⟩) ⟨trivial,(hN 2 ⟨rfl,bA ⟨cW,trivial⟩,⟨rfl,oW,trivial⟩⟩)⟩) ?_
   obtain rfl:=oi h
   exact nk.on (sl:=S9) (by kernel_rfl) (zf (by kernel_rfl)) (eH.refl _)
  ·refine cf hb ?_
   refine aI (fz ⟨[],(Y8 o_ u0)⟩ []) ?_
   refine aP ?_
   obtain rfl:=oi h
   exact nk.on (sl:=S9) (by kernel_rfl) (zf (by kernel_rfl)) (eH.refl _)
def gZ (u0:ah):(List Bool)→Exit→St→Prop:=
  fun r=>bB TT [] (.iP []) [tX,(qV u0),(2,some (.cells 27 [(.own 3 true r.length)])),(3,some (bZ 4 1 aj r))]
section
variable (x1:(List aY)) (u3:(List (List Int))) (u2:(List Bool)) (q0:(List af)) (u4:Int) (u5:Int) (u0:ah) (u1:(List Bool))
abbrev wV:Nat × TV:=(1,(vD (lT [(lT [(aK none 2 aY.cell x1),(Pd u3)] 0)] 0)))
abbrev Ef:Nat × TV:=(3,(vO 52 true u2.length))
abbrev aaj:List (Nat × TV):=[dV,(wV x1 u3),(Ef u2),(4,(vP 53 0)),(5,(vP 55 0))]
abbrev PK:Nat × Option Ob:=(52,some (bZ 4 1 aj u2))
abbrev Wn:Nat × Option Ob:=(53,some (.cells 226 [(.own 54 false q0.length)]))
abbrev Xb:Nat × Option Ob:=(54,some (bZ 164 2 af.cell q0))
abbrev OM:Nat × Option Ob:=(55,some (.cells 164 [(cI u4),(cI u5)]))
abbrev Qh:List (Nat × Option Ob):=[tX,(qV u0),(xw u1),(vJ u1),(PK u2),(Wn q0),(Xb q0),(OM u4 u5)]
abbrev abd:St:=⟨(aaj x1 u3 u2),(Qh u2 q0 u4 u5 u0 u1)⟩
end
def jS (x1:(List aY)) (u3:(List (List Int))) (u0:ah):((List Bool) × (List Bool) × (List af) × Int × Int)→St:=
  fun zz=>match zz with|(u1,u2,q0,u4,u5)=>(abd x1 u3 u2 q0 u4 u5 u0 u1)
def jJ  :Unit→St:=
  fun _=> ⟨[],[]⟩
def gK (x1:(List aY)) (u1:(List (List Int))) (u0:ah):(aM ((List Bool) × (List Bool) × (List af) × Int × Int) (Ex Unit (List Bool)))→Exit→St→Prop:=
  LQ 0 [] (jS x1 u1 u0) jJ (gZ u0)
section
variable (u1:(List (List Int))) (u2:Int)
abbrev Hu:Nat × TV:=(34,(vD (aK none 1 (au .i64) (at' u1 u2.toNat))))
abbrev Iz:Nat × TV:=(35,(vI ((at' u1 u2.toNat).length:Int)))
end
def jT (x1:(List aY)) (u1:(List (List Int))) (u0:ah) (u2:Int) (u5:Int) (r_:(List Bool)):((List Bool) × (List af) × Int)→St:=
  fun zz=>match zz with|(u3,u4,u6)=> ⟨[dV,(wV x1 u1),(Ef u3),(4,(vP 53 0)),(5,(vP 55 0)),(Hu u1 u2),(Iz u1 u2),(36,(vI u6))],(Qh u3 u4 u2 u5 u0 r_)⟩
def jU (x1:(List aY)) (u3:(List (List Int))) (u0:ah) (u4:Int) (u5:Int) (r_:(List Bool)):((List Bool) × (List af))→St:=
  fun zz=>match zz with|(u1,u2)=>(abd x1 u3 u1 u2 u4 u5 u0 r_)
def qy (x1:(List aY)) (u0:(List (List Int))) (u1:ah) (u2:Int) (u3:Int) (r_:(List Bool)):(aM ((List Bool) × (List af) × Int) (Ex ((List Bool) × (List af)) (aM ((List Bool) × (List Bool) × (List af) × Int × Int) (Ex Unit (List Bool)))))→Exit→St→Prop:=
  LQ 2 [1] (jT x1 u0 u1 u2 u3 r_) (jU x1 u0 u1 u2 u3 r_) (gK x1 u0 u1)
section
variable (u1:(List (List Int))) (x1:(List aY)) (u2:Int) (u3:Int) (u0:ah) (r_:(List Bool)) (u4:(List Bool)) (u7:(List af)) (u6:Int) (u9:aH) (u5:(af × Bool × aH)) (u8:(List Bool))
abbrev NZ:=(List.replicate ((u1.length:Int).toNat) (false:Bool))
abbrev agB:List (Nat × TV):=[dV,(wV x1 u1),(3,(vO 52 true ((NZ u1).length)))]
abbrev Ze:=(aC aj (NZ u1))
abbrev aat:=((NZ u1).set 0 true)
abbrev YV:=(aC aj (aat u1))
abbrev aa2:Nat × TV:=(3,(vO 52 true ((aat u1).length)))
abbrev Vz:Nat × Option Ob:=(52,some (bZ 4 1 aj (aat u1)))
abbrev aad:List (Nat × TV):=[dV,(wV x1 u1),(aa2 u1),(4,(vP 53 0))]
abbrev Ul:Nat × TV:=(7,(vI (at' (at' u1 u2.toNat) u3.toNat)))
abbrev PL:=(at' x1 ((at' (at' u1 u2.toNat) u3.toNat).toNat))
abbrev RO:=((PL u1 x1 u2 u3).to_)
abbrev ac2:List (Nat × Option Ob):=[tX,(qV u0),(xw r_),(vJ r_),(PK u4),(Wn u7),(Xb u7),(OM u2 u6),(95,some (.cells 170 [(cI (RO u1 x1 u2 u3)),(cI ((PL u1 x1 u2 u3).left))]))]
abbrev MF:=(decide (0<((PL u1 x1 u2 u3).left)))
abbrev adB:Nat × TV:=(8,(vD (lT [(.int .i64 (RO u1 x1 u2 u3)),(.int .i64 ((PL u1 x1 u2 u3).left))] 0)))
abbrev aaH:=(u4.set ((RO u1 x1 u2 u3).toNat) true)
abbrev aa9:=(aC aj (aaH u1 x1 u2 u3 u4))
abbrev aa6:Nat × TV:=(3,(vO 52 true ((aaH u1 x1 u2 u3 u4).length)))
abbrev YX:Nat × Option Ob:=(52,some (bZ 4 1 aj (aaH u1 x1 u2 u3 u4)))
abbrev afC:List (Nat × Option Ob):=[tX,(qV u0),(xw r_),(vJ r_),(YX u1 x1 u2 u3 u4),(53,some (.cells 226 [(.own 96 false u9.l.length)])),(OM u2 u6),(96,some (LY u9))]
abbrev ab1:List (Nat × TV):=[dV,(wV x1 u1),(aa6 u1 x1 u2 u3 u4),(4,(vP 53 0)),(5,(vP 55 0)),(Hu u1 u2),(Iz u1 u2),(V7 u3)]
abbrev Xl:Nat × Option Ob:=(53,some (.cells 226 [(.own 97 false u5.2.2.l.length)]))
abbrev Xg:Nat × Option Ob:=(97,some (bZ 164 2 af.cell u5.2.2.l))
abbrev ac4:List (Nat × Option Ob):=[tX,(qV u0),(xw r_),(vJ r_),(PK u8),(Xl u5),(OM u2 u6),(Xg u5),(98,some (Oj u5))]
end
theorem jO (x1:(List aY)) (u1:(List (List Int))) (u0:ah) (o_:(List Bool)) {r:(List Bool)} (h:bU x1 u1 u0 o_=some r):Fn Try.prog 121 [(.one (.yl 0)),(sD (lT [(lT [(aK none 2 aY.cell x1),(Pd u1)] 0)] 0))] (KX o_ u0) (.iP []) [tX,(qV u0),(2,some (.cells 27 [(.own 3 true r.length)])),(3,some (bZ 4 1 aj r))]:=by
 refine fN tT Try.func121 rfl rfl fun B=> ?_
 show bJ _ _ _ _ _ _ ((gZ u0) r) _
 unfold bU at h
 refine aQ (aO h fun⟨a1,a2,a3⟩ h=> ?_)
 refine rg tT ⟨(agB u1 x1),[tX,(qV u0),(xw o_),(vJ o_),(52,some (bZ 4 1 aj (NZ u1)))]⟩ [_,((u1.length:Int):Int)=(u1.length:Int),_,_,(NZ u1).length=((u1.length:Int).toNat),aG ((u1.length:Int).toNat) 1 (fun _ j=>[(.bool false)].getD j .nilp) (Ze u1)] {an:=[(5, .arr (NZ u1).length (Ze u1))],fr:=[(5,52)] } [] ⟨a1,rfl,a2,a3,(List.length_replicate),(dP _ _ _ _ _ (fun j hj=>(match j,hj with|0,_=>rfl))),trivial⟩ ?_
 refine aQ (aO h fun a1 h=> ?_)
 refine ri tT ⟨(agB u1 x1),[tX,(qV u0),(xw o_),(vJ o_),(52,some (.arr 4 1 (NZ u1).length (YV u1)))]⟩ [_,_,aG (NZ u1).length 1 (jZ (Ze u1) 0 0 [(.bool true)]) (YV u1)] {an:=[(2, .arr 0 (YV u1))] } [] ⟨a1,(tL a1),(bL _ _ _ _ _ _ _ _ rfl (fun j hj=>(match j,hj with|0,_=>rfl))),trivial⟩ (bM.le (st':=⟨[dV,(wV x1 u1),(aa2 u1)],[tX,(qV u0),(xw o_),(vJ o_),(Vz u1)]⟩) ⟨⟨tR,tR,⟨_,rfl,eH.v (eO.one cW)⟩,trivial⟩,(hN 4 ⟨rfl,oW,trivial⟩)⟩) ?_
 refine si tT ⟨(aad u1 x1),[tX,(qV u0),(xw o_),(vJ o_),(Vz u1),(53,some (.cells 226 [(.d nS)]))]⟩ [] {fr:=[(0,53)] } [] trivial (.trans (bM.zb (E:=0) (esz:=0) (E0:=226) (cs:=[(.d nS)]) (p:=53) (q:=0) (b:=54) (esz0:=0) (el0:=fun _ _=> .nilp) (ob:= .arr 164 2 0 (aC af.cell ([]:List af))) (fun _ _ _ _ h=> .inl ⟨h,rfl⟩) (by kernel_rfl) (by kernel_rfl) (by kernel_rfl)) (.trans (fz ⟨(aad u1 x1),[tX,(qV u0),(xw o_),(vJ o_),(Vz u1),(53,some (.cells 226 [(.own 54 false 0)])),(54,some (.arr 164 2 0 (aC af.cell ([]:List af))))]⟩ []) (bM.le (st':=⟨(aad u1 x1),[tX,(qV u0),(xw o_),(vJ o_),(Vz u1),(53,some (.cells 226 [(.own 54 false (([]:List af).length))])),(54,some (bZ 164 2 af.cell ([]:List af)))]⟩) ⟨⟨tR,tR,tR,tR,trivial⟩,(hN 5 ⟨rfl,bA ⟨cW,trivial⟩,⟨rfl,oW,trivial⟩⟩)⟩))) ?_
 refine sz tT ⟨[dV,(wV x1 u1),(aa2 u1),(4,(vP 53 0)),(5,(vP 55 0))],[tX,(qV u0),(xw o_),(vJ o_),(Vz u1),(53,some (.cells 226 [(.own 54 false (([]:List af).length))])),(54,some (bZ 164 2 af.cell ([]:List af))),(55,some (.cells 164 [(cI 0),(cI (-1))]))]⟩ {fr:=[(1,55)] } [] ?_
 refine bE h fun y1 hy h=> ?_
 refine aL [] (jS x1 u1 u0) jJ (gZ u0) hy (fun s f h=> ?_) ?_
 ·clear hy
  show bJ _ _ _ _ _ _ ((gK x1 u1 u0) f) _
  unfold dS at h
  obtain⟨v1,v0,q0,u2,u6⟩:=s
  refine aQ (aB (aQ (aQ (bE h fun r_ hr_ h=> ?_))))
  refine rg tT ⟨[dV,(wV x1 u1),(Ef v0),(4,(vP 53 0)),(5,(vP 55 0)),(26,(vB false))],(Qh v0 q0 u2 u6 u0 r_)⟩ [(0:Int)≤0∧(0:Int)<(2:Nat),(0:Int)≤1∧(1:Int)<(2:Nat),Yl Try.prog 0 [(sI u2),(sI u6)] (KX v1 u0) (vB true) (KX r_ u0)] {an:=[(5, .call [0,1,2,3] (vB true) (KX r_ u0))] } [] ⟨((by decide)),((by decide)),(Ag u2 u6 u0 v1 hr_),trivial⟩ ?_
  refine cn (aP (aQ (aQ (aO h fun a1 h=> ?_))))
  refine dg tT mX ⟨[dV,(wV x1 u1),(Ef v0),(4,(vP 53 0)),(5,(vP 55 0)),(Hu u1 u2),(Iz u1 u2),(36,(vI 0))],(Qh v0 q0 u2 u6 u0 r_)⟩ [(0:Int)≤0∧(0:Int)<(2:Nat),_] {} [] ⟨((by decide)),a1,trivial⟩ ?_
  refine bE h fun y hy h=> ?_
  refine aL [1] (jT x1 u1 u0 u2 u6 r_) (jU x1 u1 u0 u2 u6 r_) (gK x1 u1 u0) hy (fun s f h=> ?_) ?_
  ·clear hy
   show bJ _ _ _ _ _ _ ((qy x1 u1 u0 u2 u6 r_) f) _
   unfold bN at h
   obtain⟨u4,u7,u3⟩:=s
   refine sz tT ⟨[dV,(wV x1 u1),(Ef u4),(4,(vP 53 0)),(5,(vP 55 0)),(Hu u1 u2),(Iz u1 u2),(36,(vI u3)),(37,(vB (decide (u3<((at' u1 u2.toNat).length:Int)))))],(Qh u4 u7 u2 u6 u0 r_)⟩ {} [] ?_
   refine aQ ?_
   refine bI h (fun hb1 h=> ?_) (fun hb1 h=> ?_)
   ·refine ct hb1 ?_
    refine aP (aQ (aB (aQ (aO h fun a1 h=> ?_))))
    refine rg tT ⟨[dV,(wV x1 u1),(Ef u4),(4,(vP 53 0)),(5,(vP 55 0)),(Ul u1 u2 u3),(Hu u1 u2),(Iz u1 u2),(36,(vI u3))],(Qh u4 u7 u2 u6 u0 r_)⟩ [_] {} [] ⟨a1,trivial⟩ ?_
    refine aQ (aO h fun a1 h=> ?_)
    refine rg tT ⟨[dV,(wV x1 u1),(Ef u4),(4,(vP 53 0)),(5,(vP 55 0)),(Ul u1 u2 u3),(8,(vP 95 0)),(Hu u1 u2),(Iz u1 u2),(36,(vI u3))],(ac2 u1 x1 u2 u3 u0 r_ u4 u7 u6)⟩ [_] {fr:=[(7,95)] } [] ⟨a1,trivial⟩ ?_
    refine aQ (aO h fun a1 h=> ?_)
    refine rg tT ⟨[dV,(wV x1 u1),(Ef u4),(4,(vP 53 0)),(5,(vP 55 0)),(Ul u1 u2 u3),(8,(vP 95 0)),(Hu u1 u2),(Iz u1 u2),(36,(vI u3)),(57,(vB (bif (MF u1 x1 u2 u3)then(!(at' u4 ((RO u1 x1 u2 u3).toNat)))else false)))],(ac2 u1 x1 u2 u3 u0 r_ u4 u7 u6)⟩ (eqs (MF u1 x1 u2 u3) 4 ((gP (jl [(3,(MF u1 x1 u2 u3))]) [(3,true)]→All [(0:Int)≤(PL u1 x1 u2 u3).to_∧(PL u1 x1 u2 u3).to_<(u4.length:Int)])::((MF u1 x1 u2 u3)=(MF u1 x1 u2 u3))::(gP (jl [(3,(MF u1 x1 u2 u3))]) [(3,true)]→All [(RO u1 x1 u2 u3).toNat<u4.length])::(eqs (MF u1 x1 u2 u3) 2 []))) {yb:=[(3,(MF u1 x1 u2 u3))] } [] (ae ⟨(fun hg=> ⟨(a1 (aZ hg)),trivial⟩),rfl,(fun hg=> ⟨((fun hq=>tL (a1 hq)) (aZ hg)),trivial⟩),(ae trivial)⟩) ?_
    refine bI h (fun hb h=> ?_) (fun hb h=> ?_)
    ·refine ct hb ?_
     refine aQ (aO h fun a1 h=> ?_)
     refine ri tT ⟨[dV,(wV x1 u1),(Ef u4),(4,(vP 53 0)),(5,(vP 55 0)),(Ul u1 u2 u3),(adB u1 x1 u2 u3),(Hu u1 u2),(Iz u1 u2),(36,(vI u3))],[tX,(qV u0),(xw r_),(vJ r_),(52,some (.arr 4 1 u4.length (aa9 u1 x1 u2 u3 u4))),(Wn u7),(Xb u7),(OM u2 u6)]⟩ [_,_,aG u4.length 1 (jZ (aC aj u4) ((RO u1 x1 u2 u3).toNat) 0 [(.bool true)]) (aa9 u1 x1 u2 u3 u4)] {an:=[(4, .arr 0 (aa9 u1 x1 u2 u3 u4))] } [95] ⟨a1,(tL a1),(bL _ _ _ _ _ _ _ _ rfl (fun j hj=>(match j,hj with|0,_=>rfl))),trivial⟩ (bM.le (st':=⟨[dV,(wV x1 u1),(aa6 u1 x1 u2 u3 u4),(4,(vP 53 0)),(5,(vP 55 0)),(Ul u1 u2 u3),(adB u1 x1 u2 u3),(Hu u1 u2),(Iz u1 u2),(36,(vI u3))],[tX,(qV u0),(xw r_),(vJ r_),(YX u1 x1 u2 u3 u4),(Wn u7),(Xb u7),(OM u2 u6)]⟩) ⟨⟨tR,tR,⟨_,rfl,eH.v (eO.one cW)⟩,tR,tR,tR,tR,tR,tR,tR,trivial⟩,(hN 4 ⟨rfl,oW,(.refl _)⟩)⟩) ?_
     refine bE h fun u9 hr_1 h=> ?_
     have q0:=rk [(0,53),(1,54),(2,96)] (rR (⟨(PL u1 x1 u2 u3).to_,(at' (at' u1 u2.toNat) u3.toNat)⟩:af) (⟨u7⟩:aH) hr_1)
     refine rg tT ⟨[dV,(wV x1 u1),(aa6 u1 x1 u2 u3 u4),(4,(vP 53 0)),(5,(vP 55 0)),(Hu u1 u2),(Iz u1 u2),(36,(vI u3))],(afC u1 x1 u2 u3 u0 r_ u4 u6 u9)⟩ [_] {an:=[(4,cA q0 [53,54])] } [] ⟨q0,trivial⟩ ?_
     refine ri tT ⟨(ab1 u1 x1 u2 u3 u4),(afC u1 x1 u2 u3 u0 r_ u4 u6 u9)⟩ [] {} [] trivial (bM.fin (st':=⟨(ab1 u1 x1 u2 u3 u4),[tX,(qV u0),(xw r_),(vJ r_),(YX u1 x1 u2 u3 u4),(53,some (.cells 226 [(.own 54 false u9.l.length)])),(54,some (LY u9)),(OM u2 u6)]⟩) (cs:=[]) ⟨[],[(0,0),(1,1),(2,2),(3,3),(52,52),(53,53),(96,54),(55,55)]⟩ [0,1,3,4,5,34,35,36] (by kernel_rfl) trivial) ?_
     obtain rfl:=oi h
     exact lN
    ·refine cf hb ?_
     refine aP (rz tT ⟨[dV,(wV x1 u1),(Ef u4),(4,(vP 53 0)),(5,(vP 55 0)),(Hu u1 u2),(Iz u1 u2),(V7 u3)],(Qh u4 u7 u2 u6 u0 r_)⟩ {} [] ?_)
     obtain rfl:=oi h
     exact lN
   ·refine cf hb1 ?_
    refine aI (fz (abd x1 u1 u4 u7 u2 u6 u0 r_) []) ?_
    refine aX ?_
    obtain rfl:=oi h
    exact lB
  ·clear hy
   cases y with
   |brk z=>
    obtain⟨u8,v2⟩:=z
    unfold gm
    refine⟨_, .refl, ?_⟩
    refine aQ (bE h fun u5 hr_2 h=> ?_)
    have q0:=rk [(0,53),(1,54),(2,97)] (qU (⟨v2⟩:aH) hr_2)
    refine rg tT ⟨[dV,(wV x1 u1),(Ef u8),(4,(vP 53 0)),(5,(vP 55 0)),(9,(vP 98 0)),(10,(vB u5.2.1))],(ac4 u2 u0 r_ u6 u5 u8)⟩ [_] {an:=[(0,cA q0 [53,54])],fr:=[(4,98)] } [] ⟨q0,trivial⟩ ?_
    refine aQ (sz tT ⟨[dV,(wV x1 u1),(Ef u8),(4,(vP 53 0)),(5,(vP 55 0)),(9,(vP 98 0)),(73,(vB (!u5.2.1)))],(ac4 u2 u0 r_ u6 u5 u8)⟩ {} [] ?_)
    refine bI h (fun hb2 h=> ?_) (fun hb2 h=> ?_)
    ·refine ct hb2 ?_
     refine aI (fz ⟨[],(KX r_ u0)⟩ []) ?_
     refine aR ?_
     obtain rfl:=oi h
     exact lR dX (dZ 0) dY (bB.mk (.inr rfl) (p:=[]) (l:=[]) (by kernel_rfl) trivial (eH.refl _) (.refl _))
    ·refine cf hb2 ?_
     refine aP (rz tT ⟨(aaj x1 u1 u8),[tX,(qV u0),(xw r_),(vJ r_),(PK u8),(Xl u5),(55,some (Oj u5)),(Xg u5)]⟩ {} [] ?_)
     refine sz tT ⟨[dV,(wV x1 u1),(Ef u8),(4,(vP 53 0)),(75,(.v (.agg [(cI u5.1.e0),(cI u5.1.e1)])))],[tX,(qV u0),(xw r_),(vJ r_),(PK u8),(Xl u5),(Xg u5)]⟩ {} [] ?_
     refine ri tT ⟨[dV,(wV x1 u1),(Ef u8),(4,(vP 53 0)),(5,(vP 99 0))],[tX,(qV u0),(xw r_),(vJ r_),(PK u8),(Xl u5),(Xg u5),(99,some (Oj u5))]⟩ [] {fr:=[(0,99)] } [] trivial (bM.fin (st':=⟨(aaj x1 u1 u8),[tX,(qV u0),(xw r_),(vJ r_),(PK u8),(53,some (.cells 226 [(.own 54 false u5.2.2.l.length)])),(54,some (bZ 164 2 af.cell u5.2.2.l)),(55,some (Oj u5))]⟩) (cs:=[]) ⟨[],[(0,0),(1,1),(2,2),(3,3),(52,52),(53,53),(97,54),(99,55)]⟩ [0,1,3,4,5] (by kernel_rfl) trivial) ?_
     obtain rfl:=oi h
     exact lN
   |ret v=>
    obtain rfl:=oi h
    unfold gm
    intro e st hn ha hR
    cases e with
    |normal=>exact absurd rfl hn
    |exit id=>simp only [qz (b:=1) ha rfl,cond_false];exact hR
    |goto l=>exact hR
    |ret=>exact hR
    |panic c=>exact hR
    |outgrown=>exact hR
 ·clear hy
  cases y1 with
  |brk z=>exact absurd h (by simp)
  |ret v=>
   obtain rfl:=oi h
   unfold gm
   intro e st hn ha hR
   cases e with
   |normal=>exact absurd rfl hn
   |exit id=>exact hR
   |goto l=>exact hR
   |ret=>exact hR
   |panic c=>exact hR
   |outgrown=>exact hR
def iX  :(ai × (List Bool) × Int)→Exit→St→Prop:=
  fun r=>bB TT [.cell 4 77, .tmp 5, .tmp 6] (.iP [(.agg [(.d (aK none 1 (au .i64) r.1.sources)),(.d (aK none 1 (au .i64) r.1.links)),(.d (aK none 2 af.cell r.1.racks))]),(sD (aK none 1 aj r.2.1)),(sI r.2.2)]) []
section
variable (p:ah) (s_:State) (u1:Int) (n1:(List (List Int))) (n0:(List aY)) (u0:(List (Int × Int)))
abbrev mZ:Nat × TV:=(8,(vI (IntKind.wrap .i64 ((IntKind.wrap .i64 ((1:Int)+p.buses))+(p.racks.length:Int)))))
abbrev q8:Nat × TV:=(11,(.v (.one (.mp 73))))
abbrev pO:Nat × TV:=(12,(.v (.one (.mp 74))))
abbrev nI:Nat × TV:=(13,(.v (.one (.mp 75))))
abbrev Gn:Nat × TV:=(66,(vD (aK none 5 Source.cell p.sources)))
abbrev GQ:Nat × TV:=(67,(vI (p.sources.length:Int)))
abbrev ad6:List (Nat × TV):=[(2,(vP 63 0)),(lg s_),(4,(vP 65 0)),(mZ p),(9,(vP 67 0)),(10,(vP 72 0)),q8,pO,nI,(Gn p),(GQ p),(68,(vI u1))]
abbrev zi:Nat × Option Ob:=(63,some (Yr p))
abbrev bP:Nat × Option Ob:=(65,some (.cells 77 [(.d nS),(.d nS),(.d nS)]))
abbrev RG:Nat × Option Ob:=(66,some (.rows 40 1 n1.length (yH rQ n1) none))
abbrev Vm:Nat × Option Ob:=(67,some (.cells 161 [(.own 68 false n0.length),(.own 66 true n1.length)]))
abbrev KT:Nat × Option Ob:=(68,some (bZ 170 2 aY.cell n0))
abbrev Ux:=((p.sources.length:Int).toNat)
abbrev KN:=(List.replicate (Ux p) (0:Int))
abbrev VA:Nat × Option Ob:=(69,some (bZ 3 1 (au .i64) (KN p)))
abbrev LF:Nat × Option Ob:=(70,some (Zf p))
abbrev U9:=((p.racks.length:Int).toNat)
abbrev P9:=(List.replicate (U9 p) ((⟨0,0⟩:af):af))
abbrev adv:Ob:=(bZ 164 2 af.cell (P9 p))
abbrev JY:Nat × Option Ob:=(71,some (adv p))
abbrev Sz:=((P9 p).length)
abbrev Ut:Nat × Option Ob:=(72,some (.cells 77 [(.own 69 true ((KN p).length)),(.own 70 true (TA p)),(.own 71 true (Sz p))]))
abbrev WJ:Ob:=(SX 3 3 false false 1 1 (au .i64) (au .i64) u0)
abbrev Dq:Nat × Option Ob:=(73,some (WJ u0))
abbrev WG:Ob:=(SX 3 3 false false 1 1 (au .i64) (au .i64) ([]:(List (Int × Int))))
abbrev UR:Nat × Option Ob:=(74,some WG)
abbrev KR:Nat × Option Ob:=(75,some (SX 164 3 true false 2 1 af.cell (au .i64) ([]:(List (af × Int)))))
abbrev SF:List (Nat × Option Ob):=[(zi p),bP,(RG n1),(Vm n1 n0),(KT n0),(VA p),(LF p),(JY p),(Ut p),(Dq u0),UR,KR]
end
def zx (p:ah) (s_:State):((List aY) × (List (List Int)) × (List (Int × Int)) × Int)→St:=
  fun zz=>match zz with|(n0,n1,u0,u1)=> ⟨(ad6 p s_ u1),(SF p n1 n0 u0)⟩
section
variable (s_:State) (p:ah) (p1:(List Source)) (x0:(List Int)) (u0:(List (List Int))) (u1:(List aY)) (u2:(List (Int × Int)))
abbrev TU:List (Nat × TV):=[(2,(vP 63 0)),(lg s_),(4,(vP 65 0)),(mZ p),(9,(vP 67 0)),(10,(vP 72 0)),q8,pO,nI]
abbrev Nq:Nat × Option Ob:=(63,some (.cells 26 [(cI p.buses),(.d (k13 p1)),(.d (aK none 6 Link.cell p.links)),(.d (k6 p))]))
abbrev mO:Nat × Option Ob:=(69,some (BJ x0))
abbrev XH:Nat × Option Ob:=(72,some (.cells 77 [(.own 69 true x0.length),(.own 70 true (TA p)),(.own 71 true (Sz p))]))
abbrev acE:List (Nat × Option Ob):=[(Nq p p1),bP,(RG u0),(Vm u0 u1),(KT u1),(mO x0),(LF p),(JY p),(XH p x0),(Dq u2),UR,KR]
end
def zG (p:ah) (s_:State):((List Source) × (List aY) × (List (List Int)) × (List Int) × (List (Int × Int)))→St:=
  fun zz=>match zz with|(p1,u1,u0,x0,u2)=> ⟨(TU s_ p),(acE p p1 x0 u0 u1 u2)⟩
def GA (p:ah) (s_:State):(aM ((List aY) × (List (List Int)) × (List (Int × Int)) × Int) (Ex ((List Source) × (List aY) × (List (List Int)) × (List Int) × (List (Int × Int))) (ai × (List Bool) × Int)))→Exit→St→Prop:=
  LQ 0 [] (zx p s_) (zG p s_) iX
section
variable (p:ah) (s_:State) (u4:Int) (u3:(List (Int × Int))) (p1:(List Source)) (u0:(List (List Int))) (u1:(List aY)) (x0:(List Int)) (u2:(List (Int × Int)))
abbrev G8:Nat × TV:=(88,(vD (aK none 6 Link.cell p.links)))
abbrev Gj:Nat × TV:=(89,(vI (p.links.length:Int)))
abbrev aeT:List (Nat × TV):=[(2,(vP 63 0)),(lg s_),(4,(vP 65 0)),(mZ p),(9,(vP 67 0)),(10,(vP 72 0)),q8,pO,nI,(G8 p),(Gj p),(90,(vI u4))]
abbrev CR:Nat × Option Ob:=(74,some (WJ u3))
abbrev Sd:List (Nat × Option Ob):=[(Nq p p1),bP,(RG u0),(Vm u0 u1),(KT u1),(mO x0),(LF p),(JY p),(XH p x0),(Dq u2),(CR u3),KR]
end
def zL (p:ah) (s_:State) (p1:(List Source)) (x0:(List Int)) (u2:(List (Int × Int))):((List aY) × (List (List Int)) × (List (Int × Int)) × Int)→St:=
  fun zz=>match zz with|(u1,u0,u3,u4)=> ⟨(aeT p s_ u4),(Sd p u3 p1 u0 u1 x0 u2)⟩
section
variable (p:ah) (p1:(List Source)) (p2:(List Link)) (x1:(List Int)) (u0:(List (List Int))) (u1:(List aY)) (x0:(List Int)) (u2:(List (Int × Int))) (u3:(List (Int × Int)))
abbrev adq:Nat × Option Ob:=(63,some (.cells 26 [(cI p.buses),(.d (k13 p1)),(.d (aK none 6 Link.cell p2)),(.d (k6 p))]))
abbrev oD:Nat × Option Ob:=(70,some (BJ x1))
abbrev agb:List (Nat × Option Ob):=[(adq p p1 p2),bP,(RG u0),(Vm u0 u1),(KT u1),(mO x0),(oD x1),(JY p),(72,some (.cells 77 [(.own 69 true x0.length),(.own 70 true x1.length),(.own 71 true (Sz p))])),(Dq u2),(CR u3),KR]
end
def zK (p:ah) (s_:State) (p1:(List Source)) (x0:(List Int)) (u2:(List (Int × Int))):((List Link) × (List aY) × (List (List Int)) × (List Int) × (List (Int × Int)))→St:=
  fun zz=>match zz with|(p2,u1,u0,x1,u3)=> ⟨(TU s_ p),(agb p p1 p2 x1 u0 u1 x0 u2 u3)⟩
def GL (p:ah) (s_:State) (p1:(List Source)) (x0:(List Int)) (u0:(List (Int × Int))):(aM ((List aY) × (List (List Int)) × (List (Int × Int)) × Int) (Ex ((List Link) × (List aY) × (List (List Int)) × (List Int) × (List (Int × Int))) (ai × (List Bool) × Int)))→Exit→St→Prop:=
  LQ 2 [] (zL p s_ p1 x0 u0) (zK p s_ p1 x0 u0) iX
section
variable (u6:(List ay)) (s_:State) (u4:Int) (u7:Int) (u8:Int) (p:ah) (p1:(List Source)) (p2:(List Link)) (p3:(List ay)) (x2:(List af)) (x0:(List Int)) (x1:(List Int)) (u5:(List (af × Int))) (u0:(List (List Int))) (u1:(List aY)) (u2:(List (Int × Int))) (u3:(List (Int × Int)))
abbrev xI:Nat × TV:=(115,(vD (k14 u6)))
abbrev ab6:List (Nat × TV):=[(2,(vP 63 0)),(lg s_),(4,(vP 65 0)),(8,(vI u4)),(9,(vP 67 0)),(10,(vP 72 0)),q8,pO,nI,(xI u6),(116,(vI u7)),(117,(vI u8))]
abbrev eF:Nat × Option Ob:=(63,some (.cells 26 [(cI p.buses),(.d (k13 p1)),(.d (aK none 6 Link.cell p2)),(.d (k14 p3))]))
abbrev qx:Nat × Option Ob:=(71,some (bZ 164 2 af.cell x2))
abbrev qN:Nat × Option Ob:=(72,some (.cells 77 [(.own 69 true x0.length),(.own 70 true x1.length),(.own 71 true x2.length)]))
abbrev EB:Nat × Option Ob:=(75,some (SX 164 3 true false 2 1 af.cell (au .i64) u5))
abbrev TY:List (Nat × Option Ob):=[(eF p p1 p2 p3),bP,(RG u0),(Vm u0 u1),(KT u1),(mO x0),(oD x1),(qx x2),(qN x2 x0 x1),(Dq u2),(CR u3),(EB u5)]
end
def zM (p:ah) (s_:State) (p1:(List Source)) (x0:(List Int)) (u2:(List (Int × Int))) (p2:(List Link)) (x1:(List Int)) (u3:(List (Int × Int))):((List ay) × Int × (List aY) × (List (List Int)) × (List af) × (List (af × Int)) × (List ay) × Int × Int)→St:=
  fun zz=>match zz with|(p3,u4,u1,u0,x2,u5,u6,u7,u8)=> ⟨(ab6 u6 s_ u4 u7 u8),(TY p p1 p2 p3 x2 x0 x1 u5 u0 u1 u2 u3)⟩
section
variable (u6:Int) (p:ah) (p1:(List Source)) (p2:(List Link)) (u5:(List ay)) (u0:(List (List Int))) (u1:(List aY)) (x0:(List Int)) (x1:(List Int)) (u2:(List af)) (u3:(List (Int × Int))) (u4:(List (Int × Int))) (u7:(List (af × Int)))
abbrev ZE:List (Nat × TV):=[(2,(vP 63 0)),(4,(vP 65 0)),(8,(vI u6)),(9,(vP 67 0)),(10,(vP 72 0)),q8,pO,nI]
abbrev afW:St:=⟨(ZE u6),(TY p p1 p2 u5 u2 x0 x1 u7 u0 u1 u3 u4)⟩
end
def zI (p:ah) (p1:(List Source)) (x0:(List Int)) (u3:(List (Int × Int))) (p2:(List Link)) (x1:(List Int)) (u4:(List (Int × Int))):((List ay) × Int × (List aY) × (List (List Int)) × (List af) × (List (af × Int)))→St:=
  fun zz=>match zz with|(u5,u6,u1,u0,u2,u7)=>(afW u6 p p1 p2 u5 u0 u1 x0 x1 u2 u3 u4 u7)
def rE (p:ah) (s_:State) (p1:(List Source)) (x0:(List Int)) (u0:(List (Int × Int))) (p2:(List Link)) (x1:(List Int)) (u1:(List (Int × Int))):(aM ((List ay) × Int × (List aY) × (List (List Int)) × (List af) × (List (af × Int)) × (List ay) × Int × Int) (Ex ((List ay) × Int × (List aY) × (List (List Int)) × (List af) × (List (af × Int))) (ai × (List Bool) × Int)))→Exit→St→Prop:=
  LQ 4 [] (zM p s_ p1 x0 u0 p2 x1 u1) (zI p p1 x0 u0 p2 x1 u1) iX
section
variable (u1:(List ay)) (u0:Int) (s_:State) (u6:Int) (u7:Int) (u9:Int) (p:ah) (p1:(List Source)) (p2:(List Link)) (p3:(List ay)) (u2:(List (List Int))) (u3:(List aY)) (x0:(List Int)) (x1:(List Int)) (x2:(List af)) (u4:(List (Int × Int))) (u5:(List (Int × Int))) (u8:(List (af × Int)))
abbrev Zv:List DV:=[(.int .i64 ((JK u1 u0).e0)),(.int .i64 ((JK u1 u0).e1)),(.int .i64 ((at' u1 u0.toNat).power)),(.int .i64 ((at' u1 u0.toNat).paths))]
abbrev agM:TV:=(vD (lT (Zv u1 u0) 0))
abbrev Dy:Nat × TV:=(19,(agM u1 u0))
abbrev TH:List CV:=[(cI ((JK u1 u0).e0)),(cI ((JK u1 u0).e1))]
abbrev GY:Nat × TV:=(133,(.v (.agg (TH u1 u0))))
abbrev agl:List (Nat × TV):=[(2,(vP 63 0)),(lg s_),(4,(vP 65 0)),(8,(vI u6)),(9,(vP 67 0)),(10,(vP 72 0)),q8,pO,nI,(18,(vI u0)),(Dy u1 u0),(xI u1),(116,(vI u7)),(117,(vI u0)),(GY u1 u0),(134,(vI u9))]
abbrev O8:List (Nat × Option Ob):=[(eF p p1 p2 p3),bP,(RG u2),(67,some (.cells 161 [(.own 111 false u3.length),(.own 66 true u2.length)])),(mO x0),(oD x1),(qx x2),(qN x2 x0 x1),(Dq u4),(CR u5),(EB u8),(111,some (bZ 170 2 aY.cell u3))]
end
def zy (p:ah) (s_:State) (p1:(List Source)) (x0:(List Int)) (u4:(List (Int × Int))) (p2:(List Link)) (x1:(List Int)) (u5:(List (Int × Int))) (p3:(List ay)) (u6:Int) (x2:(List af)) (u1:(List ay)) (u7:Int) (u0:Int):((List aY) × (List (List Int)) × (List (af × Int)) × Int)→St:=
  fun zz=>match zz with|(u3,u2,u8,u9)=> ⟨(agl u1 u0 s_ u6 u7 u9),(O8 p p1 p2 p3 u2 u3 x0 x1 x2 u4 u5 u8)⟩
section
variable (s_:State) (u4:Int) (u5:(List ay)) (u6:Int) (u7:Int) (p:ah) (p1:(List Source)) (p2:(List Link)) (p3:(List ay)) (u0:(List (List Int))) (u1:(List aY)) (x0:(List Int)) (x1:(List Int)) (x2:(List af)) (u2:(List (Int × Int))) (u3:(List (Int × Int))) (u8:(List (af × Int)))
abbrev adt:St:=⟨(ab6 u5 s_ u4 u6 u7),(O8 p p1 p2 p3 u0 u1 x0 x1 x2 u2 u3 u8)⟩
end
def zD (p:ah) (s_:State) (p1:(List Source)) (x0:(List Int)) (u2:(List (Int × Int))) (p2:(List Link)) (x1:(List Int)) (u3:(List (Int × Int))) (p3:(List ay)) (u4:Int) (x2:(List af)) (u5:(List ay)) (u6:Int) (u7:Int):((List aY) × (List (List Int)) × (List (af × Int)))→St:=
  fun zz=>match zz with|(u1,u0,u8)=>(adt s_ u4 u5 u6 u7 p p1 p2 p3 u0 u1 x0 x1 x2 u2 u3 u8)
def GD (p:ah) (s_:State) (p1:(List Source)) (x0:(List Int)) (u0:(List (Int × Int))) (p2:(List Link)) (x1:(List Int)) (u1:(List (Int × Int))) (p3:(List ay)) (u2:Int) (x2:(List af)) (u3:(List ay)) (u4:Int) (u5:Int):(aM ((List aY) × (List (List Int)) × (List (af × Int)) × Int) (Ex ((List aY) × (List (List Int)) × (List (af × Int))) (aM ((List ay) × Int × (List aY) × (List (List Int)) × (List af) × (List (af × Int)) × (List ay) × Int × Int) (Ex ((List ay) × Int × (List aY) × (List (List Int)) × (List af) × (List (af × Int))) (ai × (List Bool) × Int)))))→Exit→St→Prop:=
  LQ 6 [5] (zy p s_ p1 x0 u0 p2 x1 u1 p3 u2 x2 u3 u4 u5) (zD p s_ p1 x0 u0 p2 x1 u1 p3 u2 x2 u3 u4 u5) (rE p s_ p1 x0 u0 p2 x1 u1)
section
variable (u0:Network) (p:ah) (p1:(List Source)) (p2:(List Link)) (u4:(List ay)) (u2:(List Int)) (x1:(List Int)) (u1:(List af)) (u3:(List (Int × Int))) (u5:(List (af × Int)))
abbrev Y6:List (Nat × TV):=[(2,(vP 63 0)),(4,(vP 65 0)),(9,(vP 67 0)),(10,(vP 72 0)),pO,nI,(162,(vP 116 0))]
abbrev yc:Nat × Option Ob:=(67,some (.cells 161 [(.own 68 false u0.arcs.length),(.d (Hy u0))]))
abbrev xN:Nat × Option Ob:=(68,some (bZ 170 2 aY.cell u0.arcs))
abbrev afo:List (Nat × Option Ob):=[(eF p p1 p2 u4),bP,(yc u0),(xN u0),(mO u2),(oD x1),(qx u1),(qN u1 u2 x1),(CR u3),(EB u5),(116,none)]
abbrev afV:St:=⟨Y6,(afo u0 p p1 p2 u4 u2 x1 u1 u3 u5)⟩
end
def GN (p:ah) (p1:(List Source)) (p2:(List Link)) (x1:(List Int)) (u3:(List (Int × Int))) (u4:(List ay)) (u1:(List af)) (u5:(List (af × Int))) (u0:Network):(List Int)→St:=
  fun u2=>(afV u0 p p1 p2 u4 u2 x1 u1 u3 u5)
section
variable (p:ah) (p1:(List Source)) (p2:(List Link)) (u4:(List ay)) (u0:Network) (u2:(List Int)) (u3:(List Int)) (u1:(List af)) (u5:(List (af × Int)))
abbrev YR:List (Nat × TV):=[(2,(vP 63 0)),(4,(vP 65 0)),(9,(vP 67 0)),(10,(vP 72 0)),nI,(182,(vP 117 0))]
abbrev afm:List (Nat × Option Ob):=[(eF p p1 p2 u4),bP,(yc u0),(xN u0),(mO u2),(oD u3),(qx u1),(qN u1 u2 u3),(EB u5),(117,none)]
abbrev agA:St:=⟨YR,(afm p p1 p2 u4 u0 u2 u3 u1 u5)⟩
end
def Hf (p:ah) (p1:(List Source)) (p2:(List Link)) (u4:(List ay)) (u1:(List af)) (u5:(List (af × Int))) (u0:Network) (u2:(List Int)):(List Int)→St:=
  fun u3=>(agA p p1 p2 u4 u0 u2 u3 u1 u5)
section
variable (p:ah) (p1:(List Source)) (p2:(List Link)) (u4:(List ay)) (u0:Network) (u1:(List Int)) (u2:(List Int)) (u3:(List af))
abbrev UI:List (Nat × TV):=[(2,(vP 63 0)),(4,(vP 65 0)),(9,(vP 67 0)),(10,(vP 72 0)),(208,(vP 118 0))]
abbrev abU:St:=⟨UI,[(eF p p1 p2 u4),bP,(yc u0),(xN u0),(mO u1),(oD u2),(qx u3),(qN u3 u1 u2),(118,none)]⟩
end
def Gl (p:ah) (p1:(List Source)) (p2:(List Link)) (u4:(List ay)) (u0:Network) (u1:(List Int)) (u2:(List Int)):(List af)→St:=
  fun u3=>(abU p p1 p2 u4 u0 u1 u2 u3)
end
end Sg
