import Derived.Test.YtpndenfhglaikaaGm
import Derived.Test.YtpndenfhglaikaaProg
set_option linter.all false
namespace Sg
open Go Go.Proofs
set_option maxRecDepth 20000
noncomputable section
noncomputable def TT:List (Nat × TI):=[(3,⟨Try.t3.desc,Try.t3.size,Try.t3.bytes,zl Try.t3,false⟩),
  (4,⟨Try.t4.desc,Try.t4.size,Try.t4.bytes,zl Try.t4,false⟩),
  (22,⟨Try.t22.desc,Try.t22.size,Try.t22.bytes,zl Try.t22,false⟩),
  (23,⟨Try.t23.desc,Try.t23.size,Try.t23.bytes,zl Try.t23,false⟩),
  (24,⟨Try.t24.desc,Try.t24.size,Try.t24.bytes,zl Try.t24,false⟩),
  (26,⟨Try.t25.desc,Try.t26.size,Try.t26.bytes,zl Try.t26,false⟩),
  (27,⟨Try.t27.desc,Try.t27.size,Try.t27.bytes,zl Try.t27,false⟩),
  (29,⟨Try.t28.desc,Try.t29.size,Try.t29.bytes,zl Try.t29,false⟩),
  (40,⟨Try.t40.desc,Try.t40.size,Try.t40.bytes,zl Try.t40,false⟩),
  (41,⟨Try.t41.desc,Try.t41.size,Try.t41.bytes,zl Try.t41,false⟩),
  (47,⟨Try.t46.desc,Try.t47.size,Try.t47.bytes,zl Try.t47,false⟩),
  (50,⟨Try.t3.desc,Try.t50.size,Try.t50.bytes,zl Try.t50,false⟩),
  (51,⟨Try.t51.desc,Try.t51.size,Try.t51.bytes,zl Try.t51,false⟩),
  (53,⟨Try.t52.desc,Try.t53.size,Try.t53.bytes,zl Try.t53,false⟩),
  (75,⟨Try.t75.desc,Try.t75.size,Try.t75.bytes,zl Try.t75,false⟩),
  (77,⟨Try.t76.desc,Try.t77.size,Try.t77.bytes,zl Try.t77,false⟩),
  (80,⟨Try.t80.desc,Try.t80.size,Try.t80.bytes,zl Try.t80,false⟩),
  (92,⟨Try.t76.desc,Try.t92.size,Try.t92.bytes,zl Try.t92,false⟩),
  (102,⟨Try.t102.desc,Try.t102.size,Try.t102.bytes,zl Try.t102,false⟩),
  (103,⟨Try.t46.desc,Try.t103.size,Try.t103.bytes,zl Try.t103,false⟩),
  (110,⟨Try.t110.desc,Try.t110.size,Try.t110.bytes,zl Try.t110,false⟩),
  (115,⟨Try.t3.desc,Try.t115.size,Try.t115.bytes,zl Try.t115,false⟩),
  (117,⟨Try.t116.desc,Try.t117.size,Try.t117.bytes,zl Try.t117,true⟩),
  (119,⟨Try.t119.desc,Try.t119.size,Try.t119.bytes,zl Try.t119,false⟩),
  (123,⟨Try.t122.desc,Try.t123.size,Try.t123.bytes,zl Try.t123,false⟩),
  (124,⟨Try.t3.desc,Try.t124.size,Try.t124.bytes,zl Try.t124,false⟩),
  (126,⟨Try.t125.desc,Try.t126.size,Try.t126.bytes,zl Try.t126,true⟩),
  (128,⟨Try.t128.desc,Try.t128.size,Try.t128.bytes,zl Try.t128,false⟩),
  (129,⟨Try.t129.desc,Try.t129.size,Try.t129.bytes,zl Try.t129,false⟩),
  (135,⟨Try.t135.desc,Try.t135.size,Try.t135.bytes,zl Try.t135,false⟩),
  (141,⟨Try.t140.desc,Try.t141.size,Try.t141.bytes,zl Try.t141,false⟩),
  (142,⟨Try.t142.desc,Try.t142.size,Try.t142.bytes,zl Try.t142,false⟩),
  (148,⟨Try.t147.desc,Try.t148.size,Try.t148.bytes,zl Try.t148,true⟩),
  (157,⟨Try.t157.desc,Try.t157.size,Try.t157.bytes,zl Try.t157,false⟩),
  (158,⟨Try.t158.desc,Try.t158.size,Try.t158.bytes,zl Try.t158,false⟩),
  (159,⟨Try.t159.desc,Try.t159.size,Try.t159.bytes,zl Try.t159,false⟩),
  (161,⟨Try.t160.desc,Try.t161.size,Try.t161.bytes,zl Try.t161,false⟩),
  (162,⟨Try.t162.desc,Try.t162.size,Try.t162.bytes,zl Try.t162,false⟩),
  (164,⟨Try.t164.desc,Try.t164.size,Try.t164.bytes,zl Try.t164,true⟩),
  (166,⟨Try.t165.desc,Try.t166.size,Try.t166.bytes,zl Try.t166,true⟩),
  (170,⟨Try.t169.desc,Try.t170.size,Try.t170.bytes,zl Try.t170,true⟩),
  (182,⟨Try.t182.desc,Try.t182.size,Try.t182.bytes,zl Try.t182,false⟩),
  (184,⟨Try.t184.desc,Try.t184.size,Try.t184.bytes,zl Try.t184,false⟩),
  (186,⟨Try.t185.desc,Try.t186.size,Try.t186.bytes,zl Try.t186,false⟩),
  (192,⟨Try.t192.desc,Try.t192.size,Try.t192.bytes,zl Try.t192,false⟩),
  (195,⟨Try.t195.desc,Try.t195.size,Try.t195.bytes,zl Try.t195,false⟩),
  (198,⟨Try.t198.desc,Try.t198.size,Try.t198.bytes,zl Try.t198,false⟩),
  (211,⟨Try.t211.desc,Try.t211.size,Try.t211.bytes,zl Try.t211,true⟩),
  (215,⟨Try.t214.desc,Try.t215.size,Try.t215.bytes,zl Try.t215,false⟩),
  (226,⟨Try.t225.desc,Try.t226.size,Try.t226.bytes,zl Try.t226,false⟩),
  (234,⟨Try.t234.desc,Try.t234.size,Try.t234.bytes,zl Try.t234,false⟩),
  (243,⟨Try.t243.desc,Try.t243.size,Try.t243.bytes,zl Try.t243,false⟩),
  (244,⟨Try.t244.desc,Try.t244.size,Try.t244.bytes,zl Try.t244,false⟩)]
theorem tT:rT Try.prog TT:=⟨iC (by kernel_rfl) (by kernel_rfl) (by kernel_rfl),⟨jr,dN (by kernel_rfl)⟩,iC (by kernel_rfl) (by kernel_rfl) (by kernel_rfl),⟨jr,dN (by kernel_rfl)⟩,iC (by kernel_rfl) (by kernel_rfl) (by kernel_rfl),⟨jr,dN (by kernel_rfl)⟩,iC (by kernel_rfl) (by kernel_rfl) (by kernel_rfl),⟨jr,dN (by kernel_rfl)⟩,iC (by kernel_rfl) (by kernel_rfl) (by kernel_rfl),⟨jr,dN (by kernel_rfl)⟩,iC (by kernel_rfl) (by kernel_rfl) (by kernel_rfl),⟨jr,dN (by kernel_rfl)⟩,iC (by kernel_rfl) (by kernel_rfl) (by kernel_rfl),⟨jr,dN (by kernel_rfl)⟩,iC (by kernel_rfl) (by kernel_rfl) (by kernel_rfl),⟨jr,dN (by kernel_rfl)⟩,iC (by kernel_rfl) (by kernel_rfl) (by kernel_rfl),⟨jr,dN (by kernel_rfl)⟩,iC (by kernel_rfl) (by kernel_rfl) (by kernel_rfl),⟨jr,dN (by kernel_rfl)⟩,iC (by kernel_rfl) (by kernel_rfl) (by kernel_rfl),⟨jr,dN (by kernel_rfl)⟩,iC (by kernel_rfl) (by kernel_rfl) (by kernel_rfl),⟨jr,dN (by kernel_rfl)⟩,iC (by kernel_rfl) (by kernel_rfl) (by kernel_rfl),⟨jr,dN (by kernel_rfl)⟩,iC (by kernel_rfl) (by kernel_rfl) (by kernel_rfl),⟨jr,dN (by kernel_rfl)⟩,iC (by kernel_rfl) (by kernel_rfl) (by kernel_rfl),⟨jr,dN (by kernel_rfl)⟩,iC (by kernel_rfl) (by kernel_rfl) (by kernel_rfl),⟨jr,dN (by kernel_rfl)⟩,iC (by kernel_rfl) (by kernel_rfl) (by kernel_rfl),⟨jr,dN (by kernel_rfl)⟩,iC (by kernel_rfl) (by kernel_rfl) (by kernel_rfl),⟨jr,dN (by kernel_rfl)⟩,iC (by kernel_rfl) (by kernel_rfl) (by kernel_rfl),⟨jr,dN (by kernel_rfl)⟩,iC (by kernel_rfl) (by kernel_rfl) (by kernel_rfl),⟨jr,dN (by kernel_rfl)⟩,iC (by kernel_rfl) (by kernel_rfl) (by kernel_rfl),⟨jr,dN (by kernel_rfl)⟩,iC (by kernel_rfl) (by kernel_rfl) (by kernel_rfl),⟨jr,dN (by kernel_rfl)⟩,iC (by kernel_rfl) (by kernel_rfl) (by kernel_rfl),⟨fun _=> ⟨by kernel_rfl,by kernel_rfl⟩,dN (by kernel_rfl)⟩,iC (by kernel_rfl) (by kernel_rfl) (by kernel_rfl),⟨jr,dN (by kernel_rfl)⟩,iC (by kernel_rfl) (by kernel_rfl) (by kernel_rfl),⟨jr,dN (by kernel_rfl)⟩,iC (by kernel_rfl) (by kernel_rfl) (by kernel_rfl),⟨jr,dN (by kernel_rfl)⟩,iC (by kernel_rfl) (by kernel_rfl) (by kernel_rfl),⟨fun _=> ⟨by kernel_rfl,by kernel_rfl⟩,dN (by kernel_rfl)⟩,iC (by kernel_rfl) (by kernel_rfl) (by kernel_rfl),⟨jr,dN (by kernel_rfl)⟩,iC (by kernel_rfl) (by kernel_rfl) (by kernel_rfl),⟨jr,dN (by kernel_rfl)⟩,iC (by kernel_rfl) (by kernel_rfl) (by kernel_rfl),⟨jr,dN (by kernel_rfl)⟩,iC (by kernel_rfl) (by kernel_rfl) (by kernel_rfl),⟨jr,dN (by kernel_rfl)⟩,iC (by kernel_rfl) (by kernel_rfl) (by kernel_rfl),⟨jr,dN (by kernel_rfl)⟩,iC (by kernel_rfl) (by kernel_rfl) (by kernel_rfl),⟨fun _=> ⟨by kernel_rfl,by kernel_rfl⟩,dN (by kernel_rfl)⟩,iC (by kernel_rfl) (by kernel_rfl) (by kernel_rfl),⟨jr,dN (by kernel_rfl)⟩,iC (by kernel_rfl) (by kernel_rfl) (by kernel_rfl),⟨jr,dN (by kernel_rfl)⟩,iC (by kernel_rfl) (by kernel_rfl) (by kernel_rfl),⟨jr,dN (by kernel_rfl)⟩,iC (by kernel_rfl) (by kernel_rfl) (by kernel_rfl),⟨jr,dN (by kernel_rfl)⟩,iC (by kernel_rfl) (by kernel_rfl) (by kernel_rfl),⟨jr,dN (by kernel_rfl)⟩,iC (by kernel_rfl) (by kernel_rfl) (by kernel_rfl),⟨fun _=> ⟨by kernel_rfl,by kernel_rfl⟩,dN (by kernel_rfl)⟩,iC (by kernel_rfl) (by kernel_rfl) (by kernel_rfl),⟨fun _=> ⟨by kernel_rfl,by kernel_rfl⟩,dN (by kernel_rfl)⟩,iC (by kernel_rfl) (by kernel_rfl) (by kernel_rfl),⟨fun _=> ⟨by kernel_rfl,by kernel_rfl⟩,dN (by kernel_rfl)⟩,iC (by kernel_rfl) (by kernel_rfl) (by kernel_rfl),⟨jr,dN (by kernel_rfl)⟩,iC (by kernel_rfl) (by kernel_rfl) (by kernel_rfl),⟨jr,dN (by kernel_rfl)⟩,iC (by kernel_rfl) (by kernel_rfl) (by kernel_rfl),⟨jr,dN (by kernel_rfl)⟩,iC (by kernel_rfl) (by kernel_rfl) (by kernel_rfl),⟨jr,dN (by kernel_rfl)⟩,iC (by kernel_rfl) (by kernel_rfl) (by kernel_rfl),⟨jr,dN (by kernel_rfl)⟩,iC (by kernel_rfl) (by kernel_rfl) (by kernel_rfl),⟨jr,dN (by kernel_rfl)⟩,iC (by kernel_rfl) (by kernel_rfl) (by kernel_rfl),⟨fun _=> ⟨by kernel_rfl,by kernel_rfl⟩,dN (by kernel_rfl)⟩,iC (by kernel_rfl) (by kernel_rfl) (by kernel_rfl),⟨jr,dN (by kernel_rfl)⟩,iC (by kernel_rfl) (by kernel_rfl) (by kernel_rfl),⟨jr,dN (by kernel_rfl)⟩,iC (by kernel_rfl) (by kernel_rfl) (by kernel_rfl),⟨jr,dN (by kernel_rfl)⟩,iC (by kernel_rfl) (by kernel_rfl) (by kernel_rfl),⟨jr,dN (by kernel_rfl)⟩,iC (by kernel_rfl) (by kernel_rfl) (by kernel_rfl),⟨jr,dN (by kernel_rfl)⟩,trivial⟩
theorem mX:Try.prog.follows .mixedOrders=true:=by kernel_rfl
def oV  :Bool→Exit→St→Prop:=
  fun r=>bR TT [.tmp 4] (vB r) []
section
variable (a:(List Bool)) (b:(List Bool))
abbrev k0:Nat × TV:=(0,(vD (bg none 1 aD a)))
abbrev k1:Nat × TV:=(1,(vD (bg none 1 aD b)))
end
def uI (a:(List Bool)) (b:(List Bool)):Int→St:=
  fun i=> ⟨[(k0 a),(k1 b),(5,(vI i))],[]⟩
def uR  :Unit→St:=
  fun _=> ⟨[],[]⟩
def DW (a:(List Bool)) (b:(List Bool)):(bn Int (Ex Unit Bool))→Exit→St→Prop:=
  LQ 0 [] (uI a b) uR oV
section
variable (i:Int)
abbrev k3:TV:=(vI (IntKind.wrap .i64 (i+1)))
abbrev k2:Nat × TV:=(5,(k3 i))
end
theorem nZ (a:(List Bool)) (b:(List Bool)) {r:Bool} (h:nJ a b=some r):Fn Try.prog 42 [(sD (bg none 1 aD a)),(sD (bg none 1 aD b))] [] (vB r) []:=by
 refine fN tT Try.func42 rfl rfl fun B=> ?_
 show bW _ _ _ _ _ _ (oV r) _
 unfold nJ at h
 refine sz tT ⟨[(k0 a),(k1 b)],[]⟩ {} [] ?_
 refine aQ (sz tT ⟨[(k0 a),(k1 b),(10,(vB (!decide ((a.length:Int)=(b.length:Int)))))],[]⟩ {} [] ?_)
 refine bI h (fun hb2 h=> ?_) (fun hb2 h=> ?_)
 ·refine ct hb2 ?_
  refine sz tT ⟨[(4,(vB false))],[]⟩ {} [] ?_
  refine aR ?_
  obtain rfl:=oi h
  exact rl [(sB false)]
 ·refine cf hb2 ?_
  refine aP (aQ (sz tT ⟨[(k0 a),(k1 b),(5,(vI 0))],[]⟩ {} [] ?_))
  refine bE h fun y hy h=> ?_
  refine aL [] (uI a b) uR oV hy (fun s f h=> ?_) ?_
  ·clear hy
   show bW _ _ _ _ _ _ ((DW a b) f) _
   unfold uN at h
   obtain⟨i,rfl⟩: ∃q,q=s:=⟨_,rfl⟩
   refine aQ (sz tT ⟨[(k0 a),(k1 b),(5,(vI i)),(14,(vB (decide (i<(a.length:Int)))))],[]⟩ {} [] ?_)
   refine bI h (fun hb1 h=> ?_) (fun hb1 h=> ?_)
   ·refine ct hb1 ?_
    refine aP (aQ (aB (aQ (aO h fun⟨a1,a2⟩ h=> ?_))))
    refine dg tT mX ⟨[(k0 a),(k1 b),(5,(vI i)),(25,(vB (!((at' a i.toNat)==(at' b i.toNat)))))],[]⟩ [_,_] {} [] ⟨a1,a2,trivial⟩ ?_
    refine bI h (fun hb h=> ?_) (fun hb h=> ?_)
    ·refine ct hb ?_
     refine sz tT ⟨[(4,(vB false))],[]⟩ {} [] ?_
     refine aR ?_
     obtain rfl:=oi h
     exact lR dP (dQ 0) dO (bR.mk (.inr rfl) (p:=[]) (l:=[(sB false)]) (by kernel_rfl) trivial (dY.refl _) trivial)
    ·refine cf hb ?_
     refine aP (rz tT ⟨[(k0 a),(k1 b),(k2 i)],[]⟩ {} [] ?_)
     obtain rfl:=oi h
     exact lN
   ·refine cf hb1 ?_
    refine aI (fz ⟨[],[]⟩ []) ?_
    refine aX ?_
    obtain rfl:=oi h
    exact lB
  ·clear hy
   cases y with
   |brk z=>
    unfold fT
    refine⟨_, .refl, ?_⟩
    refine sz tT ⟨[(4,(vB true))],[]⟩ {} [] ?_
    refine aR ?_
    obtain rfl:=oi h
    exact rl [(sB true)]
   |ret v=>
    obtain rfl:=oi h
    unfold fT
    intro e st hn ha hR
    cases e with
    |normal=>exact absurd rfl hn
    |exit id=>exact hR
    |goto l=>exact hR
    |ret=>exact hR
    |panic c=>exact hR
    |outgrown=>exact hR
def HV  :Bool→Exit→St→Prop:=
  fun r=>bR TT [.tmp 6] (vB r) []
theorem bP (n:Int) (u0:Int) (u1:Int) {r:Bool} (h:bQ n u0 u1=some r):Fn Try.prog 94 [(sI n),(sI u0),(sI u1)] [] (vB r) []:=by
 refine fN tT Try.func94 rfl rfl fun B=> ?_
 show bW _ _ _ _ _ _ (HV r) _
 unfold bQ at h
 refine sz tT ⟨[(0,(vI n)),(1,(vI u0)),(2,(vI u1))],[]⟩ {} [] ?_
 refine sg tT ⟨[(6,(vB (bif (decide (u0≤n))then(decide (n≤u1))else false)))],[]⟩ (eqs (decide (u0≤n)) 4 []) {yb:=[(3,(decide (u0≤n)))] } [] (ae trivial) ?_
 refine aR ?_
 obtain rfl:=oi h
 exact rl [(sB (bif (decide (u0≤n))then(decide (n≤u1))else false))]
def Hy  :(Int × (List aj) × (List aM) × (List aK))→Exit→St→Prop:=
  fun r=>bR TT [.tmp 2] (vD (.fn 135 1 (mM [(kK [(.int .i64 r.1),(bg none 5 aj.cell r.2.1),(bg none 6 aM.cell r.2.2.1),(bg none 4 aK.cell r.2.2.2)] 0)]))) []
section
variable (p:au)
abbrev k6:DV:=(bg none 4 aK.cell p.aF)
abbrev k5:List CV:=[(cI p.ax),(.d (bg none 5 aj.cell p.ai)),(.d (bg none 6 aM.cell p.af)),(.d (k6 p))]
abbrev k4:List SV:=[(.agg (k5 p))]
abbrev k10:DV:=(kK [(.int .i64 p.ax),(bg none 5 aj.cell p.ai),(bg none 6 aM.cell p.af),(k6 p)] 0)
abbrev k9:TV:=(vD (k10 p))
abbrev k8:Nat × TV:=(1,(k9 p))
abbrev k7:St:=⟨[(k8 p)],[]⟩
abbrev k11:=(mM [(k10 p)])
end
theorem Gd (p:au) {r:(Int × (List aj) × (List aM) × (List aK))} (h:qo p=some r):Fn Try.prog 96 (k4 p) [] (vD (.fn 135 1 (mM [(kK [(.int .i64 r.1),(bg none 5 aj.cell r.2.1),(bg none 6 aM.cell r.2.2.1),(bg none 4 aK.cell r.2.2.2)] 0)]))) []:=by
 refine fN tT Try.func96 rfl rfl fun B=> ?_
 show bW _ _ _ _ _ _ (Hy r) _
 unfold qo at h
 refine sz tT (k7 p) {fr:=[(0,1)] } [1] ?_
 refine sz tT ⟨[(2,(vD (.fn 135 1 (k11 p))))],[]⟩ {} [] ?_
 refine aR ?_
 obtain rfl:=oi h
 exact rl [(sD (.fn 135 1 (k11 p)))]
def KG  :(Int × (List aj) × (List aM) × (List aK))→Exit→St→Prop:=
  fun r=>bR TT [.tmp 2] (vD (.fn 138 1 (mM [(kK [(.int .i64 r.1),(bg none 5 aj.cell r.2.1),(bg none 6 aM.cell r.2.2.1),(bg none 4 aK.cell r.2.2.2)] 0)]))) []
theorem Ju (p:au) {r:(Int × (List aj) × (List aM) × (List aK))} (h:uZ p=some r):Fn Try.prog 98 (k4 p) [] (vD (.fn 138 1 (mM [(kK [(.int .i64 r.1),(bg none 5 aj.cell r.2.1),(bg none 6 aM.cell r.2.2.1),(bg none 4 aK.cell r.2.2.2)] 0)]))) []:=by
 refine fN tT Try.func98 rfl rfl fun B=> ?_
 show bW _ _ _ _ _ _ (KG r) _
 unfold uZ at h
 refine sz tT (k7 p) {fr:=[(0,1)] } [1] ?_
 refine sz tT ⟨[(2,(vD (.fn 138 1 (k11 p))))],[]⟩ {} [] ?_
 refine aR ?_
 obtain rfl:=oi h
 exact rl [(sD (.fn 138 1 (k11 p)))]
def Le  :(Int × (List aj) × (List aM) × (List aK))→Exit→St→Prop:=
  fun r=>bR TT [.tmp 2] (vD (.fn 141 1 (mM [(kK [(.int .i64 r.1),(bg none 5 aj.cell r.2.1),(bg none 6 aM.cell r.2.2.1),(bg none 4 aK.cell r.2.2.2)] 0)]))) []
theorem Ji (p:au) {r:(Int × (List aj) × (List aM) × (List aK))} (h:vk p=some r):Fn Try.prog 100 (k4 p) [] (vD (.fn 141 1 (mM [(kK [(.int .i64 r.1),(bg none 5 aj.cell r.2.1),(bg none 6 aM.cell r.2.2.1),(bg none 4 aK.cell r.2.2.2)] 0)]))) []:=by
 refine fN tT Try.func100 rfl rfl fun B=> ?_
 show bW _ _ _ _ _ _ (Le r) _
 unfold vk at h
 refine sz tT (k7 p) {fr:=[(0,1)] } [1] ?_
 refine sz tT ⟨[(2,(vD (.fn 141 1 (k11 p))))],[]⟩ {} [] ?_
 refine aR ?_
 obtain rfl:=oi h
 exact rl [(sD (.fn 141 1 (k11 p)))]
def Fa  :Bool→Exit→St→Prop:=
  fun r=>bR TT [.tmp 3] (vB r) []
section
variable (u4:(List aj)) (u6:(List aK)) (x1:Int) (u5:(List aM)) (x:aj) (r_:Bool) (u0:Bool) (u1:Bool) (u2:Bool)
abbrev k13:DV:=(bg none 5 aj.cell u4)
abbrev k14:DV:=(bg none 4 aK.cell u6)
abbrev k12:DV:=(kK [(.int .i64 x1),(k13 u4),(bg none 6 aM.cell u5),(k14 u6)] 0)
abbrev k15:Nat × TV:=(1,(vD (k12 u4 u6 x1 u5)))
abbrev k16:Nat × TV:=(2,(vD (kK [(.int .i64 x.bus),(.int .i64 x.kind),(.int .i64 x.cK),(.int .i64 x.sync),(.int .i64 x.bU)] 0)))
abbrev k17:=(IntKind.wrap .i64 (x1 - 1))
abbrev k20:=(bif r_ then u0 else false)
abbrev k19:=(bif (k20 r_ u0)then u1 else false)
abbrev k18:=(bif (k19 r_ u0 u1)then u2 else false)
abbrev k21:=(jq [(6,r_),(11,(k20 r_ u0)),(16,(k19 r_ u0 u1)),(21,(k18 r_ u0 u1 u2))])
end
theorem Ea (x:aj) (x1:Int) (u4:(List aj)) (u5:(List aM)) (u6:(List aK)) {r:Bool} (h:jQ x x1 u4 u5 u6=some r):Fn Try.prog 135 [(.agg [(cI x.bus),(cI x.kind),(cI x.cK),(cI x.sync),(cI x.bU)]),(sD (k12 u4 u6 x1 u5))] [] (vB r) []:=by
 refine fN tT Try.func135 rfl rfl fun B=> ?_
 show bW _ _ _ _ _ _ (Fa r) _
 unfold jQ at h
 refine sz tT ⟨[(k15 u4 u6 x1 u5),(k16 x)],[]⟩ {fr:=[(0,1)] } [1] ?_
 refine aQ (bE h fun r_ hr_ h=> ?_)
 refine bE h fun u0 hr_1 h=> ?_
 refine bE h fun u1 hr_2 h=> ?_
 refine bE h fun u2 hr_3 h=> ?_
 refine bE h fun u3 hr_4 h=> ?_
 have q0:=bP x.bus 0 (k17 x1) hr_
 refine rg tT ⟨[(3,(vB (bif (k18 r_ u0 u1 u2)then u3 else false)))],[]⟩ (_::(eqs r_ 3 ((gP (k21 r_ u0 u1 u2) [(6,true)]→All [Fn Try.prog 94 [(sI x.kind),(sI 1),(sI 3)] [] (vB u0) []])::(r_=r_)::(eqs (k20 r_ u0) 3 ((gP (k21 r_ u0 u1 u2) [(11,true)]→All [Fn Try.prog 94 [(sI x.cK),(sI 1),(sI 100000)] [] (vB u1) []])::((k20 r_ u0)=(k20 r_ u0))::(eqs (k19 r_ u0 u1) 3 ((gP (k21 r_ u0 u1 u2) [(16,true)]→All [Fn Try.prog 94 [(sI x.sync),(sI 0),(sI 8)] [] (vB u2) []])::((k19 r_ u0 u1)=(k19 r_ u0 u1))::(eqs (k18 r_ u0 u1 u2) 3 [gP (k21 r_ u0 u1 u2) [(21,true)]→All [Fn Try.prog 94 [(sI x.bU),(sI 10),(sI 100000)] [] (vB u3) []],(k18 r_ u0 u1 u2)=(k18 r_ u0 u1 u2)])))))))) {yb:=[(6,r_),(11,(k20 r_ u0)),(16,(k19 r_ u0 u1)),(21,(k18 r_ u0 u1 u2))],an:=[(5,cA q0 []),(9, .call [] (vB u0) []),(14, .call [] (vB u1) []),(19, .call [] (vB u2) []),(24, .call [] (vB u3) [])] } [] ⟨q0,(ae ⟨(fun hg=> ⟨(bP x.kind 1 3 (iw hr_1 (bD hg))),trivial⟩),rfl,(ae ⟨(fun hg=> ⟨(bP x.cK 1 100000 (iw hr_2 (bD hg))),trivial⟩),rfl,(ae ⟨(fun hg=> ⟨(bP x.sync 0 8 (iw hr_3 (bD hg))),trivial⟩),rfl,(ae ⟨(fun hg=> ⟨(bP x.bU 10 100000 (iw hr_4 (bD hg))),trivial⟩),rfl,trivial⟩)⟩)⟩)⟩)⟩ ?_
 refine aR ?_
 obtain rfl:=oi h
 exact rl [(sB (bif (k18 r_ u0 u1 u2)then u3 else false))]
def He  :Bool→Exit→St→Prop:=
  fun r=>bR TT [.tmp 3] (vB r) []
section
variable (x1:Int) (u0:(List aj)) (u1:(List aM)) (u2:(List aK))
abbrev k23:=(mM [(k12 u0 u2 x1 u1)])
abbrev k22:DV:=(kK [(.fn 135 1 (k23 x1 u0 u1 u2))] 0)
abbrev k24:TV:=(vD (k22 x1 u0 u1 u2))
end
theorem F7 (x:aj) (x1:Int) (u0:(List aj)) (u1:(List aM)) (u2:(List aK)) {r:Bool} (h:qj x x1 u0 u1 u2=some r):Fn Try.prog 134 [(.agg [(cI x.bus),(cI x.kind),(cI x.cK),(cI x.sync),(cI x.bU)]),(sD (k22 x1 u0 u1 u2))] [] (vB r) []:=by
 refine fN tT Try.func134 rfl rfl fun B=> ?_
 show bW _ _ _ _ _ _ (He r) _
 unfold qj at h
 refine sz tT ⟨[(1,(k24 x1 u0 u1 u2)),(k16 x)],[]⟩ {fr:=[(0,1)] } [1] ?_
 refine aQ (bE h fun r_ hr_ h=> ?_)
 have q0:=Ea x x1 u0 u1 u2 hr_
 refine rg tT ⟨[(3,(vB (!r_)))],[]⟩ [_] {an:=[(2,cA q0 [])] } [] ⟨q0,trivial⟩ ?_
 refine aR ?_
 obtain rfl:=oi h
 exact rl [(sB (!r_))]
def mQ  :Int→Exit→St→Prop:=
  fun r=>bR TT [.tmp 4] (vI r) []
section
variable (s_:(List aj)) (f_:Int) (u0:(List aj)) (u1:(List aM)) (u2:(List aK))
abbrev k25:Nat × TV:=(0,(vD (k13 s_)))
abbrev k27:=(mM [(k22 f_ u0 u1 u2)])
abbrev k26:Nat × TV:=(1,(vD (.fn 134 1 (k27 f_ u0 u1 u2))))
abbrev k28:Nat × TV:=(7,(vI (s_.length:Int)))
end
def qV (s_:(List aj)) (f_:Int) (u0:(List aj)) (u1:(List aM)) (u2:(List aK)):Int→St:=
  fun t8=> ⟨[(k25 s_),(k26 f_ u0 u1 u2),(k28 s_),(8,(vI t8))],[]⟩
def qU  :Unit→St:=
  fun _=> ⟨[],[]⟩
def BM (s_:(List aj)) (f_:Int) (u0:(List aj)) (u1:(List aM)) (u2:(List aK)):(bn Int (Ex Unit Int))→Exit→St→Prop:=
  LQ 0 [] (qV s_ f_ u0 u1 u2) qU mQ
section
variable (s_:(List aj)) (f_:Int) (u0:(List aj)) (u1:(List aM)) (u2:(List aK)) (t8:Int)
abbrev k29:List SV:=[(sD (k13 s_)),(sD (.fn 134 1 (k27 f_ u0 u1 u2)))]
abbrev k30:St:=⟨[(k25 s_),(k26 f_ u0 u1 u2)],[]⟩
abbrev ZO:Nat × TV:=(8,(k3 t8))
end
theorem BG (s_:(List aj)) (f_:Int) (u0:(List aj)) (u1:(List aM)) (u2:(List aK)) {r:Int} (h:kX s_ f_ u0 u1 u2=some r):Fn Try.prog 150 (k29 s_ f_ u0 u1 u2) [] (vI r) []:=by
 refine fN tT Try.func150 rfl rfl fun B=> ?_
 show bW _ _ _ _ _ _ (mQ r) _
 unfold kX at h
 refine sz tT (k30 s_ f_ u0 u1 u2) {} [] ?_
 refine aQ (sz tT ⟨[(k25 s_),(k26 f_ u0 u1 u2),(k28 s_),(8,(vI 0))],[]⟩ {} [] ?_)
 refine bE h fun y hy h=> ?_
 refine aL [] (qV s_ f_ u0 u1 u2) qU mQ hy (fun s f h=> ?_) ?_
 ·clear hy
  show bW _ _ _ _ _ _ ((BM s_ f_ u0 u1 u2) f) _
  unfold jk at h
  obtain⟨t8,rfl⟩: ∃q,q=s:=⟨_,rfl⟩
  refine sz tT ⟨[(k25 s_),(k26 f_ u0 u1 u2),(k28 s_),(8,(vI t8)),(9,(vB (decide (t8<(s_.length:Int)))))],[]⟩ {} [] ?_
  refine aQ ?_
  refine bI h (fun hb1 h=> ?_) (fun hb1 h=> ?_)
  ·refine ct hb1 ?_
   refine aP (aQ (aB (sz tT ⟨[(k25 s_),(k26 f_ u0 u1 u2),(5,(vI t8)),(k28 s_),(8,(vI t8))],[]⟩ {} [] ?_)))
   refine aQ (bE h fun r_ hr_ h=> ?_)
   refine aO h fun a1 h=> ?_
   have q1:=F7 (at' s_ t8.toNat) f_ u0 u1 u2 hr_
   refine rg tT ⟨[(k25 s_),(k26 f_ u0 u1 u2),(5,(vI t8)),(k28 s_),(8,(vI t8)),(16,(vB r_))],[]⟩ [_,_] {an:=[(5,cA q1 [])] } [] ⟨a1,q1,trivial⟩ ?_
   refine bI h (fun hb h=> ?_) (fun hb h=> ?_)
   ·refine ct hb ?_
    refine sz tT ⟨[(4,(vI t8))],[]⟩ {} [] ?_
    refine aR ?_
    obtain rfl:=oi h
    exact lR dP (dQ 0) dO (bR.mk (.inr rfl) (p:=[]) (l:=[(sI t8)]) (by kernel_rfl) trivial (dY.refl _) trivial)
   ·refine cf hb ?_
    refine aP (rz tT ⟨[(k25 s_),(k26 f_ u0 u1 u2),(k28 s_),(ZO t8)],[]⟩ {} [] ?_)
    obtain rfl:=oi h
    exact lN
  ·refine cf hb1 ?_
   refine aI (fz ⟨[],[]⟩ []) ?_
   refine aX ?_
   obtain rfl:=oi h
   exact lB
 ·clear hy
  cases y with
  |brk z=>
   unfold fT
   refine⟨_, .refl, ?_⟩
   refine sz tT ⟨[(4,(vI (-1)))],[]⟩ {} [] ?_
   refine aR ?_
   obtain rfl:=oi h
   exact rl [(sI (-1))]
  |ret v=>
   obtain rfl:=oi h
   unfold fT
   intro e st hn ha hR
   cases e with
   |normal=>exact absurd rfl hn
   |exit id=>exact hR
   |goto l=>exact hR
   |ret=>exact hR
   |panic c=>exact hR
   |outgrown=>exact hR
def zA  :Bool→Exit→St→Prop:=
  fun r=>bR TT [.tmp 4] (vB r) []
section
variable (r_:Int)
abbrev k32:St:=⟨[(4,(vB (decide (0≤r_))))],[]⟩
end
theorem zh (s_:(List aj)) (f_:Int) (u0:(List aj)) (u1:(List aM)) (u2:(List aK)) {r:Bool} (h:gM s_ f_ u0 u1 u2=some r):Fn Try.prog 133 (k29 s_ f_ u0 u1 u2) [] (vB r) []:=by
 refine fN tT Try.func133 rfl rfl fun B=> ?_
 show bW _ _ _ _ _ _ (zA r) _
 unfold gM at h
 refine sz tT (k30 s_ f_ u0 u1 u2) {} [] ?_
 refine aQ (bE h fun r_ hr_ h=> ?_)
 have q0:=BG s_ f_ u0 u1 u2 hr_
 refine rg tT (k32 r_) [_] {an:=[(2,cA q0 [])] } [] ⟨q0,trivial⟩ ?_
 refine aR ?_
 obtain rfl:=oi h
 exact rl [(sB (decide (0≤r_)))]
def KO  :Bool→Exit→St→Prop:=
  fun r=>bR TT [.tmp 6] (vB r) []
theorem Jf (l:(List aj)) (u0:Int) (u1:Int) (u2:(List aj)) (u3:(List aM)) (u4:(List aK)) {r:Bool} (h:qF l u0 u1 u2 u3 u4=some r):Fn Try.prog 95 [(sD (k13 l)),(sI u0),(sD (.fn 135 1 (k23 u1 u2 u3 u4)))] [] (vB r) []:=by
 refine fN tT Try.func95 rfl rfl fun B=> ?_
 show bW _ _ _ _ _ _ (KO r) _
 unfold qF at h
 refine sz tT ⟨[(k25 l),(1,(vI u0)),(5,(k24 u1 u2 u3 u4))],[]⟩ {fr:=[(0,1)] } [1] ?_
 refine aQ (bE h fun r_ hr_ h=> ?_)
 refine rg tT ⟨[(6,(vB (bif (decide ((l.length:Int)≤u0))then(!r_)else false)))],[]⟩ (eqs (decide ((l.length:Int)≤u0)) 3 ((gP (jq [(4,(decide ((l.length:Int)≤u0)))]) [(4,true)]→All [Fn Try.prog 133 (k29 l u1 u2 u3 u4) [] (vB r_) []])::(eqs (decide ((l.length:Int)≤u0)) 2 []))) {yb:=[(4,(decide ((l.length:Int)≤u0)))],an:=[(7, .call [] (vB r_) [])] } [] (ae ⟨(fun hg=> ⟨(zh l u1 u2 u3 u4 (iw hr_ (bD hg))),trivial⟩),(ae trivial)⟩) ?_
 refine aR ?_
 obtain rfl:=oi h
 exact rl [(sB (bif (decide ((l.length:Int)≤u0))then(!r_)else false))]
def rO  :Bool→Exit→St→Prop:=
  fun r=>bR TT [.tmp 3] (vB r) []
section
variable (x:aM)
abbrev ZL:Nat × TV:=(2,(vD (kK [(.int .i64 x.a),(.int .i64 x.b),(.int .i64 x.kind),(.int .i64 x.most),(.int .i64 x.bU),(bg none 2 ic.cell x.trip)] 0)))
abbrev k34:Nat × TV:=(48,(vD (bg none 2 ic.cell x.trip)))
abbrev k35:Nat × TV:=(49,(vI (x.trip.length:Int)))
end
def xS (x:aM):Int→St:=
  fun u0=> ⟨[(ZL x),(k34 x),(k35 x),(50,(vI u0))],[]⟩
section
variable (x:aM)
abbrev k36:St:=⟨[(ZL x)],[]⟩
end
def xR (x:aM):Unit→St:=
  fun _=>(k36 x)
def Fz (x:aM):(bn Int (Ex Unit Bool))→Exit→St→Prop:=
  LQ 0 [] (xS x) (xR x) rO
section
variable (x:aM) (r_:Bool) (u1:Bool) (u3:Bool) (u5:Bool) (u0:Int) (u2:Bool) (u4:Bool)
abbrev k37:List CV:=[(cI x.a),(cI x.b),(cI x.kind),(cI x.most),(cI x.bU),(.d (bg none 2 ic.cell x.trip))]
abbrev k38:List (Nat × Option Ob):=[(5,some (.cells 53 (k37 x)))]
abbrev Vd:=(bif (!r_)then true else(!u1))
abbrev k41:=(bif (Vd r_ u1)then true else(decide (x.a=x.b)))
abbrev k40:=(bif (k41 x r_ u1)then true else(!u3))
abbrev k39:=(bif (k40 x r_ u1 u3)then true else(!u5))
abbrev k43:=(jq [(7,(!r_)),(16,(Vd r_ u1)),(23,(k41 x r_ u1)),(29,(k40 x r_ u1 u3)),(35,(k39 x r_ u1 u3 u5))])
abbrev k44:=(decide (((at' x.trip u0.toNat).amps)≤((at' x.trip ((k17 u0).toNat)).amps)))
abbrev k45:=(jq [(4,(!u2)),(10,(Vd u2 u4)),(13,(decide (0<u0))),(24,(k44 x u0))])
abbrev ZT:=(decide ((x.trip.length:Int)≤6))
abbrev k48:=(decide ((x.trip.length:Int)=0))
abbrev k46:=(bif (ZT x)then(bif (k48 x)then true else(decide (x.kind=3)))else false)
end
theorem Gu (x:aM) (x1:Int) (u6:(List aj)) (u7:(List aM)) (u8:(List aK)) {r:Bool} (h:mU x x1 u6 u7 u8=some r):Fn Try.prog 138 [(.agg (k37 x)),(sD (k12 u6 u8 x1 u7))] [] (vB r) []:=by
 refine fN tT Try.func138 rfl rfl fun B=> ?_
 show bW _ _ _ _ _ _ (rO r) _
 unfold mU at h
 refine sz tT ⟨[(k15 u6 u8 x1 u7),(2,(vP 5 0))],(k38 x)⟩ {fr:=[(0,5)] } [] ?_
 refine aQ (aQ (bE h fun r_ hr_ h=> ?_))
 refine bE h fun u1 hr_1 h=> ?_
 refine bE h fun u3 hr_2 h=> ?_
 refine bE h fun u5 hr_3 h=> ?_
 refine bE h fun u9 hr_4 h=> ?_
 have q0:=bP x.a 0 (k17 x1) hr_
 refine rg tT ⟨[(2,(vP 5 0)),(46,(vB (bif (k39 x r_ u1 u3 u5)then true else(!u9))))],(k38 x)⟩ (_::(eqs (!r_) 6 ((gP (k43 x r_ u1 u3 u5) [(7,false)]→All [Fn Try.prog 94 [(sI x.b),(sI 0),(sI (k17 x1))] [] (vB u1) []])::(eqs (!r_) 2 (eqs (Vd r_ u1) 6 (eqs (k41 x r_ u1) 3 ((gP (k43 x r_ u1 u3 u5) [(23,false)]→All [Fn Try.prog 94 [(sI x.kind),(sI 1),(sI 3)] [] (vB u3) []])::(eqs (k41 x r_ u1) 2 (eqs (k40 x r_ u1 u3) 3 ((gP (k43 x r_ u1 u3 u5) [(29,false)]→All [Fn Try.prog 94 [(sI x.most),(sI 1),(sI 100000)] [] (vB u5) []])::(eqs (k40 x r_ u1 u3) 2 (eqs (k39 x r_ u1 u3 u5) 3 ((gP (k43 x r_ u1 u3 u5) [(35,false)]→All [Fn Try.prog 94 [(sI x.bU),(sI 10),(sI 100000)] [] (vB u9) []])::(eqs (k39 x r_ u1 u3 u5) 2 [])))))))))))))) {yb:=[(7,(!r_)),(16,(Vd r_ u1)),(23,(k41 x r_ u1)),(29,(k40 x r_ u1 u3)),(35,(k39 x r_ u1 u3 u5))],an:=[(5,cA q0 []),(13, .call [] (vB u1) []),(26, .call [] (vB u3) []),(32, .call [] (vB u5) []),(38, .call [] (vB u9) [])] } [] ⟨q0,(ae ⟨(fun hg=> ⟨(bP x.b 0 (k17 x1) (iw hr_1 (bD hg))),trivial⟩),(ae (ae (ae ⟨(fun hg=> ⟨(bP x.kind 1 3 (iw hr_2 (bD hg))),trivial⟩),(ae (ae ⟨(fun hg=> ⟨(bP x.most 1 100000 (iw hr_3 (bD hg))),trivial⟩),(ae (ae ⟨(fun hg=> ⟨(bP x.bU 10 100000 (iw hr_4 (bD hg))),trivial⟩),(ae trivial)⟩))⟩))⟩)))⟩)⟩ ?_
 refine bI h (fun hb2 h=> ?_) (fun hb2 h=> ?_)
 ·refine ct hb2 ?_
  refine sz tT ⟨[(3,(vB false))],[]⟩ {} [] ?_
  refine aR ?_
  obtain rfl:=oi h
  exact rl [(sB false)]
 ·refine cf hb2 ?_
  refine aP (aQ (sz tT ⟨[(ZL x),(k34 x),(k35 x),(50,(vI 0))],[]⟩ {} [5] ?_))
  refine bE h fun y hy h=> ?_
  refine aL [] (xS x) (xR x) rO hy (fun s f h=> ?_) ?_
  ·clear hy
   show bW _ _ _ _ _ _ ((Fz x) f) _
   unfold jB at h
   obtain⟨u0,rfl⟩: ∃q,q=s:=⟨_,rfl⟩
   refine sz tT ⟨[(ZL x),(k34 x),(k35 x),(50,(vI u0)),(51,(vB (decide (u0<(x.trip.length:Int)))))],[]⟩ {} [] ?_
   refine aQ ?_
   refine bI h (fun hb1 h=> ?_) (fun hb1 h=> ?_)
   ·refine ct hb1 ?_
    refine aP (aQ (aB (aQ (aO h fun a1 h=> ?_))))
    refine rg tT ⟨[(ZL x),(4,(vI u0)),(5,(vD (kK [(.int .i64 ((at' x.trip u0.toNat).amps)),(.int .i64 ((at' x.trip u0.toNat).nE))] 0))),(k34 x),(k35 x),(50,(vI u0))],[]⟩ [_] {fr:=[(3,9)] } [9] ⟨a1,trivial⟩ ?_
    refine aQ (bE h fun u2 hr_5 h=> ?_)
    refine bE h fun u4 hr_6 h=> ?_
    refine aO h fun⟨a1,a2⟩ h=> ?_
    have q0:=bP ((at' x.trip u0.toNat).amps) 1 1000000 hr_5
    refine dg tT mX ⟨[(ZL x),(k34 x),(k35 x),(50,(vI u0)),(92,(vB (bif (Vd u2 u4)then true else(bif (decide (0<u0))then(bif (k44 x u0)then true else(decide (((at' x.trip ((k17 u0).toNat)).nE)≤((at' x.trip u0.toNat).nE))))else false))))],[]⟩ (_::(eqs (!u2) 3 ((gP (k45 x u0 u2 u4) [(4,false)]→All [Fn Try.prog 94 [(sI ((at' x.trip u0.toNat).nE)),(sI 1),(sI 100000)] [] (vB u4) []])::(eqs (!u2) 2 (eqs (Vd u2 u4) 3 (eqs (decide (0<u0)) 7 ((gP (k45 x u0 u2 u4) [(13,true),(10,false)]→All [(0:Int)≤(k17 u0)∧(k17 u0)<(x.trip.length:Int)])::(eqs (decide (0<u0)) 4 (eqs (k44 x u0) 7 ((gP (k45 x u0 u2 u4) [(24,false),(13,true),(10,false)]→All [(0:Int)≤(k17 u0)∧(k17 u0)<(x.trip.length:Int)])::(eqs (k44 x u0) 3 [(decide (0<u0))=(decide (0<u0)),gP (k45 x u0 u2 u4) [(13,true),(10,false)]→All [(k44 x u0)=(k44 x u0)],(Vd u2 u4)=(Vd u2 u4),gP (k45 x u0 u2 u4) [(10,false)]→All [(decide (0<u0))=(decide (0<u0))],(Vd u2 u4)=(Vd u2 u4)]))))))))))) {yb:=[(4,(!u2)),(10,(Vd u2 u4)),(13,(decide (0<u0))),(24,(k44 x u0))],an:=[(2,cA q0 []),(7, .call [] (vB u4) [])] } [] ⟨q0,(ae ⟨(fun hg=> ⟨(bP ((at' x.trip u0.toNat).nE) 1 100000 (iw hr_6 (bD hg))),trivial⟩),(ae (ae (ae ⟨(fun hg=> ⟨(a1 (bD hg)),trivial⟩),(ae (ae ⟨(fun hg=> ⟨(a2 (bD hg)),trivial⟩),(ae ⟨rfl,(fun hg=> ⟨rfl,trivial⟩),rfl,(fun hg=> ⟨rfl,trivial⟩),rfl,trivial⟩)⟩))⟩)))⟩)⟩ ?_
    refine bI h (fun hb h=> ?_) (fun hb h=> ?_)
    ·refine ct hb ?_
     refine sz tT ⟨[(3,(vB false))],[]⟩ {} [] ?_
     refine aR ?_
     obtain rfl:=oi h
     exact lR dP (dQ 0) dO (bR.mk (.inr rfl) (p:=[]) (l:=[(sB false)]) (by kernel_rfl) trivial (dY.refl _) trivial)
    ·refine cf hb ?_
     refine aP (rz tT ⟨[(ZL x),(k34 x),(k35 x),(50,(k3 u0))],[]⟩ {} [] ?_)
     obtain rfl:=oi h
     exact lN
   ·refine cf hb1 ?_
    refine aI (fz (k36 x) []) ?_
    refine aX ?_
    obtain rfl:=oi h
    exact lB
  ·clear hy
   cases y with
   |brk z=>
    unfold fT
    refine⟨_, .refl, ?_⟩
    refine sg tT ⟨[(3,(vB (k46 x)))],[]⟩ (eqs (ZT x) 5 (eqs (k48 x) 3 [(ZT x)=(ZT x),gP (jq [(4,(ZT x)),(9,(k48 x))]) [(4,true)]→All [(k48 x)=(k48 x)],(ZT x)=(ZT x)])) {yb:=[(4,(ZT x)),(9,(k48 x))] } [] (ae (ae ⟨rfl,(fun hg=> ⟨rfl,trivial⟩),rfl,trivial⟩)) ?_
    refine aR ?_
    obtain rfl:=oi h
    exact rl [(sB (k46 x))]
   |ret v=>
    obtain rfl:=oi h
    unfold fT
    intro e st hn ha hR
    cases e with
    |normal=>exact absurd rfl hn
    |exit id=>exact hR
    |goto l=>exact hR
    |ret=>exact hR
    |panic c=>exact hR
    |outgrown=>exact hR
def DK  :Bool→Exit→St→Prop:=
  fun r=>bR TT [.tmp 3] (vB r) []
section
variable (x1:Int) (u0:(List aj)) (u1:(List aM)) (u2:(List aK))
abbrev k49:DV:=(kK [(.fn 138 1 (k23 x1 u0 u1 u2))] 0)
abbrev k50:TV:=(vD (k49 x1 u0 u1 u2))
end
theorem Cm (x:aM) (x1:Int) (u0:(List aj)) (u1:(List aM)) (u2:(List aK)) {r:Bool} (h:lM x x1 u0 u1 u2=some r):Fn Try.prog 137 [(.agg (k37 x)),(sD (k49 x1 u0 u1 u2))] [] (vB r) []:=by
 refine fN tT Try.func137 rfl rfl fun B=> ?_
 show bW _ _ _ _ _ _ (DK r) _
 unfold lM at h
 refine sz tT ⟨[(1,(k50 x1 u0 u1 u2)),(ZL x)],[]⟩ {fr:=[(0,1)] } [1] ?_
 refine aQ (bE h fun r_ hr_ h=> ?_)
 have q0:=Gu x x1 u0 u1 u2 hr_
 refine rg tT ⟨[(3,(vB (!r_)))],[]⟩ [_] {an:=[(2,cA q0 [])] } [] ⟨q0,trivial⟩ ?_
 refine aR ?_
 obtain rfl:=oi h
 exact rl [(sB (!r_))]
def jR  :Int→Exit→St→Prop:=
  fun r=>bR TT [.tmp 4] (vI r) []
section
variable (s_:(List aM)) (f_:Int) (u0:(List aj)) (u1:(List aM)) (u2:(List aK))
abbrev ZQ:Nat × TV:=(0,(vD (bg none 6 aM.cell s_)))
abbrev k53:=(mM [(k49 f_ u0 u1 u2)])
abbrev k52:Nat × TV:=(1,(vD (.fn 137 1 (k53 f_ u0 u1 u2))))
abbrev k54:Nat × TV:=(7,(vI (s_.length:Int)))
end
def oh (s_:(List aM)) (f_:Int) (u0:(List aj)) (u1:(List aM)) (u2:(List aK)):Int→St:=
  fun t8=> ⟨[(ZQ s_),(k52 f_ u0 u1 u2),(k54 s_),(8,(vI t8))],[]⟩
def oF  :Unit→St:=
  fun _=> ⟨[],[]⟩
def yZ (s_:(List aM)) (f_:Int) (u0:(List aj)) (u1:(List aM)) (u2:(List aK)):(bn Int (Ex Unit Int))→Exit→St→Prop:=
  LQ 0 [] (oh s_ f_ u0 u1 u2) oF jR
section
variable (s_:(List aM)) (f_:Int) (u0:(List aj)) (u1:(List aM)) (u2:(List aK))
abbrev k55:List SV:=[(sD (bg none 6 aM.cell s_)),(sD (.fn 137 1 (k53 f_ u0 u1 u2)))]
abbrev k56:St:=⟨[(ZQ s_),(k52 f_ u0 u1 u2)],[]⟩
end
theorem y8 (s_:(List aM)) (f_:Int) (u0:(List aj)) (u1:(List aM)) (u2:(List aK)) {r:Int} (h:ji s_ f_ u0 u1 u2=some r):Fn Try.prog 151 (k55 s_ f_ u0 u1 u2) [] (vI r) []:=by
 refine fN tT Try.func151 rfl rfl fun B=> ?_
 show bW _ _ _ _ _ _ (jR r) _
 unfold ji at h
 refine sz tT (k56 s_ f_ u0 u1 u2) {} [] ?_
 refine aQ (sz tT ⟨[(ZQ s_),(k52 f_ u0 u1 u2),(k54 s_),(8,(vI 0))],[]⟩ {} [] ?_)
 refine bE h fun y hy h=> ?_
 refine aL [] (oh s_ f_ u0 u1 u2) oF jR hy (fun s f h=> ?_) ?_
 ·clear hy
  show bW _ _ _ _ _ _ ((yZ s_ f_ u0 u1 u2) f) _
  unfold gZ at h
  obtain⟨t8,rfl⟩: ∃q,q=s:=⟨_,rfl⟩
  refine sz tT ⟨[(ZQ s_),(k52 f_ u0 u1 u2),(k54 s_),(8,(vI t8)),(9,(vB (decide (t8<(s_.length:Int)))))],[]⟩ {} [] ?_
  refine aQ ?_
  refine bI h (fun hb1 h=> ?_) (fun hb1 h=> ?_)
  ·refine ct hb1 ?_
   refine aP (aQ (aB (sz tT ⟨[(ZQ s_),(k52 f_ u0 u1 u2),(5,(vI t8)),(k54 s_),(8,(vI t8))],[]⟩ {} [] ?_)))
   refine aQ (bE h fun r_ hr_ h=> ?_)
   refine aO h fun a1 h=> ?_
   have q1:=Cm (at' s_ t8.toNat) f_ u0 u1 u2 hr_
   refine rg tT ⟨[(ZQ s_),(k52 f_ u0 u1 u2),(5,(vI t8)),(k54 s_),(8,(vI t8)),(16,(vB r_))],[]⟩ [_,_] {an:=[(5,cA q1 [])] } [] ⟨a1,q1,trivial⟩ ?_
   refine bI h (fun hb h=> ?_) (fun hb h=> ?_)
   ·refine ct hb ?_
    refine sz tT ⟨[(4,(vI t8))],[]⟩ {} [] ?_
    refine aR ?_
    obtain rfl:=oi h
    exact lR dP (dQ 0) dO (bR.mk (.inr rfl) (p:=[]) (l:=[(sI t8)]) (by kernel_rfl) trivial (dY.refl _) trivial)
   ·refine cf hb ?_
    refine aP (rz tT ⟨[(ZQ s_),(k52 f_ u0 u1 u2),(k54 s_),(ZO t8)],[]⟩ {} [] ?_)
    obtain rfl:=oi h
    exact lN
  ·refine cf hb1 ?_
   refine aI (fz ⟨[],[]⟩ []) ?_
   refine aX ?_
   obtain rfl:=oi h
   exact lB
 ·clear hy
  cases y with
  |brk z=>
   unfold fT
   refine⟨_, .refl, ?_⟩
   refine sz tT ⟨[(4,(vI (-1)))],[]⟩ {} [] ?_
   refine aR ?_
   obtain rfl:=oi h
   exact rl [(sI (-1))]
  |ret v=>
   obtain rfl:=oi h
   unfold fT
   intro e st hn ha hR
   cases e with
   |normal=>exact absurd rfl hn
   |exit id=>exact hR
   |goto l=>exact hR
   |ret=>exact hR
   |panic c=>exact hR
   |outgrown=>exact hR
def wP  :Bool→Exit→St→Prop:=
  fun r=>bR TT [.tmp 4] (vB r) []
theorem vE (s_:(List aM)) (f_:Int) (u0:(List aj)) (u1:(List aM)) (u2:(List aK)) {r:Bool} (h:fD s_ f_ u0 u1 u2=some r):Fn Try.prog 136 (k55 s_ f_ u0 u1 u2) [] (vB r) []:=by
 refine fN tT Try.func136 rfl rfl fun B=> ?_
 show bW _ _ _ _ _ _ (wP r) _
 unfold fD at h
 refine sz tT (k56 s_ f_ u0 u1 u2) {} [] ?_
 refine aQ (bE h fun r_ hr_ h=> ?_)
 have q0:=y8 s_ f_ u0 u1 u2 hr_
 refine rg tT (k32 r_) [_] {an:=[(2,cA q0 [])] } [] ⟨q0,trivial⟩ ?_
 refine aR ?_
 obtain rfl:=oi h
 exact rl [(sB (decide (0≤r_)))]
def HZ  :Bool→Exit→St→Prop:=
  fun r=>bR TT [.tmp 6] (vB r) []
theorem FD (l:(List aM)) (u0:Int) (u1:Int) (u2:(List aj)) (u3:(List aM)) (u4:(List aK)) {r:Bool} (h:nu l u0 u1 u2 u3 u4=some r):Fn Try.prog 97 [(sD (bg none 6 aM.cell l)),(sI u0),(sD (.fn 138 1 (k23 u1 u2 u3 u4)))] [] (vB r) []:=by
 refine fN tT Try.func97 rfl rfl fun B=> ?_
 show bW _ _ _ _ _ _ (HZ r) _
 unfold nu at h
 refine sz tT ⟨[(ZQ l),(1,(vI u0)),(5,(k50 u1 u2 u3 u4))],[]⟩ {fr:=[(0,1)] } [1] ?_
 refine aQ (bE h fun r_ hr_ h=> ?_)
 refine rg tT ⟨[(6,(vB (bif (decide ((l.length:Int)≤u0))then(!r_)else false)))],[]⟩ (eqs (decide ((l.length:Int)≤u0)) 3 ((gP (jq [(4,(decide ((l.length:Int)≤u0)))]) [(4,true)]→All [Fn Try.prog 136 (k55 l u1 u2 u3 u4) [] (vB r_) []])::(eqs (decide ((l.length:Int)≤u0)) 2 []))) {yb:=[(4,(decide ((l.length:Int)≤u0)))],an:=[(7, .call [] (vB r_) [])] } [] (ae ⟨(fun hg=> ⟨(vE l u1 u2 u3 u4 (iw hr_ (bD hg))),trivial⟩),(ae trivial)⟩) ?_
 refine aR ?_
 obtain rfl:=oi h
 exact rl [(sB (bif (decide ((l.length:Int)≤u0))then(!r_)else false))]
def JE  :Int→Exit→St→Prop:=
  fun r=>bR TT [.tmp 2] (vI r) []
section
variable (x:aK)
abbrev k57:List CV:=[(cI x.bY.e0),(cI x.bY.e1),(cI x.cK),(cI x.uT)]
abbrev k58:TV:=(vD (kK [(.int .i64 x.bY.e0),(.int .i64 x.bY.e1),(.int .i64 x.cK),(.int .i64 x.uT)] 0))
end
theorem Ig (x:aK) {r:Int} (h:oG x=some r):Fn Try.prog 142 [(.agg (k57 x))] [] (vI r) []:=by
 refine fN tT Try.func142 rfl rfl fun B=> ?_
 show bW _ _ _ _ _ _ (JE r) _
 unfold oG at h
 refine sz tT ⟨[(1,(k58 x))],[]⟩ {fr:=[(0,1)] } [1] ?_
 refine aQ (sg tT ⟨[(6,(vB (decide (x.bY.e1=(-1)))))],[]⟩ [(0:Int)≤1∧(1:Int)<(2:Nat)] {} [] ⟨((by decide)),trivial⟩ ?_)
 refine bI h (fun hb h=> ?_) (fun hb h=> ?_)
 ·refine ct hb ?_
  refine sz tT ⟨[(2,(vI 1))],[]⟩ {} [] ?_
  refine aR ?_
  obtain rfl:=oi h
  exact rl [(sI 1)]
 ·refine cf hb ?_
  refine aP (sz tT ⟨[(2,(vI 2))],[]⟩ {} [] ?_)
  refine aR ?_
  obtain rfl:=oi h
  exact rl [(sI 2)]
def Ih  :Bool→Exit→St→Prop:=
  fun r=>bR TT [.tmp 3] (vB r) []
section
variable (x:aK) (r_:Bool) (u0:Bool) (u1:Bool) (u6:Bool)
abbrev k59:Nat × TV:=(2,(k58 x))
abbrev k62:=(bif (k20 r_ u0)then(!decide (x.bY.e0=x.bY.e1))else false)
abbrev ZV:=(bif (k62 x r_ u0)then u1 else false)
abbrev k60:=(bif (ZV x r_ u0 u1)then u6 else false)
abbrev k63:=(jq [(5,r_),(12,(k20 r_ u0)),(17,(k62 x r_ u0)),(22,(ZV x r_ u0 u1))])
end
theorem FY (x:aK) (x1:Int) (u2:(List aj)) (u3:(List aM)) (u4:(List aK)) {r:Bool} (h:mV x x1 u2 u3 u4=some r):Fn Try.prog 141 [(.agg (k57 x)),(sD (k12 u2 u4 x1 u3))] [] (vB r) []:=by
 refine fN tT Try.func141 rfl rfl fun B=> ?_
 show bW _ _ _ _ _ _ (Ih r) _
 unfold mV at h
 refine sz tT ⟨[(k15 u2 u4 x1 u3),(k59 x)],[]⟩ {fr:=[(0,1)] } [1] ?_
 refine sd tT mX ⟨[(k15 u2 u4 x1 u3),(k59 x),(4,(vI x.bY.e0)),(5,(vI x.bY.e1))],[]⟩ [(0:Int)≤0∧(0:Int)<(2:Nat),(0:Int)≤1∧(1:Int)<(2:Nat)] {} [] ⟨((by decide)),((by decide)),trivial⟩ ?_
 refine aQ (bE h fun r_ hr_ h=> ?_)
 refine bE h fun u0 hr_1 h=> ?_
 refine bE h fun u1 hr_2 h=> ?_
 refine bE h fun u5 hr_3 h=> ?_
 refine bE h fun u6 hr_4 h=> ?_
 have q0:=bP x.bY.e0 0 (k17 x1) hr_
 refine dg tT mX ⟨[(3,(vB (k60 x r_ u0 u1 u6)))],[]⟩ (_::(eqs r_ 5 ((gP (k63 x r_ u0 u1) [(5,true)]→All [Fn Try.prog 94 [(sI x.bY.e1),(sI (-1)),(sI (k17 x1))] [] (vB u0) []])::(r_=r_)::(eqs (k20 r_ u0) 4 (eqs (k62 x r_ u0) 3 ((gP (k63 x r_ u0 u1) [(17,true)]→All [Fn Try.prog 94 [(sI x.cK),(sI 1),(sI 100000)] [] (vB u1) []])::((k62 x r_ u0)=(k62 x r_ u0))::(eqs (ZV x r_ u0 u1) 4 [gP (k63 x r_ u0 u1) [(22,true)]→All [Fn Try.prog 142 [(.agg (k57 x))] [] (vI u5) []],(ZV x r_ u0 u1)=(ZV x r_ u0 u1),gP (k63 x r_ u0 u1) [(22,true)]→All [Fn Try.prog 94 [(sI x.uT),(sI 0),(sI u5)] [] (vB u6) []],(ZV x r_ u0 u1)=(ZV x r_ u0 u1)]))))))) {yb:=[(5,r_),(12,(k20 r_ u0)),(17,(k62 x r_ u0)),(22,(ZV x r_ u0 u1))],an:=[(4,cA q0 []),(10, .call [] (vB u0) []),(20, .call [] (vB u1) []),(26, .call [] (vI u5) []),(27, .call [] (vB u6) [])] } [] ⟨q0,(ae ⟨(fun hg=> ⟨(bP x.bY.e1 (-1) (k17 x1) (iw hr_1 (bD hg))),trivial⟩),rfl,(ae (ae ⟨(fun hg=> ⟨(bP x.cK 1 100000 (iw hr_2 (bD hg))),trivial⟩),rfl,(ae ⟨(fun hg=> ⟨(Ig x (iw hr_3 (bD hg))),trivial⟩),rfl,(fun hg=> ⟨(bP x.uT 0 u5 (iw hr_4 (bD hg))),trivial⟩),rfl,trivial⟩)⟩))⟩)⟩ ?_
 refine aR ?_
 obtain rfl:=oi h
 exact rl [(sB (k60 x r_ u0 u1 u6))]
def DY  :Bool→Exit→St→Prop:=
  fun r=>bR TT [.tmp 3] (vB r) []
section
variable (x1:Int) (u0:(List aj)) (u1:(List aM)) (u2:(List aK))
abbrev k64:DV:=(kK [(.fn 141 1 (k23 x1 u0 u1 u2))] 0)
abbrev k65:TV:=(vD (k64 x1 u0 u1 u2))
end
theorem CO (x:aK) (x1:Int) (u0:(List aj)) (u1:(List aM)) (u2:(List aK)) {r:Bool} (h:l9 x x1 u0 u1 u2=some r):Fn Try.prog 140 [(.agg (k57 x)),(sD (k64 x1 u0 u1 u2))] [] (vB r) []:=by
 refine fN tT Try.func140 rfl rfl fun B=> ?_
 show bW _ _ _ _ _ _ (DY r) _
 unfold l9 at h
 refine sz tT ⟨[(1,(k65 x1 u0 u1 u2)),(k59 x)],[]⟩ {fr:=[(0,1)] } [1] ?_
 refine aQ (bE h fun r_ hr_ h=> ?_)
 have q0:=FY x x1 u0 u1 u2 hr_
 refine rg tT ⟨[(3,(vB (!r_)))],[]⟩ [_] {an:=[(2,cA q0 [])] } [] ⟨q0,trivial⟩ ?_
 refine aR ?_
 obtain rfl:=oi h
 exact rl [(sB (!r_))]
def jP  :Int→Exit→St→Prop:=
  fun r=>bR TT [.tmp 4] (vI r) []
section
variable (s_:(List aK)) (f_:Int) (u0:(List aj)) (u1:(List aM)) (u2:(List aK))
abbrev ZG:Nat × TV:=(0,(vD (k14 s_)))
abbrev k68:=(mM [(k64 f_ u0 u1 u2)])
abbrev k67:Nat × TV:=(1,(vD (.fn 140 1 (k68 f_ u0 u1 u2))))
abbrev k69:Nat × TV:=(7,(vI (s_.length:Int)))
end
def oD (s_:(List aK)) (f_:Int) (u0:(List aj)) (u1:(List aM)) (u2:(List aK)):Int→St:=
  fun t8=> ⟨[(ZG s_),(k67 f_ u0 u1 u2),(k69 s_),(8,(vI t8))],[]⟩
def ou  :Unit→St:=
  fun _=> ⟨[],[]⟩
def y7 (s_:(List aK)) (f_:Int) (u0:(List aj)) (u1:(List aM)) (u2:(List aK)):(bn Int (Ex Unit Int))→Exit→St→Prop:=
  LQ 0 [] (oD s_ f_ u0 u1 u2) ou jP
section
variable (s_:(List aK)) (f_:Int) (u0:(List aj)) (u1:(List aM)) (u2:(List aK)) (t8:Int)
abbrev k70:List SV:=[(sD (k14 s_)),(sD (.fn 140 1 (k68 f_ u0 u1 u2)))]
abbrev k71:St:=⟨[(ZG s_),(k67 f_ u0 u1 u2)],[]⟩
abbrev Lj:=((at' s_ t8.toNat).bY)
end
theorem yY (s_:(List aK)) (f_:Int) (u0:(List aj)) (u1:(List aM)) (u2:(List aK)) {r:Int} (h:jl s_ f_ u0 u1 u2=some r):Fn Try.prog 152 (k70 s_ f_ u0 u1 u2) [] (vI r) []:=by
 refine fN tT Try.func152 rfl rfl fun B=> ?_
 show bW _ _ _ _ _ _ (jP r) _
 unfold jl at h
 refine sz tT (k71 s_ f_ u0 u1 u2) {} [] ?_
 refine aQ (sz tT ⟨[(ZG s_),(k67 f_ u0 u1 u2),(k69 s_),(8,(vI 0))],[]⟩ {} [] ?_)
 refine bE h fun y hy h=> ?_
 refine aL [] (oD s_ f_ u0 u1 u2) ou jP hy (fun s f h=> ?_) ?_
 ·clear hy
  show bW _ _ _ _ _ _ ((y7 s_ f_ u0 u1 u2) f) _
  unfold ig at h
  obtain⟨t8,rfl⟩: ∃q,q=s:=⟨_,rfl⟩
  refine sz tT ⟨[(ZG s_),(k67 f_ u0 u1 u2),(k69 s_),(8,(vI t8)),(9,(vB (decide (t8<(s_.length:Int)))))],[]⟩ {} [] ?_
  refine aQ ?_
  refine bI h (fun hb1 h=> ?_) (fun hb1 h=> ?_)
  ·refine ct hb1 ?_
   refine aP (aQ (aB (sz tT ⟨[(ZG s_),(k67 f_ u0 u1 u2),(5,(vI t8)),(k69 s_),(8,(vI t8))],[]⟩ {} [] ?_)))
   refine aQ (bE h fun r_ hr_ h=> ?_)
   refine aO h fun a1 h=> ?_
   have q1:=CO (⟨(Lj s_ t8),(at' s_ t8.toNat).cK,(at' s_ t8.toNat).uT⟩:aK) f_ u0 u1 u2 hr_
   refine rg tT ⟨[(ZG s_),(k67 f_ u0 u1 u2),(5,(vI t8)),(k69 s_),(8,(vI t8)),(16,(vB r_))],[]⟩ [_,_] {an:=[(5,cA q1 [])] } [] ⟨a1,q1,trivial⟩ ?_
   refine bI h (fun hb h=> ?_) (fun hb h=> ?_)
   ·refine ct hb ?_
    refine sz tT ⟨[(4,(vI t8))],[]⟩ {} [] ?_
    refine aR ?_
    obtain rfl:=oi h
    exact lR dP (dQ 0) dO (bR.mk (.inr rfl) (p:=[]) (l:=[(sI t8)]) (by kernel_rfl) trivial (dY.refl _) trivial)
   ·refine cf hb ?_
    refine aP (rz tT ⟨[(ZG s_),(k67 f_ u0 u1 u2),(k69 s_),(ZO t8)],[]⟩ {} [] ?_)
    obtain rfl:=oi h
    exact lN
  ·refine cf hb1 ?_
   refine aI (fz ⟨[],[]⟩ []) ?_
   refine aX ?_
   obtain rfl:=oi h
   exact lB
 ·clear hy
  cases y with
  |brk z=>
   unfold fT
   refine⟨_, .refl, ?_⟩
   refine sz tT ⟨[(4,(vI (-1)))],[]⟩ {} [] ?_
   refine aR ?_
   obtain rfl:=oi h
   exact rl [(sI (-1))]
  |ret v=>
   obtain rfl:=oi h
   unfold fT
   intro e st hn ha hR
   cases e with
   |normal=>exact absurd rfl hn
   |exit id=>exact hR
   |goto l=>exact hR
   |ret=>exact hR
   |panic c=>exact hR
   |outgrown=>exact hR
def xD  :Bool→Exit→St→Prop:=
  fun r=>bR TT [.tmp 4] (vB r) []
theorem uX (s_:(List aK)) (f_:Int) (u0:(List aj)) (u1:(List aM)) (u2:(List aK)) {r:Bool} (h:fE s_ f_ u0 u1 u2=some r):Fn Try.prog 139 (k70 s_ f_ u0 u1 u2) [] (vB r) []:=by
 refine fN tT Try.func139 rfl rfl fun B=> ?_
 show bW _ _ _ _ _ _ (xD r) _
 unfold fE at h
 refine sz tT (k71 s_ f_ u0 u1 u2) {} [] ?_
 refine aQ (bE h fun r_ hr_ h=> ?_)
 have q0:=yY s_ f_ u0 u1 u2 hr_
 refine rg tT (k32 r_) [_] {an:=[(2,cA q0 [])] } [] ⟨q0,trivial⟩ ?_
 refine aR ?_
 obtain rfl:=oi h
 exact rl [(sB (decide (0≤r_)))]
def G9  :Bool→Exit→St→Prop:=
  fun r=>bR TT [.tmp 6] (vB r) []
theorem GI (l:(List aK)) (u0:Int) (u1:Int) (u2:(List aj)) (u3:(List aM)) (u4:(List aK)) {r:Bool} (h:ny l u0 u1 u2 u3 u4=some r):Fn Try.prog 99 [(sD (k14 l)),(sI u0),(sD (.fn 141 1 (k23 u1 u2 u3 u4)))] [] (vB r) []:=by
 refine fN tT Try.func99 rfl rfl fun B=> ?_
 show bW _ _ _ _ _ _ (G9 r) _
 unfold ny at h
 refine sz tT ⟨[(ZG l),(1,(vI u0)),(5,(k65 u1 u2 u3 u4))],[]⟩ {fr:=[(0,1)] } [1] ?_
 refine aQ (bE h fun r_ hr_ h=> ?_)
 refine rg tT ⟨[(6,(vB (bif (decide ((l.length:Int)≤u0))then(!r_)else false)))],[]⟩ (eqs (decide ((l.length:Int)≤u0)) 3 ((gP (jq [(4,(decide ((l.length:Int)≤u0)))]) [(4,true)]→All [Fn Try.prog 139 (k70 l u1 u2 u3 u4) [] (vB r_) []])::(eqs (decide ((l.length:Int)≤u0)) 2 []))) {yb:=[(4,(decide ((l.length:Int)≤u0)))],an:=[(7, .call [] (vB r_) [])] } [] (ae ⟨(fun hg=> ⟨(uX l u1 u2 u3 u4 (iw hr_ (bD hg))),trivial⟩),(ae trivial)⟩) ?_
 refine aR ?_
 obtain rfl:=oi h
 exact rl [(sB (bif (decide ((l.length:Int)≤u0))then(!r_)else false))]
def JC  :Int→Exit→St→Prop:=
  fun r=>bR TT [.tmp 2] (vI r) []
theorem zN (p:au) {r:Int} (h:lD p=some r):Fn Try.prog 58 (k4 p) [] (vI r) []:=by
 refine fN tT Try.func58 rfl rfl fun B=> ?_
 show bW _ _ _ _ _ _ (JC r) _
 unfold lD at h
 refine sz tT (k7 p) {fr:=[(0,1)] } [1] ?_
 refine aQ (aB (aQ (bE h fun r_ hr_ h=> ?_)))
 have q0:=bP p.ax 1 24 hr_
 refine rg tT ⟨[(k8 p),(3,(vB (!r_)))],[]⟩ [_] {an:=[(2,cA q0 [])] } [] ⟨q0,trivial⟩ ?_
 refine bI h (fun hb3 h=> ?_) (fun hb3 h=> ?_)
 ·refine ct hb3 ?_
  refine sz tT ⟨[(2,(vI 10))],[]⟩ {} [] ?_
  refine aR ?_
  obtain rfl:=oi h
  exact rl [(sI 10)]
 ·refine cf hb3 ?_
  refine aQ (bE h fun u0 hr_1 h=> ?_)
  refine bE h fun u3 hr_2 h=> ?_
  have q0:=Gd p hr_1
  have q1:=Jf p.ai 8 u0.1 u0.2.1 u0.2.2.1 u0.2.2.2 hr_2
  refine dg tT mX ⟨[(k8 p),(8,(vB (!u3)))],[]⟩ [_,_] {an:=[(3,cA q0 []),(4,cA q1 [])] } [] ⟨q0,q1,trivial⟩ ?_
  refine bI h (fun hb2 h=> ?_) (fun hb2 h=> ?_)
  ·refine ct hb2 ?_
   refine sz tT ⟨[(2,(vI 11))],[]⟩ {} [] ?_
   refine aR ?_
   obtain rfl:=oi h
   exact rl [(sI 11)]
  ·refine cf hb2 ?_
   refine aQ (bE h fun u1 hr_3 h=> ?_)
   refine bE h fun u4 hr_4 h=> ?_
   have q0:=Ju p hr_3
   have q1:=FD p.af 40 u1.1 u1.2.1 u1.2.2.1 u1.2.2.2 hr_4
   refine dg tT mX ⟨[(k8 p),(15,(vB (!u4)))],[]⟩ [_,_] {an:=[(3,cA q0 []),(4,cA q1 [])] } [] ⟨q0,q1,trivial⟩ ?_
   refine bI h (fun hb1 h=> ?_) (fun hb1 h=> ?_)
   ·refine ct hb1 ?_
    refine sz tT ⟨[(2,(vI 12))],[]⟩ {} [] ?_
    refine aR ?_
    obtain rfl:=oi h
    exact rl [(sI 12)]
   ·refine cf hb1 ?_
    refine aQ (bE h fun u2 hr_5 h=> ?_)
    refine bE h fun u5 hr_6 h=> ?_
    have q0:=Ji p hr_5
    have q1:=GI p.aF 24 u2.1 u2.2.1 u2.2.2.1 u2.2.2.2 hr_6
    refine dg tT mX ⟨[(22,(vB (!u5)))],[]⟩ [_,_] {an:=[(3,cA q0 []),(4,cA q1 [])] } [] ⟨q0,q1,trivial⟩ ?_
    refine bI h (fun hb h=> ?_) (fun hb h=> ?_)
    ·refine ct hb ?_
     refine sz tT ⟨[(2,(vI 13))],[]⟩ {} [] ?_
     refine aR ?_
     obtain rfl:=oi h
     exact rl [(sI 13)]
    ·refine cf hb ?_
     refine aP (sz tT ⟨[(2,(vI 0))],[]⟩ {} [] ?_)
     refine aR ?_
     obtain rfl:=oi h
     exact rl [(sI 0)]
def iB  :Int→Exit→St→Prop:=
  fun r=>bR TT [.tmp 4] (vI r) []
section
variable (s_:ay) (p:au)
abbrev k75:DV:=(kK [(bg none 1 aD s_.bK),(bg none 1 aD s_.fe),(bg none 1 aD s_.bG),(bg none 1 aD s_.on_),(bg none 1 aD s_.bL),(bg none 1 aD s_.fq),(bg none 1 aD s_.aG)] 0)
abbrev k74:TV:=(vD (k75 s_))
abbrev gQ:Nat × TV:=(3,(k74 s_))
abbrev ZY:=(⟨s_.bK,(p.af.length:Int)⟩:dS)
abbrev ZM:=(⟨s_.fe,(p.af.length:Int)⟩:dS)
abbrev k79:=(⟨s_.bG,(p.af.length:Int)⟩:dS)
abbrev ZX:=(⟨s_.on_,(p.ai.length:Int)⟩:dS)
abbrev Z9:=(⟨s_.bL,(p.ai.length:Int)⟩:dS)
abbrev Z0:=(⟨s_.fq,p.ax⟩:dS)
abbrev ZP:=(⟨s_.aG,p.ax⟩:dS)
abbrev k76:Nat × TV:=(53,(vO 13 true ([(ZY s_ p),(ZM s_ p),(k79 s_ p),(ZX s_ p),(Z9 s_ p),(Z0 s_ p),(ZP s_ p)].length)))
abbrev k84:Nat × TV:=(54,(vI ([(ZY s_ p),(ZM s_ p),(k79 s_ p),(ZX s_ p),(Z9 s_ p),(Z0 s_ p),(ZP s_ p)].length:Int)))
abbrev XH:Ob:=(.cells 26 (k5 p))
abbrev k86:Nat × Option Ob:=(11,some (XH p))
abbrev k85:List (Nat × Option Ob):=[(k86 p),(13,some (dK 128 2 dS.cell [(ZY s_ p),(ZM s_ p),(k79 s_ p),(ZX s_ p),(Z9 s_ p),(Z0 s_ p),(ZP s_ p)]))]
end
def qR (p:au) (s_:ay):Int→St:=
  fun u0=> ⟨[(2,(vP 11 0)),(gQ s_),(k76 s_ p),(k84 s_ p),(55,(vI u0))],(k85 s_ p)⟩
section
variable (s_:ay) (p:au)
abbrev k88:St:=⟨[(2,(vP 11 0)),(gQ s_)],[(k86 p)]⟩
end
def qY (p:au) (s_:ay):Unit→St:=
  fun _=>(k88 s_ p)
def BN (p:au) (s_:ay):(bn Int (Ex Unit Int))→Exit→St→Prop:=
  LQ 0 [] (qR p s_) (qY p s_) iB
section
variable (p:au)
abbrev k89:Nat × TV:=(67,(vD (bg none 6 aM.cell p.af)))
abbrev k90:Nat × TV:=(68,(vI (p.af.length:Int)))
end
def qQ (p:au) (s_:ay):Int→St:=
  fun u0=> ⟨[(gQ s_),(k89 p),(k90 p),(69,(vI u0))],[]⟩
def qN  :Unit→St:=
  fun _=> ⟨[],[]⟩
def BF (p:au) (s_:ay):(bn Int (Ex Unit Int))→Exit→St→Prop:=
  LQ 2 [] (qQ p s_) qN iB
section
variable (s_:ay) (p:au) (u1:Int) (u0:Int)
abbrev Yu:List CV:=[(.d (bg none 1 aD s_.bK)),(.d (bg none 1 aD s_.fe)),(.d (bg none 1 aD s_.bG)),(.d (bg none 1 aD s_.on_)),(.d (bg none 1 aD s_.bL)),(.d (bg none 1 aD s_.fq)),(.d (bg none 1 aD s_.aG))]
abbrev YI:List SV:=[(.agg (k5 p)),(.agg (Yu s_))]
abbrev k93:List (Nat × Option Ob):=[(k86 p),(12,some (.cells 29 (Yu s_)))]
abbrev k94:=(aN dS.cell [(ZY s_ p),(ZM s_ p),(k79 s_ p),(ZX s_ p),(Z9 s_ p),(Z0 s_ p),(ZP s_ p)])
abbrev k96:=(at' [(ZY s_ p),(ZM s_ p),(k79 s_ p),(ZX s_ p),(Z9 s_ p),(Z0 s_ p),(ZP s_ p)] u1.toNat)
abbrev k95:=((k96 s_ p u1).l)
abbrev k97:=((k96 s_ p u1).n)
abbrev k98:TV:=(vB (decide (u0<(p.af.length:Int))))
abbrev R9:=((at' p.af u0.toNat).most)
abbrev YW:TV:=(vD (kK [(.int .i64 ((at' p.af u0.toNat).a)),(.int .i64 ((at' p.af u0.toNat).b)),(.int .i64 ((at' p.af u0.toNat).kind)),(.int .i64 (R9 p u0)),(.int .i64 ((at' p.af u0.toNat).bU)),(bg none 2 ic.cell ((at' p.af u0.toNat).trip))] 0))
abbrev OV:Nat × TV:=(11,(YW p u0))
abbrev NR:=(decide (((at' p.af u0.toNat).kind)=1))
abbrev H8:=(!(at' s_.bK u0.toNat))
abbrev acw:=(jq [(3,(NR p u0)),(10,(H8 s_ u0))])
end
theorem dU (p:au) (s_:ay) {r:Int} (h:dF p s_=some r):Fn Try.prog 12 (YI s_ p) [] (vI r) []:=by
 refine fN tT Try.func12 rfl rfl fun B=> ?_
 show bW _ _ _ _ _ _ (iB r) _
 unfold dF at h
 refine sz tT ⟨[(2,(vP 11 0)),(3,(vP 12 0))],(k93 s_ p)⟩ {fr:=[(0,11),(1,12)] } [] ?_
 refine aQ (aQ (bE h fun r_ hr_ h=> ?_))
 have q0:=zN p hr_
 refine rg tT ⟨[(2,(vP 11 0)),(3,(vP 12 0)),(5,(vI r_))],(k93 s_ p)⟩ [_] {an:=[(1,cA q0 [])] } [] ⟨q0,trivial⟩ ?_
 refine sz tT ⟨[(2,(vP 11 0)),(3,(vP 12 0)),(5,(vI r_)),(15,(vB (!decide (r_=0))))],(k93 s_ p)⟩ {} [] ?_
 refine bI h (fun hb4 h=> ?_) (fun hb4 h=> ?_)
 ·refine ct hb4 ?_
  refine sz tT ⟨[(4,(vI r_))],[]⟩ {} [] ?_
  refine aR ?_
  obtain rfl:=oi h
  exact rl [(sI r_)]
 ·refine cf hb4 ?_
  refine aP (sd tT mX ⟨[(2,(vP 11 0)),(3,(vP 12 0)),(6,(vI (p.af.length:Int))),(7,(vI (p.ai.length:Int)))],(k93 s_ p)⟩ [] {} [] trivial ?_)
  refine aQ (sg tT ⟨[(2,(vP 11 0)),(gQ s_),(k76 s_ p),(k84 s_ p),(55,(vI 0))],(k85 s_ p)⟩ [[(ZY s_ p),(ZM s_ p),(k79 s_ p),(ZX s_ p),(Z9 s_ p),(Z0 s_ p),(ZP s_ p)].length=7,aY 7 2 (jf 2 [(bg none 1 aD s_.bK),(.int .i64 (p.af.length:Int)),(bg none 1 aD s_.fe),(.int .i64 (p.af.length:Int)),(bg none 1 aD s_.bG),(.int .i64 (p.af.length:Int)),(bg none 1 aD s_.on_),(.int .i64 (p.ai.length:Int)),(bg none 1 aD s_.bL),(.int .i64 (p.ai.length:Int)),(bg none 1 aD s_.fq),(.int .i64 p.ax),(bg none 1 aD s_.aG),(.int .i64 p.ax)]) (k94 s_ p)] {an:=[(30, .arr [(ZY s_ p),(ZM s_ p),(k79 s_ p),(ZX s_ p),(Z9 s_ p),(Z0 s_ p),(ZP s_ p)].length (k94 s_ p))],fr:=[(30,13)] } [12] ⟨(rfl),((by intro i hi j hj;match i,j,hi,hj with|0,0,_,_=>rfl|0,1,_,_=>rfl|1,0,_,_=>rfl|1,1,_,_=>rfl|2,0,_,_=>rfl|2,1,_,_=>rfl|3,0,_,_=>rfl|3,1,_,_=>rfl|4,0,_,_=>rfl|4,1,_,_=>rfl|5,0,_,_=>rfl|5,1,_,_=>rfl|6,0,_,_=>rfl|6,1,_,_=>rfl)),trivial⟩ ?_)
  refine bE h fun y hy h=> ?_
  refine aL [] (qR p s_) (qY p s_) iB hy (fun s f h=> ?_) ?_
  ·clear hy
   show bW _ _ _ _ _ _ ((BN p s_) f) _
   unfold gK at h
   obtain⟨u1,rfl⟩: ∃q,q=s:=⟨_,rfl⟩
   refine sz tT ⟨[(2,(vP 11 0)),(gQ s_),(k76 s_ p),(k84 s_ p),(55,(vI u1)),(56,(vB (decide (u1<([(ZY s_ p),(ZM s_ p),(k79 s_ p),(ZX s_ p),(Z9 s_ p),(Z0 s_ p),(ZP s_ p)].length:Int)))))],(k85 s_ p)⟩ {} [] ?_
   refine aQ ?_
   refine bI h (fun hb1 h=> ?_) (fun hb1 h=> ?_)
   ·refine ct hb1 ?_
    refine aP (aQ (aB (aQ (aO h fun a1 h=> ?_))))
    refine rg tT ⟨[(2,(vP 11 0)),(gQ s_),(9,(vD (kK [(bg none 1 aD (k95 s_ p u1)),(.int .i64 (k97 s_ p u1))] 0))),(k76 s_ p),(k84 s_ p),(55,(vI u1))],(k85 s_ p)⟩ [_,_] {fr:=[(2,17)] } [17] ⟨a1,(tL a1),trivial⟩ ?_
    refine sz tT ⟨[(2,(vP 11 0)),(gQ s_),(k76 s_ p),(k84 s_ p),(55,(vI u1)),(64,(vB (!decide (((k95 s_ p u1).length:Int)=(k97 s_ p u1)))))],(k85 s_ p)⟩ {} [] ?_
    refine bI h (fun hb h=> ?_) (fun hb h=> ?_)
    ·refine ct hb ?_
     refine sz tT ⟨[(4,(vI 9))],[]⟩ {} [] ?_
     refine aR ?_
     obtain rfl:=oi h
     exact lR dP (dQ 0) dO (bR.mk (.inr rfl) (p:=[]) (l:=[(sI 9)]) (by kernel_rfl) trivial (dY.refl _) trivial)
    ·refine cf hb ?_
     refine aP (rz tT ⟨[(2,(vP 11 0)),(gQ s_),(k76 s_ p),(k84 s_ p),(55,(k3 u1))],(k85 s_ p)⟩ {} [] ?_)
     obtain rfl:=oi h
     exact lN
   ·refine cf hb1 ?_
    refine aI (fz (k88 s_ p) []) ?_
    refine aX ?_
    obtain rfl:=oi h
    exact lB
  ·clear hy
   cases y with
   |brk z=>
    unfold fT
    refine⟨_, .refl, ?_⟩
    refine aQ (sz tT ⟨[(gQ s_),(k89 p),(k90 p),(69,(vI 0))],[]⟩ {} [] ?_)
    refine bE h fun y1 hy h=> ?_
    refine aL [] (qQ p s_) qN iB hy (fun s f h=> ?_) ?_
    ·clear hy
     show bW _ _ _ _ _ _ ((BF p s_) f) _
     unfold gL at h
     obtain⟨u0,rfl⟩: ∃q,q=s:=⟨_,rfl⟩
     refine sz tT ⟨[(gQ s_),(k89 p),(k90 p),(69,(vI u0)),(70,(k98 p u0))],[]⟩ {} [] ?_
     refine aQ ?_
     refine bI h (fun hb3 h=> ?_) (fun hb3 h=> ?_)
     ·refine ct hb3 ?_
      refine aP (aQ (aB (aQ (aO h fun a1 h=> ?_))))
      refine rg tT ⟨[(gQ s_),(10,(vI u0)),(OV p u0),(k89 p),(k90 p),(69,(vI u0))],[]⟩ [_] {fr:=[(3,21)] } [21] ⟨a1,trivial⟩ ?_
      refine aQ (aO h fun⟨a1,a2⟩ h=> ?_)
      refine rg tT ⟨[(gQ s_),(k89 p),(k90 p),(69,(vI u0)),(91,(vB (bif (NR p u0)then(bif (H8 s_ u0)then true else(at' s_.fe u0.toNat))else false)))],[]⟩ (eqs (NR p u0) 4 ((gP (acw s_ p u0) [(3,true)]→All [(0:Int)≤u0∧u0<(s_.bK.length:Int)])::(eqs (NR p u0) 3 (eqs (H8 s_ u0) 4 [gP (acw s_ p u0) [(10,false),(3,true)]→All [(0:Int)≤u0∧u0<(s_.fe.length:Int)],(H8 s_ u0)=(H8 s_ u0),(NR p u0)=(NR p u0),gP (acw s_ p u0) [(3,true)]→All [(H8 s_ u0)=(H8 s_ u0)],(NR p u0)=(NR p u0)])))) {yb:=[(3,(NR p u0)),(10,(H8 s_ u0))] } [] (ae ⟨(fun hg=> ⟨(a1 (bD hg)),trivial⟩),(ae (ae ⟨(fun hg=> ⟨(a2 (bD hg)),trivial⟩),rfl,rfl,(fun hg=> ⟨rfl,trivial⟩),rfl,trivial⟩))⟩) ?_
      refine bI h (fun hb2 h=> ?_) (fun hb2 h=> ?_)
      ·refine ct hb2 ?_
       refine sz tT ⟨[(4,(vI 9))],[]⟩ {} [] ?_
       refine aR ?_
       obtain rfl:=oi h
       exact lR dP (dQ 2) dO (bR.mk (.inr rfl) (p:=[]) (l:=[(sI 9)]) (by kernel_rfl) trivial (dY.refl _) trivial)
      ·refine cf hb2 ?_
       refine aP (rz tT ⟨[(gQ s_),(k89 p),(k90 p),(69,(k3 u0))],[]⟩ {} [] ?_)
       obtain rfl:=oi h
       exact lN
     ·refine cf hb3 ?_
      refine aI (fz ⟨[],[]⟩ []) ?_
      refine aX ?_
      obtain rfl:=oi h
      exact lB
    ·clear hy
     cases y1 with
     |brk z=>
      unfold fT
      refine⟨_, .refl, ?_⟩
      refine sz tT ⟨[(4,(vI 0))],[]⟩ {} [] ?_
      refine aR ?_
      obtain rfl:=oi h
      exact rl [(sI 0)]
     |ret v=>
      obtain rfl:=oi h
      unfold fT
      intro e st hn ha hR
      cases e with
      |normal=>exact absurd rfl hn
      |exit id=>exact hR
      |goto l=>exact hR
      |ret=>exact hR
      |panic c=>exact hR
      |outgrown=>exact hR
   |ret v=>
    obtain rfl:=oi h
    unfold fT
    intro e st hn ha hR
    cases e with
    |normal=>exact absurd rfl hn
    |exit id=>exact hR
    |goto l=>exact hR
    |ret=>exact hR
    |panic c=>exact hR
    |outgrown=>exact hR
def Kw  :Bool→Exit→St→Prop:=
  fun r=>bR TT [.tmp 6] (vB r) []
section
variable (p:au) (s_:ay) (k:Int)
abbrev OX:List SV:=[(.agg (k5 p)),(.agg (Yu s_)),(sI k)]
abbrev dw:Nat × TV:=(3,(k9 p))
abbrev bB:Nat × TV:=(4,(k74 s_))
abbrev PZ:=(bif (at' s_.on_ k.toNat)then(!(at' s_.bL k.toNat))else false)
abbrev aed:=(bif (PZ s_ k)then(!(at' s_.aG (((at' p.ai k.toNat).bus).toNat)))else false)
abbrev adq:TV:=(vB (aed p s_ k))
abbrev abT:=(jq [(5,(at' s_.on_ k.toNat)),(13,(PZ s_ k))])
abbrev aex:=(gP (abT s_ k) [(5,true)]→All [(0:Int)≤k∧k<(s_.bL.length:Int)])
abbrev ae9:=((gP (abT s_ k) [(13,true)]→All [(0:Int)≤(at' p.ai k.toNat).bus∧(at' p.ai k.toNat).bus<(s_.aG.length:Int)])::(eqs (PZ s_ k) 3 []))
end
theorem gJ (p:au) (s_:ay) (k:Int) {r:Bool} (h:iP p s_ k=some r):Fn Try.prog 65 (OX p s_ k) [] (vB r) []:=by
 refine fN tT Try.func65 rfl rfl fun B=> ?_
 show bW _ _ _ _ _ _ (Kw r) _
 unfold iP at h
 refine sz tT ⟨[(2,(vI k)),(dw p),(bB s_)],[]⟩ {fr:=[(0,2),(1,3)] } [2,3] ?_
 refine aQ (aO h fun⟨a1,a2,a3,a4⟩ h=> ?_)
 refine dg tT mX ⟨[(6,(adq p s_ k))],[]⟩ (_::(eqs (at' s_.on_ k.toNat) 4 ((aex s_ k)::(eqs (at' s_.on_ k.toNat) 3 (eqs (PZ s_ k) 6 ((gP (abT s_ k) [(13,true)]→All [(0:Int)≤k∧k<(p.ai.length:Int)])::(eqs (PZ s_ k) 3 (ae9 p s_ k)))))))) {yb:=[(5,(at' s_.on_ k.toNat)),(13,(PZ s_ k))] } [] ⟨a1,(ae ⟨(fun hg=> ⟨(a2 (bD hg)),trivial⟩),(ae (ae ⟨(fun hg=> ⟨(a3 (bD hg)),trivial⟩),(ae ⟨(fun hg=> ⟨(a4 (bD hg)),trivial⟩),(ae trivial)⟩)⟩))⟩)⟩ ?_
 refine aR ?_
 obtain rfl:=oi h
 exact rl [(sB (aed p s_ k))]
def GY  :Bool→Exit→St→Prop:=
  fun r=>bR TT [.tmp 6] (vB r) []
section
variable (s_:ay) (i:Int) (p:au)
abbrev Xr:=(bif (at' s_.bK i.toNat)then(!(at' s_.bG i.toNat))else false)
abbrev Vq:=(bif (Xr s_ i)then(!(at' s_.aG (((at' p.af i.toNat).a).toNat)))else false)
abbrev ais:=(bif (Vq s_ i p)then(!(at' s_.aG (((at' p.af i.toNat).b).toNat)))else false)
abbrev aa2:=(jq [(5,(at' s_.bK i.toNat)),(13,(Xr s_ i)),(22,(Vq s_ i p))])
end
theorem eP (p:au) (s_:ay) (i:Int) {r:Bool} (h:fG p s_ i=some r):Fn Try.prog 78 (OX p s_ i) [] (vB r) []:=by
 refine fN tT Try.func78 rfl rfl fun B=> ?_
 show bW _ _ _ _ _ _ (GY r) _
 unfold fG at h
 refine sz tT ⟨[(2,(vI i)),(3,(vP 3 0)),(bB s_)],[(3,some (XH p))]⟩ {fr:=[(0,3),(1,4)] } [4] ?_
 refine aQ (aO h fun a1 h=> ?_)
 refine rg tT ⟨[(2,(vI i)),(bB s_),(7,(YW p i))],[]⟩ [_] {fr:=[(5,5)] } [5] ⟨a1,trivial⟩ ?_
 refine aQ (aO h fun⟨a1,a2,a3,a4⟩ h=> ?_)
 refine rg tT ⟨[(6,(vB (ais s_ i p)))],[]⟩ (_::(eqs (at' s_.bK i.toNat) 4 ((gP (aa2 s_ i p) [(5,true)]→All [(0:Int)≤i∧i<(s_.bG.length:Int)])::(eqs (at' s_.bK i.toNat) 3 (eqs (Xr s_ i) 5 ((gP (aa2 s_ i p) [(13,true)]→All [(0:Int)≤(at' p.af i.toNat).a∧(at' p.af i.toNat).a<(s_.aG.length:Int)])::(eqs (Xr s_ i) 3 (eqs (Vq s_ i p) 5 ((gP (aa2 s_ i p) [(22,true)]→All [(0:Int)≤(at' p.af i.toNat).b∧(at' p.af i.toNat).b<(s_.aG.length:Int)])::(eqs (Vq s_ i p) 3 [])))))))))) {yb:=[(5,(at' s_.bK i.toNat)),(13,(Xr s_ i)),(22,(Vq s_ i p))] } [] ⟨a1,(ae ⟨(fun hg=> ⟨(a2 (bD hg)),trivial⟩),(ae (ae ⟨(fun hg=> ⟨(a3 (bD hg)),trivial⟩),(ae (ae ⟨(fun hg=> ⟨(a4 (bD hg)),trivial⟩),(ae trivial)⟩))⟩))⟩)⟩ ?_
 refine aR ?_
 obtain rfl:=oi h
 exact rl [(sB (ais s_ i p))]
def Av  :(List Int)→Exit→St→Prop:=
  fun r=>bR TT [.tmp 2] (vO 0 false r.length) [(0,some (dK 3 1 (aC .i64) r))]
theorem o7 (s_:(List Int)) (u0:Bool) {r:(List Int)} (h:lI s_ u0=some r):Fn Try.prog 112 [(sD (bg (some u0) 1 (aC .i64) s_))] [] (vO 0 false r.length) [(0,some (dK 3 1 (aC .i64) r))]:=by
 refine fN tT Try.func112 rfl rfl fun B=> ?_
 show bW _ _ _ _ _ _ (Av r) _
 unfold lI at h
 refine sz tT ⟨[(0,(vD (bg (some u0) 1 (aC .i64) s_)))],[]⟩ {} [] ?_
 refine aQ (sz tT ⟨[(0,(vD (bg (some u0) 1 (aC .i64) s_))),(4,(vB (!u0)))],[]⟩ {} [] ?_)
 refine bI h (fun hb h=> ?_) (fun hb h=> ?_)
 ·refine ct hb ?_
  refine sz tT ⟨[(2,(vD nS))],[]⟩ {} [] ?_
  refine aI (.trans (bZ.WT (t:=2) (b:=2) (esz0:=0) (el0:=fun _ _=> .nilp) (E:=3) (esz:=1) (el:=aN (aC .i64) ([]:List Int)) (by kernel_rfl) (by kernel_rfl)) (.trans (bZ.fin (st':=⟨[(2,(vO 0 false 0))],[(0,some (.arr 3 1 0 (aN (aC .i64) ([]:List Int))))]⟩) (cs:=[]) ⟨[],[(2,0)]⟩ [2] (by kernel_rfl) trivial) (bZ.le (st':=⟨[(2,(vO 0 false (([]:List Int).length)))],[(0,some (dK 3 1 (aC .i64) ([]:List Int)))]⟩) ⟨⟨⟨_,rfl,dY.v (eX.one cW)⟩,trivial⟩,⟨rfl,oW,trivial⟩⟩))) ?_
  refine aR ?_
  obtain rfl:=oi h
  exact rl [(.one (.own 0 false (([]:List Int).length)))]
 ·refine cf hb ?_
  refine aP (aQ (aO h fun⟨a1,a2⟩ h=> ?_))
  refine rg tT ⟨[(2,(vO 4 false ((([]:List Int)++s_).length)))],[(4,some (dK 3 1 (aC .i64) (([]:List Int)++s_)))]⟩ [([]:List Int).length=0,aY 0 1 (jf 1 []) (aN (aC .i64) ([]:List Int)),([]:List Int).length=([]:List Int).length,_,_,(([]:List Int)++s_).length=([]:List Int).length+s_.length,aY (([]:List Int).length+s_.length) 1 (CY (aN (aC .i64) ([]:List Int)) ([]:List Int).length (aN (aC .i64) s_)) (aN (aC .i64) (([]:List Int)++s_))] {an:=[(0, .arr ([]:List Int).length (aN (aC .i64) ([]:List Int))),(2, .arr (([]:List Int)++s_).length (aN (aC .i64) (([]:List Int)++s_)))],fr:=[(0,3),(2,4)] } [] ⟨(rfl),((fun i hi=>absurd hi (Nat.not_lt_zero i))),rfl,a1,a2,(List.length_append),(jy _ _ _ _),trivial⟩ ?_
  refine aI (bZ.fin (st':=⟨[(2,(vO 0 false ((([]:List Int)++s_).length)))],[(0,some (dK 3 1 (aC .i64) (([]:List Int)++s_)))]⟩) (cs:=[]) ⟨[],[(4,0)]⟩ [2] (by kernel_rfl) trivial) ?_
  refine aR ?_
  obtain rfl:=oi h
  exact rl [(.one (.own 0 false ((([]:List Int)++s_).length)))]
theorem xK (s:(List Int)) {r:(List Int)} (h:iH s=some r):Fn Try.prog 112 [(sD (bg none 1 (aC .i64) s))] [] (vO 0 false r.length) [(0,some (dK 3 1 (aC .i64) r))]:=by
 refine Fn.nn (o7 s true h) fun hl=> ?_
 have hs:s=[]:=List.eq_nil_of_length_eq_zero hl
 subst hs
 exact o7 [] false (by rw [←h];kernel_rfl)
def LU  :Bool→Exit→St→Prop:=
  fun r=>bR TT [.tmp 2] (vB r) []
theorem Cx (x:Int) {r:Bool} (h:sH x=some r):Fn Try.prog 154 [(sI x)] [] (vB r) []:=by
 refine fN tT Try.func154 rfl rfl fun B=> ?_
 show bW _ _ _ _ _ _ (LU r) _
 unfold sH at h
 refine sz tT ⟨[(0,(vI x))],[]⟩ {} [] ?_
 refine sz tT ⟨[(2,(vB (!decide (x=x))))],[]⟩ {} [] ?_
 refine aR ?_
 obtain rfl:=oi h
 exact rl [(sB (!decide (x=x)))]
def I5  :Int→Exit→St→Prop:=
  fun r=>bR TT [.tmp 4] (vI r) []
theorem Ie (x:Int) (y:Int) {r:Int} (h:oq x y=some r):Fn Try.prog 145 [(sI x),(sI y)] [] (vI r) []:=by
 refine fN tT Try.func145 rfl rfl fun B=> ?_
 show bW _ _ _ _ _ _ (I5 r) _
 unfold oq at h
 refine sz tT ⟨[(0,(vI x)),(1,(vI y))],[]⟩ {} [] ?_
 refine aQ (bE h fun r_ hr_ h=> ?_)
 have q0:=Cx x hr_
 refine rg tT ⟨[(0,(vI x)),(1,(vI y)),(5,(vB r_))],[]⟩ [_] {an:=[(1,cA q0 [])] } [] ⟨q0,trivial⟩ ?_
 refine aQ (bE h fun u0 hr_1 h=> ?_)
 have q0:=Cx y hr_1
 refine rg tT ⟨[(0,(vI x)),(1,(vI y)),(5,(vB r_)),(6,(vB u0))],[]⟩ [_] {an:=[(1,cA q0 [])] } [] ⟨q0,trivial⟩ ?_
 refine aQ (sz tT ⟨[(0,(vI x)),(1,(vI y)),(6,(vB u0)),(11,(vB r_))],[]⟩ {} [] ?_)
 refine bI h (fun hb4 h=> ?_) (fun hb4 h=> ?_)
 ·refine ct hb4 ?_
  refine aQ (sz tT ⟨[(12,(vB u0))],[]⟩ {} [] ?_)
  refine bI h (fun hb h=> ?_) (fun hb h=> ?_)
  ·refine ct hb ?_
   refine sz tT ⟨[(4,(vI 0))],[]⟩ {} [] ?_
   refine aR ?_
   obtain rfl:=oi h
   exact rl [(sI 0)]
  ·refine cf hb ?_
   refine aP (sz tT ⟨[(4,(vI (-1)))],[]⟩ {} [] ?_)
   refine aR ?_
   obtain rfl:=oi h
   exact rl [(sI (-1))]
 ·refine cf hb4 ?_
  refine aP (aQ (sz tT ⟨[(0,(vI x)),(1,(vI y)),(13,(vB u0))],[]⟩ {} [] ?_))
  refine bI h (fun hb3 h=> ?_) (fun hb3 h=> ?_)
  ·refine ct hb3 ?_
   refine sz tT ⟨[(4,(vI 1))],[]⟩ {} [] ?_
   refine aR ?_
   obtain rfl:=oi h
   exact rl [(sI 1)]
  ·refine cf hb3 ?_
   refine aP (aQ (sz tT ⟨[(0,(vI x)),(1,(vI y)),(16,(vB (decide (x<y))))],[]⟩ {} [] ?_))
   refine bI h (fun hb2 h=> ?_) (fun hb2 h=> ?_)
   ·refine ct hb2 ?_
    refine sz tT ⟨[(4,(vI (-1)))],[]⟩ {} [] ?_
    refine aR ?_
    obtain rfl:=oi h
    exact rl [(sI (-1))]
   ·refine cf hb2 ?_
    refine aP (aQ (sz tT ⟨[(19,(vB (decide (y<x))))],[]⟩ {} [] ?_))
    refine bI h (fun hb1 h=> ?_) (fun hb1 h=> ?_)
    ·refine ct hb1 ?_
     refine sz tT ⟨[(4,(vI 1))],[]⟩ {} [] ?_
     refine aR ?_
     obtain rfl:=oi h
     exact rl [(sI 1)]
    ·refine cf hb1 ?_
     refine aP (sz tT ⟨[(4,(vI 0))],[]⟩ {} [] ?_)
     refine aR ?_
     obtain rfl:=oi h
     exact rl [(sI 0)]
def oO  :Int→Exit→St→Prop:=
  fun r=>bR TT [.tmp 4] (vI r) []
section
variable (s1:(List Int)) (s2:(List Int))
abbrev DX:DV:=(bg none 1 (aC .i64) s1)
abbrev VJ:TV:=(vD (DX s1))
abbrev kE:Nat × TV:=(0,(VJ s1))
abbrev Eb:Nat × TV:=(1,(VJ s2))
abbrev NG:Nat × TV:=(9,(VJ s1))
abbrev N7:Nat × TV:=(10,(vI (s1.length:Int)))
end
def uw (s1:(List Int)) (s2:(List Int)):Int→St:=
  fun u0=> ⟨[(kE s1),(Eb s2),(NG s1),(N7 s1),(11,(vI u0))],[]⟩
section
variable (s1:(List Int)) (s2:(List Int))
abbrev Yx:St:=⟨[(kE s1),(Eb s2)],[]⟩
end
def tQ (s1:(List Int)) (s2:(List Int)):Unit→St:=
  fun _=>(Yx s1 s2)
def DL (s1:(List Int)) (s2:(List Int)):(bn Int (Ex Unit Int))→Exit→St→Prop:=
  LQ 0 [] (uw s1 s2) (tQ s1 s2) oO
section
variable (u0:Int) (s1:(List Int))
abbrev WK:TV:=(vB (decide (u0<(s1.length:Int))))
end
theorem Dr (s1:(List Int)) (s2:(List Int)) {r:Int} (h:nN s1 s2=some r):Fn Try.prog 111 [(sD (DX s1)),(sD (DX s2))] [] (vI r) []:=by
 refine fN tT Try.func111 rfl rfl fun B=> ?_
 show bW _ _ _ _ _ _ (oO r) _
 unfold nN at h
 refine sz tT (Yx s1 s2) {} [] ?_
 refine aQ (sz tT ⟨[(kE s1),(Eb s2),(NG s1),(N7 s1),(11,(vI 0))],[]⟩ {} [] ?_)
 refine bE h fun y hy h=> ?_
 refine aL [] (uw s1 s2) (tQ s1 s2) oO hy (fun s f h=> ?_) ?_
 ·clear hy
  show bW _ _ _ _ _ _ ((DL s1 s2) f) _
  unfold bV at h
  obtain⟨u0,rfl⟩: ∃q,q=s:=⟨_,rfl⟩
  refine sz tT ⟨[(kE s1),(Eb s2),(NG s1),(N7 s1),(11,(vI u0)),(12,(WK u0 s1))],[]⟩ {} [] ?_
  refine aQ ?_
  refine bI h (fun hb2 h=> ?_) (fun hb2 h=> ?_)
  ·refine ct hb2 ?_
   refine aP (aQ (aB (aQ (aO h fun a1 h=> ?_))))
   refine rg tT ⟨[(kE s1),(Eb s2),(5,(vI u0)),(6,(vI (at' s1 u0.toNat))),(NG s1),(N7 s1),(11,(vI u0))],[]⟩ [_] {} [] ⟨a1,trivial⟩ ?_
   refine aQ (sz tT ⟨[(kE s1),(Eb s2),(5,(vI u0)),(6,(vI (at' s1 u0.toNat))),(NG s1),(N7 s1),(11,(vI u0)),(19,(vB (decide ((s2.length:Int)≤u0))))],[]⟩ {} [] ?_)
   refine bI h (fun hb1 h=> ?_) (fun hb1 h=> ?_)
   ·refine ct hb1 ?_
    refine sz tT ⟨[(4,(vI 1))],[]⟩ {} [] ?_
    refine aR ?_
    obtain rfl:=oi h
    exact lR dP (dQ 0) dO (bR.mk (.inr rfl) (p:=[]) (l:=[(sI 1)]) (by kernel_rfl) trivial (dY.refl _) trivial)
   ·refine cf hb1 ?_
    refine aP (aQ (aO h fun a1 h=> ?_))
    refine rg tT ⟨[(kE s1),(Eb s2),(6,(vI (at' s1 u0.toNat))),(7,(vI (at' s2 u0.toNat))),(NG s1),(N7 s1),(11,(vI u0))],[]⟩ [_] {} [] ⟨a1,trivial⟩ ?_
    refine aQ (bE h fun r_ hr_ h=> ?_)
    have q0:=Ie (at' s1 u0.toNat) (at' s2 u0.toNat) hr_
    refine rg tT ⟨[(kE s1),(Eb s2),(8,(vI r_)),(NG s1),(N7 s1),(11,(vI u0))],[]⟩ [_] {an:=[(2,cA q0 [])] } [] ⟨q0,trivial⟩ ?_
    refine sz tT ⟨[(kE s1),(Eb s2),(8,(vI r_)),(NG s1),(N7 s1),(11,(vI u0)),(28,(vB (!decide (r_=0))))],[]⟩ {} [] ?_
    refine bI h (fun hb h=> ?_) (fun hb h=> ?_)
    ·refine ct hb ?_
     refine sz tT ⟨[(4,(vI r_))],[]⟩ {} [] ?_
     refine aR ?_
     obtain rfl:=oi h
     exact lR dP (dQ 0) dO (bR.mk (.inr rfl) (p:=[]) (l:=[(sI r_)]) (by kernel_rfl) trivial (dY.refl _) trivial)
    ·refine cf hb ?_
     refine aP (rz tT ⟨[(kE s1),(Eb s2),(NG s1),(N7 s1),(11,(k3 u0))],[]⟩ {} [] ?_)
     obtain rfl:=oi h
     exact lN
  ·refine cf hb2 ?_
   refine aI (fz (Yx s1 s2) []) ?_
   refine aX ?_
   obtain rfl:=oi h
   exact lB
 ·clear hy
  cases y with
  |brk z=>
   unfold fT
   refine⟨_, .refl, ?_⟩
   refine aQ (sz tT ⟨[(35,(vB (decide ((s1.length:Int)<(s2.length:Int)))))],[]⟩ {} [] ?_)
   refine bI h (fun hb3 h=> ?_) (fun hb3 h=> ?_)
   ·refine ct hb3 ?_
    refine sz tT ⟨[(4,(vI (-1)))],[]⟩ {} [] ?_
    refine aR ?_
    obtain rfl:=oi h
    exact rl [(sI (-1))]
   ·refine cf hb3 ?_
    refine aP (sz tT ⟨[(4,(vI 0))],[]⟩ {} [] ?_)
    refine aR ?_
    obtain rfl:=oi h
    exact rl [(sI 0)]
  |ret v=>
   obtain rfl:=oi h
   unfold fT
   intro e st hn ha hR
   cases e with
   |normal=>exact absurd rfl hn
   |exit id=>exact hR
   |goto l=>exact hR
   |ret=>exact hR
   |panic c=>exact hR
   |outgrown=>exact hR
def Fv  :Int→Exit→St→Prop:=
  fun r=>bR TT [.tmp 2] (vI r) []
section
variable (u0:(List Int))
abbrev Ut:Nat × TV:=(6,(VJ u0))
abbrev pG:Nat × TV:=(7,(vI (u0.length:Int)))
end
def Iy (u0:(List Int)):Int→St:=
  fun t8=> ⟨[(3,(vI 0)),(Ut u0),(pG u0),(8,(vI t8))],[]⟩
def IQ  :Unit→St:=
  fun _=> ⟨[(3,(vI 0))],[]⟩
def P5 (u0:(List Int)):(bn Int (Ex Unit Int))→Exit→St→Prop:=
  LQ 0 [] (Iy u0) IQ Fv
section
variable (t8:Int) (u0:(List Int))
abbrev VD:Nat × TV:=(9,(WK t8 u0))
end
theorem Qq (u0:(List Int)) {r:Int} (h:Cw u0=some r):Fn Try.prog 110 [(sD (DX u0))] [] (vI r) []:=by
 refine fN tT Try.func110 rfl rfl fun B=> ?_
 show bW _ _ _ _ _ _ (Fv r) _
 unfold Cw at h
 refine sz tT ⟨[(kE u0)],[]⟩ {} [] ?_
 refine sz tT ⟨[(kE u0),(3,(vI 0))],[]⟩ {} [] ?_
 refine aQ (sz tT ⟨[(3,(vI 0)),(Ut u0),(pG u0),(8,(vI 0))],[]⟩ {} [] ?_)
 refine bE h fun y hy h=> ?_
 refine aL [] (Iy u0) IQ Fv hy (fun s f h=> ?_) ?_
 ·clear hy
  show bW _ _ _ _ _ _ ((P5 u0) f) _
  unfold yt at h
  obtain⟨t8,rfl⟩: ∃q,q=s:=⟨_,rfl⟩
  refine sz tT ⟨[(3,(vI 0)),(Ut u0),(pG u0),(8,(vI t8)),(VD t8 u0)],[]⟩ {} [] ?_
  refine aQ ?_
  refine bI h (fun hb1 h=> ?_) (fun hb1 h=> ?_)
  ·refine ct hb1 ?_
   refine aP (aQ (aB (aQ (aO h fun a1 h=> ?_))))
   refine rg tT ⟨[(3,(vI 0)),(5,(vI (at' u0 t8.toNat))),(Ut u0),(pG u0),(8,(vI t8))],[]⟩ [_] {} [] ⟨a1,trivial⟩ ?_
   refine sz tT ⟨[(3,(vI 0)),(5,(vI (at' u0 t8.toNat))),(Ut u0),(pG u0),(8,(vI t8)),(14,(vB (!decide ((at' u0 t8.toNat)=0))))],[]⟩ {} [] ?_
   refine bI h (fun hb h=> ?_) (fun hb h=> ?_)
   ·refine ct hb ?_
    refine sz tT ⟨[(2,(vI (at' u0 t8.toNat)))],[]⟩ {} [] ?_
    refine aR ?_
    obtain rfl:=oi h
    exact lR dP (dQ 0) dO (bR.mk (.inr rfl) (p:=[]) (l:=[(sI (at' u0 t8.toNat))]) (by kernel_rfl) trivial (dY.refl _) trivial)
   ·refine cf hb ?_
    refine aP (rz tT ⟨[(3,(vI 0)),(Ut u0),(pG u0),(ZO t8)],[]⟩ {} [] ?_)
    obtain rfl:=oi h
    exact lN
  ·refine cf hb1 ?_
   refine aI (fz ⟨[(3,(vI 0))],[]⟩ []) ?_
   refine aX ?_
   obtain rfl:=oi h
   exact lB
 ·clear hy
  cases y with
  |brk z=>
   unfold fT
   refine⟨_, .refl, ?_⟩
   refine sz tT ⟨[(2,(vI 0))],[]⟩ {} [] ?_
   refine aR ?_
   obtain rfl:=oi h
   exact rl [(sI 0)]
  |ret v=>
   obtain rfl:=oi h
   unfold fT
   intro e st hn ha hR
   cases e with
   |normal=>exact absurd rfl hn
   |exit id=>exact hR
   |goto l=>exact hR
   |ret=>exact hR
   |panic c=>exact hR
   |outgrown=>exact hR
def Jt  :Bool→Exit→St→Prop:=
  fun r=>bR TT [.tmp 4] (vB r) []
section
variable (a:Way) (b:Way) (r_:Int)
abbrev L6:=(IntKind.wrap .i64 (a.bU - b.bU))
abbrev LK:=(IntKind.wrap .i64 ((a.af.length:Int) - (b.af.length:Int)))
abbrev agK:=(aN (aC .i64) [(L6 a b),(LK a b),r_])
abbrev adJ:List (Nat × Option Ob):=[(6,some (dK 3 1 (aC .i64) [(L6 a b),(LK a b),r_]))]
end
theorem Iq (a:Way) (b:Way) {r:Bool} (h:iU a b=some r):Fn Try.prog 109 [(.agg [(cB a.there),(cI a.bU),(.d (bg none 1 (aC .i64) a.af))]),(.agg [(cB b.there),(cI b.bU),(.d (bg none 1 (aC .i64) b.af))])] [] (vB r) []:=by
 refine fN tT Try.func109 rfl rfl fun B=> ?_
 show bW _ _ _ _ _ _ (Jt r) _
 unfold iU at h
 refine sz tT ⟨[(2,(vD (kK [(.bool a.there),(.int .i64 a.bU),(bg none 1 (aC .i64) a.af)] 0))),(3,(vD (kK [(.bool b.there),(.int .i64 b.bU),(bg none 1 (aC .i64) b.af)] 0)))],[]⟩ {fr:=[(0,4),(1,5)] } [4,5] ?_
 refine aQ ?_
 refine bI h (fun hb h=> ?_) (fun hb h=> ?_)
 ·skip
  refine di tT mX ⟨[(4,(vB (bif (!b.there)then true else false)))],[]⟩ [(!b.there)=true, ¬ gP (jq [(3,true)]) [(3,false)],(!b.there)=true, ¬ gP (jq [(3,true)]) [(3,false)],(!b.there)=true, ¬ gP (jq [(3,true)]) [(3,false)],(!b.there)=true, ¬ gP (jq [(3,true)]) [(3,false)],(!b.there)=true, ¬ gP (jq [(3,true)]) [(3,false)],(!b.there)=true, ¬ gP (jq [(3,true)]) [(3,false)],(!b.there)=true, ¬ gP (jq [(3,true)]) [(3,false)],(!b.there)=true, ¬ gP (jq [(3,true)]) [(3,false)],(!b.there)=true, ¬ gP (jq [(3,true)]) [(3,false)],(!b.there)=true, ¬ gP (jq [(3,true)]) [(3,false)],(!b.there)=true, ¬ gP (jq [(3,true)]) [(3,false)],(!b.there)=true, ¬ gP (jq [(3,true)]) [(3,false)],(!b.there)=true, ¬ gP (jq [(3,true)]) [(3,false)],(!b.there)=true, ¬ gP (jq [(3,true)]) [(3,false)],(!b.there)=true, ¬ gP (jq [(3,true)]) [(3,false)],(!b.there)=true, ¬ gP (jq [(3,true)]) [(3,false)],(!b.there)=true, ¬ gP (jq [(3,true)]) [(3,false)],(!b.there)=true, ¬ gP (jq [(3,true)]) [(3,false)],(!b.there)=true, ¬ gP (jq [(3,true)]) [(3,false)],(!b.there)=true, ¬ gP (jq [(3,true)]) [(3,false)],(!b.there)=true] {yb:=[(3,true)],an:=[(4, .skip),(5, .skip),(6, .skip),(7, .skip),(8, .skip),(9, .skip),(10, .skip),(11, .skip),(12, .skip),(13, .skip),(14, .skip),(15, .skip),(16, .skip),(17, .skip),(18, .skip),(19, .skip),(20, .skip),(21, .skip),(22, .skip),(23, .skip)] } [] ⟨(hb),((fun h=>Bool.noConfusion (show true=false from h.1))),(hb),((fun h=>Bool.noConfusion (show true=false from h.1))),(hb),((fun h=>Bool.noConfusion (show true=false from h.1))),(hb),((fun h=>Bool.noConfusion (show true=false from h.1))),(hb),((fun h=>Bool.noConfusion (show true=false from h.1))),(hb),((fun h=>Bool.noConfusion (show true=false from h.1))),(hb),((fun h=>Bool.noConfusion (show true=false from h.1))),(hb),((fun h=>Bool.noConfusion (show true=false from h.1))),(hb),((fun h=>Bool.noConfusion (show true=false from h.1))),(hb),((fun h=>Bool.noConfusion (show true=false from h.1))),(hb),((fun h=>Bool.noConfusion (show true=false from h.1))),(hb),((fun h=>Bool.noConfusion (show true=false from h.1))),(hb),((fun h=>Bool.noConfusion (show true=false from h.1))),(hb),((fun h=>Bool.noConfusion (show true=false from h.1))),(hb),((fun h=>Bool.noConfusion (show true=false from h.1))),(hb),((fun h=>Bool.noConfusion (show true=false from h.1))),(hb),((fun h=>Bool.noConfusion (show true=false from h.1))),(hb),((fun h=>Bool.noConfusion (show true=false from h.1))),(hb),((fun h=>Bool.noConfusion (show true=false from h.1))),(hb),((fun h=>Bool.noConfusion (show true=false from h.1))),(hb),trivial⟩ (bZ.le (st':=⟨[(4,(vB true))],[]⟩) ⟨⟨⟨_,rfl,dY.v (eX.one (eD.of (congrArg (fun b=>CV.d (.bool b)) (CJ hb))))⟩,trivial⟩,trivial⟩) ?_
  refine aR ?_
  obtain rfl:=oi h
  exact rl [(sB true)]
 ·skip
  refine bE h fun r_ hr_ h=> ?_
  refine bE h fun u0 hr_1 h=> ?_
  refine di tT mX ⟨[(4,(vB (bif (!b.there)then true else(decide (u0<0)))))],[]⟩ [(!b.there)=false,(!b.there)=false,(!b.there)=false,(!b.there)=false,(!b.there)=false,(!b.there)=false,(!b.there)=false,(!b.there)=false,(!b.there)=false,(!b.there)=false,(!b.there)=false,(!b.there)=false,(!b.there)=false,(!b.there)=false,(!b.there)=false,(!b.there)=false,(!b.there)=false,gP (jq [(3,false)]) [(3,false)]→All [Fn Try.prog 111 [(sD (bg none 1 (aC .i64) a.af)),(sD (bg none 1 (aC .i64) b.af))] [] (vI r_) []],(!b.there)=false,gP (jq [(3,false)]) [(3,false)]→All [[(L6 a b),(LK a b),r_].length=3,aY 3 1 (jf 1 [(.int .i64 (L6 a b)),(.int .i64 (LK a b)),(.int .i64 r_)]) (agK a b r_)],gP (jq [(3,false)]) [(3,false)],(!b.there)=false,gP (jq [(3,false)]) [(3,false)]→All [Fn Try.prog 110 [(.one (.own 6 true ([(L6 a b),(LK a b),r_].length)))] (adJ a b r_) (vI u0) (adJ a b r_)],(!b.there)=false,(!b.there)=false] {yb:=[(3,false)],an:=[(20, .call [] (vI r_) []),(21, .arr [(L6 a b),(LK a b),r_].length (agK a b r_)),(22, .callR [6] (vI u0))],fr:=[(21,6)] } [] ⟨(hb),(hb),(hb),(hb),(hb),(hb),(hb),(hb),(hb),(hb),(hb),(hb),(hb),(hb),(hb),(hb),(hb),(fun hg=> ⟨(Dr a.af b.af hr_),trivial⟩),(hb),(fun hg=> ⟨(rfl),((by intro i hi j hj;match i,j,hi,hj with|0,0,_,_=>rfl|1,0,_,_=>rfl|2,0,_,_=>rfl)),trivial⟩),(⟨rfl,trivial⟩),(hb),(fun hg=> ⟨(Fn.xP (frz:=[6]) (p:=[[(L6 a b),(LK a b),r_].length=[(L6 a b),(LK a b),r_].length]) (Fn.le (args':=[(sD (bg (some true) 1 (aC .i64) [(L6 a b),(LK a b),r_]))]) (Qq [(L6 a b),(LK a b),r_] hr_1) ⟨eX.one (eD.d gX.oP),trivial⟩) (by kernel_rfl) ⟨rfl,trivial⟩ rfl),trivial⟩),(hb),(hb),trivial⟩ (bZ.le (st':=⟨[(4,(vB (decide (u0<0))))],[]⟩) ⟨⟨⟨_,rfl,dY.v (eX.one (eD.of (congrArg (fun b=>CV.d (.bool b)) (Ct hb))))⟩,trivial⟩,trivial⟩) ?_
  refine aR ?_
  obtain rfl:=oi h
  exact rl [(sB (decide (u0<0)))]
def rH  :(List Way)→Exit→St→Prop:=
  fun r=>bR TT [.tmp 6] (vO 0 true r.length) [(0,some (dK 141 3 Way.cell r))]
section
variable (u0:(List Way)) (p:au) (s_:ay) (u1:Bool)
abbrev qJ:Nat × TV:=(7,(vD (.fn 109 0 (mM []))))
abbrev xQ:Nat × TV:=(8,(vO 405 true u0.length))
abbrev L9:Nat × Option Ob:=(403,some (XH p))
abbrev CK:List (Nat × Option Ob):=[(L9 p),(405,some (dK 141 3 Way.cell u0))]
abbrev aaF:St:=⟨[(3,(vP 403 0)),(bB s_),qJ,(xQ u0),(9,(vB u1))],(CK u0 p)⟩
end
def yu (p:au) (s_:ay):((List Way) × Bool)→St:=
  fun zz=>match zz with|(u0,u1)=>(aaF u0 p s_ u1)
def yO  :(List Way)→St:=
  fun u0=> ⟨[(xQ u0)],[(405,some (dK 141 3 Way.cell u0))]⟩
def qg (p:au) (s_:ay):(bn ((List Way) × Bool) (Ex (List Way) (List Way)))→Exit→St→Prop:=
  LQ 0 [] (yu p s_) yO rH
section
variable (p:au) (s_:ay) (u0:(List Way)) (u1:Bool) (u2:Int)
abbrev zF:Nat × TV:=(26,(vD (bg none 6 aM.cell p.af)))
abbrev zH:Nat × TV:=(27,(vI (p.af.length:Int)))
abbrev acN:St:=⟨[(3,(vP 403 0)),(bB s_),qJ,(xQ u0),(9,(vB u1)),(zF p),(zH p),(28,(vI u2))],(CK u0 p)⟩
end
def xU (p:au) (s_:ay):((List Way) × Bool × Int)→St:=
  fun zz=>match zz with|(u0,u1,u2)=>(acN p s_ u0 u1 u2)
def xW (p:au) (s_:ay):((List Way) × Bool)→St:=
  fun zz=>match zz with|(u0,u1)=>(aaF u0 p s_ u1)
def qm (p:au) (s_:ay):(bn ((List Way) × Bool × Int) (Ex ((List Way) × Bool) (bn ((List Way) × Bool) (Ex (List Way) (List Way)))))→Exit→St→Prop:=
  LQ 2 [1] (xU p s_) (xW p s_) (qg p s_)
section
variable (p:au) (u0:Int)
abbrev acI:List CV:=[(cI ((at' p.af u0.toNat).a)),(cI ((at' p.af u0.toNat).b)),(cI ((at' p.af u0.toNat).b)),(cI ((at' p.af u0.toNat).a))]
abbrev GL:Nat × TV:=(48,(.v (.agg (acI p u0))))
end
def xY (p:au) (s_:ay) (u0:Int):((List Way) × Bool × Int)→St:=
  fun zz=>match zz with|(u1,u2,u3)=> ⟨[(3,(vP 403 0)),(bB s_),qJ,(xQ u1),(9,(vB u2)),(10,(vI u0)),(OV p u0),(zF p),(zH p),(28,(vI u0)),(GL p u0),(49,(vI u3))],(CK u1 p)⟩
def xZ (p:au) (s_:ay) (u1:Int):((List Way) × Bool)→St:=
  fun zz=>match zz with|(u0,u2)=>(acN p s_ u0 u2 u1)
def Gv (p:au) (s_:ay) (u0:Int):(bn ((List Way) × Bool × Int) (Ex ((List Way) × Bool) (bn ((List Way) × Bool × Int) (Ex ((List Way) × Bool) (bn ((List Way) × Bool) (Ex (List Way) (List Way)))))))→Exit→St→Prop:=
  LQ 4 [3] (xY p s_ u0) (xZ p s_ u0) (qm p s_)
section
variable (p:au) (u3:Int) (s_:ay) (u5:(List Way)) (u8:Bool) (u0:Int) (u1:Int) (u2:(List Way)) (u6:Bool) (u4:(List Int))
abbrev adt:List (Nat × Option Ob):=[(L9 p)]
abbrev JZ:=(List.replicate p.ax.toNat ((⟨false,0,([]:List Int)⟩:Way):Way))
abbrev ahw:Nat × TV:=(8,(vO 405 true ((JZ p).length)))
abbrev ags:List (Nat × TV):=[(2,(vI u3)),(3,(vP 403 0)),(bB s_),qJ,(ahw p)]
abbrev abw:=((JZ p).set u3.toNat (⟨true,(at' (JZ p) u3.toNat).bU,(at' (JZ p) u3.toNat).af⟩:Way))
abbrev acg:=(aN Way.cell (abw p u3))
abbrev ahy:Nat × TV:=(8,(vO 405 true ((abw p u3).length)))
abbrev agl:List (Nat × Option Ob):=[(L9 p),(405,some (dK 141 3 Way.cell (abw p u3)))]
abbrev ahV:St:=⟨[(3,(vP 403 0)),(bB s_),qJ,(xQ u5),(9,(vB u8)),(zF p),(zH p),(28,(k3 u0))],(CK u5 p)⟩
abbrev aci:=(⟨(at' p.af u0.toNat).a,(at' p.af u0.toNat).b⟩:ah)
abbrev acs:=(⟨(at' p.af u0.toNat).b,(at' p.af u0.toNat).a⟩:ah)
abbrev agm:=(at' [(aci p u0),(acs p u0)] u1.toNat)
abbrev aaT:=((agm p u0 u1).e0)
abbrev Zu:=((agm p u0 u1).e1)
abbrev afK:List DV:=[(.int .i64 (aaT p u0 u1)),(.int .i64 (Zu p u0 u1))]
abbrev acS:=(at' u2 ((aaT p u0 u1).toNat))
abbrev ad2:=((acS p u0 u1 u2).there)
abbrev aeJ:=((acS p u0 u1 u2).bU)
abbrev agu:=((acS p u0 u1 u2).af)
abbrev ad3:Nat × TV:=(14,(vD (kK [(.bool (ad2 p u0 u1 u2)),(.int .i64 (aeJ p u0 u1 u2)),(bg none 1 (aC .i64) (agu p u0 u1 u2))] 0)))
abbrev Xu:Nat × TV:=(15,(vI (Zu p u0 u1)))
abbrev adL:St:=⟨[(3,(vP 403 0)),(bB s_),qJ,(xQ u2),(9,(vB u6)),(10,(vI u0)),(OV p u0),(zF p),(zH p),(28,(vI u0)),(GL p u0),(49,(k3 u1))],(CK u2 p)⟩
abbrev abB:=(IntKind.wrap .i64 ((aeJ p u0 u1 u2)+((at' p.af u0.toNat).bU)))
abbrev afu:List DV:=[(.bool true),(.int .i64 (abB p u0 u1 u2)),(bg none 1 (aC .i64) (u4++[u0]))]
abbrev adU:Nat × TV:=(16,(vD (kK (afu p u0 u1 u2 u4) 0)))
abbrev ahY:=(⟨true,(abB p u0 u1 u2),(u4++[u0])⟩:Way)
abbrev ace:=((Zu p u0 u1).toNat)
abbrev aa4:=(u2.set (ace p u0 u1) (ahY p u0 u1 u2 u4))
abbrev aat:=(aN Way.cell (aa4 p u0 u1 u2 u4))
abbrev acC:Nat × TV:=(8,(vO 405 true ((aa4 p u0 u1 u2 u4).length)))
abbrev abD:List (Nat × Option Ob):=[(L9 p),(405,some (dK 141 3 Way.cell (aa4 p u0 u1 u2 u4)))]
end
theorem Gl (p:au) (s_:ay) (u3:Int) {r:(List Way)} (h:mO p s_ u3=some r):Fn Try.prog 66 (OX p s_ u3) [] (vO 0 true r.length) [(0,some (dK 141 3 Way.cell r))]:=by
 refine fN tT Try.func66 rfl rfl fun B=> ?_
 show bW _ _ _ _ _ _ (rH r) _
 unfold mO at h
 refine sz tT ⟨[(2,(vI u3)),(3,(vP 403 0)),(bB s_)],(adt p)⟩ {fr:=[(0,403),(1,404)] } [404] ?_
 refine sz tT ⟨[(2,(vI u3)),(3,(vP 403 0)),(bB s_),qJ],(adt p)⟩ {} [] ?_
 refine aQ (aO h fun⟨a1,a2,a3⟩ h=> ?_)
 refine ri tT ⟨(ags p u3 s_),[(L9 p),(405,some (.arr 141 3 (JZ p).length (fun _ j=>[(.bool false),(.int .i64 0),nS].getD j .nilp)))]⟩ [_,(p.ax:Int)=p.ax,_,_,(JZ p).length=p.ax.toNat,aY p.ax.toNat 3 (fun _ j=>[(.bool false),(.int .i64 0),nS].getD j .nilp) (fun _ j=>[(.bool false),(.int .i64 0),nS].getD j .nilp)] {an:=[(2, .arr (JZ p).length (fun _ j=>[(.bool false),(.int .i64 0),nS].getD j .nilp))],fr:=[(2,405)] } [] ⟨a1,rfl,a2,a3,(List.length_replicate),(gN _ _ _),trivial⟩ (bZ.le (st':=⟨(ags p u3 s_),[(L9 p),(405,some (dK 141 3 Way.cell (JZ p)))]⟩) ⟨⟨tR,tR,tR,tR,tR,trivial⟩,⟨rfl, .refl _,⟨rfl,Sv (ahc _ _ _ _ _ (fun j hj=>match j,hj with|0,_=> .refl _|1,_=> .refl _|2,_=>gX.nil')),trivial⟩⟩⟩) ?_
 refine aQ (aO h fun a1 h=> ?_)
 refine ri tT ⟨[(3,(vP 403 0)),(bB s_),qJ,(ahw p)],[(L9 p),(405,some (.arr 141 3 (JZ p).length (acg p u3)))]⟩ [_,_,aY (JZ p).length 3 (lg (aN Way.cell (JZ p)) u3.toNat 0 [(.bool true)]) (acg p u3)] {an:=[(4, .arr 0 (acg p u3))] } [] ⟨a1,(tL a1),(cZ _ _ _ _ _ _ _ _ rfl (fun j hj=>(match j,hj with|0,_=>rfl|1,_=>rfl|2,_=>rfl))),trivial⟩ (bZ.le (st':=⟨[(3,(vP 403 0)),(bB s_),qJ,(ahy p u3)],(agl p u3)⟩) ⟨⟨tR,tR,tR,⟨_,rfl,dY.v (eX.one cW)⟩,trivial⟩,⟨rfl, .refl _,⟨rfl,oW,trivial⟩⟩⟩) ?_
 refine aQ (sz tT ⟨[(3,(vP 403 0)),(bB s_),qJ,(ahy p u3),(9,(vB true))],(agl p u3)⟩ {} [] ?_)
 refine bE h fun y2 hy h=> ?_
 refine aL [] (yu p s_) yO rH hy (fun s f h=> ?_) ?_
 ·clear hy
  show bW _ _ _ _ _ _ ((qg p s_) f) _
  unfold j6 at h
  obtain⟨u7,v1⟩:=s
  refine aQ (sz tT ⟨[(3,(vP 403 0)),(bB s_),qJ,(xQ u7),(24,(vB v1))],(CK u7 p)⟩ {} [] ?_)
  refine bI h (fun hb5 h=> ?_) (fun hb5 h=> ?_)
  ·refine ct hb5 ?_
   refine aP (aB (sz tT ⟨[(3,(vP 403 0)),(bB s_),qJ,(xQ u7),(9,(vB false))],(CK u7 p)⟩ {} [] ?_))
   refine sz tT ⟨[(3,(vP 403 0)),(bB s_),qJ,(xQ u7),(9,(vB false)),(zF p),(zH p),(28,(vI 0))],(CK u7 p)⟩ {} [] ?_
   refine bE h fun y1 hy h=> ?_
   refine aL [1] (xU p s_) (xW p s_) (qg p s_) hy (fun s f h=> ?_) ?_
   ·clear hy
    show bW _ _ _ _ _ _ ((qm p s_) f) _
    unfold mW at h
    obtain⟨u5,u8,u0⟩:=s
    refine sz tT ⟨[(3,(vP 403 0)),(bB s_),qJ,(xQ u5),(9,(vB u8)),(zF p),(zH p),(28,(vI u0)),(29,(k98 p u0))],(CK u5 p)⟩ {} [] ?_
    refine aQ ?_
    refine bI h (fun hb4 h=> ?_) (fun hb4 h=> ?_)
    ·refine ct hb4 ?_
     refine aP (aQ (aB (aQ (aO h fun a1 h=> ?_))))
     refine rg tT ⟨[(3,(vP 403 0)),(bB s_),qJ,(xQ u5),(9,(vB u8)),(10,(vI u0)),(OV p u0),(zF p),(zH p),(28,(vI u0))],(CK u5 p)⟩ [_] {fr:=[(3,781)] } [781] ⟨a1,trivial⟩ ?_
     refine aQ (aQ (bE h fun r_ hr_ h=> ?_))
     have q0:=eP p s_ u0 hr_
     refine rg tT ⟨[(3,(vP 403 0)),(bB s_),qJ,(xQ u5),(9,(vB u8)),(10,(vI u0)),(OV p u0),(zF p),(zH p),(28,(vI u0)),(37,(vB (!r_)))],(CK u5 p)⟩ [_] {an:=[(3,cA q0 [])] } [] ⟨q0,trivial⟩ ?_
     refine bI h (fun hb3 h=> ?_) (fun hb3 h=> ?_)
     ·refine ct hb3 ?_
      refine aX (rz tT (ahV p s_ u5 u8 u0) {} [] ?_)
      obtain rfl:=oi h
      exact lN
     ·refine cf hb3 ?_
      refine aP (sz tT ⟨[(3,(vP 403 0)),(bB s_),qJ,(xQ u5),(9,(vB u8)),(10,(vI u0)),(OV p u0),(zF p),(zH p),(28,(vI u0)),(GL p u0),(49,(vI 0))],(CK u5 p)⟩ {} [] ?_)
      refine bE h fun y hy h=> ?_
      refine aL [3] (xY p s_ u0) (xZ p s_ u0) (qm p s_) hy (fun s f h=> ?_) ?_
      ·clear hy
       show bW _ _ _ _ _ _ ((Gv p s_ u0) f) _
       unfold ja at h
       obtain⟨u2,u6,u1⟩:=s
       refine sz tT ⟨[(3,(vP 403 0)),(bB s_),qJ,(xQ u2),(9,(vB u6)),(10,(vI u0)),(OV p u0),(zF p),(zH p),(28,(vI u0)),(GL p u0),(49,(vI u1)),(50,(vB (decide (u1<2))))],(CK u2 p)⟩ {} [] ?_
       refine aQ ?_
       refine bI h (fun hb2 h=> ?_) (fun hb2 h=> ?_)
       ·refine ct hb2 ?_
        refine aP (aQ (aB (aQ (aO h fun a1 h=> ?_))))
        refine rg tT ⟨[(3,(vP 403 0)),(bB s_),qJ,(xQ u2),(9,(vB u6)),(10,(vI u0)),(OV p u0),(13,(vP 800 0)),(zF p),(zH p),(28,(vI u0)),(GL p u0),(49,(vI u1))],[(L9 p),(405,some (dK 141 3 Way.cell u2)),(800,some (.cells 164 [(cI (aaT p u0 u1)),(cI (Zu p u0 u1))]))]⟩ [_,u1.toNat*2+2≤(acI p u0).length,((acI p u0).drop (u1.toNat*2)).take 2=(afK p u0 u1).map .d] {an:=[(0, .vals (afK p u0 u1))],fr:=[(1,800)] } [] ⟨a1,(Wv (n:=2) (sz:=2) (Nat.le_refl _) a1),(Vt (n:=2) (sz:=2) (g:=fun q=>[(cI ((at' [(aci p u0),(acs p u0)] q).e0)),(cI ((at' [(aci p u0),(acs p u0)] q).e1))]) (by intro q hq;match q,hq with|0,_=>rfl|1,_=>rfl) a1),trivial⟩ ?_
        refine aQ (aO h fun a1 h=> ?_)
        refine dg tT mX ⟨[(3,(vP 403 0)),(bB s_),qJ,(xQ u2),(9,(vB u6)),(10,(vI u0)),(OV p u0),(ad3 p u0 u1 u2),(Xu p u0 u1),(zF p),(zH p),(28,(vI u0)),(GL p u0),(49,(vI u1))],(CK u2 p)⟩ [(0:Int)≤0∧(0:Int)<(2:Nat),_,_,(0:Int)≤1∧(1:Int)<(2:Nat)] {fr:=[(7,801)] } [801] ⟨((by decide)),a1,(tL a1),((by decide)),trivial⟩ ?_
        refine aQ (sz tT ⟨[(3,(vP 403 0)),(bB s_),qJ,(xQ u2),(9,(vB u6)),(10,(vI u0)),(OV p u0),(ad3 p u0 u1 u2),(Xu p u0 u1),(zF p),(zH p),(28,(vI u0)),(GL p u0),(49,(vI u1)),(61,(vB (!(ad2 p u0 u1 u2))))],(CK u2 p)⟩ {} [] ?_)
        refine bI h (fun hb1 h=> ?_) (fun hb1 h=> ?_)
        ·refine ct hb1 ?_
         refine aX (rz tT (adL p s_ u0 u1 u2 u6) {} [] ?_)
         obtain rfl:=oi h
         exact lN
        ·refine cf hb1 ?_
         refine aP (aQ (bE h fun u4 hr_1 h=> ?_))
         refine aO h fun⟨a1,a2⟩ h=> ?_
         have q0:=rk [(0,802)] (xK (agu p u0 u1 u2) hr_1)
         refine di tT mX ⟨[(3,(vP 403 0)),(bB s_),qJ,(xQ u2),(9,(vB u6)),(10,(vI u0)),(OV p u0),(Xu p u0 u1),(16,(vP 805 0)),(zF p),(zH p),(28,(vI u0)),(GL p u0),(49,(vI u1))],[(L9 p),(405,some (dK 141 3 Way.cell u2)),(805,some (.cells 141 [(cB true),(cI (abB p u0 u1 u2)),(.d (bg none 1 (aC .i64) (u4++[u0])))]))]⟩ [_,[u0].length=1,aY 1 1 (jf 1 [(.int .i64 u0)]) (aN (aC .i64) [u0]),u4.length=u4.length,_,_,(u4++[u0]).length=u4.length+[u0].length,aY (u4.length+[u0].length) 1 (CY (aN (aC .i64) u4) u4.length (aN (aC .i64) [u0])) (aN (aC .i64) (u4++[u0])),(u4++[u0]).length=(u4++[u0]).length] {an:=[(7,cA q0 []),(9, .arr [u0].length (aN (aC .i64) [u0])),(10, .arr (u4++[u0]).length (aN (aC .i64) (u4++[u0])))],fr:=[(9,803),(10,804),(12,805)] } [804] ⟨q0,(rfl),((by intro i hi j hj;match i,j,hi,hj with|0,0,_,_=>rfl)),rfl,a1,a2,(List.length_append),(jy _ _ _ _),rfl,trivial⟩ (fz ⟨[(3,(vP 403 0)),(bB s_),qJ,(xQ u2),(9,(vB u6)),(10,(vI u0)),(OV p u0),(Xu p u0 u1),(adU p u0 u1 u2 u4),(zF p),(zH p),(28,(vI u0)),(GL p u0),(49,(vI u1))],(CK u2 p)⟩ [805]) ?_
         refine aQ (bE h fun v2 hr_2 h=> ?_)
         refine aO h fun a1 h=> ?_
         have q2:=Iq (ahY p u0 u1 u2 u4) (at' u2 (ace p u0 u1)) hr_2
         refine dg tT mX ⟨[(3,(vP 403 0)),(bB s_),qJ,(xQ u2),(9,(vB u6)),(10,(vI u0)),(OV p u0),(Xu p u0 u1),(adU p u0 u1 u2 u4),(zF p),(zH p),(28,(vI u0)),(GL p u0),(49,(vI u1)),(80,(vB v2))],(CK u2 p)⟩ [_,_,_] {an:=[(6,cA q2 [])] } [] ⟨a1,(tL a1),q2,trivial⟩ ?_
         refine bI h (fun hb h=> ?_) (fun hb h=> ?_)
         ·refine ct hb ?_
          refine aQ (aO h fun a1 h=> ?_)
          refine ri tT ⟨[(3,(vP 403 0)),(bB s_),qJ,(xQ u2),(10,(vI u0)),(OV p u0),(zF p),(zH p),(28,(vI u0)),(GL p u0),(49,(vI u1))],[(L9 p),(405,some (.arr 141 3 u2.length (aat p u0 u1 u2 u4)))]⟩ [_,_,aY u2.length 3 (lg (aN Way.cell u2) (ace p u0 u1) 0 (afu p u0 u1 u2 u4)) (aat p u0 u1 u2 u4)] {an:=[(4, .arr 0 (aat p u0 u1 u2 u4))] } [] ⟨a1,(tL a1),(cZ _ _ _ _ _ _ _ _ rfl (fun j hj=>(match j,hj with|0,_=>rfl|1,_=>rfl|2,_=>rfl))),trivial⟩ (bZ.le (st':=⟨[(3,(vP 403 0)),(bB s_),qJ,(acC p u0 u1 u2 u4),(10,(vI u0)),(OV p u0),(zF p),(zH p),(28,(vI u0)),(GL p u0),(49,(vI u1))],(abD p u0 u1 u2 u4)⟩) ⟨⟨tR,tR,tR,⟨_,rfl,dY.v (eX.one cW)⟩,tR,tR,tR,tR,tR,tR,tR,trivial⟩,⟨rfl, .refl _,⟨rfl,oW,trivial⟩⟩⟩) ?_
          refine rz tT ⟨[(3,(vP 403 0)),(bB s_),qJ,(acC p u0 u1 u2 u4),(9,(vB true)),(10,(vI u0)),(OV p u0),(zF p),(zH p),(28,(vI u0)),(GL p u0),(49,(vI u1))],(abD p u0 u1 u2 u4)⟩ {} [] ?_
          refine rz tT ⟨[(3,(vP 403 0)),(bB s_),qJ,(acC p u0 u1 u2 u4),(9,(vB true)),(10,(vI u0)),(OV p u0),(zF p),(zH p),(28,(vI u0)),(GL p u0),(49,(k3 u1))],(abD p u0 u1 u2 u4)⟩ {} [] ?_
          obtain rfl:=oi h
          exact lN
         ·refine cf hb ?_
          refine aP (rz tT (adL p s_ u0 u1 u2 u6) {} [] ?_)
          obtain rfl:=oi h
          exact lN
       ·refine cf hb2 ?_
        refine aI (fz (acN p s_ u2 u6 u0) []) ?_
        refine aX ?_
        obtain rfl:=oi h
        exact lB
      ·clear hy
       cases y with
       |brk z=>
        obtain⟨v0,v3⟩:=z
        unfold fT
        refine⟨_, .refl, ?_⟩
        refine rz tT (ahV p s_ v0 v3 u0) {} [] ?_
        obtain rfl:=oi h
        exact lN
       |ret v=>
        obtain rfl:=oi h
        unfold fT
        intro e st hn ha hR
        cases e with
        |normal=>exact absurd rfl hn
        |exit id=>simp only [qB (b:=3) ha rfl,cond_false];exact hR
        |goto l=>exact hR
        |ret=>exact hR
        |panic c=>exact hR
        |outgrown=>exact hR
    ·refine cf hb4 ?_
     refine aI (fz (aaF u5 p s_ u8) []) ?_
     refine aX ?_
     obtain rfl:=oi h
     exact lB
   ·clear hy
    cases y1 with
    |brk z=>
     obtain⟨v4,v5⟩:=z
     unfold fT
     refine⟨_, .refl, ?_⟩
     obtain rfl:=oi h
     exact lN
    |ret v=>
     obtain rfl:=oi h
     unfold fT
     intro e st hn ha hR
     cases e with
     |normal=>exact absurd rfl hn
     |exit id=>simp only [qB (b:=1) ha rfl,cond_false];exact hR
     |goto l=>exact hR
     |ret=>exact hR
     |panic c=>exact hR
     |outgrown=>exact hR
  ·refine cf hb5 ?_
   refine aI (fz ⟨[(xQ u7)],[(405,some (dK 141 3 Way.cell u7))]⟩ []) ?_
   refine aX ?_
   obtain rfl:=oi h
   exact lB
 ·clear hy
  cases y2 with
  |brk z=>
   obtain⟨u9,rfl⟩: ∃q,q=z:=⟨_,rfl⟩
   unfold fT
   refine⟨_, .refl, ?_⟩
   refine sz tT ⟨[(6,(vO 405 true u9.length))],[(405,some (dK 141 3 Way.cell u9))]⟩ {} [] ?_
   refine aI (bZ.fin (st':=⟨[(6,(vO 0 true u9.length))],[(0,some (dK 141 3 Way.cell u9))]⟩) (cs:=[]) ⟨[],[(405,0)]⟩ [6] (by kernel_rfl) trivial) ?_
   refine aR ?_
   obtain rfl:=oi h
   exact rl [(.one (.own 0 true u9.length))]
  |ret v=>
   obtain rfl:=oi h
   unfold fT
   intro e st hn ha hR
   cases e with
   |normal=>exact absurd rfl hn
   |exit id=>exact hR
   |goto l=>exact hR
   |ret=>exact hR
   |panic c=>exact hR
   |outgrown=>exact hR
def sJ  :((List aA) × Int)→Exit→St→Prop:=
  fun r=>bR TT [.tmp 6, .tmp 7] (.iG [(sD (bg none 4 aA.cell r.1)),(sI r.2)]) []
section
variable (u0:(List aA)) (p:au)
abbrev LD:Nat × TV:=(9,(vO 28 false u0.length))
abbrev FE:Nat × TV:=(29,(vD (bg none 5 aj.cell p.ai)))
abbrev F8:Nat × TV:=(30,(vI (p.ai.length:Int)))
abbrev LA:List (Nat × Option Ob):=[(28,some (dK 47 4 aA.cell u0))]
end
def zP (p:au) (s_:ay) (u1:Int):((List aA) × Int)→St:=
  fun zz=>match zz with|(u0,u2)=> ⟨[(2,(vI u1)),(dw p),(bB s_),(LD u0),(FE p),(F8 p),(31,(vI u2))],(LA u0)⟩
def zS  :(List aA)→St:=
  fun u0=> ⟨[(LD u0)],(LA u0)⟩
def Io (p:au) (s_:ay) (u0:Int):(bn ((List aA) × Int) (Ex (List aA) ((List aA) × Int)))→Exit→St→Prop:=
  LQ 0 [] (zP p s_ u0) zS sJ
section
variable (p:au) (u1:Int) (u0:Int) (s_:ay) (u3:(List aA)) (u2:(List Way))
abbrev Xc:List (Nat × Option Ob):=[(22,some (XH p))]
abbrev aim:TV:=(vD (kK [(.int .i64 ((at' p.ai u1.toNat).bus)),(.int .i64 ((at' p.ai u1.toNat).kind)),(.int .i64 ((at' p.ai u1.toNat).cK)),(.int .i64 ((at' p.ai u1.toNat).sync)),(.int .i64 ((at' p.ai u1.toNat).bU))] 0))
abbrev Ye:Nat × TV:=(11,(aim p u1))
abbrev ag7:St:=⟨[(2,(vI u0)),(dw p),(bB s_),(LD u3),(FE p),(F8 p),(31,(k3 u1))],(LA u3)⟩
abbrev ac4:Nat × TV:=(12,(vD (kK [(.bool ((at' u2 u0.toNat).there)),(.int .i64 ((at' u2 u0.toNat).bU)),(bg none 1 (aC .i64) ((at' u2 u0.toNat).af))] 0)))
abbrev Xz:=(IntKind.wrap .i64 (((at' p.ai u1.toNat).bU)+((at' u2 u0.toNat).bU)))
abbrev afH:=(IntKind.wrap .i64 (Int.tdiv (IntKind.wrap .i64 ((IntKind.wrap .i64 ((400000:Int)+(Xz p u1 u0 u2))) - 1)) (Xz p u1 u0 u2)))
abbrev Uc:=(⟨u1,(Xz p u1 u0 u2),(afH p u1 u0 u2),(at' u2 u0.toNat).af⟩:aA)
abbrev Xg:=(u3++[(Uc p u1 u0 u2)])
abbrev aiq:=((Xg p u1 u0 u3 u2).length)
abbrev afi:Nat × TV:=(9,(vO 43 false (aiq p u1 u0 u3 u2)))
abbrev afa:Ob:=(dK 47 4 aA.cell (Xg p u1 u0 u3 u2))
abbrev afp:List (Nat × Option Ob):=[(43,some (afa p u1 u0 u3 u2))]
abbrev aaL:=(aN aA.cell [(Uc p u1 u0 u2)])
abbrev adv:=(aN aA.cell (Xg p u1 u0 u3 u2))
end
theorem iW (p:au) (s_:ay) (u0:Int) {r:((List aA) × Int)} (h:fF p s_ u0=some r):Fn Try.prog 17 (OX p s_ u0) [] (.iG [(sD (bg none 4 aA.cell r.1)),(sI r.2)]) []:=by
 refine fN tT Try.func17 rfl rfl fun B=> ?_
 show bW _ _ _ _ _ _ (sJ r) _
 unfold fF at h
 refine sz tT ⟨[(2,(vI u0)),(3,(vP 22 0)),(bB s_)],(Xc p)⟩ {fr:=[(0,22),(1,23)] } [23] ?_
 refine aQ (aQ (bE h fun r_ hr_ h=> ?_))
 have q0:=dU p s_ hr_
 refine rg tT ⟨[(2,(vI u0)),(3,(vP 22 0)),(bB s_),(8,(vI r_))],(Xc p)⟩ [_] {an:=[(2,cA q0 [])] } [] ⟨q0,trivial⟩ ?_
 refine sz tT ⟨[(2,(vI u0)),(3,(vP 22 0)),(bB s_),(8,(vI r_)),(18,(vB (!decide (r_=0))))],(Xc p)⟩ {} [] ?_
 refine bI h (fun hb4 h=> ?_) (fun hb4 h=> ?_)
 ·refine ct hb4 ?_
  refine sz tT ⟨[(6,(vD nS)),(7,(vI r_))],[]⟩ {} [] ?_
  refine aI (bZ.le (st':=⟨[(6,(vD (bg none 4 aA.cell ([]:List aA)))),(7,(vI r_))],[]⟩) ⟨⟨⟨_,rfl,dY.v (eX.one (eD.d gX.nil'))⟩,tR,trivial⟩,trivial⟩) ?_
  refine aR ?_
  obtain rfl:=oi h
  exact rl [(sD (bg none 4 aA.cell ([]:List aA))),(sI r_)]
 ·refine cf hb4 ?_
  refine aP (aQ (sg tT ⟨[(2,(vI u0)),(3,(vP 22 0)),(bB s_),(27,(vB (bif (decide (u0<0))then true else(decide (p.ax≤u0)))))],(Xc p)⟩ (eqs (decide (u0<0)) 5 []) {yb:=[(2,(decide (u0<0)))] } [] (ae trivial) ?_))
  refine bI h (fun hb3 h=> ?_) (fun hb3 h=> ?_)
  ·refine ct hb3 ?_
   refine sz tT ⟨[(6,(vD nS)),(7,(vI 1))],[]⟩ {} [] ?_
   refine aI (bZ.le (st':=⟨[(6,(vD (bg none 4 aA.cell ([]:List aA)))),(7,(vI 1))],[]⟩) ⟨⟨⟨_,rfl,dY.v (eX.one (eD.d gX.nil'))⟩,tR,trivial⟩,trivial⟩) ?_
   refine aR ?_
   obtain rfl:=oi h
   exact rl [(sD (bg none 4 aA.cell ([]:List aA))),(sI 1)]
  ·refine cf hb3 ?_
   refine aP (sz tT ⟨[(2,(vI u0)),(3,(vP 22 0)),(bB s_),(9,(vD nS))],(Xc p)⟩ {} [] ?_)
   refine aQ (sz tT ⟨[(2,(vI u0)),(dw p),(bB s_),(9,(vD nS)),(FE p),(F8 p),(31,(vI 0))],[]⟩ {} [22] ?_)
   refine bE h fun y hy h=> ?_
   refine aI (.trans (bZ.WT (t:=9) (b:=44) (esz0:=0) (el0:=fun _ _=> .nilp) (E:=47) (esz:=4) (el:=aN aA.cell ([]:List aA)) (by kernel_rfl) (by kernel_rfl)) (.trans (bZ.fin (st':=⟨[(2,(vI u0)),(dw p),(bB s_),(9,(vO 28 false 0)),(FE p),(F8 p),(31,(vI 0))],[(28,some (.arr 47 4 0 (aN aA.cell ([]:List aA))))]⟩) (cs:=[]) ⟨[],[(44,28)]⟩ [2,3,4,9,29,30,31] (by kernel_rfl) trivial) (bZ.le (st':=⟨[(2,(vI u0)),(dw p),(bB s_),(9,(vO 28 false (([]:List aA).length))),(FE p),(F8 p),(31,(vI 0))],[(28,some (dK 47 4 aA.cell ([]:List aA)))]⟩) ⟨⟨tR,tR,tR,⟨_,rfl,dY.v (eX.one cW)⟩,tR,tR,tR,trivial⟩,⟨rfl,oW,trivial⟩⟩))) ?_
   refine aL [] (zP p s_ u0) zS sJ hy (fun s f h=> ?_) ?_
   ·clear hy
    show bW _ _ _ _ _ _ ((Io p s_ u0) f) _
    unfold jY at h
    obtain⟨u3,u1⟩:=s
    refine sz tT ⟨[(2,(vI u0)),(dw p),(bB s_),(LD u3),(FE p),(F8 p),(31,(vI u1)),(32,(vB (decide (u1<(p.ai.length:Int)))))],(LA u3)⟩ {} [] ?_
    refine aQ ?_
    refine bI h (fun hb2 h=> ?_) (fun hb2 h=> ?_)
    ·refine ct hb2 ?_
     refine aP (aQ (aB (aQ (aO h fun a1 h=> ?_))))
     refine rg tT ⟨[(2,(vI u0)),(dw p),(bB s_),(LD u3),(10,(vI u1)),(Ye p u1),(FE p),(F8 p),(31,(vI u1))],(LA u3)⟩ [_] {fr:=[(3,39)] } [39] ⟨a1,trivial⟩ ?_
     refine aQ (aQ (bE h fun u5 hr_1 h=> ?_))
     refine aO h fun a1 h=> ?_
     refine rg tT ⟨[(2,(vI u0)),(dw p),(bB s_),(LD u3),(10,(vI u1)),(Ye p u1),(FE p),(F8 p),(31,(vI u1)),(47,(vB (bif (at' s_.aG u0.toNat)then true else(!u5))))],(LA u3)⟩ (_::(eqs (at' s_.aG u0.toNat) 4 ((gP (jq [(5,(at' s_.aG u0.toNat))]) [(5,false)]→All [Fn Try.prog 65 (OX p s_ u1) [] (vB u5) []])::(eqs (at' s_.aG u0.toNat) 2 [])))) {yb:=[(5,(at' s_.aG u0.toNat))],an:=[(9, .call [] (vB u5) [])] } [] ⟨a1,(ae ⟨(fun hg=> ⟨(gJ p s_ u1 (iw hr_1 (bD hg))),trivial⟩),(ae trivial)⟩)⟩ ?_
     refine bI h (fun hb1 h=> ?_) (fun hb1 h=> ?_)
     ·refine ct hb1 ?_
      refine aX (rz tT (ag7 p u1 u0 s_ u3) {} [] ?_)
      obtain rfl:=oi h
      exact lN
     ·refine cf hb1 ?_
      refine aP (aQ (bE h fun u2 hr_2 h=> ?_))
      refine aO h fun a1 h=> ?_
      have q0:=rk [(0,40)] (Gl p s_ ((at' p.ai u1.toNat).bus) hr_2)
      refine rg tT ⟨[(2,(vI u0)),(dw p),(bB s_),(LD u3),(10,(vI u1)),(Ye p u1),(ac4 u0 u2),(FE p),(F8 p),(31,(vI u1))],(LA u3)⟩ [_,_,_] {an:=[(4,cA q0 [])],fr:=[(8,41)] } [41] ⟨q0,a1,(tL a1),trivial⟩ ?_
      refine sz tT ⟨[(2,(vI u0)),(dw p),(bB s_),(LD u3),(10,(vI u1)),(Ye p u1),(ac4 u0 u2),(FE p),(F8 p),(31,(vI u1)),(57,(vB ((at' u2 u0.toNat).there)))],(LA u3)⟩ {} [] ?_
      refine bI h (fun hb h=> ?_) (fun hb h=> ?_)
      ·refine ct hb ?_
       refine sz tT ⟨[(2,(vI u0)),(dw p),(bB s_),(LD u3),(10,(vI u1)),(ac4 u0 u2),(13,(vI (Xz p u1 u0 u2))),(FE p),(F8 p),(31,(vI u1))],(LA u3)⟩ {} [] ?_
       refine aO h fun⟨a1,a2,a3⟩ h=> ?_
       refine dg tT mX ⟨[(2,(vI u0)),(dw p),(bB s_),(afi p u1 u0 u3 u2),(FE p),(F8 p),(31,(vI u1))],(afp p u1 u0 u3 u2)⟩ [_,[(Uc p u1 u0 u2)].length=1,aY 1 4 (jf 4 [(.int .i64 u1),(.int .i64 (Xz p u1 u0 u2)),(.int .i64 (afH p u1 u0 u2)),(bg none 1 (aC .i64) ((at' u2 u0.toNat).af))]) (aaL p u1 u0 u2),u3.length=u3.length,_,_,(Xg p u1 u0 u3 u2).length=u3.length+[(Uc p u1 u0 u2)].length,aY (u3.length+[(Uc p u1 u0 u2)].length) 4 (CY (aN aA.cell u3) u3.length (aaL p u1 u0 u2)) (adv p u1 u0 u3 u2)] {an:=[(11, .arr [(Uc p u1 u0 u2)].length (aaL p u1 u0 u2)),(12, .arr (Xg p u1 u0 u3 u2).length (adv p u1 u0 u3 u2))],fr:=[(11,42),(12,43)] } [] ⟨a1,(rfl),((by intro i hi j hj;match i,j,hi,hj with|0,0,_,_=>rfl|0,1,_,_=>rfl|0,2,_,_=>rfl|0,3,_,_=>rfl)),rfl,a2,a3,(List.length_append),(jy _ _ _ _),trivial⟩ ?_
       refine ri tT ⟨[(2,(vI u0)),(dw p),(bB s_),(afi p u1 u0 u3 u2),(FE p),(F8 p),(31,(k3 u1))],(afp p u1 u0 u3 u2)⟩ [] {} [] trivial (bZ.fin (st':=⟨[(2,(vI u0)),(dw p),(bB s_),(9,(vO 28 false (aiq p u1 u0 u3 u2))),(FE p),(F8 p),(31,(k3 u1))],[(28,some (afa p u1 u0 u3 u2))]⟩) (cs:=[]) ⟨[],[(43,28)]⟩ [2,3,4,9,29,30,31] (by kernel_rfl) trivial) ?_
       obtain rfl:=oi h
       exact lN
      ·refine cf hb ?_
       refine aP (rz tT (ag7 p u1 u0 s_ u3) {} [] ?_)
       obtain rfl:=oi h
       exact lN
    ·refine cf hb2 ?_
     refine aI (fz ⟨[(LD u3)],(LA u3)⟩ []) ?_
     refine aX ?_
     obtain rfl:=oi h
     exact lB
   ·clear hy
    cases y with
    |brk z=>
     obtain⟨u4,rfl⟩: ∃q,q=z:=⟨_,rfl⟩
     unfold fT
     refine⟨_, .refl, ?_⟩
     refine sg tT ⟨[(6,(vD (bg none 4 aA.cell u4))),(7,(vI 0))],[]⟩ [u4.length=u4.length] {} [28] ⟨rfl,trivial⟩ ?_
     refine aR ?_
     obtain rfl:=oi h
     exact rl [(sD (bg none 4 aA.cell u4)),(sI 0)]
    |ret v=>
     obtain rfl:=oi h
     unfold fT
     intro e st hn ha hR
     cases e with
     |normal=>exact absurd rfl hn
     |exit id=>exact hR
     |goto l=>exact hR
     |ret=>exact hR
     |panic c=>exact hR
     |outgrown=>exact hR
def rM  :Int→Exit→St→Prop:=
  fun r=>bR TT [.tmp 4] (vI r) []
def yx (s_:(List Int)) (v_:Int):Int→St:=
  fun t8=> ⟨[(kE s_),(1,(vI v_)),(pG s_),(8,(vI t8))],[]⟩
def yA  :Unit→St:=
  fun _=> ⟨[],[]⟩
def Gh (s_:(List Int)) (v_:Int):(bn Int (Ex Unit Int))→Exit→St→Prop:=
  LQ 0 [] (yx s_ v_) yA rM
theorem GD (s_:(List Int)) (v_:Int) {r:Int} (h:wU s_ v_=some r):Fn Try.prog 114 [(sD (DX s_)),(sI v_)] [] (vI r) []:=by
 refine fN tT Try.func114 rfl rfl fun B=> ?_
 show bW _ _ _ _ _ _ (rM r) _
 unfold wU at h
 refine sz tT ⟨[(kE s_),(1,(vI v_))],[]⟩ {} [] ?_
 refine aQ (sz tT ⟨[(kE s_),(1,(vI v_)),(pG s_),(8,(vI 0))],[]⟩ {} [] ?_)
 refine bE h fun y hy h=> ?_
 refine aL [] (yx s_ v_) yA rM hy (fun s f h=> ?_) ?_
 ·clear hy
  show bW _ _ _ _ _ _ ((Gh s_ v_) f) _
  unfold yH at h
  obtain⟨t8,rfl⟩: ∃q,q=s:=⟨_,rfl⟩
  refine sz tT ⟨[(kE s_),(1,(vI v_)),(pG s_),(8,(vI t8)),(VD t8 s_)],[]⟩ {} [] ?_
  refine aQ ?_
  refine bI h (fun hb1 h=> ?_) (fun hb1 h=> ?_)
  ·refine ct hb1 ?_
   refine aP (aQ (aB (sz tT ⟨[(kE s_),(1,(vI v_)),(5,(vI t8)),(pG s_),(8,(vI t8))],[]⟩ {} [] ?_)))
   refine aQ (aO h fun a1 h=> ?_)
   refine rg tT ⟨[(kE s_),(1,(vI v_)),(5,(vI t8)),(pG s_),(8,(vI t8)),(16,(vB (decide (v_=(at' s_ t8.toNat)))))],[]⟩ [_] {} [] ⟨a1,trivial⟩ ?_
   refine bI h (fun hb h=> ?_) (fun hb h=> ?_)
   ·refine ct hb ?_
    refine sz tT ⟨[(4,(vI t8))],[]⟩ {} [] ?_
    refine aR ?_
    obtain rfl:=oi h
    exact lR dP (dQ 0) dO (bR.mk (.inr rfl) (p:=[]) (l:=[(sI t8)]) (by kernel_rfl) trivial (dY.refl _) trivial)
   ·refine cf hb ?_
    refine aP (rz tT ⟨[(kE s_),(1,(vI v_)),(pG s_),(ZO t8)],[]⟩ {} [] ?_)
    obtain rfl:=oi h
    exact lN
  ·refine cf hb1 ?_
   refine aI (fz ⟨[],[]⟩ []) ?_
   refine aX ?_
   obtain rfl:=oi h
   exact lB
 ·clear hy
  cases y with
  |brk z=>
   unfold fT
   refine⟨_, .refl, ?_⟩
   refine sz tT ⟨[(4,(vI (-1)))],[]⟩ {} [] ?_
   refine aR ?_
   obtain rfl:=oi h
   exact rl [(sI (-1))]
  |ret v=>
   obtain rfl:=oi h
   unfold fT
   intro e st hn ha hR
   cases e with
   |normal=>exact absurd rfl hn
   |exit id=>exact hR
   |goto l=>exact hR
   |ret=>exact hR
   |panic c=>exact hR
   |outgrown=>exact hR
def DU  :Bool→Exit→St→Prop:=
  fun r=>bR TT [.tmp 4] (vB r) []
theorem CU (s_:(List Int)) (v_:Int) {r:Bool} (h:p8 s_ v_=some r):Fn Try.prog 69 [(sD (DX s_)),(sI v_)] [] (vB r) []:=by
 refine fN tT Try.func69 rfl rfl fun B=> ?_
 show bW _ _ _ _ _ _ (DU r) _
 unfold p8 at h
 refine sz tT ⟨[(kE s_),(1,(vI v_))],[]⟩ {} [] ?_
 refine aQ (bE h fun r_ hr_ h=> ?_)
 have q0:=GD s_ v_ hr_
 refine rg tT (k32 r_) [_] {an:=[(2,cA q0 [])] } [] ⟨q0,trivial⟩ ?_
 refine aR ?_
 obtain rfl:=oi h
 exact rl [(sB (decide (0≤r_)))]
section
variable (o_:(List Int))
abbrev Dy:Ob:=(dK 3 1 (aC .i64) o_)
abbrev xI:List (Nat × Option Ob):=[(0,some (.cells 40 [(.own 1 true o_.length)])),(1,some (Dy o_))]
end
def Fs (o_:(List Int)):Bool→Exit→St→Prop:=
  fun r=>bR TT [.tmp 3] (vB r) (xI o_)
theorem DR (i:Int) (o_:(List Int)) {r:Bool} (h:q9 i o_=some r):Fn Try.prog 68 [(sI i),(.one (.ptr 0 0))] (xI o_) (vB r) (xI o_):=by
 refine fN tT Try.func68 rfl rfl fun B=> ?_
 show bW _ _ _ _ _ _ ((Fs o_) r) _
 unfold q9 at h
 refine sz tT ⟨[(0,(vI i)),(1,(vP 0 0))],(xI o_)⟩ {} [] ?_
 refine sg tT ⟨[(3,(vB (bif (decide (i<0))then true else(decide ((o_.length:Int)≤i)))))],(xI o_)⟩ (eqs (decide (i<0)) 5 []) {yb:=[(2,(decide (i<0)))] } [] (ae trivial) ?_
 refine aR ?_
 obtain rfl:=oi h
 exact rl [(sB (bif (decide (i<0))then true else(decide ((o_.length:Int)≤i))))]
def j3 (o_:(List Int)):Int→Exit→St→Prop:=
  fun r=>bR TT [.tmp 4] (vI r) (xI o_)
abbrev QN:Nat × TV:=(1,(.v (.one (.fn 68 0 1 (Cv [(.ptr 0 0)])))))
def ol (s_:(List Int)) (o_:(List Int)):Int→St:=
  fun t8=> ⟨[(kE s_),QN,(pG s_),(8,(vI t8))],(xI o_)⟩
section
variable (o_:(List Int))
abbrev agF:St:=⟨[],(xI o_)⟩
end
def ow (o_:(List Int)):Unit→St:=
  fun _=>(agF o_)
def yV (s_:(List Int)) (o_:(List Int)):(bn Int (Ex Unit Int))→Exit→St→Prop:=
  LQ 0 [] (ol s_ o_) (ow o_) (j3 o_)
section
variable (s_:(List Int)) (o_:(List Int))
abbrev afj:St:=⟨[(kE s_),QN],(xI o_)⟩
end
theorem y9 (s_:(List Int)) (o_:(List Int)) {r:Int} (h:lG s_ o_=some r):Fn Try.prog 113 [(sD (DX s_)),(.one (.fn 68 0 1 (Cv [(.ptr 0 0)])))] (xI o_) (vI r) (xI o_):=by
 refine fN tT Try.func113 rfl rfl fun B=> ?_
 show bW _ _ _ _ _ _ ((j3 o_) r) _
 unfold lG at h
 refine sz tT (afj s_ o_) {} [] ?_
 refine aQ (sz tT ⟨[(kE s_),QN,(pG s_),(8,(vI 0))],(xI o_)⟩ {} [] ?_)
 refine bE h fun y hy h=> ?_
 refine aL [] (ol s_ o_) (ow o_) (j3 o_) hy (fun s f h=> ?_) ?_
 ·clear hy
  show bW _ _ _ _ _ _ ((yV s_ o_) f) _
  unfold oJ at h
  obtain⟨t8,rfl⟩: ∃q,q=s:=⟨_,rfl⟩
  refine sz tT ⟨[(kE s_),QN,(pG s_),(8,(vI t8)),(VD t8 s_)],(xI o_)⟩ {} [] ?_
  refine aQ ?_
  refine bI h (fun hb1 h=> ?_) (fun hb1 h=> ?_)
  ·refine ct hb1 ?_
   refine aP (aQ (aB (sz tT ⟨[(kE s_),QN,(5,(vI t8)),(pG s_),(8,(vI t8))],(xI o_)⟩ {} [] ?_)))
   refine aQ (bE h fun r_ hr_ h=> ?_)
   refine aO h fun a1 h=> ?_
   have q1:=DR (at' s_ t8.toNat) o_ hr_
   refine rg tT ⟨[(kE s_),QN,(5,(vI t8)),(pG s_),(8,(vI t8)),(16,(vB r_))],(xI o_)⟩ [_,_] {an:=[(5,cR q1 [0,1])] } [] ⟨a1,q1,trivial⟩ ?_
   refine bI h (fun hb h=> ?_) (fun hb h=> ?_)
   ·refine ct hb ?_
    refine sz tT ⟨[(4,(vI t8))],(xI o_)⟩ {} [] ?_
    refine aR ?_
    obtain rfl:=oi h
    exact lR dP (dQ 0) dO (bR.mk (.inr rfl) (p:=[]) (l:=[(sI t8)]) (by kernel_rfl) trivial (dY.refl _) (.refl _))
   ·refine cf hb ?_
    refine aP (rz tT ⟨[(kE s_),QN,(pG s_),(ZO t8)],(xI o_)⟩ {} [] ?_)
    obtain rfl:=oi h
    exact lN
  ·refine cf hb1 ?_
   refine aI (fz (agF o_) []) ?_
   refine aX ?_
   obtain rfl:=oi h
   exact lB
 ·clear hy
  cases y with
  |brk z=>
   unfold fT
   refine⟨_, .refl, ?_⟩
   refine sz tT ⟨[(4,(vI (-1)))],(xI o_)⟩ {} [] ?_
   refine aR ?_
   obtain rfl:=oi h
   exact rl [(sI (-1))]
  |ret v=>
   obtain rfl:=oi h
   unfold fT
   intro e st hn ha hR
   cases e with
   |normal=>exact absurd rfl hn
   |exit id=>exact hR
   |goto l=>exact hR
   |ret=>exact hR
   |panic c=>exact hR
   |outgrown=>exact hR
def xJ (o_:(List Int)):Bool→Exit→St→Prop:=
  fun r=>bR TT [.tmp 4] (vB r) (xI o_)
theorem xg (s_:(List Int)) (o_:(List Int)) {r:Bool} (h:jV s_ o_=some r):Fn Try.prog 67 [(sD (DX s_)),(.one (.fn 68 0 1 (Cv [(.ptr 0 0)])))] (xI o_) (vB r) (xI o_):=by
 refine fN tT Try.func67 rfl rfl fun B=> ?_
 show bW _ _ _ _ _ _ ((xJ o_) r) _
 unfold jV at h
 refine sz tT (afj s_ o_) {} [] ?_
 refine aQ (bE h fun r_ hr_ h=> ?_)
 have q0:=y9 s_ o_ hr_
 refine rg tT ⟨[(4,(vB (decide (0≤r_))))],(xI o_)⟩ [_] {an:=[(2,cR q0 [0,1])] } [] ⟨q0,trivial⟩ ?_
 refine aR ?_
 obtain rfl:=oi h
 exact rl [(sB (decide (0≤r_)))]
def q8  :((List Int) × Bool × Int)→Exit→St→Prop:=
  fun r=>bR TT [.tmp 4, .tmp 5] (.iG [(sD (bg (some r.2.1) 1 (aC .i64) r.1)),(sI r.2.2)]) []
section
variable (l:(List aA)) (u0:(List Int)) (u1:Int)
abbrev Jv:Nat × TV:=(23,(vD (bg none 4 aA.cell l)))
abbrev JD:Nat × TV:=(24,(vI (l.length:Int)))
abbrev Ja:List (Nat × Option Ob):=[(8,some (Dy u0)),(9,some (.cells 40 [(.own 8 true u0.length)]))]
abbrev acV:St:=⟨[(7,(vP 9 0)),(Jv l),(JD l),(25,(vI u1))],(Ja u0)⟩
end
def yC (l:(List aA)):((List Int) × Int)→St:=
  fun zz=>match zz with|(u0,u1)=>(acV l u0 u1)
section
variable (u0:(List Int))
abbrev ahT:St:=⟨[(7,(vP 9 0))],(Ja u0)⟩
end
def yG  :(List Int)→St:=
  fun u0=>(ahT u0)
def qx (l:(List aA)):(bn ((List Int) × Int) (Ex (List Int) ((List Int) × Bool × Int)))→Exit→St→Prop:=
  LQ 0 [] (yC l) yG q8
section
variable (l:(List aA)) (u0:Int) (u2:(List Int)) (u3:Int)
abbrev Y8:DV:=(bg none 1 (aC .i64) ((at' l u0.toNat).af))
abbrev P9:Nat × TV:=(9,(vD (kK [(.int .i64 ((at' l u0.toNat).source)),(.int .i64 ((at' l u0.toNat).bU)),(.int .i64 ((at' l u0.toNat).amps)),(Y8 l u0)] 0)))
abbrev TR:Nat × TV:=(44,(vI (u2.length:Int)))
abbrev aaW:List (Nat × TV):=[(7,(vP 9 0)),(P9 l u0),(Jv l),(JD l),(25,(vI u0)),(TR u2),(45,(vI u3))]
end
def yM (l:(List aA)) (u2:(List Int)) (u0:Int):((List Int) × Int)→St:=
  fun zz=>match zz with|(u1,u3)=> ⟨(aaW l u0 u2 u3),(Ja u1)⟩
def yw (l:(List aA)) (u1:Int):(List Int)→St:=
  fun u0=>(acV l u0 u1)
def F4 (l:(List aA)) (u1:(List Int)) (u0:Int):(bn ((List Int) × Int) (Ex (List Int) (bn ((List Int) × Int) (Ex (List Int) ((List Int) × Bool × Int)))))→Exit→St→Prop:=
  LQ 2 [1] (yM l u1 u0) (yw l u0) (qx l)
section
variable (l:(List aA)) (p:au) (u0:Int) (u1:(List Int)) (u2:Int) (u3:(List Int)) (u4:(List Int))
abbrev Jm:Nat × TV:=(1,(vD (bg none 4 aA.cell l)))
abbrev Lv:Nat × TV:=(2,(k9 p))
abbrev Uw:DV:=(bg (some false) 1 (aC .i64) ([]:List Int))
abbrev Sc:=((p.af.length:Int).toNat)
abbrev NK:=(List.replicate (Sc p) (0:Int))
abbrev ab8:Ob:=(dK 3 1 (aC .i64) (NK p))
abbrev Vm:=((NK p).length)
abbrev adG:List (Nat × Option Ob):=[(8,some (ab8 p)),(9,some (.cells 40 [(.own 8 true (Vm p))]))]
abbrev TH:=(aN (aC .i64) (NK p))
abbrev TY:=(bif (decide (((at' l u0.toNat).amps)<0))then true else(decide (1000000<((at' l u0.toNat).amps))))
abbrev ac0:=(u1.set u2.toNat (IntKind.wrap .i64 ((at' u1 u2.toNat)+((at' l u0.toNat).amps))))
abbrev acU:=(aN (aC .i64) (ac0 l u0 u1 u2))
abbrev afW:List (Nat × Option Ob):=[(8,some (dK 3 1 (aC .i64) (ac0 l u0 u1 u2))),(9,some (.cells 40 [(.own 8 true ((ac0 l u0 u1 u2).length))]))]
abbrev adH:List (Nat × TV):=[(7,(vP 9 0)),(P9 l u0),(Jv l),(JD l),(25,(vI u0)),(TR u3),(45,(k3 u2))]
abbrev Tk:DV:=(bg (some true) 1 (aC .i64) u4)
end
theorem lT (p:au) (l:(List aA)) {r:((List Int) × Bool × Int)} (h:jT p l=some r):Fn Try.prog 18 [(.agg (k5 p)),(sD (bg none 4 aA.cell l))] [] (.iG [(sD (bg (some r.2.1) 1 (aC .i64) r.1)),(sI r.2.2)]) []:=by
 refine fN tT Try.func18 rfl rfl fun B=> ?_
 show bW _ _ _ _ _ _ (q8 r) _
 unfold jT at h
 refine sz tT ⟨[(Jm l),(Lv p)],[]⟩ {fr:=[(0,7)] } [7] ?_
 refine aQ (aQ (bE h fun r_ hr_ h=> ?_))
 have q0:=zN p hr_
 refine rg tT ⟨[(Jm l),(Lv p),(6,(vI r_))],[]⟩ [_] {an:=[(1,cA q0 [])] } [] ⟨q0,trivial⟩ ?_
 refine sz tT ⟨[(Jm l),(Lv p),(6,(vI r_)),(14,(vB (!decide (r_=0))))],[]⟩ {} [] ?_
 refine bI h (fun hb5 h=> ?_) (fun hb5 h=> ?_)
 ·refine ct hb5 ?_
  refine sz tT ⟨[(4,(vD nS)),(5,(vI r_))],[]⟩ {} [] ?_
  refine aI (bZ.le (st':=⟨[(4,(vD Uw)),(5,(vI r_))],[]⟩) ⟨⟨⟨_,rfl,dY.v (eX.one (eD.d gX.Vu))⟩,tR,trivial⟩,trivial⟩) ?_
  refine aR ?_
  obtain rfl:=oi h
  exact rl [(sD Uw),(sI r_)]
 ·refine cf hb5 ?_
  refine aP (aQ (sz tT ⟨[(Jm l),(Lv p),(18,(vB (decide (8<(l.length:Int)))))],[]⟩ {} [] ?_))
  refine bI h (fun hb4 h=> ?_) (fun hb4 h=> ?_)
  ·refine ct hb4 ?_
   refine sz tT ⟨[(4,(vD nS)),(5,(vI 1))],[]⟩ {} [] ?_
   refine aI (bZ.le (st':=⟨[(4,(vD Uw)),(5,(vI 1))],[]⟩) ⟨⟨⟨_,rfl,dY.v (eX.one (eD.d gX.Vu))⟩,tR,trivial⟩,trivial⟩) ?_
   refine aR ?_
   obtain rfl:=oi h
   exact rl [(sD Uw),(sI 1)]
  ·refine cf hb4 ?_
   refine aP (aQ (aO h fun⟨a1,a2,a3⟩ h=> ?_))
   refine rg tT ⟨[(Jm l),(7,(vP 9 0))],(adG p)⟩ [_,((p.af.length:Int):Int)=(p.af.length:Int),_,_,(NK p).length=(Sc p),aY (Sc p) 1 (fun _ j=>[(.int .i64 0)].getD j .nilp) (TH p)] {an:=[(3, .arr (NK p).length (TH p))],fr:=[(3,8),(4,9)] } [] ⟨a1,rfl,a2,a3,(List.length_replicate),(fB _ _ _ _ _ (fun j hj=>(match j,hj with|0,_=>rfl))),trivial⟩ ?_
   refine aQ (sz tT ⟨[(7,(vP 9 0)),(Jv l),(JD l),(25,(vI 0))],(adG p)⟩ {} [] ?_)
   refine bE h fun y1 hy h=> ?_
   refine aL [] (yC l) yG q8 hy (fun s f h=> ?_) ?_
   ·clear hy
    show bW _ _ _ _ _ _ ((qx l) f) _
    unfold yj at h
    obtain⟨u3,u0⟩:=s
    refine sz tT ⟨[(7,(vP 9 0)),(Jv l),(JD l),(25,(vI u0)),(26,(vB (decide (u0<(l.length:Int)))))],(Ja u3)⟩ {} [] ?_
    refine aQ ?_
    refine bI h (fun hb3 h=> ?_) (fun hb3 h=> ?_)
    ·refine ct hb3 ?_
     refine aP (aQ (aB (aQ (aO h fun a1 h=> ?_))))
     refine rg tT ⟨[(7,(vP 9 0)),(P9 l u0),(Jv l),(JD l),(25,(vI u0))],(Ja u3)⟩ [_] {fr:=[(2,13)] } [13] ⟨a1,trivial⟩ ?_
     refine aQ (aQ (bE h fun u5 hr_1 h=> ?_))
     refine rg tT ⟨[(7,(vP 9 0)),(P9 l u0),(Jv l),(JD l),(25,(vI u0)),(42,(vB (bif (TY l u0)then true else u5)))],(Ja u3)⟩ (eqs (decide (((at' l u0.toNat).amps)<0)) 4 (eqs (TY l u0) 4 [gP (jq [(3,(decide (((at' l u0.toNat).amps)<0))),(8,(TY l u0))]) [(8,false)]→All [Fn Try.prog 67 [(sD (Y8 l u0)),(.one (.fn 68 0 1 (Cv [(.ptr 9 0)])))] [(9,some (.cells 40 [(.own 8 true u3.length)])),(8,some (Dy u3))] (vB u5) [(9,some (.cells 40 [(.own 8 true u3.length)])),(8,some (Dy u3))]],(TY l u0)=(TY l u0)])) {yb:=[(3,(decide (((at' l u0.toNat).amps)<0))),(8,(TY l u0))],an:=[(12, .callR [9,8] (vB u5))] } [] (ae (ae ⟨(fun hg=> ⟨(rK [(0,9),(1,8)] (xg ((at' l u0.toNat).af) u3 (iw hr_1 (bD hg)))),trivial⟩),rfl,trivial⟩)) ?_
     refine bI h (fun hb2 h=> ?_) (fun hb2 h=> ?_)
     ·refine ct hb2 ?_
      refine sz tT ⟨[(4,(vD nS)),(5,(vI 1))],[]⟩ {} [] ?_
      refine aI (bZ.le (st':=⟨[(4,(vD Uw)),(5,(vI 1))],[]⟩) ⟨⟨⟨_,rfl,dY.v (eX.one (eD.d gX.Vu))⟩,tR,trivial⟩,trivial⟩) ?_
      refine aR ?_
      obtain rfl:=oi h
      exact lR dP (dQ 0) dO (bR.mk (.inr rfl) (p:=[]) (l:=[(sD Uw),(sI 1)]) (by kernel_rfl) trivial (dY.refl _) trivial)
     ·refine cf hb2 ?_
      refine aP (sz tT ⟨[(7,(vP 9 0)),(P9 l u0),(Jv l),(JD l),(25,(vI u0)),(TR u3),(45,(vI 0))],(Ja u3)⟩ {} [] ?_)
      refine bE h fun y hy h=> ?_
      refine aL [1] (yM l u3 u0) (yw l u0) (qx l) hy (fun s f h=> ?_) ?_
      ·clear hy
       show bW _ _ _ _ _ _ ((F4 l u3 u0) f) _
       unfold yF at h
       obtain⟨u1,u2⟩:=s
       refine sz tT ⟨[(7,(vP 9 0)),(P9 l u0),(Jv l),(JD l),(25,(vI u0)),(TR u3),(45,(vI u2)),(46,(WK u2 u3))],(Ja u1)⟩ {} [] ?_
       refine aQ ?_
       refine bI h (fun hb1 h=> ?_) (fun hb1 h=> ?_)
       ·refine ct hb1 ?_
        refine aP (aQ (aB (sz tT ⟨[(7,(vP 9 0)),(P9 l u0),(10,(vI u2)),(Jv l),(JD l),(25,(vI u0)),(TR u3),(45,(vI u2))],(Ja u1)⟩ {} [] ?_)))
        refine aQ (bE h fun u7 hr_2 h=> ?_)
        have q0:=CU ((at' l u0.toNat).af) u2 hr_2
        refine rg tT ⟨[(7,(vP 9 0)),(P9 l u0),(10,(vI u2)),(Jv l),(JD l),(25,(vI u0)),(TR u3),(45,(vI u2)),(51,(vB u7))],(Ja u1)⟩ [_] {an:=[(3,cA q0 [])] } [] ⟨q0,trivial⟩ ?_
        refine bI h (fun hb h=> ?_) (fun hb h=> ?_)
        ·refine ct hb ?_
         refine aO h fun a1 h=> ?_
         refine di tT mX ⟨(aaW l u0 u3 u2),[(8,some (.arr 3 1 u1.length (acU l u0 u1 u2))),(9,some (.cells 40 [(.own 8 true u1.length)]))]⟩ [_,_,_,_,aY u1.length 1 (lg (aN (aC .i64) u1) u2.toNat 0 [(.int .i64 (IntKind.wrap .i64 ((at' u1 u2.toNat)+((at' l u0.toNat).amps))))]) (acU l u0 u1 u2)] {an:=[(8, .arr 0 (acU l u0 u1 u2))] } [] ⟨a1,(tL a1),a1,(tL a1),(cZ _ _ _ _ _ _ _ _ rfl (fun j hj=>(match j,hj with|0,_=>rfl))),trivial⟩ (bZ.le (st':=⟨(aaW l u0 u3 u2),(afW l u0 u1 u2)⟩) ⟨⟨tR,tR,tR,tR,tR,tR,tR,trivial⟩,⟨rfl,oW,⟨rfl,bX ⟨cW,trivial⟩,trivial⟩⟩⟩) ?_
         refine rz tT ⟨(adH l u0 u2 u3),(afW l u0 u1 u2)⟩ {} [] ?_
         obtain rfl:=oi h
         exact lN
        ·refine cf hb ?_
         refine aP (rz tT ⟨(adH l u0 u2 u3),(Ja u1)⟩ {} [] ?_)
         obtain rfl:=oi h
         exact lN
       ·refine cf hb1 ?_
        refine aI (fz (acV l u1 u0) []) ?_
        refine aX ?_
        obtain rfl:=oi h
        exact lB
      ·clear hy
       cases y with
       |brk z=>
        obtain⟨u6,rfl⟩: ∃q,q=z:=⟨_,rfl⟩
        unfold fT
        refine⟨_, .refl, ?_⟩
        refine rz tT ⟨[(7,(vP 9 0)),(Jv l),(JD l),(25,(k3 u0))],(Ja u6)⟩ {} [] ?_
        obtain rfl:=oi h
        exact lN
       |ret v=>
        obtain rfl:=oi h
        unfold fT
        intro e st hn ha hR
        cases e with
        |normal=>exact absurd rfl hn
        |exit id=>simp only [qB (b:=1) ha rfl,cond_false];exact hR
        |goto l=>exact hR
        |ret=>exact hR
        |panic c=>exact hR
        |outgrown=>exact hR
    ·refine cf hb3 ?_
     refine aI (fz (ahT u3) []) ?_
     refine aX ?_
     obtain rfl:=oi h
     exact lB
   ·clear hy
    cases y1 with
    |brk z=>
     obtain⟨u4,rfl⟩: ∃q,q=z:=⟨_,rfl⟩
     unfold fT
     refine⟨_, .refl, ?_⟩
     refine sg tT ⟨[(4,(vD (Tk u4))),(5,(vI 0))],[]⟩ [u4.length=u4.length] {} [8] ⟨rfl,trivial⟩ ?_
     refine aR ?_
     obtain rfl:=oi h
     exact rl [(sD (Tk u4)),(sI 0)]
    |ret v=>
     obtain rfl:=oi h
     unfold fT
     intro e st hn ha hR
     cases e with
     |normal=>exact absurd rfl hn
     |exit id=>exact hR
     |goto l=>exact hR
     |ret=>exact hR
     |panic c=>exact hR
     |outgrown=>exact hR
def Ii  :Bool→Exit→St→Prop:=
  fun r=>bR TT [.tmp 4] (vB r) []
theorem lX (s_:ay) (b:Int) {r:Bool} (h:mY s_ b=some r):Fn Try.prog 79 [(.agg (Yu s_)),(sI b)] [] (vB r) []:=by
 refine fN tT Try.func79 rfl rfl fun B=> ?_
 show bW _ _ _ _ _ _ (Ii r) _
 unfold mY at h
 refine sz tT ⟨[(1,(vI b)),(2,(k74 s_))],[]⟩ {fr:=[(0,1)] } [1] ?_
 refine aQ (aO h fun a1 h=> ?_)
 refine rg tT ⟨[(4,(vB (bif (decide (0≤b))then(!(at' s_.aG b.toNat))else false)))],[]⟩ (eqs (decide (0≤b)) 4 ((gP (jq [(2,(decide (0≤b)))]) [(2,true)]→All [(0:Int)≤b∧b<(s_.aG.length:Int)])::(eqs (decide (0≤b)) 3 []))) {yb:=[(2,(decide (0≤b)))] } [] (ae ⟨(fun hg=> ⟨(a1 (bD hg)),trivial⟩),(ae trivial)⟩) ?_
 refine aR ?_
 obtain rfl:=oi h
 exact rl [(sB (bif (decide (0≤b))then(!(at' s_.aG b.toNat))else false))]
def Ci  :(Int × aH)→Exit→St→Prop:=
  fun r=>bR TT [.tmp 10] (vI r.1) [(0,some (.cells 161 [(.own 3 false r.2.bO.length),(.own 2 true r.2.from_.length)])),(1,none),(2,some (.rows 40 1 r.2.from_.length (ni uo r.2.from_) none)),(3,some (dK 170 2 cO.cell r.2.bO))]
section
variable (u0:aH) (b:Int) (u1:Int) (a:Int) (u2:Int)
abbrev VT:Nat × Option Ob:=(1,some (dK 170 2 cO.cell u0.bO))
abbrev aau:List (Nat × Option Ob):=[(0,some (.cells 161 [(.own 1 false u0.bO.length),(.own 2 true u0.from_.length)])),(VT u0),(2,some (.rows 40 1 u0.from_.length (ni uo u0.from_) none))]
abbrev RO:=(u0.bO++[(⟨b,u1⟩:cO),(⟨a,u2⟩:cO)])
abbrev YA:=((RO u0 b u1 a u2).length)
abbrev afb:Nat × Option Ob:=(0,some (.cells 161 [(.own 12 false (YA u0 b u1 a u2)),(.own 2 true u0.from_.length)]))
abbrev VB:Nat × Option Ob:=(12,some (dK 170 2 cO.cell (RO u0 b u1 a u2)))
abbrev QI:=((at' u0.from_ a.toNat)++[(u0.bO.length:Int)])
abbrev KV:=(u0.from_.set a.toNat (QI u0 a))
abbrev VQ:=(ni uo (KV u0 a))
abbrev aa0:=(aN (aC .i64) (QI u0 a))
abbrev ag4:Nat × Option Ob:=(0,some (.cells 161 [(.own 12 false (YA u0 b u1 a u2)),(.own 2 true ((KV u0 a).length))]))
abbrev NY:=(at' (KV u0 a) b.toNat)
abbrev Qz:=(IntKind.wrap .i64 ((u0.bO.length:Int)+1))
abbrev Sn:=((NY u0 b a)++[(Qz u0)])
abbrev abE:=((KV u0 a).set b.toNat (Sn u0 b a))
abbrev Yg:=(ni uo (abE u0 b a))
abbrev abg:=(aN (aC .i64) [(Qz u0)])
abbrev afV:=((NY u0 b a).length+[(Qz u0)].length)
abbrev aa6:=(aN (aC .i64) (Sn u0 b a))
abbrev agq:=((abE u0 b a).length)
abbrev ahX:Nat × Option Ob:=(2,some (.rows 40 1 (abE u0 b a).length (Yg u0 b a) none))
abbrev afL:List (Nat × Option Ob):=[(0,some (.cells 161 [(.own 12 false (YA u0 b u1 a u2)),(.own 2 true (agq u0 b a))])),(1,none),(ahX u0 b a),(VB u0 b u1 a u2)]
end
theorem dI (a:Int) (b:Int) (u1:Int) (u2:Int) (u0:aH) {r:(Int × aH)} (h:gU a b u1 u2 u0=some r):Fn Try.prog 77 [(.one (.ptr 0 0)),(sI a),(sI b),(sI u1),(sI u2)] (aau u0) (vI r.1) [(0,some (.cells 161 [(.own 3 false r.2.bO.length),(.own 2 true r.2.from_.length)])),(1,none),(2,some (.rows 40 1 r.2.from_.length (ni uo r.2.from_) none)),(3,some (dK 170 2 cO.cell r.2.bO))]:=by
 refine fN tT Try.func77 rfl rfl fun B=> ?_
 show bW _ _ _ _ _ _ (Ci r) _
 unfold gU at h
 refine sz tT ⟨[(0,(vP 0 0)),(1,(vI a)),(2,(vI b)),(3,(vI u1)),(4,(vI u2))],(aau u0)⟩ {} [] ?_
 refine sz tT ⟨[(0,(vP 0 0)),(1,(vI a)),(2,(vI b)),(3,(vI u1)),(4,(vI u2)),(11,(vI (u0.bO.length:Int)))],(aau u0)⟩ {} [] ?_
 refine aQ (aO h fun⟨a1,a2⟩ h=> ?_)
 refine rg tT ⟨[(0,(vP 0 0)),(1,(vI a)),(2,(vI b)),(11,(vI (u0.bO.length:Int)))],[(afb u0 b u1 a u2),(1,none),(2,some (.rows 40 1 u0.from_.length (ni uo u0.from_) none)),(VB u0 b u1 a u2)]⟩ [[(⟨b,u1⟩:cO),(⟨a,u2⟩:cO)].length=2,aY 2 2 (jf 2 [(.int .i64 b),(.int .i64 u1),(.int .i64 a),(.int .i64 u2)]) (aN cO.cell [(⟨b,u1⟩:cO),(⟨a,u2⟩:cO)]),u0.bO.length=u0.bO.length,_,_,(RO u0 b u1 a u2).length=u0.bO.length+[(⟨b,u1⟩:cO),(⟨a,u2⟩:cO)].length,aY (u0.bO.length+[(⟨b,u1⟩:cO),(⟨a,u2⟩:cO)].length) 2 (CY (aN cO.cell u0.bO) u0.bO.length (aN cO.cell [(⟨b,u1⟩:cO),(⟨a,u2⟩:cO)])) (aN cO.cell (RO u0 b u1 a u2))] {an:=[(11, .arr [(⟨b,u1⟩:cO),(⟨a,u2⟩:cO)].length (aN cO.cell [(⟨b,u1⟩:cO),(⟨a,u2⟩:cO)])),(12, .arr (RO u0 b u1 a u2).length (aN cO.cell (RO u0 b u1 a u2)))],fr:=[(11,11),(12,12)] } [] ⟨(rfl),((by intro i hi j hj;match i,j,hi,hj with|0,0,_,_=>rfl|0,1,_,_=>rfl|1,0,_,_=>rfl|1,1,_,_=>rfl)),rfl,a1,a2,(List.length_append),(jy _ _ _ _),trivial⟩ ?_
 refine aQ (aO h fun⟨a1,a2,a3⟩ h=> ?_)
 refine di tT mX ⟨[(0,(vP 0 0)),(2,(vI b)),(11,(vI (u0.bO.length:Int)))],[(afb u0 b u1 a u2),(1,none),(2,some (.rows 40 1 u0.from_.length (VQ u0 a) none)),(VB u0 b u1 a u2)]⟩ [(0:Int)≤a∧a<(u0.from_.length:Int),a.toNat<u0.from_.length,[(u0.bO.length:Int)].length=1,aY 1 1 (jf 1 [(.int .i64 (u0.bO.length:Int))]) (aN (aC .i64) [(u0.bO.length:Int)]),(at' u0.from_ a.toNat).length=(at' u0.from_ a.toNat).length,((at' u0.from_ a.toNat).length+[(u0.bO.length:Int)].length)*8≤140737488355328,(at' u0.from_ a.toNat).length+[(u0.bO.length:Int)].length≤4611686018427387904,(QI u0 a).length=(at' u0.from_ a.toNat).length+[(u0.bO.length:Int)].length,aY ((at' u0.from_ a.toNat).length+[(u0.bO.length:Int)].length) 1 (CY (aN (aC .i64) (at' u0.from_ a.toNat)) (at' u0.from_ a.toNat).length (aN (aC .i64) [(u0.bO.length:Int)])) (aa0 u0 a),(0:Int)≤a∧a<(u0.from_.length:Int),a.toNat<u0.from_.length,(QI u0 a).length=(QI u0 a).length,R5 u0.from_.length 1 (XK (ni uo u0.from_) a.toNat 0 (.row 3 1 (QI u0 a).length (aa0 u0 a))) (VQ u0 a),∀i0 j0 c0,((some (a.toNat,0,CV.own 13 false (at' u0.from_ a.toNat).length)):Option (Nat × Nat × CV))=some (i0,j0,c0)→i0=a.toNat∧j0=0] {an:=[(11, .take 13),(13, .arr [(u0.bO.length:Int)].length (aN (aC .i64) [(u0.bO.length:Int)])),(14, .arr (QI u0 a).length (aa0 u0 a)),(16, .rows 0 (VQ u0 a))],fr:=[(13,14),(14,15)] } [] ⟨a1,(tL a1),(rfl),((by intro i hi j hj;match i,j,hi,hj with|0,0,_,_=>rfl)),rfl,a2,a3,(List.length_append),(jy _ _ _ _),a1,(tL a1),rfl,(Cy _ _ _ _ _ _ _ _ rfl (fun j hj=>(match j,hj with|0,_=>rfl))),((fun i0 j0 c0 e=>by cases e;exact⟨rfl,rfl⟩)),trivial⟩ (bZ.le (st':=⟨[(0,(vP 0 0)),(2,(vI b)),(11,(vI (u0.bO.length:Int)))],[(ag4 u0 b u1 a u2),(1,none),(2,some (.rows 40 1 (KV u0 a).length (VQ u0 a) none)),(VB u0 b u1 a u2)]⟩) ⟨⟨tR,tR,tR,trivial⟩,⟨rfl,bX ⟨eD.refl _,cW,trivial⟩,⟨rfl, .refl _,⟨rfl,zJ (by simp only [List.length_set,List.length_append,List.length_cons,List.length_nil,List.length_replicate,List.length_drop]),⟨rfl, .refl _,trivial⟩⟩⟩⟩⟩) ?_
 refine aQ (aO h fun⟨a1,a2,a3⟩ h=> ?_)
 refine di tT mX ⟨[(11,(vI (u0.bO.length:Int)))],[(ag4 u0 b u1 a u2),(1,none),(2,some (.rows 40 1 (KV u0 a).length (Yg u0 b a) none)),(VB u0 b u1 a u2)]⟩ [(0:Int)≤b∧b<((KV u0 a).length:Int),b.toNat<(KV u0 a).length,[(Qz u0)].length=1,aY 1 1 (jf 1 [(.int .i64 (Qz u0))]) (abg u0),(NY u0 b a).length=(NY u0 b a).length,(afV u0 b a)*8≤140737488355328,(NY u0 b a).length+[(Qz u0)].length≤4611686018427387904,(Sn u0 b a).length=(NY u0 b a).length+[(Qz u0)].length,aY (afV u0 b a) 1 (CY (aN (aC .i64) (NY u0 b a)) (NY u0 b a).length (abg u0)) (aa6 u0 b a),(0:Int)≤b∧b<((KV u0 a).length:Int),b.toNat<(KV u0 a).length,(Sn u0 b a).length=(Sn u0 b a).length,R5 (KV u0 a).length 1 (XK (VQ u0 a) b.toNat 0 (.row 3 1 (Sn u0 b a).length (aa6 u0 b a))) (Yg u0 b a),∀i0 j0 c0,((some (b.toNat,0,CV.own 16 false (NY u0 b a).length)):Option (Nat × Nat × CV))=some (i0,j0,c0)→i0=b.toNat∧j0=0] {an:=[(11, .take 16),(14, .arr [(Qz u0)].length (abg u0)),(15, .arr (Sn u0 b a).length (aa6 u0 b a)),(17, .rows 0 (Yg u0 b a))],fr:=[(14,17),(15,18)] } [] ⟨a1,(tL a1),(rfl),((by intro i hi j hj;match i,j,hi,hj with|0,0,_,_=>rfl)),rfl,a2,a3,(List.length_append),(jy _ _ _ _),a1,(tL a1),rfl,(Cy _ _ _ _ _ _ _ _ rfl (fun j hj=>(match j,hj with|0,_=>rfl))),((fun i0 j0 c0 e=>by cases e;exact⟨rfl,rfl⟩)),trivial⟩ (bZ.le (st':=⟨[(11,(vI (u0.bO.length:Int)))],(afL u0 b u1 a u2)⟩) ⟨⟨tR,trivial⟩,⟨rfl,bX ⟨eD.refl _,cW,trivial⟩,⟨rfl, .refl _,⟨rfl,zJ (by simp only [List.length_set,List.length_append,List.length_cons,List.length_nil,List.length_replicate,List.length_drop]),⟨rfl, .refl _,trivial⟩⟩⟩⟩⟩) ?_
 refine sz tT ⟨[(10,(vI (u0.bO.length:Int)))],(afL u0 b u1 a u2)⟩ {} [] ?_
 refine aI (bZ.fin (st':=⟨[(10,(vI (u0.bO.length:Int)))],[(0,some (.cells 161 [(.own 3 false (YA u0 b u1 a u2)),(.own 2 true (agq u0 b a))])),(1,none),(ahX u0 b a),(3,some (dK 170 2 cO.cell (RO u0 b u1 a u2)))]⟩) (cs:=[]) ⟨[],[(0,0),(1,1),(2,2),(12,3)]⟩ [10] (by kernel_rfl) trivial) ?_
 refine aR ?_
 obtain rfl:=oi h
 exact rh [(sI (u0.bO.length:Int))] (.refl _) ⟨rfl, .refl _,⟨rfl,trivial,⟨rfl, .refl _,⟨rfl, .refl _,trivial⟩⟩⟩⟩
section
variable (u0:aH)
abbrev Kc:DV:=(bg none 1 (Na 1 (aC .i64)) u0.from_)
abbrev X0:Nat × Option Ob:=(0,some (.cells 161 [(.own 1 false u0.bO.length),(.d (Kc u0))]))
abbrev aao:List (Nat × Option Ob):=[(X0 u0),(VT u0),(2,some (.cells 157 [(.ptr 0 0)]))]
end
def zf (u0:aH):Unit→Exit→St→Prop:=
  fun _=>bR TT [.tmp 2] (.v (.one (.fn 121 0 1 (Cv [(.ptr 2 0)])))) (aao u0)
section
variable (u0:aH)
abbrev agx:List (Nat × Option Ob):=[(X0 u0),(VT u0)]
abbrev ag2:List (Nat × Option Ob):=[(X0 u0),(VT u0),(3,some (.cells 157 [(.ptr 0 0)]))]
end
theorem jw (u0:aH) {r:Unit} (h:iR u0=some r):Fn Try.prog 81 [(.one (.ptr 0 0))] (agx u0) (.v (.one (.fn 121 0 1 (Cv [(.ptr 2 0)])))) (aao u0):=by
 refine fN tT Try.func81 rfl rfl fun B=> ?_
 show bW _ _ _ _ _ _ ((zf u0) r) _
 unfold iR at h
 refine sz tT ⟨[(1,(vP 3 0))],(ag2 u0)⟩ {fr:=[(0,3)] } [] ?_
 refine sz tT ⟨[(2,(.v (.one (.fn 121 0 1 (Cv [(.ptr 3 0)])))))],(ag2 u0)⟩ {} [] ?_
 refine aI (bZ.fin (st':=⟨[(2,(.v (.one (.fn 121 0 1 (Cv [(.ptr 2 0)])))))],(aao u0)⟩) (cs:=[]) ⟨[],[(0,0),(1,1),(3,2)]⟩ [2] (by kernel_rfl) trivial) ?_
 refine aR ?_
 obtain rfl:=oi h
 exact rl [(.one (.fn 121 0 1 (Cv [(.ptr 2 0)])))]
noncomputable def bC:nI:=⟨[19,20],FU ([1,0,1,0,0,0,1,0,1,0]++[0]) (jX Try.f80),FU ([1,0,1,0,0,0,1,0,1,0]++[1]) (jX Try.f80),114,[.exit 1]⟩
section
variable (u0:Int)
abbrev OC:List (Nat × TV):=[(2,(vP 1 0)),(3,(vP 2 0)),(4,(vP 3 0))]
abbrev JO:Nat × Option Ob:=(1,some (.cells 157 [(.ptr 4 0)]))
abbrev K3:Nat × Option Ob:=(2,some (.cells 3 [(cI u0)]))
end
def wR (u0:Int):(Nat × (List Int) × aH)→Exit→St→Prop:=
  fun r=>lF 0 bC (vB (Nat.beq r.1 0)) [(0,some (.loop bC r.1 OC)),JO,(K3 u0),(3,some (.cells 40 [(.own 5 true r.2.1.length)])),(4,some (.cells 161 [(.own 6 false r.2.2.bO.length),(.d (bg none 1 (Na 1 (aC .i64)) r.2.2.from_))])),(5,some (dK 3 1 (aC .i64) r.2.1)),(6,some (dK 170 2 cO.cell r.2.2.bO))]
section
variable (o_:(List Int)) (u1:Int) (u2:Int) (u0:aH) (u3:Int) (u4:Int) (u5:Int)
abbrev PD:Nat × Option Ob:=(0,some (.loop bC 1 OC))
abbrev Tm:Nat × Option Ob:=(3,some (.cells 40 [(.own 5 true ((o_.set u1.toNat u2).length))]))
abbrev Zx:Nat × Option Ob:=(4,some (.cells 161 [(.own 6 false u0.bO.length),(.d (Kc u0))]))
abbrev Tv:Nat × Option Ob:=(5,some (dK 3 1 (aC .i64) (o_.set u1.toNat u2)))
abbrev X5:Nat × Option Ob:=(6,some (dK 170 2 cO.cell u0.bO))
abbrev Ip:List (Nat × Option Ob):=[PD,JO,(K3 u3),(Tm o_ u1 u2),(Zx u0),(Tv o_ u1 u2),(X5 u0)]
abbrev aby:St:=⟨[(2,(vP 1 0)),(3,(vP 2 0)),(4,(vP 3 0)),(7,(vI u4)),(8,(vI u5))],(Ip o_ u1 u2 u0 u3)⟩
end
def lS (u1:Int) (u2:Int) (u3:Int) (o_:(List Int)) (u0:aH):(Int × Int)→St:=
  fun zz=>match zz with|(u4,u5)=>(aby o_ u1 u2 u0 u3 u4 u5)
section
variable (u4:Int) (u3:Int) (o_:(List Int)) (u1:Int) (u2:Int) (u0:aH)
abbrev agB:St:=⟨[(2,(vP 1 0)),(3,(vP 2 0)),(4,(vP 3 0)),(7,(vI u4))],(Ip o_ u1 u2 u0 u3)⟩
end
def mK (u1:Int) (u2:Int) (u3:Int) (o_:(List Int)) (u0:aH):Int→St:=
  fun u4=>(agB u4 u3 o_ u1 u2 u0)
section
variable (u0:Int)
abbrev Wi:=(wR u0)
end
def uV (u1:Int) (u2:Int) (u0:Int) (o_:(List Int)) (u3:aH):(bn (Int × Int) (Ex Int (Nat × (List Int) × aH)))→Exit→St→Prop:=
  LQ 4 [3] (lS u1 u2 u0 o_ u3) (mK u1 u2 u0 o_ u3) (Wi u0)
section
variable (u5:Int) (u6:Int) (u2:(List cO)) (u4:aH) (u3:Int) (o_:(List Int)) (u0:Int) (u1:Int)
abbrev Tz:List (Nat × TV):=[(2,(vP 1 0)),(4,(vP 3 0)),(7,(vI u5)),(10,(vI u6))]
abbrev adP:Nat × Option Ob:=(4,some (.cells 161 [(.own 6 false u2.length),(.d (Kc u4))]))
abbrev acF:List (Nat × Option Ob):=[PD,JO,(K3 u3),(Tm o_ u0 u1),(adP u2 u4),(Tv o_ u0 u1),(6,some (dK 170 2 cO.cell u2))]
end
def lU (u0:Int) (u1:Int) (u3:Int) (o_:(List Int)) (u4:aH) (u5:Int):((List cO) × Int)→St:=
  fun zz=>match zz with|(u2,u6)=> ⟨(Tz u5 u6),(acF u2 u4 u3 o_ u0 u1)⟩
section
variable (u3:Int) (o_:(List Int)) (u0:Int) (u1:Int) (u2:(List cO)) (u4:aH)
abbrev aeo:St:=⟨[],(acF u2 u4 u3 o_ u0 u1)⟩
end
def lQ (u0:Int) (u1:Int) (u3:Int) (o_:(List Int)) (u4:aH):(List cO)→St:=
  fun u2=>(aeo u3 o_ u0 u1 u2 u4)
def uY (u1:Int) (u2:Int) (u0:Int) (o_:(List Int)) (u3:aH) (u4:Int):(bn ((List cO) × Int) (Ex (List cO) (Nat × (List Int) × aH)))→Exit→St→Prop:=
  LQ 6 [3] (lU u1 u2 u0 o_ u3 u4) (lQ u1 u2 u0 o_ u3) (Wi u0)
section
variable (u6:Int) (o_:(List Int)) (u4:aH) (u0:Int) (u1:Int) (u7:Int) (u3:(List cO)) (u2:Int) (u5:Int)
abbrev VZ:List (Nat × Option Ob):=[(0,some (.loop bC 0 OC)),JO,(K3 u6),(3,some (.cells 40 [(.own 5 true o_.length)])),(Zx u4),(5,some (Dy o_)),(X5 u4)]
abbrev acP:List (Nat × TV):=[(2,(vP 1 0)),(3,(vP 2 0)),(4,(vP 3 0)),(5,(vI u0)),(6,(vI u1))]
abbrev Wy:=((IntKind.wrap .i64 (((BitVec.ofInt (IntKind.bits .i64) (at' (o_.set u0.toNat u1) u7.toNat) ^^^ BitVec.ofInt (IntKind.bits .i64) 1).toNat:Int))).toNat)
abbrev Rx:=(u3.set ((at' (o_.set u0.toNat u1) u2.toNat).toNat) (⟨(at' u3 ((at' (o_.set u0.toNat u1) u2.toNat).toNat)).to_,(IntKind.wrap .i64 (((at' u3 ((at' (o_.set u0.toNat u1) u2.toNat).toNat)).left) - u5))⟩:cO))
abbrev Zz:=(aN cO.cell (Rx o_ u0 u1 u3 u2 u5))
abbrev ahf:Nat × Option Ob:=(4,some (.cells 161 [(.own 6 false ((Rx o_ u0 u1 u3 u2 u5).length)),(.d (Kc u4))]))
abbrev adT:=(at' (Rx o_ u0 u1 u3 u2 u5) (Wy o_ u0 u1 u2))
abbrev afd:=(IntKind.wrap .i64 (((adT o_ u0 u1 u3 u2 u5).left)+u5))
abbrev Y3:=((Rx o_ u0 u1 u3 u2 u5).set (Wy o_ u0 u1 u2) (⟨(adT o_ u0 u1 u3 u2 u5).to_,(afd o_ u0 u1 u3 u2 u5)⟩:cO))
abbrev aaM:=(aN cO.cell (Y3 o_ u0 u1 u3 u2 u5))
abbrev afl:List (Nat × Option Ob):=[PD,JO,(K3 u6),(Tm o_ u0 u1),(4,some (.cells 161 [(.own 6 false ((Y3 o_ u0 u1 u3 u2 u5).length)),(.d (Kc u4))])),(Tv o_ u0 u1),(6,some (dK 170 2 cO.cell (Y3 o_ u0 u1 u3 u2 u5)))]
end
theorem mF (u0:Int) (u1:Int) (u6:Int) (o_:(List Int)) (u4:aH) {r:(Nat × (List Int) × aH)} (h:jI u0 u1 u6 o_ u4=some r):Yl Try.prog 0 [(sI u0),(sI u1)] (VZ u6 o_ u4) (vB (Nat.beq r.1 0)) [(0,some (.loop bC r.1 OC)),JO,(K3 u6),(3,some (.cells 40 [(.own 5 true r.2.1.length)])),(4,some (.cells 161 [(.own 6 false r.2.2.bO.length),(.d (bg none 1 (Na 1 (aC .i64)) r.2.2.from_))])),(5,some (dK 3 1 (aC .i64) r.2.1)),(6,some (dK 170 2 cO.cell r.2.2.bO))]:=by
 refine Ck (r:=bC) (sl:=OC) (sl1:=(acP u0 u1)) (h1:=(VZ u6 o_ u4)) (sl2:=OC) (by kernel_rfl) rfl rfl (by kernel_rfl) (fun rd B=> ?_) (by kernel_rfl) (fun rd B=> ?_)
 ·refine om (c:=FU ([1,0,1,0,0,0,1,0,1,0]++[0]) (jX Try.f80)) rfl ?_
  refine lC (st:=⟨[(19,(vI u0)),(20,(vI u1)),(2,(vP 1 0)),(3,(vP 2 0)),(4,(vP 3 0))],(VZ u6 o_ u4)⟩) (by kernel_rfl) ?_
  refine sz tT ⟨[(2,(vP 1 0)),(3,(vP 2 0)),(4,(vP 3 0)),(5,(vI u0)),(20,(vI u1))],(VZ u6 o_ u4)⟩ {} [] ?_
  refine rz tT ⟨(acP u0 u1),(VZ u6 o_ u4)⟩ {} [] ?_
  exact⟨rfl,rfl⟩
 ·refine om (c:=FU ([1,0,1,0,0,0,1,0,1,0]++[1]) (jX Try.f80)) rfl ?_
  refine lC (st:=⟨(acP u0 u1),[PD,JO,(K3 u6),(3,some (.cells 40 [(.own 5 true o_.length)])),(Zx u4),(5,some (Dy o_)),(X5 u4)]⟩) (by kernel_rfl) ?_
  show bW _ _ _ _ _ _ ((Wi u6) r) _
  unfold jI at h
  refine aB (aQ (aO h fun a1 h=> ?_))
  refine ri tT ⟨[(2,(vP 1 0)),(3,(vP 2 0)),(4,(vP 3 0)),(5,(vI u0))],[PD,JO,(K3 u6),(3,some (.cells 40 [(.own 5 true o_.length)])),(Zx u4),(5,some (.arr 3 1 o_.length (aN (aC .i64) (o_.set u0.toNat u1)))),(X5 u4)]⟩ [_,_,aY o_.length 1 (lg (aN (aC .i64) o_) u0.toNat 0 [(.int .i64 u1)]) (aN (aC .i64) (o_.set u0.toNat u1))] {an:=[(4, .arr 0 (aN (aC .i64) (o_.set u0.toNat u1)))] } [] ⟨a1,(tL a1),(cZ _ _ _ _ _ _ _ _ rfl (fun j hj=>(match j,hj with|0,_=>rfl))),trivial⟩ (bZ.le (st':=⟨[(2,(vP 1 0)),(3,(vP 2 0)),(4,(vP 3 0)),(5,(vI u0))],(Ip o_ u0 u1 u4 u6)⟩) ⟨⟨tR,tR,tR,tR,trivial⟩,(hN 3 ⟨rfl,bX ⟨cW,trivial⟩,⟨rfl, .refl _,⟨rfl,oW,⟨rfl, .refl _,trivial⟩⟩⟩⟩)⟩) ?_
  refine aQ (sz tT ⟨[(2,(vP 1 0)),(3,(vP 2 0)),(4,(vP 3 0)),(27,(vB (!decide (u0=u6))))],(Ip o_ u0 u1 u4 u6)⟩ {} [] ?_)
  refine bI h (fun hb3 h=> ?_) (fun hb3 h=> ?_)
  ·refine ct hb3 ?_
   refine aI (fz ⟨[],(Ip o_ u0 u1 u4 u6)⟩ []) ?_
   refine aX ?_
   obtain rfl:=oi h
   exact lF.on (sl:=OC) (by kernel_rfl) (xV (by kernel_rfl)) (dY.refl _)
  ·refine cf hb3 ?_
   refine aP (sz tT ⟨[(2,(vP 1 0)),(3,(vP 2 0)),(4,(vP 3 0)),(7,(vI (-1)))],(Ip o_ u0 u1 u4 u6)⟩ {} [] ?_)
   refine aQ (sz tT ⟨[(2,(vP 1 0)),(3,(vP 2 0)),(4,(vP 3 0)),(7,(vI (-1))),(8,(vI u6))],(Ip o_ u0 u1 u4 u6)⟩ {} [] ?_)
   refine bE h fun y1 hy h=> ?_
   refine aL [3] (lS u0 u1 u6 o_ u4) (mK u0 u1 u6 o_ u4) (Wi u6) hy (fun s f h=> ?_) ?_
   ·clear hy
    show bW _ _ _ _ _ _ ((uV u0 u1 u6 o_ u4) f) _
    unfold mI at h
    obtain⟨u8,u7⟩:=s
    refine aQ (aQ (aO h fun a1 h=> ?_))
    refine rg tT ⟨[(2,(vP 1 0)),(3,(vP 2 0)),(4,(vP 3 0)),(7,(vI u8)),(8,(vI u7)),(33,(vB (decide (0≤(at' (o_.set u0.toNat u1) u7.toNat)))))],(Ip o_ u0 u1 u4 u6)⟩ [_,_] {} [] ⟨a1,(tL a1),trivial⟩ ?_
    refine bI h (fun hb1 h=> ?_) (fun hb1 h=> ?_)
    ·refine ct hb1 ?_
     refine aP (bE h fun y hy h=> ?_)
     refine Ub (o:=y) (fun u9=>(aby o_ u0 u1 u4 u6 u9 u7)) ?_ ?_
     ·replace h:=hy
      clear hy
      refine aB (aQ (aO h fun⟨a1,a2⟩ h=> ?_))
      refine dg tT mX ⟨[(2,(vP 1 0)),(3,(vP 2 0)),(4,(vP 3 0)),(7,(vI u8)),(8,(vI u7)),(9,(vI ((at' u4.bO ((at' (o_.set u0.toNat u1) u7.toNat).toNat)).left)))],(Ip o_ u0 u1 u4 u6)⟩ [_,_,_,_] {} [] ⟨a1,(tL a1),a2,(tL a2),trivial⟩ ?_
      refine sg tT ⟨[(2,(vP 1 0)),(3,(vP 2 0)),(4,(vP 3 0)),(7,(vI u8)),(8,(vI u7)),(9,(vI ((at' u4.bO ((at' (o_.set u0.toNat u1) u7.toNat).toNat)).left))),(63,(vB (bif (decide (u8<0))then true else(decide (((at' u4.bO ((at' (o_.set u0.toNat u1) u7.toNat).toNat)).left)<u8)))))],(Ip o_ u0 u1 u4 u6)⟩ (eqs (decide (u8<0)) 4 []) {yb:=[(2,(decide (u8<0)))] } [] (ae trivial) ?_
      refine bI h (fun hb h=> ?_) (fun hb h=> ?_)
      ·refine ct hb ?_
       refine rz tT ⟨[(2,(vP 1 0)),(3,(vP 2 0)),(4,(vP 3 0)),(7,(vI ((at' u4.bO ((at' (o_.set u0.toNat u1) u7.toNat).toNat)).left))),(8,(vI u7))],(Ip o_ u0 u1 u4 u6)⟩ {} [] ?_
       obtain rfl:=oi h
       exact⟨rfl,by kernel_rfl⟩
      ·refine cf hb ?_
       refine aI (fz (aby o_ u0 u1 u4 u6 u8 u7) []) ?_
       refine aP ?_
       obtain rfl:=oi h
       exact⟨rfl,by kernel_rfl⟩
     ·clear hy
      obtain⟨u9,rfl⟩: ∃q,q=y:=⟨_,rfl⟩
      refine aO h fun⟨a1,a2⟩ h=> ?_
      refine dg tT mX ⟨[(2,(vP 1 0)),(3,(vP 2 0)),(4,(vP 3 0)),(7,(vI u9)),(8,(vI ((at' u4.bO (Wy o_ u0 u1 u7)).to_)))],(Ip o_ u0 u1 u4 u6)⟩ [_,_,_,_] {} [] ⟨a1,(tL a1),a2,(tL a2),trivial⟩ ?_
      obtain rfl:=oi h
      exact lN
    ·refine cf hb1 ?_
     refine aI (fz (agB u8 u6 o_ u0 u1 u4) []) ?_
     refine aX ?_
     obtain rfl:=oi h
     exact lB
   ·clear hy
    cases y1 with
    |brk z=>
     obtain⟨u5,rfl⟩: ∃q,q=z:=⟨_,rfl⟩
     unfold fT
     refine⟨_, .refl, ?_⟩
     refine aQ (sz tT ⟨(Tz u5 u6),(Ip o_ u0 u1 u4 u6)⟩ {} [] ?_)
     refine bE h fun y2 hy h=> ?_
     refine aL [3] (lU u0 u1 u6 o_ u4 u5) (lQ u0 u1 u6 o_ u4) (Wi u6) hy (fun s f h=> ?_) ?_
     ·clear hy
      show bW _ _ _ _ _ _ ((uY u0 u1 u6 o_ u4 u5) f) _
      unfold mh at h
      obtain⟨u3,u2⟩:=s
      refine aQ (aQ (aO h fun a1 h=> ?_))
      refine rg tT ⟨[(2,(vP 1 0)),(4,(vP 3 0)),(7,(vI u5)),(10,(vI u2)),(70,(vB (decide (0≤(at' (o_.set u0.toNat u1) u2.toNat)))))],(acF u3 u4 u6 o_ u0 u1)⟩ [_,_] {} [] ⟨a1,(tL a1),trivial⟩ ?_
      refine bI h (fun hb2 h=> ?_) (fun hb2 h=> ?_)
      ·refine ct hb2 ?_
       refine aP (aQ (aB (aQ (aO h fun⟨a1,a2⟩ h=> ?_))))
       refine di tT mX ⟨(Tz u5 u2),[PD,JO,(K3 u6),(Tm o_ u0 u1),(adP u3 u4),(Tv o_ u0 u1),(6,some (.arr 170 2 u3.length (Zz o_ u0 u1 u3 u2 u5)))]⟩ [_,_,_,_,_,_,aY u3.length 2 (lg (aN cO.cell u3) ((at' (o_.set u0.toNat u1) u2.toNat).toNat) 1 [(.int .i64 (IntKind.wrap .i64 (((at' u3 ((at' (o_.set u0.toNat u1) u2.toNat).toNat)).left) - u5)))]) (Zz o_ u0 u1 u3 u2 u5)] {an:=[(15, .arr 0 (Zz o_ u0 u1 u3 u2 u5))] } [] ⟨a1,(tL a1),a2,(tL a2),a2,(tL a2),(cZ _ _ _ _ _ _ _ _ rfl (fun j hj=>(match j,hj with|0,_=>rfl|1,_=>rfl))),trivial⟩ (bZ.le (st':=⟨(Tz u5 u2),[PD,JO,(K3 u6),(Tm o_ u0 u1),(ahf o_ u4 u0 u1 u3 u2 u5),(Tv o_ u0 u1),(6,some (dK 170 2 cO.cell (Rx o_ u0 u1 u3 u2 u5)))]⟩) ⟨⟨tR,tR,tR,tR,trivial⟩,(hN 4 ⟨rfl,bX ⟨cW,eD.refl _,trivial⟩,⟨rfl, .refl _,⟨rfl,oW,trivial⟩⟩⟩)⟩) ?_
       refine aO h fun⟨a1,a2⟩ h=> ?_
       refine di tT mX ⟨(Tz u5 u2),[PD,JO,(K3 u6),(Tm o_ u0 u1),(ahf o_ u4 u0 u1 u3 u2 u5),(Tv o_ u0 u1),(6,some (.arr 170 2 (Rx o_ u0 u1 u3 u2 u5).length (aaM o_ u0 u1 u3 u2 u5)))]⟩ [_,_,_,_,_,_,aY (Rx o_ u0 u1 u3 u2 u5).length 2 (lg (Zz o_ u0 u1 u3 u2 u5) (Wy o_ u0 u1 u2) 1 [(.int .i64 (afd o_ u0 u1 u3 u2 u5))]) (aaM o_ u0 u1 u3 u2 u5)] {an:=[(16, .arr 0 (aaM o_ u0 u1 u3 u2 u5))] } [] ⟨a1,(tL a1),a2,(tL a2),a2,(tL a2),(cZ _ _ _ _ _ _ _ _ rfl (fun j hj=>(match j,hj with|0,_=>rfl|1,_=>rfl))),trivial⟩ (bZ.le (st':=⟨(Tz u5 u2),(afl u6 o_ u4 u0 u1 u3 u2 u5)⟩) ⟨⟨tR,tR,tR,tR,trivial⟩,(hN 4 ⟨rfl,bX ⟨cW,eD.refl _,trivial⟩,⟨rfl, .refl _,⟨rfl,oW,trivial⟩⟩⟩)⟩) ?_
       refine aO h fun⟨a1,a2⟩ h=> ?_
       refine dg tT mX ⟨[(2,(vP 1 0)),(4,(vP 3 0)),(7,(vI u5)),(10,(vI ((at' (Y3 o_ u0 u1 u3 u2 u5) (Wy o_ u0 u1 u2)).to_)))],(afl u6 o_ u4 u0 u1 u3 u2 u5)⟩ [_,_,_,_] {} [] ⟨a1,(tL a1),a2,(tL a2),trivial⟩ ?_
       obtain rfl:=oi h
       exact lN
      ·refine cf hb2 ?_
       refine aI (fz (aeo u6 o_ u0 u1 u3 u4) []) ?_
       refine aX ?_
       obtain rfl:=oi h
       exact lB
     ·clear hy
      cases y2 with
      |brk z=>
       obtain⟨v0,rfl⟩: ∃q,q=z:=⟨_,rfl⟩
       unfold fT
       refine⟨_, .refl, ?_⟩
       refine aX ?_
       obtain rfl:=oi h
       exact lF.off (sl:=OC) (k:=0) (c:= .exit 1) (by kernel_rfl) rfl rfl (by kernel_rfl) (xV (by kernel_rfl)) (dY.refl _)
      |ret v=>
       obtain rfl:=oi h
       unfold fT
       intro e st hn ha hR
       cases e with
       |normal=>exact absurd rfl hn
       |exit id=>simp only [qB (b:=3) ha rfl,cond_false];exact hR
       |goto l=>exact hR
       |ret=>exact hR
       |panic c=>exact hR
       |outgrown=>exact hR
    |ret v=>
     obtain rfl:=oi h
     unfold fT
     intro e st hn ha hR
     cases e with
     |normal=>exact absurd rfl hn
     |exit id=>simp only [qB (b:=3) ha rfl,cond_false];exact hR
     |goto l=>exact hR
     |ret=>exact hR
     |panic c=>exact hR
     |outgrown=>exact hR
def EJ  :bA→Exit→St→Prop:=
  fun r=>bR TT [] (.iG []) [(0,some (.cells 226 [(.own 2 false r.l.length)])),(1,none),(2,some (dK 164 2 ah.cell r.l))]
section
variable (o_:bA)
abbrev NW:Ob:=(dK 164 2 ah.cell o_.l)
abbrev Ze:List (Nat × Option Ob):=[(0,some (.cells 226 [(.own 1 false o_.l.length)])),(1,some (NW o_))]
end
theorem uO (x:ah) (o_:bA) {r:bA} (h:nQ x o_=some r):Fn Try.prog 122 [(.one (.ptr 0 0)),(.agg [(cI x.e0),(cI x.e1)])] (Ze o_) (.iG []) [(0,some (.cells 226 [(.own 2 false r.l.length)])),(1,none),(2,some (dK 164 2 ah.cell r.l))]:=by
 refine fN tT Try.func122 rfl rfl fun B=> ?_
 show bW _ _ _ _ _ _ (EJ r) _
 unfold nQ at h
 refine sz tT ⟨[(0,(vP 0 0)),(3,(vD (kK [(.int .i64 x.e0),(.int .i64 x.e1)] 0)))],(Ze o_)⟩ {fr:=[(0,5)] } [5] ?_
 refine aO h fun⟨a1,a2⟩ h=> ?_
 refine di tT mX ⟨[],[(0,some (.cells 226 [(.own 7 false ((o_.l++[x]).length))])),(1,none),(7,some (dK 164 2 ah.cell (o_.l++[x])))]⟩ [[x].length=1,aY 1 2 (jf 2 [(.int .i64 x.e0),(.int .i64 x.e1)]) (aN ah.cell [x]),o_.l.length=o_.l.length,_,_,(o_.l++[x]).length=o_.l.length+[x].length,aY (o_.l.length+[x].length) 2 (CY (aN ah.cell o_.l) o_.l.length (aN ah.cell [x])) (aN ah.cell (o_.l++[x]))] {an:=[(6, .arr [x].length (aN ah.cell [x])),(7, .arr (o_.l++[x]).length (aN ah.cell (o_.l++[x])))],fr:=[(6,6),(7,7)] } [] ⟨(rfl),((by intro i hi j hj;match i,j,hi,hj with|0,0,_,_=>rfl|0,1,_,_=>rfl)),rfl,a1,a2,(List.length_append),(jy _ _ _ _),trivial⟩ (bZ.fin (st':=⟨[],[(0,some (.cells 226 [(.own 2 false ((o_.l++[x]).length))])),(1,none),(2,some (dK 164 2 ah.cell (o_.l++[x])))]⟩) (cs:=[]) ⟨[],[(0,0),(1,1),(7,2)]⟩ [] (by kernel_rfl) trivial) ?_
 obtain rfl:=oi h
 exact bR.mk (.inl rfl) (p:=[]) (l:=[]) (by kernel_rfl) trivial (dY.refl _) ⟨rfl, .refl _,⟨rfl,trivial,⟨rfl, .refl _,trivial⟩⟩⟩
def D5  :(ah × Bool × bA)→Exit→St→Prop:=
  fun r=>bR TT [.cell 2 164, .tmp 3] (.iG [(.agg [(cI r.1.e0),(cI r.1.e1)]),(sB r.2.1)]) [(0,some (.cells 226 [(.own 2 false r.2.2.l.length)])),(1,none),(2,some (dK 164 2 ah.cell r.2.2.l))]
section
variable (o_:bA)
abbrev agZ:List (Nat × Option Ob):=[(0,some (.cells 226 [(.own 1 false o_.l.length)])),(1,some (NW o_)),(4,some (.cells 164 [(cI 0),(cI 0)]))]
abbrev abt:List (Nat × TV):=[(2,(vD (kK [(.int .i64 0),(.int .i64 0)] 0))),(3,(vB false))]
abbrev aaZ:Nat × Option Ob:=(4,some (.cells 164 [(cI ((at' o_.l 0).e0)),(cI ((at' o_.l 0).e1))]))
abbrev agb:List (Nat × TV):=[(2,(vD (kK [(.int .i64 ((at' o_.l 0).e0)),(.int .i64 ((at' o_.l 0).e1))] 0))),(3,(vB true))]
end
theorem rW (o_:bA) {r:(ah × Bool × bA)} (h:mH o_=some r):Fn Try.prog 123 [(.one (.ptr 0 0))] (Ze o_) (.iG [(.agg [(cI r.1.e0),(cI r.1.e1)]),(sB r.2.1)]) [(0,some (.cells 226 [(.own 2 false r.2.2.l.length)])),(1,none),(2,some (dK 164 2 ah.cell r.2.2.l))]:=by
 refine fN tT Try.func123 rfl rfl fun B=> ?_
 show bW _ _ _ _ _ _ (D5 r) _
 unfold mH at h
 refine sz tT ⟨[(0,(vP 0 0)),(2,(vP 4 0))],(agZ o_)⟩ {fr:=[(0,4)] } [] ?_
 refine aQ (sz tT ⟨[(0,(vP 0 0)),(2,(vP 4 0)),(9,(vB (decide ((o_.l.length:Int)=0))))],(agZ o_)⟩ {} [] ?_)
 refine bI h (fun hb h=> ?_) (fun hb h=> ?_)
 ·refine ct hb ?_
  refine sz tT ⟨abt,(Ze o_)⟩ {} [4] ?_
  refine aI (.trans (bZ.Xl (E0:=226) (cs:=[(.own 1 false o_.l.length)]) (nn:=false) (len:=o_.l.length) (E:=164) (esz:=2) (n:=o_.l.length) (el:=aN ah.cell o_.l) (p:=0) (q:=0) (b:=1) (b':=5) (by kernel_rfl) (by kernel_rfl) (by kernel_rfl) (by kernel_rfl)) (.trans (fz ⟨abt,[(0,some (.cells 226 [(.own 5 false o_.l.length)])),(1,none),(5,some (NW o_))]⟩ []) (bZ.fin (st':=⟨abt,[(0,some (.cells 226 [(.own 2 false o_.l.length)])),(1,none),(2,some (NW o_))]⟩) (cs:=[]) ⟨[],[(0,0),(1,1),(5,2)]⟩ [2,3] (by kernel_rfl) trivial))) ?_
  refine aR ?_
  obtain rfl:=oi h
  exact rh [(.agg [(cI 0),(cI 0)]),(sB false)] (.refl _) ⟨rfl, .refl _,⟨rfl,trivial,⟨rfl, .refl _,trivial⟩⟩⟩
 ·refine cf hb ?_
  refine aP (aQ (aO h fun⟨a1,a2⟩ h=> ?_))
  refine di tT mX ⟨[(2,(vP 4 0))],[(0,some (.cells 226 [(.own 6 false (o_.l.length - 1))])),(1,some (NW o_)),(aaZ o_),(6,some (.suf 1 1 2))]⟩ [_,_,o_.l.length=o_.l.length,_] {an:=[(11, .cells)],fr:=[(11,6)] } [] ⟨a1,(tL a1),rfl,a2,trivial⟩ (.trans (bZ.abp (b:=1) (c:=6) (k:=1) (E:=164) (esz:=2) (cf:=ah.cell) (l:=o_.l) (by kernel_rfl) (by kernel_rfl) (by omega)) (.trans (fz ⟨[(2,(vP 4 0))],[(0,some (.cells 226 [(.own 6 false (o_.l.length - 1))])),(1,none),(aaZ o_),(6,some (.arr 164 2 (o_.l.length - 1) (aN ah.cell (o_.l.drop 1))))]⟩ []) (bZ.le (st':=⟨[(2,(vP 4 0))],[(0,some (.cells 226 [(.own 6 false ((o_.l.drop 1).length))])),(1,none),(aaZ o_),(6,some (dK 164 2 ah.cell (o_.l.drop 1)))]⟩) ⟨⟨tR,trivial⟩,⟨rfl,bX ⟨cW,trivial⟩,(hN 2 ⟨rfl,oW,trivial⟩)⟩⟩))) ?_
  refine sz tT ⟨(agb o_),[(0,some (.cells 226 [(.own 6 false ((o_.l.drop 1).length))])),(1,none),(6,some (dK 164 2 ah.cell (o_.l.drop 1)))]⟩ {} [4] ?_
  refine aI (bZ.fin (st':=⟨(agb o_),[(0,some (.cells 226 [(.own 2 false ((o_.l.drop 1).length))])),(1,none),(2,some (dK 164 2 ah.cell (o_.l.drop 1)))]⟩) (cs:=[]) ⟨[],[(0,0),(1,1),(6,2)]⟩ [2,3] (by kernel_rfl) trivial) ?_
  refine aR ?_
  obtain rfl:=oi h
  exact rh [(.agg [(cI ((at' o_.l 0).e0)),(cI ((at' o_.l 0).e1))]),(sB true)] (.refl _) ⟨rfl, .refl _,⟨rfl,trivial,⟨rfl, .refl _,trivial⟩⟩⟩
section
variable (u0:Int)
abbrev Xw:List (Nat × TV):=[(2,(vP 2 0)),(3,(vP 3 0)),(4,(vP 4 0))]
abbrev sV:Nat × Option Ob:=(1,some (.cells 157 [(.ptr 5 0)]))
abbrev qL:Nat × Option Ob:=(2,some (.cells 157 [(.ptr 5 0)]))
abbrev qK:Nat × Option Ob:=(3,some (.cells 3 [(cI u0)]))
end
def jh (u0:Int):(Nat × (List Int) × aH)→Exit→St→Prop:=
  fun r=>bR TT [] (.iG []) [(0,some (.loop bC r.1 Xw)),sV,qL,(qK u0),(4,some (.cells 40 [(.own 6 true r.2.1.length)])),(5,some (.cells 161 [(.own 7 false r.2.2.bO.length),(.d (bg none 1 (Na 1 (aC .i64)) r.2.2.from_))])),(6,some (dK 3 1 (aC .i64) r.2.1)),(7,some (dK 170 2 cO.cell r.2.2.bO))]
section
variable (u2:(List Bool)) (u1:(List Int)) (u4:(List (List Int))) (q0:(List ah)) (u5:Int) (u6:Int)
abbrev dW:Nat × TV:=(0,(.v (.one (.yl 0))))
abbrev ED:Nat × TV:=(3,(vO 56 true u2.length))
abbrev XY:List (Nat × TV):=[dW,(1,(vP 1 0)),(ED u2),(4,(vP 57 0)),(5,(vP 59 0))]
abbrev xu:Nat × Option Ob:=(0,some (.loop bC 0 Xw))
abbrev LY:Nat × Option Ob:=(4,some (.cells 40 [(.own 6 true u1.length)]))
abbrev QO:DV:=(bg none 1 (Na 1 (aC .i64)) u4)
abbrev Lx:Nat × Option Ob:=(6,some (Dy u1))
abbrev M8:Nat × Option Ob:=(56,some (dK 4 1 aD u2))
abbrev TG:Nat × Option Ob:=(57,some (.cells 226 [(.own 58 false q0.length)]))
abbrev U2:Nat × Option Ob:=(58,some (dK 164 2 ah.cell q0))
abbrev NS:Nat × Option Ob:=(59,some (.cells 164 [(cI u5),(cI u6)]))
end
def lW (u3:Int):((List cO) × (List (List Int)) × (List Int) × (List Bool) × (List ah) × Int × Int)→St:=
  fun zz=>match zz with|(u0,u4,u1,u2,q0,u5,u6)=> ⟨(XY u2),[xu,sV,qL,(qK u3),(LY u1),(5,some (.cells 161 [(.own 7 false u0.length),(.d (QO u4))])),(Lx u1),(7,some (dK 170 2 cO.cell u0)),(M8 u2),(TG q0),(U2 q0),(NS u5 u6)]⟩
def lY  :Unit→St:=
  fun _=> ⟨[],[]⟩
def iQ (u0:Int):(bn ((List cO) × (List (List Int)) × (List Int) × (List Bool) × (List ah) × Int × Int) (Ex Unit (Nat × (List Int) × aH)))→Exit→St→Prop:=
  LQ 0 [] (lW u0) lY (jh u0)
section
variable (r_:(Nat × (List Int) × aH)) (u0:Int) (u3:Int) (u1:(List Bool)) (u2:(List ah)) (u4:Int)
abbrev Kh:Nat × TV:=(34,(vD (bg none 1 (aC .i64) (at' r_.2.2.from_ u0.toNat))))
abbrev KY:Nat × TV:=(35,(vI ((at' r_.2.2.from_ u0.toNat).length:Int)))
abbrev Dt:Nat × Option Ob:=(4,some (.cells 40 [(.own 6 true r_.2.1.length)]))
abbrev DC:Nat × Option Ob:=(5,some (.cells 161 [(.own 7 false r_.2.2.bO.length),(.d (bg none 1 (Na 1 (aC .i64)) r_.2.2.from_))]))
abbrev Dx:Nat × Option Ob:=(6,some (dK 3 1 (aC .i64) r_.2.1))
abbrev Du:Nat × Option Ob:=(7,some (dK 170 2 cO.cell r_.2.2.bO))
abbrev Sd:List (Nat × Option Ob):=[xu,sV,qL,(qK u3),(Dt r_),(DC r_),(Dx r_),(Du r_),(M8 u1),(TG u2),(U2 u2),(NS u0 u4)]
end
def mE (u3:Int) (u0:Int) (u4:Int) (r_:(Nat × (List Int) × aH)):((List Bool) × (List ah) × Int)→St:=
  fun zz=>match zz with|(u1,u2,u5)=> ⟨[dW,(1,(vP 1 0)),(ED u1),(4,(vP 57 0)),(5,(vP 59 0)),(Kh r_ u0),(KY r_ u0),(36,(vI u5))],(Sd r_ u0 u3 u1 u2 u4)⟩
section
variable (u0:(List Bool)) (u2:Int) (r_:(Nat × (List Int) × aH)) (u1:(List ah)) (u3:Int) (u4:Int)
abbrev adD:St:=⟨(XY u0),(Sd r_ u3 u2 u0 u1 u4)⟩
end
def lK (u2:Int) (u3:Int) (u4:Int) (r_:(Nat × (List Int) × aH)):((List Bool) × (List ah))→St:=
  fun zz=>match zz with|(u0,u1)=>(adD u0 u2 r_ u1 u3 u4)
def vC (u0:Int) (u1:Int) (u2:Int) (r_:(Nat × (List Int) × aH)):(bn ((List Bool) × (List ah) × Int) (Ex ((List Bool) × (List ah)) (bn ((List cO) × (List (List Int)) × (List Int) × (List Bool) × (List ah) × Int × Int) (Ex Unit (Nat × (List Int) × aH)))))→Exit→St→Prop:=
  LQ 2 [1] (mE u0 u1 u2 r_) (lK u0 u1 u2 r_) (iQ u0)
section
variable (u1:aH) (u2:Int) (v0:(List Int)) (u9:(List cO)) (v3:(List (List Int))) (r_:(Nat × (List Int) × aH)) (u0:Int) (u3:Int) (u4:(List Bool)) (u7:(List ah)) (u6:Int) (v2:bA) (u5:(ah × Bool × bA)) (u8:(List Bool))
abbrev PL:Nat × Option Ob:=(5,some (.cells 161 [(.own 7 false u1.bO.length),(.d (Kc u1))]))
abbrev Pf:Nat × Option Ob:=(7,some (dK 170 2 cO.cell u1.bO))
abbrev Qb:=(List.replicate ((u1.from_.length:Int).toNat) (false:Bool))
abbrev aeb:List (Nat × TV):=[dW,(1,(vP 1 0)),(3,(vO 56 true ((Qb u1).length)))]
abbrev abx:=(aN aD (Qb u1))
abbrev aa1:=((Qb u1).set 0 true)
abbrev ab0:=(aN aD (aa1 u1))
abbrev abS:Nat × TV:=(3,(vO 56 true ((aa1 u1).length)))
abbrev VX:Nat × Option Ob:=(56,some (dK 4 1 aD (aa1 u1)))
abbrev acR:List (Nat × TV):=[dW,(1,(vP 1 0)),(abS u1),(4,(vP 57 0))]
abbrev adW:List (Nat × Option Ob):=[xu,qL,(qK u2),(LY v0),(5,some (.cells 161 [(.own 7 false u9.length),(.d (QO v3))])),(Lx v0),(7,some (dK 170 2 cO.cell u9))]
abbrev agE:List (Nat × Option Ob):=[xu,qL,(qK u2),(Dt r_),(DC r_),(Dx r_),(Du r_)]
abbrev abb:Nat × Option Ob:=(0,some (.loop bC r_.1 Xw))
abbrev YX:List (Nat × Option Ob):=[(abb r_),qL,(qK u2),(Dt r_),(DC r_),(Dx r_),(Du r_)]
abbrev WC:Nat × TV:=(7,(vI (at' (at' r_.2.2.from_ u0.toNat) u3.toNat)))
abbrev Wu:=(at' r_.2.2.bO ((at' (at' r_.2.2.from_ u0.toNat) u3.toNat).toNat))
abbrev Yh:=((Wu r_ u0 u3).to_)
abbrev ab6:=((Wu r_ u0 u3).left)
abbrev ahC:List (Nat × Option Ob):=[xu,sV,qL,(qK u2),(Dt r_),(DC r_),(Dx r_),(Du r_),(M8 u4),(TG u7),(U2 u7),(NS u0 u6),(99,some (.cells 170 [(cI (Yh r_ u0 u3)),(cI (ab6 r_ u0 u3))]))]
abbrev QW:=(decide (0<(ab6 r_ u0 u3)))
abbrev acD:=((Yh r_ u0 u3).toNat)
abbrev ah4:=(jq [(3,(QW r_ u0 u3))])
abbrev adR:Nat × TV:=(8,(vD (kK [(.int .i64 (Yh r_ u0 u3)),(.int .i64 (ab6 r_ u0 u3))] 0)))
abbrev ab5:=(u4.set (acD r_ u0 u3) true)
abbrev aaI:=(aN aD (ab5 r_ u0 u3 u4))
abbrev aam:Nat × TV:=(3,(vO 56 true ((ab5 r_ u0 u3 u4).length)))
abbrev abQ:Nat × Option Ob:=(56,some (dK 4 1 aD (ab5 r_ u0 u3 u4)))
abbrev agC:List (Nat × Option Ob):=[xu,sV,qL,(qK u2),(Dt r_),(DC r_),(Dx r_),(Du r_),(abQ r_ u0 u3 u4),(57,some (.cells 226 [(.own 100 false v2.l.length)])),(NS u0 u6),(100,some (NW v2))]
abbrev Y2:Nat × TV:=(36,(k3 u3))
abbrev afU:List (Nat × TV):=[dW,(1,(vP 1 0)),(aam r_ u0 u3 u4),(4,(vP 57 0)),(5,(vP 59 0)),(Kh r_ u0),(KY r_ u0),(Y2 u3)]
abbrev Yv:Nat × Option Ob:=(57,some (.cells 226 [(.own 101 false u5.2.2.l.length)]))
abbrev Yz:Nat × Option Ob:=(101,some (dK 164 2 ah.cell u5.2.2.l))
abbrev Ql:Ob:=(.cells 164 [(cI u5.1.e0),(cI u5.1.e1)])
abbrev ahh:List (Nat × Option Ob):=[xu,sV,qL,(qK u2),(Dt r_),(DC r_),(Dx r_),(Du r_),(M8 u8),(Yv u5),(NS u0 u6),(Yz u5),(102,some (Ql u5))]
end
theorem mG (u2:Int) (o_:(List Int)) (u1:aH) {r:(Nat × (List Int) × aH)} (h:jJ u2 o_ u1=some r):Fn Try.prog 121 [(.one (.yl 0)),(.one (.ptr 1 0))] [xu,sV,qL,(qK u2),(LY o_),(PL u1),(Lx o_),(Pf u1)] (.iG []) [(0,some (.loop bC r.1 Xw)),sV,qL,(qK u2),(4,some (.cells 40 [(.own 6 true r.2.1.length)])),(5,some (.cells 161 [(.own 7 false r.2.2.bO.length),(.d (bg none 1 (Na 1 (aC .i64)) r.2.2.from_))])),(6,some (dK 3 1 (aC .i64) r.2.1)),(7,some (dK 170 2 cO.cell r.2.2.bO))]:=by
 refine fN tT Try.func121 rfl rfl fun B=> ?_
 show bW _ _ _ _ _ _ ((jh u2) r) _
 unfold jJ at h
 refine aQ (aO h fun⟨a1,a2,a3⟩ h=> ?_)
 refine rg tT ⟨(aeb u1),[xu,sV,qL,(qK u2),(LY o_),(PL u1),(Lx o_),(Pf u1),(56,some (dK 4 1 aD (Qb u1)))]⟩ [_,((u1.from_.length:Int):Int)=(u1.from_.length:Int),_,_,(Qb u1).length=((u1.from_.length:Int).toNat),aY ((u1.from_.length:Int).toNat) 1 (fun _ j=>[(.bool false)].getD j .nilp) (abx u1)] {an:=[(5, .arr (Qb u1).length (abx u1))],fr:=[(5,56)] } [] ⟨a1,rfl,a2,a3,(List.length_replicate),(fB _ _ _ _ _ (fun j hj=>(match j,hj with|0,_=>rfl))),trivial⟩ ?_
 refine aQ (aO h fun a1 h=> ?_)
 refine ri tT ⟨(aeb u1),[xu,sV,qL,(qK u2),(LY o_),(PL u1),(Lx o_),(Pf u1),(56,some (.arr 4 1 (Qb u1).length (ab0 u1)))]⟩ [_,_,aY (Qb u1).length 1 (lg (abx u1) 0 0 [(.bool true)]) (ab0 u1)] {an:=[(2, .arr 0 (ab0 u1))] } [] ⟨a1,(tL a1),(cZ _ _ _ _ _ _ _ _ rfl (fun j hj=>(match j,hj with|0,_=>rfl))),trivial⟩ (bZ.le (st':=⟨[dW,(1,(vP 1 0)),(abS u1)],[xu,sV,qL,(qK u2),(LY o_),(PL u1),(Lx o_),(Pf u1),(VX u1)]⟩) ⟨⟨tR,tR,⟨_,rfl,dY.v (eX.one cW)⟩,trivial⟩,(hN 8 ⟨rfl,oW,trivial⟩)⟩) ?_
 refine si tT ⟨(acR u1),[xu,sV,qL,(qK u2),(LY o_),(PL u1),(Lx o_),(Pf u1),(VX u1),(57,some (.cells 226 [(.d nS)]))]⟩ [] {fr:=[(0,57)] } [] trivial (.trans (bZ.AQ (E:=0) (esz:=0) (E0:=226) (cs:=[(.d nS)]) (p:=57) (q:=0) (b:=58) (esz0:=0) (el0:=fun _ _=> .nilp) (ob:= .arr 164 2 0 (aN ah.cell ([]:List ah))) (fun _ _ _ _ h=> .inl ⟨h,rfl⟩) (by kernel_rfl) (by kernel_rfl) (by kernel_rfl)) (.trans (fz ⟨(acR u1),[xu,sV,qL,(qK u2),(LY o_),(PL u1),(Lx o_),(Pf u1),(VX u1),(57,some (.cells 226 [(.own 58 false 0)])),(58,some (.arr 164 2 0 (aN ah.cell ([]:List ah))))]⟩ []) (bZ.le (st':=⟨(acR u1),[xu,sV,qL,(qK u2),(LY o_),(PL u1),(Lx o_),(Pf u1),(VX u1),(57,some (.cells 226 [(.own 58 false (([]:List ah).length))])),(58,some (dK 164 2 ah.cell ([]:List ah)))]⟩) ⟨⟨tR,tR,tR,tR,trivial⟩,(hN 9 ⟨rfl,bX ⟨cW,trivial⟩,⟨rfl,oW,trivial⟩⟩)⟩))) ?_
 refine sz tT ⟨[dW,(1,(vP 1 0)),(abS u1),(4,(vP 57 0)),(5,(vP 59 0))],[xu,sV,qL,(qK u2),(LY o_),(PL u1),(Lx o_),(Pf u1),(VX u1),(57,some (.cells 226 [(.own 58 false (([]:List ah).length))])),(58,some (dK 164 2 ah.cell ([]:List ah))),(59,some (.cells 164 [(cI 0),(cI (-1))]))]⟩ {fr:=[(1,59)] } [] ?_
 refine bE h fun y1 hy h=> ?_
 refine aL [] (lW u2) lY (jh u2) hy (fun s f h=> ?_) ?_
 ·clear hy
  show bW _ _ _ _ _ _ ((iQ u2) f) _
  unfold mr at h
  obtain⟨u9,v3,v0,v1,q0,u0,u6⟩:=s
  refine aQ (aB (aQ (aQ (bE h fun r_ hr_ h=> ?_))))
  refine bI h (fun hb h=> ?_) (fun hb h=> ?_)
  ·skip
   refine rg tT ⟨[dW,(1,(vP 1 0)),(ED v1),(4,(vP 57 0)),(5,(vP 59 0)),(26,(vB false))],(Sd r_ u0 u2 v1 q0 u6)⟩ [(0:Int)≤0∧(0:Int)<(2:Nat),(0:Int)≤1∧(1:Int)<(2:Nat),Yl Try.prog 0 [(sI u0),(sI u6)] (adW u2 v0 u9 v3) (vB true) (agE u2 r_)] {an:=[(5, .call [0,2,3,4,5,6,7] (vB true) (agE u2 r_))] } [] ⟨((by decide)),((by decide)),(Yl.leR (res:=(vB (Nat.beq r_.1 0))) (hout:=(YX u2 r_)) (yK [(1,2),(1,3),(1,4),(1,5),(1,6),(1,7)] (mF u0 u6 u2 v0 (⟨u9,v3⟩:aH) hr_)) (dY.of (congrArg vB hb)) ⟨rfl,Sz.of (congrArg (fun n=>some (Ob.loop bC n Xw)) (Nat.eq_of_beq_eq_true hb)),(.refl _)⟩),trivial⟩ ?_
   refine cn (aP (aQ (aQ (aO h fun a1 h=> ?_))))
   refine dg tT mX ⟨[dW,(1,(vP 1 0)),(ED v1),(4,(vP 57 0)),(5,(vP 59 0)),(Kh r_ u0),(KY r_ u0),(36,(vI 0))],(Sd r_ u0 u2 v1 q0 u6)⟩ [(0:Int)≤0∧(0:Int)<(2:Nat),_] {} [] ⟨((by decide)),a1,trivial⟩ ?_
   refine bE h fun y hy h=> ?_
   refine aL [1] (mE u2 u0 u6 r_) (lK u2 u0 u6 r_) (iQ u2) hy (fun s f h=> ?_) ?_
   ·clear hy
    show bW _ _ _ _ _ _ ((vC u2 u0 u6 r_) f) _
    unfold mD at h
    obtain⟨u4,u7,u3⟩:=s
    refine sz tT ⟨[dW,(1,(vP 1 0)),(ED u4),(4,(vP 57 0)),(5,(vP 59 0)),(Kh r_ u0),(KY r_ u0),(36,(vI u3)),(37,(vB (decide (u3<((at' r_.2.2.from_ u0.toNat).length:Int)))))],(Sd r_ u0 u2 u4 u7 u6)⟩ {} [] ?_
    refine aQ ?_
    refine bI h (fun hb2 h=> ?_) (fun hb2 h=> ?_)
    ·refine ct hb2 ?_
     refine aP (aQ (aB (aQ (aO h fun a1 h=> ?_))))
     refine rg tT ⟨[dW,(1,(vP 1 0)),(ED u4),(4,(vP 57 0)),(5,(vP 59 0)),(WC r_ u0 u3),(Kh r_ u0),(KY r_ u0),(36,(vI u3))],(Sd r_ u0 u2 u4 u7 u6)⟩ [_] {} [] ⟨a1,trivial⟩ ?_
     refine aQ (aO h fun a1 h=> ?_)
     refine rg tT ⟨[dW,(1,(vP 1 0)),(ED u4),(4,(vP 57 0)),(5,(vP 59 0)),(WC r_ u0 u3),(8,(vP 99 0)),(Kh r_ u0),(KY r_ u0),(36,(vI u3))],(ahC u2 r_ u0 u3 u4 u7 u6)⟩ [_,_] {fr:=[(7,99)] } [] ⟨a1,(tL a1),trivial⟩ ?_
     refine aQ (aO h fun a1 h=> ?_)
     refine rg tT ⟨[dW,(1,(vP 1 0)),(ED u4),(4,(vP 57 0)),(5,(vP 59 0)),(WC r_ u0 u3),(8,(vP 99 0)),(Kh r_ u0),(KY r_ u0),(36,(vI u3)),(57,(vB (bif (QW r_ u0 u3)then(!(at' u4 (acD r_ u0 u3)))else false)))],(ahC u2 r_ u0 u3 u4 u7 u6)⟩ (eqs (QW r_ u0 u3) 4 ((gP (ah4 r_ u0 u3) [(3,true)]→All [(0:Int)≤(Wu r_ u0 u3).to_∧(Wu r_ u0 u3).to_<(u4.length:Int)])::((QW r_ u0 u3)=(QW r_ u0 u3))::(gP (ah4 r_ u0 u3) [(3,true)]→All [(Yh r_ u0 u3).toNat<u4.length])::(eqs (QW r_ u0 u3) 2 []))) {yb:=[(3,(QW r_ u0 u3))] } [] (ae ⟨(fun hg=> ⟨(a1 (bD hg)),trivial⟩),rfl,(fun hg=> ⟨((fun hq=>tL (a1 hq)) (bD hg)),trivial⟩),(ae trivial)⟩) ?_
     refine bI h (fun hb1 h=> ?_) (fun hb1 h=> ?_)
     ·refine ct hb1 ?_
      refine aQ (aO h fun a1 h=> ?_)
      refine ri tT ⟨[dW,(1,(vP 1 0)),(ED u4),(4,(vP 57 0)),(5,(vP 59 0)),(WC r_ u0 u3),(adR r_ u0 u3),(Kh r_ u0),(KY r_ u0),(36,(vI u3))],[xu,sV,qL,(qK u2),(Dt r_),(DC r_),(Dx r_),(Du r_),(56,some (.arr 4 1 u4.length (aaI r_ u0 u3 u4))),(TG u7),(U2 u7),(NS u0 u6)]⟩ [_,_,aY u4.length 1 (lg (aN aD u4) (acD r_ u0 u3) 0 [(.bool true)]) (aaI r_ u0 u3 u4)] {an:=[(4, .arr 0 (aaI r_ u0 u3 u4))] } [99] ⟨a1,(tL a1),(cZ _ _ _ _ _ _ _ _ rfl (fun j hj=>(match j,hj with|0,_=>rfl))),trivial⟩ (bZ.le (st':=⟨[dW,(1,(vP 1 0)),(aam r_ u0 u3 u4),(4,(vP 57 0)),(5,(vP 59 0)),(WC r_ u0 u3),(adR r_ u0 u3),(Kh r_ u0),(KY r_ u0),(36,(vI u3))],[xu,sV,qL,(qK u2),(Dt r_),(DC r_),(Dx r_),(Du r_),(abQ r_ u0 u3 u4),(TG u7),(U2 u7),(NS u0 u6)]⟩) ⟨⟨tR,tR,⟨_,rfl,dY.v (eX.one cW)⟩,tR,tR,tR,tR,tR,tR,tR,trivial⟩,(hN 8 ⟨rfl,oW,(.refl _)⟩)⟩) ?_
      refine bE h fun v2 hr_1 h=> ?_
      have q0:=rk [(0,57),(1,58),(2,100)] (uO (⟨(Wu r_ u0 u3).to_,(at' (at' r_.2.2.from_ u0.toNat) u3.toNat)⟩:ah) (⟨u7⟩:bA) hr_1)
      refine rg tT ⟨[dW,(1,(vP 1 0)),(aam r_ u0 u3 u4),(4,(vP 57 0)),(5,(vP 59 0)),(Kh r_ u0),(KY r_ u0),(36,(vI u3))],(agC u2 r_ u0 u3 u4 u6 v2)⟩ [_] {an:=[(4,cA q0 [57,58])] } [] ⟨q0,trivial⟩ ?_
      refine ri tT ⟨(afU r_ u0 u3 u4),(agC u2 r_ u0 u3 u4 u6 v2)⟩ [] {} [] trivial (bZ.fin (st':=⟨(afU r_ u0 u3 u4),[xu,sV,qL,(qK u2),(Dt r_),(DC r_),(Dx r_),(Du r_),(abQ r_ u0 u3 u4),(57,some (.cells 226 [(.own 58 false v2.l.length)])),(58,some (NW v2)),(NS u0 u6)]⟩) (cs:=[]) ⟨[],[(0,0),(1,1),(2,2),(3,3),(4,4),(5,5),(6,6),(7,7),(56,56),(57,57),(100,58),(59,59)]⟩ [0,1,3,4,5,34,35,36] (by kernel_rfl) trivial) ?_
      obtain rfl:=oi h
      exact lN
     ·refine cf hb1 ?_
      refine aP (rz tT ⟨[dW,(1,(vP 1 0)),(ED u4),(4,(vP 57 0)),(5,(vP 59 0)),(Kh r_ u0),(KY r_ u0),(Y2 u3)],(Sd r_ u0 u2 u4 u7 u6)⟩ {} [] ?_)
      obtain rfl:=oi h
      exact lN
    ·refine cf hb2 ?_
     refine aI (fz (adD u4 u2 r_ u7 u0 u6) []) ?_
     refine aX ?_
     obtain rfl:=oi h
     exact lB
   ·clear hy
    cases y with
    |brk z=>
     obtain⟨u8,v4⟩:=z
     unfold fT
     refine⟨_, .refl, ?_⟩
     refine aQ (bE h fun u5 hr_2 h=> ?_)
     have q0:=rk [(0,57),(1,58),(2,101)] (rW (⟨v4⟩:bA) hr_2)
     refine rg tT ⟨[dW,(1,(vP 1 0)),(ED u8),(4,(vP 57 0)),(5,(vP 59 0)),(9,(vP 102 0)),(10,(vB u5.2.1))],(ahh u2 r_ u0 u6 u5 u8)⟩ [_] {an:=[(0,cA q0 [57,58])],fr:=[(4,102)] } [] ⟨q0,trivial⟩ ?_
     refine aQ (sz tT ⟨[dW,(1,(vP 1 0)),(ED u8),(4,(vP 57 0)),(5,(vP 59 0)),(9,(vP 102 0)),(73,(vB (!u5.2.1)))],(ahh u2 r_ u0 u6 u5 u8)⟩ {} [] ?_)
     refine bI h (fun hb3 h=> ?_) (fun hb3 h=> ?_)
     ·refine ct hb3 ?_
      refine aI (fz ⟨[],[xu,sV,qL,(qK u2),(Dt r_),(DC r_),(Dx r_),(Du r_)]⟩ []) ?_
      refine aR ?_
      obtain rfl:=oi h
      exact lR dP (dQ 0) dO (bR.mk (.inr rfl) (p:=[]) (l:=[]) (by kernel_rfl) trivial (dY.refl _) (.refl _))
     ·refine cf hb3 ?_
      refine aP (rz tT ⟨(XY u8),[xu,sV,qL,(qK u2),(Dt r_),(DC r_),(Dx r_),(Du r_),(M8 u8),(Yv u5),(59,some (Ql u5)),(Yz u5)]⟩ {} [] ?_)
      refine sz tT ⟨[dW,(1,(vP 1 0)),(ED u8),(4,(vP 57 0)),(75,(.v (.agg [(cI u5.1.e0),(cI u5.1.e1)])))],[xu,sV,qL,(qK u2),(Dt r_),(DC r_),(Dx r_),(Du r_),(M8 u8),(Yv u5),(Yz u5)]⟩ {} [] ?_
      refine ri tT ⟨[dW,(1,(vP 1 0)),(ED u8),(4,(vP 57 0)),(5,(vP 103 0))],[xu,sV,qL,(qK u2),(Dt r_),(DC r_),(Dx r_),(Du r_),(M8 u8),(Yv u5),(Yz u5),(103,some (Ql u5))]⟩ [] {fr:=[(0,103)] } [] trivial (bZ.fin (st':=⟨(XY u8),[xu,sV,qL,(qK u2),(Dt r_),(DC r_),(Dx r_),(Du r_),(M8 u8),(57,some (.cells 226 [(.own 58 false u5.2.2.l.length)])),(58,some (dK 164 2 ah.cell u5.2.2.l)),(59,some (Ql u5))]⟩) (cs:=[]) ⟨[],[(0,0),(1,1),(2,2),(3,3),(4,4),(5,5),(6,6),(7,7),(56,56),(57,57),(101,58),(103,59)]⟩ [0,1,3,4,5] (by kernel_rfl) trivial) ?_
      obtain rfl:=oi h
      exact lN
    |ret v=>
     obtain rfl:=oi h
     unfold fT
     intro e st hn ha hR
     cases e with
     |normal=>exact absurd rfl hn
     |exit id=>simp only [qB (b:=1) ha rfl,cond_false];exact hR
     |goto l=>exact hR
     |ret=>exact hR
     |panic c=>exact hR
     |outgrown=>exact hR
  ·skip
   refine rg tT ⟨[dW,(1,(vP 1 0)),(ED v1),(4,(vP 57 0)),(5,(vP 59 0)),(26,(vB true))],[(abb r_),sV,qL,(qK u2),(Dt r_),(DC r_),(Dx r_),(Du r_),(M8 v1),(TG q0),(U2 q0),(NS u0 u6)]⟩ [(0:Int)≤0∧(0:Int)<(2:Nat),(0:Int)≤1∧(1:Int)<(2:Nat),Yl Try.prog 0 [(sI u0),(sI u6)] (adW u2 v0 u9 v3) (vB false) (YX u2 r_)] {an:=[(5, .call [0,2,3,4,5,6,7] (vB false) (YX u2 r_))] } [] ⟨((by decide)),((by decide)),(Yl.leR (res:=(vB (Nat.beq r_.1 0))) (hout:=(YX u2 r_)) (yK [(1,2),(1,3),(1,4),(1,5),(1,6),(1,7)] (mF u0 u6 u2 v0 (⟨u9,v3⟩:aH) hr_)) (dY.of (congrArg vB hb)) (.refl _)),trivial⟩ ?_
   refine ck (aI (fz ⟨[],[(abb r_),sV,qL,(qK u2),(Dt r_),(DC r_),(Dx r_),(Du r_)]⟩ []) ?_)
   refine aR ?_
   obtain rfl:=oi h
   exact lR dP (dQ 0) dO (bR.mk (.inr rfl) (p:=[]) (l:=[]) (by kernel_rfl) trivial (dY.refl _) (.refl _))
 ·clear hy
  cases y1 with
  |brk z=>exact absurd h (by simp)
  |ret v=>
   obtain rfl:=oi h
   unfold fT
   intro e st hn ha hR
   cases e with
   |normal=>exact absurd rfl hn
   |exit id=>exact hR
   |goto l=>exact hR
   |ret=>exact hR
   |panic c=>exact hR
   |outgrown=>exact hR
def jm  :aH→Exit→St→Prop:=
  fun r=>bR TT [] (.iG []) [(0,some (.cells 161 [(.own 1 false r.bO.length),(.d (bg none 1 (Na 1 (aC .i64)) r.from_))])),(1,some (dK 170 2 cO.cell r.bO))]
section
variable (o0:(List cO)) (o1:(List (List Int))) (u0:Int)
abbrev Yf:Nat × Option Ob:=(0,some (.cells 161 [(.own 1 false o0.length),(.d (QO o1))]))
abbrev Ps:Nat × Option Ob:=(20,some (.cells 157 [(.ptr 0 0)]))
abbrev O5:Nat × Option Ob:=(21,some (.cells 3 [(cI u0)]))
end
def kR (u0:Int):((List cO) × (List (List Int)))→St:=
  fun zz=>match zz with|(o0,o1)=> ⟨[(2,(vP 20 0)),(3,(vP 21 0))],[(Yf o0 o1),(1,some (dK 170 2 cO.cell o0)),Ps,(O5 u0)]⟩
def kV  :Unit→St:=
  fun _=> ⟨[],[]⟩
def Ao (u0:Int):(bn ((List cO) × (List (List Int))) (Ex Unit aH))→Exit→St→Prop:=
  LQ 0 [] (kR u0) kV (SQ1 jm)
section
variable (o1:(List (List Int))) (u0:(Nat × (List Int) × aH)) (u1:Int) (o0:(List cO))
abbrev RA:List (Nat × TV):=[(2,(vP 20 0)),(3,(vP 21 0)),(4,(vP 35 0))]
abbrev PU:=(List.replicate ((o1.length:Int).toNat) (0:Int))
abbrev abm:Nat × Option Ob:=(34,some (dK 3 1 (aC .i64) (PU o1)))
abbrev abd:Nat × Option Ob:=(35,some (.cells 40 [(.own 34 true ((PU o1).length))]))
abbrev ahi:List (Nat × TV):=[(2,(vP 20 0)),(3,(vP 21 0)),(4,(vP 35 0)),(18,(.v (.one (.fn 121 0 1 (Cv [(.ptr 36 0)])))))]
abbrev YZ:Nat × Option Ob:=(36,some (.cells 157 [(.ptr 0 0)]))
abbrev X9:Nat × Option Ob:=(0,some (.cells 161 [(.own 1 false u0.2.2.bO.length),(.d (bg none 1 (Na 1 (aC .i64)) u0.2.2.from_))]))
abbrev ZF:Nat × Option Ob:=(1,some (dK 170 2 cO.cell u0.2.2.bO))
abbrev ahJ:List (Nat × Option Ob):=[(37,some (.loop bC u0.1 RA)),YZ,Ps,(O5 u1),(35,some (.cells 40 [(.own 34 true u0.2.1.length)])),(X9 u0),(34,some (dK 3 1 (aC .i64) u0.2.1)),(ZF u0)]
abbrev afx:List (Nat × Option Ob):=[(37,some (.loop bC 0 RA)),YZ,Ps,(O5 u1),(abd o1),(Yf o0 o1),(abm o1),(1,some (dK 170 2 cO.cell o0))]
abbrev agp:St:=⟨ahi,[(X9 u0),(ZF u0),Ps,(O5 u1),(34,some (dK 3 1 (aC .i64) u0.2.1)),(35,some (.cells 40 [(.own 34 true u0.2.1.length)])),YZ]⟩
end
theorem pX (u1:Int) (u2:aH) {r:aH} (h:nR u1 u2=some r):Fn Try.prog 80 [(.one (.ptr 0 0)),(sI u1)] (agx u2) (.iG []) [(0,some (.cells 161 [(.own 1 false r.bO.length),(.d (bg none 1 (Na 1 (aC .i64)) r.from_))])),(1,some (dK 170 2 cO.cell r.bO))]:=by
 refine fN tT Try.func80 rfl rfl fun B=> ?_
 show bW _ _ _ _ _ _ (jm r) _
 unfold nR at h
 refine sz tT ⟨[(2,(vP 20 0)),(3,(vP 21 0))],[(X0 u2),(VT u2),Ps,(O5 u1)]⟩ {fr:=[(0,20),(1,21)] } [] ?_
 refine QG ?_
 refine aQ (Ud ?_)
 refine bE h fun y hy h=> ?_
 refine aL [] (kR u1) kV (SQ1 jm) hy (fun s f h=> ?_) ?_
 ·clear hy
  show bW _ _ _ _ _ _ ((Ao u1) f) _
  unfold pQ at h
  obtain⟨o0,o1⟩:=s
  refine aB (aQ (aO h fun⟨a1,a2,a3⟩ h=> ?_))
  refine rg tT ⟨RA,[(Yf o0 o1),(1,some (dK 170 2 cO.cell o0)),Ps,(O5 u1),(abm o1),(abd o1)]⟩ [_,((o1.length:Int):Int)=(o1.length:Int),_,_,(PU o1).length=((o1.length:Int).toNat),aY ((o1.length:Int).toNat) 1 (fun _ j=>[(.int .i64 0)].getD j .nilp) (aN (aC .i64) (PU o1))] {an:=[(5, .arr (PU o1).length (aN (aC .i64) (PU o1)))],fr:=[(5,34),(6,35)] } [] ⟨a1,rfl,a2,a3,(List.length_replicate),(fB _ _ _ _ _ (fun j hj=>(match j,hj with|0,_=>rfl))),trivial⟩ ?_
  refine aQ (aQ (bE h fun r_ hr_ h=> ?_))
  have q0:=rk [(2,36)] (jw (⟨o0,o1⟩:aH) hr_)
  refine rg tT ⟨ahi,[(Yf o0 o1),(1,some (dK 170 2 cO.cell o0)),Ps,(O5 u1),(abm o1),(abd o1),YZ]⟩ [_] {an:=[(1,cA q0 [0,1])] } [] ⟨q0,trivial⟩ ?_
  refine aB (bE h fun u0 hr_1 h=> ?_)
  refine bI h (fun hb h=> ?_) (fun hb h=> ?_)
  ·skip
   refine jd 37 RA [.exit 1] [37,36,20,21,35,0,34,1] (.iG []) (ahJ u0 u1) (.v (.one (.fn 121 0 1 (Cv [(.ptr 36 0)])))) 121 [] [(.ptr 36 0)] (afx o1 u1 o0) [(.one (.yl 37)),(.one (.ptr 36 0))] bC u0.1 RA (by kernel_rfl) (by kernel_rfl) (by kernel_rfl) (by kernel_rfl) (by kernel_rfl) (by kernel_rfl) (by kernel_rfl) (rK [(0,37),(1,36),(2,20),(3,21),(4,35),(5,0),(6,34),(7,1)] (mG u1 (PU o1) (⟨o0,o1⟩:aH) hr_1)) (by kernel_rfl) rfl (Dm.zero (Nat.eq_of_beq_eq_true hb)) (bZ.fin (st':=(agp u0 u1)) (cs:=[]) ⟨[],[(0,0),(1,1),(20,20),(21,21),(34,34),(35,35),(36,36)]⟩ [2,3,4,18] (by kernel_rfl) trivial) ?_
   refine aI (fz ⟨[],[(X9 u0),(ZF u0)]⟩ []) ?_
   refine aR ?_
   obtain rfl:=oi h
   exact lR dP (dQ 0) dO (acB (bR.mk (.inr rfl) (p:=[]) (l:=[]) (by kernel_rfl) trivial (dY.refl _) (.refl _)))
  ·skip
   refine aO h fun a1 h=> ?_
   refine jd 37 RA [.exit 1] [37,36,20,21,35,0,34,1] (.iG []) (ahJ u0 u1) (.v (.one (.fn 121 0 1 (Cv [(.ptr 36 0)])))) 121 [] [(.ptr 36 0)] (afx o1 u1 o0) [(.one (.yl 37)),(.one (.ptr 36 0))] bC u0.1 RA (by kernel_rfl) (by kernel_rfl) (by kernel_rfl) (by kernel_rfl) (by kernel_rfl) (by kernel_rfl) (by kernel_rfl) (rK [(0,37),(1,36),(2,20),(3,21),(4,35),(5,0),(6,34),(7,1)] (mG u1 (PU o1) (⟨o0,o1⟩:aH) hr_1)) (by kernel_rfl) rfl (Dm.ai6 (k:=0) (e:=(.exit 1)) a1 rfl rfl rfl) (.trans (bZ.fin (st':=(agp u0 u1)) (cs:=[]) ⟨[],[(0,0),(1,1),(20,20),(21,21),(34,34),(35,35),(36,36)]⟩ [2,3,4,18] (by kernel_rfl) trivial) (bZ.fin (st':=⟨[(2,(vP 20 0)),(3,(vP 21 0))],[(X9 u0),(ZF u0),Ps,(O5 u1)]⟩) (cs:=[]) ⟨[],[(0,0),(1,1),(20,20),(21,21)]⟩ [2,3] (by kernel_rfl) trivial)) ?_
   obtain rfl:=oi h
   exact SH (b:=0) (av:=[]) (S:=(kR u1)) (Sb:=kV) (Qo:=(SQ1 jm)) (by kernel_rfl)
 ·clear hy
  cases y with
  |brk z=>exact absurd h (by simp)
  |ret v=>
   obtain rfl:=oi h
   unfold fT
   intro e st hn ha hR
   cases e with
   |normal=>exact absurd rfl hn
   |exit id=>exact hR
   |goto l=>exact hR
   |ret=>exact hR
   |panic c=>exact hR
   |outgrown=>exact hR
noncomputable def eT:nI:=⟨[236,237],FU ([1,1,1,1,1,1,1,1,1,1,1,1,1,1,0,1,0]++[0]) (jX Try.f32),FU ([1,1,1,1,1,1,1,1,1,1,1,1,1,1,0,1,0]++[1]) (jX Try.f32),252,[]⟩
section
variable (u0:au)
abbrev UX:List (Nat × TV):=[(2,(vP 1 0)),(28,(vP 2 0))]
abbrev vX:Nat × Option Ob:=(0,some (.loop eT 0 UX))
abbrev rX:Nat × Option Ob:=(1,some (XH u0))
end
def D7 (u0:au):(List Bool)→Exit→St→Prop:=
  fun r=>lF 0 eT (vB true) [vX,(rX u0),(2,some (.cells 27 [(.own 3 true r.length)])),(3,some (dK 4 1 aD r))]
section
variable (o_:(List Bool)) (u0:au) (u1:Int)
abbrev yX:Nat × Option Ob:=(2,some (.cells 27 [(.own 3 true o_.length)]))
abbrev xL:Nat × Option Ob:=(3,some (dK 4 1 aD o_))
abbrev M0:List (Nat × Option Ob):=[vX,(rX u0),(yX o_),(xL o_)]
abbrev acE:Nat × Option Ob:=(0,some (.loop eT 1 UX))
abbrev acK:List (Nat × Option Ob):=[acE,(rX u0),(yX o_),(xL o_)]
abbrev aav:=(aN aD (o_.set ((k17 u1).toNat) true))
end
theorem Cc (u1:Int) (u2:Int) (u0:au) (o_:(List Bool)) {r:(List Bool)} (h:qC u1 u2 u0 o_=some r):Yl Try.prog 0 [(sI u1),(sI u2)] (M0 o_ u0) (vB true) [vX,(rX u0),(2,some (.cells 27 [(.own 3 true r.length)])),(3,some (dK 4 1 aD r))]:=by
 refine Ck (r:=eT) (sl:=UX) (sl1:=[(2,(vP 1 0)),(28,(vP 2 0)),(29,(vI u1))]) (h1:=(M0 o_ u0)) (sl2:=UX) (by kernel_rfl) rfl rfl (by kernel_rfl) (fun rd B=> ?_) (by kernel_rfl) (fun rd B=> ?_)
 ·refine om (c:=FU ([1,1,1,1,1,1,1,1,1,1,1,1,1,1,0,1,0]++[0]) (jX Try.f32)) rfl ?_
  refine lC (st:=⟨[(236,(vI u1)),(237,(vI u2)),(2,(vP 1 0)),(28,(vP 2 0))],(M0 o_ u0)⟩) (by kernel_rfl) ?_
  refine rz tT ⟨[(2,(vP 1 0)),(28,(vP 2 0)),(29,(vI u1))],(M0 o_ u0)⟩ {} [] ?_
  exact⟨rfl,rfl⟩
 ·refine om (c:=FU ([1,1,1,1,1,1,1,1,1,1,1,1,1,1,0,1,0]++[1]) (jX Try.f32)) rfl ?_
  refine lC (st:=⟨[(2,(vP 1 0)),(28,(vP 2 0)),(29,(vI u1))],(acK o_ u0)⟩) (by kernel_rfl) ?_
  show bW _ _ _ _ _ _ ((D7 u0) r) _
  unfold qC at h
  refine aB (sg tT ⟨[(28,(vP 2 0)),(29,(vI u1)),(245,(vB (bif (decide (0<u1))then(decide (u1≤u0.ax))else false)))],(acK o_ u0)⟩ (eqs (decide (0<u1)) 5 []) {yb:=[(2,(decide (0<u1)))] } [] (ae trivial) ?_)
  refine bI h (fun hb h=> ?_) (fun hb h=> ?_)
  ·refine ct hb ?_
   refine aO h fun a1 h=> ?_
   refine ri tT ⟨[],[acE,(rX u0),(yX o_),(3,some (.arr 4 1 o_.length (aav o_ u1)))]⟩ [_,_,aY o_.length 1 (lg (aN aD o_) ((k17 u1).toNat) 0 [(.bool true)]) (aav o_ u1)] {an:=[(4, .arr 0 (aav o_ u1))] } [] ⟨a1,(tL a1),(cZ _ _ _ _ _ _ _ _ rfl (fun j hj=>(match j,hj with|0,_=>rfl))),trivial⟩ (bZ.le (st':=⟨[],[acE,(rX u0),(2,some (.cells 27 [(.own 3 true ((o_.set ((k17 u1).toNat) true).length))])),(3,some (dK 4 1 aD (o_.set ((k17 u1).toNat) true)))]⟩) ⟨trivial,(hN 2 ⟨rfl,bX ⟨cW,trivial⟩,⟨rfl,oW,trivial⟩⟩)⟩) ?_
   obtain rfl:=oi h
   exact lF.on (sl:=UX) (by kernel_rfl) (xV (by kernel_rfl)) (dY.refl _)
  ·refine cf hb ?_
   refine aI (fz ⟨[],(acK o_ u0)⟩ []) ?_
   refine aP ?_
   obtain rfl:=oi h
   exact lF.on (sl:=UX) (by kernel_rfl) (xV (by kernel_rfl)) (dY.refl _)
def iA (u0:au):(List Bool)→Exit→St→Prop:=
  fun r=>bR TT [] (.iG []) [vX,(rX u0),(2,some (.cells 27 [(.own 3 true r.length)])),(3,some (dK 4 1 aD r))]
section
variable (x1:(List cO)) (u3:(List (List Int))) (u2:(List Bool)) (q0:(List ah)) (u4:Int) (u5:Int) (u0:au) (u1:(List Bool))
abbrev zi:Nat × TV:=(1,(vD (kK [(kK [(bg none 2 cO.cell x1),(QO u3)] 0)] 0)))
abbrev Gs:Nat × TV:=(3,(vO 52 true u2.length))
abbrev acL:List (Nat × TV):=[dW,(zi x1 u3),(Gs u2),(4,(vP 53 0)),(5,(vP 55 0))]
abbrev QD:Nat × Option Ob:=(52,some (dK 4 1 aD u2))
abbrev Zv:Nat × Option Ob:=(53,some (.cells 226 [(.own 54 false q0.length)]))
abbrev Zd:Nat × Option Ob:=(54,some (dK 164 2 ah.cell q0))
abbrev RZ:Nat × Option Ob:=(55,some (.cells 164 [(cI u4),(cI u5)]))
abbrev R7:List (Nat × Option Ob):=[vX,(rX u0),(yX u1),(xL u1),(QD u2),(Zv q0),(Zd q0),(RZ u4 u5)]
abbrev aaK:St:=⟨(acL x1 u3 u2),(R7 u2 q0 u4 u5 u0 u1)⟩
end
def j4 (x1:(List cO)) (u3:(List (List Int))) (u0:au):((List Bool) × (List Bool) × (List ah) × Int × Int)→St:=
  fun zz=>match zz with|(u1,u2,q0,u4,u5)=>(aaK x1 u3 u2 q0 u4 u5 u0 u1)
def jZ  :Unit→St:=
  fun _=> ⟨[],[]⟩
def gT (x1:(List cO)) (u1:(List (List Int))) (u0:au):(bn ((List Bool) × (List Bool) × (List ah) × Int × Int) (Ex Unit (List Bool)))→Exit→St→Prop:=
  LQ 0 [] (j4 x1 u1 u0) jZ (iA u0)
section
variable (u1:(List (List Int))) (u2:Int)
abbrev KM:Nat × TV:=(34,(vD (bg none 1 (aC .i64) (at' u1 u2.toNat))))
abbrev Kq:Nat × TV:=(35,(vI ((at' u1 u2.toNat).length:Int)))
end
def jO (x1:(List cO)) (u1:(List (List Int))) (u0:au) (u2:Int) (u5:Int) (r_:(List Bool)):((List Bool) × (List ah) × Int)→St:=
  fun zz=>match zz with|(u3,u4,u6)=> ⟨[dW,(zi x1 u1),(Gs u3),(4,(vP 53 0)),(5,(vP 55 0)),(KM u1 u2),(Kq u1 u2),(36,(vI u6))],(R7 u3 u4 u2 u5 u0 r_)⟩
def kr (x1:(List cO)) (u3:(List (List Int))) (u0:au) (u4:Int) (u5:Int) (r_:(List Bool)):((List Bool) × (List ah))→St:=
  fun zz=>match zz with|(u1,u2)=>(aaK x1 u3 u1 u2 u4 u5 u0 r_)
def rP (x1:(List cO)) (u0:(List (List Int))) (u1:au) (u2:Int) (u3:Int) (r_:(List Bool)):(bn ((List Bool) × (List ah) × Int) (Ex ((List Bool) × (List ah)) (bn ((List Bool) × (List Bool) × (List ah) × Int × Int) (Ex Unit (List Bool)))))→Exit→St→Prop:=
  LQ 2 [1] (jO x1 u0 u1 u2 u3 r_) (kr x1 u0 u1 u2 u3 r_) (gT x1 u0 u1)
section
variable (u1:(List (List Int))) (x1:(List cO)) (u2:Int) (u3:Int) (u0:au) (r_:(List Bool)) (u4:(List Bool)) (u7:(List ah)) (u6:Int) (u9:bA) (u5:(ah × Bool × bA)) (u8:(List Bool))
abbrev O1:=(List.replicate ((u1.length:Int).toNat) (false:Bool))
abbrev aep:List (Nat × TV):=[dW,(zi x1 u1),(3,(vO 52 true ((O1 u1).length)))]
abbrev abP:=(aN aD (O1 u1))
abbrev aaH:=((O1 u1).set 0 true)
abbrev abV:=(aN aD (aaH u1))
abbrev aal:Nat × TV:=(3,(vO 52 true ((aaH u1).length)))
abbrev Vk:Nat × Option Ob:=(52,some (dK 4 1 aD (aaH u1)))
abbrev abY:List (Nat × TV):=[dW,(zi x1 u1),(aal u1),(4,(vP 53 0))]
abbrev Vp:Nat × TV:=(7,(vI (at' (at' u1 u2.toNat) u3.toNat)))
abbrev QU:=(at' x1 ((at' (at' u1 u2.toNat) u3.toNat).toNat))
abbrev Ua:=((QU u1 x1 u2 u3).to_)
abbrev ah2:List (Nat × Option Ob):=[vX,(rX u0),(yX r_),(xL r_),(QD u4),(Zv u7),(Zd u7),(RZ u2 u6),(95,some (.cells 170 [(cI (Ua u1 x1 u2 u3)),(cI ((QU u1 x1 u2 u3).left))]))]
abbrev O4:=(decide (0<((QU u1 x1 u2 u3).left)))
abbrev ae0:Nat × TV:=(8,(vD (kK [(.int .i64 (Ua u1 x1 u2 u3)),(.int .i64 ((QU u1 x1 u2 u3).left))] 0)))
abbrev acd:=(u4.set ((Ua u1 x1 u2 u3).toNat) true)
abbrev abX:=(aN aD (acd u1 x1 u2 u3 u4))
abbrev abo:Nat × TV:=(3,(vO 52 true ((acd u1 x1 u2 u3 u4).length)))
abbrev ac6:Nat × Option Ob:=(52,some (dK 4 1 aD (acd u1 x1 u2 u3 u4)))
abbrev afz:List (Nat × Option Ob):=[vX,(rX u0),(yX r_),(xL r_),(ac6 u1 x1 u2 u3 u4),(53,some (.cells 226 [(.own 96 false u9.l.length)])),(RZ u2 u6),(96,some (NW u9))]
abbrev afY:List (Nat × TV):=[dW,(zi x1 u1),(abo u1 x1 u2 u3 u4),(4,(vP 53 0)),(5,(vP 55 0)),(KM u1 u2),(Kq u1 u2),(Y2 u3)]
abbrev YR:Nat × Option Ob:=(53,some (.cells 226 [(.own 97 false u5.2.2.l.length)]))
abbrev YQ:Nat × Option Ob:=(97,some (dK 164 2 ah.cell u5.2.2.l))
abbrev agk:List (Nat × Option Ob):=[vX,(rX u0),(yX r_),(xL r_),(QD u8),(YR u5),(RZ u2 u6),(YQ u5),(98,some (Ql u5))]
end
theorem jS (x1:(List cO)) (u1:(List (List Int))) (u0:au) (o_:(List Bool)) {r:(List Bool)} (h:iT x1 u1 u0 o_=some r):Fn Try.prog 121 [(.one (.yl 0)),(sD (kK [(kK [(bg none 2 cO.cell x1),(QO u1)] 0)] 0))] (M0 o_ u0) (.iG []) [vX,(rX u0),(2,some (.cells 27 [(.own 3 true r.length)])),(3,some (dK 4 1 aD r))]:=by
 refine fN tT Try.func121 rfl rfl fun B=> ?_
 show bW _ _ _ _ _ _ ((iA u0) r) _
 unfold iT at h
 refine aQ (aO h fun⟨a1,a2,a3⟩ h=> ?_)
 refine rg tT ⟨(aep u1 x1),[vX,(rX u0),(yX o_),(xL o_),(52,some (dK 4 1 aD (O1 u1)))]⟩ [_,((u1.length:Int):Int)=(u1.length:Int),_,_,(O1 u1).length=((u1.length:Int).toNat),aY ((u1.length:Int).toNat) 1 (fun _ j=>[(.bool false)].getD j .nilp) (abP u1)] {an:=[(5, .arr (O1 u1).length (abP u1))],fr:=[(5,52)] } [] ⟨a1,rfl,a2,a3,(List.length_replicate),(fB _ _ _ _ _ (fun j hj=>(match j,hj with|0,_=>rfl))),trivial⟩ ?_
 refine aQ (aO h fun a1 h=> ?_)
 refine ri tT ⟨(aep u1 x1),[vX,(rX u0),(yX o_),(xL o_),(52,some (.arr 4 1 (O1 u1).length (abV u1)))]⟩ [_,_,aY (O1 u1).length 1 (lg (abP u1) 0 0 [(.bool true)]) (abV u1)] {an:=[(2, .arr 0 (abV u1))] } [] ⟨a1,(tL a1),(cZ _ _ _ _ _ _ _ _ rfl (fun j hj=>(match j,hj with|0,_=>rfl))),trivial⟩ (bZ.le (st':=⟨[dW,(zi x1 u1),(aal u1)],[vX,(rX u0),(yX o_),(xL o_),(Vk u1)]⟩) ⟨⟨tR,tR,⟨_,rfl,dY.v (eX.one cW)⟩,trivial⟩,(hN 4 ⟨rfl,oW,trivial⟩)⟩) ?_
 refine si tT ⟨(abY u1 x1),[vX,(rX u0),(yX o_),(xL o_),(Vk u1),(53,some (.cells 226 [(.d nS)]))]⟩ [] {fr:=[(0,53)] } [] trivial (.trans (bZ.AQ (E:=0) (esz:=0) (E0:=226) (cs:=[(.d nS)]) (p:=53) (q:=0) (b:=54) (esz0:=0) (el0:=fun _ _=> .nilp) (ob:= .arr 164 2 0 (aN ah.cell ([]:List ah))) (fun _ _ _ _ h=> .inl ⟨h,rfl⟩) (by kernel_rfl) (by kernel_rfl) (by kernel_rfl)) (.trans (fz ⟨(abY u1 x1),[vX,(rX u0),(yX o_),(xL o_),(Vk u1),(53,some (.cells 226 [(.own 54 false 0)])),(54,some (.arr 164 2 0 (aN ah.cell ([]:List ah))))]⟩ []) (bZ.le (st':=⟨(abY u1 x1),[vX,(rX u0),(yX o_),(xL o_),(Vk u1),(53,some (.cells 226 [(.own 54 false (([]:List ah).length))])),(54,some (dK 164 2 ah.cell ([]:List ah)))]⟩) ⟨⟨tR,tR,tR,tR,trivial⟩,(hN 5 ⟨rfl,bX ⟨cW,trivial⟩,⟨rfl,oW,trivial⟩⟩)⟩))) ?_
 refine sz tT ⟨[dW,(zi x1 u1),(aal u1),(4,(vP 53 0)),(5,(vP 55 0))],[vX,(rX u0),(yX o_),(xL o_),(Vk u1),(53,some (.cells 226 [(.own 54 false (([]:List ah).length))])),(54,some (dK 164 2 ah.cell ([]:List ah))),(55,some (.cells 164 [(cI 0),(cI (-1))]))]⟩ {fr:=[(1,55)] } [] ?_
 refine bE h fun y1 hy h=> ?_
 refine aL [] (j4 x1 u1 u0) jZ (iA u0) hy (fun s f h=> ?_) ?_
 ·clear hy
  show bW _ _ _ _ _ _ ((gT x1 u1 u0) f) _
  unfold j5 at h
  obtain⟨v1,v0,q0,u2,u6⟩:=s
  refine aQ (aB (aQ (aQ (bE h fun r_ hr_ h=> ?_))))
  refine rg tT ⟨[dW,(zi x1 u1),(Gs v0),(4,(vP 53 0)),(5,(vP 55 0)),(26,(vB false))],(R7 v0 q0 u2 u6 u0 r_)⟩ [(0:Int)≤0∧(0:Int)<(2:Nat),(0:Int)≤1∧(1:Int)<(2:Nat),Yl Try.prog 0 [(sI u2),(sI u6)] (M0 v1 u0) (vB true) (M0 r_ u0)] {an:=[(5, .call [0,1,2,3] (vB true) (M0 r_ u0))] } [] ⟨((by decide)),((by decide)),(Cc u2 u6 u0 v1 hr_),trivial⟩ ?_
  refine cn (aP (aQ (aQ (aO h fun a1 h=> ?_))))
  refine dg tT mX ⟨[dW,(zi x1 u1),(Gs v0),(4,(vP 53 0)),(5,(vP 55 0)),(KM u1 u2),(Kq u1 u2),(36,(vI 0))],(R7 v0 q0 u2 u6 u0 r_)⟩ [(0:Int)≤0∧(0:Int)<(2:Nat),_] {} [] ⟨((by decide)),a1,trivial⟩ ?_
  refine bE h fun y hy h=> ?_
  refine aL [1] (jO x1 u1 u0 u2 u6 r_) (kr x1 u1 u0 u2 u6 r_) (gT x1 u1 u0) hy (fun s f h=> ?_) ?_
  ·clear hy
   show bW _ _ _ _ _ _ ((rP x1 u1 u0 u2 u6 r_) f) _
   unfold kC at h
   obtain⟨u4,u7,u3⟩:=s
   refine sz tT ⟨[dW,(zi x1 u1),(Gs u4),(4,(vP 53 0)),(5,(vP 55 0)),(KM u1 u2),(Kq u1 u2),(36,(vI u3)),(37,(vB (decide (u3<((at' u1 u2.toNat).length:Int)))))],(R7 u4 u7 u2 u6 u0 r_)⟩ {} [] ?_
   refine aQ ?_
   refine bI h (fun hb1 h=> ?_) (fun hb1 h=> ?_)
   ·refine ct hb1 ?_
    refine aP (aQ (aB (aQ (aO h fun a1 h=> ?_))))
    refine rg tT ⟨[dW,(zi x1 u1),(Gs u4),(4,(vP 53 0)),(5,(vP 55 0)),(Vp u1 u2 u3),(KM u1 u2),(Kq u1 u2),(36,(vI u3))],(R7 u4 u7 u2 u6 u0 r_)⟩ [_] {} [] ⟨a1,trivial⟩ ?_
    refine aQ (aO h fun a1 h=> ?_)
    refine rg tT ⟨[dW,(zi x1 u1),(Gs u4),(4,(vP 53 0)),(5,(vP 55 0)),(Vp u1 u2 u3),(8,(vP 95 0)),(KM u1 u2),(Kq u1 u2),(36,(vI u3))],(ah2 u1 x1 u2 u3 u0 r_ u4 u7 u6)⟩ [_] {fr:=[(7,95)] } [] ⟨a1,trivial⟩ ?_
    refine aQ (aO h fun a1 h=> ?_)
    refine rg tT ⟨[dW,(zi x1 u1),(Gs u4),(4,(vP 53 0)),(5,(vP 55 0)),(Vp u1 u2 u3),(8,(vP 95 0)),(KM u1 u2),(Kq u1 u2),(36,(vI u3)),(57,(vB (bif (O4 u1 x1 u2 u3)then(!(at' u4 ((Ua u1 x1 u2 u3).toNat)))else false)))],(ah2 u1 x1 u2 u3 u0 r_ u4 u7 u6)⟩ (eqs (O4 u1 x1 u2 u3) 4 ((gP (jq [(3,(O4 u1 x1 u2 u3))]) [(3,true)]→All [(0:Int)≤(QU u1 x1 u2 u3).to_∧(QU u1 x1 u2 u3).to_<(u4.length:Int)])::((O4 u1 x1 u2 u3)=(O4 u1 x1 u2 u3))::(gP (jq [(3,(O4 u1 x1 u2 u3))]) [(3,true)]→All [(Ua u1 x1 u2 u3).toNat<u4.length])::(eqs (O4 u1 x1 u2 u3) 2 []))) {yb:=[(3,(O4 u1 x1 u2 u3))] } [] (ae ⟨(fun hg=> ⟨(a1 (bD hg)),trivial⟩),rfl,(fun hg=> ⟨((fun hq=>tL (a1 hq)) (bD hg)),trivial⟩),(ae trivial)⟩) ?_
    refine bI h (fun hb h=> ?_) (fun hb h=> ?_)
    ·refine ct hb ?_
     refine aQ (aO h fun a1 h=> ?_)
     refine ri tT ⟨[dW,(zi x1 u1),(Gs u4),(4,(vP 53 0)),(5,(vP 55 0)),(Vp u1 u2 u3),(ae0 u1 x1 u2 u3),(KM u1 u2),(Kq u1 u2),(36,(vI u3))],[vX,(rX u0),(yX r_),(xL r_),(52,some (.arr 4 1 u4.length (abX u1 x1 u2 u3 u4))),(Zv u7),(Zd u7),(RZ u2 u6)]⟩ [_,_,aY u4.length 1 (lg (aN aD u4) ((Ua u1 x1 u2 u3).toNat) 0 [(.bool true)]) (abX u1 x1 u2 u3 u4)] {an:=[(4, .arr 0 (abX u1 x1 u2 u3 u4))] } [95] ⟨a1,(tL a1),(cZ _ _ _ _ _ _ _ _ rfl (fun j hj=>(match j,hj with|0,_=>rfl))),trivial⟩ (bZ.le (st':=⟨[dW,(zi x1 u1),(abo u1 x1 u2 u3 u4),(4,(vP 53 0)),(5,(vP 55 0)),(Vp u1 u2 u3),(ae0 u1 x1 u2 u3),(KM u1 u2),(Kq u1 u2),(36,(vI u3))],[vX,(rX u0),(yX r_),(xL r_),(ac6 u1 x1 u2 u3 u4),(Zv u7),(Zd u7),(RZ u2 u6)]⟩) ⟨⟨tR,tR,⟨_,rfl,dY.v (eX.one cW)⟩,tR,tR,tR,tR,tR,tR,tR,trivial⟩,(hN 4 ⟨rfl,oW,(.refl _)⟩)⟩) ?_
     refine bE h fun u9 hr_1 h=> ?_
     have q0:=rk [(0,53),(1,54),(2,96)] (uO (⟨(QU u1 x1 u2 u3).to_,(at' (at' u1 u2.toNat) u3.toNat)⟩:ah) (⟨u7⟩:bA) hr_1)
     refine rg tT ⟨[dW,(zi x1 u1),(abo u1 x1 u2 u3 u4),(4,(vP 53 0)),(5,(vP 55 0)),(KM u1 u2),(Kq u1 u2),(36,(vI u3))],(afz u1 x1 u2 u3 u0 r_ u4 u6 u9)⟩ [_] {an:=[(4,cA q0 [53,54])] } [] ⟨q0,trivial⟩ ?_
     refine ri tT ⟨(afY u1 x1 u2 u3 u4),(afz u1 x1 u2 u3 u0 r_ u4 u6 u9)⟩ [] {} [] trivial (bZ.fin (st':=⟨(afY u1 x1 u2 u3 u4),[vX,(rX u0),(yX r_),(xL r_),(ac6 u1 x1 u2 u3 u4),(53,some (.cells 226 [(.own 54 false u9.l.length)])),(54,some (NW u9)),(RZ u2 u6)]⟩) (cs:=[]) ⟨[],[(0,0),(1,1),(2,2),(3,3),(52,52),(53,53),(96,54),(55,55)]⟩ [0,1,3,4,5,34,35,36] (by kernel_rfl) trivial) ?_
     obtain rfl:=oi h
     exact lN
    ·refine cf hb ?_
     refine aP (rz tT ⟨[dW,(zi x1 u1),(Gs u4),(4,(vP 53 0)),(5,(vP 55 0)),(KM u1 u2),(Kq u1 u2),(Y2 u3)],(R7 u4 u7 u2 u6 u0 r_)⟩ {} [] ?_)
     obtain rfl:=oi h
     exact lN
   ·refine cf hb1 ?_
    refine aI (fz (aaK x1 u1 u4 u7 u2 u6 u0 r_) []) ?_
    refine aX ?_
    obtain rfl:=oi h
    exact lB
  ·clear hy
   cases y with
   |brk z=>
    obtain⟨u8,v2⟩:=z
    unfold fT
    refine⟨_, .refl, ?_⟩
    refine aQ (bE h fun u5 hr_2 h=> ?_)
    have q0:=rk [(0,53),(1,54),(2,97)] (rW (⟨v2⟩:bA) hr_2)
    refine rg tT ⟨[dW,(zi x1 u1),(Gs u8),(4,(vP 53 0)),(5,(vP 55 0)),(9,(vP 98 0)),(10,(vB u5.2.1))],(agk u2 u0 r_ u6 u5 u8)⟩ [_] {an:=[(0,cA q0 [53,54])],fr:=[(4,98)] } [] ⟨q0,trivial⟩ ?_
    refine aQ (sz tT ⟨[dW,(zi x1 u1),(Gs u8),(4,(vP 53 0)),(5,(vP 55 0)),(9,(vP 98 0)),(73,(vB (!u5.2.1)))],(agk u2 u0 r_ u6 u5 u8)⟩ {} [] ?_)
    refine bI h (fun hb2 h=> ?_) (fun hb2 h=> ?_)
    ·refine ct hb2 ?_
     refine aI (fz ⟨[],(M0 r_ u0)⟩ []) ?_
     refine aR ?_
     obtain rfl:=oi h
     exact lR dP (dQ 0) dO (bR.mk (.inr rfl) (p:=[]) (l:=[]) (by kernel_rfl) trivial (dY.refl _) (.refl _))
    ·refine cf hb2 ?_
     refine aP (rz tT ⟨(acL x1 u1 u8),[vX,(rX u0),(yX r_),(xL r_),(QD u8),(YR u5),(55,some (Ql u5)),(YQ u5)]⟩ {} [] ?_)
     refine sz tT ⟨[dW,(zi x1 u1),(Gs u8),(4,(vP 53 0)),(75,(.v (.agg [(cI u5.1.e0),(cI u5.1.e1)])))],[vX,(rX u0),(yX r_),(xL r_),(QD u8),(YR u5),(YQ u5)]⟩ {} [] ?_
     refine ri tT ⟨[dW,(zi x1 u1),(Gs u8),(4,(vP 53 0)),(5,(vP 99 0))],[vX,(rX u0),(yX r_),(xL r_),(QD u8),(YR u5),(YQ u5),(99,some (Ql u5))]⟩ [] {fr:=[(0,99)] } [] trivial (bZ.fin (st':=⟨(acL x1 u1 u8),[vX,(rX u0),(yX r_),(xL r_),(QD u8),(53,some (.cells 226 [(.own 54 false u5.2.2.l.length)])),(54,some (dK 164 2 ah.cell u5.2.2.l)),(55,some (Ql u5))]⟩) (cs:=[]) ⟨[],[(0,0),(1,1),(2,2),(3,3),(52,52),(53,53),(97,54),(99,55)]⟩ [0,1,3,4,5] (by kernel_rfl) trivial) ?_
     obtain rfl:=oi h
     exact lN
   |ret v=>
    obtain rfl:=oi h
    unfold fT
    intro e st hn ha hR
    cases e with
    |normal=>exact absurd rfl hn
    |exit id=>simp only [qB (b:=1) ha rfl,cond_false];exact hR
    |goto l=>exact hR
    |ret=>exact hR
    |panic c=>exact hR
    |outgrown=>exact hR
 ·clear hy
  cases y1 with
  |brk z=>exact absurd h (by simp)
  |ret v=>
   obtain rfl:=oi h
   unfold fT
   intro e st hn ha hR
   cases e with
   |normal=>exact absurd rfl hn
   |exit id=>exact hR
   |goto l=>exact hR
   |ret=>exact hR
   |panic c=>exact hR
   |outgrown=>exact hR
def jg  :(aS × (List Bool) × Int)→Exit→St→Prop:=
  fun r=>bR TT [.cell 4 77, .tmp 5, .tmp 6] (.iG [(.agg [(.d (bg none 1 (aC .i64) r.1.ai)),(.d (bg none 1 (aC .i64) r.1.af)),(.d (bg none 2 ah.cell r.1.aF))]),(sD (bg none 1 aD r.2.1)),(sI r.2.2)]) []
section
variable (p:au) (s_:ay) (u1:Int) (n1:(List (List Int))) (n0:(List cO)) (u0:(List (Int × Int)))
abbrev og:Nat × TV:=(8,(vI (IntKind.wrap .i64 ((IntKind.wrap .i64 ((1:Int)+p.ax))+(p.aF.length:Int)))))
abbrev sF:Nat × TV:=(11,(.v (.one (.mp 73))))
abbrev qz:Nat × TV:=(12,(.v (.one (.mp 74))))
abbrev oK:Nat × TV:=(13,(.v (.one (.mp 75))))
abbrev Jd:Nat × TV:=(66,(vD (bg none 5 aj.cell p.ai)))
abbrev Jq:Nat × TV:=(67,(vI (p.ai.length:Int)))
abbrev af9:List (Nat × TV):=[(2,(vP 63 0)),(gQ s_),(4,(vP 65 0)),(og p),(9,(vP 67 0)),(10,(vP 72 0)),sF,qz,oK,(Jd p),(Jq p),(68,(vI u1))]
abbrev Az:Nat × Option Ob:=(63,some (XH p))
abbrev dz:Nat × Option Ob:=(65,some (.cells 77 [(.d nS),(.d nS),(.d nS)]))
abbrev Tg:Nat × Option Ob:=(66,some (.rows 40 1 n1.length (ni uo n1) none))
abbrev Xp:Nat × Option Ob:=(67,some (.cells 161 [(.own 68 false n0.length),(.own 66 true n1.length)]))
abbrev Nu:Nat × Option Ob:=(68,some (dK 170 2 cO.cell n0))
abbrev VW:=((p.ai.length:Int).toNat)
abbrev Nt:=(List.replicate (VW p) (0:Int))
abbrev V7:Nat × Option Ob:=(69,some (dK 3 1 (aC .i64) (Nt p)))
abbrev Oe:Nat × Option Ob:=(70,some (ab8 p))
abbrev Wp:=((p.aF.length:Int).toNat)
abbrev Si:=(List.replicate (Wp p) ((⟨0,0⟩:ah):ah))
abbrev aia:Ob:=(dK 164 2 ah.cell (Si p))
abbrev LW:Nat × Option Ob:=(71,some (aia p))
abbrev Tj:=((Si p).length)
abbrev Vw:Nat × Option Ob:=(72,some (.cells 77 [(.own 69 true ((Nt p).length)),(.own 70 true (Vm p)),(.own 71 true (Tj p))]))
abbrev Rl:Ob:=(Kl 3 3 false false 1 1 (aC .i64) (aC .i64) u0)
abbrev ER:Nat × Option Ob:=(73,some (Rl u0))
abbrev Tq:Ob:=(Kl 3 3 false false 1 1 (aC .i64) (aC .i64) ([]:(List (Int × Int))))
abbrev Xv:Nat × Option Ob:=(74,some Tq)
abbrev NA:Nat × Option Ob:=(75,some (Kl 164 3 true false 2 1 ah.cell (aC .i64) ([]:(List (ah × Int)))))
abbrev Tx:List (Nat × Option Ob):=[(Az p),dz,(Tg n1),(Xp n1 n0),(Nu n0),(V7 p),(Oe p),(LW p),(Vw p),(ER u0),Xv,NA]
end
def BB (p:au) (s_:ay):((List cO) × (List (List Int)) × (List (Int × Int)) × Int)→St:=
  fun zz=>match zz with|(n0,n1,u0,u1)=> ⟨(af9 p s_ u1),(Tx p n1 n0 u0)⟩
section
variable (s_:ay) (p:au) (p1:(List aj)) (x0:(List Int)) (u0:(List (List Int))) (u1:(List cO)) (u2:(List (Int × Int)))
abbrev WE:List (Nat × TV):=[(2,(vP 63 0)),(gQ s_),(4,(vP 65 0)),(og p),(9,(vP 67 0)),(10,(vP 72 0)),sF,qz,oK]
abbrev agL:Ob:=(.cells 26 [(cI p.ax),(.d (k13 p1)),(.d (bg none 6 aM.cell p.af)),(.d (k6 p))])
abbrev Qk:Nat × Option Ob:=(63,some (agL p p1))
abbrev nG:Nat × Option Ob:=(69,some (Dy x0))
abbrev Zt:Nat × Option Ob:=(72,some (.cells 77 [(.own 69 true x0.length),(.own 70 true (Vm p)),(.own 71 true (Tj p))]))
abbrev afm:List (Nat × Option Ob):=[(Qk p p1),dz,(Tg u0),(Xp u0 u1),(Nu u1),(nG x0),(Oe p),(LW p),(Zt p x0),(ER u2),Xv,NA]
end
def Bv (p:au) (s_:ay):((List aj) × (List cO) × (List (List Int)) × (List Int) × (List (Int × Int)))→St:=
  fun zz=>match zz with|(p1,u1,u0,x0,u2)=> ⟨(WE s_ p),(afm p p1 x0 u0 u1 u2)⟩
def Jz (p:au) (s_:ay):(bn ((List cO) × (List (List Int)) × (List (Int × Int)) × Int) (Ex ((List aj) × (List cO) × (List (List Int)) × (List Int) × (List (Int × Int))) (aS × (List Bool) × Int)))→Exit→St→Prop:=
  LQ 0 [] (BB p s_) (Bv p s_) jg
section
variable (p:au) (s_:ay) (u4:Int) (u3:(List (Int × Int))) (p1:(List aj)) (u0:(List (List Int))) (u1:(List cO)) (x0:(List Int)) (u2:(List (Int × Int)))
abbrev Jh:Nat × TV:=(88,(vD (bg none 6 aM.cell p.af)))
abbrev Jr:Nat × TV:=(89,(vI (p.af.length:Int)))
abbrev adI:List (Nat × TV):=[(2,(vP 63 0)),(gQ s_),(4,(vP 65 0)),(og p),(9,(vP 67 0)),(10,(vP 72 0)),sF,qz,oK,(Jh p),(Jr p),(90,(vI u4))]
abbrev Fe:Nat × Option Ob:=(74,some (Rl u3))
abbrev Ug:List (Nat × Option Ob):=[(Qk p p1),dz,(Tg u0),(Xp u0 u1),(Nu u1),(nG x0),(Oe p),(LW p),(Zt p x0),(ER u2),(Fe u3),NA]
end
def Bz (p:au) (s_:ay) (p1:(List aj)) (x0:(List Int)) (u2:(List (Int × Int))):((List cO) × (List (List Int)) × (List (Int × Int)) × Int)→St:=
  fun zz=>match zz with|(u1,u0,u3,u4)=> ⟨(adI p s_ u4),(Ug p u3 p1 u0 u1 x0 u2)⟩
section
variable (p:au) (p1:(List aj)) (p2:(List aM)) (x1:(List Int)) (u0:(List (List Int))) (u1:(List cO)) (x0:(List Int)) (u2:(List (Int × Int))) (u3:(List (Int × Int)))
abbrev adu:Nat × Option Ob:=(63,some (.cells 26 [(cI p.ax),(.d (k13 p1)),(.d (bg none 6 aM.cell p2)),(.d (k6 p))]))
abbrev pJ:Nat × Option Ob:=(70,some (Dy x1))
abbrev aif:List (Nat × Option Ob):=[(adu p p1 p2),dz,(Tg u0),(Xp u0 u1),(Nu u1),(nG x0),(pJ x1),(LW p),(72,some (.cells 77 [(.own 69 true x0.length),(.own 70 true x1.length),(.own 71 true (Tj p))])),(ER u2),(Fe u3),NA]
end
def Bq (p:au) (s_:ay) (p1:(List aj)) (x0:(List Int)) (u2:(List (Int × Int))):((List aM) × (List cO) × (List (List Int)) × (List Int) × (List (Int × Int)))→St:=
  fun zz=>match zz with|(p2,u1,u0,x1,u3)=> ⟨(WE s_ p),(aif p p1 p2 x1 u0 u1 x0 u2 u3)⟩
def Je (p:au) (s_:ay) (p1:(List aj)) (x0:(List Int)) (u0:(List (Int × Int))):(bn ((List cO) × (List (List Int)) × (List (Int × Int)) × Int) (Ex ((List aM) × (List cO) × (List (List Int)) × (List Int) × (List (Int × Int))) (aS × (List Bool) × Int)))→Exit→St→Prop:=
  LQ 2 [] (Bz p s_ p1 x0 u0) (Bq p s_ p1 x0 u0) jg
section
variable (u6:(List aK)) (s_:ay) (u4:Int) (u7:Int) (u8:Int) (p:au) (p1:(List aj)) (p2:(List aM)) (p3:(List aK)) (x2:(List ah)) (x0:(List Int)) (x1:(List Int)) (u5:(List (ah × Int))) (u0:(List (List Int))) (u1:(List cO)) (u2:(List (Int × Int))) (u3:(List (Int × Int)))
abbrev Af:Nat × TV:=(115,(vD (k14 u6)))
abbrev agz:List (Nat × TV):=[(2,(vP 63 0)),(gQ s_),(4,(vP 65 0)),(8,(vI u4)),(9,(vP 67 0)),(10,(vP 72 0)),sF,qz,oK,(Af u6),(116,(vI u7)),(117,(vI u8))]
abbrev fA:Nat × Option Ob:=(63,some (.cells 26 [(cI p.ax),(.d (k13 p1)),(.d (bg none 6 aM.cell p2)),(.d (k14 p3))]))
abbrev ru:Nat × Option Ob:=(71,some (dK 164 2 ah.cell x2))
abbrev rf:Nat × Option Ob:=(72,some (.cells 77 [(.own 69 true x0.length),(.own 70 true x1.length),(.own 71 true x2.length)]))
abbrev GN:Nat × Option Ob:=(75,some (Kl 164 3 true false 2 1 ah.cell (aC .i64) u5))
abbrev Vl:List (Nat × Option Ob):=[(fA p p1 p2 p3),dz,(Tg u0),(Xp u0 u1),(Nu u1),(nG x0),(pJ x1),(ru x2),(rf x2 x0 x1),(ER u2),(Fe u3),(GN u5)]
end
def Bo (p:au) (s_:ay) (p1:(List aj)) (x0:(List Int)) (u2:(List (Int × Int))) (p2:(List aM)) (x1:(List Int)) (u3:(List (Int × Int))):((List aK) × Int × (List cO) × (List (List Int)) × (List ah) × (List (ah × Int)) × (List aK) × Int × Int)→St:=
  fun zz=>match zz with|(p3,u4,u1,u0,x2,u5,u6,u7,u8)=> ⟨(agz u6 s_ u4 u7 u8),(Vl p p1 p2 p3 x2 x0 x1 u5 u0 u1 u2 u3)⟩
section
variable (u6:Int) (p:au) (p1:(List aj)) (p2:(List aM)) (u5:(List aK)) (u0:(List (List Int))) (u1:(List cO)) (x0:(List Int)) (x1:(List Int)) (u2:(List ah)) (u3:(List (Int × Int))) (u4:(List (Int × Int))) (u7:(List (ah × Int)))
abbrev acT:List (Nat × TV):=[(2,(vP 63 0)),(4,(vP 65 0)),(8,(vI u6)),(9,(vP 67 0)),(10,(vP 72 0)),sF,qz,oK]
abbrev ahk:St:=⟨(acT u6),(Vl p p1 p2 u5 u2 x0 x1 u7 u0 u1 u3 u4)⟩
end
def Bg (p:au) (p1:(List aj)) (x0:(List Int)) (u3:(List (Int × Int))) (p2:(List aM)) (x1:(List Int)) (u4:(List (Int × Int))):((List aK) × Int × (List cO) × (List (List Int)) × (List ah) × (List (ah × Int)))→St:=
  fun zz=>match zz with|(u5,u6,u1,u0,u2,u7)=>(ahk u6 p p1 p2 u5 u0 u1 x0 x1 u2 u3 u4 u7)
def sM (p:au) (s_:ay) (p1:(List aj)) (x0:(List Int)) (u0:(List (Int × Int))) (p2:(List aM)) (x1:(List Int)) (u1:(List (Int × Int))):(bn ((List aK) × Int × (List cO) × (List (List Int)) × (List ah) × (List (ah × Int)) × (List aK) × Int × Int) (Ex ((List aK) × Int × (List cO) × (List (List Int)) × (List ah) × (List (ah × Int))) (aS × (List Bool) × Int)))→Exit→St→Prop:=
  LQ 4 [] (Bo p s_ p1 x0 u0 p2 x1 u1) (Bg p p1 x0 u0 p2 x1 u1) jg
section
variable (u1:(List aK)) (u0:Int) (s_:ay) (u6:Int) (u7:Int) (u9:Int) (p:au) (p1:(List aj)) (p2:(List aM)) (p3:(List aK)) (u2:(List (List Int))) (u3:(List cO)) (x0:(List Int)) (x1:(List Int)) (x2:(List ah)) (u4:(List (Int × Int))) (u5:(List (Int × Int))) (u8:(List (ah × Int)))
abbrev aaw:List DV:=[(.int .i64 ((Lj u1 u0).e0)),(.int .i64 ((Lj u1 u0).e1)),(.int .i64 ((at' u1 u0.toNat).cK)),(.int .i64 ((at' u1 u0.toNat).uT))]
abbrev afF:TV:=(vD (kK (aaw u1 u0) 0))
abbrev FB:Nat × TV:=(19,(afF u1 u0))
abbrev Wq:List CV:=[(cI ((Lj u1 u0).e0)),(cI ((Lj u1 u0).e1))]
abbrev Jk:Nat × TV:=(133,(.v (.agg (Wq u1 u0))))
abbrev agh:List (Nat × TV):=[(2,(vP 63 0)),(gQ s_),(4,(vP 65 0)),(8,(vI u6)),(9,(vP 67 0)),(10,(vP 72 0)),sF,qz,oK,(18,(vI u0)),(FB u1 u0),(Af u1),(116,(vI u7)),(117,(vI u0)),(Jk u1 u0),(134,(vI u9))]
abbrev R6:List (Nat × Option Ob):=[(fA p p1 p2 p3),dz,(Tg u2),(67,some (.cells 161 [(.own 111 false u3.length),(.own 66 true u2.length)])),(nG x0),(pJ x1),(ru x2),(rf x2 x0 x1),(ER u4),(Fe u5),(GN u8),(111,some (dK 170 2 cO.cell u3))]
end
def Bj (p:au) (s_:ay) (p1:(List aj)) (x0:(List Int)) (u4:(List (Int × Int))) (p2:(List aM)) (x1:(List Int)) (u5:(List (Int × Int))) (p3:(List aK)) (u6:Int) (x2:(List ah)) (u1:(List aK)) (u7:Int) (u0:Int):((List cO) × (List (List Int)) × (List (ah × Int)) × Int)→St:=
  fun zz=>match zz with|(u3,u2,u8,u9)=> ⟨(agh u1 u0 s_ u6 u7 u9),(R6 p p1 p2 p3 u2 u3 x0 x1 x2 u4 u5 u8)⟩
section
variable (s_:ay) (u4:Int) (u5:(List aK)) (u6:Int) (u7:Int) (p:au) (p1:(List aj)) (p2:(List aM)) (p3:(List aK)) (u0:(List (List Int))) (u1:(List cO)) (x0:(List Int)) (x1:(List Int)) (x2:(List ah)) (u2:(List (Int × Int))) (u3:(List (Int × Int))) (u8:(List (ah × Int)))
abbrev adQ:St:=⟨(agz u5 s_ u4 u6 u7),(R6 p p1 p2 p3 u0 u1 x0 x1 x2 u2 u3 u8)⟩
end
def Bn (p:au) (s_:ay) (p1:(List aj)) (x0:(List Int)) (u2:(List (Int × Int))) (p2:(List aM)) (x1:(List Int)) (u3:(List (Int × Int))) (p3:(List aK)) (u4:Int) (x2:(List ah)) (u5:(List aK)) (u6:Int) (u7:Int):((List cO) × (List (List Int)) × (List (ah × Int)))→St:=
  fun zz=>match zz with|(u1,u0,u8)=>(adQ s_ u4 u5 u6 u7 p p1 p2 p3 u0 u1 x0 x1 x2 u2 u3 u8)
def Jp (p:au) (s_:ay) (p1:(List aj)) (x0:(List Int)) (u0:(List (Int × Int))) (p2:(List aM)) (x1:(List Int)) (u1:(List (Int × Int))) (p3:(List aK)) (u2:Int) (x2:(List ah)) (u3:(List aK)) (u4:Int) (u5:Int):(bn ((List cO) × (List (List Int)) × (List (ah × Int)) × Int) (Ex ((List cO) × (List (List Int)) × (List (ah × Int))) (bn ((List aK) × Int × (List cO) × (List (List Int)) × (List ah) × (List (ah × Int)) × (List aK) × Int × Int) (Ex ((List aK) × Int × (List cO) × (List (List Int)) × (List ah) × (List (ah × Int))) (aS × (List Bool) × Int)))))→Exit→St→Prop:=
  LQ 6 [5] (Bj p s_ p1 x0 u0 p2 x1 u1 p3 u2 x2 u3 u4 u5) (Bn p s_ p1 x0 u0 p2 x1 u1 p3 u2 x2 u3 u4 u5) (sM p s_ p1 x0 u0 p2 x1 u1)
section
variable (u0:aH) (p:au) (p1:(List aj)) (p2:(List aM)) (u4:(List aK)) (u2:(List Int)) (x1:(List Int)) (u1:(List ah)) (u3:(List (Int × Int))) (u5:(List (ah × Int)))
abbrev abZ:List (Nat × TV):=[(2,(vP 63 0)),(4,(vP 65 0)),(9,(vP 67 0)),(10,(vP 72 0)),qz,oK,(162,(vP 116 0))]
abbrev zZ:Nat × Option Ob:=(67,some (.cells 161 [(.own 68 false u0.bO.length),(.d (Kc u0))]))
abbrev zK:Nat × Option Ob:=(68,some (dK 170 2 cO.cell u0.bO))
abbrev aee:List (Nat × Option Ob):=[(fA p p1 p2 u4),dz,(zZ u0),(zK u0),(nG u2),(pJ x1),(ru u1),(rf u1 u2 x1),(Fe u3),(GN u5),(116,none)]
abbrev af4:St:=⟨abZ,(aee u0 p p1 p2 u4 u2 x1 u1 u3 u5)⟩
end
def Jb (p:au) (p1:(List aj)) (p2:(List aM)) (x1:(List Int)) (u3:(List (Int × Int))) (u4:(List aK)) (u1:(List ah)) (u5:(List (ah × Int))) (u0:aH):(List Int)→St:=
  fun u2=>(af4 u0 p p1 p2 u4 u2 x1 u1 u3 u5)
section
variable (p:au) (p1:(List aj)) (p2:(List aM)) (u4:(List aK)) (u0:aH) (u2:(List Int)) (u3:(List Int)) (u1:(List ah)) (u5:(List (ah × Int)))
abbrev ac5:List (Nat × TV):=[(2,(vP 63 0)),(4,(vP 65 0)),(9,(vP 67 0)),(10,(vP 72 0)),oK,(182,(vP 117 0))]
abbrev ag9:List (Nat × Option Ob):=[(fA p p1 p2 u4),dz,(zZ u0),(zK u0),(nG u2),(pJ u3),(ru u1),(rf u1 u2 u3),(GN u5),(117,none)]
abbrev agd:St:=⟨ac5,(ag9 p p1 p2 u4 u0 u2 u3 u1 u5)⟩
end
def Js (p:au) (p1:(List aj)) (p2:(List aM)) (u4:(List aK)) (u1:(List ah)) (u5:(List (ah × Int))) (u0:aH) (u2:(List Int)):(List Int)→St:=
  fun u3=>(agd p p1 p2 u4 u0 u2 u3 u1 u5)
section
variable (p:au) (p1:(List aj)) (p2:(List aM)) (u4:(List aK)) (u0:aH) (u1:(List Int)) (u2:(List Int)) (u3:(List ah))
abbrev WA:List (Nat × TV):=[(2,(vP 63 0)),(4,(vP 65 0)),(9,(vP 67 0)),(10,(vP 72 0)),(208,(vP 118 0))]
abbrev ad7:St:=⟨WA,[(fA p p1 p2 u4),dz,(zZ u0),(zK u0),(nG u1),(pJ u2),(ru u3),(rf u3 u1 u2),(118,none)]⟩
end
def JA (p:au) (p1:(List aj)) (p2:(List aM)) (u4:(List aK)) (u0:aH) (u1:(List Int)) (u2:(List Int)):(List ah)→St:=
  fun u3=>(ad7 p p1 p2 u4 u0 u1 u2 u3)
end
end Sg
