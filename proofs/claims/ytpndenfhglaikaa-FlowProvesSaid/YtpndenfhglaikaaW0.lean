import Derived.Test.YtpndenfhglaikaaGm
import Derived.Test.YtpndenfhglaikaaProg
set_option linter.all false
namespace Sg
open Go Go.Proofs
set_option maxRecDepth 20000
noncomputable section
noncomputable def TT:List (Nat × TI):=[(3,⟨Try.t3.desc,Try.t3.size,Try.t3.bytes,zl Try.t3,false⟩),
  (4,⟨Try.t4.desc,Try.t4.size,Try.t4.bytes,zl Try.t4,false⟩),
  (22,⟨Try.t22.desc,Try.t22.size,Try.t22.bytes,zl Try.t22,false⟩),
  (23,⟨Try.t23.desc,Try.t23.size,Try.t23.bytes,zl Try.t23,false⟩),
  (24,⟨Try.t24.desc,Try.t24.size,Try.t24.bytes,zl Try.t24,false⟩),
  (26,⟨Try.t25.desc,Try.t26.size,Try.t26.bytes,zl Try.t26,false⟩),
  (27,⟨Try.t27.desc,Try.t27.size,Try.t27.bytes,zl Try.t27,false⟩),
  (29,⟨Try.t28.desc,Try.t29.size,Try.t29.bytes,zl Try.t29,false⟩),
  (40,⟨Try.t40.desc,Try.t40.size,Try.t40.bytes,zl Try.t40,false⟩),
  (41,⟨Try.t41.desc,Try.t41.size,Try.t41.bytes,zl Try.t41,false⟩),
  (47,⟨Try.t46.desc,Try.t47.size,Try.t47.bytes,zl Try.t47,false⟩),
  (50,⟨Try.t3.desc,Try.t50.size,Try.t50.bytes,zl Try.t50,false⟩),
  (51,⟨Try.t51.desc,Try.t51.size,Try.t51.bytes,zl Try.t51,false⟩),
  (53,⟨Try.t52.desc,Try.t53.size,Try.t53.bytes,zl Try.t53,false⟩),
  (75,⟨Try.t75.desc,Try.t75.size,Try.t75.bytes,zl Try.t75,false⟩),
  (77,⟨Try.t76.desc,Try.t77.size,Try.t77.bytes,zl Try.t77,false⟩),
  (80,⟨Try.t80.desc,Try.t80.size,Try.t80.bytes,zl Try.t80,false⟩),
  (92,⟨Try.t76.desc,Try.t92.size,Try.t92.bytes,zl Try.t92,false⟩),
  (102,⟨Try.t102.desc,Try.t102.size,Try.t102.bytes,zl Try.t102,false⟩),
  (103,⟨Try.t46.desc,Try.t103.size,Try.t103.bytes,zl Try.t103,false⟩),
  (110,⟨Try.t110.desc,Try.t110.size,Try.t110.bytes,zl Try.t110,false⟩),
  (115,⟨Try.t3.desc,Try.t115.size,Try.t115.bytes,zl Try.t115,false⟩),
  (117,⟨Try.t116.desc,Try.t117.size,Try.t117.bytes,zl Try.t117,true⟩),
  (119,⟨Try.t119.desc,Try.t119.size,Try.t119.bytes,zl Try.t119,false⟩),
  (123,⟨Try.t122.desc,Try.t123.size,Try.t123.bytes,zl Try.t123,false⟩),
  (124,⟨Try.t3.desc,Try.t124.size,Try.t124.bytes,zl Try.t124,false⟩),
  (126,⟨Try.t125.desc,Try.t126.size,Try.t126.bytes,zl Try.t126,true⟩),
  (128,⟨Try.t128.desc,Try.t128.size,Try.t128.bytes,zl Try.t128,false⟩),
  (129,⟨Try.t129.desc,Try.t129.size,Try.t129.bytes,zl Try.t129,false⟩),
  (135,⟨Try.t135.desc,Try.t135.size,Try.t135.bytes,zl Try.t135,false⟩),
  (141,⟨Try.t140.desc,Try.t141.size,Try.t141.bytes,zl Try.t141,false⟩),
  (142,⟨Try.t142.desc,Try.t142.size,Try.t142.bytes,zl Try.t142,false⟩),
  (148,⟨Try.t147.desc,Try.t148.size,Try.t148.bytes,zl Try.t148,true⟩),
  (157,⟨Try.t157.desc,Try.t157.size,Try.t157.bytes,zl Try.t157,false⟩),
  (158,⟨Try.t158.desc,Try.t158.size,Try.t158.bytes,zl Try.t158,false⟩),
  (159,⟨Try.t159.desc,Try.t159.size,Try.t159.bytes,zl Try.t159,false⟩),
  (161,⟨Try.t160.desc,Try.t161.size,Try.t161.bytes,zl Try.t161,false⟩),
  (162,⟨Try.t162.desc,Try.t162.size,Try.t162.bytes,zl Try.t162,false⟩),
  (164,⟨Try.t164.desc,Try.t164.size,Try.t164.bytes,zl Try.t164,true⟩),
  (166,⟨Try.t165.desc,Try.t166.size,Try.t166.bytes,zl Try.t166,true⟩),
  (170,⟨Try.t169.desc,Try.t170.size,Try.t170.bytes,zl Try.t170,true⟩),
  (182,⟨Try.t182.desc,Try.t182.size,Try.t182.bytes,zl Try.t182,false⟩),
  (184,⟨Try.t184.desc,Try.t184.size,Try.t184.bytes,zl Try.t184,false⟩),
  (186,⟨Try.t185.desc,Try.t186.size,Try.t186.bytes,zl Try.t186,false⟩),
  (192,⟨Try.t192.desc,Try.t192.size,Try.t192.bytes,zl Try.t192,false⟩),
  (195,⟨Try.t195.desc,Try.t195.size,Try.t195.bytes,zl Try.t195,false⟩),
  (198,⟨Try.t198.desc,Try.t198.size,Try.t198.bytes,zl Try.t198,false⟩),
  (211,⟨Try.t211.desc,Try.t211.size,Try.t211.bytes,zl Try.t211,true⟩),
  (215,⟨Try.t214.desc,Try.t215.size,Try.t215.bytes,zl Try.t215,false⟩),
  (226,⟨Try.t225.desc,Try.t226.size,Try.t226.bytes,zl Try.t226,false⟩),
  (234,⟨Try.t234.desc,Try.t234.size,Try.t234.bytes,zl Try.t234,false⟩),
  (243,⟨Try.t243.desc,Try.t243.size,Try.t243.bytes,zl Try.t243,false⟩),
  (244,⟨Try.t244.desc,Try.t244.size,Try.t244.bytes,zl Try.t244,false⟩)]
theorem tT:qQ Try.prog TT:=⟨ic (by kernel_rfl) (by kernel_rfl) (by kernel_rfl),⟨jh,cO (by kernel_rfl)⟩,ic (by kernel_rfl) (by kernel_rfl) (by kernel_rfl),⟨jh,cO (by kernel_rfl)⟩,ic (by kernel_rfl) (by kernel_rfl) (by kernel_rfl),⟨jh,cO (by kernel_rfl)⟩,ic (by kernel_rfl) (by kernel_rfl) (by kernel_rfl),⟨jh,cO (by kernel_rfl)⟩,ic (by kernel_rfl) (by kernel_rfl) (by kernel_rfl),⟨jh,cO (by kernel_rfl)⟩,ic (by kernel_rfl) (by kernel_rfl) (by kernel_rfl),⟨jh,cO (by kernel_rfl)⟩,ic (by kernel_rfl) (by kernel_rfl) (by kernel_rfl),⟨jh,cO (by kernel_rfl)⟩,ic (by kernel_rfl) (by kernel_rfl) (by kernel_rfl),⟨jh,cO (by kernel_rfl)⟩,ic (by kernel_rfl) (by kernel_rfl) (by kernel_rfl),⟨jh,cO (by kernel_rfl)⟩,ic (by kernel_rfl) (by kernel_rfl) (by kernel_rfl),⟨jh,cO (by kernel_rfl)⟩,ic (by kernel_rfl) (by kernel_rfl) (by kernel_rfl),⟨jh,cO (by kernel_rfl)⟩,ic (by kernel_rfl) (by kernel_rfl) (by kernel_rfl),⟨jh,cO (by kernel_rfl)⟩,ic (by kernel_rfl) (by kernel_rfl) (by kernel_rfl),⟨jh,cO (by kernel_rfl)⟩,ic (by kernel_rfl) (by kernel_rfl) (by kernel_rfl),⟨jh,cO (by kernel_rfl)⟩,ic (by kernel_rfl) (by kernel_rfl) (by kernel_rfl),⟨jh,cO (by kernel_rfl)⟩,ic (by kernel_rfl) (by kernel_rfl) (by kernel_rfl),⟨jh,cO (by kernel_rfl)⟩,ic (by kernel_rfl) (by kernel_rfl) (by kernel_rfl),⟨jh,cO (by kernel_rfl)⟩,ic (by kernel_rfl) (by kernel_rfl) (by kernel_rfl),⟨jh,cO (by kernel_rfl)⟩,ic (by kernel_rfl) (by kernel_rfl) (by kernel_rfl),⟨jh,cO (by kernel_rfl)⟩,ic (by kernel_rfl) (by kernel_rfl) (by kernel_rfl),⟨jh,cO (by kernel_rfl)⟩,ic (by kernel_rfl) (by kernel_rfl) (by kernel_rfl),⟨jh,cO (by kernel_rfl)⟩,ic (by kernel_rfl) (by kernel_rfl) (by kernel_rfl),⟨jh,cO (by kernel_rfl)⟩,ic (by kernel_rfl) (by kernel_rfl) (by kernel_rfl),⟨fun _=> ⟨by kernel_rfl,by kernel_rfl⟩,cO (by kernel_rfl)⟩,ic (by kernel_rfl) (by kernel_rfl) (by kernel_rfl),⟨jh,cO (by kernel_rfl)⟩,ic (by kernel_rfl) (by kernel_rfl) (by kernel_rfl),⟨jh,cO (by kernel_rfl)⟩,ic (by kernel_rfl) (by kernel_rfl) (by kernel_rfl),⟨jh,cO (by kernel_rfl)⟩,ic (by kernel_rfl) (by kernel_rfl) (by kernel_rfl),⟨fun _=> ⟨by kernel_rfl,by kernel_rfl⟩,cO (by kernel_rfl)⟩,ic (by kernel_rfl) (by kernel_rfl) (by kernel_rfl),⟨jh,cO (by kernel_rfl)⟩,ic (by kernel_rfl) (by kernel_rfl) (by kernel_rfl),⟨jh,cO (by kernel_rfl)⟩,ic (by kernel_rfl) (by kernel_rfl) (by kernel_rfl),⟨jh,cO (by kernel_rfl)⟩,ic (by kernel_rfl) (by kernel_rfl) (by kernel_rfl),⟨jh,cO (by kernel_rfl)⟩,ic (by kernel_rfl) (by kernel_rfl) (by kernel_rfl),⟨jh,cO (by kernel_rfl)⟩,ic (by kernel_rfl) (by kernel_rfl) (by kernel_rfl),⟨fun _=> ⟨by kernel_rfl,by kernel_rfl⟩,cO (by kernel_rfl)⟩,ic (by kernel_rfl) (by kernel_rfl) (by kernel_rfl),⟨jh,cO (by kernel_rfl)⟩,ic (by kernel_rfl) (by kernel_rfl) (by kernel_rfl),⟨jh,cO (by kernel_rfl)⟩,ic (by kernel_rfl) (by kernel_rfl) (by kernel_rfl),⟨jh,cO (by kernel_rfl)⟩,ic (by kernel_rfl) (by kernel_rfl) (by kernel_rfl),⟨jh,cO (by kernel_rfl)⟩,ic (by kernel_rfl) (by kernel_rfl) (by kernel_rfl),⟨jh,cO (by kernel_rfl)⟩,ic (by kernel_rfl) (by kernel_rfl) (by kernel_rfl),⟨fun _=> ⟨by kernel_rfl,by kernel_rfl⟩,cO (by kernel_rfl)⟩,ic (by kernel_rfl) (by kernel_rfl) (by kernel_rfl),⟨fun _=> ⟨by kernel_rfl,by kernel_rfl⟩,cO (by kernel_rfl)⟩,ic (by kernel_rfl) (by kernel_rfl) (by kernel_rfl),⟨fun _=> ⟨by kernel_rfl,by kernel_rfl⟩,cO (by kernel_rfl)⟩,ic (by kernel_rfl) (by kernel_rfl) (by kernel_rfl),⟨jh,cO (by kernel_rfl)⟩,ic (by kernel_rfl) (by kernel_rfl) (by kernel_rfl),⟨jh,cO (by kernel_rfl)⟩,ic (by kernel_rfl) (by kernel_rfl) (by kernel_rfl),⟨jh,cO (by kernel_rfl)⟩,ic (by kernel_rfl) (by kernel_rfl) (by kernel_rfl),⟨jh,cO (by kernel_rfl)⟩,ic (by kernel_rfl) (by kernel_rfl) (by kernel_rfl),⟨jh,cO (by kernel_rfl)⟩,ic (by kernel_rfl) (by kernel_rfl) (by kernel_rfl),⟨jh,cO (by kernel_rfl)⟩,ic (by kernel_rfl) (by kernel_rfl) (by kernel_rfl),⟨fun _=> ⟨by kernel_rfl,by kernel_rfl⟩,cO (by kernel_rfl)⟩,ic (by kernel_rfl) (by kernel_rfl) (by kernel_rfl),⟨jh,cO (by kernel_rfl)⟩,ic (by kernel_rfl) (by kernel_rfl) (by kernel_rfl),⟨jh,cO (by kernel_rfl)⟩,ic (by kernel_rfl) (by kernel_rfl) (by kernel_rfl),⟨jh,cO (by kernel_rfl)⟩,ic (by kernel_rfl) (by kernel_rfl) (by kernel_rfl),⟨jh,cO (by kernel_rfl)⟩,ic (by kernel_rfl) (by kernel_rfl) (by kernel_rfl),⟨jh,cO (by kernel_rfl)⟩,trivial⟩
theorem mX:Try.prog.follows .mixedOrders=true:=by kernel_rfl
def nZ  :Bool→Exit→St→Prop:=
  fun r=>bB TT [.tmp 4] (vB r) []
section
variable (a:(List Bool)) (b:(List Bool))
abbrev k0:Nat × TV:=(0,(vD (aK none 1 aj a)))
abbrev k1:Nat × TV:=(1,(vD (aK none 1 aj b)))
end
def r9 (a:(List Bool)) (b:(List Bool)):Int→St:=
  fun i=> ⟨[(k0 a),(k1 b),(5,(vI i))],[]⟩
def rV  :Unit→St:=
  fun _=> ⟨[],[]⟩
def BG (a:(List Bool)) (b:(List Bool)):(aM Int (Ex Unit Bool))→Exit→St→Prop:=
  LQ 0 [] (r9 a b) rV nZ
section
variable (i:Int)
abbrev k3:TV:=(vI (IntKind.wrap .i64 (i+1)))
abbrev k2:Nat × TV:=(5,(k3 i))
end
theorem nk (a:(List Bool)) (b:(List Bool)) {r:Bool} (h:mM a b=some r):Fn Try.prog 42 [(sD (aK none 1 aj a)),(sD (aK none 1 aj b))] [] (vB r) []:=by
 refine fN tT Try.func42 rfl rfl fun B=> ?_
 show bJ _ _ _ _ _ _ (nZ r) _
 unfold mM at h
 refine sz tT ⟨[(k0 a),(k1 b)],[]⟩ {} [] ?_
 refine aQ (sz tT ⟨[(k0 a),(k1 b),(10,(vB (!decide ((a.length:Int)=(b.length:Int)))))],[]⟩ {} [] ?_)
 refine bI h (fun hb2 h=> ?_) (fun hb2 h=> ?_)
 ·refine ct hb2 ?_
  refine sz tT ⟨[(4,(vB false))],[]⟩ {} [] ?_
  refine aR ?_
  obtain rfl:=oi h
  exact rl [(sB false)]
 ·refine cf hb2 ?_
  refine aP (aQ (sz tT ⟨[(k0 a),(k1 b),(5,(vI 0))],[]⟩ {} [] ?_))
  refine bE h fun y hy h=> ?_
  refine aL [] (r9 a b) rV nZ hy (fun s f h=> ?_) ?_
  ·clear hy
   show bJ _ _ _ _ _ _ ((BG a b) f) _
   unfold rY at h
   obtain⟨i,rfl⟩: ∃q,q=s:=⟨_,rfl⟩
   refine aQ (sz tT ⟨[(k0 a),(k1 b),(5,(vI i)),(14,(vB (decide (i<(a.length:Int)))))],[]⟩ {} [] ?_)
   refine bI h (fun hb1 h=> ?_) (fun hb1 h=> ?_)
   ·refine ct hb1 ?_
    refine aP (aQ (aB (aQ (aO h fun⟨a1,a2⟩ h=> ?_))))
    refine dg tT mX ⟨[(k0 a),(k1 b),(5,(vI i)),(25,(vB (!((at' a i.toNat)==(at' b i.toNat)))))],[]⟩ [_,_] {} [] ⟨a1,a2,trivial⟩ ?_
    refine bI h (fun hb h=> ?_) (fun hb h=> ?_)
    ·refine ct hb ?_
     refine sz tT ⟨[(4,(vB false))],[]⟩ {} [] ?_
     refine aR ?_
     obtain rfl:=oi h
     exact lR dY (dX 0) dW (bB.mk (.inr rfl) (p:=[]) (l:=[(sB false)]) (by kernel_rfl) trivial (eO.refl _) trivial)
    ·refine cf hb ?_
     refine aP (rz tT ⟨[(k0 a),(k1 b),(k2 i)],[]⟩ {} [] ?_)
     obtain rfl:=oi h
     exact lN
   ·refine cf hb1 ?_
    refine aI (fz ⟨[],[]⟩ []) ?_
    refine aX ?_
    obtain rfl:=oi h
    exact lB
  ·clear hy
   cases y with
   |brk z=>
    unfold gm
    refine⟨_, .refl, ?_⟩
    refine sz tT ⟨[(4,(vB true))],[]⟩ {} [] ?_
    refine aR ?_
    obtain rfl:=oi h
    exact rl [(sB true)]
   |ret v=>
    obtain rfl:=oi h
    unfold gm
    intro e st hn ha hR
    cases e with
    |normal=>exact absurd rfl hn
    |exit id=>exact hR
    |goto l=>exact hR
    |ret=>exact hR
    |panic c=>exact hR
    |outgrown=>exact hR
def Fx  :Bool→Exit→St→Prop:=
  fun r=>bB TT [.tmp 6] (vB r) []
theorem aU (n:Int) (u0:Int) (u1:Int) {r:Bool} (h:aW n u0 u1=some r):Fn Try.prog 94 [(sI n),(sI u0),(sI u1)] [] (vB r) []:=by
 refine fN tT Try.func94 rfl rfl fun B=> ?_
 show bJ _ _ _ _ _ _ (Fx r) _
 unfold aW at h
 refine sz tT ⟨[(0,(vI n)),(1,(vI u0)),(2,(vI u1))],[]⟩ {} [] ?_
 refine sg tT ⟨[(6,(vB (bif (decide (u0≤n))then(decide (n≤u1))else false)))],[]⟩ (eqs (decide (u0≤n)) 4 []) {yb:=[(3,(decide (u0≤n)))] } [] (ae trivial) ?_
 refine aR ?_
 obtain rfl:=oi h
 exact rl [(sB (bif (decide (u0≤n))then(decide (n≤u1))else false))]
def E8  :(Int × (List Source) × (List Link) × (List ay))→Exit→St→Prop:=
  fun r=>bB TT [.tmp 2] (vD (.fn 135 1 (nN [(lV [(.int .i64 r.1),(aK none 5 Source.cell r.2.1),(aK none 6 Link.cell r.2.2.1),(aK none 4 ay.cell r.2.2.2)] 0)]))) []
section
variable (p:ah)
abbrev k6:DV:=(aK none 4 ay.cell p.racks)
abbrev k5:List CV:=[(cI p.buses),(.d (aK none 5 Source.cell p.sources)),(.d (aK none 6 Link.cell p.links)),(.d (k6 p))]
abbrev k4:List SV:=[(.agg (k5 p))]
abbrev k10:DV:=(lV [(.int .i64 p.buses),(aK none 5 Source.cell p.sources),(aK none 6 Link.cell p.links),(k6 p)] 0)
abbrev k9:TV:=(vD (k10 p))
abbrev k8:Nat × TV:=(1,(k9 p))
abbrev k7:St:=⟨[(k8 p)],[]⟩
abbrev k11:=(nN [(k10 p)])
end
theorem En (p:ah) {r:(Int × (List Source) × (List Link) × (List ay))} (h:oG p=some r):Fn Try.prog 96 (k4 p) [] (vD (.fn 135 1 (nN [(lV [(.int .i64 r.1),(aK none 5 Source.cell r.2.1),(aK none 6 Link.cell r.2.2.1),(aK none 4 ay.cell r.2.2.2)] 0)]))) []:=by
 refine fN tT Try.func96 rfl rfl fun B=> ?_
 show bJ _ _ _ _ _ _ (E8 r) _
 unfold oG at h
 refine sz tT (k7 p) {fr:=[(0,1)] } [1] ?_
 refine sz tT ⟨[(2,(vD (.fn 135 1 (k11 p))))],[]⟩ {} [] ?_
 refine aR ?_
 obtain rfl:=oi h
 exact rl [(sD (.fn 135 1 (k11 p)))]
def IL  :(Int × (List Source) × (List Link) × (List ay))→Exit→St→Prop:=
  fun r=>bB TT [.tmp 2] (vD (.fn 138 1 (nN [(lV [(.int .i64 r.1),(aK none 5 Source.cell r.2.1),(aK none 6 Link.cell r.2.2.1),(aK none 4 ay.cell r.2.2.2)] 0)]))) []
theorem Gx (p:ah) {r:(Int × (List Source) × (List Link) × (List ay))} (h:tH p=some r):Fn Try.prog 98 (k4 p) [] (vD (.fn 138 1 (nN [(lV [(.int .i64 r.1),(aK none 5 Source.cell r.2.1),(aK none 6 Link.cell r.2.2.1),(aK none 4 ay.cell r.2.2.2)] 0)]))) []:=by
 refine fN tT Try.func98 rfl rfl fun B=> ?_
 show bJ _ _ _ _ _ _ (IL r) _
 unfold tH at h
 refine sz tT (k7 p) {fr:=[(0,1)] } [1] ?_
 refine sz tT ⟨[(2,(vD (.fn 138 1 (k11 p))))],[]⟩ {} [] ?_
 refine aR ?_
 obtain rfl:=oi h
 exact rl [(sD (.fn 138 1 (k11 p)))]
def IC  :(Int × (List Source) × (List Link) × (List ay))→Exit→St→Prop:=
  fun r=>bB TT [.tmp 2] (vD (.fn 141 1 (nN [(lV [(.int .i64 r.1),(aK none 5 Source.cell r.2.1),(aK none 6 Link.cell r.2.2.1),(aK none 4 ay.cell r.2.2.2)] 0)]))) []
theorem GK (p:ah) {r:(Int × (List Source) × (List Link) × (List ay))} (h:sO p=some r):Fn Try.prog 100 (k4 p) [] (vD (.fn 141 1 (nN [(lV [(.int .i64 r.1),(aK none 5 Source.cell r.2.1),(aK none 6 Link.cell r.2.2.1),(aK none 4 ay.cell r.2.2.2)] 0)]))) []:=by
 refine fN tT Try.func100 rfl rfl fun B=> ?_
 show bJ _ _ _ _ _ _ (IC r) _
 unfold sO at h
 refine sz tT (k7 p) {fr:=[(0,1)] } [1] ?_
 refine sz tT ⟨[(2,(vD (.fn 141 1 (k11 p))))],[]⟩ {} [] ?_
 refine aR ?_
 obtain rfl:=oi h
 exact rl [(sD (.fn 141 1 (k11 p)))]
def Dg  :Bool→Exit→St→Prop:=
  fun r=>bB TT [.tmp 3] (vB r) []
section
variable (u4:(List Source)) (u6:(List ay)) (x1:Int) (u5:(List Link)) (x:Source) (r_:Bool) (u0:Bool) (u1:Bool) (u2:Bool)
abbrev k13:DV:=(aK none 5 Source.cell u4)
abbrev k14:DV:=(aK none 4 ay.cell u6)
abbrev k12:DV:=(lV [(.int .i64 x1),(k13 u4),(aK none 6 Link.cell u5),(k14 u6)] 0)
abbrev k15:Nat × TV:=(1,(vD (k12 u4 u6 x1 u5)))
abbrev k16:Nat × TV:=(2,(vD (lV [(.int .i64 x.bus),(.int .i64 x.kind),(.int .i64 x.power),(.int .i64 x.sync),(.int .i64 x.iH)] 0)))
abbrev k17:=(IntKind.wrap .i64 (x1 - 1))
abbrev k20:=(bif r_ then u0 else false)
abbrev k19:=(bif (k20 r_ u0)then u1 else false)
abbrev k18:=(bif (k19 r_ u0 u1)then u2 else false)
abbrev k21:=(jl [(6,r_),(11,(k20 r_ u0)),(16,(k19 r_ u0 u1)),(21,(k18 r_ u0 u1 u2))])
end
theorem Bu (x:Source) (x1:Int) (u4:(List Source)) (u5:(List Link)) (u6:(List ay)) {r:Bool} (h:jO x x1 u4 u5 u6=some r):Fn Try.prog 135 [(.agg [(cI x.bus),(cI x.kind),(cI x.power),(cI x.sync),(cI x.iH)]),(sD (k12 u4 u6 x1 u5))] [] (vB r) []:=by
 refine fN tT Try.func135 rfl rfl fun B=> ?_
 show bJ _ _ _ _ _ _ (Dg r) _
 unfold jO at h
 refine sz tT ⟨[(k15 u4 u6 x1 u5),(k16 x)],[]⟩ {fr:=[(0,1)] } [1] ?_
 refine aQ (bE h fun r_ hr_ h=> ?_)
 refine bE h fun u0 hr_1 h=> ?_
 refine bE h fun u1 hr_2 h=> ?_
 refine bE h fun u2 hr_3 h=> ?_
 refine bE h fun u3 hr_4 h=> ?_
 have q0:=aU x.bus 0 (k17 x1) hr_
 refine rg tT ⟨[(3,(vB (bif (k18 r_ u0 u1 u2)then u3 else false)))],[]⟩ (_::(eqs r_ 3 ((gP (k21 r_ u0 u1 u2) [(6,true)]→All [Fn Try.prog 94 [(sI x.kind),(sI 1),(sI 3)] [] (vB u0) []])::(r_=r_)::(eqs (k20 r_ u0) 3 ((gP (k21 r_ u0 u1 u2) [(11,true)]→All [Fn Try.prog 94 [(sI x.power),(sI 1),(sI 100000)] [] (vB u1) []])::((k20 r_ u0)=(k20 r_ u0))::(eqs (k19 r_ u0 u1) 3 ((gP (k21 r_ u0 u1 u2) [(16,true)]→All [Fn Try.prog 94 [(sI x.sync),(sI 0),(sI 8)] [] (vB u2) []])::((k19 r_ u0 u1)=(k19 r_ u0 u1))::(eqs (k18 r_ u0 u1 u2) 3 [gP (k21 r_ u0 u1 u2) [(21,true)]→All [Fn Try.prog 94 [(sI x.iH),(sI 10),(sI 100000)] [] (vB u3) []],(k18 r_ u0 u1 u2)=(k18 r_ u0 u1 u2)])))))))) {yb:=[(6,r_),(11,(k20 r_ u0)),(16,(k19 r_ u0 u1)),(21,(k18 r_ u0 u1 u2))],an:=[(5,cA q0 []),(9, .call [] (vB u0) []),(14, .call [] (vB u1) []),(19, .call [] (vB u2) []),(24, .call [] (vB u3) [])] } [] ⟨q0,(ae ⟨(fun hg=> ⟨(aU x.kind 1 3 (gI hr_1 (aZ hg))),trivial⟩),rfl,(ae ⟨(fun hg=> ⟨(aU x.power 1 100000 (gI hr_2 (aZ hg))),trivial⟩),rfl,(ae ⟨(fun hg=> ⟨(aU x.sync 0 8 (gI hr_3 (aZ hg))),trivial⟩),rfl,(ae ⟨(fun hg=> ⟨(aU x.iH 10 100000 (gI hr_4 (aZ hg))),trivial⟩),rfl,trivial⟩)⟩)⟩)⟩)⟩ ?_
 refine aR ?_
 obtain rfl:=oi h
 exact rl [(sB (bif (k18 r_ u0 u1 u2)then u3 else false))]
def FL  :Bool→Exit→St→Prop:=
  fun r=>bB TT [.tmp 3] (vB r) []
section
variable (x1:Int) (u0:(List Source)) (u1:(List Link)) (u2:(List ay))
abbrev k23:=(nN [(k12 u0 u2 x1 u1)])
abbrev k22:DV:=(lV [(.fn 135 1 (k23 x1 u0 u1 u2))] 0)
abbrev k24:TV:=(vD (k22 x1 u0 u1 u2))
end
theorem Ev (x:Source) (x1:Int) (u0:(List Source)) (u1:(List Link)) (u2:(List ay)) {r:Bool} (h:oP x x1 u0 u1 u2=some r):Fn Try.prog 134 [(.agg [(cI x.bus),(cI x.kind),(cI x.power),(cI x.sync),(cI x.iH)]),(sD (k22 x1 u0 u1 u2))] [] (vB r) []:=by
 refine fN tT Try.func134 rfl rfl fun B=> ?_
 show bJ _ _ _ _ _ _ (FL r) _
 unfold oP at h
 refine sz tT ⟨[(1,(k24 x1 u0 u1 u2)),(k16 x)],[]⟩ {fr:=[(0,1)] } [1] ?_
 refine aQ (bE h fun r_ hr_ h=> ?_)
 have q0:=Bu x x1 u0 u1 u2 hr_
 refine rg tT ⟨[(3,(vB (!r_)))],[]⟩ [_] {an:=[(2,cA q0 [])] } [] ⟨q0,trivial⟩ ?_
 refine aR ?_
 obtain rfl:=oi h
 exact rl [(sB (!r_))]
def mq  :Int→Exit→St→Prop:=
  fun r=>bB TT [.tmp 4] (vI r) []
section
variable (s_:(List Source)) (f_:Int) (u0:(List Source)) (u1:(List Link)) (u2:(List ay))
abbrev k25:Nat × TV:=(0,(vD (k13 s_)))
abbrev k27:=(nN [(k22 f_ u0 u1 u2)])
abbrev k26:Nat × TV:=(1,(vD (.fn 134 1 (k27 f_ u0 u1 u2))))
abbrev k28:Nat × TV:=(7,(vI (s_.length:Int)))
end
def qh (s_:(List Source)) (f_:Int) (u0:(List Source)) (u1:(List Link)) (u2:(List ay)):Int→St:=
  fun t8=> ⟨[(k25 s_),(k26 f_ u0 u1 u2),(k28 s_),(8,(vI t8))],[]⟩
def p8  :Unit→St:=
  fun _=> ⟨[],[]⟩
def Ab (s_:(List Source)) (f_:Int) (u0:(List Source)) (u1:(List Link)) (u2:(List ay)):(aM Int (Ex Unit Int))→Exit→St→Prop:=
  LQ 0 [] (qh s_ f_ u0 u1 u2) p8 mq
section
variable (s_:(List Source)) (f_:Int) (u0:(List Source)) (u1:(List Link)) (u2:(List ay)) (t8:Int)
abbrev k29:List SV:=[(sD (k13 s_)),(sD (.fn 134 1 (k27 f_ u0 u1 u2)))]
abbrev k30:St:=⟨[(k25 s_),(k26 f_ u0 u1 u2)],[]⟩
abbrev Yv:Nat × TV:=(8,(k3 t8))
end
theorem Aa (s_:(List Source)) (f_:Int) (u0:(List Source)) (u1:(List Link)) (u2:(List ay)) {r:Int} (h:kC s_ f_ u0 u1 u2=some r):Fn Try.prog 150 (k29 s_ f_ u0 u1 u2) [] (vI r) []:=by
 refine fN tT Try.func150 rfl rfl fun B=> ?_
 show bJ _ _ _ _ _ _ (mq r) _
 unfold kC at h
 refine sz tT (k30 s_ f_ u0 u1 u2) {} [] ?_
 refine aQ (sz tT ⟨[(k25 s_),(k26 f_ u0 u1 u2),(k28 s_),(8,(vI 0))],[]⟩ {} [] ?_)
 refine bE h fun y hy h=> ?_
 refine aL [] (qh s_ f_ u0 u1 u2) p8 mq hy (fun s f h=> ?_) ?_
 ·clear hy
  show bJ _ _ _ _ _ _ ((Ab s_ f_ u0 u1 u2) f) _
  unfold jg at h
  obtain⟨t8,rfl⟩: ∃q,q=s:=⟨_,rfl⟩
  refine sz tT ⟨[(k25 s_),(k26 f_ u0 u1 u2),(k28 s_),(8,(vI t8)),(9,(vB (decide (t8<(s_.length:Int)))))],[]⟩ {} [] ?_
  refine aQ ?_
  refine bI h (fun hb1 h=> ?_) (fun hb1 h=> ?_)
  ·refine ct hb1 ?_
   refine aP (aQ (aB (sz tT ⟨[(k25 s_),(k26 f_ u0 u1 u2),(5,(vI t8)),(k28 s_),(8,(vI t8))],[]⟩ {} [] ?_)))
   refine aQ (bE h fun r_ hr_ h=> ?_)
   refine aO h fun a1 h=> ?_
   have q1:=Ev (at' s_ t8.toNat) f_ u0 u1 u2 hr_
   refine rg tT ⟨[(k25 s_),(k26 f_ u0 u1 u2),(5,(vI t8)),(k28 s_),(8,(vI t8)),(16,(vB r_))],[]⟩ [_,_] {an:=[(5,cA q1 [])] } [] ⟨a1,q1,trivial⟩ ?_
   refine bI h (fun hb h=> ?_) (fun hb h=> ?_)
   ·refine ct hb ?_
    refine sz tT ⟨[(4,(vI t8))],[]⟩ {} [] ?_
    refine aR ?_
    obtain rfl:=oi h
    exact lR dY (dX 0) dW (bB.mk (.inr rfl) (p:=[]) (l:=[(sI t8)]) (by kernel_rfl) trivial (eO.refl _) trivial)
   ·refine cf hb ?_
    refine aP (rz tT ⟨[(k25 s_),(k26 f_ u0 u1 u2),(k28 s_),(Yv t8)],[]⟩ {} [] ?_)
    obtain rfl:=oi h
    exact lN
  ·refine cf hb1 ?_
   refine aI (fz ⟨[],[]⟩ []) ?_
   refine aX ?_
   obtain rfl:=oi h
   exact lB
 ·clear hy
  cases y with
  |brk z=>
   unfold gm
   refine⟨_, .refl, ?_⟩
   refine sz tT ⟨[(4,(vI (-1)))],[]⟩ {} [] ?_
   refine aR ?_
   obtain rfl:=oi h
   exact rl [(sI (-1))]
  |ret v=>
   obtain rfl:=oi h
   unfold gm
   intro e st hn ha hR
   cases e with
   |normal=>exact absurd rfl hn
   |exit id=>exact hR
   |goto l=>exact hR
   |ret=>exact hR
   |panic c=>exact hR
   |outgrown=>exact hR
def xX  :Bool→Exit→St→Prop:=
  fun r=>bB TT [.tmp 4] (vB r) []
section
variable (r_:Int)
abbrev k32:St:=⟨[(4,(vB (decide (0≤r_))))],[]⟩
end
theorem wZ (s_:(List Source)) (f_:Int) (u0:(List Source)) (u1:(List Link)) (u2:(List ay)) {r:Bool} (h:gq s_ f_ u0 u1 u2=some r):Fn Try.prog 133 (k29 s_ f_ u0 u1 u2) [] (vB r) []:=by
 refine fN tT Try.func133 rfl rfl fun B=> ?_
 show bJ _ _ _ _ _ _ (xX r) _
 unfold gq at h
 refine sz tT (k30 s_ f_ u0 u1 u2) {} [] ?_
 refine aQ (bE h fun r_ hr_ h=> ?_)
 have q0:=Aa s_ f_ u0 u1 u2 hr_
 refine rg tT (k32 r_) [_] {an:=[(2,cA q0 [])] } [] ⟨q0,trivial⟩ ?_
 refine aR ?_
 obtain rfl:=oi h
 exact rl [(sB (decide (0≤r_)))]
def Hu  :Bool→Exit→St→Prop:=
  fun r=>bB TT [.tmp 6] (vB r) []
theorem GD (l:(List Source)) (u0:Int) (u1:Int) (u2:(List Source)) (u3:(List Link)) (u4:(List ay)) {r:Bool} (h:oM l u0 u1 u2 u3 u4=some r):Fn Try.prog 95 [(sD (k13 l)),(sI u0),(sD (.fn 135 1 (k23 u1 u2 u3 u4)))] [] (vB r) []:=by
 refine fN tT Try.func95 rfl rfl fun B=> ?_
 show bJ _ _ _ _ _ _ (Hu r) _
 unfold oM at h
 refine sz tT ⟨[(k25 l),(1,(vI u0)),(5,(k24 u1 u2 u3 u4))],[]⟩ {fr:=[(0,1)] } [1] ?_
 refine aQ (bE h fun r_ hr_ h=> ?_)
 refine rg tT ⟨[(6,(vB (bif (decide ((l.length:Int)≤u0))then(!r_)else false)))],[]⟩ (eqs (decide ((l.length:Int)≤u0)) 3 ((gP (jl [(4,(decide ((l.length:Int)≤u0)))]) [(4,true)]→All [Fn Try.prog 133 (k29 l u1 u2 u3 u4) [] (vB r_) []])::(eqs (decide ((l.length:Int)≤u0)) 2 []))) {yb:=[(4,(decide ((l.length:Int)≤u0)))],an:=[(7, .call [] (vB r_) [])] } [] (ae ⟨(fun hg=> ⟨(wZ l u1 u2 u3 u4 (gI hr_ (aZ hg))),trivial⟩),(ae trivial)⟩) ?_
 refine aR ?_
 obtain rfl:=oi h
 exact rl [(sB (bif (decide ((l.length:Int)≤u0))then(!r_)else false))]
def qG  :Bool→Exit→St→Prop:=
  fun r=>bB TT [.tmp 3] (vB r) []
section
variable (x:Link)
abbrev Yt:Nat × TV:=(2,(vD (lV [(.int .i64 x.a),(.int .i64 x.b),(.int .i64 x.kind),(.int .i64 x.most),(.int .i64 x.iH),(aK none 2 iY.cell x.trip)] 0)))
abbrev k34:Nat × TV:=(48,(vD (aK none 2 iY.cell x.trip)))
abbrev k35:Nat × TV:=(49,(vI (x.trip.length:Int)))
end
def wE (x:Link):Int→St:=
  fun u0=> ⟨[(Yt x),(k34 x),(k35 x),(50,(vI u0))],[]⟩
section
variable (x:Link)
abbrev k36:St:=⟨[(Yt x)],[]⟩
end
def vY (x:Link):Unit→St:=
  fun _=>(k36 x)
def Ey (x:Link):(aM Int (Ex Unit Bool))→Exit→St→Prop:=
  LQ 0 [] (wE x) (vY x) qG
section
variable (x:Link) (r_:Bool) (u1:Bool) (u3:Bool) (u5:Bool) (u0:Int) (u2:Bool) (u4:Bool)
abbrev k37:List CV:=[(cI x.a),(cI x.b),(cI x.kind),(cI x.most),(cI x.iH),(.d (aK none 2 iY.cell x.trip))]
abbrev k38:List (Nat × Option Ob):=[(5,some (.cells 53 (k37 x)))]
abbrev Tc:=(bif (!r_)then true else(!u1))
abbrev k41:=(bif (Tc r_ u1)then true else(decide (x.a=x.b)))
abbrev k40:=(bif (k41 x r_ u1)then true else(!u3))
abbrev k39:=(bif (k40 x r_ u1 u3)then true else(!u5))
abbrev k43:=(jl [(7,(!r_)),(16,(Tc r_ u1)),(23,(k41 x r_ u1)),(29,(k40 x r_ u1 u3)),(35,(k39 x r_ u1 u3 u5))])
abbrev k44:=(decide (((at' x.trip u0.toNat).amps)≤((at' x.trip ((k17 u0).toNat)).amps)))
abbrev k45:=(jl [(4,(!u2)),(10,(Tc u2 u4)),(13,(decide (0<u0))),(24,(k44 x u0))])
abbrev Yu:=(decide ((x.trip.length:Int)≤6))
abbrev k48:=(decide ((x.trip.length:Int)=0))
abbrev k46:=(bif (Yu x)then(bif (k48 x)then true else(decide (x.kind=3)))else false)
end
theorem DJ (x:Link) (x1:Int) (u6:(List Source)) (u7:(List Link)) (u8:(List ay)) {r:Bool} (h:l8 x x1 u6 u7 u8=some r):Fn Try.prog 138 [(.agg (k37 x)),(sD (k12 u6 u8 x1 u7))] [] (vB r) []:=by
 refine fN tT Try.func138 rfl rfl fun B=> ?_
 show bJ _ _ _ _ _ _ (qG r) _
 unfold l8 at h
 refine sz tT ⟨[(k15 u6 u8 x1 u7),(2,(vP 5 0))],(k38 x)⟩ {fr:=[(0,5)] } [] ?_
 refine aQ (aQ (bE h fun r_ hr_ h=> ?_))
 refine bE h fun u1 hr_1 h=> ?_
 refine bE h fun u3 hr_2 h=> ?_
 refine bE h fun u5 hr_3 h=> ?_
 refine bE h fun u9 hr_4 h=> ?_
 have q0:=aU x.a 0 (k17 x1) hr_
 refine rg tT ⟨[(2,(vP 5 0)),(46,(vB (bif (k39 x r_ u1 u3 u5)then true else(!u9))))],(k38 x)⟩ (_::(eqs (!r_) 6 ((gP (k43 x r_ u1 u3 u5) [(7,false)]→All [Fn Try.prog 94 [(sI x.b),(sI 0),(sI (k17 x1))] [] (vB u1) []])::(eqs (!r_) 2 (eqs (Tc r_ u1) 6 (eqs (k41 x r_ u1) 3 ((gP (k43 x r_ u1 u3 u5) [(23,false)]→All [Fn Try.prog 94 [(sI x.kind),(sI 1),(sI 3)] [] (vB u3) []])::(eqs (k41 x r_ u1) 2 (eqs (k40 x r_ u1 u3) 3 ((gP (k43 x r_ u1 u3 u5) [(29,false)]→All [Fn Try.prog 94 [(sI x.most),(sI 1),(sI 100000)] [] (vB u5) []])::(eqs (k40 x r_ u1 u3) 2 (eqs (k39 x r_ u1 u3 u5) 3 ((gP (k43 x r_ u1 u3 u5) [(35,false)]→All [Fn Try.prog 94 [(sI x.iH),(sI 10),(sI 100000)] [] (vB u9) []])::(eqs (k39 x r_ u1 u3 u5) 2 [])))))))))))))) {yb:=[(7,(!r_)),(16,(Tc r_ u1)),(23,(k41 x r_ u1)),(29,(k40 x r_ u1 u3)),(35,(k39 x r_ u1 u3 u5))],an:=[(5,cA q0 []),(13, .call [] (vB u1) []),(26, .call [] (vB u3) []),(32, .call [] (vB u5) []),(38, .call [] (vB u9) [])] } [] ⟨q0,(ae ⟨(fun hg=> ⟨(aU x.b 0 (k17 x1) (gI hr_1 (aZ hg))),trivial⟩),(ae (ae (ae ⟨(fun hg=> ⟨(aU x.kind 1 3 (gI hr_2 (aZ hg))),trivial⟩),(ae (ae ⟨(fun hg=> ⟨(aU x.most 1 100000 (gI hr_3 (aZ hg))),trivial⟩),(ae (ae ⟨(fun hg=> ⟨(aU x.iH 10 100000 (gI hr_4 (aZ hg))),trivial⟩),(ae trivial)⟩))⟩))⟩)))⟩)⟩ ?_
 refine bI h (fun hb2 h=> ?_) (fun hb2 h=> ?_)
 ·refine ct hb2 ?_
  refine sz tT ⟨[(3,(vB false))],[]⟩ {} [] ?_
  refine aR ?_
  obtain rfl:=oi h
  exact rl [(sB false)]
 ·refine cf hb2 ?_
  refine aP (aQ (sz tT ⟨[(Yt x),(k34 x),(k35 x),(50,(vI 0))],[]⟩ {} [5] ?_))
  refine bE h fun y hy h=> ?_
  refine aL [] (wE x) (vY x) qG hy (fun s f h=> ?_) ?_
  ·clear hy
   show bJ _ _ _ _ _ _ ((Ey x) f) _
   unfold jB at h
   obtain⟨u0,rfl⟩: ∃q,q=s:=⟨_,rfl⟩
   refine sz tT ⟨[(Yt x),(k34 x),(k35 x),(50,(vI u0)),(51,(vB (decide (u0<(x.trip.length:Int)))))],[]⟩ {} [] ?_
   refine aQ ?_
   refine bI h (fun hb1 h=> ?_) (fun hb1 h=> ?_)
   ·refine ct hb1 ?_
    refine aP (aQ (aB (aQ (aO h fun a1 h=> ?_))))
    refine rg tT ⟨[(Yt x),(4,(vI u0)),(5,(vD (lV [(.int .i64 ((at' x.trip u0.toNat).amps)),(.int .i64 ((at' x.trip u0.toNat).millis))] 0))),(k34 x),(k35 x),(50,(vI u0))],[]⟩ [_] {fr:=[(3,9)] } [9] ⟨a1,trivial⟩ ?_
    refine aQ (bE h fun u2 hr_5 h=> ?_)
    refine bE h fun u4 hr_6 h=> ?_
    refine aO h fun⟨a1,a2⟩ h=> ?_
    have q0:=aU ((at' x.trip u0.toNat).amps) 1 1000000 hr_5
    refine dg tT mX ⟨[(Yt x),(k34 x),(k35 x),(50,(vI u0)),(92,(vB (bif (Tc u2 u4)then true else(bif (decide (0<u0))then(bif (k44 x u0)then true else(decide (((at' x.trip ((k17 u0).toNat)).millis)≤((at' x.trip u0.toNat).millis))))else false))))],[]⟩ (_::(eqs (!u2) 3 ((gP (k45 x u0 u2 u4) [(4,false)]→All [Fn Try.prog 94 [(sI ((at' x.trip u0.toNat).millis)),(sI 1),(sI 100000)] [] (vB u4) []])::(eqs (!u2) 2 (eqs (Tc u2 u4) 3 (eqs (decide (0<u0)) 7 ((gP (k45 x u0 u2 u4) [(13,true),(10,false)]→All [(0:Int)≤(k17 u0)∧(k17 u0)<(x.trip.length:Int)])::(eqs (decide (0<u0)) 4 (eqs (k44 x u0) 7 ((gP (k45 x u0 u2 u4) [(24,false),(13,true),(10,false)]→All [(0:Int)≤(k17 u0)∧(k17 u0)<(x.trip.length:Int)])::(eqs (k44 x u0) 3 [(decide (0<u0))=(decide (0<u0)),gP (k45 x u0 u2 u4) [(13,true),(10,false)]→All [(k44 x u0)=(k44 x u0)],(Tc u2 u4)=(Tc u2 u4),gP (k45 x u0 u2 u4) [(10,false)]→All [(decide (0<u0))=(decide (0<u0))],(Tc u2 u4)=(Tc u2 u4)]))))))))))) {yb:=[(4,(!u2)),(10,(Tc u2 u4)),(13,(decide (0<u0))),(24,(k44 x u0))],an:=[(2,cA q0 []),(7, .call [] (vB u4) [])] } [] ⟨q0,(ae ⟨(fun hg=> ⟨(aU ((at' x.trip u0.toNat).millis) 1 100000 (gI hr_6 (aZ hg))),trivial⟩),(ae (ae (ae ⟨(fun hg=> ⟨(a1 (aZ hg)),trivial⟩),(ae (ae ⟨(fun hg=> ⟨(a2 (aZ hg)),trivial⟩),(ae ⟨rfl,(fun hg=> ⟨rfl,trivial⟩),rfl,(fun hg=> ⟨rfl,trivial⟩),rfl,trivial⟩)⟩))⟩)))⟩)⟩ ?_
    refine bI h (fun hb h=> ?_) (fun hb h=> ?_)
    ·refine ct hb ?_
     refine sz tT ⟨[(3,(vB false))],[]⟩ {} [] ?_
     refine aR ?_
     obtain rfl:=oi h
     exact lR dY (dX 0) dW (bB.mk (.inr rfl) (p:=[]) (l:=[(sB false)]) (by kernel_rfl) trivial (eO.refl _) trivial)
    ·refine cf hb ?_
     refine aP (rz tT ⟨[(Yt x),(k34 x),(k35 x),(50,(k3 u0))],[]⟩ {} [] ?_)
     obtain rfl:=oi h
     exact lN
   ·refine cf hb1 ?_
    refine aI (fz (k36 x) []) ?_
    refine aX ?_
    obtain rfl:=oi h
    exact lB
  ·clear hy
   cases y with
   |brk z=>
    unfold gm
    refine⟨_, .refl, ?_⟩
    refine sg tT ⟨[(3,(vB (k46 x)))],[]⟩ (eqs (Yu x) 5 (eqs (k48 x) 3 [(Yu x)=(Yu x),gP (jl [(4,(Yu x)),(9,(k48 x))]) [(4,true)]→All [(k48 x)=(k48 x)],(Yu x)=(Yu x)])) {yb:=[(4,(Yu x)),(9,(k48 x))] } [] (ae (ae ⟨rfl,(fun hg=> ⟨rfl,trivial⟩),rfl,trivial⟩)) ?_
    refine aR ?_
    obtain rfl:=oi h
    exact rl [(sB (k46 x))]
   |ret v=>
    obtain rfl:=oi h
    unfold gm
    intro e st hn ha hR
    cases e with
    |normal=>exact absurd rfl hn
    |exit id=>exact hR
    |goto l=>exact hR
    |ret=>exact hR
    |panic c=>exact hR
    |outgrown=>exact hR
def BF  :Bool→Exit→St→Prop:=
  fun r=>bB TT [.tmp 3] (vB r) []
section
variable (x1:Int) (u0:(List Source)) (u1:(List Link)) (u2:(List ay))
abbrev k49:DV:=(lV [(.fn 138 1 (k23 x1 u0 u1 u2))] 0)
abbrev k50:TV:=(vD (k49 x1 u0 u1 u2))
end
theorem Be (x:Link) (x1:Int) (u0:(List Source)) (u1:(List Link)) (u2:(List ay)) {r:Bool} (h:lS x x1 u0 u1 u2=some r):Fn Try.prog 137 [(.agg (k37 x)),(sD (k49 x1 u0 u1 u2))] [] (vB r) []:=by
 refine fN tT Try.func137 rfl rfl fun B=> ?_
 show bJ _ _ _ _ _ _ (BF r) _
 unfold lS at h
 refine sz tT ⟨[(1,(k50 x1 u0 u1 u2)),(Yt x)],[]⟩ {fr:=[(0,1)] } [1] ?_
 refine aQ (bE h fun r_ hr_ h=> ?_)
 have q0:=DJ x x1 u0 u1 u2 hr_
 refine rg tT ⟨[(3,(vB (!r_)))],[]⟩ [_] {an:=[(2,cA q0 [])] } [] ⟨q0,trivial⟩ ?_
 refine aR ?_
 obtain rfl:=oi h
 exact rl [(sB (!r_))]
def jN  :Int→Exit→St→Prop:=
  fun r=>bB TT [.tmp 4] (vI r) []
section
variable (s_:(List Link)) (f_:Int) (u0:(List Source)) (u1:(List Link)) (u2:(List ay))
abbrev Yi:Nat × TV:=(0,(vD (aK none 6 Link.cell s_)))
abbrev k53:=(nN [(k49 f_ u0 u1 u2)])
abbrev k52:Nat × TV:=(1,(vD (.fn 137 1 (k53 f_ u0 u1 u2))))
abbrev k54:Nat × TV:=(7,(vI (s_.length:Int)))
end
def nP (s_:(List Link)) (f_:Int) (u0:(List Source)) (u1:(List Link)) (u2:(List ay)):Int→St:=
  fun t8=> ⟨[(Yi s_),(k52 f_ u0 u1 u2),(k54 s_),(8,(vI t8))],[]⟩
def nL  :Unit→St:=
  fun _=> ⟨[],[]⟩
def wU (s_:(List Link)) (f_:Int) (u0:(List Source)) (u1:(List Link)) (u2:(List ay)):(aM Int (Ex Unit Int))→Exit→St→Prop:=
  LQ 0 [] (nP s_ f_ u0 u1 u2) nL jN
section
variable (s_:(List Link)) (f_:Int) (u0:(List Source)) (u1:(List Link)) (u2:(List ay))
abbrev k55:List SV:=[(sD (aK none 6 Link.cell s_)),(sD (.fn 137 1 (k53 f_ u0 u1 u2)))]
abbrev k56:St:=⟨[(Yi s_),(k52 f_ u0 u1 u2)],[]⟩
end
theorem xG (s_:(List Link)) (f_:Int) (u0:(List Source)) (u1:(List Link)) (u2:(List ay)) {r:Int} (h:jf s_ f_ u0 u1 u2=some r):Fn Try.prog 151 (k55 s_ f_ u0 u1 u2) [] (vI r) []:=by
 refine fN tT Try.func151 rfl rfl fun B=> ?_
 show bJ _ _ _ _ _ _ (jN r) _
 unfold jf at h
 refine sz tT (k56 s_ f_ u0 u1 u2) {} [] ?_
 refine aQ (sz tT ⟨[(Yi s_),(k52 f_ u0 u1 u2),(k54 s_),(8,(vI 0))],[]⟩ {} [] ?_)
 refine bE h fun y hy h=> ?_
 refine aL [] (nP s_ f_ u0 u1 u2) nL jN hy (fun s f h=> ?_) ?_
 ·clear hy
  show bJ _ _ _ _ _ _ ((wU s_ f_ u0 u1 u2) f) _
  unfold gM at h
  obtain⟨t8,rfl⟩: ∃q,q=s:=⟨_,rfl⟩
  refine sz tT ⟨[(Yi s_),(k52 f_ u0 u1 u2),(k54 s_),(8,(vI t8)),(9,(vB (decide (t8<(s_.length:Int)))))],[]⟩ {} [] ?_
  refine aQ ?_
  refine bI h (fun hb1 h=> ?_) (fun hb1 h=> ?_)
  ·refine ct hb1 ?_
   refine aP (aQ (aB (sz tT ⟨[(Yi s_),(k52 f_ u0 u1 u2),(5,(vI t8)),(k54 s_),(8,(vI t8))],[]⟩ {} [] ?_)))
   refine aQ (bE h fun r_ hr_ h=> ?_)
   refine aO h fun a1 h=> ?_
   have q1:=Be (at' s_ t8.toNat) f_ u0 u1 u2 hr_
   refine rg tT ⟨[(Yi s_),(k52 f_ u0 u1 u2),(5,(vI t8)),(k54 s_),(8,(vI t8)),(16,(vB r_))],[]⟩ [_,_] {an:=[(5,cA q1 [])] } [] ⟨a1,q1,trivial⟩ ?_
   refine bI h (fun hb h=> ?_) (fun hb h=> ?_)
   ·refine ct hb ?_
    refine sz tT ⟨[(4,(vI t8))],[]⟩ {} [] ?_
    refine aR ?_
    obtain rfl:=oi h
    exact lR dY (dX 0) dW (bB.mk (.inr rfl) (p:=[]) (l:=[(sI t8)]) (by kernel_rfl) trivial (eO.refl _) trivial)
   ·refine cf hb ?_
    refine aP (rz tT ⟨[(Yi s_),(k52 f_ u0 u1 u2),(k54 s_),(Yv t8)],[]⟩ {} [] ?_)
    obtain rfl:=oi h
    exact lN
  ·refine cf hb1 ?_
   refine aI (fz ⟨[],[]⟩ []) ?_
   refine aX ?_
   obtain rfl:=oi h
   exact lB
 ·clear hy
  cases y with
  |brk z=>
   unfold gm
   refine⟨_, .refl, ?_⟩
   refine sz tT ⟨[(4,(vI (-1)))],[]⟩ {} [] ?_
   refine aR ?_
   obtain rfl:=oi h
   exact rl [(sI (-1))]
  |ret v=>
   obtain rfl:=oi h
   unfold gm
   intro e st hn ha hR
   cases e with
   |normal=>exact absurd rfl hn
   |exit id=>exact hR
   |goto l=>exact hR
   |ret=>exact hR
   |panic c=>exact hR
   |outgrown=>exact hR
def uZ  :Bool→Exit→St→Prop:=
  fun r=>bB TT [.tmp 4] (vB r) []
theorem sV (s_:(List Link)) (f_:Int) (u0:(List Source)) (u1:(List Link)) (u2:(List ay)) {r:Bool} (h:eX s_ f_ u0 u1 u2=some r):Fn Try.prog 136 (k55 s_ f_ u0 u1 u2) [] (vB r) []:=by
 refine fN tT Try.func136 rfl rfl fun B=> ?_
 show bJ _ _ _ _ _ _ (uZ r) _
 unfold eX at h
 refine sz tT (k56 s_ f_ u0 u1 u2) {} [] ?_
 refine aQ (bE h fun r_ hr_ h=> ?_)
 have q0:=xG s_ f_ u0 u1 u2 hr_
 refine rg tT (k32 r_) [_] {an:=[(2,cA q0 [])] } [] ⟨q0,trivial⟩ ?_
 refine aR ?_
 obtain rfl:=oi h
 exact rl [(sB (decide (0≤r_)))]
def EZ  :Bool→Exit→St→Prop:=
  fun r=>bB TT [.tmp 6] (vB r) []
theorem D7 (l:(List Link)) (u0:Int) (u1:Int) (u2:(List Source)) (u3:(List Link)) (u4:(List ay)) {r:Bool} (h:lW l u0 u1 u2 u3 u4=some r):Fn Try.prog 97 [(sD (aK none 6 Link.cell l)),(sI u0),(sD (.fn 138 1 (k23 u1 u2 u3 u4)))] [] (vB r) []:=by
 refine fN tT Try.func97 rfl rfl fun B=> ?_
 show bJ _ _ _ _ _ _ (EZ r) _
 unfold lW at h
 refine sz tT ⟨[(Yi l),(1,(vI u0)),(5,(k50 u1 u2 u3 u4))],[]⟩ {fr:=[(0,1)] } [1] ?_
 refine aQ (bE h fun r_ hr_ h=> ?_)
 refine rg tT ⟨[(6,(vB (bif (decide ((l.length:Int)≤u0))then(!r_)else false)))],[]⟩ (eqs (decide ((l.length:Int)≤u0)) 3 ((gP (jl [(4,(decide ((l.length:Int)≤u0)))]) [(4,true)]→All [Fn Try.prog 136 (k55 l u1 u2 u3 u4) [] (vB r_) []])::(eqs (decide ((l.length:Int)≤u0)) 2 []))) {yb:=[(4,(decide ((l.length:Int)≤u0)))],an:=[(7, .call [] (vB r_) [])] } [] (ae ⟨(fun hg=> ⟨(sV l u1 u2 u3 u4 (gI hr_ (aZ hg))),trivial⟩),(ae trivial)⟩) ?_
 refine aR ?_
 obtain rfl:=oi h
 exact rl [(sB (bif (decide ((l.length:Int)≤u0))then(!r_)else false))]
def He  :Int→Exit→St→Prop:=
  fun r=>bB TT [.tmp 2] (vI r) []
section
variable (x:ay)
abbrev k57:List CV:=[(cI x.feeds.e0),(cI x.feeds.e1),(cI x.power),(cI x.paths)]
abbrev k58:TV:=(vD (lV [(.int .i64 x.feeds.e0),(.int .i64 x.feeds.e1),(.int .i64 x.power),(.int .i64 x.paths)] 0))
end
theorem Fv (x:ay) {r:Int} (h:nC x=some r):Fn Try.prog 142 [(.agg (k57 x))] [] (vI r) []:=by
 refine fN tT Try.func142 rfl rfl fun B=> ?_
 show bJ _ _ _ _ _ _ (He r) _
 unfold nC at h
 refine sz tT ⟨[(1,(k58 x))],[]⟩ {fr:=[(0,1)] } [1] ?_
 refine aQ (sg tT ⟨[(6,(vB (decide (x.feeds.e1=(-1)))))],[]⟩ [(0:Int)≤1∧(1:Int)<(2:Nat)] {} [] ⟨((by decide)),trivial⟩ ?_)
 refine bI h (fun hb h=> ?_) (fun hb h=> ?_)
 ·refine ct hb ?_
  refine sz tT ⟨[(2,(vI 1))],[]⟩ {} [] ?_
  refine aR ?_
  obtain rfl:=oi h
  exact rl [(sI 1)]
 ·refine cf hb ?_
  refine aP (sz tT ⟨[(2,(vI 2))],[]⟩ {} [] ?_)
  refine aR ?_
  obtain rfl:=oi h
  exact rl [(sI 2)]
def Fs  :Bool→Exit→St→Prop:=
  fun r=>bB TT [.tmp 3] (vB r) []
section
variable (x:ay) (r_:Bool) (u0:Bool) (u1:Bool) (u6:Bool)
abbrev k59:Nat × TV:=(2,(k58 x))
abbrev k62:=(bif (k20 r_ u0)then(!decide (x.feeds.e0=x.feeds.e1))else false)
abbrev Yg:=(bif (k62 x r_ u0)then u1 else false)
abbrev k60:=(bif (Yg x r_ u0 u1)then u6 else false)
abbrev k63:=(jl [(5,r_),(12,(k20 r_ u0)),(17,(k62 x r_ u0)),(22,(Yg x r_ u0 u1))])
end
theorem DN (x:ay) (x1:Int) (u2:(List Source)) (u3:(List Link)) (u4:(List ay)) {r:Bool} (h:mg x x1 u2 u3 u4=some r):Fn Try.prog 141 [(.agg (k57 x)),(sD (k12 u2 u4 x1 u3))] [] (vB r) []:=by
 refine fN tT Try.func141 rfl rfl fun B=> ?_
 show bJ _ _ _ _ _ _ (Fs r) _
 unfold mg at h
 refine sz tT ⟨[(k15 u2 u4 x1 u3),(k59 x)],[]⟩ {fr:=[(0,1)] } [1] ?_
 refine sd tT mX ⟨[(k15 u2 u4 x1 u3),(k59 x),(4,(vI x.feeds.e0)),(5,(vI x.feeds.e1))],[]⟩ [(0:Int)≤0∧(0:Int)<(2:Nat),(0:Int)≤1∧(1:Int)<(2:Nat)] {} [] ⟨((by decide)),((by decide)),trivial⟩ ?_
 refine aQ (bE h fun r_ hr_ h=> ?_)
 refine bE h fun u0 hr_1 h=> ?_
 refine bE h fun u1 hr_2 h=> ?_
 refine bE h fun u5 hr_3 h=> ?_
 refine bE h fun u6 hr_4 h=> ?_
 have q0:=aU x.feeds.e0 0 (k17 x1) hr_
 refine dg tT mX ⟨[(3,(vB (k60 x r_ u0 u1 u6)))],[]⟩ (_::(eqs r_ 5 ((gP (k63 x r_ u0 u1) [(5,true)]→All [Fn Try.prog 94 [(sI x.feeds.e1),(sI (-1)),(sI (k17 x1))] [] (vB u0) []])::(r_=r_)::(eqs (k20 r_ u0) 4 (eqs (k62 x r_ u0) 3 ((gP (k63 x r_ u0 u1) [(17,true)]→All [Fn Try.prog 94 [(sI x.power),(sI 1),(sI 100000)] [] (vB u1) []])::((k62 x r_ u0)=(k62 x r_ u0))::(eqs (Yg x r_ u0 u1) 4 [gP (k63 x r_ u0 u1) [(22,true)]→All [Fn Try.prog 142 [(.agg (k57 x))] [] (vI u5) []],(Yg x r_ u0 u1)=(Yg x r_ u0 u1),gP (k63 x r_ u0 u1) [(22,true)]→All [Fn Try.prog 94 [(sI x.paths),(sI 0),(sI u5)] [] (vB u6) []],(Yg x r_ u0 u1)=(Yg x r_ u0 u1)]))))))) {yb:=[(5,r_),(12,(k20 r_ u0)),(17,(k62 x r_ u0)),(22,(Yg x r_ u0 u1))],an:=[(4,cA q0 []),(10, .call [] (vB u0) []),(20, .call [] (vB u1) []),(26, .call [] (vI u5) []),(27, .call [] (vB u6) [])] } [] ⟨q0,(ae ⟨(fun hg=> ⟨(aU x.feeds.e1 (-1) (k17 x1) (gI hr_1 (aZ hg))),trivial⟩),rfl,(ae (ae ⟨(fun hg=> ⟨(aU x.power 1 100000 (gI hr_2 (aZ hg))),trivial⟩),rfl,(ae ⟨(fun hg=> ⟨(Fv x (gI hr_3 (aZ hg))),trivial⟩),rfl,(fun hg=> ⟨(aU x.paths 0 u5 (gI hr_4 (aZ hg))),trivial⟩),rfl,trivial⟩)⟩))⟩)⟩ ?_
 refine aR ?_
 obtain rfl:=oi h
 exact rl [(sB (k60 x r_ u0 u1 u6))]
def Cg  :Bool→Exit→St→Prop:=
  fun r=>bB TT [.tmp 3] (vB r) []
section
variable (x1:Int) (u0:(List Source)) (u1:(List Link)) (u2:(List ay))
abbrev k64:DV:=(lV [(.fn 141 1 (k23 x1 u0 u1 u2))] 0)
abbrev k65:TV:=(vD (k64 x1 u0 u1 u2))
end
theorem AY (x:ay) (x1:Int) (u0:(List Source)) (u1:(List Link)) (u2:(List ay)) {r:Bool} (h:kS x x1 u0 u1 u2=some r):Fn Try.prog 140 [(.agg (k57 x)),(sD (k64 x1 u0 u1 u2))] [] (vB r) []:=by
 refine fN tT Try.func140 rfl rfl fun B=> ?_
 show bJ _ _ _ _ _ _ (Cg r) _
 unfold kS at h
 refine sz tT ⟨[(1,(k65 x1 u0 u1 u2)),(k59 x)],[]⟩ {fr:=[(0,1)] } [1] ?_
 refine aQ (bE h fun r_ hr_ h=> ?_)
 have q0:=DN x x1 u0 u1 u2 hr_
 refine rg tT ⟨[(3,(vB (!r_)))],[]⟩ [_] {an:=[(2,cA q0 [])] } [] ⟨q0,trivial⟩ ?_
 refine aR ?_
 obtain rfl:=oi h
 exact rl [(sB (!r_))]
def jM  :Int→Exit→St→Prop:=
  fun r=>bB TT [.tmp 4] (vI r) []
section
variable (s_:(List ay)) (f_:Int) (u0:(List Source)) (u1:(List Link)) (u2:(List ay))
abbrev Yr:Nat × TV:=(0,(vD (k14 s_)))
abbrev k68:=(nN [(k64 f_ u0 u1 u2)])
abbrev k67:Nat × TV:=(1,(vD (.fn 140 1 (k68 f_ u0 u1 u2))))
abbrev k69:Nat × TV:=(7,(vI (s_.length:Int)))
end
def ny (s_:(List ay)) (f_:Int) (u0:(List Source)) (u1:(List Link)) (u2:(List ay)):Int→St:=
  fun t8=> ⟨[(Yr s_),(k67 f_ u0 u1 u2),(k69 s_),(8,(vI t8))],[]⟩
def nJ  :Unit→St:=
  fun _=> ⟨[],[]⟩
def xq (s_:(List ay)) (f_:Int) (u0:(List Source)) (u1:(List Link)) (u2:(List ay)):(aM Int (Ex Unit Int))→Exit→St→Prop:=
  LQ 0 [] (ny s_ f_ u0 u1 u2) nJ jM
section
variable (s_:(List ay)) (f_:Int) (u0:(List Source)) (u1:(List Link)) (u2:(List ay)) (t8:Int)
abbrev k70:List SV:=[(sD (k14 s_)),(sD (.fn 140 1 (k68 f_ u0 u1 u2)))]
abbrev k71:St:=⟨[(Yr s_),(k67 f_ u0 u1 u2)],[]⟩
abbrev JZ:=((at' s_ t8.toNat).feeds)
end
theorem wW (s_:(List ay)) (f_:Int) (u0:(List Source)) (u1:(List Link)) (u2:(List ay)) {r:Int} (h:jd s_ f_ u0 u1 u2=some r):Fn Try.prog 152 (k70 s_ f_ u0 u1 u2) [] (vI r) []:=by
 refine fN tT Try.func152 rfl rfl fun B=> ?_
 show bJ _ _ _ _ _ _ (jM r) _
 unfold jd at h
 refine sz tT (k71 s_ f_ u0 u1 u2) {} [] ?_
 refine aQ (sz tT ⟨[(Yr s_),(k67 f_ u0 u1 u2),(k69 s_),(8,(vI 0))],[]⟩ {} [] ?_)
 refine bE h fun y hy h=> ?_
 refine aL [] (ny s_ f_ u0 u1 u2) nJ jM hy (fun s f h=> ?_) ?_
 ·clear hy
  show bJ _ _ _ _ _ _ ((xq s_ f_ u0 u1 u2) f) _
  unfold gQ at h
  obtain⟨t8,rfl⟩: ∃q,q=s:=⟨_,rfl⟩
  refine sz tT ⟨[(Yr s_),(k67 f_ u0 u1 u2),(k69 s_),(8,(vI t8)),(9,(vB (decide (t8<(s_.length:Int)))))],[]⟩ {} [] ?_
  refine aQ ?_
  refine bI h (fun hb1 h=> ?_) (fun hb1 h=> ?_)
  ·refine ct hb1 ?_
   refine aP (aQ (aB (sz tT ⟨[(Yr s_),(k67 f_ u0 u1 u2),(5,(vI t8)),(k69 s_),(8,(vI t8))],[]⟩ {} [] ?_)))
   refine aQ (bE h fun r_ hr_ h=> ?_)
   refine aO h fun a1 h=> ?_
   have q1:=AY (⟨(JZ s_ t8),(at' s_ t8.toNat).power,(at' s_ t8.toNat).paths⟩:ay) f_ u0 u1 u2 hr_
   refine rg tT ⟨[(Yr s_),(k67 f_ u0 u1 u2),(5,(vI t8)),(k69 s_),(8,(vI t8)),(16,(vB r_))],[]⟩ [_,_] {an:=[(5,cA q1 [])] } [] ⟨a1,q1,trivial⟩ ?_
   refine bI h (fun hb h=> ?_) (fun hb h=> ?_)
   ·refine ct hb ?_
    refine sz tT ⟨[(4,(vI t8))],[]⟩ {} [] ?_
    refine aR ?_
    obtain rfl:=oi h
    exact lR dY (dX 0) dW (bB.mk (.inr rfl) (p:=[]) (l:=[(sI t8)]) (by kernel_rfl) trivial (eO.refl _) trivial)
   ·refine cf hb ?_
    refine aP (rz tT ⟨[(Yr s_),(k67 f_ u0 u1 u2),(k69 s_),(Yv t8)],[]⟩ {} [] ?_)
    obtain rfl:=oi h
    exact lN
  ·refine cf hb1 ?_
   refine aI (fz ⟨[],[]⟩ []) ?_
   refine aX ?_
   obtain rfl:=oi h
   exact lB
 ·clear hy
  cases y with
  |brk z=>
   unfold gm
   refine⟨_, .refl, ?_⟩
   refine sz tT ⟨[(4,(vI (-1)))],[]⟩ {} [] ?_
   refine aR ?_
   obtain rfl:=oi h
   exact rl [(sI (-1))]
  |ret v=>
   obtain rfl:=oi h
   unfold gm
   intro e st hn ha hR
   cases e with
   |normal=>exact absurd rfl hn
   |exit id=>exact hR
   |goto l=>exact hR
   |ret=>exact hR
   |panic c=>exact hR
   |outgrown=>exact hR
def uD  :Bool→Exit→St→Prop:=
  fun r=>bB TT [.tmp 4] (vB r) []
theorem sQ (s_:(List ay)) (f_:Int) (u0:(List Source)) (u1:(List Link)) (u2:(List ay)) {r:Bool} (h:eZ s_ f_ u0 u1 u2=some r):Fn Try.prog 139 (k70 s_ f_ u0 u1 u2) [] (vB r) []:=by
 refine fN tT Try.func139 rfl rfl fun B=> ?_
 show bJ _ _ _ _ _ _ (uD r) _
 unfold eZ at h
 refine sz tT (k71 s_ f_ u0 u1 u2) {} [] ?_
 refine aQ (bE h fun r_ hr_ h=> ?_)
 have q0:=wW s_ f_ u0 u1 u2 hr_
 refine rg tT (k32 r_) [_] {an:=[(2,cA q0 [])] } [] ⟨q0,trivial⟩ ?_
 refine aR ?_
 obtain rfl:=oi h
 exact rl [(sB (decide (0≤r_)))]
def Fh  :Bool→Exit→St→Prop:=
  fun r=>bB TT [.tmp 6] (vB r) []
theorem Et (l:(List ay)) (u0:Int) (u1:Int) (u2:(List Source)) (u3:(List Link)) (u4:(List ay)) {r:Bool} (h:mh l u0 u1 u2 u3 u4=some r):Fn Try.prog 99 [(sD (k14 l)),(sI u0),(sD (.fn 141 1 (k23 u1 u2 u3 u4)))] [] (vB r) []:=by
 refine fN tT Try.func99 rfl rfl fun B=> ?_
 show bJ _ _ _ _ _ _ (Fh r) _
 unfold mh at h
 refine sz tT ⟨[(Yr l),(1,(vI u0)),(5,(k65 u1 u2 u3 u4))],[]⟩ {fr:=[(0,1)] } [1] ?_
 refine aQ (bE h fun r_ hr_ h=> ?_)
 refine rg tT ⟨[(6,(vB (bif (decide ((l.length:Int)≤u0))then(!r_)else false)))],[]⟩ (eqs (decide ((l.length:Int)≤u0)) 3 ((gP (jl [(4,(decide ((l.length:Int)≤u0)))]) [(4,true)]→All [Fn Try.prog 139 (k70 l u1 u2 u3 u4) [] (vB r_) []])::(eqs (decide ((l.length:Int)≤u0)) 2 []))) {yb:=[(4,(decide ((l.length:Int)≤u0)))],an:=[(7, .call [] (vB r_) [])] } [] (ae ⟨(fun hg=> ⟨(sQ l u1 u2 u3 u4 (gI hr_ (aZ hg))),trivial⟩),(ae trivial)⟩) ?_
 refine aR ?_
 obtain rfl:=oi h
 exact rl [(sB (bif (decide ((l.length:Int)≤u0))then(!r_)else false))]
def GH  :Int→Exit→St→Prop:=
  fun r=>bB TT [.tmp 2] (vI r) []
theorem xM (p:ah) {r:Int} (h:kN p=some r):Fn Try.prog 58 (k4 p) [] (vI r) []:=by
 refine fN tT Try.func58 rfl rfl fun B=> ?_
 show bJ _ _ _ _ _ _ (GH r) _
 unfold kN at h
 refine sz tT (k7 p) {fr:=[(0,1)] } [1] ?_
 refine aQ (aB (aQ (bE h fun r_ hr_ h=> ?_)))
 have q0:=aU p.buses 1 24 hr_
 refine rg tT ⟨[(k8 p),(3,(vB (!r_)))],[]⟩ [_] {an:=[(2,cA q0 [])] } [] ⟨q0,trivial⟩ ?_
 refine bI h (fun hb3 h=> ?_) (fun hb3 h=> ?_)
 ·refine ct hb3 ?_
  refine sz tT ⟨[(2,(vI 10))],[]⟩ {} [] ?_
  refine aR ?_
  obtain rfl:=oi h
  exact rl [(sI 10)]
 ·refine cf hb3 ?_
  refine aQ (bE h fun u0 hr_1 h=> ?_)
  refine bE h fun u3 hr_2 h=> ?_
  have q0:=En p hr_1
  have q1:=GD p.sources 8 u0.1 u0.2.1 u0.2.2.1 u0.2.2.2 hr_2
  refine dg tT mX ⟨[(k8 p),(8,(vB (!u3)))],[]⟩ [_,_] {an:=[(3,cA q0 []),(4,cA q1 [])] } [] ⟨q0,q1,trivial⟩ ?_
  refine bI h (fun hb2 h=> ?_) (fun hb2 h=> ?_)
  ·refine ct hb2 ?_
   refine sz tT ⟨[(2,(vI 11))],[]⟩ {} [] ?_
   refine aR ?_
   obtain rfl:=oi h
   exact rl [(sI 11)]
  ·refine cf hb2 ?_
   refine aQ (bE h fun u1 hr_3 h=> ?_)
   refine bE h fun u4 hr_4 h=> ?_
   have q0:=Gx p hr_3
   have q1:=D7 p.links 40 u1.1 u1.2.1 u1.2.2.1 u1.2.2.2 hr_4
   refine dg tT mX ⟨[(k8 p),(15,(vB (!u4)))],[]⟩ [_,_] {an:=[(3,cA q0 []),(4,cA q1 [])] } [] ⟨q0,q1,trivial⟩ ?_
   refine bI h (fun hb1 h=> ?_) (fun hb1 h=> ?_)
   ·refine ct hb1 ?_
    refine sz tT ⟨[(2,(vI 12))],[]⟩ {} [] ?_
    refine aR ?_
    obtain rfl:=oi h
    exact rl [(sI 12)]
   ·refine cf hb1 ?_
    refine aQ (bE h fun u2 hr_5 h=> ?_)
    refine bE h fun u5 hr_6 h=> ?_
    have q0:=GK p hr_5
    have q1:=Et p.racks 24 u2.1 u2.2.1 u2.2.2.1 u2.2.2.2 hr_6
    refine dg tT mX ⟨[(22,(vB (!u5)))],[]⟩ [_,_] {an:=[(3,cA q0 []),(4,cA q1 [])] } [] ⟨q0,q1,trivial⟩ ?_
    refine bI h (fun hb h=> ?_) (fun hb h=> ?_)
    ·refine ct hb ?_
     refine sz tT ⟨[(2,(vI 13))],[]⟩ {} [] ?_
     refine aR ?_
     obtain rfl:=oi h
     exact rl [(sI 13)]
    ·refine cf hb ?_
     refine aP (sz tT ⟨[(2,(vI 0))],[]⟩ {} [] ?_)
     refine aR ?_
     obtain rfl:=oi h
     exact rl [(sI 0)]
def gY  :Int→Exit→St→Prop:=
  fun r=>bB TT [.tmp 4] (vI r) []
section
variable (s_:State) (p:ah)
abbrev k75:DV:=(lV [(aK none 1 aj s_.closed),(aK none 1 aj s_.locked),(aK none 1 aj s_.badLink),(aK none 1 aj s_.on_),(aK none 1 aj s_.badSource),(aK none 1 aj s_.earthed),(aK none 1 aj s_.badBus)] 0)
abbrev k74:TV:=(vD (k75 s_))
abbrev lF:Nat × TV:=(3,(k74 s_))
abbrev Yj:=(⟨s_.closed,(p.links.length:Int)⟩:dD)
abbrev YA:=(⟨s_.locked,(p.links.length:Int)⟩:dD)
abbrev Yk:=(⟨s_.badLink,(p.links.length:Int)⟩:dD)
abbrev Yy:=(⟨s_.on_,(p.sources.length:Int)⟩:dD)
abbrev Yo:=(⟨s_.badSource,(p.sources.length:Int)⟩:dD)
abbrev Yd:=(⟨s_.earthed,p.buses⟩:dD)
abbrev Yq:=(⟨s_.badBus,p.buses⟩:dD)
abbrev k76:Nat × TV:=(53,(vO 13 true ([(Yj s_ p),(YA s_ p),(Yk s_ p),(Yy s_ p),(Yo s_ p),(Yd s_ p),(Yq s_ p)].length)))
abbrev k84:Nat × TV:=(54,(vI ([(Yj s_ p),(YA s_ p),(Yk s_ p),(Yy s_ p),(Yo s_ p),(Yd s_ p),(Yq s_ p)].length:Int)))
abbrev Yf:Ob:=(.cells 26 (k5 p))
abbrev k86:Nat × Option Ob:=(11,some (Yf p))
abbrev k85:List (Nat × Option Ob):=[(k86 p),(13,some (cu 128 2 dD.cell [(Yj s_ p),(YA s_ p),(Yk s_ p),(Yy s_ p),(Yo s_ p),(Yd s_ p),(Yq s_ p)]))]
end
def qj (p:ah) (s_:State):Int→St:=
  fun u0=> ⟨[(2,(vP 11 0)),(lF s_),(k76 s_ p),(k84 s_ p),(55,(vI u0))],(k85 s_ p)⟩
section
variable (s_:State) (p:ah)
abbrev k88:St:=⟨[(2,(vP 11 0)),(lF s_)],[(k86 p)]⟩
end
def qf (p:ah) (s_:State):Unit→St:=
  fun _=>(k88 s_ p)
def Ac (p:ah) (s_:State):(aM Int (Ex Unit Int))→Exit→St→Prop:=
  LQ 0 [] (qj p s_) (qf p s_) gY
section
variable (p:ah)
abbrev k89:Nat × TV:=(67,(vD (aK none 6 Link.cell p.links)))
abbrev k90:Nat × TV:=(68,(vI (p.links.length:Int)))
end
def qi (p:ah) (s_:State):Int→St:=
  fun u0=> ⟨[(lF s_),(k89 p),(k90 p),(69,(vI u0))],[]⟩
def pY  :Unit→St:=
  fun _=> ⟨[],[]⟩
def zW (p:ah) (s_:State):(aM Int (Ex Unit Int))→Exit→St→Prop:=
  LQ 2 [] (qi p s_) pY gY
section
variable (s_:State) (p:ah) (u1:Int) (u0:Int)
abbrev SG:List CV:=[(.d (aK none 1 aj s_.closed)),(.d (aK none 1 aj s_.locked)),(.d (aK none 1 aj s_.badLink)),(.d (aK none 1 aj s_.on_)),(.d (aK none 1 aj s_.badSource)),(.d (aK none 1 aj s_.earthed)),(.d (aK none 1 aj s_.badBus))]
abbrev k91:List SV:=[(.agg (k5 p)),(.agg (SG s_))]
abbrev k93:List (Nat × Option Ob):=[(k86 p),(12,some (.cells 29 (SG s_)))]
abbrev k94:=(aC dD.cell [(Yj s_ p),(YA s_ p),(Yk s_ p),(Yy s_ p),(Yo s_ p),(Yd s_ p),(Yq s_ p)])
abbrev k96:=(at' [(Yj s_ p),(YA s_ p),(Yk s_ p),(Yy s_ p),(Yo s_ p),(Yd s_ p),(Yq s_ p)] u1.toNat)
abbrev k95:=((k96 s_ p u1).l)
abbrev k97:=((k96 s_ p u1).n)
abbrev OT:=((at' p.links u0.toNat).most)
abbrev k99:TV:=(vD (lV [(.int .i64 ((at' p.links u0.toNat).a)),(.int .i64 ((at' p.links u0.toNat).b)),(.int .i64 ((at' p.links u0.toNat).kind)),(.int .i64 (OT p u0)),(.int .i64 ((at' p.links u0.toNat).iH)),(aK none 2 iY.cell ((at' p.links u0.toNat).trip))] 0))
abbrev Nf:Nat × TV:=(11,(k99 p u0))
abbrev KV:=(decide (((at' p.links u0.toNat).kind)=1))
abbrev Nw:=(!(at' s_.closed u0.toNat))
abbrev abl:=(jl [(3,(KV p u0)),(10,(Nw s_ u0))])
end
theorem eH (p:ah) (s_:State) {r:Int} (h:dw p s_=some r):Fn Try.prog 12 (k91 s_ p) [] (vI r) []:=by
 refine fN tT Try.func12 rfl rfl fun B=> ?_
 show bJ _ _ _ _ _ _ (gY r) _
 unfold dw at h
 refine sz tT ⟨[(2,(vP 11 0)),(3,(vP 12 0))],(k93 s_ p)⟩ {fr:=[(0,11),(1,12)] } [] ?_
 refine aQ (aQ (bE h fun r_ hr_ h=> ?_))
 have q0:=xM p hr_
 refine rg tT ⟨[(2,(vP 11 0)),(3,(vP 12 0)),(5,(vI r_))],(k93 s_ p)⟩ [_] {an:=[(1,cA q0 [])] } [] ⟨q0,trivial⟩ ?_
 refine sz tT ⟨[(2,(vP 11 0)),(3,(vP 12 0)),(5,(vI r_)),(15,(vB (!decide (r_=0))))],(k93 s_ p)⟩ {} [] ?_
 refine bI h (fun hb4 h=> ?_) (fun hb4 h=> ?_)
 ·refine ct hb4 ?_
  refine sz tT ⟨[(4,(vI r_))],[]⟩ {} [] ?_
  refine aR ?_
  obtain rfl:=oi h
  exact rl [(sI r_)]
 ·refine cf hb4 ?_
  refine aP (sd tT mX ⟨[(2,(vP 11 0)),(3,(vP 12 0)),(6,(vI (p.links.length:Int))),(7,(vI (p.sources.length:Int)))],(k93 s_ p)⟩ [] {} [] trivial ?_)
  refine aQ (sg tT ⟨[(2,(vP 11 0)),(lF s_),(k76 s_ p),(k84 s_ p),(55,(vI 0))],(k85 s_ p)⟩ [[(Yj s_ p),(YA s_ p),(Yk s_ p),(Yy s_ p),(Yo s_ p),(Yd s_ p),(Yq s_ p)].length=7,aG 7 2 (jD 2 [(aK none 1 aj s_.closed),(.int .i64 (p.links.length:Int)),(aK none 1 aj s_.locked),(.int .i64 (p.links.length:Int)),(aK none 1 aj s_.badLink),(.int .i64 (p.links.length:Int)),(aK none 1 aj s_.on_),(.int .i64 (p.sources.length:Int)),(aK none 1 aj s_.badSource),(.int .i64 (p.sources.length:Int)),(aK none 1 aj s_.earthed),(.int .i64 p.buses),(aK none 1 aj s_.badBus),(.int .i64 p.buses)]) (k94 s_ p)] {an:=[(30, .arr [(Yj s_ p),(YA s_ p),(Yk s_ p),(Yy s_ p),(Yo s_ p),(Yd s_ p),(Yq s_ p)].length (k94 s_ p))],fr:=[(30,13)] } [12] ⟨(rfl),((by intro i hi j hj;match i,j,hi,hj with|0,0,_,_=>rfl|0,1,_,_=>rfl|1,0,_,_=>rfl|1,1,_,_=>rfl|2,0,_,_=>rfl|2,1,_,_=>rfl|3,0,_,_=>rfl|3,1,_,_=>rfl|4,0,_,_=>rfl|4,1,_,_=>rfl|5,0,_,_=>rfl|5,1,_,_=>rfl|6,0,_,_=>rfl|6,1,_,_=>rfl)),trivial⟩ ?_)
  refine bE h fun y hy h=> ?_
  refine aL [] (qj p s_) (qf p s_) gY hy (fun s f h=> ?_) ?_
  ·clear hy
   show bJ _ _ _ _ _ _ ((Ac p s_) f) _
   unfold gF at h
   obtain⟨u1,rfl⟩: ∃q,q=s:=⟨_,rfl⟩
   refine sz tT ⟨[(2,(vP 11 0)),(lF s_),(k76 s_ p),(k84 s_ p),(55,(vI u1)),(56,(vB (decide (u1<([(Yj s_ p),(YA s_ p),(Yk s_ p),(Yy s_ p),(Yo s_ p),(Yd s_ p),(Yq s_ p)].length:Int)))))],(k85 s_ p)⟩ {} [] ?_
   refine aQ ?_
   refine bI h (fun hb1 h=> ?_) (fun hb1 h=> ?_)
   ·refine ct hb1 ?_
    refine aP (aQ (aB (aQ (aO h fun a1 h=> ?_))))
    refine rg tT ⟨[(2,(vP 11 0)),(lF s_),(9,(vD (lV [(aK none 1 aj (k95 s_ p u1)),(.int .i64 (k97 s_ p u1))] 0))),(k76 s_ p),(k84 s_ p),(55,(vI u1))],(k85 s_ p)⟩ [_,_] {fr:=[(2,17)] } [17] ⟨a1,(tL a1),trivial⟩ ?_
    refine sz tT ⟨[(2,(vP 11 0)),(lF s_),(k76 s_ p),(k84 s_ p),(55,(vI u1)),(64,(vB (!decide (((k95 s_ p u1).length:Int)=(k97 s_ p u1)))))],(k85 s_ p)⟩ {} [] ?_
    refine bI h (fun hb h=> ?_) (fun hb h=> ?_)
    ·refine ct hb ?_
     refine sz tT ⟨[(4,(vI 9))],[]⟩ {} [] ?_
     refine aR ?_
     obtain rfl:=oi h
     exact lR dY (dX 0) dW (bB.mk (.inr rfl) (p:=[]) (l:=[(sI 9)]) (by kernel_rfl) trivial (eO.refl _) trivial)
    ·refine cf hb ?_
     refine aP (rz tT ⟨[(2,(vP 11 0)),(lF s_),(k76 s_ p),(k84 s_ p),(55,(k3 u1))],(k85 s_ p)⟩ {} [] ?_)
     obtain rfl:=oi h
     exact lN
   ·refine cf hb1 ?_
    refine aI (fz (k88 s_ p) []) ?_
    refine aX ?_
    obtain rfl:=oi h
    exact lB
  ·clear hy
   cases y with
   |brk z=>
    unfold gm
    refine⟨_, .refl, ?_⟩
    refine aQ (sz tT ⟨[(lF s_),(k89 p),(k90 p),(69,(vI 0))],[]⟩ {} [] ?_)
    refine bE h fun y1 hy h=> ?_
    refine aL [] (qi p s_) pY gY hy (fun s f h=> ?_) ?_
    ·clear hy
     show bJ _ _ _ _ _ _ ((zW p s_) f) _
     unfold gH at h
     obtain⟨u0,rfl⟩: ∃q,q=s:=⟨_,rfl⟩
     refine sz tT ⟨[(lF s_),(k89 p),(k90 p),(69,(vI u0)),(70,(vB (decide (u0<(p.links.length:Int)))))],[]⟩ {} [] ?_
     refine aQ ?_
     refine bI h (fun hb3 h=> ?_) (fun hb3 h=> ?_)
     ·refine ct hb3 ?_
      refine aP (aQ (aB (aQ (aO h fun a1 h=> ?_))))
      refine rg tT ⟨[(lF s_),(10,(vI u0)),(Nf p u0),(k89 p),(k90 p),(69,(vI u0))],[]⟩ [_] {fr:=[(3,21)] } [21] ⟨a1,trivial⟩ ?_
      refine aQ (aO h fun⟨a1,a2⟩ h=> ?_)
      refine rg tT ⟨[(lF s_),(k89 p),(k90 p),(69,(vI u0)),(91,(vB (bif (KV p u0)then(bif (Nw s_ u0)then true else(at' s_.locked u0.toNat))else false)))],[]⟩ (eqs (KV p u0) 4 ((gP (abl s_ p u0) [(3,true)]→All [(0:Int)≤u0∧u0<(s_.closed.length:Int)])::(eqs (KV p u0) 3 (eqs (Nw s_ u0) 4 [gP (abl s_ p u0) [(10,false),(3,true)]→All [(0:Int)≤u0∧u0<(s_.locked.length:Int)],(Nw s_ u0)=(Nw s_ u0),(KV p u0)=(KV p u0),gP (abl s_ p u0) [(3,true)]→All [(Nw s_ u0)=(Nw s_ u0)],(KV p u0)=(KV p u0)])))) {yb:=[(3,(KV p u0)),(10,(Nw s_ u0))] } [] (ae ⟨(fun hg=> ⟨(a1 (aZ hg)),trivial⟩),(ae (ae ⟨(fun hg=> ⟨(a2 (aZ hg)),trivial⟩),rfl,rfl,(fun hg=> ⟨rfl,trivial⟩),rfl,trivial⟩))⟩) ?_
      refine bI h (fun hb2 h=> ?_) (fun hb2 h=> ?_)
      ·refine ct hb2 ?_
       refine sz tT ⟨[(4,(vI 9))],[]⟩ {} [] ?_
       refine aR ?_
       obtain rfl:=oi h
       exact lR dY (dX 2) dW (bB.mk (.inr rfl) (p:=[]) (l:=[(sI 9)]) (by kernel_rfl) trivial (eO.refl _) trivial)
      ·refine cf hb2 ?_
       refine aP (rz tT ⟨[(lF s_),(k89 p),(k90 p),(69,(k3 u0))],[]⟩ {} [] ?_)
       obtain rfl:=oi h
       exact lN
     ·refine cf hb3 ?_
      refine aI (fz ⟨[],[]⟩ []) ?_
      refine aX ?_
      obtain rfl:=oi h
      exact lB
    ·clear hy
     cases y1 with
     |brk z=>
      unfold gm
      refine⟨_, .refl, ?_⟩
      refine sz tT ⟨[(4,(vI 0))],[]⟩ {} [] ?_
      refine aR ?_
      obtain rfl:=oi h
      exact rl [(sI 0)]
     |ret v=>
      obtain rfl:=oi h
      unfold gm
      intro e st hn ha hR
      cases e with
      |normal=>exact absurd rfl hn
      |exit id=>exact hR
      |goto l=>exact hR
      |ret=>exact hR
      |panic c=>exact hR
      |outgrown=>exact hR
   |ret v=>
    obtain rfl:=oi h
    unfold gm
    intro e st hn ha hR
    cases e with
    |normal=>exact absurd rfl hn
    |exit id=>exact hR
    |goto l=>exact hR
    |ret=>exact hR
    |panic c=>exact hR
    |outgrown=>exact hR
def Jv  :Bool→Exit→St→Prop:=
  fun r=>bB TT [.tmp 6] (vB r) []
section
variable (p:ah) (s_:State) (k:Int)
abbrev OU:List SV:=[(.agg (k5 p)),(.agg (SG s_)),(sI k)]
abbrev bn:Nat × TV:=(3,(k9 p))
abbrev aV:Nat × TV:=(4,(k74 s_))
abbrev SA:=(bif (at' s_.on_ k.toNat)then(!(at' s_.badSource k.toNat))else false)
abbrev agK:=(bif (SA s_ k)then(!(at' s_.badBus (((at' p.sources k.toNat).bus).toNat)))else false)
abbrev aaX:=(jl [(5,(at' s_.on_ k.toNat)),(13,(SA s_ k))])
end
theorem fU (p:ah) (s_:State) (k:Int) {r:Bool} (h:gU p s_ k=some r):Fn Try.prog 65 (OU p s_ k) [] (vB r) []:=by
 refine fN tT Try.func65 rfl rfl fun B=> ?_
 show bJ _ _ _ _ _ _ (Jv r) _
 unfold gU at h
 refine sz tT ⟨[(2,(vI k)),(bn p),(aV s_)],[]⟩ {fr:=[(0,2),(1,3)] } [2,3] ?_
 refine aQ (aO h fun⟨a1,a2,a3,a4⟩ h=> ?_)
 refine dg tT mX ⟨[(6,(vB (agK p s_ k)))],[]⟩ (_::(eqs (at' s_.on_ k.toNat) 4 ((gP (aaX s_ k) [(5,true)]→All [(0:Int)≤k∧k<(s_.badSource.length:Int)])::(eqs (at' s_.on_ k.toNat) 3 (eqs (SA s_ k) 6 ((gP (aaX s_ k) [(13,true)]→All [(0:Int)≤k∧k<(p.sources.length:Int)])::(eqs (SA s_ k) 3 ((gP (aaX s_ k) [(13,true)]→All [(0:Int)≤(at' p.sources k.toNat).bus∧(at' p.sources k.toNat).bus<(s_.badBus.length:Int)])::(eqs (SA s_ k) 3 []))))))))) {yb:=[(5,(at' s_.on_ k.toNat)),(13,(SA s_ k))] } [] ⟨a1,(ae ⟨(fun hg=> ⟨(a2 (aZ hg)),trivial⟩),(ae (ae ⟨(fun hg=> ⟨(a3 (aZ hg)),trivial⟩),(ae ⟨(fun hg=> ⟨(a4 (aZ hg)),trivial⟩),(ae trivial)⟩)⟩))⟩)⟩ ?_
 refine aR ?_
 obtain rfl:=oi h
 exact rl [(sB (agK p s_ k))]
def EL  :Bool→Exit→St→Prop:=
  fun r=>bB TT [.tmp 6] (vB r) []
section
variable (s_:State) (i:Int) (p:ah)
abbrev Ue:=(bif (at' s_.closed i.toNat)then(!(at' s_.badLink i.toNat))else false)
abbrev Vn:=(bif (Ue s_ i)then(!(at' s_.badBus (((at' p.links i.toNat).a).toNat)))else false)
abbrev acp:=(bif (Vn s_ i p)then(!(at' s_.badBus (((at' p.links i.toNat).b).toNat)))else false)
abbrev Z0:=(jl [(5,(at' s_.closed i.toNat)),(13,(Ue s_ i)),(22,(Vn s_ i p))])
end
theorem dL (p:ah) (s_:State) (i:Int) {r:Bool} (h:dz p s_ i=some r):Fn Try.prog 78 (OU p s_ i) [] (vB r) []:=by
 refine fN tT Try.func78 rfl rfl fun B=> ?_
 show bJ _ _ _ _ _ _ (EL r) _
 unfold dz at h
 refine sz tT ⟨[(2,(vI i)),(3,(vP 3 0)),(aV s_)],[(3,some (Yf p))]⟩ {fr:=[(0,3),(1,4)] } [4] ?_
 refine aQ (aO h fun a1 h=> ?_)
 refine rg tT ⟨[(2,(vI i)),(aV s_),(7,(k99 p i))],[]⟩ [_] {fr:=[(5,5)] } [5] ⟨a1,trivial⟩ ?_
 refine aQ (aO h fun⟨a1,a2,a3,a4⟩ h=> ?_)
 refine rg tT ⟨[(6,(vB (acp s_ i p)))],[]⟩ (_::(eqs (at' s_.closed i.toNat) 4 ((gP (Z0 s_ i p) [(5,true)]→All [(0:Int)≤i∧i<(s_.badLink.length:Int)])::(eqs (at' s_.closed i.toNat) 3 (eqs (Ue s_ i) 5 ((gP (Z0 s_ i p) [(13,true)]→All [(0:Int)≤(at' p.links i.toNat).a∧(at' p.links i.toNat).a<(s_.badBus.length:Int)])::(eqs (Ue s_ i) 3 (eqs (Vn s_ i p) 5 ((gP (Z0 s_ i p) [(22,true)]→All [(0:Int)≤(at' p.links i.toNat).b∧(at' p.links i.toNat).b<(s_.badBus.length:Int)])::(eqs (Vn s_ i p) 3 [])))))))))) {yb:=[(5,(at' s_.closed i.toNat)),(13,(Ue s_ i)),(22,(Vn s_ i p))] } [] ⟨a1,(ae ⟨(fun hg=> ⟨(a2 (aZ hg)),trivial⟩),(ae (ae ⟨(fun hg=> ⟨(a3 (aZ hg)),trivial⟩),(ae (ae ⟨(fun hg=> ⟨(a4 (aZ hg)),trivial⟩),(ae trivial)⟩))⟩))⟩)⟩ ?_
 refine aR ?_
 obtain rfl:=oi h
 exact rl [(sB (acp s_ i p))]
def yM  :(List Int)→Exit→St→Prop:=
  fun r=>bB TT [.tmp 2] (vO 0 false r.length) [(0,some (cu 3 1 (au .i64) r))]
theorem oz (s_:(List Int)) (u0:Bool) {r:(List Int)} (h:oI s_ u0=some r):Fn Try.prog 112 [(sD (aK (some u0) 1 (au .i64) s_))] [] (vO 0 false r.length) [(0,some (cu 3 1 (au .i64) r))]:=by
 refine fN tT Try.func112 rfl rfl fun B=> ?_
 show bJ _ _ _ _ _ _ (yM r) _
 unfold oI at h
 refine sz tT ⟨[(0,(vD (aK (some u0) 1 (au .i64) s_)))],[]⟩ {} [] ?_
 refine aQ (sz tT ⟨[(0,(vD (aK (some u0) 1 (au .i64) s_))),(4,(vB (!u0)))],[]⟩ {} [] ?_)
 refine bI h (fun hb h=> ?_) (fun hb h=> ?_)
 ·refine ct hb ?_
  refine sz tT ⟨[(2,(vD nS))],[]⟩ {} [] ?_
  refine aI (.trans (bM.Vu (t:=2) (b:=2) (esz0:=0) (el0:=fun _ _=> .nilp) (E:=3) (esz:=1) (el:=aC (au .i64) ([]:List Int)) (by kernel_rfl) (by kernel_rfl)) (.trans (bM.fin (st':=⟨[(2,(vO 0 false 0))],[(0,some (.arr 3 1 0 (aC (au .i64) ([]:List Int))))]⟩) (cs:=[]) ⟨[],[(2,0)]⟩ [2] (by kernel_rfl) trivial) (bM.le (st':=⟨[(2,(vO 0 false (([]:List Int).length)))],[(0,some (cu 3 1 (au .i64) ([]:List Int)))]⟩) ⟨⟨⟨_,rfl,eO.v (eG.one cW)⟩,trivial⟩,⟨rfl,oW,trivial⟩⟩))) ?_
  refine aR ?_
  obtain rfl:=oi h
  exact rl [(.one (.own 0 false (([]:List Int).length)))]
 ·refine cf hb ?_
  refine aP (aQ (aO h fun⟨a1,a2⟩ h=> ?_))
  refine rg tT ⟨[(2,(vO 4 false ((([]:List Int)++s_).length)))],[(4,some (cu 3 1 (au .i64) (([]:List Int)++s_)))]⟩ [([]:List Int).length=0,aG 0 1 (jD 1 []) (aC (au .i64) ([]:List Int)),([]:List Int).length=([]:List Int).length,_,_,(([]:List Int)++s_).length=([]:List Int).length+s_.length,aG (([]:List Int).length+s_.length) 1 (D8 (aC (au .i64) ([]:List Int)) ([]:List Int).length (aC (au .i64) s_)) (aC (au .i64) (([]:List Int)++s_))] {an:=[(0, .arr ([]:List Int).length (aC (au .i64) ([]:List Int))),(2, .arr (([]:List Int)++s_).length (aC (au .i64) (([]:List Int)++s_)))],fr:=[(0,3),(2,4)] } [] ⟨(rfl),((fun i hi=>absurd hi (Nat.not_lt_zero i))),rfl,a1,a2,(List.length_append),(mR _ _ _ _),trivial⟩ ?_
  refine aI (bM.fin (st':=⟨[(2,(vO 0 false ((([]:List Int)++s_).length)))],[(0,some (cu 3 1 (au .i64) (([]:List Int)++s_)))]⟩) (cs:=[]) ⟨[],[(4,0)]⟩ [2] (by kernel_rfl) trivial) ?_
  refine aR ?_
  obtain rfl:=oi h
  exact rl [(.one (.own 0 false ((([]:List Int)++s_).length)))]
theorem vH (s:(List Int)) {r:(List Int)} (h:rU s=some r):Fn Try.prog 112 [(sD (aK none 1 (au .i64) s))] [] (vO 0 false r.length) [(0,some (cu 3 1 (au .i64) r))]:=by
 refine Fn.nn (oz s true h) fun hl=> ?_
 have hs:s=[]:=List.eq_nil_of_length_eq_zero hl
 subst hs
 exact oz [] false (by rw [←h];kernel_rfl)
def J2  :Bool→Exit→St→Prop:=
  fun r=>bB TT [.tmp 2] (vB r) []
theorem Ba (x:Int) {r:Bool} (h:wP x=some r):Fn Try.prog 154 [(sI x)] [] (vB r) []:=by
 refine fN tT Try.func154 rfl rfl fun B=> ?_
 show bJ _ _ _ _ _ _ (J2 r) _
 unfold wP at h
 refine sz tT ⟨[(0,(vI x))],[]⟩ {} [] ?_
 refine sz tT ⟨[(2,(vB (!decide (x=x))))],[]⟩ {} [] ?_
 refine aR ?_
 obtain rfl:=oi h
 exact rl [(sB (!decide (x=x)))]
def Gw  :Int→Exit→St→Prop:=
  fun r=>bB TT [.tmp 4] (vI r) []
theorem FH (x:Int) (y:Int) {r:Int} (h:xh x y=some r):Fn Try.prog 145 [(sI x),(sI y)] [] (vI r) []:=by
 refine fN tT Try.func145 rfl rfl fun B=> ?_
 show bJ _ _ _ _ _ _ (Gw r) _
 unfold xh at h
 refine sz tT ⟨[(0,(vI x)),(1,(vI y))],[]⟩ {} [] ?_
 refine aQ (bE h fun r_ hr_ h=> ?_)
 have q0:=Ba x hr_
 refine rg tT ⟨[(0,(vI x)),(1,(vI y)),(5,(vB r_))],[]⟩ [_] {an:=[(1,cA q0 [])] } [] ⟨q0,trivial⟩ ?_
 refine aQ (bE h fun u0 hr_1 h=> ?_)
 have q0:=Ba y hr_1
 refine rg tT ⟨[(0,(vI x)),(1,(vI y)),(5,(vB r_)),(6,(vB u0))],[]⟩ [_] {an:=[(1,cA q0 [])] } [] ⟨q0,trivial⟩ ?_
 refine aQ (sz tT ⟨[(0,(vI x)),(1,(vI y)),(6,(vB u0)),(11,(vB r_))],[]⟩ {} [] ?_)
 refine bI h (fun hb4 h=> ?_) (fun hb4 h=> ?_)
 ·refine ct hb4 ?_
  refine aQ (sz tT ⟨[(12,(vB u0))],[]⟩ {} [] ?_)
  refine bI h (fun hb h=> ?_) (fun hb h=> ?_)
  ·refine ct hb ?_
   refine sz tT ⟨[(4,(vI 0))],[]⟩ {} [] ?_
   refine aR ?_
   obtain rfl:=oi h
   exact rl [(sI 0)]
  ·refine cf hb ?_
   refine aP (sz tT ⟨[(4,(vI (-1)))],[]⟩ {} [] ?_)
   refine aR ?_
   obtain rfl:=oi h
   exact rl [(sI (-1))]
 ·refine cf hb4 ?_
  refine aP (aQ (sz tT ⟨[(0,(vI x)),(1,(vI y)),(13,(vB u0))],[]⟩ {} [] ?_))
  refine bI h (fun hb3 h=> ?_) (fun hb3 h=> ?_)
  ·refine ct hb3 ?_
   refine sz tT ⟨[(4,(vI 1))],[]⟩ {} [] ?_
   refine aR ?_
   obtain rfl:=oi h
   exact rl [(sI 1)]
  ·refine cf hb3 ?_
   refine aP (aQ (sz tT ⟨[(0,(vI x)),(1,(vI y)),(16,(vB (decide (x<y))))],[]⟩ {} [] ?_))
   refine bI h (fun hb2 h=> ?_) (fun hb2 h=> ?_)
   ·refine ct hb2 ?_
    refine sz tT ⟨[(4,(vI (-1)))],[]⟩ {} [] ?_
    refine aR ?_
    obtain rfl:=oi h
    exact rl [(sI (-1))]
   ·refine cf hb2 ?_
    refine aP (aQ (sz tT ⟨[(19,(vB (decide (y<x))))],[]⟩ {} [] ?_))
    refine bI h (fun hb1 h=> ?_) (fun hb1 h=> ?_)
    ·refine ct hb1 ?_
     refine sz tT ⟨[(4,(vI 1))],[]⟩ {} [] ?_
     refine aR ?_
     obtain rfl:=oi h
     exact rl [(sI 1)]
    ·refine cf hb1 ?_
     refine aP (sz tT ⟨[(4,(vI 0))],[]⟩ {} [] ?_)
     refine aR ?_
     obtain rfl:=oi h
     exact rl [(sI 0)]
def og  :Int→Exit→St→Prop:=
  fun r=>bB TT [.tmp 4] (vI r) []
section
variable (s1:(List Int)) (s2:(List Int))
abbrev yN:DV:=(aK none 1 (au .i64) s1)
abbrev jX:Nat × TV:=(0,(vD (yN s1)))
abbrev Bv:Nat × TV:=(1,(vD (yN s2)))
abbrev Lg:Nat × TV:=(9,(vD (yN s1)))
abbrev Lj:Nat × TV:=(10,(vI (s1.length:Int)))
end
def sK (s1:(List Int)) (s2:(List Int)):Int→St:=
  fun u0=> ⟨[(jX s1),(Bv s2),(Lg s1),(Lj s1),(11,(vI u0))],[]⟩
section
variable (s1:(List Int)) (s2:(List Int))
abbrev WU:St:=⟨[(jX s1),(Bv s2)],[]⟩
end
def rR (s1:(List Int)) (s2:(List Int)):Unit→St:=
  fun _=>(WU s1 s2)
def BJ (s1:(List Int)) (s2:(List Int)):(aM Int (Ex Unit Int))→Exit→St→Prop:=
  LQ 0 [] (sK s1 s2) (rR s1 s2) og
section
variable (u0:Int) (s1:(List Int))
abbrev Uu:TV:=(vB (decide (u0<(s1.length:Int))))
end
theorem BV (s1:(List Int)) (s2:(List Int)) {r:Int} (h:qH s1 s2=some r):Fn Try.prog 111 [(sD (yN s1)),(sD (yN s2))] [] (vI r) []:=by
 refine fN tT Try.func111 rfl rfl fun B=> ?_
 show bJ _ _ _ _ _ _ (og r) _
 unfold qH at h
 refine sz tT (WU s1 s2) {} [] ?_
 refine aQ (sz tT ⟨[(jX s1),(Bv s2),(Lg s1),(Lj s1),(11,(vI 0))],[]⟩ {} [] ?_)
 refine bE h fun y hy h=> ?_
 refine aL [] (sK s1 s2) (rR s1 s2) og hy (fun s f h=> ?_) ?_
 ·clear hy
  show bJ _ _ _ _ _ _ ((BJ s1 s2) f) _
  unfold sG at h
  obtain⟨u0,rfl⟩: ∃q,q=s:=⟨_,rfl⟩
  refine sz tT ⟨[(jX s1),(Bv s2),(Lg s1),(Lj s1),(11,(vI u0)),(12,(Uu u0 s1))],[]⟩ {} [] ?_
  refine aQ ?_
  refine bI h (fun hb2 h=> ?_) (fun hb2 h=> ?_)
  ·refine ct hb2 ?_
   refine aP (aQ (aB (aQ (aO h fun a1 h=> ?_))))
   refine rg tT ⟨[(jX s1),(Bv s2),(5,(vI u0)),(6,(vI (at' s1 u0.toNat))),(Lg s1),(Lj s1),(11,(vI u0))],[]⟩ [_] {} [] ⟨a1,trivial⟩ ?_
   refine aQ (sz tT ⟨[(jX s1),(Bv s2),(5,(vI u0)),(6,(vI (at' s1 u0.toNat))),(Lg s1),(Lj s1),(11,(vI u0)),(19,(vB (decide ((s2.length:Int)≤u0))))],[]⟩ {} [] ?_)
   refine bI h (fun hb1 h=> ?_) (fun hb1 h=> ?_)
   ·refine ct hb1 ?_
    refine sz tT ⟨[(4,(vI 1))],[]⟩ {} [] ?_
    refine aR ?_
    obtain rfl:=oi h
    exact lR dY (dX 0) dW (bB.mk (.inr rfl) (p:=[]) (l:=[(sI 1)]) (by kernel_rfl) trivial (eO.refl _) trivial)
   ·refine cf hb1 ?_
    refine aP (aQ (aO h fun a1 h=> ?_))
    refine rg tT ⟨[(jX s1),(Bv s2),(6,(vI (at' s1 u0.toNat))),(7,(vI (at' s2 u0.toNat))),(Lg s1),(Lj s1),(11,(vI u0))],[]⟩ [_] {} [] ⟨a1,trivial⟩ ?_
    refine aQ (bE h fun r_ hr_ h=> ?_)
    have q0:=FH (at' s1 u0.toNat) (at' s2 u0.toNat) hr_
    refine rg tT ⟨[(jX s1),(Bv s2),(8,(vI r_)),(Lg s1),(Lj s1),(11,(vI u0))],[]⟩ [_] {an:=[(2,cA q0 [])] } [] ⟨q0,trivial⟩ ?_
    refine sz tT ⟨[(jX s1),(Bv s2),(8,(vI r_)),(Lg s1),(Lj s1),(11,(vI u0)),(28,(vB (!decide (r_=0))))],[]⟩ {} [] ?_
    refine bI h (fun hb h=> ?_) (fun hb h=> ?_)
    ·refine ct hb ?_
     refine sz tT ⟨[(4,(vI r_))],[]⟩ {} [] ?_
     refine aR ?_
     obtain rfl:=oi h
     exact lR dY (dX 0) dW (bB.mk (.inr rfl) (p:=[]) (l:=[(sI r_)]) (by kernel_rfl) trivial (eO.refl _) trivial)
    ·refine cf hb ?_
     refine aP (rz tT ⟨[(jX s1),(Bv s2),(Lg s1),(Lj s1),(11,(k3 u0))],[]⟩ {} [] ?_)
     obtain rfl:=oi h
     exact lN
  ·refine cf hb2 ?_
   refine aI (fz (WU s1 s2) []) ?_
   refine aX ?_
   obtain rfl:=oi h
   exact lB
 ·clear hy
  cases y with
  |brk z=>
   unfold gm
   refine⟨_, .refl, ?_⟩
   refine aQ (sz tT ⟨[(35,(vB (decide ((s1.length:Int)<(s2.length:Int)))))],[]⟩ {} [] ?_)
   refine bI h (fun hb3 h=> ?_) (fun hb3 h=> ?_)
   ·refine ct hb3 ?_
    refine sz tT ⟨[(4,(vI (-1)))],[]⟩ {} [] ?_
    refine aR ?_
    obtain rfl:=oi h
    exact rl [(sI (-1))]
   ·refine cf hb3 ?_
    refine aP (sz tT ⟨[(4,(vI 0))],[]⟩ {} [] ?_)
    refine aR ?_
    obtain rfl:=oi h
    exact rl [(sI 0)]
  |ret v=>
   obtain rfl:=oi h
   unfold gm
   intro e st hn ha hR
   cases e with
   |normal=>exact absurd rfl hn
   |exit id=>exact hR
   |goto l=>exact hR
   |ret=>exact hR
   |panic c=>exact hR
   |outgrown=>exact hR
def C9  :Int→Exit→St→Prop:=
  fun r=>bB TT [.tmp 2] (vI r) []
section
variable (u0:(List Int))
abbrev Rl:Nat × TV:=(6,(vD (yN u0)))
abbrev oC:Nat × TV:=(7,(vI (u0.length:Int)))
end
def F9 (u0:(List Int)):Int→St:=
  fun t8=> ⟨[(3,(vI 0)),(Rl u0),(oC u0),(8,(vI t8))],[]⟩
def Gd  :Unit→St:=
  fun _=> ⟨[(3,(vI 0))],[]⟩
def NJ (u0:(List Int)):(aM Int (Ex Unit Int))→Exit→St→Prop:=
  LQ 0 [] (F9 u0) Gd C9
section
variable (t8:Int) (u0:(List Int))
abbrev UH:Nat × TV:=(9,(Uu t8 u0))
end
theorem NZ (u0:(List Int)) {r:Int} (h:HV u0=some r):Fn Try.prog 110 [(sD (yN u0))] [] (vI r) []:=by
 refine fN tT Try.func110 rfl rfl fun B=> ?_
 show bJ _ _ _ _ _ _ (C9 r) _
 unfold HV at h
 refine sz tT ⟨[(jX u0)],[]⟩ {} [] ?_
 refine sz tT ⟨[(jX u0),(3,(vI 0))],[]⟩ {} [] ?_
 refine aQ (sz tT ⟨[(3,(vI 0)),(Rl u0),(oC u0),(8,(vI 0))],[]⟩ {} [] ?_)
 refine bE h fun y hy h=> ?_
 refine aL [] (F9 u0) Gd C9 hy (fun s f h=> ?_) ?_
 ·clear hy
  show bJ _ _ _ _ _ _ ((NJ u0) f) _
  unfold Ga at h
  obtain⟨t8,rfl⟩: ∃q,q=s:=⟨_,rfl⟩
  refine sz tT ⟨[(3,(vI 0)),(Rl u0),(oC u0),(8,(vI t8)),(UH t8 u0)],[]⟩ {} [] ?_
  refine aQ ?_
  refine bI h (fun hb1 h=> ?_) (fun hb1 h=> ?_)
  ·refine ct hb1 ?_
   refine aP (aQ (aB (aQ (aO h fun a1 h=> ?_))))
   refine rg tT ⟨[(3,(vI 0)),(5,(vI (at' u0 t8.toNat))),(Rl u0),(oC u0),(8,(vI t8))],[]⟩ [_] {} [] ⟨a1,trivial⟩ ?_
   refine sz tT ⟨[(3,(vI 0)),(5,(vI (at' u0 t8.toNat))),(Rl u0),(oC u0),(8,(vI t8)),(14,(vB (!decide ((at' u0 t8.toNat)=0))))],[]⟩ {} [] ?_
   refine bI h (fun hb h=> ?_) (fun hb h=> ?_)
   ·refine ct hb ?_
    refine sz tT ⟨[(2,(vI (at' u0 t8.toNat)))],[]⟩ {} [] ?_
    refine aR ?_
    obtain rfl:=oi h
    exact lR dY (dX 0) dW (bB.mk (.inr rfl) (p:=[]) (l:=[(sI (at' u0 t8.toNat))]) (by kernel_rfl) trivial (eO.refl _) trivial)
   ·refine cf hb ?_
    refine aP (rz tT ⟨[(3,(vI 0)),(Rl u0),(oC u0),(Yv t8)],[]⟩ {} [] ?_)
    obtain rfl:=oi h
    exact lN
  ·refine cf hb1 ?_
   refine aI (fz ⟨[(3,(vI 0))],[]⟩ []) ?_
   refine aX ?_
   obtain rfl:=oi h
   exact lB
 ·clear hy
  cases y with
  |brk z=>
   unfold gm
   refine⟨_, .refl, ?_⟩
   refine sz tT ⟨[(2,(vI 0))],[]⟩ {} [] ?_
   refine aR ?_
   obtain rfl:=oi h
   exact rl [(sI 0)]
  |ret v=>
   obtain rfl:=oi h
   unfold gm
   intro e st hn ha hR
   cases e with
   |normal=>exact absurd rfl hn
   |exit id=>exact hR
   |goto l=>exact hR
   |ret=>exact hR
   |panic c=>exact hR
   |outgrown=>exact hR
def GR  :Bool→Exit→St→Prop:=
  fun r=>bB TT [.tmp 4] (vB r) []
section
variable (a:Way) (b:Way) (r_:Int)
abbrev JY:=(IntKind.wrap .i64 (a.iH - b.iH))
abbrev JV:=(IntKind.wrap .i64 ((a.links.length:Int) - (b.links.length:Int)))
abbrev afm:=(aC (au .i64) [(JY a b),(JV a b),r_])
abbrev acD:List (Nat × Option Ob):=[(6,some (cu 3 1 (au .i64) [(JY a b),(JV a b),r_]))]
end
theorem FD (a:Way) (b:Way) {r:Bool} (h:xA a b=some r):Fn Try.prog 109 [(.agg [(cB a.there),(cI a.iH),(.d (aK none 1 (au .i64) a.links))]),(.agg [(cB b.there),(cI b.iH),(.d (aK none 1 (au .i64) b.links))])] [] (vB r) []:=by
 refine fN tT Try.func109 rfl rfl fun B=> ?_
 show bJ _ _ _ _ _ _ (GR r) _
 unfold xA at h
 refine sz tT ⟨[(2,(vD (lV [(.bool a.there),(.int .i64 a.iH),(aK none 1 (au .i64) a.links)] 0))),(3,(vD (lV [(.bool b.there),(.int .i64 b.iH),(aK none 1 (au .i64) b.links)] 0)))],[]⟩ {fr:=[(0,4),(1,5)] } [4,5] ?_
 refine aQ ?_
 refine bI h (fun hb h=> ?_) (fun hb h=> ?_)
 ·skip
  refine di tT mX ⟨[(4,(vB (bif (!b.there)then true else false)))],[]⟩ [(!b.there)=true, ¬ gP (jl [(3,true)]) [(3,false)],(!b.there)=true, ¬ gP (jl [(3,true)]) [(3,false)],(!b.there)=true, ¬ gP (jl [(3,true)]) [(3,false)],(!b.there)=true, ¬ gP (jl [(3,true)]) [(3,false)],(!b.there)=true, ¬ gP (jl [(3,true)]) [(3,false)],(!b.there)=true, ¬ gP (jl [(3,true)]) [(3,false)],(!b.there)=true, ¬ gP (jl [(3,true)]) [(3,false)],(!b.there)=true, ¬ gP (jl [(3,true)]) [(3,false)],(!b.there)=true, ¬ gP (jl [(3,true)]) [(3,false)],(!b.there)=true, ¬ gP (jl [(3,true)]) [(3,false)],(!b.there)=true, ¬ gP (jl [(3,true)]) [(3,false)],(!b.there)=true, ¬ gP (jl [(3,true)]) [(3,false)],(!b.there)=true, ¬ gP (jl [(3,true)]) [(3,false)],(!b.there)=true, ¬ gP (jl [(3,true)]) [(3,false)],(!b.there)=true, ¬ gP (jl [(3,true)]) [(3,false)],(!b.there)=true, ¬ gP (jl [(3,true)]) [(3,false)],(!b.there)=true, ¬ gP (jl [(3,true)]) [(3,false)],(!b.there)=true, ¬ gP (jl [(3,true)]) [(3,false)],(!b.there)=true, ¬ gP (jl [(3,true)]) [(3,false)],(!b.there)=true, ¬ gP (jl [(3,true)]) [(3,false)],(!b.there)=true] {yb:=[(3,true)],an:=[(4, .skip),(5, .skip),(6, .skip),(7, .skip),(8, .skip),(9, .skip),(10, .skip),(11, .skip),(12, .skip),(13, .skip),(14, .skip),(15, .skip),(16, .skip),(17, .skip),(18, .skip),(19, .skip),(20, .skip),(21, .skip),(22, .skip),(23, .skip)] } [] ⟨(hb),((fun h=>Bool.noConfusion (show true=false from h.1))),(hb),((fun h=>Bool.noConfusion (show true=false from h.1))),(hb),((fun h=>Bool.noConfusion (show true=false from h.1))),(hb),((fun h=>Bool.noConfusion (show true=false from h.1))),(hb),((fun h=>Bool.noConfusion (show true=false from h.1))),(hb),((fun h=>Bool.noConfusion (show true=false from h.1))),(hb),((fun h=>Bool.noConfusion (show true=false from h.1))),(hb),((fun h=>Bool.noConfusion (show true=false from h.1))),(hb),((fun h=>Bool.noConfusion (show true=false from h.1))),(hb),((fun h=>Bool.noConfusion (show true=false from h.1))),(hb),((fun h=>Bool.noConfusion (show true=false from h.1))),(hb),((fun h=>Bool.noConfusion (show true=false from h.1))),(hb),((fun h=>Bool.noConfusion (show true=false from h.1))),(hb),((fun h=>Bool.noConfusion (show true=false from h.1))),(hb),((fun h=>Bool.noConfusion (show true=false from h.1))),(hb),((fun h=>Bool.noConfusion (show true=false from h.1))),(hb),((fun h=>Bool.noConfusion (show true=false from h.1))),(hb),((fun h=>Bool.noConfusion (show true=false from h.1))),(hb),((fun h=>Bool.noConfusion (show true=false from h.1))),(hb),((fun h=>Bool.noConfusion (show true=false from h.1))),(hb),trivial⟩ (bM.le (st':=⟨[(4,(vB true))],[]⟩) ⟨⟨⟨_,rfl,eO.v (eG.one (dO.of (congrArg (fun b=>CV.d (.bool b)) (BQ hb))))⟩,trivial⟩,trivial⟩) ?_
  refine aR ?_
  obtain rfl:=oi h
  exact rl [(sB true)]
 ·skip
  refine bE h fun r_ hr_ h=> ?_
  refine bE h fun u0 hr_1 h=> ?_
  refine di tT mX ⟨[(4,(vB (bif (!b.there)then true else(decide (u0<0)))))],[]⟩ [(!b.there)=false,(!b.there)=false,(!b.there)=false,(!b.there)=false,(!b.there)=false,(!b.there)=false,(!b.there)=false,(!b.there)=false,(!b.there)=false,(!b.there)=false,(!b.there)=false,(!b.there)=false,(!b.there)=false,(!b.there)=false,(!b.there)=false,(!b.there)=false,(!b.there)=false,gP (jl [(3,false)]) [(3,false)]→All [Fn Try.prog 111 [(sD (aK none 1 (au .i64) a.links)),(sD (aK none 1 (au .i64) b.links))] [] (vI r_) []],(!b.there)=false,gP (jl [(3,false)]) [(3,false)]→All [[(JY a b),(JV a b),r_].length=3,aG 3 1 (jD 1 [(.int .i64 (JY a b)),(.int .i64 (JV a b)),(.int .i64 r_)]) (afm a b r_)],gP (jl [(3,false)]) [(3,false)],(!b.there)=false,gP (jl [(3,false)]) [(3,false)]→All [Fn Try.prog 110 [(.one (.own 6 true ([(JY a b),(JV a b),r_].length)))] (acD a b r_) (vI u0) (acD a b r_)],(!b.there)=false,(!b.there)=false] {yb:=[(3,false)],an:=[(20, .call [] (vI r_) []),(21, .arr [(JY a b),(JV a b),r_].length (afm a b r_)),(22, .callR [6] (vI u0))],fr:=[(21,6)] } [] ⟨(hb),(hb),(hb),(hb),(hb),(hb),(hb),(hb),(hb),(hb),(hb),(hb),(hb),(hb),(hb),(hb),(hb),(fun hg=> ⟨(BV a.links b.links hr_),trivial⟩),(hb),(fun hg=> ⟨(rfl),((by intro i hi j hj;match i,j,hi,hj with|0,0,_,_=>rfl|1,0,_,_=>rfl|2,0,_,_=>rfl)),trivial⟩),(⟨rfl,trivial⟩),(hb),(fun hg=> ⟨(Fn.uh (frz:=[6]) (p:=[[(JY a b),(JV a b),r_].length=[(JY a b),(JV a b),r_].length]) (Fn.le (args':=[(sD (aK (some true) 1 (au .i64) [(JY a b),(JV a b),r_]))]) (NZ [(JY a b),(JV a b),r_] hr_1) ⟨eG.one (dO.d gV.nV),trivial⟩) (by kernel_rfl) ⟨rfl,trivial⟩ rfl),trivial⟩),(hb),(hb),trivial⟩ (bM.le (st':=⟨[(4,(vB (decide (u0<0))))],[]⟩) ⟨⟨⟨_,rfl,eO.v (eG.one (dO.of (congrArg (fun b=>CV.d (.bool b)) (BP hb))))⟩,trivial⟩,trivial⟩) ?_
  refine aR ?_
  obtain rfl:=oi h
  exact rl [(sB (decide (u0<0)))]
def qL  :(List Way)→Exit→St→Prop:=
  fun r=>bB TT [.tmp 6] (vO 0 true r.length) [(0,some (cu 141 3 Way.cell r))]
section
variable (u0:(List Way)) (p:ah) (s_:State) (u1:Bool)
abbrev pU:Nat × TV:=(7,(vD (.fn 109 0 (nN []))))
abbrev vN:Nat × TV:=(8,(vO 405 true u0.length))
abbrev JN:Nat × Option Ob:=(403,some (Yf p))
abbrev AZ:List (Nat × Option Ob):=[(JN p),(405,some (cu 141 3 Way.cell u0))]
abbrev YU:St:=⟨[(3,(vP 403 0)),(aV s_),pU,(vN u0),(9,(vB u1))],(AZ u0 p)⟩
end
def vV (p:ah) (s_:State):((List Way) × Bool)→St:=
  fun zz=>match zz with|(u0,u1)=>(YU u0 p s_ u1)
def vS  :(List Way)→St:=
  fun u0=> ⟨[(vN u0)],[(405,some (cu 141 3 Way.cell u0))]⟩
def pI (p:ah) (s_:State):(aM ((List Way) × Bool) (Ex (List Way) (List Way)))→Exit→St→Prop:=
  LQ 0 [] (vV p s_) vS qL
section
variable (p:ah) (s_:State) (u0:(List Way)) (u1:Bool) (u2:Int)
abbrev xO:Nat × TV:=(26,(vD (aK none 6 Link.cell p.links)))
abbrev yx:Nat × TV:=(27,(vI (p.links.length:Int)))
abbrev ZG:St:=⟨[(3,(vP 403 0)),(aV s_),pU,(vN u0),(9,(vB u1)),(xO p),(yx p),(28,(vI u2))],(AZ u0 p)⟩
end
def wM (p:ah) (s_:State):((List Way) × Bool × Int)→St:=
  fun zz=>match zz with|(u0,u1,u2)=>(ZG p s_ u0 u1 u2)
def vW (p:ah) (s_:State):((List Way) × Bool)→St:=
  fun zz=>match zz with|(u0,u1)=>(YU u0 p s_ u1)
def oV (p:ah) (s_:State):(aM ((List Way) × Bool × Int) (Ex ((List Way) × Bool) (aM ((List Way) × Bool) (Ex (List Way) (List Way)))))→Exit→St→Prop:=
  LQ 2 [1] (wM p s_) (vW p s_) (pI p s_)
section
variable (p:ah) (u0:Int)
abbrev YS:List CV:=[(cI ((at' p.links u0.toNat).a)),(cI ((at' p.links u0.toNat).b)),(cI ((at' p.links u0.toNat).b)),(cI ((at' p.links u0.toNat).a))]
abbrev Er:Nat × TV:=(48,(.v (.agg (YS p u0))))
end
def vU (p:ah) (s_:State) (u0:Int):((List Way) × Bool × Int)→St:=
  fun zz=>match zz with|(u1,u2,u3)=> ⟨[(3,(vP 403 0)),(aV s_),pU,(vN u1),(9,(vB u2)),(10,(vI u0)),(Nf p u0),(xO p),(yx p),(28,(vI u0)),(Er p u0),(49,(vI u3))],(AZ u1 p)⟩
def wm (p:ah) (s_:State) (u1:Int):((List Way) × Bool)→St:=
  fun zz=>match zz with|(u0,u2)=>(ZG p s_ u0 u2 u1)
def EO (p:ah) (s_:State) (u0:Int):(aM ((List Way) × Bool × Int) (Ex ((List Way) × Bool) (aM ((List Way) × Bool × Int) (Ex ((List Way) × Bool) (aM ((List Way) × Bool) (Ex (List Way) (List Way)))))))→Exit→St→Prop:=
  LQ 4 [3] (vU p s_ u0) (wm p s_ u0) (oV p s_)
section
variable (p:ah) (u3:Int) (s_:State) (u5:(List Way)) (u8:Bool) (u0:Int) (u1:Int) (u2:(List Way)) (u6:Bool) (u4:(List Int))
abbrev aga:List (Nat × Option Ob):=[(JN p)]
abbrev Jt:=(List.replicate p.buses.toNat ((⟨false,0,([]:List Int)⟩:Way):Way))
abbrev afQ:Nat × TV:=(8,(vO 405 true ((Jt p).length)))
abbrev acr:List (Nat × TV):=[(2,(vI u3)),(3,(vP 403 0)),(aV s_),pU,(afQ p)]
abbrev ZL:=((Jt p).set u3.toNat (⟨true,(at' (Jt p) u3.toNat).iH,(at' (Jt p) u3.toNat).links⟩:Way))
abbrev ZQ:=(aC Way.cell (ZL p u3))
abbrev adN:Nat × TV:=(8,(vO 405 true ((ZL p u3).length)))
abbrev acC:List (Nat × Option Ob):=[(JN p),(405,some (cu 141 3 Way.cell (ZL p u3)))]
abbrev agi:St:=⟨[(3,(vP 403 0)),(aV s_),pU,(vN u5),(9,(vB u8)),(xO p),(yx p),(28,(k3 u0))],(AZ u5 p)⟩
abbrev Za:=(⟨(at' p.links u0.toNat).a,(at' p.links u0.toNat).b⟩:af)
abbrev Zr:=(⟨(at' p.links u0.toNat).b,(at' p.links u0.toNat).a⟩:af)
abbrev ab7:=(at' [(Za p u0),(Zr p u0)] u1.toNat)
abbrev ZN:=((ab7 p u0 u1).e0)
abbrev XL:=((ab7 p u0 u1).e1)
abbrev aft:List DV:=[(.int .i64 (ZN p u0 u1)),(.int .i64 (XL p u0 u1))]
abbrev aaK:=(at' u2 ((ZN p u0 u1).toNat))
abbrev afY:=((aaK p u0 u1 u2).there)
abbrev adR:=((aaK p u0 u1 u2).iH)
abbrev aeU:=((aaK p u0 u1 u2).links)
abbrev agE:Nat × TV:=(14,(vD (lV [(.bool (afY p u0 u1 u2)),(.int .i64 (adR p u0 u1 u2)),(aK none 1 (au .i64) (aeU p u0 u1 u2))] 0)))
abbrev UB:Nat × TV:=(15,(vI (XL p u0 u1)))
abbrev aci:St:=⟨[(3,(vP 403 0)),(aV s_),pU,(vN u2),(9,(vB u6)),(10,(vI u0)),(Nf p u0),(xO p),(yx p),(28,(vI u0)),(Er p u0),(49,(k3 u1))],(AZ u2 p)⟩
abbrev aaB:=(IntKind.wrap .i64 ((adR p u0 u1 u2)+((at' p.links u0.toNat).iH)))
abbrev ady:List DV:=[(.bool true),(.int .i64 (aaB p u0 u1 u2)),(aK none 1 (au .i64) (u4++[u0]))]
abbrev agH:Nat × TV:=(16,(vD (lV (ady p u0 u1 u2 u4) 0)))
abbrev ae2:=(⟨true,(aaB p u0 u1 u2),(u4++[u0])⟩:Way)
abbrev Zy:=((XL p u0 u1).toNat)
abbrev YO:=(u2.set (Zy p u0 u1) (ae2 p u0 u1 u2 u4))
abbrev abm:=(aC Way.cell (YO p u0 u1 u2 u4))
abbrev Y8:Nat × TV:=(8,(vO 405 true ((YO p u0 u1 u2 u4).length)))
abbrev abo:List (Nat × Option Ob):=[(JN p),(405,some (cu 141 3 Way.cell (YO p u0 u1 u2 u4)))]
end
theorem Dx (p:ah) (s_:State) (u3:Int) {r:(List Way)} (h:Bc p s_ u3=some r):Fn Try.prog 66 (OU p s_ u3) [] (vO 0 true r.length) [(0,some (cu 141 3 Way.cell r))]:=by
 refine fN tT Try.func66 rfl rfl fun B=> ?_
 show bJ _ _ _ _ _ _ (qL r) _
 unfold Bc at h
 refine sz tT ⟨[(2,(vI u3)),(3,(vP 403 0)),(aV s_)],(aga p)⟩ {fr:=[(0,403),(1,404)] } [404] ?_
 refine sz tT ⟨[(2,(vI u3)),(3,(vP 403 0)),(aV s_),pU],(aga p)⟩ {} [] ?_
 refine aQ (aO h fun⟨a1,a2,a3⟩ h=> ?_)
 refine ri tT ⟨(acr p u3 s_),[(JN p),(405,some (.arr 141 3 (Jt p).length (fun _ j=>[(.bool false),(.int .i64 0),nS].getD j .nilp)))]⟩ [_,(p.buses:Int)=p.buses,_,_,(Jt p).length=p.buses.toNat,aG p.buses.toNat 3 (fun _ j=>[(.bool false),(.int .i64 0),nS].getD j .nilp) (fun _ j=>[(.bool false),(.int .i64 0),nS].getD j .nilp)] {an:=[(2, .arr (Jt p).length (fun _ j=>[(.bool false),(.int .i64 0),nS].getD j .nilp))],fr:=[(2,405)] } [] ⟨a1,rfl,a2,a3,(List.length_replicate),(iq _ _ _),trivial⟩ (bM.le (st':=⟨(acr p u3 s_),[(JN p),(405,some (cu 141 3 Way.cell (Jt p)))]⟩) ⟨⟨tR,tR,tR,tR,tR,trivial⟩,⟨rfl, .refl _,⟨rfl,Qq (acR _ _ _ _ _ (fun j hj=>match j,hj with|0,_=> .refl _|1,_=> .refl _|2,_=>gV.nil')),trivial⟩⟩⟩) ?_
 refine aQ (aO h fun a1 h=> ?_)
 refine ri tT ⟨[(3,(vP 403 0)),(aV s_),pU,(afQ p)],[(JN p),(405,some (.arr 141 3 (Jt p).length (ZQ p u3)))]⟩ [_,_,aG (Jt p).length 3 (jZ (aC Way.cell (Jt p)) u3.toNat 0 [(.bool true)]) (ZQ p u3)] {an:=[(4, .arr 0 (ZQ p u3))] } [] ⟨a1,(tL a1),(bL _ _ _ _ _ _ _ _ rfl (fun j hj=>(match j,hj with|0,_=>rfl|1,_=>rfl|2,_=>rfl))),trivial⟩ (bM.le (st':=⟨[(3,(vP 403 0)),(aV s_),pU,(adN p u3)],(acC p u3)⟩) ⟨⟨tR,tR,tR,⟨_,rfl,eO.v (eG.one cW)⟩,trivial⟩,⟨rfl, .refl _,⟨rfl,oW,trivial⟩⟩⟩) ?_
 refine aQ (sz tT ⟨[(3,(vP 403 0)),(aV s_),pU,(adN p u3),(9,(vB true))],(acC p u3)⟩ {} [] ?_)
 refine bE h fun y2 hy h=> ?_
 refine aL [] (vV p s_) vS qL hy (fun s f h=> ?_) ?_
 ·clear hy
  show bJ _ _ _ _ _ _ ((pI p s_) f) _
  unfold AB at h
  obtain⟨u7,v1⟩:=s
  refine aQ (sz tT ⟨[(3,(vP 403 0)),(aV s_),pU,(vN u7),(24,(vB v1))],(AZ u7 p)⟩ {} [] ?_)
  refine bI h (fun hb5 h=> ?_) (fun hb5 h=> ?_)
  ·refine ct hb5 ?_
   refine aP (aB (sz tT ⟨[(3,(vP 403 0)),(aV s_),pU,(vN u7),(9,(vB false))],(AZ u7 p)⟩ {} [] ?_))
   refine sz tT ⟨[(3,(vP 403 0)),(aV s_),pU,(vN u7),(9,(vB false)),(xO p),(yx p),(28,(vI 0))],(AZ u7 p)⟩ {} [] ?_
   refine bE h fun y1 hy h=> ?_
   refine aL [1] (wM p s_) (vW p s_) (pI p s_) hy (fun s f h=> ?_) ?_
   ·clear hy
    show bJ _ _ _ _ _ _ ((oV p s_) f) _
    unfold Ar at h
    obtain⟨u5,u8,u0⟩:=s
    refine sz tT ⟨[(3,(vP 403 0)),(aV s_),pU,(vN u5),(9,(vB u8)),(xO p),(yx p),(28,(vI u0)),(29,(vB (decide (u0<(p.links.length:Int)))))],(AZ u5 p)⟩ {} [] ?_
    refine aQ ?_
    refine bI h (fun hb4 h=> ?_) (fun hb4 h=> ?_)
    ·refine ct hb4 ?_
     refine aP (aQ (aB (aQ (aO h fun a1 h=> ?_))))
     refine rg tT ⟨[(3,(vP 403 0)),(aV s_),pU,(vN u5),(9,(vB u8)),(10,(vI u0)),(Nf p u0),(xO p),(yx p),(28,(vI u0))],(AZ u5 p)⟩ [_] {fr:=[(3,781)] } [781] ⟨a1,trivial⟩ ?_
     refine aQ (aQ (bE h fun r_ hr_ h=> ?_))
     have q0:=dL p s_ u0 hr_
     refine rg tT ⟨[(3,(vP 403 0)),(aV s_),pU,(vN u5),(9,(vB u8)),(10,(vI u0)),(Nf p u0),(xO p),(yx p),(28,(vI u0)),(37,(vB (!r_)))],(AZ u5 p)⟩ [_] {an:=[(3,cA q0 [])] } [] ⟨q0,trivial⟩ ?_
     refine bI h (fun hb3 h=> ?_) (fun hb3 h=> ?_)
     ·refine ct hb3 ?_
      refine aX (rz tT (agi p s_ u5 u8 u0) {} [] ?_)
      obtain rfl:=oi h
      exact lN
     ·refine cf hb3 ?_
      refine aP (sz tT ⟨[(3,(vP 403 0)),(aV s_),pU,(vN u5),(9,(vB u8)),(10,(vI u0)),(Nf p u0),(xO p),(yx p),(28,(vI u0)),(Er p u0),(49,(vI 0))],(AZ u5 p)⟩ {} [] ?_)
      refine bE h fun y hy h=> ?_
      refine aL [3] (vU p s_ u0) (wm p s_ u0) (oV p s_) hy (fun s f h=> ?_) ?_
      ·clear hy
       show bJ _ _ _ _ _ _ ((EO p s_ u0) f) _
       unfold Ai at h
       obtain⟨u2,u6,u1⟩:=s
       refine sz tT ⟨[(3,(vP 403 0)),(aV s_),pU,(vN u2),(9,(vB u6)),(10,(vI u0)),(Nf p u0),(xO p),(yx p),(28,(vI u0)),(Er p u0),(49,(vI u1)),(50,(vB (decide (u1<2))))],(AZ u2 p)⟩ {} [] ?_
       refine aQ ?_
       refine bI h (fun hb2 h=> ?_) (fun hb2 h=> ?_)
       ·refine ct hb2 ?_
        refine aP (aQ (aB (aQ (aO h fun a1 h=> ?_))))
        refine rg tT ⟨[(3,(vP 403 0)),(aV s_),pU,(vN u2),(9,(vB u6)),(10,(vI u0)),(Nf p u0),(13,(vP 800 0)),(xO p),(yx p),(28,(vI u0)),(Er p u0),(49,(vI u1))],[(JN p),(405,some (cu 141 3 Way.cell u2)),(800,some (.cells 164 [(cI (ZN p u0 u1)),(cI (XL p u0 u1))]))]⟩ [_,u1.toNat*2+2≤(YS p u0).length,((YS p u0).drop (u1.toNat*2)).take 2=(aft p u0 u1).map .d] {an:=[(0, .vals (aft p u0 u1))],fr:=[(1,800)] } [] ⟨a1,(Uo (n:=2) (sz:=2) (Nat.le_refl _) a1),(Ub (n:=2) (sz:=2) (g:=fun q=>[(cI ((at' [(Za p u0),(Zr p u0)] q).e0)),(cI ((at' [(Za p u0),(Zr p u0)] q).e1))]) (by intro q hq;match q,hq with|0,_=>rfl|1,_=>rfl) a1),trivial⟩ ?_
        refine aQ (aO h fun a1 h=> ?_)
        refine dg tT mX ⟨[(3,(vP 403 0)),(aV s_),pU,(vN u2),(9,(vB u6)),(10,(vI u0)),(Nf p u0),(agE p u0 u1 u2),(UB p u0 u1),(xO p),(yx p),(28,(vI u0)),(Er p u0),(49,(vI u1))],(AZ u2 p)⟩ [(0:Int)≤0∧(0:Int)<(2:Nat),_,_,(0:Int)≤1∧(1:Int)<(2:Nat)] {fr:=[(7,801)] } [801] ⟨((by decide)),a1,(tL a1),((by decide)),trivial⟩ ?_
        refine aQ (sz tT ⟨[(3,(vP 403 0)),(aV s_),pU,(vN u2),(9,(vB u6)),(10,(vI u0)),(Nf p u0),(agE p u0 u1 u2),(UB p u0 u1),(xO p),(yx p),(28,(vI u0)),(Er p u0),(49,(vI u1)),(61,(vB (!(afY p u0 u1 u2))))],(AZ u2 p)⟩ {} [] ?_)
        refine bI h (fun hb1 h=> ?_) (fun hb1 h=> ?_)
        ·refine ct hb1 ?_
         refine aX (rz tT (aci p s_ u0 u1 u2 u6) {} [] ?_)
         obtain rfl:=oi h
         exact lN
        ·refine cf hb1 ?_
         refine aP (aQ (bE h fun u4 hr_1 h=> ?_))
         refine aO h fun⟨a1,a2⟩ h=> ?_
         have q0:=rk [(0,802)] (vH (aeU p u0 u1 u2) hr_1)
         refine di tT mX ⟨[(3,(vP 403 0)),(aV s_),pU,(vN u2),(9,(vB u6)),(10,(vI u0)),(Nf p u0),(UB p u0 u1),(16,(vP 805 0)),(xO p),(yx p),(28,(vI u0)),(Er p u0),(49,(vI u1))],[(JN p),(405,some (cu 141 3 Way.cell u2)),(805,some (.cells 141 [(cB true),(cI (aaB p u0 u1 u2)),(.d (aK none 1 (au .i64) (u4++[u0])))]))]⟩ [_,[u0].length=1,aG 1 1 (jD 1 [(.int .i64 u0)]) (aC (au .i64) [u0]),u4.length=u4.length,_,_,(u4++[u0]).length=u4.length+[u0].length,aG (u4.length+[u0].length) 1 (D8 (aC (au .i64) u4) u4.length (aC (au .i64) [u0])) (aC (au .i64) (u4++[u0])),(u4++[u0]).length=(u4++[u0]).length] {an:=[(7,cA q0 []),(9, .arr [u0].length (aC (au .i64) [u0])),(10, .arr (u4++[u0]).length (aC (au .i64) (u4++[u0])))],fr:=[(9,803),(10,804),(12,805)] } [804] ⟨q0,(rfl),((by intro i hi j hj;match i,j,hi,hj with|0,0,_,_=>rfl)),rfl,a1,a2,(List.length_append),(mR _ _ _ _),rfl,trivial⟩ (fz ⟨[(3,(vP 403 0)),(aV s_),pU,(vN u2),(9,(vB u6)),(10,(vI u0)),(Nf p u0),(UB p u0 u1),(agH p u0 u1 u2 u4),(xO p),(yx p),(28,(vI u0)),(Er p u0),(49,(vI u1))],(AZ u2 p)⟩ [805]) ?_
         refine aQ (bE h fun v2 hr_2 h=> ?_)
         refine aO h fun a1 h=> ?_
         have q2:=FD (ae2 p u0 u1 u2 u4) (at' u2 (Zy p u0 u1)) hr_2
         refine dg tT mX ⟨[(3,(vP 403 0)),(aV s_),pU,(vN u2),(9,(vB u6)),(10,(vI u0)),(Nf p u0),(UB p u0 u1),(agH p u0 u1 u2 u4),(xO p),(yx p),(28,(vI u0)),(Er p u0),(49,(vI u1)),(80,(vB v2))],(AZ u2 p)⟩ [_,_,_] {an:=[(6,cA q2 [])] } [] ⟨a1,(tL a1),q2,trivial⟩ ?_
         refine bI h (fun hb h=> ?_) (fun hb h=> ?_)
         ·refine ct hb ?_
          refine aQ (aO h fun a1 h=> ?_)
          refine ri tT ⟨[(3,(vP 403 0)),(aV s_),pU,(vN u2),(10,(vI u0)),(Nf p u0),(xO p),(yx p),(28,(vI u0)),(Er p u0),(49,(vI u1))],[(JN p),(405,some (.arr 141 3 u2.length (abm p u0 u1 u2 u4)))]⟩ [_,_,aG u2.length 3 (jZ (aC Way.cell u2) (Zy p u0 u1) 0 (ady p u0 u1 u2 u4)) (abm p u0 u1 u2 u4)] {an:=[(4, .arr 0 (abm p u0 u1 u2 u4))] } [] ⟨a1,(tL a1),(bL _ _ _ _ _ _ _ _ rfl (fun j hj=>(match j,hj with|0,_=>rfl|1,_=>rfl|2,_=>rfl))),trivial⟩ (bM.le (st':=⟨[(3,(vP 403 0)),(aV s_),pU,(Y8 p u0 u1 u2 u4),(10,(vI u0)),(Nf p u0),(xO p),(yx p),(28,(vI u0)),(Er p u0),(49,(vI u1))],(abo p u0 u1 u2 u4)⟩) ⟨⟨tR,tR,tR,⟨_,rfl,eO.v (eG.one cW)⟩,tR,tR,tR,tR,tR,tR,tR,trivial⟩,⟨rfl, .refl _,⟨rfl,oW,trivial⟩⟩⟩) ?_
          refine rz tT ⟨[(3,(vP 403 0)),(aV s_),pU,(Y8 p u0 u1 u2 u4),(9,(vB true)),(10,(vI u0)),(Nf p u0),(xO p),(yx p),(28,(vI u0)),(Er p u0),(49,(vI u1))],(abo p u0 u1 u2 u4)⟩ {} [] ?_
          refine rz tT ⟨[(3,(vP 403 0)),(aV s_),pU,(Y8 p u0 u1 u2 u4),(9,(vB true)),(10,(vI u0)),(Nf p u0),(xO p),(yx p),(28,(vI u0)),(Er p u0),(49,(k3 u1))],(abo p u0 u1 u2 u4)⟩ {} [] ?_
          obtain rfl:=oi h
          exact lN
         ·refine cf hb ?_
          refine aP (rz tT (aci p s_ u0 u1 u2 u6) {} [] ?_)
          obtain rfl:=oi h
          exact lN
       ·refine cf hb2 ?_
        refine aI (fz (ZG p s_ u2 u6 u0) []) ?_
        refine aX ?_
        obtain rfl:=oi h
        exact lB
      ·clear hy
       cases y with
       |brk z=>
        obtain⟨v0,v3⟩:=z
        unfold gm
        refine⟨_, .refl, ?_⟩
        refine rz tT (agi p s_ v0 v3 u0) {} [] ?_
        obtain rfl:=oi h
        exact lN
       |ret v=>
        obtain rfl:=oi h
        unfold gm
        intro e st hn ha hR
        cases e with
        |normal=>exact absurd rfl hn
        |exit id=>simp only [qA (b:=3) ha rfl,cond_false];exact hR
        |goto l=>exact hR
        |ret=>exact hR
        |panic c=>exact hR
        |outgrown=>exact hR
    ·refine cf hb4 ?_
     refine aI (fz (YU u5 p s_ u8) []) ?_
     refine aX ?_
     obtain rfl:=oi h
     exact lB
   ·clear hy
    cases y1 with
    |brk z=>
     obtain⟨v4,v5⟩:=z
     unfold gm
     refine⟨_, .refl, ?_⟩
     obtain rfl:=oi h
     exact lN
    |ret v=>
     obtain rfl:=oi h
     unfold gm
     intro e st hn ha hR
     cases e with
     |normal=>exact absurd rfl hn
     |exit id=>simp only [qA (b:=1) ha rfl,cond_false];exact hR
     |goto l=>exact hR
     |ret=>exact hR
     |panic c=>exact hR
     |outgrown=>exact hR
  ·refine cf hb5 ?_
   refine aI (fz ⟨[(vN u7)],[(405,some (cu 141 3 Way.cell u7))]⟩ []) ?_
   refine aX ?_
   obtain rfl:=oi h
   exact lB
 ·clear hy
  cases y2 with
  |brk z=>
   obtain⟨u9,rfl⟩: ∃q,q=z:=⟨_,rfl⟩
   unfold gm
   refine⟨_, .refl, ?_⟩
   refine sz tT ⟨[(6,(vO 405 true u9.length))],[(405,some (cu 141 3 Way.cell u9))]⟩ {} [] ?_
   refine aI (bM.fin (st':=⟨[(6,(vO 0 true u9.length))],[(0,some (cu 141 3 Way.cell u9))]⟩) (cs:=[]) ⟨[],[(405,0)]⟩ [6] (by kernel_rfl) trivial) ?_
   refine aR ?_
   obtain rfl:=oi h
   exact rl [(.one (.own 0 true u9.length))]
  |ret v=>
   obtain rfl:=oi h
   unfold gm
   intro e st hn ha hR
   cases e with
   |normal=>exact absurd rfl hn
   |exit id=>exact hR
   |goto l=>exact hR
   |ret=>exact hR
   |panic c=>exact hR
   |outgrown=>exact hR
def rD  :((List Short) × Int)→Exit→St→Prop:=
  fun r=>bB TT [.tmp 6, .tmp 7] (.iP [(sD (aK none 4 Short.cell r.1)),(sI r.2)]) []
section
variable (u0:(List Short)) (p:ah)
abbrev JU:Nat × TV:=(9,(vO 28 false u0.length))
abbrev Eo:Nat × TV:=(29,(vD (aK none 5 Source.cell p.sources)))
abbrev DW:Nat × TV:=(30,(vI (p.sources.length:Int)))
abbrev JJ:List (Nat × Option Ob):=[(28,some (cu 47 4 Short.cell u0))]
end
def xK (p:ah) (s_:State) (u1:Int):((List Short) × Int)→St:=
  fun zz=>match zz with|(u0,u2)=> ⟨[(2,(vI u1)),(bn p),(aV s_),(JU u0),(Eo p),(DW p),(31,(vI u2))],(JJ u0)⟩
def xJ  :(List Short)→St:=
  fun u0=> ⟨[(JU u0)],(JJ u0)⟩
def Fe (p:ah) (s_:State) (u0:Int):(aM ((List Short) × Int) (Ex (List Short) ((List Short) × Int)))→Exit→St→Prop:=
  LQ 0 [] (xK p s_ u0) xJ rD
section
variable (p:ah) (u1:Int) (u0:Int) (s_:State) (u3:(List Short)) (u2:(List Way))
abbrev Vj:List (Nat × Option Ob):=[(22,some (Yf p))]
abbrev adu:TV:=(vD (lV [(.int .i64 ((at' p.sources u1.toNat).bus)),(.int .i64 ((at' p.sources u1.toNat).kind)),(.int .i64 ((at' p.sources u1.toNat).power)),(.int .i64 ((at' p.sources u1.toNat).sync)),(.int .i64 ((at' p.sources u1.toNat).iH))] 0))
abbrev Xx:Nat × TV:=(11,(adu p u1))
abbrev adX:St:=⟨[(2,(vI u0)),(bn p),(aV s_),(JU u3),(Eo p),(DW p),(31,(k3 u1))],(JJ u3)⟩
abbrev aak:Nat × TV:=(12,(vD (lV [(.bool ((at' u2 u0.toNat).there)),(.int .i64 ((at' u2 u0.toNat).iH)),(aK none 1 (au .i64) ((at' u2 u0.toNat).links))] 0)))
abbrev T9:=(IntKind.wrap .i64 (((at' p.sources u1.toNat).iH)+((at' u2 u0.toNat).iH)))
abbrev afe:=(IntKind.wrap .i64 (Int.tdiv (IntKind.wrap .i64 ((IntKind.wrap .i64 ((400000:Int)+(T9 p u1 u0 u2))) - 1)) (T9 p u1 u0 u2)))
abbrev QS:=(⟨u1,(T9 p u1 u0 u2),(afe p u1 u0 u2),(at' u2 u0.toNat).links⟩:Short)
abbrev Uq:=(u3++[(QS p u1 u0 u2)])
abbrev adV:=((Uq p u1 u0 u3 u2).length)
abbrev agj:Nat × TV:=(9,(vO 43 false (adV p u1 u0 u3 u2)))
abbrev abV:Ob:=(cu 47 4 Short.cell (Uq p u1 u0 u3 u2))
abbrev adw:List (Nat × Option Ob):=[(43,some (abV p u1 u0 u3 u2))]
abbrev aai:=(aC Short.cell [(QS p u1 u0 u2)])
abbrev adP:=(aC Short.cell (Uq p u1 u0 u3 u2))
end
theorem mH (p:ah) (s_:State) (u0:Int) {r:((List Short) × Int)} (h:kM p s_ u0=some r):Fn Try.prog 17 (OU p s_ u0) [] (.iP [(sD (aK none 4 Short.cell r.1)),(sI r.2)]) []:=by
 refine fN tT Try.func17 rfl rfl fun B=> ?_
 show bJ _ _ _ _ _ _ (rD r) _
 unfold kM at h
 refine sz tT ⟨[(2,(vI u0)),(3,(vP 22 0)),(aV s_)],(Vj p)⟩ {fr:=[(0,22),(1,23)] } [23] ?_
 refine aQ (aQ (bE h fun r_ hr_ h=> ?_))
 have q0:=eH p s_ hr_
 refine rg tT ⟨[(2,(vI u0)),(3,(vP 22 0)),(aV s_),(8,(vI r_))],(Vj p)⟩ [_] {an:=[(2,cA q0 [])] } [] ⟨q0,trivial⟩ ?_
 refine sz tT ⟨[(2,(vI u0)),(3,(vP 22 0)),(aV s_),(8,(vI r_)),(18,(vB (!decide (r_=0))))],(Vj p)⟩ {} [] ?_
 refine bI h (fun hb4 h=> ?_) (fun hb4 h=> ?_)
 ·refine ct hb4 ?_
  refine sz tT ⟨[(6,(vD nS)),(7,(vI r_))],[]⟩ {} [] ?_
  refine aI (bM.le (st':=⟨[(6,(vD (aK none 4 Short.cell ([]:List Short)))),(7,(vI r_))],[]⟩) ⟨⟨⟨_,rfl,eO.v (eG.one (dO.d gV.nil'))⟩,tR,trivial⟩,trivial⟩) ?_
  refine aR ?_
  obtain rfl:=oi h
  exact rl [(sD (aK none 4 Short.cell ([]:List Short))),(sI r_)]
 ·refine cf hb4 ?_
  refine aP (aQ (sg tT ⟨[(2,(vI u0)),(3,(vP 22 0)),(aV s_),(27,(vB (bif (decide (u0<0))then true else(decide (p.buses≤u0)))))],(Vj p)⟩ (eqs (decide (u0<0)) 5 []) {yb:=[(2,(decide (u0<0)))] } [] (ae trivial) ?_))
  refine bI h (fun hb3 h=> ?_) (fun hb3 h=> ?_)
  ·refine ct hb3 ?_
   refine sz tT ⟨[(6,(vD nS)),(7,(vI 1))],[]⟩ {} [] ?_
   refine aI (bM.le (st':=⟨[(6,(vD (aK none 4 Short.cell ([]:List Short)))),(7,(vI 1))],[]⟩) ⟨⟨⟨_,rfl,eO.v (eG.one (dO.d gV.nil'))⟩,tR,trivial⟩,trivial⟩) ?_
   refine aR ?_
   obtain rfl:=oi h
   exact rl [(sD (aK none 4 Short.cell ([]:List Short))),(sI 1)]
  ·refine cf hb3 ?_
   refine aP (sz tT ⟨[(2,(vI u0)),(3,(vP 22 0)),(aV s_),(9,(vD nS))],(Vj p)⟩ {} [] ?_)
   refine aQ (sz tT ⟨[(2,(vI u0)),(bn p),(aV s_),(9,(vD nS)),(Eo p),(DW p),(31,(vI 0))],[]⟩ {} [22] ?_)
   refine bE h fun y hy h=> ?_
   refine aI (.trans (bM.Vu (t:=9) (b:=44) (esz0:=0) (el0:=fun _ _=> .nilp) (E:=47) (esz:=4) (el:=aC Short.cell ([]:List Short)) (by kernel_rfl) (by kernel_rfl)) (.trans (bM.fin (st':=⟨[(2,(vI u0)),(bn p),(aV s_),(9,(vO 28 false 0)),(Eo p),(DW p),(31,(vI 0))],[(28,some (.arr 47 4 0 (aC Short.cell ([]:List Short))))]⟩) (cs:=[]) ⟨[],[(44,28)]⟩ [2,3,4,9,29,30,31] (by kernel_rfl) trivial) (bM.le (st':=⟨[(2,(vI u0)),(bn p),(aV s_),(9,(vO 28 false (([]:List Short).length))),(Eo p),(DW p),(31,(vI 0))],[(28,some (cu 47 4 Short.cell ([]:List Short)))]⟩) ⟨⟨tR,tR,tR,⟨_,rfl,eO.v (eG.one cW)⟩,tR,tR,tR,trivial⟩,⟨rfl,oW,trivial⟩⟩))) ?_
   refine aL [] (xK p s_ u0) xJ rD hy (fun s f h=> ?_) ?_
   ·clear hy
    show bJ _ _ _ _ _ _ ((Fe p s_ u0) f) _
    unfold yh at h
    obtain⟨u3,u1⟩:=s
    refine sz tT ⟨[(2,(vI u0)),(bn p),(aV s_),(JU u3),(Eo p),(DW p),(31,(vI u1)),(32,(vB (decide (u1<(p.sources.length:Int)))))],(JJ u3)⟩ {} [] ?_
    refine aQ ?_
    refine bI h (fun hb2 h=> ?_) (fun hb2 h=> ?_)
    ·refine ct hb2 ?_
     refine aP (aQ (aB (aQ (aO h fun a1 h=> ?_))))
     refine rg tT ⟨[(2,(vI u0)),(bn p),(aV s_),(JU u3),(10,(vI u1)),(Xx p u1),(Eo p),(DW p),(31,(vI u1))],(JJ u3)⟩ [_] {fr:=[(3,39)] } [39] ⟨a1,trivial⟩ ?_
     refine aQ (aQ (bE h fun u5 hr_1 h=> ?_))
     refine aO h fun a1 h=> ?_
     refine rg tT ⟨[(2,(vI u0)),(bn p),(aV s_),(JU u3),(10,(vI u1)),(Xx p u1),(Eo p),(DW p),(31,(vI u1)),(47,(vB (bif (at' s_.badBus u0.toNat)then true else(!u5))))],(JJ u3)⟩ (_::(eqs (at' s_.badBus u0.toNat) 4 ((gP (jl [(5,(at' s_.badBus u0.toNat))]) [(5,false)]→All [Fn Try.prog 65 (OU p s_ u1) [] (vB u5) []])::(eqs (at' s_.badBus u0.toNat) 2 [])))) {yb:=[(5,(at' s_.badBus u0.toNat))],an:=[(9, .call [] (vB u5) [])] } [] ⟨a1,(ae ⟨(fun hg=> ⟨(fU p s_ u1 (gI hr_1 (aZ hg))),trivial⟩),(ae trivial)⟩)⟩ ?_
     refine bI h (fun hb1 h=> ?_) (fun hb1 h=> ?_)
     ·refine ct hb1 ?_
      refine aX (rz tT (adX p u1 u0 s_ u3) {} [] ?_)
      obtain rfl:=oi h
      exact lN
     ·refine cf hb1 ?_
      refine aP (aQ (bE h fun u2 hr_2 h=> ?_))
      refine aO h fun a1 h=> ?_
      have q0:=rk [(0,40)] (Dx p s_ ((at' p.sources u1.toNat).bus) hr_2)
      refine rg tT ⟨[(2,(vI u0)),(bn p),(aV s_),(JU u3),(10,(vI u1)),(Xx p u1),(aak u0 u2),(Eo p),(DW p),(31,(vI u1))],(JJ u3)⟩ [_,_,_] {an:=[(4,cA q0 [])],fr:=[(8,41)] } [41] ⟨q0,a1,(tL a1),trivial⟩ ?_
      refine sz tT ⟨[(2,(vI u0)),(bn p),(aV s_),(JU u3),(10,(vI u1)),(Xx p u1),(aak u0 u2),(Eo p),(DW p),(31,(vI u1)),(57,(vB ((at' u2 u0.toNat).there)))],(JJ u3)⟩ {} [] ?_
      refine bI h (fun hb h=> ?_) (fun hb h=> ?_)
      ·refine ct hb ?_
       refine sz tT ⟨[(2,(vI u0)),(bn p),(aV s_),(JU u3),(10,(vI u1)),(aak u0 u2),(13,(vI (T9 p u1 u0 u2))),(Eo p),(DW p),(31,(vI u1))],(JJ u3)⟩ {} [] ?_
       refine aO h fun⟨a1,a2,a3⟩ h=> ?_
       refine dg tT mX ⟨[(2,(vI u0)),(bn p),(aV s_),(agj p u1 u0 u3 u2),(Eo p),(DW p),(31,(vI u1))],(adw p u1 u0 u3 u2)⟩ [_,[(QS p u1 u0 u2)].length=1,aG 1 4 (jD 4 [(.int .i64 u1),(.int .i64 (T9 p u1 u0 u2)),(.int .i64 (afe p u1 u0 u2)),(aK none 1 (au .i64) ((at' u2 u0.toNat).links))]) (aai p u1 u0 u2),u3.length=u3.length,_,_,(Uq p u1 u0 u3 u2).length=u3.length+[(QS p u1 u0 u2)].length,aG (u3.length+[(QS p u1 u0 u2)].length) 4 (D8 (aC Short.cell u3) u3.length (aai p u1 u0 u2)) (adP p u1 u0 u3 u2)] {an:=[(11, .arr [(QS p u1 u0 u2)].length (aai p u1 u0 u2)),(12, .arr (Uq p u1 u0 u3 u2).length (adP p u1 u0 u3 u2))],fr:=[(11,42),(12,43)] } [] ⟨a1,(rfl),((by intro i hi j hj;match i,j,hi,hj with|0,0,_,_=>rfl|0,1,_,_=>rfl|0,2,_,_=>rfl|0,3,_,_=>rfl)),rfl,a2,a3,(List.length_append),(mR _ _ _ _),trivial⟩ ?_
       refine ri tT ⟨[(2,(vI u0)),(bn p),(aV s_),(agj p u1 u0 u3 u2),(Eo p),(DW p),(31,(k3 u1))],(adw p u1 u0 u3 u2)⟩ [] {} [] trivial (bM.fin (st':=⟨[(2,(vI u0)),(bn p),(aV s_),(9,(vO 28 false (adV p u1 u0 u3 u2))),(Eo p),(DW p),(31,(k3 u1))],[(28,some (abV p u1 u0 u3 u2))]⟩) (cs:=[]) ⟨[],[(43,28)]⟩ [2,3,4,9,29,30,31] (by kernel_rfl) trivial) ?_
       obtain rfl:=oi h
       exact lN
      ·refine cf hb ?_
       refine aP (rz tT (adX p u1 u0 s_ u3) {} [] ?_)
       obtain rfl:=oi h
       exact lN
    ·refine cf hb2 ?_
     refine aI (fz ⟨[(JU u3)],(JJ u3)⟩ []) ?_
     refine aX ?_
     obtain rfl:=oi h
     exact lB
   ·clear hy
    cases y with
    |brk z=>
     obtain⟨u4,rfl⟩: ∃q,q=z:=⟨_,rfl⟩
     unfold gm
     refine⟨_, .refl, ?_⟩
     refine sg tT ⟨[(6,(vD (aK none 4 Short.cell u4))),(7,(vI 0))],[]⟩ [u4.length=u4.length] {} [28] ⟨rfl,trivial⟩ ?_
     refine aR ?_
     obtain rfl:=oi h
     exact rl [(sD (aK none 4 Short.cell u4)),(sI 0)]
    |ret v=>
     obtain rfl:=oi h
     unfold gm
     intro e st hn ha hR
     cases e with
     |normal=>exact absurd rfl hn
     |exit id=>exact hR
     |goto l=>exact hR
     |ret=>exact hR
     |panic c=>exact hR
     |outgrown=>exact hR
def qI  :Int→Exit→St→Prop:=
  fun r=>bB TT [.tmp 4] (vI r) []
def wR (s_:(List Int)) (v_:Int):Int→St:=
  fun t8=> ⟨[(jX s_),(1,(vI v_)),(oC s_),(8,(vI t8))],[]⟩
def vR  :Unit→St:=
  fun _=> ⟨[],[]⟩
def ED (s_:(List Int)) (v_:Int):(aM Int (Ex Unit Int))→Exit→St→Prop:=
  LQ 0 [] (wR s_ v_) vR qI
theorem EG (s_:(List Int)) (v_:Int) {r:Int} (h:uq s_ v_=some r):Fn Try.prog 114 [(sD (yN s_)),(sI v_)] [] (vI r) []:=by
 refine fN tT Try.func114 rfl rfl fun B=> ?_
 show bJ _ _ _ _ _ _ (qI r) _
 unfold uq at h
 refine sz tT ⟨[(jX s_),(1,(vI v_))],[]⟩ {} [] ?_
 refine aQ (sz tT ⟨[(jX s_),(1,(vI v_)),(oC s_),(8,(vI 0))],[]⟩ {} [] ?_)
 refine bE h fun y hy h=> ?_
 refine aL [] (wR s_ v_) vR qI hy (fun s f h=> ?_) ?_
 ·clear hy
  show bJ _ _ _ _ _ _ ((ED s_ v_) f) _
  unfold wQ at h
  obtain⟨t8,rfl⟩: ∃q,q=s:=⟨_,rfl⟩
  refine sz tT ⟨[(jX s_),(1,(vI v_)),(oC s_),(8,(vI t8)),(UH t8 s_)],[]⟩ {} [] ?_
  refine aQ ?_
  refine bI h (fun hb1 h=> ?_) (fun hb1 h=> ?_)
  ·refine ct hb1 ?_
   refine aP (aQ (aB (sz tT ⟨[(jX s_),(1,(vI v_)),(5,(vI t8)),(oC s_),(8,(vI t8))],[]⟩ {} [] ?_)))
   refine aQ (aO h fun a1 h=> ?_)
   refine rg tT ⟨[(jX s_),(1,(vI v_)),(5,(vI t8)),(oC s_),(8,(vI t8)),(16,(vB (decide (v_=(at' s_ t8.toNat)))))],[]⟩ [_] {} [] ⟨a1,trivial⟩ ?_
   refine bI h (fun hb h=> ?_) (fun hb h=> ?_)
   ·refine ct hb ?_
    refine sz tT ⟨[(4,(vI t8))],[]⟩ {} [] ?_
    refine aR ?_
    obtain rfl:=oi h
    exact lR dY (dX 0) dW (bB.mk (.inr rfl) (p:=[]) (l:=[(sI t8)]) (by kernel_rfl) trivial (eO.refl _) trivial)
   ·refine cf hb ?_
    refine aP (rz tT ⟨[(jX s_),(1,(vI v_)),(oC s_),(Yv t8)],[]⟩ {} [] ?_)
    obtain rfl:=oi h
    exact lN
  ·refine cf hb1 ?_
   refine aI (fz ⟨[],[]⟩ []) ?_
   refine aX ?_
   obtain rfl:=oi h
   exact lB
 ·clear hy
  cases y with
  |brk z=>
   unfold gm
   refine⟨_, .refl, ?_⟩
   refine sz tT ⟨[(4,(vI (-1)))],[]⟩ {} [] ?_
   refine aR ?_
   obtain rfl:=oi h
   exact rl [(sI (-1))]
  |ret v=>
   obtain rfl:=oi h
   unfold gm
   intro e st hn ha hR
   cases e with
   |normal=>exact absurd rfl hn
   |exit id=>exact hR
   |goto l=>exact hR
   |ret=>exact hR
   |panic c=>exact hR
   |outgrown=>exact hR
def BM  :Bool→Exit→St→Prop:=
  fun r=>bB TT [.tmp 4] (vB r) []
theorem Ad (s_:(List Int)) (v_:Int) {r:Bool} (h:pJ s_ v_=some r):Fn Try.prog 69 [(sD (yN s_)),(sI v_)] [] (vB r) []:=by
 refine fN tT Try.func69 rfl rfl fun B=> ?_
 show bJ _ _ _ _ _ _ (BM r) _
 unfold pJ at h
 refine sz tT ⟨[(jX s_),(1,(vI v_))],[]⟩ {} [] ?_
 refine aQ (bE h fun r_ hr_ h=> ?_)
 have q0:=EG s_ v_ hr_
 refine rg tT (k32 r_) [_] {an:=[(2,cA q0 [])] } [] ⟨q0,trivial⟩ ?_
 refine aR ?_
 obtain rfl:=oi h
 exact rl [(sB (decide (0≤r_)))]
section
variable (o_:(List Int))
abbrev Bt:Ob:=(cu 3 1 (au .i64) o_)
abbrev vL:List (Nat × Option Ob):=[(0,some (.cells 40 [(.own 1 true o_.length)])),(1,some (Bt o_))]
end
def Di (o_:(List Int)):Bool→Exit→St→Prop:=
  fun r=>bB TT [.tmp 3] (vB r) (vL o_)
theorem BN (i:Int) (o_:(List Int)) {r:Bool} (h:qy i o_=some r):Fn Try.prog 68 [(sI i),(.one (.ptr 0 0))] (vL o_) (vB r) (vL o_):=by
 refine fN tT Try.func68 rfl rfl fun B=> ?_
 show bJ _ _ _ _ _ _ ((Di o_) r) _
 unfold qy at h
 refine sz tT ⟨[(0,(vI i)),(1,(vP 0 0))],(vL o_)⟩ {} [] ?_
 refine sg tT ⟨[(3,(vB (bif (decide (i<0))then true else(decide ((o_.length:Int)≤i)))))],(vL o_)⟩ (eqs (decide (i<0)) 5 []) {yb:=[(2,(decide (i<0)))] } [] (ae trivial) ?_
 refine aR ?_
 obtain rfl:=oi h
 exact rl [(sB (bif (decide (i<0))then true else(decide ((o_.length:Int)≤i))))]
def jU (o_:(List Int)):Int→Exit→St→Prop:=
  fun r=>bB TT [.tmp 4] (vI r) (vL o_)
abbrev Pn:Nat × TV:=(1,(.v (.one (.fn 68 0 1 (AU [(.ptr 0 0)])))))
def nA (s_:(List Int)) (o_:(List Int)):Int→St:=
  fun t8=> ⟨[(jX s_),Pn,(oC s_),(8,(vI t8))],(vL o_)⟩
section
variable (o_:(List Int))
abbrev agG:St:=⟨[],(vL o_)⟩
end
def nI (o_:(List Int)):Unit→St:=
  fun _=>(agG o_)
def xC (s_:(List Int)) (o_:(List Int)):(aM Int (Ex Unit Int))→Exit→St→Prop:=
  LQ 0 [] (nA s_ o_) (nI o_) (jU o_)
section
variable (s_:(List Int)) (o_:(List Int))
abbrev acA:St:=⟨[(jX s_),Pn],(vL o_)⟩
end
theorem xw (s_:(List Int)) (o_:(List Int)) {r:Int} (h:kP s_ o_=some r):Fn Try.prog 113 [(sD (yN s_)),(.one (.fn 68 0 1 (AU [(.ptr 0 0)])))] (vL o_) (vI r) (vL o_):=by
 refine fN tT Try.func113 rfl rfl fun B=> ?_
 show bJ _ _ _ _ _ _ ((jU o_) r) _
 unfold kP at h
 refine sz tT (acA s_ o_) {} [] ?_
 refine aQ (sz tT ⟨[(jX s_),Pn,(oC s_),(8,(vI 0))],(vL o_)⟩ {} [] ?_)
 refine bE h fun y hy h=> ?_
 refine aL [] (nA s_ o_) (nI o_) (jU o_) hy (fun s f h=> ?_) ?_
 ·clear hy
  show bJ _ _ _ _ _ _ ((xC s_ o_) f) _
  unfold nG at h
  obtain⟨t8,rfl⟩: ∃q,q=s:=⟨_,rfl⟩
  refine sz tT ⟨[(jX s_),Pn,(oC s_),(8,(vI t8)),(UH t8 s_)],(vL o_)⟩ {} [] ?_
  refine aQ ?_
  refine bI h (fun hb1 h=> ?_) (fun hb1 h=> ?_)
  ·refine ct hb1 ?_
   refine aP (aQ (aB (sz tT ⟨[(jX s_),Pn,(5,(vI t8)),(oC s_),(8,(vI t8))],(vL o_)⟩ {} [] ?_)))
   refine aQ (bE h fun r_ hr_ h=> ?_)
   refine aO h fun a1 h=> ?_
   have q1:=BN (at' s_ t8.toNat) o_ hr_
   refine rg tT ⟨[(jX s_),Pn,(5,(vI t8)),(oC s_),(8,(vI t8)),(16,(vB r_))],(vL o_)⟩ [_,_] {an:=[(5,cR q1 [0,1])] } [] ⟨a1,q1,trivial⟩ ?_
   refine bI h (fun hb h=> ?_) (fun hb h=> ?_)
   ·refine ct hb ?_
    refine sz tT ⟨[(4,(vI t8))],(vL o_)⟩ {} [] ?_
    refine aR ?_
    obtain rfl:=oi h
    exact lR dY (dX 0) dW (bB.mk (.inr rfl) (p:=[]) (l:=[(sI t8)]) (by kernel_rfl) trivial (eO.refl _) (.refl _))
   ·refine cf hb ?_
    refine aP (rz tT ⟨[(jX s_),Pn,(oC s_),(Yv t8)],(vL o_)⟩ {} [] ?_)
    obtain rfl:=oi h
    exact lN
  ·refine cf hb1 ?_
   refine aI (fz (agG o_) []) ?_
   refine aX ?_
   obtain rfl:=oi h
   exact lB
 ·clear hy
  cases y with
  |brk z=>
   unfold gm
   refine⟨_, .refl, ?_⟩
   refine sz tT ⟨[(4,(vI (-1)))],(vL o_)⟩ {} [] ?_
   refine aR ?_
   obtain rfl:=oi h
   exact rl [(sI (-1))]
  |ret v=>
   obtain rfl:=oi h
   unfold gm
   intro e st hn ha hR
   cases e with
   |normal=>exact absurd rfl hn
   |exit id=>exact hR
   |goto l=>exact hR
   |ret=>exact hR
   |panic c=>exact hR
   |outgrown=>exact hR
def vJ (o_:(List Int)):Bool→Exit→St→Prop:=
  fun r=>bB TT [.tmp 4] (vB r) (vL o_)
theorem uS (s_:(List Int)) (o_:(List Int)) {r:Bool} (h:jJ s_ o_=some r):Fn Try.prog 67 [(sD (yN s_)),(.one (.fn 68 0 1 (AU [(.ptr 0 0)])))] (vL o_) (vB r) (vL o_):=by
 refine fN tT Try.func67 rfl rfl fun B=> ?_
 show bJ _ _ _ _ _ _ ((vJ o_) r) _
 unfold jJ at h
 refine sz tT (acA s_ o_) {} [] ?_
 refine aQ (bE h fun r_ hr_ h=> ?_)
 have q0:=xw s_ o_ hr_
 refine rg tT ⟨[(4,(vB (decide (0≤r_))))],(vL o_)⟩ [_] {an:=[(2,cR q0 [0,1])] } [] ⟨q0,trivial⟩ ?_
 refine aR ?_
 obtain rfl:=oi h
 exact rl [(sB (decide (0≤r_)))]
def qF  :((List Int) × Bool × Int)→Exit→St→Prop:=
  fun r=>bB TT [.tmp 4, .tmp 5] (.iP [(sD (aK (some r.2.1) 1 (au .i64) r.1)),(sI r.2.2)]) []
section
variable (l:(List Short)) (u0:(List Int)) (u1:Int)
abbrev Gs:Nat × TV:=(23,(vD (aK none 4 Short.cell l)))
abbrev GJ:Nat × TV:=(24,(vI (l.length:Int)))
abbrev Gn:List (Nat × Option Ob):=[(8,some (Bt u0)),(9,some (.cells 40 [(.own 8 true u0.length)]))]
abbrev aas:St:=⟨[(7,(vP 9 0)),(Gs l),(GJ l),(25,(vI u1))],(Gn u0)⟩
end
def wC (l:(List Short)):((List Int) × Int)→St:=
  fun zz=>match zz with|(u0,u1)=>(aas l u0 u1)
section
variable (u0:(List Int))
abbrev afg:St:=⟨[(7,(vP 9 0))],(Gn u0)⟩
end
def wN  :(List Int)→St:=
  fun u0=>(afg u0)
def oL (l:(List Short)):(aM ((List Int) × Int) (Ex (List Int) ((List Int) × Bool × Int)))→Exit→St→Prop:=
  LQ 0 [] (wC l) wN qF
section
variable (l:(List Short)) (u0:Int) (u2:(List Int)) (u3:Int)
abbrev Xw:DV:=(aK none 1 (au .i64) ((at' l u0.toNat).links))
abbrev Nn:Nat × TV:=(9,(vD (lV [(.int .i64 ((at' l u0.toNat).source)),(.int .i64 ((at' l u0.toNat).iH)),(.int .i64 ((at' l u0.toNat).amps)),(Xw l u0)] 0)))
abbrev RA:Nat × TV:=(44,(vI (u2.length:Int)))
abbrev aaC:List (Nat × TV):=[(7,(vP 9 0)),(Nn l u0),(Gs l),(GJ l),(25,(vI u0)),(RA u2),(45,(vI u3))]
end
def vT (l:(List Short)) (u2:(List Int)) (u0:Int):((List Int) × Int)→St:=
  fun zz=>match zz with|(u1,u3)=> ⟨(aaC l u0 u2 u3),(Gn u1)⟩
def wB (l:(List Short)) (u1:Int):(List Int)→St:=
  fun u0=>(aas l u0 u1)
def D9 (l:(List Short)) (u1:(List Int)) (u0:Int):(aM ((List Int) × Int) (Ex (List Int) (aM ((List Int) × Int) (Ex (List Int) ((List Int) × Bool × Int)))))→Exit→St→Prop:=
  LQ 2 [1] (vT l u1 u0) (wB l u0) (oL l)
section
variable (l:(List Short)) (p:ah) (u0:Int) (u1:(List Int)) (u2:Int) (u3:(List Int)) (u4:(List Int))
abbrev G5:Nat × TV:=(1,(vD (aK none 4 Short.cell l)))
abbrev Mr:Nat × TV:=(2,(k9 p))
abbrev Ri:DV:=(aK (some false) 1 (au .i64) ([]:List Int))
abbrev O6:=((p.links.length:Int).toNat)
abbrev Lx:=(List.replicate (O6 p) (0:Int))
abbrev aaW:Ob:=(cu 3 1 (au .i64) (Lx p))
abbrev TS:=((Lx p).length)
abbrev ae1:List (Nat × Option Ob):=[(8,some (aaW p)),(9,some (.cells 40 [(.own 8 true (TS p))]))]
abbrev RL:=(aC (au .i64) (Lx p))
abbrev Rz:=(bif (decide (((at' l u0.toNat).amps)<0))then true else(decide (1000000<((at' l u0.toNat).amps))))
abbrev aaR:=(u1.set u2.toNat (IntKind.wrap .i64 ((at' u1 u2.toNat)+((at' l u0.toNat).amps))))
abbrev Z8:=(aC (au .i64) (aaR l u0 u1 u2))
abbrev adS:List (Nat × Option Ob):=[(8,some (cu 3 1 (au .i64) (aaR l u0 u1 u2))),(9,some (.cells 40 [(.own 8 true ((aaR l u0 u1 u2).length))]))]
abbrev adA:List (Nat × TV):=[(7,(vP 9 0)),(Nn l u0),(Gs l),(GJ l),(25,(vI u0)),(RA u3),(45,(k3 u2))]
abbrev Rm:DV:=(aK (some true) 1 (au .i64) u4)
end
theorem lK (p:ah) (l:(List Short)) {r:((List Int) × Bool × Int)} (h:jK p l=some r):Fn Try.prog 18 [(.agg (k5 p)),(sD (aK none 4 Short.cell l))] [] (.iP [(sD (aK (some r.2.1) 1 (au .i64) r.1)),(sI r.2.2)]) []:=by
 refine fN tT Try.func18 rfl rfl fun B=> ?_
 show bJ _ _ _ _ _ _ (qF r) _
 unfold jK at h
 refine sz tT ⟨[(G5 l),(Mr p)],[]⟩ {fr:=[(0,7)] } [7] ?_
 refine aQ (aQ (bE h fun r_ hr_ h=> ?_))
 have q0:=xM p hr_
 refine rg tT ⟨[(G5 l),(Mr p),(6,(vI r_))],[]⟩ [_] {an:=[(1,cA q0 [])] } [] ⟨q0,trivial⟩ ?_
 refine sz tT ⟨[(G5 l),(Mr p),(6,(vI r_)),(14,(vB (!decide (r_=0))))],[]⟩ {} [] ?_
 refine bI h (fun hb5 h=> ?_) (fun hb5 h=> ?_)
 ·refine ct hb5 ?_
  refine sz tT ⟨[(4,(vD nS)),(5,(vI r_))],[]⟩ {} [] ?_
  refine aI (bM.le (st':=⟨[(4,(vD Ri)),(5,(vI r_))],[]⟩) ⟨⟨⟨_,rfl,eO.v (eG.one (dO.d gV.UW))⟩,tR,trivial⟩,trivial⟩) ?_
  refine aR ?_
  obtain rfl:=oi h
  exact rl [(sD Ri),(sI r_)]
 ·refine cf hb5 ?_
  refine aP (aQ (sz tT ⟨[(G5 l),(Mr p),(18,(vB (decide (8<(l.length:Int)))))],[]⟩ {} [] ?_))
  refine bI h (fun hb4 h=> ?_) (fun hb4 h=> ?_)
  ·refine ct hb4 ?_
   refine sz tT ⟨[(4,(vD nS)),(5,(vI 1))],[]⟩ {} [] ?_
   refine aI (bM.le (st':=⟨[(4,(vD Ri)),(5,(vI 1))],[]⟩) ⟨⟨⟨_,rfl,eO.v (eG.one (dO.d gV.UW))⟩,tR,trivial⟩,trivial⟩) ?_
   refine aR ?_
   obtain rfl:=oi h
   exact rl [(sD Ri),(sI 1)]
  ·refine cf hb4 ?_
   refine aP (aQ (aO h fun⟨a1,a2,a3⟩ h=> ?_))
   refine rg tT ⟨[(G5 l),(7,(vP 9 0))],(ae1 p)⟩ [_,((p.links.length:Int):Int)=(p.links.length:Int),_,_,(Lx p).length=(O6 p),aG (O6 p) 1 (fun _ j=>[(.int .i64 0)].getD j .nilp) (RL p)] {an:=[(3, .arr (Lx p).length (RL p))],fr:=[(3,8),(4,9)] } [] ⟨a1,rfl,a2,a3,(List.length_replicate),(dQ _ _ _ _ _ (fun j hj=>(match j,hj with|0,_=>rfl))),trivial⟩ ?_
   refine aQ (sz tT ⟨[(7,(vP 9 0)),(Gs l),(GJ l),(25,(vI 0))],(ae1 p)⟩ {} [] ?_)
   refine bE h fun y1 hy h=> ?_
   refine aL [] (wC l) wN qF hy (fun s f h=> ?_) ?_
   ·clear hy
    show bJ _ _ _ _ _ _ ((oL l) f) _
    unfold wS at h
    obtain⟨u3,u0⟩:=s
    refine sz tT ⟨[(7,(vP 9 0)),(Gs l),(GJ l),(25,(vI u0)),(26,(vB (decide (u0<(l.length:Int)))))],(Gn u3)⟩ {} [] ?_
    refine aQ ?_
    refine bI h (fun hb3 h=> ?_) (fun hb3 h=> ?_)
    ·refine ct hb3 ?_
     refine aP (aQ (aB (aQ (aO h fun a1 h=> ?_))))
     refine rg tT ⟨[(7,(vP 9 0)),(Nn l u0),(Gs l),(GJ l),(25,(vI u0))],(Gn u3)⟩ [_] {fr:=[(2,13)] } [13] ⟨a1,trivial⟩ ?_
     refine aQ (aQ (bE h fun u5 hr_1 h=> ?_))
     refine rg tT ⟨[(7,(vP 9 0)),(Nn l u0),(Gs l),(GJ l),(25,(vI u0)),(42,(vB (bif (Rz l u0)then true else u5)))],(Gn u3)⟩ (eqs (decide (((at' l u0.toNat).amps)<0)) 4 (eqs (Rz l u0) 4 [gP (jl [(3,(decide (((at' l u0.toNat).amps)<0))),(8,(Rz l u0))]) [(8,false)]→All [Fn Try.prog 67 [(sD (Xw l u0)),(.one (.fn 68 0 1 (AU [(.ptr 9 0)])))] [(9,some (.cells 40 [(.own 8 true u3.length)])),(8,some (Bt u3))] (vB u5) [(9,some (.cells 40 [(.own 8 true u3.length)])),(8,some (Bt u3))]],(Rz l u0)=(Rz l u0)])) {yb:=[(3,(decide (((at' l u0.toNat).amps)<0))),(8,(Rz l u0))],an:=[(12, .callR [9,8] (vB u5))] } [] (ae (ae ⟨(fun hg=> ⟨(rK [(0,9),(1,8)] (uS ((at' l u0.toNat).links) u3 (gI hr_1 (aZ hg)))),trivial⟩),rfl,trivial⟩)) ?_
     refine bI h (fun hb2 h=> ?_) (fun hb2 h=> ?_)
     ·refine ct hb2 ?_
      refine sz tT ⟨[(4,(vD nS)),(5,(vI 1))],[]⟩ {} [] ?_
      refine aI (bM.le (st':=⟨[(4,(vD Ri)),(5,(vI 1))],[]⟩) ⟨⟨⟨_,rfl,eO.v (eG.one (dO.d gV.UW))⟩,tR,trivial⟩,trivial⟩) ?_
      refine aR ?_
      obtain rfl:=oi h
      exact lR dY (dX 0) dW (bB.mk (.inr rfl) (p:=[]) (l:=[(sD Ri),(sI 1)]) (by kernel_rfl) trivial (eO.refl _) trivial)
     ·refine cf hb2 ?_
      refine aP (sz tT ⟨[(7,(vP 9 0)),(Nn l u0),(Gs l),(GJ l),(25,(vI u0)),(RA u3),(45,(vI 0))],(Gn u3)⟩ {} [] ?_)
      refine bE h fun y hy h=> ?_
      refine aL [1] (vT l u3 u0) (wB l u0) (oL l) hy (fun s f h=> ?_) ?_
      ·clear hy
       show bJ _ _ _ _ _ _ ((D9 l u3 u0) f) _
       unfold vX at h
       obtain⟨u1,u2⟩:=s
       refine sz tT ⟨[(7,(vP 9 0)),(Nn l u0),(Gs l),(GJ l),(25,(vI u0)),(RA u3),(45,(vI u2)),(46,(Uu u2 u3))],(Gn u1)⟩ {} [] ?_
       refine aQ ?_
       refine bI h (fun hb1 h=> ?_) (fun hb1 h=> ?_)
       ·refine ct hb1 ?_
        refine aP (aQ (aB (sz tT ⟨[(7,(vP 9 0)),(Nn l u0),(10,(vI u2)),(Gs l),(GJ l),(25,(vI u0)),(RA u3),(45,(vI u2))],(Gn u1)⟩ {} [] ?_)))
        refine aQ (bE h fun u7 hr_2 h=> ?_)
        have q0:=Ad ((at' l u0.toNat).links) u2 hr_2
        refine rg tT ⟨[(7,(vP 9 0)),(Nn l u0),(10,(vI u2)),(Gs l),(GJ l),(25,(vI u0)),(RA u3),(45,(vI u2)),(51,(vB u7))],(Gn u1)⟩ [_] {an:=[(3,cA q0 [])] } [] ⟨q0,trivial⟩ ?_
        refine bI h (fun hb h=> ?_) (fun hb h=> ?_)
        ·refine ct hb ?_
         refine aO h fun a1 h=> ?_
         refine di tT mX ⟨(aaC l u0 u3 u2),[(8,some (.arr 3 1 u1.length (Z8 l u0 u1 u2))),(9,some (.cells 40 [(.own 8 true u1.length)]))]⟩ [_,_,_,_,aG u1.length 1 (jZ (aC (au .i64) u1) u2.toNat 0 [(.int .i64 (IntKind.wrap .i64 ((at' u1 u2.toNat)+((at' l u0.toNat).amps))))]) (Z8 l u0 u1 u2)] {an:=[(8, .arr 0 (Z8 l u0 u1 u2))] } [] ⟨a1,(tL a1),a1,(tL a1),(bL _ _ _ _ _ _ _ _ rfl (fun j hj=>(match j,hj with|0,_=>rfl))),trivial⟩ (bM.le (st':=⟨(aaC l u0 u3 u2),(adS l u0 u1 u2)⟩) ⟨⟨tR,tR,tR,tR,tR,tR,tR,trivial⟩,⟨rfl,oW,⟨rfl,bA ⟨cW,trivial⟩,trivial⟩⟩⟩) ?_
         refine rz tT ⟨(adA l u0 u2 u3),(adS l u0 u1 u2)⟩ {} [] ?_
         obtain rfl:=oi h
         exact lN
        ·refine cf hb ?_
         refine aP (rz tT ⟨(adA l u0 u2 u3),(Gn u1)⟩ {} [] ?_)
         obtain rfl:=oi h
         exact lN
       ·refine cf hb1 ?_
        refine aI (fz (aas l u1 u0) []) ?_
        refine aX ?_
        obtain rfl:=oi h
        exact lB
      ·clear hy
       cases y with
       |brk z=>
        obtain⟨u6,rfl⟩: ∃q,q=z:=⟨_,rfl⟩
        unfold gm
        refine⟨_, .refl, ?_⟩
        refine rz tT ⟨[(7,(vP 9 0)),(Gs l),(GJ l),(25,(k3 u0))],(Gn u6)⟩ {} [] ?_
        obtain rfl:=oi h
        exact lN
       |ret v=>
        obtain rfl:=oi h
        unfold gm
        intro e st hn ha hR
        cases e with
        |normal=>exact absurd rfl hn
        |exit id=>simp only [qA (b:=1) ha rfl,cond_false];exact hR
        |goto l=>exact hR
        |ret=>exact hR
        |panic c=>exact hR
        |outgrown=>exact hR
    ·refine cf hb3 ?_
     refine aI (fz (afg u3) []) ?_
     refine aX ?_
     obtain rfl:=oi h
     exact lB
   ·clear hy
    cases y1 with
    |brk z=>
     obtain⟨u4,rfl⟩: ∃q,q=z:=⟨_,rfl⟩
     unfold gm
     refine⟨_, .refl, ?_⟩
     refine sg tT ⟨[(4,(vD (Rm u4))),(5,(vI 0))],[]⟩ [u4.length=u4.length] {} [8] ⟨rfl,trivial⟩ ?_
     refine aR ?_
     obtain rfl:=oi h
     exact rl [(sD (Rm u4)),(sI 0)]
    |ret v=>
     obtain rfl:=oi h
     unfold gm
     intro e st hn ha hR
     cases e with
     |normal=>exact absurd rfl hn
     |exit id=>exact hR
     |goto l=>exact hR
     |ret=>exact hR
     |panic c=>exact hR
     |outgrown=>exact hR
def FP  :Bool→Exit→St→Prop:=
  fun r=>bB TT [.tmp 4] (vB r) []
theorem kR (s_:State) (b:Int) {r:Bool} (h:fP s_ b=some r):Fn Try.prog 79 [(.agg (SG s_)),(sI b)] [] (vB r) []:=by
 refine fN tT Try.func79 rfl rfl fun B=> ?_
 show bJ _ _ _ _ _ _ (FP r) _
 unfold fP at h
 refine sz tT ⟨[(1,(vI b)),(2,(k74 s_))],[]⟩ {fr:=[(0,1)] } [1] ?_
 refine aQ (aO h fun a1 h=> ?_)
 refine rg tT ⟨[(4,(vB (bif (decide (0≤b))then(!(at' s_.badBus b.toNat))else false)))],[]⟩ (eqs (decide (0≤b)) 4 ((gP (jl [(2,(decide (0≤b)))]) [(2,true)]→All [(0:Int)≤b∧b<(s_.badBus.length:Int)])::(eqs (decide (0≤b)) 3 []))) {yb:=[(2,(decide (0≤b)))] } [] (ae ⟨(fun hg=> ⟨(a1 (aZ hg)),trivial⟩),(ae trivial)⟩) ?_
 refine aR ?_
 obtain rfl:=oi h
 exact rl [(sB (bif (decide (0≤b))then(!(at' s_.badBus b.toNat))else false))]
def AQ  :(Int × Network)→Exit→St→Prop:=
  fun r=>bB TT [.tmp 10] (vI r.1) [(0,some (.cells 161 [(.own 3 false r.2.arcs.length),(.own 2 true r.2.from_.length)])),(1,none),(2,some (.rows 40 1 r.2.from_.length (yI rW r.2.from_) none)),(3,some (cu 170 2 aY.cell r.2.arcs))]
section
variable (u0:Network) (b:Int) (u1:Int) (a:Int) (u2:Int)
abbrev Um:Nat × Option Ob:=(1,some (cu 170 2 aY.cell u0.arcs))
abbrev Y6:List (Nat × Option Ob):=[(0,some (.cells 161 [(.own 1 false u0.arcs.length),(.own 2 true u0.from_.length)])),(Um u0),(2,some (.rows 40 1 u0.from_.length (yI rW u0.from_) none))]
abbrev PV:=(u0.arcs++[(⟨b,u1⟩:aY),(⟨a,u2⟩:aY)])
abbrev Xr:=((PV u0 b u1 a u2).length)
abbrev acB:Nat × Option Ob:=(0,some (.cells 161 [(.own 12 false (Xr u0 b u1 a u2)),(.own 2 true u0.from_.length)]))
abbrev UY:Nat × Option Ob:=(12,some (cu 170 2 aY.cell (PV u0 b u1 a u2)))
abbrev PY:=((at' u0.from_ a.toNat)++[(u0.arcs.length:Int)])
abbrev Ju:=(u0.from_.set a.toNat (PY u0 a))
abbrev Vd:=(yI rW (Ju u0 a))
abbrev aaP:=(aC (au .i64) (PY u0 a))
abbrev agr:Nat × Option Ob:=(0,some (.cells 161 [(.own 12 false (Xr u0 b u1 a u2)),(.own 2 true ((Ju u0 a).length))]))
abbrev KX:=(at' (Ju u0 a) b.toNat)
abbrev NU:=(IntKind.wrap .i64 ((u0.arcs.length:Int)+1))
abbrev O4:=((KX u0 b a)++[(NU u0)])
abbrev abr:=((Ju u0 a).set b.toNat (O4 u0 b a))
abbrev Xn:=(yI rW (abr u0 b a))
abbrev Y1:=(aC (au .i64) [(NU u0)])
abbrev afh:=((KX u0 b a).length+[(NU u0)].length)
abbrev aam:=(aC (au .i64) (O4 u0 b a))
abbrev acG:=((abr u0 b a).length)
abbrev afq:Nat × Option Ob:=(2,some (.rows 40 1 (abr u0 b a).length (Xn u0 b a) none))
abbrev acP:List (Nat × Option Ob):=[(0,some (.cells 161 [(.own 12 false (Xr u0 b u1 a u2)),(.own 2 true (acG u0 b a))])),(1,none),(afq u0 b a),(UY u0 b u1 a u2)]
end
theorem bY (a:Int) (b:Int) (u1:Int) (u2:Int) (u0:Network) {r:(Int × Network)} (h:dh a b u1 u2 u0=some r):Fn Try.prog 77 [(.one (.ptr 0 0)),(sI a),(sI b),(sI u1),(sI u2)] (Y6 u0) (vI r.1) [(0,some (.cells 161 [(.own 3 false r.2.arcs.length),(.own 2 true r.2.from_.length)])),(1,none),(2,some (.rows 40 1 r.2.from_.length (yI rW r.2.from_) none)),(3,some (cu 170 2 aY.cell r.2.arcs))]:=by
 refine fN tT Try.func77 rfl rfl fun B=> ?_
 show bJ _ _ _ _ _ _ (AQ r) _
 unfold dh at h
 refine sz tT ⟨[(0,(vP 0 0)),(1,(vI a)),(2,(vI b)),(3,(vI u1)),(4,(vI u2))],(Y6 u0)⟩ {} [] ?_
 refine sz tT ⟨[(0,(vP 0 0)),(1,(vI a)),(2,(vI b)),(3,(vI u1)),(4,(vI u2)),(11,(vI (u0.arcs.length:Int)))],(Y6 u0)⟩ {} [] ?_
 refine aQ (aO h fun⟨a1,a2⟩ h=> ?_)
 refine rg tT ⟨[(0,(vP 0 0)),(1,(vI a)),(2,(vI b)),(11,(vI (u0.arcs.length:Int)))],[(acB u0 b u1 a u2),(1,none),(2,some (.rows 40 1 u0.from_.length (yI rW u0.from_) none)),(UY u0 b u1 a u2)]⟩ [[(⟨b,u1⟩:aY),(⟨a,u2⟩:aY)].length=2,aG 2 2 (jD 2 [(.int .i64 b),(.int .i64 u1),(.int .i64 a),(.int .i64 u2)]) (aC aY.cell [(⟨b,u1⟩:aY),(⟨a,u2⟩:aY)]),u0.arcs.length=u0.arcs.length,_,_,(PV u0 b u1 a u2).length=u0.arcs.length+[(⟨b,u1⟩:aY),(⟨a,u2⟩:aY)].length,aG (u0.arcs.length+[(⟨b,u1⟩:aY),(⟨a,u2⟩:aY)].length) 2 (D8 (aC aY.cell u0.arcs) u0.arcs.length (aC aY.cell [(⟨b,u1⟩:aY),(⟨a,u2⟩:aY)])) (aC aY.cell (PV u0 b u1 a u2))] {an:=[(11, .arr [(⟨b,u1⟩:aY),(⟨a,u2⟩:aY)].length (aC aY.cell [(⟨b,u1⟩:aY),(⟨a,u2⟩:aY)])),(12, .arr (PV u0 b u1 a u2).length (aC aY.cell (PV u0 b u1 a u2)))],fr:=[(11,11),(12,12)] } [] ⟨(rfl),((by intro i hi j hj;match i,j,hi,hj with|0,0,_,_=>rfl|0,1,_,_=>rfl|1,0,_,_=>rfl|1,1,_,_=>rfl)),rfl,a1,a2,(List.length_append),(mR _ _ _ _),trivial⟩ ?_
 refine aQ (aO h fun⟨a1,a2,a3⟩ h=> ?_)
 refine di tT mX ⟨[(0,(vP 0 0)),(2,(vI b)),(11,(vI (u0.arcs.length:Int)))],[(acB u0 b u1 a u2),(1,none),(2,some (.rows 40 1 u0.from_.length (Vd u0 a) none)),(UY u0 b u1 a u2)]⟩ [(0:Int)≤a∧a<(u0.from_.length:Int),a.toNat<u0.from_.length,[(u0.arcs.length:Int)].length=1,aG 1 1 (jD 1 [(.int .i64 (u0.arcs.length:Int))]) (aC (au .i64) [(u0.arcs.length:Int)]),(at' u0.from_ a.toNat).length=(at' u0.from_ a.toNat).length,((at' u0.from_ a.toNat).length+[(u0.arcs.length:Int)].length)*8≤140737488355328,(at' u0.from_ a.toNat).length+[(u0.arcs.length:Int)].length≤4611686018427387904,(PY u0 a).length=(at' u0.from_ a.toNat).length+[(u0.arcs.length:Int)].length,aG ((at' u0.from_ a.toNat).length+[(u0.arcs.length:Int)].length) 1 (D8 (aC (au .i64) (at' u0.from_ a.toNat)) (at' u0.from_ a.toNat).length (aC (au .i64) [(u0.arcs.length:Int)])) (aaP u0 a),(0:Int)≤a∧a<(u0.from_.length:Int),a.toNat<u0.from_.length,(PY u0 a).length=(PY u0 a).length,V9 u0.from_.length 1 (ZH (yI rW u0.from_) a.toNat 0 (.row 3 1 (PY u0 a).length (aaP u0 a))) (Vd u0 a),∀i0 j0 c0,((some (a.toNat,0,CV.own 13 false (at' u0.from_ a.toNat).length)):Option (Nat × Nat × CV))=some (i0,j0,c0)→i0=a.toNat∧j0=0] {an:=[(11, .take 13),(13, .arr [(u0.arcs.length:Int)].length (aC (au .i64) [(u0.arcs.length:Int)])),(14, .arr (PY u0 a).length (aaP u0 a)),(16, .rows 0 (Vd u0 a))],fr:=[(13,14),(14,15)] } [] ⟨a1,(tL a1),(rfl),((by intro i hi j hj;match i,j,hi,hj with|0,0,_,_=>rfl)),rfl,a2,a3,(List.length_append),(mR _ _ _ _),a1,(tL a1),rfl,(MH _ _ _ _ _ _ _ _ rfl (fun j hj=>(match j,hj with|0,_=>rfl))),((fun i0 j0 c0 e=>by cases e;exact⟨rfl,rfl⟩)),trivial⟩ (bM.le (st':=⟨[(0,(vP 0 0)),(2,(vI b)),(11,(vI (u0.arcs.length:Int)))],[(agr u0 b u1 a u2),(1,none),(2,some (.rows 40 1 (Ju u0 a).length (Vd u0 a) none)),(UY u0 b u1 a u2)]⟩) ⟨⟨tR,tR,tR,trivial⟩,⟨rfl,bA ⟨dO.refl _,cW,trivial⟩,⟨rfl, .refl _,⟨rfl,Md (by simp only [List.length_set,List.length_append,List.length_cons,List.length_nil,List.length_replicate,List.length_drop]),⟨rfl, .refl _,trivial⟩⟩⟩⟩⟩) ?_
 refine aQ (aO h fun⟨a1,a2,a3⟩ h=> ?_)
 refine di tT mX ⟨[(11,(vI (u0.arcs.length:Int)))],[(agr u0 b u1 a u2),(1,none),(2,some (.rows 40 1 (Ju u0 a).length (Xn u0 b a) none)),(UY u0 b u1 a u2)]⟩ [(0:Int)≤b∧b<((Ju u0 a).length:Int),b.toNat<(Ju u0 a).length,[(NU u0)].length=1,aG 1 1 (jD 1 [(.int .i64 (NU u0))]) (Y1 u0),(KX u0 b a).length=(KX u0 b a).length,(afh u0 b a)*8≤140737488355328,(KX u0 b a).length+[(NU u0)].length≤4611686018427387904,(O4 u0 b a).length=(KX u0 b a).length+[(NU u0)].length,aG (afh u0 b a) 1 (D8 (aC (au .i64) (KX u0 b a)) (KX u0 b a).length (Y1 u0)) (aam u0 b a),(0:Int)≤b∧b<((Ju u0 a).length:Int),b.toNat<(Ju u0 a).length,(O4 u0 b a).length=(O4 u0 b a).length,V9 (Ju u0 a).length 1 (ZH (Vd u0 a) b.toNat 0 (.row 3 1 (O4 u0 b a).length (aam u0 b a))) (Xn u0 b a),∀i0 j0 c0,((some (b.toNat,0,CV.own 16 false (KX u0 b a).length)):Option (Nat × Nat × CV))=some (i0,j0,c0)→i0=b.toNat∧j0=0] {an:=[(11, .take 16),(14, .arr [(NU u0)].length (Y1 u0)),(15, .arr (O4 u0 b a).length (aam u0 b a)),(17, .rows 0 (Xn u0 b a))],fr:=[(14,17),(15,18)] } [] ⟨a1,(tL a1),(rfl),((by intro i hi j hj;match i,j,hi,hj with|0,0,_,_=>rfl)),rfl,a2,a3,(List.length_append),(mR _ _ _ _),a1,(tL a1),rfl,(MH _ _ _ _ _ _ _ _ rfl (fun j hj=>(match j,hj with|0,_=>rfl))),((fun i0 j0 c0 e=>by cases e;exact⟨rfl,rfl⟩)),trivial⟩ (bM.le (st':=⟨[(11,(vI (u0.arcs.length:Int)))],(acP u0 b u1 a u2)⟩) ⟨⟨tR,trivial⟩,⟨rfl,bA ⟨dO.refl _,cW,trivial⟩,⟨rfl, .refl _,⟨rfl,Md (by simp only [List.length_set,List.length_append,List.length_cons,List.length_nil,List.length_replicate,List.length_drop]),⟨rfl, .refl _,trivial⟩⟩⟩⟩⟩) ?_
 refine sz tT ⟨[(10,(vI (u0.arcs.length:Int)))],(acP u0 b u1 a u2)⟩ {} [] ?_
 refine aI (bM.fin (st':=⟨[(10,(vI (u0.arcs.length:Int)))],[(0,some (.cells 161 [(.own 3 false (Xr u0 b u1 a u2)),(.own 2 true (acG u0 b a))])),(1,none),(afq u0 b a),(3,some (cu 170 2 aY.cell (PV u0 b u1 a u2)))]⟩) (cs:=[]) ⟨[],[(0,0),(1,1),(2,2),(12,3)]⟩ [10] (by kernel_rfl) trivial) ?_
 refine aR ?_
 obtain rfl:=oi h
 exact rh [(sI (u0.arcs.length:Int))] (.refl _) ⟨rfl, .refl _,⟨rfl,trivial,⟨rfl, .refl _,⟨rfl, .refl _,trivial⟩⟩⟩⟩
section
variable (u0:Network)
abbrev Jw:DV:=(aK none 1 (Jl 1 (au .i64)) u0.from_)
abbrev XW:Nat × Option Ob:=(0,some (.cells 161 [(.own 1 false u0.arcs.length),(.d (Jw u0))]))
abbrev ZO:List (Nat × Option Ob):=[(XW u0),(Um u0),(2,some (.cells 157 [(.ptr 0 0)]))]
end
def xD (u0:Network):Unit→Exit→St→Prop:=
  fun _=>bB TT [.tmp 2] (.v (.one (.fn 121 0 1 (AU [(.ptr 2 0)])))) (ZO u0)
section
variable (u0:Network)
abbrev aev:List (Nat × Option Ob):=[(XW u0),(Um u0)]
abbrev ab9:List (Nat × Option Ob):=[(XW u0),(Um u0),(3,some (.cells 157 [(.ptr 0 0)]))]
end
theorem jm (u0:Network) {r:Unit} (h:dP u0=some r):Fn Try.prog 81 [(.one (.ptr 0 0))] (aev u0) (.v (.one (.fn 121 0 1 (AU [(.ptr 2 0)])))) (ZO u0):=by
 refine fN tT Try.func81 rfl rfl fun B=> ?_
 show bJ _ _ _ _ _ _ ((xD u0) r) _
 unfold dP at h
 refine sz tT ⟨[(1,(vP 3 0))],(ab9 u0)⟩ {fr:=[(0,3)] } [] ?_
 refine sz tT ⟨[(2,(.v (.one (.fn 121 0 1 (AU [(.ptr 3 0)])))))],(ab9 u0)⟩ {} [] ?_
 refine aI (bM.fin (st':=⟨[(2,(.v (.one (.fn 121 0 1 (AU [(.ptr 2 0)])))))],(ZO u0)⟩) (cs:=[]) ⟨[],[(0,0),(1,1),(3,2)]⟩ [2] (by kernel_rfl) trivial) ?_
 refine aR ?_
 obtain rfl:=oi h
 exact rl [(.one (.fn 121 0 1 (AU [(.ptr 2 0)])))]
noncomputable def aJ:nR:=⟨[19,20],GN ([1,0,1,0,0,0,1,0,1,0]++[0]) (mY Try.f80),GN ([1,0,1,0,0,0,1,0,1,0]++[1]) (mY Try.f80),114,[.exit 1]⟩
section
variable (u0:Int)
abbrev MF:List (Nat × TV):=[(2,(vP 1 0)),(3,(vP 2 0)),(4,(vP 3 0))]
abbrev H6:Nat × Option Ob:=(1,some (.cells 157 [(.ptr 4 0)]))
abbrev IX:Nat × Option Ob:=(2,some (.cells 3 [(cI u0)]))
end
def uG (u0:Int):(Nat × (List Int) × Network)→Exit→St→Prop:=
  fun r=>ng 0 aJ (vB (Nat.beq r.1 0)) [(0,some (.loop aJ r.1 MF)),H6,(IX u0),(3,some (.cells 40 [(.own 5 true r.2.1.length)])),(4,some (.cells 161 [(.own 6 false r.2.2.arcs.length),(.d (aK none 1 (Jl 1 (au .i64)) r.2.2.from_))])),(5,some (cu 3 1 (au .i64) r.2.1)),(6,some (cu 170 2 aY.cell r.2.2.arcs))]
section
variable (o_:(List Int)) (u1:Int) (u2:Int) (u0:Network) (u3:Int) (u4:Int) (u5:Int)
abbrev NF:Nat × Option Ob:=(0,some (.loop aJ 1 MF))
abbrev RP:Nat × Option Ob:=(3,some (.cells 40 [(.own 5 true ((o_.set u1.toNat u2).length))]))
abbrev Wu:Nat × Option Ob:=(4,some (.cells 161 [(.own 6 false u0.arcs.length),(.d (Jw u0))]))
abbrev RO:Nat × Option Ob:=(5,some (cu 3 1 (au .i64) (o_.set u1.toNat u2)))
abbrev Wq:Nat × Option Ob:=(6,some (cu 170 2 aY.cell u0.arcs))
abbrev ET:List (Nat × Option Ob):=[NF,H6,(IX u3),(RP o_ u1 u2),(Wu u0),(RO o_ u1 u2),(Wq u0)]
abbrev Zo:St:=⟨[(2,(vP 1 0)),(3,(vP 2 0)),(4,(vP 3 0)),(7,(vI u4)),(8,(vI u5))],(ET o_ u1 u2 u0 u3)⟩
end
def kZ (u1:Int) (u2:Int) (u3:Int) (o_:(List Int)) (u0:Network):(Int × Int)→St:=
  fun zz=>match zz with|(u4,u5)=>(Zo o_ u1 u2 u0 u3 u4 u5)
section
variable (u4:Int) (u3:Int) (o_:(List Int)) (u1:Int) (u2:Int) (u0:Network)
abbrev ae0:St:=⟨[(2,(vP 1 0)),(3,(vP 2 0)),(4,(vP 3 0)),(7,(vI u4))],(ET o_ u1 u2 u0 u3)⟩
end
def lu (u1:Int) (u2:Int) (u3:Int) (o_:(List Int)) (u0:Network):Int→St:=
  fun u4=>(ae0 u4 u3 o_ u1 u2 u0)
section
variable (u0:Int)
abbrev Uv:=(uG u0)
end
def tC (u1:Int) (u2:Int) (u0:Int) (o_:(List Int)) (u3:Network):(aM (Int × Int) (Ex Int (Nat × (List Int) × Network)))→Exit→St→Prop:=
  LQ 4 [3] (kZ u1 u2 u0 o_ u3) (lu u1 u2 u0 o_ u3) (Uv u0)
section
variable (u5:Int) (u6:Int) (u2:(List aY)) (u4:Network) (u3:Int) (o_:(List Int)) (u0:Int) (u1:Int)
abbrev RD:List (Nat × TV):=[(2,(vP 1 0)),(4,(vP 3 0)),(7,(vI u5)),(10,(vI u6))]
abbrev agB:Nat × Option Ob:=(4,some (.cells 161 [(.own 6 false u2.length),(.d (Jw u4))]))
abbrev Zk:List (Nat × Option Ob):=[NF,H6,(IX u3),(RP o_ u0 u1),(agB u2 u4),(RO o_ u0 u1),(6,some (cu 170 2 aY.cell u2))]
end
def lq (u0:Int) (u1:Int) (u3:Int) (o_:(List Int)) (u4:Network) (u5:Int):((List aY) × Int)→St:=
  fun zz=>match zz with|(u2,u6)=> ⟨(RD u5 u6),(Zk u2 u4 u3 o_ u0 u1)⟩
section
variable (u3:Int) (o_:(List Int)) (u0:Int) (u1:Int) (u2:(List aY)) (u4:Network)
abbrev ac5:St:=⟨[],(Zk u2 u4 u3 o_ u0 u1)⟩
end
def lG (u0:Int) (u1:Int) (u3:Int) (o_:(List Int)) (u4:Network):(List aY)→St:=
  fun u2=>(ac5 u3 o_ u0 u1 u2 u4)
def tJ (u1:Int) (u2:Int) (u0:Int) (o_:(List Int)) (u3:Network) (u4:Int):(aM ((List aY) × Int) (Ex (List aY) (Nat × (List Int) × Network)))→Exit→St→Prop:=
  LQ 6 [3] (lq u1 u2 u0 o_ u3 u4) (lG u1 u2 u0 o_ u3) (Uv u0)
section
variable (u6:Int) (o_:(List Int)) (u4:Network) (u0:Int) (u1:Int) (u7:Int) (u3:(List aY)) (u2:Int) (u5:Int)
abbrev Vl:List (Nat × Option Ob):=[(0,some (.loop aJ 0 MF)),H6,(IX u6),(3,some (.cells 40 [(.own 5 true o_.length)])),(Wu u4),(5,some (Bt o_)),(Wq u4)]
abbrev aad:List (Nat × TV):=[(2,(vP 1 0)),(3,(vP 2 0)),(4,(vP 3 0)),(5,(vI u0)),(6,(vI u1))]
abbrev Uh:=((IntKind.wrap .i64 (((BitVec.ofInt (IntKind.bits .i64) (at' (o_.set u0.toNat u1) u7.toNat) ^^^ BitVec.ofInt (IntKind.bits .i64) 1).toNat:Int))).toNat)
abbrev PZ:=(u3.set ((at' (o_.set u0.toNat u1) u2.toNat).toNat) (⟨(at' u3 ((at' (o_.set u0.toNat u1) u2.toNat).toNat)).to_,(IntKind.wrap .i64 (((at' u3 ((at' (o_.set u0.toNat u1) u2.toNat).toNat)).left) - u5))⟩:aY))
abbrev WK:=(aC aY.cell (PZ o_ u0 u1 u3 u2 u5))
abbrev abI:Nat × Option Ob:=(4,some (.cells 161 [(.own 6 false ((PZ o_ u0 u1 u3 u2 u5).length)),(.d (Jw u4))]))
abbrev aeC:=(at' (PZ o_ u0 u1 u3 u2 u5) (Uh o_ u0 u1 u2))
abbrev aen:=(IntKind.wrap .i64 (((aeC o_ u0 u1 u3 u2 u5).left)+u5))
abbrev X6:=((PZ o_ u0 u1 u3 u2 u5).set (Uh o_ u0 u1 u2) (⟨(aeC o_ u0 u1 u3 u2 u5).to_,(aen o_ u0 u1 u3 u2 u5)⟩:aY))
abbrev aaY:=(aC aY.cell (X6 o_ u0 u1 u3 u2 u5))
abbrev abN:List (Nat × Option Ob):=[NF,H6,(IX u6),(RP o_ u0 u1),(4,some (.cells 161 [(.own 6 false ((X6 o_ u0 u1 u3 u2 u5).length)),(.d (Jw u4))])),(RO o_ u0 u1),(6,some (cu 170 2 aY.cell (X6 o_ u0 u1 u3 u2 u5)))]
end
theorem kY (u0:Int) (u1:Int) (u6:Int) (o_:(List Int)) (u4:Network) {r:(Nat × (List Int) × Network)} (h:bT u0 u1 u6 o_ u4=some r):Yl Try.prog 0 [(sI u0),(sI u1)] (Vl u6 o_ u4) (vB (Nat.beq r.1 0)) [(0,some (.loop aJ r.1 MF)),H6,(IX u6),(3,some (.cells 40 [(.own 5 true r.2.1.length)])),(4,some (.cells 161 [(.own 6 false r.2.2.arcs.length),(.d (aK none 1 (Jl 1 (au .i64)) r.2.2.from_))])),(5,some (cu 3 1 (au .i64) r.2.1)),(6,some (cu 170 2 aY.cell r.2.2.arcs))]:=by
 refine DC (r:=aJ) (sl:=MF) (sl1:=(aad u0 u1)) (h1:=(Vl u6 o_ u4)) (sl2:=MF) (by kernel_rfl) rfl rfl (by kernel_rfl) (fun rd B=> ?_) (by kernel_rfl) (fun rd B=> ?_)
 ·refine qR (c:=GN ([1,0,1,0,0,0,1,0,1,0]++[0]) (mY Try.f80)) rfl ?_
  refine oq (st:=⟨[(19,(vI u0)),(20,(vI u1)),(2,(vP 1 0)),(3,(vP 2 0)),(4,(vP 3 0))],(Vl u6 o_ u4)⟩) (by kernel_rfl) ?_
  refine sz tT ⟨[(2,(vP 1 0)),(3,(vP 2 0)),(4,(vP 3 0)),(5,(vI u0)),(20,(vI u1))],(Vl u6 o_ u4)⟩ {} [] ?_
  refine rz tT ⟨(aad u0 u1),(Vl u6 o_ u4)⟩ {} [] ?_
  exact⟨rfl,rfl⟩
 ·refine qR (c:=GN ([1,0,1,0,0,0,1,0,1,0]++[1]) (mY Try.f80)) rfl ?_
  refine oq (st:=⟨(aad u0 u1),[NF,H6,(IX u6),(3,some (.cells 40 [(.own 5 true o_.length)])),(Wu u4),(5,some (Bt o_)),(Wq u4)]⟩) (by kernel_rfl) ?_
  show bJ _ _ _ _ _ _ ((Uv u6) r) _
  unfold bT at h
  refine aB (aQ (aO h fun a1 h=> ?_))
  refine ri tT ⟨[(2,(vP 1 0)),(3,(vP 2 0)),(4,(vP 3 0)),(5,(vI u0))],[NF,H6,(IX u6),(3,some (.cells 40 [(.own 5 true o_.length)])),(Wu u4),(5,some (.arr 3 1 o_.length (aC (au .i64) (o_.set u0.toNat u1)))),(Wq u4)]⟩ [_,_,aG o_.length 1 (jZ (aC (au .i64) o_) u0.toNat 0 [(.int .i64 u1)]) (aC (au .i64) (o_.set u0.toNat u1))] {an:=[(4, .arr 0 (aC (au .i64) (o_.set u0.toNat u1)))] } [] ⟨a1,(tL a1),(bL _ _ _ _ _ _ _ _ rfl (fun j hj=>(match j,hj with|0,_=>rfl))),trivial⟩ (bM.le (st':=⟨[(2,(vP 1 0)),(3,(vP 2 0)),(4,(vP 3 0)),(5,(vI u0))],(ET o_ u0 u1 u4 u6)⟩) ⟨⟨tR,tR,tR,tR,trivial⟩,(hN 3 ⟨rfl,bA ⟨cW,trivial⟩,⟨rfl, .refl _,⟨rfl,oW,⟨rfl, .refl _,trivial⟩⟩⟩⟩)⟩) ?_
  refine aQ (sz tT ⟨[(2,(vP 1 0)),(3,(vP 2 0)),(4,(vP 3 0)),(27,(vB (!decide (u0=u6))))],(ET o_ u0 u1 u4 u6)⟩ {} [] ?_)
  refine bI h (fun hb3 h=> ?_) (fun hb3 h=> ?_)
  ·refine ct hb3 ?_
   refine aI (fz ⟨[],(ET o_ u0 u1 u4 u6)⟩ []) ?_
   refine aX ?_
   obtain rfl:=oi h
   exact ng.on (sl:=MF) (by kernel_rfl) (zn (by kernel_rfl)) (eO.refl _)
  ·refine cf hb3 ?_
   refine aP (sz tT ⟨[(2,(vP 1 0)),(3,(vP 2 0)),(4,(vP 3 0)),(7,(vI (-1)))],(ET o_ u0 u1 u4 u6)⟩ {} [] ?_)
   refine aQ (sz tT ⟨[(2,(vP 1 0)),(3,(vP 2 0)),(4,(vP 3 0)),(7,(vI (-1))),(8,(vI u6))],(ET o_ u0 u1 u4 u6)⟩ {} [] ?_)
   refine bE h fun y1 hy h=> ?_
   refine aL [3] (kZ u0 u1 u6 o_ u4) (lu u0 u1 u6 o_ u4) (Uv u6) hy (fun s f h=> ?_) ?_
   ·clear hy
    show bJ _ _ _ _ _ _ ((tC u0 u1 u6 o_ u4) f) _
    unfold bC at h
    obtain⟨u8,u7⟩:=s
    refine aQ (aQ (aO h fun a1 h=> ?_))
    refine rg tT ⟨[(2,(vP 1 0)),(3,(vP 2 0)),(4,(vP 3 0)),(7,(vI u8)),(8,(vI u7)),(33,(vB (decide (0≤(at' (o_.set u0.toNat u1) u7.toNat)))))],(ET o_ u0 u1 u4 u6)⟩ [_,_] {} [] ⟨a1,(tL a1),trivial⟩ ?_
    refine bI h (fun hb1 h=> ?_) (fun hb1 h=> ?_)
    ·refine ct hb1 ?_
     refine aP (bE h fun y hy h=> ?_)
     refine Rh (o:=y) (fun u9=>(Zo o_ u0 u1 u4 u6 u9 u7)) ?_ ?_
     ·replace h:=hy
      clear hy
      refine aB (aQ (aO h fun⟨a1,a2⟩ h=> ?_))
      refine dg tT mX ⟨[(2,(vP 1 0)),(3,(vP 2 0)),(4,(vP 3 0)),(7,(vI u8)),(8,(vI u7)),(9,(vI ((at' u4.arcs ((at' (o_.set u0.toNat u1) u7.toNat).toNat)).left)))],(ET o_ u0 u1 u4 u6)⟩ [_,_,_,_] {} [] ⟨a1,(tL a1),a2,(tL a2),trivial⟩ ?_
      refine sg tT ⟨[(2,(vP 1 0)),(3,(vP 2 0)),(4,(vP 3 0)),(7,(vI u8)),(8,(vI u7)),(9,(vI ((at' u4.arcs ((at' (o_.set u0.toNat u1) u7.toNat).toNat)).left))),(63,(vB (bif (decide (u8<0))then true else(decide (((at' u4.arcs ((at' (o_.set u0.toNat u1) u7.toNat).toNat)).left)<u8)))))],(ET o_ u0 u1 u4 u6)⟩ (eqs (decide (u8<0)) 4 []) {yb:=[(2,(decide (u8<0)))] } [] (ae trivial) ?_
      refine bI h (fun hb h=> ?_) (fun hb h=> ?_)
      ·refine ct hb ?_
       refine rz tT ⟨[(2,(vP 1 0)),(3,(vP 2 0)),(4,(vP 3 0)),(7,(vI ((at' u4.arcs ((at' (o_.set u0.toNat u1) u7.toNat).toNat)).left))),(8,(vI u7))],(ET o_ u0 u1 u4 u6)⟩ {} [] ?_
       obtain rfl:=oi h
       exact⟨rfl,by kernel_rfl⟩
      ·refine cf hb ?_
       refine aI (fz (Zo o_ u0 u1 u4 u6 u8 u7) []) ?_
       refine aP ?_
       obtain rfl:=oi h
       exact⟨rfl,by kernel_rfl⟩
     ·clear hy
      obtain⟨u9,rfl⟩: ∃q,q=y:=⟨_,rfl⟩
      refine aO h fun⟨a1,a2⟩ h=> ?_
      refine dg tT mX ⟨[(2,(vP 1 0)),(3,(vP 2 0)),(4,(vP 3 0)),(7,(vI u9)),(8,(vI ((at' u4.arcs (Uh o_ u0 u1 u7)).to_)))],(ET o_ u0 u1 u4 u6)⟩ [_,_,_,_] {} [] ⟨a1,(tL a1),a2,(tL a2),trivial⟩ ?_
      obtain rfl:=oi h
      exact lN
    ·refine cf hb1 ?_
     refine aI (fz (ae0 u8 u6 o_ u0 u1 u4) []) ?_
     refine aX ?_
     obtain rfl:=oi h
     exact lB
   ·clear hy
    cases y1 with
    |brk z=>
     obtain⟨u5,rfl⟩: ∃q,q=z:=⟨_,rfl⟩
     unfold gm
     refine⟨_, .refl, ?_⟩
     refine aQ (sz tT ⟨(RD u5 u6),(ET o_ u0 u1 u4 u6)⟩ {} [] ?_)
     refine bE h fun y2 hy h=> ?_
     refine aL [3] (lq u0 u1 u6 o_ u4 u5) (lG u0 u1 u6 o_ u4) (Uv u6) hy (fun s f h=> ?_) ?_
     ·clear hy
      show bJ _ _ _ _ _ _ ((tJ u0 u1 u6 o_ u4 u5) f) _
      unfold bD at h
      obtain⟨u3,u2⟩:=s
      refine aQ (aQ (aO h fun a1 h=> ?_))
      refine rg tT ⟨[(2,(vP 1 0)),(4,(vP 3 0)),(7,(vI u5)),(10,(vI u2)),(70,(vB (decide (0≤(at' (o_.set u0.toNat u1) u2.toNat)))))],(Zk u3 u4 u6 o_ u0 u1)⟩ [_,_] {} [] ⟨a1,(tL a1),trivial⟩ ?_
      refine bI h (fun hb2 h=> ?_) (fun hb2 h=> ?_)
      ·refine ct hb2 ?_
       refine aP (aQ (aB (aQ (aO h fun⟨a1,a2⟩ h=> ?_))))
       refine di tT mX ⟨(RD u5 u2),[NF,H6,(IX u6),(RP o_ u0 u1),(agB u3 u4),(RO o_ u0 u1),(6,some (.arr 170 2 u3.length (WK o_ u0 u1 u3 u2 u5)))]⟩ [_,_,_,_,_,_,aG u3.length 2 (jZ (aC aY.cell u3) ((at' (o_.set u0.toNat u1) u2.toNat).toNat) 1 [(.int .i64 (IntKind.wrap .i64 (((at' u3 ((at' (o_.set u0.toNat u1) u2.toNat).toNat)).left) - u5)))]) (WK o_ u0 u1 u3 u2 u5)] {an:=[(15, .arr 0 (WK o_ u0 u1 u3 u2 u5))] } [] ⟨a1,(tL a1),a2,(tL a2),a2,(tL a2),(bL _ _ _ _ _ _ _ _ rfl (fun j hj=>(match j,hj with|0,_=>rfl|1,_=>rfl))),trivial⟩ (bM.le (st':=⟨(RD u5 u2),[NF,H6,(IX u6),(RP o_ u0 u1),(abI o_ u4 u0 u1 u3 u2 u5),(RO o_ u0 u1),(6,some (cu 170 2 aY.cell (PZ o_ u0 u1 u3 u2 u5)))]⟩) ⟨⟨tR,tR,tR,tR,trivial⟩,(hN 4 ⟨rfl,bA ⟨cW,dO.refl _,trivial⟩,⟨rfl, .refl _,⟨rfl,oW,trivial⟩⟩⟩)⟩) ?_
       refine aO h fun⟨a1,a2⟩ h=> ?_
       refine di tT mX ⟨(RD u5 u2),[NF,H6,(IX u6),(RP o_ u0 u1),(abI o_ u4 u0 u1 u3 u2 u5),(RO o_ u0 u1),(6,some (.arr 170 2 (PZ o_ u0 u1 u3 u2 u5).length (aaY o_ u0 u1 u3 u2 u5)))]⟩ [_,_,_,_,_,_,aG (PZ o_ u0 u1 u3 u2 u5).length 2 (jZ (WK o_ u0 u1 u3 u2 u5) (Uh o_ u0 u1 u2) 1 [(.int .i64 (aen o_ u0 u1 u3 u2 u5))]) (aaY o_ u0 u1 u3 u2 u5)] {an:=[(16, .arr 0 (aaY o_ u0 u1 u3 u2 u5))] } [] ⟨a1,(tL a1),a2,(tL a2),a2,(tL a2),(bL _ _ _ _ _ _ _ _ rfl (fun j hj=>(match j,hj with|0,_=>rfl|1,_=>rfl))),trivial⟩ (bM.le (st':=⟨(RD u5 u2),(abN u6 o_ u4 u0 u1 u3 u2 u5)⟩) ⟨⟨tR,tR,tR,tR,trivial⟩,(hN 4 ⟨rfl,bA ⟨cW,dO.refl _,trivial⟩,⟨rfl, .refl _,⟨rfl,oW,trivial⟩⟩⟩)⟩) ?_
       refine aO h fun⟨a1,a2⟩ h=> ?_
       refine dg tT mX ⟨[(2,(vP 1 0)),(4,(vP 3 0)),(7,(vI u5)),(10,(vI ((at' (X6 o_ u0 u1 u3 u2 u5) (Uh o_ u0 u1 u2)).to_)))],(abN u6 o_ u4 u0 u1 u3 u2 u5)⟩ [_,_,_,_] {} [] ⟨a1,(tL a1),a2,(tL a2),trivial⟩ ?_
       obtain rfl:=oi h
       exact lN
      ·refine cf hb2 ?_
       refine aI (fz (ac5 u6 o_ u0 u1 u3 u4) []) ?_
       refine aX ?_
       obtain rfl:=oi h
       exact lB
     ·clear hy
      cases y2 with
      |brk z=>
       obtain⟨v0,rfl⟩: ∃q,q=z:=⟨_,rfl⟩
       unfold gm
       refine⟨_, .refl, ?_⟩
       refine aX ?_
       obtain rfl:=oi h
       exact ng.off (sl:=MF) (k:=0) (c:= .exit 1) (by kernel_rfl) rfl rfl (by kernel_rfl) (zn (by kernel_rfl)) (eO.refl _)
      |ret v=>
       obtain rfl:=oi h
       unfold gm
       intro e st hn ha hR
       cases e with
       |normal=>exact absurd rfl hn
       |exit id=>simp only [qA (b:=3) ha rfl,cond_false];exact hR
       |goto l=>exact hR
       |ret=>exact hR
       |panic c=>exact hR
       |outgrown=>exact hR
    |ret v=>
     obtain rfl:=oi h
     unfold gm
     intro e st hn ha hR
     cases e with
     |normal=>exact absurd rfl hn
     |exit id=>simp only [qA (b:=3) ha rfl,cond_false];exact hR
     |goto l=>exact hR
     |ret=>exact hR
     |panic c=>exact hR
     |outgrown=>exact hR
def Cx  :aH→Exit→St→Prop:=
  fun r=>bB TT [] (.iP []) [(0,some (.cells 226 [(.own 2 false r.l.length)])),(1,none),(2,some (cu 164 2 af.cell r.l))]
section
variable (o_:aH)
abbrev LX:Ob:=(cu 164 2 af.cell o_.l)
abbrev Wh:List (Nat × Option Ob):=[(0,some (.cells 226 [(.own 1 false o_.l.length)])),(1,some (LX o_))]
end
theorem rT (x:af) (o_:aH) {r:aH} (h:iN x o_=some r):Fn Try.prog 122 [(.one (.ptr 0 0)),(.agg [(cI x.e0),(cI x.e1)])] (Wh o_) (.iP []) [(0,some (.cells 226 [(.own 2 false r.l.length)])),(1,none),(2,some (cu 164 2 af.cell r.l))]:=by
 refine fN tT Try.func122 rfl rfl fun B=> ?_
 show bJ _ _ _ _ _ _ (Cx r) _
 unfold iN at h
 refine sz tT ⟨[(0,(vP 0 0)),(3,(vD (lV [(.int .i64 x.e0),(.int .i64 x.e1)] 0)))],(Wh o_)⟩ {fr:=[(0,5)] } [5] ?_
 refine aO h fun⟨a1,a2⟩ h=> ?_
 refine di tT mX ⟨[],[(0,some (.cells 226 [(.own 7 false ((o_.l++[x]).length))])),(1,none),(7,some (cu 164 2 af.cell (o_.l++[x])))]⟩ [[x].length=1,aG 1 2 (jD 2 [(.int .i64 x.e0),(.int .i64 x.e1)]) (aC af.cell [x]),o_.l.length=o_.l.length,_,_,(o_.l++[x]).length=o_.l.length+[x].length,aG (o_.l.length+[x].length) 2 (D8 (aC af.cell o_.l) o_.l.length (aC af.cell [x])) (aC af.cell (o_.l++[x]))] {an:=[(6, .arr [x].length (aC af.cell [x])),(7, .arr (o_.l++[x]).length (aC af.cell (o_.l++[x])))],fr:=[(6,6),(7,7)] } [] ⟨(rfl),((by intro i hi j hj;match i,j,hi,hj with|0,0,_,_=>rfl|0,1,_,_=>rfl)),rfl,a1,a2,(List.length_append),(mR _ _ _ _),trivial⟩ (bM.fin (st':=⟨[],[(0,some (.cells 226 [(.own 2 false ((o_.l++[x]).length))])),(1,none),(2,some (cu 164 2 af.cell (o_.l++[x])))]⟩) (cs:=[]) ⟨[],[(0,0),(1,1),(7,2)]⟩ [] (by kernel_rfl) trivial) ?_
 obtain rfl:=oi h
 exact bB.mk (.inl rfl) (p:=[]) (l:=[]) (by kernel_rfl) trivial (eO.refl _) ⟨rfl, .refl _,⟨rfl,trivial,⟨rfl, .refl _,trivial⟩⟩⟩
def BB  :(af × Bool × aH)→Exit→St→Prop:=
  fun r=>bB TT [.cell 2 164, .tmp 3] (.iP [(.agg [(cI r.1.e0),(cI r.1.e1)]),(sB r.2.1)]) [(0,some (.cells 226 [(.own 2 false r.2.2.l.length)])),(1,none),(2,some (cu 164 2 af.cell r.2.2.l))]
section
variable (o_:aH)
abbrev ael:List (Nat × Option Ob):=[(0,some (.cells 226 [(.own 1 false o_.l.length)])),(1,some (LX o_)),(4,some (.cells 164 [(cI 0),(cI 0)]))]
abbrev aaQ:List (Nat × TV):=[(2,(vD (lV [(.int .i64 0),(.int .i64 0)] 0))),(3,(vB false))]
abbrev aaz:Nat × Option Ob:=(4,some (.cells 164 [(cI ((at' o_.l 0).e0)),(cI ((at' o_.l 0).e1))]))
abbrev aeF:List (Nat × TV):=[(2,(vD (lV [(.int .i64 ((at' o_.l 0).e0)),(.int .i64 ((at' o_.l 0).e1))] 0))),(3,(vB true))]
end
theorem qX (o_:aH) {r:(af × Bool × aH)} (h:ig o_=some r):Fn Try.prog 123 [(.one (.ptr 0 0))] (Wh o_) (.iP [(.agg [(cI r.1.e0),(cI r.1.e1)]),(sB r.2.1)]) [(0,some (.cells 226 [(.own 2 false r.2.2.l.length)])),(1,none),(2,some (cu 164 2 af.cell r.2.2.l))]:=by
 refine fN tT Try.func123 rfl rfl fun B=> ?_
 show bJ _ _ _ _ _ _ (BB r) _
 unfold ig at h
 refine sz tT ⟨[(0,(vP 0 0)),(2,(vP 4 0))],(ael o_)⟩ {fr:=[(0,4)] } [] ?_
 refine aQ (sz tT ⟨[(0,(vP 0 0)),(2,(vP 4 0)),(9,(vB (decide ((o_.l.length:Int)=0))))],(ael o_)⟩ {} [] ?_)
 refine bI h (fun hb h=> ?_) (fun hb h=> ?_)
 ·refine ct hb ?_
  refine sz tT ⟨aaQ,(Wh o_)⟩ {} [4] ?_
  refine aI (.trans (bM.U3 (E0:=226) (cs:=[(.own 1 false o_.l.length)]) (nn:=false) (len:=o_.l.length) (E:=164) (esz:=2) (n:=o_.l.length) (el:=aC af.cell o_.l) (p:=0) (q:=0) (b:=1) (b':=5) (by kernel_rfl) (by kernel_rfl) (by kernel_rfl) (by kernel_rfl)) (.trans (fz ⟨aaQ,[(0,some (.cells 226 [(.own 5 false o_.l.length)])),(1,none),(5,some (LX o_))]⟩ []) (bM.fin (st':=⟨aaQ,[(0,some (.cells 226 [(.own 2 false o_.l.length)])),(1,none),(2,some (LX o_))]⟩) (cs:=[]) ⟨[],[(0,0),(1,1),(5,2)]⟩ [2,3] (by kernel_rfl) trivial))) ?_
  refine aR ?_
  obtain rfl:=oi h
  exact rh [(.agg [(cI 0),(cI 0)]),(sB false)] (.refl _) ⟨rfl, .refl _,⟨rfl,trivial,⟨rfl, .refl _,trivial⟩⟩⟩
 ·refine cf hb ?_
  refine aP (aQ (aO h fun⟨a1,a2⟩ h=> ?_))
  refine di tT mX ⟨[(2,(vP 4 0))],[(0,some (.cells 226 [(.own 6 false (o_.l.length - 1))])),(1,some (LX o_)),(aaz o_),(6,some (.suf 1 1 2))]⟩ [_,_,o_.l.length=o_.l.length,_] {an:=[(11, .cells)],fr:=[(11,6)] } [] ⟨a1,(tL a1),rfl,a2,trivial⟩ (.trans (bM.Zv (b:=1) (c:=6) (k:=1) (E:=164) (esz:=2) (cf:=af.cell) (l:=o_.l) (by kernel_rfl) (by kernel_rfl) (by omega)) (.trans (fz ⟨[(2,(vP 4 0))],[(0,some (.cells 226 [(.own 6 false (o_.l.length - 1))])),(1,none),(aaz o_),(6,some (.arr 164 2 (o_.l.length - 1) (aC af.cell (o_.l.drop 1))))]⟩ []) (bM.le (st':=⟨[(2,(vP 4 0))],[(0,some (.cells 226 [(.own 6 false ((o_.l.drop 1).length))])),(1,none),(aaz o_),(6,some (cu 164 2 af.cell (o_.l.drop 1)))]⟩) ⟨⟨tR,trivial⟩,⟨rfl,bA ⟨cW,trivial⟩,(hN 2 ⟨rfl,oW,trivial⟩)⟩⟩))) ?_
  refine sz tT ⟨(aeF o_),[(0,some (.cells 226 [(.own 6 false ((o_.l.drop 1).length))])),(1,none),(6,some (cu 164 2 af.cell (o_.l.drop 1)))]⟩ {} [4] ?_
  refine aI (bM.fin (st':=⟨(aeF o_),[(0,some (.cells 226 [(.own 2 false ((o_.l.drop 1).length))])),(1,none),(2,some (cu 164 2 af.cell (o_.l.drop 1)))]⟩) (cs:=[]) ⟨[],[(0,0),(1,1),(6,2)]⟩ [2,3] (by kernel_rfl) trivial) ?_
  refine aR ?_
  obtain rfl:=oi h
  exact rh [(.agg [(cI ((at' o_.l 0).e0)),(cI ((at' o_.l 0).e1))]),(sB true)] (.refl _) ⟨rfl, .refl _,⟨rfl,trivial,⟨rfl, .refl _,trivial⟩⟩⟩
section
variable (u0:Int)
abbrev Uc:List (Nat × TV):=[(2,(vP 2 0)),(3,(vP 3 0)),(4,(vP 4 0))]
abbrev rC:Nat × Option Ob:=(1,some (.cells 157 [(.ptr 5 0)]))
abbrev pQ:Nat × Option Ob:=(2,some (.cells 157 [(.ptr 5 0)]))
abbrev pV:Nat × Option Ob:=(3,some (.cells 3 [(cI u0)]))
end
def iW (u0:Int):(Nat × (List Int) × Network)→Exit→St→Prop:=
  fun r=>bB TT [] (.iP []) [(0,some (.loop aJ r.1 Uc)),rC,pQ,(pV u0),(4,some (.cells 40 [(.own 6 true r.2.1.length)])),(5,some (.cells 161 [(.own 7 false r.2.2.arcs.length),(.d (aK none 1 (Jl 1 (au .i64)) r.2.2.from_))])),(6,some (cu 3 1 (au .i64) r.2.1)),(7,some (cu 170 2 aY.cell r.2.2.arcs))]
section
variable (u2:(List Bool)) (u1:(List Int)) (u4:(List (List Int))) (q0:(List af)) (u5:Int) (u6:Int)
abbrev dZ:Nat × TV:=(0,(.v (.one (.yl 0))))
abbrev CO:Nat × TV:=(3,(vO 56 true u2.length))
abbrev XM:List (Nat × TV):=[dZ,(1,(vP 1 0)),(CO u2),(4,(vP 57 0)),(5,(vP 59 0))]
abbrev vE:Nat × Option Ob:=(0,some (.loop aJ 0 Uc))
abbrev JD:Nat × Option Ob:=(4,some (.cells 40 [(.own 6 true u1.length)]))
abbrev Po:DV:=(aK none 1 (Jl 1 (au .i64)) u4)
abbrev J3:Nat × Option Ob:=(6,some (Bt u1))
abbrev K4:Nat × Option Ob:=(56,some (cu 4 1 aj u2))
abbrev Sl:Nat × Option Ob:=(57,some (.cells 226 [(.own 58 false q0.length)]))
abbrev SI:Nat × Option Ob:=(58,some (cu 164 2 af.cell q0))
abbrev Ll:Nat × Option Ob:=(59,some (.cells 164 [(cI u5),(cI u6)]))
end
def lm (u3:Int):((List aY) × (List (List Int)) × (List Int) × (List Bool) × (List af) × Int × Int)→St:=
  fun zz=>match zz with|(u0,u4,u1,u2,q0,u5,u6)=> ⟨(XM u2),[vE,rC,pQ,(pV u3),(JD u1),(5,some (.cells 161 [(.own 7 false u0.length),(.d (Po u4))])),(J3 u1),(7,some (cu 170 2 aY.cell u0)),(K4 u2),(Sl q0),(SI q0),(Ll u5 u6)]⟩
def lQ  :Unit→St:=
  fun _=> ⟨[],[]⟩
def iJ (u0:Int):(aM ((List aY) × (List (List Int)) × (List Int) × (List Bool) × (List af) × Int × Int) (Ex Unit (Nat × (List Int) × Network)))→Exit→St→Prop:=
  LQ 0 [] (lm u0) lQ (iW u0)
section
variable (r_:(Nat × (List Int) × Network)) (u0:Int) (u3:Int) (u1:(List Bool)) (u2:(List af)) (u4:Int)
abbrev IU:Nat × TV:=(34,(vD (aK none 1 (au .i64) (at' r_.2.2.from_ u0.toNat))))
abbrev Jd:Nat × TV:=(35,(vI ((at' r_.2.2.from_ u0.toNat).length:Int)))
abbrev BD:Nat × Option Ob:=(4,some (.cells 40 [(.own 6 true r_.2.1.length)]))
abbrev BH:Nat × Option Ob:=(5,some (.cells 161 [(.own 7 false r_.2.2.arcs.length),(.d (aK none 1 (Jl 1 (au .i64)) r_.2.2.from_))]))
abbrev Bz:Nat × Option Ob:=(6,some (cu 3 1 (au .i64) r_.2.1))
abbrev Cc:Nat × Option Ob:=(7,some (cu 170 2 aY.cell r_.2.2.arcs))
abbrev OH:List (Nat × Option Ob):=[vE,rC,pQ,(pV u3),(BD r_),(BH r_),(Bz r_),(Cc r_),(K4 u1),(Sl u2),(SI u2),(Ll u0 u4)]
end
def kV (u3:Int) (u0:Int) (u4:Int) (r_:(Nat × (List Int) × Network)):((List Bool) × (List af) × Int)→St:=
  fun zz=>match zz with|(u1,u2,u5)=> ⟨[dZ,(1,(vP 1 0)),(CO u1),(4,(vP 57 0)),(5,(vP 59 0)),(IU r_ u0),(Jd r_ u0),(36,(vI u5))],(OH r_ u0 u3 u1 u2 u4)⟩
section
variable (u0:(List Bool)) (u2:Int) (r_:(Nat × (List Int) × Network)) (u1:(List af)) (u3:Int) (u4:Int)
abbrev adB:St:=⟨(XM u0),(OH r_ u3 u2 u0 u1 u4)⟩
end
def lC (u2:Int) (u3:Int) (u4:Int) (r_:(Nat × (List Int) × Network)):((List Bool) × (List af))→St:=
  fun zz=>match zz with|(u0,u1)=>(adB u0 u2 r_ u1 u3 u4)
def tq (u0:Int) (u1:Int) (u2:Int) (r_:(Nat × (List Int) × Network)):(aM ((List Bool) × (List af) × Int) (Ex ((List Bool) × (List af)) (aM ((List aY) × (List (List Int)) × (List Int) × (List Bool) × (List af) × Int × Int) (Ex Unit (Nat × (List Int) × Network)))))→Exit→St→Prop:=
  LQ 2 [1] (kV u0 u1 u2 r_) (lC u0 u1 u2 r_) (iJ u0)
section
variable (u1:Network) (u2:Int) (v0:(List Int)) (u9:(List aY)) (v3:(List (List Int))) (r_:(Nat × (List Int) × Network)) (u0:Int) (u3:Int) (u4:(List Bool)) (u7:(List af)) (u6:Int) (v2:aH) (u5:(af × Bool × aH)) (u8:(List Bool))
abbrev MW:Nat × Option Ob:=(5,some (.cells 161 [(.own 7 false u1.arcs.length),(.d (Jw u1))]))
abbrev NQ:Nat × Option Ob:=(7,some (cu 170 2 aY.cell u1.arcs))
abbrev Nj:=(List.replicate ((u1.from_.length:Int).toNat) (false:Bool))
abbrev adC:List (Nat × TV):=[dZ,(1,(vP 1 0)),(3,(vO 56 true ((Nj u1).length)))]
abbrev ZM:=(aC aj (Nj u1))
abbrev Y0:=((Nj u1).set 0 true)
abbrev YI:=(aC aj (Y0 u1))
abbrev aaF:Nat × TV:=(3,(vO 56 true ((Y0 u1).length)))
abbrev Tn:Nat × Option Ob:=(56,some (cu 4 1 aj (Y0 u1)))
abbrev ZR:List (Nat × TV):=[dZ,(1,(vP 1 0)),(aaF u1),(4,(vP 57 0))]
abbrev ab8:List (Nat × Option Ob):=[vE,pQ,(pV u2),(JD v0),(5,some (.cells 161 [(.own 7 false u9.length),(.d (Po v3))])),(J3 v0),(7,some (cu 170 2 aY.cell u9))]
abbrev afL:List (Nat × Option Ob):=[vE,pQ,(pV u2),(BD r_),(BH r_),(Bz r_),(Cc r_)]
abbrev Y3:Nat × Option Ob:=(0,some (.loop aJ r_.1 Uc))
abbrev XR:List (Nat × Option Ob):=[(Y3 r_),pQ,(pV u2),(BD r_),(BH r_),(Bz r_),(Cc r_)]
abbrev Vv:Nat × TV:=(7,(vI (at' (at' r_.2.2.from_ u0.toNat) u3.toNat)))
abbrev TU:=(at' r_.2.2.arcs ((at' (at' r_.2.2.from_ u0.toNat) u3.toNat).toNat))
abbrev VW:=((TU r_ u0 u3).to_)
abbrev abn:=((TU r_ u0 u3).left)
abbrev afx:List (Nat × Option Ob):=[vE,rC,pQ,(pV u2),(BD r_),(BH r_),(Bz r_),(Cc r_),(K4 u4),(Sl u7),(SI u7),(Ll u0 u6),(99,some (.cells 170 [(cI (VW r_ u0 u3)),(cI (abn r_ u0 u3))]))]
abbrev Pd:=(decide (0<(abn r_ u0 u3)))
abbrev Z5:=((VW r_ u0 u3).toNat)
abbrev aeK:=(jl [(3,(Pd r_ u0 u3))])
abbrev aer:Nat × TV:=(8,(vD (lV [(.int .i64 (VW r_ u0 u3)),(.int .i64 (abn r_ u0 u3))] 0)))
abbrev aaS:=(u4.set (Z5 r_ u0 u3) true)
abbrev aaZ:=(aC aj (aaS r_ u0 u3 u4))
abbrev YZ:Nat × TV:=(3,(vO 56 true ((aaS r_ u0 u3 u4).length)))
abbrev aa2:Nat × Option Ob:=(56,some (cu 4 1 aj (aaS r_ u0 u3 u4)))
abbrev ab6:List (Nat × Option Ob):=[vE,rC,pQ,(pV u2),(BD r_),(BH r_),(Bz r_),(Cc r_),(aa2 r_ u0 u3 u4),(57,some (.cells 226 [(.own 100 false v2.l.length)])),(Ll u0 u6),(100,some (LX v2))]
abbrev VY:Nat × TV:=(36,(k3 u3))
abbrev abJ:List (Nat × TV):=[dZ,(1,(vP 1 0)),(YZ r_ u0 u3 u4),(4,(vP 57 0)),(5,(vP 59 0)),(IU r_ u0),(Jd r_ u0),(VY u3)]
abbrev XP:Nat × Option Ob:=(57,some (.cells 226 [(.own 101 false u5.2.2.l.length)]))
abbrev Wx:Nat × Option Ob:=(101,some (cu 164 2 af.cell u5.2.2.l))
abbrev MJ:Ob:=(.cells 164 [(cI u5.1.e0),(cI u5.1.e1)])
abbrev adU:List (Nat × Option Ob):=[vE,rC,pQ,(pV u2),(BD r_),(BH r_),(Bz r_),(Cc r_),(K4 u8),(XP u5),(Ll u0 u6),(Wx u5),(102,some (MJ u5))]
end
theorem lg (u2:Int) (o_:(List Int)) (u1:Network) {r:(Nat × (List Int) × Network)} (h:eU u2 o_ u1=some r):Fn Try.prog 121 [(.one (.yl 0)),(.one (.ptr 1 0))] [vE,rC,pQ,(pV u2),(JD o_),(MW u1),(J3 o_),(NQ u1)] (.iP []) [(0,some (.loop aJ r.1 Uc)),rC,pQ,(pV u2),(4,some (.cells 40 [(.own 6 true r.2.1.length)])),(5,some (.cells 161 [(.own 7 false r.2.2.arcs.length),(.d (aK none 1 (Jl 1 (au .i64)) r.2.2.from_))])),(6,some (cu 3 1 (au .i64) r.2.1)),(7,some (cu 170 2 aY.cell r.2.2.arcs))]:=by
 refine fN tT Try.func121 rfl rfl fun B=> ?_
 show bJ _ _ _ _ _ _ ((iW u2) r) _
 unfold eU at h
 refine aQ (aO h fun⟨a1,a2,a3⟩ h=> ?_)
 refine rg tT ⟨(adC u1),[vE,rC,pQ,(pV u2),(JD o_),(MW u1),(J3 o_),(NQ u1),(56,some (cu 4 1 aj (Nj u1)))]⟩ [_,((u1.from_.length:Int):Int)=(u1.from_.length:Int),_,_,(Nj u1).length=((u1.from_.length:Int).toNat),aG ((u1.from_.length:Int).toNat) 1 (fun _ j=>[(.bool false)].getD j .nilp) (ZM u1)] {an:=[(5, .arr (Nj u1).length (ZM u1))],fr:=[(5,56)] } [] ⟨a1,rfl,a2,a3,(List.length_replicate),(dQ _ _ _ _ _ (fun j hj=>(match j,hj with|0,_=>rfl))),trivial⟩ ?_
 refine aQ (aO h fun a1 h=> ?_)
 refine ri tT ⟨(adC u1),[vE,rC,pQ,(pV u2),(JD o_),(MW u1),(J3 o_),(NQ u1),(56,some (.arr 4 1 (Nj u1).length (YI u1)))]⟩ [_,_,aG (Nj u1).length 1 (jZ (ZM u1) 0 0 [(.bool true)]) (YI u1)] {an:=[(2, .arr 0 (YI u1))] } [] ⟨a1,(tL a1),(bL _ _ _ _ _ _ _ _ rfl (fun j hj=>(match j,hj with|0,_=>rfl))),trivial⟩ (bM.le (st':=⟨[dZ,(1,(vP 1 0)),(aaF u1)],[vE,rC,pQ,(pV u2),(JD o_),(MW u1),(J3 o_),(NQ u1),(Tn u1)]⟩) ⟨⟨tR,tR,⟨_,rfl,eO.v (eG.one cW)⟩,trivial⟩,(hN 8 ⟨rfl,oW,trivial⟩)⟩) ?_
 refine si tT ⟨(ZR u1),[vE,rC,pQ,(pV u2),(JD o_),(MW u1),(J3 o_),(NQ u1),(Tn u1),(57,some (.cells 226 [(.d nS)]))]⟩ [] {fr:=[(0,57)] } [] trivial (.trans (bM.zi (E:=0) (esz:=0) (E0:=226) (cs:=[(.d nS)]) (p:=57) (q:=0) (b:=58) (esz0:=0) (el0:=fun _ _=> .nilp) (ob:= .arr 164 2 0 (aC af.cell ([]:List af))) (fun _ _ _ _ h=> .inl ⟨h,rfl⟩) (by kernel_rfl) (by kernel_rfl) (by kernel_rfl)) (.trans (fz ⟨(ZR u1),[vE,rC,pQ,(pV u2),(JD o_),(MW u1),(J3 o_),(NQ u1),(Tn u1),(57,some (.cells 226 [(.own 58 false 0)])),(58,some (.arr 164 2 0 (aC af.cell ([]:List af))))]⟩ []) (bM.le (st':=⟨(ZR u1),[vE,rC,pQ,(pV u2),(JD o_),(MW u1),(J3 o_),(NQ u1),(Tn u1),(57,some (.cells 226 [(.own 58 false (([]:List af).length))])),(58,some (cu 164 2 af.cell ([]:List af)))]⟩) ⟨⟨tR,tR,tR,tR,trivial⟩,(hN 9 ⟨rfl,bA ⟨cW,trivial⟩,⟨rfl,oW,trivial⟩⟩)⟩))) ?_
 refine sz tT ⟨[dZ,(1,(vP 1 0)),(aaF u1),(4,(vP 57 0)),(5,(vP 59 0))],[vE,rC,pQ,(pV u2),(JD o_),(MW u1),(J3 o_),(NQ u1),(Tn u1),(57,some (.cells 226 [(.own 58 false (([]:List af).length))])),(58,some (cu 164 2 af.cell ([]:List af))),(59,some (.cells 164 [(cI 0),(cI (-1))]))]⟩ {fr:=[(1,59)] } [] ?_
 refine bE h fun y1 hy h=> ?_
 refine aL [] (lm u2) lQ (iW u2) hy (fun s f h=> ?_) ?_
 ·clear hy
  show bJ _ _ _ _ _ _ ((iJ u2) f) _
  unfold fE at h
  obtain⟨u9,v3,v0,v1,q0,u0,u6⟩:=s
  refine aQ (aB (aQ (aQ (bE h fun r_ hr_ h=> ?_))))
  refine bI h (fun hb h=> ?_) (fun hb h=> ?_)
  ·skip
   refine rg tT ⟨[dZ,(1,(vP 1 0)),(CO v1),(4,(vP 57 0)),(5,(vP 59 0)),(26,(vB false))],(OH r_ u0 u2 v1 q0 u6)⟩ [(0:Int)≤0∧(0:Int)<(2:Nat),(0:Int)≤1∧(1:Int)<(2:Nat),Yl Try.prog 0 [(sI u0),(sI u6)] (ab8 u2 v0 u9 v3) (vB true) (afL u2 r_)] {an:=[(5, .call [0,2,3,4,5,6,7] (vB true) (afL u2 r_))] } [] ⟨((by decide)),((by decide)),(Yl.leR (res:=(vB (Nat.beq r_.1 0))) (hout:=(XR u2 r_)) (yK [(1,2),(1,3),(1,4),(1,5),(1,6),(1,7)] (kY u0 u6 u2 v0 (⟨u9,v3⟩:Network) hr_)) (eO.of (congrArg vB hb)) ⟨rfl,QE.of (congrArg (fun n=>some (Ob.loop aJ n Uc)) (Nat.eq_of_beq_eq_true hb)),(.refl _)⟩),trivial⟩ ?_
   refine cn (aP (aQ (aQ (aO h fun a1 h=> ?_))))
   refine dg tT mX ⟨[dZ,(1,(vP 1 0)),(CO v1),(4,(vP 57 0)),(5,(vP 59 0)),(IU r_ u0),(Jd r_ u0),(36,(vI 0))],(OH r_ u0 u2 v1 q0 u6)⟩ [(0:Int)≤0∧(0:Int)<(2:Nat),_] {} [] ⟨((by decide)),a1,trivial⟩ ?_
   refine bE h fun y hy h=> ?_
   refine aL [1] (kV u2 u0 u6 r_) (lC u2 u0 u6 r_) (iJ u2) hy (fun s f h=> ?_) ?_
   ·clear hy
    show bJ _ _ _ _ _ _ ((tq u2 u0 u6 r_) f) _
    unfold bV at h
    obtain⟨u4,u7,u3⟩:=s
    refine sz tT ⟨[dZ,(1,(vP 1 0)),(CO u4),(4,(vP 57 0)),(5,(vP 59 0)),(IU r_ u0),(Jd r_ u0),(36,(vI u3)),(37,(vB (decide (u3<((at' r_.2.2.from_ u0.toNat).length:Int)))))],(OH r_ u0 u2 u4 u7 u6)⟩ {} [] ?_
    refine aQ ?_
    refine bI h (fun hb2 h=> ?_) (fun hb2 h=> ?_)
    ·refine ct hb2 ?_
     refine aP (aQ (aB (aQ (aO h fun a1 h=> ?_))))
     refine rg tT ⟨[dZ,(1,(vP 1 0)),(CO u4),(4,(vP 57 0)),(5,(vP 59 0)),(Vv r_ u0 u3),(IU r_ u0),(Jd r_ u0),(36,(vI u3))],(OH r_ u0 u2 u4 u7 u6)⟩ [_] {} [] ⟨a1,trivial⟩ ?_
     refine aQ (aO h fun a1 h=> ?_)
     refine rg tT ⟨[dZ,(1,(vP 1 0)),(CO u4),(4,(vP 57 0)),(5,(vP 59 0)),(Vv r_ u0 u3),(8,(vP 99 0)),(IU r_ u0),(Jd r_ u0),(36,(vI u3))],(afx u2 r_ u0 u3 u4 u7 u6)⟩ [_,_] {fr:=[(7,99)] } [] ⟨a1,(tL a1),trivial⟩ ?_
     refine aQ (aO h fun a1 h=> ?_)
     refine rg tT ⟨[dZ,(1,(vP 1 0)),(CO u4),(4,(vP 57 0)),(5,(vP 59 0)),(Vv r_ u0 u3),(8,(vP 99 0)),(IU r_ u0),(Jd r_ u0),(36,(vI u3)),(57,(vB (bif (Pd r_ u0 u3)then(!(at' u4 (Z5 r_ u0 u3)))else false)))],(afx u2 r_ u0 u3 u4 u7 u6)⟩ (eqs (Pd r_ u0 u3) 4 ((gP (aeK r_ u0 u3) [(3,true)]→All [(0:Int)≤(TU r_ u0 u3).to_∧(TU r_ u0 u3).to_<(u4.length:Int)])::((Pd r_ u0 u3)=(Pd r_ u0 u3))::(gP (aeK r_ u0 u3) [(3,true)]→All [(VW r_ u0 u3).toNat<u4.length])::(eqs (Pd r_ u0 u3) 2 []))) {yb:=[(3,(Pd r_ u0 u3))] } [] (ae ⟨(fun hg=> ⟨(a1 (aZ hg)),trivial⟩),rfl,(fun hg=> ⟨((fun hq=>tL (a1 hq)) (aZ hg)),trivial⟩),(ae trivial)⟩) ?_
     refine bI h (fun hb1 h=> ?_) (fun hb1 h=> ?_)
     ·refine ct hb1 ?_
      refine aQ (aO h fun a1 h=> ?_)
      refine ri tT ⟨[dZ,(1,(vP 1 0)),(CO u4),(4,(vP 57 0)),(5,(vP 59 0)),(Vv r_ u0 u3),(aer r_ u0 u3),(IU r_ u0),(Jd r_ u0),(36,(vI u3))],[vE,rC,pQ,(pV u2),(BD r_),(BH r_),(Bz r_),(Cc r_),(56,some (.arr 4 1 u4.length (aaZ r_ u0 u3 u4))),(Sl u7),(SI u7),(Ll u0 u6)]⟩ [_,_,aG u4.length 1 (jZ (aC aj u4) (Z5 r_ u0 u3) 0 [(.bool true)]) (aaZ r_ u0 u3 u4)] {an:=[(4, .arr 0 (aaZ r_ u0 u3 u4))] } [99] ⟨a1,(tL a1),(bL _ _ _ _ _ _ _ _ rfl (fun j hj=>(match j,hj with|0,_=>rfl))),trivial⟩ (bM.le (st':=⟨[dZ,(1,(vP 1 0)),(YZ r_ u0 u3 u4),(4,(vP 57 0)),(5,(vP 59 0)),(Vv r_ u0 u3),(aer r_ u0 u3),(IU r_ u0),(Jd r_ u0),(36,(vI u3))],[vE,rC,pQ,(pV u2),(BD r_),(BH r_),(Bz r_),(Cc r_),(aa2 r_ u0 u3 u4),(Sl u7),(SI u7),(Ll u0 u6)]⟩) ⟨⟨tR,tR,⟨_,rfl,eO.v (eG.one cW)⟩,tR,tR,tR,tR,tR,tR,tR,trivial⟩,(hN 8 ⟨rfl,oW,(.refl _)⟩)⟩) ?_
      refine bE h fun v2 hr_1 h=> ?_
      have q0:=rk [(0,57),(1,58),(2,100)] (rT (⟨(TU r_ u0 u3).to_,(at' (at' r_.2.2.from_ u0.toNat) u3.toNat)⟩:af) (⟨u7⟩:aH) hr_1)
      refine rg tT ⟨[dZ,(1,(vP 1 0)),(YZ r_ u0 u3 u4),(4,(vP 57 0)),(5,(vP 59 0)),(IU r_ u0),(Jd r_ u0),(36,(vI u3))],(ab6 u2 r_ u0 u3 u4 u6 v2)⟩ [_] {an:=[(4,cA q0 [57,58])] } [] ⟨q0,trivial⟩ ?_
      refine ri tT ⟨(abJ r_ u0 u3 u4),(ab6 u2 r_ u0 u3 u4 u6 v2)⟩ [] {} [] trivial (bM.fin (st':=⟨(abJ r_ u0 u3 u4),[vE,rC,pQ,(pV u2),(BD r_),(BH r_),(Bz r_),(Cc r_),(aa2 r_ u0 u3 u4),(57,some (.cells 226 [(.own 58 false v2.l.length)])),(58,some (LX v2)),(Ll u0 u6)]⟩) (cs:=[]) ⟨[],[(0,0),(1,1),(2,2),(3,3),(4,4),(5,5),(6,6),(7,7),(56,56),(57,57),(100,58),(59,59)]⟩ [0,1,3,4,5,34,35,36] (by kernel_rfl) trivial) ?_
      obtain rfl:=oi h
      exact lN
     ·refine cf hb1 ?_
      refine aP (rz tT ⟨[dZ,(1,(vP 1 0)),(CO u4),(4,(vP 57 0)),(5,(vP 59 0)),(IU r_ u0),(Jd r_ u0),(VY u3)],(OH r_ u0 u2 u4 u7 u6)⟩ {} [] ?_)
      obtain rfl:=oi h
      exact lN
    ·refine cf hb2 ?_
     refine aI (fz (adB u4 u2 r_ u7 u0 u6) []) ?_
     refine aX ?_
     obtain rfl:=oi h
     exact lB
   ·clear hy
    cases y with
    |brk z=>
     obtain⟨u8,v4⟩:=z
     unfold gm
     refine⟨_, .refl, ?_⟩
     refine aQ (bE h fun u5 hr_2 h=> ?_)
     have q0:=rk [(0,57),(1,58),(2,101)] (qX (⟨v4⟩:aH) hr_2)
     refine rg tT ⟨[dZ,(1,(vP 1 0)),(CO u8),(4,(vP 57 0)),(5,(vP 59 0)),(9,(vP 102 0)),(10,(vB u5.2.1))],(adU u2 r_ u0 u6 u5 u8)⟩ [_] {an:=[(0,cA q0 [57,58])],fr:=[(4,102)] } [] ⟨q0,trivial⟩ ?_
     refine aQ (sz tT ⟨[dZ,(1,(vP 1 0)),(CO u8),(4,(vP 57 0)),(5,(vP 59 0)),(9,(vP 102 0)),(73,(vB (!u5.2.1)))],(adU u2 r_ u0 u6 u5 u8)⟩ {} [] ?_)
     refine bI h (fun hb3 h=> ?_) (fun hb3 h=> ?_)
     ·refine ct hb3 ?_
      refine aI (fz ⟨[],[vE,rC,pQ,(pV u2),(BD r_),(BH r_),(Bz r_),(Cc r_)]⟩ []) ?_
      refine aR ?_
      obtain rfl:=oi h
      exact lR dY (dX 0) dW (bB.mk (.inr rfl) (p:=[]) (l:=[]) (by kernel_rfl) trivial (eO.refl _) (.refl _))
     ·refine cf hb3 ?_
      refine aP (rz tT ⟨(XM u8),[vE,rC,pQ,(pV u2),(BD r_),(BH r_),(Bz r_),(Cc r_),(K4 u8),(XP u5),(59,some (MJ u5)),(Wx u5)]⟩ {} [] ?_)
      refine sz tT ⟨[dZ,(1,(vP 1 0)),(CO u8),(4,(vP 57 0)),(75,(.v (.agg [(cI u5.1.e0),(cI u5.1.e1)])))],[vE,rC,pQ,(pV u2),(BD r_),(BH r_),(Bz r_),(Cc r_),(K4 u8),(XP u5),(Wx u5)]⟩ {} [] ?_
      refine ri tT ⟨[dZ,(1,(vP 1 0)),(CO u8),(4,(vP 57 0)),(5,(vP 103 0))],[vE,rC,pQ,(pV u2),(BD r_),(BH r_),(Bz r_),(Cc r_),(K4 u8),(XP u5),(Wx u5),(103,some (MJ u5))]⟩ [] {fr:=[(0,103)] } [] trivial (bM.fin (st':=⟨(XM u8),[vE,rC,pQ,(pV u2),(BD r_),(BH r_),(Bz r_),(Cc r_),(K4 u8),(57,some (.cells 226 [(.own 58 false u5.2.2.l.length)])),(58,some (cu 164 2 af.cell u5.2.2.l)),(59,some (MJ u5))]⟩) (cs:=[]) ⟨[],[(0,0),(1,1),(2,2),(3,3),(4,4),(5,5),(6,6),(7,7),(56,56),(57,57),(101,58),(103,59)]⟩ [0,1,3,4,5] (by kernel_rfl) trivial) ?_
      obtain rfl:=oi h
      exact lN
    |ret v=>
     obtain rfl:=oi h
     unfold gm
     intro e st hn ha hR
     cases e with
     |normal=>exact absurd rfl hn
     |exit id=>simp only [qA (b:=1) ha rfl,cond_false];exact hR
     |goto l=>exact hR
     |ret=>exact hR
     |panic c=>exact hR
     |outgrown=>exact hR
  ·skip
   refine rg tT ⟨[dZ,(1,(vP 1 0)),(CO v1),(4,(vP 57 0)),(5,(vP 59 0)),(26,(vB true))],[(Y3 r_),rC,pQ,(pV u2),(BD r_),(BH r_),(Bz r_),(Cc r_),(K4 v1),(Sl q0),(SI q0),(Ll u0 u6)]⟩ [(0:Int)≤0∧(0:Int)<(2:Nat),(0:Int)≤1∧(1:Int)<(2:Nat),Yl Try.prog 0 [(sI u0),(sI u6)] (ab8 u2 v0 u9 v3) (vB false) (XR u2 r_)] {an:=[(5, .call [0,2,3,4,5,6,7] (vB false) (XR u2 r_))] } [] ⟨((by decide)),((by decide)),(Yl.leR (res:=(vB (Nat.beq r_.1 0))) (hout:=(XR u2 r_)) (yK [(1,2),(1,3),(1,4),(1,5),(1,6),(1,7)] (kY u0 u6 u2 v0 (⟨u9,v3⟩:Network) hr_)) (eO.of (congrArg vB hb)) (.refl _)),trivial⟩ ?_
   refine ck (aI (fz ⟨[],[(Y3 r_),rC,pQ,(pV u2),(BD r_),(BH r_),(Bz r_),(Cc r_)]⟩ []) ?_)
   refine aR ?_
   obtain rfl:=oi h
   exact lR dY (dX 0) dW (bB.mk (.inr rfl) (p:=[]) (l:=[]) (by kernel_rfl) trivial (eO.refl _) (.refl _))
 ·clear hy
  cases y1 with
  |brk z=>exact absurd h (by simp)
  |ret v=>
   obtain rfl:=oi h
   unfold gm
   intro e st hn ha hR
   cases e with
   |normal=>exact absurd rfl hn
   |exit id=>exact hR
   |goto l=>exact hR
   |ret=>exact hR
   |panic c=>exact hR
   |outgrown=>exact hR
def je  :Network→Exit→St→Prop:=
  fun r=>bB TT [] (.iP []) [(0,some (.cells 161 [(.own 1 false r.arcs.length),(.d (aK none 1 (Jl 1 (au .i64)) r.from_))])),(1,some (cu 170 2 aY.cell r.arcs))]
section
variable (o0:(List aY)) (o1:(List (List Int))) (u0:Int)
abbrev Xq:Nat × Option Ob:=(0,some (.cells 161 [(.own 1 false o0.length),(.d (Po o1))]))
abbrev MG:Nat × Option Ob:=(20,some (.cells 157 [(.ptr 0 0)]))
abbrev Oi:Nat × Option Ob:=(21,some (.cells 3 [(cI u0)]))
end
def kD (u0:Int):((List aY) × (List (List Int)))→St:=
  fun zz=>match zz with|(o0,o1)=> ⟨[(2,(vP 20 0)),(3,(vP 21 0))],[(Xq o0 o1),(1,some (cu 170 2 aY.cell o0)),MG,(Oi u0)]⟩
def ko  :Unit→St:=
  fun _=> ⟨[],[]⟩
def yE (u0:Int):(aM ((List aY) × (List (List Int))) (Ex Unit Network))→Exit→St→Prop:=
  LQ 0 [] (kD u0) ko (SQ1 je)
section
variable (o1:(List (List Int))) (u0:(Nat × (List Int) × Network)) (u1:Int) (o0:(List aY))
abbrev OM:List (Nat × TV):=[(2,(vP 20 0)),(3,(vP 21 0)),(4,(vP 35 0))]
abbrev MQ:=(List.replicate ((o1.length:Int).toNat) (0:Int))
abbrev YP:Nat × Option Ob:=(34,some (cu 3 1 (au .i64) (MQ o1)))
abbrev YN:Nat × Option Ob:=(35,some (.cells 40 [(.own 34 true ((MQ o1).length))]))
abbrev ad6:List (Nat × TV):=[(2,(vP 20 0)),(3,(vP 21 0)),(4,(vP 35 0)),(18,(.v (.one (.fn 121 0 1 (AU [(.ptr 36 0)])))))]
abbrev WN:Nat × Option Ob:=(36,some (.cells 157 [(.ptr 0 0)]))
abbrev Xz:Nat × Option Ob:=(0,some (.cells 161 [(.own 1 false u0.2.2.arcs.length),(.d (aK none 1 (Jl 1 (au .i64)) u0.2.2.from_))]))
abbrev VX:Nat × Option Ob:=(1,some (cu 170 2 aY.cell u0.2.2.arcs))
abbrev afU:List (Nat × Option Ob):=[(37,some (.loop aJ u0.1 OM)),WN,MG,(Oi u1),(35,some (.cells 40 [(.own 34 true u0.2.1.length)])),(Xz u0),(34,some (cu 3 1 (au .i64) u0.2.1)),(VX u0)]
abbrev ae4:List (Nat × Option Ob):=[(37,some (.loop aJ 0 OM)),WN,MG,(Oi u1),(YN o1),(Xq o0 o1),(YP o1),(1,some (cu 170 2 aY.cell o0))]
abbrev aeA:St:=⟨ad6,[(Xz u0),(VX u0),MG,(Oi u1),(34,some (cu 3 1 (au .i64) u0.2.1)),(35,some (.cells 40 [(.own 34 true u0.2.1.length)])),WN]⟩
end
theorem o6 (u1:Int) (u2:Network) {r:Network} (h:iB u1 u2=some r):Fn Try.prog 80 [(.one (.ptr 0 0)),(sI u1)] (aev u2) (.iP []) [(0,some (.cells 161 [(.own 1 false r.arcs.length),(.d (aK none 1 (Jl 1 (au .i64)) r.from_))])),(1,some (cu 170 2 aY.cell r.arcs))]:=by
 refine fN tT Try.func80 rfl rfl fun B=> ?_
 show bJ _ _ _ _ _ _ (je r) _
 unfold iB at h
 refine sz tT ⟨[(2,(vP 20 0)),(3,(vP 21 0))],[(XW u2),(Um u2),MG,(Oi u1)]⟩ {fr:=[(0,20),(1,21)] } [] ?_
 refine Py ?_
 refine aQ (SN ?_)
 refine bE h fun y hy h=> ?_
 refine aL [] (kD u1) ko (SQ1 je) hy (fun s f h=> ?_) ?_
 ·clear hy
  show bJ _ _ _ _ _ _ ((yE u1) f) _
  unfold iK at h
  obtain⟨o0,o1⟩:=s
  refine aB (aQ (aO h fun⟨a1,a2,a3⟩ h=> ?_))
  refine rg tT ⟨OM,[(Xq o0 o1),(1,some (cu 170 2 aY.cell o0)),MG,(Oi u1),(YP o1),(YN o1)]⟩ [_,((o1.length:Int):Int)=(o1.length:Int),_,_,(MQ o1).length=((o1.length:Int).toNat),aG ((o1.length:Int).toNat) 1 (fun _ j=>[(.int .i64 0)].getD j .nilp) (aC (au .i64) (MQ o1))] {an:=[(5, .arr (MQ o1).length (aC (au .i64) (MQ o1)))],fr:=[(5,34),(6,35)] } [] ⟨a1,rfl,a2,a3,(List.length_replicate),(dQ _ _ _ _ _ (fun j hj=>(match j,hj with|0,_=>rfl))),trivial⟩ ?_
  refine aQ (aQ (bE h fun r_ hr_ h=> ?_))
  have q0:=rk [(2,36)] (jm (⟨o0,o1⟩:Network) hr_)
  refine rg tT ⟨ad6,[(Xq o0 o1),(1,some (cu 170 2 aY.cell o0)),MG,(Oi u1),(YP o1),(YN o1),WN]⟩ [_] {an:=[(1,cA q0 [0,1])] } [] ⟨q0,trivial⟩ ?_
  refine aB (bE h fun u0 hr_1 h=> ?_)
  refine bI h (fun hb h=> ?_) (fun hb h=> ?_)
  ·skip
   refine jT 37 OM [.exit 1] [37,36,20,21,35,0,34,1] (.iP []) (afU u0 u1) (.v (.one (.fn 121 0 1 (AU [(.ptr 36 0)])))) 121 [] [(.ptr 36 0)] (ae4 o1 u1 o0) [(.one (.yl 37)),(.one (.ptr 36 0))] aJ u0.1 OM (by kernel_rfl) (by kernel_rfl) (by kernel_rfl) (by kernel_rfl) (by kernel_rfl) (by kernel_rfl) (by kernel_rfl) (rK [(0,37),(1,36),(2,20),(3,21),(4,35),(5,0),(6,34),(7,1)] (lg u1 (MQ o1) (⟨o0,o1⟩:Network) hr_1)) (by kernel_rfl) rfl (CR.zero (Nat.eq_of_beq_eq_true hb)) (bM.fin (st':=(aeA u0 u1)) (cs:=[]) ⟨[],[(0,0),(1,1),(20,20),(21,21),(34,34),(35,35),(36,36)]⟩ [2,3,4,18] (by kernel_rfl) trivial) ?_
   refine aI (fz ⟨[],[(Xz u0),(VX u0)]⟩ []) ?_
   refine aR ?_
   obtain rfl:=oi h
   exact lR dY (dX 0) dW (ZA (bB.mk (.inr rfl) (p:=[]) (l:=[]) (by kernel_rfl) trivial (eO.refl _) (.refl _)))
  ·skip
   refine aO h fun a1 h=> ?_
   refine jT 37 OM [.exit 1] [37,36,20,21,35,0,34,1] (.iP []) (afU u0 u1) (.v (.one (.fn 121 0 1 (AU [(.ptr 36 0)])))) 121 [] [(.ptr 36 0)] (ae4 o1 u1 o0) [(.one (.yl 37)),(.one (.ptr 36 0))] aJ u0.1 OM (by kernel_rfl) (by kernel_rfl) (by kernel_rfl) (by kernel_rfl) (by kernel_rfl) (by kernel_rfl) (by kernel_rfl) (rK [(0,37),(1,36),(2,20),(3,21),(4,35),(5,0),(6,34),(7,1)] (lg u1 (MQ o1) (⟨o0,o1⟩:Network) hr_1)) (by kernel_rfl) rfl (CR.ahl (k:=0) (e:=(.exit 1)) a1 rfl rfl rfl) (.trans (bM.fin (st':=(aeA u0 u1)) (cs:=[]) ⟨[],[(0,0),(1,1),(20,20),(21,21),(34,34),(35,35),(36,36)]⟩ [2,3,4,18] (by kernel_rfl) trivial) (bM.fin (st':=⟨[(2,(vP 20 0)),(3,(vP 21 0))],[(Xz u0),(VX u0),MG,(Oi u1)]⟩) (cs:=[]) ⟨[],[(0,0),(1,1),(20,20),(21,21)]⟩ [2,3] (by kernel_rfl) trivial)) ?_
   obtain rfl:=oi h
   exact Qv (b:=0) (av:=[]) (S:=(kD u1)) (Sb:=ko) (Qo:=(SQ1 je)) (by kernel_rfl)
 ·clear hy
  cases y with
  |brk z=>exact absurd h (by simp)
  |ret v=>
   obtain rfl:=oi h
   unfold gm
   intro e st hn ha hR
   cases e with
   |normal=>exact absurd rfl hn
   |exit id=>exact hR
   |goto l=>exact hR
   |ret=>exact hR
   |panic c=>exact hR
   |outgrown=>exact hR
noncomputable def dN:nR:=⟨[236,237],GN ([1,1,1,1,1,1,1,1,1,1,1,1,1,1,0,1,0]++[0]) (mY Try.f32),GN ([1,1,1,1,1,1,1,1,1,1,1,1,1,1,0,1,0]++[1]) (mY Try.f32),252,[]⟩
section
variable (u0:ah)
abbrev Rp:List (Nat × TV):=[(2,(vP 1 0)),(28,(vP 2 0))]
abbrev ve:Nat × Option Ob:=(0,some (.loop dN 0 Rp))
abbrev q9:Nat × Option Ob:=(1,some (Yf u0))
end
def Ch (u0:ah):(List Bool)→Exit→St→Prop:=
  fun r=>ng 0 dN (vB true) [ve,(q9 u0),(2,some (.cells 27 [(.own 3 true r.length)])),(3,some (cu 4 1 aj r))]
section
variable (o_:(List Bool)) (u0:ah) (u1:Int)
abbrev wY:Nat × Option Ob:=(2,some (.cells 27 [(.own 3 true o_.length)]))
abbrev vK:Nat × Option Ob:=(3,some (cu 4 1 aj o_))
abbrev KW:List (Nat × Option Ob):=[ve,(q9 u0),(wY o_),(vK o_)]
abbrev abf:Nat × Option Ob:=(0,some (.loop dN 1 Rp))
abbrev Zt:List (Nat × Option Ob):=[abf,(q9 u0),(wY o_),(vK o_)]
abbrev Zf:=(aC aj (o_.set ((k17 u1).toNat) true))
end
theorem AV (u1:Int) (u2:Int) (u0:ah) (o_:(List Bool)) {r:(List Bool)} (h:jy u1 u2 u0 o_=some r):Yl Try.prog 0 [(sI u1),(sI u2)] (KW o_ u0) (vB true) [ve,(q9 u0),(2,some (.cells 27 [(.own 3 true r.length)])),(3,some (cu 4 1 aj r))]:=by
 refine DC (r:=dN) (sl:=Rp) (sl1:=[(2,(vP 1 0)),(28,(vP 2 0)),(29,(vI u1))]) (h1:=(KW o_ u0)) (sl2:=Rp) (by kernel_rfl) rfl rfl (by kernel_rfl) (fun rd B=> ?_) (by kernel_rfl) (fun rd B=> ?_)
 ·refine qR (c:=GN ([1,1,1,1,1,1,1,1,1,1,1,1,1,1,0,1,0]++[0]) (mY Try.f32)) rfl ?_
  refine oq (st:=⟨[(236,(vI u1)),(237,(vI u2)),(2,(vP 1 0)),(28,(vP 2 0))],(KW o_ u0)⟩) (by kernel_rfl) ?_
  refine rz tT ⟨[(2,(vP 1 0)),(28,(vP 2 0)),(29,(vI u1))],(KW o_ u0)⟩ {} [] ?_
  exact⟨rfl,rfl⟩
 ·refine qR (c:=GN ([1,1,1,1,1,1,1,1,1,1,1,1,1,1,0,1,0]++[1]) (mY Try.f32)) rfl ?_
  refine oq (st:=⟨[(2,(vP 1 0)),(28,(vP 2 0)),(29,(vI u1))],(Zt o_ u0)⟩) (by kernel_rfl) ?_
  show bJ _ _ _ _ _ _ ((Ch u0) r) _
  unfold jy at h
  refine aB (sg tT ⟨[(28,(vP 2 0)),(29,(vI u1)),(245,(vB (bif (decide (0<u1))then(decide (u1≤u0.buses))else false)))],(Zt o_ u0)⟩ (eqs (decide (0<u1)) 5 []) {yb:=[(2,(decide (0<u1)))] } [] (ae trivial) ?_)
  refine bI h (fun hb h=> ?_) (fun hb h=> ?_)
  ·refine ct hb ?_
   refine aO h fun a1 h=> ?_
   refine ri tT ⟨[],[abf,(q9 u0),(wY o_),(3,some (.arr 4 1 o_.length (Zf o_ u1)))]⟩ [_,_,aG o_.length 1 (jZ (aC aj o_) ((k17 u1).toNat) 0 [(.bool true)]) (Zf o_ u1)] {an:=[(4, .arr 0 (Zf o_ u1))] } [] ⟨a1,(tL a1),(bL _ _ _ _ _ _ _ _ rfl (fun j hj=>(match j,hj with|0,_=>rfl))),trivial⟩ (bM.le (st':=⟨[],[abf,(q9 u0),(2,some (.cells 27 [(.own 3 true ((o_.set ((k17 u1).toNat) true).length))])),(3,some (cu 4 1 aj (o_.set ((k17 u1).toNat) true)))]⟩) ⟨trivial,(hN 2 ⟨rfl,bA ⟨cW,trivial⟩,⟨rfl,oW,trivial⟩⟩)⟩) ?_
   obtain rfl:=oi h
   exact ng.on (sl:=Rp) (by kernel_rfl) (zn (by kernel_rfl)) (eO.refl _)
  ·refine cf hb ?_
   refine aI (fz ⟨[],(Zt o_ u0)⟩ []) ?_
   refine aP ?_
   obtain rfl:=oi h
   exact ng.on (sl:=Rp) (by kernel_rfl) (zn (by kernel_rfl)) (eO.refl _)
def gZ (u0:ah):(List Bool)→Exit→St→Prop:=
  fun r=>bB TT [] (.iP []) [ve,(q9 u0),(2,some (.cells 27 [(.own 3 true r.length)])),(3,some (cu 4 1 aj r))]
section
variable (x1:(List aY)) (u3:(List (List Int))) (u2:(List Bool)) (q0:(List af)) (u4:Int) (u5:Int) (u0:ah) (u1:(List Bool))
abbrev xE:Nat × TV:=(1,(vD (lV [(lV [(aK none 2 aY.cell x1),(Po u3)] 0)] 0)))
abbrev Ec:Nat × TV:=(3,(vO 52 true u2.length))
abbrev Y7:List (Nat × TV):=[dZ,(xE x1 u3),(Ec u2),(4,(vP 53 0)),(5,(vP 55 0))]
abbrev Qh:Nat × Option Ob:=(52,some (cu 4 1 aj u2))
abbrev W9:Nat × Option Ob:=(53,some (.cells 226 [(.own 54 false q0.length)]))
abbrev WT:Nat × Option Ob:=(54,some (cu 164 2 af.cell q0))
abbrev PS:Nat × Option Ob:=(55,some (.cells 164 [(cI u4),(cI u5)]))
abbrev PG:List (Nat × Option Ob):=[ve,(q9 u0),(wY u1),(vK u1),(Qh u2),(W9 q0),(WT q0),(PS u4 u5)]
abbrev aaV:St:=⟨(Y7 x1 u3 u2),(PG u2 q0 u4 u5 u0 u1)⟩
end
def jP (x1:(List aY)) (u3:(List (List Int))) (u0:ah):((List Bool) × (List Bool) × (List af) × Int × Int)→St:=
  fun zz=>match zz with|(u1,u2,q0,u4,u5)=>(aaV x1 u3 u2 q0 u4 u5 u0 u1)
def jL  :Unit→St:=
  fun _=> ⟨[],[]⟩
def gJ (x1:(List aY)) (u1:(List (List Int))) (u0:ah):(aM ((List Bool) × (List Bool) × (List af) × Int × Int) (Ex Unit (List Bool)))→Exit→St→Prop:=
  LQ 0 [] (jP x1 u1 u0) jL (gZ u0)
section
variable (u1:(List (List Int))) (u2:Int)
abbrev IJ:Nat × TV:=(34,(vD (aK none 1 (au .i64) (at' u1 u2.toNat))))
abbrev Ii:Nat × TV:=(35,(vI ((at' u1 u2.toNat).length:Int)))
end
def jG (x1:(List aY)) (u1:(List (List Int))) (u0:ah) (u2:Int) (u5:Int) (r_:(List Bool)):((List Bool) × (List af) × Int)→St:=
  fun zz=>match zz with|(u3,u4,u6)=> ⟨[dZ,(xE x1 u1),(Ec u3),(4,(vP 53 0)),(5,(vP 55 0)),(IJ u1 u2),(Ii u1 u2),(36,(vI u6))],(PG u3 u4 u2 u5 u0 r_)⟩
def jV (x1:(List aY)) (u3:(List (List Int))) (u0:ah) (u4:Int) (u5:Int) (r_:(List Bool)):((List Bool) × (List af))→St:=
  fun zz=>match zz with|(u1,u2)=>(aaV x1 u3 u1 u2 u4 u5 u0 r_)
def qx (x1:(List aY)) (u0:(List (List Int))) (u1:ah) (u2:Int) (u3:Int) (r_:(List Bool)):(aM ((List Bool) × (List af) × Int) (Ex ((List Bool) × (List af)) (aM ((List Bool) × (List Bool) × (List af) × Int × Int) (Ex Unit (List Bool)))))→Exit→St→Prop:=
  LQ 2 [1] (jG x1 u0 u1 u2 u3 r_) (jV x1 u0 u1 u2 u3 r_) (gJ x1 u0 u1)
section
variable (u1:(List (List Int))) (x1:(List aY)) (u2:Int) (u3:Int) (u0:ah) (r_:(List Bool)) (u4:(List Bool)) (u7:(List af)) (u6:Int) (u9:aH) (u5:(af × Bool × aH)) (u8:(List Bool))
abbrev ND:=(List.replicate ((u1.length:Int).toNat) (false:Bool))
abbrev ab5:List (Nat × TV):=[dZ,(xE x1 u1),(3,(vO 52 true ((ND u1).length)))]
abbrev aaM:=(aC aj (ND u1))
abbrev ZX:=((ND u1).set 0 true)
abbrev Zb:=(aC aj (ZX u1))
abbrev YG:Nat × TV:=(3,(vO 52 true ((ZX u1).length)))
abbrev Us:Nat × Option Ob:=(52,some (cu 4 1 aj (ZX u1)))
abbrev abe:List (Nat × TV):=[dZ,(xE x1 u1),(YG u1),(4,(vP 53 0))]
abbrev TJ:Nat × TV:=(7,(vI (at' (at' u1 u2.toNat) u3.toNat)))
abbrev PL:=(at' x1 ((at' (at' u1 u2.toNat) u3.toNat).toNat))
abbrev SF:=((PL u1 x1 u2 u3).to_)
abbrev acN:List (Nat × Option Ob):=[ve,(q9 u0),(wY r_),(vK r_),(Qh u4),(W9 u7),(WT u7),(PS u2 u6),(95,some (.cells 170 [(cI (SF u1 x1 u2 u3)),(cI ((PL u1 x1 u2 u3).left))]))]
abbrev Oq:=(decide (0<((PL u1 x1 u2 u3).left)))
abbrev ae8:Nat × TV:=(8,(vD (lV [(.int .i64 (SF u1 x1 u2 u3)),(.int .i64 ((PL u1 x1 u2 u3).left))] 0)))
abbrev aao:=(u4.set ((SF u1 x1 u2 u3).toNat) true)
abbrev abp:=(aC aj (aao u1 x1 u2 u3 u4))
abbrev abj:Nat × TV:=(3,(vO 52 true ((aao u1 x1 u2 u3 u4).length)))
abbrev YH:Nat × Option Ob:=(52,some (cu 4 1 aj (aao u1 x1 u2 u3 u4)))
abbrev acj:List (Nat × Option Ob):=[ve,(q9 u0),(wY r_),(vK r_),(YH u1 x1 u2 u3 u4),(53,some (.cells 226 [(.own 96 false u9.l.length)])),(PS u2 u6),(96,some (LX u9))]
abbrev ab2:List (Nat × TV):=[dZ,(xE x1 u1),(abj u1 x1 u2 u3 u4),(4,(vP 53 0)),(5,(vP 55 0)),(IJ u1 u2),(Ii u1 u2),(VY u3)]
abbrev WI:Nat × Option Ob:=(53,some (.cells 226 [(.own 97 false u5.2.2.l.length)]))
abbrev Yb:Nat × Option Ob:=(97,some (cu 164 2 af.cell u5.2.2.l))
abbrev ac6:List (Nat × Option Ob):=[ve,(q9 u0),(wY r_),(vK r_),(Qh u8),(WI u5),(PS u2 u6),(Yb u5),(98,some (MJ u5))]
end
theorem jI (x1:(List aY)) (u1:(List (List Int))) (u0:ah) (o_:(List Bool)) {r:(List Bool)} (h:bU x1 u1 u0 o_=some r):Fn Try.prog 121 [(.one (.yl 0)),(sD (lV [(lV [(aK none 2 aY.cell x1),(Po u1)] 0)] 0))] (KW o_ u0) (.iP []) [ve,(q9 u0),(2,some (.cells 27 [(.own 3 true r.length)])),(3,some (cu 4 1 aj r))]:=by
 refine fN tT Try.func121 rfl rfl fun B=> ?_
 show bJ _ _ _ _ _ _ ((gZ u0) r) _
 unfold bU at h
 refine aQ (aO h fun⟨a1,a2,a3⟩ h=> ?_)
 refine rg tT ⟨(ab5 u1 x1),[ve,(q9 u0),(wY o_),(vK o_),(52,some (cu 4 1 aj (ND u1)))]⟩ [_,((u1.length:Int):Int)=(u1.length:Int),_,_,(ND u1).length=((u1.length:Int).toNat),aG ((u1.length:Int).toNat) 1 (fun _ j=>[(.bool false)].getD j .nilp) (aaM u1)] {an:=[(5, .arr (ND u1).length (aaM u1))],fr:=[(5,52)] } [] ⟨a1,rfl,a2,a3,(List.length_replicate),(dQ _ _ _ _ _ (fun j hj=>(match j,hj with|0,_=>rfl))),trivial⟩ ?_
 refine aQ (aO h fun a1 h=> ?_)
 refine ri tT ⟨(ab5 u1 x1),[ve,(q9 u0),(wY o_),(vK o_),(52,some (.arr 4 1 (ND u1).length (Zb u1)))]⟩ [_,_,aG (ND u1).length 1 (jZ (aaM u1) 0 0 [(.bool true)]) (Zb u1)] {an:=[(2, .arr 0 (Zb u1))] } [] ⟨a1,(tL a1),(bL _ _ _ _ _ _ _ _ rfl (fun j hj=>(match j,hj with|0,_=>rfl))),trivial⟩ (bM.le (st':=⟨[dZ,(xE x1 u1),(YG u1)],[ve,(q9 u0),(wY o_),(vK o_),(Us u1)]⟩) ⟨⟨tR,tR,⟨_,rfl,eO.v (eG.one cW)⟩,trivial⟩,(hN 4 ⟨rfl,oW,trivial⟩)⟩) ?_
 refine si tT ⟨(abe u1 x1),[ve,(q9 u0),(wY o_),(vK o_),(Us u1),(53,some (.cells 226 [(.d nS)]))]⟩ [] {fr:=[(0,53)] } [] trivial (.trans (bM.zi (E:=0) (esz:=0) (E0:=226) (cs:=[(.d nS)]) (p:=53) (q:=0) (b:=54) (esz0:=0) (el0:=fun _ _=> .nilp) (ob:= .arr 164 2 0 (aC af.cell ([]:List af))) (fun _ _ _ _ h=> .inl ⟨h,rfl⟩) (by kernel_rfl) (by kernel_rfl) (by kernel_rfl)) (.trans (fz ⟨(abe u1 x1),[ve,(q9 u0),(wY o_),(vK o_),(Us u1),(53,some (.cells 226 [(.own 54 false 0)])),(54,some (.arr 164 2 0 (aC af.cell ([]:List af))))]⟩ []) (bM.le (st':=⟨(abe u1 x1),[ve,(q9 u0),(wY o_),(vK o_),(Us u1),(53,some (.cells 226 [(.own 54 false (([]:List af).length))])),(54,some (cu 164 2 af.cell ([]:List af)))]⟩) ⟨⟨tR,tR,tR,tR,trivial⟩,(hN 5 ⟨rfl,bA ⟨cW,trivial⟩,⟨rfl,oW,trivial⟩⟩)⟩))) ?_
 refine sz tT ⟨[dZ,(xE x1 u1),(YG u1),(4,(vP 53 0)),(5,(vP 55 0))],[ve,(q9 u0),(wY o_),(vK o_),(Us u1),(53,some (.cells 226 [(.own 54 false (([]:List af).length))])),(54,some (cu 164 2 af.cell ([]:List af))),(55,some (.cells 164 [(cI 0),(cI (-1))]))]⟩ {fr:=[(1,55)] } [] ?_
 refine bE h fun y1 hy h=> ?_
 refine aL [] (jP x1 u1 u0) jL (gZ u0) hy (fun s f h=> ?_) ?_
 ·clear hy
  show bJ _ _ _ _ _ _ ((gJ x1 u1 u0) f) _
  unfold dR at h
  obtain⟨v1,v0,q0,u2,u6⟩:=s
  refine aQ (aB (aQ (aQ (bE h fun r_ hr_ h=> ?_))))
  refine rg tT ⟨[dZ,(xE x1 u1),(Ec v0),(4,(vP 53 0)),(5,(vP 55 0)),(26,(vB false))],(PG v0 q0 u2 u6 u0 r_)⟩ [(0:Int)≤0∧(0:Int)<(2:Nat),(0:Int)≤1∧(1:Int)<(2:Nat),Yl Try.prog 0 [(sI u2),(sI u6)] (KW v1 u0) (vB true) (KW r_ u0)] {an:=[(5, .call [0,1,2,3] (vB true) (KW r_ u0))] } [] ⟨((by decide)),((by decide)),(AV u2 u6 u0 v1 hr_),trivial⟩ ?_
  refine cn (aP (aQ (aQ (aO h fun a1 h=> ?_))))
  refine dg tT mX ⟨[dZ,(xE x1 u1),(Ec v0),(4,(vP 53 0)),(5,(vP 55 0)),(IJ u1 u2),(Ii u1 u2),(36,(vI 0))],(PG v0 q0 u2 u6 u0 r_)⟩ [(0:Int)≤0∧(0:Int)<(2:Nat),_] {} [] ⟨((by decide)),a1,trivial⟩ ?_
  refine bE h fun y hy h=> ?_
  refine aL [1] (jG x1 u1 u0 u2 u6 r_) (jV x1 u1 u0 u2 u6 r_) (gJ x1 u1 u0) hy (fun s f h=> ?_) ?_
  ·clear hy
   show bJ _ _ _ _ _ _ ((qx x1 u1 u0 u2 u6 r_) f) _
   unfold bN at h
   obtain⟨u4,u7,u3⟩:=s
   refine sz tT ⟨[dZ,(xE x1 u1),(Ec u4),(4,(vP 53 0)),(5,(vP 55 0)),(IJ u1 u2),(Ii u1 u2),(36,(vI u3)),(37,(vB (decide (u3<((at' u1 u2.toNat).length:Int)))))],(PG u4 u7 u2 u6 u0 r_)⟩ {} [] ?_
   refine aQ ?_
   refine bI h (fun hb1 h=> ?_) (fun hb1 h=> ?_)
   ·refine ct hb1 ?_
    refine aP (aQ (aB (aQ (aO h fun a1 h=> ?_))))
    refine rg tT ⟨[dZ,(xE x1 u1),(Ec u4),(4,(vP 53 0)),(5,(vP 55 0)),(TJ u1 u2 u3),(IJ u1 u2),(Ii u1 u2),(36,(vI u3))],(PG u4 u7 u2 u6 u0 r_)⟩ [_] {} [] ⟨a1,trivial⟩ ?_
    refine aQ (aO h fun a1 h=> ?_)
    refine rg tT ⟨[dZ,(xE x1 u1),(Ec u4),(4,(vP 53 0)),(5,(vP 55 0)),(TJ u1 u2 u3),(8,(vP 95 0)),(IJ u1 u2),(Ii u1 u2),(36,(vI u3))],(acN u1 x1 u2 u3 u0 r_ u4 u7 u6)⟩ [_] {fr:=[(7,95)] } [] ⟨a1,trivial⟩ ?_
    refine aQ (aO h fun a1 h=> ?_)
    refine rg tT ⟨[dZ,(xE x1 u1),(Ec u4),(4,(vP 53 0)),(5,(vP 55 0)),(TJ u1 u2 u3),(8,(vP 95 0)),(IJ u1 u2),(Ii u1 u2),(36,(vI u3)),(57,(vB (bif (Oq u1 x1 u2 u3)then(!(at' u4 ((SF u1 x1 u2 u3).toNat)))else false)))],(acN u1 x1 u2 u3 u0 r_ u4 u7 u6)⟩ (eqs (Oq u1 x1 u2 u3) 4 ((gP (jl [(3,(Oq u1 x1 u2 u3))]) [(3,true)]→All [(0:Int)≤(PL u1 x1 u2 u3).to_∧(PL u1 x1 u2 u3).to_<(u4.length:Int)])::((Oq u1 x1 u2 u3)=(Oq u1 x1 u2 u3))::(gP (jl [(3,(Oq u1 x1 u2 u3))]) [(3,true)]→All [(SF u1 x1 u2 u3).toNat<u4.length])::(eqs (Oq u1 x1 u2 u3) 2 []))) {yb:=[(3,(Oq u1 x1 u2 u3))] } [] (ae ⟨(fun hg=> ⟨(a1 (aZ hg)),trivial⟩),rfl,(fun hg=> ⟨((fun hq=>tL (a1 hq)) (aZ hg)),trivial⟩),(ae trivial)⟩) ?_
    refine bI h (fun hb h=> ?_) (fun hb h=> ?_)
    ·refine ct hb ?_
     refine aQ (aO h fun a1 h=> ?_)
     refine ri tT ⟨[dZ,(xE x1 u1),(Ec u4),(4,(vP 53 0)),(5,(vP 55 0)),(TJ u1 u2 u3),(ae8 u1 x1 u2 u3),(IJ u1 u2),(Ii u1 u2),(36,(vI u3))],[ve,(q9 u0),(wY r_),(vK r_),(52,some (.arr 4 1 u4.length (abp u1 x1 u2 u3 u4))),(W9 u7),(WT u7),(PS u2 u6)]⟩ [_,_,aG u4.length 1 (jZ (aC aj u4) ((SF u1 x1 u2 u3).toNat) 0 [(.bool true)]) (abp u1 x1 u2 u3 u4)] {an:=[(4, .arr 0 (abp u1 x1 u2 u3 u4))] } [95] ⟨a1,(tL a1),(bL _ _ _ _ _ _ _ _ rfl (fun j hj=>(match j,hj with|0,_=>rfl))),trivial⟩ (bM.le (st':=⟨[dZ,(xE x1 u1),(abj u1 x1 u2 u3 u4),(4,(vP 53 0)),(5,(vP 55 0)),(TJ u1 u2 u3),(ae8 u1 x1 u2 u3),(IJ u1 u2),(Ii u1 u2),(36,(vI u3))],[ve,(q9 u0),(wY r_),(vK r_),(YH u1 x1 u2 u3 u4),(W9 u7),(WT u7),(PS u2 u6)]⟩) ⟨⟨tR,tR,⟨_,rfl,eO.v (eG.one cW)⟩,tR,tR,tR,tR,tR,tR,tR,trivial⟩,(hN 4 ⟨rfl,oW,(.refl _)⟩)⟩) ?_
     refine bE h fun u9 hr_1 h=> ?_
     have q0:=rk [(0,53),(1,54),(2,96)] (rT (⟨(PL u1 x1 u2 u3).to_,(at' (at' u1 u2.toNat) u3.toNat)⟩:af) (⟨u7⟩:aH) hr_1)
     refine rg tT ⟨[dZ,(xE x1 u1),(abj u1 x1 u2 u3 u4),(4,(vP 53 0)),(5,(vP 55 0)),(IJ u1 u2),(Ii u1 u2),(36,(vI u3))],(acj u1 x1 u2 u3 u0 r_ u4 u6 u9)⟩ [_] {an:=[(4,cA q0 [53,54])] } [] ⟨q0,trivial⟩ ?_
     refine ri tT ⟨(ab2 u1 x1 u2 u3 u4),(acj u1 x1 u2 u3 u0 r_ u4 u6 u9)⟩ [] {} [] trivial (bM.fin (st':=⟨(ab2 u1 x1 u2 u3 u4),[ve,(q9 u0),(wY r_),(vK r_),(YH u1 x1 u2 u3 u4),(53,some (.cells 226 [(.own 54 false u9.l.length)])),(54,some (LX u9)),(PS u2 u6)]⟩) (cs:=[]) ⟨[],[(0,0),(1,1),(2,2),(3,3),(52,52),(53,53),(96,54),(55,55)]⟩ [0,1,3,4,5,34,35,36] (by kernel_rfl) trivial) ?_
     obtain rfl:=oi h
     exact lN
    ·refine cf hb ?_
     refine aP (rz tT ⟨[dZ,(xE x1 u1),(Ec u4),(4,(vP 53 0)),(5,(vP 55 0)),(IJ u1 u2),(Ii u1 u2),(VY u3)],(PG u4 u7 u2 u6 u0 r_)⟩ {} [] ?_)
     obtain rfl:=oi h
     exact lN
   ·refine cf hb1 ?_
    refine aI (fz (aaV x1 u1 u4 u7 u2 u6 u0 r_) []) ?_
    refine aX ?_
    obtain rfl:=oi h
    exact lB
  ·clear hy
   cases y with
   |brk z=>
    obtain⟨u8,v2⟩:=z
    unfold gm
    refine⟨_, .refl, ?_⟩
    refine aQ (bE h fun u5 hr_2 h=> ?_)
    have q0:=rk [(0,53),(1,54),(2,97)] (qX (⟨v2⟩:aH) hr_2)
    refine rg tT ⟨[dZ,(xE x1 u1),(Ec u8),(4,(vP 53 0)),(5,(vP 55 0)),(9,(vP 98 0)),(10,(vB u5.2.1))],(ac6 u2 u0 r_ u6 u5 u8)⟩ [_] {an:=[(0,cA q0 [53,54])],fr:=[(4,98)] } [] ⟨q0,trivial⟩ ?_
    refine aQ (sz tT ⟨[dZ,(xE x1 u1),(Ec u8),(4,(vP 53 0)),(5,(vP 55 0)),(9,(vP 98 0)),(73,(vB (!u5.2.1)))],(ac6 u2 u0 r_ u6 u5 u8)⟩ {} [] ?_)
    refine bI h (fun hb2 h=> ?_) (fun hb2 h=> ?_)
    ·refine ct hb2 ?_
     refine aI (fz ⟨[],(KW r_ u0)⟩ []) ?_
     refine aR ?_
     obtain rfl:=oi h
     exact lR dY (dX 0) dW (bB.mk (.inr rfl) (p:=[]) (l:=[]) (by kernel_rfl) trivial (eO.refl _) (.refl _))
    ·refine cf hb2 ?_
     refine aP (rz tT ⟨(Y7 x1 u1 u8),[ve,(q9 u0),(wY r_),(vK r_),(Qh u8),(WI u5),(55,some (MJ u5)),(Yb u5)]⟩ {} [] ?_)
     refine sz tT ⟨[dZ,(xE x1 u1),(Ec u8),(4,(vP 53 0)),(75,(.v (.agg [(cI u5.1.e0),(cI u5.1.e1)])))],[ve,(q9 u0),(wY r_),(vK r_),(Qh u8),(WI u5),(Yb u5)]⟩ {} [] ?_
     refine ri tT ⟨[dZ,(xE x1 u1),(Ec u8),(4,(vP 53 0)),(5,(vP 99 0))],[ve,(q9 u0),(wY r_),(vK r_),(Qh u8),(WI u5),(Yb u5),(99,some (MJ u5))]⟩ [] {fr:=[(0,99)] } [] trivial (bM.fin (st':=⟨(Y7 x1 u1 u8),[ve,(q9 u0),(wY r_),(vK r_),(Qh u8),(53,some (.cells 226 [(.own 54 false u5.2.2.l.length)])),(54,some (cu 164 2 af.cell u5.2.2.l)),(55,some (MJ u5))]⟩) (cs:=[]) ⟨[],[(0,0),(1,1),(2,2),(3,3),(52,52),(53,53),(97,54),(99,55)]⟩ [0,1,3,4,5] (by kernel_rfl) trivial) ?_
     obtain rfl:=oi h
     exact lN
   |ret v=>
    obtain rfl:=oi h
    unfold gm
    intro e st hn ha hR
    cases e with
    |normal=>exact absurd rfl hn
    |exit id=>simp only [qA (b:=1) ha rfl,cond_false];exact hR
    |goto l=>exact hR
    |ret=>exact hR
    |panic c=>exact hR
    |outgrown=>exact hR
 ·clear hy
  cases y1 with
  |brk z=>exact absurd h (by simp)
  |ret v=>
   obtain rfl:=oi h
   unfold gm
   intro e st hn ha hR
   cases e with
   |normal=>exact absurd rfl hn
   |exit id=>exact hR
   |goto l=>exact hR
   |ret=>exact hR
   |panic c=>exact hR
   |outgrown=>exact hR
def iU  :(ai × (List Bool) × Int)→Exit→St→Prop:=
  fun r=>bB TT [.cell 4 77, .tmp 5, .tmp 6] (.iP [(.agg [(.d (aK none 1 (au .i64) r.1.sources)),(.d (aK none 1 (au .i64) r.1.links)),(.d (aK none 2 af.cell r.1.racks))]),(sD (aK none 1 aj r.2.1)),(sI r.2.2)]) []
section
variable (p:ah) (s_:State) (u1:Int) (n1:(List (List Int))) (n0:(List aY)) (u0:(List (Int × Int)))
abbrev mZ:Nat × TV:=(8,(vI (IntKind.wrap .i64 ((IntKind.wrap .i64 ((1:Int)+p.buses))+(p.racks.length:Int)))))
abbrev qV:Nat × TV:=(11,(.v (.one (.mp 73))))
abbrev pG:Nat × TV:=(12,(.v (.one (.mp 74))))
abbrev nH:Nat × TV:=(13,(.v (.one (.mp 75))))
abbrev GV:Nat × TV:=(66,(vD (aK none 5 Source.cell p.sources)))
abbrev Gy:Nat × TV:=(67,(vI (p.sources.length:Int)))
abbrev aeR:List (Nat × TV):=[(2,(vP 63 0)),(lF s_),(4,(vP 65 0)),(mZ p),(9,(vP 67 0)),(10,(vP 72 0)),qV,pG,nH,(GV p),(Gy p),(68,(vI u1))]
abbrev zk:Nat × Option Ob:=(63,some (Yf p))
abbrev bP:Nat × Option Ob:=(65,some (.cells 77 [(.d nS),(.d nS),(.d nS)]))
abbrev QZ:Nat × Option Ob:=(66,some (.rows 40 1 n1.length (yI rW n1) none))
abbrev UK:Nat × Option Ob:=(67,some (.cells 161 [(.own 68 false n0.length),(.own 66 true n1.length)]))
abbrev KS:Nat × Option Ob:=(68,some (cu 170 2 aY.cell n0))
abbrev Ux:=((p.sources.length:Int).toNat)
abbrev L6:=(List.replicate (Ux p) (0:Int))
abbrev UG:Nat × Option Ob:=(69,some (cu 3 1 (au .i64) (L6 p)))
abbrev LV:Nat × Option Ob:=(70,some (aaW p))
abbrev Vb:=((p.racks.length:Int).toNat)
abbrev Pg:=(List.replicate (Vb p) ((⟨0,0⟩:af):af))
abbrev acw:Ob:=(cu 164 2 af.cell (Pg p))
abbrev JH:Nat × Option Ob:=(71,some (acw p))
abbrev Rk:=((Pg p).length)
abbrev UM:Nat × Option Ob:=(72,some (.cells 77 [(.own 69 true ((L6 p).length)),(.own 70 true (TS p)),(.own 71 true (Rk p))]))
abbrev X4:Ob:=(QW 3 3 false false 1 1 (au .i64) (au .i64) u0)
abbrev CP:Nat × Option Ob:=(73,some (X4 u0))
abbrev Xt:Ob:=(QW 3 3 false false 1 1 (au .i64) (au .i64) ([]:(List (Int × Int))))
abbrev Ut:Nat × Option Ob:=(74,some Xt)
abbrev Lu:Nat × Option Ob:=(75,some (QW 164 3 true false 2 1 af.cell (au .i64) ([]:(List (af × Int)))))
abbrev RJ:List (Nat × Option Ob):=[(zk p),bP,(QZ n1),(UK n1 n0),(KS n0),(UG p),(LV p),(JH p),(UM p),(CP u0),Ut,Lu]
end
def zK (p:ah) (s_:State):((List aY) × (List (List Int)) × (List (Int × Int)) × Int)→St:=
  fun zz=>match zz with|(n0,n1,u0,u1)=> ⟨(aeR p s_ u1),(RJ p n1 n0 u0)⟩
section
variable (s_:State) (p:ah) (p1:(List Source)) (x0:(List Int)) (u0:(List (List Int))) (u1:(List aY)) (u2:(List (Int × Int)))
abbrev U5:List (Nat × TV):=[(2,(vP 63 0)),(lF s_),(4,(vP 65 0)),(mZ p),(9,(vP 67 0)),(10,(vP 72 0)),qV,pG,nH]
abbrev M8:Nat × Option Ob:=(63,some (.cells 26 [(cI p.buses),(.d (k13 p1)),(.d (aK none 6 Link.cell p.links)),(.d (k6 p))]))
abbrev mU:Nat × Option Ob:=(69,some (Bt x0))
abbrev XQ:Nat × Option Ob:=(72,some (.cells 77 [(.own 69 true x0.length),(.own 70 true (TS p)),(.own 71 true (Rk p))]))
abbrev acT:List (Nat × Option Ob):=[(M8 p p1),bP,(QZ u0),(UK u0 u1),(KS u1),(mU x0),(LV p),(JH p),(XQ p x0),(CP u2),Ut,Lu]
end
def zM (p:ah) (s_:State):((List Source) × (List aY) × (List (List Int)) × (List Int) × (List (Int × Int)))→St:=
  fun zz=>match zz with|(p1,u1,u0,x0,u2)=> ⟨(U5 s_ p),(acT p p1 x0 u0 u1 u2)⟩
def G6 (p:ah) (s_:State):(aM ((List aY) × (List (List Int)) × (List (Int × Int)) × Int) (Ex ((List Source) × (List aY) × (List (List Int)) × (List Int) × (List (Int × Int))) (ai × (List Bool) × Int)))→Exit→St→Prop:=
  LQ 0 [] (zK p s_) (zM p s_) iU
section
variable (p:ah) (s_:State) (u4:Int) (u3:(List (Int × Int))) (p1:(List Source)) (u0:(List (List Int))) (u1:(List aY)) (x0:(List Int)) (u2:(List (Int × Int)))
abbrev GA:Nat × TV:=(88,(vD (aK none 6 Link.cell p.links)))
abbrev G7:Nat × TV:=(89,(vI (p.links.length:Int)))
abbrev aej:List (Nat × TV):=[(2,(vP 63 0)),(lF s_),(4,(vP 65 0)),(mZ p),(9,(vP 67 0)),(10,(vP 72 0)),qV,pG,nH,(GA p),(G7 p),(90,(vI u4))]
abbrev Da:Nat × Option Ob:=(74,some (X4 u3))
abbrev QY:List (Nat × Option Ob):=[(M8 p p1),bP,(QZ u0),(UK u0 u1),(KS u1),(mU x0),(LV p),(JH p),(XQ p x0),(CP u2),(Da u3),Lu]
end
def zD (p:ah) (s_:State) (p1:(List Source)) (x0:(List Int)) (u2:(List (Int × Int))):((List aY) × (List (List Int)) × (List (Int × Int)) × Int)→St:=
  fun zz=>match zz with|(u1,u0,u3,u4)=> ⟨(aej p s_ u4),(QY p u3 p1 u0 u1 x0 u2)⟩
section
variable (p:ah) (p1:(List Source)) (p2:(List Link)) (x1:(List Int)) (u0:(List (List Int))) (u1:(List aY)) (x0:(List Int)) (u2:(List (Int × Int))) (u3:(List (Int × Int)))
abbrev acS:Nat × Option Ob:=(63,some (.cells 26 [(cI p.buses),(.d (k13 p1)),(.d (aK none 6 Link.cell p2)),(.d (k6 p))]))
abbrev oD:Nat × Option Ob:=(70,some (Bt x1))
abbrev acg:List (Nat × Option Ob):=[(acS p p1 p2),bP,(QZ u0),(UK u0 u1),(KS u1),(mU x0),(oD x1),(JH p),(72,some (.cells 77 [(.own 69 true x0.length),(.own 70 true x1.length),(.own 71 true (Rk p))])),(CP u2),(Da u3),Lu]
end
def zG (p:ah) (s_:State) (p1:(List Source)) (x0:(List Int)) (u2:(List (Int × Int))):((List Link) × (List aY) × (List (List Int)) × (List Int) × (List (Int × Int)))→St:=
  fun zz=>match zz with|(p2,u1,u0,x1,u3)=> ⟨(U5 s_ p),(acg p p1 p2 x1 u0 u1 x0 u2 u3)⟩
def Gt (p:ah) (s_:State) (p1:(List Source)) (x0:(List Int)) (u0:(List (Int × Int))):(aM ((List aY) × (List (List Int)) × (List (Int × Int)) × Int) (Ex ((List Link) × (List aY) × (List (List Int)) × (List Int) × (List (Int × Int))) (ai × (List Bool) × Int)))→Exit→St→Prop:=
  LQ 2 [] (zD p s_ p1 x0 u0) (zG p s_ p1 x0 u0) iU
section
variable (u6:(List ay)) (s_:State) (u4:Int) (u7:Int) (u8:Int) (p:ah) (p1:(List Source)) (p2:(List Link)) (p3:(List ay)) (x2:(List af)) (x0:(List Int)) (x1:(List Int)) (u5:(List (af × Int))) (u0:(List (List Int))) (u1:(List aY)) (u2:(List (Int × Int))) (u3:(List (Int × Int)))
abbrev xZ:Nat × TV:=(115,(vD (k14 u6)))
abbrev afj:List (Nat × TV):=[(2,(vP 63 0)),(lF s_),(4,(vP 65 0)),(8,(vI u4)),(9,(vP 67 0)),(10,(vP 72 0)),qV,pG,nH,(xZ u6),(116,(vI u7)),(117,(vI u8))]
abbrev eF:Nat × Option Ob:=(63,some (.cells 26 [(cI p.buses),(.d (k13 p1)),(.d (aK none 6 Link.cell p2)),(.d (k14 p3))]))
abbrev qJ:Nat × Option Ob:=(71,some (cu 164 2 af.cell x2))
abbrev qD:Nat × Option Ob:=(72,some (.cells 77 [(.own 69 true x0.length),(.own 70 true x1.length),(.own 71 true x2.length)]))
abbrev EM:Nat × Option Ob:=(75,some (QW 164 3 true false 2 1 af.cell (au .i64) u5))
abbrev Vt:List (Nat × Option Ob):=[(eF p p1 p2 p3),bP,(QZ u0),(UK u0 u1),(KS u1),(mU x0),(oD x1),(qJ x2),(qD x2 x0 x1),(CP u2),(Da u3),(EM u5)]
end
def zx (p:ah) (s_:State) (p1:(List Source)) (x0:(List Int)) (u2:(List (Int × Int))) (p2:(List Link)) (x1:(List Int)) (u3:(List (Int × Int))):((List ay) × Int × (List aY) × (List (List Int)) × (List af) × (List (af × Int)) × (List ay) × Int × Int)→St:=
  fun zz=>match zz with|(p3,u4,u1,u0,x2,u5,u6,u7,u8)=> ⟨(afj u6 s_ u4 u7 u8),(Vt p p1 p2 p3 x2 x0 x1 u5 u0 u1 u2 u3)⟩
section
variable (u6:Int) (p:ah) (p1:(List Source)) (p2:(List Link)) (u5:(List ay)) (u0:(List (List Int))) (u1:(List aY)) (x0:(List Int)) (x1:(List Int)) (u2:(List af)) (u3:(List (Int × Int))) (u4:(List (Int × Int))) (u7:(List (af × Int)))
abbrev aa4:List (Nat × TV):=[(2,(vP 63 0)),(4,(vP 65 0)),(8,(vI u6)),(9,(vP 67 0)),(10,(vP 72 0)),qV,pG,nH]
abbrev aek:St:=⟨(aa4 u6),(Vt p p1 p2 u5 u2 x0 x1 u7 u0 u1 u3 u4)⟩
end
def zO (p:ah) (p1:(List Source)) (x0:(List Int)) (u3:(List (Int × Int))) (p2:(List Link)) (x1:(List Int)) (u4:(List (Int × Int))):((List ay) × Int × (List aY) × (List (List Int)) × (List af) × (List (af × Int)))→St:=
  fun zz=>match zz with|(u5,u6,u1,u0,u2,u7)=>(aek u6 p p1 p2 u5 u0 u1 x0 x1 u2 u3 u4 u7)
def rJ (p:ah) (s_:State) (p1:(List Source)) (x0:(List Int)) (u0:(List (Int × Int))) (p2:(List Link)) (x1:(List Int)) (u1:(List (Int × Int))):(aM ((List ay) × Int × (List aY) × (List (List Int)) × (List af) × (List (af × Int)) × (List ay) × Int × Int) (Ex ((List ay) × Int × (List aY) × (List (List Int)) × (List af) × (List (af × Int))) (ai × (List Bool) × Int)))→Exit→St→Prop:=
  LQ 4 [] (zx p s_ p1 x0 u0 p2 x1 u1) (zO p p1 x0 u0 p2 x1 u1) iU
section
variable (u1:(List ay)) (u0:Int) (s_:State) (u6:Int) (u7:Int) (u9:Int) (p:ah) (p1:(List Source)) (p2:(List Link)) (p3:(List ay)) (u2:(List (List Int))) (u3:(List aY)) (x0:(List Int)) (x1:(List Int)) (x2:(List af)) (u4:(List (Int × Int))) (u5:(List (Int × Int))) (u8:(List (af × Int)))
abbrev Zn:List DV:=[(.int .i64 ((JZ u1 u0).e0)),(.int .i64 ((JZ u1 u0).e1)),(.int .i64 ((at' u1 u0.toNat).power)),(.int .i64 ((at' u1 u0.toNat).paths))]
abbrev aeV:TV:=(vD (lV (Zn u1 u0) 0))
abbrev Eg:Nat × TV:=(19,(aeV u1 u0))
abbrev Ti:List CV:=[(cI ((JZ u1 u0).e0)),(cI ((JZ u1 u0).e1))]
abbrev Gz:Nat × TV:=(133,(.v (.agg (Ti u1 u0))))
abbrev acY:List (Nat × TV):=[(2,(vP 63 0)),(lF s_),(4,(vP 65 0)),(8,(vI u6)),(9,(vP 67 0)),(10,(vP 72 0)),qV,pG,nH,(18,(vI u0)),(Eg u1 u0),(xZ u1),(116,(vI u7)),(117,(vI u0)),(Gz u1 u0),(134,(vI u9))]
abbrev Pe:List (Nat × Option Ob):=[(eF p p1 p2 p3),bP,(QZ u2),(67,some (.cells 161 [(.own 111 false u3.length),(.own 66 true u2.length)])),(mU x0),(oD x1),(qJ x2),(qD x2 x0 x1),(CP u4),(Da u5),(EM u8),(111,some (cu 170 2 aY.cell u3))]
end
def zI (p:ah) (s_:State) (p1:(List Source)) (x0:(List Int)) (u4:(List (Int × Int))) (p2:(List Link)) (x1:(List Int)) (u5:(List (Int × Int))) (p3:(List ay)) (u6:Int) (x2:(List af)) (u1:(List ay)) (u7:Int) (u0:Int):((List aY) × (List (List Int)) × (List (af × Int)) × Int)→St:=
  fun zz=>match zz with|(u3,u2,u8,u9)=> ⟨(acY u1 u0 s_ u6 u7 u9),(Pe p p1 p2 p3 u2 u3 x0 x1 x2 u4 u5 u8)⟩
section
variable (s_:State) (u4:Int) (u5:(List ay)) (u6:Int) (u7:Int) (p:ah) (p1:(List Source)) (p2:(List Link)) (p3:(List ay)) (u0:(List (List Int))) (u1:(List aY)) (x0:(List Int)) (x1:(List Int)) (x2:(List af)) (u2:(List (Int × Int))) (u3:(List (Int × Int))) (u8:(List (af × Int)))
abbrev afw:St:=⟨(afj u5 s_ u4 u6 u7),(Pe p p1 p2 p3 u0 u1 x0 x1 x2 u2 u3 u8)⟩
end
def zL (p:ah) (s_:State) (p1:(List Source)) (x0:(List Int)) (u2:(List (Int × Int))) (p2:(List Link)) (x1:(List Int)) (u3:(List (Int × Int))) (p3:(List ay)) (u4:Int) (x2:(List af)) (u5:(List ay)) (u6:Int) (u7:Int):((List aY) × (List (List Int)) × (List (af × Int)))→St:=
  fun zz=>match zz with|(u1,u0,u8)=>(afw s_ u4 u5 u6 u7 p p1 p2 p3 u0 u1 x0 x1 x2 u2 u3 u8)
def GL (p:ah) (s_:State) (p1:(List Source)) (x0:(List Int)) (u0:(List (Int × Int))) (p2:(List Link)) (x1:(List Int)) (u1:(List (Int × Int))) (p3:(List ay)) (u2:Int) (x2:(List af)) (u3:(List ay)) (u4:Int) (u5:Int):(aM ((List aY) × (List (List Int)) × (List (af × Int)) × Int) (Ex ((List aY) × (List (List Int)) × (List (af × Int))) (aM ((List ay) × Int × (List aY) × (List (List Int)) × (List af) × (List (af × Int)) × (List ay) × Int × Int) (Ex ((List ay) × Int × (List aY) × (List (List Int)) × (List af) × (List (af × Int))) (ai × (List Bool) × Int)))))→Exit→St→Prop:=
  LQ 6 [5] (zI p s_ p1 x0 u0 p2 x1 u1 p3 u2 x2 u3 u4 u5) (zL p s_ p1 x0 u0 p2 x1 u1 p3 u2 x2 u3 u4 u5) (rJ p s_ p1 x0 u0 p2 x1 u1)
section
variable (u0:Network) (p:ah) (p1:(List Source)) (p2:(List Link)) (u4:(List ay)) (u2:(List Int)) (x1:(List Int)) (u1:(List af)) (u3:(List (Int × Int))) (u5:(List (af × Int)))
abbrev Zg:List (Nat × TV):=[(2,(vP 63 0)),(4,(vP 65 0)),(9,(vP 67 0)),(10,(vP 72 0)),pG,nH,(162,(vP 116 0))]
abbrev yu:Nat × Option Ob:=(67,some (.cells 161 [(.own 68 false u0.arcs.length),(.d (Jw u0))]))
abbrev xU:Nat × Option Ob:=(68,some (cu 170 2 aY.cell u0.arcs))
abbrev acZ:List (Nat × Option Ob):=[(eF p p1 p2 u4),bP,(yu u0),(xU u0),(mU u2),(oD x1),(qJ u1),(qD u1 u2 x1),(Da u3),(EM u5),(116,none)]
abbrev adq:St:=⟨Zg,(acZ u0 p p1 p2 u4 u2 x1 u1 u3 u5)⟩
end
def Gq (p:ah) (p1:(List Source)) (p2:(List Link)) (x1:(List Int)) (u3:(List (Int × Int))) (u4:(List ay)) (u1:(List af)) (u5:(List (af × Int))) (u0:Network):(List Int)→St:=
  fun u2=>(adq u0 p p1 p2 u4 u2 x1 u1 u3 u5)
section
variable (p:ah) (p1:(List Source)) (p2:(List Link)) (u4:(List ay)) (u0:Network) (u2:(List Int)) (u3:(List Int)) (u1:(List af)) (u5:(List (af × Int)))
abbrev aay:List (Nat × TV):=[(2,(vP 63 0)),(4,(vP 65 0)),(9,(vP 67 0)),(10,(vP 72 0)),nH,(182,(vP 117 0))]
abbrev aeu:List (Nat × Option Ob):=[(eF p p1 p2 u4),bP,(yu u0),(xU u0),(mU u2),(oD u3),(qJ u1),(qD u1 u2 u3),(EM u5),(117,none)]
abbrev acn:St:=⟨aay,(aeu p p1 p2 u4 u0 u2 u3 u1 u5)⟩
end
def G8 (p:ah) (p1:(List Source)) (p2:(List Link)) (u4:(List ay)) (u1:(List af)) (u5:(List (af × Int))) (u0:Network) (u2:(List Int)):(List Int)→St:=
  fun u3=>(acn p p1 p2 u4 u0 u2 u3 u1 u5)
section
variable (p:ah) (p1:(List Source)) (p2:(List Link)) (u4:(List ay)) (u0:Network) (u1:(List Int)) (u2:(List Int)) (u3:(List af))
abbrev TW:List (Nat × TV):=[(2,(vP 63 0)),(4,(vP 65 0)),(9,(vP 67 0)),(10,(vP 72 0)),(208,(vP 118 0))]
abbrev abQ:St:=⟨TW,[(eF p p1 p2 u4),bP,(yu u0),(xU u0),(mU u1),(oD u2),(qJ u3),(qD u3 u1 u2),(118,none)]⟩
end
def G9 (p:ah) (p1:(List Source)) (p2:(List Link)) (u4:(List ay)) (u0:Network) (u1:(List Int)) (u2:(List Int)):(List af)→St:=
  fun u3=>(abQ p p1 p2 u4 u0 u1 u2 u3)
end
end Sg
