import Derived.Test.YtpndenfhglaikaaGm
import Derived.Test.YtpndenfhglaikaaProg
set_option linter.all false
namespace Sg
open Go Go.Proofs
set_option maxRecDepth 20000
noncomputable section
noncomputable def TT:List (Nat × TI):=[(3,⟨Try.t3.desc,Try.t3.size,Try.t3.bytes,zl Try.t3,false⟩),
  (4,⟨Try.t4.desc,Try.t4.size,Try.t4.bytes,zl Try.t4,false⟩),
  (22,⟨Try.t22.desc,Try.t22.size,Try.t22.bytes,zl Try.t22,false⟩),
  (23,⟨Try.t23.desc,Try.t23.size,Try.t23.bytes,zl Try.t23,false⟩),
  (24,⟨Try.t24.desc,Try.t24.size,Try.t24.bytes,zl Try.t24,false⟩),
  (26,⟨Try.t25.desc,Try.t26.size,Try.t26.bytes,zl Try.t26,false⟩),
  (27,⟨Try.t27.desc,Try.t27.size,Try.t27.bytes,zl Try.t27,false⟩),
  (29,⟨Try.t28.desc,Try.t29.size,Try.t29.bytes,zl Try.t29,false⟩),
  (40,⟨Try.t40.desc,Try.t40.size,Try.t40.bytes,zl Try.t40,false⟩),
  (41,⟨Try.t41.desc,Try.t41.size,Try.t41.bytes,zl Try.t41,false⟩),
  (47,⟨Try.t46.desc,Try.t47.size,Try.t47.bytes,zl Try.t47,false⟩),
  (50,⟨Try.t3.desc,Try.t50.size,Try.t50.bytes,zl Try.t50,false⟩),
  (51,⟨Try.t51.desc,Try.t51.size,Try.t51.bytes,zl Try.t51,false⟩),
  (53,⟨Try.t52.desc,Try.t53.size,Try.t53.bytes,zl Try.t53,false⟩),
  (75,⟨Try.t75.desc,Try.t75.size,Try.t75.bytes,zl Try.t75,false⟩),
  (77,⟨Try.t76.desc,Try.t77.size,Try.t77.bytes,zl Try.t77,false⟩),
  (80,⟨Try.t80.desc,Try.t80.size,Try.t80.bytes,zl Try.t80,false⟩),
  (102,⟨Try.t102.desc,Try.t102.size,Try.t102.bytes,zl Try.t102,false⟩),
  (103,⟨Try.t46.desc,Try.t103.size,Try.t103.bytes,zl Try.t103,false⟩),
  (115,⟨Try.t3.desc,Try.t115.size,Try.t115.bytes,zl Try.t115,false⟩),
  (117,⟨Try.t116.desc,Try.t117.size,Try.t117.bytes,zl Try.t117,true⟩),
  (124,⟨Try.t3.desc,Try.t124.size,Try.t124.bytes,zl Try.t124,false⟩),
  (126,⟨Try.t125.desc,Try.t126.size,Try.t126.bytes,zl Try.t126,true⟩),
  (128,⟨Try.t128.desc,Try.t128.size,Try.t128.bytes,zl Try.t128,false⟩),
  (129,⟨Try.t129.desc,Try.t129.size,Try.t129.bytes,zl Try.t129,false⟩),
  (135,⟨Try.t135.desc,Try.t135.size,Try.t135.bytes,zl Try.t135,false⟩),
  (141,⟨Try.t140.desc,Try.t141.size,Try.t141.bytes,zl Try.t141,false⟩),
  (142,⟨Try.t142.desc,Try.t142.size,Try.t142.bytes,zl Try.t142,false⟩),
  (148,⟨Try.t147.desc,Try.t148.size,Try.t148.bytes,zl Try.t148,true⟩),
  (157,⟨Try.t157.desc,Try.t157.size,Try.t157.bytes,zl Try.t157,false⟩),
  (158,⟨Try.t158.desc,Try.t158.size,Try.t158.bytes,zl Try.t158,false⟩),
  (159,⟨Try.t159.desc,Try.t159.size,Try.t159.bytes,zl Try.t159,false⟩),
  (161,⟨Try.t160.desc,Try.t161.size,Try.t161.bytes,zl Try.t161,false⟩),
  (162,⟨Try.t162.desc,Try.t162.size,Try.t162.bytes,zl Try.t162,false⟩),
  (164,⟨Try.t164.desc,Try.t164.size,Try.t164.bytes,zl Try.t164,true⟩),
  (166,⟨Try.t165.desc,Try.t166.size,Try.t166.bytes,zl Try.t166,true⟩),
  (170,⟨Try.t169.desc,Try.t170.size,Try.t170.bytes,zl Try.t170,true⟩),
  (182,⟨Try.t182.desc,Try.t182.size,Try.t182.bytes,zl Try.t182,false⟩),
  (184,⟨Try.t184.desc,Try.t184.size,Try.t184.bytes,zl Try.t184,false⟩),
  (186,⟨Try.t185.desc,Try.t186.size,Try.t186.bytes,zl Try.t186,false⟩),
  (192,⟨Try.t192.desc,Try.t192.size,Try.t192.bytes,zl Try.t192,false⟩),
  (195,⟨Try.t195.desc,Try.t195.size,Try.t195.bytes,zl Try.t195,false⟩),
  (198,⟨Try.t198.desc,Try.t198.size,Try.t198.bytes,zl Try.t198,false⟩),
  (211,⟨Try.t211.desc,Try.t211.size,Try.t211.bytes,zl Try.t211,true⟩),
  (226,⟨Try.t225.desc,Try.t226.size,Try.t226.bytes,zl Try.t226,false⟩)]
theorem tT:rV Try.prog TT:=⟨iQ (by kernel_rfl) (by kernel_rfl) (by kernel_rfl),⟨kJ,dP (by kernel_rfl)⟩,iQ (by kernel_rfl) (by kernel_rfl) (by kernel_rfl),⟨kJ,dP (by kernel_rfl)⟩,iQ (by kernel_rfl) (by kernel_rfl) (by kernel_rfl),⟨kJ,dP (by kernel_rfl)⟩,iQ (by kernel_rfl) (by kernel_rfl) (by kernel_rfl),⟨kJ,dP (by kernel_rfl)⟩,iQ (by kernel_rfl) (by kernel_rfl) (by kernel_rfl),⟨kJ,dP (by kernel_rfl)⟩,iQ (by kernel_rfl) (by kernel_rfl) (by kernel_rfl),⟨kJ,dP (by kernel_rfl)⟩,iQ (by kernel_rfl) (by kernel_rfl) (by kernel_rfl),⟨kJ,dP (by kernel_rfl)⟩,iQ (by kernel_rfl) (by kernel_rfl) (by kernel_rfl),⟨kJ,dP (by kernel_rfl)⟩,iQ (by kernel_rfl) (by kernel_rfl) (by kernel_rfl),⟨kJ,dP (by kernel_rfl)⟩,iQ (by kernel_rfl) (by kernel_rfl) (by kernel_rfl),⟨kJ,dP (by kernel_rfl)⟩,iQ (by kernel_rfl) (by kernel_rfl) (by kernel_rfl),⟨kJ,dP (by kernel_rfl)⟩,iQ (by kernel_rfl) (by kernel_rfl) (by kernel_rfl),⟨kJ,dP (by kernel_rfl)⟩,iQ (by kernel_rfl) (by kernel_rfl) (by kernel_rfl),⟨kJ,dP (by kernel_rfl)⟩,iQ (by kernel_rfl) (by kernel_rfl) (by kernel_rfl),⟨kJ,dP (by kernel_rfl)⟩,iQ (by kernel_rfl) (by kernel_rfl) (by kernel_rfl),⟨kJ,dP (by kernel_rfl)⟩,iQ (by kernel_rfl) (by kernel_rfl) (by kernel_rfl),⟨kJ,dP (by kernel_rfl)⟩,iQ (by kernel_rfl) (by kernel_rfl) (by kernel_rfl),⟨kJ,dP (by kernel_rfl)⟩,iQ (by kernel_rfl) (by kernel_rfl) (by kernel_rfl),⟨kJ,dP (by kernel_rfl)⟩,iQ (by kernel_rfl) (by kernel_rfl) (by kernel_rfl),⟨kJ,dP (by kernel_rfl)⟩,iQ (by kernel_rfl) (by kernel_rfl) (by kernel_rfl),⟨kJ,dP (by kernel_rfl)⟩,iQ (by kernel_rfl) (by kernel_rfl) (by kernel_rfl),⟨fun _=> ⟨by kernel_rfl,by kernel_rfl⟩,dP (by kernel_rfl)⟩,iQ (by kernel_rfl) (by kernel_rfl) (by kernel_rfl),⟨kJ,dP (by kernel_rfl)⟩,iQ (by kernel_rfl) (by kernel_rfl) (by kernel_rfl),⟨fun _=> ⟨by kernel_rfl,by kernel_rfl⟩,dP (by kernel_rfl)⟩,iQ (by kernel_rfl) (by kernel_rfl) (by kernel_rfl),⟨kJ,dP (by kernel_rfl)⟩,iQ (by kernel_rfl) (by kernel_rfl) (by kernel_rfl),⟨kJ,dP (by kernel_rfl)⟩,iQ (by kernel_rfl) (by kernel_rfl) (by kernel_rfl),⟨kJ,dP (by kernel_rfl)⟩,iQ (by kernel_rfl) (by kernel_rfl) (by kernel_rfl),⟨kJ,dP (by kernel_rfl)⟩,iQ (by kernel_rfl) (by kernel_rfl) (by kernel_rfl),⟨kJ,dP (by kernel_rfl)⟩,iQ (by kernel_rfl) (by kernel_rfl) (by kernel_rfl),⟨fun _=> ⟨by kernel_rfl,by kernel_rfl⟩,dP (by kernel_rfl)⟩,iQ (by kernel_rfl) (by kernel_rfl) (by kernel_rfl),⟨kJ,dP (by kernel_rfl)⟩,iQ (by kernel_rfl) (by kernel_rfl) (by kernel_rfl),⟨kJ,dP (by kernel_rfl)⟩,iQ (by kernel_rfl) (by kernel_rfl) (by kernel_rfl),⟨kJ,dP (by kernel_rfl)⟩,iQ (by kernel_rfl) (by kernel_rfl) (by kernel_rfl),⟨kJ,dP (by kernel_rfl)⟩,iQ (by kernel_rfl) (by kernel_rfl) (by kernel_rfl),⟨kJ,dP (by kernel_rfl)⟩,iQ (by kernel_rfl) (by kernel_rfl) (by kernel_rfl),⟨fun _=> ⟨by kernel_rfl,by kernel_rfl⟩,dP (by kernel_rfl)⟩,iQ (by kernel_rfl) (by kernel_rfl) (by kernel_rfl),⟨fun _=> ⟨by kernel_rfl,by kernel_rfl⟩,dP (by kernel_rfl)⟩,iQ (by kernel_rfl) (by kernel_rfl) (by kernel_rfl),⟨fun _=> ⟨by kernel_rfl,by kernel_rfl⟩,dP (by kernel_rfl)⟩,iQ (by kernel_rfl) (by kernel_rfl) (by kernel_rfl),⟨kJ,dP (by kernel_rfl)⟩,iQ (by kernel_rfl) (by kernel_rfl) (by kernel_rfl),⟨kJ,dP (by kernel_rfl)⟩,iQ (by kernel_rfl) (by kernel_rfl) (by kernel_rfl),⟨kJ,dP (by kernel_rfl)⟩,iQ (by kernel_rfl) (by kernel_rfl) (by kernel_rfl),⟨kJ,dP (by kernel_rfl)⟩,iQ (by kernel_rfl) (by kernel_rfl) (by kernel_rfl),⟨kJ,dP (by kernel_rfl)⟩,iQ (by kernel_rfl) (by kernel_rfl) (by kernel_rfl),⟨kJ,dP (by kernel_rfl)⟩,iQ (by kernel_rfl) (by kernel_rfl) (by kernel_rfl),⟨fun _=> ⟨by kernel_rfl,by kernel_rfl⟩,dP (by kernel_rfl)⟩,iQ (by kernel_rfl) (by kernel_rfl) (by kernel_rfl),⟨kJ,dP (by kernel_rfl)⟩,trivial⟩
theorem mX:Try.prog.follows .mixedOrders=true:=by kernel_rfl
def Ol  :Int→Exit→St→Prop:=
  fun r=>aU TT [.tmp 4] (vI r) []
theorem Me (x:Int) (n:Int) {r:Int} (h:xu x n=some r):Fn Try.prog 14 [(sI x),(sI n)] [] (vI r) []:=by
 refine fN tT Try.func14 rfl rfl fun B=> ?_
 show bn _ _ _ _ _ _ (Ol r) _
 unfold xu at h
 refine sz tT ⟨[(0,(vI x)),(1,(vI n))],[]⟩ {} [] ?_
 refine aQ (sz tT ⟨[(0,(vI x)),(1,(vI n)),(7,(vB (decide (n<1))))],[]⟩ {} [] ?_)
 refine bI h (fun hb1 h=> ?_) (fun hb1 h=> ?_)
 ·refine ct hb1 ?_
  refine sz tT ⟨[(4,(vI 0))],[]⟩ {} [] ?_
  refine aR ?_
  obtain rfl:=oi h
  exact rl [(sI 0)]
 ·refine cf hb1 ?_
  refine aP (aQ (aO h fun a1 h=> ?_))
  refine rg tT ⟨[(1,(vI n)),(5,(vI (Int.tmod x n)))],[]⟩ [_] {} [] ⟨a1,trivial⟩ ?_
  refine aQ (sz tT ⟨[(1,(vI n)),(5,(vI (Int.tmod x n))),(12,(vB (decide ((Int.tmod x n)<0))))],[]⟩ {} [] ?_)
  refine bI h (fun hb h=> ?_) (fun hb h=> ?_)
  ·refine ct hb ?_
   refine rz tT ⟨[(5,(vI (IntKind.wrap .i64 ((Int.tmod x n)+n))))],[]⟩ {} [] ?_
   refine sz tT ⟨[(4,(vI (IntKind.wrap .i64 ((Int.tmod x n)+n))))],[]⟩ {} [] ?_
   refine aR ?_
   obtain rfl:=oi h
   exact rl [(sI (IntKind.wrap .i64 ((Int.tmod x n)+n)))]
  ·refine cf hb ?_
   refine aP (sz tT ⟨[(4,(vI (Int.tmod x n)))],[]⟩ {} [] ?_)
   refine aR ?_
   obtain rfl:=oi h
   exact rl [(sI (Int.tmod x n))]
def G9  :Bool→Exit→St→Prop:=
  fun r=>aU TT [.tmp 6] (vB r) []
theorem aV (n:Int) (u0:Int) (u1:Int) {r:Bool} (h:aW n u0 u1=some r):Fn Try.prog 94 [(sI n),(sI u0),(sI u1)] [] (vB r) []:=by
 refine fN tT Try.func94 rfl rfl fun B=> ?_
 show bn _ _ _ _ _ _ (G9 r) _
 unfold aW at h
 refine sz tT ⟨[(0,(vI n)),(1,(vI u0)),(2,(vI u1))],[]⟩ {} [] ?_
 refine sg tT ⟨[(6,(vB (bif (decide (u0≤n))then(decide (n≤u1))else false)))],[]⟩ (eqs (decide (u0≤n)) 4 []) {yb:=[(3,(decide (u0≤n)))] } [] (ae trivial) ?_
 refine aR ?_
 obtain rfl:=oi h
 exact rl [(sB (bif (decide (u0≤n))then(decide (n≤u1))else false))]
def Hu  :(Int × (List Source) × (List Link) × (List ay))→Exit→St→Prop:=
  fun r=>aU TT [.tmp 2] (vD (.fn 135 1 (nT [(mg [(.int .i64 r.1),(aJ none 5 Source.cell r.2.1),(aJ none 6 Link.cell r.2.2.1),(aJ none 4 ay.cell r.2.2.2)] 0)]))) []
section
variable (p:ah)
abbrev k2:DV:=(aJ none 4 ay.cell p.racks)
abbrev k1:List CV:=[(cI p.buses),(.d (aJ none 5 Source.cell p.sources)),(.d (aJ none 6 Link.cell p.links)),(.d (k2 p))]
abbrev k0:List SV:=[(.agg (k1 p))]
abbrev k6:DV:=(mg [(.int .i64 p.buses),(aJ none 5 Source.cell p.sources),(aJ none 6 Link.cell p.links),(k2 p)] 0)
abbrev k5:TV:=(vD (k6 p))
abbrev k4:Nat × TV:=(1,(k5 p))
abbrev k3:St:=⟨[(k4 p)],[]⟩
abbrev k7:=(nT [(k6 p)])
end
theorem FZ (p:ah) {r:(Int × (List Source) × (List Link) × (List ay))} (h:pq p=some r):Fn Try.prog 96 (k0 p) [] (vD (.fn 135 1 (nT [(mg [(.int .i64 r.1),(aJ none 5 Source.cell r.2.1),(aJ none 6 Link.cell r.2.2.1),(aJ none 4 ay.cell r.2.2.2)] 0)]))) []:=by
 refine fN tT Try.func96 rfl rfl fun B=> ?_
 show bn _ _ _ _ _ _ (Hu r) _
 unfold pq at h
 refine sz tT (k3 p) {fr:=[(0,1)] } [1] ?_
 refine sz tT ⟨[(2,(vD (.fn 135 1 (k7 p))))],[]⟩ {} [] ?_
 refine aR ?_
 obtain rfl:=oi h
 exact rl [(sD (.fn 135 1 (k7 p)))]
def Lf  :(Int × (List Source) × (List Link) × (List ay))→Exit→St→Prop:=
  fun r=>aU TT [.tmp 2] (vD (.fn 138 1 (nT [(mg [(.int .i64 r.1),(aJ none 5 Source.cell r.2.1),(aJ none 6 Link.cell r.2.2.1),(aJ none 4 ay.cell r.2.2.2)] 0)]))) []
theorem Jz (p:ah) {r:(Int × (List Source) × (List Link) × (List ay))} (h:uY p=some r):Fn Try.prog 98 (k0 p) [] (vD (.fn 138 1 (nT [(mg [(.int .i64 r.1),(aJ none 5 Source.cell r.2.1),(aJ none 6 Link.cell r.2.2.1),(aJ none 4 ay.cell r.2.2.2)] 0)]))) []:=by
 refine fN tT Try.func98 rfl rfl fun B=> ?_
 show bn _ _ _ _ _ _ (Lf r) _
 unfold uY at h
 refine sz tT (k3 p) {fr:=[(0,1)] } [1] ?_
 refine sz tT ⟨[(2,(vD (.fn 138 1 (k7 p))))],[]⟩ {} [] ?_
 refine aR ?_
 obtain rfl:=oi h
 exact rl [(sD (.fn 138 1 (k7 p)))]
def Km  :(Int × (List Source) × (List Link) × (List ay))→Exit→St→Prop:=
  fun r=>aU TT [.tmp 2] (vD (.fn 141 1 (nT [(mg [(.int .i64 r.1),(aJ none 5 Source.cell r.2.1),(aJ none 6 Link.cell r.2.2.1),(aJ none 4 ay.cell r.2.2.2)] 0)]))) []
theorem Jb (p:ah) {r:(Int × (List Source) × (List Link) × (List ay))} (h:uQ p=some r):Fn Try.prog 100 (k0 p) [] (vD (.fn 141 1 (nT [(mg [(.int .i64 r.1),(aJ none 5 Source.cell r.2.1),(aJ none 6 Link.cell r.2.2.1),(aJ none 4 ay.cell r.2.2.2)] 0)]))) []:=by
 refine fN tT Try.func100 rfl rfl fun B=> ?_
 show bn _ _ _ _ _ _ (Km r) _
 unfold uQ at h
 refine sz tT (k3 p) {fr:=[(0,1)] } [1] ?_
 refine sz tT ⟨[(2,(vD (.fn 141 1 (k7 p))))],[]⟩ {} [] ?_
 refine aR ?_
 obtain rfl:=oi h
 exact rl [(sD (.fn 141 1 (k7 p)))]
def EN  :Bool→Exit→St→Prop:=
  fun r=>aU TT [.tmp 3] (vB r) []
section
variable (u4:(List Source)) (u6:(List ay)) (x1:Int) (u5:(List Link)) (x:Source) (r_:Bool) (u0:Bool) (u1:Bool) (u2:Bool)
abbrev k9:DV:=(aJ none 5 Source.cell u4)
abbrev k10:DV:=(aJ none 4 ay.cell u6)
abbrev k8:DV:=(mg [(.int .i64 x1),(k9 u4),(aJ none 6 Link.cell u5),(k10 u6)] 0)
abbrev k11:Nat × TV:=(1,(vD (k8 u4 u6 x1 u5)))
abbrev k12:Nat × TV:=(2,(vD (mg [(.int .i64 x.bus),(.int .i64 x.kind),(.int .i64 x.power),(.int .i64 x.sync),(.int .i64 x.bg)] 0)))
abbrev k13:=(IntKind.wrap .i64 (x1 - 1))
abbrev k16:=(bif r_ then u0 else false)
abbrev k15:=(bif (k16 r_ u0)then u1 else false)
abbrev k14:=(bif (k15 r_ u0 u1)then u2 else false)
abbrev k17:=(gG [(6,r_),(11,(k16 r_ u0)),(16,(k15 r_ u0 u1)),(21,(k14 r_ u0 u1 u2))])
end
theorem Dy (x:Source) (x1:Int) (u4:(List Source)) (u5:(List Link)) (u6:(List ay)) {r:Bool} (h:jR x x1 u4 u5 u6=some r):Fn Try.prog 135 [(.agg [(cI x.bus),(cI x.kind),(cI x.power),(cI x.sync),(cI x.bg)]),(sD (k8 u4 u6 x1 u5))] [] (vB r) []:=by
 refine fN tT Try.func135 rfl rfl fun B=> ?_
 show bn _ _ _ _ _ _ (EN r) _
 unfold jR at h
 refine sz tT ⟨[(k11 u4 u6 x1 u5),(k12 x)],[]⟩ {fr:=[(0,1)] } [1] ?_
 refine aQ (bE h fun r_ hr_ h=> ?_)
 refine bE h fun u0 hr_1 h=> ?_
 refine bE h fun u1 hr_2 h=> ?_
 refine bE h fun u2 hr_3 h=> ?_
 refine bE h fun u3 hr_4 h=> ?_
 have q0:=aV x.bus 0 (k13 x1) hr_
 refine rg tT ⟨[(3,(vB (bif (k14 r_ u0 u1 u2)then u3 else false)))],[]⟩ (_::(eqs r_ 3 ((gP (k17 r_ u0 u1 u2) [(6,true)]→All [Fn Try.prog 94 [(sI x.kind),(sI 1),(sI 3)] [] (vB u0) []])::(r_=r_)::(eqs (k16 r_ u0) 3 ((gP (k17 r_ u0 u1 u2) [(11,true)]→All [Fn Try.prog 94 [(sI x.power),(sI 1),(sI 100000)] [] (vB u1) []])::((k16 r_ u0)=(k16 r_ u0))::(eqs (k15 r_ u0 u1) 3 ((gP (k17 r_ u0 u1 u2) [(16,true)]→All [Fn Try.prog 94 [(sI x.sync),(sI 0),(sI 8)] [] (vB u2) []])::((k15 r_ u0 u1)=(k15 r_ u0 u1))::(eqs (k14 r_ u0 u1 u2) 3 [gP (k17 r_ u0 u1 u2) [(21,true)]→All [Fn Try.prog 94 [(sI x.bg),(sI 10),(sI 100000)] [] (vB u3) []],(k14 r_ u0 u1 u2)=(k14 r_ u0 u1 u2)])))))))) {yb:=[(6,r_),(11,(k16 r_ u0)),(16,(k15 r_ u0 u1)),(21,(k14 r_ u0 u1 u2))],an:=[(5,cA q0 []),(9, .call [] (vB u0) []),(14, .call [] (vB u1) []),(19, .call [] (vB u2) []),(24, .call [] (vB u3) [])] } [] ⟨q0,(ae ⟨(fun hg=> ⟨(aV x.kind 1 3 (dJ hr_1 (aN hg))),trivial⟩),rfl,(ae ⟨(fun hg=> ⟨(aV x.power 1 100000 (dJ hr_2 (aN hg))),trivial⟩),rfl,(ae ⟨(fun hg=> ⟨(aV x.sync 0 8 (dJ hr_3 (aN hg))),trivial⟩),rfl,(ae ⟨(fun hg=> ⟨(aV x.bg 10 100000 (dJ hr_4 (aN hg))),trivial⟩),rfl,trivial⟩)⟩)⟩)⟩)⟩ ?_
 refine aR ?_
 obtain rfl:=oi h
 exact rl [(sB (bif (k14 r_ u0 u1 u2)then u3 else false))]
def Ih  :Bool→Exit→St→Prop:=
  fun r=>aU TT [.tmp 3] (vB r) []
section
variable (x1:Int) (u0:(List Source)) (u1:(List Link)) (u2:(List ay))
abbrev k19:=(nT [(k8 u0 u2 x1 u1)])
abbrev k18:DV:=(mg [(.fn 135 1 (k19 x1 u0 u1 u2))] 0)
abbrev k20:TV:=(vD (k18 x1 u0 u1 u2))
end
theorem FU (x:Source) (x1:Int) (u0:(List Source)) (u1:(List Link)) (u2:(List ay)) {r:Bool} (h:pz x x1 u0 u1 u2=some r):Fn Try.prog 134 [(.agg [(cI x.bus),(cI x.kind),(cI x.power),(cI x.sync),(cI x.bg)]),(sD (k18 x1 u0 u1 u2))] [] (vB r) []:=by
 refine fN tT Try.func134 rfl rfl fun B=> ?_
 show bn _ _ _ _ _ _ (Ih r) _
 unfold pz at h
 refine sz tT ⟨[(1,(k20 x1 u0 u1 u2)),(k12 x)],[]⟩ {fr:=[(0,1)] } [1] ?_
 refine aQ (bE h fun r_ hr_ h=> ?_)
 have q0:=Dy x x1 u0 u1 u2 hr_
 refine rg tT ⟨[(3,(vB (!r_)))],[]⟩ [_] {an:=[(2,cA q0 [])] } [] ⟨q0,trivial⟩ ?_
 refine aR ?_
 obtain rfl:=oi h
 exact rl [(sB (!r_))]
def mr  :Int→Exit→St→Prop:=
  fun r=>aU TT [.tmp 4] (vI r) []
section
variable (s_:(List Source)) (f_:Int) (u0:(List Source)) (u1:(List Link)) (u2:(List ay))
abbrev k21:Nat × TV:=(0,(vD (k9 s_)))
abbrev k23:=(nT [(k18 f_ u0 u1 u2)])
abbrev k22:Nat × TV:=(1,(vD (.fn 134 1 (k23 f_ u0 u1 u2))))
abbrev k24:Nat × TV:=(7,(vI (s_.length:Int)))
end
def qF (s_:(List Source)) (f_:Int) (u0:(List Source)) (u1:(List Link)) (u2:(List ay)):Int→St:=
  fun t8=> ⟨[(k21 s_),(k22 f_ u0 u1 u2),(k24 s_),(8,(vI t8))],[]⟩
def qH  :Unit→St:=
  fun _=> ⟨[],[]⟩
def BB (s_:(List Source)) (f_:Int) (u0:(List Source)) (u1:(List Link)) (u2:(List ay)):(aK Int (Ex Unit Int))→Exit→St→Prop:=
  LQ 0 [] (qF s_ f_ u0 u1 u2) qH mr
section
variable (s_:(List Source)) (f_:Int) (u0:(List Source)) (u1:(List Link)) (u2:(List ay)) (t8:Int)
abbrev k25:List SV:=[(sD (k9 s_)),(sD (.fn 134 1 (k23 f_ u0 u1 u2)))]
abbrev k26:St:=⟨[(k21 s_),(k22 f_ u0 u1 u2)],[]⟩
abbrev k28:TV:=(vI (IntKind.wrap .i64 (t8+1)))
abbrev k27:Nat × TV:=(8,(k28 t8))
end
theorem BG (s_:(List Source)) (f_:Int) (u0:(List Source)) (u1:(List Link)) (u2:(List ay)) {r:Int} (h:kr s_ f_ u0 u1 u2=some r):Fn Try.prog 150 (k25 s_ f_ u0 u1 u2) [] (vI r) []:=by
 refine fN tT Try.func150 rfl rfl fun B=> ?_
 show bn _ _ _ _ _ _ (mr r) _
 unfold kr at h
 refine sz tT (k26 s_ f_ u0 u1 u2) {} [] ?_
 refine aQ (sz tT ⟨[(k21 s_),(k22 f_ u0 u1 u2),(k24 s_),(8,(vI 0))],[]⟩ {} [] ?_)
 refine bE h fun y hy h=> ?_
 refine aL [] (qF s_ f_ u0 u1 u2) qH mr hy (fun s f h=> ?_) ?_
 ·clear hy
  show bn _ _ _ _ _ _ ((BB s_ f_ u0 u1 u2) f) _
  unfold iK at h
  obtain⟨t8,rfl⟩: ∃q,q=s:=⟨_,rfl⟩
  refine sz tT ⟨[(k21 s_),(k22 f_ u0 u1 u2),(k24 s_),(8,(vI t8)),(9,(vB (decide (t8<(s_.length:Int)))))],[]⟩ {} [] ?_
  refine aQ ?_
  refine bI h (fun hb1 h=> ?_) (fun hb1 h=> ?_)
  ·refine ct hb1 ?_
   refine aP (aQ (aB (sz tT ⟨[(k21 s_),(k22 f_ u0 u1 u2),(5,(vI t8)),(k24 s_),(8,(vI t8))],[]⟩ {} [] ?_)))
   refine aQ (bE h fun r_ hr_ h=> ?_)
   refine aO h fun a1 h=> ?_
   have q1:=FU (at' s_ t8.toNat) f_ u0 u1 u2 hr_
   refine rg tT ⟨[(k21 s_),(k22 f_ u0 u1 u2),(5,(vI t8)),(k24 s_),(8,(vI t8)),(16,(vB r_))],[]⟩ [_,_] {an:=[(5,cA q1 [])] } [] ⟨a1,q1,trivial⟩ ?_
   refine bI h (fun hb h=> ?_) (fun hb h=> ?_)
   ·refine ct hb ?_
    refine sz tT ⟨[(4,(vI t8))],[]⟩ {} [] ?_
    refine aR ?_
    obtain rfl:=oi h
    exact lR bS (bT 0) bR (aU.mk (.inr rfl) (p:=[]) (l:=[(sI t8)]) (by kernel_rfl) trivial (cu.refl _) trivial)
   ·refine cf hb ?_
    refine aP (rz tT ⟨[(k21 s_),(k22 f_ u0 u1 u2),(k24 s_),(k27 t8)],[]⟩ {} [] ?_)
    obtain rfl:=oi h
    exact lN
  ·refine cf hb1 ?_
   refine aI (fz ⟨[],[]⟩ []) ?_
   refine aX ?_
   obtain rfl:=oi h
   exact lB
 ·clear hy
  cases y with
  |brk z=>
   unfold dU
   refine⟨_, .refl, ?_⟩
   refine sz tT ⟨[(4,(vI (-1)))],[]⟩ {} [] ?_
   refine aR ?_
   obtain rfl:=oi h
   exact rl [(sI (-1))]
  |ret v=>
   obtain rfl:=oi h
   unfold dU
   intro e st hn ha hR
   cases e with
   |normal=>exact absurd rfl hn
   |exit id=>exact hR
   |goto l=>exact hR
   |ret=>exact hR
   |panic c=>exact hR
   |outgrown=>exact hR
def zX  :Bool→Exit→St→Prop:=
  fun r=>aU TT [.tmp 4] (vB r) []
section
variable (r_:Int)
abbrev k29:St:=⟨[(4,(vB (decide (0≤r_))))],[]⟩
end
theorem zi (s_:(List Source)) (f_:Int) (u0:(List Source)) (u1:(List Link)) (u2:(List ay)) {r:Bool} (h:fH s_ f_ u0 u1 u2=some r):Fn Try.prog 133 (k25 s_ f_ u0 u1 u2) [] (vB r) []:=by
 refine fN tT Try.func133 rfl rfl fun B=> ?_
 show bn _ _ _ _ _ _ (zX r) _
 unfold fH at h
 refine sz tT (k26 s_ f_ u0 u1 u2) {} [] ?_
 refine aQ (bE h fun r_ hr_ h=> ?_)
 have q0:=BG s_ f_ u0 u1 u2 hr_
 refine rg tT (k29 r_) [_] {an:=[(2,cA q0 [])] } [] ⟨q0,trivial⟩ ?_
 refine aR ?_
 obtain rfl:=oi h
 exact rl [(sB (decide (0≤r_)))]
def J4  :Bool→Exit→St→Prop:=
  fun r=>aU TT [.tmp 6] (vB r) []
theorem JH (l:(List Source)) (u0:Int) (u1:Int) (u2:(List Source)) (u3:(List Link)) (u4:(List ay)) {r:Bool} (h:qh l u0 u1 u2 u3 u4=some r):Fn Try.prog 95 [(sD (k9 l)),(sI u0),(sD (.fn 135 1 (k19 u1 u2 u3 u4)))] [] (vB r) []:=by
 refine fN tT Try.func95 rfl rfl fun B=> ?_
 show bn _ _ _ _ _ _ (J4 r) _
 unfold qh at h
 refine sz tT ⟨[(k21 l),(1,(vI u0)),(5,(k20 u1 u2 u3 u4))],[]⟩ {fr:=[(0,1)] } [1] ?_
 refine aQ (bE h fun r_ hr_ h=> ?_)
 refine rg tT ⟨[(6,(vB (bif (decide ((l.length:Int)≤u0))then(!r_)else false)))],[]⟩ (eqs (decide ((l.length:Int)≤u0)) 3 ((gP (gG [(4,(decide ((l.length:Int)≤u0)))]) [(4,true)]→All [Fn Try.prog 133 (k25 l u1 u2 u3 u4) [] (vB r_) []])::(eqs (decide ((l.length:Int)≤u0)) 2 []))) {yb:=[(4,(decide ((l.length:Int)≤u0)))],an:=[(7, .call [] (vB r_) [])] } [] (ae ⟨(fun hg=> ⟨(zi l u1 u2 u3 u4 (dJ hr_ (aN hg))),trivial⟩),(ae trivial)⟩) ?_
 refine aR ?_
 obtain rfl:=oi h
 exact rl [(sB (bif (decide ((l.length:Int)≤u0))then(!r_)else false))]
def rf  :Bool→Exit→St→Prop:=
  fun r=>aU TT [.tmp 3] (vB r) []
section
variable (x:Link)
abbrev k30:Nat × TV:=(2,(vD (mg [(.int .i64 x.a),(.int .i64 x.b),(.int .i64 x.kind),(.int .i64 x.most),(.int .i64 x.bg),(aJ none 2 iD.cell x.trip)] 0)))
abbrev k31:Nat × TV:=(48,(vD (aJ none 2 iD.cell x.trip)))
abbrev k32:Nat × TV:=(49,(vI (x.trip.length:Int)))
end
def yE (x:Link):Int→St:=
  fun u0=> ⟨[(k30 x),(k31 x),(k32 x),(50,(vI u0))],[]⟩
section
variable (x:Link)
abbrev k33:St:=⟨[(k30 x)],[]⟩
end
def xQ (x:Link):Unit→St:=
  fun _=>(k33 x)
def Fw (x:Link):(aK Int (Ex Unit Bool))→Exit→St→Prop:=
  LQ 0 [] (yE x) (xQ x) rf
section
variable (x:Link) (r_:Bool) (u1:Bool) (u3:Bool) (u5:Bool) (u0:Int) (u2:Bool) (u4:Bool)
abbrev k34:List CV:=[(cI x.a),(cI x.b),(cI x.kind),(cI x.most),(cI x.bg),(.d (aJ none 2 iD.cell x.trip))]
abbrev k36:Ob:=(.cells 53 (k34 x))
abbrev k35:List (Nat × Option Ob):=[(5,some (k36 x))]
abbrev VD:=(bif (!r_)then true else(!u1))
abbrev k39:=(bif (VD r_ u1)then true else(decide (x.a=x.b)))
abbrev k38:=(bif (k39 x r_ u1)then true else(!u3))
abbrev k37:=(bif (k38 x r_ u1 u3)then true else(!u5))
abbrev k41:=(gG [(7,(!r_)),(16,(VD r_ u1)),(23,(k39 x r_ u1)),(29,(k38 x r_ u1 u3)),(35,(k37 x r_ u1 u3 u5))])
abbrev k43:=((at' x.trip u0.toNat).millis)
abbrev k42:TV:=(vD (mg [(.int .i64 ((at' x.trip u0.toNat).amps)),(.int .i64 (k43 x u0))] 0))
abbrev Vf:=(decide (((at' x.trip u0.toNat).amps)≤((at' x.trip ((k13 u0).toNat)).amps)))
abbrev k44:=(bif (decide (0<u0))then(bif (Vf x u0)then true else(decide (((at' x.trip ((k13 u0).toNat)).millis)≤(k43 x u0))))else false)
abbrev k46:=(gG [(4,(!u2)),(10,(VD u2 u4)),(13,(decide (0<u0))),(24,(Vf x u0))])
abbrev k48:=(decide ((x.trip.length:Int)≤6))
abbrev k49:=(decide ((x.trip.length:Int)=0))
abbrev k47:=(bif (k48 x)then(bif (k49 x)then true else(decide (x.kind=3)))else false)
end
theorem Fx (x:Link) (x1:Int) (u6:(List Source)) (u7:(List Link)) (u8:(List ay)) {r:Bool} (h:mK x x1 u6 u7 u8=some r):Fn Try.prog 138 [(.agg (k34 x)),(sD (k8 u6 u8 x1 u7))] [] (vB r) []:=by
 refine fN tT Try.func138 rfl rfl fun B=> ?_
 show bn _ _ _ _ _ _ (rf r) _
 unfold mK at h
 refine sz tT ⟨[(k11 u6 u8 x1 u7),(2,(vP 5 0))],(k35 x)⟩ {fr:=[(0,5)] } [] ?_
 refine aQ (aQ (bE h fun r_ hr_ h=> ?_))
 refine bE h fun u1 hr_1 h=> ?_
 refine bE h fun u3 hr_2 h=> ?_
 refine bE h fun u5 hr_3 h=> ?_
 refine bE h fun u9 hr_4 h=> ?_
 have q0:=aV x.a 0 (k13 x1) hr_
 refine rg tT ⟨[(2,(vP 5 0)),(46,(vB (bif (k37 x r_ u1 u3 u5)then true else(!u9))))],(k35 x)⟩ (_::(eqs (!r_) 6 ((gP (k41 x r_ u1 u3 u5) [(7,false)]→All [Fn Try.prog 94 [(sI x.b),(sI 0),(sI (k13 x1))] [] (vB u1) []])::(eqs (!r_) 2 (eqs (VD r_ u1) 6 (eqs (k39 x r_ u1) 3 ((gP (k41 x r_ u1 u3 u5) [(23,false)]→All [Fn Try.prog 94 [(sI x.kind),(sI 1),(sI 3)] [] (vB u3) []])::(eqs (k39 x r_ u1) 2 (eqs (k38 x r_ u1 u3) 3 ((gP (k41 x r_ u1 u3 u5) [(29,false)]→All [Fn Try.prog 94 [(sI x.most),(sI 1),(sI 100000)] [] (vB u5) []])::(eqs (k38 x r_ u1 u3) 2 (eqs (k37 x r_ u1 u3 u5) 3 ((gP (k41 x r_ u1 u3 u5) [(35,false)]→All [Fn Try.prog 94 [(sI x.bg),(sI 10),(sI 100000)] [] (vB u9) []])::(eqs (k37 x r_ u1 u3 u5) 2 [])))))))))))))) {yb:=[(7,(!r_)),(16,(VD r_ u1)),(23,(k39 x r_ u1)),(29,(k38 x r_ u1 u3)),(35,(k37 x r_ u1 u3 u5))],an:=[(5,cA q0 []),(13, .call [] (vB u1) []),(26, .call [] (vB u3) []),(32, .call [] (vB u5) []),(38, .call [] (vB u9) [])] } [] ⟨q0,(ae ⟨(fun hg=> ⟨(aV x.b 0 (k13 x1) (dJ hr_1 (aN hg))),trivial⟩),(ae (ae (ae ⟨(fun hg=> ⟨(aV x.kind 1 3 (dJ hr_2 (aN hg))),trivial⟩),(ae (ae ⟨(fun hg=> ⟨(aV x.most 1 100000 (dJ hr_3 (aN hg))),trivial⟩),(ae (ae ⟨(fun hg=> ⟨(aV x.bg 10 100000 (dJ hr_4 (aN hg))),trivial⟩),(ae trivial)⟩))⟩))⟩)))⟩)⟩ ?_
 refine bI h (fun hb2 h=> ?_) (fun hb2 h=> ?_)
 ·refine ct hb2 ?_
  refine sz tT ⟨[(3,(vB false))],[]⟩ {} [] ?_
  refine aR ?_
  obtain rfl:=oi h
  exact rl [(sB false)]
 ·refine cf hb2 ?_
  refine aP (aQ (sz tT ⟨[(k30 x),(k31 x),(k32 x),(50,(vI 0))],[]⟩ {} [5] ?_))
  refine bE h fun y hy h=> ?_
  refine aL [] (yE x) (xQ x) rf hy (fun s f h=> ?_) ?_
  ·clear hy
   show bn _ _ _ _ _ _ ((Fw x) f) _
   unfold iU at h
   obtain⟨u0,rfl⟩: ∃q,q=s:=⟨_,rfl⟩
   refine sz tT ⟨[(k30 x),(k31 x),(k32 x),(50,(vI u0)),(51,(vB (decide (u0<(x.trip.length:Int)))))],[]⟩ {} [] ?_
   refine aQ ?_
   refine bI h (fun hb1 h=> ?_) (fun hb1 h=> ?_)
   ·refine ct hb1 ?_
    refine aP (aQ (aB (aQ (aO h fun a1 h=> ?_))))
    refine rg tT ⟨[(k30 x),(4,(vI u0)),(5,(k42 x u0)),(k31 x),(k32 x),(50,(vI u0))],[]⟩ [_] {fr:=[(3,9)] } [9] ⟨a1,trivial⟩ ?_
    refine aQ (bE h fun u2 hr_5 h=> ?_)
    refine bE h fun u4 hr_6 h=> ?_
    refine aO h fun⟨a1,a2⟩ h=> ?_
    have q0:=aV ((at' x.trip u0.toNat).amps) 1 1000000 hr_5
    refine dg tT mX ⟨[(k30 x),(k31 x),(k32 x),(50,(vI u0)),(92,(vB (bif (VD u2 u4)then true else(k44 x u0))))],[]⟩ (_::(eqs (!u2) 3 ((gP (k46 x u0 u2 u4) [(4,false)]→All [Fn Try.prog 94 [(sI (k43 x u0)),(sI 1),(sI 100000)] [] (vB u4) []])::(eqs (!u2) 2 (eqs (VD u2 u4) 3 (eqs (decide (0<u0)) 7 ((gP (k46 x u0 u2 u4) [(13,true),(10,false)]→All [(0:Int)≤(k13 u0)∧(k13 u0)<(x.trip.length:Int)])::(eqs (decide (0<u0)) 4 (eqs (Vf x u0) 7 ((gP (k46 x u0 u2 u4) [(24,false),(13,true),(10,false)]→All [(0:Int)≤(k13 u0)∧(k13 u0)<(x.trip.length:Int)])::(eqs (Vf x u0) 3 [(decide (0<u0))=(decide (0<u0)),gP (k46 x u0 u2 u4) [(13,true),(10,false)]→All [(Vf x u0)=(Vf x u0)],(VD u2 u4)=(VD u2 u4),gP (k46 x u0 u2 u4) [(10,false)]→All [(decide (0<u0))=(decide (0<u0))],(VD u2 u4)=(VD u2 u4)]))))))))))) {yb:=[(4,(!u2)),(10,(VD u2 u4)),(13,(decide (0<u0))),(24,(Vf x u0))],an:=[(2,cA q0 []),(7, .call [] (vB u4) [])] } [] ⟨q0,(ae ⟨(fun hg=> ⟨(aV (k43 x u0) 1 100000 (dJ hr_6 (aN hg))),trivial⟩),(ae (ae (ae ⟨(fun hg=> ⟨(a1 (aN hg)),trivial⟩),(ae (ae ⟨(fun hg=> ⟨(a2 (aN hg)),trivial⟩),(ae ⟨rfl,(fun hg=> ⟨rfl,trivial⟩),rfl,(fun hg=> ⟨rfl,trivial⟩),rfl,trivial⟩)⟩))⟩)))⟩)⟩ ?_
    refine bI h (fun hb h=> ?_) (fun hb h=> ?_)
    ·refine ct hb ?_
     refine sz tT ⟨[(3,(vB false))],[]⟩ {} [] ?_
     refine aR ?_
     obtain rfl:=oi h
     exact lR bS (bT 0) bR (aU.mk (.inr rfl) (p:=[]) (l:=[(sB false)]) (by kernel_rfl) trivial (cu.refl _) trivial)
    ·refine cf hb ?_
     refine aP (rz tT ⟨[(k30 x),(k31 x),(k32 x),(50,(k28 u0))],[]⟩ {} [] ?_)
     obtain rfl:=oi h
     exact lN
   ·refine cf hb1 ?_
    refine aI (fz (k33 x) []) ?_
    refine aX ?_
    obtain rfl:=oi h
    exact lB
  ·clear hy
   cases y with
   |brk z=>
    unfold dU
    refine⟨_, .refl, ?_⟩
    refine sg tT ⟨[(3,(vB (k47 x)))],[]⟩ (eqs (k48 x) 5 (eqs (k49 x) 3 [(k48 x)=(k48 x),gP (gG [(4,(k48 x)),(9,(k49 x))]) [(4,true)]→All [(k49 x)=(k49 x)],(k48 x)=(k48 x)])) {yb:=[(4,(k48 x)),(9,(k49 x))] } [] (ae (ae ⟨rfl,(fun hg=> ⟨rfl,trivial⟩),rfl,trivial⟩)) ?_
    refine aR ?_
    obtain rfl:=oi h
    exact rl [(sB (k47 x))]
   |ret v=>
    obtain rfl:=oi h
    unfold dU
    intro e st hn ha hR
    cases e with
    |normal=>exact absurd rfl hn
    |exit id=>exact hR
    |goto l=>exact hR
    |ret=>exact hR
    |panic c=>exact hR
    |outgrown=>exact hR
def DU  :Bool→Exit→St→Prop:=
  fun r=>aU TT [.tmp 3] (vB r) []
section
variable (x1:Int) (u0:(List Source)) (u1:(List Link)) (u2:(List ay))
abbrev k50:DV:=(mg [(.fn 138 1 (k19 x1 u0 u1 u2))] 0)
abbrev k51:TV:=(vD (k50 x1 u0 u1 u2))
end
theorem Ch (x:Link) (x1:Int) (u0:(List Source)) (u1:(List Link)) (u2:(List ay)) {r:Bool} (h:lW x x1 u0 u1 u2=some r):Fn Try.prog 137 [(.agg (k34 x)),(sD (k50 x1 u0 u1 u2))] [] (vB r) []:=by
 refine fN tT Try.func137 rfl rfl fun B=> ?_
 show bn _ _ _ _ _ _ (DU r) _
 unfold lW at h
 refine sz tT ⟨[(1,(k51 x1 u0 u1 u2)),(k30 x)],[]⟩ {fr:=[(0,1)] } [1] ?_
 refine aQ (bE h fun r_ hr_ h=> ?_)
 have q0:=Fx x x1 u0 u1 u2 hr_
 refine rg tT ⟨[(3,(vB (!r_)))],[]⟩ [_] {an:=[(2,cA q0 [])] } [] ⟨q0,trivial⟩ ?_
 refine aR ?_
 obtain rfl:=oi h
 exact rl [(sB (!r_))]
def jw  :Int→Exit→St→Prop:=
  fun r=>aU TT [.tmp 4] (vI r) []
section
variable (s_:(List Link)) (f_:Int) (u0:(List Source)) (u1:(List Link)) (u2:(List ay))
abbrev k52:Nat × TV:=(0,(vD (aJ none 6 Link.cell s_)))
abbrev k54:=(nT [(k50 f_ u0 u1 u2)])
abbrev k53:Nat × TV:=(1,(vD (.fn 137 1 (k54 f_ u0 u1 u2))))
abbrev k55:Nat × TV:=(7,(vI (s_.length:Int)))
end
def oz (s_:(List Link)) (f_:Int) (u0:(List Source)) (u1:(List Link)) (u2:(List ay)):Int→St:=
  fun t8=> ⟨[(k52 s_),(k53 f_ u0 u1 u2),(k55 s_),(8,(vI t8))],[]⟩
def ol  :Unit→St:=
  fun _=> ⟨[],[]⟩
def yT (s_:(List Link)) (f_:Int) (u0:(List Source)) (u1:(List Link)) (u2:(List ay)):(aK Int (Ex Unit Int))→Exit→St→Prop:=
  LQ 0 [] (oz s_ f_ u0 u1 u2) ol jw
section
variable (s_:(List Link)) (f_:Int) (u0:(List Source)) (u1:(List Link)) (u2:(List ay))
abbrev k56:List SV:=[(sD (aJ none 6 Link.cell s_)),(sD (.fn 137 1 (k54 f_ u0 u1 u2)))]
abbrev k57:St:=⟨[(k52 s_),(k53 f_ u0 u1 u2)],[]⟩
end
theorem y8 (s_:(List Link)) (f_:Int) (u0:(List Source)) (u1:(List Link)) (u2:(List ay)) {r:Int} (h:iM s_ f_ u0 u1 u2=some r):Fn Try.prog 151 (k56 s_ f_ u0 u1 u2) [] (vI r) []:=by
 refine fN tT Try.func151 rfl rfl fun B=> ?_
 show bn _ _ _ _ _ _ (jw r) _
 unfold iM at h
 refine sz tT (k57 s_ f_ u0 u1 u2) {} [] ?_
 refine aQ (sz tT ⟨[(k52 s_),(k53 f_ u0 u1 u2),(k55 s_),(8,(vI 0))],[]⟩ {} [] ?_)
 refine bE h fun y hy h=> ?_
 refine aL [] (oz s_ f_ u0 u1 u2) ol jw hy (fun s f h=> ?_) ?_
 ·clear hy
  show bn _ _ _ _ _ _ ((yT s_ f_ u0 u1 u2) f) _
  unfold fV at h
  obtain⟨t8,rfl⟩: ∃q,q=s:=⟨_,rfl⟩
  refine sz tT ⟨[(k52 s_),(k53 f_ u0 u1 u2),(k55 s_),(8,(vI t8)),(9,(vB (decide (t8<(s_.length:Int)))))],[]⟩ {} [] ?_
  refine aQ ?_
  refine bI h (fun hb1 h=> ?_) (fun hb1 h=> ?_)
  ·refine ct hb1 ?_
   refine aP (aQ (aB (sz tT ⟨[(k52 s_),(k53 f_ u0 u1 u2),(5,(vI t8)),(k55 s_),(8,(vI t8))],[]⟩ {} [] ?_)))
   refine aQ (bE h fun r_ hr_ h=> ?_)
   refine aO h fun a1 h=> ?_
   have q1:=Ch (at' s_ t8.toNat) f_ u0 u1 u2 hr_
   refine rg tT ⟨[(k52 s_),(k53 f_ u0 u1 u2),(5,(vI t8)),(k55 s_),(8,(vI t8)),(16,(vB r_))],[]⟩ [_,_] {an:=[(5,cA q1 [])] } [] ⟨a1,q1,trivial⟩ ?_
   refine bI h (fun hb h=> ?_) (fun hb h=> ?_)
   ·refine ct hb ?_
    refine sz tT ⟨[(4,(vI t8))],[]⟩ {} [] ?_
    refine aR ?_
    obtain rfl:=oi h
    exact lR bS (bT 0) bR (aU.mk (.inr rfl) (p:=[]) (l:=[(sI t8)]) (by kernel_rfl) trivial (cu.refl _) trivial)
   ·refine cf hb ?_
    refine aP (rz tT ⟨[(k52 s_),(k53 f_ u0 u1 u2),(k55 s_),(k27 t8)],[]⟩ {} [] ?_)
    obtain rfl:=oi h
    exact lN
  ·refine cf hb1 ?_
   refine aI (fz ⟨[],[]⟩ []) ?_
   refine aX ?_
   obtain rfl:=oi h
   exact lB
 ·clear hy
  cases y with
  |brk z=>
   unfold dU
   refine⟨_, .refl, ?_⟩
   refine sz tT ⟨[(4,(vI (-1)))],[]⟩ {} [] ?_
   refine aR ?_
   obtain rfl:=oi h
   exact rl [(sI (-1))]
  |ret v=>
   obtain rfl:=oi h
   unfold dU
   intro e st hn ha hR
   cases e with
   |normal=>exact absurd rfl hn
   |exit id=>exact hR
   |goto l=>exact hR
   |ret=>exact hR
   |panic c=>exact hR
   |outgrown=>exact hR
def xC  :Bool→Exit→St→Prop:=
  fun r=>aU TT [.tmp 4] (vB r) []
theorem uU (s_:(List Link)) (f_:Int) (u0:(List Source)) (u1:(List Link)) (u2:(List ay)) {r:Bool} (h:eu s_ f_ u0 u1 u2=some r):Fn Try.prog 136 (k56 s_ f_ u0 u1 u2) [] (vB r) []:=by
 refine fN tT Try.func136 rfl rfl fun B=> ?_
 show bn _ _ _ _ _ _ (xC r) _
 unfold eu at h
 refine sz tT (k57 s_ f_ u0 u1 u2) {} [] ?_
 refine aQ (bE h fun r_ hr_ h=> ?_)
 have q0:=y8 s_ f_ u0 u1 u2 hr_
 refine rg tT (k29 r_) [_] {an:=[(2,cA q0 [])] } [] ⟨q0,trivial⟩ ?_
 refine aR ?_
 obtain rfl:=oi h
 exact rl [(sB (decide (0≤r_)))]
def G8  :Bool→Exit→St→Prop:=
  fun r=>aU TT [.tmp 6] (vB r) []
theorem FQ (l:(List Link)) (u0:Int) (u1:Int) (u2:(List Source)) (u3:(List Link)) (u4:(List ay)) {r:Bool} (h:mZ l u0 u1 u2 u3 u4=some r):Fn Try.prog 97 [(sD (aJ none 6 Link.cell l)),(sI u0),(sD (.fn 138 1 (k19 u1 u2 u3 u4)))] [] (vB r) []:=by
 refine fN tT Try.func97 rfl rfl fun B=> ?_
 show bn _ _ _ _ _ _ (G8 r) _
 unfold mZ at h
 refine sz tT ⟨[(k52 l),(1,(vI u0)),(5,(k51 u1 u2 u3 u4))],[]⟩ {fr:=[(0,1)] } [1] ?_
 refine aQ (bE h fun r_ hr_ h=> ?_)
 refine rg tT ⟨[(6,(vB (bif (decide ((l.length:Int)≤u0))then(!r_)else false)))],[]⟩ (eqs (decide ((l.length:Int)≤u0)) 3 ((gP (gG [(4,(decide ((l.length:Int)≤u0)))]) [(4,true)]→All [Fn Try.prog 136 (k56 l u1 u2 u3 u4) [] (vB r_) []])::(eqs (decide ((l.length:Int)≤u0)) 2 []))) {yb:=[(4,(decide ((l.length:Int)≤u0)))],an:=[(7, .call [] (vB r_) [])] } [] (ae ⟨(fun hg=> ⟨(uU l u1 u2 u3 u4 (dJ hr_ (aN hg))),trivial⟩),(ae trivial)⟩) ?_
 refine aR ?_
 obtain rfl:=oi h
 exact rl [(sB (bif (decide ((l.length:Int)≤u0))then(!r_)else false))]
def Js  :Int→Exit→St→Prop:=
  fun r=>aU TT [.tmp 2] (vI r) []
section
variable (x:ay)
abbrev k58:List CV:=[(cI x.feeds.e0),(cI x.feeds.e1),(cI x.power),(cI x.paths)]
abbrev k59:TV:=(vD (mg [(.int .i64 x.feeds.e0),(.int .i64 x.feeds.e1),(.int .i64 x.power),(.int .i64 x.paths)] 0))
end
theorem Iq (x:ay) {r:Int} (h:ou x=some r):Fn Try.prog 142 [(.agg (k58 x))] [] (vI r) []:=by
 refine fN tT Try.func142 rfl rfl fun B=> ?_
 show bn _ _ _ _ _ _ (Js r) _
 unfold ou at h
 refine sz tT ⟨[(1,(k59 x))],[]⟩ {fr:=[(0,1)] } [1] ?_
 refine aQ (sg tT ⟨[(6,(vB (decide (x.feeds.e1=(-1)))))],[]⟩ [(0:Int)≤1∧(1:Int)<(2:Nat)] {} [] ⟨((by decide)),trivial⟩ ?_)
 refine bI h (fun hb h=> ?_) (fun hb h=> ?_)
 ·refine ct hb ?_
  refine sz tT ⟨[(2,(vI 1))],[]⟩ {} [] ?_
  refine aR ?_
  obtain rfl:=oi h
  exact rl [(sI 1)]
 ·refine cf hb ?_
  refine aP (sz tT ⟨[(2,(vI 2))],[]⟩ {} [] ?_)
  refine aR ?_
  obtain rfl:=oi h
  exact rl [(sI 2)]
def H6  :Bool→Exit→St→Prop:=
  fun r=>aU TT [.tmp 3] (vB r) []
section
variable (x:ay) (r_:Bool) (u0:Bool) (u1:Bool) (u6:Bool)
abbrev k60:Nat × TV:=(2,(k59 x))
abbrev k63:=(bif (k16 r_ u0)then(!decide (x.feeds.e0=x.feeds.e1))else false)
abbrev k62:=(bif (k63 x r_ u0)then u1 else false)
abbrev k61:=(bif (k62 x r_ u0 u1)then u6 else false)
abbrev k64:=(gG [(5,r_),(12,(k16 r_ u0)),(17,(k63 x r_ u0)),(22,(k62 x r_ u0 u1))])
end
theorem FN (x:ay) (x1:Int) (u2:(List Source)) (u3:(List Link)) (u4:(List ay)) {r:Bool} (h:mq x x1 u2 u3 u4=some r):Fn Try.prog 141 [(.agg (k58 x)),(sD (k8 u2 u4 x1 u3))] [] (vB r) []:=by
 refine fN tT Try.func141 rfl rfl fun B=> ?_
 show bn _ _ _ _ _ _ (H6 r) _
 unfold mq at h
 refine sz tT ⟨[(k11 u2 u4 x1 u3),(k60 x)],[]⟩ {fr:=[(0,1)] } [1] ?_
 refine sd tT mX ⟨[(k11 u2 u4 x1 u3),(k60 x),(4,(vI x.feeds.e0)),(5,(vI x.feeds.e1))],[]⟩ [(0:Int)≤0∧(0:Int)<(2:Nat),(0:Int)≤1∧(1:Int)<(2:Nat)] {} [] ⟨((by decide)),((by decide)),trivial⟩ ?_
 refine aQ (bE h fun r_ hr_ h=> ?_)
 refine bE h fun u0 hr_1 h=> ?_
 refine bE h fun u1 hr_2 h=> ?_
 refine bE h fun u5 hr_3 h=> ?_
 refine bE h fun u6 hr_4 h=> ?_
 have q0:=aV x.feeds.e0 0 (k13 x1) hr_
 refine dg tT mX ⟨[(3,(vB (k61 x r_ u0 u1 u6)))],[]⟩ (_::(eqs r_ 5 ((gP (k64 x r_ u0 u1) [(5,true)]→All [Fn Try.prog 94 [(sI x.feeds.e1),(sI (-1)),(sI (k13 x1))] [] (vB u0) []])::(r_=r_)::(eqs (k16 r_ u0) 4 (eqs (k63 x r_ u0) 3 ((gP (k64 x r_ u0 u1) [(17,true)]→All [Fn Try.prog 94 [(sI x.power),(sI 1),(sI 100000)] [] (vB u1) []])::((k63 x r_ u0)=(k63 x r_ u0))::(eqs (k62 x r_ u0 u1) 4 [gP (k64 x r_ u0 u1) [(22,true)]→All [Fn Try.prog 142 [(.agg (k58 x))] [] (vI u5) []],(k62 x r_ u0 u1)=(k62 x r_ u0 u1),gP (k64 x r_ u0 u1) [(22,true)]→All [Fn Try.prog 94 [(sI x.paths),(sI 0),(sI u5)] [] (vB u6) []],(k62 x r_ u0 u1)=(k62 x r_ u0 u1)]))))))) {yb:=[(5,r_),(12,(k16 r_ u0)),(17,(k63 x r_ u0)),(22,(k62 x r_ u0 u1))],an:=[(4,cA q0 []),(10, .call [] (vB u0) []),(20, .call [] (vB u1) []),(26, .call [] (vI u5) []),(27, .call [] (vB u6) [])] } [] ⟨q0,(ae ⟨(fun hg=> ⟨(aV x.feeds.e1 (-1) (k13 x1) (dJ hr_1 (aN hg))),trivial⟩),rfl,(ae (ae ⟨(fun hg=> ⟨(aV x.power 1 100000 (dJ hr_2 (aN hg))),trivial⟩),rfl,(ae ⟨(fun hg=> ⟨(Iq x (dJ hr_3 (aN hg))),trivial⟩),rfl,(fun hg=> ⟨(aV x.paths 0 u5 (dJ hr_4 (aN hg))),trivial⟩),rfl,trivial⟩)⟩))⟩)⟩ ?_
 refine aR ?_
 obtain rfl:=oi h
 exact rl [(sB (k61 x r_ u0 u1 u6))]
def DW  :Bool→Exit→St→Prop:=
  fun r=>aU TT [.tmp 3] (vB r) []
section
variable (x1:Int) (u0:(List Source)) (u1:(List Link)) (u2:(List ay))
abbrev k65:DV:=(mg [(.fn 141 1 (k19 x1 u0 u1 u2))] 0)
abbrev k66:TV:=(vD (k65 x1 u0 u1 u2))
end
theorem Ci (x:ay) (x1:Int) (u0:(List Source)) (u1:(List Link)) (u2:(List ay)) {r:Bool} (h:lu x x1 u0 u1 u2=some r):Fn Try.prog 140 [(.agg (k58 x)),(sD (k65 x1 u0 u1 u2))] [] (vB r) []:=by
 refine fN tT Try.func140 rfl rfl fun B=> ?_
 show bn _ _ _ _ _ _ (DW r) _
 unfold lu at h
 refine sz tT ⟨[(1,(k66 x1 u0 u1 u2)),(k60 x)],[]⟩ {fr:=[(0,1)] } [1] ?_
 refine aQ (bE h fun r_ hr_ h=> ?_)
 have q0:=FN x x1 u0 u1 u2 hr_
 refine rg tT ⟨[(3,(vB (!r_)))],[]⟩ [_] {an:=[(2,cA q0 [])] } [] ⟨q0,trivial⟩ ?_
 refine aR ?_
 obtain rfl:=oi h
 exact rl [(sB (!r_))]
def jJ  :Int→Exit→St→Prop:=
  fun r=>aU TT [.tmp 4] (vI r) []
section
variable (s_:(List ay)) (f_:Int) (u0:(List Source)) (u1:(List Link)) (u2:(List ay))
abbrev k67:Nat × TV:=(0,(vD (k10 s_)))
abbrev k69:=(nT [(k65 f_ u0 u1 u2)])
abbrev k68:Nat × TV:=(1,(vD (.fn 140 1 (k69 f_ u0 u1 u2))))
abbrev k70:Nat × TV:=(7,(vI (s_.length:Int)))
end
def nU (s_:(List ay)) (f_:Int) (u0:(List Source)) (u1:(List Link)) (u2:(List ay)):Int→St:=
  fun t8=> ⟨[(k67 s_),(k68 f_ u0 u1 u2),(k70 s_),(8,(vI t8))],[]⟩
def nX  :Unit→St:=
  fun _=> ⟨[],[]⟩
def yY (s_:(List ay)) (f_:Int) (u0:(List Source)) (u1:(List Link)) (u2:(List ay)):(aK Int (Ex Unit Int))→Exit→St→Prop:=
  LQ 0 [] (nU s_ f_ u0 u1 u2) nX jJ
section
variable (s_:(List ay)) (f_:Int) (u0:(List Source)) (u1:(List Link)) (u2:(List ay)) (t8:Int)
abbrev k71:List SV:=[(sD (k10 s_)),(sD (.fn 140 1 (k69 f_ u0 u1 u2)))]
abbrev k72:St:=⟨[(k67 s_),(k68 f_ u0 u1 u2)],[]⟩
abbrev L6:=((at' s_ t8.toNat).feeds)
end
theorem yZ (s_:(List ay)) (f_:Int) (u0:(List Source)) (u1:(List Link)) (u2:(List ay)) {r:Int} (h:iJ s_ f_ u0 u1 u2=some r):Fn Try.prog 152 (k71 s_ f_ u0 u1 u2) [] (vI r) []:=by
 refine fN tT Try.func152 rfl rfl fun B=> ?_
 show bn _ _ _ _ _ _ (jJ r) _
 unfold iJ at h
 refine sz tT (k72 s_ f_ u0 u1 u2) {} [] ?_
 refine aQ (sz tT ⟨[(k67 s_),(k68 f_ u0 u1 u2),(k70 s_),(8,(vI 0))],[]⟩ {} [] ?_)
 refine bE h fun y hy h=> ?_
 refine aL [] (nU s_ f_ u0 u1 u2) nX jJ hy (fun s f h=> ?_) ?_
 ·clear hy
  show bn _ _ _ _ _ _ ((yY s_ f_ u0 u1 u2) f) _
  unfold fT at h
  obtain⟨t8,rfl⟩: ∃q,q=s:=⟨_,rfl⟩
  refine sz tT ⟨[(k67 s_),(k68 f_ u0 u1 u2),(k70 s_),(8,(vI t8)),(9,(vB (decide (t8<(s_.length:Int)))))],[]⟩ {} [] ?_
  refine aQ ?_
  refine bI h (fun hb1 h=> ?_) (fun hb1 h=> ?_)
  ·refine ct hb1 ?_
   refine aP (aQ (aB (sz tT ⟨[(k67 s_),(k68 f_ u0 u1 u2),(5,(vI t8)),(k70 s_),(8,(vI t8))],[]⟩ {} [] ?_)))
   refine aQ (bE h fun r_ hr_ h=> ?_)
   refine aO h fun a1 h=> ?_
   have q1:=Ci (⟨(L6 s_ t8),(at' s_ t8.toNat).power,(at' s_ t8.toNat).paths⟩:ay) f_ u0 u1 u2 hr_
   refine rg tT ⟨[(k67 s_),(k68 f_ u0 u1 u2),(5,(vI t8)),(k70 s_),(8,(vI t8)),(16,(vB r_))],[]⟩ [_,_] {an:=[(5,cA q1 [])] } [] ⟨a1,q1,trivial⟩ ?_
   refine bI h (fun hb h=> ?_) (fun hb h=> ?_)
   ·refine ct hb ?_
    refine sz tT ⟨[(4,(vI t8))],[]⟩ {} [] ?_
    refine aR ?_
    obtain rfl:=oi h
    exact lR bS (bT 0) bR (aU.mk (.inr rfl) (p:=[]) (l:=[(sI t8)]) (by kernel_rfl) trivial (cu.refl _) trivial)
   ·refine cf hb ?_
    refine aP (rz tT ⟨[(k67 s_),(k68 f_ u0 u1 u2),(k70 s_),(k27 t8)],[]⟩ {} [] ?_)
    obtain rfl:=oi h
    exact lN
  ·refine cf hb1 ?_
   refine aI (fz ⟨[],[]⟩ []) ?_
   refine aX ?_
   obtain rfl:=oi h
   exact lB
 ·clear hy
  cases y with
  |brk z=>
   unfold dU
   refine⟨_, .refl, ?_⟩
   refine sz tT ⟨[(4,(vI (-1)))],[]⟩ {} [] ?_
   refine aR ?_
   obtain rfl:=oi h
   exact rl [(sI (-1))]
  |ret v=>
   obtain rfl:=oi h
   unfold dU
   intro e st hn ha hR
   cases e with
   |normal=>exact absurd rfl hn
   |exit id=>exact hR
   |goto l=>exact hR
   |ret=>exact hR
   |panic c=>exact hR
   |outgrown=>exact hR
def wK  :Bool→Exit→St→Prop:=
  fun r=>aU TT [.tmp 4] (vB r) []
theorem uP (s_:(List ay)) (f_:Int) (u0:(List Source)) (u1:(List Link)) (u2:(List ay)) {r:Bool} (h:eB s_ f_ u0 u1 u2=some r):Fn Try.prog 139 (k71 s_ f_ u0 u1 u2) [] (vB r) []:=by
 refine fN tT Try.func139 rfl rfl fun B=> ?_
 show bn _ _ _ _ _ _ (wK r) _
 unfold eB at h
 refine sz tT (k72 s_ f_ u0 u1 u2) {} [] ?_
 refine aQ (bE h fun r_ hr_ h=> ?_)
 have q0:=yZ s_ f_ u0 u1 u2 hr_
 refine rg tT (k29 r_) [_] {an:=[(2,cA q0 [])] } [] ⟨q0,trivial⟩ ?_
 refine aR ?_
 obtain rfl:=oi h
 exact rl [(sB (decide (0≤r_)))]
def Iy  :Bool→Exit→St→Prop:=
  fun r=>aU TT [.tmp 6] (vB r) []
theorem FR (l:(List ay)) (u0:Int) (u1:Int) (u2:(List Source)) (u3:(List Link)) (u4:(List ay)) {r:Bool} (h:mM l u0 u1 u2 u3 u4=some r):Fn Try.prog 99 [(sD (k10 l)),(sI u0),(sD (.fn 141 1 (k19 u1 u2 u3 u4)))] [] (vB r) []:=by
 refine fN tT Try.func99 rfl rfl fun B=> ?_
 show bn _ _ _ _ _ _ (Iy r) _
 unfold mM at h
 refine sz tT ⟨[(k67 l),(1,(vI u0)),(5,(k66 u1 u2 u3 u4))],[]⟩ {fr:=[(0,1)] } [1] ?_
 refine aQ (bE h fun r_ hr_ h=> ?_)
 refine rg tT ⟨[(6,(vB (bif (decide ((l.length:Int)≤u0))then(!r_)else false)))],[]⟩ (eqs (decide ((l.length:Int)≤u0)) 3 ((gP (gG [(4,(decide ((l.length:Int)≤u0)))]) [(4,true)]→All [Fn Try.prog 139 (k71 l u1 u2 u3 u4) [] (vB r_) []])::(eqs (decide ((l.length:Int)≤u0)) 2 []))) {yb:=[(4,(decide ((l.length:Int)≤u0)))],an:=[(7, .call [] (vB r_) [])] } [] (ae ⟨(fun hg=> ⟨(uP l u1 u2 u3 u4 (dJ hr_ (aN hg))),trivial⟩),(ae trivial)⟩) ?_
 refine aR ?_
 obtain rfl:=oi h
 exact rl [(sB (bif (decide ((l.length:Int)≤u0))then(!r_)else false))]
def JG  :Int→Exit→St→Prop:=
  fun r=>aU TT [.tmp 2] (vI r) []
theorem zH (p:ah) {r:Int} (h:kN p=some r):Fn Try.prog 58 (k0 p) [] (vI r) []:=by
 refine fN tT Try.func58 rfl rfl fun B=> ?_
 show bn _ _ _ _ _ _ (JG r) _
 unfold kN at h
 refine sz tT (k3 p) {fr:=[(0,1)] } [1] ?_
 refine aQ (aB (aQ (bE h fun r_ hr_ h=> ?_)))
 have q0:=aV p.buses 1 24 hr_
 refine rg tT ⟨[(k4 p),(3,(vB (!r_)))],[]⟩ [_] {an:=[(2,cA q0 [])] } [] ⟨q0,trivial⟩ ?_
 refine bI h (fun hb3 h=> ?_) (fun hb3 h=> ?_)
 ·refine ct hb3 ?_
  refine sz tT ⟨[(2,(vI 10))],[]⟩ {} [] ?_
  refine aR ?_
  obtain rfl:=oi h
  exact rl [(sI 10)]
 ·refine cf hb3 ?_
  refine aQ (bE h fun u0 hr_1 h=> ?_)
  refine bE h fun u3 hr_2 h=> ?_
  have q0:=FZ p hr_1
  have q1:=JH p.sources 8 u0.1 u0.2.1 u0.2.2.1 u0.2.2.2 hr_2
  refine dg tT mX ⟨[(k4 p),(8,(vB (!u3)))],[]⟩ [_,_] {an:=[(3,cA q0 []),(4,cA q1 [])] } [] ⟨q0,q1,trivial⟩ ?_
  refine bI h (fun hb2 h=> ?_) (fun hb2 h=> ?_)
  ·refine ct hb2 ?_
   refine sz tT ⟨[(2,(vI 11))],[]⟩ {} [] ?_
   refine aR ?_
   obtain rfl:=oi h
   exact rl [(sI 11)]
  ·refine cf hb2 ?_
   refine aQ (bE h fun u1 hr_3 h=> ?_)
   refine bE h fun u4 hr_4 h=> ?_
   have q0:=Jz p hr_3
   have q1:=FQ p.links 40 u1.1 u1.2.1 u1.2.2.1 u1.2.2.2 hr_4
   refine dg tT mX ⟨[(k4 p),(15,(vB (!u4)))],[]⟩ [_,_] {an:=[(3,cA q0 []),(4,cA q1 [])] } [] ⟨q0,q1,trivial⟩ ?_
   refine bI h (fun hb1 h=> ?_) (fun hb1 h=> ?_)
   ·refine ct hb1 ?_
    refine sz tT ⟨[(2,(vI 12))],[]⟩ {} [] ?_
    refine aR ?_
    obtain rfl:=oi h
    exact rl [(sI 12)]
   ·refine cf hb1 ?_
    refine aQ (bE h fun u2 hr_5 h=> ?_)
    refine bE h fun u5 hr_6 h=> ?_
    have q0:=Jb p hr_5
    have q1:=FR p.racks 24 u2.1 u2.2.1 u2.2.2.1 u2.2.2.2 hr_6
    refine dg tT mX ⟨[(22,(vB (!u5)))],[]⟩ [_,_] {an:=[(3,cA q0 []),(4,cA q1 [])] } [] ⟨q0,q1,trivial⟩ ?_
    refine bI h (fun hb h=> ?_) (fun hb h=> ?_)
    ·refine ct hb ?_
     refine sz tT ⟨[(2,(vI 13))],[]⟩ {} [] ?_
     refine aR ?_
     obtain rfl:=oi h
     exact rl [(sI 13)]
    ·refine cf hb ?_
     refine aP (sz tT ⟨[(2,(vI 0))],[]⟩ {} [] ?_)
     refine aR ?_
     obtain rfl:=oi h
     exact rl [(sI 0)]
def gu  :Int→Exit→St→Prop:=
  fun r=>aU TT [.tmp 4] (vI r) []
section
variable (s_:State) (p:ah)
abbrev k76:DV:=(mg [(aJ none 1 ai s_.closed),(aJ none 1 ai s_.locked),(aJ none 1 ai s_.badLink),(aJ none 1 ai s_.on_),(aJ none 1 ai s_.badSource),(aJ none 1 ai s_.earthed),(aJ none 1 ai s_.badBus)] 0)
abbrev k75:TV:=(vD (k76 s_))
abbrev jY:Nat × TV:=(3,(k75 s_))
abbrev k78:=(⟨s_.closed,(p.links.length:Int)⟩:dw)
abbrev k79:=(⟨s_.locked,(p.links.length:Int)⟩:dw)
abbrev k80:=(⟨s_.badLink,(p.links.length:Int)⟩:dw)
abbrev k81:=(⟨s_.on_,(p.sources.length:Int)⟩:dw)
abbrev k82:=(⟨s_.badSource,(p.sources.length:Int)⟩:dw)
abbrev k83:=(⟨s_.earthed,p.buses⟩:dw)
abbrev k84:=(⟨s_.badBus,p.buses⟩:dw)
abbrev k77:Nat × TV:=(53,(vO 13 true ([(k78 s_ p),(k79 s_ p),(k80 s_ p),(k81 s_ p),(k82 s_ p),(k83 s_ p),(k84 s_ p)].length)))
abbrev k85:Nat × TV:=(54,(vI ([(k78 s_ p),(k79 s_ p),(k80 s_ p),(k81 s_ p),(k82 s_ p),(k83 s_ p),(k84 s_ p)].length:Int)))
abbrev Yh:Ob:=(.cells 26 (k1 p))
abbrev k87:Nat × Option Ob:=(11,some (Yh p))
abbrev k86:List (Nat × Option Ob):=[(k87 p),(13,some (bO 128 2 dw.cell [(k78 s_ p),(k79 s_ p),(k80 s_ p),(k81 s_ p),(k82 s_ p),(k83 s_ p),(k84 s_ p)]))]
end
def qM (p:ah) (s_:State):Int→St:=
  fun u0=> ⟨[(2,(vP 11 0)),(jY s_),(k77 s_ p),(k85 s_ p),(55,(vI u0))],(k86 s_ p)⟩
section
variable (s_:State) (p:ah)
abbrev k89:St:=⟨[(2,(vP 11 0)),(jY s_)],[(k87 p)]⟩
end
def qI (p:ah) (s_:State):Unit→St:=
  fun _=>(k89 s_ p)
def BD (p:ah) (s_:State):(aK Int (Ex Unit Int))→Exit→St→Prop:=
  LQ 0 [] (qM p s_) (qI p s_) gu
section
variable (p:ah)
abbrev k90:Nat × TV:=(67,(vD (aJ none 6 Link.cell p.links)))
abbrev k91:Nat × TV:=(68,(vI (p.links.length:Int)))
end
def qP (p:ah) (s_:State):Int→St:=
  fun u0=> ⟨[(jY s_),(k90 p),(k91 p),(69,(vI u0))],[]⟩
def qN  :Unit→St:=
  fun _=> ⟨[],[]⟩
def BN (p:ah) (s_:State):(aK Int (Ex Unit Int))→Exit→St→Prop:=
  LQ 2 [] (qP p s_) qN gu
section
variable (s_:State) (p:ah) (u1:Int) (u0:Int)
abbrev QW:List CV:=[(.d (aJ none 1 ai s_.closed)),(.d (aJ none 1 ai s_.locked)),(.d (aJ none 1 ai s_.badLink)),(.d (aJ none 1 ai s_.on_)),(.d (aJ none 1 ai s_.badSource)),(.d (aJ none 1 ai s_.earthed)),(.d (aJ none 1 ai s_.badBus))]
abbrev k92:List SV:=[(.agg (k1 p)),(.agg (QW s_))]
abbrev k94:List (Nat × Option Ob):=[(k87 p),(12,some (.cells 29 (QW s_)))]
abbrev k95:=(au dw.cell [(k78 s_ p),(k79 s_ p),(k80 s_ p),(k81 s_ p),(k82 s_ p),(k83 s_ p),(k84 s_ p)])
abbrev k97:=(at' [(k78 s_ p),(k79 s_ p),(k80 s_ p),(k81 s_ p),(k82 s_ p),(k83 s_ p),(k84 s_ p)] u1.toNat)
abbrev k96:=((k97 s_ p u1).l)
abbrev k98:=((k97 s_ p u1).n)
abbrev k99:TV:=(vB (decide (u0<(p.links.length:Int))))
abbrev H8:=((at' p.links u0.toNat).a)
abbrev Gh:=((at' p.links u0.toNat).b)
abbrev Sn:=((at' p.links u0.toNat).most)
abbrev YO:TV:=(vD (mg [(.int .i64 (H8 p u0)),(.int .i64 (Gh p u0)),(.int .i64 ((at' p.links u0.toNat).kind)),(.int .i64 (Sn p u0)),(.int .i64 ((at' p.links u0.toNat).bg)),(aJ none 2 iD.cell ((at' p.links u0.toNat).trip))] 0))
abbrev Cq:Nat × TV:=(11,(YO p u0))
abbrev BX:=(decide (((at' p.links u0.toNat).kind)=1))
abbrev EF:=(!(at' s_.closed u0.toNat))
abbrev agn:TV:=(vB (bif (BX p u0)then(bif (EF s_ u0)then true else(at' s_.locked u0.toNat))else false))
abbrev acr:=(gG [(3,(BX p u0)),(10,(EF s_ u0))])
end
theorem fK (p:ah) (s_:State) {r:Int} (h:dG p s_=some r):Fn Try.prog 12 (k92 s_ p) [] (vI r) []:=by
 refine fN tT Try.func12 rfl rfl fun B=> ?_
 show bn _ _ _ _ _ _ (gu r) _
 unfold dG at h
 refine sz tT ⟨[(2,(vP 11 0)),(3,(vP 12 0))],(k94 s_ p)⟩ {fr:=[(0,11),(1,12)] } [] ?_
 refine aQ (aQ (bE h fun r_ hr_ h=> ?_))
 have q0:=zH p hr_
 refine rg tT ⟨[(2,(vP 11 0)),(3,(vP 12 0)),(5,(vI r_))],(k94 s_ p)⟩ [_] {an:=[(1,cA q0 [])] } [] ⟨q0,trivial⟩ ?_
 refine sz tT ⟨[(2,(vP 11 0)),(3,(vP 12 0)),(5,(vI r_)),(15,(vB (!decide (r_=0))))],(k94 s_ p)⟩ {} [] ?_
 refine bI h (fun hb4 h=> ?_) (fun hb4 h=> ?_)
 ·refine ct hb4 ?_
  refine sz tT ⟨[(4,(vI r_))],[]⟩ {} [] ?_
  refine aR ?_
  obtain rfl:=oi h
  exact rl [(sI r_)]
 ·refine cf hb4 ?_
  refine aP (sd tT mX ⟨[(2,(vP 11 0)),(3,(vP 12 0)),(6,(vI (p.links.length:Int))),(7,(vI (p.sources.length:Int)))],(k94 s_ p)⟩ [] {} [] trivial ?_)
  refine aQ (sg tT ⟨[(2,(vP 11 0)),(jY s_),(k77 s_ p),(k85 s_ p),(55,(vI 0))],(k86 s_ p)⟩ [[(k78 s_ p),(k79 s_ p),(k80 s_ p),(k81 s_ p),(k82 s_ p),(k83 s_ p),(k84 s_ p)].length=7,aC 7 2 (ig 2 [(aJ none 1 ai s_.closed),(.int .i64 (p.links.length:Int)),(aJ none 1 ai s_.locked),(.int .i64 (p.links.length:Int)),(aJ none 1 ai s_.badLink),(.int .i64 (p.links.length:Int)),(aJ none 1 ai s_.on_),(.int .i64 (p.sources.length:Int)),(aJ none 1 ai s_.badSource),(.int .i64 (p.sources.length:Int)),(aJ none 1 ai s_.earthed),(.int .i64 p.buses),(aJ none 1 ai s_.badBus),(.int .i64 p.buses)]) (k95 s_ p)] {an:=[(30, .arr [(k78 s_ p),(k79 s_ p),(k80 s_ p),(k81 s_ p),(k82 s_ p),(k83 s_ p),(k84 s_ p)].length (k95 s_ p))],fr:=[(30,13)] } [12] ⟨(rfl),((by intro i hi j hj;match i,j,hi,hj with|0,0,_,_=>rfl|0,1,_,_=>rfl|1,0,_,_=>rfl|1,1,_,_=>rfl|2,0,_,_=>rfl|2,1,_,_=>rfl|3,0,_,_=>rfl|3,1,_,_=>rfl|4,0,_,_=>rfl|4,1,_,_=>rfl|5,0,_,_=>rfl|5,1,_,_=>rfl|6,0,_,_=>rfl|6,1,_,_=>rfl)),trivial⟩ ?_)
  refine bE h fun y hy h=> ?_
  refine aL [] (qM p s_) (qI p s_) gu hy (fun s f h=> ?_) ?_
  ·clear hy
   show bn _ _ _ _ _ _ ((BD p s_) f) _
   unfold fJ at h
   obtain⟨u1,rfl⟩: ∃q,q=s:=⟨_,rfl⟩
   refine sz tT ⟨[(2,(vP 11 0)),(jY s_),(k77 s_ p),(k85 s_ p),(55,(vI u1)),(56,(vB (decide (u1<([(k78 s_ p),(k79 s_ p),(k80 s_ p),(k81 s_ p),(k82 s_ p),(k83 s_ p),(k84 s_ p)].length:Int)))))],(k86 s_ p)⟩ {} [] ?_
   refine aQ ?_
   refine bI h (fun hb1 h=> ?_) (fun hb1 h=> ?_)
   ·refine ct hb1 ?_
    refine aP (aQ (aB (aQ (aO h fun a1 h=> ?_))))
    refine rg tT ⟨[(2,(vP 11 0)),(jY s_),(9,(vD (mg [(aJ none 1 ai (k96 s_ p u1)),(.int .i64 (k98 s_ p u1))] 0))),(k77 s_ p),(k85 s_ p),(55,(vI u1))],(k86 s_ p)⟩ [_,_] {fr:=[(2,17)] } [17] ⟨a1,(tL a1),trivial⟩ ?_
    refine sz tT ⟨[(2,(vP 11 0)),(jY s_),(k77 s_ p),(k85 s_ p),(55,(vI u1)),(64,(vB (!decide (((k96 s_ p u1).length:Int)=(k98 s_ p u1)))))],(k86 s_ p)⟩ {} [] ?_
    refine bI h (fun hb h=> ?_) (fun hb h=> ?_)
    ·refine ct hb ?_
     refine sz tT ⟨[(4,(vI 9))],[]⟩ {} [] ?_
     refine aR ?_
     obtain rfl:=oi h
     exact lR bS (bT 0) bR (aU.mk (.inr rfl) (p:=[]) (l:=[(sI 9)]) (by kernel_rfl) trivial (cu.refl _) trivial)
    ·refine cf hb ?_
     refine aP (rz tT ⟨[(2,(vP 11 0)),(jY s_),(k77 s_ p),(k85 s_ p),(55,(k28 u1))],(k86 s_ p)⟩ {} [] ?_)
     obtain rfl:=oi h
     exact lN
   ·refine cf hb1 ?_
    refine aI (fz (k89 s_ p) []) ?_
    refine aX ?_
    obtain rfl:=oi h
    exact lB
  ·clear hy
   cases y with
   |brk z=>
    unfold dU
    refine⟨_, .refl, ?_⟩
    refine aQ (sz tT ⟨[(jY s_),(k90 p),(k91 p),(69,(vI 0))],[]⟩ {} [] ?_)
    refine bE h fun y1 hy h=> ?_
    refine aL [] (qP p s_) qN gu hy (fun s f h=> ?_) ?_
    ·clear hy
     show bn _ _ _ _ _ _ ((BN p s_) f) _
     unfold fI at h
     obtain⟨u0,rfl⟩: ∃q,q=s:=⟨_,rfl⟩
     refine sz tT ⟨[(jY s_),(k90 p),(k91 p),(69,(vI u0)),(70,(k99 p u0))],[]⟩ {} [] ?_
     refine aQ ?_
     refine bI h (fun hb3 h=> ?_) (fun hb3 h=> ?_)
     ·refine ct hb3 ?_
      refine aP (aQ (aB (aQ (aO h fun a1 h=> ?_))))
      refine rg tT ⟨[(jY s_),(10,(vI u0)),(Cq p u0),(k90 p),(k91 p),(69,(vI u0))],[]⟩ [_] {fr:=[(3,21)] } [21] ⟨a1,trivial⟩ ?_
      refine aQ (aO h fun⟨a1,a2⟩ h=> ?_)
      refine rg tT ⟨[(jY s_),(k90 p),(k91 p),(69,(vI u0)),(91,(agn s_ p u0))],[]⟩ (eqs (BX p u0) 4 ((gP (acr s_ p u0) [(3,true)]→All [(0:Int)≤u0∧u0<(s_.closed.length:Int)])::(eqs (BX p u0) 3 (eqs (EF s_ u0) 4 [gP (acr s_ p u0) [(10,false),(3,true)]→All [(0:Int)≤u0∧u0<(s_.locked.length:Int)],(EF s_ u0)=(EF s_ u0),(BX p u0)=(BX p u0),gP (acr s_ p u0) [(3,true)]→All [(EF s_ u0)=(EF s_ u0)],(BX p u0)=(BX p u0)])))) {yb:=[(3,(BX p u0)),(10,(EF s_ u0))] } [] (ae ⟨(fun hg=> ⟨(a1 (aN hg)),trivial⟩),(ae (ae ⟨(fun hg=> ⟨(a2 (aN hg)),trivial⟩),rfl,rfl,(fun hg=> ⟨rfl,trivial⟩),rfl,trivial⟩))⟩) ?_
      refine bI h (fun hb2 h=> ?_) (fun hb2 h=> ?_)
      ·refine ct hb2 ?_
       refine sz tT ⟨[(4,(vI 9))],[]⟩ {} [] ?_
       refine aR ?_
       obtain rfl:=oi h
       exact lR bS (bT 2) bR (aU.mk (.inr rfl) (p:=[]) (l:=[(sI 9)]) (by kernel_rfl) trivial (cu.refl _) trivial)
      ·refine cf hb2 ?_
       refine aP (rz tT ⟨[(jY s_),(k90 p),(k91 p),(69,(k28 u0))],[]⟩ {} [] ?_)
       obtain rfl:=oi h
       exact lN
     ·refine cf hb3 ?_
      refine aI (fz ⟨[],[]⟩ []) ?_
      refine aX ?_
      obtain rfl:=oi h
      exact lB
    ·clear hy
     cases y1 with
     |brk z=>
      unfold dU
      refine⟨_, .refl, ?_⟩
      refine sz tT ⟨[(4,(vI 0))],[]⟩ {} [] ?_
      refine aR ?_
      obtain rfl:=oi h
      exact rl [(sI 0)]
     |ret v=>
      obtain rfl:=oi h
      unfold dU
      intro e st hn ha hR
      cases e with
      |normal=>exact absurd rfl hn
      |exit id=>exact hR
      |goto l=>exact hR
      |ret=>exact hR
      |panic c=>exact hR
      |outgrown=>exact hR
   |ret v=>
    obtain rfl:=oi h
    unfold dU
    intro e st hn ha hR
    cases e with
    |normal=>exact absurd rfl hn
    |exit id=>exact hR
    |goto l=>exact hR
    |ret=>exact hR
    |panic c=>exact hR
    |outgrown=>exact hR
def KZ  :Bool→Exit→St→Prop:=
  fun r=>aU TT [.tmp 6] (vB r) []
section
variable (p:ah) (s_:State) (k:Int)
abbrev GV:List SV:=[(.agg (k1 p)),(.agg (QW s_)),(sI k)]
abbrev bC:Nat × TV:=(3,(k5 p))
abbrev aY:Nat × TV:=(4,(k75 s_))
abbrev YJ:St:=⟨[(2,(vI k)),(bC p),(aY s_)],[]⟩
abbrev Rm:=(bif (at' s_.on_ k.toNat)then(!(at' s_.badSource k.toNat))else false)
abbrev Dm:=((at' p.sources k.toNat).bus)
abbrev agW:=(bif (Rm s_ k)then(!(at' s_.badBus ((Dm p k).toNat)))else false)
abbrev aip:St:=⟨[(6,(vB (agW p s_ k)))],[]⟩
abbrev ad3:=(gG [(5,(at' s_.on_ k.toNat)),(13,(Rm s_ k))])
abbrev ah3:=(eqs (at' s_.on_ k.toNat) 4 ((gP (ad3 s_ k) [(5,true)]→All [(0:Int)≤k∧k<(s_.badSource.length:Int)])::(eqs (at' s_.on_ k.toNat) 3 (eqs (Rm s_ k) 6 ((gP (ad3 s_ k) [(13,true)]→All [(0:Int)≤k∧k<(p.sources.length:Int)])::(eqs (Rm s_ k) 3 ((gP (ad3 s_ k) [(13,true)]→All [(0:Int)≤(at' p.sources k.toNat).bus∧(at' p.sources k.toNat).bus<(s_.badBus.length:Int)])::(eqs (Rm s_ k) 3 []))))))))
abbrev agP:List SV:=[(sB (agW p s_ k))]
end
theorem fE (p:ah) (s_:State) (k:Int) {r:Bool} (h:gY p s_ k=some r):Fn Try.prog 65 (GV p s_ k) [] (vB r) []:=by
 refine fN tT Try.func65 rfl rfl fun B=> ?_
 show bn _ _ _ _ _ _ (KZ r) _
 unfold gY at h
 refine sz tT (YJ p s_ k) {fr:=[(0,2),(1,3)] } [2,3] ?_
 refine aQ (aO h fun⟨a1,a2,a3,a4⟩ h=> ?_)
 refine dg tT mX (aip p s_ k) (_::(ah3 p s_ k)) {yb:=[(5,(at' s_.on_ k.toNat)),(13,(Rm s_ k))] } [] ⟨a1,(ae ⟨(fun hg=> ⟨(a2 (aN hg)),trivial⟩),(ae (ae ⟨(fun hg=> ⟨(a3 (aN hg)),trivial⟩),(ae ⟨(fun hg=> ⟨(a4 (aN hg)),trivial⟩),(ae trivial)⟩)⟩))⟩)⟩ ?_
 refine aR ?_
 obtain rfl:=oi h
 exact rl (agP p s_ k)
def Gs  :Bool→Exit→St→Prop:=
  fun r=>aU TT [.tmp 6] (vB r) []
section
variable (s_:State) (i:Int) (p:ah)
abbrev LM:=(bif (at' s_.closed i.toNat)then(!(at' s_.badLink i.toNat))else false)
abbrev UC:=((H8 p i).toNat)
abbrev Ng:=(bif (LM s_ i)then(!(at' s_.badBus (UC i p)))else false)
abbrev XM:=((Gh p i).toNat)
abbrev ag7:=(bif (Ng s_ i p)then(!(at' s_.badBus (XM i p)))else false)
abbrev af3:St:=⟨[(6,(vB (ag7 s_ i p)))],[]⟩
abbrev acZ:=(gG [(5,(at' s_.closed i.toNat)),(13,(LM s_ i)),(22,(Ng s_ i p))])
abbrev afL:=(eqs (Ng s_ i p) 3 [])
abbrev aiw:List SV:=[(sB (ag7 s_ i p))]
end
theorem dI (p:ah) (s_:State) (i:Int) {r:Bool} (h:eG p s_ i=some r):Fn Try.prog 78 (GV p s_ i) [] (vB r) []:=by
 refine fN tT Try.func78 rfl rfl fun B=> ?_
 show bn _ _ _ _ _ _ (Gs r) _
 unfold eG at h
 refine sz tT ⟨[(2,(vI i)),(3,(vP 3 0)),(aY s_)],[(3,some (Yh p))]⟩ {fr:=[(0,3),(1,4)] } [4] ?_
 refine aQ (aO h fun a1 h=> ?_)
 refine rg tT ⟨[(2,(vI i)),(aY s_),(7,(YO p i))],[]⟩ [_] {fr:=[(5,5)] } [5] ⟨a1,trivial⟩ ?_
 refine aQ (aO h fun⟨a1,a2,a3,a4⟩ h=> ?_)
 refine rg tT (af3 s_ i p) (_::(eqs (at' s_.closed i.toNat) 4 ((gP (acZ s_ i p) [(5,true)]→All [(0:Int)≤i∧i<(s_.badLink.length:Int)])::(eqs (at' s_.closed i.toNat) 3 (eqs (LM s_ i) 5 ((gP (acZ s_ i p) [(13,true)]→All [(0:Int)≤(at' p.links i.toNat).a∧(at' p.links i.toNat).a<(s_.badBus.length:Int)])::(eqs (LM s_ i) 3 (eqs (Ng s_ i p) 5 ((gP (acZ s_ i p) [(22,true)]→All [(0:Int)≤(at' p.links i.toNat).b∧(at' p.links i.toNat).b<(s_.badBus.length:Int)])::(afL s_ i p)))))))))) {yb:=[(5,(at' s_.closed i.toNat)),(13,(LM s_ i)),(22,(Ng s_ i p))] } [] ⟨a1,(ae ⟨(fun hg=> ⟨(a2 (aN hg)),trivial⟩),(ae (ae ⟨(fun hg=> ⟨(a3 (aN hg)),trivial⟩),(ae (ae ⟨(fun hg=> ⟨(a4 (aN hg)),trivial⟩),(ae trivial)⟩))⟩))⟩)⟩ ?_
 refine aR ?_
 obtain rfl:=oi h
 exact rl (aiw s_ i p)
def AA  :(List Int)→Exit→St→Prop:=
  fun r=>aU TT [.tmp 2] (vO 0 false r.length) [(0,some (bO 3 1 (aj .i64) r))]
theorem o5 (s_:(List Int)) (u0:Bool) {r:(List Int)} (h:lU s_ u0=some r):Fn Try.prog 112 [(sD (aJ (some u0) 1 (aj .i64) s_))] [] (vO 0 false r.length) [(0,some (bO 3 1 (aj .i64) r))]:=by
 refine fN tT Try.func112 rfl rfl fun B=> ?_
 show bn _ _ _ _ _ _ (AA r) _
 unfold lU at h
 refine sz tT ⟨[(0,(vD (aJ (some u0) 1 (aj .i64) s_)))],[]⟩ {} [] ?_
 refine aQ (sz tT ⟨[(0,(vD (aJ (some u0) 1 (aj .i64) s_))),(4,(vB (!u0)))],[]⟩ {} [] ?_)
 refine bI h (fun hb h=> ?_) (fun hb h=> ?_)
 ·refine ct hb ?_
  refine sz tT ⟨[(2,(vD nS))],[]⟩ {} [] ?_
  refine aI (.trans (bG.QB (t:=2) (b:=2) (esz0:=0) (el0:=fun _ _=> .nilp) (E:=3) (esz:=1) (el:=au (aj .i64) ([]:List Int)) (by kernel_rfl) (by kernel_rfl)) (.trans (bG.fin (st':=⟨[(2,(vO 0 false 0))],[(0,some (.arr 3 1 0 (au (aj .i64) ([]:List Int))))]⟩) (cs:=[]) ⟨[],[(2,0)]⟩ [2] (by kernel_rfl) trivial) (bG.le (st':=⟨[(2,(vO 0 false (([]:List Int).length)))],[(0,some (bO 3 1 (aj .i64) ([]:List Int)))]⟩) ⟨⟨⟨_,rfl,cu.v (dm.one cW)⟩,trivial⟩,⟨rfl,oW,trivial⟩⟩))) ?_
  refine aR ?_
  obtain rfl:=oi h
  exact rl [(.one (.own 0 false (([]:List Int).length)))]
 ·refine cf hb ?_
  refine aP (aQ (aO h fun⟨a1,a2⟩ h=> ?_))
  refine rg tT ⟨[(2,(vO 4 false ((([]:List Int)++s_).length)))],[(4,some (bO 3 1 (aj .i64) (([]:List Int)++s_)))]⟩ [([]:List Int).length=0,aC 0 1 (ig 1 []) (au (aj .i64) ([]:List Int)),([]:List Int).length=([]:List Int).length,_,_,(([]:List Int)++s_).length=([]:List Int).length+s_.length,aC (([]:List Int).length+s_.length) 1 (Ak (au (aj .i64) ([]:List Int)) ([]:List Int).length (au (aj .i64) s_)) (au (aj .i64) (([]:List Int)++s_))] {an:=[(0, .arr ([]:List Int).length (au (aj .i64) ([]:List Int))),(2, .arr (([]:List Int)++s_).length (au (aj .i64) (([]:List Int)++s_)))],fr:=[(0,3),(2,4)] } [] ⟨(rfl),((fun i hi=>absurd hi (Nat.not_lt_zero i))),rfl,a1,a2,(List.length_append),(fe _ _ _ _),trivial⟩ ?_
  refine aI (bG.fin (st':=⟨[(2,(vO 0 false ((([]:List Int)++s_).length)))],[(0,some (bO 3 1 (aj .i64) (([]:List Int)++s_)))]⟩) (cs:=[]) ⟨[],[(4,0)]⟩ [2] (by kernel_rfl) trivial) ?_
  refine aR ?_
  obtain rfl:=oi h
  exact rl [(.one (.own 0 false ((([]:List Int)++s_).length)))]
theorem xL (s:(List Int)) {r:(List Int)} (h:gQ s=some r):Fn Try.prog 112 [(sD (aJ none 1 (aj .i64) s))] [] (vO 0 false r.length) [(0,some (bO 3 1 (aj .i64) r))]:=by
 refine Fn.nn (o5 s true h) fun hl=> ?_
 have hs:s=[]:=List.eq_nil_of_length_eq_zero hl
 subst hs
 exact o5 [] false (by rw [←h];kernel_rfl)
def LJ  :Bool→Exit→St→Prop:=
  fun r=>aU TT [.tmp 2] (vB r) []
theorem Cn (x:Int) {r:Bool} (h:sF x=some r):Fn Try.prog 154 [(sI x)] [] (vB r) []:=by
 refine fN tT Try.func154 rfl rfl fun B=> ?_
 show bn _ _ _ _ _ _ (LJ r) _
 unfold sF at h
 refine sz tT ⟨[(0,(vI x))],[]⟩ {} [] ?_
 refine sz tT ⟨[(2,(vB (!decide (x=x))))],[]⟩ {} [] ?_
 refine aR ?_
 obtain rfl:=oi h
 exact rl [(sB (!decide (x=x)))]
def Je  :Int→Exit→St→Prop:=
  fun r=>aU TT [.tmp 4] (vI r) []
theorem GX (x:Int) (y:Int) {r:Int} (h:nW x y=some r):Fn Try.prog 145 [(sI x),(sI y)] [] (vI r) []:=by
 refine fN tT Try.func145 rfl rfl fun B=> ?_
 show bn _ _ _ _ _ _ (Je r) _
 unfold nW at h
 refine sz tT ⟨[(0,(vI x)),(1,(vI y))],[]⟩ {} [] ?_
 refine aQ (bE h fun r_ hr_ h=> ?_)
 have q0:=Cn x hr_
 refine rg tT ⟨[(0,(vI x)),(1,(vI y)),(5,(vB r_))],[]⟩ [_] {an:=[(1,cA q0 [])] } [] ⟨q0,trivial⟩ ?_
 refine aQ (bE h fun u0 hr_1 h=> ?_)
 have q0:=Cn y hr_1
 refine rg tT ⟨[(0,(vI x)),(1,(vI y)),(5,(vB r_)),(6,(vB u0))],[]⟩ [_] {an:=[(1,cA q0 [])] } [] ⟨q0,trivial⟩ ?_
 refine aQ (sz tT ⟨[(0,(vI x)),(1,(vI y)),(6,(vB u0)),(11,(vB r_))],[]⟩ {} [] ?_)
 refine bI h (fun hb4 h=> ?_) (fun hb4 h=> ?_)
 ·refine ct hb4 ?_
  refine aQ (sz tT ⟨[(12,(vB u0))],[]⟩ {} [] ?_)
  refine bI h (fun hb h=> ?_) (fun hb h=> ?_)
  ·refine ct hb ?_
   refine sz tT ⟨[(4,(vI 0))],[]⟩ {} [] ?_
   refine aR ?_
   obtain rfl:=oi h
   exact rl [(sI 0)]
  ·refine cf hb ?_
   refine aP (sz tT ⟨[(4,(vI (-1)))],[]⟩ {} [] ?_)
   refine aR ?_
   obtain rfl:=oi h
   exact rl [(sI (-1))]
 ·refine cf hb4 ?_
  refine aP (aQ (sz tT ⟨[(0,(vI x)),(1,(vI y)),(13,(vB u0))],[]⟩ {} [] ?_))
  refine bI h (fun hb3 h=> ?_) (fun hb3 h=> ?_)
  ·refine ct hb3 ?_
   refine sz tT ⟨[(4,(vI 1))],[]⟩ {} [] ?_
   refine aR ?_
   obtain rfl:=oi h
   exact rl [(sI 1)]
  ·refine cf hb3 ?_
   refine aP (aQ (sz tT ⟨[(0,(vI x)),(1,(vI y)),(16,(vB (decide (x<y))))],[]⟩ {} [] ?_))
   refine bI h (fun hb2 h=> ?_) (fun hb2 h=> ?_)
   ·refine ct hb2 ?_
    refine sz tT ⟨[(4,(vI (-1)))],[]⟩ {} [] ?_
    refine aR ?_
    obtain rfl:=oi h
    exact rl [(sI (-1))]
   ·refine cf hb2 ?_
    refine aP (aQ (sz tT ⟨[(19,(vB (decide (y<x))))],[]⟩ {} [] ?_))
    refine bI h (fun hb1 h=> ?_) (fun hb1 h=> ?_)
    ·refine ct hb1 ?_
     refine sz tT ⟨[(4,(vI 1))],[]⟩ {} [] ?_
     refine aR ?_
     obtain rfl:=oi h
     exact rl [(sI 1)]
    ·refine cf hb1 ?_
     refine aP (sz tT ⟨[(4,(vI 0))],[]⟩ {} [] ?_)
     refine aR ?_
     obtain rfl:=oi h
     exact rl [(sI 0)]
def oK  :Int→Exit→St→Prop:=
  fun r=>aU TT [.tmp 4] (vI r) []
section
variable (s1:(List Int)) (s2:(List Int))
abbrev y7:DV:=(aJ none 1 (aj .i64) s1)
abbrev Oy:TV:=(vD (y7 s1))
abbrev jZ:Nat × TV:=(0,(Oy s1))
abbrev uX:Nat × TV:=(1,(Oy s2))
abbrev NF:Nat × TV:=(9,(Oy s1))
abbrev ND:Nat × TV:=(10,(vI (s1.length:Int)))
end
def uw (s1:(List Int)) (s2:(List Int)):Int→St:=
  fun u0=> ⟨[(jZ s1),(uX s2),(NF s1),(ND s1),(11,(vI u0))],[]⟩
section
variable (s1:(List Int)) (s2:(List Int))
abbrev YM:St:=⟨[(jZ s1),(uX s2)],[]⟩
end
def uK (s1:(List Int)) (s2:(List Int)):Unit→St:=
  fun _=>(YM s1 s2)
def Dw (s1:(List Int)) (s2:(List Int)):(aK Int (Ex Unit Int))→Exit→St→Prop:=
  LQ 0 [] (uw s1 s2) (uK s1 s2) oK
section
variable (u0:Int) (s1:(List Int))
abbrev Rs:TV:=(vB (decide (u0<(s1.length:Int))))
end
theorem D9 (s1:(List Int)) (s2:(List Int)) {r:Int} (h:nE s1 s2=some r):Fn Try.prog 111 [(sD (y7 s1)),(sD (y7 s2))] [] (vI r) []:=by
 refine fN tT Try.func111 rfl rfl fun B=> ?_
 show bn _ _ _ _ _ _ (oK r) _
 unfold nE at h
 refine sz tT (YM s1 s2) {} [] ?_
 refine aQ (sz tT ⟨[(jZ s1),(uX s2),(NF s1),(ND s1),(11,(vI 0))],[]⟩ {} [] ?_)
 refine bE h fun y hy h=> ?_
 refine aL [] (uw s1 s2) (uK s1 s2) oK hy (fun s f h=> ?_) ?_
 ·clear hy
  show bn _ _ _ _ _ _ ((Dw s1 s2) f) _
  unfold bA at h
  obtain⟨u0,rfl⟩: ∃q,q=s:=⟨_,rfl⟩
  refine sz tT ⟨[(jZ s1),(uX s2),(NF s1),(ND s1),(11,(vI u0)),(12,(Rs u0 s1))],[]⟩ {} [] ?_
  refine aQ ?_
  refine bI h (fun hb2 h=> ?_) (fun hb2 h=> ?_)
  ·refine ct hb2 ?_
   refine aP (aQ (aB (aQ (aO h fun a1 h=> ?_))))
   refine rg tT ⟨[(jZ s1),(uX s2),(5,(vI u0)),(6,(vI (at' s1 u0.toNat))),(NF s1),(ND s1),(11,(vI u0))],[]⟩ [_] {} [] ⟨a1,trivial⟩ ?_
   refine aQ (sz tT ⟨[(jZ s1),(uX s2),(5,(vI u0)),(6,(vI (at' s1 u0.toNat))),(NF s1),(ND s1),(11,(vI u0)),(19,(vB (decide ((s2.length:Int)≤u0))))],[]⟩ {} [] ?_)
   refine bI h (fun hb1 h=> ?_) (fun hb1 h=> ?_)
   ·refine ct hb1 ?_
    refine sz tT ⟨[(4,(vI 1))],[]⟩ {} [] ?_
    refine aR ?_
    obtain rfl:=oi h
    exact lR bS (bT 0) bR (aU.mk (.inr rfl) (p:=[]) (l:=[(sI 1)]) (by kernel_rfl) trivial (cu.refl _) trivial)
   ·refine cf hb1 ?_
    refine aP (aQ (aO h fun a1 h=> ?_))
    refine rg tT ⟨[(jZ s1),(uX s2),(6,(vI (at' s1 u0.toNat))),(7,(vI (at' s2 u0.toNat))),(NF s1),(ND s1),(11,(vI u0))],[]⟩ [_] {} [] ⟨a1,trivial⟩ ?_
    refine aQ (bE h fun r_ hr_ h=> ?_)
    have q0:=GX (at' s1 u0.toNat) (at' s2 u0.toNat) hr_
    refine rg tT ⟨[(jZ s1),(uX s2),(8,(vI r_)),(NF s1),(ND s1),(11,(vI u0))],[]⟩ [_] {an:=[(2,cA q0 [])] } [] ⟨q0,trivial⟩ ?_
    refine sz tT ⟨[(jZ s1),(uX s2),(8,(vI r_)),(NF s1),(ND s1),(11,(vI u0)),(28,(vB (!decide (r_=0))))],[]⟩ {} [] ?_
    refine bI h (fun hb h=> ?_) (fun hb h=> ?_)
    ·refine ct hb ?_
     refine sz tT ⟨[(4,(vI r_))],[]⟩ {} [] ?_
     refine aR ?_
     obtain rfl:=oi h
     exact lR bS (bT 0) bR (aU.mk (.inr rfl) (p:=[]) (l:=[(sI r_)]) (by kernel_rfl) trivial (cu.refl _) trivial)
    ·refine cf hb ?_
     refine aP (rz tT ⟨[(jZ s1),(uX s2),(NF s1),(ND s1),(11,(k28 u0))],[]⟩ {} [] ?_)
     obtain rfl:=oi h
     exact lN
  ·refine cf hb2 ?_
   refine aI (fz (YM s1 s2) []) ?_
   refine aX ?_
   obtain rfl:=oi h
   exact lB
 ·clear hy
  cases y with
  |brk z=>
   unfold dU
   refine⟨_, .refl, ?_⟩
   refine aQ (sz tT ⟨[(35,(vB (decide ((s1.length:Int)<(s2.length:Int)))))],[]⟩ {} [] ?_)
   refine bI h (fun hb3 h=> ?_) (fun hb3 h=> ?_)
   ·refine ct hb3 ?_
    refine sz tT ⟨[(4,(vI (-1)))],[]⟩ {} [] ?_
    refine aR ?_
    obtain rfl:=oi h
    exact rl [(sI (-1))]
   ·refine cf hb3 ?_
    refine aP (sz tT ⟨[(4,(vI 0))],[]⟩ {} [] ?_)
    refine aR ?_
    obtain rfl:=oi h
    exact rl [(sI 0)]
  |ret v=>
   obtain rfl:=oi h
   unfold dU
   intro e st hn ha hR
   cases e with
   |normal=>exact absurd rfl hn
   |exit id=>exact hR
   |goto l=>exact hR
   |ret=>exact hR
   |panic c=>exact hR
   |outgrown=>exact hR
def EX  :Int→Exit→St→Prop:=
  fun r=>aU TT [.tmp 2] (vI r) []
section
variable (u0:(List Int))
abbrev Va:Nat × TV:=(6,(Oy u0))
abbrev o9:Nat × TV:=(7,(vI (u0.length:Int)))
end
def IL (u0:(List Int)):Int→St:=
  fun t8=> ⟨[(3,(vI 0)),(Va u0),(o9 u0),(8,(vI t8))],[]⟩
def IC  :Unit→St:=
  fun _=> ⟨[(3,(vI 0))],[]⟩
def P6 (u0:(List Int)):(aK Int (Ex Unit Int))→Exit→St→Prop:=
  LQ 0 [] (IL u0) IC EX
section
variable (t8:Int) (u0:(List Int))
abbrev Wq:Nat × TV:=(9,(Rs t8 u0))
end
theorem QE (u0:(List Int)) {r:Int} (h:CF u0=some r):Fn Try.prog 110 [(sD (y7 u0))] [] (vI r) []:=by
 refine fN tT Try.func110 rfl rfl fun B=> ?_
 show bn _ _ _ _ _ _ (EX r) _
 unfold CF at h
 refine sz tT ⟨[(jZ u0)],[]⟩ {} [] ?_
 refine sz tT ⟨[(jZ u0),(3,(vI 0))],[]⟩ {} [] ?_
 refine aQ (sz tT ⟨[(3,(vI 0)),(Va u0),(o9 u0),(8,(vI 0))],[]⟩ {} [] ?_)
 refine bE h fun y hy h=> ?_
 refine aL [] (IL u0) IC EX hy (fun s f h=> ?_) ?_
 ·clear hy
  show bn _ _ _ _ _ _ ((P6 u0) f) _
  unfold xP at h
  obtain⟨t8,rfl⟩: ∃q,q=s:=⟨_,rfl⟩
  refine sz tT ⟨[(3,(vI 0)),(Va u0),(o9 u0),(8,(vI t8)),(Wq t8 u0)],[]⟩ {} [] ?_
  refine aQ ?_
  refine bI h (fun hb1 h=> ?_) (fun hb1 h=> ?_)
  ·refine ct hb1 ?_
   refine aP (aQ (aB (aQ (aO h fun a1 h=> ?_))))
   refine rg tT ⟨[(3,(vI 0)),(5,(vI (at' u0 t8.toNat))),(Va u0),(o9 u0),(8,(vI t8))],[]⟩ [_] {} [] ⟨a1,trivial⟩ ?_
   refine sz tT ⟨[(3,(vI 0)),(5,(vI (at' u0 t8.toNat))),(Va u0),(o9 u0),(8,(vI t8)),(14,(vB (!decide ((at' u0 t8.toNat)=0))))],[]⟩ {} [] ?_
   refine bI h (fun hb h=> ?_) (fun hb h=> ?_)
   ·refine ct hb ?_
    refine sz tT ⟨[(2,(vI (at' u0 t8.toNat)))],[]⟩ {} [] ?_
    refine aR ?_
    obtain rfl:=oi h
    exact lR bS (bT 0) bR (aU.mk (.inr rfl) (p:=[]) (l:=[(sI (at' u0 t8.toNat))]) (by kernel_rfl) trivial (cu.refl _) trivial)
   ·refine cf hb ?_
    refine aP (rz tT ⟨[(3,(vI 0)),(Va u0),(o9 u0),(k27 t8)],[]⟩ {} [] ?_)
    obtain rfl:=oi h
    exact lN
  ·refine cf hb1 ?_
   refine aI (fz ⟨[(3,(vI 0))],[]⟩ []) ?_
   refine aX ?_
   obtain rfl:=oi h
   exact lB
 ·clear hy
  cases y with
  |brk z=>
   unfold dU
   refine⟨_, .refl, ?_⟩
   refine sz tT ⟨[(2,(vI 0))],[]⟩ {} [] ?_
   refine aR ?_
   obtain rfl:=oi h
   exact rl [(sI 0)]
  |ret v=>
   obtain rfl:=oi h
   unfold dU
   intro e st hn ha hR
   cases e with
   |normal=>exact absurd rfl hn
   |exit id=>exact hR
   |goto l=>exact hR
   |ret=>exact hR
   |panic c=>exact hR
   |outgrown=>exact hR
def JI  :Bool→Exit→St→Prop:=
  fun r=>aU TT [.tmp 4] (vB r) []
section
variable (a:Way) (b:Way) (r_:Int)
abbrev Md:=(IntKind.wrap .i64 (a.bg - b.bg))
abbrev LC:=(IntKind.wrap .i64 ((a.links.length:Int) - (b.links.length:Int)))
abbrev ag0:=(au (aj .i64) [(Md a b),(LC a b),r_])
abbrev afS:List (Nat × Option Ob):=[(6,some (bO 3 1 (aj .i64) [(Md a b),(LC a b),r_]))]
end
theorem HZ (a:Way) (b:Way) {r:Bool} (h:ic a b=some r):Fn Try.prog 109 [(.agg [(cB a.there),(cI a.bg),(.d (aJ none 1 (aj .i64) a.links))]),(.agg [(cB b.there),(cI b.bg),(.d (aJ none 1 (aj .i64) b.links))])] [] (vB r) []:=by
 refine fN tT Try.func109 rfl rfl fun B=> ?_
 show bn _ _ _ _ _ _ (JI r) _
 unfold ic at h
 refine sz tT ⟨[(2,(vD (mg [(.bool a.there),(.int .i64 a.bg),(aJ none 1 (aj .i64) a.links)] 0))),(3,(vD (mg [(.bool b.there),(.int .i64 b.bg),(aJ none 1 (aj .i64) b.links)] 0)))],[]⟩ {fr:=[(0,4),(1,5)] } [4,5] ?_
 refine aQ ?_
 refine bI h (fun hb h=> ?_) (fun hb h=> ?_)
 ·skip
  refine di tT mX ⟨[(4,(vB (bif (!b.there)then true else false)))],[]⟩ [(!b.there)=true, ¬ gP (gG [(3,true)]) [(3,false)],(!b.there)=true, ¬ gP (gG [(3,true)]) [(3,false)],(!b.there)=true, ¬ gP (gG [(3,true)]) [(3,false)],(!b.there)=true, ¬ gP (gG [(3,true)]) [(3,false)],(!b.there)=true, ¬ gP (gG [(3,true)]) [(3,false)],(!b.there)=true, ¬ gP (gG [(3,true)]) [(3,false)],(!b.there)=true, ¬ gP (gG [(3,true)]) [(3,false)],(!b.there)=true, ¬ gP (gG [(3,true)]) [(3,false)],(!b.there)=true, ¬ gP (gG [(3,true)]) [(3,false)],(!b.there)=true, ¬ gP (gG [(3,true)]) [(3,false)],(!b.there)=true, ¬ gP (gG [(3,true)]) [(3,false)],(!b.there)=true, ¬ gP (gG [(3,true)]) [(3,false)],(!b.there)=true, ¬ gP (gG [(3,true)]) [(3,false)],(!b.there)=true, ¬ gP (gG [(3,true)]) [(3,false)],(!b.there)=true, ¬ gP (gG [(3,true)]) [(3,false)],(!b.there)=true, ¬ gP (gG [(3,true)]) [(3,false)],(!b.there)=true, ¬ gP (gG [(3,true)]) [(3,false)],(!b.there)=true, ¬ gP (gG [(3,true)]) [(3,false)],(!b.there)=true, ¬ gP (gG [(3,true)]) [(3,false)],(!b.there)=true, ¬ gP (gG [(3,true)]) [(3,false)],(!b.there)=true] {yb:=[(3,true)],an:=[(4, .skip),(5, .skip),(6, .skip),(7, .skip),(8, .skip),(9, .skip),(10, .skip),(11, .skip),(12, .skip),(13, .skip),(14, .skip),(15, .skip),(16, .skip),(17, .skip),(18, .skip),(19, .skip),(20, .skip),(21, .skip),(22, .skip),(23, .skip)] } [] ⟨(hb),((fun h=>Bool.noConfusion (show true=false from h.1))),(hb),((fun h=>Bool.noConfusion (show true=false from h.1))),(hb),((fun h=>Bool.noConfusion (show true=false from h.1))),(hb),((fun h=>Bool.noConfusion (show true=false from h.1))),(hb),((fun h=>Bool.noConfusion (show true=false from h.1))),(hb),((fun h=>Bool.noConfusion (show true=false from h.1))),(hb),((fun h=>Bool.noConfusion (show true=false from h.1))),(hb),((fun h=>Bool.noConfusion (show true=false from h.1))),(hb),((fun h=>Bool.noConfusion (show true=false from h.1))),(hb),((fun h=>Bool.noConfusion (show true=false from h.1))),(hb),((fun h=>Bool.noConfusion (show true=false from h.1))),(hb),((fun h=>Bool.noConfusion (show true=false from h.1))),(hb),((fun h=>Bool.noConfusion (show true=false from h.1))),(hb),((fun h=>Bool.noConfusion (show true=false from h.1))),(hb),((fun h=>Bool.noConfusion (show true=false from h.1))),(hb),((fun h=>Bool.noConfusion (show true=false from h.1))),(hb),((fun h=>Bool.noConfusion (show true=false from h.1))),(hb),((fun h=>Bool.noConfusion (show true=false from h.1))),(hb),((fun h=>Bool.noConfusion (show true=false from h.1))),(hb),((fun h=>Bool.noConfusion (show true=false from h.1))),(hb),trivial⟩ (bG.le (st':=⟨[(4,(vB true))],[]⟩) ⟨⟨⟨_,rfl,cu.v (dm.one (cK.of (congrArg (fun b=>CV.d (.bool b)) (DC hb))))⟩,trivial⟩,trivial⟩) ?_
  refine aR ?_
  obtain rfl:=oi h
  exact rl [(sB true)]
 ·skip
  refine bE h fun r_ hr_ h=> ?_
  refine bE h fun u0 hr_1 h=> ?_
  refine di tT mX ⟨[(4,(vB (bif (!b.there)then true else(decide (u0<0)))))],[]⟩ [(!b.there)=false,(!b.there)=false,(!b.there)=false,(!b.there)=false,(!b.there)=false,(!b.there)=false,(!b.there)=false,(!b.there)=false,(!b.there)=false,(!b.there)=false,(!b.there)=false,(!b.there)=false,(!b.there)=false,(!b.there)=false,(!b.there)=false,(!b.there)=false,(!b.there)=false,gP (gG [(3,false)]) [(3,false)]→All [Fn Try.prog 111 [(sD (aJ none 1 (aj .i64) a.links)),(sD (aJ none 1 (aj .i64) b.links))] [] (vI r_) []],(!b.there)=false,gP (gG [(3,false)]) [(3,false)]→All [[(Md a b),(LC a b),r_].length=3,aC 3 1 (ig 1 [(.int .i64 (Md a b)),(.int .i64 (LC a b)),(.int .i64 r_)]) (ag0 a b r_)],gP (gG [(3,false)]) [(3,false)],(!b.there)=false,gP (gG [(3,false)]) [(3,false)]→All [Fn Try.prog 110 [(.one (.own 6 true ([(Md a b),(LC a b),r_].length)))] (afS a b r_) (vI u0) (afS a b r_)],(!b.there)=false,(!b.there)=false] {yb:=[(3,false)],an:=[(20, .call [] (vI r_) []),(21, .arr [(Md a b),(LC a b),r_].length (ag0 a b r_)),(22, .callR [6] (vI u0))],fr:=[(21,6)] } [] ⟨(hb),(hb),(hb),(hb),(hb),(hb),(hb),(hb),(hb),(hb),(hb),(hb),(hb),(hb),(hb),(hb),(hb),(fun hg=> ⟨(D9 a.links b.links hr_),trivial⟩),(hb),(fun hg=> ⟨(rfl),((by intro i hi j hj;match i,j,hi,hj with|0,0,_,_=>rfl|1,0,_,_=>rfl|2,0,_,_=>rfl)),trivial⟩),(⟨rfl,trivial⟩),(hb),(fun hg=> ⟨(Fn.xE (frz:=[6]) (p:=[[(Md a b),(LC a b),r_].length=[(Md a b),(LC a b),r_].length]) (Fn.le (args':=[(sD (aJ (some true) 1 (aj .i64) [(Md a b),(LC a b),r_]))]) (QE [(Md a b),(LC a b),r_] hr_1) ⟨dm.one (cK.d fo.mH),trivial⟩) (by kernel_rfl) ⟨rfl,trivial⟩ rfl),trivial⟩),(hb),(hb),trivial⟩ (bG.le (st':=⟨[(4,(vB (decide (u0<0))))],[]⟩) ⟨⟨⟨_,rfl,cu.v (dm.one (cK.of (congrArg (fun b=>CV.d (.bool b)) (DL hb))))⟩,trivial⟩,trivial⟩) ?_
  refine aR ?_
  obtain rfl:=oi h
  exact rl [(sB (decide (u0<0)))]
def rJ  :(List Way)→Exit→St→Prop:=
  fun r=>aU TT [.tmp 6] (vO 0 true r.length) [(0,some (bO 141 3 Way.cell r))]
section
variable (u0:(List Way)) (p:ah) (s_:State) (u1:Bool)
abbrev qC:Nat × TV:=(7,(vD (.fn 109 0 (nT []))))
abbrev xN:Nat × TV:=(8,(vO 405 true u0.length))
abbrev LG:Nat × Option Ob:=(403,some (Yh p))
abbrev BU:List (Nat × Option Ob):=[(LG p),(405,some (bO 141 3 Way.cell u0))]
abbrev ab9:St:=⟨[(3,(vP 403 0)),(aY s_),qC,(xN u0),(9,(vB u1))],(BU u0 p)⟩
end
def xX (p:ah) (s_:State):((List Way) × Bool)→St:=
  fun zz=>match zz with|(u0,u1)=>(ab9 u0 p s_ u1)
def yt  :(List Way)→St:=
  fun u0=> ⟨[(xN u0)],[(405,some (bO 141 3 Way.cell u0))]⟩
def pO (p:ah) (s_:State):(aK ((List Way) × Bool) (Ex (List Way) (List Way)))→Exit→St→Prop:=
  LQ 0 [] (xX p s_) yt rJ
section
variable (p:ah) (s_:State) (u0:(List Way)) (u1:Bool) (u2:Int)
abbrev zO:Nat × TV:=(26,(vD (aJ none 6 Link.cell p.links)))
abbrev zK:Nat × TV:=(27,(vI (p.links.length:Int)))
abbrev adk:St:=⟨[(3,(vP 403 0)),(aY s_),qC,(xN u0),(9,(vB u1)),(zO p),(zK p),(28,(vI u2))],(BU u0 p)⟩
end
def yG (p:ah) (s_:State):((List Way) × Bool × Int)→St:=
  fun zz=>match zz with|(u0,u1,u2)=>(adk p s_ u0 u1 u2)
def xW (p:ah) (s_:State):((List Way) × Bool)→St:=
  fun zz=>match zz with|(u0,u1)=>(ab9 u0 p s_ u1)
def pV (p:ah) (s_:State):(aK ((List Way) × Bool × Int) (Ex ((List Way) × Bool) (aK ((List Way) × Bool) (Ex (List Way) (List Way)))))→Exit→St→Prop:=
  LQ 2 [1] (yG p s_) (xW p s_) (pO p s_)
section
variable (p:ah) (u0:Int)
abbrev acs:List CV:=[(cI (H8 p u0)),(cI (Gh p u0)),(cI (Gh p u0)),(cI (H8 p u0))]
abbrev FK:Nat × TV:=(48,(.v (.agg (acs p u0))))
end
def xV (p:ah) (s_:State) (u0:Int):((List Way) × Bool × Int)→St:=
  fun zz=>match zz with|(u1,u2,u3)=> ⟨[(3,(vP 403 0)),(aY s_),qC,(xN u1),(9,(vB u2)),(10,(vI u0)),(Cq p u0),(zO p),(zK p),(28,(vI u0)),(FK p u0),(49,(vI u3))],(BU u1 p)⟩
def yC (p:ah) (s_:State) (u1:Int):((List Way) × Bool)→St:=
  fun zz=>match zz with|(u0,u2)=>(adk p s_ u0 u2 u1)
def Gu (p:ah) (s_:State) (u0:Int):(aK ((List Way) × Bool × Int) (Ex ((List Way) × Bool) (aK ((List Way) × Bool × Int) (Ex ((List Way) × Bool) (aK ((List Way) × Bool) (Ex (List Way) (List Way)))))))→Exit→St→Prop:=
  LQ 4 [3] (xV p s_ u0) (yC p s_ u0) (pV p s_)
section
variable (p:ah) (u3:Int) (s_:State) (u5:(List Way)) (u8:Bool) (u0:Int) (u1:Int) (u2:(List Way)) (u6:Bool) (u4:(List Int))
abbrev ahd:List (Nat × Option Ob):=[(LG p)]
abbrev Kc:=(List.replicate p.buses.toNat ((⟨false,0,([]:List Int)⟩:Way):Way))
abbrev aiJ:Nat × TV:=(8,(vO 405 true ((Kc p).length)))
abbrev ahg:List (Nat × TV):=[(2,(vI u3)),(3,(vP 403 0)),(aY s_),qC,(aiJ p)]
abbrev ab3:=((Kc p).set u3.toNat (⟨true,(at' (Kc p) u3.toNat).bg,(at' (Kc p) u3.toNat).links⟩:Way))
abbrev abq:=(au Way.cell (ab3 p u3))
abbrev aeF:Nat × TV:=(8,(vO 405 true ((ab3 p u3).length)))
abbrev ahA:List (Nat × Option Ob):=[(LG p),(405,some (bO 141 3 Way.cell (ab3 p u3)))]
abbrev agM:St:=⟨[(3,(vP 403 0)),(aY s_),qC,(xN u5),(9,(vB u8)),(zO p),(zK p),(28,(k28 u0))],(BU u5 p)⟩
abbrev acL:=(⟨(at' p.links u0.toNat).a,(at' p.links u0.toNat).b⟩:af)
abbrev ac1:=(⟨(at' p.links u0.toNat).b,(at' p.links u0.toNat).a⟩:af)
abbrev aeW:=(at' [(acL p u0),(ac1 p u0)] u1.toNat)
abbrev ac7:=((aeW p u0 u1).e0)
abbrev Yo:=((aeW p u0 u1).e1)
abbrev aep:List DV:=[(.int .i64 (ac7 p u0 u1)),(.int .i64 (Yo p u0 u1))]
abbrev abo:=(at' u2 ((ac7 p u0 u1).toNat))
abbrev ag6:=((abo p u0 u1 u2).there)
abbrev ag9:=((abo p u0 u1 u2).bg)
abbrev agB:=((abo p u0 u1 u2).links)
abbrev afP:Nat × TV:=(14,(vD (mg [(.bool (ag6 p u0 u1 u2)),(.int .i64 (ag9 p u0 u1 u2)),(aJ none 1 (aj .i64) (agB p u0 u1 u2))] 0)))
abbrev Xx:Nat × TV:=(15,(vI (Yo p u0 u1)))
abbrev aeC:St:=⟨[(3,(vP 403 0)),(aY s_),qC,(xN u2),(9,(vB u6)),(10,(vI u0)),(Cq p u0),(zO p),(zK p),(28,(vI u0)),(FK p u0),(49,(k28 u1))],(BU u2 p)⟩
abbrev adU:=(IntKind.wrap .i64 ((ag9 p u0 u1 u2)+((at' p.links u0.toNat).bg)))
abbrev aiA:List DV:=[(.bool true),(.int .i64 (adU p u0 u1 u2)),(aJ none 1 (aj .i64) (u4++[u0]))]
abbrev agI:Nat × TV:=(16,(vD (mg (aiA p u0 u1 u2 u4) 0)))
abbrev aeE:=(⟨true,(adU p u0 u1 u2),(u4++[u0])⟩:Way)
abbrev acC:=((Yo p u0 u1).toNat)
abbrev abp:=(u2.set (acC p u0 u1) (aeE p u0 u1 u2 u4))
abbrev ab0:=(au Way.cell (abp p u0 u1 u2 u4))
abbrev acA:Nat × TV:=(8,(vO 405 true ((abp p u0 u1 u2 u4).length)))
abbrev adJ:List (Nat × Option Ob):=[(LG p),(405,some (bO 141 3 Way.cell (abp p u0 u1 u2 u4)))]
end
theorem GQ (p:ah) (s_:State) (u3:Int) {r:(List Way)} (h:mG p s_ u3=some r):Fn Try.prog 66 (GV p s_ u3) [] (vO 0 true r.length) [(0,some (bO 141 3 Way.cell r))]:=by
 refine fN tT Try.func66 rfl rfl fun B=> ?_
 show bn _ _ _ _ _ _ (rJ r) _
 unfold mG at h
 refine sz tT ⟨[(2,(vI u3)),(3,(vP 403 0)),(aY s_)],(ahd p)⟩ {fr:=[(0,403),(1,404)] } [404] ?_
 refine sz tT ⟨[(2,(vI u3)),(3,(vP 403 0)),(aY s_),qC],(ahd p)⟩ {} [] ?_
 refine aQ (aO h fun⟨a1,a2,a3⟩ h=> ?_)
 refine ri tT ⟨(ahg p u3 s_),[(LG p),(405,some (.arr 141 3 (Kc p).length (fun _ j=>[(.bool false),(.int .i64 0),nS].getD j .nilp)))]⟩ [_,(p.buses:Int)=p.buses,_,_,(Kc p).length=p.buses.toNat,aC p.buses.toNat 3 (fun _ j=>[(.bool false),(.int .i64 0),nS].getD j .nilp) (fun _ j=>[(.bool false),(.int .i64 0),nS].getD j .nilp)] {an:=[(2, .arr (Kc p).length (fun _ j=>[(.bool false),(.int .i64 0),nS].getD j .nilp))],fr:=[(2,405)] } [] ⟨a1,rfl,a2,a3,(List.length_replicate),(gL _ _ _),trivial⟩ (bG.le (st':=⟨(ahg p u3 s_),[(LG p),(405,some (bO 141 3 Way.cell (Kc p)))]⟩) ⟨⟨tR,tR,tR,tR,tR,trivial⟩,⟨rfl, .refl _,⟨rfl,TH (aiK _ _ _ _ _ (fun j hj=>match j,hj with|0,_=> .refl _|1,_=> .refl _|2,_=>fo.nil')),trivial⟩⟩⟩) ?_
 refine aQ (aO h fun a1 h=> ?_)
 refine ri tT ⟨[(3,(vP 403 0)),(aY s_),qC,(aiJ p)],[(LG p),(405,some (.arr 141 3 (Kc p).length (abq p u3)))]⟩ [_,_,aC (Kc p).length 3 (jS (au Way.cell (Kc p)) u3.toNat 0 [(.bool true)]) (abq p u3)] {an:=[(4, .arr 0 (abq p u3))] } [] ⟨a1,(tL a1),(bD _ _ _ _ _ _ _ _ rfl (fun j hj=>(match j,hj with|0,_=>rfl|1,_=>rfl|2,_=>rfl))),trivial⟩ (bG.le (st':=⟨[(3,(vP 403 0)),(aY s_),qC,(aeF p u3)],(ahA p u3)⟩) ⟨⟨tR,tR,tR,⟨_,rfl,cu.v (dm.one cW)⟩,trivial⟩,⟨rfl, .refl _,⟨rfl,oW,trivial⟩⟩⟩) ?_
 refine aQ (sz tT ⟨[(3,(vP 403 0)),(aY s_),qC,(aeF p u3),(9,(vB true))],(ahA p u3)⟩ {} [] ?_)
 refine bE h fun y2 hy h=> ?_
 refine aL [] (xX p s_) yt rJ hy (fun s f h=> ?_) ?_
 ·clear hy
  show bn _ _ _ _ _ _ ((pO p s_) f) _
  unfold jV at h
  obtain⟨u7,v1⟩:=s
  refine aQ (sz tT ⟨[(3,(vP 403 0)),(aY s_),qC,(xN u7),(24,(vB v1))],(BU u7 p)⟩ {} [] ?_)
  refine bI h (fun hb5 h=> ?_) (fun hb5 h=> ?_)
  ·refine ct hb5 ?_
   refine aP (aB (sz tT ⟨[(3,(vP 403 0)),(aY s_),qC,(xN u7),(9,(vB false))],(BU u7 p)⟩ {} [] ?_))
   refine sz tT ⟨[(3,(vP 403 0)),(aY s_),qC,(xN u7),(9,(vB false)),(zO p),(zK p),(28,(vI 0))],(BU u7 p)⟩ {} [] ?_
   refine bE h fun y1 hy h=> ?_
   refine aL [1] (yG p s_) (xW p s_) (pO p s_) hy (fun s f h=> ?_) ?_
   ·clear hy
    show bn _ _ _ _ _ _ ((pV p s_) f) _
    unfold mJ at h
    obtain⟨u5,u8,u0⟩:=s
    refine sz tT ⟨[(3,(vP 403 0)),(aY s_),qC,(xN u5),(9,(vB u8)),(zO p),(zK p),(28,(vI u0)),(29,(k99 p u0))],(BU u5 p)⟩ {} [] ?_
    refine aQ ?_
    refine bI h (fun hb4 h=> ?_) (fun hb4 h=> ?_)
    ·refine ct hb4 ?_
     refine aP (aQ (aB (aQ (aO h fun a1 h=> ?_))))
     refine rg tT ⟨[(3,(vP 403 0)),(aY s_),qC,(xN u5),(9,(vB u8)),(10,(vI u0)),(Cq p u0),(zO p),(zK p),(28,(vI u0))],(BU u5 p)⟩ [_] {fr:=[(3,781)] } [781] ⟨a1,trivial⟩ ?_
     refine aQ (aQ (bE h fun r_ hr_ h=> ?_))
     have q0:=dI p s_ u0 hr_
     refine rg tT ⟨[(3,(vP 403 0)),(aY s_),qC,(xN u5),(9,(vB u8)),(10,(vI u0)),(Cq p u0),(zO p),(zK p),(28,(vI u0)),(37,(vB (!r_)))],(BU u5 p)⟩ [_] {an:=[(3,cA q0 [])] } [] ⟨q0,trivial⟩ ?_
     refine bI h (fun hb3 h=> ?_) (fun hb3 h=> ?_)
     ·refine ct hb3 ?_
      refine aX (rz tT (agM p s_ u5 u8 u0) {} [] ?_)
      obtain rfl:=oi h
      exact lN
     ·refine cf hb3 ?_
      refine aP (sz tT ⟨[(3,(vP 403 0)),(aY s_),qC,(xN u5),(9,(vB u8)),(10,(vI u0)),(Cq p u0),(zO p),(zK p),(28,(vI u0)),(FK p u0),(49,(vI 0))],(BU u5 p)⟩ {} [] ?_)
      refine bE h fun y hy h=> ?_
      refine aL [3] (xV p s_ u0) (yC p s_ u0) (pV p s_) hy (fun s f h=> ?_) ?_
      ·clear hy
       show bn _ _ _ _ _ _ ((Gu p s_ u0) f) _
       unfold iA at h
       obtain⟨u2,u6,u1⟩:=s
       refine sz tT ⟨[(3,(vP 403 0)),(aY s_),qC,(xN u2),(9,(vB u6)),(10,(vI u0)),(Cq p u0),(zO p),(zK p),(28,(vI u0)),(FK p u0),(49,(vI u1)),(50,(vB (decide (u1<2))))],(BU u2 p)⟩ {} [] ?_
       refine aQ ?_
       refine bI h (fun hb2 h=> ?_) (fun hb2 h=> ?_)
       ·refine ct hb2 ?_
        refine aP (aQ (aB (aQ (aO h fun a1 h=> ?_))))
        refine rg tT ⟨[(3,(vP 403 0)),(aY s_),qC,(xN u2),(9,(vB u6)),(10,(vI u0)),(Cq p u0),(13,(vP 800 0)),(zO p),(zK p),(28,(vI u0)),(FK p u0),(49,(vI u1))],[(LG p),(405,some (bO 141 3 Way.cell u2)),(800,some (.cells 164 [(cI (ac7 p u0 u1)),(cI (Yo p u0 u1))]))]⟩ [_,u1.toNat*2+2≤(acs p u0).length,((acs p u0).drop (u1.toNat*2)).take 2=(aep p u0 u1).map .d] {an:=[(0, .vals (aep p u0 u1))],fr:=[(1,800)] } [] ⟨a1,(X8 (n:=2) (sz:=2) (Nat.le_refl _) a1),(Xr (n:=2) (sz:=2) (g:=fun q=>[(cI ((at' [(acL p u0),(ac1 p u0)] q).e0)),(cI ((at' [(acL p u0),(ac1 p u0)] q).e1))]) (by intro q hq;match q,hq with|0,_=>rfl|1,_=>rfl) a1),trivial⟩ ?_
        refine aQ (aO h fun a1 h=> ?_)
        refine dg tT mX ⟨[(3,(vP 403 0)),(aY s_),qC,(xN u2),(9,(vB u6)),(10,(vI u0)),(Cq p u0),(afP p u0 u1 u2),(Xx p u0 u1),(zO p),(zK p),(28,(vI u0)),(FK p u0),(49,(vI u1))],(BU u2 p)⟩ [(0:Int)≤0∧(0:Int)<(2:Nat),_,_,(0:Int)≤1∧(1:Int)<(2:Nat)] {fr:=[(7,801)] } [801] ⟨((by decide)),a1,(tL a1),((by decide)),trivial⟩ ?_
        refine aQ (sz tT ⟨[(3,(vP 403 0)),(aY s_),qC,(xN u2),(9,(vB u6)),(10,(vI u0)),(Cq p u0),(afP p u0 u1 u2),(Xx p u0 u1),(zO p),(zK p),(28,(vI u0)),(FK p u0),(49,(vI u1)),(61,(vB (!(ag6 p u0 u1 u2))))],(BU u2 p)⟩ {} [] ?_)
        refine bI h (fun hb1 h=> ?_) (fun hb1 h=> ?_)
        ·refine ct hb1 ?_
         refine aX (rz tT (aeC p s_ u0 u1 u2 u6) {} [] ?_)
         obtain rfl:=oi h
         exact lN
        ·refine cf hb1 ?_
         refine aP (aQ (bE h fun u4 hr_1 h=> ?_))
         refine aO h fun⟨a1,a2⟩ h=> ?_
         have q0:=rk [(0,802)] (xL (agB p u0 u1 u2) hr_1)
         refine di tT mX ⟨[(3,(vP 403 0)),(aY s_),qC,(xN u2),(9,(vB u6)),(10,(vI u0)),(Cq p u0),(Xx p u0 u1),(16,(vP 805 0)),(zO p),(zK p),(28,(vI u0)),(FK p u0),(49,(vI u1))],[(LG p),(405,some (bO 141 3 Way.cell u2)),(805,some (.cells 141 [(cB true),(cI (adU p u0 u1 u2)),(.d (aJ none 1 (aj .i64) (u4++[u0])))]))]⟩ [_,[u0].length=1,aC 1 1 (ig 1 [(.int .i64 u0)]) (au (aj .i64) [u0]),u4.length=u4.length,_,_,(u4++[u0]).length=u4.length+[u0].length,aC (u4.length+[u0].length) 1 (Ak (au (aj .i64) u4) u4.length (au (aj .i64) [u0])) (au (aj .i64) (u4++[u0])),(u4++[u0]).length=(u4++[u0]).length] {an:=[(7,cA q0 []),(9, .arr [u0].length (au (aj .i64) [u0])),(10, .arr (u4++[u0]).length (au (aj .i64) (u4++[u0])))],fr:=[(9,803),(10,804),(12,805)] } [804] ⟨q0,(rfl),((by intro i hi j hj;match i,j,hi,hj with|0,0,_,_=>rfl)),rfl,a1,a2,(List.length_append),(fe _ _ _ _),rfl,trivial⟩ (fz ⟨[(3,(vP 403 0)),(aY s_),qC,(xN u2),(9,(vB u6)),(10,(vI u0)),(Cq p u0),(Xx p u0 u1),(agI p u0 u1 u2 u4),(zO p),(zK p),(28,(vI u0)),(FK p u0),(49,(vI u1))],(BU u2 p)⟩ [805]) ?_
         refine aQ (bE h fun v2 hr_2 h=> ?_)
         refine aO h fun a1 h=> ?_
         have q2:=HZ (aeE p u0 u1 u2 u4) (at' u2 (acC p u0 u1)) hr_2
         refine dg tT mX ⟨[(3,(vP 403 0)),(aY s_),qC,(xN u2),(9,(vB u6)),(10,(vI u0)),(Cq p u0),(Xx p u0 u1),(agI p u0 u1 u2 u4),(zO p),(zK p),(28,(vI u0)),(FK p u0),(49,(vI u1)),(80,(vB v2))],(BU u2 p)⟩ [_,_,_] {an:=[(6,cA q2 [])] } [] ⟨a1,(tL a1),q2,trivial⟩ ?_
         refine bI h (fun hb h=> ?_) (fun hb h=> ?_)
         ·refine ct hb ?_
          refine aQ (aO h fun a1 h=> ?_)
          refine ri tT ⟨[(3,(vP 403 0)),(aY s_),qC,(xN u2),(10,(vI u0)),(Cq p u0),(zO p),(zK p),(28,(vI u0)),(FK p u0),(49,(vI u1))],[(LG p),(405,some (.arr 141 3 u2.length (ab0 p u0 u1 u2 u4)))]⟩ [_,_,aC u2.length 3 (jS (au Way.cell u2) (acC p u0 u1) 0 (aiA p u0 u1 u2 u4)) (ab0 p u0 u1 u2 u4)] {an:=[(4, .arr 0 (ab0 p u0 u1 u2 u4))] } [] ⟨a1,(tL a1),(bD _ _ _ _ _ _ _ _ rfl (fun j hj=>(match j,hj with|0,_=>rfl|1,_=>rfl|2,_=>rfl))),trivial⟩ (bG.le (st':=⟨[(3,(vP 403 0)),(aY s_),qC,(acA p u0 u1 u2 u4),(10,(vI u0)),(Cq p u0),(zO p),(zK p),(28,(vI u0)),(FK p u0),(49,(vI u1))],(adJ p u0 u1 u2 u4)⟩) ⟨⟨tR,tR,tR,⟨_,rfl,cu.v (dm.one cW)⟩,tR,tR,tR,tR,tR,tR,tR,trivial⟩,⟨rfl, .refl _,⟨rfl,oW,trivial⟩⟩⟩) ?_
          refine rz tT ⟨[(3,(vP 403 0)),(aY s_),qC,(acA p u0 u1 u2 u4),(9,(vB true)),(10,(vI u0)),(Cq p u0),(zO p),(zK p),(28,(vI u0)),(FK p u0),(49,(vI u1))],(adJ p u0 u1 u2 u4)⟩ {} [] ?_
          refine rz tT ⟨[(3,(vP 403 0)),(aY s_),qC,(acA p u0 u1 u2 u4),(9,(vB true)),(10,(vI u0)),(Cq p u0),(zO p),(zK p),(28,(vI u0)),(FK p u0),(49,(k28 u1))],(adJ p u0 u1 u2 u4)⟩ {} [] ?_
          obtain rfl:=oi h
          exact lN
         ·refine cf hb ?_
          refine aP (rz tT (aeC p s_ u0 u1 u2 u6) {} [] ?_)
          obtain rfl:=oi h
          exact lN
       ·refine cf hb2 ?_
        refine aI (fz (adk p s_ u2 u6 u0) []) ?_
        refine aX ?_
        obtain rfl:=oi h
        exact lB
      ·clear hy
       cases y with
       |brk z=>
        obtain⟨v0,v3⟩:=z
        unfold dU
        refine⟨_, .refl, ?_⟩
        refine rz tT (agM p s_ v0 v3 u0) {} [] ?_
        obtain rfl:=oi h
        exact lN
       |ret v=>
        obtain rfl:=oi h
        unfold dU
        intro e st hn ha hR
        cases e with
        |normal=>exact absurd rfl hn
        |exit id=>simp only [rC (b:=3) ha rfl,cond_false];exact hR
        |goto l=>exact hR
        |ret=>exact hR
        |panic c=>exact hR
        |outgrown=>exact hR
    ·refine cf hb4 ?_
     refine aI (fz (ab9 u5 p s_ u8) []) ?_
     refine aX ?_
     obtain rfl:=oi h
     exact lB
   ·clear hy
    cases y1 with
    |brk z=>
     obtain⟨v4,v5⟩:=z
     unfold dU
     refine⟨_, .refl, ?_⟩
     obtain rfl:=oi h
     exact lN
    |ret v=>
     obtain rfl:=oi h
     unfold dU
     intro e st hn ha hR
     cases e with
     |normal=>exact absurd rfl hn
     |exit id=>simp only [rC (b:=1) ha rfl,cond_false];exact hR
     |goto l=>exact hR
     |ret=>exact hR
     |panic c=>exact hR
     |outgrown=>exact hR
  ·refine cf hb5 ?_
   refine aI (fz ⟨[(xN u7)],[(405,some (bO 141 3 Way.cell u7))]⟩ []) ?_
   refine aX ?_
   obtain rfl:=oi h
   exact lB
 ·clear hy
  cases y2 with
  |brk z=>
   obtain⟨u9,rfl⟩: ∃q,q=z:=⟨_,rfl⟩
   unfold dU
   refine⟨_, .refl, ?_⟩
   refine sz tT ⟨[(6,(vO 405 true u9.length))],[(405,some (bO 141 3 Way.cell u9))]⟩ {} [] ?_
   refine aI (bG.fin (st':=⟨[(6,(vO 0 true u9.length))],[(0,some (bO 141 3 Way.cell u9))]⟩) (cs:=[]) ⟨[],[(405,0)]⟩ [6] (by kernel_rfl) trivial) ?_
   refine aR ?_
   obtain rfl:=oi h
   exact rl [(.one (.own 0 true u9.length))]
  |ret v=>
   obtain rfl:=oi h
   unfold dU
   intro e st hn ha hR
   cases e with
   |normal=>exact absurd rfl hn
   |exit id=>exact hR
   |goto l=>exact hR
   |ret=>exact hR
   |panic c=>exact hR
   |outgrown=>exact hR
def tH  :((List Short) × Int)→Exit→St→Prop:=
  fun r=>aU TT [.tmp 6, .tmp 7] (.gK [(sD (aJ none 4 Short.cell r.1)),(sI r.2)]) []
section
variable (u0:(List Short)) (p:ah)
abbrev LD:Nat × TV:=(9,(vO 28 false u0.length))
abbrev FM:Nat × TV:=(29,(vD (aJ none 5 Source.cell p.sources)))
abbrev GK:Nat × TV:=(30,(vI (p.sources.length:Int)))
abbrev LF:List (Nat × Option Ob):=[(28,some (bO 47 4 Short.cell u0))]
end
def zS (p:ah) (s_:State) (u1:Int):((List Short) × Int)→St:=
  fun zz=>match zz with|(u0,u2)=> ⟨[(2,(vI u1)),(bC p),(aY s_),(LD u0),(FM p),(GK p),(31,(vI u2))],(LF u0)⟩
def zN  :(List Short)→St:=
  fun u0=> ⟨[(LD u0)],(LF u0)⟩
def Ik (p:ah) (s_:State) (u0:Int):(aK ((List Short) × Int) (Ex (List Short) ((List Short) × Int)))→Exit→St→Prop:=
  LQ 0 [] (zS p s_ u0) zN tH
section
variable (p:ah) (u1:Int) (u0:Int) (s_:State) (u3:(List Short)) (u2:(List Way)) (u4:(List Short))
abbrev VY:List (Nat × Option Ob):=[(22,some (Yh p))]
abbrev NP:=(decide (u1<(p.sources.length:Int)))
abbrev Ul:=((at' p.sources u1.toNat).power)
abbrev ad9:TV:=(vD (mg [(.int .i64 (Dm p u1)),(.int .i64 ((at' p.sources u1.toNat).kind)),(.int .i64 (Ul p u1)),(.int .i64 ((at' p.sources u1.toNat).sync)),(.int .i64 ((at' p.sources u1.toNat).bg))] 0))
abbrev YG:Nat × TV:=(11,(ad9 p u1))
abbrev aji:St:=⟨[(2,(vI u0)),(bC p),(aY s_),(LD u3),(FM p),(GK p),(31,(k28 u1))],(LF u3)⟩
abbrev acp:Nat × TV:=(12,(vD (mg [(.bool ((at' u2 u0.toNat).there)),(.int .i64 ((at' u2 u0.toNat).bg)),(aJ none 1 (aj .i64) ((at' u2 u0.toNat).links))] 0)))
abbrev Xz:=(IntKind.wrap .i64 (((at' p.sources u1.toNat).bg)+((at' u2 u0.toNat).bg)))
abbrev aiO:=(IntKind.wrap .i64 (Int.tdiv (IntKind.wrap .i64 ((IntKind.wrap .i64 ((400000:Int)+(Xz p u1 u0 u2))) - 1)) (Xz p u1 u0 u2)))
abbrev Ut:=(⟨u1,(Xz p u1 u0 u2),(aiO p u1 u0 u2),(at' u2 u0.toNat).links⟩:Short)
abbrev Yd:=(u3++[(Ut p u1 u0 u2)])
abbrev aij:=((Yd p u1 u0 u3 u2).length)
abbrev agf:Nat × TV:=(9,(vO 43 false (aij p u1 u0 u3 u2)))
abbrev ahV:Ob:=(bO 47 4 Short.cell (Yd p u1 u0 u3 u2))
abbrev ahb:List (Nat × Option Ob):=[(43,some (ahV p u1 u0 u3 u2))]
abbrev acP:=(au Short.cell [(Ut p u1 u0 u2)])
abbrev afq:=(au Short.cell (Yd p u1 u0 u3 u2))
abbrev Sq:TV:=(vD (aJ none 4 Short.cell u4))
end
theorem jO (p:ah) (s_:State) (u0:Int) {r:((List Short) × Int)} (h:dL p s_ u0=some r):Fn Try.prog 17 (GV p s_ u0) [] (.gK [(sD (aJ none 4 Short.cell r.1)),(sI r.2)]) []:=by
 refine fN tT Try.func17 rfl rfl fun B=> ?_
 show bn _ _ _ _ _ _ (tH r) _
 unfold dL at h
 refine sz tT ⟨[(2,(vI u0)),(3,(vP 22 0)),(aY s_)],(VY p)⟩ {fr:=[(0,22),(1,23)] } [23] ?_
 refine aQ (aQ (bE h fun r_ hr_ h=> ?_))
 have q0:=fK p s_ hr_
 refine rg tT ⟨[(2,(vI u0)),(3,(vP 22 0)),(aY s_),(8,(vI r_))],(VY p)⟩ [_] {an:=[(2,cA q0 [])] } [] ⟨q0,trivial⟩ ?_
 refine sz tT ⟨[(2,(vI u0)),(3,(vP 22 0)),(aY s_),(8,(vI r_)),(18,(vB (!decide (r_=0))))],(VY p)⟩ {} [] ?_
 refine bI h (fun hb4 h=> ?_) (fun hb4 h=> ?_)
 ·refine ct hb4 ?_
  refine sz tT ⟨[(6,(vD nS)),(7,(vI r_))],[]⟩ {} [] ?_
  refine aI (bG.le (st':=⟨[(6,(vD (aJ none 4 Short.cell ([]:List Short)))),(7,(vI r_))],[]⟩) ⟨⟨⟨_,rfl,cu.v (dm.one (cK.d fo.nil'))⟩,tR,trivial⟩,trivial⟩) ?_
  refine aR ?_
  obtain rfl:=oi h
  exact rl [(sD (aJ none 4 Short.cell ([]:List Short))),(sI r_)]
 ·refine cf hb4 ?_
  refine aP (aQ (sg tT ⟨[(2,(vI u0)),(3,(vP 22 0)),(aY s_),(27,(vB (bif (decide (u0<0))then true else(decide (p.buses≤u0)))))],(VY p)⟩ (eqs (decide (u0<0)) 5 []) {yb:=[(2,(decide (u0<0)))] } [] (ae trivial) ?_))
  refine bI h (fun hb3 h=> ?_) (fun hb3 h=> ?_)
  ·refine ct hb3 ?_
   refine sz tT ⟨[(6,(vD nS)),(7,(vI 1))],[]⟩ {} [] ?_
   refine aI (bG.le (st':=⟨[(6,(vD (aJ none 4 Short.cell ([]:List Short)))),(7,(vI 1))],[]⟩) ⟨⟨⟨_,rfl,cu.v (dm.one (cK.d fo.nil'))⟩,tR,trivial⟩,trivial⟩) ?_
   refine aR ?_
   obtain rfl:=oi h
   exact rl [(sD (aJ none 4 Short.cell ([]:List Short))),(sI 1)]
  ·refine cf hb3 ?_
   refine aP (sz tT ⟨[(2,(vI u0)),(3,(vP 22 0)),(aY s_),(9,(vD nS))],(VY p)⟩ {} [] ?_)
   refine aQ (sz tT ⟨[(2,(vI u0)),(bC p),(aY s_),(9,(vD nS)),(FM p),(GK p),(31,(vI 0))],[]⟩ {} [22] ?_)
   refine bE h fun y hy h=> ?_
   refine aI (.trans (bG.QB (t:=9) (b:=44) (esz0:=0) (el0:=fun _ _=> .nilp) (E:=47) (esz:=4) (el:=au Short.cell ([]:List Short)) (by kernel_rfl) (by kernel_rfl)) (.trans (bG.fin (st':=⟨[(2,(vI u0)),(bC p),(aY s_),(9,(vO 28 false 0)),(FM p),(GK p),(31,(vI 0))],[(28,some (.arr 47 4 0 (au Short.cell ([]:List Short))))]⟩) (cs:=[]) ⟨[],[(44,28)]⟩ [2,3,4,9,29,30,31] (by kernel_rfl) trivial) (bG.le (st':=⟨[(2,(vI u0)),(bC p),(aY s_),(9,(vO 28 false (([]:List Short).length))),(FM p),(GK p),(31,(vI 0))],[(28,some (bO 47 4 Short.cell ([]:List Short)))]⟩) ⟨⟨tR,tR,tR,⟨_,rfl,cu.v (dm.one cW)⟩,tR,tR,tR,trivial⟩,⟨rfl,oW,trivial⟩⟩))) ?_
   refine aL [] (zS p s_ u0) zN tH hy (fun s f h=> ?_) ?_
   ·clear hy
    show bn _ _ _ _ _ _ ((Ik p s_ u0) f) _
    unfold jC at h
    obtain⟨u3,u1⟩:=s
    refine sz tT ⟨[(2,(vI u0)),(bC p),(aY s_),(LD u3),(FM p),(GK p),(31,(vI u1)),(32,(vB (NP p u1)))],(LF u3)⟩ {} [] ?_
    refine aQ ?_
    refine bI h (fun hb2 h=> ?_) (fun hb2 h=> ?_)
    ·refine ct hb2 ?_
     refine aP (aQ (aB (aQ (aO h fun a1 h=> ?_))))
     refine rg tT ⟨[(2,(vI u0)),(bC p),(aY s_),(LD u3),(10,(vI u1)),(YG p u1),(FM p),(GK p),(31,(vI u1))],(LF u3)⟩ [_] {fr:=[(3,39)] } [39] ⟨a1,trivial⟩ ?_
     refine aQ (aQ (bE h fun u5 hr_1 h=> ?_))
     refine aO h fun a1 h=> ?_
     refine rg tT ⟨[(2,(vI u0)),(bC p),(aY s_),(LD u3),(10,(vI u1)),(YG p u1),(FM p),(GK p),(31,(vI u1)),(47,(vB (bif (at' s_.badBus u0.toNat)then true else(!u5))))],(LF u3)⟩ (_::(eqs (at' s_.badBus u0.toNat) 4 ((gP (gG [(5,(at' s_.badBus u0.toNat))]) [(5,false)]→All [Fn Try.prog 65 (GV p s_ u1) [] (vB u5) []])::(eqs (at' s_.badBus u0.toNat) 2 [])))) {yb:=[(5,(at' s_.badBus u0.toNat))],an:=[(9, .call [] (vB u5) [])] } [] ⟨a1,(ae ⟨(fun hg=> ⟨(fE p s_ u1 (dJ hr_1 (aN hg))),trivial⟩),(ae trivial)⟩)⟩ ?_
     refine bI h (fun hb1 h=> ?_) (fun hb1 h=> ?_)
     ·refine ct hb1 ?_
      refine aX (rz tT (aji p u1 u0 s_ u3) {} [] ?_)
      obtain rfl:=oi h
      exact lN
     ·refine cf hb1 ?_
      refine aP (aQ (bE h fun u2 hr_2 h=> ?_))
      refine aO h fun a1 h=> ?_
      have q0:=rk [(0,40)] (GQ p s_ (Dm p u1) hr_2)
      refine rg tT ⟨[(2,(vI u0)),(bC p),(aY s_),(LD u3),(10,(vI u1)),(YG p u1),(acp u0 u2),(FM p),(GK p),(31,(vI u1))],(LF u3)⟩ [_,_,_] {an:=[(4,cA q0 [])],fr:=[(8,41)] } [41] ⟨q0,a1,(tL a1),trivial⟩ ?_
      refine sz tT ⟨[(2,(vI u0)),(bC p),(aY s_),(LD u3),(10,(vI u1)),(YG p u1),(acp u0 u2),(FM p),(GK p),(31,(vI u1)),(57,(vB ((at' u2 u0.toNat).there)))],(LF u3)⟩ {} [] ?_
      refine bI h (fun hb h=> ?_) (fun hb h=> ?_)
      ·refine ct hb ?_
       refine sz tT ⟨[(2,(vI u0)),(bC p),(aY s_),(LD u3),(10,(vI u1)),(acp u0 u2),(13,(vI (Xz p u1 u0 u2))),(FM p),(GK p),(31,(vI u1))],(LF u3)⟩ {} [] ?_
       refine aO h fun⟨a1,a2,a3⟩ h=> ?_
       refine dg tT mX ⟨[(2,(vI u0)),(bC p),(aY s_),(agf p u1 u0 u3 u2),(FM p),(GK p),(31,(vI u1))],(ahb p u1 u0 u3 u2)⟩ [_,[(Ut p u1 u0 u2)].length=1,aC 1 4 (ig 4 [(.int .i64 u1),(.int .i64 (Xz p u1 u0 u2)),(.int .i64 (aiO p u1 u0 u2)),(aJ none 1 (aj .i64) ((at' u2 u0.toNat).links))]) (acP p u1 u0 u2),u3.length=u3.length,_,_,(Yd p u1 u0 u3 u2).length=u3.length+[(Ut p u1 u0 u2)].length,aC (u3.length+[(Ut p u1 u0 u2)].length) 4 (Ak (au Short.cell u3) u3.length (acP p u1 u0 u2)) (afq p u1 u0 u3 u2)] {an:=[(11, .arr [(Ut p u1 u0 u2)].length (acP p u1 u0 u2)),(12, .arr (Yd p u1 u0 u3 u2).length (afq p u1 u0 u3 u2))],fr:=[(11,42),(12,43)] } [] ⟨a1,(rfl),((by intro i hi j hj;match i,j,hi,hj with|0,0,_,_=>rfl|0,1,_,_=>rfl|0,2,_,_=>rfl|0,3,_,_=>rfl)),rfl,a2,a3,(List.length_append),(fe _ _ _ _),trivial⟩ ?_
       refine ri tT ⟨[(2,(vI u0)),(bC p),(aY s_),(agf p u1 u0 u3 u2),(FM p),(GK p),(31,(k28 u1))],(ahb p u1 u0 u3 u2)⟩ [] {} [] trivial (bG.fin (st':=⟨[(2,(vI u0)),(bC p),(aY s_),(9,(vO 28 false (aij p u1 u0 u3 u2))),(FM p),(GK p),(31,(k28 u1))],[(28,some (ahV p u1 u0 u3 u2))]⟩) (cs:=[]) ⟨[],[(43,28)]⟩ [2,3,4,9,29,30,31] (by kernel_rfl) trivial) ?_
       obtain rfl:=oi h
       exact lN
      ·refine cf hb ?_
       refine aP (rz tT (aji p u1 u0 s_ u3) {} [] ?_)
       obtain rfl:=oi h
       exact lN
    ·refine cf hb2 ?_
     refine aI (fz ⟨[(LD u3)],(LF u3)⟩ []) ?_
     refine aX ?_
     obtain rfl:=oi h
     exact lB
   ·clear hy
    cases y with
    |brk z=>
     obtain⟨u4,rfl⟩: ∃q,q=z:=⟨_,rfl⟩
     unfold dU
     refine⟨_, .refl, ?_⟩
     refine sg tT ⟨[(6,(Sq u4)),(7,(vI 0))],[]⟩ [u4.length=u4.length] {} [28] ⟨rfl,trivial⟩ ?_
     refine aR ?_
     obtain rfl:=oi h
     exact rl [(sD (aJ none 4 Short.cell u4)),(sI 0)]
    |ret v=>
     obtain rfl:=oi h
     unfold dU
     intro e st hn ha hR
     cases e with
     |normal=>exact absurd rfl hn
     |exit id=>exact hR
     |goto l=>exact hR
     |ret=>exact hR
     |panic c=>exact hR
     |outgrown=>exact hR
def rM  :Int→Exit→St→Prop:=
  fun r=>aU TT [.tmp 4] (vI r) []
def yF (s_:(List Int)) (v_:Int):Int→St:=
  fun t8=> ⟨[(jZ s_),(1,(vI v_)),(o9 s_),(8,(vI t8))],[]⟩
def yL  :Unit→St:=
  fun _=> ⟨[],[]⟩
def GJ (s_:(List Int)) (v_:Int):(aK Int (Ex Unit Int))→Exit→St→Prop:=
  LQ 0 [] (yF s_ v_) yL rM
theorem Ga (s_:(List Int)) (v_:Int) {r:Int} (h:qi s_ v_=some r):Fn Try.prog 114 [(sD (y7 s_)),(sI v_)] [] (vI r) []:=by
 refine fN tT Try.func114 rfl rfl fun B=> ?_
 show bn _ _ _ _ _ _ (rM r) _
 unfold qi at h
 refine sz tT ⟨[(jZ s_),(1,(vI v_))],[]⟩ {} [] ?_
 refine aQ (sz tT ⟨[(jZ s_),(1,(vI v_)),(o9 s_),(8,(vI 0))],[]⟩ {} [] ?_)
 refine bE h fun y hy h=> ?_
 refine aL [] (yF s_ v_) yL rM hy (fun s f h=> ?_) ?_
 ·clear hy
  show bn _ _ _ _ _ _ ((GJ s_ v_) f) _
  unfold lg at h
  obtain⟨t8,rfl⟩: ∃q,q=s:=⟨_,rfl⟩
  refine sz tT ⟨[(jZ s_),(1,(vI v_)),(o9 s_),(8,(vI t8)),(Wq t8 s_)],[]⟩ {} [] ?_
  refine aQ ?_
  refine bI h (fun hb1 h=> ?_) (fun hb1 h=> ?_)
  ·refine ct hb1 ?_
   refine aP (aQ (aB (sz tT ⟨[(jZ s_),(1,(vI v_)),(5,(vI t8)),(o9 s_),(8,(vI t8))],[]⟩ {} [] ?_)))
   refine aQ (aO h fun a1 h=> ?_)
   refine rg tT ⟨[(jZ s_),(1,(vI v_)),(5,(vI t8)),(o9 s_),(8,(vI t8)),(16,(vB (decide (v_=(at' s_ t8.toNat)))))],[]⟩ [_] {} [] ⟨a1,trivial⟩ ?_
   refine bI h (fun hb h=> ?_) (fun hb h=> ?_)
   ·refine ct hb ?_
    refine sz tT ⟨[(4,(vI t8))],[]⟩ {} [] ?_
    refine aR ?_
    obtain rfl:=oi h
    exact lR bS (bT 0) bR (aU.mk (.inr rfl) (p:=[]) (l:=[(sI t8)]) (by kernel_rfl) trivial (cu.refl _) trivial)
   ·refine cf hb ?_
    refine aP (rz tT ⟨[(jZ s_),(1,(vI v_)),(o9 s_),(k27 t8)],[]⟩ {} [] ?_)
    obtain rfl:=oi h
    exact lN
  ·refine cf hb1 ?_
   refine aI (fz ⟨[],[]⟩ []) ?_
   refine aX ?_
   obtain rfl:=oi h
   exact lB
 ·clear hy
  cases y with
  |brk z=>
   unfold dU
   refine⟨_, .refl, ?_⟩
   refine sz tT ⟨[(4,(vI (-1)))],[]⟩ {} [] ?_
   refine aR ?_
   obtain rfl:=oi h
   exact rl [(sI (-1))]
  |ret v=>
   obtain rfl:=oi h
   unfold dU
   intro e st hn ha hR
   cases e with
   |normal=>exact absurd rfl hn
   |exit id=>exact hR
   |goto l=>exact hR
   |ret=>exact hR
   |panic c=>exact hR
   |outgrown=>exact hR
def D8  :Bool→Exit→St→Prop:=
  fun r=>aU TT [.tmp 4] (vB r) []
theorem CY (s_:(List Int)) (v_:Int) {r:Bool} (h:jb s_ v_=some r):Fn Try.prog 69 [(sD (y7 s_)),(sI v_)] [] (vB r) []:=by
 refine fN tT Try.func69 rfl rfl fun B=> ?_
 show bn _ _ _ _ _ _ (D8 r) _
 unfold jb at h
 refine sz tT ⟨[(jZ s_),(1,(vI v_))],[]⟩ {} [] ?_
 refine aQ (bE h fun r_ hr_ h=> ?_)
 have q0:=Ga s_ v_ hr_
 refine rg tT (k29 r_) [_] {an:=[(2,cA q0 [])] } [] ⟨q0,trivial⟩ ?_
 refine aR ?_
 obtain rfl:=oi h
 exact rl [(sB (decide (0≤r_)))]
section
variable (o_:(List Int))
abbrev CO:Ob:=(bO 3 1 (aj .i64) o_)
abbrev xJ:List (Nat × Option Ob):=[(0,some (.cells 40 [(.own 1 true o_.length)])),(1,some (CO o_))]
end
def Ev (o_:(List Int)):Bool→Exit→St→Prop:=
  fun r=>aU TT [.tmp 3] (vB r) (xJ o_)
theorem Dx (i:Int) (o_:(List Int)) {r:Bool} (h:ny i o_=some r):Fn Try.prog 68 [(sI i),(.one (.ptr 0 0))] (xJ o_) (vB r) (xJ o_):=by
 refine fN tT Try.func68 rfl rfl fun B=> ?_
 show bn _ _ _ _ _ _ ((Ev o_) r) _
 unfold ny at h
 refine sz tT ⟨[(0,(vI i)),(1,(vP 0 0))],(xJ o_)⟩ {} [] ?_
 refine sg tT ⟨[(3,(vB (bif (decide (i<0))then true else(decide ((o_.length:Int)≤i)))))],(xJ o_)⟩ (eqs (decide (i<0)) 5 []) {yb:=[(2,(decide (i<0)))] } [] (ae trivial) ?_
 refine aR ?_
 obtain rfl:=oi h
 exact rl [(sB (bif (decide (i<0))then true else(decide ((o_.length:Int)≤i))))]
def jX (o_:(List Int)):Int→Exit→St→Prop:=
  fun r=>aU TT [.tmp 4] (vI r) (xJ o_)
abbrev Q8:Nat × TV:=(1,(.v (.one (.fn 68 0 1 (C9 [(.ptr 0 0)])))))
def om (s_:(List Int)) (o_:(List Int)):Int→St:=
  fun t8=> ⟨[(jZ s_),Q8,(o9 s_),(8,(vI t8))],(xJ o_)⟩
section
variable (o_:(List Int))
abbrev afZ:St:=⟨[],(xJ o_)⟩
end
def ow (o_:(List Int)):Unit→St:=
  fun _=>(afZ o_)
def y9 (s_:(List Int)) (o_:(List Int)):(aK Int (Ex Unit Int))→Exit→St→Prop:=
  LQ 0 [] (om s_ o_) (ow o_) (jX o_)
section
variable (s_:(List Int)) (o_:(List Int))
abbrev ae0:St:=⟨[(jZ s_),Q8],(xJ o_)⟩
end
theorem yS (s_:(List Int)) (o_:(List Int)) {r:Int} (h:iL s_ o_=some r):Fn Try.prog 113 [(sD (y7 s_)),(.one (.fn 68 0 1 (C9 [(.ptr 0 0)])))] (xJ o_) (vI r) (xJ o_):=by
 refine fN tT Try.func113 rfl rfl fun B=> ?_
 show bn _ _ _ _ _ _ ((jX o_) r) _
 unfold iL at h
 refine sz tT (ae0 s_ o_) {} [] ?_
 refine aQ (sz tT ⟨[(jZ s_),Q8,(o9 s_),(8,(vI 0))],(xJ o_)⟩ {} [] ?_)
 refine bE h fun y hy h=> ?_
 refine aL [] (om s_ o_) (ow o_) (jX o_) hy (fun s f h=> ?_) ?_
 ·clear hy
  show bn _ _ _ _ _ _ ((y9 s_ o_) f) _
  unfold fU at h
  obtain⟨t8,rfl⟩: ∃q,q=s:=⟨_,rfl⟩
  refine sz tT ⟨[(jZ s_),Q8,(o9 s_),(8,(vI t8)),(Wq t8 s_)],(xJ o_)⟩ {} [] ?_
  refine aQ ?_
  refine bI h (fun hb1 h=> ?_) (fun hb1 h=> ?_)
  ·refine ct hb1 ?_
   refine aP (aQ (aB (sz tT ⟨[(jZ s_),Q8,(5,(vI t8)),(o9 s_),(8,(vI t8))],(xJ o_)⟩ {} [] ?_)))
   refine aQ (bE h fun r_ hr_ h=> ?_)
   refine aO h fun a1 h=> ?_
   have q1:=Dx (at' s_ t8.toNat) o_ hr_
   refine rg tT ⟨[(jZ s_),Q8,(5,(vI t8)),(o9 s_),(8,(vI t8)),(16,(vB r_))],(xJ o_)⟩ [_,_] {an:=[(5,cR q1 [0,1])] } [] ⟨a1,q1,trivial⟩ ?_
   refine bI h (fun hb h=> ?_) (fun hb h=> ?_)
   ·refine ct hb ?_
    refine sz tT ⟨[(4,(vI t8))],(xJ o_)⟩ {} [] ?_
    refine aR ?_
    obtain rfl:=oi h
    exact lR bS (bT 0) bR (aU.mk (.inr rfl) (p:=[]) (l:=[(sI t8)]) (by kernel_rfl) trivial (cu.refl _) (.refl _))
   ·refine cf hb ?_
    refine aP (rz tT ⟨[(jZ s_),Q8,(o9 s_),(k27 t8)],(xJ o_)⟩ {} [] ?_)
    obtain rfl:=oi h
    exact lN
  ·refine cf hb1 ?_
   refine aI (fz (afZ o_) []) ?_
   refine aX ?_
   obtain rfl:=oi h
   exact lB
 ·clear hy
  cases y with
  |brk z=>
   unfold dU
   refine⟨_, .refl, ?_⟩
   refine sz tT ⟨[(4,(vI (-1)))],(xJ o_)⟩ {} [] ?_
   refine aR ?_
   obtain rfl:=oi h
   exact rl [(sI (-1))]
  |ret v=>
   obtain rfl:=oi h
   unfold dU
   intro e st hn ha hR
   cases e with
   |normal=>exact absurd rfl hn
   |exit id=>exact hR
   |goto l=>exact hR
   |ret=>exact hR
   |panic c=>exact hR
   |outgrown=>exact hR
def xM (o_:(List Int)):Bool→Exit→St→Prop:=
  fun r=>aU TT [.tmp 4] (vB r) (xJ o_)
theorem wP (s_:(List Int)) (o_:(List Int)) {r:Bool} (h:eZ s_ o_=some r):Fn Try.prog 67 [(sD (y7 s_)),(.one (.fn 68 0 1 (C9 [(.ptr 0 0)])))] (xJ o_) (vB r) (xJ o_):=by
 refine fN tT Try.func67 rfl rfl fun B=> ?_
 show bn _ _ _ _ _ _ ((xM o_) r) _
 unfold eZ at h
 refine sz tT (ae0 s_ o_) {} [] ?_
 refine aQ (bE h fun r_ hr_ h=> ?_)
 have q0:=yS s_ o_ hr_
 refine rg tT ⟨[(4,(vB (decide (0≤r_))))],(xJ o_)⟩ [_] {an:=[(2,cR q0 [0,1])] } [] ⟨q0,trivial⟩ ?_
 refine aR ?_
 obtain rfl:=oi h
 exact rl [(sB (decide (0≤r_)))]
def rA  :((List Int) × Bool × Int)→Exit→St→Prop:=
  fun r=>aU TT [.tmp 4, .tmp 5] (.gK [(sD (aJ (some r.2.1) 1 (aj .i64) r.1)),(sI r.2.2)]) []
section
variable (l:(List Short)) (u0:(List Int)) (u1:Int)
abbrev JA:Nat × TV:=(23,(Sq l))
abbrev Jo:Nat × TV:=(24,(vI (l.length:Int)))
abbrev Jh:List (Nat × Option Ob):=[(8,some (CO u0)),(9,some (.cells 40 [(.own 8 true u0.length)]))]
abbrev adK:St:=⟨[(7,(vP 9 0)),(JA l),(Jo l),(25,(vI u1))],(Jh u0)⟩
end
def yJ (l:(List Short)):((List Int) × Int)→St:=
  fun zz=>match zz with|(u0,u1)=>(adK l u0 u1)
section
variable (u0:(List Int))
abbrev ahj:St:=⟨[(7,(vP 9 0))],(Jh u0)⟩
end
def yh  :(List Int)→St:=
  fun u0=>(ahj u0)
def p9 (l:(List Short)):(aK ((List Int) × Int) (Ex (List Int) ((List Int) × Bool × Int)))→Exit→St→Prop:=
  LQ 0 [] (yJ l) yh rA
section
variable (l:(List Short)) (u0:Int) (u2:(List Int)) (u3:Int)
abbrev YC:DV:=(aJ none 1 (aj .i64) ((at' l u0.toNat).links))
abbrev aiD:List DV:=[(.int .i64 ((at' l u0.toNat).source)),(.int .i64 ((at' l u0.toNat).bg)),(.int .i64 ((at' l u0.toNat).amps)),(YC l u0)]
abbrev PV:Nat × TV:=(9,(vD (mg (aiD l u0) 0)))
abbrev Ux:Nat × TV:=(44,(vI (u2.length:Int)))
abbrev aco:List (Nat × TV):=[(7,(vP 9 0)),(PV l u0),(JA l),(Jo l),(25,(vI u0)),(Ux u2),(45,(vI u3))]
end
def xO (l:(List Short)) (u2:(List Int)) (u0:Int):((List Int) × Int)→St:=
  fun zz=>match zz with|(u1,u3)=> ⟨(aco l u0 u2 u3),(Jh u1)⟩
def xU (l:(List Short)) (u1:Int):(List Int)→St:=
  fun u0=>(adK l u0 u1)
def FB (l:(List Short)) (u1:(List Int)) (u0:Int):(aK ((List Int) × Int) (Ex (List Int) (aK ((List Int) × Int) (Ex (List Int) ((List Int) × Bool × Int)))))→Exit→St→Prop:=
  LQ 2 [1] (xO l u1 u0) (xU l u0) (p9 l)
section
variable (p:ah) (l:(List Short)) (r_:Int) (u0:Int) (u1:(List Int)) (u2:Int) (u3:(List Int)) (u4:(List Int))
abbrev aie:List SV:=[(.agg (k1 p)),(sD (aJ none 4 Short.cell l))]
abbrev mo:Nat × TV:=(1,(Sq l))
abbrev jH:Nat × TV:=(2,(k5 p))
abbrev aiY:St:=⟨[(mo l),(jH p)],[]⟩
abbrev ajq:St:=⟨[(mo l),(jH p),(6,(vI r_))],[]⟩
abbrev TW:DV:=(aJ (some false) 1 (aj .i64) ([]:List Int))
abbrev WA:St:=⟨[(4,(vD nS)),(5,(vI 1))],[]⟩
abbrev JC:=((p.links.length:Int).toNat)
abbrev Ke:=(List.replicate (JC p) (0:Int))
abbrev ZW:Ob:=(bO 3 1 (aj .i64) (Ke p))
abbrev RL:=((Ke p).length)
abbrev ahp:List (Nat × Option Ob):=[(8,some (ZW p)),(9,some (.cells 40 [(.own 8 true (RL p))]))]
abbrev WC:=((p.links.length:Int):Int)
abbrev OA:=(au (aj .i64) (Ke p))
abbrev OM:=(decide (((at' l u0.toNat).amps)<0))
abbrev SA:=(bif (OM l u0)then true else(decide (1000000<((at' l u0.toNat).amps))))
abbrev VQ:=(u1.set u2.toNat (IntKind.wrap .i64 ((at' u1 u2.toNat)+((at' l u0.toNat).amps))))
abbrev Uf:=(au (aj .i64) (VQ l u0 u1 u2))
abbrev aeP:=(jS (au (aj .i64) u1) u2.toNat 0 [(.int .i64 (IntKind.wrap .i64 ((at' u1 u2.toNat)+((at' l u0.toNat).amps))))])
abbrev ahM:List (Nat × Option Ob):=[(8,some (bO 3 1 (aj .i64) (VQ l u0 u1 u2))),(9,some (.cells 40 [(.own 8 true ((VQ l u0 u1 u2).length))]))]
abbrev aiW:List (Nat × TV):=[(7,(vP 9 0)),(PV l u0),(JA l),(Jo l),(25,(vI u0)),(Ux u3),(45,(k28 u2))]
abbrev Rf:DV:=(aJ (some true) 1 (aj .i64) u4)
end
theorem gJ (p:ah) (l:(List Short)) {r:((List Int) × Bool × Int)} (h:eD p l=some r):Fn Try.prog 18 (aie p l) [] (.gK [(sD (aJ (some r.2.1) 1 (aj .i64) r.1)),(sI r.2.2)]) []:=by
 refine fN tT Try.func18 rfl rfl fun B=> ?_
 show bn _ _ _ _ _ _ (rA r) _
 unfold eD at h
 refine sz tT (aiY p l) {fr:=[(0,7)] } [7] ?_
 refine aQ (aQ (bE h fun r_ hr_ h=> ?_))
 have q0:=zH p hr_
 refine rg tT (ajq p l r_) [_] {an:=[(1,cA q0 [])] } [] ⟨q0,trivial⟩ ?_
 refine sz tT ⟨[(mo l),(jH p),(6,(vI r_)),(14,(vB (!decide (r_=0))))],[]⟩ {} [] ?_
 refine bI h (fun hb5 h=> ?_) (fun hb5 h=> ?_)
 ·refine ct hb5 ?_
  refine sz tT ⟨[(4,(vD nS)),(5,(vI r_))],[]⟩ {} [] ?_
  refine aI (bG.le (st':=⟨[(4,(vD TW)),(5,(vI r_))],[]⟩) ⟨⟨⟨_,rfl,cu.v (dm.one (cK.d fo.Xw))⟩,tR,trivial⟩,trivial⟩) ?_
  refine aR ?_
  obtain rfl:=oi h
  exact rl [(sD TW),(sI r_)]
 ·refine cf hb5 ?_
  refine aP (aQ (sz tT ⟨[(mo l),(jH p),(18,(vB (decide (8<(l.length:Int)))))],[]⟩ {} [] ?_))
  refine bI h (fun hb4 h=> ?_) (fun hb4 h=> ?_)
  ·refine ct hb4 ?_
   refine sz tT WA {} [] ?_
   refine aI (bG.le (st':=⟨[(4,(vD TW)),(5,(vI 1))],[]⟩) ⟨⟨⟨_,rfl,cu.v (dm.one (cK.d fo.Xw))⟩,tR,trivial⟩,trivial⟩) ?_
   refine aR ?_
   obtain rfl:=oi h
   exact rl [(sD TW),(sI 1)]
  ·refine cf hb4 ?_
   refine aP (aQ (aO h fun⟨a1,a2,a3⟩ h=> ?_))
   refine rg tT ⟨[(mo l),(7,(vP 9 0))],(ahp p)⟩ [_,(WC p)=(p.links.length:Int),_,_,(Ke p).length=(JC p),aC (JC p) 1 (fun _ j=>[(.int .i64 0)].getD j .nilp) (OA p)] {an:=[(3, .arr (Ke p).length (OA p))],fr:=[(3,8),(4,9)] } [] ⟨a1,rfl,a2,a3,(List.length_replicate),(cZ _ _ _ _ _ (fun j hj=>(match j,hj with|0,_=>rfl))),trivial⟩ ?_
   refine aQ (sz tT ⟨[(7,(vP 9 0)),(JA l),(Jo l),(25,(vI 0))],(ahp p)⟩ {} [] ?_)
   refine bE h fun y1 hy h=> ?_
   refine aL [] (yJ l) yh rA hy (fun s f h=> ?_) ?_
   ·clear hy
    show bn _ _ _ _ _ _ ((p9 l) f) _
    unfold dW at h
    obtain⟨u3,u0⟩:=s
    refine sz tT ⟨[(7,(vP 9 0)),(JA l),(Jo l),(25,(vI u0)),(26,(vB (decide (u0<(l.length:Int)))))],(Jh u3)⟩ {} [] ?_
    refine aQ ?_
    refine bI h (fun hb3 h=> ?_) (fun hb3 h=> ?_)
    ·refine ct hb3 ?_
     refine aP (aQ (aB (aQ (aO h fun a1 h=> ?_))))
     refine rg tT ⟨[(7,(vP 9 0)),(PV l u0),(JA l),(Jo l),(25,(vI u0))],(Jh u3)⟩ [_] {fr:=[(2,13)] } [13] ⟨a1,trivial⟩ ?_
     refine aQ (aQ (bE h fun u5 hr_1 h=> ?_))
     refine rg tT ⟨[(7,(vP 9 0)),(PV l u0),(JA l),(Jo l),(25,(vI u0)),(42,(vB (bif (SA l u0)then true else u5)))],(Jh u3)⟩ (eqs (OM l u0) 4 (eqs (SA l u0) 4 [gP (gG [(3,(OM l u0)),(8,(SA l u0))]) [(8,false)]→All [Fn Try.prog 67 [(sD (YC l u0)),(.one (.fn 68 0 1 (C9 [(.ptr 9 0)])))] [(9,some (.cells 40 [(.own 8 true u3.length)])),(8,some (CO u3))] (vB u5) [(9,some (.cells 40 [(.own 8 true u3.length)])),(8,some (CO u3))]],(SA l u0)=(SA l u0)])) {yb:=[(3,(OM l u0)),(8,(SA l u0))],an:=[(12, .callR [9,8] (vB u5))] } [] (ae (ae ⟨(fun hg=> ⟨(rK [(0,9),(1,8)] (wP ((at' l u0.toNat).links) u3 (dJ hr_1 (aN hg)))),trivial⟩),rfl,trivial⟩)) ?_
     refine bI h (fun hb2 h=> ?_) (fun hb2 h=> ?_)
     ·refine ct hb2 ?_
      refine sz tT WA {} [] ?_
      refine aI (bG.le (st':=⟨[(4,(vD TW)),(5,(vI 1))],[]⟩) ⟨⟨⟨_,rfl,cu.v (dm.one (cK.d fo.Xw))⟩,tR,trivial⟩,trivial⟩) ?_
      refine aR ?_
      obtain rfl:=oi h
      exact lR bS (bT 0) bR (aU.mk (.inr rfl) (p:=[]) (l:=[(sD TW),(sI 1)]) (by kernel_rfl) trivial (cu.refl _) trivial)
     ·refine cf hb2 ?_
      refine aP (sz tT ⟨[(7,(vP 9 0)),(PV l u0),(JA l),(Jo l),(25,(vI u0)),(Ux u3),(45,(vI 0))],(Jh u3)⟩ {} [] ?_)
      refine bE h fun y hy h=> ?_
      refine aL [1] (xO l u3 u0) (xU l u0) (p9 l) hy (fun s f h=> ?_) ?_
      ·clear hy
       show bn _ _ _ _ _ _ ((FB l u3 u0) f) _
       unfold gH at h
       obtain⟨u1,u2⟩:=s
       refine sz tT ⟨[(7,(vP 9 0)),(PV l u0),(JA l),(Jo l),(25,(vI u0)),(Ux u3),(45,(vI u2)),(46,(Rs u2 u3))],(Jh u1)⟩ {} [] ?_
       refine aQ ?_
       refine bI h (fun hb1 h=> ?_) (fun hb1 h=> ?_)
       ·refine ct hb1 ?_
        refine aP (aQ (aB (sz tT ⟨[(7,(vP 9 0)),(PV l u0),(10,(vI u2)),(JA l),(Jo l),(25,(vI u0)),(Ux u3),(45,(vI u2))],(Jh u1)⟩ {} [] ?_)))
        refine aQ (bE h fun u7 hr_2 h=> ?_)
        have q0:=CY ((at' l u0.toNat).links) u2 hr_2
        refine rg tT ⟨[(7,(vP 9 0)),(PV l u0),(10,(vI u2)),(JA l),(Jo l),(25,(vI u0)),(Ux u3),(45,(vI u2)),(51,(vB u7))],(Jh u1)⟩ [_] {an:=[(3,cA q0 [])] } [] ⟨q0,trivial⟩ ?_
        refine bI h (fun hb h=> ?_) (fun hb h=> ?_)
        ·refine ct hb ?_
         refine aO h fun a1 h=> ?_
         refine di tT mX ⟨(aco l u0 u3 u2),[(8,some (.arr 3 1 u1.length (Uf l u0 u1 u2))),(9,some (.cells 40 [(.own 8 true u1.length)]))]⟩ [_,_,_,_,aC u1.length 1 (aeP l u0 u1 u2) (Uf l u0 u1 u2)] {an:=[(8, .arr 0 (Uf l u0 u1 u2))] } [] ⟨a1,(tL a1),a1,(tL a1),(bD _ _ _ _ _ _ _ _ rfl (fun j hj=>(match j,hj with|0,_=>rfl))),trivial⟩ (bG.le (st':=⟨(aco l u0 u3 u2),(ahM l u0 u1 u2)⟩) ⟨⟨tR,tR,tR,tR,tR,tR,tR,trivial⟩,⟨rfl,oW,⟨rfl,bB ⟨cW,trivial⟩,trivial⟩⟩⟩) ?_
         refine rz tT ⟨(aiW l u0 u2 u3),(ahM l u0 u1 u2)⟩ {} [] ?_
         obtain rfl:=oi h
         exact lN
        ·refine cf hb ?_
         refine aP (rz tT ⟨(aiW l u0 u2 u3),(Jh u1)⟩ {} [] ?_)
         obtain rfl:=oi h
         exact lN
       ·refine cf hb1 ?_
        refine aI (fz (adK l u1 u0) []) ?_
        refine aX ?_
        obtain rfl:=oi h
        exact lB
      ·clear hy
       cases y with
       |brk z=>
        obtain⟨u6,rfl⟩: ∃q,q=z:=⟨_,rfl⟩
        unfold dU
        refine⟨_, .refl, ?_⟩
        refine rz tT ⟨[(7,(vP 9 0)),(JA l),(Jo l),(25,(k28 u0))],(Jh u6)⟩ {} [] ?_
        obtain rfl:=oi h
        exact lN
       |ret v=>
        obtain rfl:=oi h
        unfold dU
        intro e st hn ha hR
        cases e with
        |normal=>exact absurd rfl hn
        |exit id=>simp only [rC (b:=1) ha rfl,cond_false];exact hR
        |goto l=>exact hR
        |ret=>exact hR
        |panic c=>exact hR
        |outgrown=>exact hR
    ·refine cf hb3 ?_
     refine aI (fz (ahj u3) []) ?_
     refine aX ?_
     obtain rfl:=oi h
     exact lB
   ·clear hy
    cases y1 with
    |brk z=>
     obtain⟨u4,rfl⟩: ∃q,q=z:=⟨_,rfl⟩
     unfold dU
     refine⟨_, .refl, ?_⟩
     refine sg tT ⟨[(4,(vD (Rf u4))),(5,(vI 0))],[]⟩ [u4.length=u4.length] {} [8] ⟨rfl,trivial⟩ ?_
     refine aR ?_
     obtain rfl:=oi h
     exact rl [(sD (Rf u4)),(sI 0)]
    |ret v=>
     obtain rfl:=oi h
     unfold dU
     intro e st hn ha hR
     cases e with
     |normal=>exact absurd rfl hn
     |exit id=>exact hR
     |goto l=>exact hR
     |ret=>exact hR
     |panic c=>exact hR
     |outgrown=>exact hR
def wH  :Bool→Exit→St→Prop:=
  fun r=>aU TT [.tmp 4] (vB r) []
section
variable (x:Link)
abbrev LB:List (Nat × Option Ob):=[(7,some (k36 x))]
end
def Br (x:Link):Int→St:=
  fun i=> ⟨[(3,(vP 7 0)),(5,(vI i))],(LB x)⟩
def Bu  :Unit→St:=
  fun _=> ⟨[],[]⟩
def Jf (x:Link):(aK Int (Ex Unit Bool))→Exit→St→Prop:=
  LQ 0 [] (Br x) Bu wH
section
variable (x:Link) (p:ah) (i:Int)
abbrev aby:=(bif (decide (x.a<0))then true else(decide (p.buses≤x.a)))
abbrev abB:=(bif (aby x p)then true else(decide (x.b<0)))
abbrev adu:=(bif (abB x p)then true else(decide (p.buses≤x.b)))
abbrev adL:=(bif (adu x p)then true else(decide (x.a=x.b)))
abbrev adP:=(bif (adL x p)then true else(decide (x.kind<1)))
abbrev ade:=(bif (adP x p)then true else(decide (3<x.kind)))
abbrev acK:=(bif (ade x p)then true else(decide (x.most<1)))
abbrev abE:=(bif (acK x p)then true else(decide (100000<x.most)))
abbrev abf:=(bif (abE x p)then true else(decide (x.bg<10)))
abbrev PN:=(decide (6<(x.trip.length:Int)))
abbrev TQ:=(decide (0<(x.trip.length:Int)))
abbrev afg:Nat × TV:=(6,(k42 x i))
abbrev acD:=(bif (decide (((at' x.trip i.toNat).amps)<1))then true else(decide (1000000<((at' x.trip i.toNat).amps))))
abbrev adq:=(bif (acD x i)then true else(decide ((k43 x i)<1)))
abbrev acO:=(gG [(2,(decide (0<i))),(13,(Vf x i))])
abbrev Ru:Nat × TV:=(5,(k28 i))
end
theorem Jp (p:ah) (x:Link) {r:Bool} (h:pW p x=some r):Fn Try.prog 118 [(.agg (k1 p)),(.agg (k34 x))] [] (vB r) []:=by
 refine fN tT Try.func118 rfl rfl fun B=> ?_
 show bn _ _ _ _ _ _ (wH r) _
 unfold pW at h
 refine sz tT ⟨[(jH p),(3,(vP 7 0))],(LB x)⟩ {fr:=[(0,6),(1,7)] } [6] ?_
 refine aQ (sg tT ⟨[(3,(vP 7 0)),(65,(vB (bif (abf x p)then true else(decide (100000<x.bg)))))],(LB x)⟩ (eqs (decide (x.a<0)) 6 (eqs (aby x p) 4 (eqs (abB x p) 6 (eqs (adu x p) 6 (eqs (adL x p) 4 (eqs (adP x p) 4 (eqs (ade x p) 4 (eqs (acK x p) 4 (eqs (abE x p) 4 (eqs (abf x p) 4 [])))))))))) {yb:=[(3,(decide (x.a<0))),(10,(aby x p)),(15,(abB x p)),(22,(adu x p)),(29,(adL x p)),(34,(adP x p)),(39,(ade x p)),(44,(acK x p)),(49,(abE x p)),(54,(abf x p))] } [] (ae (ae (ae (ae (ae (ae (ae (ae (ae (ae trivial)))))))))) ?_)
 refine bI h (fun hb4 h=> ?_) (fun hb4 h=> ?_)
 ·refine ct hb4 ?_
  refine sz tT ⟨[(4,(vB false))],[]⟩ {} [] ?_
  refine aR ?_
  obtain rfl:=oi h
  exact rl [(sB false)]
 ·refine cf hb4 ?_
  refine aP (aQ (sg tT ⟨[(3,(vP 7 0)),(80,(vB (bif (PN x)then true else(bif (TQ x)then(!decide (x.kind=3))else false))))],(LB x)⟩ (eqs (PN x) 5 (eqs (TQ x) 3 [(PN x)=(PN x),gP (gG [(4,(PN x)),(9,(TQ x))]) [(4,false)]→All [(TQ x)=(TQ x)],(PN x)=(PN x)])) {yb:=[(4,(PN x)),(9,(TQ x))] } [] (ae (ae ⟨rfl,(fun hg=> ⟨rfl,trivial⟩),rfl,trivial⟩)) ?_))
  refine bI h (fun hb3 h=> ?_) (fun hb3 h=> ?_)
  ·refine ct hb3 ?_
   refine sz tT ⟨[(4,(vB false))],[]⟩ {} [] ?_
   refine aR ?_
   obtain rfl:=oi h
   exact rl [(sB false)]
  ·refine cf hb3 ?_
   refine aP (aQ (sz tT ⟨[(3,(vP 7 0)),(5,(vI 0))],(LB x)⟩ {} [] ?_))
   refine bE h fun y hy h=> ?_
   refine aL [] (Br x) Bu wH hy (fun s f h=> ?_) ?_
   ·clear hy
    show bn _ _ _ _ _ _ ((Jf x) f) _
    unfold kG at h
    obtain⟨i,rfl⟩: ∃q,q=s:=⟨_,rfl⟩
    refine aQ (sz tT ⟨[(3,(vP 7 0)),(5,(vI i)),(85,(vB (decide (i<(x.trip.length:Int)))))],(LB x)⟩ {} [] ?_)
    refine bI h (fun hb2 h=> ?_) (fun hb2 h=> ?_)
    ·refine ct hb2 ?_
     refine aP (aQ (aB (aQ (aO h fun a1 h=> ?_))))
     refine rg tT ⟨[(3,(vP 7 0)),(5,(vI i)),(afg x i)],(LB x)⟩ [_] {fr:=[(5,11)] } [11] ⟨a1,trivial⟩ ?_
     refine aQ (sg tT ⟨[(3,(vP 7 0)),(5,(vI i)),(afg x i),(110,(vB (bif (adq x i)then true else(decide (100000<(k43 x i))))))],(LB x)⟩ (eqs (decide (((at' x.trip i.toNat).amps)<1)) 4 (eqs (acD x i) 4 (eqs (adq x i) 4 []))) {yb:=[(3,(decide (((at' x.trip i.toNat).amps)<1))),(8,(acD x i)),(13,(adq x i))] } [] (ae (ae (ae trivial))) ?_)
     refine bI h (fun hb1 h=> ?_) (fun hb1 h=> ?_)
     ·refine ct hb1 ?_
      refine sz tT ⟨[(4,(vB false))],[]⟩ {} [] ?_
      refine aR ?_
      obtain rfl:=oi h
      exact lR bS (bT 0) bR (aU.mk (.inr rfl) (p:=[]) (l:=[(sB false)]) (by kernel_rfl) trivial (cu.refl _) trivial)
     ·refine cf hb1 ?_
      refine aP (aQ (aO h fun⟨a1,a2⟩ h=> ?_))
      refine dg tT mX ⟨[(3,(vP 7 0)),(5,(vI i)),(136,(vB (k44 x i)))],(LB x)⟩ (eqs (decide (0<i)) 5 ((gP (acO x i) [(2,true)]→All [(0:Int)≤(k13 i)∧(k13 i)<(x.trip.length:Int)])::(eqs (decide (0<i)) 6 (eqs (Vf x i) 5 ((gP (acO x i) [(13,false),(2,true)]→All [(0:Int)≤(k13 i)∧(k13 i)<(x.trip.length:Int)])::(eqs (Vf x i) 5 [(decide (0<i))=(decide (0<i)),gP (acO x i) [(2,true)]→All [(Vf x i)=(Vf x i)],(decide (0<i))=(decide (0<i))])))))) {yb:=[(2,(decide (0<i))),(13,(Vf x i))] } [] (ae ⟨(fun hg=> ⟨(a1 (aN hg)),trivial⟩),(ae (ae ⟨(fun hg=> ⟨(a2 (aN hg)),trivial⟩),(ae ⟨rfl,(fun hg=> ⟨rfl,trivial⟩),rfl,trivial⟩)⟩))⟩) ?_
      refine bI h (fun hb h=> ?_) (fun hb h=> ?_)
      ·refine ct hb ?_
       refine sz tT ⟨[(4,(vB false))],[]⟩ {} [] ?_
       refine aR ?_
       obtain rfl:=oi h
       exact lR bS (bT 0) bR (aU.mk (.inr rfl) (p:=[]) (l:=[(sB false)]) (by kernel_rfl) trivial (cu.refl _) trivial)
      ·refine cf hb ?_
       refine aP (rz tT ⟨[(3,(vP 7 0)),(Ru i)],(LB x)⟩ {} [] ?_)
       obtain rfl:=oi h
       exact lN
    ·refine cf hb2 ?_
     refine aI (fz ⟨[],[]⟩ []) ?_
     refine aX ?_
     obtain rfl:=oi h
     exact lB
   ·clear hy
    cases y with
    |brk z=>
     unfold dU
     refine⟨_, .refl, ?_⟩
     refine sz tT ⟨[(4,(vB true))],[]⟩ {} [] ?_
     refine aR ?_
     obtain rfl:=oi h
     exact rl [(sB true)]
    |ret v=>
     obtain rfl:=oi h
     unfold dU
     intro e st hn ha hR
     cases e with
     |normal=>exact absurd rfl hn
     |exit id=>exact hR
     |goto l=>exact hR
     |ret=>exact hR
     |panic c=>exact hR
     |outgrown=>exact hR
def gM  :Int→Exit→St→Prop:=
  fun r=>aU TT [.tmp 2] (vI r) []
section
variable (p:ah)
abbrev rO:List (Nat × Option Ob):=[(9,some (Yh p))]
end
def zm (p:ah):Int→St:=
  fun i=> ⟨[(1,(vP 9 0)),(3,(vI i))],(rO p)⟩
section
variable (p:ah)
abbrev Yb:St:=⟨[(1,(vP 9 0))],(rO p)⟩
end
def zo (p:ah):Unit→St:=
  fun _=>(Yb p)
def Ht (p:ah):(aK Int (Ex Unit Int))→Exit→St→Prop:=
  LQ 0 [] (zm p) (zo p) gM
def zw (p:ah):Int→St:=
  fun i1=> ⟨[(1,(vP 9 0)),(5,(vI i1))],(rO p)⟩
def zu (p:ah):Unit→St:=
  fun _=>(Yb p)
def H9 (p:ah):(aK Int (Ex Unit Int))→Exit→St→Prop:=
  LQ 2 [] (zw p) (zu p) gM
def Ad (p:ah):Int→St:=
  fun i2=> ⟨[(1,(vP 9 0)),(6,(vI i2))],(rO p)⟩
def zI  :Unit→St:=
  fun _=> ⟨[],[]⟩
def Hw (p:ah):(aK Int (Ex Unit Int))→Exit→St→Prop:=
  LQ 4 [] (Ad p) zI gM
section
variable (p:ah) (i:Int) (i2:Int)
abbrev adS:=(bif (decide ((Dm p i)<0))then true else(decide (p.buses≤(Dm p i))))
abbrev acQ:=(bif (adS p i)then true else(decide (((at' p.sources i.toNat).kind)<1)))
abbrev acU:=(bif (acQ p i)then true else(decide (3<((at' p.sources i.toNat).kind))))
abbrev ac6:=(bif (acU p i)then true else(decide ((Ul p i)<1)))
abbrev abt:=(bif (ac6 p i)then true else(decide (100000<(Ul p i))))
abbrev abx:=(bif (abt p i)then true else(decide (((at' p.sources i.toNat).sync)<0)))
abbrev acI:=(bif (abx p i)then true else(decide (8<((at' p.sources i.toNat).sync))))
abbrev ach:=(bif (acI p i)then true else(decide (((at' p.sources i.toNat).bg)<10)))
abbrev UH:=((at' p.racks i2.toNat).feeds)
abbrev PU:=((UH p i2).e0)
abbrev NA:=((UH p i2).e1)
abbrev RV:=((at' p.racks i2.toNat).power)
abbrev ahf:TV:=(vD (mg [(.int .i64 (PU p i2)),(.int .i64 (NA p i2)),(.int .i64 (RV p i2)),(.int .i64 ((at' p.racks i2.toNat).paths))] 0))
abbrev XA:Nat × TV:=(7,(ahf p i2))
abbrev Z0:Nat × TV:=(8,(vI (PU p i2)))
abbrev aan:Nat × TV:=(9,(vI (NA p i2)))
abbrev Zh:=(decide ((PU p i2)<0))
abbrev Zf:=(bif (Zh p i2)then true else(decide (p.buses≤(PU p i2))))
abbrev ZH:=(bif (Zf p i2)then true else(decide ((NA p i2)<(-1))))
abbrev ZI:=(bif (ZH p i2)then true else(decide (p.buses≤(NA p i2))))
abbrev Z4:=(bif (ZI p i2)then true else(decide ((PU p i2)=(NA p i2))))
abbrev Yt:=(bif (Z4 p i2)then true else(decide ((RV p i2)<1)))
abbrev YK:=(bif (Yt p i2)then true else(decide (100000<(RV p i2))))
abbrev Wh:=(bif (YK p i2)then true else(decide (((at' p.racks i2.toNat).paths)<0)))
abbrev afi:=(eqs (Zh p i2) 5 (eqs (Zf p i2) 3 (eqs (ZH p i2) 5 (eqs (ZI p i2) 4 (eqs (Z4 p i2) 4 (eqs (Yt p i2) 4 (eqs (YK p i2) 4 (eqs (Wh p i2) 5 []))))))))
abbrev afc:St:=⟨[(1,(vP 9 0)),(6,(k28 i2))],(rO p)⟩
end
theorem qX (p:ah) {r:Int} (h:ji p=some r):Fn Try.prog 71 (k0 p) [] (vI r) []:=by
 refine fN tT Try.func71 rfl rfl fun B=> ?_
 show bn _ _ _ _ _ _ (gM r) _
 unfold ji at h
 refine sz tT (Yb p) {fr:=[(0,9)] } [] ?_
 refine aQ (sg tT ⟨[(1,(vP 9 0)),(18,(vB (bif (decide (p.buses<1))then true else(decide (24<p.buses)))))],(rO p)⟩ (eqs (decide (p.buses<1)) 4 []) {yb:=[(3,(decide (p.buses<1)))] } [] (ae trivial) ?_)
 refine bI h (fun hb11 h=> ?_) (fun hb11 h=> ?_)
 ·refine ct hb11 ?_
  refine sz tT ⟨[(2,(vI 10))],[]⟩ {} [] ?_
  refine aR ?_
  obtain rfl:=oi h
  exact rl [(sI 10)]
 ·refine cf hb11 ?_
  refine aP (aQ (sz tT ⟨[(1,(vP 9 0)),(22,(vB (decide (8<(p.sources.length:Int)))))],(rO p)⟩ {} [] ?_))
  refine bI h (fun hb10 h=> ?_) (fun hb10 h=> ?_)
  ·refine ct hb10 ?_
   refine sz tT ⟨[(2,(vI 11))],[]⟩ {} [] ?_
   refine aR ?_
   obtain rfl:=oi h
   exact rl [(sI 11)]
  ·refine cf hb10 ?_
   refine aP (aQ (sz tT ⟨[(1,(vP 9 0)),(3,(vI 0))],(rO p)⟩ {} [] ?_))
   refine bE h fun y hy h=> ?_
   refine aL [] (zm p) (zo p) gM hy (fun s f h=> ?_) ?_
   ·clear hy
    show bn _ _ _ _ _ _ ((Ht p) f) _
    unfold jI at h
    obtain⟨i,rfl⟩: ∃q,q=s:=⟨_,rfl⟩
    refine aQ (sz tT ⟨[(1,(vP 9 0)),(3,(vI i)),(27,(vB (NP p i)))],(rO p)⟩ {} [] ?_)
    refine bI h (fun hb1 h=> ?_) (fun hb1 h=> ?_)
    ·refine ct hb1 ?_
     refine aP (aQ (aB (aQ (aO h fun a1 h=> ?_))))
     refine rg tT ⟨[(1,(vP 9 0)),(3,(vI i)),(4,(ad9 p i))],(rO p)⟩ [_] {fr:=[(5,13)] } [13] ⟨a1,trivial⟩ ?_
     refine sg tT ⟨[(1,(vP 9 0)),(3,(vI i)),(84,(vB (bif (ach p i)then true else(decide (100000<((at' p.sources i.toNat).bg))))))],(rO p)⟩ (eqs (decide ((Dm p i)<0)) 6 (eqs (adS p i) 4 (eqs (acQ p i) 4 (eqs (acU p i) 4 (eqs (ac6 p i) 4 (eqs (abt p i) 4 (eqs (abx p i) 4 (eqs (acI p i) 4 (eqs (ach p i) 4 []))))))))) {yb:=[(3,(decide ((Dm p i)<0))),(10,(adS p i)),(15,(acQ p i)),(20,(acU p i)),(25,(ac6 p i)),(30,(abt p i)),(35,(abx p i)),(40,(acI p i)),(45,(ach p i))] } [] (ae (ae (ae (ae (ae (ae (ae (ae (ae trivial))))))))) ?_
     refine bI h (fun hb h=> ?_) (fun hb h=> ?_)
     ·refine ct hb ?_
      refine sz tT ⟨[(2,(vI 11))],[]⟩ {} [] ?_
      refine aR ?_
      obtain rfl:=oi h
      exact lR bS (bT 0) bR (aU.mk (.inr rfl) (p:=[]) (l:=[(sI 11)]) (by kernel_rfl) trivial (cu.refl _) trivial)
     ·refine cf hb ?_
      refine aP (rz tT ⟨[(1,(vP 9 0)),(3,(k28 i))],(rO p)⟩ {} [] ?_)
      obtain rfl:=oi h
      exact lN
    ·refine cf hb1 ?_
     refine aI (fz (Yb p) []) ?_
     refine aX ?_
     obtain rfl:=oi h
     exact lB
   ·clear hy
    cases y with
    |brk z=>
     unfold dU
     refine⟨_, .refl, ?_⟩
     refine aQ (sz tT ⟨[(1,(vP 9 0)),(88,(vB (decide (40<(p.links.length:Int)))))],(rO p)⟩ {} [] ?_)
     refine bI h (fun hb9 h=> ?_) (fun hb9 h=> ?_)
     ·refine ct hb9 ?_
      refine sz tT ⟨[(2,(vI 12))],[]⟩ {} [] ?_
      refine aR ?_
      obtain rfl:=oi h
      exact rl [(sI 12)]
     ·refine cf hb9 ?_
      refine aP (aQ (sz tT ⟨[(1,(vP 9 0)),(5,(vI 0))],(rO p)⟩ {} [] ?_))
      refine bE h fun y1 hy h=> ?_
      refine aL [] (zw p) (zu p) gM hy (fun s f h=> ?_) ?_
      ·clear hy
       show bn _ _ _ _ _ _ ((H9 p) f) _
       unfold jD at h
       obtain⟨i1,rfl⟩: ∃q,q=s:=⟨_,rfl⟩
       refine aQ (sz tT ⟨[(1,(vP 9 0)),(5,(vI i1)),(93,(k99 p i1))],(rO p)⟩ {} [] ?_)
       refine bI h (fun hb3 h=> ?_) (fun hb3 h=> ?_)
       ·refine ct hb3 ?_
        refine aP (aQ (aB (aQ (bE h fun r_ hr_ h=> ?_))))
        refine aO h fun a1 h=> ?_
        have q1:=Jp p (at' p.links i1.toNat) hr_
        refine dg tT mX ⟨[(1,(vP 9 0)),(5,(vI i1)),(103,(vB (!r_)))],(rO p)⟩ [_,_] {an:=[(6,cA q1 [])] } [] ⟨a1,q1,trivial⟩ ?_
        refine bI h (fun hb2 h=> ?_) (fun hb2 h=> ?_)
        ·refine ct hb2 ?_
         refine sz tT ⟨[(2,(vI 12))],[]⟩ {} [] ?_
         refine aR ?_
         obtain rfl:=oi h
         exact lR bS (bT 2) bR (aU.mk (.inr rfl) (p:=[]) (l:=[(sI 12)]) (by kernel_rfl) trivial (cu.refl _) trivial)
        ·refine cf hb2 ?_
         refine aP (rz tT ⟨[(1,(vP 9 0)),(Ru i1)],(rO p)⟩ {} [] ?_)
         obtain rfl:=oi h
         exact lN
       ·refine cf hb3 ?_
        refine aI (fz (Yb p) []) ?_
        refine aX ?_
        obtain rfl:=oi h
        exact lB
      ·clear hy
       cases y1 with
       |brk z=>
        unfold dU
        refine⟨_, .refl, ?_⟩
        refine aQ (sz tT ⟨[(1,(vP 9 0)),(107,(vB (decide (24<(p.racks.length:Int)))))],(rO p)⟩ {} [] ?_)
        refine bI h (fun hb8 h=> ?_) (fun hb8 h=> ?_)
        ·refine ct hb8 ?_
         refine sz tT ⟨[(2,(vI 13))],[]⟩ {} [] ?_
         refine aR ?_
         obtain rfl:=oi h
         exact rl [(sI 13)]
        ·refine cf hb8 ?_
         refine aP (aQ (sz tT ⟨[(1,(vP 9 0)),(6,(vI 0))],(rO p)⟩ {} [] ?_))
         refine bE h fun y2 hy h=> ?_
         refine aL [] (Ad p) zI gM hy (fun s f h=> ?_) ?_
         ·clear hy
          show bn _ _ _ _ _ _ ((Hw p) f) _
          unfold jE at h
          obtain⟨i2,rfl⟩: ∃q,q=s:=⟨_,rfl⟩
          refine aQ (sz tT ⟨[(1,(vP 9 0)),(6,(vI i2)),(112,(vB (decide (i2<(p.racks.length:Int)))))],(rO p)⟩ {} [] ?_)
          refine bI h (fun hb7 h=> ?_) (fun hb7 h=> ?_)
          ·refine ct hb7 ?_
           refine aP (aQ (aB (aQ (aO h fun a1 h=> ?_))))
           refine rg tT ⟨[(1,(vP 9 0)),(6,(vI i2)),(XA p i2)],(rO p)⟩ [_] {fr:=[(5,17)] } [17] ⟨a1,trivial⟩ ?_
           refine sd tT mX ⟨[(1,(vP 9 0)),(6,(vI i2)),(XA p i2),(Z0 p i2),(aan p i2)],(rO p)⟩ [(0:Int)≤0∧(0:Int)<(2:Nat),(0:Int)≤1∧(1:Int)<(2:Nat)] {} [] ⟨((by decide)),((by decide)),trivial⟩ ?_
           refine sz tT ⟨[(1,(vP 9 0)),(6,(vI i2)),(XA p i2),(Z0 p i2),(aan p i2),(10,(vI 2))],(rO p)⟩ {} [] ?_
           refine aQ (sz tT ⟨[(1,(vP 9 0)),(6,(vI i2)),(XA p i2),(Z0 p i2),(aan p i2),(10,(vI 2)),(127,(vB (decide ((NA p i2)=(-1)))))],(rO p)⟩ {} [] ?_)
           refine bI h (fun hb6 h=> ?_) (fun hb6 h=> ?_)
           ·refine ct hb6 ?_
            refine rz tT ⟨[(1,(vP 9 0)),(6,(vI i2)),(XA p i2),(Z0 p i2),(aan p i2),(10,(vI 1))],(rO p)⟩ {} [] ?_
            refine sg tT ⟨[(1,(vP 9 0)),(6,(vI i2)),(171,(vB (bif (Wh p i2)then true else(decide (1<((at' p.racks i2.toNat).paths))))))],(rO p)⟩ (afi p i2) {yb:=[(2,(Zh p i2)),(8,(Zf p i2)),(12,(ZH p i2)),(18,(ZI p i2)),(23,(Z4 p i2)),(28,(Yt p i2)),(33,(YK p i2)),(38,(Wh p i2))] } [] (ae (ae (ae (ae (ae (ae (ae (ae trivial)))))))) ?_
            refine bI h (fun hb4 h=> ?_) (fun hb4 h=> ?_)
            ·refine ct hb4 ?_
             refine sz tT ⟨[(2,(vI 13))],[]⟩ {} [] ?_
             refine aR ?_
             obtain rfl:=oi h
             exact lR bS (bT 4) bR (aU.mk (.inr rfl) (p:=[]) (l:=[(sI 13)]) (by kernel_rfl) trivial (cu.refl _) trivial)
            ·refine cf hb4 ?_
             refine aP (rz tT (afc p i2) {} [] ?_)
             obtain rfl:=oi h
             exact lN
           ·refine cf hb6 ?_
            refine aP (sg tT ⟨[(1,(vP 9 0)),(6,(vI i2)),(171,(vB (bif (Wh p i2)then true else(decide (2<((at' p.racks i2.toNat).paths))))))],(rO p)⟩ (afi p i2) {yb:=[(2,(Zh p i2)),(8,(Zf p i2)),(12,(ZH p i2)),(18,(ZI p i2)),(23,(Z4 p i2)),(28,(Yt p i2)),(33,(YK p i2)),(38,(Wh p i2))] } [] (ae (ae (ae (ae (ae (ae (ae (ae trivial)))))))) ?_)
            refine bI h (fun hb5 h=> ?_) (fun hb5 h=> ?_)
            ·refine ct hb5 ?_
             refine sz tT ⟨[(2,(vI 13))],[]⟩ {} [] ?_
             refine aR ?_
             obtain rfl:=oi h
             exact lR bS (bT 4) bR (aU.mk (.inr rfl) (p:=[]) (l:=[(sI 13)]) (by kernel_rfl) trivial (cu.refl _) trivial)
            ·refine cf hb5 ?_
             refine aP (rz tT (afc p i2) {} [] ?_)
             obtain rfl:=oi h
             exact lN
          ·refine cf hb7 ?_
           refine aI (fz ⟨[],[]⟩ []) ?_
           refine aX ?_
           obtain rfl:=oi h
           exact lB
         ·clear hy
          cases y2 with
          |brk z=>
           unfold dU
           refine⟨_, .refl, ?_⟩
           refine sz tT ⟨[(2,(vI 0))],[]⟩ {} [] ?_
           refine aR ?_
           obtain rfl:=oi h
           exact rl [(sI 0)]
          |ret v=>
           obtain rfl:=oi h
           unfold dU
           intro e st hn ha hR
           cases e with
           |normal=>exact absurd rfl hn
           |exit id=>exact hR
           |goto l=>exact hR
           |ret=>exact hR
           |panic c=>exact hR
           |outgrown=>exact hR
       |ret v=>
        obtain rfl:=oi h
        unfold dU
        intro e st hn ha hR
        cases e with
        |normal=>exact absurd rfl hn
        |exit id=>exact hR
        |goto l=>exact hR
        |ret=>exact hR
        |panic c=>exact hR
        |outgrown=>exact hR
    |ret v=>
     obtain rfl:=oi h
     unfold dU
     intro e st hn ha hR
     cases e with
     |normal=>exact absurd rfl hn
     |exit id=>exact hR
     |goto l=>exact hR
     |ret=>exact hR
     |panic c=>exact hR
     |outgrown=>exact hR
def LK  :Bool→Exit→St→Prop:=
  fun r=>aU TT [.tmp 2] (vB r) []
section
variable (p:ah) (r_:Int)
abbrev acH:=(bif (decide (60<(p.sources.length:Int)))then true else(decide (60<(p.links.length:Int))))
abbrev ahu:=(bif (decide (r_=0))then(bif (decide (10<p.buses))then true else(decide (16<(p.links.length:Int))))else false)
end
theorem KW (p:ah) {r:Bool} (h:sN p=some r):Fn Try.prog 29 (k0 p) [] (vB r) []:=by
 refine fN tT Try.func29 rfl rfl fun B=> ?_
 show bn _ _ _ _ _ _ (LK r) _
 unfold sN at h
 refine sz tT (k3 p) {fr:=[(0,1)] } [1] ?_
 refine aQ (sg tT ⟨[(k4 p),(18,(vB (bif (acH p)then true else(decide (60<(p.racks.length:Int))))))],[]⟩ (eqs (decide (60<(p.sources.length:Int))) 5 (eqs (acH p) 5 [])) {yb:=[(4,(decide (60<(p.sources.length:Int)))),(10,(acH p))] } [] (ae (ae trivial)) ?_)
 refine bI h (fun hb h=> ?_) (fun hb h=> ?_)
 ·refine ct hb ?_
  refine sz tT ⟨[(2,(vB true))],[]⟩ {} [] ?_
  refine aR ?_
  obtain rfl:=oi h
  exact rl [(sB true)]
 ·refine cf hb ?_
  refine aP (aQ (bE h fun r_ hr_ h=> ?_))
  have q0:=qX p hr_
  refine rg tT ⟨[(2,(vB (ahu p r_)))],[]⟩ (_::(eqs (decide (r_=0)) 4 (eqs (decide (10<p.buses)) 4 [(decide (r_=0))=(decide (r_=0)),gP (gG [(3,(decide (r_=0))),(7,(decide (10<p.buses)))]) [(3,true)]→All [(decide (10<p.buses))=(decide (10<p.buses))],(decide (r_=0))=(decide (r_=0))]))) {yb:=[(3,(decide (r_=0))),(7,(decide (10<p.buses)))],an:=[(1,cA q0 [])] } [] ⟨q0,(ae (ae ⟨rfl,(fun hg=> ⟨rfl,trivial⟩),rfl,trivial⟩))⟩ ?_
  refine aR ?_
  obtain rfl:=oi h
  exact rl [(sB (ahu p r_))]
def Ic  :Bool→Exit→St→Prop:=
  fun r=>aU TT [.tmp 4] (vB r) []
theorem kZ (s_:State) (b:Int) {r:Bool} (h:mF s_ b=some r):Fn Try.prog 79 [(.agg (QW s_)),(sI b)] [] (vB r) []:=by
 refine fN tT Try.func79 rfl rfl fun B=> ?_
 show bn _ _ _ _ _ _ (Ic r) _
 unfold mF at h
 refine sz tT ⟨[(1,(vI b)),(2,(k75 s_))],[]⟩ {fr:=[(0,1)] } [1] ?_
 refine aQ (aO h fun a1 h=> ?_)
 refine rg tT ⟨[(4,(vB (bif (decide (0≤b))then(!(at' s_.badBus b.toNat))else false)))],[]⟩ (eqs (decide (0≤b)) 4 ((gP (gG [(2,(decide (0≤b)))]) [(2,true)]→All [(0:Int)≤b∧b<(s_.badBus.length:Int)])::(eqs (decide (0≤b)) 3 []))) {yb:=[(2,(decide (0≤b)))] } [] (ae ⟨(fun hg=> ⟨(a1 (aN hg)),trivial⟩),(ae trivial)⟩) ?_
 refine aR ?_
 obtain rfl:=oi h
 exact rl [(sB (bif (decide (0≤b))then(!(at' s_.badBus b.toNat))else false))]
def Cs  :(Int × Network)→Exit→St→Prop:=
  fun r=>aU TT [.tmp 10] (vI r.1) [(0,some (.cells 161 [(.own 3 false r.2.arcs.length),(.own 2 true r.2.from_.length)])),(1,none),(2,some (.rows 40 1 r.2.from_.length (AO uF r.2.from_) none)),(3,some (bO 170 2 bJ.cell r.2.arcs))]
section
variable (u0:Network) (b:Int) (u1:Int) (a:Int) (u2:Int)
abbrev Xa:Nat × Option Ob:=(1,some (bO 170 2 bJ.cell u0.arcs))
abbrev acV:List (Nat × Option Ob):=[(0,some (.cells 161 [(.own 1 false u0.arcs.length),(.own 2 true u0.from_.length)])),(Xa u0),(2,some (.rows 40 1 u0.from_.length (AO uF u0.from_) none))]
abbrev Sy:=(u0.arcs++[(⟨b,u1⟩:bJ),(⟨a,u2⟩:bJ)])
abbrev Y0:=((Sy u0 b u1 a u2).length)
abbrev ahs:Nat × Option Ob:=(0,some (.cells 161 [(.own 12 false (Y0 u0 b u1 a u2)),(.own 2 true u0.from_.length)]))
abbrev WH:Nat × Option Ob:=(12,some (bO 170 2 bJ.cell (Sy u0 b u1 a u2)))
abbrev Rq:=((at' u0.from_ a.toNat)++[(u0.arcs.length:Int)])
abbrev Lm:=(u0.from_.set a.toNat (Rq u0 a))
abbrev Xj:=(AO uF (Lm u0 a))
abbrev acY:=(au (aj .i64) (Rq u0 a))
abbrev agC:Nat × Option Ob:=(0,some (.cells 161 [(.own 12 false (Y0 u0 b u1 a u2)),(.own 2 true ((Lm u0 a).length))]))
abbrev Nw:=(at' (Lm u0 a) b.toNat)
abbrev Pe:=(IntKind.wrap .i64 ((u0.arcs.length:Int)+1))
abbrev Sd:=((Nw u0 b a)++[(Pe u0)])
abbrev adM:=((Lm u0 a).set b.toNat (Sd u0 b a))
abbrev Y6:=(AO uF (adM u0 b a))
abbrev adO:=(au (aj .i64) [(Pe u0)])
abbrev afd:=((Nw u0 b a).length+[(Pe u0)].length)
abbrev ads:=(au (aj .i64) (Sd u0 b a))
abbrev ae3:=((adM u0 b a).length)
abbrev ajd:Nat × Option Ob:=(2,some (.rows 40 1 (adM u0 b a).length (Y6 u0 b a) none))
abbrev aeA:List (Nat × Option Ob):=[(0,some (.cells 161 [(.own 12 false (Y0 u0 b u1 a u2)),(.own 2 true (ae3 u0 b a))])),(1,none),(ajd u0 b a),(WH u0 b u1 a u2)]
end
theorem bY (a:Int) (b:Int) (u1:Int) (u2:Int) (u0:Network) {r:(Int × Network)} (h:fP a b u1 u2 u0=some r):Fn Try.prog 77 [(.one (.ptr 0 0)),(sI a),(sI b),(sI u1),(sI u2)] (acV u0) (vI r.1) [(0,some (.cells 161 [(.own 3 false r.2.arcs.length),(.own 2 true r.2.from_.length)])),(1,none),(2,some (.rows 40 1 r.2.from_.length (AO uF r.2.from_) none)),(3,some (bO 170 2 bJ.cell r.2.arcs))]:=by
 refine fN tT Try.func77 rfl rfl fun B=> ?_
 show bn _ _ _ _ _ _ (Cs r) _
 unfold fP at h
 refine sz tT ⟨[(0,(vP 0 0)),(1,(vI a)),(2,(vI b)),(3,(vI u1)),(4,(vI u2))],(acV u0)⟩ {} [] ?_
 refine sz tT ⟨[(0,(vP 0 0)),(1,(vI a)),(2,(vI b)),(3,(vI u1)),(4,(vI u2)),(11,(vI (u0.arcs.length:Int)))],(acV u0)⟩ {} [] ?_
 refine aQ (aO h fun⟨a1,a2⟩ h=> ?_)
 refine rg tT ⟨[(0,(vP 0 0)),(1,(vI a)),(2,(vI b)),(11,(vI (u0.arcs.length:Int)))],[(ahs u0 b u1 a u2),(1,none),(2,some (.rows 40 1 u0.from_.length (AO uF u0.from_) none)),(WH u0 b u1 a u2)]⟩ [[(⟨b,u1⟩:bJ),(⟨a,u2⟩:bJ)].length=2,aC 2 2 (ig 2 [(.int .i64 b),(.int .i64 u1),(.int .i64 a),(.int .i64 u2)]) (au bJ.cell [(⟨b,u1⟩:bJ),(⟨a,u2⟩:bJ)]),u0.arcs.length=u0.arcs.length,_,_,(Sy u0 b u1 a u2).length=u0.arcs.length+[(⟨b,u1⟩:bJ),(⟨a,u2⟩:bJ)].length,aC (u0.arcs.length+[(⟨b,u1⟩:bJ),(⟨a,u2⟩:bJ)].length) 2 (Ak (au bJ.cell u0.arcs) u0.arcs.length (au bJ.cell [(⟨b,u1⟩:bJ),(⟨a,u2⟩:bJ)])) (au bJ.cell (Sy u0 b u1 a u2))] {an:=[(11, .arr [(⟨b,u1⟩:bJ),(⟨a,u2⟩:bJ)].length (au bJ.cell [(⟨b,u1⟩:bJ),(⟨a,u2⟩:bJ)])),(12, .arr (Sy u0 b u1 a u2).length (au bJ.cell (Sy u0 b u1 a u2)))],fr:=[(11,11),(12,12)] } [] ⟨(rfl),((by intro i hi j hj;match i,j,hi,hj with|0,0,_,_=>rfl|0,1,_,_=>rfl|1,0,_,_=>rfl|1,1,_,_=>rfl)),rfl,a1,a2,(List.length_append),(fe _ _ _ _),trivial⟩ ?_
 refine aQ (aO h fun⟨a1,a2,a3⟩ h=> ?_)
 refine di tT mX ⟨[(0,(vP 0 0)),(2,(vI b)),(11,(vI (u0.arcs.length:Int)))],[(ahs u0 b u1 a u2),(1,none),(2,some (.rows 40 1 u0.from_.length (Xj u0 a) none)),(WH u0 b u1 a u2)]⟩ [(0:Int)≤a∧a<(u0.from_.length:Int),a.toNat<u0.from_.length,[(u0.arcs.length:Int)].length=1,aC 1 1 (ig 1 [(.int .i64 (u0.arcs.length:Int))]) (au (aj .i64) [(u0.arcs.length:Int)]),(at' u0.from_ a.toNat).length=(at' u0.from_ a.toNat).length,((at' u0.from_ a.toNat).length+[(u0.arcs.length:Int)].length)*8≤140737488355328,(at' u0.from_ a.toNat).length+[(u0.arcs.length:Int)].length≤4611686018427387904,(Rq u0 a).length=(at' u0.from_ a.toNat).length+[(u0.arcs.length:Int)].length,aC ((at' u0.from_ a.toNat).length+[(u0.arcs.length:Int)].length) 1 (Ak (au (aj .i64) (at' u0.from_ a.toNat)) (at' u0.from_ a.toNat).length (au (aj .i64) [(u0.arcs.length:Int)])) (acY u0 a),(0:Int)≤a∧a<(u0.from_.length:Int),a.toNat<u0.from_.length,(Rq u0 a).length=(Rq u0 a).length,YL u0.from_.length 1 (stV (AO uF u0.from_) a.toNat 0 (.row 3 1 (Rq u0 a).length (acY u0 a))) (Xj u0 a),∀i0 j0 c0,((some (a.toNat,0,CV.own 13 false (at' u0.from_ a.toNat).length)):Option (Nat × Nat × CV))=some (i0,j0,c0)→i0=a.toNat∧j0=0] {an:=[(11, .take 13),(13, .arr [(u0.arcs.length:Int)].length (au (aj .i64) [(u0.arcs.length:Int)])),(14, .arr (Rq u0 a).length (acY u0 a)),(16, .rows 0 (Xj u0 a))],fr:=[(13,14),(14,15)] } [] ⟨a1,(tL a1),(rfl),((by intro i hi j hj;match i,j,hi,hj with|0,0,_,_=>rfl)),rfl,a2,a3,(List.length_append),(fe _ _ _ _),a1,(tL a1),rfl,(Qe _ _ _ _ _ _ _ _ rfl (fun j hj=>(match j,hj with|0,_=>rfl))),((fun i0 j0 c0 e=>by cases e;exact⟨rfl,rfl⟩)),trivial⟩ (bG.le (st':=⟨[(0,(vP 0 0)),(2,(vI b)),(11,(vI (u0.arcs.length:Int)))],[(agC u0 b u1 a u2),(1,none),(2,some (.rows 40 1 (Lm u0 a).length (Xj u0 a) none)),(WH u0 b u1 a u2)]⟩) ⟨⟨tR,tR,tR,trivial⟩,⟨rfl,bB ⟨cK.refl _,cW,trivial⟩,⟨rfl, .refl _,⟨rfl,PX (by simp only [List.length_set,List.length_append,List.length_cons,List.length_nil,List.length_replicate,List.length_drop]),⟨rfl, .refl _,trivial⟩⟩⟩⟩⟩) ?_
 refine aQ (aO h fun⟨a1,a2,a3⟩ h=> ?_)
 refine di tT mX ⟨[(11,(vI (u0.arcs.length:Int)))],[(agC u0 b u1 a u2),(1,none),(2,some (.rows 40 1 (Lm u0 a).length (Y6 u0 b a) none)),(WH u0 b u1 a u2)]⟩ [(0:Int)≤b∧b<((Lm u0 a).length:Int),b.toNat<(Lm u0 a).length,[(Pe u0)].length=1,aC 1 1 (ig 1 [(.int .i64 (Pe u0))]) (adO u0),(Nw u0 b a).length=(Nw u0 b a).length,(afd u0 b a)*8≤140737488355328,(Nw u0 b a).length+[(Pe u0)].length≤4611686018427387904,(Sd u0 b a).length=(Nw u0 b a).length+[(Pe u0)].length,aC (afd u0 b a) 1 (Ak (au (aj .i64) (Nw u0 b a)) (Nw u0 b a).length (adO u0)) (ads u0 b a),(0:Int)≤b∧b<((Lm u0 a).length:Int),b.toNat<(Lm u0 a).length,(Sd u0 b a).length=(Sd u0 b a).length,YL (Lm u0 a).length 1 (stV (Xj u0 a) b.toNat 0 (.row 3 1 (Sd u0 b a).length (ads u0 b a))) (Y6 u0 b a),∀i0 j0 c0,((some (b.toNat,0,CV.own 16 false (Nw u0 b a).length)):Option (Nat × Nat × CV))=some (i0,j0,c0)→i0=b.toNat∧j0=0] {an:=[(11, .take 16),(14, .arr [(Pe u0)].length (adO u0)),(15, .arr (Sd u0 b a).length (ads u0 b a)),(17, .rows 0 (Y6 u0 b a))],fr:=[(14,17),(15,18)] } [] ⟨a1,(tL a1),(rfl),((by intro i hi j hj;match i,j,hi,hj with|0,0,_,_=>rfl)),rfl,a2,a3,(List.length_append),(fe _ _ _ _),a1,(tL a1),rfl,(Qe _ _ _ _ _ _ _ _ rfl (fun j hj=>(match j,hj with|0,_=>rfl))),((fun i0 j0 c0 e=>by cases e;exact⟨rfl,rfl⟩)),trivial⟩ (bG.le (st':=⟨[(11,(vI (u0.arcs.length:Int)))],(aeA u0 b u1 a u2)⟩) ⟨⟨tR,trivial⟩,⟨rfl,bB ⟨cK.refl _,cW,trivial⟩,⟨rfl, .refl _,⟨rfl,PX (by simp only [List.length_set,List.length_append,List.length_cons,List.length_nil,List.length_replicate,List.length_drop]),⟨rfl, .refl _,trivial⟩⟩⟩⟩⟩) ?_
 refine sz tT ⟨[(10,(vI (u0.arcs.length:Int)))],(aeA u0 b u1 a u2)⟩ {} [] ?_
 refine aI (bG.fin (st':=⟨[(10,(vI (u0.arcs.length:Int)))],[(0,some (.cells 161 [(.own 3 false (Y0 u0 b u1 a u2)),(.own 2 true (ae3 u0 b a))])),(1,none),(ajd u0 b a),(3,some (bO 170 2 bJ.cell (Sy u0 b u1 a u2)))]⟩) (cs:=[]) ⟨[],[(0,0),(1,1),(2,2),(12,3)]⟩ [10] (by kernel_rfl) trivial) ?_
 refine aR ?_
 obtain rfl:=oi h
 exact rh [(sI (u0.arcs.length:Int))] (.refl _) ⟨rfl, .refl _,⟨rfl,trivial,⟨rfl, .refl _,⟨rfl, .refl _,trivial⟩⟩⟩⟩
section
variable (u0:Network)
abbrev Lg:DV:=(aJ none 1 (L8 1 (aj .i64)) u0.from_)
abbrev ZK:Nat × Option Ob:=(0,some (.cells 161 [(.own 1 false u0.arcs.length),(.d (Lg u0))]))
abbrev abh:List (Nat × Option Ob):=[(ZK u0),(Xa u0),(2,some (.cells 157 [(.ptr 0 0)]))]
end
def zb (u0:Network):Unit→Exit→St→Prop:=
  fun _=>aU TT [.tmp 2] (.v (.one (.fn 121 0 1 (C9 [(.ptr 2 0)])))) (abh u0)
section
variable (u0:Network)
abbrev ahz:List (Nat × Option Ob):=[(ZK u0),(Xa u0)]
abbrev ajb:List (Nat × Option Ob):=[(ZK u0),(Xa u0),(3,some (.cells 157 [(.ptr 0 0)]))]
end
theorem iR (u0:Network) {r:Unit} (h:gW u0=some r):Fn Try.prog 81 [(.one (.ptr 0 0))] (ahz u0) (.v (.one (.fn 121 0 1 (C9 [(.ptr 2 0)])))) (abh u0):=by
 refine fN tT Try.func81 rfl rfl fun B=> ?_
 show bn _ _ _ _ _ _ ((zb u0) r) _
 unfold gW at h
 refine sz tT ⟨[(1,(vP 3 0))],(ajb u0)⟩ {fr:=[(0,3)] } [] ?_
 refine sz tT ⟨[(2,(.v (.one (.fn 121 0 1 (C9 [(.ptr 3 0)])))))],(ajb u0)⟩ {} [] ?_
 refine aI (bG.fin (st':=⟨[(2,(.v (.one (.fn 121 0 1 (C9 [(.ptr 2 0)])))))],(abh u0)⟩) (cs:=[]) ⟨[],[(0,0),(1,1),(3,2)]⟩ [2] (by kernel_rfl) trivial) ?_
 refine aR ?_
 obtain rfl:=oi h
 exact rl [(.one (.fn 121 0 1 (C9 [(.ptr 2 0)])))]
noncomputable def aS:oD:=⟨[19,20],Ja ([1,0,1,0,0,0,1,0,1,0]++[0]) (nL Try.f80),Ja ([1,0,1,0,0,0,1,0,1,0]++[1]) (nL Try.f80),114,[.exit 1]⟩
section
variable (u0:Int)
abbrev QJ:List (Nat × TV):=[(2,(vP 1 0)),(3,(vP 2 0)),(4,(vP 3 0))]
abbrev Kl:Nat × Option Ob:=(1,some (.cells 157 [(.ptr 4 0)]))
abbrev JS:Nat × Option Ob:=(2,some (.cells 3 [(cI u0)]))
end
def wh (u0:Int):(Nat × (List Int) × Network)→Exit→St→Prop:=
  fun r=>nJ 0 aS (vB (Nat.beq r.1 0)) [(0,some (.loop aS r.1 QJ)),Kl,(JS u0),(3,some (.cells 40 [(.own 5 true r.2.1.length)])),(4,some (.cells 161 [(.own 6 false r.2.2.arcs.length),(.d (aJ none 1 (L8 1 (aj .i64)) r.2.2.from_))])),(5,some (bO 3 1 (aj .i64) r.2.1)),(6,some (bO 170 2 bJ.cell r.2.2.arcs))]
section
variable (o_:(List Int)) (u1:Int) (u2:Int) (u0:Network) (u3:Int) (u4:Int) (u5:Int)
abbrev Oz:Nat × Option Ob:=(0,some (.loop aS 1 QJ))
abbrev UZ:Nat × Option Ob:=(3,some (.cells 40 [(.own 5 true ((o_.set u1.toNat u2).length))]))
abbrev aal:Nat × Option Ob:=(4,some (.cells 161 [(.own 6 false u0.arcs.length),(.d (Lg u0))]))
abbrev UI:Nat × Option Ob:=(5,some (bO 3 1 (aj .i64) (o_.set u1.toNat u2)))
abbrev YN:Nat × Option Ob:=(6,some (bO 170 2 bJ.cell u0.arcs))
abbrev Il:List (Nat × Option Ob):=[Oz,Kl,(JS u3),(UZ o_ u1 u2),(aal u0),(UI o_ u1 u2),(YN u0)]
abbrev abS:St:=⟨[(2,(vP 1 0)),(3,(vP 2 0)),(4,(vP 3 0)),(7,(vI u4)),(8,(vI u5))],(Il o_ u1 u2 u0 u3)⟩
end
def lS (u1:Int) (u2:Int) (u3:Int) (o_:(List Int)) (u0:Network):(Int × Int)→St:=
  fun zz=>match zz with|(u4,u5)=>(abS o_ u1 u2 u0 u3 u4 u5)
section
variable (u4:Int) (u3:Int) (o_:(List Int)) (u1:Int) (u2:Int) (u0:Network)
abbrev aeU:St:=⟨[(2,(vP 1 0)),(3,(vP 2 0)),(4,(vP 3 0)),(7,(vI u4))],(Il o_ u1 u2 u0 u3)⟩
end
def l9 (u1:Int) (u2:Int) (u3:Int) (o_:(List Int)) (u0:Network):Int→St:=
  fun u4=>(aeU u4 u3 o_ u1 u2 u0)
section
variable (u0:Int)
abbrev XU:=(wh u0)
end
def uN (u1:Int) (u2:Int) (u0:Int) (o_:(List Int)) (u3:Network):(aK (Int × Int) (Ex Int (Nat × (List Int) × Network)))→Exit→St→Prop:=
  LQ 4 [3] (lS u1 u2 u0 o_ u3) (l9 u1 u2 u0 o_ u3) (XU u0)
section
variable (u5:Int) (u6:Int) (u2:(List bJ)) (u4:Network) (u3:Int) (o_:(List Int)) (u0:Int) (u1:Int)
abbrev Ug:List (Nat × TV):=[(2,(vP 1 0)),(4,(vP 3 0)),(7,(vI u5)),(10,(vI u6))]
abbrev aiZ:Nat × Option Ob:=(4,some (.cells 161 [(.own 6 false u2.length),(.d (Lg u4))]))
abbrev acJ:List (Nat × Option Ob):=[Oz,Kl,(JS u3),(UZ o_ u0 u1),(aiZ u2 u4),(UI o_ u0 u1),(6,some (bO 170 2 bJ.cell u2))]
end
def lG (u0:Int) (u1:Int) (u3:Int) (o_:(List Int)) (u4:Network) (u5:Int):((List bJ) × Int)→St:=
  fun zz=>match zz with|(u2,u6)=> ⟨(Ug u5 u6),(acJ u2 u4 u3 o_ u0 u1)⟩
section
variable (u3:Int) (o_:(List Int)) (u0:Int) (u1:Int) (u2:(List bJ)) (u4:Network)
abbrev ahY:St:=⟨[],(acJ u2 u4 u3 o_ u0 u1)⟩
end
def lV (u0:Int) (u1:Int) (u3:Int) (o_:(List Int)) (u4:Network):(List bJ)→St:=
  fun u2=>(ahY u3 o_ u0 u1 u2 u4)
def vk (u1:Int) (u2:Int) (u0:Int) (o_:(List Int)) (u3:Network) (u4:Int):(aK ((List bJ) × Int) (Ex (List bJ) (Nat × (List Int) × Network)))→Exit→St→Prop:=
  LQ 6 [3] (lG u1 u2 u0 o_ u3 u4) (lV u1 u2 u0 o_ u3) (XU u0)
section
variable (u6:Int) (o_:(List Int)) (u4:Network) (u0:Int) (u1:Int) (u7:Int) (u3:(List bJ)) (u2:Int) (u5:Int)
abbrev Wx:List (Nat × Option Ob):=[(0,some (.loop aS 0 QJ)),Kl,(JS u6),(3,some (.cells 40 [(.own 5 true o_.length)])),(aal u4),(5,some (CO o_)),(YN u4)]
abbrev ab8:List (Nat × TV):=[(2,(vP 1 0)),(3,(vP 2 0)),(4,(vP 3 0)),(5,(vI u0)),(6,(vI u1))]
abbrev Ya:=((IntKind.wrap .i64 (((BitVec.ofInt (IntKind.bits .i64) (at' (o_.set u0.toNat u1) u7.toNat) ^^^ BitVec.ofInt (IntKind.bits .i64) 1).toNat:Int))).toNat)
abbrev Rp:=(u3.set ((at' (o_.set u0.toNat u1) u2.toNat).toNat) (⟨(at' u3 ((at' (o_.set u0.toNat u1) u2.toNat).toNat)).to_,(IntKind.wrap .i64 (((at' u3 ((at' (o_.set u0.toNat u1) u2.toNat).toNat)).left) - u5))⟩:bJ))
abbrev Y9:=(au bJ.cell (Rp o_ u0 u1 u3 u2 u5))
abbrev afJ:Nat × Option Ob:=(4,some (.cells 161 [(.own 6 false ((Rp o_ u0 u1 u3 u2 u5).length)),(.d (Lg u4))]))
abbrev aiM:=(at' (Rp o_ u0 u1 u3 u2 u5) (Ya o_ u0 u1 u2))
abbrev agK:=(IntKind.wrap .i64 (((aiM o_ u0 u1 u3 u2 u5).left)+u5))
abbrev Yv:=((Rp o_ u0 u1 u3 u2 u5).set (Ya o_ u0 u1 u2) (⟨(aiM o_ u0 u1 u3 u2 u5).to_,(agK o_ u0 u1 u3 u2 u5)⟩:bJ))
abbrev adj:=(au bJ.cell (Yv o_ u0 u1 u3 u2 u5))
abbrev ai3:List (Nat × Option Ob):=[Oz,Kl,(JS u6),(UZ o_ u0 u1),(4,some (.cells 161 [(.own 6 false ((Yv o_ u0 u1 u3 u2 u5).length)),(.d (Lg u4))])),(UI o_ u0 u1),(6,some (bO 170 2 bJ.cell (Yv o_ u0 u1 u3 u2 u5)))]
end
theorem lZ (u0:Int) (u1:Int) (u6:Int) (o_:(List Int)) (u4:Network) {r:(Nat × (List Int) × Network)} (h:jg u0 u1 u6 o_ u4=some r):Yl Try.prog 0 [(sI u0),(sI u1)] (Wx u6 o_ u4) (vB (Nat.beq r.1 0)) [(0,some (.loop aS r.1 QJ)),Kl,(JS u6),(3,some (.cells 40 [(.own 5 true r.2.1.length)])),(4,some (.cells 161 [(.own 6 false r.2.2.arcs.length),(.d (aJ none 1 (L8 1 (aj .i64)) r.2.2.from_))])),(5,some (bO 3 1 (aj .i64) r.2.1)),(6,some (bO 170 2 bJ.cell r.2.2.arcs))]:=by
 refine Gc (r:=aS) (sl:=QJ) (sl1:=(ab8 u0 u1)) (h1:=(Wx u6 o_ u4)) (sl2:=QJ) (by kernel_rfl) rfl rfl (by kernel_rfl) (fun rd B=> ?_) (by kernel_rfl) (fun rd B=> ?_)
 ·refine sH (c:=Ja ([1,0,1,0,0,0,1,0,1,0]++[0]) (nL Try.f80)) rfl ?_
  refine oU (st:=⟨[(19,(vI u0)),(20,(vI u1)),(2,(vP 1 0)),(3,(vP 2 0)),(4,(vP 3 0))],(Wx u6 o_ u4)⟩) (by kernel_rfl) ?_
  refine sz tT ⟨[(2,(vP 1 0)),(3,(vP 2 0)),(4,(vP 3 0)),(5,(vI u0)),(20,(vI u1))],(Wx u6 o_ u4)⟩ {} [] ?_
  refine rz tT ⟨(ab8 u0 u1),(Wx u6 o_ u4)⟩ {} [] ?_
  exact⟨rfl,rfl⟩
 ·refine sH (c:=Ja ([1,0,1,0,0,0,1,0,1,0]++[1]) (nL Try.f80)) rfl ?_
  refine oU (st:=⟨(ab8 u0 u1),[Oz,Kl,(JS u6),(3,some (.cells 40 [(.own 5 true o_.length)])),(aal u4),(5,some (CO o_)),(YN u4)]⟩) (by kernel_rfl) ?_
  show bn _ _ _ _ _ _ ((XU u6) r) _
  unfold jg at h
  refine aB (aQ (aO h fun a1 h=> ?_))
  refine ri tT ⟨[(2,(vP 1 0)),(3,(vP 2 0)),(4,(vP 3 0)),(5,(vI u0))],[Oz,Kl,(JS u6),(3,some (.cells 40 [(.own 5 true o_.length)])),(aal u4),(5,some (.arr 3 1 o_.length (au (aj .i64) (o_.set u0.toNat u1)))),(YN u4)]⟩ [_,_,aC o_.length 1 (jS (au (aj .i64) o_) u0.toNat 0 [(.int .i64 u1)]) (au (aj .i64) (o_.set u0.toNat u1))] {an:=[(4, .arr 0 (au (aj .i64) (o_.set u0.toNat u1)))] } [] ⟨a1,(tL a1),(bD _ _ _ _ _ _ _ _ rfl (fun j hj=>(match j,hj with|0,_=>rfl))),trivial⟩ (bG.le (st':=⟨[(2,(vP 1 0)),(3,(vP 2 0)),(4,(vP 3 0)),(5,(vI u0))],(Il o_ u0 u1 u4 u6)⟩) ⟨⟨tR,tR,tR,tR,trivial⟩,(hN 3 ⟨rfl,bB ⟨cW,trivial⟩,⟨rfl, .refl _,⟨rfl,oW,⟨rfl, .refl _,trivial⟩⟩⟩⟩)⟩) ?_
  refine aQ (sz tT ⟨[(2,(vP 1 0)),(3,(vP 2 0)),(4,(vP 3 0)),(27,(vB (!decide (u0=u6))))],(Il o_ u0 u1 u4 u6)⟩ {} [] ?_)
  refine bI h (fun hb3 h=> ?_) (fun hb3 h=> ?_)
  ·refine ct hb3 ?_
   refine aI (fz ⟨[],(Il o_ u0 u1 u4 u6)⟩ []) ?_
   refine aX ?_
   obtain rfl:=oi h
   exact nJ.on (sl:=QJ) (by kernel_rfl) (AQ (by kernel_rfl)) (cu.refl _)
  ·refine cf hb3 ?_
   refine aP (sz tT ⟨[(2,(vP 1 0)),(3,(vP 2 0)),(4,(vP 3 0)),(7,(vI (-1)))],(Il o_ u0 u1 u4 u6)⟩ {} [] ?_)
   refine aQ (sz tT ⟨[(2,(vP 1 0)),(3,(vP 2 0)),(4,(vP 3 0)),(7,(vI (-1))),(8,(vI u6))],(Il o_ u0 u1 u4 u6)⟩ {} [] ?_)
   refine bE h fun y1 hy h=> ?_
   refine aL [3] (lS u0 u1 u6 o_ u4) (l9 u0 u1 u6 o_ u4) (XU u6) hy (fun s f h=> ?_) ?_
   ·clear hy
    show bn _ _ _ _ _ _ ((uN u0 u1 u6 o_ u4) f) _
    unfold lI at h
    obtain⟨u8,u7⟩:=s
    refine aQ (aQ (aO h fun a1 h=> ?_))
    refine rg tT ⟨[(2,(vP 1 0)),(3,(vP 2 0)),(4,(vP 3 0)),(7,(vI u8)),(8,(vI u7)),(33,(vB (decide (0≤(at' (o_.set u0.toNat u1) u7.toNat)))))],(Il o_ u0 u1 u4 u6)⟩ [_,_] {} [] ⟨a1,(tL a1),trivial⟩ ?_
    refine bI h (fun hb1 h=> ?_) (fun hb1 h=> ?_)
    ·refine ct hb1 ?_
     refine aP (bE h fun y hy h=> ?_)
     refine Ip (o:=y) (fun u9=>(abS o_ u0 u1 u4 u6 u9 u7)) ?_ ?_
     ·replace h:=hy
      clear hy
      refine aB (aQ (aO h fun⟨a1,a2⟩ h=> ?_))
      refine dg tT mX ⟨[(2,(vP 1 0)),(3,(vP 2 0)),(4,(vP 3 0)),(7,(vI u8)),(8,(vI u7)),(9,(vI ((at' u4.arcs ((at' (o_.set u0.toNat u1) u7.toNat).toNat)).left)))],(Il o_ u0 u1 u4 u6)⟩ [_,_,_,_] {} [] ⟨a1,(tL a1),a2,(tL a2),trivial⟩ ?_
      refine sg tT ⟨[(2,(vP 1 0)),(3,(vP 2 0)),(4,(vP 3 0)),(7,(vI u8)),(8,(vI u7)),(9,(vI ((at' u4.arcs ((at' (o_.set u0.toNat u1) u7.toNat).toNat)).left))),(63,(vB (bif (decide (u8<0))then true else(decide (((at' u4.arcs ((at' (o_.set u0.toNat u1) u7.toNat).toNat)).left)<u8)))))],(Il o_ u0 u1 u4 u6)⟩ (eqs (decide (u8<0)) 4 []) {yb:=[(2,(decide (u8<0)))] } [] (ae trivial) ?_
      refine bI h (fun hb h=> ?_) (fun hb h=> ?_)
      ·refine ct hb ?_
       refine rz tT ⟨[(2,(vP 1 0)),(3,(vP 2 0)),(4,(vP 3 0)),(7,(vI ((at' u4.arcs ((at' (o_.set u0.toNat u1) u7.toNat).toNat)).left))),(8,(vI u7))],(Il o_ u0 u1 u4 u6)⟩ {} [] ?_
       obtain rfl:=oi h
       exact⟨rfl,by kernel_rfl⟩
      ·refine cf hb ?_
       refine aI (fz (abS o_ u0 u1 u4 u6 u8 u7) []) ?_
       refine aP ?_
       obtain rfl:=oi h
       exact⟨rfl,by kernel_rfl⟩
     ·clear hy
      obtain⟨u9,rfl⟩: ∃q,q=y:=⟨_,rfl⟩
      refine aO h fun⟨a1,a2⟩ h=> ?_
      refine dg tT mX ⟨[(2,(vP 1 0)),(3,(vP 2 0)),(4,(vP 3 0)),(7,(vI u9)),(8,(vI ((at' u4.arcs (Ya o_ u0 u1 u7)).to_)))],(Il o_ u0 u1 u4 u6)⟩ [_,_,_,_] {} [] ⟨a1,(tL a1),a2,(tL a2),trivial⟩ ?_
      obtain rfl:=oi h
      exact lN
    ·refine cf hb1 ?_
     refine aI (fz (aeU u8 u6 o_ u0 u1 u4) []) ?_
     refine aX ?_
     obtain rfl:=oi h
     exact lB
   ·clear hy
    cases y1 with
    |brk z=>
     obtain⟨u5,rfl⟩: ∃q,q=z:=⟨_,rfl⟩
     unfold dU
     refine⟨_, .refl, ?_⟩
     refine aQ (sz tT ⟨(Ug u5 u6),(Il o_ u0 u1 u4 u6)⟩ {} [] ?_)
     refine bE h fun y2 hy h=> ?_
     refine aL [3] (lG u0 u1 u6 o_ u4 u5) (lV u0 u1 u6 o_ u4) (XU u6) hy (fun s f h=> ?_) ?_
     ·clear hy
      show bn _ _ _ _ _ _ ((vk u0 u1 u6 o_ u4 u5) f) _
      unfold lJ at h
      obtain⟨u3,u2⟩:=s
      refine aQ (aQ (aO h fun a1 h=> ?_))
      refine rg tT ⟨[(2,(vP 1 0)),(4,(vP 3 0)),(7,(vI u5)),(10,(vI u2)),(70,(vB (decide (0≤(at' (o_.set u0.toNat u1) u2.toNat)))))],(acJ u3 u4 u6 o_ u0 u1)⟩ [_,_] {} [] ⟨a1,(tL a1),trivial⟩ ?_
      refine bI h (fun hb2 h=> ?_) (fun hb2 h=> ?_)
      ·refine ct hb2 ?_
       refine aP (aQ (aB (aQ (aO h fun⟨a1,a2⟩ h=> ?_))))
       refine di tT mX ⟨(Ug u5 u2),[Oz,Kl,(JS u6),(UZ o_ u0 u1),(aiZ u3 u4),(UI o_ u0 u1),(6,some (.arr 170 2 u3.length (Y9 o_ u0 u1 u3 u2 u5)))]⟩ [_,_,_,_,_,_,aC u3.length 2 (jS (au bJ.cell u3) ((at' (o_.set u0.toNat u1) u2.toNat).toNat) 1 [(.int .i64 (IntKind.wrap .i64 (((at' u3 ((at' (o_.set u0.toNat u1) u2.toNat).toNat)).left) - u5)))]) (Y9 o_ u0 u1 u3 u2 u5)] {an:=[(15, .arr 0 (Y9 o_ u0 u1 u3 u2 u5))] } [] ⟨a1,(tL a1),a2,(tL a2),a2,(tL a2),(bD _ _ _ _ _ _ _ _ rfl (fun j hj=>(match j,hj with|0,_=>rfl|1,_=>rfl))),trivial⟩ (bG.le (st':=⟨(Ug u5 u2),[Oz,Kl,(JS u6),(UZ o_ u0 u1),(afJ o_ u4 u0 u1 u3 u2 u5),(UI o_ u0 u1),(6,some (bO 170 2 bJ.cell (Rp o_ u0 u1 u3 u2 u5)))]⟩) ⟨⟨tR,tR,tR,tR,trivial⟩,(hN 4 ⟨rfl,bB ⟨cW,cK.refl _,trivial⟩,⟨rfl, .refl _,⟨rfl,oW,trivial⟩⟩⟩)⟩) ?_
       refine aO h fun⟨a1,a2⟩ h=> ?_
       refine di tT mX ⟨(Ug u5 u2),[Oz,Kl,(JS u6),(UZ o_ u0 u1),(afJ o_ u4 u0 u1 u3 u2 u5),(UI o_ u0 u1),(6,some (.arr 170 2 (Rp o_ u0 u1 u3 u2 u5).length (adj o_ u0 u1 u3 u2 u5)))]⟩ [_,_,_,_,_,_,aC (Rp o_ u0 u1 u3 u2 u5).length 2 (jS (Y9 o_ u0 u1 u3 u2 u5) (Ya o_ u0 u1 u2) 1 [(.int .i64 (agK o_ u0 u1 u3 u2 u5))]) (adj o_ u0 u1 u3 u2 u5)] {an:=[(16, .arr 0 (adj o_ u0 u1 u3 u2 u5))] } [] ⟨a1,(tL a1),a2,(tL a2),a2,(tL a2),(bD _ _ _ _ _ _ _ _ rfl (fun j hj=>(match j,hj with|0,_=>rfl|1,_=>rfl))),trivial⟩ (bG.le (st':=⟨(Ug u5 u2),(ai3 u6 o_ u4 u0 u1 u3 u2 u5)⟩) ⟨⟨tR,tR,tR,tR,trivial⟩,(hN 4 ⟨rfl,bB ⟨cW,cK.refl _,trivial⟩,⟨rfl, .refl _,⟨rfl,oW,trivial⟩⟩⟩)⟩) ?_
       refine aO h fun⟨a1,a2⟩ h=> ?_
       refine dg tT mX ⟨[(2,(vP 1 0)),(4,(vP 3 0)),(7,(vI u5)),(10,(vI ((at' (Yv o_ u0 u1 u3 u2 u5) (Ya o_ u0 u1 u2)).to_)))],(ai3 u6 o_ u4 u0 u1 u3 u2 u5)⟩ [_,_,_,_] {} [] ⟨a1,(tL a1),a2,(tL a2),trivial⟩ ?_
       obtain rfl:=oi h
       exact lN
      ·refine cf hb2 ?_
       refine aI (fz (ahY u6 o_ u0 u1 u3 u4) []) ?_
       refine aX ?_
       obtain rfl:=oi h
       exact lB
     ·clear hy
      cases y2 with
      |brk z=>
       obtain⟨v0,rfl⟩: ∃q,q=z:=⟨_,rfl⟩
       unfold dU
       refine⟨_, .refl, ?_⟩
       refine aX ?_
       obtain rfl:=oi h
       exact nJ.off (sl:=QJ) (k:=0) (c:= .exit 1) (by kernel_rfl) rfl rfl (by kernel_rfl) (AQ (by kernel_rfl)) (cu.refl _)
      |ret v=>
       obtain rfl:=oi h
       unfold dU
       intro e st hn ha hR
       cases e with
       |normal=>exact absurd rfl hn
       |exit id=>simp only [rC (b:=3) ha rfl,cond_false];exact hR
       |goto l=>exact hR
       |ret=>exact hR
       |panic c=>exact hR
       |outgrown=>exact hR
    |ret v=>
     obtain rfl:=oi h
     unfold dU
     intro e st hn ha hR
     cases e with
     |normal=>exact absurd rfl hn
     |exit id=>simp only [rC (b:=3) ha rfl,cond_false];exact hR
     |goto l=>exact hR
     |ret=>exact hR
     |panic c=>exact hR
     |outgrown=>exact hR
def Fj  :aM→Exit→St→Prop:=
  fun r=>aU TT [] (.gK []) [(0,some (.cells 226 [(.own 2 false r.l.length)])),(1,none),(2,some (bO 164 2 af.cell r.l))]
section
variable (o_:aM)
abbrev NZ:Ob:=(bO 164 2 af.cell o_.l)
abbrev YI:List (Nat × Option Ob):=[(0,some (.cells 226 [(.own 1 false o_.l.length)])),(1,some (NZ o_))]
end
theorem uq (x:af) (o_:aM) {r:aM} (h:nD x o_=some r):Fn Try.prog 122 [(.one (.ptr 0 0)),(.agg [(cI x.e0),(cI x.e1)])] (YI o_) (.gK []) [(0,some (.cells 226 [(.own 2 false r.l.length)])),(1,none),(2,some (bO 164 2 af.cell r.l))]:=by
 refine fN tT Try.func122 rfl rfl fun B=> ?_
 show bn _ _ _ _ _ _ (Fj r) _
 unfold nD at h
 refine sz tT ⟨[(0,(vP 0 0)),(3,(vD (mg [(.int .i64 x.e0),(.int .i64 x.e1)] 0)))],(YI o_)⟩ {fr:=[(0,5)] } [5] ?_
 refine aO h fun⟨a1,a2⟩ h=> ?_
 refine di tT mX ⟨[],[(0,some (.cells 226 [(.own 7 false ((o_.l++[x]).length))])),(1,none),(7,some (bO 164 2 af.cell (o_.l++[x])))]⟩ [[x].length=1,aC 1 2 (ig 2 [(.int .i64 x.e0),(.int .i64 x.e1)]) (au af.cell [x]),o_.l.length=o_.l.length,_,_,(o_.l++[x]).length=o_.l.length+[x].length,aC (o_.l.length+[x].length) 2 (Ak (au af.cell o_.l) o_.l.length (au af.cell [x])) (au af.cell (o_.l++[x]))] {an:=[(6, .arr [x].length (au af.cell [x])),(7, .arr (o_.l++[x]).length (au af.cell (o_.l++[x])))],fr:=[(6,6),(7,7)] } [] ⟨(rfl),((by intro i hi j hj;match i,j,hi,hj with|0,0,_,_=>rfl|0,1,_,_=>rfl)),rfl,a1,a2,(List.length_append),(fe _ _ _ _),trivial⟩ (bG.fin (st':=⟨[],[(0,some (.cells 226 [(.own 2 false ((o_.l++[x]).length))])),(1,none),(2,some (bO 164 2 af.cell (o_.l++[x])))]⟩) (cs:=[]) ⟨[],[(0,0),(1,1),(7,2)]⟩ [] (by kernel_rfl) trivial) ?_
 obtain rfl:=oi h
 exact aU.mk (.inl rfl) (p:=[]) (l:=[]) (by kernel_rfl) trivial (cu.refl _) ⟨rfl, .refl _,⟨rfl,trivial,⟨rfl, .refl _,trivial⟩⟩⟩
def DZ  :(af × Bool × aM)→Exit→St→Prop:=
  fun r=>aU TT [.cell 2 164, .tmp 3] (.gK [(.agg [(cI r.1.e0),(cI r.1.e1)]),(sB r.2.1)]) [(0,some (.cells 226 [(.own 2 false r.2.2.l.length)])),(1,none),(2,some (bO 164 2 af.cell r.2.2.l))]
section
variable (o_:aM)
abbrev ajs:List (Nat × Option Ob):=[(0,some (.cells 226 [(.own 1 false o_.l.length)])),(1,some (NZ o_)),(4,some (.cells 164 [(cI 0),(cI 0)]))]
abbrev adD:List (Nat × TV):=[(2,(vD (mg [(.int .i64 0),(.int .i64 0)] 0))),(3,(vB false))]
abbrev aea:Nat × Option Ob:=(4,some (.cells 164 [(cI ((at' o_.l 0).e0)),(cI ((at' o_.l 0).e1))]))
abbrev agq:List (Nat × TV):=[(2,(vD (mg [(.int .i64 ((at' o_.l 0).e0)),(.int .i64 ((at' o_.l 0).e1))] 0))),(3,(vB true))]
end
theorem sG (o_:aM) {r:(af × Bool × aM)} (h:kX o_=some r):Fn Try.prog 123 [(.one (.ptr 0 0))] (YI o_) (.gK [(.agg [(cI r.1.e0),(cI r.1.e1)]),(sB r.2.1)]) [(0,some (.cells 226 [(.own 2 false r.2.2.l.length)])),(1,none),(2,some (bO 164 2 af.cell r.2.2.l))]:=by
 refine fN tT Try.func123 rfl rfl fun B=> ?_
 show bn _ _ _ _ _ _ (DZ r) _
 unfold kX at h
 refine sz tT ⟨[(0,(vP 0 0)),(2,(vP 4 0))],(ajs o_)⟩ {fr:=[(0,4)] } [] ?_
 refine aQ (sz tT ⟨[(0,(vP 0 0)),(2,(vP 4 0)),(9,(vB (decide ((o_.l.length:Int)=0))))],(ajs o_)⟩ {} [] ?_)
 refine bI h (fun hb h=> ?_) (fun hb h=> ?_)
 ·refine ct hb ?_
  refine sz tT ⟨adD,(YI o_)⟩ {} [4] ?_
  refine aI (.trans (bG.X9 (E0:=226) (cs:=[(.own 1 false o_.l.length)]) (nn:=false) (len:=o_.l.length) (E:=164) (esz:=2) (n:=o_.l.length) (el:=au af.cell o_.l) (p:=0) (q:=0) (b:=1) (b':=5) (by kernel_rfl) (by kernel_rfl) (by kernel_rfl) (by kernel_rfl)) (.trans (fz ⟨adD,[(0,some (.cells 226 [(.own 5 false o_.l.length)])),(1,none),(5,some (NZ o_))]⟩ []) (bG.fin (st':=⟨adD,[(0,some (.cells 226 [(.own 2 false o_.l.length)])),(1,none),(2,some (NZ o_))]⟩) (cs:=[]) ⟨[],[(0,0),(1,1),(5,2)]⟩ [2,3] (by kernel_rfl) trivial))) ?_
  refine aR ?_
  obtain rfl:=oi h
  exact rh [(.agg [(cI 0),(cI 0)]),(sB false)] (.refl _) ⟨rfl, .refl _,⟨rfl,trivial,⟨rfl, .refl _,trivial⟩⟩⟩
 ·refine cf hb ?_
  refine aP (aQ (aO h fun⟨a1,a2⟩ h=> ?_))
  refine di tT mX ⟨[(2,(vP 4 0))],[(0,some (.cells 226 [(.own 6 false (o_.l.length - 1))])),(1,some (NZ o_)),(aea o_),(6,some (.suf 1 1 2))]⟩ [_,_,o_.l.length=o_.l.length,_] {an:=[(11, .cells)],fr:=[(11,6)] } [] ⟨a1,(tL a1),rfl,a2,trivial⟩ (.trans (bG.abY (b:=1) (c:=6) (k:=1) (E:=164) (esz:=2) (cf:=af.cell) (l:=o_.l) (by kernel_rfl) (by kernel_rfl) (by omega)) (.trans (fz ⟨[(2,(vP 4 0))],[(0,some (.cells 226 [(.own 6 false (o_.l.length - 1))])),(1,none),(aea o_),(6,some (.arr 164 2 (o_.l.length - 1) (au af.cell (o_.l.drop 1))))]⟩ []) (bG.le (st':=⟨[(2,(vP 4 0))],[(0,some (.cells 226 [(.own 6 false ((o_.l.drop 1).length))])),(1,none),(aea o_),(6,some (bO 164 2 af.cell (o_.l.drop 1)))]⟩) ⟨⟨tR,trivial⟩,⟨rfl,bB ⟨cW,trivial⟩,(hN 2 ⟨rfl,oW,trivial⟩)⟩⟩))) ?_
  refine sz tT ⟨(agq o_),[(0,some (.cells 226 [(.own 6 false ((o_.l.drop 1).length))])),(1,none),(6,some (bO 164 2 af.cell (o_.l.drop 1)))]⟩ {} [4] ?_
  refine aI (bG.fin (st':=⟨(agq o_),[(0,some (.cells 226 [(.own 2 false ((o_.l.drop 1).length))])),(1,none),(2,some (bO 164 2 af.cell (o_.l.drop 1)))]⟩) (cs:=[]) ⟨[],[(0,0),(1,1),(6,2)]⟩ [2,3] (by kernel_rfl) trivial) ?_
  refine aR ?_
  obtain rfl:=oi h
  exact rh [(.agg [(cI ((at' o_.l 0).e0)),(cI ((at' o_.l 0).e1))]),(sB true)] (.refl _) ⟨rfl, .refl _,⟨rfl,trivial,⟨rfl, .refl _,trivial⟩⟩⟩
section
variable (u0:Int)
abbrev WB:List (Nat × TV):=[(2,(vP 2 0)),(3,(vP 3 0)),(4,(vP 4 0))]
abbrev sW:Nat × Option Ob:=(1,some (.cells 157 [(.ptr 5 0)]))
abbrev qB:Nat × Option Ob:=(2,some (.cells 157 [(.ptr 5 0)]))
abbrev qE:Nat × Option Ob:=(3,some (.cells 3 [(cI u0)]))
end
def iC (u0:Int):(Nat × (List Int) × Network)→Exit→St→Prop:=
  fun r=>aU TT [] (.gK []) [(0,some (.loop aS r.1 WB)),sW,qB,(qE u0),(4,some (.cells 40 [(.own 6 true r.2.1.length)])),(5,some (.cells 161 [(.own 7 false r.2.2.arcs.length),(.d (aJ none 1 (L8 1 (aj .i64)) r.2.2.from_))])),(6,some (bO 3 1 (aj .i64) r.2.1)),(7,some (bO 170 2 bJ.cell r.2.2.arcs))]
section
variable (u2:(List Bool)) (u1:(List Int)) (u4:(List (List Int))) (q0:(List af)) (u5:Int) (u6:Int)
abbrev dS:Nat × TV:=(0,(.v (.one (.yl 0))))
abbrev Ew:Nat × TV:=(3,(vO 56 true u2.length))
abbrev ZM:List (Nat × TV):=[dS,(1,(vP 1 0)),(Ew u2),(4,(vP 57 0)),(5,(vP 59 0))]
abbrev vR:Nat × Option Ob:=(0,some (.loop aS 0 WB))
abbrev LW:Nat × Option Ob:=(4,some (.cells 40 [(.own 6 true u1.length)]))
abbrev Sm:DV:=(aJ none 1 (L8 1 (aj .i64)) u4)
abbrev LH:Nat × Option Ob:=(6,some (CO u1))
abbrev NU:Nat × Option Ob:=(56,some (bO 4 1 ai u2))
abbrev UQ:Nat × Option Ob:=(57,some (.cells 226 [(.own 58 false q0.length)]))
abbrev Vt:Nat × Option Ob:=(58,some (bO 164 2 af.cell q0))
abbrev NT:Nat × Option Ob:=(59,some (.cells 164 [(cI u5),(cI u6)]))
end
def lF (u3:Int):((List bJ) × (List (List Int)) × (List Int) × (List Bool) × (List af) × Int × Int)→St:=
  fun zz=>match zz with|(u0,u4,u1,u2,q0,u5,u6)=> ⟨(ZM u2),[vR,sW,qB,(qE u3),(LW u1),(5,some (.cells 161 [(.own 7 false u0.length),(.d (Sm u4))])),(LH u1),(7,some (bO 170 2 bJ.cell u0)),(NU u2),(UQ q0),(Vt q0),(NT u5 u6)]⟩
def lQ  :Unit→St:=
  fun _=> ⟨[],[]⟩
def gX (u0:Int):(aK ((List bJ) × (List (List Int)) × (List Int) × (List Bool) × (List af) × Int × Int) (Ex Unit (Nat × (List Int) × Network)))→Exit→St→Prop:=
  LQ 0 [] (lF u0) lQ (iC u0)
section
variable (r_:(Nat × (List Int) × Network)) (u0:Int) (u3:Int) (u1:(List Bool)) (u2:(List af)) (u4:Int)
abbrev J7:Nat × TV:=(34,(vD (aJ none 1 (aj .i64) (at' r_.2.2.from_ u0.toNat))))
abbrev KQ:Nat × TV:=(35,(vI ((at' r_.2.2.from_ u0.toNat).length:Int)))
abbrev Dt:Nat × Option Ob:=(4,some (.cells 40 [(.own 6 true r_.2.1.length)]))
abbrev DJ:Nat × Option Ob:=(5,some (.cells 161 [(.own 7 false r_.2.2.arcs.length),(.d (aJ none 1 (L8 1 (aj .i64)) r_.2.2.from_))]))
abbrev DR:Nat × Option Ob:=(6,some (bO 3 1 (aj .i64) r_.2.1))
abbrev Dq:Nat × Option Ob:=(7,some (bO 170 2 bJ.cell r_.2.2.arcs))
abbrev R6:List (Nat × Option Ob):=[vR,sW,qB,(qE u3),(Dt r_),(DJ r_),(DR r_),(Dq r_),(NU u1),(UQ u2),(Vt u2),(NT u0 u4)]
end
def lK (u3:Int) (u0:Int) (u4:Int) (r_:(Nat × (List Int) × Network)):((List Bool) × (List af) × Int)→St:=
  fun zz=>match zz with|(u1,u2,u5)=> ⟨[dS,(1,(vP 1 0)),(Ew u1),(4,(vP 57 0)),(5,(vP 59 0)),(J7 r_ u0),(KQ r_ u0),(36,(vI u5))],(R6 r_ u0 u3 u1 u2 u4)⟩
section
variable (u0:(List Bool)) (u2:Int) (r_:(Nat × (List Int) × Network)) (u1:(List af)) (u3:Int) (u4:Int)
abbrev ahS:St:=⟨(ZM u0),(R6 r_ u3 u2 u0 u1 u4)⟩
end
def l8 (u2:Int) (u3:Int) (u4:Int) (r_:(Nat × (List Int) × Network)):((List Bool) × (List af))→St:=
  fun zz=>match zz with|(u0,u1)=>(ahS u0 u2 r_ u1 u3 u4)
def uZ (u0:Int) (u1:Int) (u2:Int) (r_:(Nat × (List Int) × Network)):(aK ((List Bool) × (List af) × Int) (Ex ((List Bool) × (List af)) (aK ((List bJ) × (List (List Int)) × (List Int) × (List Bool) × (List af) × Int × Int) (Ex Unit (Nat × (List Int) × Network)))))→Exit→St→Prop:=
  LQ 2 [1] (lK u0 u1 u2 r_) (l8 u0 u1 u2 r_) (gX u0)
section
variable (u1:Network) (u2:Int) (v0:(List Int)) (u9:(List bJ)) (v3:(List (List Int))) (r_:(Nat × (List Int) × Network)) (u0:Int) (u3:Int) (u4:(List Bool)) (u7:(List af)) (u6:Int) (v2:aM) (u5:(af × Bool × aM)) (u8:(List Bool))
abbrev Qi:Nat × Option Ob:=(5,some (.cells 161 [(.own 7 false u1.arcs.length),(.d (Lg u1))]))
abbrev Pm:Nat × Option Ob:=(7,some (bO 170 2 bJ.cell u1.arcs))
abbrev QK:=(List.replicate ((u1.from_.length:Int).toNat) (false:Bool))
abbrev aey:List (Nat × TV):=[dS,(1,(vP 1 0)),(3,(vO 56 true ((QK u1).length)))]
abbrev ac3:=(au ai (QK u1))
abbrev adl:=((QK u1).set 0 true)
abbrev ac2:=(au ai (adl u1))
abbrev acd:Nat × TV:=(3,(vO 56 true ((adl u1).length)))
abbrev V9:Nat × Option Ob:=(56,some (bO 4 1 ai (adl u1)))
abbrev adH:List (Nat × TV):=[dS,(1,(vP 1 0)),(acd u1),(4,(vP 57 0))]
abbrev aeQ:List (Nat × Option Ob):=[vR,qB,(qE u2),(LW v0),(5,some (.cells 161 [(.own 7 false u9.length),(.d (Sm v3))])),(LH v0),(7,some (bO 170 2 bJ.cell u9))]
abbrev afh:List (Nat × Option Ob):=[vR,qB,(qE u2),(Dt r_),(DJ r_),(DR r_),(Dq r_)]
abbrev abU:Nat × Option Ob:=(0,some (.loop aS r_.1 WB))
abbrev Zd:List (Nat × Option Ob):=[(abU r_),qB,(qE u2),(Dt r_),(DJ r_),(DR r_),(Dq r_)]
abbrev Wv:Nat × TV:=(7,(vI (at' (at' r_.2.2.from_ u0.toNat) u3.toNat)))
abbrev VG:=(at' r_.2.2.arcs ((at' (at' r_.2.2.from_ u0.toNat) u3.toNat).toNat))
abbrev Zw:=((VG r_ u0 u3).to_)
abbrev adp:=((VG r_ u0 u3).left)
abbrev afM:List (Nat × Option Ob):=[vR,sW,qB,(qE u2),(Dt r_),(DJ r_),(DR r_),(Dq r_),(NU u4),(UQ u7),(Vt u7),(NT u0 u6),(99,some (.cells 170 [(cI (Zw r_ u0 u3)),(cI (adp r_ u0 u3))]))]
abbrev SI:=(decide (0<(adp r_ u0 u3)))
abbrev adv:=((Zw r_ u0 u3).toNat)
abbrev agQ:=(gG [(3,(SI r_ u0 u3))])
abbrev ahT:Nat × TV:=(8,(vD (mg [(.int .i64 (Zw r_ u0 u3)),(.int .i64 (adp r_ u0 u3))] 0)))
abbrev ab6:=(u4.set (adv r_ u0 u3) true)
abbrev abm:=(au ai (ab6 r_ u0 u3 u4))
abbrev abT:Nat × TV:=(3,(vO 56 true ((ab6 r_ u0 u3 u4).length)))
abbrev abk:Nat × Option Ob:=(56,some (bO 4 1 ai (ab6 r_ u0 u3 u4)))
abbrev agk:List (Nat × Option Ob):=[vR,sW,qB,(qE u2),(Dt r_),(DJ r_),(DR r_),(Dq r_),(abk r_ u0 u3 u4),(57,some (.cells 226 [(.own 100 false v2.l.length)])),(NT u0 u6),(100,some (NZ v2))]
abbrev Zl:Nat × TV:=(36,(k28 u3))
abbrev ahc:List (Nat × TV):=[dS,(1,(vP 1 0)),(abT r_ u0 u3 u4),(4,(vP 57 0)),(5,(vP 59 0)),(J7 r_ u0),(KQ r_ u0),(Zl u3)]
abbrev YF:Nat × Option Ob:=(57,some (.cells 226 [(.own 101 false u5.2.2.l.length)]))
abbrev Zb:Nat × Option Ob:=(101,some (bO 164 2 af.cell u5.2.2.l))
abbrev OG:Ob:=(.cells 164 [(cI u5.1.e0),(cI u5.1.e1)])
abbrev ajn:List (Nat × Option Ob):=[vR,sW,qB,(qE u2),(Dt r_),(DJ r_),(DR r_),(Dq r_),(NU u8),(YF u5),(NT u0 u6),(Zb u5),(102,some (OG u5))]
end
theorem lD (u2:Int) (o_:(List Int)) (u1:Network) {r:(Nat × (List Int) × Network)} (h:jd u2 o_ u1=some r):Fn Try.prog 121 [(.one (.yl 0)),(.one (.ptr 1 0))] [vR,sW,qB,(qE u2),(LW o_),(Qi u1),(LH o_),(Pm u1)] (.gK []) [(0,some (.loop aS r.1 WB)),sW,qB,(qE u2),(4,some (.cells 40 [(.own 6 true r.2.1.length)])),(5,some (.cells 161 [(.own 7 false r.2.2.arcs.length),(.d (aJ none 1 (L8 1 (aj .i64)) r.2.2.from_))])),(6,some (bO 3 1 (aj .i64) r.2.1)),(7,some (bO 170 2 bJ.cell r.2.2.arcs))]:=by
 refine fN tT Try.func121 rfl rfl fun B=> ?_
 show bn _ _ _ _ _ _ ((iC u2) r) _
 unfold jd at h
 refine aQ (aO h fun⟨a1,a2,a3⟩ h=> ?_)
 refine rg tT ⟨(aey u1),[vR,sW,qB,(qE u2),(LW o_),(Qi u1),(LH o_),(Pm u1),(56,some (bO 4 1 ai (QK u1)))]⟩ [_,((u1.from_.length:Int):Int)=(u1.from_.length:Int),_,_,(QK u1).length=((u1.from_.length:Int).toNat),aC ((u1.from_.length:Int).toNat) 1 (fun _ j=>[(.bool false)].getD j .nilp) (ac3 u1)] {an:=[(5, .arr (QK u1).length (ac3 u1))],fr:=[(5,56)] } [] ⟨a1,rfl,a2,a3,(List.length_replicate),(cZ _ _ _ _ _ (fun j hj=>(match j,hj with|0,_=>rfl))),trivial⟩ ?_
 refine aQ (aO h fun a1 h=> ?_)
 refine ri tT ⟨(aey u1),[vR,sW,qB,(qE u2),(LW o_),(Qi u1),(LH o_),(Pm u1),(56,some (.arr 4 1 (QK u1).length (ac2 u1)))]⟩ [_,_,aC (QK u1).length 1 (jS (ac3 u1) 0 0 [(.bool true)]) (ac2 u1)] {an:=[(2, .arr 0 (ac2 u1))] } [] ⟨a1,(tL a1),(bD _ _ _ _ _ _ _ _ rfl (fun j hj=>(match j,hj with|0,_=>rfl))),trivial⟩ (bG.le (st':=⟨[dS,(1,(vP 1 0)),(acd u1)],[vR,sW,qB,(qE u2),(LW o_),(Qi u1),(LH o_),(Pm u1),(V9 u1)]⟩) ⟨⟨tR,tR,⟨_,rfl,cu.v (dm.one cW)⟩,trivial⟩,(hN 8 ⟨rfl,oW,trivial⟩)⟩) ?_
 refine si tT ⟨(adH u1),[vR,sW,qB,(qE u2),(LW o_),(Qi u1),(LH o_),(Pm u1),(V9 u1),(57,some (.cells 226 [(.d nS)]))]⟩ [] {fr:=[(0,57)] } [] trivial (.trans (bG.Aj (E:=0) (esz:=0) (E0:=226) (cs:=[(.d nS)]) (p:=57) (q:=0) (b:=58) (esz0:=0) (el0:=fun _ _=> .nilp) (ob:= .arr 164 2 0 (au af.cell ([]:List af))) (fun _ _ _ _ h=> .inl ⟨h,rfl⟩) (by kernel_rfl) (by kernel_rfl) (by kernel_rfl)) (.trans (fz ⟨(adH u1),[vR,sW,qB,(qE u2),(LW o_),(Qi u1),(LH o_),(Pm u1),(V9 u1),(57,some (.cells 226 [(.own 58 false 0)])),(58,some (.arr 164 2 0 (au af.cell ([]:List af))))]⟩ []) (bG.le (st':=⟨(adH u1),[vR,sW,qB,(qE u2),(LW o_),(Qi u1),(LH o_),(Pm u1),(V9 u1),(57,some (.cells 226 [(.own 58 false (([]:List af).length))])),(58,some (bO 164 2 af.cell ([]:List af)))]⟩) ⟨⟨tR,tR,tR,tR,trivial⟩,(hN 9 ⟨rfl,bB ⟨cW,trivial⟩,⟨rfl,oW,trivial⟩⟩)⟩))) ?_
 refine sz tT ⟨[dS,(1,(vP 1 0)),(acd u1),(4,(vP 57 0)),(5,(vP 59 0))],[vR,sW,qB,(qE u2),(LW o_),(Qi u1),(LH o_),(Pm u1),(V9 u1),(57,some (.cells 226 [(.own 58 false (([]:List af).length))])),(58,some (bO 164 2 af.cell ([]:List af))),(59,some (.cells 164 [(cI 0),(cI (-1))]))]⟩ {fr:=[(1,59)] } [] ?_
 refine bE h fun y1 hy h=> ?_
 refine aL [] (lF u2) lQ (iC u2) hy (fun s f h=> ?_) ?_
 ·clear hy
  show bn _ _ _ _ _ _ ((gX u2) f) _
  unfold lX at h
  obtain⟨u9,v3,v0,v1,q0,u0,u6⟩:=s
  refine aQ (aB (aQ (aQ (bE h fun r_ hr_ h=> ?_))))
  refine bI h (fun hb h=> ?_) (fun hb h=> ?_)
  ·skip
   refine rg tT ⟨[dS,(1,(vP 1 0)),(Ew v1),(4,(vP 57 0)),(5,(vP 59 0)),(26,(vB false))],(R6 r_ u0 u2 v1 q0 u6)⟩ [(0:Int)≤0∧(0:Int)<(2:Nat),(0:Int)≤1∧(1:Int)<(2:Nat),Yl Try.prog 0 [(sI u0),(sI u6)] (aeQ u2 v0 u9 v3) (vB true) (afh u2 r_)] {an:=[(5, .call [0,2,3,4,5,6,7] (vB true) (afh u2 r_))] } [] ⟨((by decide)),((by decide)),(Yl.leR (res:=(vB (Nat.beq r_.1 0))) (hout:=(Zd u2 r_)) (yK [(1,2),(1,3),(1,4),(1,5),(1,6),(1,7)] (lZ u0 u6 u2 v0 (⟨u9,v3⟩:Network) hr_)) (cu.of (congrArg vB hb)) ⟨rfl,Tk.of (congrArg (fun n=>some (Ob.loop aS n WB)) (Nat.eq_of_beq_eq_true hb)),(.refl _)⟩),trivial⟩ ?_
   refine cn (aP (aQ (aQ (aO h fun a1 h=> ?_))))
   refine dg tT mX ⟨[dS,(1,(vP 1 0)),(Ew v1),(4,(vP 57 0)),(5,(vP 59 0)),(J7 r_ u0),(KQ r_ u0),(36,(vI 0))],(R6 r_ u0 u2 v1 q0 u6)⟩ [(0:Int)≤0∧(0:Int)<(2:Nat),_] {} [] ⟨((by decide)),a1,trivial⟩ ?_
   refine bE h fun y hy h=> ?_
   refine aL [1] (lK u2 u0 u6 r_) (l8 u2 u0 u6 r_) (gX u2) hy (fun s f h=> ?_) ?_
   ·clear hy
    show bn _ _ _ _ _ _ ((uZ u2 u0 u6 r_) f) _
    unfold lq at h
    obtain⟨u4,u7,u3⟩:=s
    refine sz tT ⟨[dS,(1,(vP 1 0)),(Ew u4),(4,(vP 57 0)),(5,(vP 59 0)),(J7 r_ u0),(KQ r_ u0),(36,(vI u3)),(37,(vB (decide (u3<((at' r_.2.2.from_ u0.toNat).length:Int)))))],(R6 r_ u0 u2 u4 u7 u6)⟩ {} [] ?_
    refine aQ ?_
    refine bI h (fun hb2 h=> ?_) (fun hb2 h=> ?_)
    ·refine ct hb2 ?_
     refine aP (aQ (aB (aQ (aO h fun a1 h=> ?_))))
     refine rg tT ⟨[dS,(1,(vP 1 0)),(Ew u4),(4,(vP 57 0)),(5,(vP 59 0)),(Wv r_ u0 u3),(J7 r_ u0),(KQ r_ u0),(36,(vI u3))],(R6 r_ u0 u2 u4 u7 u6)⟩ [_] {} [] ⟨a1,trivial⟩ ?_
     refine aQ (aO h fun a1 h=> ?_)
     refine rg tT ⟨[dS,(1,(vP 1 0)),(Ew u4),(4,(vP 57 0)),(5,(vP 59 0)),(Wv r_ u0 u3),(8,(vP 99 0)),(J7 r_ u0),(KQ r_ u0),(36,(vI u3))],(afM u2 r_ u0 u3 u4 u7 u6)⟩ [_,_] {fr:=[(7,99)] } [] ⟨a1,(tL a1),trivial⟩ ?_
     refine aQ (aO h fun a1 h=> ?_)
     refine rg tT ⟨[dS,(1,(vP 1 0)),(Ew u4),(4,(vP 57 0)),(5,(vP 59 0)),(Wv r_ u0 u3),(8,(vP 99 0)),(J7 r_ u0),(KQ r_ u0),(36,(vI u3)),(57,(vB (bif (SI r_ u0 u3)then(!(at' u4 (adv r_ u0 u3)))else false)))],(afM u2 r_ u0 u3 u4 u7 u6)⟩ (eqs (SI r_ u0 u3) 4 ((gP (agQ r_ u0 u3) [(3,true)]→All [(0:Int)≤(VG r_ u0 u3).to_∧(VG r_ u0 u3).to_<(u4.length:Int)])::((SI r_ u0 u3)=(SI r_ u0 u3))::(gP (agQ r_ u0 u3) [(3,true)]→All [(Zw r_ u0 u3).toNat<u4.length])::(eqs (SI r_ u0 u3) 2 []))) {yb:=[(3,(SI r_ u0 u3))] } [] (ae ⟨(fun hg=> ⟨(a1 (aN hg)),trivial⟩),rfl,(fun hg=> ⟨((fun hq=>tL (a1 hq)) (aN hg)),trivial⟩),(ae trivial)⟩) ?_
     refine bI h (fun hb1 h=> ?_) (fun hb1 h=> ?_)
     ·refine ct hb1 ?_
      refine aQ (aO h fun a1 h=> ?_)
      refine ri tT ⟨[dS,(1,(vP 1 0)),(Ew u4),(4,(vP 57 0)),(5,(vP 59 0)),(Wv r_ u0 u3),(ahT r_ u0 u3),(J7 r_ u0),(KQ r_ u0),(36,(vI u3))],[vR,sW,qB,(qE u2),(Dt r_),(DJ r_),(DR r_),(Dq r_),(56,some (.arr 4 1 u4.length (abm r_ u0 u3 u4))),(UQ u7),(Vt u7),(NT u0 u6)]⟩ [_,_,aC u4.length 1 (jS (au ai u4) (adv r_ u0 u3) 0 [(.bool true)]) (abm r_ u0 u3 u4)] {an:=[(4, .arr 0 (abm r_ u0 u3 u4))] } [99] ⟨a1,(tL a1),(bD _ _ _ _ _ _ _ _ rfl (fun j hj=>(match j,hj with|0,_=>rfl))),trivial⟩ (bG.le (st':=⟨[dS,(1,(vP 1 0)),(abT r_ u0 u3 u4),(4,(vP 57 0)),(5,(vP 59 0)),(Wv r_ u0 u3),(ahT r_ u0 u3),(J7 r_ u0),(KQ r_ u0),(36,(vI u3))],[vR,sW,qB,(qE u2),(Dt r_),(DJ r_),(DR r_),(Dq r_),(abk r_ u0 u3 u4),(UQ u7),(Vt u7),(NT u0 u6)]⟩) ⟨⟨tR,tR,⟨_,rfl,cu.v (dm.one cW)⟩,tR,tR,tR,tR,tR,tR,tR,trivial⟩,(hN 8 ⟨rfl,oW,(.refl _)⟩)⟩) ?_
      refine bE h fun v2 hr_1 h=> ?_
      have q0:=rk [(0,57),(1,58),(2,100)] (uq (⟨(VG r_ u0 u3).to_,(at' (at' r_.2.2.from_ u0.toNat) u3.toNat)⟩:af) (⟨u7⟩:aM) hr_1)
      refine rg tT ⟨[dS,(1,(vP 1 0)),(abT r_ u0 u3 u4),(4,(vP 57 0)),(5,(vP 59 0)),(J7 r_ u0),(KQ r_ u0),(36,(vI u3))],(agk u2 r_ u0 u3 u4 u6 v2)⟩ [_] {an:=[(4,cA q0 [57,58])] } [] ⟨q0,trivial⟩ ?_
      refine ri tT ⟨(ahc r_ u0 u3 u4),(agk u2 r_ u0 u3 u4 u6 v2)⟩ [] {} [] trivial (bG.fin (st':=⟨(ahc r_ u0 u3 u4),[vR,sW,qB,(qE u2),(Dt r_),(DJ r_),(DR r_),(Dq r_),(abk r_ u0 u3 u4),(57,some (.cells 226 [(.own 58 false v2.l.length)])),(58,some (NZ v2)),(NT u0 u6)]⟩) (cs:=[]) ⟨[],[(0,0),(1,1),(2,2),(3,3),(4,4),(5,5),(6,6),(7,7),(56,56),(57,57),(100,58),(59,59)]⟩ [0,1,3,4,5,34,35,36] (by kernel_rfl) trivial) ?_
      obtain rfl:=oi h
      exact lN
     ·refine cf hb1 ?_
      refine aP (rz tT ⟨[dS,(1,(vP 1 0)),(Ew u4),(4,(vP 57 0)),(5,(vP 59 0)),(J7 r_ u0),(KQ r_ u0),(Zl u3)],(R6 r_ u0 u2 u4 u7 u6)⟩ {} [] ?_)
      obtain rfl:=oi h
      exact lN
    ·refine cf hb2 ?_
     refine aI (fz (ahS u4 u2 r_ u7 u0 u6) []) ?_
     refine aX ?_
     obtain rfl:=oi h
     exact lB
   ·clear hy
    cases y with
    |brk z=>
     obtain⟨u8,v4⟩:=z
     unfold dU
     refine⟨_, .refl, ?_⟩
     refine aQ (bE h fun u5 hr_2 h=> ?_)
     have q0:=rk [(0,57),(1,58),(2,101)] (sG (⟨v4⟩:aM) hr_2)
     refine rg tT ⟨[dS,(1,(vP 1 0)),(Ew u8),(4,(vP 57 0)),(5,(vP 59 0)),(9,(vP 102 0)),(10,(vB u5.2.1))],(ajn u2 r_ u0 u6 u5 u8)⟩ [_] {an:=[(0,cA q0 [57,58])],fr:=[(4,102)] } [] ⟨q0,trivial⟩ ?_
     refine aQ (sz tT ⟨[dS,(1,(vP 1 0)),(Ew u8),(4,(vP 57 0)),(5,(vP 59 0)),(9,(vP 102 0)),(73,(vB (!u5.2.1)))],(ajn u2 r_ u0 u6 u5 u8)⟩ {} [] ?_)
     refine bI h (fun hb3 h=> ?_) (fun hb3 h=> ?_)
     ·refine ct hb3 ?_
      refine aI (fz ⟨[],[vR,sW,qB,(qE u2),(Dt r_),(DJ r_),(DR r_),(Dq r_)]⟩ []) ?_
      refine aR ?_
      obtain rfl:=oi h
      exact lR bS (bT 0) bR (aU.mk (.inr rfl) (p:=[]) (l:=[]) (by kernel_rfl) trivial (cu.refl _) (.refl _))
     ·refine cf hb3 ?_
      refine aP (rz tT ⟨(ZM u8),[vR,sW,qB,(qE u2),(Dt r_),(DJ r_),(DR r_),(Dq r_),(NU u8),(YF u5),(59,some (OG u5)),(Zb u5)]⟩ {} [] ?_)
      refine sz tT ⟨[dS,(1,(vP 1 0)),(Ew u8),(4,(vP 57 0)),(75,(.v (.agg [(cI u5.1.e0),(cI u5.1.e1)])))],[vR,sW,qB,(qE u2),(Dt r_),(DJ r_),(DR r_),(Dq r_),(NU u8),(YF u5),(Zb u5)]⟩ {} [] ?_
      refine ri tT ⟨[dS,(1,(vP 1 0)),(Ew u8),(4,(vP 57 0)),(5,(vP 103 0))],[vR,sW,qB,(qE u2),(Dt r_),(DJ r_),(DR r_),(Dq r_),(NU u8),(YF u5),(Zb u5),(103,some (OG u5))]⟩ [] {fr:=[(0,103)] } [] trivial (bG.fin (st':=⟨(ZM u8),[vR,sW,qB,(qE u2),(Dt r_),(DJ r_),(DR r_),(Dq r_),(NU u8),(57,some (.cells 226 [(.own 58 false u5.2.2.l.length)])),(58,some (bO 164 2 af.cell u5.2.2.l)),(59,some (OG u5))]⟩) (cs:=[]) ⟨[],[(0,0),(1,1),(2,2),(3,3),(4,4),(5,5),(6,6),(7,7),(56,56),(57,57),(101,58),(103,59)]⟩ [0,1,3,4,5] (by kernel_rfl) trivial) ?_
      obtain rfl:=oi h
      exact lN
    |ret v=>
     obtain rfl:=oi h
     unfold dU
     intro e st hn ha hR
     cases e with
     |normal=>exact absurd rfl hn
     |exit id=>simp only [rC (b:=1) ha rfl,cond_false];exact hR
     |goto l=>exact hR
     |ret=>exact hR
     |panic c=>exact hR
     |outgrown=>exact hR
  ·skip
   refine rg tT ⟨[dS,(1,(vP 1 0)),(Ew v1),(4,(vP 57 0)),(5,(vP 59 0)),(26,(vB true))],[(abU r_),sW,qB,(qE u2),(Dt r_),(DJ r_),(DR r_),(Dq r_),(NU v1),(UQ q0),(Vt q0),(NT u0 u6)]⟩ [(0:Int)≤0∧(0:Int)<(2:Nat),(0:Int)≤1∧(1:Int)<(2:Nat),Yl Try.prog 0 [(sI u0),(sI u6)] (aeQ u2 v0 u9 v3) (vB false) (Zd u2 r_)] {an:=[(5, .call [0,2,3,4,5,6,7] (vB false) (Zd u2 r_))] } [] ⟨((by decide)),((by decide)),(Yl.leR (res:=(vB (Nat.beq r_.1 0))) (hout:=(Zd u2 r_)) (yK [(1,2),(1,3),(1,4),(1,5),(1,6),(1,7)] (lZ u0 u6 u2 v0 (⟨u9,v3⟩:Network) hr_)) (cu.of (congrArg vB hb)) (.refl _)),trivial⟩ ?_
   refine ck (aI (fz ⟨[],[(abU r_),sW,qB,(qE u2),(Dt r_),(DJ r_),(DR r_),(Dq r_)]⟩ []) ?_)
   refine aR ?_
   obtain rfl:=oi h
   exact lR bS (bT 0) bR (aU.mk (.inr rfl) (p:=[]) (l:=[]) (by kernel_rfl) trivial (cu.refl _) (.refl _))
 ·clear hy
  cases y1 with
  |brk z=>exact absurd h (by simp)
  |ret v=>
   obtain rfl:=oi h
   unfold dU
   intro e st hn ha hR
   cases e with
   |normal=>exact absurd rfl hn
   |exit id=>exact hR
   |goto l=>exact hR
   |ret=>exact hR
   |panic c=>exact hR
   |outgrown=>exact hR
def iN  :Network→Exit→St→Prop:=
  fun r=>aU TT [] (.gK []) [(0,some (.cells 161 [(.own 1 false r.arcs.length),(.d (aJ none 1 (L8 1 (aj .i64)) r.from_))])),(1,some (bO 170 2 bJ.cell r.arcs))]
section
variable (o0:(List bJ)) (o1:(List (List Int))) (u0:Int)
abbrev Z5:Nat × Option Ob:=(0,some (.cells 161 [(.own 1 false o0.length),(.d (Sm o1))]))
abbrev PG:Nat × Option Ob:=(20,some (.cells 157 [(.ptr 0 0)]))
abbrev Qh:Nat × Option Ob:=(21,some (.cells 3 [(cI u0)]))
end
def kE (u0:Int):((List bJ) × (List (List Int)))→St:=
  fun zz=>match zz with|(o0,o1)=> ⟨[(2,(vP 20 0)),(3,(vP 21 0))],[(Z5 o0 o1),(1,some (bO 170 2 bJ.cell o0)),PG,(Qh u0)]⟩
def kD  :Unit→St:=
  fun _=> ⟨[],[]⟩
def AJ (u0:Int):(aK ((List bJ) × (List (List Int))) (Ex Unit Network))→Exit→St→Prop:=
  LQ 0 [] (kE u0) kD (SQ1 iN)
section
variable (o1:(List (List Int))) (u0:(Nat × (List Int) × Network)) (u1:Int) (o0:(List bJ))
abbrev QX:List (Nat × TV):=[(2,(vP 20 0)),(3,(vP 21 0)),(4,(vP 35 0))]
abbrev PL:=(List.replicate ((o1.length:Int).toNat) (0:Int))
abbrev adF:Nat × Option Ob:=(34,some (bO 3 1 (aj .i64) (PL o1)))
abbrev ac4:Nat × Option Ob:=(35,some (.cells 40 [(.own 34 true ((PL o1).length))]))
abbrev ae1:List (Nat × TV):=[(2,(vP 20 0)),(3,(vP 21 0)),(4,(vP 35 0)),(18,(.v (.one (.fn 121 0 1 (C9 [(.ptr 36 0)])))))]
abbrev Zo:Nat × Option Ob:=(36,some (.cells 157 [(.ptr 0 0)]))
abbrev ZL:Nat × Option Ob:=(0,some (.cells 161 [(.own 1 false u0.2.2.arcs.length),(.d (aJ none 1 (L8 1 (aj .i64)) u0.2.2.from_))]))
abbrev Yk:Nat × Option Ob:=(1,some (bO 170 2 bJ.cell u0.2.2.arcs))
abbrev ag5:List (Nat × Option Ob):=[(37,some (.loop aS u0.1 QX)),Zo,PG,(Qh u1),(35,some (.cells 40 [(.own 34 true u0.2.1.length)])),(ZL u0),(34,some (bO 3 1 (aj .i64) u0.2.1)),(Yk u0)]
abbrev aeJ:List (Nat × Option Ob):=[(37,some (.loop aS 0 QX)),Zo,PG,(Qh u1),(ac4 o1),(Z5 o0 o1),(adF o1),(1,some (bO 170 2 bJ.cell o0))]
abbrev ahW:St:=⟨ae1,[(ZL u0),(Yk u0),PG,(Qh u1),(34,some (bO 3 1 (aj .i64) u0.2.1)),(35,some (.cells 40 [(.own 34 true u0.2.1.length)])),Zo]⟩
end
theorem qx (u1:Int) (u2:Network) {r:Network} (h:nN u1 u2=some r):Fn Try.prog 80 [(.one (.ptr 0 0)),(sI u1)] (ahz u2) (.gK []) [(0,some (.cells 161 [(.own 1 false r.arcs.length),(.d (aJ none 1 (L8 1 (aj .i64)) r.from_))])),(1,some (bO 170 2 bJ.cell r.arcs))]:=by
 refine fN tT Try.func80 rfl rfl fun B=> ?_
 show bn _ _ _ _ _ _ (iN r) _
 unfold nN at h
 refine sz tT ⟨[(2,(vP 20 0)),(3,(vP 21 0))],[(ZK u2),(Xa u2),PG,(Qh u1)]⟩ {fr:=[(0,20),(1,21)] } [] ?_
 refine SN ?_
 refine aQ (Uv ?_)
 refine bE h fun y hy h=> ?_
 refine aL [] (kE u1) kD (SQ1 iN) hy (fun s f h=> ?_) ?_
 ·clear hy
  show bn _ _ _ _ _ _ ((AJ u1) f) _
  unfold pJ at h
  obtain⟨o0,o1⟩:=s
  refine aB (aQ (aO h fun⟨a1,a2,a3⟩ h=> ?_))
  refine rg tT ⟨QX,[(Z5 o0 o1),(1,some (bO 170 2 bJ.cell o0)),PG,(Qh u1),(adF o1),(ac4 o1)]⟩ [_,((o1.length:Int):Int)=(o1.length:Int),_,_,(PL o1).length=((o1.length:Int).toNat),aC ((o1.length:Int).toNat) 1 (fun _ j=>[(.int .i64 0)].getD j .nilp) (au (aj .i64) (PL o1))] {an:=[(5, .arr (PL o1).length (au (aj .i64) (PL o1)))],fr:=[(5,34),(6,35)] } [] ⟨a1,rfl,a2,a3,(List.length_replicate),(cZ _ _ _ _ _ (fun j hj=>(match j,hj with|0,_=>rfl))),trivial⟩ ?_
  refine aQ (aQ (bE h fun r_ hr_ h=> ?_))
  have q0:=rk [(2,36)] (iR (⟨o0,o1⟩:Network) hr_)
  refine rg tT ⟨ae1,[(Z5 o0 o1),(1,some (bO 170 2 bJ.cell o0)),PG,(Qh u1),(adF o1),(ac4 o1),Zo]⟩ [_] {an:=[(1,cA q0 [0,1])] } [] ⟨q0,trivial⟩ ?_
  refine aB (bE h fun u0 hr_1 h=> ?_)
  refine bI h (fun hb h=> ?_) (fun hb h=> ?_)
  ·skip
   refine jG 37 QX [.exit 1] [37,36,20,21,35,0,34,1] (.gK []) (ag5 u0 u1) (.v (.one (.fn 121 0 1 (C9 [(.ptr 36 0)])))) 121 [] [(.ptr 36 0)] (aeJ o1 u1 o0) [(.one (.yl 37)),(.one (.ptr 36 0))] aS u0.1 QX (by kernel_rfl) (by kernel_rfl) (by kernel_rfl) (by kernel_rfl) (by kernel_rfl) (by kernel_rfl) (by kernel_rfl) (rK [(0,37),(1,36),(2,20),(3,21),(4,35),(5,0),(6,34),(7,1)] (lD u1 (PL o1) (⟨o0,o1⟩:Network) hr_1)) (by kernel_rfl) rfl (EG.zero (Nat.eq_of_beq_eq_true hb)) (bG.fin (st':=(ahW u0 u1)) (cs:=[]) ⟨[],[(0,0),(1,1),(20,20),(21,21),(34,34),(35,35),(36,36)]⟩ [2,3,4,18] (by kernel_rfl) trivial) ?_
   refine aI (fz ⟨[],[(ZL u0),(Yk u0)]⟩ []) ?_
   refine aR ?_
   obtain rfl:=oi h
   exact lR bS (bT 0) bR (ad8 (aU.mk (.inr rfl) (p:=[]) (l:=[]) (by kernel_rfl) trivial (cu.refl _) (.refl _)))
  ·skip
   refine aO h fun a1 h=> ?_
   refine jG 37 QX [.exit 1] [37,36,20,21,35,0,34,1] (.gK []) (ag5 u0 u1) (.v (.one (.fn 121 0 1 (C9 [(.ptr 36 0)])))) 121 [] [(.ptr 36 0)] (aeJ o1 u1 o0) [(.one (.yl 37)),(.one (.ptr 36 0))] aS u0.1 QX (by kernel_rfl) (by kernel_rfl) (by kernel_rfl) (by kernel_rfl) (by kernel_rfl) (by kernel_rfl) (by kernel_rfl) (rK [(0,37),(1,36),(2,20),(3,21),(4,35),(5,0),(6,34),(7,1)] (lD u1 (PL o1) (⟨o0,o1⟩:Network) hr_1)) (by kernel_rfl) rfl (EG.ajE (k:=0) (e:=(.exit 1)) a1 rfl rfl rfl) (.trans (bG.fin (st':=(ahW u0 u1)) (cs:=[]) ⟨[],[(0,0),(1,1),(20,20),(21,21),(34,34),(35,35),(36,36)]⟩ [2,3,4,18] (by kernel_rfl) trivial) (bG.fin (st':=⟨[(2,(vP 20 0)),(3,(vP 21 0))],[(ZL u0),(Yk u0),PG,(Qh u1)]⟩) (cs:=[]) ⟨[],[(0,0),(1,1),(20,20),(21,21)]⟩ [2,3] (by kernel_rfl) trivial)) ?_
   obtain rfl:=oi h
   exact Tj (b:=0) (av:=[]) (S:=(kE u1)) (Sb:=kD) (Qo:=(SQ1 iN)) (by kernel_rfl)
 ·clear hy
  cases y with
  |brk z=>exact absurd h (by simp)
  |ret v=>
   obtain rfl:=oi h
   unfold dU
   intro e st hn ha hR
   cases e with
   |normal=>exact absurd rfl hn
   |exit id=>exact hR
   |goto l=>exact hR
   |ret=>exact hR
   |panic c=>exact hR
   |outgrown=>exact hR
noncomputable def dM:oD:=⟨[236,237],Ja ([1,1,1,1,1,1,1,1,1,1,1,1,1,1,0,1,0]++[0]) (nL Try.f32),Ja ([1,1,1,1,1,1,1,1,1,1,1,1,1,1,0,1,0]++[1]) (nL Try.f32),252,[]⟩
section
variable (u0:ah)
abbrev TM:List (Nat × TV):=[(2,(vP 1 0)),(28,(vP 2 0))]
abbrev wo:Nat × Option Ob:=(0,some (.loop dM 0 TM))
abbrev sK:Nat × Option Ob:=(1,some (Yh u0))
end
def D6 (u0:ah):(List Bool)→Exit→St→Prop:=
  fun r=>nJ 0 dM (vB true) [wo,(sK u0),(2,some (.cells 27 [(.own 3 true r.length)])),(3,some (bO 4 1 ai r))]
section
variable (o_:(List Bool)) (u0:ah) (u1:Int)
abbrev yQ:Nat × Option Ob:=(2,some (.cells 27 [(.own 3 true o_.length)]))
abbrev xI:Nat × Option Ob:=(3,some (bO 4 1 ai o_))
abbrev Nu:List (Nat × Option Ob):=[wo,(sK u0),(yQ o_),(xI o_)]
abbrev abn:Nat × Option Ob:=(0,some (.loop dM 1 TM))
abbrev ac9:List (Nat × Option Ob):=[abn,(sK u0),(yQ o_),(xI o_)]
abbrev adg:=(au ai (o_.set ((k13 u1).toNat) true))
end
theorem BZ (u1:Int) (u2:Int) (u0:ah) (o_:(List Bool)) {r:(List Bool)} (h:qc u1 u2 u0 o_=some r):Yl Try.prog 0 [(sI u1),(sI u2)] (Nu o_ u0) (vB true) [wo,(sK u0),(2,some (.cells 27 [(.own 3 true r.length)])),(3,some (bO 4 1 ai r))]:=by
 refine Gc (r:=dM) (sl:=TM) (sl1:=[(2,(vP 1 0)),(28,(vP 2 0)),(29,(vI u1))]) (h1:=(Nu o_ u0)) (sl2:=TM) (by kernel_rfl) rfl rfl (by kernel_rfl) (fun rd B=> ?_) (by kernel_rfl) (fun rd B=> ?_)
 ·refine sH (c:=Ja ([1,1,1,1,1,1,1,1,1,1,1,1,1,1,0,1,0]++[0]) (nL Try.f32)) rfl ?_
  refine oU (st:=⟨[(236,(vI u1)),(237,(vI u2)),(2,(vP 1 0)),(28,(vP 2 0))],(Nu o_ u0)⟩) (by kernel_rfl) ?_
  refine rz tT ⟨[(2,(vP 1 0)),(28,(vP 2 0)),(29,(vI u1))],(Nu o_ u0)⟩ {} [] ?_
  exact⟨rfl,rfl⟩
 ·refine sH (c:=Ja ([1,1,1,1,1,1,1,1,1,1,1,1,1,1,0,1,0]++[1]) (nL Try.f32)) rfl ?_
  refine oU (st:=⟨[(2,(vP 1 0)),(28,(vP 2 0)),(29,(vI u1))],(ac9 o_ u0)⟩) (by kernel_rfl) ?_
  show bn _ _ _ _ _ _ ((D6 u0) r) _
  unfold qc at h
  refine aB (sg tT ⟨[(28,(vP 2 0)),(29,(vI u1)),(245,(vB (bif (decide (0<u1))then(decide (u1≤u0.buses))else false)))],(ac9 o_ u0)⟩ (eqs (decide (0<u1)) 5 []) {yb:=[(2,(decide (0<u1)))] } [] (ae trivial) ?_)
  refine bI h (fun hb h=> ?_) (fun hb h=> ?_)
  ·refine ct hb ?_
   refine aO h fun a1 h=> ?_
   refine ri tT ⟨[],[abn,(sK u0),(yQ o_),(3,some (.arr 4 1 o_.length (adg o_ u1)))]⟩ [_,_,aC o_.length 1 (jS (au ai o_) ((k13 u1).toNat) 0 [(.bool true)]) (adg o_ u1)] {an:=[(4, .arr 0 (adg o_ u1))] } [] ⟨a1,(tL a1),(bD _ _ _ _ _ _ _ _ rfl (fun j hj=>(match j,hj with|0,_=>rfl))),trivial⟩ (bG.le (st':=⟨[],[abn,(sK u0),(2,some (.cells 27 [(.own 3 true ((o_.set ((k13 u1).toNat) true).length))])),(3,some (bO 4 1 ai (o_.set ((k13 u1).toNat) true)))]⟩) ⟨trivial,(hN 2 ⟨rfl,bB ⟨cW,trivial⟩,⟨rfl,oW,trivial⟩⟩)⟩) ?_
   obtain rfl:=oi h
   exact nJ.on (sl:=TM) (by kernel_rfl) (AQ (by kernel_rfl)) (cu.refl _)
  ·refine cf hb ?_
   refine aI (fz ⟨[],(ac9 o_ u0)⟩ []) ?_
   refine aP ?_
   obtain rfl:=oi h
   exact nJ.on (sl:=TM) (by kernel_rfl) (AQ (by kernel_rfl)) (cu.refl _)
def gy (u0:ah):(List Bool)→Exit→St→Prop:=
  fun r=>aU TT [] (.gK []) [wo,(sK u0),(2,some (.cells 27 [(.own 3 true r.length)])),(3,some (bO 4 1 ai r))]
section
variable (x1:(List bJ)) (u3:(List (List Int))) (u2:(List Bool)) (q0:(List af)) (u4:Int) (u5:Int) (u0:ah) (u1:(List Bool))
abbrev zh:Nat × TV:=(1,(vD (mg [(mg [(aJ none 2 bJ.cell x1),(Sm u3)] 0)] 0)))
abbrev Gl:Nat × TV:=(3,(vO 52 true u2.length))
abbrev ad1:List (Nat × TV):=[dS,(zh x1 u3),(Gl u2),(4,(vP 53 0)),(5,(vP 55 0))]
abbrev RG:Nat × Option Ob:=(52,some (bO 4 1 ai u2))
abbrev Zk:Nat × Option Ob:=(53,some (.cells 226 [(.own 54 false q0.length)]))
abbrev YS:Nat × Option Ob:=(54,some (bO 164 2 af.cell q0))
abbrev Rl:Nat × Option Ob:=(55,some (.cells 164 [(cI u4),(cI u5)]))
abbrev RA:List (Nat × Option Ob):=[wo,(sK u0),(yQ u1),(xI u1),(RG u2),(Zk q0),(YS q0),(Rl u4 u5)]
abbrev abQ:St:=⟨(ad1 x1 u3 u2),(RA u2 q0 u4 u5 u0 u1)⟩
end
def jU (x1:(List bJ)) (u3:(List (List Int))) (u0:ah):((List Bool) × (List Bool) × (List af) × Int × Int)→St:=
  fun zz=>match zz with|(u1,u2,q0,u4,u5)=>(abQ x1 u3 u2 q0 u4 u5 u0 u1)
def jA  :Unit→St:=
  fun _=> ⟨[],[]⟩
def fM (x1:(List bJ)) (u1:(List (List Int))) (u0:ah):(aK ((List Bool) × (List Bool) × (List af) × Int × Int) (Ex Unit (List Bool)))→Exit→St→Prop:=
  LQ 0 [] (jU x1 u1 u0) jA (gy u0)
section
variable (u1:(List (List Int))) (u2:Int)
abbrev Kv:Nat × TV:=(34,(vD (aJ none 1 (aj .i64) (at' u1 u2.toNat))))
abbrev Ka:Nat × TV:=(35,(vI ((at' u1 u2.toNat).length:Int)))
end
def jP (x1:(List bJ)) (u1:(List (List Int))) (u0:ah) (u2:Int) (u5:Int) (r_:(List Bool)):((List Bool) × (List af) × Int)→St:=
  fun zz=>match zz with|(u3,u4,u6)=> ⟨[dS,(zh x1 u1),(Gl u3),(4,(vP 53 0)),(5,(vP 55 0)),(Kv u1 u2),(Ka u1 u2),(36,(vI u6))],(RA u3 u4 u2 u5 u0 r_)⟩
def jq (x1:(List bJ)) (u3:(List (List Int))) (u0:ah) (u4:Int) (u5:Int) (r_:(List Bool)):((List Bool) × (List af))→St:=
  fun zz=>match zz with|(u1,u2)=>(abQ x1 u3 u1 u2 u4 u5 u0 r_)
def q9 (x1:(List bJ)) (u0:(List (List Int))) (u1:ah) (u2:Int) (u3:Int) (r_:(List Bool)):(aK ((List Bool) × (List af) × Int) (Ex ((List Bool) × (List af)) (aK ((List Bool) × (List Bool) × (List af) × Int × Int) (Ex Unit (List Bool)))))→Exit→St→Prop:=
  LQ 2 [1] (jP x1 u0 u1 u2 u3 r_) (jq x1 u0 u1 u2 u3 r_) (fM x1 u0 u1)
section
variable (u1:(List (List Int))) (x1:(List bJ)) (u2:Int) (u3:Int) (u0:ah) (r_:(List Bool)) (u4:(List Bool)) (u7:(List af)) (u6:Int) (u9:aM) (u5:(af × Bool × aM)) (u8:(List Bool))
abbrev PY:=(List.replicate ((u1.length:Int).toNat) (false:Bool))
abbrev aeI:List (Nat × TV):=[dS,(zh x1 u1),(3,(vO 52 true ((PY u1).length)))]
abbrev acT:=(au ai (PY u1))
abbrev adi:=((PY u1).set 0 true)
abbrev adR:=(au ai (adi u1))
abbrev abK:Nat × TV:=(3,(vO 52 true ((adi u1).length)))
abbrev XB:Nat × Option Ob:=(52,some (bO 4 1 ai (adi u1)))
abbrev acB:List (Nat × TV):=[dS,(zh x1 u1),(abK u1),(4,(vP 53 0))]
abbrev Xd:Nat × TV:=(7,(vI (at' (at' u1 u2.toNat) u3.toNat)))
abbrev QZ:=(at' x1 ((at' (at' u1 u2.toNat) u3.toNat).toNat))
abbrev Uu:=((QZ u1 x1 u2 u3).to_)
abbrev ajh:List (Nat × Option Ob):=[wo,(sK u0),(yQ r_),(xI r_),(RG u4),(Zk u7),(YS u7),(Rl u2 u6),(95,some (.cells 170 [(cI (Uu u1 x1 u2 u3)),(cI ((QZ u1 x1 u2 u3).left))]))]
abbrev Ps:=(decide (0<((QZ u1 x1 u2 u3).left)))
abbrev afe:Nat × TV:=(8,(vD (mg [(.int .i64 (Uu u1 x1 u2 u3)),(.int .i64 ((QZ u1 x1 u2 u3).left))] 0)))
abbrev adr:=(u4.set ((Uu u1 x1 u2 u3).toNat) true)
abbrev ace:=(au ai (adr u1 x1 u2 u3 u4))
abbrev ad7:Nat × TV:=(3,(vO 52 true ((adr u1 x1 u2 u3 u4).length)))
abbrev acS:Nat × Option Ob:=(52,some (bO 4 1 ai (adr u1 x1 u2 u3 u4)))
abbrev agL:List (Nat × Option Ob):=[wo,(sK u0),(yQ r_),(xI r_),(acS u1 x1 u2 u3 u4),(53,some (.cells 226 [(.own 96 false u9.l.length)])),(Rl u2 u6),(96,some (NZ u9))]
abbrev ae5:List (Nat × TV):=[dS,(zh x1 u1),(ad7 u1 x1 u2 u3 u4),(4,(vP 53 0)),(5,(vP 55 0)),(Kv u1 u2),(Ka u1 u2),(Zl u3)]
abbrev aah:Nat × Option Ob:=(53,some (.cells 226 [(.own 97 false u5.2.2.l.length)]))
abbrev aae:Nat × Option Ob:=(97,some (bO 164 2 af.cell u5.2.2.l))
abbrev ahi:List (Nat × Option Ob):=[wo,(sK u0),(yQ r_),(xI r_),(RG u8),(aah u5),(Rl u2 u6),(aae u5),(98,some (OG u5))]
end
theorem jW (x1:(List bJ)) (u1:(List (List Int))) (u0:ah) (o_:(List Bool)) {r:(List Bool)} (h:gV x1 u1 u0 o_=some r):Fn Try.prog 121 [(.one (.yl 0)),(sD (mg [(mg [(aJ none 2 bJ.cell x1),(Sm u1)] 0)] 0))] (Nu o_ u0) (.gK []) [wo,(sK u0),(2,some (.cells 27 [(.own 3 true r.length)])),(3,some (bO 4 1 ai r))]:=by
 refine fN tT Try.func121 rfl rfl fun B=> ?_
 show bn _ _ _ _ _ _ ((gy u0) r) _
 unfold gV at h
 refine aQ (aO h fun⟨a1,a2,a3⟩ h=> ?_)
 refine rg tT ⟨(aeI u1 x1),[wo,(sK u0),(yQ o_),(xI o_),(52,some (bO 4 1 ai (PY u1)))]⟩ [_,((u1.length:Int):Int)=(u1.length:Int),_,_,(PY u1).length=((u1.length:Int).toNat),aC ((u1.length:Int).toNat) 1 (fun _ j=>[(.bool false)].getD j .nilp) (acT u1)] {an:=[(5, .arr (PY u1).length (acT u1))],fr:=[(5,52)] } [] ⟨a1,rfl,a2,a3,(List.length_replicate),(cZ _ _ _ _ _ (fun j hj=>(match j,hj with|0,_=>rfl))),trivial⟩ ?_
 refine aQ (aO h fun a1 h=> ?_)
 refine ri tT ⟨(aeI u1 x1),[wo,(sK u0),(yQ o_),(xI o_),(52,some (.arr 4 1 (PY u1).length (adR u1)))]⟩ [_,_,aC (PY u1).length 1 (jS (acT u1) 0 0 [(.bool true)]) (adR u1)] {an:=[(2, .arr 0 (adR u1))] } [] ⟨a1,(tL a1),(bD _ _ _ _ _ _ _ _ rfl (fun j hj=>(match j,hj with|0,_=>rfl))),trivial⟩ (bG.le (st':=⟨[dS,(zh x1 u1),(abK u1)],[wo,(sK u0),(yQ o_),(xI o_),(XB u1)]⟩) ⟨⟨tR,tR,⟨_,rfl,cu.v (dm.one cW)⟩,trivial⟩,(hN 4 ⟨rfl,oW,trivial⟩)⟩) ?_
 refine si tT ⟨(acB u1 x1),[wo,(sK u0),(yQ o_),(xI o_),(XB u1),(53,some (.cells 226 [(.d nS)]))]⟩ [] {fr:=[(0,53)] } [] trivial (.trans (bG.Aj (E:=0) (esz:=0) (E0:=226) (cs:=[(.d nS)]) (p:=53) (q:=0) (b:=54) (esz0:=0) (el0:=fun _ _=> .nilp) (ob:= .arr 164 2 0 (au af.cell ([]:List af))) (fun _ _ _ _ h=> .inl ⟨h,rfl⟩) (by kernel_rfl) (by kernel_rfl) (by kernel_rfl)) (.trans (fz ⟨(acB u1 x1),[wo,(sK u0),(yQ o_),(xI o_),(XB u1),(53,some (.cells 226 [(.own 54 false 0)])),(54,some (.arr 164 2 0 (au af.cell ([]:List af))))]⟩ []) (bG.le (st':=⟨(acB u1 x1),[wo,(sK u0),(yQ o_),(xI o_),(XB u1),(53,some (.cells 226 [(.own 54 false (([]:List af).length))])),(54,some (bO 164 2 af.cell ([]:List af)))]⟩) ⟨⟨tR,tR,tR,tR,trivial⟩,(hN 5 ⟨rfl,bB ⟨cW,trivial⟩,⟨rfl,oW,trivial⟩⟩)⟩))) ?_
 refine sz tT ⟨[dS,(zh x1 u1),(abK u1),(4,(vP 53 0)),(5,(vP 55 0))],[wo,(sK u0),(yQ o_),(xI o_),(XB u1),(53,some (.cells 226 [(.own 54 false (([]:List af).length))])),(54,some (bO 164 2 af.cell ([]:List af))),(55,some (.cells 164 [(cI 0),(cI (-1))]))]⟩ {fr:=[(1,55)] } [] ?_
 refine bE h fun y1 hy h=> ?_
 refine aL [] (jU x1 u1 u0) jA (gy u0) hy (fun s f h=> ?_) ?_
 ·clear hy
  show bn _ _ _ _ _ _ ((fM x1 u1 u0) f) _
  unfold jr at h
  obtain⟨v1,v0,q0,u2,u6⟩:=s
  refine aQ (aB (aQ (aQ (bE h fun r_ hr_ h=> ?_))))
  refine rg tT ⟨[dS,(zh x1 u1),(Gl v0),(4,(vP 53 0)),(5,(vP 55 0)),(26,(vB false))],(RA v0 q0 u2 u6 u0 r_)⟩ [(0:Int)≤0∧(0:Int)<(2:Nat),(0:Int)≤1∧(1:Int)<(2:Nat),Yl Try.prog 0 [(sI u2),(sI u6)] (Nu v1 u0) (vB true) (Nu r_ u0)] {an:=[(5, .call [0,1,2,3] (vB true) (Nu r_ u0))] } [] ⟨((by decide)),((by decide)),(BZ u2 u6 u0 v1 hr_),trivial⟩ ?_
  refine cn (aP (aQ (aQ (aO h fun a1 h=> ?_))))
  refine dg tT mX ⟨[dS,(zh x1 u1),(Gl v0),(4,(vP 53 0)),(5,(vP 55 0)),(Kv u1 u2),(Ka u1 u2),(36,(vI 0))],(RA v0 q0 u2 u6 u0 r_)⟩ [(0:Int)≤0∧(0:Int)<(2:Nat),_] {} [] ⟨((by decide)),a1,trivial⟩ ?_
  refine bE h fun y hy h=> ?_
  refine aL [1] (jP x1 u1 u0 u2 u6 r_) (jq x1 u1 u0 u2 u6 r_) (fM x1 u1 u0) hy (fun s f h=> ?_) ?_
  ·clear hy
   show bn _ _ _ _ _ _ ((q9 x1 u1 u0 u2 u6 r_) f) _
   unfold jo at h
   obtain⟨u4,u7,u3⟩:=s
   refine sz tT ⟨[dS,(zh x1 u1),(Gl u4),(4,(vP 53 0)),(5,(vP 55 0)),(Kv u1 u2),(Ka u1 u2),(36,(vI u3)),(37,(vB (decide (u3<((at' u1 u2.toNat).length:Int)))))],(RA u4 u7 u2 u6 u0 r_)⟩ {} [] ?_
   refine aQ ?_
   refine bI h (fun hb1 h=> ?_) (fun hb1 h=> ?_)
   ·refine ct hb1 ?_
    refine aP (aQ (aB (aQ (aO h fun a1 h=> ?_))))
    refine rg tT ⟨[dS,(zh x1 u1),(Gl u4),(4,(vP 53 0)),(5,(vP 55 0)),(Xd u1 u2 u3),(Kv u1 u2),(Ka u1 u2),(36,(vI u3))],(RA u4 u7 u2 u6 u0 r_)⟩ [_] {} [] ⟨a1,trivial⟩ ?_
    refine aQ (aO h fun a1 h=> ?_)
    refine rg tT ⟨[dS,(zh x1 u1),(Gl u4),(4,(vP 53 0)),(5,(vP 55 0)),(Xd u1 u2 u3),(8,(vP 95 0)),(Kv u1 u2),(Ka u1 u2),(36,(vI u3))],(ajh u1 x1 u2 u3 u0 r_ u4 u7 u6)⟩ [_] {fr:=[(7,95)] } [] ⟨a1,trivial⟩ ?_
    refine aQ (aO h fun a1 h=> ?_)
    refine rg tT ⟨[dS,(zh x1 u1),(Gl u4),(4,(vP 53 0)),(5,(vP 55 0)),(Xd u1 u2 u3),(8,(vP 95 0)),(Kv u1 u2),(Ka u1 u2),(36,(vI u3)),(57,(vB (bif (Ps u1 x1 u2 u3)then(!(at' u4 ((Uu u1 x1 u2 u3).toNat)))else false)))],(ajh u1 x1 u2 u3 u0 r_ u4 u7 u6)⟩ (eqs (Ps u1 x1 u2 u3) 4 ((gP (gG [(3,(Ps u1 x1 u2 u3))]) [(3,true)]→All [(0:Int)≤(QZ u1 x1 u2 u3).to_∧(QZ u1 x1 u2 u3).to_<(u4.length:Int)])::((Ps u1 x1 u2 u3)=(Ps u1 x1 u2 u3))::(gP (gG [(3,(Ps u1 x1 u2 u3))]) [(3,true)]→All [(Uu u1 x1 u2 u3).toNat<u4.length])::(eqs (Ps u1 x1 u2 u3) 2 []))) {yb:=[(3,(Ps u1 x1 u2 u3))] } [] (ae ⟨(fun hg=> ⟨(a1 (aN hg)),trivial⟩),rfl,(fun hg=> ⟨((fun hq=>tL (a1 hq)) (aN hg)),trivial⟩),(ae trivial)⟩) ?_
    refine bI h (fun hb h=> ?_) (fun hb h=> ?_)
    ·refine ct hb ?_
     refine aQ (aO h fun a1 h=> ?_)
     refine ri tT ⟨[dS,(zh x1 u1),(Gl u4),(4,(vP 53 0)),(5,(vP 55 0)),(Xd u1 u2 u3),(afe u1 x1 u2 u3),(Kv u1 u2),(Ka u1 u2),(36,(vI u3))],[wo,(sK u0),(yQ r_),(xI r_),(52,some (.arr 4 1 u4.length (ace u1 x1 u2 u3 u4))),(Zk u7),(YS u7),(Rl u2 u6)]⟩ [_,_,aC u4.length 1 (jS (au ai u4) ((Uu u1 x1 u2 u3).toNat) 0 [(.bool true)]) (ace u1 x1 u2 u3 u4)] {an:=[(4, .arr 0 (ace u1 x1 u2 u3 u4))] } [95] ⟨a1,(tL a1),(bD _ _ _ _ _ _ _ _ rfl (fun j hj=>(match j,hj with|0,_=>rfl))),trivial⟩ (bG.le (st':=⟨[dS,(zh x1 u1),(ad7 u1 x1 u2 u3 u4),(4,(vP 53 0)),(5,(vP 55 0)),(Xd u1 u2 u3),(afe u1 x1 u2 u3),(Kv u1 u2),(Ka u1 u2),(36,(vI u3))],[wo,(sK u0),(yQ r_),(xI r_),(acS u1 x1 u2 u3 u4),(Zk u7),(YS u7),(Rl u2 u6)]⟩) ⟨⟨tR,tR,⟨_,rfl,cu.v (dm.one cW)⟩,tR,tR,tR,tR,tR,tR,tR,trivial⟩,(hN 4 ⟨rfl,oW,(.refl _)⟩)⟩) ?_
     refine bE h fun u9 hr_1 h=> ?_
     have q0:=rk [(0,53),(1,54),(2,96)] (uq (⟨(QZ u1 x1 u2 u3).to_,(at' (at' u1 u2.toNat) u3.toNat)⟩:af) (⟨u7⟩:aM) hr_1)
     refine rg tT ⟨[dS,(zh x1 u1),(ad7 u1 x1 u2 u3 u4),(4,(vP 53 0)),(5,(vP 55 0)),(Kv u1 u2),(Ka u1 u2),(36,(vI u3))],(agL u1 x1 u2 u3 u0 r_ u4 u6 u9)⟩ [_] {an:=[(4,cA q0 [53,54])] } [] ⟨q0,trivial⟩ ?_
     refine ri tT ⟨(ae5 u1 x1 u2 u3 u4),(agL u1 x1 u2 u3 u0 r_ u4 u6 u9)⟩ [] {} [] trivial (bG.fin (st':=⟨(ae5 u1 x1 u2 u3 u4),[wo,(sK u0),(yQ r_),(xI r_),(acS u1 x1 u2 u3 u4),(53,some (.cells 226 [(.own 54 false u9.l.length)])),(54,some (NZ u9)),(Rl u2 u6)]⟩) (cs:=[]) ⟨[],[(0,0),(1,1),(2,2),(3,3),(52,52),(53,53),(96,54),(55,55)]⟩ [0,1,3,4,5,34,35,36] (by kernel_rfl) trivial) ?_
     obtain rfl:=oi h
     exact lN
    ·refine cf hb ?_
     refine aP (rz tT ⟨[dS,(zh x1 u1),(Gl u4),(4,(vP 53 0)),(5,(vP 55 0)),(Kv u1 u2),(Ka u1 u2),(Zl u3)],(RA u4 u7 u2 u6 u0 r_)⟩ {} [] ?_)
     obtain rfl:=oi h
     exact lN
   ·refine cf hb1 ?_
    refine aI (fz (abQ x1 u1 u4 u7 u2 u6 u0 r_) []) ?_
    refine aX ?_
    obtain rfl:=oi h
    exact lB
  ·clear hy
   cases y with
   |brk z=>
    obtain⟨u8,v2⟩:=z
    unfold dU
    refine⟨_, .refl, ?_⟩
    refine aQ (bE h fun u5 hr_2 h=> ?_)
    have q0:=rk [(0,53),(1,54),(2,97)] (sG (⟨v2⟩:aM) hr_2)
    refine rg tT ⟨[dS,(zh x1 u1),(Gl u8),(4,(vP 53 0)),(5,(vP 55 0)),(9,(vP 98 0)),(10,(vB u5.2.1))],(ahi u2 u0 r_ u6 u5 u8)⟩ [_] {an:=[(0,cA q0 [53,54])],fr:=[(4,98)] } [] ⟨q0,trivial⟩ ?_
    refine aQ (sz tT ⟨[dS,(zh x1 u1),(Gl u8),(4,(vP 53 0)),(5,(vP 55 0)),(9,(vP 98 0)),(73,(vB (!u5.2.1)))],(ahi u2 u0 r_ u6 u5 u8)⟩ {} [] ?_)
    refine bI h (fun hb2 h=> ?_) (fun hb2 h=> ?_)
    ·refine ct hb2 ?_
     refine aI (fz ⟨[],(Nu r_ u0)⟩ []) ?_
     refine aR ?_
     obtain rfl:=oi h
     exact lR bS (bT 0) bR (aU.mk (.inr rfl) (p:=[]) (l:=[]) (by kernel_rfl) trivial (cu.refl _) (.refl _))
    ·refine cf hb2 ?_
     refine aP (rz tT ⟨(ad1 x1 u1 u8),[wo,(sK u0),(yQ r_),(xI r_),(RG u8),(aah u5),(55,some (OG u5)),(aae u5)]⟩ {} [] ?_)
     refine sz tT ⟨[dS,(zh x1 u1),(Gl u8),(4,(vP 53 0)),(75,(.v (.agg [(cI u5.1.e0),(cI u5.1.e1)])))],[wo,(sK u0),(yQ r_),(xI r_),(RG u8),(aah u5),(aae u5)]⟩ {} [] ?_
     refine ri tT ⟨[dS,(zh x1 u1),(Gl u8),(4,(vP 53 0)),(5,(vP 99 0))],[wo,(sK u0),(yQ r_),(xI r_),(RG u8),(aah u5),(aae u5),(99,some (OG u5))]⟩ [] {fr:=[(0,99)] } [] trivial (bG.fin (st':=⟨(ad1 x1 u1 u8),[wo,(sK u0),(yQ r_),(xI r_),(RG u8),(53,some (.cells 226 [(.own 54 false u5.2.2.l.length)])),(54,some (bO 164 2 af.cell u5.2.2.l)),(55,some (OG u5))]⟩) (cs:=[]) ⟨[],[(0,0),(1,1),(2,2),(3,3),(52,52),(53,53),(97,54),(99,55)]⟩ [0,1,3,4,5] (by kernel_rfl) trivial) ?_
     obtain rfl:=oi h
     exact lN
   |ret v=>
    obtain rfl:=oi h
    unfold dU
    intro e st hn ha hR
    cases e with
    |normal=>exact absurd rfl hn
    |exit id=>simp only [rC (b:=1) ha rfl,cond_false];exact hR
    |goto l=>exact hR
    |ret=>exact hR
    |panic c=>exact hR
    |outgrown=>exact hR
 ·clear hy
  cases y1 with
  |brk z=>exact absurd h (by simp)
  |ret v=>
   obtain rfl:=oi h
   unfold dU
   intro e st hn ha hR
   cases e with
   |normal=>exact absurd rfl hn
   |exit id=>exact hR
   |goto l=>exact hR
   |ret=>exact hR
   |panic c=>exact hR
   |outgrown=>exact hR
def iB  :(aA × (List Bool) × Int)→Exit→St→Prop:=
  fun r=>aU TT [.cell 4 77, .tmp 5, .tmp 6] (.gK [(.agg [(.d (aJ none 1 (aj .i64) r.1.sources)),(.d (aJ none 1 (aj .i64) r.1.links)),(.d (aJ none 2 af.cell r.1.racks))]),(sD (aJ none 1 ai r.2.1)),(sI r.2.2)]) []
section
variable (p:ah) (s_:State) (u1:Int) (n1:(List (List Int))) (n0:(List bJ)) (u0:(List (Int × Int)))
abbrev nR:Nat × TV:=(8,(vI (IntKind.wrap .i64 ((IntKind.wrap .i64 ((1:Int)+p.buses))+(p.racks.length:Int)))))
abbrev su:Nat × TV:=(11,(.v (.one (.mp 73))))
abbrev pu:Nat × TV:=(12,(.v (.one (.mp 74))))
abbrev oo:Nat × TV:=(13,(.v (.one (.mp 75))))
abbrev Jc:Nat × TV:=(66,(vD (aJ none 5 Source.cell p.sources)))
abbrev Jy:Nat × TV:=(67,(vI (p.sources.length:Int)))
abbrev afm:List (Nat × TV):=[(2,(vP 63 0)),(jY s_),(4,(vP 65 0)),(nR p),(9,(vP 67 0)),(10,(vP 72 0)),su,pu,oo,(Jc p),(Jy p),(68,(vI u1))]
abbrev Ao:Nat × Option Ob:=(63,some (Yh p))
abbrev bN:Nat × Option Ob:=(65,some (.cells 77 [(.d nS),(.d nS),(.d nS)]))
abbrev Vb:Nat × Option Ob:=(66,some (.rows 40 1 n1.length (AO uF n1) none))
abbrev Xu:Nat × Option Ob:=(67,some (.cells 161 [(.own 68 false n0.length),(.own 66 true n1.length)]))
abbrev N9:Nat × Option Ob:=(68,some (bO 170 2 bJ.cell n0))
abbrev Xv:=((p.sources.length:Int).toNat)
abbrev NV:=(List.replicate (Xv p) (0:Int))
abbrev VJ:Nat × Option Ob:=(69,some (bO 3 1 (aj .i64) (NV p)))
abbrev Oi:Nat × Option Ob:=(70,some (ZW p))
abbrev VW:=((p.racks.length:Int).toNat)
abbrev SH:=(List.replicate (VW p) ((⟨0,0⟩:af):af))
abbrev ai0:Ob:=(bO 164 2 af.cell (SH p))
abbrev Mf:Nat × Option Ob:=(71,some (ai0 p))
abbrev Un:=((SH p).length)
abbrev VU:Nat × Option Ob:=(72,some (.cells 77 [(.own 69 true ((NV p).length)),(.own 70 true (RL p)),(.own 71 true (Un p))]))
abbrev YB:Ob:=(Vo 3 3 false false 1 1 (aj .i64) (aj .i64) u0)
abbrev E5:Nat × Option Ob:=(73,some (YB u0))
abbrev ZU:Ob:=(Vo 3 3 false false 1 1 (aj .i64) (aj .i64) ([]:(List (Int × Int))))
abbrev Ww:Nat × Option Ob:=(74,some ZU)
abbrev Nj:Nat × Option Ob:=(75,some (Vo 164 3 true false 2 1 af.cell (aj .i64) ([]:(List (af × Int)))))
abbrev UL:List (Nat × Option Ob):=[(Ao p),bN,(Vb n1),(Xu n1 n0),(N9 n0),(VJ p),(Oi p),(Mf p),(VU p),(E5 u0),Ww,Nj]
end
def Bo (p:ah) (s_:State):((List bJ) × (List (List Int)) × (List (Int × Int)) × Int)→St:=
  fun zz=>match zz with|(n0,n1,u0,u1)=> ⟨(afm p s_ u1),(UL p n1 n0 u0)⟩
section
variable (s_:State) (p:ah) (p1:(List Source)) (x0:(List Int)) (u0:(List (List Int))) (u1:(List bJ)) (u2:(List (Int × Int)))
abbrev Wt:List (Nat × TV):=[(2,(vP 63 0)),(jY s_),(4,(vP 65 0)),(nR p),(9,(vP 67 0)),(10,(vP 72 0)),su,pu,oo]
abbrev QC:Nat × Option Ob:=(63,some (.cells 26 [(cI p.buses),(.d (k9 p1)),(.d (aJ none 6 Link.cell p.links)),(.d (k2 p))]))
abbrev nu:Nat × Option Ob:=(69,some (CO x0))
abbrev YZ:Nat × Option Ob:=(72,some (.cells 77 [(.own 69 true x0.length),(.own 70 true (RL p)),(.own 71 true (Un p))]))
abbrev aez:List (Nat × Option Ob):=[(QC p p1),bN,(Vb u0),(Xu u0 u1),(N9 u1),(nu x0),(Oi p),(Mf p),(YZ p x0),(E5 u2),Ww,Nj]
end
def Bh (p:ah) (s_:State):((List Source) × (List bJ) × (List (List Int)) × (List Int) × (List (Int × Int)))→St:=
  fun zz=>match zz with|(p1,u1,u0,x0,u2)=> ⟨(Wt s_ p),(aez p p1 x0 u0 u1 u2)⟩
def JE (p:ah) (s_:State):(aK ((List bJ) × (List (List Int)) × (List (Int × Int)) × Int) (Ex ((List Source) × (List bJ) × (List (List Int)) × (List Int) × (List (Int × Int))) (aA × (List Bool) × Int)))→Exit→St→Prop:=
  LQ 0 [] (Bo p s_) (Bh p s_) iB
section
variable (p:ah) (s_:State) (u4:Int) (u3:(List (Int × Int))) (p1:(List Source)) (u0:(List (List Int))) (u1:(List bJ)) (x0:(List Int)) (u2:(List (Int × Int)))
abbrev Jd:Nat × TV:=(88,(vD (aJ none 6 Link.cell p.links)))
abbrev Jk:Nat × TV:=(89,(vI (p.links.length:Int)))
abbrev ah8:List (Nat × TV):=[(2,(vP 63 0)),(jY s_),(4,(vP 65 0)),(nR p),(9,(vP 67 0)),(10,(vP 72 0)),su,pu,oo,(Jd p),(Jk p),(90,(vI u4))]
abbrev EK:Nat × Option Ob:=(74,some (YB u3))
abbrev Vv:List (Nat × Option Ob):=[(QC p p1),bN,(Vb u0),(Xu u0 u1),(N9 u1),(nu x0),(Oi p),(Mf p),(YZ p x0),(E5 u2),(EK u3),Nj]
end
def Ba (p:ah) (s_:State) (p1:(List Source)) (x0:(List Int)) (u2:(List (Int × Int))):((List bJ) × (List (List Int)) × (List (Int × Int)) × Int)→St:=
  fun zz=>match zz with|(u1,u0,u3,u4)=> ⟨(ah8 p s_ u4),(Vv p u3 p1 u0 u1 x0 u2)⟩
section
variable (p:ah) (p1:(List Source)) (p2:(List Link)) (x1:(List Int)) (u0:(List (List Int))) (u1:(List bJ)) (x0:(List Int)) (u2:(List (Int × Int))) (u3:(List (Int × Int)))
abbrev ah1:Nat × Option Ob:=(63,some (.cells 26 [(cI p.buses),(.d (k9 p1)),(.d (aJ none 6 Link.cell p2)),(.d (k2 p))]))
abbrev o8:Nat × Option Ob:=(70,some (CO x1))
abbrev agh:List (Nat × Option Ob):=[(ah1 p p1 p2),bN,(Vb u0),(Xu u0 u1),(N9 u1),(nu x0),(o8 x1),(Mf p),(72,some (.cells 77 [(.own 69 true x0.length),(.own 70 true x1.length),(.own 71 true (Un p))])),(E5 u2),(EK u3),Nj]
end
def Bd (p:ah) (s_:State) (p1:(List Source)) (x0:(List Int)) (u2:(List (Int × Int))):((List Link) × (List bJ) × (List (List Int)) × (List Int) × (List (Int × Int)))→St:=
  fun zz=>match zz with|(p2,u1,u0,x1,u3)=> ⟨(Wt s_ p),(agh p p1 p2 x1 u0 u1 x0 u2 u3)⟩
def JK (p:ah) (s_:State) (p1:(List Source)) (x0:(List Int)) (u0:(List (Int × Int))):(aK ((List bJ) × (List (List Int)) × (List (Int × Int)) × Int) (Ex ((List Link) × (List bJ) × (List (List Int)) × (List Int) × (List (Int × Int))) (aA × (List Bool) × Int)))→Exit→St→Prop:=
  LQ 2 [] (Ba p s_ p1 x0 u0) (Bd p s_ p1 x0 u0) iB
section
variable (u6:(List ay)) (s_:State) (u4:Int) (u7:Int) (u8:Int) (p:ah) (p1:(List Source)) (p2:(List Link)) (p3:(List ay)) (x2:(List af)) (x0:(List Int)) (x1:(List Int)) (u5:(List (af × Int))) (u0:(List (List Int))) (u1:(List bJ)) (u2:(List (Int × Int))) (u3:(List (Int × Int)))
abbrev zZ:Nat × TV:=(115,(vD (k10 u6)))
abbrev aib:List (Nat × TV):=[(2,(vP 63 0)),(jY s_),(4,(vP 65 0)),(8,(vI u4)),(9,(vP 67 0)),(10,(vP 72 0)),su,pu,oo,(zZ u6),(116,(vI u7)),(117,(vI u8))]
abbrev dX:Nat × Option Ob:=(63,some (.cells 26 [(cI p.buses),(.d (k9 p1)),(.d (aJ none 6 Link.cell p2)),(.d (k10 p3))]))
abbrev rF:Nat × Option Ob:=(71,some (bO 164 2 af.cell x2))
abbrev ru:Nat × Option Ob:=(72,some (.cells 77 [(.own 69 true x0.length),(.own 70 true x1.length),(.own 71 true x2.length)]))
abbrev F5:Nat × Option Ob:=(75,some (Vo 164 3 true false 2 1 af.cell (aj .i64) u5))
abbrev WE:List (Nat × Option Ob):=[(dX p p1 p2 p3),bN,(Vb u0),(Xu u0 u1),(N9 u1),(nu x0),(o8 x1),(rF x2),(ru x2 x0 x1),(E5 u2),(EK u3),(F5 u5)]
end
def Bz (p:ah) (s_:State) (p1:(List Source)) (x0:(List Int)) (u2:(List (Int × Int))) (p2:(List Link)) (x1:(List Int)) (u3:(List (Int × Int))):((List ay) × Int × (List bJ) × (List (List Int)) × (List af) × (List (af × Int)) × (List ay) × Int × Int)→St:=
  fun zz=>match zz with|(p3,u4,u1,u0,x2,u5,u6,u7,u8)=> ⟨(aib u6 s_ u4 u7 u8),(WE p p1 p2 p3 x2 x0 x1 u5 u0 u1 u2 u3)⟩
section
variable (u6:Int) (p:ah) (p1:(List Source)) (p2:(List Link)) (u5:(List ay)) (u0:(List (List Int))) (u1:(List bJ)) (x0:(List Int)) (x1:(List Int)) (u2:(List af)) (u3:(List (Int × Int))) (u4:(List (Int × Int))) (u7:(List (af × Int)))
abbrev acw:List (Nat × TV):=[(2,(vP 63 0)),(4,(vP 65 0)),(8,(vI u6)),(9,(vP 67 0)),(10,(vP 72 0)),su,pu,oo]
abbrev aht:St:=⟨(acw u6),(WE p p1 p2 u5 u2 x0 x1 u7 u0 u1 u3 u4)⟩
end
def Bc (p:ah) (p1:(List Source)) (x0:(List Int)) (u3:(List (Int × Int))) (p2:(List Link)) (x1:(List Int)) (u4:(List (Int × Int))):((List ay) × Int × (List bJ) × (List (List Int)) × (List af) × (List (af × Int)))→St:=
  fun zz=>match zz with|(u5,u6,u1,u0,u2,u7)=>(aht u6 p p1 p2 u5 u0 u1 x0 x1 u2 u3 u4 u7)
def tJ (p:ah) (s_:State) (p1:(List Source)) (x0:(List Int)) (u0:(List (Int × Int))) (p2:(List Link)) (x1:(List Int)) (u1:(List (Int × Int))):(aK ((List ay) × Int × (List bJ) × (List (List Int)) × (List af) × (List (af × Int)) × (List ay) × Int × Int) (Ex ((List ay) × Int × (List bJ) × (List (List Int)) × (List af) × (List (af × Int))) (aA × (List Bool) × Int)))→Exit→St→Prop:=
  LQ 4 [] (Bz p s_ p1 x0 u0 p2 x1 u1) (Bc p p1 x0 u0 p2 x1 u1) iB
section
variable (u1:(List ay)) (u0:Int) (s_:State) (u6:Int) (u7:Int) (u9:Int) (p:ah) (p1:(List Source)) (p2:(List Link)) (p3:(List ay)) (u2:(List (List Int))) (u3:(List bJ)) (x0:(List Int)) (x1:(List Int)) (x2:(List af)) (u4:(List (Int × Int))) (u5:(List (Int × Int))) (u8:(List (af × Int)))
abbrev adV:List DV:=[(.int .i64 ((L6 u1 u0).e0)),(.int .i64 ((L6 u1 u0).e1)),(.int .i64 ((at' u1 u0.toNat).power)),(.int .i64 ((at' u1 u0.toNat).paths))]
abbrev aha:TV:=(vD (mg (adV u1 u0) 0))
abbrev FD:Nat × TV:=(19,(aha u1 u0))
abbrev XG:List CV:=[(cI ((L6 u1 u0).e0)),(cI ((L6 u1 u0).e1))]
abbrev JF:Nat × TV:=(133,(.v (.agg (XG u1 u0))))
abbrev aiS:List (Nat × TV):=[(2,(vP 63 0)),(jY s_),(4,(vP 65 0)),(8,(vI u6)),(9,(vP 67 0)),(10,(vP 72 0)),su,pu,oo,(18,(vI u0)),(FD u1 u0),(zZ u1),(116,(vI u7)),(117,(vI u0)),(JF u1 u0),(134,(vI u9))]
abbrev RP:List (Nat × Option Ob):=[(dX p p1 p2 p3),bN,(Vb u2),(67,some (.cells 161 [(.own 111 false u3.length),(.own 66 true u2.length)])),(nu x0),(o8 x1),(rF x2),(ru x2 x0 x1),(E5 u4),(EK u5),(F5 u8),(111,some (bO 170 2 bJ.cell u3))]
end
def Bg (p:ah) (s_:State) (p1:(List Source)) (x0:(List Int)) (u4:(List (Int × Int))) (p2:(List Link)) (x1:(List Int)) (u5:(List (Int × Int))) (p3:(List ay)) (u6:Int) (x2:(List af)) (u1:(List ay)) (u7:Int) (u0:Int):((List bJ) × (List (List Int)) × (List (af × Int)) × Int)→St:=
  fun zz=>match zz with|(u3,u2,u8,u9)=> ⟨(aiS u1 u0 s_ u6 u7 u9),(RP p p1 p2 p3 u2 u3 x0 x1 x2 u4 u5 u8)⟩
section
variable (s_:State) (u4:Int) (u5:(List ay)) (u6:Int) (u7:Int) (p:ah) (p1:(List Source)) (p2:(List Link)) (p3:(List ay)) (u0:(List (List Int))) (u1:(List bJ)) (x0:(List Int)) (x1:(List Int)) (x2:(List af)) (u2:(List (Int × Int))) (u3:(List (Int × Int))) (u8:(List (af × Int)))
abbrev aim:St:=⟨(aib u5 s_ u4 u6 u7),(RP p p1 p2 p3 u0 u1 x0 x1 x2 u2 u3 u8)⟩
end
def Be (p:ah) (s_:State) (p1:(List Source)) (x0:(List Int)) (u2:(List (Int × Int))) (p2:(List Link)) (x1:(List Int)) (u3:(List (Int × Int))) (p3:(List ay)) (u4:Int) (x2:(List af)) (u5:(List ay)) (u6:Int) (u7:Int):((List bJ) × (List (List Int)) × (List (af × Int)))→St:=
  fun zz=>match zz with|(u1,u0,u8)=>(aim s_ u4 u5 u6 u7 p p1 p2 p3 u0 u1 x0 x1 x2 u2 u3 u8)
def JL (p:ah) (s_:State) (p1:(List Source)) (x0:(List Int)) (u0:(List (Int × Int))) (p2:(List Link)) (x1:(List Int)) (u1:(List (Int × Int))) (p3:(List ay)) (u2:Int) (x2:(List af)) (u3:(List ay)) (u4:Int) (u5:Int):(aK ((List bJ) × (List (List Int)) × (List (af × Int)) × Int) (Ex ((List bJ) × (List (List Int)) × (List (af × Int))) (aK ((List ay) × Int × (List bJ) × (List (List Int)) × (List af) × (List (af × Int)) × (List ay) × Int × Int) (Ex ((List ay) × Int × (List bJ) × (List (List Int)) × (List af) × (List (af × Int))) (aA × (List Bool) × Int)))))→Exit→St→Prop:=
  LQ 6 [5] (Bg p s_ p1 x0 u0 p2 x1 u1 p3 u2 x2 u3 u4 u5) (Be p s_ p1 x0 u0 p2 x1 u1 p3 u2 x2 u3 u4 u5) (tJ p s_ p1 x0 u0 p2 x1 u1)
section
variable (u0:Network) (p:ah) (p1:(List Source)) (p2:(List Link)) (u4:(List ay)) (u2:(List Int)) (x1:(List Int)) (u1:(List af)) (u3:(List (Int × Int))) (u5:(List (af × Int)))
abbrev ac0:List (Nat × TV):=[(2,(vP 63 0)),(4,(vP 65 0)),(9,(vP 67 0)),(10,(vP 72 0)),pu,oo,(162,(vP 116 0))]
abbrev Aa:Nat × Option Ob:=(67,some (.cells 161 [(.own 68 false u0.arcs.length),(.d (Lg u0))]))
abbrev zA:Nat × Option Ob:=(68,some (bO 170 2 bJ.cell u0.arcs))
abbrev ah4:List (Nat × Option Ob):=[(dX p p1 p2 u4),bN,(Aa u0),(zA u0),(nu u2),(o8 x1),(rF u1),(ru u1 u2 x1),(EK u3),(F5 u5),(116,none)]
abbrev ah2:St:=⟨ac0,(ah4 u0 p p1 p2 u4 u2 x1 u1 u3 u5)⟩
end
def JD (p:ah) (p1:(List Source)) (p2:(List Link)) (x1:(List Int)) (u3:(List (Int × Int))) (u4:(List ay)) (u1:(List af)) (u5:(List (af × Int))) (u0:Network):(List Int)→St:=
  fun u2=>(ah2 u0 p p1 p2 u4 u2 x1 u1 u3 u5)
section
variable (p:ah) (p1:(List Source)) (p2:(List Link)) (u4:(List ay)) (u0:Network) (u2:(List Int)) (u3:(List Int)) (u1:(List af)) (u5:(List (af × Int)))
abbrev adz:List (Nat × TV):=[(2,(vP 63 0)),(4,(vP 65 0)),(9,(vP 67 0)),(10,(vP 72 0)),oo,(182,(vP 117 0))]
abbrev aiP:List (Nat × Option Ob):=[(dX p p1 p2 u4),bN,(Aa u0),(zA u0),(nu u2),(o8 u3),(rF u1),(ru u1 u2 u3),(F5 u5),(117,none)]
abbrev af4:St:=⟨adz,(aiP p p1 p2 u4 u0 u2 u3 u1 u5)⟩
end
def JJ (p:ah) (p1:(List Source)) (p2:(List Link)) (u4:(List ay)) (u1:(List af)) (u5:(List (af × Int))) (u0:Network) (u2:(List Int)):(List Int)→St:=
  fun u3=>(af4 p p1 p2 u4 u0 u2 u3 u1 u5)
section
variable (p:ah) (p1:(List Source)) (p2:(List Link)) (u4:(List ay)) (u0:Network) (u1:(List Int)) (u2:(List Int)) (u3:(List af))
abbrev Yf:List (Nat × TV):=[(2,(vP 63 0)),(4,(vP 65 0)),(9,(vP 67 0)),(10,(vP 72 0)),(208,(vP 118 0))]
abbrev aic:St:=⟨Yf,[(dX p p1 p2 u4),bN,(Aa u0),(zA u0),(nu u1),(o8 u2),(rF u3),(ru u3 u1 u2),(118,none)]⟩
end
def I9 (p:ah) (p1:(List Source)) (p2:(List Link)) (u4:(List ay)) (u0:Network) (u1:(List Int)) (u2:(List Int)):(List af)→St:=
  fun u3=>(aic p p1 p2 u4 u0 u1 u2 u3)
end
end Sg
