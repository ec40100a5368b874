import Derived.Test.YtpndenfhglaikaaGm
import Derived.Test.YtpndenfhglaikaaProg
set_option linter.all false
namespace Sg
open Go Go.Proofs
set_option maxRecDepth 20000
noncomputable section
noncomputable def TT:List (Nat × TI):=[(3,⟨Try.t3.desc,Try.t3.size,Try.t3.bytes,zl Try.t3,false⟩),
  (4,⟨Try.t4.desc,Try.t4.size,Try.t4.bytes,zl Try.t4,false⟩),
  (22,⟨Try.t22.desc,Try.t22.size,Try.t22.bytes,zl Try.t22,false⟩),
  (23,⟨Try.t23.desc,Try.t23.size,Try.t23.bytes,zl Try.t23,false⟩),
  (24,⟨Try.t24.desc,Try.t24.size,Try.t24.bytes,zl Try.t24,false⟩),
  (26,⟨Try.t25.desc,Try.t26.size,Try.t26.bytes,zl Try.t26,false⟩),
  (27,⟨Try.t27.desc,Try.t27.size,Try.t27.bytes,zl Try.t27,false⟩),
  (29,⟨Try.t28.desc,Try.t29.size,Try.t29.bytes,zl Try.t29,false⟩),
  (34,⟨Try.t34.desc,Try.t34.size,Try.t34.bytes,zl Try.t34,false⟩),
  (36,⟨Try.t35.desc,Try.t36.size,Try.t36.bytes,zl Try.t36,false⟩),
  (40,⟨Try.t40.desc,Try.t40.size,Try.t40.bytes,zl Try.t40,false⟩),
  (41,⟨Try.t41.desc,Try.t41.size,Try.t41.bytes,zl Try.t41,false⟩),
  (47,⟨Try.t46.desc,Try.t47.size,Try.t47.bytes,zl Try.t47,false⟩),
  (50,⟨Try.t3.desc,Try.t50.size,Try.t50.bytes,zl Try.t50,false⟩),
  (51,⟨Try.t51.desc,Try.t51.size,Try.t51.bytes,zl Try.t51,false⟩),
  (53,⟨Try.t52.desc,Try.t53.size,Try.t53.bytes,zl Try.t53,false⟩),
  (56,⟨Try.t55.desc,Try.t56.size,Try.t56.bytes,zl Try.t56,true⟩),
  (61,⟨Try.t61.desc,Try.t61.size,Try.t61.bytes,zl Try.t61,false⟩),
  (64,⟨Try.t64.desc,Try.t64.size,Try.t64.bytes,zl Try.t64,false⟩),
  (68,⟨Try.t68.desc,Try.t68.size,Try.t68.bytes,zl Try.t68,false⟩),
  (70,⟨Try.t69.desc,Try.t70.size,Try.t70.bytes,zl Try.t70,false⟩),
  (102,⟨Try.t102.desc,Try.t102.size,Try.t102.bytes,zl Try.t102,false⟩),
  (103,⟨Try.t46.desc,Try.t103.size,Try.t103.bytes,zl Try.t103,false⟩),
  (115,⟨Try.t3.desc,Try.t115.size,Try.t115.bytes,zl Try.t115,false⟩),
  (117,⟨Try.t116.desc,Try.t117.size,Try.t117.bytes,zl Try.t117,true⟩),
  (119,⟨Try.t119.desc,Try.t119.size,Try.t119.bytes,zl Try.t119,false⟩),
  (123,⟨Try.t122.desc,Try.t123.size,Try.t123.bytes,zl Try.t123,false⟩),
  (124,⟨Try.t3.desc,Try.t124.size,Try.t124.bytes,zl Try.t124,false⟩),
  (126,⟨Try.t125.desc,Try.t126.size,Try.t126.bytes,zl Try.t126,true⟩),
  (128,⟨Try.t128.desc,Try.t128.size,Try.t128.bytes,zl Try.t128,false⟩),
  (129,⟨Try.t129.desc,Try.t129.size,Try.t129.bytes,zl Try.t129,false⟩),
  (134,⟨Try.t134.desc,Try.t134.size,Try.t134.bytes,zl Try.t134,false⟩),
  (135,⟨Try.t135.desc,Try.t135.size,Try.t135.bytes,zl Try.t135,false⟩),
  (137,⟨Try.t136.desc,Try.t137.size,Try.t137.bytes,zl Try.t137,false⟩),
  (141,⟨Try.t140.desc,Try.t141.size,Try.t141.bytes,zl Try.t141,false⟩),
  (142,⟨Try.t142.desc,Try.t142.size,Try.t142.bytes,zl Try.t142,false⟩),
  (148,⟨Try.t147.desc,Try.t148.size,Try.t148.bytes,zl Try.t148,true⟩),
  (152,⟨Try.t55.desc,Try.t152.size,Try.t152.bytes,zl Try.t152,true⟩),
  (164,⟨Try.t164.desc,Try.t164.size,Try.t164.bytes,zl Try.t164,true⟩),
  (166,⟨Try.t165.desc,Try.t166.size,Try.t166.bytes,zl Try.t166,true⟩),
  (192,⟨Try.t192.desc,Try.t192.size,Try.t192.bytes,zl Try.t192,false⟩),
  (195,⟨Try.t195.desc,Try.t195.size,Try.t195.bytes,zl Try.t195,false⟩),
  (198,⟨Try.t198.desc,Try.t198.size,Try.t198.bytes,zl Try.t198,false⟩),
  (203,⟨Try.t203.desc,Try.t203.size,Try.t203.bytes,zl Try.t203,false⟩),
  (206,⟨Try.t206.desc,Try.t206.size,Try.t206.bytes,zl Try.t206,true⟩),
  (211,⟨Try.t211.desc,Try.t211.size,Try.t211.bytes,zl Try.t211,true⟩),
  (215,⟨Try.t214.desc,Try.t215.size,Try.t215.bytes,zl Try.t215,false⟩),
  (234,⟨Try.t234.desc,Try.t234.size,Try.t234.bytes,zl Try.t234,false⟩),
  (243,⟨Try.t243.desc,Try.t243.size,Try.t243.bytes,zl Try.t243,false⟩),
  (244,⟨Try.t244.desc,Try.t244.size,Try.t244.bytes,zl Try.t244,false⟩)]
theorem tT:sJ Try.prog TT:=⟨iN (by kernel_rfl) (by kernel_rfl) (by kernel_rfl),⟨kH,dK (by kernel_rfl)⟩,iN (by kernel_rfl) (by kernel_rfl) (by kernel_rfl),⟨kH,dK (by kernel_rfl)⟩,iN (by kernel_rfl) (by kernel_rfl) (by kernel_rfl),⟨kH,dK (by kernel_rfl)⟩,iN (by kernel_rfl) (by kernel_rfl) (by kernel_rfl),⟨kH,dK (by kernel_rfl)⟩,iN (by kernel_rfl) (by kernel_rfl) (by kernel_rfl),⟨kH,dK (by kernel_rfl)⟩,iN (by kernel_rfl) (by kernel_rfl) (by kernel_rfl),⟨kH,dK (by kernel_rfl)⟩,iN (by kernel_rfl) (by kernel_rfl) (by kernel_rfl),⟨kH,dK (by kernel_rfl)⟩,iN (by kernel_rfl) (by kernel_rfl) (by kernel_rfl),⟨kH,dK (by kernel_rfl)⟩,iN (by kernel_rfl) (by kernel_rfl) (by kernel_rfl),⟨kH,dK (by kernel_rfl)⟩,iN (by kernel_rfl) (by kernel_rfl) (by kernel_rfl),⟨kH,dK (by kernel_rfl)⟩,iN (by kernel_rfl) (by kernel_rfl) (by kernel_rfl),⟨kH,dK (by kernel_rfl)⟩,iN (by kernel_rfl) (by kernel_rfl) (by kernel_rfl),⟨kH,dK (by kernel_rfl)⟩,iN (by kernel_rfl) (by kernel_rfl) (by kernel_rfl),⟨kH,dK (by kernel_rfl)⟩,iN (by kernel_rfl) (by kernel_rfl) (by kernel_rfl),⟨kH,dK (by kernel_rfl)⟩,iN (by kernel_rfl) (by kernel_rfl) (by kernel_rfl),⟨kH,dK (by kernel_rfl)⟩,iN (by kernel_rfl) (by kernel_rfl) (by kernel_rfl),⟨kH,dK (by kernel_rfl)⟩,iN (by kernel_rfl) (by kernel_rfl) (by kernel_rfl),⟨fun _=> ⟨by kernel_rfl,by kernel_rfl⟩,dK (by kernel_rfl)⟩,iN (by kernel_rfl) (by kernel_rfl) (by kernel_rfl),⟨kH,dK (by kernel_rfl)⟩,iN (by kernel_rfl) (by kernel_rfl) (by kernel_rfl),⟨kH,dK (by kernel_rfl)⟩,iN (by kernel_rfl) (by kernel_rfl) (by kernel_rfl),⟨kH,dK (by kernel_rfl)⟩,iN (by kernel_rfl) (by kernel_rfl) (by kernel_rfl),⟨kH,dK (by kernel_rfl)⟩,iN (by kernel_rfl) (by kernel_rfl) (by kernel_rfl),⟨kH,dK (by kernel_rfl)⟩,iN (by kernel_rfl) (by kernel_rfl) (by kernel_rfl),⟨kH,dK (by kernel_rfl)⟩,iN (by kernel_rfl) (by kernel_rfl) (by kernel_rfl),⟨kH,dK (by kernel_rfl)⟩,iN (by kernel_rfl) (by kernel_rfl) (by kernel_rfl),⟨fun _=> ⟨by kernel_rfl,by kernel_rfl⟩,dK (by kernel_rfl)⟩,iN (by kernel_rfl) (by kernel_rfl) (by kernel_rfl),⟨kH,dK (by kernel_rfl)⟩,iN (by kernel_rfl) (by kernel_rfl) (by kernel_rfl),⟨kH,dK (by kernel_rfl)⟩,iN (by kernel_rfl) (by kernel_rfl) (by kernel_rfl),⟨kH,dK (by kernel_rfl)⟩,iN (by kernel_rfl) (by kernel_rfl) (by kernel_rfl),⟨fun _=> ⟨by kernel_rfl,by kernel_rfl⟩,dK (by kernel_rfl)⟩,iN (by kernel_rfl) (by kernel_rfl) (by kernel_rfl),⟨kH,dK (by kernel_rfl)⟩,iN (by kernel_rfl) (by kernel_rfl) (by kernel_rfl),⟨kH,dK (by kernel_rfl)⟩,iN (by kernel_rfl) (by kernel_rfl) (by kernel_rfl),⟨kH,dK (by kernel_rfl)⟩,iN (by kernel_rfl) (by kernel_rfl) (by kernel_rfl),⟨kH,dK (by kernel_rfl)⟩,iN (by kernel_rfl) (by kernel_rfl) (by kernel_rfl),⟨kH,dK (by kernel_rfl)⟩,iN (by kernel_rfl) (by kernel_rfl) (by kernel_rfl),⟨kH,dK (by kernel_rfl)⟩,iN (by kernel_rfl) (by kernel_rfl) (by kernel_rfl),⟨kH,dK (by kernel_rfl)⟩,iN (by kernel_rfl) (by kernel_rfl) (by kernel_rfl),⟨fun _=> ⟨by kernel_rfl,by kernel_rfl⟩,dK (by kernel_rfl)⟩,iN (by kernel_rfl) (by kernel_rfl) (by kernel_rfl),⟨fun _=> ⟨by kernel_rfl,by kernel_rfl⟩,dK (by kernel_rfl)⟩,iN (by kernel_rfl) (by kernel_rfl) (by kernel_rfl),⟨fun _=> ⟨by kernel_rfl,by kernel_rfl⟩,dK (by kernel_rfl)⟩,iN (by kernel_rfl) (by kernel_rfl) (by kernel_rfl),⟨fun _=> ⟨by kernel_rfl,by kernel_rfl⟩,dK (by kernel_rfl)⟩,iN (by kernel_rfl) (by kernel_rfl) (by kernel_rfl),⟨kH,dK (by kernel_rfl)⟩,iN (by kernel_rfl) (by kernel_rfl) (by kernel_rfl),⟨kH,dK (by kernel_rfl)⟩,iN (by kernel_rfl) (by kernel_rfl) (by kernel_rfl),⟨kH,dK (by kernel_rfl)⟩,iN (by kernel_rfl) (by kernel_rfl) (by kernel_rfl),⟨kH,dK (by kernel_rfl)⟩,iN (by kernel_rfl) (by kernel_rfl) (by kernel_rfl),⟨fun _=> ⟨by kernel_rfl,by kernel_rfl⟩,dK (by kernel_rfl)⟩,iN (by kernel_rfl) (by kernel_rfl) (by kernel_rfl),⟨fun _=> ⟨by kernel_rfl,by kernel_rfl⟩,dK (by kernel_rfl)⟩,iN (by kernel_rfl) (by kernel_rfl) (by kernel_rfl),⟨kH,dK (by kernel_rfl)⟩,iN (by kernel_rfl) (by kernel_rfl) (by kernel_rfl),⟨kH,dK (by kernel_rfl)⟩,iN (by kernel_rfl) (by kernel_rfl) (by kernel_rfl),⟨kH,dK (by kernel_rfl)⟩,iN (by kernel_rfl) (by kernel_rfl) (by kernel_rfl),⟨kH,dK (by kernel_rfl)⟩,trivial⟩
theorem mX:Try.prog.follows .mixedOrders=true:=by kernel_rfl
def Gb  :Bool→Exit→St→Prop:=
  fun r=>bn TT [.tmp 6] (vB r) []
theorem aT (n:Int) (u0:Int) (u1:Int) {r:Bool} (h:aV n u0 u1=some r):Fn Try.prog 94 [(sI n),(sI u0),(sI u1)] [] (vB r) []:=by
 refine fN tT Try.func94 rfl rfl fun B=> ?_
 show bJ _ _ _ _ _ _ (Gb r) _
 unfold aV at h
 refine sz tT ⟨[(0,(vI n)),(1,(vI u0)),(2,(vI u1))],[]⟩ {} [] ?_
 refine sg tT ⟨[(6,(vB (bif (decide (u0≤n))then(decide (n≤u1))else false)))],[]⟩ (eqs (decide (u0≤n)) 4 []) {yb:=[(3,(decide (u0≤n)))] } [] (ae trivial) ?_
 refine aR ?_
 obtain rfl:=oi h
 exact rl [(sB (bif (decide (u0≤n))then(decide (n≤u1))else false))]
def G5  :(Int × (List Source) × (List Link) × (List aJ))→Exit→St→Prop:=
  fun r=>bn TT [.tmp 2] (vD (.fn 135 1 (uL [(nN [(.int .i64 r.1),(aC none 5 Source.cell r.2.1),(aC none 6 Link.cell r.2.2.1),(aC none 4 aJ.cell r.2.2.2)] 0)]))) []
section
variable (p:ai)
abbrev k2:DV:=(aC none 5 Source.cell p.sources)
abbrev k3:DV:=(aC none 6 Link.cell p.links)
abbrev k4:DV:=(aC none 4 aJ.cell p.racks)
abbrev k1:List CV:=[(cI p.buses),(.d (k2 p)),(.d (k3 p)),(.d (k4 p))]
abbrev k0:List SV:=[(.agg (k1 p))]
abbrev k8:DV:=(nN [(.int .i64 p.buses),(k2 p),(k3 p),(k4 p)] 0)
abbrev k7:TV:=(vD (k8 p))
abbrev k6:Nat × TV:=(1,(k7 p))
abbrev k5:St:=⟨[(k6 p)],[]⟩
abbrev k9:=(uL [(k8 p)])
end
theorem FB (p:ai) {r:(Int × (List Source) × (List Link) × (List aJ))} (h:pY p=some r):Fn Try.prog 96 (k0 p) [] (vD (.fn 135 1 (uL [(nN [(.int .i64 r.1),(aC none 5 Source.cell r.2.1),(aC none 6 Link.cell r.2.2.1),(aC none 4 aJ.cell r.2.2.2)] 0)]))) []:=by
 refine fN tT Try.func96 rfl rfl fun B=> ?_
 show bJ _ _ _ _ _ _ (G5 r) _
 unfold pY at h
 refine sz tT (k5 p) {fr:=[(0,1)] } [1] ?_
 refine sz tT ⟨[(2,(vD (.fn 135 1 (k9 p))))],[]⟩ {} [] ?_
 refine aR ?_
 obtain rfl:=oi h
 exact rl [(sD (.fn 135 1 (k9 p)))]
def Jf  :(Int × (List Source) × (List Link) × (List aJ))→Exit→St→Prop:=
  fun r=>bn TT [.tmp 2] (vD (.fn 138 1 (uL [(nN [(.int .i64 r.1),(aC none 5 Source.cell r.2.1),(aC none 6 Link.cell r.2.2.1),(aC none 4 aJ.cell r.2.2.2)] 0)]))) []
theorem IA (p:ai) {r:(Int × (List Source) × (List Link) × (List aJ))} (h:uG p=some r):Fn Try.prog 98 (k0 p) [] (vD (.fn 138 1 (uL [(nN [(.int .i64 r.1),(aC none 5 Source.cell r.2.1),(aC none 6 Link.cell r.2.2.1),(aC none 4 aJ.cell r.2.2.2)] 0)]))) []:=by
 refine fN tT Try.func98 rfl rfl fun B=> ?_
 show bJ _ _ _ _ _ _ (Jf r) _
 unfold uG at h
 refine sz tT (k5 p) {fr:=[(0,1)] } [1] ?_
 refine sz tT ⟨[(2,(vD (.fn 138 1 (k9 p))))],[]⟩ {} [] ?_
 refine aR ?_
 obtain rfl:=oi h
 exact rl [(sD (.fn 138 1 (k9 p)))]
def J4  :(Int × (List Source) × (List Link) × (List aJ))→Exit→St→Prop:=
  fun r=>bn TT [.tmp 2] (vD (.fn 141 1 (uL [(nN [(.int .i64 r.1),(aC none 5 Source.cell r.2.1),(aC none 6 Link.cell r.2.2.1),(aC none 4 aJ.cell r.2.2.2)] 0)]))) []
theorem H8 (p:ai) {r:(Int × (List Source) × (List Link) × (List aJ))} (h:uK p=some r):Fn Try.prog 100 (k0 p) [] (vD (.fn 141 1 (uL [(nN [(.int .i64 r.1),(aC none 5 Source.cell r.2.1),(aC none 6 Link.cell r.2.2.1),(aC none 4 aJ.cell r.2.2.2)] 0)]))) []:=by
 refine fN tT Try.func100 rfl rfl fun B=> ?_
 show bJ _ _ _ _ _ _ (J4 r) _
 unfold uK at h
 refine sz tT (k5 p) {fr:=[(0,1)] } [1] ?_
 refine sz tT ⟨[(2,(vD (.fn 141 1 (k9 p))))],[]⟩ {} [] ?_
 refine aR ?_
 obtain rfl:=oi h
 exact rl [(sD (.fn 141 1 (k9 p)))]
def D5  :Bool→Exit→St→Prop:=
  fun r=>bn TT [.tmp 3] (vB r) []
section
variable (x1:Int) (u4:(List Source)) (u5:(List Link)) (u6:(List aJ)) (x:Source) (r_:Bool) (u0:Bool) (u1:Bool) (u2:Bool) (u3:Bool)
abbrev k10:DV:=(nN [(.int .i64 x1),(aC none 5 Source.cell u4),(aC none 6 Link.cell u5),(aC none 4 aJ.cell u6)] 0)
abbrev k11:Nat × TV:=(1,(vD (k10 x1 u4 u5 u6)))
abbrev k12:Nat × TV:=(2,(vD (nN [(.int .i64 x.bus),(.int .i64 x.kind),(.int .i64 x.power),(.int .i64 x.sync),(.int .i64 x.bK)] 0)))
abbrev k13:=(IntKind.wrap .i64 (x1 - 1))
abbrev k17:=(bif r_ then u0 else false)
abbrev k16:=(bif (k17 r_ u0)then u1 else false)
abbrev k15:=(bif (k16 r_ u0 u1)then u2 else false)
abbrev k14:=(bif (k15 r_ u0 u1 u2)then u3 else false)
abbrev k18:=(iD [(6,r_),(11,(k17 r_ u0)),(16,(k16 r_ u0 u1)),(21,(k15 r_ u0 u1 u2))])
abbrev k19:=((k16 r_ u0 u1)=(k16 r_ u0 u1))
end
theorem Dn (x:Source) (x1:Int) (u4:(List Source)) (u5:(List Link)) (u6:(List aJ)) {r:Bool} (h:kg x x1 u4 u5 u6=some r):Fn Try.prog 135 [(.agg [(cI x.bus),(cI x.kind),(cI x.power),(cI x.sync),(cI x.bK)]),(sD (k10 x1 u4 u5 u6))] [] (vB r) []:=by
 refine fN tT Try.func135 rfl rfl fun B=> ?_
 show bJ _ _ _ _ _ _ (D5 r) _
 unfold kg at h
 refine sz tT ⟨[(k11 x1 u4 u5 u6),(k12 x)],[]⟩ {fr:=[(0,1)] } [1] ?_
 refine aQ (bE h fun r_ hr_ h=> ?_)
 refine bE h fun u0 hr_1 h=> ?_
 refine bE h fun u1 hr_2 h=> ?_
 refine bE h fun u2 hr_3 h=> ?_
 refine bE h fun u3 hr_4 h=> ?_
 have q0:=aT x.bus 0 (k13 x1) hr_
 refine rg tT ⟨[(3,(vB (k14 r_ u0 u1 u2 u3)))],[]⟩ (_::(eqs r_ 3 ((gP (k18 r_ u0 u1 u2) [(6,true)]→All [Fn Try.prog 94 [(sI x.kind),(sI 1),(sI 3)] [] (vB u0) []])::(r_=r_)::(eqs (k17 r_ u0) 3 ((gP (k18 r_ u0 u1 u2) [(11,true)]→All [Fn Try.prog 94 [(sI x.power),(sI 1),(sI 100000)] [] (vB u1) []])::((k17 r_ u0)=(k17 r_ u0))::(eqs (k16 r_ u0 u1) 3 ((gP (k18 r_ u0 u1 u2) [(16,true)]→All [Fn Try.prog 94 [(sI x.sync),(sI 0),(sI 8)] [] (vB u2) []])::(k19 r_ u0 u1)::(eqs (k15 r_ u0 u1 u2) 3 [gP (k18 r_ u0 u1 u2) [(21,true)]→All [Fn Try.prog 94 [(sI x.bK),(sI 10),(sI 100000)] [] (vB u3) []],(k15 r_ u0 u1 u2)=(k15 r_ u0 u1 u2)])))))))) {yb:=[(6,r_),(11,(k17 r_ u0)),(16,(k16 r_ u0 u1)),(21,(k15 r_ u0 u1 u2))],an:=[(5,cA q0 []),(9, .call [] (vB u0) []),(14, .call [] (vB u1) []),(19, .call [] (vB u2) []),(24, .call [] (vB u3) [])] } [] ⟨q0,(ae ⟨(fun hg=> ⟨(aT x.kind 1 3 (gD hr_1 (aZ hg))),trivial⟩),rfl,(ae ⟨(fun hg=> ⟨(aT x.power 1 100000 (gD hr_2 (aZ hg))),trivial⟩),rfl,(ae ⟨(fun hg=> ⟨(aT x.sync 0 8 (gD hr_3 (aZ hg))),trivial⟩),rfl,(ae ⟨(fun hg=> ⟨(aT x.bK 10 100000 (gD hr_4 (aZ hg))),trivial⟩),rfl,trivial⟩)⟩)⟩)⟩)⟩ ?_
 refine aR ?_
 obtain rfl:=oi h
 exact rl [(sB (k14 r_ u0 u1 u2 u3))]
def F5  :Bool→Exit→St→Prop:=
  fun r=>bn TT [.tmp 3] (vB r) []
section
variable (x1:Int) (u0:(List Source)) (u1:(List Link)) (u2:(List aJ))
abbrev k21:=(uL [(k10 x1 u0 u1 u2)])
abbrev k20:DV:=(nN [(.fn 135 1 (k21 x1 u0 u1 u2))] 0)
abbrev k22:TV:=(vD (k20 x1 u0 u1 u2))
end
theorem Fu (x:Source) (x1:Int) (u0:(List Source)) (u1:(List Link)) (u2:(List aJ)) {r:Bool} (h:qw x x1 u0 u1 u2=some r):Fn Try.prog 134 [(.agg [(cI x.bus),(cI x.kind),(cI x.power),(cI x.sync),(cI x.bK)]),(sD (k20 x1 u0 u1 u2))] [] (vB r) []:=by
 refine fN tT Try.func134 rfl rfl fun B=> ?_
 show bJ _ _ _ _ _ _ (F5 r) _
 unfold qw at h
 refine sz tT ⟨[(1,(k22 x1 u0 u1 u2)),(k12 x)],[]⟩ {fr:=[(0,1)] } [1] ?_
 refine aQ (bE h fun r_ hr_ h=> ?_)
 have q0:=Dn x x1 u0 u1 u2 hr_
 refine rg tT ⟨[(3,(vB (!r_)))],[]⟩ [_] {an:=[(2,cA q0 [])] } [] ⟨q0,trivial⟩ ?_
 refine aR ?_
 obtain rfl:=oi h
 exact rl [(sB (!r_))]
def mD  :Int→Exit→St→Prop:=
  fun r=>bn TT [.tmp 4] (vI r) []
section
variable (s_:(List Source)) (f_:Int) (u0:(List Source)) (u1:(List Link)) (u2:(List aJ))
abbrev k23:Nat × TV:=(0,(vD (aC none 5 Source.cell s_)))
abbrev k25:=(uL [(k20 f_ u0 u1 u2)])
abbrev k24:Nat × TV:=(1,(vD (.fn 134 1 (k25 f_ u0 u1 u2))))
abbrev k26:Nat × TV:=(7,(vI (s_.length:Int)))
end
def qG (s_:(List Source)) (f_:Int) (u0:(List Source)) (u1:(List Link)) (u2:(List aJ)):Int→St:=
  fun t8=> ⟨[(k23 s_),(k24 f_ u0 u1 u2),(k26 s_),(8,(vI t8))],[]⟩
def qC  :Unit→St:=
  fun _=> ⟨[],[]⟩
def AZ (s_:(List Source)) (f_:Int) (u0:(List Source)) (u1:(List Link)) (u2:(List aJ)):(aS Int (Ex Unit Int))→Exit→St→Prop:=
  LQ 0 [] (qG s_ f_ u0 u1 u2) qC mD
section
variable (s_:(List Source)) (f_:Int) (u0:(List Source)) (u1:(List Link)) (u2:(List aJ)) (t8:Int)
abbrev k27:List SV:=[(sD (aC none 5 Source.cell s_)),(sD (.fn 134 1 (k25 f_ u0 u1 u2)))]
abbrev k28:St:=⟨[(k23 s_),(k24 f_ u0 u1 u2)],[]⟩
abbrev uM:TV:=(vI (IntKind.wrap .i64 (t8+1)))
abbrev Vd:Nat × TV:=(8,(uM t8))
end
theorem Bg (s_:(List Source)) (f_:Int) (u0:(List Source)) (u1:(List Link)) (u2:(List aJ)) {r:Int} (h:kP s_ f_ u0 u1 u2=some r):Fn Try.prog 150 (k27 s_ f_ u0 u1 u2) [] (vI r) []:=by
 refine fN tT Try.func150 rfl rfl fun B=> ?_
 show bJ _ _ _ _ _ _ (mD r) _
 unfold kP at h
 refine sz tT (k28 s_ f_ u0 u1 u2) {} [] ?_
 refine aQ (sz tT ⟨[(k23 s_),(k24 f_ u0 u1 u2),(k26 s_),(8,(vI 0))],[]⟩ {} [] ?_)
 refine bE h fun y hy h=> ?_
 refine aL [] (qG s_ f_ u0 u1 u2) qC mD hy (fun s f h=> ?_) ?_
 ·clear hy
  show bJ _ _ _ _ _ _ ((AZ s_ f_ u0 u1 u2) f) _
  unfold jm at h
  obtain⟨t8,rfl⟩: ∃q,q=s:=⟨_,rfl⟩
  refine sz tT ⟨[(k23 s_),(k24 f_ u0 u1 u2),(k26 s_),(8,(vI t8)),(9,(vB (decide (t8<(s_.length:Int)))))],[]⟩ {} [] ?_
  refine aQ ?_
  refine bI h (fun hb1 h=> ?_) (fun hb1 h=> ?_)
  ·refine ct hb1 ?_
   refine aP (aQ (aB (sz tT ⟨[(k23 s_),(k24 f_ u0 u1 u2),(5,(vI t8)),(k26 s_),(8,(vI t8))],[]⟩ {} [] ?_)))
   refine aQ (bE h fun r_ hr_ h=> ?_)
   refine aO h fun a1 h=> ?_
   have q1:=Fu (at' s_ t8.toNat) f_ u0 u1 u2 hr_
   refine rg tT ⟨[(k23 s_),(k24 f_ u0 u1 u2),(5,(vI t8)),(k26 s_),(8,(vI t8)),(16,(vB r_))],[]⟩ [_,_] {an:=[(5,cA q1 [])] } [] ⟨a1,q1,trivial⟩ ?_
   refine bI h (fun hb h=> ?_) (fun hb h=> ?_)
   ·refine ct hb ?_
    refine sz tT ⟨[(4,(vI t8))],[]⟩ {} [] ?_
    refine aR ?_
    obtain rfl:=oi h
    exact lR dF (dM 0) dB (bn.mk (.inr rfl) (p:=[]) (l:=[(sI t8)]) (by kernel_rfl) trivial (fC.refl _) trivial)
   ·refine cf hb ?_
    refine aP (rz tT ⟨[(k23 s_),(k24 f_ u0 u1 u2),(k26 s_),(Vd t8)],[]⟩ {} [] ?_)
    obtain rfl:=oi h
    exact lN
  ·refine cf hb1 ?_
   refine aI (fz ⟨[],[]⟩ []) ?_
   refine aX ?_
   obtain rfl:=oi h
   exact lB
 ·clear hy
  cases y with
  |brk z=>
   unfold fZ
   refine⟨_, .refl, ?_⟩
   refine sz tT ⟨[(4,(vI (-1)))],[]⟩ {} [] ?_
   refine aR ?_
   obtain rfl:=oi h
   exact rl [(sI (-1))]
  |ret v=>
   obtain rfl:=oi h
   unfold fZ
   intro e st hn ha hR
   cases e with
   |normal=>exact absurd rfl hn
   |exit id=>exact hR
   |goto l=>exact hR
   |ret=>exact hR
   |panic c=>exact hR
   |outgrown=>exact hR
def zK  :Bool→Exit→St→Prop:=
  fun r=>bn TT [.tmp 4] (vB r) []
section
variable (r_:Int)
abbrev k31:St:=⟨[(4,(vB (decide (0≤r_))))],[]⟩
end
theorem yg (s_:(List Source)) (f_:Int) (u0:(List Source)) (u1:(List Link)) (u2:(List aJ)) {r:Bool} (h:gH s_ f_ u0 u1 u2=some r):Fn Try.prog 133 (k27 s_ f_ u0 u1 u2) [] (vB r) []:=by
 refine fN tT Try.func133 rfl rfl fun B=> ?_
 show bJ _ _ _ _ _ _ (zK r) _
 unfold gH at h
 refine sz tT (k28 s_ f_ u0 u1 u2) {} [] ?_
 refine aQ (bE h fun r_ hr_ h=> ?_)
 have q0:=Bg s_ f_ u0 u1 u2 hr_
 refine rg tT (k31 r_) [_] {an:=[(2,cA q0 [])] } [] ⟨q0,trivial⟩ ?_
 refine aR ?_
 obtain rfl:=oi h
 exact rl [(sB (decide (0≤r_)))]
def Jk  :Bool→Exit→St→Prop:=
  fun r=>bn TT [.tmp 6] (vB r) []
theorem Iy (l:(List Source)) (u0:Int) (u1:Int) (u2:(List Source)) (u3:(List Link)) (u4:(List aJ)) {r:Bool} (h:pX l u0 u1 u2 u3 u4=some r):Fn Try.prog 95 [(sD (aC none 5 Source.cell l)),(sI u0),(sD (.fn 135 1 (k21 u1 u2 u3 u4)))] [] (vB r) []:=by
 refine fN tT Try.func95 rfl rfl fun B=> ?_
 show bJ _ _ _ _ _ _ (Jk r) _
 unfold pX at h
 refine sz tT ⟨[(k23 l),(1,(vI u0)),(5,(k22 u1 u2 u3 u4))],[]⟩ {fr:=[(0,1)] } [1] ?_
 refine aQ (bE h fun r_ hr_ h=> ?_)
 refine rg tT ⟨[(6,(vB (bif (decide ((l.length:Int)≤u0))then(!r_)else false)))],[]⟩ (eqs (decide ((l.length:Int)≤u0)) 3 ((gP (iD [(4,(decide ((l.length:Int)≤u0)))]) [(4,true)]→All [Fn Try.prog 133 (k27 l u1 u2 u3 u4) [] (vB r_) []])::(eqs (decide ((l.length:Int)≤u0)) 2 []))) {yb:=[(4,(decide ((l.length:Int)≤u0)))],an:=[(7, .call [] (vB r_) [])] } [] (ae ⟨(fun hg=> ⟨(yg l u1 u2 u3 u4 (gD hr_ (aZ hg))),trivial⟩),(ae trivial)⟩) ?_
 refine aR ?_
 obtain rfl:=oi h
 exact rl [(sB (bif (decide ((l.length:Int)≤u0))then(!r_)else false))]
def q9  :Bool→Exit→St→Prop:=
  fun r=>bn TT [.tmp 3] (vB r) []
section
variable (x:Link)
abbrev k33:TV:=(vD (nN [(.int .i64 x.a),(.int .i64 x.b),(.int .i64 x.kind),(.int .i64 x.most),(.int .i64 x.bK),(aC none 2 dU.cell x.trip)] 0))
abbrev KR:Nat × TV:=(2,(k33 x))
abbrev k34:Nat × TV:=(48,(vD (aC none 2 dU.cell x.trip)))
abbrev k35:Nat × TV:=(49,(vI (x.trip.length:Int)))
end
def wY (x:Link):Int→St:=
  fun u0=> ⟨[(KR x),(k34 x),(k35 x),(50,(vI u0))],[]⟩
section
variable (x:Link)
abbrev k36:St:=⟨[(KR x)],[]⟩
end
def xg (x:Link):Unit→St:=
  fun _=>(k36 x)
def E8 (x:Link):(aS Int (Ex Unit Bool))→Exit→St→Prop:=
  LQ 0 [] (wY x) (xg x) q9
section
variable (x:Link) (r_:Bool) (u1:Bool) (u3:Bool) (u5:Bool) (u0:Int) (u2:Bool) (u4:Bool)
abbrev k37:List CV:=[(cI x.a),(cI x.b),(cI x.kind),(cI x.most),(cI x.bK),(.d (aC none 2 dU.cell x.trip))]
abbrev k39:Ob:=(.cells 53 (k37 x))
abbrev k38:List (Nat × Option Ob):=[(5,some (k39 x))]
abbrev Wd:=(bif (!r_)then true else(!u1))
abbrev k42:=(bif (Wd r_ u1)then true else(decide (x.a=x.b)))
abbrev k41:=(bif (k42 x r_ u1)then true else(!u3))
abbrev k40:=(bif (k41 x r_ u1 u3)then true else(!u5))
abbrev k44:=(iD [(7,(!r_)),(16,(Wd r_ u1)),(23,(k42 x r_ u1)),(29,(k41 x r_ u1 u3)),(35,(k40 x r_ u1 u3 u5))])
abbrev Yf:=((at' x.trip u0.toNat).millis)
abbrev k45:TV:=(vD (nN [(.int .i64 ((at' x.trip u0.toNat).amps)),(.int .i64 (Yf x u0))] 0))
abbrev UY:=(decide (((at' x.trip u0.toNat).amps)≤((at' x.trip ((k13 u0).toNat)).amps)))
abbrev k47:=(bif (decide (0<u0))then(bif (UY x u0)then true else(decide (((at' x.trip ((k13 u0).toNat)).millis)≤(Yf x u0))))else false)
abbrev k49:=(iD [(4,(!u2)),(10,(Wd u2 u4)),(13,(decide (0<u0))),(24,(UY x u0))])
abbrev k51:=(decide ((x.trip.length:Int)≤6))
abbrev k52:=(decide ((x.trip.length:Int)=0))
abbrev k50:=(bif (k51 x)then(bif (k52 x)then true else(decide (x.kind=3)))else false)
end
theorem Fy (x:Link) (x1:Int) (u6:(List Source)) (u7:(List Link)) (u8:(List aJ)) {r:Bool} (h:mW x x1 u6 u7 u8=some r):Fn Try.prog 138 [(.agg (k37 x)),(sD (k10 x1 u6 u7 u8))] [] (vB r) []:=by
 refine fN tT Try.func138 rfl rfl fun B=> ?_
 show bJ _ _ _ _ _ _ (q9 r) _
 unfold mW at h
 refine sz tT ⟨[(k11 x1 u6 u7 u8),(2,(vP 5 0))],(k38 x)⟩ {fr:=[(0,5)] } [] ?_
 refine aQ (aQ (bE h fun r_ hr_ h=> ?_))
 refine bE h fun u1 hr_1 h=> ?_
 refine bE h fun u3 hr_2 h=> ?_
 refine bE h fun u5 hr_3 h=> ?_
 refine bE h fun u9 hr_4 h=> ?_
 have q0:=aT x.a 0 (k13 x1) hr_
 refine rg tT ⟨[(2,(vP 5 0)),(46,(vB (bif (k40 x r_ u1 u3 u5)then true else(!u9))))],(k38 x)⟩ (_::(eqs (!r_) 6 ((gP (k44 x r_ u1 u3 u5) [(7,false)]→All [Fn Try.prog 94 [(sI x.b),(sI 0),(sI (k13 x1))] [] (vB u1) []])::(eqs (!r_) 2 (eqs (Wd r_ u1) 6 (eqs (k42 x r_ u1) 3 ((gP (k44 x r_ u1 u3 u5) [(23,false)]→All [Fn Try.prog 94 [(sI x.kind),(sI 1),(sI 3)] [] (vB u3) []])::(eqs (k42 x r_ u1) 2 (eqs (k41 x r_ u1 u3) 3 ((gP (k44 x r_ u1 u3 u5) [(29,false)]→All [Fn Try.prog 94 [(sI x.most),(sI 1),(sI 100000)] [] (vB u5) []])::(eqs (k41 x r_ u1 u3) 2 (eqs (k40 x r_ u1 u3 u5) 3 ((gP (k44 x r_ u1 u3 u5) [(35,false)]→All [Fn Try.prog 94 [(sI x.bK),(sI 10),(sI 100000)] [] (vB u9) []])::(eqs (k40 x r_ u1 u3 u5) 2 [])))))))))))))) {yb:=[(7,(!r_)),(16,(Wd r_ u1)),(23,(k42 x r_ u1)),(29,(k41 x r_ u1 u3)),(35,(k40 x r_ u1 u3 u5))],an:=[(5,cA q0 []),(13, .call [] (vB u1) []),(26, .call [] (vB u3) []),(32, .call [] (vB u5) []),(38, .call [] (vB u9) [])] } [] ⟨q0,(ae ⟨(fun hg=> ⟨(aT x.b 0 (k13 x1) (gD hr_1 (aZ hg))),trivial⟩),(ae (ae (ae ⟨(fun hg=> ⟨(aT x.kind 1 3 (gD hr_2 (aZ hg))),trivial⟩),(ae (ae ⟨(fun hg=> ⟨(aT x.most 1 100000 (gD hr_3 (aZ hg))),trivial⟩),(ae (ae ⟨(fun hg=> ⟨(aT x.bK 10 100000 (gD hr_4 (aZ hg))),trivial⟩),(ae trivial)⟩))⟩))⟩)))⟩)⟩ ?_
 refine bI h (fun hb2 h=> ?_) (fun hb2 h=> ?_)
 ·refine ct hb2 ?_
  refine sz tT ⟨[(3,(vB false))],[]⟩ {} [] ?_
  refine aR ?_
  obtain rfl:=oi h
  exact rl [(sB false)]
 ·refine cf hb2 ?_
  refine aP (aQ (sz tT ⟨[(KR x),(k34 x),(k35 x),(50,(vI 0))],[]⟩ {} [5] ?_))
  refine bE h fun y hy h=> ?_
  refine aL [] (wY x) (xg x) q9 hy (fun s f h=> ?_) ?_
  ·clear hy
   show bJ _ _ _ _ _ _ ((E8 x) f) _
   unfold jB at h
   obtain⟨u0,rfl⟩: ∃q,q=s:=⟨_,rfl⟩
   refine sz tT ⟨[(KR x),(k34 x),(k35 x),(50,(vI u0)),(51,(vB (decide (u0<(x.trip.length:Int)))))],[]⟩ {} [] ?_
   refine aQ ?_
   refine bI h (fun hb1 h=> ?_) (fun hb1 h=> ?_)
   ·refine ct hb1 ?_
    refine aP (aQ (aB (aQ (aO h fun a1 h=> ?_))))
    refine rg tT ⟨[(KR x),(4,(vI u0)),(5,(k45 x u0)),(k34 x),(k35 x),(50,(vI u0))],[]⟩ [_] {fr:=[(3,9)] } [9] ⟨a1,trivial⟩ ?_
    refine aQ (bE h fun u2 hr_5 h=> ?_)
    refine bE h fun u4 hr_6 h=> ?_
    refine aO h fun⟨a1,a2⟩ h=> ?_
    have q0:=aT ((at' x.trip u0.toNat).amps) 1 1000000 hr_5
    refine dg tT mX ⟨[(KR x),(k34 x),(k35 x),(50,(vI u0)),(92,(vB (bif (Wd u2 u4)then true else(k47 x u0))))],[]⟩ (_::(eqs (!u2) 3 ((gP (k49 x u0 u2 u4) [(4,false)]→All [Fn Try.prog 94 [(sI (Yf x u0)),(sI 1),(sI 100000)] [] (vB u4) []])::(eqs (!u2) 2 (eqs (Wd u2 u4) 3 (eqs (decide (0<u0)) 7 ((gP (k49 x u0 u2 u4) [(13,true),(10,false)]→All [(0:Int)≤(k13 u0)∧(k13 u0)<(x.trip.length:Int)])::(eqs (decide (0<u0)) 4 (eqs (UY x u0) 7 ((gP (k49 x u0 u2 u4) [(24,false),(13,true),(10,false)]→All [(0:Int)≤(k13 u0)∧(k13 u0)<(x.trip.length:Int)])::(eqs (UY x u0) 3 [(decide (0<u0))=(decide (0<u0)),gP (k49 x u0 u2 u4) [(13,true),(10,false)]→All [(UY x u0)=(UY x u0)],(Wd u2 u4)=(Wd u2 u4),gP (k49 x u0 u2 u4) [(10,false)]→All [(decide (0<u0))=(decide (0<u0))],(Wd u2 u4)=(Wd u2 u4)]))))))))))) {yb:=[(4,(!u2)),(10,(Wd u2 u4)),(13,(decide (0<u0))),(24,(UY x u0))],an:=[(2,cA q0 []),(7, .call [] (vB u4) [])] } [] ⟨q0,(ae ⟨(fun hg=> ⟨(aT (Yf x u0) 1 100000 (gD hr_6 (aZ hg))),trivial⟩),(ae (ae (ae ⟨(fun hg=> ⟨(a1 (aZ hg)),trivial⟩),(ae (ae ⟨(fun hg=> ⟨(a2 (aZ hg)),trivial⟩),(ae ⟨rfl,(fun hg=> ⟨rfl,trivial⟩),rfl,(fun hg=> ⟨rfl,trivial⟩),rfl,trivial⟩)⟩))⟩)))⟩)⟩ ?_
    refine bI h (fun hb h=> ?_) (fun hb h=> ?_)
    ·refine ct hb ?_
     refine sz tT ⟨[(3,(vB false))],[]⟩ {} [] ?_
     refine aR ?_
     obtain rfl:=oi h
     exact lR dF (dM 0) dB (bn.mk (.inr rfl) (p:=[]) (l:=[(sB false)]) (by kernel_rfl) trivial (fC.refl _) trivial)
    ·refine cf hb ?_
     refine aP (rz tT ⟨[(KR x),(k34 x),(k35 x),(50,(uM u0))],[]⟩ {} [] ?_)
     obtain rfl:=oi h
     exact lN
   ·refine cf hb1 ?_
    refine aI (fz (k36 x) []) ?_
    refine aX ?_
    obtain rfl:=oi h
    exact lB
  ·clear hy
   cases y with
   |brk z=>
    unfold fZ
    refine⟨_, .refl, ?_⟩
    refine sg tT ⟨[(3,(vB (k50 x)))],[]⟩ (eqs (k51 x) 5 (eqs (k52 x) 3 [(k51 x)=(k51 x),gP (iD [(4,(k51 x)),(9,(k52 x))]) [(4,true)]→All [(k52 x)=(k52 x)],(k51 x)=(k51 x)])) {yb:=[(4,(k51 x)),(9,(k52 x))] } [] (ae (ae ⟨rfl,(fun hg=> ⟨rfl,trivial⟩),rfl,trivial⟩)) ?_
    refine aR ?_
    obtain rfl:=oi h
    exact rl [(sB (k50 x))]
   |ret v=>
    obtain rfl:=oi h
    unfold fZ
    intro e st hn ha hR
    cases e with
    |normal=>exact absurd rfl hn
    |exit id=>exact hR
    |goto l=>exact hR
    |ret=>exact hR
    |panic c=>exact hR
    |outgrown=>exact hR
def C9  :Bool→Exit→St→Prop:=
  fun r=>bn TT [.tmp 3] (vB r) []
section
variable (x1:Int) (u0:(List Source)) (u1:(List Link)) (u2:(List aJ))
abbrev k53:DV:=(nN [(.fn 138 1 (k21 x1 u0 u1 u2))] 0)
abbrev k54:TV:=(vD (k53 x1 u0 u1 u2))
end
theorem BI (x:Link) (x1:Int) (u0:(List Source)) (u1:(List Link)) (u2:(List aJ)) {r:Bool} (h:lY x x1 u0 u1 u2=some r):Fn Try.prog 137 [(.agg (k37 x)),(sD (k53 x1 u0 u1 u2))] [] (vB r) []:=by
 refine fN tT Try.func137 rfl rfl fun B=> ?_
 show bJ _ _ _ _ _ _ (C9 r) _
 unfold lY at h
 refine sz tT ⟨[(1,(k54 x1 u0 u1 u2)),(KR x)],[]⟩ {fr:=[(0,1)] } [1] ?_
 refine aQ (bE h fun r_ hr_ h=> ?_)
 have q0:=Fy x x1 u0 u1 u2 hr_
 refine rg tT ⟨[(3,(vB (!r_)))],[]⟩ [_] {an:=[(2,cA q0 [])] } [] ⟨q0,trivial⟩ ?_
 refine aR ?_
 obtain rfl:=oi h
 exact rl [(sB (!r_))]
def j3  :Int→Exit→St→Prop:=
  fun r=>bn TT [.tmp 4] (vI r) []
section
variable (s_:(List Link)) (f_:Int) (u0:(List Source)) (u1:(List Link)) (u2:(List aJ))
abbrev k55:Nat × TV:=(0,(vD (aC none 6 Link.cell s_)))
abbrev k57:=(uL [(k53 f_ u0 u1 u2)])
abbrev k56:Nat × TV:=(1,(vD (.fn 137 1 (k57 f_ u0 u1 u2))))
abbrev k58:Nat × TV:=(7,(vI (s_.length:Int)))
end
def oz (s_:(List Link)) (f_:Int) (u0:(List Source)) (u1:(List Link)) (u2:(List aJ)):Int→St:=
  fun t8=> ⟨[(k55 s_),(k56 f_ u0 u1 u2),(k58 s_),(8,(vI t8))],[]⟩
def nT  :Unit→St:=
  fun _=> ⟨[],[]⟩
def xY (s_:(List Link)) (f_:Int) (u0:(List Source)) (u1:(List Link)) (u2:(List aJ)):(aS Int (Ex Unit Int))→Exit→St→Prop:=
  LQ 0 [] (oz s_ f_ u0 u1 u2) nT j3
section
variable (s_:(List Link)) (f_:Int) (u0:(List Source)) (u1:(List Link)) (u2:(List aJ))
abbrev k59:List SV:=[(sD (aC none 6 Link.cell s_)),(sD (.fn 137 1 (k57 f_ u0 u1 u2)))]
abbrev k60:St:=⟨[(k55 s_),(k56 f_ u0 u1 u2)],[]⟩
end
theorem xQ (s_:(List Link)) (f_:Int) (u0:(List Source)) (u1:(List Link)) (u2:(List aJ)) {r:Int} (h:jk s_ f_ u0 u1 u2=some r):Fn Try.prog 151 (k59 s_ f_ u0 u1 u2) [] (vI r) []:=by
 refine fN tT Try.func151 rfl rfl fun B=> ?_
 show bJ _ _ _ _ _ _ (j3 r) _
 unfold jk at h
 refine sz tT (k60 s_ f_ u0 u1 u2) {} [] ?_
 refine aQ (sz tT ⟨[(k55 s_),(k56 f_ u0 u1 u2),(k58 s_),(8,(vI 0))],[]⟩ {} [] ?_)
 refine bE h fun y hy h=> ?_
 refine aL [] (oz s_ f_ u0 u1 u2) nT j3 hy (fun s f h=> ?_) ?_
 ·clear hy
  show bJ _ _ _ _ _ _ ((xY s_ f_ u0 u1 u2) f) _
  unfold ig at h
  obtain⟨t8,rfl⟩: ∃q,q=s:=⟨_,rfl⟩
  refine sz tT ⟨[(k55 s_),(k56 f_ u0 u1 u2),(k58 s_),(8,(vI t8)),(9,(vB (decide (t8<(s_.length:Int)))))],[]⟩ {} [] ?_
  refine aQ ?_
  refine bI h (fun hb1 h=> ?_) (fun hb1 h=> ?_)
  ·refine ct hb1 ?_
   refine aP (aQ (aB (sz tT ⟨[(k55 s_),(k56 f_ u0 u1 u2),(5,(vI t8)),(k58 s_),(8,(vI t8))],[]⟩ {} [] ?_)))
   refine aQ (bE h fun r_ hr_ h=> ?_)
   refine aO h fun a1 h=> ?_
   have q1:=BI (at' s_ t8.toNat) f_ u0 u1 u2 hr_
   refine rg tT ⟨[(k55 s_),(k56 f_ u0 u1 u2),(5,(vI t8)),(k58 s_),(8,(vI t8)),(16,(vB r_))],[]⟩ [_,_] {an:=[(5,cA q1 [])] } [] ⟨a1,q1,trivial⟩ ?_
   refine bI h (fun hb h=> ?_) (fun hb h=> ?_)
   ·refine ct hb ?_
    refine sz tT ⟨[(4,(vI t8))],[]⟩ {} [] ?_
    refine aR ?_
    obtain rfl:=oi h
    exact lR dF (dM 0) dB (bn.mk (.inr rfl) (p:=[]) (l:=[(sI t8)]) (by kernel_rfl) trivial (fC.refl _) trivial)
   ·refine cf hb ?_
    refine aP (rz tT ⟨[(k55 s_),(k56 f_ u0 u1 u2),(k58 s_),(Vd t8)],[]⟩ {} [] ?_)
    obtain rfl:=oi h
    exact lN
  ·refine cf hb1 ?_
   refine aI (fz ⟨[],[]⟩ []) ?_
   refine aX ?_
   obtain rfl:=oi h
   exact lB
 ·clear hy
  cases y with
  |brk z=>
   unfold fZ
   refine⟨_, .refl, ?_⟩
   refine sz tT ⟨[(4,(vI (-1)))],[]⟩ {} [] ?_
   refine aR ?_
   obtain rfl:=oi h
   exact rl [(sI (-1))]
  |ret v=>
   obtain rfl:=oi h
   unfold fZ
   intro e st hn ha hR
   cases e with
   |normal=>exact absurd rfl hn
   |exit id=>exact hR
   |goto l=>exact hR
   |ret=>exact hR
   |panic c=>exact hR
   |outgrown=>exact hR
def uT  :Bool→Exit→St→Prop:=
  fun r=>bn TT [.tmp 4] (vB r) []
theorem uE (s_:(List Link)) (f_:Int) (u0:(List Source)) (u1:(List Link)) (u2:(List aJ)) {r:Bool} (h:eU s_ f_ u0 u1 u2=some r):Fn Try.prog 136 (k59 s_ f_ u0 u1 u2) [] (vB r) []:=by
 refine fN tT Try.func136 rfl rfl fun B=> ?_
 show bJ _ _ _ _ _ _ (uT r) _
 unfold eU at h
 refine sz tT (k60 s_ f_ u0 u1 u2) {} [] ?_
 refine aQ (bE h fun r_ hr_ h=> ?_)
 have q0:=xQ s_ f_ u0 u1 u2 hr_
 refine rg tT (k31 r_) [_] {an:=[(2,cA q0 [])] } [] ⟨q0,trivial⟩ ?_
 refine aR ?_
 obtain rfl:=oi h
 exact rl [(sB (decide (0≤r_)))]
def Gl  :Bool→Exit→St→Prop:=
  fun r=>bn TT [.tmp 6] (vB r) []
theorem EC (l:(List Link)) (u0:Int) (u1:Int) (u2:(List Source)) (u3:(List Link)) (u4:(List aJ)) {r:Bool} (h:mY l u0 u1 u2 u3 u4=some r):Fn Try.prog 97 [(sD (aC none 6 Link.cell l)),(sI u0),(sD (.fn 138 1 (k21 u1 u2 u3 u4)))] [] (vB r) []:=by
 refine fN tT Try.func97 rfl rfl fun B=> ?_
 show bJ _ _ _ _ _ _ (Gl r) _
 unfold mY at h
 refine sz tT ⟨[(k55 l),(1,(vI u0)),(5,(k54 u1 u2 u3 u4))],[]⟩ {fr:=[(0,1)] } [1] ?_
 refine aQ (bE h fun r_ hr_ h=> ?_)
 refine rg tT ⟨[(6,(vB (bif (decide ((l.length:Int)≤u0))then(!r_)else false)))],[]⟩ (eqs (decide ((l.length:Int)≤u0)) 3 ((gP (iD [(4,(decide ((l.length:Int)≤u0)))]) [(4,true)]→All [Fn Try.prog 136 (k59 l u1 u2 u3 u4) [] (vB r_) []])::(eqs (decide ((l.length:Int)≤u0)) 2 []))) {yb:=[(4,(decide ((l.length:Int)≤u0)))],an:=[(7, .call [] (vB r_) [])] } [] (ae ⟨(fun hg=> ⟨(uE l u1 u2 u3 u4 (gD hr_ (aZ hg))),trivial⟩),(ae trivial)⟩) ?_
 refine aR ?_
 obtain rfl:=oi h
 exact rl [(sB (bif (decide ((l.length:Int)≤u0))then(!r_)else false))]
def IV  :Int→Exit→St→Prop:=
  fun r=>bn TT [.tmp 2] (vI r) []
section
variable (x:aJ)
abbrev k61:List CV:=[(cI x.feeds.e0),(cI x.feeds.e1),(cI x.power),(cI x.paths)]
abbrev k62:TV:=(vD (nN [(.int .i64 x.feeds.e0),(.int .i64 x.feeds.e1),(.int .i64 x.power),(.int .i64 x.paths)] 0))
end
theorem FZ (x:aJ) {r:Int} (h:nR x=some r):Fn Try.prog 142 [(.agg (k61 x))] [] (vI r) []:=by
 refine fN tT Try.func142 rfl rfl fun B=> ?_
 show bJ _ _ _ _ _ _ (IV r) _
 unfold nR at h
 refine sz tT ⟨[(1,(k62 x))],[]⟩ {fr:=[(0,1)] } [1] ?_
 refine aQ (sg tT ⟨[(6,(vB (decide (x.feeds.e1=(-1)))))],[]⟩ [(0:Int)≤1∧(1:Int)<(2:Nat)] {} [] ⟨((by decide)),trivial⟩ ?_)
 refine bI h (fun hb h=> ?_) (fun hb h=> ?_)
 ·refine ct hb ?_
  refine sz tT ⟨[(2,(vI 1))],[]⟩ {} [] ?_
  refine aR ?_
  obtain rfl:=oi h
  exact rl [(sI 1)]
 ·refine cf hb ?_
  refine aP (sz tT ⟨[(2,(vI 2))],[]⟩ {} [] ?_)
  refine aR ?_
  obtain rfl:=oi h
  exact rl [(sI 2)]
def Gz  :Bool→Exit→St→Prop:=
  fun r=>bn TT [.tmp 3] (vB r) []
section
variable (x:aJ) (r_:Bool) (u0:Bool) (u1:Bool) (u6:Bool)
abbrev k63:Nat × TV:=(2,(k62 x))
abbrev k66:=(bif (k17 r_ u0)then(!decide (x.feeds.e0=x.feeds.e1))else false)
abbrev k65:=(bif (k66 x r_ u0)then u1 else false)
abbrev k64:=(bif (k65 x r_ u0 u1)then u6 else false)
abbrev k67:=(iD [(5,r_),(12,(k17 r_ u0)),(17,(k66 x r_ u0)),(22,(k65 x r_ u0 u1))])
end
theorem EX (x:aJ) (x1:Int) (u2:(List Source)) (u3:(List Link)) (u4:(List aJ)) {r:Bool} (h:mV x x1 u2 u3 u4=some r):Fn Try.prog 141 [(.agg (k61 x)),(sD (k10 x1 u2 u3 u4))] [] (vB r) []:=by
 refine fN tT Try.func141 rfl rfl fun B=> ?_
 show bJ _ _ _ _ _ _ (Gz r) _
 unfold mV at h
 refine sz tT ⟨[(k11 x1 u2 u3 u4),(k63 x)],[]⟩ {fr:=[(0,1)] } [1] ?_
 refine sd tT mX ⟨[(k11 x1 u2 u3 u4),(k63 x),(4,(vI x.feeds.e0)),(5,(vI x.feeds.e1))],[]⟩ [(0:Int)≤0∧(0:Int)<(2:Nat),(0:Int)≤1∧(1:Int)<(2:Nat)] {} [] ⟨((by decide)),((by decide)),trivial⟩ ?_
 refine aQ (bE h fun r_ hr_ h=> ?_)
 refine bE h fun u0 hr_1 h=> ?_
 refine bE h fun u1 hr_2 h=> ?_
 refine bE h fun u5 hr_3 h=> ?_
 refine bE h fun u6 hr_4 h=> ?_
 have q0:=aT x.feeds.e0 0 (k13 x1) hr_
 refine dg tT mX ⟨[(3,(vB (k64 x r_ u0 u1 u6)))],[]⟩ (_::(eqs r_ 5 ((gP (k67 x r_ u0 u1) [(5,true)]→All [Fn Try.prog 94 [(sI x.feeds.e1),(sI (-1)),(sI (k13 x1))] [] (vB u0) []])::(r_=r_)::(eqs (k17 r_ u0) 4 (eqs (k66 x r_ u0) 3 ((gP (k67 x r_ u0 u1) [(17,true)]→All [Fn Try.prog 94 [(sI x.power),(sI 1),(sI 100000)] [] (vB u1) []])::((k66 x r_ u0)=(k66 x r_ u0))::(eqs (k65 x r_ u0 u1) 4 [gP (k67 x r_ u0 u1) [(22,true)]→All [Fn Try.prog 142 [(.agg (k61 x))] [] (vI u5) []],(k65 x r_ u0 u1)=(k65 x r_ u0 u1),gP (k67 x r_ u0 u1) [(22,true)]→All [Fn Try.prog 94 [(sI x.paths),(sI 0),(sI u5)] [] (vB u6) []],(k65 x r_ u0 u1)=(k65 x r_ u0 u1)]))))))) {yb:=[(5,r_),(12,(k17 r_ u0)),(17,(k66 x r_ u0)),(22,(k65 x r_ u0 u1))],an:=[(4,cA q0 []),(10, .call [] (vB u0) []),(20, .call [] (vB u1) []),(26, .call [] (vI u5) []),(27, .call [] (vB u6) [])] } [] ⟨q0,(ae ⟨(fun hg=> ⟨(aT x.feeds.e1 (-1) (k13 x1) (gD hr_1 (aZ hg))),trivial⟩),rfl,(ae (ae ⟨(fun hg=> ⟨(aT x.power 1 100000 (gD hr_2 (aZ hg))),trivial⟩),rfl,(ae ⟨(fun hg=> ⟨(FZ x (gD hr_3 (aZ hg))),trivial⟩),rfl,(fun hg=> ⟨(aT x.paths 0 u5 (gD hr_4 (aZ hg))),trivial⟩),rfl,trivial⟩)⟩))⟩)⟩ ?_
 refine aR ?_
 obtain rfl:=oi h
 exact rl [(sB (k64 x r_ u0 u1 u6))]
def Dh  :Bool→Exit→St→Prop:=
  fun r=>bn TT [.tmp 3] (vB r) []
section
variable (x1:Int) (u0:(List Source)) (u1:(List Link)) (u2:(List aJ))
abbrev k68:DV:=(nN [(.fn 141 1 (k21 x1 u0 u1 u2))] 0)
abbrev k69:TV:=(vD (k68 x1 u0 u1 u2))
end
theorem Ck (x:aJ) (x1:Int) (u0:(List Source)) (u1:(List Link)) (u2:(List aJ)) {r:Bool} (h:lZ x x1 u0 u1 u2=some r):Fn Try.prog 140 [(.agg (k61 x)),(sD (k68 x1 u0 u1 u2))] [] (vB r) []:=by
 refine fN tT Try.func140 rfl rfl fun B=> ?_
 show bJ _ _ _ _ _ _ (Dh r) _
 unfold lZ at h
 refine sz tT ⟨[(1,(k69 x1 u0 u1 u2)),(k63 x)],[]⟩ {fr:=[(0,1)] } [1] ?_
 refine aQ (bE h fun r_ hr_ h=> ?_)
 have q0:=EX x x1 u0 u1 u2 hr_
 refine rg tT ⟨[(3,(vB (!r_)))],[]⟩ [_] {an:=[(2,cA q0 [])] } [] ⟨q0,trivial⟩ ?_
 refine aR ?_
 obtain rfl:=oi h
 exact rl [(sB (!r_))]
def j6  :Int→Exit→St→Prop:=
  fun r=>bn TT [.tmp 4] (vI r) []
section
variable (s_:(List aJ)) (f_:Int) (u0:(List Source)) (u1:(List Link)) (u2:(List aJ))
abbrev k70:Nat × TV:=(0,(vD (aC none 4 aJ.cell s_)))
abbrev k72:=(uL [(k68 f_ u0 u1 u2)])
abbrev k71:Nat × TV:=(1,(vD (.fn 140 1 (k72 f_ u0 u1 u2))))
abbrev k73:Nat × TV:=(7,(vI (s_.length:Int)))
end
def og (s_:(List aJ)) (f_:Int) (u0:(List Source)) (u1:(List Link)) (u2:(List aJ)):Int→St:=
  fun t8=> ⟨[(k70 s_),(k71 f_ u0 u1 u2),(k73 s_),(8,(vI t8))],[]⟩
def nZ  :Unit→St:=
  fun _=> ⟨[],[]⟩
def xO (s_:(List aJ)) (f_:Int) (u0:(List Source)) (u1:(List Link)) (u2:(List aJ)):(aS Int (Ex Unit Int))→Exit→St→Prop:=
  LQ 0 [] (og s_ f_ u0 u1 u2) nZ j6
section
variable (s_:(List aJ)) (f_:Int) (u0:(List Source)) (u1:(List Link)) (u2:(List aJ))
abbrev k74:List SV:=[(sD (aC none 4 aJ.cell s_)),(sD (.fn 140 1 (k72 f_ u0 u1 u2)))]
abbrev k75:St:=⟨[(k70 s_),(k71 f_ u0 u1 u2)],[]⟩
end
theorem yh (s_:(List aJ)) (f_:Int) (u0:(List Source)) (u1:(List Link)) (u2:(List aJ)) {r:Int} (h:jo s_ f_ u0 u1 u2=some r):Fn Try.prog 152 (k74 s_ f_ u0 u1 u2) [] (vI r) []:=by
 refine fN tT Try.func152 rfl rfl fun B=> ?_
 show bJ _ _ _ _ _ _ (j6 r) _
 unfold jo at h
 refine sz tT (k75 s_ f_ u0 u1 u2) {} [] ?_
 refine aQ (sz tT ⟨[(k70 s_),(k71 f_ u0 u1 u2),(k73 s_),(8,(vI 0))],[]⟩ {} [] ?_)
 refine bE h fun y hy h=> ?_
 refine aL [] (og s_ f_ u0 u1 u2) nZ j6 hy (fun s f h=> ?_) ?_
 ·clear hy
  show bJ _ _ _ _ _ _ ((xO s_ f_ u0 u1 u2) f) _
  unfold ic at h
  obtain⟨t8,rfl⟩: ∃q,q=s:=⟨_,rfl⟩
  refine sz tT ⟨[(k70 s_),(k71 f_ u0 u1 u2),(k73 s_),(8,(vI t8)),(9,(vB (decide (t8<(s_.length:Int)))))],[]⟩ {} [] ?_
  refine aQ ?_
  refine bI h (fun hb1 h=> ?_) (fun hb1 h=> ?_)
  ·refine ct hb1 ?_
   refine aP (aQ (aB (sz tT ⟨[(k70 s_),(k71 f_ u0 u1 u2),(5,(vI t8)),(k73 s_),(8,(vI t8))],[]⟩ {} [] ?_)))
   refine aQ (bE h fun r_ hr_ h=> ?_)
   refine aO h fun a1 h=> ?_
   have q1:=Ck (⟨((at' s_ t8.toNat).feeds),(at' s_ t8.toNat).power,(at' s_ t8.toNat).paths⟩:aJ) f_ u0 u1 u2 hr_
   refine rg tT ⟨[(k70 s_),(k71 f_ u0 u1 u2),(5,(vI t8)),(k73 s_),(8,(vI t8)),(16,(vB r_))],[]⟩ [_,_] {an:=[(5,cA q1 [])] } [] ⟨a1,q1,trivial⟩ ?_
   refine bI h (fun hb h=> ?_) (fun hb h=> ?_)
   ·refine ct hb ?_
    refine sz tT ⟨[(4,(vI t8))],[]⟩ {} [] ?_
    refine aR ?_
    obtain rfl:=oi h
    exact lR dF (dM 0) dB (bn.mk (.inr rfl) (p:=[]) (l:=[(sI t8)]) (by kernel_rfl) trivial (fC.refl _) trivial)
   ·refine cf hb ?_
    refine aP (rz tT ⟨[(k70 s_),(k71 f_ u0 u1 u2),(k73 s_),(Vd t8)],[]⟩ {} [] ?_)
    obtain rfl:=oi h
    exact lN
  ·refine cf hb1 ?_
   refine aI (fz ⟨[],[]⟩ []) ?_
   refine aX ?_
   obtain rfl:=oi h
   exact lB
 ·clear hy
  cases y with
  |brk z=>
   unfold fZ
   refine⟨_, .refl, ?_⟩
   refine sz tT ⟨[(4,(vI (-1)))],[]⟩ {} [] ?_
   refine aR ?_
   obtain rfl:=oi h
   exact rl [(sI (-1))]
  |ret v=>
   obtain rfl:=oi h
   unfold fZ
   intro e st hn ha hR
   cases e with
   |normal=>exact absurd rfl hn
   |exit id=>exact hR
   |goto l=>exact hR
   |ret=>exact hR
   |panic c=>exact hR
   |outgrown=>exact hR
def wm  :Bool→Exit→St→Prop:=
  fun r=>bn TT [.tmp 4] (vB r) []
theorem uF (s_:(List aJ)) (f_:Int) (u0:(List Source)) (u1:(List Link)) (u2:(List aJ)) {r:Bool} (h:eX s_ f_ u0 u1 u2=some r):Fn Try.prog 139 (k74 s_ f_ u0 u1 u2) [] (vB r) []:=by
 refine fN tT Try.func139 rfl rfl fun B=> ?_
 show bJ _ _ _ _ _ _ (wm r) _
 unfold eX at h
 refine sz tT (k75 s_ f_ u0 u1 u2) {} [] ?_
 refine aQ (bE h fun r_ hr_ h=> ?_)
 have q0:=yh s_ f_ u0 u1 u2 hr_
 refine rg tT (k31 r_) [_] {an:=[(2,cA q0 [])] } [] ⟨q0,trivial⟩ ?_
 refine aR ?_
 obtain rfl:=oi h
 exact rl [(sB (decide (0≤r_)))]
def Gp  :Bool→Exit→St→Prop:=
  fun r=>bn TT [.tmp 6] (vB r) []
theorem Fp (l:(List aJ)) (u0:Int) (u1:Int) (u2:(List Source)) (u3:(List Link)) (u4:(List aJ)) {r:Bool} (h:mE l u0 u1 u2 u3 u4=some r):Fn Try.prog 99 [(sD (aC none 4 aJ.cell l)),(sI u0),(sD (.fn 141 1 (k21 u1 u2 u3 u4)))] [] (vB r) []:=by
 refine fN tT Try.func99 rfl rfl fun B=> ?_
 show bJ _ _ _ _ _ _ (Gp r) _
 unfold mE at h
 refine sz tT ⟨[(k70 l),(1,(vI u0)),(5,(k69 u1 u2 u3 u4))],[]⟩ {fr:=[(0,1)] } [1] ?_
 refine aQ (bE h fun r_ hr_ h=> ?_)
 refine rg tT ⟨[(6,(vB (bif (decide ((l.length:Int)≤u0))then(!r_)else false)))],[]⟩ (eqs (decide ((l.length:Int)≤u0)) 3 ((gP (iD [(4,(decide ((l.length:Int)≤u0)))]) [(4,true)]→All [Fn Try.prog 139 (k74 l u1 u2 u3 u4) [] (vB r_) []])::(eqs (decide ((l.length:Int)≤u0)) 2 []))) {yb:=[(4,(decide ((l.length:Int)≤u0)))],an:=[(7, .call [] (vB r_) [])] } [] (ae ⟨(fun hg=> ⟨(uF l u1 u2 u3 u4 (gD hr_ (aZ hg))),trivial⟩),(ae trivial)⟩) ?_
 refine aR ?_
 obtain rfl:=oi h
 exact rl [(sB (bif (decide ((l.length:Int)≤u0))then(!r_)else false))]
def Ie  :Int→Exit→St→Prop:=
  fun r=>bn TT [.tmp 2] (vI r) []
theorem yA (p:ai) {r:Int} (h:lH p=some r):Fn Try.prog 58 (k0 p) [] (vI r) []:=by
 refine fN tT Try.func58 rfl rfl fun B=> ?_
 show bJ _ _ _ _ _ _ (Ie r) _
 unfold lH at h
 refine sz tT (k5 p) {fr:=[(0,1)] } [1] ?_
 refine aQ (aB (aQ (bE h fun r_ hr_ h=> ?_)))
 have q0:=aT p.buses 1 24 hr_
 refine rg tT ⟨[(k6 p),(3,(vB (!r_)))],[]⟩ [_] {an:=[(2,cA q0 [])] } [] ⟨q0,trivial⟩ ?_
 refine bI h (fun hb3 h=> ?_) (fun hb3 h=> ?_)
 ·refine ct hb3 ?_
  refine sz tT ⟨[(2,(vI 10))],[]⟩ {} [] ?_
  refine aR ?_
  obtain rfl:=oi h
  exact rl [(sI 10)]
 ·refine cf hb3 ?_
  refine aQ (bE h fun u0 hr_1 h=> ?_)
  refine bE h fun u3 hr_2 h=> ?_
  have q0:=FB p hr_1
  have q1:=Iy p.sources 8 u0.1 u0.2.1 u0.2.2.1 u0.2.2.2 hr_2
  refine dg tT mX ⟨[(k6 p),(8,(vB (!u3)))],[]⟩ [_,_] {an:=[(3,cA q0 []),(4,cA q1 [])] } [] ⟨q0,q1,trivial⟩ ?_
  refine bI h (fun hb2 h=> ?_) (fun hb2 h=> ?_)
  ·refine ct hb2 ?_
   refine sz tT ⟨[(2,(vI 11))],[]⟩ {} [] ?_
   refine aR ?_
   obtain rfl:=oi h
   exact rl [(sI 11)]
  ·refine cf hb2 ?_
   refine aQ (bE h fun u1 hr_3 h=> ?_)
   refine bE h fun u4 hr_4 h=> ?_
   have q0:=IA p hr_3
   have q1:=EC p.links 40 u1.1 u1.2.1 u1.2.2.1 u1.2.2.2 hr_4
   refine dg tT mX ⟨[(k6 p),(15,(vB (!u4)))],[]⟩ [_,_] {an:=[(3,cA q0 []),(4,cA q1 [])] } [] ⟨q0,q1,trivial⟩ ?_
   refine bI h (fun hb1 h=> ?_) (fun hb1 h=> ?_)
   ·refine ct hb1 ?_
    refine sz tT ⟨[(2,(vI 12))],[]⟩ {} [] ?_
    refine aR ?_
    obtain rfl:=oi h
    exact rl [(sI 12)]
   ·refine cf hb1 ?_
    refine aQ (bE h fun u2 hr_5 h=> ?_)
    refine bE h fun u5 hr_6 h=> ?_
    have q0:=H8 p hr_5
    have q1:=Fp p.racks 24 u2.1 u2.2.1 u2.2.2.1 u2.2.2.2 hr_6
    refine dg tT mX ⟨[(22,(vB (!u5)))],[]⟩ [_,_] {an:=[(3,cA q0 []),(4,cA q1 [])] } [] ⟨q0,q1,trivial⟩ ?_
    refine bI h (fun hb h=> ?_) (fun hb h=> ?_)
    ·refine ct hb ?_
     refine sz tT ⟨[(2,(vI 13))],[]⟩ {} [] ?_
     refine aR ?_
     obtain rfl:=oi h
     exact rl [(sI 13)]
    ·refine cf hb ?_
     refine aP (sz tT ⟨[(2,(vI 0))],[]⟩ {} [] ?_)
     refine aR ?_
     obtain rfl:=oi h
     exact rl [(sI 0)]
def iy  :Int→Exit→St→Prop:=
  fun r=>bn TT [.tmp 4] (vI r) []
section
variable (s_:State) (p:ai)
abbrev k79:DV:=(aC none 1 ah s_.closed)
abbrev V9:DV:=(aC none 1 ah s_.locked)
abbrev W9:DV:=(aC none 1 ah s_.badLink)
abbrev TL:DV:=(aC none 1 ah s_.on_)
abbrev UF:DV:=(aC none 1 ah s_.badSource)
abbrev Rh:DV:=(aC none 1 ah s_.earthed)
abbrev RF:DV:=(aC none 1 ah s_.badBus)
abbrev k78:DV:=(nN [(k79 s_),(V9 s_),(W9 s_),(TL s_),(UF s_),(Rh s_),(RF s_)] 0)
abbrev k77:TV:=(vD (k78 s_))
abbrev jU:Nat × TV:=(3,(k77 s_))
abbrev k87:=(⟨s_.closed,(p.links.length:Int)⟩:dL)
abbrev k88:=(⟨s_.locked,(p.links.length:Int)⟩:dL)
abbrev k89:=(⟨s_.badLink,(p.links.length:Int)⟩:dL)
abbrev k90:=(⟨s_.on_,(p.sources.length:Int)⟩:dL)
abbrev k91:=(⟨s_.badSource,(p.sources.length:Int)⟩:dL)
abbrev k92:=(⟨s_.earthed,p.buses⟩:dL)
abbrev k93:=(⟨s_.badBus,p.buses⟩:dL)
abbrev k86:Nat × TV:=(53,(vO 13 true ([(k87 s_ p),(k88 s_ p),(k89 s_ p),(k90 s_ p),(k91 s_ p),(k92 s_ p),(k93 s_ p)].length)))
abbrev k94:Nat × TV:=(54,(vI ([(k87 s_ p),(k88 s_ p),(k89 s_ p),(k90 s_ p),(k91 s_ p),(k92 s_ p),(k93 s_ p)].length:Int)))
abbrev k97:Ob:=(.cells 26 (k1 p))
abbrev k96:Nat × Option Ob:=(11,some (k97 p))
abbrev k95:List (Nat × Option Ob):=[(k96 p),(13,some (aG 128 2 dL.cell [(k87 s_ p),(k88 s_ p),(k89 s_ p),(k90 s_ p),(k91 s_ p),(k92 s_ p),(k93 s_ p)]))]
end
def qz (p:ai) (s_:State):Int→St:=
  fun u0=> ⟨[(2,(vP 11 0)),(jU s_),(k86 s_ p),(k94 s_ p),(55,(vI u0))],(k95 s_ p)⟩
section
variable (s_:State) (p:ai)
abbrev k98:St:=⟨[(2,(vP 11 0)),(jU s_)],[(k96 p)]⟩
end
def qB (p:ai) (s_:State):Unit→St:=
  fun _=>(k98 s_ p)
def Ba (p:ai) (s_:State):(aS Int (Ex Unit Int))→Exit→St→Prop:=
  LQ 0 [] (qz p s_) (qB p s_) iy
section
variable (p:ai)
abbrev k99:Nat × TV:=(67,(vD (k3 p)))
abbrev UH:Nat × TV:=(68,(vI (p.links.length:Int)))
end
def qA (p:ai) (s_:State):Int→St:=
  fun u0=> ⟨[(jU s_),(k99 p),(UH p),(69,(vI u0))],[]⟩
def qH  :Unit→St:=
  fun _=> ⟨[],[]⟩
def A9 (p:ai) (s_:State):(aS Int (Ex Unit Int))→Exit→St→Prop:=
  LQ 2 [] (qA p s_) qH iy
section
variable (s_:State) (p:ai) (u1:Int) (u0:Int)
abbrev Li:List CV:=[(.d (k79 s_)),(.d (V9 s_)),(.d (W9 s_)),(.d (TL s_)),(.d (UF s_)),(.d (Rh s_)),(.d (RF s_))]
abbrev Iq:List SV:=[(.agg (k1 p)),(.agg (Li s_))]
abbrev acf:Ob:=(.cells 29 (Li s_))
abbrev Zk:List (Nat × Option Ob):=[(k96 p),(12,some (acf s_))]
abbrev ag0:=(au dL.cell [(k87 s_ p),(k88 s_ p),(k89 s_ p),(k90 s_ p),(k91 s_ p),(k92 s_ p),(k93 s_ p)])
abbrev afc:=(at' [(k87 s_ p),(k88 s_ p),(k89 s_ p),(k90 s_ p),(k91 s_ p),(k92 s_ p),(k93 s_ p)] u1.toNat)
abbrev ajB:=((afc s_ p u1).l)
abbrev afA:=((afc s_ p u1).n)
abbrev Ph:TV:=(vB (decide (u0<(p.links.length:Int))))
abbrev IY:=((at' p.links u0.toNat).a)
abbrev EL:=((at' p.links u0.toNat).b)
abbrev acQ:TV:=(vD (nN [(.int .i64 (IY p u0)),(.int .i64 (EL p u0)),(.int .i64 ((at' p.links u0.toNat).kind)),(.int .i64 ((at' p.links u0.toNat).most)),(.int .i64 ((at' p.links u0.toNat).bK)),(aC none 2 dU.cell ((at' p.links u0.toNat).trip))] 0))
abbrev Co:Nat × TV:=(11,(acQ p u0))
abbrev Bu:=(decide (((at' p.links u0.toNat).kind)=1))
abbrev CS:=(!(at' s_.closed u0.toNat))
abbrev afK:TV:=(vB (bif (Bu p u0)then(bif (CS s_ u0)then true else(at' s_.locked u0.toNat))else false))
abbrev acs:=(iD [(3,(Bu p u0)),(10,(CS s_ u0))])
end
theorem gI (p:ai) (s_:State) {r:Int} (h:dG p s_=some r):Fn Try.prog 12 (Iq s_ p) [] (vI r) []:=by
 refine fN tT Try.func12 rfl rfl fun B=> ?_
 show bJ _ _ _ _ _ _ (iy r) _
 unfold dG at h
 refine sz tT ⟨[(2,(vP 11 0)),(3,(vP 12 0))],(Zk s_ p)⟩ {fr:=[(0,11),(1,12)] } [] ?_
 refine aQ (aQ (bE h fun r_ hr_ h=> ?_))
 have q0:=yA p hr_
 refine rg tT ⟨[(2,(vP 11 0)),(3,(vP 12 0)),(5,(vI r_))],(Zk s_ p)⟩ [_] {an:=[(1,cA q0 [])] } [] ⟨q0,trivial⟩ ?_
 refine sz tT ⟨[(2,(vP 11 0)),(3,(vP 12 0)),(5,(vI r_)),(15,(vB (!decide (r_=0))))],(Zk s_ p)⟩ {} [] ?_
 refine bI h (fun hb4 h=> ?_) (fun hb4 h=> ?_)
 ·refine ct hb4 ?_
  refine sz tT ⟨[(4,(vI r_))],[]⟩ {} [] ?_
  refine aR ?_
  obtain rfl:=oi h
  exact rl [(sI r_)]
 ·refine cf hb4 ?_
  refine aP (sd tT mX ⟨[(2,(vP 11 0)),(3,(vP 12 0)),(6,(vI (p.links.length:Int))),(7,(vI (p.sources.length:Int)))],(Zk s_ p)⟩ [] {} [] trivial ?_)
  refine aQ (sg tT ⟨[(2,(vP 11 0)),(jU s_),(k86 s_ p),(k94 s_ p),(55,(vI 0))],(k95 s_ p)⟩ [[(k87 s_ p),(k88 s_ p),(k89 s_ p),(k90 s_ p),(k91 s_ p),(k92 s_ p),(k93 s_ p)].length=7,aY 7 2 (wF 2 [(k79 s_),(.int .i64 (p.links.length:Int)),(V9 s_),(.int .i64 (p.links.length:Int)),(W9 s_),(.int .i64 (p.links.length:Int)),(TL s_),(.int .i64 (p.sources.length:Int)),(UF s_),(.int .i64 (p.sources.length:Int)),(Rh s_),(.int .i64 p.buses),(RF s_),(.int .i64 p.buses)]) (ag0 s_ p)] {an:=[(30, .arr [(k87 s_ p),(k88 s_ p),(k89 s_ p),(k90 s_ p),(k91 s_ p),(k92 s_ p),(k93 s_ p)].length (ag0 s_ p))],fr:=[(30,13)] } [12] ⟨(rfl),((by intro i hi j hj;match i,j,hi,hj with|0,0,_,_=>rfl|0,1,_,_=>rfl|1,0,_,_=>rfl|1,1,_,_=>rfl|2,0,_,_=>rfl|2,1,_,_=>rfl|3,0,_,_=>rfl|3,1,_,_=>rfl|4,0,_,_=>rfl|4,1,_,_=>rfl|5,0,_,_=>rfl|5,1,_,_=>rfl|6,0,_,_=>rfl|6,1,_,_=>rfl)),trivial⟩ ?_)
  refine bE h fun y hy h=> ?_
  refine aL [] (qz p s_) (qB p s_) iy hy (fun s f h=> ?_) ?_
  ·clear hy
   show bJ _ _ _ _ _ _ ((Ba p s_) f) _
   unfold gK at h
   obtain⟨u1,rfl⟩: ∃q,q=s:=⟨_,rfl⟩
   refine sz tT ⟨[(2,(vP 11 0)),(jU s_),(k86 s_ p),(k94 s_ p),(55,(vI u1)),(56,(vB (decide (u1<([(k87 s_ p),(k88 s_ p),(k89 s_ p),(k90 s_ p),(k91 s_ p),(k92 s_ p),(k93 s_ p)].length:Int)))))],(k95 s_ p)⟩ {} [] ?_
   refine aQ ?_
   refine bI h (fun hb1 h=> ?_) (fun hb1 h=> ?_)
   ·refine ct hb1 ?_
    refine aP (aQ (aB (aQ (aO h fun a1 h=> ?_))))
    refine rg tT ⟨[(2,(vP 11 0)),(jU s_),(9,(vD (nN [(aC none 1 ah (ajB s_ p u1)),(.int .i64 (afA s_ p u1))] 0))),(k86 s_ p),(k94 s_ p),(55,(vI u1))],(k95 s_ p)⟩ [_,_] {fr:=[(2,17)] } [17] ⟨a1,(tL a1),trivial⟩ ?_
    refine sz tT ⟨[(2,(vP 11 0)),(jU s_),(k86 s_ p),(k94 s_ p),(55,(vI u1)),(64,(vB (!decide (((ajB s_ p u1).length:Int)=(afA s_ p u1)))))],(k95 s_ p)⟩ {} [] ?_
    refine bI h (fun hb h=> ?_) (fun hb h=> ?_)
    ·refine ct hb ?_
     refine sz tT ⟨[(4,(vI 9))],[]⟩ {} [] ?_
     refine aR ?_
     obtain rfl:=oi h
     exact lR dF (dM 0) dB (bn.mk (.inr rfl) (p:=[]) (l:=[(sI 9)]) (by kernel_rfl) trivial (fC.refl _) trivial)
    ·refine cf hb ?_
     refine aP (rz tT ⟨[(2,(vP 11 0)),(jU s_),(k86 s_ p),(k94 s_ p),(55,(uM u1))],(k95 s_ p)⟩ {} [] ?_)
     obtain rfl:=oi h
     exact lN
   ·refine cf hb1 ?_
    refine aI (fz (k98 s_ p) []) ?_
    refine aX ?_
    obtain rfl:=oi h
    exact lB
  ·clear hy
   cases y with
   |brk z=>
    unfold fZ
    refine⟨_, .refl, ?_⟩
    refine aQ (sz tT ⟨[(jU s_),(k99 p),(UH p),(69,(vI 0))],[]⟩ {} [] ?_)
    refine bE h fun y1 hy h=> ?_
    refine aL [] (qA p s_) qH iy hy (fun s f h=> ?_) ?_
    ·clear hy
     show bJ _ _ _ _ _ _ ((A9 p s_) f) _
     unfold gF at h
     obtain⟨u0,rfl⟩: ∃q,q=s:=⟨_,rfl⟩
     refine sz tT ⟨[(jU s_),(k99 p),(UH p),(69,(vI u0)),(70,(Ph p u0))],[]⟩ {} [] ?_
     refine aQ ?_
     refine bI h (fun hb3 h=> ?_) (fun hb3 h=> ?_)
     ·refine ct hb3 ?_
      refine aP (aQ (aB (aQ (aO h fun a1 h=> ?_))))
      refine rg tT ⟨[(jU s_),(10,(vI u0)),(Co p u0),(k99 p),(UH p),(69,(vI u0))],[]⟩ [_] {fr:=[(3,21)] } [21] ⟨a1,trivial⟩ ?_
      refine aQ (aO h fun⟨a1,a2⟩ h=> ?_)
      refine rg tT ⟨[(jU s_),(k99 p),(UH p),(69,(vI u0)),(91,(afK s_ p u0))],[]⟩ (eqs (Bu p u0) 4 ((gP (acs s_ p u0) [(3,true)]→All [(0:Int)≤u0∧u0<(s_.closed.length:Int)])::(eqs (Bu p u0) 3 (eqs (CS s_ u0) 4 [gP (acs s_ p u0) [(10,false),(3,true)]→All [(0:Int)≤u0∧u0<(s_.locked.length:Int)],(CS s_ u0)=(CS s_ u0),(Bu p u0)=(Bu p u0),gP (acs s_ p u0) [(3,true)]→All [(CS s_ u0)=(CS s_ u0)],(Bu p u0)=(Bu p u0)])))) {yb:=[(3,(Bu p u0)),(10,(CS s_ u0))] } [] (ae ⟨(fun hg=> ⟨(a1 (aZ hg)),trivial⟩),(ae (ae ⟨(fun hg=> ⟨(a2 (aZ hg)),trivial⟩),rfl,rfl,(fun hg=> ⟨rfl,trivial⟩),rfl,trivial⟩))⟩) ?_
      refine bI h (fun hb2 h=> ?_) (fun hb2 h=> ?_)
      ·refine ct hb2 ?_
       refine sz tT ⟨[(4,(vI 9))],[]⟩ {} [] ?_
       refine aR ?_
       obtain rfl:=oi h
       exact lR dF (dM 2) dB (bn.mk (.inr rfl) (p:=[]) (l:=[(sI 9)]) (by kernel_rfl) trivial (fC.refl _) trivial)
      ·refine cf hb2 ?_
       refine aP (rz tT ⟨[(jU s_),(k99 p),(UH p),(69,(uM u0))],[]⟩ {} [] ?_)
       obtain rfl:=oi h
       exact lN
     ·refine cf hb3 ?_
      refine aI (fz ⟨[],[]⟩ []) ?_
      refine aX ?_
      obtain rfl:=oi h
      exact lB
    ·clear hy
     cases y1 with
     |brk z=>
      unfold fZ
      refine⟨_, .refl, ?_⟩
      refine sz tT ⟨[(4,(vI 0))],[]⟩ {} [] ?_
      refine aR ?_
      obtain rfl:=oi h
      exact rl [(sI 0)]
     |ret v=>
      obtain rfl:=oi h
      unfold fZ
      intro e st hn ha hR
      cases e with
      |normal=>exact absurd rfl hn
      |exit id=>exact hR
      |goto l=>exact hR
      |ret=>exact hR
      |panic c=>exact hR
      |outgrown=>exact hR
   |ret v=>
    obtain rfl:=oi h
    unfold fZ
    intro e st hn ha hR
    cases e with
    |normal=>exact absurd rfl hn
    |exit id=>exact hR
    |goto l=>exact hR
    |ret=>exact hR
    |panic c=>exact hR
    |outgrown=>exact hR
def CJ  :(List Bool)→Exit→St→Prop:=
  fun r=>bn TT [.tmp 2] (vO 0 false r.length) [(0,some (aG 4 1 ah r))]
section
variable (s_:(List Bool))
abbrev D7:Ob:=(aG 4 1 ah ([]:List Bool))
abbrev BQ:=(([]:List Bool)++s_)
abbrev WW:=(au ah (BQ s_))
end
theorem rJ (s_:(List Bool)) (u0:Bool) {r:(List Bool)} (h:qp s_ u0=some r):Fn Try.prog 106 [(sD (aC (some u0) 1 ah s_))] [] (vO 0 false r.length) [(0,some (aG 4 1 ah r))]:=by
 refine fN tT Try.func106 rfl rfl fun B=> ?_
 show bJ _ _ _ _ _ _ (CJ r) _
 unfold qp at h
 refine sz tT ⟨[(0,(vD (aC (some u0) 1 ah s_)))],[]⟩ {} [] ?_
 refine aQ (sz tT ⟨[(0,(vD (aC (some u0) 1 ah s_))),(4,(vB (!u0)))],[]⟩ {} [] ?_)
 refine bI h (fun hb h=> ?_) (fun hb h=> ?_)
 ·refine ct hb ?_
  refine sz tT ⟨[(2,(vD nS))],[]⟩ {} [] ?_
  refine aI (.trans (bG.Ci (t:=2) (b:=2) (esz0:=0) (el0:=fun _ _=> .nilp) (E:=4) (esz:=1) (el:=au ah ([]:List Bool)) (by kernel_rfl) (by kernel_rfl)) (.trans (bG.fin (st':=⟨[(2,(vO 0 false 0))],[(0,some (.arr 4 1 0 (au ah ([]:List Bool))))]⟩) (cs:=[]) ⟨[],[(2,0)]⟩ [2] (by kernel_rfl) trivial) (bG.le (st':=⟨[(2,(vO 0 false (([]:List Bool).length)))],[(0,some D7)]⟩) ⟨⟨⟨_,rfl,fC.v (jw.one cW)⟩,trivial⟩,⟨rfl,oW,trivial⟩⟩))) ?_
  refine aR ?_
  obtain rfl:=oi h
  exact rl [(.one (.own 0 false (([]:List Bool).length)))]
 ·refine cf hb ?_
  refine aP (aQ (aO h fun⟨a1,a2⟩ h=> ?_))
  refine rg tT ⟨[(2,(vO 4 false ((BQ s_).length)))],[(4,some (aG 4 1 ah (BQ s_)))]⟩ [([]:List Bool).length=0,aY 0 1 (wF 1 []) (au ah ([]:List Bool)),([]:List Bool).length=([]:List Bool).length,_,_,(BQ s_).length=([]:List Bool).length+s_.length,aY (([]:List Bool).length+s_.length) 1 (wE (au ah ([]:List Bool)) ([]:List Bool).length (au ah s_)) (WW s_)] {an:=[(0, .arr ([]:List Bool).length (au ah ([]:List Bool))),(2, .arr (BQ s_).length (WW s_))],fr:=[(0,3),(2,4)] } [] ⟨(rfl),((fun i hi=>absurd hi (Nat.not_lt_zero i))),rfl,a1,a2,(List.length_append),(dz _ _ _ _),trivial⟩ ?_
  refine aI (bG.fin (st':=⟨[(2,(vO 0 false ((BQ s_).length)))],[(0,some (aG 4 1 ah (BQ s_)))]⟩) (cs:=[]) ⟨[],[(4,0)]⟩ [2] (by kernel_rfl) trivial) ?_
  refine aR ?_
  obtain rfl:=oi h
  exact rl [(.one (.own 0 false ((BQ s_).length)))]
theorem aU (s:(List Bool)) {r:(List Bool)} (h:bA s=some r):Fn Try.prog 106 [(sD (aC none 1 ah s))] [] (vO 0 false r.length) [(0,some (aG 4 1 ah r))]:=by
 refine Fn.nn (rJ s true h) fun hl=> ?_
 have hs:s=[]:=List.eq_nil_of_length_eq_zero hl
 subst hs
 exact rJ [] false (by rw [←h];kernel_rfl)
def Jw  :Bool→Exit→St→Prop:=
  fun r=>bn TT [.tmp 6] (vB r) []
section
variable (p:ai) (s_:State) (k:Int)
abbrev Qm:List SV:=[(.agg (k1 p)),(.agg (Li s_)),(sI k)]
abbrev bO:Nat × TV:=(3,(k7 p))
abbrev Be:Nat × TV:=(4,(k77 s_))
abbrev Zh:St:=⟨[(2,(vI k)),(bO p),(Be s_)],[]⟩
abbrev Oa:=(bif (at' s_.on_ k.toNat)then(!(at' s_.badSource k.toNat))else false)
abbrev Ki:=((at' p.sources k.toNat).bus)
abbrev ahM:=(bif (Oa s_ k)then(!(at' s_.badBus ((Ki p k).toNat)))else false)
abbrev ajh:TV:=(vB (ahM p s_ k))
abbrev agj:St:=⟨[(6,(ajh p s_ k))],[]⟩
abbrev ac5:=(iD [(5,(at' s_.on_ k.toNat)),(13,(Oa s_ k))])
abbrev ajp:=(gP (ac5 s_ k) [(5,true)]→All [(0:Int)≤k∧k<(s_.badSource.length:Int)])
abbrev ag9:=((gP (ac5 s_ k) [(13,true)]→All [(0:Int)≤(at' p.sources k.toNat).bus∧(at' p.sources k.toNat).bus<(s_.badBus.length:Int)])::(eqs (Oa s_ k) 3 []))
abbrev ag5:=(eqs (at' s_.on_ k.toNat) 4 ((ajp s_ k)::(eqs (at' s_.on_ k.toNat) 3 (eqs (Oa s_ k) 6 ((gP (ac5 s_ k) [(13,true)]→All [(0:Int)≤k∧k<(p.sources.length:Int)])::(eqs (Oa s_ k) 3 (ag9 p s_ k)))))))
abbrev ahz:List SV:=[(sB (ahM p s_ k))]
end
theorem IE (p:ai) (s_:State) (k:Int) {r:Bool} (h:pR p s_ k=some r):Fn Try.prog 65 (Qm p s_ k) [] (vB r) []:=by
 refine fN tT Try.func65 rfl rfl fun B=> ?_
 show bJ _ _ _ _ _ _ (Jw r) _
 unfold pR at h
 refine sz tT (Zh p s_ k) {fr:=[(0,2),(1,3)] } [2,3] ?_
 refine aQ (aO h fun⟨a1,a2,a3,a4⟩ h=> ?_)
 refine dg tT mX (agj p s_ k) (_::(ag5 p s_ k)) {yb:=[(5,(at' s_.on_ k.toNat)),(13,(Oa s_ k))] } [] ⟨a1,(ae ⟨(fun hg=> ⟨(a2 (aZ hg)),trivial⟩),(ae (ae ⟨(fun hg=> ⟨(a3 (aZ hg)),trivial⟩),(ae ⟨(fun hg=> ⟨(a4 (aZ hg)),trivial⟩),(ae trivial)⟩)⟩))⟩)⟩ ?_
 refine aR ?_
 obtain rfl:=oi h
 exact rl (ahz p s_ k)
def Ez  :Bool→Exit→St→Prop:=
  fun r=>bn TT [.tmp 6] (vB r) []
section
variable (s_:State) (i:Int) (p:ai)
abbrev Ld:=(bif (at' s_.closed i.toNat)then(!(at' s_.badLink i.toNat))else false)
abbrev OH:=(bif (Ld s_ i)then(!(at' s_.badBus ((IY p i).toNat)))else false)
abbrev afH:=(bif (OH s_ i p)then(!(at' s_.badBus ((EL p i).toNat)))else false)
abbrev aik:St:=⟨[(6,(vB (afH s_ i p)))],[]⟩
abbrev ach:=(iD [(5,(at' s_.closed i.toNat)),(13,(Ld s_ i)),(22,(OH s_ i p))])
abbrev aiu:=(eqs (OH s_ i p) 3 [])
abbrev agw:List SV:=[(sB (afH s_ i p))]
end
theorem El (p:ai) (s_:State) (i:Int) {r:Bool} (h:lF p s_ i=some r):Fn Try.prog 78 (Qm p s_ i) [] (vB r) []:=by
 refine fN tT Try.func78 rfl rfl fun B=> ?_
 show bJ _ _ _ _ _ _ (Ez r) _
 unfold lF at h
 refine sz tT ⟨[(2,(vI i)),(3,(vP 3 0)),(Be s_)],[(3,some (k97 p))]⟩ {fr:=[(0,3),(1,4)] } [4] ?_
 refine aQ (aO h fun a1 h=> ?_)
 refine rg tT ⟨[(2,(vI i)),(Be s_),(7,(acQ p i))],[]⟩ [_] {fr:=[(5,5)] } [5] ⟨a1,trivial⟩ ?_
 refine aQ (aO h fun⟨a1,a2,a3,a4⟩ h=> ?_)
 refine rg tT (aik s_ i p) (_::(eqs (at' s_.closed i.toNat) 4 ((gP (ach s_ i p) [(5,true)]→All [(0:Int)≤i∧i<(s_.badLink.length:Int)])::(eqs (at' s_.closed i.toNat) 3 (eqs (Ld s_ i) 5 ((gP (ach s_ i p) [(13,true)]→All [(0:Int)≤(at' p.links i.toNat).a∧(at' p.links i.toNat).a<(s_.badBus.length:Int)])::(eqs (Ld s_ i) 3 (eqs (OH s_ i p) 5 ((gP (ach s_ i p) [(22,true)]→All [(0:Int)≤(at' p.links i.toNat).b∧(at' p.links i.toNat).b<(s_.badBus.length:Int)])::(aiu s_ i p)))))))))) {yb:=[(5,(at' s_.closed i.toNat)),(13,(Ld s_ i)),(22,(OH s_ i p))] } [] ⟨a1,(ae ⟨(fun hg=> ⟨(a2 (aZ hg)),trivial⟩),(ae (ae ⟨(fun hg=> ⟨(a3 (aZ hg)),trivial⟩),(ae (ae ⟨(fun hg=> ⟨(a4 (aZ hg)),trivial⟩),(ae trivial)⟩))⟩))⟩)⟩ ?_
 refine aR ?_
 obtain rfl:=oi h
 exact rl (agw s_ i p)
def zU  :(List Int)→Exit→St→Prop:=
  fun r=>bn TT [.tmp 2] (vO 0 false r.length) [(0,some (aG 3 1 (aA .i64) r))]
abbrev adD:List (Nat × Option Ob):=[(0,some (.arr 3 1 0 (au (aA .i64) ([]:List Int))))]
abbrev adt:List (Nat × Option Ob):=[(0,some (aG 3 1 (aA .i64) ([]:List Int)))]
theorem o6 (s_:(List Int)) (u0:Bool) {r:(List Int)} (h:lW s_ u0=some r):Fn Try.prog 112 [(sD (aC (some u0) 1 (aA .i64) s_))] [] (vO 0 false r.length) [(0,some (aG 3 1 (aA .i64) r))]:=by
 refine fN tT Try.func112 rfl rfl fun B=> ?_
 show bJ _ _ _ _ _ _ (zU r) _
 unfold lW at h
 refine sz tT ⟨[(0,(vD (aC (some u0) 1 (aA .i64) s_)))],[]⟩ {} [] ?_
 refine aQ (sz tT ⟨[(0,(vD (aC (some u0) 1 (aA .i64) s_))),(4,(vB (!u0)))],[]⟩ {} [] ?_)
 refine bI h (fun hb h=> ?_) (fun hb h=> ?_)
 ·refine ct hb ?_
  refine sz tT ⟨[(2,(vD nS))],[]⟩ {} [] ?_
  refine aI (.trans (bG.Ci (t:=2) (b:=2) (esz0:=0) (el0:=fun _ _=> .nilp) (E:=3) (esz:=1) (el:=au (aA .i64) ([]:List Int)) (by kernel_rfl) (by kernel_rfl)) (.trans (bG.fin (st':=⟨[(2,(vO 0 false 0))],adD⟩) (cs:=[]) ⟨[],[(2,0)]⟩ [2] (by kernel_rfl) trivial) (bG.le (st':=⟨[(2,(vO 0 false (([]:List Int).length)))],adt⟩) ⟨⟨⟨_,rfl,fC.v (jw.one cW)⟩,trivial⟩,⟨rfl,oW,trivial⟩⟩))) ?_
  refine aR ?_
  obtain rfl:=oi h
  exact rl [(.one (.own 0 false (([]:List Int).length)))]
 ·refine cf hb ?_
  refine aP (aQ (aO h fun⟨a1,a2⟩ h=> ?_))
  refine rg tT ⟨[(2,(vO 4 false ((([]:List Int)++s_).length)))],[(4,some (aG 3 1 (aA .i64) (([]:List Int)++s_)))]⟩ [([]:List Int).length=0,aY 0 1 (wF 1 []) (au (aA .i64) ([]:List Int)),([]:List Int).length=([]:List Int).length,_,_,(([]:List Int)++s_).length=([]:List Int).length+s_.length,aY (([]:List Int).length+s_.length) 1 (wE (au (aA .i64) ([]:List Int)) ([]:List Int).length (au (aA .i64) s_)) (au (aA .i64) (([]:List Int)++s_))] {an:=[(0, .arr ([]:List Int).length (au (aA .i64) ([]:List Int))),(2, .arr (([]:List Int)++s_).length (au (aA .i64) (([]:List Int)++s_)))],fr:=[(0,3),(2,4)] } [] ⟨(rfl),((fun i hi=>absurd hi (Nat.not_lt_zero i))),rfl,a1,a2,(List.length_append),(dz _ _ _ _),trivial⟩ ?_
  refine aI (bG.fin (st':=⟨[(2,(vO 0 false ((([]:List Int)++s_).length)))],[(0,some (aG 3 1 (aA .i64) (([]:List Int)++s_)))]⟩) (cs:=[]) ⟨[],[(4,0)]⟩ [2] (by kernel_rfl) trivial) ?_
  refine aR ?_
  obtain rfl:=oi h
  exact rl [(.one (.own 0 false ((([]:List Int)++s_).length)))]
theorem wB (s:(List Int)) {r:(List Int)} (h:iT s=some r):Fn Try.prog 112 [(sD (aC none 1 (aA .i64) s))] [] (vO 0 false r.length) [(0,some (aG 3 1 (aA .i64) r))]:=by
 refine Fn.nn (o6 s true h) fun hl=> ?_
 have hs:s=[]:=List.eq_nil_of_length_eq_zero hl
 subst hs
 exact o6 [] false (by rw [←h];kernel_rfl)
def Lr  :Bool→Exit→St→Prop:=
  fun r=>bn TT [.tmp 2] (vB r) []
theorem Bn (x:Int) {r:Bool} (h:rR x=some r):Fn Try.prog 154 [(sI x)] [] (vB r) []:=by
 refine fN tT Try.func154 rfl rfl fun B=> ?_
 show bJ _ _ _ _ _ _ (Lr r) _
 unfold rR at h
 refine sz tT ⟨[(0,(vI x))],[]⟩ {} [] ?_
 refine sz tT ⟨[(2,(vB (!decide (x=x))))],[]⟩ {} [] ?_
 refine aR ?_
 obtain rfl:=oi h
 exact rl [(sB (!decide (x=x)))]
def HZ  :Int→Exit→St→Prop:=
  fun r=>bn TT [.tmp 4] (vI r) []
theorem Gm (x:Int) (y:Int) {r:Int} (h:oh x y=some r):Fn Try.prog 145 [(sI x),(sI y)] [] (vI r) []:=by
 refine fN tT Try.func145 rfl rfl fun B=> ?_
 show bJ _ _ _ _ _ _ (HZ r) _
 unfold oh at h
 refine sz tT ⟨[(0,(vI x)),(1,(vI y))],[]⟩ {} [] ?_
 refine aQ (bE h fun r_ hr_ h=> ?_)
 have q0:=Bn x hr_
 refine rg tT ⟨[(0,(vI x)),(1,(vI y)),(5,(vB r_))],[]⟩ [_] {an:=[(1,cA q0 [])] } [] ⟨q0,trivial⟩ ?_
 refine aQ (bE h fun u0 hr_1 h=> ?_)
 have q0:=Bn y hr_1
 refine rg tT ⟨[(0,(vI x)),(1,(vI y)),(5,(vB r_)),(6,(vB u0))],[]⟩ [_] {an:=[(1,cA q0 [])] } [] ⟨q0,trivial⟩ ?_
 refine aQ (sz tT ⟨[(0,(vI x)),(1,(vI y)),(6,(vB u0)),(11,(vB r_))],[]⟩ {} [] ?_)
 refine bI h (fun hb4 h=> ?_) (fun hb4 h=> ?_)
 ·refine ct hb4 ?_
  refine aQ (sz tT ⟨[(12,(vB u0))],[]⟩ {} [] ?_)
  refine bI h (fun hb h=> ?_) (fun hb h=> ?_)
  ·refine ct hb ?_
   refine sz tT ⟨[(4,(vI 0))],[]⟩ {} [] ?_
   refine aR ?_
   obtain rfl:=oi h
   exact rl [(sI 0)]
  ·refine cf hb ?_
   refine aP (sz tT ⟨[(4,(vI (-1)))],[]⟩ {} [] ?_)
   refine aR ?_
   obtain rfl:=oi h
   exact rl [(sI (-1))]
 ·refine cf hb4 ?_
  refine aP (aQ (sz tT ⟨[(0,(vI x)),(1,(vI y)),(13,(vB u0))],[]⟩ {} [] ?_))
  refine bI h (fun hb3 h=> ?_) (fun hb3 h=> ?_)
  ·refine ct hb3 ?_
   refine sz tT ⟨[(4,(vI 1))],[]⟩ {} [] ?_
   refine aR ?_
   obtain rfl:=oi h
   exact rl [(sI 1)]
  ·refine cf hb3 ?_
   refine aP (aQ (sz tT ⟨[(0,(vI x)),(1,(vI y)),(16,(vB (decide (x<y))))],[]⟩ {} [] ?_))
   refine bI h (fun hb2 h=> ?_) (fun hb2 h=> ?_)
   ·refine ct hb2 ?_
    refine sz tT ⟨[(4,(vI (-1)))],[]⟩ {} [] ?_
    refine aR ?_
    obtain rfl:=oi h
    exact rl [(sI (-1))]
   ·refine cf hb2 ?_
    refine aP (aQ (sz tT ⟨[(19,(vB (decide (y<x))))],[]⟩ {} [] ?_))
    refine bI h (fun hb1 h=> ?_) (fun hb1 h=> ?_)
    ·refine ct hb1 ?_
     refine sz tT ⟨[(4,(vI 1))],[]⟩ {} [] ?_
     refine aR ?_
     obtain rfl:=oi h
     exact rl [(sI 1)]
    ·refine cf hb1 ?_
     refine aP (sz tT ⟨[(4,(vI 0))],[]⟩ {} [] ?_)
     refine aR ?_
     obtain rfl:=oi h
     exact rl [(sI 0)]
def oJ  :Int→Exit→St→Prop:=
  fun r=>bn TT [.tmp 4] (vI r) []
section
variable (s1:(List Int)) (s2:(List Int))
abbrev Ef:DV:=(aC none 1 (aA .i64) s1)
abbrev PZ:TV:=(vD (Ef s1))
abbrev nL:Nat × TV:=(0,(PZ s1))
abbrev uz:Nat × TV:=(1,(PZ s2))
abbrev NU:Nat × TV:=(9,(PZ s1))
abbrev NJ:Nat × TV:=(10,(vI (s1.length:Int)))
end
def uo (s1:(List Int)) (s2:(List Int)):Int→St:=
  fun u0=> ⟨[(nL s1),(uz s2),(NU s1),(NJ s1),(11,(vI u0))],[]⟩
section
variable (s1:(List Int)) (s2:(List Int))
abbrev Y0:St:=⟨[(nL s1),(uz s2)],[]⟩
end
def uj (s1:(List Int)) (s2:(List Int)):Unit→St:=
  fun _=>(Y0 s1 s2)
def CX (s1:(List Int)) (s2:(List Int)):(aS Int (Ex Unit Int))→Exit→St→Prop:=
  LQ 0 [] (uo s1 s2) (uj s1 s2) oJ
section
variable (u0:Int) (s1:(List Int))
abbrev Ow:TV:=(vB (decide (u0<(s1.length:Int))))
end
theorem CY (s1:(List Int)) (s2:(List Int)) {r:Int} (h:nD s1 s2=some r):Fn Try.prog 111 [(sD (Ef s1)),(sD (Ef s2))] [] (vI r) []:=by
 refine fN tT Try.func111 rfl rfl fun B=> ?_
 show bJ _ _ _ _ _ _ (oJ r) _
 unfold nD at h
 refine sz tT (Y0 s1 s2) {} [] ?_
 refine aQ (sz tT ⟨[(nL s1),(uz s2),(NU s1),(NJ s1),(11,(vI 0))],[]⟩ {} [] ?_)
 refine bE h fun y hy h=> ?_
 refine aL [] (uo s1 s2) (uj s1 s2) oJ hy (fun s f h=> ?_) ?_
 ·clear hy
  show bJ _ _ _ _ _ _ ((CX s1 s2) f) _
  unfold bH at h
  obtain⟨u0,rfl⟩: ∃q,q=s:=⟨_,rfl⟩
  refine sz tT ⟨[(nL s1),(uz s2),(NU s1),(NJ s1),(11,(vI u0)),(12,(Ow u0 s1))],[]⟩ {} [] ?_
  refine aQ ?_
  refine bI h (fun hb2 h=> ?_) (fun hb2 h=> ?_)
  ·refine ct hb2 ?_
   refine aP (aQ (aB (aQ (aO h fun a1 h=> ?_))))
   refine rg tT ⟨[(nL s1),(uz s2),(5,(vI u0)),(6,(vI (at' s1 u0.toNat))),(NU s1),(NJ s1),(11,(vI u0))],[]⟩ [_] {} [] ⟨a1,trivial⟩ ?_
   refine aQ (sz tT ⟨[(nL s1),(uz s2),(5,(vI u0)),(6,(vI (at' s1 u0.toNat))),(NU s1),(NJ s1),(11,(vI u0)),(19,(vB (decide ((s2.length:Int)≤u0))))],[]⟩ {} [] ?_)
   refine bI h (fun hb1 h=> ?_) (fun hb1 h=> ?_)
   ·refine ct hb1 ?_
    refine sz tT ⟨[(4,(vI 1))],[]⟩ {} [] ?_
    refine aR ?_
    obtain rfl:=oi h
    exact lR dF (dM 0) dB (bn.mk (.inr rfl) (p:=[]) (l:=[(sI 1)]) (by kernel_rfl) trivial (fC.refl _) trivial)
   ·refine cf hb1 ?_
    refine aP (aQ (aO h fun a1 h=> ?_))
    refine rg tT ⟨[(nL s1),(uz s2),(6,(vI (at' s1 u0.toNat))),(7,(vI (at' s2 u0.toNat))),(NU s1),(NJ s1),(11,(vI u0))],[]⟩ [_] {} [] ⟨a1,trivial⟩ ?_
    refine aQ (bE h fun r_ hr_ h=> ?_)
    have q0:=Gm (at' s1 u0.toNat) (at' s2 u0.toNat) hr_
    refine rg tT ⟨[(nL s1),(uz s2),(8,(vI r_)),(NU s1),(NJ s1),(11,(vI u0))],[]⟩ [_] {an:=[(2,cA q0 [])] } [] ⟨q0,trivial⟩ ?_
    refine sz tT ⟨[(nL s1),(uz s2),(8,(vI r_)),(NU s1),(NJ s1),(11,(vI u0)),(28,(vB (!decide (r_=0))))],[]⟩ {} [] ?_
    refine bI h (fun hb h=> ?_) (fun hb h=> ?_)
    ·refine ct hb ?_
     refine sz tT ⟨[(4,(vI r_))],[]⟩ {} [] ?_
     refine aR ?_
     obtain rfl:=oi h
     exact lR dF (dM 0) dB (bn.mk (.inr rfl) (p:=[]) (l:=[(sI r_)]) (by kernel_rfl) trivial (fC.refl _) trivial)
    ·refine cf hb ?_
     refine aP (rz tT ⟨[(nL s1),(uz s2),(NU s1),(NJ s1),(11,(uM u0))],[]⟩ {} [] ?_)
     obtain rfl:=oi h
     exact lN
  ·refine cf hb2 ?_
   refine aI (fz (Y0 s1 s2) []) ?_
   refine aX ?_
   obtain rfl:=oi h
   exact lB
 ·clear hy
  cases y with
  |brk z=>
   unfold fZ
   refine⟨_, .refl, ?_⟩
   refine aQ (sz tT ⟨[(35,(vB (decide ((s1.length:Int)<(s2.length:Int)))))],[]⟩ {} [] ?_)
   refine bI h (fun hb3 h=> ?_) (fun hb3 h=> ?_)
   ·refine ct hb3 ?_
    refine sz tT ⟨[(4,(vI (-1)))],[]⟩ {} [] ?_
    refine aR ?_
    obtain rfl:=oi h
    exact rl [(sI (-1))]
   ·refine cf hb3 ?_
    refine aP (sz tT ⟨[(4,(vI 0))],[]⟩ {} [] ?_)
    refine aR ?_
    obtain rfl:=oi h
    exact rl [(sI 0)]
  |ret v=>
   obtain rfl:=oi h
   unfold fZ
   intro e st hn ha hR
   cases e with
   |normal=>exact absurd rfl hn
   |exit id=>exact hR
   |goto l=>exact hR
   |ret=>exact hR
   |panic c=>exact hR
   |outgrown=>exact hR
def D9  :Int→Exit→St→Prop:=
  fun r=>bn TT [.tmp 2] (vI r) []
section
variable (u0:(List Int))
abbrev V4:Nat × TV:=(6,(PZ u0))
abbrev Bb:Nat × TV:=(7,(vI (u0.length:Int)))
end
def G9 (u0:(List Int)):Int→St:=
  fun t8=> ⟨[(3,(vI 0)),(V4 u0),(Bb u0),(8,(vI t8))],[]⟩
def Hg  :Unit→St:=
  fun _=> ⟨[(3,(vI 0))],[]⟩
def QM (u0:(List Int)):(aS Int (Ex Unit Int))→Exit→St→Prop:=
  LQ 0 [] (G9 u0) Hg D9
theorem Qe (u0:(List Int)) {r:Int} (h:BX u0=some r):Fn Try.prog 110 [(sD (Ef u0))] [] (vI r) []:=by
 refine fN tT Try.func110 rfl rfl fun B=> ?_
 show bJ _ _ _ _ _ _ (D9 r) _
 unfold BX at h
 refine sz tT ⟨[(nL u0)],[]⟩ {} [] ?_
 refine sz tT ⟨[(nL u0),(3,(vI 0))],[]⟩ {} [] ?_
 refine aQ (sz tT ⟨[(3,(vI 0)),(V4 u0),(Bb u0),(8,(vI 0))],[]⟩ {} [] ?_)
 refine bE h fun y hy h=> ?_
 refine aL [] (G9 u0) Hg D9 hy (fun s f h=> ?_) ?_
 ·clear hy
  show bJ _ _ _ _ _ _ ((QM u0) f) _
  unfold wP at h
  obtain⟨t8,rfl⟩: ∃q,q=s:=⟨_,rfl⟩
  refine sz tT ⟨[(3,(vI 0)),(V4 u0),(Bb u0),(8,(vI t8)),(9,(Ow t8 u0))],[]⟩ {} [] ?_
  refine aQ ?_
  refine bI h (fun hb1 h=> ?_) (fun hb1 h=> ?_)
  ·refine ct hb1 ?_
   refine aP (aQ (aB (aQ (aO h fun a1 h=> ?_))))
   refine rg tT ⟨[(3,(vI 0)),(5,(vI (at' u0 t8.toNat))),(V4 u0),(Bb u0),(8,(vI t8))],[]⟩ [_] {} [] ⟨a1,trivial⟩ ?_
   refine sz tT ⟨[(3,(vI 0)),(5,(vI (at' u0 t8.toNat))),(V4 u0),(Bb u0),(8,(vI t8)),(14,(vB (!decide ((at' u0 t8.toNat)=0))))],[]⟩ {} [] ?_
   refine bI h (fun hb h=> ?_) (fun hb h=> ?_)
   ·refine ct hb ?_
    refine sz tT ⟨[(2,(vI (at' u0 t8.toNat)))],[]⟩ {} [] ?_
    refine aR ?_
    obtain rfl:=oi h
    exact lR dF (dM 0) dB (bn.mk (.inr rfl) (p:=[]) (l:=[(sI (at' u0 t8.toNat))]) (by kernel_rfl) trivial (fC.refl _) trivial)
   ·refine cf hb ?_
    refine aP (rz tT ⟨[(3,(vI 0)),(V4 u0),(Bb u0),(Vd t8)],[]⟩ {} [] ?_)
    obtain rfl:=oi h
    exact lN
  ·refine cf hb1 ?_
   refine aI (fz ⟨[(3,(vI 0))],[]⟩ []) ?_
   refine aX ?_
   obtain rfl:=oi h
   exact lB
 ·clear hy
  cases y with
  |brk z=>
   unfold fZ
   refine⟨_, .refl, ?_⟩
   refine sz tT ⟨[(2,(vI 0))],[]⟩ {} [] ?_
   refine aR ?_
   obtain rfl:=oi h
   exact rl [(sI 0)]
  |ret v=>
   obtain rfl:=oi h
   unfold fZ
   intro e st hn ha hR
   cases e with
   |normal=>exact absurd rfl hn
   |exit id=>exact hR
   |goto l=>exact hR
   |ret=>exact hR
   |panic c=>exact hR
   |outgrown=>exact hR
def Ip  :Bool→Exit→St→Prop:=
  fun r=>bn TT [.tmp 4] (vB r) []
section
variable (a:Way) (b:Way) (r_:Int)
abbrev Lu:=(IntKind.wrap .i64 (a.bK - b.bK))
abbrev LC:=(IntKind.wrap .i64 ((a.links.length:Int) - (b.links.length:Int)))
abbrev aeU:=(au (aA .i64) [(Lu a b),(LC a b),r_])
abbrev aiA:List (Nat × Option Ob):=[(6,some (aG 3 1 (aA .i64) [(Lu a b),(LC a b),r_]))]
end
theorem GZ (a:Way) (b:Way) {r:Bool} (h:iV a b=some r):Fn Try.prog 109 [(.agg [(cB a.there),(cI a.bK),(.d (aC none 1 (aA .i64) a.links))]),(.agg [(cB b.there),(cI b.bK),(.d (aC none 1 (aA .i64) b.links))])] [] (vB r) []:=by
 refine fN tT Try.func109 rfl rfl fun B=> ?_
 show bJ _ _ _ _ _ _ (Ip r) _
 unfold iV at h
 refine sz tT ⟨[(2,(vD (nN [(.bool a.there),(.int .i64 a.bK),(aC none 1 (aA .i64) a.links)] 0))),(3,(vD (nN [(.bool b.there),(.int .i64 b.bK),(aC none 1 (aA .i64) b.links)] 0)))],[]⟩ {fr:=[(0,4),(1,5)] } [4,5] ?_
 refine aQ ?_
 refine bI h (fun hb h=> ?_) (fun hb h=> ?_)
 ·skip
  refine di tT mX ⟨[(4,(vB (bif (!b.there)then true else false)))],[]⟩ [(!b.there)=true, ¬ gP (iD [(3,true)]) [(3,false)],(!b.there)=true, ¬ gP (iD [(3,true)]) [(3,false)],(!b.there)=true, ¬ gP (iD [(3,true)]) [(3,false)],(!b.there)=true, ¬ gP (iD [(3,true)]) [(3,false)],(!b.there)=true, ¬ gP (iD [(3,true)]) [(3,false)],(!b.there)=true, ¬ gP (iD [(3,true)]) [(3,false)],(!b.there)=true, ¬ gP (iD [(3,true)]) [(3,false)],(!b.there)=true, ¬ gP (iD [(3,true)]) [(3,false)],(!b.there)=true, ¬ gP (iD [(3,true)]) [(3,false)],(!b.there)=true, ¬ gP (iD [(3,true)]) [(3,false)],(!b.there)=true, ¬ gP (iD [(3,true)]) [(3,false)],(!b.there)=true, ¬ gP (iD [(3,true)]) [(3,false)],(!b.there)=true, ¬ gP (iD [(3,true)]) [(3,false)],(!b.there)=true, ¬ gP (iD [(3,true)]) [(3,false)],(!b.there)=true, ¬ gP (iD [(3,true)]) [(3,false)],(!b.there)=true, ¬ gP (iD [(3,true)]) [(3,false)],(!b.there)=true, ¬ gP (iD [(3,true)]) [(3,false)],(!b.there)=true, ¬ gP (iD [(3,true)]) [(3,false)],(!b.there)=true, ¬ gP (iD [(3,true)]) [(3,false)],(!b.there)=true, ¬ gP (iD [(3,true)]) [(3,false)],(!b.there)=true] {yb:=[(3,true)],an:=[(4, .skip),(5, .skip),(6, .skip),(7, .skip),(8, .skip),(9, .skip),(10, .skip),(11, .skip),(12, .skip),(13, .skip),(14, .skip),(15, .skip),(16, .skip),(17, .skip),(18, .skip),(19, .skip),(20, .skip),(21, .skip),(22, .skip),(23, .skip)] } [] ⟨(hb),((fun h=>Bool.noConfusion (show true=false from h.1))),(hb),((fun h=>Bool.noConfusion (show true=false from h.1))),(hb),((fun h=>Bool.noConfusion (show true=false from h.1))),(hb),((fun h=>Bool.noConfusion (show true=false from h.1))),(hb),((fun h=>Bool.noConfusion (show true=false from h.1))),(hb),((fun h=>Bool.noConfusion (show true=false from h.1))),(hb),((fun h=>Bool.noConfusion (show true=false from h.1))),(hb),((fun h=>Bool.noConfusion (show true=false from h.1))),(hb),((fun h=>Bool.noConfusion (show true=false from h.1))),(hb),((fun h=>Bool.noConfusion (show true=false from h.1))),(hb),((fun h=>Bool.noConfusion (show true=false from h.1))),(hb),((fun h=>Bool.noConfusion (show true=false from h.1))),(hb),((fun h=>Bool.noConfusion (show true=false from h.1))),(hb),((fun h=>Bool.noConfusion (show true=false from h.1))),(hb),((fun h=>Bool.noConfusion (show true=false from h.1))),(hb),((fun h=>Bool.noConfusion (show true=false from h.1))),(hb),((fun h=>Bool.noConfusion (show true=false from h.1))),(hb),((fun h=>Bool.noConfusion (show true=false from h.1))),(hb),((fun h=>Bool.noConfusion (show true=false from h.1))),(hb),((fun h=>Bool.noConfusion (show true=false from h.1))),(hb),trivial⟩ (bG.le (st':=⟨[(4,(vB true))],[]⟩) ⟨⟨⟨_,rfl,fC.v (jw.one (bL.of (congrArg (fun b=>CV.d (.bool b)) (XY hb))))⟩,trivial⟩,trivial⟩) ?_
  refine aR ?_
  obtain rfl:=oi h
  exact rl [(sB true)]
 ·skip
  refine bE h fun r_ hr_ h=> ?_
  refine bE h fun u0 hr_1 h=> ?_
  refine di tT mX ⟨[(4,(vB (bif (!b.there)then true else(decide (u0<0)))))],[]⟩ [(!b.there)=false,(!b.there)=false,(!b.there)=false,(!b.there)=false,(!b.there)=false,(!b.there)=false,(!b.there)=false,(!b.there)=false,(!b.there)=false,(!b.there)=false,(!b.there)=false,(!b.there)=false,(!b.there)=false,(!b.there)=false,(!b.there)=false,(!b.there)=false,(!b.there)=false,gP (iD [(3,false)]) [(3,false)]→All [Fn Try.prog 111 [(sD (aC none 1 (aA .i64) a.links)),(sD (aC none 1 (aA .i64) b.links))] [] (vI r_) []],(!b.there)=false,gP (iD [(3,false)]) [(3,false)]→All [[(Lu a b),(LC a b),r_].length=3,aY 3 1 (wF 1 [(.int .i64 (Lu a b)),(.int .i64 (LC a b)),(.int .i64 r_)]) (aeU a b r_)],gP (iD [(3,false)]) [(3,false)],(!b.there)=false,gP (iD [(3,false)]) [(3,false)]→All [Fn Try.prog 110 [(.one (.own 6 true ([(Lu a b),(LC a b),r_].length)))] (aiA a b r_) (vI u0) (aiA a b r_)],(!b.there)=false,(!b.there)=false] {yb:=[(3,false)],an:=[(20, .call [] (vI r_) []),(21, .arr [(Lu a b),(LC a b),r_].length (aeU a b r_)),(22, .callR [6] (vI u0))],fr:=[(21,6)] } [] ⟨(hb),(hb),(hb),(hb),(hb),(hb),(hb),(hb),(hb),(hb),(hb),(hb),(hb),(hb),(hb),(hb),(hb),(fun hg=> ⟨(CY a.links b.links hr_),trivial⟩),(hb),(fun hg=> ⟨(rfl),((by intro i hi j hj;match i,j,hi,hj with|0,0,_,_=>rfl|1,0,_,_=>rfl|2,0,_,_=>rfl)),trivial⟩),(⟨rfl,trivial⟩),(hb),(fun hg=> ⟨(Fn.Df (frz:=[6]) (p:=[[(Lu a b),(LC a b),r_].length=[(Lu a b),(LC a b),r_].length]) (Fn.le (args':=[(sD (aC (some true) 1 (aA .i64) [(Lu a b),(LC a b),r_]))]) (Qe [(Lu a b),(LC a b),r_] hr_1) ⟨jw.one (bL.d dP.l9),trivial⟩) (by kernel_rfl) ⟨rfl,trivial⟩ rfl),trivial⟩),(hb),(hb),trivial⟩ (bG.le (st':=⟨[(4,(vB (decide (u0<0))))],[]⟩) ⟨⟨⟨_,rfl,fC.v (jw.one (bL.of (congrArg (fun b=>CV.d (.bool b)) (WZ hb))))⟩,trivial⟩,trivial⟩) ?_
  refine aR ?_
  obtain rfl:=oi h
  exact rl [(sB (decide (u0<0)))]
def qM  :Int→Exit→St→Prop:=
  fun r=>bn TT [.tmp 4] (vI r) []
def wV (s_:(List Int)) (v_:Int):Int→St:=
  fun t8=> ⟨[(nL s_),(1,(vI v_)),(Bb s_),(8,(vI t8))],[]⟩
def wW  :Unit→St:=
  fun _=> ⟨[],[]⟩
def EY (s_:(List Int)) (v_:Int):(aS Int (Ex Unit Int))→Exit→St→Prop:=
  LQ 0 [] (wV s_ v_) wW qM
theorem Ey (s_:(List Int)) (v_:Int) {r:Int} (h:pU s_ v_=some r):Fn Try.prog 114 [(sD (Ef s_)),(sI v_)] [] (vI r) []:=by
 refine fN tT Try.func114 rfl rfl fun B=> ?_
 show bJ _ _ _ _ _ _ (qM r) _
 unfold pU at h
 refine sz tT ⟨[(nL s_),(1,(vI v_))],[]⟩ {} [] ?_
 refine aQ (sz tT ⟨[(nL s_),(1,(vI v_)),(Bb s_),(8,(vI 0))],[]⟩ {} [] ?_)
 refine bE h fun y hy h=> ?_
 refine aL [] (wV s_ v_) wW qM hy (fun s f h=> ?_) ?_
 ·clear hy
  show bJ _ _ _ _ _ _ ((EY s_ v_) f) _
  unfold l7 at h
  obtain⟨t8,rfl⟩: ∃q,q=s:=⟨_,rfl⟩
  refine sz tT ⟨[(nL s_),(1,(vI v_)),(Bb s_),(8,(vI t8)),(9,(Ow t8 s_))],[]⟩ {} [] ?_
  refine aQ ?_
  refine bI h (fun hb1 h=> ?_) (fun hb1 h=> ?_)
  ·refine ct hb1 ?_
   refine aP (aQ (aB (sz tT ⟨[(nL s_),(1,(vI v_)),(5,(vI t8)),(Bb s_),(8,(vI t8))],[]⟩ {} [] ?_)))
   refine aQ (aO h fun a1 h=> ?_)
   refine rg tT ⟨[(nL s_),(1,(vI v_)),(5,(vI t8)),(Bb s_),(8,(vI t8)),(16,(vB (decide (v_=(at' s_ t8.toNat)))))],[]⟩ [_] {} [] ⟨a1,trivial⟩ ?_
   refine bI h (fun hb h=> ?_) (fun hb h=> ?_)
   ·refine ct hb ?_
    refine sz tT ⟨[(4,(vI t8))],[]⟩ {} [] ?_
    refine aR ?_
    obtain rfl:=oi h
    exact lR dF (dM 0) dB (bn.mk (.inr rfl) (p:=[]) (l:=[(sI t8)]) (by kernel_rfl) trivial (fC.refl _) trivial)
   ·refine cf hb ?_
    refine aP (rz tT ⟨[(nL s_),(1,(vI v_)),(Bb s_),(Vd t8)],[]⟩ {} [] ?_)
    obtain rfl:=oi h
    exact lN
  ·refine cf hb1 ?_
   refine aI (fz ⟨[],[]⟩ []) ?_
   refine aX ?_
   obtain rfl:=oi h
   exact lB
 ·clear hy
  cases y with
  |brk z=>
   unfold fZ
   refine⟨_, .refl, ?_⟩
   refine sz tT ⟨[(4,(vI (-1)))],[]⟩ {} [] ?_
   refine aR ?_
   obtain rfl:=oi h
   exact rl [(sI (-1))]
  |ret v=>
   obtain rfl:=oi h
   unfold fZ
   intro e st hn ha hR
   cases e with
   |normal=>exact absurd rfl hn
   |exit id=>exact hR
   |goto l=>exact hR
   |ret=>exact hR
   |panic c=>exact hR
   |outgrown=>exact hR
def Dg  :Bool→Exit→St→Prop:=
  fun r=>bn TT [.tmp 4] (vB r) []
theorem BA (s_:(List Int)) (v_:Int) {r:Bool} (h:jE s_ v_=some r):Fn Try.prog 69 [(sD (Ef s_)),(sI v_)] [] (vB r) []:=by
 refine fN tT Try.func69 rfl rfl fun B=> ?_
 show bJ _ _ _ _ _ _ (Dg r) _
 unfold jE at h
 refine sz tT ⟨[(nL s_),(1,(vI v_))],[]⟩ {} [] ?_
 refine aQ (bE h fun r_ hr_ h=> ?_)
 have q0:=Ey s_ v_ hr_
 refine rg tT (k31 r_) [_] {an:=[(2,cA q0 [])] } [] ⟨q0,trivial⟩ ?_
 refine aR ?_
 obtain rfl:=oi h
 exact rl [(sB (decide (0≤r_)))]
section
variable (o_:(List Int))
abbrev yQ:Ob:=(aG 3 1 (aA .i64) o_)
abbrev wD:List (Nat × Option Ob):=[(0,some (.cells 40 [(.own 1 true o_.length)])),(1,some (yQ o_))]
end
def Ej (o_:(List Int)):Bool→Exit→St→Prop:=
  fun r=>bn TT [.tmp 3] (vB r) (wD o_)
theorem Dp (i:Int) (o_:(List Int)) {r:Bool} (h:nC i o_=some r):Fn Try.prog 68 [(sI i),(.one (.ptr 0 0))] (wD o_) (vB r) (wD o_):=by
 refine fN tT Try.func68 rfl rfl fun B=> ?_
 show bJ _ _ _ _ _ _ ((Ej o_) r) _
 unfold nC at h
 refine sz tT ⟨[(0,(vI i)),(1,(vP 0 0))],(wD o_)⟩ {} [] ?_
 refine sg tT ⟨[(3,(vB (bif (decide (i<0))then true else(decide ((o_.length:Int)≤i)))))],(wD o_)⟩ (eqs (decide (i<0)) 5 []) {yb:=[(2,(decide (i<0)))] } [] (ae trivial) ?_
 refine aR ?_
 obtain rfl:=oi h
 exact rl [(sB (bif (decide (i<0))then true else(decide ((o_.length:Int)≤i))))]
def kC (o_:(List Int)):Int→Exit→St→Prop:=
  fun r=>bn TT [.tmp 4] (vI r) (wD o_)
abbrev SE:Nat × TV:=(1,(.v (.one (.fn 68 0 1 (Cb [(.ptr 0 0)])))))
def ou (s_:(List Int)) (o_:(List Int)):Int→St:=
  fun t8=> ⟨[(nL s_),SE,(Bb s_),(8,(vI t8))],(wD o_)⟩
section
variable (o_:(List Int))
abbrev ahq:St:=⟨[],(wD o_)⟩
end
def nY (o_:(List Int)):Unit→St:=
  fun _=>(ahq o_)
def yc (s_:(List Int)) (o_:(List Int)):(aS Int (Ex Unit Int))→Exit→St→Prop:=
  LQ 0 [] (ou s_ o_) (nY o_) (kC o_)
section
variable (s_:(List Int)) (o_:(List Int))
abbrev afF:St:=⟨[(nL s_),SE],(wD o_)⟩
end
theorem xP (s_:(List Int)) (o_:(List Int)) {r:Int} (h:jl s_ o_=some r):Fn Try.prog 113 [(sD (Ef s_)),(.one (.fn 68 0 1 (Cb [(.ptr 0 0)])))] (wD o_) (vI r) (wD o_):=by
 refine fN tT Try.func113 rfl rfl fun B=> ?_
 show bJ _ _ _ _ _ _ ((kC o_) r) _
 unfold jl at h
 refine sz tT (afF s_ o_) {} [] ?_
 refine aQ (sz tT ⟨[(nL s_),SE,(Bb s_),(8,(vI 0))],(wD o_)⟩ {} [] ?_)
 refine bE h fun y hy h=> ?_
 refine aL [] (ou s_ o_) (nY o_) (kC o_) hy (fun s f h=> ?_) ?_
 ·clear hy
  show bJ _ _ _ _ _ _ ((yc s_ o_) f) _
  unfold iq at h
  obtain⟨t8,rfl⟩: ∃q,q=s:=⟨_,rfl⟩
  refine sz tT ⟨[(nL s_),SE,(Bb s_),(8,(vI t8)),(9,(Ow t8 s_))],(wD o_)⟩ {} [] ?_
  refine aQ ?_
  refine bI h (fun hb1 h=> ?_) (fun hb1 h=> ?_)
  ·refine ct hb1 ?_
   refine aP (aQ (aB (sz tT ⟨[(nL s_),SE,(5,(vI t8)),(Bb s_),(8,(vI t8))],(wD o_)⟩ {} [] ?_)))
   refine aQ (bE h fun r_ hr_ h=> ?_)
   refine aO h fun a1 h=> ?_
   have q1:=Dp (at' s_ t8.toNat) o_ hr_
   refine rg tT ⟨[(nL s_),SE,(5,(vI t8)),(Bb s_),(8,(vI t8)),(16,(vB r_))],(wD o_)⟩ [_,_] {an:=[(5,cR q1 [0,1])] } [] ⟨a1,q1,trivial⟩ ?_
   refine bI h (fun hb h=> ?_) (fun hb h=> ?_)
   ·refine ct hb ?_
    refine sz tT ⟨[(4,(vI t8))],(wD o_)⟩ {} [] ?_
    refine aR ?_
    obtain rfl:=oi h
    exact lR dF (dM 0) dB (bn.mk (.inr rfl) (p:=[]) (l:=[(sI t8)]) (by kernel_rfl) trivial (fC.refl _) (.refl _))
   ·refine cf hb ?_
    refine aP (rz tT ⟨[(nL s_),SE,(Bb s_),(Vd t8)],(wD o_)⟩ {} [] ?_)
    obtain rfl:=oi h
    exact lN
  ·refine cf hb1 ?_
   refine aI (fz (ahq o_) []) ?_
   refine aX ?_
   obtain rfl:=oi h
   exact lB
 ·clear hy
  cases y with
  |brk z=>
   unfold fZ
   refine⟨_, .refl, ?_⟩
   refine sz tT ⟨[(4,(vI (-1)))],(wD o_)⟩ {} [] ?_
   refine aR ?_
   obtain rfl:=oi h
   exact rl [(sI (-1))]
  |ret v=>
   obtain rfl:=oi h
   unfold fZ
   intro e st hn ha hR
   cases e with
   |normal=>exact absurd rfl hn
   |exit id=>exact hR
   |goto l=>exact hR
   |ret=>exact hR
   |panic c=>exact hR
   |outgrown=>exact hR
def wG (o_:(List Int)):Bool→Exit→St→Prop:=
  fun r=>bn TT [.tmp 4] (vB r) (wD o_)
theorem vL (s_:(List Int)) (o_:(List Int)) {r:Bool} (h:fF s_ o_=some r):Fn Try.prog 67 [(sD (Ef s_)),(.one (.fn 68 0 1 (Cb [(.ptr 0 0)])))] (wD o_) (vB r) (wD o_):=by
 refine fN tT Try.func67 rfl rfl fun B=> ?_
 show bJ _ _ _ _ _ _ ((wG o_) r) _
 unfold fF at h
 refine sz tT (afF s_ o_) {} [] ?_
 refine aQ (bE h fun r_ hr_ h=> ?_)
 have q0:=xP s_ o_ hr_
 refine rg tT ⟨[(4,(vB (decide (0≤r_))))],(wD o_)⟩ [_] {an:=[(2,cR q0 [0,1])] } [] ⟨q0,trivial⟩ ?_
 refine aR ?_
 obtain rfl:=oi h
 exact rl [(sB (decide (0≤r_)))]
def qI  :((List Int) × Bool × Int)→Exit→St→Prop:=
  fun r=>bn TT [.tmp 4, .tmp 5] (.gL [(sD (aC (some r.2.1) 1 (aA .i64) r.1)),(sI r.2.2)]) []
section
variable (l:(List Short)) (u0:(List Int)) (u1:Int)
abbrev Iu:Nat × TV:=(23,(vD (aC none 4 Short.cell l)))
abbrev Ik:Nat × TV:=(24,(vI (l.length:Int)))
abbrev H9:List (Nat × Option Ob):=[(8,some (yQ u0)),(9,some (.cells 40 [(.own 8 true u0.length)]))]
abbrev aci:St:=⟨[(7,(vP 9 0)),(Iu l),(Ik l),(25,(vI u1))],(H9 u0)⟩
end
def xw (l:(List Short)):((List Int) × Int)→St:=
  fun zz=>match zz with|(u0,u1)=>(aci l u0 u1)
section
variable (u0:(List Int))
abbrev ahl:St:=⟨[(7,(vP 9 0))],(H9 u0)⟩
end
def xu  :(List Int)→St:=
  fun u0=>(ahl u0)
def qb (l:(List Short)):(aS ((List Int) × Int) (Ex (List Int) ((List Int) × Bool × Int)))→Exit→St→Prop:=
  LQ 0 [] (xw l) xu qI
section
variable (l:(List Short)) (u0:Int) (u2:(List Int)) (u3:Int)
abbrev PO:Nat × TV:=(9,(vD (nN [(.int .i64 ((at' l u0.toNat).source)),(.int .i64 ((at' l u0.toNat).bK)),(.int .i64 ((at' l u0.toNat).amps)),(aC none 1 (aA .i64) ((at' l u0.toNat).links))] 0)))
abbrev Ui:Nat × TV:=(44,(vI (u2.length:Int)))
abbrev aeo:List (Nat × TV):=[(7,(vP 9 0)),(PO l u0),(Iu l),(Ik l),(25,(vI u0)),(Ui u2),(45,(vI u3))]
end
def wT (l:(List Short)) (u2:(List Int)) (u0:Int):((List Int) × Int)→St:=
  fun zz=>match zz with|(u1,u3)=> ⟨(aeo l u0 u2 u3),(H9 u1)⟩
def wN (l:(List Short)) (u1:Int):(List Int)→St:=
  fun u0=>(aci l u0 u1)
def FL (l:(List Short)) (u1:(List Int)) (u0:Int):(aS ((List Int) × Int) (Ex (List Int) (aS ((List Int) × Int) (Ex (List Int) ((List Int) × Bool × Int)))))→Exit→St→Prop:=
  LQ 2 [1] (wT l u1 u0) (wN l u0) (qb l)
section
variable (p:ai) (l:(List Short)) (r_:Int) (u0:Int) (u1:(List Int)) (u2:Int) (u3:(List Int))
abbrev ajy:List SV:=[(.agg (k1 p)),(sD (aC none 4 Short.cell l))]
abbrev qa:Nat × TV:=(1,(vD (aC none 4 Short.cell l)))
abbrev fo:Nat × TV:=(2,(k7 p))
abbrev aiB:St:=⟨[(qa l),(fo p)],[]⟩
abbrev aeK:St:=⟨[(qa l),(fo p),(6,(vI r_))],[]⟩
abbrev Yv:St:=⟨[(4,(vD nS)),(5,(vI r_))],[]⟩
abbrev SB:DV:=(aC (some false) 1 (aA .i64) ([]:List Int))
abbrev WH:St:=⟨[(4,(vD nS)),(5,(vI 1))],[]⟩
abbrev Iw:=((p.links.length:Int).toNat)
abbrev DW:=(List.replicate (Iw p) (0:Int))
abbrev acr:Ob:=(aG 3 1 (aA .i64) (DW p))
abbrev aa4:=((DW p).length)
abbrev aiD:List (Nat × Option Ob):=[(8,some (acr p)),(9,some (.cells 40 [(.own 8 true (aa4 p))]))]
abbrev X4:=((p.links.length:Int):Int)
abbrev OP:=(au (aA .i64) (DW p))
abbrev Ql:=(decide (((at' l u0.toNat).amps)<0))
abbrev RH:=(bif (Ql l u0)then true else(decide (1000000<((at' l u0.toNat).amps))))
abbrev XE:=(u1.set u2.toNat (IntKind.wrap .i64 ((at' u1 u2.toNat)+((at' l u0.toNat).amps))))
abbrev Uh:=(au (aA .i64) (XE l u0 u1 u2))
abbrev af9:=(nP (au (aA .i64) u1) u2.toNat 0 [(.int .i64 (IntKind.wrap .i64 ((at' u1 u2.toNat)+((at' l u0.toNat).amps))))])
abbrev ae3:List (Nat × Option Ob):=[(8,some (aG 3 1 (aA .i64) (XE l u0 u1 u2))),(9,some (.cells 40 [(.own 8 true ((XE l u0 u1 u2).length))]))]
abbrev ah9:List (Nat × TV):=[(7,(vP 9 0)),(PO l u0),(Iu l),(Ik l),(25,(vI u0)),(Ui u3),(45,(uM u2))]
end
theorem Ev (p:ai) (l:(List Short)) {r:((List Int) × Bool × Int)} (h:kr p l=some r):Fn Try.prog 18 (ajy p l) [] (.gL [(sD (aC (some r.2.1) 1 (aA .i64) r.1)),(sI r.2.2)]) []:=by
 refine fN tT Try.func18 rfl rfl fun B=> ?_
 show bJ _ _ _ _ _ _ (qI r) _
 unfold kr at h
 refine sz tT (aiB p l) {fr:=[(0,7)] } [7] ?_
 refine aQ (aQ (bE h fun r_ hr_ h=> ?_))
 have q0:=yA p hr_
 refine rg tT (aeK p l r_) [_] {an:=[(1,cA q0 [])] } [] ⟨q0,trivial⟩ ?_
 refine sz tT ⟨[(qa l),(fo p),(6,(vI r_)),(14,(vB (!decide (r_=0))))],[]⟩ {} [] ?_
 refine bI h (fun hb5 h=> ?_) (fun hb5 h=> ?_)
 ·refine ct hb5 ?_
  refine sz tT (Yv r_) {} [] ?_
  refine aI (bG.le (st':=⟨[(4,(vD SB)),(5,(vI r_))],[]⟩) ⟨⟨⟨_,rfl,fC.v (jw.one (bL.d dP.TG))⟩,tR,trivial⟩,trivial⟩) ?_
  refine aR ?_
  obtain rfl:=oi h
  exact rl [(sD SB),(sI r_)]
 ·refine cf hb5 ?_
  refine aP (aQ (sz tT ⟨[(qa l),(fo p),(18,(vB (decide (8<(l.length:Int)))))],[]⟩ {} [] ?_))
  refine bI h (fun hb4 h=> ?_) (fun hb4 h=> ?_)
  ·refine ct hb4 ?_
   refine sz tT WH {} [] ?_
   refine aI (bG.le (st':=⟨[(4,(vD SB)),(5,(vI 1))],[]⟩) ⟨⟨⟨_,rfl,fC.v (jw.one (bL.d dP.TG))⟩,tR,trivial⟩,trivial⟩) ?_
   refine aR ?_
   obtain rfl:=oi h
   exact rl [(sD SB),(sI 1)]
  ·refine cf hb4 ?_
   refine aP (aQ (aO h fun⟨a1,a2,a3⟩ h=> ?_))
   refine rg tT ⟨[(qa l),(7,(vP 9 0))],(aiD p)⟩ [_,(X4 p)=(p.links.length:Int),_,_,(DW p).length=(Iw p),aY (Iw p) 1 (fun _ j=>[(.int .i64 0)].getD j .nilp) (OP p)] {an:=[(3, .arr (DW p).length (OP p))],fr:=[(3,8),(4,9)] } [] ⟨a1,rfl,a2,a3,(List.length_replicate),(jA _ _ _ _ _ (fun j hj=>(match j,hj with|0,_=>rfl))),trivial⟩ ?_
   refine aQ (sz tT ⟨[(7,(vP 9 0)),(Iu l),(Ik l),(25,(vI 0))],(aiD p)⟩ {} [] ?_)
   refine bE h fun y1 hy h=> ?_
   refine aL [] (xw l) xu qI hy (fun s f h=> ?_) ?_
   ·clear hy
    show bJ _ _ _ _ _ _ ((qb l) f) _
    unfold eH at h
    obtain⟨u3,u0⟩:=s
    refine sz tT ⟨[(7,(vP 9 0)),(Iu l),(Ik l),(25,(vI u0)),(26,(vB (decide (u0<(l.length:Int)))))],(H9 u3)⟩ {} [] ?_
    refine aQ ?_
    refine bI h (fun hb3 h=> ?_) (fun hb3 h=> ?_)
    ·refine ct hb3 ?_
     refine aP (aQ (aB (aQ (aO h fun a1 h=> ?_))))
     refine rg tT ⟨[(7,(vP 9 0)),(PO l u0),(Iu l),(Ik l),(25,(vI u0))],(H9 u3)⟩ [_] {fr:=[(2,13)] } [13] ⟨a1,trivial⟩ ?_
     refine aQ (aQ (bE h fun u5 hr_1 h=> ?_))
     refine rg tT ⟨[(7,(vP 9 0)),(PO l u0),(Iu l),(Ik l),(25,(vI u0)),(42,(vB (bif (RH l u0)then true else u5)))],(H9 u3)⟩ (eqs (Ql l u0) 4 (eqs (RH l u0) 4 [gP (iD [(3,(Ql l u0)),(8,(RH l u0))]) [(8,false)]→All [Fn Try.prog 67 [(sD (aC none 1 (aA .i64) ((at' l u0.toNat).links))),(.one (.fn 68 0 1 (Cb [(.ptr 9 0)])))] [(9,some (.cells 40 [(.own 8 true u3.length)])),(8,some (yQ u3))] (vB u5) [(9,some (.cells 40 [(.own 8 true u3.length)])),(8,some (yQ u3))]],(RH l u0)=(RH l u0)])) {yb:=[(3,(Ql l u0)),(8,(RH l u0))],an:=[(12, .callR [9,8] (vB u5))] } [] (ae (ae ⟨(fun hg=> ⟨(rK [(0,9),(1,8)] (vL ((at' l u0.toNat).links) u3 (gD hr_1 (aZ hg)))),trivial⟩),rfl,trivial⟩)) ?_
     refine bI h (fun hb2 h=> ?_) (fun hb2 h=> ?_)
     ·refine ct hb2 ?_
      refine sz tT WH {} [] ?_
      refine aI (bG.le (st':=⟨[(4,(vD SB)),(5,(vI 1))],[]⟩) ⟨⟨⟨_,rfl,fC.v (jw.one (bL.d dP.TG))⟩,tR,trivial⟩,trivial⟩) ?_
      refine aR ?_
      obtain rfl:=oi h
      exact lR dF (dM 0) dB (bn.mk (.inr rfl) (p:=[]) (l:=[(sD SB),(sI 1)]) (by kernel_rfl) trivial (fC.refl _) trivial)
     ·refine cf hb2 ?_
      refine aP (sz tT ⟨[(7,(vP 9 0)),(PO l u0),(Iu l),(Ik l),(25,(vI u0)),(Ui u3),(45,(vI 0))],(H9 u3)⟩ {} [] ?_)
      refine bE h fun y hy h=> ?_
      refine aL [1] (wT l u3 u0) (wN l u0) (qb l) hy (fun s f h=> ?_) ?_
      ·clear hy
       show bJ _ _ _ _ _ _ ((FL l u3 u0) f) _
       unfold iF at h
       obtain⟨u1,u2⟩:=s
       refine sz tT ⟨[(7,(vP 9 0)),(PO l u0),(Iu l),(Ik l),(25,(vI u0)),(Ui u3),(45,(vI u2)),(46,(Ow u2 u3))],(H9 u1)⟩ {} [] ?_
       refine aQ ?_
       refine bI h (fun hb1 h=> ?_) (fun hb1 h=> ?_)
       ·refine ct hb1 ?_
        refine aP (aQ (aB (sz tT ⟨[(7,(vP 9 0)),(PO l u0),(10,(vI u2)),(Iu l),(Ik l),(25,(vI u0)),(Ui u3),(45,(vI u2))],(H9 u1)⟩ {} [] ?_)))
        refine aQ (bE h fun u7 hr_2 h=> ?_)
        have q0:=BA ((at' l u0.toNat).links) u2 hr_2
        refine rg tT ⟨[(7,(vP 9 0)),(PO l u0),(10,(vI u2)),(Iu l),(Ik l),(25,(vI u0)),(Ui u3),(45,(vI u2)),(51,(vB u7))],(H9 u1)⟩ [_] {an:=[(3,cA q0 [])] } [] ⟨q0,trivial⟩ ?_
        refine bI h (fun hb h=> ?_) (fun hb h=> ?_)
        ·refine ct hb ?_
         refine aO h fun a1 h=> ?_
         refine di tT mX ⟨(aeo l u0 u3 u2),[(8,some (.arr 3 1 u1.length (Uh l u0 u1 u2))),(9,some (.cells 40 [(.own 8 true u1.length)]))]⟩ [_,_,_,_,aY u1.length 1 (af9 l u0 u1 u2) (Uh l u0 u1 u2)] {an:=[(8, .arr 0 (Uh l u0 u1 u2))] } [] ⟨a1,(tL a1),a1,(tL a1),(fU _ _ _ _ _ _ _ _ rfl (fun j hj=>(match j,hj with|0,_=>rfl))),trivial⟩ (bG.le (st':=⟨(aeo l u0 u3 u2),(ae3 l u0 u1 u2)⟩) ⟨⟨tR,tR,tR,tR,tR,tR,tR,trivial⟩,⟨rfl,oW,⟨rfl,fV ⟨cW,trivial⟩,trivial⟩⟩⟩) ?_
         refine rz tT ⟨(ah9 l u0 u2 u3),(ae3 l u0 u1 u2)⟩ {} [] ?_
         obtain rfl:=oi h
         exact lN
        ·refine cf hb ?_
         refine aP (rz tT ⟨(ah9 l u0 u2 u3),(H9 u1)⟩ {} [] ?_)
         obtain rfl:=oi h
         exact lN
       ·refine cf hb1 ?_
        refine aI (fz (aci l u1 u0) []) ?_
        refine aX ?_
        obtain rfl:=oi h
        exact lB
      ·clear hy
       cases y with
       |brk z=>
        obtain⟨u6,rfl⟩: ∃q,q=z:=⟨_,rfl⟩
        unfold fZ
        refine⟨_, .refl, ?_⟩
        refine rz tT ⟨[(7,(vP 9 0)),(Iu l),(Ik l),(25,(uM u0))],(H9 u6)⟩ {} [] ?_
        obtain rfl:=oi h
        exact lN
       |ret v=>
        obtain rfl:=oi h
        unfold fZ
        intro e st hn ha hR
        cases e with
        |normal=>exact absurd rfl hn
        |exit id=>simp only [vk (b:=1) ha rfl,cond_false];exact hR
        |goto l=>exact hR
        |ret=>exact hR
        |panic c=>exact hR
        |outgrown=>exact hR
    ·refine cf hb3 ?_
     refine aI (fz (ahl u3) []) ?_
     refine aX ?_
     obtain rfl:=oi h
     exact lB
   ·clear hy
    cases y1 with
    |brk z=>
     obtain⟨u4,rfl⟩: ∃q,q=z:=⟨_,rfl⟩
     unfold fZ
     refine⟨_, .refl, ?_⟩
     refine sg tT ⟨[(4,(vD (aC (some true) 1 (aA .i64) u4))),(5,(vI 0))],[]⟩ [u4.length=u4.length] {} [8] ⟨rfl,trivial⟩ ?_
     refine aR ?_
     obtain rfl:=oi h
     exact rl [(sD (aC (some true) 1 (aA .i64) u4)),(sI 0)]
    |ret v=>
     obtain rfl:=oi h
     unfold fZ
     intro e st hn ha hR
     cases e with
     |normal=>exact absurd rfl hn
     |exit id=>exact hR
     |goto l=>exact hR
     |ret=>exact hR
     |panic c=>exact hR
     |outgrown=>exact hR
def CO  :State→Exit→St→Prop:=
  fun r=>bn TT [.cell 2 29] (.v (.agg [(.own 0 false r.closed.length),(.own 1 false r.locked.length),(.own 2 false r.badLink.length),(.own 3 false r.on_.length),(.own 4 false r.badSource.length),(.own 5 false r.earthed.length),(.own 6 false r.badBus.length)])) [(0,some (aG 4 1 ah r.closed)),(1,some (aG 4 1 ah r.locked)),(2,some (aG 4 1 ah r.badLink)),(3,some (aG 4 1 ah r.on_)),(4,some (aG 4 1 ah r.badSource)),(5,some (aG 4 1 ah r.earthed)),(6,some (aG 4 1 ah r.badBus)),(7,none)]
section
variable (s_:State) (r_:(List Bool)) (u1:(List Bool)) (u2:(List Bool)) (u3:(List Bool)) (u4:(List Bool)) (u0:(List Bool)) (u5:(List Bool))
abbrev ad8:List SV:=[(.agg (Li s_))]
abbrev aaF:Ob:=(.cells 29 [(.d nS),(.d nS),(.d nS),(.d nS),(.d nS),(.d nS),(.d nS)])
abbrev aju:St:=⟨[(1,(k77 s_)),(2,(vP 10 0))],[(10,some aaF)]⟩
abbrev Uf:Nat × Option Ob:=(11,some (aG 4 1 ah r_))
abbrev OC:Nat × Option Ob:=(13,some (aG 4 1 ah u1))
abbrev QX:Nat × Option Ob:=(14,some (aG 4 1 ah u2))
abbrev Rv:Nat × Option Ob:=(15,some (aG 4 1 ah u3))
abbrev U2:Nat × Option Ob:=(16,some (aG 4 1 ah u4))
abbrev ai1:St:=⟨[(2,(vP 10 0))],[(10,some (.cells 29 [(.own 11 false r_.length),(.own 12 false u0.length),(.own 13 false u1.length),(.own 14 false u2.length),(.own 15 false u3.length),(.own 16 false u4.length),(.own 17 false u5.length)])),(Uf r_),(12,some (aG 4 1 ah u0)),(OC u1),(QX u2),(Rv u3),(U2 u4),(17,some (aG 4 1 ah u5))]⟩
abbrev aiS:List CV:=[(.own 0 false r_.length),(.own 1 false u0.length),(.own 2 false u1.length),(.own 3 false u2.length),(.own 4 false u3.length),(.own 5 false u4.length),(.own 6 false u5.length)]
abbrev aej:St:=⟨[(2,(vP 7 0))],[(0,some (aG 4 1 ah r_)),(1,some (aG 4 1 ah u0)),(2,some (aG 4 1 ah u1)),(3,some (aG 4 1 ah u2)),(4,some (aG 4 1 ah u3)),(5,some (aG 4 1 ah u4)),(6,some (aG 4 1 ah u5)),(7,some (.cells 29 (aiS r_ u1 u2 u3 u4 u0 u5)))]⟩
abbrev ac4:List SV:=[(.agg (aiS r_ u1 u2 u3 u4 u0 u5))]
end
theorem Cn (s_:State) {r:State} (h:mK s_=some r):Fn Try.prog 62 (ad8 s_) [] (.v (.agg [(.own 0 false r.closed.length),(.own 1 false r.locked.length),(.own 2 false r.badLink.length),(.own 3 false r.on_.length),(.own 4 false r.badSource.length),(.own 5 false r.earthed.length),(.own 6 false r.badBus.length)])) [(0,some (aG 4 1 ah r.closed)),(1,some (aG 4 1 ah r.locked)),(2,some (aG 4 1 ah r.badLink)),(3,some (aG 4 1 ah r.on_)),(4,some (aG 4 1 ah r.badSource)),(5,some (aG 4 1 ah r.earthed)),(6,some (aG 4 1 ah r.badBus)),(7,none)]:=by
 refine fN tT Try.func62 rfl rfl fun B=> ?_
 show bJ _ _ _ _ _ _ (CO r) _
 unfold mK at h
 refine sz tT (aju s_) {fr:=[(0,9),(1,10)] } [9] ?_
 refine aQ (bE h fun r_ hr_ h=> ?_)
 refine bE h fun u0 hr_1 h=> ?_
 refine bE h fun u1 hr_2 h=> ?_
 refine bE h fun u2 hr_3 h=> ?_
 refine bE h fun u3 hr_4 h=> ?_
 refine bE h fun u4 hr_5 h=> ?_
 refine bE h fun u5 hr_6 h=> ?_
 have q0:=rk [(0,11)] (aU s_.closed hr_)
 have q1:=rk [(0,12)] (aU s_.locked hr_1)
 have q2:=rk [(0,13)] (aU s_.badLink hr_2)
 have q3:=rk [(0,14)] (aU s_.on_ hr_3)
 have q4:=rk [(0,15)] (aU s_.badSource hr_4)
 have q5:=rk [(0,16)] (aU s_.earthed hr_5)
 have q6:=rk [(0,17)] (aU s_.badBus hr_6)
 refine dg tT mX (ai1 r_ u1 u2 u3 u4 u0 u5) [_,_,_,_,_,_,_] {an:=[(2,cA q0 []),(5,cA q1 []),(8,cA q2 []),(11,cA q3 []),(14,cA q4 []),(17,cA q5 []),(20,cA q6 [])] } [] ⟨q0,q1,q2,q3,q4,q5,q6,trivial⟩ ?_
 refine aI (bG.fin (st':=(aej r_ u1 u2 u3 u4 u0 u5)) (cs:=[]) ⟨[],[(11,0),(12,1),(13,2),(14,3),(15,4),(16,5),(17,6),(10,7)]⟩ [2] (by kernel_rfl) trivial) ?_
 refine aR ?_
 obtain rfl:=oi h
 exact rh (ac4 r_ u1 u2 u3 u4 u0 u5) (.refl _) (hN 7 ⟨rfl,trivial,trivial⟩)
section
variable (s_:State)
abbrev mZ:Nat × Option Ob:=(0,some (aG 4 1 ah s_.closed))
abbrev nG:Nat × Option Ob:=(1,some (aG 4 1 ah s_.locked))
abbrev nk:Nat × Option Ob:=(2,some (aG 4 1 ah s_.badLink))
abbrev ni:Nat × Option Ob:=(3,some (aG 4 1 ah s_.on_))
abbrev nu:Nat × Option Ob:=(4,some (aG 4 1 ah s_.badSource))
abbrev nI:Nat × Option Ob:=(5,some (aG 4 1 ah s_.earthed))
abbrev ny:Nat × Option Ob:=(6,some (aG 4 1 ah s_.badBus))
end
def qR (s_:State):(List Way)→Exit→St→Prop:=
  fun r=>bn TT [.tmp 6] (vO 7 true r.length) [(mZ s_),(nG s_),(nk s_),(ni s_),(nu s_),(nI s_),(ny s_),(7,some (aG 141 3 Way.cell r))]
section
variable (u0:(List Way)) (p:ai) (s_:State) (u1:Bool)
abbrev qx:Nat × TV:=(7,(vD (.fn 109 0 (uL []))))
abbrev xM:Nat × TV:=(8,(vO 412 true u0.length))
abbrev La:Nat × Option Ob:=(410,some (k97 p))
abbrev OM:List CV:=[(.own 0 false s_.closed.length),(.own 1 false s_.locked.length),(.own 2 false s_.badLink.length),(.own 3 false s_.on_.length),(.own 4 false s_.badSource.length),(.own 5 false s_.earthed.length),(.own 6 false s_.badBus.length)]
abbrev aaE:Ob:=(.cells 29 (OM s_))
abbrev Lx:Nat × Option Ob:=(411,some (aaE s_))
abbrev Br:List (Nat × Option Ob):=[(mZ s_),(nG s_),(nk s_),(ni s_),(nu s_),(nI s_),(ny s_),(La p),(Lx s_),(412,some (aG 141 3 Way.cell u0))]
abbrev ac3:St:=⟨[(3,(vP 410 0)),(4,(vP 411 0)),qx,(xM u0),(9,(vB u1))],(Br u0 p s_)⟩
end
def xH (p:ai) (s_:State):((List Way) × Bool)→St:=
  fun zz=>match zz with|(u0,u1)=>(ac3 u0 p s_ u1)
section
variable (s_:State) (u0:(List Way))
abbrev agi:List (Nat × Option Ob):=[(mZ s_),(nG s_),(nk s_),(ni s_),(nu s_),(nI s_),(ny s_),(412,some (aG 141 3 Way.cell u0))]
abbrev afZ:St:=⟨[(xM u0)],(agi s_ u0)⟩
end
def xC (s_:State):(List Way)→St:=
  fun u0=>(afZ s_ u0)
def pO (p:ai) (s_:State):(aS ((List Way) × Bool) (Ex (List Way) (List Way)))→Exit→St→Prop:=
  LQ 0 [] (xH p s_) (xC s_) (qR s_)
section
variable (p:ai) (u0:(List Way)) (u1:Bool) (u2:Int) (s_:State)
abbrev zF:Nat × TV:=(26,(vD (k3 p)))
abbrev zM:Nat × TV:=(27,(vI (p.links.length:Int)))
abbrev ace:St:=⟨[(3,(vP 410 0)),(4,(vP 411 0)),qx,(xM u0),(9,(vB u1)),(zF p),(zM p),(28,(vI u2))],(Br u0 p s_)⟩
end
def wU (p:ai) (s_:State):((List Way) × Bool × Int)→St:=
  fun zz=>match zz with|(u0,u1,u2)=>(ace p u0 u1 u2 s_)
def xB (p:ai) (s_:State):((List Way) × Bool)→St:=
  fun zz=>match zz with|(u0,u1)=>(ac3 u0 p s_ u1)
def qg (p:ai) (s_:State):(aS ((List Way) × Bool × Int) (Ex ((List Way) × Bool) (aS ((List Way) × Bool) (Ex (List Way) (List Way)))))→Exit→St→Prop:=
  LQ 2 [1] (wU p s_) (xB p s_) (pO p s_)
section
variable (p:ai) (u0:Int)
abbrev ack:List CV:=[(cI (IY p u0)),(cI (EL p u0)),(cI (EL p u0)),(cI (IY p u0))]
abbrev FT:Nat × TV:=(48,(.v (.agg (ack p u0))))
end
def wK (p:ai) (s_:State) (u0:Int):((List Way) × Bool × Int)→St:=
  fun zz=>match zz with|(u1,u2,u3)=> ⟨[(3,(vP 410 0)),(4,(vP 411 0)),qx,(xM u1),(9,(vB u2)),(10,(vI u0)),(Co p u0),(zF p),(zM p),(28,(vI u0)),(FT p u0),(49,(vI u3))],(Br u1 p s_)⟩
def xh (p:ai) (s_:State) (u1:Int):((List Way) × Bool)→St:=
  fun zz=>match zz with|(u0,u2)=>(ace p u0 u2 u1 s_)
def FI (p:ai) (s_:State) (u0:Int):(aS ((List Way) × Bool × Int) (Ex ((List Way) × Bool) (aS ((List Way) × Bool × Int) (Ex ((List Way) × Bool) (aS ((List Way) × Bool) (Ex (List Way) (List Way)))))))→Exit→St→Prop:=
  LQ 4 [3] (wK p s_ u0) (xh p s_ u0) (qg p s_)
section
variable (p:ai) (s_:State) (u3:Int) (u5:(List Way)) (u8:Bool) (u0:Int) (u1:Int) (u2:(List Way)) (u6:Bool) (u4:(List Int))
abbrev N9:List SV:=[(.agg (k1 p)),(.agg (OM s_)),(sI u3)]
abbrev iP:List (Nat × Option Ob):=[(mZ s_),(nG s_),(nk s_),(ni s_),(nu s_),(nI s_),(ny s_)]
abbrev air:List (Nat × Option Ob):=[(mZ s_),(nG s_),(nk s_),(ni s_),(nu s_),(nI s_),(ny s_),(La p),(Lx s_)]
abbrev Ku:=(List.replicate p.buses.toNat ((⟨false,0,([]:List Int)⟩:Way):Way))
abbrev afR:Nat × TV:=(8,(vO 412 true ((Ku p).length)))
abbrev ajt:List (Nat × TV):=[(2,(vI u3)),(3,(vP 410 0)),(4,(vP 411 0)),qx,(afR p)]
abbrev adu:=((Ku p).set u3.toNat (⟨true,(at' (Ku p) u3.toNat).bK,(at' (Ku p) u3.toNat).links⟩:Way))
abbrev ade:=(au Way.cell (adu p u3))
abbrev afa:Nat × TV:=(8,(vO 412 true ((adu p u3).length)))
abbrev ahy:List (Nat × Option Ob):=[(mZ s_),(nG s_),(nk s_),(ni s_),(nu s_),(nI s_),(ny s_),(La p),(Lx s_),(412,some (aG 141 3 Way.cell (adu p u3)))]
abbrev ajM:St:=⟨[(3,(vP 410 0)),(4,(vP 411 0)),qx,(xM u5),(9,(vB u8)),(zF p),(zM p),(28,(uM u0))],(Br u5 p s_)⟩
abbrev adN:=(⟨(at' p.links u0.toNat).a,(at' p.links u0.toNat).b⟩:bB)
abbrev acC:=(⟨(at' p.links u0.toNat).b,(at' p.links u0.toNat).a⟩:bB)
abbrev agn:=(at' [(adN p u0),(acC p u0)] u1.toNat)
abbrev adH:=((agn p u0 u1).e0)
abbrev ZH:=((agn p u0 u1).e1)
abbrev ajG:List DV:=[(.int .i64 (adH p u0 u1)),(.int .i64 (ZH p u0 u1))]
abbrev acL:=(at' u2 ((adH p u0 u1).toNat))
abbrev ahD:=((acL p u0 u1 u2).there)
abbrev aeM:=((acL p u0 u1 u2).bK)
abbrev afn:=((acL p u0 u1 u2).links)
abbrev afb:Nat × TV:=(14,(vD (nN [(.bool (ahD p u0 u1 u2)),(.int .i64 (aeM p u0 u1 u2)),(aC none 1 (aA .i64) (afn p u0 u1 u2))] 0)))
abbrev XP:Nat × TV:=(15,(vI (ZH p u0 u1)))
abbrev agM:St:=⟨[(3,(vP 410 0)),(4,(vP 411 0)),qx,(xM u2),(9,(vB u6)),(10,(vI u0)),(Co p u0),(zF p),(zM p),(28,(vI u0)),(FT p u0),(49,(uM u1))],(Br u2 p s_)⟩
abbrev adB:=(IntKind.wrap .i64 ((aeM p u0 u1 u2)+((at' p.links u0.toNat).bK)))
abbrev acA:=(wE (au (aA .i64) u4) u4.length (au (aA .i64) [u0]))
abbrev Uu:=(au (aA .i64) (u4++[u0]))
abbrev afu:List DV:=[(.bool true),(.int .i64 (adB p u0 u1 u2)),(aC none 1 (aA .i64) (u4++[u0]))]
abbrev ahO:Nat × TV:=(16,(vD (nN (afu p u0 u1 u2 u4) 0)))
abbrev ahC:=(⟨true,(adB p u0 u1 u2),(u4++[u0])⟩:Way)
abbrev adY:=((ZH p u0 u1).toNat)
abbrev acX:=(u2.set (adY p u0 u1) (ahC p u0 u1 u2 u4))
abbrev aeg:=(au Way.cell (acX p u0 u1 u2 u4))
abbrev adL:Nat × TV:=(8,(vO 412 true ((acX p u0 u1 u2 u4).length)))
abbrev ab7:List (Nat × Option Ob):=[(mZ s_),(nG s_),(nk s_),(ni s_),(nu s_),(nI s_),(ny s_),(La p),(Lx s_),(412,some (aG 141 3 Way.cell (acX p u0 u1 u2 u4)))]
end
theorem EN (p:ai) (s_:State) (u3:Int) {r:(List Way)} (h:mg p s_ u3=some r):Fn Try.prog 66 (N9 p s_ u3) (iP s_) (vO 7 true r.length) [(mZ s_),(nG s_),(nk s_),(ni s_),(nu s_),(nI s_),(ny s_),(7,some (aG 141 3 Way.cell r))]:=by
 refine fN tT Try.func66 rfl rfl fun B=> ?_
 show bJ _ _ _ _ _ _ ((qR s_) r) _
 unfold mg at h
 refine sz tT ⟨[(2,(vI u3)),(3,(vP 410 0)),(4,(vP 411 0))],(air p s_)⟩ {fr:=[(0,410),(1,411)] } [] ?_
 refine sz tT ⟨[(2,(vI u3)),(3,(vP 410 0)),(4,(vP 411 0)),qx],(air p s_)⟩ {} [] ?_
 refine aQ (aO h fun⟨a1,a2,a3⟩ h=> ?_)
 refine ri tT ⟨(ajt p u3),[(mZ s_),(nG s_),(nk s_),(ni s_),(nu s_),(nI s_),(ny s_),(La p),(Lx s_),(412,some (.arr 141 3 (Ku p).length (fun _ j=>[(.bool false),(.int .i64 0),nS].getD j .nilp)))]⟩ [_,(p.buses:Int)=p.buses,_,_,(Ku p).length=p.buses.toNat,aY p.buses.toNat 3 (fun _ j=>[(.bool false),(.int .i64 0),nS].getD j .nilp) (fun _ j=>[(.bool false),(.int .i64 0),nS].getD j .nilp)] {an:=[(2, .arr (Ku p).length (fun _ j=>[(.bool false),(.int .i64 0),nS].getD j .nilp))],fr:=[(2,412)] } [] ⟨a1,rfl,a2,a3,(List.length_replicate),(vK _ _ _),trivial⟩ (bG.le (st':=⟨(ajt p u3),[(mZ s_),(nG s_),(nk s_),(ni s_),(nu s_),(nI s_),(ny s_),(La p),(Lx s_),(412,some (aG 141 3 Way.cell (Ku p)))]⟩) ⟨⟨tR,tR,tR,tR,tR,trivial⟩,(hN 9 ⟨rfl,TA (ajr _ _ _ _ _ (fun j hj=>match j,hj with|0,_=> .refl _|1,_=> .refl _|2,_=>dP.nil')),trivial⟩)⟩) ?_
 refine aQ (aO h fun a1 h=> ?_)
 refine ri tT ⟨[(3,(vP 410 0)),(4,(vP 411 0)),qx,(afR p)],[(mZ s_),(nG s_),(nk s_),(ni s_),(nu s_),(nI s_),(ny s_),(La p),(Lx s_),(412,some (.arr 141 3 (Ku p).length (ade p u3)))]⟩ [_,_,aY (Ku p).length 3 (nP (au Way.cell (Ku p)) u3.toNat 0 [(.bool true)]) (ade p u3)] {an:=[(4, .arr 0 (ade p u3))] } [] ⟨a1,(tL a1),(fU _ _ _ _ _ _ _ _ rfl (fun j hj=>(match j,hj with|0,_=>rfl|1,_=>rfl|2,_=>rfl))),trivial⟩ (bG.le (st':=⟨[(3,(vP 410 0)),(4,(vP 411 0)),qx,(afa p u3)],(ahy p s_ u3)⟩) ⟨⟨tR,tR,tR,⟨_,rfl,fC.v (jw.one cW)⟩,trivial⟩,(hN 9 ⟨rfl,oW,trivial⟩)⟩) ?_
 refine aQ (sz tT ⟨[(3,(vP 410 0)),(4,(vP 411 0)),qx,(afa p u3),(9,(vB true))],(ahy p s_ u3)⟩ {} [] ?_)
 refine bE h fun y2 hy h=> ?_
 refine aL [] (xH p s_) (xC s_) (qR s_) hy (fun s f h=> ?_) ?_
 ·clear hy
  show bJ _ _ _ _ _ _ ((pO p s_) f) _
  unfold kF at h
  obtain⟨u7,v1⟩:=s
  refine aQ (sz tT ⟨[(3,(vP 410 0)),(4,(vP 411 0)),qx,(xM u7),(24,(vB v1))],(Br u7 p s_)⟩ {} [] ?_)
  refine bI h (fun hb5 h=> ?_) (fun hb5 h=> ?_)
  ·refine ct hb5 ?_
   refine aP (aB (sz tT ⟨[(3,(vP 410 0)),(4,(vP 411 0)),qx,(xM u7),(9,(vB false))],(Br u7 p s_)⟩ {} [] ?_))
   refine sz tT ⟨[(3,(vP 410 0)),(4,(vP 411 0)),qx,(xM u7),(9,(vB false)),(zF p),(zM p),(28,(vI 0))],(Br u7 p s_)⟩ {} [] ?_
   refine bE h fun y1 hy h=> ?_
   refine aL [1] (wU p s_) (xB p s_) (pO p s_) hy (fun s f h=> ?_) ?_
   ·clear hy
    show bJ _ _ _ _ _ _ ((qg p s_) f) _
    unfold mH at h
    obtain⟨u5,u8,u0⟩:=s
    refine sz tT ⟨[(3,(vP 410 0)),(4,(vP 411 0)),qx,(xM u5),(9,(vB u8)),(zF p),(zM p),(28,(vI u0)),(29,(Ph p u0))],(Br u5 p s_)⟩ {} [] ?_
    refine aQ ?_
    refine bI h (fun hb4 h=> ?_) (fun hb4 h=> ?_)
    ·refine ct hb4 ?_
     refine aP (aQ (aB (aQ (aO h fun a1 h=> ?_))))
     refine rg tT ⟨[(3,(vP 410 0)),(4,(vP 411 0)),qx,(xM u5),(9,(vB u8)),(10,(vI u0)),(Co p u0),(zF p),(zM p),(28,(vI u0))],(Br u5 p s_)⟩ [_] {fr:=[(3,788)] } [788] ⟨a1,trivial⟩ ?_
     refine aQ (aQ (bE h fun r_ hr_ h=> ?_))
     refine rg tT ⟨[(3,(vP 410 0)),(4,(vP 411 0)),qx,(xM u5),(9,(vB u8)),(10,(vI u0)),(Co p u0),(zF p),(zM p),(28,(vI u0)),(37,(vB (!r_)))],(Br u5 p s_)⟩ [Fn Try.prog 78 (N9 p s_ u0) (iP s_) (vB r_) (iP s_)] {an:=[(3, .callR [0,1,2,3,4,5,6] (vB r_))] } [] ⟨(Fn.Df (frz:=[0,1,2,3,4,5,6]) (p:=[s_.closed.length=s_.closed.length,s_.locked.length=s_.locked.length,s_.badLink.length=s_.badLink.length,s_.on_.length=s_.on_.length,s_.badSource.length=s_.badSource.length,s_.earthed.length=s_.earthed.length,s_.badBus.length=s_.badBus.length]) (El p s_ u0 hr_) (by kernel_rfl) ⟨rfl,rfl,rfl,rfl,rfl,rfl,rfl,trivial⟩ rfl),trivial⟩ ?_
     refine bI h (fun hb3 h=> ?_) (fun hb3 h=> ?_)
     ·refine ct hb3 ?_
      refine aX (rz tT (ajM p s_ u5 u8 u0) {} [] ?_)
      obtain rfl:=oi h
      exact lN
     ·refine cf hb3 ?_
      refine aP (sz tT ⟨[(3,(vP 410 0)),(4,(vP 411 0)),qx,(xM u5),(9,(vB u8)),(10,(vI u0)),(Co p u0),(zF p),(zM p),(28,(vI u0)),(FT p u0),(49,(vI 0))],(Br u5 p s_)⟩ {} [] ?_)
      refine bE h fun y hy h=> ?_
      refine aL [3] (wK p s_ u0) (xh p s_ u0) (qg p s_) hy (fun s f h=> ?_) ?_
      ·clear hy
       show bJ _ _ _ _ _ _ ((FI p s_ u0) f) _
       unfold jh at h
       obtain⟨u2,u6,u1⟩:=s
       refine sz tT ⟨[(3,(vP 410 0)),(4,(vP 411 0)),qx,(xM u2),(9,(vB u6)),(10,(vI u0)),(Co p u0),(zF p),(zM p),(28,(vI u0)),(FT p u0),(49,(vI u1)),(50,(vB (decide (u1<2))))],(Br u2 p s_)⟩ {} [] ?_
       refine aQ ?_
       refine bI h (fun hb2 h=> ?_) (fun hb2 h=> ?_)
       ·refine ct hb2 ?_
        refine aP (aQ (aB (aQ (aO h fun a1 h=> ?_))))
        refine rg tT ⟨[(3,(vP 410 0)),(4,(vP 411 0)),qx,(xM u2),(9,(vB u6)),(10,(vI u0)),(Co p u0),(13,(vP 807 0)),(zF p),(zM p),(28,(vI u0)),(FT p u0),(49,(vI u1))],[(mZ s_),(nG s_),(nk s_),(ni s_),(nu s_),(nI s_),(ny s_),(La p),(Lx s_),(412,some (aG 141 3 Way.cell u2)),(807,some (.cells 164 [(cI (adH p u0 u1)),(cI (ZH p u0 u1))]))]⟩ [_,u1.toNat*2+2≤(ack p u0).length,((ack p u0).drop (u1.toNat*2)).take 2=(ajG p u0 u1).map .d] {an:=[(0, .vals (ajG p u0 u1))],fr:=[(1,807)] } [] ⟨a1,(ajZ (n:=2) (sz:=2) (Nat.le_refl _) a1),(akd (n:=2) (sz:=2) (g:=fun q=>[(cI ((at' [(adN p u0),(acC p u0)] q).e0)),(cI ((at' [(adN p u0),(acC p u0)] q).e1))]) (by intro q hq;match q,hq with|0,_=>rfl|1,_=>rfl) a1),trivial⟩ ?_
        refine aQ (aO h fun a1 h=> ?_)
        refine dg tT mX ⟨[(3,(vP 410 0)),(4,(vP 411 0)),qx,(xM u2),(9,(vB u6)),(10,(vI u0)),(Co p u0),(afb p u0 u1 u2),(XP p u0 u1),(zF p),(zM p),(28,(vI u0)),(FT p u0),(49,(vI u1))],(Br u2 p s_)⟩ [(0:Int)≤0∧(0:Int)<(2:Nat),_,_,(0:Int)≤1∧(1:Int)<(2:Nat)] {fr:=[(7,808)] } [808] ⟨((by decide)),a1,(tL a1),((by decide)),trivial⟩ ?_
        refine aQ (sz tT ⟨[(3,(vP 410 0)),(4,(vP 411 0)),qx,(xM u2),(9,(vB u6)),(10,(vI u0)),(Co p u0),(afb p u0 u1 u2),(XP p u0 u1),(zF p),(zM p),(28,(vI u0)),(FT p u0),(49,(vI u1)),(61,(vB (!(ahD p u0 u1 u2))))],(Br u2 p s_)⟩ {} [] ?_)
        refine bI h (fun hb1 h=> ?_) (fun hb1 h=> ?_)
        ·refine ct hb1 ?_
         refine aX (rz tT (agM p s_ u0 u1 u2 u6) {} [] ?_)
         obtain rfl:=oi h
         exact lN
        ·refine cf hb1 ?_
         refine aP (aQ (bE h fun u4 hr_1 h=> ?_))
         refine aO h fun⟨a1,a2⟩ h=> ?_
         have q0:=rk [(0,809)] (wB (afn p u0 u1 u2) hr_1)
         refine di tT mX ⟨[(3,(vP 410 0)),(4,(vP 411 0)),qx,(xM u2),(9,(vB u6)),(10,(vI u0)),(Co p u0),(XP p u0 u1),(16,(vP 812 0)),(zF p),(zM p),(28,(vI u0)),(FT p u0),(49,(vI u1))],[(mZ s_),(nG s_),(nk s_),(ni s_),(nu s_),(nI s_),(ny s_),(La p),(Lx s_),(412,some (aG 141 3 Way.cell u2)),(812,some (.cells 141 [(cB true),(cI (adB p u0 u1 u2)),(.d (aC none 1 (aA .i64) (u4++[u0])))]))]⟩ [_,[u0].length=1,aY 1 1 (wF 1 [(.int .i64 u0)]) (au (aA .i64) [u0]),u4.length=u4.length,_,_,(u4++[u0]).length=u4.length+[u0].length,aY (u4.length+[u0].length) 1 (acA u0 u4) (Uu u0 u4),(u4++[u0]).length=(u4++[u0]).length] {an:=[(7,cA q0 []),(9, .arr [u0].length (au (aA .i64) [u0])),(10, .arr (u4++[u0]).length (Uu u0 u4))],fr:=[(9,810),(10,811),(12,812)] } [811] ⟨q0,(rfl),((by intro i hi j hj;match i,j,hi,hj with|0,0,_,_=>rfl)),rfl,a1,a2,(List.length_append),(dz _ _ _ _),rfl,trivial⟩ (fz ⟨[(3,(vP 410 0)),(4,(vP 411 0)),qx,(xM u2),(9,(vB u6)),(10,(vI u0)),(Co p u0),(XP p u0 u1),(ahO p u0 u1 u2 u4),(zF p),(zM p),(28,(vI u0)),(FT p u0),(49,(vI u1))],(Br u2 p s_)⟩ [812]) ?_
         refine aQ (bE h fun v2 hr_2 h=> ?_)
         refine aO h fun a1 h=> ?_
         have q2:=GZ (ahC p u0 u1 u2 u4) (at' u2 (adY p u0 u1)) hr_2
         refine dg tT mX ⟨[(3,(vP 410 0)),(4,(vP 411 0)),qx,(xM u2),(9,(vB u6)),(10,(vI u0)),(Co p u0),(XP p u0 u1),(ahO p u0 u1 u2 u4),(zF p),(zM p),(28,(vI u0)),(FT p u0),(49,(vI u1)),(80,(vB v2))],(Br u2 p s_)⟩ [_,_,_] {an:=[(6,cA q2 [])] } [] ⟨a1,(tL a1),q2,trivial⟩ ?_
         refine bI h (fun hb h=> ?_) (fun hb h=> ?_)
         ·refine ct hb ?_
          refine aQ (aO h fun a1 h=> ?_)
          refine ri tT ⟨[(3,(vP 410 0)),(4,(vP 411 0)),qx,(xM u2),(10,(vI u0)),(Co p u0),(zF p),(zM p),(28,(vI u0)),(FT p u0),(49,(vI u1))],[(mZ s_),(nG s_),(nk s_),(ni s_),(nu s_),(nI s_),(ny s_),(La p),(Lx s_),(412,some (.arr 141 3 u2.length (aeg p u0 u1 u2 u4)))]⟩ [_,_,aY u2.length 3 (nP (au Way.cell u2) (adY p u0 u1) 0 (afu p u0 u1 u2 u4)) (aeg p u0 u1 u2 u4)] {an:=[(4, .arr 0 (aeg p u0 u1 u2 u4))] } [] ⟨a1,(tL a1),(fU _ _ _ _ _ _ _ _ rfl (fun j hj=>(match j,hj with|0,_=>rfl|1,_=>rfl|2,_=>rfl))),trivial⟩ (bG.le (st':=⟨[(3,(vP 410 0)),(4,(vP 411 0)),qx,(adL p u0 u1 u2 u4),(10,(vI u0)),(Co p u0),(zF p),(zM p),(28,(vI u0)),(FT p u0),(49,(vI u1))],(ab7 p s_ u0 u1 u2 u4)⟩) ⟨⟨tR,tR,tR,⟨_,rfl,fC.v (jw.one cW)⟩,tR,tR,tR,tR,tR,tR,tR,trivial⟩,(hN 9 ⟨rfl,oW,trivial⟩)⟩) ?_
          refine rz tT ⟨[(3,(vP 410 0)),(4,(vP 411 0)),qx,(adL p u0 u1 u2 u4),(9,(vB true)),(10,(vI u0)),(Co p u0),(zF p),(zM p),(28,(vI u0)),(FT p u0),(49,(vI u1))],(ab7 p s_ u0 u1 u2 u4)⟩ {} [] ?_
          refine rz tT ⟨[(3,(vP 410 0)),(4,(vP 411 0)),qx,(adL p u0 u1 u2 u4),(9,(vB true)),(10,(vI u0)),(Co p u0),(zF p),(zM p),(28,(vI u0)),(FT p u0),(49,(uM u1))],(ab7 p s_ u0 u1 u2 u4)⟩ {} [] ?_
          obtain rfl:=oi h
          exact lN
         ·refine cf hb ?_
          refine aP (rz tT (agM p s_ u0 u1 u2 u6) {} [] ?_)
          obtain rfl:=oi h
          exact lN
       ·refine cf hb2 ?_
        refine aI (fz (ace p u2 u6 u0 s_) []) ?_
        refine aX ?_
        obtain rfl:=oi h
        exact lB
      ·clear hy
       cases y with
       |brk z=>
        obtain⟨v0,v3⟩:=z
        unfold fZ
        refine⟨_, .refl, ?_⟩
        refine rz tT (ajM p s_ v0 v3 u0) {} [] ?_
        obtain rfl:=oi h
        exact lN
       |ret v=>
        obtain rfl:=oi h
        unfold fZ
        intro e st hn ha hR
        cases e with
        |normal=>exact absurd rfl hn
        |exit id=>simp only [vk (b:=3) ha rfl,cond_false];exact hR
        |goto l=>exact hR
        |ret=>exact hR
        |panic c=>exact hR
        |outgrown=>exact hR
    ·refine cf hb4 ?_
     refine aI (fz (ac3 u5 p s_ u8) []) ?_
     refine aX ?_
     obtain rfl:=oi h
     exact lB
   ·clear hy
    cases y1 with
    |brk z=>
     obtain⟨v4,v5⟩:=z
     unfold fZ
     refine⟨_, .refl, ?_⟩
     obtain rfl:=oi h
     exact lN
    |ret v=>
     obtain rfl:=oi h
     unfold fZ
     intro e st hn ha hR
     cases e with
     |normal=>exact absurd rfl hn
     |exit id=>simp only [vk (b:=1) ha rfl,cond_false];exact hR
     |goto l=>exact hR
     |ret=>exact hR
     |panic c=>exact hR
     |outgrown=>exact hR
  ·refine cf hb5 ?_
   refine aI (fz (afZ s_ u7) []) ?_
   refine aX ?_
   obtain rfl:=oi h
   exact lB
 ·clear hy
  cases y2 with
  |brk z=>
   obtain⟨u9,rfl⟩: ∃q,q=z:=⟨_,rfl⟩
   unfold fZ
   refine⟨_, .refl, ?_⟩
   refine sz tT ⟨[(6,(vO 412 true u9.length))],(agi s_ u9)⟩ {} [] ?_
   refine aI (bG.fin (st':=⟨[(6,(vO 7 true u9.length))],[(mZ s_),(nG s_),(nk s_),(ni s_),(nu s_),(nI s_),(ny s_),(7,some (aG 141 3 Way.cell u9))]⟩) (cs:=[]) ⟨[],[(0,0),(1,1),(2,2),(3,3),(4,4),(5,5),(6,6),(412,7)]⟩ [6] (by kernel_rfl) trivial) ?_
   refine aR ?_
   obtain rfl:=oi h
   exact rl [(.one (.own 7 true u9.length))]
  |ret v=>
   obtain rfl:=oi h
   unfold fZ
   intro e st hn ha hR
   cases e with
   |normal=>exact absurd rfl hn
   |exit id=>exact hR
   |goto l=>exact hR
   |ret=>exact hR
   |panic c=>exact hR
   |outgrown=>exact hR
def oI (s_:State):((List Short) × Int)→Exit→St→Prop:=
  fun r=>bn TT [.tmp 6, .tmp 7] (.gL [(sD (aC none 4 Short.cell r.1)),(sI r.2)]) (iP s_)
section
variable (u0:(List Short)) (p:ai) (s_:State)
abbrev M9:Nat × TV:=(9,(vO 35 false u0.length))
abbrev FJ:Nat × TV:=(29,(vD (k2 p)))
abbrev EZ:Nat × TV:=(30,(vI (p.sources.length:Int)))
abbrev RU:Nat × Option Ob:=(30,some (aaE s_))
abbrev Qr:List (Nat × Option Ob):=[(mZ s_),(nG s_),(nk s_),(ni s_),(nu s_),(nI s_),(ny s_),(RU s_),(35,some (aG 47 4 Short.cell u0))]
end
def uq (p:ai) (s_:State) (u1:Int):((List Short) × Int)→St:=
  fun zz=>match zz with|(u0,u2)=> ⟨[(2,(vI u1)),(bO p),(4,(vP 30 0)),(M9 u0),(FJ p),(EZ p),(31,(vI u2))],(Qr u0 s_)⟩
section
variable (u0:(List Short)) (s_:State)
abbrev aeG:St:=⟨[(M9 u0)],[(mZ s_),(nG s_),(nk s_),(ni s_),(nu s_),(nI s_),(ny s_),(35,some (aG 47 4 Short.cell u0))]⟩
end
def tX (s_:State):(List Short)→St:=
  fun u0=>(aeG u0 s_)
def CZ (p:ai) (s_:State) (u0:Int):(aS ((List Short) × Int) (Ex (List Short) ((List Short) × Int)))→Exit→St→Prop:=
  LQ 0 [] (uq p s_ u0) (tX s_) (oI s_)
section
variable (s_:State) (p:ai) (r_:Int) (u0:Int) (u1:Int) (u3:(List Short)) (u2:(List Way)) (u4:(List Short))
abbrev Xv:List (Nat × Option Ob):=[(mZ s_),(nG s_),(nk s_),(ni s_),(nu s_),(nI s_),(ny s_),(29,some (k97 p)),(RU s_)]
abbrev ais:List SV:=[(.agg (k1 p)),(.agg (OM s_))]
abbrev af3:St:=⟨[(6,(vD nS)),(7,(vI r_))],(iP s_)⟩
abbrev ag2:St:=⟨[(6,(vD (aC none 4 Short.cell ([]:List Short)))),(7,(vI r_))],(iP s_)⟩
abbrev aag:TV:=(vB (bif (decide (u0<0))then true else(decide (p.buses≤u0))))
abbrev afN:St:=⟨[(6,(vD nS)),(7,(vI 1))],(iP s_)⟩
abbrev ahS:St:=⟨[(6,(vD (aC none 4 Short.cell ([]:List Short)))),(7,(vI 1))],(iP s_)⟩
abbrev JS:=(decide (u1<(p.sources.length:Int)))
abbrev abY:TV:=(vD (nN [(.int .i64 (Ki p u1)),(.int .i64 ((at' p.sources u1.toNat).kind)),(.int .i64 ((at' p.sources u1.toNat).power)),(.int .i64 ((at' p.sources u1.toNat).sync)),(.int .i64 ((at' p.sources u1.toNat).bK))] 0))
abbrev ZU:Nat × TV:=(11,(abY p u1))
abbrev agR:St:=⟨[(2,(vI u0)),(bO p),(4,(vP 30 0)),(M9 u3),(FJ p),(EZ p),(31,(uM u1))],(Qr u3 s_)⟩
abbrev aeb:Nat × TV:=(12,(vD (nN [(.bool ((at' u2 u0.toNat).there)),(.int .i64 ((at' u2 u0.toNat).bK)),(aC none 1 (aA .i64) ((at' u2 u0.toNat).links))] 0)))
abbrev WA:=(IntKind.wrap .i64 (((at' p.sources u1.toNat).bK)+((at' u2 u0.toNat).bK)))
abbrev ag3:=(IntKind.wrap .i64 (Int.tdiv (IntKind.wrap .i64 ((IntKind.wrap .i64 ((400000:Int)+(WA p u0 u1 u2))) - 1)) (WA p u0 u1 u2)))
abbrev Va:=(⟨u1,(WA p u0 u1 u2),(ag3 p u0 u1 u2),(at' u2 u0.toNat).links⟩:Short)
abbrev Yj:=(u3++[(Va p u0 u1 u2)])
abbrev af5:=((Yj p u0 u1 u3 u2).length)
abbrev ag4:Nat × TV:=(9,(vO 50 false (af5 p u0 u1 u3 u2)))
abbrev agB:Ob:=(aG 47 4 Short.cell (Yj p u0 u1 u3 u2))
abbrev aeT:List (Nat × Option Ob):=[(mZ s_),(nG s_),(nk s_),(ni s_),(nu s_),(nI s_),(ny s_),(RU s_),(50,some (agB p u0 u1 u3 u2))]
abbrev ab5:=(au Short.cell [(Va p u0 u1 u2)])
abbrev ajg:=(au Short.cell (Yj p u0 u1 u3 u2))
abbrev agr:St:=⟨[(6,(vD (aC none 4 Short.cell u4))),(7,(vI 0))],(iP s_)⟩
end
theorem Dq (p:ai) (s_:State) (u0:Int) {r:((List Short) × Int)} (h:ol p s_ u0=some r):Fn Try.prog 17 (N9 p s_ u0) (iP s_) (.gL [(sD (aC none 4 Short.cell r.1)),(sI r.2)]) (iP s_):=by
 refine fN tT Try.func17 rfl rfl fun B=> ?_
 show bJ _ _ _ _ _ _ ((oI s_) r) _
 unfold ol at h
 refine sz tT ⟨[(2,(vI u0)),(3,(vP 29 0)),(4,(vP 30 0))],(Xv s_ p)⟩ {fr:=[(0,29),(1,30)] } [] ?_
 refine aQ (aQ (bE h fun r_ hr_ h=> ?_))
 refine rg tT ⟨[(2,(vI u0)),(3,(vP 29 0)),(4,(vP 30 0)),(8,(vI r_))],(Xv s_ p)⟩ [Fn Try.prog 12 (ais s_ p) (iP s_) (vI r_) (iP s_)] {an:=[(2, .callR [0,1,2,3,4,5,6] (vI r_))] } [] ⟨(Fn.Df (frz:=[0,1,2,3,4,5,6]) (p:=[s_.closed.length=s_.closed.length,s_.locked.length=s_.locked.length,s_.badLink.length=s_.badLink.length,s_.on_.length=s_.on_.length,s_.badSource.length=s_.badSource.length,s_.earthed.length=s_.earthed.length,s_.badBus.length=s_.badBus.length]) (gI p s_ hr_) (by kernel_rfl) ⟨rfl,rfl,rfl,rfl,rfl,rfl,rfl,trivial⟩ rfl),trivial⟩ ?_
 refine sz tT ⟨[(2,(vI u0)),(3,(vP 29 0)),(4,(vP 30 0)),(8,(vI r_)),(18,(vB (!decide (r_=0))))],(Xv s_ p)⟩ {} [] ?_
 refine bI h (fun hb4 h=> ?_) (fun hb4 h=> ?_)
 ·refine ct hb4 ?_
  refine sz tT (af3 s_ r_) {} [] ?_
  refine aI (bG.le (st':=(ag2 s_ r_)) ⟨⟨⟨_,rfl,fC.v (jw.one (bL.d dP.nil'))⟩,tR,trivial⟩,(.refl _)⟩) ?_
  refine aR ?_
  obtain rfl:=oi h
  exact rl [(sD (aC none 4 Short.cell ([]:List Short))),(sI r_)]
 ·refine cf hb4 ?_
  refine aP (aQ (sg tT ⟨[(2,(vI u0)),(3,(vP 29 0)),(4,(vP 30 0)),(27,(aag p u0))],(Xv s_ p)⟩ (eqs (decide (u0<0)) 5 []) {yb:=[(2,(decide (u0<0)))] } [] (ae trivial) ?_))
  refine bI h (fun hb3 h=> ?_) (fun hb3 h=> ?_)
  ·refine ct hb3 ?_
   refine sz tT (afN s_) {} [] ?_
   refine aI (bG.le (st':=(ahS s_)) ⟨⟨⟨_,rfl,fC.v (jw.one (bL.d dP.nil'))⟩,tR,trivial⟩,(.refl _)⟩) ?_
   refine aR ?_
   obtain rfl:=oi h
   exact rl [(sD (aC none 4 Short.cell ([]:List Short))),(sI 1)]
  ·refine cf hb3 ?_
   refine aP (sz tT ⟨[(2,(vI u0)),(3,(vP 29 0)),(4,(vP 30 0)),(9,(vD nS))],(Xv s_ p)⟩ {} [] ?_)
   refine aQ (sz tT ⟨[(2,(vI u0)),(bO p),(4,(vP 30 0)),(9,(vD nS)),(FJ p),(EZ p),(31,(vI 0))],[(mZ s_),(nG s_),(nk s_),(ni s_),(nu s_),(nI s_),(ny s_),(RU s_)]⟩ {} [29] ?_)
   refine bE h fun y hy h=> ?_
   refine aI (.trans (bG.Ci (t:=9) (b:=51) (esz0:=0) (el0:=fun _ _=> .nilp) (E:=47) (esz:=4) (el:=au Short.cell ([]:List Short)) (by kernel_rfl) (by kernel_rfl)) (.trans (bG.fin (st':=⟨[(2,(vI u0)),(bO p),(4,(vP 30 0)),(9,(vO 35 false 0)),(FJ p),(EZ p),(31,(vI 0))],[(mZ s_),(nG s_),(nk s_),(ni s_),(nu s_),(nI s_),(ny s_),(RU s_),(35,some (.arr 47 4 0 (au Short.cell ([]:List Short))))]⟩) (cs:=[]) ⟨[],[(0,0),(1,1),(2,2),(3,3),(4,4),(5,5),(6,6),(30,30),(51,35)]⟩ [2,3,4,9,29,30,31] (by kernel_rfl) trivial) (bG.le (st':=⟨[(2,(vI u0)),(bO p),(4,(vP 30 0)),(9,(vO 35 false (([]:List Short).length))),(FJ p),(EZ p),(31,(vI 0))],[(mZ s_),(nG s_),(nk s_),(ni s_),(nu s_),(nI s_),(ny s_),(RU s_),(35,some (aG 47 4 Short.cell ([]:List Short)))]⟩) ⟨⟨tR,tR,tR,⟨_,rfl,fC.v (jw.one cW)⟩,tR,tR,tR,trivial⟩,(hN 8 ⟨rfl,oW,trivial⟩)⟩))) ?_
   refine aL [] (uq p s_ u0) (tX s_) (oI s_) hy (fun s f h=> ?_) ?_
   ·clear hy
    show bJ _ _ _ _ _ _ ((CZ p s_ u0) f) _
    unfold kD at h
    obtain⟨u3,u1⟩:=s
    refine sz tT ⟨[(2,(vI u0)),(bO p),(4,(vP 30 0)),(M9 u3),(FJ p),(EZ p),(31,(vI u1)),(32,(vB (JS p u1)))],(Qr u3 s_)⟩ {} [] ?_
    refine aQ ?_
    refine bI h (fun hb2 h=> ?_) (fun hb2 h=> ?_)
    ·refine ct hb2 ?_
     refine aP (aQ (aB (aQ (aO h fun a1 h=> ?_))))
     refine rg tT ⟨[(2,(vI u0)),(bO p),(4,(vP 30 0)),(M9 u3),(10,(vI u1)),(ZU p u1),(FJ p),(EZ p),(31,(vI u1))],(Qr u3 s_)⟩ [_] {fr:=[(3,46)] } [46] ⟨a1,trivial⟩ ?_
     refine aQ (aQ (bE h fun u5 hr_1 h=> ?_))
     refine aO h fun a1 h=> ?_
     refine rg tT ⟨[(2,(vI u0)),(bO p),(4,(vP 30 0)),(M9 u3),(10,(vI u1)),(ZU p u1),(FJ p),(EZ p),(31,(vI u1)),(47,(vB (bif (at' s_.badBus u0.toNat)then true else(!u5))))],(Qr u3 s_)⟩ (_::_::(eqs (at' s_.badBus u0.toNat) 4 ((gP (iD [(5,(at' s_.badBus u0.toNat))]) [(5,false)]→All [Fn Try.prog 65 (N9 p s_ u1) (iP s_) (vB u5) (iP s_)])::(eqs (at' s_.badBus u0.toNat) 2 [])))) {yb:=[(5,(at' s_.badBus u0.toNat))],an:=[(9, .callR [0,1,2,3,4,5,6] (vB u5))] } [] ⟨a1,(tL a1),(ae ⟨(fun hg=> ⟨(Fn.Df (frz:=[0,1,2,3,4,5,6]) (p:=[s_.closed.length=s_.closed.length,s_.locked.length=s_.locked.length,s_.badLink.length=s_.badLink.length,s_.on_.length=s_.on_.length,s_.badSource.length=s_.badSource.length,s_.earthed.length=s_.earthed.length,s_.badBus.length=s_.badBus.length]) (IE p s_ u1 (gD hr_1 (aZ hg))) (by kernel_rfl) ⟨rfl,rfl,rfl,rfl,rfl,rfl,rfl,trivial⟩ rfl),trivial⟩),(ae trivial)⟩)⟩ ?_
     refine bI h (fun hb1 h=> ?_) (fun hb1 h=> ?_)
     ·refine ct hb1 ?_
      refine aX (rz tT (agR s_ p u0 u1 u3) {} [] ?_)
      obtain rfl:=oi h
      exact lN
     ·refine cf hb1 ?_
      refine aP (aQ (bE h fun u2 hr_2 h=> ?_))
      refine aO h fun a1 h=> ?_
      have q0:=rk [(7,47)] (EN p s_ (Ki p u1) hr_2)
      refine rg tT ⟨[(2,(vI u0)),(bO p),(4,(vP 30 0)),(M9 u3),(10,(vI u1)),(ZU p u1),(aeb u0 u2),(FJ p),(EZ p),(31,(vI u1))],(Qr u3 s_)⟩ [_,_,_] {an:=[(4,cA q0 [0,1,2,3,4,5,6])],fr:=[(8,48)] } [48] ⟨q0,a1,(tL a1),trivial⟩ ?_
      refine sz tT ⟨[(2,(vI u0)),(bO p),(4,(vP 30 0)),(M9 u3),(10,(vI u1)),(ZU p u1),(aeb u0 u2),(FJ p),(EZ p),(31,(vI u1)),(57,(vB ((at' u2 u0.toNat).there)))],(Qr u3 s_)⟩ {} [] ?_
      refine bI h (fun hb h=> ?_) (fun hb h=> ?_)
      ·refine ct hb ?_
       refine sz tT ⟨[(2,(vI u0)),(bO p),(4,(vP 30 0)),(M9 u3),(10,(vI u1)),(aeb u0 u2),(13,(vI (WA p u0 u1 u2))),(FJ p),(EZ p),(31,(vI u1))],(Qr u3 s_)⟩ {} [] ?_
       refine aO h fun⟨a1,a2,a3⟩ h=> ?_
       refine dg tT mX ⟨[(2,(vI u0)),(bO p),(4,(vP 30 0)),(ag4 p u0 u1 u3 u2),(FJ p),(EZ p),(31,(vI u1))],(aeT s_ p u0 u1 u3 u2)⟩ [_,[(Va p u0 u1 u2)].length=1,aY 1 4 (wF 4 [(.int .i64 u1),(.int .i64 (WA p u0 u1 u2)),(.int .i64 (ag3 p u0 u1 u2)),(aC none 1 (aA .i64) ((at' u2 u0.toNat).links))]) (ab5 p u0 u1 u2),u3.length=u3.length,_,_,(Yj p u0 u1 u3 u2).length=u3.length+[(Va p u0 u1 u2)].length,aY (u3.length+[(Va p u0 u1 u2)].length) 4 (wE (au Short.cell u3) u3.length (ab5 p u0 u1 u2)) (ajg p u0 u1 u3 u2)] {an:=[(11, .arr [(Va p u0 u1 u2)].length (ab5 p u0 u1 u2)),(12, .arr (Yj p u0 u1 u3 u2).length (ajg p u0 u1 u3 u2))],fr:=[(11,49),(12,50)] } [] ⟨a1,(rfl),((by intro i hi j hj;match i,j,hi,hj with|0,0,_,_=>rfl|0,1,_,_=>rfl|0,2,_,_=>rfl|0,3,_,_=>rfl)),rfl,a2,a3,(List.length_append),(dz _ _ _ _),trivial⟩ ?_
       refine ri tT ⟨[(2,(vI u0)),(bO p),(4,(vP 30 0)),(ag4 p u0 u1 u3 u2),(FJ p),(EZ p),(31,(uM u1))],(aeT s_ p u0 u1 u3 u2)⟩ [] {} [] trivial (bG.fin (st':=⟨[(2,(vI u0)),(bO p),(4,(vP 30 0)),(9,(vO 35 false (af5 p u0 u1 u3 u2))),(FJ p),(EZ p),(31,(uM u1))],[(mZ s_),(nG s_),(nk s_),(ni s_),(nu s_),(nI s_),(ny s_),(RU s_),(35,some (agB p u0 u1 u3 u2))]⟩) (cs:=[]) ⟨[],[(0,0),(1,1),(2,2),(3,3),(4,4),(5,5),(6,6),(30,30),(50,35)]⟩ [2,3,4,9,29,30,31] (by kernel_rfl) trivial) ?_
       obtain rfl:=oi h
       exact lN
      ·refine cf hb ?_
       refine aP (rz tT (agR s_ p u0 u1 u3) {} [] ?_)
       obtain rfl:=oi h
       exact lN
    ·refine cf hb2 ?_
     refine aI (fz (aeG u3 s_) []) ?_
     refine aX ?_
     obtain rfl:=oi h
     exact lB
   ·clear hy
    cases y with
    |brk z=>
     obtain⟨u4,rfl⟩: ∃q,q=z:=⟨_,rfl⟩
     unfold fZ
     refine⟨_, .refl, ?_⟩
     refine sg tT (agr s_ u4) [u4.length=u4.length] {} [35] ⟨rfl,trivial⟩ ?_
     refine aR ?_
     obtain rfl:=oi h
     exact rl [(sD (aC none 4 Short.cell u4)),(sI 0)]
    |ret v=>
     obtain rfl:=oi h
     unfold fZ
     intro e st hn ha hR
     cases e with
     |normal=>exact absurd rfl hn
     |exit id=>exact hR
     |goto l=>exact hR
     |ret=>exact hR
     |panic c=>exact hR
     |outgrown=>exact hR
section
variable (u0:Machine)
abbrev Kc:Ob:=(aG 56 2 Event.cell u0.clearing.events)
abbrev pE:Nat × Option Ob:=(1,some (Kc u0))
abbrev SH:Ob:=(aG 4 1 ah u0.clearing.state.closed)
abbrev jH:Nat × Option Ob:=(2,some (SH u0))
abbrev Uw:Ob:=(aG 4 1 ah u0.clearing.state.locked)
abbrev gV:Nat × Option Ob:=(3,some (Uw u0))
abbrev U5:Ob:=(aG 4 1 ah u0.clearing.state.badLink)
abbrev gu:Nat × Option Ob:=(4,some (U5 u0))
abbrev UA:Ob:=(aG 4 1 ah u0.clearing.state.on_)
abbrev fP:Nat × Option Ob:=(5,some (UA u0))
abbrev VH:Ob:=(aG 4 1 ah u0.clearing.state.badSource)
abbrev fI:Nat × Option Ob:=(6,some (VH u0))
abbrev Pm:Ob:=(aG 4 1 ah u0.clearing.state.earthed)
abbrev fB:Nat × Option Ob:=(7,some (Pm u0))
abbrev V3:Ob:=(aG 4 1 ah u0.clearing.state.badBus)
abbrev eZ:Nat × Option Ob:=(8,some (V3 u0))
end
def fQ (u0:Machine):(Machine × Bool)→Exit→St→Prop:=
  fun r=>bn TT [] (.gL []) [(0,some (.cells 137 [(.own 1 false u0.clearing.events.length),(cB r.1.clearing.cleared),(cI r.1.clearing.millis),(cI r.1.clearing.energy),(.own 2 false u0.clearing.state.closed.length),(.own 3 false u0.clearing.state.locked.length),(.own 4 false u0.clearing.state.badLink.length),(.own 5 false u0.clearing.state.on_.length),(.own 6 false u0.clearing.state.badSource.length),(.own 7 false u0.clearing.state.earthed.length),(.own 8 false u0.clearing.state.badBus.length),(cI r.1.p.buses),(.d (aC none 5 Source.cell r.1.p.sources)),(.d (aC none 6 Link.cell r.1.p.links)),(.d (aC none 4 aJ.cell r.1.p.racks)),(cI r.1.bus),(.d (aC (some r.2) 1 (aA .i64) r.1.amps)),(cI r.1.total),(.mp 9),(cI r.1.now)])),(pE u0),(jH u0),(gV u0),(gu u0),(fP u0),(fI u0),(fB u0),(eZ u0),(9,some (MN 3 3 false false 1 1 (aA .i64) (aA .i64) r.1.since))]
section
variable (u1:((List Int) × Bool × Int)) (r_:((List Short) × Int)) (u4:Int) (u0:Machine) (u2:Bool) (u3:Int)
abbrev Eu:Nat × TV:=(4,(vD (aC (some u1.2.1) 1 (aA .i64) u1.1)))
abbrev Wo:Nat × TV:=(39,(vD (aC none 4 Short.cell r_.1)))
abbrev agx:List (Nat × TV):=[(0,(vP 0 0)),(Eu u1),(Wo r_),(40,(vI (r_.1.length:Int))),(41,(vI u4))]
abbrev vT:DV:=(aC none 5 Source.cell u0.p.sources)
abbrev uH:DV:=(aC none 6 Link.cell u0.p.links)
abbrev vR:DV:=(aC none 4 aJ.cell u0.p.racks)
abbrev wH:DV:=(aC (some u2) 1 (aA .i64) u0.amps)
abbrev adv:Nat × Option Ob:=(0,some (.cells 137 [(.own 1 false u0.clearing.events.length),(cB u0.clearing.cleared),(cI u0.clearing.millis),(cI u0.clearing.energy),(.own 2 false u0.clearing.state.closed.length),(.own 3 false u0.clearing.state.locked.length),(.own 4 false u0.clearing.state.badLink.length),(.own 5 false u0.clearing.state.on_.length),(.own 6 false u0.clearing.state.badSource.length),(.own 7 false u0.clearing.state.earthed.length),(.own 8 false u0.clearing.state.badBus.length),(cI u0.p.buses),(.d (vT u0)),(.d (uH u0)),(.d (vR u0)),(cI u0.bus),(.d (wH u0 u2)),(cI u3),(.mp 9),(cI u0.now)]))
abbrev ada:Ob:=(MN 3 3 false false 1 1 (aA .i64) (aA .i64) u0.since)
abbrev jO:Nat × Option Ob:=(9,some (ada u0))
abbrev YB:List (Nat × Option Ob):=[(adv u0 u2 u3),(pE u0),(jH u0),(gV u0),(gu u0),(fP u0),(fI u0),(fB u0),(eZ u0),(jO u0)]
end
def oN (u0:Machine) (u2:Bool) (r_:((List Short) × Int)) (u1:((List Int) × Bool × Int)):(Int × Int)→St:=
  fun zz=>match zz with|(u3,u4)=> ⟨(agx u1 r_ u4),(YB u0 u2 u3)⟩
section
variable (u1:((List Int) × Bool × Int)) (u0:Machine) (u2:Bool) (u3:Int)
abbrev aeL:St:=⟨[(0,(vP 0 0)),(Eu u1)],(YB u0 u2 u3)⟩
end
def oV (u0:Machine) (u2:Bool) (u1:((List Int) × Bool × Int)):Int→St:=
  fun u3=>(aeL u1 u0 u2 u3)
def yE (u0:Machine) (u1:Bool) (r_:((List Short) × Int)) (u2:((List Int) × Bool × Int)):(aS (Int × Int) (Ex Int (Machine × Bool)))→Exit→St→Prop:=
  LQ 0 [] (oN u0 u1 r_ u2) (oV u0 u1 u2) (fQ u0)
section
variable (u1:((List Int) × Bool × Int)) (u5:Int) (u4:(List (Int × Int))) (u0:Machine) (u2:Bool) (u3:Int)
abbrev UD:Nat × TV:=(55,(vD (aC (some u1.2.1) 1 (aA .i64) u1.1)))
abbrev UU:Nat × TV:=(56,(vI (u1.1.length:Int)))
abbrev aiC:List (Nat × TV):=[(0,(vP 0 0)),(Eu u1),(UD u1),(UU u1),(57,(vI u5))]
abbrev aaG:Ob:=(MN 3 3 false false 1 1 (aA .i64) (aA .i64) u4)
abbrev adZ:Nat × Option Ob:=(9,some (aaG u4))
abbrev UX:List (Nat × Option Ob):=[(adv u0 u2 u3),(pE u0),(jH u0),(gV u0),(gu u0),(fP u0),(fI u0),(fB u0),(eZ u0),(adZ u4)]
end
def pq (u0:Machine) (u2:Bool) (u1:((List Int) × Bool × Int)) (u3:Int):((List (Int × Int)) × Int)→St:=
  fun zz=>match zz with|(u4,u5)=> ⟨(aiC u1 u5),(UX u4 u0 u2 u3)⟩
section
variable (u1:((List Int) × Bool × Int)) (u0:Machine) (u2:Bool) (u3:Int) (u4:(List (Int × Int)))
abbrev agA:St:=⟨[(0,(vP 0 0)),(Eu u1)],(UX u4 u0 u2 u3)⟩
end
def oU (u0:Machine) (u2:Bool) (u1:((List Int) × Bool × Int)) (u3:Int):(List (Int × Int))→St:=
  fun u4=>(agA u1 u0 u2 u3 u4)
def zO (u0:Machine) (u1:Bool) (u2:((List Int) × Bool × Int)) (u3:Int):(aS ((List (Int × Int)) × Int) (Ex (List (Int × Int)) (Machine × Bool)))→Exit→St→Prop:=
  LQ 2 [] (pq u0 u1 u2 u3) (oU u0 u1 u2 u3) (fQ u0)
section
variable (u0:Machine) (u2:Bool) (r_:((List Short) × Int)) (u1:((List Int) × Bool × Int)) (u7:Int) (u6:Int) (u5:Int) (u3:Int) (u4:(List (Int × Int)))
abbrev acY:List CV:=[(.own 1 false u0.clearing.events.length),(cB u0.clearing.cleared),(cI u0.clearing.millis),(cI u0.clearing.energy),(.own 2 false u0.clearing.state.closed.length),(.own 3 false u0.clearing.state.locked.length),(.own 4 false u0.clearing.state.badLink.length),(.own 5 false u0.clearing.state.on_.length),(.own 6 false u0.clearing.state.badSource.length),(.own 7 false u0.clearing.state.earthed.length),(.own 8 false u0.clearing.state.badBus.length),(cI u0.p.buses),(.d (vT u0)),(.d (uH u0)),(.d (vR u0)),(cI u0.bus),(.d (wH u0 u2)),(cI u0.total),(.mp 9),(cI u0.now)]
abbrev Bh:Nat × Option Ob:=(0,some (.cells 137 (acY u0 u2)))
abbrev Pp:List (Nat × Option Ob):=[(Bh u0 u2),(pE u0),(jH u0),(gV u0),(gu u0),(fP u0),(fI u0),(fB u0),(eZ u0),(jO u0)]
abbrev aiP:List (Nat × TV):=[(0,(vP 0 0)),(2,(vD (aC none 4 Short.cell r_.1))),(Eu u1)]
abbrev ai3:List (Nat × Option Ob):=[(0,some (.cells 137 [(.own 1 false u0.clearing.events.length),(cB u0.clearing.cleared),(cI u0.clearing.millis),(cI u0.clearing.energy),(.own 2 false u0.clearing.state.closed.length),(.own 3 false u0.clearing.state.locked.length),(.own 4 false u0.clearing.state.badLink.length),(.own 5 false u0.clearing.state.on_.length),(.own 6 false u0.clearing.state.badSource.length),(.own 7 false u0.clearing.state.earthed.length),(.own 8 false u0.clearing.state.badBus.length),(cI u0.p.buses),(.d (vT u0)),(.d (uH u0)),(.d (vR u0)),(cI u0.bus),(.d (wH u0 u2)),(cI 0),(.mp 9),(cI u0.now)])),(pE u0),(jH u0),(gV u0),(gu u0),(fP u0),(fI u0),(fB u0),(eZ u0),(jO u0)]
abbrev ahB:List (Nat × Option Ob):=[(0,some (.cells 137 [(.own 1 false u0.clearing.events.length),(cB u0.clearing.cleared),(cI u0.clearing.millis),(cI u0.clearing.energy),(.own 2 false u0.clearing.state.closed.length),(.own 3 false u0.clearing.state.locked.length),(.own 4 false u0.clearing.state.badLink.length),(.own 5 false u0.clearing.state.on_.length),(.own 6 false u0.clearing.state.badSource.length),(.own 7 false u0.clearing.state.earthed.length),(.own 8 false u0.clearing.state.badBus.length),(cI u0.p.buses),(.d (vT u0)),(.d (uH u0)),(.d (vR u0)),(cI u0.bus),(.d (wH u0 u2)),(cI (IntKind.wrap .i64 (u7+((at' r_.1 u6.toNat).amps)))),(.mp 9),(cI u0.now)])),(pE u0),(jH u0),(gV u0),(gu u0),(fP u0),(fI u0),(fB u0),(eZ u0),(jO u0)]
abbrev agc:List (Nat × Option Ob):=[(adv u0 u2 u5),(pE u0),(jH u0),(gV u0),(gu u0),(fP u0),(fI u0),(fB u0),(eZ u0),(9,some (MN 3 3 false false 1 1 (aA .i64) (aA .i64) (jI iK u3 u0.now u4)))]
abbrev ahY:List (Nat × TV):=[(0,(vP 0 0)),(Eu u1),(UD u1),(UU u1),(57,(uM u3))]
end
theorem zw (u0:Machine) (u2:Bool) {r:(Machine × Bool)} (h:cZ u0 u2=some r):Fn Try.prog 108 [(.one (.ptr 0 0))] (Pp u0 u2) (.gL []) [(0,some (.cells 137 [(.own 1 false u0.clearing.events.length),(cB r.1.clearing.cleared),(cI r.1.clearing.millis),(cI r.1.clearing.energy),(.own 2 false u0.clearing.state.closed.length),(.own 3 false u0.clearing.state.locked.length),(.own 4 false u0.clearing.state.badLink.length),(.own 5 false u0.clearing.state.on_.length),(.own 6 false u0.clearing.state.badSource.length),(.own 7 false u0.clearing.state.earthed.length),(.own 8 false u0.clearing.state.badBus.length),(cI r.1.p.buses),(.d (aC none 5 Source.cell r.1.p.sources)),(.d (aC none 6 Link.cell r.1.p.links)),(.d (aC none 4 aJ.cell r.1.p.racks)),(cI r.1.bus),(.d (aC (some r.2) 1 (aA .i64) r.1.amps)),(cI r.1.total),(.mp 9),(cI r.1.now)])),(pE u0),(jH u0),(gV u0),(gu u0),(fP u0),(fI u0),(fB u0),(eZ u0),(9,some (MN 3 3 false false 1 1 (aA .i64) (aA .i64) r.1.since))]:=by
 refine fN tT Try.func108 rfl rfl fun B=> ?_
 show bJ _ _ _ _ _ _ ((fQ u0) r) _
 unfold cZ at h
 refine aQ (bE h fun r_ hr_ h=> ?_)
 have q0:=rk [(0,2),(1,3),(0,4),(1,5),(0,6),(1,7),(0,8)] (Dq u0.p u0.clearing.state u0.bus hr_)
 refine dg tT mX ⟨[(0,(vP 0 0)),(2,(vD (aC none 4 Short.cell r_.1)))],(Pp u0 u2)⟩ [_] {an:=[(13,cR q0 [2,3,4,5,6,7,8])] } [] ⟨q0,trivial⟩ ?_
 refine aQ (bE h fun u1 hr_1 h=> ?_)
 have q0:=Ev u0.p r_.1 hr_1
 refine rg tT ⟨(aiP r_ u1),(Pp u0 u2)⟩ [_] {an:=[(5,cA q0 [])] } [] ⟨q0,trivial⟩ ?_
 refine sz tT ⟨(aiP r_ u1),(ai3 u0 u2)⟩ {} [] ?_
 refine aQ (sz tT ⟨[(0,(vP 0 0)),(Eu u1),(Wo r_),(40,(vI (r_.1.length:Int))),(41,(vI 0))],(ai3 u0 u2)⟩ {} [] ?_)
 refine bE h fun y hy h=> ?_
 refine aL [] (oN u0 u2 r_ u1) (oV u0 u2 u1) (fQ u0) hy (fun s f h=> ?_) ?_
 ·clear hy
  show bJ _ _ _ _ _ _ ((yE u0 u2 r_ u1) f) _
  unfold fG at h
  obtain⟨u7,u6⟩:=s
  refine sz tT ⟨[(0,(vP 0 0)),(Eu u1),(Wo r_),(40,(vI (r_.1.length:Int))),(41,(vI u6)),(42,(vB (decide (u6<(r_.1.length:Int)))))],(YB u0 u2 u7)⟩ {} [] ?_
  refine aQ ?_
  refine bI h (fun hb h=> ?_) (fun hb h=> ?_)
  ·refine ct hb ?_
   refine aP (aQ (aB (aQ (aO h fun a1 h=> ?_))))
   refine rg tT ⟨[(0,(vP 0 0)),(Eu u1),(7,(vD (nN [(.int .i64 ((at' r_.1 u6.toNat).source)),(.int .i64 ((at' r_.1 u6.toNat).bK)),(.int .i64 ((at' r_.1 u6.toNat).amps)),(aC none 1 (aA .i64) ((at' r_.1 u6.toNat).links))] 0))),(Wo r_),(40,(vI (r_.1.length:Int))),(41,(vI u6))],(YB u0 u2 u7)⟩ [_] {fr:=[(2,17)] } [17] ⟨a1,trivial⟩ ?_
   refine dg tT mX ⟨(agx u1 r_ u6),(ahB u0 u2 r_ u7 u6)⟩ [] {} [] trivial ?_
   refine rz tT ⟨[(0,(vP 0 0)),(Eu u1),(Wo r_),(40,(vI (r_.1.length:Int))),(41,(uM u6))],(ahB u0 u2 r_ u7 u6)⟩ {} [] ?_
   obtain rfl:=oi h
   exact lN
  ·refine cf hb ?_
   refine aI (fz (aeL u1 u0 u2 u7) []) ?_
   refine aX ?_
   obtain rfl:=oi h
   exact lB
 ·clear hy
  cases y with
  |brk z=>
   obtain⟨u5,rfl⟩: ∃q,q=z:=⟨_,rfl⟩
   unfold fZ
   refine⟨_, .refl, ?_⟩
   refine aQ (sz tT ⟨[(0,(vP 0 0)),(Eu u1),(UD u1),(UU u1),(57,(vI 0))],(YB u0 u2 u5)⟩ {} [] ?_)
   refine bE h fun y1 hy h=> ?_
   refine aL [] (pq u0 u2 u1 u5) (oU u0 u2 u1 u5) (fQ u0) hy (fun s f h=> ?_) ?_
   ·clear hy
    show bJ _ _ _ _ _ _ ((zO u0 u2 u1 u5) f) _
    unfold dS at h
    obtain⟨u4,u3⟩:=s
    refine sz tT ⟨[(0,(vP 0 0)),(Eu u1),(UD u1),(UU u1),(57,(vI u3)),(58,(vB (decide (u3<(u1.1.length:Int)))))],(UX u4 u0 u2 u5)⟩ {} [] ?_
    refine aQ ?_
    refine bI h (fun hb2 h=> ?_) (fun hb2 h=> ?_)
    ·refine ct hb2 ?_
     refine aP (aQ (aB (aQ (aO h fun a1 h=> ?_))))
     refine rg tT ⟨[(0,(vP 0 0)),(Eu u1),(8,(vI u3)),(9,(vI (at' u1.1 u3.toNat))),(UD u1),(UU u1),(57,(vI u3))],(UX u4 u0 u2 u5)⟩ [_] {} [] ⟨a1,trivial⟩ ?_
     refine aQ (aO h fun a1 h=> ?_)
     refine rg tT ⟨[(0,(vP 0 0)),(Eu u1),(8,(vI u3)),(UD u1),(UU u1),(57,(vI u3)),(77,(vB (bif (!u2)then true else(!decide ((at' u0.amps u3.toNat)=(at' u1.1 u3.toNat))))))],(UX u4 u0 u2 u5)⟩ (eqs (!u2) 6 ((gP (iD [(5,(!u2))]) [(5,false)]→All [(0:Int)≤u3∧u3<(u0.amps.length:Int)])::(eqs (!u2) 4 []))) {yb:=[(5,(!u2))] } [] (ae ⟨(fun hg=> ⟨(a1 (aZ hg)),trivial⟩),(ae trivial)⟩) ?_
     refine bI h (fun hb1 h=> ?_) (fun hb1 h=> ?_)
     ·refine ct hb1 ?_
      refine dg tT mX ⟨(aiC u1 u3),(agc u0 u2 u5 u3 u4)⟩ [sG [some .i64] 1 1 u4.length (DL (aA .i64) u4) (FU (aA .i64) u4) [(.int .i64 u3)] [(cI u0.now)] [] (jI iK u3 u0.now u4).length (DL (aA .i64) (jI iK u3 u0.now u4)) (FU (aA .i64) (jI iK u3 u0.now u4))] {an:=[(9, .map (jI iK u3 u0.now u4).length (DL (aA .i64) (jI iK u3 u0.now u4)) (FU (aA .i64) (jI iK u3 u0.now u4)) [])] } [] ⟨(JA (fun _=>rfl) (fun _ _=>rfl) u4 u3 u0.now rfl rfl),trivial⟩ ?_
      refine rz tT ⟨(ahY u1 u3),(agc u0 u2 u5 u3 u4)⟩ {} [] ?_
      obtain rfl:=oi h
      exact lN
     ·refine cf hb1 ?_
      refine aP (rz tT ⟨(ahY u1 u3),(UX u4 u0 u2 u5)⟩ {} [] ?_)
      obtain rfl:=oi h
      exact lN
    ·refine cf hb2 ?_
     refine aI (fz (agA u1 u0 u2 u5 u4) []) ?_
     refine aX ?_
     obtain rfl:=oi h
     exact lB
   ·clear hy
    cases y1 with
    |brk z=>
     obtain⟨u8,rfl⟩: ∃q,q=z:=⟨_,rfl⟩
     unfold fZ
     refine⟨_, .refl, ?_⟩
     refine rz tT ⟨[],[(0,some (.cells 137 [(.own 1 false u0.clearing.events.length),(cB u0.clearing.cleared),(cI u0.clearing.millis),(cI u0.clearing.energy),(.own 2 false u0.clearing.state.closed.length),(.own 3 false u0.clearing.state.locked.length),(.own 4 false u0.clearing.state.badLink.length),(.own 5 false u0.clearing.state.on_.length),(.own 6 false u0.clearing.state.badSource.length),(.own 7 false u0.clearing.state.earthed.length),(.own 8 false u0.clearing.state.badBus.length),(cI u0.p.buses),(.d (vT u0)),(.d (uH u0)),(.d (vR u0)),(cI u0.bus),(.d (aC (some u1.2.1) 1 (aA .i64) u1.1)),(cI u5),(.mp 9),(cI u0.now)])),(pE u0),(jH u0),(gV u0),(gu u0),(fP u0),(fI u0),(fB u0),(eZ u0),(adZ u8)]⟩ {} [] ?_
     obtain rfl:=oi h
     exact bn.mk (.inl rfl) (p:=[]) (l:=[]) (by kernel_rfl) trivial (fC.refl _) (.refl _)
    |ret v=>
     obtain rfl:=oi h
     unfold fZ
     intro e st hn ha hR
     cases e with
     |normal=>exact absurd rfl hn
     |exit id=>exact hR
     |goto l=>exact hR
     |ret=>exact hR
     |panic c=>exact hR
     |outgrown=>exact hR
  |ret v=>
   obtain rfl:=oi h
   unfold fZ
   intro e st hn ha hR
   cases e with
   |normal=>exact absurd rfl hn
   |exit id=>exact hR
   |goto l=>exact hR
   |ret=>exact hR
   |panic c=>exact hR
   |outgrown=>exact hR
section
variable (u0:Machine) (u1:Bool)
abbrev adx:List (Nat × Option Ob):=[(Bh u0 u1),(pE u0),(jH u0),(gV u0),(gu u0),(fP u0),(fI u0),(fB u0),(eZ u0),(jO u0),(10,some (.cells 134 [(.ptr 0 0)]))]
end
def zG (u0:Machine) (u1:Bool):Unit→Exit→St→Prop:=
  fun _=>bn TT [.tmp 2] (.v (.one (.fn 153 0 1 (Cb [(.ptr 10 0)])))) (adx u0 u1)
section
variable (u0:Machine) (u1:Bool)
abbrev aiX:List (Nat × Option Ob):=[(Bh u0 u1),(pE u0),(jH u0),(gV u0),(gu u0),(fP u0),(fI u0),(fB u0),(eZ u0),(jO u0),(11,some (.cells 134 [(.ptr 0 0)]))]
end
theorem oC (u0:Machine) (u1:Bool) {r:Unit} (h:gG u0 u1=some r):Fn Try.prog 144 [(.one (.ptr 0 0))] (Pp u0 u1) (.v (.one (.fn 153 0 1 (Cb [(.ptr 10 0)])))) (adx u0 u1):=by
 refine fN tT Try.func144 rfl rfl fun B=> ?_
 show bJ _ _ _ _ _ _ ((zG u0 u1) r) _
 unfold gG at h
 refine sz tT ⟨[(1,(vP 11 0))],(aiX u0 u1)⟩ {fr:=[(0,11)] } [] ?_
 refine sz tT ⟨[(2,(.v (.one (.fn 153 0 1 (Cb [(.ptr 11 0)])))))],(aiX u0 u1)⟩ {} [] ?_
 refine aI (bG.fin (st':=⟨[(2,(.v (.one (.fn 153 0 1 (Cb [(.ptr 10 0)])))))],(adx u0 u1)⟩) (cs:=[]) ⟨[],[(0,0),(1,1),(2,2),(3,3),(4,4),(5,5),(6,6),(7,7),(8,8),(9,9),(11,10)]⟩ [2] (by kernel_rfl) trivial) ?_
 refine aR ?_
 obtain rfl:=oi h
 exact rl [(.one (.fn 153 0 1 (Cb [(.ptr 10 0)])))]
noncomputable def bP:pM:=⟨[13,14],LB ([1,1,0,1,0]++[0]) (sQ Try.f107),LB ([1,1,0,1,0]++[1]) (sQ Try.f107),119,[]⟩
def sN  :(Int × Bool)→Exit→St→Prop:=
  fun r=>bn TT [.tmp 4, .tmp 5] (.gL [(sI r.1),(sB r.2)]) []
def y8 (x:Link) (u0:Int):Int→St:=
  fun i=> ⟨[(1,(vI u0)),(KR x),(6,(vI i))],[]⟩
def zn  :Unit→St:=
  fun _=> ⟨[],[]⟩
def F7 (x:Link) (u0:Int):(aS Int (Ex Unit (Int × Bool)))→Exit→St→Prop:=
  LQ 0 [] (y8 x u0) zn sN
section
variable (x:Link) (u0:Int)
abbrev afv:List SV:=[(.agg (k37 x)),(sI u0)]
abbrev afM:St:=⟨[(1,(vI u0)),(KR x)],[]⟩
end
theorem q8 (x:Link) (u0:Int) {r:(Int × Bool)} (h:iW x u0=some r):Fn Try.prog 19 (afv x u0) [] (.gL [(sI r.1),(sB r.2)]) []:=by
 refine fN tT Try.func19 rfl rfl fun B=> ?_
 show bJ _ _ _ _ _ _ (sN r) _
 unfold iW at h
 refine sz tT (afM x u0) {fr:=[(0,1)] } [1] ?_
 refine aQ (sz tT ⟨[(1,(vI u0)),(KR x),(6,(vI (IntKind.wrap .i64 ((x.trip.length:Int) - 1))))],[]⟩ {} [] ?_)
 refine bE h fun y hy h=> ?_
 refine aL [] (y8 x u0) zn sN hy (fun s f h=> ?_) ?_
 ·clear hy
  show bJ _ _ _ _ _ _ ((F7 x u0) f) _
  unfold dI at h
  obtain⟨i,rfl⟩: ∃q,q=s:=⟨_,rfl⟩
  refine aQ (sz tT ⟨[(1,(vI u0)),(KR x),(6,(vI i)),(12,(vB (decide (0≤i))))],[]⟩ {} [] ?_)
  refine bI h (fun hb1 h=> ?_) (fun hb1 h=> ?_)
  ·refine ct hb1 ?_
   refine aP (aQ (aB (aQ (aO h fun a1 h=> ?_))))
   refine rg tT ⟨[(1,(vI u0)),(KR x),(6,(vI i)),(22,(vB (decide (((at' x.trip i.toNat).amps)≤u0))))],[]⟩ [_] {} [] ⟨a1,trivial⟩ ?_
   refine bI h (fun hb h=> ?_) (fun hb h=> ?_)
   ·refine ct hb ?_
    refine aQ (aO h fun a1 h=> ?_)
    refine rg tT ⟨[(4,(vI (Yf x i))),(5,(vB true))],[]⟩ [_] {} [] ⟨a1,trivial⟩ ?_
    refine aR ?_
    obtain rfl:=oi h
    exact lR dF (dM 0) dB (bn.mk (.inr rfl) (p:=[]) (l:=[(sI (Yf x i)),(sB true)]) (by kernel_rfl) trivial (fC.refl _) trivial)
   ·refine cf hb ?_
    refine aP (rz tT ⟨[(1,(vI u0)),(KR x),(6,(vI (k13 i)))],[]⟩ {} [] ?_)
    obtain rfl:=oi h
    exact lN
  ·refine cf hb1 ?_
   refine aI (fz ⟨[],[]⟩ []) ?_
   refine aX ?_
   obtain rfl:=oi h
   exact lB
 ·clear hy
  cases y with
  |brk z=>
   unfold fZ
   refine⟨_, .refl, ?_⟩
   refine sz tT ⟨[(4,(vI 0)),(5,(vB false))],[]⟩ {} [] ?_
   refine aR ?_
   obtain rfl:=oi h
   exact rl [(sI 0),(sB false)]
  |ret v=>
   obtain rfl:=oi h
   unfold fZ
   intro e st hn ha hR
   cases e with
   |normal=>exact absurd rfl hn
   |exit id=>exact hR
   |goto l=>exact hR
   |ret=>exact hR
   |panic c=>exact hR
   |outgrown=>exact hR
abbrev ab0:Nat × Option Ob:=(0,some (.loop bP 0 [(3,(vP 1 0))]))
def sM  :Int→Exit→St→Prop:=
  fun r=>ru 0 bP (vB true) [ab0,(1,some (.cells 3 [(cI r)]))]
section
variable (u0:Int) (u1:Int)
abbrev Lb:Nat × Option Ob:=(1,some (.cells 3 [(cI u0)]))
abbrev Zi:List (Nat × Option Ob):=[ab0,(Lb u0)]
abbrev ac9:List (Nat × Option Ob):=[(0,some (.loop bP 1 [(3,(vP 1 0))])),(Lb u0)]
abbrev ahT:St:=⟨[],(ac9 u1)⟩
end
theorem rG (u2:Int) (u1:Int) (u0:Int) {r:Int} (h:dV u2 u1 u0=some r):Yl Try.prog 0 [(sI u2),(sI u1)] (Zi u0) (vB true) [ab0,(1,some (.cells 3 [(cI r)]))]:=by
 refine KE (r:=bP) (sl:=[(3,(vP 1 0))]) (sl1:=[(3,(vP 1 0)),(5,(vI u1))]) (h1:=(Zi u0)) (sl2:=[(3,(vP 1 0))]) (by kernel_rfl) rfl rfl (by kernel_rfl) (fun rd B=> ?_) (by kernel_rfl) (fun rd B=> ?_)
 ·refine zo (c:=LB ([1,1,0,1,0]++[0]) (sQ Try.f107)) rfl ?_
  refine uQ (st:=⟨[(13,(vI u2)),(14,(vI u1)),(3,(vP 1 0))],(Zi u0)⟩) (by kernel_rfl) ?_
  refine rz tT ⟨[(3,(vP 1 0)),(5,(vI u1))],(Zi u0)⟩ {} [] ?_
  exact⟨rfl,rfl⟩
 ·refine zo (c:=LB ([1,1,0,1,0]++[1]) (sQ Try.f107)) rfl ?_
  refine uQ (st:=⟨[(3,(vP 1 0)),(5,(vI u1))],(ac9 u0)⟩) (by kernel_rfl) ?_
  show bJ _ _ _ _ _ _ (sM r) _
  unfold dV at h
  refine aB (sg tT ⟨[(3,(vP 1 0)),(5,(vI u1)),(21,(vB (bif (decide (u0<0))then true else(decide (u1<u0)))))],(ac9 u0)⟩ (eqs (decide (u0<0)) 4 []) {yb:=[(2,(decide (u0<0)))] } [] (ae trivial) ?_)
  refine bI h (fun hb h=> ?_) (fun hb h=> ?_)
  ·refine ct hb ?_
   refine rz tT (ahT u1) {} [] ?_
   obtain rfl:=oi h
   exact ru.on (sl:=[(3,(vP 1 0))]) (by kernel_rfl) (EU (by kernel_rfl)) (fC.refl _)
  ·refine cf hb ?_
   refine aI (fz (ahT u0) []) ?_
   refine aP ?_
   obtain rfl:=oi h
   exact ru.on (sl:=[(3,(vP 1 0))]) (by kernel_rfl) (EU (by kernel_rfl)) (fC.refl _)
section
variable (u0:Machine) (u1:Bool)
abbrev YM:Nat × Option Ob:=(0,some (.loop bP 0 [(3,(vP 2 0))]))
abbrev ZX:Nat × Option Ob:=(1,some (.cells 134 [(.ptr 3 0)]))
abbrev ZL:Nat × Option Ob:=(3,some (.cells 137 [(.own 4 false u0.clearing.events.length),(cB u0.clearing.cleared),(cI u0.clearing.millis),(cI u0.clearing.energy),(.own 5 false u0.clearing.state.closed.length),(.own 6 false u0.clearing.state.locked.length),(.own 7 false u0.clearing.state.badLink.length),(.own 8 false u0.clearing.state.on_.length),(.own 9 false u0.clearing.state.badSource.length),(.own 10 false u0.clearing.state.earthed.length),(.own 11 false u0.clearing.state.badBus.length),(cI u0.p.buses),(.d (vT u0)),(.d (uH u0)),(.d (vR u0)),(cI u0.bus),(.d (wH u0 u1)),(cI u0.total),(.mp 12),(cI u0.now)]))
abbrev Ze:Nat × Option Ob:=(4,some (Kc u0))
abbrev Z5:Nat × Option Ob:=(5,some (SH u0))
abbrev aaz:Nat × Option Ob:=(6,some (Uw u0))
abbrev ZJ:Nat × Option Ob:=(7,some (U5 u0))
abbrev ZE:Nat × Option Ob:=(8,some (UA u0))
abbrev aau:Nat × Option Ob:=(9,some (VH u0))
abbrev ZT:Nat × Option Ob:=(10,some (Pm u0))
abbrev aaW:Nat × Option Ob:=(11,some (V3 u0))
abbrev ZI:Nat × Option Ob:=(12,some (ada u0))
end
def jr (u0:Machine) (u1:Bool):Int→Exit→St→Prop:=
  fun r=>bn TT [] (.gL []) [YM,ZX,(2,some (.cells 3 [(cI r)])),(ZL u0 u1),(Ze u0),(Z5 u0),(aaz u0),(ZJ u0),(ZE u0),(aau u0),(ZT u0),(aaW u0),(ZI u0)]
section
variable (u0:Machine) (u3:Int) (u2:Int) (u1:Bool)
abbrev yI:Nat × TV:=(0,(.v (.one (.yl 0))))
abbrev JR:Nat × TV:=(11,(vD (uH u0)))
abbrev KP:Nat × TV:=(12,(vI (u0.p.links.length:Int)))
abbrev ai7:List (Nat × TV):=[yI,(1,(vP 1 0)),(JR u0),(KP u0),(13,(vI u3))]
abbrev GN:Nat × Option Ob:=(2,some (.cells 3 [(cI u2)]))
abbrev Gx:List (Nat × Option Ob):=[YM,ZX,(GN u2),(ZL u0 u1),(Ze u0),(Z5 u0),(aaz u0),(ZJ u0),(ZE u0),(aau u0),(ZT u0),(aaW u0),(ZI u0)]
end
def mq (u0:Machine) (u1:Bool):(Int × Int)→St:=
  fun zz=>match zz with|(u2,u3)=> ⟨(ai7 u0 u3),(Gx u0 u2 u1)⟩
def mF (u0:Machine) (u1:Bool):Int→St:=
  fun o301=> ⟨[],[YM,ZX,(2,some (.cells 3 [(cI o301)])),(ZL u0 u1),(Ze u0),(Z5 u0),(aaz u0),(ZJ u0),(ZE u0),(aau u0),(ZT u0),(aaW u0),(ZI u0)]⟩
def uU (u0:Machine) (u1:Bool):(aS (Int × Int) (Ex Int Int))→Exit→St→Prop:=
  LQ 0 [] (mq u0 u1) (mF u0 u1) (jr u0 u1)
section
variable (u0:Machine) (u1:Int) (u3:Int) (u2:Bool) (r_:(Int × Bool)) (u4:Int)
abbrev aaM:List (Nat × TV):=[yI,(1,(vP 1 0)),(JR u0),(KP u0),(13,(vI 0))]
abbrev aht:List (Nat × TV):=[yI,(1,(vP 1 0)),(JR u0),(KP u0),(13,(vI u1)),(14,(vB (decide (u1<(u0.p.links.length:Int)))))]
abbrev agt:Nat × TV:=(4,(vD (nN [(.int .i64 ((at' u0.p.links u1.toNat).a)),(.int .i64 ((at' u0.p.links u1.toNat).b)),(.int .i64 ((at' u0.p.links u1.toNat).kind)),(.int .i64 ((at' u0.p.links u1.toNat).most)),(.int .i64 ((at' u0.p.links u1.toNat).bK)),(aC none 2 dU.cell ((at' u0.p.links u1.toNat).trip))] 0)))
abbrev aim:List (Nat × TV):=[yI,(1,(vP 1 0)),(3,(vI u1)),(agt u0 u1),(JR u0),(KP u0),(13,(vI u1))]
abbrev QW:=(!decide (((at' u0.p.links u1.toNat).kind)=3))
abbrev Nl:=(bif (QW u0 u1)then true else(!(at' u0.clearing.state.closed u1.toNat)))
abbrev ae8:List (Nat × TV):=[yI,(1,(vP 1 0)),(3,(vI u1)),(agt u0 u1),(JR u0),(KP u0),(13,(vI u1)),(43,(vB (bif (Nl u0 u1)then true else(at' u0.clearing.state.badLink u1.toNat))))]
abbrev aaQ:=(iD [(3,(QW u0 u1)),(15,(Nl u0 u1))])
abbrev agb:=(eqs (QW u0 u1) 8 ((gP (aaQ u0 u1) [(3,false)]→All [(0:Int)≤u1∧u1<(u0.clearing.state.closed.length:Int)])::((QW u0 u1)=(QW u0 u1))::(gP (aaQ u0 u1) [(3,false)]→All [u1.toNat<u0.clearing.state.closed.length])::(eqs (QW u0 u1) 2 (eqs (Nl u0 u1) 8 [gP (aaQ u0 u1) [(15,false)]→All [(0:Int)≤u1∧u1<(u0.clearing.state.badLink.length:Int)],(Nl u0 u1)=(Nl u0 u1),gP (aaQ u0 u1) [(15,false)]→All [u1.toNat<u0.clearing.state.badLink.length],(Nl u0 u1)=(Nl u0 u1)]))))
abbrev acv:List (Nat × TV):=[yI,(1,(vP 1 0)),(JR u0),(KP u0),(13,(uM u1))]
abbrev adF:St:=⟨(acv u0 u1),(Gx u0 u3 u2)⟩
abbrev ahd:List (Nat × TV):=[yI,(1,(vP 1 0)),(3,(vI u1)),(5,(vI r_.1)),(6,(vB r_.2)),(JR u0),(KP u0),(13,(vI u1))]
abbrev aje:List (Nat × TV):=[yI,(1,(vP 1 0)),(JR u0),(KP u0),(13,(vI u1)),(70,(vB (bif r_.2 then(!true)else false)))]
abbrev Zz:=(IntKind.wrap .i64 (((dh iK u1 u0.since).getD 0)+r_.1))
abbrev abZ:List (Nat × Option Ob):=[YM,(GN u3)]
abbrev ahx:List (Nat × TV):=[yI,(1,(vP 1 0)),(JR u0),(KP u0),(13,(vI u1)),(70,(vB (!true)))]
abbrev aeR:St:=⟨[],(Gx u0 u4 u2)⟩
abbrev aeN:List (Nat × TV):=[yI,(1,(vP 1 0)),(JR u0),(KP u0),(13,(vI u1)),(70,(vB (bif r_.2 then false else false)))]
abbrev ajJ:List (Nat × TV):=[yI,(1,(vP 1 0)),(JR u0),(KP u0),(13,(vI u1)),(70,(vB false))]
end
theorem ve (u5:Int) (u0:Machine) (u2:Bool) {r:Int} (h:fE u5 u0 u2=some r):Fn Try.prog 153 [(.one (.yl 0)),(.one (.ptr 1 0))] (Gx u0 u5 u2) (.gL []) [YM,ZX,(2,some (.cells 3 [(cI r)])),(ZL u0 u2),(Ze u0),(Z5 u0),(aaz u0),(ZJ u0),(ZE u0),(aau u0),(ZT u0),(aaW u0),(ZI u0)]:=by
 refine fN tT Try.func153 rfl rfl fun B=> ?_
 show bJ _ _ _ _ _ _ ((jr u0 u2) r) _
 unfold fE at h
 refine sz tT ⟨(aaM u0),(Gx u0 u5 u2)⟩ {} [] ?_
 refine bE h fun y hy h=> ?_
 refine aL [] (mq u0 u2) (mF u0 u2) (jr u0 u2) hy (fun s f h=> ?_) ?_
 ·clear hy
  show bJ _ _ _ _ _ _ ((uU u0 u2) f) _
  unfold dW at h
  obtain⟨u3,u1⟩:=s
  refine sz tT ⟨(aht u0 u1),(Gx u0 u3 u2)⟩ {} [] ?_
  refine aQ ?_
  refine bI h (fun hb3 h=> ?_) (fun hb3 h=> ?_)
  ·refine ct hb3 ?_
   refine aP (aQ (aB (aQ (aO h fun a1 h=> ?_))))
   refine rg tT ⟨(aim u0 u1),(Gx u0 u3 u2)⟩ [_] {fr:=[(3,20)] } [20] ⟨a1,trivial⟩ ?_
   refine aQ (aQ (aO h fun⟨a1,a2⟩ h=> ?_))
   refine rg tT ⟨(ae8 u0 u1),(Gx u0 u3 u2)⟩ (agb u0 u1) {yb:=[(3,(QW u0 u1)),(15,(Nl u0 u1))] } [] (ae ⟨(fun hg=> ⟨(a1 (aZ hg)),trivial⟩),rfl,(fun hg=> ⟨((fun hq=>tL (a1 hq)) (aZ hg)),trivial⟩),(ae (ae ⟨(fun hg=> ⟨(a2 (aZ hg)),trivial⟩),rfl,(fun hg=> ⟨((fun hq=>tL (a2 hq)) (aZ hg)),trivial⟩),rfl,trivial⟩))⟩) ?_
   refine bI h (fun hb2 h=> ?_) (fun hb2 h=> ?_)
   ·refine ct hb2 ?_
    refine aX (rz tT (adF u0 u1 u3 u2) {} [] ?_)
    obtain rfl:=oi h
    exact lN
   ·refine cf hb2 ?_
    refine aP (aQ (bE h fun r_ hr_ h=> ?_))
    refine aO h fun a1 h=> ?_
    have q1:=q8 (at' u0.p.links u1.toNat) (at' u0.amps u1.toNat) hr_
    refine dg tT mX ⟨(ahd u0 u1 r_),(Gx u0 u3 u2)⟩ [_,_] {an:=[(8,cA q1 [])] } [] ⟨a1,q1,trivial⟩ ?_
    refine aQ ?_
    refine bI h (fun hb h=> ?_) (fun hb h=> ?_)
    ·skip
     refine bE h fun u4 hr_1 h=> ?_
     refine ri tT ⟨(aje u0 u1 r_),(Gx u0 u4 u2)⟩ [r_.2=true,r_.2=true,r_.2=true,r_.2=true,r_.2=true,r_.2=true,r_.2=true,r_.2=true,gP (iD [(1,true)]) [(1,true)]→All [qZ [some .i64] 1 1 u0.since.length (DL (aA .i64) u0.since) (FU (aA .i64) u0.since) [(.int .i64 u1)] [(.d (.int .i64 0))] (dh iK u1 u0.since).isSome [(cI ((dh iK u1 u0.since).getD 0))]],r_.2=true,r_.2=true,r_.2=true,gP (iD [(1,true)]) [(1,true)]→All [Yl Try.prog 0 [(sI u1),(sI (Zz u0 u1 r_))] (abZ u3) (vB true) (abZ u4)],gP (iD [(1,true)]) [(1,true)],r_.2=true,r_.2=true] {yb:=[(1,true)],an:=[(9, .look (dh iK u1 u0.since).isSome [(cI ((dh iK u1 u0.since).getD 0))]),(12, .call [0,2] (vB true) (abZ u4))] } [] ⟨(hb),(hb),(hb),(hb),(hb),(hb),(hb),(hb),(fun hg=> ⟨(qN (fun _=>rfl) (fun _ _=>rfl) u0.since u1 0 rfl rfl rfl),trivial⟩),(hb),(hb),(hb),(fun hg=> ⟨(yK [(1,2)] (rG u1 (Zz u0 u1 r_) u3 hr_1)),trivial⟩),(⟨rfl,trivial⟩),(hb),(hb),trivial⟩ (bG.le (st':=⟨(ahx u0 u1),(Gx u0 u4 u2)⟩) ⟨⟨tR,tR,tR,tR,tR,⟨_,rfl,fC.v (jw.one (bL.of (congrArg (fun b=>CV.d (.bool b)) (XY hb))))⟩,trivial⟩,(.refl _)⟩) ?_
     refine bI h (fun hb1 h=> ?_) (fun hb1 h=> ?_)
     ·refine ct hb1 ?_
      refine aI (fz (aeR u0 u2 u4) []) ?_
      refine aR ?_
      obtain rfl:=oi h
      exact lR dF (dM 0) dB (bn.mk (.inr rfl) (p:=[]) (l:=[]) (by kernel_rfl) trivial (fC.refl _) (.refl _))
     ·refine cf hb1 ?_
      refine aP (rz tT (adF u0 u1 u4 u2) {} [] ?_)
      obtain rfl:=oi h
      exact lN
    ·skip
     refine ri tT ⟨(aeN u0 u1 r_),(Gx u0 u3 u2)⟩ [r_.2=false, ¬ gP (iD [(1,false)]) [(1,true)],r_.2=false, ¬ gP (iD [(1,false)]) [(1,true)],r_.2=false, ¬ gP (iD [(1,false)]) [(1,true)],r_.2=false, ¬ gP (iD [(1,false)]) [(1,true)],r_.2=false, ¬ gP (iD [(1,false)]) [(1,true)],r_.2=false, ¬ gP (iD [(1,false)]) [(1,true)],r_.2=false, ¬ gP (iD [(1,false)]) [(1,true)],r_.2=false, ¬ gP (iD [(1,false)]) [(1,true)],r_.2=false, ¬ gP (iD [(1,false)]) [(1,true)],r_.2=false, ¬ gP (iD [(1,false)]) [(1,true)],r_.2=false, ¬ gP (iD [(1,false)]) [(1,true)],r_.2=false, ¬ gP (iD [(1,false)]) [(1,true)],r_.2=false] {yb:=[(1,false)],an:=[(2, .skip),(3, .skip),(4, .skip),(5, .skip),(6, .skip),(7, .skip),(8, .skip),(9, .skip),(10, .skip),(11, .skip),(12, .skip),(13, .skip)] } [] ⟨(hb),((fun h=>Bool.noConfusion (show false=true from h.1))),(hb),((fun h=>Bool.noConfusion (show false=true from h.1))),(hb),((fun h=>Bool.noConfusion (show false=true from h.1))),(hb),((fun h=>Bool.noConfusion (show false=true from h.1))),(hb),((fun h=>Bool.noConfusion (show false=true from h.1))),(hb),((fun h=>Bool.noConfusion (show false=true from h.1))),(hb),((fun h=>Bool.noConfusion (show false=true from h.1))),(hb),((fun h=>Bool.noConfusion (show false=true from h.1))),(hb),((fun h=>Bool.noConfusion (show false=true from h.1))),(hb),((fun h=>Bool.noConfusion (show false=true from h.1))),(hb),((fun h=>Bool.noConfusion (show false=true from h.1))),(hb),((fun h=>Bool.noConfusion (show false=true from h.1))),(hb),trivial⟩ (bG.le (st':=⟨(ajJ u0 u1),(Gx u0 u3 u2)⟩) ⟨⟨tR,tR,tR,tR,tR,⟨_,rfl,fC.v (jw.one (bL.of (congrArg (fun b=>CV.d (.bool b)) (WZ hb))))⟩,trivial⟩,(.refl _)⟩) ?_
     refine cn (aP (rz tT (adF u0 u1 u3 u2) {} [] ?_))
     obtain rfl:=oi h
     exact lN
  ·refine cf hb3 ?_
   refine aI (fz (aeR u0 u2 u3) []) ?_
   refine aX ?_
   obtain rfl:=oi h
   exact lB
 ·clear hy
  cases y with
  |brk z=>
   obtain⟨o301,rfl⟩: ∃q,q=z:=⟨_,rfl⟩
   unfold fZ
   refine⟨_, .refl, ?_⟩
   obtain rfl:=oi h
   exact bn.mk (.inl rfl) (p:=[]) (l:=[]) (by kernel_rfl) trivial (fC.refl _) (.refl _)
  |ret v=>
   obtain rfl:=oi h
   unfold fZ
   intro e st hn ha hR
   cases e with
   |normal=>exact absurd rfl hn
   |exit id=>exact hR
   |goto l=>exact hR
   |ret=>exact hR
   |panic c=>exact hR
   |outgrown=>exact hR
noncomputable def bQ:pM:=⟨[33,34],LB ([1,1,1,1,1,1,0,1,0]++[0]) (sQ Try.f107),LB ([1,1,1,1,1,1,0,1,0]++[1]) (sQ Try.f107),119,[]⟩
abbrev Vz:List (Nat × TV):=[(3,(vP 1 0)),(6,(vP 2 0))]
abbrev adG:Nat × Option Ob:=(0,some (.loop bQ 0 Vz))
def sV (u0:Int):(List Int)→Exit→St→Prop:=
  fun r=>ru 0 bQ (vB true) [adG,(Lb u0),(2,some (.cells 40 [(.own 4 false r.length)])),(3,none),(4,some (aG 3 1 (aA .i64) r))]
section
variable (u1:Int) (o_:(List Int)) (u0:Int) (u2:Int)
abbrev YH:List (Nat × Option Ob):=[adG,(Lb u1),(2,some (.cells 40 [(.own 3 false o_.length)])),(3,some (yQ o_))]
abbrev ad6:List (Nat × TV):=[(3,(vP 1 0)),(6,(vP 2 0)),(7,(vI u0)),(8,(vI u2))]
abbrev X7:Nat × Option Ob:=(0,some (.loop bQ 1 Vz))
abbrev aif:List (Nat × Option Ob):=[X7,(Lb u1),(2,some (.cells 40 [(.own 3 false o_.length)])),(3,some (yQ o_))]
end
theorem rY (u0:Int) (u2:Int) (u1:Int) (o_:(List Int)) {r:(List Int)} (h:eu u0 u2 u1 o_=some r):Yl Try.prog 0 [(sI u0),(sI u2)] (YH u1 o_) (vB true) [adG,(Lb u1),(2,some (.cells 40 [(.own 4 false r.length)])),(3,none),(4,some (aG 3 1 (aA .i64) r))]:=by
 refine KE (r:=bQ) (sl:=Vz) (sl1:=(ad6 u0 u2)) (h1:=(YH u1 o_)) (sl2:=Vz) (by kernel_rfl) rfl rfl (by kernel_rfl) (fun rd B=> ?_) (by kernel_rfl) (fun rd B=> ?_)
 ·refine zo (c:=LB ([1,1,1,1,1,1,0,1,0]++[0]) (sQ Try.f107)) rfl ?_
  refine uQ (st:=⟨[(33,(vI u0)),(34,(vI u2)),(3,(vP 1 0)),(6,(vP 2 0))],(YH u1 o_)⟩) (by kernel_rfl) ?_
  refine sz tT ⟨[(3,(vP 1 0)),(6,(vP 2 0)),(7,(vI u0)),(34,(vI u2))],(YH u1 o_)⟩ {} [] ?_
  refine rz tT ⟨(ad6 u0 u2),(YH u1 o_)⟩ {} [] ?_
  exact⟨rfl,rfl⟩
 ·refine zo (c:=LB ([1,1,1,1,1,1,0,1,0]++[1]) (sQ Try.f107)) rfl ?_
  refine uQ (st:=⟨(ad6 u0 u2),(aif u1 o_)⟩) (by kernel_rfl) ?_
  show bJ _ _ _ _ _ _ ((sV u1) r) _
  unfold eu at h
  refine aB (sz tT ⟨[(6,(vP 2 0)),(7,(vI u0)),(37,(vB (decide (u2≤u1))))],(aif u1 o_)⟩ {} [] ?_)
  refine bI h (fun hb h=> ?_) (fun hb h=> ?_)
  ·refine ct hb ?_
   refine aO h fun⟨a1,a2⟩ h=> ?_
   refine ri tT ⟨[],[X7,(Lb u1),(2,some (.cells 40 [(.own 7 false ((o_++[u0]).length))])),(3,none),(7,some (aG 3 1 (aA .i64) (o_++[u0])))]⟩ [[u0].length=1,aY 1 1 (wF 1 [(.int .i64 u0)]) (au (aA .i64) [u0]),o_.length=o_.length,_,_,(o_++[u0]).length=o_.length+[u0].length,aY (o_.length+[u0].length) 1 (acA u0 o_) (Uu u0 o_)] {an:=[(2, .arr [u0].length (au (aA .i64) [u0])),(3, .arr (o_++[u0]).length (Uu u0 o_))],fr:=[(2,6),(3,7)] } [] ⟨(rfl),((by intro i hi j hj;match i,j,hi,hj with|0,0,_,_=>rfl)),rfl,a1,a2,(List.length_append),(dz _ _ _ _),trivial⟩ (bG.fin (st':=⟨[],[X7,(Lb u1),(2,some (.cells 40 [(.own 4 false ((o_++[u0]).length))])),(3,none),(4,some (aG 3 1 (aA .i64) (o_++[u0])))]⟩) (cs:=[]) ⟨[],[(0,0),(1,1),(2,2),(3,3),(7,4)]⟩ [] (by kernel_rfl) trivial) ?_
   obtain rfl:=oi h
   exact ru.on (sl:=Vz) (by kernel_rfl) (EU (by kernel_rfl)) (fC.refl _)
  ·refine cf hb ?_
   refine aI (.trans (bG.pI (E0:=40) (cs:=[(.own 3 false o_.length)]) (nn:=false) (len:=o_.length) (E:=3) (esz:=1) (n:=o_.length) (el:=au (aA .i64) o_) (p:=2) (q:=0) (b:=3) (b':=8) (by kernel_rfl) (by kernel_rfl) (by kernel_rfl) (by kernel_rfl)) (.trans (fz ⟨[(6,(vP 2 0)),(7,(vI u0)),(37,(vB (decide (u2≤u1))))],[X7,(Lb u1),(2,some (.cells 40 [(.own 8 false o_.length)])),(3,none),(8,some (yQ o_))]⟩ []) (bG.fin (st':=⟨[],[X7,(Lb u1),(2,some (.cells 40 [(.own 4 false o_.length)])),(3,none),(4,some (yQ o_))]⟩) (cs:=[]) ⟨[],[(0,0),(1,1),(2,2),(3,3),(8,4)]⟩ [] (by kernel_rfl) trivial))) ?_
   refine aP ?_
   obtain rfl:=oi h
   exact ru.on (sl:=Vz) (by kernel_rfl) (EU (by kernel_rfl)) (fC.refl _)
section
variable (u0:Machine) (u2:Bool)
abbrev Jm:Nat × Option Ob:=(0,some (.loop bQ 0 [(3,(vP 2 0)),(6,(vP 3 0))]))
abbrev Ol:Nat × Option Ob:=(1,some (.cells 134 [(.ptr 4 0)]))
abbrev Nf:Nat × Option Ob:=(4,some (.cells 137 [(.own 6 false u0.clearing.events.length),(cB u0.clearing.cleared),(cI u0.clearing.millis),(cI u0.clearing.energy),(.own 7 false u0.clearing.state.closed.length),(.own 8 false u0.clearing.state.locked.length),(.own 9 false u0.clearing.state.badLink.length),(.own 10 false u0.clearing.state.on_.length),(.own 11 false u0.clearing.state.badSource.length),(.own 12 false u0.clearing.state.earthed.length),(.own 13 false u0.clearing.state.badBus.length),(cI u0.p.buses),(.d (vT u0)),(.d (uH u0)),(.d (vR u0)),(cI u0.bus),(.d (wH u0 u2)),(cI u0.total),(.mp 14),(cI u0.now)]))
abbrev NF:Nat × Option Ob:=(6,some (Kc u0))
abbrev Ny:Nat × Option Ob:=(7,some (SH u0))
abbrev NM:Nat × Option Ob:=(8,some (Uw u0))
abbrev M6:Nat × Option Ob:=(9,some (U5 u0))
abbrev Nt:Nat × Option Ob:=(10,some (UA u0))
abbrev OJ:Nat × Option Ob:=(11,some (VH u0))
abbrev Oe:Nat × Option Ob:=(12,some (Pm u0))
abbrev Nv:Nat × Option Ob:=(13,some (V3 u0))
abbrev Od:Nat × Option Ob:=(14,some (ada u0))
end
def iI (u1:Int) (u0:Machine) (u2:Bool):(List Int)→Exit→St→Prop:=
  fun r=>bn TT [] (.gL []) [Jm,Ol,(GN u1),(3,some (.cells 40 [(.own 15 false r.length)])),(Nf u0 u2),(5,none),(NF u0),(Ny u0),(NM u0),(M6 u0),(Nt u0),(OJ u0),(Oe u0),(Nv u0),(Od u0),(15,some (aG 3 1 (aA .i64) r))]
section
variable (u2:Int) (u1:(List Int)) (u0:Machine) (u3:Bool)
abbrev K7:List (Nat × Option Ob):=[Jm,Ol,(GN u2),(3,some (.cells 40 [(.own 31 false u1.length)])),(Nf u0 u3),(5,none),(NF u0),(Ny u0),(NM u0),(M6 u0),(Nt u0),(OJ u0),(Oe u0),(Nv u0),(Od u0),(31,some (yQ u1))]
end
def kK (u2:Int) (u0:Machine) (u3:Bool):((List Int) × Int)→St:=
  fun zz=>match zz with|(u1,u4)=> ⟨(ai7 u0 u4),(K7 u2 u1 u0 u3)⟩
def kL (u1:Int) (u0:Machine) (u2:Bool):(List Int)→St:=
  fun o601=> ⟨[],[Jm,Ol,(GN u1),(3,some (.cells 40 [(.own 31 false o601.length)])),(Nf u0 u2),(5,none),(NF u0),(Ny u0),(NM u0),(M6 u0),(Nt u0),(OJ u0),(Oe u0),(Nv u0),(Od u0),(31,some (aG 3 1 (aA .i64) o601))]⟩
def rM (u0:Int) (u1:Machine) (u2:Bool):(aS ((List Int) × Int) (Ex (List Int) (List Int)))→Exit→St→Prop:=
  LQ 0 [] (kK u0 u1 u2) (kL u0 u1 u2) (iI u0 u1 u2)
section
variable (u2:Int) (o_:(List Int)) (u0:Machine) (u3:Bool) (u1:Int) (u4:(List Int)) (u5:(List Int))
abbrev ai6:List (Nat × Option Ob):=[Jm,Ol,(GN u2),(3,some (.cells 40 [(.own 5 false o_.length)])),(Nf u0 u3),(5,some (yQ o_)),(NF u0),(Ny u0),(NM u0),(M6 u0),(Nt u0),(OJ u0),(Oe u0),(Nv u0),(Od u0)]
abbrev acz:St:=⟨(acv u0 u1),(K7 u2 u4 u0 u3)⟩
abbrev ab2:List (Nat × Option Ob):=[Jm,Ol,(GN u2),(3,some (.cells 40 [(.own 35 false u5.length)])),(Nf u0 u3),(5,none),(NF u0),(Ny u0),(NM u0),(M6 u0),(Nt u0),(OJ u0),(Oe u0),(Nv u0),(Od u0),(35,some (yQ u5))]
abbrev aeQ:List (Nat × Option Ob):=[Jm,(GN u2),(3,some (.cells 40 [(.own 35 false u5.length)])),(31,none),(35,some (yQ u5))]
end
theorem sj (u2:Int) (o_:(List Int)) (u0:Machine) (u3:Bool) {r:(List Int)} (h:dZ u2 o_ u0 u3=some r):Fn Try.prog 153 [(.one (.yl 0)),(.one (.ptr 1 0))] (ai6 u2 o_ u0 u3) (.gL []) [Jm,Ol,(GN u2),(3,some (.cells 40 [(.own 15 false r.length)])),(Nf u0 u3),(5,none),(NF u0),(Ny u0),(NM u0),(M6 u0),(Nt u0),(OJ u0),(Oe u0),(Nv u0),(Od u0),(15,some (aG 3 1 (aA .i64) r))]:=by
 refine fN tT Try.func153 rfl rfl fun B=> ?_
 show bJ _ _ _ _ _ _ ((iI u2 u0 u3) r) _
 unfold dZ at h
 refine sz tT ⟨(aaM u0),(ai6 u2 o_ u0 u3)⟩ {} [] ?_
 refine bE h fun y hy h=> ?_
 refine aI (.trans (bG.pI (E0:=40) (cs:=[(.own 5 false o_.length)]) (nn:=false) (len:=o_.length) (E:=3) (esz:=1) (n:=o_.length) (el:=au (aA .i64) o_) (p:=3) (q:=0) (b:=5) (b':=36) (by kernel_rfl) (by kernel_rfl) (by kernel_rfl) (by kernel_rfl)) (.trans (fz ⟨(aaM u0),[Jm,Ol,(GN u2),(3,some (.cells 40 [(.own 36 false o_.length)])),(Nf u0 u3),(5,none),(NF u0),(Ny u0),(NM u0),(M6 u0),(Nt u0),(OJ u0),(Oe u0),(Nv u0),(Od u0),(36,some (yQ o_))]⟩ []) (bG.fin (st':=⟨(aaM u0),(K7 u2 o_ u0 u3)⟩) (cs:=[]) ⟨[],[(0,0),(1,1),(2,2),(3,3),(4,4),(5,5),(6,6),(7,7),(8,8),(9,9),(10,10),(11,11),(12,12),(13,13),(14,14),(36,31)]⟩ [0,1,11,12,13] (by kernel_rfl) trivial))) ?_
 refine aL [] (kK u2 u0 u3) (kL u2 u0 u3) (iI u2 u0 u3) hy (fun s f h=> ?_) ?_
 ·clear hy
  show bJ _ _ _ _ _ _ ((rM u2 u0 u3) f) _
  unfold dm at h
  obtain⟨u4,u1⟩:=s
  refine sz tT ⟨(aht u0 u1),(K7 u2 u4 u0 u3)⟩ {} [] ?_
  refine aQ ?_
  refine bI h (fun hb3 h=> ?_) (fun hb3 h=> ?_)
  ·refine ct hb3 ?_
   refine aP (aQ (aB (aQ (aO h fun a1 h=> ?_))))
   refine rg tT ⟨(aim u0 u1),(K7 u2 u4 u0 u3)⟩ [_] {fr:=[(3,34)] } [34] ⟨a1,trivial⟩ ?_
   refine aQ (aQ (aO h fun⟨a1,a2⟩ h=> ?_))
   refine rg tT ⟨(ae8 u0 u1),(K7 u2 u4 u0 u3)⟩ (agb u0 u1) {yb:=[(3,(QW u0 u1)),(15,(Nl u0 u1))] } [] (ae ⟨(fun hg=> ⟨(a1 (aZ hg)),trivial⟩),rfl,(fun hg=> ⟨((fun hq=>tL (a1 hq)) (aZ hg)),trivial⟩),(ae (ae ⟨(fun hg=> ⟨(a2 (aZ hg)),trivial⟩),rfl,(fun hg=> ⟨((fun hq=>tL (a2 hq)) (aZ hg)),trivial⟩),rfl,trivial⟩))⟩) ?_
   refine bI h (fun hb2 h=> ?_) (fun hb2 h=> ?_)
   ·refine ct hb2 ?_
    refine aX (rz tT (acz u2 u0 u3 u1 u4) {} [] ?_)
    obtain rfl:=oi h
    exact lN
   ·refine cf hb2 ?_
    refine aP (aQ (bE h fun r_ hr_ h=> ?_))
    refine aO h fun a1 h=> ?_
    have q1:=q8 (at' u0.p.links u1.toNat) (at' u0.amps u1.toNat) hr_
    refine dg tT mX ⟨(ahd u0 u1 r_),(K7 u2 u4 u0 u3)⟩ [_,_] {an:=[(8,cA q1 [])] } [] ⟨a1,q1,trivial⟩ ?_
    refine aQ ?_
    refine bI h (fun hb h=> ?_) (fun hb h=> ?_)
    ·skip
     refine bE h fun u5 hr_1 h=> ?_
     refine ri tT ⟨(aje u0 u1 r_),(ab2 u2 u0 u3 u5)⟩ [r_.2=true,r_.2=true,r_.2=true,r_.2=true,r_.2=true,r_.2=true,r_.2=true,r_.2=true,gP (iD [(1,true)]) [(1,true)]→All [qZ [some .i64] 1 1 u0.since.length (DL (aA .i64) u0.since) (FU (aA .i64) u0.since) [(.int .i64 u1)] [(.d (.int .i64 0))] (dh iK u1 u0.since).isSome [(cI ((dh iK u1 u0.since).getD 0))]],r_.2=true,r_.2=true,r_.2=true,gP (iD [(1,true)]) [(1,true)]→All [Yl Try.prog 0 [(sI u1),(sI (Zz u0 u1 r_))] [Jm,(GN u2),(3,some (.cells 40 [(.own 31 false u4.length)])),(31,some (yQ u4))] (vB true) (aeQ u2 u5)],gP (iD [(1,true)]) [(1,true)],r_.2=true,r_.2=true] {yb:=[(1,true)],an:=[(9, .look (dh iK u1 u0.since).isSome [(cI ((dh iK u1 u0.since).getD 0))]),(12, .call [0,2,3,31] (vB true) (aeQ u2 u5))] } [] ⟨(hb),(hb),(hb),(hb),(hb),(hb),(hb),(hb),(fun hg=> ⟨(qN (fun _=>rfl) (fun _ _=>rfl) u0.since u1 0 rfl rfl rfl),trivial⟩),(hb),(hb),(hb),(fun hg=> ⟨(yK [(1,2),(1,3),(1,31),(4,35)] (rY u1 (Zz u0 u1 r_) u2 u4 hr_1)),trivial⟩),(⟨rfl,trivial⟩),(hb),(hb),trivial⟩ (bG.le (st':=⟨(ahx u0 u1),(ab2 u2 u0 u3 u5)⟩) ⟨⟨tR,tR,tR,tR,tR,⟨_,rfl,fC.v (jw.one (bL.of (congrArg (fun b=>CV.d (.bool b)) (XY hb))))⟩,trivial⟩,(.refl _)⟩) ?_
     refine bI h (fun hb1 h=> ?_) (fun hb1 h=> ?_)
     ·refine ct hb1 ?_
      refine aI (bG.fin (st':=⟨[],[Jm,Ol,(GN u2),(3,some (.cells 40 [(.own 15 false u5.length)])),(Nf u0 u3),(5,none),(NF u0),(Ny u0),(NM u0),(M6 u0),(Nt u0),(OJ u0),(Oe u0),(Nv u0),(Od u0),(15,some (yQ u5))]⟩) (cs:=[]) ⟨[],[(0,0),(1,1),(2,2),(3,3),(4,4),(5,5),(6,6),(7,7),(8,8),(9,9),(10,10),(11,11),(12,12),(13,13),(14,14),(35,15)]⟩ [] (by kernel_rfl) trivial) ?_
      refine aR ?_
      obtain rfl:=oi h
      exact lR dF (dM 0) dB (bn.mk (.inr rfl) (p:=[]) (l:=[]) (by kernel_rfl) trivial (fC.refl _) (hN 5 ⟨rfl,trivial,(.refl _)⟩))
     ·refine cf hb1 ?_
      refine aP (ri tT ⟨(acv u0 u1),(ab2 u2 u0 u3 u5)⟩ [] {} [] trivial (bG.fin (st':=(acz u2 u0 u3 u1 u5)) (cs:=[]) ⟨[],[(0,0),(1,1),(2,2),(3,3),(4,4),(5,5),(6,6),(7,7),(8,8),(9,9),(10,10),(11,11),(12,12),(13,13),(14,14),(35,31)]⟩ [0,1,11,12,13] (by kernel_rfl) trivial) ?_)
      obtain rfl:=oi h
      exact lN
    ·skip
     refine ri tT ⟨(aeN u0 u1 r_),(K7 u2 u4 u0 u3)⟩ [r_.2=false, ¬ gP (iD [(1,false)]) [(1,true)],r_.2=false, ¬ gP (iD [(1,false)]) [(1,true)],r_.2=false, ¬ gP (iD [(1,false)]) [(1,true)],r_.2=false, ¬ gP (iD [(1,false)]) [(1,true)],r_.2=false, ¬ gP (iD [(1,false)]) [(1,true)],r_.2=false, ¬ gP (iD [(1,false)]) [(1,true)],r_.2=false, ¬ gP (iD [(1,false)]) [(1,true)],r_.2=false, ¬ gP (iD [(1,false)]) [(1,true)],r_.2=false, ¬ gP (iD [(1,false)]) [(1,true)],r_.2=false, ¬ gP (iD [(1,false)]) [(1,true)],r_.2=false, ¬ gP (iD [(1,false)]) [(1,true)],r_.2=false, ¬ gP (iD [(1,false)]) [(1,true)],r_.2=false] {yb:=[(1,false)],an:=[(2, .skip),(3, .skip),(4, .skip),(5, .skip),(6, .skip),(7, .skip),(8, .skip),(9, .skip),(10, .skip),(11, .skip),(12, .skip),(13, .skip)] } [] ⟨(hb),((fun h=>Bool.noConfusion (show false=true from h.1))),(hb),((fun h=>Bool.noConfusion (show false=true from h.1))),(hb),((fun h=>Bool.noConfusion (show false=true from h.1))),(hb),((fun h=>Bool.noConfusion (show false=true from h.1))),(hb),((fun h=>Bool.noConfusion (show false=true from h.1))),(hb),((fun h=>Bool.noConfusion (show false=true from h.1))),(hb),((fun h=>Bool.noConfusion (show false=true from h.1))),(hb),((fun h=>Bool.noConfusion (show false=true from h.1))),(hb),((fun h=>Bool.noConfusion (show false=true from h.1))),(hb),((fun h=>Bool.noConfusion (show false=true from h.1))),(hb),((fun h=>Bool.noConfusion (show false=true from h.1))),(hb),((fun h=>Bool.noConfusion (show false=true from h.1))),(hb),trivial⟩ (bG.le (st':=⟨(ajJ u0 u1),(K7 u2 u4 u0 u3)⟩) ⟨⟨tR,tR,tR,tR,tR,⟨_,rfl,fC.v (jw.one (bL.of (congrArg (fun b=>CV.d (.bool b)) (WZ hb))))⟩,trivial⟩,(.refl _)⟩) ?_
     refine cn (aP (rz tT (acz u2 u0 u3 u1 u4) {} [] ?_))
     obtain rfl:=oi h
     exact lN
  ·refine cf hb3 ?_
   refine aI (fz ⟨[],(K7 u2 u4 u0 u3)⟩ []) ?_
   refine aX ?_
   obtain rfl:=oi h
   exact lB
 ·clear hy
  cases y with
  |brk z=>
   obtain⟨o601,rfl⟩: ∃q,q=z:=⟨_,rfl⟩
   unfold fZ
   refine⟨_,(bG.fin (st':=⟨[],[Jm,Ol,(GN u2),(3,some (.cells 40 [(.own 15 false o601.length)])),(Nf u0 u3),(5,none),(NF u0),(Ny u0),(NM u0),(M6 u0),(Nt u0),(OJ u0),(Oe u0),(Nv u0),(Od u0),(15,some (aG 3 1 (aA .i64) o601))]⟩) (cs:=[]) ⟨[],[(0,0),(1,1),(2,2),(3,3),(4,4),(5,5),(6,6),(7,7),(8,8),(9,9),(10,10),(11,11),(12,12),(13,13),(14,14),(31,15)]⟩ [] (by kernel_rfl) trivial), ?_⟩
   obtain rfl:=oi h
   exact bn.mk (.inl rfl) (p:=[]) (l:=[]) (by kernel_rfl) trivial (fC.refl _) (hN 5 ⟨rfl,trivial,(.refl _)⟩)
  |ret v=>
   obtain rfl:=oi h
   unfold fZ
   intro e st hn ha hR
   cases e with
   |normal=>exact absurd rfl hn
   |exit id=>exact hR
   |goto l=>exact hR
   |ret=>exact hR
   |panic c=>exact hR
   |outgrown=>exact hR
def jX (u0:Machine):(Bool × Machine × Bool)→Exit→St→Prop:=
  fun r=>bn TT [.tmp 2] (vB r.1) [(0,some (.cells 137 [(.own 10 false r.2.1.clearing.events.length),(cB r.2.1.clearing.cleared),(cI r.2.1.clearing.millis),(cI r.2.1.clearing.energy),(.own 11 false r.2.1.clearing.state.closed.length),(.own 3 false u0.clearing.state.locked.length),(.own 4 false u0.clearing.state.badLink.length),(.own 5 false u0.clearing.state.on_.length),(.own 6 false u0.clearing.state.badSource.length),(.own 7 false u0.clearing.state.earthed.length),(.own 8 false u0.clearing.state.badBus.length),(cI r.2.1.p.buses),(.d (aC none 5 Source.cell r.2.1.p.sources)),(.d (aC none 6 Link.cell r.2.1.p.links)),(.d (aC none 4 aJ.cell r.2.1.p.racks)),(cI r.2.1.bus),(.d (aC (some r.2.2) 1 (aA .i64) r.2.1.amps)),(cI r.2.1.total),(.mp 9),(cI r.2.1.now)])),(1,none),(2,none),(gV u0),(gu u0),(fP u0),(fI u0),(fB u0),(eZ u0),(jO u0),(10,some (aG 56 2 Event.cell r.2.1.clearing.events)),(11,some (aG 4 1 ah r.2.1.clearing.state.closed))]
section
variable (u1:Int) (u0:Machine) (u2:(List Int)) (u4:Int) (o0:(List Event)) (o4:(List Bool)) (u3:Bool)
abbrev UM:Nat × TV:=(3,(vD (nN [(.int .i64 (if u1<u0.now then u0.now else u1))] 0)))
abbrev ai8:List (Nat × TV):=[(0,(vP 0 0)),(UM u1 u0),(90,(vO 38 false u2.length)),(91,(vI (u2.length:Int))),(92,(vI u4))]
abbrev Lm:=(IntKind.wrap .i64 (u0.clearing.energy+(IntKind.wrap .i64 ((IntKind.wrap .i64 (Int.tdiv (IntKind.wrap .i64 ((IntKind.wrap .i64 (u0.total*u0.total))+999)) 1000))*(IntKind.wrap .i64 ((if u1<u0.now then u0.now else u1) - u0.now))))))
abbrev acZ:Nat × Option Ob:=(0,some (.cells 137 [(.own 45 false o0.length),(cB u0.clearing.cleared),(cI (if u1<u0.now then u0.now else u1)),(cI (Lm u1 u0)),(.own 39 false o4.length),(.own 3 false u0.clearing.state.locked.length),(.own 4 false u0.clearing.state.badLink.length),(.own 5 false u0.clearing.state.on_.length),(.own 6 false u0.clearing.state.badSource.length),(.own 7 false u0.clearing.state.earthed.length),(.own 8 false u0.clearing.state.badBus.length),(cI u0.p.buses),(.d (vT u0)),(.d (uH u0)),(.d (vR u0)),(cI u0.bus),(.d (wH u0 u3)),(cI u0.total),(.mp 9),(cI (if u1<u0.now then u0.now else u1))]))
abbrev Gt:Nat × Option Ob:=(38,some (yQ u2))
abbrev Pt:Nat × Option Ob:=(39,some (aG 4 1 ah o4))
abbrev acU:List (Nat × Option Ob):=[(acZ u1 u0 o0 o4 u3),(1,none),(jH u0),(gV u0),(gu u0),(fP u0),(fI u0),(fB u0),(eZ u0),(jO u0),(Gt u2),(Pt o4),(45,some (aG 56 2 Event.cell o0))]
end
def oq (u0:Machine) (u3:Bool) (u1:Int) (u2:(List Int)):((List Event) × (List Bool) × Int)→St:=
  fun zz=>match zz with|(o0,o4,u4)=> ⟨(ai8 u1 u0 u2 u4),(acU u1 u0 u2 o0 o4 u3)⟩
section
variable (u2:(List Event)) (u0:Machine) (u1:Int) (u3:(List Bool)) (u4:Bool)
abbrev aiO:List (Nat × Option Ob):=[(acZ u1 u0 u2 u3 u4),(1,none),(jH u0),(gV u0),(gu u0),(fP u0),(fI u0),(fB u0),(eZ u0),(jO u0),(Pt u3),(45,some (aG 56 2 Event.cell u2))]
abbrev aib:St:=⟨[],(aiO u2 u0 u1 u3 u4)⟩
end
def nX (u0:Machine) (u4:Bool) (u1:Int):((List Event) × (List Bool))→St:=
  fun zz=>match zz with|(u2,u3)=>(aib u2 u0 u1 u3 u4)
def xS (u0:Machine) (u1:Bool) (u2:Int) (u3:(List Int)):(aS ((List Event) × (List Bool) × Int) (Ex ((List Event) × (List Bool)) (Bool × Machine × Bool)))→Exit→St→Prop:=
  LQ 4 [] (oq u0 u1 u2 u3) (nX u0 u1 u2) (jX u0)
section
variable (u0:Machine) (u3:Bool) (u1:Int) (u2:(List Int)) (u5:(List Bool)) (u4:Int) (o4:(List Bool)) (o0:(List Event)) (u6:(List Event)) (u7:(List Bool))
abbrev agP:List (Nat × TV):=[(0,(vP 0 0)),(3,(vP 29 0)),(12,(.v (.one (.fn 153 0 1 (Cb [(.ptr 30 0)])))))]
abbrev ZR:Nat × Option Ob:=(30,some (.cells 134 [(.ptr 0 0)]))
abbrev afE:List CV:=[(.own 32 false u0.clearing.events.length),(cB u0.clearing.cleared),(cI u0.clearing.millis),(cI u0.clearing.energy),(.own 2 false u0.clearing.state.closed.length),(.own 3 false u0.clearing.state.locked.length),(.own 4 false u0.clearing.state.badLink.length),(.own 5 false u0.clearing.state.on_.length),(.own 6 false u0.clearing.state.badSource.length),(.own 7 false u0.clearing.state.earthed.length),(.own 8 false u0.clearing.state.badBus.length),(cI u0.p.buses),(.d (vT u0)),(.d (uH u0)),(.d (vR u0)),(cI u0.bus),(.d (wH u0 u3)),(cI u0.total),(.mp 9),(cI u0.now)]
abbrev Na:Nat × Option Ob:=(29,some (.cells 3 [(cI (if u1<u0.now then u0.now else u1))]))
abbrev aaj:List (Nat × TV):=[(0,(vP 0 0)),(3,(vP 29 0)),(6,(vP 34 0))]
abbrev adO:Nat × Option Ob:=(34,some (.cells 40 [(.own 35 false (([]:List Int).length))]))
abbrev ab9:Nat × Option Ob:=(35,some (aG 3 1 (aA .i64) ([]:List Int)))
abbrev agY:List (Nat × TV):=[(0,(vP 0 0)),(3,(vP 29 0)),(6,(vP 34 0)),(32,(.v (.one (.fn 153 0 1 (Cb [(.ptr 36 0)])))))]
abbrev aaO:Nat × Option Ob:=(36,some (.cells 134 [(.ptr 0 0)]))
abbrev Xz:Nat × Option Ob:=(34,some (.cells 40 [(.own 38 false u2.length)]))
abbrev agp:List (Nat × TV):=[(0,(vP 0 0)),(UM u1 u0),(6,(vP 34 0))]
abbrev aiF:List CV:=[(.own 1 false u0.clearing.events.length),(cB u0.clearing.cleared),(cI (if u1<u0.now then u0.now else u1)),(cI (Lm u1 u0)),(.own 39 false u5.length),(.own 3 false u0.clearing.state.locked.length),(.own 4 false u0.clearing.state.badLink.length),(.own 5 false u0.clearing.state.on_.length),(.own 6 false u0.clearing.state.badSource.length),(.own 7 false u0.clearing.state.earthed.length),(.own 8 false u0.clearing.state.badBus.length),(cI u0.p.buses),(.d (vT u0)),(.d (uH u0)),(.d (vR u0)),(cI u0.bus),(.d (wH u0 u3)),(cI u0.total),(.mp 9),(cI (if u1<u0.now then u0.now else u1))]
abbrev ajQ:Nat × Option Ob:=(0,some (.cells 137 (aiF u0 u3 u1 u5)))
abbrev acB:List (Nat × TV):=[(0,(vP 0 0)),(UM u1 u0),(90,(vO 38 false u2.length)),(91,(vI (u2.length:Int))),(92,(vI 0))]
abbrev ado:List (Nat × TV):=[(0,(vP 0 0)),(UM u1 u0),(10,(vI (at' u2 u4.toNat))),(90,(vO 38 false u2.length)),(91,(vI (u2.length:Int))),(92,(vI u4))]
abbrev acJ:Nat × Option Ob:=(39,some (aG 4 1 ah (o4.set ((at' u2 u4.toNat).toNat) false)))
abbrev UB:=(⟨(if u1<u0.now then u0.now else u1),(at' u2 u4.toNat)⟩:Event)
abbrev Q8:=(o0++[(UB u0 u1 u2 u4)])
abbrev afs:List (Nat × Option Ob):=[(0,some (.cells 137 [(.own 49 false ((Q8 u0 u1 u2 u4 o0).length)),(cB u0.clearing.cleared),(cI (if u1<u0.now then u0.now else u1)),(cI (Lm u1 u0)),(.own 39 false ((o4.set ((at' u2 u4.toNat).toNat) false).length)),(.own 3 false u0.clearing.state.locked.length),(.own 4 false u0.clearing.state.badLink.length),(.own 5 false u0.clearing.state.on_.length),(.own 6 false u0.clearing.state.badSource.length),(.own 7 false u0.clearing.state.earthed.length),(.own 8 false u0.clearing.state.badBus.length),(cI u0.p.buses),(.d (vT u0)),(.d (uH u0)),(.d (vR u0)),(cI u0.bus),(.d (wH u0 u3)),(cI u0.total),(.mp 9),(cI (if u1<u0.now then u0.now else u1))])),(1,none),(jH u0),(gV u0),(gu u0),(fP u0),(fI u0),(fB u0),(eZ u0),(jO u0),(Gt u2),(acJ u2 u4 o4),(49,some (aG 56 2 Event.cell (Q8 u0 u1 u2 u4 o0)))]
abbrev ab4:=(au Event.cell [(UB u0 u1 u2 u4)])
abbrev aff:List (Nat × TV):=[(0,(vP 0 0)),(UM u1 u0),(90,(vO 38 false u2.length)),(91,(vI (u2.length:Int))),(92,(uM u4))]
abbrev agW:Nat × Option Ob:=(0,some (.cells 137 [(.own 10 false u6.length),(cB u0.clearing.cleared),(cI (if u1<u0.now then u0.now else u1)),(cI (Lm u1 u0)),(.own 11 false u7.length),(.own 3 false u0.clearing.state.locked.length),(.own 4 false u0.clearing.state.badLink.length),(.own 5 false u0.clearing.state.on_.length),(.own 6 false u0.clearing.state.badSource.length),(.own 7 false u0.clearing.state.earthed.length),(.own 8 false u0.clearing.state.badBus.length),(cI u0.p.buses),(.d (vT u0)),(.d (uH u0)),(.d (vR u0)),(cI u0.bus),(.d (wH u0 u3)),(cI u0.total),(.mp 9),(cI (if u1<u0.now then u0.now else u1))]))
end
theorem xR (u0:Machine) (u3:Bool) {r:(Bool × Machine × Bool)} (h:dO u0 u3=some r):Fn Try.prog 107 [(.one (.ptr 0 0))] (Pp u0 u3) (vB r.1) [(0,some (.cells 137 [(.own 10 false r.2.1.clearing.events.length),(cB r.2.1.clearing.cleared),(cI r.2.1.clearing.millis),(cI r.2.1.clearing.energy),(.own 11 false r.2.1.clearing.state.closed.length),(.own 3 false u0.clearing.state.locked.length),(.own 4 false u0.clearing.state.badLink.length),(.own 5 false u0.clearing.state.on_.length),(.own 6 false u0.clearing.state.badSource.length),(.own 7 false u0.clearing.state.earthed.length),(.own 8 false u0.clearing.state.badBus.length),(cI r.2.1.p.buses),(.d (aC none 5 Source.cell r.2.1.p.sources)),(.d (aC none 6 Link.cell r.2.1.p.links)),(.d (aC none 4 aJ.cell r.2.1.p.racks)),(cI r.2.1.bus),(.d (aC (some r.2.2) 1 (aA .i64) r.2.1.amps)),(cI r.2.1.total),(.mp 9),(cI r.2.1.now)])),(1,none),(2,none),(gV u0),(gu u0),(fP u0),(fI u0),(fB u0),(eZ u0),(jO u0),(10,some (aG 56 2 Event.cell r.2.1.clearing.events)),(11,some (aG 4 1 ah r.2.1.clearing.state.closed))]:=by
 refine fN tT Try.func107 rfl rfl fun B=> ?_
 show bJ _ _ _ _ _ _ ((jX u0) r) _
 unfold dO at h
 refine sz tT ⟨[(0,(vP 0 0))],(Pp u0 u3)⟩ {} [] ?_
 refine sz tT ⟨[(0,(vP 0 0)),(3,(vP 29 0))],[(Bh u0 u3),(pE u0),(jH u0),(gV u0),(gu u0),(fP u0),(fI u0),(fB u0),(eZ u0),(jO u0),(29,some (.cells 3 [(cI (-1))]))]⟩ {fr:=[(0,29)] } [] ?_
 refine aQ (aQ (bE h fun r_ hr_ h=> ?_))
 have q0:=rk [(10,30)] (oC u0 u3 hr_)
 refine rg tT ⟨agP,[(Bh u0 u3),(pE u0),(jH u0),(gV u0),(gu u0),(fP u0),(fI u0),(fB u0),(eZ u0),(jO u0),(29,some (.cells 3 [(cI (-1))])),ZR]⟩ [_] {an:=[(1,cA q0 [0,1,2,3,4,5,6,7,8,9])] } [] ⟨q0,trivial⟩ ?_
 refine aB (bE h fun u1 hr_1 h=> ?_)
 refine vW 31 [(3,(vP 29 0))] [] [31,30,29,0,1,2,3,4,5,6,7,8,9] (.gL []) [(31,some (.loop bP 0 [(3,(vP 29 0))])),ZR,(29,some (.cells 3 [(cI u1)])),(Bh u0 u3),(pE u0),(jH u0),(gV u0),(gu u0),(fP u0),(fI u0),(fB u0),(eZ u0),(jO u0)] (.v (.one (.fn 153 0 1 (Cb [(.ptr 30 0)])))) 153 [] [(.ptr 30 0)] [(31,some (.loop bP 0 [(3,(vP 29 0))])),ZR,(29,some (.cells 3 [(cI (-1))])),(Bh u0 u3),(pE u0),(jH u0),(gV u0),(gu u0),(fP u0),(fI u0),(fB u0),(eZ u0),(jO u0)] [(.one (.yl 31)),(.one (.ptr 30 0))] bP 0 [(3,(vP 29 0))] (by kernel_rfl) (by kernel_rfl) (by kernel_rfl) (by kernel_rfl) (by kernel_rfl) (by kernel_rfl) (by kernel_rfl) (rK [(0,31),(1,30),(2,29),(3,0),(4,1),(5,2),(6,3),(7,4),(8,5),(9,6),(10,7),(11,8),(12,9)] (ve (-1) u0 u3 hr_1)) (by kernel_rfl) rfl (M7.zero rfl) (bG.fin (st':=⟨agP,[(Bh u0 u3),(pE u0),(jH u0),(gV u0),(gu u0),(fP u0),(fI u0),(fB u0),(eZ u0),(jO u0),(29,some (.cells 3 [(cI u1)])),ZR]⟩) (cs:=[]) ⟨[],[(0,0),(1,1),(2,2),(3,3),(4,4),(5,5),(6,6),(7,7),(8,8),(9,9),(29,29),(30,30)]⟩ [0,3,12] (by kernel_rfl) trivial) ?_
 refine aQ (sz tT ⟨[(0,(vP 0 0)),(3,(vP 29 0)),(24,(vB (decide (u1<0))))],[(Bh u0 u3),(pE u0),(jH u0),(gV u0),(gu u0),(fP u0),(fI u0),(fB u0),(eZ u0),(jO u0),(29,some (.cells 3 [(cI u1)]))]⟩ {} [] ?_)
 refine bI h (fun hb1 h=> ?_) (fun hb1 h=> ?_)
 ·refine ct hb1 ?_
  refine sz tT ⟨[(2,(vB false))],(Pp u0 u3)⟩ {} [] ?_
  refine aI (.trans (bG.pI (E0:=137) (cs:=(acY u0 u3)) (nn:=false) (len:=u0.clearing.events.length) (E:=56) (esz:=2) (n:=u0.clearing.events.length) (el:=au Event.cell u0.clearing.events) (p:=0) (q:=0) (b:=1) (b':=32) (by kernel_rfl) (by kernel_rfl) (by kernel_rfl) (by kernel_rfl)) (.trans (fz ⟨[(2,(vB false))],[(0,some (.cells 137 (afE u0 u3))),(1,none),(jH u0),(gV u0),(gu u0),(fP u0),(fI u0),(fB u0),(eZ u0),(jO u0),(32,some (Kc u0))]⟩ []) (.trans (bG.pI (E0:=137) (cs:=(afE u0 u3)) (nn:=false) (len:=u0.clearing.state.closed.length) (E:=4) (esz:=1) (n:=u0.clearing.state.closed.length) (el:=au ah u0.clearing.state.closed) (p:=0) (q:=4) (b:=2) (b':=33) (by kernel_rfl) (by kernel_rfl) (by kernel_rfl) (by kernel_rfl)) (.trans (fz ⟨[(2,(vB false))],[(0,some (.cells 137 [(.own 32 false u0.clearing.events.length),(cB u0.clearing.cleared),(cI u0.clearing.millis),(cI u0.clearing.energy),(.own 33 false u0.clearing.state.closed.length),(.own 3 false u0.clearing.state.locked.length),(.own 4 false u0.clearing.state.badLink.length),(.own 5 false u0.clearing.state.on_.length),(.own 6 false u0.clearing.state.badSource.length),(.own 7 false u0.clearing.state.earthed.length),(.own 8 false u0.clearing.state.badBus.length),(cI u0.p.buses),(.d (vT u0)),(.d (uH u0)),(.d (vR u0)),(cI u0.bus),(.d (wH u0 u3)),(cI u0.total),(.mp 9),(cI u0.now)])),(1,none),(2,none),(gV u0),(gu u0),(fP u0),(fI u0),(fB u0),(eZ u0),(jO u0),(32,some (Kc u0)),(33,some (SH u0))]⟩ []) (bG.fin (st':=⟨[(2,(vB false))],[(0,some (.cells 137 [(.own 10 false u0.clearing.events.length),(cB u0.clearing.cleared),(cI u0.clearing.millis),(cI u0.clearing.energy),(.own 11 false u0.clearing.state.closed.length),(.own 3 false u0.clearing.state.locked.length),(.own 4 false u0.clearing.state.badLink.length),(.own 5 false u0.clearing.state.on_.length),(.own 6 false u0.clearing.state.badSource.length),(.own 7 false u0.clearing.state.earthed.length),(.own 8 false u0.clearing.state.badBus.length),(cI u0.p.buses),(.d (vT u0)),(.d (uH u0)),(.d (vR u0)),(cI u0.bus),(.d (wH u0 u3)),(cI u0.total),(.mp 9),(cI u0.now)])),(1,none),(2,none),(gV u0),(gu u0),(fP u0),(fI u0),(fB u0),(eZ u0),(jO u0),(10,some (Kc u0)),(11,some (SH u0))]⟩) (cs:=[]) ⟨[],[(0,0),(1,1),(2,2),(3,3),(4,4),(5,5),(6,6),(7,7),(8,8),(9,9),(32,10),(33,11)]⟩ [2] (by kernel_rfl) trivial))))) ?_
  refine aR ?_
  obtain rfl:=oi h
  exact rh [(sB false)] (.refl _) ⟨rfl, .refl _,⟨rfl,trivial,⟨rfl,trivial,⟨rfl, .refl _,⟨rfl, .refl _,⟨rfl, .refl _,⟨rfl, .refl _,⟨rfl, .refl _,⟨rfl, .refl _,⟨rfl, .refl _,⟨rfl, .refl _,⟨rfl, .refl _,trivial⟩⟩⟩⟩⟩⟩⟩⟩⟩⟩⟩⟩
 ·refine cf hb1 ?_
  refine aP (sd tT mX ⟨[(0,(vP 0 0)),(3,(vP 29 0))],[(Bh u0 u3),(pE u0),(jH u0),(gV u0),(gu u0),(fP u0),(fI u0),(fB u0),(eZ u0),(jO u0),(Na u0 u1)]⟩ [] {} [] trivial ?_)
  refine si tT ⟨aaj,[(Bh u0 u3),(pE u0),(jH u0),(gV u0),(gu u0),(fP u0),(fI u0),(fB u0),(eZ u0),(jO u0),(Na u0 u1),(34,some (.cells 40 [(.d nS)]))]⟩ [] {fr:=[(0,34)] } [] trivial (.trans (bG.d9 (E:=0) (esz:=0) (E0:=40) (cs:=[(.d nS)]) (p:=34) (q:=0) (b:=35) (esz0:=0) (el0:=fun _ _=> .nilp) (ob:= .arr 3 1 0 (au (aA .i64) ([]:List Int))) (fun _ _ _ _ h=> .inl ⟨h,rfl⟩) (by kernel_rfl) (by kernel_rfl) (by kernel_rfl)) (.trans (fz ⟨aaj,[(Bh u0 u3),(pE u0),(jH u0),(gV u0),(gu u0),(fP u0),(fI u0),(fB u0),(eZ u0),(jO u0),(Na u0 u1),(34,some (.cells 40 [(.own 35 false 0)])),(35,some (.arr 3 1 0 (au (aA .i64) ([]:List Int))))]⟩ []) (bG.le (st':=⟨aaj,[(Bh u0 u3),(pE u0),(jH u0),(gV u0),(gu u0),(fP u0),(fI u0),(fB u0),(eZ u0),(jO u0),(Na u0 u1),adO,ab9]⟩) ⟨⟨tR,tR,tR,trivial⟩,(hN 11 ⟨rfl,fV ⟨cW,trivial⟩,⟨rfl,oW,trivial⟩⟩)⟩))) ?_
  refine aQ (aQ (bE h fun u8 hr_2 h=> ?_))
  have q0:=rk [(10,36)] (oC u0 u3 hr_2)
  refine rg tT ⟨agY,[(Bh u0 u3),(pE u0),(jH u0),(gV u0),(gu u0),(fP u0),(fI u0),(fB u0),(eZ u0),(jO u0),(Na u0 u1),adO,ab9,aaO]⟩ [_] {an:=[(1,cA q0 [0,1,2,3,4,5,6,7,8,9])] } [] ⟨q0,trivial⟩ ?_
  refine aB (bE h fun u2 hr_3 h=> ?_)
  refine vW 37 [(3,(vP 29 0)),(6,(vP 34 0))] [] [37,36,29,34,0,35,1,2,3,4,5,6,7,8,9] (.gL []) [(37,some (.loop bQ 0 [(3,(vP 29 0)),(6,(vP 34 0))])),aaO,(Na u0 u1),(Xz u2),(Bh u0 u3),(35,none),(pE u0),(jH u0),(gV u0),(gu u0),(fP u0),(fI u0),(fB u0),(eZ u0),(jO u0),(Gt u2)] (.v (.one (.fn 153 0 1 (Cb [(.ptr 36 0)])))) 153 [] [(.ptr 36 0)] [(37,some (.loop bQ 0 [(3,(vP 29 0)),(6,(vP 34 0))])),aaO,(Na u0 u1),adO,(Bh u0 u3),ab9,(pE u0),(jH u0),(gV u0),(gu u0),(fP u0),(fI u0),(fB u0),(eZ u0),(jO u0)] [(.one (.yl 37)),(.one (.ptr 36 0))] bQ 0 [(3,(vP 29 0)),(6,(vP 34 0))] (by kernel_rfl) (by kernel_rfl) (by kernel_rfl) (by kernel_rfl) (by kernel_rfl) (by kernel_rfl) (by kernel_rfl) (rK [(0,37),(1,36),(2,29),(3,34),(4,0),(5,35),(6,1),(7,2),(8,3),(9,4),(10,5),(11,6),(12,7),(13,8),(14,9),(15,38)] (sj (if u1<u0.now then u0.now else u1) ([]:List Int) u0 u3 hr_3)) (by kernel_rfl) rfl (M7.zero rfl) (bG.fin (st':=⟨agY,[(Bh u0 u3),(pE u0),(jH u0),(gV u0),(gu u0),(fP u0),(fI u0),(fB u0),(eZ u0),(jO u0),(Na u0 u1),(Xz u2),(35,none),aaO,(Gt u2)]⟩) (cs:=[]) ⟨[],[(0,0),(1,1),(2,2),(3,3),(4,4),(5,5),(6,6),(7,7),(8,8),(9,9),(29,29),(34,34),(35,35),(36,36),(38,38)]⟩ [0,3,6,32] (by kernel_rfl) trivial) ?_
  refine aQ (aO h fun a1 h=> ?_)
  refine dg tT mX ⟨aaj,[(0,some (.cells 137 [(.own 1 false u0.clearing.events.length),(cB u0.clearing.cleared),(cI u0.clearing.millis),(cI (Lm u1 u0)),(.own 2 false u0.clearing.state.closed.length),(.own 3 false u0.clearing.state.locked.length),(.own 4 false u0.clearing.state.badLink.length),(.own 5 false u0.clearing.state.on_.length),(.own 6 false u0.clearing.state.badSource.length),(.own 7 false u0.clearing.state.earthed.length),(.own 8 false u0.clearing.state.badBus.length),(cI u0.p.buses),(.d (vT u0)),(.d (uH u0)),(.d (vR u0)),(cI u0.bus),(.d (wH u0 u3)),(cI u0.total),(.mp 9),(cI u0.now)])),(pE u0),(jH u0),(gV u0),(gu u0),(fP u0),(fI u0),(fB u0),(eZ u0),(jO u0),(Na u0 u1),(Xz u2),(Gt u2)]⟩ [_] {} [] ⟨a1,trivial⟩ ?_
  refine sd tT mX ⟨(agp u0 u1),[(0,some (.cells 137 [(.own 1 false u0.clearing.events.length),(cB u0.clearing.cleared),(cI (if u1<u0.now then u0.now else u1)),(cI (Lm u1 u0)),(.own 2 false u0.clearing.state.closed.length),(.own 3 false u0.clearing.state.locked.length),(.own 4 false u0.clearing.state.badLink.length),(.own 5 false u0.clearing.state.on_.length),(.own 6 false u0.clearing.state.badSource.length),(.own 7 false u0.clearing.state.earthed.length),(.own 8 false u0.clearing.state.badBus.length),(cI u0.p.buses),(.d (vT u0)),(.d (uH u0)),(.d (vR u0)),(cI u0.bus),(.d (wH u0 u3)),(cI u0.total),(.mp 9),(cI (if u1<u0.now then u0.now else u1))])),(pE u0),(jH u0),(gV u0),(gu u0),(fP u0),(fI u0),(fB u0),(eZ u0),(jO u0),(Xz u2),(Gt u2)]⟩ [] {} [29] trivial ?_
  refine aQ (bE h fun u5 hr_4 h=> ?_)
  refine rg tT ⟨(agp u0 u1),[(ajQ u0 u3 u1 u5),(pE u0),(jH u0),(gV u0),(gu u0),(fP u0),(fI u0),(fB u0),(eZ u0),(jO u0),(Xz u2),(Gt u2),(Pt u5)]⟩ [Fn Try.prog 106 [(.one (.own 2 false u0.clearing.state.closed.length))] [(jH u0)] (vO 39 false u5.length) [(jH u0),(Pt u5)]] {an:=[(7, .call [2] (vO 39 false u5.length) [(jH u0),(Pt u5)])] } [] ⟨(Fn.Wp (args:=[(sD (aC none 1 ah u0.clearing.state.closed))]) (frz:=[2]) (p:=[u0.clearing.state.closed.length=u0.clearing.state.closed.length]) (rK [(0,39)] (aU u0.clearing.state.closed hr_4)) (by kernel_rfl) ⟨rfl,trivial⟩ (by kernel_rfl) ⟨(fun _ _=>rfl),trivial⟩ (by kernel_rfl)),trivial⟩ ?_
  refine aQ (sz tT ⟨(acB u0 u1 u2),[(ajQ u0 u3 u1 u5),(pE u0),(jH u0),(gV u0),(gu u0),(fP u0),(fI u0),(fB u0),(eZ u0),(jO u0),(Gt u2),(Pt u5)]⟩ {} [] ?_)
  refine bE h fun y hy h=> ?_
  refine aI (.trans (bG.pI (E0:=137) (cs:=(aiF u0 u3 u1 u5)) (nn:=false) (len:=u0.clearing.events.length) (E:=56) (esz:=2) (n:=u0.clearing.events.length) (el:=au Event.cell u0.clearing.events) (p:=0) (q:=0) (b:=1) (b':=50) (by kernel_rfl) (by kernel_rfl) (by kernel_rfl) (by kernel_rfl)) (.trans (fz ⟨(acB u0 u1 u2),[(0,some (.cells 137 [(.own 50 false u0.clearing.events.length),(cB u0.clearing.cleared),(cI (if u1<u0.now then u0.now else u1)),(cI (Lm u1 u0)),(.own 39 false u5.length),(.own 3 false u0.clearing.state.locked.length),(.own 4 false u0.clearing.state.badLink.length),(.own 5 false u0.clearing.state.on_.length),(.own 6 false u0.clearing.state.badSource.length),(.own 7 false u0.clearing.state.earthed.length),(.own 8 false u0.clearing.state.badBus.length),(cI u0.p.buses),(.d (vT u0)),(.d (uH u0)),(.d (vR u0)),(cI u0.bus),(.d (wH u0 u3)),(cI u0.total),(.mp 9),(cI (if u1<u0.now then u0.now else u1))])),(1,none),(jH u0),(gV u0),(gu u0),(fP u0),(fI u0),(fB u0),(eZ u0),(jO u0),(Gt u2),(Pt u5),(50,some (Kc u0))]⟩ []) (bG.fin (st':=⟨(acB u0 u1 u2),[(0,some (.cells 137 [(.own 45 false u0.clearing.events.length),(cB u0.clearing.cleared),(cI (if u1<u0.now then u0.now else u1)),(cI (Lm u1 u0)),(.own 39 false u5.length),(.own 3 false u0.clearing.state.locked.length),(.own 4 false u0.clearing.state.badLink.length),(.own 5 false u0.clearing.state.on_.length),(.own 6 false u0.clearing.state.badSource.length),(.own 7 false u0.clearing.state.earthed.length),(.own 8 false u0.clearing.state.badBus.length),(cI u0.p.buses),(.d (vT u0)),(.d (uH u0)),(.d (vR u0)),(cI u0.bus),(.d (wH u0 u3)),(cI u0.total),(.mp 9),(cI (if u1<u0.now then u0.now else u1))])),(1,none),(jH u0),(gV u0),(gu u0),(fP u0),(fI u0),(fB u0),(eZ u0),(jO u0),(Gt u2),(Pt u5),(45,some (Kc u0))]⟩) (cs:=[]) ⟨[],[(0,0),(1,1),(2,2),(3,3),(4,4),(5,5),(6,6),(7,7),(8,8),(9,9),(38,38),(39,39),(50,45)]⟩ [0,3,90,91,92] (by kernel_rfl) trivial))) ?_
  refine aL [] (oq u0 u3 u1 u2) (nX u0 u3 u1) (jX u0) hy (fun s f h=> ?_) ?_
  ·clear hy
   show bJ _ _ _ _ _ _ ((xS u0 u3 u1 u2) f) _
   unfold dJ at h
   obtain⟨o0,o4,u4⟩:=s
   refine sz tT ⟨[(0,(vP 0 0)),(UM u1 u0),(90,(vO 38 false u2.length)),(91,(vI (u2.length:Int))),(92,(vI u4)),(93,(Ow u4 u2))],(acU u1 u0 u2 o0 o4 u3)⟩ {} [] ?_
   refine aQ ?_
   refine bI h (fun hb h=> ?_) (fun hb h=> ?_)
   ·refine ct hb ?_
    refine aP (aQ (aB (aQ (aO h fun a1 h=> ?_))))
    refine rg tT ⟨(ado u0 u1 u2 u4),(acU u1 u0 u2 o0 o4 u3)⟩ [_,_] {} [] ⟨a1,(tL a1),trivial⟩ ?_
    refine aQ (aO h fun a1 h=> ?_)
    refine ri tT ⟨(ado u0 u1 u2 u4),[(acZ u1 u0 o0 o4 u3),(1,none),(jH u0),(gV u0),(gu u0),(fP u0),(fI u0),(fB u0),(eZ u0),(jO u0),(Gt u2),(39,some (.arr 4 1 o4.length (au ah (o4.set ((at' u2 u4.toNat).toNat) false)))),(45,some (aG 56 2 Event.cell o0))]⟩ [_,_,aY o4.length 1 (nP (au ah o4) ((at' u2 u4.toNat).toNat) 0 [(.bool false)]) (au ah (o4.set ((at' u2 u4.toNat).toNat) false))] {an:=[(8, .arr 0 (au ah (o4.set ((at' u2 u4.toNat).toNat) false)))] } [] ⟨a1,(tL a1),(fU _ _ _ _ _ _ _ _ rfl (fun j hj=>(match j,hj with|0,_=>rfl))),trivial⟩ (bG.le (st':=⟨(ado u0 u1 u2 u4),[(0,some (.cells 137 [(.own 45 false o0.length),(cB u0.clearing.cleared),(cI (if u1<u0.now then u0.now else u1)),(cI (Lm u1 u0)),(.own 39 false ((o4.set ((at' u2 u4.toNat).toNat) false).length)),(.own 3 false u0.clearing.state.locked.length),(.own 4 false u0.clearing.state.badLink.length),(.own 5 false u0.clearing.state.on_.length),(.own 6 false u0.clearing.state.badSource.length),(.own 7 false u0.clearing.state.earthed.length),(.own 8 false u0.clearing.state.badBus.length),(cI u0.p.buses),(.d (vT u0)),(.d (uH u0)),(.d (vR u0)),(cI u0.bus),(.d (wH u0 u3)),(cI u0.total),(.mp 9),(cI (if u1<u0.now then u0.now else u1))])),(1,none),(jH u0),(gV u0),(gu u0),(fP u0),(fI u0),(fB u0),(eZ u0),(jO u0),(Gt u2),(acJ u2 u4 o4),(45,some (aG 56 2 Event.cell o0))]⟩) ⟨⟨tR,tR,tR,tR,tR,tR,trivial⟩,⟨rfl,fV ⟨bL.refl _,bL.refl _,bL.refl _,bL.refl _,cW,bL.refl _,bL.refl _,bL.refl _,bL.refl _,bL.refl _,bL.refl _,bL.refl _,bL.refl _,bL.refl _,bL.refl _,bL.refl _,bL.refl _,bL.refl _,bL.refl _,bL.refl _,trivial⟩,(hN 10 ⟨rfl,oW,(.refl _)⟩)⟩⟩) ?_
    refine aO h fun⟨a1,a2⟩ h=> ?_
    refine dg tT mX ⟨(ai8 u1 u0 u2 u4),(afs u0 u3 u1 u2 u4 o4 o0)⟩ [[(UB u0 u1 u2 u4)].length=1,aY 1 2 (wF 2 [(.int .i64 (if u1<u0.now then u0.now else u1)),(.int .i64 (at' u2 u4.toNat))]) (ab4 u0 u1 u2 u4),o0.length=o0.length,_,_,(Q8 u0 u1 u2 u4 o0).length=o0.length+[(UB u0 u1 u2 u4)].length,aY (o0.length+[(UB u0 u1 u2 u4)].length) 2 (wE (au Event.cell o0) o0.length (ab4 u0 u1 u2 u4)) (au Event.cell (Q8 u0 u1 u2 u4 o0))] {an:=[(9, .arr [(UB u0 u1 u2 u4)].length (ab4 u0 u1 u2 u4)),(10, .arr (Q8 u0 u1 u2 u4 o0).length (au Event.cell (Q8 u0 u1 u2 u4 o0)))],fr:=[(9,48),(10,49)] } [] ⟨(rfl),((by intro i hi j hj;match i,j,hi,hj with|0,0,_,_=>rfl|0,1,_,_=>rfl)),rfl,a1,a2,(List.length_append),(dz _ _ _ _),trivial⟩ ?_
    refine ri tT ⟨(aff u0 u1 u2 u4),(afs u0 u3 u1 u2 u4 o4 o0)⟩ [] {} [] trivial (bG.fin (st':=⟨(aff u0 u1 u2 u4),[(0,some (.cells 137 [(.own 45 false ((Q8 u0 u1 u2 u4 o0).length)),(cB u0.clearing.cleared),(cI (if u1<u0.now then u0.now else u1)),(cI (Lm u1 u0)),(.own 39 false ((o4.set ((at' u2 u4.toNat).toNat) false).length)),(.own 3 false u0.clearing.state.locked.length),(.own 4 false u0.clearing.state.badLink.length),(.own 5 false u0.clearing.state.on_.length),(.own 6 false u0.clearing.state.badSource.length),(.own 7 false u0.clearing.state.earthed.length),(.own 8 false u0.clearing.state.badBus.length),(cI u0.p.buses),(.d (vT u0)),(.d (uH u0)),(.d (vR u0)),(cI u0.bus),(.d (wH u0 u3)),(cI u0.total),(.mp 9),(cI (if u1<u0.now then u0.now else u1))])),(1,none),(jH u0),(gV u0),(gu u0),(fP u0),(fI u0),(fB u0),(eZ u0),(jO u0),(Gt u2),(acJ u2 u4 o4),(45,some (aG 56 2 Event.cell (Q8 u0 u1 u2 u4 o0)))]⟩) (cs:=[]) ⟨[],[(0,0),(1,1),(2,2),(3,3),(4,4),(5,5),(6,6),(7,7),(8,8),(9,9),(38,38),(39,39),(49,45)]⟩ [0,3,90,91,92] (by kernel_rfl) trivial) ?_
    obtain rfl:=oi h
    exact lN
   ·refine cf hb ?_
    refine aI (fz (aib o0 u0 u1 o4 u3) []) ?_
    refine aX ?_
    obtain rfl:=oi h
    exact lB
  ·clear hy
   cases y with
   |brk z=>
    obtain⟨u6,u7⟩:=z
    unfold fZ
    refine⟨_, .refl, ?_⟩
    refine sz tT ⟨[(2,(vB true))],(aiO u6 u0 u1 u7 u3)⟩ {} [] ?_
    refine aI (.trans (bG.fin (st':=⟨[(2,(vB true))],[(agW u0 u3 u1 u6 u7),(1,none),(jH u0),(gV u0),(gu u0),(fP u0),(fI u0),(fB u0),(eZ u0),(jO u0),(10,some (aG 56 2 Event.cell u6)),(Uf u7)]⟩) (cs:=[]) ⟨[],[(0,0),(1,1),(2,2),(3,3),(4,4),(5,5),(6,6),(7,7),(8,8),(9,9),(45,10),(39,11)]⟩ [2] (by kernel_rfl) trivial) (bG.le (st':=⟨[(2,(vB true))],[(agW u0 u3 u1 u6 u7),(1,none),(2,none),(gV u0),(gu u0),(fP u0),(fI u0),(fB u0),(eZ u0),(jO u0),(10,some (aG 56 2 Event.cell u6)),(Uf u7)]⟩) ⟨⟨tR,trivial⟩,(hN 2 ⟨rfl,trivial,(.refl _)⟩)⟩)) ?_
    refine aR ?_
    obtain rfl:=oi h
    exact rh [(sB true)] (.refl _) ⟨rfl, .refl _,⟨rfl,trivial,⟨rfl,trivial,⟨rfl, .refl _,⟨rfl, .refl _,⟨rfl, .refl _,⟨rfl, .refl _,⟨rfl, .refl _,⟨rfl, .refl _,⟨rfl, .refl _,⟨rfl, .refl _,⟨rfl, .refl _,trivial⟩⟩⟩⟩⟩⟩⟩⟩⟩⟩⟩⟩
   |ret v=>
    obtain rfl:=oi h
    unfold fZ
    intro e st hn ha hR
    cases e with
    |normal=>exact absurd rfl hn
    |exit id=>exact hR
    |goto l=>exact hR
    |ret=>exact hR
    |panic c=>exact hR
    |outgrown=>exact hR
def lM  :(aj × (List (Int × Int)))→Exit→St→Prop:=
  fun r=>bn TT [.cell 2 36] (.v (.agg [(.own 10 false r.1.events.length),(cB r.1.cleared),(cI r.1.millis),(cI r.1.energy),(.own 11 false r.1.state.closed.length),(.own 12 false r.1.state.locked.length),(.own 13 false r.1.state.badLink.length),(.own 14 false r.1.state.on_.length),(.own 15 false r.1.state.badSource.length),(.own 16 false r.1.state.earthed.length),(.own 17 false r.1.state.badBus.length)])) [(0,none),(1,none),(2,none),(3,none),(4,none),(5,none),(6,none),(7,none),(8,none),(9,some (MN 3 3 false false 1 1 (aA .i64) (aA .i64) r.2)),(10,some (aG 56 2 Event.cell r.1.events)),(11,some (aG 4 1 ah r.1.state.closed)),(12,some (aG 4 1 ah r.1.state.locked)),(13,some (aG 4 1 ah r.1.state.badLink)),(14,some (aG 4 1 ah r.1.state.on_)),(15,some (aG 4 1 ah r.1.state.badSource)),(16,some (aG 4 1 ah r.1.state.earthed)),(17,some (aG 4 1 ah r.1.state.badBus)),(18,none)]
section
variable (o0:(List Event)) (o4:(List Bool))
abbrev ad4:Nat × TV:=(3,(.v (.one (.fn 107 1 1 (Cb [(.ptr 0 0)])))))
abbrev R4:List (Nat × TV):=[(0,(vP 0 0)),(2,(vP 23 0)),ad4]
abbrev Vm:List CV:=[(.d nS),(cB false),(cI 0),(cI 0),(.d nS),(.d nS),(.d nS),(.d nS),(.d nS),(.d nS),(.d nS)]
abbrev ag7:Ob:=(.cells 36 Vm)
abbrev OL:Nat × Option Ob:=(23,some ag7)
abbrev Lf:Nat × Option Ob:=(26,some (aG 56 2 Event.cell o0))
abbrev Lp:Nat × Option Ob:=(27,some (aG 4 1 ah o4))
end
def qi (u0:Machine):((List Event) × Bool × Int × Int × (List Bool) × Int × (List Source) × (List Link) × (List aJ) × Int × Bool × (List Int) × Int × (List (Int × Int)) × Int)→St:=
  fun zz=>match zz with|(o0,o1,o2,o3,o4,u1,u2,u3,u4,u5,u6,u7,u8,u9,v0)=> ⟨R4,[(0,some (.cells 137 [(.own 26 false o0.length),(cB o1),(cI o2),(cI o3),(.own 27 false o4.length),(.own 3 false u0.clearing.state.locked.length),(.own 4 false u0.clearing.state.badLink.length),(.own 5 false u0.clearing.state.on_.length),(.own 6 false u0.clearing.state.badSource.length),(.own 7 false u0.clearing.state.earthed.length),(.own 8 false u0.clearing.state.badBus.length),(cI u1),(.d (aC none 5 Source.cell u2)),(.d (aC none 6 Link.cell u3)),(.d (aC none 4 aJ.cell u4)),(cI u5),(.d (aC (some u6) 1 (aA .i64) u7)),(cI u8),(.mp 9),(cI v0)])),(1,none),(2,none),(gV u0),(gu u0),(fP u0),(fI u0),(fB u0),(eZ u0),(adZ u9),OL,(Lf o0),(Lp o4)]⟩
def zW (u0:Machine):(aS ((List Event) × Bool × Int × Int × (List Bool) × Int × (List Source) × (List Link) × (List aJ) × Int × Bool × (List Int) × Int × (List (Int × Int)) × Int) (Ex Unit (aj × (List (Int × Int)))))→Exit→St→Prop:=
  GQ 0 (qi u0) (JQ [] (fun _:Unit=>(⟨[],[]⟩:St)) lM)
end
end Sg
