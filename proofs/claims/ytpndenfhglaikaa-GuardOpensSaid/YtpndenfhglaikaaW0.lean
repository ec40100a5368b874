import Derived.Test.YtpndenfhglaikaaGm
import Derived.Test.YtpndenfhglaikaaProg
namespace Sg
open Go Go.Proofs
set_option maxRecDepth 20000
set_option linter.all false
noncomputable section
noncomputable def TT : List (Nat × TI) := [(3, ⟨Try.t3.desc, Try.t3.size, Try.t3.bytes, zl Try.t3, false⟩),
  (4, ⟨Try.t4.desc, Try.t4.size, Try.t4.bytes, zl Try.t4, false⟩),
  (22, ⟨Try.t22.desc, Try.t22.size, Try.t22.bytes, zl Try.t22, false⟩),
  (23, ⟨Try.t23.desc, Try.t23.size, Try.t23.bytes, zl Try.t23, false⟩),
  (24, ⟨Try.t24.desc, Try.t24.size, Try.t24.bytes, zl Try.t24, false⟩),
  (26, ⟨Try.t25.desc, Try.t26.size, Try.t26.bytes, zl Try.t26, false⟩),
  (27, ⟨Try.t27.desc, Try.t27.size, Try.t27.bytes, zl Try.t27, false⟩),
  (29, ⟨Try.t28.desc, Try.t29.size, Try.t29.bytes, zl Try.t29, false⟩),
  (34, ⟨Try.t34.desc, Try.t34.size, Try.t34.bytes, zl Try.t34, false⟩),
  (36, ⟨Try.t35.desc, Try.t36.size, Try.t36.bytes, zl Try.t36, false⟩),
  (40, ⟨Try.t40.desc, Try.t40.size, Try.t40.bytes, zl Try.t40, false⟩),
  (41, ⟨Try.t41.desc, Try.t41.size, Try.t41.bytes, zl Try.t41, false⟩),
  (47, ⟨Try.t46.desc, Try.t47.size, Try.t47.bytes, zl Try.t47, false⟩),
  (50, ⟨Try.t3.desc, Try.t50.size, Try.t50.bytes, zl Try.t50, false⟩),
  (51, ⟨Try.t51.desc, Try.t51.size, Try.t51.bytes, zl Try.t51, false⟩),
  (53, ⟨Try.t52.desc, Try.t53.size, Try.t53.bytes, zl Try.t53, false⟩),
  (56, ⟨Try.t55.desc, Try.t56.size, Try.t56.bytes, zl Try.t56, true⟩),
  (115, ⟨Try.t3.desc, Try.t115.size, Try.t115.bytes, zl Try.t115, false⟩),
  (117, ⟨Try.t116.desc, Try.t117.size, Try.t117.bytes, zl Try.t117, true⟩),
  (119, ⟨Try.t119.desc, Try.t119.size, Try.t119.bytes, zl Try.t119, false⟩),
  (123, ⟨Try.t122.desc, Try.t123.size, Try.t123.bytes, zl Try.t123, false⟩),
  (124, ⟨Try.t3.desc, Try.t124.size, Try.t124.bytes, zl Try.t124, false⟩),
  (126, ⟨Try.t125.desc, Try.t126.size, Try.t126.bytes, zl Try.t126, true⟩),
  (128, ⟨Try.t128.desc, Try.t128.size, Try.t128.bytes, zl Try.t128, false⟩),
  (129, ⟨Try.t129.desc, Try.t129.size, Try.t129.bytes, zl Try.t129, false⟩),
  (134, ⟨Try.t134.desc, Try.t134.size, Try.t134.bytes, zl Try.t134, false⟩),
  (135, ⟨Try.t135.desc, Try.t135.size, Try.t135.bytes, zl Try.t135, false⟩),
  (137, ⟨Try.t136.desc, Try.t137.size, Try.t137.bytes, zl Try.t137, false⟩),
  (141, ⟨Try.t140.desc, Try.t141.size, Try.t141.bytes, zl Try.t141, false⟩),
  (142, ⟨Try.t142.desc, Try.t142.size, Try.t142.bytes, zl Try.t142, false⟩),
  (148, ⟨Try.t147.desc, Try.t148.size, Try.t148.bytes, zl Try.t148, true⟩),
  (164, ⟨Try.t164.desc, Try.t164.size, Try.t164.bytes, zl Try.t164, true⟩),
  (166, ⟨Try.t165.desc, Try.t166.size, Try.t166.bytes, zl Try.t166, true⟩),
  (192, ⟨Try.t192.desc, Try.t192.size, Try.t192.bytes, zl Try.t192, false⟩),
  (195, ⟨Try.t195.desc, Try.t195.size, Try.t195.bytes, zl Try.t195, false⟩),
  (198, ⟨Try.t198.desc, Try.t198.size, Try.t198.bytes, zl Try.t198, false⟩),
  (203, ⟨Try.t203.desc, Try.t203.size, Try.t203.bytes, zl Try.t203, false⟩),
  (206, ⟨Try.t206.desc, Try.t206.size, Try.t206.bytes, zl Try.t206, true⟩),
  (211, ⟨Try.t211.desc, Try.t211.size, Try.t211.bytes, zl Try.t211, true⟩),
  (215, ⟨Try.t214.desc, Try.t215.size, Try.t215.bytes, zl Try.t215, false⟩),
  (234, ⟨Try.t234.desc, Try.t234.size, Try.t234.bytes, zl Try.t234, false⟩),
  (243, ⟨Try.t243.desc, Try.t243.size, Try.t243.bytes, zl Try.t243, false⟩),
  (244, ⟨Try.t244.desc, Try.t244.size, Try.t244.bytes, zl Try.t244, false⟩)]
theorem tT : TOk Try.prog TT := ⟨tok1 (by kernel_rfl) (by kernel_rfl) (by kernel_rfl), ⟨tokF, zokOf (by kernel_rfl)⟩, tok1 (by kernel_rfl) (by kernel_rfl) (by kernel_rfl), ⟨tokF, zokOf (by kernel_rfl)⟩, tok1 (by kernel_rfl) (by kernel_rfl) (by kernel_rfl), ⟨tokF, zokOf (by kernel_rfl)⟩, tok1 (by kernel_rfl) (by kernel_rfl) (by kernel_rfl), ⟨tokF, zokOf (by kernel_rfl)⟩, tok1 (by kernel_rfl) (by kernel_rfl) (by kernel_rfl), ⟨tokF, zokOf (by kernel_rfl)⟩, tok1 (by kernel_rfl) (by kernel_rfl) (by kernel_rfl), ⟨tokF, zokOf (by kernel_rfl)⟩, tok1 (by kernel_rfl) (by kernel_rfl) (by kernel_rfl), ⟨tokF, zokOf (by kernel_rfl)⟩, tok1 (by kernel_rfl) (by kernel_rfl) (by kernel_rfl), ⟨tokF, zokOf (by kernel_rfl)⟩, tok1 (by kernel_rfl) (by kernel_rfl) (by kernel_rfl), ⟨tokF, zokOf (by kernel_rfl)⟩, tok1 (by kernel_rfl) (by kernel_rfl) (by kernel_rfl), ⟨tokF, zokOf (by kernel_rfl)⟩, tok1 (by kernel_rfl) (by kernel_rfl) (by kernel_rfl), ⟨tokF, zokOf (by kernel_rfl)⟩, tok1 (by kernel_rfl) (by kernel_rfl) (by kernel_rfl), ⟨tokF, zokOf (by kernel_rfl)⟩, tok1 (by kernel_rfl) (by kernel_rfl) (by kernel_rfl), ⟨tokF, zokOf (by kernel_rfl)⟩, tok1 (by kernel_rfl) (by kernel_rfl) (by kernel_rfl), ⟨tokF, zokOf (by kernel_rfl)⟩, tok1 (by kernel_rfl) (by kernel_rfl) (by kernel_rfl), ⟨tokF, zokOf (by kernel_rfl)⟩, tok1 (by kernel_rfl) (by kernel_rfl) (by kernel_rfl), ⟨tokF, zokOf (by kernel_rfl)⟩, tok1 (by kernel_rfl) (by kernel_rfl) (by kernel_rfl), ⟨fun _ => ⟨by kernel_rfl, by kernel_rfl⟩, zokOf (by kernel_rfl)⟩, tok1 (by kernel_rfl) (by kernel_rfl) (by kernel_rfl), ⟨tokF, zokOf (by kernel_rfl)⟩, tok1 (by kernel_rfl) (by kernel_rfl) (by kernel_rfl), ⟨fun _ => ⟨by kernel_rfl, by kernel_rfl⟩, zokOf (by kernel_rfl)⟩, tok1 (by kernel_rfl) (by kernel_rfl) (by kernel_rfl), ⟨tokF, zokOf (by kernel_rfl)⟩, tok1 (by kernel_rfl) (by kernel_rfl) (by kernel_rfl), ⟨tokF, zokOf (by kernel_rfl)⟩, tok1 (by kernel_rfl) (by kernel_rfl) (by kernel_rfl), ⟨tokF, zokOf (by kernel_rfl)⟩, tok1 (by kernel_rfl) (by kernel_rfl) (by kernel_rfl), ⟨fun _ => ⟨by kernel_rfl, by kernel_rfl⟩, zokOf (by kernel_rfl)⟩, tok1 (by kernel_rfl) (by kernel_rfl) (by kernel_rfl), ⟨tokF, zokOf (by kernel_rfl)⟩, tok1 (by kernel_rfl) (by kernel_rfl) (by kernel_rfl), ⟨tokF, zokOf (by kernel_rfl)⟩, tok1 (by kernel_rfl) (by kernel_rfl) (by kernel_rfl), ⟨tokF, zokOf (by kernel_rfl)⟩, tok1 (by kernel_rfl) (by kernel_rfl) (by kernel_rfl), ⟨tokF, zokOf (by kernel_rfl)⟩, tok1 (by kernel_rfl) (by kernel_rfl) (by kernel_rfl), ⟨tokF, zokOf (by kernel_rfl)⟩, tok1 (by kernel_rfl) (by kernel_rfl) (by kernel_rfl), ⟨tokF, zokOf (by kernel_rfl)⟩, tok1 (by kernel_rfl) (by kernel_rfl) (by kernel_rfl), ⟨tokF, zokOf (by kernel_rfl)⟩, tok1 (by kernel_rfl) (by kernel_rfl) (by kernel_rfl), ⟨fun _ => ⟨by kernel_rfl, by kernel_rfl⟩, zokOf (by kernel_rfl)⟩, tok1 (by kernel_rfl) (by kernel_rfl) (by kernel_rfl), ⟨fun _ => ⟨by kernel_rfl, by kernel_rfl⟩, zokOf (by kernel_rfl)⟩, tok1 (by kernel_rfl) (by kernel_rfl) (by kernel_rfl), ⟨fun _ => ⟨by kernel_rfl, by kernel_rfl⟩, zokOf (by kernel_rfl)⟩, tok1 (by kernel_rfl) (by kernel_rfl) (by kernel_rfl), ⟨tokF, zokOf (by kernel_rfl)⟩, tok1 (by kernel_rfl) (by kernel_rfl) (by kernel_rfl), ⟨tokF, zokOf (by kernel_rfl)⟩, tok1 (by kernel_rfl) (by kernel_rfl) (by kernel_rfl), ⟨tokF, zokOf (by kernel_rfl)⟩, tok1 (by kernel_rfl) (by kernel_rfl) (by kernel_rfl), ⟨tokF, zokOf (by kernel_rfl)⟩, tok1 (by kernel_rfl) (by kernel_rfl) (by kernel_rfl), ⟨fun _ => ⟨by kernel_rfl, by kernel_rfl⟩, zokOf (by kernel_rfl)⟩, tok1 (by kernel_rfl) (by kernel_rfl) (by kernel_rfl), ⟨fun _ => ⟨by kernel_rfl, by kernel_rfl⟩, zokOf (by kernel_rfl)⟩, tok1 (by kernel_rfl) (by kernel_rfl) (by kernel_rfl), ⟨tokF, zokOf (by kernel_rfl)⟩, tok1 (by kernel_rfl) (by kernel_rfl) (by kernel_rfl), ⟨tokF, zokOf (by kernel_rfl)⟩, tok1 (by kernel_rfl) (by kernel_rfl) (by kernel_rfl), ⟨tokF, zokOf (by kernel_rfl)⟩, tok1 (by kernel_rfl) (by kernel_rfl) (by kernel_rfl), ⟨tokF, zokOf (by kernel_rfl)⟩, trivial⟩
theorem mX : Try.prog.follows .mixedOrders = true := by kernel_rfl
def m_plant_within_R  : Bool → Exit → St → Prop :=
  fun r => RetQ TT [.tmp 6] (vB r) []
theorem m_plant_within_ok (n : Int) (u0 : Int) (u1 : Int) {r : Bool} (h : m_plant_within n u0 u1 = some r) : Fn Try.prog 94 [(sI n), (sI u0), (sI u1)] [] (vB r) [] := by
 refine fN tT Try.func94 rfl rfl fun B => ?_
 show AWp _ _ _ _ _ _ (m_plant_within_R r) _
 unfold m_plant_within at h
 refine sz tT ⟨[(0, (vI n)), (1, (vI u0)), (2, (vI u1))], []⟩ {} [] ?_
 refine sg tT ⟨[(6, (vB (bif (decide (u0 ≤ n)) then (decide (n ≤ u1)) else false)))], []⟩ (eqs (decide (u0 ≤ n)) 4 []) { yb := [(3, (decide (u0 ≤ n)))] } [] (ae trivial) ?_
 refine aR ?_
 obtain rfl := oi h
 exact rq [(sB (bif (decide (u0 ≤ n)) then (decide (n ≤ u1)) else false))] (.refl _)
def m_plant_source_R  : (Int × (List Source) × (List Link) × (List Rack)) → Exit → St → Prop :=
  fun r => RetQ TT [.tmp 2] (vD (.fn 135 1 (capF [(ipT [(.int .i64 r.1), (slD none 5 Source.cell r.2.1), (slD none 6 Link.cell r.2.2.1), (slD none 4 Rack.cell r.2.2.2)] 0)]))) []
section
variable (p : Plant)
abbrev k2 : DV := (slD none 5 Source.cell p.sources)
abbrev k3 : DV := (slD none 6 Link.cell p.links)
abbrev k4 : DV := (slD none 4 Rack.cell p.racks)
abbrev k1 : List CV := [(cI p.buses), (.d (k2 p)), (.d (k3 p)), (.d (k4 p))]
abbrev k0 : List SV := [(.agg (k1 p))]
abbrev k8 : DV := (ipT [(.int .i64 p.buses), (k2 p), (k3 p), (k4 p)] 0)
abbrev k7 : TV := (vD (k8 p))
abbrev k6 : Nat × TV := (1, (k7 p))
abbrev k5 : St := ⟨[(k6 p)], []⟩
abbrev k9 := (capF [(k8 p)])
end
theorem m_plant_source_ok (p : Plant) {r : (Int × (List Source) × (List Link) × (List Rack))} (h : m_plant_source p = some r) : Fn Try.prog 96 (k0 p) [] (vD (.fn 135 1 (capF [(ipT [(.int .i64 r.1), (slD none 5 Source.cell r.2.1), (slD none 6 Link.cell r.2.2.1), (slD none 4 Rack.cell r.2.2.2)] 0)]))) [] := by
 refine fN tT Try.func96 rfl rfl fun B => ?_
 show AWp _ _ _ _ _ _ (m_plant_source_R r) _
 unfold m_plant_source at h
 refine sz tT (k5 p) { fr := [(0, 1)] } [1] ?_
 refine sz tT ⟨[(2, (vD (.fn 135 1 (k9 p))))], []⟩ {} [] ?_
 refine aR ?_
 obtain rfl := oi h
 exact rq [(sD (.fn 135 1 (k9 p)))] (.refl _)
def m_plant_link_R  : (Int × (List Source) × (List Link) × (List Rack)) → Exit → St → Prop :=
  fun r => RetQ TT [.tmp 2] (vD (.fn 138 1 (capF [(ipT [(.int .i64 r.1), (slD none 5 Source.cell r.2.1), (slD none 6 Link.cell r.2.2.1), (slD none 4 Rack.cell r.2.2.2)] 0)]))) []
theorem m_plant_link_ok (p : Plant) {r : (Int × (List Source) × (List Link) × (List Rack))} (h : m_plant_link p = some r) : Fn Try.prog 98 (k0 p) [] (vD (.fn 138 1 (capF [(ipT [(.int .i64 r.1), (slD none 5 Source.cell r.2.1), (slD none 6 Link.cell r.2.2.1), (slD none 4 Rack.cell r.2.2.2)] 0)]))) [] := by
 refine fN tT Try.func98 rfl rfl fun B => ?_
 show AWp _ _ _ _ _ _ (m_plant_link_R r) _
 unfold m_plant_link at h
 refine sz tT (k5 p) { fr := [(0, 1)] } [1] ?_
 refine sz tT ⟨[(2, (vD (.fn 138 1 (k9 p))))], []⟩ {} [] ?_
 refine aR ?_
 obtain rfl := oi h
 exact rq [(sD (.fn 138 1 (k9 p)))] (.refl _)
def m_plant_rack_R  : (Int × (List Source) × (List Link) × (List Rack)) → Exit → St → Prop :=
  fun r => RetQ TT [.tmp 2] (vD (.fn 141 1 (capF [(ipT [(.int .i64 r.1), (slD none 5 Source.cell r.2.1), (slD none 6 Link.cell r.2.2.1), (slD none 4 Rack.cell r.2.2.2)] 0)]))) []
theorem m_plant_rack_ok (p : Plant) {r : (Int × (List Source) × (List Link) × (List Rack))} (h : m_plant_rack p = some r) : Fn Try.prog 100 (k0 p) [] (vD (.fn 141 1 (capF [(ipT [(.int .i64 r.1), (slD none 5 Source.cell r.2.1), (slD none 6 Link.cell r.2.2.1), (slD none 4 Rack.cell r.2.2.2)] 0)]))) [] := by
 refine fN tT Try.func100 rfl rfl fun B => ?_
 show AWp _ _ _ _ _ _ (m_plant_rack_R r) _
 unfold m_plant_rack at h
 refine sz tT (k5 p) { fr := [(0, 1)] } [1] ?_
 refine sz tT ⟨[(2, (vD (.fn 141 1 (k9 p))))], []⟩ {} [] ?_
 refine aR ?_
 obtain rfl := oi h
 exact rq [(sD (.fn 141 1 (k9 p)))] (.refl _)
def m_plant_source_1_R  : Bool → Exit → St → Prop :=
  fun r => RetQ TT [.tmp 3] (vB r) []
section
variable (x1 : Int) (u4 : (List Source)) (u5 : (List Link)) (u6 : (List Rack)) (x : Source) (r_ : Bool) (u0 : Bool) (u1 : Bool) (u2 : Bool) (u3 : Bool)
abbrev k10 : DV := (ipT [(.int .i64 x1), (slD none 5 Source.cell u4), (slD none 6 Link.cell u5), (slD none 4 Rack.cell u6)] 0)
abbrev k11 : Nat × TV := (1, (vD (k10 x1 u4 u5 u6)))
abbrev k12 : Nat × TV := (2, (vD (ipT [(.int .i64 x.bus), (.int .i64 x.kind), (.int .i64 x.power), (.int .i64 x.sync), (.int .i64 x.ohm)] 0)))
abbrev k13 := (IntKind.wrap .i64 (x1 - 1))
abbrev k17 := (bif r_ then u0 else false)
abbrev k16 := (bif (k17 r_ u0) then u1 else false)
abbrev k15 := (bif (k16 r_ u0 u1) then u2 else false)
abbrev k14 := (bif (k15 r_ u0 u1 u2) then u3 else false)
abbrev k18 := (ybf [(6, r_), (11, (k17 r_ u0)), (16, (k16 r_ u0 u1)), (21, (k15 r_ u0 u1 u2))])
abbrev k19 := ((k16 r_ u0 u1) = (k16 r_ u0 u1))
end
theorem m_plant_source_1_ok (x : Source) (x1 : Int) (u4 : (List Source)) (u5 : (List Link)) (u6 : (List Rack)) {r : Bool} (h : m_plant_source_1 x x1 u4 u5 u6 = some r) : Fn Try.prog 135 [(.agg [(cI x.bus), (cI x.kind), (cI x.power), (cI x.sync), (cI x.ohm)]), (sD (k10 x1 u4 u5 u6))] [] (vB r) [] := by
 refine fN tT Try.func135 rfl rfl fun B => ?_
 show AWp _ _ _ _ _ _ (m_plant_source_1_R r) _
 unfold m_plant_source_1 at h
 refine sz tT ⟨[(k11 x1 u4 u5 u6), (k12 x)], []⟩ { fr := [(0, 1)] } [1] ?_
 refine aQ (bE h fun r_ hr_ h => ?_)
 refine bE h fun u0 hr_1 h => ?_
 refine bE h fun u1 hr_2 h => ?_
 refine bE h fun u2 hr_3 h => ?_
 refine bE h fun u3 hr_4 h => ?_
 have q0 := m_plant_within_ok x.bus 0 (k13 x1) hr_
 refine rg tT ⟨[(3, (vB (k14 r_ u0 u1 u2 u3)))], []⟩ (_ :: (eqs r_ 3 ((gP (k18 r_ u0 u1 u2) [(6, true)] → All [Fn Try.prog 94 [(sI x.kind), (sI 1), (sI 3)] [] (vB u0) []]) :: (r_ = r_) :: (eqs (k17 r_ u0) 3 ((gP (k18 r_ u0 u1 u2) [(11, true)] → All [Fn Try.prog 94 [(sI x.power), (sI 1), (sI 100000)] [] (vB u1) []]) :: ((k17 r_ u0) = (k17 r_ u0)) :: (eqs (k16 r_ u0 u1) 3 ((gP (k18 r_ u0 u1 u2) [(16, true)] → All [Fn Try.prog 94 [(sI x.sync), (sI 0), (sI 8)] [] (vB u2) []]) :: (k19 r_ u0 u1) :: (eqs (k15 r_ u0 u1 u2) 3 [gP (k18 r_ u0 u1 u2) [(21, true)] → All [Fn Try.prog 94 [(sI x.ohm), (sI 10), (sI 100000)] [] (vB u3) []], (k15 r_ u0 u1 u2) = (k15 r_ u0 u1 u2)])))))))) { yb := [(6, r_), (11, (k17 r_ u0)), (16, (k16 r_ u0 u1)), (21, (k15 r_ u0 u1 u2))], an := [(5, cA q0 []), (9, .call [] (vB u0) []), (14, .call [] (vB u1) []), (19, .call [] (vB u2) []), (24, .call [] (vB u3) [])] } [] ⟨q0, (ae ⟨(fun hg => ⟨(m_plant_within_ok x.kind 1 3 (gcall hr_1 (gB_of hg))), trivial⟩), rfl, (ae ⟨(fun hg => ⟨(m_plant_within_ok x.power 1 100000 (gcall hr_2 (gB_of hg))), trivial⟩), rfl, (ae ⟨(fun hg => ⟨(m_plant_within_ok x.sync 0 8 (gcall hr_3 (gB_of hg))), trivial⟩), rfl, (ae ⟨(fun hg => ⟨(m_plant_within_ok x.ohm 10 100000 (gcall hr_4 (gB_of hg))), trivial⟩), rfl, trivial⟩)⟩)⟩)⟩)⟩ ?_
 refine aR ?_
 obtain rfl := oi h
 exact rq [(sB (k14 r_ u0 u1 u2 u3))] (.refl _)
def m_plant_good_1_R  : Bool → Exit → St → Prop :=
  fun r => RetQ TT [.tmp 3] (vB r) []
section
variable (x1 : Int) (u0 : (List Source)) (u1 : (List Link)) (u2 : (List Rack))
abbrev k21 := (capF [(k10 x1 u0 u1 u2)])
abbrev k20 : DV := (ipT [(.fn 135 1 (k21 x1 u0 u1 u2))] 0)
abbrev k22 : TV := (vD (k20 x1 u0 u1 u2))
end
theorem m_plant_good_1_ok (x : Source) (x1 : Int) (u0 : (List Source)) (u1 : (List Link)) (u2 : (List Rack)) {r : Bool} (h : m_plant_good_1 x x1 u0 u1 u2 = some r) : Fn Try.prog 134 [(.agg [(cI x.bus), (cI x.kind), (cI x.power), (cI x.sync), (cI x.ohm)]), (sD (k20 x1 u0 u1 u2))] [] (vB r) [] := by
 refine fN tT Try.func134 rfl rfl fun B => ?_
 show AWp _ _ _ _ _ _ (m_plant_good_1_R r) _
 unfold m_plant_good_1 at h
 refine sz tT ⟨[(1, (k22 x1 u0 u1 u2)), (k12 x)], []⟩ { fr := [(0, 1)] } [1] ?_
 refine aQ (bE h fun r_ hr_ h => ?_)
 have q0 := m_plant_source_1_ok x x1 u0 u1 u2 hr_
 refine rg tT ⟨[(3, (vB (!r_)))], []⟩ [_] { an := [(2, cA q0 [])] } [] ⟨q0, trivial⟩ ?_
 refine aR ?_
 obtain rfl := oi h
 exact rq [(sB (!r_))] (.refl _)
def m_slices_IndexFunc_R  : Int → Exit → St → Prop :=
  fun r => RetQ TT [.tmp 4] (vI r) []
section
variable (s_ : (List Source)) (f_ : Int) (u0 : (List Source)) (u1 : (List Link)) (u2 : (List Rack))
abbrev k23 : Nat × TV := (0, (vD (slD none 5 Source.cell s_)))
abbrev k25 := (capF [(k20 f_ u0 u1 u2)])
abbrev k24 : Nat × TV := (1, (vD (.fn 134 1 (k25 f_ u0 u1 u2))))
abbrev k26 : Nat × TV := (7, (vI (s_.length : Int)))
end
def m_slices_IndexFunc_S0 (s_ : (List Source)) (f_ : Int) (u0 : (List Source)) (u1 : (List Link)) (u2 : (List Rack)) : Int → St :=
  fun t8 => ⟨[(k23 s_), (k24 f_ u0 u1 u2), (k26 s_), (8, (vI t8))], []⟩
def m_slices_IndexFunc_B0  : Unit → St :=
  fun _ => ⟨[], []⟩
def m_slices_IndexFunc_Q0 (s_ : (List Source)) (f_ : Int) (u0 : (List Source)) (u1 : (List Link)) (u2 : (List Rack)) : (Flow Int (Ex Unit Int)) → Exit → St → Prop :=
  LQ 0 [] (m_slices_IndexFunc_S0 s_ f_ u0 u1 u2) m_slices_IndexFunc_B0 m_slices_IndexFunc_R
section
variable (s_ : (List Source)) (f_ : Int) (u0 : (List Source)) (u1 : (List Link)) (u2 : (List Rack)) (t8 : Int)
abbrev k27 : List SV := [(sD (slD none 5 Source.cell s_)), (sD (.fn 134 1 (k25 f_ u0 u1 u2)))]
abbrev k28 : St := ⟨[(k23 s_), (k24 f_ u0 u1 u2)], []⟩
abbrev k30 : TV := (vI (IntKind.wrap .i64 (t8 + 1)))
abbrev k29 : Nat × TV := (8, (k30 t8))
end
theorem m_slices_IndexFunc_ok (s_ : (List Source)) (f_ : Int) (u0 : (List Source)) (u1 : (List Link)) (u2 : (List Rack)) {r : Int} (h : m_slices_IndexFunc s_ f_ u0 u1 u2 = some r) : Fn Try.prog 150 (k27 s_ f_ u0 u1 u2) [] (vI r) [] := by
 refine fN tT Try.func150 rfl rfl fun B => ?_
 show AWp _ _ _ _ _ _ (m_slices_IndexFunc_R r) _
 unfold m_slices_IndexFunc at h
 refine sz tT (k28 s_ f_ u0 u1 u2) {} [] ?_
 refine aQ (sz tT ⟨[(k23 s_), (k24 f_ u0 u1 u2), (k26 s_), (8, (vI 0))], []⟩ {} [] ?_)
 refine bE h fun y hy h => ?_
 refine aL [] (m_slices_IndexFunc_S0 s_ f_ u0 u1 u2) m_slices_IndexFunc_B0 m_slices_IndexFunc_R hy (fun s f h => ?_) ?_
 ·clear hy
  show AWp _ _ _ _ _ _ ((m_slices_IndexFunc_Q0 s_ f_ u0 u1 u2) f) _
  unfold m_slices_IndexFunc_L0 at h
  obtain ⟨t8, rfl⟩ : ∃ q, q = s := ⟨_, rfl⟩
  refine sz tT ⟨[(k23 s_), (k24 f_ u0 u1 u2), (k26 s_), (8, (vI t8)), (9, (vB (decide (t8 < (s_.length : Int)))))], []⟩ {} [] ?_
  refine aQ ?_
  refine bI h (fun hb1 h => ?_) (fun hb1 h => ?_)
  ·refine ct hb1 ?_
   refine aP (aQ (aB (sz tT ⟨[(k23 s_), (k24 f_ u0 u1 u2), (5, (vI t8)), (k26 s_), (8, (vI t8))], []⟩ {} [] ?_)))
   refine aQ (bE h fun r_ hr_ h => ?_)
   refine aO h fun a1 h => ?_
   have q1 := m_plant_good_1_ok (at' s_ t8.toNat) f_ u0 u1 u2 hr_
   refine rg tT ⟨[(k23 s_), (k24 f_ u0 u1 u2), (5, (vI t8)), (k26 s_), (8, (vI t8)), (16, (vB r_))], []⟩ [_, _] { an := [(5, cA q1 [])] } [] ⟨a1, q1, trivial⟩ ?_
   refine bI h (fun hb h => ?_) (fun hb h => ?_)
   ·refine ct hb ?_
    refine sz tT ⟨[(4, (vI t8))], []⟩ {} [] ?_
    refine aR ?_
    obtain rfl := oi h
    exact lR ret_nn (ret_ne 0) av_ret (RetQ.mk (.inr rfl) (p := []) (l := [(sI t8)]) (by kernel_rfl) trivial (TLe.refl _) trivial)
   ·refine cf hb ?_
    refine aP (rz tT ⟨[(k23 s_), (k24 f_ u0 u1 u2), (k26 s_), (k29 t8)], []⟩ {} [] ?_)
    obtain rfl := oi h
    exact lN (by kernel_rfl)
  ·refine cf hb1 ?_
   refine aI (fz ⟨[], []⟩ []) ?_
   refine aX ?_
   obtain rfl := oi h
   exact lB (by kernel_rfl)
 ·clear hy
  cases y with
  | brk z =>
   unfold ExK
   refine ⟨_, .refl, ?_⟩
   refine sz tT ⟨[(4, (vI (-1)))], []⟩ {} [] ?_
   refine aR ?_
   obtain rfl := oi h
   exact rq [(sI (-1))] (.refl _)
  | ret v =>
   obtain rfl := oi h
   unfold ExK
   intro e st hn ha hR
   cases e with
   | normal => exact absurd rfl hn
   | exit id => exact hR
   | goto l => exact hR
   | ret => exact hR
   | panic c => exact hR
   | outgrown => exact hR
def m_slices_ContainsFunc_R  : Bool → Exit → St → Prop :=
  fun r => RetQ TT [.tmp 4] (vB r) []
section
variable (r_ : Int)
abbrev k31 : St := ⟨[(4, (vB (decide (0 ≤ r_))))], []⟩
end
theorem m_slices_ContainsFunc_ok (s_ : (List Source)) (f_ : Int) (u0 : (List Source)) (u1 : (List Link)) (u2 : (List Rack)) {r : Bool} (h : m_slices_ContainsFunc s_ f_ u0 u1 u2 = some r) : Fn Try.prog 133 (k27 s_ f_ u0 u1 u2) [] (vB r) [] := by
 refine fN tT Try.func133 rfl rfl fun B => ?_
 show AWp _ _ _ _ _ _ (m_slices_ContainsFunc_R r) _
 unfold m_slices_ContainsFunc at h
 refine sz tT (k28 s_ f_ u0 u1 u2) {} [] ?_
 refine aQ (bE h fun r_ hr_ h => ?_)
 have q0 := m_slices_IndexFunc_ok s_ f_ u0 u1 u2 hr_
 refine rg tT (k31 r_) [_] { an := [(2, cA q0 [])] } [] ⟨q0, trivial⟩ ?_
 refine aR ?_
 obtain rfl := oi h
 exact rq [(sB (decide (0 ≤ r_)))] (.refl _)
def m_plant_good_R  : Bool → Exit → St → Prop :=
  fun r => RetQ TT [.tmp 6] (vB r) []
theorem m_plant_good_ok (l : (List Source)) (u0 : Int) (u1 : Int) (u2 : (List Source)) (u3 : (List Link)) (u4 : (List Rack)) {r : Bool} (h : m_plant_good l u0 u1 u2 u3 u4 = some r) : Fn Try.prog 95 [(sD (slD none 5 Source.cell l)), (sI u0), (sD (.fn 135 1 (k21 u1 u2 u3 u4)))] [] (vB r) [] := by
 refine fN tT Try.func95 rfl rfl fun B => ?_
 show AWp _ _ _ _ _ _ (m_plant_good_R r) _
 unfold m_plant_good at h
 refine sz tT ⟨[(k23 l), (1, (vI u0)), (5, (k22 u1 u2 u3 u4))], []⟩ { fr := [(0, 1)] } [1] ?_
 refine aQ (bE h fun r_ hr_ h => ?_)
 refine rg tT ⟨[(6, (vB (bif (decide ((l.length : Int) ≤ u0)) then (!r_) else false)))], []⟩ (eqs (decide ((l.length : Int) ≤ u0)) 3 ((gP (ybf [(4, (decide ((l.length : Int) ≤ u0)))]) [(4, true)] → All [Fn Try.prog 133 (k27 l u1 u2 u3 u4) [] (vB r_) []]) :: (eqs (decide ((l.length : Int) ≤ u0)) 2 []))) { yb := [(4, (decide ((l.length : Int) ≤ u0)))], an := [(7, .call [] (vB r_) [])] } [] (ae ⟨(fun hg => ⟨(m_slices_ContainsFunc_ok l u1 u2 u3 u4 (gcall hr_ (gB_of hg))), trivial⟩), (ae trivial)⟩) ?_
 refine aR ?_
 obtain rfl := oi h
 exact rq [(sB (bif (decide ((l.length : Int) ≤ u0)) then (!r_) else false))] (.refl _)
def m_plant_link_1_R  : Bool → Exit → St → Prop :=
  fun r => RetQ TT [.tmp 3] (vB r) []
section
variable (x : Link)
abbrev k32 : Nat × TV := (2, (vD (ipT [(.int .i64 x.a), (.int .i64 x.b), (.int .i64 x.kind), (.int .i64 x.most), (.int .i64 x.ohm), (slD none 2 Trip.cell x.trip)] 0)))
abbrev k33 : Nat × TV := (48, (vD (slD none 2 Trip.cell x.trip)))
abbrev k34 : Nat × TV := (49, (vI (x.trip.length : Int)))
end
def m_plant_link_1_S0 (x : Link) : Int → St :=
  fun u0 => ⟨[(k32 x), (k33 x), (k34 x), (50, (vI u0))], []⟩
section
variable (x : Link)
abbrev k35 : St := ⟨[(k32 x)], []⟩
end
def m_plant_link_1_B0 (x : Link) : Unit → St :=
  fun _ => (k35 x)
def m_plant_link_1_Q0 (x : Link) : (Flow Int (Ex Unit Bool)) → Exit → St → Prop :=
  LQ 0 [] (m_plant_link_1_S0 x) (m_plant_link_1_B0 x) m_plant_link_1_R
section
variable (x : Link) (r_ : Bool) (u1 : Bool) (u3 : Bool) (u5 : Bool) (u0 : Int) (u2 : Bool) (u4 : Bool)
abbrev k36 : List CV := [(cI x.a), (cI x.b), (cI x.kind), (cI x.most), (cI x.ohm), (.d (slD none 2 Trip.cell x.trip))]
abbrev k37 : List (Nat × Option Ob) := [(5, some (.cells 53 (k36 x)))]
abbrev k41 := (bif (!r_) then true else (!u1))
abbrev k40 := (bif (k41 r_ u1) then true else (decide (x.a = x.b)))
abbrev k39 := (bif (k40 x r_ u1) then true else (!u3))
abbrev k38 := (bif (k39 x r_ u1 u3) then true else (!u5))
abbrev k42 := (ybf [(7, (!r_)), (16, (k41 r_ u1)), (23, (k40 x r_ u1)), (29, (k39 x r_ u1 u3)), (35, (k38 x r_ u1 u3 u5))])
abbrev k43 := ((at' x.trip u0.toNat).millis)
abbrev k44 := (decide (((at' x.trip u0.toNat).amps) ≤ ((at' x.trip ((k13 u0).toNat)).amps)))
abbrev k45 := (ybf [(4, (!u2)), (10, (k41 u2 u4)), (13, (decide (0 < u0))), (24, (k44 x u0))])
abbrev k47 := (decide ((x.trip.length : Int) ≤ 6))
abbrev k48 := (decide ((x.trip.length : Int) = 0))
abbrev k46 := (bif (k47 x) then (bif (k48 x) then true else (decide (x.kind = 3))) else false)
end
theorem m_plant_link_1_ok (x : Link) (x1 : Int) (u6 : (List Source)) (u7 : (List Link)) (u8 : (List Rack)) {r : Bool} (h : m_plant_link_1 x x1 u6 u7 u8 = some r) : Fn Try.prog 138 [(.agg (k36 x)), (sD (k10 x1 u6 u7 u8))] [] (vB r) [] := by
 refine fN tT Try.func138 rfl rfl fun B => ?_
 show AWp _ _ _ _ _ _ (m_plant_link_1_R r) _
 unfold m_plant_link_1 at h
 refine sz tT ⟨[(k11 x1 u6 u7 u8), (2, (vP 5 0))], (k37 x)⟩ { fr := [(0, 5)] } [] ?_
 refine aQ (aQ (bE h fun r_ hr_ h => ?_))
 refine bE h fun u1 hr_1 h => ?_
 refine bE h fun u3 hr_2 h => ?_
 refine bE h fun u5 hr_3 h => ?_
 refine bE h fun u9 hr_4 h => ?_
 have q0 := m_plant_within_ok x.a 0 (k13 x1) hr_
 refine rg tT ⟨[(2, (vP 5 0)), (46, (vB (bif (k38 x r_ u1 u3 u5) then true else (!u9))))], (k37 x)⟩ (_ :: (eqs (!r_) 6 ((gP (k42 x r_ u1 u3 u5) [(7, false)] → All [Fn Try.prog 94 [(sI x.b), (sI 0), (sI (k13 x1))] [] (vB u1) []]) :: (eqs (!r_) 2 (eqs (k41 r_ u1) 6 (eqs (k40 x r_ u1) 3 ((gP (k42 x r_ u1 u3 u5) [(23, false)] → All [Fn Try.prog 94 [(sI x.kind), (sI 1), (sI 3)] [] (vB u3) []]) :: (eqs (k40 x r_ u1) 2 (eqs (k39 x r_ u1 u3) 3 ((gP (k42 x r_ u1 u3 u5) [(29, false)] → All [Fn Try.prog 94 [(sI x.most), (sI 1), (sI 100000)] [] (vB u5) []]) :: (eqs (k39 x r_ u1 u3) 2 (eqs (k38 x r_ u1 u3 u5) 3 ((gP (k42 x r_ u1 u3 u5) [(35, false)] → All [Fn Try.prog 94 [(sI x.ohm), (sI 10), (sI 100000)] [] (vB u9) []]) :: (eqs (k38 x r_ u1 u3 u5) 2 [])))))))))))))) { yb := [(7, (!r_)), (16, (k41 r_ u1)), (23, (k40 x r_ u1)), (29, (k39 x r_ u1 u3)), (35, (k38 x r_ u1 u3 u5))], an := [(5, cA q0 []), (13, .call [] (vB u1) []), (26, .call [] (vB u3) []), (32, .call [] (vB u5) []), (38, .call [] (vB u9) [])] } [] ⟨q0, (ae ⟨(fun hg => ⟨(m_plant_within_ok x.b 0 (k13 x1) (gcall hr_1 (gB_of hg))), trivial⟩), (ae (ae (ae ⟨(fun hg => ⟨(m_plant_within_ok x.kind 1 3 (gcall hr_2 (gB_of hg))), trivial⟩), (ae (ae ⟨(fun hg => ⟨(m_plant_within_ok x.most 1 100000 (gcall hr_3 (gB_of hg))), trivial⟩), (ae (ae ⟨(fun hg => ⟨(m_plant_within_ok x.ohm 10 100000 (gcall hr_4 (gB_of hg))), trivial⟩), (ae trivial)⟩))⟩))⟩)))⟩)⟩ ?_
 refine bI h (fun hb2 h => ?_) (fun hb2 h => ?_)
 ·refine ct hb2 ?_
  refine sz tT ⟨[(3, (vB false))], []⟩ {} [] ?_
  refine aR ?_
  obtain rfl := oi h
  exact rq [(sB false)] (.refl _)
 ·refine cf hb2 ?_
  refine aP (aQ (sz tT ⟨[(k32 x), (k33 x), (k34 x), (50, (vI 0))], []⟩ {} [5] ?_))
  refine bE h fun y hy h => ?_
  refine aL [] (m_plant_link_1_S0 x) (m_plant_link_1_B0 x) m_plant_link_1_R hy (fun s f h => ?_) ?_
  ·clear hy
   show AWp _ _ _ _ _ _ ((m_plant_link_1_Q0 x) f) _
   unfold m_plant_link_1_L0 at h
   obtain ⟨u0, rfl⟩ : ∃ q, q = s := ⟨_, rfl⟩
   refine sz tT ⟨[(k32 x), (k33 x), (k34 x), (50, (vI u0)), (51, (vB (decide (u0 < (x.trip.length : Int)))))], []⟩ {} [] ?_
   refine aQ ?_
   refine bI h (fun hb1 h => ?_) (fun hb1 h => ?_)
   ·refine ct hb1 ?_
    refine aP (aQ (aB (aQ (aO h fun a1 h => ?_))))
    refine rg tT ⟨[(k32 x), (4, (vI u0)), (5, (vD (ipT [(.int .i64 ((at' x.trip u0.toNat).amps)), (.int .i64 (k43 x u0))] 0))), (k33 x), (k34 x), (50, (vI u0))], []⟩ [_] { fr := [(3, 9)] } [9] ⟨a1, trivial⟩ ?_
    refine aQ (bE h fun u2 hr_5 h => ?_)
    refine bE h fun u4 hr_6 h => ?_
    refine aO h fun ⟨a1, a2⟩ h => ?_
    have q0 := m_plant_within_ok ((at' x.trip u0.toNat).amps) 1 1000000 hr_5
    refine dg tT mX ⟨[(k32 x), (k33 x), (k34 x), (50, (vI u0)), (92, (vB (bif (k41 u2 u4) then true else (bif (decide (0 < u0)) then (bif (k44 x u0) then true else (decide (((at' x.trip ((k13 u0).toNat)).millis) ≤ (k43 x u0)))) else false))))], []⟩ (_ :: (eqs (!u2) 3 ((gP (k45 x u0 u2 u4) [(4, false)] → All [Fn Try.prog 94 [(sI (k43 x u0)), (sI 1), (sI 100000)] [] (vB u4) []]) :: (eqs (!u2) 2 (eqs (k41 u2 u4) 3 (eqs (decide (0 < u0)) 7 ((gP (k45 x u0 u2 u4) [(13, true), (10, false)] → All [(0 : Int) ≤ (k13 u0) ∧ (k13 u0) < (x.trip.length : Int)]) :: (eqs (decide (0 < u0)) 4 (eqs (k44 x u0) 7 ((gP (k45 x u0 u2 u4) [(24, false), (13, true), (10, false)] → All [(0 : Int) ≤ (k13 u0) ∧ (k13 u0) < (x.trip.length : Int)]) :: (eqs (k44 x u0) 3 [(decide (0 < u0)) = (decide (0 < u0)), gP (k45 x u0 u2 u4) [(13, true), (10, false)] → All [(k44 x u0) = (k44 x u0)], (k41 u2 u4) = (k41 u2 u4), gP (k45 x u0 u2 u4) [(10, false)] → All [(decide (0 < u0)) = (decide (0 < u0))], (k41 u2 u4) = (k41 u2 u4)]))))))))))) { yb := [(4, (!u2)), (10, (k41 u2 u4)), (13, (decide (0 < u0))), (24, (k44 x u0))], an := [(2, cA q0 []), (7, .call [] (vB u4) [])] } [] ⟨q0, (ae ⟨(fun hg => ⟨(m_plant_within_ok (k43 x u0) 1 100000 (gcall hr_6 (gB_of hg))), trivial⟩), (ae (ae (ae ⟨(fun hg => ⟨(a1 (gB_of hg)), trivial⟩), (ae (ae ⟨(fun hg => ⟨(a2 (gB_of hg)), trivial⟩), (ae ⟨rfl, (fun hg => ⟨rfl, trivial⟩), rfl, (fun hg => ⟨rfl, trivial⟩), rfl, trivial⟩)⟩))⟩)))⟩)⟩ ?_
    refine bI h (fun hb h => ?_) (fun hb h => ?_)
    ·refine ct hb ?_
     refine sz tT ⟨[(3, (vB false))], []⟩ {} [] ?_
     refine aR ?_
     obtain rfl := oi h
     exact lR ret_nn (ret_ne 0) av_ret (RetQ.mk (.inr rfl) (p := []) (l := [(sB false)]) (by kernel_rfl) trivial (TLe.refl _) trivial)
    ·refine cf hb ?_
     refine aP (rz tT ⟨[(k32 x), (k33 x), (k34 x), (50, (k30 u0))], []⟩ {} [] ?_)
     obtain rfl := oi h
     exact lN (by kernel_rfl)
   ·refine cf hb1 ?_
    refine aI (fz (k35 x) []) ?_
    refine aX ?_
    obtain rfl := oi h
    exact lB (by kernel_rfl)
  ·clear hy
   cases y with
   | brk z =>
    unfold ExK
    refine ⟨_, .refl, ?_⟩
    refine sg tT ⟨[(3, (vB (k46 x)))], []⟩ (eqs (k47 x) 5 (eqs (k48 x) 3 [(k47 x) = (k47 x), gP (ybf [(4, (k47 x)), (9, (k48 x))]) [(4, true)] → All [(k48 x) = (k48 x)], (k47 x) = (k47 x)])) { yb := [(4, (k47 x)), (9, (k48 x))] } [] (ae (ae ⟨rfl, (fun hg => ⟨rfl, trivial⟩), rfl, trivial⟩)) ?_
    refine aR ?_
    obtain rfl := oi h
    exact rq [(sB (k46 x))] (.refl _)
   | ret v =>
    obtain rfl := oi h
    unfold ExK
    intro e st hn ha hR
    cases e with
    | normal => exact absurd rfl hn
    | exit id => exact hR
    | goto l => exact hR
    | ret => exact hR
    | panic c => exact hR
    | outgrown => exact hR
def m_plant_good_1137_R  : Bool → Exit → St → Prop :=
  fun r => RetQ TT [.tmp 3] (vB r) []
section
variable (x1 : Int) (u0 : (List Source)) (u1 : (List Link)) (u2 : (List Rack))
abbrev k49 : DV := (ipT [(.fn 138 1 (k21 x1 u0 u1 u2))] 0)
abbrev k50 : TV := (vD (k49 x1 u0 u1 u2))
end
theorem m_plant_good_1137_ok (x : Link) (x1 : Int) (u0 : (List Source)) (u1 : (List Link)) (u2 : (List Rack)) {r : Bool} (h : m_plant_good_1137 x x1 u0 u1 u2 = some r) : Fn Try.prog 137 [(.agg (k36 x)), (sD (k49 x1 u0 u1 u2))] [] (vB r) [] := by
 refine fN tT Try.func137 rfl rfl fun B => ?_
 show AWp _ _ _ _ _ _ (m_plant_good_1137_R r) _
 unfold m_plant_good_1137 at h
 refine sz tT ⟨[(1, (k50 x1 u0 u1 u2)), (k32 x)], []⟩ { fr := [(0, 1)] } [1] ?_
 refine aQ (bE h fun r_ hr_ h => ?_)
 have q0 := m_plant_link_1_ok x x1 u0 u1 u2 hr_
 refine rg tT ⟨[(3, (vB (!r_)))], []⟩ [_] { an := [(2, cA q0 [])] } [] ⟨q0, trivial⟩ ?_
 refine aR ?_
 obtain rfl := oi h
 exact rq [(sB (!r_))] (.refl _)
def m_slices_IndexFunc151_R  : Int → Exit → St → Prop :=
  fun r => RetQ TT [.tmp 4] (vI r) []
section
variable (s_ : (List Link)) (f_ : Int) (u0 : (List Source)) (u1 : (List Link)) (u2 : (List Rack))
abbrev k51 : Nat × TV := (0, (vD (slD none 6 Link.cell s_)))
abbrev k53 := (capF [(k49 f_ u0 u1 u2)])
abbrev k52 : Nat × TV := (1, (vD (.fn 137 1 (k53 f_ u0 u1 u2))))
abbrev k54 : Nat × TV := (7, (vI (s_.length : Int)))
end
def m_slices_IndexFunc151_S0 (s_ : (List Link)) (f_ : Int) (u0 : (List Source)) (u1 : (List Link)) (u2 : (List Rack)) : Int → St :=
  fun t8 => ⟨[(k51 s_), (k52 f_ u0 u1 u2), (k54 s_), (8, (vI t8))], []⟩
def m_slices_IndexFunc151_B0  : Unit → St :=
  fun _ => ⟨[], []⟩
def m_slices_IndexFunc151_Q0 (s_ : (List Link)) (f_ : Int) (u0 : (List Source)) (u1 : (List Link)) (u2 : (List Rack)) : (Flow Int (Ex Unit Int)) → Exit → St → Prop :=
  LQ 0 [] (m_slices_IndexFunc151_S0 s_ f_ u0 u1 u2) m_slices_IndexFunc151_B0 m_slices_IndexFunc151_R
section
variable (s_ : (List Link)) (f_ : Int) (u0 : (List Source)) (u1 : (List Link)) (u2 : (List Rack))
abbrev k55 : List SV := [(sD (slD none 6 Link.cell s_)), (sD (.fn 137 1 (k53 f_ u0 u1 u2)))]
abbrev k56 : St := ⟨[(k51 s_), (k52 f_ u0 u1 u2)], []⟩
end
theorem m_slices_IndexFunc151_ok (s_ : (List Link)) (f_ : Int) (u0 : (List Source)) (u1 : (List Link)) (u2 : (List Rack)) {r : Int} (h : m_slices_IndexFunc151 s_ f_ u0 u1 u2 = some r) : Fn Try.prog 151 (k55 s_ f_ u0 u1 u2) [] (vI r) [] := by
 refine fN tT Try.func151 rfl rfl fun B => ?_
 show AWp _ _ _ _ _ _ (m_slices_IndexFunc151_R r) _
 unfold m_slices_IndexFunc151 at h
 refine sz tT (k56 s_ f_ u0 u1 u2) {} [] ?_
 refine aQ (sz tT ⟨[(k51 s_), (k52 f_ u0 u1 u2), (k54 s_), (8, (vI 0))], []⟩ {} [] ?_)
 refine bE h fun y hy h => ?_
 refine aL [] (m_slices_IndexFunc151_S0 s_ f_ u0 u1 u2) m_slices_IndexFunc151_B0 m_slices_IndexFunc151_R hy (fun s f h => ?_) ?_
 ·clear hy
  show AWp _ _ _ _ _ _ ((m_slices_IndexFunc151_Q0 s_ f_ u0 u1 u2) f) _
  unfold m_slices_IndexFunc151_L0 at h
  obtain ⟨t8, rfl⟩ : ∃ q, q = s := ⟨_, rfl⟩
  refine sz tT ⟨[(k51 s_), (k52 f_ u0 u1 u2), (k54 s_), (8, (vI t8)), (9, (vB (decide (t8 < (s_.length : Int)))))], []⟩ {} [] ?_
  refine aQ ?_
  refine bI h (fun hb1 h => ?_) (fun hb1 h => ?_)
  ·refine ct hb1 ?_
   refine aP (aQ (aB (sz tT ⟨[(k51 s_), (k52 f_ u0 u1 u2), (5, (vI t8)), (k54 s_), (8, (vI t8))], []⟩ {} [] ?_)))
   refine aQ (bE h fun r_ hr_ h => ?_)
   refine aO h fun a1 h => ?_
   have q1 := m_plant_good_1137_ok (at' s_ t8.toNat) f_ u0 u1 u2 hr_
   refine rg tT ⟨[(k51 s_), (k52 f_ u0 u1 u2), (5, (vI t8)), (k54 s_), (8, (vI t8)), (16, (vB r_))], []⟩ [_, _] { an := [(5, cA q1 [])] } [] ⟨a1, q1, trivial⟩ ?_
   refine bI h (fun hb h => ?_) (fun hb h => ?_)
   ·refine ct hb ?_
    refine sz tT ⟨[(4, (vI t8))], []⟩ {} [] ?_
    refine aR ?_
    obtain rfl := oi h
    exact lR ret_nn (ret_ne 0) av_ret (RetQ.mk (.inr rfl) (p := []) (l := [(sI t8)]) (by kernel_rfl) trivial (TLe.refl _) trivial)
   ·refine cf hb ?_
    refine aP (rz tT ⟨[(k51 s_), (k52 f_ u0 u1 u2), (k54 s_), (k29 t8)], []⟩ {} [] ?_)
    obtain rfl := oi h
    exact lN (by kernel_rfl)
  ·refine cf hb1 ?_
   refine aI (fz ⟨[], []⟩ []) ?_
   refine aX ?_
   obtain rfl := oi h
   exact lB (by kernel_rfl)
 ·clear hy
  cases y with
  | brk z =>
   unfold ExK
   refine ⟨_, .refl, ?_⟩
   refine sz tT ⟨[(4, (vI (-1)))], []⟩ {} [] ?_
   refine aR ?_
   obtain rfl := oi h
   exact rq [(sI (-1))] (.refl _)
  | ret v =>
   obtain rfl := oi h
   unfold ExK
   intro e st hn ha hR
   cases e with
   | normal => exact absurd rfl hn
   | exit id => exact hR
   | goto l => exact hR
   | ret => exact hR
   | panic c => exact hR
   | outgrown => exact hR
def m_slices_ContainsFunc136_R  : Bool → Exit → St → Prop :=
  fun r => RetQ TT [.tmp 4] (vB r) []
theorem m_slices_ContainsFunc136_ok (s_ : (List Link)) (f_ : Int) (u0 : (List Source)) (u1 : (List Link)) (u2 : (List Rack)) {r : Bool} (h : m_slices_ContainsFunc136 s_ f_ u0 u1 u2 = some r) : Fn Try.prog 136 (k55 s_ f_ u0 u1 u2) [] (vB r) [] := by
 refine fN tT Try.func136 rfl rfl fun B => ?_
 show AWp _ _ _ _ _ _ (m_slices_ContainsFunc136_R r) _
 unfold m_slices_ContainsFunc136 at h
 refine sz tT (k56 s_ f_ u0 u1 u2) {} [] ?_
 refine aQ (bE h fun r_ hr_ h => ?_)
 have q0 := m_slices_IndexFunc151_ok s_ f_ u0 u1 u2 hr_
 refine rg tT (k31 r_) [_] { an := [(2, cA q0 [])] } [] ⟨q0, trivial⟩ ?_
 refine aR ?_
 obtain rfl := oi h
 exact rq [(sB (decide (0 ≤ r_)))] (.refl _)
def m_plant_good97_R  : Bool → Exit → St → Prop :=
  fun r => RetQ TT [.tmp 6] (vB r) []
theorem m_plant_good97_ok (l : (List Link)) (u0 : Int) (u1 : Int) (u2 : (List Source)) (u3 : (List Link)) (u4 : (List Rack)) {r : Bool} (h : m_plant_good97 l u0 u1 u2 u3 u4 = some r) : Fn Try.prog 97 [(sD (slD none 6 Link.cell l)), (sI u0), (sD (.fn 138 1 (k21 u1 u2 u3 u4)))] [] (vB r) [] := by
 refine fN tT Try.func97 rfl rfl fun B => ?_
 show AWp _ _ _ _ _ _ (m_plant_good97_R r) _
 unfold m_plant_good97 at h
 refine sz tT ⟨[(k51 l), (1, (vI u0)), (5, (k50 u1 u2 u3 u4))], []⟩ { fr := [(0, 1)] } [1] ?_
 refine aQ (bE h fun r_ hr_ h => ?_)
 refine rg tT ⟨[(6, (vB (bif (decide ((l.length : Int) ≤ u0)) then (!r_) else false)))], []⟩ (eqs (decide ((l.length : Int) ≤ u0)) 3 ((gP (ybf [(4, (decide ((l.length : Int) ≤ u0)))]) [(4, true)] → All [Fn Try.prog 136 (k55 l u1 u2 u3 u4) [] (vB r_) []]) :: (eqs (decide ((l.length : Int) ≤ u0)) 2 []))) { yb := [(4, (decide ((l.length : Int) ≤ u0)))], an := [(7, .call [] (vB r_) [])] } [] (ae ⟨(fun hg => ⟨(m_slices_ContainsFunc136_ok l u1 u2 u3 u4 (gcall hr_ (gB_of hg))), trivial⟩), (ae trivial)⟩) ?_
 refine aR ?_
 obtain rfl := oi h
 exact rq [(sB (bif (decide ((l.length : Int) ≤ u0)) then (!r_) else false))] (.refl _)
def m_plant_feeds_R  : Int → Exit → St → Prop :=
  fun r => RetQ TT [.tmp 2] (vI r) []
section
variable (x : Rack)
abbrev k57 : List CV := [(cI x.feeds.e0), (cI x.feeds.e1), (cI x.power), (cI x.paths)]
abbrev k58 : TV := (vD (ipT [(.int .i64 x.feeds.e0), (.int .i64 x.feeds.e1), (.int .i64 x.power), (.int .i64 x.paths)] 0))
end
theorem m_plant_feeds_ok (x : Rack) {r : Int} (h : m_plant_feeds x = some r) : Fn Try.prog 142 [(.agg (k57 x))] [] (vI r) [] := by
 refine fN tT Try.func142 rfl rfl fun B => ?_
 show AWp _ _ _ _ _ _ (m_plant_feeds_R r) _
 unfold m_plant_feeds at h
 refine sz tT ⟨[(1, (k58 x))], []⟩ { fr := [(0, 1)] } [1] ?_
 refine aQ (sg tT ⟨[(6, (vB (decide (x.feeds.e1 = (-1)))))], []⟩ [(0 : Int) ≤ 1 ∧ (1 : Int) < (2 : Nat)] {} [] ⟨((by decide)), trivial⟩ ?_)
 refine bI h (fun hb h => ?_) (fun hb h => ?_)
 ·refine ct hb ?_
  refine sz tT ⟨[(2, (vI 1))], []⟩ {} [] ?_
  refine aR ?_
  obtain rfl := oi h
  exact rq [(sI 1)] (.refl _)
 ·refine cf hb ?_
  refine aP (sz tT ⟨[(2, (vI 2))], []⟩ {} [] ?_)
  refine aR ?_
  obtain rfl := oi h
  exact rq [(sI 2)] (.refl _)
def m_plant_rack_1_R  : Bool → Exit → St → Prop :=
  fun r => RetQ TT [.tmp 3] (vB r) []
section
variable (x : Rack) (r_ : Bool) (u0 : Bool) (u1 : Bool) (u6 : Bool)
abbrev k59 : Nat × TV := (2, (k58 x))
abbrev k62 := (bif (k17 r_ u0) then (!decide (x.feeds.e0 = x.feeds.e1)) else false)
abbrev k61 := (bif (k62 x r_ u0) then u1 else false)
abbrev k60 := (bif (k61 x r_ u0 u1) then u6 else false)
abbrev k63 := (ybf [(5, r_), (12, (k17 r_ u0)), (17, (k62 x r_ u0)), (22, (k61 x r_ u0 u1))])
end
theorem m_plant_rack_1_ok (x : Rack) (x1 : Int) (u2 : (List Source)) (u3 : (List Link)) (u4 : (List Rack)) {r : Bool} (h : m_plant_rack_1 x x1 u2 u3 u4 = some r) : Fn Try.prog 141 [(.agg (k57 x)), (sD (k10 x1 u2 u3 u4))] [] (vB r) [] := by
 refine fN tT Try.func141 rfl rfl fun B => ?_
 show AWp _ _ _ _ _ _ (m_plant_rack_1_R r) _
 unfold m_plant_rack_1 at h
 refine sz tT ⟨[(k11 x1 u2 u3 u4), (k59 x)], []⟩ { fr := [(0, 1)] } [1] ?_
 refine sd tT mX ⟨[(k11 x1 u2 u3 u4), (k59 x), (4, (vI x.feeds.e0)), (5, (vI x.feeds.e1))], []⟩ [(0 : Int) ≤ 0 ∧ (0 : Int) < (2 : Nat), (0 : Int) ≤ 1 ∧ (1 : Int) < (2 : Nat)] {} [] ⟨((by decide)), ((by decide)), trivial⟩ ?_
 refine aQ (bE h fun r_ hr_ h => ?_)
 refine bE h fun u0 hr_1 h => ?_
 refine bE h fun u1 hr_2 h => ?_
 refine bE h fun u5 hr_3 h => ?_
 refine bE h fun u6 hr_4 h => ?_
 have q0 := m_plant_within_ok x.feeds.e0 0 (k13 x1) hr_
 refine dg tT mX ⟨[(3, (vB (k60 x r_ u0 u1 u6)))], []⟩ (_ :: (eqs r_ 5 ((gP (k63 x r_ u0 u1) [(5, true)] → All [Fn Try.prog 94 [(sI x.feeds.e1), (sI (-1)), (sI (k13 x1))] [] (vB u0) []]) :: (r_ = r_) :: (eqs (k17 r_ u0) 4 (eqs (k62 x r_ u0) 3 ((gP (k63 x r_ u0 u1) [(17, true)] → All [Fn Try.prog 94 [(sI x.power), (sI 1), (sI 100000)] [] (vB u1) []]) :: ((k62 x r_ u0) = (k62 x r_ u0)) :: (eqs (k61 x r_ u0 u1) 4 [gP (k63 x r_ u0 u1) [(22, true)] → All [Fn Try.prog 142 [(.agg (k57 x))] [] (vI u5) []], (k61 x r_ u0 u1) = (k61 x r_ u0 u1), gP (k63 x r_ u0 u1) [(22, true)] → All [Fn Try.prog 94 [(sI x.paths), (sI 0), (sI u5)] [] (vB u6) []], (k61 x r_ u0 u1) = (k61 x r_ u0 u1)]))))))) { yb := [(5, r_), (12, (k17 r_ u0)), (17, (k62 x r_ u0)), (22, (k61 x r_ u0 u1))], an := [(4, cA q0 []), (10, .call [] (vB u0) []), (20, .call [] (vB u1) []), (26, .call [] (vI u5) []), (27, .call [] (vB u6) [])] } [] ⟨q0, (ae ⟨(fun hg => ⟨(m_plant_within_ok x.feeds.e1 (-1) (k13 x1) (gcall hr_1 (gB_of hg))), trivial⟩), rfl, (ae (ae ⟨(fun hg => ⟨(m_plant_within_ok x.power 1 100000 (gcall hr_2 (gB_of hg))), trivial⟩), rfl, (ae ⟨(fun hg => ⟨(m_plant_feeds_ok x (gcall hr_3 (gB_of hg))), trivial⟩), rfl, (fun hg => ⟨(m_plant_within_ok x.paths 0 u5 (gcall hr_4 (gB_of hg))), trivial⟩), rfl, trivial⟩)⟩))⟩)⟩ ?_
 refine aR ?_
 obtain rfl := oi h
 exact rq [(sB (k60 x r_ u0 u1 u6))] (.refl _)
def m_plant_good_1140_R  : Bool → Exit → St → Prop :=
  fun r => RetQ TT [.tmp 3] (vB r) []
section
variable (x1 : Int) (u0 : (List Source)) (u1 : (List Link)) (u2 : (List Rack))
abbrev k64 : DV := (ipT [(.fn 141 1 (k21 x1 u0 u1 u2))] 0)
abbrev k65 : TV := (vD (k64 x1 u0 u1 u2))
end
theorem m_plant_good_1140_ok (x : Rack) (x1 : Int) (u0 : (List Source)) (u1 : (List Link)) (u2 : (List Rack)) {r : Bool} (h : m_plant_good_1140 x x1 u0 u1 u2 = some r) : Fn Try.prog 140 [(.agg (k57 x)), (sD (k64 x1 u0 u1 u2))] [] (vB r) [] := by
 refine fN tT Try.func140 rfl rfl fun B => ?_
 show AWp _ _ _ _ _ _ (m_plant_good_1140_R r) _
 unfold m_plant_good_1140 at h
 refine sz tT ⟨[(1, (k65 x1 u0 u1 u2)), (k59 x)], []⟩ { fr := [(0, 1)] } [1] ?_
 refine aQ (bE h fun r_ hr_ h => ?_)
 have q0 := m_plant_rack_1_ok x x1 u0 u1 u2 hr_
 refine rg tT ⟨[(3, (vB (!r_)))], []⟩ [_] { an := [(2, cA q0 [])] } [] ⟨q0, trivial⟩ ?_
 refine aR ?_
 obtain rfl := oi h
 exact rq [(sB (!r_))] (.refl _)
def m_slices_IndexFunc152_R  : Int → Exit → St → Prop :=
  fun r => RetQ TT [.tmp 4] (vI r) []
section
variable (s_ : (List Rack)) (f_ : Int) (u0 : (List Source)) (u1 : (List Link)) (u2 : (List Rack))
abbrev k66 : Nat × TV := (0, (vD (slD none 4 Rack.cell s_)))
abbrev k68 := (capF [(k64 f_ u0 u1 u2)])
abbrev k67 : Nat × TV := (1, (vD (.fn 140 1 (k68 f_ u0 u1 u2))))
abbrev k69 : Nat × TV := (7, (vI (s_.length : Int)))
end
def m_slices_IndexFunc152_S0 (s_ : (List Rack)) (f_ : Int) (u0 : (List Source)) (u1 : (List Link)) (u2 : (List Rack)) : Int → St :=
  fun t8 => ⟨[(k66 s_), (k67 f_ u0 u1 u2), (k69 s_), (8, (vI t8))], []⟩
def m_slices_IndexFunc152_B0  : Unit → St :=
  fun _ => ⟨[], []⟩
def m_slices_IndexFunc152_Q0 (s_ : (List Rack)) (f_ : Int) (u0 : (List Source)) (u1 : (List Link)) (u2 : (List Rack)) : (Flow Int (Ex Unit Int)) → Exit → St → Prop :=
  LQ 0 [] (m_slices_IndexFunc152_S0 s_ f_ u0 u1 u2) m_slices_IndexFunc152_B0 m_slices_IndexFunc152_R
section
variable (s_ : (List Rack)) (f_ : Int) (u0 : (List Source)) (u1 : (List Link)) (u2 : (List Rack))
abbrev k70 : List SV := [(sD (slD none 4 Rack.cell s_)), (sD (.fn 140 1 (k68 f_ u0 u1 u2)))]
abbrev k71 : St := ⟨[(k66 s_), (k67 f_ u0 u1 u2)], []⟩
end
theorem m_slices_IndexFunc152_ok (s_ : (List Rack)) (f_ : Int) (u0 : (List Source)) (u1 : (List Link)) (u2 : (List Rack)) {r : Int} (h : m_slices_IndexFunc152 s_ f_ u0 u1 u2 = some r) : Fn Try.prog 152 (k70 s_ f_ u0 u1 u2) [] (vI r) [] := by
 refine fN tT Try.func152 rfl rfl fun B => ?_
 show AWp _ _ _ _ _ _ (m_slices_IndexFunc152_R r) _
 unfold m_slices_IndexFunc152 at h
 refine sz tT (k71 s_ f_ u0 u1 u2) {} [] ?_
 refine aQ (sz tT ⟨[(k66 s_), (k67 f_ u0 u1 u2), (k69 s_), (8, (vI 0))], []⟩ {} [] ?_)
 refine bE h fun y hy h => ?_
 refine aL [] (m_slices_IndexFunc152_S0 s_ f_ u0 u1 u2) m_slices_IndexFunc152_B0 m_slices_IndexFunc152_R hy (fun s f h => ?_) ?_
 ·clear hy
  show AWp _ _ _ _ _ _ ((m_slices_IndexFunc152_Q0 s_ f_ u0 u1 u2) f) _
  unfold m_slices_IndexFunc152_L0 at h
  obtain ⟨t8, rfl⟩ : ∃ q, q = s := ⟨_, rfl⟩
  refine sz tT ⟨[(k66 s_), (k67 f_ u0 u1 u2), (k69 s_), (8, (vI t8)), (9, (vB (decide (t8 < (s_.length : Int)))))], []⟩ {} [] ?_
  refine aQ ?_
  refine bI h (fun hb1 h => ?_) (fun hb1 h => ?_)
  ·refine ct hb1 ?_
   refine aP (aQ (aB (sz tT ⟨[(k66 s_), (k67 f_ u0 u1 u2), (5, (vI t8)), (k69 s_), (8, (vI t8))], []⟩ {} [] ?_)))
   refine aQ (bE h fun r_ hr_ h => ?_)
   refine aO h fun a1 h => ?_
   have q1 := m_plant_good_1140_ok (⟨((at' s_ t8.toNat).feeds), (at' s_ t8.toNat).power, (at' s_ t8.toNat).paths⟩ : Rack) f_ u0 u1 u2 hr_
   refine rg tT ⟨[(k66 s_), (k67 f_ u0 u1 u2), (5, (vI t8)), (k69 s_), (8, (vI t8)), (16, (vB r_))], []⟩ [_, _] { an := [(5, cA q1 [])] } [] ⟨a1, q1, trivial⟩ ?_
   refine bI h (fun hb h => ?_) (fun hb h => ?_)
   ·refine ct hb ?_
    refine sz tT ⟨[(4, (vI t8))], []⟩ {} [] ?_
    refine aR ?_
    obtain rfl := oi h
    exact lR ret_nn (ret_ne 0) av_ret (RetQ.mk (.inr rfl) (p := []) (l := [(sI t8)]) (by kernel_rfl) trivial (TLe.refl _) trivial)
   ·refine cf hb ?_
    refine aP (rz tT ⟨[(k66 s_), (k67 f_ u0 u1 u2), (k69 s_), (k29 t8)], []⟩ {} [] ?_)
    obtain rfl := oi h
    exact lN (by kernel_rfl)
  ·refine cf hb1 ?_
   refine aI (fz ⟨[], []⟩ []) ?_
   refine aX ?_
   obtain rfl := oi h
   exact lB (by kernel_rfl)
 ·clear hy
  cases y with
  | brk z =>
   unfold ExK
   refine ⟨_, .refl, ?_⟩
   refine sz tT ⟨[(4, (vI (-1)))], []⟩ {} [] ?_
   refine aR ?_
   obtain rfl := oi h
   exact rq [(sI (-1))] (.refl _)
  | ret v =>
   obtain rfl := oi h
   unfold ExK
   intro e st hn ha hR
   cases e with
   | normal => exact absurd rfl hn
   | exit id => exact hR
   | goto l => exact hR
   | ret => exact hR
   | panic c => exact hR
   | outgrown => exact hR
def m_slices_ContainsFunc139_R  : Bool → Exit → St → Prop :=
  fun r => RetQ TT [.tmp 4] (vB r) []
theorem m_slices_ContainsFunc139_ok (s_ : (List Rack)) (f_ : Int) (u0 : (List Source)) (u1 : (List Link)) (u2 : (List Rack)) {r : Bool} (h : m_slices_ContainsFunc139 s_ f_ u0 u1 u2 = some r) : Fn Try.prog 139 (k70 s_ f_ u0 u1 u2) [] (vB r) [] := by
 refine fN tT Try.func139 rfl rfl fun B => ?_
 show AWp _ _ _ _ _ _ (m_slices_ContainsFunc139_R r) _
 unfold m_slices_ContainsFunc139 at h
 refine sz tT (k71 s_ f_ u0 u1 u2) {} [] ?_
 refine aQ (bE h fun r_ hr_ h => ?_)
 have q0 := m_slices_IndexFunc152_ok s_ f_ u0 u1 u2 hr_
 refine rg tT (k31 r_) [_] { an := [(2, cA q0 [])] } [] ⟨q0, trivial⟩ ?_
 refine aR ?_
 obtain rfl := oi h
 exact rq [(sB (decide (0 ≤ r_)))] (.refl _)
def m_plant_good99_R  : Bool → Exit → St → Prop :=
  fun r => RetQ TT [.tmp 6] (vB r) []
theorem m_plant_good99_ok (l : (List Rack)) (u0 : Int) (u1 : Int) (u2 : (List Source)) (u3 : (List Link)) (u4 : (List Rack)) {r : Bool} (h : m_plant_good99 l u0 u1 u2 u3 u4 = some r) : Fn Try.prog 99 [(sD (slD none 4 Rack.cell l)), (sI u0), (sD (.fn 141 1 (k21 u1 u2 u3 u4)))] [] (vB r) [] := by
 refine fN tT Try.func99 rfl rfl fun B => ?_
 show AWp _ _ _ _ _ _ (m_plant_good99_R r) _
 unfold m_plant_good99 at h
 refine sz tT ⟨[(k66 l), (1, (vI u0)), (5, (k65 u1 u2 u3 u4))], []⟩ { fr := [(0, 1)] } [1] ?_
 refine aQ (bE h fun r_ hr_ h => ?_)
 refine rg tT ⟨[(6, (vB (bif (decide ((l.length : Int) ≤ u0)) then (!r_) else false)))], []⟩ (eqs (decide ((l.length : Int) ≤ u0)) 3 ((gP (ybf [(4, (decide ((l.length : Int) ≤ u0)))]) [(4, true)] → All [Fn Try.prog 139 (k70 l u1 u2 u3 u4) [] (vB r_) []]) :: (eqs (decide ((l.length : Int) ≤ u0)) 2 []))) { yb := [(4, (decide ((l.length : Int) ≤ u0)))], an := [(7, .call [] (vB r_) [])] } [] (ae ⟨(fun hg => ⟨(m_slices_ContainsFunc139_ok l u1 u2 u3 u4 (gcall hr_ (gB_of hg))), trivial⟩), (ae trivial)⟩) ?_
 refine aR ?_
 obtain rfl := oi h
 exact rq [(sB (bif (decide ((l.length : Int) ≤ u0)) then (!r_) else false))] (.refl _)
def m_plant_Check_R  : Int → Exit → St → Prop :=
  fun r => RetQ TT [.tmp 2] (vI r) []
theorem m_plant_Check_ok (p : Plant) {r : Int} (h : m_plant_Check p = some r) : Fn Try.prog 58 (k0 p) [] (vI r) [] := by
 refine fN tT Try.func58 rfl rfl fun B => ?_
 show AWp _ _ _ _ _ _ (m_plant_Check_R r) _
 unfold m_plant_Check at h
 refine sz tT (k5 p) { fr := [(0, 1)] } [1] ?_
 refine aQ (aB (aQ (bE h fun r_ hr_ h => ?_)))
 have q0 := m_plant_within_ok p.buses 1 24 hr_
 refine rg tT ⟨[(k6 p), (3, (vB (!r_)))], []⟩ [_] { an := [(2, cA q0 [])] } [] ⟨q0, trivial⟩ ?_
 refine bI h (fun hb3 h => ?_) (fun hb3 h => ?_)
 ·refine ct hb3 ?_
  refine sz tT ⟨[(2, (vI 10))], []⟩ {} [] ?_
  refine aR ?_
  obtain rfl := oi h
  exact rq [(sI 10)] (.refl _)
 ·refine cf hb3 ?_
  refine aQ (bE h fun u0 hr_1 h => ?_)
  refine bE h fun u3 hr_2 h => ?_
  have q0 := m_plant_source_ok p hr_1
  have q1 := m_plant_good_ok p.sources 8 u0.1 u0.2.1 u0.2.2.1 u0.2.2.2 hr_2
  refine dg tT mX ⟨[(k6 p), (8, (vB (!u3)))], []⟩ [_, _] { an := [(3, cA q0 []), (4, cA q1 [])] } [] ⟨q0, q1, trivial⟩ ?_
  refine bI h (fun hb2 h => ?_) (fun hb2 h => ?_)
  ·refine ct hb2 ?_
   refine sz tT ⟨[(2, (vI 11))], []⟩ {} [] ?_
   refine aR ?_
   obtain rfl := oi h
   exact rq [(sI 11)] (.refl _)
  ·refine cf hb2 ?_
   refine aQ (bE h fun u1 hr_3 h => ?_)
   refine bE h fun u4 hr_4 h => ?_
   have q0 := m_plant_link_ok p hr_3
   have q1 := m_plant_good97_ok p.links 40 u1.1 u1.2.1 u1.2.2.1 u1.2.2.2 hr_4
   refine dg tT mX ⟨[(k6 p), (15, (vB (!u4)))], []⟩ [_, _] { an := [(3, cA q0 []), (4, cA q1 [])] } [] ⟨q0, q1, trivial⟩ ?_
   refine bI h (fun hb1 h => ?_) (fun hb1 h => ?_)
   ·refine ct hb1 ?_
    refine sz tT ⟨[(2, (vI 12))], []⟩ {} [] ?_
    refine aR ?_
    obtain rfl := oi h
    exact rq [(sI 12)] (.refl _)
   ·refine cf hb1 ?_
    refine aQ (bE h fun u2 hr_5 h => ?_)
    refine bE h fun u5 hr_6 h => ?_
    have q0 := m_plant_rack_ok p hr_5
    have q1 := m_plant_good99_ok p.racks 24 u2.1 u2.2.1 u2.2.2.1 u2.2.2.2 hr_6
    refine dg tT mX ⟨[(22, (vB (!u5)))], []⟩ [_, _] { an := [(3, cA q0 []), (4, cA q1 [])] } [] ⟨q0, q1, trivial⟩ ?_
    refine bI h (fun hb h => ?_) (fun hb h => ?_)
    ·refine ct hb ?_
     refine sz tT ⟨[(2, (vI 13))], []⟩ {} [] ?_
     refine aR ?_
     obtain rfl := oi h
     exact rq [(sI 13)] (.refl _)
    ·refine cf hb ?_
     refine aP (sz tT ⟨[(2, (vI 0))], []⟩ {} [] ?_)
     refine aR ?_
     obtain rfl := oi h
     exact rq [(sI 0)] (.refl _)
def m_plant_CheckState_R  : Int → Exit → St → Prop :=
  fun r => RetQ TT [.tmp 4] (vI r) []
section
variable (s_ : State) (p : Plant)
abbrev k75 : DV := (slD none 1 boolC s_.closed)
abbrev k76 : DV := (slD none 1 boolC s_.locked)
abbrev k77 : DV := (slD none 1 boolC s_.badLink)
abbrev k78 : DV := (slD none 1 boolC s_.on_)
abbrev k79 : DV := (slD none 1 boolC s_.badSource)
abbrev k80 : DV := (slD none 1 boolC s_.earthed)
abbrev k81 : DV := (slD none 1 boolC s_.badBus)
abbrev k74 : DV := (ipT [(k75 s_), (k76 s_), (k77 s_), (k78 s_), (k79 s_), (k80 s_), (k81 s_)] 0)
abbrev k73 : TV := (vD (k74 s_))
abbrev k72 : Nat × TV := (3, (k73 s_))
abbrev k83 := (⟨s_.closed, (p.links.length : Int)⟩ : S128)
abbrev k84 := (⟨s_.locked, (p.links.length : Int)⟩ : S128)
abbrev k85 := (⟨s_.badLink, (p.links.length : Int)⟩ : S128)
abbrev k86 := (⟨s_.on_, (p.sources.length : Int)⟩ : S128)
abbrev k87 := (⟨s_.badSource, (p.sources.length : Int)⟩ : S128)
abbrev k88 := (⟨s_.earthed, p.buses⟩ : S128)
abbrev k89 := (⟨s_.badBus, p.buses⟩ : S128)
abbrev k82 : Nat × TV := (53, (vO 13 true ([(k83 s_ p), (k84 s_ p), (k85 s_ p), (k86 s_ p), (k87 s_ p), (k88 s_ p), (k89 s_ p)].length)))
abbrev k90 : Nat × TV := (54, (vI ([(k83 s_ p), (k84 s_ p), (k85 s_ p), (k86 s_ p), (k87 s_ p), (k88 s_ p), (k89 s_ p)].length : Int)))
abbrev k93 : Ob := (.cells 26 (k1 p))
abbrev k92 : Nat × Option Ob := (11, some (k93 p))
abbrev k91 : List (Nat × Option Ob) := [(k92 p), (13, some (arD 128 2 S128.cell [(k83 s_ p), (k84 s_ p), (k85 s_ p), (k86 s_ p), (k87 s_ p), (k88 s_ p), (k89 s_ p)]))]
end
def m_plant_CheckState_S0 (p : Plant) (s_ : State) : Int → St :=
  fun u0 => ⟨[(2, (vP 11 0)), (k72 s_), (k82 s_ p), (k90 s_ p), (55, (vI u0))], (k91 s_ p)⟩
section
variable (s_ : State) (p : Plant)
abbrev k94 : St := ⟨[(2, (vP 11 0)), (k72 s_)], [(k92 p)]⟩
end
def m_plant_CheckState_B0 (p : Plant) (s_ : State) : Unit → St :=
  fun _ => (k94 s_ p)
def m_plant_CheckState_Q0 (p : Plant) (s_ : State) : (Flow Int (Ex Unit Int)) → Exit → St → Prop :=
  LQ 0 [] (m_plant_CheckState_S0 p s_) (m_plant_CheckState_B0 p s_) m_plant_CheckState_R
section
variable (p : Plant)
abbrev k95 : Nat × TV := (67, (vD (k3 p)))
abbrev k96 : Nat × TV := (68, (vI (p.links.length : Int)))
end
def m_plant_CheckState_S1 (p : Plant) (s_ : State) : Int → St :=
  fun u0 => ⟨[(k72 s_), (k95 p), (k96 p), (69, (vI u0))], []⟩
def m_plant_CheckState_B1  : Unit → St :=
  fun _ => ⟨[], []⟩
def m_plant_CheckState_Q1 (p : Plant) (s_ : State) : (Flow Int (Ex Unit Int)) → Exit → St → Prop :=
  LQ 2 [] (m_plant_CheckState_S1 p s_) m_plant_CheckState_B1 m_plant_CheckState_R
section
variable (s_ : State) (p : Plant) (u1 : Int) (u0 : Int)
abbrev k98 : List CV := [(.d (k75 s_)), (.d (k76 s_)), (.d (k77 s_)), (.d (k78 s_)), (.d (k79 s_)), (.d (k80 s_)), (.d (k81 s_))]
abbrev k97 : List SV := [(.agg (k1 p)), (.agg (k98 s_))]
abbrev k100 : Ob := (.cells 29 (k98 s_))
abbrev k99 : List (Nat × Option Ob) := [(k92 p), (12, some (k100 s_))]
abbrev k101 := (elOf S128.cell [(k83 s_ p), (k84 s_ p), (k85 s_ p), (k86 s_ p), (k87 s_ p), (k88 s_ p), (k89 s_ p)])
abbrev k103 := (at' [(k83 s_ p), (k84 s_ p), (k85 s_ p), (k86 s_ p), (k87 s_ p), (k88 s_ p), (k89 s_ p)] u1.toNat)
abbrev k102 := ((k103 s_ p u1).l)
abbrev k104 := ((k103 s_ p u1).n)
abbrev k106 : TV := (vD (ipT [(.int .i64 ((at' p.links u0.toNat).a)), (.int .i64 ((at' p.links u0.toNat).b)), (.int .i64 ((at' p.links u0.toNat).kind)), (.int .i64 ((at' p.links u0.toNat).most)), (.int .i64 ((at' p.links u0.toNat).ohm)), (slD none 2 Trip.cell ((at' p.links u0.toNat).trip))] 0))
abbrev k105 : Nat × TV := (11, (k106 p u0))
abbrev k107 := (decide (((at' p.links u0.toNat).kind) = 1))
abbrev k108 := (!(at' s_.closed u0.toNat))
abbrev k109 := (ybf [(3, (k107 p u0)), (10, (k108 s_ u0))])
end
theorem m_plant_CheckState_ok (p : Plant) (s_ : State) {r : Int} (h : m_plant_CheckState p s_ = some r) : Fn Try.prog 12 (k97 s_ p) [] (vI r) [] := by
 refine fN tT Try.func12 rfl rfl fun B => ?_
 show AWp _ _ _ _ _ _ (m_plant_CheckState_R r) _
 unfold m_plant_CheckState at h
 refine sz tT ⟨[(2, (vP 11 0)), (3, (vP 12 0))], (k99 s_ p)⟩ { fr := [(0, 11), (1, 12)] } [] ?_
 refine aQ (aQ (bE h fun r_ hr_ h => ?_))
 have q0 := m_plant_Check_ok p hr_
 refine rg tT ⟨[(2, (vP 11 0)), (3, (vP 12 0)), (5, (vI r_))], (k99 s_ p)⟩ [_] { an := [(1, cA q0 [])] } [] ⟨q0, trivial⟩ ?_
 refine sz tT ⟨[(2, (vP 11 0)), (3, (vP 12 0)), (5, (vI r_)), (15, (vB (!decide (r_ = 0))))], (k99 s_ p)⟩ {} [] ?_
 refine bI h (fun hb4 h => ?_) (fun hb4 h => ?_)
 ·refine ct hb4 ?_
  refine sz tT ⟨[(4, (vI r_))], []⟩ {} [] ?_
  refine aR ?_
  obtain rfl := oi h
  exact rq [(sI r_)] (.refl _)
 ·refine cf hb4 ?_
  refine aP (sd tT mX ⟨[(2, (vP 11 0)), (3, (vP 12 0)), (6, (vI (p.links.length : Int))), (7, (vI (p.sources.length : Int)))], (k99 s_ p)⟩ [] {} [] trivial ?_)
  refine aQ (sg tT ⟨[(2, (vP 11 0)), (k72 s_), (k82 s_ p), (k90 s_ p), (55, (vI 0))], (k91 s_ p)⟩ [[(k83 s_ p), (k84 s_ p), (k85 s_ p), (k86 s_ p), (k87 s_ p), (k88 s_ p), (k89 s_ p)].length = 7, ArrEq 7 2 (elL 2 [(k75 s_), (.int .i64 (p.links.length : Int)), (k76 s_), (.int .i64 (p.links.length : Int)), (k77 s_), (.int .i64 (p.links.length : Int)), (k78 s_), (.int .i64 (p.sources.length : Int)), (k79 s_), (.int .i64 (p.sources.length : Int)), (k80 s_), (.int .i64 p.buses), (k81 s_), (.int .i64 p.buses)]) (k101 s_ p)] { an := [(30, .arr [(k83 s_ p), (k84 s_ p), (k85 s_ p), (k86 s_ p), (k87 s_ p), (k88 s_ p), (k89 s_ p)].length (k101 s_ p))], fr := [(30, 13)] } [12] ⟨(rfl), ((by intro i hi j hj; match i, j, hi, hj with | 0, 0, _, _ => rfl | 0, 1, _, _ => rfl | 1, 0, _, _ => rfl | 1, 1, _, _ => rfl | 2, 0, _, _ => rfl | 2, 1, _, _ => rfl | 3, 0, _, _ => rfl | 3, 1, _, _ => rfl | 4, 0, _, _ => rfl | 4, 1, _, _ => rfl | 5, 0, _, _ => rfl | 5, 1, _, _ => rfl | 6, 0, _, _ => rfl | 6, 1, _, _ => rfl)), trivial⟩ ?_)
  refine bE h fun y hy h => ?_
  refine aL [] (m_plant_CheckState_S0 p s_) (m_plant_CheckState_B0 p s_) m_plant_CheckState_R hy (fun s f h => ?_) ?_
  ·clear hy
   show AWp _ _ _ _ _ _ ((m_plant_CheckState_Q0 p s_) f) _
   unfold m_plant_CheckState_L0 at h
   obtain ⟨u1, rfl⟩ : ∃ q, q = s := ⟨_, rfl⟩
   refine sz tT ⟨[(2, (vP 11 0)), (k72 s_), (k82 s_ p), (k90 s_ p), (55, (vI u1)), (56, (vB (decide (u1 < ([(k83 s_ p), (k84 s_ p), (k85 s_ p), (k86 s_ p), (k87 s_ p), (k88 s_ p), (k89 s_ p)].length : Int)))))], (k91 s_ p)⟩ {} [] ?_
   refine aQ ?_
   refine bI h (fun hb1 h => ?_) (fun hb1 h => ?_)
   ·refine ct hb1 ?_
    refine aP (aQ (aB (aQ (aO h fun a1 h => ?_))))
    refine rg tT ⟨[(2, (vP 11 0)), (k72 s_), (9, (vD (ipT [(slD none 1 boolC (k102 s_ p u1)), (.int .i64 (k104 s_ p u1))] 0))), (k82 s_ p), (k90 s_ p), (55, (vI u1))], (k91 s_ p)⟩ [_, _] { fr := [(2, 17)] } [17] ⟨a1, (tL a1), trivial⟩ ?_
    refine sz tT ⟨[(2, (vP 11 0)), (k72 s_), (k82 s_ p), (k90 s_ p), (55, (vI u1)), (64, (vB (!decide (((k102 s_ p u1).length : Int) = (k104 s_ p u1)))))], (k91 s_ p)⟩ {} [] ?_
    refine bI h (fun hb h => ?_) (fun hb h => ?_)
    ·refine ct hb ?_
     refine sz tT ⟨[(4, (vI 9))], []⟩ {} [] ?_
     refine aR ?_
     obtain rfl := oi h
     exact lR ret_nn (ret_ne 0) av_ret (RetQ.mk (.inr rfl) (p := []) (l := [(sI 9)]) (by kernel_rfl) trivial (TLe.refl _) trivial)
    ·refine cf hb ?_
     refine aP (rz tT ⟨[(2, (vP 11 0)), (k72 s_), (k82 s_ p), (k90 s_ p), (55, (k30 u1))], (k91 s_ p)⟩ {} [] ?_)
     obtain rfl := oi h
     exact lN (by kernel_rfl)
   ·refine cf hb1 ?_
    refine aI (fz (k94 s_ p) []) ?_
    refine aX ?_
    obtain rfl := oi h
    exact lB (by kernel_rfl)
  ·clear hy
   cases y with
   | brk z =>
    unfold ExK
    refine ⟨_, .refl, ?_⟩
    refine aQ (sz tT ⟨[(k72 s_), (k95 p), (k96 p), (69, (vI 0))], []⟩ {} [] ?_)
    refine bE h fun y1 hy h => ?_
    refine aL [] (m_plant_CheckState_S1 p s_) m_plant_CheckState_B1 m_plant_CheckState_R hy (fun s f h => ?_) ?_
    ·clear hy
     show AWp _ _ _ _ _ _ ((m_plant_CheckState_Q1 p s_) f) _
     unfold m_plant_CheckState_L1 at h
     obtain ⟨u0, rfl⟩ : ∃ q, q = s := ⟨_, rfl⟩
     refine sz tT ⟨[(k72 s_), (k95 p), (k96 p), (69, (vI u0)), (70, (vB (decide (u0 < (p.links.length : Int)))))], []⟩ {} [] ?_
     refine aQ ?_
     refine bI h (fun hb3 h => ?_) (fun hb3 h => ?_)
     ·refine ct hb3 ?_
      refine aP (aQ (aB (aQ (aO h fun a1 h => ?_))))
      refine rg tT ⟨[(k72 s_), (10, (vI u0)), (k105 p u0), (k95 p), (k96 p), (69, (vI u0))], []⟩ [_] { fr := [(3, 21)] } [21] ⟨a1, trivial⟩ ?_
      refine aQ (aO h fun ⟨a1, a2⟩ h => ?_)
      refine rg tT ⟨[(k72 s_), (k95 p), (k96 p), (69, (vI u0)), (91, (vB (bif (k107 p u0) then (bif (k108 s_ u0) then true else (at' s_.locked u0.toNat)) else false)))], []⟩ (eqs (k107 p u0) 4 ((gP (k109 s_ p u0) [(3, true)] → All [(0 : Int) ≤ u0 ∧ u0 < (s_.closed.length : Int)]) :: (eqs (k107 p u0) 3 (eqs (k108 s_ u0) 4 [gP (k109 s_ p u0) [(10, false), (3, true)] → All [(0 : Int) ≤ u0 ∧ u0 < (s_.locked.length : Int)], (k108 s_ u0) = (k108 s_ u0), (k107 p u0) = (k107 p u0), gP (k109 s_ p u0) [(3, true)] → All [(k108 s_ u0) = (k108 s_ u0)], (k107 p u0) = (k107 p u0)])))) { yb := [(3, (k107 p u0)), (10, (k108 s_ u0))] } [] (ae ⟨(fun hg => ⟨(a1 (gB_of hg)), trivial⟩), (ae (ae ⟨(fun hg => ⟨(a2 (gB_of hg)), trivial⟩), rfl, rfl, (fun hg => ⟨rfl, trivial⟩), rfl, trivial⟩))⟩) ?_
      refine bI h (fun hb2 h => ?_) (fun hb2 h => ?_)
      ·refine ct hb2 ?_
       refine sz tT ⟨[(4, (vI 9))], []⟩ {} [] ?_
       refine aR ?_
       obtain rfl := oi h
       exact lR ret_nn (ret_ne 2) av_ret (RetQ.mk (.inr rfl) (p := []) (l := [(sI 9)]) (by kernel_rfl) trivial (TLe.refl _) trivial)
      ·refine cf hb2 ?_
       refine aP (rz tT ⟨[(k72 s_), (k95 p), (k96 p), (69, (k30 u0))], []⟩ {} [] ?_)
       obtain rfl := oi h
       exact lN (by kernel_rfl)
     ·refine cf hb3 ?_
      refine aI (fz ⟨[], []⟩ []) ?_
      refine aX ?_
      obtain rfl := oi h
      exact lB (by kernel_rfl)
    ·clear hy
     cases y1 with
     | brk z =>
      unfold ExK
      refine ⟨_, .refl, ?_⟩
      refine sz tT ⟨[(4, (vI 0))], []⟩ {} [] ?_
      refine aR ?_
      obtain rfl := oi h
      exact rq [(sI 0)] (.refl _)
     | ret v =>
      obtain rfl := oi h
      unfold ExK
      intro e st hn ha hR
      cases e with
      | normal => exact absurd rfl hn
      | exit id => exact hR
      | goto l => exact hR
      | ret => exact hR
      | panic c => exact hR
      | outgrown => exact hR
   | ret v =>
    obtain rfl := oi h
    unfold ExK
    intro e st hn ha hR
    cases e with
    | normal => exact absurd rfl hn
    | exit id => exact hR
    | goto l => exact hR
    | ret => exact hR
    | panic c => exact hR
    | outgrown => exact hR
def m_slices_Clone_v1_R  : (List Bool) → Exit → St → Prop :=
  fun r => RetQ TT [.tmp 2] (vO 0 false r.length) [(0, some (arD 4 1 boolC r))]
theorem m_slices_Clone_v1_ok (s_ : (List Bool)) (u0 : Bool) {r : (List Bool)} (h : m_slices_Clone s_ u0 = some r) : Fn Try.prog 106 [(sD (slD (some u0) 1 boolC s_))] [] (vO 0 false r.length) [(0, some (arD 4 1 boolC r))] := by
 refine fN tT Try.func106 rfl rfl fun B => ?_
 show AWp _ _ _ _ _ _ (m_slices_Clone_v1_R r) _
 unfold m_slices_Clone at h
 refine sz tT ⟨[(0, (vD (slD (some u0) 1 boolC s_)))], []⟩ {} [] ?_
 refine aQ (sz tT ⟨[(0, (vD (slD (some u0) 1 boolC s_))), (4, (vB (!u0)))], []⟩ {} [] ?_)
 refine bI h (fun hb h => ?_) (fun hb h => ?_)
 ·refine ct hb ?_
  refine sz tT ⟨[(2, (vD nS))], []⟩ {} [] ?_
  refine aI (.trans (Imp.adopt (t := 2) (b := 2) (esz0 := 0) (el0 := fun _ _ => .nilp) (E := 4) (esz := 1) (el := elOf boolC ([] : List Bool)) (by kernel_rfl) (by kernel_rfl)) (.trans (Imp.fin (st' := ⟨[(2, (vO 0 false 0))], [(0, some (.arr 4 1 0 (elOf boolC ([] : List Bool))))]⟩) (cs := []) ⟨[], [(2, 0)]⟩ [2] (by kernel_rfl) trivial) (Imp.le (st' := ⟨[(2, (vO 0 false (([] : List Bool).length)))], [(0, some (arD 4 1 boolC ([] : List Bool)))]⟩) ⟨⟨⟨_, rfl, TLe.v (SLe.one cW)⟩, trivial⟩, ⟨rfl, oW, trivial⟩⟩))) ?_
  refine aR ?_
  obtain rfl := oi h
  exact rh [(.one (.own 0 false (([] : List Bool).length)))] (.refl _) ⟨rfl, .refl _, trivial⟩
 ·refine cf hb ?_
  refine aP (aQ (aO h fun ⟨a1, a2⟩ h => ?_))
  refine rg tT ⟨[(2, (vO 4 false ((([] : List Bool) ++ s_).length)))], [(4, some (arD 4 1 boolC (([] : List Bool) ++ s_)))]⟩ [([] : List Bool).length = 0, ArrEq 0 1 (elL 1 []) (elOf boolC ([] : List Bool)), ([] : List Bool).length = ([] : List Bool).length, _, _, (([] : List Bool) ++ s_).length = ([] : List Bool).length + s_.length, ArrEq (([] : List Bool).length + s_.length) 1 (apEl (elOf boolC ([] : List Bool)) ([] : List Bool).length (elOf boolC s_)) (elOf boolC (([] : List Bool) ++ s_))] { an := [(0, .arr ([] : List Bool).length (elOf boolC ([] : List Bool))), (2, .arr (([] : List Bool) ++ s_).length (elOf boolC (([] : List Bool) ++ s_)))], fr := [(0, 3), (2, 4)] } [] ⟨(rfl), ((fun i hi => absurd hi (Nat.not_lt_zero i))), rfl, a1, a2, (List.length_append), (arrEq_app _ _ _ _), trivial⟩ ?_
  refine aI (Imp.fin (st' := ⟨[(2, (vO 0 false ((([] : List Bool) ++ s_).length)))], [(0, some (arD 4 1 boolC (([] : List Bool) ++ s_)))]⟩) (cs := []) ⟨[], [(4, 0)]⟩ [2] (by kernel_rfl) trivial) ?_
  refine aR ?_
  obtain rfl := oi h
  exact rh [(.one (.own 0 false ((([] : List Bool) ++ s_).length)))] (.refl _) ⟨rfl, .refl _, trivial⟩
theorem m_slices_Clone_v1_a_ok (s : (List Bool)) {r : (List Bool)} (h : m_slices_Clone_a s = some r) : Fn Try.prog 106 [(sD (slD none 1 boolC s))] [] (vO 0 false r.length) [(0, some (arD 4 1 boolC r))] := by
 refine Fn.nn (m_slices_Clone_v1_ok s true h) fun hl => ?_
 have hs : s = [] := List.eq_nil_of_length_eq_zero hl
 subst hs
 exact m_slices_Clone_v1_ok [] false (by rw [← h]; kernel_rfl)
def m_guard_copied_R  : State → Exit → St → Prop :=
  fun r => RetQ TT [.cell 2 29] (.v (.agg [(.d (slD none 1 boolC r.closed)), (.d (slD none 1 boolC r.locked)), (.d (slD none 1 boolC r.badLink)), (.d (slD none 1 boolC r.on_)), (.d (slD none 1 boolC r.badSource)), (.d (slD none 1 boolC r.earthed)), (.d (slD none 1 boolC r.badBus))])) []
section
variable (s_ : State) (r_ : (List Bool)) (u0 : (List Bool)) (u1 : (List Bool)) (u2 : (List Bool)) (u3 : (List Bool)) (u4 : (List Bool)) (u5 : (List Bool))
abbrev k110 : List SV := [(.agg (k98 s_))]
abbrev k113 : Ob := (.cells 29 [(.d nS), (.d nS), (.d nS), (.d nS), (.d nS), (.d nS), (.d nS)])
abbrev k112 : Nat × Option Ob := (10, some k113)
abbrev k111 : St := ⟨[(1, (k73 s_)), (2, (vP 10 0))], [k112]⟩
abbrev k114 : List CV := [(.d (slD none 1 boolC r_)), (.d (slD none 1 boolC u0)), (.d (slD none 1 boolC u1)), (.d (slD none 1 boolC u2)), (.d (slD none 1 boolC u3)), (.d (slD none 1 boolC u4)), (.d (slD none 1 boolC u5))]
abbrev k116 : DV := (ipT [(slD none 1 boolC r_), (slD none 1 boolC u0), (slD none 1 boolC u1), (slD none 1 boolC u2), (slD none 1 boolC u3), (slD none 1 boolC u4), (slD none 1 boolC u5)] 0)
abbrev k115 : Nat × TV := (2, (vD (k116 r_ u0 u1 u2 u3 u4 u5)))
end
theorem m_guard_copied_ok (s_ : State) {r : State} (h : m_guard_copied s_ = some r) : Fn Try.prog 62 (k110 s_) [] (.v (.agg [(.d (slD none 1 boolC r.closed)), (.d (slD none 1 boolC r.locked)), (.d (slD none 1 boolC r.badLink)), (.d (slD none 1 boolC r.on_)), (.d (slD none 1 boolC r.badSource)), (.d (slD none 1 boolC r.earthed)), (.d (slD none 1 boolC r.badBus))])) [] := by
 refine fN tT Try.func62 rfl rfl fun B => ?_
 show AWp _ _ _ _ _ _ (m_guard_copied_R r) _
 unfold m_guard_copied at h
 refine sz tT (k111 s_) { fr := [(0, 9), (1, 10)] } [9] ?_
 refine aQ (bE h fun r_ hr_ h => ?_)
 refine bE h fun u0 hr_1 h => ?_
 refine bE h fun u1 hr_2 h => ?_
 refine bE h fun u2 hr_3 h => ?_
 refine bE h fun u3 hr_4 h => ?_
 refine bE h fun u4 hr_5 h => ?_
 refine bE h fun u5 hr_6 h => ?_
 have q0 := rk [(0, 11)] (m_slices_Clone_v1_a_ok s_.closed hr_)
 have q1 := rk [(0, 12)] (m_slices_Clone_v1_a_ok s_.locked hr_1)
 have q2 := rk [(0, 13)] (m_slices_Clone_v1_a_ok s_.badLink hr_2)
 have q3 := rk [(0, 14)] (m_slices_Clone_v1_a_ok s_.on_ hr_3)
 have q4 := rk [(0, 15)] (m_slices_Clone_v1_a_ok s_.badSource hr_4)
 have q5 := rk [(0, 16)] (m_slices_Clone_v1_a_ok s_.earthed hr_5)
 have q6 := rk [(0, 17)] (m_slices_Clone_v1_a_ok s_.badBus hr_6)
 refine di tT mX ⟨[(2, (vP 10 0))], [(10, some (.cells 29 (k114 r_ u0 u1 u2 u3 u4 u5)))]⟩ [_, _, _, _, _, _, _, r_.length = r_.length, u0.length = u0.length, u1.length = u1.length, u2.length = u2.length, u3.length = u3.length, u4.length = u4.length, u5.length = u5.length] { an := [(2, cA q0 []), (5, cA q1 []), (8, cA q2 []), (11, cA q3 []), (14, cA q4 []), (17, cA q5 []), (20, cA q6 [])] } [11, 12, 13, 14, 15, 16, 17] ⟨q0, q1, q2, q3, q4, q5, q6, rfl, rfl, rfl, rfl, rfl, rfl, rfl, trivial⟩ (fz ⟨[(k115 r_ u0 u1 u2 u3 u4 u5)], []⟩ [10]) ?_
 refine aR ?_
 obtain rfl := oi h
 exact rq [(.agg (k114 r_ u0 u1 u2 u3 u4 u5))] (.refl _)
def m_flow_feeds_R  : Bool → Exit → St → Prop :=
  fun r => RetQ TT [.tmp 6] (vB r) []
section
variable (p : Plant) (s_ : State) (k : Int)
abbrev k117 : List SV := [(.agg (k1 p)), (.agg (k98 s_)), (sI k)]
abbrev k119 : Nat × TV := (3, (k7 p))
abbrev k120 : Nat × TV := (4, (k73 s_))
abbrev k118 : St := ⟨[(2, (vI k)), (k119 p), (k120 s_)], []⟩
abbrev k123 := (bif (at' s_.on_ k.toNat) then (!(at' s_.badSource k.toNat)) else false)
abbrev k124 := ((at' p.sources k.toNat).bus)
abbrev k122 := (bif (k123 s_ k) then (!(at' s_.badBus ((k124 p k).toNat))) else false)
abbrev k121 : TV := (vB (k122 p s_ k))
abbrev k126 := (ybf [(5, (at' s_.on_ k.toNat)), (13, (k123 s_ k))])
abbrev k125 := (gP (k126 s_ k) [(5, true)] → All [(0 : Int) ≤ k ∧ k < (s_.badSource.length : Int)])
abbrev k127 := ((gP (k126 s_ k) [(13, true)] → All [(0 : Int) ≤ (at' p.sources k.toNat).bus ∧ (at' p.sources k.toNat).bus < (s_.badBus.length : Int)]) :: (eqs (k123 s_ k) 3 []))
end
theorem m_flow_feeds_ok (p : Plant) (s_ : State) (k : Int) {r : Bool} (h : m_flow_feeds p s_ k = some r) : Fn Try.prog 65 (k117 p s_ k) [] (vB r) [] := by
 refine fN tT Try.func65 rfl rfl fun B => ?_
 show AWp _ _ _ _ _ _ (m_flow_feeds_R r) _
 unfold m_flow_feeds at h
 refine sz tT (k118 p s_ k) { fr := [(0, 2), (1, 3)] } [2, 3] ?_
 refine aQ (aO h fun ⟨a1, a2, a3, a4⟩ h => ?_)
 refine dg tT mX ⟨[(6, (k121 p s_ k))], []⟩ (_ :: (eqs (at' s_.on_ k.toNat) 4 ((k125 s_ k) :: (eqs (at' s_.on_ k.toNat) 3 (eqs (k123 s_ k) 6 ((gP (k126 s_ k) [(13, true)] → All [(0 : Int) ≤ k ∧ k < (p.sources.length : Int)]) :: (eqs (k123 s_ k) 3 (k127 p s_ k)))))))) { yb := [(5, (at' s_.on_ k.toNat)), (13, (k123 s_ k))] } [] ⟨a1, (ae ⟨(fun hg => ⟨(a2 (gB_of hg)), trivial⟩), (ae (ae ⟨(fun hg => ⟨(a3 (gB_of hg)), trivial⟩), (ae ⟨(fun hg => ⟨(a4 (gB_of hg)), trivial⟩), (ae trivial)⟩)⟩))⟩)⟩ ?_
 refine aR ?_
 obtain rfl := oi h
 exact rq [(sB (k122 p s_ k))] (.refl _)
def m_flow_conducts_R  : Bool → Exit → St → Prop :=
  fun r => RetQ TT [.tmp 6] (vB r) []
section
variable (s_ : State) (i : Int) (p : Plant)
abbrev k130 := (bif (at' s_.closed i.toNat) then (!(at' s_.badLink i.toNat)) else false)
abbrev k129 := (bif (k130 s_ i) then (!(at' s_.badBus (((at' p.links i.toNat).a).toNat))) else false)
abbrev k128 := (bif (k129 s_ i p) then (!(at' s_.badBus (((at' p.links i.toNat).b).toNat))) else false)
abbrev k131 := (ybf [(5, (at' s_.closed i.toNat)), (13, (k130 s_ i)), (22, (k129 s_ i p))])
end
theorem m_flow_conducts_ok (p : Plant) (s_ : State) (i : Int) {r : Bool} (h : m_flow_conducts p s_ i = some r) : Fn Try.prog 78 (k117 p s_ i) [] (vB r) [] := by
 refine fN tT Try.func78 rfl rfl fun B => ?_
 show AWp _ _ _ _ _ _ (m_flow_conducts_R r) _
 unfold m_flow_conducts at h
 refine sz tT ⟨[(2, (vI i)), (3, (vP 3 0)), (k120 s_)], [(3, some (k93 p))]⟩ { fr := [(0, 3), (1, 4)] } [4] ?_
 refine aQ (aO h fun a1 h => ?_)
 refine rg tT ⟨[(2, (vI i)), (k120 s_), (7, (k106 p i))], []⟩ [_] { fr := [(5, 5)] } [5] ⟨a1, trivial⟩ ?_
 refine aQ (aO h fun ⟨a1, a2, a3, a4⟩ h => ?_)
 refine rg tT ⟨[(6, (vB (k128 s_ i p)))], []⟩ (_ :: (eqs (at' s_.closed i.toNat) 4 ((gP (k131 s_ i p) [(5, true)] → All [(0 : Int) ≤ i ∧ i < (s_.badLink.length : Int)]) :: (eqs (at' s_.closed i.toNat) 3 (eqs (k130 s_ i) 5 ((gP (k131 s_ i p) [(13, true)] → All [(0 : Int) ≤ (at' p.links i.toNat).a ∧ (at' p.links i.toNat).a < (s_.badBus.length : Int)]) :: (eqs (k130 s_ i) 3 (eqs (k129 s_ i p) 5 ((gP (k131 s_ i p) [(22, true)] → All [(0 : Int) ≤ (at' p.links i.toNat).b ∧ (at' p.links i.toNat).b < (s_.badBus.length : Int)]) :: (eqs (k129 s_ i p) 3 [])))))))))) { yb := [(5, (at' s_.closed i.toNat)), (13, (k130 s_ i)), (22, (k129 s_ i p))] } [] ⟨a1, (ae ⟨(fun hg => ⟨(a2 (gB_of hg)), trivial⟩), (ae (ae ⟨(fun hg => ⟨(a3 (gB_of hg)), trivial⟩), (ae (ae ⟨(fun hg => ⟨(a4 (gB_of hg)), trivial⟩), (ae trivial)⟩))⟩))⟩)⟩ ?_
 refine aR ?_
 obtain rfl := oi h
 exact rq [(sB (k128 s_ i p))] (.refl _)
def m_slices_Clone112_v1_R  : (List Int) → Exit → St → Prop :=
  fun r => RetQ TT [.tmp 2] (vO 0 false r.length) [(0, some (arD 3 1 (intC .i64) r))]
abbrev k132 : Ob := (arD 3 1 (intC .i64) ([] : List Int))
theorem m_slices_Clone112_v1_ok (s_ : (List Int)) (u0 : Bool) {r : (List Int)} (h : m_slices_Clone112 s_ u0 = some r) : Fn Try.prog 112 [(sD (slD (some u0) 1 (intC .i64) s_))] [] (vO 0 false r.length) [(0, some (arD 3 1 (intC .i64) r))] := by
 refine fN tT Try.func112 rfl rfl fun B => ?_
 show AWp _ _ _ _ _ _ (m_slices_Clone112_v1_R r) _
 unfold m_slices_Clone112 at h
 refine sz tT ⟨[(0, (vD (slD (some u0) 1 (intC .i64) s_)))], []⟩ {} [] ?_
 refine aQ (sz tT ⟨[(0, (vD (slD (some u0) 1 (intC .i64) s_))), (4, (vB (!u0)))], []⟩ {} [] ?_)
 refine bI h (fun hb h => ?_) (fun hb h => ?_)
 ·refine ct hb ?_
  refine sz tT ⟨[(2, (vD nS))], []⟩ {} [] ?_
  refine aI (.trans (Imp.adopt (t := 2) (b := 2) (esz0 := 0) (el0 := fun _ _ => .nilp) (E := 3) (esz := 1) (el := elOf (intC .i64) ([] : List Int)) (by kernel_rfl) (by kernel_rfl)) (.trans (Imp.fin (st' := ⟨[(2, (vO 0 false 0))], [(0, some (.arr 3 1 0 (elOf (intC .i64) ([] : List Int))))]⟩) (cs := []) ⟨[], [(2, 0)]⟩ [2] (by kernel_rfl) trivial) (Imp.le (st' := ⟨[(2, (vO 0 false (([] : List Int).length)))], [(0, some k132)]⟩) ⟨⟨⟨_, rfl, TLe.v (SLe.one cW)⟩, trivial⟩, ⟨rfl, oW, trivial⟩⟩))) ?_
  refine aR ?_
  obtain rfl := oi h
  exact rh [(.one (.own 0 false (([] : List Int).length)))] (.refl _) ⟨rfl, .refl _, trivial⟩
 ·refine cf hb ?_
  refine aP (aQ (aO h fun ⟨a1, a2⟩ h => ?_))
  refine rg tT ⟨[(2, (vO 4 false ((([] : List Int) ++ s_).length)))], [(4, some (arD 3 1 (intC .i64) (([] : List Int) ++ s_)))]⟩ [([] : List Int).length = 0, ArrEq 0 1 (elL 1 []) (elOf (intC .i64) ([] : List Int)), ([] : List Int).length = ([] : List Int).length, _, _, (([] : List Int) ++ s_).length = ([] : List Int).length + s_.length, ArrEq (([] : List Int).length + s_.length) 1 (apEl (elOf (intC .i64) ([] : List Int)) ([] : List Int).length (elOf (intC .i64) s_)) (elOf (intC .i64) (([] : List Int) ++ s_))] { an := [(0, .arr ([] : List Int).length (elOf (intC .i64) ([] : List Int))), (2, .arr (([] : List Int) ++ s_).length (elOf (intC .i64) (([] : List Int) ++ s_)))], fr := [(0, 3), (2, 4)] } [] ⟨(rfl), ((fun i hi => absurd hi (Nat.not_lt_zero i))), rfl, a1, a2, (List.length_append), (arrEq_app _ _ _ _), trivial⟩ ?_
  refine aI (Imp.fin (st' := ⟨[(2, (vO 0 false ((([] : List Int) ++ s_).length)))], [(0, some (arD 3 1 (intC .i64) (([] : List Int) ++ s_)))]⟩) (cs := []) ⟨[], [(4, 0)]⟩ [2] (by kernel_rfl) trivial) ?_
  refine aR ?_
  obtain rfl := oi h
  exact rh [(.one (.own 0 false ((([] : List Int) ++ s_).length)))] (.refl _) ⟨rfl, .refl _, trivial⟩
theorem m_slices_Clone112_v1_a_ok (s : (List Int)) {r : (List Int)} (h : m_slices_Clone112_a s = some r) : Fn Try.prog 112 [(sD (slD none 1 (intC .i64) s))] [] (vO 0 false r.length) [(0, some (arD 3 1 (intC .i64) r))] := by
 refine Fn.nn (m_slices_Clone112_v1_ok s true h) fun hl => ?_
 have hs : s = [] := List.eq_nil_of_length_eq_zero hl
 subst hs
 exact m_slices_Clone112_v1_ok [] false (by rw [← h]; kernel_rfl)
def m_cmp_isNaN_R  : Bool → Exit → St → Prop :=
  fun r => RetQ TT [.tmp 2] (vB r) []
theorem m_cmp_isNaN_ok (x : Int) {r : Bool} (h : m_cmp_isNaN x = some r) : Fn Try.prog 154 [(sI x)] [] (vB r) [] := by
 refine fN tT Try.func154 rfl rfl fun B => ?_
 show AWp _ _ _ _ _ _ (m_cmp_isNaN_R r) _
 unfold m_cmp_isNaN at h
 refine sz tT ⟨[(0, (vI x))], []⟩ {} [] ?_
 refine sz tT ⟨[(2, (vB (!decide (x = x))))], []⟩ {} [] ?_
 refine aR ?_
 obtain rfl := oi h
 exact rq [(sB (!decide (x = x)))] (.refl _)
def m_cmp_Compare_R  : Int → Exit → St → Prop :=
  fun r => RetQ TT [.tmp 4] (vI r) []
theorem m_cmp_Compare_ok (x : Int) (y : Int) {r : Int} (h : m_cmp_Compare x y = some r) : Fn Try.prog 145 [(sI x), (sI y)] [] (vI r) [] := by
 refine fN tT Try.func145 rfl rfl fun B => ?_
 show AWp _ _ _ _ _ _ (m_cmp_Compare_R r) _
 unfold m_cmp_Compare at h
 refine sz tT ⟨[(0, (vI x)), (1, (vI y))], []⟩ {} [] ?_
 refine aQ (bE h fun r_ hr_ h => ?_)
 have q0 := m_cmp_isNaN_ok x hr_
 refine rg tT ⟨[(0, (vI x)), (1, (vI y)), (5, (vB r_))], []⟩ [_] { an := [(1, cA q0 [])] } [] ⟨q0, trivial⟩ ?_
 refine aQ (bE h fun u0 hr_1 h => ?_)
 have q0 := m_cmp_isNaN_ok y hr_1
 refine rg tT ⟨[(0, (vI x)), (1, (vI y)), (5, (vB r_)), (6, (vB u0))], []⟩ [_] { an := [(1, cA q0 [])] } [] ⟨q0, trivial⟩ ?_
 refine aQ (sz tT ⟨[(0, (vI x)), (1, (vI y)), (6, (vB u0)), (11, (vB r_))], []⟩ {} [] ?_)
 refine bI h (fun hb4 h => ?_) (fun hb4 h => ?_)
 ·refine ct hb4 ?_
  refine aQ (sz tT ⟨[(12, (vB u0))], []⟩ {} [] ?_)
  refine bI h (fun hb h => ?_) (fun hb h => ?_)
  ·refine ct hb ?_
   refine sz tT ⟨[(4, (vI 0))], []⟩ {} [] ?_
   refine aR ?_
   obtain rfl := oi h
   exact rq [(sI 0)] (.refl _)
  ·refine cf hb ?_
   refine aP (sz tT ⟨[(4, (vI (-1)))], []⟩ {} [] ?_)
   refine aR ?_
   obtain rfl := oi h
   exact rq [(sI (-1))] (.refl _)
 ·refine cf hb4 ?_
  refine aP (aQ (sz tT ⟨[(0, (vI x)), (1, (vI y)), (13, (vB u0))], []⟩ {} [] ?_))
  refine bI h (fun hb3 h => ?_) (fun hb3 h => ?_)
  ·refine ct hb3 ?_
   refine sz tT ⟨[(4, (vI 1))], []⟩ {} [] ?_
   refine aR ?_
   obtain rfl := oi h
   exact rq [(sI 1)] (.refl _)
  ·refine cf hb3 ?_
   refine aP (aQ (sz tT ⟨[(0, (vI x)), (1, (vI y)), (16, (vB (decide (x < y))))], []⟩ {} [] ?_))
   refine bI h (fun hb2 h => ?_) (fun hb2 h => ?_)
   ·refine ct hb2 ?_
    refine sz tT ⟨[(4, (vI (-1)))], []⟩ {} [] ?_
    refine aR ?_
    obtain rfl := oi h
    exact rq [(sI (-1))] (.refl _)
   ·refine cf hb2 ?_
    refine aP (aQ (sz tT ⟨[(19, (vB (decide (y < x))))], []⟩ {} [] ?_))
    refine bI h (fun hb1 h => ?_) (fun hb1 h => ?_)
    ·refine ct hb1 ?_
     refine sz tT ⟨[(4, (vI 1))], []⟩ {} [] ?_
     refine aR ?_
     obtain rfl := oi h
     exact rq [(sI 1)] (.refl _)
    ·refine cf hb1 ?_
     refine aP (sz tT ⟨[(4, (vI 0))], []⟩ {} [] ?_)
     refine aR ?_
     obtain rfl := oi h
     exact rq [(sI 0)] (.refl _)
def m_slices_Compare_R  : Int → Exit → St → Prop :=
  fun r => RetQ TT [.tmp 4] (vI r) []
section
variable (s1 : (List Int)) (s2 : (List Int))
abbrev k134 : DV := (slD none 1 (intC .i64) s1)
abbrev k133 : Nat × TV := (0, (vD (k134 s1)))
abbrev k135 : Nat × TV := (1, (vD (k134 s2)))
abbrev k136 : Nat × TV := (9, (vD (k134 s1)))
abbrev k137 : Nat × TV := (10, (vI (s1.length : Int)))
end
def m_slices_Compare_S0 (s1 : (List Int)) (s2 : (List Int)) : Int → St :=
  fun u0 => ⟨[(k133 s1), (k135 s2), (k136 s1), (k137 s1), (11, (vI u0))], []⟩
section
variable (s1 : (List Int)) (s2 : (List Int))
abbrev k138 : St := ⟨[(k133 s1), (k135 s2)], []⟩
end
def m_slices_Compare_B0 (s1 : (List Int)) (s2 : (List Int)) : Unit → St :=
  fun _ => (k138 s1 s2)
def m_slices_Compare_Q0 (s1 : (List Int)) (s2 : (List Int)) : (Flow Int (Ex Unit Int)) → Exit → St → Prop :=
  LQ 0 [] (m_slices_Compare_S0 s1 s2) (m_slices_Compare_B0 s1 s2) m_slices_Compare_R
section
variable (u0 : Int) (s1 : (List Int))
abbrev k139 : TV := (vB (decide (u0 < (s1.length : Int))))
end
theorem m_slices_Compare_ok (s1 : (List Int)) (s2 : (List Int)) {r : Int} (h : m_slices_Compare s1 s2 = some r) : Fn Try.prog 111 [(sD (k134 s1)), (sD (k134 s2))] [] (vI r) [] := by
 refine fN tT Try.func111 rfl rfl fun B => ?_
 show AWp _ _ _ _ _ _ (m_slices_Compare_R r) _
 unfold m_slices_Compare at h
 refine sz tT (k138 s1 s2) {} [] ?_
 refine aQ (sz tT ⟨[(k133 s1), (k135 s2), (k136 s1), (k137 s1), (11, (vI 0))], []⟩ {} [] ?_)
 refine bE h fun y hy h => ?_
 refine aL [] (m_slices_Compare_S0 s1 s2) (m_slices_Compare_B0 s1 s2) m_slices_Compare_R hy (fun s f h => ?_) ?_
 ·clear hy
  show AWp _ _ _ _ _ _ ((m_slices_Compare_Q0 s1 s2) f) _
  unfold m_slices_Compare_L0 at h
  obtain ⟨u0, rfl⟩ : ∃ q, q = s := ⟨_, rfl⟩
  refine sz tT ⟨[(k133 s1), (k135 s2), (k136 s1), (k137 s1), (11, (vI u0)), (12, (k139 u0 s1))], []⟩ {} [] ?_
  refine aQ ?_
  refine bI h (fun hb2 h => ?_) (fun hb2 h => ?_)
  ·refine ct hb2 ?_
   refine aP (aQ (aB (aQ (aO h fun a1 h => ?_))))
   refine rg tT ⟨[(k133 s1), (k135 s2), (5, (vI u0)), (6, (vI (at' s1 u0.toNat))), (k136 s1), (k137 s1), (11, (vI u0))], []⟩ [_] {} [] ⟨a1, trivial⟩ ?_
   refine aQ (sz tT ⟨[(k133 s1), (k135 s2), (5, (vI u0)), (6, (vI (at' s1 u0.toNat))), (k136 s1), (k137 s1), (11, (vI u0)), (19, (vB (decide ((s2.length : Int) ≤ u0))))], []⟩ {} [] ?_)
   refine bI h (fun hb1 h => ?_) (fun hb1 h => ?_)
   ·refine ct hb1 ?_
    refine sz tT ⟨[(4, (vI 1))], []⟩ {} [] ?_
    refine aR ?_
    obtain rfl := oi h
    exact lR ret_nn (ret_ne 0) av_ret (RetQ.mk (.inr rfl) (p := []) (l := [(sI 1)]) (by kernel_rfl) trivial (TLe.refl _) trivial)
   ·refine cf hb1 ?_
    refine aP (aQ (aO h fun a1 h => ?_))
    refine rg tT ⟨[(k133 s1), (k135 s2), (6, (vI (at' s1 u0.toNat))), (7, (vI (at' s2 u0.toNat))), (k136 s1), (k137 s1), (11, (vI u0))], []⟩ [_] {} [] ⟨a1, trivial⟩ ?_
    refine aQ (bE h fun r_ hr_ h => ?_)
    have q0 := m_cmp_Compare_ok (at' s1 u0.toNat) (at' s2 u0.toNat) hr_
    refine rg tT ⟨[(k133 s1), (k135 s2), (8, (vI r_)), (k136 s1), (k137 s1), (11, (vI u0))], []⟩ [_] { an := [(2, cA q0 [])] } [] ⟨q0, trivial⟩ ?_
    refine sz tT ⟨[(k133 s1), (k135 s2), (8, (vI r_)), (k136 s1), (k137 s1), (11, (vI u0)), (28, (vB (!decide (r_ = 0))))], []⟩ {} [] ?_
    refine bI h (fun hb h => ?_) (fun hb h => ?_)
    ·refine ct hb ?_
     refine sz tT ⟨[(4, (vI r_))], []⟩ {} [] ?_
     refine aR ?_
     obtain rfl := oi h
     exact lR ret_nn (ret_ne 0) av_ret (RetQ.mk (.inr rfl) (p := []) (l := [(sI r_)]) (by kernel_rfl) trivial (TLe.refl _) trivial)
    ·refine cf hb ?_
     refine aP (rz tT ⟨[(k133 s1), (k135 s2), (k136 s1), (k137 s1), (11, (k30 u0))], []⟩ {} [] ?_)
     obtain rfl := oi h
     exact lN (by kernel_rfl)
  ·refine cf hb2 ?_
   refine aI (fz (k138 s1 s2) []) ?_
   refine aX ?_
   obtain rfl := oi h
   exact lB (by kernel_rfl)
 ·clear hy
  cases y with
  | brk z =>
   unfold ExK
   refine ⟨_, .refl, ?_⟩
   refine aQ (sz tT ⟨[(35, (vB (decide ((s1.length : Int) < (s2.length : Int)))))], []⟩ {} [] ?_)
   refine bI h (fun hb3 h => ?_) (fun hb3 h => ?_)
   ·refine ct hb3 ?_
    refine sz tT ⟨[(4, (vI (-1)))], []⟩ {} [] ?_
    refine aR ?_
    obtain rfl := oi h
    exact rq [(sI (-1))] (.refl _)
   ·refine cf hb3 ?_
    refine aP (sz tT ⟨[(4, (vI 0))], []⟩ {} [] ?_)
    refine aR ?_
    obtain rfl := oi h
    exact rq [(sI 0)] (.refl _)
  | ret v =>
   obtain rfl := oi h
   unfold ExK
   intro e st hn ha hR
   cases e with
   | normal => exact absurd rfl hn
   | exit id => exact hR
   | goto l => exact hR
   | ret => exact hR
   | panic c => exact hR
   | outgrown => exact hR
def m_cmp_Or_R  : Int → Exit → St → Prop :=
  fun r => RetQ TT [.tmp 2] (vI r) []
section
variable (u0 : (List Int))
abbrev k140 : Nat × TV := (6, (vD (k134 u0)))
abbrev k141 : Nat × TV := (7, (vI (u0.length : Int)))
end
def m_cmp_Or_S0 (u0 : (List Int)) : Int → St :=
  fun t8 => ⟨[(3, (vI 0)), (k140 u0), (k141 u0), (8, (vI t8))], []⟩
def m_cmp_Or_B0  : Unit → St :=
  fun _ => ⟨[(3, (vI 0))], []⟩
def m_cmp_Or_Q0 (u0 : (List Int)) : (Flow Int (Ex Unit Int)) → Exit → St → Prop :=
  LQ 0 [] (m_cmp_Or_S0 u0) m_cmp_Or_B0 m_cmp_Or_R
theorem m_cmp_Or_ok (u0 : (List Int)) {r : Int} (h : m_cmp_Or u0 = some r) : Fn Try.prog 110 [(sD (k134 u0))] [] (vI r) [] := by
 refine fN tT Try.func110 rfl rfl fun B => ?_
 show AWp _ _ _ _ _ _ (m_cmp_Or_R r) _
 unfold m_cmp_Or at h
 refine sz tT ⟨[(k133 u0)], []⟩ {} [] ?_
 refine sz tT ⟨[(k133 u0), (3, (vI 0))], []⟩ {} [] ?_
 refine aQ (sz tT ⟨[(3, (vI 0)), (k140 u0), (k141 u0), (8, (vI 0))], []⟩ {} [] ?_)
 refine bE h fun y hy h => ?_
 refine aL [] (m_cmp_Or_S0 u0) m_cmp_Or_B0 m_cmp_Or_R hy (fun s f h => ?_) ?_
 ·clear hy
  show AWp _ _ _ _ _ _ ((m_cmp_Or_Q0 u0) f) _
  unfold m_cmp_Or_L0 at h
  obtain ⟨t8, rfl⟩ : ∃ q, q = s := ⟨_, rfl⟩
  refine sz tT ⟨[(3, (vI 0)), (k140 u0), (k141 u0), (8, (vI t8)), (9, (k139 t8 u0))], []⟩ {} [] ?_
  refine aQ ?_
  refine bI h (fun hb1 h => ?_) (fun hb1 h => ?_)
  ·refine ct hb1 ?_
   refine aP (aQ (aB (aQ (aO h fun a1 h => ?_))))
   refine rg tT ⟨[(3, (vI 0)), (5, (vI (at' u0 t8.toNat))), (k140 u0), (k141 u0), (8, (vI t8))], []⟩ [_] {} [] ⟨a1, trivial⟩ ?_
   refine sz tT ⟨[(3, (vI 0)), (5, (vI (at' u0 t8.toNat))), (k140 u0), (k141 u0), (8, (vI t8)), (14, (vB (!decide ((at' u0 t8.toNat) = 0))))], []⟩ {} [] ?_
   refine bI h (fun hb h => ?_) (fun hb h => ?_)
   ·refine ct hb ?_
    refine sz tT ⟨[(2, (vI (at' u0 t8.toNat)))], []⟩ {} [] ?_
    refine aR ?_
    obtain rfl := oi h
    exact lR ret_nn (ret_ne 0) av_ret (RetQ.mk (.inr rfl) (p := []) (l := [(sI (at' u0 t8.toNat))]) (by kernel_rfl) trivial (TLe.refl _) trivial)
   ·refine cf hb ?_
    refine aP (rz tT ⟨[(3, (vI 0)), (k140 u0), (k141 u0), (k29 t8)], []⟩ {} [] ?_)
    obtain rfl := oi h
    exact lN (by kernel_rfl)
  ·refine cf hb1 ?_
   refine aI (fz ⟨[(3, (vI 0))], []⟩ []) ?_
   refine aX ?_
   obtain rfl := oi h
   exact lB (by kernel_rfl)
 ·clear hy
  cases y with
  | brk z =>
   unfold ExK
   refine ⟨_, .refl, ?_⟩
   refine sz tT ⟨[(2, (vI 0))], []⟩ {} [] ?_
   refine aR ?_
   obtain rfl := oi h
   exact rq [(sI 0)] (.refl _)
  | ret v =>
   obtain rfl := oi h
   unfold ExK
   intro e st hn ha hR
   cases e with
   | normal => exact absurd rfl hn
   | exit id => exact hR
   | goto l => exact hR
   | ret => exact hR
   | panic c => exact hR
   | outgrown => exact hR
def m_flow_ways_1_R  : Bool → Exit → St → Prop :=
  fun r => RetQ TT [.tmp 4] (vB r) []
section
variable (a : Way) (b : Way) (r_ : Int)
abbrev k142 := (IntKind.wrap .i64 (a.ohm - b.ohm))
abbrev k143 := (IntKind.wrap .i64 ((a.links.length : Int) - (b.links.length : Int)))
abbrev k144 := (elOf (intC .i64) [(k142 a b), (k143 a b), r_])
abbrev k145 : List (Nat × Option Ob) := [(6, some (arD 3 1 (intC .i64) [(k142 a b), (k143 a b), r_]))]
end
theorem m_flow_ways_1_ok (a : Way) (b : Way) {r : Bool} (h : m_flow_ways_1 a b = some r) : Fn Try.prog 109 [(.agg [(cB a.there), (cI a.ohm), (.d (slD none 1 (intC .i64) a.links))]), (.agg [(cB b.there), (cI b.ohm), (.d (slD none 1 (intC .i64) b.links))])] [] (vB r) [] := by
 refine fN tT Try.func109 rfl rfl fun B => ?_
 show AWp _ _ _ _ _ _ (m_flow_ways_1_R r) _
 unfold m_flow_ways_1 at h
 refine sz tT ⟨[(2, (vD (ipT [(.bool a.there), (.int .i64 a.ohm), (slD none 1 (intC .i64) a.links)] 0))), (3, (vD (ipT [(.bool b.there), (.int .i64 b.ohm), (slD none 1 (intC .i64) b.links)] 0)))], []⟩ { fr := [(0, 4), (1, 5)] } [4, 5] ?_
 refine aQ ?_
 refine bI h (fun hb h => ?_) (fun hb h => ?_)
 ·skip
  refine di tT mX ⟨[(4, (vB (bif (!b.there) then true else false)))], []⟩ [(!b.there) = true, ¬ gP (ybf [(3, true)]) [(3, false)], (!b.there) = true, ¬ gP (ybf [(3, true)]) [(3, false)], (!b.there) = true, ¬ gP (ybf [(3, true)]) [(3, false)], (!b.there) = true, ¬ gP (ybf [(3, true)]) [(3, false)], (!b.there) = true, ¬ gP (ybf [(3, true)]) [(3, false)], (!b.there) = true, ¬ gP (ybf [(3, true)]) [(3, false)], (!b.there) = true, ¬ gP (ybf [(3, true)]) [(3, false)], (!b.there) = true, ¬ gP (ybf [(3, true)]) [(3, false)], (!b.there) = true, ¬ gP (ybf [(3, true)]) [(3, false)], (!b.there) = true, ¬ gP (ybf [(3, true)]) [(3, false)], (!b.there) = true, ¬ gP (ybf [(3, true)]) [(3, false)], (!b.there) = true, ¬ gP (ybf [(3, true)]) [(3, false)], (!b.there) = true, ¬ gP (ybf [(3, true)]) [(3, false)], (!b.there) = true, ¬ gP (ybf [(3, true)]) [(3, false)], (!b.there) = true, ¬ gP (ybf [(3, true)]) [(3, false)], (!b.there) = true, ¬ gP (ybf [(3, true)]) [(3, false)], (!b.there) = true, ¬ gP (ybf [(3, true)]) [(3, false)], (!b.there) = true, ¬ gP (ybf [(3, true)]) [(3, false)], (!b.there) = true, ¬ gP (ybf [(3, true)]) [(3, false)], (!b.there) = true, ¬ gP (ybf [(3, true)]) [(3, false)], (!b.there) = true] { yb := [(3, true)], an := [(4, .skip), (5, .skip), (6, .skip), (7, .skip), (8, .skip), (9, .skip), (10, .skip), (11, .skip), (12, .skip), (13, .skip), (14, .skip), (15, .skip), (16, .skip), (17, .skip), (18, .skip), (19, .skip), (20, .skip), (21, .skip), (22, .skip), (23, .skip)] } [] ⟨(hb), ((fun h => Bool.noConfusion (show true = false from h.1))), (hb), ((fun h => Bool.noConfusion (show true = false from h.1))), (hb), ((fun h => Bool.noConfusion (show true = false from h.1))), (hb), ((fun h => Bool.noConfusion (show true = false from h.1))), (hb), ((fun h => Bool.noConfusion (show true = false from h.1))), (hb), ((fun h => Bool.noConfusion (show true = false from h.1))), (hb), ((fun h => Bool.noConfusion (show true = false from h.1))), (hb), ((fun h => Bool.noConfusion (show true = false from h.1))), (hb), ((fun h => Bool.noConfusion (show true = false from h.1))), (hb), ((fun h => Bool.noConfusion (show true = false from h.1))), (hb), ((fun h => Bool.noConfusion (show true = false from h.1))), (hb), ((fun h => Bool.noConfusion (show true = false from h.1))), (hb), ((fun h => Bool.noConfusion (show true = false from h.1))), (hb), ((fun h => Bool.noConfusion (show true = false from h.1))), (hb), ((fun h => Bool.noConfusion (show true = false from h.1))), (hb), ((fun h => Bool.noConfusion (show true = false from h.1))), (hb), ((fun h => Bool.noConfusion (show true = false from h.1))), (hb), ((fun h => Bool.noConfusion (show true = false from h.1))), (hb), ((fun h => Bool.noConfusion (show true = false from h.1))), (hb), ((fun h => Bool.noConfusion (show true = false from h.1))), (hb), trivial⟩ (Imp.le (st' := ⟨[(4, (vB true))], []⟩) ⟨⟨⟨_, rfl, TLe.v (SLe.one (CLe.of (congrArg (fun b => CV.d (.bool b)) (bifT hb))))⟩, trivial⟩, trivial⟩) ?_
  refine aR ?_
  obtain rfl := oi h
  exact rq [(sB true)] (.refl _)
 ·skip
  refine bE h fun r_ hr_ h => ?_
  refine bE h fun u0 hr_1 h => ?_
  refine di tT mX ⟨[(4, (vB (bif (!b.there) then true else (decide (u0 < 0)))))], []⟩ [(!b.there) = false, (!b.there) = false, (!b.there) = false, (!b.there) = false, (!b.there) = false, (!b.there) = false, (!b.there) = false, (!b.there) = false, (!b.there) = false, (!b.there) = false, (!b.there) = false, (!b.there) = false, (!b.there) = false, (!b.there) = false, (!b.there) = false, (!b.there) = false, (!b.there) = false, gP (ybf [(3, false)]) [(3, false)] → All [Fn Try.prog 111 [(sD (slD none 1 (intC .i64) a.links)), (sD (slD none 1 (intC .i64) b.links))] [] (vI r_) []], (!b.there) = false, gP (ybf [(3, false)]) [(3, false)] → All [[(k142 a b), (k143 a b), r_].length = 3, ArrEq 3 1 (elL 1 [(.int .i64 (k142 a b)), (.int .i64 (k143 a b)), (.int .i64 r_)]) (k144 a b r_)], gP (ybf [(3, false)]) [(3, false)], (!b.there) = false, gP (ybf [(3, false)]) [(3, false)] → All [Fn Try.prog 110 [(.one (.own 6 true ([(k142 a b), (k143 a b), r_].length)))] (k145 a b r_) (vI u0) (k145 a b r_)], (!b.there) = false, (!b.there) = false] { yb := [(3, false)], an := [(20, .call [] (vI r_) []), (21, .arr [(k142 a b), (k143 a b), r_].length (k144 a b r_)), (22, .callR [6] (vI u0))], fr := [(21, 6)] } [] ⟨(hb), (hb), (hb), (hb), (hb), (hb), (hb), (hb), (hb), (hb), (hb), (hb), (hb), (hb), (hb), (hb), (hb), (fun hg => ⟨(m_slices_Compare_ok a.links b.links hr_), trivial⟩), (hb), (fun hg => ⟨(rfl), ((by intro i hi j hj; match i, j, hi, hj with | 0, 0, _, _ => rfl | 1, 0, _, _ => rfl | 2, 0, _, _ => rfl)), trivial⟩), (⟨rfl, trivial⟩), (hb), (fun hg => ⟨(Fn.lend (frz := [6]) (p := [[(k142 a b), (k143 a b), r_].length = [(k142 a b), (k143 a b), r_].length]) (Fn.le (args' := [(sD (slD (some true) 1 (intC .i64) [(k142 a b), (k143 a b), r_]))]) (m_cmp_Or_ok [(k142 a b), (k143 a b), r_] hr_1) ⟨SLe.one (CLe.d DLe.nn'), trivial⟩) (by kernel_rfl) ⟨rfl, trivial⟩ rfl), trivial⟩), (hb), (hb), trivial⟩ (Imp.le (st' := ⟨[(4, (vB (decide (u0 < 0))))], []⟩) ⟨⟨⟨_, rfl, TLe.v (SLe.one (CLe.of (congrArg (fun b => CV.d (.bool b)) (bifF hb))))⟩, trivial⟩, trivial⟩) ?_
  refine aR ?_
  obtain rfl := oi h
  exact rq [(sB (decide (u0 < 0)))] (.refl _)
def m_flow_ways_v1_R  : (List Way) → Exit → St → Prop :=
  fun r => RetQ TT [.tmp 6] (vO 0 true r.length) [(0, some (arD 141 3 Way.cell r))]
section
variable (u0 : (List Way)) (p : Plant) (s_ : State) (u1 : Bool)
abbrev k147 : Nat × TV := (7, (vD (.fn 109 0 (capF []))))
abbrev k148 : Nat × TV := (8, (vO 405 true u0.length))
abbrev k150 : Nat × Option Ob := (403, some (k93 p))
abbrev k149 : List (Nat × Option Ob) := [(k150 p), (405, some (arD 141 3 Way.cell u0))]
abbrev k146 : St := ⟨[(3, (vP 403 0)), (k120 s_), k147, (k148 u0), (9, (vB u1))], (k149 u0 p)⟩
end
def m_flow_ways_v1_S0 (p : Plant) (s_ : State) : ((List Way) × Bool) → St :=
  fun zz => match zz with | (u0, u1) => (k146 u0 p s_ u1)
def m_flow_ways_v1_B0  : (List Way) → St :=
  fun u0 => ⟨[(k148 u0)], [(405, some (arD 141 3 Way.cell u0))]⟩
def m_flow_ways_v1_Q0 (p : Plant) (s_ : State) : (Flow ((List Way) × Bool) (Ex (List Way) (List Way))) → Exit → St → Prop :=
  LQ 0 [] (m_flow_ways_v1_S0 p s_) m_flow_ways_v1_B0 m_flow_ways_v1_R
section
variable (p : Plant) (s_ : State) (u0 : (List Way)) (u1 : Bool) (u2 : Int)
abbrev k152 : Nat × TV := (26, (vD (k3 p)))
abbrev k153 : Nat × TV := (27, (vI (p.links.length : Int)))
abbrev k151 : St := ⟨[(3, (vP 403 0)), (k120 s_), k147, (k148 u0), (9, (vB u1)), (k152 p), (k153 p), (28, (vI u2))], (k149 u0 p)⟩
end
def m_flow_ways_v1_S1 (p : Plant) (s_ : State) : ((List Way) × Bool × Int) → St :=
  fun zz => match zz with | (u0, u1, u2) => (k151 p s_ u0 u1 u2)
def m_flow_ways_v1_B1 (p : Plant) (s_ : State) : ((List Way) × Bool) → St :=
  fun zz => match zz with | (u0, u1) => (k146 u0 p s_ u1)
def m_flow_ways_v1_Q1 (p : Plant) (s_ : State) : (Flow ((List Way) × Bool × Int) (Ex ((List Way) × Bool) (Flow ((List Way) × Bool) (Ex (List Way) (List Way))))) → Exit → St → Prop :=
  LQ 2 [1] (m_flow_ways_v1_S1 p s_) (m_flow_ways_v1_B1 p s_) (m_flow_ways_v1_Q0 p s_)
section
variable (p : Plant) (u0 : Int)
abbrev k155 : List CV := [(cI ((at' p.links u0.toNat).a)), (cI ((at' p.links u0.toNat).b)), (cI ((at' p.links u0.toNat).b)), (cI ((at' p.links u0.toNat).a))]
abbrev k154 : Nat × TV := (48, (.v (.agg (k155 p u0))))
end
def m_flow_ways_v1_S2 (p : Plant) (s_ : State) (u0 : Int) : ((List Way) × Bool × Int) → St :=
  fun zz => match zz with | (u1, u2, u3) => ⟨[(3, (vP 403 0)), (k120 s_), k147, (k148 u1), (9, (vB u2)), (10, (vI u0)), (k105 p u0), (k152 p), (k153 p), (28, (vI u0)), (k154 p u0), (49, (vI u3))], (k149 u1 p)⟩
def m_flow_ways_v1_B2 (p : Plant) (s_ : State) (u1 : Int) : ((List Way) × Bool) → St :=
  fun zz => match zz with | (u0, u2) => (k151 p s_ u0 u2 u1)
def m_flow_ways_v1_Q2 (p : Plant) (s_ : State) (u0 : Int) : (Flow ((List Way) × Bool × Int) (Ex ((List Way) × Bool) (Flow ((List Way) × Bool × Int) (Ex ((List Way) × Bool) (Flow ((List Way) × Bool) (Ex (List Way) (List Way))))))) → Exit → St → Prop :=
  LQ 4 [3] (m_flow_ways_v1_S2 p s_ u0) (m_flow_ways_v1_B2 p s_ u0) (m_flow_ways_v1_Q1 p s_)
section
variable (p : Plant) (u3 : Int) (s_ : State) (u5 : (List Way)) (u8 : Bool) (u0 : Int) (u1 : Int) (u2 : (List Way)) (u6 : Bool) (u4 : (List Int))
abbrev k156 : List (Nat × Option Ob) := [(k150 p)]
abbrev k159 := (List.replicate p.buses.toNat ((⟨false, 0, ([] : List Int)⟩ : Way) : Way))
abbrev k158 : Nat × TV := (8, (vO 405 true ((k159 p).length)))
abbrev k157 : List (Nat × TV) := [(2, (vI u3)), (3, (vP 403 0)), (k120 s_), k147, (k158 p)]
abbrev k160 : Ob := (arD 141 3 Way.cell (k159 p))
abbrev k162 := ((k159 p).set u3.toNat (⟨true, (at' (k159 p) u3.toNat).ohm, (at' (k159 p) u3.toNat).links⟩ : Way))
abbrev k161 := (elOf Way.cell (k162 p u3))
abbrev k163 := (stEls (elOf Way.cell (k159 p)) u3.toNat 0 [(.bool true)])
abbrev k165 := ((k162 p u3).length)
abbrev k164 : Nat × TV := (8, (vO 405 true (k165 p u3)))
abbrev k167 : Ob := (arD 141 3 Way.cell (k162 p u3))
abbrev k166 : List (Nat × Option Ob) := [(k150 p), (405, some (k167 p u3))]
abbrev k168 : St := ⟨[(3, (vP 403 0)), (k120 s_), k147, (k148 u5), (9, (vB u8)), (k152 p), (k153 p), (28, (k30 u0))], (k149 u5 p)⟩
abbrev k172 := (⟨(at' p.links u0.toNat).a, (at' p.links u0.toNat).b⟩ : Arr2Int)
abbrev k173 := (⟨(at' p.links u0.toNat).b, (at' p.links u0.toNat).a⟩ : Arr2Int)
abbrev k171 := (at' [(k172 p u0), (k173 p u0)] u1.toNat)
abbrev k170 := ((k171 p u0 u1).e0)
abbrev k174 := ((k171 p u0 u1).e1)
abbrev k169 : Ob := (.cells 164 [(cI (k170 p u0 u1)), (cI (k174 p u0 u1))])
abbrev k175 : List DV := [(.int .i64 (k170 p u0 u1)), (.int .i64 (k174 p u0 u1))]
abbrev k178 := (at' u2 ((k170 p u0 u1).toNat))
abbrev k177 := ((k178 p u0 u1 u2).there)
abbrev k179 := ((k178 p u0 u1 u2).ohm)
abbrev k180 := ((k178 p u0 u1 u2).links)
abbrev k176 : Nat × TV := (14, (vD (ipT [(.bool (k177 p u0 u1 u2)), (.int .i64 (k179 p u0 u1 u2)), (slD none 1 (intC .i64) (k180 p u0 u1 u2))] 0)))
abbrev k181 : Nat × TV := (15, (vI (k174 p u0 u1)))
abbrev k182 : Nat × TV := (61, (vB (!(k177 p u0 u1 u2))))
abbrev k184 : Nat × TV := (49, (k30 u1))
abbrev k183 : St := ⟨[(3, (vP 403 0)), (k120 s_), k147, (k148 u2), (9, (vB u6)), (10, (vI u0)), (k105 p u0), (k152 p), (k153 p), (28, (vI u0)), (k154 p u0), (k184 u1)], (k149 u2 p)⟩
abbrev k186 := (IntKind.wrap .i64 ((k179 p u0 u1 u2) + ((at' p.links u0.toNat).ohm)))
abbrev k185 : Ob := (.cells 141 [(cB true), (cI (k186 p u0 u1 u2)), (.d (slD none 1 (intC .i64) (u4 ++ [u0])))])
abbrev k187 := (elL 1 [(.int .i64 u0)])
abbrev k188 := (apEl (elOf (intC .i64) u4) u4.length (elOf (intC .i64) [u0]))
abbrev k189 := (elOf (intC .i64) (u4 ++ [u0]))
abbrev k191 : List DV := [(.bool true), (.int .i64 (k186 p u0 u1 u2)), (slD none 1 (intC .i64) (u4 ++ [u0]))]
abbrev k190 : Nat × TV := (16, (vD (ipT (k191 p u0 u1 u2 u4) 0)))
abbrev k192 := (⟨true, (k186 p u0 u1 u2), (u4 ++ [u0])⟩ : Way)
abbrev k194 := ((k174 p u0 u1).toNat)
abbrev k193 := (at' u2 (k194 p u0 u1))
abbrev k196 := (u2.set (k194 p u0 u1) (k192 p u0 u1 u2 u4))
abbrev k195 := (elOf Way.cell (k196 p u0 u1 u2 u4))
abbrev k197 := (stEls (elOf Way.cell u2) (k194 p u0 u1) 0 (k191 p u0 u1 u2 u4))
abbrev k199 := ((k196 p u0 u1 u2 u4).length)
abbrev k198 : Nat × TV := (8, (vO 405 true (k199 p u0 u1 u2 u4)))
abbrev k201 : Ob := (arD 141 3 Way.cell (k196 p u0 u1 u2 u4))
abbrev k200 : List (Nat × Option Ob) := [(k150 p), (405, some (k201 p u0 u1 u2 u4))]
end
theorem m_flow_ways_v1_ok (p : Plant) (s_ : State) (u3 : Int) {r : (List Way)} (h : m_flow_ways p s_ u3 = some r) : Fn Try.prog 66 (k117 p s_ u3) [] (vO 0 true r.length) [(0, some (arD 141 3 Way.cell r))] := by
 refine fN tT Try.func66 rfl rfl fun B => ?_
 show AWp _ _ _ _ _ _ (m_flow_ways_v1_R r) _
 unfold m_flow_ways at h
 refine sz tT ⟨[(2, (vI u3)), (3, (vP 403 0)), (k120 s_)], (k156 p)⟩ { fr := [(0, 403), (1, 404)] } [404] ?_
 refine sz tT ⟨[(2, (vI u3)), (3, (vP 403 0)), (k120 s_), k147], (k156 p)⟩ {} [] ?_
 refine aQ (aO h fun ⟨a1, a2, a3⟩ h => ?_)
 refine ri tT ⟨(k157 p u3 s_), [(k150 p), (405, some (.arr 141 3 (k159 p).length (fun _ j => [(.bool false), (.int .i64 0), nS].getD j .nilp)))]⟩ [_, (p.buses : Int) = p.buses, _, _, (k159 p).length = p.buses.toNat, ArrEq p.buses.toNat 3 (fun _ j => [(.bool false), (.int .i64 0), nS].getD j .nilp) (fun _ j => [(.bool false), (.int .i64 0), nS].getD j .nilp)] { an := [(2, .arr (k159 p).length (fun _ j => [(.bool false), (.int .i64 0), nS].getD j .nilp))], fr := [(2, 405)] } [] ⟨a1, rfl, a2, a3, (List.length_replicate), (arrEq_refl _ _ _), trivial⟩ (Imp.le (st' := ⟨(k157 p u3 s_), [(k150 p), (405, some (k160 p))]⟩) ⟨⟨tR, tR, tR, tR, tR, trivial⟩, ⟨rfl, .refl _, ⟨rfl, OLe_arr (repLe _ _ _ _ _ (fun j hj => match j, hj with | 0, _ => .refl _ | 1, _ => .refl _ | 2, _ => DLe.nil')), trivial⟩⟩⟩) ?_
 refine aQ (aO h fun a1 h => ?_)
 refine ri tT ⟨[(3, (vP 403 0)), (k120 s_), k147, (k158 p)], [(k150 p), (405, some (.arr 141 3 (k159 p).length (k161 p u3)))]⟩ [_, _, ArrEq (k159 p).length 3 (k163 p u3) (k161 p u3)] { an := [(4, .arr 0 (k161 p u3))] } [] ⟨a1, (tL a1), (arrEq_set' _ _ _ _ _ _ _ _ rfl (fun j hj => (match j, hj with | 0, _ => rfl | 1, _ => rfl | 2, _ => rfl))), trivial⟩ (Imp.le (st' := ⟨[(3, (vP 403 0)), (k120 s_), k147, (k164 p u3)], (k166 p u3)⟩) ⟨⟨tR, tR, tR, ⟨_, rfl, TLe.v (SLe.one cW)⟩, trivial⟩, ⟨rfl, .refl _, ⟨rfl, oW, trivial⟩⟩⟩) ?_
 refine aQ (sz tT ⟨[(3, (vP 403 0)), (k120 s_), k147, (k164 p u3), (9, (vB true))], (k166 p u3)⟩ {} [] ?_)
 refine bE h fun y2 hy h => ?_
 refine aL [] (m_flow_ways_v1_S0 p s_) m_flow_ways_v1_B0 m_flow_ways_v1_R hy (fun s f h => ?_) ?_
 ·clear hy
  show AWp _ _ _ _ _ _ ((m_flow_ways_v1_Q0 p s_) f) _
  unfold m_flow_ways_L0 at h
  obtain ⟨u7, v1⟩ := s
  refine aQ (sz tT ⟨[(3, (vP 403 0)), (k120 s_), k147, (k148 u7), (24, (vB v1))], (k149 u7 p)⟩ {} [] ?_)
  refine bI h (fun hb5 h => ?_) (fun hb5 h => ?_)
  ·refine ct hb5 ?_
   refine aP (aB (sz tT ⟨[(3, (vP 403 0)), (k120 s_), k147, (k148 u7), (9, (vB false))], (k149 u7 p)⟩ {} [] ?_))
   refine sz tT ⟨[(3, (vP 403 0)), (k120 s_), k147, (k148 u7), (9, (vB false)), (k152 p), (k153 p), (28, (vI 0))], (k149 u7 p)⟩ {} [] ?_
   refine bE h fun y1 hy h => ?_
   refine aL [1] (m_flow_ways_v1_S1 p s_) (m_flow_ways_v1_B1 p s_) (m_flow_ways_v1_Q0 p s_) hy (fun s f h => ?_) ?_
   ·clear hy
    show AWp _ _ _ _ _ _ ((m_flow_ways_v1_Q1 p s_) f) _
    unfold m_flow_ways_L1 at h
    obtain ⟨u5, u8, u0⟩ := s
    refine sz tT ⟨[(3, (vP 403 0)), (k120 s_), k147, (k148 u5), (9, (vB u8)), (k152 p), (k153 p), (28, (vI u0)), (29, (vB (decide (u0 < (p.links.length : Int)))))], (k149 u5 p)⟩ {} [] ?_
    refine aQ ?_
    refine bI h (fun hb4 h => ?_) (fun hb4 h => ?_)
    ·refine ct hb4 ?_
     refine aP (aQ (aB (aQ (aO h fun a1 h => ?_))))
     refine rg tT ⟨[(3, (vP 403 0)), (k120 s_), k147, (k148 u5), (9, (vB u8)), (10, (vI u0)), (k105 p u0), (k152 p), (k153 p), (28, (vI u0))], (k149 u5 p)⟩ [_] { fr := [(3, 781)] } [781] ⟨a1, trivial⟩ ?_
     refine aQ (aQ (bE h fun r_ hr_ h => ?_))
     have q0 := m_flow_conducts_ok p s_ u0 hr_
     refine rg tT ⟨[(3, (vP 403 0)), (k120 s_), k147, (k148 u5), (9, (vB u8)), (10, (vI u0)), (k105 p u0), (k152 p), (k153 p), (28, (vI u0)), (37, (vB (!r_)))], (k149 u5 p)⟩ [_] { an := [(3, cA q0 [])] } [] ⟨q0, trivial⟩ ?_
     refine bI h (fun hb3 h => ?_) (fun hb3 h => ?_)
     ·refine ct hb3 ?_
      refine aX (rz tT (k168 p s_ u5 u8 u0) {} [] ?_)
      obtain rfl := oi h
      exact lN (by kernel_rfl)
     ·refine cf hb3 ?_
      refine aP (sz tT ⟨[(3, (vP 403 0)), (k120 s_), k147, (k148 u5), (9, (vB u8)), (10, (vI u0)), (k105 p u0), (k152 p), (k153 p), (28, (vI u0)), (k154 p u0), (49, (vI 0))], (k149 u5 p)⟩ {} [] ?_)
      refine bE h fun y hy h => ?_
      refine aL [3] (m_flow_ways_v1_S2 p s_ u0) (m_flow_ways_v1_B2 p s_ u0) (m_flow_ways_v1_Q1 p s_) hy (fun s f h => ?_) ?_
      ·clear hy
       show AWp _ _ _ _ _ _ ((m_flow_ways_v1_Q2 p s_ u0) f) _
       unfold m_flow_ways_L2 at h
       obtain ⟨u2, u6, u1⟩ := s
       refine sz tT ⟨[(3, (vP 403 0)), (k120 s_), k147, (k148 u2), (9, (vB u6)), (10, (vI u0)), (k105 p u0), (k152 p), (k153 p), (28, (vI u0)), (k154 p u0), (49, (vI u1)), (50, (vB (decide (u1 < 2))))], (k149 u2 p)⟩ {} [] ?_
       refine aQ ?_
       refine bI h (fun hb2 h => ?_) (fun hb2 h => ?_)
       ·refine ct hb2 ?_
        refine aP (aQ (aB (aQ (aO h fun a1 h => ?_))))
        refine rg tT ⟨[(3, (vP 403 0)), (k120 s_), k147, (k148 u2), (9, (vB u6)), (10, (vI u0)), (k105 p u0), (13, (vP 800 0)), (k152 p), (k153 p), (28, (vI u0)), (k154 p u0), (49, (vI u1))], [(k150 p), (405, some (arD 141 3 Way.cell u2)), (800, some (k169 p u0 u1))]⟩ [_, u1.toNat * 2 + 2 ≤ (k155 p u0).length, ((k155 p u0).drop (u1.toNat * 2)).take 2 = (k175 p u0 u1).map .d] { an := [(0, .vals (k175 p u0 u1))], fr := [(1, 800)] } [] ⟨a1, (idxL (n := 2) (sz := 2) (Nat.le_refl _) a1), (idxV (n := 2) (sz := 2) (g := fun q => [(cI ((at' [(k172 p u0), (k173 p u0)] q).e0)), (cI ((at' [(k172 p u0), (k173 p u0)] q).e1))]) (by intro q hq; match q, hq with | 0, _ => rfl | 1, _ => rfl) a1), trivial⟩ ?_
        refine aQ (aO h fun a1 h => ?_)
        refine dg tT mX ⟨[(3, (vP 403 0)), (k120 s_), k147, (k148 u2), (9, (vB u6)), (10, (vI u0)), (k105 p u0), (k176 p u0 u1 u2), (k181 p u0 u1), (k152 p), (k153 p), (28, (vI u0)), (k154 p u0), (49, (vI u1))], (k149 u2 p)⟩ [(0 : Int) ≤ 0 ∧ (0 : Int) < (2 : Nat), _, _, (0 : Int) ≤ 1 ∧ (1 : Int) < (2 : Nat)] { fr := [(7, 801)] } [801] ⟨((by decide)), a1, (tL a1), ((by decide)), trivial⟩ ?_
        refine aQ (sz tT ⟨[(3, (vP 403 0)), (k120 s_), k147, (k148 u2), (9, (vB u6)), (10, (vI u0)), (k105 p u0), (k176 p u0 u1 u2), (k181 p u0 u1), (k152 p), (k153 p), (28, (vI u0)), (k154 p u0), (49, (vI u1)), (k182 p u0 u1 u2)], (k149 u2 p)⟩ {} [] ?_)
        refine bI h (fun hb1 h => ?_) (fun hb1 h => ?_)
        ·refine ct hb1 ?_
         refine aX (rz tT (k183 p s_ u0 u1 u2 u6) {} [] ?_)
         obtain rfl := oi h
         exact lN (by kernel_rfl)
        ·refine cf hb1 ?_
         refine aP (aQ (bE h fun u4 hr_1 h => ?_))
         refine aO h fun ⟨a1, a2⟩ h => ?_
         have q0 := rk [(0, 802)] (m_slices_Clone112_v1_a_ok (k180 p u0 u1 u2) hr_1)
         refine di tT mX ⟨[(3, (vP 403 0)), (k120 s_), k147, (k148 u2), (9, (vB u6)), (10, (vI u0)), (k105 p u0), (k181 p u0 u1), (16, (vP 805 0)), (k152 p), (k153 p), (28, (vI u0)), (k154 p u0), (49, (vI u1))], [(k150 p), (405, some (arD 141 3 Way.cell u2)), (805, some (k185 p u0 u1 u2 u4))]⟩ [_, [u0].length = 1, ArrEq 1 1 (k187 u0) (elOf (intC .i64) [u0]), u4.length = u4.length, _, _, (u4 ++ [u0]).length = u4.length + [u0].length, ArrEq (u4.length + [u0].length) 1 (k188 u0 u4) (k189 u0 u4), (u4 ++ [u0]).length = (u4 ++ [u0]).length] { an := [(7, cA q0 []), (9, .arr [u0].length (elOf (intC .i64) [u0])), (10, .arr (u4 ++ [u0]).length (k189 u0 u4))], fr := [(9, 803), (10, 804), (12, 805)] } [804] ⟨q0, (rfl), ((by intro i hi j hj; match i, j, hi, hj with | 0, 0, _, _ => rfl)), rfl, a1, a2, (List.length_append), (arrEq_app _ _ _ _), rfl, trivial⟩ (fz ⟨[(3, (vP 403 0)), (k120 s_), k147, (k148 u2), (9, (vB u6)), (10, (vI u0)), (k105 p u0), (k181 p u0 u1), (k190 p u0 u1 u2 u4), (k152 p), (k153 p), (28, (vI u0)), (k154 p u0), (49, (vI u1))], (k149 u2 p)⟩ [805]) ?_
         refine aQ (bE h fun v2 hr_2 h => ?_)
         refine aO h fun a1 h => ?_
         have q2 := m_flow_ways_1_ok (k192 p u0 u1 u2 u4) (k193 p u0 u1 u2) hr_2
         refine dg tT mX ⟨[(3, (vP 403 0)), (k120 s_), k147, (k148 u2), (9, (vB u6)), (10, (vI u0)), (k105 p u0), (k181 p u0 u1), (k190 p u0 u1 u2 u4), (k152 p), (k153 p), (28, (vI u0)), (k154 p u0), (49, (vI u1)), (80, (vB v2))], (k149 u2 p)⟩ [_, _, _] { an := [(6, cA q2 [])] } [] ⟨a1, (tL a1), q2, trivial⟩ ?_
         refine bI h (fun hb h => ?_) (fun hb h => ?_)
         ·refine ct hb ?_
          refine aQ (aO h fun a1 h => ?_)
          refine ri tT ⟨[(3, (vP 403 0)), (k120 s_), k147, (k148 u2), (10, (vI u0)), (k105 p u0), (k152 p), (k153 p), (28, (vI u0)), (k154 p u0), (49, (vI u1))], [(k150 p), (405, some (.arr 141 3 u2.length (k195 p u0 u1 u2 u4)))]⟩ [_, _, ArrEq u2.length 3 (k197 p u0 u1 u2 u4) (k195 p u0 u1 u2 u4)] { an := [(4, .arr 0 (k195 p u0 u1 u2 u4))] } [] ⟨a1, (tL a1), (arrEq_set' _ _ _ _ _ _ _ _ rfl (fun j hj => (match j, hj with | 0, _ => rfl | 1, _ => rfl | 2, _ => rfl))), trivial⟩ (Imp.le (st' := ⟨[(3, (vP 403 0)), (k120 s_), k147, (k198 p u0 u1 u2 u4), (10, (vI u0)), (k105 p u0), (k152 p), (k153 p), (28, (vI u0)), (k154 p u0), (49, (vI u1))], (k200 p u0 u1 u2 u4)⟩) ⟨⟨tR, tR, tR, ⟨_, rfl, TLe.v (SLe.one cW)⟩, tR, tR, tR, tR, tR, tR, tR, trivial⟩, ⟨rfl, .refl _, ⟨rfl, oW, trivial⟩⟩⟩) ?_
          refine rz tT ⟨[(3, (vP 403 0)), (k120 s_), k147, (k198 p u0 u1 u2 u4), (9, (vB true)), (10, (vI u0)), (k105 p u0), (k152 p), (k153 p), (28, (vI u0)), (k154 p u0), (49, (vI u1))], (k200 p u0 u1 u2 u4)⟩ {} [] ?_
          refine rz tT ⟨[(3, (vP 403 0)), (k120 s_), k147, (k198 p u0 u1 u2 u4), (9, (vB true)), (10, (vI u0)), (k105 p u0), (k152 p), (k153 p), (28, (vI u0)), (k154 p u0), (k184 u1)], (k200 p u0 u1 u2 u4)⟩ {} [] ?_
          obtain rfl := oi h
          exact lN (by kernel_rfl)
         ·refine cf hb ?_
          refine aP (rz tT (k183 p s_ u0 u1 u2 u6) {} [] ?_)
          obtain rfl := oi h
          exact lN (by kernel_rfl)
       ·refine cf hb2 ?_
        refine aI (fz (k151 p s_ u2 u6 u0) []) ?_
        refine aX ?_
        obtain rfl := oi h
        exact lB (by kernel_rfl)
      ·clear hy
       cases y with
       | brk z =>
        obtain ⟨v0, v3⟩ := z
        unfold ExK
        refine ⟨_, .refl, ?_⟩
        refine rz tT (k168 p s_ v0 v3 u0) {} [] ?_
        obtain rfl := oi h
        exact lN (by kernel_rfl)
       | ret v =>
        obtain rfl := oi h
        unfold ExK
        intro e st hn ha hR
        cases e with
        | normal => exact absurd rfl hn
        | exit id => simp only [av_beq (b := 3) ha rfl, cond_false]; exact hR
        | goto l => exact hR
        | ret => exact hR
        | panic c => exact hR
        | outgrown => exact hR
    ·refine cf hb4 ?_
     refine aI (fz (k146 u5 p s_ u8) []) ?_
     refine aX ?_
     obtain rfl := oi h
     exact lB (by kernel_rfl)
   ·clear hy
    cases y1 with
    | brk z =>
     obtain ⟨v4, v5⟩ := z
     unfold ExK
     refine ⟨_, .refl, ?_⟩
     obtain rfl := oi h
     exact lN (by kernel_rfl)
    | ret v =>
     obtain rfl := oi h
     unfold ExK
     intro e st hn ha hR
     cases e with
     | normal => exact absurd rfl hn
     | exit id => simp only [av_beq (b := 1) ha rfl, cond_false]; exact hR
     | goto l => exact hR
     | ret => exact hR
     | panic c => exact hR
     | outgrown => exact hR
  ·refine cf hb5 ?_
   refine aI (fz ⟨[(k148 u7)], [(405, some (arD 141 3 Way.cell u7))]⟩ []) ?_
   refine aX ?_
   obtain rfl := oi h
   exact lB (by kernel_rfl)
 ·clear hy
  cases y2 with
  | brk z =>
   obtain ⟨u9, rfl⟩ : ∃ q, q = z := ⟨_, rfl⟩
   unfold ExK
   refine ⟨_, .refl, ?_⟩
   refine sz tT ⟨[(6, (vO 405 true u9.length))], [(405, some (arD 141 3 Way.cell u9))]⟩ {} [] ?_
   refine aI (Imp.fin (st' := ⟨[(6, (vO 0 true u9.length))], [(0, some (arD 141 3 Way.cell u9))]⟩) (cs := []) ⟨[], [(405, 0)]⟩ [6] (by kernel_rfl) trivial) ?_
   refine aR ?_
   obtain rfl := oi h
   exact rh [(.one (.own 0 true u9.length))] (.refl _) ⟨rfl, .refl _, trivial⟩
  | ret v =>
   obtain rfl := oi h
   unfold ExK
   intro e st hn ha hR
   cases e with
   | normal => exact absurd rfl hn
   | exit id => exact hR
   | goto l => exact hR
   | ret => exact hR
   | panic c => exact hR
   | outgrown => exact hR
def m_flow_Shorts_R  : ((List Short) × Int) → Exit → St → Prop :=
  fun r => RetQ TT [.tmp 6, .tmp 7] (.tup [(sD (slD none 4 Short.cell r.1)), (sI r.2)]) []
section
variable (u0 : (List Short)) (p : Plant)
abbrev k202 : Nat × TV := (9, (vO 28 false u0.length))
abbrev k203 : Nat × TV := (29, (vD (k2 p)))
abbrev k204 : Nat × TV := (30, (vI (p.sources.length : Int)))
abbrev k205 : List (Nat × Option Ob) := [(28, some (arD 47 4 Short.cell u0))]
end
def m_flow_Shorts_S0 (p : Plant) (s_ : State) (u1 : Int) : ((List Short) × Int) → St :=
  fun zz => match zz with | (u0, u2) => ⟨[(2, (vI u1)), (k119 p), (k120 s_), (k202 u0), (k203 p), (k204 p), (31, (vI u2))], (k205 u0)⟩
def m_flow_Shorts_B0  : (List Short) → St :=
  fun u0 => ⟨[(k202 u0)], (k205 u0)⟩
def m_flow_Shorts_Q0 (p : Plant) (s_ : State) (u0 : Int) : (Flow ((List Short) × Int) (Ex (List Short) ((List Short) × Int))) → Exit → St → Prop :=
  LQ 0 [] (m_flow_Shorts_S0 p s_ u0) m_flow_Shorts_B0 m_flow_Shorts_R
section
variable (p : Plant) (u1 : Int) (u0 : Int) (s_ : State) (u3 : (List Short)) (u2 : (List Way))
abbrev k206 : List (Nat × Option Ob) := [(22, some (k93 p))]
abbrev k208 : TV := (vD (ipT [(.int .i64 (k124 p u1)), (.int .i64 ((at' p.sources u1.toNat).kind)), (.int .i64 ((at' p.sources u1.toNat).power)), (.int .i64 ((at' p.sources u1.toNat).sync)), (.int .i64 ((at' p.sources u1.toNat).ohm))] 0))
abbrev k207 : Nat × TV := (11, (k208 p u1))
abbrev k210 : Nat × TV := (31, (k30 u1))
abbrev k209 : St := ⟨[(2, (vI u0)), (k119 p), (k120 s_), (k202 u3), (k203 p), (k204 p), (k210 u1)], (k205 u3)⟩
abbrev k211 : Nat × TV := (12, (vD (ipT [(.bool ((at' u2 u0.toNat).there)), (.int .i64 ((at' u2 u0.toNat).ohm)), (slD none 1 (intC .i64) ((at' u2 u0.toNat).links))] 0)))
abbrev k212 := (IntKind.wrap .i64 (((at' p.sources u1.toNat).ohm) + ((at' u2 u0.toNat).ohm)))
abbrev k217 := (IntKind.wrap .i64 (Int.tdiv (IntKind.wrap .i64 ((IntKind.wrap .i64 ((400000 : Int) + (k212 p u1 u0 u2))) - 1)) (k212 p u1 u0 u2)))
abbrev k216 := (⟨u1, (k212 p u1 u0 u2), (k217 p u1 u0 u2), (at' u2 u0.toNat).links⟩ : Short)
abbrev k215 := (u3 ++ [(k216 p u1 u0 u2)])
abbrev k214 := ((k215 p u1 u0 u3 u2).length)
abbrev k213 : Nat × TV := (9, (vO 43 false (k214 p u1 u0 u3 u2)))
abbrev k219 : Ob := (arD 47 4 Short.cell (k215 p u1 u0 u3 u2))
abbrev k218 : List (Nat × Option Ob) := [(43, some (k219 p u1 u0 u3 u2))]
abbrev k220 := (elL 4 [(.int .i64 u1), (.int .i64 (k212 p u1 u0 u2)), (.int .i64 (k217 p u1 u0 u2)), (slD none 1 (intC .i64) ((at' u2 u0.toNat).links))])
abbrev k221 := (elOf Short.cell [(k216 p u1 u0 u2)])
abbrev k222 := (u3.length + [(k216 p u1 u0 u2)].length)
abbrev k223 := (apEl (elOf Short.cell u3) u3.length (k221 p u1 u0 u2))
abbrev k224 := (elOf Short.cell (k215 p u1 u0 u3 u2))
end
theorem m_flow_Shorts_ok (p : Plant) (s_ : State) (u0 : Int) {r : ((List Short) × Int)} (h : m_flow_Shorts p s_ u0 = some r) : Fn Try.prog 17 (k117 p s_ u0) [] (.tup [(sD (slD none 4 Short.cell r.1)), (sI r.2)]) [] := by
 refine fN tT Try.func17 rfl rfl fun B => ?_
 show AWp _ _ _ _ _ _ (m_flow_Shorts_R r) _
 unfold m_flow_Shorts at h
 refine sz tT ⟨[(2, (vI u0)), (3, (vP 22 0)), (k120 s_)], (k206 p)⟩ { fr := [(0, 22), (1, 23)] } [23] ?_
 refine aQ (aQ (bE h fun r_ hr_ h => ?_))
 have q0 := m_plant_CheckState_ok p s_ hr_
 refine rg tT ⟨[(2, (vI u0)), (3, (vP 22 0)), (k120 s_), (8, (vI r_))], (k206 p)⟩ [_] { an := [(2, cA q0 [])] } [] ⟨q0, trivial⟩ ?_
 refine sz tT ⟨[(2, (vI u0)), (3, (vP 22 0)), (k120 s_), (8, (vI r_)), (18, (vB (!decide (r_ = 0))))], (k206 p)⟩ {} [] ?_
 refine bI h (fun hb4 h => ?_) (fun hb4 h => ?_)
 ·refine ct hb4 ?_
  refine sz tT ⟨[(6, (vD nS)), (7, (vI r_))], []⟩ {} [] ?_
  refine aI (Imp.le (st' := ⟨[(6, (vD (slD none 4 Short.cell ([] : List Short)))), (7, (vI r_))], []⟩) ⟨⟨⟨_, rfl, TLe.v (SLe.one (CLe.d DLe.nil'))⟩, tR, trivial⟩, trivial⟩) ?_
  refine aR ?_
  obtain rfl := oi h
  exact rq [(sD (slD none 4 Short.cell ([] : List Short))), (sI r_)] (.refl _)
 ·refine cf hb4 ?_
  refine aP (aQ (sg tT ⟨[(2, (vI u0)), (3, (vP 22 0)), (k120 s_), (27, (vB (bif (decide (u0 < 0)) then true else (decide (p.buses ≤ u0)))))], (k206 p)⟩ (eqs (decide (u0 < 0)) 5 []) { yb := [(2, (decide (u0 < 0)))] } [] (ae trivial) ?_))
  refine bI h (fun hb3 h => ?_) (fun hb3 h => ?_)
  ·refine ct hb3 ?_
   refine sz tT ⟨[(6, (vD nS)), (7, (vI 1))], []⟩ {} [] ?_
   refine aI (Imp.le (st' := ⟨[(6, (vD (slD none 4 Short.cell ([] : List Short)))), (7, (vI 1))], []⟩) ⟨⟨⟨_, rfl, TLe.v (SLe.one (CLe.d DLe.nil'))⟩, tR, trivial⟩, trivial⟩) ?_
   refine aR ?_
   obtain rfl := oi h
   exact rq [(sD (slD none 4 Short.cell ([] : List Short))), (sI 1)] (.refl _)
  ·refine cf hb3 ?_
   refine aP (sz tT ⟨[(2, (vI u0)), (3, (vP 22 0)), (k120 s_), (9, (vD nS))], (k206 p)⟩ {} [] ?_)
   refine aQ (sz tT ⟨[(2, (vI u0)), (k119 p), (k120 s_), (9, (vD nS)), (k203 p), (k204 p), (31, (vI 0))], []⟩ {} [22] ?_)
   refine bE h fun y hy h => ?_
   refine aI (.trans (Imp.adopt (t := 9) (b := 44) (esz0 := 0) (el0 := fun _ _ => .nilp) (E := 47) (esz := 4) (el := elOf Short.cell ([] : List Short)) (by kernel_rfl) (by kernel_rfl)) (.trans (Imp.fin (st' := ⟨[(2, (vI u0)), (k119 p), (k120 s_), (9, (vO 28 false 0)), (k203 p), (k204 p), (31, (vI 0))], [(28, some (.arr 47 4 0 (elOf Short.cell ([] : List Short))))]⟩) (cs := []) ⟨[], [(44, 28)]⟩ [2, 3, 4, 9, 29, 30, 31] (by kernel_rfl) trivial) (Imp.le (st' := ⟨[(2, (vI u0)), (k119 p), (k120 s_), (9, (vO 28 false (([] : List Short).length))), (k203 p), (k204 p), (31, (vI 0))], [(28, some (arD 47 4 Short.cell ([] : List Short)))]⟩) ⟨⟨tR, tR, tR, ⟨_, rfl, TLe.v (SLe.one cW)⟩, tR, tR, tR, trivial⟩, ⟨rfl, oW, trivial⟩⟩))) ?_
   refine aL [] (m_flow_Shorts_S0 p s_ u0) m_flow_Shorts_B0 m_flow_Shorts_R hy (fun s f h => ?_) ?_
   ·clear hy
    show AWp _ _ _ _ _ _ ((m_flow_Shorts_Q0 p s_ u0) f) _
    unfold m_flow_Shorts_L0 at h
    obtain ⟨u3, u1⟩ := s
    refine sz tT ⟨[(2, (vI u0)), (k119 p), (k120 s_), (k202 u3), (k203 p), (k204 p), (31, (vI u1)), (32, (vB (decide (u1 < (p.sources.length : Int)))))], (k205 u3)⟩ {} [] ?_
    refine aQ ?_
    refine bI h (fun hb2 h => ?_) (fun hb2 h => ?_)
    ·refine ct hb2 ?_
     refine aP (aQ (aB (aQ (aO h fun a1 h => ?_))))
     refine rg tT ⟨[(2, (vI u0)), (k119 p), (k120 s_), (k202 u3), (10, (vI u1)), (k207 p u1), (k203 p), (k204 p), (31, (vI u1))], (k205 u3)⟩ [_] { fr := [(3, 39)] } [39] ⟨a1, trivial⟩ ?_
     refine aQ (aQ (bE h fun u5 hr_1 h => ?_))
     refine aO h fun a1 h => ?_
     refine rg tT ⟨[(2, (vI u0)), (k119 p), (k120 s_), (k202 u3), (10, (vI u1)), (k207 p u1), (k203 p), (k204 p), (31, (vI u1)), (47, (vB (bif (at' s_.badBus u0.toNat) then true else (!u5))))], (k205 u3)⟩ (_ :: (eqs (at' s_.badBus u0.toNat) 4 ((gP (ybf [(5, (at' s_.badBus u0.toNat))]) [(5, false)] → All [Fn Try.prog 65 (k117 p s_ u1) [] (vB u5) []]) :: (eqs (at' s_.badBus u0.toNat) 2 [])))) { yb := [(5, (at' s_.badBus u0.toNat))], an := [(9, .call [] (vB u5) [])] } [] ⟨a1, (ae ⟨(fun hg => ⟨(m_flow_feeds_ok p s_ u1 (gcall hr_1 (gB_of hg))), trivial⟩), (ae trivial)⟩)⟩ ?_
     refine bI h (fun hb1 h => ?_) (fun hb1 h => ?_)
     ·refine ct hb1 ?_
      refine aX (rz tT (k209 p u1 u0 s_ u3) {} [] ?_)
      obtain rfl := oi h
      exact lN (by kernel_rfl)
     ·refine cf hb1 ?_
      refine aP (aQ (bE h fun u2 hr_2 h => ?_))
      refine aO h fun a1 h => ?_
      have q0 := rk [(0, 40)] (m_flow_ways_v1_ok p s_ (k124 p u1) hr_2)
      refine rg tT ⟨[(2, (vI u0)), (k119 p), (k120 s_), (k202 u3), (10, (vI u1)), (k207 p u1), (k211 u0 u2), (k203 p), (k204 p), (31, (vI u1))], (k205 u3)⟩ [_, _, _] { an := [(4, cA q0 [])], fr := [(8, 41)] } [41] ⟨q0, a1, (tL a1), trivial⟩ ?_
      refine sz tT ⟨[(2, (vI u0)), (k119 p), (k120 s_), (k202 u3), (10, (vI u1)), (k207 p u1), (k211 u0 u2), (k203 p), (k204 p), (31, (vI u1)), (57, (vB ((at' u2 u0.toNat).there)))], (k205 u3)⟩ {} [] ?_
      refine bI h (fun hb h => ?_) (fun hb h => ?_)
      ·refine ct hb ?_
       refine sz tT ⟨[(2, (vI u0)), (k119 p), (k120 s_), (k202 u3), (10, (vI u1)), (k211 u0 u2), (13, (vI (k212 p u1 u0 u2))), (k203 p), (k204 p), (31, (vI u1))], (k205 u3)⟩ {} [] ?_
       refine aO h fun ⟨a1, a2, a3⟩ h => ?_
       refine dg tT mX ⟨[(2, (vI u0)), (k119 p), (k120 s_), (k213 p u1 u0 u3 u2), (k203 p), (k204 p), (31, (vI u1))], (k218 p u1 u0 u3 u2)⟩ [_, [(k216 p u1 u0 u2)].length = 1, ArrEq 1 4 (k220 p u1 u0 u2) (k221 p u1 u0 u2), u3.length = u3.length, _, _, (k215 p u1 u0 u3 u2).length = u3.length + [(k216 p u1 u0 u2)].length, ArrEq (k222 p u1 u0 u3 u2) 4 (k223 p u1 u0 u3 u2) (k224 p u1 u0 u3 u2)] { an := [(11, .arr [(k216 p u1 u0 u2)].length (k221 p u1 u0 u2)), (12, .arr (k215 p u1 u0 u3 u2).length (k224 p u1 u0 u3 u2))], fr := [(11, 42), (12, 43)] } [] ⟨a1, (rfl), ((by intro i hi j hj; match i, j, hi, hj with | 0, 0, _, _ => rfl | 0, 1, _, _ => rfl | 0, 2, _, _ => rfl | 0, 3, _, _ => rfl)), rfl, a2, a3, (List.length_append), (arrEq_app _ _ _ _), trivial⟩ ?_
       refine ri tT ⟨[(2, (vI u0)), (k119 p), (k120 s_), (k213 p u1 u0 u3 u2), (k203 p), (k204 p), (k210 u1)], (k218 p u1 u0 u3 u2)⟩ [] {} [] trivial (Imp.fin (st' := ⟨[(2, (vI u0)), (k119 p), (k120 s_), (9, (vO 28 false (k214 p u1 u0 u3 u2))), (k203 p), (k204 p), (k210 u1)], [(28, some (k219 p u1 u0 u3 u2))]⟩) (cs := []) ⟨[], [(43, 28)]⟩ [2, 3, 4, 9, 29, 30, 31] (by kernel_rfl) trivial) ?_
       obtain rfl := oi h
       exact lN (by kernel_rfl)
      ·refine cf hb ?_
       refine aP (rz tT (k209 p u1 u0 s_ u3) {} [] ?_)
       obtain rfl := oi h
       exact lN (by kernel_rfl)
    ·refine cf hb2 ?_
     refine aI (fz ⟨[(k202 u3)], (k205 u3)⟩ []) ?_
     refine aX ?_
     obtain rfl := oi h
     exact lB (by kernel_rfl)
   ·clear hy
    cases y with
    | brk z =>
     obtain ⟨u4, rfl⟩ : ∃ q, q = z := ⟨_, rfl⟩
     unfold ExK
     refine ⟨_, .refl, ?_⟩
     refine sg tT ⟨[(6, (vD (slD none 4 Short.cell u4))), (7, (vI 0))], []⟩ [u4.length = u4.length] {} [28] ⟨rfl, trivial⟩ ?_
     refine aR ?_
     obtain rfl := oi h
     exact rq [(sD (slD none 4 Short.cell u4)), (sI 0)] (.refl _)
    | ret v =>
     obtain rfl := oi h
     unfold ExK
     intro e st hn ha hR
     cases e with
     | normal => exact absurd rfl hn
     | exit id => exact hR
     | goto l => exact hR
     | ret => exact hR
     | panic c => exact hR
     | outgrown => exact hR
def m_slices_Index_R  : Int → Exit → St → Prop :=
  fun r => RetQ TT [.tmp 4] (vI r) []
def m_slices_Index_S0 (s_ : (List Int)) (v_ : Int) : Int → St :=
  fun t8 => ⟨[(k133 s_), (1, (vI v_)), (k141 s_), (8, (vI t8))], []⟩
def m_slices_Index_B0  : Unit → St :=
  fun _ => ⟨[], []⟩
def m_slices_Index_Q0 (s_ : (List Int)) (v_ : Int) : (Flow Int (Ex Unit Int)) → Exit → St → Prop :=
  LQ 0 [] (m_slices_Index_S0 s_ v_) m_slices_Index_B0 m_slices_Index_R
theorem m_slices_Index_ok (s_ : (List Int)) (v_ : Int) {r : Int} (h : m_slices_Index s_ v_ = some r) : Fn Try.prog 114 [(sD (k134 s_)), (sI v_)] [] (vI r) [] := by
 refine fN tT Try.func114 rfl rfl fun B => ?_
 show AWp _ _ _ _ _ _ (m_slices_Index_R r) _
 unfold m_slices_Index at h
 refine sz tT ⟨[(k133 s_), (1, (vI v_))], []⟩ {} [] ?_
 refine aQ (sz tT ⟨[(k133 s_), (1, (vI v_)), (k141 s_), (8, (vI 0))], []⟩ {} [] ?_)
 refine bE h fun y hy h => ?_
 refine aL [] (m_slices_Index_S0 s_ v_) m_slices_Index_B0 m_slices_Index_R hy (fun s f h => ?_) ?_
 ·clear hy
  show AWp _ _ _ _ _ _ ((m_slices_Index_Q0 s_ v_) f) _
  unfold m_slices_Index_L0 at h
  obtain ⟨t8, rfl⟩ : ∃ q, q = s := ⟨_, rfl⟩
  refine sz tT ⟨[(k133 s_), (1, (vI v_)), (k141 s_), (8, (vI t8)), (9, (k139 t8 s_))], []⟩ {} [] ?_
  refine aQ ?_
  refine bI h (fun hb1 h => ?_) (fun hb1 h => ?_)
  ·refine ct hb1 ?_
   refine aP (aQ (aB (sz tT ⟨[(k133 s_), (1, (vI v_)), (5, (vI t8)), (k141 s_), (8, (vI t8))], []⟩ {} [] ?_)))
   refine aQ (aO h fun a1 h => ?_)
   refine rg tT ⟨[(k133 s_), (1, (vI v_)), (5, (vI t8)), (k141 s_), (8, (vI t8)), (16, (vB (decide (v_ = (at' s_ t8.toNat)))))], []⟩ [_] {} [] ⟨a1, trivial⟩ ?_
   refine bI h (fun hb h => ?_) (fun hb h => ?_)
   ·refine ct hb ?_
    refine sz tT ⟨[(4, (vI t8))], []⟩ {} [] ?_
    refine aR ?_
    obtain rfl := oi h
    exact lR ret_nn (ret_ne 0) av_ret (RetQ.mk (.inr rfl) (p := []) (l := [(sI t8)]) (by kernel_rfl) trivial (TLe.refl _) trivial)
   ·refine cf hb ?_
    refine aP (rz tT ⟨[(k133 s_), (1, (vI v_)), (k141 s_), (k29 t8)], []⟩ {} [] ?_)
    obtain rfl := oi h
    exact lN (by kernel_rfl)
  ·refine cf hb1 ?_
   refine aI (fz ⟨[], []⟩ []) ?_
   refine aX ?_
   obtain rfl := oi h
   exact lB (by kernel_rfl)
 ·clear hy
  cases y with
  | brk z =>
   unfold ExK
   refine ⟨_, .refl, ?_⟩
   refine sz tT ⟨[(4, (vI (-1)))], []⟩ {} [] ?_
   refine aR ?_
   obtain rfl := oi h
   exact rq [(sI (-1))] (.refl _)
  | ret v =>
   obtain rfl := oi h
   unfold ExK
   intro e st hn ha hR
   cases e with
   | normal => exact absurd rfl hn
   | exit id => exact hR
   | goto l => exact hR
   | ret => exact hR
   | panic c => exact hR
   | outgrown => exact hR
def m_slices_Contains_R  : Bool → Exit → St → Prop :=
  fun r => RetQ TT [.tmp 4] (vB r) []
theorem m_slices_Contains_ok (s_ : (List Int)) (v_ : Int) {r : Bool} (h : m_slices_Contains s_ v_ = some r) : Fn Try.prog 69 [(sD (k134 s_)), (sI v_)] [] (vB r) [] := by
 refine fN tT Try.func69 rfl rfl fun B => ?_
 show AWp _ _ _ _ _ _ (m_slices_Contains_R r) _
 unfold m_slices_Contains at h
 refine sz tT ⟨[(k133 s_), (1, (vI v_))], []⟩ {} [] ?_
 refine aQ (bE h fun r_ hr_ h => ?_)
 have q0 := m_slices_Index_ok s_ v_ hr_
 refine rg tT (k31 r_) [_] { an := [(2, cA q0 [])] } [] ⟨q0, trivial⟩ ?_
 refine aR ?_
 obtain rfl := oi h
 exact rq [(sB (decide (0 ≤ r_)))] (.refl _)
section
variable (o_ : (List Int))
abbrev k226 : Ob := (arD 3 1 (intC .i64) o_)
abbrev k225 : List (Nat × Option Ob) := [(0, some (.cells 40 [(.own 1 true o_.length)])), (1, some (k226 o_))]
end
def m_flow_Through_1_R (o_ : (List Int)) : Bool → Exit → St → Prop :=
  fun r => RetQ TT [.tmp 3] (vB r) (k225 o_)
theorem m_flow_Through_1_ok (i : Int) (o_ : (List Int)) {r : Bool} (h : m_flow_Through_1 i o_ = some r) : Fn Try.prog 68 [(sI i), (.one (.ptr 0 0))] (k225 o_) (vB r) (k225 o_) := by
 refine fN tT Try.func68 rfl rfl fun B => ?_
 show AWp _ _ _ _ _ _ ((m_flow_Through_1_R o_) r) _
 unfold m_flow_Through_1 at h
 refine sz tT ⟨[(0, (vI i)), (1, (vP 0 0))], (k225 o_)⟩ {} [] ?_
 refine sg tT ⟨[(3, (vB (bif (decide (i < 0)) then true else (decide ((o_.length : Int) ≤ i)))))], (k225 o_)⟩ (eqs (decide (i < 0)) 5 []) { yb := [(2, (decide (i < 0)))] } [] (ae trivial) ?_
 refine aR ?_
 obtain rfl := oi h
 exact rh [(sB (bif (decide (i < 0)) then true else (decide ((o_.length : Int) ≤ i))))] (.refl _) ⟨rfl, .refl _, ⟨rfl, .refl _, trivial⟩⟩
def m_slices_IndexFunc113_R (o_ : (List Int)) : Int → Exit → St → Prop :=
  fun r => RetQ TT [.tmp 4] (vI r) (k225 o_)
abbrev k227 : Nat × TV := (1, (.v (.one (.fn 68 0 1 (capC [(.ptr 0 0)])))))
def m_slices_IndexFunc113_S0 (s_ : (List Int)) (o_ : (List Int)) : Int → St :=
  fun t8 => ⟨[(k133 s_), k227, (k141 s_), (8, (vI t8))], (k225 o_)⟩
section
variable (o_ : (List Int))
abbrev k228 : St := ⟨[], (k225 o_)⟩
end
def m_slices_IndexFunc113_B0 (o_ : (List Int)) : Unit → St :=
  fun _ => (k228 o_)
def m_slices_IndexFunc113_Q0 (s_ : (List Int)) (o_ : (List Int)) : (Flow Int (Ex Unit Int)) → Exit → St → Prop :=
  LQ 0 [] (m_slices_IndexFunc113_S0 s_ o_) (m_slices_IndexFunc113_B0 o_) (m_slices_IndexFunc113_R o_)
section
variable (s_ : (List Int)) (o_ : (List Int))
abbrev k229 : St := ⟨[(k133 s_), k227], (k225 o_)⟩
end
theorem m_slices_IndexFunc113_ok (s_ : (List Int)) (o_ : (List Int)) {r : Int} (h : m_slices_IndexFunc113 s_ o_ = some r) : Fn Try.prog 113 [(sD (k134 s_)), (.one (.fn 68 0 1 (capC [(.ptr 0 0)])))] (k225 o_) (vI r) (k225 o_) := by
 refine fN tT Try.func113 rfl rfl fun B => ?_
 show AWp _ _ _ _ _ _ ((m_slices_IndexFunc113_R o_) r) _
 unfold m_slices_IndexFunc113 at h
 refine sz tT (k229 s_ o_) {} [] ?_
 refine aQ (sz tT ⟨[(k133 s_), k227, (k141 s_), (8, (vI 0))], (k225 o_)⟩ {} [] ?_)
 refine bE h fun y hy h => ?_
 refine aL [] (m_slices_IndexFunc113_S0 s_ o_) (m_slices_IndexFunc113_B0 o_) (m_slices_IndexFunc113_R o_) hy (fun s f h => ?_) ?_
 ·clear hy
  show AWp _ _ _ _ _ _ ((m_slices_IndexFunc113_Q0 s_ o_) f) _
  unfold m_slices_IndexFunc113_L0 at h
  obtain ⟨t8, rfl⟩ : ∃ q, q = s := ⟨_, rfl⟩
  refine sz tT ⟨[(k133 s_), k227, (k141 s_), (8, (vI t8)), (9, (k139 t8 s_))], (k225 o_)⟩ {} [] ?_
  refine aQ ?_
  refine bI h (fun hb1 h => ?_) (fun hb1 h => ?_)
  ·refine ct hb1 ?_
   refine aP (aQ (aB (sz tT ⟨[(k133 s_), k227, (5, (vI t8)), (k141 s_), (8, (vI t8))], (k225 o_)⟩ {} [] ?_)))
   refine aQ (bE h fun r_ hr_ h => ?_)
   refine aO h fun a1 h => ?_
   have q1 := m_flow_Through_1_ok (at' s_ t8.toNat) o_ hr_
   refine rg tT ⟨[(k133 s_), k227, (5, (vI t8)), (k141 s_), (8, (vI t8)), (16, (vB r_))], (k225 o_)⟩ [_, _] { an := [(5, cR q1 [0, 1])] } [] ⟨a1, q1, trivial⟩ ?_
   refine bI h (fun hb h => ?_) (fun hb h => ?_)
   ·refine ct hb ?_
    refine sz tT ⟨[(4, (vI t8))], (k225 o_)⟩ {} [] ?_
    refine aR ?_
    obtain rfl := oi h
    exact lR ret_nn (ret_ne 0) av_ret (RetQ.mk (.inr rfl) (p := []) (l := [(sI t8)]) (by kernel_rfl) trivial (TLe.refl _) ⟨rfl, .refl _, ⟨rfl, .refl _, trivial⟩⟩)
   ·refine cf hb ?_
    refine aP (rz tT ⟨[(k133 s_), k227, (k141 s_), (k29 t8)], (k225 o_)⟩ {} [] ?_)
    obtain rfl := oi h
    exact lN (by kernel_rfl)
  ·refine cf hb1 ?_
   refine aI (fz (k228 o_) []) ?_
   refine aX ?_
   obtain rfl := oi h
   exact lB (by kernel_rfl)
 ·clear hy
  cases y with
  | brk z =>
   unfold ExK
   refine ⟨_, .refl, ?_⟩
   refine sz tT ⟨[(4, (vI (-1)))], (k225 o_)⟩ {} [] ?_
   refine aR ?_
   obtain rfl := oi h
   exact rh [(sI (-1))] (.refl _) ⟨rfl, .refl _, ⟨rfl, .refl _, trivial⟩⟩
  | ret v =>
   obtain rfl := oi h
   unfold ExK
   intro e st hn ha hR
   cases e with
   | normal => exact absurd rfl hn
   | exit id => exact hR
   | goto l => exact hR
   | ret => exact hR
   | panic c => exact hR
   | outgrown => exact hR
def m_slices_ContainsFunc67_R (o_ : (List Int)) : Bool → Exit → St → Prop :=
  fun r => RetQ TT [.tmp 4] (vB r) (k225 o_)
theorem m_slices_ContainsFunc67_ok (s_ : (List Int)) (o_ : (List Int)) {r : Bool} (h : m_slices_ContainsFunc67 s_ o_ = some r) : Fn Try.prog 67 [(sD (k134 s_)), (.one (.fn 68 0 1 (capC [(.ptr 0 0)])))] (k225 o_) (vB r) (k225 o_) := by
 refine fN tT Try.func67 rfl rfl fun B => ?_
 show AWp _ _ _ _ _ _ ((m_slices_ContainsFunc67_R o_) r) _
 unfold m_slices_ContainsFunc67 at h
 refine sz tT (k229 s_ o_) {} [] ?_
 refine aQ (bE h fun r_ hr_ h => ?_)
 have q0 := m_slices_IndexFunc113_ok s_ o_ hr_
 refine rg tT ⟨[(4, (vB (decide (0 ≤ r_))))], (k225 o_)⟩ [_] { an := [(2, cR q0 [0, 1])] } [] ⟨q0, trivial⟩ ?_
 refine aR ?_
 obtain rfl := oi h
 exact rh [(sB (decide (0 ≤ r_)))] (.refl _) ⟨rfl, .refl _, ⟨rfl, .refl _, trivial⟩⟩
def m_flow_Through_R  : ((List Int) × Bool × Int) → Exit → St → Prop :=
  fun r => RetQ TT [.tmp 4, .tmp 5] (.tup [(sD (slD (some r.2.1) 1 (intC .i64) r.1)), (sI r.2.2)]) []
section
variable (l : (List Short)) (u0 : (List Int)) (u1 : Int)
abbrev k231 : Nat × TV := (23, (vD (slD none 4 Short.cell l)))
abbrev k232 : Nat × TV := (24, (vI (l.length : Int)))
abbrev k233 : List (Nat × Option Ob) := [(8, some (k226 u0)), (9, some (.cells 40 [(.own 8 true u0.length)]))]
abbrev k230 : St := ⟨[(7, (vP 9 0)), (k231 l), (k232 l), (25, (vI u1))], (k233 u0)⟩
end
def m_flow_Through_S0 (l : (List Short)) : ((List Int) × Int) → St :=
  fun zz => match zz with | (u0, u1) => (k230 l u0 u1)
section
variable (u0 : (List Int))
abbrev k234 : St := ⟨[(7, (vP 9 0))], (k233 u0)⟩
end
def m_flow_Through_B0  : (List Int) → St :=
  fun u0 => (k234 u0)
def m_flow_Through_Q0 (l : (List Short)) : (Flow ((List Int) × Int) (Ex (List Int) ((List Int) × Bool × Int))) → Exit → St → Prop :=
  LQ 0 [] (m_flow_Through_S0 l) m_flow_Through_B0 m_flow_Through_R
section
variable (l : (List Short)) (u0 : Int) (u2 : (List Int)) (u3 : Int)
abbrev k236 : Nat × TV := (9, (vD (ipT [(.int .i64 ((at' l u0.toNat).source)), (.int .i64 ((at' l u0.toNat).ohm)), (.int .i64 ((at' l u0.toNat).amps)), (slD none 1 (intC .i64) ((at' l u0.toNat).links))] 0)))
abbrev k237 : Nat × TV := (44, (vI (u2.length : Int)))
abbrev k235 : List (Nat × TV) := [(7, (vP 9 0)), (k236 l u0), (k231 l), (k232 l), (25, (vI u0)), (k237 u2), (45, (vI u3))]
end
def m_flow_Through_S1 (l : (List Short)) (u2 : (List Int)) (u0 : Int) : ((List Int) × Int) → St :=
  fun zz => match zz with | (u1, u3) => ⟨(k235 l u0 u2 u3), (k233 u1)⟩
def m_flow_Through_B1 (l : (List Short)) (u1 : Int) : (List Int) → St :=
  fun u0 => (k230 l u0 u1)
def m_flow_Through_Q1 (l : (List Short)) (u1 : (List Int)) (u0 : Int) : (Flow ((List Int) × Int) (Ex (List Int) (Flow ((List Int) × Int) (Ex (List Int) ((List Int) × Bool × Int))))) → Exit → St → Prop :=
  LQ 2 [1] (m_flow_Through_S1 l u1 u0) (m_flow_Through_B1 l u0) (m_flow_Through_Q0 l)
section
variable (l : (List Short)) (p : Plant) (u0 : Int) (u5 : Bool) (u1 : (List Int)) (u2 : Int) (u3 : (List Int))
abbrev k238 : Nat × TV := (1, (vD (slD none 4 Short.cell l)))
abbrev k239 : Nat × TV := (2, (k7 p))
abbrev k240 : DV := (slD (some false) 1 (intC .i64) ([] : List Int))
abbrev k241 : List SV := [(sD k240), (sI 1)]
abbrev k244 := ((p.links.length : Int).toNat)
abbrev k243 := (List.replicate (k244 p) (0 : Int))
abbrev k242 : List (Nat × Option Ob) := [(8, some (arD 3 1 (intC .i64) (k243 p))), (9, some (.cells 40 [(.own 8 true ((k243 p).length))]))]
abbrev k245 := (elOf (intC .i64) (k243 p))
abbrev k248 := (decide (((at' l u0.toNat).amps) < 0))
abbrev k247 := (bif (k248 l u0) then true else (decide (1000000 < ((at' l u0.toNat).amps))))
abbrev k246 : Nat × TV := (42, (vB (bif (k247 l u0) then true else u5)))
abbrev k249 := (ybf [(3, (k248 l u0)), (8, (k247 l u0))])
abbrev k251 := (u1.set u2.toNat (IntKind.wrap .i64 ((at' u1 u2.toNat) + ((at' l u0.toNat).amps))))
abbrev k250 := (elOf (intC .i64) (k251 l u0 u1 u2))
abbrev k252 := (stEls (elOf (intC .i64) u1) u2.toNat 0 [(.int .i64 (IntKind.wrap .i64 ((at' u1 u2.toNat) + ((at' l u0.toNat).amps))))])
abbrev k253 : List (Nat × Option Ob) := [(8, some (arD 3 1 (intC .i64) (k251 l u0 u1 u2))), (9, some (.cells 40 [(.own 8 true ((k251 l u0 u1 u2).length))]))]
abbrev k254 : List (Nat × TV) := [(7, (vP 9 0)), (k236 l u0), (k231 l), (k232 l), (25, (vI u0)), (k237 u3), (45, (k30 u2))]
abbrev k255 : Nat × TV := (25, (k30 u0))
end
theorem m_flow_Through_ok (p : Plant) (l : (List Short)) {r : ((List Int) × Bool × Int)} (h : m_flow_Through p l = some r) : Fn Try.prog 18 [(.agg (k1 p)), (sD (slD none 4 Short.cell l))] [] (.tup [(sD (slD (some r.2.1) 1 (intC .i64) r.1)), (sI r.2.2)]) [] := by
 refine fN tT Try.func18 rfl rfl fun B => ?_
 show AWp _ _ _ _ _ _ (m_flow_Through_R r) _
 unfold m_flow_Through at h
 refine sz tT ⟨[(k238 l), (k239 p)], []⟩ { fr := [(0, 7)] } [7] ?_
 refine aQ (aQ (bE h fun r_ hr_ h => ?_))
 have q0 := m_plant_Check_ok p hr_
 refine rg tT ⟨[(k238 l), (k239 p), (6, (vI r_))], []⟩ [_] { an := [(1, cA q0 [])] } [] ⟨q0, trivial⟩ ?_
 refine sz tT ⟨[(k238 l), (k239 p), (6, (vI r_)), (14, (vB (!decide (r_ = 0))))], []⟩ {} [] ?_
 refine bI h (fun hb5 h => ?_) (fun hb5 h => ?_)
 ·refine ct hb5 ?_
  refine sz tT ⟨[(4, (vD nS)), (5, (vI r_))], []⟩ {} [] ?_
  refine aI (Imp.le (st' := ⟨[(4, (vD k240)), (5, (vI r_))], []⟩) ⟨⟨⟨_, rfl, TLe.v (SLe.one (CLe.d DLe.nilSl))⟩, tR, trivial⟩, trivial⟩) ?_
  refine aR ?_
  obtain rfl := oi h
  exact rq [(sD k240), (sI r_)] (.refl _)
 ·refine cf hb5 ?_
  refine aP (aQ (sz tT ⟨[(k238 l), (k239 p), (18, (vB (decide (8 < (l.length : Int)))))], []⟩ {} [] ?_))
  refine bI h (fun hb4 h => ?_) (fun hb4 h => ?_)
  ·refine ct hb4 ?_
   refine sz tT ⟨[(4, (vD nS)), (5, (vI 1))], []⟩ {} [] ?_
   refine aI (Imp.le (st' := ⟨[(4, (vD k240)), (5, (vI 1))], []⟩) ⟨⟨⟨_, rfl, TLe.v (SLe.one (CLe.d DLe.nilSl))⟩, tR, trivial⟩, trivial⟩) ?_
   refine aR ?_
   obtain rfl := oi h
   exact rq k241 (.refl _)
  ·refine cf hb4 ?_
   refine aP (aQ (aO h fun ⟨a1, a2, a3⟩ h => ?_))
   refine rg tT ⟨[(k238 l), (7, (vP 9 0))], (k242 p)⟩ [_, ((p.links.length : Int) : Int) = (p.links.length : Int), _, _, (k243 p).length = (k244 p), ArrEq (k244 p) 1 (fun _ j => [(.int .i64 0)].getD j .nilp) (k245 p)] { an := [(3, .arr (k243 p).length (k245 p))], fr := [(3, 8), (4, 9)] } [] ⟨a1, rfl, a2, a3, (List.length_replicate), (arrEq_rep _ _ _ _ _ (fun j hj => (match j, hj with | 0, _ => rfl))), trivial⟩ ?_
   refine aQ (sz tT ⟨[(7, (vP 9 0)), (k231 l), (k232 l), (25, (vI 0))], (k242 p)⟩ {} [] ?_)
   refine bE h fun y1 hy h => ?_
   refine aL [] (m_flow_Through_S0 l) m_flow_Through_B0 m_flow_Through_R hy (fun s f h => ?_) ?_
   ·clear hy
    show AWp _ _ _ _ _ _ ((m_flow_Through_Q0 l) f) _
    unfold m_flow_Through_L0 at h
    obtain ⟨u3, u0⟩ := s
    refine sz tT ⟨[(7, (vP 9 0)), (k231 l), (k232 l), (25, (vI u0)), (26, (vB (decide (u0 < (l.length : Int)))))], (k233 u3)⟩ {} [] ?_
    refine aQ ?_
    refine bI h (fun hb3 h => ?_) (fun hb3 h => ?_)
    ·refine ct hb3 ?_
     refine aP (aQ (aB (aQ (aO h fun a1 h => ?_))))
     refine rg tT ⟨[(7, (vP 9 0)), (k236 l u0), (k231 l), (k232 l), (25, (vI u0))], (k233 u3)⟩ [_] { fr := [(2, 13)] } [13] ⟨a1, trivial⟩ ?_
     refine aQ (aQ (bE h fun u5 hr_1 h => ?_))
     refine rg tT ⟨[(7, (vP 9 0)), (k236 l u0), (k231 l), (k232 l), (25, (vI u0)), (k246 l u0 u5)], (k233 u3)⟩ (eqs (k248 l u0) 4 (eqs (k247 l u0) 4 [gP (k249 l u0) [(8, false)] → All [Fn Try.prog 67 [(sD (slD none 1 (intC .i64) ((at' l u0.toNat).links))), (.one (.fn 68 0 1 (capC [(.ptr 9 0)])))] [(9, some (.cells 40 [(.own 8 true u3.length)])), (8, some (k226 u3))] (vB u5) [(9, some (.cells 40 [(.own 8 true u3.length)])), (8, some (k226 u3))]], (k247 l u0) = (k247 l u0)])) { yb := [(3, (k248 l u0)), (8, (k247 l u0))], an := [(12, .callR [9, 8] (vB u5))] } [] (ae (ae ⟨(fun hg => ⟨(Fn.renK [(0, 9), (1, 8)] (m_slices_ContainsFunc67_ok ((at' l u0.toNat).links) u3 (gcall hr_1 (gB_of hg))) (by kernel_rfl) (by kernel_rfl) (by kernel_rfl) (by kernel_rfl)), trivial⟩), rfl, trivial⟩)) ?_
     refine bI h (fun hb2 h => ?_) (fun hb2 h => ?_)
     ·refine ct hb2 ?_
      refine sz tT ⟨[(4, (vD nS)), (5, (vI 1))], []⟩ {} [] ?_
      refine aI (Imp.le (st' := ⟨[(4, (vD k240)), (5, (vI 1))], []⟩) ⟨⟨⟨_, rfl, TLe.v (SLe.one (CLe.d DLe.nilSl))⟩, tR, trivial⟩, trivial⟩) ?_
      refine aR ?_
      obtain rfl := oi h
      exact lR ret_nn (ret_ne 0) av_ret (RetQ.mk (.inr rfl) (p := []) (l := k241) (by kernel_rfl) trivial (TLe.refl _) trivial)
     ·refine cf hb2 ?_
      refine aP (sz tT ⟨[(7, (vP 9 0)), (k236 l u0), (k231 l), (k232 l), (25, (vI u0)), (k237 u3), (45, (vI 0))], (k233 u3)⟩ {} [] ?_)
      refine bE h fun y hy h => ?_
      refine aL [1] (m_flow_Through_S1 l u3 u0) (m_flow_Through_B1 l u0) (m_flow_Through_Q0 l) hy (fun s f h => ?_) ?_
      ·clear hy
       show AWp _ _ _ _ _ _ ((m_flow_Through_Q1 l u3 u0) f) _
       unfold m_flow_Through_L1 at h
       obtain ⟨u1, u2⟩ := s
       refine sz tT ⟨[(7, (vP 9 0)), (k236 l u0), (k231 l), (k232 l), (25, (vI u0)), (k237 u3), (45, (vI u2)), (46, (k139 u2 u3))], (k233 u1)⟩ {} [] ?_
       refine aQ ?_
       refine bI h (fun hb1 h => ?_) (fun hb1 h => ?_)
       ·refine ct hb1 ?_
        refine aP (aQ (aB (sz tT ⟨[(7, (vP 9 0)), (k236 l u0), (10, (vI u2)), (k231 l), (k232 l), (25, (vI u0)), (k237 u3), (45, (vI u2))], (k233 u1)⟩ {} [] ?_)))
        refine aQ (bE h fun u7 hr_2 h => ?_)
        have q0 := m_slices_Contains_ok ((at' l u0.toNat).links) u2 hr_2
        refine rg tT ⟨[(7, (vP 9 0)), (k236 l u0), (10, (vI u2)), (k231 l), (k232 l), (25, (vI u0)), (k237 u3), (45, (vI u2)), (51, (vB u7))], (k233 u1)⟩ [_] { an := [(3, cA q0 [])] } [] ⟨q0, trivial⟩ ?_
        refine bI h (fun hb h => ?_) (fun hb h => ?_)
        ·refine ct hb ?_
         refine aO h fun a1 h => ?_
         refine di tT mX ⟨(k235 l u0 u3 u2), [(8, some (.arr 3 1 u1.length (k250 l u0 u1 u2))), (9, some (.cells 40 [(.own 8 true u1.length)]))]⟩ [_, _, _, _, ArrEq u1.length 1 (k252 l u0 u1 u2) (k250 l u0 u1 u2)] { an := [(8, .arr 0 (k250 l u0 u1 u2))] } [] ⟨a1, (tL a1), a1, (tL a1), (arrEq_set' _ _ _ _ _ _ _ _ rfl (fun j hj => (match j, hj with | 0, _ => rfl))), trivial⟩ (Imp.le (st' := ⟨(k235 l u0 u3 u2), (k253 l u0 u1 u2)⟩) ⟨⟨tR, tR, tR, tR, tR, tR, tR, trivial⟩, ⟨rfl, oW, ⟨rfl, OLe_cells ⟨cW, trivial⟩, trivial⟩⟩⟩) ?_
         refine rz tT ⟨(k254 l u0 u2 u3), (k253 l u0 u1 u2)⟩ {} [] ?_
         obtain rfl := oi h
         exact lN (by kernel_rfl)
        ·refine cf hb ?_
         refine aP (rz tT ⟨(k254 l u0 u2 u3), (k233 u1)⟩ {} [] ?_)
         obtain rfl := oi h
         exact lN (by kernel_rfl)
       ·refine cf hb1 ?_
        refine aI (fz (k230 l u1 u0) []) ?_
        refine aX ?_
        obtain rfl := oi h
        exact lB (by kernel_rfl)
      ·clear hy
       cases y with
       | brk z =>
        obtain ⟨u6, rfl⟩ : ∃ q, q = z := ⟨_, rfl⟩
        unfold ExK
        refine ⟨_, .refl, ?_⟩
        refine rz tT ⟨[(7, (vP 9 0)), (k231 l), (k232 l), (k255 u0)], (k233 u6)⟩ {} [] ?_
        obtain rfl := oi h
        exact lN (by kernel_rfl)
       | ret v =>
        obtain rfl := oi h
        unfold ExK
        intro e st hn ha hR
        cases e with
        | normal => exact absurd rfl hn
        | exit id => simp only [av_beq (b := 1) ha rfl, cond_false]; exact hR
        | goto l => exact hR
        | ret => exact hR
        | panic c => exact hR
        | outgrown => exact hR
    ·refine cf hb3 ?_
     refine aI (fz (k234 u3) []) ?_
     refine aX ?_
     obtain rfl := oi h
     exact lB (by kernel_rfl)
   ·clear hy
    cases y1 with
    | brk z =>
     obtain ⟨u4, rfl⟩ : ∃ q, q = z := ⟨_, rfl⟩
     unfold ExK
     refine ⟨_, .refl, ?_⟩
     refine sg tT ⟨[(4, (vD (slD (some true) 1 (intC .i64) u4))), (5, (vI 0))], []⟩ [u4.length = u4.length] {} [8] ⟨rfl, trivial⟩ ?_
     refine aR ?_
     obtain rfl := oi h
     exact rq [(sD (slD (some true) 1 (intC .i64) u4)), (sI 0)] (.refl _)
    | ret v =>
     obtain rfl := oi h
     unfold ExK
     intro e st hn ha hR
     cases e with
     | normal => exact absurd rfl hn
     | exit id => exact hR
     | goto l => exact hR
     | ret => exact hR
     | panic c => exact hR
     | outgrown => exact hR
section
variable (u0 : Machine)
abbrev k257 : Ob := (arD 56 2 Event.cell u0.clearing.events)
abbrev k256 : Nat × Option Ob := (1, some (k257 u0))
end
def m_guard_machine_look_R (u0 : Machine) : (Machine × Bool) → Exit → St → Prop :=
  fun r => RetQ TT [] (.tup []) [(0, some (.cells 137 [(.own 1 false u0.clearing.events.length), (cB r.1.clearing.cleared), (cI r.1.clearing.millis), (cI r.1.clearing.energy), (.d (slD none 1 boolC r.1.clearing.state.closed)), (.d (slD none 1 boolC r.1.clearing.state.locked)), (.d (slD none 1 boolC r.1.clearing.state.badLink)), (.d (slD none 1 boolC r.1.clearing.state.on_)), (.d (slD none 1 boolC r.1.clearing.state.badSource)), (.d (slD none 1 boolC r.1.clearing.state.earthed)), (.d (slD none 1 boolC r.1.clearing.state.badBus)), (cI r.1.p.buses), (.d (slD none 5 Source.cell r.1.p.sources)), (.d (slD none 6 Link.cell r.1.p.links)), (.d (slD none 4 Rack.cell r.1.p.racks)), (cI r.1.bus), (.d (slD (some r.2) 1 (intC .i64) r.1.amps)), (cI r.1.total), (.mp 2), (cI r.1.now)])), (k256 u0), (2, some (mpD 3 3 false false 1 1 (intC .i64) (intC .i64) r.1.since))]
section
variable (u1 : ((List Int) × Bool × Int)) (r_ : ((List Short) × Int)) (u4 : Int) (u0 : Machine) (u2 : Bool) (u3 : Int)
abbrev k259 : Nat × TV := (4, (vD (slD (some u1.2.1) 1 (intC .i64) u1.1)))
abbrev k260 : Nat × TV := (39, (vD (slD none 4 Short.cell r_.1)))
abbrev k258 : List (Nat × TV) := [(0, (vP 0 0)), (k259 u1), (k260 r_), (40, (vI (r_.1.length : Int))), (41, (vI u4))]
abbrev k263 : DV := (slD none 1 boolC u0.clearing.state.closed)
abbrev k264 : DV := (slD none 1 boolC u0.clearing.state.locked)
abbrev k265 : DV := (slD none 1 boolC u0.clearing.state.badLink)
abbrev k266 : DV := (slD none 1 boolC u0.clearing.state.on_)
abbrev k267 : DV := (slD none 1 boolC u0.clearing.state.badSource)
abbrev k268 : DV := (slD none 1 boolC u0.clearing.state.earthed)
abbrev k269 : DV := (slD none 1 boolC u0.clearing.state.badBus)
abbrev k270 : DV := (slD none 5 Source.cell u0.p.sources)
abbrev k271 : DV := (slD none 6 Link.cell u0.p.links)
abbrev k272 : DV := (slD none 4 Rack.cell u0.p.racks)
abbrev k273 : DV := (slD (some u2) 1 (intC .i64) u0.amps)
abbrev k262 : Nat × Option Ob := (0, some (.cells 137 [(.own 1 false u0.clearing.events.length), (cB u0.clearing.cleared), (cI u0.clearing.millis), (cI u0.clearing.energy), (.d (k263 u0)), (.d (k264 u0)), (.d (k265 u0)), (.d (k266 u0)), (.d (k267 u0)), (.d (k268 u0)), (.d (k269 u0)), (cI u0.p.buses), (.d (k270 u0)), (.d (k271 u0)), (.d (k272 u0)), (cI u0.bus), (.d (k273 u0 u2)), (cI u3), (.mp 2), (cI u0.now)]))
abbrev k275 : Ob := (mpD 3 3 false false 1 1 (intC .i64) (intC .i64) u0.since)
abbrev k274 : Nat × Option Ob := (2, some (k275 u0))
abbrev k261 : List (Nat × Option Ob) := [(k262 u0 u2 u3), (k256 u0), (k274 u0)]
end
def m_guard_machine_look_S0 (u0 : Machine) (u2 : Bool) (r_ : ((List Short) × Int)) (u1 : ((List Int) × Bool × Int)) : (Int × Int) → St :=
  fun zz => match zz with | (u3, u4) => ⟨(k258 u1 r_ u4), (k261 u0 u2 u3)⟩
section
variable (u1 : ((List Int) × Bool × Int)) (u0 : Machine) (u2 : Bool) (u3 : Int)
abbrev k277 : List (Nat × TV) := [(0, (vP 0 0)), (k259 u1)]
abbrev k276 : St := ⟨(k277 u1), (k261 u0 u2 u3)⟩
end
def m_guard_machine_look_B0 (u0 : Machine) (u2 : Bool) (u1 : ((List Int) × Bool × Int)) : Int → St :=
  fun u3 => (k276 u1 u0 u2 u3)
def m_guard_machine_look_Q0 (u0 : Machine) (u1 : Bool) (r_ : ((List Short) × Int)) (u2 : ((List Int) × Bool × Int)) : (Flow (Int × Int) (Ex Int (Machine × Bool))) → Exit → St → Prop :=
  LQ 0 [] (m_guard_machine_look_S0 u0 u1 r_ u2) (m_guard_machine_look_B0 u0 u1 u2) (m_guard_machine_look_R u0)
section
variable (u1 : ((List Int) × Bool × Int)) (u5 : Int) (u4 : (List (Int × Int))) (u0 : Machine) (u2 : Bool) (u3 : Int)
abbrev k279 : Nat × TV := (55, (vD (slD (some u1.2.1) 1 (intC .i64) u1.1)))
abbrev k280 : Nat × TV := (56, (vI (u1.1.length : Int)))
abbrev k278 : List (Nat × TV) := [(0, (vP 0 0)), (k259 u1), (k279 u1), (k280 u1), (57, (vI u5))]
abbrev k283 : Ob := (mpD 3 3 false false 1 1 (intC .i64) (intC .i64) u4)
abbrev k282 : Nat × Option Ob := (2, some (k283 u4))
abbrev k281 : List (Nat × Option Ob) := [(k262 u0 u2 u3), (k256 u0), (k282 u4)]
end
def m_guard_machine_look_S1 (u0 : Machine) (u2 : Bool) (u1 : ((List Int) × Bool × Int)) (u3 : Int) : ((List (Int × Int)) × Int) → St :=
  fun zz => match zz with | (u4, u5) => ⟨(k278 u1 u5), (k281 u4 u0 u2 u3)⟩
section
variable (u1 : ((List Int) × Bool × Int)) (u0 : Machine) (u2 : Bool) (u3 : Int) (u4 : (List (Int × Int)))
abbrev k284 : St := ⟨(k277 u1), (k281 u4 u0 u2 u3)⟩
end
def m_guard_machine_look_B1 (u0 : Machine) (u2 : Bool) (u1 : ((List Int) × Bool × Int)) (u3 : Int) : (List (Int × Int)) → St :=
  fun u4 => (k284 u1 u0 u2 u3 u4)
def m_guard_machine_look_Q1 (u0 : Machine) (u1 : Bool) (u2 : ((List Int) × Bool × Int)) (u3 : Int) : (Flow ((List (Int × Int)) × Int) (Ex (List (Int × Int)) (Machine × Bool))) → Exit → St → Prop :=
  LQ 2 [] (m_guard_machine_look_S1 u0 u1 u2 u3) (m_guard_machine_look_B1 u0 u1 u2 u3) (m_guard_machine_look_R u0)
section
variable (u0 : Machine) (u2 : Bool) (r_ : ((List Short) × Int)) (u1 : ((List Int) × Bool × Int)) (u6 : Int) (u7 : Int) (u3 : Int) (u5 : Int) (u4 : (List (Int × Int)))
abbrev k287 : List CV := [(.own 1 false u0.clearing.events.length), (cB u0.clearing.cleared), (cI u0.clearing.millis), (cI u0.clearing.energy), (.d (k263 u0)), (.d (k264 u0)), (.d (k265 u0)), (.d (k266 u0)), (.d (k267 u0)), (.d (k268 u0)), (.d (k269 u0)), (cI u0.p.buses), (.d (k270 u0)), (.d (k271 u0)), (.d (k272 u0)), (cI u0.bus), (.d (k273 u0 u2)), (cI u0.total), (.mp 2), (cI u0.now)]
abbrev k286 : Nat × Option Ob := (0, some (.cells 137 (k287 u0 u2)))
abbrev k285 : List (Nat × Option Ob) := [(k286 u0 u2), (k256 u0), (k274 u0)]
abbrev k288 : List (Nat × TV) := [(0, (vP 0 0)), (2, (vD (slD none 4 Short.cell r_.1))), (k259 u1)]
abbrev k289 : List (Nat × Option Ob) := [(0, some (.cells 137 [(.own 1 false u0.clearing.events.length), (cB u0.clearing.cleared), (cI u0.clearing.millis), (cI u0.clearing.energy), (.d (k263 u0)), (.d (k264 u0)), (.d (k265 u0)), (.d (k266 u0)), (.d (k267 u0)), (.d (k268 u0)), (.d (k269 u0)), (cI u0.p.buses), (.d (k270 u0)), (.d (k271 u0)), (.d (k272 u0)), (cI u0.bus), (.d (k273 u0 u2)), (cI 0), (.mp 2), (cI u0.now)])), (k256 u0), (k274 u0)]
abbrev k290 : List (Nat × TV) := [(0, (vP 0 0)), (k259 u1), (k260 r_), (40, (vI (r_.1.length : Int))), (41, (vI 0))]
abbrev k291 : List (Nat × TV) := [(0, (vP 0 0)), (k259 u1), (k260 r_), (40, (vI (r_.1.length : Int))), (41, (vI u6)), (42, (vB (decide (u6 < (r_.1.length : Int)))))]
abbrev k292 : List (Nat × TV) := [(0, (vP 0 0)), (k259 u1), (7, (vD (ipT [(.int .i64 ((at' r_.1 u6.toNat).source)), (.int .i64 ((at' r_.1 u6.toNat).ohm)), (.int .i64 ((at' r_.1 u6.toNat).amps)), (slD none 1 (intC .i64) ((at' r_.1 u6.toNat).links))] 0))), (k260 r_), (40, (vI (r_.1.length : Int))), (41, (vI u6))]
abbrev k293 : List (Nat × Option Ob) := [(0, some (.cells 137 [(.own 1 false u0.clearing.events.length), (cB u0.clearing.cleared), (cI u0.clearing.millis), (cI u0.clearing.energy), (.d (k263 u0)), (.d (k264 u0)), (.d (k265 u0)), (.d (k266 u0)), (.d (k267 u0)), (.d (k268 u0)), (.d (k269 u0)), (cI u0.p.buses), (.d (k270 u0)), (.d (k271 u0)), (.d (k272 u0)), (cI u0.bus), (.d (k273 u0 u2)), (cI (IntKind.wrap .i64 (u7 + ((at' r_.1 u6.toNat).amps)))), (.mp 2), (cI u0.now)])), (k256 u0), (k274 u0)]
abbrev k294 : List (Nat × TV) := [(0, (vP 0 0)), (k259 u1), (k260 r_), (40, (vI (r_.1.length : Int))), (41, (k30 u6))]
abbrev k295 : List (Nat × TV) := [(0, (vP 0 0)), (k259 u1), (k279 u1), (k280 u1), (57, (vI 0))]
abbrev k296 : List (Nat × TV) := [(0, (vP 0 0)), (k259 u1), (k279 u1), (k280 u1), (57, (vI u3)), (58, (vB (decide (u3 < (u1.1.length : Int)))))]
abbrev k297 : List (Nat × TV) := [(0, (vP 0 0)), (k259 u1), (8, (vI u3)), (9, (vI (at' u1.1 u3.toNat))), (k279 u1), (k280 u1), (57, (vI u3))]
abbrev k298 : List (Nat × TV) := [(0, (vP 0 0)), (k259 u1), (8, (vI u3)), (k279 u1), (k280 u1), (57, (vI u3)), (77, (vB (bif (!u2) then true else (!decide ((at' u0.amps u3.toNat) = (at' u1.1 u3.toNat))))))]
abbrev k299 := (eqs (!u2) 6 ((gP (ybf [(5, (!u2))]) [(5, false)] → All [(0 : Int) ≤ u3 ∧ u3 < (u0.amps.length : Int)]) :: (eqs (!u2) 4 [])))
abbrev k300 : List (Nat × Option Ob) := [(k262 u0 u2 u5), (k256 u0), (2, some (mpD 3 3 false false 1 1 (intC .i64) (intC .i64) (mset eqI u3 u0.now u4)))]
abbrev k301 : List (Nat × TV) := [(0, (vP 0 0)), (k259 u1), (k279 u1), (k280 u1), (57, (k30 u3))]
end
theorem m_guard_machine_look_ok (u0 : Machine) (u2 : Bool) {r : (Machine × Bool)} (h : m_guard_machine_look u0 u2 = some r) : Fn Try.prog 108 [(.one (.ptr 0 0))] (k285 u0 u2) (.tup []) [(0, some (.cells 137 [(.own 1 false u0.clearing.events.length), (cB r.1.clearing.cleared), (cI r.1.clearing.millis), (cI r.1.clearing.energy), (.d (slD none 1 boolC r.1.clearing.state.closed)), (.d (slD none 1 boolC r.1.clearing.state.locked)), (.d (slD none 1 boolC r.1.clearing.state.badLink)), (.d (slD none 1 boolC r.1.clearing.state.on_)), (.d (slD none 1 boolC r.1.clearing.state.badSource)), (.d (slD none 1 boolC r.1.clearing.state.earthed)), (.d (slD none 1 boolC r.1.clearing.state.badBus)), (cI r.1.p.buses), (.d (slD none 5 Source.cell r.1.p.sources)), (.d (slD none 6 Link.cell r.1.p.links)), (.d (slD none 4 Rack.cell r.1.p.racks)), (cI r.1.bus), (.d (slD (some r.2) 1 (intC .i64) r.1.amps)), (cI r.1.total), (.mp 2), (cI r.1.now)])), (k256 u0), (2, some (mpD 3 3 false false 1 1 (intC .i64) (intC .i64) r.1.since))] := by
 refine fN tT Try.func108 rfl rfl fun B => ?_
 show AWp _ _ _ _ _ _ ((m_guard_machine_look_R u0) r) _
 unfold m_guard_machine_look at h
 refine aQ (bE h fun r_ hr_ h => ?_)
 have q0 := m_flow_Shorts_ok u0.p u0.clearing.state u0.bus hr_
 refine dg tT mX ⟨[(0, (vP 0 0)), (2, (vD (slD none 4 Short.cell r_.1)))], (k285 u0 u2)⟩ [_] { an := [(13, cA q0 [])] } [] ⟨q0, trivial⟩ ?_
 refine aQ (bE h fun u1 hr_1 h => ?_)
 have q0 := m_flow_Through_ok u0.p r_.1 hr_1
 refine rg tT ⟨(k288 r_ u1), (k285 u0 u2)⟩ [_] { an := [(5, cA q0 [])] } [] ⟨q0, trivial⟩ ?_
 refine sz tT ⟨(k288 r_ u1), (k289 u0 u2)⟩ {} [] ?_
 refine aQ (sz tT ⟨(k290 r_ u1), (k289 u0 u2)⟩ {} [] ?_)
 refine bE h fun y hy h => ?_
 refine aL [] (m_guard_machine_look_S0 u0 u2 r_ u1) (m_guard_machine_look_B0 u0 u2 u1) (m_guard_machine_look_R u0) hy (fun s f h => ?_) ?_
 ·clear hy
  show AWp _ _ _ _ _ _ ((m_guard_machine_look_Q0 u0 u2 r_ u1) f) _
  unfold m_guard_machine_look_L0 at h
  obtain ⟨u7, u6⟩ := s
  refine sz tT ⟨(k291 r_ u1 u6), (k261 u0 u2 u7)⟩ {} [] ?_
  refine aQ ?_
  refine bI h (fun hb h => ?_) (fun hb h => ?_)
  ·refine ct hb ?_
   refine aP (aQ (aB (aQ (aO h fun a1 h => ?_))))
   refine rg tT ⟨(k292 r_ u1 u6), (k261 u0 u2 u7)⟩ [_] { fr := [(2, 10)] } [10] ⟨a1, trivial⟩ ?_
   refine dg tT mX ⟨(k258 u1 r_ u6), (k293 u0 u2 r_ u6 u7)⟩ [] {} [] trivial ?_
   refine rz tT ⟨(k294 r_ u1 u6), (k293 u0 u2 r_ u6 u7)⟩ {} [] ?_
   obtain rfl := oi h
   exact lN (by kernel_rfl)
  ·refine cf hb ?_
   refine aI (fz (k276 u1 u0 u2 u7) []) ?_
   refine aX ?_
   obtain rfl := oi h
   exact lB (by kernel_rfl)
 ·clear hy
  cases y with
  | brk z =>
   obtain ⟨u5, rfl⟩ : ∃ q, q = z := ⟨_, rfl⟩
   unfold ExK
   refine ⟨_, .refl, ?_⟩
   refine aQ (sz tT ⟨(k295 u1), (k261 u0 u2 u5)⟩ {} [] ?_)
   refine bE h fun y1 hy h => ?_
   refine aL [] (m_guard_machine_look_S1 u0 u2 u1 u5) (m_guard_machine_look_B1 u0 u2 u1 u5) (m_guard_machine_look_R u0) hy (fun s f h => ?_) ?_
   ·clear hy
    show AWp _ _ _ _ _ _ ((m_guard_machine_look_Q1 u0 u2 u1 u5) f) _
    unfold m_guard_machine_look_L1 at h
    obtain ⟨u4, u3⟩ := s
    refine sz tT ⟨(k296 u1 u3), (k281 u4 u0 u2 u5)⟩ {} [] ?_
    refine aQ ?_
    refine bI h (fun hb2 h => ?_) (fun hb2 h => ?_)
    ·refine ct hb2 ?_
     refine aP (aQ (aB (aQ (aO h fun a1 h => ?_))))
     refine rg tT ⟨(k297 u1 u3), (k281 u4 u0 u2 u5)⟩ [_] {} [] ⟨a1, trivial⟩ ?_
     refine aQ (aO h fun a1 h => ?_)
     refine rg tT ⟨(k298 u0 u2 u1 u3), (k281 u4 u0 u2 u5)⟩ (k299 u0 u2 u3) { yb := [(5, (!u2))] } [] (ae ⟨(fun hg => ⟨(a1 (gB_of hg)), trivial⟩), (ae trivial)⟩) ?_
     refine bI h (fun hb1 h => ?_) (fun hb1 h => ?_)
     ·refine ct hb1 ?_
      refine dg tT mX ⟨(k278 u1 u3), (k300 u0 u2 u3 u5 u4)⟩ [SetAt [some .i64] 1 1 u4.length (kOf (intC .i64) u4) (vOf (intC .i64) u4) [(.int .i64 u3)] [(cI u0.now)] [] (mset eqI u3 u0.now u4).length (kOf (intC .i64) (mset eqI u3 u0.now u4)) (vOf (intC .i64) (mset eqI u3 u0.now u4))] { an := [(9, .map (mset eqI u3 u0.now u4).length (kOf (intC .i64) (mset eqI u3 u0.now u4)) (vOf (intC .i64) (mset eqI u3 u0.now u4)) [])] } [] ⟨(setAt_of (fun _ => rfl) (fun _ _ => rfl) u4 u3 u0.now rfl rfl), trivial⟩ ?_
      refine rz tT ⟨(k301 u1 u3), (k300 u0 u2 u3 u5 u4)⟩ {} [] ?_
      obtain rfl := oi h
      exact lN (by kernel_rfl)
     ·refine cf hb1 ?_
      refine aP (rz tT ⟨(k301 u1 u3), (k281 u4 u0 u2 u5)⟩ {} [] ?_)
      obtain rfl := oi h
      exact lN (by kernel_rfl)
    ·refine cf hb2 ?_
     refine aI (fz (k284 u1 u0 u2 u5 u4) []) ?_
     refine aX ?_
     obtain rfl := oi h
     exact lB (by kernel_rfl)
   ·clear hy
    cases y1 with
    | brk z =>
     obtain ⟨u8, rfl⟩ : ∃ q, q = z := ⟨_, rfl⟩
     unfold ExK
     refine ⟨_, .refl, ?_⟩
     refine rz tT ⟨[], [(0, some (.cells 137 [(.own 1 false u0.clearing.events.length), (cB u0.clearing.cleared), (cI u0.clearing.millis), (cI u0.clearing.energy), (.d (k263 u0)), (.d (k264 u0)), (.d (k265 u0)), (.d (k266 u0)), (.d (k267 u0)), (.d (k268 u0)), (.d (k269 u0)), (cI u0.p.buses), (.d (k270 u0)), (.d (k271 u0)), (.d (k272 u0)), (cI u0.bus), (.d (slD (some u1.2.1) 1 (intC .i64) u1.1)), (cI u5), (.mp 2), (cI u0.now)])), (k256 u0), (k282 u8)]⟩ {} [] ?_
     obtain rfl := oi h
     exact RetQ.mk (.inl rfl) (p := []) (l := []) (by kernel_rfl) trivial (TLe.refl _) ⟨rfl, .refl _, ⟨rfl, .refl _, ⟨rfl, .refl _, trivial⟩⟩⟩
    | ret v =>
     obtain rfl := oi h
     unfold ExK
     intro e st hn ha hR
     cases e with
     | normal => exact absurd rfl hn
     | exit id => exact hR
     | goto l => exact hR
     | ret => exact hR
     | panic c => exact hR
     | outgrown => exact hR
  | ret v =>
   obtain rfl := oi h
   unfold ExK
   intro e st hn ha hR
   cases e with
   | normal => exact absurd rfl hn
   | exit id => exact hR
   | goto l => exact hR
   | ret => exact hR
   | panic c => exact hR
   | outgrown => exact hR
section
variable (u0 : Machine) (u1 : Bool)
abbrev k303 : Ob := (.cells 134 [(.ptr 0 0)])
abbrev k302 : List (Nat × Option Ob) := [(k286 u0 u1), (k256 u0), (k274 u0), (3, some k303)]
end
def m_guard_machine_armed_R (u0 : Machine) (u1 : Bool) : Unit → Exit → St → Prop :=
  fun _ => RetQ TT [.tmp 2] (.v (.one (.fn 153 0 1 (capC [(.ptr 3 0)])))) (k302 u0 u1)
section
variable (u0 : Machine) (u1 : Bool)
abbrev k304 : List (Nat × Option Ob) := [(k286 u0 u1), (k256 u0), (k274 u0), (4, some k303)]
end
theorem m_guard_machine_armed_ok (u0 : Machine) (u1 : Bool) {r : Unit} (h : m_guard_machine_armed u0 u1 = some r) : Fn Try.prog 144 [(.one (.ptr 0 0))] (k285 u0 u1) (.v (.one (.fn 153 0 1 (capC [(.ptr 3 0)])))) (k302 u0 u1) := by
 refine fN tT Try.func144 rfl rfl fun B => ?_
 show AWp _ _ _ _ _ _ ((m_guard_machine_armed_R u0 u1) r) _
 unfold m_guard_machine_armed at h
 refine sz tT ⟨[(1, (vP 4 0))], (k304 u0 u1)⟩ { fr := [(0, 4)] } [] ?_
 refine sz tT ⟨[(2, (.v (.one (.fn 153 0 1 (capC [(.ptr 4 0)])))))], (k304 u0 u1)⟩ {} [] ?_
 refine aI (Imp.fin (st' := ⟨[(2, (.v (.one (.fn 153 0 1 (capC [(.ptr 3 0)])))))], (k302 u0 u1)⟩) (cs := []) ⟨[], [(0, 0), (1, 1), (2, 2), (4, 3)]⟩ [2] (by kernel_rfl) trivial) ?_
 refine aR ?_
 obtain rfl := oi h
 exact rh [(.one (.fn 153 0 1 (capC [(.ptr 3 0)])))] (.refl _) ⟨rfl, .refl _, ⟨rfl, .refl _, ⟨rfl, .refl _, ⟨rfl, .refl _, trivial⟩⟩⟩⟩
noncomputable def R_guard_machine_round_r0 : LoopRec := ⟨[13, 14], cAt ([1, 1, 0, 1, 0] ++ [0]) (bodyOf Try.f107), cAt ([1, 1, 0, 1, 0] ++ [1]) (bodyOf Try.f107), 119, []⟩
def m_guard_Delay_R  : (Int × Bool) → Exit → St → Prop :=
  fun r => RetQ TT [.tmp 4, .tmp 5] (.tup [(sI r.1), (sB r.2)]) []
def m_guard_Delay_S0 (x : Link) (u0 : Int) : Int → St :=
  fun i => ⟨[(1, (vI u0)), (k32 x), (6, (vI i))], []⟩
def m_guard_Delay_B0  : Unit → St :=
  fun _ => ⟨[], []⟩
def m_guard_Delay_Q0 (x : Link) (u0 : Int) : (Flow Int (Ex Unit (Int × Bool))) → Exit → St → Prop :=
  LQ 0 [] (m_guard_Delay_S0 x u0) m_guard_Delay_B0 m_guard_Delay_R
theorem m_guard_Delay_ok (x : Link) (u0 : Int) {r : (Int × Bool)} (h : m_guard_Delay x u0 = some r) : Fn Try.prog 19 [(.agg (k36 x)), (sI u0)] [] (.tup [(sI r.1), (sB r.2)]) [] := by
 refine fN tT Try.func19 rfl rfl fun B => ?_
 show AWp _ _ _ _ _ _ (m_guard_Delay_R r) _
 unfold m_guard_Delay at h
 refine sz tT ⟨[(1, (vI u0)), (k32 x)], []⟩ { fr := [(0, 1)] } [1] ?_
 refine aQ (sz tT ⟨[(1, (vI u0)), (k32 x), (6, (vI (IntKind.wrap .i64 ((x.trip.length : Int) - 1))))], []⟩ {} [] ?_)
 refine bE h fun y hy h => ?_
 refine aL [] (m_guard_Delay_S0 x u0) m_guard_Delay_B0 m_guard_Delay_R hy (fun s f h => ?_) ?_
 ·clear hy
  show AWp _ _ _ _ _ _ ((m_guard_Delay_Q0 x u0) f) _
  unfold m_guard_Delay_L0 at h
  obtain ⟨i, rfl⟩ : ∃ q, q = s := ⟨_, rfl⟩
  refine aQ (sz tT ⟨[(1, (vI u0)), (k32 x), (6, (vI i)), (12, (vB (decide (0 ≤ i))))], []⟩ {} [] ?_)
  refine bI h (fun hb1 h => ?_) (fun hb1 h => ?_)
  ·refine ct hb1 ?_
   refine aP (aQ (aB (aQ (aO h fun a1 h => ?_))))
   refine rg tT ⟨[(1, (vI u0)), (k32 x), (6, (vI i)), (22, (vB (decide (((at' x.trip i.toNat).amps) ≤ u0))))], []⟩ [_] {} [] ⟨a1, trivial⟩ ?_
   refine bI h (fun hb h => ?_) (fun hb h => ?_)
   ·refine ct hb ?_
    refine aQ (aO h fun a1 h => ?_)
    refine rg tT ⟨[(4, (vI (k43 x i))), (5, (vB true))], []⟩ [_] {} [] ⟨a1, trivial⟩ ?_
    refine aR ?_
    obtain rfl := oi h
    exact lR ret_nn (ret_ne 0) av_ret (RetQ.mk (.inr rfl) (p := []) (l := [(sI (k43 x i)), (sB true)]) (by kernel_rfl) trivial (TLe.refl _) trivial)
   ·refine cf hb ?_
    refine aP (rz tT ⟨[(1, (vI u0)), (k32 x), (6, (vI (k13 i)))], []⟩ {} [] ?_)
    obtain rfl := oi h
    exact lN (by kernel_rfl)
  ·refine cf hb1 ?_
   refine aI (fz ⟨[], []⟩ []) ?_
   refine aX ?_
   obtain rfl := oi h
   exact lB (by kernel_rfl)
 ·clear hy
  cases y with
  | brk z =>
   unfold ExK
   refine ⟨_, .refl, ?_⟩
   refine sz tT ⟨[(4, (vI 0)), (5, (vB false))], []⟩ {} [] ?_
   refine aR ?_
   obtain rfl := oi h
   exact rq [(sI 0), (sB false)] (.refl _)
  | ret v =>
   obtain rfl := oi h
   unfold ExK
   intro e st hn ha hR
   cases e with
   | normal => exact absurd rfl hn
   | exit id => exact hR
   | goto l => exact hR
   | ret => exact hR
   | panic c => exact hR
   | outgrown => exact hR
abbrev k305 : Nat × Option Ob := (0, some (.loop R_guard_machine_round_r0 0 [(3, (vP 1 0))]))
def m_guard_machine_round_r0_Y_R  : Int → Exit → St → Prop :=
  fun r => RoundQ 0 R_guard_machine_round_r0 (vB true) [k305, (1, some (.cells 3 [(cI r)]))]
section
variable (u0 : Int) (u1 : Int)
abbrev k307 : Nat × Option Ob := (1, some (.cells 3 [(cI u0)]))
abbrev k306 : List (Nat × Option Ob) := [k305, (k307 u0)]
abbrev k308 : List (Nat × Option Ob) := [(0, some (.loop R_guard_machine_round_r0 1 [(3, (vP 1 0))])), (k307 u0)]
abbrev k309 : St := ⟨[], (k308 u1)⟩
end
theorem m_guard_machine_round_r0_Y_ok (u2 : Int) (u1 : Int) (u0 : Int) {r : Int} (h : m_guard_machine_round_r0_Y u2 u1 u0 = some r) : Yl Try.prog 0 [(sI u2), (sI u1)] (k306 u0) (vB true) [k305, (1, some (.cells 3 [(cI r)]))] := by
 refine yl_intro (r := R_guard_machine_round_r0) (sl := [(3, (vP 1 0))]) (sl1 := [(3, (vP 1 0)), (5, (vI u1))]) (h1 := (k306 u0)) (sl2 := [(3, (vP 1 0))]) (by kernel_rfl) rfl rfl (by kernel_rfl) (fun rd B => ?_) (by kernel_rfl) (fun rd B => ?_)
 ·refine awp_code (c := cAt ([1, 1, 0, 1, 0] ++ [0]) (bodyOf Try.f107)) rfl ?_
  refine awp_start (st := ⟨[(13, (vI u2)), (14, (vI u1)), (3, (vP 1 0))], (k306 u0)⟩) (by kernel_rfl) ?_
  refine rz tT ⟨[(3, (vP 1 0)), (5, (vI u1))], (k306 u0)⟩ {} [] ?_
  exact ⟨rfl, rfl⟩
 ·refine awp_code (c := cAt ([1, 1, 0, 1, 0] ++ [1]) (bodyOf Try.f107)) rfl ?_
  refine awp_start (st := ⟨[(3, (vP 1 0)), (5, (vI u1))], (k308 u0)⟩) (by kernel_rfl) ?_
  show AWp _ _ _ _ _ _ (m_guard_machine_round_r0_Y_R r) _
  unfold m_guard_machine_round_r0_Y at h
  refine aB (sg tT ⟨[(3, (vP 1 0)), (5, (vI u1)), (21, (vB (bif (decide (u0 < 0)) then true else (decide (u1 < u0)))))], (k308 u0)⟩ (eqs (decide (u0 < 0)) 4 []) { yb := [(2, (decide (u0 < 0)))] } [] (ae trivial) ?_)
  refine bI h (fun hb h => ?_) (fun hb h => ?_)
  ·refine ct hb ?_
   refine rz tT (k309 u1) {} [] ?_
   obtain rfl := oi h
   exact RoundQ.on (sl := [(3, (vP 1 0))]) (by kernel_rfl) (hpLe_of (by kernel_rfl)) (TLe.refl _)
  ·refine cf hb ?_
   refine aI (fz (k309 u0) []) ?_
   refine aP ?_
   obtain rfl := oi h
   exact RoundQ.on (sl := [(3, (vP 1 0))]) (by kernel_rfl) (hpLe_of (by kernel_rfl)) (TLe.refl _)
section
variable (u0 : Machine) (u1 : Bool)
abbrev k310 : Nat × Option Ob := (0, some (.loop R_guard_machine_round_r0 0 [(3, (vP 2 0))]))
abbrev k311 : Nat × Option Ob := (1, some (.cells 134 [(.ptr 3 0)]))
abbrev k312 : Nat × Option Ob := (3, some (.cells 137 [(.own 4 false u0.clearing.events.length), (cB u0.clearing.cleared), (cI u0.clearing.millis), (cI u0.clearing.energy), (.d (k263 u0)), (.d (k264 u0)), (.d (k265 u0)), (.d (k266 u0)), (.d (k267 u0)), (.d (k268 u0)), (.d (k269 u0)), (cI u0.p.buses), (.d (k270 u0)), (.d (k271 u0)), (.d (k272 u0)), (cI u0.bus), (.d (k273 u0 u1)), (cI u0.total), (.mp 5), (cI u0.now)]))
abbrev k313 : Nat × Option Ob := (4, some (k257 u0))
abbrev k314 : Nat × Option Ob := (5, some (k275 u0))
end
def m_guard_machine_armed_1_R (u0 : Machine) (u1 : Bool) : Int → Exit → St → Prop :=
  fun r => RetQ TT [] (.tup []) [k310, k311, (2, some (.cells 3 [(cI r)])), (k312 u0 u1), (k313 u0), (k314 u0)]
section
variable (u0 : Machine) (u3 : Int) (u2 : Int) (u1 : Bool)
abbrev k316 : Nat × TV := (0, (.v (.one (.yl 0))))
abbrev k317 : Nat × TV := (11, (vD (k271 u0)))
abbrev k318 : Nat × TV := (12, (vI (u0.p.links.length : Int)))
abbrev k315 : List (Nat × TV) := [k316, (1, (vP 1 0)), (k317 u0), (k318 u0), (13, (vI u3))]
abbrev k320 : Nat × Option Ob := (2, some (.cells 3 [(cI u2)]))
abbrev k319 : List (Nat × Option Ob) := [k310, k311, (k320 u2), (k312 u0 u1), (k313 u0), (k314 u0)]
end
def m_guard_machine_armed_1_S0 (u0 : Machine) (u1 : Bool) : (Int × Int) → St :=
  fun zz => match zz with | (u2, u3) => ⟨(k315 u0 u3), (k319 u0 u2 u1)⟩
def m_guard_machine_armed_1_B0 (u0 : Machine) (u1 : Bool) : Int → St :=
  fun o301 => ⟨[], [k310, k311, (2, some (.cells 3 [(cI o301)])), (k312 u0 u1), (k313 u0), (k314 u0)]⟩
def m_guard_machine_armed_1_Q0 (u0 : Machine) (u1 : Bool) : (Flow (Int × Int) (Ex Int Int)) → Exit → St → Prop :=
  LQ 0 [] (m_guard_machine_armed_1_S0 u0 u1) (m_guard_machine_armed_1_B0 u0 u1) (m_guard_machine_armed_1_R u0 u1)
section
variable (u0 : Machine) (u1 : Int) (u3 : Int) (u2 : Bool) (r_ : (Int × Bool)) (u4 : Int)
abbrev k321 : List SV := [(.one (.yl 0)), (.one (.ptr 1 0))]
abbrev k322 : List (Nat × TV) := [k316, (1, (vP 1 0)), (k317 u0), (k318 u0), (13, (vI 0))]
abbrev k323 : List (Nat × TV) := [k316, (1, (vP 1 0)), (k317 u0), (k318 u0), (13, (vI u1)), (14, (vB (decide (u1 < (u0.p.links.length : Int)))))]
abbrev k326 := (at' u0.p.links u1.toNat)
abbrev k325 : Nat × TV := (4, (vD (ipT [(.int .i64 ((k326 u0 u1).a)), (.int .i64 ((k326 u0 u1).b)), (.int .i64 ((k326 u0 u1).kind)), (.int .i64 ((k326 u0 u1).most)), (.int .i64 ((k326 u0 u1).ohm)), (slD none 2 Trip.cell ((k326 u0 u1).trip))] 0)))
abbrev k324 : List (Nat × TV) := [k316, (1, (vP 1 0)), (3, (vI u1)), (k325 u0 u1), (k317 u0), (k318 u0), (13, (vI u1))]
abbrev k330 := (!decide (((k326 u0 u1).kind) = 3))
abbrev k329 := (bif (k330 u0 u1) then true else (!(at' u0.clearing.state.closed u1.toNat)))
abbrev k328 : Nat × TV := (43, (vB (bif (k329 u0 u1) then true else (at' u0.clearing.state.badLink u1.toNat))))
abbrev k327 : List (Nat × TV) := [k316, (1, (vP 1 0)), (3, (vI u1)), (k325 u0 u1), (k317 u0), (k318 u0), (13, (vI u1)), (k328 u0 u1)]
abbrev k332 := (ybf [(3, (k330 u0 u1)), (15, (k329 u0 u1))])
abbrev k331 := (eqs (k330 u0 u1) 8 ((gP (k332 u0 u1) [(3, false)] → All [(0 : Int) ≤ u1 ∧ u1 < (u0.clearing.state.closed.length : Int)]) :: (eqs (k330 u0 u1) 3 (eqs (k329 u0 u1) 8 ((gP (k332 u0 u1) [(15, false)] → All [(0 : Int) ≤ u1 ∧ u1 < (u0.clearing.state.badLink.length : Int)]) :: (eqs (k329 u0 u1) 2 []))))))
abbrev k335 : Nat × TV := (13, (k30 u1))
abbrev k334 : List (Nat × TV) := [k316, (1, (vP 1 0)), (k317 u0), (k318 u0), (k335 u1)]
abbrev k333 : St := ⟨(k334 u0 u1), (k319 u0 u3 u2)⟩
abbrev k336 : List (Nat × TV) := [k316, (1, (vP 1 0)), (3, (vI u1)), (5, (vI r_.1)), (6, (vB r_.2)), (k317 u0), (k318 u0), (13, (vI u1))]
abbrev k337 : List (Nat × TV) := [k316, (1, (vP 1 0)), (k317 u0), (k318 u0), (13, (vI u1)), (70, (vB (bif r_.2 then (!true) else false)))]
abbrev k338 : List CV := [(cI ((mget eqI u1 u0.since).getD 0))]
abbrev k340 := (IntKind.wrap .i64 (((mget eqI u1 u0.since).getD 0) + r_.1))
abbrev k339 : List SV := [(sI u1), (sI (k340 u0 u1 r_))]
abbrev k341 : List (Nat × Option Ob) := [k310, (k320 u3)]
abbrev k342 : List (Nat × TV) := [k316, (1, (vP 1 0)), (k317 u0), (k318 u0), (13, (vI u1)), (70, (vB (!true)))]
abbrev k343 : St := ⟨[], (k319 u0 u4 u2)⟩
abbrev k344 : List (Nat × TV) := [k316, (1, (vP 1 0)), (k317 u0), (k318 u0), (13, (vI u1)), (70, (vB (bif r_.2 then false else false)))]
abbrev k345 : List (Nat × TV) := [k316, (1, (vP 1 0)), (k317 u0), (k318 u0), (13, (vI u1)), (70, (vB false))]
end
theorem m_guard_machine_armed_1_ok (u5 : Int) (u0 : Machine) (u2 : Bool) {r : Int} (h : m_guard_machine_armed_1 u5 u0 u2 = some r) : Fn Try.prog 153 k321 (k319 u0 u5 u2) (.tup []) [k310, k311, (2, some (.cells 3 [(cI r)])), (k312 u0 u2), (k313 u0), (k314 u0)] := by
 refine fN tT Try.func153 rfl rfl fun B => ?_
 show AWp _ _ _ _ _ _ ((m_guard_machine_armed_1_R u0 u2) r) _
 unfold m_guard_machine_armed_1 at h
 refine sz tT ⟨(k322 u0), (k319 u0 u5 u2)⟩ {} [] ?_
 refine bE h fun y hy h => ?_
 refine aL [] (m_guard_machine_armed_1_S0 u0 u2) (m_guard_machine_armed_1_B0 u0 u2) (m_guard_machine_armed_1_R u0 u2) hy (fun s f h => ?_) ?_
 ·clear hy
  show AWp _ _ _ _ _ _ ((m_guard_machine_armed_1_Q0 u0 u2) f) _
  unfold m_guard_machine_armed_1_L0 at h
  obtain ⟨u3, u1⟩ := s
  refine sz tT ⟨(k323 u0 u1), (k319 u0 u3 u2)⟩ {} [] ?_
  refine aQ ?_
  refine bI h (fun hb3 h => ?_) (fun hb3 h => ?_)
  ·refine ct hb3 ?_
   refine aP (aQ (aB (aQ (aO h fun a1 h => ?_))))
   refine rg tT ⟨(k324 u0 u1), (k319 u0 u3 u2)⟩ [_] { fr := [(3, 13)] } [13] ⟨a1, trivial⟩ ?_
   refine aQ (aQ (aO h fun ⟨a1, a2⟩ h => ?_))
   refine rg tT ⟨(k327 u0 u1), (k319 u0 u3 u2)⟩ (k331 u0 u1) { yb := [(3, (k330 u0 u1)), (15, (k329 u0 u1))] } [] (ae ⟨(fun hg => ⟨(a1 (gB_of hg)), trivial⟩), (ae (ae ⟨(fun hg => ⟨(a2 (gB_of hg)), trivial⟩), (ae trivial)⟩))⟩) ?_
   refine bI h (fun hb2 h => ?_) (fun hb2 h => ?_)
   ·refine ct hb2 ?_
    refine aX (rz tT (k333 u0 u1 u3 u2) {} [] ?_)
    obtain rfl := oi h
    exact lN (by kernel_rfl)
   ·refine cf hb2 ?_
    refine aP (aQ (bE h fun r_ hr_ h => ?_))
    refine aO h fun a1 h => ?_
    have q1 := m_guard_Delay_ok (k326 u0 u1) (at' u0.amps u1.toNat) hr_
    refine dg tT mX ⟨(k336 u0 u1 r_), (k319 u0 u3 u2)⟩ [_, _] { an := [(8, cA q1 [])] } [] ⟨a1, q1, trivial⟩ ?_
    refine aQ ?_
    refine bI h (fun hb h => ?_) (fun hb h => ?_)
    ·skip
     refine bE h fun u4 hr_1 h => ?_
     refine ri tT ⟨(k337 u0 u1 r_), (k319 u0 u4 u2)⟩ [r_.2 = true, r_.2 = true, r_.2 = true, r_.2 = true, r_.2 = true, r_.2 = true, r_.2 = true, r_.2 = true, gP (ybf [(1, true)]) [(1, true)] → All [LookAt [some .i64] 1 1 u0.since.length (kOf (intC .i64) u0.since) (vOf (intC .i64) u0.since) [(.int .i64 u1)] [(.d (.int .i64 0))] (mget eqI u1 u0.since).isSome (k338 u0 u1)], r_.2 = true, r_.2 = true, r_.2 = true, gP (ybf [(1, true)]) [(1, true)] → All [Yl Try.prog 0 (k339 u0 u1 r_) (k341 u3) (vB true) (k341 u4)], gP (ybf [(1, true)]) [(1, true)], r_.2 = true, r_.2 = true] { yb := [(1, true)], an := [(9, .look (mget eqI u1 u0.since).isSome (k338 u0 u1)), (12, .call [0, 2] (vB true) (k341 u4))] } [] ⟨(hb), (hb), (hb), (hb), (hb), (hb), (hb), (hb), (fun hg => ⟨(lookAt_of (fun _ => rfl) (fun _ _ => rfl) u0.since u1 0 rfl rfl rfl), trivial⟩), (hb), (hb), (hb), (fun hg => ⟨(Yl.renK [(1, 2)] (m_guard_machine_round_r0_Y_ok u1 (k340 u0 u1 r_) u3 hr_1) (by kernel_rfl) (by kernel_rfl) (by kernel_rfl) (by kernel_rfl) (by kernel_rfl)), trivial⟩), (⟨rfl, trivial⟩), (hb), (hb), trivial⟩ (Imp.le (st' := ⟨(k342 u0 u1), (k319 u0 u4 u2)⟩) ⟨⟨tR, tR, tR, tR, tR, ⟨_, rfl, TLe.v (SLe.one (CLe.of (congrArg (fun b => CV.d (.bool b)) (bifT hb))))⟩, trivial⟩, ⟨rfl, .refl _, ⟨rfl, .refl _, ⟨rfl, .refl _, ⟨rfl, .refl _, ⟨rfl, .refl _, ⟨rfl, .refl _, trivial⟩⟩⟩⟩⟩⟩⟩) ?_
     refine bI h (fun hb1 h => ?_) (fun hb1 h => ?_)
     ·refine ct hb1 ?_
      refine aI (fz (k343 u0 u2 u4) []) ?_
      refine aR ?_
      obtain rfl := oi h
      exact lR ret_nn (ret_ne 0) av_ret (RetQ.mk (.inr rfl) (p := []) (l := []) (by kernel_rfl) trivial (TLe.refl _) ⟨rfl, .refl _, ⟨rfl, .refl _, ⟨rfl, .refl _, ⟨rfl, .refl _, ⟨rfl, .refl _, ⟨rfl, .refl _, trivial⟩⟩⟩⟩⟩⟩)
     ·refine cf hb1 ?_
      refine aP (rz tT (k333 u0 u1 u4 u2) {} [] ?_)
      obtain rfl := oi h
      exact lN (by kernel_rfl)
    ·skip
     refine ri tT ⟨(k344 u0 u1 r_), (k319 u0 u3 u2)⟩ [r_.2 = false, ¬ gP (ybf [(1, false)]) [(1, true)], r_.2 = false, ¬ gP (ybf [(1, false)]) [(1, true)], r_.2 = false, ¬ gP (ybf [(1, false)]) [(1, true)], r_.2 = false, ¬ gP (ybf [(1, false)]) [(1, true)], r_.2 = false, ¬ gP (ybf [(1, false)]) [(1, true)], r_.2 = false, ¬ gP (ybf [(1, false)]) [(1, true)], r_.2 = false, ¬ gP (ybf [(1, false)]) [(1, true)], r_.2 = false, ¬ gP (ybf [(1, false)]) [(1, true)], r_.2 = false, ¬ gP (ybf [(1, false)]) [(1, true)], r_.2 = false, ¬ gP (ybf [(1, false)]) [(1, true)], r_.2 = false, ¬ gP (ybf [(1, false)]) [(1, true)], r_.2 = false, ¬ gP (ybf [(1, false)]) [(1, true)], r_.2 = false] { yb := [(1, false)], an := [(2, .skip), (3, .skip), (4, .skip), (5, .skip), (6, .skip), (7, .skip), (8, .skip), (9, .skip), (10, .skip), (11, .skip), (12, .skip), (13, .skip)] } [] ⟨(hb), ((fun h => Bool.noConfusion (show false = true from h.1))), (hb), ((fun h => Bool.noConfusion (show false = true from h.1))), (hb), ((fun h => Bool.noConfusion (show false = true from h.1))), (hb), ((fun h => Bool.noConfusion (show false = true from h.1))), (hb), ((fun h => Bool.noConfusion (show false = true from h.1))), (hb), ((fun h => Bool.noConfusion (show false = true from h.1))), (hb), ((fun h => Bool.noConfusion (show false = true from h.1))), (hb), ((fun h => Bool.noConfusion (show false = true from h.1))), (hb), ((fun h => Bool.noConfusion (show false = true from h.1))), (hb), ((fun h => Bool.noConfusion (show false = true from h.1))), (hb), ((fun h => Bool.noConfusion (show false = true from h.1))), (hb), ((fun h => Bool.noConfusion (show false = true from h.1))), (hb), trivial⟩ (Imp.le (st' := ⟨(k345 u0 u1), (k319 u0 u3 u2)⟩) ⟨⟨tR, tR, tR, tR, tR, ⟨_, rfl, TLe.v (SLe.one (CLe.of (congrArg (fun b => CV.d (.bool b)) (bifF hb))))⟩, trivial⟩, ⟨rfl, .refl _, ⟨rfl, .refl _, ⟨rfl, .refl _, ⟨rfl, .refl _, ⟨rfl, .refl _, ⟨rfl, .refl _, trivial⟩⟩⟩⟩⟩⟩⟩) ?_
     refine cn (aP (rz tT (k333 u0 u1 u3 u2) {} [] ?_))
     obtain rfl := oi h
     exact lN (by kernel_rfl)
  ·refine cf hb3 ?_
   refine aI (fz (k343 u0 u2 u3) []) ?_
   refine aX ?_
   obtain rfl := oi h
   exact lB (by kernel_rfl)
 ·clear hy
  cases y with
  | brk z =>
   obtain ⟨o301, rfl⟩ : ∃ q, q = z := ⟨_, rfl⟩
   unfold ExK
   refine ⟨_, .refl, ?_⟩
   obtain rfl := oi h
   exact RetQ.mk (.inl rfl) (p := []) (l := []) (by kernel_rfl) trivial (TLe.refl _) ⟨rfl, .refl _, ⟨rfl, .refl _, ⟨rfl, .refl _, ⟨rfl, .refl _, ⟨rfl, .refl _, ⟨rfl, .refl _, trivial⟩⟩⟩⟩⟩⟩
  | ret v =>
   obtain rfl := oi h
   unfold ExK
   intro e st hn ha hR
   cases e with
   | normal => exact absurd rfl hn
   | exit id => exact hR
   | goto l => exact hR
   | ret => exact hR
   | panic c => exact hR
   | outgrown => exact hR
noncomputable def R_guard_machine_round_r1 : LoopRec := ⟨[33, 34], cAt ([1, 1, 1, 1, 1, 1, 0, 1, 0] ++ [0]) (bodyOf Try.f107), cAt ([1, 1, 1, 1, 1, 1, 0, 1, 0] ++ [1]) (bodyOf Try.f107), 119, []⟩
abbrev k347 : List (Nat × TV) := [(3, (vP 1 0)), (6, (vP 2 0))]
abbrev k346 : Nat × Option Ob := (0, some (.loop R_guard_machine_round_r1 0 k347))
def m_guard_machine_round_r1_Y_R (u0 : Int) : (List Int) → Exit → St → Prop :=
  fun r => RoundQ 0 R_guard_machine_round_r1 (vB true) [k346, (k307 u0), (2, some (.cells 40 [(.own 4 false r.length)])), (3, none), (4, some (arD 3 1 (intC .i64) r))]
section
variable (u1 : Int) (o_ : (List Int)) (u0 : Int) (u2 : Int)
abbrev k348 : List (Nat × Option Ob) := [k346, (k307 u1), (2, some (.cells 40 [(.own 3 false o_.length)])), (3, some (k226 o_))]
abbrev k349 : List (Nat × TV) := [(3, (vP 1 0)), (6, (vP 2 0)), (7, (vI u0)), (8, (vI u2))]
abbrev k351 : Nat × Option Ob := (0, some (.loop R_guard_machine_round_r1 1 k347))
abbrev k350 : List (Nat × Option Ob) := [k351, (k307 u1), (2, some (.cells 40 [(.own 3 false o_.length)])), (3, some (k226 o_))]
end
theorem m_guard_machine_round_r1_Y_ok (u0 : Int) (u2 : Int) (u1 : Int) (o_ : (List Int)) {r : (List Int)} (h : m_guard_machine_round_r1_Y u0 u2 u1 o_ = some r) : Yl Try.prog 0 [(sI u0), (sI u2)] (k348 u1 o_) (vB true) [k346, (k307 u1), (2, some (.cells 40 [(.own 4 false r.length)])), (3, none), (4, some (arD 3 1 (intC .i64) r))] := by
 refine yl_intro (r := R_guard_machine_round_r1) (sl := k347) (sl1 := (k349 u0 u2)) (h1 := (k348 u1 o_)) (sl2 := k347) (by kernel_rfl) rfl rfl (by kernel_rfl) (fun rd B => ?_) (by kernel_rfl) (fun rd B => ?_)
 ·refine awp_code (c := cAt ([1, 1, 1, 1, 1, 1, 0, 1, 0] ++ [0]) (bodyOf Try.f107)) rfl ?_
  refine awp_start (st := ⟨[(33, (vI u0)), (34, (vI u2)), (3, (vP 1 0)), (6, (vP 2 0))], (k348 u1 o_)⟩) (by kernel_rfl) ?_
  refine sz tT ⟨[(3, (vP 1 0)), (6, (vP 2 0)), (7, (vI u0)), (34, (vI u2))], (k348 u1 o_)⟩ {} [] ?_
  refine rz tT ⟨(k349 u0 u2), (k348 u1 o_)⟩ {} [] ?_
  exact ⟨rfl, rfl⟩
 ·refine awp_code (c := cAt ([1, 1, 1, 1, 1, 1, 0, 1, 0] ++ [1]) (bodyOf Try.f107)) rfl ?_
  refine awp_start (st := ⟨(k349 u0 u2), (k350 u1 o_)⟩) (by kernel_rfl) ?_
  show AWp _ _ _ _ _ _ ((m_guard_machine_round_r1_Y_R u1) r) _
  unfold m_guard_machine_round_r1_Y at h
  refine aB (sz tT ⟨[(6, (vP 2 0)), (7, (vI u0)), (37, (vB (decide (u2 ≤ u1))))], (k350 u1 o_)⟩ {} [] ?_)
  refine bI h (fun hb h => ?_) (fun hb h => ?_)
  ·refine ct hb ?_
   refine aO h fun ⟨a1, a2⟩ h => ?_
   refine ri tT ⟨[], [k351, (k307 u1), (2, some (.cells 40 [(.own 7 false ((o_ ++ [u0]).length))])), (3, none), (7, some (arD 3 1 (intC .i64) (o_ ++ [u0])))]⟩ [[u0].length = 1, ArrEq 1 1 (k187 u0) (elOf (intC .i64) [u0]), o_.length = o_.length, _, _, (o_ ++ [u0]).length = o_.length + [u0].length, ArrEq (o_.length + [u0].length) 1 (k188 u0 o_) (k189 u0 o_)] { an := [(2, .arr [u0].length (elOf (intC .i64) [u0])), (3, .arr (o_ ++ [u0]).length (k189 u0 o_))], fr := [(2, 6), (3, 7)] } [] ⟨(rfl), ((by intro i hi j hj; match i, j, hi, hj with | 0, 0, _, _ => rfl)), rfl, a1, a2, (List.length_append), (arrEq_app _ _ _ _), trivial⟩ (Imp.fin (st' := ⟨[], [k351, (k307 u1), (2, some (.cells 40 [(.own 4 false ((o_ ++ [u0]).length))])), (3, none), (4, some (arD 3 1 (intC .i64) (o_ ++ [u0])))]⟩) (cs := []) ⟨[], [(0, 0), (1, 1), (2, 2), (3, 3), (7, 4)]⟩ [] (by kernel_rfl) trivial) ?_
   obtain rfl := oi h
   exact RoundQ.on (sl := k347) (by kernel_rfl) (hpLe_of (by kernel_rfl)) (TLe.refl _)
  ·refine cf hb ?_
   refine aI (.trans (Imp.reown (E0 := 40) (cs := [(.own 3 false o_.length)]) (nn := false) (len := o_.length) (E := 3) (esz := 1) (n := o_.length) (el := elOf (intC .i64) o_) (p := 2) (q := 0) (b := 3) (b' := 8) (by kernel_rfl) (by kernel_rfl) (by kernel_rfl) (by kernel_rfl)) (.trans (fz ⟨[(6, (vP 2 0)), (7, (vI u0)), (37, (vB (decide (u2 ≤ u1))))], [k351, (k307 u1), (2, some (.cells 40 [(.own 8 false o_.length)])), (3, none), (8, some (k226 o_))]⟩ []) (Imp.fin (st' := ⟨[], [k351, (k307 u1), (2, some (.cells 40 [(.own 4 false o_.length)])), (3, none), (4, some (k226 o_))]⟩) (cs := []) ⟨[], [(0, 0), (1, 1), (2, 2), (3, 3), (8, 4)]⟩ [] (by kernel_rfl) trivial))) ?_
   refine aP ?_
   obtain rfl := oi h
   exact RoundQ.on (sl := k347) (by kernel_rfl) (hpLe_of (by kernel_rfl)) (TLe.refl _)
section
variable (u0 : Machine) (u2 : Bool)
abbrev k352 : Nat × Option Ob := (0, some (.loop R_guard_machine_round_r1 0 [(3, (vP 2 0)), (6, (vP 3 0))]))
abbrev k353 : Nat × Option Ob := (1, some (.cells 134 [(.ptr 4 0)]))
abbrev k354 : Nat × Option Ob := (4, some (.cells 137 [(.own 6 false u0.clearing.events.length), (cB u0.clearing.cleared), (cI u0.clearing.millis), (cI u0.clearing.energy), (.d (k263 u0)), (.d (k264 u0)), (.d (k265 u0)), (.d (k266 u0)), (.d (k267 u0)), (.d (k268 u0)), (.d (k269 u0)), (cI u0.p.buses), (.d (k270 u0)), (.d (k271 u0)), (.d (k272 u0)), (cI u0.bus), (.d (k273 u0 u2)), (cI u0.total), (.mp 7), (cI u0.now)]))
abbrev k355 : Nat × Option Ob := (6, some (k257 u0))
abbrev k356 : Nat × Option Ob := (7, some (k275 u0))
end
def m_guard_machine_armed_1_v1_R (u1 : Int) (u0 : Machine) (u2 : Bool) : (List Int) → Exit → St → Prop :=
  fun r => RetQ TT [] (.tup []) [k352, k353, (k320 u1), (3, some (.cells 40 [(.own 8 false r.length)])), (k354 u0 u2), (5, none), (k355 u0), (k356 u0), (8, some (arD 3 1 (intC .i64) r))]
section
variable (u2 : Int) (u1 : (List Int)) (u0 : Machine) (u3 : Bool)
abbrev k357 : List (Nat × Option Ob) := [k352, k353, (k320 u2), (3, some (.cells 40 [(.own 24 false u1.length)])), (k354 u0 u3), (5, none), (k355 u0), (k356 u0), (24, some (k226 u1))]
end
def m_guard_machine_armed_1_v1_S0 (u2 : Int) (u0 : Machine) (u3 : Bool) : ((List Int) × Int) → St :=
  fun zz => match zz with | (u1, u4) => ⟨(k315 u0 u4), (k357 u2 u1 u0 u3)⟩
def m_guard_machine_armed_1_v1_B0 (u1 : Int) (u0 : Machine) (u2 : Bool) : (List Int) → St :=
  fun o601 => ⟨[], [k352, k353, (k320 u1), (3, some (.cells 40 [(.own 24 false o601.length)])), (k354 u0 u2), (5, none), (k355 u0), (k356 u0), (24, some (arD 3 1 (intC .i64) o601))]⟩
def m_guard_machine_armed_1_v1_Q0 (u0 : Int) (u1 : Machine) (u2 : Bool) : (Flow ((List Int) × Int) (Ex (List Int) (List Int))) → Exit → St → Prop :=
  LQ 0 [] (m_guard_machine_armed_1_v1_S0 u0 u1 u2) (m_guard_machine_armed_1_v1_B0 u0 u1 u2) (m_guard_machine_armed_1_v1_R u0 u1 u2)
section
variable (u2 : Int) (o_ : (List Int)) (u0 : Machine) (u3 : Bool) (u1 : Int) (u4 : (List Int)) (u5 : (List Int))
abbrev k358 : List (Nat × Option Ob) := [k352, k353, (k320 u2), (3, some (.cells 40 [(.own 5 false o_.length)])), (k354 u0 u3), (5, some (k226 o_)), (k355 u0), (k356 u0)]
abbrev k359 : St := ⟨(k334 u0 u1), (k357 u2 u4 u0 u3)⟩
abbrev k360 : List (Nat × Option Ob) := [k352, k353, (k320 u2), (3, some (.cells 40 [(.own 28 false u5.length)])), (k354 u0 u3), (5, none), (k355 u0), (k356 u0), (28, some (k226 u5))]
abbrev k361 : List (Nat × Option Ob) := [k352, (k320 u2), (3, some (.cells 40 [(.own 28 false u5.length)])), (24, none), (28, some (k226 u5))]
end
theorem m_guard_machine_armed_1_v1_ok (u2 : Int) (o_ : (List Int)) (u0 : Machine) (u3 : Bool) {r : (List Int)} (h : m_guard_machine_armed_1_v1 u2 o_ u0 u3 = some r) : Fn Try.prog 153 k321 (k358 u2 o_ u0 u3) (.tup []) [k352, k353, (k320 u2), (3, some (.cells 40 [(.own 8 false r.length)])), (k354 u0 u3), (5, none), (k355 u0), (k356 u0), (8, some (arD 3 1 (intC .i64) r))] := by
 refine fN tT Try.func153 rfl rfl fun B => ?_
 show AWp _ _ _ _ _ _ ((m_guard_machine_armed_1_v1_R u2 u0 u3) r) _
 unfold m_guard_machine_armed_1_v1 at h
 refine sz tT ⟨(k322 u0), (k358 u2 o_ u0 u3)⟩ {} [] ?_
 refine bE h fun y hy h => ?_
 refine aI (.trans (Imp.reown (E0 := 40) (cs := [(.own 5 false o_.length)]) (nn := false) (len := o_.length) (E := 3) (esz := 1) (n := o_.length) (el := elOf (intC .i64) o_) (p := 3) (q := 0) (b := 5) (b' := 29) (by kernel_rfl) (by kernel_rfl) (by kernel_rfl) (by kernel_rfl)) (.trans (fz ⟨(k322 u0), [k352, k353, (k320 u2), (3, some (.cells 40 [(.own 29 false o_.length)])), (k354 u0 u3), (5, none), (k355 u0), (k356 u0), (29, some (k226 o_))]⟩ []) (Imp.fin (st' := ⟨(k322 u0), (k357 u2 o_ u0 u3)⟩) (cs := []) ⟨[], [(0, 0), (1, 1), (2, 2), (3, 3), (4, 4), (5, 5), (6, 6), (7, 7), (29, 24)]⟩ [0, 1, 11, 12, 13] (by kernel_rfl) trivial))) ?_
 refine aL [] (m_guard_machine_armed_1_v1_S0 u2 u0 u3) (m_guard_machine_armed_1_v1_B0 u2 u0 u3) (m_guard_machine_armed_1_v1_R u2 u0 u3) hy (fun s f h => ?_) ?_
 ·clear hy
  show AWp _ _ _ _ _ _ ((m_guard_machine_armed_1_v1_Q0 u2 u0 u3) f) _
  unfold m_guard_machine_armed_1_v1_L0 at h
  obtain ⟨u4, u1⟩ := s
  refine sz tT ⟨(k323 u0 u1), (k357 u2 u4 u0 u3)⟩ {} [] ?_
  refine aQ ?_
  refine bI h (fun hb3 h => ?_) (fun hb3 h => ?_)
  ·refine ct hb3 ?_
   refine aP (aQ (aB (aQ (aO h fun a1 h => ?_))))
   refine rg tT ⟨(k324 u0 u1), (k357 u2 u4 u0 u3)⟩ [_] { fr := [(3, 27)] } [27] ⟨a1, trivial⟩ ?_
   refine aQ (aQ (aO h fun ⟨a1, a2⟩ h => ?_))
   refine rg tT ⟨(k327 u0 u1), (k357 u2 u4 u0 u3)⟩ (k331 u0 u1) { yb := [(3, (k330 u0 u1)), (15, (k329 u0 u1))] } [] (ae ⟨(fun hg => ⟨(a1 (gB_of hg)), trivial⟩), (ae (ae ⟨(fun hg => ⟨(a2 (gB_of hg)), trivial⟩), (ae trivial)⟩))⟩) ?_
   refine bI h (fun hb2 h => ?_) (fun hb2 h => ?_)
   ·refine ct hb2 ?_
    refine aX (rz tT (k359 u2 u0 u3 u1 u4) {} [] ?_)
    obtain rfl := oi h
    exact lN (by kernel_rfl)
   ·refine cf hb2 ?_
    refine aP (aQ (bE h fun r_ hr_ h => ?_))
    refine aO h fun a1 h => ?_
    have q1 := m_guard_Delay_ok (k326 u0 u1) (at' u0.amps u1.toNat) hr_
    refine dg tT mX ⟨(k336 u0 u1 r_), (k357 u2 u4 u0 u3)⟩ [_, _] { an := [(8, cA q1 [])] } [] ⟨a1, q1, trivial⟩ ?_
    refine aQ ?_
    refine bI h (fun hb h => ?_) (fun hb h => ?_)
    ·skip
     refine bE h fun u5 hr_1 h => ?_
     refine ri tT ⟨(k337 u0 u1 r_), (k360 u2 u0 u3 u5)⟩ [r_.2 = true, r_.2 = true, r_.2 = true, r_.2 = true, r_.2 = true, r_.2 = true, r_.2 = true, r_.2 = true, gP (ybf [(1, true)]) [(1, true)] → All [LookAt [some .i64] 1 1 u0.since.length (kOf (intC .i64) u0.since) (vOf (intC .i64) u0.since) [(.int .i64 u1)] [(.d (.int .i64 0))] (mget eqI u1 u0.since).isSome (k338 u0 u1)], r_.2 = true, r_.2 = true, r_.2 = true, gP (ybf [(1, true)]) [(1, true)] → All [Yl Try.prog 0 (k339 u0 u1 r_) [k352, (k320 u2), (3, some (.cells 40 [(.own 24 false u4.length)])), (24, some (k226 u4))] (vB true) (k361 u2 u5)], gP (ybf [(1, true)]) [(1, true)], r_.2 = true, r_.2 = true] { yb := [(1, true)], an := [(9, .look (mget eqI u1 u0.since).isSome (k338 u0 u1)), (12, .call [0, 2, 3, 24] (vB true) (k361 u2 u5))] } [] ⟨(hb), (hb), (hb), (hb), (hb), (hb), (hb), (hb), (fun hg => ⟨(lookAt_of (fun _ => rfl) (fun _ _ => rfl) u0.since u1 0 rfl rfl rfl), trivial⟩), (hb), (hb), (hb), (fun hg => ⟨(Yl.renK [(1, 2), (1, 3), (1, 24), (4, 28)] (m_guard_machine_round_r1_Y_ok u1 (k340 u0 u1 r_) u2 u4 hr_1) (by kernel_rfl) (by kernel_rfl) (by kernel_rfl) (by kernel_rfl) (by kernel_rfl)), trivial⟩), (⟨rfl, trivial⟩), (hb), (hb), trivial⟩ (Imp.le (st' := ⟨(k342 u0 u1), (k360 u2 u0 u3 u5)⟩) ⟨⟨tR, tR, tR, tR, tR, ⟨_, rfl, TLe.v (SLe.one (CLe.of (congrArg (fun b => CV.d (.bool b)) (bifT hb))))⟩, trivial⟩, ⟨rfl, .refl _, ⟨rfl, .refl _, ⟨rfl, .refl _, ⟨rfl, .refl _, ⟨rfl, .refl _, ⟨rfl, .refl _, ⟨rfl, .refl _, ⟨rfl, .refl _, ⟨rfl, .refl _, trivial⟩⟩⟩⟩⟩⟩⟩⟩⟩⟩) ?_
     refine bI h (fun hb1 h => ?_) (fun hb1 h => ?_)
     ·refine ct hb1 ?_
      refine aI (Imp.fin (st' := ⟨[], [k352, k353, (k320 u2), (3, some (.cells 40 [(.own 8 false u5.length)])), (k354 u0 u3), (5, none), (k355 u0), (k356 u0), (8, some (k226 u5))]⟩) (cs := []) ⟨[], [(0, 0), (1, 1), (2, 2), (3, 3), (4, 4), (5, 5), (6, 6), (7, 7), (28, 8)]⟩ [] (by kernel_rfl) trivial) ?_
      refine aR ?_
      obtain rfl := oi h
      exact lR ret_nn (ret_ne 0) av_ret (RetQ.mk (.inr rfl) (p := []) (l := []) (by kernel_rfl) trivial (TLe.refl _) ⟨rfl, .refl _, ⟨rfl, .refl _, ⟨rfl, .refl _, ⟨rfl, .refl _, ⟨rfl, .refl _, ⟨rfl, trivial, ⟨rfl, .refl _, ⟨rfl, .refl _, ⟨rfl, .refl _, trivial⟩⟩⟩⟩⟩⟩⟩⟩⟩)
     ·refine cf hb1 ?_
      refine aP (ri tT ⟨(k334 u0 u1), (k360 u2 u0 u3 u5)⟩ [] {} [] trivial (Imp.fin (st' := (k359 u2 u0 u3 u1 u5)) (cs := []) ⟨[], [(0, 0), (1, 1), (2, 2), (3, 3), (4, 4), (5, 5), (6, 6), (7, 7), (28, 24)]⟩ [0, 1, 11, 12, 13] (by kernel_rfl) trivial) ?_)
      obtain rfl := oi h
      exact lN (by kernel_rfl)
    ·skip
     refine ri tT ⟨(k344 u0 u1 r_), (k357 u2 u4 u0 u3)⟩ [r_.2 = false, ¬ gP (ybf [(1, false)]) [(1, true)], r_.2 = false, ¬ gP (ybf [(1, false)]) [(1, true)], r_.2 = false, ¬ gP (ybf [(1, false)]) [(1, true)], r_.2 = false, ¬ gP (ybf [(1, false)]) [(1, true)], r_.2 = false, ¬ gP (ybf [(1, false)]) [(1, true)], r_.2 = false, ¬ gP (ybf [(1, false)]) [(1, true)], r_.2 = false, ¬ gP (ybf [(1, false)]) [(1, true)], r_.2 = false, ¬ gP (ybf [(1, false)]) [(1, true)], r_.2 = false, ¬ gP (ybf [(1, false)]) [(1, true)], r_.2 = false, ¬ gP (ybf [(1, false)]) [(1, true)], r_.2 = false, ¬ gP (ybf [(1, false)]) [(1, true)], r_.2 = false, ¬ gP (ybf [(1, false)]) [(1, true)], r_.2 = false] { yb := [(1, false)], an := [(2, .skip), (3, .skip), (4, .skip), (5, .skip), (6, .skip), (7, .skip), (8, .skip), (9, .skip), (10, .skip), (11, .skip), (12, .skip), (13, .skip)] } [] ⟨(hb), ((fun h => Bool.noConfusion (show false = true from h.1))), (hb), ((fun h => Bool.noConfusion (show false = true from h.1))), (hb), ((fun h => Bool.noConfusion (show false = true from h.1))), (hb), ((fun h => Bool.noConfusion (show false = true from h.1))), (hb), ((fun h => Bool.noConfusion (show false = true from h.1))), (hb), ((fun h => Bool.noConfusion (show false = true from h.1))), (hb), ((fun h => Bool.noConfusion (show false = true from h.1))), (hb), ((fun h => Bool.noConfusion (show false = true from h.1))), (hb), ((fun h => Bool.noConfusion (show false = true from h.1))), (hb), ((fun h => Bool.noConfusion (show false = true from h.1))), (hb), ((fun h => Bool.noConfusion (show false = true from h.1))), (hb), ((fun h => Bool.noConfusion (show false = true from h.1))), (hb), trivial⟩ (Imp.le (st' := ⟨(k345 u0 u1), (k357 u2 u4 u0 u3)⟩) ⟨⟨tR, tR, tR, tR, tR, ⟨_, rfl, TLe.v (SLe.one (CLe.of (congrArg (fun b => CV.d (.bool b)) (bifF hb))))⟩, trivial⟩, ⟨rfl, .refl _, ⟨rfl, .refl _, ⟨rfl, .refl _, ⟨rfl, .refl _, ⟨rfl, .refl _, ⟨rfl, .refl _, ⟨rfl, .refl _, ⟨rfl, .refl _, ⟨rfl, .refl _, trivial⟩⟩⟩⟩⟩⟩⟩⟩⟩⟩) ?_
     refine cn (aP (rz tT (k359 u2 u0 u3 u1 u4) {} [] ?_))
     obtain rfl := oi h
     exact lN (by kernel_rfl)
  ·refine cf hb3 ?_
   refine aI (fz ⟨[], (k357 u2 u4 u0 u3)⟩ []) ?_
   refine aX ?_
   obtain rfl := oi h
   exact lB (by kernel_rfl)
 ·clear hy
  cases y with
  | brk z =>
   obtain ⟨o601, rfl⟩ : ∃ q, q = z := ⟨_, rfl⟩
   unfold ExK
   refine ⟨_, (Imp.fin (st' := ⟨[], [k352, k353, (k320 u2), (3, some (.cells 40 [(.own 8 false o601.length)])), (k354 u0 u3), (5, none), (k355 u0), (k356 u0), (8, some (arD 3 1 (intC .i64) o601))]⟩) (cs := []) ⟨[], [(0, 0), (1, 1), (2, 2), (3, 3), (4, 4), (5, 5), (6, 6), (7, 7), (24, 8)]⟩ [] (by kernel_rfl) trivial), ?_⟩
   obtain rfl := oi h
   exact RetQ.mk (.inl rfl) (p := []) (l := []) (by kernel_rfl) trivial (TLe.refl _) ⟨rfl, .refl _, ⟨rfl, .refl _, ⟨rfl, .refl _, ⟨rfl, .refl _, ⟨rfl, .refl _, ⟨rfl, trivial, ⟨rfl, .refl _, ⟨rfl, .refl _, ⟨rfl, .refl _, trivial⟩⟩⟩⟩⟩⟩⟩⟩⟩
  | ret v =>
   obtain rfl := oi h
   unfold ExK
   intro e st hn ha hR
   cases e with
   | normal => exact absurd rfl hn
   | exit id => exact hR
   | goto l => exact hR
   | ret => exact hR
   | panic c => exact hR
   | outgrown => exact hR
def m_guard_machine_round_R (u0 : Machine) : (Bool × Machine × Bool) → Exit → St → Prop :=
  fun r => RetQ TT [.tmp 2] (vB r.1) [(0, some (.cells 137 [(.own 3 false r.2.1.clearing.events.length), (cB r.2.1.clearing.cleared), (cI r.2.1.clearing.millis), (cI r.2.1.clearing.energy), (.d (slD none 1 boolC r.2.1.clearing.state.closed)), (.d (slD none 1 boolC r.2.1.clearing.state.locked)), (.d (slD none 1 boolC r.2.1.clearing.state.badLink)), (.d (slD none 1 boolC r.2.1.clearing.state.on_)), (.d (slD none 1 boolC r.2.1.clearing.state.badSource)), (.d (slD none 1 boolC r.2.1.clearing.state.earthed)), (.d (slD none 1 boolC r.2.1.clearing.state.badBus)), (cI r.2.1.p.buses), (.d (slD none 5 Source.cell r.2.1.p.sources)), (.d (slD none 6 Link.cell r.2.1.p.links)), (.d (slD none 4 Rack.cell r.2.1.p.racks)), (cI r.2.1.bus), (.d (slD (some r.2.2) 1 (intC .i64) r.2.1.amps)), (cI r.2.1.total), (.mp 2), (cI r.2.1.now)])), (1, none), (k274 u0), (3, some (arD 56 2 Event.cell r.2.1.clearing.events))]
section
variable (u1 : Int) (u0 : Machine) (u2 : (List Int)) (u4 : Int) (o0 : (List Event)) (o4 : (List Bool)) (u3 : Bool)
abbrev k363 : Nat × TV := (3, (vD (ipT [(.int .i64 (if u1 < u0.now then u0.now else u1))] 0)))
abbrev k364 : Nat × TV := (91, (vI (u2.length : Int)))
abbrev k362 : List (Nat × TV) := [(0, (vP 0 0)), (k363 u1 u0), (90, (vO 30 false u2.length)), (k364 u2), (92, (vI u4))]
abbrev k367 := (IntKind.wrap .i64 (u0.clearing.energy + (IntKind.wrap .i64 ((IntKind.wrap .i64 (Int.tdiv (IntKind.wrap .i64 ((IntKind.wrap .i64 (u0.total * u0.total)) + 999)) 1000)) * (IntKind.wrap .i64 ((if u1 < u0.now then u0.now else u1) - u0.now))))))
abbrev k366 : Nat × Option Ob := (0, some (.cells 137 [(.own 37 false o0.length), (cB u0.clearing.cleared), (cI (if u1 < u0.now then u0.now else u1)), (cI (k367 u1 u0)), (.own 31 false o4.length), (.d (k264 u0)), (.d (k265 u0)), (.d (k266 u0)), (.d (k267 u0)), (.d (k268 u0)), (.d (k269 u0)), (cI u0.p.buses), (.d (k270 u0)), (.d (k271 u0)), (.d (k272 u0)), (cI u0.bus), (.d (k273 u0 u3)), (cI u0.total), (.mp 2), (cI (if u1 < u0.now then u0.now else u1))]))
abbrev k368 : Nat × Option Ob := (30, some (k226 u2))
abbrev k369 : Nat × Option Ob := (31, some (arD 4 1 boolC o4))
abbrev k365 : List (Nat × Option Ob) := [(k366 u1 u0 o0 o4 u3), (1, none), (k274 u0), (k368 u2), (k369 o4), (37, some (arD 56 2 Event.cell o0))]
end
def m_guard_machine_round_S0 (u0 : Machine) (u3 : Bool) (u1 : Int) (u2 : (List Int)) : ((List Event) × (List Bool) × Int) → St :=
  fun zz => match zz with | (o0, o4, u4) => ⟨(k362 u1 u0 u2 u4), (k365 u1 u0 u2 o0 o4 u3)⟩
section
variable (u2 : (List Event)) (u0 : Machine) (u1 : Int) (u3 : (List Bool)) (u4 : Bool)
abbrev k371 : List (Nat × Option Ob) := [(k366 u1 u0 u2 u3 u4), (1, none), (k274 u0), (k369 u3), (37, some (arD 56 2 Event.cell u2))]
abbrev k370 : St := ⟨[], (k371 u2 u0 u1 u3 u4)⟩
end
def m_guard_machine_round_B0 (u0 : Machine) (u4 : Bool) (u1 : Int) : ((List Event) × (List Bool)) → St :=
  fun zz => match zz with | (u2, u3) => (k370 u2 u0 u1 u3 u4)
def m_guard_machine_round_Q0 (u0 : Machine) (u1 : Bool) (u2 : Int) (u3 : (List Int)) : (Flow ((List Event) × (List Bool) × Int) (Ex ((List Event) × (List Bool)) (Bool × Machine × Bool))) → Exit → St → Prop :=
  LQ 4 [] (m_guard_machine_round_S0 u0 u1 u2 u3) (m_guard_machine_round_B0 u0 u1 u2) (m_guard_machine_round_R u0)
section
variable (u1 : Int) (u0 : Machine) (u2 : (List Int)) (u5 : (List Bool)) (u3 : Bool) (u4 : Int) (o4 : (List Bool)) (o0 : (List Event))
abbrev k372 : List (Nat × TV) := [(0, (vP 0 0)), (3, (vP 22 0)), (12, (.v (.one (.fn 153 0 1 (capC [(.ptr 23 0)])))))]
abbrev k373 : Nat × Option Ob := (23, some k303)
abbrev k374 : Nat × Option Ob := (22, some (.cells 3 [(cI (if u1 < u0.now then u0.now else u1))]))
abbrev k375 : List (Nat × TV) := [(0, (vP 0 0)), (3, (vP 22 0)), (6, (vP 26 0))]
abbrev k376 : Nat × Option Ob := (26, some (.cells 40 [(.own 27 false (([] : List Int).length))]))
abbrev k377 : Nat × Option Ob := (27, some k132)
abbrev k378 : List (Nat × TV) := [(0, (vP 0 0)), (3, (vP 22 0)), (6, (vP 26 0)), (32, (.v (.one (.fn 153 0 1 (capC [(.ptr 28 0)])))))]
abbrev k379 : Nat × Option Ob := (28, some k303)
abbrev k380 : Nat × Option Ob := (26, some (.cells 40 [(.own 30 false u2.length)]))
abbrev k381 : List (Nat × TV) := [(0, (vP 0 0)), (k363 u1 u0), (6, (vP 26 0))]
abbrev k383 : List CV := [(.own 1 false u0.clearing.events.length), (cB u0.clearing.cleared), (cI (if u1 < u0.now then u0.now else u1)), (cI (k367 u1 u0)), (.own 31 false u5.length), (.d (k264 u0)), (.d (k265 u0)), (.d (k266 u0)), (.d (k267 u0)), (.d (k268 u0)), (.d (k269 u0)), (cI u0.p.buses), (.d (k270 u0)), (.d (k271 u0)), (.d (k272 u0)), (cI u0.bus), (.d (k273 u0 u3)), (cI u0.total), (.mp 2), (cI (if u1 < u0.now then u0.now else u1))]
abbrev k382 : Nat × Option Ob := (0, some (.cells 137 (k383 u1 u0 u5 u3)))
abbrev k384 : List (Nat × TV) := [(0, (vP 0 0)), (k363 u1 u0), (90, (vO 30 false u2.length)), (k364 u2), (92, (vI 0))]
abbrev k385 : List (Nat × TV) := [(0, (vP 0 0)), (k363 u1 u0), (10, (vI (at' u2 u4.toNat))), (90, (vO 30 false u2.length)), (k364 u2), (92, (vI u4))]
abbrev k386 := (elOf boolC (o4.set ((at' u2 u4.toNat).toNat) false))
abbrev k387 := ((o4.set ((at' u2 u4.toNat).toNat) false).length)
abbrev k388 : Nat × Option Ob := (31, some (arD 4 1 boolC (o4.set ((at' u2 u4.toNat).toNat) false)))
abbrev k392 := (⟨(if u1 < u0.now then u0.now else u1), (at' u2 u4.toNat)⟩ : Event)
abbrev k391 := (o0 ++ [(k392 u1 u0 u2 u4)])
abbrev k390 := ((k391 u1 u0 u2 u4 o0).length)
abbrev k393 : Ob := (arD 56 2 Event.cell (k391 u1 u0 u2 u4 o0))
abbrev k389 : List (Nat × Option Ob) := [(0, some (.cells 137 [(.own 41 false (k390 u1 u0 u2 u4 o0)), (cB u0.clearing.cleared), (cI (if u1 < u0.now then u0.now else u1)), (cI (k367 u1 u0)), (.own 31 false (k387 u2 u4 o4)), (.d (k264 u0)), (.d (k265 u0)), (.d (k266 u0)), (.d (k267 u0)), (.d (k268 u0)), (.d (k269 u0)), (cI u0.p.buses), (.d (k270 u0)), (.d (k271 u0)), (.d (k272 u0)), (cI u0.bus), (.d (k273 u0 u3)), (cI u0.total), (.mp 2), (cI (if u1 < u0.now then u0.now else u1))])), (1, none), (k274 u0), (k368 u2), (k388 u2 u4 o4), (41, some (k393 u1 u0 u2 u4 o0))]
abbrev k394 := (elOf Event.cell [(k392 u1 u0 u2 u4)])
abbrev k395 := (apEl (elOf Event.cell o0) o0.length (k394 u1 u0 u2 u4))
abbrev k396 := (elOf Event.cell (k391 u1 u0 u2 u4 o0))
abbrev k397 : List (Nat × TV) := [(0, (vP 0 0)), (k363 u1 u0), (90, (vO 30 false u2.length)), (k364 u2), (92, (k30 u4))]
end
theorem m_guard_machine_round_ok (u0 : Machine) (u3 : Bool) {r : (Bool × Machine × Bool)} (h : m_guard_machine_round u0 u3 = some r) : Fn Try.prog 107 [(.one (.ptr 0 0))] (k285 u0 u3) (vB r.1) [(0, some (.cells 137 [(.own 3 false r.2.1.clearing.events.length), (cB r.2.1.clearing.cleared), (cI r.2.1.clearing.millis), (cI r.2.1.clearing.energy), (.d (slD none 1 boolC r.2.1.clearing.state.closed)), (.d (slD none 1 boolC r.2.1.clearing.state.locked)), (.d (slD none 1 boolC r.2.1.clearing.state.badLink)), (.d (slD none 1 boolC r.2.1.clearing.state.on_)), (.d (slD none 1 boolC r.2.1.clearing.state.badSource)), (.d (slD none 1 boolC r.2.1.clearing.state.earthed)), (.d (slD none 1 boolC r.2.1.clearing.state.badBus)), (cI r.2.1.p.buses), (.d (slD none 5 Source.cell r.2.1.p.sources)), (.d (slD none 6 Link.cell r.2.1.p.links)), (.d (slD none 4 Rack.cell r.2.1.p.racks)), (cI r.2.1.bus), (.d (slD (some r.2.2) 1 (intC .i64) r.2.1.amps)), (cI r.2.1.total), (.mp 2), (cI r.2.1.now)])), (1, none), (k274 u0), (3, some (arD 56 2 Event.cell r.2.1.clearing.events))] := by
 refine fN tT Try.func107 rfl rfl fun B => ?_
 show AWp _ _ _ _ _ _ ((m_guard_machine_round_R u0) r) _
 unfold m_guard_machine_round at h
 refine sz tT ⟨[(0, (vP 0 0))], (k285 u0 u3)⟩ {} [] ?_
 refine sz tT ⟨[(0, (vP 0 0)), (3, (vP 22 0))], [(k286 u0 u3), (k256 u0), (k274 u0), (22, some (.cells 3 [(cI (-1))]))]⟩ { fr := [(0, 22)] } [] ?_
 refine aQ (aQ (bE h fun r_ hr_ h => ?_))
 have q0 := rk [(3, 23)] (m_guard_machine_armed_ok u0 u3 hr_)
 refine rg tT ⟨k372, [(k286 u0 u3), (k256 u0), (k274 u0), (22, some (.cells 3 [(cI (-1))])), k373]⟩ [_] { an := [(1, cA q0 [0, 1, 2])] } [] ⟨q0, trivial⟩ ?_
 refine aB (bE h fun u1 hr_1 h => ?_)
 refine awp_rangeFuncI 24 [(3, (vP 22 0))] [] [24, 23, 22, 0, 1, 2] (.tup []) [(24, some (.loop R_guard_machine_round_r0 0 [(3, (vP 22 0))])), k373, (22, some (.cells 3 [(cI u1)])), (k286 u0 u3), (k256 u0), (k274 u0)] (.v (.one (.fn 153 0 1 (capC [(.ptr 23 0)])))) 153 [] [(.ptr 23 0)] [(24, some (.loop R_guard_machine_round_r0 0 [(3, (vP 22 0))])), k373, (22, some (.cells 3 [(cI (-1))])), (k286 u0 u3), (k256 u0), (k274 u0)] [(.one (.yl 24)), (.one (.ptr 23 0))] R_guard_machine_round_r0 0 [(3, (vP 22 0))] (by kernel_rfl) (by kernel_rfl) (by kernel_rfl) (by kernel_rfl) (by kernel_rfl) (by kernel_rfl) (by kernel_rfl) (Fn.renK [(0, 24), (1, 23), (2, 22), (3, 0), (4, 1), (5, 2)] (m_guard_machine_armed_1_ok (-1) u0 u3 hr_1) (by kernel_rfl) (by kernel_rfl) (by kernel_rfl) (by kernel_rfl)) (by kernel_rfl) rfl (ExOf.zero rfl) (Imp.fin (st' := ⟨k372, [(k286 u0 u3), (k256 u0), (k274 u0), (22, some (.cells 3 [(cI u1)])), k373]⟩) (cs := []) ⟨[], [(0, 0), (1, 1), (2, 2), (22, 22), (23, 23)]⟩ [0, 3, 12] (by kernel_rfl) trivial) ?_
 refine aQ (sz tT ⟨[(0, (vP 0 0)), (3, (vP 22 0)), (24, (vB (decide (u1 < 0))))], [(k286 u0 u3), (k256 u0), (k274 u0), (22, some (.cells 3 [(cI u1)]))]⟩ {} [] ?_)
 refine bI h (fun hb1 h => ?_) (fun hb1 h => ?_)
 ·refine ct hb1 ?_
  refine sz tT ⟨[(2, (vB false))], (k285 u0 u3)⟩ {} [] ?_
  refine aI (.trans (Imp.reown (E0 := 137) (cs := (k287 u0 u3)) (nn := false) (len := u0.clearing.events.length) (E := 56) (esz := 2) (n := u0.clearing.events.length) (el := elOf Event.cell u0.clearing.events) (p := 0) (q := 0) (b := 1) (b' := 25) (by kernel_rfl) (by kernel_rfl) (by kernel_rfl) (by kernel_rfl)) (.trans (fz ⟨[(2, (vB false))], [(0, some (.cells 137 [(.own 25 false u0.clearing.events.length), (cB u0.clearing.cleared), (cI u0.clearing.millis), (cI u0.clearing.energy), (.d (k263 u0)), (.d (k264 u0)), (.d (k265 u0)), (.d (k266 u0)), (.d (k267 u0)), (.d (k268 u0)), (.d (k269 u0)), (cI u0.p.buses), (.d (k270 u0)), (.d (k271 u0)), (.d (k272 u0)), (cI u0.bus), (.d (k273 u0 u3)), (cI u0.total), (.mp 2), (cI u0.now)])), (1, none), (k274 u0), (25, some (k257 u0))]⟩ []) (Imp.fin (st' := ⟨[(2, (vB false))], [(0, some (.cells 137 [(.own 3 false u0.clearing.events.length), (cB u0.clearing.cleared), (cI u0.clearing.millis), (cI u0.clearing.energy), (.d (k263 u0)), (.d (k264 u0)), (.d (k265 u0)), (.d (k266 u0)), (.d (k267 u0)), (.d (k268 u0)), (.d (k269 u0)), (cI u0.p.buses), (.d (k270 u0)), (.d (k271 u0)), (.d (k272 u0)), (cI u0.bus), (.d (k273 u0 u3)), (cI u0.total), (.mp 2), (cI u0.now)])), (1, none), (k274 u0), (3, some (k257 u0))]⟩) (cs := []) ⟨[], [(0, 0), (1, 1), (2, 2), (25, 3)]⟩ [2] (by kernel_rfl) trivial))) ?_
  refine aR ?_
  obtain rfl := oi h
  exact rh [(sB false)] (.refl _) ⟨rfl, .refl _, ⟨rfl, trivial, ⟨rfl, .refl _, ⟨rfl, .refl _, trivial⟩⟩⟩⟩
 ·refine cf hb1 ?_
  refine aP (sd tT mX ⟨[(0, (vP 0 0)), (3, (vP 22 0))], [(k286 u0 u3), (k256 u0), (k274 u0), (k374 u1 u0)]⟩ [] {} [] trivial ?_)
  refine si tT ⟨k375, [(k286 u0 u3), (k256 u0), (k274 u0), (k374 u1 u0), (26, some (.cells 40 [(.d nS)]))]⟩ [] { fr := [(0, 26)] } [] trivial (.trans (Imp.adoptC (E := 0) (esz := 0) (E0 := 40) (cs := [(.d nS)]) (p := 26) (q := 0) (b := 27) (esz0 := 0) (el0 := fun _ _ => .nilp) (ob := .arr 3 1 0 (elOf (intC .i64) ([] : List Int))) (fun _ _ _ _ h => .inl ⟨h, rfl⟩) (by kernel_rfl) (by kernel_rfl) (by kernel_rfl)) (.trans (fz ⟨k375, [(k286 u0 u3), (k256 u0), (k274 u0), (k374 u1 u0), (26, some (.cells 40 [(.own 27 false 0)])), (27, some (.arr 3 1 0 (elOf (intC .i64) ([] : List Int))))]⟩ []) (Imp.le (st' := ⟨k375, [(k286 u0 u3), (k256 u0), (k274 u0), (k374 u1 u0), k376, k377]⟩) ⟨⟨tR, tR, tR, trivial⟩, ⟨rfl, .refl _, ⟨rfl, .refl _, ⟨rfl, .refl _, ⟨rfl, .refl _, ⟨rfl, OLe_cells ⟨cW, trivial⟩, ⟨rfl, oW, trivial⟩⟩⟩⟩⟩⟩⟩))) ?_
  refine aQ (aQ (bE h fun u8 hr_2 h => ?_))
  have q0 := rk [(3, 28)] (m_guard_machine_armed_ok u0 u3 hr_2)
  refine rg tT ⟨k378, [(k286 u0 u3), (k256 u0), (k274 u0), (k374 u1 u0), k376, k377, k379]⟩ [_] { an := [(1, cA q0 [0, 1, 2])] } [] ⟨q0, trivial⟩ ?_
  refine aB (bE h fun u2 hr_3 h => ?_)
  refine awp_rangeFuncI 29 [(3, (vP 22 0)), (6, (vP 26 0))] [] [29, 28, 22, 26, 0, 27, 1, 2] (.tup []) [(29, some (.loop R_guard_machine_round_r1 0 [(3, (vP 22 0)), (6, (vP 26 0))])), k379, (k374 u1 u0), (k380 u2), (k286 u0 u3), (27, none), (k256 u0), (k274 u0), (k368 u2)] (.v (.one (.fn 153 0 1 (capC [(.ptr 28 0)])))) 153 [] [(.ptr 28 0)] [(29, some (.loop R_guard_machine_round_r1 0 [(3, (vP 22 0)), (6, (vP 26 0))])), k379, (k374 u1 u0), k376, (k286 u0 u3), k377, (k256 u0), (k274 u0)] [(.one (.yl 29)), (.one (.ptr 28 0))] R_guard_machine_round_r1 0 [(3, (vP 22 0)), (6, (vP 26 0))] (by kernel_rfl) (by kernel_rfl) (by kernel_rfl) (by kernel_rfl) (by kernel_rfl) (by kernel_rfl) (by kernel_rfl) (Fn.renK [(0, 29), (1, 28), (2, 22), (3, 26), (4, 0), (5, 27), (6, 1), (7, 2), (8, 30)] (m_guard_machine_armed_1_v1_ok (if u1 < u0.now then u0.now else u1) ([] : List Int) u0 u3 hr_3) (by kernel_rfl) (by kernel_rfl) (by kernel_rfl) (by kernel_rfl)) (by kernel_rfl) rfl (ExOf.zero rfl) (Imp.fin (st' := ⟨k378, [(k286 u0 u3), (k256 u0), (k274 u0), (k374 u1 u0), (k380 u2), (27, none), k379, (k368 u2)]⟩) (cs := []) ⟨[], [(0, 0), (1, 1), (2, 2), (22, 22), (26, 26), (27, 27), (28, 28), (30, 30)]⟩ [0, 3, 6, 32] (by kernel_rfl) trivial) ?_
  refine aQ (aO h fun a1 h => ?_)
  refine dg tT mX ⟨k375, [(0, some (.cells 137 [(.own 1 false u0.clearing.events.length), (cB u0.clearing.cleared), (cI u0.clearing.millis), (cI (k367 u1 u0)), (.d (k263 u0)), (.d (k264 u0)), (.d (k265 u0)), (.d (k266 u0)), (.d (k267 u0)), (.d (k268 u0)), (.d (k269 u0)), (cI u0.p.buses), (.d (k270 u0)), (.d (k271 u0)), (.d (k272 u0)), (cI u0.bus), (.d (k273 u0 u3)), (cI u0.total), (.mp 2), (cI u0.now)])), (k256 u0), (k274 u0), (k374 u1 u0), (k380 u2), (k368 u2)]⟩ [_] {} [] ⟨a1, trivial⟩ ?_
  refine sd tT mX ⟨(k381 u1 u0), [(0, some (.cells 137 [(.own 1 false u0.clearing.events.length), (cB u0.clearing.cleared), (cI (if u1 < u0.now then u0.now else u1)), (cI (k367 u1 u0)), (.d (k263 u0)), (.d (k264 u0)), (.d (k265 u0)), (.d (k266 u0)), (.d (k267 u0)), (.d (k268 u0)), (.d (k269 u0)), (cI u0.p.buses), (.d (k270 u0)), (.d (k271 u0)), (.d (k272 u0)), (cI u0.bus), (.d (k273 u0 u3)), (cI u0.total), (.mp 2), (cI (if u1 < u0.now then u0.now else u1))])), (k256 u0), (k274 u0), (k380 u2), (k368 u2)]⟩ [] {} [22] trivial ?_
  refine aQ (bE h fun u5 hr_4 h => ?_)
  have q0 := rk [(0, 31)] (m_slices_Clone_v1_a_ok u0.clearing.state.closed hr_4)
  refine rg tT ⟨(k381 u1 u0), [(k382 u1 u0 u5 u3), (k256 u0), (k274 u0), (k380 u2), (k368 u2), (k369 u5)]⟩ [_] { an := [(7, cA q0 [])] } [] ⟨q0, trivial⟩ ?_
  refine aQ (sz tT ⟨(k384 u1 u0 u2), [(k382 u1 u0 u5 u3), (k256 u0), (k274 u0), (k368 u2), (k369 u5)]⟩ {} [] ?_)
  refine bE h fun y hy h => ?_
  refine aI (.trans (Imp.reown (E0 := 137) (cs := (k383 u1 u0 u5 u3)) (nn := false) (len := u0.clearing.events.length) (E := 56) (esz := 2) (n := u0.clearing.events.length) (el := elOf Event.cell u0.clearing.events) (p := 0) (q := 0) (b := 1) (b' := 42) (by kernel_rfl) (by kernel_rfl) (by kernel_rfl) (by kernel_rfl)) (.trans (fz ⟨(k384 u1 u0 u2), [(0, some (.cells 137 [(.own 42 false u0.clearing.events.length), (cB u0.clearing.cleared), (cI (if u1 < u0.now then u0.now else u1)), (cI (k367 u1 u0)), (.own 31 false u5.length), (.d (k264 u0)), (.d (k265 u0)), (.d (k266 u0)), (.d (k267 u0)), (.d (k268 u0)), (.d (k269 u0)), (cI u0.p.buses), (.d (k270 u0)), (.d (k271 u0)), (.d (k272 u0)), (cI u0.bus), (.d (k273 u0 u3)), (cI u0.total), (.mp 2), (cI (if u1 < u0.now then u0.now else u1))])), (1, none), (k274 u0), (k368 u2), (k369 u5), (42, some (k257 u0))]⟩ []) (Imp.fin (st' := ⟨(k384 u1 u0 u2), [(0, some (.cells 137 [(.own 37 false u0.clearing.events.length), (cB u0.clearing.cleared), (cI (if u1 < u0.now then u0.now else u1)), (cI (k367 u1 u0)), (.own 31 false u5.length), (.d (k264 u0)), (.d (k265 u0)), (.d (k266 u0)), (.d (k267 u0)), (.d (k268 u0)), (.d (k269 u0)), (cI u0.p.buses), (.d (k270 u0)), (.d (k271 u0)), (.d (k272 u0)), (cI u0.bus), (.d (k273 u0 u3)), (cI u0.total), (.mp 2), (cI (if u1 < u0.now then u0.now else u1))])), (1, none), (k274 u0), (k368 u2), (k369 u5), (37, some (k257 u0))]⟩) (cs := []) ⟨[], [(0, 0), (1, 1), (2, 2), (30, 30), (31, 31), (42, 37)]⟩ [0, 3, 90, 91, 92] (by kernel_rfl) trivial))) ?_
  refine aL [] (m_guard_machine_round_S0 u0 u3 u1 u2) (m_guard_machine_round_B0 u0 u3 u1) (m_guard_machine_round_R u0) hy (fun s f h => ?_) ?_
  ·clear hy
   show AWp _ _ _ _ _ _ ((m_guard_machine_round_Q0 u0 u3 u1 u2) f) _
   unfold m_guard_machine_round_L0 at h
   obtain ⟨o0, o4, u4⟩ := s
   refine sz tT ⟨[(0, (vP 0 0)), (k363 u1 u0), (90, (vO 30 false u2.length)), (k364 u2), (92, (vI u4)), (93, (k139 u4 u2))], (k365 u1 u0 u2 o0 o4 u3)⟩ {} [] ?_
   refine aQ ?_
   refine bI h (fun hb h => ?_) (fun hb h => ?_)
   ·refine ct hb ?_
    refine aP (aQ (aB (aQ (aO h fun a1 h => ?_))))
    refine rg tT ⟨(k385 u1 u0 u2 u4), (k365 u1 u0 u2 o0 o4 u3)⟩ [_, _] {} [] ⟨a1, (tL a1), trivial⟩ ?_
    refine aQ (aO h fun a1 h => ?_)
    refine ri tT ⟨(k385 u1 u0 u2 u4), [(k366 u1 u0 o0 o4 u3), (1, none), (k274 u0), (k368 u2), (31, some (.arr 4 1 o4.length (k386 u2 u4 o4))), (37, some (arD 56 2 Event.cell o0))]⟩ [_, _, ArrEq o4.length 1 (stEls (elOf boolC o4) ((at' u2 u4.toNat).toNat) 0 [(.bool false)]) (k386 u2 u4 o4)] { an := [(8, .arr 0 (k386 u2 u4 o4))] } [] ⟨a1, (tL a1), (arrEq_set' _ _ _ _ _ _ _ _ rfl (fun j hj => (match j, hj with | 0, _ => rfl))), trivial⟩ (Imp.le (st' := ⟨(k385 u1 u0 u2 u4), [(0, some (.cells 137 [(.own 37 false o0.length), (cB u0.clearing.cleared), (cI (if u1 < u0.now then u0.now else u1)), (cI (k367 u1 u0)), (.own 31 false (k387 u2 u4 o4)), (.d (k264 u0)), (.d (k265 u0)), (.d (k266 u0)), (.d (k267 u0)), (.d (k268 u0)), (.d (k269 u0)), (cI u0.p.buses), (.d (k270 u0)), (.d (k271 u0)), (.d (k272 u0)), (cI u0.bus), (.d (k273 u0 u3)), (cI u0.total), (.mp 2), (cI (if u1 < u0.now then u0.now else u1))])), (1, none), (k274 u0), (k368 u2), (k388 u2 u4 o4), (37, some (arD 56 2 Event.cell o0))]⟩) ⟨⟨tR, tR, tR, tR, tR, tR, trivial⟩, ⟨rfl, OLe_cells ⟨CLe.refl _, CLe.refl _, CLe.refl _, CLe.refl _, cW, CLe.refl _, CLe.refl _, CLe.refl _, CLe.refl _, CLe.refl _, CLe.refl _, CLe.refl _, CLe.refl _, CLe.refl _, CLe.refl _, CLe.refl _, CLe.refl _, CLe.refl _, CLe.refl _, CLe.refl _, trivial⟩, ⟨rfl, .refl _, ⟨rfl, .refl _, ⟨rfl, .refl _, ⟨rfl, oW, ⟨rfl, .refl _, trivial⟩⟩⟩⟩⟩⟩⟩) ?_
    refine aO h fun ⟨a1, a2⟩ h => ?_
    refine dg tT mX ⟨(k362 u1 u0 u2 u4), (k389 u1 u0 u2 u3 u4 o4 o0)⟩ [[(k392 u1 u0 u2 u4)].length = 1, ArrEq 1 2 (elL 2 [(.int .i64 (if u1 < u0.now then u0.now else u1)), (.int .i64 (at' u2 u4.toNat))]) (k394 u1 u0 u2 u4), o0.length = o0.length, _, _, (k391 u1 u0 u2 u4 o0).length = o0.length + [(k392 u1 u0 u2 u4)].length, ArrEq (o0.length + [(k392 u1 u0 u2 u4)].length) 2 (k395 u1 u0 u2 u4 o0) (k396 u1 u0 u2 u4 o0)] { an := [(9, .arr [(k392 u1 u0 u2 u4)].length (k394 u1 u0 u2 u4)), (10, .arr (k391 u1 u0 u2 u4 o0).length (k396 u1 u0 u2 u4 o0))], fr := [(9, 40), (10, 41)] } [] ⟨(rfl), ((by intro i hi j hj; match i, j, hi, hj with | 0, 0, _, _ => rfl | 0, 1, _, _ => rfl)), rfl, a1, a2, (List.length_append), (arrEq_app _ _ _ _), trivial⟩ ?_
    refine ri tT ⟨(k397 u1 u0 u2 u4), (k389 u1 u0 u2 u3 u4 o4 o0)⟩ [] {} [] trivial (Imp.fin (st' := ⟨(k397 u1 u0 u2 u4), [(0, some (.cells 137 [(.own 37 false (k390 u1 u0 u2 u4 o0)), (cB u0.clearing.cleared), (cI (if u1 < u0.now then u0.now else u1)), (cI (k367 u1 u0)), (.own 31 false (k387 u2 u4 o4)), (.d (k264 u0)), (.d (k265 u0)), (.d (k266 u0)), (.d (k267 u0)), (.d (k268 u0)), (.d (k269 u0)), (cI u0.p.buses), (.d (k270 u0)), (.d (k271 u0)), (.d (k272 u0)), (cI u0.bus), (.d (k273 u0 u3)), (cI u0.total), (.mp 2), (cI (if u1 < u0.now then u0.now else u1))])), (1, none), (k274 u0), (k368 u2), (k388 u2 u4 o4), (37, some (k393 u1 u0 u2 u4 o0))]⟩) (cs := []) ⟨[], [(0, 0), (1, 1), (2, 2), (30, 30), (31, 31), (41, 37)]⟩ [0, 3, 90, 91, 92] (by kernel_rfl) trivial) ?_
    obtain rfl := oi h
    exact lN (by kernel_rfl)
   ·refine cf hb ?_
    refine aI (fz (k370 o0 u0 u1 o4 u3) []) ?_
    refine aX ?_
    obtain rfl := oi h
    exact lB (by kernel_rfl)
  ·clear hy
   cases y with
   | brk z =>
    obtain ⟨u7, u6⟩ := z
    unfold ExK
    refine ⟨_, .refl, ?_⟩
    refine sz tT ⟨[(2, (vB true))], (k371 u7 u0 u1 u6 u3)⟩ {} [] ?_
    refine aI (Imp.fin (st' := ⟨[(2, (vB true))], [(0, some (.cells 137 [(.own 3 false u7.length), (cB u0.clearing.cleared), (cI (if u1 < u0.now then u0.now else u1)), (cI (k367 u1 u0)), (.d (slD none 1 boolC u6)), (.d (k264 u0)), (.d (k265 u0)), (.d (k266 u0)), (.d (k267 u0)), (.d (k268 u0)), (.d (k269 u0)), (cI u0.p.buses), (.d (k270 u0)), (.d (k271 u0)), (.d (k272 u0)), (cI u0.bus), (.d (k273 u0 u3)), (cI u0.total), (.mp 2), (cI (if u1 < u0.now then u0.now else u1))])), (1, none), (k274 u0), (3, some (arD 56 2 Event.cell u7))]⟩) (cs := [u6.length = u6.length]) ⟨[31], [(0, 0), (1, 1), (2, 2), (37, 3)]⟩ [2] (by kernel_rfl) ⟨rfl, trivial⟩) ?_
    refine aR ?_
    obtain rfl := oi h
    exact rh [(sB true)] (.refl _) ⟨rfl, .refl _, ⟨rfl, trivial, ⟨rfl, .refl _, ⟨rfl, .refl _, trivial⟩⟩⟩⟩
   | ret v =>
    obtain rfl := oi h
    unfold ExK
    intro e st hn ha hR
    cases e with
    | normal => exact absurd rfl hn
    | exit id => exact hR
    | goto l => exact hR
    | ret => exact hR
    | panic c => exact hR
    | outgrown => exact hR
def m_guard_machine_run_R  : (Clearing × (List (Int × Int))) → Exit → St → Prop :=
  fun r => RetQ TT [.cell 2 36] (.v (.agg [(.own 3 false r.1.events.length), (cB r.1.cleared), (cI r.1.millis), (cI r.1.energy), (.d (slD none 1 boolC r.1.state.closed)), (.d (slD none 1 boolC r.1.state.locked)), (.d (slD none 1 boolC r.1.state.badLink)), (.d (slD none 1 boolC r.1.state.on_)), (.d (slD none 1 boolC r.1.state.badSource)), (.d (slD none 1 boolC r.1.state.earthed)), (.d (slD none 1 boolC r.1.state.badBus))])) [(0, none), (1, none), (2, some (mpD 3 3 false false 1 1 (intC .i64) (intC .i64) r.2)), (3, some (arD 56 2 Event.cell r.1.events)), (4, none)]
abbrev k399 : Nat × TV := (3, (.v (.one (.fn 107 1 1 (capC [(.ptr 0 0)])))))
abbrev k398 : List (Nat × TV) := [(0, (vP 0 0)), (2, (vP 10 0)), k399]
abbrev k402 : List CV := [(.d nS), (cB false), (cI 0), (cI 0), (.d nS), (.d nS), (.d nS), (.d nS), (.d nS), (.d nS), (.d nS)]
abbrev k401 : Ob := (.cells 36 k402)
abbrev k400 : Nat × Option Ob := (10, some k401)
def m_guard_machine_run_S0  : ((List Event) × Bool × Int × Int × (List Bool) × (List Bool) × (List Bool) × (List Bool) × (List Bool) × (List Bool) × (List Bool) × Int × (List Source) × (List Link) × (List Rack) × Int × Bool × (List Int) × Int × (List (Int × Int)) × Int) → St :=
  fun zz => match zz with | (o0, o1, o2, o3, o4, o5, o6, o7, o8, o9, u0, u1, u2, u3, u4, u5, u6, u7, u8, u9, v0) => ⟨k398, [(0, some (.cells 137 [(.own 12 false o0.length), (cB o1), (cI o2), (cI o3), (.d (slD none 1 boolC o4)), (.d (slD none 1 boolC o5)), (.d (slD none 1 boolC o6)), (.d (slD none 1 boolC o7)), (.d (slD none 1 boolC o8)), (.d (slD none 1 boolC o9)), (.d (slD none 1 boolC u0)), (cI u1), (.d (slD none 5 Source.cell u2)), (.d (slD none 6 Link.cell u3)), (.d (slD none 4 Rack.cell u4)), (cI u5), (.d (slD (some u6) 1 (intC .i64) u7)), (cI u8), (.mp 2), (cI v0)])), (1, none), (k282 u9), k400, (12, some (arD 56 2 Event.cell o0))]⟩
def m_guard_machine_run_Q0  : (Flow ((List Event) × Bool × Int × Int × (List Bool) × (List Bool) × (List Bool) × (List Bool) × (List Bool) × (List Bool) × (List Bool) × Int × (List Source) × (List Link) × (List Rack) × Int × Bool × (List Int) × Int × (List (Int × Int)) × Int) (Ex Unit (Clearing × (List (Int × Int))))) → Exit → St → Prop :=
  GQ 0 m_guard_machine_run_S0 (JQ [] (fun _ : Unit => (⟨[], []⟩ : St)) m_guard_machine_run_R)
section
variable (u1 : Machine) (u2 : Bool) (r_ : (Machine × Bool)) (o0 : (List Event)) (u0 : (Bool × Machine × Bool))
abbrev k403 : List (Nat × Option Ob) := [(k286 u1 u2), (k256 u1), (k274 u1), k400]
abbrev k405 : DV := (slD none 1 boolC r_.1.clearing.state.closed)
abbrev k406 : DV := (slD none 1 boolC r_.1.clearing.state.locked)
abbrev k407 : DV := (slD none 1 boolC r_.1.clearing.state.badLink)
abbrev k408 : DV := (slD none 1 boolC r_.1.clearing.state.on_)
abbrev k409 : DV := (slD none 1 boolC r_.1.clearing.state.badSource)
abbrev k410 : DV := (slD none 1 boolC r_.1.clearing.state.earthed)
abbrev k411 : DV := (slD none 1 boolC r_.1.clearing.state.badBus)
abbrev k412 : DV := (slD (some r_.2) 1 (intC .i64) r_.1.amps)
abbrev k413 : Nat × Option Ob := (2, some (mpD 3 3 false false 1 1 (intC .i64) (intC .i64) r_.1.since))
abbrev k404 : List (Nat × Option Ob) := [(0, some (.cells 137 [(.own 12 false o0.length), (cB r_.1.clearing.cleared), (cI r_.1.clearing.millis), (cI r_.1.clearing.energy), (.d (k405 r_)), (.d (k406 r_)), (.d (k407 r_)), (.d (k408 r_)), (.d (k409 r_)), (.d (k410 r_)), (.d (k411 r_)), (cI r_.1.p.buses), (.d (slD none 5 Source.cell r_.1.p.sources)), (.d (slD none 6 Link.cell r_.1.p.links)), (.d (slD none 4 Rack.cell r_.1.p.racks)), (cI r_.1.bus), (.d (k412 r_)), (cI r_.1.total), (.mp 2), (cI r_.1.now)])), (1, none), (k413 r_), k400, (12, some (arD 56 2 Event.cell o0))]
abbrev k414 : Nat × Option Ob := (0, some (.cells 137 [(.own 12 false o0.length), (cB true), (cI r_.1.clearing.millis), (cI r_.1.clearing.energy), (.d (k405 r_)), (.d (k406 r_)), (.d (k407 r_)), (.d (k408 r_)), (.d (k409 r_)), (.d (k410 r_)), (.d (k411 r_)), (cI r_.1.p.buses), (.d (slD none 5 Source.cell r_.1.p.sources)), (.d (slD none 6 Link.cell r_.1.p.links)), (.d (slD none 4 Rack.cell r_.1.p.racks)), (cI r_.1.bus), (.d (k412 r_)), (cI r_.1.total), (.mp 2), (cI r_.1.now)]))
abbrev k416 : List CV := [(.own 3 false o0.length), (cB true), (cI r_.1.clearing.millis), (cI r_.1.clearing.energy), (.d (k405 r_)), (.d (k406 r_)), (.d (k407 r_)), (.d (k408 r_)), (.d (k409 r_)), (.d (k410 r_)), (.d (k411 r_))]
abbrev k415 : Nat × Option Ob := (4, some (.cells 36 (k416 r_ o0)))
abbrev k417 := (⟨o0, r_.1.clearing.cleared, r_.1.clearing.millis, r_.1.clearing.energy, r_.1.clearing.state⟩ : Clearing)
abbrev k419 : DV := (slD none 1 boolC u0.2.1.clearing.state.closed)
abbrev k420 : DV := (slD none 1 boolC u0.2.1.clearing.state.locked)
abbrev k421 : DV := (slD none 1 boolC u0.2.1.clearing.state.badLink)
abbrev k422 : DV := (slD none 1 boolC u0.2.1.clearing.state.on_)
abbrev k423 : DV := (slD none 1 boolC u0.2.1.clearing.state.badSource)
abbrev k424 : DV := (slD none 1 boolC u0.2.1.clearing.state.earthed)
abbrev k425 : DV := (slD none 1 boolC u0.2.1.clearing.state.badBus)
abbrev k426 : DV := (slD (some u0.2.2) 1 (intC .i64) u0.2.1.amps)
abbrev k418 : Nat × Option Ob := (0, some (.cells 137 [(.own 16 false u0.2.1.clearing.events.length), (cB u0.2.1.clearing.cleared), (cI u0.2.1.clearing.millis), (cI u0.2.1.clearing.energy), (.d (k419 u0)), (.d (k420 u0)), (.d (k421 u0)), (.d (k422 u0)), (.d (k423 u0)), (.d (k424 u0)), (.d (k425 u0)), (cI u0.2.1.p.buses), (.d (slD none 5 Source.cell u0.2.1.p.sources)), (.d (slD none 6 Link.cell u0.2.1.p.links)), (.d (slD none 4 Rack.cell u0.2.1.p.racks)), (cI u0.2.1.bus), (.d (k426 u0)), (cI u0.2.1.total), (.mp 2), (cI u0.2.1.now)]))
abbrev k427 : Ob := (arD 56 2 Event.cell u0.2.1.clearing.events)
abbrev k429 : List CV := [(.own 3 false u0.2.1.clearing.events.length), (cB u0.2.1.clearing.cleared), (cI u0.2.1.clearing.millis), (cI u0.2.1.clearing.energy), (.d (k419 u0)), (.d (k420 u0)), (.d (k421 u0)), (.d (k422 u0)), (.d (k423 u0)), (.d (k424 u0)), (.d (k425 u0))]
abbrev k428 : Nat × Option Ob := (4, some (.cells 36 (k429 u0)))
end
theorem m_guard_machine_run_ok (u1 : Machine) (u2 : Bool) {r : (Clearing × (List (Int × Int)))} (h : m_guard_machine_run u1 u2 = some r) : Fn Try.prog 63 [(.one (.ptr 0 0))] (k285 u1 u2) (.v (.agg [(.own 3 false r.1.events.length), (cB r.1.cleared), (cI r.1.millis), (cI r.1.energy), (.d (slD none 1 boolC r.1.state.closed)), (.d (slD none 1 boolC r.1.state.locked)), (.d (slD none 1 boolC r.1.state.badLink)), (.d (slD none 1 boolC r.1.state.on_)), (.d (slD none 1 boolC r.1.state.badSource)), (.d (slD none 1 boolC r.1.state.earthed)), (.d (slD none 1 boolC r.1.state.badBus))])) [(0, none), (1, none), (2, some (mpD 3 3 false false 1 1 (intC .i64) (intC .i64) r.2)), (3, some (arD 56 2 Event.cell r.1.events)), (4, none)] := by
 refine fN tT Try.func63 rfl rfl fun B => ?_
 show AWp _ _ _ _ _ _ (m_guard_machine_run_R r) _
 unfold m_guard_machine_run at h
 refine sz tT ⟨[(0, (vP 0 0)), (2, (vP 10 0))], (k403 u1 u2)⟩ { fr := [(0, 10)] } [] ?_
 refine bE h fun y hy h => ?_
 refine awp_scopeP 0 rfl [] m_guard_machine_run_S0 (fun _ : Unit => (⟨[], []⟩ : St)) m_guard_machine_run_R hy ?_ (fun s f h => ?_) ?_
 ·clear hy
  refine ri tT ⟨k398, (k403 u1 u2)⟩ [] {} [] trivial (.trans (Imp.reown (E0 := 137) (cs := (k287 u1 u2)) (nn := false) (len := u1.clearing.events.length) (E := 56) (esz := 2) (n := u1.clearing.events.length) (el := elOf Event.cell u1.clearing.events) (p := 0) (q := 0) (b := 1) (b' := 17) (by kernel_rfl) (by kernel_rfl) (by kernel_rfl) (by kernel_rfl)) (.trans (fz ⟨k398, [(0, some (.cells 137 [(.own 17 false u1.clearing.events.length), (cB u1.clearing.cleared), (cI u1.clearing.millis), (cI u1.clearing.energy), (.d (k263 u1)), (.d (k264 u1)), (.d (k265 u1)), (.d (k266 u1)), (.d (k267 u1)), (.d (k268 u1)), (.d (k269 u1)), (cI u1.p.buses), (.d (k270 u1)), (.d (k271 u1)), (.d (k272 u1)), (cI u1.bus), (.d (k273 u1 u2)), (cI u1.total), (.mp 2), (cI u1.now)])), (1, none), (k274 u1), k400, (17, some (k257 u1))]⟩ []) (Imp.fin (st' := ⟨k398, [(0, some (.cells 137 [(.own 12 false u1.clearing.events.length), (cB u1.clearing.cleared), (cI u1.clearing.millis), (cI u1.clearing.energy), (.d (k263 u1)), (.d (k264 u1)), (.d (k265 u1)), (.d (k266 u1)), (.d (k267 u1)), (.d (k268 u1)), (.d (k269 u1)), (cI u1.p.buses), (.d (k270 u1)), (.d (k271 u1)), (.d (k272 u1)), (cI u1.bus), (.d (k273 u1 u2)), (cI u1.total), (.mp 2), (cI u1.now)])), (1, none), (k274 u1), k400, (12, some (k257 u1))]⟩) (cs := []) ⟨[], [(0, 0), (1, 1), (2, 2), (10, 10), (17, 12)]⟩ [0, 2, 3] (by kernel_rfl) trivial))) ?_
  exact ⟨rfl, (by kernel_rfl)⟩
 ·clear hy
  show AWp _ _ _ _ _ _ (m_guard_machine_run_Q0 f) _
  unfold m_guard_machine_run_L0 at h
  obtain ⟨o0, o1, o2, o3, o4, o5, o6, o7, o8, o9, u3, u4, u5, u6, u7, u8, u9, v0, v1, v2, v3⟩ := s
  refine aQ (bE h fun r_ hr_ h => ?_)
  have q0 := rk [(1, 12)] (m_guard_machine_look_ok (⟨(⟨o0, o1, o2, o3, (⟨o4, o5, o6, o7, o8, o9, u3⟩ : State)⟩ : Clearing), (⟨u4, u5, u6, u7⟩ : Plant), u8, v0, v1, v2, v3⟩ : Machine) u9 hr_)
  refine rg tT ⟨k398, (k404 r_ o0)⟩ [_] { an := [(1, cA q0 [0, 12, 2])] } [] ⟨q0, trivial⟩ ?_
  refine aQ (sz tT ⟨[(0, (vP 0 0)), (2, (vP 10 0)), k399, (12, (vB (decide (r_.1.total = 0))))], (k404 r_ o0)⟩ {} [] ?_)
  refine bI h (fun hb1 h => ?_) (fun hb1 h => ?_)
  ·refine ct hb1 ?_
   refine sz tT ⟨[(0, (vP 0 0)), (2, (vP 10 0))], [(k414 r_ o0), (1, none), (k413 r_), k400, (12, some (arD 56 2 Event.cell o0))]⟩ {} [] ?_
   refine sz tT ⟨[(2, (vP 10 0))], [(k414 r_ o0), (1, none), (k413 r_), (10, some (.cells 36 [(.own 12 false o0.length), (cB true), (cI r_.1.clearing.millis), (cI r_.1.clearing.energy), (.d (k405 r_)), (.d (k406 r_)), (.d (k407 r_)), (.d (k408 r_)), (.d (k409 r_)), (.d (k410 r_)), (.d (k411 r_))])), (12, some (arD 56 2 Event.cell o0))]⟩ {} [] ?_
   refine aI (.trans (Imp.fin (st' := ⟨[(2, (vP 4 0))], [(0, some (.cells 137 [(.own 3 false o0.length), (cB true), (cI r_.1.clearing.millis), (cI r_.1.clearing.energy), (.d (k405 r_)), (.d (k406 r_)), (.d (k407 r_)), (.d (k408 r_)), (.d (k409 r_)), (.d (k410 r_)), (.d (k411 r_)), (cI r_.1.p.buses), (.d (slD none 5 Source.cell r_.1.p.sources)), (.d (slD none 6 Link.cell r_.1.p.links)), (.d (slD none 4 Rack.cell r_.1.p.racks)), (cI r_.1.bus), (.d (k412 r_)), (cI r_.1.total), (.mp 2), (cI r_.1.now)])), (1, none), (k413 r_), (3, some (arD 56 2 Event.cell o0)), (k415 r_ o0)]⟩) (cs := []) ⟨[], [(0, 0), (1, 1), (2, 2), (12, 3), (10, 4)]⟩ [2] (by kernel_rfl) trivial) (Imp.le (st' := ⟨[(2, (vP 4 0))], [(0, none), (1, none), (k413 r_), (3, some (arD 56 2 Event.cell o0)), (k415 r_ o0)]⟩) ⟨⟨tR, trivial⟩, ⟨rfl, trivial, ⟨rfl, .refl _, ⟨rfl, .refl _, ⟨rfl, .refl _, ⟨rfl, .refl _, trivial⟩⟩⟩⟩⟩⟩)) ?_
   refine aR ?_
   obtain rfl := oi h
   exact GQ_ret ret_ng ret_nn av_ret (RetQ.mk (.inr rfl) (p := []) (l := [(.agg (k416 r_ o0))]) (by kernel_rfl) trivial (TLe.refl _) ⟨rfl, trivial, ⟨rfl, trivial, ⟨rfl, .refl _, ⟨rfl, .refl _, ⟨rfl, trivial, trivial⟩⟩⟩⟩⟩)
  ·refine cf hb1 ?_
   refine aP (aQ (aQ (bE h fun u0 hr_1 h => ?_)))
   have q0 := rk [(1, 12), (3, 16)] (m_guard_machine_round_ok (⟨(k417 r_ o0), r_.1.p, r_.1.bus, r_.1.amps, r_.1.total, r_.1.since, r_.1.now⟩ : Machine) r_.2 hr_1)
   refine rg tT ⟨[(0, (vP 0 0)), (2, (vP 10 0)), k399, (22, (vB u0.1))], [(k418 u0), (1, none), (k413 r_), k400, (16, some (k427 u0))]⟩ [_] { an := [(1, cA q0 [0, 12, 2])] } [] ⟨q0, trivial⟩ ?_
   refine bI h (fun hb h => ?_) (fun hb h => ?_)
   ·refine ct hb ?_
    refine aI (Imp.fin (st' := ⟨k398, [(0, some (.cells 137 [(.own 12 false u0.2.1.clearing.events.length), (cB u0.2.1.clearing.cleared), (cI u0.2.1.clearing.millis), (cI u0.2.1.clearing.energy), (.d (k419 u0)), (.d (k420 u0)), (.d (k421 u0)), (.d (k422 u0)), (.d (k423 u0)), (.d (k424 u0)), (.d (k425 u0)), (cI u0.2.1.p.buses), (.d (slD none 5 Source.cell u0.2.1.p.sources)), (.d (slD none 6 Link.cell u0.2.1.p.links)), (.d (slD none 4 Rack.cell u0.2.1.p.racks)), (cI u0.2.1.bus), (.d (k426 u0)), (cI u0.2.1.total), (.mp 2), (cI u0.2.1.now)])), (1, none), (k413 r_), k400, (12, some (k427 u0))]⟩) (cs := []) ⟨[], [(0, 0), (1, 1), (2, 2), (10, 10), (16, 12)]⟩ [0, 2, 3] (by kernel_rfl) trivial) ?_
    refine awp_goto ?_
    obtain rfl := oi h
    exact GQ_next (by kernel_rfl)
   ·refine cf hb ?_
    refine aP (sz tT ⟨[(2, (vP 10 0))], [(k418 u0), (1, none), (k413 r_), (10, some (.cells 36 [(.own 16 false u0.2.1.clearing.events.length), (cB u0.2.1.clearing.cleared), (cI u0.2.1.clearing.millis), (cI u0.2.1.clearing.energy), (.d (k419 u0)), (.d (k420 u0)), (.d (k421 u0)), (.d (k422 u0)), (.d (k423 u0)), (.d (k424 u0)), (.d (k425 u0))])), (16, some (k427 u0))]⟩ {} [] ?_)
    refine aI (.trans (Imp.fin (st' := ⟨[(2, (vP 4 0))], [(0, some (.cells 137 [(.own 3 false u0.2.1.clearing.events.length), (cB u0.2.1.clearing.cleared), (cI u0.2.1.clearing.millis), (cI u0.2.1.clearing.energy), (.d (k419 u0)), (.d (k420 u0)), (.d (k421 u0)), (.d (k422 u0)), (.d (k423 u0)), (.d (k424 u0)), (.d (k425 u0)), (cI u0.2.1.p.buses), (.d (slD none 5 Source.cell u0.2.1.p.sources)), (.d (slD none 6 Link.cell u0.2.1.p.links)), (.d (slD none 4 Rack.cell u0.2.1.p.racks)), (cI u0.2.1.bus), (.d (k426 u0)), (cI u0.2.1.total), (.mp 2), (cI u0.2.1.now)])), (1, none), (k413 r_), (3, some (k427 u0)), (k428 u0)]⟩) (cs := []) ⟨[], [(0, 0), (1, 1), (2, 2), (16, 3), (10, 4)]⟩ [2] (by kernel_rfl) trivial) (Imp.le (st' := ⟨[(2, (vP 4 0))], [(0, none), (1, none), (k413 r_), (3, some (k427 u0)), (k428 u0)]⟩) ⟨⟨tR, trivial⟩, ⟨rfl, trivial, ⟨rfl, .refl _, ⟨rfl, .refl _, ⟨rfl, .refl _, ⟨rfl, .refl _, trivial⟩⟩⟩⟩⟩⟩)) ?_
    refine aR ?_
    obtain rfl := oi h
    exact GQ_ret ret_ng ret_nn av_ret (RetQ.mk (.inr rfl) (p := []) (l := [(.agg (k429 u0))]) (by kernel_rfl) trivial (TLe.refl _) ⟨rfl, trivial, ⟨rfl, trivial, ⟨rfl, .refl _, ⟨rfl, .refl _, ⟨rfl, trivial, trivial⟩⟩⟩⟩⟩)
 ·clear hy
  cases y with
  | brk z => exact absurd h (by simp)
  | ret v =>
   obtain rfl := oi h
   unfold ExK
   intro e st hn ha hR
   cases e with
   | normal => exact absurd rfl hn
   | exit id => exact hR
   | goto l => exact hR
   | ret => exact hR
   | panic c => exact hR
   | outgrown => exact hR
def m_kit_SameInts_R  : Bool → Exit → St → Prop :=
  fun r => RetQ TT [.tmp 4] (vB r) []
def m_kit_SameInts_S0 (a : (List Int)) (b : (List Int)) : Int → St :=
  fun i => ⟨[(k133 a), (k135 b), (5, (vI i))], []⟩
def m_kit_SameInts_B0  : Unit → St :=
  fun _ => ⟨[], []⟩
def m_kit_SameInts_Q0 (a : (List Int)) (b : (List Int)) : (Flow Int (Ex Unit Bool)) → Exit → St → Prop :=
  LQ 0 [] (m_kit_SameInts_S0 a b) m_kit_SameInts_B0 m_kit_SameInts_R
theorem m_kit_SameInts_ok (a : (List Int)) (b : (List Int)) {r : Bool} (h : m_kit_SameInts a b = some r) : Fn Try.prog 54 [(sD (k134 a)), (sD (k134 b))] [] (vB r) [] := by
 refine fN tT Try.func54 rfl rfl fun B => ?_
 show AWp _ _ _ _ _ _ (m_kit_SameInts_R r) _
 unfold m_kit_SameInts at h
 refine sz tT (k138 a b) {} [] ?_
 refine aQ (sz tT ⟨[(k133 a), (k135 b), (10, (vB (!decide ((a.length : Int) = (b.length : Int)))))], []⟩ {} [] ?_)
 refine bI h (fun hb2 h => ?_) (fun hb2 h => ?_)
 ·refine ct hb2 ?_
  refine sz tT ⟨[(4, (vB false))], []⟩ {} [] ?_
  refine aR ?_
  obtain rfl := oi h
  exact rq [(sB false)] (.refl _)
 ·refine cf hb2 ?_
  refine aP (aQ (sz tT ⟨[(k133 a), (k135 b), (5, (vI 0))], []⟩ {} [] ?_))
  refine bE h fun y hy h => ?_
  refine aL [] (m_kit_SameInts_S0 a b) m_kit_SameInts_B0 m_kit_SameInts_R hy (fun s f h => ?_) ?_
  ·clear hy
   show AWp _ _ _ _ _ _ ((m_kit_SameInts_Q0 a b) f) _
   unfold m_kit_SameInts_L0 at h
   obtain ⟨i, rfl⟩ : ∃ q, q = s := ⟨_, rfl⟩
   refine aQ (sz tT ⟨[(k133 a), (k135 b), (5, (vI i)), (14, (k139 i a))], []⟩ {} [] ?_)
   refine bI h (fun hb1 h => ?_) (fun hb1 h => ?_)
   ·refine ct hb1 ?_
    refine aP (aQ (aB (aQ (aO h fun ⟨a1, a2⟩ h => ?_))))
    refine dg tT mX ⟨[(k133 a), (k135 b), (5, (vI i)), (25, (vB (!decide ((at' a i.toNat) = (at' b i.toNat)))))], []⟩ [_, _] {} [] ⟨a1, a2, trivial⟩ ?_
    refine bI h (fun hb h => ?_) (fun hb h => ?_)
    ·refine ct hb ?_
     refine sz tT ⟨[(4, (vB false))], []⟩ {} [] ?_
     refine aR ?_
     obtain rfl := oi h
     exact lR ret_nn (ret_ne 0) av_ret (RetQ.mk (.inr rfl) (p := []) (l := [(sB false)]) (by kernel_rfl) trivial (TLe.refl _) trivial)
    ·refine cf hb ?_
     refine aP (rz tT ⟨[(k133 a), (k135 b), (5, (k30 i))], []⟩ {} [] ?_)
     obtain rfl := oi h
     exact lN (by kernel_rfl)
   ·refine cf hb1 ?_
    refine aI (fz ⟨[], []⟩ []) ?_
    refine aX ?_
    obtain rfl := oi h
    exact lB (by kernel_rfl)
  ·clear hy
   cases y with
   | brk z =>
    unfold ExK
    refine ⟨_, .refl, ?_⟩
    refine sz tT ⟨[(4, (vB true))], []⟩ {} [] ?_
    refine aR ?_
    obtain rfl := oi h
    exact rq [(sB true)] (.refl _)
   | ret v =>
    obtain rfl := oi h
    unfold ExK
    intro e st hn ha hR
    cases e with
    | normal => exact absurd rfl hn
    | exit id => exact hR
    | goto l => exact hR
    | ret => exact hR
    | panic c => exact hR
    | outgrown => exact hR
def m_guard_Clear_v1_R  : (Clearing × Int) → Exit → St → Prop :=
  fun r => RetQ TT [.cell 6 36, .tmp 7] (.tup [(.agg [(.own 0 false r.1.events.length), (cB r.1.cleared), (cI r.1.millis), (cI r.1.energy), (.d (slD none 1 boolC r.1.state.closed)), (.d (slD none 1 boolC r.1.state.locked)), (.d (slD none 1 boolC r.1.state.badLink)), (.d (slD none 1 boolC r.1.state.on_)), (.d (slD none 1 boolC r.1.state.badSource)), (.d (slD none 1 boolC r.1.state.earthed)), (.d (slD none 1 boolC r.1.state.badBus))]), (sI r.2)]) [(0, some (arD 56 2 Event.cell r.1.events)), (1, none)]
section
variable (p : Plant) (u1 : State) (u2 : Int) (u0 : (Clearing × (List (Int × Int))))
abbrev k430 : List (Nat × Option Ob) := [(8, some (k93 p)), k400]
abbrev k431 : List (Nat × Option Ob) := [k400]
abbrev k432 : List (Nat × Option Ob) := [(0, some (.arr 56 2 0 (elOf Event.cell ([] : List Event)))), (1, some (.cells 36 [(.own 0 false 0), (cB false), (cI 0), (cI 0), (.d nS), (.d nS), (.d nS), (.d nS), (.d nS), (.d nS), (.d nS)]))]
abbrev k434 : Ob := (arD 56 2 Event.cell ([] : List Event))
abbrev k436 : DV := (slD none 1 boolC ([] : List Bool))
abbrev k435 : List CV := [(.own 0 false (([] : List Event).length)), (cB false), (cI 0), (cI 0), (.d k436), (.d k436), (.d k436), (.d k436), (.d k436), (.d k436), (.d k436)]
abbrev k433 : List (Nat × Option Ob) := [(0, some k434), (1, some (.cells 36 k435))]
abbrev k438 : Ob := (mpD 3 3 false false 1 1 (intC .i64) (intC .i64) ([] : (List (Int × Int))))
abbrev k437 : Nat × Option Ob := (13, some k438)
abbrev k439 : List CV := [(.d nS), (cB false), (cI 0), (cI 0), (.d (k75 u1)), (.d (k76 u1)), (.d (k77 u1)), (.d (k78 u1)), (.d (k79 u1)), (.d (k80 u1)), (.d (k81 u1)), (cI p.buses), (.d (k2 p)), (.d (k3 p)), (.d (k4 p)), (cI u2), (.d nS), (cI 0), (.mp 13), (cI 0)]
abbrev k440 : Nat × Option Ob := (14, some (.cells 137 [(.own 15 false (([] : List Event).length)), (cB false), (cI 0), (cI 0), (.d (k75 u1)), (.d (k76 u1)), (.d (k77 u1)), (.d (k78 u1)), (.d (k79 u1)), (.d (k80 u1)), (.d (k81 u1)), (cI p.buses), (.d (k2 p)), (.d (k3 p)), (.d (k4 p)), (cI u2), (.d nS), (cI 0), (.mp 13), (cI 0)]))
abbrev k441 : Nat × Option Ob := (15, some k434)
abbrev k443 : DV := (slD none 1 boolC u0.1.state.badSource)
abbrev k442 : List CV := [(.own 16 false u0.1.events.length), (cB u0.1.cleared), (cI u0.1.millis), (cI u0.1.energy), (.d (slD none 1 boolC u0.1.state.closed)), (.d (slD none 1 boolC u0.1.state.locked)), (.d (slD none 1 boolC u0.1.state.badLink)), (.d (slD none 1 boolC u0.1.state.on_)), (.d (k443 u0)), (.d (slD none 1 boolC u0.1.state.earthed)), (.d (slD none 1 boolC u0.1.state.badBus))]
abbrev k444 : TV := (.v (.agg (k442 u0)))
abbrev k445 : List (Nat × Option Ob) := [(14, none), (15, none), (13, some (mpD 3 3 false false 1 1 (intC .i64) (intC .i64) u0.2)), (16, some (arD 56 2 Event.cell u0.1.events)), (17, none)]
abbrev k446 := (⟨(⟨([] : List Event), false, 0, 0, u1⟩ : Clearing), p, u2, ([] : List Int), 0, ([] : (List (Int × Int))), 0⟩ : Machine)
abbrev k447 : List CV := [(.own 0 false u0.1.events.length), (cB u0.1.cleared), (cI u0.1.millis), (cI u0.1.energy), (.d (slD none 1 boolC u0.1.state.closed)), (.d (slD none 1 boolC u0.1.state.locked)), (.d (slD none 1 boolC u0.1.state.badLink)), (.d (slD none 1 boolC u0.1.state.on_)), (.d (k443 u0)), (.d (slD none 1 boolC u0.1.state.earthed)), (.d (slD none 1 boolC u0.1.state.badBus))]
end
theorem m_guard_Clear_v1_ok (p : Plant) (s_ : State) (u2 : Int) {r : (Clearing × Int)} (h : m_guard_Clear p s_ u2 = some r) : Fn Try.prog 15 (k117 p s_ u2) [] (.tup [(.agg [(.own 0 false r.1.events.length), (cB r.1.cleared), (cI r.1.millis), (cI r.1.energy), (.d (slD none 1 boolC r.1.state.closed)), (.d (slD none 1 boolC r.1.state.locked)), (.d (slD none 1 boolC r.1.state.badLink)), (.d (slD none 1 boolC r.1.state.on_)), (.d (slD none 1 boolC r.1.state.badSource)), (.d (slD none 1 boolC r.1.state.earthed)), (.d (slD none 1 boolC r.1.state.badBus))]), (sI r.2)]) [(0, some (arD 56 2 Event.cell r.1.events)), (1, none)] := by
 refine fN tT Try.func15 rfl rfl fun B => ?_
 show AWp _ _ _ _ _ _ (m_guard_Clear_v1_R r) _
 unfold m_guard_Clear at h
 refine sz tT ⟨[(2, (vI u2)), (3, (vP 8 0)), (k120 s_), (6, (vP 10 0))], (k430 p)⟩ { fr := [(0, 8), (1, 9), (2, 10)] } [9] ?_
 refine aQ (aQ (bE h fun r_ hr_ h => ?_))
 have q0 := m_plant_CheckState_ok p s_ hr_
 refine rg tT ⟨[(2, (vI u2)), (3, (vP 8 0)), (k120 s_), (6, (vP 10 0)), (8, (vI r_))], (k430 p)⟩ [_] { an := [(2, cA q0 [])] } [] ⟨q0, trivial⟩ ?_
 refine sz tT ⟨[(2, (vI u2)), (3, (vP 8 0)), (k120 s_), (6, (vP 10 0)), (8, (vI r_)), (14, (vB (!decide (r_ = 0))))], (k430 p)⟩ {} [] ?_
 refine bI h (fun hb1 h => ?_) (fun hb1 h => ?_)
 ·refine ct hb1 ?_
  refine sz tT ⟨[(6, (vP 10 0)), (7, (vI r_))], k431⟩ {} [] ?_
  refine aI (.trans (Imp.adoptC (E := 0) (esz := 0) (E0 := 36) (cs := k402) (p := 10) (q := 0) (b := 11) (esz0 := 0) (el0 := fun _ _ => .nilp) (ob := .arr 56 2 0 (elOf Event.cell ([] : List Event))) (fun _ _ _ _ h => .inl ⟨h, rfl⟩) (by kernel_rfl) (by kernel_rfl) (by kernel_rfl)) (.trans (fz ⟨[(6, (vP 10 0)), (7, (vI r_))], [(10, some (.cells 36 [(.own 11 false 0), (cB false), (cI 0), (cI 0), (.d nS), (.d nS), (.d nS), (.d nS), (.d nS), (.d nS), (.d nS)])), (11, some (.arr 56 2 0 (elOf Event.cell ([] : List Event))))]⟩ []) (.trans (Imp.fin (st' := ⟨[(6, (vP 1 0)), (7, (vI r_))], k432⟩) (cs := []) ⟨[], [(11, 0), (10, 1)]⟩ [6, 7] (by kernel_rfl) trivial) (Imp.le (st' := ⟨[(6, (vP 1 0)), (7, (vI r_))], k433⟩) ⟨⟨tR, tR, trivial⟩, ⟨rfl, oW, ⟨rfl, OLe_cells ⟨cW, CLe.refl _, CLe.refl _, CLe.refl _, CLe.d DLe.nil', CLe.d DLe.nil', CLe.d DLe.nil', CLe.d DLe.nil', CLe.d DLe.nil', CLe.d DLe.nil', CLe.d DLe.nil', trivial⟩, trivial⟩⟩⟩)))) ?_
  refine aR ?_
  obtain rfl := oi h
  exact rh [(.agg k435), (sI r_)] (.refl _) ⟨rfl, .refl _, ⟨rfl, trivial, trivial⟩⟩
 ·refine cf hb1 ?_
  refine aP (aQ (sg tT ⟨[(2, (vI u2)), (3, (vP 8 0)), (k120 s_), (6, (vP 10 0)), (24, (vB (bif (decide (u2 < 0)) then true else (decide (p.buses ≤ u2)))))], (k430 p)⟩ (eqs (decide (u2 < 0)) 5 []) { yb := [(2, (decide (u2 < 0)))] } [] (ae trivial) ?_))
  refine bI h (fun hb h => ?_) (fun hb h => ?_)
  ·refine ct hb ?_
   refine sz tT ⟨[(6, (vP 10 0)), (7, (vI 1))], k431⟩ {} [] ?_
   refine aI (.trans (Imp.adoptC (E := 0) (esz := 0) (E0 := 36) (cs := k402) (p := 10) (q := 0) (b := 12) (esz0 := 0) (el0 := fun _ _ => .nilp) (ob := .arr 56 2 0 (elOf Event.cell ([] : List Event))) (fun _ _ _ _ h => .inl ⟨h, rfl⟩) (by kernel_rfl) (by kernel_rfl) (by kernel_rfl)) (.trans (fz ⟨[(6, (vP 10 0)), (7, (vI 1))], [(10, some (.cells 36 [(.own 12 false 0), (cB false), (cI 0), (cI 0), (.d nS), (.d nS), (.d nS), (.d nS), (.d nS), (.d nS), (.d nS)])), (12, some (.arr 56 2 0 (elOf Event.cell ([] : List Event))))]⟩ []) (.trans (Imp.fin (st' := ⟨[(6, (vP 1 0)), (7, (vI 1))], k432⟩) (cs := []) ⟨[], [(12, 0), (10, 1)]⟩ [6, 7] (by kernel_rfl) trivial) (Imp.le (st' := ⟨[(6, (vP 1 0)), (7, (vI 1))], k433⟩) ⟨⟨tR, tR, trivial⟩, ⟨rfl, oW, ⟨rfl, OLe_cells ⟨cW, CLe.refl _, CLe.refl _, CLe.refl _, CLe.d DLe.nil', CLe.d DLe.nil', CLe.d DLe.nil', CLe.d DLe.nil', CLe.d DLe.nil', CLe.d DLe.nil', CLe.d DLe.nil', trivial⟩, trivial⟩⟩⟩)))) ?_
   refine aR ?_
   obtain rfl := oi h
   exact rh [(.agg k435), (sI 1)] (.refl _) ⟨rfl, .refl _, ⟨rfl, trivial, trivial⟩⟩
  ·refine cf hb ?_
   refine aP (aQ (bE h fun u1 hr_1 h => ?_))
   have q0 := m_guard_copied_ok s_ hr_1
   refine di tT mX ⟨[(6, (vP 10 0)), (9, (vP 14 0))], [k400, k437, (14, some (.cells 137 (k439 p u1 u2)))]⟩ [_] { an := [(1, cA q0 []), (5, .map 0 (kOf (intC .i64) ([] : (List (Int × Int)))) (vOf (intC .i64) ([] : (List (Int × Int)))) [])], fr := [(5, 13), (7, 14)] } [] ⟨q0, trivial⟩ (.trans (Imp.adoptC (E := 0) (esz := 0) (E0 := 137) (cs := (k439 p u1 u2)) (p := 14) (q := 0) (b := 15) (esz0 := 0) (el0 := fun _ _ => .nilp) (ob := .arr 56 2 0 (elOf Event.cell ([] : List Event))) (fun _ _ _ _ h => .inl ⟨h, rfl⟩) (by kernel_rfl) (by kernel_rfl) (by kernel_rfl)) (.trans (fz ⟨[(6, (vP 10 0)), (9, (vP 14 0))], [k400, k437, (14, some (.cells 137 [(.own 15 false 0), (cB false), (cI 0), (cI 0), (.d (k75 u1)), (.d (k76 u1)), (.d (k77 u1)), (.d (k78 u1)), (.d (k79 u1)), (.d (k80 u1)), (.d (k81 u1)), (cI p.buses), (.d (k2 p)), (.d (k3 p)), (.d (k4 p)), (cI u2), (.d nS), (cI 0), (.mp 13), (cI 0)])), (15, some (.arr 56 2 0 (elOf Event.cell ([] : List Event))))]⟩ []) (Imp.le (st' := ⟨[(6, (vP 10 0)), (9, (vP 14 0))], [k400, k437, (k440 p u1 u2), k441]⟩) ⟨⟨tR, tR, trivial⟩, ⟨rfl, .refl _, ⟨rfl, .refl _, ⟨rfl, OLe_cells ⟨cW, CLe.refl _, CLe.refl _, CLe.refl _, CLe.refl _, CLe.refl _, CLe.refl _, CLe.refl _, CLe.refl _, CLe.refl _, CLe.refl _, CLe.refl _, CLe.refl _, CLe.refl _, CLe.refl _, CLe.refl _, CLe.refl _, CLe.refl _, CLe.refl _, CLe.refl _, trivial⟩, ⟨rfl, oW, trivial⟩⟩⟩⟩⟩))) ?_
   refine aQ (bE h fun u0 hr_2 h => ?_)
   refine rg tT ⟨[(6, (vP 10 0)), (7, (vI 0))], [(10, some (.cells 36 (k442 u0))), (16, some (arD 56 2 Event.cell u0.1.events))]⟩ [Fn Try.prog 63 [(.one (.ptr 14 0))] [(k440 p u1 u2), k441, k437] (k444 u0) (k445 u0)] { an := [(1, .call [14, 15, 13] (k444 u0) (k445 u0))] } [] ⟨(Fn.leH (args := [(.one (.ptr 14 0))]) (hin := [(14, some (.cells 137 [(.own 15 false (([] : List Event).length)), (cB false), (cI 0), (cI 0), (.d (k75 u1)), (.d (k76 u1)), (.d (k77 u1)), (.d (k78 u1)), (.d (k79 u1)), (.d (k80 u1)), (.d (k81 u1)), (cI p.buses), (.d (k2 p)), (.d (k3 p)), (.d (k4 p)), (cI u2), (.d k240), (cI 0), (.mp 13), (cI 0)])), k441, k437]) (Fn.renK [(0, 14), (1, 15), (2, 13), (3, 16), (4, 17)] (m_guard_machine_run_ok (k446 p u1 u2) false hr_2) (by kernel_rfl) (by kernel_rfl) (by kernel_rfl) (by kernel_rfl)) ⟨SLe.refl _, trivial⟩ ⟨rfl, OLe_cells ⟨CLe.refl _, CLe.refl _, CLe.refl _, CLe.refl _, CLe.refl _, CLe.refl _, CLe.refl _, CLe.refl _, CLe.refl _, CLe.refl _, CLe.refl _, CLe.refl _, CLe.refl _, CLe.refl _, CLe.refl _, CLe.refl _, CLe.d DLe.nilSl, CLe.refl _, CLe.refl _, CLe.refl _, trivial⟩, ⟨rfl, .refl _, ⟨rfl, .refl _, trivial⟩⟩⟩), trivial⟩ ?_
   refine aI (Imp.fin (st' := ⟨[(6, (vP 1 0)), (7, (vI 0))], [(0, some (arD 56 2 Event.cell u0.1.events)), (1, some (.cells 36 (k447 u0)))]⟩) (cs := []) ⟨[], [(16, 0), (10, 1)]⟩ [6, 7] (by kernel_rfl) trivial) ?_
   refine aR ?_
   obtain rfl := oi h
   exact rh [(.agg (k447 u0)), (sI 0)] (.refl _) ⟨rfl, .refl _, ⟨rfl, trivial, trivial⟩⟩
def m_guard_near_R  : Bool → Exit → St → Prop :=
  fun r => RetQ TT [.tmp 6] (vB r) []
section
variable (p : Plant) (i : Int) (u0 : Int)
abbrev k449 := (decide (((at' p.links i.toNat).a) = u0))
abbrev k448 := (bif (k449 p i u0) then true else (decide (((at' p.links i.toNat).b) = u0)))
end
theorem m_guard_near_ok (p : Plant) (i : Int) (u0 : Int) {r : Bool} (h : m_guard_near p i u0 = some r) : Fn Try.prog 103 [(.agg (k1 p)), (sI i), (sI u0)] [] (vB r) [] := by
 refine fN tT Try.func103 rfl rfl fun B => ?_
 show AWp _ _ _ _ _ _ (m_guard_near_R r) _
 unfold m_guard_near at h
 refine sz tT ⟨[(1, (vI i)), (2, (vI u0)), (k119 p)], []⟩ { fr := [(0, 1)] } [1] ?_
 refine aQ (aO h fun ⟨a1, a2⟩ h => ?_)
 refine rg tT ⟨[(6, (vB (k448 p i u0)))], []⟩ (_ :: (eqs (k449 p i u0) 4 ((gP (ybf [(8, (k449 p i u0))]) [(8, false)] → All [(0 : Int) ≤ i ∧ i < (p.links.length : Int)]) :: (eqs (k449 p i u0) 5 [])))) { yb := [(8, (k449 p i u0))] } [] ⟨a1, (ae ⟨(fun hg => ⟨(a2 (gB_of hg)), trivial⟩), (ae trivial)⟩)⟩ ?_
 refine aR ?_
 obtain rfl := oi h
 exact rq [(sB (k448 p i u0))] (.refl _)
def m_guard_Selective_1_R  : Bool → Exit → St → Prop :=
  fun r => RetQ TT [.tmp 4] (vB r) []
theorem m_guard_Selective_1_ok (x : Event) (x1 : Int) (u0 : (List Source)) (u1 : (List Link)) (u2 : (List Rack)) (x2 : Int) {r : Bool} (h : m_guard_Selective_1 x x1 u0 u1 u2 x2 = some r) : Fn Try.prog 102 [(.agg [(cI x.millis), (cI x.link)]), (sD (k10 x1 u0 u1 u2)), (sD (ipT [(.int .i64 x2)] 0))] [] (vB r) [] := by
 refine fN tT Try.func102 rfl rfl fun B => ?_
 show AWp _ _ _ _ _ _ (m_guard_Selective_1_R r) _
 unfold m_guard_Selective_1 at h
 refine sz tT ⟨[(k11 x1 u0 u1 u2), (2, (vD (ipT [(.int .i64 x2)] 0))), (3, (vD (ipT [(.int .i64 x.millis), (.int .i64 x.link)] 0)))], []⟩ { fr := [(0, 1)] } [1] ?_
 refine aQ (bE h fun r_ hr_ h => ?_)
 have q0 := m_guard_near_ok (⟨x1, u0, u1, u2⟩ : Plant) x.link x2 hr_
 refine rg tT ⟨[(4, (vB (!r_)))], []⟩ [_] { an := [(4, cA q0 [])] } [] ⟨q0, trivial⟩ ?_
 refine aR ?_
 obtain rfl := oi h
 exact rq [(sB (!r_))] (.refl _)
def m_slices_IndexFunc143_R  : Int → Exit → St → Prop :=
  fun r => RetQ TT [.tmp 4] (vI r) []
section
variable (s_ : (List Event)) (f_ : Int) (u0 : (List Source)) (u1 : (List Link)) (u2 : (List Rack)) (u3 : Int)
abbrev k450 : Nat × TV := (0, (vD (slD none 2 Event.cell s_)))
abbrev k452 := (capF [(k10 f_ u0 u1 u2), (ipT [(.int .i64 u3)] 0)])
abbrev k451 : Nat × TV := (1, (vD (.fn 102 2 (k452 f_ u0 u1 u2 u3))))
abbrev k453 : Nat × TV := (7, (vI (s_.length : Int)))
end
def m_slices_IndexFunc143_S0 (s_ : (List Event)) (f_ : Int) (u0 : (List Source)) (u1 : (List Link)) (u2 : (List Rack)) (u3 : Int) : Int → St :=
  fun t8 => ⟨[(k450 s_), (k451 f_ u0 u1 u2 u3), (k453 s_), (8, (vI t8))], []⟩
def m_slices_IndexFunc143_B0  : Unit → St :=
  fun _ => ⟨[], []⟩
def m_slices_IndexFunc143_Q0 (s_ : (List Event)) (f_ : Int) (u0 : (List Source)) (u1 : (List Link)) (u2 : (List Rack)) (u3 : Int) : (Flow Int (Ex Unit Int)) → Exit → St → Prop :=
  LQ 0 [] (m_slices_IndexFunc143_S0 s_ f_ u0 u1 u2 u3) m_slices_IndexFunc143_B0 m_slices_IndexFunc143_R
section
variable (s_ : (List Event)) (f_ : Int) (u0 : (List Source)) (u1 : (List Link)) (u2 : (List Rack)) (u3 : Int)
abbrev k454 : List SV := [(sD (slD none 2 Event.cell s_)), (sD (.fn 102 2 (k452 f_ u0 u1 u2 u3)))]
abbrev k455 : St := ⟨[(k450 s_), (k451 f_ u0 u1 u2 u3)], []⟩
end
theorem m_slices_IndexFunc143_ok (s_ : (List Event)) (f_ : Int) (u0 : (List Source)) (u1 : (List Link)) (u2 : (List Rack)) (u3 : Int) {r : Int} (h : m_slices_IndexFunc143 s_ f_ u0 u1 u2 u3 = some r) : Fn Try.prog 143 (k454 s_ f_ u0 u1 u2 u3) [] (vI r) [] := by
 refine fN tT Try.func143 rfl rfl fun B => ?_
 show AWp _ _ _ _ _ _ (m_slices_IndexFunc143_R r) _
 unfold m_slices_IndexFunc143 at h
 refine sz tT (k455 s_ f_ u0 u1 u2 u3) {} [] ?_
 refine aQ (sz tT ⟨[(k450 s_), (k451 f_ u0 u1 u2 u3), (k453 s_), (8, (vI 0))], []⟩ {} [] ?_)
 refine bE h fun y hy h => ?_
 refine aL [] (m_slices_IndexFunc143_S0 s_ f_ u0 u1 u2 u3) m_slices_IndexFunc143_B0 m_slices_IndexFunc143_R hy (fun s f h => ?_) ?_
 ·clear hy
  show AWp _ _ _ _ _ _ ((m_slices_IndexFunc143_Q0 s_ f_ u0 u1 u2 u3) f) _
  unfold m_slices_IndexFunc143_L0 at h
  obtain ⟨t8, rfl⟩ : ∃ q, q = s := ⟨_, rfl⟩
  refine sz tT ⟨[(k450 s_), (k451 f_ u0 u1 u2 u3), (k453 s_), (8, (vI t8)), (9, (vB (decide (t8 < (s_.length : Int)))))], []⟩ {} [] ?_
  refine aQ ?_
  refine bI h (fun hb1 h => ?_) (fun hb1 h => ?_)
  ·refine ct hb1 ?_
   refine aP (aQ (aB (sz tT ⟨[(k450 s_), (k451 f_ u0 u1 u2 u3), (5, (vI t8)), (k453 s_), (8, (vI t8))], []⟩ {} [] ?_)))
   refine aQ (bE h fun r_ hr_ h => ?_)
   refine aO h fun a1 h => ?_
   have q1 := m_guard_Selective_1_ok (at' s_ t8.toNat) f_ u0 u1 u2 u3 hr_
   refine rg tT ⟨[(k450 s_), (k451 f_ u0 u1 u2 u3), (5, (vI t8)), (k453 s_), (8, (vI t8)), (16, (vB r_))], []⟩ [_, _] { an := [(5, cA q1 [])] } [] ⟨a1, q1, trivial⟩ ?_
   refine bI h (fun hb h => ?_) (fun hb h => ?_)
   ·refine ct hb ?_
    refine sz tT ⟨[(4, (vI t8))], []⟩ {} [] ?_
    refine aR ?_
    obtain rfl := oi h
    exact lR ret_nn (ret_ne 0) av_ret (RetQ.mk (.inr rfl) (p := []) (l := [(sI t8)]) (by kernel_rfl) trivial (TLe.refl _) trivial)
   ·refine cf hb ?_
    refine aP (rz tT ⟨[(k450 s_), (k451 f_ u0 u1 u2 u3), (k453 s_), (k29 t8)], []⟩ {} [] ?_)
    obtain rfl := oi h
    exact lN (by kernel_rfl)
  ·refine cf hb1 ?_
   refine aI (fz ⟨[], []⟩ []) ?_
   refine aX ?_
   obtain rfl := oi h
   exact lB (by kernel_rfl)
 ·clear hy
  cases y with
  | brk z =>
   unfold ExK
   refine ⟨_, .refl, ?_⟩
   refine sz tT ⟨[(4, (vI (-1)))], []⟩ {} [] ?_
   refine aR ?_
   obtain rfl := oi h
   exact rq [(sI (-1))] (.refl _)
  | ret v =>
   obtain rfl := oi h
   unfold ExK
   intro e st hn ha hR
   cases e with
   | normal => exact absurd rfl hn
   | exit id => exact hR
   | goto l => exact hR
   | ret => exact hR
   | panic c => exact hR
   | outgrown => exact hR
def m_slices_ContainsFunc101_R  : Bool → Exit → St → Prop :=
  fun r => RetQ TT [.tmp 4] (vB r) []
theorem m_slices_ContainsFunc101_ok (s_ : (List Event)) (f_ : Int) (u0 : (List Source)) (u1 : (List Link)) (u2 : (List Rack)) (u3 : Int) {r : Bool} (h : m_slices_ContainsFunc101 s_ f_ u0 u1 u2 u3 = some r) : Fn Try.prog 101 (k454 s_ f_ u0 u1 u2 u3) [] (vB r) [] := by
 refine fN tT Try.func101 rfl rfl fun B => ?_
 show AWp _ _ _ _ _ _ (m_slices_ContainsFunc101_R r) _
 unfold m_slices_ContainsFunc101 at h
 refine sz tT (k455 s_ f_ u0 u1 u2 u3) {} [] ?_
 refine aQ (bE h fun r_ hr_ h => ?_)
 have q0 := m_slices_IndexFunc143_ok s_ f_ u0 u1 u2 u3 hr_
 refine rg tT (k31 r_) [_] { an := [(2, cA q0 [])] } [] ⟨q0, trivial⟩ ?_
 refine aR ?_
 obtain rfl := oi h
 exact rq [(sB (decide (0 ≤ r_)))] (.refl _)
def m_guard_Selective_R  : (Bool × Int) → Exit → St → Prop :=
  fun r => RetQ TT [.tmp 6, .tmp 7] (.tup [(sB r.1), (sI r.2)]) []
section
variable (r_ : (Clearing × Int))
abbrev k457 : DV := (slD none 1 boolC r_.1.state.badSource)
abbrev k456 : Ob := (.cells 36 [(.d (slD none 2 Event.cell r_.1.events)), (cB r_.1.cleared), (cI r_.1.millis), (cI r_.1.energy), (.d (slD none 1 boolC r_.1.state.closed)), (.d (slD none 1 boolC r_.1.state.locked)), (.d (slD none 1 boolC r_.1.state.badLink)), (.d (slD none 1 boolC r_.1.state.on_)), (.d (k457 r_)), (.d (slD none 1 boolC r_.1.state.earthed)), (.d (slD none 1 boolC r_.1.state.badBus))])
abbrev k459 : TV := (vD (ipT [(slD none 2 Event.cell r_.1.events), (.bool r_.1.cleared), (.int .i64 r_.1.millis), (.int .i64 r_.1.energy), (slD none 1 boolC r_.1.state.closed), (slD none 1 boolC r_.1.state.locked), (slD none 1 boolC r_.1.state.badLink), (slD none 1 boolC r_.1.state.on_), (k457 r_), (slD none 1 boolC r_.1.state.earthed), (slD none 1 boolC r_.1.state.badBus)] 0))
abbrev k458 : Nat × TV := (8, (k459 r_))
end
theorem m_guard_Selective_ok (p : Plant) (s_ : State) (u0 : Int) {r : (Bool × Int)} (h : m_guard_Selective p s_ u0 = some r) : Fn Try.prog 60 (k117 p s_ u0) [] (.tup [(sB r.1), (sI r.2)]) [] := by
 refine fN tT Try.func60 rfl rfl fun B => ?_
 show AWp _ _ _ _ _ _ (m_guard_Selective_R r) _
 unfold m_guard_Selective at h
 refine sz tT ⟨[(k119 p), (k120 s_), (5, (vD (ipT [(.int .i64 u0)] 0)))], []⟩ { fr := [(0, 6), (1, 7), (2, 8)] } [6, 7, 8] ?_
 refine aQ (bE h fun r_ hr_ h => ?_)
 have q0 := rk [(0, 9), (1, 10)] (m_guard_Clear_v1_ok p s_ u0 hr_)
 refine ri tT ⟨[(k119 p), (5, (vD (ipT [(.int .i64 u0)] 0))), (8, (vP 11 0)), (9, (vI r_.2))], [(11, some (k456 r_))]⟩ [_, r_.1.events.length = r_.1.events.length] { an := [(3, cA q0 [])], fr := [(7, 11)] } [9] ⟨q0, rfl, trivial⟩ (fz ⟨[(k119 p), (5, (vD (ipT [(.int .i64 u0)] 0))), (k458 r_), (9, (vI r_.2))], []⟩ [11]) ?_
 refine aQ (sz tT ⟨[(k119 p), (5, (vD (ipT [(.int .i64 u0)] 0))), (k458 r_), (9, (vI r_.2)), (18, (vB (!decide (r_.2 = 0))))], []⟩ {} [] ?_)
 refine bI h (fun hb h => ?_) (fun hb h => ?_)
 ·refine ct hb ?_
  refine sz tT ⟨[(6, (vB false)), (7, (vI r_.2))], []⟩ {} [] ?_
  refine aR ?_
  obtain rfl := oi h
  exact rq [(sB false), (sI r_.2)] (.refl _)
 ·refine cf hb ?_
  refine aP (aQ (bE h fun u1 hr_1 h => ?_))
  refine rg tT ⟨[(6, (vB (bif r_.1.cleared then (!u1) else false))), (7, (vI 0))], []⟩ (eqs r_.1.cleared 4 ((gP (ybf [(2, r_.1.cleared)]) [(2, true)] → All [Fn Try.prog 101 [(sD (slD none 2 Event.cell r_.1.events)), (sD (.fn 102 2 (capF [(k8 p), (ipT [(.int .i64 u0)] 0)])))] [] (vB u1) []]) :: (eqs r_.1.cleared 2 []))) { yb := [(2, r_.1.cleared)], an := [(6, .call [] (vB u1) [])] } [] (ae ⟨(fun hg => ⟨(m_slices_ContainsFunc101_ok r_.1.events p.buses p.sources p.links p.racks u0 (gcall hr_1 (gB_of hg))), trivial⟩), (ae trivial)⟩) ?_
  refine aR ?_
  obtain rfl := oi h
  exact rq [(sB (bif r_.1.cleared then (!u1) else false)), (sI 0)] (.refl _)
def m_plant_copied_v1_R  : State → Exit → St → Prop :=
  fun r => RetQ TT [.cell 2 29] (.v (.agg [(.own 0 false r.closed.length), (.own 1 false r.locked.length), (.own 2 false r.badLink.length), (.own 3 false r.on_.length), (.own 4 false r.badSource.length), (.own 5 false r.earthed.length), (.own 6 false r.badBus.length)])) [(0, some (arD 4 1 boolC r.closed)), (1, some (arD 4 1 boolC r.locked)), (2, some (arD 4 1 boolC r.badLink)), (3, some (arD 4 1 boolC r.on_)), (4, some (arD 4 1 boolC r.badSource)), (5, some (arD 4 1 boolC r.earthed)), (6, some (arD 4 1 boolC r.badBus)), (7, none)]
section
variable (s_ : State) (r_ : (List Bool)) (u0 : (List Bool)) (u1 : (List Bool)) (u2 : (List Bool)) (u3 : (List Bool)) (u4 : (List Bool)) (u5 : (List Bool))
abbrev k460 : Nat × Option Ob := (10, some (k100 s_))
abbrev k461 : Nat × Option Ob := (11, some k113)
abbrev k462 : List (Nat × TV) := [(1, (vP 10 0)), (2, (vP 11 0)), (12, (vO 12 true 7)), (13, (vI (7 : Int))), (14, (vI 0))]
abbrev k464 : Nat × Option Ob := (12, some (.cells 243 [(.ptr 10 0), (.ptr 10 1), (.ptr 10 2), (.ptr 10 3), (.ptr 10 4), (.ptr 10 5), (.ptr 10 6)]))
abbrev k463 : List (Nat × Option Ob) := [(k460 s_), k461, k464]
abbrev k466 : Nat × Option Ob := (13, some (arD 4 1 boolC r_))
abbrev k465 : List (Nat × Option Ob) := [(10, some (.cells 29 [(.own 13 false r_.length), (.d (k76 s_)), (.d (k77 s_)), (.d (k78 s_)), (.d (k79 s_)), (.d (k80 s_)), (.d (k81 s_))])), k461, k464, (k466 r_)]
abbrev k467 : List (Nat × TV) := [(1, (vP 10 0)), (2, (vP 11 0)), (12, (vO 12 true 7)), (13, (vI (7 : Int))), (14, (vI 1))]
abbrev k469 : Nat × Option Ob := (14, some (arD 4 1 boolC u0))
abbrev k468 : List (Nat × Option Ob) := [(10, some (.cells 29 [(.own 13 false r_.length), (.own 14 false u0.length), (.d (k77 s_)), (.d (k78 s_)), (.d (k79 s_)), (.d (k80 s_)), (.d (k81 s_))])), k461, k464, (k466 r_), (k469 u0)]
abbrev k470 : List (Nat × TV) := [(1, (vP 10 0)), (2, (vP 11 0)), (12, (vO 12 true 7)), (13, (vI (7 : Int))), (14, (vI 2))]
abbrev k472 : Nat × Option Ob := (15, some (arD 4 1 boolC u1))
abbrev k471 : List (Nat × Option Ob) := [(10, some (.cells 29 [(.own 13 false r_.length), (.own 14 false u0.length), (.own 15 false u1.length), (.d (k78 s_)), (.d (k79 s_)), (.d (k80 s_)), (.d (k81 s_))])), k461, k464, (k466 r_), (k469 u0), (k472 u1)]
abbrev k473 : List (Nat × TV) := [(1, (vP 10 0)), (2, (vP 11 0)), (12, (vO 12 true 7)), (13, (vI (7 : Int))), (14, (vI 3))]
abbrev k475 : Nat × Option Ob := (16, some (arD 4 1 boolC u2))
abbrev k474 : List (Nat × Option Ob) := [(10, some (.cells 29 [(.own 13 false r_.length), (.own 14 false u0.length), (.own 15 false u1.length), (.own 16 false u2.length), (.d (k79 s_)), (.d (k80 s_)), (.d (k81 s_))])), k461, k464, (k466 r_), (k469 u0), (k472 u1), (k475 u2)]
abbrev k476 : List (Nat × TV) := [(1, (vP 10 0)), (2, (vP 11 0)), (12, (vO 12 true 7)), (13, (vI (7 : Int))), (14, (vI 4))]
abbrev k477 : List (Nat × Option Ob) := [(10, some (.cells 29 [(.own 13 false r_.length), (.own 14 false u0.length), (.own 15 false u1.length), (.own 16 false u2.length), (.own 17 false u3.length), (.d (k80 s_)), (.d (k81 s_))])), k461, k464, (k466 r_), (k469 u0), (k472 u1), (k475 u2), (17, some (arD 4 1 boolC u3))]
abbrev k478 : List (Nat × TV) := [(1, (vP 10 0)), (2, (vP 11 0)), (12, (vO 12 true 7)), (13, (vI (7 : Int))), (14, (vI 5))]
abbrev k479 : List (Nat × Option Ob) := [(10, some (.cells 29 [(.own 13 false r_.length), (.own 14 false u0.length), (.own 15 false u1.length), (.own 16 false u2.length), (.own 17 false u3.length), (.own 18 false u4.length), (.d (k81 s_))])), k461, k464, (k466 r_), (k469 u0), (k472 u1), (k475 u2), (17, some (arD 4 1 boolC u3)), (18, some (arD 4 1 boolC u4))]
abbrev k480 : List (Nat × TV) := [(1, (vP 10 0)), (2, (vP 11 0)), (12, (vO 12 true 7)), (13, (vI (7 : Int))), (14, (vI 6))]
abbrev k482 : Ob := (.cells 29 [(.own 13 false r_.length), (.own 14 false u0.length), (.own 15 false u1.length), (.own 16 false u2.length), (.own 17 false u3.length), (.own 18 false u4.length), (.own 19 false u5.length)])
abbrev k481 : List (Nat × Option Ob) := [(10, some (k482 r_ u0 u1 u2 u3 u4 u5)), k461, k464, (k466 r_), (k469 u0), (k472 u1), (k475 u2), (17, some (arD 4 1 boolC u3)), (18, some (arD 4 1 boolC u4)), (19, some (arD 4 1 boolC u5))]
abbrev k484 : List CV := [(.own 0 false r_.length), (.own 1 false u0.length), (.own 2 false u1.length), (.own 3 false u2.length), (.own 4 false u3.length), (.own 5 false u4.length), (.own 6 false u5.length)]
abbrev k483 : St := ⟨[(2, (vP 7 0))], [(0, some (arD 4 1 boolC r_)), (1, some (arD 4 1 boolC u0)), (2, some (arD 4 1 boolC u1)), (3, some (arD 4 1 boolC u2)), (4, some (arD 4 1 boolC u3)), (5, some (arD 4 1 boolC u4)), (6, some (arD 4 1 boolC u5)), (7, some (.cells 29 (k484 r_ u0 u1 u2 u3 u4 u5)))]⟩
abbrev k485 : List SV := [(.agg (k484 r_ u0 u1 u2 u3 u4 u5))]
end
theorem m_plant_copied_v1_ok (s_ : State) {r : State} (h : m_plant_copied s_ = some r) : Fn Try.prog 132 (k110 s_) [] (.v (.agg [(.own 0 false r.closed.length), (.own 1 false r.locked.length), (.own 2 false r.badLink.length), (.own 3 false r.on_.length), (.own 4 false r.badSource.length), (.own 5 false r.earthed.length), (.own 6 false r.badBus.length)])) [(0, some (arD 4 1 boolC r.closed)), (1, some (arD 4 1 boolC r.locked)), (2, some (arD 4 1 boolC r.badLink)), (3, some (arD 4 1 boolC r.on_)), (4, some (arD 4 1 boolC r.badSource)), (5, some (arD 4 1 boolC r.earthed)), (6, some (arD 4 1 boolC r.badBus)), (7, none)] := by
 refine fN tT Try.func132 rfl rfl fun B => ?_
 show AWp _ _ _ _ _ _ (m_plant_copied_v1_R r) _
 unfold m_plant_copied at h
 refine sz tT ⟨[(1, (vP 10 0)), (2, (vP 11 0))], [(k460 s_), k461]⟩ { fr := [(0, 10), (1, 11)] } [] ?_
 refine aQ (sz tT ⟨k462, (k463 s_)⟩ { an := [(7, .cells)], fr := [(7, 12)] } [] ?_)
 refine aB (awp_loopN 12 (loopN_succ 11 (sz tT ⟨[(1, (vP 10 0)), (2, (vP 11 0)), (12, (vO 12 true 7)), (13, (vI (7 : Int))), (14, (vI 0)), (15, (vB true))], (k463 s_)⟩ {} [] ?_)))
 refine aQ (ck (aP (aQ (aB (aQ (aO h fun a1 h => ?_))))))
 refine rg tT ⟨[(1, (vP 10 0)), (2, (vP 11 0)), (4, (vP 10 0)), (12, (vO 12 true 7)), (13, (vI (7 : Int))), (14, (vI 0))], (k463 s_)⟩ [_] {} [] ⟨a1, trivial⟩ ?_
 refine bE h fun r_ hr_ h => ?_
 have q0 := rk [(0, 13)] (m_slices_Clone_v1_a_ok s_.closed hr_)
 refine rg tT ⟨k462, (k465 s_ r_)⟩ [_] { an := [(4, cA q0 [])] } [] ⟨q0, trivial⟩ ?_
 refine rz tT ⟨k467, (k465 s_ r_)⟩ {} [] ?_
 refine loopN_succ 10 (sz tT ⟨[(1, (vP 10 0)), (2, (vP 11 0)), (12, (vO 12 true 7)), (13, (vI (7 : Int))), (14, (vI 1)), (15, (vB true))], (k465 s_ r_)⟩ {} [] ?_)
 refine aQ (ck (aP (aQ (aB (aQ (aO h fun a1 h => ?_))))))
 refine rg tT ⟨[(1, (vP 10 0)), (2, (vP 11 0)), (4, (vP 10 1)), (12, (vO 12 true 7)), (13, (vI (7 : Int))), (14, (vI 1))], (k465 s_ r_)⟩ [_] {} [] ⟨a1, trivial⟩ ?_
 refine bE h fun u0 hr_1 h => ?_
 have q0 := rk [(0, 14)] (m_slices_Clone_v1_a_ok s_.locked hr_1)
 refine rg tT ⟨k467, (k468 s_ r_ u0)⟩ [_] { an := [(4, cA q0 [])] } [] ⟨q0, trivial⟩ ?_
 refine rz tT ⟨k470, (k468 s_ r_ u0)⟩ {} [] ?_
 refine loopN_succ 9 (sz tT ⟨[(1, (vP 10 0)), (2, (vP 11 0)), (12, (vO 12 true 7)), (13, (vI (7 : Int))), (14, (vI 2)), (15, (vB true))], (k468 s_ r_ u0)⟩ {} [] ?_)
 refine aQ (ck (aP (aQ (aB (aQ (aO h fun a1 h => ?_))))))
 refine rg tT ⟨[(1, (vP 10 0)), (2, (vP 11 0)), (4, (vP 10 2)), (12, (vO 12 true 7)), (13, (vI (7 : Int))), (14, (vI 2))], (k468 s_ r_ u0)⟩ [_] {} [] ⟨a1, trivial⟩ ?_
 refine bE h fun u1 hr_2 h => ?_
 have q0 := rk [(0, 15)] (m_slices_Clone_v1_a_ok s_.badLink hr_2)
 refine rg tT ⟨k470, (k471 s_ r_ u0 u1)⟩ [_] { an := [(4, cA q0 [])] } [] ⟨q0, trivial⟩ ?_
 refine rz tT ⟨k473, (k471 s_ r_ u0 u1)⟩ {} [] ?_
 refine loopN_succ 8 (sz tT ⟨[(1, (vP 10 0)), (2, (vP 11 0)), (12, (vO 12 true 7)), (13, (vI (7 : Int))), (14, (vI 3)), (15, (vB true))], (k471 s_ r_ u0 u1)⟩ {} [] ?_)
 refine aQ (ck (aP (aQ (aB (aQ (aO h fun a1 h => ?_))))))
 refine rg tT ⟨[(1, (vP 10 0)), (2, (vP 11 0)), (4, (vP 10 3)), (12, (vO 12 true 7)), (13, (vI (7 : Int))), (14, (vI 3))], (k471 s_ r_ u0 u1)⟩ [_] {} [] ⟨a1, trivial⟩ ?_
 refine bE h fun u2 hr_3 h => ?_
 have q0 := rk [(0, 16)] (m_slices_Clone_v1_a_ok s_.on_ hr_3)
 refine rg tT ⟨k473, (k474 s_ r_ u0 u1 u2)⟩ [_] { an := [(4, cA q0 [])] } [] ⟨q0, trivial⟩ ?_
 refine rz tT ⟨k476, (k474 s_ r_ u0 u1 u2)⟩ {} [] ?_
 refine loopN_succ 7 (sz tT ⟨[(1, (vP 10 0)), (2, (vP 11 0)), (12, (vO 12 true 7)), (13, (vI (7 : Int))), (14, (vI 4)), (15, (vB true))], (k474 s_ r_ u0 u1 u2)⟩ {} [] ?_)
 refine aQ (ck (aP (aQ (aB (aQ (aO h fun a1 h => ?_))))))
 refine rg tT ⟨[(1, (vP 10 0)), (2, (vP 11 0)), (4, (vP 10 4)), (12, (vO 12 true 7)), (13, (vI (7 : Int))), (14, (vI 4))], (k474 s_ r_ u0 u1 u2)⟩ [_] {} [] ⟨a1, trivial⟩ ?_
 refine bE h fun u3 hr_4 h => ?_
 have q0 := rk [(0, 17)] (m_slices_Clone_v1_a_ok s_.badSource hr_4)
 refine rg tT ⟨k476, (k477 s_ r_ u0 u1 u2 u3)⟩ [_] { an := [(4, cA q0 [])] } [] ⟨q0, trivial⟩ ?_
 refine rz tT ⟨k478, (k477 s_ r_ u0 u1 u2 u3)⟩ {} [] ?_
 refine loopN_succ 6 (sz tT ⟨[(1, (vP 10 0)), (2, (vP 11 0)), (12, (vO 12 true 7)), (13, (vI (7 : Int))), (14, (vI 5)), (15, (vB true))], (k477 s_ r_ u0 u1 u2 u3)⟩ {} [] ?_)
 refine aQ (ck (aP (aQ (aB (aQ (aO h fun a1 h => ?_))))))
 refine rg tT ⟨[(1, (vP 10 0)), (2, (vP 11 0)), (4, (vP 10 5)), (12, (vO 12 true 7)), (13, (vI (7 : Int))), (14, (vI 5))], (k477 s_ r_ u0 u1 u2 u3)⟩ [_] {} [] ⟨a1, trivial⟩ ?_
 refine bE h fun u4 hr_5 h => ?_
 have q0 := rk [(0, 18)] (m_slices_Clone_v1_a_ok s_.earthed hr_5)
 refine rg tT ⟨k478, (k479 s_ r_ u0 u1 u2 u3 u4)⟩ [_] { an := [(4, cA q0 [])] } [] ⟨q0, trivial⟩ ?_
 refine rz tT ⟨k480, (k479 s_ r_ u0 u1 u2 u3 u4)⟩ {} [] ?_
 refine loopN_succ 5 (sz tT ⟨[(1, (vP 10 0)), (2, (vP 11 0)), (12, (vO 12 true 7)), (13, (vI (7 : Int))), (14, (vI 6)), (15, (vB true))], (k479 s_ r_ u0 u1 u2 u3 u4)⟩ {} [] ?_)
 refine aQ (ck (aP (aQ (aB (aQ (aO h fun a1 h => ?_))))))
 refine rg tT ⟨[(1, (vP 10 0)), (2, (vP 11 0)), (4, (vP 10 6)), (12, (vO 12 true 7)), (13, (vI (7 : Int))), (14, (vI 6))], (k479 s_ r_ u0 u1 u2 u3 u4)⟩ [_] {} [] ⟨a1, trivial⟩ ?_
 refine bE h fun u5 hr_6 h => ?_
 have q0 := rk [(0, 19)] (m_slices_Clone_v1_a_ok s_.badBus hr_6)
 refine rg tT ⟨k480, (k481 r_ u0 u1 u2 u3 u4 u5)⟩ [_] { an := [(4, cA q0 [])] } [] ⟨q0, trivial⟩ ?_
 refine rz tT ⟨[(1, (vP 10 0)), (2, (vP 11 0)), (12, (vO 12 true 7)), (13, (vI (7 : Int))), (14, (vI 7))], (k481 r_ u0 u1 u2 u3 u4 u5)⟩ {} [] ?_
 refine loopN_succ 4 (sz tT ⟨[(1, (vP 10 0)), (2, (vP 11 0)), (12, (vO 12 true 7)), (13, (vI (7 : Int))), (14, (vI 7)), (15, (vB false))], (k481 r_ u0 u1 u2 u3 u4 u5)⟩ {} [] ?_)
 refine aQ (cn (aX (sz tT ⟨[(2, (vP 11 0))], [(11, some (k482 r_ u0 u1 u2 u3 u4 u5)), (k466 r_), (k469 u0), (k472 u1), (k475 u2), (17, some (arD 4 1 boolC u3)), (18, some (arD 4 1 boolC u4)), (19, some (arD 4 1 boolC u5))]⟩ {} [] ?_)))
 refine aI (Imp.fin (st' := (k483 r_ u0 u1 u2 u3 u4 u5)) (cs := []) ⟨[], [(13, 0), (14, 1), (15, 2), (16, 3), (17, 4), (18, 5), (19, 6), (11, 7)]⟩ [2] (by kernel_rfl) trivial) ?_
 refine aR ?_
 obtain rfl := oi h
 exact rh (k485 r_ u0 u1 u2 u3 u4 u5) (.refl _) ⟨rfl, .refl _, ⟨rfl, .refl _, ⟨rfl, .refl _, ⟨rfl, .refl _, ⟨rfl, .refl _, ⟨rfl, .refl _, ⟨rfl, .refl _, ⟨rfl, trivial, trivial⟩⟩⟩⟩⟩⟩⟩⟩
def m_plant_conducting_R  : (Int × (List Source) × (List Link) × (List Rack) × (List Bool) × (List Bool) × (List Bool) × (List Bool) × (List Bool) × (List Bool) × (List Bool)) → Exit → St → Prop :=
  fun r => RetQ TT [.tmp 4] (vD (.fn 146 2 (capF [(ipT [(.int .i64 r.1), (slD none 5 Source.cell r.2.1), (slD none 6 Link.cell r.2.2.1), (slD none 4 Rack.cell r.2.2.2.1)] 0), (ipT [(slD none 1 boolC r.2.2.2.2.1), (slD none 1 boolC r.2.2.2.2.2.1), (slD none 1 boolC r.2.2.2.2.2.2.1), (slD none 1 boolC r.2.2.2.2.2.2.2.1), (slD none 1 boolC r.2.2.2.2.2.2.2.2.1), (slD none 1 boolC r.2.2.2.2.2.2.2.2.2.1), (slD none 1 boolC r.2.2.2.2.2.2.2.2.2.2)] 0)]))) []
end
end Sg
