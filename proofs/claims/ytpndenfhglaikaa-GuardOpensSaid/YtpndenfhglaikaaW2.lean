import Derived.Test.YtpndenfhglaikaaW1
namespace Sg
open Go Go.Proofs
set_option maxRecDepth 20000
set_option linter.all false
noncomputable section
section
variable (r_ : ((List Bool) × (List Bool) × (List Bool) × (List Bool) × (List Bool) × (List Bool) × (List Bool) × Plant)) (s_ : State) (p : Plant) (u8 : Groups_int_) (u0 : (List Island)) (u3 : Int) (u1 : Int) (u2 : (List (Int × Int))) (u6 : (List Island)) (u7 : Int) (u4 : (List (Int × Int))) (u5 : Int)
abbrev k824 : DV := (ipT [(slD none 1 boolC r_.1), (slD none 1 boolC r_.2.1), (slD none 1 boolC r_.2.2.1), (slD none 1 boolC r_.2.2.2.1), (slD none 1 boolC r_.2.2.2.2.1), (slD none 1 boolC r_.2.2.2.2.2.1), (slD none 1 boolC r_.2.2.2.2.2.2.1)] 0)
abbrev k823 : List CV := [(.ptr 63 0), (.d (k824 r_))]
abbrev k822 : TV := (.v (.one (.fn 146 0 2 (capC (k823 r_)))))
abbrev k821 : List (Nat × TV) := [(2, (vP 59 0)), (k72 s_), (5, (vP 62 0)), (21, (k822 r_))]
abbrev k825 : Nat × Option Ob := (63, some (.cells 26 [(cI r_.2.2.2.2.2.2.2.buses), (.own 0 true p.sources.length), (.own 1 true p.links.length), (.own 2 true p.racks.length)]))
abbrev k826 : Nat × Option Ob := (65, some (.rows 123 2 ([] : List Island).length (evOf Island.ev ([] : List Island)) none))
abbrev k827 : List (Nat × Option Ob) := [(k619 p), (k620 p), (k621 p), (k810 p), (k811 u8), k812, k826, (66, some k438)]
abbrev k828 : List (Nat × TV) := [(2, (vP 59 0)), (k72 s_), (5, (vP 62 0)), (k807 u0), k808, (9, (vI u3)), (10, (vI u1)), (31, (vI p.buses)), (32, (vI u3))]
abbrev k829 : Nat × Option Ob := (66, some (mpD 3 3 false false 1 1 (intC .i64) (intC .i64) (k536 u0 u1 u2)))
abbrev k830 : Nat × TV := (7, (vO 92 false ((k540 u0).length)))
abbrev k831 : List (Nat × Option Ob) := [(k619 p), (k620 p), (k621 p), (k810 p), (k811 u8), k812, (k829 u0 u1 u2), (92, some (.rows 123 2 (k540 u0).length (k542 u0) none))]
abbrev k832 : Nat × TV := (7, (vO 92 false (k558 u3 u0 u1 u2)))
abbrev k833 : List (Nat × Option Ob) := [(k619 p), (k620 p), (k621 p), (k810 p), (k811 u8), k812, (k829 u0 u1 u2), (92, some (.rows 123 2 (k547 u3 u0 u1 u2).length (k546 u3 u0 u1 u2) none))]
abbrev k834 : Nat × TV := (7, (vO 65 false (k569 u3 u0 u1 u2)))
abbrev k835 : List (Nat × Option Ob) := [(k619 p), (k620 p), (k621 p), (k810 p), (k811 u8), k812, (65, some (.rows 123 2 (k561 u3 u0 u1 u2).length (k560 u3 u0 u1 u2) none)), (k814 u2)]
abbrev k836 : Nat × TV := (7, (vO 65 false (k583 u5 u6 u7 u4)))
abbrev k837 : List (Nat × Option Ob) := [(k619 p), (k620 p), (k621 p), (k811 u8), k812, (65, some (.rows 123 2 (k575 u5 u6 u7 u4).length (k574 u5 u6 u7 u4) none)), (k814 u4)]
end
theorem m_plant_islands_v2_ok (p : Plant) (s_ : State) {r : (List Island)} (h : m_plant_islands_v2 p s_ = some r) : Fn Try.prog 70 (k651 p s_) (k633 p) (vD (slD none 2 Island.cell r)) (k633 p) := by
 refine fN tT Try.func70 rfl rfl fun B => ?_
 show AWp _ _ _ _ _ _ ((m_plant_islands_v2_R p) r) _
 unfold m_plant_islands_v2 at h
 refine sz tT ⟨[(2, (vP 59 0)), (k72 s_)], [(k619 p), (k620 p), (k621 p), (k810 p)]⟩ { fr := [(0, 59), (1, 60)] } [60] ?_
 refine sz tT ⟨[(2, (vP 59 0)), (k72 s_), (5, (vP 62 0))], [(k619 p), (k620 p), (k621 p), (k810 p), k530, k812]⟩ { an := [(0, .map 0 (kOf (intC .i64) ([] : (List (Int × Int)))) (vOf (intC .i64) ([] : (List (Int × Int)))) [])], fr := [(0, 61), (2, 62)] } [] ?_
 refine aQ (aQ (bE h fun r_ hr_ h => ?_))
 have q0 := rk [(3, 63)] (m_plant_conducting_v1_ok p s_ hr_)
 refine rg tT ⟨(k821 r_ s_), [(k619 p), (k620 p), (k621 p), (k810 p), k530, k812, (k825 r_ p)]⟩ [_] { an := [(2, cA q0 [0, 1, 2])] } [] ⟨q0, trivial⟩ ?_
 refine aB (bE h fun u8 hr_1 h => ?_)
 refine awp_rangeFuncI 64 [(5, (vP 62 0))] [] [64, 63, 62, 0, 1, 2, 61] (.tup []) [(64, some (.loop R_plant_islands_r0 0 [(5, (vP 62 0))])), (k825 r_ p), k812, (k619 p), (k620 p), (k621 p), (k811 u8)] (k822 r_) 146 [] (k823 r_) [(64, some (.loop R_plant_islands_r0 0 [(5, (vP 62 0))])), (k825 r_ p), k812, (k619 p), (k620 p), (k621 p), k530] [(.one (.yl 64)), (.one (.ptr 63 0)), (sD (k824 r_))] R_plant_islands_r0 0 [(5, (vP 62 0))] (by kernel_rfl) (by kernel_rfl) (by kernel_rfl) (by kernel_rfl) (by kernel_rfl) (by kernel_rfl) (by kernel_rfl) (Fn.renK [(0, 64), (1, 63), (2, 62), (3, 0), (4, 1), (5, 2), (6, 61)] (m_plant_conducting_1_v1_ok r_.1 r_.2.1 r_.2.2.1 r_.2.2.2.1 r_.2.2.2.2.1 r_.2.2.2.2.2.1 r_.2.2.2.2.2.2.1 (⟨r_.2.2.2.2.2.2.2.buses, p.sources, p.links, p.racks⟩ : Plant) (⟨([] : (List (Int × Int)))⟩ : Groups_int_) hr_1) (by kernel_rfl) (by kernel_rfl) (by kernel_rfl) (by kernel_rfl)) (by kernel_rfl) rfl (ExOf.zero rfl) (Imp.fin (st' := ⟨(k821 r_ s_), [(k619 p), (k620 p), (k621 p), (k810 p), (k811 u8), k812, (k825 r_ p)]⟩) (cs := []) ⟨[], [(0, 0), (1, 1), (2, 2), (59, 59), (61, 61), (62, 62), (63, 63)]⟩ [2, 3, 5, 21] (by kernel_rfl) trivial) ?_
 refine si tT ⟨[(2, (vP 59 0)), (k72 s_), (5, (vP 62 0)), (7, (vD nS))], [(k619 p), (k620 p), (k621 p), (k810 p), (k811 u8), k812]⟩ [] {} [] trivial (.trans (Imp.adoptR (t := 7) (b := 65) (esz0 := 0) (el0 := fun _ _ => .nilp) (E := 123) (esz := 2) (el := evOf Island.ev ([] : List Island)) (ov := none) (by kernel_rfl) (by kernel_rfl)) (.trans (fz ⟨[(2, (vP 59 0)), (k72 s_), (5, (vP 62 0)), (7, (vO 65 false 0))], [(k619 p), (k620 p), (k621 p), (k810 p), (k811 u8), k812, (65, some (.rows 123 2 0 (evOf Island.ev ([] : List Island)) none))]⟩ []) (Imp.le (st' := ⟨[(2, (vP 59 0)), (k72 s_), (5, (vP 62 0)), (7, (vO 65 false (([] : List Island).length)))], [(k619 p), (k620 p), (k621 p), (k810 p), (k811 u8), k812, k826]⟩) ⟨⟨tR, tR, tR, ⟨_, rfl, TLe.v (SLe.one cW)⟩, trivial⟩, ⟨rfl, .refl _, ⟨rfl, .refl _, ⟨rfl, .refl _, ⟨rfl, .refl _, ⟨rfl, .refl _, ⟨rfl, .refl _, ⟨rfl, OLe_rows (by simp only [List.length_set, List.length_append, List.length_cons, List.length_nil, List.length_replicate]), trivial⟩⟩⟩⟩⟩⟩⟩⟩))) ?_
 refine sz tT ⟨[(2, (vP 59 0)), (k72 s_), (5, (vP 62 0)), (7, (vO 65 false (([] : List Island).length))), k808], (k827 p u8)⟩ { an := [(0, .map 0 (kOf (intC .i64) ([] : (List (Int × Int)))) (vOf (intC .i64) ([] : (List (Int × Int)))) [])], fr := [(0, 66)] } [] ?_
 refine aQ (sz tT ⟨[(2, (vP 59 0)), (k72 s_), (5, (vP 62 0)), (7, (vO 65 false (([] : List Island).length))), k808, (31, (vI p.buses)), (32, (vI 0))], (k827 p u8)⟩ {} [] ?_)
 refine bE h fun y hy h => ?_
 refine aL [] (m_plant_islands_v2_S0 p s_ u8) (m_plant_islands_v2_B0 p s_ u8) (m_plant_islands_v2_R p) hy (fun s f h => ?_) ?_
 ·clear hy
  show AWp _ _ _ _ _ _ ((m_plant_islands_v2_Q0 p s_ u8) f) _
  unfold m_plant_islands_v2_L0 at h
  obtain ⟨u0, u2, u3⟩ := s
  refine sz tT ⟨[(2, (vP 59 0)), (k72 s_), (5, (vP 62 0)), (k807 u0), k808, (31, (vI p.buses)), (32, (vI u3)), (33, (vB (decide (u3 < p.buses))))], (k809 u0 p u8 u2)⟩ {} [] ?_
  refine aQ ?_
  refine bI h (fun hb2 h => ?_) (fun hb2 h => ?_)
  ·refine ct hb2 ?_
   refine aP (aQ (aB (sz tT ⟨[(2, (vP 59 0)), (k72 s_), (5, (vP 62 0)), (k807 u0), k808, (9, (vI u3)), (31, (vI p.buses)), (32, (vI u3))], (k809 u0 p u8 u2)⟩ {} [] ?_)))
   refine aQ (aQ (aO h fun a1 h => ?_))
   refine rg tT ⟨[(2, (vP 59 0)), (k72 s_), (5, (vP 62 0)), (k807 u0), k808, (9, (vI u3)), (31, (vI p.buses)), (32, (vI u3)), (39, (vB (at' s_.badBus u3.toNat)))], (k809 u0 p u8 u2)⟩ [_] {} [] ⟨a1, trivial⟩ ?_
   refine bI h (fun hb1 h => ?_) (fun hb1 h => ?_)
   ·refine ct hb1 ?_
    refine aX (rz tT ⟨[(2, (vP 59 0)), (k72 s_), (5, (vP 62 0)), (k807 u0), k808, (31, (vI p.buses)), (k531 u3)], (k809 u0 p u8 u2)⟩ {} [] ?_)
    obtain rfl := oi h
    exact lN (by kernel_rfl)
   ·refine cf hb1 ?_
    refine aP (aQ (bE h fun u1 hr_2 h => ?_))
    have q0 := rk [(0, 61)] (m_plant_groups_of_v1_ok u8 u3 hr_2)
    refine rg tT ⟨(k828 s_ p u0 u3 u1), (k809 u0 p u8 u2)⟩ [_] { an := [(2, cR q0 [61])] } [] ⟨q0, trivial⟩ ?_
    refine aQ (sg tT ⟨[(2, (vP 59 0)), (k72 s_), (5, (vP 62 0)), (k807 u0), k808, (9, (vI u3)), (10, (vI u1)), (12, (vB ((mget eqI u1 u2).isSome))), (31, (vI p.buses)), (32, (vI u3))], (k809 u0 p u8 u2)⟩ [LookAt [some .i64] 1 1 u2.length (kOf (intC .i64) u2) (vOf (intC .i64) u2) [(.int .i64 u1)] [(.d (.int .i64 0))] (mget eqI u1 u2).isSome (k533 u1 u2)] { an := [(2, .look (mget eqI u1 u2).isSome (k533 u1 u2))] } [] ⟨(lookAt_of (fun _ => rfl) (fun _ _ => rfl) u2 u1 0 rfl rfl rfl), trivial⟩ ?_)
    refine sz tT ⟨[(2, (vP 59 0)), (k72 s_), (5, (vP 62 0)), (k807 u0), k808, (9, (vI u3)), (10, (vI u1)), (31, (vI p.buses)), (32, (vI u3)), (50, (vB (!((mget eqI u1 u2).isSome))))], (k809 u0 p u8 u2)⟩ {} [] ?_
    refine bI h (fun hb h => ?_) (fun hb h => ?_)
    ·refine ct hb ?_
     refine sg tT ⟨(k828 s_ p u0 u3 u1), [(k619 p), (k620 p), (k621 p), (k810 p), (k811 u8), k812, (k813 u0), (k829 u0 u1 u2)]⟩ [SetAt [some .i64] 1 1 u2.length (kOf (intC .i64) u2) (vOf (intC .i64) u2) [(.int .i64 u1)] [(cI (u0.length : Int))] [] (k536 u0 u1 u2).length (k537 u0 u1 u2) (k538 u0 u1 u2)] { an := [(4, .map (k536 u0 u1 u2).length (k537 u0 u1 u2) (k538 u0 u1 u2) [])] } [] ⟨(setAt_of (fun _ => rfl) (fun _ _ => rfl) u2 u1 (u0.length : Int) rfl rfl), trivial⟩ ?_
     refine aO h fun ⟨a1, a2⟩ h => ?_
     refine rg tT ⟨[(2, (vP 59 0)), (k72 s_), (5, (vP 62 0)), (k830 u0), k808, (9, (vI u3)), (10, (vI u1)), (31, (vI p.buses)), (32, (vI u3))], (k831 p u8 u0 u1 u2)⟩ [[(⟨([] : List Int), ([] : List Int)⟩ : Island)].length = 1, ArrEq 1 2 (elL 2 [nS, nS]) (elL 2 [nS, nS]), u0.length = u0.length, _, _, (k540 u0).length = u0.length + [(⟨([] : List Int), ([] : List Int)⟩ : Island)].length, RowsApp u0.length [(⟨([] : List Int), ([] : List Int)⟩ : Island)].length 2 (evOf Island.ev u0) (elL 2 [nS, nS]) (k542 u0)] { an := [(2, .arr [(⟨([] : List Int), ([] : List Int)⟩ : Island)].length (elL 2 [nS, nS])), (3, .rows (k540 u0).length (k542 u0))], fr := [(2, 91), (3, 92)] } [] ⟨(rfl), (arrEq_refl _ _ _), rfl, a1, a2, (List.length_append), (rowsApp _ _ _ _ _ (by intro i hi j hj; match i, j, hi, hj with | 0, 0, _, _ => exact ⟨rfl, _, _, _, rfl⟩ | 0, 1, _, _ => exact ⟨rfl, _, _, _, rfl⟩)), trivial⟩ ?_
     refine sg tT ⟨[(2, (vP 59 0)), (k72 s_), (5, (vP 62 0)), (k830 u0), k808, (9, (vI u3)), (13, (vI (k543 u0 u1 u2))), (31, (vI p.buses)), (32, (vI u3))], (k831 p u8 u0 u1 u2)⟩ [LookAt [some .i64] 1 1 (k536 u0 u1 u2).length (k537 u0 u1 u2) (k538 u0 u1 u2) [(.int .i64 u1)] [(.d (.int .i64 0))] (k544 u0 u1 u2).isSome (k545 u0 u1 u2)] { an := [(2, .look (k544 u0 u1 u2).isSome (k545 u0 u1 u2))] } [] ⟨(lookAt_of (fun _ => rfl) (fun _ _ => rfl) (k536 u0 u1 u2) u1 0 rfl rfl rfl), trivial⟩ ?_
     refine aO h fun ⟨a1, a2, a3⟩ h => ?_
     refine ri tT ⟨[(2, (vP 59 0)), (k72 s_), (5, (vP 62 0)), (k830 u0), k808, (31, (vI p.buses)), (32, (vI u3))], [(k619 p), (k620 p), (k621 p), (k810 p), (k811 u8), k812, (k829 u0 u1 u2), (92, some (.rows 123 2 (k540 u0).length (k546 u3 u0 u1 u2) none))]⟩ [(0 : Int) ≤ (k543 u0 u1 u2) ∧ (k543 u0 u1 u2) < (k552 u0), (k543 u0 u1 u2).toNat < (k540 u0).length, [u3].length = 1, ArrEq 1 1 (k187 u3) (elOf (intC .i64) [u3]), (k550 u0 u1 u2).length = (k550 u0 u1 u2).length, (k553 u3 u0 u1 u2) * 8 ≤ 140737488355328, (k550 u0 u1 u2).length + [u3].length ≤ 4611686018427387904, (k549 u3 u0 u1 u2).length = (k550 u0 u1 u2).length + [u3].length, ArrEq (k553 u3 u0 u1 u2) 1 (k554 u3 u0 u1 u2) (k555 u3 u0 u1 u2), (0 : Int) ≤ (k543 u0 u1 u2) ∧ (k543 u0 u1 u2) < (k552 u0), (k543 u0 u1 u2).toNat < (k540 u0).length, (k549 u3 u0 u1 u2).length = (k549 u3 u0 u1 u2).length, EvEq (k540 u0).length 2 (k556 u3 u0 u1 u2) (k546 u3 u0 u1 u2), ∀ i0 j0 c0, ((some ((k543 u0 u1 u2).toNat, 0, CV.own 93 false (k550 u0 u1 u2).length)) : Option (Nat × Nat × CV)) = some (i0, j0, c0) → i0 = (k543 u0 u1 u2).toNat ∧ j0 = 0] { an := [(6, .take 93), (8, .arr [u3].length (elOf (intC .i64) [u3])), (9, .arr (k549 u3 u0 u1 u2).length (k555 u3 u0 u1 u2)), (12, .rows 0 (k546 u3 u0 u1 u2))], fr := [(8, 94), (9, 95)] } [] ⟨a1, (tL a1), (rfl), ((by intro i hi j hj; match i, j, hi, hj with | 0, 0, _, _ => rfl)), rfl, a2, a3, (List.length_append), (arrEq_app _ _ _ _), a1, (tL a1), rfl, (evEq_set _ _ _ _ _ _ _ _ rfl (fun j hj => (match j, hj with | 0, _ => rfl | 1, _ => rfl))), ((fun i0 j0 c0 e => by cases e; exact ⟨rfl, rfl⟩)), trivial⟩ (Imp.le (st' := ⟨[(2, (vP 59 0)), (k72 s_), (5, (vP 62 0)), (k832 u0 u3 u1 u2), k808, (31, (vI p.buses)), (32, (vI u3))], (k833 p u8 u0 u3 u1 u2)⟩) ⟨⟨tR, tR, tR, ⟨_, rfl, TLe.v (SLe.one cW)⟩, tR, tR, tR, trivial⟩, ⟨rfl, .refl _, ⟨rfl, .refl _, ⟨rfl, .refl _, ⟨rfl, .refl _, ⟨rfl, .refl _, ⟨rfl, .refl _, ⟨rfl, .refl _, ⟨rfl, OLe_rows (by simp only [List.length_set, List.length_append, List.length_cons, List.length_nil, List.length_replicate]), trivial⟩⟩⟩⟩⟩⟩⟩⟩⟩) ?_
     refine ri tT ⟨[(2, (vP 59 0)), (k72 s_), (5, (vP 62 0)), (k832 u0 u3 u1 u2), k808, (31, (vI p.buses)), (k531 u3)], (k833 p u8 u0 u3 u1 u2)⟩ [] {} [] trivial (Imp.fin (st' := ⟨[(2, (vP 59 0)), (k72 s_), (5, (vP 62 0)), (7, (vO 65 false (k558 u3 u0 u1 u2))), k808, (31, (vI p.buses)), (k531 u3)], [(k619 p), (k620 p), (k621 p), (k810 p), (k811 u8), k812, (65, some (.rows 123 2 (k547 u3 u0 u1 u2).length (k546 u3 u0 u1 u2) none)), (k829 u0 u1 u2)]⟩) (cs := []) ⟨[], [(0, 0), (1, 1), (2, 2), (59, 59), (61, 61), (62, 62), (92, 65), (66, 66)]⟩ [2, 3, 5, 7, 8, 31, 32] (by kernel_rfl) trivial) ?_
     obtain rfl := oi h
     exact lN (by kernel_rfl)
    ·refine cf hb ?_
     refine aP (sg tT ⟨[(2, (vP 59 0)), (k72 s_), (5, (vP 62 0)), (k807 u0), k808, (9, (vI u3)), (13, (vI (k534 u1 u2))), (31, (vI p.buses)), (32, (vI u3))], (k809 u0 p u8 u2)⟩ [LookAt [some .i64] 1 1 u2.length (kOf (intC .i64) u2) (vOf (intC .i64) u2) [(.int .i64 u1)] [(.d (.int .i64 0))] (mget eqI u1 u2).isSome (k533 u1 u2)] { an := [(2, .look (mget eqI u1 u2).isSome (k533 u1 u2))] } [] ⟨(lookAt_of (fun _ => rfl) (fun _ _ => rfl) u2 u1 0 rfl rfl rfl), trivial⟩ ?_)
     refine aO h fun ⟨a1, a2, a3⟩ h => ?_
     refine ri tT ⟨(k806 u0 s_ p u3), [(k619 p), (k620 p), (k621 p), (k810 p), (k811 u8), k812, (65, some (.rows 123 2 u0.length (k560 u3 u0 u1 u2) none)), (k814 u2)]⟩ [(0 : Int) ≤ (k534 u1 u2) ∧ (k534 u1 u2) < (u0.length : Int), (k534 u1 u2).toNat < u0.length, [u3].length = 1, ArrEq 1 1 (k187 u3) (elOf (intC .i64) [u3]), (k563 u0 u1 u2).length = (k563 u0 u1 u2).length, (k564 u3 u0 u1 u2) * 8 ≤ 140737488355328, (k563 u0 u1 u2).length + [u3].length ≤ 4611686018427387904, (k562 u3 u0 u1 u2).length = (k563 u0 u1 u2).length + [u3].length, ArrEq (k564 u3 u0 u1 u2) 1 (k565 u3 u0 u1 u2) (k566 u3 u0 u1 u2), (0 : Int) ≤ (k534 u1 u2) ∧ (k534 u1 u2) < (u0.length : Int), (k534 u1 u2).toNat < u0.length, (k562 u3 u0 u1 u2).length = (k562 u3 u0 u1 u2).length, EvEq u0.length 2 (k567 u3 u0 u1 u2) (k560 u3 u0 u1 u2), ∀ i0 j0 c0, ((some ((k534 u1 u2).toNat, 0, CV.own 96 false (k563 u0 u1 u2).length)) : Option (Nat × Nat × CV)) = some (i0, j0, c0) → i0 = (k534 u1 u2).toNat ∧ j0 = 0] { an := [(6, .take 96), (8, .arr [u3].length (elOf (intC .i64) [u3])), (9, .arr (k562 u3 u0 u1 u2).length (k566 u3 u0 u1 u2)), (12, .rows 0 (k560 u3 u0 u1 u2))], fr := [(8, 97), (9, 98)] } [] ⟨a1, (tL a1), (rfl), ((by intro i hi j hj; match i, j, hi, hj with | 0, 0, _, _ => rfl)), rfl, a2, a3, (List.length_append), (arrEq_app _ _ _ _), a1, (tL a1), rfl, (evEq_set _ _ _ _ _ _ _ _ rfl (fun j hj => (match j, hj with | 0, _ => rfl | 1, _ => rfl))), ((fun i0 j0 c0 e => by cases e; exact ⟨rfl, rfl⟩)), trivial⟩ (Imp.le (st' := ⟨[(2, (vP 59 0)), (k72 s_), (5, (vP 62 0)), (k834 u0 u3 u1 u2), k808, (31, (vI p.buses)), (32, (vI u3))], (k835 p u8 u0 u3 u1 u2)⟩) ⟨⟨tR, tR, tR, ⟨_, rfl, TLe.v (SLe.one cW)⟩, tR, tR, tR, trivial⟩, ⟨rfl, .refl _, ⟨rfl, .refl _, ⟨rfl, .refl _, ⟨rfl, .refl _, ⟨rfl, .refl _, ⟨rfl, .refl _, ⟨rfl, OLe_rows (by simp only [List.length_set, List.length_append, List.length_cons, List.length_nil, List.length_replicate]), ⟨rfl, .refl _, trivial⟩⟩⟩⟩⟩⟩⟩⟩⟩) ?_
     refine rz tT ⟨[(2, (vP 59 0)), (k72 s_), (5, (vP 62 0)), (k834 u0 u3 u1 u2), k808, (31, (vI p.buses)), (k531 u3)], (k835 p u8 u0 u3 u1 u2)⟩ {} [] ?_
     obtain rfl := oi h
     exact lN (by kernel_rfl)
  ·refine cf hb2 ?_
   refine aI (fz (k815 s_ u0 p u8 u2) []) ?_
   refine aX ?_
   obtain rfl := oi h
   exact lB (by kernel_rfl)
 ·clear hy
  cases y with
  | brk z =>
   obtain ⟨v0, u4⟩ := z
   unfold ExK
   refine ⟨_, .refl, ?_⟩
   refine aQ (sz tT ⟨[(k72 s_), (5, (vP 62 0)), (k807 v0), k808, (k817 p), (k518 p), (78, (vI 0))], (k818 p v0 u8 u4)⟩ {} [] ?_)
   refine bE h fun y1 hy h => ?_
   refine aL [] (m_plant_islands_v2_S1 p s_ u8 u4) (m_plant_islands_v2_B1 p) (m_plant_islands_v2_R p) hy (fun s f h => ?_) ?_
   ·clear hy
    show AWp _ _ _ _ _ _ ((m_plant_islands_v2_Q1 p s_ u8 u4) f) _
    unfold m_plant_islands_v2_L1 at h
    obtain ⟨u6, u5⟩ := s
    refine sz tT ⟨[(k72 s_), (5, (vP 62 0)), (k807 u6), k808, (k817 p), (k518 p), (78, (vI u5)), (79, (vB (decide (u5 < (p.sources.length : Int)))))], (k818 p u6 u8 u4)⟩ {} [] ?_
    refine aQ ?_
    refine bI h (fun hb4 h => ?_) (fun hb4 h => ?_)
    ·refine ct hb4 ?_
     refine aP (aQ (aB (aQ (aO h fun a1 h => ?_))))
     refine rg tT ⟨[(k72 s_), (5, (vP 62 0)), (k807 u6), k808, (14, (vI u5)), (k571 p u5), (k817 p), (k518 p), (78, (vI u5))], (k818 p u6 u8 u4)⟩ [_, _] { fr := [(3, 111)] } [111] ⟨a1, (tL a1), trivial⟩ ?_
     refine aQ (aO h fun ⟨a1, a2, a3⟩ h => ?_)
     refine rg tT ⟨[(k72 s_), (5, (vP 62 0)), (k807 u6), k808, (14, (vI u5)), (k571 p u5), (k817 p), (k518 p), (78, (vI u5)), (k572 p s_ u5)], (k818 p u6 u8 u4)⟩ (_ :: (k573 p s_ u5)) { yb := [(5, (at' s_.on_ u5.toNat)), (13, (k123 s_ u5))] } [] ⟨a1, (ae ⟨(fun hg => ⟨(a2 (gB_of hg)), trivial⟩), (ae (ae ⟨(fun hg => ⟨(a3 (gB_of hg)), trivial⟩), (ae trivial)⟩))⟩)⟩ ?_
     refine bI h (fun hb3 h => ?_) (fun hb3 h => ?_)
     ·refine ct hb3 ?_
      refine aQ (bE h fun u7 hr_3 h => ?_)
      have q0 := rk [(0, 61)] (m_plant_groups_of_v1_ok u8 (k124 p u5) hr_3)
      refine rg tT ⟨[(k72 s_), (5, (vP 62 0)), (k807 u6), k808, (14, (vI u5)), (16, (vI (k534 u7 u4))), (k817 p), (k518 p), (78, (vI u5))], (k818 p u6 u8 u4)⟩ [_, LookAt [some .i64] 1 1 u4.length (kOf (intC .i64) u4) (vOf (intC .i64) u4) [(.int .i64 u7)] [(.d (.int .i64 0))] (mget eqI u7 u4).isSome (k533 u7 u4)] { an := [(4, cR q0 [61]), (5, .look (mget eqI u7 u4).isSome (k533 u7 u4))] } [] ⟨q0, (lookAt_of (fun _ => rfl) (fun _ _ => rfl) u4 u7 0 rfl rfl rfl), trivial⟩ ?_
      refine aO h fun ⟨a1, a2, a3⟩ h => ?_
      refine ri tT ⟨(k816 p s_ u6 u5), [(k619 p), (k620 p), (k621 p), (k811 u8), k812, (65, some (.rows 123 2 u6.length (k574 u5 u6 u7 u4) none)), (k814 u4)]⟩ [(0 : Int) ≤ (k534 u7 u4) ∧ (k534 u7 u4) < (u6.length : Int), (k534 u7 u4).toNat < u6.length, [u5].length = 1, ArrEq 1 1 (k187 u5) (elOf (intC .i64) [u5]), (k577 u6 u7 u4).length = (k577 u6 u7 u4).length, (k578 u5 u6 u7 u4) * 8 ≤ 140737488355328, (k577 u6 u7 u4).length + [u5].length ≤ 4611686018427387904, (k576 u5 u6 u7 u4).length = (k577 u6 u7 u4).length + [u5].length, ArrEq (k578 u5 u6 u7 u4) 1 (k579 u5 u6 u7 u4) (k580 u5 u6 u7 u4), (0 : Int) ≤ (k534 u7 u4) ∧ (k534 u7 u4) < (u6.length : Int), (k534 u7 u4).toNat < u6.length, (k576 u5 u6 u7 u4).length = (k576 u5 u6 u7 u4).length, EvEq u6.length 2 (k581 u5 u6 u7 u4) (k574 u5 u6 u7 u4), ∀ i0 j0 c0, ((some ((k534 u7 u4).toNat, 1, CV.own 112 false (k577 u6 u7 u4).length)) : Option (Nat × Nat × CV)) = some (i0, j0, c0) → i0 = (k534 u7 u4).toNat ∧ j0 = 1] { an := [(6, .take 112), (8, .arr [u5].length (elOf (intC .i64) [u5])), (9, .arr (k576 u5 u6 u7 u4).length (k580 u5 u6 u7 u4)), (12, .rows 0 (k574 u5 u6 u7 u4))], fr := [(8, 113), (9, 114)] } [] ⟨a1, (tL a1), (rfl), ((by intro i hi j hj; match i, j, hi, hj with | 0, 0, _, _ => rfl)), rfl, a2, a3, (List.length_append), (arrEq_app _ _ _ _), a1, (tL a1), rfl, (evEq_set _ _ _ _ _ _ _ _ rfl (fun j hj => (match j, hj with | 0, _ => rfl | 1, _ => rfl))), ((fun i0 j0 c0 e => by cases e; exact ⟨rfl, rfl⟩)), trivial⟩ (Imp.le (st' := ⟨[(k72 s_), (5, (vP 62 0)), (k836 u6 u7 u4 u5), k808, (k817 p), (k518 p), (78, (vI u5))], (k837 p u8 u6 u7 u4 u5)⟩) ⟨⟨tR, tR, ⟨_, rfl, TLe.v (SLe.one cW)⟩, tR, tR, tR, tR, trivial⟩, ⟨rfl, .refl _, ⟨rfl, .refl _, ⟨rfl, .refl _, ⟨rfl, .refl _, ⟨rfl, .refl _, ⟨rfl, OLe_rows (by simp only [List.length_set, List.length_append, List.length_cons, List.length_nil, List.length_replicate]), ⟨rfl, .refl _, trivial⟩⟩⟩⟩⟩⟩⟩⟩) ?_
      refine rz tT ⟨[(k72 s_), (5, (vP 62 0)), (k836 u6 u7 u4 u5), k808, (k817 p), (k518 p), (k585 u5)], (k837 p u8 u6 u7 u4 u5)⟩ {} [] ?_
      obtain rfl := oi h
      exact lN (by kernel_rfl)
     ·refine cf hb3 ?_
      refine aP (rz tT ⟨[(k72 s_), (5, (vP 62 0)), (k807 u6), k808, (k817 p), (k518 p), (k585 u5)], (k818 p u6 u8 u4)⟩ {} [] ?_)
      obtain rfl := oi h
      exact lN (by kernel_rfl)
    ·refine cf hb4 ?_
     refine aI (fz (k819 p u6) []) ?_
     refine aX ?_
     obtain rfl := oi h
     exact lB (by kernel_rfl)
   ·clear hy
    cases y1 with
    | brk z =>
     obtain ⟨u9, rfl⟩ : ∃ q, q = z := ⟨_, rfl⟩
     unfold ExK
     refine ⟨_, .refl, ?_⟩
     refine sz tT ⟨[(4, (vO 65 false u9.length))], (k820 p u9)⟩ {} [] ?_
     refine aI (.trans (fi ⟨[(4, (vD (.sl none 2 u9.length (fun i j => evD (evOf Island.ev u9 i j)))))], (k633 p)⟩ [u9.length = u9.length] [65] ⟨rfl, trivial⟩) (Imp.le (st' := ⟨[(4, (vD (slD none 2 Island.cell u9)))], (k633 p)⟩) ⟨⟨⟨_, rfl, TLe.v (SLe.one (CLe.d (DLe.sl (.inr rfl) (fun i _ j hj => match j, hj with | 0, _ => .refl _ | 1, _ => .refl _))))⟩, trivial⟩, ⟨rfl, .refl _, ⟨rfl, .refl _, ⟨rfl, .refl _, trivial⟩⟩⟩⟩)) ?_
     refine aR ?_
     obtain rfl := oi h
     exact rh [(sD (slD none 2 Island.cell u9))] (.refl _) ⟨rfl, .refl _, ⟨rfl, .refl _, ⟨rfl, .refl _, trivial⟩⟩⟩
    | ret v =>
     obtain rfl := oi h
     unfold ExK
     intro e st hn ha hR
     cases e with
     | normal => exact absurd rfl hn
     | exit id => exact hR
     | goto l => exact hR
     | ret => exact hR
     | panic c => exact hR
     | outgrown => exact hR
  | ret v =>
   obtain rfl := oi h
   unfold ExK
   intro e st hn ha hR
   cases e with
   | normal => exact absurd rfl hn
   | exit id => exact hR
   | goto l => exact hR
   | ret => exact hR
   | panic c => exact hR
   | outgrown => exact hR
def m_plant_Live_v1_R (p : Plant) : ((List Bool) × Int) → Exit → St → Prop :=
  fun r => RetQ TT [.tmp 4, .tmp 5] (.tup [(sD (slD none 1 boolC r.1)), (sI r.2)]) (k633 p)
section
variable (u1 : (List Bool)) (p : Plant) (u0 : (List Island)) (u2 : Int)
abbrev k839 : Nat × TV := (7, (vO 12 true u1.length))
abbrev k840 : List (Nat × Option Ob) := [(k619 p), (k620 p), (k621 p), (12, some (arD 4 1 boolC u1))]
abbrev k838 : St := ⟨[(k839 u1), (k588 u0), (k589 u0), (25, (vI u2))], (k840 u1 p)⟩
end
def m_plant_Live_v1_S0 (p : Plant) (u0 : (List Island)) : ((List Bool) × Int) → St :=
  fun zz => match zz with | (u1, u2) => (k838 u1 p u0 u2)
section
variable (u0 : (List Bool)) (p : Plant)
abbrev k841 : St := ⟨[(k839 u0)], (k840 u0 p)⟩
end
def m_plant_Live_v1_B0 (p : Plant) : (List Bool) → St :=
  fun u0 => (k841 u0 p)
def m_plant_Live_v1_Q0 (p : Plant) (u0 : (List Island)) : (Flow ((List Bool) × Int) (Ex (List Bool) ((List Bool) × Int))) → Exit → St → Prop :=
  LQ 0 [] (m_plant_Live_v1_S0 p u0) (m_plant_Live_v1_B0 p) (m_plant_Live_v1_R p)
section
variable (u2 : (List Bool)) (u0 : (List Island)) (u1 : Int) (u3 : Int)
abbrev k842 : List (Nat × TV) := [(k839 u2), (k592 u0 u1), (k588 u0), (k589 u0), (25, (vI u1)), (k593 u0 u1), (k594 u0 u1), (32, (vI u3))]
end
def m_plant_Live_v1_S1 (p : Plant) (u0 : (List Island)) (u1 : Int) : ((List Bool) × Int) → St :=
  fun zz => match zz with | (u2, u3) => ⟨(k842 u2 u0 u1 u3), (k840 u2 p)⟩
def m_plant_Live_v1_B1 (p : Plant) (u0 : (List Island)) (u2 : Int) : (List Bool) → St :=
  fun u1 => (k838 u1 p u0 u2)
def m_plant_Live_v1_Q1 (p : Plant) (u0 : (List Island)) (u1 : Int) : (Flow ((List Bool) × Int) (Ex (List Bool) (Flow ((List Bool) × Int) (Ex (List Bool) ((List Bool) × Int))))) → Exit → St → Prop :=
  LQ 2 [1] (m_plant_Live_v1_S1 p u0 u1) (m_plant_Live_v1_B1 p u0 u1) (m_plant_Live_v1_Q0 p u0)
section
variable (u2 : (List Bool)) (u0 : (List Island)) (u1 : Int) (u3 : Int) (p : Plant)
abbrev k843 : Nat × TV := (7, (vO 12 true (k602 u0 u1 u2 u3)))
abbrev k844 : List (Nat × Option Ob) := [(k619 p), (k620 p), (k621 p), (12, some (k604 u0 u1 u2 u3))]
end
theorem m_plant_Live_v1_ok (p : Plant) (s_ : State) {r : ((List Bool) × Int)} (h : m_plant_Live_v1 p s_ = some r) : Fn Try.prog 21 (k651 p s_) (k633 p) (.tup [(sD (slD none 1 boolC r.1)), (sI r.2)]) (k633 p) := by
 refine fN tT Try.func21 rfl rfl fun B => ?_
 show AWp _ _ _ _ _ _ ((m_plant_Live_v1_R p) r) _
 unfold m_plant_Live_v1 at h
 refine sz tT ⟨[(2, (vP 10 0)), (k72 s_)], (k660 p)⟩ { fr := [(0, 10), (1, 11)] } [11] ?_
 refine aQ (aQ (bE h fun r_ hr_ h => ?_))
 refine rg tT ⟨[(2, (vP 10 0)), (k72 s_), (6, (vI r_))], (k660 p)⟩ [Fn Try.prog 12 (k651 p s_) (k633 p) (vI r_) (k633 p)] { an := [(2, .callR [0, 1, 2] (vI r_))] } [] ⟨(Fn.lend (frz := [0, 1, 2]) (p := [p.sources.length = p.sources.length, p.links.length = p.links.length, p.racks.length = p.racks.length]) (Fn.le (args' := (k652 p s_)) (m_plant_CheckState_ok p s_ hr_) ⟨SLe.agg ⟨CLe.refl _, CLe.d DLe.nn', CLe.d DLe.nn', CLe.d DLe.nn', trivial⟩, SLe.refl _, trivial⟩) (by kernel_rfl) ⟨rfl, rfl, rfl, trivial⟩ rfl), trivial⟩ ?_
 refine sz tT ⟨[(2, (vP 10 0)), (k72 s_), (6, (vI r_)), (16, (vB (!decide (r_ = 0))))], (k660 p)⟩ {} [] ?_
 refine bI h (fun hb2 h => ?_) (fun hb2 h => ?_)
 ·refine ct hb2 ?_
  refine sz tT (k662 p r_) {} [] ?_
  refine aI (Imp.le (st' := ⟨[(4, (vD k436)), (5, (vI r_))], (k633 p)⟩) ⟨⟨⟨_, rfl, TLe.v (SLe.one (CLe.d DLe.nil'))⟩, tR, trivial⟩, ⟨rfl, .refl _, ⟨rfl, .refl _, ⟨rfl, .refl _, trivial⟩⟩⟩⟩) ?_
  refine aR ?_
  obtain rfl := oi h
  exact rh [(sD k436), (sI r_)] (.refl _) ⟨rfl, .refl _, ⟨rfl, .refl _, ⟨rfl, .refl _, trivial⟩⟩⟩
 ·refine cf hb2 ?_
  refine aP (aQ (aO h fun ⟨a1, a2, a3⟩ h => ?_))
  refine rg tT ⟨[(2, (vP 10 0)), (k72 s_), (7, (vO 12 true ((k595 p).length)))], [(k619 p), (k620 p), (k621 p), (k661 p), (12, some (arD 4 1 boolC (k595 p)))]⟩ [_, (p.buses : Int) = p.buses, _, _, (k595 p).length = p.buses.toNat, ArrEq p.buses.toNat 1 (fun _ j => [(.bool false)].getD j .nilp) (k596 p)] { an := [(2, .arr (k595 p).length (k596 p))], fr := [(2, 12)] } [] ⟨a1, rfl, a2, a3, (List.length_replicate), (arrEq_rep _ _ _ _ _ (fun j hj => (match j, hj with | 0, _ => rfl))), trivial⟩ ?_
  refine aQ (aQ (bE h fun u0 hr_1 h => ?_))
  have q0 := m_plant_islands_v2_ok p s_ hr_1
  refine rg tT ⟨[(7, (vO 12 true ((k595 p).length))), (k588 u0), (k589 u0), (25, (vI 0))], [(k619 p), (k620 p), (k621 p), (12, some (arD 4 1 boolC (k595 p)))]⟩ [_] { an := [(2, cR q0 [0, 1, 2])] } [] ⟨q0, trivial⟩ ?_
  refine bE h fun y1 hy h => ?_
  refine aL [] (m_plant_Live_v1_S0 p u0) (m_plant_Live_v1_B0 p) (m_plant_Live_v1_R p) hy (fun s f h => ?_) ?_
  ·clear hy
   show AWp _ _ _ _ _ _ ((m_plant_Live_v1_Q0 p u0) f) _
   unfold m_plant_Live_v1_L0 at h
   obtain ⟨u4, u1⟩ := s
   refine sz tT ⟨[(k839 u4), (k588 u0), (k589 u0), (25, (vI u1)), (26, (vB (decide (u1 < (u0.length : Int)))))], (k840 u4 p)⟩ {} [] ?_
   refine aQ ?_
   refine bI h (fun hb1 h => ?_) (fun hb1 h => ?_)
   ·refine ct hb1 ?_
    refine aP (aQ (aB (aQ (aO h fun a1 h => ?_))))
    refine rg tT ⟨[(k839 u4), (9, (vP 16 0)), (k588 u0), (k589 u0), (25, (vI u1))], [(k619 p), (k620 p), (k621 p), (12, some (arD 4 1 boolC u4)), (16, some (k597 u0 u1))]⟩ [_] { fr := [(2, 16)] } [] ⟨a1, trivial⟩ ?_
    refine sz tT ⟨[(k839 u4), (k592 u0 u1), (k588 u0), (k589 u0), (25, (vI u1)), (k593 u0 u1), (k594 u0 u1), (32, (vI 0))], (k840 u4 p)⟩ {} [16] ?_
    refine bE h fun y hy h => ?_
    refine aL [1] (m_plant_Live_v1_S1 p u0 u1) (m_plant_Live_v1_B1 p u0 u1) (m_plant_Live_v1_Q0 p u0) hy (fun s f h => ?_) ?_
    ·clear hy
     show AWp _ _ _ _ _ _ ((m_plant_Live_v1_Q1 p u0 u1) f) _
     unfold m_plant_Live_v1_L1 at h
     obtain ⟨u2, u3⟩ := s
     refine sz tT ⟨[(k839 u2), (k592 u0 u1), (k588 u0), (k589 u0), (25, (vI u1)), (k593 u0 u1), (k594 u0 u1), (32, (vI u3)), (33, (vB (decide (u3 < (((at' u0 u1.toNat).buses).length : Int)))))], (k840 u2 p)⟩ {} [] ?_
     refine aQ ?_
     refine bI h (fun hb h => ?_) (fun hb h => ?_)
     ·refine ct hb ?_
      refine aP (aQ (aB (aQ (aO h fun a1 h => ?_))))
      refine rg tT ⟨[(k839 u2), (k592 u0 u1), (11, (vI (at' ((at' u0 u1.toNat).buses) u3.toNat))), (k588 u0), (k589 u0), (25, (vI u1)), (k593 u0 u1), (k594 u0 u1), (32, (vI u3))], (k840 u2 p)⟩ [_] {} [] ⟨a1, trivial⟩ ?_
      refine aO h fun a1 h => ?_
      refine ri tT ⟨(k842 u2 u0 u1 u3), [(k619 p), (k620 p), (k621 p), (12, some (.arr 4 1 u2.length (k598 u0 u1 u2 u3)))]⟩ [_, _, ArrEq u2.length 1 (k600 u0 u1 u2 u3) (k598 u0 u1 u2 u3)] { an := [(7, .arr 0 (k598 u0 u1 u2 u3))] } [] ⟨a1, (tL a1), (arrEq_set' _ _ _ _ _ _ _ _ rfl (fun j hj => (match j, hj with | 0, _ => rfl))), trivial⟩ (Imp.le (st' := ⟨[(k843 u2 u0 u1 u3), (k592 u0 u1), (k588 u0), (k589 u0), (25, (vI u1)), (k593 u0 u1), (k594 u0 u1), (32, (vI u3))], (k844 u2 u0 u1 u3 p)⟩) ⟨⟨⟨_, rfl, TLe.v (SLe.one cW)⟩, tR, tR, tR, tR, tR, tR, tR, trivial⟩, ⟨rfl, .refl _, ⟨rfl, .refl _, ⟨rfl, .refl _, ⟨rfl, oW, trivial⟩⟩⟩⟩⟩) ?_
      refine rz tT ⟨[(k843 u2 u0 u1 u3), (k592 u0 u1), (k588 u0), (k589 u0), (25, (vI u1)), (k593 u0 u1), (k594 u0 u1), (k531 u3)], (k844 u2 u0 u1 u3 p)⟩ {} [] ?_
      obtain rfl := oi h
      exact lN (by kernel_rfl)
     ·refine cf hb ?_
      refine aI (fz (k838 u2 p u0 u1) []) ?_
      refine aX ?_
      obtain rfl := oi h
      exact lB (by kernel_rfl)
    ·clear hy
     cases y with
     | brk z =>
      obtain ⟨u6, rfl⟩ : ∃ q, q = z := ⟨_, rfl⟩
      unfold ExK
      refine ⟨_, .refl, ?_⟩
      refine rz tT ⟨[(k839 u6), (k588 u0), (k589 u0), (k255 u1)], (k840 u6 p)⟩ {} [] ?_
      obtain rfl := oi h
      exact lN (by kernel_rfl)
     | ret v =>
      obtain rfl := oi h
      unfold ExK
      intro e st hn ha hR
      cases e with
      | normal => exact absurd rfl hn
      | exit id => simp only [av_beq (b := 1) ha rfl, cond_false]; exact hR
      | goto l => exact hR
      | ret => exact hR
      | panic c => exact hR
      | outgrown => exact hR
   ·refine cf hb1 ?_
    refine aI (fz (k841 u4 p) []) ?_
    refine aX ?_
    obtain rfl := oi h
    exact lB (by kernel_rfl)
  ·clear hy
   cases y1 with
   | brk z =>
    obtain ⟨u5, rfl⟩ : ∃ q, q = z := ⟨_, rfl⟩
    unfold ExK
    refine ⟨_, .refl, ?_⟩
    refine sg tT ⟨[(4, (vD (slD (some true) 1 boolC u5))), (5, (vI 0))], (k633 p)⟩ [u5.length = u5.length] {} [12] ⟨rfl, trivial⟩ ?_
    refine aI (Imp.le (st' := ⟨[(4, (vD (slD none 1 boolC u5))), (5, (vI 0))], (k633 p)⟩) ⟨⟨⟨_, rfl, TLe.v (SLe.one (CLe.d DLe.nn'))⟩, tR, trivial⟩, ⟨rfl, .refl _, ⟨rfl, .refl _, ⟨rfl, .refl _, trivial⟩⟩⟩⟩) ?_
    refine aR ?_
    obtain rfl := oi h
    exact rh [(sD (slD none 1 boolC u5)), (sI 0)] (.refl _) ⟨rfl, .refl _, ⟨rfl, .refl _, ⟨rfl, .refl _, trivial⟩⟩⟩
   | ret v =>
    obtain rfl := oi h
    unfold ExK
    intro e st hn ha hR
    cases e with
    | normal => exact absurd rfl hn
    | exit id => exact hR
    | goto l => exact hR
    | ret => exact hR
    | panic c => exact hR
    | outgrown => exact hR
def m_plant_Fed_v1_R (p : Plant) : ((List Arr2Bool) × Int) → Exit → St → Prop :=
  fun r => RetQ TT [.tmp 4, .tmp 5] (.tup [(sD (slD none 2 Arr2Bool.cell r.1)), (sI r.2)]) (k633 p)
section
variable (r_ : ((List Bool) × Int)) (u0 : (List Arr2Bool)) (p : Plant)
abbrev k845 : Nat × TV := (6, (vD (slD none 1 boolC r_.1)))
abbrev k846 : Nat × TV := (8, (vO 26 false u0.length))
abbrev k847 : Nat × TV := (24, (vO 2 true p.racks.length))
abbrev k848 : Nat × TV := (25, (vI (p.racks.length : Int)))
abbrev k850 : Nat × Option Ob := (26, some (arD 206 2 Arr2Bool.cell u0))
abbrev k849 : List (Nat × Option Ob) := [(k619 p), (k620 p), (k621 p), (k850 u0)]
end
def m_plant_Fed_v1_S0 (p : Plant) (r_ : ((List Bool) × Int)) : ((List Arr2Bool) × Int) → St :=
  fun zz => match zz with | (u0, u1) => ⟨[(k845 r_), (k846 u0), (k847 p), (k848 p), (26, (vI u1))], (k849 u0 p)⟩
section
variable (u0 : (List Arr2Bool)) (p : Plant)
abbrev k851 : St := ⟨[(k846 u0)], (k849 u0 p)⟩
end
def m_plant_Fed_v1_B0 (p : Plant) : (List Arr2Bool) → St :=
  fun u0 => (k851 u0 p)
def m_plant_Fed_v1_Q0 (p : Plant) (r_ : ((List Bool) × Int)) : (Flow ((List Arr2Bool) × Int) (Ex (List Arr2Bool) ((List Arr2Bool) × Int))) → Exit → St → Prop :=
  LQ 0 [] (m_plant_Fed_v1_S0 p r_) (m_plant_Fed_v1_B0 p) (m_plant_Fed_v1_R p)
section
variable (p : Plant) (u0 : Int) (u1 : (List Arr2Bool)) (r_ : ((List Bool) × Int))
abbrev k852 : List (Nat × Option Ob) := [(k619 p), (k620 p), (k621 p), (21, some (k626 p))]
abbrev k855 := ((at' p.racks u0.toNat).feeds)
abbrev k854 := ((k855 p u0).e0)
abbrev k856 := ((k855 p u0).e1)
abbrev k853 : Nat × TV := (10, (vD (ipT [(.int .i64 (k854 p u0)), (.int .i64 (k856 p u0)), (.int .i64 ((at' p.racks u0.toNat).power)), (.int .i64 ((at' p.racks u0.toNat).paths))] 0)))
abbrev k857 : List (Nat × Option Ob) := [(k619 p), (k620 p), (k621 p), (k850 u1), (36, some (.cells 206 [(cB false), (cB false)]))]
abbrev k860 : List CV := [(cI (k854 p u0)), (cI (k856 p u0))]
abbrev k859 : Nat × TV := (31, (.v (.agg (k860 p u0))))
abbrev k858 : List (Nat × TV) := [(k845 r_), (k846 u1), (11, (vP 36 0)), (k847 p), (k848 p), (26, (vI u0)), (k859 p u0), (32, (vI 0))]
abbrev k863 := (decide (0 ≤ (k854 p u0)))
abbrev k862 := (bif (k863 p u0) then (at' r_.1 ((k854 p u0).toNat)) else false)
abbrev k861 : List (Nat × Option Ob) := [(k619 p), (k620 p), (k621 p), (k850 u1), (36, some (.cells 206 [(cB (k862 p u0 r_)), (cB false)]))]
abbrev k864 : List (Nat × TV) := [(k845 r_), (k846 u1), (11, (vP 36 0)), (k847 p), (k848 p), (26, (vI u0)), (k859 p u0), (32, (vI 1))]
abbrev k867 := (decide (0 ≤ (k856 p u0)))
abbrev k866 := (bif (k867 p u0) then (at' r_.1 ((k856 p u0).toNat)) else false)
abbrev k865 : List (Nat × Option Ob) := [(k619 p), (k620 p), (k621 p), (k850 u1), (36, some (.cells 206 [(cB (k862 p u0 r_)), (cB (k866 p u0 r_))]))]
abbrev k871 := (⟨(k862 p u0 r_), (k866 p u0 r_)⟩ : Arr2Bool)
abbrev k870 := (u1 ++ [(k871 p u0 r_)])
abbrev k869 := ((k870 p u0 u1 r_).length)
abbrev k868 : Nat × TV := (8, (vO 38 false (k869 p u0 u1 r_)))
abbrev k873 : Ob := (arD 206 2 Arr2Bool.cell (k870 p u0 u1 r_))
abbrev k872 : List (Nat × Option Ob) := [(k619 p), (k620 p), (k621 p), (38, some (k873 p u0 u1 r_))]
abbrev k874 := (elOf Arr2Bool.cell [(k871 p u0 r_)])
abbrev k875 := (elOf Arr2Bool.cell (k870 p u0 u1 r_))
end
theorem m_plant_Fed_v1_ok (p : Plant) (s_ : State) {r : ((List Arr2Bool) × Int)} (h : m_plant_Fed_v1 p s_ = some r) : Fn Try.prog 104 (k651 p s_) (k633 p) (.tup [(sD (slD none 2 Arr2Bool.cell r.1)), (sI r.2)]) (k633 p) := by
 refine fN tT Try.func104 rfl rfl fun B => ?_
 show AWp _ _ _ _ _ _ ((m_plant_Fed_v1_R p) r) _
 unfold m_plant_Fed_v1 at h
 refine sz tT ⟨[(2, (vP 21 0)), (k72 s_)], (k852 p)⟩ { fr := [(0, 21), (1, 22)] } [22] ?_
 refine aQ (bE h fun r_ hr_ h => ?_)
 have q0 := m_plant_Live_v1_ok p s_ hr_
 refine rg tT ⟨[(2, (vP 21 0)), (k845 r_), (7, (vI r_.2))], (k852 p)⟩ [_] { an := [(2, cR q0 [0, 1, 2])] } [] ⟨q0, trivial⟩ ?_
 refine aQ (sz tT ⟨[(2, (vP 21 0)), (k845 r_), (7, (vI r_.2)), (21, (vB (!decide (r_.2 = 0))))], (k852 p)⟩ {} [] ?_)
 refine bI h (fun hb1 h => ?_) (fun hb1 h => ?_)
 ·refine ct hb1 ?_
  refine sz tT ⟨[(4, (vD nS)), (5, (vI r_.2))], (k633 p)⟩ {} [] ?_
  refine aI (Imp.le (st' := ⟨[(4, (vD (slD none 2 Arr2Bool.cell ([] : List Arr2Bool)))), (5, (vI r_.2))], (k633 p)⟩) ⟨⟨⟨_, rfl, TLe.v (SLe.one (CLe.d DLe.nil'))⟩, tR, trivial⟩, ⟨rfl, .refl _, ⟨rfl, .refl _, ⟨rfl, .refl _, trivial⟩⟩⟩⟩) ?_
  refine aR ?_
  obtain rfl := oi h
  exact rh [(sD (slD none 2 Arr2Bool.cell ([] : List Arr2Bool))), (sI r_.2)] (.refl _) ⟨rfl, .refl _, ⟨rfl, .refl _, ⟨rfl, .refl _, trivial⟩⟩⟩
 ·refine cf hb1 ?_
  refine aP (sz tT ⟨[(2, (vP 21 0)), (k845 r_), (8, (vD nS))], (k852 p)⟩ {} [] ?_)
  refine aQ (sz tT ⟨[(k845 r_), (8, (vD nS)), (k847 p), (k848 p), (26, (vI 0))], (k633 p)⟩ {} [] ?_)
  refine bE h fun y hy h => ?_
  refine aI (.trans (Imp.adopt (t := 8) (b := 39) (esz0 := 0) (el0 := fun _ _ => .nilp) (E := 206) (esz := 2) (el := elOf Arr2Bool.cell ([] : List Arr2Bool)) (by kernel_rfl) (by kernel_rfl)) (.trans (Imp.fin (st' := ⟨[(k845 r_), (8, (vO 26 false 0)), (k847 p), (k848 p), (26, (vI 0))], [(k619 p), (k620 p), (k621 p), (26, some (.arr 206 2 0 (elOf Arr2Bool.cell ([] : List Arr2Bool))))]⟩) (cs := []) ⟨[], [(0, 0), (1, 1), (2, 2), (39, 26)]⟩ [6, 8, 24, 25, 26] (by kernel_rfl) trivial) (Imp.le (st' := ⟨[(k845 r_), (8, (vO 26 false (([] : List Arr2Bool).length))), (k847 p), (k848 p), (26, (vI 0))], [(k619 p), (k620 p), (k621 p), (26, some (arD 206 2 Arr2Bool.cell ([] : List Arr2Bool)))]⟩) ⟨⟨tR, ⟨_, rfl, TLe.v (SLe.one cW)⟩, tR, tR, tR, trivial⟩, ⟨rfl, .refl _, ⟨rfl, .refl _, ⟨rfl, .refl _, ⟨rfl, oW, trivial⟩⟩⟩⟩⟩))) ?_
  refine aL [] (m_plant_Fed_v1_S0 p r_) (m_plant_Fed_v1_B0 p) (m_plant_Fed_v1_R p) hy (fun s f h => ?_) ?_
  ·clear hy
   show AWp _ _ _ _ _ _ ((m_plant_Fed_v1_Q0 p r_) f) _
   unfold m_plant_Fed_v1_L0 at h
   obtain ⟨u1, u0⟩ := s
   refine sz tT ⟨[(k845 r_), (k846 u1), (k847 p), (k848 p), (26, (vI u0)), (27, (vB (decide (u0 < (p.racks.length : Int)))))], (k849 u1 p)⟩ {} [] ?_
   refine aQ ?_
   refine bI h (fun hb h => ?_) (fun hb h => ?_)
   ·refine ct hb ?_
    refine aP (aQ (aB (aQ (aO h fun a1 h => ?_))))
    refine rg tT ⟨[(k845 r_), (k846 u1), (k853 p u0), (k847 p), (k848 p), (26, (vI u0))], (k849 u1 p)⟩ [_, _] { fr := [(2, 35)] } [35] ⟨a1, (tL a1), trivial⟩ ?_
    refine sz tT ⟨[(k845 r_), (k846 u1), (k853 p u0), (11, (vP 36 0)), (k847 p), (k848 p), (26, (vI u0))], (k857 p u1)⟩ { fr := [(0, 36)] } [] ?_
    refine aQ (sz tT ⟨(k858 p u0 u1 r_), (k857 p u1)⟩ {} [] ?_)
    refine aB (awp_loopN 12 (loopN_succ 11 (sz tT ⟨[(k845 r_), (k846 u1), (11, (vP 36 0)), (k847 p), (k848 p), (26, (vI u0)), (k859 p u0), (32, (vI 0)), (33, (vB true))], (k857 p u1)⟩ {} [] ?_)))
    refine aQ (ck (aP (aQ (aB (sg tT ⟨[(k845 r_), (k846 u1), (11, (vP 36 0)), (12, (vI 0)), (13, (vI (k854 p u0))), (k847 p), (k848 p), (26, (vI u0)), (k859 p u0), (32, (vI 0))], (k857 p u1)⟩ [(0 : Int) ≤ 0 ∧ (0 : Int) < (2 : Nat), 0 * 1 + 1 ≤ (k860 p u0).length, ((k860 p u0).drop (0 * 1)).take 1 = [(.int .i64 (k854 p u0))].map .d] { an := [(1, .vals [(.int .i64 (k854 p u0))])] } [] ⟨((by decide)), (Nat.le_of_ble_eq_true rfl), (rfl), trivial⟩ ?_)))))
    refine aO h fun a1 h => ?_
    refine rg tT ⟨(k858 p u0 u1 r_), (k861 p u0 u1 r_)⟩ (eqs (k863 p u0) 3 ((gP (ybf [(3, (k863 p u0))]) [(3, true)] → All [(0 : Int) ≤ (k855 p u0).e0 ∧ (k855 p u0).e0 < (r_.1.length : Int)]) :: (eqs (k863 p u0) 2 [(0 : Int) ≤ 0 ∧ (0 : Int) < (2 : Nat)]))) { yb := [(3, (k863 p u0))] } [] (ae ⟨(fun hg => ⟨(a1 (gB_of hg)), trivial⟩), (ae ⟨((by decide)), trivial⟩)⟩) ?_
    refine rz tT ⟨(k864 p u0 u1 r_), (k861 p u0 u1 r_)⟩ {} [] ?_
    refine loopN_succ 10 (sz tT ⟨[(k845 r_), (k846 u1), (11, (vP 36 0)), (k847 p), (k848 p), (26, (vI u0)), (k859 p u0), (32, (vI 1)), (33, (vB true))], (k861 p u0 u1 r_)⟩ {} [] ?_)
    refine aQ (ck (aP (aQ (aB (sg tT ⟨[(k845 r_), (k846 u1), (11, (vP 36 0)), (12, (vI 1)), (13, (vI (k856 p u0))), (k847 p), (k848 p), (26, (vI u0)), (k859 p u0), (32, (vI 1))], (k861 p u0 u1 r_)⟩ [(0 : Int) ≤ 1 ∧ (1 : Int) < (2 : Nat), 1 * 1 + 1 ≤ (k860 p u0).length, ((k860 p u0).drop (1 * 1)).take 1 = [(.int .i64 (k856 p u0))].map .d] { an := [(1, .vals [(.int .i64 (k856 p u0))])] } [] ⟨((by decide)), (Nat.le_of_ble_eq_true rfl), (rfl), trivial⟩ ?_)))))
    refine aO h fun a1 h => ?_
    refine rg tT ⟨(k864 p u0 u1 r_), (k865 p u0 u1 r_)⟩ (eqs (k867 p u0) 3 ((gP (ybf [(3, (k867 p u0))]) [(3, true)] → All [(0 : Int) ≤ (k855 p u0).e1 ∧ (k855 p u0).e1 < (r_.1.length : Int)]) :: (eqs (k867 p u0) 2 [(0 : Int) ≤ 1 ∧ (1 : Int) < (2 : Nat)]))) { yb := [(3, (k867 p u0))] } [] (ae ⟨(fun hg => ⟨(a1 (gB_of hg)), trivial⟩), (ae ⟨((by decide)), trivial⟩)⟩) ?_
    refine rz tT ⟨[(k845 r_), (k846 u1), (11, (vP 36 0)), (k847 p), (k848 p), (26, (vI u0)), (k859 p u0), (32, (vI 2))], (k865 p u0 u1 r_)⟩ {} [] ?_
    refine loopN_succ 9 (sz tT ⟨[(k845 r_), (k846 u1), (11, (vP 36 0)), (k847 p), (k848 p), (26, (vI u0)), (k859 p u0), (32, (vI 2)), (33, (vB false))], (k865 p u0 u1 r_)⟩ {} [] ?_)
    refine aQ (cn (aX (aO h fun ⟨a1, a2⟩ h => ?_)))
    refine rg tT ⟨[(k845 r_), (k868 p u0 u1 r_), (k847 p), (k848 p), (26, (vI u0))], (k872 p u0 u1 r_)⟩ [[(k871 p u0 r_)].length = 1, ArrEq 1 2 (elL 2 [(.bool (k862 p u0 r_)), (.bool (k866 p u0 r_))]) (k874 p u0 r_), u1.length = u1.length, _, _, (k870 p u0 u1 r_).length = u1.length + [(k871 p u0 r_)].length, ArrEq (u1.length + [(k871 p u0 r_)].length) 2 (apEl (elOf Arr2Bool.cell u1) u1.length (k874 p u0 r_)) (k875 p u0 u1 r_)] { an := [(2, .arr [(k871 p u0 r_)].length (k874 p u0 r_)), (3, .arr (k870 p u0 u1 r_).length (k875 p u0 u1 r_))], fr := [(2, 37), (3, 38)] } [] ⟨(rfl), ((by intro i hi j hj; match i, j, hi, hj with | 0, 0, _, _ => rfl | 0, 1, _, _ => rfl)), rfl, a1, a2, (List.length_append), (arrEq_app _ _ _ _), trivial⟩ ?_
    refine ri tT ⟨[(k845 r_), (k868 p u0 u1 r_), (k847 p), (k848 p), (26, (k30 u0))], (k872 p u0 u1 r_)⟩ [] {} [] trivial (Imp.fin (st' := ⟨[(k845 r_), (8, (vO 26 false (k869 p u0 u1 r_))), (k847 p), (k848 p), (26, (k30 u0))], [(k619 p), (k620 p), (k621 p), (26, some (k873 p u0 u1 r_))]⟩) (cs := []) ⟨[], [(0, 0), (1, 1), (2, 2), (38, 26)]⟩ [6, 8, 24, 25, 26] (by kernel_rfl) trivial) ?_
    obtain rfl := oi h
    exact lN (by kernel_rfl)
   ·refine cf hb ?_
    refine aI (fz (k851 u1 p) []) ?_
    refine aX ?_
    obtain rfl := oi h
    exact lB (by kernel_rfl)
  ·clear hy
   cases y with
   | brk z =>
    obtain ⟨u2, rfl⟩ : ∃ q, q = z := ⟨_, rfl⟩
    unfold ExK
    refine ⟨_, .refl, ?_⟩
    refine sg tT ⟨[(4, (vD (slD none 2 Arr2Bool.cell u2))), (5, (vI 0))], (k633 p)⟩ [u2.length = u2.length] {} [26] ⟨rfl, trivial⟩ ?_
    refine aR ?_
    obtain rfl := oi h
    exact rh [(sD (slD none 2 Arr2Bool.cell u2)), (sI 0)] (.refl _) ⟨rfl, .refl _, ⟨rfl, .refl _, ⟨rfl, .refl _, trivial⟩⟩⟩
   | ret v =>
    obtain rfl := oi h
    unfold ExK
    intro e st hn ha hR
    cases e with
    | normal => exact absurd rfl hn
    | exit id => exact hR
    | goto l => exact hR
    | ret => exact hR
    | panic c => exact hR
    | outgrown => exact hR
def m_guard_Lost_v1_R (p : Plant) : ((List Int) × Int) → Exit → St → Prop :=
  fun r => RetQ TT [.tmp 6, .tmp 7] (.tup [(sD (slD none 1 (intC .i64) r.1)), (sI r.2)]) (k633 p)
section
variable (u1 : ((List Arr2Bool) × Int)) (u2 : ((List Arr2Bool) × Int)) (u0 : (List Int)) (p : Plant)
abbrev k876 : Nat × TV := (12, (vD (slD none 2 Arr2Bool.cell u1.1)))
abbrev k877 : Nat × TV := (14, (vD (slD none 2 Arr2Bool.cell u2.1)))
abbrev k878 : Nat × TV := (16, (vD (.fn 105 0 (capF []))))
abbrev k879 : Nat × TV := (17, (vO 24 false u0.length))
abbrev k880 : Nat × TV := (57, (vI (p.racks.length : Int)))
abbrev k881 : List (Nat × Option Ob) := [(k619 p), (k620 p), (k621 p), (24, some (k226 u0))]
end
def m_guard_Lost_v1_S0 (p : Plant) (u1 : ((List Arr2Bool) × Int)) (u2 : ((List Arr2Bool) × Int)) : ((List Int) × Int) → St :=
  fun zz => match zz with | (u0, u3) => ⟨[(k876 u1), (k877 u2), k878, (k879 u0), (k880 p), (58, (vI u3))], (k881 u0 p)⟩
section
variable (u0 : (List Int)) (p : Plant)
abbrev k882 : St := ⟨[(k879 u0)], (k881 u0 p)⟩
end
def m_guard_Lost_v1_B0 (p : Plant) : (List Int) → St :=
  fun u0 => (k882 u0 p)
def m_guard_Lost_v1_Q0 (p : Plant) (u0 : ((List Arr2Bool) × Int)) (u1 : ((List Arr2Bool) × Int)) : (Flow ((List Int) × Int) (Ex (List Int) ((List Int) × Int))) → Exit → St → Prop :=
  LQ 1 [] (m_guard_Lost_v1_S0 p u0 u1) (m_guard_Lost_v1_B0 p) (m_guard_Lost_v1_R p)
section
variable (p : Plant) (u4 : (State × Int)) (u1 : (List Int)) (u0 : Int)
abbrev k884 : Nat × Option Ob := (17, some (k626 p))
abbrev k883 : List (Nat × Option Ob) := [(k619 p), (k620 p), (k621 p), (k884 p)]
abbrev k885 : Nat × TV := (10, (k787 u4))
abbrev k886 : List (Nat × Option Ob) := [(k619 p), (k620 p), (k621 p), (30, some (arD 3 1 (intC .i64) (u1 ++ [u0])))]
end
theorem m_guard_Lost_v1_ok (p : Plant) (s_ : State) (u5 : Int) {r : ((List Int) × Int)} (h : m_guard_Lost_v1 p s_ u5 = some r) : Fn Try.prog 61 (k632 p s_ u5) (k633 p) (.tup [(sD (slD none 1 (intC .i64) r.1)), (sI r.2)]) (k633 p) := by
 refine fN tT Try.func61 rfl rfl fun B => ?_
 show AWp _ _ _ _ _ _ ((m_guard_Lost_v1_R p) r) _
 unfold m_guard_Lost_v1 at h
 refine sz tT ⟨[(2, (vI u5)), (3, (vP 17 0)), (k120 s_)], (k883 p)⟩ { fr := [(0, 17), (1, 18)] } [18] ?_
 refine aQ (bE h fun r_ hr_ h => ?_)
 have q0 := rk [(3, 19), (4, 20)] (m_guard_Clear_v2_ok p s_ u5 hr_)
 refine ri tT ⟨[(2, (vI u5)), (3, (vP 17 0)), (k120 s_), (8, (vP 21 0)), (9, (vI r_.2))], [(k619 p), (k620 p), (k621 p), (k884 p), (21, some (k456 r_))]⟩ [_, r_.1.events.length = r_.1.events.length] { an := [(3, cA q0 [0, 1, 2])], fr := [(7, 21)] } [19] ⟨q0, rfl, trivial⟩ (fz ⟨[(2, (vI u5)), (3, (vP 17 0)), (k120 s_), (k458 r_), (9, (vI r_.2))], (k883 p)⟩ [21]) ?_
 refine aQ (aB (sz tT ⟨[(2, (vI u5)), (3, (vP 17 0)), (k120 s_), (k458 r_), (9, (vI r_.2)), (26, (vB (!decide (r_.2 = 0))))], (k883 p)⟩ {} [] ?_))
 refine bI h (fun hb3 h => ?_) (fun hb3 h => ?_)
 ·refine ct hb3 ?_
  refine sz tT ⟨[(6, (vD nS)), (7, (vI r_.2))], (k633 p)⟩ {} [] ?_
  refine aI (Imp.le (st' := ⟨[(6, (vD (slD none 1 (intC .i64) ([] : List Int)))), (7, (vI r_.2))], (k633 p)⟩) ⟨⟨⟨_, rfl, TLe.v (SLe.one (CLe.d DLe.nil'))⟩, tR, trivial⟩, ⟨rfl, .refl _, ⟨rfl, .refl _, ⟨rfl, .refl _, trivial⟩⟩⟩⟩) ?_
  refine aR ?_
  obtain rfl := oi h
  exact rh [(sD (slD none 1 (intC .i64) ([] : List Int))), (sI r_.2)] (.refl _) ⟨rfl, .refl _, ⟨rfl, .refl _, ⟨rfl, .refl _, trivial⟩⟩⟩
 ·refine cf hb3 ?_
  refine sz tT ⟨[(2, (vI u5)), (3, (vP 17 0)), (k120 s_), (k458 r_), (30, (vB (!r_.1.cleared)))], (k883 p)⟩ {} [] ?_
  refine bI h (fun hb2 h => ?_) (fun hb2 h => ?_)
  ·refine ct hb2 ?_
   refine sz tT ⟨[(6, (vD nS)), (7, (vI 4))], (k633 p)⟩ {} [] ?_
   refine aI (Imp.le (st' := ⟨[(6, (vD (slD none 1 (intC .i64) ([] : List Int)))), (7, (vI 4))], (k633 p)⟩) ⟨⟨⟨_, rfl, TLe.v (SLe.one (CLe.d DLe.nil'))⟩, tR, trivial⟩, ⟨rfl, .refl _, ⟨rfl, .refl _, ⟨rfl, .refl _, trivial⟩⟩⟩⟩) ?_
   refine aR ?_
   obtain rfl := oi h
   exact rh [(sD (slD none 1 (intC .i64) ([] : List Int))), (sI 4)] (.refl _) ⟨rfl, .refl _, ⟨rfl, .refl _, ⟨rfl, .refl _, trivial⟩⟩⟩
  ·refine cf hb2 ?_
   refine aP (aQ (bE h fun u4 hr_1 h => ?_))
   have q0 := m_plant_Break_v1_ok p r_.1.state (⟨1, u5⟩ : Part) hr_1
   refine rg tT ⟨[(3, (vP 17 0)), (k120 s_), (k885 u4)], (k883 p)⟩ [_] { an := [(5, cR q0 [0, 1, 2])], fr := [(9, 22)] } [22] ⟨q0, trivial⟩ ?_
   refine aQ (bE h fun u3 hr_2 h => ?_)
   have q0 := m_plant_Fed_v1_ok p s_ hr_2
   refine rg tT ⟨[(3, (vP 17 0)), (k885 u4), (k876 u3)], (k883 p)⟩ [_] { an := [(2, cR q0 [0, 1, 2])] } [] ⟨q0, trivial⟩ ?_
   refine aQ (bE h fun u2 hr_3 h => ?_)
   have q0 := m_plant_Fed_v1_ok p u4.1 hr_3
   refine rg tT ⟨[(3, (vP 17 0)), (k876 u3), (k877 u2)], (k883 p)⟩ [_] { an := [(2, cR q0 [0, 1, 2])] } [] ⟨q0, trivial⟩ ?_
   refine sz tT ⟨[(3, (vP 17 0)), (k876 u3), (k877 u2), k878], (k883 p)⟩ {} [] ?_
   refine sz tT ⟨[(3, (vP 17 0)), (k876 u3), (k877 u2), k878, (17, (vD nS))], (k883 p)⟩ {} [] ?_
   refine aQ (sz tT ⟨[(k876 u3), (k877 u2), k878, (17, (vD nS)), (k880 p), (58, (vI 0))], (k633 p)⟩ {} [] ?_)
   refine bE h fun y hy h => ?_
   refine aI (.trans (Imp.adopt (t := 17) (b := 31) (esz0 := 0) (el0 := fun _ _ => .nilp) (E := 3) (esz := 1) (el := elOf (intC .i64) ([] : List Int)) (by kernel_rfl) (by kernel_rfl)) (.trans (Imp.fin (st' := ⟨[(k876 u3), (k877 u2), k878, (17, (vO 24 false 0)), (k880 p), (58, (vI 0))], [(k619 p), (k620 p), (k621 p), (24, some (.arr 3 1 0 (elOf (intC .i64) ([] : List Int))))]⟩) (cs := []) ⟨[], [(0, 0), (1, 1), (2, 2), (31, 24)]⟩ [12, 14, 16, 17, 57, 58] (by kernel_rfl) trivial) (Imp.le (st' := ⟨[(k876 u3), (k877 u2), k878, (17, (vO 24 false (([] : List Int).length))), (k880 p), (58, (vI 0))], [(k619 p), (k620 p), (k621 p), (24, some k132)]⟩) ⟨⟨tR, tR, tR, ⟨_, rfl, TLe.v (SLe.one cW)⟩, tR, tR, trivial⟩, ⟨rfl, .refl _, ⟨rfl, .refl _, ⟨rfl, .refl _, ⟨rfl, oW, trivial⟩⟩⟩⟩⟩))) ?_
   refine aL [] (m_guard_Lost_v1_S0 p u3 u2) (m_guard_Lost_v1_B0 p) (m_guard_Lost_v1_R p) hy (fun s f h => ?_) ?_
   ·clear hy
    show AWp _ _ _ _ _ _ ((m_guard_Lost_v1_Q0 p u3 u2) f) _
    unfold m_guard_Lost_v1_L0 at h
    obtain ⟨u1, u0⟩ := s
    refine sz tT ⟨[(k876 u3), (k877 u2), k878, (k879 u1), (k880 p), (58, (vI u0)), (59, (vB (decide (u0 < (p.racks.length : Int)))))], (k881 u1 p)⟩ {} [] ?_
    refine aQ ?_
    refine bI h (fun hb1 h => ?_) (fun hb1 h => ?_)
    ·refine ct hb1 ?_
     refine aP (aQ (aB (sz tT ⟨[(k876 u3), (k877 u2), k878, (k879 u1), (18, (vI u0)), (k880 p), (58, (vI u0))], (k881 u1 p)⟩ {} [] ?_)))
     refine aQ (bE h fun u6 hr_4 h => ?_)
     refine bE h fun u8 hr_5 h => ?_
     refine aO h fun ⟨a1, a2⟩ h => ?_
     have q1 := m_guard_Lost_1_ok (at' u3.1 u0.toNat) hr_4
     refine rg tT ⟨[(k876 u3), (k877 u2), k878, (k879 u1), (18, (vI u0)), (k880 p), (58, (vI u0)), (75, (vB (bif u6 then (!u8) else false)))], (k881 u1 p)⟩ (_ :: _ :: (eqs u6 4 ((gP (ybf [(6, u6)]) [(6, true)] → All [(0 : Int) ≤ u0 ∧ u0 < (u2.1.length : Int)]) :: (eqs u6 2 ((gP (ybf [(6, u6)]) [(6, true)] → All [Fn Try.prog 105 [(.agg [(cB ((at' u2.1 u0.toNat).e0)), (cB ((at' u2.1 u0.toNat).e1))])] [] (vB u8) []]) :: (eqs u6 2 [])))))) { yb := [(6, u6)], an := [(5, cA q1 []), (12, .call [] (vB u8) [])] } [] ⟨a1, q1, (ae ⟨(fun hg => ⟨(a2 (gB_of hg)), trivial⟩), (ae ⟨(fun hg => ⟨(m_guard_Lost_1_ok (at' u2.1 u0.toNat) (gcall hr_5 (gB_of hg))), trivial⟩), (ae trivial)⟩)⟩)⟩ ?_
     refine bI h (fun hb h => ?_) (fun hb h => ?_)
     ·refine ct hb ?_
      refine aO h fun ⟨a1, a2⟩ h => ?_
      refine rg tT ⟨[(k876 u3), (k877 u2), k878, (17, (vO 30 false ((u1 ++ [u0]).length))), (k880 p), (58, (vI u0))], (k886 p u1 u0)⟩ [[u0].length = 1, ArrEq 1 1 (k187 u0) (elOf (intC .i64) [u0]), u1.length = u1.length, _, _, (u1 ++ [u0]).length = u1.length + [u0].length, ArrEq (u1.length + [u0].length) 1 (k188 u0 u1) (k189 u0 u1)] { an := [(2, .arr [u0].length (elOf (intC .i64) [u0])), (3, .arr (u1 ++ [u0]).length (k189 u0 u1))], fr := [(2, 29), (3, 30)] } [] ⟨(rfl), ((by intro i hi j hj; match i, j, hi, hj with | 0, 0, _, _ => rfl)), rfl, a1, a2, (List.length_append), (arrEq_app _ _ _ _), trivial⟩ ?_
      refine ri tT ⟨[(k876 u3), (k877 u2), k878, (17, (vO 30 false ((u1 ++ [u0]).length))), (k880 p), (58, (k30 u0))], (k886 p u1 u0)⟩ [] {} [] trivial (Imp.fin (st' := ⟨[(k876 u3), (k877 u2), k878, (17, (vO 24 false ((u1 ++ [u0]).length))), (k880 p), (58, (k30 u0))], [(k619 p), (k620 p), (k621 p), (24, some (arD 3 1 (intC .i64) (u1 ++ [u0])))]⟩) (cs := []) ⟨[], [(0, 0), (1, 1), (2, 2), (30, 24)]⟩ [12, 14, 16, 17, 57, 58] (by kernel_rfl) trivial) ?_
      obtain rfl := oi h
      exact lN (by kernel_rfl)
     ·refine cf hb ?_
      refine aP (rz tT ⟨[(k876 u3), (k877 u2), k878, (k879 u1), (k880 p), (58, (k30 u0))], (k881 u1 p)⟩ {} [] ?_)
      obtain rfl := oi h
      exact lN (by kernel_rfl)
    ·refine cf hb1 ?_
     refine aI (fz (k882 u1 p) []) ?_
     refine aX ?_
     obtain rfl := oi h
     exact lB (by kernel_rfl)
   ·clear hy
    cases y with
    | brk z =>
     obtain ⟨u7, rfl⟩ : ∃ q, q = z := ⟨_, rfl⟩
     unfold ExK
     refine ⟨_, .refl, ?_⟩
     refine sg tT ⟨[(k140 u7), (7, (vI 0))], (k633 p)⟩ [u7.length = u7.length] {} [24] ⟨rfl, trivial⟩ ?_
     refine aR ?_
     obtain rfl := oi h
     exact rh [(sD (k134 u7)), (sI 0)] (.refl _) ⟨rfl, .refl _, ⟨rfl, .refl _, ⟨rfl, .refl _, trivial⟩⟩⟩
    | ret v =>
     obtain rfl := oi h
     unfold ExK
     intro e st hn ha hR
     cases e with
     | normal => exact absurd rfl hn
     | exit id => exact hR
     | goto l => exact hR
     | ret => exact hR
     | panic c => exact hR
     | outgrown => exact hR
def m_law03_awake_R  : Bool → Exit → St → Prop :=
  fun r => RetQ TT [.tmp 0] (vB r) []
section
variable (r_ : (Plant × State)) (u0 : (Clearing × Int)) (u1 : (Bool × Int)) (u3 : ((List Int) × Int)) (u2 : (Clearing × Int)) (u4 : (Bool × Int))
abbrev k887 : Nat × Option Ob := (21, some (arD 126 5 Source.cell r_.1.sources))
abbrev k888 : Nat × Option Ob := (22, some (arD 53 6 Link.cell r_.1.links))
abbrev k889 : Nat × Option Ob := (23, some (arD 166 4 Rack.cell r_.1.racks))
abbrev k891 : List CV := [(cI r_.1.buses), (.own 21 true r_.1.sources.length), (.own 22 true r_.1.links.length), (.own 23 true r_.1.racks.length)]
abbrev k890 : Nat × Option Ob := (33, some (.cells 26 (k891 r_)))
abbrev k892 : List CV := [(.d (slD (some true) 1 boolC r_.2.closed)), (.d (slD (some true) 1 boolC r_.2.locked)), (.d (slD (some true) 1 boolC r_.2.badLink)), (.d (slD (some true) 1 boolC r_.2.on_)), (.d (slD (some true) 1 boolC r_.2.badSource)), (.d (slD (some true) 1 boolC r_.2.earthed)), (.d (slD (some true) 1 boolC r_.2.badBus))]
abbrev k893 : Nat × TV := (2, (vD (ipT [(slD (some true) 1 boolC r_.2.closed), (slD (some true) 1 boolC r_.2.locked), (slD (some true) 1 boolC r_.2.badLink), (slD (some true) 1 boolC r_.2.on_), (slD (some true) 1 boolC r_.2.badSource), (slD (some true) 1 boolC r_.2.earthed), (slD (some true) 1 boolC r_.2.badBus)] 0)))
abbrev k895 : Nat × Option Ob := (35, some (arD 56 2 Event.cell u0.1.events))
abbrev k897 : List CV := [(.own 35 false u0.1.events.length), (cB u0.1.cleared), (cI u0.1.millis), (cI u0.1.energy), (.d (slD none 1 boolC u0.1.state.closed)), (.d (slD none 1 boolC u0.1.state.locked)), (.d (slD none 1 boolC u0.1.state.badLink)), (.d (slD none 1 boolC u0.1.state.on_)), (.d (k457 u0)), (.d (slD none 1 boolC u0.1.state.earthed)), (.d (slD none 1 boolC u0.1.state.badBus))]
abbrev k896 : Nat × Option Ob := (37, some (.cells 36 (k897 u0)))
abbrev k894 : List (Nat × Option Ob) := [(k887 r_), (k888 r_), (k889 r_), (k890 r_), (k895 u0), (k896 u0)]
abbrev k898 : List SV := [(.agg (k891 r_)), (.agg (k892 r_)), (sI 2)]
abbrev k899 : List (Nat × Option Ob) := [(k887 r_), (k888 r_), (k889 r_)]
abbrev k900 : TV := (.tup [(.agg (k897 u0)), (sI u0.2)])
abbrev k901 : List (Nat × Option Ob) := [(k887 r_), (k888 r_), (k889 r_), (k895 u0), (36, none)]
abbrev k903 : List CV := [(.d (slD none 1 boolC r_.2.closed)), (.d (slD none 1 boolC r_.2.locked)), (.d (slD none 1 boolC r_.2.badLink)), (.d (slD none 1 boolC r_.2.on_)), (.d (slD none 1 boolC r_.2.badSource)), (.d (slD none 1 boolC r_.2.earthed)), (.d (slD none 1 boolC r_.2.badBus))]
abbrev k902 : List SV := [(.agg (k891 r_)), (.agg (k903 r_)), (sI 2)]
abbrev k904 : DV := (slD (some true) 5 Source.cell r_.1.sources)
abbrev k905 : DV := (slD (some true) 4 Rack.cell r_.1.racks)
abbrev k912 := (bif (!decide (u0.2 = 0)) then true else (!decide (u1.2 = 0)))
abbrev k911 := (bif (k912 u0 u1) then true else (!decide (u3.2 = 0)))
abbrev k910 := (bif (k911 u0 u1 u3) then true else (!u1.1))
abbrev k909 := (bif (k910 u0 u1 u3) then true else (!decide ((u0.1.events.length : Int) = 1)))
abbrev k908 := (bif (k909 u0 u1 u3) then true else (!((decide (((at' u0.1.events 0).millis) = 50)) && ((decide (((at' u0.1.events 0).link) = 1)) && true))))
abbrev k907 := (bif (k908 u0 u1 u3) then true else (!u0.1.cleared))
abbrev k906 := (bif (k907 u0 u1 u3) then true else (!decide (u0.1.energy = 5000000)))
abbrev k913 := (ybf [(2, (!decide (u0.2 = 0))), (6, (k912 u0 u1)), (10, (k911 u0 u1 u3)), (14, (k910 u0 u1 u3)), (20, (k909 u0 u1 u3)), (28, (k908 u0 u1 u3)), (33, (k907 u0 u1 u3)), (38, true)])
abbrev k914 := ((k909 u0 u1 u3) = (k909 u0 u1 u3))
abbrev k915 := (ybf [(2, (!decide (u0.2 = 0))), (6, (k912 u0 u1)), (10, (k911 u0 u1 u3)), (14, (k910 u0 u1 u3)), (20, (k909 u0 u1 u3)), (28, (k908 u0 u1 u3)), (33, (k907 u0 u1 u3)), (38, false)])
abbrev k916 : List (Nat × TV) := [(1, (vP 33 0)), (k893 r_), (3, (vP 37 0))]
abbrev k917 := (stEls (elOf Link.cell r_.1.links) 1 5 [nS])
abbrev k921 := (⟨(at' r_.1.links 1).a, (at' r_.1.links 1).b, (at' r_.1.links 1).kind, (at' r_.1.links 1).most, (at' r_.1.links 1).ohm, ([] : List Trip)⟩ : Link)
abbrev k920 := (r_.1.links.set 1 (k921 r_))
abbrev k919 : DV := (slD (some true) 6 Link.cell (k920 r_))
abbrev k918 : List CV := [(cI r_.1.buses), (.d (k904 r_)), (.d (k919 r_)), (.d (k905 r_))]
abbrev k922 : Nat × TV := (1, (vD (ipT [(.int .i64 r_.1.buses), (k904 r_), (k919 r_), (k905 r_)] 0)))
abbrev k923 : List SV := [(.agg (k918 r_)), (.agg (k892 r_)), (sI 2)]
abbrev k924 : TV := (.tup [(.agg [(.own 39 false u2.1.events.length), (cB u2.1.cleared), (cI u2.1.millis), (cI u2.1.energy), (.d (slD none 1 boolC u2.1.state.closed)), (.d (slD none 1 boolC u2.1.state.locked)), (.d (slD none 1 boolC u2.1.state.badLink)), (.d (slD none 1 boolC u2.1.state.on_)), (.d (k457 u2)), (.d (slD none 1 boolC u2.1.state.earthed)), (.d (slD none 1 boolC u2.1.state.badBus))]), (sI u2.2)])
abbrev k925 : List SV := [(.agg [(cI r_.1.buses), (.d (slD none 5 Source.cell r_.1.sources)), (.d (slD none 6 Link.cell (k920 r_))), (.d (slD none 4 Rack.cell r_.1.racks))]), (.agg (k903 r_)), (sI 2)]
abbrev k926 := (⟨r_.1.buses, r_.1.sources, (k920 r_), r_.1.racks⟩ : Plant)
abbrev k927 : Nat × TV := (3, (k459 u2))
abbrev k933 := (bif (decide (u2.2 = 0)) then (decide (u4.2 = 0)) else false)
abbrev k932 := (bif (k933 u2 u4) then (!u4.1) else false)
abbrev k931 := (bif (k932 u2 u4) then u2.1.cleared else false)
abbrev k930 := (bif (k931 u2 u4) then (decide ((u2.1.events.length : Int) = 1)) else false)
abbrev k929 := (bif (k930 u2 u4) then ((decide (((at' u2.1.events 0).millis) = 100)) && ((decide (((at' u2.1.events 0).link) = 0)) && true)) else false)
abbrev k928 := (bif (k929 u2 u4) then (decide (u2.1.millis = 100)) else false)
end
theorem m_law03_awake_ok  {r : Bool} (h : m_law03_awake = some r) : Fn Try.prog 13 [] [] (vB r) [] := by
 refine fN tT Try.func13 rfl rfl fun B => ?_
 show AWp _ _ _ _ _ _ (m_law03_awake_R r) _
 unfold m_law03_awake at h
 refine sz tT ⟨[], []⟩ {} [] ?_
 refine aQ (bE h fun r_ hr_ h => ?_)
 have q0 := rk [(0, 21), (1, 22), (2, 23), (3, 24), (4, 25), (5, 26), (6, 27), (7, 28), (8, 29), (9, 30), (10, 31), (11, 32)] (m_law03_example_v1_ok hr_)
 refine ri tT ⟨[(1, (vP 33 0)), (2, (vP 34 0))], [(k887 r_), (k888 r_), (k889 r_), (k890 r_), (34, some (.cells 29 (k892 r_)))]⟩ [_, r_.2.closed.length = r_.2.closed.length, r_.2.locked.length = r_.2.locked.length, r_.2.badLink.length = r_.2.badLink.length, r_.2.on_.length = r_.2.on_.length, r_.2.badSource.length = r_.2.badSource.length, r_.2.earthed.length = r_.2.earthed.length, r_.2.badBus.length = r_.2.badBus.length] { an := [(0, cA q0 [])], fr := [(4, 33), (5, 34)] } [24, 25, 26, 27, 28, 29, 30] ⟨q0, rfl, rfl, rfl, rfl, rfl, rfl, rfl, trivial⟩ (fz ⟨[(1, (vP 33 0)), (k893 r_)], [(k887 r_), (k888 r_), (k889 r_), (k890 r_)]⟩ [34]) ?_
 refine aQ (bE h fun u0 hr_1 h => ?_)
 refine rg tT ⟨[(1, (vP 33 0)), (k893 r_), (3, (vP 37 0)), (4, (vI u0.2))], (k894 r_ u0)⟩ [Fn Try.prog 15 (k898 r_) (k899 r_) (k900 u0) (k901 r_ u0)] { an := [(2, .call [21, 22, 23] (k900 u0) (k901 r_ u0))], fr := [(6, 37)] } [] ⟨(Fn.leH (args := (k902 r_)) (hin := (k899 r_)) (Fn.renK [(0, 21), (1, 22), (2, 23), (3, 35), (4, 36)] (m_guard_Clear_v2_ok r_.1 r_.2 2 hr_1) (by kernel_rfl) (by kernel_rfl) (by kernel_rfl) (by kernel_rfl)) ⟨SLe.refl _, SLe.agg ⟨CLe.d DLe.nn', CLe.d DLe.nn', CLe.d DLe.nn', CLe.d DLe.nn', CLe.d DLe.nn', CLe.d DLe.nn', CLe.d DLe.nn', trivial⟩, SLe.refl _, trivial⟩ ⟨rfl, .refl _, ⟨rfl, .refl _, ⟨rfl, .refl _, trivial⟩⟩⟩), trivial⟩ ?_
 refine aQ (bE h fun u1 hr_2 h => ?_)
 refine rg tT ⟨[(1, (vP 33 0)), (k893 r_), (3, (vP 37 0)), (4, (vI u0.2)), (5, (vB u1.1)), (6, (vI u1.2))], (k894 r_ u0)⟩ [Fn Try.prog 60 (k898 r_) (k899 r_) (.tup [(sB u1.1), (sI u1.2)]) (k899 r_)] { an := [(2, .callR [21, 22, 23] (.tup [(sB u1.1), (sI u1.2)]))] } [] ⟨(Fn.lend (frz := [21, 22, 23]) (p := [r_.1.sources.length = r_.1.sources.length, r_.1.links.length = r_.1.links.length, r_.1.racks.length = r_.1.racks.length]) (Fn.le (args' := [(.agg [(cI r_.1.buses), (.d (k904 r_)), (.d (slD (some true) 6 Link.cell r_.1.links)), (.d (k905 r_))]), (.agg (k892 r_)), (sI 2)]) (m_guard_Selective_ok r_.1 r_.2 2 hr_2) ⟨SLe.agg ⟨CLe.refl _, CLe.d DLe.nn', CLe.d DLe.nn', CLe.d DLe.nn', trivial⟩, SLe.agg ⟨CLe.d DLe.nn', CLe.d DLe.nn', CLe.d DLe.nn', CLe.d DLe.nn', CLe.d DLe.nn', CLe.d DLe.nn', CLe.d DLe.nn', trivial⟩, SLe.refl _, trivial⟩) (by kernel_rfl) ⟨rfl, rfl, rfl, trivial⟩ rfl), trivial⟩ ?_
 refine aQ (bE h fun u3 hr_3 h => ?_)
 refine rg tT ⟨[(1, (vP 33 0)), (k893 r_), (3, (vP 37 0)), (4, (vI u0.2)), (5, (vB u1.1)), (6, (vI u1.2)), (7, (vD (slD none 1 (intC .i64) u3.1))), (8, (vI u3.2))], (k894 r_ u0)⟩ [Fn Try.prog 61 (k898 r_) (k899 r_) (.tup [(sD (slD none 1 (intC .i64) u3.1)), (sI u3.2)]) (k899 r_)] { an := [(2, .callR [21, 22, 23] (.tup [(sD (slD none 1 (intC .i64) u3.1)), (sI u3.2)]))] } [] ⟨(Fn.leH (args := (k902 r_)) (hin := (k899 r_)) (Fn.renK [(0, 21), (1, 22), (2, 23)] (m_guard_Lost_v1_ok r_.1 r_.2 2 hr_3) (by kernel_rfl) (by kernel_rfl) (by kernel_rfl) (by kernel_rfl)) ⟨SLe.refl _, SLe.agg ⟨CLe.d DLe.nn', CLe.d DLe.nn', CLe.d DLe.nn', CLe.d DLe.nn', CLe.d DLe.nn', CLe.d DLe.nn', CLe.d DLe.nn', trivial⟩, SLe.refl _, trivial⟩ ⟨rfl, .refl _, ⟨rfl, .refl _, ⟨rfl, .refl _, trivial⟩⟩⟩), trivial⟩ ?_
 refine aQ (aQ ?_)
 refine bI h (fun hb h => ?_) (fun hb h => ?_)
 ·skip
  refine aO h fun a1 h => ?_
  refine ri tT ⟨[(1, (vP 33 0)), (k893 r_), (3, (vP 37 0)), (74, (vB (bif (k906 u0 u1 u3) then true else false)))], (k894 r_ u0)⟩ (eqs (!decide (u0.2 = 0)) 3 (eqs (k912 u0 u1) 3 (eqs (k911 u0 u1 u3) 3 (eqs (k910 u0 u1 u3) 5 (eqs (k909 u0 u1 u3) 3 ((gP (k913 u0 u1 u3) [(20, false)] → All [(0 : Int) ≤ 0 ∧ 0 < (u0.1.events.length : Int)]) :: (k914 u0 u1 u3) :: (gP (k913 u0 u1 u3) [(20, false)] → All [0 < u0.1.events.length]) :: (eqs (k909 u0 u1 u3) 3 (eqs (k908 u0 u1 u3) 4 (eqs (k907 u0 u1 u3) 4 [(k906 u0 u1 u3) = true, ¬ gP (k913 u0 u1 u3) [(38, false)], (k906 u0 u1 u3) = true, ¬ gP (k913 u0 u1 u3) [(38, false)], (k906 u0 u1 u3) = true, ¬ gP (k913 u0 u1 u3) [(38, false)], (k906 u0 u1 u3) = true, ¬ gP (k913 u0 u1 u3) [(38, false)], (k906 u0 u1 u3) = true]))))))))) { yb := [(2, (!decide (u0.2 = 0))), (6, (k912 u0 u1)), (10, (k911 u0 u1 u3)), (14, (k910 u0 u1 u3)), (20, (k909 u0 u1 u3)), (28, (k908 u0 u1 u3)), (33, (k907 u0 u1 u3)), (38, true)], an := [(39, .skip), (40, .skip), (41, .skip), (42, .skip)] } [] (ae (ae (ae (ae (ae ⟨(fun hg => ⟨(a1 (gB_of hg)), trivial⟩), rfl, (fun hg => ⟨((fun hq => tL (a1 hq)) (gB_of hg)), trivial⟩), (ae (ae (ae ⟨(hb), ((fun h => Bool.noConfusion (show true = false from h.1))), (hb), ((fun h => Bool.noConfusion (show true = false from h.1))), (hb), ((fun h => Bool.noConfusion (show true = false from h.1))), (hb), ((fun h => Bool.noConfusion (show true = false from h.1))), (hb), trivial⟩)))⟩))))) (Imp.le (st' := ⟨[(1, (vP 33 0)), (k893 r_), (3, (vP 37 0)), (74, (vB true))], (k894 r_ u0)⟩) ⟨⟨tR, tR, tR, ⟨_, rfl, TLe.v (SLe.one (CLe.of (congrArg (fun b => CV.d (.bool b)) (bifT hb))))⟩, trivial⟩, ⟨rfl, .refl _, ⟨rfl, .refl _, ⟨rfl, .refl _, ⟨rfl, .refl _, ⟨rfl, .refl _, ⟨rfl, .refl _, trivial⟩⟩⟩⟩⟩⟩⟩) ?_
  refine ck (sz tT ⟨[(0, (vB false))], []⟩ {} [] ?_)
  refine aR ?_
  obtain rfl := oi h
  exact rq [(sB false)] (.refl _)
 ·skip
  refine bE h fun u5 hr_4 h => ?_
  refine aO h fun a1 h => ?_
  refine ri tT ⟨[(1, (vP 33 0)), (k893 r_), (3, (vP 37 0)), (74, (vB (bif (k906 u0 u1 u3) then true else (!u5))))], (k894 r_ u0)⟩ (eqs (!decide (u0.2 = 0)) 3 (eqs (k912 u0 u1) 3 (eqs (k911 u0 u1 u3) 3 (eqs (k910 u0 u1 u3) 5 (eqs (k909 u0 u1 u3) 3 ((gP (k915 u0 u1 u3) [(20, false)] → All [(0 : Int) ≤ 0 ∧ 0 < (u0.1.events.length : Int)]) :: (k914 u0 u1 u3) :: (gP (k915 u0 u1 u3) [(20, false)] → All [0 < u0.1.events.length]) :: (eqs (k909 u0 u1 u3) 3 (eqs (k908 u0 u1 u3) 4 (eqs (k907 u0 u1 u3) 4 [(k906 u0 u1 u3) = false, (k906 u0 u1 u3) = false, gP (k915 u0 u1 u3) [(38, false)] → All [[0].length = 1, ArrEq 1 1 (elL 1 [(.int .i64 0)]) (elOf (intC .i64) [0])], gP (k915 u0 u1 u3) [(38, false)], (k906 u0 u1 u3) = false, gP (k915 u0 u1 u3) [(38, false)] → All [Fn Try.prog 54 [(sD (slD none 1 (intC .i64) u3.1)), (.one (.own 38 true ([0].length)))] [(38, some (arD 3 1 (intC .i64) [0]))] (vB u5) [(38, some (arD 3 1 (intC .i64) [0]))]], (k906 u0 u1 u3) = false, (k906 u0 u1 u3) = false]))))))))) { yb := [(2, (!decide (u0.2 = 0))), (6, (k912 u0 u1)), (10, (k911 u0 u1 u3)), (14, (k910 u0 u1 u3)), (20, (k909 u0 u1 u3)), (28, (k908 u0 u1 u3)), (33, (k907 u0 u1 u3)), (38, false)], an := [(40, .arr [0].length (elOf (intC .i64) [0])), (41, .callR [38] (vB u5))], fr := [(40, 38)] } [] (ae (ae (ae (ae (ae ⟨(fun hg => ⟨(a1 (gB_of hg)), trivial⟩), rfl, (fun hg => ⟨((fun hq => tL (a1 hq)) (gB_of hg)), trivial⟩), (ae (ae (ae ⟨(hb), (hb), (fun hg => ⟨(rfl), ((by intro i hi j hj; match i, j, hi, hj with | 0, 0, _, _ => rfl)), trivial⟩), (⟨rfl, trivial⟩), (hb), (fun hg => ⟨(Fn.lend (frz := [38]) (p := [[0].length = [0].length]) (Fn.le (args' := [(sD (slD none 1 (intC .i64) u3.1)), (sD (slD (some true) 1 (intC .i64) [0]))]) (m_kit_SameInts_ok u3.1 [0] hr_4) ⟨SLe.refl _, SLe.one (CLe.d DLe.nn'), trivial⟩) (by kernel_rfl) ⟨rfl, trivial⟩ rfl), trivial⟩), (hb), (hb), trivial⟩)))⟩))))) (Imp.le (st' := ⟨[(1, (vP 33 0)), (k893 r_), (3, (vP 37 0)), (74, (vB (!u5)))], (k894 r_ u0)⟩) ⟨⟨tR, tR, tR, ⟨_, rfl, TLe.v (SLe.one (CLe.of (congrArg (fun b => CV.d (.bool b)) (bifF hb))))⟩, trivial⟩, ⟨rfl, .refl _, ⟨rfl, .refl _, ⟨rfl, .refl _, ⟨rfl, .refl _, ⟨rfl, .refl _, ⟨rfl, .refl _, trivial⟩⟩⟩⟩⟩⟩⟩) ?_
  refine bI h (fun hb1 h => ?_) (fun hb1 h => ?_)
  ·refine ct hb1 ?_
   refine sz tT ⟨[(0, (vB false))], []⟩ {} [] ?_
   refine aR ?_
   obtain rfl := oi h
   exact rq [(sB false)] (.refl _)
  ·refine cf hb1 ?_
   refine aP (aQ (aO h fun a1 h => ?_))
   refine ri tT ⟨(k916 r_), [(33, some (.cells 26 [(cI r_.1.buses), (.d (k904 r_)), (.d (.sl (some true) 6 r_.1.links.length (k917 r_))), (.d (k905 r_))])), (k895 u0), (k896 u0)]⟩ [_, _, ArrEq r_.1.links.length 6 (k917 r_) (k917 r_), r_.1.sources.length = r_.1.sources.length, r_.1.links.length = r_.1.links.length, r_.1.racks.length = r_.1.racks.length] { an := [(4, .arr 0 (k917 r_))] } [21, 22, 23] ⟨a1, (tL a1), (arrEq_refl _ _ _), rfl, rfl, rfl, trivial⟩ (.trans (Imp.le (st' := ⟨(k916 r_), [(33, some (.cells 26 (k918 r_))), (k895 u0), (k896 u0)]⟩) ⟨⟨tR, tR, tR, trivial⟩, ⟨rfl, OLe_cells ⟨CLe.refl _, CLe.refl _, CLe.d (DLe.slN (by simp only [List.length_set]) (.inr rfl) (stLe Link.cell r_.1.links _ _ 1 5 [nS] (k921 r_) (by simp only [List.length_set]) (fun j hj => match j, hj with | 0, _ => .refl _ | 1, _ => .refl _ | 2, _ => .refl _ | 3, _ => .refl _ | 4, _ => .refl _ | 5, _ => DLe.nil'))), CLe.refl _, trivial⟩, ⟨rfl, .refl _, ⟨rfl, .refl _, trivial⟩⟩⟩⟩) (fz ⟨[(k922 r_), (k893 r_), (3, (vP 37 0))], [(k895 u0), (k896 u0)]⟩ [33])) ?_
   refine aQ (bE h fun u2 hr_5 h => ?_)
   refine ri tT ⟨[(k922 r_), (k893 r_), (3, (vP 37 0)), (4, (vI u2.2))], [(37, some (k456 u2))]⟩ [Fn Try.prog 15 (k923 r_) [] (k924 u2) [(39, some (arD 56 2 Event.cell u2.1.events)), (40, none)], u2.1.events.length = u2.1.events.length] { an := [(2, .call [] (k924 u2) [(39, some (arD 56 2 Event.cell u2.1.events)), (40, none)])] } [39] ⟨(Fn.leH (args := (k925 r_)) (hin := []) (Fn.renK [(0, 39), (1, 40)] (m_guard_Clear_v1_ok (k926 r_) r_.2 2 hr_5) (by kernel_rfl) (by kernel_rfl) (by kernel_rfl) (by kernel_rfl)) ⟨SLe.agg ⟨CLe.refl _, CLe.d DLe.nn', CLe.d DLe.nn', CLe.d DLe.nn', trivial⟩, SLe.agg ⟨CLe.d DLe.nn', CLe.d DLe.nn', CLe.d DLe.nn', CLe.d DLe.nn', CLe.d DLe.nn', CLe.d DLe.nn', CLe.d DLe.nn', trivial⟩, SLe.refl _, trivial⟩ trivial), rfl, trivial⟩ (fz ⟨[(k922 r_), (k893 r_), (k927 u2), (4, (vI u2.2))], []⟩ [37]) ?_
   refine aQ (bE h fun u4 hr_6 h => ?_)
   refine rg tT ⟨[(k927 u2), (4, (vI u2.2)), (5, (vB u4.1)), (6, (vI u4.2))], []⟩ [Fn Try.prog 60 (k923 r_) [] (.tup [(sB u4.1), (sI u4.2)]) []] { an := [(2, .call [] (.tup [(sB u4.1), (sI u4.2)]) [])] } [] ⟨(Fn.leH (args := (k925 r_)) (hin := []) (m_guard_Selective_ok (k926 r_) r_.2 2 hr_6) ⟨SLe.agg ⟨CLe.refl _, CLe.d DLe.nn', CLe.d DLe.nn', CLe.d DLe.nn', trivial⟩, SLe.agg ⟨CLe.d DLe.nn', CLe.d DLe.nn', CLe.d DLe.nn', CLe.d DLe.nn', CLe.d DLe.nn', CLe.d DLe.nn', CLe.d DLe.nn', trivial⟩, SLe.refl _, trivial⟩ trivial), trivial⟩ ?_
   refine aQ (aO h fun a1 h => ?_)
   refine rg tT ⟨[(0, (vB (k928 u2 u4)))], []⟩ (eqs (decide (u2.2 = 0)) 3 (eqs (k933 u2 u4) 3 (eqs (k932 u2 u4) 3 (eqs (k931 u2 u4) 5 (eqs (k930 u2 u4) 3 ((gP (ybf [(2, (decide (u2.2 = 0))), (6, (k933 u2 u4)), (10, (k932 u2 u4)), (14, (k931 u2 u4)), (20, (k930 u2 u4)), (28, (k929 u2 u4))]) [(20, true)] → All [(0 : Int) ≤ 0 ∧ 0 < (u2.1.events.length : Int)]) :: (eqs (k930 u2 u4) 4 (eqs (k929 u2 u4) 4 [])))))))) { yb := [(2, (decide (u2.2 = 0))), (6, (k933 u2 u4)), (10, (k932 u2 u4)), (14, (k931 u2 u4)), (20, (k930 u2 u4)), (28, (k929 u2 u4))] } [] (ae (ae (ae (ae (ae ⟨(fun hg => ⟨(a1 (gB_of hg)), trivial⟩), (ae (ae trivial))⟩))))) ?_
   refine aR ?_
   obtain rfl := oi h
   exact rq [(sB (k928 u2 u4))] (.refl _)
def m_kit_Pick_R  : Int → Exit → St → Prop :=
  fun r => RetQ TT [.tmp 4] (vI r) []
theorem m_kit_Pick_ok (x : Int) (n : Int) {r : Int} (h : m_kit_Pick x n = some r) : Fn Try.prog 14 [(sI x), (sI n)] [] (vI r) [] := by
 refine fN tT Try.func14 rfl rfl fun B => ?_
 show AWp _ _ _ _ _ _ (m_kit_Pick_R r) _
 unfold m_kit_Pick at h
 refine sz tT ⟨[(0, (vI x)), (1, (vI n))], []⟩ {} [] ?_
 refine aQ (sz tT ⟨[(0, (vI x)), (1, (vI n)), (7, (vB (decide (n < 1))))], []⟩ {} [] ?_)
 refine bI h (fun hb1 h => ?_) (fun hb1 h => ?_)
 ·refine ct hb1 ?_
  refine sz tT ⟨[(4, (vI 0))], []⟩ {} [] ?_
  refine aR ?_
  obtain rfl := oi h
  exact rq [(sI 0)] (.refl _)
 ·refine cf hb1 ?_
  refine aP (aQ (aO h fun a1 h => ?_))
  refine rg tT ⟨[(1, (vI n)), (5, (vI (Int.tmod x n)))], []⟩ [_] {} [] ⟨a1, trivial⟩ ?_
  refine aQ (sz tT ⟨[(1, (vI n)), (5, (vI (Int.tmod x n))), (12, (vB (decide ((Int.tmod x n) < 0))))], []⟩ {} [] ?_)
  refine bI h (fun hb h => ?_) (fun hb h => ?_)
  ·refine ct hb ?_
   refine rz tT ⟨[(5, (vI (IntKind.wrap .i64 ((Int.tmod x n) + n))))], []⟩ {} [] ?_
   refine sz tT ⟨[(4, (vI (IntKind.wrap .i64 ((Int.tmod x n) + n))))], []⟩ {} [] ?_
   refine aR ?_
   obtain rfl := oi h
   exact rq [(sI (IntKind.wrap .i64 ((Int.tmod x n) + n)))] (.refl _)
  ·refine cf hb ?_
   refine aP (sz tT ⟨[(4, (vI (Int.tmod x n)))], []⟩ {} [] ?_)
   refine aR ?_
   obtain rfl := oi h
   exact rq [(sI (Int.tmod x n))] (.refl _)
def m_kit_CopyTruths_v1_R  : (List Bool) → Exit → St → Prop :=
  fun r => RetQ TT [.tmp 2] (vO 0 false r.length) [(0, some (arD 4 1 boolC r))]
section
variable (l : (List Bool))
abbrev k934 : Nat × TV := (0, (vD (slD none 1 boolC l)))
end
theorem m_kit_CopyTruths_v1_ok (l : (List Bool)) {r : (List Bool)} (h : m_kit_CopyTruths l = some r) : Fn Try.prog 64 [(sD (slD none 1 boolC l))] [] (vO 0 false r.length) [(0, some (arD 4 1 boolC r))] := by
 refine fN tT Try.func64 rfl rfl fun B => ?_
 show AWp _ _ _ _ _ _ (m_kit_CopyTruths_v1_R r) _
 unfold m_kit_CopyTruths at h
 refine sz tT ⟨[(k934 l)], []⟩ {} [] ?_
 refine sz tT ⟨[(k934 l), (3, (vD nS))], []⟩ {} [] ?_
 refine aQ (aO h fun ⟨a1, a2⟩ h => ?_)
 refine rg tT ⟨[(2, (vO 1 false l.length))], [(1, some (arD 4 1 boolC l))]⟩ [_, _, l.length = l.length, ArrEq l.length 1 (elOf boolC l) (elOf boolC l)] { an := [(2, .arr l.length (elOf boolC l))], fr := [(2, 1)] } [] ⟨a1, a2, rfl, (arrEq_refl _ _ _), trivial⟩ ?_
 refine aI (Imp.fin (st' := ⟨[(2, (vO 0 false l.length))], [(0, some (arD 4 1 boolC l))]⟩) (cs := []) ⟨[], [(1, 0)]⟩ [2] (by kernel_rfl) trivial) ?_
 refine aR ?_
 obtain rfl := oi h
 exact rh [(.one (.own 0 false l.length))] (.refl _) ⟨rfl, .refl _, trivial⟩
def m_kit_SameTruths_R  : Bool → Exit → St → Prop :=
  fun r => RetQ TT [.tmp 4] (vB r) []
section
variable (b : (List Bool))
abbrev k935 : Nat × TV := (1, (vD (slD none 1 boolC b)))
end
def m_kit_SameTruths_S0 (a : (List Bool)) (b : (List Bool)) : Int → St :=
  fun i => ⟨[(k934 a), (k935 b), (5, (vI i))], []⟩
def m_kit_SameTruths_B0  : Unit → St :=
  fun _ => ⟨[], []⟩
def m_kit_SameTruths_Q0 (a : (List Bool)) (b : (List Bool)) : (Flow Int (Ex Unit Bool)) → Exit → St → Prop :=
  LQ 0 [] (m_kit_SameTruths_S0 a b) m_kit_SameTruths_B0 m_kit_SameTruths_R
theorem m_kit_SameTruths_ok (a : (List Bool)) (b : (List Bool)) {r : Bool} (h : m_kit_SameTruths a b = some r) : Fn Try.prog 42 [(sD (slD none 1 boolC a)), (sD (slD none 1 boolC b))] [] (vB r) [] := by
 refine fN tT Try.func42 rfl rfl fun B => ?_
 show AWp _ _ _ _ _ _ (m_kit_SameTruths_R r) _
 unfold m_kit_SameTruths at h
 refine sz tT ⟨[(k934 a), (k935 b)], []⟩ {} [] ?_
 refine aQ (sz tT ⟨[(k934 a), (k935 b), (10, (vB (!decide ((a.length : Int) = (b.length : Int)))))], []⟩ {} [] ?_)
 refine bI h (fun hb2 h => ?_) (fun hb2 h => ?_)
 ·refine ct hb2 ?_
  refine sz tT ⟨[(4, (vB false))], []⟩ {} [] ?_
  refine aR ?_
  obtain rfl := oi h
  exact rq [(sB false)] (.refl _)
 ·refine cf hb2 ?_
  refine aP (aQ (sz tT ⟨[(k934 a), (k935 b), (5, (vI 0))], []⟩ {} [] ?_))
  refine bE h fun y hy h => ?_
  refine aL [] (m_kit_SameTruths_S0 a b) m_kit_SameTruths_B0 m_kit_SameTruths_R hy (fun s f h => ?_) ?_
  ·clear hy
   show AWp _ _ _ _ _ _ ((m_kit_SameTruths_Q0 a b) f) _
   unfold m_kit_SameTruths_L0 at h
   obtain ⟨i, rfl⟩ : ∃ q, q = s := ⟨_, rfl⟩
   refine aQ (sz tT ⟨[(k934 a), (k935 b), (5, (vI i)), (14, (vB (decide (i < (a.length : Int)))))], []⟩ {} [] ?_)
   refine bI h (fun hb1 h => ?_) (fun hb1 h => ?_)
   ·refine ct hb1 ?_
    refine aP (aQ (aB (aQ (aO h fun ⟨a1, a2⟩ h => ?_))))
    refine dg tT mX ⟨[(k934 a), (k935 b), (5, (vI i)), (25, (vB (!((at' a i.toNat) == (at' b i.toNat)))))], []⟩ [_, _] {} [] ⟨a1, a2, trivial⟩ ?_
    refine bI h (fun hb h => ?_) (fun hb h => ?_)
    ·refine ct hb ?_
     refine sz tT ⟨[(4, (vB false))], []⟩ {} [] ?_
     refine aR ?_
     obtain rfl := oi h
     exact lR ret_nn (ret_ne 0) av_ret (RetQ.mk (.inr rfl) (p := []) (l := [(sB false)]) (by kernel_rfl) trivial (TLe.refl _) trivial)
    ·refine cf hb ?_
     refine aP (rz tT ⟨[(k934 a), (k935 b), (5, (k30 i))], []⟩ {} [] ?_)
     obtain rfl := oi h
     exact lN (by kernel_rfl)
   ·refine cf hb1 ?_
    refine aI (fz ⟨[], []⟩ []) ?_
    refine aX ?_
    obtain rfl := oi h
    exact lB (by kernel_rfl)
  ·clear hy
   cases y with
   | brk z =>
    unfold ExK
    refine ⟨_, .refl, ?_⟩
    refine sz tT ⟨[(4, (vB true))], []⟩ {} [] ?_
    refine aR ?_
    obtain rfl := oi h
    exact rq [(sB true)] (.refl _)
   | ret v =>
    obtain rfl := oi h
    unfold ExK
    intro e st hn ha hR
    cases e with
    | normal => exact absurd rfl hn
    | exit id => exact hR
    | goto l => exact hR
    | ret => exact hR
    | panic c => exact hR
    | outgrown => exact hR
def m_kit_SameState_R  : Bool → Exit → St → Prop :=
  fun r => RetQ TT [.tmp 4] (vB r) []
section
variable (r_ : Bool) (u0 : Bool) (u1 : Bool) (u2 : Bool) (u3 : Bool) (u4 : Bool) (u5 : Bool)
abbrev k937 := (bif (k14 r_ u0 u1 u2 u3) then u4 else false)
abbrev k936 := (bif (k937 r_ u0 u1 u2 u3 u4) then u5 else false)
abbrev k938 := (ybf [(5, r_), (12, (k17 r_ u0)), (19, (k16 r_ u0 u1)), (26, (k15 r_ u0 u1 u2)), (33, (k14 r_ u0 u1 u2 u3)), (40, (k937 r_ u0 u1 u2 u3 u4))])
end
theorem m_kit_SameState_ok (a : State) (b : State) {r : Bool} (h : m_kit_SameState a b = some r) : Fn Try.prog 20 [(.agg (k98 a)), (.agg (k98 b))] [] (vB r) [] := by
 refine fN tT Try.func20 rfl rfl fun B => ?_
 show AWp _ _ _ _ _ _ (m_kit_SameState_R r) _
 unfold m_kit_SameState at h
 refine sz tT ⟨[(2, (k73 a)), (k72 b)], []⟩ { fr := [(0, 2), (1, 3)] } [2, 3] ?_
 refine aQ (bE h fun r_ hr_ h => ?_)
 refine bE h fun u0 hr_1 h => ?_
 refine bE h fun u1 hr_2 h => ?_
 refine bE h fun u2 hr_3 h => ?_
 refine bE h fun u3 hr_4 h => ?_
 refine bE h fun u4 hr_5 h => ?_
 refine bE h fun u5 hr_6 h => ?_
 have q0 := m_kit_SameTruths_ok a.closed b.closed hr_
 refine rg tT ⟨[(4, (vB (k936 r_ u0 u1 u2 u3 u4 u5)))], []⟩ (_ :: (eqs r_ 5 ((gP (k938 r_ u0 u1 u2 u3 u4) [(5, true)] → All [Fn Try.prog 42 [(sD (k76 a)), (sD (k76 b))] [] (vB u0) []]) :: (r_ = r_) :: (eqs (k17 r_ u0) 5 ((gP (k938 r_ u0 u1 u2 u3 u4) [(12, true)] → All [Fn Try.prog 42 [(sD (k77 a)), (sD (k77 b))] [] (vB u1) []]) :: ((k17 r_ u0) = (k17 r_ u0)) :: (eqs (k16 r_ u0 u1) 5 ((gP (k938 r_ u0 u1 u2 u3 u4) [(19, true)] → All [Fn Try.prog 42 [(sD (k78 a)), (sD (k78 b))] [] (vB u2) []]) :: (k19 r_ u0 u1) :: (eqs (k15 r_ u0 u1 u2) 5 ((gP (k938 r_ u0 u1 u2 u3 u4) [(26, true)] → All [Fn Try.prog 42 [(sD (k79 a)), (sD (k79 b))] [] (vB u3) []]) :: ((k15 r_ u0 u1 u2) = (k15 r_ u0 u1 u2)) :: (eqs (k14 r_ u0 u1 u2 u3) 5 ((gP (k938 r_ u0 u1 u2 u3 u4) [(33, true)] → All [Fn Try.prog 42 [(sD (k80 a)), (sD (k80 b))] [] (vB u4) []]) :: ((k14 r_ u0 u1 u2 u3) = (k14 r_ u0 u1 u2 u3)) :: (eqs (k937 r_ u0 u1 u2 u3 u4) 5 [gP (k938 r_ u0 u1 u2 u3 u4) [(40, true)] → All [Fn Try.prog 42 [(sD (k81 a)), (sD (k81 b))] [] (vB u5) []], (k937 r_ u0 u1 u2 u3 u4) = (k937 r_ u0 u1 u2 u3 u4)])))))))))))) { yb := [(5, r_), (12, (k17 r_ u0)), (19, (k16 r_ u0 u1)), (26, (k15 r_ u0 u1 u2)), (33, (k14 r_ u0 u1 u2 u3)), (40, (k937 r_ u0 u1 u2 u3 u4))], an := [(4, cA q0 []), (10, .call [] (vB u0) []), (17, .call [] (vB u1) []), (24, .call [] (vB u2) []), (31, .call [] (vB u3) []), (38, .call [] (vB u4) []), (45, .call [] (vB u5) [])] } [] ⟨q0, (ae ⟨(fun hg => ⟨(m_kit_SameTruths_ok a.locked b.locked (gcall hr_1 (gB_of hg))), trivial⟩), rfl, (ae ⟨(fun hg => ⟨(m_kit_SameTruths_ok a.badLink b.badLink (gcall hr_2 (gB_of hg))), trivial⟩), rfl, (ae ⟨(fun hg => ⟨(m_kit_SameTruths_ok a.on_ b.on_ (gcall hr_3 (gB_of hg))), trivial⟩), rfl, (ae ⟨(fun hg => ⟨(m_kit_SameTruths_ok a.badSource b.badSource (gcall hr_4 (gB_of hg))), trivial⟩), rfl, (ae ⟨(fun hg => ⟨(m_kit_SameTruths_ok a.earthed b.earthed (gcall hr_5 (gB_of hg))), trivial⟩), rfl, (ae ⟨(fun hg => ⟨(m_kit_SameTruths_ok a.badBus b.badBus (gcall hr_6 (gB_of hg))), trivial⟩), rfl, trivial⟩)⟩)⟩)⟩)⟩)⟩)⟩ ?_
 refine aR ?_
 obtain rfl := oi h
 exact rq [(sB (k936 r_ u0 u1 u2 u3 u4 u5))] (.refl _)
def m_kit_CopyState_v1_R  : State → Exit → St → Prop :=
  fun r => RetQ TT [.cell 2 29] (.v (.agg [(.own 0 false r.closed.length), (.own 1 false r.locked.length), (.own 2 false r.badLink.length), (.own 3 false r.on_.length), (.own 4 false r.badSource.length), (.own 5 false r.earthed.length), (.own 6 false r.badBus.length)])) [(0, some (arD 4 1 boolC r.closed)), (1, some (arD 4 1 boolC r.locked)), (2, some (arD 4 1 boolC r.badLink)), (3, some (arD 4 1 boolC r.on_)), (4, some (arD 4 1 boolC r.badSource)), (5, some (arD 4 1 boolC r.earthed)), (6, some (arD 4 1 boolC r.badBus)), (7, none)]
theorem m_kit_CopyState_v1_ok (x : State) {r : State} (h : m_kit_CopyState x = some r) : Fn Try.prog 16 (k110 x) [] (.v (.agg [(.own 0 false r.closed.length), (.own 1 false r.locked.length), (.own 2 false r.badLink.length), (.own 3 false r.on_.length), (.own 4 false r.badSource.length), (.own 5 false r.earthed.length), (.own 6 false r.badBus.length)])) [(0, some (arD 4 1 boolC r.closed)), (1, some (arD 4 1 boolC r.locked)), (2, some (arD 4 1 boolC r.badLink)), (3, some (arD 4 1 boolC r.on_)), (4, some (arD 4 1 boolC r.badSource)), (5, some (arD 4 1 boolC r.earthed)), (6, some (arD 4 1 boolC r.badBus)), (7, none)] := by
 refine fN tT Try.func16 rfl rfl fun B => ?_
 show AWp _ _ _ _ _ _ (m_kit_CopyState_v1_R r) _
 unfold m_kit_CopyState at h
 refine sz tT (k111 x) { fr := [(0, 9), (1, 10)] } [9] ?_
 refine aQ (bE h fun r_ hr_ h => ?_)
 refine bE h fun u0 hr_1 h => ?_
 refine bE h fun u1 hr_2 h => ?_
 refine bE h fun u2 hr_3 h => ?_
 refine bE h fun u3 hr_4 h => ?_
 refine bE h fun u4 hr_5 h => ?_
 refine bE h fun u5 hr_6 h => ?_
 have q0 := rk [(0, 11)] (m_kit_CopyTruths_v1_ok x.closed hr_)
 have q1 := rk [(0, 12)] (m_kit_CopyTruths_v1_ok x.locked hr_1)
 have q2 := rk [(0, 13)] (m_kit_CopyTruths_v1_ok x.badLink hr_2)
 have q3 := rk [(0, 14)] (m_kit_CopyTruths_v1_ok x.on_ hr_3)
 have q4 := rk [(0, 15)] (m_kit_CopyTruths_v1_ok x.badSource hr_4)
 have q5 := rk [(0, 16)] (m_kit_CopyTruths_v1_ok x.earthed hr_5)
 have q6 := rk [(0, 17)] (m_kit_CopyTruths_v1_ok x.badBus hr_6)
 refine dg tT mX ⟨[(2, (vP 10 0))], [(10, some (.cells 29 [(.own 11 false r_.length), (.own 12 false u0.length), (.own 13 false u1.length), (.own 14 false u2.length), (.own 15 false u3.length), (.own 16 false u4.length), (.own 17 false u5.length)])), (11, some (arD 4 1 boolC r_)), (12, some (arD 4 1 boolC u0)), (k466 u1), (k469 u2), (k472 u3), (k475 u4), (17, some (arD 4 1 boolC u5))]⟩ [_, _, _, _, _, _, _] { an := [(2, cA q0 []), (5, cA q1 []), (8, cA q2 []), (11, cA q3 []), (14, cA q4 []), (17, cA q5 []), (20, cA q6 [])] } [] ⟨q0, q1, q2, q3, q4, q5, q6, trivial⟩ ?_
 refine aI (Imp.fin (st' := (k483 r_ u0 u1 u2 u3 u4 u5)) (cs := []) ⟨[], [(11, 0), (12, 1), (13, 2), (14, 3), (15, 4), (16, 5), (17, 6), (10, 7)]⟩ [2] (by kernel_rfl) trivial) ?_
 refine aR ?_
 obtain rfl := oi h
 exact rh (k485 r_ u0 u1 u2 u3 u4 u5) (.refl _) ⟨rfl, .refl _, ⟨rfl, .refl _, ⟨rfl, .refl _, ⟨rfl, .refl _, ⟨rfl, .refl _, ⟨rfl, .refl _, ⟨rfl, .refl _, ⟨rfl, trivial, trivial⟩⟩⟩⟩⟩⟩⟩⟩
def m_law03_GuardOpens_R  : Bool → Exit → St → Prop :=
  fun r => RetQ TT [.tmp 6] (vB r) []
section
variable (u2 : ((List Bool) × Int)) (u3 : ((List Bool) × Int))
abbrev k939 : Nat × TV := (10, (vD (slD none 1 boolC u2.1)))
abbrev k940 : Nat × TV := (11, (vD (slD none 1 boolC u3.1)))
end
def m_law03_GuardOpens_S0 (s_ : State) (u1 : Int) (u0 : (Clearing × Int)) (u2 : ((List Bool) × Int)) (u3 : ((List Bool) × Int)) : Int → St :=
  fun i => ⟨[(k120 s_), (7, (vI u1)), (k458 u0), (k939 u2), (k940 u3), (13, (vI i))], []⟩
section
variable (s_ : State) (u1 : Int) (u0 : (Clearing × Int)) (u2 : ((List Bool) × Int)) (u3 : ((List Bool) × Int))
abbrev k941 : St := ⟨[(k120 s_), (7, (vI u1)), (k458 u0), (k939 u2), (k940 u3)], []⟩
end
def m_law03_GuardOpens_B0 (s_ : State) (u1 : Int) (u0 : (Clearing × Int)) (u2 : ((List Bool) × Int)) (u3 : ((List Bool) × Int)) : Unit → St :=
  fun _ => (k941 s_ u1 u0 u2 u3)
def m_law03_GuardOpens_Q0 (s_ : State) (u0 : Int) (u1 : (Clearing × Int)) (u2 : ((List Bool) × Int)) (u3 : ((List Bool) × Int)) : (Flow Int (Ex Unit Bool)) → Exit → St → Prop :=
  LQ 0 [] (m_law03_GuardOpens_S0 s_ u0 u1 u2 u3) (m_law03_GuardOpens_B0 s_ u0 u1 u2 u3) m_law03_GuardOpens_R
section
variable (s_ : State) (u2 : Int) (u1 : (Clearing × Int)) (u3 : ((List Bool) × Int)) (u4 : ((List Bool) × Int)) (i1 : Int) (u0 : State) (t0 : (List Bool))
abbrev k942 : List (Nat × TV) := [(k120 s_), (7, (vI u2)), (k458 u1), (k939 u3), (k940 u4), (14, (vP 27 0)), (15, (vI i1))]
abbrev k944 : Nat × Option Ob := (23, some (arD 4 1 boolC u0.badSource))
abbrev k945 : Nat × Option Ob := (27, some (.cells 29 [(.own 19 false t0.length), (.own 20 false u0.locked.length), (.own 21 false u0.badLink.length), (.own 22 false u0.on_.length), (.own 23 false u0.badSource.length), (.own 24 false u0.earthed.length), (.own 25 false u0.badBus.length)]))
abbrev k943 : List (Nat × Option Ob) := [(19, some (arD 4 1 boolC t0)), (20, some (arD 4 1 boolC u0.locked)), (21, some (arD 4 1 boolC u0.badLink)), (22, some (arD 4 1 boolC u0.on_)), (k944 u0), (24, some (arD 4 1 boolC u0.earthed)), (25, some (arD 4 1 boolC u0.badBus)), (k945 u0 t0)]
end
def m_law03_GuardOpens_S1 (s_ : State) (u2 : Int) (u1 : (Clearing × Int)) (u3 : ((List Bool) × Int)) (u4 : ((List Bool) × Int)) (u0 : State) : ((List Bool) × Int) → St :=
  fun zz => match zz with | (t0, i1) => ⟨(k942 s_ u2 u1 u3 u4 i1), (k943 u0 t0)⟩
section
variable (s_ : State) (u3 : Int) (u1 : (Clearing × Int)) (u4 : ((List Bool) × Int)) (u5 : ((List Bool) × Int)) (u2 : (List Bool)) (u0 : State)
abbrev k947 : List (Nat × TV) := [(k120 s_), (7, (vI u3)), (k458 u1), (k939 u4), (k940 u5), (14, (vP 27 0))]
abbrev k946 : St := ⟨(k947 s_ u3 u1 u4 u5), (k943 u0 u2)⟩
end
def m_law03_GuardOpens_B1 (s_ : State) (u3 : Int) (u1 : (Clearing × Int)) (u4 : ((List Bool) × Int)) (u5 : ((List Bool) × Int)) (u0 : State) : (List Bool) → St :=
  fun u2 => (k946 s_ u3 u1 u4 u5 u2 u0)
def m_law03_GuardOpens_Q1 (s_ : State) (u0 : Int) (u1 : (Clearing × Int)) (u2 : ((List Bool) × Int)) (u3 : ((List Bool) × Int)) (u4 : State) : (Flow ((List Bool) × Int) (Ex (List Bool) Bool)) → Exit → St → Prop :=
  LQ 2 [] (m_law03_GuardOpens_S1 s_ u0 u1 u2 u3 u4) (m_law03_GuardOpens_B1 s_ u0 u1 u2 u3 u4) m_law03_GuardOpens_R
section
variable (p : Plant) (u2 : ((List Bool) × Int)) (u4 : ((List Bool) × Int)) (u1 : State) (t0 : (List Bool)) (i1 : Int) (s_ : State) (u0 : (Clearing × Int)) (u3 : Int)
abbrev k950 := (decide (60 < (p.sources.length : Int)))
abbrev k949 := (bif (k950 p) then true else (decide (60 < (p.links.length : Int))))
abbrev k948 := (bif (k949 p) then true else (decide (60 < (p.racks.length : Int))))
abbrev k952 := (bif (!decide (u2.2 = 0)) then true else (!decide (u4.2 = 0)))
abbrev k951 := (bif (k952 u2 u4) then true else (!decide ((u2.1.length : Int) = (u4.1.length : Int))))
abbrev k953 : List (Nat × Option Ob) := [(19, some (arD 4 1 boolC u1.closed)), (20, some (arD 4 1 boolC u1.locked)), (21, some (arD 4 1 boolC u1.badLink)), (22, some (arD 4 1 boolC u1.on_)), (k944 u1), (24, some (arD 4 1 boolC u1.earthed)), (25, some (arD 4 1 boolC u1.badBus)), (27, some (.cells 29 [(.own 19 false u1.closed.length), (.own 20 false u1.locked.length), (.own 21 false u1.badLink.length), (.own 22 false u1.on_.length), (.own 23 false u1.badSource.length), (.own 24 false u1.earthed.length), (.own 25 false u1.badBus.length)]))]
abbrev k954 : List (Nat × Option Ob) := [(19, some (arD 4 1 boolC (t0.set i1.toNat (at' s_.closed i1.toNat)))), (20, some (arD 4 1 boolC u1.locked)), (21, some (arD 4 1 boolC u1.badLink)), (22, some (arD 4 1 boolC u1.on_)), (k944 u1), (24, some (arD 4 1 boolC u1.earthed)), (25, some (arD 4 1 boolC u1.badBus)), (27, some (.cells 29 [(.own 19 false ((t0.set i1.toNat (at' s_.closed i1.toNat)).length)), (.own 20 false u1.locked.length), (.own 21 false u1.badLink.length), (.own 22 false u1.on_.length), (.own 23 false u1.badSource.length), (.own 24 false u1.earthed.length), (.own 25 false u1.badBus.length)]))]
abbrev k957 := (bif (!u0.1.cleared) then true else (!decide (u0.1.energy = 0)))
abbrev k956 := (bif (!(at' u2.1 u3.toNat)) then (bif (k957 u0) then true else (!decide ((u0.1.events.length : Int) = 0))) else false)
abbrev k955 : Nat × TV := (174, (vB (bif (k956 u2 u0 u3) then true else (bif u0.1.cleared then (at' u4.1 u3.toNat) else false))))
abbrev k958 := ((!(at' u2.1 u3.toNat)) = (!(at' u2.1 u3.toNat)))
abbrev k959 := (ybf [(5, (!(at' u2.1 u3.toNat))), (9, (!u0.1.cleared)), (14, (k957 u0)), (21, (k956 u2 u0 u3)), (24, u0.1.cleared)])
end
theorem m_law03_GuardOpens_ok (p : Plant) (s_ : State) (u6 : Int) {r : Bool} (h : m_law03_GuardOpens p s_ u6 = some r) : Fn Try.prog 4 (k117 p s_ u6) [] (vB r) [] := by
 refine fN tT Try.func4 rfl rfl fun B => ?_
 show AWp _ _ _ _ _ _ (m_law03_GuardOpens_R r) _
 unfold m_law03_GuardOpens at h
 refine sz tT (k118 p s_ u6) { fr := [(0, 14), (1, 15)] } [14, 15] ?_
 refine aQ (aQ (bE h fun r_ hr_ h => ?_))
 refine rg tT ⟨[(2, (vI u6)), (k119 p), (k120 s_), (37, (vB (bif (k948 p) then true else (!decide (r_ = 0)))))], []⟩ (eqs (k950 p) 5 (eqs (k949 p) 5 (eqs (k948 p) 3 ((gP (ybf [(4, (k950 p)), (10, (k949 p)), (16, (k948 p))]) [(16, false)] → All [Fn Try.prog 12 (k97 s_ p) [] (vI r_) []]) :: (eqs (k948 p) 2 []))))) { yb := [(4, (k950 p)), (10, (k949 p)), (16, (k948 p))], an := [(19, .call [] (vI r_) [])] } [] (ae (ae (ae ⟨(fun hg => ⟨(m_plant_CheckState_ok p s_ (gcall hr_ (gB_of hg))), trivial⟩), (ae trivial)⟩))) ?_
 refine bI h (fun hb7 h => ?_) (fun hb7 h => ?_)
 ·refine ct hb7 ?_
  refine aQ (bE h fun u9 hr_1 h => ?_)
  have q0 := m_law03_awake_ok hr_1
  refine rg tT ⟨[(6, (vB u9))], []⟩ [_] { an := [(0, cA q0 [])] } [] ⟨q0, trivial⟩ ?_
  refine aR ?_
  obtain rfl := oi h
  exact rq [(sB u9)] (.refl _)
 ·refine cf hb7 ?_
  refine aP (aQ (bE h fun u3 hr_2 h => ?_))
  have q0 := m_kit_Pick_ok u6 p.buses hr_2
  refine rg tT ⟨[(k119 p), (k120 s_), (7, (vI u3))], []⟩ [_] { an := [(3, cA q0 [])] } [] ⟨q0, trivial⟩ ?_
  refine aQ (bE h fun u0 hr_3 h => ?_)
  have q0 := rk [(0, 16), (1, 17)] (m_guard_Clear_v1_ok p s_ u3 hr_3)
  refine ri tT ⟨[(k119 p), (k120 s_), (7, (vI u3)), (8, (vP 18 0)), (9, (vI u0.2))], [(18, some (k456 u0))]⟩ [_, u0.1.events.length = u0.1.events.length] { an := [(3, cA q0 [])], fr := [(7, 18)] } [16] ⟨q0, rfl, trivial⟩ (fz ⟨[(k119 p), (k120 s_), (7, (vI u3)), (k458 u0), (9, (vI u0.2))], []⟩ [18]) ?_
  refine aQ (sg tT ⟨[(k119 p), (k120 s_), (7, (vI u3)), (k458 u0), (61, (vB (bif (!decide (u0.2 = 0)) then true else (!decide ((u0.1.state.closed.length : Int) = (s_.closed.length : Int))))))], []⟩ (eqs (!decide (u0.2 = 0)) 9 []) { yb := [(2, (!decide (u0.2 = 0)))] } [] (ae trivial) ?_)
  refine bI h (fun hb6 h => ?_) (fun hb6 h => ?_)
  ·refine ct hb6 ?_
   refine sz tT ⟨[(6, (vB false))], []⟩ {} [] ?_
   refine aR ?_
   obtain rfl := oi h
   exact rq [(sB false)] (.refl _)
  ·refine cf hb6 ?_
   refine aP (aQ (bE h fun u2 hr_4 h => ?_))
   have q0 := m_plant_Live_ok p s_ hr_4
   refine rg tT ⟨[(k119 p), (k120 s_), (7, (vI u3)), (k458 u0), (9, (vI u2.2)), (k939 u2)], []⟩ [_] { an := [(2, cA q0 [])] } [] ⟨q0, trivial⟩ ?_
   refine aQ (bE h fun u4 hr_5 h => ?_)
   have q0 := m_plant_Live_ok p u0.1.state hr_5
   refine rg tT ⟨[(k119 p), (k120 s_), (7, (vI u3)), (k458 u0), (9, (vI u2.2)), (k939 u2), (k940 u4), (12, (vI u4.2))], []⟩ [_] { an := [(3, cA q0 [])] } [] ⟨q0, trivial⟩ ?_
   refine aQ (sg tT ⟨[(k120 s_), (7, (vI u3)), (k458 u0), (k939 u2), (k940 u4), (94, (vB (bif (k951 u2 u4) then true else (!decide ((u2.1.length : Int) = p.buses)))))], []⟩ (eqs (!decide (u2.2 = 0)) 3 (eqs (k952 u2 u4) 6 (eqs (k951 u2 u4) 6 []))) { yb := [(2, (!decide (u2.2 = 0))), (6, (k952 u2 u4)), (13, (k951 u2 u4))] } [] (ae (ae (ae trivial))) ?_)
   refine bI h (fun hb5 h => ?_) (fun hb5 h => ?_)
   ·refine ct hb5 ?_
    refine sz tT ⟨[(6, (vB false))], []⟩ {} [] ?_
    refine aR ?_
    obtain rfl := oi h
    exact rq [(sB false)] (.refl _)
   ·refine cf hb5 ?_
    refine aP (aQ (sz tT ⟨[(k120 s_), (7, (vI u3)), (k458 u0), (k939 u2), (k940 u4), (13, (vI 0))], []⟩ {} [] ?_))
    refine bE h fun y hy h => ?_
    refine aL [] (m_law03_GuardOpens_S0 s_ u3 u0 u2 u4) (m_law03_GuardOpens_B0 s_ u3 u0 u2 u4) m_law03_GuardOpens_R hy (fun s f h => ?_) ?_
    ·clear hy
     show AWp _ _ _ _ _ _ ((m_law03_GuardOpens_Q0 s_ u3 u0 u2 u4) f) _
     unfold m_law03_GuardOpens_L0 at h
     obtain ⟨i, rfl⟩ : ∃ q, q = s := ⟨_, rfl⟩
     refine aQ (sz tT ⟨[(k120 s_), (7, (vI u3)), (k458 u0), (k939 u2), (k940 u4), (13, (vI i)), (98, (vB (decide (i < (u4.1.length : Int)))))], []⟩ {} [] ?_)
     refine bI h (fun hb1 h => ?_) (fun hb1 h => ?_)
     ·refine ct hb1 ?_
      refine aP (aQ (aB (aQ (aO h fun ⟨a1, a2⟩ h => ?_))))
      refine rg tT ⟨[(k120 s_), (7, (vI u3)), (k458 u0), (k939 u2), (k940 u4), (13, (vI i)), (111, (vB (bif (at' u4.1 i.toNat) then (!(at' u2.1 i.toNat)) else false)))], []⟩ (_ :: (eqs (at' u4.1 i.toNat) 3 ((gP (ybf [(4, (at' u4.1 i.toNat))]) [(4, true)] → All [(0 : Int) ≤ i ∧ i < (u2.1.length : Int)]) :: (eqs (at' u4.1 i.toNat) 3 [])))) { yb := [(4, (at' u4.1 i.toNat))] } [] ⟨a1, (ae ⟨(fun hg => ⟨(a2 (gB_of hg)), trivial⟩), (ae trivial)⟩)⟩ ?_
      refine bI h (fun hb h => ?_) (fun hb h => ?_)
      ·refine ct hb ?_
       refine sz tT ⟨[(6, (vB false))], []⟩ {} [] ?_
       refine aR ?_
       obtain rfl := oi h
       exact lR ret_nn (ret_ne 0) av_ret (RetQ.mk (.inr rfl) (p := []) (l := [(sB false)]) (by kernel_rfl) trivial (TLe.refl _) trivial)
      ·refine cf hb ?_
       refine aP (rz tT ⟨[(k120 s_), (7, (vI u3)), (k458 u0), (k939 u2), (k940 u4), (k335 i)], []⟩ {} [] ?_)
       obtain rfl := oi h
       exact lN (by kernel_rfl)
     ·refine cf hb1 ?_
      refine aI (fz (k941 s_ u3 u0 u2 u4) []) ?_
      refine aX ?_
      obtain rfl := oi h
      exact lB (by kernel_rfl)
    ·clear hy
     cases y with
     | brk z =>
      unfold ExK
      refine ⟨_, .refl, ?_⟩
      refine aQ (bE h fun u1 hr_6 h => ?_)
      have q0 := rk [(0, 19), (1, 20), (2, 21), (3, 22), (4, 23), (5, 24), (6, 25), (7, 26)] (m_kit_CopyState_v1_ok u0.1.state hr_6)
      refine rg tT ⟨(k947 s_ u3 u0 u2 u4), (k953 u1)⟩ [_] { an := [(2, cA q0 [])], fr := [(3, 27)] } [] ⟨q0, trivial⟩ ?_
      refine aQ (sz tT ⟨[(k120 s_), (7, (vI u3)), (k458 u0), (k939 u2), (k940 u4), (14, (vP 27 0)), (15, (vI 0))], (k953 u1)⟩ {} [] ?_)
      refine bE h fun y1 hy h => ?_
      refine aL [] (m_law03_GuardOpens_S1 s_ u3 u0 u2 u4 u1) (m_law03_GuardOpens_B1 s_ u3 u0 u2 u4 u1) m_law03_GuardOpens_R hy (fun s f h => ?_) ?_
      ·clear hy
       show AWp _ _ _ _ _ _ ((m_law03_GuardOpens_Q1 s_ u3 u0 u2 u4 u1) f) _
       unfold m_law03_GuardOpens_L1 at h
       obtain ⟨t0, i1⟩ := s
       refine aQ (sz tT ⟨[(k120 s_), (7, (vI u3)), (k458 u0), (k939 u2), (k940 u4), (14, (vP 27 0)), (15, (vI i1)), (119, (vB (decide (i1 < (s_.closed.length : Int)))))], (k943 u1 t0)⟩ {} [] ?_)
       refine bI h (fun hb3 h => ?_) (fun hb3 h => ?_)
       ·refine ct hb3 ?_
        refine aP (aQ (aB (aQ (aQ (aO h fun ⟨a1, a2⟩ h => ?_)))))
        refine rg tT ⟨[(k120 s_), (7, (vI u3)), (k458 u0), (k939 u2), (k940 u4), (14, (vP 27 0)), (15, (vI i1)), (134, (vB (bif (at' t0 i1.toNat) then (k108 s_ i1) else false)))], (k943 u1 t0)⟩ (_ :: _ :: (eqs (at' t0 i1.toNat) 4 ((gP (ybf [(5, (at' t0 i1.toNat))]) [(5, true)] → All [(0 : Int) ≤ i1 ∧ i1 < (s_.closed.length : Int)]) :: (eqs (at' t0 i1.toNat) 3 [])))) { yb := [(5, (at' t0 i1.toNat))] } [] ⟨a1, (tL a1), (ae ⟨(fun hg => ⟨(a2 (gB_of hg)), trivial⟩), (ae trivial)⟩)⟩ ?_
        refine bI h (fun hb2 h => ?_) (fun hb2 h => ?_)
        ·refine ct hb2 ?_
         refine sz tT ⟨[(6, (vB false))], []⟩ {} [] ?_
         refine aR ?_
         obtain rfl := oi h
         exact lR ret_nn (ret_ne 2) av_ret (RetQ.mk (.inr rfl) (p := []) (l := [(sB false)]) (by kernel_rfl) trivial (TLe.refl _) trivial)
        ·refine cf hb2 ?_
         refine aP (aO h fun ⟨a1, a2⟩ h => ?_)
         refine di tT mX ⟨(k942 s_ u3 u0 u2 u4 i1), [(19, some (.arr 4 1 t0.length (elOf boolC (t0.set i1.toNat (at' s_.closed i1.toNat))))), (20, some (arD 4 1 boolC u1.locked)), (21, some (arD 4 1 boolC u1.badLink)), (22, some (arD 4 1 boolC u1.on_)), (k944 u1), (24, some (arD 4 1 boolC u1.earthed)), (25, some (arD 4 1 boolC u1.badBus)), (k945 u1 t0)]⟩ [_, _, _, ArrEq t0.length 1 (stEls (elOf boolC t0) i1.toNat 0 [(.bool (at' s_.closed i1.toNat))]) (elOf boolC (t0.set i1.toNat (at' s_.closed i1.toNat)))] { an := [(9, .arr 0 (elOf boolC (t0.set i1.toNat (at' s_.closed i1.toNat))))] } [] ⟨a1, a2, (tL a2), (arrEq_set' _ _ _ _ _ _ _ _ rfl (fun j hj => (match j, hj with | 0, _ => rfl))), trivial⟩ (Imp.le (st' := ⟨(k942 s_ u3 u0 u2 u4 i1), (k954 u1 t0 i1 s_)⟩) ⟨⟨tR, tR, tR, tR, tR, tR, tR, trivial⟩, ⟨rfl, oW, ⟨rfl, .refl _, ⟨rfl, .refl _, ⟨rfl, .refl _, ⟨rfl, .refl _, ⟨rfl, .refl _, ⟨rfl, .refl _, ⟨rfl, OLe_cells ⟨cW, CLe.refl _, CLe.refl _, CLe.refl _, CLe.refl _, CLe.refl _, CLe.refl _, trivial⟩, trivial⟩⟩⟩⟩⟩⟩⟩⟩⟩) ?_
         refine rz tT ⟨[(k120 s_), (7, (vI u3)), (k458 u0), (k939 u2), (k940 u4), (14, (vP 27 0)), (15, (k30 i1))], (k954 u1 t0 i1 s_)⟩ {} [] ?_
         obtain rfl := oi h
         exact lN (by kernel_rfl)
       ·refine cf hb3 ?_
        refine aI (fz (k946 s_ u3 u0 u2 u4 t0 u1) []) ?_
        refine aX ?_
        obtain rfl := oi h
        exact lB (by kernel_rfl)
      ·clear hy
       cases y1 with
       | brk z =>
        obtain ⟨u7, rfl⟩ : ∃ q, q = z := ⟨_, rfl⟩
        unfold ExK
        refine ⟨_, .refl, ?_⟩
        refine aQ (aQ (aO h fun ⟨a1, a2⟩ h => ?_))
        refine ri tT ⟨[(k120 s_), (14, (vP 27 0)), (k955 u2 u4 u0 u3)], [(27, some (.cells 29 [(.d (slD none 1 boolC u7)), (.d (k76 u1)), (.d (k77 u1)), (.d (k78 u1)), (.d (k79 u1)), (.d (k80 u1)), (.d (k81 u1))]))]⟩ (_ :: (eqs (!(at' u2.1 u3.toNat)) 4 (eqs (!u0.1.cleared) 3 ((k958 u2 u3) :: (gP (k959 u2 u0 u3) [(5, true)] → All [(!u0.1.cleared) = (!u0.1.cleared)]) :: (k958 u2 u3) :: (eqs (k957 u0) 4 ((k958 u2 u3) :: (gP (k959 u2 u0 u3) [(5, true)] → All [(k957 u0) = (k957 u0)]) :: (k958 u2 u3) :: (eqs (k956 u2 u0 u3) 3 (eqs u0.1.cleared 3 [gP (k959 u2 u0 u3) [(24, true), (21, false)] → All [(0 : Int) ≤ u3 ∧ u3 < (u4.1.length : Int)], u0.1.cleared = u0.1.cleared, (k956 u2 u0 u3) = (k956 u2 u0 u3), gP (k959 u2 u0 u3) [(21, false)] → All [u0.1.cleared = u0.1.cleared], (k956 u2 u0 u3) = (k956 u2 u0 u3), u7.length = u7.length, u1.locked.length = u1.locked.length, u1.badLink.length = u1.badLink.length, u1.on_.length = u1.on_.length, u1.badSource.length = u1.badSource.length, u1.earthed.length = u1.earthed.length, u1.badBus.length = u1.badBus.length])))))))) { yb := [(5, (!(at' u2.1 u3.toNat))), (9, (!u0.1.cleared)), (14, (k957 u0)), (21, (k956 u2 u0 u3)), (24, u0.1.cleared)] } [19, 20, 21, 22, 23, 24, 25] ⟨a1, (ae (ae ⟨rfl, (fun hg => ⟨rfl, trivial⟩), rfl, (ae ⟨rfl, (fun hg => ⟨rfl, trivial⟩), rfl, (ae (ae ⟨(fun hg => ⟨(a2 (gB_of hg)), trivial⟩), rfl, rfl, (fun hg => ⟨rfl, trivial⟩), rfl, rfl, rfl, rfl, rfl, rfl, rfl, rfl, trivial⟩))⟩)⟩))⟩ (fz ⟨[(k120 s_), (14, (vD (ipT [(slD none 1 boolC u7), (k76 u1), (k77 u1), (k78 u1), (k79 u1), (k80 u1), (k81 u1)] 0))), (k955 u2 u4 u0 u3)], []⟩ [27]) ?_
        refine bI h (fun hb4 h => ?_) (fun hb4 h => ?_)
        ·refine ct hb4 ?_
         refine sz tT ⟨[(6, (vB false))], []⟩ {} [] ?_
         refine aR ?_
         obtain rfl := oi h
         exact rq [(sB false)] (.refl _)
        ·refine cf hb4 ?_
         refine aP (aQ (bE h fun u5 hr_7 h => ?_))
         refine bE h fun u8 hr_8 h => ?_
         have q0 := m_kit_SameState_ok (⟨u7, u1.locked, u1.badLink, u1.on_, u1.badSource, u1.earthed, u1.badBus⟩ : State) s_ hr_7
         refine rg tT ⟨[(6, (vB (k17 u5 u8)))], []⟩ [_, u5 = u5, gP (ybf [(3, u5)]) [(3, true)] → All [Fn Try.prog 13 [] [] (vB u8) []], u5 = u5] { yb := [(3, u5)], an := [(2, cA q0 []), (4, .call [] (vB u8) [])] } [] ⟨q0, rfl, (fun hg => ⟨(m_law03_awake_ok (gcall hr_8 (gB_of hg))), trivial⟩), rfl, trivial⟩ ?_
         refine aR ?_
         obtain rfl := oi h
         exact rq [(sB (k17 u5 u8))] (.refl _)
       | ret v =>
        obtain rfl := oi h
        unfold ExK
        intro e st hn ha hR
        cases e with
        | normal => exact absurd rfl hn
        | exit id => exact hR
        | goto l => exact hR
        | ret => exact hR
        | panic c => exact hR
        | outgrown => exact hR
     | ret v =>
      obtain rfl := oi h
      unfold ExK
      intro e st hn ha hR
      cases e with
      | normal => exact absurd rfl hn
      | exit id => exact hR
      | goto l => exact hR
      | ret => exact hR
      | panic c => exact hR
      | outgrown => exact hR
end
end Sg
