import Derived.Test.YtpndenfhglaikaaW1
namespace Sg
open Go Go.Proofs
set_option maxRecDepth 20000
set_option linter.all false
noncomputable section
section
variable (r_ : (Plant × State)) (u0 : (Clearing × Int)) (u1 : (Bool × Int)) (u3 : ((List Int) × Int)) (u2 : (Clearing × Int)) (u4 : (Bool × Int))
abbrev k836 : Nat × Option Ob := (21, some (arD 126 5 Source.cell r_.1.sources))
abbrev k837 : Nat × Option Ob := (22, some (arD 53 6 Link.cell r_.1.links))
abbrev k838 : Nat × Option Ob := (23, some (arD 166 4 Rack.cell r_.1.racks))
abbrev k840 : List CV := [(cI r_.1.buses), (.own 21 true r_.1.sources.length), (.own 22 true r_.1.links.length), (.own 23 true r_.1.racks.length)]
abbrev k839 : Nat × Option Ob := (33, some (.cells 26 (k840 r_)))
abbrev k841 : List CV := [(.d (slD (some true) 1 boolC r_.2.closed)), (.d (slD (some true) 1 boolC r_.2.locked)), (.d (slD (some true) 1 boolC r_.2.badLink)), (.d (slD (some true) 1 boolC r_.2.on_)), (.d (slD (some true) 1 boolC r_.2.badSource)), (.d (slD (some true) 1 boolC r_.2.earthed)), (.d (slD (some true) 1 boolC r_.2.badBus))]
abbrev k842 : Nat × TV := (2, (vD (ipT [(slD (some true) 1 boolC r_.2.closed), (slD (some true) 1 boolC r_.2.locked), (slD (some true) 1 boolC r_.2.badLink), (slD (some true) 1 boolC r_.2.on_), (slD (some true) 1 boolC r_.2.badSource), (slD (some true) 1 boolC r_.2.earthed), (slD (some true) 1 boolC r_.2.badBus)] 0)))
abbrev k844 : Nat × Option Ob := (35, some (arD 56 2 Event.cell u0.1.events))
abbrev k846 : List CV := [(.own 35 false u0.1.events.length), (cB u0.1.cleared), (cI u0.1.millis), (cI u0.1.energy), (.d (k471 u0)), (.d (k472 u0)), (.d (k473 u0)), (.d (k474 u0)), (.d (k475 u0)), (.d (k476 u0)), (.d (k477 u0))]
abbrev k845 : Nat × Option Ob := (37, some (.cells 36 (k846 u0)))
abbrev k843 : List (Nat × Option Ob) := [(k836 r_), (k837 r_), (k838 r_), (k839 r_), (k844 u0), (k845 u0)]
abbrev k847 : List SV := [(.agg (k840 r_)), (.agg (k841 r_)), (sI 2)]
abbrev k848 : List (Nat × Option Ob) := [(k836 r_), (k837 r_), (k838 r_)]
abbrev k849 : TV := (.tup [(.agg (k846 u0)), (sI u0.2)])
abbrev k850 : List (Nat × Option Ob) := [(k836 r_), (k837 r_), (k838 r_), (k844 u0), (36, none)]
abbrev k852 : List CV := [(.d (slD none 1 boolC r_.2.closed)), (.d (slD none 1 boolC r_.2.locked)), (.d (slD none 1 boolC r_.2.badLink)), (.d (slD none 1 boolC r_.2.on_)), (.d (slD none 1 boolC r_.2.badSource)), (.d (slD none 1 boolC r_.2.earthed)), (.d (slD none 1 boolC r_.2.badBus))]
abbrev k851 : List SV := [(.agg (k840 r_)), (.agg (k852 r_)), (sI 2)]
abbrev k853 : DV := (slD (some true) 5 Source.cell r_.1.sources)
abbrev k854 : DV := (slD (some true) 4 Rack.cell r_.1.racks)
abbrev k861 := (bif (!decide (u0.2 = 0)) then true else (!decide (u1.2 = 0)))
abbrev k860 := (bif (k861 u0 u1) then true else (!decide (u3.2 = 0)))
abbrev k859 := (bif (k860 u0 u1 u3) then true else (!u1.1))
abbrev k858 := (bif (k859 u0 u1 u3) then true else (!decide ((u0.1.events.length : Int) = 1)))
abbrev k857 := (bif (k858 u0 u1 u3) then true else (!((decide (((at' u0.1.events 0).millis) = 50)) && ((decide (((at' u0.1.events 0).link) = 1)) && true))))
abbrev k856 := (bif (k857 u0 u1 u3) then true else (!u0.1.cleared))
abbrev k855 := (bif (k856 u0 u1 u3) then true else (!decide (u0.1.energy = 5000000)))
abbrev k862 := (ybf [(2, (!decide (u0.2 = 0))), (6, (k861 u0 u1)), (10, (k860 u0 u1 u3)), (14, (k859 u0 u1 u3)), (20, (k858 u0 u1 u3)), (28, (k857 u0 u1 u3)), (33, (k856 u0 u1 u3)), (38, true)])
abbrev k863 := ((k858 u0 u1 u3) = (k858 u0 u1 u3))
abbrev k864 := (ybf [(2, (!decide (u0.2 = 0))), (6, (k861 u0 u1)), (10, (k860 u0 u1 u3)), (14, (k859 u0 u1 u3)), (20, (k858 u0 u1 u3)), (28, (k857 u0 u1 u3)), (33, (k856 u0 u1 u3)), (38, false)])
abbrev k865 : List (Nat × TV) := [(1, (vP 33 0)), (k842 r_), (3, (vP 37 0))]
abbrev k866 := (stEls (elOf Link.cell r_.1.links) 1 5 [nS])
abbrev k870 := (⟨(at' r_.1.links 1).a, (at' r_.1.links 1).b, (at' r_.1.links 1).kind, (at' r_.1.links 1).most, (at' r_.1.links 1).ohm, ([] : List Trip)⟩ : Link)
abbrev k869 := (r_.1.links.set 1 (k870 r_))
abbrev k868 : DV := (slD (some true) 6 Link.cell (k869 r_))
abbrev k867 : List CV := [(cI r_.1.buses), (.d (k853 r_)), (.d (k868 r_)), (.d (k854 r_))]
abbrev k871 : Nat × TV := (1, (vD (ipT [(.int .i64 r_.1.buses), (k853 r_), (k868 r_), (k854 r_)] 0)))
abbrev k872 : List SV := [(.agg (k867 r_)), (.agg (k841 r_)), (sI 2)]
abbrev k873 : TV := (.tup [(.agg [(.own 39 false u2.1.events.length), (cB u2.1.cleared), (cI u2.1.millis), (cI u2.1.energy), (.d (k471 u2)), (.d (k472 u2)), (.d (k473 u2)), (.d (k474 u2)), (.d (k475 u2)), (.d (k476 u2)), (.d (k477 u2))]), (sI u2.2)])
abbrev k874 : List SV := [(.agg [(cI r_.1.buses), (.d (slD none 5 Source.cell r_.1.sources)), (.d (slD none 6 Link.cell (k869 r_))), (.d (slD none 4 Rack.cell r_.1.racks))]), (.agg (k852 r_)), (sI 2)]
abbrev k875 := (⟨r_.1.buses, r_.1.sources, (k869 r_), r_.1.racks⟩ : Plant)
abbrev k876 : Nat × TV := (3, (k479 u2))
abbrev k882 := (bif (decide (u2.2 = 0)) then (decide (u4.2 = 0)) else false)
abbrev k881 := (bif (k882 u2 u4) then (!u4.1) else false)
abbrev k880 := (bif (k881 u2 u4) then u2.1.cleared else false)
abbrev k879 := (bif (k880 u2 u4) then (decide ((u2.1.events.length : Int) = 1)) else false)
abbrev k878 := (bif (k879 u2 u4) then ((decide (((at' u2.1.events 0).millis) = 100)) && ((decide (((at' u2.1.events 0).link) = 0)) && true)) else false)
abbrev k877 := (bif (k878 u2 u4) then (decide (u2.1.millis = 100)) else false)
end
theorem m_law03_awake_ok  {r : Bool} (h : m_law03_awake = some r) : Fn Try.prog 13 [] [] (vB r) [] := by
 refine fN tT Try.func13 rfl rfl fun B => ?_
 show AWp _ _ _ _ _ _ (m_law03_awake_R r) _
 unfold m_law03_awake at h
 refine sz tT ⟨[], []⟩ {} [] ?_
 refine aQ (bE h fun r_ hr_ h => ?_)
 have q0 := rk [(0, 21), (1, 22), (2, 23), (3, 24), (4, 25), (5, 26), (6, 27), (7, 28), (8, 29), (9, 30), (10, 31), (11, 32)] (m_law03_example_v1_ok hr_)
 refine ri tT ⟨[(1, (vP 33 0)), (2, (vP 34 0))], [(k836 r_), (k837 r_), (k838 r_), (k839 r_), (34, some (.cells 29 (k841 r_)))]⟩ [_, r_.2.closed.length = r_.2.closed.length, r_.2.locked.length = r_.2.locked.length, r_.2.badLink.length = r_.2.badLink.length, r_.2.on_.length = r_.2.on_.length, r_.2.badSource.length = r_.2.badSource.length, r_.2.earthed.length = r_.2.earthed.length, r_.2.badBus.length = r_.2.badBus.length] { an := [(0, cA q0 [])], fr := [(4, 33), (5, 34)] } [24, 25, 26, 27, 28, 29, 30] ⟨q0, rfl, rfl, rfl, rfl, rfl, rfl, rfl, trivial⟩ (fz ⟨[(1, (vP 33 0)), (k842 r_)], [(k836 r_), (k837 r_), (k838 r_), (k839 r_)]⟩ [34]) ?_
 refine aQ (bE h fun u0 hr_1 h => ?_)
 refine rg tT ⟨[(1, (vP 33 0)), (k842 r_), (3, (vP 37 0)), (4, (vI u0.2))], (k843 r_ u0)⟩ [Fn Try.prog 15 (k847 r_) (k848 r_) (k849 u0) (k850 r_ u0)] { an := [(2, .call [21, 22, 23] (k849 u0) (k850 r_ u0))], fr := [(6, 37)] } [] ⟨(Fn.leH (args := (k851 r_)) (hin := (k848 r_)) (Fn.renK [(0, 21), (1, 22), (2, 23), (3, 35), (4, 36)] (m_guard_Clear_v2_ok r_.1 r_.2 2 hr_1) (by kernel_rfl) (by kernel_rfl) (by kernel_rfl) (by kernel_rfl)) ⟨SLe.refl _, SLe.agg ⟨CLe.d DLe.nn', CLe.d DLe.nn', CLe.d DLe.nn', CLe.d DLe.nn', CLe.d DLe.nn', CLe.d DLe.nn', CLe.d DLe.nn', trivial⟩, SLe.refl _, trivial⟩ ⟨rfl, .refl _, ⟨rfl, .refl _, ⟨rfl, .refl _, trivial⟩⟩⟩), trivial⟩ ?_
 refine aQ (bE h fun u1 hr_2 h => ?_)
 refine rg tT ⟨[(1, (vP 33 0)), (k842 r_), (3, (vP 37 0)), (4, (vI u0.2)), (5, (vB u1.1)), (6, (vI u1.2))], (k843 r_ u0)⟩ [Fn Try.prog 60 (k847 r_) (k848 r_) (.tup [(sB u1.1), (sI u1.2)]) (k848 r_)] { an := [(2, .callR [21, 22, 23] (.tup [(sB u1.1), (sI u1.2)]))] } [] ⟨(Fn.lend (frz := [21, 22, 23]) (p := [r_.1.sources.length = r_.1.sources.length, r_.1.links.length = r_.1.links.length, r_.1.racks.length = r_.1.racks.length]) (Fn.le (args' := [(.agg [(cI r_.1.buses), (.d (k853 r_)), (.d (slD (some true) 6 Link.cell r_.1.links)), (.d (k854 r_))]), (.agg (k841 r_)), (sI 2)]) (m_guard_Selective_ok r_.1 r_.2 2 hr_2) ⟨SLe.agg ⟨CLe.refl _, CLe.d DLe.nn', CLe.d DLe.nn', CLe.d DLe.nn', trivial⟩, SLe.agg ⟨CLe.d DLe.nn', CLe.d DLe.nn', CLe.d DLe.nn', CLe.d DLe.nn', CLe.d DLe.nn', CLe.d DLe.nn', CLe.d DLe.nn', trivial⟩, SLe.refl _, trivial⟩) (by kernel_rfl) ⟨rfl, rfl, rfl, trivial⟩ rfl), trivial⟩ ?_
 refine aQ (bE h fun u3 hr_3 h => ?_)
 refine rg tT ⟨[(1, (vP 33 0)), (k842 r_), (3, (vP 37 0)), (4, (vI u0.2)), (5, (vB u1.1)), (6, (vI u1.2)), (7, (vD (slD none 1 (intC .i64) u3.1))), (8, (vI u3.2))], (k843 r_ u0)⟩ [Fn Try.prog 61 (k847 r_) (k848 r_) (.tup [(sD (slD none 1 (intC .i64) u3.1)), (sI u3.2)]) (k848 r_)] { an := [(2, .callR [21, 22, 23] (.tup [(sD (slD none 1 (intC .i64) u3.1)), (sI u3.2)]))] } [] ⟨(Fn.leH (args := (k851 r_)) (hin := (k848 r_)) (Fn.renK [(0, 21), (1, 22), (2, 23)] (m_guard_Lost_v1_ok r_.1 r_.2 2 hr_3) (by kernel_rfl) (by kernel_rfl) (by kernel_rfl) (by kernel_rfl)) ⟨SLe.refl _, SLe.agg ⟨CLe.d DLe.nn', CLe.d DLe.nn', CLe.d DLe.nn', CLe.d DLe.nn', CLe.d DLe.nn', CLe.d DLe.nn', CLe.d DLe.nn', trivial⟩, SLe.refl _, trivial⟩ ⟨rfl, .refl _, ⟨rfl, .refl _, ⟨rfl, .refl _, trivial⟩⟩⟩), trivial⟩ ?_
 refine aQ (aQ ?_)
 refine bI h (fun hb h => ?_) (fun hb h => ?_)
 ·skip
  refine aO h fun a1 h => ?_
  refine ri tT ⟨[(1, (vP 33 0)), (k842 r_), (3, (vP 37 0)), (74, (vB (bif (k855 u0 u1 u3) then true else false)))], (k843 r_ u0)⟩ (eqs (!decide (u0.2 = 0)) 3 (eqs (k861 u0 u1) 3 (eqs (k860 u0 u1 u3) 3 (eqs (k859 u0 u1 u3) 5 (eqs (k858 u0 u1 u3) 3 ((gP (k862 u0 u1 u3) [(20, false)] → All [(0 : Int) ≤ 0 ∧ 0 < (u0.1.events.length : Int)]) :: (k863 u0 u1 u3) :: (gP (k862 u0 u1 u3) [(20, false)] → All [0 < u0.1.events.length]) :: (eqs (k858 u0 u1 u3) 3 (eqs (k857 u0 u1 u3) 4 (eqs (k856 u0 u1 u3) 4 [(k855 u0 u1 u3) = true, ¬ gP (k862 u0 u1 u3) [(38, false)], (k855 u0 u1 u3) = true, ¬ gP (k862 u0 u1 u3) [(38, false)], (k855 u0 u1 u3) = true, ¬ gP (k862 u0 u1 u3) [(38, false)], (k855 u0 u1 u3) = true, ¬ gP (k862 u0 u1 u3) [(38, false)], (k855 u0 u1 u3) = true]))))))))) { yb := [(2, (!decide (u0.2 = 0))), (6, (k861 u0 u1)), (10, (k860 u0 u1 u3)), (14, (k859 u0 u1 u3)), (20, (k858 u0 u1 u3)), (28, (k857 u0 u1 u3)), (33, (k856 u0 u1 u3)), (38, true)], an := [(39, .skip), (40, .skip), (41, .skip), (42, .skip)] } [] (ae (ae (ae (ae (ae ⟨(fun hg => ⟨(a1 (gB_of hg)), trivial⟩), rfl, (fun hg => ⟨((fun hq => tL (a1 hq)) (gB_of hg)), trivial⟩), (ae (ae (ae ⟨(hb), ((fun h => Bool.noConfusion (show true = false from h.1))), (hb), ((fun h => Bool.noConfusion (show true = false from h.1))), (hb), ((fun h => Bool.noConfusion (show true = false from h.1))), (hb), ((fun h => Bool.noConfusion (show true = false from h.1))), (hb), trivial⟩)))⟩))))) (Imp.le (st' := ⟨[(1, (vP 33 0)), (k842 r_), (3, (vP 37 0)), (74, (vB true))], (k843 r_ u0)⟩) ⟨⟨tR, tR, tR, ⟨_, rfl, TLe.v (SLe.one (CLe.of (congrArg (fun b => CV.d (.bool b)) (bifT hb))))⟩, trivial⟩, ⟨rfl, .refl _, ⟨rfl, .refl _, ⟨rfl, .refl _, ⟨rfl, .refl _, ⟨rfl, .refl _, ⟨rfl, .refl _, trivial⟩⟩⟩⟩⟩⟩⟩) ?_
  refine ck (sz tT ⟨[(0, (vB false))], []⟩ {} [] ?_)
  refine aR ?_
  obtain rfl := oi h
  exact rq [(sB false)] (.refl _)
 ·skip
  refine bE h fun u5 hr_4 h => ?_
  refine aO h fun a1 h => ?_
  refine ri tT ⟨[(1, (vP 33 0)), (k842 r_), (3, (vP 37 0)), (74, (vB (bif (k855 u0 u1 u3) then true else (!u5))))], (k843 r_ u0)⟩ (eqs (!decide (u0.2 = 0)) 3 (eqs (k861 u0 u1) 3 (eqs (k860 u0 u1 u3) 3 (eqs (k859 u0 u1 u3) 5 (eqs (k858 u0 u1 u3) 3 ((gP (k864 u0 u1 u3) [(20, false)] → All [(0 : Int) ≤ 0 ∧ 0 < (u0.1.events.length : Int)]) :: (k863 u0 u1 u3) :: (gP (k864 u0 u1 u3) [(20, false)] → All [0 < u0.1.events.length]) :: (eqs (k858 u0 u1 u3) 3 (eqs (k857 u0 u1 u3) 4 (eqs (k856 u0 u1 u3) 4 [(k855 u0 u1 u3) = false, (k855 u0 u1 u3) = false, gP (k864 u0 u1 u3) [(38, false)] → All [[0].length = 1, ArrEq 1 1 (elL 1 [(.int .i64 0)]) (elOf (intC .i64) [0])], gP (k864 u0 u1 u3) [(38, false)], (k855 u0 u1 u3) = false, gP (k864 u0 u1 u3) [(38, false)] → All [Fn Try.prog 54 [(sD (slD none 1 (intC .i64) u3.1)), (.one (.own 38 true ([0].length)))] [(38, some (arD 3 1 (intC .i64) [0]))] (vB u5) [(38, some (arD 3 1 (intC .i64) [0]))]], (k855 u0 u1 u3) = false, (k855 u0 u1 u3) = false]))))))))) { yb := [(2, (!decide (u0.2 = 0))), (6, (k861 u0 u1)), (10, (k860 u0 u1 u3)), (14, (k859 u0 u1 u3)), (20, (k858 u0 u1 u3)), (28, (k857 u0 u1 u3)), (33, (k856 u0 u1 u3)), (38, false)], an := [(40, .arr [0].length (elOf (intC .i64) [0])), (41, .callR [38] (vB u5))], fr := [(40, 38)] } [] (ae (ae (ae (ae (ae ⟨(fun hg => ⟨(a1 (gB_of hg)), trivial⟩), rfl, (fun hg => ⟨((fun hq => tL (a1 hq)) (gB_of hg)), trivial⟩), (ae (ae (ae ⟨(hb), (hb), (fun hg => ⟨(rfl), ((by intro i hi j hj; match i, j, hi, hj with | 0, 0, _, _ => rfl)), trivial⟩), (⟨rfl, trivial⟩), (hb), (fun hg => ⟨(Fn.lend (frz := [38]) (p := [[0].length = [0].length]) (Fn.le (args' := [(sD (slD none 1 (intC .i64) u3.1)), (sD (slD (some true) 1 (intC .i64) [0]))]) (m_kit_SameInts_ok u3.1 [0] hr_4) ⟨SLe.refl _, SLe.one (CLe.d DLe.nn'), trivial⟩) (by kernel_rfl) ⟨rfl, trivial⟩ rfl), trivial⟩), (hb), (hb), trivial⟩)))⟩))))) (Imp.le (st' := ⟨[(1, (vP 33 0)), (k842 r_), (3, (vP 37 0)), (74, (vB (!u5)))], (k843 r_ u0)⟩) ⟨⟨tR, tR, tR, ⟨_, rfl, TLe.v (SLe.one (CLe.of (congrArg (fun b => CV.d (.bool b)) (bifF hb))))⟩, trivial⟩, ⟨rfl, .refl _, ⟨rfl, .refl _, ⟨rfl, .refl _, ⟨rfl, .refl _, ⟨rfl, .refl _, ⟨rfl, .refl _, trivial⟩⟩⟩⟩⟩⟩⟩) ?_
  refine bI h (fun hb1 h => ?_) (fun hb1 h => ?_)
  ·refine ct hb1 ?_
   refine sz tT ⟨[(0, (vB false))], []⟩ {} [] ?_
   refine aR ?_
   obtain rfl := oi h
   exact rq [(sB false)] (.refl _)
  ·refine cf hb1 ?_
   refine aP (aQ (aO h fun a1 h => ?_))
   refine ri tT ⟨(k865 r_), [(33, some (.cells 26 [(cI r_.1.buses), (.d (k853 r_)), (.d (.sl (some true) 6 r_.1.links.length (k866 r_))), (.d (k854 r_))])), (k844 u0), (k845 u0)]⟩ [_, _, ArrEq r_.1.links.length 6 (k866 r_) (k866 r_), r_.1.sources.length = r_.1.sources.length, r_.1.links.length = r_.1.links.length, r_.1.racks.length = r_.1.racks.length] { an := [(4, .arr 0 (k866 r_))] } [21, 22, 23] ⟨a1, (tL a1), (arrEq_refl _ _ _), rfl, rfl, rfl, trivial⟩ (.trans (Imp.le (st' := ⟨(k865 r_), [(33, some (.cells 26 (k867 r_))), (k844 u0), (k845 u0)]⟩) ⟨⟨tR, tR, tR, trivial⟩, ⟨rfl, OLe_cells ⟨CLe.refl _, CLe.refl _, CLe.d (DLe.slN (by simp only [List.length_set]) (.inr rfl) (stLe Link.cell r_.1.links _ _ 1 5 [nS] (k870 r_) (by simp only [List.length_set]) (fun j hj => match j, hj with | 0, _ => .refl _ | 1, _ => .refl _ | 2, _ => .refl _ | 3, _ => .refl _ | 4, _ => .refl _ | 5, _ => DLe.nil'))), CLe.refl _, trivial⟩, ⟨rfl, .refl _, ⟨rfl, .refl _, trivial⟩⟩⟩⟩) (fz ⟨[(k871 r_), (k842 r_), (3, (vP 37 0))], [(k844 u0), (k845 u0)]⟩ [33])) ?_
   refine aQ (bE h fun u2 hr_5 h => ?_)
   refine ri tT ⟨[(k871 r_), (k842 r_), (3, (vP 37 0)), (4, (vI u2.2))], [(37, some (k469 u2))]⟩ [Fn Try.prog 15 (k872 r_) [] (k873 u2) [(39, some (arD 56 2 Event.cell u2.1.events)), (40, none)], u2.1.events.length = u2.1.events.length] { an := [(2, .call [] (k873 u2) [(39, some (arD 56 2 Event.cell u2.1.events)), (40, none)])] } [39] ⟨(Fn.leH (args := (k874 r_)) (hin := []) (Fn.renK [(0, 39), (1, 40)] (m_guard_Clear_v1_ok (k875 r_) r_.2 2 hr_5) (by kernel_rfl) (by kernel_rfl) (by kernel_rfl) (by kernel_rfl)) ⟨SLe.agg ⟨CLe.refl _, CLe.d DLe.nn', CLe.d DLe.nn', CLe.d DLe.nn', trivial⟩, SLe.agg ⟨CLe.d DLe.nn', CLe.d DLe.nn', CLe.d DLe.nn', CLe.d DLe.nn', CLe.d DLe.nn', CLe.d DLe.nn', CLe.d DLe.nn', trivial⟩, SLe.refl _, trivial⟩ trivial), rfl, trivial⟩ (fz ⟨[(k871 r_), (k842 r_), (k876 u2), (4, (vI u2.2))], []⟩ [37]) ?_
   refine aQ (bE h fun u4 hr_6 h => ?_)
   refine rg tT ⟨[(k876 u2), (4, (vI u2.2)), (5, (vB u4.1)), (6, (vI u4.2))], []⟩ [Fn Try.prog 60 (k872 r_) [] (.tup [(sB u4.1), (sI u4.2)]) []] { an := [(2, .call [] (.tup [(sB u4.1), (sI u4.2)]) [])] } [] ⟨(Fn.leH (args := (k874 r_)) (hin := []) (m_guard_Selective_ok (k875 r_) r_.2 2 hr_6) ⟨SLe.agg ⟨CLe.refl _, CLe.d DLe.nn', CLe.d DLe.nn', CLe.d DLe.nn', trivial⟩, SLe.agg ⟨CLe.d DLe.nn', CLe.d DLe.nn', CLe.d DLe.nn', CLe.d DLe.nn', CLe.d DLe.nn', CLe.d DLe.nn', CLe.d DLe.nn', trivial⟩, SLe.refl _, trivial⟩ trivial), trivial⟩ ?_
   refine aQ (aO h fun a1 h => ?_)
   refine rg tT ⟨[(0, (vB (k877 u2 u4)))], []⟩ (eqs (decide (u2.2 = 0)) 3 (eqs (k882 u2 u4) 3 (eqs (k881 u2 u4) 3 (eqs (k880 u2 u4) 5 (eqs (k879 u2 u4) 3 ((gP (ybf [(2, (decide (u2.2 = 0))), (6, (k882 u2 u4)), (10, (k881 u2 u4)), (14, (k880 u2 u4)), (20, (k879 u2 u4)), (28, (k878 u2 u4))]) [(20, true)] → All [(0 : Int) ≤ 0 ∧ 0 < (u2.1.events.length : Int)]) :: (eqs (k879 u2 u4) 4 (eqs (k878 u2 u4) 4 [])))))))) { yb := [(2, (decide (u2.2 = 0))), (6, (k882 u2 u4)), (10, (k881 u2 u4)), (14, (k880 u2 u4)), (20, (k879 u2 u4)), (28, (k878 u2 u4))] } [] (ae (ae (ae (ae (ae ⟨(fun hg => ⟨(a1 (gB_of hg)), trivial⟩), (ae (ae trivial))⟩))))) ?_
   refine aR ?_
   obtain rfl := oi h
   exact rq [(sB (k877 u2 u4))] (.refl _)
def m_kit_Pick_R  : Int → Exit → St → Prop :=
  fun r => RetQ TT [.tmp 4] (vI r) []
theorem m_kit_Pick_ok (x : Int) (n : Int) {r : Int} (h : m_kit_Pick x n = some r) : Fn Try.prog 14 [(sI x), (sI n)] [] (vI r) [] := by
 refine fN tT Try.func14 rfl rfl fun B => ?_
 show AWp _ _ _ _ _ _ (m_kit_Pick_R r) _
 unfold m_kit_Pick at h
 refine sz tT ⟨[(0, (vI x)), (1, (vI n))], []⟩ {} [] ?_
 refine aQ (sz tT ⟨[(0, (vI x)), (1, (vI n)), (7, (vB (decide (n < 1))))], []⟩ {} [] ?_)
 refine bI h (fun hb1 h => ?_) (fun hb1 h => ?_)
 ·refine ct hb1 ?_
  refine sz tT ⟨[(4, (vI 0))], []⟩ {} [] ?_
  refine aR ?_
  obtain rfl := oi h
  exact rq [(sI 0)] (.refl _)
 ·refine cf hb1 ?_
  refine aP (aQ (aO h fun a1 h => ?_))
  refine rg tT ⟨[(1, (vI n)), (5, (vI (Int.tmod x n)))], []⟩ [_] {} [] ⟨a1, trivial⟩ ?_
  refine aQ (sz tT ⟨[(1, (vI n)), (5, (vI (Int.tmod x n))), (12, (vB (decide ((Int.tmod x n) < 0))))], []⟩ {} [] ?_)
  refine bI h (fun hb h => ?_) (fun hb h => ?_)
  ·refine ct hb ?_
   refine rz tT ⟨[(5, (vI (IntKind.wrap .i64 ((Int.tmod x n) + n))))], []⟩ {} [] ?_
   refine sz tT ⟨[(4, (vI (IntKind.wrap .i64 ((Int.tmod x n) + n))))], []⟩ {} [] ?_
   refine aR ?_
   obtain rfl := oi h
   exact rq [(sI (IntKind.wrap .i64 ((Int.tmod x n) + n)))] (.refl _)
  ·refine cf hb ?_
   refine aP (sz tT ⟨[(4, (vI (Int.tmod x n)))], []⟩ {} [] ?_)
   refine aR ?_
   obtain rfl := oi h
   exact rq [(sI (Int.tmod x n))] (.refl _)
def m_kit_CopyTruths_v1_R  : (List Bool) → Exit → St → Prop :=
  fun r => RetQ TT [.tmp 2] (vO 0 false r.length) [(0, some (arD 4 1 boolC r))]
section
variable (l : (List Bool))
abbrev k883 : Nat × TV := (0, (vD (slD none 1 boolC l)))
end
theorem m_kit_CopyTruths_v1_ok (l : (List Bool)) {r : (List Bool)} (h : m_kit_CopyTruths l = some r) : Fn Try.prog 64 [(sD (slD none 1 boolC l))] [] (vO 0 false r.length) [(0, some (arD 4 1 boolC r))] := by
 refine fN tT Try.func64 rfl rfl fun B => ?_
 show AWp _ _ _ _ _ _ (m_kit_CopyTruths_v1_R r) _
 unfold m_kit_CopyTruths at h
 refine sz tT ⟨[(k883 l)], []⟩ {} [] ?_
 refine sz tT ⟨[(k883 l), (3, (vD nS))], []⟩ {} [] ?_
 refine aQ (aO h fun ⟨a1, a2⟩ h => ?_)
 refine rg tT ⟨[(2, (vO 1 false l.length))], [(1, some (arD 4 1 boolC l))]⟩ [_, _, l.length = l.length, ArrEq l.length 1 (elOf boolC l) (elOf boolC l)] { an := [(2, .arr l.length (elOf boolC l))], fr := [(2, 1)] } [] ⟨a1, a2, rfl, (arrEq_refl _ _ _), trivial⟩ ?_
 refine aI (Imp.fin (st' := ⟨[(2, (vO 0 false l.length))], [(0, some (arD 4 1 boolC l))]⟩) (cs := []) ⟨[], [(1, 0)]⟩ [2] (by kernel_rfl) trivial) ?_
 refine aR ?_
 obtain rfl := oi h
 exact rh [(.one (.own 0 false l.length))] (.refl _) ⟨rfl, .refl _, trivial⟩
def m_kit_SameTruths_R  : Bool → Exit → St → Prop :=
  fun r => RetQ TT [.tmp 4] (vB r) []
section
variable (b : (List Bool))
abbrev k884 : Nat × TV := (1, (vD (slD none 1 boolC b)))
end
def m_kit_SameTruths_S0 (a : (List Bool)) (b : (List Bool)) : Int → St :=
  fun i => ⟨[(k883 a), (k884 b), (5, (vI i))], []⟩
def m_kit_SameTruths_B0  : Unit → St :=
  fun _ => ⟨[], []⟩
def m_kit_SameTruths_Q0 (a : (List Bool)) (b : (List Bool)) : (Flow Int (Ex Unit Bool)) → Exit → St → Prop :=
  LQ 0 [] (m_kit_SameTruths_S0 a b) m_kit_SameTruths_B0 m_kit_SameTruths_R
theorem m_kit_SameTruths_ok (a : (List Bool)) (b : (List Bool)) {r : Bool} (h : m_kit_SameTruths a b = some r) : Fn Try.prog 42 [(sD (slD none 1 boolC a)), (sD (slD none 1 boolC b))] [] (vB r) [] := by
 refine fN tT Try.func42 rfl rfl fun B => ?_
 show AWp _ _ _ _ _ _ (m_kit_SameTruths_R r) _
 unfold m_kit_SameTruths at h
 refine sz tT ⟨[(k883 a), (k884 b)], []⟩ {} [] ?_
 refine aQ (sz tT ⟨[(k883 a), (k884 b), (10, (vB (!decide ((a.length : Int) = (b.length : Int)))))], []⟩ {} [] ?_)
 refine bI h (fun hb2 h => ?_) (fun hb2 h => ?_)
 ·refine ct hb2 ?_
  refine sz tT ⟨[(4, (vB false))], []⟩ {} [] ?_
  refine aR ?_
  obtain rfl := oi h
  exact rq [(sB false)] (.refl _)
 ·refine cf hb2 ?_
  refine aP (aQ (sz tT ⟨[(k883 a), (k884 b), (5, (vI 0))], []⟩ {} [] ?_))
  refine bE h fun y hy h => ?_
  refine aL [] (m_kit_SameTruths_S0 a b) m_kit_SameTruths_B0 m_kit_SameTruths_R hy (fun s f h => ?_) ?_
  ·clear hy
   show AWp _ _ _ _ _ _ ((m_kit_SameTruths_Q0 a b) f) _
   unfold m_kit_SameTruths_L0 at h
   obtain ⟨i, rfl⟩ : ∃ q, q = s := ⟨_, rfl⟩
   refine aQ (sz tT ⟨[(k883 a), (k884 b), (5, (vI i)), (14, (vB (decide (i < (a.length : Int)))))], []⟩ {} [] ?_)
   refine bI h (fun hb1 h => ?_) (fun hb1 h => ?_)
   ·refine ct hb1 ?_
    refine aP (aQ (aB (aQ (aO h fun ⟨a1, a2⟩ h => ?_))))
    refine dg tT mX ⟨[(k883 a), (k884 b), (5, (vI i)), (25, (vB (!((at' a i.toNat) == (at' b i.toNat)))))], []⟩ [_, _] {} [] ⟨a1, a2, trivial⟩ ?_
    refine bI h (fun hb h => ?_) (fun hb h => ?_)
    ·refine ct hb ?_
     refine sz tT ⟨[(4, (vB false))], []⟩ {} [] ?_
     refine aR ?_
     obtain rfl := oi h
     exact lR ret_nn (ret_ne 0) av_ret (RetQ.mk (.inr rfl) (p := []) (l := [(sB false)]) (by kernel_rfl) trivial (TLe.refl _) trivial)
    ·refine cf hb ?_
     refine aP (rz tT ⟨[(k883 a), (k884 b), (5, (k30 i))], []⟩ {} [] ?_)
     obtain rfl := oi h
     exact lN (by kernel_rfl)
   ·refine cf hb1 ?_
    refine aI (fz ⟨[], []⟩ []) ?_
    refine aX ?_
    obtain rfl := oi h
    exact lB (by kernel_rfl)
  ·clear hy
   cases y with
   | brk z =>
    unfold ExK
    refine ⟨_, .refl, ?_⟩
    refine sz tT ⟨[(4, (vB true))], []⟩ {} [] ?_
    refine aR ?_
    obtain rfl := oi h
    exact rq [(sB true)] (.refl _)
   | ret v =>
    obtain rfl := oi h
    unfold ExK
    intro e st hn ha hR
    cases e with
    | normal => exact absurd rfl hn
    | exit id => exact hR
    | goto l => exact hR
    | ret => exact hR
    | panic c => exact hR
    | outgrown => exact hR
def m_kit_SameState_R  : Bool → Exit → St → Prop :=
  fun r => RetQ TT [.tmp 4] (vB r) []
section
variable (r_ : Bool) (u0 : Bool) (u1 : Bool) (u2 : Bool) (u3 : Bool) (u4 : Bool) (u5 : Bool)
abbrev k886 := (bif (k14 r_ u0 u1 u2 u3) then u4 else false)
abbrev k885 := (bif (k886 r_ u0 u1 u2 u3 u4) then u5 else false)
abbrev k887 := (ybf [(5, r_), (12, (k17 r_ u0)), (19, (k16 r_ u0 u1)), (26, (k15 r_ u0 u1 u2)), (33, (k14 r_ u0 u1 u2 u3)), (40, (k886 r_ u0 u1 u2 u3 u4))])
end
theorem m_kit_SameState_ok (a : State) (b : State) {r : Bool} (h : m_kit_SameState a b = some r) : Fn Try.prog 20 [(.agg (k98 a)), (.agg (k98 b))] [] (vB r) [] := by
 refine fN tT Try.func20 rfl rfl fun B => ?_
 show AWp _ _ _ _ _ _ (m_kit_SameState_R r) _
 unfold m_kit_SameState at h
 refine sz tT ⟨[(2, (k73 a)), (k72 b)], []⟩ { fr := [(0, 2), (1, 3)] } [2, 3] ?_
 refine aQ (bE h fun r_ hr_ h => ?_)
 refine bE h fun u0 hr_1 h => ?_
 refine bE h fun u1 hr_2 h => ?_
 refine bE h fun u2 hr_3 h => ?_
 refine bE h fun u3 hr_4 h => ?_
 refine bE h fun u4 hr_5 h => ?_
 refine bE h fun u5 hr_6 h => ?_
 have q0 := m_kit_SameTruths_ok a.closed b.closed hr_
 refine rg tT ⟨[(4, (vB (k885 r_ u0 u1 u2 u3 u4 u5)))], []⟩ (_ :: (eqs r_ 5 ((gP (k887 r_ u0 u1 u2 u3 u4) [(5, true)] → All [Fn Try.prog 42 [(sD (k76 a)), (sD (k76 b))] [] (vB u0) []]) :: (r_ = r_) :: (eqs (k17 r_ u0) 5 ((gP (k887 r_ u0 u1 u2 u3 u4) [(12, true)] → All [Fn Try.prog 42 [(sD (k77 a)), (sD (k77 b))] [] (vB u1) []]) :: ((k17 r_ u0) = (k17 r_ u0)) :: (eqs (k16 r_ u0 u1) 5 ((gP (k887 r_ u0 u1 u2 u3 u4) [(19, true)] → All [Fn Try.prog 42 [(sD (k78 a)), (sD (k78 b))] [] (vB u2) []]) :: (k19 r_ u0 u1) :: (eqs (k15 r_ u0 u1 u2) 5 ((gP (k887 r_ u0 u1 u2 u3 u4) [(26, true)] → All [Fn Try.prog 42 [(sD (k79 a)), (sD (k79 b))] [] (vB u3) []]) :: ((k15 r_ u0 u1 u2) = (k15 r_ u0 u1 u2)) :: (eqs (k14 r_ u0 u1 u2 u3) 5 ((gP (k887 r_ u0 u1 u2 u3 u4) [(33, true)] → All [Fn Try.prog 42 [(sD (k80 a)), (sD (k80 b))] [] (vB u4) []]) :: ((k14 r_ u0 u1 u2 u3) = (k14 r_ u0 u1 u2 u3)) :: (eqs (k886 r_ u0 u1 u2 u3 u4) 5 [gP (k887 r_ u0 u1 u2 u3 u4) [(40, true)] → All [Fn Try.prog 42 [(sD (k81 a)), (sD (k81 b))] [] (vB u5) []], (k886 r_ u0 u1 u2 u3 u4) = (k886 r_ u0 u1 u2 u3 u4)])))))))))))) { yb := [(5, r_), (12, (k17 r_ u0)), (19, (k16 r_ u0 u1)), (26, (k15 r_ u0 u1 u2)), (33, (k14 r_ u0 u1 u2 u3)), (40, (k886 r_ u0 u1 u2 u3 u4))], an := [(4, cA q0 []), (10, .call [] (vB u0) []), (17, .call [] (vB u1) []), (24, .call [] (vB u2) []), (31, .call [] (vB u3) []), (38, .call [] (vB u4) []), (45, .call [] (vB u5) [])] } [] ⟨q0, (ae ⟨(fun hg => ⟨(m_kit_SameTruths_ok a.locked b.locked (gcall hr_1 (gB_of hg))), trivial⟩), rfl, (ae ⟨(fun hg => ⟨(m_kit_SameTruths_ok a.badLink b.badLink (gcall hr_2 (gB_of hg))), trivial⟩), rfl, (ae ⟨(fun hg => ⟨(m_kit_SameTruths_ok a.on_ b.on_ (gcall hr_3 (gB_of hg))), trivial⟩), rfl, (ae ⟨(fun hg => ⟨(m_kit_SameTruths_ok a.badSource b.badSource (gcall hr_4 (gB_of hg))), trivial⟩), rfl, (ae ⟨(fun hg => ⟨(m_kit_SameTruths_ok a.earthed b.earthed (gcall hr_5 (gB_of hg))), trivial⟩), rfl, (ae ⟨(fun hg => ⟨(m_kit_SameTruths_ok a.badBus b.badBus (gcall hr_6 (gB_of hg))), trivial⟩), rfl, trivial⟩)⟩)⟩)⟩)⟩)⟩)⟩ ?_
 refine aR ?_
 obtain rfl := oi h
 exact rq [(sB (k885 r_ u0 u1 u2 u3 u4 u5))] (.refl _)
def m_kit_CopyState_v1_R  : State → Exit → St → Prop :=
  fun r => RetQ TT [.cell 2 29] (.v (.agg [(.own 0 false r.closed.length), (.own 1 false r.locked.length), (.own 2 false r.badLink.length), (.own 3 false r.on_.length), (.own 4 false r.badSource.length), (.own 5 false r.earthed.length), (.own 6 false r.badBus.length)])) [(0, some (arD 4 1 boolC r.closed)), (1, some (arD 4 1 boolC r.locked)), (2, some (arD 4 1 boolC r.badLink)), (3, some (arD 4 1 boolC r.on_)), (4, some (arD 4 1 boolC r.badSource)), (5, some (arD 4 1 boolC r.earthed)), (6, some (arD 4 1 boolC r.badBus)), (7, none)]
theorem m_kit_CopyState_v1_ok (x : State) {r : State} (h : m_kit_CopyState x = some r) : Fn Try.prog 16 (k111 x) [] (.v (.agg [(.own 0 false r.closed.length), (.own 1 false r.locked.length), (.own 2 false r.badLink.length), (.own 3 false r.on_.length), (.own 4 false r.badSource.length), (.own 5 false r.earthed.length), (.own 6 false r.badBus.length)])) [(0, some (arD 4 1 boolC r.closed)), (1, some (arD 4 1 boolC r.locked)), (2, some (arD 4 1 boolC r.badLink)), (3, some (arD 4 1 boolC r.on_)), (4, some (arD 4 1 boolC r.badSource)), (5, some (arD 4 1 boolC r.earthed)), (6, some (arD 4 1 boolC r.badBus)), (7, none)] := by
 refine fN tT Try.func16 rfl rfl fun B => ?_
 show AWp _ _ _ _ _ _ (m_kit_CopyState_v1_R r) _
 unfold m_kit_CopyState at h
 refine sz tT (k112 x) { fr := [(0, 9), (1, 10)] } [9] ?_
 refine aQ (bE h fun r_ hr_ h => ?_)
 refine bE h fun u0 hr_1 h => ?_
 refine bE h fun u1 hr_2 h => ?_
 refine bE h fun u2 hr_3 h => ?_
 refine bE h fun u3 hr_4 h => ?_
 refine bE h fun u4 hr_5 h => ?_
 refine bE h fun u5 hr_6 h => ?_
 have q0 := rk [(0, 11)] (m_kit_CopyTruths_v1_ok x.closed hr_)
 have q1 := rk [(0, 12)] (m_kit_CopyTruths_v1_ok x.locked hr_1)
 have q2 := rk [(0, 13)] (m_kit_CopyTruths_v1_ok x.badLink hr_2)
 have q3 := rk [(0, 14)] (m_kit_CopyTruths_v1_ok x.on_ hr_3)
 have q4 := rk [(0, 15)] (m_kit_CopyTruths_v1_ok x.badSource hr_4)
 have q5 := rk [(0, 16)] (m_kit_CopyTruths_v1_ok x.earthed hr_5)
 have q6 := rk [(0, 17)] (m_kit_CopyTruths_v1_ok x.badBus hr_6)
 refine dg tT mX ⟨[(2, (vP 10 0))], [(10, some (.cells 29 [(.own 11 false r_.length), (.own 12 false u0.length), (.own 13 false u1.length), (.own 14 false u2.length), (.own 15 false u3.length), (.own 16 false u4.length), (.own 17 false u5.length)])), (11, some (arD 4 1 boolC r_)), (12, some (arD 4 1 boolC u0)), (k486 u1), (k489 u2), (k492 u3), (k495 u4), (17, some (arD 4 1 boolC u5))]⟩ [_, _, _, _, _, _, _] { an := [(2, cA q0 []), (5, cA q1 []), (8, cA q2 []), (11, cA q3 []), (14, cA q4 []), (17, cA q5 []), (20, cA q6 [])] } [] ⟨q0, q1, q2, q3, q4, q5, q6, trivial⟩ ?_
 refine aI (Imp.fin (st' := (k503 r_ u0 u1 u2 u3 u4 u5)) (cs := []) ⟨[], [(11, 0), (12, 1), (13, 2), (14, 3), (15, 4), (16, 5), (17, 6), (10, 7)]⟩ [2] (by kernel_rfl) trivial) ?_
 refine aR ?_
 obtain rfl := oi h
 exact rh (k505 r_ u0 u1 u2 u3 u4 u5) (.refl _) ⟨rfl, .refl _, ⟨rfl, .refl _, ⟨rfl, .refl _, ⟨rfl, .refl _, ⟨rfl, .refl _, ⟨rfl, .refl _, ⟨rfl, .refl _, ⟨rfl, trivial, trivial⟩⟩⟩⟩⟩⟩⟩⟩
section
variable (s_ : State)
abbrev k888 : Nat × Option Ob := (0, some (arD 4 1 boolC s_.closed))
abbrev k889 : Nat × Option Ob := (1, some (arD 4 1 boolC s_.locked))
abbrev k890 : Nat × Option Ob := (2, some (arD 4 1 boolC s_.badLink))
abbrev k891 : Nat × Option Ob := (3, some (arD 4 1 boolC s_.on_))
abbrev k892 : Nat × Option Ob := (4, some (arD 4 1 boolC s_.badSource))
abbrev k893 : Nat × Option Ob := (5, some (arD 4 1 boolC s_.earthed))
abbrev k894 : Nat × Option Ob := (6, some (arD 4 1 boolC s_.badBus))
end
def m_flow_ways_v3_R (s_ : State) : (List Way) → Exit → St → Prop :=
  fun r => RetQ TT [.tmp 6] (vO 7 true r.length) [(k888 s_), (k889 s_), (k890 s_), (k891 s_), (k892 s_), (k893 s_), (k894 s_), (7, some (arD 141 3 Way.cell r))]
section
variable (u0 : (List Way)) (p : Plant) (s_ : State) (u1 : Bool)
abbrev k896 : Nat × TV := (8, (vO 412 true u0.length))
abbrev k898 : Nat × Option Ob := (410, some (k93 p))
abbrev k901 : List CV := [(.own 0 false s_.closed.length), (.own 1 false s_.locked.length), (.own 2 false s_.badLink.length), (.own 3 false s_.on_.length), (.own 4 false s_.badSource.length), (.own 5 false s_.earthed.length), (.own 6 false s_.badBus.length)]
abbrev k900 : Ob := (.cells 29 (k901 s_))
abbrev k899 : Nat × Option Ob := (411, some (k900 s_))
abbrev k897 : List (Nat × Option Ob) := [(k888 s_), (k889 s_), (k890 s_), (k891 s_), (k892 s_), (k893 s_), (k894 s_), (k898 p), (k899 s_), (412, some (arD 141 3 Way.cell u0))]
abbrev k895 : St := ⟨[(3, (vP 410 0)), (4, (vP 411 0)), k148, (k896 u0), (9, (vB u1))], (k897 u0 p s_)⟩
end
def m_flow_ways_v3_S0 (p : Plant) (s_ : State) : ((List Way) × Bool) → St :=
  fun zz => match zz with | (u0, u1) => (k895 u0 p s_ u1)
section
variable (s_ : State) (u0 : (List Way))
abbrev k903 : List (Nat × Option Ob) := [(k888 s_), (k889 s_), (k890 s_), (k891 s_), (k892 s_), (k893 s_), (k894 s_), (412, some (arD 141 3 Way.cell u0))]
abbrev k902 : St := ⟨[(k896 u0)], (k903 s_ u0)⟩
end
def m_flow_ways_v3_B0 (s_ : State) : (List Way) → St :=
  fun u0 => (k902 s_ u0)
def m_flow_ways_v3_Q0 (p : Plant) (s_ : State) : (Flow ((List Way) × Bool) (Ex (List Way) (List Way))) → Exit → St → Prop :=
  LQ 0 [] (m_flow_ways_v3_S0 p s_) (m_flow_ways_v3_B0 s_) (m_flow_ways_v3_R s_)
section
variable (u0 : (List Way)) (u1 : Bool) (p : Plant) (u2 : Int) (s_ : State)
abbrev k904 : St := ⟨[(3, (vP 410 0)), (4, (vP 411 0)), k148, (k896 u0), (9, (vB u1)), (k153 p), (k154 p), (28, (vI u2))], (k897 u0 p s_)⟩
end
def m_flow_ways_v3_S1 (p : Plant) (s_ : State) : ((List Way) × Bool × Int) → St :=
  fun zz => match zz with | (u0, u1, u2) => (k904 u0 u1 p u2 s_)
def m_flow_ways_v3_B1 (p : Plant) (s_ : State) : ((List Way) × Bool) → St :=
  fun zz => match zz with | (u0, u1) => (k895 u0 p s_ u1)
def m_flow_ways_v3_Q1 (p : Plant) (s_ : State) : (Flow ((List Way) × Bool × Int) (Ex ((List Way) × Bool) (Flow ((List Way) × Bool) (Ex (List Way) (List Way))))) → Exit → St → Prop :=
  LQ 2 [1] (m_flow_ways_v3_S1 p s_) (m_flow_ways_v3_B1 p s_) (m_flow_ways_v3_Q0 p s_)
def m_flow_ways_v3_S2 (p : Plant) (s_ : State) (u0 : Int) : ((List Way) × Bool × Int) → St :=
  fun zz => match zz with | (u1, u2, u3) => ⟨[(3, (vP 410 0)), (4, (vP 411 0)), k148, (k896 u1), (9, (vB u2)), (10, (vI u0)), (k106 p u0), (k153 p), (k154 p), (28, (vI u0)), (k155 p u0), (49, (vI u3))], (k897 u1 p s_)⟩
def m_flow_ways_v3_B2 (p : Plant) (s_ : State) (u1 : Int) : ((List Way) × Bool) → St :=
  fun zz => match zz with | (u0, u2) => (k904 u0 u2 p u1 s_)
def m_flow_ways_v3_Q2 (p : Plant) (s_ : State) (u0 : Int) : (Flow ((List Way) × Bool × Int) (Ex ((List Way) × Bool) (Flow ((List Way) × Bool × Int) (Ex ((List Way) × Bool) (Flow ((List Way) × Bool) (Ex (List Way) (List Way))))))) → Exit → St → Prop :=
  LQ 4 [3] (m_flow_ways_v3_S2 p s_ u0) (m_flow_ways_v3_B2 p s_ u0) (m_flow_ways_v3_Q1 p s_)
section
variable (p : Plant) (s_ : State) (u3 : Int) (u5 : (List Way)) (u8 : Bool) (u0 : Int) (u2 : (List Way)) (u6 : Bool) (u1 : Int) (u4 : (List Int))
abbrev k905 : List SV := [(.agg (k1 p)), (.agg (k901 s_)), (sI u3)]
abbrev k906 : List (Nat × Option Ob) := [(k888 s_), (k889 s_), (k890 s_), (k891 s_), (k892 s_), (k893 s_), (k894 s_)]
abbrev k907 : List (Nat × Option Ob) := [(k888 s_), (k889 s_), (k890 s_), (k891 s_), (k892 s_), (k893 s_), (k894 s_), (k898 p), (k899 s_)]
abbrev k909 : Nat × TV := (8, (vO 412 true (k160 p)))
abbrev k908 : List (Nat × TV) := [(2, (vI u3)), (3, (vP 410 0)), (4, (vP 411 0)), k148, (k909 p)]
abbrev k910 : Nat × TV := (8, (vO 412 true (k167 p u3)))
abbrev k911 : List (Nat × Option Ob) := [(k888 s_), (k889 s_), (k890 s_), (k891 s_), (k892 s_), (k893 s_), (k894 s_), (k898 p), (k899 s_), (412, some (k169 p u3))]
abbrev k912 : St := ⟨[(3, (vP 410 0)), (4, (vP 411 0)), k148, (k896 u5), (9, (vB u8)), (k153 p), (k154 p), (28, (k30 u0))], (k897 u5 p s_)⟩
abbrev k913 : St := ⟨[(3, (vP 410 0)), (4, (vP 411 0)), k148, (k896 u2), (9, (vB u6)), (10, (vI u0)), (k106 p u0), (k153 p), (k154 p), (28, (vI u0)), (k155 p u0), (k186 u1)], (k897 u2 p s_)⟩
abbrev k914 : Nat × TV := (8, (vO 412 true (k201 p u0 u1 u2 u4)))
abbrev k915 : List (Nat × Option Ob) := [(k888 s_), (k889 s_), (k890 s_), (k891 s_), (k892 s_), (k893 s_), (k894 s_), (k898 p), (k899 s_), (412, some (k203 p u0 u1 u2 u4))]
end
theorem m_flow_ways_v3_ok (p : Plant) (s_ : State) (u3 : Int) {r : (List Way)} (h : m_flow_ways p s_ u3 = some r) : Fn Try.prog 66 (k905 p s_ u3) (k906 s_) (vO 7 true r.length) [(k888 s_), (k889 s_), (k890 s_), (k891 s_), (k892 s_), (k893 s_), (k894 s_), (7, some (arD 141 3 Way.cell r))] := by
 refine fN tT Try.func66 rfl rfl fun B => ?_
 show AWp _ _ _ _ _ _ ((m_flow_ways_v3_R s_) r) _
 unfold m_flow_ways at h
 refine sz tT ⟨[(2, (vI u3)), (3, (vP 410 0)), (4, (vP 411 0))], (k907 p s_)⟩ { fr := [(0, 410), (1, 411)] } [] ?_
 refine sz tT ⟨[(2, (vI u3)), (3, (vP 410 0)), (4, (vP 411 0)), k148], (k907 p s_)⟩ {} [] ?_
 refine aQ (aO h fun ⟨a1, a2, a3⟩ h => ?_)
 refine ri tT ⟨(k908 p u3), [(k888 s_), (k889 s_), (k890 s_), (k891 s_), (k892 s_), (k893 s_), (k894 s_), (k898 p), (k899 s_), (412, some (.arr 141 3 (k161 p).length (fun _ j => [(.bool false), (.int .i64 0), nS].getD j .nilp)))]⟩ [_, (p.buses : Int) = p.buses, _, _, (k161 p).length = p.buses.toNat, ArrEq p.buses.toNat 3 (fun _ j => [(.bool false), (.int .i64 0), nS].getD j .nilp) (fun _ j => [(.bool false), (.int .i64 0), nS].getD j .nilp)] { an := [(2, .arr (k161 p).length (fun _ j => [(.bool false), (.int .i64 0), nS].getD j .nilp))], fr := [(2, 412)] } [] ⟨a1, rfl, a2, a3, (List.length_replicate), (arrEq_refl _ _ _), trivial⟩ (Imp.le (st' := ⟨(k908 p u3), [(k888 s_), (k889 s_), (k890 s_), (k891 s_), (k892 s_), (k893 s_), (k894 s_), (k898 p), (k899 s_), (412, some (k162 p))]⟩) ⟨⟨tR, tR, tR, tR, tR, trivial⟩, ⟨rfl, .refl _, ⟨rfl, .refl _, ⟨rfl, .refl _, ⟨rfl, .refl _, ⟨rfl, .refl _, ⟨rfl, .refl _, ⟨rfl, .refl _, ⟨rfl, .refl _, ⟨rfl, .refl _, ⟨rfl, OLe_arr (repLe _ _ _ _ _ (fun j hj => match j, hj with | 0, _ => .refl _ | 1, _ => .refl _ | 2, _ => DLe.nil')), trivial⟩⟩⟩⟩⟩⟩⟩⟩⟩⟩⟩) ?_
 refine aQ (aO h fun a1 h => ?_)
 refine ri tT ⟨[(3, (vP 410 0)), (4, (vP 411 0)), k148, (k909 p)], [(k888 s_), (k889 s_), (k890 s_), (k891 s_), (k892 s_), (k893 s_), (k894 s_), (k898 p), (k899 s_), (412, some (.arr 141 3 (k161 p).length (k163 p u3)))]⟩ [_, _, ArrEq (k161 p).length 3 (k165 p u3) (k163 p u3)] { an := [(4, .arr 0 (k163 p u3))] } [] ⟨a1, (tL a1), (arrEq_set' _ _ _ _ _ _ _ _ rfl (fun j hj => (match j, hj with | 0, _ => rfl | 1, _ => rfl | 2, _ => rfl))), trivial⟩ (Imp.le (st' := ⟨[(3, (vP 410 0)), (4, (vP 411 0)), k148, (k910 p u3)], (k911 p s_ u3)⟩) ⟨⟨tR, tR, tR, ⟨_, rfl, TLe.v (SLe.one cW)⟩, trivial⟩, ⟨rfl, .refl _, ⟨rfl, .refl _, ⟨rfl, .refl _, ⟨rfl, .refl _, ⟨rfl, .refl _, ⟨rfl, .refl _, ⟨rfl, .refl _, ⟨rfl, .refl _, ⟨rfl, .refl _, ⟨rfl, oW, trivial⟩⟩⟩⟩⟩⟩⟩⟩⟩⟩⟩) ?_
 refine aQ (sz tT ⟨[(3, (vP 410 0)), (4, (vP 411 0)), k148, (k910 p u3), (9, (vB true))], (k911 p s_ u3)⟩ {} [] ?_)
 refine bE h fun y2 hy h => ?_
 refine aL [] (m_flow_ways_v3_S0 p s_) (m_flow_ways_v3_B0 s_) (m_flow_ways_v3_R s_) hy (fun s f h => ?_) ?_
 ·clear hy
  show AWp _ _ _ _ _ _ ((m_flow_ways_v3_Q0 p s_) f) _
  unfold m_flow_ways_L0 at h
  obtain ⟨u7, v1⟩ := s
  refine aQ (sz tT ⟨[(3, (vP 410 0)), (4, (vP 411 0)), k148, (k896 u7), (24, (vB v1))], (k897 u7 p s_)⟩ {} [] ?_)
  refine bI h (fun hb5 h => ?_) (fun hb5 h => ?_)
  ·refine ct hb5 ?_
   refine aP (aB (sz tT ⟨[(3, (vP 410 0)), (4, (vP 411 0)), k148, (k896 u7), (9, (vB false))], (k897 u7 p s_)⟩ {} [] ?_))
   refine sz tT ⟨[(3, (vP 410 0)), (4, (vP 411 0)), k148, (k896 u7), (9, (vB false)), (k153 p), (k154 p), (28, (vI 0))], (k897 u7 p s_)⟩ {} [] ?_
   refine bE h fun y1 hy h => ?_
   refine aL [1] (m_flow_ways_v3_S1 p s_) (m_flow_ways_v3_B1 p s_) (m_flow_ways_v3_Q0 p s_) hy (fun s f h => ?_) ?_
   ·clear hy
    show AWp _ _ _ _ _ _ ((m_flow_ways_v3_Q1 p s_) f) _
    unfold m_flow_ways_L1 at h
    obtain ⟨u5, u8, u0⟩ := s
    refine sz tT ⟨[(3, (vP 410 0)), (4, (vP 411 0)), k148, (k896 u5), (9, (vB u8)), (k153 p), (k154 p), (28, (vI u0)), (29, (k105 p u0))], (k897 u5 p s_)⟩ {} [] ?_
    refine aQ ?_
    refine bI h (fun hb4 h => ?_) (fun hb4 h => ?_)
    ·refine ct hb4 ?_
     refine aP (aQ (aB (aQ (aO h fun a1 h => ?_))))
     refine rg tT ⟨[(3, (vP 410 0)), (4, (vP 411 0)), k148, (k896 u5), (9, (vB u8)), (10, (vI u0)), (k106 p u0), (k153 p), (k154 p), (28, (vI u0))], (k897 u5 p s_)⟩ [_] { fr := [(3, 788)] } [788] ⟨a1, trivial⟩ ?_
     refine aQ (aQ (bE h fun r_ hr_ h => ?_))
     refine rg tT ⟨[(3, (vP 410 0)), (4, (vP 411 0)), k148, (k896 u5), (9, (vB u8)), (10, (vI u0)), (k106 p u0), (k153 p), (k154 p), (28, (vI u0)), (37, (vB (!r_)))], (k897 u5 p s_)⟩ [Fn Try.prog 78 (k905 p s_ u0) (k906 s_) (vB r_) (k906 s_)] { an := [(3, .callR [0, 1, 2, 3, 4, 5, 6] (vB r_))] } [] ⟨(Fn.lend (frz := [0, 1, 2, 3, 4, 5, 6]) (p := [s_.closed.length = s_.closed.length, s_.locked.length = s_.locked.length, s_.badLink.length = s_.badLink.length, s_.on_.length = s_.on_.length, s_.badSource.length = s_.badSource.length, s_.earthed.length = s_.earthed.length, s_.badBus.length = s_.badBus.length]) (m_flow_conducts_ok p s_ u0 hr_) (by kernel_rfl) ⟨rfl, rfl, rfl, rfl, rfl, rfl, rfl, trivial⟩ rfl), trivial⟩ ?_
     refine bI h (fun hb3 h => ?_) (fun hb3 h => ?_)
     ·refine ct hb3 ?_
      refine aX (rz tT (k912 p s_ u5 u8 u0) {} [] ?_)
      obtain rfl := oi h
      exact lN (by kernel_rfl)
     ·refine cf hb3 ?_
      refine aP (sz tT ⟨[(3, (vP 410 0)), (4, (vP 411 0)), k148, (k896 u5), (9, (vB u8)), (10, (vI u0)), (k106 p u0), (k153 p), (k154 p), (28, (vI u0)), (k155 p u0), (49, (vI 0))], (k897 u5 p s_)⟩ {} [] ?_)
      refine bE h fun y hy h => ?_
      refine aL [3] (m_flow_ways_v3_S2 p s_ u0) (m_flow_ways_v3_B2 p s_ u0) (m_flow_ways_v3_Q1 p s_) hy (fun s f h => ?_) ?_
      ·clear hy
       show AWp _ _ _ _ _ _ ((m_flow_ways_v3_Q2 p s_ u0) f) _
       unfold m_flow_ways_L2 at h
       obtain ⟨u2, u6, u1⟩ := s
       refine sz tT ⟨[(3, (vP 410 0)), (4, (vP 411 0)), k148, (k896 u2), (9, (vB u6)), (10, (vI u0)), (k106 p u0), (k153 p), (k154 p), (28, (vI u0)), (k155 p u0), (49, (vI u1)), (50, (vB (decide (u1 < 2))))], (k897 u2 p s_)⟩ {} [] ?_
       refine aQ ?_
       refine bI h (fun hb2 h => ?_) (fun hb2 h => ?_)
       ·refine ct hb2 ?_
        refine aP (aQ (aB (aQ (aO h fun a1 h => ?_))))
        refine rg tT ⟨[(3, (vP 410 0)), (4, (vP 411 0)), k148, (k896 u2), (9, (vB u6)), (10, (vI u0)), (k106 p u0), (13, (vP 807 0)), (k153 p), (k154 p), (28, (vI u0)), (k155 p u0), (49, (vI u1))], [(k888 s_), (k889 s_), (k890 s_), (k891 s_), (k892 s_), (k893 s_), (k894 s_), (k898 p), (k899 s_), (412, some (arD 141 3 Way.cell u2)), (807, some (k171 p u0 u1))]⟩ [_, u1.toNat * 2 + 2 ≤ (k156 p u0).length, ((k156 p u0).drop (u1.toNat * 2)).take 2 = (k177 p u0 u1).map .d] { an := [(0, .vals (k177 p u0 u1))], fr := [(1, 807)] } [] ⟨a1, (idxL (n := 2) (sz := 2) (Nat.le_refl _) a1), (idxV (n := 2) (sz := 2) (g := fun q => [(cI ((at' [(k174 p u0), (k175 p u0)] q).e0)), (cI ((at' [(k174 p u0), (k175 p u0)] q).e1))]) (by intro q hq; match q, hq with | 0, _ => rfl | 1, _ => rfl) a1), trivial⟩ ?_
        refine aQ (aO h fun a1 h => ?_)
        refine dg tT mX ⟨[(3, (vP 410 0)), (4, (vP 411 0)), k148, (k896 u2), (9, (vB u6)), (10, (vI u0)), (k106 p u0), (k178 p u0 u1 u2), (k183 p u0 u1), (k153 p), (k154 p), (28, (vI u0)), (k155 p u0), (49, (vI u1))], (k897 u2 p s_)⟩ [(0 : Int) ≤ 0 ∧ (0 : Int) < (2 : Nat), _, _, (0 : Int) ≤ 1 ∧ (1 : Int) < (2 : Nat)] { fr := [(7, 808)] } [808] ⟨((by decide)), a1, (tL a1), ((by decide)), trivial⟩ ?_
        refine aQ (sz tT ⟨[(3, (vP 410 0)), (4, (vP 411 0)), k148, (k896 u2), (9, (vB u6)), (10, (vI u0)), (k106 p u0), (k178 p u0 u1 u2), (k183 p u0 u1), (k153 p), (k154 p), (28, (vI u0)), (k155 p u0), (49, (vI u1)), (k184 p u0 u1 u2)], (k897 u2 p s_)⟩ {} [] ?_)
        refine bI h (fun hb1 h => ?_) (fun hb1 h => ?_)
        ·refine ct hb1 ?_
         refine aX (rz tT (k913 p s_ u0 u2 u6 u1) {} [] ?_)
         obtain rfl := oi h
         exact lN (by kernel_rfl)
        ·refine cf hb1 ?_
         refine aP (aQ (bE h fun u4 hr_1 h => ?_))
         refine aO h fun ⟨a1, a2⟩ h => ?_
         have q0 := rk [(0, 809)] (m_slices_Clone112_v1_a_ok (k182 p u0 u1 u2) hr_1)
         refine di tT mX ⟨[(3, (vP 410 0)), (4, (vP 411 0)), k148, (k896 u2), (9, (vB u6)), (10, (vI u0)), (k106 p u0), (k183 p u0 u1), (16, (vP 812 0)), (k153 p), (k154 p), (28, (vI u0)), (k155 p u0), (49, (vI u1))], [(k888 s_), (k889 s_), (k890 s_), (k891 s_), (k892 s_), (k893 s_), (k894 s_), (k898 p), (k899 s_), (412, some (arD 141 3 Way.cell u2)), (812, some (k187 p u0 u1 u2 u4))]⟩ [_, [u0].length = 1, ArrEq 1 1 (k189 u0) (elOf (intC .i64) [u0]), u4.length = u4.length, _, _, (u4 ++ [u0]).length = u4.length + [u0].length, ArrEq (u4.length + [u0].length) 1 (k190 u0 u4) (k191 u0 u4), (u4 ++ [u0]).length = (u4 ++ [u0]).length] { an := [(7, cA q0 []), (9, .arr [u0].length (elOf (intC .i64) [u0])), (10, .arr (u4 ++ [u0]).length (k191 u0 u4))], fr := [(9, 810), (10, 811), (12, 812)] } [811] ⟨q0, (rfl), ((by intro i hi j hj; match i, j, hi, hj with | 0, 0, _, _ => rfl)), rfl, a1, a2, (List.length_append), (arrEq_app _ _ _ _), rfl, trivial⟩ (fz ⟨[(3, (vP 410 0)), (4, (vP 411 0)), k148, (k896 u2), (9, (vB u6)), (10, (vI u0)), (k106 p u0), (k183 p u0 u1), (k192 p u0 u1 u2 u4), (k153 p), (k154 p), (28, (vI u0)), (k155 p u0), (49, (vI u1))], (k897 u2 p s_)⟩ [812]) ?_
         refine aQ (bE h fun v2 hr_2 h => ?_)
         refine aO h fun a1 h => ?_
         have q2 := m_flow_ways_1_ok (k194 p u0 u1 u2 u4) (k195 p u0 u1 u2) hr_2
         refine dg tT mX ⟨[(3, (vP 410 0)), (4, (vP 411 0)), k148, (k896 u2), (9, (vB u6)), (10, (vI u0)), (k106 p u0), (k183 p u0 u1), (k192 p u0 u1 u2 u4), (k153 p), (k154 p), (28, (vI u0)), (k155 p u0), (49, (vI u1)), (80, (vB v2))], (k897 u2 p s_)⟩ [_, _, _] { an := [(6, cA q2 [])] } [] ⟨a1, (tL a1), q2, trivial⟩ ?_
         refine bI h (fun hb h => ?_) (fun hb h => ?_)
         ·refine ct hb ?_
          refine aQ (aO h fun a1 h => ?_)
          refine ri tT ⟨[(3, (vP 410 0)), (4, (vP 411 0)), k148, (k896 u2), (10, (vI u0)), (k106 p u0), (k153 p), (k154 p), (28, (vI u0)), (k155 p u0), (49, (vI u1))], [(k888 s_), (k889 s_), (k890 s_), (k891 s_), (k892 s_), (k893 s_), (k894 s_), (k898 p), (k899 s_), (412, some (.arr 141 3 u2.length (k197 p u0 u1 u2 u4)))]⟩ [_, _, ArrEq u2.length 3 (k199 p u0 u1 u2 u4) (k197 p u0 u1 u2 u4)] { an := [(4, .arr 0 (k197 p u0 u1 u2 u4))] } [] ⟨a1, (tL a1), (arrEq_set' _ _ _ _ _ _ _ _ rfl (fun j hj => (match j, hj with | 0, _ => rfl | 1, _ => rfl | 2, _ => rfl))), trivial⟩ (Imp.le (st' := ⟨[(3, (vP 410 0)), (4, (vP 411 0)), k148, (k914 p u0 u2 u1 u4), (10, (vI u0)), (k106 p u0), (k153 p), (k154 p), (28, (vI u0)), (k155 p u0), (49, (vI u1))], (k915 p s_ u0 u2 u1 u4)⟩) ⟨⟨tR, tR, tR, ⟨_, rfl, TLe.v (SLe.one cW)⟩, tR, tR, tR, tR, tR, tR, tR, trivial⟩, ⟨rfl, .refl _, ⟨rfl, .refl _, ⟨rfl, .refl _, ⟨rfl, .refl _, ⟨rfl, .refl _, ⟨rfl, .refl _, ⟨rfl, .refl _, ⟨rfl, .refl _, ⟨rfl, .refl _, ⟨rfl, oW, trivial⟩⟩⟩⟩⟩⟩⟩⟩⟩⟩⟩) ?_
          refine rz tT ⟨[(3, (vP 410 0)), (4, (vP 411 0)), k148, (k914 p u0 u2 u1 u4), (9, (vB true)), (10, (vI u0)), (k106 p u0), (k153 p), (k154 p), (28, (vI u0)), (k155 p u0), (49, (vI u1))], (k915 p s_ u0 u2 u1 u4)⟩ {} [] ?_
          refine rz tT ⟨[(3, (vP 410 0)), (4, (vP 411 0)), k148, (k914 p u0 u2 u1 u4), (9, (vB true)), (10, (vI u0)), (k106 p u0), (k153 p), (k154 p), (28, (vI u0)), (k155 p u0), (k186 u1)], (k915 p s_ u0 u2 u1 u4)⟩ {} [] ?_
          obtain rfl := oi h
          exact lN (by kernel_rfl)
         ·refine cf hb ?_
          refine aP (rz tT (k913 p s_ u0 u2 u6 u1) {} [] ?_)
          obtain rfl := oi h
          exact lN (by kernel_rfl)
       ·refine cf hb2 ?_
        refine aI (fz (k904 u2 u6 p u0 s_) []) ?_
        refine aX ?_
        obtain rfl := oi h
        exact lB (by kernel_rfl)
      ·clear hy
       cases y with
       | brk z =>
        obtain ⟨v0, v3⟩ := z
        unfold ExK
        refine ⟨_, .refl, ?_⟩
        refine rz tT (k912 p s_ v0 v3 u0) {} [] ?_
        obtain rfl := oi h
        exact lN (by kernel_rfl)
       | ret v =>
        obtain rfl := oi h
        unfold ExK
        intro e st hn ha hR
        cases e with
        | normal => exact absurd rfl hn
        | exit id => simp only [av_beq (b := 3) ha rfl, cond_false]; exact hR
        | goto l => exact hR
        | ret => exact hR
        | panic c => exact hR
        | outgrown => exact hR
    ·refine cf hb4 ?_
     refine aI (fz (k895 u5 p s_ u8) []) ?_
     refine aX ?_
     obtain rfl := oi h
     exact lB (by kernel_rfl)
   ·clear hy
    cases y1 with
    | brk z =>
     obtain ⟨v4, v5⟩ := z
     unfold ExK
     refine ⟨_, .refl, ?_⟩
     obtain rfl := oi h
     exact lN (by kernel_rfl)
    | ret v =>
     obtain rfl := oi h
     unfold ExK
     intro e st hn ha hR
     cases e with
     | normal => exact absurd rfl hn
     | exit id => simp only [av_beq (b := 1) ha rfl, cond_false]; exact hR
     | goto l => exact hR
     | ret => exact hR
     | panic c => exact hR
     | outgrown => exact hR
  ·refine cf hb5 ?_
   refine aI (fz (k902 s_ u7) []) ?_
   refine aX ?_
   obtain rfl := oi h
   exact lB (by kernel_rfl)
 ·clear hy
  cases y2 with
  | brk z =>
   obtain ⟨u9, rfl⟩ : ∃ q, q = z := ⟨_, rfl⟩
   unfold ExK
   refine ⟨_, .refl, ?_⟩
   refine sz tT ⟨[(6, (vO 412 true u9.length))], (k903 s_ u9)⟩ {} [] ?_
   refine aI (Imp.fin (st' := ⟨[(6, (vO 7 true u9.length))], [(k888 s_), (k889 s_), (k890 s_), (k891 s_), (k892 s_), (k893 s_), (k894 s_), (7, some (arD 141 3 Way.cell u9))]⟩) (cs := []) ⟨[], [(0, 0), (1, 1), (2, 2), (3, 3), (4, 4), (5, 5), (6, 6), (412, 7)]⟩ [6] (by kernel_rfl) trivial) ?_
   refine aR ?_
   obtain rfl := oi h
   exact rh [(.one (.own 7 true u9.length))] (.refl _) ⟨rfl, .refl _, ⟨rfl, .refl _, ⟨rfl, .refl _, ⟨rfl, .refl _, ⟨rfl, .refl _, ⟨rfl, .refl _, ⟨rfl, .refl _, ⟨rfl, .refl _, trivial⟩⟩⟩⟩⟩⟩⟩⟩
  | ret v =>
   obtain rfl := oi h
   unfold ExK
   intro e st hn ha hR
   cases e with
   | normal => exact absurd rfl hn
   | exit id => exact hR
   | goto l => exact hR
   | ret => exact hR
   | panic c => exact hR
   | outgrown => exact hR
def m_flow_Shorts_v2_R (s_ : State) : ((List Short) × Int) → Exit → St → Prop :=
  fun r => RetQ TT [.tmp 6, .tmp 7] (.tup [(sD (slD none 4 Short.cell r.1)), (sI r.2)]) (k906 s_)
section
variable (u0 : (List Short)) (s_ : State)
abbrev k916 : Nat × TV := (9, (vO 35 false u0.length))
abbrev k918 : Nat × Option Ob := (30, some (k900 s_))
abbrev k917 : List (Nat × Option Ob) := [(k888 s_), (k889 s_), (k890 s_), (k891 s_), (k892 s_), (k893 s_), (k894 s_), (k918 s_), (35, some (arD 47 4 Short.cell u0))]
end
def m_flow_Shorts_v2_S0 (p : Plant) (s_ : State) (u1 : Int) : ((List Short) × Int) → St :=
  fun zz => match zz with | (u0, u2) => ⟨[(2, (vI u1)), (k120 p), (4, (vP 30 0)), (k916 u0), (k205 p), (k206 p), (31, (vI u2))], (k917 u0 s_)⟩
section
variable (u0 : (List Short)) (s_ : State)
abbrev k919 : St := ⟨[(k916 u0)], [(k888 s_), (k889 s_), (k890 s_), (k891 s_), (k892 s_), (k893 s_), (k894 s_), (35, some (arD 47 4 Short.cell u0))]⟩
end
def m_flow_Shorts_v2_B0 (s_ : State) : (List Short) → St :=
  fun u0 => (k919 u0 s_)
def m_flow_Shorts_v2_Q0 (p : Plant) (s_ : State) (u0 : Int) : (Flow ((List Short) × Int) (Ex (List Short) ((List Short) × Int))) → Exit → St → Prop :=
  LQ 0 [] (m_flow_Shorts_v2_S0 p s_ u0) (m_flow_Shorts_v2_B0 s_) (m_flow_Shorts_v2_R s_)
section
variable (s_ : State) (p : Plant) (u0 : Int) (u3 : (List Short)) (u1 : Int) (u2 : (List Way))
abbrev k920 : List (Nat × Option Ob) := [(k888 s_), (k889 s_), (k890 s_), (k891 s_), (k892 s_), (k893 s_), (k894 s_), (29, some (k93 p)), (k918 s_)]
abbrev k921 : St := ⟨[(2, (vI u0)), (k120 p), (4, (vP 30 0)), (k916 u3), (k205 p), (k206 p), (k220 u1)], (k917 u3 s_)⟩
abbrev k922 : Nat × TV := (9, (vO 50 false (k225 p u0 u1 u3 u2)))
abbrev k923 : List (Nat × Option Ob) := [(k888 s_), (k889 s_), (k890 s_), (k891 s_), (k892 s_), (k893 s_), (k894 s_), (k918 s_), (50, some (k230 p u0 u1 u3 u2))]
end
theorem m_flow_Shorts_v2_ok (p : Plant) (s_ : State) (u0 : Int) {r : ((List Short) × Int)} (h : m_flow_Shorts p s_ u0 = some r) : Fn Try.prog 17 (k905 p s_ u0) (k906 s_) (.tup [(sD (slD none 4 Short.cell r.1)), (sI r.2)]) (k906 s_) := by
 refine fN tT Try.func17 rfl rfl fun B => ?_
 show AWp _ _ _ _ _ _ ((m_flow_Shorts_v2_R s_) r) _
 unfold m_flow_Shorts at h
 refine sz tT ⟨[(2, (vI u0)), (3, (vP 29 0)), (4, (vP 30 0))], (k920 s_ p)⟩ { fr := [(0, 29), (1, 30)] } [] ?_
 refine aQ (aQ (bE h fun r_ hr_ h => ?_))
 refine rg tT ⟨[(2, (vI u0)), (3, (vP 29 0)), (4, (vP 30 0)), (8, (vI r_))], (k920 s_ p)⟩ [Fn Try.prog 12 [(.agg (k1 p)), (.agg (k901 s_))] (k906 s_) (vI r_) (k906 s_)] { an := [(2, .callR [0, 1, 2, 3, 4, 5, 6] (vI r_))] } [] ⟨(Fn.lend (frz := [0, 1, 2, 3, 4, 5, 6]) (p := [s_.closed.length = s_.closed.length, s_.locked.length = s_.locked.length, s_.badLink.length = s_.badLink.length, s_.on_.length = s_.on_.length, s_.badSource.length = s_.badSource.length, s_.earthed.length = s_.earthed.length, s_.badBus.length = s_.badBus.length]) (m_plant_CheckState_ok p s_ hr_) (by kernel_rfl) ⟨rfl, rfl, rfl, rfl, rfl, rfl, rfl, trivial⟩ rfl), trivial⟩ ?_
 refine sz tT ⟨[(2, (vI u0)), (3, (vP 29 0)), (4, (vP 30 0)), (8, (vI r_)), (18, (vB (!decide (r_ = 0))))], (k920 s_ p)⟩ {} [] ?_
 refine bI h (fun hb4 h => ?_) (fun hb4 h => ?_)
 ·refine ct hb4 ?_
  refine sz tT ⟨[(6, (vD nS)), (7, (vI r_))], (k906 s_)⟩ {} [] ?_
  refine aI (Imp.le (st' := ⟨(k209 r_), (k906 s_)⟩) ⟨⟨⟨_, rfl, TLe.v (SLe.one (CLe.d DLe.nil'))⟩, tR, trivial⟩, ⟨rfl, .refl _, ⟨rfl, .refl _, ⟨rfl, .refl _, ⟨rfl, .refl _, ⟨rfl, .refl _, ⟨rfl, .refl _, ⟨rfl, .refl _, trivial⟩⟩⟩⟩⟩⟩⟩⟩) ?_
  refine aR ?_
  obtain rfl := oi h
  exact rh (k210 r_) (.refl _) ⟨rfl, .refl _, ⟨rfl, .refl _, ⟨rfl, .refl _, ⟨rfl, .refl _, ⟨rfl, .refl _, ⟨rfl, .refl _, ⟨rfl, .refl _, trivial⟩⟩⟩⟩⟩⟩⟩
 ·refine cf hb4 ?_
  refine aP (aQ (sg tT ⟨[(2, (vI u0)), (3, (vP 29 0)), (4, (vP 30 0)), (k211 p u0)], (k920 s_ p)⟩ (k212 u0) { yb := [(2, (decide (u0 < 0)))] } [] (ae trivial) ?_))
  refine bI h (fun hb3 h => ?_) (fun hb3 h => ?_)
  ·refine ct hb3 ?_
   refine sz tT ⟨[(6, (vD nS)), (7, (vI 1))], (k906 s_)⟩ {} [] ?_
   refine aI (Imp.le (st' := ⟨k213, (k906 s_)⟩) ⟨⟨⟨_, rfl, TLe.v (SLe.one (CLe.d DLe.nil'))⟩, tR, trivial⟩, ⟨rfl, .refl _, ⟨rfl, .refl _, ⟨rfl, .refl _, ⟨rfl, .refl _, ⟨rfl, .refl _, ⟨rfl, .refl _, ⟨rfl, .refl _, trivial⟩⟩⟩⟩⟩⟩⟩⟩) ?_
   refine aR ?_
   obtain rfl := oi h
   exact rh k214 (.refl _) ⟨rfl, .refl _, ⟨rfl, .refl _, ⟨rfl, .refl _, ⟨rfl, .refl _, ⟨rfl, .refl _, ⟨rfl, .refl _, ⟨rfl, .refl _, trivial⟩⟩⟩⟩⟩⟩⟩
  ·refine cf hb3 ?_
   refine aP (sz tT ⟨[(2, (vI u0)), (3, (vP 29 0)), (4, (vP 30 0)), (9, (vD nS))], (k920 s_ p)⟩ {} [] ?_)
   refine aQ (sz tT ⟨[(2, (vI u0)), (k120 p), (4, (vP 30 0)), (9, (vD nS)), (k205 p), (k206 p), (31, (vI 0))], [(k888 s_), (k889 s_), (k890 s_), (k891 s_), (k892 s_), (k893 s_), (k894 s_), (k918 s_)]⟩ {} [29] ?_)
   refine bE h fun y hy h => ?_
   refine aI (.trans (Imp.adopt (t := 9) (b := 51) (esz0 := 0) (el0 := fun _ _ => .nilp) (E := 47) (esz := 4) (el := elOf Short.cell ([] : List Short)) (by kernel_rfl) (by kernel_rfl)) (.trans (Imp.fin (st' := ⟨[(2, (vI u0)), (k120 p), (4, (vP 30 0)), (9, (vO 35 false 0)), (k205 p), (k206 p), (31, (vI 0))], [(k888 s_), (k889 s_), (k890 s_), (k891 s_), (k892 s_), (k893 s_), (k894 s_), (k918 s_), (35, some (.arr 47 4 0 (elOf Short.cell ([] : List Short))))]⟩) (cs := []) ⟨[], [(0, 0), (1, 1), (2, 2), (3, 3), (4, 4), (5, 5), (6, 6), (30, 30), (51, 35)]⟩ [2, 3, 4, 9, 29, 30, 31] (by kernel_rfl) trivial) (Imp.le (st' := ⟨[(2, (vI u0)), (k120 p), (4, (vP 30 0)), (9, (vO 35 false (([] : List Short).length))), (k205 p), (k206 p), (31, (vI 0))], [(k888 s_), (k889 s_), (k890 s_), (k891 s_), (k892 s_), (k893 s_), (k894 s_), (k918 s_), (35, some (arD 47 4 Short.cell ([] : List Short)))]⟩) ⟨⟨tR, tR, tR, ⟨_, rfl, TLe.v (SLe.one cW)⟩, tR, tR, tR, trivial⟩, ⟨rfl, .refl _, ⟨rfl, .refl _, ⟨rfl, .refl _, ⟨rfl, .refl _, ⟨rfl, .refl _, ⟨rfl, .refl _, ⟨rfl, .refl _, ⟨rfl, .refl _, ⟨rfl, oW, trivial⟩⟩⟩⟩⟩⟩⟩⟩⟩⟩))) ?_
   refine aL [] (m_flow_Shorts_v2_S0 p s_ u0) (m_flow_Shorts_v2_B0 s_) (m_flow_Shorts_v2_R s_) hy (fun s f h => ?_) ?_
   ·clear hy
    show AWp _ _ _ _ _ _ ((m_flow_Shorts_v2_Q0 p s_ u0) f) _
    unfold m_flow_Shorts_L0 at h
    obtain ⟨u3, u1⟩ := s
    refine sz tT ⟨[(2, (vI u0)), (k120 p), (4, (vP 30 0)), (k916 u3), (k205 p), (k206 p), (31, (vI u1)), (32, (vB (decide (u1 < (p.sources.length : Int)))))], (k917 u3 s_)⟩ {} [] ?_
    refine aQ ?_
    refine bI h (fun hb2 h => ?_) (fun hb2 h => ?_)
    ·refine ct hb2 ?_
     refine aP (aQ (aB (aQ (aO h fun a1 h => ?_))))
     refine rg tT ⟨[(2, (vI u0)), (k120 p), (4, (vP 30 0)), (k916 u3), (10, (vI u1)), (k215 p u1), (k205 p), (k206 p), (31, (vI u1))], (k917 u3 s_)⟩ [_] { fr := [(3, 46)] } [46] ⟨a1, trivial⟩ ?_
     refine aQ (aQ (bE h fun u5 hr_1 h => ?_))
     refine aO h fun a1 h => ?_
     refine rg tT ⟨[(2, (vI u0)), (k120 p), (4, (vP 30 0)), (k916 u3), (10, (vI u1)), (k215 p u1), (k205 p), (k206 p), (31, (vI u1)), (k217 u0 s_ u5)], (k917 u3 s_)⟩ (_ :: _ :: (eqs (k218 u0 s_) 4 ((gP (ybf [(5, (k218 u0 s_))]) [(5, false)] → All [Fn Try.prog 65 (k905 p s_ u1) (k906 s_) (vB u5) (k906 s_)]) :: (eqs (k218 u0 s_) 2 [])))) { yb := [(5, (k218 u0 s_))], an := [(9, .callR [0, 1, 2, 3, 4, 5, 6] (vB u5))] } [] ⟨a1, (tL a1), (ae ⟨(fun hg => ⟨(Fn.lend (frz := [0, 1, 2, 3, 4, 5, 6]) (p := [s_.closed.length = s_.closed.length, s_.locked.length = s_.locked.length, s_.badLink.length = s_.badLink.length, s_.on_.length = s_.on_.length, s_.badSource.length = s_.badSource.length, s_.earthed.length = s_.earthed.length, s_.badBus.length = s_.badBus.length]) (m_flow_feeds_ok p s_ u1 (gcall hr_1 (gB_of hg))) (by kernel_rfl) ⟨rfl, rfl, rfl, rfl, rfl, rfl, rfl, trivial⟩ rfl), trivial⟩), (ae trivial)⟩)⟩ ?_
     refine bI h (fun hb1 h => ?_) (fun hb1 h => ?_)
     ·refine ct hb1 ?_
      refine aX (rz tT (k921 s_ p u0 u3 u1) {} [] ?_)
      obtain rfl := oi h
      exact lN (by kernel_rfl)
     ·refine cf hb1 ?_
      refine aP (aQ (bE h fun u2 hr_2 h => ?_))
      refine aO h fun a1 h => ?_
      have q0 := rk [(7, 47)] (m_flow_ways_v3_ok p s_ (k125 p u1) hr_2)
      refine rg tT ⟨[(2, (vI u0)), (k120 p), (4, (vP 30 0)), (k916 u3), (10, (vI u1)), (k215 p u1), (k221 u0 u2), (k205 p), (k206 p), (31, (vI u1))], (k917 u3 s_)⟩ [_, _, _] { an := [(4, cA q0 [0, 1, 2, 3, 4, 5, 6])], fr := [(8, 48)] } [48] ⟨q0, a1, (tL a1), trivial⟩ ?_
      refine sz tT ⟨[(2, (vI u0)), (k120 p), (4, (vP 30 0)), (k916 u3), (10, (vI u1)), (k215 p u1), (k221 u0 u2), (k205 p), (k206 p), (31, (vI u1)), (57, (vB ((at' u2 u0.toNat).there)))], (k917 u3 s_)⟩ {} [] ?_
      refine bI h (fun hb h => ?_) (fun hb h => ?_)
      ·refine ct hb ?_
       refine sz tT ⟨[(2, (vI u0)), (k120 p), (4, (vP 30 0)), (k916 u3), (10, (vI u1)), (k221 u0 u2), (k222 p u0 u1 u2), (k205 p), (k206 p), (31, (vI u1))], (k917 u3 s_)⟩ {} [] ?_
       refine aO h fun ⟨a1, a2, a3⟩ h => ?_
       refine dg tT mX ⟨[(2, (vI u0)), (k120 p), (4, (vP 30 0)), (k922 p u0 u3 u1 u2), (k205 p), (k206 p), (31, (vI u1))], (k923 s_ p u0 u3 u1 u2)⟩ [_, [(k227 p u0 u1 u2)].length = 1, ArrEq 1 4 (k231 p u0 u1 u2) (k232 p u0 u1 u2), u3.length = u3.length, _, _, (k226 p u0 u1 u3 u2).length = u3.length + [(k227 p u0 u1 u2)].length, ArrEq (k233 p u0 u1 u3 u2) 4 (k234 p u0 u1 u3 u2) (k235 p u0 u1 u3 u2)] { an := [(11, .arr [(k227 p u0 u1 u2)].length (k232 p u0 u1 u2)), (12, .arr (k226 p u0 u1 u3 u2).length (k235 p u0 u1 u3 u2))], fr := [(11, 49), (12, 50)] } [] ⟨a1, (rfl), ((by intro i hi j hj; match i, j, hi, hj with | 0, 0, _, _ => rfl | 0, 1, _, _ => rfl | 0, 2, _, _ => rfl | 0, 3, _, _ => rfl)), rfl, a2, a3, (List.length_append), (arrEq_app _ _ _ _), trivial⟩ ?_
       refine ri tT ⟨[(2, (vI u0)), (k120 p), (4, (vP 30 0)), (k922 p u0 u3 u1 u2), (k205 p), (k206 p), (k220 u1)], (k923 s_ p u0 u3 u1 u2)⟩ [] {} [] trivial (Imp.fin (st' := ⟨[(2, (vI u0)), (k120 p), (4, (vP 30 0)), (9, (vO 35 false (k225 p u0 u1 u3 u2))), (k205 p), (k206 p), (k220 u1)], [(k888 s_), (k889 s_), (k890 s_), (k891 s_), (k892 s_), (k893 s_), (k894 s_), (k918 s_), (35, some (k230 p u0 u1 u3 u2))]⟩) (cs := []) ⟨[], [(0, 0), (1, 1), (2, 2), (3, 3), (4, 4), (5, 5), (6, 6), (30, 30), (50, 35)]⟩ [2, 3, 4, 9, 29, 30, 31] (by kernel_rfl) trivial) ?_
       obtain rfl := oi h
       exact lN (by kernel_rfl)
      ·refine cf hb ?_
       refine aP (rz tT (k921 s_ p u0 u3 u1) {} [] ?_)
       obtain rfl := oi h
       exact lN (by kernel_rfl)
    ·refine cf hb2 ?_
     refine aI (fz (k919 u3 s_) []) ?_
     refine aX ?_
     obtain rfl := oi h
     exact lB (by kernel_rfl)
   ·clear hy
    cases y with
    | brk z =>
     obtain ⟨u4, rfl⟩ : ∃ q, q = z := ⟨_, rfl⟩
     unfold ExK
     refine ⟨_, .refl, ?_⟩
     refine sg tT ⟨(k236 u4), (k906 s_)⟩ [u4.length = u4.length] {} [35] ⟨rfl, trivial⟩ ?_
     refine aR ?_
     obtain rfl := oi h
     exact rh [(sD (slD none 4 Short.cell u4)), (sI 0)] (.refl _) ⟨rfl, .refl _, ⟨rfl, .refl _, ⟨rfl, .refl _, ⟨rfl, .refl _, ⟨rfl, .refl _, ⟨rfl, .refl _, ⟨rfl, .refl _, trivial⟩⟩⟩⟩⟩⟩⟩
    | ret v =>
     obtain rfl := oi h
     unfold ExK
     intro e st hn ha hR
     cases e with
     | normal => exact absurd rfl hn
     | exit id => exact hR
     | goto l => exact hR
     | ret => exact hR
     | panic c => exact hR
     | outgrown => exact hR
def m_law03_GuardHolds_R  : Bool → Exit → St → Prop :=
  fun r => RetQ TT [.tmp 6] (vB r) []
section
variable (u3 : (List Int)) (u5 : Bool) (u6 : (List Int)) (u1 : (Clearing × Int)) (c3 : Int) (u2 : (List Bool)) (u0 : State)
abbrev k924 : Nat × TV := (11, (vO 35 true u3.length))
abbrev k925 : Nat × TV := (12, (vD (slD (some u5) 1 (intC .i64) u6)))
abbrev k927 : Nat × Option Ob := (23, some (arD 56 2 Event.cell u1.1.events))
abbrev k928 : Nat × Option Ob := (25, some (.cells 36 [(.own 23 false u1.1.events.length), (cB u1.1.cleared), (cI u1.1.millis), (cI c3), (.d (k471 u1)), (.d (k472 u1)), (.d (k473 u1)), (.d (k474 u1)), (.d (k475 u1)), (.d (k476 u1)), (.d (k477 u1))]))
abbrev k929 : Nat × Option Ob := (26, some (arD 4 1 boolC u2))
abbrev k930 : Nat × Option Ob := (34, some (.cells 29 [(.own 26 false u2.length), (.own 27 false u0.locked.length), (.own 28 false u0.badLink.length), (.own 29 false u0.on_.length), (.own 30 false u0.badSource.length), (.own 31 false u0.earthed.length), (.own 32 false u0.badBus.length)]))
abbrev k931 : Nat × Option Ob := (35, some (k238 u3))
abbrev k926 : List (Nat × Option Ob) := [(k927 u1), (k928 u1 c3), (k929 u2), (k675 u0), (k676 u0), (k677 u0), (k678 u0), (k679 u0), (k680 u0), (k930 u2 u0), (k931 u3)]
end
def m_law03_GuardHolds_S0 (p : Plant) (u4 : Int) (u1 : (Clearing × Int)) (u0 : State) : (Int × (List Bool) × (List Int) × Bool × (List Int) × Int × Int × Int) → St :=
  fun zz => match zz with | (c3, u2, u3, u5, u6, u7, u8, i2) => ⟨[(k120 p), (7, (vI u4)), (8, (vP 25 0)), (10, (vP 34 0)), (k924 u3), (k925 u5 u6), (13, (vI u7)), (14, (vI u8)), (15, (vI i2))], (k926 u3 u1 c3 u2 u0)⟩
def m_law03_GuardHolds_B0  : Unit → St :=
  fun _ => ⟨[], []⟩
def m_law03_GuardHolds_Q0 (p : Plant) (u0 : Int) (u1 : (Clearing × Int)) (u2 : State) : (Flow (Int × (List Bool) × (List Int) × Bool × (List Int) × Int × Int × Int) (Ex Unit Bool)) → Exit → St → Prop :=
  LQ 0 [] (m_law03_GuardHolds_S0 p u0 u1 u2) m_law03_GuardHolds_B0 m_law03_GuardHolds_R
section
variable (v0 : ((List Short) × Int)) (u4 : ((List Int) × Bool × Int))
abbrev k932 : Nat × TV := (16, (vD (slD none 4 Short.cell v0.1)))
abbrev k933 : Nat × TV := (18, (k273 u4))
end
def m_law03_GuardHolds_S1 (p : Plant) (u5 : Int) (u1 : (Clearing × Int)) (u0 : State) (c3 : Int) (u2 : (List Bool)) (u3 : (List Int)) (u6 : Bool) (u7 : (List Int)) (u8 : Int) (u9 : Int) (i2 : Int) (v0 : ((List Short) × Int)) (u4 : ((List Int) × Bool × Int)) : (Int × Int) → St :=
  fun zz => match zz with | (v1, k) => ⟨[(k120 p), (7, (vI u5)), (8, (vP 25 0)), (10, (vP 34 0)), (k924 u3), (k925 u6 u7), (13, (vI u8)), (14, (vI u9)), (15, (vI i2)), (k932 v0), (k933 u4), (20, (vI v1)), (21, (vI k))], (k926 u3 u1 c3 u2 u0)⟩
section
variable (p : Plant) (u5 : Int) (u3 : (List Int)) (u6 : Bool) (u7 : (List Int)) (u8 : Int) (u9 : Int) (i2 : Int) (u4 : ((List Int) × Bool × Int)) (v0 : Int) (u1 : (Clearing × Int)) (c3 : Int) (u2 : (List Bool)) (u0 : State)
abbrev k934 : St := ⟨[(k120 p), (7, (vI u5)), (8, (vP 25 0)), (10, (vP 34 0)), (k924 u3), (k925 u6 u7), (13, (vI u8)), (14, (vI u9)), (15, (vI i2)), (k933 u4), (20, (vI v0))], (k926 u3 u1 c3 u2 u0)⟩
end
def m_law03_GuardHolds_B1 (p : Plant) (u5 : Int) (u1 : (Clearing × Int)) (u0 : State) (c3 : Int) (u2 : (List Bool)) (u3 : (List Int)) (u6 : Bool) (u7 : (List Int)) (u8 : Int) (u9 : Int) (i2 : Int) (u4 : ((List Int) × Bool × Int)) : Int → St :=
  fun v0 => (k934 p u5 u3 u6 u7 u8 u9 i2 u4 v0 u1 c3 u2 u0)
section
variable (p : Plant) (u0 : Int) (u1 : (Clearing × Int)) (u2 : State)
abbrev k935 := (m_law03_GuardHolds_Q0 p u0 u1 u2)
end
def m_law03_GuardHolds_Q1 (p : Plant) (u0 : Int) (u1 : (Clearing × Int)) (u2 : State) (c3 : Int) (u3 : (List Bool)) (u4 : (List Int)) (u5 : Bool) (u6 : (List Int)) (u7 : Int) (u8 : Int) (i2 : Int) (v0 : ((List Short) × Int)) (u9 : ((List Int) × Bool × Int)) : (Flow (Int × Int) (Ex Int (Flow (Int × (List Bool) × (List Int) × Bool × (List Int) × Int × Int × Int) (Ex Unit Bool)))) → Exit → St → Prop :=
  LQ 2 [1] (m_law03_GuardHolds_S1 p u0 u1 u2 c3 u3 u4 u5 u6 u7 u8 i2 v0 u9) (m_law03_GuardHolds_B1 p u0 u1 u2 c3 u3 u4 u5 u6 u7 u8 i2 u9) (k935 p u0 u1 u2)
section
variable (p : Plant) (u5 : Int) (u4 : (List Int)) (u6 : Bool) (u7 : (List Int)) (u8 : Int) (u9 : Int) (i2 : Int) (u3 : ((List Int) × Bool × Int)) (v0 : Int) (k1 : Int)
abbrev k936 : List (Nat × TV) := [(k120 p), (7, (vI u5)), (8, (vP 25 0)), (10, (vP 34 0)), (k924 u4), (k925 u6 u7), (13, (vI u8)), (14, (vI u9)), (15, (vI i2)), (k933 u3), (20, (vI v0)), (22, (vI k1))]
end
def m_law03_GuardHolds_S2 (p : Plant) (u5 : Int) (u1 : (Clearing × Int)) (u0 : State) (c3 : Int) (u2 : (List Bool)) (u6 : Bool) (u7 : (List Int)) (u8 : Int) (u9 : Int) (i2 : Int) (u3 : ((List Int) × Bool × Int)) (v0 : Int) : ((List Int) × Int) → St :=
  fun zz => match zz with | (u4, k1) => ⟨(k936 p u5 u4 u6 u7 u8 u9 i2 u3 v0 k1), (k926 u4 u1 c3 u2 u0)⟩
section
variable (p : Plant) (u5 : Int) (u4 : (List Int)) (u6 : Int) (u7 : Int) (i2 : Int) (u3 : ((List Int) × Bool × Int)) (u8 : Int) (u1 : (Clearing × Int)) (c3 : Int) (u2 : (List Bool)) (u0 : State)
abbrev k937 : St := ⟨[(k120 p), (7, (vI u5)), (8, (vP 25 0)), (10, (vP 34 0)), (k924 u4), (13, (vI u6)), (14, (vI u7)), (15, (vI i2)), (k933 u3), (20, (vI u8))], (k926 u4 u1 c3 u2 u0)⟩
end
def m_law03_GuardHolds_B2 (p : Plant) (u5 : Int) (u1 : (Clearing × Int)) (u0 : State) (c3 : Int) (u2 : (List Bool)) (u6 : Int) (u7 : Int) (i2 : Int) (u3 : ((List Int) × Bool × Int)) (u8 : Int) : (List Int) → St :=
  fun u4 => (k937 p u5 u4 u6 u7 i2 u3 u8 u1 c3 u2 u0)
def m_law03_GuardHolds_Q2 (p : Plant) (u0 : Int) (u1 : (Clearing × Int)) (u2 : State) (c3 : Int) (u3 : (List Bool)) (u8 : Bool) (u9 : (List Int)) (u4 : Int) (u5 : Int) (i2 : Int) (u6 : ((List Int) × Bool × Int)) (u7 : Int) : (Flow ((List Int) × Int) (Ex (List Int) (Flow (Int × (List Bool) × (List Int) × Bool × (List Int) × Int × Int × Int) (Ex Unit Bool)))) → Exit → St → Prop :=
  LQ 4 [1] (m_law03_GuardHolds_S2 p u0 u1 u2 c3 u3 u8 u9 u4 u5 i2 u6 u7) (m_law03_GuardHolds_B2 p u0 u1 u2 c3 u3 u4 u5 i2 u6 u7) (k935 p u0 u1 u2)
section
variable (u0 : (Clearing × Int)) (c3 : Int) (u3 : (List Bool)) (u1 : State)
abbrev k938 : Nat × TV := (8, (vD (ipT [(k470 u0), (.bool u0.1.cleared), (.int .i64 u0.1.millis), (.int .i64 c3), (k471 u0), (k472 u0), (k473 u0), (k474 u0), (k475 u0), (k476 u0), (k477 u0)] 0)))
abbrev k939 : Nat × TV := (10, (vD (ipT [(slD none 1 boolC u3), (k76 u1), (k77 u1), (k78 u1), (k79 u1), (k80 u1), (k81 u1)] 0)))
end
def m_law03_GuardHolds_S3 (p : Plant) (u0 : (Clearing × Int)) (u1 : State) (c3 : Int) (u3 : (List Bool)) (u4 : Int) (u5 : Int) (u2 : ((List Int) × Bool × Int)) (u6 : Int) : (Bool × Int) → St :=
  fun zz => match zz with | (u7, k2) => ⟨[(k120 p), (k938 u0 c3), (k939 u3 u1), (13, (vI u4)), (14, (vI u5)), (k933 u2), (20, (vI u6)), (23, (vB u7)), (24, (vI k2))], []⟩
section
variable (u0 : (Clearing × Int)) (c3 : Int) (u2 : (List Bool)) (u1 : State) (u3 : Int) (u4 : Int) (u5 : Int) (u6 : Bool)
abbrev k940 : St := ⟨[(k938 u0 c3), (k939 u2 u1), (13, (vI u3)), (14, (vI u4)), (20, (vI u5)), (23, (vB u6))], []⟩
end
def m_law03_GuardHolds_B3 (u0 : (Clearing × Int)) (u1 : State) (c3 : Int) (u2 : (List Bool)) (u3 : Int) (u4 : Int) (u5 : Int) : Bool → St :=
  fun u6 => (k940 u0 c3 u2 u1 u3 u4 u5 u6)
def m_law03_GuardHolds_Q3 (p : Plant) (u6 : Int) (u0 : (Clearing × Int)) (u1 : State) (c3 : Int) (u2 : (List Bool)) (u3 : Int) (u4 : Int) (u7 : ((List Int) × Bool × Int)) (u5 : Int) : (Flow (Bool × Int) (Ex Bool (Flow (Int × (List Bool) × (List Int) × Bool × (List Int) × Int × Int × Int) (Ex Unit Bool)))) → Exit → St → Prop :=
  LQ 6 [1] (m_law03_GuardHolds_S3 p u0 u1 c3 u2 u3 u4 u7 u5) (m_law03_GuardHolds_B3 u0 u1 c3 u2 u3 u4 u5) (k935 p u6 u0 u1)
section
variable (u2 : ((List Int) × Bool × Int)) (u0 : (Clearing × Int)) (i2 : Int) (u9 : Int) (u4 : Int) (u8 : Int) (u6 : (List Bool)) (p : Plant) (u7 : Int) (u5 : (List Int)) (i3 : Int) (c3 : Int) (u3 : (List Bool)) (u1 : State)
abbrev k943 : Nat × TV := (12, (k273 u2))
abbrev k946 := (at' u0.1.events i2.toNat)
abbrev k945 := ((k946 u0 i2).millis)
abbrev k944 : Nat × TV := (14, (vI (IntKind.wrap .i64 (u9 + (IntKind.wrap .i64 ((IntKind.wrap .i64 (Int.tdiv (IntKind.wrap .i64 ((IntKind.wrap .i64 (u4 * u4)) + 999)) 1000)) * (IntKind.wrap .i64 ((k945 u0 i2) - u8))))))))
abbrev k947 : Nat × TV := (27, (vI (k945 u0 i2)))
abbrev k948 : Nat × TV := (28, (vO 41 true u6.length))
abbrev k942 : List (Nat × TV) := [(k120 p), (7, (vI u7)), (8, (vP 25 0)), (10, (vP 34 0)), (k924 u5), (k943 u2), (k944 u0 i2 u9 u4 u8), (15, (vI i3)), (k933 u2), (k947 u0 i2), (k948 u6)]
abbrev k949 : List (Nat × Option Ob) := [(k927 u0), (k928 u0 c3), (k929 u3), (k675 u1), (k676 u1), (k677 u1), (k678 u1), (k679 u1), (k680 u1), (k930 u3 u1), (k931 u5), (41, some (arD 4 1 boolC u6))]
abbrev k941 : St := ⟨(k942 u2 u0 i2 u9 u4 u8 u6 p u7 u5 i3), (k949 u0 u6 u5 c3 u3 u1)⟩
end
def m_law03_GuardHolds_S4 (p : Plant) (u7 : Int) (u0 : (Clearing × Int)) (u1 : State) (c3 : Int) (u3 : (List Bool)) (u8 : Int) (u9 : Int) (i2 : Int) (u2 : ((List Int) × Bool × Int)) (u4 : Int) (u5 : (List Int)) : (Int × (List Bool)) → St :=
  fun zz => match zz with | (i3, u6) => (k941 u2 u0 i2 u9 u4 u8 u6 p u7 u5 i3 c3 u3 u1)
def m_law03_GuardHolds_B4 (p : Plant) (u7 : Int) (u0 : (Clearing × Int)) (u1 : State) (c3 : Int) (u3 : (List Bool)) (u8 : Int) (u9 : Int) (i2 : Int) (u2 : ((List Int) × Bool × Int)) (u4 : Int) (u5 : (List Int)) : (Int × (List Bool)) → St :=
  fun zz => match zz with | (i4, u6) => (k941 u2 u0 i2 u9 u4 u8 u6 p u7 u5 i4 c3 u3 u1)
def m_law03_GuardHolds_Q4 (p : Plant) (u0 : Int) (u1 : (Clearing × Int)) (u2 : State) (c3 : Int) (u3 : (List Bool)) (u4 : Int) (u5 : Int) (i2 : Int) (u6 : ((List Int) × Bool × Int)) (u7 : Int) (u8 : (List Int)) : (Flow (Int × (List Bool)) (Ex (Int × (List Bool)) (Flow (Int × (List Bool) × (List Int) × Bool × (List Int) × Int × Int × Int) (Ex Unit Bool)))) → Exit → St → Prop :=
  LQ 8 [1] (m_law03_GuardHolds_S4 p u0 u1 u2 c3 u3 u4 u5 i2 u6 u7 u8) (m_law03_GuardHolds_B4 p u0 u1 u2 c3 u3 u4 u5 i2 u6 u7 u8) (k935 p u0 u1 u2)
section
variable (u9 : (List Bool))
abbrev k950 : Nat × TV := (28, (vD (slD (some true) 1 boolC u9)))
end
def m_law03_GuardHolds_S5 (p : Plant) (u6 : Int) (u0 : (Clearing × Int)) (u1 : State) (c3 : Int) (u3 : (List Bool)) (u7 : Int) (u8 : Int) (i2 : Int) (u2 : ((List Int) × Bool × Int)) (u4 : Int) (u5 : (List Int)) (i4 : Int) (u9 : (List Bool)) : Int → St :=
  fun k3 => ⟨[(k120 p), (7, (vI u6)), (8, (vP 25 0)), (10, (vP 34 0)), (k924 u5), (k943 u2), (k944 u0 i2 u8 u4 u7), (15, (vI i4)), (k933 u2), (k947 u0 i2), (k950 u9), (32, (vI k3))], (k926 u5 u0 c3 u3 u1)⟩
section
variable (p : Plant) (u6 : Int) (u5 : (List Int)) (u3 : ((List Int) × Bool × Int)) (u8 : Int) (u4 : Int) (u0 : (Clearing × Int)) (i2 : Int) (u7 : Int) (i4 : Int) (u9 : (List Bool)) (c3 : Int) (u2 : (List Bool)) (u1 : State)
abbrev k951 : St := ⟨[(k120 p), (7, (vI u6)), (8, (vP 25 0)), (10, (vP 34 0)), (k924 u5), (k943 u3), (k944 u0 i2 u8 u4 u7), (15, (vI i4)), (k947 u0 i2), (k950 u9)], (k926 u5 u0 c3 u2 u1)⟩
end
def m_law03_GuardHolds_B5 (p : Plant) (u6 : Int) (u0 : (Clearing × Int)) (u1 : State) (c3 : Int) (u2 : (List Bool)) (u7 : Int) (u8 : Int) (i2 : Int) (u3 : ((List Int) × Bool × Int)) (u4 : Int) (u5 : (List Int)) (i4 : Int) (u9 : (List Bool)) : Unit → St :=
  fun _ => (k951 p u6 u5 u3 u8 u4 u0 i2 u7 i4 u9 c3 u2 u1)
def m_law03_GuardHolds_Q5 (p : Plant) (u0 : Int) (u1 : (Clearing × Int)) (u2 : State) (c3 : Int) (u3 : (List Bool)) (u4 : Int) (u5 : Int) (i2 : Int) (u6 : ((List Int) × Bool × Int)) (u7 : Int) (u8 : (List Int)) (i4 : Int) (u9 : (List Bool)) : (Flow Int (Ex Unit (Flow (Int × (List Bool) × (List Int) × Bool × (List Int) × Int × Int × Int) (Ex Unit Bool)))) → Exit → St → Prop :=
  LQ 10 [1] (m_law03_GuardHolds_S5 p u0 u1 u2 c3 u3 u4 u5 i2 u6 u7 u8 i4 u9) (m_law03_GuardHolds_B5 p u0 u1 u2 c3 u3 u4 u5 i2 u6 u7 u8 i4 u9) (k935 p u0 u1 u2)
section
variable (p : Plant) (u6 : Int) (u4 : (List Int)) (u2 : ((List Int) × Bool × Int)) (u8 : Int) (u3 : Int) (u0 : (Clearing × Int)) (i2 : Int) (u7 : Int) (i4 : Int) (u9 : (List Bool)) (k4 : Int)
abbrev k952 : List (Nat × TV) := [(k120 p), (7, (vI u6)), (8, (vP 25 0)), (10, (vP 34 0)), (k924 u4), (k943 u2), (k944 u0 i2 u8 u3 u7), (15, (vI i4)), (k947 u0 i2), (k950 u9), (35, (vI k4))]
end
def m_law03_GuardHolds_S6 (p : Plant) (u6 : Int) (u0 : (Clearing × Int)) (u1 : State) (c3 : Int) (u7 : Int) (u8 : Int) (i2 : Int) (u2 : ((List Int) × Bool × Int)) (u3 : Int) (u4 : (List Int)) (i4 : Int) (u9 : (List Bool)) : ((List Bool) × Int) → St :=
  fun zz => match zz with | (u5, k4) => ⟨(k952 p u6 u4 u2 u8 u3 u0 i2 u7 i4 u9 k4), (k926 u4 u0 c3 u5 u1)⟩
section
variable (p : Plant) (u6 : Int) (u4 : (List Int)) (u2 : ((List Int) × Bool × Int)) (u8 : Int) (u3 : Int) (u0 : (Clearing × Int)) (i2 : Int) (u7 : Int) (i4 : Int) (c3 : Int) (u5 : (List Bool)) (u1 : State)
abbrev k953 : St := ⟨[(k120 p), (7, (vI u6)), (8, (vP 25 0)), (10, (vP 34 0)), (k924 u4), (k943 u2), (k944 u0 i2 u8 u3 u7), (15, (vI i4)), (k947 u0 i2)], (k926 u4 u0 c3 u5 u1)⟩
end
def m_law03_GuardHolds_B6 (p : Plant) (u6 : Int) (u0 : (Clearing × Int)) (u1 : State) (c3 : Int) (u7 : Int) (u8 : Int) (i2 : Int) (u2 : ((List Int) × Bool × Int)) (u3 : Int) (u4 : (List Int)) (i4 : Int) : (List Bool) → St :=
  fun u5 => (k953 p u6 u4 u2 u8 u3 u0 i2 u7 i4 c3 u5 u1)
def m_law03_GuardHolds_Q6 (p : Plant) (u0 : Int) (u1 : (Clearing × Int)) (u2 : State) (c3 : Int) (u3 : Int) (u4 : Int) (i2 : Int) (u5 : ((List Int) × Bool × Int)) (u6 : Int) (u7 : (List Int)) (i4 : Int) (u8 : (List Bool)) : (Flow ((List Bool) × Int) (Ex (List Bool) (Flow (Int × (List Bool) × (List Int) × Bool × (List Int) × Int × Int × Int) (Ex Unit Bool)))) → Exit → St → Prop :=
  LQ 12 [1] (m_law03_GuardHolds_S6 p u0 u1 u2 c3 u3 u4 i2 u5 u6 u7 i4 u8) (m_law03_GuardHolds_B6 p u0 u1 u2 c3 u3 u4 i2 u5 u6 u7 i4) (k935 p u0 u1 u2)
section
variable (p : Plant) (u0 : (Clearing × Int)) (u1 : State) (v9 : ((List Short) × Int)) (u3 : ((List Int) × Bool × Int)) (c3 : Int) (u2 : (List Bool)) (w0 : (List Int)) (k1 : Int) (u5 : Int) (v2 : (Int × Bool)) (k2 : Int) (v6 : Bool) (u4 : Int) (v4 : Bool) (u7 : Int) (w1 : Bool) (w5 : Bool) (i2 : Int) (i3 : Int) (u6 : (List Bool)) (u9 : (List Int)) (v0 : (Int × Bool)) (k3 : Int) (v1 : (List Bool)) (v5 : (List Bool)) (k4 : Int)
abbrev k956 := (decide (60 < (p.sources.length : Int)))
abbrev k955 := (bif (k956 p) then true else (decide (60 < (p.links.length : Int))))
abbrev k954 := (bif (k955 p) then true else (decide (60 < (p.racks.length : Int))))
abbrev k958 : Nat × Option Ob := (25, some (.cells 36 [(.own 23 false u0.1.events.length), (cB u0.1.cleared), (cI u0.1.millis), (cI u0.1.energy), (.d (k471 u0)), (.d (k472 u0)), (.d (k473 u0)), (.d (k474 u0)), (.d (k475 u0)), (.d (k476 u0)), (.d (k477 u0))]))
abbrev k957 : List (Nat × Option Ob) := [(k927 u0), (k958 u0)]
abbrev k959 : Nat × Option Ob := (34, some (k673 u1))
abbrev k960 : Nat × TV := (11, (vO 35 true (k258 p)))
abbrev k961 : List (Nat × Option Ob) := [(k927 u0), (k958 u0), (k674 u1), (k675 u1), (k676 u1), (k677 u1), (k678 u1), (k679 u1), (k680 u1), (k959 u1), (35, some (k255 p))]
abbrev k962 := (bif (!decide (v9.2 = 0)) then true else (!decide (u3.2.2 = 0)))
abbrev k963 : List (Nat × Option Ob) := [(k927 u0), (k928 u0 c3), (k929 u2), (k675 u1), (k676 u1), (k677 u1), (k678 u1), (k679 u1), (k680 u1), (k930 u2 u1), (35, some (arD 3 1 (intC .i64) (w0.set k1.toNat u5)))]
abbrev k964 : List CV := [(.d (slD none 1 boolC u2)), (.d (k76 u1)), (.d (k77 u1)), (.d (k78 u1)), (.d (k79 u1)), (.d (k80 u1)), (.d (k81 u1))]
abbrev k968 := (bif v2.2 then (decide (((at' p.links k2.toNat).kind) = 3)) else false)
abbrev k967 := (bif (k968 p v2 k2) then (at' u2 k2.toNat) else false)
abbrev k966 := (bif (k967 p u2 v2 k2) then (!(at' u1.badLink k2.toNat)) else false)
abbrev k965 : Nat × TV := (23, (vB (bif v6 then true else (k966 p u1 u2 v2 k2))))
abbrev k969 := (ybf [(1, v6), (3, v2.2), (12, (k968 p v2 k2)), (19, (k967 p u2 v2 k2))])
abbrev k970 := ((k968 p v2 k2) = (k968 p v2 k2))
abbrev k976 := (u0.1.cleared == (decide (u4 = 0)))
abbrev k975 := (bif (k976 u0 u4) then (bif u0.1.cleared then true else (!v4)) else false)
abbrev k974 := (bif (k975 u0 u4 v4) then (decide (u0.1.millis = u5)) else false)
abbrev k973 := (bif (k974 u0 u5 u4 v4) then (decide (c3 = u7)) else false)
abbrev k972 := (bif (k973 u0 c3 u5 u4 v4 u7) then w1 else false)
abbrev k971 := (bif (k972 u0 c3 u5 u4 v4 u7 w1) then w5 else false)
abbrev k977 := (ybf [(5, (k976 u0 u4)), (8, u0.1.cleared), (13, (k975 u0 u4 v4)), (19, (k974 u0 u5 u4 v4)), (25, (k973 u0 c3 u5 u4 v4 u7)), (31, (k972 u0 c3 u5 u4 v4 u7 w1))])
abbrev k978 := (bif (decide (u4 = 0)) then true else (decide ((k945 u0 i2) < u5)))
abbrev k979 := (List.replicate (k257 p) (false : Bool))
abbrev k980 := (decide (i3 < (u0.1.events.length : Int)))
abbrev k982 := ((k946 u0 i3).link)
abbrev k981 : Nat × TV := (29, (vI (k982 u0 i3)))
abbrev k988 := (decide ((k982 u0 i3) < 0))
abbrev k987 := (bif (k988 u0 i3) then true else (decide ((p.links.length : Int) ≤ (k982 u0 i3))))
abbrev k989 := ((k982 u0 i3).toNat)
abbrev k986 := (bif (k987 p u0 i3) then true else (at' u6 (k989 u0 i3)))
abbrev k985 := (bif (k986 p u0 i3 u6) then true else (!decide (((at' p.links (k989 u0 i3)).kind) = 3)))
abbrev k984 := (bif (k985 p u0 i3 u6) then true else (!(at' u2 (k989 u0 i3))))
abbrev k983 := (bif (k984 p u0 u2 i3 u6) then true else (at' u1.badLink (k989 u0 i3)))
abbrev k990 := (bif (decide (0 < i3)) then (decide (((at' u0.1.events ((k13 i3).toNat)).millis) = (k945 u0 i2))) else false)
abbrev k991 := (ybf [(2, (k988 u0 i3)), (9, (k987 p u0 i3)), (15, (k986 p u0 i3 u6)), (24, (k985 p u0 i3 u6)), (32, (k984 p u0 u2 i3 u6)), (39, (k983 p u0 u1 u2 i3 u6)), (42, (decide (0 < i3))), (53, (k990 u0 i2 i3))])
abbrev k992 := ((k987 p u0 i3) = (k987 p u0 i3))
abbrev k993 := ((k984 p u0 u2 i3 u6) = (k984 p u0 u2 i3 u6))
abbrev k994 := ((k983 p u0 u1 u2 i3 u6) = (k983 p u0 u1 u2 i3 u6))
abbrev k995 := (elOf boolC (u6.set (k989 u0 i3) true))
abbrev k996 : List (Nat × Option Ob) := [(k927 u0), (k928 u0 c3), (k929 u2), (k675 u1), (k676 u1), (k677 u1), (k678 u1), (k679 u1), (k680 u1), (k930 u2 u1), (k931 u9), (41, some (arD 4 1 boolC (u6.set (k989 u0 i3) true)))]
abbrev k997 := (bif (k966 p u1 u2 v0 k3) then (!(at' v1 k3.toNat)) else false)
abbrev k998 := (ybf [(1, v0.2), (10, (k968 p v0 k3)), (17, (k967 p u2 v0 k3)), (25, (k966 p u1 u2 v0 k3)), (32, (k997 p u1 u2 v0 k3 v1))])
abbrev k1000 := (v5.set k4.toNat (k713 v5 k4 v1))
abbrev k999 := (elOf boolC (k1000 v1 v5 k4))
abbrev k1001 : List (Nat × Option Ob) := [(k927 u0), (k928 u0 c3), (26, some (arD 4 1 boolC (k1000 v1 v5 k4))), (k675 u1), (k676 u1), (k677 u1), (k678 u1), (k679 u1), (k680 u1), (34, some (.cells 29 [(.own 26 false ((k1000 v1 v5 k4).length)), (.own 27 false u1.locked.length), (.own 28 false u1.badLink.length), (.own 29 false u1.on_.length), (.own 30 false u1.badSource.length), (.own 31 false u1.earthed.length), (.own 32 false u1.badBus.length)])), (k931 u9)]
end
theorem m_law03_GuardHolds_ok (p : Plant) (s_ : State) (w3 : Int) {r : Bool} (h : m_law03_GuardHolds p s_ w3 = some r) : Fn Try.prog 3 (k118 p s_ w3) [] (vB r) [] := by
 refine fN tT Try.func3 rfl rfl fun B => ?_
 show AWp _ _ _ _ _ _ (m_law03_GuardHolds_R r) _
 unfold m_law03_GuardHolds at h
 refine sz tT (k119 p s_ w3) { fr := [(0, 21), (1, 22)] } [21, 22] ?_
 refine aQ (aQ (bE h fun r_ hr_ h => ?_))
 refine rg tT ⟨[(2, (vI w3)), (k120 p), (k121 s_), (57, (vB (bif (k954 p) then true else (!decide (r_ = 0)))))], []⟩ (eqs (k956 p) 5 (eqs (k955 p) 5 (eqs (k954 p) 3 ((gP (ybf [(4, (k956 p)), (10, (k955 p)), (16, (k954 p))]) [(16, false)] → All [Fn Try.prog 12 (k97 s_ p) [] (vI r_) []]) :: (eqs (k954 p) 2 []))))) { yb := [(4, (k956 p)), (10, (k955 p)), (16, (k954 p))], an := [(19, .call [] (vI r_) [])] } [] (ae (ae (ae ⟨(fun hg => ⟨(m_plant_CheckState_ok p s_ (gcall hr_ (gB_of hg))), trivial⟩), (ae trivial)⟩))) ?_
 refine bI h (fun hb14 h => ?_) (fun hb14 h => ?_)
 ·refine ct hb14 ?_
  refine aQ (bE h fun w6 hr_1 h => ?_)
  have q0 := m_law03_awake_ok hr_1
  refine rg tT ⟨[(6, (vB w6))], []⟩ [_] { an := [(0, cA q0 [])] } [] ⟨q0, trivial⟩ ?_
  refine aR ?_
  obtain rfl := oi h
  exact rq [(sB w6)] (.refl _)
 ·refine cf hb14 ?_
  refine aP (aQ (bE h fun u8 hr_2 h => ?_))
  have q0 := m_kit_Pick_ok w3 p.buses hr_2
  refine rg tT ⟨[(k120 p), (k121 s_), (7, (vI u8))], []⟩ [_] { an := [(3, cA q0 [])] } [] ⟨q0, trivial⟩ ?_
  refine aQ (bE h fun u0 hr_3 h => ?_)
  have q0 := rk [(0, 23), (1, 24)] (m_guard_Clear_v1_ok p s_ u8 hr_3)
  refine rg tT ⟨[(k120 p), (k121 s_), (7, (vI u8)), (8, (vP 25 0)), (9, (vI u0.2))], (k957 u0)⟩ [_] { an := [(3, cA q0 [])], fr := [(7, 25)] } [] ⟨q0, trivial⟩ ?_
  refine aQ (sz tT ⟨[(k120 p), (k121 s_), (7, (vI u8)), (8, (vP 25 0)), (71, (vB (!decide (u0.2 = 0))))], (k957 u0)⟩ {} [] ?_)
  refine bI h (fun hb13 h => ?_) (fun hb13 h => ?_)
  ·refine ct hb13 ?_
   refine sz tT ⟨[(6, (vB false))], []⟩ {} [] ?_
   refine aR ?_
   obtain rfl := oi h
   exact rq [(sB false)] (.refl _)
  ·refine cf hb13 ?_
   refine aP (aQ (bE h fun u1 hr_4 h => ?_))
   have q0 := rk [(0, 26), (1, 27), (2, 28), (3, 29), (4, 30), (5, 31), (6, 32), (7, 33)] (m_kit_CopyState_v1_ok s_ hr_4)
   refine rg tT ⟨[(k120 p), (7, (vI u8)), (8, (vP 25 0)), (10, (vP 34 0))], [(k927 u0), (k958 u0), (k674 u1), (k675 u1), (k676 u1), (k677 u1), (k678 u1), (k679 u1), (k680 u1), (k959 u1)]⟩ [_] { an := [(1, cA q0 [])], fr := [(2, 34)] } [] ⟨q0, trivial⟩ ?_
   refine aQ (aO h fun ⟨a1, a2, a3⟩ h => ?_)
   refine rg tT ⟨[(k120 p), (7, (vI u8)), (8, (vP 25 0)), (10, (vP 34 0)), (k960 p)], (k961 p u0 u1)⟩ [_, ((p.links.length : Int) : Int) = (p.links.length : Int), _, _, (k256 p).length = (k257 p), ArrEq (k257 p) 1 (fun _ j => [(.int .i64 0)].getD j .nilp) (k259 p)] { an := [(3, .arr (k256 p).length (k259 p))], fr := [(3, 35)] } [] ⟨a1, rfl, a2, a3, (List.length_replicate), (arrEq_rep _ _ _ _ _ (fun j hj => (match j, hj with | 0, _ => rfl))), trivial⟩ ?_
   refine sz tT ⟨[(k120 p), (7, (vI u8)), (8, (vP 25 0)), (10, (vP 34 0)), (k960 p), (12, (vD nS))], (k961 p u0 u1)⟩ {} [] ?_
   refine sz tT ⟨[(k120 p), (7, (vI u8)), (8, (vP 25 0)), (10, (vP 34 0)), (k960 p), (12, (vD nS)), (13, (vI 0)), (14, (vI 0))], (k961 p u0 u1)⟩ {} [] ?_
   refine sz tT ⟨[(k120 p), (7, (vI u8)), (8, (vP 25 0)), (10, (vP 34 0)), (k960 p), (12, (vD nS)), (13, (vI 0)), (14, (vI 0)), (15, (vI 0))], (k961 p u0 u1)⟩ {} [] ?_
   refine bE h fun y6 hy h => ?_
   refine aI (Imp.le (st' := ⟨[(k120 p), (7, (vI u8)), (8, (vP 25 0)), (10, (vP 34 0)), (k960 p), (12, (vD k252)), (13, (vI 0)), (14, (vI 0)), (15, (vI 0))], (k961 p u0 u1)⟩) ⟨⟨tR, tR, tR, tR, tR, ⟨_, rfl, TLe.v (SLe.one (CLe.d DLe.nilSl))⟩, tR, tR, tR, trivial⟩, ⟨rfl, .refl _, ⟨rfl, .refl _, ⟨rfl, .refl _, ⟨rfl, .refl _, ⟨rfl, .refl _, ⟨rfl, .refl _, ⟨rfl, .refl _, ⟨rfl, .refl _, ⟨rfl, .refl _, ⟨rfl, .refl _, ⟨rfl, .refl _, trivial⟩⟩⟩⟩⟩⟩⟩⟩⟩⟩⟩⟩) ?_
   refine aL [] (m_law03_GuardHolds_S0 p u8 u0 u1) m_law03_GuardHolds_B0 m_law03_GuardHolds_R hy (fun s f h => ?_) ?_
   ·clear hy
    show AWp _ _ _ _ _ _ ((k935 p u8 u0 u1) f) _
    unfold m_law03_GuardHolds_L0 at h
    obtain ⟨c3, u2, v7, v3, v8, u5, u7, i2⟩ := s
    refine aB (aQ (bE h fun v9 hr_5 h => ?_))
    have q0 := rk [(0, 26), (1, 27), (2, 28), (3, 29), (4, 30), (5, 31), (6, 32)] (m_flow_Shorts_v2_ok p (⟨u2, u1.locked, u1.badLink, u1.on_, u1.badSource, u1.earthed, u1.badBus⟩ : State) u8 hr_5)
    refine rg tT ⟨[(k120 p), (7, (vI u8)), (8, (vP 25 0)), (10, (vP 34 0)), (k924 v7), (k925 v3 v8), (13, (vI u5)), (14, (vI u7)), (15, (vI i2)), (k932 v9), (17, (vI v9.2))], (k926 v7 u0 c3 u2 u1)⟩ [_] { an := [(3, cR q0 [26, 27, 28, 29, 30, 31, 32])] } [] ⟨q0, trivial⟩ ?_
    refine aQ (bE h fun u3 hr_6 h => ?_)
    have q0 := m_flow_Through_ok p v9.1 hr_6
    refine rg tT ⟨[(k120 p), (7, (vI u8)), (8, (vP 25 0)), (10, (vP 34 0)), (k924 v7), (k925 v3 v8), (13, (vI u5)), (14, (vI u7)), (15, (vI i2)), (k932 v9), (17, (vI v9.2)), (k933 u3), (19, (vI u3.2.2))], (k926 v7 u0 c3 u2 u1)⟩ [_] { an := [(2, cA q0 [])] } [] ⟨q0, trivial⟩ ?_
    refine aQ (sg tT ⟨[(k120 p), (7, (vI u8)), (8, (vP 25 0)), (10, (vP 34 0)), (k924 v7), (k925 v3 v8), (13, (vI u5)), (14, (vI u7)), (15, (vI i2)), (k932 v9), (k933 u3), (104, (vB (bif (k962 v9 u3) then true else (!decide ((u3.1.length : Int) = (p.links.length : Int))))))], (k926 v7 u0 c3 u2 u1)⟩ (eqs (!decide (v9.2 = 0)) 3 (eqs (k962 v9 u3) 7 [])) { yb := [(2, (!decide (v9.2 = 0))), (6, (k962 v9 u3))] } [] (ae (ae trivial)) ?_)
    refine bI h (fun hb12 h => ?_) (fun hb12 h => ?_)
    ·refine ct hb12 ?_
     refine sz tT ⟨[(6, (vB false))], []⟩ {} [] ?_
     refine aR ?_
     obtain rfl := oi h
     exact lR ret_nn (ret_ne 0) av_ret (RetQ.mk (.inr rfl) (p := []) (l := [(sB false)]) (by kernel_rfl) trivial (TLe.refl _) trivial)
    ·refine cf hb12 ?_
     refine aP (sz tT ⟨[(k120 p), (7, (vI u8)), (8, (vP 25 0)), (10, (vP 34 0)), (k924 v7), (k925 v3 v8), (13, (vI u5)), (14, (vI u7)), (15, (vI i2)), (k932 v9), (k933 u3), (20, (vI 0))], (k926 v7 u0 c3 u2 u1)⟩ {} [] ?_)
     refine aQ (sz tT ⟨[(k120 p), (7, (vI u8)), (8, (vP 25 0)), (10, (vP 34 0)), (k924 v7), (k925 v3 v8), (13, (vI u5)), (14, (vI u7)), (15, (vI i2)), (k932 v9), (k933 u3), (20, (vI 0)), (21, (vI 0))], (k926 v7 u0 c3 u2 u1)⟩ {} [] ?_)
     refine bE h fun y hy h => ?_
     refine aL [1] (m_law03_GuardHolds_S1 p u8 u0 u1 c3 u2 v7 v3 v8 u5 u7 i2 v9 u3) (m_law03_GuardHolds_B1 p u8 u0 u1 c3 u2 v7 v3 v8 u5 u7 i2 u3) (k935 p u8 u0 u1) hy (fun s f h => ?_) ?_
     ·clear hy
      show AWp _ _ _ _ _ _ ((m_law03_GuardHolds_Q1 p u8 u0 u1 c3 u2 v7 v3 v8 u5 u7 i2 v9 u3) f) _
      unfold m_law03_GuardHolds_L1 at h
      obtain ⟨w4, k⟩ := s
      refine aQ (sz tT ⟨[(k120 p), (7, (vI u8)), (8, (vP 25 0)), (10, (vP 34 0)), (k924 v7), (k925 v3 v8), (13, (vI u5)), (14, (vI u7)), (15, (vI i2)), (k932 v9), (k933 u3), (20, (vI w4)), (21, (vI k)), (108, (vB (decide (k < (v9.1.length : Int)))))], (k926 v7 u0 c3 u2 u1)⟩ {} [] ?_)
      refine bI h (fun hb h => ?_) (fun hb h => ?_)
      ·refine ct hb ?_
       refine aP (aQ (aB (aO h fun a1 h => ?_)))
       refine rg tT ⟨[(k120 p), (7, (vI u8)), (8, (vP 25 0)), (10, (vP 34 0)), (k924 v7), (k925 v3 v8), (13, (vI u5)), (14, (vI u7)), (15, (vI i2)), (k932 v9), (k933 u3), (20, (vI (IntKind.wrap .i64 (w4 + ((at' v9.1 k.toNat).amps))))), (21, (vI k))], (k926 v7 u0 c3 u2 u1)⟩ [_] {} [] ⟨a1, trivial⟩ ?_
       refine rz tT ⟨[(k120 p), (7, (vI u8)), (8, (vP 25 0)), (10, (vP 34 0)), (k924 v7), (k925 v3 v8), (13, (vI u5)), (14, (vI u7)), (15, (vI i2)), (k932 v9), (k933 u3), (20, (vI (IntKind.wrap .i64 (w4 + ((at' v9.1 k.toNat).amps))))), (21, (k30 k))], (k926 v7 u0 c3 u2 u1)⟩ {} [] ?_
       obtain rfl := oi h
       exact lN (by kernel_rfl)
      ·refine cf hb ?_
       refine aI (fz (k934 p u8 v7 v3 v8 u5 u7 i2 u3 w4 u0 c3 u2 u1) []) ?_
       refine aX ?_
       obtain rfl := oi h
       exact lB (by kernel_rfl)
     ·clear hy
      cases y with
      | brk z =>
       obtain ⟨u4, rfl⟩ : ∃ q, q = z := ⟨_, rfl⟩
       unfold ExK
       refine ⟨_, .refl, ?_⟩
       refine aQ (sz tT ⟨[(k120 p), (7, (vI u8)), (8, (vP 25 0)), (10, (vP 34 0)), (k924 v7), (k925 v3 v8), (13, (vI u5)), (14, (vI u7)), (15, (vI i2)), (k933 u3), (20, (vI u4)), (22, (vI 0))], (k926 v7 u0 c3 u2 u1)⟩ {} [] ?_)
       refine bE h fun y1 hy h => ?_
       refine aL [1] (m_law03_GuardHolds_S2 p u8 u0 u1 c3 u2 v3 v8 u5 u7 i2 u3 u4) (m_law03_GuardHolds_B2 p u8 u0 u1 c3 u2 u5 u7 i2 u3 u4) (k935 p u8 u0 u1) hy (fun s f h => ?_) ?_
       ·clear hy
        show AWp _ _ _ _ _ _ ((m_law03_GuardHolds_Q2 p u8 u0 u1 c3 u2 v3 v8 u5 u7 i2 u3 u4) f) _
        unfold m_law03_GuardHolds_L2 at h
        obtain ⟨w0, k1⟩ := s
        refine aQ (sz tT ⟨[(k120 p), (7, (vI u8)), (8, (vP 25 0)), (10, (vP 34 0)), (k924 w0), (k925 v3 v8), (13, (vI u5)), (14, (vI u7)), (15, (vI i2)), (k933 u3), (20, (vI u4)), (22, (vI k1)), (121, (vB (decide (k1 < (u3.1.length : Int)))))], (k926 w0 u0 c3 u2 u1)⟩ {} [] ?_)
        refine bI h (fun hb2 h => ?_) (fun hb2 h => ?_)
        ·refine ct hb2 ?_
         refine aP (aQ (aB (aQ (aO h fun ⟨a1, a2⟩ h => ?_))))
         refine dg tT mX ⟨[(k120 p), (7, (vI u8)), (8, (vP 25 0)), (10, (vP 34 0)), (k924 w0), (k925 v3 v8), (13, (vI u5)), (14, (vI u7)), (15, (vI i2)), (k933 u3), (20, (vI u4)), (22, (vI k1)), (136, (vB (bif v3 then (!decide ((at' u3.1 k1.toNat) = (at' v8 k1.toNat))) else false)))], (k926 w0 u0 c3 u2 u1)⟩ (eqs v3 3 ((gP (ybf [(2, v3)]) [(2, true)] → All [(0 : Int) ≤ k1 ∧ k1 < (u3.1.length : Int)]) :: (eqs v3 4 ((gP (ybf [(2, v3)]) [(2, true)] → All [(0 : Int) ≤ k1 ∧ k1 < (v8.length : Int)]) :: (eqs v3 3 []))))) { yb := [(2, v3)] } [] (ae ⟨(fun hg => ⟨(a1 (gB_of hg)), trivial⟩), (ae ⟨(fun hg => ⟨(a2 (gB_of hg)), trivial⟩), (ae trivial)⟩)⟩) ?_
         refine bI h (fun hb1 h => ?_) (fun hb1 h => ?_)
         ·refine ct hb1 ?_
          refine aO h fun a1 h => ?_
          refine ri tT ⟨(k936 p u8 w0 v3 v8 u5 u7 i2 u3 u4 k1), [(k927 u0), (k928 u0 c3), (k929 u2), (k675 u1), (k676 u1), (k677 u1), (k678 u1), (k679 u1), (k680 u1), (k930 u2 u1), (35, some (.arr 3 1 w0.length (elOf (intC .i64) (w0.set k1.toNat u5))))]⟩ [_, _, ArrEq w0.length 1 (stEls (elOf (intC .i64) w0) k1.toNat 0 [(.int .i64 u5)]) (elOf (intC .i64) (w0.set k1.toNat u5))] { an := [(4, .arr 0 (elOf (intC .i64) (w0.set k1.toNat u5)))] } [] ⟨a1, (tL a1), (arrEq_set' _ _ _ _ _ _ _ _ rfl (fun j hj => (match j, hj with | 0, _ => rfl))), trivial⟩ (Imp.le (st' := ⟨[(k120 p), (7, (vI u8)), (8, (vP 25 0)), (10, (vP 34 0)), (11, (vO 35 true ((w0.set k1.toNat u5).length))), (k925 v3 v8), (13, (vI u5)), (14, (vI u7)), (15, (vI i2)), (k933 u3), (20, (vI u4)), (22, (vI k1))], (k963 u0 u1 c3 u2 w0 k1 u5)⟩) ⟨⟨tR, tR, tR, tR, ⟨_, rfl, TLe.v (SLe.one cW)⟩, tR, tR, tR, tR, tR, tR, tR, trivial⟩, ⟨rfl, .refl _, ⟨rfl, .refl _, ⟨rfl, .refl _, ⟨rfl, .refl _, ⟨rfl, .refl _, ⟨rfl, .refl _, ⟨rfl, .refl _, ⟨rfl, .refl _, ⟨rfl, .refl _, ⟨rfl, .refl _, ⟨rfl, oW, trivial⟩⟩⟩⟩⟩⟩⟩⟩⟩⟩⟩⟩) ?_
          refine rz tT ⟨[(k120 p), (7, (vI u8)), (8, (vP 25 0)), (10, (vP 34 0)), (11, (vO 35 true ((w0.set k1.toNat u5).length))), (k925 v3 v8), (13, (vI u5)), (14, (vI u7)), (15, (vI i2)), (k933 u3), (20, (vI u4)), (22, (k30 k1))], (k963 u0 u1 c3 u2 w0 k1 u5)⟩ {} [] ?_
          obtain rfl := oi h
          exact lN (by kernel_rfl)
         ·refine cf hb1 ?_
          refine aP (rz tT ⟨[(k120 p), (7, (vI u8)), (8, (vP 25 0)), (10, (vP 34 0)), (k924 w0), (k925 v3 v8), (13, (vI u5)), (14, (vI u7)), (15, (vI i2)), (k933 u3), (20, (vI u4)), (22, (k30 k1))], (k926 w0 u0 c3 u2 u1)⟩ {} [] ?_)
          obtain rfl := oi h
          exact lN (by kernel_rfl)
        ·refine cf hb2 ?_
         refine aI (fz (k937 p u8 w0 u5 u7 i2 u3 u4 u0 c3 u2 u1) []) ?_
         refine aX ?_
         obtain rfl := oi h
         exact lB (by kernel_rfl)
       ·clear hy
        cases y1 with
        | brk z =>
         obtain ⟨u9, rfl⟩ : ∃ q, q = z := ⟨_, rfl⟩
         unfold ExK
         refine ⟨_, .refl, ?_⟩
         refine sz tT ⟨[(k120 p), (7, (vI u8)), (8, (vP 25 0)), (10, (vP 34 0)), (k924 u9), (k943 u3), (13, (vI u5)), (14, (vI u7)), (15, (vI i2)), (k933 u3), (20, (vI u4))], (k926 u9 u0 c3 u2 u1)⟩ {} [] ?_
         refine aQ (sz tT ⟨[(k120 p), (7, (vI u8)), (8, (vP 25 0)), (10, (vP 34 0)), (k924 u9), (k943 u3), (13, (vI u5)), (14, (vI u7)), (15, (vI i2)), (k933 u3), (20, (vI u4)), (146, (vB (decide (i2 = (u0.1.events.length : Int)))))], (k926 u9 u0 c3 u2 u1)⟩ {} [] ?_)
         refine bI h (fun hb11 h => ?_) (fun hb11 h => ?_)
         ·refine ct hb11 ?_
          refine si tT ⟨[(k120 p), (8, (vP 25 0)), (10, (vP 34 0)), (13, (vI u5)), (14, (vI u7)), (k933 u3), (20, (vI u4)), (23, (vB false))], [(25, some (.cells 36 [(.d (k470 u0)), (cB u0.1.cleared), (cI u0.1.millis), (cI c3), (.d (k471 u0)), (.d (k472 u0)), (.d (k473 u0)), (.d (k474 u0)), (.d (k475 u0)), (.d (k476 u0)), (.d (k477 u0))])), (34, some (.cells 29 (k964 u1 u2)))]⟩ [u0.1.events.length = u0.1.events.length, u2.length = u2.length, u1.locked.length = u1.locked.length, u1.badLink.length = u1.badLink.length, u1.on_.length = u1.on_.length, u1.badSource.length = u1.badSource.length, u1.earthed.length = u1.earthed.length, u1.badBus.length = u1.badBus.length] {} [23, 26, 27, 28, 29, 30, 31, 32] ⟨rfl, rfl, rfl, rfl, rfl, rfl, rfl, rfl, trivial⟩ (fz ⟨[(k120 p), (k938 u0 c3), (k939 u2 u1), (13, (vI u5)), (14, (vI u7)), (k933 u3), (20, (vI u4)), (23, (vB false))], []⟩ [25, 34]) ?_
          refine aQ (sz tT ⟨[(k120 p), (k938 u0 c3), (k939 u2 u1), (13, (vI u5)), (14, (vI u7)), (k933 u3), (20, (vI u4)), (23, (vB false)), (24, (vI 0))], []⟩ {} [] ?_)
          refine bE h fun y2 hy h => ?_
          refine aL [1] (m_law03_GuardHolds_S3 p u0 u1 c3 u2 u5 u7 u3 u4) (m_law03_GuardHolds_B3 u0 u1 c3 u2 u5 u7 u4) (k935 p u8 u0 u1) hy (fun s f h => ?_) ?_
          ·clear hy
           show AWp _ _ _ _ _ _ ((m_law03_GuardHolds_Q3 p u8 u0 u1 c3 u2 u5 u7 u3 u4) f) _
           unfold m_law03_GuardHolds_L3 at h
           obtain ⟨v6, k2⟩ := s
           refine aQ (sz tT ⟨[(k120 p), (k938 u0 c3), (k939 u2 u1), (13, (vI u5)), (14, (vI u7)), (k933 u3), (20, (vI u4)), (23, (vB v6)), (24, (vI k2)), (151, (k105 p k2))], []⟩ {} [] ?_)
           refine bI h (fun hb3 h => ?_) (fun hb3 h => ?_)
           ·refine ct hb3 ?_
            refine aP (aQ (aB (aQ (bE h fun v2 hr_7 h => ?_))))
            refine aO h fun ⟨a1, a2⟩ h => ?_
            have q2 := m_guard_Delay_ok (at' p.links k2.toNat) (at' u3.1 k2.toNat) hr_7
            refine dg tT mX ⟨[(k120 p), (k938 u0 c3), (k939 u2 u1), (13, (vI u5)), (14, (vI u7)), (k933 u3), (20, (vI u4)), (23, (vB v6)), (24, (vI k2)), (26, (vB v2.2))], []⟩ [_, _, _] { an := [(9, cA q2 [])] } [] ⟨a1, a2, q2, trivial⟩ ?_
            refine aO h fun ⟨a1, a2, a3⟩ h => ?_
            refine rg tT ⟨[(k120 p), (k938 u0 c3), (k939 u2 u1), (13, (vI u5)), (14, (vI u7)), (k933 u3), (20, (vI u4)), (k965 p u1 u2 v2 k2 v6), (24, (vI k2))], []⟩ (eqs v6 2 (eqs v2.2 4 ((gP (k969 p u2 v2 k2 v6) [(3, true), (1, false)] → All [(0 : Int) ≤ k2 ∧ k2 < (p.links.length : Int)]) :: (eqs v2.2 3 ((v6 = v6) :: (gP (k969 p u2 v2 k2 v6) [(1, false)] → All [v2.2 = v2.2]) :: (v6 = v6) :: (eqs (k968 p v2 k2) 4 ((gP (k969 p u2 v2 k2 v6) [(12, true), (1, false)] → All [(0 : Int) ≤ k2 ∧ k2 < (u2.length : Int)]) :: (k970 p v2 k2) :: (v6 = v6) :: (gP (k969 p u2 v2 k2 v6) [(1, false)] → All [(k968 p v2 k2) = (k968 p v2 k2)]) :: (v6 = v6) :: (eqs (k967 p u2 v2 k2) 4 ((gP (k969 p u2 v2 k2 v6) [(19, true), (1, false)] → All [(0 : Int) ≤ k2 ∧ k2 < (u1.badLink.length : Int)]) :: (eqs (k967 p u2 v2 k2) 2 [v6 = v6, gP (k969 p u2 v2 k2 v6) [(1, false)] → All [(k967 p u2 v2 k2) = (k967 p u2 v2 k2)], v6 = v6])))))))))) { yb := [(1, v6), (3, v2.2), (12, (k968 p v2 k2)), (19, (k967 p u2 v2 k2))] } [] (ae (ae ⟨(fun hg => ⟨(a1 (gB_of hg)), trivial⟩), (ae ⟨rfl, (fun hg => ⟨rfl, trivial⟩), rfl, (ae ⟨(fun hg => ⟨(a2 (gB_of hg)), trivial⟩), rfl, rfl, (fun hg => ⟨rfl, trivial⟩), rfl, (ae ⟨(fun hg => ⟨(a3 (gB_of hg)), trivial⟩), (ae ⟨rfl, (fun hg => ⟨rfl, trivial⟩), rfl, trivial⟩)⟩)⟩)⟩)⟩)) ?_
            refine rz tT ⟨[(k120 p), (k938 u0 c3), (k939 u2 u1), (13, (vI u5)), (14, (vI u7)), (k933 u3), (20, (vI u4)), (k965 p u1 u2 v2 k2 v6), (24, (k30 k2))], []⟩ {} [] ?_
            obtain rfl := oi h
            exact lN (by kernel_rfl)
           ·refine cf hb3 ?_
            refine aI (fz (k940 u0 c3 u2 u1 u5 u7 u4 v6) []) ?_
            refine aX ?_
            obtain rfl := oi h
            exact lB (by kernel_rfl)
          ·clear hy
           cases y2 with
           | brk z =>
            obtain ⟨v4, rfl⟩ : ∃ q, q = z := ⟨_, rfl⟩
            unfold ExK
            refine ⟨_, .refl, ?_⟩
            refine aQ (bE h fun w1 hr_8 h => ?_)
            refine bE h fun w5 hr_9 h => ?_
            refine rg tT ⟨[(6, (vB (k971 u0 c3 u5 u4 v4 u7 w1 w5)))], []⟩ (eqs (k976 u0 u4) 3 (eqs u0.1.cleared 2 (((k976 u0 u4) = (k976 u0 u4)) :: (gP (k977 u0 c3 u5 u4 v4 u7 w1) [(5, true)] → All [u0.1.cleared = u0.1.cleared]) :: ((k976 u0 u4) = (k976 u0 u4)) :: (eqs (k975 u0 u4 v4) 5 (eqs (k974 u0 u5 u4 v4) 5 (eqs (k973 u0 c3 u5 u4 v4 u7) 4 [gP (k977 u0 c3 u5 u4 v4 u7 w1) [(25, true)] → All [Fn Try.prog 20 [(.agg [(.d (k471 u0)), (.d (k472 u0)), (.d (k473 u0)), (.d (k474 u0)), (.d (k475 u0)), (.d (k476 u0)), (.d (k477 u0))]), (.agg (k964 u1 u2))] [] (vB w1) []], (k973 u0 c3 u5 u4 v4 u7) = (k973 u0 c3 u5 u4 v4 u7), (k972 u0 c3 u5 u4 v4 u7 w1) = (k972 u0 c3 u5 u4 v4 u7 w1), gP (k977 u0 c3 u5 u4 v4 u7 w1) [(31, true)] → All [Fn Try.prog 13 [] [] (vB w5) []], (k972 u0 c3 u5 u4 v4 u7 w1) = (k972 u0 c3 u5 u4 v4 u7 w1)])))))) { yb := [(5, (k976 u0 u4)), (8, u0.1.cleared), (13, (k975 u0 u4 v4)), (19, (k974 u0 u5 u4 v4)), (25, (k973 u0 c3 u5 u4 v4 u7)), (31, (k972 u0 c3 u5 u4 v4 u7 w1))], an := [(29, .call [] (vB w1) []), (32, .call [] (vB w5) [])] } [] (ae (ae ⟨rfl, (fun hg => ⟨rfl, trivial⟩), rfl, (ae (ae (ae ⟨(fun hg => ⟨(m_kit_SameState_ok u0.1.state (⟨u2, u1.locked, u1.badLink, u1.on_, u1.badSource, u1.earthed, u1.badBus⟩ : State) (gcall hr_8 (gB_of hg))), trivial⟩), rfl, rfl, (fun hg => ⟨(m_law03_awake_ok (gcall hr_9 (gB_of hg))), trivial⟩), rfl, trivial⟩)))⟩)) ?_
            refine aR ?_
            obtain rfl := oi h
            exact lR ret_nn (ret_ne 0) av_ret (RetQ.mk (.inr rfl) (p := []) (l := [(sB (k971 u0 c3 u5 u4 v4 u7 w1 w5))]) (by kernel_rfl) trivial (TLe.refl _) trivial)
           | ret v =>
            obtain rfl := oi h
            unfold ExK
            intro e st hn ha hR
            cases e with
            | normal => exact absurd rfl hn
            | exit id => simp only [av_beq (b := 1) ha rfl, cond_false]; exact hR
            | goto l => exact hR
            | ret => exact hR
            | panic c => exact hR
            | outgrown => exact hR
         ·refine cf hb11 ?_
          refine aP (aQ (aO h fun a1 h => ?_))
          refine rg tT ⟨[(k120 p), (7, (vI u8)), (8, (vP 25 0)), (10, (vP 34 0)), (k924 u9), (k943 u3), (13, (vI u5)), (14, (vI u7)), (15, (vI i2)), (k933 u3), (20, (vI u4)), (k947 u0 i2)], (k926 u9 u0 c3 u2 u1)⟩ [_, _] {} [] ⟨a1, (tL a1), trivial⟩ ?_
          refine aQ (sg tT ⟨[(k120 p), (7, (vI u8)), (8, (vP 25 0)), (10, (vP 34 0)), (k924 u9), (k943 u3), (13, (vI u5)), (14, (vI u7)), (15, (vI i2)), (k933 u3), (20, (vI u4)), (k947 u0 i2), (250, (vB (bif (k978 u0 u5 u4 i2) then true else (bif (decide (0 < i2)) then (decide ((k945 u0 i2) = u5)) else false))))], (k926 u9 u0 c3 u2 u1)⟩ (eqs (decide (u4 = 0)) 4 (eqs (k978 u0 u5 u4 i2) 3 (eqs (decide (0 < i2)) 3 [(k978 u0 u5 u4 i2) = (k978 u0 u5 u4 i2), gP (ybf [(2, (decide (u4 = 0))), (7, (k978 u0 u5 u4 i2)), (10, (decide (0 < i2)))]) [(7, false)] → All [(decide (0 < i2)) = (decide (0 < i2))], (k978 u0 u5 u4 i2) = (k978 u0 u5 u4 i2)]))) { yb := [(2, (decide (u4 = 0))), (7, (k978 u0 u5 u4 i2)), (10, (decide (0 < i2)))] } [] (ae (ae (ae ⟨rfl, (fun hg => ⟨rfl, trivial⟩), rfl, trivial⟩))) ?_)
          refine bI h (fun hb10 h => ?_) (fun hb10 h => ?_)
          ·refine ct hb10 ?_
           refine sz tT ⟨[(6, (vB false))], []⟩ {} [] ?_
           refine aR ?_
           obtain rfl := oi h
           exact lR ret_nn (ret_ne 0) av_ret (RetQ.mk (.inr rfl) (p := []) (l := [(sB false)]) (by kernel_rfl) trivial (TLe.refl _) trivial)
          ·refine cf hb10 ?_
           refine aP (aQ (aO h fun a1 h => ?_))
           refine rg tT ⟨[(k120 p), (7, (vI u8)), (8, (vP 25 0)), (10, (vP 34 0)), (k924 u9), (k943 u3), (k944 u0 i2 u7 u4 u5), (15, (vI i2)), (k933 u3), (k947 u0 i2)], (k926 u9 u0 c3 u2 u1)⟩ [_] {} [] ⟨a1, trivial⟩ ?_
           refine aQ (aO h fun ⟨a1, a2, a3⟩ h => ?_)
           refine rg tT ⟨[(k120 p), (7, (vI u8)), (8, (vP 25 0)), (10, (vP 34 0)), (k924 u9), (k943 u3), (k944 u0 i2 u7 u4 u5), (15, (vI i2)), (k933 u3), (k947 u0 i2), (28, (vO 41 true ((k979 p).length)))], [(k927 u0), (k928 u0 c3), (k929 u2), (k675 u1), (k676 u1), (k677 u1), (k678 u1), (k679 u1), (k680 u1), (k930 u2 u1), (k931 u9), (41, some (arD 4 1 boolC (k979 p)))]⟩ [_, ((p.links.length : Int) : Int) = (p.links.length : Int), _, _, (k979 p).length = (k257 p), ArrEq (k257 p) 1 (fun _ j => [(.bool false)].getD j .nilp) (elOf boolC (k979 p))] { an := [(3, .arr (k979 p).length (elOf boolC (k979 p)))], fr := [(3, 41)] } [] ⟨a1, rfl, a2, a3, (List.length_replicate), (arrEq_rep _ _ _ _ _ (fun j hj => (match j, hj with | 0, _ => rfl))), trivial⟩ ?_
           refine aQ (bE h fun y3 hy h => ?_)
           refine aL [1] (m_law03_GuardHolds_S4 p u8 u0 u1 c3 u2 u5 u7 i2 u3 u4 u9) (m_law03_GuardHolds_B4 p u8 u0 u1 c3 u2 u5 u7 i2 u3 u4 u9) (k935 p u8 u0 u1) hy (fun s f h => ?_) ?_
           ·clear hy
            show AWp _ _ _ _ _ _ ((m_law03_GuardHolds_Q4 p u8 u0 u1 c3 u2 u5 u7 i2 u3 u4 u9) f) _
            unfold m_law03_GuardHolds_L4 at h
            obtain ⟨i3, u6⟩ := s
            refine aQ (aQ (aO h fun a1 h => ?_))
            refine rg tT ⟨[(k120 p), (7, (vI u8)), (8, (vP 25 0)), (10, (vP 34 0)), (k924 u9), (k943 u3), (k944 u0 i2 u7 u4 u5), (15, (vI i3)), (k933 u3), (k947 u0 i2), (k948 u6), (280, (vB (bif (k980 u0 i3) then (decide ((k945 u0 i3) = (k945 u0 i2))) else false)))], (k949 u0 u6 u9 c3 u2 u1)⟩ (eqs (k980 u0 i3) 4 ((gP (ybf [(5, (k980 u0 i3))]) [(5, true)] → All [(0 : Int) ≤ i3 ∧ i3 < (u0.1.events.length : Int)]) :: (eqs (k980 u0 i3) 2 ((gP (ybf [(5, (k980 u0 i3))]) [(5, true)] → All [i3.toNat < u0.1.events.length]) :: (eqs (k980 u0 i3) 3 []))))) { yb := [(5, (k980 u0 i3))] } [] (ae ⟨(fun hg => ⟨(a1 (gB_of hg)), trivial⟩), (ae ⟨(fun hg => ⟨((fun hq => tL (a1 hq)) (gB_of hg)), trivial⟩), (ae trivial)⟩)⟩) ?_
            refine bI h (fun hb6 h => ?_) (fun hb6 h => ?_)
            ·refine ct hb6 ?_
             refine aP (aB (aQ (aO h fun a1 h => ?_)))
             refine rg tT ⟨[(k120 p), (7, (vI u8)), (8, (vP 25 0)), (10, (vP 34 0)), (k924 u9), (k943 u3), (k944 u0 i2 u7 u4 u5), (15, (vI i3)), (k933 u3), (k947 u0 i2), (k948 u6), (k981 u0 i3)], (k949 u0 u6 u9 c3 u2 u1)⟩ [_, _] {} [] ⟨a1, (tL a1), trivial⟩ ?_
             refine aQ (aQ (aO h fun ⟨a1, a2, a3, a4, a5, a6⟩ h => ?_))
             refine rg tT ⟨[(k120 p), (7, (vI u8)), (8, (vP 25 0)), (10, (vP 34 0)), (k924 u9), (k943 u3), (k944 u0 i2 u7 u4 u5), (15, (vI i3)), (k933 u3), (k947 u0 i2), (k948 u6), (k981 u0 i3), (351, (vB (bif (k983 p u0 u1 u2 i3 u6) then true else (bif (k990 u0 i2 i3) then (decide ((k982 u0 i3) ≤ ((at' u0.1.events ((k13 i3).toNat)).link))) else false))))], (k949 u0 u6 u9 c3 u2 u1)⟩ (eqs (k988 u0 i3) 6 (eqs (k987 p u0 i3) 3 ((gP (k991 p u0 u1 u2 i2 i3 u6) [(9, false)] → All [(0 : Int) ≤ (k946 u0 i3).link ∧ (k946 u0 i3).link < (u6.length : Int)]) :: (k992 p u0 i3) :: (gP (k991 p u0 u1 u2 i2 i3 u6) [(9, false)] → All [(k982 u0 i3).toNat < u6.length]) :: (k992 p u0 i3) :: (eqs (k986 p u0 i3 u6) 4 ((gP (k991 p u0 u1 u2 i2 i3 u6) [(15, false)] → All [(0 : Int) ≤ (k946 u0 i3).link ∧ (k946 u0 i3).link < (p.links.length : Int)]) :: (eqs (k986 p u0 i3 u6) 4 (eqs (k985 p u0 i3 u6) 4 ((gP (k991 p u0 u1 u2 i2 i3 u6) [(24, false)] → All [(0 : Int) ≤ (k946 u0 i3).link ∧ (k946 u0 i3).link < (u2.length : Int)]) :: ((k985 p u0 i3 u6) = (k985 p u0 i3 u6)) :: (gP (k991 p u0 u1 u2 i2 i3 u6) [(24, false)] → All [(k982 u0 i3).toNat < u2.length]) :: (eqs (k985 p u0 i3 u6) 2 (eqs (k984 p u0 u2 i3 u6) 4 ((gP (k991 p u0 u1 u2 i2 i3 u6) [(32, false)] → All [(0 : Int) ≤ (k946 u0 i3).link ∧ (k946 u0 i3).link < (u1.badLink.length : Int)]) :: (k993 p u0 u2 i3 u6) :: (gP (k991 p u0 u1 u2 i2 i3 u6) [(32, false)] → All [(k982 u0 i3).toNat < u1.badLink.length]) :: (k993 p u0 u2 i3 u6) :: (eqs (k983 p u0 u1 u2 i3 u6) 3 (eqs (decide (0 < i3)) 5 ((gP (k991 p u0 u1 u2 i2 i3 u6) [(42, true), (39, false)] → All [(0 : Int) ≤ (k13 i3) ∧ (k13 i3) < (u0.1.events.length : Int)]) :: (eqs (decide (0 < i3)) 2 ((gP (k991 p u0 u1 u2 i2 i3 u6) [(42, true), (39, false)] → All [(k13 i3).toNat < u0.1.events.length]) :: (eqs (decide (0 < i3)) 2 ((k994 p u0 u1 u2 i3 u6) :: (gP (k991 p u0 u1 u2 i2 i3 u6) [(39, false)] → All [(decide (0 < i3)) = (decide (0 < i3))]) :: (k994 p u0 u1 u2 i3 u6) :: (eqs (k990 u0 i2 i3) 5 ((gP (k991 p u0 u1 u2 i2 i3 u6) [(53, true), (39, false)] → All [(0 : Int) ≤ (k13 i3) ∧ (k13 i3) < (u0.1.events.length : Int)]) :: (eqs (k990 u0 i2 i3) 2 ((gP (k991 p u0 u1 u2 i2 i3 u6) [(53, true), (39, false)] → All [(k13 i3).toNat < u0.1.events.length]) :: (eqs (k990 u0 i2 i3) 2 [(k983 p u0 u1 u2 i3 u6) = (k983 p u0 u1 u2 i3 u6), gP (k991 p u0 u1 u2 i2 i3 u6) [(39, false)] → All [(k990 u0 i2 i3) = (k990 u0 i2 i3)], (k983 p u0 u1 u2 i3 u6) = (k983 p u0 u1 u2 i3 u6)]))))))))))))))))))))))) { yb := [(2, (k988 u0 i3)), (9, (k987 p u0 i3)), (15, (k986 p u0 i3 u6)), (24, (k985 p u0 i3 u6)), (32, (k984 p u0 u2 i3 u6)), (39, (k983 p u0 u1 u2 i3 u6)), (42, (decide (0 < i3))), (53, (k990 u0 i2 i3))] } [] (ae (ae ⟨(fun hg => ⟨(a1 (gB_of hg)), trivial⟩), rfl, (fun hg => ⟨((fun hq => tL (a1 hq)) (gB_of hg)), trivial⟩), rfl, (ae ⟨(fun hg => ⟨(a2 (gB_of hg)), trivial⟩), (ae (ae ⟨(fun hg => ⟨(a3 (gB_of hg)), trivial⟩), rfl, (fun hg => ⟨((fun hq => tL (a3 hq)) (gB_of hg)), trivial⟩), (ae (ae ⟨(fun hg => ⟨(a4 (gB_of hg)), trivial⟩), rfl, (fun hg => ⟨((fun hq => tL (a4 hq)) (gB_of hg)), trivial⟩), rfl, (ae (ae ⟨(fun hg => ⟨(a5 (gB_of hg)), trivial⟩), (ae ⟨(fun hg => ⟨((fun hq => tL (a5 hq)) (gB_of hg)), trivial⟩), (ae ⟨rfl, (fun hg => ⟨rfl, trivial⟩), rfl, (ae ⟨(fun hg => ⟨(a6 (gB_of hg)), trivial⟩), (ae ⟨(fun hg => ⟨((fun hq => tL (a6 hq)) (gB_of hg)), trivial⟩), (ae ⟨rfl, (fun hg => ⟨rfl, trivial⟩), rfl, trivial⟩)⟩)⟩)⟩)⟩)⟩))⟩))⟩))⟩)⟩)) ?_
             refine bI h (fun hb5 h => ?_) (fun hb5 h => ?_)
             ·refine ct hb5 ?_
              refine sz tT ⟨[(6, (vB false))], []⟩ {} [] ?_
              refine aR ?_
              obtain rfl := oi h
              exact lR ret_nn (ret_ne 8) av_ret (lR ret_nn (ret_ne 0) av_ret (RetQ.mk (.inr rfl) (p := []) (l := [(sB false)]) (by kernel_rfl) trivial (TLe.refl _) trivial))
             ·refine cf hb5 ?_
              refine aP (aQ (bE h fun w2 hr_10 h => ?_))
              refine aO h fun ⟨a1, a2⟩ h => ?_
              have q2 := m_guard_Delay_ok (at' p.links (k989 u0 i3)) (at' u3.1 (k989 u0 i3)) hr_10
              refine dg tT mX ⟨[(k120 p), (7, (vI u8)), (8, (vP 25 0)), (10, (vP 34 0)), (k924 u9), (k943 u3), (k944 u0 i2 u7 u4 u5), (15, (vI i3)), (k933 u3), (k947 u0 i2), (k948 u6), (k981 u0 i3), (30, (vI w2.1)), (31, (vB w2.2))], (k949 u0 u6 u9 c3 u2 u1)⟩ [_, _, _] { an := [(9, cA q2 [])] } [] ⟨a1, a2, q2, trivial⟩ ?_
              refine aQ (aQ (aO h fun a1 h => ?_))
              refine rg tT ⟨[(k120 p), (7, (vI u8)), (8, (vP 25 0)), (10, (vP 34 0)), (k924 u9), (k943 u3), (k944 u0 i2 u7 u4 u5), (15, (vI i3)), (k933 u3), (k947 u0 i2), (k948 u6), (k981 u0 i3), (376, (vB (bif (!w2.2) then true else (decide ((k945 u0 i2) < (IntKind.wrap .i64 ((at' u9 (k989 u0 i3)) + w2.1)))))))], (k949 u0 u6 u9 c3 u2 u1)⟩ (eqs (!w2.2) 3 ((gP (ybf [(2, (!w2.2))]) [(2, false)] → All [(0 : Int) ≤ (k946 u0 i3).link ∧ (k946 u0 i3).link < (u9.length : Int)]) :: ((!w2.2) = (!w2.2)) :: (gP (ybf [(2, (!w2.2))]) [(2, false)] → All [(k982 u0 i3).toNat < u9.length]) :: (eqs (!w2.2) 5 []))) { yb := [(2, (!w2.2))] } [] (ae ⟨(fun hg => ⟨(a1 (gB_of hg)), trivial⟩), rfl, (fun hg => ⟨((fun hq => tL (a1 hq)) (gB_of hg)), trivial⟩), (ae trivial)⟩) ?_
              refine bI h (fun hb4 h => ?_) (fun hb4 h => ?_)
              ·refine ct hb4 ?_
               refine sz tT ⟨[(6, (vB false))], []⟩ {} [] ?_
               refine aR ?_
               obtain rfl := oi h
               exact lR ret_nn (ret_ne 8) av_ret (lR ret_nn (ret_ne 0) av_ret (RetQ.mk (.inr rfl) (p := []) (l := [(sB false)]) (by kernel_rfl) trivial (TLe.refl _) trivial))
              ·refine cf hb4 ?_
               refine aP (aQ (aO h fun a1 h => ?_))
               refine ri tT ⟨(k942 u3 u0 i2 u7 u4 u5 u6 p u8 u9 i3), [(k927 u0), (k928 u0 c3), (k929 u2), (k675 u1), (k676 u1), (k677 u1), (k678 u1), (k679 u1), (k680 u1), (k930 u2 u1), (k931 u9), (41, some (.arr 4 1 u6.length (k995 u0 i3 u6)))]⟩ [_, _, ArrEq u6.length 1 (stEls (elOf boolC u6) (k989 u0 i3) 0 [(.bool true)]) (k995 u0 i3 u6)] { an := [(3, .arr 0 (k995 u0 i3 u6))] } [] ⟨a1, (tL a1), (arrEq_set' _ _ _ _ _ _ _ _ rfl (fun j hj => (match j, hj with | 0, _ => rfl))), trivial⟩ (Imp.le (st' := ⟨[(k120 p), (7, (vI u8)), (8, (vP 25 0)), (10, (vP 34 0)), (k924 u9), (k943 u3), (k944 u0 i2 u7 u4 u5), (15, (vI i3)), (k933 u3), (k947 u0 i2), (28, (vO 41 true ((u6.set (k989 u0 i3) true).length)))], (k996 u0 u1 c3 u2 i3 u6 u9)⟩) ⟨⟨tR, tR, tR, tR, tR, tR, tR, tR, tR, tR, ⟨_, rfl, TLe.v (SLe.one cW)⟩, trivial⟩, ⟨rfl, .refl _, ⟨rfl, .refl _, ⟨rfl, .refl _, ⟨rfl, .refl _, ⟨rfl, .refl _, ⟨rfl, .refl _, ⟨rfl, .refl _, ⟨rfl, .refl _, ⟨rfl, .refl _, ⟨rfl, .refl _, ⟨rfl, .refl _, ⟨rfl, oW, trivial⟩⟩⟩⟩⟩⟩⟩⟩⟩⟩⟩⟩⟩) ?_
               refine rz tT ⟨[(k120 p), (7, (vI u8)), (8, (vP 25 0)), (10, (vP 34 0)), (k924 u9), (k943 u3), (k944 u0 i2 u7 u4 u5), (15, (k30 i3)), (k933 u3), (k947 u0 i2), (28, (vO 41 true ((u6.set (k989 u0 i3) true).length)))], (k996 u0 u1 c3 u2 i3 u6 u9)⟩ {} [] ?_
               obtain rfl := oi h
               exact lN (by kernel_rfl)
            ·refine cf hb6 ?_
             refine aI (fz (k941 u3 u0 i2 u7 u4 u5 u6 p u8 u9 i3 c3 u2 u1) []) ?_
             refine aX ?_
             obtain rfl := oi h
             exact lB (by kernel_rfl)
           ·clear hy
            cases y3 with
            | brk z =>
             obtain ⟨i4, v1⟩ := z
             unfold ExK
             refine ⟨_, .refl, ?_⟩
             refine aQ (sg tT ⟨[(k120 p), (7, (vI u8)), (8, (vP 25 0)), (10, (vP 34 0)), (k924 u9), (k943 u3), (k944 u0 i2 u7 u4 u5), (15, (vI i4)), (k933 u3), (k947 u0 i2), (k950 v1), (32, (vI 0))], (k926 u9 u0 c3 u2 u1)⟩ [v1.length = v1.length] {} [41] ⟨rfl, trivial⟩ ?_)
             refine bE h fun y4 hy h => ?_
             refine aL [1] (m_law03_GuardHolds_S5 p u8 u0 u1 c3 u2 u5 u7 i2 u3 u4 u9 i4 v1) (m_law03_GuardHolds_B5 p u8 u0 u1 c3 u2 u5 u7 i2 u3 u4 u9 i4 v1) (k935 p u8 u0 u1) hy (fun s f h => ?_) ?_
             ·clear hy
              show AWp _ _ _ _ _ _ ((m_law03_GuardHolds_Q5 p u8 u0 u1 c3 u2 u5 u7 i2 u3 u4 u9 i4 v1) f) _
              unfold m_law03_GuardHolds_L5 at h
              obtain ⟨k3, rfl⟩ : ∃ q, q = s := ⟨_, rfl⟩
              refine aQ (sz tT ⟨[(k120 p), (7, (vI u8)), (8, (vP 25 0)), (10, (vP 34 0)), (k924 u9), (k943 u3), (k944 u0 i2 u7 u4 u5), (15, (vI i4)), (k933 u3), (k947 u0 i2), (k950 v1), (32, (vI k3)), (386, (k105 p k3))], (k926 u9 u0 c3 u2 u1)⟩ {} [] ?_)
              refine bI h (fun hb8 h => ?_) (fun hb8 h => ?_)
              ·refine ct hb8 ?_
               refine aP (aQ (aB (aQ (bE h fun v0 hr_11 h => ?_))))
               refine aO h fun ⟨a1, a2⟩ h => ?_
               have q2 := m_guard_Delay_ok (at' p.links k3.toNat) (at' u3.1 k3.toNat) hr_11
               refine dg tT mX ⟨[(k120 p), (7, (vI u8)), (8, (vP 25 0)), (10, (vP 34 0)), (k924 u9), (k943 u3), (k944 u0 i2 u7 u4 u5), (15, (vI i4)), (k933 u3), (k947 u0 i2), (k950 v1), (32, (vI k3)), (33, (vI v0.1)), (34, (vB v0.2))], (k926 u9 u0 c3 u2 u1)⟩ [_, _, _] { an := [(9, cA q2 [])] } [] ⟨a1, a2, q2, trivial⟩ ?_
               refine aQ (aO h fun ⟨a1, a2, a3, a4, a5⟩ h => ?_)
               refine rg tT ⟨[(k120 p), (7, (vI u8)), (8, (vP 25 0)), (10, (vP 34 0)), (k924 u9), (k943 u3), (k944 u0 i2 u7 u4 u5), (15, (vI i4)), (k933 u3), (k947 u0 i2), (k950 v1), (32, (vI k3)), (443, (vB (bif (k997 p u1 u2 v0 k3 v1) then (decide ((IntKind.wrap .i64 ((at' u9 k3.toNat) + v0.1)) ≤ (k945 u0 i2))) else false)))], (k926 u9 u0 c3 u2 u1)⟩ (eqs v0.2 4 ((gP (k998 p u1 u2 v0 k3 v1) [(1, true)] → All [(0 : Int) ≤ k3 ∧ k3 < (p.links.length : Int)]) :: (eqs v0.2 4 (eqs (k968 p v0 k3) 4 ((gP (k998 p u1 u2 v0 k3 v1) [(10, true)] → All [(0 : Int) ≤ k3 ∧ k3 < (u2.length : Int)]) :: (k970 p v0 k3) :: (gP (k998 p u1 u2 v0 k3 v1) [(10, true)] → All [k3.toNat < u2.length]) :: (k970 p v0 k3) :: (eqs (k967 p u2 v0 k3) 4 ((gP (k998 p u1 u2 v0 k3 v1) [(17, true)] → All [(0 : Int) ≤ k3 ∧ k3 < (u1.badLink.length : Int)]) :: ((k967 p u2 v0 k3) = (k967 p u2 v0 k3)) :: (gP (k998 p u1 u2 v0 k3 v1) [(17, true)] → All [k3.toNat < u1.badLink.length]) :: (eqs (k967 p u2 v0 k3) 2 (eqs (k966 p u1 u2 v0 k3) 3 ((gP (k998 p u1 u2 v0 k3 v1) [(25, true)] → All [(0 : Int) ≤ k3 ∧ k3 < (v1.length : Int)]) :: (eqs (k966 p u1 u2 v0 k3) 3 (eqs (k997 p u1 u2 v0 k3 v1) 3 ((gP (k998 p u1 u2 v0 k3 v1) [(32, true)] → All [(0 : Int) ≤ k3 ∧ k3 < (u9.length : Int)]) :: ((k997 p u1 u2 v0 k3 v1) = (k997 p u1 u2 v0 k3 v1)) :: (gP (k998 p u1 u2 v0 k3 v1) [(32, true)] → All [k3.toNat < u9.length]) :: (eqs (k997 p u1 u2 v0 k3 v1) 5 [])))))))))))))) { yb := [(1, v0.2), (10, (k968 p v0 k3)), (17, (k967 p u2 v0 k3)), (25, (k966 p u1 u2 v0 k3)), (32, (k997 p u1 u2 v0 k3 v1))] } [] (ae ⟨(fun hg => ⟨(a1 (gB_of hg)), trivial⟩), (ae (ae ⟨(fun hg => ⟨(a2 (gB_of hg)), trivial⟩), rfl, (fun hg => ⟨((fun hq => tL (a2 hq)) (gB_of hg)), trivial⟩), rfl, (ae ⟨(fun hg => ⟨(a3 (gB_of hg)), trivial⟩), rfl, (fun hg => ⟨((fun hq => tL (a3 hq)) (gB_of hg)), trivial⟩), (ae (ae ⟨(fun hg => ⟨(a4 (gB_of hg)), trivial⟩), (ae (ae ⟨(fun hg => ⟨(a5 (gB_of hg)), trivial⟩), rfl, (fun hg => ⟨((fun hq => tL (a5 hq)) (gB_of hg)), trivial⟩), (ae trivial)⟩))⟩))⟩)⟩))⟩) ?_
               refine bI h (fun hb7 h => ?_) (fun hb7 h => ?_)
               ·refine ct hb7 ?_
                refine sz tT ⟨[(6, (vB false))], []⟩ {} [] ?_
                refine aR ?_
                obtain rfl := oi h
                exact lR ret_nn (ret_ne 10) av_ret (lR ret_nn (ret_ne 0) av_ret (RetQ.mk (.inr rfl) (p := []) (l := [(sB false)]) (by kernel_rfl) trivial (TLe.refl _) trivial))
               ·refine cf hb7 ?_
                refine aP (rz tT ⟨[(k120 p), (7, (vI u8)), (8, (vP 25 0)), (10, (vP 34 0)), (k924 u9), (k943 u3), (k944 u0 i2 u7 u4 u5), (15, (vI i4)), (k933 u3), (k947 u0 i2), (k950 v1), (k742 k3)], (k926 u9 u0 c3 u2 u1)⟩ {} [] ?_)
                obtain rfl := oi h
                exact lN (by kernel_rfl)
              ·refine cf hb8 ?_
               refine aI (fz (k951 p u8 u9 u3 u7 u4 u0 i2 u5 i4 v1 c3 u2 u1) []) ?_
               refine aX ?_
               obtain rfl := oi h
               exact lB (by kernel_rfl)
             ·clear hy
              cases y4 with
              | brk z =>
               unfold ExK
               refine ⟨_, .refl, ?_⟩
               refine aQ (sz tT ⟨[(k120 p), (7, (vI u8)), (8, (vP 25 0)), (10, (vP 34 0)), (k924 u9), (k943 u3), (k944 u0 i2 u7 u4 u5), (15, (vI i4)), (k947 u0 i2), (k950 v1), (35, (vI 0))], (k926 u9 u0 c3 u2 u1)⟩ {} [] ?_)
               refine bE h fun y5 hy h => ?_
               refine aL [1] (m_law03_GuardHolds_S6 p u8 u0 u1 c3 u5 u7 i2 u3 u4 u9 i4 v1) (m_law03_GuardHolds_B6 p u8 u0 u1 c3 u5 u7 i2 u3 u4 u9 i4) (k935 p u8 u0 u1) hy (fun s f h => ?_) ?_
               ·clear hy
                show AWp _ _ _ _ _ _ ((m_law03_GuardHolds_Q6 p u8 u0 u1 c3 u5 u7 i2 u3 u4 u9 i4 v1) f) _
                unfold m_law03_GuardHolds_L6 at h
                obtain ⟨v5, k4⟩ := s
                refine aQ (sz tT ⟨[(k120 p), (7, (vI u8)), (8, (vP 25 0)), (10, (vP 34 0)), (k924 u9), (k943 u3), (k944 u0 i2 u7 u4 u5), (15, (vI i4)), (k947 u0 i2), (k950 v1), (35, (vI k4)), (448, (k105 p k4))], (k926 u9 u0 c3 v5 u1)⟩ {} [] ?_)
                refine bI h (fun hb9 h => ?_) (fun hb9 h => ?_)
                ·refine ct hb9 ?_
                 refine aP (aQ (aB (aO h fun ⟨a1, a2⟩ h => ?_)))
                 refine di tT mX ⟨(k952 p u8 u9 u3 u7 u4 u0 i2 u5 i4 v1 k4), [(k927 u0), (k928 u0 c3), (26, some (.arr 4 1 v5.length (k999 v1 v5 k4))), (k675 u1), (k676 u1), (k677 u1), (k678 u1), (k679 u1), (k680 u1), (k930 v5 u1), (k931 u9)]⟩ (_ :: _ :: (eqs (at' v5 k4.toNat) 3 ((gP (ybf [(8, (at' v5 k4.toNat))]) [(8, true)] → All [(0 : Int) ≤ k4 ∧ k4 < (v1.length : Int)]) :: (eqs (at' v5 k4.toNat) 3 [_, _, ArrEq v5.length 1 (stEls (elOf boolC v5) k4.toNat 0 [(.bool (k713 v5 k4 v1))]) (k999 v1 v5 k4)])))) { yb := [(8, (at' v5 k4.toNat))], an := [(16, .arr 0 (k999 v1 v5 k4))] } [] ⟨a1, (tL a1), (ae ⟨(fun hg => ⟨(a2 (gB_of hg)), trivial⟩), (ae ⟨a1, (tL a1), (arrEq_set' _ _ _ _ _ _ _ _ rfl (fun j hj => (match j, hj with | 0, _ => rfl))), trivial⟩)⟩)⟩ (Imp.le (st' := ⟨(k952 p u8 u9 u3 u7 u4 u0 i2 u5 i4 v1 k4), (k1001 u0 u1 c3 u9 v1 v5 k4)⟩) ⟨⟨tR, tR, tR, tR, tR, tR, tR, tR, tR, tR, tR, trivial⟩, ⟨rfl, .refl _, ⟨rfl, .refl _, ⟨rfl, oW, ⟨rfl, .refl _, ⟨rfl, .refl _, ⟨rfl, .refl _, ⟨rfl, .refl _, ⟨rfl, .refl _, ⟨rfl, .refl _, ⟨rfl, OLe_cells ⟨cW, CLe.refl _, CLe.refl _, CLe.refl _, CLe.refl _, CLe.refl _, CLe.refl _, trivial⟩, ⟨rfl, .refl _, trivial⟩⟩⟩⟩⟩⟩⟩⟩⟩⟩⟩⟩) ?_
                 refine rz tT ⟨[(k120 p), (7, (vI u8)), (8, (vP 25 0)), (10, (vP 34 0)), (k924 u9), (k943 u3), (k944 u0 i2 u7 u4 u5), (15, (vI i4)), (k947 u0 i2), (k950 v1), (35, (k30 k4))], (k1001 u0 u1 c3 u9 v1 v5 k4)⟩ {} [] ?_
                 obtain rfl := oi h
                 exact lN (by kernel_rfl)
                ·refine cf hb9 ?_
                 refine aI (fz (k953 p u8 u9 u3 u7 u4 u0 i2 u5 i4 c3 v5 u1) []) ?_
                 refine aX ?_
                 obtain rfl := oi h
                 exact lB (by kernel_rfl)
               ·clear hy
                cases y5 with
                | brk z =>
                 obtain ⟨w7, rfl⟩ : ∃ q, q = z := ⟨_, rfl⟩
                 unfold ExK
                 refine ⟨_, .refl, ?_⟩
                 refine rz tT ⟨[(k120 p), (7, (vI u8)), (8, (vP 25 0)), (10, (vP 34 0)), (k924 u9), (k943 u3), (13, (vI (k945 u0 i2))), (k944 u0 i2 u7 u4 u5), (15, (vI i4))], (k926 u9 u0 c3 w7 u1)⟩ {} [] ?_
                 obtain rfl := oi h
                 exact lN (by kernel_rfl)
                | ret v =>
                 obtain rfl := oi h
                 unfold ExK
                 intro e st hn ha hR
                 cases e with
                 | normal => exact absurd rfl hn
                 | exit id => simp only [av_beq (b := 1) ha rfl, cond_false]; exact hR
                 | goto l => exact hR
                 | ret => exact hR
                 | panic c => exact hR
                 | outgrown => exact hR
              | ret v =>
               obtain rfl := oi h
               unfold ExK
               intro e st hn ha hR
               cases e with
               | normal => exact absurd rfl hn
               | exit id => simp only [av_beq (b := 1) ha rfl, cond_false]; exact hR
               | goto l => exact hR
               | ret => exact hR
               | panic c => exact hR
               | outgrown => exact hR
            | ret v =>
             obtain rfl := oi h
             unfold ExK
             intro e st hn ha hR
             cases e with
             | normal => exact absurd rfl hn
             | exit id => simp only [av_beq (b := 1) ha rfl, cond_false]; exact hR
             | goto l => exact hR
             | ret => exact hR
             | panic c => exact hR
             | outgrown => exact hR
        | ret v =>
         obtain rfl := oi h
         unfold ExK
         intro e st hn ha hR
         cases e with
         | normal => exact absurd rfl hn
         | exit id => simp only [av_beq (b := 1) ha rfl, cond_false]; exact hR
         | goto l => exact hR
         | ret => exact hR
         | panic c => exact hR
         | outgrown => exact hR
      | ret v =>
       obtain rfl := oi h
       unfold ExK
       intro e st hn ha hR
       cases e with
       | normal => exact absurd rfl hn
       | exit id => simp only [av_beq (b := 1) ha rfl, cond_false]; exact hR
       | goto l => exact hR
       | ret => exact hR
       | panic c => exact hR
       | outgrown => exact hR
   ·clear hy
    cases y6 with
    | brk z => exact absurd h (by simp)
    | ret v =>
     obtain rfl := oi h
     unfold ExK
     intro e st hn ha hR
     cases e with
     | normal => exact absurd rfl hn
     | exit id => exact hR
     | goto l => exact hR
     | ret => exact hR
     | panic c => exact hR
     | outgrown => exact hR
end
end Sg
