import Derived.Test.YtpndenfhglaikaaW0
namespace Sg
open Go Go.Proofs
set_option maxRecDepth 20000
set_option linter.all false
noncomputable section
theorem m_plant_groups_of_v1_ok (g : Groups_int_) (x : Int) {r : Int} (h : m_plant_groups_of_v1 g x = some r) : Fn Try.prog 117 [(.agg [(.mp 0)]), (sI x)] (k506 g) (vI r) (k506 g) := by
 refine fN tT Try.func117 rfl rfl fun B => ?_
 show AWp _ _ _ _ _ _ ((m_plant_groups_of_v1_R g) r) _
 unfold m_plant_groups_of_v1 at h
 refine sz tT (k508 g x) { fr := [(0, 2)] } [] ?_
 refine bE h fun y hy h => ?_
 refine aL [] (m_plant_groups_of_v1_S0 g) m_plant_groups_of_v1_B0 (m_plant_groups_of_v1_R g) hy (fun s f h => ?_) ?_
 ·clear hy
  show AWp _ _ _ _ _ _ ((m_plant_groups_of_v1_Q0 g) f) _
  unfold m_plant_groups_of_v1_L0 at h
  obtain ⟨x1, rfl⟩ : ∃ q, q = s := ⟨_, rfl⟩
  refine aB (sg tT ⟨[(1, (vI x1)), (2, (vP 2 0)), (5, (vI ((mget eqI x1 g.head).getD 0))), (6, (vB ((mget eqI x1 g.head).isSome)))], (k509 g)⟩ [LookAt [some .i64] 1 1 g.head.length (kOf (intC .i64) g.head) (vOf (intC .i64) g.head) [(.int .i64 x1)] [(.d (.int .i64 0))] (mget eqI x1 g.head).isSome [(cI ((mget eqI x1 g.head).getD 0))]] { an := [(3, .look (mget eqI x1 g.head).isSome [(cI ((mget eqI x1 g.head).getD 0))])] } [] ⟨(lookAt_of (fun _ => rfl) (fun _ _ => rfl) g.head x1 0 rfl rfl rfl), trivial⟩ ?_)
  refine aQ (sz tT ⟨[(1, (vI x1)), (2, (vP 2 0)), (5, (vI ((mget eqI x1 g.head).getD 0))), (15, (vB (!((mget eqI x1 g.head).isSome))))], (k509 g)⟩ {} [] ?_)
  refine bI h (fun hb h => ?_) (fun hb h => ?_)
  ·refine ct hb ?_
   refine sz tT ⟨[(4, (vI x1))], (k506 g)⟩ {} [] ?_
   refine aR ?_
   obtain rfl := oi h
   exact lR ret_nn (ret_ne 0) av_ret (RetQ.mk (.inr rfl) (p := []) (l := [(sI x1)]) (by kernel_rfl) trivial (TLe.refl _) ⟨rfl, .refl _, trivial⟩)
  ·refine cf hb ?_
   refine aP (rz tT ⟨[(1, (vI ((mget eqI x1 g.head).getD 0))), (2, (vP 2 0))], (k509 g)⟩ {} [] ?_)
   obtain rfl := oi h
   exact lN (by kernel_rfl)
 ·clear hy
  cases y with
  | brk z => exact absurd h (by simp)
  | ret v =>
   obtain rfl := oi h
   unfold ExK
   intro e st hn ha hR
   cases e with
   | normal => exact absurd rfl hn
   | exit id => exact hR
   | goto l => exact hR
   | ret => exact hR
   | panic c => exact hR
   | outgrown => exact hR
def m_plant_groups_join_R  : (List (Int × Int)) → Exit → St → Prop :=
  fun r => RetQ TT [] (.tup []) [(0, some (mpD 3 3 false false 1 1 (intC .i64) (intC .i64) r))]
section
variable (a : Int) (b : Int) (g : Groups_int_)
abbrev k510 : St := ⟨[(1, (vI a)), (2, (vI b)), (3, (vP 2 0))], (k509 g)⟩
end
theorem m_plant_groups_join_ok (g : Groups_int_) (a : Int) (b : Int) {r : (List (Int × Int))} (h : m_plant_groups_join g a b = some r) : Fn Try.prog 116 [(.agg [(.mp 0)]), (sI a), (sI b)] (k506 g) (.tup []) [(0, some (mpD 3 3 false false 1 1 (intC .i64) (intC .i64) r))] := by
 refine fN tT Try.func116 rfl rfl fun B => ?_
 show AWp _ _ _ _ _ _ (m_plant_groups_join_R r) _
 unfold m_plant_groups_join at h
 refine sz tT (k510 a b g) { fr := [(0, 2)] } [] ?_
 refine aQ (bE h fun r_ hr_ h => ?_)
 refine bE h fun u0 hr_1 h => ?_
 have q0 := m_plant_groups_of_v1_ok g a hr_
 have q1 := m_plant_groups_of_v1_ok g b hr_1
 refine dg tT mX (k510 r_ u0 g) [_, _] { an := [(2, cR q0 [0]), (5, cR q1 [0])] } [] ⟨q0, q1, trivial⟩ ?_
 refine sz tT ⟨[(1, (vI r_)), (2, (vI u0)), (3, (vP 2 0)), (14, (vB (!decide (r_ = u0))))], (k509 g)⟩ {} [] ?_
 refine bI h (fun hb h => ?_) (fun hb h => ?_)
 ·refine ct hb ?_
  refine rg tT ⟨[], [(0, some (mpD 3 3 false false 1 1 (intC .i64) (intC .i64) (mset eqI r_ u0 g.head)))]⟩ [SetAt [some .i64] 1 1 g.head.length (kOf (intC .i64) g.head) (vOf (intC .i64) g.head) [(.int .i64 r_)] [(cI u0)] [] (mset eqI r_ u0 g.head).length (kOf (intC .i64) (mset eqI r_ u0 g.head)) (vOf (intC .i64) (mset eqI r_ u0 g.head))] { an := [(4, .map (mset eqI r_ u0 g.head).length (kOf (intC .i64) (mset eqI r_ u0 g.head)) (vOf (intC .i64) (mset eqI r_ u0 g.head)) [])] } [] ⟨(setAt_of (fun _ => rfl) (fun _ _ => rfl) g.head r_ u0 rfl rfl), trivial⟩ ?_
  obtain rfl := oi h
  exact RetQ.mk (.inl rfl) (p := []) (l := []) (by kernel_rfl) trivial (TLe.refl _) ⟨rfl, .refl _, trivial⟩
 ·refine cf hb ?_
  refine aI (fz ⟨[], (k506 g)⟩ []) ?_
  refine aP ?_
  obtain rfl := oi h
  exact RetQ.mk (.inl rfl) (p := []) (l := []) (by kernel_rfl) trivial (TLe.refl _) ⟨rfl, .refl _, trivial⟩
abbrev k511 : Nat × Option Ob := (0, some (.loop R_plant_islands_r0 0 [(5, (vP 1 0))]))
abbrev k512 : Nat × Option Ob := (1, some (.cells 215 [(.mp 2)]))
def m_plant_islands_r0_Y_R  : Groups_int_ → Exit → St → Prop :=
  fun r => RoundQ 0 R_plant_islands_r0 (vB true) [k511, k512, (2, some (mpD 3 3 false false 1 1 (intC .i64) (intC .i64) r.head))]
section
variable (o_ : Groups_int_) (u0 : Int) (u1 : Int) (u2 : Int) (u3 : Int) (u4 : Int) (u5 : (List Trip))
abbrev k513 : List (Nat × Option Ob) := [k511, k512, (2, some (k507 o_))]
abbrev k514 : List (Nat × TV) := [(5, (vP 1 0)), (6, (vD (ipT [(.int .i64 u0), (.int .i64 u1), (.int .i64 u2), (.int .i64 u3), (.int .i64 u4), (slD none 2 Trip.cell u5)] 0)))]
end
theorem m_plant_islands_r0_Y_ok (u0 : Int) (u1 : Int) (u2 : Int) (u3 : Int) (u4 : Int) (u5 : (List Trip)) (o_ : Groups_int_) {r : Groups_int_} (h : m_plant_islands_r0_Y u0 u1 u2 u3 u4 u5 o_ = some r) : Yl Try.prog 0 [(.agg [(cI u0), (cI u1), (cI u2), (cI u3), (cI u4), (.d (slD none 2 Trip.cell u5))])] (k513 o_) (vB true) [k511, k512, (2, some (mpD 3 3 false false 1 1 (intC .i64) (intC .i64) r.head))] := by
 refine yl_intro (r := R_plant_islands_r0) (sl := [(5, (vP 1 0))]) (sl1 := (k514 u0 u1 u2 u3 u4 u5)) (h1 := (k513 o_)) (sl2 := [(5, (vP 1 0))]) (by kernel_rfl) rfl rfl (by kernel_rfl) (fun rd B => ?_) (by kernel_rfl) (fun rd B => ?_)
 ·refine awp_code (c := cAt ([1, 1, 0, 1, 0] ++ [0]) (bodyOf Try.f70)) rfl ?_
  refine awp_start (st := ⟨[(22, (.v (.agg [(cI u0), (cI u1), (cI u2), (cI u3), (cI u4), (.d (slD none 2 Trip.cell u5))]))), (5, (vP 1 0))], (k513 o_)⟩) (by kernel_rfl) ?_
  refine rz tT ⟨(k514 u0 u1 u2 u3 u4 u5), (k513 o_)⟩ { fr := [(0, 4)] } [4] ?_
  exact ⟨rfl, rfl⟩
 ·refine awp_code (c := cAt ([1, 1, 0, 1, 0] ++ [1]) (bodyOf Try.f70)) rfl ?_
  refine awp_start (st := ⟨(k514 u0 u1 u2 u3 u4 u5), [(0, some (.loop R_plant_islands_r0 1 [(5, (vP 1 0))])), k512, (2, some (k507 o_))]⟩) (by kernel_rfl) ?_
  show AWp _ _ _ _ _ _ (m_plant_islands_r0_Y_R r) _
  unfold m_plant_islands_r0_Y at h
  refine aB (bE h fun r_ hr_ h => ?_)
  have q0 := rk [(0, 2)] (m_plant_groups_join_ok o_ u0 u1 hr_)
  refine rg tT ⟨[], [(0, some (.loop R_plant_islands_r0 1 [(5, (vP 1 0))])), k512, (k296 r_)]⟩ [_] { an := [(5, cA q0 [2])] } [] ⟨q0, trivial⟩ ?_
  obtain rfl := oi h
  exact RoundQ.on (sl := [(5, (vP 1 0))]) (by kernel_rfl) (hpLe_of (by kernel_rfl)) (TLe.refl _)
def m_guard_Lost_1_R  : Bool → Exit → St → Prop :=
  fun r => RetQ TT [.tmp 2] (vB r) []
theorem m_guard_Lost_1_ok (x : Arr2Bool) {r : Bool} (h : m_guard_Lost_1 x = some r) : Fn Try.prog 105 [(.agg [(cB x.e0), (cB x.e1)])] [] (vB r) [] := by
 refine fN tT Try.func105 rfl rfl fun B => ?_
 show AWp _ _ _ _ _ _ (m_guard_Lost_1_R r) _
 unfold m_guard_Lost_1 at h
 refine sz tT ⟨[(1, (vD (ipT [(.bool x.e0), (.bool x.e1)] 0)))], []⟩ { fr := [(0, 1)] } [1] ?_
 refine sg tT ⟨[(2, (vB (bif x.e0 then true else x.e1)))], []⟩ (((0 : Int) ≤ 0 ∧ (0 : Int) < (2 : Nat)) :: (x.e0 = x.e0) :: (gP (ybf [(2, x.e0)]) [(2, false)] → All [(0 : Int) ≤ 1 ∧ (1 : Int) < (2 : Nat)]) :: (eqs x.e0 2 [])) { yb := [(2, x.e0)] } [] ⟨((by decide)), rfl, (fun hg => ⟨((by decide)), trivial⟩), (ae trivial)⟩ ?_
 refine aR ?_
 obtain rfl := oi h
 exact rq [(sB (bif x.e0 then true else x.e1))] (.refl _)
def m_law03_example_v1_R  : (Plant × State) → Exit → St → Prop :=
  fun r => RetQ TT [.cell 0 26, .cell 1 29] (.tup [(.agg [(cI r.1.buses), (.own 0 true r.1.sources.length), (.own 1 true r.1.links.length), (.own 2 true r.1.racks.length)]), (.agg [(.own 3 true r.2.closed.length), (.own 4 true r.2.locked.length), (.own 5 true r.2.badLink.length), (.own 6 true r.2.on_.length), (.own 7 true r.2.badSource.length), (.own 8 true r.2.earthed.length), (.own 9 true r.2.badBus.length)])]) [(0, some (arD 126 5 Source.cell r.1.sources)), (1, some (arD 53 6 Link.cell r.1.links)), (2, some (arD 166 4 Rack.cell r.1.racks)), (3, some (arD 4 1 boolC r.2.closed)), (4, some (arD 4 1 boolC r.2.locked)), (5, some (arD 4 1 boolC r.2.badLink)), (6, some (arD 4 1 boolC r.2.on_)), (7, some (arD 4 1 boolC r.2.badSource)), (8, some (arD 4 1 boolC r.2.earthed)), (9, some (arD 4 1 boolC r.2.badBus)), (10, none), (11, none)]
abbrev k515 : Nat × Option Ob := (21, some (.cells 26 [(cI 0), (.d nS), (.d nS), (.d nS)]))
abbrev k516 : Nat × Option Ob := (22, some k114)
abbrev k517 : Nat × Option Ob := (23, some (arD 126 5 Source.cell [(⟨0, 1, 500, 0, 20⟩ : Source)]))
abbrev k518 : List DV := [(.int .i64 0), (.int .i64 1), (.int .i64 3), (.int .i64 400), (.int .i64 10), (slD (some true) 2 Trip.cell [(⟨1000, 400⟩ : Trip), (⟨10000, 100⟩ : Trip)]), (.int .i64 1), (.int .i64 2), (.int .i64 3), (.int .i64 400), (.int .i64 10), (slD (some true) 2 Trip.cell [(⟨1000, 50⟩ : Trip)])]
abbrev k520 : Ob := (arD 166 4 Rack.cell [(⟨(⟨2, (-1)⟩ : Arr2Int), 100, 1⟩ : Rack), (⟨(⟨1, 2⟩ : Arr2Int), 100, 0⟩ : Rack)])
abbrev k519 : Nat × Option Ob := (27, some k520)
abbrev k522 : Ob := (.cells 26 [(cI 3), (.own 23 true ([(⟨0, 1, 500, 0, 20⟩ : Source)].length)), (.own 26 true ([(⟨0, 1, 3, 400, 10, [(⟨1000, 400⟩ : Trip), (⟨10000, 100⟩ : Trip)]⟩ : Link), (⟨1, 2, 3, 400, 10, [(⟨1000, 50⟩ : Trip)]⟩ : Link)].length)), (.own 27 true ([(⟨(⟨2, (-1)⟩ : Arr2Int), 100, 1⟩ : Rack), (⟨(⟨1, 2⟩ : Arr2Int), 100, 0⟩ : Rack)].length))])
abbrev k521 : Nat × Option Ob := (28, some k522)
abbrev k524 : Ob := (arD 53 6 Link.cell [(⟨0, 1, 3, 400, 10, [(⟨1000, 400⟩ : Trip), (⟨10000, 100⟩ : Trip)]⟩ : Link), (⟨1, 2, 3, 400, 10, [(⟨1000, 50⟩ : Trip)]⟩ : Link)])
abbrev k523 : Nat × Option Ob := (26, some k524)
abbrev k525 : Ob := (arD 4 1 boolC (List.replicate 2 (false : Bool)))
abbrev k526 : Ob := (arD 4 1 boolC (List.replicate 3 (false : Bool)))
abbrev k527 : List CV := [(cI 3), (.own 0 true ([(⟨0, 1, 500, 0, 20⟩ : Source)].length)), (.own 1 true ([(⟨0, 1, 3, 400, 10, [(⟨1000, 400⟩ : Trip), (⟨10000, 100⟩ : Trip)]⟩ : Link), (⟨1, 2, 3, 400, 10, [(⟨1000, 50⟩ : Trip)]⟩ : Link)].length)), (.own 2 true ([(⟨(⟨2, (-1)⟩ : Arr2Int), 100, 1⟩ : Rack), (⟨(⟨1, 2⟩ : Arr2Int), 100, 0⟩ : Rack)].length))]
abbrev k528 : List CV := [(.own 3 true ([true, true].length)), (.own 4 true ((List.replicate 2 (false : Bool)).length)), (.own 5 true ((List.replicate 2 (false : Bool)).length)), (.own 6 true ([true].length)), (.own 7 true ((List.replicate 1 (false : Bool)).length)), (.own 8 true ((List.replicate 3 (false : Bool)).length)), (.own 9 true ((List.replicate 3 (false : Bool)).length))]
theorem m_law03_example_v1_ok  {r : (Plant × State)} (h : m_law03_example = some r) : Fn Try.prog 59 [] [] (.tup [(.agg [(cI r.1.buses), (.own 0 true r.1.sources.length), (.own 1 true r.1.links.length), (.own 2 true r.1.racks.length)]), (.agg [(.own 3 true r.2.closed.length), (.own 4 true r.2.locked.length), (.own 5 true r.2.badLink.length), (.own 6 true r.2.on_.length), (.own 7 true r.2.badSource.length), (.own 8 true r.2.earthed.length), (.own 9 true r.2.badBus.length)])]) [(0, some (arD 126 5 Source.cell r.1.sources)), (1, some (arD 53 6 Link.cell r.1.links)), (2, some (arD 166 4 Rack.cell r.1.racks)), (3, some (arD 4 1 boolC r.2.closed)), (4, some (arD 4 1 boolC r.2.locked)), (5, some (arD 4 1 boolC r.2.badLink)), (6, some (arD 4 1 boolC r.2.on_)), (7, some (arD 4 1 boolC r.2.badSource)), (8, some (arD 4 1 boolC r.2.earthed)), (9, some (arD 4 1 boolC r.2.badBus)), (10, none), (11, none)] := by
 refine fN tT Try.func59 rfl rfl fun B => ?_
 show AWp _ _ _ _ _ _ (m_law03_example_v1_R r) _
 unfold m_law03_example at h
 refine sz tT ⟨[(0, (vP 21 0)), (1, (vP 22 0))], [k515, k516]⟩ { fr := [(0, 21), (1, 22)] } [] ?_
 refine si tT ⟨[(0, (vP 21 0)), (1, (vP 22 0)), (2, (vP 28 0))], [k515, k516, k517, (26, some (.arr 53 6 [(⟨0, 1, 3, 400, 10, [(⟨1000, 400⟩ : Trip), (⟨10000, 100⟩ : Trip)]⟩ : Link), (⟨1, 2, 3, 400, 10, [(⟨1000, 50⟩ : Trip)]⟩ : Link)].length (elL 6 k518))), k519, k521]⟩ [[(⟨0, 1, 500, 0, 20⟩ : Source)].length = 1, ArrEq 1 5 (elL 5 [(.int .i64 0), (.int .i64 1), (.int .i64 500), (.int .i64 0), (.int .i64 20)]) (elOf Source.cell [(⟨0, 1, 500, 0, 20⟩ : Source)]), [(⟨1000, 400⟩ : Trip), (⟨10000, 100⟩ : Trip)].length = 2, ArrEq 2 2 (elL 2 [(.int .i64 1000), (.int .i64 400), (.int .i64 10000), (.int .i64 100)]) (elOf Trip.cell [(⟨1000, 400⟩ : Trip), (⟨10000, 100⟩ : Trip)]), [(⟨1000, 50⟩ : Trip)].length = 1, ArrEq 1 2 (elL 2 [(.int .i64 1000), (.int .i64 50)]) (elOf Trip.cell [(⟨1000, 50⟩ : Trip)]), [(⟨0, 1, 3, 400, 10, [(⟨1000, 400⟩ : Trip), (⟨10000, 100⟩ : Trip)]⟩ : Link), (⟨1, 2, 3, 400, 10, [(⟨1000, 50⟩ : Trip)]⟩ : Link)].length = 2, ArrEq 2 6 (elL 6 k518) (elL 6 k518), [(⟨(⟨2, (-1)⟩ : Arr2Int), 100, 1⟩ : Rack), (⟨(⟨1, 2⟩ : Arr2Int), 100, 0⟩ : Rack)].length = 2, ArrEq 2 4 (elL 4 [(.int .i64 2), (.int .i64 (-1)), (.int .i64 100), (.int .i64 1), (.int .i64 1), (.int .i64 2), (.int .i64 100), (.int .i64 0)]) (elOf Rack.cell [(⟨(⟨2, (-1)⟩ : Arr2Int), 100, 1⟩ : Rack), (⟨(⟨1, 2⟩ : Arr2Int), 100, 0⟩ : Rack)])] { an := [(1, .arr [(⟨0, 1, 500, 0, 20⟩ : Source)].length (elOf Source.cell [(⟨0, 1, 500, 0, 20⟩ : Source)])), (4, .frz [(⟨1000, 400⟩ : Trip), (⟨10000, 100⟩ : Trip)].length (elOf Trip.cell [(⟨1000, 400⟩ : Trip), (⟨10000, 100⟩ : Trip)])), (7, .frz [(⟨1000, 50⟩ : Trip)].length (elOf Trip.cell [(⟨1000, 50⟩ : Trip)])), (9, .arr [(⟨0, 1, 3, 400, 10, [(⟨1000, 400⟩ : Trip), (⟨10000, 100⟩ : Trip)]⟩ : Link), (⟨1, 2, 3, 400, 10, [(⟨1000, 50⟩ : Trip)]⟩ : Link)].length (elL 6 k518)), (14, .arr [(⟨(⟨2, (-1)⟩ : Arr2Int), 100, 1⟩ : Rack), (⟨(⟨1, 2⟩ : Arr2Int), 100, 0⟩ : Rack)].length (elOf Rack.cell [(⟨(⟨2, (-1)⟩ : Arr2Int), 100, 1⟩ : Rack), (⟨(⟨1, 2⟩ : Arr2Int), 100, 0⟩ : Rack)]))], fr := [(1, 23), (9, 26), (14, 27), (16, 28)] } [] ⟨(rfl), ((by intro i hi j hj; match i, j, hi, hj with | 0, 0, _, _ => rfl | 0, 1, _, _ => rfl | 0, 2, _, _ => rfl | 0, 3, _, _ => rfl | 0, 4, _, _ => rfl)), (rfl), ((by intro i hi j hj; match i, j, hi, hj with | 0, 0, _, _ => rfl | 0, 1, _, _ => rfl | 1, 0, _, _ => rfl | 1, 1, _, _ => rfl)), (rfl), ((by intro i hi j hj; match i, j, hi, hj with | 0, 0, _, _ => rfl | 0, 1, _, _ => rfl)), (rfl), (arrEq_refl _ _ _), (rfl), ((by intro i hi j hj; match i, j, hi, hj with | 0, 0, _, _ => rfl | 0, 1, _, _ => rfl | 0, 2, _, _ => rfl | 0, 3, _, _ => rfl | 1, 0, _, _ => rfl | 1, 1, _, _ => rfl | 1, 2, _, _ => rfl | 1, 3, _, _ => rfl)), trivial⟩ (Imp.le (st' := ⟨[(0, (vP 21 0)), (1, (vP 22 0)), (2, (vP 28 0))], [k515, k516, k517, k523, k519, k521]⟩) ⟨⟨tR, tR, tR, trivial⟩, ⟨rfl, .refl _, ⟨rfl, .refl _, ⟨rfl, .refl _, ⟨rfl, OLe_arr (by intro i hi j hj; match i, j, hi, hj with | 0, 0, _, _ => exact .refl _ | 0, 1, _, _ => exact .refl _ | 0, 2, _, _ => exact .refl _ | 0, 3, _, _ => exact .refl _ | 0, 4, _, _ => exact .refl _ | 0, 5, _, _ => exact DLe.nn' | 1, 0, _, _ => exact .refl _ | 1, 1, _, _ => exact .refl _ | 1, 2, _, _ => exact .refl _ | 1, 3, _, _ => exact .refl _ | 1, 4, _, _ => exact .refl _ | 1, 5, _, _ => exact DLe.nn'), ⟨rfl, .refl _, ⟨rfl, .refl _, trivial⟩⟩⟩⟩⟩⟩⟩) ?_
 refine aQ (aO h fun ⟨a1, a2, a3, a4, a5, a6, a7, a8, a9⟩ h => ?_)
 refine dg tT mX ⟨[(0, (vP 21 0)), (1, (vP 22 0))], [(21, some k522), (22, some (.cells 29 [(.own 29 true ([true, true].length)), (.own 30 true ((List.replicate 2 (false : Bool)).length)), (.own 31 true ((List.replicate 2 (false : Bool)).length)), (.own 32 true ([true].length)), (.own 33 true ((List.replicate 1 (false : Bool)).length)), (.own 34 true ((List.replicate 3 (false : Bool)).length)), (.own 35 true ((List.replicate 3 (false : Bool)).length))])), k517, k523, k519, (29, some (arD 4 1 boolC [true, true])), (30, some k525), (31, some k525), (32, some (arD 4 1 boolC [true])), (33, some (arD 4 1 boolC (List.replicate 1 (false : Bool)))), (34, some k526), (35, some k526)]⟩ [[true, true].length = 2, ArrEq 2 1 (elL 1 [(.bool true), (.bool true)]) (elOf boolC [true, true]), _, (2 : Int) = 2, _, _, (List.replicate 2 (false : Bool)).length = 2, ArrEq 2 1 (fun _ j => [(.bool false)].getD j .nilp) (elOf boolC (List.replicate 2 (false : Bool))), _, (2 : Int) = 2, _, _, (List.replicate 2 (false : Bool)).length = 2, ArrEq 2 1 (fun _ j => [(.bool false)].getD j .nilp) (elOf boolC (List.replicate 2 (false : Bool))), [true].length = 1, ArrEq 1 1 (elL 1 [(.bool true)]) (elOf boolC [true]), _, (1 : Int) = 1, _, _, (List.replicate 1 (false : Bool)).length = 1, ArrEq 1 1 (fun _ j => [(.bool false)].getD j .nilp) (elOf boolC (List.replicate 1 (false : Bool))), _, (3 : Int) = 3, _, _, (List.replicate 3 (false : Bool)).length = 3, ArrEq 3 1 (fun _ j => [(.bool false)].getD j .nilp) (elOf boolC (List.replicate 3 (false : Bool))), _, (3 : Int) = 3, _, _, (List.replicate 3 (false : Bool)).length = 3, ArrEq 3 1 (fun _ j => [(.bool false)].getD j .nilp) (elOf boolC (List.replicate 3 (false : Bool)))] { an := [(1, .arr [true, true].length (elOf boolC [true, true])), (2, .arr (List.replicate 2 (false : Bool)).length (elOf boolC (List.replicate 2 (false : Bool)))), (3, .arr (List.replicate 2 (false : Bool)).length (elOf boolC (List.replicate 2 (false : Bool)))), (4, .arr [true].length (elOf boolC [true])), (5, .arr (List.replicate 1 (false : Bool)).length (elOf boolC (List.replicate 1 (false : Bool)))), (6, .arr (List.replicate 3 (false : Bool)).length (elOf boolC (List.replicate 3 (false : Bool)))), (7, .arr (List.replicate 3 (false : Bool)).length (elOf boolC (List.replicate 3 (false : Bool))))], fr := [(1, 29), (2, 30), (3, 31), (4, 32), (5, 33), (6, 34), (7, 35)] } [] ⟨(rfl), ((by intro i hi j hj; match i, j, hi, hj with | 0, 0, _, _ => rfl | 1, 0, _, _ => rfl)), a1, rfl, a2, a3, (List.length_replicate), (arrEq_rep _ _ _ _ _ (fun j hj => (match j, hj with | 0, _ => rfl))), a1, rfl, a2, a3, (List.length_replicate), (arrEq_rep _ _ _ _ _ (fun j hj => (match j, hj with | 0, _ => rfl))), (rfl), ((by intro i hi j hj; match i, j, hi, hj with | 0, 0, _, _ => rfl)), a4, rfl, a5, a6, (List.length_replicate), (arrEq_rep _ _ _ _ _ (fun j hj => (match j, hj with | 0, _ => rfl))), a7, rfl, a8, a9, (List.length_replicate), (arrEq_rep _ _ _ _ _ (fun j hj => (match j, hj with | 0, _ => rfl))), a7, rfl, a8, a9, (List.length_replicate), (arrEq_rep _ _ _ _ _ (fun j hj => (match j, hj with | 0, _ => rfl))), trivial⟩ ?_
 refine aI (Imp.fin (st' := ⟨[(0, (vP 10 0)), (1, (vP 11 0))], [(0, some (arD 126 5 Source.cell [(⟨0, 1, 500, 0, 20⟩ : Source)])), (1, some k524), (2, some k520), (3, some (arD 4 1 boolC [true, true])), (4, some k525), (5, some k525), (6, some (arD 4 1 boolC [true])), (7, some (arD 4 1 boolC (List.replicate 1 (false : Bool)))), (8, some k526), (9, some k526), (10, some (.cells 26 k527)), (11, some (.cells 29 k528))]⟩) (cs := []) ⟨[], [(23, 0), (26, 1), (27, 2), (29, 3), (30, 4), (31, 5), (32, 6), (33, 7), (34, 8), (35, 9), (21, 10), (22, 11)]⟩ [0, 1] (by kernel_rfl) trivial) ?_
 refine aR ?_
 obtain rfl := oi h
 exact rh [(.agg k527), (.agg k528)] (.refl _) ⟨rfl, .refl _, ⟨rfl, .refl _, ⟨rfl, .refl _, ⟨rfl, .refl _, ⟨rfl, .refl _, ⟨rfl, .refl _, ⟨rfl, .refl _, ⟨rfl, .refl _, ⟨rfl, .refl _, ⟨rfl, .refl _, ⟨rfl, trivial, ⟨rfl, trivial, trivial⟩⟩⟩⟩⟩⟩⟩⟩⟩⟩⟩⟩
section
variable (p : Plant)
abbrev k529 : Nat × Option Ob := (0, some (arD 126 5 Source.cell p.sources))
abbrev k530 : Nat × Option Ob := (1, some (arD 53 6 Link.cell p.links))
abbrev k531 : Nat × Option Ob := (2, some (arD 166 4 Rack.cell p.racks))
end
def m_flow_ways_v2_R (p : Plant) : (List Way) → Exit → St → Prop :=
  fun r => RetQ TT [.tmp 6] (vO 3 true r.length) [(k529 p), (k530 p), (k531 p), (3, some (arD 141 3 Way.cell r))]
section
variable (u0 : (List Way)) (p : Plant) (s_ : State) (u1 : Bool)
abbrev k533 : Nat × TV := (8, (vO 408 true u0.length))
abbrev k537 : List CV := [(cI p.buses), (.own 0 true p.sources.length), (.own 1 true p.links.length), (.own 2 true p.racks.length)]
abbrev k536 : Ob := (.cells 26 (k537 p))
abbrev k535 : Nat × Option Ob := (406, some (k536 p))
abbrev k534 : List (Nat × Option Ob) := [(k529 p), (k530 p), (k531 p), (k535 p), (408, some (arD 141 3 Way.cell u0))]
abbrev k532 : St := ⟨[(3, (vP 406 0)), (k121 s_), k148, (k533 u0), (9, (vB u1))], (k534 u0 p)⟩
end
def m_flow_ways_v2_S0 (p : Plant) (s_ : State) : ((List Way) × Bool) → St :=
  fun zz => match zz with | (u0, u1) => (k532 u0 p s_ u1)
section
variable (p : Plant) (u0 : (List Way))
abbrev k539 : List (Nat × Option Ob) := [(k529 p), (k530 p), (k531 p), (408, some (arD 141 3 Way.cell u0))]
abbrev k538 : St := ⟨[(k533 u0)], (k539 p u0)⟩
end
def m_flow_ways_v2_B0 (p : Plant) : (List Way) → St :=
  fun u0 => (k538 p u0)
def m_flow_ways_v2_Q0 (p : Plant) (s_ : State) : (Flow ((List Way) × Bool) (Ex (List Way) (List Way))) → Exit → St → Prop :=
  LQ 0 [] (m_flow_ways_v2_S0 p s_) (m_flow_ways_v2_B0 p) (m_flow_ways_v2_R p)
section
variable (p : Plant) (s_ : State) (u0 : (List Way)) (u1 : Bool) (u2 : Int)
abbrev k541 : Nat × TV := (26, (vO 1 true p.links.length))
abbrev k540 : St := ⟨[(3, (vP 406 0)), (k121 s_), k148, (k533 u0), (9, (vB u1)), (k541 p), (k154 p), (28, (vI u2))], (k534 u0 p)⟩
end
def m_flow_ways_v2_S1 (p : Plant) (s_ : State) : ((List Way) × Bool × Int) → St :=
  fun zz => match zz with | (u0, u1, u2) => (k540 p s_ u0 u1 u2)
def m_flow_ways_v2_B1 (p : Plant) (s_ : State) : ((List Way) × Bool) → St :=
  fun zz => match zz with | (u0, u1) => (k532 u0 p s_ u1)
def m_flow_ways_v2_Q1 (p : Plant) (s_ : State) : (Flow ((List Way) × Bool × Int) (Ex ((List Way) × Bool) (Flow ((List Way) × Bool) (Ex (List Way) (List Way))))) → Exit → St → Prop :=
  LQ 2 [1] (m_flow_ways_v2_S1 p s_) (m_flow_ways_v2_B1 p s_) (m_flow_ways_v2_Q0 p s_)
def m_flow_ways_v2_S2 (p : Plant) (s_ : State) (u0 : Int) : ((List Way) × Bool × Int) → St :=
  fun zz => match zz with | (u1, u2, u3) => ⟨[(3, (vP 406 0)), (k121 s_), k148, (k533 u1), (9, (vB u2)), (10, (vI u0)), (k106 p u0), (k541 p), (k154 p), (28, (vI u0)), (k155 p u0), (49, (vI u3))], (k534 u1 p)⟩
def m_flow_ways_v2_B2 (p : Plant) (s_ : State) (u1 : Int) : ((List Way) × Bool) → St :=
  fun zz => match zz with | (u0, u2) => (k540 p s_ u0 u2 u1)
def m_flow_ways_v2_Q2 (p : Plant) (s_ : State) (u0 : Int) : (Flow ((List Way) × Bool × Int) (Ex ((List Way) × Bool) (Flow ((List Way) × Bool × Int) (Ex ((List Way) × Bool) (Flow ((List Way) × Bool) (Ex (List Way) (List Way))))))) → Exit → St → Prop :=
  LQ 4 [3] (m_flow_ways_v2_S2 p s_ u0) (m_flow_ways_v2_B2 p s_ u0) (m_flow_ways_v2_Q1 p s_)
section
variable (p : Plant) (s_ : State) (u3 : Int) (u0 : Int) (u5 : (List Way)) (u8 : Bool) (u2 : (List Way)) (u6 : Bool) (u1 : Int) (u4 : (List Int))
abbrev k542 : List SV := [(.agg (k537 p)), (.agg (k98 s_)), (sI u3)]
abbrev k543 : List (Nat × Option Ob) := [(k529 p), (k530 p), (k531 p)]
abbrev k544 : List (Nat × Option Ob) := [(k529 p), (k530 p), (k531 p), (k535 p)]
abbrev k546 : Nat × TV := (8, (vO 408 true (k160 p)))
abbrev k545 : List (Nat × TV) := [(2, (vI u3)), (3, (vP 406 0)), (k121 s_), k148, (k546 p)]
abbrev k547 : Nat × TV := (8, (vO 408 true (k167 p u3)))
abbrev k548 : List (Nat × Option Ob) := [(k529 p), (k530 p), (k531 p), (k535 p), (408, some (k169 p u3))]
abbrev k550 : List CV := [(cI p.buses), (.d (slD (some true) 5 Source.cell p.sources)), (.d (slD (some true) 6 Link.cell p.links)), (.d (slD (some true) 4 Rack.cell p.racks))]
abbrev k549 : List SV := [(.agg (k550 p)), (.agg (k98 s_)), (sI u0)]
abbrev k551 : St := ⟨[(3, (vP 406 0)), (k121 s_), k148, (k533 u5), (9, (vB u8)), (k541 p), (k154 p), (28, (k30 u0))], (k534 u5 p)⟩
abbrev k552 : St := ⟨[(3, (vP 406 0)), (k121 s_), k148, (k533 u2), (9, (vB u6)), (10, (vI u0)), (k106 p u0), (k541 p), (k154 p), (28, (vI u0)), (k155 p u0), (k186 u1)], (k534 u2 p)⟩
abbrev k553 : Nat × TV := (8, (vO 408 true (k201 p u0 u1 u2 u4)))
abbrev k554 : List (Nat × Option Ob) := [(k529 p), (k530 p), (k531 p), (k535 p), (408, some (k203 p u0 u1 u2 u4))]
end
theorem m_flow_ways_v2_ok (p : Plant) (s_ : State) (u3 : Int) {r : (List Way)} (h : m_flow_ways p s_ u3 = some r) : Fn Try.prog 66 (k542 p s_ u3) (k543 p) (vO 3 true r.length) [(k529 p), (k530 p), (k531 p), (3, some (arD 141 3 Way.cell r))] := by
 refine fN tT Try.func66 rfl rfl fun B => ?_
 show AWp _ _ _ _ _ _ ((m_flow_ways_v2_R p) r) _
 unfold m_flow_ways at h
 refine sz tT ⟨[(2, (vI u3)), (3, (vP 406 0)), (k121 s_)], (k544 p)⟩ { fr := [(0, 406), (1, 407)] } [407] ?_
 refine sz tT ⟨[(2, (vI u3)), (3, (vP 406 0)), (k121 s_), k148], (k544 p)⟩ {} [] ?_
 refine aQ (aO h fun ⟨a1, a2, a3⟩ h => ?_)
 refine ri tT ⟨(k545 p s_ u3), [(k529 p), (k530 p), (k531 p), (k535 p), (408, some (.arr 141 3 (k161 p).length (fun _ j => [(.bool false), (.int .i64 0), nS].getD j .nilp)))]⟩ [_, (p.buses : Int) = p.buses, _, _, (k161 p).length = p.buses.toNat, ArrEq p.buses.toNat 3 (fun _ j => [(.bool false), (.int .i64 0), nS].getD j .nilp) (fun _ j => [(.bool false), (.int .i64 0), nS].getD j .nilp)] { an := [(2, .arr (k161 p).length (fun _ j => [(.bool false), (.int .i64 0), nS].getD j .nilp))], fr := [(2, 408)] } [] ⟨a1, rfl, a2, a3, (List.length_replicate), (arrEq_refl _ _ _), trivial⟩ (Imp.le (st' := ⟨(k545 p s_ u3), [(k529 p), (k530 p), (k531 p), (k535 p), (408, some (k162 p))]⟩) ⟨⟨tR, tR, tR, tR, tR, trivial⟩, ⟨rfl, .refl _, ⟨rfl, .refl _, ⟨rfl, .refl _, ⟨rfl, .refl _, ⟨rfl, OLe_arr (repLe _ _ _ _ _ (fun j hj => match j, hj with | 0, _ => .refl _ | 1, _ => .refl _ | 2, _ => DLe.nil')), trivial⟩⟩⟩⟩⟩⟩) ?_
 refine aQ (aO h fun a1 h => ?_)
 refine ri tT ⟨[(3, (vP 406 0)), (k121 s_), k148, (k546 p)], [(k529 p), (k530 p), (k531 p), (k535 p), (408, some (.arr 141 3 (k161 p).length (k163 p u3)))]⟩ [_, _, ArrEq (k161 p).length 3 (k165 p u3) (k163 p u3)] { an := [(4, .arr 0 (k163 p u3))] } [] ⟨a1, (tL a1), (arrEq_set' _ _ _ _ _ _ _ _ rfl (fun j hj => (match j, hj with | 0, _ => rfl | 1, _ => rfl | 2, _ => rfl))), trivial⟩ (Imp.le (st' := ⟨[(3, (vP 406 0)), (k121 s_), k148, (k547 p u3)], (k548 p u3)⟩) ⟨⟨tR, tR, tR, ⟨_, rfl, TLe.v (SLe.one cW)⟩, trivial⟩, ⟨rfl, .refl _, ⟨rfl, .refl _, ⟨rfl, .refl _, ⟨rfl, .refl _, ⟨rfl, oW, trivial⟩⟩⟩⟩⟩⟩) ?_
 refine aQ (sz tT ⟨[(3, (vP 406 0)), (k121 s_), k148, (k547 p u3), (9, (vB true))], (k548 p u3)⟩ {} [] ?_)
 refine bE h fun y2 hy h => ?_
 refine aL [] (m_flow_ways_v2_S0 p s_) (m_flow_ways_v2_B0 p) (m_flow_ways_v2_R p) hy (fun s f h => ?_) ?_
 ·clear hy
  show AWp _ _ _ _ _ _ ((m_flow_ways_v2_Q0 p s_) f) _
  unfold m_flow_ways_L0 at h
  obtain ⟨u7, v1⟩ := s
  refine aQ (sz tT ⟨[(3, (vP 406 0)), (k121 s_), k148, (k533 u7), (24, (vB v1))], (k534 u7 p)⟩ {} [] ?_)
  refine bI h (fun hb5 h => ?_) (fun hb5 h => ?_)
  ·refine ct hb5 ?_
   refine aP (aB (sz tT ⟨[(3, (vP 406 0)), (k121 s_), k148, (k533 u7), (9, (vB false))], (k534 u7 p)⟩ {} [] ?_))
   refine sz tT ⟨[(3, (vP 406 0)), (k121 s_), k148, (k533 u7), (9, (vB false)), (k541 p), (k154 p), (28, (vI 0))], (k534 u7 p)⟩ {} [] ?_
   refine bE h fun y1 hy h => ?_
   refine aL [1] (m_flow_ways_v2_S1 p s_) (m_flow_ways_v2_B1 p s_) (m_flow_ways_v2_Q0 p s_) hy (fun s f h => ?_) ?_
   ·clear hy
    show AWp _ _ _ _ _ _ ((m_flow_ways_v2_Q1 p s_) f) _
    unfold m_flow_ways_L1 at h
    obtain ⟨u5, u8, u0⟩ := s
    refine sz tT ⟨[(3, (vP 406 0)), (k121 s_), k148, (k533 u5), (9, (vB u8)), (k541 p), (k154 p), (28, (vI u0)), (29, (k105 p u0))], (k534 u5 p)⟩ {} [] ?_
    refine aQ ?_
    refine bI h (fun hb4 h => ?_) (fun hb4 h => ?_)
    ·refine ct hb4 ?_
     refine aP (aQ (aB (aQ (aO h fun a1 h => ?_))))
     refine rg tT ⟨[(3, (vP 406 0)), (k121 s_), k148, (k533 u5), (9, (vB u8)), (10, (vI u0)), (k106 p u0), (k541 p), (k154 p), (28, (vI u0))], (k534 u5 p)⟩ [_, _] { fr := [(3, 784)] } [784] ⟨a1, (tL a1), trivial⟩ ?_
     refine aQ (aQ (bE h fun r_ hr_ h => ?_))
     refine rg tT ⟨[(3, (vP 406 0)), (k121 s_), k148, (k533 u5), (9, (vB u8)), (10, (vI u0)), (k106 p u0), (k541 p), (k154 p), (28, (vI u0)), (37, (vB (!r_)))], (k534 u5 p)⟩ [Fn Try.prog 78 (k542 p s_ u0) (k543 p) (vB r_) (k543 p)] { an := [(3, .callR [0, 1, 2] (vB r_))] } [] ⟨(Fn.lend (frz := [0, 1, 2]) (p := [p.sources.length = p.sources.length, p.links.length = p.links.length, p.racks.length = p.racks.length]) (Fn.le (args' := (k549 p s_ u0)) (m_flow_conducts_ok p s_ u0 hr_) ⟨SLe.agg ⟨CLe.refl _, CLe.d DLe.nn', CLe.d DLe.nn', CLe.d DLe.nn', trivial⟩, SLe.refl _, SLe.refl _, trivial⟩) (by kernel_rfl) ⟨rfl, rfl, rfl, trivial⟩ rfl), trivial⟩ ?_
     refine bI h (fun hb3 h => ?_) (fun hb3 h => ?_)
     ·refine ct hb3 ?_
      refine aX (rz tT (k551 p s_ u0 u5 u8) {} [] ?_)
      obtain rfl := oi h
      exact lN (by kernel_rfl)
     ·refine cf hb3 ?_
      refine aP (sz tT ⟨[(3, (vP 406 0)), (k121 s_), k148, (k533 u5), (9, (vB u8)), (10, (vI u0)), (k106 p u0), (k541 p), (k154 p), (28, (vI u0)), (k155 p u0), (49, (vI 0))], (k534 u5 p)⟩ {} [] ?_)
      refine bE h fun y hy h => ?_
      refine aL [3] (m_flow_ways_v2_S2 p s_ u0) (m_flow_ways_v2_B2 p s_ u0) (m_flow_ways_v2_Q1 p s_) hy (fun s f h => ?_) ?_
      ·clear hy
       show AWp _ _ _ _ _ _ ((m_flow_ways_v2_Q2 p s_ u0) f) _
       unfold m_flow_ways_L2 at h
       obtain ⟨u2, u6, u1⟩ := s
       refine sz tT ⟨[(3, (vP 406 0)), (k121 s_), k148, (k533 u2), (9, (vB u6)), (10, (vI u0)), (k106 p u0), (k541 p), (k154 p), (28, (vI u0)), (k155 p u0), (49, (vI u1)), (50, (vB (decide (u1 < 2))))], (k534 u2 p)⟩ {} [] ?_
       refine aQ ?_
       refine bI h (fun hb2 h => ?_) (fun hb2 h => ?_)
       ·refine ct hb2 ?_
        refine aP (aQ (aB (aQ (aO h fun a1 h => ?_))))
        refine rg tT ⟨[(3, (vP 406 0)), (k121 s_), k148, (k533 u2), (9, (vB u6)), (10, (vI u0)), (k106 p u0), (13, (vP 803 0)), (k541 p), (k154 p), (28, (vI u0)), (k155 p u0), (49, (vI u1))], [(k529 p), (k530 p), (k531 p), (k535 p), (408, some (arD 141 3 Way.cell u2)), (803, some (k171 p u0 u1))]⟩ [_, u1.toNat * 2 + 2 ≤ (k156 p u0).length, ((k156 p u0).drop (u1.toNat * 2)).take 2 = (k177 p u0 u1).map .d] { an := [(0, .vals (k177 p u0 u1))], fr := [(1, 803)] } [] ⟨a1, (idxL (n := 2) (sz := 2) (Nat.le_refl _) a1), (idxV (n := 2) (sz := 2) (g := fun q => [(cI ((at' [(k174 p u0), (k175 p u0)] q).e0)), (cI ((at' [(k174 p u0), (k175 p u0)] q).e1))]) (by intro q hq; match q, hq with | 0, _ => rfl | 1, _ => rfl) a1), trivial⟩ ?_
        refine aQ (aO h fun a1 h => ?_)
        refine dg tT mX ⟨[(3, (vP 406 0)), (k121 s_), k148, (k533 u2), (9, (vB u6)), (10, (vI u0)), (k106 p u0), (k178 p u0 u1 u2), (k183 p u0 u1), (k541 p), (k154 p), (28, (vI u0)), (k155 p u0), (49, (vI u1))], (k534 u2 p)⟩ [(0 : Int) ≤ 0 ∧ (0 : Int) < (2 : Nat), _, _, (0 : Int) ≤ 1 ∧ (1 : Int) < (2 : Nat)] { fr := [(7, 804)] } [804] ⟨((by decide)), a1, (tL a1), ((by decide)), trivial⟩ ?_
        refine aQ (sz tT ⟨[(3, (vP 406 0)), (k121 s_), k148, (k533 u2), (9, (vB u6)), (10, (vI u0)), (k106 p u0), (k178 p u0 u1 u2), (k183 p u0 u1), (k541 p), (k154 p), (28, (vI u0)), (k155 p u0), (49, (vI u1)), (k184 p u0 u1 u2)], (k534 u2 p)⟩ {} [] ?_)
        refine bI h (fun hb1 h => ?_) (fun hb1 h => ?_)
        ·refine ct hb1 ?_
         refine aX (rz tT (k552 p s_ u0 u2 u6 u1) {} [] ?_)
         obtain rfl := oi h
         exact lN (by kernel_rfl)
        ·refine cf hb1 ?_
         refine aP (aQ (bE h fun u4 hr_1 h => ?_))
         refine aO h fun ⟨a1, a2⟩ h => ?_
         have q0 := rk [(0, 805)] (m_slices_Clone112_v1_a_ok (k182 p u0 u1 u2) hr_1)
         refine di tT mX ⟨[(3, (vP 406 0)), (k121 s_), k148, (k533 u2), (9, (vB u6)), (10, (vI u0)), (k106 p u0), (k183 p u0 u1), (16, (vP 808 0)), (k541 p), (k154 p), (28, (vI u0)), (k155 p u0), (49, (vI u1))], [(k529 p), (k530 p), (k531 p), (k535 p), (408, some (arD 141 3 Way.cell u2)), (808, some (k187 p u0 u1 u2 u4))]⟩ [_, [u0].length = 1, ArrEq 1 1 (k189 u0) (elOf (intC .i64) [u0]), u4.length = u4.length, _, _, (u4 ++ [u0]).length = u4.length + [u0].length, ArrEq (u4.length + [u0].length) 1 (k190 u0 u4) (k191 u0 u4), (u4 ++ [u0]).length = (u4 ++ [u0]).length] { an := [(7, cA q0 []), (9, .arr [u0].length (elOf (intC .i64) [u0])), (10, .arr (u4 ++ [u0]).length (k191 u0 u4))], fr := [(9, 806), (10, 807), (12, 808)] } [807] ⟨q0, (rfl), ((by intro i hi j hj; match i, j, hi, hj with | 0, 0, _, _ => rfl)), rfl, a1, a2, (List.length_append), (arrEq_app _ _ _ _), rfl, trivial⟩ (fz ⟨[(3, (vP 406 0)), (k121 s_), k148, (k533 u2), (9, (vB u6)), (10, (vI u0)), (k106 p u0), (k183 p u0 u1), (k192 p u0 u1 u2 u4), (k541 p), (k154 p), (28, (vI u0)), (k155 p u0), (49, (vI u1))], (k534 u2 p)⟩ [808]) ?_
         refine aQ (bE h fun v2 hr_2 h => ?_)
         refine aO h fun a1 h => ?_
         have q2 := m_flow_ways_1_ok (k194 p u0 u1 u2 u4) (k195 p u0 u1 u2) hr_2
         refine dg tT mX ⟨[(3, (vP 406 0)), (k121 s_), k148, (k533 u2), (9, (vB u6)), (10, (vI u0)), (k106 p u0), (k183 p u0 u1), (k192 p u0 u1 u2 u4), (k541 p), (k154 p), (28, (vI u0)), (k155 p u0), (49, (vI u1)), (80, (vB v2))], (k534 u2 p)⟩ [_, _, _] { an := [(6, cA q2 [])] } [] ⟨a1, (tL a1), q2, trivial⟩ ?_
         refine bI h (fun hb h => ?_) (fun hb h => ?_)
         ·refine ct hb ?_
          refine aQ (aO h fun a1 h => ?_)
          refine ri tT ⟨[(3, (vP 406 0)), (k121 s_), k148, (k533 u2), (10, (vI u0)), (k106 p u0), (k541 p), (k154 p), (28, (vI u0)), (k155 p u0), (49, (vI u1))], [(k529 p), (k530 p), (k531 p), (k535 p), (408, some (.arr 141 3 u2.length (k197 p u0 u1 u2 u4)))]⟩ [_, _, ArrEq u2.length 3 (k199 p u0 u1 u2 u4) (k197 p u0 u1 u2 u4)] { an := [(4, .arr 0 (k197 p u0 u1 u2 u4))] } [] ⟨a1, (tL a1), (arrEq_set' _ _ _ _ _ _ _ _ rfl (fun j hj => (match j, hj with | 0, _ => rfl | 1, _ => rfl | 2, _ => rfl))), trivial⟩ (Imp.le (st' := ⟨[(3, (vP 406 0)), (k121 s_), k148, (k553 p u0 u2 u1 u4), (10, (vI u0)), (k106 p u0), (k541 p), (k154 p), (28, (vI u0)), (k155 p u0), (49, (vI u1))], (k554 p u0 u2 u1 u4)⟩) ⟨⟨tR, tR, tR, ⟨_, rfl, TLe.v (SLe.one cW)⟩, tR, tR, tR, tR, tR, tR, tR, trivial⟩, ⟨rfl, .refl _, ⟨rfl, .refl _, ⟨rfl, .refl _, ⟨rfl, .refl _, ⟨rfl, oW, trivial⟩⟩⟩⟩⟩⟩) ?_
          refine rz tT ⟨[(3, (vP 406 0)), (k121 s_), k148, (k553 p u0 u2 u1 u4), (9, (vB true)), (10, (vI u0)), (k106 p u0), (k541 p), (k154 p), (28, (vI u0)), (k155 p u0), (49, (vI u1))], (k554 p u0 u2 u1 u4)⟩ {} [] ?_
          refine rz tT ⟨[(3, (vP 406 0)), (k121 s_), k148, (k553 p u0 u2 u1 u4), (9, (vB true)), (10, (vI u0)), (k106 p u0), (k541 p), (k154 p), (28, (vI u0)), (k155 p u0), (k186 u1)], (k554 p u0 u2 u1 u4)⟩ {} [] ?_
          obtain rfl := oi h
          exact lN (by kernel_rfl)
         ·refine cf hb ?_
          refine aP (rz tT (k552 p s_ u0 u2 u6 u1) {} [] ?_)
          obtain rfl := oi h
          exact lN (by kernel_rfl)
       ·refine cf hb2 ?_
        refine aI (fz (k540 p s_ u2 u6 u0) []) ?_
        refine aX ?_
        obtain rfl := oi h
        exact lB (by kernel_rfl)
      ·clear hy
       cases y with
       | brk z =>
        obtain ⟨v0, v3⟩ := z
        unfold ExK
        refine ⟨_, .refl, ?_⟩
        refine rz tT (k551 p s_ u0 v0 v3) {} [] ?_
        obtain rfl := oi h
        exact lN (by kernel_rfl)
       | ret v =>
        obtain rfl := oi h
        unfold ExK
        intro e st hn ha hR
        cases e with
        | normal => exact absurd rfl hn
        | exit id => simp only [av_beq (b := 3) ha rfl, cond_false]; exact hR
        | goto l => exact hR
        | ret => exact hR
        | panic c => exact hR
        | outgrown => exact hR
    ·refine cf hb4 ?_
     refine aI (fz (k532 u5 p s_ u8) []) ?_
     refine aX ?_
     obtain rfl := oi h
     exact lB (by kernel_rfl)
   ·clear hy
    cases y1 with
    | brk z =>
     obtain ⟨v4, v5⟩ := z
     unfold ExK
     refine ⟨_, .refl, ?_⟩
     obtain rfl := oi h
     exact lN (by kernel_rfl)
    | ret v =>
     obtain rfl := oi h
     unfold ExK
     intro e st hn ha hR
     cases e with
     | normal => exact absurd rfl hn
     | exit id => simp only [av_beq (b := 1) ha rfl, cond_false]; exact hR
     | goto l => exact hR
     | ret => exact hR
     | panic c => exact hR
     | outgrown => exact hR
  ·refine cf hb5 ?_
   refine aI (fz (k538 p u7) []) ?_
   refine aX ?_
   obtain rfl := oi h
   exact lB (by kernel_rfl)
 ·clear hy
  cases y2 with
  | brk z =>
   obtain ⟨u9, rfl⟩ : ∃ q, q = z := ⟨_, rfl⟩
   unfold ExK
   refine ⟨_, .refl, ?_⟩
   refine sz tT ⟨[(6, (vO 408 true u9.length))], (k539 p u9)⟩ {} [] ?_
   refine aI (Imp.fin (st' := ⟨[(6, (vO 3 true u9.length))], [(k529 p), (k530 p), (k531 p), (3, some (arD 141 3 Way.cell u9))]⟩) (cs := []) ⟨[], [(0, 0), (1, 1), (2, 2), (408, 3)]⟩ [6] (by kernel_rfl) trivial) ?_
   refine aR ?_
   obtain rfl := oi h
   exact rh [(.one (.own 3 true u9.length))] (.refl _) ⟨rfl, .refl _, ⟨rfl, .refl _, ⟨rfl, .refl _, ⟨rfl, .refl _, trivial⟩⟩⟩⟩
  | ret v =>
   obtain rfl := oi h
   unfold ExK
   intro e st hn ha hR
   cases e with
   | normal => exact absurd rfl hn
   | exit id => exact hR
   | goto l => exact hR
   | ret => exact hR
   | panic c => exact hR
   | outgrown => exact hR
def m_flow_Shorts_v1_R (p : Plant) : ((List Short) × Int) → Exit → St → Prop :=
  fun r => RetQ TT [.tmp 6, .tmp 7] (.tup [(sD (slD none 4 Short.cell r.1)), (sI r.2)]) (k543 p)
section
variable (u0 : (List Short)) (p : Plant)
abbrev k555 : Nat × TV := (9, (vO 31 false u0.length))
abbrev k556 : Nat × TV := (29, (vO 0 true p.sources.length))
abbrev k558 : Nat × Option Ob := (25, some (k536 p))
abbrev k557 : List (Nat × Option Ob) := [(k529 p), (k530 p), (k531 p), (k558 p), (31, some (arD 47 4 Short.cell u0))]
end
def m_flow_Shorts_v1_S0 (p : Plant) (s_ : State) (u1 : Int) : ((List Short) × Int) → St :=
  fun zz => match zz with | (u0, u2) => ⟨[(2, (vI u1)), (3, (vP 25 0)), (k121 s_), (k555 u0), (k556 p), (k206 p), (31, (vI u2))], (k557 u0 p)⟩
section
variable (u0 : (List Short)) (p : Plant)
abbrev k559 : St := ⟨[(k555 u0)], [(k529 p), (k530 p), (k531 p), (31, some (arD 47 4 Short.cell u0))]⟩
end
def m_flow_Shorts_v1_B0 (p : Plant) : (List Short) → St :=
  fun u0 => (k559 u0 p)
def m_flow_Shorts_v1_Q0 (p : Plant) (s_ : State) (u0 : Int) : (Flow ((List Short) × Int) (Ex (List Short) ((List Short) × Int))) → Exit → St → Prop :=
  LQ 0 [] (m_flow_Shorts_v1_S0 p s_ u0) (m_flow_Shorts_v1_B0 p) (m_flow_Shorts_v1_R p)
section
variable (p : Plant) (s_ : State) (u0 : Int) (u3 : (List Short)) (u1 : Int) (u2 : (List Way))
abbrev k560 : List (Nat × Option Ob) := [(k529 p), (k530 p), (k531 p), (k558 p)]
abbrev k561 : List SV := [(.agg (k537 p)), (.agg (k98 s_))]
abbrev k562 : List SV := [(.agg (k550 p)), (.agg (k98 s_))]
abbrev k563 : St := ⟨[(2, (vI u0)), (3, (vP 25 0)), (k121 s_), (k555 u3), (k556 p), (k206 p), (k220 u1)], (k557 u3 p)⟩
abbrev k564 : Nat × TV := (9, (vO 46 false (k225 p u0 u1 u3 u2)))
abbrev k565 : List (Nat × Option Ob) := [(k529 p), (k530 p), (k531 p), (k558 p), (46, some (k230 p u0 u1 u3 u2))]
end
theorem m_flow_Shorts_v1_ok (p : Plant) (s_ : State) (u0 : Int) {r : ((List Short) × Int)} (h : m_flow_Shorts p s_ u0 = some r) : Fn Try.prog 17 (k542 p s_ u0) (k543 p) (.tup [(sD (slD none 4 Short.cell r.1)), (sI r.2)]) (k543 p) := by
 refine fN tT Try.func17 rfl rfl fun B => ?_
 show AWp _ _ _ _ _ _ ((m_flow_Shorts_v1_R p) r) _
 unfold m_flow_Shorts at h
 refine sz tT ⟨[(2, (vI u0)), (3, (vP 25 0)), (k121 s_)], (k560 p)⟩ { fr := [(0, 25), (1, 26)] } [26] ?_
 refine aQ (aQ (bE h fun r_ hr_ h => ?_))
 refine rg tT ⟨[(2, (vI u0)), (3, (vP 25 0)), (k121 s_), (8, (vI r_))], (k560 p)⟩ [Fn Try.prog 12 (k561 p s_) (k543 p) (vI r_) (k543 p)] { an := [(2, .callR [0, 1, 2] (vI r_))] } [] ⟨(Fn.lend (frz := [0, 1, 2]) (p := [p.sources.length = p.sources.length, p.links.length = p.links.length, p.racks.length = p.racks.length]) (Fn.le (args' := (k562 p s_)) (m_plant_CheckState_ok p s_ hr_) ⟨SLe.agg ⟨CLe.refl _, CLe.d DLe.nn', CLe.d DLe.nn', CLe.d DLe.nn', trivial⟩, SLe.refl _, trivial⟩) (by kernel_rfl) ⟨rfl, rfl, rfl, trivial⟩ rfl), trivial⟩ ?_
 refine sz tT ⟨[(2, (vI u0)), (3, (vP 25 0)), (k121 s_), (8, (vI r_)), (18, (vB (!decide (r_ = 0))))], (k560 p)⟩ {} [] ?_
 refine bI h (fun hb4 h => ?_) (fun hb4 h => ?_)
 ·refine ct hb4 ?_
  refine sz tT ⟨[(6, (vD nS)), (7, (vI r_))], (k543 p)⟩ {} [] ?_
  refine aI (Imp.le (st' := ⟨(k209 r_), (k543 p)⟩) ⟨⟨⟨_, rfl, TLe.v (SLe.one (CLe.d DLe.nil'))⟩, tR, trivial⟩, ⟨rfl, .refl _, ⟨rfl, .refl _, ⟨rfl, .refl _, trivial⟩⟩⟩⟩) ?_
  refine aR ?_
  obtain rfl := oi h
  exact rh (k210 r_) (.refl _) ⟨rfl, .refl _, ⟨rfl, .refl _, ⟨rfl, .refl _, trivial⟩⟩⟩
 ·refine cf hb4 ?_
  refine aP (aQ (sg tT ⟨[(2, (vI u0)), (3, (vP 25 0)), (k121 s_), (k211 p u0)], (k560 p)⟩ (k212 u0) { yb := [(2, (decide (u0 < 0)))] } [] (ae trivial) ?_))
  refine bI h (fun hb3 h => ?_) (fun hb3 h => ?_)
  ·refine ct hb3 ?_
   refine sz tT ⟨[(6, (vD nS)), (7, (vI 1))], (k543 p)⟩ {} [] ?_
   refine aI (Imp.le (st' := ⟨k213, (k543 p)⟩) ⟨⟨⟨_, rfl, TLe.v (SLe.one (CLe.d DLe.nil'))⟩, tR, trivial⟩, ⟨rfl, .refl _, ⟨rfl, .refl _, ⟨rfl, .refl _, trivial⟩⟩⟩⟩) ?_
   refine aR ?_
   obtain rfl := oi h
   exact rh k214 (.refl _) ⟨rfl, .refl _, ⟨rfl, .refl _, ⟨rfl, .refl _, trivial⟩⟩⟩
  ·refine cf hb3 ?_
   refine aP (sz tT ⟨[(2, (vI u0)), (3, (vP 25 0)), (k121 s_), (9, (vD nS))], (k560 p)⟩ {} [] ?_)
   refine aQ (sz tT ⟨[(2, (vI u0)), (3, (vP 25 0)), (k121 s_), (9, (vD nS)), (k556 p), (k206 p), (31, (vI 0))], (k560 p)⟩ {} [] ?_)
   refine bE h fun y hy h => ?_
   refine aI (.trans (Imp.adopt (t := 9) (b := 47) (esz0 := 0) (el0 := fun _ _ => .nilp) (E := 47) (esz := 4) (el := elOf Short.cell ([] : List Short)) (by kernel_rfl) (by kernel_rfl)) (.trans (Imp.fin (st' := ⟨[(2, (vI u0)), (3, (vP 25 0)), (k121 s_), (9, (vO 31 false 0)), (k556 p), (k206 p), (31, (vI 0))], [(k529 p), (k530 p), (k531 p), (k558 p), (31, some (.arr 47 4 0 (elOf Short.cell ([] : List Short))))]⟩) (cs := []) ⟨[], [(0, 0), (1, 1), (2, 2), (25, 25), (47, 31)]⟩ [2, 3, 4, 9, 29, 30, 31] (by kernel_rfl) trivial) (Imp.le (st' := ⟨[(2, (vI u0)), (3, (vP 25 0)), (k121 s_), (9, (vO 31 false (([] : List Short).length))), (k556 p), (k206 p), (31, (vI 0))], [(k529 p), (k530 p), (k531 p), (k558 p), (31, some (arD 47 4 Short.cell ([] : List Short)))]⟩) ⟨⟨tR, tR, tR, ⟨_, rfl, TLe.v (SLe.one cW)⟩, tR, tR, tR, trivial⟩, ⟨rfl, .refl _, ⟨rfl, .refl _, ⟨rfl, .refl _, ⟨rfl, .refl _, ⟨rfl, oW, trivial⟩⟩⟩⟩⟩⟩))) ?_
   refine aL [] (m_flow_Shorts_v1_S0 p s_ u0) (m_flow_Shorts_v1_B0 p) (m_flow_Shorts_v1_R p) hy (fun s f h => ?_) ?_
   ·clear hy
    show AWp _ _ _ _ _ _ ((m_flow_Shorts_v1_Q0 p s_ u0) f) _
    unfold m_flow_Shorts_L0 at h
    obtain ⟨u3, u1⟩ := s
    refine sz tT ⟨[(2, (vI u0)), (3, (vP 25 0)), (k121 s_), (k555 u3), (k556 p), (k206 p), (31, (vI u1)), (32, (vB (decide (u1 < (p.sources.length : Int)))))], (k557 u3 p)⟩ {} [] ?_
    refine aQ ?_
    refine bI h (fun hb2 h => ?_) (fun hb2 h => ?_)
    ·refine ct hb2 ?_
     refine aP (aQ (aB (aQ (aO h fun a1 h => ?_))))
     refine rg tT ⟨[(2, (vI u0)), (3, (vP 25 0)), (k121 s_), (k555 u3), (10, (vI u1)), (k215 p u1), (k556 p), (k206 p), (31, (vI u1))], (k557 u3 p)⟩ [_, _] { fr := [(3, 42)] } [42] ⟨a1, (tL a1), trivial⟩ ?_
     refine aQ (aQ (bE h fun u5 hr_1 h => ?_))
     refine aO h fun a1 h => ?_
     refine rg tT ⟨[(2, (vI u0)), (3, (vP 25 0)), (k121 s_), (k555 u3), (10, (vI u1)), (k215 p u1), (k556 p), (k206 p), (31, (vI u1)), (k217 u0 s_ u5)], (k557 u3 p)⟩ (_ :: (eqs (k218 u0 s_) 4 ((gP (ybf [(5, (k218 u0 s_))]) [(5, false)] → All [Fn Try.prog 65 (k542 p s_ u1) (k543 p) (vB u5) (k543 p)]) :: (eqs (k218 u0 s_) 2 [])))) { yb := [(5, (k218 u0 s_))], an := [(9, .callR [0, 1, 2] (vB u5))] } [] ⟨a1, (ae ⟨(fun hg => ⟨(Fn.lend (frz := [0, 1, 2]) (p := [p.sources.length = p.sources.length, p.links.length = p.links.length, p.racks.length = p.racks.length]) (Fn.le (args' := (k549 p s_ u1)) (m_flow_feeds_ok p s_ u1 (gcall hr_1 (gB_of hg))) ⟨SLe.agg ⟨CLe.refl _, CLe.d DLe.nn', CLe.d DLe.nn', CLe.d DLe.nn', trivial⟩, SLe.refl _, SLe.refl _, trivial⟩) (by kernel_rfl) ⟨rfl, rfl, rfl, trivial⟩ rfl), trivial⟩), (ae trivial)⟩)⟩ ?_
     refine bI h (fun hb1 h => ?_) (fun hb1 h => ?_)
     ·refine ct hb1 ?_
      refine aX (rz tT (k563 p s_ u0 u3 u1) {} [] ?_)
      obtain rfl := oi h
      exact lN (by kernel_rfl)
     ·refine cf hb1 ?_
      refine aP (aQ (bE h fun u2 hr_2 h => ?_))
      refine aO h fun a1 h => ?_
      have q0 := rk [(3, 43)] (m_flow_ways_v2_ok p s_ (k125 p u1) hr_2)
      refine rg tT ⟨[(2, (vI u0)), (3, (vP 25 0)), (k121 s_), (k555 u3), (10, (vI u1)), (k215 p u1), (k221 u0 u2), (k556 p), (k206 p), (31, (vI u1))], (k557 u3 p)⟩ [_, _, _] { an := [(4, cA q0 [0, 1, 2])], fr := [(8, 44)] } [44] ⟨q0, a1, (tL a1), trivial⟩ ?_
      refine sz tT ⟨[(2, (vI u0)), (3, (vP 25 0)), (k121 s_), (k555 u3), (10, (vI u1)), (k215 p u1), (k221 u0 u2), (k556 p), (k206 p), (31, (vI u1)), (57, (vB ((at' u2 u0.toNat).there)))], (k557 u3 p)⟩ {} [] ?_
      refine bI h (fun hb h => ?_) (fun hb h => ?_)
      ·refine ct hb ?_
       refine sz tT ⟨[(2, (vI u0)), (3, (vP 25 0)), (k121 s_), (k555 u3), (10, (vI u1)), (k221 u0 u2), (k222 p u0 u1 u2), (k556 p), (k206 p), (31, (vI u1))], (k557 u3 p)⟩ {} [] ?_
       refine aO h fun ⟨a1, a2, a3⟩ h => ?_
       refine dg tT mX ⟨[(2, (vI u0)), (3, (vP 25 0)), (k121 s_), (k564 p u0 u3 u1 u2), (k556 p), (k206 p), (31, (vI u1))], (k565 p u0 u3 u1 u2)⟩ [_, [(k227 p u0 u1 u2)].length = 1, ArrEq 1 4 (k231 p u0 u1 u2) (k232 p u0 u1 u2), u3.length = u3.length, _, _, (k226 p u0 u1 u3 u2).length = u3.length + [(k227 p u0 u1 u2)].length, ArrEq (k233 p u0 u1 u3 u2) 4 (k234 p u0 u1 u3 u2) (k235 p u0 u1 u3 u2)] { an := [(11, .arr [(k227 p u0 u1 u2)].length (k232 p u0 u1 u2)), (12, .arr (k226 p u0 u1 u3 u2).length (k235 p u0 u1 u3 u2))], fr := [(11, 45), (12, 46)] } [] ⟨a1, (rfl), ((by intro i hi j hj; match i, j, hi, hj with | 0, 0, _, _ => rfl | 0, 1, _, _ => rfl | 0, 2, _, _ => rfl | 0, 3, _, _ => rfl)), rfl, a2, a3, (List.length_append), (arrEq_app _ _ _ _), trivial⟩ ?_
       refine ri tT ⟨[(2, (vI u0)), (3, (vP 25 0)), (k121 s_), (k564 p u0 u3 u1 u2), (k556 p), (k206 p), (k220 u1)], (k565 p u0 u3 u1 u2)⟩ [] {} [] trivial (Imp.fin (st' := ⟨[(2, (vI u0)), (3, (vP 25 0)), (k121 s_), (9, (vO 31 false (k225 p u0 u1 u3 u2))), (k556 p), (k206 p), (k220 u1)], [(k529 p), (k530 p), (k531 p), (k558 p), (31, some (k230 p u0 u1 u3 u2))]⟩) (cs := []) ⟨[], [(0, 0), (1, 1), (2, 2), (25, 25), (46, 31)]⟩ [2, 3, 4, 9, 29, 30, 31] (by kernel_rfl) trivial) ?_
       obtain rfl := oi h
       exact lN (by kernel_rfl)
      ·refine cf hb ?_
       refine aP (rz tT (k563 p s_ u0 u3 u1) {} [] ?_)
       obtain rfl := oi h
       exact lN (by kernel_rfl)
    ·refine cf hb2 ?_
     refine aI (fz (k559 u3 p) []) ?_
     refine aX ?_
     obtain rfl := oi h
     exact lB (by kernel_rfl)
   ·clear hy
    cases y with
    | brk z =>
     obtain ⟨u4, rfl⟩ : ∃ q, q = z := ⟨_, rfl⟩
     unfold ExK
     refine ⟨_, .refl, ?_⟩
     refine sg tT ⟨(k236 u4), (k543 p)⟩ [u4.length = u4.length] {} [31] ⟨rfl, trivial⟩ ?_
     refine aR ?_
     obtain rfl := oi h
     exact rh [(sD (slD none 4 Short.cell u4)), (sI 0)] (.refl _) ⟨rfl, .refl _, ⟨rfl, .refl _, ⟨rfl, .refl _, trivial⟩⟩⟩
    | ret v =>
     obtain rfl := oi h
     unfold ExK
     intro e st hn ha hR
     cases e with
     | normal => exact absurd rfl hn
     | exit id => exact hR
     | goto l => exact hR
     | ret => exact hR
     | panic c => exact hR
     | outgrown => exact hR
def m_flow_Through_v1_R (p : Plant) : ((List Int) × Bool × Int) → Exit → St → Prop :=
  fun r => RetQ TT [.tmp 4, .tmp 5] (.tup [(sD (slD (some r.2.1) 1 (intC .i64) r.1)), (sI r.2.2)]) (k543 p)
section
variable (p : Plant) (u0 : (List Int)) (l : (List Short)) (u1 : Int)
abbrev k567 : List (Nat × Option Ob) := [(k529 p), (k530 p), (k531 p), (11, some (k238 u0)), (12, some (.cells 40 [(.own 11 true u0.length)]))]
abbrev k566 : St := ⟨[(7, (vP 12 0)), (k243 l), (k244 l), (25, (vI u1))], (k567 p u0)⟩
end
def m_flow_Through_v1_S0 (p : Plant) (l : (List Short)) : ((List Int) × Int) → St :=
  fun zz => match zz with | (u0, u1) => (k566 p u0 l u1)
section
variable (p : Plant) (u0 : (List Int))
abbrev k568 : St := ⟨[(7, (vP 12 0))], (k567 p u0)⟩
end
def m_flow_Through_v1_B0 (p : Plant) : (List Int) → St :=
  fun u0 => (k568 p u0)
def m_flow_Through_v1_Q0 (p : Plant) (l : (List Short)) : (Flow ((List Int) × Int) (Ex (List Int) ((List Int) × Bool × Int))) → Exit → St → Prop :=
  LQ 0 [] (m_flow_Through_v1_S0 p l) (m_flow_Through_v1_B0 p) (m_flow_Through_v1_R p)
section
variable (l : (List Short)) (u0 : Int) (u2 : (List Int)) (u3 : Int)
abbrev k569 : List (Nat × TV) := [(7, (vP 12 0)), (k248 l u0), (k243 l), (k244 l), (25, (vI u0)), (k249 u2), (45, (vI u3))]
end
def m_flow_Through_v1_S1 (p : Plant) (l : (List Short)) (u2 : (List Int)) (u0 : Int) : ((List Int) × Int) → St :=
  fun zz => match zz with | (u1, u3) => ⟨(k569 l u0 u2 u3), (k567 p u1)⟩
def m_flow_Through_v1_B1 (p : Plant) (l : (List Short)) (u1 : Int) : (List Int) → St :=
  fun u0 => (k566 p u0 l u1)
def m_flow_Through_v1_Q1 (p : Plant) (l : (List Short)) (u1 : (List Int)) (u0 : Int) : (Flow ((List Int) × Int) (Ex (List Int) (Flow ((List Int) × Int) (Ex (List Int) ((List Int) × Bool × Int))))) → Exit → St → Prop :=
  LQ 2 [1] (m_flow_Through_v1_S1 p l u1 u0) (m_flow_Through_v1_B1 p l u0) (m_flow_Through_v1_Q0 p l)
section
variable (p : Plant) (r_ : Int) (u1 : (List Int)) (u2 : Int) (l : (List Short)) (u0 : Int) (u3 : (List Int))
abbrev k571 : Nat × Option Ob := (10, some (k536 p))
abbrev k570 : List (Nat × Option Ob) := [(k529 p), (k530 p), (k531 p), (k571 p)]
abbrev k572 : St := ⟨[(4, (vD nS)), (5, (vI r_))], (k543 p)⟩
abbrev k573 : St := ⟨[(4, (vD nS)), (5, (vI 1))], (k543 p)⟩
abbrev k574 : St := ⟨[(4, (vD k252)), (5, (vI 1))], (k543 p)⟩
abbrev k575 : List (Nat × Option Ob) := [(k529 p), (k530 p), (k531 p), (11, some (k255 p)), (12, some (.cells 40 [(.own 11 true (k258 p))]))]
abbrev k576 : List (Nat × Option Ob) := [(k529 p), (k530 p), (k531 p), (11, some (arD 3 1 (intC .i64) (k265 l u0 u1 u2))), (12, some (.cells 40 [(.own 11 true ((k265 l u0 u1 u2).length))]))]
abbrev k577 : List (Nat × TV) := [(7, (vP 12 0)), (k248 l u0), (k243 l), (k244 l), (25, (vI u0)), (k249 u3), (45, (k30 u2))]
end
theorem m_flow_Through_v1_ok (p : Plant) (l : (List Short)) {r : ((List Int) × Bool × Int)} (h : m_flow_Through p l = some r) : Fn Try.prog 18 [(.agg (k537 p)), (sD (slD none 4 Short.cell l))] (k543 p) (.tup [(sD (slD (some r.2.1) 1 (intC .i64) r.1)), (sI r.2.2)]) (k543 p) := by
 refine fN tT Try.func18 rfl rfl fun B => ?_
 show AWp _ _ _ _ _ _ ((m_flow_Through_v1_R p) r) _
 unfold m_flow_Through at h
 refine sz tT ⟨[(k250 l), (2, (vP 10 0))], (k570 p)⟩ { fr := [(0, 10)] } [] ?_
 refine aQ (aQ (bE h fun r_ hr_ h => ?_))
 refine rg tT ⟨[(k250 l), (2, (vP 10 0)), (6, (vI r_))], (k570 p)⟩ [Fn Try.prog 58 [(.agg (k537 p))] (k543 p) (vI r_) (k543 p)] { an := [(1, .callR [0, 1, 2] (vI r_))] } [] ⟨(Fn.lend (frz := [0, 1, 2]) (p := [p.sources.length = p.sources.length, p.links.length = p.links.length, p.racks.length = p.racks.length]) (Fn.le (args' := [(.agg (k550 p))]) (m_plant_Check_ok p hr_) ⟨SLe.agg ⟨CLe.refl _, CLe.d DLe.nn', CLe.d DLe.nn', CLe.d DLe.nn', trivial⟩, trivial⟩) (by kernel_rfl) ⟨rfl, rfl, rfl, trivial⟩ rfl), trivial⟩ ?_
 refine sz tT ⟨[(k250 l), (2, (vP 10 0)), (6, (vI r_)), (14, (vB (!decide (r_ = 0))))], (k570 p)⟩ {} [] ?_
 refine bI h (fun hb5 h => ?_) (fun hb5 h => ?_)
 ·refine ct hb5 ?_
  refine sz tT (k572 p r_) {} [] ?_
  refine aI (Imp.le (st' := ⟨[(4, (vD k252)), (5, (vI r_))], (k543 p)⟩) ⟨⟨⟨_, rfl, TLe.v (SLe.one (CLe.d DLe.nilSl))⟩, tR, trivial⟩, ⟨rfl, .refl _, ⟨rfl, .refl _, ⟨rfl, .refl _, trivial⟩⟩⟩⟩) ?_
  refine aR ?_
  obtain rfl := oi h
  exact rh [(sD k252), (sI r_)] (.refl _) ⟨rfl, .refl _, ⟨rfl, .refl _, ⟨rfl, .refl _, trivial⟩⟩⟩
 ·refine cf hb5 ?_
  refine aP (aQ (sz tT ⟨[(k250 l), (2, (vP 10 0)), (18, (vB (decide (8 < (l.length : Int)))))], (k570 p)⟩ {} [] ?_))
  refine bI h (fun hb4 h => ?_) (fun hb4 h => ?_)
  ·refine ct hb4 ?_
   refine sz tT (k573 p) {} [] ?_
   refine aI (Imp.le (st' := (k574 p)) ⟨⟨⟨_, rfl, TLe.v (SLe.one (CLe.d DLe.nilSl))⟩, tR, trivial⟩, ⟨rfl, .refl _, ⟨rfl, .refl _, ⟨rfl, .refl _, trivial⟩⟩⟩⟩) ?_
   refine aR ?_
   obtain rfl := oi h
   exact rh k253 (.refl _) ⟨rfl, .refl _, ⟨rfl, .refl _, ⟨rfl, .refl _, trivial⟩⟩⟩
  ·refine cf hb4 ?_
   refine aP (aQ (aO h fun ⟨a1, a2, a3⟩ h => ?_))
   refine rg tT ⟨[(k250 l), (7, (vP 12 0))], (k575 p)⟩ [_, ((p.links.length : Int) : Int) = (p.links.length : Int), _, _, (k256 p).length = (k257 p), ArrEq (k257 p) 1 (fun _ j => [(.int .i64 0)].getD j .nilp) (k259 p)] { an := [(3, .arr (k256 p).length (k259 p))], fr := [(3, 11), (4, 12)] } [] ⟨a1, rfl, a2, a3, (List.length_replicate), (arrEq_rep _ _ _ _ _ (fun j hj => (match j, hj with | 0, _ => rfl))), trivial⟩ ?_
   refine aQ (sz tT ⟨[(7, (vP 12 0)), (k243 l), (k244 l), (25, (vI 0))], (k575 p)⟩ {} [] ?_)
   refine bE h fun y1 hy h => ?_
   refine aL [] (m_flow_Through_v1_S0 p l) (m_flow_Through_v1_B0 p) (m_flow_Through_v1_R p) hy (fun s f h => ?_) ?_
   ·clear hy
    show AWp _ _ _ _ _ _ ((m_flow_Through_v1_Q0 p l) f) _
    unfold m_flow_Through_L0 at h
    obtain ⟨u3, u0⟩ := s
    refine sz tT ⟨[(7, (vP 12 0)), (k243 l), (k244 l), (25, (vI u0)), (26, (vB (decide (u0 < (l.length : Int)))))], (k567 p u3)⟩ {} [] ?_
    refine aQ ?_
    refine bI h (fun hb3 h => ?_) (fun hb3 h => ?_)
    ·refine ct hb3 ?_
     refine aP (aQ (aB (aQ (aO h fun a1 h => ?_))))
     refine rg tT ⟨[(7, (vP 12 0)), (k248 l u0), (k243 l), (k244 l), (25, (vI u0))], (k567 p u3)⟩ [_] { fr := [(2, 16)] } [16] ⟨a1, trivial⟩ ?_
     refine aQ (aQ (bE h fun u5 hr_1 h => ?_))
     refine rg tT ⟨[(7, (vP 12 0)), (k248 l u0), (k243 l), (k244 l), (25, (vI u0)), (k260 l u0 u5)], (k567 p u3)⟩ (eqs (k262 l u0) 4 (eqs (k261 l u0) 4 [gP (k263 l u0) [(8, false)] → All [Fn Try.prog 67 [(sD (slD none 1 (intC .i64) ((at' l u0.toNat).links))), (.one (.fn 68 0 1 (capC [(.ptr 12 0)])))] [(12, some (.cells 40 [(.own 11 true u3.length)])), (11, some (k238 u3))] (vB u5) [(12, some (.cells 40 [(.own 11 true u3.length)])), (11, some (k238 u3))]], (k261 l u0) = (k261 l u0)])) { yb := [(3, (k262 l u0)), (8, (k261 l u0))], an := [(12, .callR [12, 11] (vB u5))] } [] (ae (ae ⟨(fun hg => ⟨(Fn.renK [(0, 12), (1, 11)] (m_slices_ContainsFunc67_ok ((at' l u0.toNat).links) u3 (gcall hr_1 (gB_of hg))) (by kernel_rfl) (by kernel_rfl) (by kernel_rfl) (by kernel_rfl)), trivial⟩), rfl, trivial⟩)) ?_
     refine bI h (fun hb2 h => ?_) (fun hb2 h => ?_)
     ·refine ct hb2 ?_
      refine sz tT (k573 p) {} [] ?_
      refine aI (Imp.le (st' := (k574 p)) ⟨⟨⟨_, rfl, TLe.v (SLe.one (CLe.d DLe.nilSl))⟩, tR, trivial⟩, ⟨rfl, .refl _, ⟨rfl, .refl _, ⟨rfl, .refl _, trivial⟩⟩⟩⟩) ?_
      refine aR ?_
      obtain rfl := oi h
      exact lR ret_nn (ret_ne 0) av_ret (RetQ.mk (.inr rfl) (p := []) (l := k253) (by kernel_rfl) trivial (TLe.refl _) ⟨rfl, .refl _, ⟨rfl, .refl _, ⟨rfl, .refl _, trivial⟩⟩⟩)
     ·refine cf hb2 ?_
      refine aP (sz tT ⟨[(7, (vP 12 0)), (k248 l u0), (k243 l), (k244 l), (25, (vI u0)), (k249 u3), (45, (vI 0))], (k567 p u3)⟩ {} [] ?_)
      refine bE h fun y hy h => ?_
      refine aL [1] (m_flow_Through_v1_S1 p l u3 u0) (m_flow_Through_v1_B1 p l u0) (m_flow_Through_v1_Q0 p l) hy (fun s f h => ?_) ?_
      ·clear hy
       show AWp _ _ _ _ _ _ ((m_flow_Through_v1_Q1 p l u3 u0) f) _
       unfold m_flow_Through_L1 at h
       obtain ⟨u1, u2⟩ := s
       refine sz tT ⟨[(7, (vP 12 0)), (k248 l u0), (k243 l), (k244 l), (25, (vI u0)), (k249 u3), (45, (vI u2)), (46, (k140 u2 u3))], (k567 p u1)⟩ {} [] ?_
       refine aQ ?_
       refine bI h (fun hb1 h => ?_) (fun hb1 h => ?_)
       ·refine ct hb1 ?_
        refine aP (aQ (aB (sz tT ⟨[(7, (vP 12 0)), (k248 l u0), (10, (vI u2)), (k243 l), (k244 l), (25, (vI u0)), (k249 u3), (45, (vI u2))], (k567 p u1)⟩ {} [] ?_)))
        refine aQ (bE h fun u7 hr_2 h => ?_)
        have q0 := m_slices_Contains_ok ((at' l u0.toNat).links) u2 hr_2
        refine rg tT ⟨[(7, (vP 12 0)), (k248 l u0), (10, (vI u2)), (k243 l), (k244 l), (25, (vI u0)), (k249 u3), (45, (vI u2)), (51, (vB u7))], (k567 p u1)⟩ [_] { an := [(3, cA q0 [])] } [] ⟨q0, trivial⟩ ?_
        refine bI h (fun hb h => ?_) (fun hb h => ?_)
        ·refine ct hb ?_
         refine aO h fun a1 h => ?_
         refine di tT mX ⟨(k569 l u0 u3 u2), [(k529 p), (k530 p), (k531 p), (11, some (.arr 3 1 u1.length (k264 l u0 u1 u2))), (12, some (.cells 40 [(.own 11 true u1.length)]))]⟩ [_, _, _, _, ArrEq u1.length 1 (k266 l u0 u1 u2) (k264 l u0 u1 u2)] { an := [(8, .arr 0 (k264 l u0 u1 u2))] } [] ⟨a1, (tL a1), a1, (tL a1), (arrEq_set' _ _ _ _ _ _ _ _ rfl (fun j hj => (match j, hj with | 0, _ => rfl))), trivial⟩ (Imp.le (st' := ⟨(k569 l u0 u3 u2), (k576 p u1 u2 l u0)⟩) ⟨⟨tR, tR, tR, tR, tR, tR, tR, trivial⟩, ⟨rfl, .refl _, ⟨rfl, .refl _, ⟨rfl, .refl _, ⟨rfl, oW, ⟨rfl, OLe_cells ⟨cW, trivial⟩, trivial⟩⟩⟩⟩⟩⟩) ?_
         refine rz tT ⟨(k577 u2 l u0 u3), (k576 p u1 u2 l u0)⟩ {} [] ?_
         obtain rfl := oi h
         exact lN (by kernel_rfl)
        ·refine cf hb ?_
         refine aP (rz tT ⟨(k577 u2 l u0 u3), (k567 p u1)⟩ {} [] ?_)
         obtain rfl := oi h
         exact lN (by kernel_rfl)
       ·refine cf hb1 ?_
        refine aI (fz (k566 p u1 l u0) []) ?_
        refine aX ?_
        obtain rfl := oi h
        exact lB (by kernel_rfl)
      ·clear hy
       cases y with
       | brk z =>
        obtain ⟨u6, rfl⟩ : ∃ q, q = z := ⟨_, rfl⟩
        unfold ExK
        refine ⟨_, .refl, ?_⟩
        refine rz tT ⟨[(7, (vP 12 0)), (k243 l), (k244 l), (25, (k30 u0))], (k567 p u6)⟩ {} [] ?_
        obtain rfl := oi h
        exact lN (by kernel_rfl)
       | ret v =>
        obtain rfl := oi h
        unfold ExK
        intro e st hn ha hR
        cases e with
        | normal => exact absurd rfl hn
        | exit id => simp only [av_beq (b := 1) ha rfl, cond_false]; exact hR
        | goto l => exact hR
        | ret => exact hR
        | panic c => exact hR
        | outgrown => exact hR
    ·refine cf hb3 ?_
     refine aI (fz (k568 p u3) []) ?_
     refine aX ?_
     obtain rfl := oi h
     exact lB (by kernel_rfl)
   ·clear hy
    cases y1 with
    | brk z =>
     obtain ⟨u4, rfl⟩ : ∃ q, q = z := ⟨_, rfl⟩
     unfold ExK
     refine ⟨_, .refl, ?_⟩
     refine sg tT ⟨[(4, (vD (slD (some true) 1 (intC .i64) u4))), (5, (vI 0))], (k543 p)⟩ [u4.length = u4.length] {} [11] ⟨rfl, trivial⟩ ?_
     refine aR ?_
     obtain rfl := oi h
     exact rh [(sD (slD (some true) 1 (intC .i64) u4)), (sI 0)] (.refl _) ⟨rfl, .refl _, ⟨rfl, .refl _, ⟨rfl, .refl _, trivial⟩⟩⟩
    | ret v =>
     obtain rfl := oi h
     unfold ExK
     intro e st hn ha hR
     cases e with
     | normal => exact absurd rfl hn
     | exit id => exact hR
     | goto l => exact hR
     | ret => exact hR
     | panic c => exact hR
     | outgrown => exact hR
section
variable (u0 : Machine)
abbrev k578 : Nat × Option Ob := (2, some (arD 126 5 Source.cell u0.p.sources))
abbrev k579 : Nat × Option Ob := (3, some (arD 53 6 Link.cell u0.p.links))
abbrev k580 : Nat × Option Ob := (4, some (arD 166 4 Rack.cell u0.p.racks))
end
def m_guard_machine_look_v1_R (u0 : Machine) : (Machine × Bool) → Exit → St → Prop :=
  fun r => RetQ TT [] (.tup []) [(0, some (.cells 137 [(.own 1 false u0.clearing.events.length), (cB r.1.clearing.cleared), (cI r.1.clearing.millis), (cI r.1.clearing.energy), (.d (slD none 1 boolC r.1.clearing.state.closed)), (.d (slD none 1 boolC r.1.clearing.state.locked)), (.d (slD none 1 boolC r.1.clearing.state.badLink)), (.d (slD none 1 boolC r.1.clearing.state.on_)), (.d (slD none 1 boolC r.1.clearing.state.badSource)), (.d (slD none 1 boolC r.1.clearing.state.earthed)), (.d (slD none 1 boolC r.1.clearing.state.badBus)), (cI r.1.p.buses), (.own 2 true u0.p.sources.length), (.own 3 true u0.p.links.length), (.own 4 true u0.p.racks.length), (cI r.1.bus), (.d (slD (some r.2) 1 (intC .i64) r.1.amps)), (cI r.1.total), (.mp 5), (cI r.1.now)])), (k269 u0), (k578 u0), (k579 u0), (k580 u0), (5, some (mpD 3 3 false false 1 1 (intC .i64) (intC .i64) r.1.since))]
section
variable (u0 : Machine) (u2 : Bool) (u3 : Int)
abbrev k582 : Nat × Option Ob := (0, some (.cells 137 [(.own 1 false u0.clearing.events.length), (cB u0.clearing.cleared), (cI u0.clearing.millis), (cI u0.clearing.energy), (.d (k277 u0)), (.d (k278 u0)), (.d (k279 u0)), (.d (k280 u0)), (.d (k281 u0)), (.d (k282 u0)), (.d (k283 u0)), (cI u0.p.buses), (.own 2 true u0.p.sources.length), (.own 3 true u0.p.links.length), (.own 4 true u0.p.racks.length), (cI u0.bus), (.d (k287 u0 u2)), (cI u3), (.mp 5), (cI u0.now)]))
abbrev k581 : List (Nat × Option Ob) := [(k582 u0 u2 u3), (k269 u0), (k578 u0), (k579 u0), (k580 u0), (k328 u0)]
end
def m_guard_machine_look_v1_S0 (u0 : Machine) (u2 : Bool) (r_ : ((List Short) × Int)) (u1 : ((List Int) × Bool × Int)) : (Int × Int) → St :=
  fun zz => match zz with | (u3, u4) => ⟨(k271 u1 r_ u4), (k581 u0 u2 u3)⟩
section
variable (u1 : ((List Int) × Bool × Int)) (u0 : Machine) (u2 : Bool) (u3 : Int)
abbrev k583 : St := ⟨(k291 u1), (k581 u0 u2 u3)⟩
end
def m_guard_machine_look_v1_B0 (u0 : Machine) (u2 : Bool) (u1 : ((List Int) × Bool × Int)) : Int → St :=
  fun u3 => (k583 u1 u0 u2 u3)
def m_guard_machine_look_v1_Q0 (u0 : Machine) (u1 : Bool) (r_ : ((List Short) × Int)) (u2 : ((List Int) × Bool × Int)) : (Flow (Int × Int) (Ex Int (Machine × Bool))) → Exit → St → Prop :=
  LQ 0 [] (m_guard_machine_look_v1_S0 u0 u1 r_ u2) (m_guard_machine_look_v1_B0 u0 u1 u2) (m_guard_machine_look_v1_R u0)
section
variable (u4 : (List (Int × Int))) (u0 : Machine) (u2 : Bool) (u3 : Int)
abbrev k585 : Nat × Option Ob := (5, some (k297 u4))
abbrev k584 : List (Nat × Option Ob) := [(k582 u0 u2 u3), (k269 u0), (k578 u0), (k579 u0), (k580 u0), (k585 u4)]
end
def m_guard_machine_look_v1_S1 (u0 : Machine) (u2 : Bool) (u1 : ((List Int) × Bool × Int)) (u3 : Int) : ((List (Int × Int)) × Int) → St :=
  fun zz => match zz with | (u4, u5) => ⟨(k292 u1 u5), (k584 u4 u0 u2 u3)⟩
section
variable (u1 : ((List Int) × Bool × Int)) (u0 : Machine) (u2 : Bool) (u3 : Int) (u4 : (List (Int × Int)))
abbrev k586 : St := ⟨(k291 u1), (k584 u4 u0 u2 u3)⟩
end
def m_guard_machine_look_v1_B1 (u0 : Machine) (u2 : Bool) (u1 : ((List Int) × Bool × Int)) (u3 : Int) : (List (Int × Int)) → St :=
  fun u4 => (k586 u1 u0 u2 u3 u4)
def m_guard_machine_look_v1_Q1 (u0 : Machine) (u1 : Bool) (u2 : ((List Int) × Bool × Int)) (u3 : Int) : (Flow ((List (Int × Int)) × Int) (Ex (List (Int × Int)) (Machine × Bool))) → Exit → St → Prop :=
  LQ 2 [] (m_guard_machine_look_v1_S1 u0 u1 u2 u3) (m_guard_machine_look_v1_B1 u0 u1 u2 u3) (m_guard_machine_look_v1_R u0)
section
variable (u0 : Machine) (u2 : Bool) (u7 : Int) (r_ : ((List Short) × Int)) (u6 : Int) (u5 : Int) (u3 : Int) (u4 : (List (Int × Int)))
abbrev k589 : List CV := [(.own 1 false u0.clearing.events.length), (cB u0.clearing.cleared), (cI u0.clearing.millis), (cI u0.clearing.energy), (.d (k277 u0)), (.d (k278 u0)), (.d (k279 u0)), (.d (k280 u0)), (.d (k281 u0)), (.d (k282 u0)), (.d (k283 u0)), (cI u0.p.buses), (.own 2 true u0.p.sources.length), (.own 3 true u0.p.links.length), (.own 4 true u0.p.racks.length), (cI u0.bus), (.d (k287 u0 u2)), (cI u0.total), (.mp 5), (cI u0.now)]
abbrev k588 : Nat × Option Ob := (0, some (.cells 137 (k589 u0 u2)))
abbrev k587 : List (Nat × Option Ob) := [(k588 u0 u2), (k269 u0), (k578 u0), (k579 u0), (k580 u0), (k328 u0)]
abbrev k590 : List (Nat × Option Ob) := [(0, some (.cells 137 [(.own 1 false u0.clearing.events.length), (cB u0.clearing.cleared), (cI u0.clearing.millis), (cI u0.clearing.energy), (.d (k277 u0)), (.d (k278 u0)), (.d (k279 u0)), (.d (k280 u0)), (.d (k281 u0)), (.d (k282 u0)), (.d (k283 u0)), (cI u0.p.buses), (.own 2 true u0.p.sources.length), (.own 3 true u0.p.links.length), (.own 4 true u0.p.racks.length), (cI u0.bus), (.d (k287 u0 u2)), (cI 0), (.mp 5), (cI u0.now)])), (k269 u0), (k578 u0), (k579 u0), (k580 u0), (k328 u0)]
abbrev k591 : List (Nat × Option Ob) := [(0, some (.cells 137 [(.own 1 false u0.clearing.events.length), (cB u0.clearing.cleared), (cI u0.clearing.millis), (cI u0.clearing.energy), (.d (k277 u0)), (.d (k278 u0)), (.d (k279 u0)), (.d (k280 u0)), (.d (k281 u0)), (.d (k282 u0)), (.d (k283 u0)), (cI u0.p.buses), (.own 2 true u0.p.sources.length), (.own 3 true u0.p.links.length), (.own 4 true u0.p.racks.length), (cI u0.bus), (.d (k287 u0 u2)), (cI (IntKind.wrap .i64 (u7 + ((at' r_.1 u6.toNat).amps)))), (.mp 5), (cI u0.now)])), (k269 u0), (k578 u0), (k579 u0), (k580 u0), (k328 u0)]
abbrev k592 : List (Nat × Option Ob) := [(k582 u0 u2 u5), (k269 u0), (k578 u0), (k579 u0), (k580 u0), (5, some (mpD 3 3 false false 1 1 (intC .i64) (intC .i64) (mset eqI u3 u0.now u4)))]
end
theorem m_guard_machine_look_v1_ok (u0 : Machine) (u2 : Bool) {r : (Machine × Bool)} (h : m_guard_machine_look u0 u2 = some r) : Fn Try.prog 108 [(.one (.ptr 0 0))] (k587 u0 u2) (.tup []) [(0, some (.cells 137 [(.own 1 false u0.clearing.events.length), (cB r.1.clearing.cleared), (cI r.1.clearing.millis), (cI r.1.clearing.energy), (.d (slD none 1 boolC r.1.clearing.state.closed)), (.d (slD none 1 boolC r.1.clearing.state.locked)), (.d (slD none 1 boolC r.1.clearing.state.badLink)), (.d (slD none 1 boolC r.1.clearing.state.on_)), (.d (slD none 1 boolC r.1.clearing.state.badSource)), (.d (slD none 1 boolC r.1.clearing.state.earthed)), (.d (slD none 1 boolC r.1.clearing.state.badBus)), (cI r.1.p.buses), (.own 2 true u0.p.sources.length), (.own 3 true u0.p.links.length), (.own 4 true u0.p.racks.length), (cI r.1.bus), (.d (slD (some r.2) 1 (intC .i64) r.1.amps)), (cI r.1.total), (.mp 5), (cI r.1.now)])), (k269 u0), (k578 u0), (k579 u0), (k580 u0), (5, some (mpD 3 3 false false 1 1 (intC .i64) (intC .i64) r.1.since))] := by
 refine fN tT Try.func108 rfl rfl fun B => ?_
 show AWp _ _ _ _ _ _ ((m_guard_machine_look_v1_R u0) r) _
 unfold m_guard_machine_look at h
 refine aQ (bE h fun r_ hr_ h => ?_)
 have q0 := rk [(0, 2), (1, 3), (0, 4)] (m_flow_Shorts_v1_ok u0.p u0.clearing.state u0.bus hr_)
 refine dg tT mX ⟨[(0, (vP 0 0)), (2, (vD (slD none 4 Short.cell r_.1)))], (k587 u0 u2)⟩ [_] { an := [(13, cR q0 [2, 3, 4])] } [] ⟨q0, trivial⟩ ?_
 refine aQ (bE h fun u1 hr_1 h => ?_)
 have q0 := rk [(0, 2), (1, 3), (0, 4)] (m_flow_Through_v1_ok u0.p r_.1 hr_1)
 refine rg tT ⟨(k302 r_ u1), (k587 u0 u2)⟩ [_] { an := [(5, cR q0 [2, 3, 4])] } [] ⟨q0, trivial⟩ ?_
 refine sz tT ⟨(k302 r_ u1), (k590 u0 u2)⟩ {} [] ?_
 refine aQ (sz tT ⟨(k304 r_ u1), (k590 u0 u2)⟩ {} [] ?_)
 refine bE h fun y hy h => ?_
 refine aL [] (m_guard_machine_look_v1_S0 u0 u2 r_ u1) (m_guard_machine_look_v1_B0 u0 u2 u1) (m_guard_machine_look_v1_R u0) hy (fun s f h => ?_) ?_
 ·clear hy
  show AWp _ _ _ _ _ _ ((m_guard_machine_look_v1_Q0 u0 u2 r_ u1) f) _
  unfold m_guard_machine_look_L0 at h
  obtain ⟨u7, u6⟩ := s
  refine sz tT ⟨(k305 r_ u1 u6), (k581 u0 u2 u7)⟩ {} [] ?_
  refine aQ ?_
  refine bI h (fun hb h => ?_) (fun hb h => ?_)
  ·refine ct hb ?_
   refine aP (aQ (aB (aQ (aO h fun a1 h => ?_))))
   refine rg tT ⟨(k306 r_ u1 u6), (k581 u0 u2 u7)⟩ [_] { fr := [(2, 13)] } [13] ⟨a1, trivial⟩ ?_
   refine dg tT mX ⟨(k271 u1 r_ u6), (k591 u0 u2 u7 r_ u6)⟩ [] {} [] trivial ?_
   refine rz tT ⟨(k308 r_ u1 u6), (k591 u0 u2 u7 r_ u6)⟩ {} [] ?_
   obtain rfl := oi h
   exact lN (by kernel_rfl)
  ·refine cf hb ?_
   refine aI (fz (k583 u1 u0 u2 u7) []) ?_
   refine aX ?_
   obtain rfl := oi h
   exact lB (by kernel_rfl)
 ·clear hy
  cases y with
  | brk z =>
   obtain ⟨u5, rfl⟩ : ∃ q, q = z := ⟨_, rfl⟩
   unfold ExK
   refine ⟨_, .refl, ?_⟩
   refine aQ (sz tT ⟨(k309 u1), (k581 u0 u2 u5)⟩ {} [] ?_)
   refine bE h fun y1 hy h => ?_
   refine aL [] (m_guard_machine_look_v1_S1 u0 u2 u1 u5) (m_guard_machine_look_v1_B1 u0 u2 u1 u5) (m_guard_machine_look_v1_R u0) hy (fun s f h => ?_) ?_
   ·clear hy
    show AWp _ _ _ _ _ _ ((m_guard_machine_look_v1_Q1 u0 u2 u1 u5) f) _
    unfold m_guard_machine_look_L1 at h
    obtain ⟨u4, u3⟩ := s
    refine sz tT ⟨(k310 u1 u3), (k584 u4 u0 u2 u5)⟩ {} [] ?_
    refine aQ ?_
    refine bI h (fun hb2 h => ?_) (fun hb2 h => ?_)
    ·refine ct hb2 ?_
     refine aP (aQ (aB (aQ (aO h fun a1 h => ?_))))
     refine rg tT ⟨(k311 u1 u3), (k584 u4 u0 u2 u5)⟩ [_] {} [] ⟨a1, trivial⟩ ?_
     refine aQ (aO h fun a1 h => ?_)
     refine rg tT ⟨(k312 u0 u2 u1 u3), (k584 u4 u0 u2 u5)⟩ (k313 u0 u2 u3) { yb := [(5, (!u2))] } [] (ae ⟨(fun hg => ⟨(a1 (gB_of hg)), trivial⟩), (ae trivial)⟩) ?_
     refine bI h (fun hb1 h => ?_) (fun hb1 h => ?_)
     ·refine ct hb1 ?_
      refine dg tT mX ⟨(k292 u1 u3), (k592 u0 u2 u5 u3 u4)⟩ [SetAt [some .i64] 1 1 u4.length (kOf (intC .i64) u4) (vOf (intC .i64) u4) [(.int .i64 u3)] [(cI u0.now)] [] (mset eqI u3 u0.now u4).length (kOf (intC .i64) (mset eqI u3 u0.now u4)) (vOf (intC .i64) (mset eqI u3 u0.now u4))] { an := [(9, .map (mset eqI u3 u0.now u4).length (kOf (intC .i64) (mset eqI u3 u0.now u4)) (vOf (intC .i64) (mset eqI u3 u0.now u4)) [])] } [] ⟨(setAt_of (fun _ => rfl) (fun _ _ => rfl) u4 u3 u0.now rfl rfl), trivial⟩ ?_
      refine rz tT ⟨(k315 u1 u3), (k592 u0 u2 u5 u3 u4)⟩ {} [] ?_
      obtain rfl := oi h
      exact lN (by kernel_rfl)
     ·refine cf hb1 ?_
      refine aP (rz tT ⟨(k315 u1 u3), (k584 u4 u0 u2 u5)⟩ {} [] ?_)
      obtain rfl := oi h
      exact lN (by kernel_rfl)
    ·refine cf hb2 ?_
     refine aI (fz (k586 u1 u0 u2 u5 u4) []) ?_
     refine aX ?_
     obtain rfl := oi h
     exact lB (by kernel_rfl)
   ·clear hy
    cases y1 with
    | brk z =>
     obtain ⟨u8, rfl⟩ : ∃ q, q = z := ⟨_, rfl⟩
     unfold ExK
     refine ⟨_, .refl, ?_⟩
     refine rz tT ⟨[], [(0, some (.cells 137 [(.own 1 false u0.clearing.events.length), (cB u0.clearing.cleared), (cI u0.clearing.millis), (cI u0.clearing.energy), (.d (k277 u0)), (.d (k278 u0)), (.d (k279 u0)), (.d (k280 u0)), (.d (k281 u0)), (.d (k282 u0)), (.d (k283 u0)), (cI u0.p.buses), (.own 2 true u0.p.sources.length), (.own 3 true u0.p.links.length), (.own 4 true u0.p.racks.length), (cI u0.bus), (.d (slD (some u1.2.1) 1 (intC .i64) u1.1)), (cI u5), (.mp 5), (cI u0.now)])), (k269 u0), (k578 u0), (k579 u0), (k580 u0), (k585 u8)]⟩ {} [] ?_
     obtain rfl := oi h
     exact RetQ.mk (.inl rfl) (p := []) (l := []) (by kernel_rfl) trivial (TLe.refl _) ⟨rfl, .refl _, ⟨rfl, .refl _, ⟨rfl, .refl _, ⟨rfl, .refl _, ⟨rfl, .refl _, ⟨rfl, .refl _, trivial⟩⟩⟩⟩⟩⟩
    | ret v =>
     obtain rfl := oi h
     unfold ExK
     intro e st hn ha hR
     cases e with
     | normal => exact absurd rfl hn
     | exit id => exact hR
     | goto l => exact hR
     | ret => exact hR
     | panic c => exact hR
     | outgrown => exact hR
  | ret v =>
   obtain rfl := oi h
   unfold ExK
   intro e st hn ha hR
   cases e with
   | normal => exact absurd rfl hn
   | exit id => exact hR
   | goto l => exact hR
   | ret => exact hR
   | panic c => exact hR
   | outgrown => exact hR
section
variable (u0 : Machine) (u1 : Bool)
abbrev k593 : List (Nat × Option Ob) := [(k588 u0 u1), (k269 u0), (k578 u0), (k579 u0), (k580 u0), (k328 u0), (6, some k317)]
end
def m_guard_machine_armed_v1_R (u0 : Machine) (u1 : Bool) : Unit → Exit → St → Prop :=
  fun _ => RetQ TT [.tmp 2] (.v (.one (.fn 153 0 1 (capC [(.ptr 6 0)])))) (k593 u0 u1)
section
variable (u0 : Machine) (u1 : Bool)
abbrev k594 : List (Nat × Option Ob) := [(k588 u0 u1), (k269 u0), (k578 u0), (k579 u0), (k580 u0), (k328 u0), (7, some k317)]
end
theorem m_guard_machine_armed_v1_ok (u0 : Machine) (u1 : Bool) {r : Unit} (h : m_guard_machine_armed u0 u1 = some r) : Fn Try.prog 144 [(.one (.ptr 0 0))] (k587 u0 u1) (.v (.one (.fn 153 0 1 (capC [(.ptr 6 0)])))) (k593 u0 u1) := by
 refine fN tT Try.func144 rfl rfl fun B => ?_
 show AWp _ _ _ _ _ _ ((m_guard_machine_armed_v1_R u0 u1) r) _
 unfold m_guard_machine_armed at h
 refine sz tT ⟨[(1, (vP 7 0))], (k594 u0 u1)⟩ { fr := [(0, 7)] } [] ?_
 refine sz tT ⟨[(2, (.v (.one (.fn 153 0 1 (capC [(.ptr 7 0)])))))], (k594 u0 u1)⟩ {} [] ?_
 refine aI (Imp.fin (st' := ⟨[(2, (.v (.one (.fn 153 0 1 (capC [(.ptr 6 0)])))))], (k593 u0 u1)⟩) (cs := []) ⟨[], [(0, 0), (1, 1), (2, 2), (3, 3), (4, 4), (5, 5), (7, 6)]⟩ [2] (by kernel_rfl) trivial) ?_
 refine aR ?_
 obtain rfl := oi h
 exact rh [(.one (.fn 153 0 1 (capC [(.ptr 6 0)])))] (.refl _) ⟨rfl, .refl _, ⟨rfl, .refl _, ⟨rfl, .refl _, ⟨rfl, .refl _, ⟨rfl, .refl _, ⟨rfl, .refl _, ⟨rfl, .refl _, trivial⟩⟩⟩⟩⟩⟩⟩
section
variable (u0 : Machine) (u1 : Bool)
abbrev k595 : Nat × Option Ob := (3, some (.cells 137 [(.own 4 false u0.clearing.events.length), (cB u0.clearing.cleared), (cI u0.clearing.millis), (cI u0.clearing.energy), (.d (k277 u0)), (.d (k278 u0)), (.d (k279 u0)), (.d (k280 u0)), (.d (k281 u0)), (.d (k282 u0)), (.d (k283 u0)), (cI u0.p.buses), (.own 5 true u0.p.sources.length), (.own 6 true u0.p.links.length), (.own 7 true u0.p.racks.length), (cI u0.bus), (.d (k287 u0 u1)), (cI u0.total), (.mp 8), (cI u0.now)]))
abbrev k596 : Nat × Option Ob := (5, some (arD 126 5 Source.cell u0.p.sources))
abbrev k597 : Nat × Option Ob := (6, some (arD 53 6 Link.cell u0.p.links))
abbrev k598 : Nat × Option Ob := (7, some (arD 166 4 Rack.cell u0.p.racks))
abbrev k599 : Nat × Option Ob := (8, some (k289 u0))
end
def m_guard_machine_armed_1_v2_R (u0 : Machine) (u1 : Bool) : Int → Exit → St → Prop :=
  fun r => RetQ TT [] (.tup []) [k324, k325, (2, some (.cells 3 [(cI r)])), (k595 u0 u1), (k327 u0), (k596 u0), (k597 u0), (k598 u0), (k599 u0)]
section
variable (u0 : Machine) (u2 : Int) (u1 : Bool)
abbrev k600 : Nat × TV := (11, (vO 6 true u0.p.links.length))
abbrev k601 : List (Nat × Option Ob) := [k324, k325, (k334 u2), (k595 u0 u1), (k327 u0), (k596 u0), (k597 u0), (k598 u0), (k599 u0)]
end
def m_guard_machine_armed_1_v2_S0 (u0 : Machine) (u1 : Bool) : (Int × Int) → St :=
  fun zz => match zz with | (u2, u3) => ⟨[k330, (1, (vP 1 0)), (k600 u0), (k332 u0), (13, (vI u3))], (k601 u0 u2 u1)⟩
def m_guard_machine_armed_1_v2_B0 (u0 : Machine) (u1 : Bool) : Int → St :=
  fun o301 => ⟨[], [k324, k325, (2, some (.cells 3 [(cI o301)])), (k595 u0 u1), (k327 u0), (k596 u0), (k597 u0), (k598 u0), (k599 u0)]⟩
def m_guard_machine_armed_1_v2_Q0 (u0 : Machine) (u1 : Bool) : (Flow (Int × Int) (Ex Int Int)) → Exit → St → Prop :=
  LQ 0 [] (m_guard_machine_armed_1_v2_S0 u0 u1) (m_guard_machine_armed_1_v2_B0 u0 u1) (m_guard_machine_armed_1_v2_R u0 u1)
section
variable (u0 : Machine) (u1 : Int) (u3 : Int) (u2 : Bool) (u4 : Int)
abbrev k602 : St := ⟨[k330, (1, (vP 1 0)), (k600 u0), (k332 u0), (13, (k30 u1))], (k601 u0 u3 u2)⟩
abbrev k603 : St := ⟨[], (k601 u0 u4 u2)⟩
end
theorem m_guard_machine_armed_1_v2_ok (u5 : Int) (u0 : Machine) (u2 : Bool) {r : Int} (h : m_guard_machine_armed_1 u5 u0 u2 = some r) : Fn Try.prog 153 k335 (k601 u0 u5 u2) (.tup []) [k324, k325, (2, some (.cells 3 [(cI r)])), (k595 u0 u2), (k327 u0), (k596 u0), (k597 u0), (k598 u0), (k599 u0)] := by
 refine fN tT Try.func153 rfl rfl fun B => ?_
 show AWp _ _ _ _ _ _ ((m_guard_machine_armed_1_v2_R u0 u2) r) _
 unfold m_guard_machine_armed_1 at h
 refine sz tT ⟨[k330, (1, (vP 1 0)), (k600 u0), (k332 u0), (13, (vI 0))], (k601 u0 u5 u2)⟩ {} [] ?_
 refine bE h fun y hy h => ?_
 refine aL [] (m_guard_machine_armed_1_v2_S0 u0 u2) (m_guard_machine_armed_1_v2_B0 u0 u2) (m_guard_machine_armed_1_v2_R u0 u2) hy (fun s f h => ?_) ?_
 ·clear hy
  show AWp _ _ _ _ _ _ ((m_guard_machine_armed_1_v2_Q0 u0 u2) f) _
  unfold m_guard_machine_armed_1_L0 at h
  obtain ⟨u3, u1⟩ := s
  refine sz tT ⟨[k330, (1, (vP 1 0)), (k600 u0), (k332 u0), (13, (vI u1)), (14, (vB (decide (u1 < (u0.p.links.length : Int)))))], (k601 u0 u3 u2)⟩ {} [] ?_
  refine aQ ?_
  refine bI h (fun hb3 h => ?_) (fun hb3 h => ?_)
  ·refine ct hb3 ?_
   refine aP (aQ (aB (aQ (aO h fun a1 h => ?_))))
   refine rg tT ⟨[k330, (1, (vP 1 0)), (3, (vI u1)), (k339 u0 u1), (k600 u0), (k332 u0), (13, (vI u1))], (k601 u0 u3 u2)⟩ [_, _] { fr := [(3, 16)] } [16] ⟨a1, (tL a1), trivial⟩ ?_
   refine aQ (aQ (aO h fun ⟨a1, a2⟩ h => ?_))
   refine rg tT ⟨[k330, (1, (vP 1 0)), (3, (vI u1)), (k339 u0 u1), (k600 u0), (k332 u0), (13, (vI u1)), (k342 u0 u1)], (k601 u0 u3 u2)⟩ (k345 u0 u1) { yb := [(3, (k344 u0 u1)), (15, (k343 u0 u1))] } [] (ae ⟨(fun hg => ⟨(a1 (gB_of hg)), trivial⟩), (ae (ae ⟨(fun hg => ⟨(a2 (gB_of hg)), trivial⟩), (ae trivial)⟩))⟩) ?_
   refine bI h (fun hb2 h => ?_) (fun hb2 h => ?_)
   ·refine ct hb2 ?_
    refine aX (rz tT (k602 u0 u1 u3 u2) {} [] ?_)
    obtain rfl := oi h
    exact lN (by kernel_rfl)
   ·refine cf hb2 ?_
    refine aP (aQ (bE h fun r_ hr_ h => ?_))
    refine aO h fun a1 h => ?_
    have q1 := m_guard_Delay_ok (k340 u0 u1) (at' u0.amps u1.toNat) hr_
    refine dg tT mX ⟨[k330, (1, (vP 1 0)), (3, (vI u1)), (5, (vI r_.1)), (6, (vB r_.2)), (k600 u0), (k332 u0), (13, (vI u1))], (k601 u0 u3 u2)⟩ [_, _] { an := [(8, cA q1 [])] } [] ⟨a1, q1, trivial⟩ ?_
    refine aQ ?_
    refine bI h (fun hb h => ?_) (fun hb h => ?_)
    ·skip
     refine bE h fun u4 hr_1 h => ?_
     refine ri tT ⟨[k330, (1, (vP 1 0)), (k600 u0), (k332 u0), (13, (vI u1)), (70, (vB (bif r_.2 then (!true) else false)))], (k601 u0 u4 u2)⟩ [r_.2 = true, r_.2 = true, r_.2 = true, r_.2 = true, r_.2 = true, r_.2 = true, r_.2 = true, r_.2 = true, gP (ybf [(1, true)]) [(1, true)] → All [LookAt [some .i64] 1 1 u0.since.length (kOf (intC .i64) u0.since) (vOf (intC .i64) u0.since) [(.int .i64 u1)] [(.d (.int .i64 0))] (mget eqI u1 u0.since).isSome (k351 u0 u1)], r_.2 = true, r_.2 = true, r_.2 = true, gP (ybf [(1, true)]) [(1, true)] → All [Yl Try.prog 0 (k352 u0 u1 r_) (k354 u3) (vB true) (k354 u4)], gP (ybf [(1, true)]) [(1, true)], r_.2 = true, r_.2 = true] { yb := [(1, true)], an := [(9, .look (mget eqI u1 u0.since).isSome (k351 u0 u1)), (12, .call [0, 2] (vB true) (k354 u4))] } [] ⟨(hb), (hb), (hb), (hb), (hb), (hb), (hb), (hb), (fun hg => ⟨(lookAt_of (fun _ => rfl) (fun _ _ => rfl) u0.since u1 0 rfl rfl rfl), trivial⟩), (hb), (hb), (hb), (fun hg => ⟨(Yl.renK [(1, 2)] (m_guard_machine_round_r0_Y_ok u1 (k353 u0 u1 r_) u3 hr_1) (by kernel_rfl) (by kernel_rfl) (by kernel_rfl) (by kernel_rfl) (by kernel_rfl)), trivial⟩), (⟨rfl, trivial⟩), (hb), (hb), trivial⟩ (Imp.le (st' := ⟨[k330, (1, (vP 1 0)), (k600 u0), (k332 u0), (13, (vI u1)), (70, (vB (!true)))], (k601 u0 u4 u2)⟩) ⟨⟨tR, tR, tR, tR, tR, ⟨_, rfl, TLe.v (SLe.one (CLe.of (congrArg (fun b => CV.d (.bool b)) (bifT hb))))⟩, trivial⟩, ⟨rfl, .refl _, ⟨rfl, .refl _, ⟨rfl, .refl _, ⟨rfl, .refl _, ⟨rfl, .refl _, ⟨rfl, .refl _, ⟨rfl, .refl _, ⟨rfl, .refl _, ⟨rfl, .refl _, trivial⟩⟩⟩⟩⟩⟩⟩⟩⟩⟩) ?_
     refine bI h (fun hb1 h => ?_) (fun hb1 h => ?_)
     ·refine ct hb1 ?_
      refine aI (fz (k603 u0 u2 u4) []) ?_
      refine aR ?_
      obtain rfl := oi h
      exact lR ret_nn (ret_ne 0) av_ret (RetQ.mk (.inr rfl) (p := []) (l := []) (by kernel_rfl) trivial (TLe.refl _) ⟨rfl, .refl _, ⟨rfl, .refl _, ⟨rfl, .refl _, ⟨rfl, .refl _, ⟨rfl, .refl _, ⟨rfl, .refl _, ⟨rfl, .refl _, ⟨rfl, .refl _, ⟨rfl, .refl _, trivial⟩⟩⟩⟩⟩⟩⟩⟩⟩)
     ·refine cf hb1 ?_
      refine aP (rz tT (k602 u0 u1 u4 u2) {} [] ?_)
      obtain rfl := oi h
      exact lN (by kernel_rfl)
    ·skip
     refine ri tT ⟨[k330, (1, (vP 1 0)), (k600 u0), (k332 u0), (13, (vI u1)), (70, (vB (bif r_.2 then false else false)))], (k601 u0 u3 u2)⟩ [r_.2 = false, ¬ gP (ybf [(1, false)]) [(1, true)], r_.2 = false, ¬ gP (ybf [(1, false)]) [(1, true)], r_.2 = false, ¬ gP (ybf [(1, false)]) [(1, true)], r_.2 = false, ¬ gP (ybf [(1, false)]) [(1, true)], r_.2 = false, ¬ gP (ybf [(1, false)]) [(1, true)], r_.2 = false, ¬ gP (ybf [(1, false)]) [(1, true)], r_.2 = false, ¬ gP (ybf [(1, false)]) [(1, true)], r_.2 = false, ¬ gP (ybf [(1, false)]) [(1, true)], r_.2 = false, ¬ gP (ybf [(1, false)]) [(1, true)], r_.2 = false, ¬ gP (ybf [(1, false)]) [(1, true)], r_.2 = false, ¬ gP (ybf [(1, false)]) [(1, true)], r_.2 = false, ¬ gP (ybf [(1, false)]) [(1, true)], r_.2 = false] { yb := [(1, false)], an := [(2, .skip), (3, .skip), (4, .skip), (5, .skip), (6, .skip), (7, .skip), (8, .skip), (9, .skip), (10, .skip), (11, .skip), (12, .skip), (13, .skip)] } [] ⟨(hb), ((fun h => Bool.noConfusion (show false = true from h.1))), (hb), ((fun h => Bool.noConfusion (show false = true from h.1))), (hb), ((fun h => Bool.noConfusion (show false = true from h.1))), (hb), ((fun h => Bool.noConfusion (show false = true from h.1))), (hb), ((fun h => Bool.noConfusion (show false = true from h.1))), (hb), ((fun h => Bool.noConfusion (show false = true from h.1))), (hb), ((fun h => Bool.noConfusion (show false = true from h.1))), (hb), ((fun h => Bool.noConfusion (show false = true from h.1))), (hb), ((fun h => Bool.noConfusion (show false = true from h.1))), (hb), ((fun h => Bool.noConfusion (show false = true from h.1))), (hb), ((fun h => Bool.noConfusion (show false = true from h.1))), (hb), ((fun h => Bool.noConfusion (show false = true from h.1))), (hb), trivial⟩ (Imp.le (st' := ⟨[k330, (1, (vP 1 0)), (k600 u0), (k332 u0), (13, (vI u1)), (70, (vB false))], (k601 u0 u3 u2)⟩) ⟨⟨tR, tR, tR, tR, tR, ⟨_, rfl, TLe.v (SLe.one (CLe.of (congrArg (fun b => CV.d (.bool b)) (bifF hb))))⟩, trivial⟩, ⟨rfl, .refl _, ⟨rfl, .refl _, ⟨rfl, .refl _, ⟨rfl, .refl _, ⟨rfl, .refl _, ⟨rfl, .refl _, ⟨rfl, .refl _, ⟨rfl, .refl _, ⟨rfl, .refl _, trivial⟩⟩⟩⟩⟩⟩⟩⟩⟩⟩) ?_
     refine cn (aP (rz tT (k602 u0 u1 u3 u2) {} [] ?_))
     obtain rfl := oi h
     exact lN (by kernel_rfl)
  ·refine cf hb3 ?_
   refine aI (fz (k603 u0 u2 u3) []) ?_
   refine aX ?_
   obtain rfl := oi h
   exact lB (by kernel_rfl)
 ·clear hy
  cases y with
  | brk z =>
   obtain ⟨o301, rfl⟩ : ∃ q, q = z := ⟨_, rfl⟩
   unfold ExK
   refine ⟨_, .refl, ?_⟩
   obtain rfl := oi h
   exact RetQ.mk (.inl rfl) (p := []) (l := []) (by kernel_rfl) trivial (TLe.refl _) ⟨rfl, .refl _, ⟨rfl, .refl _, ⟨rfl, .refl _, ⟨rfl, .refl _, ⟨rfl, .refl _, ⟨rfl, .refl _, ⟨rfl, .refl _, ⟨rfl, .refl _, ⟨rfl, .refl _, trivial⟩⟩⟩⟩⟩⟩⟩⟩⟩
  | ret v =>
   obtain rfl := oi h
   unfold ExK
   intro e st hn ha hR
   cases e with
   | normal => exact absurd rfl hn
   | exit id => exact hR
   | goto l => exact hR
   | ret => exact hR
   | panic c => exact hR
   | outgrown => exact hR
section
variable (u0 : Machine) (u2 : Bool)
abbrev k604 : Nat × Option Ob := (4, some (.cells 137 [(.own 6 false u0.clearing.events.length), (cB u0.clearing.cleared), (cI u0.clearing.millis), (cI u0.clearing.energy), (.d (k277 u0)), (.d (k278 u0)), (.d (k279 u0)), (.d (k280 u0)), (.d (k281 u0)), (.d (k282 u0)), (.d (k283 u0)), (cI u0.p.buses), (.own 7 true u0.p.sources.length), (.own 8 true u0.p.links.length), (.own 9 true u0.p.racks.length), (cI u0.bus), (.d (k287 u0 u2)), (cI u0.total), (.mp 10), (cI u0.now)]))
abbrev k605 : Nat × Option Ob := (7, some (arD 126 5 Source.cell u0.p.sources))
abbrev k606 : Nat × Option Ob := (8, some (arD 53 6 Link.cell u0.p.links))
abbrev k607 : Nat × Option Ob := (9, some (arD 166 4 Rack.cell u0.p.racks))
abbrev k608 : Nat × Option Ob := (10, some (k289 u0))
end
def m_guard_machine_armed_1_v3_R (u1 : Int) (u0 : Machine) (u2 : Bool) : (List Int) → Exit → St → Prop :=
  fun r => RetQ TT [] (.tup []) [k365, k366, (k334 u1), (3, some (.cells 40 [(.own 11 false r.length)])), (k604 u0 u2), (5, none), (k368 u0), (k605 u0), (k606 u0), (k607 u0), (k608 u0), (11, some (arD 3 1 (intC .i64) r))]
section
variable (u0 : Machine) (u2 : Int) (u1 : (List Int)) (u3 : Bool)
abbrev k609 : Nat × TV := (11, (vO 8 true u0.p.links.length))
abbrev k610 : List (Nat × Option Ob) := [k365, k366, (k334 u2), (3, some (.cells 40 [(.own 27 false u1.length)])), (k604 u0 u3), (5, none), (k368 u0), (k605 u0), (k606 u0), (k607 u0), (k608 u0), (27, some (k238 u1))]
end
def m_guard_machine_armed_1_v3_S0 (u2 : Int) (u0 : Machine) (u3 : Bool) : ((List Int) × Int) → St :=
  fun zz => match zz with | (u1, u4) => ⟨[k330, (1, (vP 1 0)), (k609 u0), (k332 u0), (13, (vI u4))], (k610 u0 u2 u1 u3)⟩
def m_guard_machine_armed_1_v3_B0 (u1 : Int) (u0 : Machine) (u2 : Bool) : (List Int) → St :=
  fun o601 => ⟨[], [k365, k366, (k334 u1), (3, some (.cells 40 [(.own 27 false o601.length)])), (k604 u0 u2), (5, none), (k368 u0), (k605 u0), (k606 u0), (k607 u0), (k608 u0), (27, some (arD 3 1 (intC .i64) o601))]⟩
def m_guard_machine_armed_1_v3_Q0 (u0 : Int) (u1 : Machine) (u2 : Bool) : (Flow ((List Int) × Int) (Ex (List Int) (List Int))) → Exit → St → Prop :=
  LQ 0 [] (m_guard_machine_armed_1_v3_S0 u0 u1 u2) (m_guard_machine_armed_1_v3_B0 u0 u1 u2) (m_guard_machine_armed_1_v3_R u0 u1 u2)
section
variable (u2 : Int) (o_ : (List Int)) (u0 : Machine) (u3 : Bool) (u1 : Int) (u4 : (List Int)) (u5 : (List Int))
abbrev k611 : List (Nat × Option Ob) := [k365, k366, (k334 u2), (3, some (.cells 40 [(.own 5 false o_.length)])), (k604 u0 u3), (5, some (k238 o_)), (k368 u0), (k605 u0), (k606 u0), (k607 u0), (k608 u0)]
abbrev k612 : List (Nat × TV) := [k330, (1, (vP 1 0)), (k609 u0), (k332 u0), (13, (vI 0))]
abbrev k614 : List (Nat × TV) := [k330, (1, (vP 1 0)), (k609 u0), (k332 u0), (13, (k30 u1))]
abbrev k613 : St := ⟨(k614 u0 u1), (k610 u0 u2 u4 u3)⟩
abbrev k615 : List (Nat × Option Ob) := [k365, k366, (k334 u2), (3, some (.cells 40 [(.own 31 false u5.length)])), (k604 u0 u3), (5, none), (k368 u0), (k605 u0), (k606 u0), (k607 u0), (k608 u0), (31, some (k238 u5))]
abbrev k616 : List (Nat × Option Ob) := [k365, (k334 u2), (3, some (.cells 40 [(.own 31 false u5.length)])), (27, none), (31, some (k238 u5))]
end
theorem m_guard_machine_armed_1_v3_ok (u2 : Int) (o_ : (List Int)) (u0 : Machine) (u3 : Bool) {r : (List Int)} (h : m_guard_machine_armed_1_v1 u2 o_ u0 u3 = some r) : Fn Try.prog 153 k335 (k611 u2 o_ u0 u3) (.tup []) [k365, k366, (k334 u2), (3, some (.cells 40 [(.own 11 false r.length)])), (k604 u0 u3), (5, none), (k368 u0), (k605 u0), (k606 u0), (k607 u0), (k608 u0), (11, some (arD 3 1 (intC .i64) r))] := by
 refine fN tT Try.func153 rfl rfl fun B => ?_
 show AWp _ _ _ _ _ _ ((m_guard_machine_armed_1_v3_R u2 u0 u3) r) _
 unfold m_guard_machine_armed_1_v1 at h
 refine sz tT ⟨(k612 u0), (k611 u2 o_ u0 u3)⟩ {} [] ?_
 refine bE h fun y hy h => ?_
 refine aI (.trans (Imp.reown (E0 := 40) (cs := [(.own 5 false o_.length)]) (nn := false) (len := o_.length) (E := 3) (esz := 1) (n := o_.length) (el := elOf (intC .i64) o_) (p := 3) (q := 0) (b := 5) (b' := 32) (by kernel_rfl) (by kernel_rfl) (by kernel_rfl) (by kernel_rfl)) (.trans (fz ⟨(k612 u0), [k365, k366, (k334 u2), (3, some (.cells 40 [(.own 32 false o_.length)])), (k604 u0 u3), (5, none), (k368 u0), (k605 u0), (k606 u0), (k607 u0), (k608 u0), (32, some (k238 o_))]⟩ []) (Imp.fin (st' := ⟨(k612 u0), (k610 u0 u2 o_ u3)⟩) (cs := []) ⟨[], [(0, 0), (1, 1), (2, 2), (3, 3), (4, 4), (5, 5), (6, 6), (7, 7), (8, 8), (9, 9), (10, 10), (32, 27)]⟩ [0, 1, 11, 12, 13] (by kernel_rfl) trivial))) ?_
 refine aL [] (m_guard_machine_armed_1_v3_S0 u2 u0 u3) (m_guard_machine_armed_1_v3_B0 u2 u0 u3) (m_guard_machine_armed_1_v3_R u2 u0 u3) hy (fun s f h => ?_) ?_
 ·clear hy
  show AWp _ _ _ _ _ _ ((m_guard_machine_armed_1_v3_Q0 u2 u0 u3) f) _
  unfold m_guard_machine_armed_1_v1_L0 at h
  obtain ⟨u4, u1⟩ := s
  refine sz tT ⟨[k330, (1, (vP 1 0)), (k609 u0), (k332 u0), (13, (vI u1)), (14, (vB (decide (u1 < (u0.p.links.length : Int)))))], (k610 u0 u2 u4 u3)⟩ {} [] ?_
  refine aQ ?_
  refine bI h (fun hb3 h => ?_) (fun hb3 h => ?_)
  ·refine ct hb3 ?_
   refine aP (aQ (aB (aQ (aO h fun a1 h => ?_))))
   refine rg tT ⟨[k330, (1, (vP 1 0)), (3, (vI u1)), (k339 u0 u1), (k609 u0), (k332 u0), (13, (vI u1))], (k610 u0 u2 u4 u3)⟩ [_, _] { fr := [(3, 30)] } [30] ⟨a1, (tL a1), trivial⟩ ?_
   refine aQ (aQ (aO h fun ⟨a1, a2⟩ h => ?_))
   refine rg tT ⟨[k330, (1, (vP 1 0)), (3, (vI u1)), (k339 u0 u1), (k609 u0), (k332 u0), (13, (vI u1)), (k342 u0 u1)], (k610 u0 u2 u4 u3)⟩ (k345 u0 u1) { yb := [(3, (k344 u0 u1)), (15, (k343 u0 u1))] } [] (ae ⟨(fun hg => ⟨(a1 (gB_of hg)), trivial⟩), (ae (ae ⟨(fun hg => ⟨(a2 (gB_of hg)), trivial⟩), (ae trivial)⟩))⟩) ?_
   refine bI h (fun hb2 h => ?_) (fun hb2 h => ?_)
   ·refine ct hb2 ?_
    refine aX (rz tT (k613 u2 u0 u3 u1 u4) {} [] ?_)
    obtain rfl := oi h
    exact lN (by kernel_rfl)
   ·refine cf hb2 ?_
    refine aP (aQ (bE h fun r_ hr_ h => ?_))
    refine aO h fun a1 h => ?_
    have q1 := m_guard_Delay_ok (k340 u0 u1) (at' u0.amps u1.toNat) hr_
    refine dg tT mX ⟨[k330, (1, (vP 1 0)), (3, (vI u1)), (5, (vI r_.1)), (6, (vB r_.2)), (k609 u0), (k332 u0), (13, (vI u1))], (k610 u0 u2 u4 u3)⟩ [_, _] { an := [(8, cA q1 [])] } [] ⟨a1, q1, trivial⟩ ?_
    refine aQ ?_
    refine bI h (fun hb h => ?_) (fun hb h => ?_)
    ·skip
     refine bE h fun u5 hr_1 h => ?_
     refine ri tT ⟨[k330, (1, (vP 1 0)), (k609 u0), (k332 u0), (13, (vI u1)), (70, (vB (bif r_.2 then (!true) else false)))], (k615 u2 u0 u3 u5)⟩ [r_.2 = true, r_.2 = true, r_.2 = true, r_.2 = true, r_.2 = true, r_.2 = true, r_.2 = true, r_.2 = true, gP (ybf [(1, true)]) [(1, true)] → All [LookAt [some .i64] 1 1 u0.since.length (kOf (intC .i64) u0.since) (vOf (intC .i64) u0.since) [(.int .i64 u1)] [(.d (.int .i64 0))] (mget eqI u1 u0.since).isSome (k351 u0 u1)], r_.2 = true, r_.2 = true, r_.2 = true, gP (ybf [(1, true)]) [(1, true)] → All [Yl Try.prog 0 (k352 u0 u1 r_) [k365, (k334 u2), (3, some (.cells 40 [(.own 27 false u4.length)])), (27, some (k238 u4))] (vB true) (k616 u2 u5)], gP (ybf [(1, true)]) [(1, true)], r_.2 = true, r_.2 = true] { yb := [(1, true)], an := [(9, .look (mget eqI u1 u0.since).isSome (k351 u0 u1)), (12, .call [0, 2, 3, 27] (vB true) (k616 u2 u5))] } [] ⟨(hb), (hb), (hb), (hb), (hb), (hb), (hb), (hb), (fun hg => ⟨(lookAt_of (fun _ => rfl) (fun _ _ => rfl) u0.since u1 0 rfl rfl rfl), trivial⟩), (hb), (hb), (hb), (fun hg => ⟨(Yl.renK [(1, 2), (1, 3), (1, 27), (4, 31)] (m_guard_machine_round_r1_Y_ok u1 (k353 u0 u1 r_) u2 u4 hr_1) (by kernel_rfl) (by kernel_rfl) (by kernel_rfl) (by kernel_rfl) (by kernel_rfl)), trivial⟩), (⟨rfl, trivial⟩), (hb), (hb), trivial⟩ (Imp.le (st' := ⟨[k330, (1, (vP 1 0)), (k609 u0), (k332 u0), (13, (vI u1)), (70, (vB (!true)))], (k615 u2 u0 u3 u5)⟩) ⟨⟨tR, tR, tR, tR, tR, ⟨_, rfl, TLe.v (SLe.one (CLe.of (congrArg (fun b => CV.d (.bool b)) (bifT hb))))⟩, trivial⟩, ⟨rfl, .refl _, ⟨rfl, .refl _, ⟨rfl, .refl _, ⟨rfl, .refl _, ⟨rfl, .refl _, ⟨rfl, .refl _, ⟨rfl, .refl _, ⟨rfl, .refl _, ⟨rfl, .refl _, ⟨rfl, .refl _, ⟨rfl, .refl _, ⟨rfl, .refl _, trivial⟩⟩⟩⟩⟩⟩⟩⟩⟩⟩⟩⟩⟩) ?_
     refine bI h (fun hb1 h => ?_) (fun hb1 h => ?_)
     ·refine ct hb1 ?_
      refine aI (Imp.fin (st' := ⟨[], [k365, k366, (k334 u2), (3, some (.cells 40 [(.own 11 false u5.length)])), (k604 u0 u3), (5, none), (k368 u0), (k605 u0), (k606 u0), (k607 u0), (k608 u0), (11, some (k238 u5))]⟩) (cs := []) ⟨[], [(0, 0), (1, 1), (2, 2), (3, 3), (4, 4), (5, 5), (6, 6), (7, 7), (8, 8), (9, 9), (10, 10), (31, 11)]⟩ [] (by kernel_rfl) trivial) ?_
      refine aR ?_
      obtain rfl := oi h
      exact lR ret_nn (ret_ne 0) av_ret (RetQ.mk (.inr rfl) (p := []) (l := []) (by kernel_rfl) trivial (TLe.refl _) ⟨rfl, .refl _, ⟨rfl, .refl _, ⟨rfl, .refl _, ⟨rfl, .refl _, ⟨rfl, .refl _, ⟨rfl, trivial, ⟨rfl, .refl _, ⟨rfl, .refl _, ⟨rfl, .refl _, ⟨rfl, .refl _, ⟨rfl, .refl _, ⟨rfl, .refl _, trivial⟩⟩⟩⟩⟩⟩⟩⟩⟩⟩⟩⟩)
     ·refine cf hb1 ?_
      refine aP (ri tT ⟨(k614 u0 u1), (k615 u2 u0 u3 u5)⟩ [] {} [] trivial (Imp.fin (st' := (k613 u2 u0 u3 u1 u5)) (cs := []) ⟨[], [(0, 0), (1, 1), (2, 2), (3, 3), (4, 4), (5, 5), (6, 6), (7, 7), (8, 8), (9, 9), (10, 10), (31, 27)]⟩ [0, 1, 11, 12, 13] (by kernel_rfl) trivial) ?_)
      obtain rfl := oi h
      exact lN (by kernel_rfl)
    ·skip
     refine ri tT ⟨[k330, (1, (vP 1 0)), (k609 u0), (k332 u0), (13, (vI u1)), (70, (vB (bif r_.2 then false else false)))], (k610 u0 u2 u4 u3)⟩ [r_.2 = false, ¬ gP (ybf [(1, false)]) [(1, true)], r_.2 = false, ¬ gP (ybf [(1, false)]) [(1, true)], r_.2 = false, ¬ gP (ybf [(1, false)]) [(1, true)], r_.2 = false, ¬ gP (ybf [(1, false)]) [(1, true)], r_.2 = false, ¬ gP (ybf [(1, false)]) [(1, true)], r_.2 = false, ¬ gP (ybf [(1, false)]) [(1, true)], r_.2 = false, ¬ gP (ybf [(1, false)]) [(1, true)], r_.2 = false, ¬ gP (ybf [(1, false)]) [(1, true)], r_.2 = false, ¬ gP (ybf [(1, false)]) [(1, true)], r_.2 = false, ¬ gP (ybf [(1, false)]) [(1, true)], r_.2 = false, ¬ gP (ybf [(1, false)]) [(1, true)], r_.2 = false, ¬ gP (ybf [(1, false)]) [(1, true)], r_.2 = false] { yb := [(1, false)], an := [(2, .skip), (3, .skip), (4, .skip), (5, .skip), (6, .skip), (7, .skip), (8, .skip), (9, .skip), (10, .skip), (11, .skip), (12, .skip), (13, .skip)] } [] ⟨(hb), ((fun h => Bool.noConfusion (show false = true from h.1))), (hb), ((fun h => Bool.noConfusion (show false = true from h.1))), (hb), ((fun h => Bool.noConfusion (show false = true from h.1))), (hb), ((fun h => Bool.noConfusion (show false = true from h.1))), (hb), ((fun h => Bool.noConfusion (show false = true from h.1))), (hb), ((fun h => Bool.noConfusion (show false = true from h.1))), (hb), ((fun h => Bool.noConfusion (show false = true from h.1))), (hb), ((fun h => Bool.noConfusion (show false = true from h.1))), (hb), ((fun h => Bool.noConfusion (show false = true from h.1))), (hb), ((fun h => Bool.noConfusion (show false = true from h.1))), (hb), ((fun h => Bool.noConfusion (show false = true from h.1))), (hb), ((fun h => Bool.noConfusion (show false = true from h.1))), (hb), trivial⟩ (Imp.le (st' := ⟨[k330, (1, (vP 1 0)), (k609 u0), (k332 u0), (13, (vI u1)), (70, (vB false))], (k610 u0 u2 u4 u3)⟩) ⟨⟨tR, tR, tR, tR, tR, ⟨_, rfl, TLe.v (SLe.one (CLe.of (congrArg (fun b => CV.d (.bool b)) (bifF hb))))⟩, trivial⟩, ⟨rfl, .refl _, ⟨rfl, .refl _, ⟨rfl, .refl _, ⟨rfl, .refl _, ⟨rfl, .refl _, ⟨rfl, .refl _, ⟨rfl, .refl _, ⟨rfl, .refl _, ⟨rfl, .refl _, ⟨rfl, .refl _, ⟨rfl, .refl _, ⟨rfl, .refl _, trivial⟩⟩⟩⟩⟩⟩⟩⟩⟩⟩⟩⟩⟩) ?_
     refine cn (aP (rz tT (k613 u2 u0 u3 u1 u4) {} [] ?_))
     obtain rfl := oi h
     exact lN (by kernel_rfl)
  ·refine cf hb3 ?_
   refine aI (fz ⟨[], (k610 u0 u2 u4 u3)⟩ []) ?_
   refine aX ?_
   obtain rfl := oi h
   exact lB (by kernel_rfl)
 ·clear hy
  cases y with
  | brk z =>
   obtain ⟨o601, rfl⟩ : ∃ q, q = z := ⟨_, rfl⟩
   unfold ExK
   refine ⟨_, (Imp.fin (st' := ⟨[], [k365, k366, (k334 u2), (3, some (.cells 40 [(.own 11 false o601.length)])), (k604 u0 u3), (5, none), (k368 u0), (k605 u0), (k606 u0), (k607 u0), (k608 u0), (11, some (arD 3 1 (intC .i64) o601))]⟩) (cs := []) ⟨[], [(0, 0), (1, 1), (2, 2), (3, 3), (4, 4), (5, 5), (6, 6), (7, 7), (8, 8), (9, 9), (10, 10), (27, 11)]⟩ [] (by kernel_rfl) trivial), ?_⟩
   obtain rfl := oi h
   exact RetQ.mk (.inl rfl) (p := []) (l := []) (by kernel_rfl) trivial (TLe.refl _) ⟨rfl, .refl _, ⟨rfl, .refl _, ⟨rfl, .refl _, ⟨rfl, .refl _, ⟨rfl, .refl _, ⟨rfl, trivial, ⟨rfl, .refl _, ⟨rfl, .refl _, ⟨rfl, .refl _, ⟨rfl, .refl _, ⟨rfl, .refl _, ⟨rfl, .refl _, trivial⟩⟩⟩⟩⟩⟩⟩⟩⟩⟩⟩⟩
  | ret v =>
   obtain rfl := oi h
   unfold ExK
   intro e st hn ha hR
   cases e with
   | normal => exact absurd rfl hn
   | exit id => exact hR
   | goto l => exact hR
   | ret => exact hR
   | panic c => exact hR
   | outgrown => exact hR
def m_guard_machine_round_v1_R (u0 : Machine) : (Bool × Machine × Bool) → Exit → St → Prop :=
  fun r => RetQ TT [.tmp 2] (vB r.1) [(0, some (.cells 137 [(.own 6 false r.2.1.clearing.events.length), (cB r.2.1.clearing.cleared), (cI r.2.1.clearing.millis), (cI r.2.1.clearing.energy), (.d (slD none 1 boolC r.2.1.clearing.state.closed)), (.d (slD none 1 boolC r.2.1.clearing.state.locked)), (.d (slD none 1 boolC r.2.1.clearing.state.badLink)), (.d (slD none 1 boolC r.2.1.clearing.state.on_)), (.d (slD none 1 boolC r.2.1.clearing.state.badSource)), (.d (slD none 1 boolC r.2.1.clearing.state.earthed)), (.d (slD none 1 boolC r.2.1.clearing.state.badBus)), (cI r.2.1.p.buses), (.own 2 true u0.p.sources.length), (.own 3 true u0.p.links.length), (.own 4 true u0.p.racks.length), (cI r.2.1.bus), (.d (slD (some r.2.2) 1 (intC .i64) r.2.1.amps)), (cI r.2.1.total), (.mp 5), (cI r.2.1.now)])), (1, none), (k578 u0), (k579 u0), (k580 u0), (k328 u0), (6, some (arD 56 2 Event.cell r.2.1.clearing.events))]
section
variable (u1 : Int) (u0 : Machine) (u2 : (List Int)) (u4 : Int) (o0 : (List Event)) (o4 : (List Bool)) (u3 : Bool)
abbrev k617 : List (Nat × TV) := [(0, (vP 0 0)), (k376 u1 u0), (90, (vO 33 false u2.length)), (k377 u2), (92, (vI u4))]
abbrev k619 : Nat × Option Ob := (0, some (.cells 137 [(.own 40 false o0.length), (cB u0.clearing.cleared), (cI (if u1 < u0.now then u0.now else u1)), (cI (k380 u1 u0)), (.own 34 false o4.length), (.d (k278 u0)), (.d (k279 u0)), (.d (k280 u0)), (.d (k281 u0)), (.d (k282 u0)), (.d (k283 u0)), (cI u0.p.buses), (.own 2 true u0.p.sources.length), (.own 3 true u0.p.links.length), (.own 4 true u0.p.racks.length), (cI u0.bus), (.d (k287 u0 u3)), (cI u0.total), (.mp 5), (cI (if u1 < u0.now then u0.now else u1))]))
abbrev k620 : Nat × Option Ob := (33, some (k238 u2))
abbrev k621 : Nat × Option Ob := (34, some (arD 4 1 boolC o4))
abbrev k618 : List (Nat × Option Ob) := [(k619 u1 u0 o0 o4 u3), (1, none), (k578 u0), (k579 u0), (k580 u0), (k328 u0), (k620 u2), (k621 o4), (40, some (arD 56 2 Event.cell o0))]
end
def m_guard_machine_round_v1_S0 (u0 : Machine) (u3 : Bool) (u1 : Int) (u2 : (List Int)) : ((List Event) × (List Bool) × Int) → St :=
  fun zz => match zz with | (o0, o4, u4) => ⟨(k617 u1 u0 u2 u4), (k618 u1 u0 u2 o0 o4 u3)⟩
section
variable (u2 : (List Event)) (u0 : Machine) (u1 : Int) (u3 : (List Bool)) (u4 : Bool)
abbrev k623 : List (Nat × Option Ob) := [(k619 u1 u0 u2 u3 u4), (1, none), (k578 u0), (k579 u0), (k580 u0), (k328 u0), (k621 u3), (40, some (arD 56 2 Event.cell u2))]
abbrev k622 : St := ⟨[], (k623 u2 u0 u1 u3 u4)⟩
end
def m_guard_machine_round_v1_B0 (u0 : Machine) (u4 : Bool) (u1 : Int) : ((List Event) × (List Bool)) → St :=
  fun zz => match zz with | (u2, u3) => (k622 u2 u0 u1 u3 u4)
def m_guard_machine_round_v1_Q0 (u0 : Machine) (u1 : Bool) (u2 : Int) (u3 : (List Int)) : (Flow ((List Event) × (List Bool) × Int) (Ex ((List Event) × (List Bool)) (Bool × Machine × Bool))) → Exit → St → Prop :=
  LQ 4 [] (m_guard_machine_round_v1_S0 u0 u1 u2 u3) (m_guard_machine_round_v1_B0 u0 u1 u2) (m_guard_machine_round_v1_R u0)
section
variable (u1 : Int) (u0 : Machine) (u2 : (List Int)) (u5 : (List Bool)) (u3 : Bool) (u4 : Int) (o4 : (List Bool)) (o0 : (List Event))
abbrev k624 : List (Nat × TV) := [(0, (vP 0 0)), (3, (vP 25 0)), (12, (.v (.one (.fn 153 0 1 (capC [(.ptr 26 0)])))))]
abbrev k625 : Nat × Option Ob := (26, some k317)
abbrev k626 : Nat × Option Ob := (25, some (.cells 3 [(cI (if u1 < u0.now then u0.now else u1))]))
abbrev k627 : List (Nat × TV) := [(0, (vP 0 0)), (3, (vP 25 0)), (6, (vP 29 0))]
abbrev k628 : Nat × Option Ob := (29, some (.cells 40 [(.own 30 false (([] : List Int).length))]))
abbrev k629 : Nat × Option Ob := (30, some k133)
abbrev k630 : List (Nat × TV) := [(0, (vP 0 0)), (3, (vP 25 0)), (6, (vP 29 0)), (32, (.v (.one (.fn 153 0 1 (capC [(.ptr 31 0)])))))]
abbrev k631 : Nat × Option Ob := (31, some k317)
abbrev k632 : Nat × Option Ob := (29, some (.cells 40 [(.own 33 false u2.length)]))
abbrev k633 : List (Nat × TV) := [(0, (vP 0 0)), (k376 u1 u0), (6, (vP 29 0))]
abbrev k635 : List CV := [(.own 1 false u0.clearing.events.length), (cB u0.clearing.cleared), (cI (if u1 < u0.now then u0.now else u1)), (cI (k380 u1 u0)), (.own 34 false u5.length), (.d (k278 u0)), (.d (k279 u0)), (.d (k280 u0)), (.d (k281 u0)), (.d (k282 u0)), (.d (k283 u0)), (cI u0.p.buses), (.own 2 true u0.p.sources.length), (.own 3 true u0.p.links.length), (.own 4 true u0.p.racks.length), (cI u0.bus), (.d (k287 u0 u3)), (cI u0.total), (.mp 5), (cI (if u1 < u0.now then u0.now else u1))]
abbrev k634 : Nat × Option Ob := (0, some (.cells 137 (k635 u1 u0 u5 u3)))
abbrev k636 : List (Nat × TV) := [(0, (vP 0 0)), (k376 u1 u0), (90, (vO 33 false u2.length)), (k377 u2), (92, (vI 0))]
abbrev k637 : List (Nat × TV) := [(0, (vP 0 0)), (k376 u1 u0), (10, (vI (at' u2 u4.toNat))), (90, (vO 33 false u2.length)), (k377 u2), (92, (vI u4))]
abbrev k638 : Nat × Option Ob := (34, some (arD 4 1 boolC (o4.set ((at' u2 u4.toNat).toNat) false)))
abbrev k639 : List (Nat × Option Ob) := [(0, some (.cells 137 [(.own 44 false (k403 u1 u0 u2 u4 o0)), (cB u0.clearing.cleared), (cI (if u1 < u0.now then u0.now else u1)), (cI (k380 u1 u0)), (.own 34 false (k400 u2 u4 o4)), (.d (k278 u0)), (.d (k279 u0)), (.d (k280 u0)), (.d (k281 u0)), (.d (k282 u0)), (.d (k283 u0)), (cI u0.p.buses), (.own 2 true u0.p.sources.length), (.own 3 true u0.p.links.length), (.own 4 true u0.p.racks.length), (cI u0.bus), (.d (k287 u0 u3)), (cI u0.total), (.mp 5), (cI (if u1 < u0.now then u0.now else u1))])), (1, none), (k578 u0), (k579 u0), (k580 u0), (k328 u0), (k620 u2), (k638 u2 u4 o4), (44, some (k406 u1 u0 u2 u4 o0))]
abbrev k640 : List (Nat × TV) := [(0, (vP 0 0)), (k376 u1 u0), (90, (vO 33 false u2.length)), (k377 u2), (92, (k30 u4))]
end
theorem m_guard_machine_round_v1_ok (u0 : Machine) (u3 : Bool) {r : (Bool × Machine × Bool)} (h : m_guard_machine_round u0 u3 = some r) : Fn Try.prog 107 [(.one (.ptr 0 0))] (k587 u0 u3) (vB r.1) [(0, some (.cells 137 [(.own 6 false r.2.1.clearing.events.length), (cB r.2.1.clearing.cleared), (cI r.2.1.clearing.millis), (cI r.2.1.clearing.energy), (.d (slD none 1 boolC r.2.1.clearing.state.closed)), (.d (slD none 1 boolC r.2.1.clearing.state.locked)), (.d (slD none 1 boolC r.2.1.clearing.state.badLink)), (.d (slD none 1 boolC r.2.1.clearing.state.on_)), (.d (slD none 1 boolC r.2.1.clearing.state.badSource)), (.d (slD none 1 boolC r.2.1.clearing.state.earthed)), (.d (slD none 1 boolC r.2.1.clearing.state.badBus)), (cI r.2.1.p.buses), (.own 2 true u0.p.sources.length), (.own 3 true u0.p.links.length), (.own 4 true u0.p.racks.length), (cI r.2.1.bus), (.d (slD (some r.2.2) 1 (intC .i64) r.2.1.amps)), (cI r.2.1.total), (.mp 5), (cI r.2.1.now)])), (1, none), (k578 u0), (k579 u0), (k580 u0), (k328 u0), (6, some (arD 56 2 Event.cell r.2.1.clearing.events))] := by
 refine fN tT Try.func107 rfl rfl fun B => ?_
 show AWp _ _ _ _ _ _ ((m_guard_machine_round_v1_R u0) r) _
 unfold m_guard_machine_round at h
 refine sz tT ⟨[(0, (vP 0 0))], (k587 u0 u3)⟩ {} [] ?_
 refine sz tT ⟨[(0, (vP 0 0)), (3, (vP 25 0))], [(k588 u0 u3), (k269 u0), (k578 u0), (k579 u0), (k580 u0), (k328 u0), (25, some (.cells 3 [(cI (-1))]))]⟩ { fr := [(0, 25)] } [] ?_
 refine aQ (aQ (bE h fun r_ hr_ h => ?_))
 have q0 := rk [(6, 26)] (m_guard_machine_armed_v1_ok u0 u3 hr_)
 refine rg tT ⟨k624, [(k588 u0 u3), (k269 u0), (k578 u0), (k579 u0), (k580 u0), (k328 u0), (25, some (.cells 3 [(cI (-1))])), k625]⟩ [_] { an := [(1, cA q0 [0, 1, 2, 3, 4, 5])] } [] ⟨q0, trivial⟩ ?_
 refine aB (bE h fun u1 hr_1 h => ?_)
 refine awp_rangeFuncI 27 [(3, (vP 25 0))] [] [27, 26, 25, 0, 1, 2, 3, 4, 5] (.tup []) [(27, some (.loop R_guard_machine_round_r0 0 [(3, (vP 25 0))])), k625, (25, some (.cells 3 [(cI u1)])), (k588 u0 u3), (k269 u0), (k578 u0), (k579 u0), (k580 u0), (k328 u0)] (.v (.one (.fn 153 0 1 (capC [(.ptr 26 0)])))) 153 [] [(.ptr 26 0)] [(27, some (.loop R_guard_machine_round_r0 0 [(3, (vP 25 0))])), k625, (25, some (.cells 3 [(cI (-1))])), (k588 u0 u3), (k269 u0), (k578 u0), (k579 u0), (k580 u0), (k328 u0)] [(.one (.yl 27)), (.one (.ptr 26 0))] R_guard_machine_round_r0 0 [(3, (vP 25 0))] (by kernel_rfl) (by kernel_rfl) (by kernel_rfl) (by kernel_rfl) (by kernel_rfl) (by kernel_rfl) (by kernel_rfl) (Fn.renK [(0, 27), (1, 26), (2, 25), (3, 0), (4, 1), (5, 2), (6, 3), (7, 4), (8, 5)] (m_guard_machine_armed_1_v2_ok (-1) u0 u3 hr_1) (by kernel_rfl) (by kernel_rfl) (by kernel_rfl) (by kernel_rfl)) (by kernel_rfl) rfl (ExOf.zero rfl) (Imp.fin (st' := ⟨k624, [(k588 u0 u3), (k269 u0), (k578 u0), (k579 u0), (k580 u0), (k328 u0), (25, some (.cells 3 [(cI u1)])), k625]⟩) (cs := []) ⟨[], [(0, 0), (1, 1), (2, 2), (3, 3), (4, 4), (5, 5), (25, 25), (26, 26)]⟩ [0, 3, 12] (by kernel_rfl) trivial) ?_
 refine aQ (sz tT ⟨[(0, (vP 0 0)), (3, (vP 25 0)), (24, (vB (decide (u1 < 0))))], [(k588 u0 u3), (k269 u0), (k578 u0), (k579 u0), (k580 u0), (k328 u0), (25, some (.cells 3 [(cI u1)]))]⟩ {} [] ?_)
 refine bI h (fun hb1 h => ?_) (fun hb1 h => ?_)
 ·refine ct hb1 ?_
  refine sz tT ⟨[(2, (vB false))], (k587 u0 u3)⟩ {} [] ?_
  refine aI (.trans (Imp.reown (E0 := 137) (cs := (k589 u0 u3)) (nn := false) (len := u0.clearing.events.length) (E := 56) (esz := 2) (n := u0.clearing.events.length) (el := elOf Event.cell u0.clearing.events) (p := 0) (q := 0) (b := 1) (b' := 28) (by kernel_rfl) (by kernel_rfl) (by kernel_rfl) (by kernel_rfl)) (.trans (fz ⟨[(2, (vB false))], [(0, some (.cells 137 [(.own 28 false u0.clearing.events.length), (cB u0.clearing.cleared), (cI u0.clearing.millis), (cI u0.clearing.energy), (.d (k277 u0)), (.d (k278 u0)), (.d (k279 u0)), (.d (k280 u0)), (.d (k281 u0)), (.d (k282 u0)), (.d (k283 u0)), (cI u0.p.buses), (.own 2 true u0.p.sources.length), (.own 3 true u0.p.links.length), (.own 4 true u0.p.racks.length), (cI u0.bus), (.d (k287 u0 u3)), (cI u0.total), (.mp 5), (cI u0.now)])), (1, none), (k578 u0), (k579 u0), (k580 u0), (k328 u0), (28, some (k270 u0))]⟩ []) (Imp.fin (st' := ⟨[(2, (vB false))], [(0, some (.cells 137 [(.own 6 false u0.clearing.events.length), (cB u0.clearing.cleared), (cI u0.clearing.millis), (cI u0.clearing.energy), (.d (k277 u0)), (.d (k278 u0)), (.d (k279 u0)), (.d (k280 u0)), (.d (k281 u0)), (.d (k282 u0)), (.d (k283 u0)), (cI u0.p.buses), (.own 2 true u0.p.sources.length), (.own 3 true u0.p.links.length), (.own 4 true u0.p.racks.length), (cI u0.bus), (.d (k287 u0 u3)), (cI u0.total), (.mp 5), (cI u0.now)])), (1, none), (k578 u0), (k579 u0), (k580 u0), (k328 u0), (k368 u0)]⟩) (cs := []) ⟨[], [(0, 0), (1, 1), (2, 2), (3, 3), (4, 4), (5, 5), (28, 6)]⟩ [2] (by kernel_rfl) trivial))) ?_
  refine aR ?_
  obtain rfl := oi h
  exact rh [(sB false)] (.refl _) ⟨rfl, .refl _, ⟨rfl, trivial, ⟨rfl, .refl _, ⟨rfl, .refl _, ⟨rfl, .refl _, ⟨rfl, .refl _, ⟨rfl, .refl _, trivial⟩⟩⟩⟩⟩⟩⟩
 ·refine cf hb1 ?_
  refine aP (sd tT mX ⟨[(0, (vP 0 0)), (3, (vP 25 0))], [(k588 u0 u3), (k269 u0), (k578 u0), (k579 u0), (k580 u0), (k328 u0), (k626 u1 u0)]⟩ [] {} [] trivial ?_)
  refine si tT ⟨k627, [(k588 u0 u3), (k269 u0), (k578 u0), (k579 u0), (k580 u0), (k328 u0), (k626 u1 u0), (29, some (.cells 40 [(.d nS)]))]⟩ [] { fr := [(0, 29)] } [] trivial (.trans (Imp.adoptC (E := 0) (esz := 0) (E0 := 40) (cs := [(.d nS)]) (p := 29) (q := 0) (b := 30) (esz0 := 0) (el0 := fun _ _ => .nilp) (ob := .arr 3 1 0 (elOf (intC .i64) ([] : List Int))) (fun _ _ _ _ h => .inl ⟨h, rfl⟩) (by kernel_rfl) (by kernel_rfl) (by kernel_rfl)) (.trans (fz ⟨k627, [(k588 u0 u3), (k269 u0), (k578 u0), (k579 u0), (k580 u0), (k328 u0), (k626 u1 u0), (29, some (.cells 40 [(.own 30 false 0)])), (30, some (.arr 3 1 0 (elOf (intC .i64) ([] : List Int))))]⟩ []) (Imp.le (st' := ⟨k627, [(k588 u0 u3), (k269 u0), (k578 u0), (k579 u0), (k580 u0), (k328 u0), (k626 u1 u0), k628, k629]⟩) ⟨⟨tR, tR, tR, trivial⟩, ⟨rfl, .refl _, ⟨rfl, .refl _, ⟨rfl, .refl _, ⟨rfl, .refl _, ⟨rfl, .refl _, ⟨rfl, .refl _, ⟨rfl, .refl _, ⟨rfl, OLe_cells ⟨cW, trivial⟩, ⟨rfl, oW, trivial⟩⟩⟩⟩⟩⟩⟩⟩⟩⟩))) ?_
  refine aQ (aQ (bE h fun u8 hr_2 h => ?_))
  have q0 := rk [(6, 31)] (m_guard_machine_armed_v1_ok u0 u3 hr_2)
  refine rg tT ⟨k630, [(k588 u0 u3), (k269 u0), (k578 u0), (k579 u0), (k580 u0), (k328 u0), (k626 u1 u0), k628, k629, k631]⟩ [_] { an := [(1, cA q0 [0, 1, 2, 3, 4, 5])] } [] ⟨q0, trivial⟩ ?_
  refine aB (bE h fun u2 hr_3 h => ?_)
  refine awp_rangeFuncI 32 [(3, (vP 25 0)), (6, (vP 29 0))] [] [32, 31, 25, 29, 0, 30, 1, 2, 3, 4, 5] (.tup []) [(32, some (.loop R_guard_machine_round_r1 0 [(3, (vP 25 0)), (6, (vP 29 0))])), k631, (k626 u1 u0), (k632 u2), (k588 u0 u3), (30, none), (k269 u0), (k578 u0), (k579 u0), (k580 u0), (k328 u0), (k620 u2)] (.v (.one (.fn 153 0 1 (capC [(.ptr 31 0)])))) 153 [] [(.ptr 31 0)] [(32, some (.loop R_guard_machine_round_r1 0 [(3, (vP 25 0)), (6, (vP 29 0))])), k631, (k626 u1 u0), k628, (k588 u0 u3), k629, (k269 u0), (k578 u0), (k579 u0), (k580 u0), (k328 u0)] [(.one (.yl 32)), (.one (.ptr 31 0))] R_guard_machine_round_r1 0 [(3, (vP 25 0)), (6, (vP 29 0))] (by kernel_rfl) (by kernel_rfl) (by kernel_rfl) (by kernel_rfl) (by kernel_rfl) (by kernel_rfl) (by kernel_rfl) (Fn.renK [(0, 32), (1, 31), (2, 25), (3, 29), (4, 0), (5, 30), (6, 1), (7, 2), (8, 3), (9, 4), (10, 5), (11, 33)] (m_guard_machine_armed_1_v3_ok (if u1 < u0.now then u0.now else u1) ([] : List Int) u0 u3 hr_3) (by kernel_rfl) (by kernel_rfl) (by kernel_rfl) (by kernel_rfl)) (by kernel_rfl) rfl (ExOf.zero rfl) (Imp.fin (st' := ⟨k630, [(k588 u0 u3), (k269 u0), (k578 u0), (k579 u0), (k580 u0), (k328 u0), (k626 u1 u0), (k632 u2), (30, none), k631, (k620 u2)]⟩) (cs := []) ⟨[], [(0, 0), (1, 1), (2, 2), (3, 3), (4, 4), (5, 5), (25, 25), (29, 29), (30, 30), (31, 31), (33, 33)]⟩ [0, 3, 6, 32] (by kernel_rfl) trivial) ?_
  refine aQ (aO h fun a1 h => ?_)
  refine dg tT mX ⟨k627, [(0, some (.cells 137 [(.own 1 false u0.clearing.events.length), (cB u0.clearing.cleared), (cI u0.clearing.millis), (cI (k380 u1 u0)), (.d (k277 u0)), (.d (k278 u0)), (.d (k279 u0)), (.d (k280 u0)), (.d (k281 u0)), (.d (k282 u0)), (.d (k283 u0)), (cI u0.p.buses), (.own 2 true u0.p.sources.length), (.own 3 true u0.p.links.length), (.own 4 true u0.p.racks.length), (cI u0.bus), (.d (k287 u0 u3)), (cI u0.total), (.mp 5), (cI u0.now)])), (k269 u0), (k578 u0), (k579 u0), (k580 u0), (k328 u0), (k626 u1 u0), (k632 u2), (k620 u2)]⟩ [_] {} [] ⟨a1, trivial⟩ ?_
  refine sd tT mX ⟨(k633 u1 u0), [(0, some (.cells 137 [(.own 1 false u0.clearing.events.length), (cB u0.clearing.cleared), (cI (if u1 < u0.now then u0.now else u1)), (cI (k380 u1 u0)), (.d (k277 u0)), (.d (k278 u0)), (.d (k279 u0)), (.d (k280 u0)), (.d (k281 u0)), (.d (k282 u0)), (.d (k283 u0)), (cI u0.p.buses), (.own 2 true u0.p.sources.length), (.own 3 true u0.p.links.length), (.own 4 true u0.p.racks.length), (cI u0.bus), (.d (k287 u0 u3)), (cI u0.total), (.mp 5), (cI (if u1 < u0.now then u0.now else u1))])), (k269 u0), (k578 u0), (k579 u0), (k580 u0), (k328 u0), (k632 u2), (k620 u2)]⟩ [] {} [25] trivial ?_
  refine aQ (bE h fun u5 hr_4 h => ?_)
  have q0 := rk [(0, 34)] (m_slices_Clone_v1_a_ok u0.clearing.state.closed hr_4)
  refine rg tT ⟨(k633 u1 u0), [(k634 u1 u0 u5 u3), (k269 u0), (k578 u0), (k579 u0), (k580 u0), (k328 u0), (k632 u2), (k620 u2), (k621 u5)]⟩ [_] { an := [(7, cA q0 [])] } [] ⟨q0, trivial⟩ ?_
  refine aQ (sz tT ⟨(k636 u1 u0 u2), [(k634 u1 u0 u5 u3), (k269 u0), (k578 u0), (k579 u0), (k580 u0), (k328 u0), (k620 u2), (k621 u5)]⟩ {} [] ?_)
  refine bE h fun y hy h => ?_
  refine aI (.trans (Imp.reown (E0 := 137) (cs := (k635 u1 u0 u5 u3)) (nn := false) (len := u0.clearing.events.length) (E := 56) (esz := 2) (n := u0.clearing.events.length) (el := elOf Event.cell u0.clearing.events) (p := 0) (q := 0) (b := 1) (b' := 45) (by kernel_rfl) (by kernel_rfl) (by kernel_rfl) (by kernel_rfl)) (.trans (fz ⟨(k636 u1 u0 u2), [(0, some (.cells 137 [(.own 45 false u0.clearing.events.length), (cB u0.clearing.cleared), (cI (if u1 < u0.now then u0.now else u1)), (cI (k380 u1 u0)), (.own 34 false u5.length), (.d (k278 u0)), (.d (k279 u0)), (.d (k280 u0)), (.d (k281 u0)), (.d (k282 u0)), (.d (k283 u0)), (cI u0.p.buses), (.own 2 true u0.p.sources.length), (.own 3 true u0.p.links.length), (.own 4 true u0.p.racks.length), (cI u0.bus), (.d (k287 u0 u3)), (cI u0.total), (.mp 5), (cI (if u1 < u0.now then u0.now else u1))])), (1, none), (k578 u0), (k579 u0), (k580 u0), (k328 u0), (k620 u2), (k621 u5), (45, some (k270 u0))]⟩ []) (Imp.fin (st' := ⟨(k636 u1 u0 u2), [(0, some (.cells 137 [(.own 40 false u0.clearing.events.length), (cB u0.clearing.cleared), (cI (if u1 < u0.now then u0.now else u1)), (cI (k380 u1 u0)), (.own 34 false u5.length), (.d (k278 u0)), (.d (k279 u0)), (.d (k280 u0)), (.d (k281 u0)), (.d (k282 u0)), (.d (k283 u0)), (cI u0.p.buses), (.own 2 true u0.p.sources.length), (.own 3 true u0.p.links.length), (.own 4 true u0.p.racks.length), (cI u0.bus), (.d (k287 u0 u3)), (cI u0.total), (.mp 5), (cI (if u1 < u0.now then u0.now else u1))])), (1, none), (k578 u0), (k579 u0), (k580 u0), (k328 u0), (k620 u2), (k621 u5), (40, some (k270 u0))]⟩) (cs := []) ⟨[], [(0, 0), (1, 1), (2, 2), (3, 3), (4, 4), (5, 5), (33, 33), (34, 34), (45, 40)]⟩ [0, 3, 90, 91, 92] (by kernel_rfl) trivial))) ?_
  refine aL [] (m_guard_machine_round_v1_S0 u0 u3 u1 u2) (m_guard_machine_round_v1_B0 u0 u3 u1) (m_guard_machine_round_v1_R u0) hy (fun s f h => ?_) ?_
  ·clear hy
   show AWp _ _ _ _ _ _ ((m_guard_machine_round_v1_Q0 u0 u3 u1 u2) f) _
   unfold m_guard_machine_round_L0 at h
   obtain ⟨o0, o4, u4⟩ := s
   refine sz tT ⟨[(0, (vP 0 0)), (k376 u1 u0), (90, (vO 33 false u2.length)), (k377 u2), (92, (vI u4)), (93, (k140 u4 u2))], (k618 u1 u0 u2 o0 o4 u3)⟩ {} [] ?_
   refine aQ ?_
   refine bI h (fun hb h => ?_) (fun hb h => ?_)
   ·refine ct hb ?_
    refine aP (aQ (aB (aQ (aO h fun a1 h => ?_))))
    refine rg tT ⟨(k637 u1 u0 u2 u4), (k618 u1 u0 u2 o0 o4 u3)⟩ [_, _] {} [] ⟨a1, (tL a1), trivial⟩ ?_
    refine aQ (aO h fun a1 h => ?_)
    refine ri tT ⟨(k637 u1 u0 u2 u4), [(k619 u1 u0 o0 o4 u3), (1, none), (k578 u0), (k579 u0), (k580 u0), (k328 u0), (k620 u2), (34, some (.arr 4 1 o4.length (k399 u2 u4 o4))), (40, some (arD 56 2 Event.cell o0))]⟩ [_, _, ArrEq o4.length 1 (stEls (elOf boolC o4) ((at' u2 u4.toNat).toNat) 0 [(.bool false)]) (k399 u2 u4 o4)] { an := [(8, .arr 0 (k399 u2 u4 o4))] } [] ⟨a1, (tL a1), (arrEq_set' _ _ _ _ _ _ _ _ rfl (fun j hj => (match j, hj with | 0, _ => rfl))), trivial⟩ (Imp.le (st' := ⟨(k637 u1 u0 u2 u4), [(0, some (.cells 137 [(.own 40 false o0.length), (cB u0.clearing.cleared), (cI (if u1 < u0.now then u0.now else u1)), (cI (k380 u1 u0)), (.own 34 false (k400 u2 u4 o4)), (.d (k278 u0)), (.d (k279 u0)), (.d (k280 u0)), (.d (k281 u0)), (.d (k282 u0)), (.d (k283 u0)), (cI u0.p.buses), (.own 2 true u0.p.sources.length), (.own 3 true u0.p.links.length), (.own 4 true u0.p.racks.length), (cI u0.bus), (.d (k287 u0 u3)), (cI u0.total), (.mp 5), (cI (if u1 < u0.now then u0.now else u1))])), (1, none), (k578 u0), (k579 u0), (k580 u0), (k328 u0), (k620 u2), (k638 u2 u4 o4), (40, some (arD 56 2 Event.cell o0))]⟩) ⟨⟨tR, tR, tR, tR, tR, tR, trivial⟩, ⟨rfl, OLe_cells ⟨CLe.refl _, CLe.refl _, CLe.refl _, CLe.refl _, cW, CLe.refl _, CLe.refl _, CLe.refl _, CLe.refl _, CLe.refl _, CLe.refl _, CLe.refl _, CLe.refl _, CLe.refl _, CLe.refl _, CLe.refl _, CLe.refl _, CLe.refl _, CLe.refl _, CLe.refl _, trivial⟩, ⟨rfl, .refl _, ⟨rfl, .refl _, ⟨rfl, .refl _, ⟨rfl, .refl _, ⟨rfl, .refl _, ⟨rfl, .refl _, ⟨rfl, oW, ⟨rfl, .refl _, trivial⟩⟩⟩⟩⟩⟩⟩⟩⟩⟩) ?_
    refine aO h fun ⟨a1, a2⟩ h => ?_
    refine dg tT mX ⟨(k617 u1 u0 u2 u4), (k639 u1 u0 u2 u3 u4 o4 o0)⟩ [[(k405 u1 u0 u2 u4)].length = 1, ArrEq 1 2 (elL 2 [(.int .i64 (if u1 < u0.now then u0.now else u1)), (.int .i64 (at' u2 u4.toNat))]) (k407 u1 u0 u2 u4), o0.length = o0.length, _, _, (k404 u1 u0 u2 u4 o0).length = o0.length + [(k405 u1 u0 u2 u4)].length, ArrEq (o0.length + [(k405 u1 u0 u2 u4)].length) 2 (k408 u1 u0 u2 u4 o0) (k409 u1 u0 u2 u4 o0)] { an := [(9, .arr [(k405 u1 u0 u2 u4)].length (k407 u1 u0 u2 u4)), (10, .arr (k404 u1 u0 u2 u4 o0).length (k409 u1 u0 u2 u4 o0))], fr := [(9, 43), (10, 44)] } [] ⟨(rfl), ((by intro i hi j hj; match i, j, hi, hj with | 0, 0, _, _ => rfl | 0, 1, _, _ => rfl)), rfl, a1, a2, (List.length_append), (arrEq_app _ _ _ _), trivial⟩ ?_
    refine ri tT ⟨(k640 u1 u0 u2 u4), (k639 u1 u0 u2 u3 u4 o4 o0)⟩ [] {} [] trivial (Imp.fin (st' := ⟨(k640 u1 u0 u2 u4), [(0, some (.cells 137 [(.own 40 false (k403 u1 u0 u2 u4 o0)), (cB u0.clearing.cleared), (cI (if u1 < u0.now then u0.now else u1)), (cI (k380 u1 u0)), (.own 34 false (k400 u2 u4 o4)), (.d (k278 u0)), (.d (k279 u0)), (.d (k280 u0)), (.d (k281 u0)), (.d (k282 u0)), (.d (k283 u0)), (cI u0.p.buses), (.own 2 true u0.p.sources.length), (.own 3 true u0.p.links.length), (.own 4 true u0.p.racks.length), (cI u0.bus), (.d (k287 u0 u3)), (cI u0.total), (.mp 5), (cI (if u1 < u0.now then u0.now else u1))])), (1, none), (k578 u0), (k579 u0), (k580 u0), (k328 u0), (k620 u2), (k638 u2 u4 o4), (40, some (k406 u1 u0 u2 u4 o0))]⟩) (cs := []) ⟨[], [(0, 0), (1, 1), (2, 2), (3, 3), (4, 4), (5, 5), (33, 33), (34, 34), (44, 40)]⟩ [0, 3, 90, 91, 92] (by kernel_rfl) trivial) ?_
    obtain rfl := oi h
    exact lN (by kernel_rfl)
   ·refine cf hb ?_
    refine aI (fz (k622 o0 u0 u1 o4 u3) []) ?_
    refine aX ?_
    obtain rfl := oi h
    exact lB (by kernel_rfl)
  ·clear hy
   cases y with
   | brk z =>
    obtain ⟨u7, u6⟩ := z
    unfold ExK
    refine ⟨_, .refl, ?_⟩
    refine sz tT ⟨[(2, (vB true))], (k623 u7 u0 u1 u6 u3)⟩ {} [] ?_
    refine aI (Imp.fin (st' := ⟨[(2, (vB true))], [(0, some (.cells 137 [(.own 6 false u7.length), (cB u0.clearing.cleared), (cI (if u1 < u0.now then u0.now else u1)), (cI (k380 u1 u0)), (.d (slD none 1 boolC u6)), (.d (k278 u0)), (.d (k279 u0)), (.d (k280 u0)), (.d (k281 u0)), (.d (k282 u0)), (.d (k283 u0)), (cI u0.p.buses), (.own 2 true u0.p.sources.length), (.own 3 true u0.p.links.length), (.own 4 true u0.p.racks.length), (cI u0.bus), (.d (k287 u0 u3)), (cI u0.total), (.mp 5), (cI (if u1 < u0.now then u0.now else u1))])), (1, none), (k578 u0), (k579 u0), (k580 u0), (k328 u0), (6, some (arD 56 2 Event.cell u7))]⟩) (cs := [u6.length = u6.length]) ⟨[34], [(0, 0), (1, 1), (2, 2), (3, 3), (4, 4), (5, 5), (40, 6)]⟩ [2] (by kernel_rfl) ⟨rfl, trivial⟩) ?_
    refine aR ?_
    obtain rfl := oi h
    exact rh [(sB true)] (.refl _) ⟨rfl, .refl _, ⟨rfl, trivial, ⟨rfl, .refl _, ⟨rfl, .refl _, ⟨rfl, .refl _, ⟨rfl, .refl _, ⟨rfl, .refl _, trivial⟩⟩⟩⟩⟩⟩⟩
   | ret v =>
    obtain rfl := oi h
    unfold ExK
    intro e st hn ha hR
    cases e with
    | normal => exact absurd rfl hn
    | exit id => exact hR
    | goto l => exact hR
    | ret => exact hR
    | panic c => exact hR
    | outgrown => exact hR
def m_guard_machine_run_v1_R (u0 : Machine) : (Clearing × (List (Int × Int))) → Exit → St → Prop :=
  fun r => RetQ TT [.cell 2 36] (.v (.agg [(.own 6 false r.1.events.length), (cB r.1.cleared), (cI r.1.millis), (cI r.1.energy), (.d (slD none 1 boolC r.1.state.closed)), (.d (slD none 1 boolC r.1.state.locked)), (.d (slD none 1 boolC r.1.state.badLink)), (.d (slD none 1 boolC r.1.state.on_)), (.d (slD none 1 boolC r.1.state.badSource)), (.d (slD none 1 boolC r.1.state.earthed)), (.d (slD none 1 boolC r.1.state.badBus))])) [(0, none), (1, none), (k578 u0), (k579 u0), (k580 u0), (5, some (mpD 3 3 false false 1 1 (intC .i64) (intC .i64) r.2)), (6, some (arD 56 2 Event.cell r.1.events)), (7, none)]
abbrev k641 : List (Nat × TV) := [(0, (vP 0 0)), (2, (vP 13 0)), k412]
abbrev k642 : Nat × Option Ob := (13, some k414)
def m_guard_machine_run_v1_S0 (u0 : Machine) : ((List Event) × Bool × Int × Int × (List Bool) × (List Bool) × (List Bool) × (List Bool) × (List Bool) × (List Bool) × (List Bool) × Int × Int × Bool × (List Int) × Int × (List (Int × Int)) × Int) → St :=
  fun zz => match zz with | (o0, o1, o2, o3, o4, o5, o6, o7, o8, o9, u1, u2, u3, u4, u5, u6, u7, u8) => ⟨k641, [(0, some (.cells 137 [(.own 15 false o0.length), (cB o1), (cI o2), (cI o3), (.d (slD none 1 boolC o4)), (.d (slD none 1 boolC o5)), (.d (slD none 1 boolC o6)), (.d (slD none 1 boolC o7)), (.d (slD none 1 boolC o8)), (.d (slD none 1 boolC o9)), (.d (slD none 1 boolC u1)), (cI u2), (.own 2 true u0.p.sources.length), (.own 3 true u0.p.links.length), (.own 4 true u0.p.racks.length), (cI u3), (.d (slD (some u4) 1 (intC .i64) u5)), (cI u6), (.mp 5), (cI u8)])), (1, none), (k578 u0), (k579 u0), (k580 u0), (k585 u7), k642, (15, some (arD 56 2 Event.cell o0))]⟩
def m_guard_machine_run_v1_Q0 (u0 : Machine) : (Flow ((List Event) × Bool × Int × Int × (List Bool) × (List Bool) × (List Bool) × (List Bool) × (List Bool) × (List Bool) × (List Bool) × Int × Int × Bool × (List Int) × Int × (List (Int × Int)) × Int) (Ex Unit (Clearing × (List (Int × Int))))) → Exit → St → Prop :=
  GQ 0 (m_guard_machine_run_v1_S0 u0) (JQ [] (fun _ : Unit => (⟨[], []⟩ : St)) (m_guard_machine_run_v1_R u0))
section
variable (u0 : Machine) (u2 : Bool) (r_ : (Machine × Bool)) (o0 : (List Event)) (u1 : (Bool × Machine × Bool))
abbrev k643 : List (Nat × Option Ob) := [(k588 u0 u2), (k269 u0), (k578 u0), (k579 u0), (k580 u0), (k328 u0), k642]
abbrev k645 : Nat × Option Ob := (5, some (mpD 3 3 false false 1 1 (intC .i64) (intC .i64) r_.1.since))
abbrev k644 : List (Nat × Option Ob) := [(0, some (.cells 137 [(.own 15 false o0.length), (cB r_.1.clearing.cleared), (cI r_.1.clearing.millis), (cI r_.1.clearing.energy), (.d (k418 r_)), (.d (k419 r_)), (.d (k420 r_)), (.d (k421 r_)), (.d (k422 r_)), (.d (k423 r_)), (.d (k424 r_)), (cI r_.1.p.buses), (.own 2 true u0.p.sources.length), (.own 3 true u0.p.links.length), (.own 4 true u0.p.racks.length), (cI r_.1.bus), (.d (k425 r_)), (cI r_.1.total), (.mp 5), (cI r_.1.now)])), (1, none), (k578 u0), (k579 u0), (k580 u0), (k645 r_), k642, (15, some (arD 56 2 Event.cell o0))]
abbrev k646 : Nat × Option Ob := (0, some (.cells 137 [(.own 15 false o0.length), (cB true), (cI r_.1.clearing.millis), (cI r_.1.clearing.energy), (.d (k418 r_)), (.d (k419 r_)), (.d (k420 r_)), (.d (k421 r_)), (.d (k422 r_)), (.d (k423 r_)), (.d (k424 r_)), (cI r_.1.p.buses), (.own 2 true u0.p.sources.length), (.own 3 true u0.p.links.length), (.own 4 true u0.p.racks.length), (cI r_.1.bus), (.d (k425 r_)), (cI r_.1.total), (.mp 5), (cI r_.1.now)]))
abbrev k648 : List CV := [(.own 6 false o0.length), (cB true), (cI r_.1.clearing.millis), (cI r_.1.clearing.energy), (.d (k418 r_)), (.d (k419 r_)), (.d (k420 r_)), (.d (k421 r_)), (.d (k422 r_)), (.d (k423 r_)), (.d (k424 r_))]
abbrev k647 : Nat × Option Ob := (7, some (.cells 36 (k648 r_ o0)))
abbrev k649 : Nat × Option Ob := (0, some (.cells 137 [(.own 19 false u1.2.1.clearing.events.length), (cB u1.2.1.clearing.cleared), (cI u1.2.1.clearing.millis), (cI u1.2.1.clearing.energy), (.d (k432 u1)), (.d (k433 u1)), (.d (k434 u1)), (.d (k435 u1)), (.d (k436 u1)), (.d (k437 u1)), (.d (k438 u1)), (cI u1.2.1.p.buses), (.own 2 true u0.p.sources.length), (.own 3 true u0.p.links.length), (.own 4 true u0.p.racks.length), (cI u1.2.1.bus), (.d (k439 u1)), (cI u1.2.1.total), (.mp 5), (cI u1.2.1.now)]))
abbrev k651 : List CV := [(.own 6 false u1.2.1.clearing.events.length), (cB u1.2.1.clearing.cleared), (cI u1.2.1.clearing.millis), (cI u1.2.1.clearing.energy), (.d (k432 u1)), (.d (k433 u1)), (.d (k434 u1)), (.d (k435 u1)), (.d (k436 u1)), (.d (k437 u1)), (.d (k438 u1))]
abbrev k650 : Nat × Option Ob := (7, some (.cells 36 (k651 u1)))
end
theorem m_guard_machine_run_v1_ok (u0 : Machine) (u2 : Bool) {r : (Clearing × (List (Int × Int)))} (h : m_guard_machine_run_v1 u0 u2 = some r) : Fn Try.prog 63 [(.one (.ptr 0 0))] (k587 u0 u2) (.v (.agg [(.own 6 false r.1.events.length), (cB r.1.cleared), (cI r.1.millis), (cI r.1.energy), (.d (slD none 1 boolC r.1.state.closed)), (.d (slD none 1 boolC r.1.state.locked)), (.d (slD none 1 boolC r.1.state.badLink)), (.d (slD none 1 boolC r.1.state.on_)), (.d (slD none 1 boolC r.1.state.badSource)), (.d (slD none 1 boolC r.1.state.earthed)), (.d (slD none 1 boolC r.1.state.badBus))])) [(0, none), (1, none), (k578 u0), (k579 u0), (k580 u0), (5, some (mpD 3 3 false false 1 1 (intC .i64) (intC .i64) r.2)), (6, some (arD 56 2 Event.cell r.1.events)), (7, none)] := by
 refine fN tT Try.func63 rfl rfl fun B => ?_
 show AWp _ _ _ _ _ _ ((m_guard_machine_run_v1_R u0) r) _
 unfold m_guard_machine_run_v1 at h
 refine sz tT ⟨[(0, (vP 0 0)), (2, (vP 13 0))], (k643 u0 u2)⟩ { fr := [(0, 13)] } [] ?_
 refine bE h fun y hy h => ?_
 refine awp_scopeP 0 rfl [] (m_guard_machine_run_v1_S0 u0) (fun _ : Unit => (⟨[], []⟩ : St)) (m_guard_machine_run_v1_R u0) hy ?_ (fun s f h => ?_) ?_
 ·clear hy
  refine ri tT ⟨k641, (k643 u0 u2)⟩ [] {} [] trivial (.trans (Imp.reown (E0 := 137) (cs := (k589 u0 u2)) (nn := false) (len := u0.clearing.events.length) (E := 56) (esz := 2) (n := u0.clearing.events.length) (el := elOf Event.cell u0.clearing.events) (p := 0) (q := 0) (b := 1) (b' := 20) (by kernel_rfl) (by kernel_rfl) (by kernel_rfl) (by kernel_rfl)) (.trans (fz ⟨k641, [(0, some (.cells 137 [(.own 20 false u0.clearing.events.length), (cB u0.clearing.cleared), (cI u0.clearing.millis), (cI u0.clearing.energy), (.d (k277 u0)), (.d (k278 u0)), (.d (k279 u0)), (.d (k280 u0)), (.d (k281 u0)), (.d (k282 u0)), (.d (k283 u0)), (cI u0.p.buses), (.own 2 true u0.p.sources.length), (.own 3 true u0.p.links.length), (.own 4 true u0.p.racks.length), (cI u0.bus), (.d (k287 u0 u2)), (cI u0.total), (.mp 5), (cI u0.now)])), (1, none), (k578 u0), (k579 u0), (k580 u0), (k328 u0), k642, (20, some (k270 u0))]⟩ []) (Imp.fin (st' := ⟨k641, [(0, some (.cells 137 [(.own 15 false u0.clearing.events.length), (cB u0.clearing.cleared), (cI u0.clearing.millis), (cI u0.clearing.energy), (.d (k277 u0)), (.d (k278 u0)), (.d (k279 u0)), (.d (k280 u0)), (.d (k281 u0)), (.d (k282 u0)), (.d (k283 u0)), (cI u0.p.buses), (.own 2 true u0.p.sources.length), (.own 3 true u0.p.links.length), (.own 4 true u0.p.racks.length), (cI u0.bus), (.d (k287 u0 u2)), (cI u0.total), (.mp 5), (cI u0.now)])), (1, none), (k578 u0), (k579 u0), (k580 u0), (k328 u0), k642, (15, some (k270 u0))]⟩) (cs := []) ⟨[], [(0, 0), (1, 1), (2, 2), (3, 3), (4, 4), (5, 5), (13, 13), (20, 15)]⟩ [0, 2, 3] (by kernel_rfl) trivial))) ?_
  exact ⟨rfl, (by kernel_rfl)⟩
 ·clear hy
  show AWp _ _ _ _ _ _ ((m_guard_machine_run_v1_Q0 u0) f) _
  unfold m_guard_machine_run_v1_L0 at h
  obtain ⟨o0, o1, o2, o3, o4, o5, o6, o7, o8, o9, u3, u4, u5, u6, u7, u8, u9, v0⟩ := s
  refine aQ (bE h fun r_ hr_ h => ?_)
  have q0 := rk [(1, 15)] (m_guard_machine_look_v1_ok (⟨(⟨o0, o1, o2, o3, (⟨o4, o5, o6, o7, o8, o9, u3⟩ : State)⟩ : Clearing), (⟨u4, u0.p.sources, u0.p.links, u0.p.racks⟩ : Plant), u5, u7, u8, u9, v0⟩ : Machine) u6 hr_)
  refine rg tT ⟨k641, (k644 u0 r_ o0)⟩ [_] { an := [(1, cA q0 [0, 15, 2, 3, 4, 5])] } [] ⟨q0, trivial⟩ ?_
  refine aQ (sz tT ⟨[(0, (vP 0 0)), (2, (vP 13 0)), k412, (12, (vB (decide (r_.1.total = 0))))], (k644 u0 r_ o0)⟩ {} [] ?_)
  refine bI h (fun hb1 h => ?_) (fun hb1 h => ?_)
  ·refine ct hb1 ?_
   refine sz tT ⟨[(0, (vP 0 0)), (2, (vP 13 0))], [(k646 u0 r_ o0), (1, none), (k578 u0), (k579 u0), (k580 u0), (k645 r_), k642, (15, some (arD 56 2 Event.cell o0))]⟩ {} [] ?_
   refine sz tT ⟨[(2, (vP 13 0))], [(k646 u0 r_ o0), (1, none), (k578 u0), (k579 u0), (k580 u0), (k645 r_), (13, some (.cells 36 [(.own 15 false o0.length), (cB true), (cI r_.1.clearing.millis), (cI r_.1.clearing.energy), (.d (k418 r_)), (.d (k419 r_)), (.d (k420 r_)), (.d (k421 r_)), (.d (k422 r_)), (.d (k423 r_)), (.d (k424 r_))])), (15, some (arD 56 2 Event.cell o0))]⟩ {} [] ?_
   refine aI (.trans (Imp.fin (st' := ⟨[(2, (vP 7 0))], [(0, some (.cells 137 [(.own 6 false o0.length), (cB true), (cI r_.1.clearing.millis), (cI r_.1.clearing.energy), (.d (k418 r_)), (.d (k419 r_)), (.d (k420 r_)), (.d (k421 r_)), (.d (k422 r_)), (.d (k423 r_)), (.d (k424 r_)), (cI r_.1.p.buses), (.own 2 true u0.p.sources.length), (.own 3 true u0.p.links.length), (.own 4 true u0.p.racks.length), (cI r_.1.bus), (.d (k425 r_)), (cI r_.1.total), (.mp 5), (cI r_.1.now)])), (1, none), (k578 u0), (k579 u0), (k580 u0), (k645 r_), (6, some (arD 56 2 Event.cell o0)), (k647 r_ o0)]⟩) (cs := []) ⟨[], [(0, 0), (1, 1), (2, 2), (3, 3), (4, 4), (5, 5), (15, 6), (13, 7)]⟩ [2] (by kernel_rfl) trivial) (Imp.le (st' := ⟨[(2, (vP 7 0))], [(0, none), (1, none), (k578 u0), (k579 u0), (k580 u0), (k645 r_), (6, some (arD 56 2 Event.cell o0)), (k647 r_ o0)]⟩) ⟨⟨tR, trivial⟩, ⟨rfl, trivial, ⟨rfl, .refl _, ⟨rfl, .refl _, ⟨rfl, .refl _, ⟨rfl, .refl _, ⟨rfl, .refl _, ⟨rfl, .refl _, ⟨rfl, .refl _, trivial⟩⟩⟩⟩⟩⟩⟩⟩⟩)) ?_
   refine aR ?_
   obtain rfl := oi h
   exact GQ_ret ret_ng ret_nn av_ret (RetQ.mk (.inr rfl) (p := []) (l := [(.agg (k648 r_ o0))]) (by kernel_rfl) trivial (TLe.refl _) ⟨rfl, trivial, ⟨rfl, trivial, ⟨rfl, .refl _, ⟨rfl, .refl _, ⟨rfl, .refl _, ⟨rfl, .refl _, ⟨rfl, .refl _, ⟨rfl, trivial, trivial⟩⟩⟩⟩⟩⟩⟩⟩)
  ·refine cf hb1 ?_
   refine aP (aQ (aQ (bE h fun u1 hr_1 h => ?_)))
   have q0 := rk [(1, 15), (6, 19)] (m_guard_machine_round_v1_ok (⟨(k430 r_ o0), (⟨r_.1.p.buses, u0.p.sources, u0.p.links, u0.p.racks⟩ : Plant), r_.1.bus, r_.1.amps, r_.1.total, r_.1.since, r_.1.now⟩ : Machine) r_.2 hr_1)
   refine rg tT ⟨[(0, (vP 0 0)), (2, (vP 13 0)), k412, (22, (vB u1.1))], [(k649 u0 u1), (1, none), (k578 u0), (k579 u0), (k580 u0), (k645 r_), k642, (19, some (k440 u1))]⟩ [_] { an := [(1, cA q0 [0, 15, 2, 3, 4, 5])] } [] ⟨q0, trivial⟩ ?_
   refine bI h (fun hb h => ?_) (fun hb h => ?_)
   ·refine ct hb ?_
    refine aI (Imp.fin (st' := ⟨k641, [(0, some (.cells 137 [(.own 15 false u1.2.1.clearing.events.length), (cB u1.2.1.clearing.cleared), (cI u1.2.1.clearing.millis), (cI u1.2.1.clearing.energy), (.d (k432 u1)), (.d (k433 u1)), (.d (k434 u1)), (.d (k435 u1)), (.d (k436 u1)), (.d (k437 u1)), (.d (k438 u1)), (cI u1.2.1.p.buses), (.own 2 true u0.p.sources.length), (.own 3 true u0.p.links.length), (.own 4 true u0.p.racks.length), (cI u1.2.1.bus), (.d (k439 u1)), (cI u1.2.1.total), (.mp 5), (cI u1.2.1.now)])), (1, none), (k578 u0), (k579 u0), (k580 u0), (k645 r_), k642, (15, some (k440 u1))]⟩) (cs := []) ⟨[], [(0, 0), (1, 1), (2, 2), (3, 3), (4, 4), (5, 5), (13, 13), (19, 15)]⟩ [0, 2, 3] (by kernel_rfl) trivial) ?_
    refine awp_goto ?_
    obtain rfl := oi h
    exact GQ_next (by kernel_rfl)
   ·refine cf hb ?_
    refine aP (sz tT ⟨[(2, (vP 13 0))], [(k649 u0 u1), (1, none), (k578 u0), (k579 u0), (k580 u0), (k645 r_), (13, some (.cells 36 [(.own 19 false u1.2.1.clearing.events.length), (cB u1.2.1.clearing.cleared), (cI u1.2.1.clearing.millis), (cI u1.2.1.clearing.energy), (.d (k432 u1)), (.d (k433 u1)), (.d (k434 u1)), (.d (k435 u1)), (.d (k436 u1)), (.d (k437 u1)), (.d (k438 u1))])), (19, some (k440 u1))]⟩ {} [] ?_)
    refine aI (.trans (Imp.fin (st' := ⟨[(2, (vP 7 0))], [(0, some (.cells 137 [(.own 6 false u1.2.1.clearing.events.length), (cB u1.2.1.clearing.cleared), (cI u1.2.1.clearing.millis), (cI u1.2.1.clearing.energy), (.d (k432 u1)), (.d (k433 u1)), (.d (k434 u1)), (.d (k435 u1)), (.d (k436 u1)), (.d (k437 u1)), (.d (k438 u1)), (cI u1.2.1.p.buses), (.own 2 true u0.p.sources.length), (.own 3 true u0.p.links.length), (.own 4 true u0.p.racks.length), (cI u1.2.1.bus), (.d (k439 u1)), (cI u1.2.1.total), (.mp 5), (cI u1.2.1.now)])), (1, none), (k578 u0), (k579 u0), (k580 u0), (k645 r_), (6, some (k440 u1)), (k650 u1)]⟩) (cs := []) ⟨[], [(0, 0), (1, 1), (2, 2), (3, 3), (4, 4), (5, 5), (19, 6), (13, 7)]⟩ [2] (by kernel_rfl) trivial) (Imp.le (st' := ⟨[(2, (vP 7 0))], [(0, none), (1, none), (k578 u0), (k579 u0), (k580 u0), (k645 r_), (6, some (k440 u1)), (k650 u1)]⟩) ⟨⟨tR, trivial⟩, ⟨rfl, trivial, ⟨rfl, .refl _, ⟨rfl, .refl _, ⟨rfl, .refl _, ⟨rfl, .refl _, ⟨rfl, .refl _, ⟨rfl, .refl _, ⟨rfl, .refl _, trivial⟩⟩⟩⟩⟩⟩⟩⟩⟩)) ?_
    refine aR ?_
    obtain rfl := oi h
    exact GQ_ret ret_ng ret_nn av_ret (RetQ.mk (.inr rfl) (p := []) (l := [(.agg (k651 u1))]) (by kernel_rfl) trivial (TLe.refl _) ⟨rfl, trivial, ⟨rfl, trivial, ⟨rfl, .refl _, ⟨rfl, .refl _, ⟨rfl, .refl _, ⟨rfl, .refl _, ⟨rfl, .refl _, ⟨rfl, trivial, trivial⟩⟩⟩⟩⟩⟩⟩⟩)
 ·clear hy
  cases y with
  | brk z => exact absurd h (by simp)
  | ret v =>
   obtain rfl := oi h
   unfold ExK
   intro e st hn ha hR
   cases e with
   | normal => exact absurd rfl hn
   | exit id => exact hR
   | goto l => exact hR
   | ret => exact hR
   | panic c => exact hR
   | outgrown => exact hR
def m_guard_Clear_v2_R (p : Plant) : (Clearing × Int) → Exit → St → Prop :=
  fun r => RetQ TT [.cell 6 36, .tmp 7] (.tup [(.agg [(.own 3 false r.1.events.length), (cB r.1.cleared), (cI r.1.millis), (cI r.1.energy), (.d (slD none 1 boolC r.1.state.closed)), (.d (slD none 1 boolC r.1.state.locked)), (.d (slD none 1 boolC r.1.state.badLink)), (.d (slD none 1 boolC r.1.state.on_)), (.d (slD none 1 boolC r.1.state.badSource)), (.d (slD none 1 boolC r.1.state.earthed)), (.d (slD none 1 boolC r.1.state.badBus))]), (sI r.2)]) [(k529 p), (k530 p), (k531 p), (3, some (arD 56 2 Event.cell r.1.events)), (4, none)]
section
variable (p : Plant) (u1 : State) (u2 : Int) (u0 : (Clearing × (List (Int × Int))))
abbrev k652 : List (Nat × Option Ob) := [(k529 p), (k530 p), (k531 p), (11, some (k536 p)), k642]
abbrev k653 : List (Nat × Option Ob) := [(k529 p), (k530 p), (k531 p), k642]
abbrev k654 : List (Nat × Option Ob) := [(k529 p), (k530 p), (k531 p), (3, some (.arr 56 2 0 (elOf Event.cell ([] : List Event)))), (4, some (.cells 36 [(.own 3 false 0), (cB false), (cI 0), (cI 0), (.d nS), (.d nS), (.d nS), (.d nS), (.d nS), (.d nS), (.d nS)]))]
abbrev k656 : List CV := [(.own 3 false (([] : List Event).length)), (cB false), (cI 0), (cI 0), (.d k449), (.d k449), (.d k449), (.d k449), (.d k449), (.d k449), (.d k449)]
abbrev k655 : List (Nat × Option Ob) := [(k529 p), (k530 p), (k531 p), (3, some k447), (4, some (.cells 36 k656))]
abbrev k657 : Nat × Option Ob := (16, some k451)
abbrev k658 : List CV := [(.d nS), (cB false), (cI 0), (cI 0), (.d (k75 u1)), (.d (k76 u1)), (.d (k77 u1)), (.d (k78 u1)), (.d (k79 u1)), (.d (k80 u1)), (.d (k81 u1)), (cI p.buses), (.own 0 true p.sources.length), (.own 1 true p.links.length), (.own 2 true p.racks.length), (cI u2), (.d nS), (cI 0), (.mp 16), (cI 0)]
abbrev k659 : Nat × Option Ob := (17, some (.cells 137 [(.own 18 false (([] : List Event).length)), (cB false), (cI 0), (cI 0), (.d (k75 u1)), (.d (k76 u1)), (.d (k77 u1)), (.d (k78 u1)), (.d (k79 u1)), (.d (k80 u1)), (.d (k81 u1)), (cI p.buses), (.own 0 true p.sources.length), (.own 1 true p.links.length), (.own 2 true p.racks.length), (cI u2), (.d nS), (cI 0), (.mp 16), (cI 0)]))
abbrev k660 : Nat × Option Ob := (18, some k447)
abbrev k661 : List CV := [(.own 19 false u0.1.events.length), (cB u0.1.cleared), (cI u0.1.millis), (cI u0.1.energy), (.d (slD none 1 boolC u0.1.state.closed)), (.d (slD none 1 boolC u0.1.state.locked)), (.d (slD none 1 boolC u0.1.state.badLink)), (.d (slD none 1 boolC u0.1.state.on_)), (.d (k456 u0)), (.d (slD none 1 boolC u0.1.state.earthed)), (.d (slD none 1 boolC u0.1.state.badBus))]
abbrev k662 : TV := (.v (.agg (k661 u0)))
abbrev k663 : List (Nat × Option Ob) := [(17, none), (18, none), (k529 p), (k530 p), (k531 p), (16, some (mpD 3 3 false false 1 1 (intC .i64) (intC .i64) u0.2)), (19, some (arD 56 2 Event.cell u0.1.events)), (20, none)]
abbrev k664 : List CV := [(.own 3 false u0.1.events.length), (cB u0.1.cleared), (cI u0.1.millis), (cI u0.1.energy), (.d (slD none 1 boolC u0.1.state.closed)), (.d (slD none 1 boolC u0.1.state.locked)), (.d (slD none 1 boolC u0.1.state.badLink)), (.d (slD none 1 boolC u0.1.state.on_)), (.d (k456 u0)), (.d (slD none 1 boolC u0.1.state.earthed)), (.d (slD none 1 boolC u0.1.state.badBus))]
end
theorem m_guard_Clear_v2_ok (p : Plant) (s_ : State) (u2 : Int) {r : (Clearing × Int)} (h : m_guard_Clear_v2 p s_ u2 = some r) : Fn Try.prog 15 (k542 p s_ u2) (k543 p) (.tup [(.agg [(.own 3 false r.1.events.length), (cB r.1.cleared), (cI r.1.millis), (cI r.1.energy), (.d (slD none 1 boolC r.1.state.closed)), (.d (slD none 1 boolC r.1.state.locked)), (.d (slD none 1 boolC r.1.state.badLink)), (.d (slD none 1 boolC r.1.state.on_)), (.d (slD none 1 boolC r.1.state.badSource)), (.d (slD none 1 boolC r.1.state.earthed)), (.d (slD none 1 boolC r.1.state.badBus))]), (sI r.2)]) [(k529 p), (k530 p), (k531 p), (3, some (arD 56 2 Event.cell r.1.events)), (4, none)] := by
 refine fN tT Try.func15 rfl rfl fun B => ?_
 show AWp _ _ _ _ _ _ ((m_guard_Clear_v2_R p) r) _
 unfold m_guard_Clear_v2 at h
 refine sz tT ⟨[(2, (vI u2)), (3, (vP 11 0)), (k121 s_), (6, (vP 13 0))], (k652 p)⟩ { fr := [(0, 11), (1, 12), (2, 13)] } [12] ?_
 refine aQ (aQ (bE h fun r_ hr_ h => ?_))
 refine rg tT ⟨[(2, (vI u2)), (3, (vP 11 0)), (k121 s_), (6, (vP 13 0)), (8, (vI r_))], (k652 p)⟩ [Fn Try.prog 12 (k561 p s_) (k543 p) (vI r_) (k543 p)] { an := [(2, .callR [0, 1, 2] (vI r_))] } [] ⟨(Fn.lend (frz := [0, 1, 2]) (p := [p.sources.length = p.sources.length, p.links.length = p.links.length, p.racks.length = p.racks.length]) (Fn.le (args' := (k562 p s_)) (m_plant_CheckState_ok p s_ hr_) ⟨SLe.agg ⟨CLe.refl _, CLe.d DLe.nn', CLe.d DLe.nn', CLe.d DLe.nn', trivial⟩, SLe.refl _, trivial⟩) (by kernel_rfl) ⟨rfl, rfl, rfl, trivial⟩ rfl), trivial⟩ ?_
 refine sz tT ⟨[(2, (vI u2)), (3, (vP 11 0)), (k121 s_), (6, (vP 13 0)), (8, (vI r_)), (14, (vB (!decide (r_ = 0))))], (k652 p)⟩ {} [] ?_
 refine bI h (fun hb1 h => ?_) (fun hb1 h => ?_)
 ·refine ct hb1 ?_
  refine sz tT ⟨[(6, (vP 13 0)), (7, (vI r_))], (k653 p)⟩ {} [] ?_
  refine aI (.trans (Imp.adoptC (E := 0) (esz := 0) (E0 := 36) (cs := k415) (p := 13) (q := 0) (b := 14) (esz0 := 0) (el0 := fun _ _ => .nilp) (ob := .arr 56 2 0 (elOf Event.cell ([] : List Event))) (fun _ _ _ _ h => .inl ⟨h, rfl⟩) (by kernel_rfl) (by kernel_rfl) (by kernel_rfl)) (.trans (fz ⟨[(6, (vP 13 0)), (7, (vI r_))], [(k529 p), (k530 p), (k531 p), (13, some (.cells 36 [(.own 14 false 0), (cB false), (cI 0), (cI 0), (.d nS), (.d nS), (.d nS), (.d nS), (.d nS), (.d nS), (.d nS)])), (14, some (.arr 56 2 0 (elOf Event.cell ([] : List Event))))]⟩ []) (.trans (Imp.fin (st' := ⟨[(6, (vP 4 0)), (7, (vI r_))], (k654 p)⟩) (cs := []) ⟨[], [(0, 0), (1, 1), (2, 2), (14, 3), (13, 4)]⟩ [6, 7] (by kernel_rfl) trivial) (Imp.le (st' := ⟨[(6, (vP 4 0)), (7, (vI r_))], (k655 p)⟩) ⟨⟨tR, tR, trivial⟩, ⟨rfl, .refl _, ⟨rfl, .refl _, ⟨rfl, .refl _, ⟨rfl, oW, ⟨rfl, OLe_cells ⟨cW, CLe.refl _, CLe.refl _, CLe.refl _, CLe.d DLe.nil', CLe.d DLe.nil', CLe.d DLe.nil', CLe.d DLe.nil', CLe.d DLe.nil', CLe.d DLe.nil', CLe.d DLe.nil', trivial⟩, trivial⟩⟩⟩⟩⟩⟩)))) ?_
  refine aR ?_
  obtain rfl := oi h
  exact rh [(.agg k656), (sI r_)] (.refl _) ⟨rfl, .refl _, ⟨rfl, .refl _, ⟨rfl, .refl _, ⟨rfl, .refl _, ⟨rfl, trivial, trivial⟩⟩⟩⟩⟩
 ·refine cf hb1 ?_
  refine aP (aQ (sg tT ⟨[(2, (vI u2)), (3, (vP 11 0)), (k121 s_), (6, (vP 13 0)), (24, (vB (bif (decide (u2 < 0)) then true else (decide (p.buses ≤ u2)))))], (k652 p)⟩ (k212 u2) { yb := [(2, (decide (u2 < 0)))] } [] (ae trivial) ?_))
  refine bI h (fun hb h => ?_) (fun hb h => ?_)
  ·refine ct hb ?_
   refine sz tT ⟨[(6, (vP 13 0)), (7, (vI 1))], (k653 p)⟩ {} [] ?_
   refine aI (.trans (Imp.adoptC (E := 0) (esz := 0) (E0 := 36) (cs := k415) (p := 13) (q := 0) (b := 15) (esz0 := 0) (el0 := fun _ _ => .nilp) (ob := .arr 56 2 0 (elOf Event.cell ([] : List Event))) (fun _ _ _ _ h => .inl ⟨h, rfl⟩) (by kernel_rfl) (by kernel_rfl) (by kernel_rfl)) (.trans (fz ⟨[(6, (vP 13 0)), (7, (vI 1))], [(k529 p), (k530 p), (k531 p), (13, some (.cells 36 [(.own 15 false 0), (cB false), (cI 0), (cI 0), (.d nS), (.d nS), (.d nS), (.d nS), (.d nS), (.d nS), (.d nS)])), (15, some (.arr 56 2 0 (elOf Event.cell ([] : List Event))))]⟩ []) (.trans (Imp.fin (st' := ⟨[(6, (vP 4 0)), (7, (vI 1))], (k654 p)⟩) (cs := []) ⟨[], [(0, 0), (1, 1), (2, 2), (15, 3), (13, 4)]⟩ [6, 7] (by kernel_rfl) trivial) (Imp.le (st' := ⟨[(6, (vP 4 0)), (7, (vI 1))], (k655 p)⟩) ⟨⟨tR, tR, trivial⟩, ⟨rfl, .refl _, ⟨rfl, .refl _, ⟨rfl, .refl _, ⟨rfl, oW, ⟨rfl, OLe_cells ⟨cW, CLe.refl _, CLe.refl _, CLe.refl _, CLe.d DLe.nil', CLe.d DLe.nil', CLe.d DLe.nil', CLe.d DLe.nil', CLe.d DLe.nil', CLe.d DLe.nil', CLe.d DLe.nil', trivial⟩, trivial⟩⟩⟩⟩⟩⟩)))) ?_
   refine aR ?_
   obtain rfl := oi h
   exact rh [(.agg k656), (sI 1)] (.refl _) ⟨rfl, .refl _, ⟨rfl, .refl _, ⟨rfl, .refl _, ⟨rfl, .refl _, ⟨rfl, trivial, trivial⟩⟩⟩⟩⟩
  ·refine cf hb ?_
   refine aP (aQ (bE h fun u1 hr_1 h => ?_))
   have q0 := m_guard_copied_ok s_ hr_1
   refine di tT mX ⟨[(6, (vP 13 0)), (9, (vP 17 0))], [(k529 p), (k530 p), (k531 p), k642, k657, (17, some (.cells 137 (k658 p u1 u2)))]⟩ [_] { an := [(1, cA q0 []), (5, .map 0 (kOf (intC .i64) ([] : (List (Int × Int)))) (vOf (intC .i64) ([] : (List (Int × Int)))) [])], fr := [(5, 16), (7, 17)] } [] ⟨q0, trivial⟩ (.trans (Imp.adoptC (E := 0) (esz := 0) (E0 := 137) (cs := (k658 p u1 u2)) (p := 17) (q := 0) (b := 18) (esz0 := 0) (el0 := fun _ _ => .nilp) (ob := .arr 56 2 0 (elOf Event.cell ([] : List Event))) (fun _ _ _ _ h => .inl ⟨h, rfl⟩) (by kernel_rfl) (by kernel_rfl) (by kernel_rfl)) (.trans (fz ⟨[(6, (vP 13 0)), (9, (vP 17 0))], [(k529 p), (k530 p), (k531 p), k642, k657, (17, some (.cells 137 [(.own 18 false 0), (cB false), (cI 0), (cI 0), (.d (k75 u1)), (.d (k76 u1)), (.d (k77 u1)), (.d (k78 u1)), (.d (k79 u1)), (.d (k80 u1)), (.d (k81 u1)), (cI p.buses), (.own 0 true p.sources.length), (.own 1 true p.links.length), (.own 2 true p.racks.length), (cI u2), (.d nS), (cI 0), (.mp 16), (cI 0)])), (18, some (.arr 56 2 0 (elOf Event.cell ([] : List Event))))]⟩ []) (Imp.le (st' := ⟨[(6, (vP 13 0)), (9, (vP 17 0))], [(k529 p), (k530 p), (k531 p), k642, k657, (k659 p u1 u2), k660]⟩) ⟨⟨tR, tR, trivial⟩, ⟨rfl, .refl _, ⟨rfl, .refl _, ⟨rfl, .refl _, ⟨rfl, .refl _, ⟨rfl, .refl _, ⟨rfl, OLe_cells ⟨cW, CLe.refl _, CLe.refl _, CLe.refl _, CLe.refl _, CLe.refl _, CLe.refl _, CLe.refl _, CLe.refl _, CLe.refl _, CLe.refl _, CLe.refl _, CLe.refl _, CLe.refl _, CLe.refl _, CLe.refl _, CLe.refl _, CLe.refl _, CLe.refl _, CLe.refl _, trivial⟩, ⟨rfl, oW, trivial⟩⟩⟩⟩⟩⟩⟩⟩))) ?_
   refine aQ (bE h fun u0 hr_2 h => ?_)
   refine rg tT ⟨[(6, (vP 13 0)), (7, (vI 0))], [(k529 p), (k530 p), (k531 p), (13, some (.cells 36 (k661 u0))), (19, some (arD 56 2 Event.cell u0.1.events))]⟩ [Fn Try.prog 63 [(.one (.ptr 17 0))] [(k659 p u1 u2), k660, (k529 p), (k530 p), (k531 p), k657] (k662 u0) (k663 p u0)] { an := [(1, .call [17, 18, 0, 1, 2, 16] (k662 u0) (k663 p u0))] } [] ⟨(Fn.leH (args := [(.one (.ptr 17 0))]) (hin := [(17, some (.cells 137 [(.own 18 false (([] : List Event).length)), (cB false), (cI 0), (cI 0), (.d (k75 u1)), (.d (k76 u1)), (.d (k77 u1)), (.d (k78 u1)), (.d (k79 u1)), (.d (k80 u1)), (.d (k81 u1)), (cI p.buses), (.own 0 true p.sources.length), (.own 1 true p.links.length), (.own 2 true p.racks.length), (cI u2), (.d k252), (cI 0), (.mp 16), (cI 0)])), k660, (k529 p), (k530 p), (k531 p), k657]) (Fn.renK [(0, 17), (1, 18), (2, 0), (3, 1), (4, 2), (5, 16), (6, 19), (7, 20)] (m_guard_machine_run_v1_ok (k459 p u1 u2) false hr_2) (by kernel_rfl) (by kernel_rfl) (by kernel_rfl) (by kernel_rfl)) ⟨SLe.refl _, trivial⟩ ⟨rfl, OLe_cells ⟨CLe.refl _, CLe.refl _, CLe.refl _, CLe.refl _, CLe.refl _, CLe.refl _, CLe.refl _, CLe.refl _, CLe.refl _, CLe.refl _, CLe.refl _, CLe.refl _, CLe.refl _, CLe.refl _, CLe.refl _, CLe.refl _, CLe.d DLe.nilSl, CLe.refl _, CLe.refl _, CLe.refl _, trivial⟩, ⟨rfl, .refl _, ⟨rfl, .refl _, ⟨rfl, .refl _, ⟨rfl, .refl _, ⟨rfl, .refl _, trivial⟩⟩⟩⟩⟩⟩), trivial⟩ ?_
   refine aI (Imp.fin (st' := ⟨[(6, (vP 4 0)), (7, (vI 0))], [(k529 p), (k530 p), (k531 p), (3, some (arD 56 2 Event.cell u0.1.events)), (4, some (.cells 36 (k664 u0)))]⟩) (cs := []) ⟨[], [(0, 0), (1, 1), (2, 2), (19, 3), (13, 4)]⟩ [6, 7] (by kernel_rfl) trivial) ?_
   refine aR ?_
   obtain rfl := oi h
   exact rh [(.agg (k664 u0)), (sI 0)] (.refl _) ⟨rfl, .refl _, ⟨rfl, .refl _, ⟨rfl, .refl _, ⟨rfl, .refl _, ⟨rfl, trivial, trivial⟩⟩⟩⟩⟩
def m_plant_failed_v1_R (p : Plant) : (State × Int) → Exit → St → Prop :=
  fun r => RetQ TT [.cell 8 29, .tmp 9] (.tup [(.agg [(.d (slD none 1 boolC r.1.closed)), (.d (slD none 1 boolC r.1.locked)), (.d (slD none 1 boolC r.1.badLink)), (.d (slD none 1 boolC r.1.on_)), (.d (slD none 1 boolC r.1.badSource)), (.d (slD none 1 boolC r.1.earthed)), (.d (slD none 1 boolC r.1.badBus))]), (sI r.2)]) (k543 p)
section
variable (s_ : State) (x : Part) (p : Plant) (u0 : State) (is : Bool)
abbrev k665 : Nat × Option Ob := (23, some (k100 s_))
abbrev k666 : Nat × Option Ob := (24, some (.cells 117 [(cI x.kind), (cI x.index)]))
abbrev k667 : Nat × Option Ob := (25, some k114)
abbrev k668 : List (Nat × Option Ob) := [(k529 p), (k530 p), (k531 p), (k665 s_), (k666 x), k667]
abbrev k669 : Nat × TV := (8, (vD (ipT [k449, k449, k449, k449, k449, k449, k449] 0)))
abbrev k670 : List CV := [(.d k449), (.d k449), (.d k449), (.d k449), (.d k449), (.d k449), (.d k449)]
abbrev k673 : Ob := (.cells 29 [(.own 26 false u0.closed.length), (.own 27 false u0.locked.length), (.own 28 false u0.badLink.length), (.own 29 false u0.on_.length), (.own 30 false u0.badSource.length), (.own 31 false u0.earthed.length), (.own 32 false u0.badBus.length)])
abbrev k672 : Nat × Option Ob := (23, some (k673 u0))
abbrev k674 : Nat × Option Ob := (26, some (arD 4 1 boolC u0.closed))
abbrev k675 : Nat × Option Ob := (27, some (arD 4 1 boolC u0.locked))
abbrev k676 : Nat × Option Ob := (28, some (arD 4 1 boolC u0.badLink))
abbrev k677 : Nat × Option Ob := (29, some (arD 4 1 boolC u0.on_))
abbrev k678 : Nat × Option Ob := (30, some (arD 4 1 boolC u0.badSource))
abbrev k679 : Nat × Option Ob := (31, some (arD 4 1 boolC u0.earthed))
abbrev k680 : Nat × Option Ob := (32, some (arD 4 1 boolC u0.badBus))
abbrev k671 : List (Nat × Option Ob) := [(k529 p), (k530 p), (k531 p), (k672 u0), (k666 x), k667, (k674 u0), (k675 u0), (k676 u0), (k677 u0), (k678 u0), (k679 u0), (k680 u0)]
abbrev k681 : List CV := [(.own 32 false u0.badBus.length)]
abbrev k682 := (scV 1 (k681 u0))
abbrev k683 : List CV := [(.own 30 false u0.badSource.length)]
abbrev k684 : List DV := [(.int .i64 1), (.int .i64 2)]
abbrev k685 := (scV 1 [(.own 32 false u0.badBus.length), (.own 30 false u0.badSource.length)])
abbrev k686 : List CV := [(.own 28 false u0.badLink.length)]
abbrev k687 : List DV := [(.int .i64 1), (.int .i64 2), (.int .i64 3)]
abbrev k688 := (scV 1 [(.own 32 false u0.badBus.length), (.own 30 false u0.badSource.length), (.own 28 false u0.badLink.length)])
abbrev k689 : St := ⟨[(8, (vD (ipT [nS, nS, nS, nS, nS, nS, nS] 0))), (9, (vI 14))], (k543 p)⟩
abbrev k690 : St := ⟨[k669, (9, (vI 14))], (k543 p)⟩
abbrev k691 : List SV := [(.agg k670), (sI 14)]
abbrev k692 : List (Nat × TV) := [(5, (vP 23 0)), (8, (vP 25 0))]
abbrev k693 : List CV := [(.d (k75 u0)), (.d (k76 u0)), (.d (k77 u0)), (.d (k78 u0)), (.d (k79 u0)), (.d (k80 u0)), (.d (slD none 1 boolC (u0.badBus.set x.index.toNat is)))]
abbrev k694 := (u0.badSource.set x.index.toNat is)
abbrev k695 : List CV := [(.d (k75 u0)), (.d (k76 u0)), (.d (k77 u0)), (.d (k78 u0)), (.d (slD none 1 boolC (k694 x u0 is))), (.d (k80 u0)), (.d (k81 u0))]
abbrev k696 := (u0.badLink.set x.index.toNat is)
abbrev k697 : List CV := [(.d (k75 u0)), (.d (k76 u0)), (.d (slD none 1 boolC (k696 x u0 is))), (.d (k78 u0)), (.d (k79 u0)), (.d (k80 u0)), (.d (k81 u0))]
end
theorem m_plant_failed_v1_ok (p : Plant) (s_ : State) (x : Part) (is : Bool) {r : (State × Int)} (h : m_plant_failed p s_ x is = some r) : Fn Try.prog 93 [(.agg (k537 p)), (.agg (k98 s_)), (.agg [(cI x.kind), (cI x.index)]), (sB is)] (k543 p) (.tup [(.agg [(.d (slD none 1 boolC r.1.closed)), (.d (slD none 1 boolC r.1.locked)), (.d (slD none 1 boolC r.1.badLink)), (.d (slD none 1 boolC r.1.on_)), (.d (slD none 1 boolC r.1.badSource)), (.d (slD none 1 boolC r.1.earthed)), (.d (slD none 1 boolC r.1.badBus))]), (sI r.2)]) (k543 p) := by
 refine fN tT Try.func93 rfl rfl fun B => ?_
 show AWp _ _ _ _ _ _ ((m_plant_failed_v1_R p) r) _
 unfold m_plant_failed at h
 refine sz tT ⟨[(3, (vB is)), (4, (vP 22 0)), (5, (vP 23 0)), (6, (vP 24 0)), (8, (vP 25 0))], [(k529 p), (k530 p), (k531 p), (22, some (k536 p)), (k665 s_), (k666 x), k667]⟩ { fr := [(0, 22), (1, 23), (2, 24), (3, 25)] } [] ?_
 refine aQ (aQ (bE h fun r_ hr_ h => ?_))
 refine rg tT ⟨[(3, (vB is)), (5, (vP 23 0)), (6, (vP 24 0)), (8, (vP 25 0)), (10, (vI r_))], (k668 s_ x p)⟩ [Fn Try.prog 12 (k561 p s_) (k543 p) (vI r_) (k543 p)] { an := [(2, .callR [0, 1, 2] (vI r_))] } [] ⟨(Fn.lend (frz := [0, 1, 2]) (p := [p.sources.length = p.sources.length, p.links.length = p.links.length, p.racks.length = p.racks.length]) (Fn.le (args' := (k562 p s_)) (m_plant_CheckState_ok p s_ hr_) ⟨SLe.agg ⟨CLe.refl _, CLe.d DLe.nn', CLe.d DLe.nn', CLe.d DLe.nn', trivial⟩, SLe.refl _, trivial⟩) (by kernel_rfl) ⟨rfl, rfl, rfl, trivial⟩ rfl), trivial⟩ ?_
 refine sz tT ⟨[(3, (vB is)), (5, (vP 23 0)), (6, (vP 24 0)), (8, (vP 25 0)), (10, (vI r_)), (16, (vB (!decide (r_ = 0))))], (k668 s_ x p)⟩ {} [] ?_
 refine bI h (fun hb7 h => ?_) (fun hb7 h => ?_)
 ·refine ct hb7 ?_
  refine sz tT ⟨[(8, (vD (ipT [nS, nS, nS, nS, nS, nS, nS] 0))), (9, (vI r_))], (k543 p)⟩ {} [25] ?_
  refine aI (Imp.le (st' := ⟨[k669, (9, (vI r_))], (k543 p)⟩) ⟨⟨⟨_, rfl, TLe.v (SLe.one (CLe.d (ipT_le ⟨DLe.nil', DLe.nil', DLe.nil', DLe.nil', DLe.nil', DLe.nil', DLe.nil', trivial⟩)))⟩, tR, trivial⟩, ⟨rfl, .refl _, ⟨rfl, .refl _, ⟨rfl, .refl _, trivial⟩⟩⟩⟩) ?_
  refine aR ?_
  obtain rfl := oi h
  exact rh [(.agg k670), (sI r_)] (.refl _) ⟨rfl, .refl _, ⟨rfl, .refl _, ⟨rfl, .refl _, trivial⟩⟩⟩
 ·refine cf hb7 ?_
  refine aP (aQ (bE h fun u0 hr_1 h => ?_))
  have q0 := rk [(0, 26), (1, 27), (2, 28), (3, 29), (4, 30), (5, 31), (6, 32), (7, 33)] (m_plant_copied_v1_ok s_ hr_1)
  refine rg tT ⟨[(3, (vB is)), (5, (vP 23 0)), (6, (vP 24 0)), (8, (vP 25 0))], (k671 x p u0)⟩ [_] { an := [(1, cA q0 [])] } [] ⟨q0, trivial⟩ ?_
  refine aQ ?_
  refine bI h (fun hb h => ?_) (fun hb h => ?_)
  ·skip
   refine rg tT ⟨[(3, (vB is)), (5, (vP 23 0)), (6, (vP 24 0)), (8, (vP 25 0)), (11, (vO 32 false u0.badBus.length))], (k671 x p u0)⟩ [SetAt [some .i64] 1 1 0 (scK []) (scV 1 []) [(.int .i64 1)] (k681 u0) [32] 1 (scK [(.int .i64 1)]) (k682 u0), SetAt [some .i64] 1 1 1 (scK [(.int .i64 1)]) (k682 u0) [(.int .i64 2)] (k683 u0) [32, 30] 2 (scK k684) (k685 u0), SetAt [some .i64] 1 1 2 (scK k684) (k685 u0) [(.int .i64 3)] (k686 u0) [32, 30, 28] 3 (scK k687) (k688 u0), LookAt [some .i64] 1 1 3 (scK k687) (k688 u0) [(.int .i64 x.kind)] [(.d nS)] true (k681 u0)] { an := [(0, .map 0 (scK []) (scV 1 []) []), (3, .map 1 (scK [(.int .i64 1)]) (k682 u0) [32]), (6, .map 2 (scK k684) (k685 u0) [32, 30]), (9, .map 3 (scK k687) (k688 u0) [32, 30, 28]), (13, .look true (k681 u0))], fr := [(0, 35)] } [] ⟨(⟨(fun i hi => absurd hi (Nat.not_lt_zero i)), (by intro i hi j hj; match i, j, hi, hj with | 0, 0, _, _ => exact subL_iff.1 (show subL (CV.ment (.own 32 false u0.badBus.length)) [32] = true from by kernel_rfl)), 0, (fun i hi => absurd hi (Nat.not_lt_zero i)), .inr ⟨rfl, rfl⟩, rfl, rfl, (fun i hi => absurd hi (Nat.not_lt_zero i))⟩), (⟨(by intro i hi; match i, hi with | 0, _ => rfl), (by intro i hi j hj; match i, j, hi, hj with | 0, 0, _, _ => exact subL_iff.1 (show subL (CV.ment (.own 32 false u0.badBus.length)) [32, 30] = true from by kernel_rfl) | 1, 0, _, _ => exact subL_iff.1 (show subL (CV.ment (.own 30 false u0.badSource.length)) [32, 30] = true from by kernel_rfl)), 1, (by intro i hi; match i, hi with | 0, _ => rfl), .inr ⟨rfl, rfl⟩, rfl, rfl, (by intro i hi; match i, hi with | 0, _ => exact fun _ => ⟨rfl, rfl⟩)⟩), (⟨(by intro i hi; match i, hi with | 0, _ => rfl | 1, _ => rfl), (by intro i hi j hj; match i, j, hi, hj with | 0, 0, _, _ => exact subL_iff.1 (show subL (CV.ment (.own 32 false u0.badBus.length)) [32, 30, 28] = true from by kernel_rfl) | 1, 0, _, _ => exact subL_iff.1 (show subL (CV.ment (.own 30 false u0.badSource.length)) [32, 30, 28] = true from by kernel_rfl) | 2, 0, _, _ => exact subL_iff.1 (show subL (CV.ment (.own 28 false u0.badLink.length)) [32, 30, 28] = true from by kernel_rfl)), 2, (by intro i hi; match i, hi with | 0, _ => rfl | 1, _ => rfl), .inr ⟨rfl, rfl⟩, rfl, rfl, (by intro i hi; match i, hi with | 0, _ => exact fun _ => ⟨rfl, rfl⟩ | 1, _ => exact fun _ => ⟨rfl, rfl⟩)⟩), (⟨(by intro i hi; match i, hi with | 0, _ => rfl | 1, _ => rfl | 2, _ => rfl), .inl ⟨rfl, 0, by decide, congrArg some hb, (fun i hi => absurd hi (Nat.not_lt_zero i)), rfl⟩⟩), trivial⟩ ?_
   refine aQ (aQ (bE h fun u1 hr_2 h => ?_))
   have q0 := m_plant_within_ok x.index 0 (IntKind.wrap .i64 ((u0.badBus.length : Int) - 1)) hr_2
   refine rg tT ⟨[(3, (vB is)), (5, (vP 23 0)), (6, (vP 24 0)), (8, (vP 25 0)), (11, (vO 32 false u0.badBus.length)), (38, (vB (!u1)))], (k671 x p u0)⟩ [_] { an := [(5, cA q0 [])] } [] ⟨q0, trivial⟩ ?_
   refine bI h (fun hb1 h => ?_) (fun hb1 h => ?_)
   ·refine ct hb1 ?_
    refine sz tT (k689 p) {} [25] ?_
    refine aI (Imp.le (st' := (k690 p)) ⟨⟨⟨_, rfl, TLe.v (SLe.one (CLe.d (ipT_le ⟨DLe.nil', DLe.nil', DLe.nil', DLe.nil', DLe.nil', DLe.nil', DLe.nil', trivial⟩)))⟩, tR, trivial⟩, ⟨rfl, .refl _, ⟨rfl, .refl _, ⟨rfl, .refl _, trivial⟩⟩⟩⟩) ?_
    refine aR ?_
    obtain rfl := oi h
    exact rh k691 (.refl _) ⟨rfl, .refl _, ⟨rfl, .refl _, ⟨rfl, .refl _, trivial⟩⟩⟩
   ·refine cf hb1 ?_
    refine aP (aQ (aO h fun a1 h => ?_))
    refine ri tT ⟨k692, [(k529 p), (k530 p), (k531 p), (k672 u0), k667, (k674 u0), (k675 u0), (k676 u0), (k677 u0), (k678 u0), (k679 u0), (32, some (.arr 4 1 u0.badBus.length (elOf boolC (u0.badBus.set x.index.toNat is))))]⟩ [_, _, ArrEq u0.badBus.length 1 (stEls (elOf boolC u0.badBus) x.index.toNat 0 [(.bool is)]) (elOf boolC (u0.badBus.set x.index.toNat is))] { an := [(5, .arr 0 (elOf boolC (u0.badBus.set x.index.toNat is)))] } [] ⟨a1, (tL a1), (arrEq_set' _ _ _ _ _ _ _ _ rfl (fun j hj => (match j, hj with | 0, _ => rfl))), trivial⟩ (Imp.le (st' := ⟨k692, [(k529 p), (k530 p), (k531 p), (23, some (.cells 29 [(.own 26 false u0.closed.length), (.own 27 false u0.locked.length), (.own 28 false u0.badLink.length), (.own 29 false u0.on_.length), (.own 30 false u0.badSource.length), (.own 31 false u0.earthed.length), (.own 32 false ((u0.badBus.set x.index.toNat is).length))])), k667, (k674 u0), (k675 u0), (k676 u0), (k677 u0), (k678 u0), (k679 u0), (32, some (arD 4 1 boolC (u0.badBus.set x.index.toNat is)))]⟩) ⟨⟨tR, tR, trivial⟩, ⟨rfl, .refl _, ⟨rfl, .refl _, ⟨rfl, .refl _, ⟨rfl, OLe_cells ⟨CLe.refl _, CLe.refl _, CLe.refl _, CLe.refl _, CLe.refl _, CLe.refl _, cW, trivial⟩, ⟨rfl, .refl _, ⟨rfl, .refl _, ⟨rfl, .refl _, ⟨rfl, .refl _, ⟨rfl, .refl _, ⟨rfl, .refl _, ⟨rfl, .refl _, ⟨rfl, oW, trivial⟩⟩⟩⟩⟩⟩⟩⟩⟩⟩⟩⟩⟩) ?_
    refine si tT ⟨[(8, (vP 25 0)), (9, (vI 0))], [(k529 p), (k530 p), (k531 p), (25, some (.cells 29 (k693 x u0 is)))]⟩ [u0.closed.length = u0.closed.length, u0.locked.length = u0.locked.length, u0.badLink.length = u0.badLink.length, u0.on_.length = u0.on_.length, u0.badSource.length = u0.badSource.length, u0.earthed.length = u0.earthed.length, (u0.badBus.set x.index.toNat is).length = (u0.badBus.set x.index.toNat is).length] {} [26, 27, 28, 29, 30, 31, 32] ⟨rfl, rfl, rfl, rfl, rfl, rfl, rfl, trivial⟩ (fz ⟨[(8, (vD (ipT [(k75 u0), (k76 u0), (k77 u0), (k78 u0), (k79 u0), (k80 u0), (slD none 1 boolC (u0.badBus.set x.index.toNat is))] 0))), (9, (vI 0))], (k543 p)⟩ [25]) ?_
    refine aR ?_
    obtain rfl := oi h
    exact rh [(.agg (k693 x u0 is)), (sI 0)] (.refl _) ⟨rfl, .refl _, ⟨rfl, .refl _, ⟨rfl, .refl _, trivial⟩⟩⟩
  ·skip
   refine bI h (fun hb2 h => ?_) (fun hb2 h => ?_)
   ·skip
    refine rg tT ⟨[(3, (vB is)), (5, (vP 23 0)), (6, (vP 24 0)), (8, (vP 25 0)), (11, (vO 30 false u0.badSource.length))], (k671 x p u0)⟩ [SetAt [some .i64] 1 1 0 (scK []) (scV 1 []) [(.int .i64 1)] (k681 u0) [32] 1 (scK [(.int .i64 1)]) (k682 u0), SetAt [some .i64] 1 1 1 (scK [(.int .i64 1)]) (k682 u0) [(.int .i64 2)] (k683 u0) [32, 30] 2 (scK k684) (k685 u0), SetAt [some .i64] 1 1 2 (scK k684) (k685 u0) [(.int .i64 3)] (k686 u0) [32, 30, 28] 3 (scK k687) (k688 u0), LookAt [some .i64] 1 1 3 (scK k687) (k688 u0) [(.int .i64 x.kind)] [(.d nS)] true (k683 u0)] { an := [(0, .map 0 (scK []) (scV 1 []) []), (3, .map 1 (scK [(.int .i64 1)]) (k682 u0) [32]), (6, .map 2 (scK k684) (k685 u0) [32, 30]), (9, .map 3 (scK k687) (k688 u0) [32, 30, 28]), (13, .look true (k683 u0))], fr := [(0, 37)] } [] ⟨(⟨(fun i hi => absurd hi (Nat.not_lt_zero i)), (by intro i hi j hj; match i, j, hi, hj with | 0, 0, _, _ => exact subL_iff.1 (show subL (CV.ment (.own 32 false u0.badBus.length)) [32] = true from by kernel_rfl)), 0, (fun i hi => absurd hi (Nat.not_lt_zero i)), .inr ⟨rfl, rfl⟩, rfl, rfl, (fun i hi => absurd hi (Nat.not_lt_zero i))⟩), (⟨(by intro i hi; match i, hi with | 0, _ => rfl), (by intro i hi j hj; match i, j, hi, hj with | 0, 0, _, _ => exact subL_iff.1 (show subL (CV.ment (.own 32 false u0.badBus.length)) [32, 30] = true from by kernel_rfl) | 1, 0, _, _ => exact subL_iff.1 (show subL (CV.ment (.own 30 false u0.badSource.length)) [32, 30] = true from by kernel_rfl)), 1, (by intro i hi; match i, hi with | 0, _ => rfl), .inr ⟨rfl, rfl⟩, rfl, rfl, (by intro i hi; match i, hi with | 0, _ => exact fun _ => ⟨rfl, rfl⟩)⟩), (⟨(by intro i hi; match i, hi with | 0, _ => rfl | 1, _ => rfl), (by intro i hi j hj; match i, j, hi, hj with | 0, 0, _, _ => exact subL_iff.1 (show subL (CV.ment (.own 32 false u0.badBus.length)) [32, 30, 28] = true from by kernel_rfl) | 1, 0, _, _ => exact subL_iff.1 (show subL (CV.ment (.own 30 false u0.badSource.length)) [32, 30, 28] = true from by kernel_rfl) | 2, 0, _, _ => exact subL_iff.1 (show subL (CV.ment (.own 28 false u0.badLink.length)) [32, 30, 28] = true from by kernel_rfl)), 2, (by intro i hi; match i, hi with | 0, _ => rfl | 1, _ => rfl), .inr ⟨rfl, rfl⟩, rfl, rfl, (by intro i hi; match i, hi with | 0, _ => exact fun _ => ⟨rfl, rfl⟩ | 1, _ => exact fun _ => ⟨rfl, rfl⟩)⟩), (⟨(by intro i hi; match i, hi with | 0, _ => rfl | 1, _ => rfl | 2, _ => rfl), .inl ⟨rfl, 1, by decide, congrArg some hb2, (by intro i hi; match i, hi with | 0, _ => exact congrArg some hb), rfl⟩⟩), trivial⟩ ?_
    refine aQ (aQ (bE h fun u2 hr_3 h => ?_))
    have q0 := m_plant_within_ok x.index 0 (IntKind.wrap .i64 ((u0.badSource.length : Int) - 1)) hr_3
    refine rg tT ⟨[(3, (vB is)), (5, (vP 23 0)), (6, (vP 24 0)), (8, (vP 25 0)), (11, (vO 30 false u0.badSource.length)), (38, (vB (!u2)))], (k671 x p u0)⟩ [_] { an := [(5, cA q0 [])] } [] ⟨q0, trivial⟩ ?_
    refine bI h (fun hb3 h => ?_) (fun hb3 h => ?_)
    ·refine ct hb3 ?_
     refine sz tT (k689 p) {} [25] ?_
     refine aI (Imp.le (st' := (k690 p)) ⟨⟨⟨_, rfl, TLe.v (SLe.one (CLe.d (ipT_le ⟨DLe.nil', DLe.nil', DLe.nil', DLe.nil', DLe.nil', DLe.nil', DLe.nil', trivial⟩)))⟩, tR, trivial⟩, ⟨rfl, .refl _, ⟨rfl, .refl _, ⟨rfl, .refl _, trivial⟩⟩⟩⟩) ?_
     refine aR ?_
     obtain rfl := oi h
     exact rh k691 (.refl _) ⟨rfl, .refl _, ⟨rfl, .refl _, ⟨rfl, .refl _, trivial⟩⟩⟩
    ·refine cf hb3 ?_
     refine aP (aQ (aO h fun a1 h => ?_))
     refine ri tT ⟨k692, [(k529 p), (k530 p), (k531 p), (k672 u0), k667, (k674 u0), (k675 u0), (k676 u0), (k677 u0), (30, some (.arr 4 1 u0.badSource.length (elOf boolC (k694 x u0 is)))), (k679 u0), (k680 u0)]⟩ [_, _, ArrEq u0.badSource.length 1 (stEls (elOf boolC u0.badSource) x.index.toNat 0 [(.bool is)]) (elOf boolC (k694 x u0 is))] { an := [(5, .arr 0 (elOf boolC (k694 x u0 is)))] } [] ⟨a1, (tL a1), (arrEq_set' _ _ _ _ _ _ _ _ rfl (fun j hj => (match j, hj with | 0, _ => rfl))), trivial⟩ (Imp.le (st' := ⟨k692, [(k529 p), (k530 p), (k531 p), (23, some (.cells 29 [(.own 26 false u0.closed.length), (.own 27 false u0.locked.length), (.own 28 false u0.badLink.length), (.own 29 false u0.on_.length), (.own 30 false ((k694 x u0 is).length)), (.own 31 false u0.earthed.length), (.own 32 false u0.badBus.length)])), k667, (k674 u0), (k675 u0), (k676 u0), (k677 u0), (30, some (arD 4 1 boolC (k694 x u0 is))), (k679 u0), (k680 u0)]⟩) ⟨⟨tR, tR, trivial⟩, ⟨rfl, .refl _, ⟨rfl, .refl _, ⟨rfl, .refl _, ⟨rfl, OLe_cells ⟨CLe.refl _, CLe.refl _, CLe.refl _, CLe.refl _, cW, CLe.refl _, CLe.refl _, trivial⟩, ⟨rfl, .refl _, ⟨rfl, .refl _, ⟨rfl, .refl _, ⟨rfl, .refl _, ⟨rfl, .refl _, ⟨rfl, oW, ⟨rfl, .refl _, ⟨rfl, .refl _, trivial⟩⟩⟩⟩⟩⟩⟩⟩⟩⟩⟩⟩⟩) ?_
     refine si tT ⟨[(8, (vP 25 0)), (9, (vI 0))], [(k529 p), (k530 p), (k531 p), (25, some (.cells 29 (k695 x u0 is)))]⟩ [u0.closed.length = u0.closed.length, u0.locked.length = u0.locked.length, u0.badLink.length = u0.badLink.length, u0.on_.length = u0.on_.length, (k694 x u0 is).length = (k694 x u0 is).length, u0.earthed.length = u0.earthed.length, u0.badBus.length = u0.badBus.length] {} [26, 27, 28, 29, 30, 31, 32] ⟨rfl, rfl, rfl, rfl, rfl, rfl, rfl, trivial⟩ (fz ⟨[(8, (vD (ipT [(k75 u0), (k76 u0), (k77 u0), (k78 u0), (slD none 1 boolC (k694 x u0 is)), (k80 u0), (k81 u0)] 0))), (9, (vI 0))], (k543 p)⟩ [25]) ?_
     refine aR ?_
     obtain rfl := oi h
     exact rh [(.agg (k695 x u0 is)), (sI 0)] (.refl _) ⟨rfl, .refl _, ⟨rfl, .refl _, ⟨rfl, .refl _, trivial⟩⟩⟩
   ·skip
    refine bI h (fun hb4 h => ?_) (fun hb4 h => ?_)
    ·skip
     refine rg tT ⟨[(3, (vB is)), (5, (vP 23 0)), (6, (vP 24 0)), (8, (vP 25 0)), (11, (vO 28 false u0.badLink.length))], (k671 x p u0)⟩ [SetAt [some .i64] 1 1 0 (scK []) (scV 1 []) [(.int .i64 1)] (k681 u0) [32] 1 (scK [(.int .i64 1)]) (k682 u0), SetAt [some .i64] 1 1 1 (scK [(.int .i64 1)]) (k682 u0) [(.int .i64 2)] (k683 u0) [32, 30] 2 (scK k684) (k685 u0), SetAt [some .i64] 1 1 2 (scK k684) (k685 u0) [(.int .i64 3)] (k686 u0) [32, 30, 28] 3 (scK k687) (k688 u0), LookAt [some .i64] 1 1 3 (scK k687) (k688 u0) [(.int .i64 x.kind)] [(.d nS)] true (k686 u0)] { an := [(0, .map 0 (scK []) (scV 1 []) []), (3, .map 1 (scK [(.int .i64 1)]) (k682 u0) [32]), (6, .map 2 (scK k684) (k685 u0) [32, 30]), (9, .map 3 (scK k687) (k688 u0) [32, 30, 28]), (13, .look true (k686 u0))], fr := [(0, 39)] } [] ⟨(⟨(fun i hi => absurd hi (Nat.not_lt_zero i)), (by intro i hi j hj; match i, j, hi, hj with | 0, 0, _, _ => exact subL_iff.1 (show subL (CV.ment (.own 32 false u0.badBus.length)) [32] = true from by kernel_rfl)), 0, (fun i hi => absurd hi (Nat.not_lt_zero i)), .inr ⟨rfl, rfl⟩, rfl, rfl, (fun i hi => absurd hi (Nat.not_lt_zero i))⟩), (⟨(by intro i hi; match i, hi with | 0, _ => rfl), (by intro i hi j hj; match i, j, hi, hj with | 0, 0, _, _ => exact subL_iff.1 (show subL (CV.ment (.own 32 false u0.badBus.length)) [32, 30] = true from by kernel_rfl) | 1, 0, _, _ => exact subL_iff.1 (show subL (CV.ment (.own 30 false u0.badSource.length)) [32, 30] = true from by kernel_rfl)), 1, (by intro i hi; match i, hi with | 0, _ => rfl), .inr ⟨rfl, rfl⟩, rfl, rfl, (by intro i hi; match i, hi with | 0, _ => exact fun _ => ⟨rfl, rfl⟩)⟩), (⟨(by intro i hi; match i, hi with | 0, _ => rfl | 1, _ => rfl), (by intro i hi j hj; match i, j, hi, hj with | 0, 0, _, _ => exact subL_iff.1 (show subL (CV.ment (.own 32 false u0.badBus.length)) [32, 30, 28] = true from by kernel_rfl) | 1, 0, _, _ => exact subL_iff.1 (show subL (CV.ment (.own 30 false u0.badSource.length)) [32, 30, 28] = true from by kernel_rfl) | 2, 0, _, _ => exact subL_iff.1 (show subL (CV.ment (.own 28 false u0.badLink.length)) [32, 30, 28] = true from by kernel_rfl)), 2, (by intro i hi; match i, hi with | 0, _ => rfl | 1, _ => rfl), .inr ⟨rfl, rfl⟩, rfl, rfl, (by intro i hi; match i, hi with | 0, _ => exact fun _ => ⟨rfl, rfl⟩ | 1, _ => exact fun _ => ⟨rfl, rfl⟩)⟩), (⟨(by intro i hi; match i, hi with | 0, _ => rfl | 1, _ => rfl | 2, _ => rfl), .inl ⟨rfl, 2, by decide, congrArg some hb4, (by intro i hi; match i, hi with | 0, _ => exact congrArg some hb | 1, _ => exact congrArg some hb2), rfl⟩⟩), trivial⟩ ?_
     refine aQ (aQ (bE h fun u3 hr_4 h => ?_))
     have q0 := m_plant_within_ok x.index 0 (IntKind.wrap .i64 ((u0.badLink.length : Int) - 1)) hr_4
     refine rg tT ⟨[(3, (vB is)), (5, (vP 23 0)), (6, (vP 24 0)), (8, (vP 25 0)), (11, (vO 28 false u0.badLink.length)), (38, (vB (!u3)))], (k671 x p u0)⟩ [_] { an := [(5, cA q0 [])] } [] ⟨q0, trivial⟩ ?_
     refine bI h (fun hb5 h => ?_) (fun hb5 h => ?_)
     ·refine ct hb5 ?_
      refine sz tT (k689 p) {} [25] ?_
      refine aI (Imp.le (st' := (k690 p)) ⟨⟨⟨_, rfl, TLe.v (SLe.one (CLe.d (ipT_le ⟨DLe.nil', DLe.nil', DLe.nil', DLe.nil', DLe.nil', DLe.nil', DLe.nil', trivial⟩)))⟩, tR, trivial⟩, ⟨rfl, .refl _, ⟨rfl, .refl _, ⟨rfl, .refl _, trivial⟩⟩⟩⟩) ?_
      refine aR ?_
      obtain rfl := oi h
      exact rh k691 (.refl _) ⟨rfl, .refl _, ⟨rfl, .refl _, ⟨rfl, .refl _, trivial⟩⟩⟩
     ·refine cf hb5 ?_
      refine aP (aQ (aO h fun a1 h => ?_))
      refine ri tT ⟨k692, [(k529 p), (k530 p), (k531 p), (k672 u0), k667, (k674 u0), (k675 u0), (28, some (.arr 4 1 u0.badLink.length (elOf boolC (k696 x u0 is)))), (k677 u0), (k678 u0), (k679 u0), (k680 u0)]⟩ [_, _, ArrEq u0.badLink.length 1 (stEls (elOf boolC u0.badLink) x.index.toNat 0 [(.bool is)]) (elOf boolC (k696 x u0 is))] { an := [(5, .arr 0 (elOf boolC (k696 x u0 is)))] } [] ⟨a1, (tL a1), (arrEq_set' _ _ _ _ _ _ _ _ rfl (fun j hj => (match j, hj with | 0, _ => rfl))), trivial⟩ (Imp.le (st' := ⟨k692, [(k529 p), (k530 p), (k531 p), (23, some (.cells 29 [(.own 26 false u0.closed.length), (.own 27 false u0.locked.length), (.own 28 false ((k696 x u0 is).length)), (.own 29 false u0.on_.length), (.own 30 false u0.badSource.length), (.own 31 false u0.earthed.length), (.own 32 false u0.badBus.length)])), k667, (k674 u0), (k675 u0), (28, some (arD 4 1 boolC (k696 x u0 is))), (k677 u0), (k678 u0), (k679 u0), (k680 u0)]⟩) ⟨⟨tR, tR, trivial⟩, ⟨rfl, .refl _, ⟨rfl, .refl _, ⟨rfl, .refl _, ⟨rfl, OLe_cells ⟨CLe.refl _, CLe.refl _, cW, CLe.refl _, CLe.refl _, CLe.refl _, CLe.refl _, trivial⟩, ⟨rfl, .refl _, ⟨rfl, .refl _, ⟨rfl, .refl _, ⟨rfl, oW, ⟨rfl, .refl _, ⟨rfl, .refl _, ⟨rfl, .refl _, ⟨rfl, .refl _, trivial⟩⟩⟩⟩⟩⟩⟩⟩⟩⟩⟩⟩⟩) ?_
      refine si tT ⟨[(8, (vP 25 0)), (9, (vI 0))], [(k529 p), (k530 p), (k531 p), (25, some (.cells 29 (k697 x u0 is)))]⟩ [u0.closed.length = u0.closed.length, u0.locked.length = u0.locked.length, (k696 x u0 is).length = (k696 x u0 is).length, u0.on_.length = u0.on_.length, u0.badSource.length = u0.badSource.length, u0.earthed.length = u0.earthed.length, u0.badBus.length = u0.badBus.length] {} [26, 27, 28, 29, 30, 31, 32] ⟨rfl, rfl, rfl, rfl, rfl, rfl, rfl, trivial⟩ (fz ⟨[(8, (vD (ipT [(k75 u0), (k76 u0), (slD none 1 boolC (k696 x u0 is)), (k78 u0), (k79 u0), (k80 u0), (k81 u0)] 0))), (9, (vI 0))], (k543 p)⟩ [25]) ?_
      refine aR ?_
      obtain rfl := oi h
      exact rh [(.agg (k697 x u0 is)), (sI 0)] (.refl _) ⟨rfl, .refl _, ⟨rfl, .refl _, ⟨rfl, .refl _, trivial⟩⟩⟩
    ·skip
     refine rg tT ⟨[(3, (vB is)), (5, (vP 23 0)), (6, (vP 24 0)), (8, (vP 25 0)), (11, (vD nS))], (k671 x p u0)⟩ [SetAt [some .i64] 1 1 0 (scK []) (scV 1 []) [(.int .i64 1)] (k681 u0) [32] 1 (scK [(.int .i64 1)]) (k682 u0), SetAt [some .i64] 1 1 1 (scK [(.int .i64 1)]) (k682 u0) [(.int .i64 2)] (k683 u0) [32, 30] 2 (scK k684) (k685 u0), SetAt [some .i64] 1 1 2 (scK k684) (k685 u0) [(.int .i64 3)] (k686 u0) [32, 30, 28] 3 (scK k687) (k688 u0), LookAt [some .i64] 1 1 3 (scK k687) (k688 u0) [(.int .i64 x.kind)] [(.d nS)] false [(.d nS)]] { an := [(0, .map 0 (scK []) (scV 1 []) []), (3, .map 1 (scK [(.int .i64 1)]) (k682 u0) [32]), (6, .map 2 (scK k684) (k685 u0) [32, 30]), (9, .map 3 (scK k687) (k688 u0) [32, 30, 28]), (13, .look false [(.d nS)])], fr := [(0, 40)] } [] ⟨(⟨(fun i hi => absurd hi (Nat.not_lt_zero i)), (by intro i hi j hj; match i, j, hi, hj with | 0, 0, _, _ => exact subL_iff.1 (show subL (CV.ment (.own 32 false u0.badBus.length)) [32] = true from by kernel_rfl)), 0, (fun i hi => absurd hi (Nat.not_lt_zero i)), .inr ⟨rfl, rfl⟩, rfl, rfl, (fun i hi => absurd hi (Nat.not_lt_zero i))⟩), (⟨(by intro i hi; match i, hi with | 0, _ => rfl), (by intro i hi j hj; match i, j, hi, hj with | 0, 0, _, _ => exact subL_iff.1 (show subL (CV.ment (.own 32 false u0.badBus.length)) [32, 30] = true from by kernel_rfl) | 1, 0, _, _ => exact subL_iff.1 (show subL (CV.ment (.own 30 false u0.badSource.length)) [32, 30] = true from by kernel_rfl)), 1, (by intro i hi; match i, hi with | 0, _ => rfl), .inr ⟨rfl, rfl⟩, rfl, rfl, (by intro i hi; match i, hi with | 0, _ => exact fun _ => ⟨rfl, rfl⟩)⟩), (⟨(by intro i hi; match i, hi with | 0, _ => rfl | 1, _ => rfl), (by intro i hi j hj; match i, j, hi, hj with | 0, 0, _, _ => exact subL_iff.1 (show subL (CV.ment (.own 32 false u0.badBus.length)) [32, 30, 28] = true from by kernel_rfl) | 1, 0, _, _ => exact subL_iff.1 (show subL (CV.ment (.own 30 false u0.badSource.length)) [32, 30, 28] = true from by kernel_rfl) | 2, 0, _, _ => exact subL_iff.1 (show subL (CV.ment (.own 28 false u0.badLink.length)) [32, 30, 28] = true from by kernel_rfl)), 2, (by intro i hi; match i, hi with | 0, _ => rfl | 1, _ => rfl), .inr ⟨rfl, rfl⟩, rfl, rfl, (by intro i hi; match i, hi with | 0, _ => exact fun _ => ⟨rfl, rfl⟩ | 1, _ => exact fun _ => ⟨rfl, rfl⟩)⟩), (⟨(by intro i hi; match i, hi with | 0, _ => rfl | 1, _ => rfl | 2, _ => rfl), .inr ⟨rfl, (by intro i hi; match i, hi with | 0, _ => exact congrArg some hb | 1, _ => exact congrArg some hb2 | 2, _ => exact congrArg some hb4), rfl⟩⟩), trivial⟩ ?_
     refine aQ (aQ (bE h fun u4 hr_5 h => ?_))
     have q0 := m_plant_within_ok x.index 0 (-1) hr_5
     refine rg tT ⟨[(3, (vB is)), (5, (vP 23 0)), (6, (vP 24 0)), (8, (vP 25 0)), (11, (vD nS)), (38, (vB (!u4)))], (k671 x p u0)⟩ [_] { an := [(5, cA q0 [])] } [] ⟨q0, trivial⟩ ?_
     refine bI h (fun hb6 h => ?_) (fun hb6 h => ?_)
     ·refine ct hb6 ?_
      refine sz tT (k689 p) {} [25] ?_
      refine aI (Imp.le (st' := (k690 p)) ⟨⟨⟨_, rfl, TLe.v (SLe.one (CLe.d (ipT_le ⟨DLe.nil', DLe.nil', DLe.nil', DLe.nil', DLe.nil', DLe.nil', DLe.nil', trivial⟩)))⟩, tR, trivial⟩, ⟨rfl, .refl _, ⟨rfl, .refl _, ⟨rfl, .refl _, trivial⟩⟩⟩⟩) ?_
      refine aR ?_
      obtain rfl := oi h
      exact rh k691 (.refl _) ⟨rfl, .refl _, ⟨rfl, .refl _, ⟨rfl, .refl _, trivial⟩⟩⟩
     ·refine cf hb6 ?_
      refine aP (aQ ?_)
      cases h
def m_plant_Break_v1_R (p : Plant) : (State × Int) → Exit → St → Prop :=
  fun r => RetQ TT [.cell 6 29, .tmp 7] (.tup [(.agg [(.d (slD none 1 boolC r.1.closed)), (.d (slD none 1 boolC r.1.locked)), (.d (slD none 1 boolC r.1.badLink)), (.d (slD none 1 boolC r.1.on_)), (.d (slD none 1 boolC r.1.badSource)), (.d (slD none 1 boolC r.1.earthed)), (.d (slD none 1 boolC r.1.badBus))]), (sI r.2)]) (k543 p)
section
variable (r_ : (State × Int))
abbrev k698 : TV := (vD (ipT [(slD none 1 boolC r_.1.closed), (slD none 1 boolC r_.1.locked), (slD none 1 boolC r_.1.badLink), (slD none 1 boolC r_.1.on_), (slD none 1 boolC r_.1.badSource), (slD none 1 boolC r_.1.earthed), (slD none 1 boolC r_.1.badBus)] 0))
end
theorem m_plant_Break_v1_ok (p : Plant) (s_ : State) (x : Part) {r : (State × Int)} (h : m_plant_Break p s_ x = some r) : Fn Try.prog 56 [(.agg (k537 p)), (.agg (k98 s_)), (.agg [(cI x.kind), (cI x.index)])] (k543 p) (.tup [(.agg [(.d (slD none 1 boolC r.1.closed)), (.d (slD none 1 boolC r.1.locked)), (.d (slD none 1 boolC r.1.badLink)), (.d (slD none 1 boolC r.1.on_)), (.d (slD none 1 boolC r.1.badSource)), (.d (slD none 1 boolC r.1.earthed)), (.d (slD none 1 boolC r.1.badBus))]), (sI r.2)]) (k543 p) := by
 refine fN tT Try.func56 rfl rfl fun B => ?_
 show AWp _ _ _ _ _ _ ((m_plant_Break_v1_R p) r) _
 unfold m_plant_Break at h
 refine sz tT ⟨[(3, (vP 7 0)), (k121 s_), (5, (vD (ipT [(.int .i64 x.kind), (.int .i64 x.index)] 0))), (6, (vP 10 0))], [(k529 p), (k530 p), (k531 p), (7, some (k536 p)), k113]⟩ { fr := [(0, 7), (1, 8), (2, 9), (3, 10)] } [8, 9] ?_
 refine aQ (bE h fun r_ hr_ h => ?_)
 have q0 := m_plant_failed_v1_ok p s_ x true hr_
 refine rg tT ⟨[(6, (k698 r_)), (7, (vI r_.2))], (k543 p)⟩ [_] { an := [(3, cR q0 [0, 1, 2])] } [10] ⟨q0, trivial⟩ ?_
 refine aR ?_
 obtain rfl := oi h
 exact rh [(.agg [(.d (slD none 1 boolC r_.1.closed)), (.d (slD none 1 boolC r_.1.locked)), (.d (slD none 1 boolC r_.1.badLink)), (.d (slD none 1 boolC r_.1.on_)), (.d (slD none 1 boolC r_.1.badSource)), (.d (slD none 1 boolC r_.1.earthed)), (.d (slD none 1 boolC r_.1.badBus))]), (sI r_.2)] (.refl _) ⟨rfl, .refl _, ⟨rfl, .refl _, ⟨rfl, .refl _, trivial⟩⟩⟩
def m_plant_conducting_v1_R (p : Plant) : ((List Bool) × (List Bool) × (List Bool) × (List Bool) × (List Bool) × (List Bool) × (List Bool) × Plant) → Exit → St → Prop :=
  fun r => RetQ TT [.tmp 4] (.v (.one (.fn 146 0 2 (capC [(.ptr 3 0), (.d (ipT [(slD none 1 boolC r.1), (slD none 1 boolC r.2.1), (slD none 1 boolC r.2.2.1), (slD none 1 boolC r.2.2.2.1), (slD none 1 boolC r.2.2.2.2.1), (slD none 1 boolC r.2.2.2.2.2.1), (slD none 1 boolC r.2.2.2.2.2.2.1)] 0))])))) [(k529 p), (k530 p), (k531 p), (3, some (.cells 26 [(cI r.2.2.2.2.2.2.2.buses), (.own 0 true p.sources.length), (.own 1 true p.links.length), (.own 2 true p.racks.length)]))]
section
variable (p : Plant) (s_ : State)
abbrev k699 : List (Nat × Option Ob) := [(k529 p), (k530 p), (k531 p), (5, some (k536 p))]
abbrev k700 := (capC [(.ptr 3 0), (.d (k74 s_))])
end
theorem m_plant_conducting_v1_ok (p : Plant) (s_ : State) {r : ((List Bool) × (List Bool) × (List Bool) × (List Bool) × (List Bool) × (List Bool) × (List Bool) × Plant)} (h : m_plant_conducting_v1 p s_ = some r) : Fn Try.prog 115 (k561 p s_) (k543 p) (.v (.one (.fn 146 0 2 (capC [(.ptr 3 0), (.d (ipT [(slD none 1 boolC r.1), (slD none 1 boolC r.2.1), (slD none 1 boolC r.2.2.1), (slD none 1 boolC r.2.2.2.1), (slD none 1 boolC r.2.2.2.2.1), (slD none 1 boolC r.2.2.2.2.2.1), (slD none 1 boolC r.2.2.2.2.2.2.1)] 0))])))) [(k529 p), (k530 p), (k531 p), (3, some (.cells 26 [(cI r.2.2.2.2.2.2.2.buses), (.own 0 true p.sources.length), (.own 1 true p.links.length), (.own 2 true p.racks.length)]))] := by
 refine fN tT Try.func115 rfl rfl fun B => ?_
 show AWp _ _ _ _ _ _ ((m_plant_conducting_v1_R p) r) _
 unfold m_plant_conducting_v1 at h
 refine sz tT ⟨[(2, (vP 5 0)), (k72 s_)], (k699 p)⟩ { fr := [(0, 5), (1, 6)] } [6] ?_
 refine sz tT ⟨[(4, (.v (.one (.fn 146 0 2 (capC [(.ptr 5 0), (.d (k74 s_))])))))], (k699 p)⟩ {} [] ?_
 refine aI (Imp.fin (st' := ⟨[(4, (.v (.one (.fn 146 0 2 (k700 s_)))))], [(k529 p), (k530 p), (k531 p), (3, some (k536 p))]⟩) (cs := []) ⟨[], [(0, 0), (1, 1), (2, 2), (5, 3)]⟩ [4] (by kernel_rfl) trivial) ?_
 refine aR ?_
 obtain rfl := oi h
 exact rh [(.one (.fn 146 0 2 (k700 s_)))] (.refl _) ⟨rfl, .refl _, ⟨rfl, .refl _, ⟨rfl, .refl _, ⟨rfl, .refl _, trivial⟩⟩⟩⟩
section
variable (u0 : Plant)
abbrev k701 : Nat × Option Ob := (0, some (.loop R_plant_islands_r0 0 [(5, (vP 2 0))]))
abbrev k702 : Nat × Option Ob := (1, some (.cells 26 [(cI u0.buses), (.own 3 true u0.sources.length), (.own 4 true u0.links.length), (.own 5 true u0.racks.length)]))
abbrev k703 : Nat × Option Ob := (2, some (.cells 215 [(.mp 6)]))
abbrev k704 : Nat × Option Ob := (3, some (arD 126 5 Source.cell u0.sources))
abbrev k705 : Nat × Option Ob := (4, some (arD 53 6 Link.cell u0.links))
abbrev k706 : Nat × Option Ob := (5, some (arD 166 4 Rack.cell u0.racks))
end
def m_plant_conducting_1_v1_R (u0 : Plant) : Groups_int_ → Exit → St → Prop :=
  fun r => RetQ TT [] (.tup []) [k701, (k702 u0), k703, (k704 u0), (k705 u0), (k706 u0), (6, some (mpD 3 3 false false 1 1 (intC .i64) (intC .i64) r.head))]
section
variable (u0 : Plant) (u7 : (List (Int × Int)))
abbrev k707 : Nat × TV := (7, (vO 4 true u0.links.length))
abbrev k708 : Nat × TV := (8, (vI (u0.links.length : Int)))
abbrev k709 : List (Nat × Option Ob) := [k701, (k702 u0), k703, (k704 u0), (k705 u0), (k706 u0), (6, some (k297 u7))]
end
def m_plant_conducting_1_v1_S0 (x2 : (List Bool)) (u1 : (List Bool)) (u2 : (List Bool)) (u3 : (List Bool)) (u4 : (List Bool)) (u5 : (List Bool)) (u6 : (List Bool)) (u0 : Plant) : ((List (Int × Int)) × Int) → St :=
  fun zz => match zz with | (u7, t9) => ⟨[k330, (k116 x2 u1 u2 u3 u4 u5 u6), (k707 u0), (k708 u0), (9, (vI t9))], (k709 u0 u7)⟩
def m_plant_conducting_1_v1_B0 (u0 : Plant) : (List (Int × Int)) → St :=
  fun o501 => ⟨[], [k701, (k702 u0), k703, (k704 u0), (k705 u0), (k706 u0), (6, some (mpD 3 3 false false 1 1 (intC .i64) (intC .i64) o501))]⟩
def m_plant_conducting_1_v1_Q0 (x2 : (List Bool)) (u1 : (List Bool)) (u2 : (List Bool)) (u3 : (List Bool)) (u4 : (List Bool)) (u5 : (List Bool)) (u6 : (List Bool)) (u0 : Plant) : (Flow ((List (Int × Int)) × Int) (Ex (List (Int × Int)) Groups_int_)) → Exit → St → Prop :=
  LQ 0 [] (m_plant_conducting_1_v1_S0 x2 u1 u2 u3 u4 u5 u6 u0) (m_plant_conducting_1_v1_B0 u0) (m_plant_conducting_1_v1_R u0)
section
variable (u0 : Plant) (o_ : Groups_int_) (x2 : (List Bool)) (t9 : Int) (u1 : (List Bool)) (u2 : (List Bool)) (r_ : Groups_int_) (u3 : (List Bool)) (u4 : (List Bool)) (u5 : (List Bool)) (u6 : (List Bool))
abbrev k710 : List (Nat × Option Ob) := [k701, (k702 u0), k703, (k704 u0), (k705 u0), (k706 u0), (6, some (k507 o_))]
abbrev k713 := (bif (at' x2 t9.toNat) then (!(at' u1 t9.toNat)) else false)
abbrev k712 := (bif (k713 x2 t9 u1) then (!(at' u2 (((at' u0.links t9.toNat).a).toNat))) else false)
abbrev k711 := (bif (k712 u0 x2 t9 u1 u2) then (!(at' u2 (((at' u0.links t9.toNat).b).toNat))) else false)
abbrev k714 := (ybf [(5, (at' x2 t9.toNat)), (13, (k713 x2 t9 u1)), (22, (k712 u0 x2 t9 u1 u2)), (31, true)])
abbrev k715 : List (Nat × Option Ob) := [k701, k703, (6, some (k507 r_))]
abbrev k716 : List (Nat × TV) := [k330, (k116 x2 u3 u1 u4 u5 u6 u2), (k707 u0), (k708 u0), (9, (k30 t9))]
abbrev k717 := (ybf [(5, (at' x2 t9.toNat)), (13, (k713 x2 t9 u1)), (22, (k712 u0 x2 t9 u1 u2)), (31, false)])
end
theorem m_plant_conducting_1_v1_ok (x2 : (List Bool)) (u3 : (List Bool)) (u1 : (List Bool)) (u4 : (List Bool)) (u5 : (List Bool)) (u6 : (List Bool)) (u2 : (List Bool)) (u0 : Plant) (o_ : Groups_int_) {r : Groups_int_} (h : m_plant_conducting_1_v1 x2 u3 u1 u4 u5 u6 u2 u0 o_ = some r) : Fn Try.prog 146 [(.one (.yl 0)), (.one (.ptr 1 0)), (sD (k117 x2 u3 u1 u4 u5 u6 u2))] (k710 u0 o_) (.tup []) [k701, (k702 u0), k703, (k704 u0), (k705 u0), (k706 u0), (6, some (mpD 3 3 false false 1 1 (intC .i64) (intC .i64) r.head))] := by
 refine fN tT Try.func146 rfl rfl fun B => ?_
 show AWp _ _ _ _ _ _ ((m_plant_conducting_1_v1_R u0) r) _
 unfold m_plant_conducting_1_v1 at h
 refine sz tT ⟨[k330, (k116 x2 u3 u1 u4 u5 u6 u2), (k707 u0), (k708 u0), (9, (vI 0))], (k710 u0 o_)⟩ {} [] ?_
 refine bE h fun y hy h => ?_
 refine aL [] (m_plant_conducting_1_v1_S0 x2 u3 u1 u4 u5 u6 u2 u0) (m_plant_conducting_1_v1_B0 u0) (m_plant_conducting_1_v1_R u0) hy (fun s f h => ?_) ?_
 ·clear hy
  show AWp _ _ _ _ _ _ ((m_plant_conducting_1_v1_Q0 x2 u3 u1 u4 u5 u6 u2 u0) f) _
  unfold m_plant_conducting_1_v1_L0 at h
  obtain ⟨u7, t9⟩ := s
  refine sz tT ⟨[k330, (k116 x2 u3 u1 u4 u5 u6 u2), (k707 u0), (k708 u0), (9, (vI t9)), (10, (k105 u0 t9))], (k709 u0 u7)⟩ {} [] ?_
  refine aQ ?_
  refine bI h (fun hb2 h => ?_) (fun hb2 h => ?_)
  ·refine ct hb2 ?_
   refine aP (aQ (aB (aQ (aO h fun a1 h => ?_))))
   refine rg tT ⟨[k330, (k116 x2 u3 u1 u4 u5 u6 u2), (4, (vI t9)), (5, (k107 u0 t9)), (k707 u0), (k708 u0), (9, (vI t9))], (k709 u0 u7)⟩ [_, _] { fr := [(3, 14)] } [14] ⟨a1, (tL a1), trivial⟩ ?_
   refine aQ ?_
   refine bI h (fun hb h => ?_) (fun hb h => ?_)
   ·skip
    refine bE h fun r_ hr_ h => ?_
    refine aO h fun ⟨a1, a2, a3, a4⟩ h => ?_
    refine ri tT ⟨[k330, (k116 x2 u3 u1 u4 u5 u6 u2), (k707 u0), (k708 u0), (9, (vI t9)), (50, (vB (bif (k711 u0 x2 t9 u1 u2) then (!true) else false)))], (k710 u0 r_)⟩ (_ :: (eqs (at' x2 t9.toNat) 4 ((gP (k714 u0 x2 t9 u1 u2) [(5, true)] → All [(0 : Int) ≤ t9 ∧ t9 < (u1.length : Int)]) :: (eqs (at' x2 t9.toNat) 3 (eqs (k713 x2 t9 u1) 5 ((gP (k714 u0 x2 t9 u1 u2) [(13, true)] → All [(0 : Int) ≤ (at' u0.links t9.toNat).a ∧ (at' u0.links t9.toNat).a < (u2.length : Int)]) :: (eqs (k713 x2 t9 u1) 3 (eqs (k712 u0 x2 t9 u1 u2) 5 ((gP (k714 u0 x2 t9 u1 u2) [(22, true)] → All [(0 : Int) ≤ (at' u0.links t9.toNat).b ∧ (at' u0.links t9.toNat).b < (u2.length : Int)]) :: (eqs (k712 u0 x2 t9 u1 u2) 3 [(k711 u0 x2 t9 u1 u2) = true, (k711 u0 x2 t9 u1 u2) = true, (k711 u0 x2 t9 u1 u2) = true, gP (k714 u0 x2 t9 u1 u2) [(31, true)] → All [Yl Try.prog 0 [(.agg [(cI ((at' u0.links t9.toNat).a)), (cI ((at' u0.links t9.toNat).b)), (cI ((at' u0.links t9.toNat).kind)), (cI ((at' u0.links t9.toNat).most)), (cI ((at' u0.links t9.toNat).ohm)), (.d (slD none 2 Trip.cell ((at' u0.links t9.toNat).trip)))])] [k701, k703, (6, some (k297 u7))] (vB true) (k715 r_)], gP (k714 u0 x2 t9 u1 u2) [(31, true)], (k711 u0 x2 t9 u1 u2) = true, (k711 u0 x2 t9 u1 u2) = true])))))))))) { yb := [(5, (at' x2 t9.toNat)), (13, (k713 x2 t9 u1)), (22, (k712 u0 x2 t9 u1 u2)), (31, true)], an := [(34, .call [0, 2, 6] (vB true) (k715 r_))] } [] ⟨a1, (ae ⟨(fun hg => ⟨(a2 (gB_of hg)), trivial⟩), (ae (ae ⟨(fun hg => ⟨(a3 (gB_of hg)), trivial⟩), (ae (ae ⟨(fun hg => ⟨(a4 (gB_of hg)), trivial⟩), (ae ⟨(hb), (hb), (hb), (fun hg => ⟨(Yl.renK [(1, 2), (1, 6)] (m_plant_islands_r0_Y_ok ((at' u0.links t9.toNat).a) ((at' u0.links t9.toNat).b) ((at' u0.links t9.toNat).kind) ((at' u0.links t9.toNat).most) ((at' u0.links t9.toNat).ohm) ((at' u0.links t9.toNat).trip) (⟨u7⟩ : Groups_int_) hr_) (by kernel_rfl) (by kernel_rfl) (by kernel_rfl) (by kernel_rfl) (by kernel_rfl)), trivial⟩), (⟨rfl, trivial⟩), (hb), (hb), trivial⟩)⟩))⟩))⟩)⟩ (Imp.le (st' := ⟨[k330, (k116 x2 u3 u1 u4 u5 u6 u2), (k707 u0), (k708 u0), (9, (vI t9)), (50, (vB (!true)))], (k710 u0 r_)⟩) ⟨⟨tR, tR, tR, tR, tR, ⟨_, rfl, TLe.v (SLe.one (CLe.of (congrArg (fun b => CV.d (.bool b)) (bifT hb))))⟩, trivial⟩, ⟨rfl, .refl _, ⟨rfl, .refl _, ⟨rfl, .refl _, ⟨rfl, .refl _, ⟨rfl, .refl _, ⟨rfl, .refl _, ⟨rfl, .refl _, trivial⟩⟩⟩⟩⟩⟩⟩⟩) ?_
    refine bI h (fun hb1 h => ?_) (fun hb1 h => ?_)
    ·refine ct hb1 ?_
     refine aI (fz ⟨[], (k710 u0 r_)⟩ []) ?_
     refine aR ?_
     obtain rfl := oi h
     exact lR ret_nn (ret_ne 0) av_ret (RetQ.mk (.inr rfl) (p := []) (l := []) (by kernel_rfl) trivial (TLe.refl _) ⟨rfl, .refl _, ⟨rfl, .refl _, ⟨rfl, .refl _, ⟨rfl, .refl _, ⟨rfl, .refl _, ⟨rfl, .refl _, ⟨rfl, .refl _, trivial⟩⟩⟩⟩⟩⟩⟩)
    ·refine cf hb1 ?_
     refine aP (rz tT ⟨(k716 u0 x2 t9 u1 u2 u3 u4 u5 u6), (k710 u0 r_)⟩ {} [] ?_)
     obtain rfl := oi h
     exact lN (by kernel_rfl)
   ·skip
    refine aO h fun ⟨a1, a2, a3, a4⟩ h => ?_
    refine ri tT ⟨[k330, (k116 x2 u3 u1 u4 u5 u6 u2), (k707 u0), (k708 u0), (9, (vI t9)), (50, (vB (bif (k711 u0 x2 t9 u1 u2) then false else false)))], (k709 u0 u7)⟩ (_ :: (eqs (at' x2 t9.toNat) 4 ((gP (k717 u0 x2 t9 u1 u2) [(5, true)] → All [(0 : Int) ≤ t9 ∧ t9 < (u1.length : Int)]) :: (eqs (at' x2 t9.toNat) 3 (eqs (k713 x2 t9 u1) 5 ((gP (k717 u0 x2 t9 u1 u2) [(13, true)] → All [(0 : Int) ≤ (at' u0.links t9.toNat).a ∧ (at' u0.links t9.toNat).a < (u2.length : Int)]) :: (eqs (k713 x2 t9 u1) 3 (eqs (k712 u0 x2 t9 u1 u2) 5 ((gP (k717 u0 x2 t9 u1 u2) [(22, true)] → All [(0 : Int) ≤ (at' u0.links t9.toNat).b ∧ (at' u0.links t9.toNat).b < (u2.length : Int)]) :: (eqs (k712 u0 x2 t9 u1 u2) 3 [(k711 u0 x2 t9 u1 u2) = false, ¬ gP (k717 u0 x2 t9 u1 u2) [(31, true)], (k711 u0 x2 t9 u1 u2) = false, ¬ gP (k717 u0 x2 t9 u1 u2) [(31, true)], (k711 u0 x2 t9 u1 u2) = false, ¬ gP (k717 u0 x2 t9 u1 u2) [(31, true)], (k711 u0 x2 t9 u1 u2) = false, ¬ gP (k717 u0 x2 t9 u1 u2) [(31, true)], (k711 u0 x2 t9 u1 u2) = false])))))))))) { yb := [(5, (at' x2 t9.toNat)), (13, (k713 x2 t9 u1)), (22, (k712 u0 x2 t9 u1 u2)), (31, false)], an := [(32, .skip), (33, .skip), (34, .skip), (35, .skip)] } [] ⟨a1, (ae ⟨(fun hg => ⟨(a2 (gB_of hg)), trivial⟩), (ae (ae ⟨(fun hg => ⟨(a3 (gB_of hg)), trivial⟩), (ae (ae ⟨(fun hg => ⟨(a4 (gB_of hg)), trivial⟩), (ae ⟨(hb), ((fun h => Bool.noConfusion (show false = true from h.1))), (hb), ((fun h => Bool.noConfusion (show false = true from h.1))), (hb), ((fun h => Bool.noConfusion (show false = true from h.1))), (hb), ((fun h => Bool.noConfusion (show false = true from h.1))), (hb), trivial⟩)⟩))⟩))⟩)⟩ (Imp.le (st' := ⟨[k330, (k116 x2 u3 u1 u4 u5 u6 u2), (k707 u0), (k708 u0), (9, (vI t9)), (50, (vB false))], (k709 u0 u7)⟩) ⟨⟨tR, tR, tR, tR, tR, ⟨_, rfl, TLe.v (SLe.one (CLe.of (congrArg (fun b => CV.d (.bool b)) (bifF hb))))⟩, trivial⟩, ⟨rfl, .refl _, ⟨rfl, .refl _, ⟨rfl, .refl _, ⟨rfl, .refl _, ⟨rfl, .refl _, ⟨rfl, .refl _, ⟨rfl, .refl _, trivial⟩⟩⟩⟩⟩⟩⟩⟩) ?_
    refine cn (aP (rz tT ⟨(k716 u0 x2 t9 u1 u2 u3 u4 u5 u6), (k709 u0 u7)⟩ {} [] ?_))
    obtain rfl := oi h
    exact lN (by kernel_rfl)
  ·refine cf hb2 ?_
   refine aI (fz ⟨[], (k709 u0 u7)⟩ []) ?_
   refine aX ?_
   obtain rfl := oi h
   exact lB (by kernel_rfl)
 ·clear hy
  cases y with
  | brk z =>
   obtain ⟨o501, rfl⟩ : ∃ q, q = z := ⟨_, rfl⟩
   unfold ExK
   refine ⟨_, .refl, ?_⟩
   obtain rfl := oi h
   exact RetQ.mk (.inl rfl) (p := []) (l := []) (by kernel_rfl) trivial (TLe.refl _) ⟨rfl, .refl _, ⟨rfl, .refl _, ⟨rfl, .refl _, ⟨rfl, .refl _, ⟨rfl, .refl _, ⟨rfl, .refl _, ⟨rfl, .refl _, trivial⟩⟩⟩⟩⟩⟩⟩
  | ret v =>
   obtain rfl := oi h
   unfold ExK
   intro e st hn ha hR
   cases e with
   | normal => exact absurd rfl hn
   | exit id => exact hR
   | goto l => exact hR
   | ret => exact hR
   | panic c => exact hR
   | outgrown => exact hR
def m_plant_islands_v2_R (p : Plant) : (List Island) → Exit → St → Prop :=
  fun r => RetQ TT [.tmp 4] (vD (slD none 2 Island.cell r)) (k543 p)
section
variable (u0 : (List Island)) (s_ : State) (p : Plant) (u3 : Int) (u1 : Groups_int_) (u2 : (List (Int × Int)))
abbrev k719 : Nat × TV := (7, (vO 65 false u0.length))
abbrev k720 : Nat × TV := (8, (.v (.one (.mp 66))))
abbrev k718 : List (Nat × TV) := [(2, (vP 59 0)), (k72 s_), (5, (vP 62 0)), (k719 u0), k720, (31, (vI p.buses)), (32, (vI u3))]
abbrev k722 : Nat × Option Ob := (59, some (k536 p))
abbrev k723 : Nat × Option Ob := (61, some (k507 u1))
abbrev k724 : Nat × Option Ob := (62, some (.cells 215 [(.mp 61)]))
abbrev k725 : Nat × Option Ob := (65, some (.rows 123 2 u0.length (evOf Island.ev u0) none))
abbrev k726 : Nat × Option Ob := (66, some (k297 u2))
abbrev k721 : List (Nat × Option Ob) := [(k529 p), (k530 p), (k531 p), (k722 p), (k723 u1), k724, (k725 u0), (k726 u2)]
end
def m_plant_islands_v2_S0 (p : Plant) (s_ : State) (u1 : Groups_int_) : ((List Island) × (List (Int × Int)) × Int) → St :=
  fun zz => match zz with | (u0, u2, u3) => ⟨(k718 u0 s_ p u3), (k721 u0 p u1 u2)⟩
section
variable (s_ : State) (u0 : (List Island)) (p : Plant) (u1 : Groups_int_) (u2 : (List (Int × Int)))
abbrev k727 : St := ⟨[(2, (vP 59 0)), (k72 s_), (5, (vP 62 0)), (k719 u0), k720], (k721 u0 p u1 u2)⟩
end
def m_plant_islands_v2_B0 (p : Plant) (s_ : State) (u1 : Groups_int_) : ((List Island) × (List (Int × Int))) → St :=
  fun zz => match zz with | (u0, u2) => (k727 s_ u0 p u1 u2)
def m_plant_islands_v2_Q0 (p : Plant) (s_ : State) (u0 : Groups_int_) : (Flow ((List Island) × (List (Int × Int)) × Int) (Ex ((List Island) × (List (Int × Int))) (List Island))) → Exit → St → Prop :=
  LQ 2 [] (m_plant_islands_v2_S0 p s_ u0) (m_plant_islands_v2_B0 p s_ u0) (m_plant_islands_v2_R p)
section
variable (p : Plant) (s_ : State) (u0 : (List Island)) (u3 : Int) (u1 : Groups_int_) (u2 : (List (Int × Int)))
abbrev k729 : Nat × TV := (76, (vO 0 true p.sources.length))
abbrev k730 : Nat × TV := (77, (vI (p.sources.length : Int)))
abbrev k728 : List (Nat × TV) := [(k72 s_), (5, (vP 62 0)), (k719 u0), k720, (k729 p), (k730 p), (78, (vI u3))]
abbrev k731 : List (Nat × Option Ob) := [(k529 p), (k530 p), (k531 p), (k723 u1), k724, (k725 u0), (k726 u2)]
end
def m_plant_islands_v2_S1 (p : Plant) (s_ : State) (u1 : Groups_int_) (u2 : (List (Int × Int))) : ((List Island) × Int) → St :=
  fun zz => match zz with | (u0, u3) => ⟨(k728 p s_ u0 u3), (k731 p u0 u1 u2)⟩
section
variable (p : Plant) (u0 : (List Island))
abbrev k733 : List (Nat × Option Ob) := [(k529 p), (k530 p), (k531 p), (k725 u0)]
abbrev k732 : St := ⟨[(k719 u0)], (k733 p u0)⟩
end
def m_plant_islands_v2_B1 (p : Plant) : (List Island) → St :=
  fun u0 => (k732 p u0)
def m_plant_islands_v2_Q1 (p : Plant) (s_ : State) (u0 : Groups_int_) (u1 : (List (Int × Int))) : (Flow ((List Island) × Int) (Ex (List Island) (List Island))) → Exit → St → Prop :=
  LQ 4 [] (m_plant_islands_v2_S1 p s_ u0 u1) (m_plant_islands_v2_B1 p) (m_plant_islands_v2_R p)
section
variable (r_ : ((List Bool) × (List Bool) × (List Bool) × (List Bool) × (List Bool) × (List Bool) × (List Bool) × Plant)) (s_ : State) (p : Plant) (u8 : Groups_int_) (u3 : Int) (u0 : (List Island)) (u1 : Int) (u2 : (List (Int × Int))) (u5 : Int) (u6 : (List Island)) (u7 : Int) (u4 : (List (Int × Int)))
abbrev k734 : Nat × Option Ob := (61, some k451)
abbrev k738 : DV := (ipT [(slD none 1 boolC r_.1), (slD none 1 boolC r_.2.1), (slD none 1 boolC r_.2.2.1), (slD none 1 boolC r_.2.2.2.1), (slD none 1 boolC r_.2.2.2.2.1), (slD none 1 boolC r_.2.2.2.2.2.1), (slD none 1 boolC r_.2.2.2.2.2.2.1)] 0)
abbrev k737 : List CV := [(.ptr 63 0), (.d (k738 r_))]
abbrev k736 : TV := (.v (.one (.fn 146 0 2 (capC (k737 r_)))))
abbrev k735 : List (Nat × TV) := [(2, (vP 59 0)), (k72 s_), (5, (vP 62 0)), (21, (k736 r_))]
abbrev k739 : Nat × Option Ob := (63, some (.cells 26 [(cI r_.2.2.2.2.2.2.2.buses), (.own 0 true p.sources.length), (.own 1 true p.links.length), (.own 2 true p.racks.length)]))
abbrev k740 : Nat × Option Ob := (65, some (.rows 123 2 ([] : List Island).length (evOf Island.ev ([] : List Island)) none))
abbrev k741 : List (Nat × Option Ob) := [(k529 p), (k530 p), (k531 p), (k722 p), (k723 u8), k724, k740, (66, some k451)]
abbrev k742 : Nat × TV := (32, (k30 u3))
abbrev k743 : List (Nat × TV) := [(2, (vP 59 0)), (k72 s_), (5, (vP 62 0)), (k719 u0), k720, (9, (vI u3)), (10, (vI u1)), (31, (vI p.buses)), (32, (vI u3))]
abbrev k745 := ((mget eqI u1 u2).getD 0)
abbrev k744 : List CV := [(cI (k745 u1 u2))]
abbrev k747 := (mset eqI u1 (u0.length : Int) u2)
abbrev k746 : Nat × Option Ob := (66, some (mpD 3 3 false false 1 1 (intC .i64) (intC .i64) (k747 u0 u1 u2)))
abbrev k749 := (u0 ++ [(⟨([] : List Int), ([] : List Int)⟩ : Island)])
abbrev k748 : Nat × TV := (7, (vO 92 false ((k749 u0).length)))
abbrev k751 := (evOf Island.ev (k749 u0))
abbrev k750 : List (Nat × Option Ob) := [(k529 p), (k530 p), (k531 p), (k722 p), (k723 u8), k724, (k746 u0 u1 u2), (92, some (.rows 123 2 (k749 u0).length (k751 u0) none))]
abbrev k752 := ((mget eqI u1 (k747 u0 u1 u2)).getD 0)
abbrev k755 := ((k752 u0 u1 u2).toNat)
abbrev k758 := (at' (k749 u0) (k755 u0 u1 u2))
abbrev k757 := ((k758 u0 u1 u2).buses)
abbrev k756 := ((k757 u0 u1 u2) ++ [u3])
abbrev k754 := ((k749 u0).set (k755 u0 u1 u2) (⟨(k756 u3 u0 u1 u2), (k758 u0 u1 u2).sources⟩ : Island))
abbrev k753 := (evOf Island.ev (k754 u3 u0 u1 u2))
abbrev k759 := ((k757 u0 u1 u2).length + [u3].length)
abbrev k760 := (elOf (intC .i64) (k756 u3 u0 u1 u2))
abbrev k762 := ((k754 u3 u0 u1 u2).length)
abbrev k761 : Nat × TV := (7, (vO 92 false (k762 u3 u0 u1 u2)))
abbrev k763 : List (Nat × Option Ob) := [(k529 p), (k530 p), (k531 p), (k722 p), (k723 u8), k724, (k746 u0 u1 u2), (92, some (.rows 123 2 (k754 u3 u0 u1 u2).length (k753 u3 u0 u1 u2) none))]
abbrev k767 := ((at' u0 ((k745 u1 u2).toNat)).buses)
abbrev k766 := ((k767 u0 u1 u2) ++ [u3])
abbrev k765 := (u0.set ((k745 u1 u2).toNat) (⟨(k766 u3 u0 u1 u2), (at' u0 ((k745 u1 u2).toNat)).sources⟩ : Island))
abbrev k764 := (evOf Island.ev (k765 u3 u0 u1 u2))
abbrev k768 := (elOf (intC .i64) (k766 u3 u0 u1 u2))
abbrev k769 : Nat × TV := (7, (vO 65 false ((k765 u3 u0 u1 u2).length)))
abbrev k770 : List (Nat × Option Ob) := [(k529 p), (k530 p), (k531 p), (k722 p), (k723 u8), k724, (65, some (.rows 123 2 (k765 u3 u0 u1 u2).length (k764 u3 u0 u1 u2) none)), (k726 u2)]
abbrev k771 : Nat × TV := (15, (k216 p u5))
abbrev k775 := ((at' u6 ((k745 u7 u4).toNat)).sources)
abbrev k774 := ((k775 u6 u7 u4) ++ [u5])
abbrev k773 := (u6.set ((k745 u7 u4).toNat) (⟨(at' u6 ((k745 u7 u4).toNat)).buses, (k774 u5 u6 u7 u4)⟩ : Island))
abbrev k772 := (evOf Island.ev (k773 u5 u6 u7 u4))
abbrev k776 := (elOf (intC .i64) (k774 u5 u6 u7 u4))
abbrev k777 : Nat × TV := (7, (vO 65 false ((k773 u5 u6 u7 u4).length)))
abbrev k778 : List (Nat × Option Ob) := [(k529 p), (k530 p), (k531 p), (k723 u8), k724, (65, some (.rows 123 2 (k773 u5 u6 u7 u4).length (k772 u5 u6 u7 u4) none)), (k726 u4)]
end
theorem m_plant_islands_v2_ok (p : Plant) (s_ : State) {r : (List Island)} (h : m_plant_islands_v2 p s_ = some r) : Fn Try.prog 70 (k561 p s_) (k543 p) (vD (slD none 2 Island.cell r)) (k543 p) := by
 refine fN tT Try.func70 rfl rfl fun B => ?_
 show AWp _ _ _ _ _ _ ((m_plant_islands_v2_R p) r) _
 unfold m_plant_islands_v2 at h
 refine sz tT ⟨[(2, (vP 59 0)), (k72 s_)], [(k529 p), (k530 p), (k531 p), (k722 p)]⟩ { fr := [(0, 59), (1, 60)] } [60] ?_
 refine sz tT ⟨[(2, (vP 59 0)), (k72 s_), (5, (vP 62 0))], [(k529 p), (k530 p), (k531 p), (k722 p), k734, k724]⟩ { an := [(0, .map 0 (kOf (intC .i64) ([] : (List (Int × Int)))) (vOf (intC .i64) ([] : (List (Int × Int)))) [])], fr := [(0, 61), (2, 62)] } [] ?_
 refine aQ (aQ (bE h fun r_ hr_ h => ?_))
 have q0 := rk [(3, 63)] (m_plant_conducting_v1_ok p s_ hr_)
 refine rg tT ⟨(k735 r_ s_), [(k529 p), (k530 p), (k531 p), (k722 p), k734, k724, (k739 r_ p)]⟩ [_] { an := [(2, cA q0 [0, 1, 2])] } [] ⟨q0, trivial⟩ ?_
 refine aB (bE h fun u8 hr_1 h => ?_)
 refine awp_rangeFuncI 64 [(5, (vP 62 0))] [] [64, 63, 62, 0, 1, 2, 61] (.tup []) [(64, some (.loop R_plant_islands_r0 0 [(5, (vP 62 0))])), (k739 r_ p), k724, (k529 p), (k530 p), (k531 p), (k723 u8)] (k736 r_) 146 [] (k737 r_) [(64, some (.loop R_plant_islands_r0 0 [(5, (vP 62 0))])), (k739 r_ p), k724, (k529 p), (k530 p), (k531 p), k734] [(.one (.yl 64)), (.one (.ptr 63 0)), (sD (k738 r_))] R_plant_islands_r0 0 [(5, (vP 62 0))] (by kernel_rfl) (by kernel_rfl) (by kernel_rfl) (by kernel_rfl) (by kernel_rfl) (by kernel_rfl) (by kernel_rfl) (Fn.renK [(0, 64), (1, 63), (2, 62), (3, 0), (4, 1), (5, 2), (6, 61)] (m_plant_conducting_1_v1_ok r_.1 r_.2.1 r_.2.2.1 r_.2.2.2.1 r_.2.2.2.2.1 r_.2.2.2.2.2.1 r_.2.2.2.2.2.2.1 (⟨r_.2.2.2.2.2.2.2.buses, p.sources, p.links, p.racks⟩ : Plant) (⟨([] : (List (Int × Int)))⟩ : Groups_int_) hr_1) (by kernel_rfl) (by kernel_rfl) (by kernel_rfl) (by kernel_rfl)) (by kernel_rfl) rfl (ExOf.zero rfl) (Imp.fin (st' := ⟨(k735 r_ s_), [(k529 p), (k530 p), (k531 p), (k722 p), (k723 u8), k724, (k739 r_ p)]⟩) (cs := []) ⟨[], [(0, 0), (1, 1), (2, 2), (59, 59), (61, 61), (62, 62), (63, 63)]⟩ [2, 3, 5, 21] (by kernel_rfl) trivial) ?_
 refine si tT ⟨[(2, (vP 59 0)), (k72 s_), (5, (vP 62 0)), (7, (vD nS))], [(k529 p), (k530 p), (k531 p), (k722 p), (k723 u8), k724]⟩ [] {} [] trivial (.trans (Imp.adoptR (t := 7) (b := 65) (esz0 := 0) (el0 := fun _ _ => .nilp) (E := 123) (esz := 2) (el := evOf Island.ev ([] : List Island)) (ov := none) (by kernel_rfl) (by kernel_rfl)) (.trans (fz ⟨[(2, (vP 59 0)), (k72 s_), (5, (vP 62 0)), (7, (vO 65 false 0))], [(k529 p), (k530 p), (k531 p), (k722 p), (k723 u8), k724, (65, some (.rows 123 2 0 (evOf Island.ev ([] : List Island)) none))]⟩ []) (Imp.le (st' := ⟨[(2, (vP 59 0)), (k72 s_), (5, (vP 62 0)), (7, (vO 65 false (([] : List Island).length)))], [(k529 p), (k530 p), (k531 p), (k722 p), (k723 u8), k724, k740]⟩) ⟨⟨tR, tR, tR, ⟨_, rfl, TLe.v (SLe.one cW)⟩, trivial⟩, ⟨rfl, .refl _, ⟨rfl, .refl _, ⟨rfl, .refl _, ⟨rfl, .refl _, ⟨rfl, .refl _, ⟨rfl, .refl _, ⟨rfl, OLe_rows (by simp only [List.length_set, List.length_append, List.length_cons, List.length_nil, List.length_replicate]), trivial⟩⟩⟩⟩⟩⟩⟩⟩))) ?_
 refine sz tT ⟨[(2, (vP 59 0)), (k72 s_), (5, (vP 62 0)), (7, (vO 65 false (([] : List Island).length))), k720], (k741 p u8)⟩ { an := [(0, .map 0 (kOf (intC .i64) ([] : (List (Int × Int)))) (vOf (intC .i64) ([] : (List (Int × Int)))) [])], fr := [(0, 66)] } [] ?_
 refine aQ (sz tT ⟨[(2, (vP 59 0)), (k72 s_), (5, (vP 62 0)), (7, (vO 65 false (([] : List Island).length))), k720, (31, (vI p.buses)), (32, (vI 0))], (k741 p u8)⟩ {} [] ?_)
 refine bE h fun y hy h => ?_
 refine aL [] (m_plant_islands_v2_S0 p s_ u8) (m_plant_islands_v2_B0 p s_ u8) (m_plant_islands_v2_R p) hy (fun s f h => ?_) ?_
 ·clear hy
  show AWp _ _ _ _ _ _ ((m_plant_islands_v2_Q0 p s_ u8) f) _
  unfold m_plant_islands_v2_L0 at h
  obtain ⟨u0, u2, u3⟩ := s
  refine sz tT ⟨[(2, (vP 59 0)), (k72 s_), (5, (vP 62 0)), (k719 u0), k720, (31, (vI p.buses)), (32, (vI u3)), (33, (vB (decide (u3 < p.buses))))], (k721 u0 p u8 u2)⟩ {} [] ?_
  refine aQ ?_
  refine bI h (fun hb2 h => ?_) (fun hb2 h => ?_)
  ·refine ct hb2 ?_
   refine aP (aQ (aB (sz tT ⟨[(2, (vP 59 0)), (k72 s_), (5, (vP 62 0)), (k719 u0), k720, (9, (vI u3)), (31, (vI p.buses)), (32, (vI u3))], (k721 u0 p u8 u2)⟩ {} [] ?_)))
   refine aQ (aQ (aO h fun a1 h => ?_))
   refine rg tT ⟨[(2, (vP 59 0)), (k72 s_), (5, (vP 62 0)), (k719 u0), k720, (9, (vI u3)), (31, (vI p.buses)), (32, (vI u3)), (39, (vB (k218 u3 s_)))], (k721 u0 p u8 u2)⟩ [_] {} [] ⟨a1, trivial⟩ ?_
   refine bI h (fun hb1 h => ?_) (fun hb1 h => ?_)
   ·refine ct hb1 ?_
    refine aX (rz tT ⟨[(2, (vP 59 0)), (k72 s_), (5, (vP 62 0)), (k719 u0), k720, (31, (vI p.buses)), (k742 u3)], (k721 u0 p u8 u2)⟩ {} [] ?_)
    obtain rfl := oi h
    exact lN (by kernel_rfl)
   ·refine cf hb1 ?_
    refine aP (aQ (bE h fun u1 hr_2 h => ?_))
    have q0 := rk [(0, 61)] (m_plant_groups_of_v1_ok u8 u3 hr_2)
    refine rg tT ⟨(k743 s_ p u3 u0 u1), (k721 u0 p u8 u2)⟩ [_] { an := [(2, cR q0 [61])] } [] ⟨q0, trivial⟩ ?_
    refine aQ (sg tT ⟨[(2, (vP 59 0)), (k72 s_), (5, (vP 62 0)), (k719 u0), k720, (9, (vI u3)), (10, (vI u1)), (12, (vB ((mget eqI u1 u2).isSome))), (31, (vI p.buses)), (32, (vI u3))], (k721 u0 p u8 u2)⟩ [LookAt [some .i64] 1 1 u2.length (kOf (intC .i64) u2) (vOf (intC .i64) u2) [(.int .i64 u1)] [(.d (.int .i64 0))] (mget eqI u1 u2).isSome (k744 u1 u2)] { an := [(2, .look (mget eqI u1 u2).isSome (k744 u1 u2))] } [] ⟨(lookAt_of (fun _ => rfl) (fun _ _ => rfl) u2 u1 0 rfl rfl rfl), trivial⟩ ?_)
    refine sz tT ⟨[(2, (vP 59 0)), (k72 s_), (5, (vP 62 0)), (k719 u0), k720, (9, (vI u3)), (10, (vI u1)), (31, (vI p.buses)), (32, (vI u3)), (50, (vB (!((mget eqI u1 u2).isSome))))], (k721 u0 p u8 u2)⟩ {} [] ?_
    refine bI h (fun hb h => ?_) (fun hb h => ?_)
    ·refine ct hb ?_
     refine sg tT ⟨(k743 s_ p u3 u0 u1), [(k529 p), (k530 p), (k531 p), (k722 p), (k723 u8), k724, (k725 u0), (k746 u0 u1 u2)]⟩ [SetAt [some .i64] 1 1 u2.length (kOf (intC .i64) u2) (vOf (intC .i64) u2) [(.int .i64 u1)] [(cI (u0.length : Int))] [] (k747 u0 u1 u2).length (kOf (intC .i64) (k747 u0 u1 u2)) (vOf (intC .i64) (k747 u0 u1 u2))] { an := [(4, .map (k747 u0 u1 u2).length (kOf (intC .i64) (k747 u0 u1 u2)) (vOf (intC .i64) (k747 u0 u1 u2)) [])] } [] ⟨(setAt_of (fun _ => rfl) (fun _ _ => rfl) u2 u1 (u0.length : Int) rfl rfl), trivial⟩ ?_
     refine aO h fun ⟨a1, a2⟩ h => ?_
     refine rg tT ⟨[(2, (vP 59 0)), (k72 s_), (5, (vP 62 0)), (k748 u0), k720, (9, (vI u3)), (10, (vI u1)), (31, (vI p.buses)), (32, (vI u3))], (k750 p u8 u0 u1 u2)⟩ [[(⟨([] : List Int), ([] : List Int)⟩ : Island)].length = 1, ArrEq 1 2 (elL 2 [nS, nS]) (elL 2 [nS, nS]), u0.length = u0.length, _, _, (k749 u0).length = u0.length + [(⟨([] : List Int), ([] : List Int)⟩ : Island)].length, RowsApp u0.length [(⟨([] : List Int), ([] : List Int)⟩ : Island)].length 2 (evOf Island.ev u0) (elL 2 [nS, nS]) (k751 u0)] { an := [(2, .arr [(⟨([] : List Int), ([] : List Int)⟩ : Island)].length (elL 2 [nS, nS])), (3, .rows (k749 u0).length (k751 u0))], fr := [(2, 91), (3, 92)] } [] ⟨(rfl), (arrEq_refl _ _ _), rfl, a1, a2, (List.length_append), (rowsApp _ _ _ _ _ (by intro i hi j hj; match i, j, hi, hj with | 0, 0, _, _ => exact ⟨rfl, _, _, _, rfl⟩ | 0, 1, _, _ => exact ⟨rfl, _, _, _, rfl⟩)), trivial⟩ ?_
     refine sg tT ⟨[(2, (vP 59 0)), (k72 s_), (5, (vP 62 0)), (k748 u0), k720, (9, (vI u3)), (13, (vI (k752 u0 u1 u2))), (31, (vI p.buses)), (32, (vI u3))], (k750 p u8 u0 u1 u2)⟩ [LookAt [some .i64] 1 1 (k747 u0 u1 u2).length (kOf (intC .i64) (k747 u0 u1 u2)) (vOf (intC .i64) (k747 u0 u1 u2)) [(.int .i64 u1)] [(.d (.int .i64 0))] (mget eqI u1 (k747 u0 u1 u2)).isSome [(cI (k752 u0 u1 u2))]] { an := [(2, .look (mget eqI u1 (k747 u0 u1 u2)).isSome [(cI (k752 u0 u1 u2))])] } [] ⟨(lookAt_of (fun _ => rfl) (fun _ _ => rfl) (k747 u0 u1 u2) u1 0 rfl rfl rfl), trivial⟩ ?_
     refine aO h fun ⟨a1, a2, a3⟩ h => ?_
     refine ri tT ⟨[(2, (vP 59 0)), (k72 s_), (5, (vP 62 0)), (k748 u0), k720, (31, (vI p.buses)), (32, (vI u3))], [(k529 p), (k530 p), (k531 p), (k722 p), (k723 u8), k724, (k746 u0 u1 u2), (92, some (.rows 123 2 (k749 u0).length (k753 u3 u0 u1 u2) none))]⟩ [(0 : Int) ≤ (k752 u0 u1 u2) ∧ (k752 u0 u1 u2) < ((k749 u0).length : Int), (k752 u0 u1 u2).toNat < (k749 u0).length, [u3].length = 1, ArrEq 1 1 (k189 u3) (elOf (intC .i64) [u3]), (k757 u0 u1 u2).length = (k757 u0 u1 u2).length, (k759 u3 u0 u1 u2) * 8 ≤ 140737488355328, (k757 u0 u1 u2).length + [u3].length ≤ 4611686018427387904, (k756 u3 u0 u1 u2).length = (k757 u0 u1 u2).length + [u3].length, ArrEq (k759 u3 u0 u1 u2) 1 (apEl (elOf (intC .i64) (k757 u0 u1 u2)) (k757 u0 u1 u2).length (elOf (intC .i64) [u3])) (k760 u3 u0 u1 u2), (0 : Int) ≤ (k752 u0 u1 u2) ∧ (k752 u0 u1 u2) < ((k749 u0).length : Int), (k752 u0 u1 u2).toNat < (k749 u0).length, (k756 u3 u0 u1 u2).length = (k756 u3 u0 u1 u2).length, EvEq (k749 u0).length 2 (stV (k751 u0) (k755 u0 u1 u2) 0 (.row 3 1 (k756 u3 u0 u1 u2).length (k760 u3 u0 u1 u2))) (k753 u3 u0 u1 u2), ∀ i0 j0 c0, ((some ((k752 u0 u1 u2).toNat, 0, CV.own 93 false (k757 u0 u1 u2).length)) : Option (Nat × Nat × CV)) = some (i0, j0, c0) → i0 = (k752 u0 u1 u2).toNat ∧ j0 = 0] { an := [(6, .take 93), (8, .arr [u3].length (elOf (intC .i64) [u3])), (9, .arr (k756 u3 u0 u1 u2).length (k760 u3 u0 u1 u2)), (12, .rows 0 (k753 u3 u0 u1 u2))], fr := [(8, 94), (9, 95)] } [] ⟨a1, (tL a1), (rfl), ((by intro i hi j hj; match i, j, hi, hj with | 0, 0, _, _ => rfl)), rfl, a2, a3, (List.length_append), (arrEq_app _ _ _ _), a1, (tL a1), rfl, (evEq_set _ _ _ _ _ _ _ _ rfl (fun j hj => (match j, hj with | 0, _ => rfl | 1, _ => rfl))), ((fun i0 j0 c0 e => by cases e; exact ⟨rfl, rfl⟩)), trivial⟩ (Imp.le (st' := ⟨[(2, (vP 59 0)), (k72 s_), (5, (vP 62 0)), (k761 u3 u0 u1 u2), k720, (31, (vI p.buses)), (32, (vI u3))], (k763 p u8 u3 u0 u1 u2)⟩) ⟨⟨tR, tR, tR, ⟨_, rfl, TLe.v (SLe.one cW)⟩, tR, tR, tR, trivial⟩, ⟨rfl, .refl _, ⟨rfl, .refl _, ⟨rfl, .refl _, ⟨rfl, .refl _, ⟨rfl, .refl _, ⟨rfl, .refl _, ⟨rfl, .refl _, ⟨rfl, OLe_rows (by simp only [List.length_set, List.length_append, List.length_cons, List.length_nil, List.length_replicate]), trivial⟩⟩⟩⟩⟩⟩⟩⟩⟩) ?_
     refine ri tT ⟨[(2, (vP 59 0)), (k72 s_), (5, (vP 62 0)), (k761 u3 u0 u1 u2), k720, (31, (vI p.buses)), (k742 u3)], (k763 p u8 u3 u0 u1 u2)⟩ [] {} [] trivial (Imp.fin (st' := ⟨[(2, (vP 59 0)), (k72 s_), (5, (vP 62 0)), (7, (vO 65 false (k762 u3 u0 u1 u2))), k720, (31, (vI p.buses)), (k742 u3)], [(k529 p), (k530 p), (k531 p), (k722 p), (k723 u8), k724, (65, some (.rows 123 2 (k754 u3 u0 u1 u2).length (k753 u3 u0 u1 u2) none)), (k746 u0 u1 u2)]⟩) (cs := []) ⟨[], [(0, 0), (1, 1), (2, 2), (59, 59), (61, 61), (62, 62), (92, 65), (66, 66)]⟩ [2, 3, 5, 7, 8, 31, 32] (by kernel_rfl) trivial) ?_
     obtain rfl := oi h
     exact lN (by kernel_rfl)
    ·refine cf hb ?_
     refine aP (sg tT ⟨[(2, (vP 59 0)), (k72 s_), (5, (vP 62 0)), (k719 u0), k720, (9, (vI u3)), (13, (vI (k745 u1 u2))), (31, (vI p.buses)), (32, (vI u3))], (k721 u0 p u8 u2)⟩ [LookAt [some .i64] 1 1 u2.length (kOf (intC .i64) u2) (vOf (intC .i64) u2) [(.int .i64 u1)] [(.d (.int .i64 0))] (mget eqI u1 u2).isSome (k744 u1 u2)] { an := [(2, .look (mget eqI u1 u2).isSome (k744 u1 u2))] } [] ⟨(lookAt_of (fun _ => rfl) (fun _ _ => rfl) u2 u1 0 rfl rfl rfl), trivial⟩ ?_)
     refine aO h fun ⟨a1, a2, a3⟩ h => ?_
     refine ri tT ⟨(k718 u0 s_ p u3), [(k529 p), (k530 p), (k531 p), (k722 p), (k723 u8), k724, (65, some (.rows 123 2 u0.length (k764 u3 u0 u1 u2) none)), (k726 u2)]⟩ [(0 : Int) ≤ (k745 u1 u2) ∧ (k745 u1 u2) < (u0.length : Int), (k745 u1 u2).toNat < u0.length, [u3].length = 1, ArrEq 1 1 (k189 u3) (elOf (intC .i64) [u3]), (k767 u0 u1 u2).length = (k767 u0 u1 u2).length, ((k767 u0 u1 u2).length + [u3].length) * 8 ≤ 140737488355328, (k767 u0 u1 u2).length + [u3].length ≤ 4611686018427387904, (k766 u3 u0 u1 u2).length = (k767 u0 u1 u2).length + [u3].length, ArrEq ((k767 u0 u1 u2).length + [u3].length) 1 (apEl (elOf (intC .i64) (k767 u0 u1 u2)) (k767 u0 u1 u2).length (elOf (intC .i64) [u3])) (k768 u3 u0 u1 u2), (0 : Int) ≤ (k745 u1 u2) ∧ (k745 u1 u2) < (u0.length : Int), (k745 u1 u2).toNat < u0.length, (k766 u3 u0 u1 u2).length = (k766 u3 u0 u1 u2).length, EvEq u0.length 2 (stV (evOf Island.ev u0) ((k745 u1 u2).toNat) 0 (.row 3 1 (k766 u3 u0 u1 u2).length (k768 u3 u0 u1 u2))) (k764 u3 u0 u1 u2), ∀ i0 j0 c0, ((some ((k745 u1 u2).toNat, 0, CV.own 96 false (k767 u0 u1 u2).length)) : Option (Nat × Nat × CV)) = some (i0, j0, c0) → i0 = (k745 u1 u2).toNat ∧ j0 = 0] { an := [(6, .take 96), (8, .arr [u3].length (elOf (intC .i64) [u3])), (9, .arr (k766 u3 u0 u1 u2).length (k768 u3 u0 u1 u2)), (12, .rows 0 (k764 u3 u0 u1 u2))], fr := [(8, 97), (9, 98)] } [] ⟨a1, (tL a1), (rfl), ((by intro i hi j hj; match i, j, hi, hj with | 0, 0, _, _ => rfl)), rfl, a2, a3, (List.length_append), (arrEq_app _ _ _ _), a1, (tL a1), rfl, (evEq_set _ _ _ _ _ _ _ _ rfl (fun j hj => (match j, hj with | 0, _ => rfl | 1, _ => rfl))), ((fun i0 j0 c0 e => by cases e; exact ⟨rfl, rfl⟩)), trivial⟩ (Imp.le (st' := ⟨[(2, (vP 59 0)), (k72 s_), (5, (vP 62 0)), (k769 u3 u0 u1 u2), k720, (31, (vI p.buses)), (32, (vI u3))], (k770 p u8 u3 u0 u1 u2)⟩) ⟨⟨tR, tR, tR, ⟨_, rfl, TLe.v (SLe.one cW)⟩, tR, tR, tR, trivial⟩, ⟨rfl, .refl _, ⟨rfl, .refl _, ⟨rfl, .refl _, ⟨rfl, .refl _, ⟨rfl, .refl _, ⟨rfl, .refl _, ⟨rfl, OLe_rows (by simp only [List.length_set, List.length_append, List.length_cons, List.length_nil, List.length_replicate]), ⟨rfl, .refl _, trivial⟩⟩⟩⟩⟩⟩⟩⟩⟩) ?_
     refine rz tT ⟨[(2, (vP 59 0)), (k72 s_), (5, (vP 62 0)), (k769 u3 u0 u1 u2), k720, (31, (vI p.buses)), (k742 u3)], (k770 p u8 u3 u0 u1 u2)⟩ {} [] ?_
     obtain rfl := oi h
     exact lN (by kernel_rfl)
  ·refine cf hb2 ?_
   refine aI (fz (k727 s_ u0 p u8 u2) []) ?_
   refine aX ?_
   obtain rfl := oi h
   exact lB (by kernel_rfl)
 ·clear hy
  cases y with
  | brk z =>
   obtain ⟨v0, u4⟩ := z
   unfold ExK
   refine ⟨_, .refl, ?_⟩
   refine aQ (sz tT ⟨[(k72 s_), (5, (vP 62 0)), (k719 v0), k720, (k729 p), (k730 p), (78, (vI 0))], (k731 p v0 u8 u4)⟩ {} [] ?_)
   refine bE h fun y1 hy h => ?_
   refine aL [] (m_plant_islands_v2_S1 p s_ u8 u4) (m_plant_islands_v2_B1 p) (m_plant_islands_v2_R p) hy (fun s f h => ?_) ?_
   ·clear hy
    show AWp _ _ _ _ _ _ ((m_plant_islands_v2_Q1 p s_ u8 u4) f) _
    unfold m_plant_islands_v2_L1 at h
    obtain ⟨u6, u5⟩ := s
    refine sz tT ⟨[(k72 s_), (5, (vP 62 0)), (k719 u6), k720, (k729 p), (k730 p), (78, (vI u5)), (79, (vB (decide (u5 < (p.sources.length : Int)))))], (k731 p u6 u8 u4)⟩ {} [] ?_
    refine aQ ?_
    refine bI h (fun hb4 h => ?_) (fun hb4 h => ?_)
    ·refine ct hb4 ?_
     refine aP (aQ (aB (aQ (aO h fun a1 h => ?_))))
     refine rg tT ⟨[(k72 s_), (5, (vP 62 0)), (k719 u6), k720, (14, (vI u5)), (k771 p u5), (k729 p), (k730 p), (78, (vI u5))], (k731 p u6 u8 u4)⟩ [_, _] { fr := [(3, 111)] } [111] ⟨a1, (tL a1), trivial⟩ ?_
     refine aQ (aO h fun ⟨a1, a2, a3⟩ h => ?_)
     refine rg tT ⟨[(k72 s_), (5, (vP 62 0)), (k719 u6), k720, (14, (vI u5)), (k771 p u5), (k729 p), (k730 p), (78, (vI u5)), (104, (k122 p s_ u5))], (k731 p u6 u8 u4)⟩ (_ :: (eqs (at' s_.on_ u5.toNat) 4 ((k126 s_ u5) :: (eqs (at' s_.on_ u5.toNat) 3 (eqs (k124 s_ u5) 5 (k128 p s_ u5)))))) { yb := [(5, (at' s_.on_ u5.toNat)), (13, (k124 s_ u5))] } [] ⟨a1, (ae ⟨(fun hg => ⟨(a2 (gB_of hg)), trivial⟩), (ae (ae ⟨(fun hg => ⟨(a3 (gB_of hg)), trivial⟩), (ae trivial)⟩))⟩)⟩ ?_
     refine bI h (fun hb3 h => ?_) (fun hb3 h => ?_)
     ·refine ct hb3 ?_
      refine aQ (bE h fun u7 hr_3 h => ?_)
      have q0 := rk [(0, 61)] (m_plant_groups_of_v1_ok u8 (k125 p u5) hr_3)
      refine rg tT ⟨[(k72 s_), (5, (vP 62 0)), (k719 u6), k720, (14, (vI u5)), (16, (vI (k745 u7 u4))), (k729 p), (k730 p), (78, (vI u5))], (k731 p u6 u8 u4)⟩ [_, LookAt [some .i64] 1 1 u4.length (kOf (intC .i64) u4) (vOf (intC .i64) u4) [(.int .i64 u7)] [(.d (.int .i64 0))] (mget eqI u7 u4).isSome (k744 u7 u4)] { an := [(4, cR q0 [61]), (5, .look (mget eqI u7 u4).isSome (k744 u7 u4))] } [] ⟨q0, (lookAt_of (fun _ => rfl) (fun _ _ => rfl) u4 u7 0 rfl rfl rfl), trivial⟩ ?_
      refine aO h fun ⟨a1, a2, a3⟩ h => ?_
      refine ri tT ⟨(k728 p s_ u6 u5), [(k529 p), (k530 p), (k531 p), (k723 u8), k724, (65, some (.rows 123 2 u6.length (k772 u5 u6 u7 u4) none)), (k726 u4)]⟩ [(0 : Int) ≤ (k745 u7 u4) ∧ (k745 u7 u4) < (u6.length : Int), (k745 u7 u4).toNat < u6.length, [u5].length = 1, ArrEq 1 1 (k189 u5) (elOf (intC .i64) [u5]), (k775 u6 u7 u4).length = (k775 u6 u7 u4).length, ((k775 u6 u7 u4).length + [u5].length) * 8 ≤ 140737488355328, (k775 u6 u7 u4).length + [u5].length ≤ 4611686018427387904, (k774 u5 u6 u7 u4).length = (k775 u6 u7 u4).length + [u5].length, ArrEq ((k775 u6 u7 u4).length + [u5].length) 1 (apEl (elOf (intC .i64) (k775 u6 u7 u4)) (k775 u6 u7 u4).length (elOf (intC .i64) [u5])) (k776 u5 u6 u7 u4), (0 : Int) ≤ (k745 u7 u4) ∧ (k745 u7 u4) < (u6.length : Int), (k745 u7 u4).toNat < u6.length, (k774 u5 u6 u7 u4).length = (k774 u5 u6 u7 u4).length, EvEq u6.length 2 (stV (evOf Island.ev u6) ((k745 u7 u4).toNat) 1 (.row 3 1 (k774 u5 u6 u7 u4).length (k776 u5 u6 u7 u4))) (k772 u5 u6 u7 u4), ∀ i0 j0 c0, ((some ((k745 u7 u4).toNat, 1, CV.own 112 false (k775 u6 u7 u4).length)) : Option (Nat × Nat × CV)) = some (i0, j0, c0) → i0 = (k745 u7 u4).toNat ∧ j0 = 1] { an := [(6, .take 112), (8, .arr [u5].length (elOf (intC .i64) [u5])), (9, .arr (k774 u5 u6 u7 u4).length (k776 u5 u6 u7 u4)), (12, .rows 0 (k772 u5 u6 u7 u4))], fr := [(8, 113), (9, 114)] } [] ⟨a1, (tL a1), (rfl), ((by intro i hi j hj; match i, j, hi, hj with | 0, 0, _, _ => rfl)), rfl, a2, a3, (List.length_append), (arrEq_app _ _ _ _), a1, (tL a1), rfl, (evEq_set _ _ _ _ _ _ _ _ rfl (fun j hj => (match j, hj with | 0, _ => rfl | 1, _ => rfl))), ((fun i0 j0 c0 e => by cases e; exact ⟨rfl, rfl⟩)), trivial⟩ (Imp.le (st' := ⟨[(k72 s_), (5, (vP 62 0)), (k777 u5 u6 u7 u4), k720, (k729 p), (k730 p), (78, (vI u5))], (k778 p u8 u5 u6 u7 u4)⟩) ⟨⟨tR, tR, ⟨_, rfl, TLe.v (SLe.one cW)⟩, tR, tR, tR, tR, trivial⟩, ⟨rfl, .refl _, ⟨rfl, .refl _, ⟨rfl, .refl _, ⟨rfl, .refl _, ⟨rfl, .refl _, ⟨rfl, OLe_rows (by simp only [List.length_set, List.length_append, List.length_cons, List.length_nil, List.length_replicate]), ⟨rfl, .refl _, trivial⟩⟩⟩⟩⟩⟩⟩⟩) ?_
      refine rz tT ⟨[(k72 s_), (5, (vP 62 0)), (k777 u5 u6 u7 u4), k720, (k729 p), (k730 p), (78, (k30 u5))], (k778 p u8 u5 u6 u7 u4)⟩ {} [] ?_
      obtain rfl := oi h
      exact lN (by kernel_rfl)
     ·refine cf hb3 ?_
      refine aP (rz tT ⟨[(k72 s_), (5, (vP 62 0)), (k719 u6), k720, (k729 p), (k730 p), (78, (k30 u5))], (k731 p u6 u8 u4)⟩ {} [] ?_)
      obtain rfl := oi h
      exact lN (by kernel_rfl)
    ·refine cf hb4 ?_
     refine aI (fz (k732 p u6) []) ?_
     refine aX ?_
     obtain rfl := oi h
     exact lB (by kernel_rfl)
   ·clear hy
    cases y1 with
    | brk z =>
     obtain ⟨u9, rfl⟩ : ∃ q, q = z := ⟨_, rfl⟩
     unfold ExK
     refine ⟨_, .refl, ?_⟩
     refine sz tT ⟨[(4, (vO 65 false u9.length))], (k733 p u9)⟩ {} [] ?_
     refine aI (.trans (fi ⟨[(4, (vD (.sl none 2 u9.length (fun i j => evD (evOf Island.ev u9 i j)))))], (k543 p)⟩ [u9.length = u9.length] [65] ⟨rfl, trivial⟩) (Imp.le (st' := ⟨[(4, (vD (slD none 2 Island.cell u9)))], (k543 p)⟩) ⟨⟨⟨_, rfl, TLe.v (SLe.one (CLe.d (DLe.sl (.inr rfl) (fun i _ j hj => match j, hj with | 0, _ => .refl _ | 1, _ => .refl _))))⟩, trivial⟩, ⟨rfl, .refl _, ⟨rfl, .refl _, ⟨rfl, .refl _, trivial⟩⟩⟩⟩)) ?_
     refine aR ?_
     obtain rfl := oi h
     exact rh [(sD (slD none 2 Island.cell u9))] (.refl _) ⟨rfl, .refl _, ⟨rfl, .refl _, ⟨rfl, .refl _, trivial⟩⟩⟩
    | ret v =>
     obtain rfl := oi h
     unfold ExK
     intro e st hn ha hR
     cases e with
     | normal => exact absurd rfl hn
     | exit id => exact hR
     | goto l => exact hR
     | ret => exact hR
     | panic c => exact hR
     | outgrown => exact hR
  | ret v =>
   obtain rfl := oi h
   unfold ExK
   intro e st hn ha hR
   cases e with
   | normal => exact absurd rfl hn
   | exit id => exact hR
   | goto l => exact hR
   | ret => exact hR
   | panic c => exact hR
   | outgrown => exact hR
def m_plant_Live_v1_R (p : Plant) : ((List Bool) × Int) → Exit → St → Prop :=
  fun r => RetQ TT [.tmp 4, .tmp 5] (.tup [(sD (slD none 1 boolC r.1)), (sI r.2)]) (k543 p)
section
variable (u1 : (List Bool)) (u0 : (List Island)) (p : Plant) (u2 : Int)
abbrev k780 : Nat × TV := (7, (vO 12 true u1.length))
abbrev k781 : Nat × TV := (23, (vD (slD none 2 Island.cell u0)))
abbrev k782 : Nat × TV := (24, (vI (u0.length : Int)))
abbrev k783 : List (Nat × Option Ob) := [(k529 p), (k530 p), (k531 p), (12, some (arD 4 1 boolC u1))]
abbrev k779 : St := ⟨[(k780 u1), (k781 u0), (k782 u0), (25, (vI u2))], (k783 u1 p)⟩
end
def m_plant_Live_v1_S0 (p : Plant) (u0 : (List Island)) : ((List Bool) × Int) → St :=
  fun zz => match zz with | (u1, u2) => (k779 u1 u0 p u2)
section
variable (u0 : (List Bool)) (p : Plant)
abbrev k784 : St := ⟨[(k780 u0)], (k783 u0 p)⟩
end
def m_plant_Live_v1_B0 (p : Plant) : (List Bool) → St :=
  fun u0 => (k784 u0 p)
def m_plant_Live_v1_Q0 (p : Plant) (u0 : (List Island)) : (Flow ((List Bool) × Int) (Ex (List Bool) ((List Bool) × Int))) → Exit → St → Prop :=
  LQ 0 [] (m_plant_Live_v1_S0 p u0) (m_plant_Live_v1_B0 p) (m_plant_Live_v1_R p)
section
variable (u0 : (List Island)) (u1 : Int) (u2 : (List Bool)) (u3 : Int)
abbrev k786 : Nat × TV := (9, (vD (ipT [(slD none 1 (intC .i64) ((at' u0 u1.toNat).buses)), (slD none 1 (intC .i64) ((at' u0 u1.toNat).sources))] 0)))
abbrev k787 : Nat × TV := (30, (vD (slD none 1 (intC .i64) ((at' u0 u1.toNat).buses))))
abbrev k788 : Nat × TV := (31, (vI (((at' u0 u1.toNat).buses).length : Int)))
abbrev k785 : List (Nat × TV) := [(k780 u2), (k786 u0 u1), (k781 u0), (k782 u0), (25, (vI u1)), (k787 u0 u1), (k788 u0 u1), (32, (vI u3))]
end
def m_plant_Live_v1_S1 (p : Plant) (u0 : (List Island)) (u1 : Int) : ((List Bool) × Int) → St :=
  fun zz => match zz with | (u2, u3) => ⟨(k785 u0 u1 u2 u3), (k783 u2 p)⟩
def m_plant_Live_v1_B1 (p : Plant) (u0 : (List Island)) (u2 : Int) : (List Bool) → St :=
  fun u1 => (k779 u1 u0 p u2)
def m_plant_Live_v1_Q1 (p : Plant) (u0 : (List Island)) (u1 : Int) : (Flow ((List Bool) × Int) (Ex (List Bool) (Flow ((List Bool) × Int) (Ex (List Bool) ((List Bool) × Int))))) → Exit → St → Prop :=
  LQ 2 [1] (m_plant_Live_v1_S1 p u0 u1) (m_plant_Live_v1_B1 p u0 u1) (m_plant_Live_v1_Q0 p u0)
section
variable (p : Plant) (u2 : (List Bool)) (u0 : (List Island)) (u1 : Int) (u3 : Int)
abbrev k789 := (List.replicate p.buses.toNat (false : Bool))
abbrev k791 := (u2.set ((at' ((at' u0 u1.toNat).buses) u3.toNat).toNat) (decide (0 < (((at' u0 u1.toNat).sources).length : Int))))
abbrev k790 := (elOf boolC (k791 u2 u0 u1 u3))
abbrev k792 : Nat × TV := (7, (vO 12 true ((k791 u2 u0 u1 u3).length)))
abbrev k793 : List (Nat × Option Ob) := [(k529 p), (k530 p), (k531 p), (12, some (arD 4 1 boolC (k791 u2 u0 u1 u3)))]
end
theorem m_plant_Live_v1_ok (p : Plant) (s_ : State) {r : ((List Bool) × Int)} (h : m_plant_Live_v1 p s_ = some r) : Fn Try.prog 21 (k561 p s_) (k543 p) (.tup [(sD (slD none 1 boolC r.1)), (sI r.2)]) (k543 p) := by
 refine fN tT Try.func21 rfl rfl fun B => ?_
 show AWp _ _ _ _ _ _ ((m_plant_Live_v1_R p) r) _
 unfold m_plant_Live_v1 at h
 refine sz tT ⟨[(2, (vP 10 0)), (k72 s_)], (k570 p)⟩ { fr := [(0, 10), (1, 11)] } [11] ?_
 refine aQ (aQ (bE h fun r_ hr_ h => ?_))
 refine rg tT ⟨[(2, (vP 10 0)), (k72 s_), (6, (vI r_))], (k570 p)⟩ [Fn Try.prog 12 (k561 p s_) (k543 p) (vI r_) (k543 p)] { an := [(2, .callR [0, 1, 2] (vI r_))] } [] ⟨(Fn.lend (frz := [0, 1, 2]) (p := [p.sources.length = p.sources.length, p.links.length = p.links.length, p.racks.length = p.racks.length]) (Fn.le (args' := (k562 p s_)) (m_plant_CheckState_ok p s_ hr_) ⟨SLe.agg ⟨CLe.refl _, CLe.d DLe.nn', CLe.d DLe.nn', CLe.d DLe.nn', trivial⟩, SLe.refl _, trivial⟩) (by kernel_rfl) ⟨rfl, rfl, rfl, trivial⟩ rfl), trivial⟩ ?_
 refine sz tT ⟨[(2, (vP 10 0)), (k72 s_), (6, (vI r_)), (16, (vB (!decide (r_ = 0))))], (k570 p)⟩ {} [] ?_
 refine bI h (fun hb2 h => ?_) (fun hb2 h => ?_)
 ·refine ct hb2 ?_
  refine sz tT (k572 p r_) {} [] ?_
  refine aI (Imp.le (st' := ⟨[(4, (vD k449)), (5, (vI r_))], (k543 p)⟩) ⟨⟨⟨_, rfl, TLe.v (SLe.one (CLe.d DLe.nil'))⟩, tR, trivial⟩, ⟨rfl, .refl _, ⟨rfl, .refl _, ⟨rfl, .refl _, trivial⟩⟩⟩⟩) ?_
  refine aR ?_
  obtain rfl := oi h
  exact rh [(sD k449), (sI r_)] (.refl _) ⟨rfl, .refl _, ⟨rfl, .refl _, ⟨rfl, .refl _, trivial⟩⟩⟩
 ·refine cf hb2 ?_
  refine aP (aQ (aO h fun ⟨a1, a2, a3⟩ h => ?_))
  refine rg tT ⟨[(2, (vP 10 0)), (k72 s_), (7, (vO 12 true ((k789 p).length)))], [(k529 p), (k530 p), (k531 p), (k571 p), (12, some (arD 4 1 boolC (k789 p)))]⟩ [_, (p.buses : Int) = p.buses, _, _, (k789 p).length = p.buses.toNat, ArrEq p.buses.toNat 1 (fun _ j => [(.bool false)].getD j .nilp) (elOf boolC (k789 p))] { an := [(2, .arr (k789 p).length (elOf boolC (k789 p)))], fr := [(2, 12)] } [] ⟨a1, rfl, a2, a3, (List.length_replicate), (arrEq_rep _ _ _ _ _ (fun j hj => (match j, hj with | 0, _ => rfl))), trivial⟩ ?_
  refine aQ (aQ (bE h fun u0 hr_1 h => ?_))
  have q0 := m_plant_islands_v2_ok p s_ hr_1
  refine rg tT ⟨[(7, (vO 12 true ((k789 p).length))), (k781 u0), (k782 u0), (25, (vI 0))], [(k529 p), (k530 p), (k531 p), (12, some (arD 4 1 boolC (k789 p)))]⟩ [_] { an := [(2, cR q0 [0, 1, 2])] } [] ⟨q0, trivial⟩ ?_
  refine bE h fun y1 hy h => ?_
  refine aL [] (m_plant_Live_v1_S0 p u0) (m_plant_Live_v1_B0 p) (m_plant_Live_v1_R p) hy (fun s f h => ?_) ?_
  ·clear hy
   show AWp _ _ _ _ _ _ ((m_plant_Live_v1_Q0 p u0) f) _
   unfold m_plant_Live_v1_L0 at h
   obtain ⟨u4, u1⟩ := s
   refine sz tT ⟨[(k780 u4), (k781 u0), (k782 u0), (25, (vI u1)), (26, (vB (decide (u1 < (u0.length : Int)))))], (k783 u4 p)⟩ {} [] ?_
   refine aQ ?_
   refine bI h (fun hb1 h => ?_) (fun hb1 h => ?_)
   ·refine ct hb1 ?_
    refine aP (aQ (aB (aQ (aO h fun a1 h => ?_))))
    refine rg tT ⟨[(k780 u4), (9, (vP 16 0)), (k781 u0), (k782 u0), (25, (vI u1))], [(k529 p), (k530 p), (k531 p), (12, some (arD 4 1 boolC u4)), (16, some (.cells 123 [(.d (slD none 1 (intC .i64) ((at' u0 u1.toNat).buses))), (.d (slD none 1 (intC .i64) ((at' u0 u1.toNat).sources)))]))]⟩ [_] { fr := [(2, 16)] } [] ⟨a1, trivial⟩ ?_
    refine sz tT ⟨[(k780 u4), (k786 u0 u1), (k781 u0), (k782 u0), (25, (vI u1)), (k787 u0 u1), (k788 u0 u1), (32, (vI 0))], (k783 u4 p)⟩ {} [16] ?_
    refine bE h fun y hy h => ?_
    refine aL [1] (m_plant_Live_v1_S1 p u0 u1) (m_plant_Live_v1_B1 p u0 u1) (m_plant_Live_v1_Q0 p u0) hy (fun s f h => ?_) ?_
    ·clear hy
     show AWp _ _ _ _ _ _ ((m_plant_Live_v1_Q1 p u0 u1) f) _
     unfold m_plant_Live_v1_L1 at h
     obtain ⟨u2, u3⟩ := s
     refine sz tT ⟨[(k780 u2), (k786 u0 u1), (k781 u0), (k782 u0), (25, (vI u1)), (k787 u0 u1), (k788 u0 u1), (32, (vI u3)), (33, (vB (decide (u3 < (((at' u0 u1.toNat).buses).length : Int)))))], (k783 u2 p)⟩ {} [] ?_
     refine aQ ?_
     refine bI h (fun hb h => ?_) (fun hb h => ?_)
     ·refine ct hb ?_
      refine aP (aQ (aB (aQ (aO h fun a1 h => ?_))))
      refine rg tT ⟨[(k780 u2), (k786 u0 u1), (11, (vI (at' ((at' u0 u1.toNat).buses) u3.toNat))), (k781 u0), (k782 u0), (25, (vI u1)), (k787 u0 u1), (k788 u0 u1), (32, (vI u3))], (k783 u2 p)⟩ [_] {} [] ⟨a1, trivial⟩ ?_
      refine aO h fun a1 h => ?_
      refine ri tT ⟨(k785 u0 u1 u2 u3), [(k529 p), (k530 p), (k531 p), (12, some (.arr 4 1 u2.length (k790 u2 u0 u1 u3)))]⟩ [_, _, ArrEq u2.length 1 (stEls (elOf boolC u2) ((at' ((at' u0 u1.toNat).buses) u3.toNat).toNat) 0 [(.bool (decide (0 < (((at' u0 u1.toNat).sources).length : Int))))]) (k790 u2 u0 u1 u3)] { an := [(7, .arr 0 (k790 u2 u0 u1 u3))] } [] ⟨a1, (tL a1), (arrEq_set' _ _ _ _ _ _ _ _ rfl (fun j hj => (match j, hj with | 0, _ => rfl))), trivial⟩ (Imp.le (st' := ⟨[(k792 u2 u0 u1 u3), (k786 u0 u1), (k781 u0), (k782 u0), (25, (vI u1)), (k787 u0 u1), (k788 u0 u1), (32, (vI u3))], (k793 p u2 u0 u1 u3)⟩) ⟨⟨⟨_, rfl, TLe.v (SLe.one cW)⟩, tR, tR, tR, tR, tR, tR, tR, trivial⟩, ⟨rfl, .refl _, ⟨rfl, .refl _, ⟨rfl, .refl _, ⟨rfl, oW, trivial⟩⟩⟩⟩⟩) ?_
      refine rz tT ⟨[(k792 u2 u0 u1 u3), (k786 u0 u1), (k781 u0), (k782 u0), (25, (vI u1)), (k787 u0 u1), (k788 u0 u1), (k742 u3)], (k793 p u2 u0 u1 u3)⟩ {} [] ?_
      obtain rfl := oi h
      exact lN (by kernel_rfl)
     ·refine cf hb ?_
      refine aI (fz (k779 u2 u0 p u1) []) ?_
      refine aX ?_
      obtain rfl := oi h
      exact lB (by kernel_rfl)
    ·clear hy
     cases y with
     | brk z =>
      obtain ⟨u6, rfl⟩ : ∃ q, q = z := ⟨_, rfl⟩
      unfold ExK
      refine ⟨_, .refl, ?_⟩
      refine rz tT ⟨[(k780 u6), (k781 u0), (k782 u0), (25, (k30 u1))], (k783 u6 p)⟩ {} [] ?_
      obtain rfl := oi h
      exact lN (by kernel_rfl)
     | ret v =>
      obtain rfl := oi h
      unfold ExK
      intro e st hn ha hR
      cases e with
      | normal => exact absurd rfl hn
      | exit id => simp only [av_beq (b := 1) ha rfl, cond_false]; exact hR
      | goto l => exact hR
      | ret => exact hR
      | panic c => exact hR
      | outgrown => exact hR
   ·refine cf hb1 ?_
    refine aI (fz (k784 u4 p) []) ?_
    refine aX ?_
    obtain rfl := oi h
    exact lB (by kernel_rfl)
  ·clear hy
   cases y1 with
   | brk z =>
    obtain ⟨u5, rfl⟩ : ∃ q, q = z := ⟨_, rfl⟩
    unfold ExK
    refine ⟨_, .refl, ?_⟩
    refine sg tT ⟨[(4, (vD (slD (some true) 1 boolC u5))), (5, (vI 0))], (k543 p)⟩ [u5.length = u5.length] {} [12] ⟨rfl, trivial⟩ ?_
    refine aI (Imp.le (st' := ⟨[(4, (vD (slD none 1 boolC u5))), (5, (vI 0))], (k543 p)⟩) ⟨⟨⟨_, rfl, TLe.v (SLe.one (CLe.d DLe.nn'))⟩, tR, trivial⟩, ⟨rfl, .refl _, ⟨rfl, .refl _, ⟨rfl, .refl _, trivial⟩⟩⟩⟩) ?_
    refine aR ?_
    obtain rfl := oi h
    exact rh [(sD (slD none 1 boolC u5)), (sI 0)] (.refl _) ⟨rfl, .refl _, ⟨rfl, .refl _, ⟨rfl, .refl _, trivial⟩⟩⟩
   | ret v =>
    obtain rfl := oi h
    unfold ExK
    intro e st hn ha hR
    cases e with
    | normal => exact absurd rfl hn
    | exit id => exact hR
    | goto l => exact hR
    | ret => exact hR
    | panic c => exact hR
    | outgrown => exact hR
def m_plant_Fed_v1_R (p : Plant) : ((List Arr2Bool) × Int) → Exit → St → Prop :=
  fun r => RetQ TT [.tmp 4, .tmp 5] (.tup [(sD (slD none 2 Arr2Bool.cell r.1)), (sI r.2)]) (k543 p)
section
variable (r_ : ((List Bool) × Int)) (u0 : (List Arr2Bool)) (p : Plant)
abbrev k794 : Nat × TV := (6, (vD (slD none 1 boolC r_.1)))
abbrev k795 : Nat × TV := (8, (vO 26 false u0.length))
abbrev k796 : Nat × TV := (24, (vO 2 true p.racks.length))
abbrev k797 : Nat × TV := (25, (vI (p.racks.length : Int)))
abbrev k799 : Nat × Option Ob := (26, some (arD 206 2 Arr2Bool.cell u0))
abbrev k798 : List (Nat × Option Ob) := [(k529 p), (k530 p), (k531 p), (k799 u0)]
end
def m_plant_Fed_v1_S0 (p : Plant) (r_ : ((List Bool) × Int)) : ((List Arr2Bool) × Int) → St :=
  fun zz => match zz with | (u0, u1) => ⟨[(k794 r_), (k795 u0), (k796 p), (k797 p), (26, (vI u1))], (k798 u0 p)⟩
section
variable (u0 : (List Arr2Bool)) (p : Plant)
abbrev k800 : St := ⟨[(k795 u0)], (k798 u0 p)⟩
end
def m_plant_Fed_v1_B0 (p : Plant) : (List Arr2Bool) → St :=
  fun u0 => (k800 u0 p)
def m_plant_Fed_v1_Q0 (p : Plant) (r_ : ((List Bool) × Int)) : (Flow ((List Arr2Bool) × Int) (Ex (List Arr2Bool) ((List Arr2Bool) × Int))) → Exit → St → Prop :=
  LQ 0 [] (m_plant_Fed_v1_S0 p r_) (m_plant_Fed_v1_B0 p) (m_plant_Fed_v1_R p)
section
variable (p : Plant) (u0 : Int) (u1 : (List Arr2Bool)) (r_ : ((List Bool) × Int))
abbrev k801 : List (Nat × Option Ob) := [(k529 p), (k530 p), (k531 p), (21, some (k536 p))]
abbrev k804 := ((at' p.racks u0.toNat).feeds)
abbrev k803 := ((k804 p u0).e0)
abbrev k805 := ((k804 p u0).e1)
abbrev k802 : Nat × TV := (10, (vD (ipT [(.int .i64 (k803 p u0)), (.int .i64 (k805 p u0)), (.int .i64 ((at' p.racks u0.toNat).power)), (.int .i64 ((at' p.racks u0.toNat).paths))] 0)))
abbrev k806 : List (Nat × Option Ob) := [(k529 p), (k530 p), (k531 p), (k799 u1), (36, some (.cells 206 [(cB false), (cB false)]))]
abbrev k809 : List CV := [(cI (k803 p u0)), (cI (k805 p u0))]
abbrev k808 : Nat × TV := (31, (.v (.agg (k809 p u0))))
abbrev k807 : List (Nat × TV) := [(k794 r_), (k795 u1), (11, (vP 36 0)), (k796 p), (k797 p), (26, (vI u0)), (k808 p u0), (32, (vI 0))]
abbrev k812 := (decide (0 ≤ (k803 p u0)))
abbrev k811 := (bif (k812 p u0) then (at' r_.1 ((k803 p u0).toNat)) else false)
abbrev k810 : List (Nat × Option Ob) := [(k529 p), (k530 p), (k531 p), (k799 u1), (36, some (.cells 206 [(cB (k811 p u0 r_)), (cB false)]))]
abbrev k813 : List (Nat × TV) := [(k794 r_), (k795 u1), (11, (vP 36 0)), (k796 p), (k797 p), (26, (vI u0)), (k808 p u0), (32, (vI 1))]
abbrev k816 := (decide (0 ≤ (k805 p u0)))
abbrev k815 := (bif (k816 p u0) then (at' r_.1 ((k805 p u0).toNat)) else false)
abbrev k814 : List (Nat × Option Ob) := [(k529 p), (k530 p), (k531 p), (k799 u1), (36, some (.cells 206 [(cB (k811 p u0 r_)), (cB (k815 p u0 r_))]))]
abbrev k820 := (⟨(k811 p u0 r_), (k815 p u0 r_)⟩ : Arr2Bool)
abbrev k819 := (u1 ++ [(k820 p u0 r_)])
abbrev k818 := ((k819 p u0 u1 r_).length)
abbrev k817 : Nat × TV := (8, (vO 38 false (k818 p u0 u1 r_)))
abbrev k822 : Ob := (arD 206 2 Arr2Bool.cell (k819 p u0 u1 r_))
abbrev k821 : List (Nat × Option Ob) := [(k529 p), (k530 p), (k531 p), (38, some (k822 p u0 u1 r_))]
abbrev k823 := (elOf Arr2Bool.cell [(k820 p u0 r_)])
abbrev k824 := (elOf Arr2Bool.cell (k819 p u0 u1 r_))
end
theorem m_plant_Fed_v1_ok (p : Plant) (s_ : State) {r : ((List Arr2Bool) × Int)} (h : m_plant_Fed_v1 p s_ = some r) : Fn Try.prog 104 (k561 p s_) (k543 p) (.tup [(sD (slD none 2 Arr2Bool.cell r.1)), (sI r.2)]) (k543 p) := by
 refine fN tT Try.func104 rfl rfl fun B => ?_
 show AWp _ _ _ _ _ _ ((m_plant_Fed_v1_R p) r) _
 unfold m_plant_Fed_v1 at h
 refine sz tT ⟨[(2, (vP 21 0)), (k72 s_)], (k801 p)⟩ { fr := [(0, 21), (1, 22)] } [22] ?_
 refine aQ (bE h fun r_ hr_ h => ?_)
 have q0 := m_plant_Live_v1_ok p s_ hr_
 refine rg tT ⟨[(2, (vP 21 0)), (k794 r_), (7, (vI r_.2))], (k801 p)⟩ [_] { an := [(2, cR q0 [0, 1, 2])] } [] ⟨q0, trivial⟩ ?_
 refine aQ (sz tT ⟨[(2, (vP 21 0)), (k794 r_), (7, (vI r_.2)), (21, (vB (!decide (r_.2 = 0))))], (k801 p)⟩ {} [] ?_)
 refine bI h (fun hb1 h => ?_) (fun hb1 h => ?_)
 ·refine ct hb1 ?_
  refine sz tT ⟨[(4, (vD nS)), (5, (vI r_.2))], (k543 p)⟩ {} [] ?_
  refine aI (Imp.le (st' := ⟨[(4, (vD (slD none 2 Arr2Bool.cell ([] : List Arr2Bool)))), (5, (vI r_.2))], (k543 p)⟩) ⟨⟨⟨_, rfl, TLe.v (SLe.one (CLe.d DLe.nil'))⟩, tR, trivial⟩, ⟨rfl, .refl _, ⟨rfl, .refl _, ⟨rfl, .refl _, trivial⟩⟩⟩⟩) ?_
  refine aR ?_
  obtain rfl := oi h
  exact rh [(sD (slD none 2 Arr2Bool.cell ([] : List Arr2Bool))), (sI r_.2)] (.refl _) ⟨rfl, .refl _, ⟨rfl, .refl _, ⟨rfl, .refl _, trivial⟩⟩⟩
 ·refine cf hb1 ?_
  refine aP (sz tT ⟨[(2, (vP 21 0)), (k794 r_), (8, (vD nS))], (k801 p)⟩ {} [] ?_)
  refine aQ (sz tT ⟨[(k794 r_), (8, (vD nS)), (k796 p), (k797 p), (26, (vI 0))], (k543 p)⟩ {} [] ?_)
  refine bE h fun y hy h => ?_
  refine aI (.trans (Imp.adopt (t := 8) (b := 39) (esz0 := 0) (el0 := fun _ _ => .nilp) (E := 206) (esz := 2) (el := elOf Arr2Bool.cell ([] : List Arr2Bool)) (by kernel_rfl) (by kernel_rfl)) (.trans (Imp.fin (st' := ⟨[(k794 r_), (8, (vO 26 false 0)), (k796 p), (k797 p), (26, (vI 0))], [(k529 p), (k530 p), (k531 p), (26, some (.arr 206 2 0 (elOf Arr2Bool.cell ([] : List Arr2Bool))))]⟩) (cs := []) ⟨[], [(0, 0), (1, 1), (2, 2), (39, 26)]⟩ [6, 8, 24, 25, 26] (by kernel_rfl) trivial) (Imp.le (st' := ⟨[(k794 r_), (8, (vO 26 false (([] : List Arr2Bool).length))), (k796 p), (k797 p), (26, (vI 0))], [(k529 p), (k530 p), (k531 p), (26, some (arD 206 2 Arr2Bool.cell ([] : List Arr2Bool)))]⟩) ⟨⟨tR, ⟨_, rfl, TLe.v (SLe.one cW)⟩, tR, tR, tR, trivial⟩, ⟨rfl, .refl _, ⟨rfl, .refl _, ⟨rfl, .refl _, ⟨rfl, oW, trivial⟩⟩⟩⟩⟩))) ?_
  refine aL [] (m_plant_Fed_v1_S0 p r_) (m_plant_Fed_v1_B0 p) (m_plant_Fed_v1_R p) hy (fun s f h => ?_) ?_
  ·clear hy
   show AWp _ _ _ _ _ _ ((m_plant_Fed_v1_Q0 p r_) f) _
   unfold m_plant_Fed_v1_L0 at h
   obtain ⟨u1, u0⟩ := s
   refine sz tT ⟨[(k794 r_), (k795 u1), (k796 p), (k797 p), (26, (vI u0)), (27, (vB (decide (u0 < (p.racks.length : Int)))))], (k798 u1 p)⟩ {} [] ?_
   refine aQ ?_
   refine bI h (fun hb h => ?_) (fun hb h => ?_)
   ·refine ct hb ?_
    refine aP (aQ (aB (aQ (aO h fun a1 h => ?_))))
    refine rg tT ⟨[(k794 r_), (k795 u1), (k802 p u0), (k796 p), (k797 p), (26, (vI u0))], (k798 u1 p)⟩ [_, _] { fr := [(2, 35)] } [35] ⟨a1, (tL a1), trivial⟩ ?_
    refine sz tT ⟨[(k794 r_), (k795 u1), (k802 p u0), (11, (vP 36 0)), (k796 p), (k797 p), (26, (vI u0))], (k806 p u1)⟩ { fr := [(0, 36)] } [] ?_
    refine aQ (sz tT ⟨(k807 p u0 u1 r_), (k806 p u1)⟩ {} [] ?_)
    refine aB (awp_loopN 12 (loopN_succ 11 (sz tT ⟨[(k794 r_), (k795 u1), (11, (vP 36 0)), (k796 p), (k797 p), (26, (vI u0)), (k808 p u0), (32, (vI 0)), (33, (vB true))], (k806 p u1)⟩ {} [] ?_)))
    refine aQ (ck (aP (aQ (aB (sg tT ⟨[(k794 r_), (k795 u1), (11, (vP 36 0)), (12, (vI 0)), (13, (vI (k803 p u0))), (k796 p), (k797 p), (26, (vI u0)), (k808 p u0), (32, (vI 0))], (k806 p u1)⟩ [(0 : Int) ≤ 0 ∧ (0 : Int) < (2 : Nat), 0 * 1 + 1 ≤ (k809 p u0).length, ((k809 p u0).drop (0 * 1)).take 1 = [(.int .i64 (k803 p u0))].map .d] { an := [(1, .vals [(.int .i64 (k803 p u0))])] } [] ⟨((by decide)), (Nat.le_of_ble_eq_true rfl), (rfl), trivial⟩ ?_)))))
    refine aO h fun a1 h => ?_
    refine rg tT ⟨(k807 p u0 u1 r_), (k810 p u0 u1 r_)⟩ (eqs (k812 p u0) 3 ((gP (ybf [(3, (k812 p u0))]) [(3, true)] → All [(0 : Int) ≤ (k804 p u0).e0 ∧ (k804 p u0).e0 < (r_.1.length : Int)]) :: (eqs (k812 p u0) 2 [(0 : Int) ≤ 0 ∧ (0 : Int) < (2 : Nat)]))) { yb := [(3, (k812 p u0))] } [] (ae ⟨(fun hg => ⟨(a1 (gB_of hg)), trivial⟩), (ae ⟨((by decide)), trivial⟩)⟩) ?_
    refine rz tT ⟨(k813 p u0 u1 r_), (k810 p u0 u1 r_)⟩ {} [] ?_
    refine loopN_succ 10 (sz tT ⟨[(k794 r_), (k795 u1), (11, (vP 36 0)), (k796 p), (k797 p), (26, (vI u0)), (k808 p u0), (32, (vI 1)), (33, (vB true))], (k810 p u0 u1 r_)⟩ {} [] ?_)
    refine aQ (ck (aP (aQ (aB (sg tT ⟨[(k794 r_), (k795 u1), (11, (vP 36 0)), (12, (vI 1)), (13, (vI (k805 p u0))), (k796 p), (k797 p), (26, (vI u0)), (k808 p u0), (32, (vI 1))], (k810 p u0 u1 r_)⟩ [(0 : Int) ≤ 1 ∧ (1 : Int) < (2 : Nat), 1 * 1 + 1 ≤ (k809 p u0).length, ((k809 p u0).drop (1 * 1)).take 1 = [(.int .i64 (k805 p u0))].map .d] { an := [(1, .vals [(.int .i64 (k805 p u0))])] } [] ⟨((by decide)), (Nat.le_of_ble_eq_true rfl), (rfl), trivial⟩ ?_)))))
    refine aO h fun a1 h => ?_
    refine rg tT ⟨(k813 p u0 u1 r_), (k814 p u0 u1 r_)⟩ (eqs (k816 p u0) 3 ((gP (ybf [(3, (k816 p u0))]) [(3, true)] → All [(0 : Int) ≤ (k804 p u0).e1 ∧ (k804 p u0).e1 < (r_.1.length : Int)]) :: (eqs (k816 p u0) 2 [(0 : Int) ≤ 1 ∧ (1 : Int) < (2 : Nat)]))) { yb := [(3, (k816 p u0))] } [] (ae ⟨(fun hg => ⟨(a1 (gB_of hg)), trivial⟩), (ae ⟨((by decide)), trivial⟩)⟩) ?_
    refine rz tT ⟨[(k794 r_), (k795 u1), (11, (vP 36 0)), (k796 p), (k797 p), (26, (vI u0)), (k808 p u0), (32, (vI 2))], (k814 p u0 u1 r_)⟩ {} [] ?_
    refine loopN_succ 9 (sz tT ⟨[(k794 r_), (k795 u1), (11, (vP 36 0)), (k796 p), (k797 p), (26, (vI u0)), (k808 p u0), (32, (vI 2)), (33, (vB false))], (k814 p u0 u1 r_)⟩ {} [] ?_)
    refine aQ (cn (aX (aO h fun ⟨a1, a2⟩ h => ?_)))
    refine rg tT ⟨[(k794 r_), (k817 p u0 u1 r_), (k796 p), (k797 p), (26, (vI u0))], (k821 p u0 u1 r_)⟩ [[(k820 p u0 r_)].length = 1, ArrEq 1 2 (elL 2 [(.bool (k811 p u0 r_)), (.bool (k815 p u0 r_))]) (k823 p u0 r_), u1.length = u1.length, _, _, (k819 p u0 u1 r_).length = u1.length + [(k820 p u0 r_)].length, ArrEq (u1.length + [(k820 p u0 r_)].length) 2 (apEl (elOf Arr2Bool.cell u1) u1.length (k823 p u0 r_)) (k824 p u0 u1 r_)] { an := [(2, .arr [(k820 p u0 r_)].length (k823 p u0 r_)), (3, .arr (k819 p u0 u1 r_).length (k824 p u0 u1 r_))], fr := [(2, 37), (3, 38)] } [] ⟨(rfl), ((by intro i hi j hj; match i, j, hi, hj with | 0, 0, _, _ => rfl | 0, 1, _, _ => rfl)), rfl, a1, a2, (List.length_append), (arrEq_app _ _ _ _), trivial⟩ ?_
    refine ri tT ⟨[(k794 r_), (k817 p u0 u1 r_), (k796 p), (k797 p), (26, (k30 u0))], (k821 p u0 u1 r_)⟩ [] {} [] trivial (Imp.fin (st' := ⟨[(k794 r_), (8, (vO 26 false (k818 p u0 u1 r_))), (k796 p), (k797 p), (26, (k30 u0))], [(k529 p), (k530 p), (k531 p), (26, some (k822 p u0 u1 r_))]⟩) (cs := []) ⟨[], [(0, 0), (1, 1), (2, 2), (38, 26)]⟩ [6, 8, 24, 25, 26] (by kernel_rfl) trivial) ?_
    obtain rfl := oi h
    exact lN (by kernel_rfl)
   ·refine cf hb ?_
    refine aI (fz (k800 u1 p) []) ?_
    refine aX ?_
    obtain rfl := oi h
    exact lB (by kernel_rfl)
  ·clear hy
   cases y with
   | brk z =>
    obtain ⟨u2, rfl⟩ : ∃ q, q = z := ⟨_, rfl⟩
    unfold ExK
    refine ⟨_, .refl, ?_⟩
    refine sg tT ⟨[(4, (vD (slD none 2 Arr2Bool.cell u2))), (5, (vI 0))], (k543 p)⟩ [u2.length = u2.length] {} [26] ⟨rfl, trivial⟩ ?_
    refine aR ?_
    obtain rfl := oi h
    exact rh [(sD (slD none 2 Arr2Bool.cell u2)), (sI 0)] (.refl _) ⟨rfl, .refl _, ⟨rfl, .refl _, ⟨rfl, .refl _, trivial⟩⟩⟩
   | ret v =>
    obtain rfl := oi h
    unfold ExK
    intro e st hn ha hR
    cases e with
    | normal => exact absurd rfl hn
    | exit id => exact hR
    | goto l => exact hR
    | ret => exact hR
    | panic c => exact hR
    | outgrown => exact hR
def m_guard_Lost_v1_R (p : Plant) : ((List Int) × Int) → Exit → St → Prop :=
  fun r => RetQ TT [.tmp 6, .tmp 7] (.tup [(sD (slD none 1 (intC .i64) r.1)), (sI r.2)]) (k543 p)
section
variable (u1 : ((List Arr2Bool) × Int)) (u2 : ((List Arr2Bool) × Int)) (u0 : (List Int)) (p : Plant)
abbrev k825 : Nat × TV := (12, (vD (slD none 2 Arr2Bool.cell u1.1)))
abbrev k826 : Nat × TV := (14, (vD (slD none 2 Arr2Bool.cell u2.1)))
abbrev k827 : Nat × TV := (16, (vD (.fn 105 0 (capF []))))
abbrev k828 : Nat × TV := (17, (vO 24 false u0.length))
abbrev k829 : Nat × TV := (57, (vI (p.racks.length : Int)))
abbrev k830 : List (Nat × Option Ob) := [(k529 p), (k530 p), (k531 p), (24, some (k238 u0))]
end
def m_guard_Lost_v1_S0 (p : Plant) (u1 : ((List Arr2Bool) × Int)) (u2 : ((List Arr2Bool) × Int)) : ((List Int) × Int) → St :=
  fun zz => match zz with | (u0, u3) => ⟨[(k825 u1), (k826 u2), k827, (k828 u0), (k829 p), (58, (vI u3))], (k830 u0 p)⟩
section
variable (u0 : (List Int)) (p : Plant)
abbrev k831 : St := ⟨[(k828 u0)], (k830 u0 p)⟩
end
def m_guard_Lost_v1_B0 (p : Plant) : (List Int) → St :=
  fun u0 => (k831 u0 p)
def m_guard_Lost_v1_Q0 (p : Plant) (u0 : ((List Arr2Bool) × Int)) (u1 : ((List Arr2Bool) × Int)) : (Flow ((List Int) × Int) (Ex (List Int) ((List Int) × Int))) → Exit → St → Prop :=
  LQ 1 [] (m_guard_Lost_v1_S0 p u0 u1) (m_guard_Lost_v1_B0 p) (m_guard_Lost_v1_R p)
section
variable (p : Plant) (u4 : (State × Int)) (u1 : (List Int)) (u0 : Int)
abbrev k833 : Nat × Option Ob := (17, some (k536 p))
abbrev k832 : List (Nat × Option Ob) := [(k529 p), (k530 p), (k531 p), (k833 p)]
abbrev k834 : Nat × TV := (10, (k698 u4))
abbrev k835 : List (Nat × Option Ob) := [(k529 p), (k530 p), (k531 p), (30, some (arD 3 1 (intC .i64) (u1 ++ [u0])))]
end
theorem m_guard_Lost_v1_ok (p : Plant) (s_ : State) (u5 : Int) {r : ((List Int) × Int)} (h : m_guard_Lost_v1 p s_ u5 = some r) : Fn Try.prog 61 (k542 p s_ u5) (k543 p) (.tup [(sD (slD none 1 (intC .i64) r.1)), (sI r.2)]) (k543 p) := by
 refine fN tT Try.func61 rfl rfl fun B => ?_
 show AWp _ _ _ _ _ _ ((m_guard_Lost_v1_R p) r) _
 unfold m_guard_Lost_v1 at h
 refine sz tT ⟨[(2, (vI u5)), (3, (vP 17 0)), (k121 s_)], (k832 p)⟩ { fr := [(0, 17), (1, 18)] } [18] ?_
 refine aQ (bE h fun r_ hr_ h => ?_)
 have q0 := rk [(3, 19), (4, 20)] (m_guard_Clear_v2_ok p s_ u5 hr_)
 refine ri tT ⟨[(2, (vI u5)), (3, (vP 17 0)), (k121 s_), (8, (vP 21 0)), (9, (vI r_.2))], [(k529 p), (k530 p), (k531 p), (k833 p), (21, some (k469 r_))]⟩ [_, r_.1.events.length = r_.1.events.length] { an := [(3, cA q0 [0, 1, 2])], fr := [(7, 21)] } [19] ⟨q0, rfl, trivial⟩ (fz ⟨[(2, (vI u5)), (3, (vP 17 0)), (k121 s_), (k478 r_), (9, (vI r_.2))], (k832 p)⟩ [21]) ?_
 refine aQ (aB (sz tT ⟨[(2, (vI u5)), (3, (vP 17 0)), (k121 s_), (k478 r_), (9, (vI r_.2)), (26, (vB (!decide (r_.2 = 0))))], (k832 p)⟩ {} [] ?_))
 refine bI h (fun hb3 h => ?_) (fun hb3 h => ?_)
 ·refine ct hb3 ?_
  refine sz tT ⟨[(6, (vD nS)), (7, (vI r_.2))], (k543 p)⟩ {} [] ?_
  refine aI (Imp.le (st' := ⟨[(6, (vD (slD none 1 (intC .i64) ([] : List Int)))), (7, (vI r_.2))], (k543 p)⟩) ⟨⟨⟨_, rfl, TLe.v (SLe.one (CLe.d DLe.nil'))⟩, tR, trivial⟩, ⟨rfl, .refl _, ⟨rfl, .refl _, ⟨rfl, .refl _, trivial⟩⟩⟩⟩) ?_
  refine aR ?_
  obtain rfl := oi h
  exact rh [(sD (slD none 1 (intC .i64) ([] : List Int))), (sI r_.2)] (.refl _) ⟨rfl, .refl _, ⟨rfl, .refl _, ⟨rfl, .refl _, trivial⟩⟩⟩
 ·refine cf hb3 ?_
  refine sz tT ⟨[(2, (vI u5)), (3, (vP 17 0)), (k121 s_), (k478 r_), (30, (vB (!r_.1.cleared)))], (k832 p)⟩ {} [] ?_
  refine bI h (fun hb2 h => ?_) (fun hb2 h => ?_)
  ·refine ct hb2 ?_
   refine sz tT ⟨[(6, (vD nS)), (7, (vI 4))], (k543 p)⟩ {} [] ?_
   refine aI (Imp.le (st' := ⟨[(6, (vD (slD none 1 (intC .i64) ([] : List Int)))), (7, (vI 4))], (k543 p)⟩) ⟨⟨⟨_, rfl, TLe.v (SLe.one (CLe.d DLe.nil'))⟩, tR, trivial⟩, ⟨rfl, .refl _, ⟨rfl, .refl _, ⟨rfl, .refl _, trivial⟩⟩⟩⟩) ?_
   refine aR ?_
   obtain rfl := oi h
   exact rh [(sD (slD none 1 (intC .i64) ([] : List Int))), (sI 4)] (.refl _) ⟨rfl, .refl _, ⟨rfl, .refl _, ⟨rfl, .refl _, trivial⟩⟩⟩
  ·refine cf hb2 ?_
   refine aP (aQ (bE h fun u4 hr_1 h => ?_))
   have q0 := m_plant_Break_v1_ok p r_.1.state (⟨1, u5⟩ : Part) hr_1
   refine rg tT ⟨[(3, (vP 17 0)), (k121 s_), (k834 u4)], (k832 p)⟩ [_] { an := [(5, cR q0 [0, 1, 2])], fr := [(9, 22)] } [22] ⟨q0, trivial⟩ ?_
   refine aQ (bE h fun u3 hr_2 h => ?_)
   have q0 := m_plant_Fed_v1_ok p s_ hr_2
   refine rg tT ⟨[(3, (vP 17 0)), (k834 u4), (k825 u3)], (k832 p)⟩ [_] { an := [(2, cR q0 [0, 1, 2])] } [] ⟨q0, trivial⟩ ?_
   refine aQ (bE h fun u2 hr_3 h => ?_)
   have q0 := m_plant_Fed_v1_ok p u4.1 hr_3
   refine rg tT ⟨[(3, (vP 17 0)), (k825 u3), (k826 u2)], (k832 p)⟩ [_] { an := [(2, cR q0 [0, 1, 2])] } [] ⟨q0, trivial⟩ ?_
   refine sz tT ⟨[(3, (vP 17 0)), (k825 u3), (k826 u2), k827], (k832 p)⟩ {} [] ?_
   refine sz tT ⟨[(3, (vP 17 0)), (k825 u3), (k826 u2), k827, (17, (vD nS))], (k832 p)⟩ {} [] ?_
   refine aQ (sz tT ⟨[(k825 u3), (k826 u2), k827, (17, (vD nS)), (k829 p), (58, (vI 0))], (k543 p)⟩ {} [] ?_)
   refine bE h fun y hy h => ?_
   refine aI (.trans (Imp.adopt (t := 17) (b := 31) (esz0 := 0) (el0 := fun _ _ => .nilp) (E := 3) (esz := 1) (el := elOf (intC .i64) ([] : List Int)) (by kernel_rfl) (by kernel_rfl)) (.trans (Imp.fin (st' := ⟨[(k825 u3), (k826 u2), k827, (17, (vO 24 false 0)), (k829 p), (58, (vI 0))], [(k529 p), (k530 p), (k531 p), (24, some (.arr 3 1 0 (elOf (intC .i64) ([] : List Int))))]⟩) (cs := []) ⟨[], [(0, 0), (1, 1), (2, 2), (31, 24)]⟩ [12, 14, 16, 17, 57, 58] (by kernel_rfl) trivial) (Imp.le (st' := ⟨[(k825 u3), (k826 u2), k827, (17, (vO 24 false (([] : List Int).length))), (k829 p), (58, (vI 0))], [(k529 p), (k530 p), (k531 p), (24, some k133)]⟩) ⟨⟨tR, tR, tR, ⟨_, rfl, TLe.v (SLe.one cW)⟩, tR, tR, trivial⟩, ⟨rfl, .refl _, ⟨rfl, .refl _, ⟨rfl, .refl _, ⟨rfl, oW, trivial⟩⟩⟩⟩⟩))) ?_
   refine aL [] (m_guard_Lost_v1_S0 p u3 u2) (m_guard_Lost_v1_B0 p) (m_guard_Lost_v1_R p) hy (fun s f h => ?_) ?_
   ·clear hy
    show AWp _ _ _ _ _ _ ((m_guard_Lost_v1_Q0 p u3 u2) f) _
    unfold m_guard_Lost_v1_L0 at h
    obtain ⟨u1, u0⟩ := s
    refine sz tT ⟨[(k825 u3), (k826 u2), k827, (k828 u1), (k829 p), (58, (vI u0)), (59, (vB (decide (u0 < (p.racks.length : Int)))))], (k830 u1 p)⟩ {} [] ?_
    refine aQ ?_
    refine bI h (fun hb1 h => ?_) (fun hb1 h => ?_)
    ·refine ct hb1 ?_
     refine aP (aQ (aB (sz tT ⟨[(k825 u3), (k826 u2), k827, (k828 u1), (18, (vI u0)), (k829 p), (58, (vI u0))], (k830 u1 p)⟩ {} [] ?_)))
     refine aQ (bE h fun u6 hr_4 h => ?_)
     refine bE h fun u8 hr_5 h => ?_
     refine aO h fun ⟨a1, a2⟩ h => ?_
     have q1 := m_guard_Lost_1_ok (at' u3.1 u0.toNat) hr_4
     refine rg tT ⟨[(k825 u3), (k826 u2), k827, (k828 u1), (18, (vI u0)), (k829 p), (58, (vI u0)), (75, (vB (bif u6 then (!u8) else false)))], (k830 u1 p)⟩ (_ :: _ :: (eqs u6 4 ((gP (ybf [(6, u6)]) [(6, true)] → All [(0 : Int) ≤ u0 ∧ u0 < (u2.1.length : Int)]) :: (eqs u6 2 ((gP (ybf [(6, u6)]) [(6, true)] → All [Fn Try.prog 105 [(.agg [(cB ((at' u2.1 u0.toNat).e0)), (cB ((at' u2.1 u0.toNat).e1))])] [] (vB u8) []]) :: (eqs u6 2 [])))))) { yb := [(6, u6)], an := [(5, cA q1 []), (12, .call [] (vB u8) [])] } [] ⟨a1, q1, (ae ⟨(fun hg => ⟨(a2 (gB_of hg)), trivial⟩), (ae ⟨(fun hg => ⟨(m_guard_Lost_1_ok (at' u2.1 u0.toNat) (gcall hr_5 (gB_of hg))), trivial⟩), (ae trivial)⟩)⟩)⟩ ?_
     refine bI h (fun hb h => ?_) (fun hb h => ?_)
     ·refine ct hb ?_
      refine aO h fun ⟨a1, a2⟩ h => ?_
      refine rg tT ⟨[(k825 u3), (k826 u2), k827, (17, (vO 30 false ((u1 ++ [u0]).length))), (k829 p), (58, (vI u0))], (k835 p u1 u0)⟩ [[u0].length = 1, ArrEq 1 1 (k189 u0) (elOf (intC .i64) [u0]), u1.length = u1.length, _, _, (u1 ++ [u0]).length = u1.length + [u0].length, ArrEq (u1.length + [u0].length) 1 (k190 u0 u1) (k191 u0 u1)] { an := [(2, .arr [u0].length (elOf (intC .i64) [u0])), (3, .arr (u1 ++ [u0]).length (k191 u0 u1))], fr := [(2, 29), (3, 30)] } [] ⟨(rfl), ((by intro i hi j hj; match i, j, hi, hj with | 0, 0, _, _ => rfl)), rfl, a1, a2, (List.length_append), (arrEq_app _ _ _ _), trivial⟩ ?_
      refine ri tT ⟨[(k825 u3), (k826 u2), k827, (17, (vO 30 false ((u1 ++ [u0]).length))), (k829 p), (58, (k30 u0))], (k835 p u1 u0)⟩ [] {} [] trivial (Imp.fin (st' := ⟨[(k825 u3), (k826 u2), k827, (17, (vO 24 false ((u1 ++ [u0]).length))), (k829 p), (58, (k30 u0))], [(k529 p), (k530 p), (k531 p), (24, some (arD 3 1 (intC .i64) (u1 ++ [u0])))]⟩) (cs := []) ⟨[], [(0, 0), (1, 1), (2, 2), (30, 24)]⟩ [12, 14, 16, 17, 57, 58] (by kernel_rfl) trivial) ?_
      obtain rfl := oi h
      exact lN (by kernel_rfl)
     ·refine cf hb ?_
      refine aP (rz tT ⟨[(k825 u3), (k826 u2), k827, (k828 u1), (k829 p), (58, (k30 u0))], (k830 u1 p)⟩ {} [] ?_)
      obtain rfl := oi h
      exact lN (by kernel_rfl)
    ·refine cf hb1 ?_
     refine aI (fz (k831 u1 p) []) ?_
     refine aX ?_
     obtain rfl := oi h
     exact lB (by kernel_rfl)
   ·clear hy
    cases y with
    | brk z =>
     obtain ⟨u7, rfl⟩ : ∃ q, q = z := ⟨_, rfl⟩
     unfold ExK
     refine ⟨_, .refl, ?_⟩
     refine sg tT ⟨[(k141 u7), (7, (vI 0))], (k543 p)⟩ [u7.length = u7.length] {} [24] ⟨rfl, trivial⟩ ?_
     refine aR ?_
     obtain rfl := oi h
     exact rh [(sD (k135 u7)), (sI 0)] (.refl _) ⟨rfl, .refl _, ⟨rfl, .refl _, ⟨rfl, .refl _, trivial⟩⟩⟩
    | ret v =>
     obtain rfl := oi h
     unfold ExK
     intro e st hn ha hR
     cases e with
     | normal => exact absurd rfl hn
     | exit id => exact hR
     | goto l => exact hR
     | ret => exact hR
     | panic c => exact hR
     | outgrown => exact hR
def m_law03_awake_R  : Bool → Exit → St → Prop :=
  fun r => RetQ TT [.tmp 0] (vB r) []
end
end Sg
