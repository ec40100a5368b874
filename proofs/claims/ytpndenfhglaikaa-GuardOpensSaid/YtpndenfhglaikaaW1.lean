import Derived.Test.YtpndenfhglaikaaW0
namespace Sg
open Go Go.Proofs
set_option maxRecDepth 20000
set_option linter.all false
noncomputable section
section
variable (p : Plant) (s_ : State)
abbrev k486 : St := ⟨[(k239 p), (k72 s_)], []⟩
abbrev k487 := (capF [(k8 p), (k74 s_)])
end
theorem m_plant_conducting_ok (p : Plant) (s_ : State) {r : (Int × (List Source) × (List Link) × (List Rack) × (List Bool) × (List Bool) × (List Bool) × (List Bool) × (List Bool) × (List Bool) × (List Bool))} (h : m_plant_conducting p s_ = some r) : Fn Try.prog 115 (k97 s_ p) [] (vD (.fn 146 2 (capF [(ipT [(.int .i64 r.1), (slD none 5 Source.cell r.2.1), (slD none 6 Link.cell r.2.2.1), (slD none 4 Rack.cell r.2.2.2.1)] 0), (ipT [(slD none 1 boolC r.2.2.2.2.1), (slD none 1 boolC r.2.2.2.2.2.1), (slD none 1 boolC r.2.2.2.2.2.2.1), (slD none 1 boolC r.2.2.2.2.2.2.2.1), (slD none 1 boolC r.2.2.2.2.2.2.2.2.1), (slD none 1 boolC r.2.2.2.2.2.2.2.2.2.1), (slD none 1 boolC r.2.2.2.2.2.2.2.2.2.2)] 0)]))) [] := by
 refine fN tT Try.func115 rfl rfl fun B => ?_
 show AWp _ _ _ _ _ _ (m_plant_conducting_R r) _
 unfold m_plant_conducting at h
 refine sz tT (k486 p s_) { fr := [(0, 2), (1, 3)] } [2, 3] ?_
 refine sz tT ⟨[(4, (vD (.fn 146 2 (k487 p s_))))], []⟩ {} [] ?_
 refine aR ?_
 obtain rfl := oi h
 exact rq [(sD (.fn 146 2 (k487 p s_)))] (.refl _)
noncomputable def R_plant_islands_r0 : LoopRec := ⟨[22], cAt ([1, 1, 0, 1, 0] ++ [0]) (bodyOf Try.f70), cAt ([1, 1, 0, 1, 0] ++ [1]) (bodyOf Try.f70), 125, []⟩
section
variable (g : Groups_int_)
abbrev k489 : Ob := (mpD 3 3 false false 1 1 (intC .i64) (intC .i64) g.head)
abbrev k488 : List (Nat × Option Ob) := [(0, some (k489 g))]
end
def m_plant_groups_of_v1_R (g : Groups_int_) : Int → Exit → St → Prop :=
  fun r => RetQ TT [.tmp 4] (vI r) (k488 g)
section
variable (g : Groups_int_) (x1 : Int)
abbrev k491 : List (Nat × Option Ob) := [(0, some (k489 g)), (2, some (.cells 215 [(.mp 0)]))]
abbrev k490 : St := ⟨[(1, (vI x1)), (2, (vP 2 0))], (k491 g)⟩
end
def m_plant_groups_of_v1_S0 (g : Groups_int_) : Int → St :=
  fun x1 => (k490 g x1)
def m_plant_groups_of_v1_B0  : Unit → St :=
  fun _ => ⟨[], []⟩
def m_plant_groups_of_v1_Q0 (g : Groups_int_) : (Flow Int (Ex Unit Int)) → Exit → St → Prop :=
  LQ 0 [] (m_plant_groups_of_v1_S0 g) m_plant_groups_of_v1_B0 (m_plant_groups_of_v1_R g)
theorem m_plant_groups_of_v1_ok (g : Groups_int_) (x : Int) {r : Int} (h : m_plant_groups_of_v1 g x = some r) : Fn Try.prog 117 [(.agg [(.mp 0)]), (sI x)] (k488 g) (vI r) (k488 g) := by
 refine fN tT Try.func117 rfl rfl fun B => ?_
 show AWp _ _ _ _ _ _ ((m_plant_groups_of_v1_R g) r) _
 unfold m_plant_groups_of_v1 at h
 refine sz tT (k490 g x) { fr := [(0, 2)] } [] ?_
 refine bE h fun y hy h => ?_
 refine aL [] (m_plant_groups_of_v1_S0 g) m_plant_groups_of_v1_B0 (m_plant_groups_of_v1_R g) hy (fun s f h => ?_) ?_
 ·clear hy
  show AWp _ _ _ _ _ _ ((m_plant_groups_of_v1_Q0 g) f) _
  unfold m_plant_groups_of_v1_L0 at h
  obtain ⟨x1, rfl⟩ : ∃ q, q = s := ⟨_, rfl⟩
  refine aB (sg tT ⟨[(1, (vI x1)), (2, (vP 2 0)), (5, (vI ((mget eqI x1 g.head).getD 0))), (6, (vB ((mget eqI x1 g.head).isSome)))], (k491 g)⟩ [LookAt [some .i64] 1 1 g.head.length (kOf (intC .i64) g.head) (vOf (intC .i64) g.head) [(.int .i64 x1)] [(.d (.int .i64 0))] (mget eqI x1 g.head).isSome [(cI ((mget eqI x1 g.head).getD 0))]] { an := [(3, .look (mget eqI x1 g.head).isSome [(cI ((mget eqI x1 g.head).getD 0))])] } [] ⟨(lookAt_of (fun _ => rfl) (fun _ _ => rfl) g.head x1 0 rfl rfl rfl), trivial⟩ ?_)
  refine aQ (sz tT ⟨[(1, (vI x1)), (2, (vP 2 0)), (5, (vI ((mget eqI x1 g.head).getD 0))), (15, (vB (!((mget eqI x1 g.head).isSome))))], (k491 g)⟩ {} [] ?_)
  refine bI h (fun hb h => ?_) (fun hb h => ?_)
  ·refine ct hb ?_
   refine sz tT ⟨[(4, (vI x1))], (k488 g)⟩ {} [] ?_
   refine aR ?_
   obtain rfl := oi h
   exact lR ret_nn (ret_ne 0) av_ret (RetQ.mk (.inr rfl) (p := []) (l := [(sI x1)]) (by kernel_rfl) trivial (TLe.refl _) ⟨rfl, .refl _, trivial⟩)
  ·refine cf hb ?_
   refine aP (rz tT ⟨[(1, (vI ((mget eqI x1 g.head).getD 0))), (2, (vP 2 0))], (k491 g)⟩ {} [] ?_)
   obtain rfl := oi h
   exact lN (by kernel_rfl)
 ·clear hy
  cases y with
  | brk z => exact absurd h (by simp)
  | ret v =>
   obtain rfl := oi h
   unfold ExK
   intro e st hn ha hR
   cases e with
   | normal => exact absurd rfl hn
   | exit id => exact hR
   | goto l => exact hR
   | ret => exact hR
   | panic c => exact hR
   | outgrown => exact hR
def m_plant_groups_join_R  : (List (Int × Int)) → Exit → St → Prop :=
  fun r => RetQ TT [] (.tup []) [(0, some (mpD 3 3 false false 1 1 (intC .i64) (intC .i64) r))]
section
variable (a : Int) (b : Int) (g : Groups_int_)
abbrev k492 : St := ⟨[(1, (vI a)), (2, (vI b)), (3, (vP 2 0))], (k491 g)⟩
end
theorem m_plant_groups_join_ok (g : Groups_int_) (a : Int) (b : Int) {r : (List (Int × Int))} (h : m_plant_groups_join g a b = some r) : Fn Try.prog 116 [(.agg [(.mp 0)]), (sI a), (sI b)] (k488 g) (.tup []) [(0, some (mpD 3 3 false false 1 1 (intC .i64) (intC .i64) r))] := by
 refine fN tT Try.func116 rfl rfl fun B => ?_
 show AWp _ _ _ _ _ _ (m_plant_groups_join_R r) _
 unfold m_plant_groups_join at h
 refine sz tT (k492 a b g) { fr := [(0, 2)] } [] ?_
 refine aQ (bE h fun r_ hr_ h => ?_)
 refine bE h fun u0 hr_1 h => ?_
 have q0 := m_plant_groups_of_v1_ok g a hr_
 have q1 := m_plant_groups_of_v1_ok g b hr_1
 refine dg tT mX (k492 r_ u0 g) [_, _] { an := [(2, cR q0 [0]), (5, cR q1 [0])] } [] ⟨q0, q1, trivial⟩ ?_
 refine sz tT ⟨[(1, (vI r_)), (2, (vI u0)), (3, (vP 2 0)), (14, (vB (!decide (r_ = u0))))], (k491 g)⟩ {} [] ?_
 refine bI h (fun hb h => ?_) (fun hb h => ?_)
 ·refine ct hb ?_
  refine rg tT ⟨[], [(0, some (mpD 3 3 false false 1 1 (intC .i64) (intC .i64) (mset eqI r_ u0 g.head)))]⟩ [SetAt [some .i64] 1 1 g.head.length (kOf (intC .i64) g.head) (vOf (intC .i64) g.head) [(.int .i64 r_)] [(cI u0)] [] (mset eqI r_ u0 g.head).length (kOf (intC .i64) (mset eqI r_ u0 g.head)) (vOf (intC .i64) (mset eqI r_ u0 g.head))] { an := [(4, .map (mset eqI r_ u0 g.head).length (kOf (intC .i64) (mset eqI r_ u0 g.head)) (vOf (intC .i64) (mset eqI r_ u0 g.head)) [])] } [] ⟨(setAt_of (fun _ => rfl) (fun _ _ => rfl) g.head r_ u0 rfl rfl), trivial⟩ ?_
  obtain rfl := oi h
  exact RetQ.mk (.inl rfl) (p := []) (l := []) (by kernel_rfl) trivial (TLe.refl _) ⟨rfl, .refl _, trivial⟩
 ·refine cf hb ?_
  refine aI (fz ⟨[], (k488 g)⟩ []) ?_
  refine aP ?_
  obtain rfl := oi h
  exact RetQ.mk (.inl rfl) (p := []) (l := []) (by kernel_rfl) trivial (TLe.refl _) ⟨rfl, .refl _, trivial⟩
abbrev k493 : Nat × Option Ob := (0, some (.loop R_plant_islands_r0 0 [(5, (vP 1 0))]))
abbrev k494 : Nat × Option Ob := (1, some (.cells 215 [(.mp 2)]))
def m_plant_islands_r0_Y_R  : Groups_int_ → Exit → St → Prop :=
  fun r => RoundQ 0 R_plant_islands_r0 (vB true) [k493, k494, (2, some (mpD 3 3 false false 1 1 (intC .i64) (intC .i64) r.head))]
section
variable (o_ : Groups_int_) (u0 : Int) (u1 : Int) (u2 : Int) (u3 : Int) (u4 : Int) (u5 : (List Trip))
abbrev k495 : List (Nat × Option Ob) := [k493, k494, (2, some (k489 o_))]
abbrev k496 : List (Nat × TV) := [(5, (vP 1 0)), (6, (vD (ipT [(.int .i64 u0), (.int .i64 u1), (.int .i64 u2), (.int .i64 u3), (.int .i64 u4), (slD none 2 Trip.cell u5)] 0)))]
end
theorem m_plant_islands_r0_Y_ok (u0 : Int) (u1 : Int) (u2 : Int) (u3 : Int) (u4 : Int) (u5 : (List Trip)) (o_ : Groups_int_) {r : Groups_int_} (h : m_plant_islands_r0_Y u0 u1 u2 u3 u4 u5 o_ = some r) : Yl Try.prog 0 [(.agg [(cI u0), (cI u1), (cI u2), (cI u3), (cI u4), (.d (slD none 2 Trip.cell u5))])] (k495 o_) (vB true) [k493, k494, (2, some (mpD 3 3 false false 1 1 (intC .i64) (intC .i64) r.head))] := by
 refine yl_intro (r := R_plant_islands_r0) (sl := [(5, (vP 1 0))]) (sl1 := (k496 u0 u1 u2 u3 u4 u5)) (h1 := (k495 o_)) (sl2 := [(5, (vP 1 0))]) (by kernel_rfl) rfl rfl (by kernel_rfl) (fun rd B => ?_) (by kernel_rfl) (fun rd B => ?_)
 ·refine awp_code (c := cAt ([1, 1, 0, 1, 0] ++ [0]) (bodyOf Try.f70)) rfl ?_
  refine awp_start (st := ⟨[(22, (.v (.agg [(cI u0), (cI u1), (cI u2), (cI u3), (cI u4), (.d (slD none 2 Trip.cell u5))]))), (5, (vP 1 0))], (k495 o_)⟩) (by kernel_rfl) ?_
  refine rz tT ⟨(k496 u0 u1 u2 u3 u4 u5), (k495 o_)⟩ { fr := [(0, 4)] } [4] ?_
  exact ⟨rfl, rfl⟩
 ·refine awp_code (c := cAt ([1, 1, 0, 1, 0] ++ [1]) (bodyOf Try.f70)) rfl ?_
  refine awp_start (st := ⟨(k496 u0 u1 u2 u3 u4 u5), [(0, some (.loop R_plant_islands_r0 1 [(5, (vP 1 0))])), k494, (2, some (k489 o_))]⟩) (by kernel_rfl) ?_
  show AWp _ _ _ _ _ _ (m_plant_islands_r0_Y_R r) _
  unfold m_plant_islands_r0_Y at h
  refine aB (bE h fun r_ hr_ h => ?_)
  have q0 := rk [(0, 2)] (m_plant_groups_join_ok o_ u0 u1 hr_)
  refine rg tT ⟨[], [(0, some (.loop R_plant_islands_r0 1 [(5, (vP 1 0))])), k494, (k282 r_)]⟩ [_] { an := [(5, cA q0 [2])] } [] ⟨q0, trivial⟩ ?_
  obtain rfl := oi h
  exact RoundQ.on (sl := [(5, (vP 1 0))]) (by kernel_rfl) (hpLe_of (by kernel_rfl)) (TLe.refl _)
def m_plant_conducting_1_R  : Groups_int_ → Exit → St → Prop :=
  fun r => RetQ TT [] (.tup []) [k493, k494, (2, some (mpD 3 3 false false 1 1 (intC .i64) (intC .i64) r.head))]
section
variable (u0 : (List Link)) (u7 : (List (Int × Int)))
abbrev k497 : Nat × TV := (7, (vD (slD none 6 Link.cell u0)))
abbrev k498 : Nat × TV := (8, (vI (u0.length : Int)))
abbrev k499 : List (Nat × Option Ob) := [k493, k494, (k282 u7)]
end
def m_plant_conducting_1_S0 (u0 : (List Link)) (x2 : (List Bool)) (u1 : (List Bool)) (u2 : (List Bool)) (u3 : (List Bool)) (u4 : (List Bool)) (u5 : (List Bool)) (u6 : (List Bool)) : ((List (Int × Int)) × Int) → St :=
  fun zz => match zz with | (u7, t9) => ⟨[k316, (k115 x2 u1 u2 u3 u4 u5 u6), (k497 u0), (k498 u0), (9, (vI t9))], (k499 u7)⟩
def m_plant_conducting_1_B0  : (List (Int × Int)) → St :=
  fun o501 => ⟨[], [k493, k494, (2, some (mpD 3 3 false false 1 1 (intC .i64) (intC .i64) o501))]⟩
def m_plant_conducting_1_Q0 (u0 : (List Link)) (x2 : (List Bool)) (u1 : (List Bool)) (u2 : (List Bool)) (u3 : (List Bool)) (u4 : (List Bool)) (u5 : (List Bool)) (u6 : (List Bool)) : (Flow ((List (Int × Int)) × Int) (Ex (List (Int × Int)) Groups_int_)) → Exit → St → Prop :=
  LQ 0 [] (m_plant_conducting_1_S0 u0 x2 u1 u2 u3 u4 u5 u6) m_plant_conducting_1_B0 m_plant_conducting_1_R
section
variable (x2 : (List Bool)) (t9 : Int) (u1 : (List Bool)) (u2 : (List Bool)) (u0 : (List Link)) (u3 : (List Bool)) (u4 : (List Bool)) (u5 : (List Bool)) (u6 : (List Bool))
abbrev k502 := (bif (at' x2 t9.toNat) then (!(at' u1 t9.toNat)) else false)
abbrev k501 := (bif (k502 x2 t9 u1) then (!(at' u2 (((at' u0 t9.toNat).a).toNat))) else false)
abbrev k500 := (bif (k501 x2 t9 u1 u2 u0) then (!(at' u2 (((at' u0 t9.toNat).b).toNat))) else false)
abbrev k503 := (ybf [(5, (at' x2 t9.toNat)), (13, (k502 x2 t9 u1)), (22, (k501 x2 t9 u1 u2 u0)), (31, true)])
abbrev k504 : List (Nat × TV) := [k316, (k115 x2 u3 u1 u4 u5 u6 u2), (k497 u0), (k498 u0), (9, (k30 t9))]
abbrev k505 := (ybf [(5, (at' x2 t9.toNat)), (13, (k502 x2 t9 u1)), (22, (k501 x2 t9 u1 u2 u0)), (31, false)])
end
theorem m_plant_conducting_1_ok (x1 : Int) (u8 : (List Source)) (u0 : (List Link)) (u9 : (List Rack)) (x2 : (List Bool)) (u3 : (List Bool)) (u1 : (List Bool)) (u4 : (List Bool)) (u5 : (List Bool)) (u6 : (List Bool)) (u2 : (List Bool)) (o_ : Groups_int_) {r : Groups_int_} (h : m_plant_conducting_1 x1 u8 u0 u9 x2 u3 u1 u4 u5 u6 u2 o_ = some r) : Fn Try.prog 146 [(.one (.yl 0)), (sD (k10 x1 u8 u0 u9)), (sD (k116 x2 u3 u1 u4 u5 u6 u2))] (k495 o_) (.tup []) [k493, k494, (2, some (mpD 3 3 false false 1 1 (intC .i64) (intC .i64) r.head))] := by
 refine fN tT Try.func146 rfl rfl fun B => ?_
 show AWp _ _ _ _ _ _ (m_plant_conducting_1_R r) _
 unfold m_plant_conducting_1 at h
 refine sz tT ⟨[k316, (k115 x2 u3 u1 u4 u5 u6 u2), (k497 u0), (k498 u0), (9, (vI 0))], (k495 o_)⟩ {} [] ?_
 refine bE h fun y hy h => ?_
 refine aL [] (m_plant_conducting_1_S0 u0 x2 u3 u1 u4 u5 u6 u2) m_plant_conducting_1_B0 m_plant_conducting_1_R hy (fun s f h => ?_) ?_
 ·clear hy
  show AWp _ _ _ _ _ _ ((m_plant_conducting_1_Q0 u0 x2 u3 u1 u4 u5 u6 u2) f) _
  unfold m_plant_conducting_1_L0 at h
  obtain ⟨u7, t9⟩ := s
  refine sz tT ⟨[k316, (k115 x2 u3 u1 u4 u5 u6 u2), (k497 u0), (k498 u0), (9, (vI t9)), (10, (vB (decide (t9 < (u0.length : Int)))))], (k499 u7)⟩ {} [] ?_
  refine aQ ?_
  refine bI h (fun hb2 h => ?_) (fun hb2 h => ?_)
  ·refine ct hb2 ?_
   refine aP (aQ (aB (aQ (aO h fun a1 h => ?_))))
   refine rg tT ⟨[k316, (k115 x2 u3 u1 u4 u5 u6 u2), (4, (vI t9)), (5, (vD (ipT [(.int .i64 ((at' u0 t9.toNat).a)), (.int .i64 ((at' u0 t9.toNat).b)), (.int .i64 ((at' u0 t9.toNat).kind)), (.int .i64 ((at' u0 t9.toNat).most)), (.int .i64 ((at' u0 t9.toNat).ohm)), (slD none 2 Trip.cell ((at' u0 t9.toNat).trip))] 0))), (k497 u0), (k498 u0), (9, (vI t9))], (k499 u7)⟩ [_] { fr := [(3, 10)] } [10] ⟨a1, trivial⟩ ?_
   refine aQ ?_
   refine bI h (fun hb h => ?_) (fun hb h => ?_)
   ·skip
    refine bE h fun r_ hr_ h => ?_
    refine aO h fun ⟨a1, a2, a3, a4⟩ h => ?_
    refine ri tT ⟨[k316, (k115 x2 u3 u1 u4 u5 u6 u2), (k497 u0), (k498 u0), (9, (vI t9)), (50, (vB (bif (k500 x2 t9 u1 u2 u0) then (!true) else false)))], (k495 r_)⟩ (_ :: (eqs (at' x2 t9.toNat) 4 ((gP (k503 x2 t9 u1 u2 u0) [(5, true)] → All [(0 : Int) ≤ t9 ∧ t9 < (u1.length : Int)]) :: (eqs (at' x2 t9.toNat) 3 (eqs (k502 x2 t9 u1) 5 ((gP (k503 x2 t9 u1 u2 u0) [(13, true)] → All [(0 : Int) ≤ (at' u0 t9.toNat).a ∧ (at' u0 t9.toNat).a < (u2.length : Int)]) :: (eqs (k502 x2 t9 u1) 3 (eqs (k501 x2 t9 u1 u2 u0) 5 ((gP (k503 x2 t9 u1 u2 u0) [(22, true)] → All [(0 : Int) ≤ (at' u0 t9.toNat).b ∧ (at' u0 t9.toNat).b < (u2.length : Int)]) :: (eqs (k501 x2 t9 u1 u2 u0) 3 [(k500 x2 t9 u1 u2 u0) = true, (k500 x2 t9 u1 u2 u0) = true, (k500 x2 t9 u1 u2 u0) = true, gP (k503 x2 t9 u1 u2 u0) [(31, true)] → All [Yl Try.prog 0 [(.agg [(cI ((at' u0 t9.toNat).a)), (cI ((at' u0 t9.toNat).b)), (cI ((at' u0 t9.toNat).kind)), (cI ((at' u0 t9.toNat).most)), (cI ((at' u0 t9.toNat).ohm)), (.d (slD none 2 Trip.cell ((at' u0 t9.toNat).trip)))])] (k499 u7) (vB true) (k495 r_)], gP (k503 x2 t9 u1 u2 u0) [(31, true)], (k500 x2 t9 u1 u2 u0) = true, (k500 x2 t9 u1 u2 u0) = true])))))))))) { yb := [(5, (at' x2 t9.toNat)), (13, (k502 x2 t9 u1)), (22, (k501 x2 t9 u1 u2 u0)), (31, true)], an := [(34, .call [0, 1, 2] (vB true) (k495 r_))] } [] ⟨a1, (ae ⟨(fun hg => ⟨(a2 (gB_of hg)), trivial⟩), (ae (ae ⟨(fun hg => ⟨(a3 (gB_of hg)), trivial⟩), (ae (ae ⟨(fun hg => ⟨(a4 (gB_of hg)), trivial⟩), (ae ⟨(hb), (hb), (hb), (fun hg => ⟨(m_plant_islands_r0_Y_ok ((at' u0 t9.toNat).a) ((at' u0 t9.toNat).b) ((at' u0 t9.toNat).kind) ((at' u0 t9.toNat).most) ((at' u0 t9.toNat).ohm) ((at' u0 t9.toNat).trip) (⟨u7⟩ : Groups_int_) hr_), trivial⟩), (⟨rfl, trivial⟩), (hb), (hb), trivial⟩)⟩))⟩))⟩)⟩ (Imp.le (st' := ⟨[k316, (k115 x2 u3 u1 u4 u5 u6 u2), (k497 u0), (k498 u0), (9, (vI t9)), (50, (vB (!true)))], (k495 r_)⟩) ⟨⟨tR, tR, tR, tR, tR, ⟨_, rfl, TLe.v (SLe.one (CLe.of (congrArg (fun b => CV.d (.bool b)) (bifT hb))))⟩, trivial⟩, ⟨rfl, .refl _, ⟨rfl, .refl _, ⟨rfl, .refl _, trivial⟩⟩⟩⟩) ?_
    refine bI h (fun hb1 h => ?_) (fun hb1 h => ?_)
    ·refine ct hb1 ?_
     refine aI (fz ⟨[], (k495 r_)⟩ []) ?_
     refine aR ?_
     obtain rfl := oi h
     exact lR ret_nn (ret_ne 0) av_ret (RetQ.mk (.inr rfl) (p := []) (l := []) (by kernel_rfl) trivial (TLe.refl _) ⟨rfl, .refl _, ⟨rfl, .refl _, ⟨rfl, .refl _, trivial⟩⟩⟩)
    ·refine cf hb1 ?_
     refine aP (rz tT ⟨(k504 x2 t9 u1 u2 u0 u3 u4 u5 u6), (k495 r_)⟩ {} [] ?_)
     obtain rfl := oi h
     exact lN (by kernel_rfl)
   ·skip
    refine aO h fun ⟨a1, a2, a3, a4⟩ h => ?_
    refine ri tT ⟨[k316, (k115 x2 u3 u1 u4 u5 u6 u2), (k497 u0), (k498 u0), (9, (vI t9)), (50, (vB (bif (k500 x2 t9 u1 u2 u0) then false else false)))], (k499 u7)⟩ (_ :: (eqs (at' x2 t9.toNat) 4 ((gP (k505 x2 t9 u1 u2 u0) [(5, true)] → All [(0 : Int) ≤ t9 ∧ t9 < (u1.length : Int)]) :: (eqs (at' x2 t9.toNat) 3 (eqs (k502 x2 t9 u1) 5 ((gP (k505 x2 t9 u1 u2 u0) [(13, true)] → All [(0 : Int) ≤ (at' u0 t9.toNat).a ∧ (at' u0 t9.toNat).a < (u2.length : Int)]) :: (eqs (k502 x2 t9 u1) 3 (eqs (k501 x2 t9 u1 u2 u0) 5 ((gP (k505 x2 t9 u1 u2 u0) [(22, true)] → All [(0 : Int) ≤ (at' u0 t9.toNat).b ∧ (at' u0 t9.toNat).b < (u2.length : Int)]) :: (eqs (k501 x2 t9 u1 u2 u0) 3 [(k500 x2 t9 u1 u2 u0) = false, ¬ gP (k505 x2 t9 u1 u2 u0) [(31, true)], (k500 x2 t9 u1 u2 u0) = false, ¬ gP (k505 x2 t9 u1 u2 u0) [(31, true)], (k500 x2 t9 u1 u2 u0) = false, ¬ gP (k505 x2 t9 u1 u2 u0) [(31, true)], (k500 x2 t9 u1 u2 u0) = false, ¬ gP (k505 x2 t9 u1 u2 u0) [(31, true)], (k500 x2 t9 u1 u2 u0) = false])))))))))) { yb := [(5, (at' x2 t9.toNat)), (13, (k502 x2 t9 u1)), (22, (k501 x2 t9 u1 u2 u0)), (31, false)], an := [(32, .skip), (33, .skip), (34, .skip), (35, .skip)] } [] ⟨a1, (ae ⟨(fun hg => ⟨(a2 (gB_of hg)), trivial⟩), (ae (ae ⟨(fun hg => ⟨(a3 (gB_of hg)), trivial⟩), (ae (ae ⟨(fun hg => ⟨(a4 (gB_of hg)), trivial⟩), (ae ⟨(hb), ((fun h => Bool.noConfusion (show false = true from h.1))), (hb), ((fun h => Bool.noConfusion (show false = true from h.1))), (hb), ((fun h => Bool.noConfusion (show false = true from h.1))), (hb), ((fun h => Bool.noConfusion (show false = true from h.1))), (hb), trivial⟩)⟩))⟩))⟩)⟩ (Imp.le (st' := ⟨[k316, (k115 x2 u3 u1 u4 u5 u6 u2), (k497 u0), (k498 u0), (9, (vI t9)), (50, (vB false))], (k499 u7)⟩) ⟨⟨tR, tR, tR, tR, tR, ⟨_, rfl, TLe.v (SLe.one (CLe.of (congrArg (fun b => CV.d (.bool b)) (bifF hb))))⟩, trivial⟩, ⟨rfl, .refl _, ⟨rfl, .refl _, ⟨rfl, .refl _, trivial⟩⟩⟩⟩) ?_
    refine cn (aP (rz tT ⟨(k504 x2 t9 u1 u2 u0 u3 u4 u5 u6), (k499 u7)⟩ {} [] ?_))
    obtain rfl := oi h
    exact lN (by kernel_rfl)
  ·refine cf hb2 ?_
   refine aI (fz ⟨[], (k499 u7)⟩ []) ?_
   refine aX ?_
   obtain rfl := oi h
   exact lB (by kernel_rfl)
 ·clear hy
  cases y with
  | brk z =>
   obtain ⟨o501, rfl⟩ : ∃ q, q = z := ⟨_, rfl⟩
   unfold ExK
   refine ⟨_, .refl, ?_⟩
   obtain rfl := oi h
   exact RetQ.mk (.inl rfl) (p := []) (l := []) (by kernel_rfl) trivial (TLe.refl _) ⟨rfl, .refl _, ⟨rfl, .refl _, ⟨rfl, .refl _, trivial⟩⟩⟩
  | ret v =>
   obtain rfl := oi h
   unfold ExK
   intro e st hn ha hR
   cases e with
   | normal => exact absurd rfl hn
   | exit id => exact hR
   | goto l => exact hR
   | ret => exact hR
   | panic c => exact hR
   | outgrown => exact hR
def m_plant_islands_v1_R  : (List Island) → Exit → St → Prop :=
  fun r => RetQ TT [.tmp 4] (vD (slD none 2 Island.cell r)) []
section
variable (u0 : (List Island)) (s_ : State) (p : Plant) (u3 : Int) (u1 : Groups_int_) (u2 : (List (Int × Int)))
abbrev k507 : Nat × TV := (7, (vO 60 false u0.length))
abbrev k508 : Nat × TV := (8, (.v (.one (.mp 61))))
abbrev k506 : List (Nat × TV) := [(2, (vP 55 0)), (k72 s_), (5, (vP 58 0)), (k507 u0), k508, (31, (vI p.buses)), (32, (vI u3))]
abbrev k510 : Nat × Option Ob := (55, some (k93 p))
abbrev k511 : Nat × Option Ob := (57, some (k489 u1))
abbrev k512 : Nat × Option Ob := (58, some (.cells 215 [(.mp 57)]))
abbrev k513 : Nat × Option Ob := (60, some (.rows 123 2 u0.length (evOf Island.ev u0) none))
abbrev k514 : Nat × Option Ob := (61, some (k283 u2))
abbrev k509 : List (Nat × Option Ob) := [(k510 p), (k511 u1), k512, (k513 u0), (k514 u2)]
end
def m_plant_islands_v1_S0 (p : Plant) (s_ : State) (u1 : Groups_int_) : ((List Island) × (List (Int × Int)) × Int) → St :=
  fun zz => match zz with | (u0, u2, u3) => ⟨(k506 u0 s_ p u3), (k509 u0 p u1 u2)⟩
section
variable (s_ : State) (u0 : (List Island)) (p : Plant) (u1 : Groups_int_) (u2 : (List (Int × Int)))
abbrev k515 : St := ⟨[(2, (vP 55 0)), (k72 s_), (5, (vP 58 0)), (k507 u0), k508], (k509 u0 p u1 u2)⟩
end
def m_plant_islands_v1_B0 (p : Plant) (s_ : State) (u1 : Groups_int_) : ((List Island) × (List (Int × Int))) → St :=
  fun zz => match zz with | (u0, u2) => (k515 s_ u0 p u1 u2)
def m_plant_islands_v1_Q0 (p : Plant) (s_ : State) (u0 : Groups_int_) : (Flow ((List Island) × (List (Int × Int)) × Int) (Ex ((List Island) × (List (Int × Int))) (List Island))) → Exit → St → Prop :=
  LQ 2 [] (m_plant_islands_v1_S0 p s_ u0) (m_plant_islands_v1_B0 p s_ u0) m_plant_islands_v1_R
section
variable (p : Plant) (s_ : State) (u0 : (List Island)) (u3 : Int) (u1 : Groups_int_) (u2 : (List (Int × Int)))
abbrev k517 : Nat × TV := (76, (vD (k2 p)))
abbrev k518 : Nat × TV := (77, (vI (p.sources.length : Int)))
abbrev k516 : List (Nat × TV) := [(k72 s_), (5, (vP 58 0)), (k507 u0), k508, (k517 p), (k518 p), (78, (vI u3))]
abbrev k519 : List (Nat × Option Ob) := [(k511 u1), k512, (k513 u0), (k514 u2)]
end
def m_plant_islands_v1_S1 (p : Plant) (s_ : State) (u1 : Groups_int_) (u2 : (List (Int × Int))) : ((List Island) × Int) → St :=
  fun zz => match zz with | (u0, u3) => ⟨(k516 p s_ u0 u3), (k519 u0 u1 u2)⟩
section
variable (u0 : (List Island))
abbrev k520 : St := ⟨[(k507 u0)], [(k513 u0)]⟩
end
def m_plant_islands_v1_B1  : (List Island) → St :=
  fun u0 => (k520 u0)
def m_plant_islands_v1_Q1 (p : Plant) (s_ : State) (u0 : Groups_int_) (u1 : (List (Int × Int))) : (Flow ((List Island) × Int) (Ex (List Island) (List Island))) → Exit → St → Prop :=
  LQ 4 [] (m_plant_islands_v1_S1 p s_ u0 u1) m_plant_islands_v1_B1 m_plant_islands_v1_R
section
variable (p : Plant) (r_ : (Int × (List Source) × (List Link) × (List Rack) × (List Bool) × (List Bool) × (List Bool) × (List Bool) × (List Bool) × (List Bool) × (List Bool))) (s_ : State) (u8 : Groups_int_) (u3 : Int) (u0 : (List Island)) (u1 : Int) (u2 : (List (Int × Int))) (u5 : Int) (u6 : (List Island)) (u7 : Int) (u4 : (List (Int × Int)))
abbrev k522 : Nat × Option Ob := (57, some k438)
abbrev k521 : List (Nat × Option Ob) := [(k510 p), k522, k512]
abbrev k525 : DV := (ipT [(.int .i64 r_.1), (slD none 5 Source.cell r_.2.1), (slD none 6 Link.cell r_.2.2.1), (slD none 4 Rack.cell r_.2.2.2.1)] 0)
abbrev k526 : DV := (ipT [(slD none 1 boolC r_.2.2.2.2.1), (slD none 1 boolC r_.2.2.2.2.2.1), (slD none 1 boolC r_.2.2.2.2.2.2.1), (slD none 1 boolC r_.2.2.2.2.2.2.2.1), (slD none 1 boolC r_.2.2.2.2.2.2.2.2.1), (slD none 1 boolC r_.2.2.2.2.2.2.2.2.2.1), (slD none 1 boolC r_.2.2.2.2.2.2.2.2.2.2)] 0)
abbrev k524 : TV := (vD (.fn 146 2 (capF [(k525 r_), (k526 r_)])))
abbrev k523 : List (Nat × TV) := [(2, (vP 55 0)), (k72 s_), (5, (vP 58 0)), (21, (k524 r_))]
abbrev k527 : List (Nat × Option Ob) := [(k510 p), (k511 u8), k512]
abbrev k528 : Nat × Option Ob := (60, some (.rows 123 2 ([] : List Island).length (evOf Island.ev ([] : List Island)) none))
abbrev k530 : Nat × Option Ob := (61, some k438)
abbrev k529 : List (Nat × Option Ob) := [(k510 p), (k511 u8), k512, k528, k530]
abbrev k531 : Nat × TV := (32, (k30 u3))
abbrev k532 : List (Nat × TV) := [(2, (vP 55 0)), (k72 s_), (5, (vP 58 0)), (k507 u0), k508, (9, (vI u3)), (10, (vI u1)), (31, (vI p.buses)), (32, (vI u3))]
abbrev k534 := ((mget eqI u1 u2).getD 0)
abbrev k533 : List CV := [(cI (k534 u1 u2))]
abbrev k536 := (mset eqI u1 (u0.length : Int) u2)
abbrev k535 : Nat × Option Ob := (61, some (mpD 3 3 false false 1 1 (intC .i64) (intC .i64) (k536 u0 u1 u2)))
abbrev k537 := (kOf (intC .i64) (k536 u0 u1 u2))
abbrev k538 := (vOf (intC .i64) (k536 u0 u1 u2))
abbrev k540 := (u0 ++ [(⟨([] : List Int), ([] : List Int)⟩ : Island)])
abbrev k539 : Nat × TV := (7, (vO 87 false ((k540 u0).length)))
abbrev k542 := (evOf Island.ev (k540 u0))
abbrev k541 : List (Nat × Option Ob) := [(k510 p), (k511 u8), k512, (k535 u0 u1 u2), (87, some (.rows 123 2 (k540 u0).length (k542 u0) none))]
abbrev k544 := (mget eqI u1 (k536 u0 u1 u2))
abbrev k543 := ((k544 u0 u1 u2).getD 0)
abbrev k545 : List CV := [(cI (k543 u0 u1 u2))]
abbrev k548 := ((k543 u0 u1 u2).toNat)
abbrev k551 := (at' (k540 u0) (k548 u0 u1 u2))
abbrev k550 := ((k551 u0 u1 u2).buses)
abbrev k549 := ((k550 u0 u1 u2) ++ [u3])
abbrev k547 := ((k540 u0).set (k548 u0 u1 u2) (⟨(k549 u3 u0 u1 u2), (k551 u0 u1 u2).sources⟩ : Island))
abbrev k546 := (evOf Island.ev (k547 u3 u0 u1 u2))
abbrev k552 := ((k540 u0).length : Int)
abbrev k553 := ((k550 u0 u1 u2).length + [u3].length)
abbrev k554 := (apEl (elOf (intC .i64) (k550 u0 u1 u2)) (k550 u0 u1 u2).length (elOf (intC .i64) [u3]))
abbrev k555 := (elOf (intC .i64) (k549 u3 u0 u1 u2))
abbrev k556 := (stV (k542 u0) (k548 u0 u1 u2) 0 (.row 3 1 (k549 u3 u0 u1 u2).length (k555 u3 u0 u1 u2)))
abbrev k558 := ((k547 u3 u0 u1 u2).length)
abbrev k557 : Nat × TV := (7, (vO 87 false (k558 u3 u0 u1 u2)))
abbrev k559 : List (Nat × Option Ob) := [(k510 p), (k511 u8), k512, (k535 u0 u1 u2), (87, some (.rows 123 2 (k547 u3 u0 u1 u2).length (k546 u3 u0 u1 u2) none))]
abbrev k563 := ((at' u0 ((k534 u1 u2).toNat)).buses)
abbrev k562 := ((k563 u0 u1 u2) ++ [u3])
abbrev k561 := (u0.set ((k534 u1 u2).toNat) (⟨(k562 u3 u0 u1 u2), (at' u0 ((k534 u1 u2).toNat)).sources⟩ : Island))
abbrev k560 := (evOf Island.ev (k561 u3 u0 u1 u2))
abbrev k564 := ((k563 u0 u1 u2).length + [u3].length)
abbrev k565 := (apEl (elOf (intC .i64) (k563 u0 u1 u2)) (k563 u0 u1 u2).length (elOf (intC .i64) [u3]))
abbrev k566 := (elOf (intC .i64) (k562 u3 u0 u1 u2))
abbrev k567 := (stV (evOf Island.ev u0) ((k534 u1 u2).toNat) 0 (.row 3 1 (k562 u3 u0 u1 u2).length (k566 u3 u0 u1 u2)))
abbrev k569 := ((k561 u3 u0 u1 u2).length)
abbrev k568 : Nat × TV := (7, (vO 60 false (k569 u3 u0 u1 u2)))
abbrev k570 : List (Nat × Option Ob) := [(k510 p), (k511 u8), k512, (60, some (.rows 123 2 (k561 u3 u0 u1 u2).length (k560 u3 u0 u1 u2) none)), (k514 u2)]
abbrev k571 : Nat × TV := (15, (k208 p u5))
abbrev k572 : Nat × TV := (104, (k121 p s_ u5))
abbrev k573 := (eqs (at' s_.on_ u5.toNat) 4 ((k125 s_ u5) :: (eqs (at' s_.on_ u5.toNat) 3 (eqs (k123 s_ u5) 5 (k127 p s_ u5)))))
abbrev k577 := ((at' u6 ((k534 u7 u4).toNat)).sources)
abbrev k576 := ((k577 u6 u7 u4) ++ [u5])
abbrev k575 := (u6.set ((k534 u7 u4).toNat) (⟨(at' u6 ((k534 u7 u4).toNat)).buses, (k576 u5 u6 u7 u4)⟩ : Island))
abbrev k574 := (evOf Island.ev (k575 u5 u6 u7 u4))
abbrev k578 := ((k577 u6 u7 u4).length + [u5].length)
abbrev k579 := (apEl (elOf (intC .i64) (k577 u6 u7 u4)) (k577 u6 u7 u4).length (elOf (intC .i64) [u5]))
abbrev k580 := (elOf (intC .i64) (k576 u5 u6 u7 u4))
abbrev k581 := (stV (evOf Island.ev u6) ((k534 u7 u4).toNat) 1 (.row 3 1 (k576 u5 u6 u7 u4).length (k580 u5 u6 u7 u4)))
abbrev k583 := ((k575 u5 u6 u7 u4).length)
abbrev k582 : Nat × TV := (7, (vO 60 false (k583 u5 u6 u7 u4)))
abbrev k584 : List (Nat × Option Ob) := [(k511 u8), k512, (60, some (.rows 123 2 (k575 u5 u6 u7 u4).length (k574 u5 u6 u7 u4) none)), (k514 u4)]
abbrev k585 : Nat × TV := (78, (k30 u5))
end
theorem m_plant_islands_v1_ok (p : Plant) (s_ : State) {r : (List Island)} (h : m_plant_islands p s_ = some r) : Fn Try.prog 70 (k97 s_ p) [] (vD (slD none 2 Island.cell r)) [] := by
 refine fN tT Try.func70 rfl rfl fun B => ?_
 show AWp _ _ _ _ _ _ (m_plant_islands_v1_R r) _
 unfold m_plant_islands at h
 refine sz tT ⟨[(2, (vP 55 0)), (k72 s_)], [(k510 p)]⟩ { fr := [(0, 55), (1, 56)] } [56] ?_
 refine sz tT ⟨[(2, (vP 55 0)), (k72 s_), (5, (vP 58 0))], (k521 p)⟩ { an := [(0, .map 0 (kOf (intC .i64) ([] : (List (Int × Int)))) (vOf (intC .i64) ([] : (List (Int × Int)))) [])], fr := [(0, 57), (2, 58)] } [] ?_
 refine aQ (aQ (bE h fun r_ hr_ h => ?_))
 have q0 := m_plant_conducting_ok p s_ hr_
 refine rg tT ⟨(k523 r_ s_), (k521 p)⟩ [_] { an := [(2, cA q0 [])] } [] ⟨q0, trivial⟩ ?_
 refine aB (bE h fun u8 hr_1 h => ?_)
 refine awp_rangeFuncI 59 [(5, (vP 58 0))] [] [59, 58, 57] (.tup []) [(59, some (.loop R_plant_islands_r0 0 [(5, (vP 58 0))])), k512, (k511 u8)] (k524 r_) 146 [] [(.d (k525 r_)), (.d (k526 r_))] [(59, some (.loop R_plant_islands_r0 0 [(5, (vP 58 0))])), k512, k522] [(.one (.yl 59)), (sD (k525 r_)), (sD (k526 r_))] R_plant_islands_r0 0 [(5, (vP 58 0))] (by kernel_rfl) (by kernel_rfl) (by kernel_rfl) (by kernel_rfl) (by kernel_rfl) (by kernel_rfl) (by kernel_rfl) (Fn.renK [(0, 59), (1, 58), (2, 57)] (m_plant_conducting_1_ok r_.1 r_.2.1 r_.2.2.1 r_.2.2.2.1 r_.2.2.2.2.1 r_.2.2.2.2.2.1 r_.2.2.2.2.2.2.1 r_.2.2.2.2.2.2.2.1 r_.2.2.2.2.2.2.2.2.1 r_.2.2.2.2.2.2.2.2.2.1 r_.2.2.2.2.2.2.2.2.2.2 (⟨([] : (List (Int × Int)))⟩ : Groups_int_) hr_1) (by kernel_rfl) (by kernel_rfl) (by kernel_rfl) (by kernel_rfl)) (by kernel_rfl) rfl (ExOf.zero rfl) (Imp.fin (st' := ⟨(k523 r_ s_), (k527 p u8)⟩) (cs := []) ⟨[], [(55, 55), (57, 57), (58, 58)]⟩ [2, 3, 5, 21] (by kernel_rfl) trivial) ?_
 refine si tT ⟨[(2, (vP 55 0)), (k72 s_), (5, (vP 58 0)), (7, (vD nS))], (k527 p u8)⟩ [] {} [] trivial (.trans (Imp.adoptR (t := 7) (b := 60) (esz0 := 0) (el0 := fun _ _ => .nilp) (E := 123) (esz := 2) (el := evOf Island.ev ([] : List Island)) (ov := none) (by kernel_rfl) (by kernel_rfl)) (.trans (fz ⟨[(2, (vP 55 0)), (k72 s_), (5, (vP 58 0)), (7, (vO 60 false 0))], [(k510 p), (k511 u8), k512, (60, some (.rows 123 2 0 (evOf Island.ev ([] : List Island)) none))]⟩ []) (Imp.le (st' := ⟨[(2, (vP 55 0)), (k72 s_), (5, (vP 58 0)), (7, (vO 60 false (([] : List Island).length)))], [(k510 p), (k511 u8), k512, k528]⟩) ⟨⟨tR, tR, tR, ⟨_, rfl, TLe.v (SLe.one cW)⟩, trivial⟩, ⟨rfl, .refl _, ⟨rfl, .refl _, ⟨rfl, .refl _, ⟨rfl, OLe_rows (by simp only [List.length_set, List.length_append, List.length_cons, List.length_nil, List.length_replicate]), trivial⟩⟩⟩⟩⟩))) ?_
 refine sz tT ⟨[(2, (vP 55 0)), (k72 s_), (5, (vP 58 0)), (7, (vO 60 false (([] : List Island).length))), k508], (k529 p u8)⟩ { an := [(0, .map 0 (kOf (intC .i64) ([] : (List (Int × Int)))) (vOf (intC .i64) ([] : (List (Int × Int)))) [])], fr := [(0, 61)] } [] ?_
 refine aQ (sz tT ⟨[(2, (vP 55 0)), (k72 s_), (5, (vP 58 0)), (7, (vO 60 false (([] : List Island).length))), k508, (31, (vI p.buses)), (32, (vI 0))], (k529 p u8)⟩ {} [] ?_)
 refine bE h fun y hy h => ?_
 refine aL [] (m_plant_islands_v1_S0 p s_ u8) (m_plant_islands_v1_B0 p s_ u8) m_plant_islands_v1_R hy (fun s f h => ?_) ?_
 ·clear hy
  show AWp _ _ _ _ _ _ ((m_plant_islands_v1_Q0 p s_ u8) f) _
  unfold m_plant_islands_L0 at h
  obtain ⟨u0, u2, u3⟩ := s
  refine sz tT ⟨[(2, (vP 55 0)), (k72 s_), (5, (vP 58 0)), (k507 u0), k508, (31, (vI p.buses)), (32, (vI u3)), (33, (vB (decide (u3 < p.buses))))], (k509 u0 p u8 u2)⟩ {} [] ?_
  refine aQ ?_
  refine bI h (fun hb2 h => ?_) (fun hb2 h => ?_)
  ·refine ct hb2 ?_
   refine aP (aQ (aB (sz tT ⟨[(2, (vP 55 0)), (k72 s_), (5, (vP 58 0)), (k507 u0), k508, (9, (vI u3)), (31, (vI p.buses)), (32, (vI u3))], (k509 u0 p u8 u2)⟩ {} [] ?_)))
   refine aQ (aQ (aO h fun a1 h => ?_))
   refine rg tT ⟨[(2, (vP 55 0)), (k72 s_), (5, (vP 58 0)), (k507 u0), k508, (9, (vI u3)), (31, (vI p.buses)), (32, (vI u3)), (39, (vB (at' s_.badBus u3.toNat)))], (k509 u0 p u8 u2)⟩ [_] {} [] ⟨a1, trivial⟩ ?_
   refine bI h (fun hb1 h => ?_) (fun hb1 h => ?_)
   ·refine ct hb1 ?_
    refine aX (rz tT ⟨[(2, (vP 55 0)), (k72 s_), (5, (vP 58 0)), (k507 u0), k508, (31, (vI p.buses)), (k531 u3)], (k509 u0 p u8 u2)⟩ {} [] ?_)
    obtain rfl := oi h
    exact lN (by kernel_rfl)
   ·refine cf hb1 ?_
    refine aP (aQ (bE h fun u1 hr_2 h => ?_))
    have q0 := rk [(0, 57)] (m_plant_groups_of_v1_ok u8 u3 hr_2)
    refine rg tT ⟨(k532 p s_ u3 u0 u1), (k509 u0 p u8 u2)⟩ [_] { an := [(2, cR q0 [57])] } [] ⟨q0, trivial⟩ ?_
    refine aQ (sg tT ⟨[(2, (vP 55 0)), (k72 s_), (5, (vP 58 0)), (k507 u0), k508, (9, (vI u3)), (10, (vI u1)), (12, (vB ((mget eqI u1 u2).isSome))), (31, (vI p.buses)), (32, (vI u3))], (k509 u0 p u8 u2)⟩ [LookAt [some .i64] 1 1 u2.length (kOf (intC .i64) u2) (vOf (intC .i64) u2) [(.int .i64 u1)] [(.d (.int .i64 0))] (mget eqI u1 u2).isSome (k533 u1 u2)] { an := [(2, .look (mget eqI u1 u2).isSome (k533 u1 u2))] } [] ⟨(lookAt_of (fun _ => rfl) (fun _ _ => rfl) u2 u1 0 rfl rfl rfl), trivial⟩ ?_)
    refine sz tT ⟨[(2, (vP 55 0)), (k72 s_), (5, (vP 58 0)), (k507 u0), k508, (9, (vI u3)), (10, (vI u1)), (31, (vI p.buses)), (32, (vI u3)), (50, (vB (!((mget eqI u1 u2).isSome))))], (k509 u0 p u8 u2)⟩ {} [] ?_
    refine bI h (fun hb h => ?_) (fun hb h => ?_)
    ·refine ct hb ?_
     refine sg tT ⟨(k532 p s_ u3 u0 u1), [(k510 p), (k511 u8), k512, (k513 u0), (k535 u0 u1 u2)]⟩ [SetAt [some .i64] 1 1 u2.length (kOf (intC .i64) u2) (vOf (intC .i64) u2) [(.int .i64 u1)] [(cI (u0.length : Int))] [] (k536 u0 u1 u2).length (k537 u0 u1 u2) (k538 u0 u1 u2)] { an := [(4, .map (k536 u0 u1 u2).length (k537 u0 u1 u2) (k538 u0 u1 u2) [])] } [] ⟨(setAt_of (fun _ => rfl) (fun _ _ => rfl) u2 u1 (u0.length : Int) rfl rfl), trivial⟩ ?_
     refine aO h fun ⟨a1, a2⟩ h => ?_
     refine rg tT ⟨[(2, (vP 55 0)), (k72 s_), (5, (vP 58 0)), (k539 u0), k508, (9, (vI u3)), (10, (vI u1)), (31, (vI p.buses)), (32, (vI u3))], (k541 p u8 u0 u1 u2)⟩ [[(⟨([] : List Int), ([] : List Int)⟩ : Island)].length = 1, ArrEq 1 2 (elL 2 [nS, nS]) (elL 2 [nS, nS]), u0.length = u0.length, _, _, (k540 u0).length = u0.length + [(⟨([] : List Int), ([] : List Int)⟩ : Island)].length, RowsApp u0.length [(⟨([] : List Int), ([] : List Int)⟩ : Island)].length 2 (evOf Island.ev u0) (elL 2 [nS, nS]) (k542 u0)] { an := [(2, .arr [(⟨([] : List Int), ([] : List Int)⟩ : Island)].length (elL 2 [nS, nS])), (3, .rows (k540 u0).length (k542 u0))], fr := [(2, 86), (3, 87)] } [] ⟨(rfl), (arrEq_refl _ _ _), rfl, a1, a2, (List.length_append), (rowsApp _ _ _ _ _ (by intro i hi j hj; match i, j, hi, hj with | 0, 0, _, _ => exact ⟨rfl, _, _, _, rfl⟩ | 0, 1, _, _ => exact ⟨rfl, _, _, _, rfl⟩)), trivial⟩ ?_
     refine sg tT ⟨[(2, (vP 55 0)), (k72 s_), (5, (vP 58 0)), (k539 u0), k508, (9, (vI u3)), (13, (vI (k543 u0 u1 u2))), (31, (vI p.buses)), (32, (vI u3))], (k541 p u8 u0 u1 u2)⟩ [LookAt [some .i64] 1 1 (k536 u0 u1 u2).length (k537 u0 u1 u2) (k538 u0 u1 u2) [(.int .i64 u1)] [(.d (.int .i64 0))] (k544 u0 u1 u2).isSome (k545 u0 u1 u2)] { an := [(2, .look (k544 u0 u1 u2).isSome (k545 u0 u1 u2))] } [] ⟨(lookAt_of (fun _ => rfl) (fun _ _ => rfl) (k536 u0 u1 u2) u1 0 rfl rfl rfl), trivial⟩ ?_
     refine aO h fun ⟨a1, a2, a3⟩ h => ?_
     refine ri tT ⟨[(2, (vP 55 0)), (k72 s_), (5, (vP 58 0)), (k539 u0), k508, (31, (vI p.buses)), (32, (vI u3))], [(k510 p), (k511 u8), k512, (k535 u0 u1 u2), (87, some (.rows 123 2 (k540 u0).length (k546 u3 u0 u1 u2) none))]⟩ [(0 : Int) ≤ (k543 u0 u1 u2) ∧ (k543 u0 u1 u2) < (k552 u0), (k543 u0 u1 u2).toNat < (k540 u0).length, [u3].length = 1, ArrEq 1 1 (k187 u3) (elOf (intC .i64) [u3]), (k550 u0 u1 u2).length = (k550 u0 u1 u2).length, (k553 u3 u0 u1 u2) * 8 ≤ 140737488355328, (k550 u0 u1 u2).length + [u3].length ≤ 4611686018427387904, (k549 u3 u0 u1 u2).length = (k550 u0 u1 u2).length + [u3].length, ArrEq (k553 u3 u0 u1 u2) 1 (k554 u3 u0 u1 u2) (k555 u3 u0 u1 u2), (0 : Int) ≤ (k543 u0 u1 u2) ∧ (k543 u0 u1 u2) < (k552 u0), (k543 u0 u1 u2).toNat < (k540 u0).length, (k549 u3 u0 u1 u2).length = (k549 u3 u0 u1 u2).length, EvEq (k540 u0).length 2 (k556 u3 u0 u1 u2) (k546 u3 u0 u1 u2), ∀ i0 j0 c0, ((some ((k543 u0 u1 u2).toNat, 0, CV.own 88 false (k550 u0 u1 u2).length)) : Option (Nat × Nat × CV)) = some (i0, j0, c0) → i0 = (k543 u0 u1 u2).toNat ∧ j0 = 0] { an := [(6, .take 88), (8, .arr [u3].length (elOf (intC .i64) [u3])), (9, .arr (k549 u3 u0 u1 u2).length (k555 u3 u0 u1 u2)), (12, .rows 0 (k546 u3 u0 u1 u2))], fr := [(8, 89), (9, 90)] } [] ⟨a1, (tL a1), (rfl), ((by intro i hi j hj; match i, j, hi, hj with | 0, 0, _, _ => rfl)), rfl, a2, a3, (List.length_append), (arrEq_app _ _ _ _), a1, (tL a1), rfl, (evEq_set _ _ _ _ _ _ _ _ rfl (fun j hj => (match j, hj with | 0, _ => rfl | 1, _ => rfl))), ((fun i0 j0 c0 e => by cases e; exact ⟨rfl, rfl⟩)), trivial⟩ (Imp.le (st' := ⟨[(2, (vP 55 0)), (k72 s_), (5, (vP 58 0)), (k557 u3 u0 u1 u2), k508, (31, (vI p.buses)), (32, (vI u3))], (k559 p u8 u3 u0 u1 u2)⟩) ⟨⟨tR, tR, tR, ⟨_, rfl, TLe.v (SLe.one cW)⟩, tR, tR, tR, trivial⟩, ⟨rfl, .refl _, ⟨rfl, .refl _, ⟨rfl, .refl _, ⟨rfl, .refl _, ⟨rfl, OLe_rows (by simp only [List.length_set, List.length_append, List.length_cons, List.length_nil, List.length_replicate]), trivial⟩⟩⟩⟩⟩⟩) ?_
     refine ri tT ⟨[(2, (vP 55 0)), (k72 s_), (5, (vP 58 0)), (k557 u3 u0 u1 u2), k508, (31, (vI p.buses)), (k531 u3)], (k559 p u8 u3 u0 u1 u2)⟩ [] {} [] trivial (Imp.fin (st' := ⟨[(2, (vP 55 0)), (k72 s_), (5, (vP 58 0)), (7, (vO 60 false (k558 u3 u0 u1 u2))), k508, (31, (vI p.buses)), (k531 u3)], [(k510 p), (k511 u8), k512, (60, some (.rows 123 2 (k547 u3 u0 u1 u2).length (k546 u3 u0 u1 u2) none)), (k535 u0 u1 u2)]⟩) (cs := []) ⟨[], [(55, 55), (57, 57), (58, 58), (87, 60), (61, 61)]⟩ [2, 3, 5, 7, 8, 31, 32] (by kernel_rfl) trivial) ?_
     obtain rfl := oi h
     exact lN (by kernel_rfl)
    ·refine cf hb ?_
     refine aP (sg tT ⟨[(2, (vP 55 0)), (k72 s_), (5, (vP 58 0)), (k507 u0), k508, (9, (vI u3)), (13, (vI (k534 u1 u2))), (31, (vI p.buses)), (32, (vI u3))], (k509 u0 p u8 u2)⟩ [LookAt [some .i64] 1 1 u2.length (kOf (intC .i64) u2) (vOf (intC .i64) u2) [(.int .i64 u1)] [(.d (.int .i64 0))] (mget eqI u1 u2).isSome (k533 u1 u2)] { an := [(2, .look (mget eqI u1 u2).isSome (k533 u1 u2))] } [] ⟨(lookAt_of (fun _ => rfl) (fun _ _ => rfl) u2 u1 0 rfl rfl rfl), trivial⟩ ?_)
     refine aO h fun ⟨a1, a2, a3⟩ h => ?_
     refine ri tT ⟨(k506 u0 s_ p u3), [(k510 p), (k511 u8), k512, (60, some (.rows 123 2 u0.length (k560 u3 u0 u1 u2) none)), (k514 u2)]⟩ [(0 : Int) ≤ (k534 u1 u2) ∧ (k534 u1 u2) < (u0.length : Int), (k534 u1 u2).toNat < u0.length, [u3].length = 1, ArrEq 1 1 (k187 u3) (elOf (intC .i64) [u3]), (k563 u0 u1 u2).length = (k563 u0 u1 u2).length, (k564 u3 u0 u1 u2) * 8 ≤ 140737488355328, (k563 u0 u1 u2).length + [u3].length ≤ 4611686018427387904, (k562 u3 u0 u1 u2).length = (k563 u0 u1 u2).length + [u3].length, ArrEq (k564 u3 u0 u1 u2) 1 (k565 u3 u0 u1 u2) (k566 u3 u0 u1 u2), (0 : Int) ≤ (k534 u1 u2) ∧ (k534 u1 u2) < (u0.length : Int), (k534 u1 u2).toNat < u0.length, (k562 u3 u0 u1 u2).length = (k562 u3 u0 u1 u2).length, EvEq u0.length 2 (k567 u3 u0 u1 u2) (k560 u3 u0 u1 u2), ∀ i0 j0 c0, ((some ((k534 u1 u2).toNat, 0, CV.own 91 false (k563 u0 u1 u2).length)) : Option (Nat × Nat × CV)) = some (i0, j0, c0) → i0 = (k534 u1 u2).toNat ∧ j0 = 0] { an := [(6, .take 91), (8, .arr [u3].length (elOf (intC .i64) [u3])), (9, .arr (k562 u3 u0 u1 u2).length (k566 u3 u0 u1 u2)), (12, .rows 0 (k560 u3 u0 u1 u2))], fr := [(8, 92), (9, 93)] } [] ⟨a1, (tL a1), (rfl), ((by intro i hi j hj; match i, j, hi, hj with | 0, 0, _, _ => rfl)), rfl, a2, a3, (List.length_append), (arrEq_app _ _ _ _), a1, (tL a1), rfl, (evEq_set _ _ _ _ _ _ _ _ rfl (fun j hj => (match j, hj with | 0, _ => rfl | 1, _ => rfl))), ((fun i0 j0 c0 e => by cases e; exact ⟨rfl, rfl⟩)), trivial⟩ (Imp.le (st' := ⟨[(2, (vP 55 0)), (k72 s_), (5, (vP 58 0)), (k568 u3 u0 u1 u2), k508, (31, (vI p.buses)), (32, (vI u3))], (k570 p u8 u3 u0 u1 u2)⟩) ⟨⟨tR, tR, tR, ⟨_, rfl, TLe.v (SLe.one cW)⟩, tR, tR, tR, trivial⟩, ⟨rfl, .refl _, ⟨rfl, .refl _, ⟨rfl, .refl _, ⟨rfl, OLe_rows (by simp only [List.length_set, List.length_append, List.length_cons, List.length_nil, List.length_replicate]), ⟨rfl, .refl _, trivial⟩⟩⟩⟩⟩⟩) ?_
     refine rz tT ⟨[(2, (vP 55 0)), (k72 s_), (5, (vP 58 0)), (k568 u3 u0 u1 u2), k508, (31, (vI p.buses)), (k531 u3)], (k570 p u8 u3 u0 u1 u2)⟩ {} [] ?_
     obtain rfl := oi h
     exact lN (by kernel_rfl)
  ·refine cf hb2 ?_
   refine aI (fz (k515 s_ u0 p u8 u2) []) ?_
   refine aX ?_
   obtain rfl := oi h
   exact lB (by kernel_rfl)
 ·clear hy
  cases y with
  | brk z =>
   obtain ⟨v0, u4⟩ := z
   unfold ExK
   refine ⟨_, .refl, ?_⟩
   refine aQ (sz tT ⟨[(k72 s_), (5, (vP 58 0)), (k507 v0), k508, (k517 p), (k518 p), (78, (vI 0))], (k519 v0 u8 u4)⟩ {} [] ?_)
   refine bE h fun y1 hy h => ?_
   refine aL [] (m_plant_islands_v1_S1 p s_ u8 u4) m_plant_islands_v1_B1 m_plant_islands_v1_R hy (fun s f h => ?_) ?_
   ·clear hy
    show AWp _ _ _ _ _ _ ((m_plant_islands_v1_Q1 p s_ u8 u4) f) _
    unfold m_plant_islands_L1 at h
    obtain ⟨u6, u5⟩ := s
    refine sz tT ⟨[(k72 s_), (5, (vP 58 0)), (k507 u6), k508, (k517 p), (k518 p), (78, (vI u5)), (79, (vB (decide (u5 < (p.sources.length : Int)))))], (k519 u6 u8 u4)⟩ {} [] ?_
    refine aQ ?_
    refine bI h (fun hb4 h => ?_) (fun hb4 h => ?_)
    ·refine ct hb4 ?_
     refine aP (aQ (aB (aQ (aO h fun a1 h => ?_))))
     refine rg tT ⟨[(k72 s_), (5, (vP 58 0)), (k507 u6), k508, (14, (vI u5)), (k571 p u5), (k517 p), (k518 p), (78, (vI u5))], (k519 u6 u8 u4)⟩ [_] { fr := [(3, 106)] } [106] ⟨a1, trivial⟩ ?_
     refine aQ (aO h fun ⟨a1, a2, a3⟩ h => ?_)
     refine rg tT ⟨[(k72 s_), (5, (vP 58 0)), (k507 u6), k508, (14, (vI u5)), (k571 p u5), (k517 p), (k518 p), (78, (vI u5)), (k572 p s_ u5)], (k519 u6 u8 u4)⟩ (_ :: (k573 p s_ u5)) { yb := [(5, (at' s_.on_ u5.toNat)), (13, (k123 s_ u5))] } [] ⟨a1, (ae ⟨(fun hg => ⟨(a2 (gB_of hg)), trivial⟩), (ae (ae ⟨(fun hg => ⟨(a3 (gB_of hg)), trivial⟩), (ae trivial)⟩))⟩)⟩ ?_
     refine bI h (fun hb3 h => ?_) (fun hb3 h => ?_)
     ·refine ct hb3 ?_
      refine aQ (bE h fun u7 hr_3 h => ?_)
      have q0 := rk [(0, 57)] (m_plant_groups_of_v1_ok u8 (k124 p u5) hr_3)
      refine rg tT ⟨[(k72 s_), (5, (vP 58 0)), (k507 u6), k508, (14, (vI u5)), (16, (vI (k534 u7 u4))), (k517 p), (k518 p), (78, (vI u5))], (k519 u6 u8 u4)⟩ [_, LookAt [some .i64] 1 1 u4.length (kOf (intC .i64) u4) (vOf (intC .i64) u4) [(.int .i64 u7)] [(.d (.int .i64 0))] (mget eqI u7 u4).isSome (k533 u7 u4)] { an := [(4, cR q0 [57]), (5, .look (mget eqI u7 u4).isSome (k533 u7 u4))] } [] ⟨q0, (lookAt_of (fun _ => rfl) (fun _ _ => rfl) u4 u7 0 rfl rfl rfl), trivial⟩ ?_
      refine aO h fun ⟨a1, a2, a3⟩ h => ?_
      refine ri tT ⟨(k516 p s_ u6 u5), [(k511 u8), k512, (60, some (.rows 123 2 u6.length (k574 u5 u6 u7 u4) none)), (k514 u4)]⟩ [(0 : Int) ≤ (k534 u7 u4) ∧ (k534 u7 u4) < (u6.length : Int), (k534 u7 u4).toNat < u6.length, [u5].length = 1, ArrEq 1 1 (k187 u5) (elOf (intC .i64) [u5]), (k577 u6 u7 u4).length = (k577 u6 u7 u4).length, (k578 u5 u6 u7 u4) * 8 ≤ 140737488355328, (k577 u6 u7 u4).length + [u5].length ≤ 4611686018427387904, (k576 u5 u6 u7 u4).length = (k577 u6 u7 u4).length + [u5].length, ArrEq (k578 u5 u6 u7 u4) 1 (k579 u5 u6 u7 u4) (k580 u5 u6 u7 u4), (0 : Int) ≤ (k534 u7 u4) ∧ (k534 u7 u4) < (u6.length : Int), (k534 u7 u4).toNat < u6.length, (k576 u5 u6 u7 u4).length = (k576 u5 u6 u7 u4).length, EvEq u6.length 2 (k581 u5 u6 u7 u4) (k574 u5 u6 u7 u4), ∀ i0 j0 c0, ((some ((k534 u7 u4).toNat, 1, CV.own 107 false (k577 u6 u7 u4).length)) : Option (Nat × Nat × CV)) = some (i0, j0, c0) → i0 = (k534 u7 u4).toNat ∧ j0 = 1] { an := [(6, .take 107), (8, .arr [u5].length (elOf (intC .i64) [u5])), (9, .arr (k576 u5 u6 u7 u4).length (k580 u5 u6 u7 u4)), (12, .rows 0 (k574 u5 u6 u7 u4))], fr := [(8, 108), (9, 109)] } [] ⟨a1, (tL a1), (rfl), ((by intro i hi j hj; match i, j, hi, hj with | 0, 0, _, _ => rfl)), rfl, a2, a3, (List.length_append), (arrEq_app _ _ _ _), a1, (tL a1), rfl, (evEq_set _ _ _ _ _ _ _ _ rfl (fun j hj => (match j, hj with | 0, _ => rfl | 1, _ => rfl))), ((fun i0 j0 c0 e => by cases e; exact ⟨rfl, rfl⟩)), trivial⟩ (Imp.le (st' := ⟨[(k72 s_), (5, (vP 58 0)), (k582 u5 u6 u7 u4), k508, (k517 p), (k518 p), (78, (vI u5))], (k584 u8 u5 u6 u7 u4)⟩) ⟨⟨tR, tR, ⟨_, rfl, TLe.v (SLe.one cW)⟩, tR, tR, tR, tR, trivial⟩, ⟨rfl, .refl _, ⟨rfl, .refl _, ⟨rfl, OLe_rows (by simp only [List.length_set, List.length_append, List.length_cons, List.length_nil, List.length_replicate]), ⟨rfl, .refl _, trivial⟩⟩⟩⟩⟩) ?_
      refine rz tT ⟨[(k72 s_), (5, (vP 58 0)), (k582 u5 u6 u7 u4), k508, (k517 p), (k518 p), (k585 u5)], (k584 u8 u5 u6 u7 u4)⟩ {} [] ?_
      obtain rfl := oi h
      exact lN (by kernel_rfl)
     ·refine cf hb3 ?_
      refine aP (rz tT ⟨[(k72 s_), (5, (vP 58 0)), (k507 u6), k508, (k517 p), (k518 p), (k585 u5)], (k519 u6 u8 u4)⟩ {} [] ?_)
      obtain rfl := oi h
      exact lN (by kernel_rfl)
    ·refine cf hb4 ?_
     refine aI (fz (k520 u6) []) ?_
     refine aX ?_
     obtain rfl := oi h
     exact lB (by kernel_rfl)
   ·clear hy
    cases y1 with
    | brk z =>
     obtain ⟨u9, rfl⟩ : ∃ q, q = z := ⟨_, rfl⟩
     unfold ExK
     refine ⟨_, .refl, ?_⟩
     refine sz tT ⟨[(4, (vO 60 false u9.length))], [(k513 u9)]⟩ {} [] ?_
     refine aI (.trans (fi ⟨[(4, (vD (.sl none 2 u9.length (fun i j => evD (evOf Island.ev u9 i j)))))], []⟩ [u9.length = u9.length] [60] ⟨rfl, trivial⟩) (Imp.le (st' := ⟨[(4, (vD (slD none 2 Island.cell u9)))], []⟩) ⟨⟨⟨_, rfl, TLe.v (SLe.one (CLe.d (DLe.sl (.inr rfl) (fun i _ j hj => match j, hj with | 0, _ => .refl _ | 1, _ => .refl _))))⟩, trivial⟩, trivial⟩)) ?_
     refine aR ?_
     obtain rfl := oi h
     exact rq [(sD (slD none 2 Island.cell u9))] (.refl _)
    | ret v =>
     obtain rfl := oi h
     unfold ExK
     intro e st hn ha hR
     cases e with
     | normal => exact absurd rfl hn
     | exit id => exact hR
     | goto l => exact hR
     | ret => exact hR
     | panic c => exact hR
     | outgrown => exact hR
  | ret v =>
   obtain rfl := oi h
   unfold ExK
   intro e st hn ha hR
   cases e with
   | normal => exact absurd rfl hn
   | exit id => exact hR
   | goto l => exact hR
   | ret => exact hR
   | panic c => exact hR
   | outgrown => exact hR
def m_plant_Live_R  : ((List Bool) × Int) → Exit → St → Prop :=
  fun r => RetQ TT [.tmp 4, .tmp 5] (.tup [(sD (slD none 1 boolC r.1)), (sI r.2)]) []
section
variable (u1 : (List Bool)) (u0 : (List Island)) (u2 : Int)
abbrev k587 : Nat × TV := (7, (vO 9 true u1.length))
abbrev k588 : Nat × TV := (23, (vD (slD none 2 Island.cell u0)))
abbrev k589 : Nat × TV := (24, (vI (u0.length : Int)))
abbrev k590 : List (Nat × Option Ob) := [(9, some (arD 4 1 boolC u1))]
abbrev k586 : St := ⟨[(k587 u1), (k588 u0), (k589 u0), (25, (vI u2))], (k590 u1)⟩
end
def m_plant_Live_S0 (u0 : (List Island)) : ((List Bool) × Int) → St :=
  fun zz => match zz with | (u1, u2) => (k586 u1 u0 u2)
def m_plant_Live_B0  : (List Bool) → St :=
  fun u0 => ⟨[(k587 u0)], (k590 u0)⟩
def m_plant_Live_Q0 (u0 : (List Island)) : (Flow ((List Bool) × Int) (Ex (List Bool) ((List Bool) × Int))) → Exit → St → Prop :=
  LQ 0 [] (m_plant_Live_S0 u0) m_plant_Live_B0 m_plant_Live_R
section
variable (u0 : (List Island)) (u1 : Int) (u2 : (List Bool)) (u3 : Int)
abbrev k592 : Nat × TV := (9, (vD (ipT [(slD none 1 (intC .i64) ((at' u0 u1.toNat).buses)), (slD none 1 (intC .i64) ((at' u0 u1.toNat).sources))] 0)))
abbrev k593 : Nat × TV := (30, (vD (slD none 1 (intC .i64) ((at' u0 u1.toNat).buses))))
abbrev k594 : Nat × TV := (31, (vI (((at' u0 u1.toNat).buses).length : Int)))
abbrev k591 : List (Nat × TV) := [(k587 u2), (k592 u0 u1), (k588 u0), (k589 u0), (25, (vI u1)), (k593 u0 u1), (k594 u0 u1), (32, (vI u3))]
end
def m_plant_Live_S1 (u0 : (List Island)) (u1 : Int) : ((List Bool) × Int) → St :=
  fun zz => match zz with | (u2, u3) => ⟨(k591 u0 u1 u2 u3), (k590 u2)⟩
def m_plant_Live_B1 (u0 : (List Island)) (u2 : Int) : (List Bool) → St :=
  fun u1 => (k586 u1 u0 u2)
def m_plant_Live_Q1 (u0 : (List Island)) (u1 : Int) : (Flow ((List Bool) × Int) (Ex (List Bool) (Flow ((List Bool) × Int) (Ex (List Bool) ((List Bool) × Int))))) → Exit → St → Prop :=
  LQ 2 [1] (m_plant_Live_S1 u0 u1) (m_plant_Live_B1 u0 u1) (m_plant_Live_Q0 u0)
section
variable (p : Plant) (u0 : (List Island)) (u1 : Int) (u2 : (List Bool)) (u3 : Int)
abbrev k595 := (List.replicate p.buses.toNat (false : Bool))
abbrev k596 := (elOf boolC (k595 p))
abbrev k597 : Ob := (.cells 123 [(.d (slD none 1 (intC .i64) ((at' u0 u1.toNat).buses))), (.d (slD none 1 (intC .i64) ((at' u0 u1.toNat).sources)))])
abbrev k599 := (u2.set ((at' ((at' u0 u1.toNat).buses) u3.toNat).toNat) (decide (0 < (((at' u0 u1.toNat).sources).length : Int))))
abbrev k598 := (elOf boolC (k599 u0 u1 u2 u3))
abbrev k600 := (stEls (elOf boolC u2) ((at' ((at' u0 u1.toNat).buses) u3.toNat).toNat) 0 [(.bool (decide (0 < (((at' u0 u1.toNat).sources).length : Int))))])
abbrev k602 := ((k599 u0 u1 u2 u3).length)
abbrev k601 : Nat × TV := (7, (vO 9 true (k602 u0 u1 u2 u3)))
abbrev k604 : Ob := (arD 4 1 boolC (k599 u0 u1 u2 u3))
abbrev k603 : List (Nat × Option Ob) := [(9, some (k604 u0 u1 u2 u3))]
end
theorem m_plant_Live_ok (p : Plant) (s_ : State) {r : ((List Bool) × Int)} (h : m_plant_Live p s_ = some r) : Fn Try.prog 21 (k97 s_ p) [] (.tup [(sD (slD none 1 boolC r.1)), (sI r.2)]) [] := by
 refine fN tT Try.func21 rfl rfl fun B => ?_
 show AWp _ _ _ _ _ _ (m_plant_Live_R r) _
 unfold m_plant_Live at h
 refine sz tT (k486 p s_) { fr := [(0, 7), (1, 8)] } [7, 8] ?_
 refine aQ (aQ (bE h fun r_ hr_ h => ?_))
 have q0 := m_plant_CheckState_ok p s_ hr_
 refine rg tT ⟨[(k239 p), (k72 s_), (6, (vI r_))], []⟩ [_] { an := [(2, cA q0 [])] } [] ⟨q0, trivial⟩ ?_
 refine sz tT ⟨[(k239 p), (k72 s_), (6, (vI r_)), (16, (vB (!decide (r_ = 0))))], []⟩ {} [] ?_
 refine bI h (fun hb2 h => ?_) (fun hb2 h => ?_)
 ·refine ct hb2 ?_
  refine sz tT ⟨[(4, (vD nS)), (5, (vI r_))], []⟩ {} [] ?_
  refine aI (Imp.le (st' := ⟨[(4, (vD k436)), (5, (vI r_))], []⟩) ⟨⟨⟨_, rfl, TLe.v (SLe.one (CLe.d DLe.nil'))⟩, tR, trivial⟩, trivial⟩) ?_
  refine aR ?_
  obtain rfl := oi h
  exact rq [(sD k436), (sI r_)] (.refl _)
 ·refine cf hb2 ?_
  refine aP (aQ (aO h fun ⟨a1, a2, a3⟩ h => ?_))
  refine rg tT ⟨[(k239 p), (k72 s_), (7, (vO 9 true ((k595 p).length)))], [(9, some (arD 4 1 boolC (k595 p)))]⟩ [_, (p.buses : Int) = p.buses, _, _, (k595 p).length = p.buses.toNat, ArrEq p.buses.toNat 1 (fun _ j => [(.bool false)].getD j .nilp) (k596 p)] { an := [(2, .arr (k595 p).length (k596 p))], fr := [(2, 9)] } [] ⟨a1, rfl, a2, a3, (List.length_replicate), (arrEq_rep _ _ _ _ _ (fun j hj => (match j, hj with | 0, _ => rfl))), trivial⟩ ?_
  refine aQ (aQ (bE h fun u0 hr_1 h => ?_))
  have q0 := m_plant_islands_v1_ok p s_ hr_1
  refine rg tT ⟨[(7, (vO 9 true ((k595 p).length))), (k588 u0), (k589 u0), (25, (vI 0))], [(9, some (arD 4 1 boolC (k595 p)))]⟩ [_] { an := [(2, cA q0 [])] } [] ⟨q0, trivial⟩ ?_
  refine bE h fun y1 hy h => ?_
  refine aL [] (m_plant_Live_S0 u0) m_plant_Live_B0 m_plant_Live_R hy (fun s f h => ?_) ?_
  ·clear hy
   show AWp _ _ _ _ _ _ ((m_plant_Live_Q0 u0) f) _
   unfold m_plant_Live_L0 at h
   obtain ⟨u4, u1⟩ := s
   refine sz tT ⟨[(k587 u4), (k588 u0), (k589 u0), (25, (vI u1)), (26, (vB (decide (u1 < (u0.length : Int)))))], (k590 u4)⟩ {} [] ?_
   refine aQ ?_
   refine bI h (fun hb1 h => ?_) (fun hb1 h => ?_)
   ·refine ct hb1 ?_
    refine aP (aQ (aB (aQ (aO h fun a1 h => ?_))))
    refine rg tT ⟨[(k587 u4), (9, (vP 13 0)), (k588 u0), (k589 u0), (25, (vI u1))], [(9, some (arD 4 1 boolC u4)), (13, some (k597 u0 u1))]⟩ [_] { fr := [(2, 13)] } [] ⟨a1, trivial⟩ ?_
    refine sz tT ⟨[(k587 u4), (k592 u0 u1), (k588 u0), (k589 u0), (25, (vI u1)), (k593 u0 u1), (k594 u0 u1), (32, (vI 0))], (k590 u4)⟩ {} [13] ?_
    refine bE h fun y hy h => ?_
    refine aL [1] (m_plant_Live_S1 u0 u1) (m_plant_Live_B1 u0 u1) (m_plant_Live_Q0 u0) hy (fun s f h => ?_) ?_
    ·clear hy
     show AWp _ _ _ _ _ _ ((m_plant_Live_Q1 u0 u1) f) _
     unfold m_plant_Live_L1 at h
     obtain ⟨u2, u3⟩ := s
     refine sz tT ⟨[(k587 u2), (k592 u0 u1), (k588 u0), (k589 u0), (25, (vI u1)), (k593 u0 u1), (k594 u0 u1), (32, (vI u3)), (33, (vB (decide (u3 < (((at' u0 u1.toNat).buses).length : Int)))))], (k590 u2)⟩ {} [] ?_
     refine aQ ?_
     refine bI h (fun hb h => ?_) (fun hb h => ?_)
     ·refine ct hb ?_
      refine aP (aQ (aB (aQ (aO h fun a1 h => ?_))))
      refine rg tT ⟨[(k587 u2), (k592 u0 u1), (11, (vI (at' ((at' u0 u1.toNat).buses) u3.toNat))), (k588 u0), (k589 u0), (25, (vI u1)), (k593 u0 u1), (k594 u0 u1), (32, (vI u3))], (k590 u2)⟩ [_] {} [] ⟨a1, trivial⟩ ?_
      refine aO h fun a1 h => ?_
      refine ri tT ⟨(k591 u0 u1 u2 u3), [(9, some (.arr 4 1 u2.length (k598 u0 u1 u2 u3)))]⟩ [_, _, ArrEq u2.length 1 (k600 u0 u1 u2 u3) (k598 u0 u1 u2 u3)] { an := [(7, .arr 0 (k598 u0 u1 u2 u3))] } [] ⟨a1, (tL a1), (arrEq_set' _ _ _ _ _ _ _ _ rfl (fun j hj => (match j, hj with | 0, _ => rfl))), trivial⟩ (Imp.le (st' := ⟨[(k601 u0 u1 u2 u3), (k592 u0 u1), (k588 u0), (k589 u0), (25, (vI u1)), (k593 u0 u1), (k594 u0 u1), (32, (vI u3))], (k603 u0 u1 u2 u3)⟩) ⟨⟨⟨_, rfl, TLe.v (SLe.one cW)⟩, tR, tR, tR, tR, tR, tR, tR, trivial⟩, ⟨rfl, oW, trivial⟩⟩) ?_
      refine rz tT ⟨[(k601 u0 u1 u2 u3), (k592 u0 u1), (k588 u0), (k589 u0), (25, (vI u1)), (k593 u0 u1), (k594 u0 u1), (k531 u3)], (k603 u0 u1 u2 u3)⟩ {} [] ?_
      obtain rfl := oi h
      exact lN (by kernel_rfl)
     ·refine cf hb ?_
      refine aI (fz (k586 u2 u0 u1) []) ?_
      refine aX ?_
      obtain rfl := oi h
      exact lB (by kernel_rfl)
    ·clear hy
     cases y with
     | brk z =>
      obtain ⟨u6, rfl⟩ : ∃ q, q = z := ⟨_, rfl⟩
      unfold ExK
      refine ⟨_, .refl, ?_⟩
      refine rz tT ⟨[(k587 u6), (k588 u0), (k589 u0), (k255 u1)], (k590 u6)⟩ {} [] ?_
      obtain rfl := oi h
      exact lN (by kernel_rfl)
     | ret v =>
      obtain rfl := oi h
      unfold ExK
      intro e st hn ha hR
      cases e with
      | normal => exact absurd rfl hn
      | exit id => simp only [av_beq (b := 1) ha rfl, cond_false]; exact hR
      | goto l => exact hR
      | ret => exact hR
      | panic c => exact hR
      | outgrown => exact hR
   ·refine cf hb1 ?_
    refine aI (fz ⟨[(k587 u4)], (k590 u4)⟩ []) ?_
    refine aX ?_
    obtain rfl := oi h
    exact lB (by kernel_rfl)
  ·clear hy
   cases y1 with
   | brk z =>
    obtain ⟨u5, rfl⟩ : ∃ q, q = z := ⟨_, rfl⟩
    unfold ExK
    refine ⟨_, .refl, ?_⟩
    refine sg tT ⟨[(4, (vD (slD (some true) 1 boolC u5))), (5, (vI 0))], []⟩ [u5.length = u5.length] {} [9] ⟨rfl, trivial⟩ ?_
    refine aI (Imp.le (st' := ⟨[(4, (vD (slD none 1 boolC u5))), (5, (vI 0))], []⟩) ⟨⟨⟨_, rfl, TLe.v (SLe.one (CLe.d DLe.nn'))⟩, tR, trivial⟩, trivial⟩) ?_
    refine aR ?_
    obtain rfl := oi h
    exact rq [(sD (slD none 1 boolC u5)), (sI 0)] (.refl _)
   | ret v =>
    obtain rfl := oi h
    unfold ExK
    intro e st hn ha hR
    cases e with
    | normal => exact absurd rfl hn
    | exit id => exact hR
    | goto l => exact hR
    | ret => exact hR
    | panic c => exact hR
    | outgrown => exact hR
def m_guard_Lost_1_R  : Bool → Exit → St → Prop :=
  fun r => RetQ TT [.tmp 2] (vB r) []
theorem m_guard_Lost_1_ok (x : Arr2Bool) {r : Bool} (h : m_guard_Lost_1 x = some r) : Fn Try.prog 105 [(.agg [(cB x.e0), (cB x.e1)])] [] (vB r) [] := by
 refine fN tT Try.func105 rfl rfl fun B => ?_
 show AWp _ _ _ _ _ _ (m_guard_Lost_1_R r) _
 unfold m_guard_Lost_1 at h
 refine sz tT ⟨[(1, (vD (ipT [(.bool x.e0), (.bool x.e1)] 0)))], []⟩ { fr := [(0, 1)] } [1] ?_
 refine sg tT ⟨[(2, (vB (bif x.e0 then true else x.e1)))], []⟩ (((0 : Int) ≤ 0 ∧ (0 : Int) < (2 : Nat)) :: (x.e0 = x.e0) :: (gP (ybf [(2, x.e0)]) [(2, false)] → All [(0 : Int) ≤ 1 ∧ (1 : Int) < (2 : Nat)]) :: (eqs x.e0 2 [])) { yb := [(2, x.e0)] } [] ⟨((by decide)), rfl, (fun hg => ⟨((by decide)), trivial⟩), (ae trivial)⟩ ?_
 refine aR ?_
 obtain rfl := oi h
 exact rq [(sB (bif x.e0 then true else x.e1))] (.refl _)
def m_law03_example_v1_R  : (Plant × State) → Exit → St → Prop :=
  fun r => RetQ TT [.cell 0 26, .cell 1 29] (.tup [(.agg [(cI r.1.buses), (.own 0 true r.1.sources.length), (.own 1 true r.1.links.length), (.own 2 true r.1.racks.length)]), (.agg [(.own 3 true r.2.closed.length), (.own 4 true r.2.locked.length), (.own 5 true r.2.badLink.length), (.own 6 true r.2.on_.length), (.own 7 true r.2.badSource.length), (.own 8 true r.2.earthed.length), (.own 9 true r.2.badBus.length)])]) [(0, some (arD 126 5 Source.cell r.1.sources)), (1, some (arD 53 6 Link.cell r.1.links)), (2, some (arD 166 4 Rack.cell r.1.racks)), (3, some (arD 4 1 boolC r.2.closed)), (4, some (arD 4 1 boolC r.2.locked)), (5, some (arD 4 1 boolC r.2.badLink)), (6, some (arD 4 1 boolC r.2.on_)), (7, some (arD 4 1 boolC r.2.badSource)), (8, some (arD 4 1 boolC r.2.earthed)), (9, some (arD 4 1 boolC r.2.badBus)), (10, none), (11, none)]
abbrev k605 : Nat × Option Ob := (21, some (.cells 26 [(cI 0), (.d nS), (.d nS), (.d nS)]))
abbrev k606 : Nat × Option Ob := (22, some k113)
abbrev k607 : Nat × Option Ob := (23, some (arD 126 5 Source.cell [(⟨0, 1, 500, 0, 20⟩ : Source)]))
abbrev k608 : List DV := [(.int .i64 0), (.int .i64 1), (.int .i64 3), (.int .i64 400), (.int .i64 10), (slD (some true) 2 Trip.cell [(⟨1000, 400⟩ : Trip), (⟨10000, 100⟩ : Trip)]), (.int .i64 1), (.int .i64 2), (.int .i64 3), (.int .i64 400), (.int .i64 10), (slD (some true) 2 Trip.cell [(⟨1000, 50⟩ : Trip)])]
abbrev k610 : Ob := (arD 166 4 Rack.cell [(⟨(⟨2, (-1)⟩ : Arr2Int), 100, 1⟩ : Rack), (⟨(⟨1, 2⟩ : Arr2Int), 100, 0⟩ : Rack)])
abbrev k609 : Nat × Option Ob := (27, some k610)
abbrev k612 : Ob := (.cells 26 [(cI 3), (.own 23 true ([(⟨0, 1, 500, 0, 20⟩ : Source)].length)), (.own 26 true ([(⟨0, 1, 3, 400, 10, [(⟨1000, 400⟩ : Trip), (⟨10000, 100⟩ : Trip)]⟩ : Link), (⟨1, 2, 3, 400, 10, [(⟨1000, 50⟩ : Trip)]⟩ : Link)].length)), (.own 27 true ([(⟨(⟨2, (-1)⟩ : Arr2Int), 100, 1⟩ : Rack), (⟨(⟨1, 2⟩ : Arr2Int), 100, 0⟩ : Rack)].length))])
abbrev k611 : Nat × Option Ob := (28, some k612)
abbrev k614 : Ob := (arD 53 6 Link.cell [(⟨0, 1, 3, 400, 10, [(⟨1000, 400⟩ : Trip), (⟨10000, 100⟩ : Trip)]⟩ : Link), (⟨1, 2, 3, 400, 10, [(⟨1000, 50⟩ : Trip)]⟩ : Link)])
abbrev k613 : Nat × Option Ob := (26, some k614)
abbrev k615 : Ob := (arD 4 1 boolC (List.replicate 2 (false : Bool)))
abbrev k616 : Ob := (arD 4 1 boolC (List.replicate 3 (false : Bool)))
abbrev k617 : List CV := [(cI 3), (.own 0 true ([(⟨0, 1, 500, 0, 20⟩ : Source)].length)), (.own 1 true ([(⟨0, 1, 3, 400, 10, [(⟨1000, 400⟩ : Trip), (⟨10000, 100⟩ : Trip)]⟩ : Link), (⟨1, 2, 3, 400, 10, [(⟨1000, 50⟩ : Trip)]⟩ : Link)].length)), (.own 2 true ([(⟨(⟨2, (-1)⟩ : Arr2Int), 100, 1⟩ : Rack), (⟨(⟨1, 2⟩ : Arr2Int), 100, 0⟩ : Rack)].length))]
abbrev k618 : List CV := [(.own 3 true ([true, true].length)), (.own 4 true ((List.replicate 2 (false : Bool)).length)), (.own 5 true ((List.replicate 2 (false : Bool)).length)), (.own 6 true ([true].length)), (.own 7 true ((List.replicate 1 (false : Bool)).length)), (.own 8 true ((List.replicate 3 (false : Bool)).length)), (.own 9 true ((List.replicate 3 (false : Bool)).length))]
theorem m_law03_example_v1_ok  {r : (Plant × State)} (h : m_law03_example = some r) : Fn Try.prog 59 [] [] (.tup [(.agg [(cI r.1.buses), (.own 0 true r.1.sources.length), (.own 1 true r.1.links.length), (.own 2 true r.1.racks.length)]), (.agg [(.own 3 true r.2.closed.length), (.own 4 true r.2.locked.length), (.own 5 true r.2.badLink.length), (.own 6 true r.2.on_.length), (.own 7 true r.2.badSource.length), (.own 8 true r.2.earthed.length), (.own 9 true r.2.badBus.length)])]) [(0, some (arD 126 5 Source.cell r.1.sources)), (1, some (arD 53 6 Link.cell r.1.links)), (2, some (arD 166 4 Rack.cell r.1.racks)), (3, some (arD 4 1 boolC r.2.closed)), (4, some (arD 4 1 boolC r.2.locked)), (5, some (arD 4 1 boolC r.2.badLink)), (6, some (arD 4 1 boolC r.2.on_)), (7, some (arD 4 1 boolC r.2.badSource)), (8, some (arD 4 1 boolC r.2.earthed)), (9, some (arD 4 1 boolC r.2.badBus)), (10, none), (11, none)] := by
 refine fN tT Try.func59 rfl rfl fun B => ?_
 show AWp _ _ _ _ _ _ (m_law03_example_v1_R r) _
 unfold m_law03_example at h
 refine sz tT ⟨[(0, (vP 21 0)), (1, (vP 22 0))], [k605, k606]⟩ { fr := [(0, 21), (1, 22)] } [] ?_
 refine si tT ⟨[(0, (vP 21 0)), (1, (vP 22 0)), (2, (vP 28 0))], [k605, k606, k607, (26, some (.arr 53 6 [(⟨0, 1, 3, 400, 10, [(⟨1000, 400⟩ : Trip), (⟨10000, 100⟩ : Trip)]⟩ : Link), (⟨1, 2, 3, 400, 10, [(⟨1000, 50⟩ : Trip)]⟩ : Link)].length (elL 6 k608))), k609, k611]⟩ [[(⟨0, 1, 500, 0, 20⟩ : Source)].length = 1, ArrEq 1 5 (elL 5 [(.int .i64 0), (.int .i64 1), (.int .i64 500), (.int .i64 0), (.int .i64 20)]) (elOf Source.cell [(⟨0, 1, 500, 0, 20⟩ : Source)]), [(⟨1000, 400⟩ : Trip), (⟨10000, 100⟩ : Trip)].length = 2, ArrEq 2 2 (elL 2 [(.int .i64 1000), (.int .i64 400), (.int .i64 10000), (.int .i64 100)]) (elOf Trip.cell [(⟨1000, 400⟩ : Trip), (⟨10000, 100⟩ : Trip)]), [(⟨1000, 50⟩ : Trip)].length = 1, ArrEq 1 2 (elL 2 [(.int .i64 1000), (.int .i64 50)]) (elOf Trip.cell [(⟨1000, 50⟩ : Trip)]), [(⟨0, 1, 3, 400, 10, [(⟨1000, 400⟩ : Trip), (⟨10000, 100⟩ : Trip)]⟩ : Link), (⟨1, 2, 3, 400, 10, [(⟨1000, 50⟩ : Trip)]⟩ : Link)].length = 2, ArrEq 2 6 (elL 6 k608) (elL 6 k608), [(⟨(⟨2, (-1)⟩ : Arr2Int), 100, 1⟩ : Rack), (⟨(⟨1, 2⟩ : Arr2Int), 100, 0⟩ : Rack)].length = 2, ArrEq 2 4 (elL 4 [(.int .i64 2), (.int .i64 (-1)), (.int .i64 100), (.int .i64 1), (.int .i64 1), (.int .i64 2), (.int .i64 100), (.int .i64 0)]) (elOf Rack.cell [(⟨(⟨2, (-1)⟩ : Arr2Int), 100, 1⟩ : Rack), (⟨(⟨1, 2⟩ : Arr2Int), 100, 0⟩ : Rack)])] { an := [(1, .arr [(⟨0, 1, 500, 0, 20⟩ : Source)].length (elOf Source.cell [(⟨0, 1, 500, 0, 20⟩ : Source)])), (4, .frz [(⟨1000, 400⟩ : Trip), (⟨10000, 100⟩ : Trip)].length (elOf Trip.cell [(⟨1000, 400⟩ : Trip), (⟨10000, 100⟩ : Trip)])), (7, .frz [(⟨1000, 50⟩ : Trip)].length (elOf Trip.cell [(⟨1000, 50⟩ : Trip)])), (9, .arr [(⟨0, 1, 3, 400, 10, [(⟨1000, 400⟩ : Trip), (⟨10000, 100⟩ : Trip)]⟩ : Link), (⟨1, 2, 3, 400, 10, [(⟨1000, 50⟩ : Trip)]⟩ : Link)].length (elL 6 k608)), (14, .arr [(⟨(⟨2, (-1)⟩ : Arr2Int), 100, 1⟩ : Rack), (⟨(⟨1, 2⟩ : Arr2Int), 100, 0⟩ : Rack)].length (elOf Rack.cell [(⟨(⟨2, (-1)⟩ : Arr2Int), 100, 1⟩ : Rack), (⟨(⟨1, 2⟩ : Arr2Int), 100, 0⟩ : Rack)]))], fr := [(1, 23), (9, 26), (14, 27), (16, 28)] } [] ⟨(rfl), ((by intro i hi j hj; match i, j, hi, hj with | 0, 0, _, _ => rfl | 0, 1, _, _ => rfl | 0, 2, _, _ => rfl | 0, 3, _, _ => rfl | 0, 4, _, _ => rfl)), (rfl), ((by intro i hi j hj; match i, j, hi, hj with | 0, 0, _, _ => rfl | 0, 1, _, _ => rfl | 1, 0, _, _ => rfl | 1, 1, _, _ => rfl)), (rfl), ((by intro i hi j hj; match i, j, hi, hj with | 0, 0, _, _ => rfl | 0, 1, _, _ => rfl)), (rfl), (arrEq_refl _ _ _), (rfl), ((by intro i hi j hj; match i, j, hi, hj with | 0, 0, _, _ => rfl | 0, 1, _, _ => rfl | 0, 2, _, _ => rfl | 0, 3, _, _ => rfl | 1, 0, _, _ => rfl | 1, 1, _, _ => rfl | 1, 2, _, _ => rfl | 1, 3, _, _ => rfl)), trivial⟩ (Imp.le (st' := ⟨[(0, (vP 21 0)), (1, (vP 22 0)), (2, (vP 28 0))], [k605, k606, k607, k613, k609, k611]⟩) ⟨⟨tR, tR, tR, trivial⟩, ⟨rfl, .refl _, ⟨rfl, .refl _, ⟨rfl, .refl _, ⟨rfl, OLe_arr (by intro i hi j hj; match i, j, hi, hj with | 0, 0, _, _ => exact .refl _ | 0, 1, _, _ => exact .refl _ | 0, 2, _, _ => exact .refl _ | 0, 3, _, _ => exact .refl _ | 0, 4, _, _ => exact .refl _ | 0, 5, _, _ => exact DLe.nn' | 1, 0, _, _ => exact .refl _ | 1, 1, _, _ => exact .refl _ | 1, 2, _, _ => exact .refl _ | 1, 3, _, _ => exact .refl _ | 1, 4, _, _ => exact .refl _ | 1, 5, _, _ => exact DLe.nn'), ⟨rfl, .refl _, ⟨rfl, .refl _, trivial⟩⟩⟩⟩⟩⟩⟩) ?_
 refine aQ (aO h fun ⟨a1, a2, a3, a4, a5, a6, a7, a8, a9⟩ h => ?_)
 refine dg tT mX ⟨[(0, (vP 21 0)), (1, (vP 22 0))], [(21, some k612), (22, some (.cells 29 [(.own 29 true ([true, true].length)), (.own 30 true ((List.replicate 2 (false : Bool)).length)), (.own 31 true ((List.replicate 2 (false : Bool)).length)), (.own 32 true ([true].length)), (.own 33 true ((List.replicate 1 (false : Bool)).length)), (.own 34 true ((List.replicate 3 (false : Bool)).length)), (.own 35 true ((List.replicate 3 (false : Bool)).length))])), k607, k613, k609, (29, some (arD 4 1 boolC [true, true])), (30, some k615), (31, some k615), (32, some (arD 4 1 boolC [true])), (33, some (arD 4 1 boolC (List.replicate 1 (false : Bool)))), (34, some k616), (35, some k616)]⟩ [[true, true].length = 2, ArrEq 2 1 (elL 1 [(.bool true), (.bool true)]) (elOf boolC [true, true]), _, (2 : Int) = 2, _, _, (List.replicate 2 (false : Bool)).length = 2, ArrEq 2 1 (fun _ j => [(.bool false)].getD j .nilp) (elOf boolC (List.replicate 2 (false : Bool))), _, (2 : Int) = 2, _, _, (List.replicate 2 (false : Bool)).length = 2, ArrEq 2 1 (fun _ j => [(.bool false)].getD j .nilp) (elOf boolC (List.replicate 2 (false : Bool))), [true].length = 1, ArrEq 1 1 (elL 1 [(.bool true)]) (elOf boolC [true]), _, (1 : Int) = 1, _, _, (List.replicate 1 (false : Bool)).length = 1, ArrEq 1 1 (fun _ j => [(.bool false)].getD j .nilp) (elOf boolC (List.replicate 1 (false : Bool))), _, (3 : Int) = 3, _, _, (List.replicate 3 (false : Bool)).length = 3, ArrEq 3 1 (fun _ j => [(.bool false)].getD j .nilp) (elOf boolC (List.replicate 3 (false : Bool))), _, (3 : Int) = 3, _, _, (List.replicate 3 (false : Bool)).length = 3, ArrEq 3 1 (fun _ j => [(.bool false)].getD j .nilp) (elOf boolC (List.replicate 3 (false : Bool)))] { an := [(1, .arr [true, true].length (elOf boolC [true, true])), (2, .arr (List.replicate 2 (false : Bool)).length (elOf boolC (List.replicate 2 (false : Bool)))), (3, .arr (List.replicate 2 (false : Bool)).length (elOf boolC (List.replicate 2 (false : Bool)))), (4, .arr [true].length (elOf boolC [true])), (5, .arr (List.replicate 1 (false : Bool)).length (elOf boolC (List.replicate 1 (false : Bool)))), (6, .arr (List.replicate 3 (false : Bool)).length (elOf boolC (List.replicate 3 (false : Bool)))), (7, .arr (List.replicate 3 (false : Bool)).length (elOf boolC (List.replicate 3 (false : Bool))))], fr := [(1, 29), (2, 30), (3, 31), (4, 32), (5, 33), (6, 34), (7, 35)] } [] ⟨(rfl), ((by intro i hi j hj; match i, j, hi, hj with | 0, 0, _, _ => rfl | 1, 0, _, _ => rfl)), a1, rfl, a2, a3, (List.length_replicate), (arrEq_rep _ _ _ _ _ (fun j hj => (match j, hj with | 0, _ => rfl))), a1, rfl, a2, a3, (List.length_replicate), (arrEq_rep _ _ _ _ _ (fun j hj => (match j, hj with | 0, _ => rfl))), (rfl), ((by intro i hi j hj; match i, j, hi, hj with | 0, 0, _, _ => rfl)), a4, rfl, a5, a6, (List.length_replicate), (arrEq_rep _ _ _ _ _ (fun j hj => (match j, hj with | 0, _ => rfl))), a7, rfl, a8, a9, (List.length_replicate), (arrEq_rep _ _ _ _ _ (fun j hj => (match j, hj with | 0, _ => rfl))), a7, rfl, a8, a9, (List.length_replicate), (arrEq_rep _ _ _ _ _ (fun j hj => (match j, hj with | 0, _ => rfl))), trivial⟩ ?_
 refine aI (Imp.fin (st' := ⟨[(0, (vP 10 0)), (1, (vP 11 0))], [(0, some (arD 126 5 Source.cell [(⟨0, 1, 500, 0, 20⟩ : Source)])), (1, some k614), (2, some k610), (3, some (arD 4 1 boolC [true, true])), (4, some k615), (5, some k615), (6, some (arD 4 1 boolC [true])), (7, some (arD 4 1 boolC (List.replicate 1 (false : Bool)))), (8, some k616), (9, some k616), (10, some (.cells 26 k617)), (11, some (.cells 29 k618))]⟩) (cs := []) ⟨[], [(23, 0), (26, 1), (27, 2), (29, 3), (30, 4), (31, 5), (32, 6), (33, 7), (34, 8), (35, 9), (21, 10), (22, 11)]⟩ [0, 1] (by kernel_rfl) trivial) ?_
 refine aR ?_
 obtain rfl := oi h
 exact rh [(.agg k617), (.agg k618)] (.refl _) ⟨rfl, .refl _, ⟨rfl, .refl _, ⟨rfl, .refl _, ⟨rfl, .refl _, ⟨rfl, .refl _, ⟨rfl, .refl _, ⟨rfl, .refl _, ⟨rfl, .refl _, ⟨rfl, .refl _, ⟨rfl, .refl _, ⟨rfl, trivial, ⟨rfl, trivial, trivial⟩⟩⟩⟩⟩⟩⟩⟩⟩⟩⟩⟩
section
variable (p : Plant)
abbrev k619 : Nat × Option Ob := (0, some (arD 126 5 Source.cell p.sources))
abbrev k620 : Nat × Option Ob := (1, some (arD 53 6 Link.cell p.links))
abbrev k621 : Nat × Option Ob := (2, some (arD 166 4 Rack.cell p.racks))
end
def m_flow_ways_v2_R (p : Plant) : (List Way) → Exit → St → Prop :=
  fun r => RetQ TT [.tmp 6] (vO 3 true r.length) [(k619 p), (k620 p), (k621 p), (3, some (arD 141 3 Way.cell r))]
section
variable (u0 : (List Way)) (p : Plant) (s_ : State) (u1 : Bool)
abbrev k623 : Nat × TV := (8, (vO 408 true u0.length))
abbrev k627 : List CV := [(cI p.buses), (.own 0 true p.sources.length), (.own 1 true p.links.length), (.own 2 true p.racks.length)]
abbrev k626 : Ob := (.cells 26 (k627 p))
abbrev k625 : Nat × Option Ob := (406, some (k626 p))
abbrev k624 : List (Nat × Option Ob) := [(k619 p), (k620 p), (k621 p), (k625 p), (408, some (arD 141 3 Way.cell u0))]
abbrev k622 : St := ⟨[(3, (vP 406 0)), (k120 s_), k147, (k623 u0), (9, (vB u1))], (k624 u0 p)⟩
end
def m_flow_ways_v2_S0 (p : Plant) (s_ : State) : ((List Way) × Bool) → St :=
  fun zz => match zz with | (u0, u1) => (k622 u0 p s_ u1)
section
variable (p : Plant) (u0 : (List Way))
abbrev k629 : List (Nat × Option Ob) := [(k619 p), (k620 p), (k621 p), (408, some (arD 141 3 Way.cell u0))]
abbrev k628 : St := ⟨[(k623 u0)], (k629 p u0)⟩
end
def m_flow_ways_v2_B0 (p : Plant) : (List Way) → St :=
  fun u0 => (k628 p u0)
def m_flow_ways_v2_Q0 (p : Plant) (s_ : State) : (Flow ((List Way) × Bool) (Ex (List Way) (List Way))) → Exit → St → Prop :=
  LQ 0 [] (m_flow_ways_v2_S0 p s_) (m_flow_ways_v2_B0 p) (m_flow_ways_v2_R p)
section
variable (p : Plant) (s_ : State) (u0 : (List Way)) (u1 : Bool) (u2 : Int)
abbrev k631 : Nat × TV := (26, (vO 1 true p.links.length))
abbrev k630 : St := ⟨[(3, (vP 406 0)), (k120 s_), k147, (k623 u0), (9, (vB u1)), (k631 p), (k153 p), (28, (vI u2))], (k624 u0 p)⟩
end
def m_flow_ways_v2_S1 (p : Plant) (s_ : State) : ((List Way) × Bool × Int) → St :=
  fun zz => match zz with | (u0, u1, u2) => (k630 p s_ u0 u1 u2)
def m_flow_ways_v2_B1 (p : Plant) (s_ : State) : ((List Way) × Bool) → St :=
  fun zz => match zz with | (u0, u1) => (k622 u0 p s_ u1)
def m_flow_ways_v2_Q1 (p : Plant) (s_ : State) : (Flow ((List Way) × Bool × Int) (Ex ((List Way) × Bool) (Flow ((List Way) × Bool) (Ex (List Way) (List Way))))) → Exit → St → Prop :=
  LQ 2 [1] (m_flow_ways_v2_S1 p s_) (m_flow_ways_v2_B1 p s_) (m_flow_ways_v2_Q0 p s_)
def m_flow_ways_v2_S2 (p : Plant) (s_ : State) (u0 : Int) : ((List Way) × Bool × Int) → St :=
  fun zz => match zz with | (u1, u2, u3) => ⟨[(3, (vP 406 0)), (k120 s_), k147, (k623 u1), (9, (vB u2)), (10, (vI u0)), (k105 p u0), (k631 p), (k153 p), (28, (vI u0)), (k154 p u0), (49, (vI u3))], (k624 u1 p)⟩
def m_flow_ways_v2_B2 (p : Plant) (s_ : State) (u1 : Int) : ((List Way) × Bool) → St :=
  fun zz => match zz with | (u0, u2) => (k630 p s_ u0 u2 u1)
def m_flow_ways_v2_Q2 (p : Plant) (s_ : State) (u0 : Int) : (Flow ((List Way) × Bool × Int) (Ex ((List Way) × Bool) (Flow ((List Way) × Bool × Int) (Ex ((List Way) × Bool) (Flow ((List Way) × Bool) (Ex (List Way) (List Way))))))) → Exit → St → Prop :=
  LQ 4 [3] (m_flow_ways_v2_S2 p s_ u0) (m_flow_ways_v2_B2 p s_ u0) (m_flow_ways_v2_Q1 p s_)
section
variable (p : Plant) (s_ : State) (u3 : Int) (u0 : Int) (u5 : (List Way)) (u8 : Bool) (u2 : (List Way)) (u6 : Bool) (u1 : Int) (u4 : (List Int))
abbrev k632 : List SV := [(.agg (k627 p)), (.agg (k98 s_)), (sI u3)]
abbrev k633 : List (Nat × Option Ob) := [(k619 p), (k620 p), (k621 p)]
abbrev k634 : List (Nat × Option Ob) := [(k619 p), (k620 p), (k621 p), (k625 p)]
abbrev k636 : Nat × TV := (8, (vO 408 true ((k159 p).length)))
abbrev k635 : List (Nat × TV) := [(2, (vI u3)), (3, (vP 406 0)), (k120 s_), k147, (k636 p)]
abbrev k637 : Nat × TV := (8, (vO 408 true (k165 p u3)))
abbrev k638 : List (Nat × Option Ob) := [(k619 p), (k620 p), (k621 p), (k625 p), (408, some (k167 p u3))]
abbrev k640 : List CV := [(cI p.buses), (.d (slD (some true) 5 Source.cell p.sources)), (.d (slD (some true) 6 Link.cell p.links)), (.d (slD (some true) 4 Rack.cell p.racks))]
abbrev k639 : List SV := [(.agg (k640 p)), (.agg (k98 s_)), (sI u0)]
abbrev k641 : St := ⟨[(3, (vP 406 0)), (k120 s_), k147, (k623 u5), (9, (vB u8)), (k631 p), (k153 p), (28, (k30 u0))], (k624 u5 p)⟩
abbrev k642 : St := ⟨[(3, (vP 406 0)), (k120 s_), k147, (k623 u2), (9, (vB u6)), (10, (vI u0)), (k105 p u0), (k631 p), (k153 p), (28, (vI u0)), (k154 p u0), (k184 u1)], (k624 u2 p)⟩
abbrev k643 : Nat × TV := (8, (vO 408 true (k199 p u0 u1 u2 u4)))
abbrev k644 : List (Nat × Option Ob) := [(k619 p), (k620 p), (k621 p), (k625 p), (408, some (k201 p u0 u1 u2 u4))]
end
theorem m_flow_ways_v2_ok (p : Plant) (s_ : State) (u3 : Int) {r : (List Way)} (h : m_flow_ways p s_ u3 = some r) : Fn Try.prog 66 (k632 p s_ u3) (k633 p) (vO 3 true r.length) [(k619 p), (k620 p), (k621 p), (3, some (arD 141 3 Way.cell r))] := by
 refine fN tT Try.func66 rfl rfl fun B => ?_
 show AWp _ _ _ _ _ _ ((m_flow_ways_v2_R p) r) _
 unfold m_flow_ways at h
 refine sz tT ⟨[(2, (vI u3)), (3, (vP 406 0)), (k120 s_)], (k634 p)⟩ { fr := [(0, 406), (1, 407)] } [407] ?_
 refine sz tT ⟨[(2, (vI u3)), (3, (vP 406 0)), (k120 s_), k147], (k634 p)⟩ {} [] ?_
 refine aQ (aO h fun ⟨a1, a2, a3⟩ h => ?_)
 refine ri tT ⟨(k635 p s_ u3), [(k619 p), (k620 p), (k621 p), (k625 p), (408, some (.arr 141 3 (k159 p).length (fun _ j => [(.bool false), (.int .i64 0), nS].getD j .nilp)))]⟩ [_, (p.buses : Int) = p.buses, _, _, (k159 p).length = p.buses.toNat, ArrEq p.buses.toNat 3 (fun _ j => [(.bool false), (.int .i64 0), nS].getD j .nilp) (fun _ j => [(.bool false), (.int .i64 0), nS].getD j .nilp)] { an := [(2, .arr (k159 p).length (fun _ j => [(.bool false), (.int .i64 0), nS].getD j .nilp))], fr := [(2, 408)] } [] ⟨a1, rfl, a2, a3, (List.length_replicate), (arrEq_refl _ _ _), trivial⟩ (Imp.le (st' := ⟨(k635 p s_ u3), [(k619 p), (k620 p), (k621 p), (k625 p), (408, some (k160 p))]⟩) ⟨⟨tR, tR, tR, tR, tR, trivial⟩, ⟨rfl, .refl _, ⟨rfl, .refl _, ⟨rfl, .refl _, ⟨rfl, .refl _, ⟨rfl, OLe_arr (repLe _ _ _ _ _ (fun j hj => match j, hj with | 0, _ => .refl _ | 1, _ => .refl _ | 2, _ => DLe.nil')), trivial⟩⟩⟩⟩⟩⟩) ?_
 refine aQ (aO h fun a1 h => ?_)
 refine ri tT ⟨[(3, (vP 406 0)), (k120 s_), k147, (k636 p)], [(k619 p), (k620 p), (k621 p), (k625 p), (408, some (.arr 141 3 (k159 p).length (k161 p u3)))]⟩ [_, _, ArrEq (k159 p).length 3 (k163 p u3) (k161 p u3)] { an := [(4, .arr 0 (k161 p u3))] } [] ⟨a1, (tL a1), (arrEq_set' _ _ _ _ _ _ _ _ rfl (fun j hj => (match j, hj with | 0, _ => rfl | 1, _ => rfl | 2, _ => rfl))), trivial⟩ (Imp.le (st' := ⟨[(3, (vP 406 0)), (k120 s_), k147, (k637 p u3)], (k638 p u3)⟩) ⟨⟨tR, tR, tR, ⟨_, rfl, TLe.v (SLe.one cW)⟩, trivial⟩, ⟨rfl, .refl _, ⟨rfl, .refl _, ⟨rfl, .refl _, ⟨rfl, .refl _, ⟨rfl, oW, trivial⟩⟩⟩⟩⟩⟩) ?_
 refine aQ (sz tT ⟨[(3, (vP 406 0)), (k120 s_), k147, (k637 p u3), (9, (vB true))], (k638 p u3)⟩ {} [] ?_)
 refine bE h fun y2 hy h => ?_
 refine aL [] (m_flow_ways_v2_S0 p s_) (m_flow_ways_v2_B0 p) (m_flow_ways_v2_R p) hy (fun s f h => ?_) ?_
 ·clear hy
  show AWp _ _ _ _ _ _ ((m_flow_ways_v2_Q0 p s_) f) _
  unfold m_flow_ways_L0 at h
  obtain ⟨u7, v1⟩ := s
  refine aQ (sz tT ⟨[(3, (vP 406 0)), (k120 s_), k147, (k623 u7), (24, (vB v1))], (k624 u7 p)⟩ {} [] ?_)
  refine bI h (fun hb5 h => ?_) (fun hb5 h => ?_)
  ·refine ct hb5 ?_
   refine aP (aB (sz tT ⟨[(3, (vP 406 0)), (k120 s_), k147, (k623 u7), (9, (vB false))], (k624 u7 p)⟩ {} [] ?_))
   refine sz tT ⟨[(3, (vP 406 0)), (k120 s_), k147, (k623 u7), (9, (vB false)), (k631 p), (k153 p), (28, (vI 0))], (k624 u7 p)⟩ {} [] ?_
   refine bE h fun y1 hy h => ?_
   refine aL [1] (m_flow_ways_v2_S1 p s_) (m_flow_ways_v2_B1 p s_) (m_flow_ways_v2_Q0 p s_) hy (fun s f h => ?_) ?_
   ·clear hy
    show AWp _ _ _ _ _ _ ((m_flow_ways_v2_Q1 p s_) f) _
    unfold m_flow_ways_L1 at h
    obtain ⟨u5, u8, u0⟩ := s
    refine sz tT ⟨[(3, (vP 406 0)), (k120 s_), k147, (k623 u5), (9, (vB u8)), (k631 p), (k153 p), (28, (vI u0)), (29, (vB (decide (u0 < (p.links.length : Int)))))], (k624 u5 p)⟩ {} [] ?_
    refine aQ ?_
    refine bI h (fun hb4 h => ?_) (fun hb4 h => ?_)
    ·refine ct hb4 ?_
     refine aP (aQ (aB (aQ (aO h fun a1 h => ?_))))
     refine rg tT ⟨[(3, (vP 406 0)), (k120 s_), k147, (k623 u5), (9, (vB u8)), (10, (vI u0)), (k105 p u0), (k631 p), (k153 p), (28, (vI u0))], (k624 u5 p)⟩ [_, _] { fr := [(3, 784)] } [784] ⟨a1, (tL a1), trivial⟩ ?_
     refine aQ (aQ (bE h fun r_ hr_ h => ?_))
     refine rg tT ⟨[(3, (vP 406 0)), (k120 s_), k147, (k623 u5), (9, (vB u8)), (10, (vI u0)), (k105 p u0), (k631 p), (k153 p), (28, (vI u0)), (37, (vB (!r_)))], (k624 u5 p)⟩ [Fn Try.prog 78 (k632 p s_ u0) (k633 p) (vB r_) (k633 p)] { an := [(3, .callR [0, 1, 2] (vB r_))] } [] ⟨(Fn.lend (frz := [0, 1, 2]) (p := [p.sources.length = p.sources.length, p.links.length = p.links.length, p.racks.length = p.racks.length]) (Fn.le (args' := (k639 p s_ u0)) (m_flow_conducts_ok p s_ u0 hr_) ⟨SLe.agg ⟨CLe.refl _, CLe.d DLe.nn', CLe.d DLe.nn', CLe.d DLe.nn', trivial⟩, SLe.refl _, SLe.refl _, trivial⟩) (by kernel_rfl) ⟨rfl, rfl, rfl, trivial⟩ rfl), trivial⟩ ?_
     refine bI h (fun hb3 h => ?_) (fun hb3 h => ?_)
     ·refine ct hb3 ?_
      refine aX (rz tT (k641 p s_ u0 u5 u8) {} [] ?_)
      obtain rfl := oi h
      exact lN (by kernel_rfl)
     ·refine cf hb3 ?_
      refine aP (sz tT ⟨[(3, (vP 406 0)), (k120 s_), k147, (k623 u5), (9, (vB u8)), (10, (vI u0)), (k105 p u0), (k631 p), (k153 p), (28, (vI u0)), (k154 p u0), (49, (vI 0))], (k624 u5 p)⟩ {} [] ?_)
      refine bE h fun y hy h => ?_
      refine aL [3] (m_flow_ways_v2_S2 p s_ u0) (m_flow_ways_v2_B2 p s_ u0) (m_flow_ways_v2_Q1 p s_) hy (fun s f h => ?_) ?_
      ·clear hy
       show AWp _ _ _ _ _ _ ((m_flow_ways_v2_Q2 p s_ u0) f) _
       unfold m_flow_ways_L2 at h
       obtain ⟨u2, u6, u1⟩ := s
       refine sz tT ⟨[(3, (vP 406 0)), (k120 s_), k147, (k623 u2), (9, (vB u6)), (10, (vI u0)), (k105 p u0), (k631 p), (k153 p), (28, (vI u0)), (k154 p u0), (49, (vI u1)), (50, (vB (decide (u1 < 2))))], (k624 u2 p)⟩ {} [] ?_
       refine aQ ?_
       refine bI h (fun hb2 h => ?_) (fun hb2 h => ?_)
       ·refine ct hb2 ?_
        refine aP (aQ (aB (aQ (aO h fun a1 h => ?_))))
        refine rg tT ⟨[(3, (vP 406 0)), (k120 s_), k147, (k623 u2), (9, (vB u6)), (10, (vI u0)), (k105 p u0), (13, (vP 803 0)), (k631 p), (k153 p), (28, (vI u0)), (k154 p u0), (49, (vI u1))], [(k619 p), (k620 p), (k621 p), (k625 p), (408, some (arD 141 3 Way.cell u2)), (803, some (k169 p u0 u1))]⟩ [_, u1.toNat * 2 + 2 ≤ (k155 p u0).length, ((k155 p u0).drop (u1.toNat * 2)).take 2 = (k175 p u0 u1).map .d] { an := [(0, .vals (k175 p u0 u1))], fr := [(1, 803)] } [] ⟨a1, (idxL (n := 2) (sz := 2) (Nat.le_refl _) a1), (idxV (n := 2) (sz := 2) (g := fun q => [(cI ((at' [(k172 p u0), (k173 p u0)] q).e0)), (cI ((at' [(k172 p u0), (k173 p u0)] q).e1))]) (by intro q hq; match q, hq with | 0, _ => rfl | 1, _ => rfl) a1), trivial⟩ ?_
        refine aQ (aO h fun a1 h => ?_)
        refine dg tT mX ⟨[(3, (vP 406 0)), (k120 s_), k147, (k623 u2), (9, (vB u6)), (10, (vI u0)), (k105 p u0), (k176 p u0 u1 u2), (k181 p u0 u1), (k631 p), (k153 p), (28, (vI u0)), (k154 p u0), (49, (vI u1))], (k624 u2 p)⟩ [(0 : Int) ≤ 0 ∧ (0 : Int) < (2 : Nat), _, _, (0 : Int) ≤ 1 ∧ (1 : Int) < (2 : Nat)] { fr := [(7, 804)] } [804] ⟨((by decide)), a1, (tL a1), ((by decide)), trivial⟩ ?_
        refine aQ (sz tT ⟨[(3, (vP 406 0)), (k120 s_), k147, (k623 u2), (9, (vB u6)), (10, (vI u0)), (k105 p u0), (k176 p u0 u1 u2), (k181 p u0 u1), (k631 p), (k153 p), (28, (vI u0)), (k154 p u0), (49, (vI u1)), (k182 p u0 u1 u2)], (k624 u2 p)⟩ {} [] ?_)
        refine bI h (fun hb1 h => ?_) (fun hb1 h => ?_)
        ·refine ct hb1 ?_
         refine aX (rz tT (k642 p s_ u0 u2 u6 u1) {} [] ?_)
         obtain rfl := oi h
         exact lN (by kernel_rfl)
        ·refine cf hb1 ?_
         refine aP (aQ (bE h fun u4 hr_1 h => ?_))
         refine aO h fun ⟨a1, a2⟩ h => ?_
         have q0 := rk [(0, 805)] (m_slices_Clone112_v1_a_ok (k180 p u0 u1 u2) hr_1)
         refine di tT mX ⟨[(3, (vP 406 0)), (k120 s_), k147, (k623 u2), (9, (vB u6)), (10, (vI u0)), (k105 p u0), (k181 p u0 u1), (16, (vP 808 0)), (k631 p), (k153 p), (28, (vI u0)), (k154 p u0), (49, (vI u1))], [(k619 p), (k620 p), (k621 p), (k625 p), (408, some (arD 141 3 Way.cell u2)), (808, some (k185 p u0 u1 u2 u4))]⟩ [_, [u0].length = 1, ArrEq 1 1 (k187 u0) (elOf (intC .i64) [u0]), u4.length = u4.length, _, _, (u4 ++ [u0]).length = u4.length + [u0].length, ArrEq (u4.length + [u0].length) 1 (k188 u0 u4) (k189 u0 u4), (u4 ++ [u0]).length = (u4 ++ [u0]).length] { an := [(7, cA q0 []), (9, .arr [u0].length (elOf (intC .i64) [u0])), (10, .arr (u4 ++ [u0]).length (k189 u0 u4))], fr := [(9, 806), (10, 807), (12, 808)] } [807] ⟨q0, (rfl), ((by intro i hi j hj; match i, j, hi, hj with | 0, 0, _, _ => rfl)), rfl, a1, a2, (List.length_append), (arrEq_app _ _ _ _), rfl, trivial⟩ (fz ⟨[(3, (vP 406 0)), (k120 s_), k147, (k623 u2), (9, (vB u6)), (10, (vI u0)), (k105 p u0), (k181 p u0 u1), (k190 p u0 u1 u2 u4), (k631 p), (k153 p), (28, (vI u0)), (k154 p u0), (49, (vI u1))], (k624 u2 p)⟩ [808]) ?_
         refine aQ (bE h fun v2 hr_2 h => ?_)
         refine aO h fun a1 h => ?_
         have q2 := m_flow_ways_1_ok (k192 p u0 u1 u2 u4) (k193 p u0 u1 u2) hr_2
         refine dg tT mX ⟨[(3, (vP 406 0)), (k120 s_), k147, (k623 u2), (9, (vB u6)), (10, (vI u0)), (k105 p u0), (k181 p u0 u1), (k190 p u0 u1 u2 u4), (k631 p), (k153 p), (28, (vI u0)), (k154 p u0), (49, (vI u1)), (80, (vB v2))], (k624 u2 p)⟩ [_, _, _] { an := [(6, cA q2 [])] } [] ⟨a1, (tL a1), q2, trivial⟩ ?_
         refine bI h (fun hb h => ?_) (fun hb h => ?_)
         ·refine ct hb ?_
          refine aQ (aO h fun a1 h => ?_)
          refine ri tT ⟨[(3, (vP 406 0)), (k120 s_), k147, (k623 u2), (10, (vI u0)), (k105 p u0), (k631 p), (k153 p), (28, (vI u0)), (k154 p u0), (49, (vI u1))], [(k619 p), (k620 p), (k621 p), (k625 p), (408, some (.arr 141 3 u2.length (k195 p u0 u1 u2 u4)))]⟩ [_, _, ArrEq u2.length 3 (k197 p u0 u1 u2 u4) (k195 p u0 u1 u2 u4)] { an := [(4, .arr 0 (k195 p u0 u1 u2 u4))] } [] ⟨a1, (tL a1), (arrEq_set' _ _ _ _ _ _ _ _ rfl (fun j hj => (match j, hj with | 0, _ => rfl | 1, _ => rfl | 2, _ => rfl))), trivial⟩ (Imp.le (st' := ⟨[(3, (vP 406 0)), (k120 s_), k147, (k643 p u0 u2 u1 u4), (10, (vI u0)), (k105 p u0), (k631 p), (k153 p), (28, (vI u0)), (k154 p u0), (49, (vI u1))], (k644 p u0 u2 u1 u4)⟩) ⟨⟨tR, tR, tR, ⟨_, rfl, TLe.v (SLe.one cW)⟩, tR, tR, tR, tR, tR, tR, tR, trivial⟩, ⟨rfl, .refl _, ⟨rfl, .refl _, ⟨rfl, .refl _, ⟨rfl, .refl _, ⟨rfl, oW, trivial⟩⟩⟩⟩⟩⟩) ?_
          refine rz tT ⟨[(3, (vP 406 0)), (k120 s_), k147, (k643 p u0 u2 u1 u4), (9, (vB true)), (10, (vI u0)), (k105 p u0), (k631 p), (k153 p), (28, (vI u0)), (k154 p u0), (49, (vI u1))], (k644 p u0 u2 u1 u4)⟩ {} [] ?_
          refine rz tT ⟨[(3, (vP 406 0)), (k120 s_), k147, (k643 p u0 u2 u1 u4), (9, (vB true)), (10, (vI u0)), (k105 p u0), (k631 p), (k153 p), (28, (vI u0)), (k154 p u0), (k184 u1)], (k644 p u0 u2 u1 u4)⟩ {} [] ?_
          obtain rfl := oi h
          exact lN (by kernel_rfl)
         ·refine cf hb ?_
          refine aP (rz tT (k642 p s_ u0 u2 u6 u1) {} [] ?_)
          obtain rfl := oi h
          exact lN (by kernel_rfl)
       ·refine cf hb2 ?_
        refine aI (fz (k630 p s_ u2 u6 u0) []) ?_
        refine aX ?_
        obtain rfl := oi h
        exact lB (by kernel_rfl)
      ·clear hy
       cases y with
       | brk z =>
        obtain ⟨v0, v3⟩ := z
        unfold ExK
        refine ⟨_, .refl, ?_⟩
        refine rz tT (k641 p s_ u0 v0 v3) {} [] ?_
        obtain rfl := oi h
        exact lN (by kernel_rfl)
       | ret v =>
        obtain rfl := oi h
        unfold ExK
        intro e st hn ha hR
        cases e with
        | normal => exact absurd rfl hn
        | exit id => simp only [av_beq (b := 3) ha rfl, cond_false]; exact hR
        | goto l => exact hR
        | ret => exact hR
        | panic c => exact hR
        | outgrown => exact hR
    ·refine cf hb4 ?_
     refine aI (fz (k622 u5 p s_ u8) []) ?_
     refine aX ?_
     obtain rfl := oi h
     exact lB (by kernel_rfl)
   ·clear hy
    cases y1 with
    | brk z =>
     obtain ⟨v4, v5⟩ := z
     unfold ExK
     refine ⟨_, .refl, ?_⟩
     obtain rfl := oi h
     exact lN (by kernel_rfl)
    | ret v =>
     obtain rfl := oi h
     unfold ExK
     intro e st hn ha hR
     cases e with
     | normal => exact absurd rfl hn
     | exit id => simp only [av_beq (b := 1) ha rfl, cond_false]; exact hR
     | goto l => exact hR
     | ret => exact hR
     | panic c => exact hR
     | outgrown => exact hR
  ·refine cf hb5 ?_
   refine aI (fz (k628 p u7) []) ?_
   refine aX ?_
   obtain rfl := oi h
   exact lB (by kernel_rfl)
 ·clear hy
  cases y2 with
  | brk z =>
   obtain ⟨u9, rfl⟩ : ∃ q, q = z := ⟨_, rfl⟩
   unfold ExK
   refine ⟨_, .refl, ?_⟩
   refine sz tT ⟨[(6, (vO 408 true u9.length))], (k629 p u9)⟩ {} [] ?_
   refine aI (Imp.fin (st' := ⟨[(6, (vO 3 true u9.length))], [(k619 p), (k620 p), (k621 p), (3, some (arD 141 3 Way.cell u9))]⟩) (cs := []) ⟨[], [(0, 0), (1, 1), (2, 2), (408, 3)]⟩ [6] (by kernel_rfl) trivial) ?_
   refine aR ?_
   obtain rfl := oi h
   exact rh [(.one (.own 3 true u9.length))] (.refl _) ⟨rfl, .refl _, ⟨rfl, .refl _, ⟨rfl, .refl _, ⟨rfl, .refl _, trivial⟩⟩⟩⟩
  | ret v =>
   obtain rfl := oi h
   unfold ExK
   intro e st hn ha hR
   cases e with
   | normal => exact absurd rfl hn
   | exit id => exact hR
   | goto l => exact hR
   | ret => exact hR
   | panic c => exact hR
   | outgrown => exact hR
def m_flow_Shorts_v1_R (p : Plant) : ((List Short) × Int) → Exit → St → Prop :=
  fun r => RetQ TT [.tmp 6, .tmp 7] (.tup [(sD (slD none 4 Short.cell r.1)), (sI r.2)]) (k633 p)
section
variable (u0 : (List Short)) (p : Plant)
abbrev k645 : Nat × TV := (9, (vO 31 false u0.length))
abbrev k646 : Nat × TV := (29, (vO 0 true p.sources.length))
abbrev k648 : Nat × Option Ob := (25, some (k626 p))
abbrev k647 : List (Nat × Option Ob) := [(k619 p), (k620 p), (k621 p), (k648 p), (31, some (arD 47 4 Short.cell u0))]
end
def m_flow_Shorts_v1_S0 (p : Plant) (s_ : State) (u1 : Int) : ((List Short) × Int) → St :=
  fun zz => match zz with | (u0, u2) => ⟨[(2, (vI u1)), (3, (vP 25 0)), (k120 s_), (k645 u0), (k646 p), (k204 p), (31, (vI u2))], (k647 u0 p)⟩
section
variable (u0 : (List Short)) (p : Plant)
abbrev k649 : St := ⟨[(k645 u0)], [(k619 p), (k620 p), (k621 p), (31, some (arD 47 4 Short.cell u0))]⟩
end
def m_flow_Shorts_v1_B0 (p : Plant) : (List Short) → St :=
  fun u0 => (k649 u0 p)
def m_flow_Shorts_v1_Q0 (p : Plant) (s_ : State) (u0 : Int) : (Flow ((List Short) × Int) (Ex (List Short) ((List Short) × Int))) → Exit → St → Prop :=
  LQ 0 [] (m_flow_Shorts_v1_S0 p s_ u0) (m_flow_Shorts_v1_B0 p) (m_flow_Shorts_v1_R p)
section
variable (p : Plant) (s_ : State) (u0 : Int) (u3 : (List Short)) (u1 : Int) (u2 : (List Way))
abbrev k650 : List (Nat × Option Ob) := [(k619 p), (k620 p), (k621 p), (k648 p)]
abbrev k651 : List SV := [(.agg (k627 p)), (.agg (k98 s_))]
abbrev k652 : List SV := [(.agg (k640 p)), (.agg (k98 s_))]
abbrev k653 : St := ⟨[(2, (vI u0)), (3, (vP 25 0)), (k120 s_), (k645 u3), (k646 p), (k204 p), (k210 u1)], (k647 u3 p)⟩
abbrev k654 : Nat × TV := (9, (vO 46 false (k214 p u1 u0 u3 u2)))
abbrev k655 : List (Nat × Option Ob) := [(k619 p), (k620 p), (k621 p), (k648 p), (46, some (k219 p u1 u0 u3 u2))]
end
theorem m_flow_Shorts_v1_ok (p : Plant) (s_ : State) (u0 : Int) {r : ((List Short) × Int)} (h : m_flow_Shorts p s_ u0 = some r) : Fn Try.prog 17 (k632 p s_ u0) (k633 p) (.tup [(sD (slD none 4 Short.cell r.1)), (sI r.2)]) (k633 p) := by
 refine fN tT Try.func17 rfl rfl fun B => ?_
 show AWp _ _ _ _ _ _ ((m_flow_Shorts_v1_R p) r) _
 unfold m_flow_Shorts at h
 refine sz tT ⟨[(2, (vI u0)), (3, (vP 25 0)), (k120 s_)], (k650 p)⟩ { fr := [(0, 25), (1, 26)] } [26] ?_
 refine aQ (aQ (bE h fun r_ hr_ h => ?_))
 refine rg tT ⟨[(2, (vI u0)), (3, (vP 25 0)), (k120 s_), (8, (vI r_))], (k650 p)⟩ [Fn Try.prog 12 (k651 p s_) (k633 p) (vI r_) (k633 p)] { an := [(2, .callR [0, 1, 2] (vI r_))] } [] ⟨(Fn.lend (frz := [0, 1, 2]) (p := [p.sources.length = p.sources.length, p.links.length = p.links.length, p.racks.length = p.racks.length]) (Fn.le (args' := (k652 p s_)) (m_plant_CheckState_ok p s_ hr_) ⟨SLe.agg ⟨CLe.refl _, CLe.d DLe.nn', CLe.d DLe.nn', CLe.d DLe.nn', trivial⟩, SLe.refl _, trivial⟩) (by kernel_rfl) ⟨rfl, rfl, rfl, trivial⟩ rfl), trivial⟩ ?_
 refine sz tT ⟨[(2, (vI u0)), (3, (vP 25 0)), (k120 s_), (8, (vI r_)), (18, (vB (!decide (r_ = 0))))], (k650 p)⟩ {} [] ?_
 refine bI h (fun hb4 h => ?_) (fun hb4 h => ?_)
 ·refine ct hb4 ?_
  refine sz tT ⟨[(6, (vD nS)), (7, (vI r_))], (k633 p)⟩ {} [] ?_
  refine aI (Imp.le (st' := ⟨[(6, (vD (slD none 4 Short.cell ([] : List Short)))), (7, (vI r_))], (k633 p)⟩) ⟨⟨⟨_, rfl, TLe.v (SLe.one (CLe.d DLe.nil'))⟩, tR, trivial⟩, ⟨rfl, .refl _, ⟨rfl, .refl _, ⟨rfl, .refl _, trivial⟩⟩⟩⟩) ?_
  refine aR ?_
  obtain rfl := oi h
  exact rh [(sD (slD none 4 Short.cell ([] : List Short))), (sI r_)] (.refl _) ⟨rfl, .refl _, ⟨rfl, .refl _, ⟨rfl, .refl _, trivial⟩⟩⟩
 ·refine cf hb4 ?_
  refine aP (aQ (sg tT ⟨[(2, (vI u0)), (3, (vP 25 0)), (k120 s_), (27, (vB (bif (decide (u0 < 0)) then true else (decide (p.buses ≤ u0)))))], (k650 p)⟩ (eqs (decide (u0 < 0)) 5 []) { yb := [(2, (decide (u0 < 0)))] } [] (ae trivial) ?_))
  refine bI h (fun hb3 h => ?_) (fun hb3 h => ?_)
  ·refine ct hb3 ?_
   refine sz tT ⟨[(6, (vD nS)), (7, (vI 1))], (k633 p)⟩ {} [] ?_
   refine aI (Imp.le (st' := ⟨[(6, (vD (slD none 4 Short.cell ([] : List Short)))), (7, (vI 1))], (k633 p)⟩) ⟨⟨⟨_, rfl, TLe.v (SLe.one (CLe.d DLe.nil'))⟩, tR, trivial⟩, ⟨rfl, .refl _, ⟨rfl, .refl _, ⟨rfl, .refl _, trivial⟩⟩⟩⟩) ?_
   refine aR ?_
   obtain rfl := oi h
   exact rh [(sD (slD none 4 Short.cell ([] : List Short))), (sI 1)] (.refl _) ⟨rfl, .refl _, ⟨rfl, .refl _, ⟨rfl, .refl _, trivial⟩⟩⟩
  ·refine cf hb3 ?_
   refine aP (sz tT ⟨[(2, (vI u0)), (3, (vP 25 0)), (k120 s_), (9, (vD nS))], (k650 p)⟩ {} [] ?_)
   refine aQ (sz tT ⟨[(2, (vI u0)), (3, (vP 25 0)), (k120 s_), (9, (vD nS)), (k646 p), (k204 p), (31, (vI 0))], (k650 p)⟩ {} [] ?_)
   refine bE h fun y hy h => ?_
   refine aI (.trans (Imp.adopt (t := 9) (b := 47) (esz0 := 0) (el0 := fun _ _ => .nilp) (E := 47) (esz := 4) (el := elOf Short.cell ([] : List Short)) (by kernel_rfl) (by kernel_rfl)) (.trans (Imp.fin (st' := ⟨[(2, (vI u0)), (3, (vP 25 0)), (k120 s_), (9, (vO 31 false 0)), (k646 p), (k204 p), (31, (vI 0))], [(k619 p), (k620 p), (k621 p), (k648 p), (31, some (.arr 47 4 0 (elOf Short.cell ([] : List Short))))]⟩) (cs := []) ⟨[], [(0, 0), (1, 1), (2, 2), (25, 25), (47, 31)]⟩ [2, 3, 4, 9, 29, 30, 31] (by kernel_rfl) trivial) (Imp.le (st' := ⟨[(2, (vI u0)), (3, (vP 25 0)), (k120 s_), (9, (vO 31 false (([] : List Short).length))), (k646 p), (k204 p), (31, (vI 0))], [(k619 p), (k620 p), (k621 p), (k648 p), (31, some (arD 47 4 Short.cell ([] : List Short)))]⟩) ⟨⟨tR, tR, tR, ⟨_, rfl, TLe.v (SLe.one cW)⟩, tR, tR, tR, trivial⟩, ⟨rfl, .refl _, ⟨rfl, .refl _, ⟨rfl, .refl _, ⟨rfl, .refl _, ⟨rfl, oW, trivial⟩⟩⟩⟩⟩⟩))) ?_
   refine aL [] (m_flow_Shorts_v1_S0 p s_ u0) (m_flow_Shorts_v1_B0 p) (m_flow_Shorts_v1_R p) hy (fun s f h => ?_) ?_
   ·clear hy
    show AWp _ _ _ _ _ _ ((m_flow_Shorts_v1_Q0 p s_ u0) f) _
    unfold m_flow_Shorts_L0 at h
    obtain ⟨u3, u1⟩ := s
    refine sz tT ⟨[(2, (vI u0)), (3, (vP 25 0)), (k120 s_), (k645 u3), (k646 p), (k204 p), (31, (vI u1)), (32, (vB (decide (u1 < (p.sources.length : Int)))))], (k647 u3 p)⟩ {} [] ?_
    refine aQ ?_
    refine bI h (fun hb2 h => ?_) (fun hb2 h => ?_)
    ·refine ct hb2 ?_
     refine aP (aQ (aB (aQ (aO h fun a1 h => ?_))))
     refine rg tT ⟨[(2, (vI u0)), (3, (vP 25 0)), (k120 s_), (k645 u3), (10, (vI u1)), (k207 p u1), (k646 p), (k204 p), (31, (vI u1))], (k647 u3 p)⟩ [_, _] { fr := [(3, 42)] } [42] ⟨a1, (tL a1), trivial⟩ ?_
     refine aQ (aQ (bE h fun u5 hr_1 h => ?_))
     refine aO h fun a1 h => ?_
     refine rg tT ⟨[(2, (vI u0)), (3, (vP 25 0)), (k120 s_), (k645 u3), (10, (vI u1)), (k207 p u1), (k646 p), (k204 p), (31, (vI u1)), (47, (vB (bif (at' s_.badBus u0.toNat) then true else (!u5))))], (k647 u3 p)⟩ (_ :: (eqs (at' s_.badBus u0.toNat) 4 ((gP (ybf [(5, (at' s_.badBus u0.toNat))]) [(5, false)] → All [Fn Try.prog 65 (k632 p s_ u1) (k633 p) (vB u5) (k633 p)]) :: (eqs (at' s_.badBus u0.toNat) 2 [])))) { yb := [(5, (at' s_.badBus u0.toNat))], an := [(9, .callR [0, 1, 2] (vB u5))] } [] ⟨a1, (ae ⟨(fun hg => ⟨(Fn.lend (frz := [0, 1, 2]) (p := [p.sources.length = p.sources.length, p.links.length = p.links.length, p.racks.length = p.racks.length]) (Fn.le (args' := (k639 p s_ u1)) (m_flow_feeds_ok p s_ u1 (gcall hr_1 (gB_of hg))) ⟨SLe.agg ⟨CLe.refl _, CLe.d DLe.nn', CLe.d DLe.nn', CLe.d DLe.nn', trivial⟩, SLe.refl _, SLe.refl _, trivial⟩) (by kernel_rfl) ⟨rfl, rfl, rfl, trivial⟩ rfl), trivial⟩), (ae trivial)⟩)⟩ ?_
     refine bI h (fun hb1 h => ?_) (fun hb1 h => ?_)
     ·refine ct hb1 ?_
      refine aX (rz tT (k653 p s_ u0 u3 u1) {} [] ?_)
      obtain rfl := oi h
      exact lN (by kernel_rfl)
     ·refine cf hb1 ?_
      refine aP (aQ (bE h fun u2 hr_2 h => ?_))
      refine aO h fun a1 h => ?_
      have q0 := rk [(3, 43)] (m_flow_ways_v2_ok p s_ (k124 p u1) hr_2)
      refine rg tT ⟨[(2, (vI u0)), (3, (vP 25 0)), (k120 s_), (k645 u3), (10, (vI u1)), (k207 p u1), (k211 u0 u2), (k646 p), (k204 p), (31, (vI u1))], (k647 u3 p)⟩ [_, _, _] { an := [(4, cA q0 [0, 1, 2])], fr := [(8, 44)] } [44] ⟨q0, a1, (tL a1), trivial⟩ ?_
      refine sz tT ⟨[(2, (vI u0)), (3, (vP 25 0)), (k120 s_), (k645 u3), (10, (vI u1)), (k207 p u1), (k211 u0 u2), (k646 p), (k204 p), (31, (vI u1)), (57, (vB ((at' u2 u0.toNat).there)))], (k647 u3 p)⟩ {} [] ?_
      refine bI h (fun hb h => ?_) (fun hb h => ?_)
      ·refine ct hb ?_
       refine sz tT ⟨[(2, (vI u0)), (3, (vP 25 0)), (k120 s_), (k645 u3), (10, (vI u1)), (k211 u0 u2), (13, (vI (k212 p u1 u0 u2))), (k646 p), (k204 p), (31, (vI u1))], (k647 u3 p)⟩ {} [] ?_
       refine aO h fun ⟨a1, a2, a3⟩ h => ?_
       refine dg tT mX ⟨[(2, (vI u0)), (3, (vP 25 0)), (k120 s_), (k654 p u0 u3 u1 u2), (k646 p), (k204 p), (31, (vI u1))], (k655 p u0 u3 u1 u2)⟩ [_, [(k216 p u1 u0 u2)].length = 1, ArrEq 1 4 (k220 p u1 u0 u2) (k221 p u1 u0 u2), u3.length = u3.length, _, _, (k215 p u1 u0 u3 u2).length = u3.length + [(k216 p u1 u0 u2)].length, ArrEq (k222 p u1 u0 u3 u2) 4 (k223 p u1 u0 u3 u2) (k224 p u1 u0 u3 u2)] { an := [(11, .arr [(k216 p u1 u0 u2)].length (k221 p u1 u0 u2)), (12, .arr (k215 p u1 u0 u3 u2).length (k224 p u1 u0 u3 u2))], fr := [(11, 45), (12, 46)] } [] ⟨a1, (rfl), ((by intro i hi j hj; match i, j, hi, hj with | 0, 0, _, _ => rfl | 0, 1, _, _ => rfl | 0, 2, _, _ => rfl | 0, 3, _, _ => rfl)), rfl, a2, a3, (List.length_append), (arrEq_app _ _ _ _), trivial⟩ ?_
       refine ri tT ⟨[(2, (vI u0)), (3, (vP 25 0)), (k120 s_), (k654 p u0 u3 u1 u2), (k646 p), (k204 p), (k210 u1)], (k655 p u0 u3 u1 u2)⟩ [] {} [] trivial (Imp.fin (st' := ⟨[(2, (vI u0)), (3, (vP 25 0)), (k120 s_), (9, (vO 31 false (k214 p u1 u0 u3 u2))), (k646 p), (k204 p), (k210 u1)], [(k619 p), (k620 p), (k621 p), (k648 p), (31, some (k219 p u1 u0 u3 u2))]⟩) (cs := []) ⟨[], [(0, 0), (1, 1), (2, 2), (25, 25), (46, 31)]⟩ [2, 3, 4, 9, 29, 30, 31] (by kernel_rfl) trivial) ?_
       obtain rfl := oi h
       exact lN (by kernel_rfl)
      ·refine cf hb ?_
       refine aP (rz tT (k653 p s_ u0 u3 u1) {} [] ?_)
       obtain rfl := oi h
       exact lN (by kernel_rfl)
    ·refine cf hb2 ?_
     refine aI (fz (k649 u3 p) []) ?_
     refine aX ?_
     obtain rfl := oi h
     exact lB (by kernel_rfl)
   ·clear hy
    cases y with
    | brk z =>
     obtain ⟨u4, rfl⟩ : ∃ q, q = z := ⟨_, rfl⟩
     unfold ExK
     refine ⟨_, .refl, ?_⟩
     refine sg tT ⟨[(6, (vD (slD none 4 Short.cell u4))), (7, (vI 0))], (k633 p)⟩ [u4.length = u4.length] {} [31] ⟨rfl, trivial⟩ ?_
     refine aR ?_
     obtain rfl := oi h
     exact rh [(sD (slD none 4 Short.cell u4)), (sI 0)] (.refl _) ⟨rfl, .refl _, ⟨rfl, .refl _, ⟨rfl, .refl _, trivial⟩⟩⟩
    | ret v =>
     obtain rfl := oi h
     unfold ExK
     intro e st hn ha hR
     cases e with
     | normal => exact absurd rfl hn
     | exit id => exact hR
     | goto l => exact hR
     | ret => exact hR
     | panic c => exact hR
     | outgrown => exact hR
def m_flow_Through_v1_R (p : Plant) : ((List Int) × Bool × Int) → Exit → St → Prop :=
  fun r => RetQ TT [.tmp 4, .tmp 5] (.tup [(sD (slD (some r.2.1) 1 (intC .i64) r.1)), (sI r.2.2)]) (k633 p)
section
variable (p : Plant) (u0 : (List Int)) (l : (List Short)) (u1 : Int)
abbrev k657 : List (Nat × Option Ob) := [(k619 p), (k620 p), (k621 p), (11, some (k226 u0)), (12, some (.cells 40 [(.own 11 true u0.length)]))]
abbrev k656 : St := ⟨[(7, (vP 12 0)), (k231 l), (k232 l), (25, (vI u1))], (k657 p u0)⟩
end
def m_flow_Through_v1_S0 (p : Plant) (l : (List Short)) : ((List Int) × Int) → St :=
  fun zz => match zz with | (u0, u1) => (k656 p u0 l u1)
section
variable (p : Plant) (u0 : (List Int))
abbrev k658 : St := ⟨[(7, (vP 12 0))], (k657 p u0)⟩
end
def m_flow_Through_v1_B0 (p : Plant) : (List Int) → St :=
  fun u0 => (k658 p u0)
def m_flow_Through_v1_Q0 (p : Plant) (l : (List Short)) : (Flow ((List Int) × Int) (Ex (List Int) ((List Int) × Bool × Int))) → Exit → St → Prop :=
  LQ 0 [] (m_flow_Through_v1_S0 p l) (m_flow_Through_v1_B0 p) (m_flow_Through_v1_R p)
section
variable (l : (List Short)) (u0 : Int) (u2 : (List Int)) (u3 : Int)
abbrev k659 : List (Nat × TV) := [(7, (vP 12 0)), (k236 l u0), (k231 l), (k232 l), (25, (vI u0)), (k237 u2), (45, (vI u3))]
end
def m_flow_Through_v1_S1 (p : Plant) (l : (List Short)) (u2 : (List Int)) (u0 : Int) : ((List Int) × Int) → St :=
  fun zz => match zz with | (u1, u3) => ⟨(k659 l u0 u2 u3), (k657 p u1)⟩
def m_flow_Through_v1_B1 (p : Plant) (l : (List Short)) (u1 : Int) : (List Int) → St :=
  fun u0 => (k656 p u0 l u1)
def m_flow_Through_v1_Q1 (p : Plant) (l : (List Short)) (u1 : (List Int)) (u0 : Int) : (Flow ((List Int) × Int) (Ex (List Int) (Flow ((List Int) × Int) (Ex (List Int) ((List Int) × Bool × Int))))) → Exit → St → Prop :=
  LQ 2 [1] (m_flow_Through_v1_S1 p l u1 u0) (m_flow_Through_v1_B1 p l u0) (m_flow_Through_v1_Q0 p l)
section
variable (p : Plant) (r_ : Int) (u1 : (List Int)) (u2 : Int) (l : (List Short)) (u0 : Int) (u3 : (List Int))
abbrev k661 : Nat × Option Ob := (10, some (k626 p))
abbrev k660 : List (Nat × Option Ob) := [(k619 p), (k620 p), (k621 p), (k661 p)]
abbrev k662 : St := ⟨[(4, (vD nS)), (5, (vI r_))], (k633 p)⟩
abbrev k663 : St := ⟨[(4, (vD nS)), (5, (vI 1))], (k633 p)⟩
abbrev k664 : St := ⟨[(4, (vD k240)), (5, (vI 1))], (k633 p)⟩
abbrev k665 : List (Nat × Option Ob) := [(k619 p), (k620 p), (k621 p), (11, some (arD 3 1 (intC .i64) (k243 p))), (12, some (.cells 40 [(.own 11 true ((k243 p).length))]))]
abbrev k666 : List (Nat × Option Ob) := [(k619 p), (k620 p), (k621 p), (11, some (arD 3 1 (intC .i64) (k251 l u0 u1 u2))), (12, some (.cells 40 [(.own 11 true ((k251 l u0 u1 u2).length))]))]
abbrev k667 : List (Nat × TV) := [(7, (vP 12 0)), (k236 l u0), (k231 l), (k232 l), (25, (vI u0)), (k237 u3), (45, (k30 u2))]
end
theorem m_flow_Through_v1_ok (p : Plant) (l : (List Short)) {r : ((List Int) × Bool × Int)} (h : m_flow_Through p l = some r) : Fn Try.prog 18 [(.agg (k627 p)), (sD (slD none 4 Short.cell l))] (k633 p) (.tup [(sD (slD (some r.2.1) 1 (intC .i64) r.1)), (sI r.2.2)]) (k633 p) := by
 refine fN tT Try.func18 rfl rfl fun B => ?_
 show AWp _ _ _ _ _ _ ((m_flow_Through_v1_R p) r) _
 unfold m_flow_Through at h
 refine sz tT ⟨[(k238 l), (2, (vP 10 0))], (k660 p)⟩ { fr := [(0, 10)] } [] ?_
 refine aQ (aQ (bE h fun r_ hr_ h => ?_))
 refine rg tT ⟨[(k238 l), (2, (vP 10 0)), (6, (vI r_))], (k660 p)⟩ [Fn Try.prog 58 [(.agg (k627 p))] (k633 p) (vI r_) (k633 p)] { an := [(1, .callR [0, 1, 2] (vI r_))] } [] ⟨(Fn.lend (frz := [0, 1, 2]) (p := [p.sources.length = p.sources.length, p.links.length = p.links.length, p.racks.length = p.racks.length]) (Fn.le (args' := [(.agg (k640 p))]) (m_plant_Check_ok p hr_) ⟨SLe.agg ⟨CLe.refl _, CLe.d DLe.nn', CLe.d DLe.nn', CLe.d DLe.nn', trivial⟩, trivial⟩) (by kernel_rfl) ⟨rfl, rfl, rfl, trivial⟩ rfl), trivial⟩ ?_
 refine sz tT ⟨[(k238 l), (2, (vP 10 0)), (6, (vI r_)), (14, (vB (!decide (r_ = 0))))], (k660 p)⟩ {} [] ?_
 refine bI h (fun hb5 h => ?_) (fun hb5 h => ?_)
 ·refine ct hb5 ?_
  refine sz tT (k662 p r_) {} [] ?_
  refine aI (Imp.le (st' := ⟨[(4, (vD k240)), (5, (vI r_))], (k633 p)⟩) ⟨⟨⟨_, rfl, TLe.v (SLe.one (CLe.d DLe.nilSl))⟩, tR, trivial⟩, ⟨rfl, .refl _, ⟨rfl, .refl _, ⟨rfl, .refl _, trivial⟩⟩⟩⟩) ?_
  refine aR ?_
  obtain rfl := oi h
  exact rh [(sD k240), (sI r_)] (.refl _) ⟨rfl, .refl _, ⟨rfl, .refl _, ⟨rfl, .refl _, trivial⟩⟩⟩
 ·refine cf hb5 ?_
  refine aP (aQ (sz tT ⟨[(k238 l), (2, (vP 10 0)), (18, (vB (decide (8 < (l.length : Int)))))], (k660 p)⟩ {} [] ?_))
  refine bI h (fun hb4 h => ?_) (fun hb4 h => ?_)
  ·refine ct hb4 ?_
   refine sz tT (k663 p) {} [] ?_
   refine aI (Imp.le (st' := (k664 p)) ⟨⟨⟨_, rfl, TLe.v (SLe.one (CLe.d DLe.nilSl))⟩, tR, trivial⟩, ⟨rfl, .refl _, ⟨rfl, .refl _, ⟨rfl, .refl _, trivial⟩⟩⟩⟩) ?_
   refine aR ?_
   obtain rfl := oi h
   exact rh k241 (.refl _) ⟨rfl, .refl _, ⟨rfl, .refl _, ⟨rfl, .refl _, trivial⟩⟩⟩
  ·refine cf hb4 ?_
   refine aP (aQ (aO h fun ⟨a1, a2, a3⟩ h => ?_))
   refine rg tT ⟨[(k238 l), (7, (vP 12 0))], (k665 p)⟩ [_, ((p.links.length : Int) : Int) = (p.links.length : Int), _, _, (k243 p).length = (k244 p), ArrEq (k244 p) 1 (fun _ j => [(.int .i64 0)].getD j .nilp) (k245 p)] { an := [(3, .arr (k243 p).length (k245 p))], fr := [(3, 11), (4, 12)] } [] ⟨a1, rfl, a2, a3, (List.length_replicate), (arrEq_rep _ _ _ _ _ (fun j hj => (match j, hj with | 0, _ => rfl))), trivial⟩ ?_
   refine aQ (sz tT ⟨[(7, (vP 12 0)), (k231 l), (k232 l), (25, (vI 0))], (k665 p)⟩ {} [] ?_)
   refine bE h fun y1 hy h => ?_
   refine aL [] (m_flow_Through_v1_S0 p l) (m_flow_Through_v1_B0 p) (m_flow_Through_v1_R p) hy (fun s f h => ?_) ?_
   ·clear hy
    show AWp _ _ _ _ _ _ ((m_flow_Through_v1_Q0 p l) f) _
    unfold m_flow_Through_L0 at h
    obtain ⟨u3, u0⟩ := s
    refine sz tT ⟨[(7, (vP 12 0)), (k231 l), (k232 l), (25, (vI u0)), (26, (vB (decide (u0 < (l.length : Int)))))], (k657 p u3)⟩ {} [] ?_
    refine aQ ?_
    refine bI h (fun hb3 h => ?_) (fun hb3 h => ?_)
    ·refine ct hb3 ?_
     refine aP (aQ (aB (aQ (aO h fun a1 h => ?_))))
     refine rg tT ⟨[(7, (vP 12 0)), (k236 l u0), (k231 l), (k232 l), (25, (vI u0))], (k657 p u3)⟩ [_] { fr := [(2, 16)] } [16] ⟨a1, trivial⟩ ?_
     refine aQ (aQ (bE h fun u5 hr_1 h => ?_))
     refine rg tT ⟨[(7, (vP 12 0)), (k236 l u0), (k231 l), (k232 l), (25, (vI u0)), (k246 l u0 u5)], (k657 p u3)⟩ (eqs (k248 l u0) 4 (eqs (k247 l u0) 4 [gP (k249 l u0) [(8, false)] → All [Fn Try.prog 67 [(sD (slD none 1 (intC .i64) ((at' l u0.toNat).links))), (.one (.fn 68 0 1 (capC [(.ptr 12 0)])))] [(12, some (.cells 40 [(.own 11 true u3.length)])), (11, some (k226 u3))] (vB u5) [(12, some (.cells 40 [(.own 11 true u3.length)])), (11, some (k226 u3))]], (k247 l u0) = (k247 l u0)])) { yb := [(3, (k248 l u0)), (8, (k247 l u0))], an := [(12, .callR [12, 11] (vB u5))] } [] (ae (ae ⟨(fun hg => ⟨(Fn.renK [(0, 12), (1, 11)] (m_slices_ContainsFunc67_ok ((at' l u0.toNat).links) u3 (gcall hr_1 (gB_of hg))) (by kernel_rfl) (by kernel_rfl) (by kernel_rfl) (by kernel_rfl)), trivial⟩), rfl, trivial⟩)) ?_
     refine bI h (fun hb2 h => ?_) (fun hb2 h => ?_)
     ·refine ct hb2 ?_
      refine sz tT (k663 p) {} [] ?_
      refine aI (Imp.le (st' := (k664 p)) ⟨⟨⟨_, rfl, TLe.v (SLe.one (CLe.d DLe.nilSl))⟩, tR, trivial⟩, ⟨rfl, .refl _, ⟨rfl, .refl _, ⟨rfl, .refl _, trivial⟩⟩⟩⟩) ?_
      refine aR ?_
      obtain rfl := oi h
      exact lR ret_nn (ret_ne 0) av_ret (RetQ.mk (.inr rfl) (p := []) (l := k241) (by kernel_rfl) trivial (TLe.refl _) ⟨rfl, .refl _, ⟨rfl, .refl _, ⟨rfl, .refl _, trivial⟩⟩⟩)
     ·refine cf hb2 ?_
      refine aP (sz tT ⟨[(7, (vP 12 0)), (k236 l u0), (k231 l), (k232 l), (25, (vI u0)), (k237 u3), (45, (vI 0))], (k657 p u3)⟩ {} [] ?_)
      refine bE h fun y hy h => ?_
      refine aL [1] (m_flow_Through_v1_S1 p l u3 u0) (m_flow_Through_v1_B1 p l u0) (m_flow_Through_v1_Q0 p l) hy (fun s f h => ?_) ?_
      ·clear hy
       show AWp _ _ _ _ _ _ ((m_flow_Through_v1_Q1 p l u3 u0) f) _
       unfold m_flow_Through_L1 at h
       obtain ⟨u1, u2⟩ := s
       refine sz tT ⟨[(7, (vP 12 0)), (k236 l u0), (k231 l), (k232 l), (25, (vI u0)), (k237 u3), (45, (vI u2)), (46, (k139 u2 u3))], (k657 p u1)⟩ {} [] ?_
       refine aQ ?_
       refine bI h (fun hb1 h => ?_) (fun hb1 h => ?_)
       ·refine ct hb1 ?_
        refine aP (aQ (aB (sz tT ⟨[(7, (vP 12 0)), (k236 l u0), (10, (vI u2)), (k231 l), (k232 l), (25, (vI u0)), (k237 u3), (45, (vI u2))], (k657 p u1)⟩ {} [] ?_)))
        refine aQ (bE h fun u7 hr_2 h => ?_)
        have q0 := m_slices_Contains_ok ((at' l u0.toNat).links) u2 hr_2
        refine rg tT ⟨[(7, (vP 12 0)), (k236 l u0), (10, (vI u2)), (k231 l), (k232 l), (25, (vI u0)), (k237 u3), (45, (vI u2)), (51, (vB u7))], (k657 p u1)⟩ [_] { an := [(3, cA q0 [])] } [] ⟨q0, trivial⟩ ?_
        refine bI h (fun hb h => ?_) (fun hb h => ?_)
        ·refine ct hb ?_
         refine aO h fun a1 h => ?_
         refine di tT mX ⟨(k659 l u0 u3 u2), [(k619 p), (k620 p), (k621 p), (11, some (.arr 3 1 u1.length (k250 l u0 u1 u2))), (12, some (.cells 40 [(.own 11 true u1.length)]))]⟩ [_, _, _, _, ArrEq u1.length 1 (k252 l u0 u1 u2) (k250 l u0 u1 u2)] { an := [(8, .arr 0 (k250 l u0 u1 u2))] } [] ⟨a1, (tL a1), a1, (tL a1), (arrEq_set' _ _ _ _ _ _ _ _ rfl (fun j hj => (match j, hj with | 0, _ => rfl))), trivial⟩ (Imp.le (st' := ⟨(k659 l u0 u3 u2), (k666 p u1 u2 l u0)⟩) ⟨⟨tR, tR, tR, tR, tR, tR, tR, trivial⟩, ⟨rfl, .refl _, ⟨rfl, .refl _, ⟨rfl, .refl _, ⟨rfl, oW, ⟨rfl, OLe_cells ⟨cW, trivial⟩, trivial⟩⟩⟩⟩⟩⟩) ?_
         refine rz tT ⟨(k667 u2 l u0 u3), (k666 p u1 u2 l u0)⟩ {} [] ?_
         obtain rfl := oi h
         exact lN (by kernel_rfl)
        ·refine cf hb ?_
         refine aP (rz tT ⟨(k667 u2 l u0 u3), (k657 p u1)⟩ {} [] ?_)
         obtain rfl := oi h
         exact lN (by kernel_rfl)
       ·refine cf hb1 ?_
        refine aI (fz (k656 p u1 l u0) []) ?_
        refine aX ?_
        obtain rfl := oi h
        exact lB (by kernel_rfl)
      ·clear hy
       cases y with
       | brk z =>
        obtain ⟨u6, rfl⟩ : ∃ q, q = z := ⟨_, rfl⟩
        unfold ExK
        refine ⟨_, .refl, ?_⟩
        refine rz tT ⟨[(7, (vP 12 0)), (k231 l), (k232 l), (k255 u0)], (k657 p u6)⟩ {} [] ?_
        obtain rfl := oi h
        exact lN (by kernel_rfl)
       | ret v =>
        obtain rfl := oi h
        unfold ExK
        intro e st hn ha hR
        cases e with
        | normal => exact absurd rfl hn
        | exit id => simp only [av_beq (b := 1) ha rfl, cond_false]; exact hR
        | goto l => exact hR
        | ret => exact hR
        | panic c => exact hR
        | outgrown => exact hR
    ·refine cf hb3 ?_
     refine aI (fz (k658 p u3) []) ?_
     refine aX ?_
     obtain rfl := oi h
     exact lB (by kernel_rfl)
   ·clear hy
    cases y1 with
    | brk z =>
     obtain ⟨u4, rfl⟩ : ∃ q, q = z := ⟨_, rfl⟩
     unfold ExK
     refine ⟨_, .refl, ?_⟩
     refine sg tT ⟨[(4, (vD (slD (some true) 1 (intC .i64) u4))), (5, (vI 0))], (k633 p)⟩ [u4.length = u4.length] {} [11] ⟨rfl, trivial⟩ ?_
     refine aR ?_
     obtain rfl := oi h
     exact rh [(sD (slD (some true) 1 (intC .i64) u4)), (sI 0)] (.refl _) ⟨rfl, .refl _, ⟨rfl, .refl _, ⟨rfl, .refl _, trivial⟩⟩⟩
    | ret v =>
     obtain rfl := oi h
     unfold ExK
     intro e st hn ha hR
     cases e with
     | normal => exact absurd rfl hn
     | exit id => exact hR
     | goto l => exact hR
     | ret => exact hR
     | panic c => exact hR
     | outgrown => exact hR
section
variable (u0 : Machine)
abbrev k668 : Nat × Option Ob := (2, some (arD 126 5 Source.cell u0.p.sources))
abbrev k669 : Nat × Option Ob := (3, some (arD 53 6 Link.cell u0.p.links))
abbrev k670 : Nat × Option Ob := (4, some (arD 166 4 Rack.cell u0.p.racks))
end
def m_guard_machine_look_v1_R (u0 : Machine) : (Machine × Bool) → Exit → St → Prop :=
  fun r => RetQ TT [] (.tup []) [(0, some (.cells 137 [(.own 1 false u0.clearing.events.length), (cB r.1.clearing.cleared), (cI r.1.clearing.millis), (cI r.1.clearing.energy), (.d (slD none 1 boolC r.1.clearing.state.closed)), (.d (slD none 1 boolC r.1.clearing.state.locked)), (.d (slD none 1 boolC r.1.clearing.state.badLink)), (.d (slD none 1 boolC r.1.clearing.state.on_)), (.d (slD none 1 boolC r.1.clearing.state.badSource)), (.d (slD none 1 boolC r.1.clearing.state.earthed)), (.d (slD none 1 boolC r.1.clearing.state.badBus)), (cI r.1.p.buses), (.own 2 true u0.p.sources.length), (.own 3 true u0.p.links.length), (.own 4 true u0.p.racks.length), (cI r.1.bus), (.d (slD (some r.2) 1 (intC .i64) r.1.amps)), (cI r.1.total), (.mp 5), (cI r.1.now)])), (k256 u0), (k668 u0), (k669 u0), (k670 u0), (5, some (mpD 3 3 false false 1 1 (intC .i64) (intC .i64) r.1.since))]
section
variable (u0 : Machine) (u2 : Bool) (u3 : Int)
abbrev k672 : Nat × Option Ob := (0, some (.cells 137 [(.own 1 false u0.clearing.events.length), (cB u0.clearing.cleared), (cI u0.clearing.millis), (cI u0.clearing.energy), (.d (k263 u0)), (.d (k264 u0)), (.d (k265 u0)), (.d (k266 u0)), (.d (k267 u0)), (.d (k268 u0)), (.d (k269 u0)), (cI u0.p.buses), (.own 2 true u0.p.sources.length), (.own 3 true u0.p.links.length), (.own 4 true u0.p.racks.length), (cI u0.bus), (.d (k273 u0 u2)), (cI u3), (.mp 5), (cI u0.now)]))
abbrev k671 : List (Nat × Option Ob) := [(k672 u0 u2 u3), (k256 u0), (k668 u0), (k669 u0), (k670 u0), (k314 u0)]
end
def m_guard_machine_look_v1_S0 (u0 : Machine) (u2 : Bool) (r_ : ((List Short) × Int)) (u1 : ((List Int) × Bool × Int)) : (Int × Int) → St :=
  fun zz => match zz with | (u3, u4) => ⟨(k258 u1 r_ u4), (k671 u0 u2 u3)⟩
section
variable (u1 : ((List Int) × Bool × Int)) (u0 : Machine) (u2 : Bool) (u3 : Int)
abbrev k673 : St := ⟨(k277 u1), (k671 u0 u2 u3)⟩
end
def m_guard_machine_look_v1_B0 (u0 : Machine) (u2 : Bool) (u1 : ((List Int) × Bool × Int)) : Int → St :=
  fun u3 => (k673 u1 u0 u2 u3)
def m_guard_machine_look_v1_Q0 (u0 : Machine) (u1 : Bool) (r_ : ((List Short) × Int)) (u2 : ((List Int) × Bool × Int)) : (Flow (Int × Int) (Ex Int (Machine × Bool))) → Exit → St → Prop :=
  LQ 0 [] (m_guard_machine_look_v1_S0 u0 u1 r_ u2) (m_guard_machine_look_v1_B0 u0 u1 u2) (m_guard_machine_look_v1_R u0)
section
variable (u4 : (List (Int × Int))) (u0 : Machine) (u2 : Bool) (u3 : Int)
abbrev k675 : Nat × Option Ob := (5, some (k283 u4))
abbrev k674 : List (Nat × Option Ob) := [(k672 u0 u2 u3), (k256 u0), (k668 u0), (k669 u0), (k670 u0), (k675 u4)]
end
def m_guard_machine_look_v1_S1 (u0 : Machine) (u2 : Bool) (u1 : ((List Int) × Bool × Int)) (u3 : Int) : ((List (Int × Int)) × Int) → St :=
  fun zz => match zz with | (u4, u5) => ⟨(k278 u1 u5), (k674 u4 u0 u2 u3)⟩
section
variable (u1 : ((List Int) × Bool × Int)) (u0 : Machine) (u2 : Bool) (u3 : Int) (u4 : (List (Int × Int)))
abbrev k676 : St := ⟨(k277 u1), (k674 u4 u0 u2 u3)⟩
end
def m_guard_machine_look_v1_B1 (u0 : Machine) (u2 : Bool) (u1 : ((List Int) × Bool × Int)) (u3 : Int) : (List (Int × Int)) → St :=
  fun u4 => (k676 u1 u0 u2 u3 u4)
def m_guard_machine_look_v1_Q1 (u0 : Machine) (u1 : Bool) (u2 : ((List Int) × Bool × Int)) (u3 : Int) : (Flow ((List (Int × Int)) × Int) (Ex (List (Int × Int)) (Machine × Bool))) → Exit → St → Prop :=
  LQ 2 [] (m_guard_machine_look_v1_S1 u0 u1 u2 u3) (m_guard_machine_look_v1_B1 u0 u1 u2 u3) (m_guard_machine_look_v1_R u0)
section
variable (u0 : Machine) (u2 : Bool) (u7 : Int) (r_ : ((List Short) × Int)) (u6 : Int) (u5 : Int) (u3 : Int) (u4 : (List (Int × Int)))
abbrev k679 : List CV := [(.own 1 false u0.clearing.events.length), (cB u0.clearing.cleared), (cI u0.clearing.millis), (cI u0.clearing.energy), (.d (k263 u0)), (.d (k264 u0)), (.d (k265 u0)), (.d (k266 u0)), (.d (k267 u0)), (.d (k268 u0)), (.d (k269 u0)), (cI u0.p.buses), (.own 2 true u0.p.sources.length), (.own 3 true u0.p.links.length), (.own 4 true u0.p.racks.length), (cI u0.bus), (.d (k273 u0 u2)), (cI u0.total), (.mp 5), (cI u0.now)]
abbrev k678 : Nat × Option Ob := (0, some (.cells 137 (k679 u0 u2)))
abbrev k677 : List (Nat × Option Ob) := [(k678 u0 u2), (k256 u0), (k668 u0), (k669 u0), (k670 u0), (k314 u0)]
abbrev k680 : List (Nat × Option Ob) := [(0, some (.cells 137 [(.own 1 false u0.clearing.events.length), (cB u0.clearing.cleared), (cI u0.clearing.millis), (cI u0.clearing.energy), (.d (k263 u0)), (.d (k264 u0)), (.d (k265 u0)), (.d (k266 u0)), (.d (k267 u0)), (.d (k268 u0)), (.d (k269 u0)), (cI u0.p.buses), (.own 2 true u0.p.sources.length), (.own 3 true u0.p.links.length), (.own 4 true u0.p.racks.length), (cI u0.bus), (.d (k273 u0 u2)), (cI 0), (.mp 5), (cI u0.now)])), (k256 u0), (k668 u0), (k669 u0), (k670 u0), (k314 u0)]
abbrev k681 : List (Nat × Option Ob) := [(0, some (.cells 137 [(.own 1 false u0.clearing.events.length), (cB u0.clearing.cleared), (cI u0.clearing.millis), (cI u0.clearing.energy), (.d (k263 u0)), (.d (k264 u0)), (.d (k265 u0)), (.d (k266 u0)), (.d (k267 u0)), (.d (k268 u0)), (.d (k269 u0)), (cI u0.p.buses), (.own 2 true u0.p.sources.length), (.own 3 true u0.p.links.length), (.own 4 true u0.p.racks.length), (cI u0.bus), (.d (k273 u0 u2)), (cI (IntKind.wrap .i64 (u7 + ((at' r_.1 u6.toNat).amps)))), (.mp 5), (cI u0.now)])), (k256 u0), (k668 u0), (k669 u0), (k670 u0), (k314 u0)]
abbrev k682 : List (Nat × Option Ob) := [(k672 u0 u2 u5), (k256 u0), (k668 u0), (k669 u0), (k670 u0), (5, some (mpD 3 3 false false 1 1 (intC .i64) (intC .i64) (mset eqI u3 u0.now u4)))]
end
theorem m_guard_machine_look_v1_ok (u0 : Machine) (u2 : Bool) {r : (Machine × Bool)} (h : m_guard_machine_look u0 u2 = some r) : Fn Try.prog 108 [(.one (.ptr 0 0))] (k677 u0 u2) (.tup []) [(0, some (.cells 137 [(.own 1 false u0.clearing.events.length), (cB r.1.clearing.cleared), (cI r.1.clearing.millis), (cI r.1.clearing.energy), (.d (slD none 1 boolC r.1.clearing.state.closed)), (.d (slD none 1 boolC r.1.clearing.state.locked)), (.d (slD none 1 boolC r.1.clearing.state.badLink)), (.d (slD none 1 boolC r.1.clearing.state.on_)), (.d (slD none 1 boolC r.1.clearing.state.badSource)), (.d (slD none 1 boolC r.1.clearing.state.earthed)), (.d (slD none 1 boolC r.1.clearing.state.badBus)), (cI r.1.p.buses), (.own 2 true u0.p.sources.length), (.own 3 true u0.p.links.length), (.own 4 true u0.p.racks.length), (cI r.1.bus), (.d (slD (some r.2) 1 (intC .i64) r.1.amps)), (cI r.1.total), (.mp 5), (cI r.1.now)])), (k256 u0), (k668 u0), (k669 u0), (k670 u0), (5, some (mpD 3 3 false false 1 1 (intC .i64) (intC .i64) r.1.since))] := by
 refine fN tT Try.func108 rfl rfl fun B => ?_
 show AWp _ _ _ _ _ _ ((m_guard_machine_look_v1_R u0) r) _
 unfold m_guard_machine_look at h
 refine aQ (bE h fun r_ hr_ h => ?_)
 have q0 := rk [(0, 2), (1, 3), (0, 4)] (m_flow_Shorts_v1_ok u0.p u0.clearing.state u0.bus hr_)
 refine dg tT mX ⟨[(0, (vP 0 0)), (2, (vD (slD none 4 Short.cell r_.1)))], (k677 u0 u2)⟩ [_] { an := [(13, cR q0 [2, 3, 4])] } [] ⟨q0, trivial⟩ ?_
 refine aQ (bE h fun u1 hr_1 h => ?_)
 have q0 := rk [(0, 2), (1, 3), (0, 4)] (m_flow_Through_v1_ok u0.p r_.1 hr_1)
 refine rg tT ⟨(k288 r_ u1), (k677 u0 u2)⟩ [_] { an := [(5, cR q0 [2, 3, 4])] } [] ⟨q0, trivial⟩ ?_
 refine sz tT ⟨(k288 r_ u1), (k680 u0 u2)⟩ {} [] ?_
 refine aQ (sz tT ⟨(k290 r_ u1), (k680 u0 u2)⟩ {} [] ?_)
 refine bE h fun y hy h => ?_
 refine aL [] (m_guard_machine_look_v1_S0 u0 u2 r_ u1) (m_guard_machine_look_v1_B0 u0 u2 u1) (m_guard_machine_look_v1_R u0) hy (fun s f h => ?_) ?_
 ·clear hy
  show AWp _ _ _ _ _ _ ((m_guard_machine_look_v1_Q0 u0 u2 r_ u1) f) _
  unfold m_guard_machine_look_L0 at h
  obtain ⟨u7, u6⟩ := s
  refine sz tT ⟨(k291 r_ u1 u6), (k671 u0 u2 u7)⟩ {} [] ?_
  refine aQ ?_
  refine bI h (fun hb h => ?_) (fun hb h => ?_)
  ·refine ct hb ?_
   refine aP (aQ (aB (aQ (aO h fun a1 h => ?_))))
   refine rg tT ⟨(k292 r_ u1 u6), (k671 u0 u2 u7)⟩ [_] { fr := [(2, 13)] } [13] ⟨a1, trivial⟩ ?_
   refine dg tT mX ⟨(k258 u1 r_ u6), (k681 u0 u2 u7 r_ u6)⟩ [] {} [] trivial ?_
   refine rz tT ⟨(k294 r_ u1 u6), (k681 u0 u2 u7 r_ u6)⟩ {} [] ?_
   obtain rfl := oi h
   exact lN (by kernel_rfl)
  ·refine cf hb ?_
   refine aI (fz (k673 u1 u0 u2 u7) []) ?_
   refine aX ?_
   obtain rfl := oi h
   exact lB (by kernel_rfl)
 ·clear hy
  cases y with
  | brk z =>
   obtain ⟨u5, rfl⟩ : ∃ q, q = z := ⟨_, rfl⟩
   unfold ExK
   refine ⟨_, .refl, ?_⟩
   refine aQ (sz tT ⟨(k295 u1), (k671 u0 u2 u5)⟩ {} [] ?_)
   refine bE h fun y1 hy h => ?_
   refine aL [] (m_guard_machine_look_v1_S1 u0 u2 u1 u5) (m_guard_machine_look_v1_B1 u0 u2 u1 u5) (m_guard_machine_look_v1_R u0) hy (fun s f h => ?_) ?_
   ·clear hy
    show AWp _ _ _ _ _ _ ((m_guard_machine_look_v1_Q1 u0 u2 u1 u5) f) _
    unfold m_guard_machine_look_L1 at h
    obtain ⟨u4, u3⟩ := s
    refine sz tT ⟨(k296 u1 u3), (k674 u4 u0 u2 u5)⟩ {} [] ?_
    refine aQ ?_
    refine bI h (fun hb2 h => ?_) (fun hb2 h => ?_)
    ·refine ct hb2 ?_
     refine aP (aQ (aB (aQ (aO h fun a1 h => ?_))))
     refine rg tT ⟨(k297 u1 u3), (k674 u4 u0 u2 u5)⟩ [_] {} [] ⟨a1, trivial⟩ ?_
     refine aQ (aO h fun a1 h => ?_)
     refine rg tT ⟨(k298 u0 u2 u1 u3), (k674 u4 u0 u2 u5)⟩ (k299 u0 u2 u3) { yb := [(5, (!u2))] } [] (ae ⟨(fun hg => ⟨(a1 (gB_of hg)), trivial⟩), (ae trivial)⟩) ?_
     refine bI h (fun hb1 h => ?_) (fun hb1 h => ?_)
     ·refine ct hb1 ?_
      refine dg tT mX ⟨(k278 u1 u3), (k682 u0 u2 u5 u3 u4)⟩ [SetAt [some .i64] 1 1 u4.length (kOf (intC .i64) u4) (vOf (intC .i64) u4) [(.int .i64 u3)] [(cI u0.now)] [] (mset eqI u3 u0.now u4).length (kOf (intC .i64) (mset eqI u3 u0.now u4)) (vOf (intC .i64) (mset eqI u3 u0.now u4))] { an := [(9, .map (mset eqI u3 u0.now u4).length (kOf (intC .i64) (mset eqI u3 u0.now u4)) (vOf (intC .i64) (mset eqI u3 u0.now u4)) [])] } [] ⟨(setAt_of (fun _ => rfl) (fun _ _ => rfl) u4 u3 u0.now rfl rfl), trivial⟩ ?_
      refine rz tT ⟨(k301 u1 u3), (k682 u0 u2 u5 u3 u4)⟩ {} [] ?_
      obtain rfl := oi h
      exact lN (by kernel_rfl)
     ·refine cf hb1 ?_
      refine aP (rz tT ⟨(k301 u1 u3), (k674 u4 u0 u2 u5)⟩ {} [] ?_)
      obtain rfl := oi h
      exact lN (by kernel_rfl)
    ·refine cf hb2 ?_
     refine aI (fz (k676 u1 u0 u2 u5 u4) []) ?_
     refine aX ?_
     obtain rfl := oi h
     exact lB (by kernel_rfl)
   ·clear hy
    cases y1 with
    | brk z =>
     obtain ⟨u8, rfl⟩ : ∃ q, q = z := ⟨_, rfl⟩
     unfold ExK
     refine ⟨_, .refl, ?_⟩
     refine rz tT ⟨[], [(0, some (.cells 137 [(.own 1 false u0.clearing.events.length), (cB u0.clearing.cleared), (cI u0.clearing.millis), (cI u0.clearing.energy), (.d (k263 u0)), (.d (k264 u0)), (.d (k265 u0)), (.d (k266 u0)), (.d (k267 u0)), (.d (k268 u0)), (.d (k269 u0)), (cI u0.p.buses), (.own 2 true u0.p.sources.length), (.own 3 true u0.p.links.length), (.own 4 true u0.p.racks.length), (cI u0.bus), (.d (slD (some u1.2.1) 1 (intC .i64) u1.1)), (cI u5), (.mp 5), (cI u0.now)])), (k256 u0), (k668 u0), (k669 u0), (k670 u0), (k675 u8)]⟩ {} [] ?_
     obtain rfl := oi h
     exact RetQ.mk (.inl rfl) (p := []) (l := []) (by kernel_rfl) trivial (TLe.refl _) ⟨rfl, .refl _, ⟨rfl, .refl _, ⟨rfl, .refl _, ⟨rfl, .refl _, ⟨rfl, .refl _, ⟨rfl, .refl _, trivial⟩⟩⟩⟩⟩⟩
    | ret v =>
     obtain rfl := oi h
     unfold ExK
     intro e st hn ha hR
     cases e with
     | normal => exact absurd rfl hn
     | exit id => exact hR
     | goto l => exact hR
     | ret => exact hR
     | panic c => exact hR
     | outgrown => exact hR
  | ret v =>
   obtain rfl := oi h
   unfold ExK
   intro e st hn ha hR
   cases e with
   | normal => exact absurd rfl hn
   | exit id => exact hR
   | goto l => exact hR
   | ret => exact hR
   | panic c => exact hR
   | outgrown => exact hR
section
variable (u0 : Machine) (u1 : Bool)
abbrev k683 : List (Nat × Option Ob) := [(k678 u0 u1), (k256 u0), (k668 u0), (k669 u0), (k670 u0), (k314 u0), (6, some k303)]
end
def m_guard_machine_armed_v1_R (u0 : Machine) (u1 : Bool) : Unit → Exit → St → Prop :=
  fun _ => RetQ TT [.tmp 2] (.v (.one (.fn 153 0 1 (capC [(.ptr 6 0)])))) (k683 u0 u1)
section
variable (u0 : Machine) (u1 : Bool)
abbrev k684 : List (Nat × Option Ob) := [(k678 u0 u1), (k256 u0), (k668 u0), (k669 u0), (k670 u0), (k314 u0), (7, some k303)]
end
theorem m_guard_machine_armed_v1_ok (u0 : Machine) (u1 : Bool) {r : Unit} (h : m_guard_machine_armed u0 u1 = some r) : Fn Try.prog 144 [(.one (.ptr 0 0))] (k677 u0 u1) (.v (.one (.fn 153 0 1 (capC [(.ptr 6 0)])))) (k683 u0 u1) := by
 refine fN tT Try.func144 rfl rfl fun B => ?_
 show AWp _ _ _ _ _ _ ((m_guard_machine_armed_v1_R u0 u1) r) _
 unfold m_guard_machine_armed at h
 refine sz tT ⟨[(1, (vP 7 0))], (k684 u0 u1)⟩ { fr := [(0, 7)] } [] ?_
 refine sz tT ⟨[(2, (.v (.one (.fn 153 0 1 (capC [(.ptr 7 0)])))))], (k684 u0 u1)⟩ {} [] ?_
 refine aI (Imp.fin (st' := ⟨[(2, (.v (.one (.fn 153 0 1 (capC [(.ptr 6 0)])))))], (k683 u0 u1)⟩) (cs := []) ⟨[], [(0, 0), (1, 1), (2, 2), (3, 3), (4, 4), (5, 5), (7, 6)]⟩ [2] (by kernel_rfl) trivial) ?_
 refine aR ?_
 obtain rfl := oi h
 exact rh [(.one (.fn 153 0 1 (capC [(.ptr 6 0)])))] (.refl _) ⟨rfl, .refl _, ⟨rfl, .refl _, ⟨rfl, .refl _, ⟨rfl, .refl _, ⟨rfl, .refl _, ⟨rfl, .refl _, ⟨rfl, .refl _, trivial⟩⟩⟩⟩⟩⟩⟩
section
variable (u0 : Machine) (u1 : Bool)
abbrev k685 : Nat × Option Ob := (3, some (.cells 137 [(.own 4 false u0.clearing.events.length), (cB u0.clearing.cleared), (cI u0.clearing.millis), (cI u0.clearing.energy), (.d (k263 u0)), (.d (k264 u0)), (.d (k265 u0)), (.d (k266 u0)), (.d (k267 u0)), (.d (k268 u0)), (.d (k269 u0)), (cI u0.p.buses), (.own 5 true u0.p.sources.length), (.own 6 true u0.p.links.length), (.own 7 true u0.p.racks.length), (cI u0.bus), (.d (k273 u0 u1)), (cI u0.total), (.mp 8), (cI u0.now)]))
abbrev k686 : Nat × Option Ob := (5, some (arD 126 5 Source.cell u0.p.sources))
abbrev k687 : Nat × Option Ob := (6, some (arD 53 6 Link.cell u0.p.links))
abbrev k688 : Nat × Option Ob := (7, some (arD 166 4 Rack.cell u0.p.racks))
abbrev k689 : Nat × Option Ob := (8, some (k275 u0))
end
def m_guard_machine_armed_1_v2_R (u0 : Machine) (u1 : Bool) : Int → Exit → St → Prop :=
  fun r => RetQ TT [] (.tup []) [k310, k311, (2, some (.cells 3 [(cI r)])), (k685 u0 u1), (k313 u0), (k686 u0), (k687 u0), (k688 u0), (k689 u0)]
section
variable (u0 : Machine) (u2 : Int) (u1 : Bool)
abbrev k690 : Nat × TV := (11, (vO 6 true u0.p.links.length))
abbrev k691 : List (Nat × Option Ob) := [k310, k311, (k320 u2), (k685 u0 u1), (k313 u0), (k686 u0), (k687 u0), (k688 u0), (k689 u0)]
end
def m_guard_machine_armed_1_v2_S0 (u0 : Machine) (u1 : Bool) : (Int × Int) → St :=
  fun zz => match zz with | (u2, u3) => ⟨[k316, (1, (vP 1 0)), (k690 u0), (k318 u0), (13, (vI u3))], (k691 u0 u2 u1)⟩
def m_guard_machine_armed_1_v2_B0 (u0 : Machine) (u1 : Bool) : Int → St :=
  fun o301 => ⟨[], [k310, k311, (2, some (.cells 3 [(cI o301)])), (k685 u0 u1), (k313 u0), (k686 u0), (k687 u0), (k688 u0), (k689 u0)]⟩
def m_guard_machine_armed_1_v2_Q0 (u0 : Machine) (u1 : Bool) : (Flow (Int × Int) (Ex Int Int)) → Exit → St → Prop :=
  LQ 0 [] (m_guard_machine_armed_1_v2_S0 u0 u1) (m_guard_machine_armed_1_v2_B0 u0 u1) (m_guard_machine_armed_1_v2_R u0 u1)
section
variable (u0 : Machine) (u1 : Int) (u3 : Int) (u2 : Bool) (u4 : Int)
abbrev k692 : St := ⟨[k316, (1, (vP 1 0)), (k690 u0), (k318 u0), (k335 u1)], (k691 u0 u3 u2)⟩
abbrev k693 : St := ⟨[], (k691 u0 u4 u2)⟩
end
theorem m_guard_machine_armed_1_v2_ok (u5 : Int) (u0 : Machine) (u2 : Bool) {r : Int} (h : m_guard_machine_armed_1 u5 u0 u2 = some r) : Fn Try.prog 153 k321 (k691 u0 u5 u2) (.tup []) [k310, k311, (2, some (.cells 3 [(cI r)])), (k685 u0 u2), (k313 u0), (k686 u0), (k687 u0), (k688 u0), (k689 u0)] := by
 refine fN tT Try.func153 rfl rfl fun B => ?_
 show AWp _ _ _ _ _ _ ((m_guard_machine_armed_1_v2_R u0 u2) r) _
 unfold m_guard_machine_armed_1 at h
 refine sz tT ⟨[k316, (1, (vP 1 0)), (k690 u0), (k318 u0), (13, (vI 0))], (k691 u0 u5 u2)⟩ {} [] ?_
 refine bE h fun y hy h => ?_
 refine aL [] (m_guard_machine_armed_1_v2_S0 u0 u2) (m_guard_machine_armed_1_v2_B0 u0 u2) (m_guard_machine_armed_1_v2_R u0 u2) hy (fun s f h => ?_) ?_
 ·clear hy
  show AWp _ _ _ _ _ _ ((m_guard_machine_armed_1_v2_Q0 u0 u2) f) _
  unfold m_guard_machine_armed_1_L0 at h
  obtain ⟨u3, u1⟩ := s
  refine sz tT ⟨[k316, (1, (vP 1 0)), (k690 u0), (k318 u0), (13, (vI u1)), (14, (vB (decide (u1 < (u0.p.links.length : Int)))))], (k691 u0 u3 u2)⟩ {} [] ?_
  refine aQ ?_
  refine bI h (fun hb3 h => ?_) (fun hb3 h => ?_)
  ·refine ct hb3 ?_
   refine aP (aQ (aB (aQ (aO h fun a1 h => ?_))))
   refine rg tT ⟨[k316, (1, (vP 1 0)), (3, (vI u1)), (k325 u0 u1), (k690 u0), (k318 u0), (13, (vI u1))], (k691 u0 u3 u2)⟩ [_, _] { fr := [(3, 16)] } [16] ⟨a1, (tL a1), trivial⟩ ?_
   refine aQ (aQ (aO h fun ⟨a1, a2⟩ h => ?_))
   refine rg tT ⟨[k316, (1, (vP 1 0)), (3, (vI u1)), (k325 u0 u1), (k690 u0), (k318 u0), (13, (vI u1)), (k328 u0 u1)], (k691 u0 u3 u2)⟩ (k331 u0 u1) { yb := [(3, (k330 u0 u1)), (15, (k329 u0 u1))] } [] (ae ⟨(fun hg => ⟨(a1 (gB_of hg)), trivial⟩), (ae (ae ⟨(fun hg => ⟨(a2 (gB_of hg)), trivial⟩), (ae trivial)⟩))⟩) ?_
   refine bI h (fun hb2 h => ?_) (fun hb2 h => ?_)
   ·refine ct hb2 ?_
    refine aX (rz tT (k692 u0 u1 u3 u2) {} [] ?_)
    obtain rfl := oi h
    exact lN (by kernel_rfl)
   ·refine cf hb2 ?_
    refine aP (aQ (bE h fun r_ hr_ h => ?_))
    refine aO h fun a1 h => ?_
    have q1 := m_guard_Delay_ok (k326 u0 u1) (at' u0.amps u1.toNat) hr_
    refine dg tT mX ⟨[k316, (1, (vP 1 0)), (3, (vI u1)), (5, (vI r_.1)), (6, (vB r_.2)), (k690 u0), (k318 u0), (13, (vI u1))], (k691 u0 u3 u2)⟩ [_, _] { an := [(8, cA q1 [])] } [] ⟨a1, q1, trivial⟩ ?_
    refine aQ ?_
    refine bI h (fun hb h => ?_) (fun hb h => ?_)
    ·skip
     refine bE h fun u4 hr_1 h => ?_
     refine ri tT ⟨[k316, (1, (vP 1 0)), (k690 u0), (k318 u0), (13, (vI u1)), (70, (vB (bif r_.2 then (!true) else false)))], (k691 u0 u4 u2)⟩ [r_.2 = true, r_.2 = true, r_.2 = true, r_.2 = true, r_.2 = true, r_.2 = true, r_.2 = true, r_.2 = true, gP (ybf [(1, true)]) [(1, true)] → All [LookAt [some .i64] 1 1 u0.since.length (kOf (intC .i64) u0.since) (vOf (intC .i64) u0.since) [(.int .i64 u1)] [(.d (.int .i64 0))] (mget eqI u1 u0.since).isSome (k338 u0 u1)], r_.2 = true, r_.2 = true, r_.2 = true, gP (ybf [(1, true)]) [(1, true)] → All [Yl Try.prog 0 (k339 u0 u1 r_) (k341 u3) (vB true) (k341 u4)], gP (ybf [(1, true)]) [(1, true)], r_.2 = true, r_.2 = true] { yb := [(1, true)], an := [(9, .look (mget eqI u1 u0.since).isSome (k338 u0 u1)), (12, .call [0, 2] (vB true) (k341 u4))] } [] ⟨(hb), (hb), (hb), (hb), (hb), (hb), (hb), (hb), (fun hg => ⟨(lookAt_of (fun _ => rfl) (fun _ _ => rfl) u0.since u1 0 rfl rfl rfl), trivial⟩), (hb), (hb), (hb), (fun hg => ⟨(Yl.renK [(1, 2)] (m_guard_machine_round_r0_Y_ok u1 (k340 u0 u1 r_) u3 hr_1) (by kernel_rfl) (by kernel_rfl) (by kernel_rfl) (by kernel_rfl) (by kernel_rfl)), trivial⟩), (⟨rfl, trivial⟩), (hb), (hb), trivial⟩ (Imp.le (st' := ⟨[k316, (1, (vP 1 0)), (k690 u0), (k318 u0), (13, (vI u1)), (70, (vB (!true)))], (k691 u0 u4 u2)⟩) ⟨⟨tR, tR, tR, tR, tR, ⟨_, rfl, TLe.v (SLe.one (CLe.of (congrArg (fun b => CV.d (.bool b)) (bifT hb))))⟩, trivial⟩, ⟨rfl, .refl _, ⟨rfl, .refl _, ⟨rfl, .refl _, ⟨rfl, .refl _, ⟨rfl, .refl _, ⟨rfl, .refl _, ⟨rfl, .refl _, ⟨rfl, .refl _, ⟨rfl, .refl _, trivial⟩⟩⟩⟩⟩⟩⟩⟩⟩⟩) ?_
     refine bI h (fun hb1 h => ?_) (fun hb1 h => ?_)
     ·refine ct hb1 ?_
      refine aI (fz (k693 u0 u2 u4) []) ?_
      refine aR ?_
      obtain rfl := oi h
      exact lR ret_nn (ret_ne 0) av_ret (RetQ.mk (.inr rfl) (p := []) (l := []) (by kernel_rfl) trivial (TLe.refl _) ⟨rfl, .refl _, ⟨rfl, .refl _, ⟨rfl, .refl _, ⟨rfl, .refl _, ⟨rfl, .refl _, ⟨rfl, .refl _, ⟨rfl, .refl _, ⟨rfl, .refl _, ⟨rfl, .refl _, trivial⟩⟩⟩⟩⟩⟩⟩⟩⟩)
     ·refine cf hb1 ?_
      refine aP (rz tT (k692 u0 u1 u4 u2) {} [] ?_)
      obtain rfl := oi h
      exact lN (by kernel_rfl)
    ·skip
     refine ri tT ⟨[k316, (1, (vP 1 0)), (k690 u0), (k318 u0), (13, (vI u1)), (70, (vB (bif r_.2 then false else false)))], (k691 u0 u3 u2)⟩ [r_.2 = false, ¬ gP (ybf [(1, false)]) [(1, true)], r_.2 = false, ¬ gP (ybf [(1, false)]) [(1, true)], r_.2 = false, ¬ gP (ybf [(1, false)]) [(1, true)], r_.2 = false, ¬ gP (ybf [(1, false)]) [(1, true)], r_.2 = false, ¬ gP (ybf [(1, false)]) [(1, true)], r_.2 = false, ¬ gP (ybf [(1, false)]) [(1, true)], r_.2 = false, ¬ gP (ybf [(1, false)]) [(1, true)], r_.2 = false, ¬ gP (ybf [(1, false)]) [(1, true)], r_.2 = false, ¬ gP (ybf [(1, false)]) [(1, true)], r_.2 = false, ¬ gP (ybf [(1, false)]) [(1, true)], r_.2 = false, ¬ gP (ybf [(1, false)]) [(1, true)], r_.2 = false, ¬ gP (ybf [(1, false)]) [(1, true)], r_.2 = false] { yb := [(1, false)], an := [(2, .skip), (3, .skip), (4, .skip), (5, .skip), (6, .skip), (7, .skip), (8, .skip), (9, .skip), (10, .skip), (11, .skip), (12, .skip), (13, .skip)] } [] ⟨(hb), ((fun h => Bool.noConfusion (show false = true from h.1))), (hb), ((fun h => Bool.noConfusion (show false = true from h.1))), (hb), ((fun h => Bool.noConfusion (show false = true from h.1))), (hb), ((fun h => Bool.noConfusion (show false = true from h.1))), (hb), ((fun h => Bool.noConfusion (show false = true from h.1))), (hb), ((fun h => Bool.noConfusion (show false = true from h.1))), (hb), ((fun h => Bool.noConfusion (show false = true from h.1))), (hb), ((fun h => Bool.noConfusion (show false = true from h.1))), (hb), ((fun h => Bool.noConfusion (show false = true from h.1))), (hb), ((fun h => Bool.noConfusion (show false = true from h.1))), (hb), ((fun h => Bool.noConfusion (show false = true from h.1))), (hb), ((fun h => Bool.noConfusion (show false = true from h.1))), (hb), trivial⟩ (Imp.le (st' := ⟨[k316, (1, (vP 1 0)), (k690 u0), (k318 u0), (13, (vI u1)), (70, (vB false))], (k691 u0 u3 u2)⟩) ⟨⟨tR, tR, tR, tR, tR, ⟨_, rfl, TLe.v (SLe.one (CLe.of (congrArg (fun b => CV.d (.bool b)) (bifF hb))))⟩, trivial⟩, ⟨rfl, .refl _, ⟨rfl, .refl _, ⟨rfl, .refl _, ⟨rfl, .refl _, ⟨rfl, .refl _, ⟨rfl, .refl _, ⟨rfl, .refl _, ⟨rfl, .refl _, ⟨rfl, .refl _, trivial⟩⟩⟩⟩⟩⟩⟩⟩⟩⟩) ?_
     refine cn (aP (rz tT (k692 u0 u1 u3 u2) {} [] ?_))
     obtain rfl := oi h
     exact lN (by kernel_rfl)
  ·refine cf hb3 ?_
   refine aI (fz (k693 u0 u2 u3) []) ?_
   refine aX ?_
   obtain rfl := oi h
   exact lB (by kernel_rfl)
 ·clear hy
  cases y with
  | brk z =>
   obtain ⟨o301, rfl⟩ : ∃ q, q = z := ⟨_, rfl⟩
   unfold ExK
   refine ⟨_, .refl, ?_⟩
   obtain rfl := oi h
   exact RetQ.mk (.inl rfl) (p := []) (l := []) (by kernel_rfl) trivial (TLe.refl _) ⟨rfl, .refl _, ⟨rfl, .refl _, ⟨rfl, .refl _, ⟨rfl, .refl _, ⟨rfl, .refl _, ⟨rfl, .refl _, ⟨rfl, .refl _, ⟨rfl, .refl _, ⟨rfl, .refl _, trivial⟩⟩⟩⟩⟩⟩⟩⟩⟩
  | ret v =>
   obtain rfl := oi h
   unfold ExK
   intro e st hn ha hR
   cases e with
   | normal => exact absurd rfl hn
   | exit id => exact hR
   | goto l => exact hR
   | ret => exact hR
   | panic c => exact hR
   | outgrown => exact hR
section
variable (u0 : Machine) (u2 : Bool)
abbrev k694 : Nat × Option Ob := (4, some (.cells 137 [(.own 6 false u0.clearing.events.length), (cB u0.clearing.cleared), (cI u0.clearing.millis), (cI u0.clearing.energy), (.d (k263 u0)), (.d (k264 u0)), (.d (k265 u0)), (.d (k266 u0)), (.d (k267 u0)), (.d (k268 u0)), (.d (k269 u0)), (cI u0.p.buses), (.own 7 true u0.p.sources.length), (.own 8 true u0.p.links.length), (.own 9 true u0.p.racks.length), (cI u0.bus), (.d (k273 u0 u2)), (cI u0.total), (.mp 10), (cI u0.now)]))
abbrev k695 : Nat × Option Ob := (7, some (arD 126 5 Source.cell u0.p.sources))
abbrev k696 : Nat × Option Ob := (8, some (arD 53 6 Link.cell u0.p.links))
abbrev k697 : Nat × Option Ob := (9, some (arD 166 4 Rack.cell u0.p.racks))
abbrev k698 : Nat × Option Ob := (10, some (k275 u0))
end
def m_guard_machine_armed_1_v3_R (u1 : Int) (u0 : Machine) (u2 : Bool) : (List Int) → Exit → St → Prop :=
  fun r => RetQ TT [] (.tup []) [k352, k353, (k320 u1), (3, some (.cells 40 [(.own 11 false r.length)])), (k694 u0 u2), (5, none), (k355 u0), (k695 u0), (k696 u0), (k697 u0), (k698 u0), (11, some (arD 3 1 (intC .i64) r))]
section
variable (u0 : Machine) (u2 : Int) (u1 : (List Int)) (u3 : Bool)
abbrev k699 : Nat × TV := (11, (vO 8 true u0.p.links.length))
abbrev k700 : List (Nat × Option Ob) := [k352, k353, (k320 u2), (3, some (.cells 40 [(.own 27 false u1.length)])), (k694 u0 u3), (5, none), (k355 u0), (k695 u0), (k696 u0), (k697 u0), (k698 u0), (27, some (k226 u1))]
end
def m_guard_machine_armed_1_v3_S0 (u2 : Int) (u0 : Machine) (u3 : Bool) : ((List Int) × Int) → St :=
  fun zz => match zz with | (u1, u4) => ⟨[k316, (1, (vP 1 0)), (k699 u0), (k318 u0), (13, (vI u4))], (k700 u0 u2 u1 u3)⟩
def m_guard_machine_armed_1_v3_B0 (u1 : Int) (u0 : Machine) (u2 : Bool) : (List Int) → St :=
  fun o601 => ⟨[], [k352, k353, (k320 u1), (3, some (.cells 40 [(.own 27 false o601.length)])), (k694 u0 u2), (5, none), (k355 u0), (k695 u0), (k696 u0), (k697 u0), (k698 u0), (27, some (arD 3 1 (intC .i64) o601))]⟩
def m_guard_machine_armed_1_v3_Q0 (u0 : Int) (u1 : Machine) (u2 : Bool) : (Flow ((List Int) × Int) (Ex (List Int) (List Int))) → Exit → St → Prop :=
  LQ 0 [] (m_guard_machine_armed_1_v3_S0 u0 u1 u2) (m_guard_machine_armed_1_v3_B0 u0 u1 u2) (m_guard_machine_armed_1_v3_R u0 u1 u2)
section
variable (u2 : Int) (o_ : (List Int)) (u0 : Machine) (u3 : Bool) (u1 : Int) (u4 : (List Int)) (u5 : (List Int))
abbrev k701 : List (Nat × Option Ob) := [k352, k353, (k320 u2), (3, some (.cells 40 [(.own 5 false o_.length)])), (k694 u0 u3), (5, some (k226 o_)), (k355 u0), (k695 u0), (k696 u0), (k697 u0), (k698 u0)]
abbrev k702 : List (Nat × TV) := [k316, (1, (vP 1 0)), (k699 u0), (k318 u0), (13, (vI 0))]
abbrev k704 : List (Nat × TV) := [k316, (1, (vP 1 0)), (k699 u0), (k318 u0), (k335 u1)]
abbrev k703 : St := ⟨(k704 u0 u1), (k700 u0 u2 u4 u3)⟩
abbrev k705 : List (Nat × Option Ob) := [k352, k353, (k320 u2), (3, some (.cells 40 [(.own 31 false u5.length)])), (k694 u0 u3), (5, none), (k355 u0), (k695 u0), (k696 u0), (k697 u0), (k698 u0), (31, some (k226 u5))]
abbrev k706 : List (Nat × Option Ob) := [k352, (k320 u2), (3, some (.cells 40 [(.own 31 false u5.length)])), (27, none), (31, some (k226 u5))]
end
theorem m_guard_machine_armed_1_v3_ok (u2 : Int) (o_ : (List Int)) (u0 : Machine) (u3 : Bool) {r : (List Int)} (h : m_guard_machine_armed_1_v1 u2 o_ u0 u3 = some r) : Fn Try.prog 153 k321 (k701 u2 o_ u0 u3) (.tup []) [k352, k353, (k320 u2), (3, some (.cells 40 [(.own 11 false r.length)])), (k694 u0 u3), (5, none), (k355 u0), (k695 u0), (k696 u0), (k697 u0), (k698 u0), (11, some (arD 3 1 (intC .i64) r))] := by
 refine fN tT Try.func153 rfl rfl fun B => ?_
 show AWp _ _ _ _ _ _ ((m_guard_machine_armed_1_v3_R u2 u0 u3) r) _
 unfold m_guard_machine_armed_1_v1 at h
 refine sz tT ⟨(k702 u0), (k701 u2 o_ u0 u3)⟩ {} [] ?_
 refine bE h fun y hy h => ?_
 refine aI (.trans (Imp.reown (E0 := 40) (cs := [(.own 5 false o_.length)]) (nn := false) (len := o_.length) (E := 3) (esz := 1) (n := o_.length) (el := elOf (intC .i64) o_) (p := 3) (q := 0) (b := 5) (b' := 32) (by kernel_rfl) (by kernel_rfl) (by kernel_rfl) (by kernel_rfl)) (.trans (fz ⟨(k702 u0), [k352, k353, (k320 u2), (3, some (.cells 40 [(.own 32 false o_.length)])), (k694 u0 u3), (5, none), (k355 u0), (k695 u0), (k696 u0), (k697 u0), (k698 u0), (32, some (k226 o_))]⟩ []) (Imp.fin (st' := ⟨(k702 u0), (k700 u0 u2 o_ u3)⟩) (cs := []) ⟨[], [(0, 0), (1, 1), (2, 2), (3, 3), (4, 4), (5, 5), (6, 6), (7, 7), (8, 8), (9, 9), (10, 10), (32, 27)]⟩ [0, 1, 11, 12, 13] (by kernel_rfl) trivial))) ?_
 refine aL [] (m_guard_machine_armed_1_v3_S0 u2 u0 u3) (m_guard_machine_armed_1_v3_B0 u2 u0 u3) (m_guard_machine_armed_1_v3_R u2 u0 u3) hy (fun s f h => ?_) ?_
 ·clear hy
  show AWp _ _ _ _ _ _ ((m_guard_machine_armed_1_v3_Q0 u2 u0 u3) f) _
  unfold m_guard_machine_armed_1_v1_L0 at h
  obtain ⟨u4, u1⟩ := s
  refine sz tT ⟨[k316, (1, (vP 1 0)), (k699 u0), (k318 u0), (13, (vI u1)), (14, (vB (decide (u1 < (u0.p.links.length : Int)))))], (k700 u0 u2 u4 u3)⟩ {} [] ?_
  refine aQ ?_
  refine bI h (fun hb3 h => ?_) (fun hb3 h => ?_)
  ·refine ct hb3 ?_
   refine aP (aQ (aB (aQ (aO h fun a1 h => ?_))))
   refine rg tT ⟨[k316, (1, (vP 1 0)), (3, (vI u1)), (k325 u0 u1), (k699 u0), (k318 u0), (13, (vI u1))], (k700 u0 u2 u4 u3)⟩ [_, _] { fr := [(3, 30)] } [30] ⟨a1, (tL a1), trivial⟩ ?_
   refine aQ (aQ (aO h fun ⟨a1, a2⟩ h => ?_))
   refine rg tT ⟨[k316, (1, (vP 1 0)), (3, (vI u1)), (k325 u0 u1), (k699 u0), (k318 u0), (13, (vI u1)), (k328 u0 u1)], (k700 u0 u2 u4 u3)⟩ (k331 u0 u1) { yb := [(3, (k330 u0 u1)), (15, (k329 u0 u1))] } [] (ae ⟨(fun hg => ⟨(a1 (gB_of hg)), trivial⟩), (ae (ae ⟨(fun hg => ⟨(a2 (gB_of hg)), trivial⟩), (ae trivial)⟩))⟩) ?_
   refine bI h (fun hb2 h => ?_) (fun hb2 h => ?_)
   ·refine ct hb2 ?_
    refine aX (rz tT (k703 u2 u0 u3 u1 u4) {} [] ?_)
    obtain rfl := oi h
    exact lN (by kernel_rfl)
   ·refine cf hb2 ?_
    refine aP (aQ (bE h fun r_ hr_ h => ?_))
    refine aO h fun a1 h => ?_
    have q1 := m_guard_Delay_ok (k326 u0 u1) (at' u0.amps u1.toNat) hr_
    refine dg tT mX ⟨[k316, (1, (vP 1 0)), (3, (vI u1)), (5, (vI r_.1)), (6, (vB r_.2)), (k699 u0), (k318 u0), (13, (vI u1))], (k700 u0 u2 u4 u3)⟩ [_, _] { an := [(8, cA q1 [])] } [] ⟨a1, q1, trivial⟩ ?_
    refine aQ ?_
    refine bI h (fun hb h => ?_) (fun hb h => ?_)
    ·skip
     refine bE h fun u5 hr_1 h => ?_
     refine ri tT ⟨[k316, (1, (vP 1 0)), (k699 u0), (k318 u0), (13, (vI u1)), (70, (vB (bif r_.2 then (!true) else false)))], (k705 u2 u0 u3 u5)⟩ [r_.2 = true, r_.2 = true, r_.2 = true, r_.2 = true, r_.2 = true, r_.2 = true, r_.2 = true, r_.2 = true, gP (ybf [(1, true)]) [(1, true)] → All [LookAt [some .i64] 1 1 u0.since.length (kOf (intC .i64) u0.since) (vOf (intC .i64) u0.since) [(.int .i64 u1)] [(.d (.int .i64 0))] (mget eqI u1 u0.since).isSome (k338 u0 u1)], r_.2 = true, r_.2 = true, r_.2 = true, gP (ybf [(1, true)]) [(1, true)] → All [Yl Try.prog 0 (k339 u0 u1 r_) [k352, (k320 u2), (3, some (.cells 40 [(.own 27 false u4.length)])), (27, some (k226 u4))] (vB true) (k706 u2 u5)], gP (ybf [(1, true)]) [(1, true)], r_.2 = true, r_.2 = true] { yb := [(1, true)], an := [(9, .look (mget eqI u1 u0.since).isSome (k338 u0 u1)), (12, .call [0, 2, 3, 27] (vB true) (k706 u2 u5))] } [] ⟨(hb), (hb), (hb), (hb), (hb), (hb), (hb), (hb), (fun hg => ⟨(lookAt_of (fun _ => rfl) (fun _ _ => rfl) u0.since u1 0 rfl rfl rfl), trivial⟩), (hb), (hb), (hb), (fun hg => ⟨(Yl.renK [(1, 2), (1, 3), (1, 27), (4, 31)] (m_guard_machine_round_r1_Y_ok u1 (k340 u0 u1 r_) u2 u4 hr_1) (by kernel_rfl) (by kernel_rfl) (by kernel_rfl) (by kernel_rfl) (by kernel_rfl)), trivial⟩), (⟨rfl, trivial⟩), (hb), (hb), trivial⟩ (Imp.le (st' := ⟨[k316, (1, (vP 1 0)), (k699 u0), (k318 u0), (13, (vI u1)), (70, (vB (!true)))], (k705 u2 u0 u3 u5)⟩) ⟨⟨tR, tR, tR, tR, tR, ⟨_, rfl, TLe.v (SLe.one (CLe.of (congrArg (fun b => CV.d (.bool b)) (bifT hb))))⟩, trivial⟩, ⟨rfl, .refl _, ⟨rfl, .refl _, ⟨rfl, .refl _, ⟨rfl, .refl _, ⟨rfl, .refl _, ⟨rfl, .refl _, ⟨rfl, .refl _, ⟨rfl, .refl _, ⟨rfl, .refl _, ⟨rfl, .refl _, ⟨rfl, .refl _, ⟨rfl, .refl _, trivial⟩⟩⟩⟩⟩⟩⟩⟩⟩⟩⟩⟩⟩) ?_
     refine bI h (fun hb1 h => ?_) (fun hb1 h => ?_)
     ·refine ct hb1 ?_
      refine aI (Imp.fin (st' := ⟨[], [k352, k353, (k320 u2), (3, some (.cells 40 [(.own 11 false u5.length)])), (k694 u0 u3), (5, none), (k355 u0), (k695 u0), (k696 u0), (k697 u0), (k698 u0), (11, some (k226 u5))]⟩) (cs := []) ⟨[], [(0, 0), (1, 1), (2, 2), (3, 3), (4, 4), (5, 5), (6, 6), (7, 7), (8, 8), (9, 9), (10, 10), (31, 11)]⟩ [] (by kernel_rfl) trivial) ?_
      refine aR ?_
      obtain rfl := oi h
      exact lR ret_nn (ret_ne 0) av_ret (RetQ.mk (.inr rfl) (p := []) (l := []) (by kernel_rfl) trivial (TLe.refl _) ⟨rfl, .refl _, ⟨rfl, .refl _, ⟨rfl, .refl _, ⟨rfl, .refl _, ⟨rfl, .refl _, ⟨rfl, trivial, ⟨rfl, .refl _, ⟨rfl, .refl _, ⟨rfl, .refl _, ⟨rfl, .refl _, ⟨rfl, .refl _, ⟨rfl, .refl _, trivial⟩⟩⟩⟩⟩⟩⟩⟩⟩⟩⟩⟩)
     ·refine cf hb1 ?_
      refine aP (ri tT ⟨(k704 u0 u1), (k705 u2 u0 u3 u5)⟩ [] {} [] trivial (Imp.fin (st' := (k703 u2 u0 u3 u1 u5)) (cs := []) ⟨[], [(0, 0), (1, 1), (2, 2), (3, 3), (4, 4), (5, 5), (6, 6), (7, 7), (8, 8), (9, 9), (10, 10), (31, 27)]⟩ [0, 1, 11, 12, 13] (by kernel_rfl) trivial) ?_)
      obtain rfl := oi h
      exact lN (by kernel_rfl)
    ·skip
     refine ri tT ⟨[k316, (1, (vP 1 0)), (k699 u0), (k318 u0), (13, (vI u1)), (70, (vB (bif r_.2 then false else false)))], (k700 u0 u2 u4 u3)⟩ [r_.2 = false, ¬ gP (ybf [(1, false)]) [(1, true)], r_.2 = false, ¬ gP (ybf [(1, false)]) [(1, true)], r_.2 = false, ¬ gP (ybf [(1, false)]) [(1, true)], r_.2 = false, ¬ gP (ybf [(1, false)]) [(1, true)], r_.2 = false, ¬ gP (ybf [(1, false)]) [(1, true)], r_.2 = false, ¬ gP (ybf [(1, false)]) [(1, true)], r_.2 = false, ¬ gP (ybf [(1, false)]) [(1, true)], r_.2 = false, ¬ gP (ybf [(1, false)]) [(1, true)], r_.2 = false, ¬ gP (ybf [(1, false)]) [(1, true)], r_.2 = false, ¬ gP (ybf [(1, false)]) [(1, true)], r_.2 = false, ¬ gP (ybf [(1, false)]) [(1, true)], r_.2 = false, ¬ gP (ybf [(1, false)]) [(1, true)], r_.2 = false] { yb := [(1, false)], an := [(2, .skip), (3, .skip), (4, .skip), (5, .skip), (6, .skip), (7, .skip), (8, .skip), (9, .skip), (10, .skip), (11, .skip), (12, .skip), (13, .skip)] } [] ⟨(hb), ((fun h => Bool.noConfusion (show false = true from h.1))), (hb), ((fun h => Bool.noConfusion (show false = true from h.1))), (hb), ((fun h => Bool.noConfusion (show false = true from h.1))), (hb), ((fun h => Bool.noConfusion (show false = true from h.1))), (hb), ((fun h => Bool.noConfusion (show false = true from h.1))), (hb), ((fun h => Bool.noConfusion (show false = true from h.1))), (hb), ((fun h => Bool.noConfusion (show false = true from h.1))), (hb), ((fun h => Bool.noConfusion (show false = true from h.1))), (hb), ((fun h => Bool.noConfusion (show false = true from h.1))), (hb), ((fun h => Bool.noConfusion (show false = true from h.1))), (hb), ((fun h => Bool.noConfusion (show false = true from h.1))), (hb), ((fun h => Bool.noConfusion (show false = true from h.1))), (hb), trivial⟩ (Imp.le (st' := ⟨[k316, (1, (vP 1 0)), (k699 u0), (k318 u0), (13, (vI u1)), (70, (vB false))], (k700 u0 u2 u4 u3)⟩) ⟨⟨tR, tR, tR, tR, tR, ⟨_, rfl, TLe.v (SLe.one (CLe.of (congrArg (fun b => CV.d (.bool b)) (bifF hb))))⟩, trivial⟩, ⟨rfl, .refl _, ⟨rfl, .refl _, ⟨rfl, .refl _, ⟨rfl, .refl _, ⟨rfl, .refl _, ⟨rfl, .refl _, ⟨rfl, .refl _, ⟨rfl, .refl _, ⟨rfl, .refl _, ⟨rfl, .refl _, ⟨rfl, .refl _, ⟨rfl, .refl _, trivial⟩⟩⟩⟩⟩⟩⟩⟩⟩⟩⟩⟩⟩) ?_
     refine cn (aP (rz tT (k703 u2 u0 u3 u1 u4) {} [] ?_))
     obtain rfl := oi h
     exact lN (by kernel_rfl)
  ·refine cf hb3 ?_
   refine aI (fz ⟨[], (k700 u0 u2 u4 u3)⟩ []) ?_
   refine aX ?_
   obtain rfl := oi h
   exact lB (by kernel_rfl)
 ·clear hy
  cases y with
  | brk z =>
   obtain ⟨o601, rfl⟩ : ∃ q, q = z := ⟨_, rfl⟩
   unfold ExK
   refine ⟨_, (Imp.fin (st' := ⟨[], [k352, k353, (k320 u2), (3, some (.cells 40 [(.own 11 false o601.length)])), (k694 u0 u3), (5, none), (k355 u0), (k695 u0), (k696 u0), (k697 u0), (k698 u0), (11, some (arD 3 1 (intC .i64) o601))]⟩) (cs := []) ⟨[], [(0, 0), (1, 1), (2, 2), (3, 3), (4, 4), (5, 5), (6, 6), (7, 7), (8, 8), (9, 9), (10, 10), (27, 11)]⟩ [] (by kernel_rfl) trivial), ?_⟩
   obtain rfl := oi h
   exact RetQ.mk (.inl rfl) (p := []) (l := []) (by kernel_rfl) trivial (TLe.refl _) ⟨rfl, .refl _, ⟨rfl, .refl _, ⟨rfl, .refl _, ⟨rfl, .refl _, ⟨rfl, .refl _, ⟨rfl, trivial, ⟨rfl, .refl _, ⟨rfl, .refl _, ⟨rfl, .refl _, ⟨rfl, .refl _, ⟨rfl, .refl _, ⟨rfl, .refl _, trivial⟩⟩⟩⟩⟩⟩⟩⟩⟩⟩⟩⟩
  | ret v =>
   obtain rfl := oi h
   unfold ExK
   intro e st hn ha hR
   cases e with
   | normal => exact absurd rfl hn
   | exit id => exact hR
   | goto l => exact hR
   | ret => exact hR
   | panic c => exact hR
   | outgrown => exact hR
def m_guard_machine_round_v1_R (u0 : Machine) : (Bool × Machine × Bool) → Exit → St → Prop :=
  fun r => RetQ TT [.tmp 2] (vB r.1) [(0, some (.cells 137 [(.own 6 false r.2.1.clearing.events.length), (cB r.2.1.clearing.cleared), (cI r.2.1.clearing.millis), (cI r.2.1.clearing.energy), (.d (slD none 1 boolC r.2.1.clearing.state.closed)), (.d (slD none 1 boolC r.2.1.clearing.state.locked)), (.d (slD none 1 boolC r.2.1.clearing.state.badLink)), (.d (slD none 1 boolC r.2.1.clearing.state.on_)), (.d (slD none 1 boolC r.2.1.clearing.state.badSource)), (.d (slD none 1 boolC r.2.1.clearing.state.earthed)), (.d (slD none 1 boolC r.2.1.clearing.state.badBus)), (cI r.2.1.p.buses), (.own 2 true u0.p.sources.length), (.own 3 true u0.p.links.length), (.own 4 true u0.p.racks.length), (cI r.2.1.bus), (.d (slD (some r.2.2) 1 (intC .i64) r.2.1.amps)), (cI r.2.1.total), (.mp 5), (cI r.2.1.now)])), (1, none), (k668 u0), (k669 u0), (k670 u0), (k314 u0), (6, some (arD 56 2 Event.cell r.2.1.clearing.events))]
section
variable (u1 : Int) (u0 : Machine) (u2 : (List Int)) (u4 : Int) (o0 : (List Event)) (o4 : (List Bool)) (u3 : Bool)
abbrev k707 : List (Nat × TV) := [(0, (vP 0 0)), (k363 u1 u0), (90, (vO 33 false u2.length)), (k364 u2), (92, (vI u4))]
abbrev k709 : Nat × Option Ob := (0, some (.cells 137 [(.own 40 false o0.length), (cB u0.clearing.cleared), (cI (if u1 < u0.now then u0.now else u1)), (cI (k367 u1 u0)), (.own 34 false o4.length), (.d (k264 u0)), (.d (k265 u0)), (.d (k266 u0)), (.d (k267 u0)), (.d (k268 u0)), (.d (k269 u0)), (cI u0.p.buses), (.own 2 true u0.p.sources.length), (.own 3 true u0.p.links.length), (.own 4 true u0.p.racks.length), (cI u0.bus), (.d (k273 u0 u3)), (cI u0.total), (.mp 5), (cI (if u1 < u0.now then u0.now else u1))]))
abbrev k710 : Nat × Option Ob := (33, some (k226 u2))
abbrev k711 : Nat × Option Ob := (34, some (arD 4 1 boolC o4))
abbrev k708 : List (Nat × Option Ob) := [(k709 u1 u0 o0 o4 u3), (1, none), (k668 u0), (k669 u0), (k670 u0), (k314 u0), (k710 u2), (k711 o4), (40, some (arD 56 2 Event.cell o0))]
end
def m_guard_machine_round_v1_S0 (u0 : Machine) (u3 : Bool) (u1 : Int) (u2 : (List Int)) : ((List Event) × (List Bool) × Int) → St :=
  fun zz => match zz with | (o0, o4, u4) => ⟨(k707 u1 u0 u2 u4), (k708 u1 u0 u2 o0 o4 u3)⟩
section
variable (u2 : (List Event)) (u0 : Machine) (u1 : Int) (u3 : (List Bool)) (u4 : Bool)
abbrev k713 : List (Nat × Option Ob) := [(k709 u1 u0 u2 u3 u4), (1, none), (k668 u0), (k669 u0), (k670 u0), (k314 u0), (k711 u3), (40, some (arD 56 2 Event.cell u2))]
abbrev k712 : St := ⟨[], (k713 u2 u0 u1 u3 u4)⟩
end
def m_guard_machine_round_v1_B0 (u0 : Machine) (u4 : Bool) (u1 : Int) : ((List Event) × (List Bool)) → St :=
  fun zz => match zz with | (u2, u3) => (k712 u2 u0 u1 u3 u4)
def m_guard_machine_round_v1_Q0 (u0 : Machine) (u1 : Bool) (u2 : Int) (u3 : (List Int)) : (Flow ((List Event) × (List Bool) × Int) (Ex ((List Event) × (List Bool)) (Bool × Machine × Bool))) → Exit → St → Prop :=
  LQ 4 [] (m_guard_machine_round_v1_S0 u0 u1 u2 u3) (m_guard_machine_round_v1_B0 u0 u1 u2) (m_guard_machine_round_v1_R u0)
section
variable (u1 : Int) (u0 : Machine) (u2 : (List Int)) (u5 : (List Bool)) (u3 : Bool) (u4 : Int) (o4 : (List Bool)) (o0 : (List Event))
abbrev k714 : List (Nat × TV) := [(0, (vP 0 0)), (3, (vP 25 0)), (12, (.v (.one (.fn 153 0 1 (capC [(.ptr 26 0)])))))]
abbrev k715 : Nat × Option Ob := (26, some k303)
abbrev k716 : Nat × Option Ob := (25, some (.cells 3 [(cI (if u1 < u0.now then u0.now else u1))]))
abbrev k717 : List (Nat × TV) := [(0, (vP 0 0)), (3, (vP 25 0)), (6, (vP 29 0))]
abbrev k718 : Nat × Option Ob := (29, some (.cells 40 [(.own 30 false (([] : List Int).length))]))
abbrev k719 : Nat × Option Ob := (30, some k132)
abbrev k720 : List (Nat × TV) := [(0, (vP 0 0)), (3, (vP 25 0)), (6, (vP 29 0)), (32, (.v (.one (.fn 153 0 1 (capC [(.ptr 31 0)])))))]
abbrev k721 : Nat × Option Ob := (31, some k303)
abbrev k722 : Nat × Option Ob := (29, some (.cells 40 [(.own 33 false u2.length)]))
abbrev k723 : List (Nat × TV) := [(0, (vP 0 0)), (k363 u1 u0), (6, (vP 29 0))]
abbrev k725 : List CV := [(.own 1 false u0.clearing.events.length), (cB u0.clearing.cleared), (cI (if u1 < u0.now then u0.now else u1)), (cI (k367 u1 u0)), (.own 34 false u5.length), (.d (k264 u0)), (.d (k265 u0)), (.d (k266 u0)), (.d (k267 u0)), (.d (k268 u0)), (.d (k269 u0)), (cI u0.p.buses), (.own 2 true u0.p.sources.length), (.own 3 true u0.p.links.length), (.own 4 true u0.p.racks.length), (cI u0.bus), (.d (k273 u0 u3)), (cI u0.total), (.mp 5), (cI (if u1 < u0.now then u0.now else u1))]
abbrev k724 : Nat × Option Ob := (0, some (.cells 137 (k725 u1 u0 u5 u3)))
abbrev k726 : List (Nat × TV) := [(0, (vP 0 0)), (k363 u1 u0), (90, (vO 33 false u2.length)), (k364 u2), (92, (vI 0))]
abbrev k727 : List (Nat × TV) := [(0, (vP 0 0)), (k363 u1 u0), (10, (vI (at' u2 u4.toNat))), (90, (vO 33 false u2.length)), (k364 u2), (92, (vI u4))]
abbrev k728 : Nat × Option Ob := (34, some (arD 4 1 boolC (o4.set ((at' u2 u4.toNat).toNat) false)))
abbrev k729 : List (Nat × Option Ob) := [(0, some (.cells 137 [(.own 44 false (k390 u1 u0 u2 u4 o0)), (cB u0.clearing.cleared), (cI (if u1 < u0.now then u0.now else u1)), (cI (k367 u1 u0)), (.own 34 false (k387 u2 u4 o4)), (.d (k264 u0)), (.d (k265 u0)), (.d (k266 u0)), (.d (k267 u0)), (.d (k268 u0)), (.d (k269 u0)), (cI u0.p.buses), (.own 2 true u0.p.sources.length), (.own 3 true u0.p.links.length), (.own 4 true u0.p.racks.length), (cI u0.bus), (.d (k273 u0 u3)), (cI u0.total), (.mp 5), (cI (if u1 < u0.now then u0.now else u1))])), (1, none), (k668 u0), (k669 u0), (k670 u0), (k314 u0), (k710 u2), (k728 u2 u4 o4), (44, some (k393 u1 u0 u2 u4 o0))]
abbrev k730 : List (Nat × TV) := [(0, (vP 0 0)), (k363 u1 u0), (90, (vO 33 false u2.length)), (k364 u2), (92, (k30 u4))]
end
theorem m_guard_machine_round_v1_ok (u0 : Machine) (u3 : Bool) {r : (Bool × Machine × Bool)} (h : m_guard_machine_round u0 u3 = some r) : Fn Try.prog 107 [(.one (.ptr 0 0))] (k677 u0 u3) (vB r.1) [(0, some (.cells 137 [(.own 6 false r.2.1.clearing.events.length), (cB r.2.1.clearing.cleared), (cI r.2.1.clearing.millis), (cI r.2.1.clearing.energy), (.d (slD none 1 boolC r.2.1.clearing.state.closed)), (.d (slD none 1 boolC r.2.1.clearing.state.locked)), (.d (slD none 1 boolC r.2.1.clearing.state.badLink)), (.d (slD none 1 boolC r.2.1.clearing.state.on_)), (.d (slD none 1 boolC r.2.1.clearing.state.badSource)), (.d (slD none 1 boolC r.2.1.clearing.state.earthed)), (.d (slD none 1 boolC r.2.1.clearing.state.badBus)), (cI r.2.1.p.buses), (.own 2 true u0.p.sources.length), (.own 3 true u0.p.links.length), (.own 4 true u0.p.racks.length), (cI r.2.1.bus), (.d (slD (some r.2.2) 1 (intC .i64) r.2.1.amps)), (cI r.2.1.total), (.mp 5), (cI r.2.1.now)])), (1, none), (k668 u0), (k669 u0), (k670 u0), (k314 u0), (6, some (arD 56 2 Event.cell r.2.1.clearing.events))] := by
 refine fN tT Try.func107 rfl rfl fun B => ?_
 show AWp _ _ _ _ _ _ ((m_guard_machine_round_v1_R u0) r) _
 unfold m_guard_machine_round at h
 refine sz tT ⟨[(0, (vP 0 0))], (k677 u0 u3)⟩ {} [] ?_
 refine sz tT ⟨[(0, (vP 0 0)), (3, (vP 25 0))], [(k678 u0 u3), (k256 u0), (k668 u0), (k669 u0), (k670 u0), (k314 u0), (25, some (.cells 3 [(cI (-1))]))]⟩ { fr := [(0, 25)] } [] ?_
 refine aQ (aQ (bE h fun r_ hr_ h => ?_))
 have q0 := rk [(6, 26)] (m_guard_machine_armed_v1_ok u0 u3 hr_)
 refine rg tT ⟨k714, [(k678 u0 u3), (k256 u0), (k668 u0), (k669 u0), (k670 u0), (k314 u0), (25, some (.cells 3 [(cI (-1))])), k715]⟩ [_] { an := [(1, cA q0 [0, 1, 2, 3, 4, 5])] } [] ⟨q0, trivial⟩ ?_
 refine aB (bE h fun u1 hr_1 h => ?_)
 refine awp_rangeFuncI 27 [(3, (vP 25 0))] [] [27, 26, 25, 0, 1, 2, 3, 4, 5] (.tup []) [(27, some (.loop R_guard_machine_round_r0 0 [(3, (vP 25 0))])), k715, (25, some (.cells 3 [(cI u1)])), (k678 u0 u3), (k256 u0), (k668 u0), (k669 u0), (k670 u0), (k314 u0)] (.v (.one (.fn 153 0 1 (capC [(.ptr 26 0)])))) 153 [] [(.ptr 26 0)] [(27, some (.loop R_guard_machine_round_r0 0 [(3, (vP 25 0))])), k715, (25, some (.cells 3 [(cI (-1))])), (k678 u0 u3), (k256 u0), (k668 u0), (k669 u0), (k670 u0), (k314 u0)] [(.one (.yl 27)), (.one (.ptr 26 0))] R_guard_machine_round_r0 0 [(3, (vP 25 0))] (by kernel_rfl) (by kernel_rfl) (by kernel_rfl) (by kernel_rfl) (by kernel_rfl) (by kernel_rfl) (by kernel_rfl) (Fn.renK [(0, 27), (1, 26), (2, 25), (3, 0), (4, 1), (5, 2), (6, 3), (7, 4), (8, 5)] (m_guard_machine_armed_1_v2_ok (-1) u0 u3 hr_1) (by kernel_rfl) (by kernel_rfl) (by kernel_rfl) (by kernel_rfl)) (by kernel_rfl) rfl (ExOf.zero rfl) (Imp.fin (st' := ⟨k714, [(k678 u0 u3), (k256 u0), (k668 u0), (k669 u0), (k670 u0), (k314 u0), (25, some (.cells 3 [(cI u1)])), k715]⟩) (cs := []) ⟨[], [(0, 0), (1, 1), (2, 2), (3, 3), (4, 4), (5, 5), (25, 25), (26, 26)]⟩ [0, 3, 12] (by kernel_rfl) trivial) ?_
 refine aQ (sz tT ⟨[(0, (vP 0 0)), (3, (vP 25 0)), (24, (vB (decide (u1 < 0))))], [(k678 u0 u3), (k256 u0), (k668 u0), (k669 u0), (k670 u0), (k314 u0), (25, some (.cells 3 [(cI u1)]))]⟩ {} [] ?_)
 refine bI h (fun hb1 h => ?_) (fun hb1 h => ?_)
 ·refine ct hb1 ?_
  refine sz tT ⟨[(2, (vB false))], (k677 u0 u3)⟩ {} [] ?_
  refine aI (.trans (Imp.reown (E0 := 137) (cs := (k679 u0 u3)) (nn := false) (len := u0.clearing.events.length) (E := 56) (esz := 2) (n := u0.clearing.events.length) (el := elOf Event.cell u0.clearing.events) (p := 0) (q := 0) (b := 1) (b' := 28) (by kernel_rfl) (by kernel_rfl) (by kernel_rfl) (by kernel_rfl)) (.trans (fz ⟨[(2, (vB false))], [(0, some (.cells 137 [(.own 28 false u0.clearing.events.length), (cB u0.clearing.cleared), (cI u0.clearing.millis), (cI u0.clearing.energy), (.d (k263 u0)), (.d (k264 u0)), (.d (k265 u0)), (.d (k266 u0)), (.d (k267 u0)), (.d (k268 u0)), (.d (k269 u0)), (cI u0.p.buses), (.own 2 true u0.p.sources.length), (.own 3 true u0.p.links.length), (.own 4 true u0.p.racks.length), (cI u0.bus), (.d (k273 u0 u3)), (cI u0.total), (.mp 5), (cI u0.now)])), (1, none), (k668 u0), (k669 u0), (k670 u0), (k314 u0), (28, some (k257 u0))]⟩ []) (Imp.fin (st' := ⟨[(2, (vB false))], [(0, some (.cells 137 [(.own 6 false u0.clearing.events.length), (cB u0.clearing.cleared), (cI u0.clearing.millis), (cI u0.clearing.energy), (.d (k263 u0)), (.d (k264 u0)), (.d (k265 u0)), (.d (k266 u0)), (.d (k267 u0)), (.d (k268 u0)), (.d (k269 u0)), (cI u0.p.buses), (.own 2 true u0.p.sources.length), (.own 3 true u0.p.links.length), (.own 4 true u0.p.racks.length), (cI u0.bus), (.d (k273 u0 u3)), (cI u0.total), (.mp 5), (cI u0.now)])), (1, none), (k668 u0), (k669 u0), (k670 u0), (k314 u0), (k355 u0)]⟩) (cs := []) ⟨[], [(0, 0), (1, 1), (2, 2), (3, 3), (4, 4), (5, 5), (28, 6)]⟩ [2] (by kernel_rfl) trivial))) ?_
  refine aR ?_
  obtain rfl := oi h
  exact rh [(sB false)] (.refl _) ⟨rfl, .refl _, ⟨rfl, trivial, ⟨rfl, .refl _, ⟨rfl, .refl _, ⟨rfl, .refl _, ⟨rfl, .refl _, ⟨rfl, .refl _, trivial⟩⟩⟩⟩⟩⟩⟩
 ·refine cf hb1 ?_
  refine aP (sd tT mX ⟨[(0, (vP 0 0)), (3, (vP 25 0))], [(k678 u0 u3), (k256 u0), (k668 u0), (k669 u0), (k670 u0), (k314 u0), (k716 u1 u0)]⟩ [] {} [] trivial ?_)
  refine si tT ⟨k717, [(k678 u0 u3), (k256 u0), (k668 u0), (k669 u0), (k670 u0), (k314 u0), (k716 u1 u0), (29, some (.cells 40 [(.d nS)]))]⟩ [] { fr := [(0, 29)] } [] trivial (.trans (Imp.adoptC (E := 0) (esz := 0) (E0 := 40) (cs := [(.d nS)]) (p := 29) (q := 0) (b := 30) (esz0 := 0) (el0 := fun _ _ => .nilp) (ob := .arr 3 1 0 (elOf (intC .i64) ([] : List Int))) (fun _ _ _ _ h => .inl ⟨h, rfl⟩) (by kernel_rfl) (by kernel_rfl) (by kernel_rfl)) (.trans (fz ⟨k717, [(k678 u0 u3), (k256 u0), (k668 u0), (k669 u0), (k670 u0), (k314 u0), (k716 u1 u0), (29, some (.cells 40 [(.own 30 false 0)])), (30, some (.arr 3 1 0 (elOf (intC .i64) ([] : List Int))))]⟩ []) (Imp.le (st' := ⟨k717, [(k678 u0 u3), (k256 u0), (k668 u0), (k669 u0), (k670 u0), (k314 u0), (k716 u1 u0), k718, k719]⟩) ⟨⟨tR, tR, tR, trivial⟩, ⟨rfl, .refl _, ⟨rfl, .refl _, ⟨rfl, .refl _, ⟨rfl, .refl _, ⟨rfl, .refl _, ⟨rfl, .refl _, ⟨rfl, .refl _, ⟨rfl, OLe_cells ⟨cW, trivial⟩, ⟨rfl, oW, trivial⟩⟩⟩⟩⟩⟩⟩⟩⟩⟩))) ?_
  refine aQ (aQ (bE h fun u8 hr_2 h => ?_))
  have q0 := rk [(6, 31)] (m_guard_machine_armed_v1_ok u0 u3 hr_2)
  refine rg tT ⟨k720, [(k678 u0 u3), (k256 u0), (k668 u0), (k669 u0), (k670 u0), (k314 u0), (k716 u1 u0), k718, k719, k721]⟩ [_] { an := [(1, cA q0 [0, 1, 2, 3, 4, 5])] } [] ⟨q0, trivial⟩ ?_
  refine aB (bE h fun u2 hr_3 h => ?_)
  refine awp_rangeFuncI 32 [(3, (vP 25 0)), (6, (vP 29 0))] [] [32, 31, 25, 29, 0, 30, 1, 2, 3, 4, 5] (.tup []) [(32, some (.loop R_guard_machine_round_r1 0 [(3, (vP 25 0)), (6, (vP 29 0))])), k721, (k716 u1 u0), (k722 u2), (k678 u0 u3), (30, none), (k256 u0), (k668 u0), (k669 u0), (k670 u0), (k314 u0), (k710 u2)] (.v (.one (.fn 153 0 1 (capC [(.ptr 31 0)])))) 153 [] [(.ptr 31 0)] [(32, some (.loop R_guard_machine_round_r1 0 [(3, (vP 25 0)), (6, (vP 29 0))])), k721, (k716 u1 u0), k718, (k678 u0 u3), k719, (k256 u0), (k668 u0), (k669 u0), (k670 u0), (k314 u0)] [(.one (.yl 32)), (.one (.ptr 31 0))] R_guard_machine_round_r1 0 [(3, (vP 25 0)), (6, (vP 29 0))] (by kernel_rfl) (by kernel_rfl) (by kernel_rfl) (by kernel_rfl) (by kernel_rfl) (by kernel_rfl) (by kernel_rfl) (Fn.renK [(0, 32), (1, 31), (2, 25), (3, 29), (4, 0), (5, 30), (6, 1), (7, 2), (8, 3), (9, 4), (10, 5), (11, 33)] (m_guard_machine_armed_1_v3_ok (if u1 < u0.now then u0.now else u1) ([] : List Int) u0 u3 hr_3) (by kernel_rfl) (by kernel_rfl) (by kernel_rfl) (by kernel_rfl)) (by kernel_rfl) rfl (ExOf.zero rfl) (Imp.fin (st' := ⟨k720, [(k678 u0 u3), (k256 u0), (k668 u0), (k669 u0), (k670 u0), (k314 u0), (k716 u1 u0), (k722 u2), (30, none), k721, (k710 u2)]⟩) (cs := []) ⟨[], [(0, 0), (1, 1), (2, 2), (3, 3), (4, 4), (5, 5), (25, 25), (29, 29), (30, 30), (31, 31), (33, 33)]⟩ [0, 3, 6, 32] (by kernel_rfl) trivial) ?_
  refine aQ (aO h fun a1 h => ?_)
  refine dg tT mX ⟨k717, [(0, some (.cells 137 [(.own 1 false u0.clearing.events.length), (cB u0.clearing.cleared), (cI u0.clearing.millis), (cI (k367 u1 u0)), (.d (k263 u0)), (.d (k264 u0)), (.d (k265 u0)), (.d (k266 u0)), (.d (k267 u0)), (.d (k268 u0)), (.d (k269 u0)), (cI u0.p.buses), (.own 2 true u0.p.sources.length), (.own 3 true u0.p.links.length), (.own 4 true u0.p.racks.length), (cI u0.bus), (.d (k273 u0 u3)), (cI u0.total), (.mp 5), (cI u0.now)])), (k256 u0), (k668 u0), (k669 u0), (k670 u0), (k314 u0), (k716 u1 u0), (k722 u2), (k710 u2)]⟩ [_] {} [] ⟨a1, trivial⟩ ?_
  refine sd tT mX ⟨(k723 u1 u0), [(0, some (.cells 137 [(.own 1 false u0.clearing.events.length), (cB u0.clearing.cleared), (cI (if u1 < u0.now then u0.now else u1)), (cI (k367 u1 u0)), (.d (k263 u0)), (.d (k264 u0)), (.d (k265 u0)), (.d (k266 u0)), (.d (k267 u0)), (.d (k268 u0)), (.d (k269 u0)), (cI u0.p.buses), (.own 2 true u0.p.sources.length), (.own 3 true u0.p.links.length), (.own 4 true u0.p.racks.length), (cI u0.bus), (.d (k273 u0 u3)), (cI u0.total), (.mp 5), (cI (if u1 < u0.now then u0.now else u1))])), (k256 u0), (k668 u0), (k669 u0), (k670 u0), (k314 u0), (k722 u2), (k710 u2)]⟩ [] {} [25] trivial ?_
  refine aQ (bE h fun u5 hr_4 h => ?_)
  have q0 := rk [(0, 34)] (m_slices_Clone_v1_a_ok u0.clearing.state.closed hr_4)
  refine rg tT ⟨(k723 u1 u0), [(k724 u1 u0 u5 u3), (k256 u0), (k668 u0), (k669 u0), (k670 u0), (k314 u0), (k722 u2), (k710 u2), (k711 u5)]⟩ [_] { an := [(7, cA q0 [])] } [] ⟨q0, trivial⟩ ?_
  refine aQ (sz tT ⟨(k726 u1 u0 u2), [(k724 u1 u0 u5 u3), (k256 u0), (k668 u0), (k669 u0), (k670 u0), (k314 u0), (k710 u2), (k711 u5)]⟩ {} [] ?_)
  refine bE h fun y hy h => ?_
  refine aI (.trans (Imp.reown (E0 := 137) (cs := (k725 u1 u0 u5 u3)) (nn := false) (len := u0.clearing.events.length) (E := 56) (esz := 2) (n := u0.clearing.events.length) (el := elOf Event.cell u0.clearing.events) (p := 0) (q := 0) (b := 1) (b' := 45) (by kernel_rfl) (by kernel_rfl) (by kernel_rfl) (by kernel_rfl)) (.trans (fz ⟨(k726 u1 u0 u2), [(0, some (.cells 137 [(.own 45 false u0.clearing.events.length), (cB u0.clearing.cleared), (cI (if u1 < u0.now then u0.now else u1)), (cI (k367 u1 u0)), (.own 34 false u5.length), (.d (k264 u0)), (.d (k265 u0)), (.d (k266 u0)), (.d (k267 u0)), (.d (k268 u0)), (.d (k269 u0)), (cI u0.p.buses), (.own 2 true u0.p.sources.length), (.own 3 true u0.p.links.length), (.own 4 true u0.p.racks.length), (cI u0.bus), (.d (k273 u0 u3)), (cI u0.total), (.mp 5), (cI (if u1 < u0.now then u0.now else u1))])), (1, none), (k668 u0), (k669 u0), (k670 u0), (k314 u0), (k710 u2), (k711 u5), (45, some (k257 u0))]⟩ []) (Imp.fin (st' := ⟨(k726 u1 u0 u2), [(0, some (.cells 137 [(.own 40 false u0.clearing.events.length), (cB u0.clearing.cleared), (cI (if u1 < u0.now then u0.now else u1)), (cI (k367 u1 u0)), (.own 34 false u5.length), (.d (k264 u0)), (.d (k265 u0)), (.d (k266 u0)), (.d (k267 u0)), (.d (k268 u0)), (.d (k269 u0)), (cI u0.p.buses), (.own 2 true u0.p.sources.length), (.own 3 true u0.p.links.length), (.own 4 true u0.p.racks.length), (cI u0.bus), (.d (k273 u0 u3)), (cI u0.total), (.mp 5), (cI (if u1 < u0.now then u0.now else u1))])), (1, none), (k668 u0), (k669 u0), (k670 u0), (k314 u0), (k710 u2), (k711 u5), (40, some (k257 u0))]⟩) (cs := []) ⟨[], [(0, 0), (1, 1), (2, 2), (3, 3), (4, 4), (5, 5), (33, 33), (34, 34), (45, 40)]⟩ [0, 3, 90, 91, 92] (by kernel_rfl) trivial))) ?_
  refine aL [] (m_guard_machine_round_v1_S0 u0 u3 u1 u2) (m_guard_machine_round_v1_B0 u0 u3 u1) (m_guard_machine_round_v1_R u0) hy (fun s f h => ?_) ?_
  ·clear hy
   show AWp _ _ _ _ _ _ ((m_guard_machine_round_v1_Q0 u0 u3 u1 u2) f) _
   unfold m_guard_machine_round_L0 at h
   obtain ⟨o0, o4, u4⟩ := s
   refine sz tT ⟨[(0, (vP 0 0)), (k363 u1 u0), (90, (vO 33 false u2.length)), (k364 u2), (92, (vI u4)), (93, (k139 u4 u2))], (k708 u1 u0 u2 o0 o4 u3)⟩ {} [] ?_
   refine aQ ?_
   refine bI h (fun hb h => ?_) (fun hb h => ?_)
   ·refine ct hb ?_
    refine aP (aQ (aB (aQ (aO h fun a1 h => ?_))))
    refine rg tT ⟨(k727 u1 u0 u2 u4), (k708 u1 u0 u2 o0 o4 u3)⟩ [_, _] {} [] ⟨a1, (tL a1), trivial⟩ ?_
    refine aQ (aO h fun a1 h => ?_)
    refine ri tT ⟨(k727 u1 u0 u2 u4), [(k709 u1 u0 o0 o4 u3), (1, none), (k668 u0), (k669 u0), (k670 u0), (k314 u0), (k710 u2), (34, some (.arr 4 1 o4.length (k386 u2 u4 o4))), (40, some (arD 56 2 Event.cell o0))]⟩ [_, _, ArrEq o4.length 1 (stEls (elOf boolC o4) ((at' u2 u4.toNat).toNat) 0 [(.bool false)]) (k386 u2 u4 o4)] { an := [(8, .arr 0 (k386 u2 u4 o4))] } [] ⟨a1, (tL a1), (arrEq_set' _ _ _ _ _ _ _ _ rfl (fun j hj => (match j, hj with | 0, _ => rfl))), trivial⟩ (Imp.le (st' := ⟨(k727 u1 u0 u2 u4), [(0, some (.cells 137 [(.own 40 false o0.length), (cB u0.clearing.cleared), (cI (if u1 < u0.now then u0.now else u1)), (cI (k367 u1 u0)), (.own 34 false (k387 u2 u4 o4)), (.d (k264 u0)), (.d (k265 u0)), (.d (k266 u0)), (.d (k267 u0)), (.d (k268 u0)), (.d (k269 u0)), (cI u0.p.buses), (.own 2 true u0.p.sources.length), (.own 3 true u0.p.links.length), (.own 4 true u0.p.racks.length), (cI u0.bus), (.d (k273 u0 u3)), (cI u0.total), (.mp 5), (cI (if u1 < u0.now then u0.now else u1))])), (1, none), (k668 u0), (k669 u0), (k670 u0), (k314 u0), (k710 u2), (k728 u2 u4 o4), (40, some (arD 56 2 Event.cell o0))]⟩) ⟨⟨tR, tR, tR, tR, tR, tR, trivial⟩, ⟨rfl, OLe_cells ⟨CLe.refl _, CLe.refl _, CLe.refl _, CLe.refl _, cW, CLe.refl _, CLe.refl _, CLe.refl _, CLe.refl _, CLe.refl _, CLe.refl _, CLe.refl _, CLe.refl _, CLe.refl _, CLe.refl _, CLe.refl _, CLe.refl _, CLe.refl _, CLe.refl _, CLe.refl _, trivial⟩, ⟨rfl, .refl _, ⟨rfl, .refl _, ⟨rfl, .refl _, ⟨rfl, .refl _, ⟨rfl, .refl _, ⟨rfl, .refl _, ⟨rfl, oW, ⟨rfl, .refl _, trivial⟩⟩⟩⟩⟩⟩⟩⟩⟩⟩) ?_
    refine aO h fun ⟨a1, a2⟩ h => ?_
    refine dg tT mX ⟨(k707 u1 u0 u2 u4), (k729 u1 u0 u2 u3 u4 o4 o0)⟩ [[(k392 u1 u0 u2 u4)].length = 1, ArrEq 1 2 (elL 2 [(.int .i64 (if u1 < u0.now then u0.now else u1)), (.int .i64 (at' u2 u4.toNat))]) (k394 u1 u0 u2 u4), o0.length = o0.length, _, _, (k391 u1 u0 u2 u4 o0).length = o0.length + [(k392 u1 u0 u2 u4)].length, ArrEq (o0.length + [(k392 u1 u0 u2 u4)].length) 2 (k395 u1 u0 u2 u4 o0) (k396 u1 u0 u2 u4 o0)] { an := [(9, .arr [(k392 u1 u0 u2 u4)].length (k394 u1 u0 u2 u4)), (10, .arr (k391 u1 u0 u2 u4 o0).length (k396 u1 u0 u2 u4 o0))], fr := [(9, 43), (10, 44)] } [] ⟨(rfl), ((by intro i hi j hj; match i, j, hi, hj with | 0, 0, _, _ => rfl | 0, 1, _, _ => rfl)), rfl, a1, a2, (List.length_append), (arrEq_app _ _ _ _), trivial⟩ ?_
    refine ri tT ⟨(k730 u1 u0 u2 u4), (k729 u1 u0 u2 u3 u4 o4 o0)⟩ [] {} [] trivial (Imp.fin (st' := ⟨(k730 u1 u0 u2 u4), [(0, some (.cells 137 [(.own 40 false (k390 u1 u0 u2 u4 o0)), (cB u0.clearing.cleared), (cI (if u1 < u0.now then u0.now else u1)), (cI (k367 u1 u0)), (.own 34 false (k387 u2 u4 o4)), (.d (k264 u0)), (.d (k265 u0)), (.d (k266 u0)), (.d (k267 u0)), (.d (k268 u0)), (.d (k269 u0)), (cI u0.p.buses), (.own 2 true u0.p.sources.length), (.own 3 true u0.p.links.length), (.own 4 true u0.p.racks.length), (cI u0.bus), (.d (k273 u0 u3)), (cI u0.total), (.mp 5), (cI (if u1 < u0.now then u0.now else u1))])), (1, none), (k668 u0), (k669 u0), (k670 u0), (k314 u0), (k710 u2), (k728 u2 u4 o4), (40, some (k393 u1 u0 u2 u4 o0))]⟩) (cs := []) ⟨[], [(0, 0), (1, 1), (2, 2), (3, 3), (4, 4), (5, 5), (33, 33), (34, 34), (44, 40)]⟩ [0, 3, 90, 91, 92] (by kernel_rfl) trivial) ?_
    obtain rfl := oi h
    exact lN (by kernel_rfl)
   ·refine cf hb ?_
    refine aI (fz (k712 o0 u0 u1 o4 u3) []) ?_
    refine aX ?_
    obtain rfl := oi h
    exact lB (by kernel_rfl)
  ·clear hy
   cases y with
   | brk z =>
    obtain ⟨u7, u6⟩ := z
    unfold ExK
    refine ⟨_, .refl, ?_⟩
    refine sz tT ⟨[(2, (vB true))], (k713 u7 u0 u1 u6 u3)⟩ {} [] ?_
    refine aI (Imp.fin (st' := ⟨[(2, (vB true))], [(0, some (.cells 137 [(.own 6 false u7.length), (cB u0.clearing.cleared), (cI (if u1 < u0.now then u0.now else u1)), (cI (k367 u1 u0)), (.d (slD none 1 boolC u6)), (.d (k264 u0)), (.d (k265 u0)), (.d (k266 u0)), (.d (k267 u0)), (.d (k268 u0)), (.d (k269 u0)), (cI u0.p.buses), (.own 2 true u0.p.sources.length), (.own 3 true u0.p.links.length), (.own 4 true u0.p.racks.length), (cI u0.bus), (.d (k273 u0 u3)), (cI u0.total), (.mp 5), (cI (if u1 < u0.now then u0.now else u1))])), (1, none), (k668 u0), (k669 u0), (k670 u0), (k314 u0), (6, some (arD 56 2 Event.cell u7))]⟩) (cs := [u6.length = u6.length]) ⟨[34], [(0, 0), (1, 1), (2, 2), (3, 3), (4, 4), (5, 5), (40, 6)]⟩ [2] (by kernel_rfl) ⟨rfl, trivial⟩) ?_
    refine aR ?_
    obtain rfl := oi h
    exact rh [(sB true)] (.refl _) ⟨rfl, .refl _, ⟨rfl, trivial, ⟨rfl, .refl _, ⟨rfl, .refl _, ⟨rfl, .refl _, ⟨rfl, .refl _, ⟨rfl, .refl _, trivial⟩⟩⟩⟩⟩⟩⟩
   | ret v =>
    obtain rfl := oi h
    unfold ExK
    intro e st hn ha hR
    cases e with
    | normal => exact absurd rfl hn
    | exit id => exact hR
    | goto l => exact hR
    | ret => exact hR
    | panic c => exact hR
    | outgrown => exact hR
def m_guard_machine_run_v1_R (u0 : Machine) : (Clearing × (List (Int × Int))) → Exit → St → Prop :=
  fun r => RetQ TT [.cell 2 36] (.v (.agg [(.own 6 false r.1.events.length), (cB r.1.cleared), (cI r.1.millis), (cI r.1.energy), (.d (slD none 1 boolC r.1.state.closed)), (.d (slD none 1 boolC r.1.state.locked)), (.d (slD none 1 boolC r.1.state.badLink)), (.d (slD none 1 boolC r.1.state.on_)), (.d (slD none 1 boolC r.1.state.badSource)), (.d (slD none 1 boolC r.1.state.earthed)), (.d (slD none 1 boolC r.1.state.badBus))])) [(0, none), (1, none), (k668 u0), (k669 u0), (k670 u0), (5, some (mpD 3 3 false false 1 1 (intC .i64) (intC .i64) r.2)), (6, some (arD 56 2 Event.cell r.1.events)), (7, none)]
abbrev k731 : List (Nat × TV) := [(0, (vP 0 0)), (2, (vP 13 0)), k399]
abbrev k732 : Nat × Option Ob := (13, some k401)
def m_guard_machine_run_v1_S0 (u0 : Machine) : ((List Event) × Bool × Int × Int × (List Bool) × (List Bool) × (List Bool) × (List Bool) × (List Bool) × (List Bool) × (List Bool) × Int × Int × Bool × (List Int) × Int × (List (Int × Int)) × Int) → St :=
  fun zz => match zz with | (o0, o1, o2, o3, o4, o5, o6, o7, o8, o9, u1, u2, u3, u4, u5, u6, u7, u8) => ⟨k731, [(0, some (.cells 137 [(.own 15 false o0.length), (cB o1), (cI o2), (cI o3), (.d (slD none 1 boolC o4)), (.d (slD none 1 boolC o5)), (.d (slD none 1 boolC o6)), (.d (slD none 1 boolC o7)), (.d (slD none 1 boolC o8)), (.d (slD none 1 boolC o9)), (.d (slD none 1 boolC u1)), (cI u2), (.own 2 true u0.p.sources.length), (.own 3 true u0.p.links.length), (.own 4 true u0.p.racks.length), (cI u3), (.d (slD (some u4) 1 (intC .i64) u5)), (cI u6), (.mp 5), (cI u8)])), (1, none), (k668 u0), (k669 u0), (k670 u0), (k675 u7), k732, (15, some (arD 56 2 Event.cell o0))]⟩
def m_guard_machine_run_v1_Q0 (u0 : Machine) : (Flow ((List Event) × Bool × Int × Int × (List Bool) × (List Bool) × (List Bool) × (List Bool) × (List Bool) × (List Bool) × (List Bool) × Int × Int × Bool × (List Int) × Int × (List (Int × Int)) × Int) (Ex Unit (Clearing × (List (Int × Int))))) → Exit → St → Prop :=
  GQ 0 (m_guard_machine_run_v1_S0 u0) (JQ [] (fun _ : Unit => (⟨[], []⟩ : St)) (m_guard_machine_run_v1_R u0))
section
variable (u0 : Machine) (u2 : Bool) (r_ : (Machine × Bool)) (o0 : (List Event)) (u1 : (Bool × Machine × Bool))
abbrev k733 : List (Nat × Option Ob) := [(k678 u0 u2), (k256 u0), (k668 u0), (k669 u0), (k670 u0), (k314 u0), k732]
abbrev k735 : Nat × Option Ob := (5, some (mpD 3 3 false false 1 1 (intC .i64) (intC .i64) r_.1.since))
abbrev k734 : List (Nat × Option Ob) := [(0, some (.cells 137 [(.own 15 false o0.length), (cB r_.1.clearing.cleared), (cI r_.1.clearing.millis), (cI r_.1.clearing.energy), (.d (k405 r_)), (.d (k406 r_)), (.d (k407 r_)), (.d (k408 r_)), (.d (k409 r_)), (.d (k410 r_)), (.d (k411 r_)), (cI r_.1.p.buses), (.own 2 true u0.p.sources.length), (.own 3 true u0.p.links.length), (.own 4 true u0.p.racks.length), (cI r_.1.bus), (.d (k412 r_)), (cI r_.1.total), (.mp 5), (cI r_.1.now)])), (1, none), (k668 u0), (k669 u0), (k670 u0), (k735 r_), k732, (15, some (arD 56 2 Event.cell o0))]
abbrev k736 : Nat × Option Ob := (0, some (.cells 137 [(.own 15 false o0.length), (cB true), (cI r_.1.clearing.millis), (cI r_.1.clearing.energy), (.d (k405 r_)), (.d (k406 r_)), (.d (k407 r_)), (.d (k408 r_)), (.d (k409 r_)), (.d (k410 r_)), (.d (k411 r_)), (cI r_.1.p.buses), (.own 2 true u0.p.sources.length), (.own 3 true u0.p.links.length), (.own 4 true u0.p.racks.length), (cI r_.1.bus), (.d (k412 r_)), (cI r_.1.total), (.mp 5), (cI r_.1.now)]))
abbrev k738 : List CV := [(.own 6 false o0.length), (cB true), (cI r_.1.clearing.millis), (cI r_.1.clearing.energy), (.d (k405 r_)), (.d (k406 r_)), (.d (k407 r_)), (.d (k408 r_)), (.d (k409 r_)), (.d (k410 r_)), (.d (k411 r_))]
abbrev k737 : Nat × Option Ob := (7, some (.cells 36 (k738 r_ o0)))
abbrev k739 : Nat × Option Ob := (0, some (.cells 137 [(.own 19 false u1.2.1.clearing.events.length), (cB u1.2.1.clearing.cleared), (cI u1.2.1.clearing.millis), (cI u1.2.1.clearing.energy), (.d (k419 u1)), (.d (k420 u1)), (.d (k421 u1)), (.d (k422 u1)), (.d (k423 u1)), (.d (k424 u1)), (.d (k425 u1)), (cI u1.2.1.p.buses), (.own 2 true u0.p.sources.length), (.own 3 true u0.p.links.length), (.own 4 true u0.p.racks.length), (cI u1.2.1.bus), (.d (k426 u1)), (cI u1.2.1.total), (.mp 5), (cI u1.2.1.now)]))
abbrev k741 : List CV := [(.own 6 false u1.2.1.clearing.events.length), (cB u1.2.1.clearing.cleared), (cI u1.2.1.clearing.millis), (cI u1.2.1.clearing.energy), (.d (k419 u1)), (.d (k420 u1)), (.d (k421 u1)), (.d (k422 u1)), (.d (k423 u1)), (.d (k424 u1)), (.d (k425 u1))]
abbrev k740 : Nat × Option Ob := (7, some (.cells 36 (k741 u1)))
end
theorem m_guard_machine_run_v1_ok (u0 : Machine) (u2 : Bool) {r : (Clearing × (List (Int × Int)))} (h : m_guard_machine_run_v1 u0 u2 = some r) : Fn Try.prog 63 [(.one (.ptr 0 0))] (k677 u0 u2) (.v (.agg [(.own 6 false r.1.events.length), (cB r.1.cleared), (cI r.1.millis), (cI r.1.energy), (.d (slD none 1 boolC r.1.state.closed)), (.d (slD none 1 boolC r.1.state.locked)), (.d (slD none 1 boolC r.1.state.badLink)), (.d (slD none 1 boolC r.1.state.on_)), (.d (slD none 1 boolC r.1.state.badSource)), (.d (slD none 1 boolC r.1.state.earthed)), (.d (slD none 1 boolC r.1.state.badBus))])) [(0, none), (1, none), (k668 u0), (k669 u0), (k670 u0), (5, some (mpD 3 3 false false 1 1 (intC .i64) (intC .i64) r.2)), (6, some (arD 56 2 Event.cell r.1.events)), (7, none)] := by
 refine fN tT Try.func63 rfl rfl fun B => ?_
 show AWp _ _ _ _ _ _ ((m_guard_machine_run_v1_R u0) r) _
 unfold m_guard_machine_run_v1 at h
 refine sz tT ⟨[(0, (vP 0 0)), (2, (vP 13 0))], (k733 u0 u2)⟩ { fr := [(0, 13)] } [] ?_
 refine bE h fun y hy h => ?_
 refine awp_scopeP 0 rfl [] (m_guard_machine_run_v1_S0 u0) (fun _ : Unit => (⟨[], []⟩ : St)) (m_guard_machine_run_v1_R u0) hy ?_ (fun s f h => ?_) ?_
 ·clear hy
  refine ri tT ⟨k731, (k733 u0 u2)⟩ [] {} [] trivial (.trans (Imp.reown (E0 := 137) (cs := (k679 u0 u2)) (nn := false) (len := u0.clearing.events.length) (E := 56) (esz := 2) (n := u0.clearing.events.length) (el := elOf Event.cell u0.clearing.events) (p := 0) (q := 0) (b := 1) (b' := 20) (by kernel_rfl) (by kernel_rfl) (by kernel_rfl) (by kernel_rfl)) (.trans (fz ⟨k731, [(0, some (.cells 137 [(.own 20 false u0.clearing.events.length), (cB u0.clearing.cleared), (cI u0.clearing.millis), (cI u0.clearing.energy), (.d (k263 u0)), (.d (k264 u0)), (.d (k265 u0)), (.d (k266 u0)), (.d (k267 u0)), (.d (k268 u0)), (.d (k269 u0)), (cI u0.p.buses), (.own 2 true u0.p.sources.length), (.own 3 true u0.p.links.length), (.own 4 true u0.p.racks.length), (cI u0.bus), (.d (k273 u0 u2)), (cI u0.total), (.mp 5), (cI u0.now)])), (1, none), (k668 u0), (k669 u0), (k670 u0), (k314 u0), k732, (20, some (k257 u0))]⟩ []) (Imp.fin (st' := ⟨k731, [(0, some (.cells 137 [(.own 15 false u0.clearing.events.length), (cB u0.clearing.cleared), (cI u0.clearing.millis), (cI u0.clearing.energy), (.d (k263 u0)), (.d (k264 u0)), (.d (k265 u0)), (.d (k266 u0)), (.d (k267 u0)), (.d (k268 u0)), (.d (k269 u0)), (cI u0.p.buses), (.own 2 true u0.p.sources.length), (.own 3 true u0.p.links.length), (.own 4 true u0.p.racks.length), (cI u0.bus), (.d (k273 u0 u2)), (cI u0.total), (.mp 5), (cI u0.now)])), (1, none), (k668 u0), (k669 u0), (k670 u0), (k314 u0), k732, (15, some (k257 u0))]⟩) (cs := []) ⟨[], [(0, 0), (1, 1), (2, 2), (3, 3), (4, 4), (5, 5), (13, 13), (20, 15)]⟩ [0, 2, 3] (by kernel_rfl) trivial))) ?_
  exact ⟨rfl, (by kernel_rfl)⟩
 ·clear hy
  show AWp _ _ _ _ _ _ ((m_guard_machine_run_v1_Q0 u0) f) _
  unfold m_guard_machine_run_v1_L0 at h
  obtain ⟨o0, o1, o2, o3, o4, o5, o6, o7, o8, o9, u3, u4, u5, u6, u7, u8, u9, v0⟩ := s
  refine aQ (bE h fun r_ hr_ h => ?_)
  have q0 := rk [(1, 15)] (m_guard_machine_look_v1_ok (⟨(⟨o0, o1, o2, o3, (⟨o4, o5, o6, o7, o8, o9, u3⟩ : State)⟩ : Clearing), (⟨u4, u0.p.sources, u0.p.links, u0.p.racks⟩ : Plant), u5, u7, u8, u9, v0⟩ : Machine) u6 hr_)
  refine rg tT ⟨k731, (k734 u0 r_ o0)⟩ [_] { an := [(1, cA q0 [0, 15, 2, 3, 4, 5])] } [] ⟨q0, trivial⟩ ?_
  refine aQ (sz tT ⟨[(0, (vP 0 0)), (2, (vP 13 0)), k399, (12, (vB (decide (r_.1.total = 0))))], (k734 u0 r_ o0)⟩ {} [] ?_)
  refine bI h (fun hb1 h => ?_) (fun hb1 h => ?_)
  ·refine ct hb1 ?_
   refine sz tT ⟨[(0, (vP 0 0)), (2, (vP 13 0))], [(k736 u0 r_ o0), (1, none), (k668 u0), (k669 u0), (k670 u0), (k735 r_), k732, (15, some (arD 56 2 Event.cell o0))]⟩ {} [] ?_
   refine sz tT ⟨[(2, (vP 13 0))], [(k736 u0 r_ o0), (1, none), (k668 u0), (k669 u0), (k670 u0), (k735 r_), (13, some (.cells 36 [(.own 15 false o0.length), (cB true), (cI r_.1.clearing.millis), (cI r_.1.clearing.energy), (.d (k405 r_)), (.d (k406 r_)), (.d (k407 r_)), (.d (k408 r_)), (.d (k409 r_)), (.d (k410 r_)), (.d (k411 r_))])), (15, some (arD 56 2 Event.cell o0))]⟩ {} [] ?_
   refine aI (.trans (Imp.fin (st' := ⟨[(2, (vP 7 0))], [(0, some (.cells 137 [(.own 6 false o0.length), (cB true), (cI r_.1.clearing.millis), (cI r_.1.clearing.energy), (.d (k405 r_)), (.d (k406 r_)), (.d (k407 r_)), (.d (k408 r_)), (.d (k409 r_)), (.d (k410 r_)), (.d (k411 r_)), (cI r_.1.p.buses), (.own 2 true u0.p.sources.length), (.own 3 true u0.p.links.length), (.own 4 true u0.p.racks.length), (cI r_.1.bus), (.d (k412 r_)), (cI r_.1.total), (.mp 5), (cI r_.1.now)])), (1, none), (k668 u0), (k669 u0), (k670 u0), (k735 r_), (6, some (arD 56 2 Event.cell o0)), (k737 r_ o0)]⟩) (cs := []) ⟨[], [(0, 0), (1, 1), (2, 2), (3, 3), (4, 4), (5, 5), (15, 6), (13, 7)]⟩ [2] (by kernel_rfl) trivial) (Imp.le (st' := ⟨[(2, (vP 7 0))], [(0, none), (1, none), (k668 u0), (k669 u0), (k670 u0), (k735 r_), (6, some (arD 56 2 Event.cell o0)), (k737 r_ o0)]⟩) ⟨⟨tR, trivial⟩, ⟨rfl, trivial, ⟨rfl, .refl _, ⟨rfl, .refl _, ⟨rfl, .refl _, ⟨rfl, .refl _, ⟨rfl, .refl _, ⟨rfl, .refl _, ⟨rfl, .refl _, trivial⟩⟩⟩⟩⟩⟩⟩⟩⟩)) ?_
   refine aR ?_
   obtain rfl := oi h
   exact GQ_ret ret_ng ret_nn av_ret (RetQ.mk (.inr rfl) (p := []) (l := [(.agg (k738 r_ o0))]) (by kernel_rfl) trivial (TLe.refl _) ⟨rfl, trivial, ⟨rfl, trivial, ⟨rfl, .refl _, ⟨rfl, .refl _, ⟨rfl, .refl _, ⟨rfl, .refl _, ⟨rfl, .refl _, ⟨rfl, trivial, trivial⟩⟩⟩⟩⟩⟩⟩⟩)
  ·refine cf hb1 ?_
   refine aP (aQ (aQ (bE h fun u1 hr_1 h => ?_)))
   have q0 := rk [(1, 15), (6, 19)] (m_guard_machine_round_v1_ok (⟨(k417 r_ o0), (⟨r_.1.p.buses, u0.p.sources, u0.p.links, u0.p.racks⟩ : Plant), r_.1.bus, r_.1.amps, r_.1.total, r_.1.since, r_.1.now⟩ : Machine) r_.2 hr_1)
   refine rg tT ⟨[(0, (vP 0 0)), (2, (vP 13 0)), k399, (22, (vB u1.1))], [(k739 u0 u1), (1, none), (k668 u0), (k669 u0), (k670 u0), (k735 r_), k732, (19, some (k427 u1))]⟩ [_] { an := [(1, cA q0 [0, 15, 2, 3, 4, 5])] } [] ⟨q0, trivial⟩ ?_
   refine bI h (fun hb h => ?_) (fun hb h => ?_)
   ·refine ct hb ?_
    refine aI (Imp.fin (st' := ⟨k731, [(0, some (.cells 137 [(.own 15 false u1.2.1.clearing.events.length), (cB u1.2.1.clearing.cleared), (cI u1.2.1.clearing.millis), (cI u1.2.1.clearing.energy), (.d (k419 u1)), (.d (k420 u1)), (.d (k421 u1)), (.d (k422 u1)), (.d (k423 u1)), (.d (k424 u1)), (.d (k425 u1)), (cI u1.2.1.p.buses), (.own 2 true u0.p.sources.length), (.own 3 true u0.p.links.length), (.own 4 true u0.p.racks.length), (cI u1.2.1.bus), (.d (k426 u1)), (cI u1.2.1.total), (.mp 5), (cI u1.2.1.now)])), (1, none), (k668 u0), (k669 u0), (k670 u0), (k735 r_), k732, (15, some (k427 u1))]⟩) (cs := []) ⟨[], [(0, 0), (1, 1), (2, 2), (3, 3), (4, 4), (5, 5), (13, 13), (19, 15)]⟩ [0, 2, 3] (by kernel_rfl) trivial) ?_
    refine awp_goto ?_
    obtain rfl := oi h
    exact GQ_next (by kernel_rfl)
   ·refine cf hb ?_
    refine aP (sz tT ⟨[(2, (vP 13 0))], [(k739 u0 u1), (1, none), (k668 u0), (k669 u0), (k670 u0), (k735 r_), (13, some (.cells 36 [(.own 19 false u1.2.1.clearing.events.length), (cB u1.2.1.clearing.cleared), (cI u1.2.1.clearing.millis), (cI u1.2.1.clearing.energy), (.d (k419 u1)), (.d (k420 u1)), (.d (k421 u1)), (.d (k422 u1)), (.d (k423 u1)), (.d (k424 u1)), (.d (k425 u1))])), (19, some (k427 u1))]⟩ {} [] ?_)
    refine aI (.trans (Imp.fin (st' := ⟨[(2, (vP 7 0))], [(0, some (.cells 137 [(.own 6 false u1.2.1.clearing.events.length), (cB u1.2.1.clearing.cleared), (cI u1.2.1.clearing.millis), (cI u1.2.1.clearing.energy), (.d (k419 u1)), (.d (k420 u1)), (.d (k421 u1)), (.d (k422 u1)), (.d (k423 u1)), (.d (k424 u1)), (.d (k425 u1)), (cI u1.2.1.p.buses), (.own 2 true u0.p.sources.length), (.own 3 true u0.p.links.length), (.own 4 true u0.p.racks.length), (cI u1.2.1.bus), (.d (k426 u1)), (cI u1.2.1.total), (.mp 5), (cI u1.2.1.now)])), (1, none), (k668 u0), (k669 u0), (k670 u0), (k735 r_), (6, some (k427 u1)), (k740 u1)]⟩) (cs := []) ⟨[], [(0, 0), (1, 1), (2, 2), (3, 3), (4, 4), (5, 5), (19, 6), (13, 7)]⟩ [2] (by kernel_rfl) trivial) (Imp.le (st' := ⟨[(2, (vP 7 0))], [(0, none), (1, none), (k668 u0), (k669 u0), (k670 u0), (k735 r_), (6, some (k427 u1)), (k740 u1)]⟩) ⟨⟨tR, trivial⟩, ⟨rfl, trivial, ⟨rfl, .refl _, ⟨rfl, .refl _, ⟨rfl, .refl _, ⟨rfl, .refl _, ⟨rfl, .refl _, ⟨rfl, .refl _, ⟨rfl, .refl _, trivial⟩⟩⟩⟩⟩⟩⟩⟩⟩)) ?_
    refine aR ?_
    obtain rfl := oi h
    exact GQ_ret ret_ng ret_nn av_ret (RetQ.mk (.inr rfl) (p := []) (l := [(.agg (k741 u1))]) (by kernel_rfl) trivial (TLe.refl _) ⟨rfl, trivial, ⟨rfl, trivial, ⟨rfl, .refl _, ⟨rfl, .refl _, ⟨rfl, .refl _, ⟨rfl, .refl _, ⟨rfl, .refl _, ⟨rfl, trivial, trivial⟩⟩⟩⟩⟩⟩⟩⟩)
 ·clear hy
  cases y with
  | brk z => exact absurd h (by simp)
  | ret v =>
   obtain rfl := oi h
   unfold ExK
   intro e st hn ha hR
   cases e with
   | normal => exact absurd rfl hn
   | exit id => exact hR
   | goto l => exact hR
   | ret => exact hR
   | panic c => exact hR
   | outgrown => exact hR
def m_guard_Clear_v2_R (p : Plant) : (Clearing × Int) → Exit → St → Prop :=
  fun r => RetQ TT [.cell 6 36, .tmp 7] (.tup [(.agg [(.own 3 false r.1.events.length), (cB r.1.cleared), (cI r.1.millis), (cI r.1.energy), (.d (slD none 1 boolC r.1.state.closed)), (.d (slD none 1 boolC r.1.state.locked)), (.d (slD none 1 boolC r.1.state.badLink)), (.d (slD none 1 boolC r.1.state.on_)), (.d (slD none 1 boolC r.1.state.badSource)), (.d (slD none 1 boolC r.1.state.earthed)), (.d (slD none 1 boolC r.1.state.badBus))]), (sI r.2)]) [(k619 p), (k620 p), (k621 p), (3, some (arD 56 2 Event.cell r.1.events)), (4, none)]
section
variable (p : Plant) (u1 : State) (u2 : Int) (u0 : (Clearing × (List (Int × Int))))
abbrev k742 : List (Nat × Option Ob) := [(k619 p), (k620 p), (k621 p), (11, some (k626 p)), k732]
abbrev k743 : List (Nat × Option Ob) := [(k619 p), (k620 p), (k621 p), k732]
abbrev k744 : List (Nat × Option Ob) := [(k619 p), (k620 p), (k621 p), (3, some (.arr 56 2 0 (elOf Event.cell ([] : List Event)))), (4, some (.cells 36 [(.own 3 false 0), (cB false), (cI 0), (cI 0), (.d nS), (.d nS), (.d nS), (.d nS), (.d nS), (.d nS), (.d nS)]))]
abbrev k746 : List CV := [(.own 3 false (([] : List Event).length)), (cB false), (cI 0), (cI 0), (.d k436), (.d k436), (.d k436), (.d k436), (.d k436), (.d k436), (.d k436)]
abbrev k745 : List (Nat × Option Ob) := [(k619 p), (k620 p), (k621 p), (3, some k434), (4, some (.cells 36 k746))]
abbrev k747 : Nat × Option Ob := (16, some k438)
abbrev k748 : List CV := [(.d nS), (cB false), (cI 0), (cI 0), (.d (k75 u1)), (.d (k76 u1)), (.d (k77 u1)), (.d (k78 u1)), (.d (k79 u1)), (.d (k80 u1)), (.d (k81 u1)), (cI p.buses), (.own 0 true p.sources.length), (.own 1 true p.links.length), (.own 2 true p.racks.length), (cI u2), (.d nS), (cI 0), (.mp 16), (cI 0)]
abbrev k749 : Nat × Option Ob := (17, some (.cells 137 [(.own 18 false (([] : List Event).length)), (cB false), (cI 0), (cI 0), (.d (k75 u1)), (.d (k76 u1)), (.d (k77 u1)), (.d (k78 u1)), (.d (k79 u1)), (.d (k80 u1)), (.d (k81 u1)), (cI p.buses), (.own 0 true p.sources.length), (.own 1 true p.links.length), (.own 2 true p.racks.length), (cI u2), (.d nS), (cI 0), (.mp 16), (cI 0)]))
abbrev k750 : Nat × Option Ob := (18, some k434)
abbrev k751 : List CV := [(.own 19 false u0.1.events.length), (cB u0.1.cleared), (cI u0.1.millis), (cI u0.1.energy), (.d (slD none 1 boolC u0.1.state.closed)), (.d (slD none 1 boolC u0.1.state.locked)), (.d (slD none 1 boolC u0.1.state.badLink)), (.d (slD none 1 boolC u0.1.state.on_)), (.d (k443 u0)), (.d (slD none 1 boolC u0.1.state.earthed)), (.d (slD none 1 boolC u0.1.state.badBus))]
abbrev k752 : TV := (.v (.agg (k751 u0)))
abbrev k753 : List (Nat × Option Ob) := [(17, none), (18, none), (k619 p), (k620 p), (k621 p), (16, some (mpD 3 3 false false 1 1 (intC .i64) (intC .i64) u0.2)), (19, some (arD 56 2 Event.cell u0.1.events)), (20, none)]
abbrev k754 : List CV := [(.own 3 false u0.1.events.length), (cB u0.1.cleared), (cI u0.1.millis), (cI u0.1.energy), (.d (slD none 1 boolC u0.1.state.closed)), (.d (slD none 1 boolC u0.1.state.locked)), (.d (slD none 1 boolC u0.1.state.badLink)), (.d (slD none 1 boolC u0.1.state.on_)), (.d (k443 u0)), (.d (slD none 1 boolC u0.1.state.earthed)), (.d (slD none 1 boolC u0.1.state.badBus))]
end
theorem m_guard_Clear_v2_ok (p : Plant) (s_ : State) (u2 : Int) {r : (Clearing × Int)} (h : m_guard_Clear_v2 p s_ u2 = some r) : Fn Try.prog 15 (k632 p s_ u2) (k633 p) (.tup [(.agg [(.own 3 false r.1.events.length), (cB r.1.cleared), (cI r.1.millis), (cI r.1.energy), (.d (slD none 1 boolC r.1.state.closed)), (.d (slD none 1 boolC r.1.state.locked)), (.d (slD none 1 boolC r.1.state.badLink)), (.d (slD none 1 boolC r.1.state.on_)), (.d (slD none 1 boolC r.1.state.badSource)), (.d (slD none 1 boolC r.1.state.earthed)), (.d (slD none 1 boolC r.1.state.badBus))]), (sI r.2)]) [(k619 p), (k620 p), (k621 p), (3, some (arD 56 2 Event.cell r.1.events)), (4, none)] := by
 refine fN tT Try.func15 rfl rfl fun B => ?_
 show AWp _ _ _ _ _ _ ((m_guard_Clear_v2_R p) r) _
 unfold m_guard_Clear_v2 at h
 refine sz tT ⟨[(2, (vI u2)), (3, (vP 11 0)), (k120 s_), (6, (vP 13 0))], (k742 p)⟩ { fr := [(0, 11), (1, 12), (2, 13)] } [12] ?_
 refine aQ (aQ (bE h fun r_ hr_ h => ?_))
 refine rg tT ⟨[(2, (vI u2)), (3, (vP 11 0)), (k120 s_), (6, (vP 13 0)), (8, (vI r_))], (k742 p)⟩ [Fn Try.prog 12 (k651 p s_) (k633 p) (vI r_) (k633 p)] { an := [(2, .callR [0, 1, 2] (vI r_))] } [] ⟨(Fn.lend (frz := [0, 1, 2]) (p := [p.sources.length = p.sources.length, p.links.length = p.links.length, p.racks.length = p.racks.length]) (Fn.le (args' := (k652 p s_)) (m_plant_CheckState_ok p s_ hr_) ⟨SLe.agg ⟨CLe.refl _, CLe.d DLe.nn', CLe.d DLe.nn', CLe.d DLe.nn', trivial⟩, SLe.refl _, trivial⟩) (by kernel_rfl) ⟨rfl, rfl, rfl, trivial⟩ rfl), trivial⟩ ?_
 refine sz tT ⟨[(2, (vI u2)), (3, (vP 11 0)), (k120 s_), (6, (vP 13 0)), (8, (vI r_)), (14, (vB (!decide (r_ = 0))))], (k742 p)⟩ {} [] ?_
 refine bI h (fun hb1 h => ?_) (fun hb1 h => ?_)
 ·refine ct hb1 ?_
  refine sz tT ⟨[(6, (vP 13 0)), (7, (vI r_))], (k743 p)⟩ {} [] ?_
  refine aI (.trans (Imp.adoptC (E := 0) (esz := 0) (E0 := 36) (cs := k402) (p := 13) (q := 0) (b := 14) (esz0 := 0) (el0 := fun _ _ => .nilp) (ob := .arr 56 2 0 (elOf Event.cell ([] : List Event))) (fun _ _ _ _ h => .inl ⟨h, rfl⟩) (by kernel_rfl) (by kernel_rfl) (by kernel_rfl)) (.trans (fz ⟨[(6, (vP 13 0)), (7, (vI r_))], [(k619 p), (k620 p), (k621 p), (13, some (.cells 36 [(.own 14 false 0), (cB false), (cI 0), (cI 0), (.d nS), (.d nS), (.d nS), (.d nS), (.d nS), (.d nS), (.d nS)])), (14, some (.arr 56 2 0 (elOf Event.cell ([] : List Event))))]⟩ []) (.trans (Imp.fin (st' := ⟨[(6, (vP 4 0)), (7, (vI r_))], (k744 p)⟩) (cs := []) ⟨[], [(0, 0), (1, 1), (2, 2), (14, 3), (13, 4)]⟩ [6, 7] (by kernel_rfl) trivial) (Imp.le (st' := ⟨[(6, (vP 4 0)), (7, (vI r_))], (k745 p)⟩) ⟨⟨tR, tR, trivial⟩, ⟨rfl, .refl _, ⟨rfl, .refl _, ⟨rfl, .refl _, ⟨rfl, oW, ⟨rfl, OLe_cells ⟨cW, CLe.refl _, CLe.refl _, CLe.refl _, CLe.d DLe.nil', CLe.d DLe.nil', CLe.d DLe.nil', CLe.d DLe.nil', CLe.d DLe.nil', CLe.d DLe.nil', CLe.d DLe.nil', trivial⟩, trivial⟩⟩⟩⟩⟩⟩)))) ?_
  refine aR ?_
  obtain rfl := oi h
  exact rh [(.agg k746), (sI r_)] (.refl _) ⟨rfl, .refl _, ⟨rfl, .refl _, ⟨rfl, .refl _, ⟨rfl, .refl _, ⟨rfl, trivial, trivial⟩⟩⟩⟩⟩
 ·refine cf hb1 ?_
  refine aP (aQ (sg tT ⟨[(2, (vI u2)), (3, (vP 11 0)), (k120 s_), (6, (vP 13 0)), (24, (vB (bif (decide (u2 < 0)) then true else (decide (p.buses ≤ u2)))))], (k742 p)⟩ (eqs (decide (u2 < 0)) 5 []) { yb := [(2, (decide (u2 < 0)))] } [] (ae trivial) ?_))
  refine bI h (fun hb h => ?_) (fun hb h => ?_)
  ·refine ct hb ?_
   refine sz tT ⟨[(6, (vP 13 0)), (7, (vI 1))], (k743 p)⟩ {} [] ?_
   refine aI (.trans (Imp.adoptC (E := 0) (esz := 0) (E0 := 36) (cs := k402) (p := 13) (q := 0) (b := 15) (esz0 := 0) (el0 := fun _ _ => .nilp) (ob := .arr 56 2 0 (elOf Event.cell ([] : List Event))) (fun _ _ _ _ h => .inl ⟨h, rfl⟩) (by kernel_rfl) (by kernel_rfl) (by kernel_rfl)) (.trans (fz ⟨[(6, (vP 13 0)), (7, (vI 1))], [(k619 p), (k620 p), (k621 p), (13, some (.cells 36 [(.own 15 false 0), (cB false), (cI 0), (cI 0), (.d nS), (.d nS), (.d nS), (.d nS), (.d nS), (.d nS), (.d nS)])), (15, some (.arr 56 2 0 (elOf Event.cell ([] : List Event))))]⟩ []) (.trans (Imp.fin (st' := ⟨[(6, (vP 4 0)), (7, (vI 1))], (k744 p)⟩) (cs := []) ⟨[], [(0, 0), (1, 1), (2, 2), (15, 3), (13, 4)]⟩ [6, 7] (by kernel_rfl) trivial) (Imp.le (st' := ⟨[(6, (vP 4 0)), (7, (vI 1))], (k745 p)⟩) ⟨⟨tR, tR, trivial⟩, ⟨rfl, .refl _, ⟨rfl, .refl _, ⟨rfl, .refl _, ⟨rfl, oW, ⟨rfl, OLe_cells ⟨cW, CLe.refl _, CLe.refl _, CLe.refl _, CLe.d DLe.nil', CLe.d DLe.nil', CLe.d DLe.nil', CLe.d DLe.nil', CLe.d DLe.nil', CLe.d DLe.nil', CLe.d DLe.nil', trivial⟩, trivial⟩⟩⟩⟩⟩⟩)))) ?_
   refine aR ?_
   obtain rfl := oi h
   exact rh [(.agg k746), (sI 1)] (.refl _) ⟨rfl, .refl _, ⟨rfl, .refl _, ⟨rfl, .refl _, ⟨rfl, .refl _, ⟨rfl, trivial, trivial⟩⟩⟩⟩⟩
  ·refine cf hb ?_
   refine aP (aQ (bE h fun u1 hr_1 h => ?_))
   have q0 := m_guard_copied_ok s_ hr_1
   refine di tT mX ⟨[(6, (vP 13 0)), (9, (vP 17 0))], [(k619 p), (k620 p), (k621 p), k732, k747, (17, some (.cells 137 (k748 p u1 u2)))]⟩ [_] { an := [(1, cA q0 []), (5, .map 0 (kOf (intC .i64) ([] : (List (Int × Int)))) (vOf (intC .i64) ([] : (List (Int × Int)))) [])], fr := [(5, 16), (7, 17)] } [] ⟨q0, trivial⟩ (.trans (Imp.adoptC (E := 0) (esz := 0) (E0 := 137) (cs := (k748 p u1 u2)) (p := 17) (q := 0) (b := 18) (esz0 := 0) (el0 := fun _ _ => .nilp) (ob := .arr 56 2 0 (elOf Event.cell ([] : List Event))) (fun _ _ _ _ h => .inl ⟨h, rfl⟩) (by kernel_rfl) (by kernel_rfl) (by kernel_rfl)) (.trans (fz ⟨[(6, (vP 13 0)), (9, (vP 17 0))], [(k619 p), (k620 p), (k621 p), k732, k747, (17, some (.cells 137 [(.own 18 false 0), (cB false), (cI 0), (cI 0), (.d (k75 u1)), (.d (k76 u1)), (.d (k77 u1)), (.d (k78 u1)), (.d (k79 u1)), (.d (k80 u1)), (.d (k81 u1)), (cI p.buses), (.own 0 true p.sources.length), (.own 1 true p.links.length), (.own 2 true p.racks.length), (cI u2), (.d nS), (cI 0), (.mp 16), (cI 0)])), (18, some (.arr 56 2 0 (elOf Event.cell ([] : List Event))))]⟩ []) (Imp.le (st' := ⟨[(6, (vP 13 0)), (9, (vP 17 0))], [(k619 p), (k620 p), (k621 p), k732, k747, (k749 p u1 u2), k750]⟩) ⟨⟨tR, tR, trivial⟩, ⟨rfl, .refl _, ⟨rfl, .refl _, ⟨rfl, .refl _, ⟨rfl, .refl _, ⟨rfl, .refl _, ⟨rfl, OLe_cells ⟨cW, CLe.refl _, CLe.refl _, CLe.refl _, CLe.refl _, CLe.refl _, CLe.refl _, CLe.refl _, CLe.refl _, CLe.refl _, CLe.refl _, CLe.refl _, CLe.refl _, CLe.refl _, CLe.refl _, CLe.refl _, CLe.refl _, CLe.refl _, CLe.refl _, CLe.refl _, trivial⟩, ⟨rfl, oW, trivial⟩⟩⟩⟩⟩⟩⟩⟩))) ?_
   refine aQ (bE h fun u0 hr_2 h => ?_)
   refine rg tT ⟨[(6, (vP 13 0)), (7, (vI 0))], [(k619 p), (k620 p), (k621 p), (13, some (.cells 36 (k751 u0))), (19, some (arD 56 2 Event.cell u0.1.events))]⟩ [Fn Try.prog 63 [(.one (.ptr 17 0))] [(k749 p u1 u2), k750, (k619 p), (k620 p), (k621 p), k747] (k752 u0) (k753 p u0)] { an := [(1, .call [17, 18, 0, 1, 2, 16] (k752 u0) (k753 p u0))] } [] ⟨(Fn.leH (args := [(.one (.ptr 17 0))]) (hin := [(17, some (.cells 137 [(.own 18 false (([] : List Event).length)), (cB false), (cI 0), (cI 0), (.d (k75 u1)), (.d (k76 u1)), (.d (k77 u1)), (.d (k78 u1)), (.d (k79 u1)), (.d (k80 u1)), (.d (k81 u1)), (cI p.buses), (.own 0 true p.sources.length), (.own 1 true p.links.length), (.own 2 true p.racks.length), (cI u2), (.d k240), (cI 0), (.mp 16), (cI 0)])), k750, (k619 p), (k620 p), (k621 p), k747]) (Fn.renK [(0, 17), (1, 18), (2, 0), (3, 1), (4, 2), (5, 16), (6, 19), (7, 20)] (m_guard_machine_run_v1_ok (k446 p u1 u2) false hr_2) (by kernel_rfl) (by kernel_rfl) (by kernel_rfl) (by kernel_rfl)) ⟨SLe.refl _, trivial⟩ ⟨rfl, OLe_cells ⟨CLe.refl _, CLe.refl _, CLe.refl _, CLe.refl _, CLe.refl _, CLe.refl _, CLe.refl _, CLe.refl _, CLe.refl _, CLe.refl _, CLe.refl _, CLe.refl _, CLe.refl _, CLe.refl _, CLe.refl _, CLe.refl _, CLe.d DLe.nilSl, CLe.refl _, CLe.refl _, CLe.refl _, trivial⟩, ⟨rfl, .refl _, ⟨rfl, .refl _, ⟨rfl, .refl _, ⟨rfl, .refl _, ⟨rfl, .refl _, trivial⟩⟩⟩⟩⟩⟩), trivial⟩ ?_
   refine aI (Imp.fin (st' := ⟨[(6, (vP 4 0)), (7, (vI 0))], [(k619 p), (k620 p), (k621 p), (3, some (arD 56 2 Event.cell u0.1.events)), (4, some (.cells 36 (k754 u0)))]⟩) (cs := []) ⟨[], [(0, 0), (1, 1), (2, 2), (19, 3), (13, 4)]⟩ [6, 7] (by kernel_rfl) trivial) ?_
   refine aR ?_
   obtain rfl := oi h
   exact rh [(.agg (k754 u0)), (sI 0)] (.refl _) ⟨rfl, .refl _, ⟨rfl, .refl _, ⟨rfl, .refl _, ⟨rfl, .refl _, ⟨rfl, trivial, trivial⟩⟩⟩⟩⟩
def m_plant_failed_v1_R (p : Plant) : (State × Int) → Exit → St → Prop :=
  fun r => RetQ TT [.cell 8 29, .tmp 9] (.tup [(.agg [(.d (slD none 1 boolC r.1.closed)), (.d (slD none 1 boolC r.1.locked)), (.d (slD none 1 boolC r.1.badLink)), (.d (slD none 1 boolC r.1.on_)), (.d (slD none 1 boolC r.1.badSource)), (.d (slD none 1 boolC r.1.earthed)), (.d (slD none 1 boolC r.1.badBus))]), (sI r.2)]) (k633 p)
section
variable (s_ : State) (x : Part) (p : Plant) (u0 : State) (is : Bool)
abbrev k755 : Nat × Option Ob := (23, some (k100 s_))
abbrev k756 : Nat × Option Ob := (24, some (.cells 117 [(cI x.kind), (cI x.index)]))
abbrev k757 : Nat × Option Ob := (25, some k113)
abbrev k758 : List (Nat × Option Ob) := [(k619 p), (k620 p), (k621 p), (k755 s_), (k756 x), k757]
abbrev k759 : Nat × TV := (8, (vD (ipT [k436, k436, k436, k436, k436, k436, k436] 0)))
abbrev k760 : List CV := [(.d k436), (.d k436), (.d k436), (.d k436), (.d k436), (.d k436), (.d k436)]
abbrev k762 : Nat × Option Ob := (23, some (.cells 29 [(.own 26 false u0.closed.length), (.own 27 false u0.locked.length), (.own 28 false u0.badLink.length), (.own 29 false u0.on_.length), (.own 30 false u0.badSource.length), (.own 31 false u0.earthed.length), (.own 32 false u0.badBus.length)]))
abbrev k763 : Nat × Option Ob := (26, some (arD 4 1 boolC u0.closed))
abbrev k764 : Nat × Option Ob := (27, some (arD 4 1 boolC u0.locked))
abbrev k765 : Nat × Option Ob := (28, some (arD 4 1 boolC u0.badLink))
abbrev k766 : Nat × Option Ob := (29, some (arD 4 1 boolC u0.on_))
abbrev k767 : Nat × Option Ob := (30, some (arD 4 1 boolC u0.badSource))
abbrev k768 : Nat × Option Ob := (31, some (arD 4 1 boolC u0.earthed))
abbrev k769 : Nat × Option Ob := (32, some (arD 4 1 boolC u0.badBus))
abbrev k761 : List (Nat × Option Ob) := [(k619 p), (k620 p), (k621 p), (k762 u0), (k756 x), k757, (k763 u0), (k764 u0), (k765 u0), (k766 u0), (k767 u0), (k768 u0), (k769 u0)]
abbrev k770 : List CV := [(.own 32 false u0.badBus.length)]
abbrev k771 := (scV 1 (k770 u0))
abbrev k772 : List CV := [(.own 30 false u0.badSource.length)]
abbrev k773 : List DV := [(.int .i64 1), (.int .i64 2)]
abbrev k774 := (scV 1 [(.own 32 false u0.badBus.length), (.own 30 false u0.badSource.length)])
abbrev k775 : List CV := [(.own 28 false u0.badLink.length)]
abbrev k776 : List DV := [(.int .i64 1), (.int .i64 2), (.int .i64 3)]
abbrev k777 := (scV 1 [(.own 32 false u0.badBus.length), (.own 30 false u0.badSource.length), (.own 28 false u0.badLink.length)])
abbrev k778 : St := ⟨[(8, (vD (ipT [nS, nS, nS, nS, nS, nS, nS] 0))), (9, (vI 14))], (k633 p)⟩
abbrev k779 : St := ⟨[k759, (9, (vI 14))], (k633 p)⟩
abbrev k780 : List SV := [(.agg k760), (sI 14)]
abbrev k781 : List (Nat × TV) := [(5, (vP 23 0)), (8, (vP 25 0))]
abbrev k782 : List CV := [(.d (k75 u0)), (.d (k76 u0)), (.d (k77 u0)), (.d (k78 u0)), (.d (k79 u0)), (.d (k80 u0)), (.d (slD none 1 boolC (u0.badBus.set x.index.toNat is)))]
abbrev k783 := (u0.badSource.set x.index.toNat is)
abbrev k784 : List CV := [(.d (k75 u0)), (.d (k76 u0)), (.d (k77 u0)), (.d (k78 u0)), (.d (slD none 1 boolC (k783 x u0 is))), (.d (k80 u0)), (.d (k81 u0))]
abbrev k785 := (u0.badLink.set x.index.toNat is)
abbrev k786 : List CV := [(.d (k75 u0)), (.d (k76 u0)), (.d (slD none 1 boolC (k785 x u0 is))), (.d (k78 u0)), (.d (k79 u0)), (.d (k80 u0)), (.d (k81 u0))]
end
theorem m_plant_failed_v1_ok (p : Plant) (s_ : State) (x : Part) (is : Bool) {r : (State × Int)} (h : m_plant_failed p s_ x is = some r) : Fn Try.prog 93 [(.agg (k627 p)), (.agg (k98 s_)), (.agg [(cI x.kind), (cI x.index)]), (sB is)] (k633 p) (.tup [(.agg [(.d (slD none 1 boolC r.1.closed)), (.d (slD none 1 boolC r.1.locked)), (.d (slD none 1 boolC r.1.badLink)), (.d (slD none 1 boolC r.1.on_)), (.d (slD none 1 boolC r.1.badSource)), (.d (slD none 1 boolC r.1.earthed)), (.d (slD none 1 boolC r.1.badBus))]), (sI r.2)]) (k633 p) := by
 refine fN tT Try.func93 rfl rfl fun B => ?_
 show AWp _ _ _ _ _ _ ((m_plant_failed_v1_R p) r) _
 unfold m_plant_failed at h
 refine sz tT ⟨[(3, (vB is)), (4, (vP 22 0)), (5, (vP 23 0)), (6, (vP 24 0)), (8, (vP 25 0))], [(k619 p), (k620 p), (k621 p), (22, some (k626 p)), (k755 s_), (k756 x), k757]⟩ { fr := [(0, 22), (1, 23), (2, 24), (3, 25)] } [] ?_
 refine aQ (aQ (bE h fun r_ hr_ h => ?_))
 refine rg tT ⟨[(3, (vB is)), (5, (vP 23 0)), (6, (vP 24 0)), (8, (vP 25 0)), (10, (vI r_))], (k758 s_ x p)⟩ [Fn Try.prog 12 (k651 p s_) (k633 p) (vI r_) (k633 p)] { an := [(2, .callR [0, 1, 2] (vI r_))] } [] ⟨(Fn.lend (frz := [0, 1, 2]) (p := [p.sources.length = p.sources.length, p.links.length = p.links.length, p.racks.length = p.racks.length]) (Fn.le (args' := (k652 p s_)) (m_plant_CheckState_ok p s_ hr_) ⟨SLe.agg ⟨CLe.refl _, CLe.d DLe.nn', CLe.d DLe.nn', CLe.d DLe.nn', trivial⟩, SLe.refl _, trivial⟩) (by kernel_rfl) ⟨rfl, rfl, rfl, trivial⟩ rfl), trivial⟩ ?_
 refine sz tT ⟨[(3, (vB is)), (5, (vP 23 0)), (6, (vP 24 0)), (8, (vP 25 0)), (10, (vI r_)), (16, (vB (!decide (r_ = 0))))], (k758 s_ x p)⟩ {} [] ?_
 refine bI h (fun hb7 h => ?_) (fun hb7 h => ?_)
 ·refine ct hb7 ?_
  refine sz tT ⟨[(8, (vD (ipT [nS, nS, nS, nS, nS, nS, nS] 0))), (9, (vI r_))], (k633 p)⟩ {} [25] ?_
  refine aI (Imp.le (st' := ⟨[k759, (9, (vI r_))], (k633 p)⟩) ⟨⟨⟨_, rfl, TLe.v (SLe.one (CLe.d (ipT_le ⟨DLe.nil', DLe.nil', DLe.nil', DLe.nil', DLe.nil', DLe.nil', DLe.nil', trivial⟩)))⟩, tR, trivial⟩, ⟨rfl, .refl _, ⟨rfl, .refl _, ⟨rfl, .refl _, trivial⟩⟩⟩⟩) ?_
  refine aR ?_
  obtain rfl := oi h
  exact rh [(.agg k760), (sI r_)] (.refl _) ⟨rfl, .refl _, ⟨rfl, .refl _, ⟨rfl, .refl _, trivial⟩⟩⟩
 ·refine cf hb7 ?_
  refine aP (aQ (bE h fun u0 hr_1 h => ?_))
  have q0 := rk [(0, 26), (1, 27), (2, 28), (3, 29), (4, 30), (5, 31), (6, 32), (7, 33)] (m_plant_copied_v1_ok s_ hr_1)
  refine rg tT ⟨[(3, (vB is)), (5, (vP 23 0)), (6, (vP 24 0)), (8, (vP 25 0))], (k761 x p u0)⟩ [_] { an := [(1, cA q0 [])] } [] ⟨q0, trivial⟩ ?_
  refine aQ ?_
  refine bI h (fun hb h => ?_) (fun hb h => ?_)
  ·skip
   refine rg tT ⟨[(3, (vB is)), (5, (vP 23 0)), (6, (vP 24 0)), (8, (vP 25 0)), (11, (vO 32 false u0.badBus.length))], (k761 x p u0)⟩ [SetAt [some .i64] 1 1 0 (scK []) (scV 1 []) [(.int .i64 1)] (k770 u0) [32] 1 (scK [(.int .i64 1)]) (k771 u0), SetAt [some .i64] 1 1 1 (scK [(.int .i64 1)]) (k771 u0) [(.int .i64 2)] (k772 u0) [32, 30] 2 (scK k773) (k774 u0), SetAt [some .i64] 1 1 2 (scK k773) (k774 u0) [(.int .i64 3)] (k775 u0) [32, 30, 28] 3 (scK k776) (k777 u0), LookAt [some .i64] 1 1 3 (scK k776) (k777 u0) [(.int .i64 x.kind)] [(.d nS)] true (k770 u0)] { an := [(0, .map 0 (scK []) (scV 1 []) []), (3, .map 1 (scK [(.int .i64 1)]) (k771 u0) [32]), (6, .map 2 (scK k773) (k774 u0) [32, 30]), (9, .map 3 (scK k776) (k777 u0) [32, 30, 28]), (13, .look true (k770 u0))], fr := [(0, 35)] } [] ⟨(⟨(fun i hi => absurd hi (Nat.not_lt_zero i)), (by intro i hi j hj; match i, j, hi, hj with | 0, 0, _, _ => exact subL_iff.1 (show subL (CV.ment (.own 32 false u0.badBus.length)) [32] = true from by kernel_rfl)), 0, (fun i hi => absurd hi (Nat.not_lt_zero i)), .inr ⟨rfl, rfl⟩, rfl, rfl, (fun i hi => absurd hi (Nat.not_lt_zero i))⟩), (⟨(by intro i hi; match i, hi with | 0, _ => rfl), (by intro i hi j hj; match i, j, hi, hj with | 0, 0, _, _ => exact subL_iff.1 (show subL (CV.ment (.own 32 false u0.badBus.length)) [32, 30] = true from by kernel_rfl) | 1, 0, _, _ => exact subL_iff.1 (show subL (CV.ment (.own 30 false u0.badSource.length)) [32, 30] = true from by kernel_rfl)), 1, (by intro i hi; match i, hi with | 0, _ => rfl), .inr ⟨rfl, rfl⟩, rfl, rfl, (by intro i hi; match i, hi with | 0, _ => exact fun _ => ⟨rfl, rfl⟩)⟩), (⟨(by intro i hi; match i, hi with | 0, _ => rfl | 1, _ => rfl), (by intro i hi j hj; match i, j, hi, hj with | 0, 0, _, _ => exact subL_iff.1 (show subL (CV.ment (.own 32 false u0.badBus.length)) [32, 30, 28] = true from by kernel_rfl) | 1, 0, _, _ => exact subL_iff.1 (show subL (CV.ment (.own 30 false u0.badSource.length)) [32, 30, 28] = true from by kernel_rfl) | 2, 0, _, _ => exact subL_iff.1 (show subL (CV.ment (.own 28 false u0.badLink.length)) [32, 30, 28] = true from by kernel_rfl)), 2, (by intro i hi; match i, hi with | 0, _ => rfl | 1, _ => rfl), .inr ⟨rfl, rfl⟩, rfl, rfl, (by intro i hi; match i, hi with | 0, _ => exact fun _ => ⟨rfl, rfl⟩ | 1, _ => exact fun _ => ⟨rfl, rfl⟩)⟩), (⟨(by intro i hi; match i, hi with | 0, _ => rfl | 1, _ => rfl | 2, _ => rfl), .inl ⟨rfl, 0, by decide, congrArg some hb, (fun i hi => absurd hi (Nat.not_lt_zero i)), rfl⟩⟩), trivial⟩ ?_
   refine aQ (aQ (bE h fun u1 hr_2 h => ?_))
   have q0 := m_plant_within_ok x.index 0 (IntKind.wrap .i64 ((u0.badBus.length : Int) - 1)) hr_2
   refine rg tT ⟨[(3, (vB is)), (5, (vP 23 0)), (6, (vP 24 0)), (8, (vP 25 0)), (11, (vO 32 false u0.badBus.length)), (38, (vB (!u1)))], (k761 x p u0)⟩ [_] { an := [(5, cA q0 [])] } [] ⟨q0, trivial⟩ ?_
   refine bI h (fun hb1 h => ?_) (fun hb1 h => ?_)
   ·refine ct hb1 ?_
    refine sz tT (k778 p) {} [25] ?_
    refine aI (Imp.le (st' := (k779 p)) ⟨⟨⟨_, rfl, TLe.v (SLe.one (CLe.d (ipT_le ⟨DLe.nil', DLe.nil', DLe.nil', DLe.nil', DLe.nil', DLe.nil', DLe.nil', trivial⟩)))⟩, tR, trivial⟩, ⟨rfl, .refl _, ⟨rfl, .refl _, ⟨rfl, .refl _, trivial⟩⟩⟩⟩) ?_
    refine aR ?_
    obtain rfl := oi h
    exact rh k780 (.refl _) ⟨rfl, .refl _, ⟨rfl, .refl _, ⟨rfl, .refl _, trivial⟩⟩⟩
   ·refine cf hb1 ?_
    refine aP (aQ (aO h fun a1 h => ?_))
    refine ri tT ⟨k781, [(k619 p), (k620 p), (k621 p), (k762 u0), k757, (k763 u0), (k764 u0), (k765 u0), (k766 u0), (k767 u0), (k768 u0), (32, some (.arr 4 1 u0.badBus.length (elOf boolC (u0.badBus.set x.index.toNat is))))]⟩ [_, _, ArrEq u0.badBus.length 1 (stEls (elOf boolC u0.badBus) x.index.toNat 0 [(.bool is)]) (elOf boolC (u0.badBus.set x.index.toNat is))] { an := [(5, .arr 0 (elOf boolC (u0.badBus.set x.index.toNat is)))] } [] ⟨a1, (tL a1), (arrEq_set' _ _ _ _ _ _ _ _ rfl (fun j hj => (match j, hj with | 0, _ => rfl))), trivial⟩ (Imp.le (st' := ⟨k781, [(k619 p), (k620 p), (k621 p), (23, some (.cells 29 [(.own 26 false u0.closed.length), (.own 27 false u0.locked.length), (.own 28 false u0.badLink.length), (.own 29 false u0.on_.length), (.own 30 false u0.badSource.length), (.own 31 false u0.earthed.length), (.own 32 false ((u0.badBus.set x.index.toNat is).length))])), k757, (k763 u0), (k764 u0), (k765 u0), (k766 u0), (k767 u0), (k768 u0), (32, some (arD 4 1 boolC (u0.badBus.set x.index.toNat is)))]⟩) ⟨⟨tR, tR, trivial⟩, ⟨rfl, .refl _, ⟨rfl, .refl _, ⟨rfl, .refl _, ⟨rfl, OLe_cells ⟨CLe.refl _, CLe.refl _, CLe.refl _, CLe.refl _, CLe.refl _, CLe.refl _, cW, trivial⟩, ⟨rfl, .refl _, ⟨rfl, .refl _, ⟨rfl, .refl _, ⟨rfl, .refl _, ⟨rfl, .refl _, ⟨rfl, .refl _, ⟨rfl, .refl _, ⟨rfl, oW, trivial⟩⟩⟩⟩⟩⟩⟩⟩⟩⟩⟩⟩⟩) ?_
    refine si tT ⟨[(8, (vP 25 0)), (9, (vI 0))], [(k619 p), (k620 p), (k621 p), (25, some (.cells 29 (k782 x u0 is)))]⟩ [u0.closed.length = u0.closed.length, u0.locked.length = u0.locked.length, u0.badLink.length = u0.badLink.length, u0.on_.length = u0.on_.length, u0.badSource.length = u0.badSource.length, u0.earthed.length = u0.earthed.length, (u0.badBus.set x.index.toNat is).length = (u0.badBus.set x.index.toNat is).length] {} [26, 27, 28, 29, 30, 31, 32] ⟨rfl, rfl, rfl, rfl, rfl, rfl, rfl, trivial⟩ (fz ⟨[(8, (vD (ipT [(k75 u0), (k76 u0), (k77 u0), (k78 u0), (k79 u0), (k80 u0), (slD none 1 boolC (u0.badBus.set x.index.toNat is))] 0))), (9, (vI 0))], (k633 p)⟩ [25]) ?_
    refine aR ?_
    obtain rfl := oi h
    exact rh [(.agg (k782 x u0 is)), (sI 0)] (.refl _) ⟨rfl, .refl _, ⟨rfl, .refl _, ⟨rfl, .refl _, trivial⟩⟩⟩
  ·skip
   refine bI h (fun hb2 h => ?_) (fun hb2 h => ?_)
   ·skip
    refine rg tT ⟨[(3, (vB is)), (5, (vP 23 0)), (6, (vP 24 0)), (8, (vP 25 0)), (11, (vO 30 false u0.badSource.length))], (k761 x p u0)⟩ [SetAt [some .i64] 1 1 0 (scK []) (scV 1 []) [(.int .i64 1)] (k770 u0) [32] 1 (scK [(.int .i64 1)]) (k771 u0), SetAt [some .i64] 1 1 1 (scK [(.int .i64 1)]) (k771 u0) [(.int .i64 2)] (k772 u0) [32, 30] 2 (scK k773) (k774 u0), SetAt [some .i64] 1 1 2 (scK k773) (k774 u0) [(.int .i64 3)] (k775 u0) [32, 30, 28] 3 (scK k776) (k777 u0), LookAt [some .i64] 1 1 3 (scK k776) (k777 u0) [(.int .i64 x.kind)] [(.d nS)] true (k772 u0)] { an := [(0, .map 0 (scK []) (scV 1 []) []), (3, .map 1 (scK [(.int .i64 1)]) (k771 u0) [32]), (6, .map 2 (scK k773) (k774 u0) [32, 30]), (9, .map 3 (scK k776) (k777 u0) [32, 30, 28]), (13, .look true (k772 u0))], fr := [(0, 37)] } [] ⟨(⟨(fun i hi => absurd hi (Nat.not_lt_zero i)), (by intro i hi j hj; match i, j, hi, hj with | 0, 0, _, _ => exact subL_iff.1 (show subL (CV.ment (.own 32 false u0.badBus.length)) [32] = true from by kernel_rfl)), 0, (fun i hi => absurd hi (Nat.not_lt_zero i)), .inr ⟨rfl, rfl⟩, rfl, rfl, (fun i hi => absurd hi (Nat.not_lt_zero i))⟩), (⟨(by intro i hi; match i, hi with | 0, _ => rfl), (by intro i hi j hj; match i, j, hi, hj with | 0, 0, _, _ => exact subL_iff.1 (show subL (CV.ment (.own 32 false u0.badBus.length)) [32, 30] = true from by kernel_rfl) | 1, 0, _, _ => exact subL_iff.1 (show subL (CV.ment (.own 30 false u0.badSource.length)) [32, 30] = true from by kernel_rfl)), 1, (by intro i hi; match i, hi with | 0, _ => rfl), .inr ⟨rfl, rfl⟩, rfl, rfl, (by intro i hi; match i, hi with | 0, _ => exact fun _ => ⟨rfl, rfl⟩)⟩), (⟨(by intro i hi; match i, hi with | 0, _ => rfl | 1, _ => rfl), (by intro i hi j hj; match i, j, hi, hj with | 0, 0, _, _ => exact subL_iff.1 (show subL (CV.ment (.own 32 false u0.badBus.length)) [32, 30, 28] = true from by kernel_rfl) | 1, 0, _, _ => exact subL_iff.1 (show subL (CV.ment (.own 30 false u0.badSource.length)) [32, 30, 28] = true from by kernel_rfl) | 2, 0, _, _ => exact subL_iff.1 (show subL (CV.ment (.own 28 false u0.badLink.length)) [32, 30, 28] = true from by kernel_rfl)), 2, (by intro i hi; match i, hi with | 0, _ => rfl | 1, _ => rfl), .inr ⟨rfl, rfl⟩, rfl, rfl, (by intro i hi; match i, hi with | 0, _ => exact fun _ => ⟨rfl, rfl⟩ | 1, _ => exact fun _ => ⟨rfl, rfl⟩)⟩), (⟨(by intro i hi; match i, hi with | 0, _ => rfl | 1, _ => rfl | 2, _ => rfl), .inl ⟨rfl, 1, by decide, congrArg some hb2, (by intro i hi; match i, hi with | 0, _ => exact congrArg some hb), rfl⟩⟩), trivial⟩ ?_
    refine aQ (aQ (bE h fun u2 hr_3 h => ?_))
    have q0 := m_plant_within_ok x.index 0 (IntKind.wrap .i64 ((u0.badSource.length : Int) - 1)) hr_3
    refine rg tT ⟨[(3, (vB is)), (5, (vP 23 0)), (6, (vP 24 0)), (8, (vP 25 0)), (11, (vO 30 false u0.badSource.length)), (38, (vB (!u2)))], (k761 x p u0)⟩ [_] { an := [(5, cA q0 [])] } [] ⟨q0, trivial⟩ ?_
    refine bI h (fun hb3 h => ?_) (fun hb3 h => ?_)
    ·refine ct hb3 ?_
     refine sz tT (k778 p) {} [25] ?_
     refine aI (Imp.le (st' := (k779 p)) ⟨⟨⟨_, rfl, TLe.v (SLe.one (CLe.d (ipT_le ⟨DLe.nil', DLe.nil', DLe.nil', DLe.nil', DLe.nil', DLe.nil', DLe.nil', trivial⟩)))⟩, tR, trivial⟩, ⟨rfl, .refl _, ⟨rfl, .refl _, ⟨rfl, .refl _, trivial⟩⟩⟩⟩) ?_
     refine aR ?_
     obtain rfl := oi h
     exact rh k780 (.refl _) ⟨rfl, .refl _, ⟨rfl, .refl _, ⟨rfl, .refl _, trivial⟩⟩⟩
    ·refine cf hb3 ?_
     refine aP (aQ (aO h fun a1 h => ?_))
     refine ri tT ⟨k781, [(k619 p), (k620 p), (k621 p), (k762 u0), k757, (k763 u0), (k764 u0), (k765 u0), (k766 u0), (30, some (.arr 4 1 u0.badSource.length (elOf boolC (k783 x u0 is)))), (k768 u0), (k769 u0)]⟩ [_, _, ArrEq u0.badSource.length 1 (stEls (elOf boolC u0.badSource) x.index.toNat 0 [(.bool is)]) (elOf boolC (k783 x u0 is))] { an := [(5, .arr 0 (elOf boolC (k783 x u0 is)))] } [] ⟨a1, (tL a1), (arrEq_set' _ _ _ _ _ _ _ _ rfl (fun j hj => (match j, hj with | 0, _ => rfl))), trivial⟩ (Imp.le (st' := ⟨k781, [(k619 p), (k620 p), (k621 p), (23, some (.cells 29 [(.own 26 false u0.closed.length), (.own 27 false u0.locked.length), (.own 28 false u0.badLink.length), (.own 29 false u0.on_.length), (.own 30 false ((k783 x u0 is).length)), (.own 31 false u0.earthed.length), (.own 32 false u0.badBus.length)])), k757, (k763 u0), (k764 u0), (k765 u0), (k766 u0), (30, some (arD 4 1 boolC (k783 x u0 is))), (k768 u0), (k769 u0)]⟩) ⟨⟨tR, tR, trivial⟩, ⟨rfl, .refl _, ⟨rfl, .refl _, ⟨rfl, .refl _, ⟨rfl, OLe_cells ⟨CLe.refl _, CLe.refl _, CLe.refl _, CLe.refl _, cW, CLe.refl _, CLe.refl _, trivial⟩, ⟨rfl, .refl _, ⟨rfl, .refl _, ⟨rfl, .refl _, ⟨rfl, .refl _, ⟨rfl, .refl _, ⟨rfl, oW, ⟨rfl, .refl _, ⟨rfl, .refl _, trivial⟩⟩⟩⟩⟩⟩⟩⟩⟩⟩⟩⟩⟩) ?_
     refine si tT ⟨[(8, (vP 25 0)), (9, (vI 0))], [(k619 p), (k620 p), (k621 p), (25, some (.cells 29 (k784 x u0 is)))]⟩ [u0.closed.length = u0.closed.length, u0.locked.length = u0.locked.length, u0.badLink.length = u0.badLink.length, u0.on_.length = u0.on_.length, (k783 x u0 is).length = (k783 x u0 is).length, u0.earthed.length = u0.earthed.length, u0.badBus.length = u0.badBus.length] {} [26, 27, 28, 29, 30, 31, 32] ⟨rfl, rfl, rfl, rfl, rfl, rfl, rfl, trivial⟩ (fz ⟨[(8, (vD (ipT [(k75 u0), (k76 u0), (k77 u0), (k78 u0), (slD none 1 boolC (k783 x u0 is)), (k80 u0), (k81 u0)] 0))), (9, (vI 0))], (k633 p)⟩ [25]) ?_
     refine aR ?_
     obtain rfl := oi h
     exact rh [(.agg (k784 x u0 is)), (sI 0)] (.refl _) ⟨rfl, .refl _, ⟨rfl, .refl _, ⟨rfl, .refl _, trivial⟩⟩⟩
   ·skip
    refine bI h (fun hb4 h => ?_) (fun hb4 h => ?_)
    ·skip
     refine rg tT ⟨[(3, (vB is)), (5, (vP 23 0)), (6, (vP 24 0)), (8, (vP 25 0)), (11, (vO 28 false u0.badLink.length))], (k761 x p u0)⟩ [SetAt [some .i64] 1 1 0 (scK []) (scV 1 []) [(.int .i64 1)] (k770 u0) [32] 1 (scK [(.int .i64 1)]) (k771 u0), SetAt [some .i64] 1 1 1 (scK [(.int .i64 1)]) (k771 u0) [(.int .i64 2)] (k772 u0) [32, 30] 2 (scK k773) (k774 u0), SetAt [some .i64] 1 1 2 (scK k773) (k774 u0) [(.int .i64 3)] (k775 u0) [32, 30, 28] 3 (scK k776) (k777 u0), LookAt [some .i64] 1 1 3 (scK k776) (k777 u0) [(.int .i64 x.kind)] [(.d nS)] true (k775 u0)] { an := [(0, .map 0 (scK []) (scV 1 []) []), (3, .map 1 (scK [(.int .i64 1)]) (k771 u0) [32]), (6, .map 2 (scK k773) (k774 u0) [32, 30]), (9, .map 3 (scK k776) (k777 u0) [32, 30, 28]), (13, .look true (k775 u0))], fr := [(0, 39)] } [] ⟨(⟨(fun i hi => absurd hi (Nat.not_lt_zero i)), (by intro i hi j hj; match i, j, hi, hj with | 0, 0, _, _ => exact subL_iff.1 (show subL (CV.ment (.own 32 false u0.badBus.length)) [32] = true from by kernel_rfl)), 0, (fun i hi => absurd hi (Nat.not_lt_zero i)), .inr ⟨rfl, rfl⟩, rfl, rfl, (fun i hi => absurd hi (Nat.not_lt_zero i))⟩), (⟨(by intro i hi; match i, hi with | 0, _ => rfl), (by intro i hi j hj; match i, j, hi, hj with | 0, 0, _, _ => exact subL_iff.1 (show subL (CV.ment (.own 32 false u0.badBus.length)) [32, 30] = true from by kernel_rfl) | 1, 0, _, _ => exact subL_iff.1 (show subL (CV.ment (.own 30 false u0.badSource.length)) [32, 30] = true from by kernel_rfl)), 1, (by intro i hi; match i, hi with | 0, _ => rfl), .inr ⟨rfl, rfl⟩, rfl, rfl, (by intro i hi; match i, hi with | 0, _ => exact fun _ => ⟨rfl, rfl⟩)⟩), (⟨(by intro i hi; match i, hi with | 0, _ => rfl | 1, _ => rfl), (by intro i hi j hj; match i, j, hi, hj with | 0, 0, _, _ => exact subL_iff.1 (show subL (CV.ment (.own 32 false u0.badBus.length)) [32, 30, 28] = true from by kernel_rfl) | 1, 0, _, _ => exact subL_iff.1 (show subL (CV.ment (.own 30 false u0.badSource.length)) [32, 30, 28] = true from by kernel_rfl) | 2, 0, _, _ => exact subL_iff.1 (show subL (CV.ment (.own 28 false u0.badLink.length)) [32, 30, 28] = true from by kernel_rfl)), 2, (by intro i hi; match i, hi with | 0, _ => rfl | 1, _ => rfl), .inr ⟨rfl, rfl⟩, rfl, rfl, (by intro i hi; match i, hi with | 0, _ => exact fun _ => ⟨rfl, rfl⟩ | 1, _ => exact fun _ => ⟨rfl, rfl⟩)⟩), (⟨(by intro i hi; match i, hi with | 0, _ => rfl | 1, _ => rfl | 2, _ => rfl), .inl ⟨rfl, 2, by decide, congrArg some hb4, (by intro i hi; match i, hi with | 0, _ => exact congrArg some hb | 1, _ => exact congrArg some hb2), rfl⟩⟩), trivial⟩ ?_
     refine aQ (aQ (bE h fun u3 hr_4 h => ?_))
     have q0 := m_plant_within_ok x.index 0 (IntKind.wrap .i64 ((u0.badLink.length : Int) - 1)) hr_4
     refine rg tT ⟨[(3, (vB is)), (5, (vP 23 0)), (6, (vP 24 0)), (8, (vP 25 0)), (11, (vO 28 false u0.badLink.length)), (38, (vB (!u3)))], (k761 x p u0)⟩ [_] { an := [(5, cA q0 [])] } [] ⟨q0, trivial⟩ ?_
     refine bI h (fun hb5 h => ?_) (fun hb5 h => ?_)
     ·refine ct hb5 ?_
      refine sz tT (k778 p) {} [25] ?_
      refine aI (Imp.le (st' := (k779 p)) ⟨⟨⟨_, rfl, TLe.v (SLe.one (CLe.d (ipT_le ⟨DLe.nil', DLe.nil', DLe.nil', DLe.nil', DLe.nil', DLe.nil', DLe.nil', trivial⟩)))⟩, tR, trivial⟩, ⟨rfl, .refl _, ⟨rfl, .refl _, ⟨rfl, .refl _, trivial⟩⟩⟩⟩) ?_
      refine aR ?_
      obtain rfl := oi h
      exact rh k780 (.refl _) ⟨rfl, .refl _, ⟨rfl, .refl _, ⟨rfl, .refl _, trivial⟩⟩⟩
     ·refine cf hb5 ?_
      refine aP (aQ (aO h fun a1 h => ?_))
      refine ri tT ⟨k781, [(k619 p), (k620 p), (k621 p), (k762 u0), k757, (k763 u0), (k764 u0), (28, some (.arr 4 1 u0.badLink.length (elOf boolC (k785 x u0 is)))), (k766 u0), (k767 u0), (k768 u0), (k769 u0)]⟩ [_, _, ArrEq u0.badLink.length 1 (stEls (elOf boolC u0.badLink) x.index.toNat 0 [(.bool is)]) (elOf boolC (k785 x u0 is))] { an := [(5, .arr 0 (elOf boolC (k785 x u0 is)))] } [] ⟨a1, (tL a1), (arrEq_set' _ _ _ _ _ _ _ _ rfl (fun j hj => (match j, hj with | 0, _ => rfl))), trivial⟩ (Imp.le (st' := ⟨k781, [(k619 p), (k620 p), (k621 p), (23, some (.cells 29 [(.own 26 false u0.closed.length), (.own 27 false u0.locked.length), (.own 28 false ((k785 x u0 is).length)), (.own 29 false u0.on_.length), (.own 30 false u0.badSource.length), (.own 31 false u0.earthed.length), (.own 32 false u0.badBus.length)])), k757, (k763 u0), (k764 u0), (28, some (arD 4 1 boolC (k785 x u0 is))), (k766 u0), (k767 u0), (k768 u0), (k769 u0)]⟩) ⟨⟨tR, tR, trivial⟩, ⟨rfl, .refl _, ⟨rfl, .refl _, ⟨rfl, .refl _, ⟨rfl, OLe_cells ⟨CLe.refl _, CLe.refl _, cW, CLe.refl _, CLe.refl _, CLe.refl _, CLe.refl _, trivial⟩, ⟨rfl, .refl _, ⟨rfl, .refl _, ⟨rfl, .refl _, ⟨rfl, oW, ⟨rfl, .refl _, ⟨rfl, .refl _, ⟨rfl, .refl _, ⟨rfl, .refl _, trivial⟩⟩⟩⟩⟩⟩⟩⟩⟩⟩⟩⟩⟩) ?_
      refine si tT ⟨[(8, (vP 25 0)), (9, (vI 0))], [(k619 p), (k620 p), (k621 p), (25, some (.cells 29 (k786 x u0 is)))]⟩ [u0.closed.length = u0.closed.length, u0.locked.length = u0.locked.length, (k785 x u0 is).length = (k785 x u0 is).length, u0.on_.length = u0.on_.length, u0.badSource.length = u0.badSource.length, u0.earthed.length = u0.earthed.length, u0.badBus.length = u0.badBus.length] {} [26, 27, 28, 29, 30, 31, 32] ⟨rfl, rfl, rfl, rfl, rfl, rfl, rfl, trivial⟩ (fz ⟨[(8, (vD (ipT [(k75 u0), (k76 u0), (slD none 1 boolC (k785 x u0 is)), (k78 u0), (k79 u0), (k80 u0), (k81 u0)] 0))), (9, (vI 0))], (k633 p)⟩ [25]) ?_
      refine aR ?_
      obtain rfl := oi h
      exact rh [(.agg (k786 x u0 is)), (sI 0)] (.refl _) ⟨rfl, .refl _, ⟨rfl, .refl _, ⟨rfl, .refl _, trivial⟩⟩⟩
    ·skip
     refine rg tT ⟨[(3, (vB is)), (5, (vP 23 0)), (6, (vP 24 0)), (8, (vP 25 0)), (11, (vD nS))], (k761 x p u0)⟩ [SetAt [some .i64] 1 1 0 (scK []) (scV 1 []) [(.int .i64 1)] (k770 u0) [32] 1 (scK [(.int .i64 1)]) (k771 u0), SetAt [some .i64] 1 1 1 (scK [(.int .i64 1)]) (k771 u0) [(.int .i64 2)] (k772 u0) [32, 30] 2 (scK k773) (k774 u0), SetAt [some .i64] 1 1 2 (scK k773) (k774 u0) [(.int .i64 3)] (k775 u0) [32, 30, 28] 3 (scK k776) (k777 u0), LookAt [some .i64] 1 1 3 (scK k776) (k777 u0) [(.int .i64 x.kind)] [(.d nS)] false [(.d nS)]] { an := [(0, .map 0 (scK []) (scV 1 []) []), (3, .map 1 (scK [(.int .i64 1)]) (k771 u0) [32]), (6, .map 2 (scK k773) (k774 u0) [32, 30]), (9, .map 3 (scK k776) (k777 u0) [32, 30, 28]), (13, .look false [(.d nS)])], fr := [(0, 40)] } [] ⟨(⟨(fun i hi => absurd hi (Nat.not_lt_zero i)), (by intro i hi j hj; match i, j, hi, hj with | 0, 0, _, _ => exact subL_iff.1 (show subL (CV.ment (.own 32 false u0.badBus.length)) [32] = true from by kernel_rfl)), 0, (fun i hi => absurd hi (Nat.not_lt_zero i)), .inr ⟨rfl, rfl⟩, rfl, rfl, (fun i hi => absurd hi (Nat.not_lt_zero i))⟩), (⟨(by intro i hi; match i, hi with | 0, _ => rfl), (by intro i hi j hj; match i, j, hi, hj with | 0, 0, _, _ => exact subL_iff.1 (show subL (CV.ment (.own 32 false u0.badBus.length)) [32, 30] = true from by kernel_rfl) | 1, 0, _, _ => exact subL_iff.1 (show subL (CV.ment (.own 30 false u0.badSource.length)) [32, 30] = true from by kernel_rfl)), 1, (by intro i hi; match i, hi with | 0, _ => rfl), .inr ⟨rfl, rfl⟩, rfl, rfl, (by intro i hi; match i, hi with | 0, _ => exact fun _ => ⟨rfl, rfl⟩)⟩), (⟨(by intro i hi; match i, hi with | 0, _ => rfl | 1, _ => rfl), (by intro i hi j hj; match i, j, hi, hj with | 0, 0, _, _ => exact subL_iff.1 (show subL (CV.ment (.own 32 false u0.badBus.length)) [32, 30, 28] = true from by kernel_rfl) | 1, 0, _, _ => exact subL_iff.1 (show subL (CV.ment (.own 30 false u0.badSource.length)) [32, 30, 28] = true from by kernel_rfl) | 2, 0, _, _ => exact subL_iff.1 (show subL (CV.ment (.own 28 false u0.badLink.length)) [32, 30, 28] = true from by kernel_rfl)), 2, (by intro i hi; match i, hi with | 0, _ => rfl | 1, _ => rfl), .inr ⟨rfl, rfl⟩, rfl, rfl, (by intro i hi; match i, hi with | 0, _ => exact fun _ => ⟨rfl, rfl⟩ | 1, _ => exact fun _ => ⟨rfl, rfl⟩)⟩), (⟨(by intro i hi; match i, hi with | 0, _ => rfl | 1, _ => rfl | 2, _ => rfl), .inr ⟨rfl, (by intro i hi; match i, hi with | 0, _ => exact congrArg some hb | 1, _ => exact congrArg some hb2 | 2, _ => exact congrArg some hb4), rfl⟩⟩), trivial⟩ ?_
     refine aQ (aQ (bE h fun u4 hr_5 h => ?_))
     have q0 := m_plant_within_ok x.index 0 (-1) hr_5
     refine rg tT ⟨[(3, (vB is)), (5, (vP 23 0)), (6, (vP 24 0)), (8, (vP 25 0)), (11, (vD nS)), (38, (vB (!u4)))], (k761 x p u0)⟩ [_] { an := [(5, cA q0 [])] } [] ⟨q0, trivial⟩ ?_
     refine bI h (fun hb6 h => ?_) (fun hb6 h => ?_)
     ·refine ct hb6 ?_
      refine sz tT (k778 p) {} [25] ?_
      refine aI (Imp.le (st' := (k779 p)) ⟨⟨⟨_, rfl, TLe.v (SLe.one (CLe.d (ipT_le ⟨DLe.nil', DLe.nil', DLe.nil', DLe.nil', DLe.nil', DLe.nil', DLe.nil', trivial⟩)))⟩, tR, trivial⟩, ⟨rfl, .refl _, ⟨rfl, .refl _, ⟨rfl, .refl _, trivial⟩⟩⟩⟩) ?_
      refine aR ?_
      obtain rfl := oi h
      exact rh k780 (.refl _) ⟨rfl, .refl _, ⟨rfl, .refl _, ⟨rfl, .refl _, trivial⟩⟩⟩
     ·refine cf hb6 ?_
      refine aP (aQ ?_)
      cases h
def m_plant_Break_v1_R (p : Plant) : (State × Int) → Exit → St → Prop :=
  fun r => RetQ TT [.cell 6 29, .tmp 7] (.tup [(.agg [(.d (slD none 1 boolC r.1.closed)), (.d (slD none 1 boolC r.1.locked)), (.d (slD none 1 boolC r.1.badLink)), (.d (slD none 1 boolC r.1.on_)), (.d (slD none 1 boolC r.1.badSource)), (.d (slD none 1 boolC r.1.earthed)), (.d (slD none 1 boolC r.1.badBus))]), (sI r.2)]) (k633 p)
section
variable (r_ : (State × Int))
abbrev k787 : TV := (vD (ipT [(slD none 1 boolC r_.1.closed), (slD none 1 boolC r_.1.locked), (slD none 1 boolC r_.1.badLink), (slD none 1 boolC r_.1.on_), (slD none 1 boolC r_.1.badSource), (slD none 1 boolC r_.1.earthed), (slD none 1 boolC r_.1.badBus)] 0))
end
theorem m_plant_Break_v1_ok (p : Plant) (s_ : State) (x : Part) {r : (State × Int)} (h : m_plant_Break p s_ x = some r) : Fn Try.prog 56 [(.agg (k627 p)), (.agg (k98 s_)), (.agg [(cI x.kind), (cI x.index)])] (k633 p) (.tup [(.agg [(.d (slD none 1 boolC r.1.closed)), (.d (slD none 1 boolC r.1.locked)), (.d (slD none 1 boolC r.1.badLink)), (.d (slD none 1 boolC r.1.on_)), (.d (slD none 1 boolC r.1.badSource)), (.d (slD none 1 boolC r.1.earthed)), (.d (slD none 1 boolC r.1.badBus))]), (sI r.2)]) (k633 p) := by
 refine fN tT Try.func56 rfl rfl fun B => ?_
 show AWp _ _ _ _ _ _ ((m_plant_Break_v1_R p) r) _
 unfold m_plant_Break at h
 refine sz tT ⟨[(3, (vP 7 0)), (k120 s_), (5, (vD (ipT [(.int .i64 x.kind), (.int .i64 x.index)] 0))), (6, (vP 10 0))], [(k619 p), (k620 p), (k621 p), (7, some (k626 p)), k112]⟩ { fr := [(0, 7), (1, 8), (2, 9), (3, 10)] } [8, 9] ?_
 refine aQ (bE h fun r_ hr_ h => ?_)
 have q0 := m_plant_failed_v1_ok p s_ x true hr_
 refine rg tT ⟨[(6, (k787 r_)), (7, (vI r_.2))], (k633 p)⟩ [_] { an := [(3, cR q0 [0, 1, 2])] } [10] ⟨q0, trivial⟩ ?_
 refine aR ?_
 obtain rfl := oi h
 exact rh [(.agg [(.d (slD none 1 boolC r_.1.closed)), (.d (slD none 1 boolC r_.1.locked)), (.d (slD none 1 boolC r_.1.badLink)), (.d (slD none 1 boolC r_.1.on_)), (.d (slD none 1 boolC r_.1.badSource)), (.d (slD none 1 boolC r_.1.earthed)), (.d (slD none 1 boolC r_.1.badBus))]), (sI r_.2)] (.refl _) ⟨rfl, .refl _, ⟨rfl, .refl _, ⟨rfl, .refl _, trivial⟩⟩⟩
def m_plant_conducting_v1_R (p : Plant) : ((List Bool) × (List Bool) × (List Bool) × (List Bool) × (List Bool) × (List Bool) × (List Bool) × Plant) → Exit → St → Prop :=
  fun r => RetQ TT [.tmp 4] (.v (.one (.fn 146 0 2 (capC [(.ptr 3 0), (.d (ipT [(slD none 1 boolC r.1), (slD none 1 boolC r.2.1), (slD none 1 boolC r.2.2.1), (slD none 1 boolC r.2.2.2.1), (slD none 1 boolC r.2.2.2.2.1), (slD none 1 boolC r.2.2.2.2.2.1), (slD none 1 boolC r.2.2.2.2.2.2.1)] 0))])))) [(k619 p), (k620 p), (k621 p), (3, some (.cells 26 [(cI r.2.2.2.2.2.2.2.buses), (.own 0 true p.sources.length), (.own 1 true p.links.length), (.own 2 true p.racks.length)]))]
section
variable (p : Plant) (s_ : State)
abbrev k788 : List (Nat × Option Ob) := [(k619 p), (k620 p), (k621 p), (5, some (k626 p))]
abbrev k789 := (capC [(.ptr 3 0), (.d (k74 s_))])
end
theorem m_plant_conducting_v1_ok (p : Plant) (s_ : State) {r : ((List Bool) × (List Bool) × (List Bool) × (List Bool) × (List Bool) × (List Bool) × (List Bool) × Plant)} (h : m_plant_conducting_v1 p s_ = some r) : Fn Try.prog 115 (k651 p s_) (k633 p) (.v (.one (.fn 146 0 2 (capC [(.ptr 3 0), (.d (ipT [(slD none 1 boolC r.1), (slD none 1 boolC r.2.1), (slD none 1 boolC r.2.2.1), (slD none 1 boolC r.2.2.2.1), (slD none 1 boolC r.2.2.2.2.1), (slD none 1 boolC r.2.2.2.2.2.1), (slD none 1 boolC r.2.2.2.2.2.2.1)] 0))])))) [(k619 p), (k620 p), (k621 p), (3, some (.cells 26 [(cI r.2.2.2.2.2.2.2.buses), (.own 0 true p.sources.length), (.own 1 true p.links.length), (.own 2 true p.racks.length)]))] := by
 refine fN tT Try.func115 rfl rfl fun B => ?_
 show AWp _ _ _ _ _ _ ((m_plant_conducting_v1_R p) r) _
 unfold m_plant_conducting_v1 at h
 refine sz tT ⟨[(2, (vP 5 0)), (k72 s_)], (k788 p)⟩ { fr := [(0, 5), (1, 6)] } [6] ?_
 refine sz tT ⟨[(4, (.v (.one (.fn 146 0 2 (capC [(.ptr 5 0), (.d (k74 s_))])))))], (k788 p)⟩ {} [] ?_
 refine aI (Imp.fin (st' := ⟨[(4, (.v (.one (.fn 146 0 2 (k789 s_)))))], [(k619 p), (k620 p), (k621 p), (3, some (k626 p))]⟩) (cs := []) ⟨[], [(0, 0), (1, 1), (2, 2), (5, 3)]⟩ [4] (by kernel_rfl) trivial) ?_
 refine aR ?_
 obtain rfl := oi h
 exact rh [(.one (.fn 146 0 2 (k789 s_)))] (.refl _) ⟨rfl, .refl _, ⟨rfl, .refl _, ⟨rfl, .refl _, ⟨rfl, .refl _, trivial⟩⟩⟩⟩
section
variable (u0 : Plant)
abbrev k790 : Nat × Option Ob := (0, some (.loop R_plant_islands_r0 0 [(5, (vP 2 0))]))
abbrev k791 : Nat × Option Ob := (1, some (.cells 26 [(cI u0.buses), (.own 3 true u0.sources.length), (.own 4 true u0.links.length), (.own 5 true u0.racks.length)]))
abbrev k792 : Nat × Option Ob := (2, some (.cells 215 [(.mp 6)]))
abbrev k793 : Nat × Option Ob := (3, some (arD 126 5 Source.cell u0.sources))
abbrev k794 : Nat × Option Ob := (4, some (arD 53 6 Link.cell u0.links))
abbrev k795 : Nat × Option Ob := (5, some (arD 166 4 Rack.cell u0.racks))
end
def m_plant_conducting_1_v1_R (u0 : Plant) : Groups_int_ → Exit → St → Prop :=
  fun r => RetQ TT [] (.tup []) [k790, (k791 u0), k792, (k793 u0), (k794 u0), (k795 u0), (6, some (mpD 3 3 false false 1 1 (intC .i64) (intC .i64) r.head))]
section
variable (u0 : Plant) (u7 : (List (Int × Int)))
abbrev k796 : Nat × TV := (7, (vO 4 true u0.links.length))
abbrev k797 : Nat × TV := (8, (vI (u0.links.length : Int)))
abbrev k798 : List (Nat × Option Ob) := [k790, (k791 u0), k792, (k793 u0), (k794 u0), (k795 u0), (6, some (k283 u7))]
end
def m_plant_conducting_1_v1_S0 (x2 : (List Bool)) (u1 : (List Bool)) (u2 : (List Bool)) (u3 : (List Bool)) (u4 : (List Bool)) (u5 : (List Bool)) (u6 : (List Bool)) (u0 : Plant) : ((List (Int × Int)) × Int) → St :=
  fun zz => match zz with | (u7, t9) => ⟨[k316, (k115 x2 u1 u2 u3 u4 u5 u6), (k796 u0), (k797 u0), (9, (vI t9))], (k798 u0 u7)⟩
def m_plant_conducting_1_v1_B0 (u0 : Plant) : (List (Int × Int)) → St :=
  fun o501 => ⟨[], [k790, (k791 u0), k792, (k793 u0), (k794 u0), (k795 u0), (6, some (mpD 3 3 false false 1 1 (intC .i64) (intC .i64) o501))]⟩
def m_plant_conducting_1_v1_Q0 (x2 : (List Bool)) (u1 : (List Bool)) (u2 : (List Bool)) (u3 : (List Bool)) (u4 : (List Bool)) (u5 : (List Bool)) (u6 : (List Bool)) (u0 : Plant) : (Flow ((List (Int × Int)) × Int) (Ex (List (Int × Int)) Groups_int_)) → Exit → St → Prop :=
  LQ 0 [] (m_plant_conducting_1_v1_S0 x2 u1 u2 u3 u4 u5 u6 u0) (m_plant_conducting_1_v1_B0 u0) (m_plant_conducting_1_v1_R u0)
section
variable (u0 : Plant) (o_ : Groups_int_) (x2 : (List Bool)) (t9 : Int) (u1 : (List Bool)) (u2 : (List Bool)) (r_ : Groups_int_) (u3 : (List Bool)) (u4 : (List Bool)) (u5 : (List Bool)) (u6 : (List Bool))
abbrev k799 : List (Nat × Option Ob) := [k790, (k791 u0), k792, (k793 u0), (k794 u0), (k795 u0), (6, some (k489 o_))]
abbrev k801 := (bif (k502 x2 t9 u1) then (!(at' u2 (((at' u0.links t9.toNat).a).toNat))) else false)
abbrev k800 := (bif (k801 u0 x2 t9 u1 u2) then (!(at' u2 (((at' u0.links t9.toNat).b).toNat))) else false)
abbrev k802 := (ybf [(5, (at' x2 t9.toNat)), (13, (k502 x2 t9 u1)), (22, (k801 u0 x2 t9 u1 u2)), (31, true)])
abbrev k803 : List (Nat × Option Ob) := [k790, k792, (6, some (k489 r_))]
abbrev k804 : List (Nat × TV) := [k316, (k115 x2 u3 u1 u4 u5 u6 u2), (k796 u0), (k797 u0), (9, (k30 t9))]
abbrev k805 := (ybf [(5, (at' x2 t9.toNat)), (13, (k502 x2 t9 u1)), (22, (k801 u0 x2 t9 u1 u2)), (31, false)])
end
theorem m_plant_conducting_1_v1_ok (x2 : (List Bool)) (u3 : (List Bool)) (u1 : (List Bool)) (u4 : (List Bool)) (u5 : (List Bool)) (u6 : (List Bool)) (u2 : (List Bool)) (u0 : Plant) (o_ : Groups_int_) {r : Groups_int_} (h : m_plant_conducting_1_v1 x2 u3 u1 u4 u5 u6 u2 u0 o_ = some r) : Fn Try.prog 146 [(.one (.yl 0)), (.one (.ptr 1 0)), (sD (k116 x2 u3 u1 u4 u5 u6 u2))] (k799 u0 o_) (.tup []) [k790, (k791 u0), k792, (k793 u0), (k794 u0), (k795 u0), (6, some (mpD 3 3 false false 1 1 (intC .i64) (intC .i64) r.head))] := by
 refine fN tT Try.func146 rfl rfl fun B => ?_
 show AWp _ _ _ _ _ _ ((m_plant_conducting_1_v1_R u0) r) _
 unfold m_plant_conducting_1_v1 at h
 refine sz tT ⟨[k316, (k115 x2 u3 u1 u4 u5 u6 u2), (k796 u0), (k797 u0), (9, (vI 0))], (k799 u0 o_)⟩ {} [] ?_
 refine bE h fun y hy h => ?_
 refine aL [] (m_plant_conducting_1_v1_S0 x2 u3 u1 u4 u5 u6 u2 u0) (m_plant_conducting_1_v1_B0 u0) (m_plant_conducting_1_v1_R u0) hy (fun s f h => ?_) ?_
 ·clear hy
  show AWp _ _ _ _ _ _ ((m_plant_conducting_1_v1_Q0 x2 u3 u1 u4 u5 u6 u2 u0) f) _
  unfold m_plant_conducting_1_v1_L0 at h
  obtain ⟨u7, t9⟩ := s
  refine sz tT ⟨[k316, (k115 x2 u3 u1 u4 u5 u6 u2), (k796 u0), (k797 u0), (9, (vI t9)), (10, (vB (decide (t9 < (u0.links.length : Int)))))], (k798 u0 u7)⟩ {} [] ?_
  refine aQ ?_
  refine bI h (fun hb2 h => ?_) (fun hb2 h => ?_)
  ·refine ct hb2 ?_
   refine aP (aQ (aB (aQ (aO h fun a1 h => ?_))))
   refine rg tT ⟨[k316, (k115 x2 u3 u1 u4 u5 u6 u2), (4, (vI t9)), (5, (k106 u0 t9)), (k796 u0), (k797 u0), (9, (vI t9))], (k798 u0 u7)⟩ [_, _] { fr := [(3, 14)] } [14] ⟨a1, (tL a1), trivial⟩ ?_
   refine aQ ?_
   refine bI h (fun hb h => ?_) (fun hb h => ?_)
   ·skip
    refine bE h fun r_ hr_ h => ?_
    refine aO h fun ⟨a1, a2, a3, a4⟩ h => ?_
    refine ri tT ⟨[k316, (k115 x2 u3 u1 u4 u5 u6 u2), (k796 u0), (k797 u0), (9, (vI t9)), (50, (vB (bif (k800 u0 x2 t9 u1 u2) then (!true) else false)))], (k799 u0 r_)⟩ (_ :: (eqs (at' x2 t9.toNat) 4 ((gP (k802 u0 x2 t9 u1 u2) [(5, true)] → All [(0 : Int) ≤ t9 ∧ t9 < (u1.length : Int)]) :: (eqs (at' x2 t9.toNat) 3 (eqs (k502 x2 t9 u1) 5 ((gP (k802 u0 x2 t9 u1 u2) [(13, true)] → All [(0 : Int) ≤ (at' u0.links t9.toNat).a ∧ (at' u0.links t9.toNat).a < (u2.length : Int)]) :: (eqs (k502 x2 t9 u1) 3 (eqs (k801 u0 x2 t9 u1 u2) 5 ((gP (k802 u0 x2 t9 u1 u2) [(22, true)] → All [(0 : Int) ≤ (at' u0.links t9.toNat).b ∧ (at' u0.links t9.toNat).b < (u2.length : Int)]) :: (eqs (k801 u0 x2 t9 u1 u2) 3 [(k800 u0 x2 t9 u1 u2) = true, (k800 u0 x2 t9 u1 u2) = true, (k800 u0 x2 t9 u1 u2) = true, gP (k802 u0 x2 t9 u1 u2) [(31, true)] → All [Yl Try.prog 0 [(.agg [(cI ((at' u0.links t9.toNat).a)), (cI ((at' u0.links t9.toNat).b)), (cI ((at' u0.links t9.toNat).kind)), (cI ((at' u0.links t9.toNat).most)), (cI ((at' u0.links t9.toNat).ohm)), (.d (slD none 2 Trip.cell ((at' u0.links t9.toNat).trip)))])] [k790, k792, (6, some (k283 u7))] (vB true) (k803 r_)], gP (k802 u0 x2 t9 u1 u2) [(31, true)], (k800 u0 x2 t9 u1 u2) = true, (k800 u0 x2 t9 u1 u2) = true])))))))))) { yb := [(5, (at' x2 t9.toNat)), (13, (k502 x2 t9 u1)), (22, (k801 u0 x2 t9 u1 u2)), (31, true)], an := [(34, .call [0, 2, 6] (vB true) (k803 r_))] } [] ⟨a1, (ae ⟨(fun hg => ⟨(a2 (gB_of hg)), trivial⟩), (ae (ae ⟨(fun hg => ⟨(a3 (gB_of hg)), trivial⟩), (ae (ae ⟨(fun hg => ⟨(a4 (gB_of hg)), trivial⟩), (ae ⟨(hb), (hb), (hb), (fun hg => ⟨(Yl.renK [(1, 2), (1, 6)] (m_plant_islands_r0_Y_ok ((at' u0.links t9.toNat).a) ((at' u0.links t9.toNat).b) ((at' u0.links t9.toNat).kind) ((at' u0.links t9.toNat).most) ((at' u0.links t9.toNat).ohm) ((at' u0.links t9.toNat).trip) (⟨u7⟩ : Groups_int_) hr_) (by kernel_rfl) (by kernel_rfl) (by kernel_rfl) (by kernel_rfl) (by kernel_rfl)), trivial⟩), (⟨rfl, trivial⟩), (hb), (hb), trivial⟩)⟩))⟩))⟩)⟩ (Imp.le (st' := ⟨[k316, (k115 x2 u3 u1 u4 u5 u6 u2), (k796 u0), (k797 u0), (9, (vI t9)), (50, (vB (!true)))], (k799 u0 r_)⟩) ⟨⟨tR, tR, tR, tR, tR, ⟨_, rfl, TLe.v (SLe.one (CLe.of (congrArg (fun b => CV.d (.bool b)) (bifT hb))))⟩, trivial⟩, ⟨rfl, .refl _, ⟨rfl, .refl _, ⟨rfl, .refl _, ⟨rfl, .refl _, ⟨rfl, .refl _, ⟨rfl, .refl _, ⟨rfl, .refl _, trivial⟩⟩⟩⟩⟩⟩⟩⟩) ?_
    refine bI h (fun hb1 h => ?_) (fun hb1 h => ?_)
    ·refine ct hb1 ?_
     refine aI (fz ⟨[], (k799 u0 r_)⟩ []) ?_
     refine aR ?_
     obtain rfl := oi h
     exact lR ret_nn (ret_ne 0) av_ret (RetQ.mk (.inr rfl) (p := []) (l := []) (by kernel_rfl) trivial (TLe.refl _) ⟨rfl, .refl _, ⟨rfl, .refl _, ⟨rfl, .refl _, ⟨rfl, .refl _, ⟨rfl, .refl _, ⟨rfl, .refl _, ⟨rfl, .refl _, trivial⟩⟩⟩⟩⟩⟩⟩)
    ·refine cf hb1 ?_
     refine aP (rz tT ⟨(k804 u0 x2 t9 u1 u2 u3 u4 u5 u6), (k799 u0 r_)⟩ {} [] ?_)
     obtain rfl := oi h
     exact lN (by kernel_rfl)
   ·skip
    refine aO h fun ⟨a1, a2, a3, a4⟩ h => ?_
    refine ri tT ⟨[k316, (k115 x2 u3 u1 u4 u5 u6 u2), (k796 u0), (k797 u0), (9, (vI t9)), (50, (vB (bif (k800 u0 x2 t9 u1 u2) then false else false)))], (k798 u0 u7)⟩ (_ :: (eqs (at' x2 t9.toNat) 4 ((gP (k805 u0 x2 t9 u1 u2) [(5, true)] → All [(0 : Int) ≤ t9 ∧ t9 < (u1.length : Int)]) :: (eqs (at' x2 t9.toNat) 3 (eqs (k502 x2 t9 u1) 5 ((gP (k805 u0 x2 t9 u1 u2) [(13, true)] → All [(0 : Int) ≤ (at' u0.links t9.toNat).a ∧ (at' u0.links t9.toNat).a < (u2.length : Int)]) :: (eqs (k502 x2 t9 u1) 3 (eqs (k801 u0 x2 t9 u1 u2) 5 ((gP (k805 u0 x2 t9 u1 u2) [(22, true)] → All [(0 : Int) ≤ (at' u0.links t9.toNat).b ∧ (at' u0.links t9.toNat).b < (u2.length : Int)]) :: (eqs (k801 u0 x2 t9 u1 u2) 3 [(k800 u0 x2 t9 u1 u2) = false, ¬ gP (k805 u0 x2 t9 u1 u2) [(31, true)], (k800 u0 x2 t9 u1 u2) = false, ¬ gP (k805 u0 x2 t9 u1 u2) [(31, true)], (k800 u0 x2 t9 u1 u2) = false, ¬ gP (k805 u0 x2 t9 u1 u2) [(31, true)], (k800 u0 x2 t9 u1 u2) = false, ¬ gP (k805 u0 x2 t9 u1 u2) [(31, true)], (k800 u0 x2 t9 u1 u2) = false])))))))))) { yb := [(5, (at' x2 t9.toNat)), (13, (k502 x2 t9 u1)), (22, (k801 u0 x2 t9 u1 u2)), (31, false)], an := [(32, .skip), (33, .skip), (34, .skip), (35, .skip)] } [] ⟨a1, (ae ⟨(fun hg => ⟨(a2 (gB_of hg)), trivial⟩), (ae (ae ⟨(fun hg => ⟨(a3 (gB_of hg)), trivial⟩), (ae (ae ⟨(fun hg => ⟨(a4 (gB_of hg)), trivial⟩), (ae ⟨(hb), ((fun h => Bool.noConfusion (show false = true from h.1))), (hb), ((fun h => Bool.noConfusion (show false = true from h.1))), (hb), ((fun h => Bool.noConfusion (show false = true from h.1))), (hb), ((fun h => Bool.noConfusion (show false = true from h.1))), (hb), trivial⟩)⟩))⟩))⟩)⟩ (Imp.le (st' := ⟨[k316, (k115 x2 u3 u1 u4 u5 u6 u2), (k796 u0), (k797 u0), (9, (vI t9)), (50, (vB false))], (k798 u0 u7)⟩) ⟨⟨tR, tR, tR, tR, tR, ⟨_, rfl, TLe.v (SLe.one (CLe.of (congrArg (fun b => CV.d (.bool b)) (bifF hb))))⟩, trivial⟩, ⟨rfl, .refl _, ⟨rfl, .refl _, ⟨rfl, .refl _, ⟨rfl, .refl _, ⟨rfl, .refl _, ⟨rfl, .refl _, ⟨rfl, .refl _, trivial⟩⟩⟩⟩⟩⟩⟩⟩) ?_
    refine cn (aP (rz tT ⟨(k804 u0 x2 t9 u1 u2 u3 u4 u5 u6), (k798 u0 u7)⟩ {} [] ?_))
    obtain rfl := oi h
    exact lN (by kernel_rfl)
  ·refine cf hb2 ?_
   refine aI (fz ⟨[], (k798 u0 u7)⟩ []) ?_
   refine aX ?_
   obtain rfl := oi h
   exact lB (by kernel_rfl)
 ·clear hy
  cases y with
  | brk z =>
   obtain ⟨o501, rfl⟩ : ∃ q, q = z := ⟨_, rfl⟩
   unfold ExK
   refine ⟨_, .refl, ?_⟩
   obtain rfl := oi h
   exact RetQ.mk (.inl rfl) (p := []) (l := []) (by kernel_rfl) trivial (TLe.refl _) ⟨rfl, .refl _, ⟨rfl, .refl _, ⟨rfl, .refl _, ⟨rfl, .refl _, ⟨rfl, .refl _, ⟨rfl, .refl _, ⟨rfl, .refl _, trivial⟩⟩⟩⟩⟩⟩⟩
  | ret v =>
   obtain rfl := oi h
   unfold ExK
   intro e st hn ha hR
   cases e with
   | normal => exact absurd rfl hn
   | exit id => exact hR
   | goto l => exact hR
   | ret => exact hR
   | panic c => exact hR
   | outgrown => exact hR
def m_plant_islands_v2_R (p : Plant) : (List Island) → Exit → St → Prop :=
  fun r => RetQ TT [.tmp 4] (vD (slD none 2 Island.cell r)) (k633 p)
section
variable (u0 : (List Island)) (s_ : State) (p : Plant) (u3 : Int) (u1 : Groups_int_) (u2 : (List (Int × Int)))
abbrev k807 : Nat × TV := (7, (vO 65 false u0.length))
abbrev k808 : Nat × TV := (8, (.v (.one (.mp 66))))
abbrev k806 : List (Nat × TV) := [(2, (vP 59 0)), (k72 s_), (5, (vP 62 0)), (k807 u0), k808, (31, (vI p.buses)), (32, (vI u3))]
abbrev k810 : Nat × Option Ob := (59, some (k626 p))
abbrev k811 : Nat × Option Ob := (61, some (k489 u1))
abbrev k812 : Nat × Option Ob := (62, some (.cells 215 [(.mp 61)]))
abbrev k813 : Nat × Option Ob := (65, some (.rows 123 2 u0.length (evOf Island.ev u0) none))
abbrev k814 : Nat × Option Ob := (66, some (k283 u2))
abbrev k809 : List (Nat × Option Ob) := [(k619 p), (k620 p), (k621 p), (k810 p), (k811 u1), k812, (k813 u0), (k814 u2)]
end
def m_plant_islands_v2_S0 (p : Plant) (s_ : State) (u1 : Groups_int_) : ((List Island) × (List (Int × Int)) × Int) → St :=
  fun zz => match zz with | (u0, u2, u3) => ⟨(k806 u0 s_ p u3), (k809 u0 p u1 u2)⟩
section
variable (s_ : State) (u0 : (List Island)) (p : Plant) (u1 : Groups_int_) (u2 : (List (Int × Int)))
abbrev k815 : St := ⟨[(2, (vP 59 0)), (k72 s_), (5, (vP 62 0)), (k807 u0), k808], (k809 u0 p u1 u2)⟩
end
def m_plant_islands_v2_B0 (p : Plant) (s_ : State) (u1 : Groups_int_) : ((List Island) × (List (Int × Int))) → St :=
  fun zz => match zz with | (u0, u2) => (k815 s_ u0 p u1 u2)
def m_plant_islands_v2_Q0 (p : Plant) (s_ : State) (u0 : Groups_int_) : (Flow ((List Island) × (List (Int × Int)) × Int) (Ex ((List Island) × (List (Int × Int))) (List Island))) → Exit → St → Prop :=
  LQ 2 [] (m_plant_islands_v2_S0 p s_ u0) (m_plant_islands_v2_B0 p s_ u0) (m_plant_islands_v2_R p)
section
variable (p : Plant) (s_ : State) (u0 : (List Island)) (u3 : Int) (u1 : Groups_int_) (u2 : (List (Int × Int)))
abbrev k817 : Nat × TV := (76, (vO 0 true p.sources.length))
abbrev k816 : List (Nat × TV) := [(k72 s_), (5, (vP 62 0)), (k807 u0), k808, (k817 p), (k518 p), (78, (vI u3))]
abbrev k818 : List (Nat × Option Ob) := [(k619 p), (k620 p), (k621 p), (k811 u1), k812, (k813 u0), (k814 u2)]
end
def m_plant_islands_v2_S1 (p : Plant) (s_ : State) (u1 : Groups_int_) (u2 : (List (Int × Int))) : ((List Island) × Int) → St :=
  fun zz => match zz with | (u0, u3) => ⟨(k816 p s_ u0 u3), (k818 p u0 u1 u2)⟩
section
variable (p : Plant) (u0 : (List Island))
abbrev k820 : List (Nat × Option Ob) := [(k619 p), (k620 p), (k621 p), (k813 u0)]
abbrev k819 : St := ⟨[(k807 u0)], (k820 p u0)⟩
end
def m_plant_islands_v2_B1 (p : Plant) : (List Island) → St :=
  fun u0 => (k819 p u0)
def m_plant_islands_v2_Q1 (p : Plant) (s_ : State) (u0 : Groups_int_) (u1 : (List (Int × Int))) : (Flow ((List Island) × Int) (Ex (List Island) (List Island))) → Exit → St → Prop :=
  LQ 4 [] (m_plant_islands_v2_S1 p s_ u0 u1) (m_plant_islands_v2_B1 p) (m_plant_islands_v2_R p)
end
end Sg
