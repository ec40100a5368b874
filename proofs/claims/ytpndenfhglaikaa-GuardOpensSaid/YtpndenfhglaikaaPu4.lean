import Derived.Test.YtpndenfhglaikaaPu3
import Derived.Test.YtpndenfhglaikaaPg9
set_option linter.all false
namespace Sg
open Go
set_option linter.unusedSectionVars false
set_option linter.unusedVariables false
section
variable {p : Plant} {s0 : State} {b : Nat} (hp : VP p) (hb : (b : Int) < p.buses)
include hp hb
theorem run_opens : ∀ (m : Nat) (M : Machine) (nn : Bool), GI p s0 b M nn → cntB M.clearing.state.closed < m →
  ∃ (C : Clearing) (sf : List (Int × Int)), loopO m_guard_machine_run_L0 m (tupM M nn) = some (.ret (C, sf)) ∧ C.state = stC s0 C.state.closed ∧ VS p C.state ∧
   (∀ k, k < p.links.length → at' C.state.closed k = true → at' M.clearing.state.closed k = true) ∧ (C.cleared = true → totA (shortsOf p C.state b) = 0) ∧
   (totA (shortsOf p M.clearing.state b) = 0 → C = ⟨M.clearing.events, true, M.clearing.millis, M.clearing.energy, M.clearing.state⟩) := by
 intro m
 induction m with
 | zero => intro M nn h hm; omega
 | succ m ih =>
  intro M nn h hm
  obtain ⟨N, g⟩ := h.look hp hb
  have hbody := run_body g.eq g.cl
  by_cases ht0 : N.total = 0
  ·refine ⟨⟨M.clearing.events, true, M.clearing.millis, M.clearing.energy, M.clearing.state⟩, N.since, ?_, h.st, h.vs, fun _ _ h => h, fun _ => ?_, fun _ => rfl⟩
   ·rw [loopO_succ, hbody, ht0]; rfl
   ·rw [← g.tot]; exact ht0
  ·have htn : totA (shortsOf p M.clearing.state b) ≠ 0 := by rw [← g.tot]; exact ht0
   have d0 : decide (N.total = 0) = false := decide_eq_false ht0
   rw [d0, cond_false] at hbody
   obtain ⟨l1, l2, l3, l4, l5, l6⟩ := g.lens hp hb h
   rw [round_eq hp l1 l2 l3 l4 l5 l6] at hbody
   rcases g.next hp hb h with ⟨n1, n2⟩ | ⟨n1, n2, n3, n4, n5⟩
   ·rw [if_pos n1] at hbody
    refine ⟨M.clearing, N.since, ?_, h.st, h.vs, fun _ _ h => h, fun hc => ?_, fun e => absurd e htn⟩
    ·rw [loopO_succ, hbody]
     simp only [Option.bind_some, cond_false, g.cl]
    ·rw [h.cl] at hc; cases hc
   ·rw [if_neg n1, n2] at hbody
    simp only [Option.bind_some, cond_true] at hbody
    generalize htt : nextF (dueM N) p.links.length = t at *
    obtain ⟨G, hcnt, hpos⟩ := g.rnd hp hb h ⟨n3, n4⟩ rfl n5
    obtain ⟨C, sf, hC, c1, c2, c3, c4, _⟩ := ih _ _ G (by omega)
    refine ⟨C, sf, by rw [loopO_succ, hbody]; exact hC, c1, c2, fun k hk hck => ?_, c4, fun e => absurd e htn⟩
    have := c3 k hk hck
    have e : (rndM N t (openN (dueM N) t p.links.length)).clearing.state.closed = shutF M.clearing.state.closed (openN (dueM N) t p.links.length) := by
     show shutF N.clearing.state.closed _ = _
     rw [g.cl]
    rw [e, shutF_at _ _ _ (by rw [h.vs.closed]; exact hk)] at this
    simp only [Bool.and_eq_true] at this
    exact this.1
theorem clear_opens {s : State} (hs : VS p s) : ∃ C : Clearing, m_guard_Clear p s (b : Int) = some (C, 0) ∧ C.state = stC s C.state.closed ∧ VS p C.state ∧
  (∀ k, k < p.links.length → at' C.state.closed k = true → at' s.closed k = true) ∧ (C.cleared = true → totA (shortsOf p C.state b) = 0) ∧
  (totA (shortsOf p s b) = 0 → C = ⟨[], true, 0, 0, s⟩) := by
 have hll := hp.ll
 let M : Machine := ⟨⟨[], false, 0, 0, s⟩, p, (b : Int), [], 0, [], 0⟩
 have hcl := hs.closed
 have hcnt := cntB_le s.closed
 have G : GI p s b M false := by
  refine ⟨rfl, rfl, rfl, hs, rfl, rfl, Int.le_refl _, ?_, ?_, ?_, fun h => (by cases h), fun k hk => ?_, fun h => (by cases h), fun _ => rfl⟩
  ·show (0 : Int) + 100000 * (cntB s.closed : Int) ≤ 4000000; omega
  ·show 0 + cntB s.closed ≤ 40; omega
  ·intro e he; cases he
  ·show 0 ≤ (0 : Int) ∧ (0 : Int) ≤ 0; omega
 obtain ⟨C, sf, hC, c1, c2, c3, c4, c5⟩ := run_opens (s0 := s) hp hb (cntB s.closed + 1) M false G (Nat.lt_succ_self _)
 refine ⟨C, ?_, c1, c2, c3, c4, c5⟩
 unfold m_guard_Clear
 have h0 : stateE p s = 0 := stateE_zero.mpr ⟨hp, hs⟩
 rw [checkState_eq p s hp.small, h0, Option.bind_some]
 have h1 : decide ((b : Int) < 0) = false := decide_eq_false (by omega)
 have h2 : decide (p.buses ≤ (b : Int)) = false := decide_eq_false (by omega)
 rw [h1, h2]
 simp only [decide_true, Bool.not_true, cond_false]
 rw [guardCopied_eq s (hs.small hp), Option.bind_some]
 have : m_guard_machine_run M false = some (C, sf) := by
  have h3 : loopO m_guard_machine_run_L0 FUEL (tupM M false) = some (.ret (C, sf)) := loopO_more hC (by unfold FUEL; omega)
  show (loopO m_guard_machine_run_L0 FUEL (tupM M false)).bind _ = _
  rw [h3]; rfl
 show (m_guard_machine_run M false).bind _ = _
 rw [this]; rfl
end
theorem opens_L0 (x y : List Bool) (e1 e2 : Int) (n : Nat) (hn : n ≤ 1000) (hx : x.length = n) (hy : y.length = n) (h : ∀ i, i < n → at' y i = true → at' x i = true) :
  loopO (m_law03_GuardOpens_L0 (x, e1) (y, e2)) FUEL 0 = some (.brk ()) := by
 have key : loopO (m_law03_GuardOpens_L0 (x, e1) (y, e2)) FUEL ((0 : Nat) : Int) = some (.brk ()) := by
  refine loopO_run (fun i => (i : Int)) n _ (fuel_lt (by omega)) (fun i hi => ?_) ?_
  ·have hd : decide ((i : Int) < (y.length : Int)) = true := decide_eq_true (by omega)
   have := h i hi
   unfold m_law03_GuardOpens_L0
   simp only [Int.toNat_natCast]
   rw [hd, cond_true, asO_pos ⟨by omega, fun _ => by omega⟩]
   have e : (bif at' y i then !at' x i else false) = false := by
    revert this
    cases at' y i <;> cases at' x i <;> simp
   rw [e, cond_false, wr (by omega)]
   rfl
  ·have hd : decide ((n : Int) < (y.length : Int)) = false := decide_eq_false (by omega)
   unfold m_law03_GuardOpens_L0
   simp only
   rw [hd]; rfl
 exact key
theorem opens_L1 (s : State) (c : List Bool) (n : Nat) (hn : n ≤ 1000) (hc : c.length = n) (hs : s.closed.length = n) (h : ∀ i, i < n → at' c i = true → at' s.closed i = true) :
  loopO (m_law03_GuardOpens_L1 s) FUEL (c, 0) = some (.brk s.closed) := by
 have key : loopO (m_law03_GuardOpens_L1 s) FUEL (tab n (fun k => if k < 0 then at' s.closed k else at' c k), ((0 : Nat) : Int)) = some (.brk s.closed) := by
  refine loopO_run (fun i => (tab n (fun k => if k < i then at' s.closed k else at' c k), (i : Int))) n _ (fuel_lt (by omega)) (fun i hi => ?_) ?_
  ·have hd : decide ((i : Int) < (s.closed.length : Int)) = true := decide_eq_true (by omega)
   have := h i hi
   have hl := tab_length n (fun k => if k < i then at' s.closed k else at' c k)
   unfold m_law03_GuardOpens_L1
   simp only [Int.toNat_natCast]
   rw [hd, cond_true, asO_pos ⟨by omega, fun _ => by omega⟩, at_tab hi, if_neg (Nat.lt_irrefl _)]
   have e : (bif at' c i then !at' s.closed i else false) = false := by
    revert this
    cases at' c i <;> cases at' s.closed i <;> simp
   rw [e, cond_false, asO_pos ⟨by omega, by omega⟩, wr (by omega), tab_set]
   have : tab n (fun k => if k = i then at' s.closed i else if k < i then at' s.closed k else at' c k) = tab n (fun k => if k < i + 1 then at' s.closed k else at' c k) := by
    refine tab_congr fun k hk => ?_
    by_cases e : k = i
    ·subst e; rw [if_pos rfl, if_pos (by omega)]
    ·rw [if_neg e]
     by_cases e2 : k < i
     ·rw [if_pos e2, if_pos (by omega)]
     ·rw [if_neg e2, if_neg (by omega)]
   rw [this]
   rfl
  ·have hd : decide ((n : Int) < (s.closed.length : Int)) = false := decide_eq_false (by omega)
   unfold m_law03_GuardOpens_L1
   simp only
   rw [hd, cond_false]
   have : tab n (fun k => if k < n then at' s.closed k else at' c k) = s.closed := by
    rw [← tab_at s.closed, hs]
    exact tab_congr fun k hk => by rw [if_pos hk, at_tab hk]
   rw [this]
 have : tab n (fun k => if k < 0 then at' s.closed k else at' c k) = c := by
  have e := tab_at c
  rw [hc] at e
  conv => rhs; rw [← e]
  exact tab_congr fun k _ => if_neg (Nat.not_lt_zero _)
 rw [this] at key
 exact key
theorem guardOpens_true (p : Plant) (s : State) (bus : Int) (hp : Small p) : m_law03_GuardOpens p s bus = some true := by
 unfold m_law03_GuardOpens
 rw [checkState_eq p s hp]
 generalize hbig : (bif (bif (decide (60 < (p.sources.length : Int))) then true else (decide (60 < (p.links.length : Int)))) then true else (decide (60 < (p.racks.length : Int)))) = big
 cases big with
 | true => simp [gB, awake_true]
 | false =>
  simp only [gB, beq_self_eq_true, Bool.and_true, cond_true, Option.bind_some, cond_false]
  by_cases h0 : stateE p s = 0
  ·obtain ⟨hv, hs⟩ := stateE_zero.mp h0
   have hll := hv.ll; have hbb := hv.b
   rw [h0]
   simp only [decide_true, Bool.not_true, cond_false]
   obtain ⟨b, hb1, hb2⟩ := pick_eq bus p.buses (by omega)
   obtain ⟨C, hC, c1, c2, c3, c4, c5⟩ := clear_opens hv hb2 hs
   obtain ⟨X, x1, x2, x3⟩ := live_eq hv hs
   obtain ⟨Y, y1, y2, y3⟩ := live_eq hv c2
   have hmono : ∀ i : Nat, LiveAt p C.state i → LiveAt p s i := by
    intro i h
    rw [c1] at h
    exact LiveAt.mono (s := s) c3 h
   have hcl := c2.closed; have hcs := hs.closed
   have hle : decide ((C.state.closed.length : Int) = (s.closed.length : Int)) = true := decide_eq_true (by omega)
   have hl1 : decide ((X.length : Int) = (Y.length : Int)) = true := decide_eq_true (by omega)
   have hl2 : decide ((X.length : Int) = p.buses) = true := decide_eq_true (by omega)
   rw [hb1, Option.bind_some, hC, Option.bind_some]
   simp only [decide_true, Bool.not_true, cond_false, hle]
   rw [x1, Option.bind_some, y1, Option.bind_some]
   simp only [decide_true, Bool.not_true, cond_false, hl1, hl2]
   rw [opens_L0 X Y 0 0 p.buses.toNat (by omega) (by omega) (by omega) (fun i hi h => (x3 i (by omega)).mpr (hmono i ((y3 i (by omega)).mp h)))]
   rw [Option.bind_some]
   simp only
   rw [copyState_eq _ (c2.small hv), Option.bind_some, opens_L1 s C.state.closed p.links.length (by omega) hcl hcs c3, Option.bind_some]
   simp only
   rw [asO_pos ⟨by omega, fun _ => by omega⟩]
   have e1 : (bif (!(at' X (b : Int).toNat)) then (bif (bif (!C.cleared) then true else (!decide (C.energy = 0))) then true else (!decide ((C.events.length : Int) = 0))) else false) = false := by
    rw [Int.toNat_natCast]
    cases hX : at' X b with
    | true => rfl
    | false =>
     have : ¬ LiveAt p s b := fun h => by
      have := (x3 b hb2).mpr h
      rw [hX] at this; cases this
     have := c5 ((tot_live hv hs hb2).mpr this)
     rw [this]; rfl
   have e2 : (bif C.cleared then (at' Y (b : Int).toNat) else false) = false := by
    rw [Int.toNat_natCast]
    cases hc : C.cleared with
    | false => rfl
    | true =>
     rw [cond_true]
     cases hY : at' Y b with
     | false => rfl
     | true => exact absurd ((y3 b hb2).mp hY) ((tot_live hv c2 hb2).mp (c4 hc))
   rw [e1, e2]
   simp only [cond_false]
   have e3 : (⟨s.closed, C.state.locked, C.state.badLink, C.state.on_, C.state.badSource, C.state.earthed, C.state.badBus⟩ : State) = s := by
    rw [c1]; rfl
   rw [e3, sameState_refl s (hs.small hv), Option.bind_some]
   simp [gB, awake_true]
  ·have : decide (stateE p s = 0) = false := decide_eq_false h0
   rw [this]; simp [awake_true]
end Sg
