import Derived.Test.YtpndenfhglaikaaPg8
set_option linter.all false
namespace Sg
open Go
set_option linter.unusedSectionVars false
set_option linter.unusedVariables false
abbrev LT := Int × (List Bool) × (List Int) × Bool × (List Int) × Int × Int × Int
def tupL (e0 : Int) (M : Machine) (nn : Bool) (since : List Int) : LT := (e0, M.clearing.state.closed, since, nn, M.amps, M.now, M.clearing.energy, (M.clearing.events.length : Int))
section
variable {p : Plant} {s0 : State} {b : Nat} (hp : VP p) (hb : (b : Int) < p.buses)
include hp hb
theorem law_front {M N : Machine} {nn : Bool} (h : GI p s0 b M nn) (g : GL p s0 b M nn N) (r3 : Clearing × Int) (since : List Int) (hs : since.length = p.links.length) (h1 : nn = true → ∀ k, k < p.links.length → at' since k = snc M.since k) (h2 : nn = false → ∀ k, k < p.links.length → at' since k = 0) (e0 : Int) :
  ∃ sn : List Int, sn.length = p.links.length ∧ (∀ k, k < p.links.length → at' sn k = snc N.since k) ∧
   m_law03_GuardHolds_L0 p (b : Int) r3 s0 (tupL e0 M nn since) =
    (bif (decide ((M.clearing.events.length : Int) = (r3.1.events.length : Int))) then
     Option.bind (loopO (m_law03_GuardHolds_L3 p s0 M.clearing.state.closed (N.amps, true, 0)) FUEL (false, 0)) fun o => match o with
     | .ret v => some v
     | .brk armed1 =>
     (bif gB [((bif (bif (bif (r3.1.cleared == (decide (N.total = 0))) then (bif r3.1.cleared then true else (!armed1)) else false) then (decide (r3.1.millis = M.now)) else false) then (decide (e0 = M.clearing.energy)) else false), true)] then m_kit_SameState r3.1.state (stC s0 M.clearing.state.closed) else some default).bind fun r_8 =>
     (bif gB [((bif (bif (bif (bif (r3.1.cleared == (decide (N.total = 0))) then (bif r3.1.cleared then true else (!armed1)) else false) then (decide (r3.1.millis = M.now)) else false) then (decide (e0 = M.clearing.energy)) else false) then r_8 else false), true)] then m_law03_awake else some default).bind fun r_9 =>
     some (.done (.ret (bif (bif (bif (bif (bif (r3.1.cleared == (decide (N.total = 0))) then (bif r3.1.cleared then true else (!armed1)) else false) then (decide (r3.1.millis = M.now)) else false) then (decide (e0 = M.clearing.energy)) else false) then r_8 else false) then r_9 else false)))
    else
    asO ((0 : Int) ≤ (M.clearing.events.length : Int) ∧ (M.clearing.events.length : Int) < (r3.1.events.length : Int)) (
    bif (bif (bif (decide (N.total = 0)) then true else (decide (((at' r3.1.events (M.clearing.events.length : Int).toNat).millis) < M.now))) then true else (bif (decide (0 < (M.clearing.events.length : Int))) then (decide (((at' r3.1.events (M.clearing.events.length : Int).toNat).millis) = M.now)) else false)) then
    some (.done (.ret false))
    else
    asO (1000 ≠ (0 : Int)) (
    asO (((0 : Int) ≤ (p.links.length : Int)) ∧ ((1 : Int) * (p.links.length : Int) ≤ 281474976710656) ∧ (((p.links.length : Int) : Int) ≤ 9223372036854775807)) (
    Option.bind (loopO (m_law03_GuardHolds_L4 p r3 s0 M.clearing.state.closed (M.clearing.events.length : Int) (N.amps, true, 0) sn) FUEL ((M.clearing.events.length : Int), (List.replicate ((p.links.length : Int).toNat) (false : Bool)))) fun o => match o with
    | .ret v => some v
    | .brk (i4, opened1) =>
    Option.bind (loopO (m_law03_GuardHolds_L5 p r3 s0 M.clearing.state.closed (M.clearing.events.length : Int) (N.amps, true, 0) sn opened1) FUEL (0)) fun o => match o with
    | .ret v => some v
    | .brk _ =>
    Option.bind (loopO (m_law03_GuardHolds_L6 p opened1) FUEL (M.clearing.state.closed, 0)) fun o => match o with
    | .ret v => some v
    | .brk now04 =>
    some (.next (e0, now04, sn, true, N.amps, (at' r3.1.events (M.clearing.events.length : Int).toNat).millis, (IntKind.wrap .i64 (M.clearing.energy + enE N.total ((at' r3.1.events (M.clearing.events.length : Int).toNat).millis - M.now))), i4)))))) := by
 have hll := hp.ll
 have hst : (⟨M.clearing.state.closed, s0.locked, s0.badLink, s0.on_, s0.badSource, s0.earthed, s0.badBus⟩ : State) = M.clearing.state := by rw [h.st]; rfl
 have hvs := h.vs
 have hok := shortsOf_ok hp hvs hb
 have hlen := shortsOf_len M.clearing.state hp b
 have hl1 : loopO (m_law03_GuardHolds_L1 (shortsOf p M.clearing.state b, 0)) FUEL (0, 0) = some (.brk (totA (shortsOf p M.clearing.state b))) := by
  refine sum_loop _ (by omega) (fun x hx => by have := (hok x hx).amps1; omega) (fun k t hk => ?_) (fun t => ?_)
  ·unfold m_law03_GuardHolds_L1
   have h1 : decide ((k : Int) < ((shortsOf p M.clearing.state b).length : Int)) = true := decide_eq_true (by omega)
   simp only [h1, cond_true, Int.toNat_natCast]
   rw [asO_pos (by omega)]
  ·unfold m_law03_GuardHolds_L1
   simp
 have hl2 := law_L2 nn M.amps M.now (tab p.links.length (thrA (shortsOf p M.clearing.state b))) true 0 p.links.length (by omega) since hs (tab_length _ _) h.am
 refine ⟨tab p.links.length fun k => if nn = true ∧ at' (tab p.links.length (thrA (shortsOf p M.clearing.state b))) k ≠ at' M.amps k then M.now else at' since k, tab_length _ _, fun k hk => ?_, ?_⟩
 ·rw [at_tab hk, g.sn k hk, at_tab hk]
  cases hnn : nn with
  | true =>
   rw [h1 hnn k hk]
   by_cases e : thrA (shortsOf p M.clearing.state b) k = at' M.amps k
   ·rw [if_neg (fun q => q.2 e), if_neg (fun q => q.elim (fun q => by cases q) (fun q => q e.symm))]
   ·rw [if_pos ⟨rfl, e⟩, if_pos (.inr (Ne.symm e))]
  | false =>
   rw [if_neg (fun q => by cases q.1), if_pos (.inl rfl), h2 hnn k hk, h.z hnn]
 ·unfold m_law03_GuardHolds_L0 tupL
  have hst2 : stC s0 M.clearing.state.closed = M.clearing.state := hst
  simp only [hst, hst2, shorts_eq hp hvs hb, Option.bind_some, thr_of_ok hp hvs hb, hl1, hl2, g.amps, g.tot, tab_length, decide_true, Bool.not_true, cond_false]
  rfl
end
section
variable {p : Plant} {s0 : State} {b : Nat} (hp : VP p) (hb : (b : Int) < p.buses)
include hp hb
theorem law_end {M N : Machine} {nn : Bool} (h : GI p s0 b M nn) (g : GL p s0 b M nn N) (C : Clearing) (since : List Int) (hs : since.length = p.links.length) (h1 : nn = true → ∀ k, k < p.links.length → at' since k = snc M.since k) (h2 : nn = false → ∀ k, k < p.links.length → at' since k = 0)
  (c1 : C.events = M.clearing.events) (c2 : C.cleared = decide (N.total = 0)) (c3 : C.millis = M.now) (c4 : C.energy = M.clearing.energy) (c5 : C.state = M.clearing.state) (c6 : N.total = 0 ∨ ∀ k, k < p.links.length → dueM N k = none) :
  m_law03_GuardHolds_L0 p (b : Int) (C, 0) s0 (tupL C.energy M nn since) = some (.done (.ret true)) := by
 obtain ⟨sn, s1, s2, e⟩ := law_front hp hb h g (C, 0) since hs h1 h2 C.energy
 rw [e]
 have hvs := h.vs
 have hsb : s0.badLink.length = p.links.length := by have := hvs.badLink; rw [h.st] at this; exact this
 have d1 : decide ((M.clearing.events.length : Int) = (C.events.length : Int)) = true := by rw [c1]; simp
 have hst : stC s0 M.clearing.state.closed = M.clearing.state := h.st.symm
 simp only [d1, cond_true]
 rw [law_L3 hp M.clearing.state.closed hvs.closed hsb N.amps (by rw [g.amps, tab_length]) true 0 (snc N.since)]
 have harm : (bif C.cleared then true else !((List.range p.links.length).any fun k => (dueO p M.clearing.state.closed s0.badLink (at' N.amps) (snc N.since) k).isSome)) = true := by
  rw [c2]
  rcases c6 with c6 | c6
  ·simp [c6]
  ·have : ((List.range p.links.length).any fun k => (dueO p M.clearing.state.closed s0.badLink (at' N.amps) (snc N.since) k).isSome) = false := by
    rw [List.any_eq_false]
    intro k hk
    have := c6 k (List.mem_range.mp hk)
    unfold dueM at this
    rw [g.pl, h.pl, g.cl] at this
    have hbl : M.clearing.state.badLink = s0.badLink := by rw [h.st]; rfl
    rw [hbl] at this
    rw [this]; simp
   rw [this]; simp
 simp only [Option.bind_some, harm]
 rw [hst, c5, sameState_refl _ (hvs.small hp), awake_true, c2, c3, c4]
 simp [gB]
theorem law_step {M N : Machine} {nn : Bool} (h : GI p s0 b M nn) (g : GL p s0 b M nn N) (C : Clearing) (since : List Int) (hs : since.length = p.links.length) (h1 : nn = true → ∀ k, k < p.links.length → at' since k = snc M.since k) (h2 : nn = false → ∀ k, k < p.links.length → at' since k = 0)
  {t : Int} (ht : M.now < t) (hne : ∃ k, k < p.links.length ∧ dueM N k = some t) (htot : N.total ≠ 0) {R : List Event}
  (hE : C.events = (rndM N t (openN (dueM N) t p.links.length)).clearing.events ++ R) (hR : ∀ e ∈ R, t < e.millis) (hlen : C.events.length ≤ 40) :
  ∃ sn : List Int, sn.length = p.links.length ∧ (∀ k, k < p.links.length → at' sn k = snc N.since k) ∧
   m_law03_GuardHolds_L0 p (b : Int) (C, 0) s0 (tupL C.energy M nn since) = some (.next (tupL C.energy (rndM N t (openN (dueM N) t p.links.length)) true sn)) := by
 obtain ⟨sn, s1, s2, e⟩ := law_front hp hb h g (C, 0) since hs h1 h2 C.energy
 refine ⟨sn, s1, s2, ?_⟩
 rw [e]
 have hll := hp.ll
 have hvs := h.vs
 have hbl : M.clearing.state.badLink = s0.badLink := by rw [h.st]; rfl
 have hsb : s0.badLink.length = p.links.length := by rw [← hbl]; exact hvs.badLink
 have hpos : 0 < (openN (dueM N) t p.links.length).length := by
  obtain ⟨k, hk, hd⟩ := hne
  exact List.length_pos_of_mem (openN_mem.mpr ⟨hk, t, hd, Int.le_refl _⟩)
 have hdue : ∀ k, k < p.links.length → dueO p M.clearing.state.closed s0.badLink (at' N.amps) (at' sn) k = dueM N k := by
  intro k hk
  unfold dueM dueO
  rw [g.pl, h.pl, g.cl, hbl, s2 k hk]
 have ho : openN (dueM N) t p.links.length = openN (dueO p M.clearing.state.closed s0.badLink (at' N.amps) (at' sn)) t p.links.length := by
  unfold openN
  apply List.filter_congr
  intro k hk
  rw [hdue k (List.mem_range.mp hk)]
 have hE' : C.events = M.clearing.events ++ ((openN (dueM N) t p.links.length).map (fun (k : Nat) => (⟨t, (k : Int)⟩ : Event)) ++ R) := by
  rw [hE, ← List.append_assoc, ← g.cl]; rfl
 have hlE : C.events.length = M.clearing.events.length + ((openN (dueM N) t p.links.length).length + R.length) := by rw [hE']; simp
 have hev0 : (at' C.events (M.clearing.events.length : Int).toNat).millis = t := by
  have hm := List.length_map (as := openN (dueM N) t p.links.length) (f := fun (k : Nat) => (⟨t, (k : Int)⟩ : Event))
  have := at_mid (A := M.clearing.events) (B := (openN (dueM N) t p.links.length).map (fun (k : Nat) => (⟨t, (k : Int)⟩ : Event))) (C := R) (j := 0) (by omega)
  rw [Int.toNat_natCast, hE', ← Nat.add_zero M.clearing.events.length, this, at_get (by omega)]; simp
 have d1 : decide ((M.clearing.events.length : Int) = (C.events.length : Int)) = false := decide_eq_false (by omega)
 have d2 : decide (N.total = 0) = false := decide_eq_false htot
 have d3 : decide (t < M.now) = false := decide_eq_false (by omega)
 have d4 : decide (t = M.now) = false := decide_eq_false (by omega)
 simp only [d1, cond_false, d2, hev0, d3, d4]
 have hA : ∀ e ∈ M.clearing.events, e.millis < t := fun e he => by have := h.evm e he; omega
 have hsnb : ∀ k, k < p.links.length → 0 ≤ at' sn k ∧ at' sn k ≤ 1000000000 := fun k hk => by
  rw [s2 k hk]; have := g.snb k hk; have := h.n1; omega
 have hNa : N.amps.length = p.links.length := by rw [g.amps, tab_length]
 have L4 := law_L4 hp hvs.closed hsb hNa s1 hsnb C 0 true 0 M.clearing.events R t _ ho hE' hA hR hpos (by omega)
 have L5 := law_L5 hp hvs.closed hsb hNa s1 hsnb C 0 true 0 (M.clearing.events.length : Int) t _ ho hev0
 have L6 := law_L6 hp hvs.closed hsb hNa s1 hsnb (openN (dueM N) t p.links.length)
 rw [asO_pos (by omega)]
 have d5 : (bif bif decide (0 < (M.clearing.events.length : Int)) then false else false then some (Flow.done (Ex.ret false)) else (none : Option (Flow LT (Ex Unit Bool)))) = none := by cases decide (0 < (M.clearing.events.length : Int)) <;> rfl
 have d6 : (bif decide (0 < (M.clearing.events.length : Int)) then false else false) = false := by cases decide (0 < (M.clearing.events.length : Int)) <;> rfl
 rw [d6, cond_false, asO_pos (by omega), asO_pos (by omega), Int.toNat_natCast, L4]
 simp only [Option.bind_some]
 rw [L5]
 simp only [Option.bind_some]
 rw [L6]
 simp only [Option.bind_some, tupL]
 have q1 : (rndM N t (openN (dueM N) t p.links.length)).clearing.state.closed = shutF M.clearing.state.closed (openN (dueM N) t p.links.length) := by show shutF N.clearing.state.closed _ = _; rw [g.cl]
 have q2 : (rndM N t (openN (dueM N) t p.links.length)).clearing.energy = IntKind.wrap .i64 (M.clearing.energy + enE N.total (t - M.now)) := by show IntKind.wrap .i64 (N.clearing.energy + enE N.total (t - N.now)) = _; rw [g.cl, g.now]
 have q3 : (rndM N t (openN (dueM N) t p.links.length)).clearing.events.length = M.clearing.events.length + (openN (dueM N) t p.links.length).length := by show (N.clearing.events ++ _).length = _; rw [g.cl]; simp
 rw [q1, q2, q3]
 rfl
theorem sim : ∀ (m : Nat) (M : Machine) (nn : Bool), GI p s0 b M nn → cntB M.clearing.state.closed < m →
  ∃ (C : Clearing) (sf : List (Int × Int)) (R : List Event), loopO m_guard_machine_run_L0 m (tupM M nn) = some (.ret (C, sf)) ∧ C.events = M.clearing.events ++ R ∧ (∀ e ∈ R, M.now < e.millis) ∧ C.events.length ≤ 40 ∧
   ∀ since : List Int, since.length = p.links.length → (nn = true → ∀ k, k < p.links.length → at' since k = snc M.since k) → (nn = false → ∀ k, k < p.links.length → at' since k = 0) →
    loopO (m_law03_GuardHolds_L0 p (b : Int) (C, 0) s0) m (tupL C.energy M nn since) = some (.ret true) := by
 intro m
 induction m with
 | zero => intro M nn h hm; omega
 | succ m ih =>
  intro M nn h hm
  obtain ⟨N, g⟩ := h.look hp hb
  have hev := h.ev
  have hbody := run_body g.eq g.cl
  have hrest : ∀ (C : Clearing), C.events = M.clearing.events → (∀ since : List Int, since.length = p.links.length → (nn = true → ∀ k, k < p.links.length → at' since k = snc M.since k) → (nn = false → ∀ k, k < p.links.length → at' since k = 0) → m_law03_GuardHolds_L0 p (b : Int) (C, 0) s0 (tupL C.energy M nn since) = some (.done (.ret true))) → m_guard_machine_run_L0 (tupM M nn) = some (.done (.ret (C, N.since))) →
    ∃ (C : Clearing) (sf : List (Int × Int)) (R : List Event), loopO m_guard_machine_run_L0 (m + 1) (tupM M nn) = some (.ret (C, sf)) ∧ C.events = M.clearing.events ++ R ∧ (∀ e ∈ R, M.now < e.millis) ∧ C.events.length ≤ 40 ∧
     ∀ since : List Int, since.length = p.links.length → (nn = true → ∀ k, k < p.links.length → at' since k = snc M.since k) → (nn = false → ∀ k, k < p.links.length → at' since k = 0) →
      loopO (m_law03_GuardHolds_L0 p (b : Int) (C, 0) s0) (m + 1) (tupL C.energy M nn since) = some (.ret true) := by
   intro C hC hlaw hrun
   refine ⟨C, N.since, [], by rw [loopO_succ, hrun], by simp [hC], by simp, by rw [hC]; omega, fun since q1 q2 q3 => ?_⟩
   rw [loopO_succ, hlaw since q1 q2 q3]
  by_cases ht0 : N.total = 0
  ·refine hrest ⟨M.clearing.events, true, M.clearing.millis, M.clearing.energy, M.clearing.state⟩ rfl (fun since q1 q2 q3 => law_end hp hb h g _ since q1 q2 q3 rfl (by simp [ht0]) h.ml rfl rfl (.inl ht0)) ?_
   rw [hbody, ht0]; rfl
  ·have d0 : decide (N.total = 0) = false := decide_eq_false ht0
   rw [d0, cond_false] at hbody
   obtain ⟨l1, l2, l3, l4, l5, l6⟩ := g.lens hp hb h
   rw [round_eq hp l1 l2 l3 l4 l5 l6] at hbody
   rcases g.next hp hb h with ⟨n1, n2⟩ | ⟨n1, n2, n3, n4, n5⟩
   ·rw [if_pos n1] at hbody
    refine hrest M.clearing rfl (fun since q1 q2 q3 => law_end hp hb h g _ since q1 q2 q3 rfl (by rw [h.cl, d0]) h.ml rfl rfl (.inr n2)) ?_
    rw [hbody]
    simp only [Option.bind_some, cond_false, g.cl]
   ·rw [if_neg n1, n2] at hbody
    simp only [Option.bind_some, cond_true] at hbody
    generalize htt : nextF (dueM N) p.links.length = t at *
    obtain ⟨G, hcnt, hpos⟩ := g.rnd hp hb h ⟨n3, n4⟩ rfl n5
    obtain ⟨C, sf, R, hC, hE, hR, hlen, hlaw⟩ := ih _ _ G (by omega)
    refine ⟨C, sf, (openN (dueM N) t p.links.length).map (fun (k : Nat) => (⟨t, (k : Int)⟩ : Event)) ++ R, ?_, ?_, ?_, hlen, fun since q1 q2 q3 => ?_⟩
    ·rw [loopO_succ, hbody]; exact hC
    ·rw [hE, ← List.append_assoc, ← g.cl]; rfl
    ·intro e he
     rcases List.mem_append.mp he with he | he
     ·obtain ⟨k, _, rfl⟩ := List.mem_map.mp he; exact n3
     ·have : t < e.millis := hR e he
      omega
    ·obtain ⟨sn, s1, s2, e⟩ := law_step hp hb h g C since q1 q2 q3 n3 n5 ht0 hE hR hlen
     rw [loopO_succ, e]
     exact hlaw sn s1 (fun _ k hk => by rw [s2 k hk]; rfl) (fun hf => by cases hf)
theorem clear_law {s : State} (hs : VS p s) : ∃ C : Clearing, m_guard_Clear p s (b : Int) = some (C, 0) ∧ loopO (m_law03_GuardHolds_L0 p (b : Int) (C, 0) s) FUEL (C.energy, s.closed, List.replicate p.links.length 0, false, [], 0, 0, 0) = some (.ret true) := by
 have hll := hp.ll
 let M : Machine := ⟨⟨[], false, 0, 0, s⟩, p, (b : Int), [], 0, [], 0⟩
 have hcl := hs.closed
 have hcnt := cntB_le s.closed
 have G : GI p s b M false := by
  refine ⟨rfl, rfl, rfl, hs, rfl, rfl, Int.le_refl _, ?_, ?_, ?_, fun h => (by cases h), fun k hk => ?_, fun h => (by cases h), fun _ => rfl⟩
  ·show (0 : Int) + 100000 * (cntB s.closed : Int) ≤ 4000000; omega
  ·show 0 + cntB s.closed ≤ 40; omega
  ·intro e he; cases he
  ·show 0 ≤ (0 : Int) ∧ (0 : Int) ≤ 0; omega
 obtain ⟨C, sf, R, hC, _, _, _, hlaw⟩ := sim (s0 := s) hp hb (cntB s.closed + 1) M false G (Nat.lt_succ_self _)
 refine ⟨C, ?_, ?_⟩
 ·unfold m_guard_Clear
  have h0 : stateE p s = 0 := stateE_zero.mpr ⟨hp, hs⟩
  rw [checkState_eq p s hp.small, h0, Option.bind_some]
  have h1 : decide ((b : Int) < 0) = false := decide_eq_false (by omega)
  have h2 : decide (p.buses ≤ (b : Int)) = false := decide_eq_false (by omega)
  rw [h1, h2]
  simp only [decide_true, Bool.not_true, cond_false]
  rw [guardCopied_eq s (hs.small hp), Option.bind_some]
  have : m_guard_machine_run M false = some (C, sf) := by
   have h3 : loopO m_guard_machine_run_L0 FUEL (tupM M false) = some (.ret (C, sf)) := loopO_more hC (by unfold FUEL; omega)
   show (loopO m_guard_machine_run_L0 FUEL (tupM M false)).bind _ = _
   rw [h3]; rfl
  show (m_guard_machine_run M false).bind _ = _
  rw [this]; rfl
 ·have := hlaw (List.replicate p.links.length 0) (by simp) (fun h => by cases h) (fun _ k hk => at'_replicate hk)
  exact loopO_more this (by unfold FUEL; omega)
end
theorem pick_eq (x n : Int) (hn : 1 ≤ n ∧ n ≤ 1000000) : ∃ b : Nat, m_kit_Pick x n = some (b : Int) ∧ (b : Int) < n := by
 unfold m_kit_Pick
 have h1 : decide (n < 1) = false := decide_eq_false (by omega)
 have h2 := Int.tmod_lt_of_pos x (show 0 < n by omega)
 have h3 : -n < x.tmod n := by
  have := Int.tmod_lt_of_pos (-x) (show 0 < n by omega)
  rw [Int.neg_tmod] at this; omega
 rw [h1, cond_false, asO_pos (by omega)]
 by_cases h : x.tmod n < 0
 ·have : decide (x.tmod n < 0) = true := decide_eq_true h
  rw [this, cond_true, wr (by omega)]
  exact ⟨(x.tmod n + n).toNat, by congr 1; omega, by omega⟩
 ·have : decide (x.tmod n < 0) = false := decide_eq_false h
  rw [this, cond_false]
  exact ⟨(x.tmod n).toNat, by congr 1; omega, by omega⟩
theorem guardHolds_true (p : Plant) (s : State) (bus : Int) (hp : Small p) : m_law03_GuardHolds p s bus = some true := by
 unfold m_law03_GuardHolds
 rw [checkState_eq p s hp]
 generalize hbig : (bif (bif (decide (60 < (p.sources.length : Int))) then true else (decide (60 < (p.links.length : Int)))) then true else (decide (60 < (p.racks.length : Int)))) = big
 cases big with
 | true => simp [gB, awake_true]
 | false =>
  simp only [gB, beq_self_eq_true, Bool.and_true, cond_true, Option.bind_some, cond_false]
  by_cases h0 : stateE p s = 0
  ·obtain ⟨hv, hs⟩ := stateE_zero.mp h0
   have hll := hv.ll
   rw [h0]
   simp only [decide_true, Bool.not_true, cond_false]
   obtain ⟨b, hb1, hb2⟩ := pick_eq bus p.buses (by have := hv.b; omega)
   obtain ⟨C, hC, hL⟩ := clear_law hv hb2 hs
   rw [hb1, Option.bind_some, hC, Option.bind_some]
   simp only [decide_true, Bool.not_true, cond_false]
   rw [copyState_eq s (hs.small hv), Option.bind_some, asO_pos (by omega), Int.toNat_natCast]
   simp only [hL]
   rfl
  ·have : decide (stateE p s = 0) = false := decide_eq_false h0
   rw [this]; simp [awake_true]
end Sg
