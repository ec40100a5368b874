import Derived.Test.YtpndenfhglaikaaPg6
import Derived.KernelRfl
set_option linter.all false
namespace Sg
open Go
set_option linter.unusedSectionVars false
set_option linter.unusedVariables false
theorem awake_true : m_law03_awake = some true := by kernel_rfl
def stC (s : State) (c : List Bool) : State := ⟨c, s.locked, s.badLink, s.on_, s.badSource, s.earthed, s.badBus⟩
def rndM (M : Machine) (t : Int) (o : List Nat) : Machine :=
 ⟨⟨M.clearing.events ++ o.map (fun (k : Nat) => (⟨t, (k : Int)⟩ : Event)), M.clearing.cleared, t, IntKind.wrap .i64 (M.clearing.energy + enE M.total (t - M.now)), stC M.clearing.state (shutF M.clearing.state.closed o)⟩, M.p, M.bus, M.amps, M.total, M.since, t⟩
theorem round_eq {p : Plant} (hp : VP p) {M : Machine} (e1 : M.p = p) (hc : M.clearing.state.closed.length = p.links.length) (hb : M.clearing.state.badLink.length = p.links.length) (ha : M.amps.length = p.links.length) (hs : ∀ k, k < p.links.length → 0 ≤ snc M.since k ∧ snc M.since k ≤ 1000000000) (hev : M.clearing.events.length ≤ 1000000) :
  m_guard_machine_round M true = some (if nextF (dueM M) p.links.length < 0 then (false, M, true) else
   (true, rndM M (if nextF (dueM M) p.links.length < M.now then M.now else nextF (dueM M) p.links.length) (openN (dueM M) (if nextF (dueM M) p.links.length < M.now then M.now else nextF (dueM M) p.links.length) p.links.length), true)) := by
 have hll := hp.ll
 unfold m_guard_machine_round
 rw [armed_min hp e1 hc hb ha hs]
 simp only [m_guard_machine_armed, Option.bind_some]
 generalize nextF (dueM M) p.links.length = nx
 by_cases h : nx < 0
 ·simp [h]
 ·have : decide (nx < 0) = false := decide_eq_false h
  rw [this, cond_false, if_neg h, armed_open hp e1 hc hb ha hs, Option.bind_some, asO_pos (by omega), cloneB_eq _ (by omega), Option.bind_some]
  have hlen := openN_len (dueM M) (if nx < M.now then M.now else nx) p.links.length
  rw [round_loop M nx _ _ rfl hev (by omega) _ (fun k hk => by have := (openN_mem.mp hk).1; omega)]
  rfl
structure GI (p : Plant) (s0 : State) (b : Nat) (M : Machine) (nn : Bool) : Prop where
 pl : M.p = p
 bus : M.bus = (b : Int)
 st : M.clearing.state = stC s0 M.clearing.state.closed
 vs : VS p M.clearing.state
 ml : M.clearing.millis = M.now
 cl : M.clearing.cleared = false
 n0 : 0 ≤ M.now
 n1 : M.now + 100000 * (cntB M.clearing.state.closed : Int) ≤ 4000000
 ev : M.clearing.events.length + cntB M.clearing.state.closed ≤ 40
 evm : ∀ e ∈ M.clearing.events, e.millis ≤ M.now
 am : nn = true → M.amps.length = p.links.length
 sn : ∀ k, k < p.links.length → 0 ≤ snc M.since k ∧ snc M.since k ≤ M.now
 due : nn = true → ∀ k, k < p.links.length → ∀ d, dueM M k = some d → M.now < d
 z : nn = false → M.now = 0
structure GL (p : Plant) (s0 : State) (b : Nat) (M : Machine) (nn : Bool) (N : Machine) : Prop where
 eq : m_guard_machine_look M nn = some (N, true)
 cl : N.clearing = M.clearing
 pl : N.p = M.p
 bus : N.bus = M.bus
 now : N.now = M.now
 amps : N.amps = tab p.links.length (thrA (shortsOf p M.clearing.state b))
 tot : N.total = totA (shortsOf p M.clearing.state b)
 sn : ∀ k, k < p.links.length → snc N.since k = if nn = false ∨ at' M.amps k ≠ thrA (shortsOf p M.clearing.state b) k then M.now else snc M.since k
 snb : ∀ k, k < p.links.length → 0 ≤ snc N.since k ∧ snc N.since k ≤ M.now
 due : ∀ k, k < p.links.length → ∀ d, dueM N k = some d → M.now < d ∧ d ≤ M.now + 100000
theorem dueO_some {p : Plant} {c bad : List Bool} {amps since : Nat → Int} {k : Nat} {d : Int} (h : dueO p c bad amps since k = some d) :
  (at' p.links k).kind = 3 ∧ at' c k = true ∧ at' bad k = false ∧ (delayOf (at' p.links k).trip (amps k)).2 = true ∧ d = since k + (delayOf (at' p.links k).trip (amps k)).1 := by
 unfold dueO at h
 split at h
 ·rename_i hc; cases h; exact ⟨hc.1, hc.2.1, hc.2.2.1, hc.2.2.2, rfl⟩
 ·cases h
section
variable {p : Plant} {s0 : State} {b : Nat} (hp : VP p) (hb : (b : Int) < p.buses)
include hp hb
theorem GI.look {M : Machine} {nn : Bool} (h : GI p s0 b M nn) : ∃ N, GL p s0 b M nn N := by
 obtain ⟨sn, e, hsn⟩ := look_eq hp h.vs hb M nn h.pl rfl h.bus h.am
 have hb2 : ∀ k, k < p.links.length → 0 ≤ snc sn k ∧ snc sn k ≤ M.now := by
  intro k hk
  rw [hsn k hk]
  have := h.sn k hk; have := h.n0
  split <;> omega
 refine ⟨_, e, rfl, rfl, rfl, rfl, rfl, rfl, hsn, hb2, fun k hk d hd => ?_⟩
 obtain ⟨c1, c2, c3, c4, c5⟩ := dueO_some hd
 simp only at c1 c2 c3 c4 c5
 rw [at_tab hk] at c4 c5
 rw [h.pl] at c1 c4 c5
 have hdl := delayOf_le (hp.lnk k hk) c4
 have hbk := hb2 k hk
 refine ⟨?_, by omega⟩
 rw [c5]
 by_cases hq : nn = false ∨ at' M.amps k ≠ thrA (shortsOf p M.clearing.state b) k
 ·rw [hsn k hk, if_pos hq]; omega
 ·have hnn : nn = true := by cases e : nn with | true => rfl | false => exact absurd (.inl e) hq
  have ham : at' M.amps k = thrA (shortsOf p M.clearing.state b) k := by
   by_cases e : at' M.amps k = thrA (shortsOf p M.clearing.state b) k
   ·exact e
   ·exact absurd (.inr e) hq
  rw [hsn k hk, if_neg hq]
  refine h.due hnn k hk _ ?_
  unfold dueM dueO
  rw [h.pl, ham, if_pos ⟨c1, c2, c3, c4⟩]
theorem GL.lens {M N : Machine} {nn : Bool} (h : GI p s0 b M nn) (g : GL p s0 b M nn N) :
  N.p = p ∧ N.clearing.state.closed.length = p.links.length ∧ N.clearing.state.badLink.length = p.links.length ∧ N.amps.length = p.links.length ∧ (∀ k, k < p.links.length → 0 ≤ snc N.since k ∧ snc N.since k ≤ 1000000000) ∧ N.clearing.events.length ≤ 1000000 := by
 have h1 := h.n1; have h2 := h.ev
 refine ⟨by rw [g.pl, h.pl], by rw [g.cl]; exact h.vs.closed, by rw [g.cl]; exact h.vs.badLink, by rw [g.amps, tab_length], fun k hk => ?_, by rw [g.cl]; omega⟩
 have := g.snb k hk
 omega
theorem GL.next {M N : Machine} {nn : Bool} (h : GI p s0 b M nn) (g : GL p s0 b M nn N) :
  (nextF (dueM N) p.links.length < 0 ∧ ∀ k, k < p.links.length → dueM N k = none) ∨
  (¬ nextF (dueM N) p.links.length < 0 ∧ (if nextF (dueM N) p.links.length < N.now then N.now else nextF (dueM N) p.links.length) = nextF (dueM N) p.links.length ∧ M.now < nextF (dueM N) p.links.length ∧ nextF (dueM N) p.links.length ≤ M.now + 100000 ∧
   (∃ k, k < p.links.length ∧ dueM N k = some (nextF (dueM N) p.links.length))) := by
 have h0 := h.n0
 rcases nextF_spec (due := dueM N) p.links.length (fun k d hk hd => by have := g.due k hk d hd; omega) with ⟨h1, h2⟩ | ⟨h1, ⟨k, hk, h2⟩, h3⟩
 ·left; exact ⟨by omega, h2⟩
 ·right
  have := g.due k hk _ h2
  exact ⟨by omega, if_neg (by rw [g.now]; omega), this.1, this.2, k, hk, h2⟩
theorem GL.rnd {M N : Machine} {nn : Bool} (h : GI p s0 b M nn) (g : GL p s0 b M nn N) {t : Int} (ht : M.now < t ∧ t ≤ M.now + 100000) {o : List Nat} (ho : o = openN (dueM N) t p.links.length) (hne : ∃ k, k < p.links.length ∧ dueM N k = some t) :
  GI p s0 b (rndM N t o) true ∧ cntB (rndM N t o).clearing.state.closed < cntB M.clearing.state.closed ∧ 0 < o.length := by
 subst ho
 have hmem := fun k => openN_mem (due := dueM N) (next := t) (n := p.links.length) (k := k)
 have hcl := h.vs.closed
 have hok : ∀ k ∈ openN (dueM N) t p.links.length, k < M.clearing.state.closed.length ∧ at' M.clearing.state.closed k = true := by
  intro k hk
  obtain ⟨h1, d, hd, _⟩ := (hmem k).mp hk
  have := (dueO_some hd).2.1
  rw [g.cl] at this
  exact ⟨by omega, this⟩
 have hcnt := cntB_shutF _ M.clearing.state.closed (openN_sorted (dueM N) t p.links.length) hok
 have hpos : 0 < (openN (dueM N) t p.links.length).length := by
  obtain ⟨k, hk, hd⟩ := hne
  exact List.length_pos_of_mem ((hmem k).mpr ⟨hk, t, hd, Int.le_refl _⟩)
 have hcl2 : (rndM N t (openN (dueM N) t p.links.length)).clearing.state.closed = shutF M.clearing.state.closed (openN (dueM N) t p.links.length) := by
  show shutF N.clearing.state.closed _ = _
  rw [g.cl]
 have hst : (rndM N t (openN (dueM N) t p.links.length)).clearing.state = stC M.clearing.state (shutF M.clearing.state.closed (openN (dueM N) t p.links.length)) := by
  show stC N.clearing.state (shutF N.clearing.state.closed _) = _
  rw [g.cl]
 have hev : (rndM N t (openN (dueM N) t p.links.length)).clearing.events = M.clearing.events ++ (openN (dueM N) t p.links.length).map (fun (k : Nat) => (⟨t, (k : Int)⟩ : Event)) := by
  show N.clearing.events ++ _ = _
  rw [g.cl]
 have hn0 := h.n0; have hn1 := h.n1; have hev1 := h.ev
 refine ⟨⟨by rw [show (rndM N t _).p = N.p from rfl, g.pl, h.pl], by rw [show (rndM N t _).bus = N.bus from rfl, g.bus, h.bus], ?_, ?_, rfl, ?_, ?_, ?_, ?_, ?_, ?_, ?_, ?_, ?_⟩, by rw [hcl2]; omega, hpos⟩
 ·rw [hst]; show _ = stC s0 (shutF _ _); rw [h.st]; rfl
 ·rw [hst]
  have hv := h.vs
  refine ⟨by show (shutF _ _).length = _; rw [shutF_length]; exact hv.closed, hv.locked, hv.badLink, hv.on, hv.badSource, hv.earthed, hv.badBus, fun i hi hk => ?_⟩
  have := hv.cable i hi hk
  refine ⟨?_, this.2⟩
  show at' (shutF _ _) i = true
  rw [shutF_at _ _ _ (by omega), this.1]
  have : i ∉ openN (dueM N) t p.links.length := by
   intro hm
   obtain ⟨_, d, hd, _⟩ := (hmem i).mp hm
   have := (dueO_some hd).1
   rw [g.pl, h.pl, hk] at this; cases this
  simp [this]
 ·show N.clearing.cleared = false; rw [g.cl]; exact h.cl
 ·show 0 ≤ t; omega
 ·show t + _ ≤ _; rw [hcl2]; omega
 ·rw [hev, hcl2, List.length_append, List.length_map]; omega
 ·intro e he
  show e.millis ≤ t
  rw [hev, List.mem_append, List.mem_map] at he
  rcases he with he | ⟨k, _, rfl⟩
  ·have := h.evm e he; omega
  ·exact Int.le_refl _
 ·intro _; show N.amps.length = _; rw [g.amps, tab_length]
 ·intro k hk
  show 0 ≤ snc N.since k ∧ snc N.since k ≤ t
  have := g.snb k hk; omega
 ·intro _ k hk d hd
  show t < d
  obtain ⟨c1, c2, c3, c4, c5⟩ := dueO_some hd
  have c2' : at' (shutF M.clearing.state.closed (openN (dueM N) t p.links.length)) k = true := by rw [← hcl2]; exact c2
  rw [shutF_at _ _ _ (by omega), Bool.and_eq_true] at c2'
  have hdN : dueM N k = some d := by
   unfold dueM dueO
   refine (if_pos ⟨c1, by rw [g.cl]; exact c2'.1, ?_, c4⟩).trans (by rw [c5]; rfl)
   exact c3
  by_cases hle : d ≤ t
  ·have := (hmem k).mpr ⟨hk, d, hdN, hle⟩
   have hc := c2'.2
   simp at hc
   exact absurd this hc
  ·omega
 ·intro hf; cases hf
end
end Sg
