import Derived.Test.YtpndenfhglaikaaPg5
set_option linter.all false
namespace Sg
open Go
set_option linter.unusedSectionVars false
def delayOf (l : List Trip) (amps : Int) : Int × Bool := match l.reverse.findIdx? fun t => decide (t.amps ≤ amps) with
 | some k => ((at' l (l.length - 1 - k)).millis, true)
 | none => (0, false)
theorem at_rev {α : Type} [Inhabited α] {l : List α} {k : Nat} (hk : k < l.length) : at' l.reverse k = at' l (l.length - 1 - k) := by
 rw [at_get (by simpa using hk), at_get (by omega), List.getElem_reverse]
theorem delay_eq (x : Link) (amps : Int) (hx : x.trip.length ≤ 9223372036854775807) : m_guard_Delay x amps = some (delayOf x.trip amps) := by
 unfold m_guard_Delay
 rw [wr (by omega)]
 have hstep : ∀ k, k < x.trip.length → decide ((at' x.trip (x.trip.length - 1 - k)).amps ≤ amps) = false → m_guard_Delay_L0 x amps ((x.trip.length : Int) - 1 - (k : Int)) = some (.next ((x.trip.length : Int) - 1 - ((k + 1 : Nat) : Int))) := by
  intro k hk hb
  unfold m_guard_Delay_L0
  have h1 : decide (0 ≤ (x.trip.length : Int) - 1 - (k : Int)) = true := decide_eq_true (by omega)
  have h2 : ((x.trip.length : Int) - 1 - (k : Int)).toNat = x.trip.length - 1 - k := by omega
  rw [h1, cond_true, asO_pos (by omega), h2, hb, cond_false, wr (by omega), show (x.trip.length : Int) - 1 - (k : Int) - 1 = (x.trip.length : Int) - 1 - ((k + 1 : Nat) : Int) by omega]
 cases h : x.trip.reverse.findIdx? fun t => decide (t.amps ≤ amps) with
 | none =>
  have h' := h
  rw [List.findIdx?_eq_none_iff] at h'
  have key : loopO (m_guard_Delay_L0 x amps) FUEL ((x.trip.length : Int) - 1) = some (.brk ()) := by
   have := loopO_run (body := m_guard_Delay_L0 x amps) (N := FUEL) (fun k => (x.trip.length : Int) - 1 - (k : Int)) x.trip.length (.brk ()) (fuel_lt (by omega)) (fun k hk => hstep k hk ?_) ?_
   ·simpa using this
   ·rw [← at_rev hk]; exact h' _ (at_mem (by simpa using hk))
   ·unfold m_guard_Delay_L0
    have h1 : decide (0 ≤ (x.trip.length : Int) - 1 - (x.trip.length : Int)) = false := decide_eq_false (by omega)
    rw [h1]; rfl
  rw [key]
  unfold delayOf; rw [h]; rfl
 | some k =>
  have h' := h
  rw [List.findIdx?_eq_some_iff_getElem] at h'
  obtain ⟨hk, hp, hn⟩ := h'
  rw [List.length_reverse] at hk
  have key : loopO (m_guard_Delay_L0 x amps) FUEL ((x.trip.length : Int) - 1) = some (.ret ((at' x.trip (x.trip.length - 1 - k)).millis, true)) := by
   have := loopO_run (body := m_guard_Delay_L0 x amps) (N := FUEL) (fun k => (x.trip.length : Int) - 1 - (k : Int)) k (.ret ((at' x.trip (x.trip.length - 1 - k)).millis, true)) (fuel_lt (by omega)) (fun j hj => hstep j (by omega) ?_) ?_
   ·simpa using this
   ·have := hn j hj
    rw [← at_rev (by omega), at_get (by simp; omega)]; simpa using this
   ·unfold m_guard_Delay_L0
    have h1 : decide (0 ≤ (x.trip.length : Int) - 1 - (k : Int)) = true := decide_eq_true (by omega)
    have h2 : ((x.trip.length : Int) - 1 - (k : Int)).toNat = x.trip.length - 1 - k := by omega
    have h3 : decide ((at' x.trip (x.trip.length - 1 - k)).amps ≤ amps) = true := by
     rw [← at_rev hk, at_get (by simp; omega)]; exact hp
    rw [h1, cond_true, asO_pos (by omega), h2, h3, cond_true, asO_pos (by omega)]
  rw [key]
  unfold delayOf; rw [h]; rfl
theorem delayOf_mem {l : List Trip} {amps : Int} (h : (delayOf l amps).2 = true) : ∃ k, k < l.length ∧ (delayOf l amps).1 = (at' l k).millis := by
 unfold delayOf at *
 cases e : l.reverse.findIdx? fun t => decide (t.amps ≤ amps) with
 | none => rw [e] at h; cases h
 | some k =>
  rw [List.findIdx?_eq_some_iff_getElem] at e
  obtain ⟨hk, _⟩ := e
  rw [List.length_reverse] at hk
  exact ⟨l.length - 1 - k, by omega, rfl⟩
theorem trip_millis {b : Int} {x : Link} (h : VL b x) {k : Nat} (hk : k < x.trip.length) : 1 ≤ (at' x.trip k).millis ∧ (at' x.trip k).millis ≤ 100000 ∧ 1 ≤ (at' x.trip k).amps ∧ (at' x.trip k).amps ≤ 1000000 := by
 have := h.trip k hk
 simp only [tripBad, Bool.or_eq_false_iff, Bool.not_eq_false', wi_iff] at this
 omega
theorem delayOf_le {b : Int} {x : Link} (hx : VL b x) {amps : Int} (h : (delayOf x.trip amps).2 = true) : 1 ≤ (delayOf x.trip amps).1 ∧ (delayOf x.trip amps).1 ≤ 100000 := by
 obtain ⟨k, hk, e⟩ := delayOf_mem h
 have := trip_millis hx hk
 omega
def totA (l : List Short) : Int := (l.map (·.amps)).sum
theorem totA_take {l : List Short} {k : Nat} (h : k < l.length) : totA (l.take (k + 1)) = totA (l.take k) + (at' l k).amps := by
 unfold totA; rw [take_succ_at h]; simp
theorem totA_le : ∀ (l : List Short), (∀ x ∈ l, 0 ≤ x.amps ∧ x.amps ≤ 1000000) → 0 ≤ totA l ∧ totA l ≤ 1000000 * (l.length : Int)
 | [], _ => by simp [totA]
 | x :: l, h => by
  have h1 := totA_le l fun y hy => h y (List.mem_cons_of_mem _ hy)
  have h2 := h x List.mem_cons_self
  have : totA (x :: l) = x.amps + totA l := by simp [totA]
  rw [this]; simp only [List.length_cons]; omega
theorem sum_loop {ρ : Type} {body : Int × Int → Option (Flow (Int × Int) (Ex Int ρ))} (l : List Short) (hl : l.length ≤ 1000) (ha : ∀ x ∈ l, 0 ≤ x.amps ∧ x.amps ≤ 1000000)
  (hb : ∀ (k : Nat) (t : Int), k < l.length → body (t, (k : Int)) = some (.next (IntKind.wrap .i64 (t + (at' l k).amps), IntKind.wrap .i64 ((k : Int) + 1)))) (he : ∀ t, body (t, (l.length : Int)) = some (.done (.brk t))) :
  loopO body FUEL (0, 0) = some (.brk (totA l)) := by
 refine loopO_run (fun k => (totA (l.take k), (k : Int))) l.length _ (fuel_lt (by omega)) (fun k hk => ?_) ?_
 ·rw [hb k _ hk, totA_take hk]
  have h1 := totA_le (l.take k) fun x hx => ha x (List.mem_of_mem_take hx)
  have h2 := ha _ (at_mem hk)
  have h3 : (l.take k).length ≤ l.length := by rw [List.length_take]; omega
  rw [wr (by omega), wr (by omega)]; rfl
 ·rw [he]; simp
def snc (l : List (Int × Int)) (k : Nat) : Int := (mget eqI (k : Int) l).getD 0
theorem since_loop (M : Machine) (nn : Bool) (r1 : List Int × Bool × Int) (hn : r1.1.length ≤ 1000) (ha : nn = true → M.amps.length = r1.1.length) :
  ∃ sn, loopO (m_guard_machine_look_L1 M nn r1) FUEL (M.since, 0) = some (.brk sn) ∧ ∀ k, k < r1.1.length → snc sn k = if nn = false ∨ at' M.amps k ≠ at' r1.1 k then M.now else snc M.since k := by
 let c (k : Nat) : Prop := nn = false ∨ at' M.amps k ≠ at' r1.1 k
 have hc : ∀ k, Decidable (c k) := fun k => inferInstanceAs (Decidable (_ ∨ _))
 let S : Nat → List (Int × Int) := fun t => Nat.rec M.since (fun k l => if c k then mset eqI (k : Int) M.now l else l) t
 have hS : ∀ k, S (k + 1) = if c k then mset eqI (k : Int) M.now (S k) else S k := fun _ => rfl
 have hg : ∀ t k, snc (S t) k = if k < t ∧ c k then M.now else snc M.since k := by
  intro t
  induction t with
  | zero => intro k; rw [if_neg (by omega)]; rfl
  | succ t ih =>
   intro k
   rw [hS]
   by_cases e : k = t
   ·subst e
    by_cases h : c k
    ·rw [if_pos h, if_pos ⟨by omega, h⟩]; simp [snc, mget_mset_same]
    ·rw [if_neg h, if_neg (fun q => h q.2), ih, if_neg (fun q => h q.2)]
   ·have : snc (if c t then mset eqI (t : Int) M.now (S t) else S t) k = snc (S t) k := by
     by_cases h : c t
     ·rw [if_pos h]; unfold snc; rw [mget_mset_ne (by omega)]
     ·rw [if_neg h]
    rw [this, ih]
    by_cases h : c k
    ·by_cases h2 : k < t
     ·rw [if_pos ⟨h2, h⟩, if_pos ⟨by omega, h⟩]
     ·rw [if_neg (fun q => h2 q.1), if_neg (fun q => h2 (by omega))]
    ·rw [if_neg (fun q => h q.2), if_neg (fun q => h q.2)]
 refine ⟨S r1.1.length, ?_, fun k hk => ?_⟩
 ·refine loopO_run (fun t => (S t, (t : Int))) r1.1.length _ (fuel_lt (by omega)) (fun k hk => ?_) ?_
  ·unfold m_guard_machine_look_L1
   have h1 : decide ((k : Int) < (r1.1.length : Int)) = true := decide_eq_true (by omega)
   simp only [h1, cond_true, Int.toNat_natCast]
   rw [asO_pos (by omega), asO_pos (fun h => by
    have : nn = true := by cases nn with | true => rfl | false => simp [gB] at h
    have := ha this; omega), wr (by omega), hS]
   by_cases h : c k
   ·have : (bif !nn then true else !decide (at' M.amps k = at' r1.1 k)) = true := by
     rcases h with h | h
     ·rw [h]; rfl
     ·cases nn <;> simp [h]
    rw [this, if_pos h]; rfl
   ·have h' : nn = true ∧ at' M.amps k = at' r1.1 k := by
     constructor
     ·cases e : nn with | true => rfl | false => exact absurd (.inl e) h
     ·by_cases e : at' M.amps k = at' r1.1 k
      ·exact e
      ·exact absurd (.inr e) h
    have : (bif !nn then true else !decide (at' M.amps k = at' r1.1 k)) = false := by rw [h'.1, h'.2]; simp
    rw [this, if_neg h]; rfl
  ·unfold m_guard_machine_look_L1
   simp
 ·rw [hg]
  by_cases h : c k
  ·rw [if_pos ⟨hk, h⟩]; exact (if_pos h).symm
  ·rw [if_neg (fun q => h q.2)]; exact (if_neg h).symm
theorem look_eq {p : Plant} {s : State} (hp : VP p) (hs : VS p s) {bus : Nat} (hb : (bus : Int) < p.buses) (M : Machine) (nn : Bool) (e1 : M.p = p) (e2 : M.clearing.state = s) (e3 : M.bus = (bus : Int)) (ha : nn = true → M.amps.length = p.links.length) :
  ∃ sn, m_guard_machine_look M nn = some (⟨M.clearing, M.p, M.bus, tab p.links.length (thrA (shortsOf p s bus)), totA (shortsOf p s bus), sn, M.now⟩, true) ∧
   ∀ k, k < p.links.length → snc sn k = if nn = false ∨ at' M.amps k ≠ thrA (shortsOf p s bus) k then M.now else snc M.since k := by
 unfold m_guard_machine_look
 rw [e1, e2, e3, shorts_eq hp hs hb, Option.bind_some, thr_of_ok hp hs hb, Option.bind_some]
 have hok := shortsOf_ok hp hs hb
 have hlen := shortsOf_len s hp bus
 have hll := hp.ll
 have h1 : loopO (m_guard_machine_look_L0 (shortsOf p s bus, 0)) FUEL (0, 0) = some (.brk (totA (shortsOf p s bus))) := by
  refine sum_loop _ (by omega) (fun x hx => by have := (hok x hx).amps1; omega) (fun k t hk => ?_) (fun t => ?_)
  ·unfold m_guard_machine_look_L0
   have h1 : decide ((k : Int) < ((shortsOf p s bus).length : Int)) = true := decide_eq_true (by omega)
   simp only [h1, cond_true, Int.toNat_natCast]
   rw [asO_pos (by omega)]
  ·unfold m_guard_machine_look_L0
   simp
 rw [h1]
 obtain ⟨sn, h2, h3⟩ := since_loop M nn (tab p.links.length (thrA (shortsOf p s bus)), true, 0) (by simp [tab_length]; omega) (fun h => by simp [tab_length]; exact ha h)
 simp only [tab_length] at h3
 refine ⟨sn, ?_, fun k hk => by rw [h3 k hk, at_tab hk]⟩
 show Option.bind (loopO (m_guard_machine_look_L1 M nn (tab p.links.length (thrA (shortsOf p s bus)), true, 0)) FUEL (M.since, 0)) _ = _
 rw [h2, ← e1, ← e3]; rfl
def dueO (p : Plant) (closed bad : List Bool) (amps : Nat → Int) (since : Nat → Int) (k : Nat) : Option Int :=
 if (at' p.links k).kind = 3 ∧ at' closed k = true ∧ at' bad k = false ∧ (delayOf (at' p.links k).trip (amps k)).2 = true then some (since k + (delayOf (at' p.links k).trip (amps k)).1) else none
def nextF (due : Nat → Option Int) : Nat → Int
 | 0 => -1
 | k + 1 => match due k with
  | some d => if nextF due k < 0 ∨ d < nextF due k then d else nextF due k
  | none => nextF due k
theorem nextF_spec {due : Nat → Option Int} : ∀ n, (∀ k d, k < n → due k = some d → 0 ≤ d) → (nextF due n = -1 ∧ ∀ k, k < n → due k = none) ∨ (0 ≤ nextF due n ∧ (∃ k, k < n ∧ due k = some (nextF due n)) ∧ ∀ k d, k < n → due k = some d → nextF due n ≤ d)
 | 0, _ => .inl ⟨rfl, fun _ h => by omega⟩
 | n + 1, h => by
  have ih := nextF_spec n fun k d hk => h k d (by omega)
  unfold nextF
  cases hd : due n with
  | none =>
   rcases ih with ⟨h1, h2⟩ | ⟨h1, ⟨k, hk, h2⟩, h3⟩
   ·left; exact ⟨h1, fun k hk => by by_cases e : k = n; { subst e; exact hd }; { exact h2 k (by omega) }⟩
   ·right; exact ⟨h1, ⟨k, by omega, h2⟩, fun j d hj hjd => by by_cases e : j = n; { subst e; rw [hd] at hjd; cases hjd }; { exact h3 j d (by omega) hjd }⟩
  | some d =>
   have hd0 := h n d (by omega) hd
   simp only
   rcases ih with ⟨h1, h2⟩ | ⟨h1, ⟨k, hk, h2⟩, h3⟩
   ·right
    rw [if_pos (.inl (by omega))]
    refine ⟨hd0, ⟨n, by omega, hd⟩, fun j d' hj hjd => ?_⟩
    by_cases e : j = n
    ·subst e; rw [hd] at hjd; cases hjd; omega
    ·rw [h2 j (by omega)] at hjd; cases hjd
   ·right
    by_cases hlt : d < nextF due n
    ·rw [if_pos (.inr hlt)]
     refine ⟨hd0, ⟨n, by omega, hd⟩, fun j d' hj hjd => ?_⟩
     by_cases e : j = n
     ·subst e; rw [hd] at hjd; cases hjd; omega
     ·have := h3 j d' (by omega) hjd; omega
    ·rw [if_neg (by omega)]
     refine ⟨h1, ⟨k, by omega, h2⟩, fun j d' hj hjd => ?_⟩
     by_cases e : j = n
     ·subst e; rw [hd] at hjd; cases hjd; omega
     ·exact h3 j d' (by omega) hjd
def openN (due : Nat → Option Int) (next : Int) (n : Nat) : List Nat := (List.range n).filter fun k => match due k with
 | some d => decide (d ≤ next)
 | none => false
theorem openN_mem {due : Nat → Option Int} {next : Int} {n k : Nat} : k ∈ openN due next n ↔ k < n ∧ ∃ d, due k = some d ∧ d ≤ next := by
 unfold openN
 rw [List.mem_filter, List.mem_range]
 cases due k <;> simp
theorem openN_succ {due : Nat → Option Int} {next : Int} {n : Nat} : openN due next (n + 1) = openN due next n ++ (match due n with | some d => if d ≤ next then [n] else [] | none => []) := by
 unfold openN
 rw [List.range_succ, List.filter_append]
 congr 1
 cases h : due n with
 | none => simp [h]
 | some d => by_cases hd : d ≤ next <;> simp [h, hd]
theorem openN_sorted (due : Nat → Option Int) (next : Int) (n : Nat) : (openN due next n).Pairwise (· < ·) := List.Pairwise.filter _ List.pairwise_lt_range
theorem openN_len (due : Nat → Option Int) (next : Int) (n : Nat) : (openN due next n).length ≤ n := by
 have := List.length_filter_le (fun k => match due k with | some d => decide (d ≤ next) | none => false) (List.range n)
 rw [List.length_range] at this; exact this
section
variable {p : Plant} (hp : VP p) {M : Machine} (e1 : M.p = p) (hc : M.clearing.state.closed.length = p.links.length) (hb : M.clearing.state.badLink.length = p.links.length) (ha : M.amps.length = p.links.length) (hs : ∀ k, k < p.links.length → 0 ≤ snc M.since k ∧ snc M.since k ≤ 1000000000)
def dueM (M : Machine) : Nat → Option Int := dueO M.p M.clearing.state.closed M.clearing.state.badLink (at' M.amps) (snc M.since)
include hp e1 hc hb ha hs
theorem armed_turn {σ τ ρ : Type} (k : Nat) (hk : k < p.links.length) (o : σ) (Y : Int → Option τ) (g : σ → Option (Flow (σ × Int) ρ)) (F : τ → Option (Flow (σ × Int) ρ)) (h : ∀ d, dueM M k = some d → ∃ y, Y d = some y ∧ F y = g o)
  (hN : dueM M k = none → g o = some (.next (o, (k : Int) + 1))) :
  (asO ((0 : Int) ≤ (k : Int) ∧ (k : Int) < (M.p.links.length : Int)) (
   asO ((gB [((!decide (((at' M.p.links k).kind) = 3)), false)] = true → (0 : Int) ≤ (k : Int) ∧ (k : Int) < (M.clearing.state.closed.length : Int)) ∧ (gB [((bif (!decide (((at' M.p.links k).kind) = 3)) then true else (!(at' M.clearing.state.closed k))), false)] = true → (0 : Int) ≤ (k : Int) ∧ (k : Int) < (M.clearing.state.badLink.length : Int))) (
   bif (bif (bif (!decide (((at' M.p.links k).kind) = 3)) then true else (!(at' M.clearing.state.closed k))) then true else (at' M.clearing.state.badLink k)) then
   some (.next (o, (IntKind.wrap .i64 ((k : Int) + 1))))
   else
   (m_guard_Delay (at' M.p.links k) (at' M.amps k)).bind fun r_ =>
   asO ((0 : Int) ≤ (k : Int) ∧ (k : Int) < (M.amps.length : Int)) (
   bif r_.2 then
   (Y (IntKind.wrap .i64 (((mget eqI (k : Int) M.since).getD 0) + r_.1))).bind F
   else
   some (.next (o, (IntKind.wrap .i64 ((k : Int) + 1))))))) : Option (Flow (σ × Int) ρ)) = g o := by
 have hll := hp.ll
 have hl := hp.lnk k hk
 rw [← e1] at hk hl hll
 rw [← e1] at hc hb ha hs
 rw [asO_pos (by omega), asO_pos ⟨fun _ => by omega, fun _ => by omega⟩, wr (x := (k : Int) + 1) (by omega)]
 unfold dueM dueO at h hN
 by_cases c1 : (at' M.p.links k).kind = 3
 ·cases c2 : at' M.clearing.state.closed k with
  | false => rw [hN (if_neg (by simp [c2]))]; simp [c1]
  | true =>
   cases c3 : at' M.clearing.state.badLink k with
   | true => rw [hN (if_neg (by simp [c3]))]; simp [c1]
   | false =>
    rw [delay_eq _ _ (by have := hl.tl; omega), Option.bind_some, asO_pos (by omega)]
    simp only [c1, decide_true, Bool.not_true, cond_false]
    cases c4 : (delayOf (at' M.p.links k).trip (at' M.amps k)).2 with
    | false => rw [hN (if_neg (by simp [c4]))]; simp
    | true =>
     obtain ⟨y, hy, hF⟩ := h _ (if_pos ⟨c1, c2, c3, c4⟩)
     have hd := delayOf_le hl c4
     have hsk := hs k hk
     have : IntKind.wrap .i64 (((mget eqI (k : Int) M.since).getD 0) + (delayOf (at' M.p.links k).trip (at' M.amps k)).1) = snc M.since k + (delayOf (at' M.p.links k).trip (at' M.amps k)).1 := by
      show IntKind.wrap .i64 (snc M.since k + _) = _
      exact wr (by omega)
     rw [this, hy]
     simp [hF]
 ·rw [hN (if_neg (fun q => c1 q.1))]
  simp [c1]
theorem armed_min : m_guard_machine_armed_1 (-1) M true = some (nextF (dueM M) p.links.length) := by
 have hll := hp.ll
 unfold m_guard_machine_armed_1
 have key : loopO (m_guard_machine_armed_1_L0 M) FUEL (-1, 0) = some (.brk (nextF (dueM M) p.links.length)) := by
  refine loopO_run (fun k => (nextF (dueM M) k, (k : Int))) p.links.length _ (fuel_lt (by omega)) (fun k hk => ?_) ?_
  ·unfold m_guard_machine_armed_1_L0
   have h1 : decide ((k : Int) < (M.p.links.length : Int)) = true := decide_eq_true (by rw [e1]; omega)
   simp only [h1, cond_true]
   refine armed_turn hp e1 hc hb ha hs k hk (nextF (dueM M) k) (fun d => m_guard_machine_round_r0_Y (k : Int) d (nextF (dueM M) k)) (fun _ => some (.next (nextF (dueM M) (k + 1), ((k + 1 : Nat) : Int)))) _ (fun d hd => ?_) (fun hd => ?_)
   ·refine ⟨nextF (dueM M) (k + 1), ?_, ?_⟩
    ·unfold m_guard_machine_round_r0_Y
     show _ = some (match dueM M k with | some d => if nextF (dueM M) k < 0 ∨ d < nextF (dueM M) k then d else nextF (dueM M) k | none => nextF (dueM M) k)
     rw [hd]
     by_cases g1 : nextF (dueM M) k < 0
     ·simp [g1]
     ·by_cases g2 : d < nextF (dueM M) k <;> simp [g1, g2]
    ·rw [wr (by omega)]; rfl
   ·show some (Flow.next (match dueM M k with | some d => if nextF (dueM M) k < 0 ∨ d < nextF (dueM M) k then d else nextF (dueM M) k | none => nextF (dueM M) k, _)) = _
    rw [hd]; rfl
  ·unfold m_guard_machine_armed_1_L0
   have h1 : decide ((p.links.length : Int) < (M.p.links.length : Int)) = false := decide_eq_false (by rw [e1]; omega)
   simp only [h1, cond_false]
 rw [key]; rfl
theorem armed_open (next : Int) : m_guard_machine_armed_1_v1 next [] M true = some ((openN (dueM M) next p.links.length).map fun (k : Nat) => (k : Int)) := by
 have hll := hp.ll
 unfold m_guard_machine_armed_1_v1
 have key : loopO (m_guard_machine_armed_1_v1_L0 next M) FUEL ([], 0) = some (.brk ((openN (dueM M) next p.links.length).map fun (k : Nat) => (k : Int))) := by
  refine loopO_run (fun k => ((openN (dueM M) next k).map fun (k : Nat) => (k : Int), (k : Int))) p.links.length _ (fuel_lt (by omega)) (fun k hk => ?_) ?_
  ·unfold m_guard_machine_armed_1_v1_L0
   have h1 : decide ((k : Int) < (M.p.links.length : Int)) = true := decide_eq_true (by rw [e1]; omega)
   simp only [h1, cond_true]
   refine armed_turn hp e1 hc hb ha hs k hk ((openN (dueM M) next k).map fun (k : Nat) => (k : Int)) (fun d => m_guard_machine_round_r1_Y (k : Int) d next ((openN (dueM M) next k).map fun (k : Nat) => (k : Int))) (fun _ => some (.next ((openN (dueM M) next (k + 1)).map fun (k : Nat) => (k : Int), ((k + 1 : Nat) : Int)))) _ (fun d hd => ?_) (fun hd => ?_)
   ·refine ⟨(openN (dueM M) next (k + 1)).map fun (k : Nat) => (k : Int), ?_, ?_⟩
    ·unfold m_guard_machine_round_r1_Y
     have hlen := openN_len (dueM M) next k
     rw [openN_succ, hd]
     by_cases g : d ≤ next
     ·simp only [g, decide_true, cond_true, if_true]
      rw [asO_pos (by simp; omega)]; simp
     ·simp [g]
    ·rw [wr (by omega)]; rfl
   ·rw [openN_succ, hd]; simp
  ·unfold m_guard_machine_armed_1_v1_L0
   have h1 : decide ((p.links.length : Int) < (M.p.links.length : Int)) = false := decide_eq_false (by rw [e1]; omega)
   simp only [h1, cond_false]
 rw [key]; rfl
end
def shutF (c : List Bool) (o : List Nat) : List Bool := o.foldl (fun c i => c.set i false) c
theorem shutF_length : ∀ (o : List Nat) (c : List Bool), (shutF c o).length = c.length
 | [], _ => rfl
 | i :: o, c => by show (shutF (c.set i false) o).length = _; rw [shutF_length o]; simp
theorem shutF_at : ∀ (o : List Nat) (c : List Bool) (k : Nat), k < c.length → at' (shutF c o) k = (at' c k && !o.contains k)
 | [], _, _, _ => by simp [shutF]
 | i :: o, c, k, hk => by
  show at' (shutF (c.set i false) o) k = _
  rw [shutF_at o _ k (by simpa using hk)]
  by_cases e : i = k
  ·subst e; rw [at'_set_eq hk]; simp
  ·rw [at'_set_ne e]
   have : (i :: o).contains k = o.contains k := by
    rw [List.contains_cons]
    have : (k == i) = false := by simp; omega
    rw [this]; rfl
   rw [this]
theorem shutF_snoc (c : List Bool) (o : List Nat) (i : Nat) : shutF c (o ++ [i]) = (shutF c o).set i false := by simp [shutF]
def cntB (c : List Bool) : Nat := c.countP id
theorem cntB_set : ∀ (c : List Bool) (i : Nat), i < c.length → at' c i = true → cntB (c.set i false) + 1 = cntB c
 | [], _, h, _ => by simp at h
 | b :: c, 0, _, h => by
  have : b = true := h
  subst this; simp [cntB]
 | b :: c, i + 1, h, hb => by
  have := cntB_set c i (by simpa using h) hb
  simp only [cntB, List.set_cons_succ, List.countP_cons] at this ⊢
  omega
theorem cntB_shutF : ∀ (o : List Nat) (c : List Bool), o.Pairwise (· < ·) → (∀ k ∈ o, k < c.length ∧ at' c k = true) → cntB (shutF c o) + o.length = cntB c
 | [], _, _, _ => by simp [shutF]
 | i :: o, c, hs, h => by
  rw [List.pairwise_cons] at hs
  have h1 := cntB_set c i (h i List.mem_cons_self).1 (h i List.mem_cons_self).2
  have h2 := cntB_shutF o (c.set i false) hs.2 fun k hk => ⟨by simpa using (h k (List.mem_cons_of_mem _ hk)).1, by
   rw [at'_set_ne (by have := hs.1 k hk; omega)]; exact (h k (List.mem_cons_of_mem _ hk)).2⟩
  show cntB (shutF (c.set i false) o) + (o.length + 1) = _
  omega
theorem cntB_le (c : List Bool) : cntB c ≤ c.length := List.countP_le_length
theorem cloneB_eq (l : List Bool) (h : l.length ≤ 1000000000) : m_slices_Clone_a l = some l := by
 unfold m_slices_Clone_a m_slices_Clone
 rw [asO_pos (by simp; omega)]; simp
def enE (tot d : Int) : Int := IntKind.wrap .i64 ((IntKind.wrap .i64 (Int.tdiv (IntKind.wrap .i64 ((IntKind.wrap .i64 (tot * tot)) + 999)) 1000)) * (IntKind.wrap .i64 d))
theorem round_loop (M : Machine) (r1 next : Int) (o : List Nat) (hn : (if r1 < M.now then M.now else r1) = next) (hev : M.clearing.events.length ≤ 1000000) (hol : o.length ≤ 1000000) (c : List Bool) (ho : ∀ k ∈ o, k < c.length) :
  loopO (m_guard_machine_round_L0 M r1 (o.map fun (k : Nat) => (k : Int))) FUEL (M.clearing.events, c, 0) = some (.brk (M.clearing.events ++ o.map (fun (k : Nat) => (⟨next, (k : Int)⟩ : Event)), shutF c o)) := by
 have ll : (o.map fun (k : Nat) => (k : Int)).length = o.length := by simp
 have key := loopO_run (body := m_guard_machine_round_L0 M r1 (o.map fun (k : Nat) => (k : Int))) (N := FUEL) (fun t => (M.clearing.events ++ (o.take t).map (fun (k : Nat) => (⟨next, (k : Int)⟩ : Event)), shutF c (o.take t), (t : Int))) o.length (.brk (M.clearing.events ++ o.map (fun (k : Nat) => (⟨next, (k : Int)⟩ : Event)), shutF c o)) (fuel_lt (by omega)) (fun t ht => ?_) ?_
 ·have : M.clearing.events ++ (o.take 0).map (fun (k : Nat) => (⟨next, (k : Int)⟩ : Event)) = M.clearing.events := by simp
  have e2 : shutF c (o.take 0) = c := rfl
  rw [this, e2] at key
  exact key
 ·unfold m_guard_machine_round_L0
  have h1 : decide ((t : Int) < ((o.map fun (k : Nat) => (k : Int)).length : Int)) = true := decide_eq_true (by rw [ll]; omega)
  have hat : at' (o.map fun (k : Nat) => (k : Int)) t = ((at' o t : Nat) : Int) := by
   rw [at_get (by rw [ll]; exact ht), at_get ht]; simp
  have hlt := ho _ (at_mem ht)
  have hsl := shutF_length (o.take t) c
  have h3 : (o.take t).length ≤ o.length := by rw [List.length_take]; omega
  simp only [h1, cond_true]
  rw [asO_pos (by rw [ll]; omega), asO_pos (by rw [Int.toNat_natCast, hat, hsl]; omega), asO_pos (by simp; omega), Int.toNat_natCast, hat, hn, wr (by omega), take_succ_at ht, shutF_snoc, List.map_append, List.append_assoc]
  rfl
 ·unfold m_guard_machine_round_L0
  have h1 : decide ((o.length : Int) < ((o.map fun (k : Nat) => (k : Int)).length : Int)) = false := decide_eq_false (by rw [ll]; omega)
  simp only [h1, cond_false, List.take_length]
end Sg
