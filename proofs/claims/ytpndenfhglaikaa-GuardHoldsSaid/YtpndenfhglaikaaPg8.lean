import Derived.Test.YtpndenfhglaikaaPg7
set_option linter.all false
namespace Sg
open Go
set_option linter.unusedSectionVars false
set_option linter.unusedVariables false
theorem sameTruths_eq (a b : List Bool) (ha : a.length ≤ 9223372036854775807) : m_kit_SameTruths a b = some (decide (a = b)) := by
 unfold m_kit_SameTruths
 by_cases hl : a.length = b.length
 ·have h1 : decide ((a.length : Int) = (b.length : Int)) = true := decide_eq_true (by omega)
  rw [h1]
  simp only [Bool.not_true, cond_false]
  have key : loopO (m_kit_SameTruths_L0 a b) FUEL 0 = some (match (List.range a.length).find? (fun i => !(at' a i == at' b i)) with | some _ => .ret false | none => .brk ()) := by
   refine searchI_run a.length (fun i => !(at' a i == at' b i)) (fun _ => false) ha (fun i hi => ?_) ?_
   ·unfold m_kit_SameTruths_L0
    have h1 : decide ((i : Int) < (a.length : Int)) = true := decide_eq_true (by omega)
    rw [h1, cond_true, asO_pos (by omega), Int.toNat_natCast, wr (by omega)]
    exact bif_some _ _ _
   ·unfold m_kit_SameTruths_L0; simp
  rw [key]
  cases hf : (List.range a.length).find? (fun i => !(at' a i == at' b i)) with
  | none =>
   rw [List.find?_eq_none] at hf
   have : a = b := at_ext hl fun i hi => by
    have := hf i (List.mem_range.mpr hi); simpa using this
   simp [this]
  | some k =>
   have hk := List.mem_of_find?_eq_some hf
   have hp := List.find?_some hf
   have : a ≠ b := by intro e; subst e; simp at hp
   simp [this]
 ·have h1 : decide ((a.length : Int) = (b.length : Int)) = false := decide_eq_false (by omega)
  have h2 : a ≠ b := fun e => hl (by rw [e])
  rw [h1]; simp [h2]
structure SmallS (s : State) : Prop where
 l0 : s.closed.length ≤ 1000000000
 l1 : s.locked.length ≤ 1000000000
 l2 : s.badLink.length ≤ 1000000000
 l3 : s.on_.length ≤ 1000000000
 l4 : s.badSource.length ≤ 1000000000
 l5 : s.earthed.length ≤ 1000000000
 l6 : s.badBus.length ≤ 1000000000
theorem VS.small {p : Plant} {s : State} (hp : VP p) (h : VS p s) : SmallS s := by
 have h1 := hp.ll; have h2 := hp.sl; have h3 := hp.b
 obtain ⟨a1, a2, a3, a4, a5, a6, a7, _⟩ := h
 exact ⟨by omega, by omega, by omega, by omega, by omega, by omega, by omega⟩
theorem sameState_refl (a : State) (h : SmallS a) : m_kit_SameState a a = some true := by
 obtain ⟨h0, h1, h2, h3, h4, h5, h6⟩ := h
 unfold m_kit_SameState
 rw [sameTruths_eq _ _ (by omega), sameTruths_eq _ _ (by omega), sameTruths_eq _ _ (by omega), sameTruths_eq _ _ (by omega), sameTruths_eq _ _ (by omega), sameTruths_eq _ _ (by omega), sameTruths_eq _ _ (by omega)]
 simp [gB]
theorem copyTruths_eq (l : List Bool) (h : l.length ≤ 1000000000) : m_kit_CopyTruths l = some l := by
 unfold m_kit_CopyTruths; rw [asO_pos (by omega)]
theorem copyState_eq (s : State) (h : SmallS s) : m_kit_CopyState s = some s := by
 obtain ⟨h0, h1, h2, h3, h4, h5, h6⟩ := h
 unfold m_kit_CopyState
 rw [copyTruths_eq _ h0, copyTruths_eq _ h1, copyTruths_eq _ h2, copyTruths_eq _ h3, copyTruths_eq _ h4, copyTruths_eq _ h5, copyTruths_eq _ h6]
 rfl
theorem guardCopied_eq (s : State) (h : SmallS s) : m_guard_copied s = some s := by
 obtain ⟨h0, h1, h2, h3, h4, h5, h6⟩ := h
 unfold m_guard_copied
 rw [cloneB_eq _ h0, cloneB_eq _ h1, cloneB_eq _ h2, cloneB_eq _ h3, cloneB_eq _ h4, cloneB_eq _ h5, cloneB_eq _ h6]
 rfl
abbrev MT := (List Event) × Bool × Int × Int × (List Bool) × (List Bool) × (List Bool) × (List Bool) × (List Bool) × (List Bool) × (List Bool) × Int × (List Source) × (List Link) × (List Rack) × Int × Bool × (List Int) × Int × (List (Int × Int)) × Int
def tupM (M : Machine) (nn : Bool) : MT :=
 (M.clearing.events, M.clearing.cleared, M.clearing.millis, M.clearing.energy, M.clearing.state.closed, M.clearing.state.locked, M.clearing.state.badLink, M.clearing.state.on_, M.clearing.state.badSource, M.clearing.state.earthed, M.clearing.state.badBus, M.p.buses, M.p.sources, M.p.links, M.p.racks, M.bus, nn, M.amps, M.total, M.since, M.now)
theorem run_body {M N : Machine} {nn : Bool} (hl : m_guard_machine_look M nn = some (N, true)) (hc : N.clearing = M.clearing) :
  m_guard_machine_run_L0 (tupM M nn) = bif decide (N.total = 0) then some (.done (.ret ((⟨M.clearing.events, true, M.clearing.millis, M.clearing.energy, M.clearing.state⟩ : Clearing), N.since)))
   else (m_guard_machine_round N true).bind fun r => bif r.1 then some (.next (tupM ⟨r.2.1.clearing, r.2.1.p, r.2.1.bus, r.2.1.amps, r.2.1.total, N.since, r.2.1.now⟩ r.2.2)) else some (.done (.ret (r.2.1.clearing, N.since))) := by
 have h : m_guard_machine_run_L0 (tupM M nn) = (m_guard_machine_look M nn).bind fun r_ =>
   bif decide (r_.1.total = 0) then some (.done (.ret ((⟨M.clearing.events, true, r_.1.clearing.millis, r_.1.clearing.energy, r_.1.clearing.state⟩ : Clearing), r_.1.since)))
   else (m_guard_machine_round (⟨(⟨M.clearing.events, r_.1.clearing.cleared, r_.1.clearing.millis, r_.1.clearing.energy, r_.1.clearing.state⟩ : Clearing), r_.1.p, r_.1.bus, r_.1.amps, r_.1.total, r_.1.since, r_.1.now⟩ : Machine) r_.2).bind fun r_1 =>
    bif r_1.1 then some (.next (tupM ⟨r_1.2.1.clearing, r_1.2.1.p, r_1.2.1.bus, r_1.2.1.amps, r_1.2.1.total, r_.1.since, r_1.2.1.now⟩ r_1.2.2)) else some (.done (.ret (r_1.2.1.clearing, r_.1.since))) := rfl
 rw [h, hl, Option.bind_some]
 simp only [← hc]
theorem law_L2 (nn : Bool) (last : List Int) (time : Int) (am : List Int) (ok : Bool) (e : Int) (n : Nat) (hn : n ≤ 1000) (since : List Int) (hs : since.length = n) (ham : am.length = n) (hl : nn = true → last.length = n) :
  loopO (m_law03_GuardHolds_L2 nn last time (am, ok, e)) FUEL (since, 0) = some (.brk (tab n fun k => if nn = true ∧ at' am k ≠ at' last k then time else at' since k)) := by
 have key := loopO_run (body := m_law03_GuardHolds_L2 nn last time (am, ok, e)) (N := FUEL) (fun t => (tab n fun k => if k < t ∧ nn = true ∧ at' am k ≠ at' last k then time else at' since k, (t : Int))) n (.brk (tab n fun k => if nn = true ∧ at' am k ≠ at' last k then time else at' since k)) (fuel_lt (by omega)) (fun t ht => ?_) ?_
 ·have e0 : (tab n fun k => if k < 0 ∧ nn = true ∧ at' am k ≠ at' last k then time else at' since k) = since := by
   rw [tab_congr (g := at' since) (fun i hi => if_neg (by omega)), ← hs, tab_at]
  simp only [e0] at key
  exact key
 ·unfold m_law03_GuardHolds_L2
  have h1 : decide ((t : Int) < (am.length : Int)) = true := decide_eq_true (by omega)
  simp only [h1, cond_true]
  rw [asO_pos ⟨fun _ => by omega, fun h => by
   have : nn = true := by cases nn with | true => rfl | false => simp [gB] at h
   have := hl this; omega⟩, wr (by omega)]
  simp only [Int.toNat_natCast]
  by_cases hc : nn = true ∧ at' am t ≠ at' last t
  ·have : (bif nn then !decide (at' am t = at' last t) else false) = true := by rw [hc.1]; simp [hc.2]
   rw [this, cond_true, asO_pos (by rw [tab_length]; omega), tab_set]
   congr 2
   rw [Prod.mk.injEq]
   refine ⟨tab_congr fun i hi => ?_, rfl⟩
   by_cases e : i = t
   ·subst e; rw [if_pos rfl, if_pos ⟨by omega, hc⟩]
   ·rw [if_neg e]
    by_cases hq : nn = true ∧ at' am i ≠ at' last i
    ·by_cases h2 : i < t
     ·rw [if_pos ⟨h2, hq⟩, if_pos ⟨by omega, hq⟩]
     ·rw [if_neg (fun q => h2 q.1), if_neg (fun q => h2 (by omega))]
    ·rw [if_neg (fun q => hq q.2), if_neg (fun q => hq q.2)]
  ·have : (bif nn then !decide (at' am t = at' last t) else false) = false := by
    cases hnn : nn with
    | false => rfl
    | true =>
     have : at' am t = at' last t := by
      by_cases e : at' am t = at' last t
      ·exact e
      ·exact absurd ⟨hnn, e⟩ hc
     simp [this]
   rw [this, cond_false]
   congr 2
   rw [Prod.mk.injEq]
   refine ⟨tab_congr fun i hi => ?_, rfl⟩
   by_cases e : i = t
   ·subst e; rw [if_neg (fun q => hc q.2), if_neg (fun q => hc q.2)]
   ·by_cases hq : nn = true ∧ at' am i ≠ at' last i
    ·by_cases h2 : i < t
     ·rw [if_pos ⟨h2, hq⟩, if_pos ⟨by omega, hq⟩]
     ·rw [if_neg (fun q => h2 q.1), if_neg (fun q => h2 (by omega))]
    ·rw [if_neg (fun q => hq q.2), if_neg (fun q => hq q.2)]
 ·unfold m_law03_GuardHolds_L2
  have h1 : decide ((n : Int) < (am.length : Int)) = false := decide_eq_false (by omega)
  simp only [h1, cond_false]
  rw [tab_congr (g := fun k => if nn = true ∧ at' am k ≠ at' last k then time else at' since k) fun i hi => ?_]
  by_cases hq : nn = true ∧ at' am i ≠ at' last i
  ·rw [if_pos ⟨hi, hq⟩, if_pos hq]
  ·rw [if_neg (fun q => hq q.2), if_neg hq]
theorem due_isSome {p : Plant} {c bad : List Bool} {amps since : Nat → Int} {k : Nat} :
  (bif bif bif (delayOf (at' p.links k).trip (amps k)).2 then decide ((at' p.links k).kind = 3) else false then at' c k else false then !at' bad k else false) = (dueO p c bad amps since k).isSome := by
 unfold dueO
 by_cases h : (at' p.links k).kind = 3 ∧ at' c k = true ∧ at' bad k = false ∧ (delayOf (at' p.links k).trip (amps k)).2 = true
 ·rw [if_pos h, h.2.1, h.2.2.1, h.2.2.2]; simp [h.1]
 ·rw [if_neg h]
  by_cases h1 : (at' p.links k).kind = 3
  ·cases h2 : at' c k with
   | false => simp
   | true =>
    cases h3 : at' bad k with
    | true => simp
    | false =>
     cases h4 : (delayOf (at' p.links k).trip (amps k)).2 with
     | false => simp
     | true => exact absurd ⟨h1, h2, h3, h4⟩ h
  ·simp [h1]
theorem law_L3 {p : Plant} (hp : VP p) {s : State} (c : List Bool) (hc : c.length = p.links.length) (hb : s.badLink.length = p.links.length) (am : List Int) (ham : am.length = p.links.length) (ok : Bool) (e : Int) (since : Nat → Int) :
  loopO (m_law03_GuardHolds_L3 p s c (am, ok, e)) FUEL (false, 0) = some (.brk ((List.range p.links.length).any fun k => (dueO p c s.badLink (at' am) since k).isSome)) := by
 have hll := hp.ll
 refine loopO_run (fun t => ((List.range t).any fun k => (dueO p c s.badLink (at' am) since k).isSome, (t : Int))) p.links.length _ (fuel_lt (by omega)) (fun t ht => ?_) ?_
 ·unfold m_law03_GuardHolds_L3
  have h1 : decide ((t : Int) < (p.links.length : Int)) = true := decide_eq_true (by omega)
  have hl := (hp.lnk t ht).tl
  simp only [h1, cond_true, Int.toNat_natCast]
  rw [delay_eq _ _ (by omega), Option.bind_some, asO_pos ⟨by omega, by omega⟩, asO_pos ⟨fun _ => by omega, fun _ => by omega, fun _ => by omega⟩, wr (by omega), due_isSome (since := since), List.range_succ, List.any_append]
  simp only [List.any_cons, List.any_nil, Bool.or_false]
  cases (List.range t).any fun k => (dueO p c s.badLink (at' am) since k).isSome <;> rfl
 ·unfold m_law03_GuardHolds_L3
  simp
theorem at_mid {α : Type} [Inhabited α] {A B C : List α} {j : Nat} (h : j < B.length) : at' (A ++ (B ++ C)) (A.length + j) = at' B j := by
 rw [at'_append_right (by omega), show A.length + j - A.length = j by omega, at'_append_left h]
section
variable {p : Plant} (hp : VP p) {s : State} {c : List Bool} (hc : c.length = p.links.length) (hb : s.badLink.length = p.links.length) {am : List Int} (ham : am.length = p.links.length) {sn : List Int} (hsn : sn.length = p.links.length)
 (hsb : ∀ k, k < p.links.length → 0 ≤ at' sn k ∧ at' sn k ≤ 1000000000)
include hp hc hb ham hsn hsb
theorem law_L4 (C : Clearing) (e0 : Int) (ok : Bool) (e : Int) (A R : List Event) (t : Int) (o : List Nat) (ho : o = openN (dueO p c s.badLink (at' am) (at' sn)) t p.links.length) (hE : C.events = A ++ (o.map (fun (k : Nat) => (⟨t, (k : Int)⟩ : Event)) ++ R)) (hA : ∀ e ∈ A, e.millis < t) (hR : ∀ e ∈ R, t < e.millis) (hpos : 0 < o.length) (hlen : C.events.length ≤ 100000) :
  loopO (m_law03_GuardHolds_L4 p (C, e0) s c (A.length : Int) (am, ok, e) sn) FUEL ((A.length : Int), List.replicate p.links.length false) = some (.brk (((A.length + o.length : Nat) : Int), tab p.links.length fun k => o.contains k)) := by
 have hll := hp.ll
 have hlE : C.events.length = A.length + (o.length + R.length) := by rw [hE]; simp
 have hmapl : (o.map (fun (k : Nat) => (⟨t, (k : Int)⟩ : Event))).length = o.length := by simp
 have hev : ∀ j, j < o.length → at' C.events (A.length + j) = ⟨t, ((at' o j : Nat) : Int)⟩ := by
  intro j hj
  rw [hE, at_mid (by simpa using hj), at_get (by simpa using hj), at_get hj]; simp
 have hev0 : (at' C.events A.length).millis = t := by have := hev 0 hpos; rw [Nat.add_zero] at this; rw [this]
 have hinit : List.replicate p.links.length false = tab p.links.length (fun k => (o.take 0).contains k) := by rw [rep_tab]; exact tab_congr fun i hi => by simp
 rw [hinit]
 have key := loopO_run (body := m_law03_GuardHolds_L4 p (C, e0) s c (A.length : Int) (am, ok, e) sn) (N := FUEL) (fun j => (((A.length + j : Nat) : Int), tab p.links.length fun k => (o.take j).contains k)) o.length (.brk (((A.length + o.length : Nat) : Int), tab p.links.length fun k => o.contains k)) (fuel_lt (by omega)) (fun j hj => ?_) ?_
 ·exact key
 ·have hk := at_mem hj
  have hmem : ∀ q, q ∈ o ↔ q < p.links.length ∧ ∃ d, dueO p c s.badLink (at' am) (at' sn) q = some d ∧ d ≤ t := fun q => by rw [ho]; exact openN_mem
  obtain ⟨kl, d, hd, hdt⟩ := (hmem _).mp hk
  obtain ⟨c1, c2, c3, c4, c5⟩ := dueO_some hd
  have hdl := delayOf_le (hp.lnk _ kl) c4
  have hsk := hsb _ kl
  generalize hK : at' o j = k at *
  have hek : at' C.events (A.length + j) = ⟨t, (k : Int)⟩ := by rw [hev j hj, hK]
  unfold m_law03_GuardHolds_L4
  have d1 : decide (((A.length + j : Nat) : Int) < (C.events.length : Int)) = true := decide_eq_true (by omega)
  have d3 : decide ((k : Int) < 0) = false := decide_eq_false (by omega)
  have d4 : decide ((p.links.length : Int) ≤ (k : Int)) = false := decide_eq_false (by omega)
  have hsort : ∀ i, i < j → at' o i < k := by
   intro i hi
   have hs := openN_sorted (dueO p c s.badLink (at' am) (at' sn)) t p.links.length
   rw [← ho, List.pairwise_iff_getElem] at hs
   rw [← hK, at_get hj, at_get (by omega)]
   exact hs i j (by omega) hj hi
  have d5 : at' (tab p.links.length fun q => (o.take j).contains q) k = false := by
   rw [at_tab kl]
   have : k ∉ o.take j := by
    intro hm
    obtain ⟨i, hi, e⟩ := at_of_mem hm
    rw [List.length_take] at hi
    have h2 : at' (o.take j) i = at' o i := by rw [at_get (by rw [List.length_take]; omega), at_get (by omega)]; simp
    have := hsort i (by omega)
    omega
   simp [this]
  have d9 : (bif (bif (decide (0 < ((A.length + j : Nat) : Int))) then (decide (((at' C.events ((IntKind.wrap .i64 (((A.length + j : Nat) : Int) - 1)).toNat)).millis) = t)) else false) then (decide ((k : Int) ≤ ((at' C.events ((IntKind.wrap .i64 (((A.length + j : Nat) : Int) - 1)).toNat)).link))) else false) = false := by
   by_cases h0 : A.length + j = 0
   ·have : decide (0 < ((A.length + j : Nat) : Int)) = false := decide_eq_false (by omega)
    rw [this]; rfl
   ·rw [wr (by omega), show (((A.length + j : Nat) : Int) - 1).toNat = A.length + j - 1 by omega]
    by_cases hj0 : j = 0
    ·subst hj0
     have hlt : A.length - 1 < A.length := by omega
     have : at' C.events (A.length + 0 - 1) ∈ A := by
      rw [Nat.add_zero, hE, at'_append_left hlt]; exact at_mem hlt
     have := hA _ this
     have : decide ((at' C.events (A.length + 0 - 1)).millis = t) = false := decide_eq_false (by omega)
     rw [this]; cases decide (0 < ((A.length + 0 : Nat) : Int)) <;> rfl
    ·rw [show A.length + j - 1 = A.length + (j - 1) by omega, hev (j - 1) (by omega)]
     have := hsort (j - 1) (by omega)
     have : decide ((k : Int) ≤ ((at' o (j - 1) : Nat) : Int)) = false := decide_eq_false (by omega)
     rw [this]
     simp
  have d11 : IntKind.wrap .i64 (at' sn k + (delayOf (at' p.links k).trip (at' am k)).1) = at' sn k + (delayOf (at' p.links k).trip (at' am k)).1 := wr (by omega)
  have d12 : decide (t < at' sn k + (delayOf (at' p.links k).trip (at' am k)).1) = false := decide_eq_false (by omega)
  have hw0 : 0 < A.length + j → 0 ≤ IntKind.wrap .i64 (((A.length + j : Nat) : Int) - 1) ∧ IntKind.wrap .i64 (((A.length + j : Nat) : Int) - 1) < (C.events.length : Int) := fun h => by rw [wr (by omega)]; omega
  have hw1 : ∀ l, gB ((decide (0 < ((A.length + j : Nat) : Int)), true) :: l) = true → 0 ≤ IntKind.wrap .i64 (((A.length + j : Nat) : Int) - 1) ∧ IntKind.wrap .i64 (((A.length + j : Nat) : Int) - 1) < (C.events.length : Int) := fun l h => hw0 (by
   by_cases e : A.length + j = 0
   ·have : decide (0 < ((A.length + j : Nat) : Int)) = false := decide_eq_false (by omega)
    rw [this] at h; simp [gB] at h
   ·omega)
  have hw2 : ∀ x l, gB ((bif decide (0 < ((A.length + j : Nat) : Int)) then x else false, true) :: l) = true → 0 ≤ IntKind.wrap .i64 (((A.length + j : Nat) : Int) - 1) ∧ IntKind.wrap .i64 (((A.length + j : Nat) : Int) - 1) < (C.events.length : Int) := fun x l h => hw0 (by
   by_cases e : A.length + j = 0
   ·have : decide (0 < ((A.length + j : Nat) : Int)) = false := decide_eq_false (by omega)
    rw [this] at h; simp [gB] at h
   ·omega)
  simp only [d1, cond_true, Int.toNat_natCast, hek, hev0, d3, d4, d5, c1, c2, c3, d9, decide_true, Bool.not_true, cond_false]
  rw [asO_pos (fun _ => by omega), asO_pos (by omega), asO_pos ⟨fun _ => by rw [tab_length]; omega, fun _ => by omega, fun _ => by omega, fun _ => by omega, hw1 _, hw2 _ _⟩, delay_eq _ _ (by have := (hp.lnk k kl).tl; omega), Option.bind_some, asO_pos ⟨by omega, by omega⟩, asO_pos (fun _ => by omega)]
  ·simp only [c4, Bool.not_true, cond_false, d11, d12]
   rw [asO_pos (by rw [tab_length]; omega), wr (by omega), tab_set]
   congr 2
   rw [Prod.mk.injEq]
   refine ⟨by omega, tab_congr fun i hi => ?_⟩
   rw [take_succ_at hj, hK]
   by_cases e : i = k
   ·subst e; simp
   ·rw [if_neg e]; simp [e]
 ·unfold m_law03_GuardHolds_L4
  simp only [Int.toNat_natCast, hev0, List.take_length]
  by_cases h : A.length + o.length < C.events.length
  ·have d1 : decide (((A.length + o.length : Nat) : Int) < (C.events.length : Int)) = true := decide_eq_true (by omega)
   have hm : at' C.events (A.length + o.length) ∈ R := by
    have h3 : o.length - (o.map (fun (k : Nat) => (⟨t, (k : Int)⟩ : Event))).length = 0 := by omega
    rw [hE, at'_append_right (by omega), show A.length + o.length - A.length = o.length by omega, at'_append_right (by omega), h3]
    exact at_mem (by omega)
   have := hR _ hm
   have d2 : decide ((at' C.events (A.length + o.length)).millis = t) = false := decide_eq_false (by omega)
   rw [d1, d2, asO_pos (fun _ => by omega)]; rfl
  ·have d1 : decide (((A.length + o.length : Nat) : Int) < (C.events.length : Int)) = false := decide_eq_false (by omega)
   rw [d1, asO_pos (fun h => by simp [gB] at h)]; rfl
theorem law_L5 (C : Clearing) (e0 : Int) (ok : Bool) (e : Int) (i2 : Int) (t : Int) (o : List Nat) (ho : o = openN (dueO p c s.badLink (at' am) (at' sn)) t p.links.length) (ht : (at' C.events i2.toNat).millis = t) :
  loopO (m_law03_GuardHolds_L5 p (C, e0) s c i2 (am, ok, e) sn (tab p.links.length fun k => o.contains k)) FUEL 0 = some (.brk ()) := by
 have hll := hp.ll
 refine loopO_run (fun k => (k : Int)) p.links.length _ (fuel_lt (by omega)) (fun k hk => ?_) ?_
 ·unfold m_law03_GuardHolds_L5
  have h1 : decide ((k : Int) < (p.links.length : Int)) = true := decide_eq_true (by omega)
  simp only [h1, cond_true, Int.toNat_natCast, ht]
  rw [delay_eq _ _ (by have := (hp.lnk k hk).tl; omega), Option.bind_some, asO_pos ⟨by omega, by omega⟩, asO_pos ⟨fun _ => by omega, fun _ => by omega, fun _ => by omega, fun _ => by rw [tab_length]; omega, fun _ => by omega⟩, due_isSome (since := at' sn), at_tab hk, wr (x := (k : Int) + 1) (by omega)]
  cases hd : dueO p c s.badLink (at' am) (at' sn) k with
  | none => rfl
  | some d =>
   obtain ⟨c1, c2, c3, c4, c5⟩ := dueO_some hd
   have hdl := delayOf_le (hp.lnk _ hk) c4
   have hsk := hsb _ hk
   rw [wr (by omega), ← c5]
   by_cases hle : d ≤ t
   ·have : o.contains k = true := by
     have : k ∈ o := ho ▸ openN_mem.mpr ⟨hk, d, hd, hle⟩
     simp [this]
    rw [this]; rfl
   ·have : decide (d ≤ t) = false := decide_eq_false hle
    rw [this]; cases o.contains k <;> rfl
 ·unfold m_law03_GuardHolds_L5
  have h1 : decide ((p.links.length : Int) < (p.links.length : Int)) = false := decide_eq_false (by omega)
  simp only [h1, cond_false]
theorem law_L6 (o : List Nat) : loopO (m_law03_GuardHolds_L6 p (tab p.links.length fun k => o.contains k)) FUEL (c, 0) = some (.brk (shutF c o)) := by
 have hll := hp.ll
 have hfin : shutF c o = tab p.links.length fun k => at' c k && !o.contains k := at_ext (by rw [shutF_length, tab_length, hc]) fun i hi => by
  rw [shutF_length] at hi
  rw [shutF_at _ _ _ hi, at_tab (by omega)]
 rw [hfin]
 have key := loopO_run (body := m_law03_GuardHolds_L6 p (tab p.links.length fun k => o.contains k)) (N := FUEL) (fun t => (tab p.links.length fun k => if k < t then at' c k && !o.contains k else at' c k, (t : Int))) p.links.length (.brk (tab p.links.length fun k => at' c k && !o.contains k)) (fuel_lt (by omega)) (fun t ht => ?_) ?_
 ·have e : (tab p.links.length fun k => if k < 0 then at' c k && !o.contains k else at' c k) = c := by
   rw [tab_congr (g := at' c) (fun i hi => if_neg (by omega)), ← hc, tab_at]
  simp only [e] at key
  exact key
 ·unfold m_law03_GuardHolds_L6
  have h1 : decide ((t : Int) < (p.links.length : Int)) = true := decide_eq_true (by omega)
  simp only [h1, cond_true, Int.toNat_natCast]
  rw [asO_pos ⟨by rw [tab_length]; omega, fun _ => by rw [tab_length]; omega⟩, at_tab ht, at_tab ht, if_neg (by omega), tab_set, wr (by omega)]
  congr 2
  rw [Prod.mk.injEq]
  refine ⟨tab_congr fun i hi => ?_, rfl⟩
  by_cases e : i = t
  ·subst e; rw [if_pos rfl, if_pos (by omega)]; cases at' c i <;> rfl
  ·rw [if_neg e]
   by_cases h : i < t
   ·rw [if_pos h, if_pos (by omega)]
   ·rw [if_neg h, if_neg (by omega)]
 ·unfold m_law03_GuardHolds_L6
  have h1 : decide ((p.links.length : Int) < (p.links.length : Int)) = false := decide_eq_false (by omega)
  simp only [h1, cond_false]
  rw [tab_congr (g := fun k => at' c k && !o.contains k) fun i hi => if_pos hi]
end
end Sg
