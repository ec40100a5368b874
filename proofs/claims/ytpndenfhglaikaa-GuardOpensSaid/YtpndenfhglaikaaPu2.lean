import Derived.Test.YtpndenfhglaikaaPu1
set_option linter.all false
namespace Sg
open Go
set_option linter.unusedSectionVars false
set_option linter.unusedVariables false
theorem at_app_left {α : Type} [Inhabited α] {l m : List α} {j : Nat} (h : j < l.length) : at' (l ++ m) j = at' l j := by
  rw [at_get (by rw [List.length_append]; omega), at_get h, List.getElem_append_left]
theorem at_app_new {α : Type} [Inhabited α] (l : List α) (x : α) : at' (l ++ [x]) l.length = x := by
  rw [at_get (by simp)]; simp
section
variable {p : Plant} {s : State} (hp : VP p) (hs : VS p s)
include hp hs
theorem cond_body {i : Nat} (hi : i < p.links.length) : m_plant_conducting_1_L0 p.links s.closed s.badLink s.badBus ((ufO p s i).1, (i : Int)) = some (.next ((ufO p s (i + 1)).1, ((i + 1 : Nat) : Int))) := by
  have hl := hp.lnk i hi
  have ha := hl.a; have hb := hl.b; have h1 := hs.closed; have h2 := hs.badLink; have h3 := hs.badBus; have hll := hp.ll
  have hd : decide ((i : Int) < (p.links.length : Int)) = true := decide_eq_true (by omega)
  have hcb : (bif (bif (bif (at' s.closed i) then (!(at' s.badLink i)) else false) then (!(at' s.badBus (((at' p.links i).a).toNat))) else false) then (!(at' s.badBus (((at' p.links i).b).toNat))) else false) = condB p s i := by
    unfold condB
    cases at' s.closed i <;> cases at' s.badLink i <;> cases at' s.badBus (at' p.links i).a.toNat <;> cases at' s.badBus (at' p.links i).b.toNat <;> rfl
  unfold m_plant_conducting_1_L0
  simp only [Int.toNat_natCast]
  rw [hd, cond_true, asO_pos (by omega), hcb]
  cases hc : condB p s i with
  | true =>
    rw [cond_true]
    unfold m_plant_islands_r0_Y
    rw [join_eq hp hi hc]
    simp only [Option.bind_some]
    rw [asO_pos ⟨by omega, fun _ => by omega, fun _ => by omega, fun _ => by omega⟩, wr (by omega)]
    rfl
  | false =>
    rw [cond_false, asO_pos ⟨by omega, fun _ => by omega, fun _ => by omega, fun _ => by omega⟩, wr (by omega)]
    have : ufO p s (i + 1) = ufO p s i := by rw [ufO]; simp [hc]
    rw [this]; rfl
theorem conducting_eq : m_plant_conducting_1 p.buses p.sources p.links p.racks s.closed s.locked s.badLink s.on_ s.badSource s.earthed s.badBus ⟨[]⟩ = some ⟨(ufO p s p.links.length).1⟩ := by
  have hll := hp.ll
  have key : loopO (m_plant_conducting_1_L0 p.links s.closed s.badLink s.badBus) FUEL ((ufO p s 0).1, ((0 : Nat) : Int)) = some (.brk (ufO p s p.links.length).1) := by
    refine loopO_run (fun i => ((ufO p s i).1, (i : Int))) p.links.length _ (fuel_lt (by omega)) (fun i hi => cond_body hp hs hi) ?_
    unfold m_plant_conducting_1_L0
    simp
  show (loopO (m_plant_conducting_1_L0 p.links s.closed s.badLink s.badBus) FUEL ((ufO p s 0).1, ((0 : Nat) : Int))).bind _ = _
  rw [key]; rfl
omit hs
structure II (p : Plant) (s : State) (t n : Nat) (out : List Island) (m : List (Int × Int)) : Prop where
  ix : ∀ h i, mget eqI h m = some i → 0 ≤ i ∧ i < (out.length : Int)
  inj : ∀ h h' i, mget eqI h m = some i → mget eqI h' m = some i → h = h'
  cov : ∀ b : Nat, b < t → at' s.badBus b = false → ∃ j : Nat, mget eqI (headOf p s b) m = some (j : Int) ∧ (b : Int) ∈ (at' out j).buses
  mem : ∀ j, j < out.length → ∀ x ∈ (at' out j).buses, ∃ b : Nat, x = b ∧ b < t ∧ at' s.badBus b = false ∧ mget eqI (headOf p s b) m = some (j : Int)
  src : ∀ j, j < out.length → (at' out j).sources = []
  len : out.length ≤ n
  bl : ∀ j, j < out.length → (at' out j).buses.length ≤ t
omit hp
theorem II.fresh {t n : Nat} {out : List Island} {m : List (Int × Int)} {h0 : Int} (g : II p s t n out m) (hn : mget eqI h0 m = none) : II p s t (n + 1) (out ++ [⟨[], []⟩]) (mset eqI h0 (out.length : Int) m) := by
  have old : ∀ h i, h ≠ h0 → mget eqI h (mset eqI h0 (out.length : Int) m) = some i → mget eqI h m = some i := fun h i e q => by rwa [mget_mset_ne e] at q
  refine ⟨fun h i q => ?_, fun h h' i q q' => ?_, fun b hb hbad => ?_, fun j hj x hx => ?_, fun j hj => ?_, ?_, fun j hj => ?_⟩
  · rw [List.length_append]
    by_cases e : h = h0
    · subst e; rw [mget_mset_same] at q; cases q; simp; omega
    · have := g.ix h i (old h i e q); simp; omega
  · by_cases e : h = h0
    · subst e; rw [mget_mset_same] at q; cases q
      by_cases e' : h' = h
      · exact e'.symm
      · have := g.ix h' _ (old h' _ e' q'); omega
    · by_cases e' : h' = h0
      · subst e'; rw [mget_mset_same] at q'; cases q'
        have := g.ix h _ (old h _ e q); omega
      · exact g.inj h h' i (old h i e q) (old h' i e' q')
  · obtain ⟨j, q, hx⟩ := g.cov b hb hbad
    have e : headOf p s b ≠ h0 := fun e => by rw [e, hn] at q; cases q
    have := g.ix _ _ q
    exact ⟨j, by rw [mget_mset_ne e]; exact q, by rw [at_app_left (by omega)]; exact hx⟩
  · rw [List.length_append] at hj
    by_cases e : j < out.length
    · rw [at_app_left e] at hx
      obtain ⟨b, h1, h2, h3, q⟩ := g.mem j e x hx
      have e : headOf p s b ≠ h0 := fun e => by rw [e, hn] at q; cases q
      exact ⟨b, h1, h2, h3, by rw [mget_mset_ne e]; exact q⟩
    · have : j = out.length := by simp at hj; omega
      subst this
      rw [at_app_new] at hx; simp at hx
  · rw [List.length_append] at hj
    by_cases e : j < out.length
    · rw [at_app_left e]; exact g.src j e
    · have : j = out.length := by simp at hj; omega
      subst this; rw [at_app_new]
  · rw [List.length_append]; have := g.len; simp; omega
  · rw [List.length_append] at hj
    by_cases e : j < out.length
    · rw [at_app_left e]; exact g.bl j e
    · have : j = out.length := by simp at hj; omega
      subst this; rw [at_app_new]; simp
theorem II.add {t n : Nat} {out : List Island} {m : List (Int × Int)} (g : II p s t n out m) (hbad : at' s.badBus t = false) {j : Nat} (hj : mget eqI (headOf p s t) m = some (j : Int)) :
    II p s (t + 1) n (out.set j ⟨(at' out j).buses ++ [(t : Int)], (at' out j).sources⟩) m := by
  have hjl := (g.ix _ _ hj).2
  refine ⟨fun h i q => by rw [List.length_set]; exact g.ix h i q, g.inj, fun b hb hbb => ?_, fun i hi x hx => ?_, fun i hi => ?_, by rw [List.length_set]; exact g.len, fun i hi => ?_⟩
  · by_cases e : b = t
    · subst e
      exact ⟨j, hj, by rw [at'_set_eq (by omega)]; simp⟩
    · obtain ⟨i, q, hx⟩ := g.cov b (by omega) hbb
      refine ⟨i, q, ?_⟩
      by_cases e2 : j = i
      · subst e2; rw [at'_set_eq (by omega)]; simp [hx]
      · rw [at'_set_ne e2]; exact hx
  · rw [List.length_set] at hi
    by_cases e2 : j = i
    · subst e2
      rw [at'_set_eq (by omega)] at hx
      rcases List.mem_append.mp hx with hx | hx
      · obtain ⟨b, h1, h2, h3, q⟩ := g.mem j hi x hx
        exact ⟨b, h1, by omega, h3, q⟩
      · simp at hx
        exact ⟨t, hx, by omega, hbad, hj⟩
    · rw [at'_set_ne e2] at hx
      obtain ⟨b, h1, h2, h3, q⟩ := g.mem i hi x hx
      exact ⟨b, h1, by omega, h3, q⟩
  · rw [List.length_set] at hi
    by_cases e2 : j = i
    · subst e2; rw [at'_set_eq (by omega)]; exact g.src j hi
    · rw [at'_set_ne e2]; exact g.src i hi
  · rw [List.length_set] at hi
    have := g.bl i hi
    by_cases e2 : j = i
    · subst e2; rw [at'_set_eq (by omega)]; simp; omega
    · rw [at'_set_ne e2]; omega
include hp hs
theorem isl_body {t : Nat} (ht : (t : Int) < p.buses) {out : List Island} {m : List (Int × Int)} (g : II p s t t out m) :
    ∃ out' m', m_plant_islands_L0 p s ⟨(ufO p s p.links.length).1⟩ (out, m, (t : Int)) = some (.next (out', m', ((t + 1 : Nat) : Int))) ∧ II p s (t + 1) (t + 1) out' m' := by
  have h3 := hs.badBus; have hb := hp.b
  have hd : decide ((t : Int) < p.buses) = true := decide_eq_true ht
  have hlen := g.len
  unfold m_plant_islands_L0
  simp only [Int.toNat_natCast]
  rw [hd, cond_true, asO_pos (by omega)]
  cases hbad : at' s.badBus t with
  | true =>
    refine ⟨out, m, by rw [cond_true, wr (by omega)]; rfl, g.ix, g.inj, fun b hb' hbb => ?_, fun j hj x hx => ?_, g.src, by omega, fun j hj => ?_⟩
    · have : b ≠ t := fun e => by rw [e, hbad] at hbb; cases hbb
      exact g.cov b (by omega) hbb
    · obtain ⟨b, h1, h2, h3, q⟩ := g.mem j hj x hx
      exact ⟨b, h1, by omega, h3, q⟩
    · have := g.bl j hj; omega
  | false =>
    rw [cond_false, of_head hp, Option.bind_some]
    have eh : (ufO p s p.links.length).2 (t : Int) = headOf p s t := rfl
    rw [eh]
    cases hq : mget eqI (headOf p s t) m with
    | some i =>
      obtain ⟨i0, i1⟩ := g.ix _ _ hq
      obtain ⟨j, rfl⟩ : ∃ j : Nat, i = (j : Int) := ⟨i.toNat, by omega⟩
      have hbl := g.bl j (by omega)
      refine ⟨_, _, ?_, ⟨(g.add hbad hq).ix, g.inj, (g.add hbad hq).cov, (g.add hbad hq).mem, (g.add hbad hq).src, by have := (g.add hbad hq).len; omega, (g.add hbad hq).bl⟩⟩
      simp only [Option.isSome_some, Bool.not_true, cond_false, Option.getD_some, Int.toNat_natCast]
      rw [asO_pos ⟨by omega, by simp; omega, by simp; omega⟩, wr (by omega)]
      rfl
    | none =>
      have g' := g.fresh hq
      have hj : mget eqI (headOf p s t) (mset eqI (headOf p s t) (out.length : Int) m) = some (out.length : Int) := mget_mset_same _ _ _
      have g2 := g'.add hbad hj
      refine ⟨_, _, ?_, g2⟩
      simp only [Option.isSome_none, Bool.not_false, cond_true, hj, Option.getD_some, Int.toNat_natCast, at_app_new]
      rw [asO_pos ⟨by simp; omega, by simp; omega⟩, asO_pos ⟨by simp; omega, by simp⟩, wr (by omega)]
      rfl
theorem isl_L0 : ∀ (d t : Nat) (out : List Island) (m : List (Int × Int)), ((t + d : Nat) : Int) = p.buses → II p s t t out m →
    ∃ out' m', loopO (m_plant_islands_L0 p s ⟨(ufO p s p.links.length).1⟩) (d + 1) (out, m, (t : Int)) = some (.brk (out', m')) ∧ II p s p.buses.toNat p.buses.toNat out' m' := by
  intro d
  induction d with
  | zero =>
    intro t out m ht g
    refine ⟨out, m, ?_, by have : p.buses.toNat = t := by omega
                           rw [this]; exact g⟩
    rw [loopO_succ]
    have hd : decide ((t : Int) < p.buses) = false := decide_eq_false (by omega)
    unfold m_plant_islands_L0
    simp only
    rw [hd]; rfl
  | succ d ih =>
    intro t out m ht g
    obtain ⟨out1, m1, h1, g1⟩ := isl_body hp hs (by omega) g
    obtain ⟨out2, m2, h2, g2⟩ := ih (t + 1) out1 m1 (by omega) g1
    exact ⟨out2, m2, by rw [loopO_succ, h1]; exact h2, g2⟩
structure JJ (p : Plant) (s : State) (m : List (Int × Int)) (o : List Island) (k : Nat) (out : List Island) : Prop where
  len : out.length = o.length
  bus : ∀ j, j < out.length → (at' out j).buses = (at' o j).buses
  src : ∀ j, j < out.length → ((at' out j).sources ≠ [] ↔ ∃ i, i < k ∧ feedB p s i = true ∧ mget eqI (headOf p s (at' p.sources i).bus.toNat) m = some (j : Int))
  sl : ∀ j, j < out.length → (at' out j).sources.length ≤ k
theorem src_body {o : List Island} {m : List (Int × Int)} (g : II p s p.buses.toNat p.buses.toNat o m) {k : Nat} (hk : k < p.sources.length) {out : List Island} (q : JJ p s m o k out) :
    ∃ out', m_plant_islands_L1 p s ⟨(ufO p s p.links.length).1⟩ m (out, (k : Int)) = some (.next (out', ((k + 1 : Nat) : Int))) ∧ JJ p s m o (k + 1) out' := by
  have hl := (hp.src k hk).bus; have h1 := hs.on; have h2 := hs.badSource; have h3 := hs.badBus; have h4 := hp.sl
  have hd : decide ((k : Int) < (p.sources.length : Int)) = true := decide_eq_true (by omega)
  have hcb : (bif (bif (at' s.on_ k) then (!(at' s.badSource k)) else false) then (!(at' s.badBus (((at' p.sources k).bus).toNat))) else false) = feedB p s k := by
    unfold feedB
    cases at' s.on_ k <;> cases at' s.badSource k <;> cases at' s.badBus (at' p.sources k).bus.toNat <;> rfl
  unfold m_plant_islands_L1
  simp only [Int.toNat_natCast]
  rw [hd, cond_true, asO_pos (by omega), asO_pos ⟨by omega, fun _ => by omega, fun _ => by omega⟩, hcb]
  cases hf : feedB p s k with
  | false =>
    refine ⟨out, by rw [cond_false, wr (by omega)]; rfl, q.len, q.bus, fun j hj => ?_, fun j hj => by have := q.sl j hj; omega⟩
    rw [q.src j hj]
    constructor
    · rintro ⟨i, h1, h2, h3⟩; exact ⟨i, by omega, h2, h3⟩
    · rintro ⟨i, h1, h2, h3⟩
      have : i ≠ k := fun e => by rw [e, hf] at h2; cases h2
      exact ⟨i, by omega, h2, h3⟩
  | true =>
    have hbad : at' s.badBus (at' p.sources k).bus.toNat = false := by
      unfold feedB at hf
      revert hf
      cases at' s.badBus (at' p.sources k).bus.toNat <;> simp
    obtain ⟨j, hj, _⟩ := g.cov (at' p.sources k).bus.toNat (by omega) hbad
    have hjl := (g.ix _ _ hj).2
    have hlen := q.len
    have hsl := q.sl j (by omega)
    have eh : (ufO p s p.links.length).2 (at' p.sources k).bus = headOf p s (at' p.sources k).bus.toNat := by unfold headOf; rw [Int.toNat_of_nonneg (by omega)]
    rw [cond_true, of_head hp, Option.bind_some, eh, hj]
    simp only [Option.getD_some, Int.toNat_natCast]
    rw [asO_pos ⟨by omega, by simp; omega, by simp; omega⟩, wr (by omega)]
    refine ⟨_, rfl, by rw [List.length_set]; exact q.len, fun i hi => ?_, fun i hi => ?_, fun i hi => ?_⟩
    · rw [List.length_set] at hi
      by_cases e : j = i
      · subst e; rw [at'_set_eq (by omega)]; exact q.bus j hi
      · rw [at'_set_ne e]; exact q.bus i hi
    · rw [List.length_set] at hi
      by_cases e : j = i
      · subst e; rw [at'_set_eq (by omega)]
        simp only [ne_eq, List.append_eq_nil_iff, List.cons_ne_nil, and_false, not_false_eq_true, true_iff]
        exact ⟨k, by omega, hf, hj⟩
      · rw [at'_set_ne e, q.src i hi]
        constructor
        · rintro ⟨i', h1, h2, h3⟩; exact ⟨i', by omega, h2, h3⟩
        · rintro ⟨i', h1, h2, h3⟩
          have : i' ≠ k := fun e' => by
            rw [e', hj] at h3
            have := Option.some.inj h3
            omega
          exact ⟨i', by omega, h2, h3⟩
    · rw [List.length_set] at hi
      have := q.sl i hi
      by_cases e : j = i
      · subst e; rw [at'_set_eq (by omega)]; simp; omega
      · rw [at'_set_ne e]; omega
theorem src_L1 {o : List Island} {m : List (Int × Int)} (g : II p s p.buses.toNat p.buses.toNat o m) : ∀ (d k : Nat) (out : List Island), k + d = p.sources.length → JJ p s m o k out →
    ∃ out', loopO (m_plant_islands_L1 p s ⟨(ufO p s p.links.length).1⟩ m) (d + 1) (out, (k : Int)) = some (.brk out') ∧ JJ p s m o p.sources.length out' := by
  intro d
  induction d with
  | zero =>
    intro k out hk q
    refine ⟨out, ?_, by have : p.sources.length = k := by omega
                        rw [this]; exact q⟩
    rw [loopO_succ]
    have hd : decide ((k : Int) < (p.sources.length : Int)) = false := decide_eq_false (by omega)
    unfold m_plant_islands_L1
    simp only
    rw [hd]; rfl
  | succ d ih =>
    intro k out hk q
    obtain ⟨out1, h1, q1⟩ := src_body hp hs g (by omega) q
    obtain ⟨out2, h2, q2⟩ := ih (k + 1) out1 (by omega) q1
    exact ⟨out2, by rw [loopO_succ, h1]; exact h2, q2⟩
theorem islands_eq : ∃ out o m, m_plant_islands p s = some out ∧ II p s p.buses.toNat p.buses.toNat o m ∧ JJ p s m o p.sources.length out := by
  have hb := hp.b; have h4 := hp.sl
  obtain ⟨o, m, h1, g⟩ := isl_L0 hp hs p.buses.toNat 0 [] [] (by omega) ⟨fun h i q => by simp [mget] at q, fun h h' i q => by simp [mget] at q, fun b hb => absurd hb (Nat.not_lt_zero _), fun j hj => by simp at hj, fun j hj => by simp at hj, Nat.le_refl _, fun j hj => by simp at hj⟩
  obtain ⟨out, h2, q⟩ := src_L1 hp hs g p.sources.length 0 o (by omega) ⟨rfl, fun _ _ => rfl, fun j hj => by rw [g.src j hj]; simp, fun j hj => by rw [g.src j hj]; simp⟩
  refine ⟨out, o, m, ?_, g, q⟩
  unfold m_plant_islands
  simp only [m_plant_conducting, Option.bind_some]
  rw [conducting_eq hp hs, Option.bind_some]
  have e1 : loopO (m_plant_islands_L0 p s ⟨(ufO p s p.links.length).1⟩) FUEL (([] : List Island), ([] : List (Int × Int)), 0) = some (.brk (o, m)) := loopO_more h1 (by unfold FUEL; omega)
  have e2 : loopO (m_plant_islands_L1 p s ⟨(ufO p s p.links.length).1⟩ m) FUEL (o, 0) = some (.brk out) := loopO_more h2 (by unfold FUEL; omega)
  rw [e1]
  simp only [Option.bind_some]
  rw [e2]
  rfl
end
end Sg
