import Derived.Test.YtpndenfhglaikaaPg4
set_option linter.all false
namespace Sg
open Go
def tab {α : Type} (n : Nat) (f : Nat → α) : List α := (List.range n).map f
set_option linter.unusedSectionVars false
section
variable {α : Type} [Inhabited α]
theorem tab_length (n : Nat) (f : Nat → α) : (tab n f).length = n := by simp [tab]
theorem at_tab {n : Nat} {f : Nat → α} {i : Nat} (h : i < n) : at' (tab n f) i = f i := by
 rw [at_get (by rw [tab_length]; exact h)]; simp [tab]
theorem tab_congr {n : Nat} {f g : Nat → α} (h : ∀ i, i < n → f i = g i) : tab n f = tab n g := by
 unfold tab; exact List.map_congr_left fun i hi => h i (List.mem_range.mp hi)
theorem tab_set {n : Nat} {f : Nat → α} {t : Nat} {v : α} : (tab n f).set t v = tab n (fun k => if k = t then v else f k) := by
 apply at_ext (by simp [tab_length])
 intro i hi
 simp only [List.length_set, tab_length] at hi
 rw [at_tab hi]
 by_cases e : t = i
 ·subst e; rw [at'_set_eq (by rw [tab_length]; exact hi), if_pos rfl]
 ·rw [at'_set_ne e, at_tab hi, if_neg (Ne.symm e)]
theorem tab_at (l : List α) : tab l.length (at' l) = l := at_ext (tab_length _ _) fun i hi => at_tab (by rwa [tab_length] at hi)
theorem rep_tab (n : Nat) (x : α) : List.replicate n x = tab n (fun _ => x) := at_ext (by simp [tab_length]) fun i hi => by
 rw [List.length_replicate] at hi; rw [at'_replicate hi, at_tab hi]
end
def waysOf (p : Plant) (s : State) (b : Nat) : List Way := (m_flow_ways p s (b : Int)).getD []
theorem ways_of {p : Plant} {s : State} (hp : VP p) (hs : VS p s) {b : Nat} (hb : (b : Int) < p.buses) : m_flow_ways p s (b : Int) = some (waysOf p s b) ∧ WFin p s b (waysOf p s b) := by
 obtain ⟨out, h1, h2⟩ := ways_eq hp hs hb
 unfold waysOf
 rw [h1]; exact ⟨rfl, h2⟩
def shortAt (p : Plant) (s : State) (bus k : Nat) : List Short :=
 if at' s.badBus bus || !feedB p s k then [] else
 let w := at' (waysOf p s (at' p.sources k).bus.toNat) bus
 if w.there then [⟨(k : Int), (at' p.sources k).ohm + w.ohm, Int.tdiv (400000 + ((at' p.sources k).ohm + w.ohm) - 1) ((at' p.sources k).ohm + w.ohm), w.links⟩] else []
def shortsOf (p : Plant) (s : State) (bus : Nat) : List Short := (List.range p.sources.length).flatMap (shortAt p s bus)
theorem Wk.mem {p : Plant} {s : State} {b : Nat} : ∀ {l v}, Wk p s b l v → ∀ i ∈ l, 0 ≤ i ∧ i < (p.links.length : Int) := by
 intro l v h
 induction h with
 | nil => simp
 | snoc h hi _ _ ih =>
  intro j hj
  rcases List.mem_append.mp hj with hj | hj
  ·exact ih j hj
  ·simp at hj; subst hj; omega
structure ShOk (p : Plant) (x : Short) : Prop where
 source : 0 ≤ x.source ∧ x.source < (p.sources.length : Int)
 ohm : 10 ≤ x.ohm ∧ x.ohm ≤ 2500000
 amps : x.amps = Int.tdiv (400000 + x.ohm - 1) x.ohm
 amps1 : 1 ≤ x.amps ∧ x.amps ≤ 40001
 links : ∀ i ∈ x.links, 0 ≤ i ∧ i < (p.links.length : Int)
 ll : x.links.length ≤ 240000
theorem shortAt_ok {p : Plant} {s : State} (hp : VP p) (hs : VS p s) {bus k : Nat} (hb : (bus : Int) < p.buses) (hk : k < p.sources.length) : ∀ x ∈ shortAt p s bus k, ShOk p x := by
 intro x hx
 unfold shortAt at hx
 split at hx
 ·simp at hx
 ·have hsrc := hp.src k hk
  have h1 := hsrc.bus
  obtain ⟨_, hw⟩ := ways_of hp hs (b := (at' p.sources k).bus.toNat) (by omega)
  have hlen := hw.inv.len
  simp only at hx
  split at hx
  ·rename_i ht
   simp only [List.mem_singleton] at hx
   subst hx
   obtain ⟨o1, o2, o3⟩ := hw.inv.ohm hp (v := bus) (by omega) ht
   have ho := hsrc.ohm
   obtain ⟨w1, _, _⟩ := hw.inv.wk bus (by omega) ht
   generalize hq : (at' p.sources k).ohm + (at' (waysOf p s (at' p.sources k).bus.toNat) bus).ohm = q
   have hq1 : 10 ≤ q ∧ q ≤ 2500000 := by omega
   refine ⟨by simp; omega, hq1, rfl, ?_, w1.mem, o3⟩
   simp only
   rw [Int.tdiv_eq_ediv_of_nonneg (by omega)]
   constructor
   ·exact Int.le_ediv_of_mul_le (by omega) (by omega)
   ·have := Int.ediv_mul_le (400000 + q - 1) (b := q) (by omega)
    have h3 : (400000 + q - 1) / q ≤ 40000 + 1 := by
     apply Int.ediv_le_of_le_mul (by omega)
     omega
    omega
  ·simp at hx
theorem shortsOf_ok {p : Plant} {s : State} (hp : VP p) (hs : VS p s) {bus : Nat} (hb : (bus : Int) < p.buses) : ∀ x ∈ shortsOf p s bus, ShOk p x := by
 intro x hx
 obtain ⟨k, hk, hx⟩ := List.mem_flatMap.mp hx
 exact shortAt_ok hp hs hb (List.mem_range.mp hk) x hx
theorem shortAt_len (p : Plant) (s : State) (bus k : Nat) : (shortAt p s bus k).length ≤ 1 := by
 unfold shortAt; split
 ·simp
 ·simp only; split <;> simp
theorem range_flat {α : Type} (f : Nat → List α) (n : Nat) : (List.range (n + 1)).flatMap f = (List.range n).flatMap f ++ f n := by
 rw [List.range_succ, List.flatMap_append]; simp
theorem flat_len {α : Type} (f : Nat → List α) (h : ∀ k, (f k).length ≤ 1) : ∀ n, ((List.range n).flatMap f).length ≤ n
 | 0 => by simp
 | n + 1 => by rw [range_flat, List.length_append]; have := flat_len f h n; have := h n; omega
theorem shortsOf_len {p : Plant} (s : State) (hp : VP p) (bus : Nat) : (shortsOf p s bus).length ≤ 8 := by
 have := flat_len (shortAt p s bus) (shortAt_len p s bus) p.sources.length
 have := hp.sl
 unfold shortsOf; omega
theorem shorts_eq {p : Plant} {s : State} (hp : VP p) (hs : VS p s) {bus : Nat} (hb : (bus : Int) < p.buses) : m_flow_Shorts p s (bus : Int) = some (shortsOf p s bus, 0) := by
 unfold m_flow_Shorts
 have h0 : stateE p s = 0 := stateE_zero.mpr ⟨hp, hs⟩
 have hsl := hp.sl
 have hbb := hs.badBus
 rw [checkState_eq p s hp.small, h0, Option.bind_some]
 have h1 : decide ((bus : Int) < 0) = false := decide_eq_false (by omega)
 have h2 : decide (p.buses ≤ (bus : Int)) = false := decide_eq_false (by omega)
 rw [h1, h2]
 simp only [decide_true, Bool.not_true, cond_false]
 have key : loopO (m_flow_Shorts_L0 p s (bus : Int)) FUEL (([] : List Short), 0) = some (.brk (shortsOf p s bus)) := by
  refine loopO_run (fun t => ((List.range t).flatMap (shortAt p s bus), (t : Int))) p.sources.length _ (fuel_lt (by omega)) (fun k hk => ?_) ?_
  ·have hl := flat_len (shortAt p s bus) (shortAt_len p s bus) k
   have h1 : decide ((k : Int) < (p.sources.length : Int)) = true := by simp; omega
   have hsrc := hp.src k hk
   have hsb := hsrc.bus
   have hso := hsrc.ohm
   obtain ⟨hw1, hw2⟩ := ways_of hp hs (b := (at' p.sources k).bus.toNat) (by omega)
   have hbc : (((at' p.sources k).bus.toNat : Nat) : Int) = (at' p.sources k).bus := by omega
   rw [hbc] at hw1
   have hwl := hw2.inv.len
   unfold m_flow_Shorts_L0
   simp only [h1, cond_true, Int.toNat_natCast]
   rw [asO_pos (by omega), flowFeeds_eq hp hs hk, hw1, wr (x := (k : Int) + 1) (by omega), range_flat]
   generalize (List.range k).flatMap (shortAt p s bus) = out at hl ⊢
   unfold shortAt
   cases hbad : at' s.badBus bus with
   | true => simp [gB, asO]; omega
   | false =>
    cases hfd : feedB p s k with
    | false => simp [gB, asO]; omega
    | true =>
     simp only [gB, beq_self_eq_true, Bool.and_true, cond_true, Option.bind_some, Bool.not_true, cond_false, Bool.or_false, Bool.false_eq_true, if_false]
     rw [asO_pos (by omega), asO_pos (by omega)]
     cases ht : (at' (waysOf p s (at' p.sources k).bus.toNat) bus).there with
     | false => simp
     | true =>
      obtain ⟨o1, o2, o3⟩ := hw2.inv.ohm hp (v := bus) (by omega) ht
      simp only [cond_true, if_true]
      obtain ⟨q, hq⟩ : ∃ q, q = (at' p.sources k).ohm + (at' (waysOf p s (at' p.sources k).bus.toNat) bus).ohm := ⟨_, rfl⟩
      have e1 : IntKind.wrap .i64 ((at' p.sources k).ohm + (at' (waysOf p s (at' p.sources k).bus.toNat) bus).ohm) = q := by rw [hq]; exact wr (by omega)
      have e2 : IntKind.wrap .i64 (400000 + q) = 400000 + q := wr (by omega)
      have e3 : IntKind.wrap .i64 (400000 + q - 1) = 400000 + q - 1 := wr (by omega)
      have hd : 0 ≤ Int.tdiv (400000 + q - 1) q ∧ Int.tdiv (400000 + q - 1) q ≤ 2900000 := by
       rw [Int.tdiv_eq_ediv_of_nonneg (by omega)]
       exact ⟨Int.ediv_nonneg (by omega) (by omega), Int.le_trans (Int.ediv_le_self _ (by omega)) (by omega)⟩
      have e4 : IntKind.wrap .i64 (Int.tdiv (400000 + q - 1) q) = Int.tdiv (400000 + q - 1) q := wr (by omega)
      rw [asO_pos ⟨by rw [e1]; omega, by simp; omega, by simp; omega⟩, e1, e2, e3, e4, ← hq]
      rfl
  ·unfold m_flow_Shorts_L0; simp [shortsOf]
 rw [key]; rfl
def thrA (l : List Short) (k : Nat) : Int := (l.map fun x => if x.links.contains (k : Int) then x.amps else 0).sum
theorem thrA_snoc (l : List Short) (x : Short) (k : Nat) : thrA (l ++ [x]) k = thrA l k + if x.links.contains (k : Int) then x.amps else 0 := by simp [thrA]
def badSh (n : Nat) (x : Short) : Bool := decide (x.amps < 0) || decide (1000000 < x.amps) || x.links.any fun i => decide (i < 0) || decide ((n : Int) ≤ i)
theorem thrA_le : ∀ (l : List Short) (k : Nat), (∀ x ∈ l, 0 ≤ x.amps ∧ x.amps ≤ 1000000) → 0 ≤ thrA l k ∧ thrA l k ≤ 1000000 * (l.length : Int)
 | [], _, _ => by simp [thrA]
 | x :: l, k, h => by
  have h1 := thrA_le l k fun y hy => h y (List.mem_cons_of_mem _ hy)
  have h2 := h x List.mem_cons_self
  have : thrA (x :: l) k = (if x.links.contains (k : Int) then x.amps else 0) + thrA l k := by simp [thrA]
  rw [this]
  simp only [List.length_cons]
  split <;> omega
theorem contains_eq (l : List Int) (v : Int) (hl : l.length ≤ 9223372036854775807) : m_slices_Contains l v = some (l.contains v) := by
 unfold m_slices_Contains m_slices_Index
 rw [search_run l (fun x => decide (v = x)) id hl (fun i hi => ?_) ?_]
 ·have h1 : l.contains v = l.any (fun x => decide (v = x)) := by
   rw [List.contains_eq_any_beq]; rfl
  rw [h1, ← findIdx_any]; cases l.findIdx? fun x => decide (v = x) <;> rfl
 ·unfold m_slices_Index_L0; simp
 ·unfold m_slices_Index_L0
  have h1 : decide ((i : Int) < (l.length : Int)) = true := by simp; omega
  rw [h1, cond_true, asO_pos (by omega), Int.toNat_natCast, wr (by omega)]
  exact bif_some _ _ _
theorem containsF_eq (l : List Int) (o : List Int) (hl : l.length ≤ 9223372036854775807) : m_slices_ContainsFunc67 l o = some (l.any fun i => decide (i < 0) || decide ((o.length : Int) ≤ i)) := by
 unfold m_slices_ContainsFunc67 m_slices_IndexFunc113
 rw [search_run l (fun i => decide (i < 0) || decide ((o.length : Int) ≤ i)) id hl (fun i hi => ?_) ?_]
 ·rw [← findIdx_any]; cases l.findIdx? fun i => decide (i < 0) || decide ((o.length : Int) ≤ i) <;> rfl
 ·unfold m_slices_IndexFunc113_L0; simp
 ·unfold m_slices_IndexFunc113_L0 m_flow_Through_1
  rw [Int.toNat_natCast]
  have e : (bif decide (at' l i < 0) then true else decide ((o.length : Int) ≤ at' l i)) = (decide (at' l i < 0) || decide ((o.length : Int) ≤ at' l i)) := by cases decide (at' l i < 0) <;> rfl
  rw [e]
  exact search_step hi hl _ id _
theorem through_L1 (l : List Short) (n t : Nat) (f : Nat → Int) (hn : n ≤ 1000) (hl : (at' l t).links.length ≤ 9223372036854775807) (ha : 0 ≤ (at' l t).amps ∧ (at' l t).amps ≤ 1000000) (hf : ∀ k, k < n → 0 ≤ f k ∧ f k ≤ 1000000000000) :
  loopO (m_flow_Through_L1 l (tab n f) (t : Int)) FUEL (tab n f, 0) = some (.brk (tab n fun k => f k + if (at' l t).links.contains (k : Int) then (at' l t).amps else 0)) := by
 have key := loopO_run (body := m_flow_Through_L1 l (tab n f) (t : Int)) (N := FUEL) (fun j => (tab n (fun k => f k + if k < j ∧ (at' l t).links.contains (k : Int) then (at' l t).amps else 0), (j : Int))) n (.brk (tab n fun k => f k + if (at' l t).links.contains (k : Int) then (at' l t).amps else 0)) (fuel_lt (by omega)) (fun j hj => ?_) ?_
 ·have e : (tab n (fun k => f k + if k < 0 ∧ (at' l t).links.contains (k : Int) then (at' l t).amps else 0)) = tab n f := tab_congr fun i hi => by simp
  simp only [e] at key
  exact key
 ·unfold m_flow_Through_L1
  have h1 : decide ((j : Int) < ((tab n f).length : Int)) = true := by rw [tab_length]; simp; omega
  simp only [h1, cond_true, Int.toNat_natCast]
  rw [contains_eq _ _ hl, Option.bind_some, wr (x := (j : Int) + 1) (by omega)]
  cases hc : (at' l t).links.contains (j : Int) with
  | false =>
   simp only [cond_false]
   have : (tab n fun k => f k + if k < j ∧ (at' l t).links.contains (k : Int) = true then (at' l t).amps else 0) = (tab n fun k => f k + if k < j + 1 ∧ (at' l t).links.contains (k : Int) = true then (at' l t).amps else 0) := by
    refine tab_congr fun i hi => ?_
    by_cases e : i = j
    ·subst e; rw [if_neg (by omega), if_neg (by rw [hc]; simp)]
    ·congr 1
     by_cases h : (at' l t).links.contains (i : Int) = true
     ·by_cases h2 : i < j
      ·rw [if_pos ⟨h2, h⟩, if_pos ⟨by omega, h⟩]
      ·rw [if_neg (fun q => h2 q.1), if_neg (fun q => h2 (by omega))]
     ·rw [if_neg (fun q => h q.2), if_neg (fun q => h q.2)]
   rw [this]; rfl
  | true =>
   simp only [cond_true]
   have hfj := hf j hj
   rw [asO_pos (by rw [tab_length]; omega), at_tab hj, if_neg (by omega), wr (by omega), tab_set]
   have : (tab n fun k => if k = j then f j + 0 + (at' l t).amps else f k + if k < j ∧ (at' l t).links.contains (k : Int) = true then (at' l t).amps else 0) = (tab n fun k => f k + if k < j + 1 ∧ (at' l t).links.contains (k : Int) = true then (at' l t).amps else 0) := by
    refine tab_congr fun i hi => ?_
    by_cases e : i = j
    ·subst e; rw [if_pos rfl, if_pos ⟨by omega, hc⟩]; omega
    ·rw [if_neg e]; congr 1
     by_cases h : (at' l t).links.contains (i : Int) = true
     ·by_cases h2 : i < j
      ·rw [if_pos ⟨h2, h⟩, if_pos ⟨by omega, h⟩]
      ·rw [if_neg (fun q => h2 q.1), if_neg (fun q => h2 (by omega))]
     ·rw [if_neg (fun q => h q.2), if_neg (fun q => h q.2)]
   rw [this]; rfl
 ·unfold m_flow_Through_L1
  have h1 : decide ((n : Int) < ((tab n f).length : Int)) = false := by rw [tab_length]; simp
  simp only [h1, cond_false]
  rw [tab_congr (g := fun k => f k + if (at' l t).links.contains (k : Int) then (at' l t).amps else 0) fun i hi => ?_]
  congr 1
  by_cases h : (at' l t).links.contains (i : Int) = true
  ·rw [if_pos ⟨hi, h⟩, if_pos h]
  ·rw [if_neg (fun q => h q.2), if_neg h]
def throughE (p : Plant) (l : List Short) : List Int × Bool × Int :=
 if checkE p ≠ 0 then ([], false, checkE p) else if l.length > 8 then ([], false, 1) else if l.any (badSh p.links.length) then ([], false, 1) else (tab p.links.length (thrA l), true, 0)
theorem through_eq {p : Plant} {l : List Short} (hp : Small p) (hl : ∀ x ∈ l, x.links.length ≤ 9223372036854775807) : m_flow_Through p l = some (throughE p l) := by
 unfold m_flow_Through throughE
 rw [check_eq p hp, Option.bind_some]
 by_cases hc : checkE p = 0
 ·have hv := checkE_zero.mp hc
  have hll := hv.ll
  rw [hc]
  simp only [decide_true, Bool.not_true, cond_false, ne_eq, not_true_eq_false, if_false]
  by_cases h8 : l.length > 8
  ·have : decide (8 < (l.length : Int)) = true := by simp; omega
   rw [this, if_pos h8]; rfl
  ·have : decide (8 < (l.length : Int)) = false := by simp; omega
   rw [this, if_neg h8, cond_false, asO_pos (by omega), Int.toNat_natCast]
   generalize hn : p.links.length = n at *
   have hstep : ∀ t, t < l.length → (∀ x ∈ l.take (t + 1), badSh n x = false) → m_flow_Through_L0 l (tab n (thrA (l.take t)), (t : Int)) = some (.next (tab n (thrA (l.take (t + 1))), ((t + 1 : Nat) : Int))) := by
    intro t ht hgood
    have hb : badSh n (at' l t) = false := hgood _ (by rw [take_succ_at ht]; simp)
    have hprev : ∀ x ∈ l.take t, 0 ≤ x.amps ∧ x.amps ≤ 1000000 := by
     intro x hx
     have := hgood x (by rw [take_succ_at ht]; exact List.mem_append_left _ hx)
     simp only [badSh, Bool.or_eq_false_iff, decide_eq_false_iff_not] at this
     omega
    have hb' := hb
    simp only [badSh, Bool.or_eq_false_iff, decide_eq_false_iff_not] at hb
    unfold m_flow_Through_L0
    have h1 : decide ((t : Int) < (l.length : Int)) = true := by simp; omega
    simp only [h1, cond_true, Int.toNat_natCast]
    have d1 : decide ((at' l t).amps < 0) = false := by simp; omega
    have d2 : decide (1000000 < (at' l t).amps) = false := by simp; omega
    rw [asO_pos (by omega), containsF_eq _ _ (hl _ (at_mem ht)), tab_length, hb.2, d1, d2]
    simp only [gB, cond_false, beq_self_eq_true, Bool.and_true, cond_true, Option.bind_some]
    rw [through_L1 l n t _ (by omega) (hl _ (at_mem ht)) (by omega) (fun k hk => by have := thrA_le (l.take t) k hprev; have : (l.take t).length ≤ l.length := (by rw [List.length_take]; omega); omega), Option.bind_some, wr (by omega), take_succ_at ht]
    have : (tab n fun k => thrA (l.take t) k + if (at' l t).links.contains (k : Int) = true then (at' l t).amps else 0) = tab n (thrA (l.take t ++ [at' l t])) := tab_congr fun i hi => by rw [thrA_snoc]
    rw [this]; rfl
   have hinit : (List.replicate n (0 : Int)) = tab n (thrA (l.take 0)) := by rw [rep_tab]; exact tab_congr fun i hi => by simp [thrA]
   rw [hinit]
   cases hf : l.findIdx? (badSh n) with
   | none =>
    rw [List.findIdx?_eq_none_iff] at hf
    have hany : l.any (badSh n) = false := by rw [List.any_eq_false]; intro x hx; simp [hf x hx]
    have key : loopO (m_flow_Through_L0 l) FUEL (tab n (thrA (l.take 0)), 0) = some (.brk (tab n (thrA l))) := by
     refine loopO_run (fun t => (tab n (thrA (l.take t)), (t : Int))) l.length (.brk (tab n (thrA l))) (fuel_lt (by omega)) (fun t ht => hstep t ht fun x hx => hf x (List.mem_of_mem_take hx)) ?_
     unfold m_flow_Through_L0; simp
    rw [hany, key]
    rfl
   | some k =>
    rw [List.findIdx?_eq_some_iff_getElem] at hf
    obtain ⟨hk, hbk, hpre⟩ := hf
    have hany : l.any (badSh n) = true := by rw [List.any_eq_true]; exact ⟨_, List.getElem_mem hk, hbk⟩
    have hpre' : ∀ t, t < k → ∀ x ∈ l.take (t + 1), badSh n x = false := by
     intro t ht x hx
     obtain ⟨j, hj, rfl⟩ := List.mem_iff_getElem.mp hx
     rw [List.length_take] at hj
     have := hpre j (by omega)
     simp at this; simpa using this
    have key : loopO (m_flow_Through_L0 l) FUEL (tab n (thrA (l.take 0)), 0) = some (.ret ([], false, 1)) := by
     refine loopO_run (fun t => (tab n (thrA (l.take t)), (t : Int))) k (.ret ([], false, 1)) (fuel_lt (by omega)) (fun t ht => hstep t (by omega) (hpre' t ht)) ?_
     have hb : badSh n (at' l k) = true := by rw [at_get hk]; exact hbk
     unfold m_flow_Through_L0
     have h1 : decide ((k : Int) < (l.length : Int)) = true := by simp; omega
     simp only [h1, cond_true, Int.toNat_natCast]
     rw [asO_pos (by omega), containsF_eq _ _ (hl _ (at_mem hk)), tab_length]
     unfold badSh at hb
     revert hb
     generalize decide ((at' l k).amps < 0) = b1
     generalize decide (1000000 < (at' l k).amps) = b2
     generalize ((at' l k).links.any fun i => decide (i < 0) || decide ((n : Int) ≤ i)) = b3
     cases b1 <;> cases b2 <;> cases b3 <;> intro hb <;> first | rfl | cases hb
    rw [hany, key]
    rfl
 ·have : decide (checkE p = 0) = false := by simp [hc]
  rw [this, if_pos hc]; rfl
theorem thr_of_ok {p : Plant} {s : State} (hp : VP p) (hs : VS p s) {bus : Nat} (hb : (bus : Int) < p.buses) : m_flow_Through p (shortsOf p s bus) = some (tab p.links.length (thrA (shortsOf p s bus)), true, 0) := by
 have hok := shortsOf_ok hp hs hb
 rw [through_eq hp.small (fun x hx => by have := (hok x hx).ll; omega)]
 unfold throughE
 have h0 : checkE p = 0 := checkE_zero.mpr hp
 have h1 := shortsOf_len s hp bus
 have h2 : (shortsOf p s bus).any (badSh p.links.length) = false := by
  rw [List.any_eq_false]
  intro x hx
  have := hok x hx
  have h3 := this.amps1
  simp only [badSh, Bool.not_eq_true, Bool.or_eq_false_iff, decide_eq_false_iff_not, List.any_eq_false]
  exact ⟨⟨by omega, by omega⟩, fun i hi => by have := this.links i hi; simp; omega⟩
 rw [if_neg (by simp [h0]), if_neg (by omega), h2]; rfl
end Sg
