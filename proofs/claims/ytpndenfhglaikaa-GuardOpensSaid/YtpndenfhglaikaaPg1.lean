import Derived.Test.YtpndenfhglaikaaGm
import Derived.Test.YtpndenfhglaikaaPl
set_option linter.all false
namespace Sg
open Go
theorem bif_some {α : Type} (c : Bool) (x y : α) : (bif c then some x else some y) = some (bif c then x else y) := by cases c <;> rfl
theorem searchI_run {ρ : Type} {body : Int → Option (Flow Int (Ex Unit ρ))} (n : Nat) (bad : Nat → Bool) (f : Int → ρ) (hl : n ≤ 9223372036854775807)
  (hb : ∀ i : Nat, i < n → body i = some (bif bad i then .done (.ret (f i)) else .next ((i : Int) + 1))) (he : body n = some (.done (.brk ()))) :
  loopO body FUEL 0 = some (match (List.range n).find? bad with | some i => .ret (f i) | none => .brk ()) := by
 cases h : (List.range n).find? bad with
 | none =>
  rw [List.find?_eq_none] at h
  refine loopO_run (fun i => (i : Int)) n _ (fuel_lt (by omega)) (fun i hi => ?_) he
  rw [hb i hi]
  have := h i (List.mem_range.mpr hi)
  simp at this; simp [this]
 | some k =>
  rw [List.find?_range_eq_some] at h
  obtain ⟨hp, hk, hn⟩ := h
  rw [List.mem_range] at hk
  refine loopO_run (fun i => (i : Int)) k _ (fuel_lt (by omega)) (fun i hi => ?_) ?_
  ·have := hn i hi
   rw [hb i (by omega)]
   simp at this; simp [this]
  ·rw [hb k hk, hp]; rfl
theorem find_any {α : Type} (p : α → Bool) : ∀ l : List α, (l.find? p).isSome = l.any p
 | [] => rfl
 | x :: l => by
  rw [List.any_cons, List.find?_cons]
  cases h : p x with
  | true => simp
  | false => simpa using find_any p l
def wi (n a b : Int) : Bool := decide (a ≤ n) && decide (n ≤ b)
theorem wi_iff {n a b : Int} : wi n a b = true ↔ a ≤ n ∧ n ≤ b := by simp [wi]
theorem within_eq (n a b : Int) : m_plant_within n a b = some (wi n a b) := by
 unfold m_plant_within wi; cases decide (a ≤ n) <;> rfl
def srcOk (b : Int) (x : Source) : Bool := wi x.bus 0 (b - 1) && wi x.kind 1 3 && wi x.power 1 100000 && wi x.sync 0 8 && wi x.ohm 10 100000
theorem source_eq {b : Int} (hb : 1 ≤ b ∧ b ≤ 24) (x : Source) (l1 : List Source) (l2 : List Link) (l3 : List Rack) : m_plant_source_1 x b l1 l2 l3 = some (srcOk b x) := by
 unfold m_plant_source_1 srcOk
 simp only [within_eq, Option.bind_some]
 rw [wr (by omega)]
 generalize wi x.bus 0 (b - 1) = b1
 generalize wi x.kind 1 3 = b2
 generalize wi x.power 1 100000 = b3
 generalize wi x.sync 0 8 = b4
 generalize wi x.ohm 10 100000 = b5
 cases b1 <;> cases b2 <;> cases b3 <;> cases b4 <;> cases b5 <;> rfl
def tripBad (l : List Trip) (i : Nat) : Bool :=
 !wi (at' l i).amps 1 1000000 || !wi (at' l i).millis 1 100000 || (decide (0 < i) && (decide ((at' l i).amps ≤ (at' l (i - 1)).amps) || decide ((at' l (i - 1)).millis ≤ (at' l i).millis)))
def linkOk (b : Int) (x : Link) : Bool :=
 wi x.a 0 (b - 1) && wi x.b 0 (b - 1) && !decide (x.a = x.b) && wi x.kind 1 3 && wi x.most 1 100000 && wi x.ohm 10 100000 && !(List.range x.trip.length).any (tripBad x.trip) && decide ((x.trip.length : Int) ≤ 6) && (decide ((x.trip.length : Int) = 0) || decide (x.kind = 3))
theorem at_pred {α : Type} [Inhabited α] (l : List α) (i : Nat) (h : 0 < i) : at' l (((i : Int) - 1).toNat) = at' l (i - 1) := by
 congr 1; omega
theorem link_L0 (x : Link) (hx : x.trip.length ≤ 9223372036854775807) : loopO (m_plant_link_1_L0 x) FUEL 0 = some (match (List.range x.trip.length).find? (tripBad x.trip) with | some _ => .ret false | none => .brk ()) := by
 refine searchI_run x.trip.length (tripBad x.trip) (fun _ => false) hx (fun i hi => ?_) ?_
 ·unfold m_plant_link_1_L0
  have h1 : decide ((i : Int) < (x.trip.length : Int)) = true := by simp; omega
  rw [h1, cond_true, asO_pos (by omega)]
  simp only [within_eq, Option.bind_some, Int.toNat_natCast]
  rw [wr (x := (i : Int) - 1) (by omega), wr (x := (i : Int) + 1) (by omega)]
  unfold tripBad
  by_cases h0 : 0 < i
  ·rw [at_pred _ _ h0]
   simp only [h0, Int.natCast_pos, decide_true]
   generalize wi (at' x.trip i).amps 1 1000000 = b1
   generalize wi (at' x.trip i).millis 1 100000 = b2
   generalize decide ((at' x.trip i).amps ≤ (at' x.trip (i - 1)).amps) = b3
   generalize decide ((at' x.trip (i - 1)).millis ≤ (at' x.trip i).millis) = b4
   cases b1 <;> cases b2 <;> cases b3 <;> cases b4 <;> simp [gB, asO] <;> omega
  ·have : i = 0 := by omega
   subst this
   generalize wi (at' x.trip 0).amps 1 1000000 = b1
   generalize wi (at' x.trip 0).millis 1 100000 = b2
   cases b1 <;> cases b2 <;> simp [gB, asO]
 ·unfold m_plant_link_1_L0
  have h1 : decide ((x.trip.length : Int) < (x.trip.length : Int)) = false := by simp
  rw [h1]; rfl
theorem link_eq {b : Int} (hb : 1 ≤ b ∧ b ≤ 24) (x : Link) (hx : x.trip.length ≤ 9223372036854775807) (l1 : List Source) (l2 : List Link) (l3 : List Rack) : m_plant_link_1 x b l1 l2 l3 = some (linkOk b x) := by
 unfold m_plant_link_1 linkOk
 simp only [within_eq, Option.bind_some]
 rw [wr (by omega), link_L0 x hx]
 generalize wi x.a 0 (b - 1) = b1
 generalize wi x.b 0 (b - 1) = b2
 generalize decide (x.a = x.b) = b3
 generalize wi x.kind 1 3 = b4
 generalize wi x.most 1 100000 = b5
 generalize wi x.ohm 10 100000 = b6
 have : (List.range x.trip.length).any (tripBad x.trip) = ((List.range x.trip.length).find? (tripBad x.trip)).isSome := (find_any _ _).symm
 rw [this]
 cases b1 <;> cases b2 <;> cases b3 <;> cases b4 <;> cases b5 <;> cases b6 <;> try rfl
 cases (List.range x.trip.length).find? (tripBad x.trip) with
 | some k => simp [gB]
 | none =>
  simp only [gB, Option.bind_some, Option.isSome_none]
  generalize decide ((x.trip.length : Int) ≤ 6) = c1
  generalize decide ((x.trip.length : Int) = 0) = c2
  generalize decide (x.kind = 3) = c3
  cases c1 <;> cases c2 <;> cases c3 <;> rfl
def rackFeeds (x : Rack) : Int := if x.feeds.e1 = -1 then 1 else 2
def rackOk (b : Int) (x : Rack) : Bool := wi x.feeds.e0 0 (b - 1) && wi x.feeds.e1 (-1) (b - 1) && !decide (x.feeds.e0 = x.feeds.e1) && wi x.power 1 100000 && wi x.paths 0 (rackFeeds x)
theorem feeds_eq (x : Rack) : m_plant_feeds x = some (rackFeeds x) := by
 unfold m_plant_feeds rackFeeds
 by_cases h : x.feeds.e1 = -1 <;> simp [h]
theorem rack_eq {b : Int} (hb : 1 ≤ b ∧ b ≤ 24) (x : Rack) (l1 : List Source) (l2 : List Link) (l3 : List Rack) : m_plant_rack_1 x b l1 l2 l3 = some (rackOk b x) := by
 unfold m_plant_rack_1 rackOk
 simp only [within_eq, Option.bind_some, feeds_eq]
 rw [wr (by omega)]
 generalize wi x.feeds.e0 0 (b - 1) = b1
 generalize wi x.feeds.e1 (-1) (b - 1) = b2
 generalize decide (x.feeds.e0 = x.feeds.e1) = b3
 generalize hb4 : wi x.power 1 100000 = b4
 cases b1 <;> cases b2 <;> cases b3 <;> cases b4 <;> simp [gB] <;> rfl
theorem search_step {α ρ : Type} [Inhabited α] {l : List α} {i : Nat} (hi : i < l.length) (hl : l.length ≤ 9223372036854775807) (b : Bool) (f : Int → ρ) (G : Option (Flow Int (Ex Unit ρ))) :
  (bif (decide ((i : Int) < (l.length : Int))) then ((some b).bind fun r_ => asO ((0 : Int) ≤ (i : Int) ∧ (i : Int) < (l.length : Int)) (bif r_ then some (.done (.ret (f (i : Int)))) else some (.next (IntKind.wrap .i64 ((i : Int) + 1))))) else G) = some (bif b then .done (.ret (f i)) else .next ((i : Int) + 1)) := by
 have h1 : decide ((i : Int) < (l.length : Int)) = true := by simp; omega
 rw [h1, cond_true, Option.bind_some, asO_pos (by omega), wr (by omega)]
 cases b <;> rfl
theorem good_src {b : Int} (hb : 1 ≤ b ∧ b ≤ 24) (l : List Source) (hl : l.length ≤ 9223372036854775807) (m : Int) (l1 : List Source) (l2 : List Link) (l3 : List Rack) :
  m_plant_good l m b l1 l2 l3 = some (decide ((l.length : Int) ≤ m) && l.all (srcOk b)) := by
 have hs : m_slices_ContainsFunc l b l1 l2 l3 = some (l.any fun x => !srcOk b x) := by
  unfold m_slices_ContainsFunc m_slices_IndexFunc
  rw [search_run l (fun x => !srcOk b x) id hl (fun i hi => ?_) ?_]
  ·rw [← findIdx_any]; cases l.findIdx? fun x => !srcOk b x <;> rfl
  ·unfold m_slices_IndexFunc_L0; simp
  ·unfold m_slices_IndexFunc_L0 m_plant_good_1
   rw [Int.toNat_natCast, source_eq hb, Option.bind_some]
   exact search_step hi hl _ id _
 unfold m_plant_good
 rw [hs]
 have : (!l.any fun x => !srcOk b x) = l.all (srcOk b) := by rw [List.not_any_eq_all_not]; simp
 rw [← this]
 cases decide ((l.length : Int) ≤ m) <;> simp [gB]
theorem good_link {b : Int} (hb : 1 ≤ b ∧ b ≤ 24) (l : List Link) (hl : l.length ≤ 9223372036854775807) (ht : ∀ x ∈ l, x.trip.length ≤ 9223372036854775807) (m : Int) (l1 : List Source) (l2 : List Link) (l3 : List Rack) :
  m_plant_good97 l m b l1 l2 l3 = some (decide ((l.length : Int) ≤ m) && l.all (linkOk b)) := by
 have hs : m_slices_ContainsFunc136 l b l1 l2 l3 = some (l.any fun x => !linkOk b x) := by
  unfold m_slices_ContainsFunc136 m_slices_IndexFunc151
  rw [search_run l (fun x => !linkOk b x) id hl (fun i hi => ?_) ?_]
  ·rw [← findIdx_any]; cases l.findIdx? fun x => !linkOk b x <;> rfl
  ·unfold m_slices_IndexFunc151_L0; simp
  ·unfold m_slices_IndexFunc151_L0 m_plant_good_1137
   rw [Int.toNat_natCast, link_eq hb _ (ht _ (at_mem hi)), Option.bind_some]
   exact search_step hi hl _ id _
 unfold m_plant_good97
 rw [hs]
 have : (!l.any fun x => !linkOk b x) = l.all (linkOk b) := by rw [List.not_any_eq_all_not]; simp
 rw [← this]
 cases decide ((l.length : Int) ≤ m) <;> simp [gB]
theorem good_rack {b : Int} (hb : 1 ≤ b ∧ b ≤ 24) (l : List Rack) (hl : l.length ≤ 9223372036854775807) (m : Int) (l1 : List Source) (l2 : List Link) (l3 : List Rack) :
  m_plant_good99 l m b l1 l2 l3 = some (decide ((l.length : Int) ≤ m) && l.all (rackOk b)) := by
 have hs : m_slices_ContainsFunc139 l b l1 l2 l3 = some (l.any fun x => !rackOk b x) := by
  unfold m_slices_ContainsFunc139 m_slices_IndexFunc152
  rw [search_run l (fun x => !rackOk b x) id hl (fun i hi => ?_) ?_]
  ·rw [← findIdx_any]; cases l.findIdx? fun x => !rackOk b x <;> rfl
  ·unfold m_slices_IndexFunc152_L0; simp
  ·unfold m_slices_IndexFunc152_L0 m_plant_good_1140
   rw [Int.toNat_natCast, rack_eq hb, Option.bind_some]
   exact search_step hi hl _ id _
 unfold m_plant_good99
 rw [hs]
 have : (!l.any fun x => !rackOk b x) = l.all (rackOk b) := by rw [List.not_any_eq_all_not]; simp
 rw [← this]
 cases decide ((l.length : Int) ≤ m) <;> simp [gB]
structure Small (p : Plant) : Prop where
 src : p.sources.length ≤ 9223372036854775807
 lnk : p.links.length ≤ 9223372036854775807
 rck : p.racks.length ≤ 9223372036854775807
 trp : ∀ x ∈ p.links, x.trip.length ≤ 9223372036854775807
def checkE (p : Plant) : Int :=
 if wi p.buses 1 24 = false then 10 else if (decide ((p.sources.length : Int) ≤ 8) && p.sources.all (srcOk p.buses)) = false then 11
 else if (decide ((p.links.length : Int) ≤ 40) && p.links.all (linkOk p.buses)) = false then 12 else if (decide ((p.racks.length : Int) ≤ 24) && p.racks.all (rackOk p.buses)) = false then 13 else 0
theorem check_eq (p : Plant) (hp : Small p) : m_plant_Check p = some (checkE p) := by
 unfold m_plant_Check checkE
 simp only [within_eq, Option.bind_some, m_plant_source, m_plant_link, m_plant_rack]
 cases h0 : wi p.buses 1 24 with
 | false => simp
 | true =>
  have hb := wi_iff.mp h0
  rw [good_src hb _ hp.src, good_link hb _ hp.lnk hp.trp, good_rack hb _ hp.rck]
  simp only [Option.bind_some, Bool.not_true, cond_false]
  generalize (decide ((p.sources.length : Int) ≤ 8) && p.sources.all (srcOk p.buses)) = b1
  generalize (decide ((p.links.length : Int) ≤ 40) && p.links.all (linkOk p.buses)) = b2
  generalize (decide ((p.racks.length : Int) ≤ 24) && p.racks.all (rackOk p.buses)) = b3
  cases b1 <;> cases b2 <;> cases b3 <;> simp
def lensOk (p : Plant) (s : State) : Bool :=
 decide (s.closed.length = p.links.length) && decide (s.locked.length = p.links.length) && decide (s.badLink.length = p.links.length) && decide (s.on_.length = p.sources.length) && decide (s.badSource.length = p.sources.length) &&
 decide ((s.earthed.length : Int) = p.buses) && decide ((s.badBus.length : Int) = p.buses)
def cableBad (p : Plant) (s : State) (i : Nat) : Bool := decide ((at' p.links i).kind = 1) && (!at' s.closed i || at' s.locked i)
def stateE (p : Plant) (s : State) : Int := if checkE p ≠ 0 then checkE p else if lensOk p s && !(List.range p.links.length).any (cableBad p s) then 0 else 9
theorem checkState_eq (p : Plant) (s : State) (hp : Small p) : m_plant_CheckState p s = some (stateE p s) := by
 unfold m_plant_CheckState stateE
 rw [check_eq p hp, Option.bind_some]
 by_cases hc : checkE p = 0
 ·rw [hc]
  simp only [decide_true, Bool.not_true, cond_false, ne_eq, not_true_eq_false, if_false]
  have h0 : loopO (m_plant_CheckState_L0 p s) FUEL 0 = some (bif lensOk p s then .brk () else .ret 9) := by
   have key := searchI_run (body := m_plant_CheckState_L0 p s) 7 (fun i => !decide (((at' [(⟨s.closed, (p.links.length : Int)⟩ : S128), (⟨s.locked, (p.links.length : Int)⟩ : S128), (⟨s.badLink, (p.links.length : Int)⟩ : S128), (⟨s.on_, (p.sources.length : Int)⟩ : S128), (⟨s.badSource, (p.sources.length : Int)⟩ : S128), (⟨s.earthed, p.buses⟩ : S128), (⟨s.badBus, p.buses⟩ : S128)] i).l.length : Int) = (at' [(⟨s.closed, (p.links.length : Int)⟩ : S128), (⟨s.locked, (p.links.length : Int)⟩ : S128), (⟨s.badLink, (p.links.length : Int)⟩ : S128), (⟨s.on_, (p.sources.length : Int)⟩ : S128), (⟨s.badSource, (p.sources.length : Int)⟩ : S128), (⟨s.earthed, p.buses⟩ : S128), (⟨s.badBus, p.buses⟩ : S128)] i).n)) (fun _ => (9 : Int)) (by omega) (fun i hi => ?_) ?_
   ·rw [key]
    have e : ((List.range 7).find? fun i => !decide (((at' [(⟨s.closed, (p.links.length : Int)⟩ : S128), (⟨s.locked, (p.links.length : Int)⟩ : S128), (⟨s.badLink, (p.links.length : Int)⟩ : S128), (⟨s.on_, (p.sources.length : Int)⟩ : S128), (⟨s.badSource, (p.sources.length : Int)⟩ : S128), (⟨s.earthed, p.buses⟩ : S128), (⟨s.badBus, p.buses⟩ : S128)] i).l.length : Int) = (at' [(⟨s.closed, (p.links.length : Int)⟩ : S128), (⟨s.locked, (p.links.length : Int)⟩ : S128), (⟨s.badLink, (p.links.length : Int)⟩ : S128), (⟨s.on_, (p.sources.length : Int)⟩ : S128), (⟨s.badSource, (p.sources.length : Int)⟩ : S128), (⟨s.earthed, p.buses⟩ : S128), (⟨s.badBus, p.buses⟩ : S128)] i).n)).isSome = !lensOk p s := by
     rw [show List.range 7 = [0, 1, 2, 3, 4, 5, 6] from rfl, find_any]
     simp only [List.any_cons, List.any_nil, at', List.getD_cons_zero, List.getD_cons_succ, lensOk, Int.natCast_inj]
     simp [Bool.or_assoc]
    revert e
    cases hf : (List.range 7).find? _ with
    | none =>
     intro e
     have : lensOk p s = true := by simpa using e.symm
     rw [this]; rfl
    | some k =>
     intro e
     have : lensOk p s = false := by simpa using e.symm
     rw [this]; rfl
   ·have h1 : decide ((i : Int) < 7) = true := by simp; omega
    unfold m_plant_CheckState_L0
    rw [show ([(⟨s.closed, (p.links.length : Int)⟩ : S128), (⟨s.locked, (p.links.length : Int)⟩ : S128), (⟨s.badLink, (p.links.length : Int)⟩ : S128), (⟨s.on_, (p.sources.length : Int)⟩ : S128), (⟨s.badSource, (p.sources.length : Int)⟩ : S128), (⟨s.earthed, p.buses⟩ : S128), (⟨s.badBus, p.buses⟩ : S128)].length : Int) = 7 from rfl, h1, cond_true, asO_pos (by omega), Int.toNat_natCast, wr (by omega)]
    exact bif_some _ _ _
   ·rfl
  rw [h0, Option.bind_some]
  cases hL : lensOk p s with
  | false => rfl
  | true =>
   simp only [cond_true, Bool.true_and]
   simp only [lensOk, Bool.and_eq_true, decide_eq_true_eq] at hL
   have h1 : loopO (m_plant_CheckState_L1 p s) FUEL 0 = some (match (List.range p.links.length).find? (cableBad p s) with | some _ => .ret 9 | none => .brk ()) := by
    refine searchI_run p.links.length (cableBad p s) (fun _ => 9) hp.lnk (fun i hi => ?_) ?_
    ·unfold m_plant_CheckState_L1 cableBad
     have h1 : decide ((i : Int) < (p.links.length : Int)) = true := by simp; omega
     have := hp.lnk
     rw [h1, cond_true, asO_pos (by omega), Int.toNat_natCast, wr (by omega), asO_pos ⟨fun _ => by omega, fun _ => by omega⟩]
     generalize decide ((at' p.links i).kind = 1) = b1
     generalize at' s.closed i = b2
     generalize at' s.locked i = b3
     cases b1 <;> cases b2 <;> cases b3 <;> rfl
    ·unfold m_plant_CheckState_L1; simp
   rw [h1, Option.bind_some]
   have : (List.range p.links.length).any (cableBad p s) = ((List.range p.links.length).find? (cableBad p s)).isSome := (find_any _ _).symm
   rw [this]
   cases (List.range p.links.length).find? (cableBad p s) <;> rfl
 ·have : decide (checkE p = 0) = false := by simp [hc]
  rw [this]
  simp [hc]
end Sg
