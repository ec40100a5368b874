import Derived.Test.YtpndenfhglaikaaPg1
set_option linter.all false
namespace Sg
open Go
structure VL (b : Int) (x : Link) : Prop where
 a : 0 ≤ x.a ∧ x.a < b
 b : 0 ≤ x.b ∧ x.b < b
 ab : x.a ≠ x.b
 kind : 1 ≤ x.kind ∧ x.kind ≤ 3
 most : 1 ≤ x.most ∧ x.most ≤ 100000
 ohm : 10 ≤ x.ohm ∧ x.ohm ≤ 100000
 tl : x.trip.length ≤ 6
 trip : ∀ i, i < x.trip.length → tripBad x.trip i = false
 trk : x.trip = [] ∨ x.kind = 3
structure VSrc (b : Int) (x : Source) : Prop where
 bus : 0 ≤ x.bus ∧ x.bus < b
 kind : 1 ≤ x.kind ∧ x.kind ≤ 3
 power : 1 ≤ x.power ∧ x.power ≤ 100000
 sync : 0 ≤ x.sync ∧ x.sync ≤ 8
 ohm : 10 ≤ x.ohm ∧ x.ohm ≤ 100000
structure VR (b : Int) (x : Rack) : Prop where
 e0 : 0 ≤ x.feeds.e0 ∧ x.feeds.e0 < b
 e1 : -1 ≤ x.feeds.e1 ∧ x.feeds.e1 < b
 ne : x.feeds.e0 ≠ x.feeds.e1
 power : 1 ≤ x.power ∧ x.power ≤ 100000
 paths : 0 ≤ x.paths ∧ x.paths ≤ rackFeeds x
structure VP (p : Plant) : Prop where
 b : 1 ≤ p.buses ∧ p.buses ≤ 24
 sl : p.sources.length ≤ 8
 src : ∀ i, i < p.sources.length → VSrc p.buses (at' p.sources i)
 ll : p.links.length ≤ 40
 lnk : ∀ i, i < p.links.length → VL p.buses (at' p.links i)
 rl : p.racks.length ≤ 24
 rck : ∀ i, i < p.racks.length → VR p.buses (at' p.racks i)
structure VS (p : Plant) (s : State) : Prop where
 closed : s.closed.length = p.links.length
 locked : s.locked.length = p.links.length
 badLink : s.badLink.length = p.links.length
 on : s.on_.length = p.sources.length
 badSource : s.badSource.length = p.sources.length
 earthed : (s.earthed.length : Int) = p.buses
 badBus : (s.badBus.length : Int) = p.buses
 cable : ∀ i, i < p.links.length → (at' p.links i).kind = 1 → at' s.closed i = true ∧ at' s.locked i = false
theorem srcOk_iff {b : Int} {x : Source} : srcOk b x = true ↔ VSrc b x := by
 simp only [srcOk, Bool.and_eq_true, wi_iff]
 exact ⟨fun ⟨⟨⟨⟨h1, h2⟩, h3⟩, h4⟩, h5⟩ => ⟨by omega, h2, h3, h4, h5⟩, fun h => ⟨⟨⟨⟨by have := h.bus; omega, h.kind⟩, h.power⟩, h.sync⟩, h.ohm⟩⟩
theorem rackOk_iff {b : Int} {x : Rack} : rackOk b x = true ↔ VR b x := by
 simp only [rackOk, Bool.and_eq_true, wi_iff, Bool.not_eq_true', decide_eq_false_iff_not]
 exact ⟨fun ⟨⟨⟨⟨h1, h2⟩, h3⟩, h4⟩, h5⟩ => ⟨by omega, by omega, h3, h4, h5⟩, fun h => ⟨⟨⟨⟨by have := h.e0; omega, by have := h.e1; omega⟩, h.ne⟩, h.power⟩, h.paths⟩⟩
theorem linkOk_iff {b : Int} {x : Link} : linkOk b x = true ↔ VL b x := by
 simp only [linkOk, Bool.and_eq_true, wi_iff, Bool.not_eq_true', decide_eq_false_iff_not, Bool.or_eq_true, decide_eq_true_eq, List.any_eq_false, List.mem_range, Bool.not_eq_true]
 constructor
 ·rintro ⟨⟨⟨⟨⟨⟨⟨⟨h1, h2⟩, h3⟩, h4⟩, h5⟩, h6⟩, h7⟩, h8⟩, h9⟩
  exact ⟨by omega, by omega, h3, h4, h5, h6, by omega, h7, h9.imp (fun h => List.eq_nil_of_length_eq_zero (by omega)) id⟩
 ·intro h
  refine ⟨⟨⟨⟨⟨⟨⟨⟨by have := h.a; omega, by have := h.b; omega⟩, h.ab⟩, h.kind⟩, h.most⟩, h.ohm⟩, h.trip⟩, by have := h.tl; omega⟩, h.trk.imp (fun e => by simp [e]) id⟩
theorem checkE_zero {p : Plant} : checkE p = 0 ↔ VP p := by
 unfold checkE
 constructor
 ·intro h
  cases h0 : wi p.buses 1 24 with
  | false => rw [h0] at h; simp at h
  | true =>
   rw [h0] at h
   cases h1 : (decide ((p.sources.length : Int) ≤ 8) && p.sources.all (srcOk p.buses)) with
   | false => rw [h1] at h; simp at h
   | true =>
    rw [h1] at h
    cases h2 : (decide ((p.links.length : Int) ≤ 40) && p.links.all (linkOk p.buses)) with
    | false => rw [h2] at h; simp at h
    | true =>
     rw [h2] at h
     cases h3 : (decide ((p.racks.length : Int) ≤ 24) && p.racks.all (rackOk p.buses)) with
     | false => rw [h3] at h; simp at h
     | true =>
      simp only [Bool.and_eq_true, decide_eq_true_eq, List.all_eq_true] at h1 h2 h3
      exact ⟨wi_iff.mp h0, by omega, fun i hi => srcOk_iff.mp (h1.2 _ (at_mem hi)), by omega, fun i hi => linkOk_iff.mp (h2.2 _ (at_mem hi)), by omega, fun i hi => rackOk_iff.mp (h3.2 _ (at_mem hi))⟩
 ·intro h
  have h0 : wi p.buses 1 24 = true := wi_iff.mpr h.b
  have h1 : (decide ((p.sources.length : Int) ≤ 8) && p.sources.all (srcOk p.buses)) = true := by
   simp only [Bool.and_eq_true, decide_eq_true_eq, List.all_eq_true]
   exact ⟨by have := h.sl; omega, fun x hx => by obtain ⟨i, hi, rfl⟩ := at_of_mem hx; exact srcOk_iff.mpr (h.src i hi)⟩
  have h2 : (decide ((p.links.length : Int) ≤ 40) && p.links.all (linkOk p.buses)) = true := by
   simp only [Bool.and_eq_true, decide_eq_true_eq, List.all_eq_true]
   exact ⟨by have := h.ll; omega, fun x hx => by obtain ⟨i, hi, rfl⟩ := at_of_mem hx; exact linkOk_iff.mpr (h.lnk i hi)⟩
  have h3 : (decide ((p.racks.length : Int) ≤ 24) && p.racks.all (rackOk p.buses)) = true := by
   simp only [Bool.and_eq_true, decide_eq_true_eq, List.all_eq_true]
   exact ⟨by have := h.rl; omega, fun x hx => by obtain ⟨i, hi, rfl⟩ := at_of_mem hx; exact rackOk_iff.mpr (h.rck i hi)⟩
  rw [h0, h1, h2, h3]; rfl
theorem VP.small {p : Plant} (h : VP p) : Small p := by
 refine ⟨by have := h.sl; omega, by have := h.ll; omega, by have := h.rl; omega, fun x hx => ?_⟩
 obtain ⟨i, hi, rfl⟩ := at_of_mem hx
 have := (h.lnk i hi).tl; omega
theorem stateE_zero {p : Plant} {s : State} : stateE p s = 0 ↔ VP p ∧ VS p s := by
 unfold stateE
 by_cases hc : checkE p = 0
 ·rw [if_neg (by simp [hc])]
  have hv := checkE_zero.mp hc
  constructor
  ·intro h
   cases h1 : (lensOk p s && !(List.range p.links.length).any (cableBad p s)) with
   | false => rw [h1] at h; simp at h
   | true =>
    simp only [lensOk, Bool.and_eq_true, decide_eq_true_eq, Bool.not_eq_true', List.any_eq_false, List.mem_range, cableBad, Bool.or_eq_true, not_and, not_or, Bool.not_eq_true] at h1
    obtain ⟨⟨⟨⟨⟨⟨⟨h1, h2⟩, h3⟩, h4⟩, h5⟩, h6⟩, h7⟩, h8⟩ := h1
    exact ⟨hv, h1, h2, h3, h4, h5, h6, h7, fun i hi hk => by have := h8 i hi hk; simpa using this⟩
  ·rintro ⟨_, h⟩
   have : (lensOk p s && !(List.range p.links.length).any (cableBad p s)) = true := by
    simp only [lensOk, Bool.and_eq_true, decide_eq_true_eq, Bool.not_eq_true', List.any_eq_false, List.mem_range, cableBad, Bool.or_eq_true, not_and, not_or, Bool.not_eq_true]
    exact ⟨⟨⟨⟨⟨⟨⟨h.closed, h.locked⟩, h.badLink⟩, h.on⟩, h.badSource⟩, h.earthed⟩, h.badBus⟩, fun i hi hk => by have := h.cable i hi hk; simpa using this⟩
   rw [this]; rfl
 ·rw [if_pos hc]
  exact ⟨fun h => absurd h hc, fun h => absurd (checkE_zero.mpr h.1) hc⟩
def condB (p : Plant) (s : State) (i : Nat) : Bool := at' s.closed i && !at' s.badLink i && !at' s.badBus (at' p.links i).a.toNat && !at' s.badBus (at' p.links i).b.toNat
def feedB (p : Plant) (s : State) (k : Nat) : Bool := at' s.on_ k && !at' s.badSource k && !at' s.badBus (at' p.sources k).bus.toNat
theorem conducts_eq {p : Plant} {s : State} (hp : VP p) (hs : VS p s) {i : Nat} (hi : i < p.links.length) : m_flow_conducts p s i = some (condB p s i) := by
 have hl := hp.lnk i hi
 have ha := hl.a; have hb := hl.b; have h1 := hs.closed; have h2 := hs.badLink; have h3 := hs.badBus
 unfold m_flow_conducts condB
 simp only [Int.toNat_natCast]
 rw [asO_pos (by omega), asO_pos ⟨by omega, fun _ => by omega, fun _ => by omega, fun _ => by omega⟩]
 cases at' s.closed i <;> cases at' s.badLink i <;> cases at' s.badBus (at' p.links i).a.toNat <;> cases at' s.badBus (at' p.links i).b.toNat <;> rfl
theorem flowFeeds_eq {p : Plant} {s : State} (hp : VP p) (hs : VS p s) {k : Nat} (hk : k < p.sources.length) : m_flow_feeds p s k = some (feedB p s k) := by
 have hl := (hp.src k hk).bus; have h1 := hs.on; have h2 := hs.badSource; have h3 := hs.badBus
 unfold m_flow_feeds feedB
 simp only [Int.toNat_natCast]
 rw [asO_pos ⟨by omega, fun _ => by omega, fun _ => by omega, fun _ => by omega⟩]
 cases at' s.on_ k <;> cases at' s.badSource k <;> cases at' s.badBus (at' p.sources k).bus.toNat <;> rfl
end Sg
