import Derived.Test.YtpndenfhglaikaaPu2
import Derived.Test.YtpndenfhglaikaaPg6
set_option linter.all false
namespace Sg
open Go
set_option linter.unusedSectionVars false
set_option linter.unusedVariables false
def setAll (v : Bool) (o : List Bool) (l : List Int) : List Bool := l.foldl (fun o x => o.set x.toNat v) o
theorem setAll_length (v : Bool) : ∀ (l : List Int) (o : List Bool), (setAll v o l).length = o.length
 | [], _ => rfl
 | x :: l, o => by
  show (setAll v (o.set x.toNat v) l).length = _
  rw [setAll_length v l, List.length_set]
theorem setAll_snoc (v : Bool) (o : List Bool) (l : List Int) (x : Int) : setAll v o (l ++ [x]) = (setAll v o l).set x.toNat v := by simp [setAll]
theorem setAll_at (v : Bool) : ∀ (l : List Int) (o : List Bool) (j : Nat), (∀ x ∈ l, 0 ≤ x) → j < o.length → at' (setAll v o l) j = if (j : Int) ∈ l then v else at' o j
 | [], o, j, _, _ => by simp [setAll]
 | x :: l, o, j, h, hj => by
  show at' (setAll v (o.set x.toNat v) l) j = _
  rw [setAll_at v l _ j (fun y hy => h y (List.mem_cons_of_mem _ hy)) (by rw [List.length_set]; exact hj)]
  have hx := h x List.mem_cons_self
  by_cases e : (j : Int) ∈ l
  ·rw [if_pos e, if_pos (List.mem_cons_of_mem _ e)]
  ·rw [if_neg e]
   by_cases e2 : x.toNat = j
   ·subst e2
    rw [at'_set_eq hj, if_pos (by rw [Int.toNat_of_nonneg hx]; exact List.mem_cons_self)]
   ·rw [at'_set_ne e2, if_neg]
    intro hm
    rcases List.mem_cons.mp hm with h1 | h1
    ·omega
    ·exact e h1
def livO (n : Nat) (l : List Island) : List Bool := l.foldl (fun o x => setAll (decide (0 < (x.sources.length : Int))) o x.buses) (List.replicate n false)
theorem livO_snoc (n : Nat) (l : List Island) (x : Island) : livO n (l ++ [x]) = setAll (decide (0 < (x.sources.length : Int))) (livO n l) x.buses := by simp [livO]
theorem livO_length (n : Nat) (l : List Island) : (livO n l).length = n := by
 unfold livO
 suffices ∀ (l : List Island) (o : List Bool), (l.foldl (fun o x => setAll (decide (0 < (x.sources.length : Int))) o x.buses) o).length = o.length by rw [this]; simp
 intro l
 induction l with
 | nil => intro o; rfl
 | cons x l ih => intro o; rw [List.foldl_cons, ih, setAll_length]
def LiveAt (p : Plant) (s : State) (b : Nat) : Prop := at' s.badBus b = false ∧ ∃ k, k < p.sources.length ∧ feedB p s k = true ∧ ∃ l, Wk p s (at' p.sources k).bus.toNat l b
section
variable {p : Plant} {s : State} (hp : VP p) (hs : VS p s)
include hp hs
theorem live_L1 {out : List Island} {j : Nat} (hj : j < out.length) (hx : ∀ x ∈ (at' out j).buses, 0 ≤ x ∧ x < p.buses) (hl : (at' out j).buses.length ≤ 1000) {o : List Bool} (ho : (o.length : Int) = p.buses) :
  loopO (m_plant_Live_L1 out (j : Int)) FUEL (o, 0) = some (.brk (setAll (decide (0 < ((at' out j).sources.length : Int))) o (at' out j).buses)) := by
 have key : loopO (m_plant_Live_L1 out (j : Int)) FUEL (setAll (decide (0 < ((at' out j).sources.length : Int))) o ((at' out j).buses.take 0), ((0 : Nat) : Int)) = some (.brk (setAll (decide (0 < ((at' out j).sources.length : Int))) o (at' out j).buses)) := by
  refine loopO_run (fun i => (setAll (decide (0 < ((at' out j).sources.length : Int))) o ((at' out j).buses.take i), (i : Int))) (at' out j).buses.length _ (fuel_lt (by omega)) (fun i hi => ?_) ?_
  ·have hd : decide ((i : Int) < ((at' out j).buses.length : Int)) = true := decide_eq_true (by omega)
   have hm := hx _ (at_mem hi)
   have hlen := setAll_length (decide (0 < ((at' out j).sources.length : Int))) ((at' out j).buses.take i) o
   unfold m_plant_Live_L1
   simp only [Int.toNat_natCast]
   rw [hd, cond_true, asO_pos (by omega), asO_pos (by omega), wr (by omega), take_succ_at hi, setAll_snoc]
   rfl
  ·have hd : decide (((at' out j).buses.length : Int) < ((at' out j).buses.length : Int)) = false := decide_eq_false (by omega)
   unfold m_plant_Live_L1
   simp only [Int.toNat_natCast]
   rw [hd, cond_false, List.take_length]
 exact key
theorem live_eq : ∃ L, m_plant_Live p s = some (L, 0) ∧ (L.length : Int) = p.buses ∧ ∀ b : Nat, (b : Int) < p.buses → (at' L b = true ↔ LiveAt p s b) := by
 have hb := hp.b; have h4 := hp.sl
 obtain ⟨out, o, m, e, g, q⟩ := islands_eq hp hs
 have hlen := q.len
 have hgl := g.len
 have hbus : ∀ j, j < out.length → ∀ x ∈ (at' out j).buses, ∃ b : Nat, x = b ∧ (b : Int) < p.buses ∧ at' s.badBus b = false ∧ mget eqI (headOf p s b) m = some (j : Int) := by
  intro j hj x hx
  rw [q.bus j hj] at hx
  obtain ⟨b, h1, h2, h3, h5⟩ := g.mem j (by omega) x hx
  exact ⟨b, h1, by omega, h3, h5⟩
 have hx : ∀ j, j < out.length → ∀ x ∈ (at' out j).buses, 0 ≤ x ∧ x < p.buses := by
  intro j hj x hx
  obtain ⟨b, h1, h2, _⟩ := hbus j hj x hx
  omega
 have hl : ∀ j, j < out.length → (at' out j).buses.length ≤ 1000 := by
  intro j hj; rw [q.bus j hj]; have := g.bl j (by omega); omega
 have hL : loopO (m_plant_Live_L0 out) FUEL (livO p.buses.toNat (out.take 0), ((0 : Nat) : Int)) = some (.brk (livO p.buses.toNat out)) := by
  refine loopO_run (fun i => (livO p.buses.toNat (out.take i), (i : Int))) out.length _ (fuel_lt (by omega)) (fun i hi => ?_) ?_
  ·have hd : decide ((i : Int) < (out.length : Int)) = true := decide_eq_true (by omega)
   have hlo := livO_length p.buses.toNat (out.take i)
   unfold m_plant_Live_L0
   simp only
   rw [hd, cond_true, asO_pos (by omega), live_L1 hp hs hi (hx i hi) (hl i hi) (by omega)]
   simp only [Option.bind_some]
   rw [wr (by omega), take_succ_at hi, livO_snoc]
   rfl
  ·have hd : decide ((out.length : Int) < (out.length : Int)) = false := decide_eq_false (by omega)
   unfold m_plant_Live_L0
   simp only
   rw [hd, cond_false, List.take_length]
 have hat : ∀ n, n ≤ out.length → ∀ b : Nat, (b : Int) < p.buses → (at' (livO p.buses.toNat (out.take n)) b = true ↔ ∃ j, j < n ∧ (b : Int) ∈ (at' out j).buses ∧ (at' out j).sources ≠ []) := by
  intro n
  induction n with
  | zero =>
   intro _ b hb'
   rw [List.take_zero]
   show at' (List.replicate p.buses.toNat false) b = true ↔ _
   rw [at'_replicate (by omega)]
   simp
  | succ n ih =>
   intro hn b hb'
   have hln := livO_length p.buses.toNat (out.take n)
   rw [take_succ_at (by omega), livO_snoc, setAll_at _ _ _ _ (fun x h => (hx n (by omega) x h).1) (by omega)]
   by_cases hm : (b : Int) ∈ (at' out n).buses
   ·rw [if_pos hm]
    have huniq : ∀ j, j < out.length → (b : Int) ∈ (at' out j).buses → j = n := by
     intro j hj hmj
     obtain ⟨b1, e1, _, _, f1⟩ := hbus n (by omega) _ hm
     obtain ⟨b2, e2, _, _, f2⟩ := hbus j hj _ hmj
     have : b1 = b2 := by omega
     subst this
     rw [f1] at f2
     have := Option.some.inj f2
     omega
    constructor
    ·intro hd
     refine ⟨n, by omega, hm, fun hn => ?_⟩
     rw [hn] at hd; simp at hd
    ·rintro ⟨j, hj, hmj, hsj⟩
     have := huniq j (by omega) hmj
     subst this
     have := List.length_pos_iff.mpr hsj
     exact decide_eq_true (by omega)
   ·rw [if_neg hm, ih (by omega) b hb']
    constructor
    ·rintro ⟨j, hj, h⟩; exact ⟨j, by omega, h⟩
    ·rintro ⟨j, hj, h⟩
     have : j ≠ n := fun e => by subst e; exact hm h.1
     exact ⟨j, by omega, h⟩
 refine ⟨livO p.buses.toNat out, ?_, by rw [livO_length]; omega, fun b hb' => ?_⟩
 ·unfold m_plant_Live
  have h0 : stateE p s = 0 := stateE_zero.mpr ⟨hp, hs⟩
  rw [checkState_eq p s hp.small, h0, Option.bind_some]
  simp only [decide_true, Bool.not_true, cond_false]
  rw [asO_pos ⟨by omega, by omega, by omega⟩, e, Option.bind_some]
  have hL' : loopO (m_plant_Live_L0 out) FUEL (List.replicate p.buses.toNat false, 0) = some (.brk (livO p.buses.toNat out)) := hL
  rw [hL']; rfl
 ·have := hat out.length (Nat.le_refl _) b hb'
  rw [List.take_length] at this
  rw [this]
  constructor
  ·rintro ⟨j, hj, hm, hsj⟩
   obtain ⟨b1, e1, h1, hbad, f1⟩ := hbus j hj _ hm
   have : b1 = b := by omega
   subst this
   obtain ⟨k, hk, hf, f2⟩ := (q.src j hj).mp hsj
   have hk2 := (hp.src k hk).bus
   have := g.inj _ _ _ f1 f2
   obtain ⟨l, w⟩ := (head_iff hp (by omega) hb').mp this.symm
   exact ⟨hbad, k, hk, hf, l, w⟩
  ·rintro ⟨hbad, k, hk, hf, l, w⟩
   have hk2 := (hp.src k hk).bus
   have he := (head_iff (s := s) hp (u := (at' p.sources k).bus.toNat) (by omega) hb').mpr ⟨l, w⟩
   obtain ⟨j, hj, hm⟩ := g.cov b (by omega) hbad
   have hjl := (g.ix _ _ hj).2
   refine ⟨j, by omega, by rw [q.bus j (by omega)]; exact hm, ?_⟩
   rw [q.src j (by omega)]
   exact ⟨k, hk, hf, by rw [he]; exact hj⟩
theorem tot_live {b : Nat} (hb : (b : Int) < p.buses) : totA (shortsOf p s b) = 0 ↔ ¬ LiveAt p s b := by
 have hpos : ∀ l : List Short, (∀ x ∈ l, 1 ≤ x.amps) → (totA l = 0 ↔ l = []) := by
  intro l
  induction l with
  | nil => intro _; simp [totA]
  | cons x l ih =>
   intro h
   have h1 := h x List.mem_cons_self
   have h2 : 0 ≤ totA l := by
    have hh : ∀ y ∈ l, 1 ≤ y.amps := fun y hy => h y (List.mem_cons_of_mem _ hy)
    clear ih h h1
    induction l with
    | nil => simp [totA]
    | cons y l ih =>
     have := ih fun z hz => hh z (List.mem_cons_of_mem _ hz)
     have := hh y List.mem_cons_self
     simp only [totA, List.map_cons, List.sum_cons] at *
     omega
   simp only [totA, List.map_cons, List.sum_cons] at *
   constructor
   ·intro e; omega
   ·intro e; cases e
 rw [hpos _ fun x hx => (shortsOf_ok hp hs hb x hx).amps1.1]
 constructor
 ·rintro e ⟨hbad, k, hk, hf, l, w⟩
  have hk2 := (hp.src k hk).bus
  have : shortAt p s b k = [] := by
   have : shortAt p s b k ⊆ shortsOf p s b := by
    intro x hx
    exact List.mem_flatMap.mpr ⟨k, List.mem_range.mpr hk, hx⟩
   rw [e] at this
   exact List.subset_nil.mp this
  obtain ⟨_, hw⟩ := ways_of hp hs (b := (at' p.sources k).bus.toNat) (by omega)
  have ht := (hw.least l b w).1
  unfold shortAt at this
  simp [hbad, hf, ht] at this
 ·intro hn
  refine List.eq_nil_iff_forall_not_mem.mpr fun x hx => hn ?_
  obtain ⟨k, hk, hx⟩ := List.mem_flatMap.mp hx
  have hk := List.mem_range.mp hk
  have hk2 := (hp.src k hk).bus
  unfold shortAt at hx
  split at hx
  ·simp at hx
  ·rename_i hc
   simp only at hx
   split at hx
   ·rename_i ht
    obtain ⟨_, hw⟩ := ways_of hp hs (b := (at' p.sources k).bus.toNat) (by omega)
    have hlen := hw.inv.len
    obtain ⟨w, _, _⟩ := hw.inv.wk b (by omega) ht
    have : at' s.badBus b = false ∧ feedB p s k = true := by
     revert hc
     cases at' s.badBus b <;> cases feedB p s k <;> simp
    exact ⟨this.1, k, hk, this.2, _, w⟩
   ·simp at hx
omit hp hs
theorem LiveAt.mono {c : List Bool} {b : Nat} (hc : ∀ k, k < p.links.length → at' c k = true → at' s.closed k = true) (h : LiveAt p ⟨c, s.locked, s.badLink, s.on_, s.badSource, s.earthed, s.badBus⟩ b) : LiveAt p s b := by
 obtain ⟨h1, k, hk, hf, l, w⟩ := h
 refine ⟨h1, k, hk, hf, l, ?_⟩
 clear hf h1 hk
 induction w with
 | nil => exact .nil
 | @snoc _ _ _ i _ hi hcb he ih =>
  refine ih.snoc hi ?_ he
  have := hc i hi
  unfold condB at hcb ⊢
  simp only [Bool.and_eq_true] at hcb ⊢
  exact ⟨⟨⟨this hcb.1.1.1, hcb.1.1.2⟩, hcb.1.2⟩, hcb.2⟩
end
end Sg
