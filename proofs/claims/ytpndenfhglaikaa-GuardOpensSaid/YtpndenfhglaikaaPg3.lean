import Derived.Test.YtpndenfhglaikaaPg2
set_option linter.all false
namespace Sg
open Go
def lexB : List Int → List Int → Bool
 | [], [] => false
 | [], _ :: _ => true
 | _ :: _, [] => false
 | a :: x, b :: y => decide (a < b) || (decide (a = b) && lexB x y)
theorem lexB_irrefl : ∀ x, lexB x x = false
 | [] => rfl
 | a :: x => by simp [lexB, lexB_irrefl x]
theorem lexB_trans : ∀ {x y z}, lexB x y = true → lexB y z = true → lexB x z = true
 | [], [], _, h, _ => by cases h
 | [], _ :: _, [], _, h => by cases h
 | [], _ :: _, _ :: _, _, _ => rfl
 | _ :: _, [], _, h, _ => by cases h
 | _ :: _, _ :: _, [], _, h => by cases h
 | a :: x, b :: y, c :: z, h, h' => by
  simp only [lexB, Bool.or_eq_true, Bool.and_eq_true, decide_eq_true_eq] at h h' ⊢
  rcases h with h | ⟨h, g⟩
  ·left; rcases h' with h' | ⟨h', _⟩ <;> omega
  ·rcases h' with h' | ⟨h', g'⟩
   ·left; omega
   ·right; exact ⟨by omega, lexB_trans g g'⟩
theorem lexB_total : ∀ {x y}, x ≠ y → lexB x y = true ∨ lexB y x = true
 | [], [], h => absurd rfl h
 | [], _ :: _, _ => .inl rfl
 | _ :: _, [], _ => .inr rfl
 | a :: x, b :: y, h => by
  simp only [lexB, Bool.or_eq_true, Bool.and_eq_true, decide_eq_true_eq]
  by_cases e : a = b
  ·subst e
   rcases lexB_total (x := x) (y := y) (fun e => h (by rw [e])) with g | g
   ·left; right; exact ⟨rfl, g⟩
   ·right; right; exact ⟨rfl, g⟩
  ·rcases Int.lt_or_lt_of_ne e with g | g
   ·left; left; exact g
   ·right; left; exact g
theorem lexB_snoc : ∀ {x y} (i : Int), x.length = y.length → lexB x y = true → lexB (x ++ [i]) (y ++ [i]) = true
 | [], [], _, _, h => by cases h
 | [], _ :: _, _, h, _ => by simp at h
 | _ :: _, [], _, h, _ => by simp at h
 | a :: x, b :: y, i, hl, h => by
  simp only [lexB, Bool.or_eq_true, Bool.and_eq_true, decide_eq_true_eq, List.cons_append] at h ⊢
  rcases h with h | ⟨h, g⟩
  ·left; exact h
  ·right; exact ⟨h, lexB_snoc i (by simpa using hl) g⟩
abbrev Key := Int × List Int
def kltB (a b : Key) : Bool := decide (a.1 < b.1) || (decide (a.1 = b.1) && (decide (a.2.length < b.2.length) || (decide (a.2.length = b.2.length) && lexB a.2 b.2)))
def kle (a b : Key) : Prop := kltB b a = false
theorem kltB_iff {a b : Key} : kltB a b = true ↔ a.1 < b.1 ∨ (a.1 = b.1 ∧ (a.2.length < b.2.length ∨ (a.2.length = b.2.length ∧ lexB a.2 b.2 = true))) := by
 simp only [kltB, Bool.or_eq_true, Bool.and_eq_true, decide_eq_true_eq]
theorem kltB_irrefl (a : Key) : kltB a a = false := by simp [kltB, lexB_irrefl]
theorem kltB_trans {a b c : Key} (h : kltB a b = true) (h' : kltB b c = true) : kltB a c = true := by
 rw [kltB_iff] at *
 rcases h with h | ⟨h, g⟩
 ·left; rcases h' with h' | ⟨h', _⟩ <;> omega
 ·rcases h' with h' | ⟨h', g'⟩
  ·left; omega
  ·right
   refine ⟨by omega, ?_⟩
   rcases g with g | ⟨g, f⟩
   ·left; rcases g' with g' | ⟨g', _⟩ <;> omega
   ·rcases g' with g' | ⟨g', f'⟩
    ·left; omega
    ·right; exact ⟨by omega, lexB_trans f f'⟩
theorem kltB_total {a b : Key} (h : a ≠ b) : kltB a b = true ∨ kltB b a = true := by
 rw [kltB_iff, kltB_iff]
 by_cases e : a.1 = b.1
 ·by_cases e2 : a.2.length = b.2.length
  ·have : a.2 ≠ b.2 := fun e3 => h (Prod.ext e e3)
   rcases lexB_total this with g | g
   ·left; right; exact ⟨e, .inr ⟨e2, g⟩⟩
   ·right; right; exact ⟨e.symm, .inr ⟨e2.symm, g⟩⟩
  ·rcases Nat.lt_or_gt_of_ne e2 with g | g
   ·left; right; exact ⟨e, .inl g⟩
   ·right; right; exact ⟨e.symm, .inl g⟩
 ·rcases Int.lt_or_lt_of_ne e with g | g
  ·left; left; exact g
  ·right; left; exact g
theorem kle_refl (a : Key) : kle a a := kltB_irrefl a
theorem kle_of_lt {a b : Key} (h : kltB a b = true) : kle a b := by
 unfold kle
 cases e : kltB b a with
 | false => rfl
 | true => have := kltB_trans h e; rw [kltB_irrefl] at this; exact this.symm
theorem kle_trans {a b c : Key} (h : kle a b) (h' : kle b c) : kle a c := by
 by_cases e1 : a = b
 ·rw [e1]; exact h'
 ·by_cases e2 : b = c
  ·rw [← e2]; exact h
  ·have g1 : kltB a b = true := (kltB_total e1).resolve_right (by unfold kle at h; simp [h])
   have g2 : kltB b c = true := (kltB_total e2).resolve_right (by unfold kle at h'; simp [h'])
   exact kle_of_lt (kltB_trans g1 g2)
theorem kle_snoc {a b : Key} (h : kle a b) (d i : Int) : kle (a.1 + d, a.2 ++ [i]) (b.1 + d, b.2 ++ [i]) := by
 by_cases e : a = b
 ·rw [e]; exact kle_refl _
 ·have g : kltB a b = true := (kltB_total e).resolve_right (by unfold kle at h; simp [h])
  apply kle_of_lt
  rw [kltB_iff] at g ⊢
  simp only [List.length_append, List.length_cons, List.length_nil]
  rcases g with g | ⟨g, f⟩
  ·left; omega
  ·right; refine ⟨by omega, ?_⟩
   rcases f with f | ⟨f, k⟩
   ·left; omega
   ·right; exact ⟨by omega, lexB_snoc i f k⟩
inductive Wk (p : Plant) (s : State) (b : Nat) : List Int → Nat → Prop where
 | nil : Wk p s b [] b
 | snoc {l : List Int} {v w i : Nat} : Wk p s b l v → i < p.links.length → condB p s i = true →
   ((at' p.links i).a.toNat = v ∧ (at' p.links i).b.toNat = w ∨ (at' p.links i).b.toNat = v ∧ (at' p.links i).a.toNat = w) → Wk p s b (l ++ [(i : Int)]) w
def ohmL (p : Plant) (l : List Int) : Int := (l.map fun i => (at' p.links i.toNat).ohm).sum
theorem ohmL_snoc (p : Plant) (l : List Int) (i : Nat) : ohmL p (l ++ [(i : Int)]) = ohmL p l + (at' p.links i).ohm := by simp [ohmL]
theorem Wk.len {p : Plant} {s : State} {b : Nat} (hp : VP p) : ∀ {l v}, Wk p s b l v → 10 * (l.length : Int) ≤ ohmL p l := by
 intro l v h
 induction h with
 | nil => simp [ohmL]
 | snoc h hi _ _ ih =>
  rename_i i
  rw [ohmL_snoc]; have := (hp.lnk _ hi).ohm; simp; omega
def cntT (out : List Way) : Nat := out.countP (·.there)
theorem cntT_set : ∀ (out : List Way) (w : Nat) (nx : Way), w < out.length → nx.there = true → cntT (out.set w nx) = if (at' out w).there then cntT out else cntT out + 1
 | [], w, _, h, _ => by simp at h
 | o :: out, 0, nx, _, hn => by
  rw [show at' (o :: out) 0 = o from rfl]
  simp only [List.set_cons_zero, cntT, List.countP_cons, hn]
  cases o.there <;> simp
 | o :: out, w + 1, nx, h, hn => by
  have := cntT_set out w nx (by simpa using h) hn
  rw [show at' (o :: out) (w + 1) = at' out w from rfl]
  simp only [List.set_cons_succ, cntT, List.countP_cons] at this ⊢
  rw [this]
  by_cases e : (at' out w).there = true
  ·rw [if_pos e, if_pos e]
  ·rw [if_neg e, if_neg e]; omega
theorem cntT_le (out : List Way) : cntT out ≤ out.length := List.countP_le_length
def keyW (w : Way) : Key := (w.ohm, w.links)
structure WInv (p : Plant) (s : State) (b : Nat) (out : List Way) : Prop where
 len : (out.length : Int) = p.buses
 wk : ∀ v, v < out.length → (at' out v).there = true → Wk p s b (at' out v).links v ∧ (at' out v).ohm = ohmL p (at' out v).links ∧ (at' out v).ohm ≤ 100000 * (cntT out : Int)
theorem WInv.ohm {p : Plant} {s : State} {b : Nat} {out : List Way} (hp : VP p) (h : WInv p s b out) {v : Nat} (hv : v < out.length) (ht : (at' out v).there = true) : 0 ≤ (at' out v).ohm ∧ (at' out v).ohm ≤ 2400000 ∧ (at' out v).links.length ≤ 240000 := by
 obtain ⟨h1, h2, h3⟩ := h.wk v hv ht
 have := h1.len hp
 have := cntT_le out
 have := h.len
 have := hp.b
 omega
def nxW (p : Plant) (i u : Nat) (out : List Way) : Way := ⟨true, (at' out u).ohm + (at' p.links i).ohm, (at' out u).links ++ [(i : Int)]⟩
def relB (p : Plant) (i u w : Nat) (out : List Way) : Bool := (at' out u).there && (!(at' out w).there || kltB (keyW (nxW p i u out)) (keyW (at' out w)))
def relO (p : Plant) (i u w : Nat) (out : List Way) : List Way := if relB p i u w out then out.set w (nxW p i u out) else out
def WLe (out' out : List Way) : Prop := out'.length = out.length ∧ ∀ v, v < out.length → (at' out v).there = true → (at' out' v).there = true ∧ kle (keyW (at' out' v)) (keyW (at' out v))
theorem WLe.refl (out : List Way) : WLe out out := ⟨rfl, fun _ _ h => ⟨h, kle_refl _⟩⟩
theorem WLe.trans {a b c : List Way} (h : WLe a b) (h' : WLe b c) : WLe a c :=
 ⟨h.1.trans h'.1, fun v hv ht => by
  obtain ⟨t1, k1⟩ := h'.2 v hv ht
  obtain ⟨t2, k2⟩ := h.2 v (by have := h'.1; omega) t1
  exact ⟨t2, kle_trans k2 k1⟩⟩
def IsEnd (p : Plant) (i u w : Nat) : Prop := (at' p.links i).a.toNat = u ∧ (at' p.links i).b.toNat = w ∨ (at' p.links i).b.toNat = u ∧ (at' p.links i).a.toNat = w
section
variable {p : Plant} {s : State} {b : Nat} {out : List Way} {i u w : Nat}
theorem nxW_wk (h : WInv p s b out) (hu : u < out.length) (ht : (at' out u).there = true) (hi : i < p.links.length) (hc : condB p s i = true) (he : IsEnd p i u w) : Wk p s b (nxW p i u out).links w ∧ (nxW p i u out).ohm = ohmL p (nxW p i u out).links := by
 obtain ⟨h1, h2, _⟩ := h.wk u hu ht
 exact ⟨.snoc h1 hi hc he, by simp only [nxW]; rw [ohmL_snoc, h2]⟩
theorem relO_le (hw : w < out.length) : WLe (relO p i u w out) out := by
 unfold relO
 cases hb : relB p i u w out with
 | false => exact WLe.refl _
 | true =>
  refine ⟨by simp, fun v hv ht => ?_⟩
  by_cases e : w = v
  ·subst e
   simp only [if_true]
   rw [at'_set_eq hw]
   refine ⟨rfl, ?_⟩
   simp only [relB, Bool.and_eq_true, Bool.or_eq_true, Bool.not_eq_true', ht, Bool.true_eq_false, false_or] at hb
   exact kle_of_lt hb.2
  ·simp only [if_true]
   rw [at'_set_ne e]; exact ⟨ht, kle_refl _⟩
theorem relO_done (hw : w < out.length) (ht : (at' out u).there = true) : (at' (relO p i u w out) w).there = true ∧ kle (keyW (at' (relO p i u w out) w)) (keyW (nxW p i u out)) := by
 unfold relO
 cases hb : relB p i u w out with
 | true => simp only [if_true]; rw [at'_set_eq hw]; exact ⟨rfl, kle_refl _⟩
 | false =>
  simp only [Bool.false_eq_true, if_false]
  simp only [relB, ht, Bool.true_and, Bool.or_eq_false_iff, Bool.not_eq_false'] at hb
  exact ⟨hb.1, hb.2⟩
theorem relO_inv (hp : VP p) (h : WInv p s b out) (hu : u < out.length) (hw : w < out.length) (hi : i < p.links.length) (hc : condB p s i = true) (he : IsEnd p i u w) : WInv p s b (relO p i u w out) := by
 unfold relO
 cases hb : relB p i u w out with
 | false => simpa using h
 | true =>
  simp only [if_true]
  have ht : (at' out u).there = true := by simp only [relB, Bool.and_eq_true] at hb; exact hb.1
  obtain ⟨n1, n2⟩ := nxW_wk h hu ht hi hc he
  have hcn := cntT_set out w (nxW p i u out) hw rfl
  have hmono : cntT out ≤ cntT (out.set w (nxW p i u out)) := by rw [hcn]; split <;> omega
  refine ⟨by simpa using h.len, fun v hv hvt => ?_⟩
  rw [List.length_set] at hv
  by_cases e : w = v
  ·subst e
   rw [at'_set_eq hw]
   refine ⟨n1, n2, ?_⟩
   have hl := (hp.lnk i hi).ohm
   cases hwt : (at' out w).there with
   | false =>
    rw [hwt] at hcn
    simp only [Bool.false_eq_true, if_false] at hcn
    have := (h.wk u hu ht).2.2
    rw [hcn]; show (at' out u).ohm + (at' p.links i).ohm ≤ _; omega
   | true =>
    simp only [relB, hwt, Bool.and_eq_true, Bool.not_true, Bool.false_or] at hb
    have hk := kltB_iff.mp hb.2
    have := (h.wk w hw hwt).2.2
    simp only [keyW] at hk
    rcases hk with hk | ⟨hk, _⟩ <;> omega
  ·rw [at'_set_ne e] at hvt ⊢
   obtain ⟨h1, h2, h3⟩ := h.wk v hv hvt
   exact ⟨h1, h2, by omega⟩
end
def WR (p : Plant) (s : State) (b k : Nat) (out : List Way) : Prop := ∀ l v, Wk p s b l v → l.length ≤ k → (at' out v).there = true ∧ kle (keyW (at' out v)) (ohmL p l, l)
theorem Wk.lt {p : Plant} {s : State} {b : Nat} (hp : VP p) (hb : (b : Int) < p.buses) : ∀ {l v}, Wk p s b l v → (v : Int) < p.buses := by
 intro l v h
 cases h with
 | nil => exact hb
 | snoc h hi hc he =>
  have h1 := (hp.lnk _ hi).a; have h2 := (hp.lnk _ hi).b
  rcases he with ⟨_, he⟩ | ⟨_, he⟩ <;> omega
theorem WR.le {p : Plant} {s : State} {b k : Nat} {out out' : List Way} (hp : VP p) (hb : (b : Int) < p.buses) (hl : (out.length : Int) = p.buses) (h : WR p s b k out) (hle : WLe out' out) : WR p s b k out' := by
 intro l v hw hk
 obtain ⟨t, g⟩ := h l v hw hk
 obtain ⟨t', g'⟩ := hle.2 v (by have := hw.lt hp hb; omega) t
 exact ⟨t', kle_trans g' g⟩
def stepO (p : Plant) (s : State) (out : List Way) (i : Nat) : List Way :=
 if condB p s i then relO p i (at' p.links i).b.toNat (at' p.links i).a.toNat (relO p i (at' p.links i).a.toNat (at' p.links i).b.toNat out) else out
def stepC (p : Plant) (s : State) (out : List Way) (i : Nat) : Bool :=
 condB p s i && (relB p i (at' p.links i).a.toNat (at' p.links i).b.toNat out || relB p i (at' p.links i).b.toNat (at' p.links i).a.toNat (relO p i (at' p.links i).a.toNat (at' p.links i).b.toNat out))
def passO (p : Plant) (s : State) (out : List Way) : Nat → List Way
 | 0 => out
 | n + 1 => stepO p s (passO p s out n) n
def passC (p : Plant) (s : State) (out : List Way) : Nat → Bool
 | 0 => false
 | n + 1 => passC p s out n || stepC p s (passO p s out n) n
section
variable {p : Plant} {s : State} {b : Nat} {out : List Way}
theorem ends_lt (hp : VP p) (hl : (out.length : Int) = p.buses) {i : Nat} (hi : i < p.links.length) : (at' p.links i).a.toNat < out.length ∧ (at' p.links i).b.toNat < out.length := by
 have h1 := (hp.lnk _ hi).a; have h2 := (hp.lnk _ hi).b; omega
theorem stepO_inv (hp : VP p) (h : WInv p s b out) {i : Nat} (hi : i < p.links.length) : WInv p s b (stepO p s out i) ∧ WLe (stepO p s out i) out := by
 unfold stepO
 obtain ⟨ha, hb⟩ := ends_lt hp h.len hi
 cases hc : condB p s i with
 | false => exact ⟨h, WLe.refl _⟩
 | true =>
  simp only [if_true]
  have h1 := relO_inv hp h ha hb hi hc (.inl ⟨rfl, rfl⟩)
  have l1 : WLe (relO p i (at' p.links i).a.toNat (at' p.links i).b.toNat out) out := relO_le hb
  have e := l1.1
  have h2 := relO_inv hp h1 (u := (at' p.links i).b.toNat) (w := (at' p.links i).a.toNat) (by omega) (by omega) hi hc (.inr ⟨rfl, rfl⟩)
  exact ⟨h2, (relO_le (by omega)).trans l1⟩
theorem passO_inv (hp : VP p) (h : WInv p s b out) : ∀ n, n ≤ p.links.length → WInv p s b (passO p s out n) ∧ WLe (passO p s out n) out
 | 0, _ => ⟨h, WLe.refl _⟩
 | n + 1, hn => by
  obtain ⟨h1, l1⟩ := passO_inv hp h n (by omega)
  obtain ⟨h2, l2⟩ := stepO_inv hp h1 (i := n) (by omega)
  exact ⟨h2, l2.trans l1⟩
theorem passO_mono (hp : VP p) (h : WInv p s b out) (m : Nat) : ∀ n, m ≤ n → n ≤ p.links.length → WLe (passO p s out n) (passO p s out m) := by
 intro n
 induction n with
 | zero =>
  intro hm _
  have : m = 0 := by omega
  subst this; exact WLe.refl _
 | succ n ih =>
  intro hm hn
  by_cases e : m = n + 1
  ·subst e; exact WLe.refl _
  ·exact (stepO_inv hp (passO_inv hp h n (by omega)).1 (i := n) (by omega)).2.trans (ih (by omega) (by omega))
theorem passO_done (hp : VP p) (h : WInv p s b out) {i u w : Nat} (hi : i < p.links.length) (hc : condB p s i = true) (he : IsEnd p i u w) (hu : u < out.length) (ht : (at' out u).there = true) :
  (at' (passO p s out p.links.length) w).there = true ∧ kle (keyW (at' (passO p s out p.links.length) w)) (keyW (nxW p i u out)) := by
 obtain ⟨h1, l1⟩ := passO_inv hp h i (by omega)
 have hlast := passO_mono hp h (i + 1) p.links.length (by omega) (Nat.le_refl _)
 obtain ⟨ha, hb⟩ := ends_lt hp h1.len hi
 have hstep : (at' (stepO p s (passO p s out i) i) w).there = true ∧ kle (keyW (at' (stepO p s (passO p s out i) i) w)) (keyW (nxW p i u out)) := by
  unfold stepO
  rw [hc]; simp only [if_true]
  have l2 : WLe (relO p i (at' p.links i).a.toNat (at' p.links i).b.toNat (passO p s out i)) (passO p s out i) := relO_le hb
  have e2 := l2.1
  have l3 : WLe (relO p i (at' p.links i).b.toNat (at' p.links i).a.toNat (relO p i (at' p.links i).a.toNat (at' p.links i).b.toNat (passO p s out i))) (relO p i (at' p.links i).a.toNat (at' p.links i).b.toNat (passO p s out i)) := relO_le (by omega)
  obtain ⟨t1, k1⟩ := l1.2 u hu ht
  rcases he with ⟨rfl, rfl⟩ | ⟨rfl, rfl⟩
  ·obtain ⟨t2, k2⟩ := relO_done (p := p) (i := i) hb t1
   obtain ⟨t3, k3⟩ := l3.2 _ (by omega) t2
   exact ⟨t3, kle_trans k3 (kle_trans k2 (kle_snoc k1 _ _))⟩
  ·obtain ⟨t2, k2⟩ := l2.2 _ (by have := l1.1; omega) t1
   obtain ⟨t3, k3⟩ := relO_done (p := p) (i := i) (w := (at' p.links i).a.toNat) (by omega) t2
   exact ⟨t3, kle_trans k3 (kle_snoc (kle_trans k2 k1) _ _)⟩
 obtain ⟨t, k⟩ := hstep
 obtain ⟨t', k'⟩ := hlast.2 w (by
  have e1 := (stepO_inv hp h1 hi).2.1
  show w < (stepO p s (passO p s out i) i).length
  have : w = (at' p.links i).a.toNat ∨ w = (at' p.links i).b.toNat := by rcases he with ⟨_, h⟩ | ⟨_, h⟩ <;> simp [h]
  omega) t
 exact ⟨t', kle_trans k' k⟩
theorem passO_R (hp : VP p) (hb : (b : Int) < p.buses) (h : WInv p s b out) {k : Nat} (hr : WR p s b k out) : WR p s b (k + 1) (passO p s out p.links.length) := by
 intro l v hw hk
 cases hw with
 | nil =>
  exact (hr.le hp hb h.len (passO_inv hp h _ (Nat.le_refl _)).2) [] b .nil (by simp)
 | snoc hw hi hc he =>
  rename_i l u i
  obtain ⟨t, g⟩ := hr l u hw (by simpa using hk)
  have hu : u < out.length := by have := hw.lt hp hb; have := h.len; omega
  obtain ⟨t2, g2⟩ := passO_done hp h hi hc he hu t
  refine ⟨t2, kle_trans g2 ?_⟩
  rw [ohmL_snoc]
  exact kle_snoc g _ _
theorem relB_full (hp : VP p) (h : WInv p s b out) {k : Nat} (hk : 240001 ≤ k) (hr : WR p s b k out) {i u w : Nat} (hu : u < out.length) (hi : i < p.links.length) (hc : condB p s i = true) (he : IsEnd p i u w) : relB p i u w out = false := by
 cases ht : (at' out u).there with
 | false => simp [relB, ht]
 | true =>
  obtain ⟨n1, n2⟩ := nxW_wk h hu ht hi hc he
  have := (h.ohm hp hu ht).2.2
  obtain ⟨t, g⟩ := hr _ _ n1 (by simp [nxW]; omega)
  rw [← n2] at g
  simp only [relB, ht, t, Bool.not_true, Bool.false_or, Bool.true_and]
  exact g
theorem pass_full (hp : VP p) (h : WInv p s b out) {k : Nat} (hk : 240001 ≤ k) (hr : WR p s b k out) : ∀ n, n ≤ p.links.length → passO p s out n = out ∧ passC p s out n = false
 | 0, _ => ⟨rfl, rfl⟩
 | n + 1, hn => by
  obtain ⟨e1, e2⟩ := pass_full hp h hk hr n (by omega)
  obtain ⟨ha, hb⟩ := ends_lt hp h.len (show n < p.links.length by omega)
  unfold passO passC
  rw [e1, e2]
  unfold stepO stepC
  cases hc : condB p s n with
  | false => simp
  | true =>
   have r1 := relB_full hp h hk hr ha (show n < p.links.length by omega) hc (.inl ⟨rfl, rfl⟩)
   have r2 := relB_full hp h hk hr hb (show n < p.links.length by omega) hc (.inr ⟨rfl, rfl⟩)
   have o1 : relO p n (at' p.links n).a.toNat (at' p.links n).b.toNat out = out := by simp [relO, r1]
   have o2 : relO p n (at' p.links n).b.toNat (at' p.links n).a.toNat out = out := by simp [relO, r2]
   rw [o1, o2, r1, r2]; simp
theorem passC_false : ∀ n, passC p s out n = false → passO p s out n = out
 | 0, _ => rfl
 | n + 1, h => by
  simp only [passC, Bool.or_eq_false_iff] at h
  have e := passC_false n h.1
  unfold passO
  rw [e] at h ⊢
  unfold stepO
  cases hc : condB p s n with
  | false => simp
  | true =>
   have h2 := h.2
   simp only [stepC, hc, Bool.true_and, Bool.or_eq_false_iff] at h2
   have o1 : relO p n (at' p.links n).a.toNat (at' p.links n).b.toNat out = out := by simp [relO, h2.1]
   rw [o1] at h2 ⊢
   simp [relO, h2.2]
end
structure WFin (p : Plant) (s : State) (b : Nat) (out : List Way) : Prop where
 inv : WInv p s b out
 least : ∀ l v, Wk p s b l v → (at' out v).there = true ∧ kle (keyW (at' out v)) (ohmL p l, l)
theorem WFin.of_fix {p : Plant} {s : State} {b : Nat} {out : List Way} (hp : VP p) (hb : (b : Int) < p.buses) (h : WInv p s b out) (h0 : WR p s b 0 out) (hf : passO p s out p.links.length = out) : WFin p s b out := by
 refine ⟨h, fun l v hw => ?_⟩
 have : ∀ k, WR p s b k out := by
  intro k
  induction k with
  | zero => exact h0
  | succ k ih => have := passO_R hp hb h ih; rwa [hf] at this
 exact this l.length l v hw (Nat.le_refl _)
end Sg
