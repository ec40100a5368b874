import Derived.Test.YtpndenfhglaikaaPg5
set_option linter.all false
namespace Sg
open Go
set_option linter.unusedSectionVars false
set_option linter.unusedVariables false
def Ch (hd : List (Int × Int)) : Nat → Int → Int → Prop
 | 0, x, r => mget eqI x hd = none ∧ r = x
 | k + 1, x, r => ∃ y, mget eqI x hd = some y ∧ Ch hd k y r
theorem of_run {hd : List (Int × Int)} : ∀ (k : Nat) (x r : Int), Ch hd k x r → loopO (m_plant_groups_of_v1_L0 ⟨hd⟩) (k + 1) x = some (.ret r)
 | 0, x, r, h => by
  obtain ⟨h, e⟩ := h
  rw [loopO_succ]; unfold m_plant_groups_of_v1_L0; simp [h, e]
 | k + 1, x, r, h => by
  obtain ⟨y, h, hc⟩ := h
  have : m_plant_groups_of_v1_L0 ⟨hd⟩ x = some (.next y) := by unfold m_plant_groups_of_v1_L0; simp [h]
  rw [loopO_succ, this]
  exact of_run k y r hc
theorem of_eq {hd : List (Int × Int)} {k : Nat} {x r : Int} (h : Ch hd k x r) (hk : k ≤ 1000) : m_plant_groups_of_v1 ⟨hd⟩ x = some r := by
 unfold m_plant_groups_of_v1
 rw [loopO_more (of_run k x r h) (by unfold FUEL; omega)]; rfl
theorem Ch.root {hd : List (Int × Int)} : ∀ {k : Nat} {x r : Int}, Ch hd k x r → mget eqI r hd = none
 | 0, x, r, h => by obtain ⟨h, e⟩ := h; rw [e]; exact h
 | k + 1, x, r, h => by obtain ⟨y, _, hc⟩ := h; exact hc.root
theorem Ch.set {hd : List (Int × Int)} {a b : Int} (hab : a ≠ b) (ha : mget eqI a hd = none) (hb : mget eqI b hd = none) : ∀ {k : Nat} {x r : Int}, Ch hd k x r →
  ∃ k', k' ≤ k + 1 ∧ Ch (mset eqI a b hd) k' x (if r = a then b else r)
 | 0, x, r, h => by
  obtain ⟨h, e⟩ := h
  subst e
  by_cases e : r = a
  ·subst e
   rw [if_pos rfl]
   exact ⟨1, by omega, b, mget_mset_same _ _ _, by rw [mget_mset_ne (Ne.symm hab)]; exact hb, rfl⟩
  ·rw [if_neg e]
   exact ⟨0, by omega, by rw [mget_mset_ne e]; exact h, rfl⟩
 | k + 1, x, r, h => by
  obtain ⟨y, h, hc⟩ := h
  obtain ⟨k', hk, hc'⟩ := hc.set hab ha hb
  have : x ≠ a := fun e => by rw [e, ha] at h; cases h
  exact ⟨k' + 1, by omega, y, by rw [mget_mset_ne this]; exact h, hc'⟩
section
variable {p : Plant} {s : State}
theorem Wk.trans {u v w : Nat} {l m : List Int} (h : Wk p s u l v) (h' : Wk p s v m w) : Wk p s u (l ++ m) w := by
 induction h' with
 | nil => simpa using h
 | snoc _ hi hc he ih => rw [← List.append_assoc]; exact ih.snoc hi hc he
theorem Wk.symm {u v : Nat} {l : List Int} (h : Wk p s u l v) : ∃ m, Wk p s v m u := by
 induction h with
 | nil => exact ⟨[], .nil⟩
 | snoc _ hi hc he ih =>
  obtain ⟨m, hm⟩ := ih
  exact ⟨_, (Wk.nil.snoc hi hc (he.symm.imp id id |>.elim (fun ⟨a, b⟩ => .inl ⟨b, a⟩) fun ⟨a, b⟩ => .inr ⟨b, a⟩)).trans hm⟩
def ufO (p : Plant) (s : State) : Nat → List (Int × Int) × (Int → Int)
 | 0 => ([], id)
 | n + 1 =>
  let q := ufO p s n
  if condB p s n = true ∧ q.2 (at' p.links n).a ≠ q.2 (at' p.links n).b then
   (mset eqI (q.2 (at' p.links n).a) (q.2 (at' p.links n).b) q.1, fun x => if q.2 x = q.2 (at' p.links n).a then q.2 (at' p.links n).b else q.2 x)
  else q
structure UF (p : Plant) (s : State) (n : Nat) (hd : List (Int × Int)) (f : Int → Int) : Prop where
 ch : ∀ x, ∃ k, k ≤ n ∧ Ch hd k x (f x)
 cn : ∀ x : Nat, (x : Int) < p.buses → 0 ≤ f x ∧ f x < p.buses ∧ ∃ l, Wk p s x l (f x).toNat
 ed : ∀ i, i < n → condB p s i = true → f (at' p.links i).a = f (at' p.links i).b
theorem uf (hp : VP p) : ∀ n, n ≤ p.links.length → UF p s n (ufO p s n).1 (ufO p s n).2
 | 0, _ => ⟨fun x => ⟨0, Nat.le_refl _, rfl, rfl⟩, fun x hx => ⟨by show (0 : Int) ≤ x; omega, hx, [], by show Wk p s x [] ((x : Int).toNat); simp; exact .nil⟩, fun i hi => absurd hi (Nat.not_lt_zero _)⟩
 | n + 1, hn => by
  have h := uf hp n (by omega)
  have hl := hp.lnk n (by omega)
  unfold ufO
  by_cases hc : condB p s n = true ∧ (ufO p s n).2 (at' p.links n).a ≠ (ufO p s n).2 (at' p.links n).b
  ·rw [if_pos hc]
   obtain ⟨hc1, hc2⟩ := hc
   obtain ⟨ka, _, ca⟩ := h.ch (at' p.links n).a
   obtain ⟨kb, _, cb⟩ := h.ch (at' p.links n).b
   refine ⟨fun x => ?_, fun x hx => ?_, fun i hi hci => ?_⟩
   ·obtain ⟨k, hk, c⟩ := h.ch x
    obtain ⟨k', hk', c'⟩ := c.set hc2 ca.root cb.root
    exact ⟨k', by omega, c'⟩
   ·obtain ⟨h0, h1, l, hw⟩ := h.cn x hx
    simp only
    by_cases e : (ufO p s n).2 x = (ufO p s n).2 (at' p.links n).a
    ·rw [if_pos e]
     have ha := hl.a; have hb := hl.b
     obtain ⟨_, _, la, wa⟩ := h.cn (at' p.links n).a.toNat (by omega)
     obtain ⟨b0, b1, lb, wb⟩ := h.cn (at' p.links n).b.toNat (by omega)
     have ea : (((at' p.links n).a.toNat : Nat) : Int) = (at' p.links n).a := by omega
     have eb : (((at' p.links n).b.toNat : Nat) : Int) = (at' p.links n).b := by omega
     rw [ea, ← e] at wa
     rw [eb] at wb b0 b1
     obtain ⟨m, wm⟩ := wa.symm
     refine ⟨b0, b1, _, ((hw.trans wm).snoc (by omega) hc1 (.inl ⟨rfl, rfl⟩)).trans wb⟩
    ·rw [if_neg e]; exact ⟨h0, h1, l, hw⟩
   ·simp only
    by_cases e : i = n
    ·subst e; rw [if_pos rfl]
     by_cases e2 : (ufO p s i).2 (at' p.links i).b = (ufO p s i).2 (at' p.links i).a
     ·rw [if_pos e2]
     ·rw [if_neg e2]
    ·rw [h.ed i (by omega) hci]
  ·rw [if_neg hc]
   refine ⟨fun x => ?_, h.cn, fun i hi hci => ?_⟩
   ·obtain ⟨k, hk, c⟩ := h.ch x; exact ⟨k, by omega, c⟩
   ·by_cases e : i = n
    ·subst e
     by_cases e2 : (ufO p s i).2 (at' p.links i).a = (ufO p s i).2 (at' p.links i).b
     ·exact e2
     ·exact absurd ⟨hci, e2⟩ hc
    ·exact h.ed i (by omega) hci
def headOf (p : Plant) (s : State) (x : Nat) : Int := (ufO p s p.links.length).2 x
theorem head_iff (hp : VP p) {u v : Nat} (hu : (u : Int) < p.buses) (hv : (v : Int) < p.buses) : headOf p s u = headOf p s v ↔ ∃ l, Wk p s u l v := by
 have h := uf (s := s) hp p.links.length (Nat.le_refl _)
 constructor
 ·intro e
  obtain ⟨_, _, l, w⟩ := h.cn u hu
  obtain ⟨_, _, m, w'⟩ := h.cn v hv
  obtain ⟨m', w''⟩ := w'.symm
  have : (ufO p s p.links.length).2 u = (ufO p s p.links.length).2 v := e
  rw [this] at w
  exact ⟨_, w.trans w''⟩
 ·rintro ⟨l, w⟩
  clear hv
  induction w with
  | nil => rfl
  | snoc w hi hc he ih =>
   rename_i i
   rw [ih]
   have hl := hp.lnk i hi
   have ha := hl.a; have hb := hl.b
   have ed := h.ed i hi hc
   unfold headOf
   rcases he with ⟨e1, e2⟩ | ⟨e1, e2⟩
   ·rw [← e1, ← e2, Int.toNat_of_nonneg (by omega), Int.toNat_of_nonneg (by omega), ed]
   ·rw [← e1, ← e2, Int.toNat_of_nonneg (by omega), Int.toNat_of_nonneg (by omega), ed]
theorem of_head (hp : VP p) (x : Int) : m_plant_groups_of_v1 ⟨(ufO p s p.links.length).1⟩ x = some ((ufO p s p.links.length).2 x) := by
 obtain ⟨k, hk, c⟩ := (uf (s := s) hp p.links.length (Nat.le_refl _)).ch x
 have := hp.ll
 exact of_eq c (by omega)
theorem join_eq (hp : VP p) {n : Nat} (hn : n < p.links.length) (hc : condB p s n = true) : m_plant_groups_join ⟨(ufO p s n).1⟩ (at' p.links n).a (at' p.links n).b = some (ufO p s (n + 1)).1 := by
 have h := uf (s := s) hp n (by omega)
 have := hp.ll
 obtain ⟨ka, _, ca⟩ := h.ch (at' p.links n).a
 obtain ⟨kb, _, cb⟩ := h.ch (at' p.links n).b
 unfold m_plant_groups_join
 rw [of_eq ca (by omega), of_eq cb (by omega)]
 simp only [Option.bind_some]
 rw [ufO]
 by_cases e : (ufO p s n).2 (at' p.links n).a = (ufO p s n).2 (at' p.links n).b
 ·simp [e]
 ·simp [e, hc]
end
end Sg
