import Derived.Test.YtpndenfhglaikaaRegion
set_option linter.all false
namespace Sg
open Go
section
variable (Fc : Cl → List SV → List (Nat × Option Ob) → TV → List (Nat × Option Ob) → Prop) (T : List (Nat × TI)) (ops : List Oper) (yb : Nat → Bool) (an : Nat → Ann) (fr : Nat → Nat) (N : Nat)
def tmpsOf : List Operand → List Nat
  | [] => []
  | .tmp t :: l => t :: tmpsOf l
  | _ :: l => tmpsOf l
def readsOf (o : Oper) : List Nat :=
  (match o.guard with
   | some (j, _) => match ops[j]? with | some oj => (match oj.dst with | some d => [d] | none => []) | none => []
   | none => []) ++ tmpsOf o.op.operands.toList
def disjL : List Nat → List Nat → Bool
  | [], _ => true
  | x :: l, m => bif memL x m then false else disjL l m
structure Info where
  ft : List Nat
  ro : Bool
def indepD (d : Option Nat) (l : List Nat) : Bool := match d with | some d => !(memL d l) | none => true
def indep (info : Nat → Info) (i j : Nat) : Bool :=
  match ops[i]?, ops[j]? with
  | some oi, some oj =>
    indepD oi.dst (readsOf ops oj) && indepD oj.dst (readsOf ops oi) && (match oi.dst, oj.dst with | some a, some b => !(Nat.beq a b) | _, _ => true) &&
      (((info i).ro && (info j).ro) || disjL (info i).ft (info j).ft)
  | _, _ => false
def runI : List Nat → RS → Option (List Prop × RS × List (Nat × Info))
  | [], r => some ([], r, [])
  | i :: l, r => match core Fc T ops yb an fr N i r.s r.h with
    | some c => match runI l ⟨putS r.s ((ops[i]?).bind (·.dst)) c.ent, upd r.h c.hd⟩ with
      | some (c', r2, inf) => some (c.conds ++ c', r2, (i, ⟨c.ft, isNilL c.hd⟩) :: inf)
      | none => none
    | none => none
def Step (info : Nat → Info) (i : Nat) (r r' : RS) : Prop :=
  ∃ c, core Fc T ops yb an fr N i r.s r.h = some c ∧ All c.conds ∧ c.ft = (info i).ft ∧ isNilL c.hd = (info i).ro ∧ r' = ⟨putS r.s ((ops[i]?).bind (·.dst)) c.ent, upd r.h c.hd⟩
def Steps (info : Nat → Info) : List Nat → RS → RS → Prop
  | [], r, r' => r' = r
  | i :: l, r, r' => ∃ r1, Step Fc T ops yb an fr N info i r r1 ∧ Steps info l r1 r'
end
section
variable {Fc : Cl → List SV → List (Nat × Option Ob) → TV → List (Nat × Option Ob) → Prop} {T : List (Nat × TI)} {ops : List Oper} {yb : Nat → Bool} {an : Nat → Ann} {fr : Nat → Nat} {N : Nat} {info : Nat → Info}
theorem opd_congr {s s' : Slots} {x : Operand} (h : ∀ t, x = .tmp t → s' t = s t) : opd s' x = opd s x := by
  cases x with
  | tmp t => exact h t rfl
  | const _ => rfl
  | func _ => rfl
  | global _ => rfl
theorem mem_tmpsOf {t : Nat} : ∀ {l : List Operand}, .tmp t ∈ l → t ∈ tmpsOf l
  | [], h => by simp at h
  | x :: l, h => by
    rcases List.mem_cons.1 h with rfl | h
    · simp [tmpsOf]
    · have := mem_tmpsOf h
      cases x <;> simp [tmpsOf, this]
theorem opds_congr {s s' : Slots} {g : List (Nat × Bool)} : ∀ {l : List Operand}, (∀ t ∈ tmpsOf l, s' t = s t) → opds s' g l = opds s g l
  | [], _ => rfl
  | x :: l, h => by
    simp only [opds]
    rw [opd_congr (s := s) (s' := s') fun t e => h t (by subst e; simp [tmpsOf]), opds_congr (l := l) fun t ht => h t (by cases x <;> simp [tmpsOf, ht])]
theorem map_congr_mem {α β : Type} {f g : α → β} : ∀ {l : List α}, (∀ x ∈ l, f x = g x) → l.map f = l.map g
  | [], _ => rfl
  | x :: l, h => by rw [List.map_cons, List.map_cons, h x (by simp), map_congr_mem fun y hy => h y (by simp [hy])]
theorem core_congr {i : Nat} {s s' : Slots} {h h' : Hp} {c : Core} (hc : core Fc T ops yb an fr N i s h = some c) (hs : ∀ o, ops[i]? = some o → ∀ t ∈ readsOf ops o, s' t = s t) (hh : ∀ b ∈ c.ft, h' b = h b) :
    core Fc T ops yb an fr N i s' h' = some c := by
  unfold core at hc ⊢
  cases ho : ops[i]? with
  | none => rw [ho] at hc; cases hc
  | some o =>
    have hs := hs o ho
    rw [ho] at hc
    simp only at hc ⊢
    have hg : guardOf ops yb s' o = guardOf ops yb s o := by
      unfold guardOf
      cases hgo : o.guard with
      | none => rfl
      | some x =>
        obtain ⟨j, want⟩ := x
        simp only
        cases hoj : ops[j]? with
        | none => rfl
        | some oj =>
          simp only
          cases hd : oj.dst with
          | none => rfl
          | some d =>
            simp only
            rw [hs d (by simp [readsOf, hgo, hoj, hd])]
    rw [hg]
    cases hgd : guardOf ops yb s o with
    | none => rw [hgd] at hc; cases hc
    | some x =>
      obtain ⟨g, c0⟩ := x
      rw [hgd] at hc
      simp only at hc ⊢
      cases hdok : dstOk N o.dst with
      | false => rw [hdok] at hc; simp at hc
      | true =>
        rw [hdok] at hc
        simp only [cond_true] at hc ⊢
        have hrd : ∀ t ∈ tmpsOf o.op.operands.toList, s' t = s t := fun t ht => hs t (by simp only [readsOf, List.mem_append]; exact .inr ht)
        split at hc
        · rename_i x y z hop
          have e1 : ∀ u, u ∈ [x, y, z] → opd s' u = opd s u := fun u hu => opd_congr fun t e => hrd t (mem_tmpsOf (by rw [hop, ← e]; simpa [Op.operands] using hu))
          have hp : pickE yb s' g x y z = pickE yb s g x y z := by
            unfold pickE
            rw [e1 x (by simp), e1 y (by simp), e1 z (by simp)]
          rw [hp]; exact hc
        · rename_i hnp
          rw [opds_congr hrd]
          split at hc
          · cases hc; rfl
          split at hc
          · cases hc
          · rename_i xs hxs
            split at hc
            · cases hc
            · rename_i E hE
              cases hb : (subL (E.hd.map (·.1)) (foot (an i) (fr i) o.op xs)) with
              | false => simp [hb] at hc
              | true =>
                simp only [hb, cond_true] at hc
                cases hc
                rw [map_congr_mem (f := h') (g := h) fun b hb' => hh b hb', hE]
                simp only [hb, cond_true]
theorem core_keys {i : Nat} {s : Slots} {h : Hp} {c : Core} (hc : core Fc T ops yb an fr N i s h = some c) : ∀ b ∈ c.hd.map (·.1), b ∈ c.ft := by
  unfold core at hc
  split at hc
  · cases hc
  · split at hc
    · cases hc
    · rename_i o _ _ g c0 _
      cases hdok : dstOk N o.dst with
      | false => rw [hdok] at hc; simp at hc
      | true =>
        rw [hdok] at hc
        simp only [cond_true] at hc
        split at hc
        · split at hc
          · cases hc; simp
          · cases hc
        · split at hc
          · cases hc; simp
          split at hc
          · cases hc
          · rename_i xs _
            split at hc
            · cases hc
            · rename_i E _
              cases hb : (subL (E.hd.map (·.1)) (foot (an i) (fr i) o.op xs)) with
              | false => simp [hb] at hc
              | true =>
                simp only [hb, cond_true] at hc
                cases hc
                exact subL_iff.1 hb
theorem memL_false {x : Nat} {l : List Nat} (h : memL x l = false) : x ∉ l := fun hm => by rw [memL_iff.2 hm] at h; cases h
theorem disjL_spec : ∀ {l m : List Nat}, disjL l m = true → ∀ x ∈ l, x ∉ m
  | [], _, _, _, h => by simp at h
  | y :: l, m, h, x, hx => by
    simp only [disjL] at h
    cases hb : memL y m with
    | true => simp [hb] at h
    | false =>
      simp only [hb, cond_false] at h
      rcases List.mem_cons.1 hx with rfl | hx
      · exact memL_false hb
      · exact disjL_spec h x hx
theorem upd_comm {h : Hp} {l m : List (Nat × Option Ob)} (hd : ∀ b ∈ l.map (·.1), b ∉ m.map (·.1)) : upd (upd h l) m = upd (upd h m) l := by
  funext b
  simp only [upd]
  cases hl : get l b with
  | none => simp
  | some x =>
    have : get m b = none := get_none_of_not_mem (hd b (mem_of_get (by rw [hl]; simp)))
    simp [this]
theorem putS_comm {s : Slots} {d d' : Option Nat} {e e' : Ent} (h : ∀ x y, d = some x → d' = some y → x ≠ y) : putS (putS s d e) d' e' = putS (putS s d' e') d e := by
  cases d with
  | none => rfl
  | some x =>
    cases d' with
    | none => rfl
    | some y =>
      have hne := h x y rfl rfl
      funext t
      rw [putS_get, putS_get, putS_get, putS_get]
      by_cases e1 : t = x
      · subst e1; simp [hne]
      · by_cases e2 : t = y
        · subst e2; simp [e1]
        · simp [e1, e2]
theorem isNilL_iff {α : Type} {l : List α} (h : isNilL l = true) : l = [] := by cases l <;> first | rfl | cases h
theorem step_swap {i j : Nat} {r r1 r2 : RS} (hin : indep ops info i j = true) (h1 : Step Fc T ops yb an fr N info i r r1) (h2 : Step Fc T ops yb an fr N info j r1 r2) :
    ∃ r1', Step Fc T ops yb an fr N info j r r1' ∧ Step Fc T ops yb an fr N info i r1' r2 := by
  obtain ⟨c1, a1, a2, a3, a4, rfl⟩ := h1
  obtain ⟨c2, b1, b2, b3, b4, rfl⟩ := h2
  unfold indep at hin
  split at hin
  · rename_i oi oj hoi hoj
    simp only [Bool.and_eq_true, Bool.or_eq_true] at hin
    obtain ⟨⟨⟨d1, d2⟩, d3⟩, d4⟩ := hin
    have hdi : (ops[i]?).bind (·.dst) = oi.dst := by rw [hoi]; rfl
    have hdj : (ops[j]?).bind (·.dst) = oj.dst := by rw [hoj]; rfl
    rw [hdi] at b1 ⊢
    rw [hdj]
    have k1 := core_keys a1
    have k2 := core_keys b1
    have hne : ∀ x y, oi.dst = some x → oj.dst = some y → x ≠ y := fun x y ex ey e => by
      rw [ex, ey] at d3
      simp only at d3
      have : Nat.beq x y = true := by rw [e]; exact Nat.beq_refl y
      rw [this] at d3; cases d3
    have hheap : (∀ b ∈ c2.ft, upd r.h c1.hd b = r.h b) ∧ (∀ b ∈ c1.ft, upd r.h c2.hd b = r.h b) ∧ upd (upd r.h c1.hd) c2.hd = upd (upd r.h c2.hd) c1.hd := by
      rcases d4 with ⟨e1, e2⟩ | e
      · rw [← a4] at e1
        rw [← b4] at e2
        rw [isNilL_iff e1, isNilL_iff e2]
        exact ⟨fun _ _ => rfl, fun _ _ => rfl, rfl⟩
      · rw [← a3, ← b3] at e
        have e := disjL_spec e
        refine ⟨fun b hb => ?_, fun b hb => ?_, upd_comm fun b hb hb' => e b (k1 b hb) (k2 b hb')⟩
        · simp only [upd]; rw [get_none_of_not_mem fun hm => e b (k1 b hm) hb]
        · simp only [upd]; rw [get_none_of_not_mem fun hm => e b hb (k2 b hm)]
    have c2' : core Fc T ops yb an fr N j r.s r.h = some c2 := by
      refine core_congr b1 (fun o ho t ht => ?_) fun b hb => (hheap.1 b hb).symm
      rw [hoj] at ho; cases ho
      cases hd : oi.dst with
      | none => rfl
      | some x =>
        show r.s t = putS r.s (some x) c1.ent t
        rw [putS_get, if_neg]
        intro e
        rw [hd] at d1
        simp only [indepD, Bool.not_eq_true'] at d1
        exact memL_false d1 (e ▸ ht)
    have c1' : core Fc T ops yb an fr N i (putS r.s oj.dst c2.ent) (upd r.h c2.hd) = some c1 := by
      refine core_congr a1 (fun o ho t ht => ?_) hheap.2.1
      rw [hoi] at ho; cases ho
      cases hd : oj.dst with
      | none => rfl
      | some x =>
        rw [putS_get, if_neg]
        intro e
        rw [hd] at d2
        simp only [indepD, Bool.not_eq_true'] at d2
        exact memL_false d2 (e ▸ ht)
    refine ⟨⟨putS r.s oj.dst c2.ent, upd r.h c2.hd⟩, ⟨c2, c2', b2, b3, b4, by rw [hdj]⟩, ⟨c1, c1', a2, a3, a4, ?_⟩⟩
    rw [hdi, putS_comm hne, hheap.2.2]
  · cases hin
theorem steps_front {x : Nat} : ∀ {A l : List Nat} {r r' : RS}, (∀ a ∈ A, indep ops info a x = true) → Steps Fc T ops yb an fr N info (A ++ x :: l) r r' → Steps Fc T ops yb an fr N info (x :: (A ++ l)) r r'
  | [], _, _, _, _, h => h
  | a :: A, l, r, r', hin, ⟨r1, h1, h2⟩ => by
    obtain ⟨r2, h3, h4⟩ := steps_front (A := A) (fun b hb => hin b (by simp [hb])) h2
    obtain ⟨r1', h5, h6⟩ := step_swap (hin a (by simp)) h1 h3
    exact ⟨r1', h5, r2, h6, h4⟩
def clOk (ops : List Oper) (cl : Nat → List Nat) : Nat → Bool
  | 0 => true
  | n + 1 => clOk ops cl n && (match ops[n]? with
    | some o => (o.after.toList.all fun e => !(Region.binds .any e) || (Nat.blt e.on n && subL (cl e.on) (cl n) && memL e.on (cl n))) &&
        ((cl n).all fun x => o.after.toList.any fun e => Region.binds .any e && (Nat.beq x e.on || memL x (cl e.on)))
    | none => false)
def allIndep (ops : List Oper) (info : Nat → Info) (cl : Nat → List Nat) : Nat → Bool
  | 0 => true
  | n + 1 => allIndep ops info cl n && rowIndep n
  where
  rowIndep (x : Nat) : Bool := go x x
  go (x : Nat) : Nat → Bool
    | 0 => true
    | a + 1 => go x a && (memL a (cl x) || indep ops info a x)
theorem allIndep_spec {cl : Nat → List Nat} : ∀ {n : Nat}, allIndep ops info cl n = true → ∀ x, x < n → ∀ a, a < x → a ∈ cl x ∨ indep ops info a x = true
  | 0, _, x, hx, _, _ => by omega
  | n + 1, h, x, hx, a, ha => by
    simp only [allIndep, Bool.and_eq_true] at h
    by_cases e : x = n
    · subst e
      have key : ∀ m, allIndep.go ops info cl x m = true → ∀ a, a < m → a ∈ cl x ∨ indep ops info a x = true := by
        intro m
        induction m with
        | zero => intro _ a ha; omega
        | succ m ih =>
          intro hm a ha
          simp only [allIndep.go, Bool.and_eq_true, Bool.or_eq_true] at hm
          by_cases e : a = m
          · subst e
            rcases hm.2 with h | h
            · exact .inl (memL_iff.1 h)
            · exact .inr h
          · exact ih hm.1 a (by omega)
      exact key x h.2 a ha
    · exact allIndep_spec h.1 x (by omega) a ha
theorem clOk_spec {cl : Nat → List Nat} : ∀ {n : Nat}, clOk ops cl n = true → ∀ x, x < n → ∃ o, ops[x]? = some o ∧ (∀ y ∈ cl x, ∃ e ∈ o.after, Region.binds .any e = true ∧ e.on < x ∧ (y = e.on ∨ y ∈ cl e.on))
  | 0, _, x, hx => by omega
  | n + 1, h, x, hx => by
    simp only [clOk, Bool.and_eq_true] at h
    by_cases e : x = n
    · subst e
      have h2 := h.2
      split at h2
      · rename_i o ho
        refine ⟨o, ho, fun y hy => ?_⟩
        simp only [Bool.and_eq_true, List.all_eq_true, List.any_eq_true, Bool.or_eq_true] at h2
        obtain ⟨e, he, hb, hon⟩ := h2.2 y hy
        have h3 := h2.1 e he
        refine ⟨e, by simpa using he, hb, ?_, ?_⟩
        · rcases h3 with h3 | h3
          · rw [hb] at h3; cases h3
          · exact Nat.le_of_ble_eq_true (n := e.on + 1) h3.1.1
        · rcases hon with hon | hon
          · exact .inl (Nat.eq_of_beq_eq_true hon)
          · exact .inr (memL_iff.1 hon)
      · cases h2
    · exact clOk_spec h.1 x (by omega)
end
section
variable {P : Program} {B : Base} {T : List (Nat × TI)} {ops : Array Oper} {yb : Nat → Bool} {an : Nat → Ann} {fr : Nat → Nat} {N : Nat} {rd : Option Nat} {info : Nat → Info} {Q : Exit → Act → World → Prop}
theorem listed_down {cl : Nat → List Nat} {listed : Array Bool} (hcl : clOk ops.toList cl ops.size = true)
    (hdown : ∀ i o, ops[i]? = some o → listed.getD i true = true → ∀ e ∈ o.after, Region.binds .any e = true → listed.getD e.on false = true) (hsz : listed.size = ops.size) :
    ∀ x, x < ops.size → listed.getD x true = true → ∀ y ∈ cl x, listed.getD y false = true := by
  intro x
  induction x using Nat.strongRecOn with
  | _ x ih =>
    intro hx hl y hy
    obtain ⟨o, ho, hcl'⟩ := clOk_spec hcl x hx
    obtain ⟨e, he, hb, hlt, hy'⟩ := hcl' y hy
    have hon := hdown x o (by simpa using ho) hl e he hb
    rcases hy' with rfl | hy'
    · exact hon
    · have hlt' : e.on < ops.size := by omega
      refine ih e.on hlt hlt' ?_ y hy'
      have h1 : e.on < listed.size := by omega
      simp [h1] at hon ⊢
      exact hon
theorem any_sound (hT : TOk P T) {cl : Nat → List Nat} (hcl : clOk ops.toList cl ops.size = true) (hall : allIndep ops.toList info cl ops.size = true) :
    ∀ (fuel : Nat) (listed : Array Bool) (r r' : RS) (a : Act) (w : World), listed.size = ops.size →
      (∀ i o, ops[i]? = some o → listed.getD i true = true → ∀ e ∈ o.after, Region.binds .any e = true → listed.getD e.on false = true) →
      ((List.range ops.size).filter fun i => !listed.getD i true).length ≤ fuel →
      Steps (FnC P) T ops.toList yb an fr N info ((List.range ops.size).filter fun i => !listed.getD i true) r r' → RC B yb N r a w → (∀ a' w', RC B yb N r' a' w' → Q .normal a' w') →
      wpAnyIn (FW rd) 0 P .any ops Q fuel listed a w := by
  intro fuel
  have hready : ∀ listed : Array Bool, Region.ready .any ops listed = [] → ((List.range ops.size).filter fun i => !listed.getD i true) = [] := by
    intro listed hr
    apply Classical.byContradiction
    intro hne
    have hex : ∃ x, x < ops.size ∧ listed.getD x true = false ∧ ∀ y, y < x → listed.getD y true = true := by
      obtain ⟨z, hz⟩ := List.exists_mem_of_ne_nil _ hne
      rw [List.mem_filter, List.mem_range] at hz
      have key : ∀ n z, z = n → z < ops.size → listed.getD z true = false → ∃ x, x < ops.size ∧ listed.getD x true = false ∧ ∀ y, y < x → listed.getD y true = true := by
        intro n
        induction n using Nat.strongRecOn with
        | _ n ih =>
          intro z hzn hz1 hz2
          by_cases hmin : ∃ y, y < z ∧ listed.getD y true = false
          · obtain ⟨y, hy1, hy2⟩ := hmin
            exact ih y (by omega) y rfl (by omega) hy2
          · refine ⟨z, hz1, hz2, fun y hy => ?_⟩
            cases hb : listed.getD y true with
            | true => rfl
            | false => exact absurd ⟨y, hy, hb⟩ hmin
      exact key z z rfl hz.1 (by simpa using hz.2)
    obtain ⟨x, hx, hxl, hmin⟩ := hex
    obtain ⟨o, ho, _⟩ := clOk_spec hcl x hx
    have ho' : ops[x]? = some o := by simpa using ho
    have hafter : ∀ e ∈ o.after, Region.binds .any e = true → e.on < x := by
      intro e he hb
      have : clOk ops.toList cl (x + 1) = true := by
        have mono : ∀ n m, n ≤ m → clOk ops.toList cl m = true → clOk ops.toList cl n = true := by
          intro n m hnm h
          induction m with
          | zero => have : n = 0 := by omega
                    subst this; exact h
          | succ m ih =>
            by_cases e : n = m + 1
            · subst e; exact h
            · simp only [clOk, Bool.and_eq_true] at h; exact ih (by omega) h.1
        exact mono _ _ (by omega) hcl
      simp only [clOk, Bool.and_eq_true] at this
      have h2 := this.2
      rw [ho] at h2
      simp only [Bool.and_eq_true, List.all_eq_true] at h2
      have h3 := h2.1 e (by simpa using he)
      rw [hb] at h3
      simp only [Bool.not_true, Bool.false_or, Bool.and_eq_true] at h3
      exact Nat.le_of_ble_eq_true (n := e.on + 1) h3.1.1
    have : x ∈ Region.ready .any ops listed := by
      rw [mem_ready]
      refine ⟨hxl, o, ho', fun e he hb => ?_⟩
      have hlt := hafter e he hb
      have := hmin e.on hlt
      have hsome : listed.getD e.on true = true := this
      by_cases h1 : e.on < listed.size
      · simp [h1] at hsome ⊢; exact hsome
      · -- beyond the list: then x would be listed
        have h2 : ¬ x < listed.size := by omega
        simp [h2] at hxl
    rw [hr] at this
    simp at this
  induction fuel with
  | zero =>
    intro listed r r' a w hsz hdown hlen hst hrc hQ
    have hnil : ((List.range ops.size).filter fun i => !listed.getD i true) = [] := List.eq_nil_of_length_eq_zero (by omega)
    refine ⟨?_, ?_⟩
    · unfold Region.ready
      rw [List.filter_eq_nil_iff] at hnil ⊢
      intro x hx
      have := hnil x hx
      simp only [Bool.and_eq_true]
      intro ⟨h1, _⟩
      exact this h1
    · rw [hnil] at hst
      cases hst
      exact hQ a w hrc
  | succ fuel ih =>
    intro listed r r' a w hsz hdown hlen hst hrc hQ
    refine ⟨fun hr => ?_, fun x hx => ?_⟩
    · rw [hready listed hr] at hst
      cases hst
      exact hQ a w hrc
    · rw [mem_ready] at hx
      obtain ⟨hxl, o, ho, hedge⟩ := hx
      have hlt : x < ops.size := (Array.getElem?_eq_some_iff.1 ho).1
      have hmem : x ∈ (List.range ops.size).filter fun i => !listed.getD i true := by
        rw [List.mem_filter, List.mem_range]; exact ⟨hlt, by simp [hxl]⟩
      obtain ⟨A, l, hAl⟩ := List.append_of_mem hmem
      have hsorted : ((List.range ops.size).filter fun i => !listed.getD i true).Pairwise (· < ·) := List.Pairwise.filter _ List.pairwise_lt_range
      rw [hAl] at hsorted hst
      have hA : ∀ a ∈ A, a < x := fun a ha => (List.pairwise_append.1 hsorted).2.2 a ha x (by simp)
      have hAu : ∀ a ∈ A, listed.getD a true = false := fun a ha => by
        have : a ∈ (List.range ops.size).filter fun i => !listed.getD i true := by rw [hAl]; simp [ha]
        rw [List.mem_filter] at this
        simpa using this.2
      have hind : ∀ a ∈ A, indep ops.toList info a x = true := fun a ha => by
        rcases allIndep_spec hall x hlt a (hA a ha) with hc | hi
        · -- a is before x: it would be listed
          exfalso
          obtain ⟨o', ho', hcl'⟩ := clOk_spec hcl x hlt
          have : o' = o := by
            have e1 : ops[x]? = some o' := by simpa using ho'
            rw [ho] at e1; cases e1; rfl
          subst this
          obtain ⟨e, he, hb, hlt', hy⟩ := hcl' a hc
          have hon := hedge e he hb
          have hla : listed.getD a false = true := by
            rcases hy with rfl | hy
            · exact hon
            · refine listed_down hcl hdown hsz e.on (by omega) ?_ a hy
              have h1 : e.on < listed.size := by omega
              simp [h1] at hon ⊢; exact hon
          have := hAu a ha
          have h1 : a < listed.size := by have := hA a ha; omega
          simp [h1] at hla this
          rw [hla] at this; cases this
        · exact hi
      obtain ⟨r1, ⟨c, c1, c2, c3, c4, rfl⟩, hrest⟩ := steps_front hind hst
      have hstep : step (FnC P) T ops.toList yb an fr N x r = some (c.conds, ⟨putS r.s ((ops.toList[x]?).bind (·.dst)) c.ent, upd r.h c.hd⟩) := by
        unfold step; rw [c1]
      have hfil : ((List.range ops.size).filter fun i => !(listed.setIfInBounds x true).getD i true) = A ++ l := by
        have hnd : ((List.range ops.size).filter fun i => !listed.getD i true).Nodup := List.Pairwise.filter _ List.nodup_range
        have e1 : ((List.range ops.size).filter fun i => !(listed.setIfInBounds x true).getD i true) = ((List.range ops.size).filter fun i => !listed.getD i true).filter fun i => i != x := by
          rw [List.filter_filter]
          apply List.filter_congr
          intro i hi
          by_cases e : i = x
          · subst e
            have : i < listed.size := by omega
            simp [this]
          · rw [getD_set_ne true (Ne.symm e)]; simp [e]
        rw [e1, hAl, List.filter_append, List.filter_cons]
        rw [hAl] at hnd
        have hxA : x ∉ A := fun h => by have := hA x h; omega
        have hxl' : x ∉ l := (List.nodup_cons.1 (List.nodup_append.1 hnd).2.1).1
        have f1 : A.filter (fun i => i != x) = A := List.filter_eq_self.2 fun y hy => by simpa using fun (e : y = x) => hxA (e ▸ hy)
        have f2 : l.filter (fun i => i != x) = l := List.filter_eq_self.2 fun y hy => by simpa using fun (e : y = x) => hxl' (e ▸ hy)
        rw [f1, f2]; simp
      refine step_sound hT hstep c2 hrc fun a' w' hrc' => ih (listed.setIfInBounds x true) _ r' a' w' (by simp [hsz]) (fun i o' ho' hli e he hb => ?_) (by rw [hfil]; rw [hAl] at hlen; simp at hlen ⊢; omega) (by rw [hfil]; exact hrest) hrc' hQ
      by_cases e : i = x
      · subst e
        rw [ho] at ho'; cases ho'
        exact getD_set_true (hedge _ he hb)
      · rw [getD_set_ne true (Ne.symm e)] at hli
        exact getD_set_true (hdown i o' ho' hli _ he hb)
theorem steps_of_runI {Fc : Cl → List SV → List (Nat × Option Ob) → TV → List (Nat × Option Ob) → Prop} {opl : List Oper} : ∀ {l : List Nat} {r r' : RS} {cs : List Prop} {inf : List (Nat × Info)}, runI Fc T opl yb an fr N l r = some (cs, r', inf) → All cs → l.Nodup →
    (∀ i x, get inf i = some x → info i = x) → Steps Fc T opl yb an fr N info l r r'
  | [], r, r', cs, inf, h, _, _, _ => by simp [runI] at h; obtain ⟨rfl, rfl, rfl⟩ := h; rfl
  | i :: l, r, r', cs, inf, h, hc, hnd, hinf => by
    simp only [runI] at h
    split at h
    · rename_i c hcore
      split at h
      · rename_i c' r2 inf' h2
        cases h
        rw [All_append] at hc
        have hi : info i = ⟨c.ft, isNilL c.hd⟩ := hinf i _ (by rw [get_cons, if_pos rfl])
        refine ⟨_, ⟨c, hcore, hc.1, by rw [hi], by rw [hi], rfl⟩, steps_of_runI h2 hc.2 (List.nodup_cons.1 hnd).2 fun j x hj => ?_⟩
        have hkeys : ∀ {l r r' cs inf}, runI Fc T opl yb an fr N l r = some (cs, r', inf) → ∀ j x, get inf j = some x → j ∈ l := by
          intro l
          induction l with
          | nil => intro r r' cs inf h j x hj; simp [runI] at h; obtain ⟨_, _, rfl⟩ := h; simp [get] at hj
          | cons y l ih =>
            intro r r' cs inf h j x hj
            simp only [runI] at h
            split at h
            · split at h
              · rename_i h3
                cases h
                rw [get_cons] at hj
                split at hj
                · rename_i e; simp [e]
                · exact List.mem_cons_of_mem _ (ih h3 j x hj)
              · cases h
            · cases h
        have hjl := hkeys h2 j x hj
        apply hinf
        rw [get_cons, if_neg (fun (e : i = j) => (List.nodup_cons.1 hnd).1 (e ▸ hjl))]
        exact hj
      · cases h
    · cases h
end
end Sg
