import Derived.Test.YtpndenfhglaikaaSoundE
import Derived.Test.YtpndenfhglaikaaSound8
set_option linter.all false
namespace Sg
open Go
section
variable {P : Program} {B : Base} {ρ ρ' : Nat → Option Pl} {F F' : Nat → Prop} {w w' : World} {h : Hp} {o : Oper} {a : Act} {T : List (Nat × TI)}
theorem HIf.split {ft : Nat → Nat → Prop} {S1 S2 : Nat → Prop} (fr : Fr B ρ F w) (hi : HIf B ρ F w h ft) {b c : Nat} {p : Pl} {ob nb nc : Ob} (hb : h b = some (some ob)) (hc : h c = none)
  (h1 : ∀ k, S1 k → ft b k) (h2 : ∀ k, S2 k → ft b k) (hd : ∀ k, S1 k → S2 k → False) (r1 : RepO (updR ρ c p) F w S1 b nb) (r2 : RepO (updR ρ c p) F w S2 c nc) :
  HIf B (updR ρ c p) F w (upd h [(b, some nb), (c, some nc)]) (setF (setF ft b S1) c S2) := by
 have hρ' := hi.fresh c hc
 have hbc : b ≠ c := fun e => by rw [e, hc] at hb; cases hb
 have g : Gr ρ F w (updR ρ c p) F w := ⟨updR_mono hρ', fun _ h => h, fun _ _ => rfl⟩
 have hu : ∀ x, upd h [(b, some nb), (c, some nc)] x = if b = x then some (some nb) else if c = x then some (some nc) else h x := by
  intro x; exact upd_two _ _ _ _ _
 have fb : setF (setF ft b S1) c S2 b = S1 := by rw [setF_ne hbc, setF_same]
 have fc : setF (setF ft b S1) c S2 c = S2 := setF_same _ _ _
 refine hi.step g fr (Nat.le_refl _) (fun x => x = b ∨ x = c) (fun x ob' e hh => ?_) (fun x ob' e hh => ?_) (fun x ob' k e hh hf => ?_) (fun b1 b2 o1 o2 k e1 e2 _ _ f1 f2 => ?_) (fun k hk => .inl hk) fun x hh => ?_
 ·rw [hu, if_neg (fun e' => e (.inl e'.symm)), if_neg (fun e' => e (.inr e'.symm))] at hh
  exact ⟨hh, fun _ _ => rfl, fun k => by rw [setF_ne (fun e' => e (.inr e')), setF_ne (fun e' => e (.inl e'))]⟩
 ·rcases e with rfl | rfl
  ·rw [hu, if_pos rfl] at hh; cases hh; rw [fb]; exact r1
  ·rw [hu, if_neg hbc, if_pos rfl] at hh; cases hh; rw [fc]; exact r2
 ·rcases e with rfl | rfl
  ·rw [fb] at hf; exact .inl ⟨x, ob, .inl rfl, hb, h1 k hf⟩
  ·rw [fc] at hf; exact .inl ⟨b, ob, .inl rfl, hb, h2 k hf⟩
 ·rcases e1 with rfl | rfl <;> rcases e2 with rfl | rfl
  ·rfl
  ·rw [fb] at f1; rw [fc] at f2; exact (hd k f1 f2).elim
  ·rw [fc] at f1; rw [fb] at f2; exact (hd k f2 f1).elim
  ·rfl
 ·rw [hu] at hh
  split at hh
  ·cases hh
  ·split at hh
   ·cases hh
   ·rename_i e; rw [show updR ρ c p x = ρ x by simp [updR, Ne.symm e]]; exact hi.fresh x hh
theorem take_sound {t : TypeId} {x : Operand} {c : Nat} {ti : TI} {xa : TV} {obs : List (Option (Option Ob))} {E : Eff} (ht : TOk1 P t ti) (hop : o.op = .load t x) (he : effTake c ti xa obs = some E) (hc : All E.conds)
  (hobs : obs = (foot (.take c) 0 (.load t x) [xa]).map h) (fr : Fr B ρ F w) (hi : HI B ρ F w h) (hx : RepT ρ F w xa (a.eval x)) : Good P B ρ F w h o a E.tv E.hd := by
 obtain ⟨ft, hi⟩ := hi
 unfold effTake at he
 split at he
 ·rename_i b esz i off E' esz' len el
  obtain ⟨k, base, cap, hk, hv⟩ := hx
  cases hb : (Nat.beq esz esz' && Nat.beq ti.size 1 && !ti.agg && Nat.blt off esz) with
  | false => simp [hb] at he
  | true =>
   simp only [hb, cond_true] at he
   simp only [Bool.and_eq_true, Bool.not_eq_true'] at hb
   have e1 := Nat.eq_of_beq_eq_true hb.1.1.1
   have e2 := Nat.eq_of_beq_eq_true hb.1.1.2
   have e3 : ti.agg = false := hb.1.2
   have hlo : off < esz := Nat.le_of_ble_eq_true (n := off + 1) hb.2
   subst e1
   split at he
   ·rename_i E1 esz1 n el1 hel
    cases he
    obtain ⟨hlt, _⟩ := hc
    simp [foot] at hobs
    obtain ⟨hob, hcn⟩ := hobs
    rcases hi.obj b _ hob.symm with ⟨_, h0⟩ | ⟨k', base', cap', vs, rb, h1, h0, h2, h3, h4, h5, h6, h7, h8⟩
    ·omega
    ·rw [hk] at h1; cases h1
     obtain ⟨u, hu, hr⟩ := h6 i hlt off hlo
     have hr : RepV F w (ft b) (rb i off) (el i off) u := hr
     rw [hel] at hr
     have hload : (loadVar t ⟨k, base + (i * esz + off), none⟩).run P w = .ok u w := by
      have hcell : w.cell? ⟨k, base + (i * esz + off), none⟩ = some u := by rw [cell_of_vs h2]; exact hu
      rw [loadVar, Sem.run_bind, run_isAggT ht]
      simp [e3, hcell]
     have hrun := exec_load hop hv hload
     have hρc := hi.fresh c hcn.symm
     have hbc : b ≠ c := fun e => by rw [e, ← hcn] at hob; cases hob
     have grn : ∀ p, Gr ρ F w (updR ρ c p) F w := fun p => ⟨updR_mono hρc, fun _ h => h, fun _ _ => rfl⟩
     have frn : ∀ p, Fr B (updR ρ c p) F w := fun p => { fr with rho := fun b' p' e => updR_mono hρc b' p' (fr.rho b' p' e) }
     have rest : ∀ (p : Pl) (S1 : Nat → Prop), (∀ q, S1 q ↔ ft b q ∧ rb i off ≠ some q) → RepC (updR ρ c p) F w (.own c false n) u → RepO (updR ρ c p) F w S1 b (.rows E' esz len el (some (i, off, .own c false n))) := by
      intro p S1 hS1 hcu
      refine .inr ⟨k, base, cap, vs, rb, updR_mono hρc _ _ hk, (hS1 k).2 ⟨h0, h8 i off⟩, h2, h3, h4, h5, fun i' hi' j' hj' => ?_, h7, h8⟩
      obtain ⟨u', hu', hr'⟩ := h6 i' hi' j' hj'
      refine ⟨u', hu', ?_⟩
      unfold RepW
      simp only
      split
      ·rename_i e; obtain ⟨rfl, rfl⟩ := e
       rw [hu] at hu'; cases hu'; exact hcu
      ·rename_i hne
       have hr' : RepV F w (ft b) (rb i' j') (el i' j') u' := hr'
       cases hel' : el i' j' with
       | d x => rw [hel'] at hr'; exact hr'
       | row E2 esz2 n2 el2 =>
        rw [hel'] at hr'
        rcases hr' with hr' | ⟨q, bq, cq, q1, q2, q3, q4⟩
        ·exact .inl hr'
        ·exact .inr ⟨q, bq, cq, q1, (hS1 q).2 ⟨q2, fun e => hne (h7 _ _ _ _ _ q1 e)⟩, q3, q4⟩
     rcases hr with ⟨n0, hu0⟩ | ⟨q, bq, cq, q1, q2, q3, q4⟩
     ·have hcu : RepC (updR ρ c .nil) F w (.own c false n) u := .inr ⟨rfl, updR_same _ _, n0, hu0⟩
      exact good_to (grn .nil) (frn .nil) ⟨_, HIf.split (S1 := fun q => ft b q ∧ rb i off ≠ some q) (S2 := fun _ => False) fr hi hob.symm hcn.symm (fun _ h => h.1) (fun _ h => h.elim) (fun _ _ h => h) (rest _ _ (fun _ => Iff.rfl) hcu) (.inl ⟨updR_same _ _, n0⟩)⟩ hrun hcu
     ·have hcu : RepC (updR ρ c (.blk q bq cq)) F w (.own c false n) u := .inl ⟨q, bq, cq, updR_same _ _, q3⟩
      exact good_to (grn _) (frn _) ⟨_, HIf.split (S1 := fun q' => ft b q' ∧ rb i off ≠ some q') (S2 := fun q' => q' = q) fr hi hob.symm hcn.symm (fun _ h => h.1) (fun q' h => h ▸ q2) (fun q' h1 h2 => h1.2 (by rw [q1, h2])) (rest _ _ (fun _ => Iff.rfl) hcu) (.inr ⟨q, bq, cq, updR_same _ _, rfl, q4⟩)⟩ hrun hcu
   ·cases he
 ·cases he
theorem HIf.merge {ft : Nat → Nat → Prop} {S : Nat → Prop} (fr : Fr B ρ F w) (hi : HIf B ρ F w h ft) {b c k : Nat} {ob oc nb : Ob} (hb : h b = some (some ob)) (hc : h c = some (some oc)) (hbc : b ≠ c) (pt : Put w w' k) (hk : ft b k)
  (hS : ∀ k, S k → ft b k ∨ ft c k) (r : RepO ρ F w' S b nb) : HIf B ρ F w' (upd h [(b, some nb), (c, none)]) (setF ft b S) := by
 have hkk := (hi.blk b ob k hb hk).2.1
 have hu : ∀ x, upd h [(b, some nb), (c, none)] x = if b = x then some (some nb) else if c = x then some none else h x := by
  intro x; exact upd_two _ _ _ _ _
 refine hi.step (pt.gr hkk) fr (by rw [pt.size]; omega) (fun x => x = b ∨ x = c) (fun x ob' e hh => ?_) (fun x ob' e hh => ?_) (fun x ob' k e hh hf => ?_) (fun b1 b2 o1 o2 k e1 e2 h1 h2 _ _ => ?_) (fun k hk => .inl hk) fun x hh => ?_
 ·rw [hu, if_neg (fun e' => e (.inl e'.symm)), if_neg (fun e' => e (.inr e'.symm))] at hh
  exact ⟨hh, fun q hq => pt.old q fun e' => e (.inl (hi.dis x b ob' ob q hh hb hq (e' ▸ hk))), fun k => by rw [setF_ne (fun e' => e (.inl e'))]⟩
 ·rcases e with rfl | rfl
  ·rw [hu, if_pos rfl] at hh; cases hh; rw [setF_same]; exact r
  ·rw [hu, if_neg hbc, if_pos rfl] at hh; cases hh
 ·rcases e with rfl | rfl
  ·rw [setF_same] at hf
   rcases hS k hf with q | q
   ·exact .inl ⟨x, ob, .inl rfl, hb, q⟩
   ·exact .inl ⟨c, oc, .inr rfl, hc, q⟩
  ·rw [hu, if_neg hbc, if_pos rfl] at hh; cases hh
 ·have key : ∀ x ob', (x = b ∨ x = c) → upd h [(b, some nb), (c, none)] x = some (some ob') → x = b := fun x ob' e hh => by
   rcases e with e | e
   ·exact e
   ·subst e; rw [hu, if_neg hbc, if_pos rfl] at hh; cases hh
  rw [key b1 o1 e1 h1, key b2 o2 e2 h2]
 ·rw [hu] at hh
  split at hh
  ·cases hh
  ·split at hh
   ·cases hh
   ·exact hi.fresh x hh
theorem put_sound {t : TypeId} {x y : Operand} {ti : TI} {xa xv : TV} {len' : Nat} {el' : Nat → Nat → EV} {obs : List (Option (Option Ob))} {E : Eff} (ht : TOk1 P t ti) (hop : o.op = .store t x y) (he : effPut el' ti xa xv obs = some E) (hc : All E.conds)
  (hobs : obs = (foot (.rows len' el') 0 (.store t x y) [xa, xv]).map h) (fr : Fr B ρ F w) (hi : HI B ρ F w h) (hx : RepT ρ F w xa (a.eval x)) (hy : RepT ρ F w xv (a.eval y)) : Good P B ρ F w h o a E.tv E.hd := by
 classical
 obtain ⟨ft, hi⟩ := hi
 unfold effPut at he
 split at he
 ·rename_i b esz i off c nn n E' esz' len el ov E1 esz1 n1 el1
  cases hb : (Nat.beq esz esz' && Nat.beq ti.size 1 && Nat.blt off esz && !(Nat.beq b c)) with
  | false => simp [hb] at he
  | true =>
   simp only [hb, cond_true] at he
   simp only [Bool.and_eq_true, Bool.not_eq_true'] at hb
   have e1 := Nat.eq_of_beq_eq_true hb.1.1.1
   have e2 := Nat.eq_of_beq_eq_true hb.1.1.2
   have hlo : off < esz := Nat.le_of_ble_eq_true (n := off + 1) hb.1.2
   have hbc : b ≠ c := Nat.ne_of_beq_eq_false hb.2
   subst e1
   cases he
   obtain ⟨hlt, hn, heq, hov, _⟩ := hc
   subst hn
   simp [foot] at hobs
   obtain ⟨hob, hoc⟩ := hobs
   obtain ⟨k, base, cap, hk, hv⟩ := hx
   rcases hi.obj b _ hob.symm with ⟨_, h0⟩ | ⟨k', base', cap', vs, rb, h1, h0, h2, h3, h4, h5, h6, h7, h8⟩
   ·omega
   ·rw [hk] at h1; cases h1
    have hys : (a.eval y).oneCell' = true := RepC.oneCell hy
    have hyl : (a.eval y).cells.toList = [a.eval y] := by rw [cells_oneCell hys]
    have hin : i * esz + off + 1 ≤ cap * esz := row_in hlt h4 (by omega)
    have hrun := exec_store ht hop hv h2 hyl (by rw [e2]; rfl) (by rw [e2]; omega) (fun v hv => by simp at hv; rw [hv]; exact hys)
    rw [e2] at hrun
    have hblk := hi.blk b _ k hob.symm h0
    have pt := Put.setRow w k (vs.take (base + (i * esz + off)) ++ [a.eval y] ++ vs.drop (base + (i * esz + off) + 1)).toArray
    have gr := pt.gr (ρ := ρ) hblk.2.1
    have hcoth : ∀ q, ft c q → q ≠ k := fun q hq e => hbc (hi.dis b c _ _ k hob.symm hoc.symm h0 (e ▸ hq))
    have hrow : (n = 0 ∧ a.eval y = .slice none 0 0) ∨ ∃ q bq cq, ft c q ∧ a.eval y = .slice (some ⟨q, bq, none⟩) n cq ∧ RowAt F w q bq cq E1 esz1 n el1 := by
     rcases hy with ⟨q, bq, cq, hq, hv'⟩ | ⟨_, hq, h0', hv'⟩
     ·rcases hi.obj c _ hoc.symm with ⟨g0, _⟩ | ⟨q', bq', cq', g0, g00, g1⟩
      ·rw [hq] at g0; cases g0
      ·rw [hq] at g0; cases g0; exact .inr ⟨q, bq, cq, g00, hv', g1⟩
     ·exact .inl ⟨h0', hv'⟩
    obtain ⟨nq, hnq⟩ : ∃ nq : Option Nat, (nq = none ∧ n = 0 ∧ a.eval y = .slice none 0 0) ∨ ∃ q bq cq, nq = some q ∧ ft c q ∧ a.eval y = .slice (some ⟨q, bq, none⟩) n cq ∧ RowAt F w q bq cq E1 esz1 n el1 := by
     rcases hrow with ⟨x1, x2⟩ | ⟨q, bq, cq, x1, x2, x3⟩
     ·exact ⟨none, .inl ⟨rfl, x1, x2⟩⟩
     ·exact ⟨some q, .inr ⟨q, bq, cq, rfl, x1, x2, x3⟩⟩
    have nqc : ∀ q, nq = some q → ft c q := fun q e => by
     rcases hnq with ⟨e', _⟩ | ⟨q', _, _, e', hf, _⟩
     ·rw [e'] at e; cases e
     ·rw [e'] at e; cases e; exact hf
    obtain ⟨rb', hrb⟩ : ∃ rb' : Nat → Nat → Option Nat, ∀ i' j', rb' i' j' = if i' = i ∧ j' = off then nq else (match rb i' j' with | some q => if ft b q then some q else none | none => none) := ⟨_, fun _ _ => rfl⟩
    have hrb0 : ∀ i' j' q, ¬ (i' = i ∧ j' = off) → (rb' i' j' = some q ↔ rb i' j' = some q ∧ ft b q) := fun i' j' q hne => by
     rw [hrb, if_neg hne]
     cases rb i' j' with
     | none => simp
     | some q' =>
      simp only [Option.some.injEq]
      split
      ·rename_i hf; constructor
       ·rintro e; cases e; exact ⟨rfl, hf⟩
       ·rintro ⟨e, _⟩; rw [e]
      ·rename_i hf; constructor
       ·intro e; cases e
       ·rintro ⟨e, hf'⟩; subst e; exact absurd hf' hf
    refine good_skip gr (pt.fr fr hblk.2.2) ⟨_, HIf.merge (S := fun q => ft b q ∨ ft c q) fr hi hob.symm hoc.symm hbc pt h0 (fun _ h => h) ?_⟩ hrun
    refine .inr ⟨k, base, cap, _, rb', hk, .inl h0, setRow_heap w k _ _ E' (0, 0) h2, ?_, h4, h5, fun i' hi' j hj => ?_, fun i1 j1 i2 j2 q q1 q2 => ?_, fun i' j' e => ?_⟩
    ·simp only [List.length_append, List.length_take, List.length_drop, List.length_cons, List.length_nil]; omega
    ·have hlook := getElem?_splice vs [a.eval y] (base + (i * esz + off)) (by simp; omega) (base + (i' * esz + j))
     simp only [List.length_cons, List.length_nil, Nat.zero_add] at hlook
     rw [hlook]
     by_cases e : i' = i ∧ j = off
     ·obtain ⟨rfl, rfl⟩ := e
      refine ⟨a.eval y, by rw [if_neg (by omega), if_pos (by omega)]; simp, ?_⟩
      show RepV F _ _ _ (el' i' j) _
      rw [← heq i' hi' j hj, stV, if_pos ⟨rfl, rfl⟩, hrb, if_pos ⟨rfl, rfl⟩]
      rcases hnq with ⟨_, x1, x2⟩ | ⟨q, bq, cq, e, hf, x2, x3⟩
      ·exact .inl ⟨x1, x2⟩
      ·exact .inr ⟨q, bq, cq, e, .inr hf, x2, x3.keep gr (pt.old q (hcoth q hf))⟩
     ·obtain ⟨u, hu, hr⟩ := h6 i' hi' j hj
      have hne : i' * esz + j ≠ i * esz + off := fun e' => by
       have := idx_eq (n := 1) hj (show i * esz + off ≤ i' * esz + j by omega) (by omega) (by omega)
       exact e ⟨this.1, by omega⟩
      refine ⟨u, ?_, ?_⟩
      ·by_cases hl : i' * esz + j < i * esz + off
       ·rw [if_pos (by omega)]; exact hu
       ·rw [if_neg (by omega), if_neg (by omega)]; exact hu
      ·show RepV F _ _ _ (el' i' j) _
       rw [← heq i' hi' j hj, stV, if_neg e]
       have hr' : RepV F w (ft b) (rb i' j) (el i' j) u := by
        unfold RepW at hr
        split at hr
        ·exact hr
        ·rename_i i0 j0 c0
         obtain ⟨rfl, rfl⟩ := hov i0 j0 c0 rfl
         rw [if_neg e] at hr; exact hr
       cases hel : el i' j with
       | d x => rw [hel] at hr'; exact RepD.gr gr.fz gr.mem hr'
       | row E2 esz2 n2 el2 =>
        rw [hel] at hr'
        rcases hr' with hr' | ⟨q, bq, cq, q1, q2, q3, q4⟩
        ·exact .inl hr'
        ·exact .inr ⟨q, bq, cq, (hrb0 i' j q e).2 ⟨q1, q2⟩, .inl q2, q3, q4.keep gr (pt.old q fun e' => h8 i' j (by rw [q1, e']))⟩
    ·by_cases c1 : i1 = i ∧ j1 = off <;> by_cases c2 : i2 = i ∧ j2 = off
     ·exact ⟨c1.1.trans c2.1.symm, c1.2.trans c2.2.symm⟩
     ·rw [hrb, if_pos c1] at q1
      have := (hrb0 _ _ _ c2).1 q2
      exact absurd (hi.dis b c _ _ q hob.symm hoc.symm this.2 (nqc q q1)) hbc
     ·rw [hrb, if_pos c2] at q2
      have := (hrb0 _ _ _ c1).1 q1
      exact absurd (hi.dis b c _ _ q hob.symm hoc.symm this.2 (nqc q q2)) hbc
     ·exact h7 _ _ _ _ _ ((hrb0 _ _ _ c1).1 q1).1 ((hrb0 _ _ _ c2).1 q2).1
    ·by_cases c1 : i' = i ∧ j' = off
     ·rw [hrb, if_pos c1] at e; exact hcoth k (nqc k e) rfl
     ·exact h8 _ _ ((hrb0 _ _ _ c1).1 e).1
 ·cases he
end
end Sg
