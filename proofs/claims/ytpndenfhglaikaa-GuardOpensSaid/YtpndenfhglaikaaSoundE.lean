import Derived.Test.YtpndenfhglaikaaSoundV
set_option linter.all false
namespace Sg
open Go
def valD : DV → Value
 | .int k n => .int k n
 | .bool b => .bool b
 | _ => undef
def asVal (agg : Bool) (vs : List Value) : Value := bif agg then .agg vs.toArray else vs.headD undef
theorem valD_rep {ρ : Nat → Option Pl} {F : Nat → Prop} {w : World} : ∀ {ks : List (Option IntKind)} {ds : List DV} {vs : List Value}, kindsOk ks ds = true → RepL ρ F w (ds.map .d) vs → vs = ds.map valD
 | [], [], [], _, _ => rfl
 | some k :: ks, .int k' n :: ds, v :: vs, hk, ⟨h1, h2⟩ => by
  simp only [kindsOk, Bool.and_eq_true] at hk
  have : v = .int k' n := h1
  rw [this, valD_rep hk.2 h2]; rfl
 | none :: ks, .bool b :: ds, v :: vs, hk, ⟨h1, h2⟩ => by
  have : v = .bool b := h1
  rw [this, valD_rep (ks := ks) hk h2]; rfl
 | _, [], _ :: _, _, h => h.elim
 | _, _ :: _, [], _, h => h.elim
 | _ :: _, [], _, hk, _ => by simp [kindsOk] at hk
 | [], _ :: _, _, hk, _ => by simp [kindsOk] at hk
 | none :: _, .int _ _ :: _, _, hk, _ => by simp [kindsOk] at hk
 | some _ :: _, .bool _ :: _, _, hk, _ => by simp [kindsOk] at hk
 | _ :: _, .str _ :: _, _, hk, _ => by simp [kindsOk] at hk
 | _ :: _, .sl _ _ _ _ :: _, _, hk, _ => by simp [kindsOk] at hk
 | _ :: _, .ip _ _ :: _, _, hk, _ => by simp [kindsOk] at hk
 | _ :: _, .nilp :: _, _, hk, _ => by simp [kindsOk] at hk
 | _ :: _, .fn _ _ _ :: _, _, hk, _ => by simp [kindsOk] at hk
 | _ :: _, .nilf :: _, _, hk, _ => by simp [kindsOk] at hk
 | _ :: _, .nilm :: _, _, hk, _ => by simp [kindsOk] at hk
theorem kindsOk_length : ∀ {ks : List (Option IntKind)} {ds : List DV}, kindsOk ks ds = true → ds.length = ks.length
 | [], [], _ => rfl
 | some k :: ks, .int k' n :: ds, hk => by
  simp only [kindsOk, Bool.and_eq_true] at hk
  simp [kindsOk_length hk.2]
 | none :: ks, .bool b :: ds, hk => by simp [kindsOk_length (ks := ks) hk]
 | _ :: _, [], hk => by simp [kindsOk] at hk
 | [], _ :: _, hk => by simp [kindsOk] at hk
 | none :: _, .int _ _ :: _, hk => by simp [kindsOk] at hk
 | some _ :: _, .bool _ :: _, hk => by simp [kindsOk] at hk
 | _ :: _, .str _ :: _, hk => by simp [kindsOk] at hk
 | _ :: _, .sl _ _ _ _ :: _, hk => by simp [kindsOk] at hk
 | _ :: _, .ip _ _ :: _, hk => by simp [kindsOk] at hk
 | _ :: _, .nilp :: _, hk => by simp [kindsOk] at hk
 | _ :: _, .fn _ _ _ :: _, hk => by simp [kindsOk] at hk
 | _ :: _, .nilf :: _, hk => by simp [kindsOk] at hk
 | _ :: _, .nilm :: _, hk => by simp [kindsOk] at hk
theorem kindsOk_split : ∀ {ks ks' : List (Option IntKind)} {ds : List DV}, kindsOk (ks ++ ks') ds = true → ∃ d1 d2, ds = d1 ++ d2 ∧ kindsOk ks d1 = true ∧ kindsOk ks' d2 = true
 | [], ks', ds, hk => ⟨[], ds, rfl, rfl, hk⟩
 | some k :: ks, ks', .int k' n :: ds, hk => by
  simp only [List.cons_append, kindsOk, Bool.and_eq_true] at hk
  obtain ⟨d1, d2, e, h1, h2⟩ := kindsOk_split hk.2
  exact ⟨.int k' n :: d1, d2, by rw [e]; rfl, by simp [kindsOk, hk.1, h1], h2⟩
 | none :: ks, ks', .bool b :: ds, hk => by
  simp only [List.cons_append, kindsOk] at hk
  obtain ⟨d1, d2, e, h1, h2⟩ := kindsOk_split hk
  exact ⟨.bool b :: d1, d2, by rw [e]; rfl, by simp [kindsOk, h1], h2⟩
 | _ :: _, _, [], hk => by simp [kindsOk] at hk
 | none :: _, _, .int _ _ :: _, hk => by simp [kindsOk] at hk
 | some _ :: _, _, .bool _ :: _, hk => by simp [kindsOk] at hk
 | _ :: _, _, .str _ :: _, hk => by simp [kindsOk] at hk
 | _ :: _, _, .sl _ _ _ _ :: _, hk => by simp [kindsOk] at hk
 | _ :: _, _, .ip _ _ :: _, hk => by simp [kindsOk] at hk
 | _ :: _, _, .nilp :: _, hk => by simp [kindsOk] at hk
 | _ :: _, _, .fn _ _ _ :: _, hk => by simp [kindsOk] at hk
 | _ :: _, _, .nilf :: _, hk => by simp [kindsOk] at hk
 | _ :: _, _, .nilm :: _, hk => by simp [kindsOk] at hk
theorem eqCs_split : ∀ {d1 e1 d2 e2 : List DV} {b : Bool}, d1.length = e1.length → eqCs (d1 ++ d2) (e1 ++ e2) = some b → ∃ b1 b2, eqCs d1 e1 = some b1 ∧ eqCs d2 e2 = some b2 ∧ b = (b1 && b2)
 | [], [], d2, e2, b, _, he => ⟨true, b, rfl, he, by simp⟩
 | x :: d1, y :: e1, d2, e2, b, hl, he => by
  simp only [List.cons_append, eqCs] at he
  split at he
  ·rename_i p q h1 h2
   cases he
   obtain ⟨b1, b2, g1, g2, g3⟩ := eqCs_split (by simpa using hl) h2
   exact ⟨p && b1, b2, by simp [eqCs, h1, g1], g2, by rw [g3, Bool.and_assoc]⟩
  ·cases he
 | [], _ :: _, _, _, _, hl, _ => by simp at hl
 | _ :: _, [], _, _, _, hl, _ => by simp at hl
section
variable {P : Program} {B : Base} {ρ ρ' : Nat → Option Pl} {F F' : Nat → Prop} {w w' : World} {h : Hp} {o : Oper} {a : Act} {T : List (Nat × TI)}
theorem part_val {t : TypeId} {ti : TI} (ht : TOk1 P t ti) {pre dl post : List DV} (hl : dl.length = ti.size) (h1 : ti.agg = false → dl.length = 1) :
  (part t ((pre ++ (dl ++ post)).map valD).toArray pre.length).run P w = .ok (asVal ti.agg (dl.map valD)) w := by
 have hs := run_sizeOfT (w := w) ht
 have hg := run_isAggT (w := w) ht
 cases hagg : ti.agg with
 | true =>
  rw [hagg] at hg
  simp only [part, Sem.run_bind, hg, hs, Result.andThen_ok, if_true, Sem.run_pure, asVal, cond_true]
  congr 2
  rw [← hl]
  simp
 | false =>
  rw [hagg] at hg
  match dl, h1 hagg with
  | [d], _ =>
   simp [part, hg, asVal]
theorem flatK_one {d : Nat} {t : TypeId} {ti : TI} {ks : List (Option IntKind)} (hf : flatK T d t = some ks) (hti : get T t = some ti) (hagg : ti.agg = false) : ks.length = 1 := by
 cases d with
 | zero => simp [flatK] at hf
 | succ d =>
  unfold flatK at hf
  rw [hti] at hf
  simp only at hf
  split at hf
  ·cases hb : Nat.beq ti.size 1 with
   | true => simp only [hb, cond_true] at hf; cases hf; rfl
   | false => simp [hb] at hf
  ·cases hb : Nat.beq ti.size 1 with
   | true => simp only [hb, cond_true] at hf; cases hf; rfl
   | false => simp [hb] at hf
  ·rename_i hd; simp [TI.agg, hd] at hagg
  ·rename_i hd; simp [TI.agg, hd] at hagg
  ·cases hf
theorem run_eqFields (hT : TOk P T) {d D : Nat} (ih : ∀ t ks ti, flatK T d t = some ks → get T t = some ti → ks.length = ti.size ∧ ∀ w ds es b, kindsOk ks ds = true → kindsOk ks es = true → eqCs ds es = some b → (Op.equalIn D t (asVal ti.agg (ds.map valD)) (asVal ti.agg (es.map valD))).run P w = .ok b w) :
  ∀ (fs : List Field) (ks : List (Option IntKind)) (off : Nat) (pre pre' ds es : List DV) (b : Bool) (w : World), flatK.flatFs T (flatK T d) off fs = some ks → pre.length = off → pre'.length = off → kindsOk ks ds = true → kindsOk ks es = true → eqCs ds es = some b →
   (Op.eqFields D ((pre ++ ds).map valD).toArray ((pre' ++ es).map valD).toArray fs).run P w = .ok b w
 | [], ks, off, pre, pre', ds, es, b, w, hf, hp, hp', hk, hk', he => by
  simp [flatK.flatFs] at hf; subst hf
  match ds, es, hk, hk' with
  | [], [], _, _ => simp [eqCs] at he; subst he; simp [Op.eqFields]
 | f :: fs, ks, off, pre, pre', ds, es, b, w, hf, hp, hp', hk, hk', he => by
  simp only [flatK.flatFs] at hf
  split at hf
  ·rename_i l tf h1 h2
   cases hb : (Nat.beq f.offset off && Nat.beq l.length tf.size && !(f.name == "_")) with
   | false => simp [hb] at hf
   | true =>
    simp only [hb, cond_true] at hf
    simp only [Bool.and_eq_true, Bool.not_eq_true'] at hb
    have e1 := Nat.eq_of_beq_eq_true hb.1.1
    have e2 := Nat.eq_of_beq_eq_true hb.1.2
    have hname : f.name ≠ "_" := by simpa using hb.2
    split at hf
    ·rename_i m hm
     cases hf
     obtain ⟨d1, d2, rfl, k1, k2⟩ := kindsOk_split hk
     obtain ⟨c1, c2, rfl, k1', k2'⟩ := kindsOk_split hk'
     have l1 := kindsOk_length k1
     have l1' := kindsOk_length k1'
     obtain ⟨b1, b2, q1, q2, rfl⟩ := eqCs_split (by rw [l1, l1']) he
     have p1 := part_val (w := w) (hT.get h2) (pre := pre) (dl := d1) (post := d2) (by rw [l1, e2]) (fun ha => by rw [l1]; exact flatK_one h1 h2 ha)
     have p2 := part_val (w := w) (hT.get h2) (pre := pre') (dl := c1) (post := c2) (by rw [l1', e2]) (fun ha => by rw [l1']; exact flatK_one h1 h2 ha)
     rw [hp, ← e1] at p1
     rw [hp', ← e1] at p2
     have q := (ih _ _ _ h1 h2).2 w d1 c1 b1 k1 k1' q1
     simp only [Op.eqFields, ne_eq, hname, not_false_eq_true, if_true, Sem.run_bind, p1, p2, q, Result.andThen_ok]
     by_cases hb1 : b1 = true
     ·subst hb1
      simp only [Bool.not_true, Bool.false_eq_true, if_false, Bool.true_and]
      have := run_eqFields hT ih fs m (off + l.length) (pre ++ d1) (pre' ++ c1) d2 c2 b2 w hm (by simp [hp, l1]) (by simp [hp', l1']) k2 k2' q2
      rw [List.append_assoc, List.append_assoc] at this
      exact this
     ·have : b1 = false := by simpa using hb1
      subst this
      simp
    ·cases hf
  ·cases hf
theorem run_eqElems (hT : TOk P T) {D : Nat} {e : TypeId} {l : List (Option IntKind)} {te : TI} (hte : get T e = some te) (hl : l.length = te.size) (h1 : te.agg = false → l.length = 1)
  (ih : ∀ w ds es b, kindsOk l ds = true → kindsOk l es = true → eqCs ds es = some b → (Op.equalIn D e (asVal te.agg (ds.map valD)) (asVal te.agg (es.map valD))).run P w = .ok b w) (xs ys : Array Value) :
  ∀ (n start : Nat) (pre pre' ds es : List DV) (b : Bool) (w : World), pre.length = start * te.size → pre'.length = start * te.size → kindsOk (List.replicate n l).flatten ds = true → kindsOk (List.replicate n l).flatten es = true → eqCs ds es = some b →
   xs = ((pre ++ ds).map valD).toArray → ys = ((pre' ++ es).map valD).toArray →
   (forIn (m := Sem) (List.range' start n) ((none, ()) : Option Bool × Unit) fun i _ => do
    if !(← Op.equalIn D e (← part e xs (i * te.size)) (← part e ys (i * te.size))) then pure (ForInStep.done (some false, ())) else pure (ForInStep.yield (none, ()))).run P w = .ok (if b = true then none else some false, ()) w
 | 0, start, pre, pre', ds, es, b, w, _, _, hk, hk', he, _, _ => by
  match ds, es, hk, hk' with
  | [], [], _, _ => simp [eqCs] at he; subst he; simp
 | n + 1, start, pre, pre', ds, es, b, w, hp, hp', hk, hk', he, hx, hy => by
  rw [List.replicate_succ, List.flatten_cons] at hk hk'
  obtain ⟨d1, d2, rfl, k1, k2⟩ := kindsOk_split hk
  obtain ⟨c1, c2, rfl, k1', k2'⟩ := kindsOk_split hk'
  have l1 := kindsOk_length k1
  have l1' := kindsOk_length k1'
  obtain ⟨b1, b2, q1, q2, rfl⟩ := eqCs_split (by rw [l1, l1']) he
  have p1 := part_val (w := w) (hT.get hte) (pre := pre) (dl := d1) (post := d2) (by rw [l1, hl]) (fun ha => by rw [l1]; exact h1 ha)
  have p2 := part_val (w := w) (hT.get hte) (pre := pre') (dl := c1) (post := c2) (by rw [l1', hl]) (fun ha => by rw [l1']; exact h1 ha)
  rw [hp, ← hx] at p1
  rw [hp', ← hy] at p2
  have q := ih w d1 c1 b1 k1 k1' q1
  rw [List.range'_succ, List.forIn_cons]
  simp only [Sem.run_bind, p1, p2, q, Result.andThen_ok]
  by_cases hb1 : b1 = true
  ·subst hb1
   simp only [Bool.not_true, Bool.false_eq_true, if_false, Bool.true_and, Sem.run_pure, Result.andThen_ok]
   exact run_eqElems hT hte hl h1 ih xs ys n (start + 1) (pre ++ d1) (pre' ++ c1) d2 c2 b2 w (by simp [hp, l1, hl, Nat.add_mul]) (by simp [hp', l1', hl, Nat.add_mul]) k2 k2' q2 (by rw [List.append_assoc]; exact hx) (by rw [List.append_assoc]; exact hy)
  ·have : b1 = false := by simpa using hb1
   subst this
   simp
theorem equal_flat (hT : TOk P T) : ∀ d D, d ≤ D → ∀ t ks ti, flatK T d t = some ks → get T t = some ti → ks.length = ti.size ∧ ∀ w ds es b, kindsOk ks ds = true → kindsOk ks es = true → eqCs ds es = some b →
  (Op.equalIn D t (asVal ti.agg (ds.map valD)) (asVal ti.agg (es.map valD))).run P w = .ok b w
 | 0, _, _, _, _, _, hf, _ => by simp [flatK] at hf
 | d + 1, 0, hd, _, _, _, _, _ => absurd hd (by omega)
 | d + 1, D + 1, hd, t, ks, ti, hf, hti => by
  have ht := hT.get hti
  unfold flatK at hf
  rw [hti] at hf
  simp only at hf
  split at hf
  ·rename_i k hdd
   cases hb : Nat.beq ti.size 1 with
   | false => simp [hb] at hf
   | true =>
    simp only [hb, cond_true] at hf
    cases hf
    refine ⟨(Nat.eq_of_beq_eq_true hb).symm, fun w ds es b hk hk' he => ?_⟩
    match ds, es, hk, hk', he with
    | [.int k1 x], [.int k2 y], hk, hk', he =>
     simp [kindsOk] at hk hk'
     subst hk; subst hk'
     simp [eqCs, eqC] at he
     subst he
     have hu := run_underlyingT (w := w) ht
     rw [hdd] at hu
     have hagg : ti.agg = false := by simp [TI.agg, hdd]
     simp [Op.equalIn, hu, asVal, hagg, valD, int_beq_decide]
    | .int _ _ :: _ :: _, _, hk, _, _ => simp [kindsOk] at hk
    | [.int _ _], .int _ _ :: _ :: _, _, hk', _ => simp [kindsOk] at hk'
  ·rename_i hdd
   cases hb : Nat.beq ti.size 1 with
   | false => simp [hb] at hf
   | true =>
    simp only [hb, cond_true] at hf
    cases hf
    refine ⟨(Nat.eq_of_beq_eq_true hb).symm, fun w ds es b hk hk' he => ?_⟩
    match ds, es, hk, hk', he with
    | [.bool x], [.bool y], hk, hk', he =>
     simp [eqCs, eqC] at he
     subst he
     have hu := run_underlyingT (w := w) ht
     rw [hdd] at hu
     have hagg : ti.agg = false := by simp [TI.agg, hdd]
     simp [Op.equalIn, hu, asVal, hagg, valD]
  ·rename_i fs hdd
   cases heq : ti.eq with
   | false => simp [heq] at hf
   | true =>
    simp only [heq, cond_true] at hf
    split at hf
    ·rename_i l hl
     cases hb : Nat.beq l.length ti.size with
     | false => simp [hb] at hf
     | true =>
      simp only [hb, cond_true] at hf
      cases hf
      refine ⟨Nat.eq_of_beq_eq_true hb, fun w ds es b hk hk' he => ?_⟩
      have hagg : ti.agg = true := by simp [TI.agg, hdd]
      have hu := ht.1
      rw [hdd] at hu
      have hfs : P.fieldsOf t = fs := by simp [Program.fieldsOf, hu]
      rw [hagg]
      simp only [asVal, cond_true]
      rw [run_equalIn_agg w D t _ _ (by rw [hfs]; exact hu) (hT.getE hti heq).1, hfs]
      have := run_eqFields hT (d := d) (D := D) (fun t ks ti hf hti => equal_flat hT d D (by omega) t ks ti hf hti) fs.toList ks 0 [] [] ds es b w hl rfl rfl hk hk' he
      simpa using this
    ·cases hf
  ·rename_i n e hdd
   split at hf
   ·rename_i l te hl hte
    cases hb : (Nat.beq l.length te.size && Nat.beq (List.replicate n l).flatten.length ti.size) with
    | false => rw [hb] at hf; cases hf
    | true =>
     simp only [hb, cond_true] at hf
     cases hf
     simp only [Bool.and_eq_true] at hb
     refine ⟨Nat.eq_of_beq_eq_true hb.2, fun w ds es b hk hk' he => ?_⟩
     have hagg : ti.agg = true := by simp [TI.agg, hdd]
     have hu := run_underlyingT (w := w) ht
     rw [hdd] at hu
     have hs := run_sizeOfT (w := w) (hT.get hte)
     have := run_eqElems (w := w) hT hte (Nat.eq_of_beq_eq_true hb.1) (fun ha => flatK_one hl hte ha) (equal_flat hT d D (by omega) e l te hl hte).2 (ds.map valD).toArray (es.map valD).toArray n 0 [] [] ds es b (by simp) (by simp) hk hk' he (by simp) (by simp)
     rw [hagg]
     simp only [asVal, cond_true]
     rw [Op.equalIn]
     simp only [Sem.run_bind, hu, hs, Result.andThen_ok]
     simp only [Std.Legacy.Range.forIn_eq_forIn_range', Std.Legacy.Range.size, Nat.sub_zero, Nat.add_sub_cancel, Nat.div_one]
     rw [this]
     cases b <;> simp
   ·cases hf
  ·cases hf
theorem eqAgg_sound (hT : TOk P T) {op : BinOp} {t t' : TypeId} {x y : Operand} {ti : TI} {xs ys : List CV} {E : Eff} (hti : get T t = some ti) (hop : o.op = .binOp op t x y t') (he : effEqAgg T op t xs ys = some E)
  (fr : Fr B ρ F w) (hi : HI B ρ F w h) (hx : RepS ρ F w (.agg xs) (a.eval x)) (hy : RepS ρ F w (.agg ys) (a.eval y)) (hagg : ti.agg = true) (hg : P.eqGuardType P.depth t = false) : Good P B ρ F w h o a E.tv E.hd := by
 unfold effEqAgg at he
 split at he
 ·rename_i ks ds es hf h1 h2
  rw [allD_get h1] at hx
  rw [allD_get h2] at hy
  obtain ⟨vs, e1, r1⟩ := hx
  obtain ⟨us, e2, r2⟩ := hy
  cases hb : (kindsOk ks ds && kindsOk ks es) with
  | false => simp [hb] at he
  | true =>
   simp only [hb, cond_true] at he
   simp only [Bool.and_eq_true] at hb
   rw [valD_rep hb.1 r1] at e1
   rw [valD_rep hb.2 r2] at e2
   have key : ∀ b, eqCs ds es = some b → (Op.equalIn 10000 t (.agg (ds.map valD).toArray) (.agg (es.map valD).toArray)).run P w = .ok b w := fun b hb' => by
    have := (equal_flat hT 8 10000 (by omega) t ks ti hf hti).2 w ds es b hb.1 hb.2 hb'
    rw [hagg] at this
    exact this
   split at he
   ·rename_i b hb'
    cases pureE_inv he
    refine good_same (v := .bool b) fr hi (exec_bin hop ?_ ?_) rfl
    ·rw [e1, e2]; exact run_eqGuard_agg w _ t x y _ _ hg
    ·rw [e1, e2, run_eql_struct, key b hb']; rfl
   ·rename_i b hb'
    cases pureE_inv he
    refine good_same (v := .bool (!b)) fr hi (exec_bin hop ?_ ?_) rfl
    ·rw [e1, e2]; exact run_eqGuard_agg w _ t x y _ _ hg
    ·rw [e1, e2, run_neq_struct, key b hb']; rfl
   ·cases he
 ·cases he
end
end Sg
