import Derived.Test.YtpndenfhglaikaaSound4
set_option linter.all false
namespace Sg
open Go
section
variable {P : Program} {B : Base} {ρ ρ' : Nat → Option Pl} {F F' : Nat → Prop} {w w' : World} {h : Hp} {o : Oper} {a : Act} {T : List (Nat × TI)}
theorem fieldPl_get {fs : Array Field} {f off size : Nat} (hp : fieldPl T fs f = some (off, size)) : ∃ fd t, fs[f]? = some fd ∧ get T fd.type = some t ∧ fd.offset = off ∧ t.size = size := by
 unfold fieldPl at hp
 split at hp
 ·rename_i fd hfd
  split at hp
  ·rename_i t ht
   cases hp
   exact ⟨fd, t, by simpa using hfd, ht, rfl, rfl⟩
  ·cases hp
 ·cases hp
theorem field_sound (hT : TOk P T) {t : TypeId} {x : Operand} {f : Nat} {ti : TI} {xa : TV} {E : Eff} (ht : TOk1 P t ti) (hop : o.op = .fieldAddr t x f) (he : effField T ti.d xa f = some E)
  (fr : Fr B ρ F w) (hi : HI B ρ F w h) (hx : RepT ρ F w xa (a.eval x)) : Good P B ρ F w h o a E.tv E.hd := by
 unfold effField at he
 split at he
 ·rename_i fs hd
  split at he
  ·rename_i off size hp
   obtain ⟨fd, tf, h1, h2, h3, h4⟩ := fieldPl_get hp
   have hs := run_sizeOfT (w := w) (hT.get h2)
   have hu := run_underlyingT (w := w) ht
   rw [hd] at hu
   cases hb : Nat.ble 1 size with
   | false => simp [hb] at he
   | true =>
    simp only [hb, cond_true] at he
    have hpos := Nat.le_of_ble_eq_true hb
    have hrun : ∀ k p, a.eval x = .pointer (some ⟨k, p, none⟩) → (execOp a.eval o).run P w = .ok (.value (.pointer (some ⟨k, p + off, none⟩))) w := by
     intro k p hv
     have hne : tf.size ≠ 0 := by omega
     simp [execOp, hop, Instr.fieldAt, hu, h1, hv, Instr.sureAddr, fieldPlace, hs, hne, add_none, h3]
    split at he
    ·rename_i n c
     obtain ⟨ad, hv, hsp, hc⟩ := hx
     obtain ⟨ak, ao, asp⟩ := ad
     simp at hsp; subst hsp
     cases hb2 : Nat.ble (off + size) n with
     | false => simp [hb2] at he
     | true =>
      simp only [hb2, cond_true] at he
      cases he
      refine good_same fr hi (hrun ak ao hv) ⟨⟨ak, ao + off, none⟩, rfl, rfl, fun j hj => ?_⟩
      obtain ⟨hf, u, hu', hr⟩ := hc (off + j) (by omega)
      exact ⟨hf, u, by rw [Nat.add_assoc]; exact hu', hr⟩
    ·rename_i b p
     cases he
     obtain ⟨k, base, cap, hk, hv⟩ := hx
     exact good_same fr hi (hrun k (base + p) hv) ⟨k, base, cap, hk, by rw [Nat.add_assoc]⟩
    ·rename_i b e i p
     cases he
     obtain ⟨k, base, cap, hk, hv⟩ := hx
     exact good_same fr hi (hrun k (base + (i * e + p)) hv) ⟨k, base, cap, hk, by rw [show base + (i * e + p) + off = base + (i * e + (p + off)) by omega]⟩
    ·cases he
  ·cases he
 ·cases he
theorem part_sound (hT : TOk P T) {t : TypeId} {x : Operand} {f : Nat} {ti : TI} {xa : TV} {E : Eff} (ht : TOk1 P t ti) (hop : o.op = .field t x f) (he : effPart T ti.d xa f = some E)
  (fr : Fr B ρ F w) (hi : HI B ρ F w h) (hx : RepT ρ F w xa (a.eval x)) : Good P B ρ F w h o a E.tv E.hd := by
 unfold effPart at he
 split at he
 ·rename_i fs cs hd
  obtain ⟨vs, hv, hr⟩ := hx
  have hu := run_underlyingT (w := w) ht
  rw [hd] at hu
  split at he
  ·rename_i fd hfd
   have hfd' : fs[f]? = some fd := by simpa using hfd
   split at he
   ·rename_i tf htf
    have hs := run_sizeOfT (w := w) (hT.get htf)
    have hg := run_isAggT (w := w) (hT.get htf)
    cases hb : Nat.ble (fd.offset + tf.size) cs.length with
    | false => simp [hb] at he
    | true =>
     simp only [hb, cond_true] at he
     have hle := Nat.le_of_ble_eq_true hb
     have hl := hr.length
     have hsub : RepL ρ F w ((cs.drop fd.offset).take tf.size) ((vs.drop fd.offset).take tf.size) := by
      refine RepL.of_get (by simp; omega) fun j c hj => ?_
      rw [List.getElem?_take] at hj ⊢
      split at hj
      ·rename_i e; rw [if_pos e]; rw [List.getElem?_drop] at hj ⊢; exact hr.get hj
      ·cases hj
     split at he
     ·rename_i s hsv
      cases he
      cases hagg : tf.agg with
      | true =>
       rw [hagg] at hsv hg
       simp [asSV] at hsv
       subst hsv
       refine good_same (v := .agg ((vs.drop fd.offset).take tf.size).toArray) fr hi ?_ ⟨_, rfl, hsub⟩
       simp [execOp, hop, Instr.field, hu, hfd', hv, asAgg, part, hg, hs]
      | false =>
       rw [hagg] at hsv hg
       match hcs : (cs.drop fd.offset).take tf.size, hsv with
       | [c], hsv =>
        simp [asSV] at hsv
        subst hsv
        rw [hcs] at hsub
        match hvs : (vs.drop fd.offset).take tf.size, hsub with
        | [v], hsub =>
         have hge : vs[fd.offset]? = some v := by
          have : ((vs.drop fd.offset).take tf.size)[0]? = some v := by rw [hvs]; rfl
          rw [List.getElem?_take] at this
          split at this
          ·rw [List.getElem?_drop] at this; simpa using this
          ·cases this
         refine good_same (v := v) fr hi ?_ hsub.1
         simp [execOp, hop, Instr.field, hu, hfd', hv, asAgg, part, hg, hge]
     ·cases he
   ·cases he
  ·cases he
 ·cases he
theorem index_sound (hT : TOk P T) {t : TypeId} {x y : Operand} {ti : TI} {xa xi : TV} {E : Eff} (ht : TOk1 P t ti) (hop : o.op = .indexAddr t x y) (he : effIndexAddr T ti.d xa xi = some E) (hc : All E.conds)
  (fr : Fr B ρ F w) (hi : HI B ρ F w h) (hx : RepT ρ F w xa (a.eval x)) (hy : RepT ρ F w xi (a.eval y)) : Good P B ρ F w h o a E.tv E.hd := by
 have hu := run_underlyingT (w := w) ht
 unfold effIndexAddr at he
 split at he
 ·rename_i e k i hd
  rw [hd] at hu
  have hy' : a.eval y = .int k i := hy
  split at he
  ·rename_i te hte
   have hs := run_sizeOfT (w := w) (hT.get hte)
   split at he
   ·rename_i nn esz len el
    obtain ⟨ad, cap, hv, _, _, h3, _, h4⟩ := hx
    cases hb : Nat.beq esz te.size with
    | false => simp [hb] at he
    | true =>
     simp only [hb, cond_true] at he
     have hes := Nat.eq_of_beq_eq_true hb
     cases he
     obtain ⟨hc, _⟩ := hc
     cases ad with
     | none => have := (h3 rfl).1; omega
     | some ad =>
      obtain ⟨hsp0, hcell⟩ := h4 ad rfl
      have hsp := hsp0 (by omega)
      have hrun : (execOp a.eval o).run P w = .ok (.value (.pointer (some ⟨ad.block, ad.off + i.toNat * te.size, none⟩))) w := by
       simp [execOp, hop, Instr.indexAt, hy', hv, asIntOf, hu, hs, hc.1, hc.2, add_none' hsp]
      refine good_same fr hi hrun ⟨_, rfl, rfl, fun j hj => ?_⟩
      obtain ⟨hf, u, h5, h6⟩ := hcell i.toNat (by omega) j hj
      exact ⟨hf, u, by rw [← hes, Nat.add_assoc]; exact h5, h6⟩
   ·rename_i b nn len
    cases he
    obtain ⟨hc, _⟩ := hc
    rcases hx with ⟨k', base, cap, hk, hv⟩ | ⟨_, _, h0, _⟩
    ·have hrun : (execOp a.eval o).run P w = .ok (.value (.pointer (some ⟨k', base + i.toNat * te.size, none⟩))) w := by
      simp [execOp, hop, Instr.indexAt, hy', hv, asIntOf, hu, hs, hc.1, hc.2, add_none]
     exact good_same fr hi hrun ⟨k', base, cap, hk, by rw [Nat.add_zero]⟩
    ·omega
   ·cases he
  ·cases he
 ·rename_i n e k i hd
  rw [hd] at hu
  have hy' : a.eval y = .int k i := hy
  split at he
  ·rename_i te hte
   have hs := run_sizeOfT (w := w) (hT.get hte)
   split at he
   ·rename_i m c
    obtain ⟨ad, hv, hsp, hcell⟩ := hx
    cases hb : Nat.ble (n * te.size) m with
    | false => simp [hb] at he
    | true =>
     simp only [hb, cond_true] at he
     have hle := Nat.le_of_ble_eq_true hb
     cases he
     obtain ⟨hc, _⟩ := hc
     have hrun : (execOp a.eval o).run P w = .ok (.value (.pointer (some ⟨ad.block, ad.off + i.toNat * te.size, none⟩))) w := by
      simp [execOp, hop, Instr.indexAt, hy', hv, asIntOf, hu, hs, hc.1, hc.2, add_none' hsp, Instr.sureAddr]
     refine good_same fr hi hrun ⟨_, rfl, rfl, fun j hj => ?_⟩
     have hin : i.toNat * te.size + j < m := by
      have : (i.toNat + 1) * te.size ≤ n * te.size := Nat.mul_le_mul_right _ (by omega)
      rw [Nat.add_mul, Nat.one_mul] at this; omega
     obtain ⟨hf, u, h5, h6⟩ := hcell (i.toNat * te.size + j) hin
     exact ⟨hf, u, by rw [Nat.add_assoc]; exact h5, h6⟩
   ·rename_i b off
    cases he
    obtain ⟨hc, _⟩ := hc
    obtain ⟨k', base, cap, hk, hv⟩ := hx
    have hrun : (execOp a.eval o).run P w = .ok (.value (.pointer (some ⟨k', base + off + i.toNat * te.size, none⟩))) w := by
     simp [execOp, hop, Instr.indexAt, hy', hv, asIntOf, hu, hs, hc.1, hc.2, add_none, Instr.sureAddr]
    exact good_same fr hi hrun ⟨k', base, cap, hk, by rw [Nat.add_assoc]⟩
   ·rename_i b e' q p
    cases he
    obtain ⟨hc, _⟩ := hc
    obtain ⟨k', base, cap, hk, hv⟩ := hx
    have hrun : (execOp a.eval o).run P w = .ok (.value (.pointer (some ⟨k', base + (q * e' + p) + i.toNat * te.size, none⟩))) w := by
     simp [execOp, hop, Instr.indexAt, hy', hv, asIntOf, hu, hs, hc.1, hc.2, add_none, Instr.sureAddr]
    exact good_same fr hi hrun ⟨k', base, cap, hk, by rw [show base + (q * e' + p) + i.toNat * te.size = base + (q * e' + (p + i.toNat * te.size)) by omega]⟩
   ·cases he
  ·cases he
 ·cases he
theorem pureE_inv {x : DV} {E : Eff} (he : pureE x = some E) : E = ⟨[], .v (.one (.d x)), []⟩ := by unfold pureE at he; cases he; rfl
theorem guard_int (op : BinOp) (t : TypeId) (x y : Operand) (k k' : IntKind) (p q : Int) : (eqGuard op t x y (.int k p) (.int k' q)).run P w = .ok () w := by
 unfold eqGuard; cases op <;> simp
theorem guard_bool (op : BinOp) (t : TypeId) (x y : Operand) (p q : Bool) : (eqGuard op t x y (.bool p) (.bool q)).run P w = .ok () w := by
 unfold eqGuard; cases op <;> simp
theorem int_beq_decide (p q : Int) : (p == q) = decide (p = q) := by
 by_cases e : p = q <;> simp [e]
theorem run_equal_bool {t : TypeId} (hun : (underlying t).run P w = .ok .bool w) (p q : Bool) : (Op.equal t (.bool p) (.bool q)).run P w = .ok (p == q) w := by
 show (Op.equalIn (9999 + 1) t _ _).run P w = _
 rw [Op.equalIn]
 simp [hun]
theorem run_eql_bool {t : TypeId} (hun : (underlying t).run P w = .ok .bool w) (p q : Bool) : (binOp .eql t (.bool p) (.bool q)).run P w = .ok (.bool (p == q)) w := by
 show (do pure (Value.bool (← Op.equal t (.bool p) (.bool q))) : Sem Value).run P w = _
 simp only [Sem.run_bind, run_equal_bool hun, Result.andThen_ok]; rfl
theorem run_neq_bool {t : TypeId} (hun : (underlying t).run P w = .ok .bool w) (p q : Bool) : (binOp .neq t (.bool p) (.bool q)).run P w = .ok (.bool (!(p == q))) w := by
 show (do pure (Value.bool (!(← Op.equal t (.bool p) (.bool q)))) : Sem Value).run P w = _
 simp only [Sem.run_bind, run_equal_bool hun, Result.andThen_ok]; rfl
theorem exec_bin {op : BinOp} {t t' : TypeId} {x y : Operand} {v : Value} (hop : o.op = .binOp op t x y t') (hg : (eqGuard op t x y (a.eval x) (a.eval y)).run P w = .ok () w) (hb : (binOp op t (a.eval x) (a.eval y)).run P w = .ok v w) :
  (execOp a.eval o).run P w = .ok (.value v) w := by
 simp only [execOp, hop, Sem.run_bind, hg, hb, Result.andThen_ok]; rfl
theorem bin_sound {op : BinOp} {t t' : TypeId} {x y : Operand} {dx dy : DV} {E : Eff} (hu : ∀ b1 b2, dx = .bool b1 → dy = .bool b2 → P.underlying t = some .bool) (hop : o.op = .binOp op t x y t') (he : binE op dx dy = some E) (hc : All E.conds)
  (fr : Fr B ρ F w) (hi : HI B ρ F w h) (hx : RepD F w dx (a.eval x)) (hy : RepD F w dy (a.eval y)) : Good P B ρ F w h o a E.tv E.hd := by
 unfold binE at he
 split at he
 ·rename_i k p k' q
  have hx' : a.eval x = .int k p := hx
  have hy' : a.eval y = .int k' q := hy
  split at he
  ·cases he
   obtain ⟨h0, _⟩ := hc
   refine good_same (v := .int k (k.wrap (p * 2 ^ min q.toNat k.bits))) fr hi ?_ rfl
   simp [execOp, hop, hx', hy', guard_int, binOp, Op.shift, Int.not_lt.2 h0]
  ·cases he
   obtain ⟨h0, _⟩ := hc
   refine good_same (v := .int k (p.fdiv (2 ^ min q.toNat k.bits))) fr hi ?_ rfl
   simp [execOp, hop, hx', hy', guard_int, binOp, Op.shift, Int.not_lt.2 h0]
  ·rename_i hn1 hn2
   cases hb : decide (k = k') with
   | false => simp [hb] at he
   | true =>
    simp only [hb, cond_true] at he
    have hk := of_decide_eq_true hb
    subst hk
    have go : ∀ v d, RepD F w d v → binOp op t (.int k p) (.int k q) = pure v → Good P B ρ F w h o a (.v (.one (.d d))) [] := by
     intro v d hr hb
     refine good_same (v := v) fr hi ?_ hr
     simp [execOp, hop, hx', hy', guard_int, hb]
    split at he
    ·cases he; exact go _ _ rfl (by simp [binOp, Op.intArith])
    ·cases he; exact go _ _ rfl (by simp [binOp, Op.intArith])
    ·cases he; exact go _ _ rfl (by simp [binOp, Op.intArith])
    ·cases he; exact go _ _ rfl (by simp [binOp, Op.intDiv, hc.1])
    ·cases he; exact go _ _ rfl (by simp [binOp, Op.intDiv, hc.1])
    ·cases he; exact go _ _ rfl (by simp [binOp, Op.intBits])
    ·cases he; exact go _ _ rfl (by simp [binOp, Op.intBits])
    ·cases he; exact go _ _ rfl (by simp [binOp, Op.intBits])
    ·split at he
     ·rename_i r hr
      cases pureE_inv he
      unfold intCmpE at hr
      split at hr <;> cases hr
      ·exact go _ _ rfl (by simp [binOp, Op.intCmp, int_beq_decide])
      ·exact go _ _ rfl (by simp [binOp, Op.intCmp, bne, int_beq_decide])
      ·exact go _ _ rfl (by simp [binOp, Op.intCmp])
      ·exact go _ _ rfl (by simp [binOp, Op.intCmp])
      ·exact go _ _ rfl (by simp [binOp, Op.intCmp])
      ·exact go _ _ rfl (by simp [binOp, Op.intCmp])
     ·cases he
 ·rename_i p q
  have hx' : a.eval x = .bool p := hx
  have hy' : a.eval y = .bool q := hy
  have hut := hu p q rfl rfl
  have hun : (underlying t).run P w = .ok .bool w := by simp [underlying, hut]
  split at he
  ·cases pureE_inv he
   refine good_same (v := .bool (p == q)) fr hi (exec_bin hop ?_ ?_) rfl
   ·rw [hx', hy']; exact guard_bool _ _ _ _ _ _
   ·rw [hx', hy']; exact run_eql_bool hun p q
  ·cases pureE_inv he
   refine good_same (v := .bool (!(p == q))) fr hi (exec_bin hop ?_ ?_) rfl
   ·rw [hx', hy']; exact guard_bool _ _ _ _ _ _
   ·rw [hx', hy']; exact run_neq_bool hun p q
  ·cases he
 ·cases he
theorem un_sound {op : UnOp} {t : TypeId} {x : Operand} {dx : DV} {E : Eff} (hop : o.op = .unOp op t x) (he : unE op dx = some E)
  (fr : Fr B ρ F w) (hi : HI B ρ F w h) (hx : RepD F w dx (a.eval x)) : Good P B ρ F w h o a E.tv E.hd := by
 unfold unE at he
 split at he
 ·rename_i b
  have hx' : a.eval x = .bool b := hx
  cases pureE_inv he
  refine good_same (v := .bool !b) fr hi ?_ rfl
  simp [execOp, hop, hx', Op.unary]
 ·rename_i k n
  have hx' : a.eval x = .int k n := hx
  cases pureE_inv he
  refine good_same (v := .int k (k.wrap (0 - n))) fr hi ?_ rfl
  simp [execOp, hop, hx', Op.unary, Op.intArith]
 ·cases he
theorem RepSs.get : ∀ {ss : List SV} {vs : List Value}, RepSs ρ F w ss vs → ∀ {j : Nat} {s : SV}, ss[j]? = some s → ∃ u, vs[j]? = some u ∧ RepS ρ F w s u
 | [], [], _, j, c, hh => by simp at hh
 | c0 :: _, v0 :: _, ⟨h0, t⟩, j, c, hh => by
  cases j with
  | zero => simp at hh; subst hh; exact ⟨v0, rfl, h0⟩
  | succ j => simp at hh; obtain ⟨u, hu, hr⟩ := RepSs.get t hh; exact ⟨u, by simpa using hu, hr⟩
 | [], _ :: _, hh, _, _, _ => hh.elim
 | _ :: _, [], hh, _, _, _ => hh.elim
theorem extract_sound {x : Operand} {ix : Nat} {l : List SV} {s : SV} (hop : o.op = .extract x ix) (hl : l[ix]? = some s)
  (fr : Fr B ρ F w) (hi : HI B ρ F w h) (hx : RepT ρ F w (.tup l) (a.eval x)) : Good P B ρ F w h o a (.v s) [] := by
 obtain ⟨vs, hv, hr⟩ := hx
 obtain ⟨u, hu, hr'⟩ := hr.get hl
 refine good_same (v := u) fr hi ?_ hr'
 simp [execOp, hop, hv, Instr.extract, hu]
theorem nilCheck_sound {x : Operand} {tv : TV} (hop : o.op = .nilCheck x) (hv : (∃ ad, a.eval x = .pointer (some ad)) ∨ ∃ f us vs, a.eval x = .func f us vs ∧ ∀ n, f ≠ .method n)
  (fr : Fr B ρ F w) (hi : HI B ρ F w h) (hx : RepT ρ F w tv (a.eval x)) : Good P B ρ F w h o a tv [] := by
 refine good_same (v := a.eval x) fr hi ?_ hx
 rcases hv with ⟨ad, hv⟩ | ⟨f, us, vs, hv, hf⟩
 ·simp [execOp, hop, hv]
 ·cases f with
  | method n => exact absurd rfl (hf n)
  | _ => simp [execOp, hop, hv]
end
end Sg
