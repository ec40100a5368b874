import Derived.Test.YtpndenfhglaikaaSound8
import Derived.Laws.StructEq
set_option linter.all false
namespace Sg
open Go
section
variable {P : Program} {B : Base} {ρ ρ' : Nat → Option Pl} {F F' : Nat → Prop} {w w' : World} {h : Hp} {o : Oper} {a : Act} {T : List (Nat × TI)}
theorem loadV_sound {t : TypeId} {x : Operand} {ti : TI} {ds : List DV} {xa : TV} {obs : List (Option (Option Ob))} {E : Eff} (ht : TOk1 P t ti) (hop : o.op = .load t x) (he : effLoadV ti ds xa obs = some E) (hc : All E.conds)
  (hobs : obs = (foot .none 0 (.load t x) [xa]).map h) (fr : Fr B ρ F w) (hi : HI B ρ F w h) (hx : RepT ρ F w xa (a.eval x)) : Good P B ρ F w h o a E.tv E.hd := by
 unfold effLoadV at he
 split at he
 ·rename_i n c
  obtain ⟨ad, hv, hs, hcell⟩ := hx
  cases hb : (Nat.ble ti.size n && Nat.beq ds.length ti.size) with
  | false => simp [hb] at he
  | true =>
   simp only [hb, cond_true] at he
   simp only [Bool.and_eq_true] at hb
   have hle := Nat.le_of_ble_eq_true hb.1
   have hlen := Nat.eq_of_beq_eq_true hb.2
   split at he
   ·rename_i s hsv
    cases he
    obtain ⟨hq, _⟩ := hc
    obtain ⟨ak, aoff, asp⟩ := ad
    simp at hs; subst hs
    obtain ⟨v, h1, h2⟩ := run_loadVarT (P := P) (ρ := ρ) (F := F) (w := w) ht hsv (by simp [hlen]) (k := ak) (off := aoff) fun j cv hj => by
     rw [List.getElem?_map] at hj
     obtain ⟨d, hd, rfl⟩ := Option.map_eq_some_iff.1 hj
     have hlt : j < ti.size := by rw [← hlen]; exact (List.getElem?_eq_some_iff.1 hd).1
     obtain ⟨_, u, hu, hr⟩ := hcell j (by omega)
     have e := hq 0 (by omega) j hlt
     have e' : c j = d := e.trans (by show ds.getD j .nilp = d; rw [List.getD_eq_getElem?_getD, hd]; rfl)
     exact ⟨u, by simpa using hu, by rw [e'] at hr; exact hr⟩
    exact good_same fr hi (exec_load hop hv h1) h2
   ·cases he
 ·rename_i b off E' cs
  obtain ⟨k, base, cap, hk, hv⟩ := hx
  split at he
  ·rename_i s hsv
   cases he
   obtain ⟨hle, hq, _⟩ := hc
   simp [foot] at hobs
   obtain ⟨ft, hi⟩ := id hi
   obtain ⟨k', cap', vs, h1, h0, h2, h3⟩ := hi.obj b _ hobs.symm
   rw [hk] at h1; cases h1
   rw [Nat.zero_add] at hv
   obtain ⟨v, g1, g2⟩ := run_loadVarT (P := P) (ρ := ρ) (F := F) (w := w) ht hsv (by rw [← hq]; simp; omega) (k := k) (off := off) fun j cv hj => by
    rw [← hq, List.getElem?_take] at hj
    split at hj
    ·rw [List.getElem?_drop] at hj
     obtain ⟨u, hu, hr⟩ := h3.get hj
     exact ⟨u, by rw [cell_of_vs h2]; exact hu, hr⟩
    ·cases hj
   exact good_same fr ⟨ft, hi⟩ (exec_load hop hv g1) g2
  ·cases he
 ·cases he
theorem storeV_sound {t : TypeId} {x y : Operand} {ti : TI} {ds : List DV} {xa xv : TV} {an : Ann} {obs : List (Option (Option Ob))} {E : Eff} (ht : TOk1 P t ti) (hop : o.op = .store t x y) (he : effStoreV ti ds xa xv obs = some E) (hc : All E.conds)
  (hobs : obs = (foot .none 0 (.store t x y) [xa, xv]).map h) (fr : Fr B ρ F w) (hi : HI B ρ F w h) (hx : RepT ρ F w xa (a.eval x)) (hy : RepT ρ F w xv (a.eval y)) : Good P B ρ F w h o a E.tv E.hd := by
 unfold effStoreV at he
 split at he
 ·rename_i b off s E' cs
  cases hb : Nat.beq (cellsOf s).length ti.size with
  | false => simp [hb] at he
  | true =>
   simp only [hb, cond_true] at he
   have he1 := Nat.eq_of_beq_eq_true hb
   cases he
   obtain ⟨hle, hq, _⟩ := hc
   have he2 : effStore an ti (.v (.one (.ptr b off))) (.v s) [some (some (.cells E' cs))] = some ⟨[], .tup [], [(b, some (.cells E' (ds.map .d)))]⟩ := by
    have : Nat.ble (off + ti.size) cs.length = true := Nat.ble_eq_true_of_le hle
    simp only [effStore, hb, this, Bool.and_self, cond_true, hq]
   exact store_sound (E := ⟨[], .tup [], [(b, some (.cells E' (ds.map .d)))]⟩) ht hop he2 trivial hobs fr hi hx hy
 ·cases he
theorem indexV_sound (hT : TOk P T) {t : TypeId} {x y : Operand} {ti : TI} {ds : List DV} {xa xv : TV} {E : Eff} (ht : TOk1 P t ti) (hop : o.op = .index t x y) (he : effIndexV T ds ti.d xa xv = some E) (hc : All E.conds)
  (fr : Fr B ρ F w) (hi : HI B ρ F w h) (hx : RepT ρ F w xa (a.eval x)) (hy : RepT ρ F w xv (a.eval y)) : Good P B ρ F w h o a E.tv E.hd := by
 unfold effIndexV at he
 split at he
 ·rename_i n e cs k i hd
  split at he
  ·rename_i te hte
   split at he
   ·rename_i s hsv
    cases he
    obtain ⟨⟨hi0, hi1⟩, hle, hq, _⟩ := hc
    obtain ⟨vs, hv, hr⟩ := hx
    have hyv : a.eval y = .int k i := hy
    have hu := run_underlyingT (w := w) ht
    rw [hd] at hu
    have hs := run_sizeOfT (w := w) (hT.get hte)
    have hg := run_isAggT (w := w) (hT.get hte)
    have hsub : RepL ρ F w (ds.map .d) ((vs.drop (i.toNat * te.size)).take te.size) := by
     rw [← hq]
     refine RepL.of_get (by simp [hr.length]) fun j c hj => ?_
     rw [List.getElem?_take] at hj ⊢
     split at hj
     ·rename_i e; rw [if_pos e]; rw [List.getElem?_drop] at hj ⊢; exact hr.get hj
     ·cases hj
    have hl := hr.length
    have hin : (0 ≤ i ∧ i < (n : Int)) := ⟨hi0, hi1⟩
    cases hagg : te.agg with
    | true =>
     rw [hagg] at hsv hg
     simp [asSV] at hsv
     subst hsv
     refine good_same (v := .agg ((vs.drop (i.toNat * te.size)).take te.size).toArray) fr hi ?_ ⟨_, rfl, hsub⟩
     simp [execOp, hop, Instr.index, hu, hv, hyv, asIntOf, part, hg, hs, hin]
    | false =>
     rw [hagg] at hsv hg
     match ds, hsv with
     | [c], hsv =>
      simp [asSV] at hsv
      subst hsv
      match hvs : (vs.drop (i.toNat * te.size)).take te.size, hsub with
      | [v], hsub =>
       have hsz : te.size ≠ 0 := by
        intro e0; rw [e0] at hvs; simp at hvs
       have hget : vs[i.toNat * te.size]? = some v := by
        have := congrArg (·[0]?) hvs
        simp only [List.getElem?_take, List.getElem?_drop] at this
        rw [if_pos (by omega)] at this
        simpa using this
       have hlt : i.toNat * te.size < vs.length := (List.getElem?_eq_some_iff.1 hget).1
       have hget' : vs[i.toNat * te.size] = v := by rw [List.getElem?_eq_getElem hlt] at hget; exact Option.some.inj hget
       refine good_same (v := v) fr hi ?_ hsub.1
       simp [execOp, hop, Instr.index, hu, hv, hyv, asIntOf, part, hg, hs, hin, hlt, hget']
   ·cases he
  ·cases he
 ·cases he
theorem nil_sound {op : BinOp} {t t' : TypeId} {x y : Operand} {ti : TI} {dx dy : DV} {E : Eff} (ht : TOk1 P t ti) (hop : o.op = .binOp op t x y t') (he : effNil op ti.d dx dy = some E)
  (fr : Fr B ρ F w) (hi : HI B ρ F w h) (hx : RepD F w dx (a.eval x)) (hy : RepD F w dy (a.eval y)) : Good P B ρ F w h o a E.tv E.hd := by
 have hu := run_underlyingT (w := w) ht
 have key : ∀ {n : Bool} {esz len esz' : Nat} {el el' : Nat → Nat → DV}, RepD F w (.sl (some n) esz len el) (a.eval x) → RepD F w (.sl (some false) esz' 0 el') (a.eval y) →
   ∃ ad l c, a.eval x = .slice ad l c ∧ ad.isNone = (!n) ∧ a.eval y = .slice none 0 0 := by
  rintro n esz len esz' el el' ⟨ad, cap, hv, h1, h2, h3, _⟩ ⟨ad', cap', hv', _, g2, g3, _⟩
  have := g2 rfl; subst this
  obtain ⟨_, rfl⟩ := g3 rfl
  refine ⟨ad, len, cap, hv, ?_, hv'⟩
  cases n with
  | true => have := h1 rfl; cases ad <;> simp_all
  | false => have := h2 rfl; subst this; rfl
 unfold effNil at he
 split at he
 ·rename_i e n esz len el esz' el' hd
  cases pureE_inv he
  obtain ⟨ad, l, c, e1, e2, e3⟩ := key hx hy
  rw [hd] at hu
  refine good_same (v := .bool (!n)) fr hi (exec_bin hop ?_ ?_) rfl
  ·rw [e1, e3]; rfl
  ·rw [e1, e3]
   show (do pure (Value.bool (← Op.equal t _ _)) : Sem Value).run P w = _
   have : (Op.equal t (.slice ad l c) (.slice none 0 0)).run P w = .ok ad.isNone w := by
    show (Op.equalIn (9999 + 1) t _ _).run P w = _
    rw [Op.equalIn]
    cases ad <;> simp [hu]
   simp only [Sem.run_bind, this, Result.andThen_ok, e2]; rfl
 ·rename_i e n esz len el esz' el' hd
  cases pureE_inv he
  obtain ⟨ad, l, c, e1, e2, e3⟩ := key hx hy
  rw [hd] at hu
  refine good_same (v := .bool n) fr hi (exec_bin hop ?_ ?_) rfl
  ·rw [e1, e3]; rfl
  ·rw [e1, e3]
   show (do pure (Value.bool (!(← Op.equal t _ _))) : Sem Value).run P w = _
   have : (Op.equal t (.slice ad l c) (.slice none 0 0)).run P w = .ok ad.isNone w := by
    show (Op.equalIn (9999 + 1) t _ _).run P w = _
    rw [Op.equalIn]
    cases ad <;> simp [hu]
   simp only [Sem.run_bind, this, Result.andThen_ok, e2, Bool.not_not]; rfl
 ·cases he
end
end Sg
