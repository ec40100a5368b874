import Derived.Test.YtpndenfhglaikaaSoundT
set_option linter.all false
namespace Sg
open Go
section
variable {P : Program} {B : Base} {ρ ρ' : Nat → Option Pl} {F F' : Nat → Prop} {w w' : World} {h : Hp} {o : Oper} {a : Act} {T : List (Nat × TI)}
def OptRep (ρ : Nat → Option Pl) (F : Nat → Prop) (w : World) : Option TV → Option Value → Prop
 | some tv, some v => RepT ρ F w tv v
 | none, none => True
 | _, _ => False
def bdL : Bnd → Nat → Nat
 | .lo l, _ => l.toNat
 | _, _ => 0
def bdH : Bnd → Nat → Nat
 | .hi h, _ => h.toNat
 | _, len => len
def bdOk : Bnd → Nat → Prop
 | .lo l, len => 0 ≤ l ∧ l ≤ len
 | .hi h, len => 0 ≤ h ∧ h ≤ len
 | .all, _ => True
def BdV (bd : Bnd) (lo hi : Option Value) : Prop :=
 match bd with
 | .lo l => (∃ k, lo = some (.int k l)) ∧ hi = none
 | .hi h => lo = none ∧ ∃ k, hi = some (.int k h)
 | .all => lo = none ∧ hi = none
theorem run_bounds {bd : Bnd} {lo hi : Option Value} {is : Bool} {len cap : Nat} (hv : BdV bd lo hi) (hb : bdOk bd len) (hlc : len ≤ cap) : (Instr.sliceBounds is len cap lo hi none).run P w = .ok (bdL bd len, bdH bd len, cap) w ∧ bdL bd len ≤ bdH bd len ∧ bdH bd len ≤ len := by
 cases bd with
 | lo l =>
  obtain ⟨⟨k, rfl⟩, rfl⟩ := hv
  obtain ⟨h1, h2⟩ := hb
  refine ⟨?_, by simp [bdL, bdH]; omega, by simp [bdH]⟩
  simp [Instr.sliceBounds, Instr.sliceBound, asIntOf, bdL, bdH, h1, h2]
 | hi l =>
  obtain ⟨rfl, ⟨k, rfl⟩⟩ := hv
  obtain ⟨h1, h2⟩ := hb
  have h3 : l ≤ (cap : Int) := by omega
  refine ⟨?_, by simp [bdL], by simp [bdH]; omega⟩
  simp [Instr.sliceBounds, Instr.sliceBound, asIntOf, bdL, bdH, h1, h3]
 | all =>
  obtain ⟨rfl, rfl⟩ := hv
  exact ⟨by simp [Instr.sliceBounds, bdL, bdH], by simp [bdL], by simp [bdH]⟩
theorem exec_slice {t e : TypeId} {x : Operand} {lo hi : Option Operand} {ti te : TI} {bd : Bnd} (ht : TOk1 P t ti) (hd : ti.d = .slice e) (hte : TOk1 P e te) (hop : o.op = .slice t x lo hi none) {ad : Option Addr} {len cap : Nat} (hx : a.eval x = .slice ad len cap)
  (hv : BdV bd (lo.map a.eval) (hi.map a.eval)) (hb : bdOk bd len) (hlc : len ≤ cap) :
  (execOp a.eval o).run P w = .ok (.value (.slice (if cap = bdL bd len then ad else ad.map (·.add (bdL bd len * te.size))) (bdH bd len - bdL bd len) (cap - bdL bd len))) w := by
 have hu := run_underlyingT (w := w) ht
 rw [hd] at hu
 have hs := run_sizeOfT (w := w) hte
 obtain ⟨hbd, _⟩ := run_bounds (P := P) (w := w) (is := true) hv hb hlc
 simp [execOp, hop, Instr.sliceAt, Instr.slice, hu, hs, hx, hbd]
theorem exec_slice_arr {t e : TypeId} {n : Nat} {x : Operand} {ti te : TI} (ht : TOk1 P t ti) (hd : ti.d = .array n e) (hte : TOk1 P e te) (hop : o.op = .slice t x none none none) {k off : Nat} (hx : a.eval x = .pointer (some ⟨k, off, none⟩)) :
  (execOp a.eval o).run P w = .ok (.value (.slice (some ⟨k, off, none⟩) n n)) w := by
 have hu := run_underlyingT (w := w) ht
 rw [hd] at hu
 have hs := run_sizeOfT (w := w) hte
 simp [execOp, hop, Instr.sliceAt, hu, hs, hx, Instr.sureAddr, Instr.sliceBounds, add_none]
theorem optTV_rep {lo : Option Operand} {xs xs' : List TV} {l : Option TV} {vs : List Value} (h : optTV lo xs = some (l, xs')) (hx : RepTs ρ F w xs (lo.toArray.toList.map a.eval ++ vs)) :
  RepTs ρ F w xs' vs ∧ OptRep ρ F w l (lo.map a.eval) := by
 cases lo with
 | none => simp [optTV] at h; obtain ⟨rfl, rfl⟩ := h; exact ⟨by simpa using hx, trivial⟩
 | some y =>
  cases xs with
  | nil => simp [optTV] at h
  | cons x xs =>
   simp [optTV] at h
   obtain ⟨rfl, rfl⟩ := h
   simp at hx
   exact ⟨hx.2, hx.1⟩
theorem bnd_rep {lo hi : Option TV} {vl vh : Option Value} {bd : Bnd} (h : bndOf lo hi = some bd) (hl : OptRep ρ F w lo vl)
  (hh : OptRep ρ F w hi vh) : BdV bd vl vh := by
 unfold bndOf at h
 split at h
 ·rename_i k l
  cases h
  cases vl with
  | none => exact hl.elim
  | some v =>
   cases vh with
   | some _ => exact hh.elim
   | none => have hl : v = .int k l := hl; exact ⟨⟨k, by rw [hl]⟩, rfl⟩
 ·rename_i k l
  cases h
  cases vh with
  | none => exact hh.elim
  | some v =>
   cases vl with
   | some _ => exact hl.elim
   | none => have hh : v = .int k l := hh; exact ⟨rfl, k, by rw [hh]⟩
 ·cases h
  cases vl with
  | some _ => exact hl.elim
  | none => cases vh with
   | some _ => exact hh.elim
   | none => exact ⟨rfl, rfl⟩
 ·cases h
theorem HIf.shutF {ft : Nat → Nat → Prop} (fr : Fr B ρ F w) (hi : HIf B ρ F w h ft) {b k : Nat} {cap : Nat} {E : TypeId} {ds : List DV} (hb : h b = some (some (.cells E (ds.map .d)))) (hk : ρ b = some (.blk k 0 cap)) (hf : ft b k) :
  HIf B ρ (fun q => F q ∨ q = k) w (upd h [(b, some (.fcells E ds))]) (setF ft b fun _ => False) ∧ Fr B ρ (fun q => F q ∨ q = k) w := by
 obtain ⟨g1, g2, g3⟩ := hi.blk b _ k hb hf
 have g : Gr ρ F w ρ (fun q => F q ∨ q = k) w := ⟨fun _ _ h => h, fun _ h => .inl h, fun _ _ => rfl⟩
 have hu : ∀ b', upd h [(b, some (.fcells E ds))] b' = if b = b' then some (some (.fcells E ds)) else h b' := fun b' => upd_one _ _ _
 refine ⟨hi.step g fr (Nat.le_refl _) (fun x => x = b) (fun x ob e hh => ?_) (fun x ob e hh => ?_) (fun x ob q e hh hq => ?_) (fun _ _ _ _ _ e1 e2 _ _ _ _ => e1.trans e2.symm) (fun q hq => ?_) (fun x hh => ?_), { fr with fz := fun q hq => ?_, bf := fun q hq => .inl (fr.bf q hq) }⟩
 ·rw [hu, if_neg (Ne.symm e)] at hh; exact ⟨hh, fun _ _ => rfl, fun k => by rw [setF_ne e]⟩
 ·subst e; rw [hu, if_pos rfl] at hh; cases hh
  obtain ⟨k', cap', vs, h1, h0, h2, h3⟩ := hi.obj x _ hb
  rw [hk] at h1; cases h1
  refine ⟨k, 0, cap, hk, fun j y hy => ⟨.inr rfl, ?_⟩⟩
  obtain ⟨u, hu', hr⟩ := h3.get (j := j) (c := .d y) (by rw [List.getElem?_map, hy]; rfl)
  exact ⟨u, by rw [Nat.zero_add, cell_of_vs h2]; exact hu', RepD.gr g.fz g.mem hr⟩
 ·subst e; rw [setF_same] at hq; exact hq.elim
 ·rcases hq with hq | hq
  ·exact .inl hq
  ·subst hq
   exact .inr (.inl ⟨⟨b, _, rfl, hb, hf⟩, fun x ob e hh hq => by subst e; rw [setF_same] at hq; exact hq⟩)
 ·rw [hu] at hh; split at hh
  ·cases hh
  ·exact hi.fresh x hh
 ·rcases hq with hq | hq
  ·exact fr.fz q hq
  ·subst hq; exact ⟨g1, by rcases g3 with g3 | g3; exact .inr (.inl g3); exact .inr (.inr g3)⟩
theorem slice_sound (hT : TOk P T) {t : TypeId} {x : Operand} {lo hi' : Option Operand} {ti : TI} {xa : TV} {l hh : Option TV} {fresh : Nat} {an : Ann} {obs : List (Option (Option Ob))} {E : Eff} (ht : TOk1 P t ti) (hop : o.op = .slice t x lo hi' none)
  (he : effSlice T fresh an ti.d xa l hh obs = some E) (hc : All E.conds) (hobs : ∃ r, obs = (foot an fresh o.op (xa :: r)).map h) (fr : Fr B ρ F w) (hi : HI B ρ F w h) (hx : RepT ρ F w xa (a.eval x))
  (hl : OptRep ρ F w l (lo.map a.eval)) (hr : OptRep ρ F w hh (hi'.map a.eval)) : Good P B ρ F w h o a E.tv E.hd := by
 obtain ⟨rr, hobs⟩ := hobs
 unfold effSlice at he
 split at he
 ·cases he
 ·rename_i bd hbd
  have hbv := bnd_rep hbd hl hr
  split at he
  ·rename_i e hd
   split at he
   ·cases he
   ·rename_i te hte
    have hte := hT.get hte
    split at he
    ·-- data
     rename_i nn esz len el
     split at he
     ·cases hb : Nat.beq esz te.size with
      | false => simp [hb] at he
      | true =>
       simp only [hb, cond_true] at he
       have hes := Nat.eq_of_beq_eq_true hb
       obtain ⟨ad, cap, hv, n1, n2, n3, n4, n5⟩ := hx
       have hok : bdOk bd len := by
        cases bd with
        | lo l => simp [effSliceD] at he; subst he; exact hc.1
        | hi l => simp [effSliceD] at he; subst he; exact hc.1
        | all => trivial
       have htv : E.hd = [] ∧ E.tv = .v (.one (.d (.sl nn esz (bdH bd len - bdL bd len) fun i j => el (i + bdL bd len) j))) := by
        cases bd with
        | lo l => simp [effSliceD] at he; subst he; exact ⟨rfl, rfl⟩
        | hi l => simp [effSliceD] at he; subst he; exact ⟨rfl, rfl⟩
        | all => simp [effSliceD] at he; subst he; exact ⟨rfl, rfl⟩
       rw [htv.1, htv.2]
       have hrun := exec_slice (w := w) ht hd hte hop hv hbv hok n4
       obtain ⟨_, q1, q2⟩ := run_bounds (P := P) (w := w) (is := true) hbv hok n4
       refine good_same fr hi hrun ⟨_, _, rfl, fun e => ?_, fun e => ?_, fun e => ?_, by omega, fun ad' ha => ?_⟩
       ·have := n1 e
        split
        ·exact this
        ·cases ad with
         | none => exact absurd rfl this
         | some _ => simp
       ·rw [n2 e]; simp
       ·split at e
        ·obtain ⟨r1, r2⟩ := n3 e; omega
        ·cases ad with
         | none => obtain ⟨r1, r2⟩ := n3 rfl; omega
         | some _ => simp at e
       ·split at ha
        ·obtain ⟨r1, _⟩ := n5 ad' ha
         exact ⟨fun hq => absurd hq (by omega), fun i hi' => by omega⟩
        ·cases ad with
         | none => simp at ha
         | some ad0 =>
          simp at ha
          obtain ⟨r1, r2⟩ := n5 ad0 rfl
          by_cases hq0 : bdH bd len - bdL bd len = 0
          ·exact ⟨fun hq => absurd hq (by omega), fun i hi' => by omega⟩
          rw [add_none' (r1 (by omega))] at ha
          subst ha
          refine ⟨fun _ => rfl, fun i hi' j hj => ?_⟩
          obtain ⟨hf, u, hu, hru⟩ := r2 (i + bdL bd len) (by omega) j hj
          exact ⟨hf, u, by simp only; rw [← hes, show ad0.off + bdL bd len * esz + (i * esz + j) = ad0.off + ((i + bdL bd len) * esz + j) by rw [Nat.add_mul]; omega]; exact hu, hru⟩
     ·cases he
    ·-- an object
     rename_i b nn n
     split at he
     ·rename_i E' esz len el
      cases hb : Nat.beq esz te.size with
      | false => simp [hb] at he
      | true =>
       simp only [hb, cond_true] at he
       have hes := Nat.eq_of_beq_eq_true hb
       rw [hop] at hobs
       simp [foot] at hobs
       obtain ⟨hob, hfr⟩ := hobs
       obtain ⟨ft, hi⟩ := hi
       have hρf := hi.fresh fresh hfr.symm
       have key : ∃ len' el', n = len ∧ bdOk bd len ∧ len' = bdH bd len - bdL bd len ∧ ArrEq len' esz (fun i j => el (i + bdL bd len) j) el' ∧ E = ⟨E.conds, .v (.one (.own fresh nn len')), [(fresh, some (.arr E' esz len' el')), (b, none)]⟩ := by
        unfold effSliceO at he
        split at he
        ·rename_i len' el'
         cases bd with
         | lo l => simp only [Option.some.injEq] at he; subst he; obtain ⟨c1, c2, c3, c4, _⟩ := hc; exact ⟨len', el', c1, c2, c3, by rw [c3]; exact c4, rfl⟩
         | hi l => simp only [Option.some.injEq] at he; subst he; obtain ⟨c1, c2, c3, c4, _⟩ := hc; exact ⟨len', el', c1, c2, by simp [bdL, bdH, c3], by rw [c3]; exact c4, rfl⟩
         | all => cases he
        ·cases he
       obtain ⟨len', el', rfl, hok, hle, heq, hE⟩ := key
       rw [hE]
       simp only
       have grn : ∀ p, Gr ρ F w (updR ρ fresh p) F w := fun p => ⟨updR_mono hρf, fun _ h => h, fun _ _ => rfl⟩
       have frn : ∀ p, Fr B (updR ρ fresh p) F w := fun p => { fr with rho := fun b' p' e => updR_mono hρf b' p' (fr.rho b' p' e) }
       rcases hx with ⟨k, base, cap, hk, hv⟩ | ⟨hnn, hkn, h0, hv⟩
       ·rcases hi.obj b _ hob.symm with ⟨g0, _⟩ | ⟨k', base', cap', g0, g00, vs, g2, g3, g4, g5, g6⟩
        ·rw [hk] at g0; cases g0
        ·rw [hk] at g0; cases g0
         have hrun := exec_slice (w := w) ht hd hte hop hv hbv hok g4
         obtain ⟨_, q1, q2⟩ := run_bounds (P := P) (w := w) (is := true) hbv hok g4
         obtain ⟨nb, hnb⟩ : ∃ nb, nb = if cap = bdL bd n then base else base + bdL bd n * te.size := ⟨_, rfl⟩
         have hrun' : (execOp a.eval o).run P w = .ok (.value (.slice (some ⟨k, nb, none⟩) len' (cap - bdL bd n))) w := by
          rw [hrun, hle, hnb]
          split
          ·rfl
          ·simp [add_none]
         have hbl : bdL bd n ≤ cap := by omega
         refine good_to (grn (.blk k nb (cap - bdL bd n))) (frn _) ⟨_, HIf.move (S := ft b) fr hi hob.symm hfr.symm (grn _) (Nat.le_refl _) (fun _ _ _ _ _ _ => rfl) (fun _ hf => .inl hf) (.inr ⟨k, nb, cap - bdL bd n, updR_same _ _, g00, ?_⟩)⟩ hrun' (.inl ⟨k, nb, _, updR_same _ _, rfl⟩)
         by_cases hcap : cap = bdL bd n
         ·-- nothing is left: the row is cut at its end
          rw [if_pos hcap] at hnb
          exact ⟨vs, g2, by rw [hnb, show cap - bdL bd n = 0 by omega, Nat.zero_mul]; omega, by omega, by omega, fun i hi' => by omega⟩
         ·rw [if_neg hcap] at hnb
          refine ⟨vs, g2, ?_, by omega, by omega, fun i hi' j hj => ?_⟩
          ·rw [hnb, ← hes, Nat.add_assoc, ← Nat.add_mul, show bdL bd n + (cap - bdL bd n) = cap by omega]; exact g3
          ·obtain ⟨u, hu, hru⟩ := g6 (i + bdL bd n) (by omega) j hj
           rw [← heq i hi' j hj]
           exact ⟨u, by rw [hnb, ← hes, show base + bdL bd n * esz + (i * esz + j) = base + ((i + bdL bd n) * esz + j) by rw [Nat.add_mul]; omega]; exact hu, hru⟩
       ·have hn0 : n = 0 := h0
        subst hn0
        have hrun := exec_slice (w := w) ht hd hte hop hv hbv hok (Nat.le_refl 0)
        obtain ⟨_, q1, q2⟩ := run_bounds (P := P) (w := w) (is := true) hbv hok (Nat.le_refl 0)
        have h1 : bdL bd 0 = 0 := by omega
        have h2 : bdH bd 0 = 0 := by omega
        rw [h1, h2] at hrun
        rw [h1, h2] at hle
        subst hle
        refine good_to (grn .nil) (frn _) ⟨_, HIf.move (S := fun _ => False) fr hi hob.symm hfr.symm (grn _) (Nat.le_refl _) (fun _ _ _ _ _ _ => rfl) (fun _ hf => hf.elim) (.inl ⟨updR_same _ _, rfl⟩)⟩ hrun (.inr ⟨hnn, updR_same _ _, rfl, by simp⟩)
     ·cases he
    ·cases he
  ·rename_i n e hd
   split at he
   ·rename_i te hte
    have hte := hT.get hte
    have hlh : lo = none ∧ hi' = none := by
     obtain ⟨h1, h2⟩ := hbv
     exact ⟨by simpa using h1, by simpa using h2⟩
    obtain ⟨rfl, rfl⟩ := hlh
    split at he
    ·rename_i b off
     split at he
     ·rename_i E' cs
      split at he
      ·rename_i ds hds
       cases hb : Nat.ble (off + n * te.size) ds.length with
       | false => simp [hb] at he
       | true =>
        simp only [hb, cond_true] at he
        have hle := Nat.le_of_ble_eq_true hb
        cases he
        rw [hop] at hobs
        simp [foot] at hobs
        have hcs := allD_get hds
        subst hcs
        obtain ⟨ft, hi⟩ := hi
        obtain ⟨k, base, cap, hk, hv⟩ := hx
        obtain ⟨k', cap', vs, h1, h0, h2, h3⟩ := hi.obj b _ hobs.symm
        rw [hk] at h1; cases h1
        rw [Nat.zero_add] at hv
        have hrun := exec_slice_arr (w := w) ht hd hte hop hv
        obtain ⟨hi2, fr2⟩ := HIf.shutF fr hi hobs.symm hk h0
        have g : Gr ρ F w ρ (fun q => F q ∨ q = k) w := ⟨fun _ _ h => h, fun _ h => .inl h, fun _ _ => rfl⟩
        refine good_to g fr2 ⟨_, hi2⟩ hrun ⟨some ⟨k, off, none⟩, n, rfl, by simp, by simp, by simp, Nat.le_refl _, fun ad ha => ?_⟩
        cases ha
        refine ⟨fun _ => rfl, fun i hi' j hj => ⟨.inr rfl, ?_⟩⟩
        have hlt : off + (i * te.size + j) < ds.length := by
         have := at_lt (len := n) hi' hj
         omega
        obtain ⟨u, hu, hru⟩ := h3.get (j := off + (i * te.size + j)) (c := .d (ds.getD (off + (i * te.size + j)) .nilp)) (by rw [List.getElem?_map, List.getD_eq_getElem?_getD, List.getElem?_eq_getElem hlt]; rfl)
        exact ⟨u, by rw [cell_of_vs h2]; exact hu, RepD.gr g.fz g.mem hru⟩
      ·cases he
     ·cases he
    ·rename_i m c
     split at he
     ·cases hb : (Nat.ble (n * te.size) m && Nat.ble 1 (n * te.size)) with
      | false => simp [hb] at he
      | true =>
       simp only [hb, cond_true] at he
       simp only [Bool.and_eq_true] at hb
       have hle := Nat.le_of_ble_eq_true hb.1
       cases he
       obtain ⟨ad, hv, hsp, hcell⟩ := hx
       obtain ⟨ak, ao, asp⟩ := ad
       simp at hsp; subst hsp
       have hrun := exec_slice_arr (w := w) ht hd hte hop hv
       refine good_same fr hi hrun ⟨some ⟨ak, ao, none⟩, n, rfl, by simp, by simp, by simp, Nat.le_refl _, fun ad ha => ?_⟩
       cases ha
       refine ⟨fun _ => rfl, fun i hi' j hj => ?_⟩
       exact hcell (i * te.size + j) (Nat.lt_of_lt_of_le (at_lt hi' hj) hle)
     ·cases he
    ·cases he
   ·cases he
  ·cases he
end
end Sg
