import Derived.Test.YtpndenfhglaikaaSound3
set_option linter.all false
namespace Sg
open Go
section
variable {P : Program} {B : Base} {ρ ρ' : Nat → Option Pl} {F F' : Nat → Prop} {w w' : World} {h : Hp} {o : Oper} {a : Act} {T : List (Nat × TI)}
theorem cval_rep : ∀ {v : Value} {x : DV}, cval v = some x → RepD F w x v := by
 intro v x hc
 unfold cval at hc
 split at hc <;> cases hc
 ·rfl
 ·rfl
 ·rfl
 ·exact ⟨none, 0, rfl, by simp, by simp, by simp, by simp, by simp⟩
 ·rfl
 ·rfl
 ·rfl
theorem cvals_rep : ∀ {vs : List Value} {xs : List DV}, cvals vs = some xs → RepL ρ F w (xs.map .d) vs
 | [], xs, hc => by simp [cvals] at hc; subst hc; trivial
 | v :: vs, xs, hc => by
  unfold cvals at hc
  split at hc
  ·rename_i d ds h1 h2
   cases hc
   exact ⟨cval_rep h1, cvals_rep h2⟩
  ·cases hc
theorem foldl_set : ∀ (vs : List Value) (off j : Nat) (cells : Array Value), off + j + vs.length ≤ cells.size →
  (vs.zipIdx j).foldl (fun cs (x : Value × Nat) => cs.setIfInBounds (off + x.2) x.1) cells = ((cells.toList.take (off + j)) ++ vs ++ cells.toList.drop (off + j + vs.length)).toArray
 | [], off, j, cells, _ => by simp
 | v :: vs, off, j, cells, hle => by
  simp at hle
  rw [List.zipIdx_cons, List.foldl_cons, foldl_set vs off (j + 1) _ (by simp; omega)]
  apply Array.ext'
  apply List.ext_getElem?
  intro i
  have hs : (cells.setIfInBounds (off + j) v).toList = cells.toList.set (off + j) v := by simp
  simp only [hs]
  have e1 : off + j + (v :: vs).length = off + (j + 1) + vs.length := by simp; omega
  rw [getElem?_splice _ _ _ (by simp; omega), getElem?_splice _ _ _ (by simp; omega), List.getElem?_set]
  simp only [List.length_cons, Array.length_toList]
  by_cases c1 : i < off + j
  ·rw [if_pos (by omega), if_pos c1, if_neg (by omega)]
  ·by_cases c2 : i = off + j
   ·subst c2
    rw [if_pos (by omega), if_pos rfl, if_pos (by omega), if_neg (by omega), if_pos (by omega)]
    simp
   ·rw [if_neg (by omega), if_neg c1]
    by_cases c3 : i < off + (j + 1) + vs.length
    ·rw [if_pos c3, if_pos (by omega), show i - (off + j) = (i - (off + (j + 1))) + 1 by omega]
     simp
    ·rw [if_neg c3, if_neg (by omega), if_neg (by omega)]
def RepPs (ρ : Nat → Option Pl) (F : Nat → Prop) (w : World) : List (Nat × List CV) → List (Nat × Value) → Prop
 | [], [] => True
 | (i, cs) :: ps, (j, v) :: vs => i = j ∧ RepL ρ F w cs v.cells.toList ∧ RepPs ρ F w ps vs
 | _, _ => False
theorem fill_rep {place : Nat → Option (Nat × Nat)} : ∀ {ps : List (Nat × List CV)} {vs : List (Nat × Value)} {cs cs' : List CV} {cells : Array Value}, RepPs ρ F w ps vs → RepL ρ F w cs cells.toList →
  fillL place cs ps = some cs' → ∃ cells', Instr.fill place cells vs = some cells' ∧ RepL ρ F w cs' cells'.toList
 | [], [], cs, cs', cells, _, hc, he => by simp [fillL] at he; subst he; exact ⟨cells, rfl, hc⟩
 | (i, pc) :: ps, (j, v) :: vs, cs, cs', cells, ⟨e, h1, h2⟩, hc, he => by
  subst e
  unfold fillL at he
  cases hp : place i with
  | none => simp [hp] at he
  | some x =>
   obtain ⟨off, size⟩ := x
   simp only [hp] at he
   cases hb : (decide (pc.length = size) && Nat.ble (off + pc.length) cs.length) with
   | false => simp [hb] at he
   | true =>
    simp only [hb, cond_true] at he
    simp only [Bool.and_eq_true, decide_eq_true_eq] at hb
    have hle := Nat.le_of_ble_eq_true hb.2
    have l1 := h1.length
    have l2 := hc.length
    have hsz : v.cells.size = pc.length := by rw [← l1]; simp
    have hsz2 : cells.size = cs.length := by rw [← l2]; simp
    have hsp := RepL.splice hc h1 (off := off) hle
    have hf : v.cells.zipIdx.foldl (fun cs (x : Value × Nat) => cs.setIfInBounds (off + x.2) x.1) cells = (cells.toList.take off ++ v.cells.toList ++ cells.toList.drop (off + v.cells.toList.length)).toArray := by
     rw [← Array.foldl_toList, Array.toList_zipIdx]
     have := foldl_set v.cells.toList off 0 cells (by rw [l1]; omega)
     simpa using this
    obtain ⟨cells', g1, g2⟩ := fill_rep (place := place) (cells := (cells.toList.take off ++ v.cells.toList ++ cells.toList.drop (off + v.cells.toList.length)).toArray) h2 hsp he
    refine ⟨cells', ?_, g2⟩
    unfold Instr.fill
    simp only [hp]
    rw [if_neg (by rw [hsz, hsz2]; simp; omega)]
    rw [hf]
    exact g1
 | [], _ :: _, _, _, _, h, _, _ => h.elim
 | _ :: _, [], _, _, _, h, _, _ => h.elim
theorem zipParts_rep : ∀ {ps : List (Nat × Operand)} {xs : List TV} {l : List (Nat × List CV)}, zipParts ps xs = some l → RepTs ρ F w xs (ps.map fun p => a.eval p.2) →
  RepPs ρ F w l (ps.map fun p => (p.1, a.eval p.2))
 | [], [], l, hz, _ => by simp [zipParts] at hz; subst hz; trivial
 | (i, p) :: ps, .v s :: xs, l, hz, ⟨h1, h2⟩ => by
  simp only [zipParts] at hz
  split at hz
  ·rename_i l' hl
   cases hz
   exact ⟨rfl, RepS.cells h1, zipParts_rep hl h2⟩
  ·cases hz
 | [], _ :: _, _, hz, _ => by simp [zipParts] at hz
 | _ :: _, [], _, hz, _ => by simp [zipParts] at hz
 | _ :: _, .tup _ :: _, _, hz, _ => by simp [zipParts] at hz
theorem placesL_run (hT : TOk P T) : ∀ {fs : List Field} {pl : List (Nat × Nat)}, placesL T fs = some pl → fs.mapM (fun f => (P.info? f.type).map fun i => (f.offset, i.size)) = some pl
 | [], pl, hp => by simp [placesL] at hp; subst hp; rfl
 | f :: fs, pl, hp => by
  unfold placesL at hp
  split at hp
  ·rename_i t l h1 h2
   cases hp
   obtain ⟨_, i, z, hi, hs, _⟩ := hT.get h1
   simp [List.mapM_cons, hi, hs, placesL_run hT h2]
  ·cases hp
theorem build_sound (hT : TOk P T) {t : TypeId} {parts : Array (Nat × Operand)} {ti : TI} {xs : List TV} {E : Eff} (ht : TOk1 P t ti) (hop : o.op = .build t parts) (he : effBuild T ti parts.toList xs = some E)
  (fr : Fr B ρ F w) (hi : HI B ρ F w h) (hx : RepTs ρ F w xs (parts.toList.map fun p => a.eval p.2)) : Good P B ρ F w h o a E.tv E.hd := by
 have hps : (parts.map fun (x : Nat × Operand) => (x.1, a.eval x.2)).toList = parts.toList.map fun p => (p.1, a.eval p.2) := by simp
 have hrun : ∀ cells, P.built t (parts.toList.map fun p => (p.1, a.eval p.2)) = some cells → (execOp a.eval o).run P w = .ok (.value (.agg cells)) w := by
  intro cells hb
  have := run_build w t (parts.map fun (x : Nat × Operand) => (x.1, a.eval x.2)) cells (by rw [hps]; exact hb)
  simp [execOp, hop, this]
 obtain ⟨hu, i, z, hi', hs, hb, hz, hzc⟩ := ht
 unfold effBuild at he
 split at he
 ·rename_i zc ps h1 h2
  have hzr : RepL ρ F w (zc.map .d) z.cells.toList := by rw [hzc]; exact cvals_rep h1
  have hpr := zipParts_rep h2 hx
  split at he
  ·rename_i fs hd
   split at he
   ·rename_i pl hpl
    split at he
    ·rename_i cs hf
     cases he
     obtain ⟨cells, g1, g2⟩ := fill_rep hpr hzr hf
     refine good_same fr hi (hrun cells ?_) ⟨cells.toList, by simp, g2⟩
     simp only [Program.built, hi', hu, hd, hz, placesL_run hT hpl]
     simpa using g1
    ·cases he
   ·cases he
  ·rename_i n e hd
   split at he
   ·rename_i te hte
    obtain ⟨_, ie, ze, hie, hse, _⟩ := hT.get hte
    split at he
    ·rename_i cs hf
     cases he
     obtain ⟨cells, g1, g2⟩ := fill_rep hpr hzr hf
     refine good_same fr hi (hrun cells ?_) ⟨cells.toList, by simp, g2⟩
     simp only [Program.built, hi', hu, hd, hz, hie, hse]
     exact g1
    ·cases he
   ·cases he
  ·cases he
 ·cases he
theorem box_sound {t : TypeId} {x : Operand} {s : SV} {fresh : Nat} (hop : o.op = .box t x) (hfr : h fresh = none)
  (fr : Fr B ρ F w) (hi : HI B ρ F w h) (hx : RepS ρ F w s (a.eval x)) : Good P B ρ F w h o a (.v (.one (.ptr fresh 0))) [(fresh, some (.cells t (cellsOf s)))] := by
 have p := Push.alloc w (.cells (a.eval x).cells t)
 have hρ := hi.fresh fresh hfr
 have hrun : (execOp a.eval o).run P w = .ok (.value (.pointer (some ⟨w.heap.size, 0, none⟩))) (w.alloc (.cells (a.eval x).cells t)) := by
  simp [execOp, hop, Instr.box, newVar, newRow]
 have hcs := hx.cells
 refine good_to (p.gr fr (pl := .blk w.heap.size 0 1) hρ) (p.fr fr hρ) (p.hi fr hi hfr ?_) hrun ⟨w.heap.size, 0, 1, updR_same _ _, rfl⟩
 exact ⟨w.heap.size, 1, _, updR_same _ _, rfl, by rw [p.new], hcs.gr (p.gr fr hρ)⟩
theorem alloc_sound {t : TypeId} {ti : TI} {zc : List DV} {fresh : Nat} (ht : TOk1 P t ti) (hz : cvals ti.zero = some zc) (hop : o.op = .alloc t) (hfr : h fresh = none)
  (fr : Fr B ρ F w) (hi : HI B ρ F w h) : Good P B ρ F w h o a (.v (.one (.ptr fresh 0))) [(fresh, some (.cells t (zc.map .d)))] := by
 obtain ⟨z, hz1, hz2⟩ := run_zeroT (w := w) ht
 have p := Push.alloc w (.cells z.cells t)
 have hρ := hi.fresh fresh hfr
 have hrun : (execOp a.eval o).run P w = .ok (.value (.pointer (some ⟨w.heap.size, 0, none⟩))) (w.alloc (.cells z.cells t)) := by
  simp [execOp, hop, Instr.alloc, newVar, newRow, hz1]
 refine good_to (p.gr fr (pl := .blk w.heap.size 0 1) hρ) (p.fr fr hρ) (p.hi fr hi hfr ?_) hrun ⟨w.heap.size, 0, 1, updR_same _ _, rfl⟩
 refine ⟨w.heap.size, 1, z.cells.toList, updR_same _ _, rfl, by rw [p.new], ?_⟩
 have := cvals_rep (ρ := ρ) (F := F) (w := w) hz
 rw [← hz2] at this
 exact this.gr (p.gr fr hρ)
theorem repC_rep {z : List DV} {zv : List Value} (hz : RepL ρ F w (z.map .d) zv) (hl : zv.length = z.length) (h1 : 0 < z.length) : ∀ n, RepL ρ F w (repC z n) ((List.range (n * z.length)).map fun i => zv[i % z.length]!)
 | 0 => by simp [repC, RepL]
 | n + 1 => by
  have e : (List.range ((n + 1) * z.length)).map (fun i => zv[i % z.length]!) = zv ++ (List.range (n * z.length)).map fun i => zv[i % z.length]! := by
   rw [Nat.add_mul, Nat.one_mul, Nat.add_comm, List.range_add, List.map_append, List.map_map]
   congr 1
   ·apply List.ext_getElem?
    intro i
    rw [List.getElem?_map]
    by_cases hi : i < z.length
    ·rw [List.getElem?_range hi]
     simp only [Option.map_some, Nat.mod_eq_of_lt hi]
     rw [List.getElem!_eq_getElem?_getD, List.getElem?_eq_getElem (by omega)]
     rfl
    ·rw [List.getElem?_eq_none (by simp; omega), List.getElem?_eq_none (by omega)]; rfl
   ·apply List.map_congr_left
    intro i _
    simp
  rw [e]
  exact hz.append (repC_rep hz hl h1 n)
theorem repC_length (z : List DV) : ∀ n, (repC z n).length = n * z.length
 | 0 => by simp [repC]
 | n + 1 => by simp [repC, repC_length z n, Nat.add_mul]; omega
theorem fillL_length {place : Nat → Option (Nat × Nat)} : ∀ {ps : List (Nat × List CV)} {cs cs' : List CV}, fillL place cs ps = some cs' → cs'.length = cs.length
 | [], cs, cs', he => by simp [fillL] at he; rw [he]
 | (i, pc) :: ps, cs, cs', he => by
  unfold fillL at he
  cases hp : place i with
  | none => simp [hp] at he
  | some x =>
   obtain ⟨off, size⟩ := x
   simp only [hp] at he
   cases hb : (decide (pc.length = size) && Nat.ble (off + pc.length) cs.length) with
   | false => simp [hb] at he
   | true =>
    simp only [hb, cond_true] at he
    simp only [Bool.and_eq_true, decide_eq_true_eq] at hb
    have hle := Nat.le_of_ble_eq_true hb.2
    rw [fillL_length he]; simp; omega
theorem buildSlice_sound (hT : TOk P T) {t : TypeId} {len : Nat} {parts : Array (Nat × Operand)} {ti : TI} {xs : List TV} {fresh : Nat} {an : Ann} {obs : List (Option (Option Ob))} {E : Eff} (ht : TOk1 P t ti) (hop : o.op = .buildSlice t len parts)
  (he : effBuildSlice T fresh an ti.d len parts.toList xs obs = some E) (hc : All E.conds) (hobs : obs = [h fresh])
  (fr : Fr B ρ F w) (hi : HI B ρ F w h) (hx : RepTs ρ F w xs (parts.toList.map fun p => a.eval p.2)) : Good P B ρ F w h o a E.tv E.hd := by
 unfold effBuildSlice at he
 split at he
 ·rename_i e ps hd hzp
  simp at hobs
  have hfr : h fresh = none := hobs.symm
  split at he
  ·rename_i te hte
   have hte' := hT.get hte
   split at he
   ·rename_i zc hzc
    cases hb : (Nat.ble (len * te.size) 1000 && Nat.beq te.zero.length te.size && Nat.ble 1 te.size) with
    | false => simp [hb] at he
    | true =>
     simp only [hb, cond_true] at he
     simp only [Bool.and_eq_true] at hb
     have hle := Nat.le_of_ble_eq_true hb.1.1
     have hzl := Nat.eq_of_beq_eq_true hb.1.2
     have hpos := Nat.le_of_ble_eq_true hb.2
     split at he
     ·rename_i cs hf
      obtain ⟨z, hz1, hz2⟩ := run_zeroT (w := w) hte'
      have hlz : zc.length = te.size := by
       have := (cvals_rep (ρ := ρ) (F := F) (w := w) hzc).length
       simp at this; omega
      have hzr : RepL ρ F w (zc.map .d) z.cells.toList := by rw [hz2]; exact cvals_rep hzc
      have hl' : z.cells.toList.length = zc.length := by rw [hz2, hzl, hlz]
      have hzs1 := repC_rep hzr hl' (by rw [hlz]; exact hpos) len
      rw [hlz] at hzs1
      have hsz : z.cells.size = te.size := by rw [← Array.length_toList, hl', hlz]
      have hzs2 : ((Array.range (len * te.size)).map fun i => z.cells[i % z.cells.size]!).toList = (List.range (len * te.size)).map fun i => z.cells.toList[i % te.size]! := by
       rw [Array.toList_map, Array.toList_range, hsz]
       refine List.map_congr_left fun i _ => ?_
       rw [List.getElem!_eq_getElem?_getD, Array.getElem!_eq_getD, Array.getD_eq_getD_getElem?, Array.getElem?_toList]
      rw [← hzs2] at hzs1
      have hpr := zipParts_rep hzp hx
      obtain ⟨cells, g1, g2⟩ := fill_rep hpr hzs1 hf
      have hρ := hi.fresh fresh hfr
      have p := Push.alloc w (.cells cells e)
      have hps : (parts.map fun (x : Nat × Operand) => (x.1, a.eval x.2)).toList = parts.toList.map fun p => (p.1, a.eval p.2) := by simp
      have hrun : (execOp a.eval o).run P w = .ok (.value (.slice (some ⟨w.heap.size, 0, none⟩) len len)) (w.alloc (.cells cells e)) := by
       have hu := run_underlyingT (w := w) ht
       rw [hd] at hu
       have hs := run_sizeOfT (w := w) hte'
       by_cases h0 : len = 0
       ·subst h0
        simp only [Nat.zero_mul] at g1
        have hnil : ∀ f : Nat → Value, (Array.range 0).map f = #[] := fun f => by simp [Array.range]
        rw [hnil] at g1
        simp only [execOp, hop, Instr.buildSlice, Sem.run_bind, hu, hs, Result.andThen_ok, hps, Nat.zero_mul, hnil]
        simp [g1, newRow]
       ·have h1 : len * te.size ≠ 0 := by
         intro e; rcases Nat.mul_eq_zero.1 e with e | e <;> omega
        simp only [execOp, hop, Instr.buildSlice, Sem.run_bind, hu, hs, Result.andThen_ok, hps]
        rw [if_neg (by omega)]
        simp [h1, hz1, g1, newRow]
      split at he
      ·cases he
       refine good_to (p.gr fr (pl := .blk w.heap.size 0 len) hρ) (p.fr fr hρ) (p.hi fr hi hfr ?_) hrun (.inl ⟨w.heap.size, 0, len, updR_same _ _, rfl⟩)
       exact ⟨w.heap.size, len, cells.toList, updR_same _ _, rfl, by rw [p.new], g2.gr (p.gr fr hρ)⟩
      split at he
      ·rename_i ds hds
       have hlen : (ds.map CV.d).length = len * te.size := by
        rw [← allD_get hds, fillL_length hf, repC_length, hlz]
       have hels : ∀ i, i < len → ∀ j, j < te.size → ∃ u, cells.toList[0 + (i * te.size + j)]? = some u ∧ RepD F (w.alloc (.cells cells e)) (elL te.size ds i j) u := by
        intro i hi' j hj
        have hin : i * te.size + j < len * te.size := by
         have : (i + 1) * te.size ≤ len * te.size := Nat.mul_le_mul_right _ (by omega)
         rw [Nat.add_mul, Nat.one_mul] at this; omega
        have hg : cs[i * te.size + j]? = some (.d (elL te.size ds i j)) := by
         rw [allD_get hds, List.getElem?_map]
         simp at hlen
         have hb2 : i * te.size + j < ds.length := by omega
         rw [elL, List.getD_eq_getElem?_getD, List.getElem?_eq_getElem hb2]
         rfl
        obtain ⟨u, hu, hr⟩ := g2.get hg
        exact ⟨u, by rw [Nat.zero_add]; exact hu, RepC.gr (p.gr fr (pl := .blk w.heap.size 0 len) hρ) hr⟩
       have hml : len ≤ maxLen := by
        have : len * 1 ≤ len * te.size := Nat.mul_le_mul_left _ hpos
        unfold maxLen; omega
       have hcl : 0 + len * te.size ≤ cells.toList.length := by rw [g2.length, allD_get hds, hlen, Nat.zero_add]; exact Nat.le_refl _
       split at he
       ·rename_i len' el'
        cases he
        obtain ⟨rfl, heq, _⟩ := hc
        refine good_to (p.gr fr (pl := .blk w.heap.size 0 _) hρ) (p.fr fr hρ) (p.hi fr hi hfr ?_) hrun (.inl ⟨w.heap.size, 0, _, updR_same _ _, rfl⟩)
        exact .inr ⟨w.heap.size, 0, _, updR_same _ _, rfl, cells.toList, by rw [p.new], hcl, Nat.le_refl _, hml, fun i hi' j hj => by rw [← heq i hi' j hj]; exact hels i hi' j hj⟩
       ·rename_i len' el'
        cases he
        obtain ⟨rfl, heq, _⟩ := hc
        let F0 : Nat → Prop := fun k => F k ∨ k = w.heap.size
        have hsz0 : (w.alloc (.cells cells e)).heap.size = w.heap.size + 1 := p.sz
        have g0 : Gr ρ F w ρ F0 (w.alloc (.cells cells e)) := ⟨fun _ _ h => h, fun _ h => .inl h, fun k hk => p.old (fr.fz k hk).1⟩
        have hfr0 : Fr B ρ F0 (w.alloc (.cells cells e)) := by
         refine ⟨fr.os, fr.tape, fr.output, by have := fr.size; omega, fun k hk hn => (p.old (by have := fr.size; omega)).trans (fr.mem k hk hn), fr.rho, fun k hk => ?_, fun k hk => .inl (fr.bf k hk)⟩
         rcases hk with hk | hk
         ·obtain ⟨x, y⟩ := fr.fz k hk; exact ⟨by omega, y⟩
         ·subst hk; exact ⟨by omega, .inr (.inr fr.size)⟩
        have hi0 : HI B ρ F0 (w.alloc (.cells cells e)) h := by
         obtain ⟨ft, hi⟩ := hi
         refine ⟨ft, hi.step g0 fr (by omega) (fun _ => False) (fun b ob _ hb => ⟨hb, fun k hk => p.old (hi.blk b ob k hb hk).1, fun _ => Iff.rfl⟩) (fun _ _ h => h.elim) (fun _ _ _ h => h.elim) (fun _ _ _ _ _ h => h.elim) (fun k hk => ?_) hi.fresh⟩
         rcases hk with hk | hk
         ·exact .inl hk
         ·subst hk; exact .inr (.inr ⟨Nat.le_refl _, fun _ _ h => h.elim⟩)
        refine good_to g0 hfr0 hi0 hrun ⟨some ⟨w.heap.size, 0, none⟩, _, rfl, (fun _ e => by cases e), (fun e => by cases e), (fun e => by cases e), Nat.le_refl _, fun ad ha => ?_⟩
        cases ha
        refine ⟨fun _ => rfl, fun i hi' j hj => ⟨.inr rfl, ?_⟩⟩
        obtain ⟨u, hu, hr⟩ := hels i hi' j hj
        refine ⟨u, ?_, ?_⟩
        ·rw [cell_of_vs (by rw [p.new])]; exact hu
        ·rw [← heq i hi' j hj]; exact RepD.gr (F := F) (w := w.alloc (.cells cells e)) (fun _ h => .inl h) (fun _ _ => rfl) hr
       ·cases he
        refine good_to (p.gr fr (pl := .blk w.heap.size 0 len) hρ) (p.fr fr hρ) (p.hi fr hi hfr ?_) hrun (.inl ⟨w.heap.size, 0, len, updR_same _ _, rfl⟩)
        exact .inr ⟨w.heap.size, 0, len, updR_same _ _, rfl, cells.toList, by rw [p.new], hcl, Nat.le_refl _, hml, hels⟩
      ·cases he
     ·cases he
   ·cases he
  ·cases he
 ·cases he
end
end Sg
