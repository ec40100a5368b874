import Derived.Test.YtpndenfhglaikaaSound2
import Derived.Laws.CopyRow
import Derived.Laws.Entries
set_option linter.all false
namespace Sg
open Go
section
variable {P : Program} {B : Base} {ρ ρ' : Nat → Option Pl} {F F' : Nat → Prop} {w w' : World} {h : Hp} {o : Oper} {a : Act} {T : List (Nat × TI)}
theorem cell_of_vs {k : Nat} {vs : List Value} {E : TypeId} {fr : Nat × Nat} (hk : w.heap[k]? = some (.cells vs.toArray E fr)) (j : Nat) : w.cell? ⟨k, j, none⟩ = vs[j]? := by
 simp [World.cell?, hk]
theorem exec_load {t : TypeId} {x : Operand} (hop : o.op = .load t x) {v : Value} {ad : Addr} (hx : a.eval x = .pointer (some ad)) (hl : (loadVar t ad).run P w = .ok v w) :
  (execOp a.eval o).run P w = .ok (.value v) w := by
 simp [execOp, hop, Instr.loadAt, Instr.sureAddr, hx, hl]
theorem takeE_get {c : Nat → EV} : ∀ {i n : Nat} {ds : List DV}, takeE c i n = some ds → ds.length = n ∧ ∀ j x, ds[j]? = some x → c (i + j) = .d x
 | _, 0, ds, h => by simp [takeE] at h; subst h; simp
 | i, n + 1, ds, h => by
  simp only [takeE] at h
  split at h
  ·rename_i x l h1 h2
   cases h
   obtain ⟨e1, e2⟩ := takeE_get h2
   refine ⟨by simp [e1], fun j y hj => ?_⟩
   cases j with
   | zero => simp at hj; subst hj; exact h1
   | succ j => simp at hj; have := e2 j y hj; rw [show i + (j + 1) = i + 1 + j by omega]; exact this
  ·cases h
theorem load_run {t : TypeId} {x : Operand} {ti : TI} {xa : TV} {va : Value} {obs : List (Option (Option Ob))} {E : Eff} (ht : TOk1 P t ti) (he : effLoad ti xa obs = some E) (hc : All E.conds)
  (hobs : obs = (foot .none 0 (.load t x) [xa]).map h) (hi : HI B ρ F w h) (hx : RepT ρ F w xa va) : E.hd = [] ∧ ∃ ad v, va = .pointer (some ad) ∧ (loadVar t ad).run P w = .ok v w ∧ RepT ρ F w E.tv v := by
 obtain ⟨ft, hi⟩ := hi
 have cellsAt : ∀ {k : Nat} {vs : List Value} {E : TypeId} {cs : List CV} {off : Nat} {s : SV}, w.heap[k]? = some (.cells vs.toArray E (0, 0)) → RepL ρ F w cs vs → off + ti.size ≤ cs.length → asSV ti.agg ((cs.drop off).take ti.size) = some s →
   ∃ v, (loadVar t ⟨k, off, none⟩).run P w = .ok v w ∧ RepT ρ F w (.v s) v := by
  intro k vs E cs off s h2 h3 hle hsv
  exact run_loadVarT (P := P) (ρ := ρ) (F := F) (w := w) ht hsv (by simp; omega) (k := k) (off := off) fun j cv hj => by
   rw [List.getElem?_take] at hj
   split at hj
   ·rw [List.getElem?_drop] at hj
    obtain ⟨u, hu, hr⟩ := h3.get hj
    exact ⟨u, by rw [cell_of_vs h2]; exact hu, hr⟩
   ·cases hj
 unfold effLoad at he
 split at he
 ·-- immutable cells
  rename_i n c
  obtain ⟨ad, hv, hs, hcell⟩ := hx
  cases hb : Nat.ble ti.size n with
  | false => simp [hb] at he
  | true =>
   simp only [hb, cond_true] at he
   have hle := Nat.le_of_ble_eq_true hb
   split at he
   ·rename_i s hsv
    cases he
    obtain ⟨ak, aoff, asp⟩ := ad
    simp at hs; subst hs
    obtain ⟨v, h1, h2⟩ := run_loadVarT (P := P) (ρ := ρ) (F := F) (w := w) ht hsv (takeC_length c 0 ti.size) (k := ak) (off := aoff) fun j cv hj => by
     obtain ⟨hlt, rfl⟩ := takeC_get c 0 ti.size j cv hj
     obtain ⟨_, u, hu, hr⟩ := hcell j (by omega)
     exact ⟨u, hu, by rw [Nat.zero_add]; exact hr⟩
    exact ⟨rfl, _, v, hv, h1, h2⟩
   ·cases he
 ·-- an object's cells
  rename_i b off E' cs
  obtain ⟨k, base, cap, hk, hv⟩ := hx
  cases hb : Nat.ble (off + ti.size) cs.length with
  | false => simp [hb] at he
  | true =>
   simp only [hb, cond_true] at he
   have hle := Nat.le_of_ble_eq_true hb
   split at he
   ·rename_i s hsv
    cases he
    simp [foot] at hobs
    obtain ⟨k', cap', vs, h1, h0, h2, h3⟩ := hi.obj b _ hobs.symm
    rw [hk] at h1; cases h1
    obtain ⟨v, g1, g2⟩ := cellsAt h2 h3 hle hsv
    rw [Nat.zero_add] at hv
    exact ⟨rfl, _, v, hv, g1, g2⟩
   ·cases he
 ·rename_i b esz i off E' esz' len el
  obtain ⟨k, base, cap, hk, hv⟩ := hx
  cases hb : (Nat.beq esz esz' && Nat.ble (off + ti.size) esz) with
  | false => simp [hb] at he
  | true =>
   simp only [hb, cond_true] at he
   simp only [Bool.and_eq_true] at hb
   have he1 := Nat.eq_of_beq_eq_true hb.1
   have hle := Nat.le_of_ble_eq_true hb.2
   subst he1
   split at he
   ·rename_i s hsv
    cases he
    simp [foot] at hobs
    obtain ⟨hlt, _⟩ := hc
    rcases hi.obj b _ hobs.symm with ⟨_, h0⟩ | ⟨k', base', cap', h1, h0, vs, h2, h3, h4, h5, h6⟩
    ·omega
    ·rw [hk] at h1; cases h1
     obtain ⟨v, g1, g2⟩ := run_loadVarT (P := P) (ρ := ρ) (F := F) (w := w) ht hsv (takeC_length _ _ _) (k := k) (off := base + (i * esz + off)) fun j cv hj => by
      obtain ⟨hlt', rfl⟩ := takeC_get _ off ti.size j cv hj
      obtain ⟨u, hu, hr⟩ := h6 i hlt (off + j) (by omega)
      exact ⟨u, by rw [cell_of_vs h2, show base + (i * esz + off) + j = base + (i * esz + (off + j)) by omega]; exact hu, hr⟩
     exact ⟨rfl, _, v, hv, g1, g2⟩
   ·cases he
 ·rename_i b esz i off E' cs
  obtain ⟨k, base, cap, hk, hv⟩ := hx
  cases hb : Nat.ble (i * esz + off + ti.size) cs.length with
  | false => simp [hb] at he
  | true =>
   simp only [hb, cond_true] at he
   have hle := Nat.le_of_ble_eq_true hb
   split at he
   ·rename_i s hsv
    cases he
    simp [foot] at hobs
    obtain ⟨k', cap', vs, h1, h0, h2, h3⟩ := hi.obj b _ hobs.symm
    rw [hk] at h1; cases h1
    obtain ⟨v, g1, g2⟩ := cellsAt h2 h3 hle hsv
    rw [Nat.zero_add] at hv
    exact ⟨rfl, _, v, hv, g1, g2⟩
   ·cases he
 ·rename_i b off E' ds
  obtain ⟨k, base, cap, hk, hv⟩ := hx
  cases hb : Nat.ble (off + ti.size) ds.length with
  | false => simp [hb] at he
  | true =>
   simp only [hb, cond_true] at he
   have hle := Nat.le_of_ble_eq_true hb
   split at he
   ·rename_i s hsv
    cases he
    simp [foot] at hobs
    obtain ⟨k', base', cap', h1, h2⟩ := hi.obj b _ hobs.symm
    rw [hk] at h1; cases h1
    obtain ⟨v, g1, g2⟩ := run_loadVarT (P := P) (ρ := ρ) (F := F) (w := w) ht hsv (by simp; omega) (k := k) (off := base + off) fun j cv hj => by
     rw [List.getElem?_map, List.getElem?_take] at hj
     split at hj
     ·rw [List.getElem?_drop] at hj
      cases hd : ds[off + j]? with
      | none => rw [hd] at hj; cases hj
      | some x =>
       rw [hd] at hj; cases hj
       obtain ⟨_, u, hu, hr⟩ := h2 _ x hd
       exact ⟨u, by rw [Nat.add_assoc]; exact hu, hr⟩
     ·cases hj
    exact ⟨rfl, _, v, hv, g1, g2⟩
   ·cases he
 ·rename_i b esz i off E' esz' len el ov
  obtain ⟨k, base, cap, hk, hv⟩ := hx
  cases hb : (Nat.beq esz esz' && Nat.ble (off + ti.size) esz && ovAway off ti.size ov) with
  | false => simp [hb] at he
  | true =>
   simp only [hb, cond_true] at he
   simp only [Bool.and_eq_true] at hb
   have he1 := Nat.eq_of_beq_eq_true hb.1.1
   have hle := Nat.le_of_ble_eq_true hb.1.2
   have hov := hb.2
   subst he1
   split at he
   ·rename_i ds hds
    obtain ⟨d1, d2⟩ := takeE_get hds
    split at he
    ·rename_i s hsv
     cases he
     simp [foot] at hobs
     obtain ⟨hlt, _⟩ := hc
     rcases hi.obj b _ hobs.symm with ⟨_, h0⟩ | ⟨k', base', cap', vs, rb, h1, h0, h2, h3, h4, h5, h6, h7⟩
     ·omega
     ·rw [hk] at h1; cases h1
      obtain ⟨v, g1, g2⟩ := run_loadVarT (P := P) (ρ := ρ) (F := F) (w := w) ht hsv (by simp [d1]) (k := k) (off := base + (i * esz + off)) fun j cv hj => by
       rw [List.getElem?_map] at hj
       cases hd : ds[j]? with
       | none => rw [hd] at hj; cases hj
       | some x =>
        rw [hd] at hj; cases hj
        have hjl : j < ds.length := (List.getElem?_eq_some_iff.1 hd).1
        obtain ⟨u, hu, hr⟩ := h6 i hlt (off + j) (by omega)
        refine ⟨u, by rw [cell_of_vs h2, show base + (i * esz + off) + j = base + (i * esz + (off + j)) by omega]; exact hu, ?_⟩
        have hel := d2 j x hd
        have hV : RepV F w (ft b) (rb i (off + j)) (el i (off + j)) u := by
         unfold RepW at hr
         split at hr
         ·exact hr
         ·rename_i i0 j0 c0
          simp only [ovAway, Bool.or_eq_true] at hov
          have hne : ¬ (i = i0 ∧ off + j = j0) := fun hh => by
           rcases hov with q | q
           ·have := Nat.le_of_ble_eq_true q; omega
           ·have := Nat.le_of_ble_eq_true q; omega
          rw [if_neg hne] at hr; exact hr
        rw [hel] at hV
        exact hV
      exact ⟨rfl, _, v, hv, g1, g2⟩
    ·cases he
   ·cases he
 ·cases he
theorem load_sound {t : TypeId} {x : Operand} {ti : TI} {xa : TV} {obs : List (Option (Option Ob))} {E : Eff} (ht : TOk1 P t ti) (hop : o.op = .load t x) (he : effLoad ti xa obs = some E) (hc : All E.conds)
  (hobs : obs = (foot .none 0 (.load t x) [xa]).map h) (fr : Fr B ρ F w) (hi : HI B ρ F w h) (hx : RepT ρ F w xa (a.eval x)) : Good P B ρ F w h o a E.tv E.hd := by
 obtain ⟨h0, ad, v, h1, h2, h3⟩ := load_run (x := x) ht he hc hobs hi hx
 rw [h0]
 exact good_same fr hi (exec_load hop h1 h2) h3
theorem exec_store {t : TypeId} {x y : Operand} {ti : TI} (ht : TOk1 P t ti) (hop : o.op = .store t x y) {k off : Nat} {cur : List Value} {E : TypeId} (hx : a.eval x = .pointer (some ⟨k, off, none⟩))
  (hk : w.heap[k]? = some (.cells cur.toArray E (0, 0))) {news : List Value} (hn : (a.eval y).cells.toList = news) (hl : news.length = ti.size) (hle : off + ti.size ≤ cur.length) (h1 : ∀ v ∈ news, v.oneCell' = true) :
  (execOp a.eval o).run P w = .ok .skip (w.setRow k (cur.take off ++ news ++ cur.drop (off + ti.size)).toArray) := by
 have hs := run_storeCells_at (P := P) k off E news 0 cur.toArray w hk (by simp; omega) h1
 have hsz : (a.eval y).cells.size = ti.size := by rw [← hl, ← hn]; simp
 simp only [Nat.add_zero] at hs
 simp only [execOp, hop, Instr.storeAt, Instr.sureAddr, hx, Sem.run_bind, Sem.run_pure, Result.andThen_ok, storeVar, run_sizeOfT ht, hsz, ne_eq, not_true_eq_false, if_false]
 rw [hn, hs, hl]
 rfl
theorem getElem?_splice {α : Type} (cur news : List α) (off : Nat) (hle : off + news.length ≤ cur.length) (j : Nat) :
  (cur.take off ++ news ++ cur.drop (off + news.length))[j]? = if j < off then cur[j]? else if j < off + news.length then news[j - off]? else cur[j]? := by
 have h0 : (cur.take off).length = off := by simp; omega
 rw [List.append_assoc, List.getElem?_append, h0]
 split
 ·rename_i hj; rw [List.getElem?_take, if_pos hj]
 ·rw [List.getElem?_append]
  split
  ·rw [if_pos (by omega)]
  ·rw [if_neg (by omega), List.getElem?_drop]
   congr 1; omega
theorem RepL.splice : ∀ {cs : List CV} {vs : List Value} {off : Nat} {cn : List CV} {vn : List Value}, RepL ρ F w cs vs → RepL ρ F w cn vn → off + cn.length ≤ cs.length →
  RepL ρ F w (cs.take off ++ cn ++ cs.drop (off + cn.length)) (vs.take off ++ vn ++ vs.drop (off + vn.length)) := by
 intro cs vs off cn vn h1 h2 hle
 have l1 := h1.length
 have l2 := h2.length
 refine RepL.of_get (by simp; omega) fun j c hj => ?_
 rw [getElem?_splice _ _ _ hle] at hj
 rw [getElem?_splice _ _ _ (by omega), l2]
 split at hj
 ·rename_i e; rw [if_pos e]; exact h1.get hj
 ·rename_i e
  rw [if_neg e]
  split at hj
  ·rename_i e2; rw [if_pos e2]; exact h2.get hj
  ·rename_i e2; rw [if_neg e2]; exact h1.get hj
theorem allD_get : ∀ {cs : List CV} {ds : List DV}, allD cs = some ds → cs = ds.map .d
 | [], ds, hh => by simp [allD] at hh; subst hh; rfl
 | .d x :: cs, ds, hh => by
  simp only [allD] at hh
  split at hh
  ·rename_i l hl; cases hh; simp [allD_get hl]
  ·cases hh
 | .ptr _ _ :: _, _, hh => by simp [allD] at hh
 | .opt _ _ _ _ :: _, _, hh => by simp [allD] at hh
 | .own _ _ _ :: _, _, hh => by simp [allD] at hh
 | .mp _ :: _, _, hh => by simp [allD] at hh
 | .fn _ _ _ _ :: _, _, hh => by simp [allD] at hh
 | .yl _ :: _, _, hh => by simp [allD] at hh
theorem idx_eq {i i' j esz : Nat} {off n : Nat} (hj : j < esz) (h1 : i * esz + off ≤ i' * esz + j) (h2 : i' * esz + j < i * esz + off + n) (hn : off + n ≤ esz) : i' = i ∧ off ≤ j ∧ j < off + n := by
 have d0 : i' = i := by
  have d1 : (i' * esz + j) / esz = i' := by rw [Nat.mul_comm, Nat.mul_add_div (by omega), Nat.div_eq_of_lt hj]; omega
  have d2 : (i' * esz + j) / esz = i := by
   have : i' * esz + j = i * esz + (i' * esz + j - i * esz) := by omega
   have e3 : ∀ r, r < esz → (i * esz + r) / esz = i := fun r hr => by rw [Nat.mul_comm, Nat.mul_add_div (by omega), Nat.div_eq_of_lt hr]; omega
   rw [this]; exact e3 _ (by omega)
  omega
 subst d0
 exact ⟨rfl, by omega, by omega⟩
theorem row_in {i len cap esz off n : Nat} (h1 : i < len) (h2 : len ≤ cap) (h3 : off + n ≤ esz) : i * esz + off + n ≤ cap * esz := by
 have : (i + 1) * esz ≤ cap * esz := Nat.mul_le_mul_right _ (by omega)
 rw [Nat.add_mul, Nat.one_mul] at this; omega
theorem store_sound {t : TypeId} {x y : Operand} {ti : TI} {xa xv : TV} {an : Ann} {obs : List (Option (Option Ob))} {E : Eff} (ht : TOk1 P t ti) (hop : o.op = .store t x y) (he : effStore an ti xa xv obs = some E) (hc : All E.conds)
  (hobs : obs = (foot .none 0 (.store t x y) [xa, xv]).map h) (fr : Fr B ρ F w) (hi : HI B ρ F w h) (hx : RepT ρ F w xa (a.eval x)) (hy : RepT ρ F w xv (a.eval y)) : Good P B ρ F w h o a E.tv E.hd := by
 obtain ⟨ft, hi⟩ := hi
 have cellsAt : ∀ {b k cap off : Nat} {cs : List CV} {E' : TypeId} {s : SV}, h b = some (some (.cells E' cs)) → ρ b = some (.blk k 0 cap) → a.eval x = .pointer (some ⟨k, off, none⟩) → RepS ρ F w s (a.eval y) → (cellsOf s).length = ti.size → off + ti.size ≤ cs.length →
   Good P B ρ F w h o a (.tup []) [(b, some (.cells E' (cs.take off ++ cellsOf s ++ cs.drop (off + ti.size))))] := by
  intro b k cap off cs E' s hob hk hv hy he1 hle
  obtain ⟨k', cap', vs, h1, h0, h2, h3⟩ := hi.obj b _ hob
  rw [hk] at h1; cases h1
  have hys := hy.cells
  have l1 := h3.length
  have l2 := hys.length
  have hblk := hi.blk b _ k hob h0
  have hrun := exec_store ht hop hv h2 rfl (by omega) (by omega) hys.oneCell
  have pt := Put.setRow w k (vs.take off ++ (a.eval y).cells.toList ++ vs.drop (off + ti.size)).toArray
  refine good_skip (pt.gr hblk.2.1) (pt.fr fr hblk.2.2) ⟨_, pt.hi fr hi hob h0 (fun _ h => h) ?_⟩ hrun
  refine ⟨k, cap, _, hk, h0, setRow_heap w k _ _ E' (0, 0) h2, ?_⟩
  have := RepL.splice h3 hys (off := off) (by omega)
  rw [l2, he1] at this
  exact this.gr (pt.gr hblk.2.1)
 unfold effStore at he
 split at he
 ·rename_i b off s E' cs
  obtain ⟨k, base, cap, hk, hv⟩ := hx
  cases hb : (Nat.beq (cellsOf s).length ti.size && Nat.ble (off + ti.size) cs.length) with
  | false => simp [hb] at he
  | true =>
   simp only [hb, cond_true] at he
   simp only [Bool.and_eq_true] at hb
   have he1 := Nat.eq_of_beq_eq_true hb.1
   have hle := Nat.le_of_ble_eq_true hb.2
   cases he
   simp [foot] at hobs
   have hob := hobs.symm
   obtain ⟨k', cap', vs, h1, _⟩ := hi.obj b _ hob
   rw [hk] at h1; cases h1
   rw [Nat.zero_add] at hv
   exact cellsAt hob hk hv hy he1 hle
 ·rename_i b esz i off s E' cs
  obtain ⟨k, base, cap, hk, hv⟩ := hx
  cases hb : (Nat.beq (cellsOf s).length ti.size && Nat.ble (i * esz + off + ti.size) cs.length) with
  | false => simp [hb] at he
  | true =>
   simp only [hb, cond_true] at he
   simp only [Bool.and_eq_true] at hb
   have he1 := Nat.eq_of_beq_eq_true hb.1
   have hle := Nat.le_of_ble_eq_true hb.2
   cases he
   simp [foot] at hobs
   have hob := hobs.symm
   obtain ⟨k', cap', vs, h1, _⟩ := hi.obj b _ hob
   rw [hk] at h1; cases h1
   rw [Nat.zero_add] at hv
   exact cellsAt hob hk hv hy he1 hle
 ·rename_i b esz i off s E' esz' len el
  obtain ⟨k, base, cap, hk, hv⟩ := hx
  split at he
  ·rename_i el' ds hcs
   cases hb : (Nat.beq esz esz' && Nat.ble (off + ds.length) esz && Nat.beq ds.length ti.size && Nat.ble 1 ti.size) with
   | false => simp [hb] at he
   | true =>
    simp only [hb, cond_true] at he
    simp only [Bool.and_eq_true] at hb
    have he1 := Nat.eq_of_beq_eq_true hb.1.1.1
    have hle := Nat.le_of_ble_eq_true hb.1.1.2
    have hsz := Nat.eq_of_beq_eq_true hb.1.2
    have hpos := Nat.le_of_ble_eq_true hb.2
    subst he1
    cases he
    obtain ⟨hlt, heq, _⟩ := hc
    simp [foot] at hobs
    have hob := hobs.symm
    rcases hi.obj b _ hob with ⟨h0, h0'⟩ | ⟨k', base', cap', h1, h0, vs, h2, h3, h4, h5, h6⟩
    ·omega
    ·rw [hk] at h1; cases h1
     have hys := hy.cells
     have l2' := hys.length
     rw [allD_get hcs] at hys
     have l2 := hys.length
     rw [List.length_map] at l2
     have hblk := hi.blk b _ k hob h0
     have hin := row_in hlt h4 hle
     have hrun := exec_store ht hop hv h2 rfl (by rw [← hsz]; exact l2) (by omega) hys.oneCell
     have pt := Put.setRow w k (vs.take (base + (i * esz + off)) ++ (a.eval y).cells.toList ++ vs.drop (base + (i * esz + off) + ti.size)).toArray
     refine good_skip (pt.gr hblk.2.1) (pt.fr fr hblk.2.2) ⟨_, pt.hi fr hi hob h0 (fun _ h => h) ?_⟩ hrun
     refine .inr ⟨k, base, cap, hk, h0, _, setRow_heap w k _ _ E' (0, 0) h2, ?_, h4, h5, fun i' hi' j hj => ?_⟩
     ·simp only [List.length_append, List.length_take, List.length_drop, l2]; omega
     ·rw [← heq i' hi' j hj]
      have hlook := getElem?_splice vs (a.eval y).cells.toList (base + (i * esz + off)) (by omega) (base + (i' * esz + j))
      rw [l2] at hlook
      rw [← hsz, hlook]
      obtain ⟨u, hu, hr⟩ := h6 i' hi' j hj
      have hr' := RepD.gr (pt.gr (ρ := ρ) hblk.2.1).fz (pt.gr (ρ := ρ) hblk.2.1).mem hr
      rw [← hsz] at hr'
      unfold stEls
      by_cases e : i' = i ∧ off ≤ j ∧ j < off + ds.length
      ·obtain ⟨rfl, e1, e2⟩ := e
       obtain ⟨u0, hu0, hr0⟩ := hys.get (j := j - off) (c := .d (ds.getD (j - off) .nilp)) (by
        rw [List.getElem?_map, List.getD_eq_getElem?_getD, List.getElem?_eq_getElem (by omega)]; rfl)
       have hr0' := RepC.gr (pt.gr (ρ := ρ) hblk.2.1) hr0
       rw [← hsz] at hr0'
       rw [if_neg (by omega), if_pos (by omega), if_pos ⟨rfl, e1, e2⟩]
       exact ⟨u0, by rw [show base + (i' * esz + j) - (base + (i' * esz + off)) = j - off by omega]; exact hu0, hr0'⟩
      ·rw [if_neg e]
       have hne : i' * esz + j < i * esz + off ∨ i * esz + off + ds.length ≤ i' * esz + j := by
        apply Classical.byContradiction
        intro hh
        simp only [not_or, Nat.not_lt, Nat.not_le] at hh
        exact e (idx_eq hj hh.1 hh.2 hle)
       rcases hne with lt | ge
       ·rw [if_pos (by omega)]; exact ⟨u, hu, hr'⟩
       ·rw [if_neg (by omega), if_neg (by omega)]; exact ⟨u, hu, hr'⟩
  ·cases he
 ·cases he
end
end Sg
