import Derived.Test.YtpndenfhglaikaaSoundS
set_option linter.all false
namespace Sg
open Go
section
variable {P : Program} {B : Base} {ρ ρ' : Nat → Option Pl} {F F' : Nat → Prop} {w w' : World} {h : Hp} {o : Oper} {a : Act} {T : List (Nat × TI)}
theorem takeV_d (f : Nat → DV) : ∀ i n, takeV (fun j => .d (f j)) i n = (takeDV f i n).map .d
 | _, 0 => rfl
 | i, n + 1 => by simp [takeV, takeDV, takeV_d f (i + 1) n]
theorem asVal_of {agg : Bool} {ds : List DV} {ks : List (Option IntKind)} {s : SV} {v : Value} (hk : kindsOk ks ds = true) (hs : asSV agg (ds.map .d) = some s) (hr : RepS ρ F w s v) : v = asVal agg (ds.map valD) := by
 cases agg with
 | true =>
  simp [asSV] at hs; subst hs
  obtain ⟨vs, rfl, hr⟩ := hr
  rw [valD_rep hk hr]; rfl
 | false =>
  match ds, hs with
  | [d], hs =>
   simp [asSV] at hs; subst hs
   have := valD_rep (vs := [v]) hk (ρ := ρ) (F := F) (w := w) ⟨hr, trivial⟩
   simp at this
   simp [asVal, this]
theorem asVal_key {agg : Bool} {s : SV} {ds : List DV} {ks : List (Option IntKind)} {v : Value} (hk : kindsOk ks ds = true) (ha : isAggS s = agg) (hd : allD (cellsOf s) = some ds) (hr : RepS ρ F w s v) : v = asVal agg (ds.map valD) := by
 refine asVal_of hk ?_ hr
 rw [← allD_get hd]
 cases s with
 | one c => simp [isAggS] at ha; subst ha; rfl
 | agg cs => simp [isAggS] at ha; subst ha; rfl
theorem eqC_some : ∀ {k : Option IntKind} {ks : List (Option IntKind)} {x y : DV} {xs ys : List DV}, kindsOk (k :: ks) (x :: xs) = true → kindsOk (k :: ks) (y :: ys) = true → kindsOk ks xs = true ∧ kindsOk ks ys = true ∧ ∃ b, eqC x y = some b := by
 intro k ks x y xs ys hx hy
 cases k with
 | some k =>
  cases x <;> simp [kindsOk] at hx
  cases y <;> simp [kindsOk] at hy
  exact ⟨hx.2, hy.2, by simp [eqC, ← hx.1, ← hy.1]⟩
 | none =>
  cases x <;> simp [kindsOk] at hx
  cases y <;> simp [kindsOk] at hy
  exact ⟨hx, hy, by simp [eqC]⟩
theorem eqCs_some : ∀ {ks : List (Option IntKind)} {xs ys : List DV}, kindsOk ks xs = true → kindsOk ks ys = true → ∃ b, eqCs xs ys = some b
 | [], [], [], _, _ => ⟨true, rfl⟩
 | [], _ :: _, _, h, _ => by simp [kindsOk] at h
 | [], [], _ :: _, _, h => by simp [kindsOk] at h
 | k :: ks, [], _, h, _ => by cases k <;> simp [kindsOk] at h
 | k :: ks, _ :: _, [], _, h => by cases k <;> simp [kindsOk] at h
 | k :: ks, x :: xs, y :: ys, h1, h2 => by
  obtain ⟨g1, g2, b, hb⟩ := eqC_some h1 h2
  obtain ⟨c, hc⟩ := eqCs_some g1 g2
  exact ⟨b && c, by simp [eqCs, hb, hc]⟩
theorem eqC_true {x y : DV} (h : eqC x y = some true) : x = y := by
 cases x <;> cases y <;> simp [eqC] at h
 ·rename_i k a k' b
  by_cases e : k = k'
  ·subst e; simp at h; rw [h]
  ·simp [e] at h
 ·rw [h]
theorem eqCs_true : ∀ {xs ys : List DV}, eqCs xs ys = some true → xs = ys
 | [], [], _ => rfl
 | [], _ :: _, h => by simp [eqCs] at h
 | _ :: _, [], h => by simp [eqCs] at h
 | x :: xs, y :: ys, h => by
  simp only [eqCs] at h
  split at h
  ·rename_i a b ha hb
   simp at h
   obtain ⟨rfl, rfl⟩ := h
   rw [eqC_true ha, eqCs_true hb]
  ·cases h
def findE (q : MapEntry → Bool) : List MapEntry → Nat → Option (Nat × Value)
 | [], _ => none
 | e :: es, i => if q e then some (i, e.val) else findE q es (i + 1)
theorem findE_at {q : MapEntry → Bool} : ∀ {es : List MapEntry} {i j : Nat} {e : MapEntry}, es[j]? = some e → q e = true → (∀ j' e', j' < j → es[j']? = some e' → q e' = false) → findE q es i = some (i + j, e.val)
 | [], _, _, _, h, _, _ => by simp at h
 | e0 :: es, i, 0, e, h, hq, _ => by simp at h; subst h; simp [findE, hq]
 | e0 :: es, i, j + 1, e, h, hq, hn => by
  have h0 := hn 0 e0 (by omega) rfl
  simp only [findE, h0]
  rw [if_neg (by simp), findE_at (i := i + 1) (j := j) (by simpa using h) hq fun j' e' hj he => hn (j' + 1) e' (by omega) (by simpa using he)]
  congr 2; omega
theorem findE_none {q : MapEntry → Bool} : ∀ {es : List MapEntry} {i : Nat}, (∀ e ∈ es, q e = false) → findE q es i = none
 | [], _, _ => rfl
 | e0 :: es, i, h => by
  simp only [findE, h e0 (by simp)]
  rw [if_neg (by simp), findE_none fun e he => h e (by simp [he])]
theorem run_findAsking {K : TypeId} {k : Value} {q : MapEntry → Bool} : ∀ {es : List MapEntry} {i : Nat}, (∀ e ∈ es, (Op.equal K k e.key).run P w = .ok (q e) w) → (Instr.findAsking K k es i).run P w = .ok (findE q es i) w
 | [], _, _ => by simp [Instr.findAsking, findE]
 | e :: es, i, h => by
  simp only [Instr.findAsking, Sem.run_bind, h e (by simp), Result.andThen_ok, findE]
  split
  ·simp
  ·exact run_findAsking fun e he => h e (by simp [he])
theorem findNow_some {d : TypeDesc} {k : Value} {q : MapEntry → Bool} : ∀ {es : List MapEntry} {i : Nat}, (∀ e ∈ es, Instr.sameNow d k e.key = some (q e)) → Instr.findNow d k es i = some (findE q es i)
 | [], _, _ => by simp [Instr.findNow, findE]
 | e :: es, i, h => by
  simp only [Instr.findNow, h e (by simp), findE]
  cases hq : q e with
  | true => simp
  | false => simp; exact findNow_some fun e he => h e (by simp [he])
theorem run_findKey {K : TypeId} {tk : TI} (ht : TOk1 P K tk) {k : Value} {q : MapEntry → Bool} {es : List MapEntry} (h1 : ∀ e ∈ es, (Op.equal K k e.key).run P w = .ok (q e) w)
  (h2 : (∀ e ∈ es, Instr.sameNow tk.d k e.key = some (q e)) ∨ ∀ e ∈ es, Instr.sameNow tk.d k e.key = none) : (Instr.findKey K k es).run P w = .ok (findE q es 0) w := by
 have hu := run_underlyingT (w := w) ht
 rw [Instr.findKey, Sem.run_bind, hu]
 simp only [Result.andThen_ok]
 rcases h2 with h2 | h2
 ·rw [findNow_some h2]; rfl
 ·cases es with
  | nil => simp [Instr.findNow, findE]
  | cons e es =>
   simp only [Instr.findNow, h2 e (by simp)]
   exact run_findAsking h1
theorem run_checkElem (hT : TOk P T) {em : Bool} {n : Nat} {e : TypeId} {te : TI} {l : List (Option IntKind)} (hte : get T e = some te) (hl : l.length = te.size) (hk1 : te.agg = false → l.length = 1)
  (ih : ∀ w ds, kindsOk l ds = true → (Instr.checkKey em n e (asVal te.agg (ds.map valD))).run P w = .ok () w) (xs : Array Value) :
  ∀ (m start : Nat) (pre ds : List DV) (w : World), pre.length = start * te.size → kindsOk (List.replicate m l).flatten ds = true → xs = ((pre ++ ds).map valD).toArray →
   (forIn (m := Sem) (List.range' start m) PUnit.unit fun i _ => do Instr.checkKey em n e (← part e xs (i * (← Go.sizeOf e))); pure (ForInStep.yield PUnit.unit)).run P w = .ok PUnit.unit w
 | 0, start, pre, ds, w, _, _, _ => by simp
 | m + 1, start, pre, ds, w, hp, hk, hx => by
  rw [List.replicate_succ, List.flatten_cons] at hk
  obtain ⟨d1, d2, rfl, k1, k2⟩ := kindsOk_split hk
  have l1 := kindsOk_length k1
  have p1 := part_val (w := w) (hT.get hte) (pre := pre) (dl := d1) (post := d2) (by rw [l1, hl]) (fun ha => by rw [l1]; exact hk1 ha)
  rw [hp, ← hx] at p1
  rw [List.range'_succ, List.forIn_cons]
  simp only [Sem.run_bind, run_sizeOfT (hT.get hte), p1, ih w d1 k1, Result.andThen_ok, Sem.run_pure]
  exact run_checkElem hT hte hl hk1 ih xs m (start + 1) (pre ++ d1) d2 w (by simp [hp, l1, hl, Nat.add_mul]) k2 (by rw [List.append_assoc]; exact hx)
theorem run_checkKey (hT : TOk P T) {em : Bool} {K : TypeId} {tk : TI} {ks : List (Option IntKind)} {ds : List DV} (hk : get T K = some tk) (hf : flatK T 8 K = some ks) (hkk : keyKind T tk.d = true) (hds : kindsOk ks ds = true) :
  (Instr.checkKey em 10000 K (asVal tk.agg (ds.map valD))).run P w = .ok () w := by
 have ht := hT.get hk
 have hu := run_underlyingT (w := w) ht
 unfold flatK at hf
 rw [hk] at hf
 simp only at hf
 unfold keyKind at hkk
 cases hd : tk.d with
 | int k => rw [hd] at hu; rw [Instr.checkKey, Sem.run_bind, hu]; rfl
 | bool => rw [hd] at hu; rw [Instr.checkKey, Sem.run_bind, hu]; rfl
 | array n e =>
  rw [hd] at hf hkk hu
  simp only at hf hkk
  split at hf
  ·rename_i l te hl hte
   cases hb : (Nat.beq l.length te.size && Nat.beq (List.replicate n l).flatten.length tk.size) with
   | false => rw [hb] at hf; cases hf
   | true =>
    simp only [hb, cond_true] at hf
    cases hf
    simp only [Bool.and_eq_true] at hb
    rw [hte] at hkk
    simp only at hkk
    have hagg : tk.agg = true := by simp [TI.agg, hd]
    have hs := run_sizeOfT (w := w) (hT.get hte)
    have ih : ∀ w ds, kindsOk l ds = true → (Instr.checkKey em 9999 e (asVal te.agg (ds.map valD))).run P w = .ok () w := fun w ds _ => by
     have hue := run_underlyingT (w := w) (hT.get hte)
     cases hde : te.d with
     | int k => rw [hde] at hue; rw [Instr.checkKey, Sem.run_bind, hue]; rfl
     | bool => rw [hde] at hue; rw [Instr.checkKey, Sem.run_bind, hue]; rfl
     | _ => rw [hde] at hkk; simp at hkk
    have := run_checkElem (w := w) hT (em := em) hte (Nat.eq_of_beq_eq_true hb.1) (fun ha => flatK_one hl hte ha) ih (ds.map valD).toArray n 0 [] ds (by simp) hds (by simp)
    rw [hagg, Instr.checkKey, Sem.run_bind, hu]
    simp only [Result.andThen_ok, asVal, cond_true]
    simp only [Std.Legacy.Range.forIn_eq_forIn_range', Std.Legacy.Range.size, Nat.sub_zero, Nat.add_sub_cancel, Nat.div_one]
    rw [Sem.run_bind, this]; rfl
  ·cases hf
 | _ => rw [hd] at hkk; simp at hkk
theorem keyOf_inv {K V : TypeId} {m : MapO} {k : TV} {tk tv : TI} {kk : List (Option IntKind)} {kd : List DV} (h : keyOf T K V m k = some (tk, tv, kk, kd)) :
  ∃ ks, k = .v ks ∧ get T K = some tk ∧ get T V = some tv ∧ flatK T 8 K = some kk ∧ allD (cellsOf ks) = some kd ∧ K = m.K ∧ V = m.V ∧ m.kagg = tk.agg ∧ m.vagg = tv.agg ∧ m.ksz = tk.size ∧ m.vsz = tv.size ∧ kindsOk kk kd = true ∧ isAggS ks = tk.agg ∧ keyKind T tk.d = true := by
 unfold keyOf at h
 split at h
 ·rename_i ks
  split at h
  ·rename_i tk' tv' kk' kd' h1 h2 h3 h4
   cases hb : (Nat.beq K m.K && Nat.beq V m.V && (m.kagg == tk'.agg) && (m.vagg == tv'.agg) && Nat.beq m.ksz tk'.size && Nat.beq m.vsz tv'.size && kindsOk kk' kd' && (isAggS ks == tk'.agg) && keyKind T tk'.d) with
   | false => rw [hb] at h; cases h
   | true =>
    rw [hb] at h
    simp only [cond_true, Option.some.injEq, Prod.mk.injEq] at h
    obtain ⟨rfl, rfl, rfl, rfl⟩ := h
    simp only [Bool.and_eq_true, beq_iff_eq] at hb
    obtain ⟨⟨⟨⟨⟨⟨⟨⟨b1, b2⟩, b3⟩, b4⟩, b5⟩, b6⟩, b7⟩, b8⟩, b9⟩ := hb
    exact ⟨ks, rfl, h1, h2, h3, h4, Nat.eq_of_beq_eq_true b1, Nat.eq_of_beq_eq_true b2, b3, b4, Nat.eq_of_beq_eq_true b5, Nat.eq_of_beq_eq_true b6, b7, b8, b9⟩
  ·cases h
 ·cases h
theorem mapOf_inv {x : TV} {obs : List (Option (Option Ob))} {b : Nat} {m : MapO} (h : mapOf x obs = some (b, m)) : x = .v (.one (.mp b)) ∧ obs = [some (some (.map m))] := by
 unfold mapOf at h
 split at h
 ·cases h; exact ⟨rfl, rfl⟩
 ·cases h
theorem run_find (hT : TOk P T) {K : TypeId} {tk : TI} {kk : List (Option IntKind)} {kd : List DV} {m : MapO} {es : Array MapEntry} (hk : get T K = some tk) (hf : flatK T 8 K = some kk) (hkk : keyKind T tk.d = true) (hkd : kindsOk kk kd = true)
  (hsz : m.kagg = tk.agg) (hes : es.size = m.len) (hkinds : ∀ i, i < m.len → kindsOk kk (takeDV (m.key i) 0 m.ksz) = true)
  (hent : ∀ i, i < m.len → ∃ e, es[i]? = some e ∧ e.born = i ∧ RepA ρ F w m.kagg m.ksz (fun j => .d (m.key i j)) e.key ∧ RepA ρ F w m.vagg m.vsz (m.val i) e.val) :
  ∃ q : MapEntry → Bool, (Instr.findKey K (asVal tk.agg (kd.map valD)) es.toList).run P w = .ok (findE q es.toList 0) w ∧ ∀ i e, es[i]? = some e → eqCs kd (takeDV (m.key i) 0 m.ksz) = some (q e) := by
 classical
 have ht := hT.get hk
 have hkey : ∀ i e, es[i]? = some e → i < m.len ∧ e.key = asVal tk.agg ((takeDV (m.key i) 0 m.ksz).map valD) ∧ ∃ b, eqCs kd (takeDV (m.key i) 0 m.ksz) = some b := fun i e he => by
  have hi : i < m.len := by rw [← hes]; exact (Array.getElem?_eq_some_iff.1 he).1
  obtain ⟨e', h1, _, ⟨s, h2, h3⟩, _⟩ := hent i hi
  rw [he] at h1; cases h1
  rw [takeV_d, hsz] at h2
  exact ⟨hi, asVal_of (hkinds i hi) h2 h3, eqCs_some hkd (hkinds i hi)⟩
 let q : MapEntry → Bool := fun e => decide (∃ i, es[i]? = some e ∧ eqCs kd (takeDV (m.key i) 0 m.ksz) = some true)
 have hq : ∀ i e, es[i]? = some e → eqCs kd (takeDV (m.key i) 0 m.ksz) = some (q e) := fun i e he => by
  obtain ⟨hi, hke, b, hb⟩ := hkey i e he
  rw [hb]
  congr 1
  cases b with
  | true => exact (decide_eq_true (⟨i, he, hb⟩ : ∃ i, es[i]? = some e ∧ eqCs kd (takeDV (m.key i) 0 m.ksz) = some true)).symm
  | false =>
   refine (decide_eq_false ?_).symm
   rintro ⟨i', he', hb'⟩
   obtain ⟨hi', _⟩ := hkey i' e he'
   have e1 := (hent i hi)
   have e2 := (hent i' hi')
   obtain ⟨x, x1, x2, _⟩ := e1
   obtain ⟨y, y1, y2, _⟩ := e2
   rw [he] at x1; cases x1
   rw [he'] at y1; cases y1
   have : i = i' := x2.symm.trans y2
   subst this
   rw [hb] at hb'; cases hb'
 refine ⟨q, run_findKey ht (fun e he => ?_) ?_, hq⟩
 ·obtain ⟨i, hi⟩ := List.getElem?_of_mem he
  have hi' : es[i]? = some e := by simpa using hi
  obtain ⟨h1, h2, _⟩ := hkey i e hi'
  rw [h2]
  exact (equal_flat hT 8 10000 (by omega) K kk tk hf hk).2 w kd _ _ hkd (hkinds i h1) (hq i e hi')
 ·unfold flatK at hf
  rw [hk] at hf
  simp only at hf
  unfold keyKind at hkk
  cases hd : tk.d with
  | int k =>
   left
   intro e he
   obtain ⟨i, hi⟩ := List.getElem?_of_mem he
   have hi' : es[i]? = some e := by simpa using hi
   obtain ⟨h1, h2, _⟩ := hkey i e hi'
   have h3 := hkinds i h1
   have h4 := hq i e hi'
   rw [hd] at hf
   simp only at hf
   cases hb : Nat.beq tk.size 1 with
   | false => simp [hb] at hf
   | true =>
    simp only [hb, cond_true] at hf
    cases hf
    have hagg : tk.agg = false := by simp [TI.agg, hd]
    rw [h2]
    generalize takeDV (m.key i) 0 m.ksz = ds at h3 h4 ⊢
    match kd, ds, hkd, h3, h4 with
    | [.int k1 x], [.int k2 y], hkd, h3, h4 =>
     simp [kindsOk] at hkd h3
     subst hkd; subst h3
     simp [eqCs, eqC] at h4
     simp [asVal, hagg, valD, Instr.sameNow, int_beq_decide, h4]
    | .int _ _ :: _ :: _, _, hkd, _, _ => simp [kindsOk] at hkd
    | [.int _ _], .int _ _ :: _ :: _, _, h3, _ => simp [kindsOk] at h3
  | bool =>
   left
   intro e he
   obtain ⟨i, hi⟩ := List.getElem?_of_mem he
   have hi' : es[i]? = some e := by simpa using hi
   obtain ⟨h1, h2, _⟩ := hkey i e hi'
   have h3 := hkinds i h1
   have h4 := hq i e hi'
   rw [hd] at hf
   simp only at hf
   cases hb : Nat.beq tk.size 1 with
   | false => simp [hb] at hf
   | true =>
    simp only [hb, cond_true] at hf
    cases hf
    have hagg : tk.agg = false := by simp [TI.agg, hd]
    rw [h2]
    generalize takeDV (m.key i) 0 m.ksz = ds at h3 h4 ⊢
    match kd, ds, hkd, h3, h4 with
    | [.bool x], [.bool y], hkd, h3, h4 =>
     simp [eqCs, eqC] at h4
     simp [asVal, hagg, valD, Instr.sameNow, h4]
  | array n e =>
   right
   intro e he
   have hagg : tk.agg = true := by simp [TI.agg, hd]
   rw [hagg]
   simp [Instr.sameNow, asVal]
  | _ => rw [hd] at hkk; simp at hkk
def foundV (z : Value) : Option (Nat × Value) → Value
 | some (_, v) => v
 | none => z
theorem exec_lookup {t K V : TypeId} {x y : Operand} {ok : Bool} {ti tv : TI} (ht : TOk1 P t ti) (hd : ti.d = .map K V) (hv : TOk1 P V tv) (hop : o.op = .lookup t x y ok) {r : Nat} {es : Array MapEntry} {cl : Nat} (hx : a.eval x = .map (some r)) (hr : w.heap[r]? = some (.map es cl))
  {kv z : Value} (hy : a.eval y = kv) (hck : ∀ em, (Instr.checkKey em 10000 K kv).run P w = .ok () w) {res : Option (Nat × Value)} (hf : (Instr.findKey K kv es.toList).run P w = .ok res w) (hz : (zeroValue V).run P w = .ok z w) :
  (execOp a.eval o).run P w = .ok (.value (if ok then .tuple #[foundV z res, .bool res.isSome] else foundV z res)) w := by
 have hu := run_underlyingT (w := w) ht
 rw [hd] at hu
 have hg : (getObj r).run P w = .ok (.map es cl) w := by simp [getObj, Sem.run, hr]
 simp only [execOp, hop, Instr.lookup, Sem.run_bind, hu, Result.andThen_ok, hx, hy, hg, Sem.run_pure, hck, hf]
 cases res with
 | none => simp [hz, foundV]
 | some p => obtain ⟨i, v⟩ := p; simp [foundV]
theorem zero_rep (hT : TOk P T) {V : TypeId} {tv : TI} (hV : get T V = some tv) {zv : Value} (h1 : (zeroValue V).run P w = .ok zv w) (h2 : zv.cells.toList = tv.zero) {z : List DV} (hz : cvals tv.zero = some z) {s : SV} (hs : asSV tv.agg (z.map .d) = some s) : RepS ρ F w s zv := by
 have hzr := cvals_rep (ρ := ρ) (F := F) (w := w) hz
 rw [← h2] at hzr
 have hsh : zshape tv.agg zv = true := by
  obtain ⟨_, i, z', hi, _, _, hz', _⟩ := hT.get hV
  have : (zeroValue V).run P w = .ok z' w := by simp [zeroValue, typeInfo, hi, hz']
  rw [this] at h1; cases h1
  exact hT.getZ hV i zv hi hz'
 cases hag : tv.agg with
 | true =>
  rw [hag] at hs hsh
  simp [asSV] at hs; subst hs
  cases zv <;> simp [zshape] at hsh
  rename_i us
  exact ⟨us.toList, by simp, hzr⟩
 | false =>
  rw [hag] at hs hsh
  match z, hs with
  | [d], hs =>
   simp [asSV] at hs; subst hs
   have hc : zv.cells.toList = [zv] := by cases zv <;> simp [zshape] at hsh <;> rfl
   rw [hc] at hzr
   exact hzr.1
theorem lookup_sound (hT : TOk P T) {t : TypeId} {x y : Operand} {ok : Bool} {ti : TI} {xa ya : TV} {an : Ann} {obs : List (Option (Option Ob))} {E : Eff} (ht : TOk1 P t ti) (hop : o.op = .lookup t x y ok) (he : effLookup T an ti.d xa ya ok obs = some E) (hc : All E.conds)
  (hobs : obs = (foot an 0 (.lookup t x y ok) [xa, ya]).map h) (fr : Fr B ρ F w) (hi : HI B ρ F w h) (hx : RepT ρ F w xa (a.eval x)) (hy : RepT ρ F w ya (a.eval y)) : Good P B ρ F w h o a E.tv E.hd := by
 unfold effLookup at he
 split at he
 ·rename_i K V hd
  split at he
  ·rename_i b m hm
   split at he
   ·rename_i tk tv kk kd hko
    split at he
    ·rename_i okk cs
     split at he
     ·rename_i z s hz hs
      cases he
      obtain ⟨⟨hkinds, hres⟩, _⟩ := hc
      obtain ⟨rfl, hob⟩ := mapOf_inv hm
      obtain ⟨ks, rfl, k1, k2, k3, k4, k5, k6, k7, k8, k9, k10, k11, k12, k13⟩ := keyOf_inv hko
      rw [hobs] at hob
      simp [foot] at hob
      obtain ⟨k, base, cap, hk, hv⟩ := hx
      obtain ⟨ft, hi0⟩ := id hi
      obtain ⟨k', base', cap', es, m1, m0, m2, m3, m4, m5⟩ := hi0.obj b _ hob
      rw [hk] at m1; cases m1
      have hky := asVal_key k11 k12 k4 hy
      obtain ⟨q, f1, f2⟩ := run_find (ρ := ρ) (F := F) (w := w) hT k1 k3 k13 k11 k7 m3 hkinds m5
      obtain ⟨zv, z1, z2⟩ := run_zeroT (w := w) (hT.get k2)
      have hrun := exec_lookup (w := w) ht hd (hT.get k2) hop hv m2 hky (fun em => run_checkKey hT k1 k3 k13 k11) f1 z1
      have hfin : ∀ v, RepS ρ F w s v → foundV zv (findE q es.toList 0) = v → (findE q es.toList 0).isSome = okk → Good P B ρ F w h o a (bif ok then .tup [s, .one (.d (.bool okk))] else .v s) [] := by
       intro v hrv h1 h2
       rw [h1, h2] at hrun
       cases ok with
       | true => exact good_same fr hi hrun ⟨[v, .bool okk], rfl, hrv, rfl, trivial⟩
       | false => exact good_same fr hi hrun hrv
      rcases hres with ⟨rfl, i, hil, hi1, hi2, rfl⟩ | ⟨rfl, hi1, rfl⟩
      ·obtain ⟨e, e1, _, _, ⟨s', e3, e4⟩⟩ := m5 i hil
       rw [k8, hs] at e3; cases e3
       have hfe := findE_at (q := q) (es := es.toList) (i := 0) (j := i) (e := e) (by simpa using e1) (by have := f2 i e e1; rw [hi1] at this; simpa using this.symm)
        (fun j' e' hj he' => by have := f2 j' e' (by simpa using he'); rw [hi2 j' hj] at this; simpa using this.symm)
       exact hfin e.val e4 (by rw [hfe]; rfl) (by rw [hfe]; rfl)
      ·have hfe : findE q es.toList 0 = none := findE_none fun e he => by
        obtain ⟨i, hi'⟩ := List.getElem?_of_mem he
        have hi'' : es[i]? = some e := by simpa using hi'
        have hlt : i < m.len := by rw [← m3]; exact (Array.getElem?_eq_some_iff.1 hi'').1
        have := f2 i e hi''
        rw [hi1 i hlt] at this; simpa using this.symm
       refine hfin zv ?_ (by rw [hfe]; rfl) (by rw [hfe]; rfl)
       exact zero_rep hT k2 z1 z2 hz hs
     ·cases he
    ·cases he
   ·cases he
  ·cases he
 ·cases he
theorem takeDV_ext {c d : Nat → DV} {n : Nat} (h : takeDV c 0 n = takeDV d 0 n) : takeV (fun j => .d (c j)) 0 n = takeV (fun j => .d (d j)) 0 n := by
 rw [takeV_d, takeV_d, h]
theorem makeMap_sound (hT : TOk P T) {t : TypeId} {ti : TI} {fresh : Nat} {an : Ann} {obs : List (Option (Option Ob))} {E : Eff} (hop : o.op = .makeMap t none) (he : effMakeMap T fresh an ti.d obs = some E) (hobs : obs = [h fresh])
  (fr : Fr B ρ F w) (hi : HI B ρ F w h) : Good P B ρ F w h o a E.tv E.hd := by
 unfold effMakeMap at he
 split at he
 ·rename_i K V hd
  simp at hobs
  split at he
  ·rename_i tk tv _ _
   have hfr : h fresh = none := hobs.symm
   have p := Push.alloc w (.map #[] 0)
   have hρ := hi.fresh fresh hfr
   have hrun : (execOp a.eval o).run P w = .ok (.value (.map (some w.heap.size))) (w.alloc (.map #[] 0)) := by
    simp [execOp, hop, Instr.makeMap, newObj]; rfl
   split at he
   ·cases he
    refine good_to (p.gr fr (pl := .blk w.heap.size 0 0) hρ) (p.fr fr hρ) (p.hi fr hi hfr ?_) hrun ⟨w.heap.size, 0, 0, updR_same _ _, rfl⟩
    exact ⟨w.heap.size, 0, 0, #[], updR_same _ _, rfl, by rw [p.new]; rfl, rfl, fun i hi => by simp at hi, fun i hi => by simp at hi⟩
   ·cases he
    refine good_to (p.gr fr (pl := .blk w.heap.size 0 0) hρ) (p.fr fr hρ) (p.hi fr hi hfr ?_) hrun ⟨w.heap.size, 0, 0, updR_same _ _, rfl⟩
    exact ⟨w.heap.size, 0, 0, #[], updR_same _ _, rfl, by rw [p.new]; rfl, rfl, fun i hi => by simp at hi, fun i hi => by simp at hi⟩
  ·cases he
 ·cases he
theorem sameBits_val : ∀ {ks : List (Option IntKind)} {ds : List DV}, kindsOk ks ds = true → ∀ agg n, Instr.sameBits (n + 1) (asVal agg (ds.map valD)) (asVal agg (ds.map valD)) = true ∨ (agg = false ∧ ds = []) := by
 have one : ∀ {ks : List (Option IntKind)} {ds : List DV}, kindsOk ks ds = true → ∀ n, ∀ d ∈ ds, Instr.sameBits n (valD d) (valD d) = true := by
  intro ks
  induction ks with
  | nil => intro ds h n d hd; cases ds with
   | nil => simp at hd
   | cons _ _ => simp [kindsOk] at h
  | cons k ks ih =>
   intro ds h n d hd
   cases ds with
   | nil => simp at hd
   | cons x xs =>
    have hx : ∀ n, Instr.sameBits n (valD x) (valD x) = true := fun n => by
     cases k <;> cases x <;> simp [kindsOk] at h <;> cases n <;> simp [valD, Instr.sameBits]
    have ht : kindsOk ks xs = true := by
     cases k <;> cases x <;> simp [kindsOk] at h
     ·exact h
     ·exact h.2
    rcases List.mem_cons.1 hd with rfl | hd
    ·exact hx n
    ·exact ih ht n d hd
 intro ks ds h agg n
 cases agg with
 | true =>
  left
  simp only [asVal, cond_true, Instr.sameBits, beq_self_eq_true, Bool.true_and]
  have : ∀ l : List Value, (∀ v ∈ l, Instr.sameBits n v v = true) → (l.zip l).all (fun (x, y) => Instr.sameBits n x y) = true := by
   intro l
   induction l with
   | nil => simp
   | cons v l ih => intro hh; simp [hh v (by simp), ih fun u hu => hh u (by simp [hu])]
  refine this _ fun v hv => ?_
  obtain ⟨d, hd, rfl⟩ := List.mem_map.1 hv
  exact one h n d hd
 | false =>
  cases ds with
  | nil => exact .inr ⟨rfl, rfl⟩
  | cons d ds => left; simp [asVal]; exact one h _ d (by simp)
theorem valD_repL : ∀ {ks : List (Option IntKind)} {ds : List DV}, kindsOk ks ds = true → RepL ρ F w (ds.map .d) (ds.map valD)
 | _, [], _ => trivial
 | [], _ :: _, h => by simp [kindsOk] at h
 | k :: ks, d :: ds, h => by
  cases k with
  | none =>
   cases d <;> simp [kindsOk] at h
   exact ⟨rfl, valD_repL h⟩
  | some k =>
   cases d <;> simp [kindsOk] at h
   exact ⟨rfl, valD_repL h.2⟩
theorem mapUpdate_sound (hT : TOk P T) {t : TypeId} {x y z : Operand} {ti : TI} {xa ya za : TV} {an : Ann} {obs : List (Option (Option Ob))} {E : Eff} (ht : TOk1 P t ti) (hex : execOp a.eval o = (do Instr.mapUpdate t (a.eval x) (a.eval y) (a.eval z); pure .skip)) 
  (he : effMapUpdate T an ti.d xa ya za obs = some E) (hc : All E.conds)
  (hobs : obs = (match xa with | .v (.one (.mp b)) => [b] | _ => []).map h) (fr : Fr B ρ F w) (hi : HI B ρ F w h) (hx : RepT ρ F w xa (a.eval x)) (hy : RepT ρ F w ya (a.eval y)) (hz : RepT ρ F w za (a.eval z)) : Good P B ρ F w h o a E.tv E.hd := by
 unfold effMapUpdate at he
 split at he
 ·rename_i K V hd
  split at he
  ·rename_i b m hm
   split at he
   ·rename_i tk tv kk kd hko
    split at he
    ·rename_i len' key' val' ms
     split at he
     ·rename_i vs
      cases hb : (isAggS vs == tv.agg) with
      | false => simp [hb] at he
      | true =>
       simp only [hb, cond_true] at he
       cases he
       obtain ⟨⟨hkinds, hment, i, hbef, hcase, hkey', hval', hoth⟩, _⟩ := hc
       obtain ⟨rfl, hob⟩ := mapOf_inv hm
       obtain ⟨ks, rfl, k1, k2, k3, k4, k5, k6, k7, k8, k9, k10, k11, k12, k13⟩ := keyOf_inv hko
       rw [hobs] at hob
       simp at hob
       obtain ⟨k, base, cap, hk, hv⟩ := hx
       obtain ⟨ft, hi⟩ := hi
       obtain ⟨k', base', cap', es, m1, m0, m2, m3, m4, m5⟩ := hi.obj b _ hob
       rw [hk] at m1; cases m1
       have hky := asVal_key k11 k12 k4 hy
       obtain ⟨q, f1, f2⟩ := run_find (ρ := ρ) (F := F) (w := w) hT k1 k3 k13 k11 k7 m3 hkinds m5
       have hu := run_underlyingT (w := w) ht
       rw [hd] at hu
       have hg : (getObj k).run P w = .ok (.map es es.size) w := by simp [getObj, Sem.run, m2]
       have hklt : k < w.heap.size := (Array.getElem?_eq_some_iff.1 m2).1
       have hset : ∀ ob', (setObj k ob').run P w = .ok () { w with heap := w.heap.setIfInBounds k ob' } := fun ob' => by
        simp only [setObj, Sem.run, m2]
       have pt : ∀ ob', Put w { w with heap := w.heap.setIfInBounds k ob' } k := fun ob' => ⟨by simp, fun j hj => by simp [Array.getElem?_setIfInBounds, Ne.symm hj], rfl, rfl, rfl⟩
       have hblk := hi.blk b _ k hob m0
       have hone : tk.agg = false → kd.length = 1 := fun hag => by rw [kindsOk_length k11]; exact flatK_one k3 k1 hag
       have hkA : ∀ W : World, RepA ρ F W m.kagg m.ksz (fun j => .d (key' i j)) (asVal tk.agg (kd.map valD)) := fun W => by
        have hvr := valD_repL (ρ := ρ) (F := F) (w := W) k11
        cases hag : tk.agg with
        | true => exact ⟨.agg (kd.map .d), by rw [takeV_d, hkey', k7, hag]; rfl, kd.map valD, rfl, hvr⟩
        | false =>
         have hl := hone hag
         match kd, hl, hkey', hvr with
         | [d], _, hkey', hvr => exact ⟨.one (.d d), by rw [takeV_d, hkey', k7, hag]; rfl, hvr.1⟩
       have hgr : ∀ ob', Gr ρ F w ρ F { w with heap := w.heap.setIfInBounds k ob' } := fun ob' => (pt ob').gr hblk.2.1
       have hvA : ∀ ob', RepA ρ F { w with heap := w.heap.setIfInBounds k ob' } m.vagg m.vsz (val' i) (a.eval z) := fun ob' => by
        have hb' : isAggS vs = tv.agg := by simpa using hb
        refine ⟨vs, ?_, RepS.gr (hgr ob') hz⟩
        rw [hval', k8, ← hb']
        cases vs <;> rfl
       have hold : ∀ ob' i' e, es[i']? = some e → i' ≠ i → RepA ρ F { w with heap := w.heap.setIfInBounds k ob' } m.kagg m.ksz (fun j => .d (key' i' j)) e.key ∧ RepA ρ F { w with heap := w.heap.setIfInBounds k ob' } m.vagg m.vsz (val' i') e.val ∧ e.born = i' := fun ob' i' e he hne => by
        have hlt : i' < m.len := by rw [← m3]; exact (Array.getElem?_eq_some_iff.1 he).1
        obtain ⟨e', e1, e2, e3, e4⟩ := m5 i' hlt
        rw [he] at e1; cases e1
        obtain ⟨o1, o2⟩ := hoth i' hlt hne
        refine ⟨RepA.keep (hgr ob') ?_, RepA.keep (hgr ob') ?_, e2⟩
        ·unfold RepA; rw [takeDV_ext o1]; exact e3
        ·unfold RepA; rw [o2]; exact e4
       have finish : ∀ es' : Array MapEntry, es'.size = len' → (execOp a.eval o).run P w = .ok .skip { w with heap := w.heap.setIfInBounds k (.map es' es'.size) } →
         (∀ i' e, es'[i']? = some e → (i' = i ∧ e.born = i ∧ e.key = asVal tk.agg (kd.map valD) ∧ e.val = a.eval z) ∨ (i' ≠ i ∧ ∃ e0, es[i']? = some e0 ∧ e0.key = e.key ∧ e0.val = e.val ∧ e0.born = e.born)) →
         Good P B ρ F w h o a (.tup []) [(b, some (.map { m with len := len', key := key', val := val', ms := ms }))] := by
        intro es' hsz hrun hent
        refine good_skip (hgr _) ((pt _).fr fr hblk.2.2) ⟨_, (pt _).hi fr hi hob m0 (fun _ h => h) ⟨k, base, cap, es', hk, m0, by simp [hklt], hsz, hment, fun i' hi' => ?_⟩⟩ hrun
        have hi'' : i' < es'.size := by rw [hsz]; exact hi'
        have hg' := Array.getElem?_eq_getElem hi''
        rcases hent i' _ hg' with ⟨rfl, q1, q2, q3⟩ | ⟨q1, e0, q2, q3, q4, q5⟩
        ·exact ⟨_, hg', q1, by rw [q2]; exact hkA _, by rw [q3]; exact hvA _⟩
        ·obtain ⟨r1, r2, r3⟩ := hold (.map es' es'.size) i' e0 q2 q1
         exact ⟨_, hg', by rw [← q5]; exact r3, by rw [← q3]; exact r1, by rw [← q4]; exact r2⟩
       have hck := run_checkKey (w := w) hT (em := false) k1 k3 k13 k11
       rcases hcase with ⟨hil, heq, rfl⟩ | ⟨rfl, rfl⟩
       ·obtain ⟨e, e1, e2, ⟨s', e3, e3'⟩, _⟩ := m5 i hil
        have hke : e.key = asVal tk.agg (kd.map valD) := by
         rw [takeV_d, k7] at e3
         have := asVal_of (hkinds i hil) e3 e3'
         rw [this, eqCs_true heq]
        have hfe := findE_at (q := q) (es := es.toList) (i := 0) (j := i) (e := e) (by simpa using e1) (by have := f2 i e e1; rw [heq] at this; simpa using this.symm)
         (fun j' e' hj he' => by have := f2 j' e' (by simpa using he'); rw [hbef j' hj] at this; simpa using this.symm)
        rw [Nat.zero_add] at hfe
        have hsb : Instr.sameBits 10000 (asVal tk.agg (kd.map valD)) (asVal tk.agg (kd.map valD)) = true := by
         rcases sameBits_val k11 tk.agg 9999 with q | ⟨q1, q2⟩
         ·exact q
         ·have := hone q1; rw [q2] at this; simp at this
        refine finish (es.modify i fun e => { e with key := asVal tk.agg (kd.map valD), val := a.eval z }) (by simp [m3]) ?_ fun i' e' he' => ?_
        ·rw [hex]
         simp only [Instr.mapUpdate, Sem.run_bind, hu, Result.andThen_ok, hv, hg, hky, hck, f1, hfe, e1, Option.map_some, Option.getD_some, hke, Instr.keyThatStays, hsb, if_true, Sem.run_pure, hset]
         simp
        ·rw [Array.getElem?_modify] at he'
         split at he'
         ·rename_i hii; subst hii
          rw [e1] at he'
          simp at he'
          exact .inl ⟨rfl, by rw [← he']; exact e2, by rw [← he'], by rw [← he']⟩
         ·rename_i hii
          exact .inr ⟨Ne.symm hii, e', he', rfl, rfl, rfl⟩
       ·have hfe : findE q es.toList 0 = none := findE_none fun e he => by
         obtain ⟨j, hj⟩ := List.getElem?_of_mem he
         have hj' : es[j]? = some e := by simpa using hj
         have hlt : j < m.len := by rw [← m3]; exact (Array.getElem?_eq_some_iff.1 hj').1
         have := f2 j e hj'
         rw [hbef j hlt] at this; simpa using this.symm
        refine finish (es.push { key := asVal tk.agg (kd.map valD), val := a.eval z, born := es.size }) (by simp [m3]) ?_ fun i' e' he' => ?_
        ·rw [hex]
         simp only [Instr.mapUpdate, Sem.run_bind, hu, Result.andThen_ok, hv, hg, hky, hck, f1, hfe, hset, Sem.run_pure]
         simp
        ·rw [Array.getElem?_push] at he'
         split at he'
         ·rename_i hii
          cases he'
          exact .inl ⟨by rw [hii, m3], by simp [m3], rfl, rfl⟩
         ·rename_i hii
          have : i' < es.size := (Array.getElem?_eq_some_iff.1 he').1
          exact .inr ⟨by omega, e', he', rfl, rfl, rfl⟩
     ·cases he
    ·cases he
   ·cases he
  ·cases he
 ·cases he
end
end Sg
