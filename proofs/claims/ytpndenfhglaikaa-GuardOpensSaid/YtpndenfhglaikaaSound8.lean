import Derived.Test.YtpndenfhglaikaaSound7b
set_option linter.all false
namespace Sg
open Go
section
variable {P : Program} {B : Base} {ρ ρ' : Nat → Option Pl} {F F' : Nat → Prop} {w w' : World} {h : Hp} {o : Oper} {a : Act} {T : List (Nat × TI)}
def restR (ρ : Nat → Option Pl) (ids : List Nat) : Nat → Option Pl := fun b => if b ∈ ids then ρ b else none
theorem restR_mem {ids : List Nat} {b : Nat} (hb : b ∈ ids) : restR ρ ids b = ρ b := if_pos hb
theorem RepC.restr {ids : List Nat} : ∀ {c : CV} {v : Value}, (∀ b ∈ c.ment, b ∈ ids) → RepC ρ F w c v → RepC (restR ρ ids) F w c v := by
 intro c
 induction c with
 | d x => intro v _ h; exact h
 | ptr b off => intro v hm h; obtain ⟨k, base, cap, h, e⟩ := h; exact ⟨k, base, cap, by rw [restR_mem (hm b (by simp [CV.ment]))]; exact h, e⟩
 | opt b esz i off => intro v hm h; obtain ⟨k, base, cap, h, e⟩ := h; exact ⟨k, base, cap, by rw [restR_mem (hm b (by simp [CV.ment]))]; exact h, e⟩
 | own b nn len =>
  intro v hm h
  rcases h with ⟨k, base, cap, h, e⟩ | ⟨h0, h, e⟩
  ·exact .inl ⟨k, base, cap, by rw [restR_mem (hm b (by simp [CV.ment]))]; exact h, e⟩
  ·exact .inr ⟨h0, by rw [restR_mem (hm b (by simp [CV.ment]))]; exact h, e⟩
 | mp b => intro v hm h; obtain ⟨k, base, cap, h, e⟩ := h; exact ⟨k, base, cap, by rw [restR_mem (hm b (by simp [CV.ment]))]; exact h, e⟩
 | yl b => intro v hm h; obtain ⟨k, base, cap, h, e⟩ := h; exact ⟨k, base, cap, by rw [restR_mem (hm b (by simp [CV.ment]))]; exact h, e⟩
 | fn f nf n cap ih =>
  intro v hm h
  obtain ⟨vs, e, hl, h⟩ := h
  refine ⟨vs, e, hl, fun j u hu => ih j (fun b hb => hm b ?_) (h j u hu)⟩
  have hj : j < n := by rw [← hl]; exact (List.getElem?_eq_some_iff.1 hu).1
  exact List.mem_flatMap.2 ⟨j, List.mem_range.2 hj, hb⟩
theorem RepL.restr {ids : List Nat} : ∀ {cs : List CV} {vs : List Value}, (∀ b ∈ cs.flatMap CV.ment, b ∈ ids) → RepL ρ F w cs vs → RepL (restR ρ ids) F w cs vs
 | [], [], _, h => h
 | c :: cs, _ :: _, hm, ⟨h, t⟩ => ⟨h.restr fun b hb => hm b (by simp [hb]), RepL.restr (fun b hb => hm b (by
   rw [List.flatMap_cons, List.mem_append]; exact .inr hb)) t⟩
 | [], _ :: _, _, h => h
 | _ :: _, [], _, h => h
theorem RepS.restr {ids : List Nat} : ∀ {s : SV} {v : Value}, (∀ b ∈ s.ment, b ∈ ids) → RepS ρ F w s v → RepS (restR ρ ids) F w s v
 | .one _, _, hm, h => RepC.restr hm h
 | .agg _, _, hm, ⟨vs, e, h⟩ => ⟨vs, e, h.restr hm⟩
theorem RepSs.restr {ids : List Nat} : ∀ {ss : List SV} {vs : List Value}, (∀ b ∈ ss.flatMap SV.ment, b ∈ ids) → RepSs ρ F w ss vs → RepSs (restR ρ ids) F w ss vs
 | [], [], _, h => h
 | c :: cs, _ :: _, hm, ⟨h, t⟩ => ⟨h.restr fun b hb => hm b (by simp [hb]), RepSs.restr (fun b hb => hm b (by
   rw [List.flatMap_cons, List.mem_append]; exact .inr hb)) t⟩
 | [], _ :: _, _, h => h
 | _ :: _, [], _, h => h
theorem RepT.restr {ids : List Nat} : ∀ {t : TV} {v : Value}, (∀ b ∈ t.ment, b ∈ ids) → RepT ρ F w t v → RepT (restR ρ ids) F w t v
 | .v _, _, hm, h => RepS.restr hm h
 | .tup _, _, hm, ⟨vs, e, h⟩ => ⟨vs, e, h.restr hm⟩
theorem get_mem' {α : Type} : ∀ {l : List (Nat × α)} {b : Nat} {x : α}, get l b = some x → (b, x) ∈ l
 | [], _, _, h => by simp [get] at h
 | (k, v) :: l, b, x, h => by
  rw [get_cons] at h
  split at h
  ·rename_i e; cases h; subst e; simp
  ·exact List.mem_cons_of_mem _ (get_mem' h)
theorem takeV_mem {c : Nat → CV} : ∀ {i n : Nat} {x : CV}, x ∈ takeV c i n → ∃ j, j < i + n ∧ x = c j
 | _, 0, _, h => by simp [takeV] at h
 | i, n + 1, x, h => by
  simp only [takeV, List.mem_cons] at h
  rcases h with rfl | h
  ·exact ⟨i, by omega, rfl⟩
  ·obtain ⟨j, hj, e⟩ := takeV_mem h
   exact ⟨j, by omega, e⟩
theorem asSV_ment {agg : Bool} {cs : List CV} {s : SV} (h : asSV agg cs = some s) : s.ment = cs.flatMap CV.ment := by
 unfold asSV at h
 split at h
 ·cases h; rfl
 ·cases h; simp [SV.ment]
 ·cases h
theorem RepO.restr {ids : List Nat} {S : Nat → Prop} {b : Nat} (hb : b ∈ ids) : ∀ {ob : Ob}, (∀ x ∈ ob.ment, x ∈ ids) → RepO ρ F w S b ob → RepO (restR ρ ids) F w S b ob
 | .cells _ _, hm, ⟨k, cap, vs, h1, h0, h2, h3⟩ => ⟨k, cap, vs, by rw [restR_mem hb]; exact h1, h0, h2, h3.restr hm⟩
 | .fcells _ _, _, ⟨k, base, cap, h1, h2⟩ => ⟨k, base, cap, by rw [restR_mem hb]; exact h1, h2⟩
 | .arr _ _ _ _, _, .inl ⟨h1, h2⟩ => .inl ⟨by rw [restR_mem hb]; exact h1, h2⟩
 | .arr _ _ _ _, _, .inr ⟨k, base, cap, h1, h2⟩ => .inr ⟨k, base, cap, by rw [restR_mem hb]; exact h1, h2⟩
 | .rows _ _ _ _ _, _, .inl ⟨h1, h2⟩ => .inl ⟨by rw [restR_mem hb]; exact h1, h2⟩
 | .rows _ _ _ _ ov, hm, .inr ⟨k, base, cap, vs, rb, h1, h0, h2, h3, h4, h5, h6, h7⟩ => .inr ⟨k, base, cap, vs, rb, by rw [restR_mem hb]; exact h1, h0, h2, h3, h4, h5, fun i hi j hj => by
   obtain ⟨u, hu, hr⟩ := h6 i hi j hj
   refine ⟨u, hu, ?_⟩
   unfold RepW at hr ⊢
   cases ov with
   | none => exact hr
   | some p =>
    obtain ⟨i0, j0, c⟩ := p
    simp only at hr ⊢
    split
    ·rename_i e; rw [if_pos e] at hr; exact hr.restr hm
    ·rename_i e; rw [if_neg e] at hr; exact hr, h7⟩
 | .map m, hm, ⟨k, base, cap, es, h1, h0, h2, h3, h5, h4⟩ => ⟨k, base, cap, es, by rw [restR_mem hb]; exact h1, h0, h2, h3, h5, fun i hi => by
   obtain ⟨e, e1, e2, ⟨s3, e3, e3'⟩, ⟨s4, e4, e4'⟩⟩ := h4 i hi
   refine ⟨e, e1, e2, ⟨s3, e3, e3'.restr fun x hx => ?_⟩, s4, e4, e4'.restr fun x hx => ?_⟩
   ·rw [asSV_ment e3] at hx
    obtain ⟨c, hc, hx⟩ := List.mem_flatMap.1 hx
    obtain ⟨j, _, rfl⟩ := takeV_mem hc
    simp [CV.ment] at hx
   ·rw [asSV_ment e4] at hx
    obtain ⟨c, hc, hx⟩ := List.mem_flatMap.1 hx
    obtain ⟨j, hj, rfl⟩ := takeV_mem hc
    exact hm x (h5 i hi j (by omega) x hx)⟩
 | .loop _ _ sl, hm, ⟨k, base, cap, fn, tmps, D, h1, h0, h2, h3, h4, h5⟩ => ⟨k, base, cap, fn, tmps, D, by rw [restR_mem hb]; exact h1, h0, h2, h3, h4, fun t tv ht => by
   obtain ⟨v, e1, e2⟩ := h5 t tv ht
   exact ⟨v, e1, e2.restr fun x hx => hm x (List.mem_flatMap.2 ⟨_, get_mem' ht, hx⟩)⟩⟩
 | .coll, _, ⟨k, base, cap, h1, h2⟩ => ⟨k, base, cap, by rw [restR_mem hb]; exact h1, h2⟩
theorem zipObs_get : ∀ {ids : List Nat} {obs : List (Option (Option Ob))} {hin : List (Nat × Option Ob)}, zipObs ids obs = some hin → (∀ b, get hin b ≠ none → b ∈ ids) ∧ (∀ b x, get hin b = some x → ∃ (j : Nat) (ob : Ob), ids[j]? = some b ∧ obs[j]? = some (some (some ob)) ∧ x = some ob) ∧
  (∀ b ∈ ids, get hin b ≠ none) ∧ ∀ (j b : Nat), ids[j]? = some b → ∃ ob, obs[j]? = some (some (some ob))
 | [], _, hin, hz => by simp [zipObs] at hz; subst hz; simp [get]
 | i :: is, some (some ob) :: os, hin, hz => by
  simp only [zipObs] at hz
  split at hz
  ·rename_i l hl
   cases hz
   obtain ⟨h1, h2, h3, h4⟩ := zipObs_get hl
   refine ⟨fun b hb => ?_, fun b x hb => ?_, fun b hb => ?_, fun j b hj => ?_⟩
   ·rw [get_cons] at hb
    split at hb
    ·rename_i e; simp [e]
    ·exact List.mem_cons_of_mem _ (h1 b hb)
   ·rw [get_cons] at hb
    split at hb
    ·rename_i e; cases hb; exact ⟨0, ob, by simp [e], rfl, rfl⟩
    ·obtain ⟨j, ob', e1, e2, e3⟩ := h2 b x hb; exact ⟨j + 1, ob', by simpa using e1, by simpa using e2, e3⟩
   ·rw [get_cons]
    split
    ·simp
    ·rename_i e
     rcases List.mem_cons.1 hb with rfl | hb
     ·exact absurd rfl e
     ·exact h3 b hb
   ·cases j with
    | zero => exact ⟨ob, rfl⟩
    | succ j => simpa using h4 j b (by simpa using hj)
  ·cases hz
 | _ :: _, [], _, hz => by simp [zipObs] at hz
 | _ :: _, none :: _, _, hz => by simp [zipObs] at hz
 | _ :: _, some none :: _, _, hz => by simp [zipObs] at hz
theorem obsMent_mem : ∀ {obs : List (Option (Option Ob))} {j : Nat} {ob : Ob}, obs[j]? = some (some (some ob)) → ∀ x ∈ ob.ment, x ∈ obsMent obs
 | [], _, _, h, _, _ => by simp at h
 | some (some ob') :: l, j, ob, h, x, hx => by
  cases j with
  | zero => simp at h; subst h; simp [obsMent, hx]
  | succ j => simp only [obsMent, List.mem_append]; exact .inr (obsMent_mem (by simpa using h) x hx)
 | none :: l, j, ob, h, x, hx => by
  cases j with
  | zero => simp at h
  | succ j => simp only [obsMent]; exact obsMent_mem (by simpa using h) x hx
 | some none :: l, j, ob, h, x, hx => by
  cases j with
  | zero => simp at h
  | succ j => simp only [obsMent]; exact obsMent_mem (by simpa using h) x hx
theorem freshOk_spec {ids : List Nat} : ∀ {ks : List Nat} {os : List (Option (Option Ob))}, freshOk ids ks os = true → ∀ (j k : Nat), ks[j]? = some k → k ∈ ids ∨ os[j]? = some none
 | [], _, _, j, k, hj => by simp at hj
 | k0 :: ks, o :: os, h, j, k, hj => by
  simp only [freshOk, Bool.and_eq_true] at h
  cases j with
  | zero =>
   simp at hj; subst hj
   cases hm : memL k0 ids with
   | true => exact .inl (memL_iff.1 hm)
   | false =>
    simp only [hm, cond_false] at h
    right
    cases o with
    | none => rfl
    | some _ => simp at h
  | succ j => simpa using freshOk_spec h.2 j k (by simpa using hj)
 | _ :: _, [], h, _, _, _ => by simp [freshOk] at h
theorem get_none_of_not_mem {α : Type} : ∀ {l : List (Nat × α)} {b : Nat}, b ∉ l.map (·.1) → get l b = none
 | [], _, _ => rfl
 | (k, v) :: l, b, h => by
  rw [get_cons, if_neg (fun e => h (by simp [e]))]
  exact get_none_of_not_mem fun hm => h (by simp at hm ⊢; exact .inr hm)
theorem mem_of_get {α : Type} {l : List (Nat × α)} {b : Nat} (h : get l b ≠ none) : b ∈ l.map (·.1) := by
 apply Classical.byContradiction
 intro hn
 exact h (get_none_of_not_mem hn)
theorem get_append {α : Type} : ∀ (l l' : List (Nat × α)) (b : Nat), get (l ++ l') b = match get l b with | some x => some x | none => get l' b
 | [], _, _ => rfl
 | (k, v) :: l, l', b => by
  rw [List.cons_append, get_cons, get_cons]
  split
  ·rfl
  ·exact get_append l l' b
theorem get_tomb (ids : List Nat) (b : Nat) : get (ids.map fun i => (i, (none : Option Ob))) b = if b ∈ ids then some none else none := by
 induction ids with
 | nil => simp [get]
 | cons i is ih =>
  rw [List.map_cons, get_cons, ih]
  by_cases e : i = b
  ·simp [e]
  ·have e' : b ≠ i := fun h => e h.symm
   simp [e, e']
theorem svArgs_rep : ∀ {xs : List TV} {args : List SV} {vs : List Value}, svArgs xs = some args → RepTs ρ F w xs vs → RepSs ρ F w args vs
 | [], args, vs, hs, hx => by simp [svArgs] at hs; subst hs; match vs, hx with | [], _ => trivial
 | .v s :: xs, args, vs, hs, hx => by
  simp only [svArgs] at hs
  split at hs
  ·rename_i l hl
   cases hs
   match vs, hx with
   | v :: vs, ⟨h1, h2⟩ => exact ⟨h1, svArgs_rep hl h2⟩
  ·cases hs
 | .tup _ :: _, _, _, hs, _ => by simp [svArgs] at hs
def Post (B : Base) (res : TV) (hout : List (Nat × Option Ob)) (v : Value) (w : World) : Prop := ∃ ρ F, Fr B ρ F w ∧ HI B ρ F w (hpOf hout) ∧ RepT ρ F w res v
theorem call_gen {ids : List Nat} {res : TV} {hin hout : List (Nat × Option Ob)} {args : List SV} {xs : List TV} {obs : List (Option (Option Ob))} {vs : List Value} (X : (Value → World → Prop) → Prop)
  (hzip : zipObs ids obs = some hin) (hargs : svArgs xs = some args) (hb : (subL (args.flatMap SV.ment) ids && subL (obsMent (obs.take ids.length)) ids && freshOk ids (hout.map (·.1)) (obs.drop ids.length)) = true)
  (hobs : obs = (ids ++ hout.map (·.1)).map h) (fr : Fr B ρ F w) (hi : HI B ρ F w h) (hx : RepTs ρ F w xs vs)
  (hup : ∀ B' : Base, B'.w = w → B'.ρ = restR ρ ids → (∀ k, B'.F k → k < B'.w.heap.size) → HI B' B'.ρ B'.F B'.w (hpOf hin) → RepSs B'.ρ B'.F B'.w args vs →
   ∀ K : Value → World → Prop, (∀ v w', Post B' res hout v w' → K v w') → X K) (K : Value → World → Prop)
  (hK : ∀ v ρ' F' w', Gr ρ F w ρ' F' w' → Fr B ρ' F' w' → HI B ρ' F' w' (upd h (hout ++ ids.map (fun i => (i, none)))) → RepT ρ' F' w' res v → K v w') : X K := by
 simp only [Bool.and_eq_true] at hb
 have hm1 := subL_iff.1 hb.1.1
 have hm2 := subL_iff.1 hb.1.2
 have hfo := hb.2
 obtain ⟨z1, z2, z3, z4⟩ := zipObs_get hzip
 obtain ⟨ft, hi⟩ := hi
 have hlook : ∀ j b, ids[j]? = some b → obs[j]? = some (h b) := fun j b hj => by
  have hlt : j < ids.length := by
   rcases Nat.lt_or_ge j ids.length with h | h
   ·exact h
   ·rw [List.getElem?_eq_none h] at hj; cases hj
  rw [hobs, List.getElem?_map, List.getElem?_append_left hlt, hj]; rfl
 have hin1 : ∀ b x, get hin b = some x → b ∈ ids ∧ ∃ ob, x = some ob ∧ h b = some (some ob) ∧ ∀ q ∈ ob.ment, q ∈ ids := fun b x hb => by
  obtain ⟨j, ob, e1, e2, e3⟩ := z2 b x hb
  have := hlook j b e1
  rw [e2] at this
  simp at this
  refine ⟨List.mem_of_getElem? e1, ob, e3, this.symm, fun q hq => hm2 q (obsMent_mem (j := j) (ob := ob) ?_ q hq)⟩
  have hlt : j < ids.length := by
   rcases Nat.lt_or_ge j ids.length with h | h
   ·exact h
   ·rw [List.getElem?_eq_none h] at e1; cases e1
  rw [List.getElem?_take, if_pos hlt]; exact e2
 have hlive : ∀ b ∈ ids, ∃ ob, h b = some (some ob) := fun b hb => by
  cases hg : get hin b with
  | none => exact absurd hg (z3 b hb)
  | some x => obtain ⟨_, ob, _, h1, _⟩ := hin1 b x hg; exact ⟨ob, h1⟩
 have hfresh : ∀ b, get hout b ≠ none → b ∈ ids ∨ h b = none := fun b hb => by
  have hmem := mem_of_get hb
  obtain ⟨j, hj⟩ := List.getElem?_of_mem hmem
  rcases freshOk_spec hfo j b hj with h1 | h1
  ·exact .inl h1
  ·right
   rw [List.getElem?_drop, hobs, List.getElem?_map, List.getElem?_append_right (by omega), Nat.add_sub_cancel_left, hj] at h1
   simpa using h1
 let B' : Base := ⟨w, restR ρ ids, F, fun k => ∃ b ob, b ∈ ids ∧ h b = some (some ob) ∧ ft b k⟩
 have hi' : HIf B' (restR ρ ids) F w (hpOf hin) ft := by
  refine ⟨fun b ob hb => ?_, fun b ob k hb hk => ?_, fun b1 b2 ob1 ob2 k h1 h2 e1 e2 => ?_, fun b hb => ?_⟩
  ·obtain ⟨hmem, ob', e1, e2, e3⟩ := hin1 b _ hb
   cases e1
   exact (hi.obj b ob e2).restr hmem e3
  ·obtain ⟨hmem, ob', e1, e2, e3⟩ := hin1 b _ hb
   cases e1
   obtain ⟨g1, g2, g3⟩ := hi.blk b ob k e2 hk
   exact ⟨g1, g2, .inl ⟨b, ob, hmem, e2, hk⟩⟩
  ·obtain ⟨m1, _, e3, e4, _⟩ := hin1 b1 _ h1
   obtain ⟨m2, _, e5, e6, _⟩ := hin1 b2 _ h2
   exact hi.dis b1 b2 _ _ k e4 e6 e1 e2
  ·rw [restR]
   split
   ·rename_i hmem; exact absurd hb (z3 b hmem)
   ·rfl
 have hxs := (svArgs_rep hargs hx).restr hm1
 refine hup B' rfl rfl (fun k hk => (fr.fz k hk).1) ⟨ft, hi'⟩ hxs K ?_
 rintro v w2 ⟨ρ2, F2, fr2, ⟨ft2, hi2⟩, hr2⟩
 let ρ3 : Nat → Option Pl := fun b => if get hout b ≠ none then ρ2 b else ρ b
 have h23 : ∀ b p, ρ2 b = some p → get hout b ≠ none := fun b p hb hn => by
  have := hi2.fresh b hn; rw [this] at hb; cases hb
 have g23 : Gr ρ2 F2 w2 ρ3 F2 w2 := ⟨fun b p hb => by simp only [ρ3]; rw [if_pos (h23 b p hb)]; exact hb, fun _ h => h, fun _ _ => rfl⟩
 have hown : ∀ k, B'.Ft k → ¬ F k ∧ (B.Ft k ∨ B.w.heap.size ≤ k) := by
  rintro k ⟨b, ob, hmem, hob, hk⟩
  exact (hi.blk b ob k hob hk).2
 have hmem : ∀ k, k < w.heap.size → ¬ B'.Ft k → w2.heap[k]? = w.heap[k]? := fr2.mem
 have hgr : Gr ρ F w ρ3 F2 w2 := by
  refine ⟨fun b p hb => ?_, fr2.bf, fun k hk => hmem k (fr.fz k hk).1 fun e => (hown k e).1 hk⟩
  simp only [ρ3]
  split
  ·rename_i hne
   rcases hfresh b hne with hm | hn
   ·exact fr2.rho b p (by show restR ρ ids b = some p; rw [restR, if_pos hm]; exact hb)
   ·rw [hi.fresh b hn] at hb; cases hb
  ·exact hb
 have hu : ∀ b, upd h (hout ++ ids.map (fun i => (i, none))) b = match get hout b with | some x => some x | none => if b ∈ ids then some none else h b := fun b => by
  rw [upd_get, get_append, get_tomb]
  cases get hout b with
  | some x => rfl
  | none =>
   by_cases hm : b ∈ ids
   ·simp [hm]
   ·simp [hm]
 have hcase : ∀ b ob, upd h (hout ++ ids.map (fun i => (i, none))) b = some (some ob) → (get hout b = some (some ob) ∧ ρ3 b = ρ2 b) ∨ (get hout b = none ∧ b ∉ ids ∧ h b = some (some ob) ∧ ρ3 b = ρ b) := fun b ob hb => by
  rw [hu] at hb
  cases hg : get hout b with
  | some x => rw [hg] at hb; left; exact ⟨by simpa using hb, by simp [ρ3, hg]⟩
  | none =>
   rw [hg] at hb
   by_cases hm : b ∈ ids
   ·simp [hm] at hb
   ·simp only [hm, if_false] at hb; right; exact ⟨rfl, hm, hb, by simp [ρ3, hg]⟩
 have hkeep : ∀ b ob k, b ∉ ids → h b = some (some ob) → ft b k → w2.heap[k]? = w.heap[k]? ∧ ¬ F2 k ∧ k < w.heap.size ∧ ¬ B'.Ft k := fun b ob k hm hb hk => by
  obtain ⟨g1, g2, g3⟩ := hi.blk b ob k hb hk
  have hno : ¬ B'.Ft k := by
   rintro ⟨b', ob', hm', hob', hk'⟩
   exact hm (hi.dis b b' ob ob' k hb hob' hk hk' ▸ hm')
  refine ⟨hmem k g1 hno, fun hf => ?_, g1, hno⟩
  rcases (fr2.fz k hf).2 with hF | hF | hle
  ·exact g2 hF
  ·exact hno hF
  ·have : w.heap.size ≤ k := hle
   omega
 refine hK v ρ3 F2 w2 hgr ⟨fr2.os.trans fr.os, fr2.tape.trans fr.tape, fr2.output.trans fr.output, Nat.le_trans fr.size fr2.size, fun k hk hn => ?_, fun b p hb => hgr.rho b p (fr.rho b p hb), fun k hk => ⟨(fr2.fz k hk).1, ?_⟩, fun k hk => fr2.bf k (fr.bf k hk)⟩
  ⟨fun b => if get hout b ≠ none then ft2 b else ft b, fun b ob hb => ?_, fun b ob k hb hk => ?_, fun b1 b2 ob1 ob2 k h1 h2 e1 e2 => ?_, fun b hb => ?_⟩ (hr2.gr g23)
 ·refine (hmem k (by have := fr.size; omega) fun e => ?_).trans (fr.mem k hk hn)
  rcases (hown k e).2 with hb' | hle
  ·exact hn hb'
  ·omega
 ·rcases (fr2.fz k hk).2 with hF | hF | hle
  ·exact (fr.fz k hF).2
  ·rcases (hown k hF).2 with q | q
   ·exact .inr (.inl q)
   ·exact .inr (.inr q)
  ·exact .inr (.inr (Nat.le_trans fr.size hle))
 ·rcases hcase b ob hb with ⟨h1, _⟩ | ⟨h1, h2, h3, h4⟩
  ·simp only [h1, ne_eq, reduceCtorEq, not_false_eq_true, if_true]
   exact (hi2.obj b ob h1).keep g23 (fun _ h => h) fun _ _ => rfl
  ·simp only [h1, ne_eq, not_true_eq_false, if_false]
   exact (hi.obj b ob h3).keep hgr (fun _ h => h) fun k hk => (hkeep b ob k h2 h3 hk).1
 ·rcases hcase b ob hb with ⟨h1, h2⟩ | ⟨h1, h2, h3, h4⟩
  ·simp only [h1, ne_eq, reduceCtorEq, not_false_eq_true, if_true] at hk
   obtain ⟨g1, g2, g3⟩ := hi2.blk b ob k h1 hk
   refine ⟨g1, g2, ?_⟩
   rcases g3 with ho | hle
   ·exact (hown k ho).2
   ·exact .inr (Nat.le_trans fr.size hle)
  ·simp only [h1, ne_eq, not_true_eq_false, if_false] at hk
   obtain ⟨g1, g2, g3, _⟩ := hkeep b ob k h2 h3 hk
   exact ⟨Nat.lt_of_lt_of_le g3 fr2.size, g2, (hi.blk b ob k h3 hk).2.2⟩
 ·rcases hcase b1 ob1 h1 with ⟨p1, p2⟩ | ⟨p1, p2, p3, p4⟩ <;> rcases hcase b2 ob2 h2 with ⟨q1, q2⟩ | ⟨q1, q2, q3, q4⟩ <;> simp only [p1, q1, ne_eq, reduceCtorEq, not_false_eq_true, not_true_eq_false, if_true, if_false] at e1 e2
  ·exact hi2.dis b1 b2 ob1 ob2 k p1 q1 e1 e2
  ·obtain ⟨_, _, g3, g4⟩ := hkeep b2 ob2 k q2 q3 e2
   rcases (hi2.blk b1 ob1 k p1 e1).2.2 with ho | hle
   ·exact absurd ho g4
   ·have : w.heap.size ≤ k := hle
    omega
  ·obtain ⟨_, _, g3, g4⟩ := hkeep b1 ob1 k p2 p3 e1
   rcases (hi2.blk b2 ob2 k q1 e2).2.2 with ho | hle
   ·exact absurd ho g4
   ·have : w.heap.size ≤ k := hle
    omega
  ·exact hi.dis b1 b2 ob1 ob2 k p3 q3 e1 e2
 ·rw [hu] at hb
  cases hg : get hout b with
  | some x => rw [hg] at hb; simp at hb
  | none =>
   rw [hg] at hb
   by_cases hm : b ∈ ids
   ·simp [hm] at hb
   ·simp only [hm, if_false] at hb
    simp [ρ3, hg, hi.fresh b hb]
theorem call_core' {ids : List Nat} {res : TV} {hin hout : List (Nat × Option Ob)} {args : List SV} {xs : List TV} {obs : List (Option (Option Ob))} {vs : List Value}
  (hzip : zipObs ids obs = some hin) (hargs : svArgs xs = some args) (hb : (subL (args.flatMap SV.ment) ids && subL (obsMent (obs.take ids.length)) ids && freshOk ids (hout.map (·.1)) (obs.drop ids.length)) = true)
  (hobs : obs = (ids ++ hout.map (·.1)).map h) (fr : Fr B ρ F w) (hi : HI B ρ F w h) (hx : RepTs ρ F w xs vs)
  (hup : ∀ B' : Base, B'.w = w → B'.ρ = restR ρ ids → (∀ k, B'.F k → k < B'.w.heap.size) → HI B' B'.ρ B'.F B'.w (hpOf hin) → RepSs B'.ρ B'.F B'.w args vs →
   ∀ (r : Option Nat) (K : Act → World → Prop) (Q : Exit → Act → World → Prop), (∀ v w', Post B' res hout v w' → K (a.put o.dst v) w') → o.wpIn (FW r) 0 P a w K Q) : Good P B ρ F w h o a res (hout ++ ids.map (fun i => (i, none))) := by
 intro r K Q hK
 refine call_gen (X := fun K' => ∀ K : Act → World → Prop, (∀ v w', K' v w' → K (a.put o.dst v) w') → o.wpIn (FW r) 0 P a w K Q) hzip hargs hb hobs fr hi hx (fun B' hw hρ hF hi' hxs K' hK' K hKK => hup B' hw hρ hF hi' hxs r K Q fun v w' hp => hKK v w' (hK' v w' hp))
  (fun v w' => K (a.put o.dst v) w') (fun v ρ' F' w' g f hi' hr => hK v ρ' F' w' g f hi' hr) K (fun _ _ h => h)
theorem zipObs_app : ∀ {is : List Nat} {os os' : List (Option (Option Ob))} {m : List (Nat × Option Ob)}, zipObs is os = some m → zipObs is (os ++ os') = some m
 | [], os, os', m, h => by simpa [zipObs] using h
 | i :: is, some (some o) :: os, os', m, h => by
  simp only [zipObs] at h
  split at h
  ·rename_i l hl
   simp only [List.cons_append, zipObs, zipObs_app (os' := os') hl]; exact h
  ·cases h
 | _ :: _, [], _, _, h => by simp [zipObs] at h
 | _ :: _, none :: _, _, _, h => by simp [zipObs] at h
 | _ :: _, some none :: _, _, _, h => by simp [zipObs] at h
theorem zipObs_keys : ∀ {is : List Nat} {os : List (Option (Option Ob))} {m : List (Nat × Option Ob)}, zipObs is os = some m → m.map (·.1) = is
 | [], os, m, h => by simp [zipObs] at h; subst h; rfl
 | i :: is, some (some o) :: os, m, h => by
  simp only [zipObs] at h
  split at h
  ·rename_i l hl; cases h; simp [zipObs_keys hl]
  ·cases h
 | _ :: _, [], _, h => by simp [zipObs] at h
 | _ :: _, none :: _, _, h => by simp [zipObs] at h
 | _ :: _, some none :: _, _, h => by simp [zipObs] at h
theorem freshOk_all : ∀ {ids ks : List Nat} {os : List (Option (Option Ob))}, ks.length = os.length → (∀ k ∈ ks, k ∈ ids) → freshOk ids ks os = true
 | _, [], _, _, _ => by simp [freshOk]
 | ids, k :: ks, o :: os, hl, h => by
  simp only [freshOk, memL_iff.2 (h k (by simp)), cond_true, Bool.true_and]
  exact freshOk_all (by simpa using hl) fun k hk => h k (by simp [hk])
 | _, _ :: _, [], hl, _ => by simp at hl
theorem call_good {f : Nat} {Fc : Cl → List SV → List (Nat × Option Ob) → TV → List (Nat × Option Ob) → Prop} (hFc : Fc (.fn f) = Fn P f) {xs : List TV} {an : Ann} {obs : List (Option (Option Ob))} {E : Eff} {vs : List Value} (he : effCall Fc an (.fn f) xs obs = some E) (hc : All E.conds)
  (hobs : ∀ ids res hout, an = .call ids res hout → obs = (ids ++ hout.map (·.1)).map h) (hobs2 : ∀ ids res, an = .callR ids res → obs = ids.map h) (hrun : (execOp a.eval o).run P w = (callFunc f vs.toArray).run P w)
  (fr : Fr B ρ F w) (hi : HI B ρ F w h) (hx : RepTs ρ F w xs vs) : Good P B ρ F w h o a E.tv E.hd := by
 unfold effCall at he
 split at he
 ·rename_i ids res hout
  have hobs := hobs ids res hout rfl
  split at he
  ·rename_i args hin hargs hzip
   cases hb : (subL (args.flatMap SV.ment) ids && subL (obsMent (obs.take ids.length)) ids && freshOk ids (hout.map (·.1)) (obs.drop ids.length)) with
   | false => simp [hb] at he
   | true =>
    simp only [hb, Cl.ids, subL, Bool.and_self, cond_true] at he
    cases he
    rw [hFc] at hc
    obtain ⟨⟨hent, hfn⟩, _⟩ := hc
    refine call_core' hzip hargs hb hobs fr hi hx fun B' hw _ hF hi' hxs r K Q hK => ?_
    have hen : (callFunc f vs.toArray).run P w = .ok (.enter f vs.toArray) w := by
     obtain ⟨fn, e1, e2, e3⟩ := hent
     simp only [callFunc, Sem.run_bind, run_program, Result.andThen_ok, e1, e2, e3, Bool.false_eq_true, if_false]
     rfl
    refine wpIn_of_wp r (not_defer_of (hrun.trans hen) (fun _ h => by cases h)) ?_
    simp only [Oper.wp, hrun, hen, Oper.upon]
    subst hw
    refine (hfn B' vs hF hi' hxs).mono ?_
    rintro e w2 ⟨v, ρ2, F2, rfl, fr2, hi2, hr2⟩
    exact hK v w2 ⟨ρ2, F2, fr2, hi2, hr2⟩
  ·cases he
 ·-- the objects are lent, and come back as they were
  rename_i ids res
  have hobs := hobs2 ids res rfl
  simp only at he
  split at he
  ·rename_i args hin hargs hzip
   cases hb : (subL (args.flatMap SV.ment) ids && subL (obsMent (obs.take ids.length)) ids) with
   | false => simp [hb] at he
   | true =>
    simp only [hb, cond_true] at he
    cases he
    rw [hFc] at hc
    obtain ⟨⟨hent, hfn⟩, _⟩ := hc
    have hk := zipObs_keys hzip
    have hlen : (ids.map h).length = ids.length := by simp
    have hzip' : zipObs ids ((ids ++ hin.map (·.1)).map h) = some hin := by
     rw [List.map_append, ← hobs]; exact zipObs_app hzip
    have htk : ((ids ++ hin.map (·.1)).map h).take ids.length = obs.take ids.length := by
     rw [List.map_append, hobs, List.take_append_of_le_length (by rw [hlen]; exact Nat.le_refl _)]
    have hb' : (subL (args.flatMap SV.ment) ids && subL (obsMent (((ids ++ hin.map (·.1)).map h).take ids.length)) ids && freshOk ids (hin.map (·.1)) (((ids ++ hin.map (·.1)).map h).drop ids.length)) = true := by
     rw [htk, hb, Bool.true_and]
     refine freshOk_all (by simp) fun k hk' => by rw [hk] at hk'; exact hk'
    have hback : upd h (hin ++ ids.map (fun i => (i, none))) = h := by
     obtain ⟨z1, z2, z3, _⟩ := zipObs_get hzip
     funext b
     rw [upd_get, get_append, get_tomb]
     cases hg : get hin b with
     | some x =>
      obtain ⟨j, ob, e1, e2, e3⟩ := z2 b x hg
      rw [hobs, List.getElem?_map, e1] at e2
      simp only [Option.map_some, Option.some.injEq] at e2
      simp only [e3, e2]
     | none =>
      have : b ∉ ids := fun hm => z3 b hm hg
      simp [this]
    have hgood : Good P B ρ F w h o a res (hin ++ ids.map (fun i => (i, none))) := by
     refine call_core' hzip' hargs hb' rfl fr hi hx fun B' hw _ hF hi' hxs r K Q hK => ?_
     have hen : (callFunc f vs.toArray).run P w = .ok (.enter f vs.toArray) w := by
      obtain ⟨fn, e1, e2, e3⟩ := hent
      simp only [callFunc, Sem.run_bind, run_program, Result.andThen_ok, e1, e2, e3, Bool.false_eq_true, if_false]
      rfl
     refine wpIn_of_wp r (not_defer_of (hrun.trans hen) (fun _ h => by cases h)) ?_
     simp only [Oper.wp, hrun, hen, Oper.upon]
     subst hw
     refine (hfn B' vs hF hi' hxs).mono ?_
     rintro e w2 ⟨v, ρ2, F2, rfl, fr2, hi2, hr2⟩
     exact hK v w2 ⟨ρ2, F2, fr2, hi2, hr2⟩
    intro r K Q hK
    refine hgood r K Q fun v ρ' F' w' g f' hi' hr' => hK v ρ' F' w' g f' ?_ hr'
    rw [hback] at hi'; exact hi'
  ·cases he
 ·cases he
def Yl (P : Program) (b : Nat) (args : List SV) (hin : List (Nat × Option Ob)) (res : TV) (hout : List (Nat × Option Ob)) : Prop :=
 ∀ (B : Base) (vs : List Value) (l base cap : Nat), (∀ k, B.F k → k < B.w.heap.size) → HI B B.ρ B.F B.w (hpOf hin) → RepSs B.ρ B.F B.w args vs → B.ρ b = some (.blk l base cap) →
  ∃ fn tmps assign body, (Instr.yield l vs.toArray).run P B.w = .ok (.round l fn tmps assign body) B.w ∧
   RoundIn (FW none) 0 P l fn tmps assign body B.w fun e w' => ∃ v, e = .returned v ∧ Post B res hout v w'
def FnC (P : Program) : Cl → List SV → List (Nat × Option Ob) → TV → List (Nat × Option Ob) → Prop
 | .fn f => Fn P f
 | .yl b => Yl P b
theorem yield_good {b : Nat} {xs : List TV} {an : Ann} {obs : List (Option (Option Ob))} {E : Eff} {vs : List Value} (he : effCall (FnC P) an (.yl b) xs obs = some E) (hc : All E.conds) (hd : isDefer o.op = false)
  (hobs : ∀ ids res hout, an = .call ids res hout → obs = (ids ++ hout.map (·.1)).map h) (hrun : ∀ l base cap, ρ b = some (.blk l base cap) → (execOp a.eval o).run P w = (Instr.yield l vs.toArray).run P w)
  (fr : Fr B ρ F w) (hi : HI B ρ F w h) (hx : RepTs ρ F w xs vs) (hbk : ∃ l base cap, ρ b = some (.blk l base cap)) : Good P B ρ F w h o a E.tv E.hd := by
 unfold effCall at he
 split at he
 ·rename_i ids res hout
  have hobs := hobs ids res hout rfl
  split at he
  ·rename_i args hin hargs hzip
   cases hm : subL [b] ids with
   | false => simp [hm, Cl.ids] at he
   | true =>
   cases hb : (subL (args.flatMap SV.ment) ids && subL (obsMent (obs.take ids.length)) ids && freshOk ids (hout.map (·.1)) (obs.drop ids.length)) with
   | false => simp [hb, hm, Cl.ids] at he
   | true =>
    simp only [hb, hm, Cl.ids, Bool.and_self, cond_true] at he
    cases he
    obtain ⟨hfn, _⟩ := hc
    have hbm : b ∈ ids := subL_iff.1 hm b (by simp)
    obtain ⟨l, base, cap, hl⟩ := hbk
    refine call_core' (ids := ids) hzip hargs hb hobs fr hi hx fun B' hw hρ hF hi' hxs r K Q hK => ?_
    subst hw
    obtain ⟨fn, tmps, assign, body, hy, hr⟩ := hfn B' vs l base cap hF hi' hxs (by rw [hρ, restR, if_pos hbm]; exact hl)
    refine ⟨fun _ _ => trivial, ?_⟩
    rw [show o.semAt (FW r).round a.eval = execOp a.eval o from Oper.semAt_eq _ _ _ (fun c hc => by rw [hc] at hd; cases hd), hrun l base cap hl, hy, Oper.uponIn_round]
    refine ⟨fun hh => by simp [FW, Fence.wide] at hh, ?_⟩
    have hr' : RoundIn (FW r) (0 - 1) P l fn tmps assign body B'.w fun e w' => ∃ v, e = .returned v ∧ Post B' res hout v w' := hr
    refine hr'.mono ?_
    rintro e w2 ⟨v, rfl, hp⟩
    exact hK v w2 hp
  ·cases he
 ·cases he
 ·cases he
end
end Sg
