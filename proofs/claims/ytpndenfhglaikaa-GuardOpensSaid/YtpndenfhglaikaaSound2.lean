import Derived.Test.YtpndenfhglaikaaSound
set_option linter.all false
namespace Sg
open Go
section
variable {P : Program} {B : Base} {ρ ρ' : Nat → Option Pl} {F F' : Nat → Prop} {w w' : World} {h : Hp} {o : Oper} {a : Act}
theorem RepD.oneCell : ∀ {x : DV} {v : Value}, RepD F w x v → v.oneCell' = true
 | .int _ _, _, e => by cases e; rfl
 | .bool _, _, e => by cases e; rfl
 | .str _, _, e => by cases e; rfl
 | .nilp, _, e => by cases e; rfl
 | .nilf, _, e => by cases e; rfl
 | .nilm, _, e => by cases e; rfl
 | .sl _ _ _ _, _, ⟨_, _, e, _⟩ => by cases e; rfl
 | .ip _ _, _, ⟨_, e, _⟩ => by cases e; rfl
 | .fn _ _ _, _, ⟨_, e, _⟩ => by cases e; rfl
theorem RepC.oneCell : ∀ {c : CV} {v : Value}, RepC ρ F w c v → v.oneCell' = true
 | .d _, _, e => RepD.oneCell e
 | .ptr _ _, _, ⟨_, _, _, _, e⟩ => by cases e; rfl
 | .opt _ _ _ _, _, ⟨_, _, _, _, e⟩ => by cases e; rfl
 | .own _ _ _, _, .inl ⟨_, _, _, _, e⟩ => by cases e; rfl
 | .own _ _ _, _, .inr ⟨_, _, _, e⟩ => by cases e; rfl
 | .mp _, _, ⟨_, _, _, _, e⟩ => by cases e; rfl
 | .fn _ _ _ _, _, ⟨_, e, _⟩ => by cases e; rfl
 | .yl _, _, ⟨_, _, _, _, e⟩ => by cases e; rfl
theorem RepL.oneCell : ∀ {cs : List CV} {vs : List Value}, RepL ρ F w cs vs → ∀ u ∈ vs, u.oneCell' = true
 | [], [], _, _, h => by simp at h
 | _ :: _, _ :: _, ⟨h, t⟩, u, hu => by
  rcases List.mem_cons.1 hu with rfl | hu
  ·exact h.oneCell
  ·exact RepL.oneCell t u hu
 | [], _ :: _, h, _, _ => h.elim
 | _ :: _, [], h, _, _ => h.elim
theorem cells_oneCell {v : Value} (h : v.oneCell' = true) : v.cells = #[v] := by cases v <;> first | rfl | cases h
theorem RepS.cells : ∀ {s : SV} {v : Value}, RepS ρ F w s v → RepL ρ F w (cellsOf s) v.cells.toList
 | .one c, v, h => by rw [cells_oneCell (RepC.oneCell h)]; exact ⟨h, trivial⟩
 | .agg cs, _, ⟨vs, e, h⟩ => by subst e; exact h
theorem RowAt.keep {k base cap E esz len : Nat} {el : Nat → Nat → DV} (g : Gr ρ F w ρ' F' w') (hb : w'.heap[k]? = w.heap[k]?) (h : RowAt F w k base cap E esz len el) : RowAt F' w' k base cap E esz len el := by
 obtain ⟨vs, h1, h2, h3, h4, h5⟩ := h
 exact ⟨vs, hb ▸ h1, h2, h3, h4, fun i hi j hj => by obtain ⟨u, hu, hr⟩ := h5 i hi j hj; exact ⟨u, hu, RepD.gr g.fz g.mem hr⟩⟩
theorem RepV.keep {S S' : Nat → Prop} (g : Gr ρ F w ρ' F' w') (hS : ∀ k, S k → S' k) (hb : ∀ k, S k → w'.heap[k]? = w.heap[k]?) {rb : Option Nat} : ∀ {x : EV} {v : Value}, RepV F w S rb x v → RepV F' w' S' rb x v
 | .d _, _, h => RepD.gr g.fz g.mem h
 | .row _ _ _ _, _, .inl h => .inl h
 | .row _ _ _ _, _, .inr ⟨k, base, cap, h1, h2, h3, h4⟩ => .inr ⟨k, base, cap, h1, hS k h2, h3, h4.keep g (hb k h2)⟩
theorem RepW.keep {S S' : Nat → Prop} (g : Gr ρ F w ρ' F' w') (hS : ∀ k, S k → S' k) (hb : ∀ k, S k → w'.heap[k]? = w.heap[k]?) {rb : Nat → Nat → Option Nat} {el : Nat → Nat → EV} {ov : Option (Nat × Nat × CV)} {i j : Nat} {v : Value}
  (h : RepW ρ F w S rb el ov i j v) : RepW ρ' F' w' S' rb el ov i j v := by
 unfold RepW at h ⊢
 split
 ·exact RepV.keep g hS hb h
 ·rename_i i0 j0 c
  by_cases e : i = i0 ∧ j = j0
  ·rw [if_pos e]; simp only [if_pos e] at h; exact h.gr g
  ·rw [if_neg e]; simp only [if_neg e] at h; exact RepV.keep g hS hb h
theorem RepA.keep (g : Gr ρ F w ρ' F' w') {agg : Bool} {sz : Nat} {c : Nat → CV} {v : Value} (h : RepA ρ F w agg sz c v) : RepA ρ' F' w' agg sz c v := by
 obtain ⟨s, h1, h2⟩ := h
 exact ⟨s, h1, h2.gr g⟩
theorem RepO.keep {S S' : Nat → Prop} (g : Gr ρ F w ρ' F' w') (hS : ∀ k, S k → S' k) {b : Nat} (hb : ∀ k, S k → w'.heap[k]? = w.heap[k]?) : ∀ {ob : Ob}, RepO ρ F w S b ob → RepO ρ' F' w' S' b ob
 | .cells _ _, ⟨k, cap, vs, h1, h0, h2, h3⟩ => ⟨k, cap, vs, g.rho _ _ h1, hS k h0, by rw [hb k h0]; exact h2, h3.gr g⟩
 | .fcells _ _, ⟨k, base, cap, h1, h2⟩ => ⟨k, base, cap, g.rho _ _ h1, fun j x hx => by
   obtain ⟨hf, u, hu, hr⟩ := h2 j x hx
   exact ⟨g.fz _ hf, u, by rw [cell_of_heap (g.mem _ hf)]; exact hu, RepD.gr g.fz g.mem hr⟩⟩
 | .arr _ _ _ _, .inl ⟨h1, h2⟩ => .inl ⟨g.rho _ _ h1, h2⟩
 | .arr _ _ _ _, .inr ⟨k, base, cap, h1, h0, h2⟩ => .inr ⟨k, base, cap, g.rho _ _ h1, hS k h0, h2.keep g (hb k h0)⟩
 | .rows _ _ _ _ _, .inl ⟨h1, h2⟩ => .inl ⟨g.rho _ _ h1, h2⟩
 | .rows _ _ _ _ _, .inr ⟨k, base, cap, vs, rb, h1, h0, h2, h3, h4, h5, h6, h7, h8⟩ => .inr ⟨k, base, cap, vs, rb, g.rho _ _ h1, hS k h0, by rw [hb k h0]; exact h2, h3, h4, h5, fun i hi j hj => by
   obtain ⟨u, hu, hr⟩ := h6 i hi j hj
   exact ⟨u, hu, hr.keep g hS hb⟩, h7, h8⟩
 | .map _, ⟨k, base, cap, es, h1, h0, h2, h3, h5, h4⟩ => ⟨k, base, cap, es, g.rho _ _ h1, hS k h0, by rw [hb k h0]; exact h2, h3, h5, fun i hi => by
   obtain ⟨e, e1, e2, e3, e4⟩ := h4 i hi
   exact ⟨e, e1, e2, e3.keep g, e4.keep g⟩⟩
 | .loop _ _ _, ⟨k, base, cap, fn, tmps, D, h1, h0, h2, h3, h4, h5⟩ => ⟨k, base, cap, fn, tmps, D, g.rho _ _ h1, hS k h0, h2, by rw [hb k h0]; exact h3, h4, fun t tv ht => by
   obtain ⟨v, e1, e2⟩ := h5 t tv ht
   exact ⟨v, e1, e2.gr g⟩⟩
 | .coll, ⟨k, base, cap, h1, h0, h2⟩ => ⟨k, base, cap, g.rho _ _ h1, hS k h0, by rw [hb k h0]; exact h2⟩
theorem HIf.step {h' : Hp} {ft ft' : Nat → Nat → Prop} (hi : HIf B ρ F w h ft) (g : Gr ρ F w ρ' F' w') (fr : Fr B ρ F w) (hsz : w.heap.size ≤ w'.heap.size) (C : Nat → Prop)
  (hk : ∀ b ob, ¬ C b → h' b = some (some ob) → h b = some (some ob) ∧ (∀ k, ft b k → w'.heap[k]? = w.heap[k]?) ∧ ∀ k, ft' b k ↔ ft b k)
  (hc : ∀ b ob, C b → h' b = some (some ob) → RepO ρ' F' w' (ft' b) b ob)
  (hcf : ∀ b ob k, C b → h' b = some (some ob) → ft' b k → (∃ b0 ob0, C b0 ∧ h b0 = some (some ob0) ∧ ft b0 k) ∨ (w.heap.size ≤ k ∧ k < w'.heap.size))
  (hdis : ∀ b b' ob ob' k, C b → C b' → h' b = some (some ob) → h' b' = some (some ob') → ft' b k → ft' b' k → b = b')
  (hF : ∀ k, F' k → F k ∨ ((∃ b0 ob0, C b0 ∧ h b0 = some (some ob0) ∧ ft b0 k) ∧ ∀ b ob, C b → h' b = some (some ob) → ¬ ft' b k) ∨ (w.heap.size ≤ k ∧ ∀ b ob, C b → h' b = some (some ob) → ¬ ft' b k))
  (hfresh : ∀ b, h' b = none → ρ' b = none) : HIf B ρ' F' w' h' ft' := by
 have old : ∀ b ob k, C b → h' b = some (some ob) → ft' b k → (∃ b0 ob0, C b0 ∧ h b0 = some (some ob0) ∧ ft b0 k ∧ k < w.heap.size ∧ ¬ F k ∧ (B.Ft k ∨ B.w.heap.size ≤ k)) ∨ (w.heap.size ≤ k ∧ k < w'.heap.size) := fun b ob k hb hh hf => by
  rcases hcf b ob k hb hh hf with ⟨b0, ob0, c0, e0, f0⟩ | hn
  ·obtain ⟨x, y, z⟩ := hi.blk b0 ob0 k e0 f0; exact .inl ⟨b0, ob0, c0, e0, f0, x, y, z⟩
  ·exact .inr hn
 refine ⟨fun b ob hb => ?_, fun b ob k hb hf => ?_, fun b1 b2 o1 o2 k h1 h2 f1 f2 => ?_, hfresh⟩
 ·by_cases c : C b
  ·exact hc b ob c hb
  ·obtain ⟨e1, e2, e3⟩ := hk b ob c hb
   exact (hi.obj b ob e1).keep g (fun k hk => (e3 k).2 hk) e2
 ·by_cases c : C b
  ·rcases old b ob k c hb hf with ⟨b0, ob0, c0, e0, f0, x, y, z⟩ | ⟨x, y⟩
   ·refine ⟨by omega, fun hf' => ?_, z⟩
    rcases hF k hf' with q | ⟨_, q⟩ | ⟨_, q⟩
    ·exact y q
    ·exact q b ob c hb hf
    ·exact q b ob c hb hf
   ·have hBs := fr.size
    refine ⟨y, fun hf' => ?_, .inr (by omega)⟩
    rcases hF k hf' with q | ⟨_, q⟩ | ⟨_, q⟩
    ·have := (fr.fz k q).1; omega
    ·exact q b ob c hb hf
    ·exact q b ob c hb hf
  ·obtain ⟨e1, e2, e3⟩ := hk b ob c hb
   obtain ⟨x, y, z⟩ := hi.blk b ob k e1 ((e3 k).1 hf)
   refine ⟨by omega, fun hf' => ?_, z⟩
   rcases hF k hf' with q | ⟨⟨b0, ob0, c0, e0, f0⟩, _⟩ | ⟨q, _⟩
   ·exact y q
   ·exact c (hi.dis b b0 ob ob0 k e1 e0 ((e3 k).1 hf) f0 ▸ c0)
   ·omega
 ·by_cases c1 : C b1 <;> by_cases c2 : C b2
  ·exact hdis b1 b2 o1 o2 k c1 c2 h1 h2 f1 f2
  ·obtain ⟨e1, e2, e3⟩ := hk b2 o2 c2 h2
   rcases old b1 o1 k c1 h1 f1 with ⟨b0, ob0, c0, e0, f0, _⟩ | ⟨x, y⟩
   ·exact absurd (hi.dis b2 b0 o2 ob0 k e1 e0 ((e3 k).1 f2) f0 ▸ c0) c2
   ·have := (hi.blk b2 o2 k e1 ((e3 k).1 f2)).1; omega
  ·obtain ⟨e1, e2, e3⟩ := hk b1 o1 c1 h1
   rcases old b2 o2 k c2 h2 f2 with ⟨b0, ob0, c0, e0, f0, _⟩ | ⟨x, y⟩
   ·exact absurd (hi.dis b1 b0 o1 ob0 k e1 e0 ((e3 k).1 f1) f0 ▸ c0) c1
   ·have := (hi.blk b1 o1 k e1 ((e3 k).1 f1)).1; omega
  ·obtain ⟨e1, _, e3⟩ := hk b1 o1 c1 h1
   obtain ⟨e2, _, e4⟩ := hk b2 o2 c2 h2
   exact hi.dis b1 b2 o1 o2 k e1 e2 ((e3 k).1 f1) ((e4 k).1 f2)
def updR (ρ : Nat → Option Pl) (b : Nat) (p : Pl) : Nat → Option Pl := fun b' => if b' = b then some p else ρ b'
theorem updR_same (b : Nat) (p : Pl) : updR ρ b p b = some p := by simp [updR]
theorem updR_mono {b : Nat} {p : Pl} (hb : ρ b = none) : ∀ b' p', ρ b' = some p' → updR ρ b p b' = some p' := by
 intro b' p' h
 unfold updR
 split
 ·rename_i e; subst e; rw [hb] at h; cases h
 ·exact h
structure Push (w w' : World) (ob : Obj) : Prop where
 heap : w'.heap = w.heap.push ob
 os : w'.os = w.os
 tape : w'.tape = w.tape
 output : w'.output = w.output
theorem Push.alloc (w : World) (ob : Obj) : Push w (w.alloc ob) ob := ⟨rfl, rfl, rfl, rfl⟩
theorem Push.drew_alloc (w : World) (ob : Obj) : Push w (w.drew.alloc ob) ob := ⟨rfl, rfl, rfl, rfl⟩
theorem Push.old {ob : Obj} (p : Push w w' ob) {k : Nat} (hk : k < w.heap.size) : w'.heap[k]? = w.heap[k]? := by
 rw [p.heap, Array.getElem?_push]; split
 ·omega
 ·rfl
theorem Push.new {ob : Obj} (p : Push w w' ob) : w'.heap[w.heap.size]? = some ob := by rw [p.heap]; simp
theorem Push.sz {ob : Obj} (p : Push w w' ob) : w'.heap.size = w.heap.size + 1 := by rw [p.heap]; simp
theorem Push.gr {ob : Obj} (p : Push w w' ob) (fr : Fr B ρ F w) {b : Nat} {pl : Pl} (hb : ρ b = none) : Gr ρ F w (updR ρ b pl) F w' :=
 ⟨updR_mono hb, fun _ h => h, fun k hk => p.old (fr.fz k hk).1⟩
theorem Push.fr {ob : Obj} (p : Push w w' ob) (fr : Fr B ρ F w) {b : Nat} {pl : Pl} (hb : ρ b = none) : Fr B (updR ρ b pl) F w' where
 os := p.os.trans fr.os
 tape := p.tape.trans fr.tape
 output := p.output.trans fr.output
 size := by have := fr.size; rw [p.sz]; omega
 mem := fun k hk hn => (p.old (by have := fr.size; omega)).trans (fr.mem k hk hn)
 rho := fun b' p' e => updR_mono hb b' p' (fr.rho b' p' e)
 fz := fun k hk => ⟨by have := (fr.fz k hk).1; rw [p.sz]; omega, (fr.fz k hk).2⟩
 bf := fr.bf
theorem upd_one (b : Nat) (x : Option Ob) (b' : Nat) : upd h [(b, x)] b' = if b = b' then some x else h b' := by
 by_cases e : b = b' <;> simp [upd, get_cons, get_nil, e]
theorem upd_two (b : Nat) (x : Option Ob) (c : Nat) (y : Option Ob) (b' : Nat) : upd h [(b, x), (c, y)] b' = if b = b' then some x else if c = b' then some y else h b' := by
 by_cases e : b = b' <;> by_cases e' : c = b' <;> simp [upd, get_cons, get_nil, e, e']
theorem upd_get {hd : List (Nat × Option Ob)} {b : Nat} : upd h hd b = match get hd b with | some o => some o | none => h b := rfl
def setF (ft : Nat → Nat → Prop) (b : Nat) (S : Nat → Prop) : Nat → Nat → Prop := fun b' => if b' = b then S else ft b'
theorem setF_same (ft : Nat → Nat → Prop) (b : Nat) (S : Nat → Prop) : setF ft b S b = S := by simp [setF]
theorem setF_ne {ft : Nat → Nat → Prop} {b b' : Nat} {S : Nat → Prop} (e : b' ≠ b) : setF ft b S b' = ft b' := by simp [setF, e]
theorem Push.hi {ob : Obj} (p : Push w w' ob) (fr : Fr B ρ F w) (hi : HI B ρ F w h) {b base cap : Nat} {nob : Ob} (hb : h b = none)
  (hr : RepO (updR ρ b (.blk w.heap.size base cap)) F w' (fun k => k = w.heap.size) b nob) : HI B (updR ρ b (.blk w.heap.size base cap)) F w' (upd h [(b, some nob)]) := by
 have hρ := hi.fresh b hb
 obtain ⟨ft, hi⟩ := hi
 have g := p.gr fr (pl := .blk w.heap.size base cap) hρ
 have hu : ∀ b', upd h [(b, some nob)] b' = if b = b' then some (some nob) else h b' := fun b' => upd_one _ _ _
 have hns : ∀ ob0, ¬ h b = some (some ob0) := fun ob0 e => by rw [hb] at e; cases e
 refine ⟨setF ft b fun k => k = w.heap.size, hi.step g fr (by rw [p.sz]; omega) (fun b' => b' = b) (fun b' ob' e hh => ?_) (fun b' ob' e hh => ?_) (fun b' ob' k e hh hf => ?_) (fun b1 b2 o1 o2 k e1 e2 _ _ _ _ => e1.trans e2.symm) (fun k hk => .inl hk) fun b' hh => ?_⟩
 ·rw [hu, if_neg (Ne.symm e)] at hh
  refine ⟨hh, fun k hk => p.old (hi.blk b' ob' k hh hk).1, fun k => by rw [setF_ne e]⟩
 ·subst e; rw [hu, if_pos rfl] at hh; cases hh; rw [setF_same]; exact hr
 ·subst e; rw [setF_same] at hf; subst hf; exact .inr ⟨Nat.le_refl _, by rw [p.sz]; omega⟩
 ·rw [hu] at hh
  split at hh
  ·cases hh
  ·rename_i e; rw [show updR ρ b (.blk w.heap.size base cap) b' = ρ b' by simp [updR, Ne.symm e]]; exact hi.fresh b' hh
structure Put (w w' : World) (k : Nat) : Prop where
 size : w'.heap.size = w.heap.size
 old : ∀ j, j ≠ k → w'.heap[j]? = w.heap[j]?
 os : w'.os = w.os
 tape : w'.tape = w.tape
 output : w'.output = w.output
theorem Put.setRow (w : World) (k : Nat) (cs : Array Value) : Put w (w.setRow k cs) k := ⟨by simp, fun j hj => setRow_other w k j cs hj, rfl, rfl, rfl⟩
theorem Put.gr {k : Nat} (p : Put w w' k) (hk : ¬ F k) : Gr ρ F w ρ F w' := ⟨fun _ _ h => h, fun _ h => h, fun j hj => p.old j fun e => hk (e ▸ hj)⟩
theorem Put.fr {k : Nat} (p : Put w w' k) (fr : Fr B ρ F w) (ho : B.Ft k ∨ B.w.heap.size ≤ k) : Fr B ρ F w' where
 os := p.os.trans fr.os
 tape := p.tape.trans fr.tape
 output := p.output.trans fr.output
 size := by rw [p.size]; exact fr.size
 mem := fun j hj hn => (p.old j fun e => by
  subst e
  rcases ho with hb | hle
  ·exact hn hb
  ·omega).trans (fr.mem j hj hn)
 rho := fr.rho
 fz := fun j hj => by rw [p.size]; exact fr.fz j hj
 bf := fr.bf
theorem Put.hi {k : Nat} (p : Put w w' k) (fr : Fr B ρ F w) {ft : Nat → Nat → Prop} (hi : HIf B ρ F w h ft) {b : Nat} {ob nob : Ob} {S : Nat → Prop} (hb : h b = some (some ob)) (hk : ft b k) (hS : ∀ k, S k → ft b k)
  (hr : RepO ρ F w' S b nob) : HIf B ρ F w' (upd h [(b, some nob)]) (setF ft b S) := by
 have hkk := (hi.blk b ob k hb hk).2.1
 have hu : ∀ b', upd h [(b, some nob)] b' = if b = b' then some (some nob) else h b' := fun b' => upd_one _ _ _
 refine hi.step (p.gr hkk) fr (by rw [p.size]; omega) (fun b' => b' = b) (fun b' ob' e hh => ?_) (fun b' ob' e hh => ?_) (fun b' ob' k e hh hf => ?_) (fun b1 b2 o1 o2 k e1 e2 _ _ _ _ => e1.trans e2.symm) (fun k hk => .inl hk) fun b' hh => ?_
 ·rw [hu, if_neg (Ne.symm e)] at hh
  exact ⟨hh, fun k' hk' => p.old k' fun e' => e (hi.dis b' b ob' ob k hh hb (e' ▸ hk') hk), fun k => by rw [setF_ne e]⟩
 ·subst e; rw [hu, if_pos rfl] at hh; cases hh; rw [setF_same]; exact hr
 ·subst e; rw [setF_same] at hf; exact .inl ⟨b', ob, rfl, hb, hS k hf⟩
 ·rw [hu] at hh
  split at hh
  ·cases hh
  ·exact hi.fresh b' hh
theorem HIf.drop {ft : Nat → Nat → Prop} (hi : HIf B ρ F w h ft) (b : Nat) : HIf B ρ F w (upd h [(b, none)]) ft := by
 have hu : ∀ b', upd h [(b, none)] b' = if b = b' then some none else h b' := by
  intro b'; exact upd_one _ _ _
 have hne : ∀ b' ob', upd h [(b, none)] b' = some (some ob') → h b' = some (some ob') := fun b' ob' hh => by
  rw [hu] at hh; split at hh
  ·cases hh
  ·exact hh
 refine ⟨fun b' ob' hh => hi.obj b' ob' (hne _ _ hh), fun b' ob' k hh => hi.blk b' ob' k (hne _ _ hh), fun b1 b2 o1 o2 k h1 h2 => hi.dis b1 b2 o1 o2 k (hne _ _ h1) (hne _ _ h2), fun b' hh => ?_⟩
 rw [hu] at hh; split at hh
 ·cases hh
 ·exact hi.fresh b' hh
theorem HI.drop (hi : HI B ρ F w h) (b : Nat) : HI B ρ F w (upd h [(b, none)]) := by
 obtain ⟨ft, hi⟩ := hi; exact ⟨ft, hi.drop b⟩
theorem takeC_length (c : Nat → DV) : ∀ i n, (takeC c i n).length = n
 | _, 0 => rfl
 | i, n + 1 => by simp [takeC, takeC_length c (i + 1) n]
theorem takeC_get (c : Nat → DV) : ∀ i n j x, (takeC c i n)[j]? = some x → j < n ∧ x = .d (c (i + j))
 | _, 0, j, x, h => by simp [takeC] at h
 | i, n + 1, j, x, h => by
  cases j with
  | zero => simp [takeC] at h; exact ⟨by omega, h.symm⟩
  | succ j =>
   simp [takeC] at h
   obtain ⟨h1, h2⟩ := takeC_get c (i + 1) n j x h
   exact ⟨by omega, by rw [h2]; congr 2; omega⟩
end
end Sg
