import Derived.Test.YtpndenfhglaikaaRng
set_option linter.all false
namespace Sg
open Go
def capC (l : List CV) (j : Nat) : CV := l.getD j (.d .nilp)
theorem capC_map (n : Nat) (f : Nat → CV) {j : Nat} (h : j < n) : capC ((List.range n).map f) j = f j := by
 simp [capC, List.getD_eq_getElem?_getD, h]
def CV.ren (σ : Nat → Nat) : CV → CV
 | .d x => .d x
 | .ptr b off => .ptr (σ b) off
 | .opt b e i off => .opt (σ b) e i off
 | .own b nn len => .own (σ b) nn len
 | .mp b => .mp (σ b)
 | .fn f nf n cap => .fn f nf n (capC ((List.range n).map fun j => (cap j).ren σ))
 | .yl b => .yl (σ b)
def SV.ren (σ : Nat → Nat) : SV → SV
 | .one c => .one (c.ren σ)
 | .agg cs => .agg (cs.map (CV.ren σ))
def TV.ren (σ : Nat → Nat) : TV → TV
 | .v s => .v (s.ren σ)
 | .tup l => .tup (l.map (SV.ren σ))
def Ob.ren (σ : Nat → Nat) : Ob → Ob
 | .cells E cs => .cells E (cs.map (CV.ren σ))
 | .fcells E ds => .fcells E ds
 | .arr E esz len el => .arr E esz len el
 | .rows E esz len el ov => .rows E esz len el (ov.map fun x => (x.1, x.2.1, x.2.2.ren σ))
 | .map m => .map { m with val := fun i j => (m.val i j).ren σ, ms := m.ms.map σ }
 | .loop r st sl => .loop r st (sl.map fun p => (p.1, p.2.ren σ))
 | .coll => .coll
def renH (σ : Nat → Nat) (h : List (Nat × Option Ob)) : List (Nat × Option Ob) := h.map fun p => (σ p.1, p.2.map (Ob.ren σ))
section
variable {ρ : Nat → Option Pl} {F : Nat → Prop} {w : World} {σ : Nat → Nat}
theorem repC_ren : ∀ {c : CV} {v : Value}, RepC ρ F w (c.ren σ) v ↔ RepC (fun x => ρ (σ x)) F w c v := by
 intro c
 induction c with
 | fn f nf n cap ih =>
  intro v
  constructor
  ·rintro ⟨vs, e, hl, h⟩
   refine ⟨vs, e, hl, fun j u hu => (ih j).1 ?_⟩
   have := h j u hu
   rwa [capC_map _ _ (by rw [← hl]; exact (List.getElem?_eq_some_iff.1 hu).1)] at this
  ·rintro ⟨vs, e, hl, h⟩
   refine ⟨vs, e, hl, fun j u hu => ?_⟩
   rw [capC_map _ _ (by rw [← hl]; exact (List.getElem?_eq_some_iff.1 hu).1)]
   exact (ih j).2 (h j u hu)
 | _ => intro v; exact Iff.rfl
theorem repL_ren : ∀ {cs : List CV} {vs : List Value}, RepL ρ F w (cs.map (CV.ren σ)) vs ↔ RepL (fun x => ρ (σ x)) F w cs vs
 | [], [] => Iff.rfl
 | _ :: _, _ :: _ => and_congr repC_ren repL_ren
 | [], _ :: _ => Iff.rfl
 | _ :: _, [] => Iff.rfl
theorem repS_ren : ∀ {s : SV} {v : Value}, RepS ρ F w (s.ren σ) v ↔ RepS (fun x => ρ (σ x)) F w s v
 | .one _, _ => repC_ren
 | .agg _, _ => ⟨fun ⟨vs, e, h⟩ => ⟨vs, e, repL_ren.1 h⟩, fun ⟨vs, e, h⟩ => ⟨vs, e, repL_ren.2 h⟩⟩
theorem repSs_ren : ∀ {cs : List SV} {vs : List Value}, RepSs ρ F w (cs.map (SV.ren σ)) vs ↔ RepSs (fun x => ρ (σ x)) F w cs vs
 | [], [] => Iff.rfl
 | _ :: _, _ :: _ => and_congr repS_ren repSs_ren
 | [], _ :: _ => Iff.rfl
 | _ :: _, [] => Iff.rfl
theorem repT_ren : ∀ {t : TV} {v : Value}, RepT ρ F w (t.ren σ) v ↔ RepT (fun x => ρ (σ x)) F w t v
 | .v _, _ => repS_ren
 | .tup _, _ => ⟨fun ⟨vs, e, h⟩ => ⟨vs, e, repSs_ren.1 h⟩, fun ⟨vs, e, h⟩ => ⟨vs, e, repSs_ren.2 h⟩⟩
theorem ment_ren : ∀ {c : CV} {x : Nat}, x ∈ (c.ren σ).ment ↔ ∃ y, y ∈ c.ment ∧ σ y = x := by
 intro c
 induction c with
 | d y => intro x; simp [CV.ren, CV.ment]
 | fn f nf n cap ih =>
  intro x
  simp only [CV.ren, CV.ment, List.mem_flatMap, List.mem_range]
  constructor
  ·rintro ⟨j, hj, h⟩
   rw [capC_map _ _ hj] at h
   obtain ⟨y, hy, e⟩ := (ih j).1 h; exact ⟨y, ⟨j, hj, hy⟩, e⟩
  ·rintro ⟨y, ⟨j, hj, hy⟩, e⟩
   refine ⟨j, hj, ?_⟩
   rw [capC_map _ _ hj]
   exact (ih j).2 ⟨y, hy, e⟩
 | _ => intro x; simp [CV.ren, CV.ment, eq_comm]
theorem get_map_slots {α β : Type} (f : α → β) : ∀ (l : List (Nat × α)) (t : Nat), get (l.map fun p => (p.1, f p.2)) t = (get l t).map f
 | [], _ => rfl
 | (k, x) :: l, t => by
  rw [List.map_cons, get_cons, get_cons, get_map_slots f l t]
  split <;> rfl
theorem takeV_ren (c : Nat → CV) : ∀ (i n : Nat), takeV (fun j => (c j).ren σ) i n = (takeV c i n).map (CV.ren σ)
 | _, 0 => rfl
 | i, n + 1 => by rw [takeV, takeV, List.map_cons, takeV_ren c (i + 1) n]
theorem asSV_ren (agg : Bool) (cs : List CV) : asSV agg (cs.map (CV.ren σ)) = (asSV agg cs).map (SV.ren σ) := by
 cases agg with
 | true => rfl
 | false => match cs with
  | [] => rfl
  | [_] => rfl
  | _ :: _ :: _ => rfl
theorem repA_ren {agg : Bool} {sz : Nat} {c : Nat → CV} {v : Value} : RepA ρ F w agg sz (fun j => (c j).ren σ) v ↔ RepA (fun x => ρ (σ x)) F w agg sz c v := by
 unfold RepA
 rw [takeV_ren, asSV_ren]
 constructor
 ·rintro ⟨s, e, h⟩
  cases hh : asSV agg (takeV c 0 sz) with
  | none => rw [hh] at e; cases e
  | some s' => rw [hh] at e; cases e; exact ⟨s', rfl, repS_ren.1 h⟩
 ·rintro ⟨s, e, h⟩
  rw [e]
  exact ⟨_, rfl, repS_ren.2 h⟩
theorem repW_ren {S : Nat → Prop} {rb : Nat → Nat → Option Nat} {el : Nat → Nat → EV} {ov : Option (Nat × Nat × CV)} {i j : Nat} {v : Value} :
  RepW ρ F w S rb el (ov.map fun x => (x.1, x.2.1, x.2.2.ren σ)) i j v ↔ RepW (fun x => ρ (σ x)) F w S rb el ov i j v := by
 unfold RepW
 cases ov with
 | none => exact Iff.rfl
 | some x =>
  simp only [Option.map_some]
  split
  ·exact repC_ren
  ·exact Iff.rfl
theorem repO_ren (hσ : ∀ x y, σ x = σ y → x = y) {S : Nat → Prop} {b : Nat} {ob : Ob} : RepO ρ F w S (σ b) (ob.ren σ) ↔ RepO (fun x => ρ (σ x)) F w S b ob := by
 cases ob with
 | cells E cs =>
  constructor
  ·rintro ⟨k, cap, vs, h1, h2, h3, h4⟩; exact ⟨k, cap, vs, h1, h2, h3, repL_ren.1 h4⟩
  ·rintro ⟨k, cap, vs, h1, h2, h3, h4⟩; exact ⟨k, cap, vs, h1, h2, h3, repL_ren.2 h4⟩
 | fcells E ds => exact Iff.rfl
 | arr E esz len el => exact Iff.rfl
 | rows E esz len el ov =>
  constructor
  ·rintro (h | ⟨k, base, cap, vs, rb, h1, h2, h3, h4, h5, h6, h7, h8, h9⟩)
   ·exact .inl h
   ·exact .inr ⟨k, base, cap, vs, rb, h1, h2, h3, h4, h5, h6, fun i hi j hj => by obtain ⟨u, hu, hr⟩ := h7 i hi j hj; exact ⟨u, hu, repW_ren.1 hr⟩, h8, h9⟩
  ·rintro (h | ⟨k, base, cap, vs, rb, h1, h2, h3, h4, h5, h6, h7, h8, h9⟩)
   ·exact .inl h
   ·exact .inr ⟨k, base, cap, vs, rb, h1, h2, h3, h4, h5, h6, fun i hi j hj => by obtain ⟨u, hu, hr⟩ := h7 i hi j hj; exact ⟨u, hu, repW_ren.2 hr⟩, h8, h9⟩
 | map m =>
  have hk : ∀ i v, RepA ρ F w m.kagg m.ksz (fun j => .d (m.key i j)) v ↔ RepA (fun x => ρ (σ x)) F w m.kagg m.ksz (fun j => .d (m.key i j)) v := fun i v => repA_ren (c := fun j => .d (m.key i j))
  constructor
  ·rintro ⟨k, base, cap, es, h1, h2, h3, h4, h5, h6⟩
   refine ⟨k, base, cap, es, h1, h2, h3, h4, fun i hi j hj x hx => ?_, fun i hi => ?_⟩
   ·obtain ⟨y, hy, e⟩ := List.mem_map.1 (h5 i hi j hj (σ x) (ment_ren.2 ⟨x, hx, rfl⟩))
    rw [← hσ _ _ e]; exact hy
   ·obtain ⟨e, g1, g2, g3, g4⟩ := h6 i hi; exact ⟨e, g1, g2, (hk _ _).1 g3, repA_ren.1 g4⟩
  ·rintro ⟨k, base, cap, es, h1, h2, h3, h4, h5, h6⟩
   refine ⟨k, base, cap, es, h1, h2, h3, h4, fun i hi j hj x hx => ?_, fun i hi => ?_⟩
   ·obtain ⟨y, hy, e⟩ := ment_ren.1 hx
    exact List.mem_map.2 ⟨y, h5 i hi j hj y hy, e⟩
   ·obtain ⟨e, g1, g2, g3, g4⟩ := h6 i hi; exact ⟨e, g1, g2, (hk _ _).2 g3, repA_ren.2 g4⟩
 | loop r st sl =>
  constructor
  ·rintro ⟨k, base, cap, fn, tmps, D, h1, h2, h3, h4, h5, h6⟩
   refine ⟨k, base, cap, fn, tmps, D, h1, h2, h3, h4, h5, fun t tv ht => ?_⟩
   obtain ⟨v, hv, hr⟩ := h6 t (tv.ren σ) (by rw [get_map_slots, ht]; rfl)
   exact ⟨v, hv, repT_ren.1 hr⟩
  ·rintro ⟨k, base, cap, fn, tmps, D, h1, h2, h3, h4, h5, h6⟩
   refine ⟨k, base, cap, fn, tmps, D, h1, h2, h3, h4, h5, fun t tv ht => ?_⟩
   rw [get_map_slots] at ht
   cases hg : get sl t with
   | none => rw [hg] at ht; cases ht
   | some tv' => rw [hg] at ht; cases ht; obtain ⟨v, hv, hr⟩ := h6 t tv' hg; exact ⟨v, hv, repT_ren.2 hr⟩
 | coll => exact Iff.rfl
end
structure Rn (σ τ : Nat → Nat) : Prop where
 st : ∀ x, σ (τ x) = x
 ts : ∀ x, τ (σ x) = x
theorem Rn.inj {σ τ : Nat → Nat} (r : Rn σ τ) {x y : Nat} (h : σ x = σ y) : x = y := by rw [← r.ts x, h, r.ts]
theorem get_renH {σ τ : Nat → Nat} (r : Rn σ τ) : ∀ (h : List (Nat × Option Ob)) (b : Nat), get (renH σ h) (σ b) = (get h b).map (Option.map (Ob.ren σ))
 | [], _ => rfl
 | (k, x) :: h, b => by
  show get ((σ k, x.map (Ob.ren σ)) :: renH σ h) (σ b) = _
  rw [get_cons, get_cons, get_renH r h b]
  by_cases e : k = b
  ·rw [if_pos e, if_pos (by rw [e])]; rfl
  ·rw [if_neg e, if_neg (fun e' => e (r.inj e'))]
theorem hi_ren {σ τ : Nat → Nat} (r : Rn σ τ) {B : Base} {ρ0 : Nat → Option Pl} {ρ : Nat → Option Pl} {F : Nat → Prop} {w : World} {h : List (Nat × Option Ob)} :
  HI B ρ F w (hpOf (renH σ h)) ↔ HI { B with ρ := ρ0 } (fun x => ρ (σ x)) F w (hpOf h) := by
 have hg : ∀ b, hpOf (renH σ h) (σ b) = (hpOf h b).map (Option.map (Ob.ren σ)) := get_renH r h
 have hg' : ∀ b, hpOf (renH σ h) b = (hpOf h (τ b)).map (Option.map (Ob.ren σ)) := fun b => by rw [← hg, r.st]
 have key : ∀ b ob, hpOf h b = some (some ob) → hpOf (renH σ h) (σ b) = some (some (ob.ren σ)) := fun b ob hh => by rw [hg, hh]; rfl
 have key' : ∀ b ob', hpOf (renH σ h) b = some (some ob') → ∃ ob, hpOf h (τ b) = some (some ob) ∧ ob' = ob.ren σ := fun b ob' hh => by
  rw [hg'] at hh
  cases h1 : hpOf h (τ b) with
  | none => rw [h1] at hh; cases hh
  | some o => cases o with
   | none => rw [h1] at hh; cases hh
   | some ob => rw [h1] at hh; cases hh; exact ⟨ob, rfl, rfl⟩
 constructor
 ·rintro ⟨ft, hi⟩
  refine ⟨fun b => ft (σ b), fun b ob hh => (repO_ren fun _ _ => r.inj).1 (hi.obj _ _ (key b ob hh)), fun b ob k hh hk => hi.blk _ _ k (key b ob hh) hk, fun b b' ob ob' k h1 h2 k1 k2 => r.inj (hi.dis _ _ _ _ k (key _ _ h1) (key _ _ h2) k1 k2), fun b hb => hi.fresh _ ?_⟩
  rw [hg, hb]; rfl
 ·rintro ⟨ft, hi⟩
  refine ⟨fun b => ft (τ b), fun b ob' hh => ?_, fun b ob' k hh hk => ?_, fun b b' ob ob' k h1 h2 k1 k2 => ?_, fun b hb => ?_⟩
  ·obtain ⟨ob, h1, rfl⟩ := key' b ob' hh
   have := (repO_ren fun _ _ => r.inj).2 (hi.obj _ _ h1)
   rwa [r.st] at this
  ·obtain ⟨ob, h1, rfl⟩ := key' b ob' hh
   exact hi.blk _ _ k h1 hk
  ·obtain ⟨o1, g1, _⟩ := key' b ob h1
   obtain ⟨o2, g2, _⟩ := key' b' ob' h2
   have := hi.dis _ _ _ _ k g1 g2 k1 k2
   rw [← r.st b, this, r.st]
  ·have := hi.fresh (τ b) (by
    have := hg' b; rw [hb] at this
    cases h1 : hpOf h (τ b) with
    | none => rfl
    | some o => rw [h1] at this; cases this)
   simpa [r.st] using this
theorem Fn.ren {σ τ : Nat → Nat} (r : Rn σ τ) {P : Program} {f : FuncId} {args : List SV} {hin hout : List (Nat × Option Ob)} {res : TV} (h : Fn P f args hin res hout) :
  Fn P f (args.map (SV.ren σ)) (renH σ hin) (res.ren σ) (renH σ hout) := by
 refine ⟨h.1, fun B vs hF hi hr => ?_⟩
 have hc := h.2 { B with ρ := fun x => B.ρ (σ x) } vs hF ((hi_ren r).1 hi) (repSs_ren (σ := σ).1 hr)
 refine Calls.mono hc ?_
 rintro e w' ⟨v, ρ', F', rfl, hf, h1, h2⟩
 refine ⟨v, fun x => ρ' (τ x), F', rfl, ?_, ?_, ?_⟩
 ·refine ⟨hf.os, hf.tape, hf.output, hf.size, hf.mem, fun b p hb => hf.rho (τ b) p ?_, hf.fz, hf.bf⟩
  show B.ρ (σ (τ b)) = some p
  rw [r.st]; exact hb
 ·refine (hi_ren (ρ0 := fun x => B.ρ (σ x)) r).2 ?_
  have : (fun x => (fun x => ρ' (τ x)) (σ x)) = ρ' := by funext x; simp [r.ts]
  rw [this]; exact h1
 ·refine repT_ren.2 ?_
  have : (fun x => (fun x => ρ' (τ x)) (σ x)) = ρ' := by funext x; simp [r.ts]
  rw [this]; exact h2
def sw (a b x : Nat) : Nat := bif Nat.beq x a then b else bif Nat.beq x b then a else x
def swp : List (Nat × Nat) → Nat → Nat
 | [], x => x
 | (a, b) :: l, x => swp l (sw a b x)
def unswp : List (Nat × Nat) → Nat → Nat
 | [], x => x
 | (a, b) :: l, x => sw a b (unswp l x)
theorem sw_eq (a b x : Nat) : sw a b x = if x = a then b else if x = b then a else x := by
 unfold sw
 cases h : Nat.beq x a with
 | true => rw [if_pos (Nat.eq_of_beq_eq_true h)]; rfl
 | false =>
  rw [if_neg (Nat.ne_of_beq_eq_false h)]
  cases h' : Nat.beq x b with
  | true => rw [if_pos (Nat.eq_of_beq_eq_true h')]; rfl
  | false => rw [if_neg (Nat.ne_of_beq_eq_false h')]; rfl
theorem sw_sw (a b x : Nat) : sw a b (sw a b x) = x := by
 rw [sw_eq a b x]
 by_cases h1 : x = a
 ·rw [if_pos h1, sw_eq]
  by_cases h3 : b = a
  ·rw [if_pos h3, h1, h3]
  ·rw [if_neg h3, if_pos rfl, h1]
 ·rw [if_neg h1]
  by_cases h2 : x = b
  ·rw [if_pos h2, sw_eq, if_pos rfl, h2]
  ·rw [if_neg h2, sw_eq, if_neg h1, if_neg h2]
theorem swp_rn : ∀ l : List (Nat × Nat), Rn (swp l) (unswp l)
 | [] => ⟨fun _ => rfl, fun _ => rfl⟩
 | (a, b) :: l => ⟨fun x => by show swp l (sw a b (sw a b (unswp l x))) = x; rw [sw_sw, (swp_rn l).st], fun x => by show sw a b (unswp l (swp l (sw a b x))) = x; rw [(swp_rn l).ts, sw_sw]⟩
theorem Fn.renK {P : Program} {f : FuncId} {args args' : List SV} {hin hin' hout hout' : List (Nat × Option Ob)} {res res' : TV} (l : List (Nat × Nat)) (h : Fn P f args hin res hout)
  (e1 : args.map (SV.ren (swp l)) = args') (e2 : renH (swp l) hin = hin') (e3 : res.ren (swp l) = res') (e4 : renH (swp l) hout = hout') : Fn P f args' hin' res' hout' := by
 subst e1; subst e2; subst e3; subst e4
 exact h.ren (swp_rn l)
end Sg
