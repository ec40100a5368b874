import Derived.Test.YtpndenfhglaikaaAwp
import Derived.RangeFuncLeaves
set_option linter.all false
namespace Sg
open Go
def DLe (x y : DV) : Prop := ∀ F w v, RepD F w x v → RepD F w y v
def CLe (x y : CV) : Prop := ∀ ρ F w v, RepC ρ F w x v → RepC ρ F w y v
def SLe (x y : SV) : Prop := ∀ ρ F w v, RepS ρ F w x v → RepS ρ F w y v
def TLe (x y : TV) : Prop := ∀ ρ F w v, RepT ρ F w x v → RepT ρ F w y v
def OLe (x y : Option Ob) : Prop := match x, y with
 | some x, some y => ∀ ρ F w S b, RepO ρ F w S b x → RepO ρ F w S b y
 | _, none => True
 | _, _ => False
theorem DLe.refl (x : DV) : DLe x x := fun _ _ _ h => h
theorem CLe.refl (x : CV) : CLe x x := fun _ _ _ _ h => h
theorem SLe.refl (x : SV) : SLe x x := fun _ _ _ _ h => h
theorem TLe.refl (x : TV) : TLe x x := fun _ _ _ _ h => h
theorem OLe.refl : (x : Option Ob) → OLe x x
 | none => trivial
 | some _ => fun _ _ _ _ _ h => h
theorem TLe.of {x y : TV} (h : x = y) : TLe x y := h ▸ .refl x
theorem SLe.of {x y : SV} (h : x = y) : SLe x y := h ▸ .refl x
theorem CLe.of {x y : CV} (h : x = y) : CLe x y := h ▸ .refl x
theorem DLe.of {x y : DV} (h : x = y) : DLe x y := h ▸ .refl x
theorem DLe.trans {x y z : DV} (h : DLe x y) (h' : DLe y z) : DLe x z := fun F w v hr => h' F w v (h F w v hr)
theorem CLe.trans {x y z : CV} (h : CLe x y) (h' : CLe y z) : CLe x z := fun ρ F w v hr => h' ρ F w v (h ρ F w v hr)
theorem CLe.d {x y : DV} (h : DLe x y) : CLe (.d x) (.d y) := fun _ F w v hr => h F w v hr
theorem SLe.one {x y : CV} (h : CLe x y) : SLe (.one x) (.one y) := fun ρ F w v hr => h ρ F w v hr
theorem TLe.v {x y : SV} (h : SLe x y) : TLe (.v x) (.v y) := fun ρ F w v hr => h ρ F w v hr
def CLes : List CV → List CV → Prop
 | [], [] => True
 | x :: xs, y :: ys => CLe x y ∧ CLes xs ys
 | _, _ => False
def SLes : List SV → List SV → Prop
 | [], [] => True
 | x :: xs, y :: ys => SLe x y ∧ SLes xs ys
 | _, _ => False
theorem CLes.rep {ρ : Nat → Option Pl} {F : Nat → Prop} {w : World} : ∀ {xs ys : List CV} {vs : List Value}, CLes xs ys → RepL ρ F w xs vs → RepL ρ F w ys vs
 | [], [], _, _, h => h
 | _ :: _, _ :: _, _ :: _, ⟨h, t⟩, ⟨h', t'⟩ => ⟨h _ _ _ _ h', CLes.rep t t'⟩
 | _ :: _, _ :: _, [], _, h => h.elim
 | [], _ :: _, _, h, _ => h.elim
 | _ :: _, [], _, h, _ => h.elim
theorem SLes.rep {ρ : Nat → Option Pl} {F : Nat → Prop} {w : World} : ∀ {xs ys : List SV} {vs : List Value}, SLes xs ys → RepSs ρ F w xs vs → RepSs ρ F w ys vs
 | [], [], _, _, h => h
 | _ :: _, _ :: _, _ :: _, ⟨h, t⟩, ⟨h', t'⟩ => ⟨h _ _ _ _ h', SLes.rep t t'⟩
 | _ :: _, _ :: _, [], _, h => h.elim
 | [], _ :: _, _, h, _ => h.elim
 | _ :: _, [], _, h, _ => h.elim
theorem SLe.agg {xs ys : List CV} (h : CLes xs ys) : SLe (.agg xs) (.agg ys) := fun _ _ _ _ ⟨vs, e, hr⟩ => ⟨vs, e, h.rep hr⟩
theorem TLe.tup {xs ys : List SV} (h : SLes xs ys) : TLe (.tup xs) (.tup ys) := fun _ _ _ _ ⟨vs, e, hr⟩ => ⟨vs, e, h.rep hr⟩
theorem DLe.sl {nn nn' : Option Bool} {esz len : Nat} {f g : Nat → Nat → DV} (hn : nn' = none ∨ nn' = nn) (h : ∀ i, i < len → ∀ j, j < esz → DLe (f i j) (g i j)) : DLe (.sl nn esz len f) (.sl nn' esz len g) := by
 rintro F w v ⟨a, cap, hv, h1, h2, h3, h4, h5⟩
 refine ⟨a, cap, hv, ?_, ?_, h3, h4, fun ad ha => ⟨(h5 ad ha).1, fun i hi j hj => ?_⟩⟩
 ·rcases hn with rfl | rfl
  ·intro e; cases e
  ·exact h1
 ·rcases hn with rfl | rfl
  ·intro e; cases e
  ·exact h2
 ·obtain ⟨hf, u, hu, hr⟩ := (h5 ad ha).2 i hi j hj
  exact ⟨hf, u, hu, h i hi j hj F w u hr⟩
theorem DLe.nilSl {nn : Option Bool} {esz esz' : Nat} {f g : Nat → Nat → DV} : DLe (.sl nn esz 0 f) (.sl nn esz' 0 g) := by
 rintro F w v ⟨a, cap, hv, h1, h2, h3, h4, h5⟩
 exact ⟨a, cap, hv, h1, h2, h3, h4, fun ad ha => ⟨(h5 ad ha).1, fun i hi => by omega⟩⟩
def SlLe (sl : List (Nat × TV)) : List (Nat × TV) → Prop
 | [] => True
 | (t, tv') :: l => (∃ tv, get sl t = some tv ∧ TLe tv tv') ∧ SlLe sl l
theorem SlLe.get {sl : List (Nat × TV)} : ∀ {l : List (Nat × TV)}, SlLe sl l → ∀ {t : Nat} {tv' : TV}, get l t = some tv' → ∃ tv, Sg.get sl t = some tv ∧ TLe tv tv'
 | [], _, _, _, h => by simp [Sg.get] at h
 | (k, v) :: l, ⟨h1, h2⟩, t, tv', h => by
  rw [get_cons] at h
  split at h
  ·rename_i e; cases h; subst e; exact h1
  ·exact SlLe.get h2 h
def HpLe : List (Nat × Option Ob) → List (Nat × Option Ob) → Prop
 | [], [] => True
 | (b, x) :: l, (b', y) :: l' => b = b' ∧ OLe x y ∧ HpLe l l'
 | _, _ => False
theorem HpLe.refl : (l : List (Nat × Option Ob)) → HpLe l l
 | [] => trivial
 | (_, x) :: l => ⟨rfl, .refl x, HpLe.refl l⟩
theorem HpLe.get : ∀ {l l' : List (Nat × Option Ob)}, HpLe l l' → ∀ b, (∀ y, get l' b = some y → ∃ x, get l b = some x ∧ OLe x y) ∧ (get l' b = none → get l b = none)
 | [], [], _, b => by simp [Sg.get]
 | (k, x) :: l, (k', y) :: l', ⟨e, h1, h2⟩, b => by
  subst e
  rw [get_cons, get_cons]
  obtain ⟨i1, i2⟩ := HpLe.get h2 b
  by_cases e : k = b
  ·rw [if_pos e, if_pos e]; exact ⟨fun y' hy => by cases hy; exact ⟨x, rfl, h1⟩, by simp⟩
  ·rw [if_neg e, if_neg e]; exact ⟨i1, i2⟩
 | [], _ :: _, h, _ => h.elim
 | _ :: _, [], h, _ => h.elim
structure StLe (st st' : St) : Prop where
 sl : SlLe st.slots st'.slots
 hp : HpLe st.heap st'.heap
theorem HI.le {B : Base} {ρ : Nat → Option Pl} {F : Nat → Prop} {w : World} {l l' : List (Nat × Option Ob)} (h : HpLe l l') (hi : HI B ρ F w (hpOf l)) : HI B ρ F w (hpOf l') := by
 have hex : ∀ b ob', hpOf l' b = some (some ob') → ∃ ob, hpOf l b = some (some ob) ∧ OLe (some ob) (some ob') := fun b ob' hb => by
  obtain ⟨x, hx, hle⟩ := (h.get b).1 _ hb
  cases x with
  | none => exact hle.elim
  | some x => exact ⟨x, hx, hle⟩
 obtain ⟨ft, hi⟩ := hi
 refine ⟨ft, fun b ob hb => ?_, fun b ob k hb => ?_, fun b1 b2 o1 o2 k h1 h2 => ?_, fun b hb => hi.fresh b ((h.get b).2 hb)⟩
 ·obtain ⟨x, hx, hle⟩ := hex b ob hb; exact hle _ _ _ _ _ (hi.obj b x hx)
 ·obtain ⟨x, hx, _⟩ := hex b ob hb; exact hi.blk b x k hx
 ·obtain ⟨x, hx, _⟩ := hex b1 o1 h1
  obtain ⟨y, hy, _⟩ := hex b2 o2 h2
  exact hi.dis b1 b2 x y k hx hy
theorem Conc.le {B : Base} {N : Nat} {L : List Nat} {st st' : St} {a : Act} {w : World} (h : StLe st st') (hc : Conc B N L st a w) : Conc B N L st' a w := by
 obtain ⟨⟨ρ, F, hfr, hhi, hs, dn⟩, hid, sz⟩ := hc
 refine ⟨⟨ρ, F, hfr, hhi.le h.hp, fun t tv' ht => ?_, dn⟩, hid, sz⟩
 obtain ⟨tv, h1, h2⟩ := h.sl.get ht
 obtain ⟨v, hv, hr⟩ := hs t tv h1
 exact ⟨v, hv, h2 _ _ _ _ hr⟩
section
variable {rd : Option Nat} {P : Program} {B : Base} {N : Nat} {L : List Nat} {T : List (Nat × TI)} {Q : Exit → St → Prop} {st st' : St}
def retS (T : List (Nat × TI)) (st : St) : ResultVar → Option (List Prop × SV)
 | .tmp t => match get st.slots t with | some (.v s) => some ([], s) | _ => none
 | .cell a t => match get st.slots a, get T t with
  | some tv, some ti => match effLoad ti tv ((foot .none 0 (.load t (.tmp a)) [tv]).map (hpOf st.heap)) with
   | some ⟨cs, .v s, _⟩ => some (cs, s)
   | _ => none
  | _, _ => none
def retL (T : List (Nat × TI)) (st : St) : List ResultVar → Option (List Prop × List SV)
 | [] => some ([], [])
 | r :: rs => match retS T st r, retL T st rs with
  | some (p, s), some (q, l) => some (p ++ q, s :: l)
  | _, _ => none
def resT : List SV → TV
 | [s] => .v s
 | l => .tup l
def RetQ (T : List (Nat × TI)) (rs : List ResultVar) (res : TV) (hout : List (Nat × Option Ob)) (e : Exit) (st : St) : Prop :=
 (e = .normal ∨ e = .ret) ∧ (∃ p l, retL T st rs = some (p, l) ∧ All p ∧ TLe (resT l) res) ∧ HpLe st.heap hout
theorem RetQ.mk {rs : List ResultVar} {res : TV} {hout : List (Nat × Option Ob)} {e : Exit} {p : List Prop} {l : List SV} (he : e = .normal ∨ e = .ret) (h1 : retL T st rs = some (p, l)) (h2 : All p) (h3 : TLe (resT l) res) (h4 : HpLe st.heap hout) :
  RetQ T rs res hout e st := ⟨he, ⟨p, l, h1, h2, h3⟩, h4⟩
def retV (tmps : Array Value) : ResultVar → Sem Value
 | .tmp t => pure (tmps.getD t undef)
 | .cell a t => do loadVar t (← asAddr (tmps.getD a undef))
theorem results_eq (fn : Func) (tmps : Array Value) : results fn tmps = (do
  let vs ← fn.results.mapM (retV tmps)
  pure (if h : vs.size = 1 then vs[0] else .tuple vs) : Sem Value) := rfl
theorem retS_run (hT : TOk P T) {ρ : Nat → Option Pl} {F : Nat → Prop} {w : World} {a : Act} (hi : HI B ρ F w (hpOf st.heap)) (hs : ∀ t tv, get st.slots t = some tv → ∃ v, a.tmps[t]? = some v ∧ RepT ρ F w tv v) {r : ResultVar} {p : List Prop} {s : SV}
  (h : retS T st r = some (p, s)) (hp : All p) : ∃ v, (retV a.tmps r).run P w = .ok v w ∧ RepS ρ F w s v := by
 cases r with
 | tmp t =>
  simp only [retS] at h
  split at h
  ·rename_i s' hg
   cases h
   obtain ⟨v, hv, hr⟩ := hs t _ hg
   exact ⟨v, by simp [retV, hv], hr⟩
  ·cases h
 | cell x t =>
  simp only [retS] at h
  split at h
  ·rename_i tv ti hg hti
   split at h
   ·rename_i cs s' hd he
    cases h
    obtain ⟨v, hv, hr⟩ := hs x _ hg
    obtain ⟨_, ad, u, e1, e2, e3⟩ := load_run (x := .tmp x) (hT.get hti) he hp rfl hi hr
    exact ⟨u, by simp [retV, hv, e1, asAddr, e2], e3⟩
   ·cases h
  ·cases h
theorem retL_run (hT : TOk P T) {ρ : Nat → Option Pl} {F : Nat → Prop} {w : World} {a : Act} (hi : HI B ρ F w (hpOf st.heap)) (hs : ∀ t tv, get st.slots t = some tv → ∃ v, a.tmps[t]? = some v ∧ RepT ρ F w tv v) : ∀ {rs : List ResultVar} {p : List Prop} {l : List SV},
  retL T st rs = some (p, l) → All p → ∃ vs, (rs.mapM (retV a.tmps)).run P w = .ok vs w ∧ RepSs ρ F w l vs
 | [], p, l, h, _ => by simp [retL] at h; obtain ⟨rfl, rfl⟩ := h; exact ⟨[], by simp, trivial⟩
 | r :: rs, p, l, h, hp => by
  simp only [retL] at h
  split at h
  ·rename_i p1 s q l1 h1 h2
   cases h
   rw [All_append] at hp
   obtain ⟨v, e1, e2⟩ := retS_run hT hi hs h1 hp.1
   obtain ⟨vs, e3, e4⟩ := retL_run hT hi hs h2 hp.2
   refine ⟨v :: vs, ?_, e2, e4⟩
   rw [List.mapM_cons]
   simp only [Sem.run_bind, Sem.run_pure, e1, e3, Result.andThen_ok]
  ·cases h
theorem RepSs.length {ρ : Nat → Option Pl} {F : Nat → Prop} {w : World} : ∀ {cs : List SV} {vs : List Value}, RepSs ρ F w cs vs → vs.length = cs.length
 | [], [], _ => rfl
 | _ :: _, _ :: _, ⟨_, t⟩ => by simp [RepSs.length t]
 | [], _ :: _, h => h.elim
 | _ :: _, [], h => h.elim
def slotsOf : Nat → List SV → List (Nat × TV)
 | _, [] => []
 | i, s :: l => (i, .v s) :: slotsOf (i + 1) l
theorem slotsOf_get {ρ : Nat → Option Pl} {F : Nat → Prop} {w : World} : ∀ {args : List SV} {vs : List Value} {i : Nat}, RepSs ρ F w args vs → ∀ t tv, get (slotsOf i args) t = some tv → i ≤ t ∧ ∃ v, vs[t - i]? = some v ∧ RepT ρ F w tv v
 | [], _, _, _, t, tv, h => by simp [slotsOf, get] at h
 | s :: args, v :: vs, i, ⟨h1, h2⟩, t, tv, h => by
  simp only [slotsOf] at h
  rw [get_cons] at h
  split at h
  ·rename_i e; cases h; subst e; exact ⟨Nat.le_refl _, v, by simp, h1⟩
  ·obtain ⟨e1, u, e2, e3⟩ := slotsOf_get h2 t tv h
   exact ⟨by omega, u, by rw [show t - i = (t - (i + 1)) + 1 by omega]; simpa using e2, e3⟩
 | _ :: _, [], _, h, _, _, _ => h.elim
theorem RepD.shrink {F F' : Nat → Prop} {w : World} (hF : ∀ k, F k → (∃ c E f, w.heap[k]? = some (.cells c E f)) → F' k) : ∀ {x : DV} {v : Value}, RepD F w x v → RepD F' w x v := by
 have cellk : ∀ {k off : Nat} {s : Option Nat} {u : Value}, w.cell? ⟨k, off, s⟩ = some u → ∃ c E f, w.heap[k]? = some (.cells c E f) := fun {k off s u} hu => by
  simp only [World.cell?] at hu
  split at hu
  ·rename_i c E f hk; exact ⟨c, E, f, hk⟩
  ·cases hu
 intro x
 induction x with
 | int => intro v h; exact h
 | bool => intro v h; exact h
 | str => intro v h; exact h
 | nilp => intro v h; exact h
 | nilf => intro v h; exact h
 | nilm => intro v h; exact h
 | sl nn esz len el ih =>
  intro v h
  obtain ⟨a, cap, hv, h1, h2, h3, h3b, h4⟩ := h
  refine ⟨a, cap, hv, h1, h2, h3, h3b, fun ad ha => ⟨(h4 ad ha).1, fun i hi j hj => ?_⟩⟩
  obtain ⟨hf, u, hu, hr⟩ := (h4 ad ha).2 i hi j hj
  exact ⟨hF _ hf (cellk hu), u, hu, ih i j hr⟩
 | ip n c ih =>
  intro v h
  obtain ⟨ad, hv, h1, h2⟩ := h
  refine ⟨ad, hv, h1, fun j hj => ?_⟩
  obtain ⟨hf, u, hu, hr⟩ := h2 j hj
  exact ⟨hF _ hf (cellk hu), u, hu, ih j hr⟩
 | fn f n cap ih =>
  intro v h
  obtain ⟨vs, hv, h1, h2⟩ := h
  exact ⟨vs, hv, h1, fun j u hu => ih j (h2 j u hu)⟩
section
variable {ρ : Nat → Option Pl} {F F' : Nat → Prop} {w : World} (hD : ∀ x v, RepD F w x v → RepD F' w x v)
include hD
theorem RepC.conv : ∀ {c : CV} {v : Value}, RepC ρ F w c v → RepC ρ F' w c v := by
 intro c
 induction c with
 | d x => intro v h; exact hD _ _ h
 | ptr b off => intro v h; exact h
 | opt b esz i off => intro v h; exact h
 | own b nn len => intro v h; exact h
 | mp b => intro v h; exact h
 | yl b => intro v h; exact h
 | fn f nf n cap ih => intro v h; obtain ⟨vs, e, hl, h⟩ := h; exact ⟨vs, e, hl, fun j u hu => ih j (h j u hu)⟩
theorem RepL.conv : ∀ {cs : List CV} {vs : List Value}, RepL ρ F w cs vs → RepL ρ F' w cs vs
 | [], [], h => h
 | _ :: _, _ :: _, ⟨h, t⟩ => ⟨h.conv hD, RepL.conv t⟩
 | [], _ :: _, h => h.elim
 | _ :: _, [], h => h.elim
theorem RepS.conv : ∀ {s : SV} {v : Value}, RepS ρ F w s v → RepS ρ F' w s v
 | .one _, _, h => RepC.conv hD h
 | .agg _, _, ⟨vs, e, h⟩ => ⟨vs, e, h.conv hD⟩
theorem RepSs.conv : ∀ {cs : List SV} {vs : List Value}, RepSs ρ F w cs vs → RepSs ρ F' w cs vs
 | [], [], h => h
 | _ :: _, _ :: _, ⟨h, t⟩ => ⟨h.conv hD, RepSs.conv t⟩
 | [], _ :: _, h => h.elim
 | _ :: _, [], h => h.elim
theorem RepT.conv : ∀ {s : TV} {v : Value}, RepT ρ F w s v → RepT ρ F' w s v
 | .v _, _, h => RepS.conv hD h
 | .tup _, _, ⟨vs, e, h⟩ => ⟨vs, e, h.conv hD⟩
theorem RowAt.conv {k base cap E esz len : Nat} {el : Nat → Nat → DV} (h : RowAt F w k base cap E esz len el) : RowAt F' w k base cap E esz len el := by
 obtain ⟨vs, h1, h2, h3, h4, h5⟩ := h
 exact ⟨vs, h1, h2, h3, h4, fun i hi j hj => by obtain ⟨u, hu, hr⟩ := h5 i hi j hj; exact ⟨u, hu, hD _ _ hr⟩⟩
theorem RepV.conv {S : Nat → Prop} {rb : Option Nat} : ∀ {x : EV} {v : Value}, RepV F w S rb x v → RepV F' w S rb x v
 | .d _, _, h => hD _ _ h
 | .row _ _ _ _, _, .inl h => .inl h
 | .row _ _ _ _, _, .inr ⟨k, base, cap, h1, h2, h3, h4⟩ => .inr ⟨k, base, cap, h1, h2, h3, h4.conv hD⟩
theorem RepO.conv {S : Nat → Prop} {b : Nat} (hF : ∀ k, F k → (∃ c E f, w.heap[k]? = some (.cells c E f)) → F' k) : ∀ {ob : Ob}, RepO ρ F w S b ob → RepO ρ F' w S b ob
 | .cells _ _, ⟨k, cap, vs, h1, h0, h2, h3⟩ => ⟨k, cap, vs, h1, h0, h2, h3.conv hD⟩
 | .fcells _ _, ⟨k, base, cap, h1, h2⟩ => ⟨k, base, cap, h1, fun j x hx => by
   obtain ⟨hf, u, hu, hr⟩ := h2 j x hx
   refine ⟨hF _ hf ?_, u, hu, hD _ _ hr⟩
   simp only [World.cell?] at hu
   split at hu
   ·rename_i c E f hk; exact ⟨c, E, f, hk⟩
   ·cases hu⟩
 | .arr _ _ _ _, .inl h => .inl h
 | .arr _ _ _ _, .inr ⟨k, base, cap, h1, h0, h2⟩ => .inr ⟨k, base, cap, h1, h0, h2.conv hD⟩
 | .rows _ _ _ _ _, .inl h => .inl h
 | .rows _ _ _ _ ov, .inr ⟨k, base, cap, vs, rb, h1, h0, h2, h3, h4, h5, h6, h7⟩ => .inr ⟨k, base, cap, vs, rb, h1, h0, h2, h3, h4, h5, fun i hi j hj => by
   obtain ⟨u, hu, hr⟩ := h6 i hi j hj
   refine ⟨u, hu, ?_⟩
   unfold RepW at hr ⊢
   cases ov with
   | none => exact RepV.conv hD hr
   | some p =>
    obtain ⟨i0, j0, c⟩ := p
    simp only at hr ⊢
    split
    ·rename_i e; rw [if_pos e] at hr; exact hr.conv hD
    ·rename_i e; rw [if_neg e] at hr; exact RepV.conv hD hr, h7⟩
 | .map m, ⟨k, base, cap, es, h1, h0, h2, h3, h5, h4⟩ => ⟨k, base, cap, es, h1, h0, h2, h3, h5, fun i hi => by
   obtain ⟨e, e1, e2, ⟨s3, e3, e3'⟩, ⟨s4, e4, e4'⟩⟩ := h4 i hi
   exact ⟨e, e1, e2, ⟨s3, e3, e3'.conv hD⟩, s4, e4, e4'.conv hD⟩⟩
 | .loop _ _ _, ⟨k, base, cap, fn, tmps, D, h1, h0, h2, h3, h4, h5⟩ => ⟨k, base, cap, fn, tmps, D, h1, h0, h2, h3, h4, fun t tv ht => by
   obtain ⟨v, e1, e2⟩ := h5 t tv ht
   exact ⟨v, e1, e2.conv hD⟩⟩
 | .coll, ⟨k, base, cap, h1, h0, h2⟩ => ⟨k, base, cap, h1, h0, h2⟩
end
structure Known (B : Base) (st : St) (tmps : Array Value) (F : Nat → Prop) (ρ : Nat → Option Pl) (w : World) (ds : List Deferred) : Prop where
 fr : Fr B ρ F w
 hi : HI B ρ F w (hpOf st.heap)
 sl : ∀ t tv, get st.slots t = some tv → ∃ v, tmps[t]? = some v ∧ RepT ρ F w tv v
 marks : Marks B F w ds
 bF : ∀ k, B.F k → k < B.w.heap.size
theorem known_take {st : St} {tmps : Array Value} {F : Nat → Prop} {ρ : Nat → Option Pl} {w : World} {ds : List Deferred} {d : Deferred} (hk : Known B st tmps F ρ w (d :: ds)) :
  ∃ D w' F', d.target = .collected D ∧ (Instr.takeDeferred D).run P w = .ok [] w' ∧ Known B st tmps F' ρ w' ds := by
 obtain ⟨fr, ⟨ft, hi⟩, sl, ⟨Ds, hds, hnd, hD⟩, hbF⟩ := hk
 cases Ds with
 | nil => simp at hds
 | cons D Ds =>
  simp at hds
  obtain ⟨rfl, rfl⟩ := hds
  obtain ⟨x1, x2, x3⟩ := hD D (by simp)
  have hlt : D < w.heap.size := (fr.fz D x1).1
  rw [List.nodup_cons] at hnd
  let F0 : Nat → Prop := fun k => F k ∧ k ≠ D
  have hF0 : ∀ k, F k → (∃ c E f, w.heap[k]? = some (.cells c E f)) → F0 k := fun k hk ⟨c, E, f, hc⟩ => ⟨hk, fun e => by rw [e, x3] at hc; cases hc⟩
  have hsh : ∀ x v, RepD F w x v → RepD F0 w x v := fun x v h => h.shrink hF0
  let w' : World := { w with heap := w.heap.setIfInBounds D (.deferred none) }
  have hold : ∀ k, k ≠ D → w'.heap[k]? = w.heap[k]? := fun k hk => by simp [w', Array.getElem?_setIfInBounds, Ne.symm hk]
  have g : Gr ρ F0 w ρ F0 w' := ⟨fun _ _ h => h, fun _ h => h, fun k hk => hold k hk.2⟩
  refine ⟨D, w', F0, rfl, ?_, ⟨⟨fr.os, fr.tape, fr.output, by simp [w']; exact fr.size, fun k hk hn => (hold k (by omega)).trans (fr.mem k hk hn), fr.rho, fun k hk => ⟨by simp [w']; exact (fr.fz k hk.1).1, (fr.fz k hk.1).2⟩, fun k hk => ⟨fr.bf k hk, fun e => ?_⟩⟩,
   ⟨ft, fun b ob hb => ?_, fun b ob k hb hf => ?_, hi.dis, hi.fresh⟩, fun t tv ht => ?_, ⟨Ds, rfl, hnd.2, fun E hE => ?_⟩, hbF⟩⟩
  ·have hg : (getObj D).run P w = .ok (.deferred (some [])) w := by simp [getObj, Sem.run, x3]
   have hs : (setObj D (.deferred none)).run P w = .ok () w' := by simp only [setObj, Sem.run, x3]; rfl
   simp only [Instr.takeDeferred, Sem.run_bind, hg, Result.andThen_ok, hs, Sem.run_pure]
  ·have := hbF k hk; omega
  ·have := (hi.obj b ob hb).conv hsh hF0
   refine this.keep g (fun _ h => h) fun k hk => hold k fun e => ?_
   exact (hi.blk b ob k hb hk).2.1 (e ▸ x1)
  ·obtain ⟨y1, y2, y3⟩ := hi.blk b ob k hb hf
   exact ⟨by simp [w']; exact y1, fun h => y2 h.1, y3⟩
  ·obtain ⟨v, hv, hr⟩ := sl t tv ht
   exact ⟨v, hv, (hr.conv hsh).gr g⟩
  ·obtain ⟨y1, y2, y3⟩ := hD E (by simp [hE])
   have hne : E ≠ D := fun e => hnd.1 (e ▸ hE)
   exact ⟨⟨y1, hne⟩, y2, (hold E hne).trans y3⟩
theorem fn_intro (hT : TOk P T) {f : Nat} {fn : Func} {c : Code} {args : List SV} {hin hout : List (Nat × Option Ob)} {res : TV} (hf : P.funcs[f]? = some fn) (hb : fn.body = some c) (hn : (fn.name == "runtime.NumGoroutine") = false)
  (h : ∀ B, AWp none P B (args.length + (fn.ntmps - args.length)) (hin.map (·.1)) c (RetQ T fn.results.toList res hout) ⟨slotsOf 0 args, hin⟩) : Fn P f args hin res hout := by
 refine ⟨⟨fn, hf, hn, by rw [hb]; rfl⟩, fun B vs hF hi hr => ?_⟩
 have hl := hr.length
 refine callsIn_wide.1 (callsIn_of_wp_marks (F := Fence.wide) (n := 0) hf hb trivial (wpIn_mono (h B _ _ ⟨⟨B.ρ, B.F, ⟨rfl, rfl, rfl, Nat.le_refl _, fun _ _ _ => rfl, fun _ _ h => h, fun k hk => ⟨hF k hk, .inl hk⟩, fun _ h => h⟩, hi, fun t tv ht => ?_, Marks.none⟩, fun b p hbp => ?_, ?_⟩) ?_))
 ·obtain ⟨_, v, hv, hr'⟩ := slotsOf_get hr t tv ht
  refine ⟨v, ?_, hr'⟩
  rw [Nat.sub_zero] at hv
  have hlt : t < vs.length := by
   rcases Nat.lt_or_ge t vs.length with h | h
   ·exact h
   ·rw [List.getElem?_eq_none h] at hv; cases hv
  rw [Array.getElem?_append_left (by simpa using hlt)]
  simpa using hv
 ·apply Classical.byContradiction
  intro hnm
  have := hi.fresh b (get_none_of_not_mem hnm)
  rw [this] at hbp; cases hbp
 ·simp [hl]
 ·rintro e a' w' ⟨st', ⟨he, ⟨p, l, h1, h2, h3⟩, h4⟩, hc⟩
  obtain ⟨⟨ρ', F', hfr, hhi, hs, dn⟩, _, _⟩ := hc
  have key : ∀ (ds : List Deferred) (F : Nat → Prop) (w : World), Known B st' a'.tmps F ρ' w ds → LeavesInM Fence.wide 0 P fn a'.tmps (fun e w' => ∃ v ρ' F', e = .returned v ∧ Fr B ρ' F' w' ∧ HI B ρ' F' w' (hpOf hout) ∧ RepT ρ' F' w' res v) ds .returning w := by
   intro ds
   induction ds with
   | nil =>
    intro F w hk
    obtain ⟨us, g1, g2⟩ := retL_run hT hk.hi hk.sl h1 h2
    have hres : ∃ v, (results fn a'.tmps).run P w = .ok v w ∧ RepT ρ' F w (resT l) v := by
     refine ⟨if h : us.length = 1 then us[0] else .tuple us.toArray, ?_, ?_⟩
     ·rw [results_eq, Sem.run_bind, Array.mapM_eq_mapM_toList, Sem.run_map, g1]
      simp
     ·have hlen := g2.length
      match l, us, g2, hlen with
      | [], [], _, _ => exact ⟨[], rfl, trivial⟩
      | [s], [u], g2, _ => exact g2.1
      | s1 :: s2 :: l, u1 :: u2 :: us, g2, _ => exact ⟨u1 :: u2 :: us, by simp, g2⟩
    obtain ⟨v, hv, hr⟩ := hres
    exact ⟨v, hv, v, ρ', F, rfl, hk.fr, hk.hi.le h4, h3 _ _ _ _ hr⟩
   | cons d ds ih =>
    intro F w hk
    obtain ⟨D, w2, F2, x1, x2, x3⟩ := known_take (P := P) hk
    exact ⟨by simp, .inl ⟨D, w2, x1, x2, ih F2 w2 x3⟩⟩
  rcases he with rfl | rfl
  ·exact key a'.defers F' w' ⟨hfr, hhi, hs, dn, hF⟩
  ·exact key a'.defers F' w' ⟨hfr, hhi, hs, dn, hF⟩
end
end Sg
