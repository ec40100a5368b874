import Derived.Test.YtpndenfhglaikaaMaps
import Derived.LoopNIn
set_option linter.all false
namespace Sg
open Go
def cAt : List Nat → Code → Code
 | [], c => c
 | i :: l, c => match c, i with
  | .seq x _, 0 => cAt l x
  | .seq _ y, _ => cAt l y
  | .cond _ x _, 0 => cAt l x
  | .cond _ _ y, _ => cAt l y
  | .block _ x, _ => cAt l x
  | .loop x, _ => cAt l x
  | .scope x, _ => cAt l x
  | .rangeFunc _ _ x _, 0 => cAt l x
  | .rangeFunc _ _ _ y, _ => cAt l y
  | c, _ => c
def bodyOf (f : Func) : Code := match f.body with | some c => c | none => .skip
theorem OLe.of {x y : Option Ob} (h : x = y) : OLe x y := h ▸ .refl x
theorem hpLe_of {x y : List (Nat × Option Ob)} (h : x = y) : HpLe x y := h ▸ HpLe.refl x
section
variable {rd : Option Nat} {P : Program} {B : Base} {N : Nat} {L : List Nat} {Q : Exit → St → Prop} {st st' : St}
theorem awp_code {c c' : Code} (h : c' = c) (hw : AWp rd P B N L c Q st) : AWp rd P B N L c' Q st := h ▸ hw
theorem awp_start {c : Code} {st0 : St} (h : st0 = st) (hw : AWp rd P B N L c Q st) : AWp rd P B N L c Q st0 := h ▸ hw
theorem awp_rangeFuncI {g : Operand} {ps : List Nat} {assign body : Code} (lb : Nat) (sl : List (Nat × TV)) (outs : List Code) (ids : List Nat) (res : TV) (hout : List (Nat × Option Ob)) (gv : TV) (f : FuncId) (c1 c2 : List CV) (hin : List (Nat × Option Ob)) (args : List SV) (r' : LoopRec) (stt : Nat) (sl' : List (Nat × TV)) {e : Exit}
  (hg : opdT st g = some gv) (hf : fnOf gv = some (f, c1, c2)) (hlb : get st.heap lb = none) (hsl : sl.map (fun p => get st.slots p.1) = sl.map fun p => some p.2)
  (hin1 : zipObs ids (ids.map (hpOf ((lb, some (.loop ⟨ps, assign, body, N, outs⟩ 0 sl)) :: st.heap))) = some hin)
  (hok : (subL ((c1 ++ CV.yl lb :: c2).flatMap CV.ment) ids && subL (obsMent (ids.map (hpOf ((lb, some (.loop ⟨ps, assign, body, N, outs⟩ 0 sl)) :: st.heap)))) ids && freshOk ids (hout.map (·.1)) ((hout.map (·.1)).map (hpOf ((lb, some (.loop ⟨ps, assign, body, N, outs⟩ 0 sl)) :: st.heap)))) = true)
  (ha : args = (c1 ++ CV.yl lb :: c2).map .one) (hfn : Fn P f args hin res hout) (hlo : get hout lb = some (some (.loop r' stt sl'))) (hr' : r'.outs = outs) (hx : ExOf outs stt e)
  (hi : Imp B N L ⟨st.slots, (lb, none) :: (hout ++ (ids.map (fun i => (i, none)) ++ st.heap))⟩ st') (hQ : Q e st') : AWp none P B N L (.rangeFunc g ps.toArray assign body) Q st := by
 subst ha
 refine awp_postI (awp_rangeFunc lb sl outs ids res hout hg hf hlb (fun p hp => ?_) hin1 hok hfn hlo hr' hx ⟨st', hi, hQ⟩)
 obtain ⟨j, hj⟩ := List.getElem?_of_mem hp
 have := congrArg (fun l => l[j]?) hsl
 simp only [List.getElem?_map, hj, Option.map_some, Option.some.injEq] at this
 exact this
end
section
variable (rd : Option Nat) (P : Program) (B : Base) (N : Nat) (L : List Nat) (c : Code) (Q : Exit → St → Prop)
def LoopN : Nat → St → Prop
 | 0, _ => False
 | m + 1, st => AWp rd P B N L c (fun e st' => match e with | .normal => LoopN m st' | e => Q e st') st
end
section
variable {rd : Option Nat} {P : Program} {B : Base} {N : Nat} {L : List Nat} {Q : Exit → St → Prop} {st : St} {c : Code}
theorem loopN_succ (m : Nat) (h : AWp rd P B N L c (fun e st' => match e with | .normal => LoopN rd P B N L c Q m st' | e => Q e st') st) : LoopN rd P B N L c Q (m + 1) st := h
theorem awp_loopN (m : Nat) (h : LoopN rd P B N L c Q m st) : AWp rd P B N L (.loop c) Q st := by
 intro a w hc
 refine wpIn_loop_rounds m ?_
 revert st a w
 induction m with
 | zero => intro st h; exact h.elim
 | succ m ih =>
  intro st h a w hc
  rw [roundsIn_succ]
  refine wpIn_mono (h a w hc) ?_
  rintro e a' w' ⟨st', h1, h2⟩
  cases e with
  | normal => exact ih h1 a' w' h2
  | exit id => exact ⟨st', h1, h2⟩
  | goto l => exact ⟨st', h1, h2⟩
  | ret => exact ⟨st', h1, h2⟩
  | panic v => exact ⟨st', h1, h2⟩
  | outgrown => exact ⟨st', h1, h2⟩
end
theorem stepR_scope {P : Program} {b : Frame} {a : Act} {k : List Item} {cs : List Frame} {w : World} {c : Code} : Go.step P (lone (b.atR a (.code (.scope c) :: k)) cs w) = .next (lone (b.atR a (.code c :: .inScope c :: k)) cs w) :=
 step_lone_go (by simp [stepG, stepG.exec, Frame.atR])
theorem stepR_inScope {P : Program} {b : Frame} {a : Act} {k : List Item} {cs : List Frame} {w : World} {c : Code} : Go.step P (lone (b.atR a (.inScope c :: k)) cs w) = .next (lone (b.atR a k) cs w) :=
 step_lone_go (by simp [stepG, stepG.exec, Frame.atR])
def GQ {σ ρ : Type} (l : Nat) (S : σ → St) (R : ρ → Exit → St → Prop) : Flow σ ρ → Exit → St → Prop
 | .next s, e, st => e = .goto l ∧ st = S s
 | .done r, e, st => (∀ l', e ≠ .goto l') ∧ R r e st
section
variable {rd : Option Nat} {P : Program} {B : Base} {N : Nat} {L : List Nat} {st : St}
theorem awp_scopeM {σ ρ : Type} {c rest : Code} (l : Nat) (hf : findLabel c l = some rest) (S : σ → St) (R : ρ → Exit → St → Prop) {body : σ → Option (Flow σ ρ)} {n : Nat} {s0 : σ} {o : ρ} (h : loopO body n s0 = some o)
  (hb : ∀ s f, body s = some f → AWp rd P B N L rest (GQ l S R f) (S s)) (h1 : ∀ f, body s0 = some f → AWp rd P B N L c (GQ l S R f) st) : AWp rd P B N L (.scope c) (R o) st := by
 intro a w hc b k cs hro hbu hr
 have hg : gotoIn l (.inScope c :: k) = some (.code rest :: .inScope c :: k) := by simp [gotoIn, hf]
 have fin : ∀ (m : Nat) (s : σ) (f : Flow σ ρ) (x : Code) (a : Act) (w : World), loopO body (m + 1) s = some o → body s = some f →
   (∀ s' a' w', loopO body m s' = some o → Conc B N L (S s') a' w' → ∃ e a2 w2, (∃ st', R o e st' ∧ Conc B N L st' a2 w2) ∧ ArrivesIn (Machine.fenced P (FW rd)) P (lone (b.atR a' (.code rest :: .inScope c :: k)) cs w') b k cs e a2 w2) →
   (∃ e a1 w1, (∃ st', GQ l S R f e st' ∧ Conc B N L st' a1 w1) ∧ ArrivesIn (Machine.fenced P (FW rd)) P (lone (b.atR a (.code x :: .inScope c :: k)) cs w) b (.inScope c :: k) cs e a1 w1) →
   ∃ e a2 w2, (∃ st', R o e st' ∧ Conc B N L st' a2 w2) ∧ ArrivesIn (Machine.fenced P (FW rd)) P (lone (b.atR a (.code x :: .inScope c :: k)) cs w) b k cs e a2 w2 := by
  rintro m s f x a w hl hbs ih ⟨e, a1, w1, ⟨st', hq, hconc⟩, harr⟩
  rw [loopO_succ, hbs] at hl
  cases f with
  | next s' =>
   obtain ⟨rfl, rfl⟩ := hq
   obtain ⟨e2, a2, w2, hq2, harr2⟩ := ih s' a1 w1 hl hconc
   exact ⟨e2, a2, w2, hq2, .of_steps (harr.1 _ hg) harr2⟩
  | done r =>
   obtain ⟨hng, hR⟩ := hq
   simp only [Option.some.injEq] at hl
   subst hl
   cases e with
   | normal => exact ⟨.normal, a1, w1, ⟨st', hR, hconc⟩, StepsIn.trans harr (.one (fenced_calm hbu hr rfl) stepR_inScope)⟩
   | exit id =>
    have hx : exitTo id (.inScope c :: k) = exitTo id k := by simp [exitTo]
    exact ⟨_, a1, w1, ⟨st', hR, hconc⟩, fun k' hk => harr.1 k' (by rw [hx]; exact hk), fun hr' hk => harr.2 hr' (by rw [hx]; exact hk)⟩
   | goto l' => exact absurd rfl (hng l')
   | ret => exact ⟨_, a1, w1, ⟨st', hR, hconc⟩, harr⟩
   | panic ch => exact ⟨_, a1, w1, ⟨st', hR, hconc⟩, harr⟩
   | outgrown => exact ⟨_, a1, w1, ⟨st', hR, hconc⟩, harr⟩
 have key : ∀ m s a w, loopO body m s = some o → Conc B N L (S s) a w → ∃ e a2 w2, (∃ st', R o e st' ∧ Conc B N L st' a2 w2) ∧ ArrivesIn (Machine.fenced P (FW rd)) P (lone (b.atR a (.code rest :: .inScope c :: k)) cs w) b k cs e a2 w2 := by
  intro m
  induction m with
  | zero => intro s a w hl; cases hl
  | succ m ih =>
   intro s a w hl hconc
   cases hbs : body s with
   | none => rw [loopO_succ, hbs] at hl; cases hl
   | some f => exact fin m s f rest a w hl hbs (fun s' a' w' h1 h2 => ih s' a' w' h1 h2) (hb s f hbs a w hconc b (.inScope c :: k) cs hro hbu hr)
 cases n with
 | zero => cases h
 | succ n =>
  cases hbs : body s0 with
  | none => rw [loopO_succ, hbs] at h; cases h
  | some f =>
   obtain ⟨e, a2, w2, hq, harr⟩ := fin n s0 f c a w h hbs (fun s' a' w' h1 h2 => key n s' a' w' h1 h2) (h1 f hbs a w hc b (.inScope c :: k) cs hro hbu hr)
   exact ⟨e, a2, w2, hq, .of_steps (.one (fenced_calm hbu hr rfl) stepR_scope) harr⟩
end
section
variable {rd : Option Nat} {P : Program} {B : Base} {N : Nat} {L : List Nat} {Q : Exit → St → Prop} {st : St}
theorem awp_scopeP {σ β X : Type} {x y : Code} (l : Nat) (hx : findLabel x l = none) (av : List Nat) (S : σ → St) (Sb : β → St) (Qo : X → Exit → St → Prop) {body : σ → Option (Flow σ (Ex β X))} {n : Nat} {s0 : σ} {o : Ex β X} (h : loopO body n s0 = some o)
  (hp : AWp rd P B N L x (fun e st' => e = .normal ∧ st' = S s0) st) (hb : ∀ s f, body s = some f → AWp rd P B N L y (GQ l S (JQ av Sb Qo) f) (S s))
  (hk : ExK (fun z => ∃ s', Imp B N L (Sb z) s' ∧ Q .normal s') (fun v => ∀ e st', e ≠ .normal → avoid av e → Qo v e st' → Q e st') o) : AWp rd P B N L (.scope (.seq x (.seq (.label l) y))) Q st := by
 refine awp_postI (awp_mono (awp_scopeM (rest := .seq .skip y) l (by simp [findLabel, hx]) S (JQ av Sb Qo) h (fun s f hf => awp_seq (awp_skip (hb s f hf))) fun f hf => ?_) fun e st' hR => ?_)
 ·refine awp_seqR _ hp fun e st' hh => ?_
  obtain ⟨rfl, rfl⟩ := hh
  exact awp_seq (awp_label (hb s0 f hf))
 ·cases o with
  | brk z =>
   obtain ⟨rfl, rfl⟩ := hR
   exact hk
  | ret v =>
   obtain ⟨h2, h4, h3⟩ := hR
   exact ⟨_, .refl, hk _ _ h2 h4 h3⟩
theorem GQ_next {σ ρ : Type} {l : Nat} {S : σ → St} {R : ρ → Exit → St → Prop} {s : σ} (h : st = S s) : GQ l S R (.next s) (.goto l) st := ⟨rfl, h⟩
theorem GQ_ret {σ β X : Type} {l : Nat} {S : σ → St} {av : List Nat} {Sb : β → St} {Qo : X → Exit → St → Prop} {v : X} {e : Exit} (h0 : ∀ l', e ≠ .goto l') (h1 : e ≠ .normal) (h2 : avoid av e) (h : Qo v e st) : GQ l S (JQ av Sb Qo) (.done (.ret v)) e st := ⟨h0, h1, h2, h⟩
theorem ret_ng (l : Nat) : Exit.ret ≠ .goto l := Exit.noConfusion
end
theorem Yl.leH {P : Program} {b : Nat} {args args' : List SV} {hin hin' hout : List (Nat × Option Ob)} {res : TV} (h : Yl P b args hin res hout) (hl : SLes args' args) (hh : HpLe hin' hin) : Yl P b args' hin' res hout :=
 fun B vs l base cap hF hi hr hb => h B vs l base cap hF (hi.le hh) (hl.rep hr) hb
theorem Yl.renK {P : Program} {b b' : Nat} {args args' : List SV} {hin hin' hout hout' : List (Nat × Option Ob)} {res res' : TV} (l : List (Nat × Nat)) (h : Yl P b args hin res hout)
  (e0 : swp l b = b') (e1 : args.map (SV.ren (swp l)) = args') (e2 : renH (swp l) hin = hin') (e3 : res.ren (swp l) = res') (e4 : renH (swp l) hout = hout') : Yl P b' args' hin' res' hout' := by
 subst e0; subst e1; subst e2; subst e3; subst e4
 have r := swp_rn l
 intro B vs lp base cap hF hi hr hb
 obtain ⟨fn, tmps, assign, body, h1, h2⟩ := h { B with ρ := fun x => B.ρ (swp l x) } vs lp base cap hF ((hi_ren r).1 hi) (repSs_ren (σ := swp l).1 hr) hb
 refine ⟨fn, tmps, assign, body, h1, h2.mono ?_⟩
 rintro e w' ⟨v, rfl, ρ', F', hf, g1, g2⟩
 refine ⟨v, rfl, fun x => ρ' (unswp l x), F', ?_, ?_, ?_⟩
 ·refine ⟨hf.os, hf.tape, hf.output, hf.size, hf.mem, fun b p hb => hf.rho (unswp l b) p ?_, hf.fz, hf.bf⟩
  show B.ρ (swp l (unswp l b)) = some p
  rw [r.st]; exact hb
 ·refine (hi_ren (ρ0 := fun x => B.ρ (swp l x)) r).2 ?_
  have : (fun x => (fun x => ρ' (unswp l x)) (swp l x)) = ρ' := by funext x; simp [r.ts]
  rw [this]; exact g1
 ·refine repT_ren.2 ?_
  have : (fun x => (fun x => ρ' (unswp l x)) (swp l x)) = ρ' := by funext x; simp [r.ts]
  rw [this]; exact g2
def DLs : List DV → List DV → Prop
 | [], [] => True
 | x :: xs, y :: ys => DLe x y ∧ DLs xs ys
 | _, _ => False
theorem DLs.get : ∀ {xs ys : List DV}, DLs xs ys → xs.length = ys.length ∧ ∀ j, DLe (xs.getD j .nilp) (ys.getD j .nilp)
 | [], [], _ => ⟨rfl, fun _ => .refl _⟩
 | x :: xs, y :: ys, ⟨h1, h2⟩ => by
  obtain ⟨g1, g2⟩ := DLs.get h2
  refine ⟨by simp [g1], fun j => ?_⟩
  cases j with
  | zero => exact h1
  | succ j => simpa using g2 j
 | [], _ :: _, h => h.elim
 | _ :: _, [], h => h.elim
theorem ipT_le {ds es : List DV} {off : Nat} (h : DLs ds es) : DLe (ipT ds off) (ipT es off) := by
 obtain ⟨h1, h2⟩ := h.get
 unfold ipT
 rw [h1]
 exact DLe.ip' (Nat.le_refl _) fun j _ => h2 _
def evOf {α : Type} [Inhabited α] (c : α → Nat → EV) (l : List α) : Nat → Nat → EV := fun i j => c (at' l i) j
section
variable {α : Type} [Inhabited α]
theorem evEq_set (c : α → Nat → EV) (l : List α) (n esz i off : Nat) (v : EV) (x : α) (hn : n = l.length) (h : ∀ j, j < esz → c x j = if j = off then v else c (at' l i) j) : EvEq n esz (stV (evOf c l) i off v) (evOf c (l.set i x)) := by
 intro i' hi' j hj
 unfold stV evOf
 by_cases e : i' = i
 ·subst e
  rw [at'_set_eq (by omega), h j hj]
  by_cases e2 : j = off <;> simp [e2]
 ·rw [at'_set_ne (Ne.symm e), if_neg (fun hh => e hh.1)]
theorem rowsApp (c : α → Nat → EV) (l m : List α) (esz : Nat) (elx : Nat → Nat → DV) (h : ∀ i, i < m.length → ∀ j, j < esz → EvOk (elx i j) (c (at' m i) j)) : RowsApp l.length m.length esz (evOf c l) elx (evOf c (l ++ m)) := by
 refine ⟨fun i hi j _ => ?_, fun i hi j hj => ?_⟩
 ·unfold evOf; rw [at'_append_left hi]
 ·unfold evOf
  rw [at'_append_right (by omega), Nat.add_sub_cancel_left]
  exact h i hi j hj
end
def scK (ks : List DV) : Nat → Nat → DV := fun i _ => ks.getD i .nilp
def scV (vsz : Nat) (vs : List CV) : Nat → Nat → CV := fun i j => vs.getD (i * vsz + j) (.d .nilp)
theorem Fn.nn {P : Program} {f : Nat} {esz len : Nat} {el : Nat → Nat → DV} {hin hout : List (Nat × Option Ob)} {res : TV} (h1 : Fn P f [.one (.d (.sl (some true) esz len el))] hin res hout) (h2 : len = 0 → Fn P f [.one (.d (.sl (some false) esz len el))] hin res hout) :
  Fn P f [.one (.d (.sl none esz len el))] hin res hout := by
 refine ⟨h1.1, fun B vs hF hi hr => ?_⟩
 match vs, hr with
 | [v], ⟨⟨a, cap, hv, _, _, h3, h4, h5⟩, _⟩ =>
  cases a with
  | none => exact (h2 (h3 rfl).1).2 B [v] hF hi ⟨⟨none, cap, hv, (fun e => by cases e), fun _ => rfl, h3, h4, h5⟩, trivial⟩
  | some ad => exact h1.2 B [v] hF hi ⟨⟨some ad, cap, hv, fun _ e => (by cases e), (fun e => by cases e), h3, h4, h5⟩, trivial⟩
 | [], hr => exact hr.elim
 | _ :: _ :: _, hr => exact hr.2.elim
end Sg
