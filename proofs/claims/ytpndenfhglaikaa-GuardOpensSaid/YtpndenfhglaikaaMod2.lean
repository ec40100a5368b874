import Derived.Test.YtpndenfhglaikaaMod
set_option linter.all false
namespace Sg
open Go
section
variable {rd : Option Nat} {P : Program} {B : Base} {N : Nat} {L : List Nat} {T : List (Nat × TI)} {Q : Exit → St → Prop} {st st' st'' : St}
def Imp (B : Base) (N : Nat) (L : List Nat) (st st' : St) : Prop := ∀ a w, Conc B N L st a w → Conc B N L st' a w
theorem Imp.refl : Imp B N L st st := fun _ _ h => h
theorem Imp.trans (h : Imp B N L st st') (h' : Imp B N L st' st'') : Imp B N L st st'' := fun a w hc => h' a w (h a w hc)
theorem Imp.le (h : StLe st st') : Imp B N L st st' := fun _ _ hc => hc.le h
theorem Imp.fin (fin : Fin) (ts : List Nat) {cs : List Prop} (he : finish L fin ts [] (rsOf st) = some (cs, st')) (hc : All cs) : Imp B N L st st' :=
 fun _ _ hconc => finish_conc (yb := fun _ => false) he hc (rc_of_conc hconc) hconc.ids
theorem awp_imp {c : Code} (h : Imp B N L st st') (hw : AWp rd P B N L c Q st') : AWp rd P B N L c Q st := fun a w hc => hw a w (h a w hc)
theorem awp_postI {c : Code} (hw : AWp rd P B N L c (fun e s => ∃ s', Imp B N L s s' ∧ Q e s') st) : AWp rd P B N L c Q st :=
 fun a w hc => wpIn_mono (hw a w hc) fun _ a' w' ⟨_, ⟨s', hi, hq⟩, h2⟩ => ⟨s', hq, hi a' w' h2⟩
theorem awp_reg (hT : TOk P T) {id : Nat} {ops : Array Oper} (st1 : St) (x : RegIn) {cs : List Prop} (he : regE (FnC P) T ops N L x st = some (cs, st1)) (hc : All cs) (hi : Imp B N L st1 st') (hQ : Q .normal st') : AWp rd P B N L (.region id ops false) Q st :=
 awp_postI (awp_region hT x he hc ⟨_, hi, hQ⟩)
theorem awp_regD (hT : TOk P T) (hm : P.follows .mixedOrders = true) {id : Nat} {ops : Array Oper} (st1 : St) (x : RegIn) (cl : List (Nat × List Nat)) {cs : List Prop} (he : regD (FnC P) T ops N L x cl st = some (cs, st1)) (hc : All cs) (hi : Imp B N L st1 st') (hQ : Q .normal st') :
  AWp rd P B N L (.region id ops true) Q st :=
 awp_postI (awp_region_draw hT hm x cl he hc ⟨_, hi, hQ⟩)
theorem Imp.adoptO {t b : Nat} {esz0 : Nat} {el0 : Nat → Nat → DV} {ob : Ob} (hob : ∀ ρ F w S, ρ b = some .nil → RepO ρ F w S b ob) (ht : get st.slots t = some (.v (.one (.d (.sl (some false) esz0 0 el0))))) (hb : get st.heap b = none) :
  Imp B N L st ⟨(t, .v (.one (.own b false 0))) :: st.slots, (b, some ob) :: st.heap⟩ := by
 intro a w hc
 obtain ⟨⟨ρ, F, hfr, hhi, hs, dn⟩, hid, sz⟩ := hc
 have hρ := hhi.fresh b hb
 have hn := hhi.newNil hfr (b := b) (nob := ob) hb (hob _ _ _ _ (updR_same _ _))
 have g : Gr ρ F w (updR ρ b .nil) F w := ⟨updR_mono hρ, fun _ h => h, fun _ _ => rfl⟩
 have hhp : upd (hpOf st.heap) [(b, some ob)] = hpOf ((b, some ob) :: st.heap) := by
  funext x; rw [upd_one]; simp only [hpOf]; rw [get_cons]
 rw [hhp] at hn
 refine ⟨⟨updR ρ b .nil, F, { hfr with rho := fun b' p' e => updR_mono hρ b' p' (hfr.rho b' p' e) }, hn, fun t' tv ht' => ?_, dn⟩, hid, sz⟩
 rw [get_cons] at ht'
 split at ht'
 ·rename_i e
  cases ht'; subst e
  obtain ⟨v, hv, hr⟩ := hs t _ ht
  obtain ⟨ad, cap, e1, _, h2, h3, _⟩ := hr
  have := h2 rfl; subst this
  obtain ⟨_, rfl⟩ := h3 rfl
  exact ⟨v, hv, .inr ⟨rfl, updR_same _ _, rfl, e1⟩⟩
 ·obtain ⟨v, hv, hr⟩ := hs t' tv ht'
  exact ⟨v, hv, hr.gr g⟩
theorem Imp.adopt {t b E esz : Nat} {esz0 : Nat} {el0 el : Nat → Nat → DV} (ht : get st.slots t = some (.v (.one (.d (.sl (some false) esz0 0 el0))))) (hb : get st.heap b = none) :
  Imp B N L st ⟨(t, .v (.one (.own b false 0))) :: st.slots, (b, some (.arr E esz 0 el)) :: st.heap⟩ := Imp.adoptO (fun _ _ _ _ h => .inl ⟨h, rfl⟩) ht hb
theorem Imp.adoptR {t b E esz : Nat} {esz0 : Nat} {el0 : Nat → Nat → DV} {el : Nat → Nat → EV} {ov : Option (Nat × Nat × CV)} (ht : get st.slots t = some (.v (.one (.d (.sl (some false) esz0 0 el0))))) (hb : get st.heap b = none) :
  Imp B N L st ⟨(t, .v (.one (.own b false 0))) :: st.slots, (b, some (.rows E esz 0 el ov)) :: st.heap⟩ := Imp.adoptO (fun _ _ _ _ h => .inl ⟨h, rfl⟩) ht hb
theorem Imp.adoptC {p q b E esz : Nat} {E0 : TypeId} {cs : List CV} {esz0 : Nat} {el0 : Nat → Nat → DV} {ob : Ob} (hob : ∀ ρ F w S, ρ b = some .nil → RepO ρ F w S b ob) (hp : get st.heap p = some (some (.cells E0 cs))) (hq : cs[q]? = some (.d (.sl (some false) esz0 0 el0))) (hb : get st.heap b = none) :
  Imp B N L st ⟨st.slots, (p, some (.cells E0 (cs.set q (.own b false 0)))) :: (b, some ob) :: st.heap⟩ := by
 intro a w hc
 obtain ⟨⟨ρ, F, hfr, hhi, hs, dn⟩, hid, sz⟩ := hc
 have hρ := hhi.fresh b hb
 have hn := hhi.newNil hfr (b := b) (nob := ob) hb (hob _ _ _ _ (updR_same _ _))
 have g : Gr ρ F w (updR ρ b .nil) F w := ⟨updR_mono hρ, fun _ h => h, fun _ _ => rfl⟩
 have hhp : upd (hpOf st.heap) [(b, some ob)] = hpOf ((b, some ob) :: st.heap) := by
  funext x; rw [upd_one]; simp only [hpOf]; rw [get_cons]
 rw [hhp] at hn
 have hpb : p ≠ b := fun e => by rw [e, hb] at hp; cases hp
 refine ⟨⟨updR ρ b .nil, F, { hfr with rho := fun b' p' e => updR_mono hρ b' p' (hfr.rho b' p' e) }, ?_, fun t' tv ht' => ?_, dn⟩, hid, sz⟩
 ·obtain ⟨ft, hn⟩ := hn
  have hp' : hpOf ((b, some ob) :: st.heap) p = some (some (.cells E0 cs)) := by simp only [hpOf]; rw [get_cons, if_neg (Ne.symm hpb)]; exact hp
  have hu : ∀ x, hpOf ((p, some (.cells E0 (cs.set q (.own b false 0)))) :: (b, some ob) :: st.heap) x = if p = x then some (some (.cells E0 (cs.set q (.own b false 0)))) else hpOf ((b, some ob) :: st.heap) x := fun x => by simp only [hpOf]; rw [get_cons]
  have hex : ∀ x ox, hpOf ((p, some (.cells E0 (cs.set q (.own b false 0)))) :: (b, some ob) :: st.heap) x = some (some ox) → ∃ ox0, hpOf ((b, some ob) :: st.heap) x = some (some ox0) := fun x ox hh => by
   rw [hu] at hh; split at hh
   ·rename_i e; subst e; exact ⟨_, hp'⟩
   ·exact ⟨_, hh⟩
  refine ⟨ft, fun x ox hh => ?_, fun x ox k hh hf => ?_, fun x y ox oy k h1 h2 => ?_, fun x hh => ?_⟩
  ·rw [hu] at hh; split at hh
   ·rename_i e; subst e; cases hh
    obtain ⟨k, cap, vs, x1, x0, x2, x3⟩ := hn.obj p _ hp'
    refine ⟨k, cap, vs, x1, x0, x2, RepL.of_get (by rw [x3.length, List.length_set]) fun j c hj => ?_⟩
    rw [List.getElem?_set] at hj
    split at hj
    ·rename_i e; subst e
     split at hj
     ·cases hj
      obtain ⟨u, hu', hr⟩ := x3.get hq
      refine ⟨u, hu', ?_⟩
      obtain ⟨ad, cap', e1, _, h2, h3, _⟩ := hr
      have := h2 rfl; subst this
      obtain ⟨_, rfl⟩ := h3 rfl
      exact .inr ⟨rfl, updR_same _ _, rfl, e1⟩
     ·cases hj
    ·exact x3.get hj
   ·exact hn.obj x ox hh
  ·obtain ⟨ox0, h0⟩ := hex x ox hh; exact hn.blk x ox0 k h0 hf
  ·obtain ⟨o1, g1⟩ := hex x ox h1
   obtain ⟨o2, g2⟩ := hex y oy h2
   exact hn.dis x y o1 o2 k g1 g2
  ·rw [hu] at hh; split at hh
   ·cases hh
   ·exact hn.fresh x hh
 ·obtain ⟨v, hv, hr⟩ := hs t' tv ht'
  exact ⟨v, hv, hr.gr g⟩
theorem Imp.ob {b : Nat} {x y : Ob} (hb : get st.heap b = some (some x)) (hxy : ∀ ρ F w S, RepO ρ F w S b x → RepO ρ F w S b y) : Imp B N L st ⟨st.slots, (b, some y) :: st.heap⟩ := by
 intro a w hc
 obtain ⟨⟨ρ, F, hfr, ⟨ft, hi⟩, hs, dn⟩, hid, sz⟩ := hc
 have hu : ∀ c, hpOf ((b, some y) :: st.heap) c = if b = c then some (some y) else hpOf st.heap c := fun c => by simp only [hpOf]; rw [get_cons]
 have hex : ∀ c oc, hpOf ((b, some y) :: st.heap) c = some (some oc) → ∃ oc0, hpOf st.heap c = some (some oc0) := fun c oc hh => by
  rw [hu] at hh; split at hh
  ·rename_i e; subst e; exact ⟨_, hb⟩
  ·exact ⟨_, hh⟩
 refine ⟨⟨ρ, F, hfr, ⟨ft, fun c oc hh => ?_, fun c oc k hh hf => ?_, fun c d oc od k h1 h2 => ?_, fun c hh => ?_⟩, hs, dn⟩, hid, sz⟩
 ·rw [hu] at hh; split at hh
  ·rename_i e; subst e; cases hh; exact hxy _ _ _ _ (hi.obj b x hb)
  ·exact hi.obj c oc hh
 ·obtain ⟨o0, h0⟩ := hex c oc hh; exact hi.blk c o0 k h0 hf
 ·obtain ⟨o1, g1⟩ := hex c oc h1
  obtain ⟨o2, g2⟩ := hex d od h2
  exact hi.dis c d o1 o2 k g1 g2
 ·rw [hu] at hh; split at hh
  ·cases hh
  ·exact hi.fresh c hh
theorem beq_false_of {a b : Nat} (h : a ≠ b) : Nat.beq a b = false := by
 cases hb : Nat.beq a b with
 | true => exact absurd (Nat.eq_of_beq_eq_true hb) h
 | false => rfl
theorem awp_blockB {id : Nat} {c : Code} (h : AWp rd P B N L c (fun e st' => match e with | .exit id' => bif Nat.beq id' id then Q .normal st' else Q (.exit id') st' | e => Q e st') st) : AWp rd P B N L (.block id c) Q st := by
 refine awp_block (awp_mono h fun e st' hh => ?_)
 cases e with
 | exit id' =>
  simp only at hh ⊢
  split
  ·rename_i e; subst e; simpa using hh
  ·rename_i e; rw [show Nat.beq id' id = false from beq_false_of e] at hh; exact hh
 | normal => exact hh
 | goto l => exact hh
 | ret => exact hh
 | panic c => exact hh
 | outgrown => exact hh
def ExK {β X : Type} (K1 : β → Prop) (K2 : X → Prop) : Ex β X → Prop
 | .brk z => K1 z
 | .ret v => K2 v
def avoid (av : List Nat) : Exit → Prop
 | .exit i => memL i av = false
 | _ => True
def LQ {σ β X : Type} (b : Nat) (av : List Nat) (S : σ → St) (Sb : β → St) (Qo : X → Exit → St → Prop) : Flow σ (Ex β X) → Exit → St → Prop
 | .next s, e, st => e = .normal ∧ st = S s
 | .done (.brk z), e, st => e = .exit b ∧ st = Sb z
 | .done (.ret v), e, st => e ≠ .normal ∧ e ≠ .exit b ∧ avoid av e ∧ Qo v e st
def JQ {β X : Type} (av : List Nat) (S : β → St) (Qo : X → Exit → St → Prop) : Ex β X → Exit → St → Prop
 | .brk z, e, st => e = .normal ∧ st = S z
 | .ret v, e, st => e ≠ .normal ∧ avoid av e ∧ Qo v e st
theorem awp_blockLoop {σ β X : Type} {b : Nat} {c : Code} (av : List Nat) (S : σ → St) (Sb : β → St) (Qo : X → Exit → St → Prop) {body : σ → Option (Flow σ (Ex β X))} {n : Nat} {s : σ} {o : Ex β X} (h : loopO body n s = some o)
  (hb : ∀ s f, body s = some f → AWp rd P B N L c (LQ b av S Sb Qo f) (S s))
  (hk : ExK (fun z => ∃ s', Imp B N L (Sb z) s' ∧ Q .normal s') (fun v => ∀ e st', e ≠ .normal → avoid av e → Qo v e st' → Q e st') o) : AWp rd P B N L (.block b (.loop c)) Q (S s) := by
 refine awp_postI ?_
 refine awp_blockR (fun e st' => LQ b av S Sb Qo (.done o) e st') (awp_loopM S (fun r e st' => LQ b av S Sb Qo (.done r) e st') h fun s f hf => awp_mono (hb s f hf) fun e st' hq => ?_) fun e st' hR => ?_
 ·cases f with
  | next s' => exact hq
  | done r =>
   refine ⟨?_, hq⟩
   cases r with
   | brk z => obtain ⟨rfl, _⟩ := hq; exact Exit.noConfusion
   | ret v => exact hq.1
 ·cases o with
  | brk z =>
   obtain ⟨rfl, rfl⟩ := hR
   simp only [if_true]
   exact hk
  | ret v =>
   obtain ⟨h1, h2, h4, h3⟩ := hR
   cases e with
   | normal => exact absurd rfl h1
   | exit id =>
    simp only
    rw [if_neg (fun hh => h2 (by rw [hh]))]
    exact ⟨_, .refl, hk _ _ h1 h4 h3⟩
   | goto l => exact ⟨_, .refl, hk _ _ h1 h4 h3⟩
   | ret => exact ⟨_, .refl, hk _ _ h1 h4 h3⟩
   | panic c => exact ⟨_, .refl, hk _ _ h1 h4 h3⟩
   | outgrown => exact ⟨_, .refl, hk _ _ h1 h4 h3⟩
theorem LQ_next {σ β X : Type} {b : Nat} {av : List Nat} {S : σ → St} {Sb : β → St} {Qo : X → Exit → St → Prop} {s : σ} (h : st = S s) : LQ b av S Sb Qo (.next s) .normal st := ⟨rfl, h⟩
theorem LQ_brk {σ β X : Type} {b : Nat} {av : List Nat} {S : σ → St} {Sb : β → St} {Qo : X → Exit → St → Prop} {z : β} (h : st = Sb z) : LQ b av S Sb Qo (.done (.brk z)) (.exit b) st := ⟨rfl, h⟩
theorem LQ_ret {σ β X : Type} {b : Nat} {av : List Nat} {S : σ → St} {Sb : β → St} {Qo : X → Exit → St → Prop} {v : X} {e : Exit} (h1 : e ≠ .normal) (h2 : e ≠ .exit b) (h3 : avoid av e) (h : Qo v e st) : LQ b av S Sb Qo (.done (.ret v)) e st := ⟨h1, h2, h3, h⟩
theorem av_beq {i b : Nat} {av : List Nat} (h : avoid av (.exit i)) (hb : memL b av = true) : Nat.beq i b = false := by
 cases hh : Nat.beq i b with
 | false => rfl
 | true => have := Nat.eq_of_beq_eq_true hh; subst this; have h' : memL i av = false := h; rw [hb] at h'; cases h'
theorem av_ret {av : List Nat} : avoid av .ret := trivial
theorem ret_nn : Exit.ret ≠ .normal := Exit.noConfusion
theorem ret_ne (b : Nat) : Exit.ret ≠ .exit b := Exit.noConfusion
end
theorem OLe_len {E esz n m : Nat} {f : Nat → Nat → DV} (h : n = m) : OLe (some (.arr E esz n f)) (some (.arr E esz m f)) := h ▸ .refl _
theorem OLe_cells {E : TypeId} {cs ds : List CV} (h : CLes cs ds) : OLe (some (.cells E cs)) (some (.cells E ds)) := by
 rintro ρ F w S b ⟨k, cap, vs, h1, h0, h2, h3⟩
 exact ⟨k, cap, vs, h1, h0, h2, h.rep h3⟩
end Sg
