import Derived.Test.YtpndenfhglaikaaSound9
import Derived.OrdersIn
set_option linter.all false
namespace Sg
open Go
structure Ent where
 g : List (Nat × Bool)
 tv : TV
 src : Option Nat
abbrev Slots := Nat → Option Ent
def gP (yb : Nat → Bool) : List (Nat × Bool) → Prop
 | [] => True
 | (j, b) :: g => yb j = b ∧ gP yb g
def memG (x : Nat × Bool) : List (Nat × Bool) → Bool
 | [] => false
 | y :: l => bif Nat.beq x.1 y.1 && (x.2 == y.2) then true else memG x l
def subG : List (Nat × Bool) → List (Nat × Bool) → Bool
 | [], _ => true
 | x :: l, m => bif memG x m then subG l m else false
theorem memG_gP {yb : Nat → Bool} {x : Nat × Bool} : ∀ {m : List (Nat × Bool)}, memG x m = true → gP yb m → yb x.1 = x.2
 | [], h, _ => by simp [memG] at h
 | y :: l, h, hg => by
  simp only [memG] at h
  cases hb : (Nat.beq x.1 y.1 && (x.2 == y.2)) with
  | true =>
   simp only [Bool.and_eq_true, beq_iff_eq] at hb
   rw [Nat.eq_of_beq_eq_true hb.1, hb.2]; exact hg.1
  | false => simp only [hb, cond_false] at h; exact memG_gP h hg.2
theorem subG_gP {yb : Nat → Bool} {m : List (Nat × Bool)} (hg : gP yb m) : ∀ {l : List (Nat × Bool)}, subG l m = true → gP yb l
 | [], _ => trivial
 | x :: l, h => by
  simp only [subG] at h
  cases hb : memG x m with
  | true => simp only [hb, cond_true] at h; exact ⟨memG_gP hb hg, subG_gP hg h⟩
  | false => simp [hb] at h
def opd (s : Slots) : Operand → Option Ent
 | .tmp t => s t
 | .const v => match cval v with | some d => some ⟨[], .v (.one (.d d)), none⟩ | none => none
 | .func f => some ⟨[], .v (.one (.d (.fn f 0 fun _ => .nilp))), none⟩
 | .global _ => none
def opds (s : Slots) (g : List (Nat × Bool)) : List Operand → Option (List TV)
 | [] => some []
 | x :: xs => match opd s x, opds s g xs with
  | some e, some l => bif subG e.g g then some (e.tv :: l) else none
  | _, _ => none
structure Core where
 conds : List Prop
 ent : Ent
 hd : List (Nat × Option Ob)
 ft : List Nat
section
variable (Fc : Cl → List SV → List (Nat × Option Ob) → TV → List (Nat × Option Ob) → Prop) (T : List (Nat × TI)) (ops : List Oper) (yb : Nat → Bool) (an : Nat → Ann) (fr : Nat → Nat) (N : Nat)
def guardOf (s : Slots) (o : Oper) : Option (List (Nat × Bool) × List Prop) :=
 match o.guard with
 | none => some ([], [])
 | some (j, want) =>
  match ops[j]? with
  | some oj => match oj.dst with
   | some d => match s d with
    | some ⟨gj, .v (.one (.d (.bool b))), some j'⟩ => bif Nat.beq j j' then some ((j, want) :: gj, [b = yb j]) else none
    | _ => none
   | none => none
  | none => none
def pickE (s : Slots) (g : List (Nat × Bool)) (c a b : Operand) : Option (List Prop × TV) :=
 match opd s c, opd s a, opd s b with
 | some ⟨gc, .v (.one (.d (.bool bc))), some jc⟩, some ⟨ga, .v (.one (.d (.bool x))), _⟩, some ⟨gb, .v (.one (.d (.bool y))), _⟩ =>
  bif subG gc g && subG ga ((jc, true) :: g) && subG gb ((jc, false) :: g) then some ([bc = yb jc], .v (.one (.d (.bool (bif bc then x else y))))) else none
 | _, _, _ => none
def wrapC (g : List (Nat × Bool)) (l : List Prop) : List Prop :=
 match g, l with
 | [], l => l
 | _, [] => []
 | g, l => [gP yb g → All l]
def dstOk (N : Nat) : Option Nat → Bool
 | some d => Nat.blt d N
 | none => true
def isNilL {α : Type} : List α → Bool
 | [] => true
 | _ => false
def core (i : Nat) (s : Slots) (h : Hp) : Option Core :=
 match ops[i]? with
 | none => none
 | some o =>
  match guardOf ops yb s o with
  | none => none
  | some (g, c0) =>
   bif dstOk N o.dst then
    match o.op with
    | .pick c a b => match pickE yb s g c a b with
     | some (cs, tv) => some ⟨c0 ++ wrapC yb g cs, ⟨g, tv, some i⟩, [], []⟩
     | none => none
    | _ =>
     match an i with
     | .skip => some ⟨c0 ++ [¬ gP yb g], ⟨g, .v (.one (.d (.bool false))), some i⟩, [], []⟩
     | _ =>
     match opds s g o.op.operands.toList with
     | none => none
     | some xs =>
      let ft := foot (an i) (fr i) o.op xs
      match eff Fc T (fr i) (an i) o.op xs (ft.map h) with
      | none => none
      | some E => bif subL (E.hd.map (·.1)) ft then some ⟨c0 ++ (wrapC yb g E.conds ++ (bif isNilL g || isNilL E.hd then [] else [gP yb g])), ⟨g, E.tv, some i⟩, E.hd, ft⟩ else none
   else none
def putS (s : Slots) (d : Option Nat) (e : Ent) : Slots :=
 match d with
 | some d => fun t => bif Nat.beq t d then some e else s t
 | none => s
structure RS where
 s : Slots
 h : Hp
def step (i : Nat) (r : RS) : Option (List Prop × RS) :=
 match core Fc T ops yb an fr N i r.s r.h with
 | some c => some (c.conds, ⟨putS r.s ((ops[i]?).bind (·.dst)) c.ent, upd r.h c.hd⟩)
 | none => none
def run : List Nat → RS → Option (List Prop × RS)
 | [], r => some ([], r)
 | i :: l, r => match step Fc T ops yb an fr N i r with
  | some (c, r1) => match run l r1 with
   | some (c', r2) => some (c ++ c', r2)
   | none => none
  | none => none
end
theorem All_append : ∀ {l m : List Prop}, All (l ++ m) ↔ All l ∧ All m
 | [], m => by simp [All]
 | c :: l, m => by simp [All, All_append, and_assoc]
theorem wrapC_all {yb : Nat → Bool} {g : List (Nat × Bool)} {l : List Prop} (h : All (wrapC yb g l)) (hg : gP yb g) : All l := by
 unfold wrapC at h
 split at h
 ·exact h
 ·trivial
 ·exact h.1 hg
def RepE (ρ : Nat → Option Pl) (F : Nat → Prop) (w : World) (yb : Nat → Bool) (e : Ent) (v : Value) : Prop :=
 (gP yb e.g → RepT ρ F w e.tv v) ∧ (¬ gP yb e.g → v = undef)
def Marks (B : Base) (F : Nat → Prop) (w : World) (ds : List Deferred) : Prop :=
 ∃ Ds : List Nat, ds = Ds.map (fun D => { target := .collected D, args := #[] }) ∧ Ds.Nodup ∧ ∀ D ∈ Ds, F D ∧ B.w.heap.size ≤ D ∧ w.heap[D]? = some (.deferred (some []))
theorem Marks.gr {B : Base} {ρ ρ' : Nat → Option Pl} {F F' : Nat → Prop} {w w' : World} {ds : List Deferred} (g : Gr ρ F w ρ' F' w') (h : Marks B F w ds) : Marks B F' w' ds := by
 obtain ⟨Ds, h1, h2, h3⟩ := h
 exact ⟨Ds, h1, h2, fun D hD => ⟨g.fz D (h3 D hD).1, (h3 D hD).2.1, by rw [g.mem D (h3 D hD).1]; exact (h3 D hD).2.2⟩⟩
theorem Marks.none {B : Base} {F : Nat → Prop} {w : World} : Marks B F w [] := ⟨[], rfl, List.nodup_nil, fun _ h => by simp at h⟩
structure RC (B : Base) (yb : Nat → Bool) (N : Nat) (r : RS) (a : Act) (w : World) : Prop where
 ex : ∃ ρ F, Fr B ρ F w ∧ HI B ρ F w r.h ∧ (∀ t e, r.s t = some e → ∃ v, a.tmps[t]? = some v ∧ RepE ρ F w yb e v) ∧ Marks B F w a.defers
 sz : a.tmps.size = N
section
variable {P : Program} {B : Base} {T : List (Nat × TI)} {ops : Array Oper} {yb : Nat → Bool} {an : Nat → Ann} {fr : Nat → Nat} {N : Nat} {rd : Option Nat} {Q : Exit → Act → World → Prop}
theorem opd_rep {ρ : Nat → Option Pl} {F : Nat → Prop} {w : World} {s : Slots} {a : Act} (hs : ∀ t e, s t = some e → ∃ v, a.tmps[t]? = some v ∧ RepE ρ F w yb e v) {x : Operand} {e : Ent} (he : opd s x = some e) (hg : gP yb e.g) :
  RepT ρ F w e.tv (a.eval x) := by
 cases x with
 | tmp t =>
  obtain ⟨v, hv, hr⟩ := hs t e he
  simp [Act.eval, hv]
  exact hr.1 hg
 | const v =>
  simp only [opd] at he
  split at he
  ·rename_i d hd; cases he; exact cval_rep hd
  ·cases he
 | func f => simp only [opd] at he; cases he; exact ⟨[], rfl, rfl, by simp⟩
 | global g => simp [opd] at he
theorem opds_rep {ρ : Nat → Option Pl} {F : Nat → Prop} {w : World} {s : Slots} {a : Act} (hs : ∀ t e, s t = some e → ∃ v, a.tmps[t]? = some v ∧ RepE ρ F w yb e v) {g : List (Nat × Bool)} (hg : gP yb g) :
  ∀ {l : List Operand} {xs : List TV}, opds s g l = some xs → RepTs ρ F w xs (l.map a.eval)
 | [], xs, h => by simp [opds] at h; subst h; trivial
 | x :: l, xs, h => by
  simp only [opds] at h
  split at h
  ·rename_i e ys h1 h2
   cases hb : subG e.g g with
   | false => simp [hb] at h
   | true =>
    simp only [hb, cond_true] at h
    cases h
    exact ⟨opd_rep hs h1 (subG_gP hg hb), opds_rep hs hg h2⟩
  ·cases h
theorem putS_get {s : Slots} {d : Nat} {e : Ent} (t : Nat) : putS s (some d) e t = if t = d then some e else s t := by
 show (bif Nat.beq t d then some e else s t) = _
 cases h : Nat.beq t d with
 | true => simp [Nat.eq_of_beq_eq_true h]
 | false => simp [Nat.ne_of_beq_eq_false h]
theorem rc_put {r : RS} {a : Act} {w w' : World} {ρ ρ' : Nat → Option Pl} {F F' : Nat → Prop} {h' : Hp} {dst : Option Nat} {e : Ent} {v : Value} (hs : ∀ t e, r.s t = some e → ∃ v, a.tmps[t]? = some v ∧ RepE ρ F w yb e v)
  (sz : a.tmps.size = N) (dn : Marks B F w a.defers) (hd : dstOk N dst = true) (g : Gr ρ F w ρ' F' w') (f : Fr B ρ' F' w') (hi : HI B ρ' F' w' h') (hr : RepE ρ' F' w' yb e v) :
  RC B yb N ⟨putS r.s dst e, h'⟩ (a.put dst v) w' := by
 have old : ∀ t e, r.s t = some e → ∃ v, a.tmps[t]? = some v ∧ RepE ρ' F' w' yb e v := fun t e ht => by
  obtain ⟨u, hu, h1, h2⟩ := hs t e ht
  exact ⟨u, hu, fun hg => (h1 hg).gr g, h2⟩
 cases dst with
 | none => exact ⟨⟨ρ', F', f, hi, old, dn.gr g⟩, sz⟩
 | some d =>
  have hlt : d < N := Nat.le_of_ble_eq_true (n := d + 1) hd
  refine ⟨⟨ρ', F', f, hi, fun t e' ht => ?_, dn.gr g⟩, by simp [Act.put, sz]⟩
  have ht : putS r.s (some d) e t = some e' := ht
  rw [putS_get] at ht
  by_cases e0 : t = d
  ·subst e0
   rw [if_pos rfl] at ht; cases ht
   exact ⟨v, by simp [Act.put, sz, hlt], hr⟩
  ·rw [if_neg e0] at ht
   obtain ⟨u, hu, hr'⟩ := old t e' ht
   exact ⟨u, by simp only [Act.put]; rw [Array.getElem?_setIfInBounds_ne (Ne.symm e0)]; exact hu, hr'⟩
theorem step_sound (hT : TOk P T) {i : Nat} {r r' : RS} {cs : List Prop} {a : Act} {w : World} {K : Act → World → Prop} (hst : step (FnC P) T ops.toList yb an fr N i r = some (cs, r')) (hc : All cs) (hrc : RC B yb N r a w)
  (hK : ∀ a' w', RC B yb N r' a' w' → K a' w') : wpOpIn (FW rd) 0 P ops Q i K a w := by
 obtain ⟨⟨ρ, F, hfr, hhi, hs, dn⟩, sz⟩ := hrc
 unfold step at hst
 split at hst
 ·rename_i c hcore
  cases hst
  unfold core at hcore
  split at hcore
  ·cases hcore
  ·rename_i o ho
   have ho' : ops[i]? = some o := by simpa using ho
   have hdst : (ops.toList[i]?).bind (·.dst) = o.dst := by rw [ho]; rfl
   rw [hdst] at hK
   split at hcore
   ·cases hcore
   ·rename_i g c0 hgd
    have hguard : All c0 → ((gP yb g ∧ Region.wanted o (yielded ops a.tmps) = true) ∨ (¬ gP yb g ∧ Region.wanted o (yielded ops a.tmps) = false)) := by
     intro hc0
     unfold guardOf at hgd
     split at hgd
     ·rename_i hno
      cases hgd
      left; exact ⟨trivial, by simp [Region.wanted, hno]⟩
     ·rename_i j want hgo
      split at hgd
      ·rename_i oj hoj
       split at hgd
       ·rename_i d hd
        split at hgd
        ·rename_i gj b j' hsd
         cases hb : Nat.beq j j' with
         | false => simp [hb] at hgd
         | true =>
          simp only [hb, cond_true] at hgd
          cases hgd
          obtain ⟨hbj, _⟩ := hc0
          obtain ⟨v, hv, hr1, hr2⟩ := hs d _ hsd
          have hoj' : ops[j]? = some oj := by simpa using hoj
          have hy : yielded ops a.tmps j = match v with | .bool b => some b | _ => none := by
           simp only [yielded, hoj', Option.bind_some, hd, hv]
           cases v <;> rfl
          have hw : Region.wanted o (yielded ops a.tmps) = (yielded ops a.tmps j == some want) := by simp [Region.wanted, hgo]
          by_cases hgj : gP yb gj
          ·have hvb : v = .bool b := hr1 hgj
           subst hvb
           simp only at hy
           by_cases hbw : b = want
           ·left; subst hbw; exact ⟨⟨hbj.symm, hgj⟩, by rw [hw, hy]; simp⟩
           ·right; exact ⟨fun hh => hbw (hbj.trans hh.1), by rw [hw, hy]; simpa using hbw⟩
          ·have hvu : v = undef := hr2 hgj
           subst hvu
           right; exact ⟨fun hh => hgj hh.2, by rw [hw, hy]; simp [undef]⟩
        ·cases hgd
       ·cases hgd
      ·cases hgd
    cases hdok : dstOk N o.dst with
    | false => simp [hdok] at hcore
    | true =>
     simp only [hdok, cond_true] at hcore
     unfold wpOpIn
     simp only [ho']
     split at hcore
     ·-- pick
      rename_i x y z hop
      split at hcore
      ·rename_i cs tv hpk
       cases hcore
       rw [All_append] at hc
       rcases hguard hc.1 with ⟨hg, hw⟩ | ⟨hg, hw⟩
       ·simp only [hw, if_true]
        refine wpIn_of_wp rd (by rw [hop]; rfl) ?_
        have hcs := wrapC_all hc.2 hg
        unfold pickE at hpk
        split at hpk
        ·rename_i gc bc jc ga p sa gb q sb h1 h2 h3
         cases hb : (subG gc g && subG ga ((jc, true) :: g) && subG gb ((jc, false) :: g)) with
         | false => simp [hb] at hpk
         | true =>
          simp only [hb, cond_true] at hpk
          cases hpk
          simp only [Bool.and_eq_true] at hb
          obtain ⟨hbc, _⟩ := hcs
          have hx : a.eval x = .bool bc := opd_rep hs h1 (subG_gP hg hb.1.1)
          have hres : ∃ v, (execOp a.eval o).run P w = .ok (.value v) w ∧ v = .bool (bif bc then p else q) := by
           cases bc with
           | true =>
            have hy : a.eval y = .bool p := opd_rep hs h2 (subG_gP (m := (jc, true) :: g) ⟨hbc.symm, hg⟩ hb.1.2)
            exact ⟨_, by simp [execOp, hop, hx, asBool], hy⟩
           | false =>
            have hz : a.eval z = .bool q := opd_rep hs h3 (subG_gP (m := (jc, false) :: g) ⟨hbc.symm, hg⟩ hb.2)
            exact ⟨_, by simp [execOp, hop, hx, asBool], hz⟩
          obtain ⟨v, hrun, hv⟩ := hres
          simp only [Oper.wp, hrun, Oper.upon]
          exact hK _ _ (rc_put hs sz dn hdok (.refl _ _ _) hfr hhi ⟨fun _ => hv, fun hn => absurd hg hn⟩)
        ·cases hpk
       ·simp only [hw]
        exact ⟨fun _ _ => trivial, hK _ _ (rc_put hs sz dn hdok (.refl _ _ _) hfr hhi ⟨fun hh => absurd hh hg, fun _ => rfl⟩)⟩
      ·cases hcore
     ·split at hcore
      ·-- known not to be carried out
       cases hcore
       rw [All_append] at hc
       rcases hguard hc.1 with ⟨hg, hw⟩ | ⟨hg, hw⟩
       ·exact absurd hg hc.2.1
       ·simp only [hw]
        exact ⟨fun _ _ => trivial, hK _ _ (rc_put hs sz dn hdok (.refl _ _ _) hfr hhi ⟨fun hh => absurd hh hg, fun _ => rfl⟩)⟩
      split at hcore
      ·cases hcore
      ·rename_i xs hxs
       split at hcore
       ·cases hcore
       ·rename_i E hE
        cases hb : subL (E.hd.map (·.1)) (foot (an i) (fr i) o.op xs) with
        | false => simp [hb] at hcore
        | true =>
         simp only [hb, cond_true] at hcore
         cases hcore
         rw [All_append, All_append] at hc
         rcases hguard hc.1 with ⟨hg, hw⟩ | ⟨hg, hw⟩
         ·simp only [hw, if_true]
          exact eff_sound hT hE (wrapC_all hc.2.1 hg) rfl hfr hhi (opds_rep hs hg hxs) rd K Q fun v ρ' F' w' g' f' hi' hr' =>
           hK _ _ (rc_put hs sz dn hdok g' f' hi' ⟨fun _ => hr', fun hn => absurd hg hn⟩)
         ·simp only [hw]
          have hnil : E.hd = [] := by
           cases g with
           | nil => exact absurd trivial hg
           | cons _ _ =>
            cases hh : E.hd with
            | nil => rfl
            | cons _ _ =>
             have h2 := hc.2.2
             rw [hh] at h2
             exact absurd h2.1 hg
          rw [hnil] at hK
          exact ⟨fun _ _ => trivial, hK _ _ (rc_put hs sz dn hdok (.refl _ _ _) hfr hhi ⟨fun hh => absurd hh hg, fun _ => rfl⟩)⟩
 ·cases hst
theorem run_sound (hT : TOk P T) : ∀ {l : List Nat} {r r' : RS} {cs : List Prop} {a : Act} {w : World}, run (FnC P) T ops.toList yb an fr N l r = some (cs, r') → All cs → RC B yb N r a w →
  (∀ a' w', RC B yb N r' a' w' → Q .normal a' w') → wpOpsIn (FW rd) 0 P ops Q l a w
 | [], r, r', cs, a, w, hr, hc, hrc, hQ => by
  simp [run] at hr
  obtain ⟨rfl, rfl⟩ := hr
  exact hQ a w hrc
 | i :: l, r, r', cs, a, w, hr, hc, hrc, hQ => by
  simp only [run] at hr
  split at hr
  ·rename_i c r1 h1
   split at hr
   ·rename_i c' r2 h2
    cases hr
    rw [All_append] at hc
    rw [wpOpsIn_cons]
    exact step_sound hT h1 hc.1 hrc fun a' w' h' => run_sound hT h2 hc.2 h' hQ
   ·cases hr
  ·cases hr
end
end Sg
