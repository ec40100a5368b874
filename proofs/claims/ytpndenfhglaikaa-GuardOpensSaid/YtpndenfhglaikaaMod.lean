import Derived.Test.YtpndenfhglaikaaAwp2
import Derived.KernelRfl
set_option linter.all false
namespace Sg
open Go
def at' {α : Type} [Inhabited α] (l : List α) (i : Nat) : α := l.getD i default
def elOf {α : Type} [Inhabited α] (c : α → Nat → DV) (l : List α) : Nat → Nat → DV := fun i j => c (at' l i) j
def slD {α : Type} [Inhabited α] (nn : Option Bool) (esz : Nat) (c : α → Nat → DV) (l : List α) : DV := .sl nn esz l.length (elOf c l)
def arD {α : Type} [Inhabited α] (E esz : Nat) (c : α → Nat → DV) (l : List α) : Ob := .arr E esz l.length (elOf c l)
def intC (k : IntKind) (n : Int) (_ : Nat) : DV := .int k n
def boolC (b : Bool) (_ : Nat) : DV := .bool b
def slC {α : Type} [Inhabited α] (esz : Nat) (c : α → Nat → DV) (l : List α) (_ : Nat) : DV := slD none esz c l
def ipT (ds : List DV) (off : Nat) : DV := .ip (ds.length - off) fun j => ds.getD (off + j) .nilp
def ybf (l : List (Nat × Bool)) (j : Nat) : Bool := match get l j with | some b => b | none => false
def anf (l : List (Nat × Ann)) (j : Nat) : Ann := match get l j with | some b => b | none => .none
def frf (l : List (Nat × Nat)) (j : Nat) : Nat := match get l j with | some b => b | none => 0
def asO {α : Type} (c : Prop) [Decidable c] (k : Option α) : Option α := if c then k else none
theorem asO_elim {α : Type} {c : Prop} [Decidable c] {k : Option α} {r : α} (h : asO c k = some r) {G : Prop} (f : c → k = some r → G) : G := by
 unfold asO at h
 split at h
 ·rename_i hc; exact f hc h
 ·cases h
theorem asO_pos {α : Type} {c : Prop} [Decidable c] (hc : c) (k : Option α) : asO c k = k := if_pos hc
theorem bind_elim {α β : Type} {m : Option α} {k : α → Option β} {r : β} (h : m.bind k = some r) {G : Prop} (f : ∀ y, m = some y → k y = some r → G) : G := by
 cases m with
 | none => cases h
 | some y => exact f y rfl h
theorem bif_elim {α : Type} {b : Bool} {x y : Option α} {r : α} (h : (bif b then x else y) = some r) {G : Prop} (f : b = true → x = some r → G) (g : b = false → y = some r → G) : G := by
 cases b with
 | true => exact f rfl h
 | false => exact g rfl h
theorem gcall {α : Type} {c : Bool} {m d : Option α} {y : α} (h : (bif c then m else d) = some y) (hc : c = true) : m = some y := by rw [hc] at h; exact h
inductive Flow (σ ρ : Type) where
 | next (s : σ)
 | done (r : ρ)
inductive Ex (β ρ : Type) where
 | brk (b : β)
 | ret (r : ρ)
def loopO {σ ρ : Type} (body : σ → Option (Flow σ ρ)) : Nat → σ → Option ρ
 | 0, _ => none
 | n + 1, s => match body s with
  | none => none
  | some (.next s') => loopO body n s'
  | some (.done r) => some r
def FUEL : Nat := 1180591620717411303424
theorem loopO_succ {σ ρ : Type} (body : σ → Option (Flow σ ρ)) (n : Nat) (s : σ) : loopO body (n + 1) s = match body s with | none => none | some (.next s') => loopO body n s' | some (.done r) => some r := rfl
section
variable {rd : Option Nat} {P : Program} {B : Base} {N : Nat} {L : List Nat} {T : List (Nat × TI)} {Q : Exit → St → Prop} {st st' : St}
theorem awp_loopM {σ ρ : Type} {c : Code} (S : σ → St) (R : ρ → Exit → St → Prop) {body : σ → Option (Flow σ ρ)} {n : Nat} {s : σ} {r : ρ} (h : loopO body n s = some r)
  (hb : ∀ s f, body s = some f → AWp rd P B N L c (fun e st' => match f with | .next s' => e = .normal ∧ st' = S s' | .done r => e ≠ .normal ∧ R r e st') (S s)) : AWp rd P B N L (.loop c) (R r) (S s) := by
 refine awp_loop (fun (x : σ × Nat) => S x.1) (fun x => loopO body x.2 x.1 = some r) (fun x => x.2) (s, n) h fun x hx => ?_
 obtain ⟨s, n⟩ := x
 cases n with
 | zero => cases hx
 | succ n =>
  simp only [loopO_succ] at hx
  cases hbs : body s with
  | none => rw [hbs] at hx; cases hx
  | some f =>
   rw [hbs] at hx
   refine awp_mono (hb s f hbs) fun e st' hq => ?_
   cases f with
   | next s' =>
    obtain ⟨rfl, rfl⟩ := hq
    exact ⟨(s', n), rfl, hx, by simp⟩
   | done r' =>
    obtain ⟨hne, hR⟩ := hq
    simp only [Option.some.injEq] at hx
    subst hx
    cases e with
    | normal => exact absurd rfl hne
    | exit id => exact hR
    | goto l => exact hR
    | ret => exact hR
    | panic c => exact hR
    | outgrown => exact hR
theorem awp_seqR {x y : Code} (R : Exit → St → Prop) (h1 : AWp rd P B N L x R st) (h2 : ∀ e st', R e st' → match e with | .normal => AWp rd P B N L y Q st' | e => Q e st') : AWp rd P B N L (.seq x y) Q st :=
 awp_seq (awp_mono h1 h2)
theorem awp_blockR {id : Nat} {c : Code} (R : Exit → St → Prop) (h1 : AWp rd P B N L c R st) (h2 : ∀ e st', R e st' → match e with | .exit id' => if id' = id then Q .normal st' else Q (.exit id') st' | e => Q e st') : AWp rd P B N L (.block id c) Q st :=
 awp_block (awp_mono h1 h2)
end
section
variable {α : Type} [Inhabited α]
theorem at'_append_left {l m : List α} {i : Nat} (h : i < l.length) : at' (l ++ m) i = at' l i := by
 simp [at', List.getD_eq_getElem?_getD, List.getElem?_append_left h]
theorem at'_append_right {l m : List α} {i : Nat} (h : l.length ≤ i) : at' (l ++ m) i = at' m (i - l.length) := by
 simp [at', List.getD_eq_getElem?_getD, List.getElem?_append_right h]
theorem at'_set_eq {l : List α} {i : Nat} {x : α} (h : i < l.length) : at' (l.set i x) i = x := by
 simp [at', List.getD_eq_getElem?_getD, h]
theorem at'_set_ne {l : List α} {i j : Nat} {x : α} (h : i ≠ j) : at' (l.set i x) j = at' l j := by
 simp [at', List.getD_eq_getElem?_getD, List.getElem?_set_ne h]
theorem at'_replicate {n i : Nat} {x : α} (h : i < n) : at' (List.replicate n x) i = x := by
 simp [at', List.getD_eq_getElem?_getD, h]
theorem arrEq_app (c : α → Nat → DV) (l m : List α) (esz : Nat) : ArrEq (l.length + m.length) esz (apEl (elOf c l) l.length (elOf c m)) (elOf c (l ++ m)) := by
 intro i hi j hj
 unfold apEl elOf
 split
 ·rename_i h; rw [at'_append_left h]
 ·rename_i h; rw [at'_append_right (by omega)]
theorem arrEq_set (c : α → Nat → DV) (l : List α) (esz i off : Nat) (ds : List DV) (x : α) (h : ∀ j, j < esz → c x j = if off ≤ j ∧ j < off + ds.length then ds.getD (j - off) .nilp else c (at' l i) j) : ArrEq l.length esz (stEls (elOf c l) i off ds) (elOf c (l.set i x)) := by
 intro i' hi' j hj
 unfold stEls elOf
 by_cases e : i' = i
 ·subst e
  rw [at'_set_eq hi', h j hj]
  by_cases e2 : off ≤ j ∧ j < off + ds.length <;> simp [e2]
 ·rw [at'_set_ne (Ne.symm e), if_neg (fun hh => e hh.1)]
theorem arrEq_set' (c : α → Nat → DV) (l : List α) (n esz i off : Nat) (ds : List DV) (x : α) (hn : n = l.length) (h : ∀ j, j < esz → c x j = if off ≤ j ∧ j < off + ds.length then ds.getD (j - off) .nilp else c (at' l i) j) : ArrEq n esz (stEls (elOf c l) i off ds) (elOf c (l.set i x)) := hn ▸ arrEq_set c l esz i off ds x h
theorem arrEq_rep (c : α → Nat → DV) (n esz : Nat) (z : List DV) (x : α) (h : ∀ j, j < esz → z.getD j .nilp = c x j) : ArrEq n esz (fun _ j => z.getD j .nilp) (elOf c (List.replicate n x)) := by
 intro i hi j hj
 unfold elOf
 show z.getD j .nilp = _
 rw [at'_replicate hi, h j hj]
theorem arrEq_refl (n esz : Nat) (f : Nat → Nat → DV) : ArrEq n esz f f := fun _ _ _ _ => rfl
end
def gB : List (Bool × Bool) → Bool
 | [] => true
 | (b, w) :: l => (b == w) && gB l
theorem gB_of {yb : Nat → Bool} : ∀ {g : List (Nat × Bool)}, gP yb g → gB (g.map fun p => (yb p.1, p.2)) = true
 | [], _ => rfl
 | (j, w) :: g, ⟨h1, h2⟩ => by simp [gB, h1, gB_of h2]
def vD (x : DV) : TV := .v (.one (.d x))
def vI (n : Int) : TV := .v (.one (.d (.int .i64 n)))
def vB (b : Bool) : TV := .v (.one (.d (.bool b)))
def vP (b off : Nat) : TV := .v (.one (.ptr b off))
def vO (b : Nat) (nn : Bool) (len : Nat) : TV := .v (.one (.own b nn len))
def sD (x : DV) : SV := .one (.d x)
def sI (n : Int) : SV := .one (.d (.int .i64 n))
def sB (b : Bool) : SV := .one (.d (.bool b))
def cI (n : Int) : CV := .d (.int .i64 n)
def cB (b : Bool) : CV := .d (.bool b)
theorem DLe.nil' {nn : Option Bool} {esz esz' : Nat} {f g : Nat → Nat → DV} : DLe (.sl nn esz 0 f) (.sl none esz' 0 g) := by
 rintro F w v ⟨a, cap, hv, h1, h2, h3, h4, h5⟩
 exact ⟨a, cap, hv, by simp, by simp, h3, h4, fun ad ha => ⟨(h5 ad ha).1, fun i hi => by omega⟩⟩
theorem DLe.nn' {nn : Option Bool} {esz len : Nat} {f : Nat → Nat → DV} : DLe (.sl nn esz len f) (.sl none esz len f) := .sl (.inl rfl) fun _ _ _ _ => .refl _
theorem DLe.ip' {n m : Nat} {c d : Nat → DV} (hm : m ≤ n) (h : ∀ j, j < m → DLe (c j) (d j)) : DLe (.ip n c) (.ip m d) := by
 rintro F w v ⟨ad, hv, h1, h2⟩
 refine ⟨ad, hv, h1, fun j hj => ?_⟩
 obtain ⟨hf, u, hu, hr⟩ := h2 j (by omega)
 exact ⟨hf, u, hu, h j hj F w u hr⟩
theorem Fn.le {P : Program} {f : Nat} {args args' : List SV} {hin hout : List (Nat × Option Ob)} {res : TV} (h : Fn P f args hin res hout) (hl : SLes args' args) : Fn P f args' hin res hout :=
 ⟨h.1, fun B vs hF hi hr => h.2 B vs hF hi (hl.rep hr)⟩
section
variable {rd : Option Nat} {P : Program} {B : Base} {N : Nat} {L : List Nat} {Q : Exit → St → Prop} {st st' : St}
end
def zl (i : TypeInfo) : List Value := match i.zero with | some v => v.cells.toList | none => []
theorem tokF {P : Program} {t : TypeId} : (false = true → P.stoodInHeld t = false ∧ P.eqGuardType P.depth t = false) := fun h => Bool.noConfusion h
theorem tok1 {P : Program} {t : TypeId} {i : TypeInfo} {d : TypeDesc} (hu : P.underlying t = some d) (hi : P.info? t = some i) (hz : i.zero.isSome = true) {e : Bool} : TOk1 P t ⟨d, i.size, i.bytes, zl i, e⟩ := by
 obtain ⟨z, hz'⟩ := Option.isSome_iff_exists.1 hz
 exact ⟨hu, i, z, hi, rfl, rfl, hz', by simp [zl, hz']⟩
theorem zokOf {P : Program} {t : TypeId} {agg : Bool} (h : (match P.info? t with | some i => (match i.zero with | some z => zshape agg z | none => true) | none => true) = true) : ZOk P t agg := by
 intro i z hi hz
 rw [hi] at h
 simp only [hz] at h
 exact h
end Sg
