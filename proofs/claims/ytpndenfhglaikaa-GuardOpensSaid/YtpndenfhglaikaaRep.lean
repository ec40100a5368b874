import Derived.Orders
import Derived.Laws.Sem
import Derived.Laws.World
import Derived.Laws.Cells
set_option linter.all false
namespace Sg
open Go
inductive DV where
 | int (k : IntKind) (n : Int)
 | bool (b : Bool)
 | str (s : ByteArray)
 | sl (nn : Option Bool) (esz len : Nat) (el : Nat → Nat → DV)
 | ip (n : Nat) (c : Nat → DV)
 | nilp
 | fn (f : FuncId) (n : Nat) (cap : Nat → DV)
 | nilf
 | nilm
inductive CV where
 | d (x : DV)
 | ptr (b off : Nat)
 | opt (b esz i off : Nat)
 | own (b : Nat) (nn : Bool) (len : Nat)
 | mp (b : Nat)
 | fn (f : FuncId) (nf n : Nat) (cap : Nat → CV)
 | yl (b : Nat)
inductive SV where
 | one (c : CV)
 | agg (cs : List CV)
inductive TV where
 | v (s : SV)
 | tup (l : List SV)
inductive EV where
 | d (x : DV)
 | row (E esz len : Nat) (el : Nat → Nat → DV)
structure LoopRec where
 ps : List Nat
 assign : Code
 body : Code
 N : Nat
 outs : List Code
structure MapO where
 K : TypeId
 V : TypeId
 kagg : Bool
 vagg : Bool
 ksz : Nat
 vsz : Nat
 len : Nat
 key : Nat → Nat → DV
 val : Nat → Nat → CV
 ms : List Nat
inductive Ob where
 | cells (E : TypeId) (cs : List CV)
 | fcells (E : TypeId) (ds : List DV)
 | arr (E esz len : Nat) (el : Nat → Nat → DV)
 | rows (E esz len : Nat) (el : Nat → Nat → EV) (ov : Option (Nat × Nat × CV))
 | map (m : MapO)
 | loop (r : LoopRec) (st : Nat) (sl : List (Nat × TV))
 | coll
inductive Pl where
 | nil
 | blk (k base cap : Nat)
def RepD (F : Nat → Prop) (w : World) : DV → Value → Prop
 | .int k n, v => v = .int k n
 | .bool b, v => v = .bool b
 | .str s, v => v = .string s
 | .sl nn esz len el, v => ∃ a cap, v = .slice a len cap ∧ (nn = some true → a ≠ none) ∧ (nn = some false → a = none) ∧ (a = none → len = 0 ∧ cap = 0) ∧ len ≤ cap ∧
   ∀ ad, a = some ad → (0 < len → ad.spot = none) ∧ ∀ i, i < len → ∀ j, j < esz → F ad.block ∧ ∃ u, w.cell? ⟨ad.block, ad.off + (i * esz + j), none⟩ = some u ∧ RepD F w (el i j) u
 | .ip n c, v => ∃ ad, v = .pointer (some ad) ∧ ad.spot = none ∧ ∀ j, j < n → F ad.block ∧ ∃ u, w.cell? ⟨ad.block, ad.off + j, none⟩ = some u ∧ RepD F w (c j) u
 | .nilp, v => v = .pointer none
 | .fn f n cap, v => ∃ vs : List Value, v = .func (.func f) #[] vs.toArray ∧ vs.length = n ∧ ∀ j u, vs[j]? = some u → RepD F w (cap j) u
 | .nilf, v => v = .nilFunc
 | .nilm, v => v = .map none
def RepC (ρ : Nat → Option Pl) (F : Nat → Prop) (w : World) : CV → Value → Prop
 | .d x, v => RepD F w x v
 | .ptr b off, v => ∃ k base cap, ρ b = some (.blk k base cap) ∧ v = .pointer (some ⟨k, base + off, none⟩)
 | .opt b esz i off, v => ∃ k base cap, ρ b = some (.blk k base cap) ∧ v = .pointer (some ⟨k, base + (i * esz + off), none⟩)
 | .own b nn len, v => (∃ k base cap, ρ b = some (.blk k base cap) ∧ v = .slice (some ⟨k, base, none⟩) len cap) ∨ (nn = false ∧ ρ b = some .nil ∧ len = 0 ∧ v = .slice none 0 0)
 | .mp b, v => ∃ k base cap, ρ b = some (.blk k base cap) ∧ v = .map (some k)
 | .fn f nf n cap, v => ∃ vs : List Value, v = .func (.func f) (vs.take nf).toArray (vs.drop nf).toArray ∧ vs.length = n ∧ ∀ j u, vs[j]? = some u → RepC ρ F w (cap j) u
 | .yl b, v => ∃ k base cap, ρ b = some (.blk k base cap) ∧ v = .func (.yield k) #[] #[]
def RepL (ρ : Nat → Option Pl) (F : Nat → Prop) (w : World) : List CV → List Value → Prop
 | [], [] => True
 | c :: cs, v :: vs => RepC ρ F w c v ∧ RepL ρ F w cs vs
 | _, _ => False
def RepS (ρ : Nat → Option Pl) (F : Nat → Prop) (w : World) : SV → Value → Prop
 | .one c, v => RepC ρ F w c v
 | .agg cs, v => ∃ vs : List Value, v = .agg vs.toArray ∧ RepL ρ F w cs vs
def RepSs (ρ : Nat → Option Pl) (F : Nat → Prop) (w : World) : List SV → List Value → Prop
 | [], [] => True
 | c :: cs, v :: vs => RepS ρ F w c v ∧ RepSs ρ F w cs vs
 | _, _ => False
def RepT (ρ : Nat → Option Pl) (F : Nat → Prop) (w : World) : TV → Value → Prop
 | .v s, v => RepS ρ F w s v
 | .tup l, v => ∃ vs : List Value, v = .tuple vs.toArray ∧ RepSs ρ F w l vs
structure Gr (ρ : Nat → Option Pl) (F : Nat → Prop) (w : World) (ρ' : Nat → Option Pl) (F' : Nat → Prop) (w' : World) : Prop where
 rho : ∀ b p, ρ b = some p → ρ' b = some p
 fz : ∀ k, F k → F' k
 mem : ∀ k, F k → w'.heap[k]? = w.heap[k]?
theorem Gr.refl (ρ : Nat → Option Pl) (F : Nat → Prop) (w : World) : Gr ρ F w ρ F w := ⟨fun _ _ h => h, fun _ h => h, fun _ _ => rfl⟩
theorem Gr.trans {ρ ρ' ρ'' : Nat → Option Pl} {F F' F'' : Nat → Prop} {w w' w'' : World} (h : Gr ρ F w ρ' F' w') (h' : Gr ρ' F' w' ρ'' F'' w'') : Gr ρ F w ρ'' F'' w'' :=
 ⟨fun b p e => h'.rho b p (h.rho b p e), fun k e => h'.fz k (h.fz k e), fun k e => (h'.mem k (h.fz k e)).trans (h.mem k e)⟩
theorem cell_of_heap {w w' : World} {k : Nat} (h : w'.heap[k]? = w.heap[k]?) (off : Nat) (s : Option Nat) : w'.cell? ⟨k, off, s⟩ = w.cell? ⟨k, off, s⟩ := by
 simp [World.cell?, h]
theorem RepD.gr {F F' : Nat → Prop} {w w' : World} (hF : ∀ k, F k → F' k) (hw : ∀ k, F k → w'.heap[k]? = w.heap[k]?) : ∀ {x : DV} {v : Value}, RepD F w x v → RepD F' w' x v := by
 intro x
 induction x with
 | int => intro v h; exact h
 | bool => intro v h; exact h
 | str => intro v h; exact h
 | nilp => intro v h; exact h
 | nilf => intro v h; exact h
 | nilm => intro v h; exact h
 | sl nn esz len el ih =>
  intro v h
  obtain ⟨a, cap, hv, h1, h2, h3, h3b, h4⟩ := h
  refine ⟨a, cap, hv, h1, h2, h3, h3b, fun ad ha => ⟨(h4 ad ha).1, fun i hi j hj => ?_⟩⟩
  obtain ⟨hf, u, hu, hr⟩ := (h4 ad ha).2 i hi j hj
  exact ⟨hF _ hf, u, by rw [cell_of_heap (hw _ hf)]; exact hu, ih i j hr⟩
 | ip n c ih =>
  intro v h
  obtain ⟨ad, hv, h1, h2⟩ := h
  refine ⟨ad, hv, h1, fun j hj => ?_⟩
  obtain ⟨hf, u, hu, hr⟩ := h2 j hj
  exact ⟨hF _ hf, u, by rw [cell_of_heap (hw _ hf)]; exact hu, ih j hr⟩
 | fn f n cap ih =>
  intro v h
  obtain ⟨vs, hv, h1, h2⟩ := h
  exact ⟨vs, hv, h1, fun j u hu => ih j (h2 j u hu)⟩
section
variable {ρ ρ' : Nat → Option Pl} {F F' : Nat → Prop} {w w' : World}
theorem RepC.gr (g : Gr ρ F w ρ' F' w') : ∀ {c : CV} {v : Value}, RepC ρ F w c v → RepC ρ' F' w' c v := by
 intro c
 induction c with
 | d x => intro v h; exact RepD.gr g.fz g.mem h
 | ptr b off => intro v h; obtain ⟨k, base, cap, h, e⟩ := h; exact ⟨k, base, cap, g.rho _ _ h, e⟩
 | opt b esz i off => intro v h; obtain ⟨k, base, cap, h, e⟩ := h; exact ⟨k, base, cap, g.rho _ _ h, e⟩
 | own b nn len =>
  intro v h
  rcases h with ⟨k, base, cap, h, e⟩ | ⟨h0, h, e⟩
  ·exact .inl ⟨k, base, cap, g.rho _ _ h, e⟩
  ·exact .inr ⟨h0, g.rho _ _ h, e⟩
 | mp b => intro v h; obtain ⟨k, base, cap, h, e⟩ := h; exact ⟨k, base, cap, g.rho _ _ h, e⟩
 | yl b => intro v h; obtain ⟨k, base, cap, h, e⟩ := h; exact ⟨k, base, cap, g.rho _ _ h, e⟩
 | fn f nf n cap ih => intro v h; obtain ⟨vs, e, hl, h⟩ := h; exact ⟨vs, e, hl, fun j u hu => ih j (h j u hu)⟩
theorem RepL.gr (g : Gr ρ F w ρ' F' w') : ∀ {cs : List CV} {vs : List Value}, RepL ρ F w cs vs → RepL ρ' F' w' cs vs
 | [], [], h => h
 | _ :: _, _ :: _, ⟨h, t⟩ => ⟨h.gr g, RepL.gr g t⟩
 | [], _ :: _, h => h
 | _ :: _, [], h => h
theorem RepS.gr (g : Gr ρ F w ρ' F' w') : ∀ {s : SV} {v : Value}, RepS ρ F w s v → RepS ρ' F' w' s v
 | .one _, _, h => RepC.gr g h
 | .agg _, _, ⟨vs, e, h⟩ => ⟨vs, e, h.gr g⟩
theorem RepSs.gr (g : Gr ρ F w ρ' F' w') : ∀ {cs : List SV} {vs : List Value}, RepSs ρ F w cs vs → RepSs ρ' F' w' cs vs
 | [], [], h => h
 | _ :: _, _ :: _, ⟨h, t⟩ => ⟨h.gr g, RepSs.gr g t⟩
 | [], _ :: _, h => h
 | _ :: _, [], h => h
theorem RepT.gr (g : Gr ρ F w ρ' F' w') : ∀ {s : TV} {v : Value}, RepT ρ F w s v → RepT ρ' F' w' s v
 | .v _, _, h => RepS.gr g h
 | .tup _, _, ⟨vs, e, h⟩ => ⟨vs, e, h.gr g⟩
theorem RepL.length : ∀ {cs : List CV} {vs : List Value}, RepL ρ F w cs vs → vs.length = cs.length
 | [], [], _ => rfl
 | _ :: _, _ :: _, ⟨_, t⟩ => by simp [RepL.length t]
 | [], _ :: _, h => h.elim
 | _ :: _, [], h => h.elim
theorem RepL.get : ∀ {cs : List CV} {vs : List Value}, RepL ρ F w cs vs → ∀ {j : Nat} {c : CV}, cs[j]? = some c → ∃ u, vs[j]? = some u ∧ RepC ρ F w c u
 | [], [], _, j, c, h => by simp at h
 | c0 :: _, v0 :: _, ⟨h0, t⟩, j, c, h => by
  cases j with
  | zero => simp at h; subst h; exact ⟨v0, rfl, h0⟩
  | succ j => simp at h; obtain ⟨u, hu, hr⟩ := RepL.get t h; exact ⟨u, by simpa using hu, hr⟩
 | [], _ :: _, h, _, _, _ => h.elim
 | _ :: _, [], h, _, _, _ => h.elim
theorem RepL.of_get : ∀ {cs : List CV} {vs : List Value}, vs.length = cs.length → (∀ (j : Nat) (c : CV), cs[j]? = some c → ∃ u, vs[j]? = some u ∧ RepC ρ F w c u) → RepL ρ F w cs vs
 | [], [], _, _ => trivial
 | c0 :: cs, v0 :: vs, hl, h => by
  refine ⟨?_, RepL.of_get (by simpa using hl) fun j c hc => ?_⟩
  ·obtain ⟨u, hu, hr⟩ := h 0 c0 rfl; simp at hu; subst hu; exact hr
  ·obtain ⟨u, hu, hr⟩ := h (j + 1) c (by simpa using hc); exact ⟨u, by simpa using hu, hr⟩
 | [], _ :: _, hl, _ => by simp at hl
 | _ :: _, [], hl, _ => by simp at hl
theorem RepL.append : ∀ {cs cs' : List CV} {vs vs' : List Value}, RepL ρ F w cs vs → RepL ρ F w cs' vs' → RepL ρ F w (cs ++ cs') (vs ++ vs')
 | [], _, [], _, _, h' => h'
 | _ :: _, _, _ :: _, _, ⟨h, t⟩, h' => ⟨h, RepL.append t h'⟩
 | [], _, _ :: _, _, h, _ => h.elim
 | _ :: _, _, [], _, h, _ => h.elim
end
end Sg
