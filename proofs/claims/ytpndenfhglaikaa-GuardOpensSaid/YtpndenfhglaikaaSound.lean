import Derived.Test.YtpndenfhglaikaaEff
import Derived.Laws.Alloc2
import Derived.Laws.Append
import Derived.Laws.AppendOwn
import Derived.Laws.OwnMore
import Derived.Laws.MakeOwn
import Derived.CallsIn
import Derived.AtR
set_option linter.all false
namespace Sg
open Go
def RowAt (F : Nat → Prop) (w : World) (k base cap E esz len : Nat) (el : Nat → Nat → DV) : Prop :=
 ∃ vs : List Value, w.heap[k]? = some (.cells (List.toArray vs) E (0, 0)) ∧ base + cap * esz ≤ vs.length ∧ len ≤ cap ∧ cap ≤ maxLen ∧
  ∀ i, i < len → ∀ j, j < esz → ∃ u, vs[base + (i * esz + j)]? = some u ∧ RepD F w (el i j) u
def RepV (F : Nat → Prop) (w : World) (S : Nat → Prop) (rb : Option Nat) : EV → Value → Prop
 | .d x, v => RepD F w x v
 | .row E esz len el, v => (len = 0 ∧ v = .slice none 0 0) ∨ ∃ k base cap, rb = some k ∧ S k ∧ v = .slice (some ⟨k, base, none⟩) len cap ∧ RowAt F w k base cap E esz len el
def RepW (ρ : Nat → Option Pl) (F : Nat → Prop) (w : World) (S : Nat → Prop) (rb : Nat → Nat → Option Nat) (el : Nat → Nat → EV) (ov : Option (Nat × Nat × CV)) (i j : Nat) (v : Value) : Prop :=
 match ov with
 | none => RepV F w S (rb i j) (el i j) v
 | some (i0, j0, c) => if i = i0 ∧ j = j0 then RepC ρ F w c v else RepV F w S (rb i j) (el i j) v
def RepA (ρ : Nat → Option Pl) (F : Nat → Prop) (w : World) (agg : Bool) (sz : Nat) (c : Nat → CV) (v : Value) : Prop :=
 ∃ s, asSV agg (takeV c 0 sz) = some s ∧ RepS ρ F w s v
def loopState (st : Nat) : LoopState := match st with | 0 => .ready | 1 => .busy | _ => .done
def loopPend (outs : List Code) (st : Nat) : Option Code := match st with | n + 2 => outs[n]? | _ => none
def RepO (ρ : Nat → Option Pl) (F : Nat → Prop) (w : World) (S : Nat → Prop) (b : Nat) : Ob → Prop
 | .cells E cs => ∃ k cap vs, ρ b = some (.blk k 0 cap) ∧ S k ∧ w.heap[k]? = some (.cells (List.toArray vs) E (0, 0)) ∧ RepL ρ F w cs vs
 | .fcells _ ds => ∃ k base cap, ρ b = some (.blk k base cap) ∧ ∀ j x, ds[j]? = some x → F k ∧ ∃ u, w.cell? ⟨k, base + j, none⟩ = some u ∧ RepD F w x u
 | .arr E esz len el => (ρ b = some .nil ∧ len = 0) ∨ ∃ k base cap, ρ b = some (.blk k base cap) ∧ S k ∧ RowAt F w k base cap E esz len el
 | .rows E esz len el ov => (ρ b = some .nil ∧ len = 0) ∨ ∃ k base cap, ∃ vs : List Value, ∃ rb : Nat → Nat → Option Nat, ρ b = some (.blk k base cap) ∧ S k ∧ w.heap[k]? = some (.cells (List.toArray vs) E (0, 0)) ∧ base + cap * esz ≤ vs.length ∧ len ≤ cap ∧ cap ≤ maxLen ∧
   (∀ i, i < len → ∀ j, j < esz → ∃ u, vs[base + (i * esz + j)]? = some u ∧ RepW ρ F w S rb el ov i j u) ∧
   (∀ i j i' j' k', rb i j = some k' → rb i' j' = some k' → i = i' ∧ j = j') ∧ (∀ i j, rb i j ≠ some k)
 | .map m => ∃ k base cap es, ρ b = some (.blk k base cap) ∧ S k ∧ w.heap[k]? = some (.map es es.size) ∧ es.size = m.len ∧ (∀ i, i < m.len → ∀ j, j < m.vsz → ∀ x ∈ (m.val i j).ment, x ∈ m.ms) ∧
   ∀ i, i < m.len → ∃ e, es[i]? = some e ∧ e.born = i ∧ RepA ρ F w m.kagg m.ksz (fun j => .d (m.key i j)) e.key ∧ RepA ρ F w m.vagg m.vsz (m.val i) e.val
 | .loop r st sl => ∃ k base cap fn tmps D, ρ b = some (.blk k base cap) ∧ S k ∧ st < r.outs.length + 2 ∧
   w.heap[k]? = some (.loop { state := loopState st, pending := loopPend r.outs st, fn, tmps, params := r.ps.toArray, assign := r.assign, body := r.body, defers := D }) ∧
   tmps.size = r.N ∧ ∀ t tv, get sl t = some tv → ∃ v, tmps[t]? = some v ∧ RepT ρ F w tv v
 | .coll => ∃ k base cap, ρ b = some (.blk k base cap) ∧ S k ∧ w.heap[k]? = some (.deferred (some []))
structure Base where
 w : World
 ρ : Nat → Option Pl
 F : Nat → Prop
 Ft : Nat → Prop
structure Fr (B : Base) (ρ : Nat → Option Pl) (F : Nat → Prop) (w : World) : Prop where
 os : w.os = B.w.os
 tape : w.tape = B.w.tape
 output : w.output = B.w.output
 size : B.w.heap.size ≤ w.heap.size
 mem : ∀ k, k < B.w.heap.size → ¬ B.Ft k → w.heap[k]? = B.w.heap[k]?
 rho : ∀ b p, B.ρ b = some p → ρ b = some p
 fz : ∀ k, F k → k < w.heap.size ∧ (B.F k ∨ B.Ft k ∨ B.w.heap.size ≤ k)
 bf : ∀ k, B.F k → F k
structure HIf (B : Base) (ρ : Nat → Option Pl) (F : Nat → Prop) (w : World) (h : Hp) (ft : Nat → Nat → Prop) : Prop where
 obj : ∀ b ob, h b = some (some ob) → RepO ρ F w (ft b) b ob
 blk : ∀ b ob k, h b = some (some ob) → ft b k → k < w.heap.size ∧ ¬ F k ∧ (B.Ft k ∨ B.w.heap.size ≤ k)
 dis : ∀ b b' ob ob' k, h b = some (some ob) → h b' = some (some ob') → ft b k → ft b' k → b = b'
 fresh : ∀ b, h b = none → ρ b = none
def HI (B : Base) (ρ : Nat → Option Pl) (F : Nat → Prop) (w : World) (h : Hp) : Prop := ∃ ft, HIf B ρ F w h ft
theorem HI.fresh {B : Base} {ρ : Nat → Option Pl} {F : Nat → Prop} {w : World} {h : Hp} (hi : HI B ρ F w h) : ∀ b, h b = none → ρ b = none := by
 obtain ⟨ft, hi⟩ := hi; exact hi.fresh
def upd (h : Hp) (hd : List (Nat × Option Ob)) : Hp := fun b => match get hd b with | some o => some o | none => h b
def hpOf (l : List (Nat × Option Ob)) : Hp := get l
def Enters (P : Program) (f : FuncId) : Prop := ∃ fn, P.funcs[f]? = some fn ∧ (fn.name == "runtime.NumGoroutine") = false ∧ fn.body.isNone = false
def Fn (P : Program) (f : FuncId) (args : List SV) (hin : List (Nat × Option Ob)) (res : TV) (hout : List (Nat × Option Ob)) : Prop :=
 Enters P f ∧ ∀ (B : Base) (vs : List Value), (∀ k, B.F k → k < B.w.heap.size) → HI B B.ρ B.F B.w (hpOf hin) → RepSs B.ρ B.F B.w args vs →
  Calls P f vs.toArray B.w fun e w' => ∃ v ρ' F', e = .returned v ∧ Fr B ρ' F' w' ∧ HI B ρ' F' w' (hpOf hout) ∧ RepT ρ' F' w' res v
def FW (r : Option Nat) : Fence := { Fence.wide with round := r }
def isDefer : Op → Bool
 | .defer _ => true
 | _ => false
theorem wpIn_of_wp {P : Program} {o : Oper} {a : Act} {w : World} {K : Act → World → Prop} {Q : Exit → Act → World → Prop} (r : Option Nat) (hd : isDefer o.op = false) (h : o.wp P a w K Q) : o.wpIn (FW r) 0 P a w K Q := by
 refine ⟨fun _ _ => trivial, ?_⟩
 rw [show o.semAt (FW r).round a.eval = execOp a.eval o from Oper.semAt_eq _ _ _ (fun c hc => by rw [hc] at hd; cases hd)]
 have key : ∀ {f : FuncId} {args : Array Value} {w' : World} {R : Ending → World → Prop}, Calls P f args w' R → CallsIn (FW r) (0 - 1) P f args w' R := fun hc => (callsIn_wide.2 hc : CallsIn Fence.wide 0 P _ _ _ _)
 unfold Oper.wp at h
 generalize (execOp a.eval o).run P w = res at h
 unfold Oper.upon at h
 unfold Oper.uponIn
 split at h
 ·exact h
 ·exact h
 ·exact h
 ·exact ⟨fun hh => by simp [FW, Fence.wide] at hh, key h⟩
 ·refine ⟨fun hh => by simp [FW, Fence.wide] at hh, fun c cs _ => ?_⟩
  obtain ⟨v, w', h1, h2⟩ := h c cs
  exact ⟨v, w', h1, stepsIn_wide.2 h2⟩
 ·exact h
 ·exact h.elim
def Good (P : Program) (B : Base) (ρ : Nat → Option Pl) (F : Nat → Prop) (w : World) (h : Hp) (o : Oper) (a : Act) (tv : TV) (hd : List (Nat × Option Ob)) : Prop :=
 ∀ (r : Option Nat) (K : Act → World → Prop) (Q : Exit → Act → World → Prop),
  (∀ v ρ' F' w', Gr ρ F w ρ' F' w' → Fr B ρ' F' w' → HI B ρ' F' w' (upd h hd) → RepT ρ' F' w' tv v → K (a.put o.dst v) w') → o.wpIn (FW r) 0 P a w K Q
def RepTs (ρ : Nat → Option Pl) (F : Nat → Prop) (w : World) : List TV → List Value → Prop
 | [], [] => True
 | c :: cs, v :: vs => RepT ρ F w c v ∧ RepTs ρ F w cs vs
 | _, _ => False
def All : List Prop → Prop
 | [] => True
 | c :: cs => c ∧ All cs
section
variable {P : Program} {B : Base} {ρ : Nat → Option Pl} {F : Nat → Prop} {w : World} {h : Hp} {o : Oper} {a : Act}
theorem good_of {tv : TV} {hd : List (Nat × Option Ob)} (hn : isDefer o.op = false) (hg : ∀ (K : Act → World → Prop) (Q : Exit → Act → World → Prop),
  (∀ v ρ' F' w', Gr ρ F w ρ' F' w' → Fr B ρ' F' w' → HI B ρ' F' w' (upd h hd) → RepT ρ' F' w' tv v → K (a.put o.dst v) w') → o.wp P a w K Q) : Good P B ρ F w h o a tv hd :=
 fun r K Q hK => wpIn_of_wp r hn (hg K Q hK)
theorem not_defer_of {x : Next} {w' : World} (hrun : (execOp a.eval o).run P w = .ok x w') (hx : ∀ d, x ≠ .defer d) : isDefer o.op = false := by
 cases ho : o.op <;> try rfl
 rename_i c
 simp only [execOp, ho] at hrun
 exfalso
 revert hrun
 rw [Sem.run_bind]
 cases (resolve a.eval c o.type).run P w with
 | halt _ _ => intro hh; cases hh
 | ok d w1 =>
  simp only [Result.andThen_ok]
  intro hh
  simp at hh
  exact hx d hh.1.symm
theorem good_same {tv : TV} {v : Value} (fr : Fr B ρ F w) (hi : HI B ρ F w h) (hrun : (execOp a.eval o).run P w = .ok (.value v) w) (hr : RepT ρ F w tv v) : Good P B ρ F w h o a tv [] := by
 refine good_of (not_defer_of hrun (fun _ h => by cases h)) fun K Q hK => ?_
 simp only [Oper.wp, hrun, Oper.upon]
 exact hK v ρ F w (.refl _ _ _) fr hi hr
theorem good_to {tv : TV} {hd : List (Nat × Option Ob)} {v : Value} {ρ' : Nat → Option Pl} {F' : Nat → Prop} {w' : World} (g : Gr ρ F w ρ' F' w') (fr : Fr B ρ' F' w') (hi : HI B ρ' F' w' (upd h hd))
  (hrun : (execOp a.eval o).run P w = .ok (.value v) w') (hr : RepT ρ' F' w' tv v) : Good P B ρ F w h o a tv hd := by
 refine good_of (not_defer_of hrun (fun _ h => by cases h)) fun K Q hK => ?_
 simp only [Oper.wp, hrun, Oper.upon]
 exact hK v ρ' F' w' g fr hi hr
theorem good_skip {hd : List (Nat × Option Ob)} {ρ' : Nat → Option Pl} {F' : Nat → Prop} {w' : World} (g : Gr ρ F w ρ' F' w') (fr : Fr B ρ' F' w') (hi : HI B ρ' F' w' (upd h hd))
  (hrun : (execOp a.eval o).run P w = .ok .skip w') : Good P B ρ F w h o a (.tup []) hd := by
 refine good_of (not_defer_of hrun (fun _ h => by cases h)) fun K Q hK => ?_
 simp only [Oper.wp, hrun, Oper.upon]
 exact hK undef ρ' F' w' g fr hi ⟨[], rfl, trivial⟩
theorem RepTs.one {x : TV} {vs : List Value} (h : RepTs ρ F w [x] vs) : ∃ v, vs = [v] ∧ RepT ρ F w x v := by
 match vs, h with
 | [v], ⟨h, _⟩ => exact ⟨v, rfl, h⟩
theorem RepTs.two {x y : TV} {vs : List Value} (h : RepTs ρ F w [x, y] vs) : ∃ v u, vs = [v, u] ∧ RepT ρ F w x v ∧ RepT ρ F w y u := by
 match vs, h with
 | [v, u], ⟨h, h', _⟩ => exact ⟨v, u, rfl, h, h'⟩
theorem run_underlyingT {t : TypeId} {ti : TI} (h : TOk1 P t ti) : (underlying t).run P w = .ok ti.d w := by
 simp [underlying, h.1]
theorem run_sizeOfT {t : TypeId} {ti : TI} (h : TOk1 P t ti) : (Go.sizeOf t).run P w = .ok ti.size w := by
 obtain ⟨_, i, z, hi, hs, _⟩ := h
 simp [Go.sizeOf, typeInfo, hi, hs]
theorem run_typeInfoT {t : TypeId} {ti : TI} (h : TOk1 P t ti) : ∃ i z, (typeInfo t).run P w = .ok i w ∧ P.info? t = some i ∧ i.size = ti.size ∧ i.bytes = ti.bytes ∧ i.zero = some z ∧ z.cells.toList = ti.zero := by
 obtain ⟨_, i, z, hi, h⟩ := h
 exact ⟨i, z, by simp [typeInfo, hi], hi, h⟩
theorem run_isAggT {t : TypeId} {ti : TI} (h : TOk1 P t ti) : (isAgg t).run P w = .ok ti.agg w := by
 rw [isAgg, Sem.run_bind, run_underlyingT h]
 simp only [Result.andThen_ok, TI.agg]
 cases ti.d <;> rfl
theorem run_zeroT {t : TypeId} {ti : TI} (h : TOk1 P t ti) : ∃ z, (zeroValue t).run P w = .ok z w ∧ z.cells.toList = ti.zero := by
 obtain ⟨i, z, h1, _, _, _, h2, h3⟩ := run_typeInfoT (w := w) h
 exact ⟨z, by simp [zeroValue, h1, h2], h3⟩
theorem add_none (k off n : Nat) : (⟨k, off, none⟩ : Addr).add n = ⟨k, off + n, none⟩ := by
 unfold Addr.add; split <;> simp_all
theorem add_none' {ad : Addr} (h : ad.spot = none) (n : Nat) : ad.add n = ⟨ad.block, ad.off + n, none⟩ := by
 cases ad; simp at h; subst h; exact add_none _ _ _
theorem run_loadVarT {t : TypeId} {ti : TI} (ht : TOk1 P t ti) {k off : Nat} {cs : List CV} {s : SV} (hs : asSV ti.agg cs = some s) (hl : cs.length = ti.size)
  (hc : ∀ j c, cs[j]? = some c → ∃ u, w.cell? ⟨k, off + j, none⟩ = some u ∧ RepC ρ F w c u) : ∃ v, (loadVar t ⟨k, off, none⟩).run P w = .ok v w ∧ RepS ρ F w s v := by
 have hex : ∃ vs : List Value, RepL ρ F w cs vs ∧ ∀ j v, vs[j]? = some v → w.cell? ⟨k, off + j, none⟩ = some v := by
  clear hl hs ht
  induction cs generalizing off with
  | nil => exact ⟨[], trivial, by simp⟩
  | cons c cs ih =>
   obtain ⟨u, hu, hr⟩ := hc 0 c rfl
   obtain ⟨vs, h1, h2⟩ := ih (off := off + 1) fun j c' hj => by
    obtain ⟨u', hu', hr'⟩ := hc (j + 1) c' (by simpa using hj)
    exact ⟨u', by rw [show off + 1 + j = off + (j + 1) by omega]; exact hu', hr'⟩
   refine ⟨u :: vs, ⟨hr, h1⟩, fun j v hj => ?_⟩
   cases j with
   | zero => simp at hj; subst hj; simpa using hu
   | succ j => simp at hj; have := h2 j v hj; rw [show off + (j + 1) = off + 1 + j by omega]; exact this
 obtain ⟨vs, hv, hcell⟩ := hex
 rw [loadVar, Sem.run_bind, run_isAggT ht]
 simp only [Result.andThen_ok]
 cases hagg : ti.agg with
 | true =>
  rw [hagg] at hs
  simp [asSV] at hs
  subst hs
  refine ⟨.agg vs.toArray, ?_, vs, rfl, hv⟩
  simp only [if_true, Sem.run_bind, run_sizeOfT ht, Result.andThen_ok]
  have := run_loadCells_list (P := P) (w := w) ⟨k, off, none⟩ vs fun j v hj => by rw [add_none]; exact hcell j v hj
  rw [← hl, ← hv.length]
  rw [this]
  simp
 | false =>
  rw [hagg] at hs
  match cs, hs, hl, vs, hv, hcell with
  | [c], hs, hl, [v], hv, hcell =>
   simp [asSV] at hs
   subst hs
   refine ⟨v, ?_, hv.1⟩
   have := hcell 0 v rfl
   simp at this
   simp [this]
end
end Sg
