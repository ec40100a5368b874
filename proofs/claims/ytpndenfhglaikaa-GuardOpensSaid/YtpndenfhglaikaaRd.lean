import Derived.Test.YtpndenfhglaikaaReown
import Derived.Deep.Slices
import Derived.OpenShut
import Derived.Carry
set_option linter.all false
namespace Sg
open Go Go.ChangeShapes Go.WideShapes Go.RowKit Go.Deep
def AllB (w : World) (k : Nat) : Prop := k < w.heap.size
theorem cell_lt {w : World} {k off : Nat} {u : Value} (h : w.cell? ⟨k, off, none⟩ = some u) : k < w.heap.size := by
 unfold World.cell? at h
 cases e : w.heap[k]? with
 | none => simp [e] at h
 | some o => exact (Array.getElem?_eq_some_iff.mp e).1
theorem cell_spot {w : World} {a : Addr} {u : Value} (h : w.cell? a = some u) : a.spot = none := by
 unfold World.cell? at h
 cases e : a.spot with
 | none => rfl
 | some s =>
  split at h
  ·simp [e] at h
  ·cases h
structure Rd (P : Program) (t : TypeId) (n : Nat) {α : Type} (c : α → Nat → DV) (S : α → Prop) : Prop where
 size : P.cellsOf t = n
 rd : ∀ {H : Type} {enc : TypeId × Value → H} {w : World} {fuel : Nat} {cs : List Value} {x : DataW H × List MemPlace}, DataW.trod enc P w 0 (fun _ => true) true fuel t cs = some x →
  ∃ a : α, S a ∧ cs.length = n ∧ ∀ j, j < n → ∃ u, cs[j]? = some u ∧ RepD (AllB w) w (c a j) u
section
variable {P : Program} {t e : TypeId}
theorem Rd.int (ht : P.underlying t = some (.int .i64)) (hs : P.cellsOf t = 1) : Rd P t 1 (intC .i64) (fun n => -9223372036854775808 ≤ n ∧ n ≤ 9223372036854775807) := by
 refine ⟨hs, fun h => ?_⟩
 obtain ⟨n, rfl, _, hw⟩ := DataW.trod_int ht h
 refine ⟨n, by simpa [Lit.wf, IntKind.min, IntKind.max, IntKind.signed, IntKind.bits] using hw, rfl, fun j hj => ?_⟩
 have : j = 0 := by omega
 subst this; exact ⟨_, rfl, rfl⟩
theorem Rd.bool (ht : P.underlying t = some .bool) (hs : P.cellsOf t = 1) : Rd P t 1 boolC (fun _ => True) := by
 refine ⟨hs, fun h => ?_⟩
 obtain ⟨b, rfl, _⟩ := DataW.trod_bool ht h
 refine ⟨b, trivial, rfl, fun j hj => ?_⟩
 have : j = 0 := by omega
 subst this; exact ⟨_, rfl, rfl⟩
open Classical in
theorem Rd.slice {n : Nat} {α : Type} [Inhabited α] {c : α → Nat → DV} {S : α → Prop} (ht : P.underlying t = some (.slice e)) (hs : P.cellsOf t = 1) (hn : 0 < n) (he : Rd P e n c S) : Rd P t 1 (slC n c) (fun l => l.length ≤ 9223372036854775807 ∧ ∀ x ∈ l, S x) := by
 refine ⟨hs, fun {H enc w fuel cs x} h => ?_⟩
 rcases open_slice ht h with ⟨rfl, _⟩ | ⟨a, len, cap, m, fu, D, Pl, rfl, hb, hl, hm, hmm, _, hx⟩
 ·refine ⟨[], ⟨by simp, by simp⟩, rfl, fun j hj => ?_⟩
  have : j = 0 := by omega
  subst this
  exact ⟨_, rfl, none, 0, rfl, by simp, by simp, by simp, Nat.le_refl _, by simp⟩
 ·simp only [if_true] at hmm
  subst hmm
  have hel : ∀ i, i < m → ∃ y : α, S y ∧ ∀ j, j < n → a.spot = none ∧ ∃ u, w.cell? ⟨a.block, a.off + (i * n + j), none⟩ = some u ∧ RepD (AllB w) w (c y j) u := by
   intro i hi
   obtain ⟨cs', h1, h2⟩ := hx i hi
   rw [he.size] at h1
   obtain ⟨y, hy, hlen, hc⟩ := he.rd h2
   obtain ⟨_, hcl, hat⟩ := World.cells?_some h1
   obtain ⟨cs0, h10, h20⟩ := hx 0 (by omega)
   rw [he.size] at h10
   obtain ⟨y0, _, hlen0, hc0⟩ := he.rd h20
   obtain ⟨_, _, hat0⟩ := World.cells?_some h10
   obtain ⟨u0, hu0, _⟩ := hc0 0 hn
   have hsp : a.spot = none := by
    have := (hat0 0 hn).trans hu0
    simp only [Nat.zero_mul] at this
    have h3 := cell_spot this
    simpa [Addr.add] using h3
   refine ⟨y, hy, fun j hj => ⟨hsp, ?_⟩⟩
   obtain ⟨u, hu, hr⟩ := hc j hj
   refine ⟨u, ?_, hr⟩
   have := (hat j hj).trans hu
   rw [add_none' hsp, add_none' rfl] at this
   rw [← this]; simp only [Nat.add_assoc]
  let pick : Nat → α := fun i => if h : i < m then Classical.choose (hel i h) else default
  have hpick : ∀ i, i < m → S (pick i) ∧ ∀ j, j < n → a.spot = none ∧ ∃ u, w.cell? ⟨a.block, a.off + (i * n + j), none⟩ = some u ∧ RepD (AllB w) w (c (pick i) j) u := by
   intro i hi
   show S (dite _ _ _) ∧ _
   simp only [pick, dif_pos hi]
   exact Classical.choose_spec (hel i hi)
  let l : List α := (List.range len).map pick
  have hll : l.length = len := by simp [l]
  have hat : ∀ i, i < len → at' l i = pick i := fun i hi => by simp [at', l, hi]
  refine ⟨l, ⟨by rw [hll]; exact Nat.le_trans (Nat.le_trans hl hm) (by decide), fun x hx => ?_⟩, rfl, fun j hj => ?_⟩
  ·obtain ⟨i, hi, rfl⟩ := List.mem_map.mp hx
   exact (hpick i (Nat.lt_of_lt_of_le (List.mem_range.mp hi) hl)).1
  ·have : j = 0 := by omega
   subst this
   refine ⟨_, rfl, some a, m, ?_, by simp, by simp, by simp, by rw [hll]; exact hl, fun ad ha => ?_⟩
   ·simp [hll]
   ·cases ha
    refine ⟨fun h0 => ?_, fun i hi j hj => ?_⟩
    ·exact ((hpick 0 (by omega)).2 0 hn).1
    ·rw [hll] at hi
     obtain ⟨_, u, hu, hr⟩ := (hpick i (by omega)).2 j hj
     exact ⟨cell_lt hu, u, hu, by show RepD _ _ (c (at' l i) j) u; rw [hat i hi]; exact hr⟩
theorem field_cells {n off : Nat} {α : Type} {c : α → Nat → DV} {w : World} {cs : List Value} {a : α} (h : ∀ j, j < n → ∃ u, ((cs.drop off).take n)[j]? = some u ∧ RepD (AllB w) w (c a j) u) :
  ∀ j, j < n → ∃ u, cs[off + j]? = some u ∧ RepD (AllB w) w (c a j) u := by
 intro j hj
 obtain ⟨u, hu, hr⟩ := h j hj
 rw [List.getElem?_take_of_lt hj, List.getElem?_drop] at hu
 exact ⟨u, hu, hr⟩
theorem Rd.fields {fs : Array Field} {n : Nat} (ht : P.underlying t = some (.struct fs)) (hs : P.cellsOf t = n) {H : Type} {enc : TypeId × Value → H} {w : World} {fuel : Nat} {cs : List Value} {x : DataW H × List MemPlace}
  (h : DataW.trod enc P w 0 (fun _ => true) true fuel t cs = some x) : cs.length = n ∧ ∀ (i : Nat) (f : Field), fs[i]? = some f → ∃ y, DataW.trod enc P w 0 (fun _ => true) true (fuel - 1) f.type ((cs.drop f.offset).take (P.cellsOf f.type)) = some y := by
 obtain ⟨xs, m, rfl, _, hl, hxl, hf⟩ := DataW.trod_struct ht h
 refine ⟨by rw [hl, hs], fun i f hi => ?_⟩
 have hlt := (Array.getElem?_eq_some_iff.mp hi).1
 have := hf i f hi
 rw [List.getElem?_eq_getElem (by omega)] at this
 exact ⟨_, this⟩
theorem Rd.field {n off : Nat} {α : Type} {c : α → Nat → DV} {S : α → Prop} (he : Rd P e n c S) {H : Type} {enc : TypeId × Value → H} {w : World} {fuel : Nat} {cs : List Value}
  (h : ∃ y, DataW.trod enc P w 0 (fun _ => true) true fuel e ((cs.drop off).take (P.cellsOf e)) = some y) : ∃ a : α, S a ∧ ∀ j, j < n → ∃ u, cs[off + j]? = some u ∧ RepD (AllB w) w (c a j) u := by
 obtain ⟨y, hy⟩ := h
 rw [he.size] at hy
 obtain ⟨a, ha, hl, hc⟩ := he.rd hy
 exact ⟨a, ha, field_cells hc⟩
theorem Rd.elems {m n : Nat} (ht : P.underlying t = some (.array m e)) (hs : P.cellsOf t = n) {H : Type} {enc : TypeId × Value → H} {w : World} {fuel : Nat} {cs : List Value} {x : DataW H × List MemPlace}
  (h : DataW.trod enc P w 0 (fun _ => true) true fuel t cs = some x) : cs.length = n ∧ ∀ (i : Nat), i < m → ∃ y, DataW.trod enc P w 0 (fun _ => true) true (fuel - 1) e ((cs.drop (i * P.cellsOf e)).take (P.cellsOf e)) = some y := by
 obtain ⟨xs, q, rfl, _, hl, hxl, hf⟩ := DataW.trod_array ht h
 refine ⟨by rw [hl, hs], fun i hi => ?_⟩
 have := hf i hi
 rw [List.getElem?_eq_getElem (by omega)] at this
 exact ⟨_, this⟩
end
section
variable {P : Program} {t : TypeId}
theorem Rd.agg {n : Nat} {α : Type} {c : α → Nat → DV} {S : α → Prop} (hr : Rd P t n c S) {fs : Array Field} (ht : P.underlying t = some (.struct fs)) {W : World} {b0 : Nat} {v : Value} (hv : Value.okWide P W .any b0 t v)
  {H : Type} {enc : TypeId × Value → H} {d : DataW H} {ps : List MemPlace} (h : DataW.Trod enc P W 0 (fun _ => true) true t v d ps) :
  ∃ a : α, S a ∧ RepS (fun _ => none) (AllB W) W (.agg ((List.range n).map fun j => .d (c a j))) v := by
 obtain ⟨cs, rfl, hsz⟩ := okWide_struct ht hv
 obtain ⟨fuel, hf⟩ := h
 obtain ⟨a, ha, hl, hc⟩ := hr.rd hf
 refine ⟨a, ha, cs.toList, by simp, RepL.of_get (by rw [List.length_map, List.length_range]; exact hl) fun j x hx => ?_⟩
 have hj : j < n := by
  have := (List.getElem?_eq_some_iff.mp hx).1
  simpa using this
 obtain ⟨u, hu, hru⟩ := hc j hj
 refine ⟨u, hu, ?_⟩
 simp [hj] at hx
 subst hx
 exact hru
theorem Rd.one {α : Type} {c : α → Nat → DV} {S : α → Prop} (hr : Rd P t 1 c S) {W : World} {v : Value} (hv : v.cells.toList = [v])
  {H : Type} {enc : TypeId × Value → H} {d : DataW H} {ps : List MemPlace} (h : DataW.Trod enc P W 0 (fun _ => true) true t v d ps) : ∃ a : α, S a ∧ RepS (fun _ => none) (AllB W) W (.one (.d (c a 0))) v := by
 obtain ⟨fuel, hf⟩ := h
 rw [hv] at hf
 obtain ⟨a, ha, hl, hc⟩ := hr.rd hf
 obtain ⟨u, hu, hru⟩ := hc 0 (by omega)
 simp at hu; subst hu
 exact ⟨a, ha, hru⟩
theorem one_int {k : IntKind} (ht : P.underlying t = some (.int k)) {W : World} {b0 : Nat} {v : Value} (hv : Value.okWide P W .any b0 t v) : v.cells.toList = [v] := by
 obtain ⟨n, rfl⟩ := okWide_int ht hv; rfl
theorem law_calls {f : FuncId} {args : List SV} {W : World} {vs : List Value} (h : Fn P f args [] (vB true) []) (hr : RepSs (fun _ => none) (AllB W) W args vs) :
  Calls P f vs.toArray W fun e W' => e = .returned (.bool true) ∧ Below W.heap.size W W' := by
 refine (h.2 ⟨W, fun _ => none, AllB W, fun _ => False⟩ vs (fun _ h => h) ⟨fun _ _ => False, ?_⟩ hr).mono fun e W' hh => ?_
 ·exact ⟨fun b ob h => (by cases h), fun b ob k h => (by cases h), fun b b' ob ob' k h => (by cases h), fun _ _ => rfl⟩
 ·obtain ⟨v, ρ', F', he, fr, _, hv⟩ := hh
  have hv' : v = .bool true := hv
  subst hv'
  exact ⟨he, fr.os, fr.tape, fr.output, fr.size, fun k hk => fr.mem k hk fun q => q⟩
theorem trodAll_stays {H : Type} {enc : TypeId × Value → H} (hl : laidOutB P = true) {W W' : World} (hb : Below W.heap.size W W') {sp : Nat → Bool} : ∀ {ts : List TypeId} {vs : List Value} {ds : List (DataW H)} {ps : List MemPlace},
  DataW.TrodAll enc P W 0 (fun _ => true) true ts vs ds ps → (∀ t ∈ ts, P.readableRec t = true ∧ t < P.types.size) → (∀ q ∈ ps, q.block < W.heap.size) → (∀ q ∈ ps, sp q.block = true) → DataW.TrodAll enc P W' 0 sp true ts vs ds ps
 | [], vs, ds, ps, h, _, _, _ => by
  obtain ⟨rfl, rfl, rfl⟩ := trodAll_nil h; rfl
 | t :: ts, vs, ds, ps, h, hr, hlt, hsp => by
  obtain ⟨v, vs', d, ds', p, q, rfl, rfl, rfl, h0, h1⟩ := trodAll_cons h
  have ht := hr t List.mem_cons_self
  exact trodAll_cons_mk (WideElems.Trod_stays hl ht.1 ht.2 h0 (fun x hx => hb.same (hlt x (List.mem_append_left _ hx))) (fun x hx => hsp x (List.mem_append_left _ hx)))
   (trodAll_stays hl hb h1 (fun t ht => hr t (List.mem_cons_of_mem _ ht)) (fun x hx => hlt x (List.mem_append_right _ hx)) (fun x hx => hsp x (List.mem_append_right _ hx)))
theorem law_post {H : Type} {enc : TypeId × Value → H} {f : Func} {s : ChangeSpec} {W W' : World} {args : Array Value} {ds gs : List (DataW H)} {before : List MemPlace} {t4 : TypeId} (hs : s.vars = [])
  (hW : DataW.Whole enc P f.params.toList s.vars false W args.toList ds gs before) (h1 : (s.fn H (ds ++ gs)).results = [.lit (.bool true)]) (h2 : (s.fn H (ds ++ gs)).args = ds) (h3 : (s.fn H (ds ++ gs)).vars = [])
  (hr : f.resultTypes = #[t4]) (h4 : P.underlying t4 = some .bool) (hl : laidOutB P = true) (hread : ∀ t ∈ f.params.toList, P.readableRec t = true ∧ t < P.types.size) (hb : Below W.heap.size W W') :
  s.post enc P f false true false false W args (.bool true) W' := by
 have hlt := hW.lt
 have hW' := hW
 obtain ⟨p, q, hA, hV, rfl, _, _⟩ := hW
 rw [hs] at hV
 obtain ⟨_, rfl⟩ := trodVars_none hV
 rw [List.append_nil] at hW' hlt
 refine ⟨ds, gs, p, [], p, [], hW', ?_, ?_, ?_, hb.frame _, fun h => by cases h⟩
 ·rw [h1, hr]
  exact trodAll_cons_mk (p := []) (p' := []) (shut_bool h4 true) trodAll_mk0
 ·rw [h2]
  exact trodAll_stays hl hb hA hread (fun x hx => hlt x hx) (fun x hx => by simpa using hlt x hx)
 ·rw [hs, h3]; rfl
end
end Sg
