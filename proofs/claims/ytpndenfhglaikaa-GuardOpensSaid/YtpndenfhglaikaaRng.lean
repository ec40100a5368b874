import Derived.Test.YtpndenfhglaikaaMod2
import Derived.RangeFuncIn
import Derived.RangeFuncRecord
set_option linter.all false
namespace Sg
open Go
def exitOf : Code → Exit
 | .exit id => .exit id
 | .goto l => .goto l
 | _ => .ret
def isOut : Code → Bool
 | .ret | .exit _ | .goto _ => true
 | _ => false
def ExOf (outs : List Code) (st : Nat) (e : Exit) : Prop := (st = 0 ∧ e = .normal) ∨ ∃ k c, st = k + 2 ∧ outs[k]? = some c ∧ isOut c = true ∧ e = exitOf c
theorem ExOf.zero {outs : List Code} {st : Nat} (h : st = 0) : ExOf outs st .normal := .inl ⟨h, rfl⟩
theorem ExOf.out {outs : List Code} {st k : Nat} {c : Code} (h : st = k + 2) (hc : outs[k]? = some c) (ho : isOut c = true) : ExOf outs st (exitOf c) := .inr ⟨k, c, h, hc, ho, rfl⟩
theorem putL {w : World} {k : Nat} (o : Obj) : Put w (w.putObj k o) k := ⟨by simp, fun j hj => World.putObj_heap_other hj, rfl, rfl, rfl⟩
section
variable {P : Program} {B : Base} {N : Nat} {L : List Nat} {T : List (Nat × TI)} {Q : Exit → St → Prop} {st : St}
def fnOf : TV → Option (FuncId × List CV × List CV)
 | .v (.one (.d (.fn f n cap))) => some (f, [], takeC cap 0 n)
 | .v (.one (.fn f nf n cap)) => bif Nat.ble nf n then some (f, takeV cap 0 nf, takeV cap nf (n - nf)) else none
 | _ => none
theorem fnOf_rep {ρ : Nat → Option Pl} {F : Nat → Prop} {w : World} {tv : TV} {f : FuncId} {c1 c2 : List CV} {v : Value} (h : fnOf tv = some (f, c1, c2)) (hr : RepT ρ F w tv v) : ∃ v1 v2 : List Value, v = .func (.func f) v1.toArray v2.toArray ∧ RepL ρ F w c1 v1 ∧ RepL ρ F w c2 v2 := by
 unfold fnOf at h
 split at h
 ·rename_i g n cap
  cases h
  obtain ⟨vs, hv, hn, hcap⟩ := hr
  refine ⟨[], vs, hv, trivial, RepL.of_get (by rw [takeC_length, hn]) fun j c hj => ?_⟩
  obtain ⟨hlt, rfl⟩ := takeC_get cap 0 n j c hj
  have hg := List.getElem?_eq_getElem (l := vs) (i := j) (by omega)
  exact ⟨_, hg, by rw [Nat.zero_add]; exact hcap j _ hg⟩
 ·rename_i g nf n cap
  cases hb : Nat.ble nf n with
  | false => simp [hb] at h
  | true =>
   simp only [hb, cond_true] at h
   cases h
   have hle := Nat.le_of_ble_eq_true hb
   obtain ⟨vs, hv, hn, hcap⟩ := hr
   refine ⟨vs.take nf, vs.drop nf, hv, RepL.of_get (by rw [takeV_length]; simp; omega) fun j c hj => ?_, RepL.of_get (by rw [takeV_length]; simp; omega) fun j c hj => ?_⟩
   ·obtain ⟨hlt, rfl⟩ := takeV_get cap 0 nf j c hj
    have hg := List.getElem?_eq_getElem (l := vs) (i := j) (by omega)
    exact ⟨_, by rw [List.getElem?_take, if_pos hlt]; exact hg, by rw [Nat.zero_add]; exact hcap j _ hg⟩
   ·obtain ⟨hlt, rfl⟩ := takeV_get cap nf (n - nf) j c hj
    have hg := List.getElem?_eq_getElem (l := vs) (i := nf + j) (by omega)
    exact ⟨_, by rw [List.getElem?_drop]; exact hg, hcap (nf + j) _ hg⟩
 ·cases h
theorem svArgs_map : ∀ (cs : List CV), svArgs (cs.map fun c => .v (.one c)) = some (cs.map .one)
 | [] => rfl
 | c :: cs => by simp [svArgs, svArgs_map cs]
theorem awp_rangeFunc {g : Operand} {gv : TV} {ps : List Nat} {assign body : Code} (lb : Nat) (sl : List (Nat × TV)) (outs : List Code) (ids : List Nat) {f : FuncId} {c1 c2 : List CV} {hin : List (Nat × Option Ob)} (res : TV) (hout : List (Nat × Option Ob)) {stt : Nat} {r' : LoopRec} {sl' : List (Nat × TV)} {e : Exit}
  (hg : opdT st g = some gv) (hf : fnOf gv = some (f, c1, c2)) (hlb : get st.heap lb = none) (hsl : ∀ p ∈ sl, get st.slots p.1 = some p.2)
  (hin1 : zipObs ids (ids.map (hpOf ((lb, some (.loop ⟨ps, assign, body, N, outs⟩ 0 sl)) :: st.heap))) = some hin)
  (hok : (subL ((c1 ++ CV.yl lb :: c2).flatMap CV.ment) ids && subL (obsMent (ids.map (hpOf ((lb, some (.loop ⟨ps, assign, body, N, outs⟩ 0 sl)) :: st.heap)))) ids && freshOk ids (hout.map (·.1)) ((hout.map (·.1)).map (hpOf ((lb, some (.loop ⟨ps, assign, body, N, outs⟩ 0 sl)) :: st.heap)))) = true)
  (hfn : Fn P f ((c1 ++ CV.yl lb :: c2).map .one) hin res hout) (hlo : get hout lb = some (some (.loop r' stt sl'))) (hr' : r'.outs = outs) (hx : ExOf outs stt e)
  (hQ : Q e ⟨st.slots, (lb, none) :: (hout ++ (ids.map (fun i => (i, none)) ++ st.heap))⟩) : AWp none P B N L (.rangeFunc g ps.toArray assign body) Q st := by
 intro a w hc
 obtain ⟨⟨ρ, F, hfr, hi, hs, dn⟩, hid, sz⟩ := hc
 refine wpIn_rangeFunc ?_
 intro fn _
 obtain ⟨v1, v2, hv, hr1, hr2⟩ := fnOf_rep hf (opdT_rep hs hg)
 let W0 := w.alloc (.deferred (some []))
 let W1 := W0.alloc (.loop { state := .ready, pending := none, fn, tmps := a.tmps, params := ps.toArray, assign, body, defers := w.heap.size })
 have hent : (Instr.enterLoop fn a.tmps ps.toArray assign body (FW none).round).run P w = .ok (w.heap.size + 1, [{ target := .collected w.heap.size, args := #[] }]) W1 := run_enterLoop_outer _ _ _ _ _
 have p0 := Push.alloc w (.deferred (some []))
 have p1 := Push.alloc W0 (.loop { state := .ready, pending := none, fn, tmps := a.tmps, params := ps.toArray, assign, body, defers := w.heap.size })
 let F0 : Nat → Prop := fun k => F k ∨ k = w.heap.size
 have hW0 : W0.heap.size = w.heap.size + 1 := p0.sz
 have g0 : Gr ρ F w ρ F0 W0 := ⟨fun _ _ h => h, fun _ h => .inl h, fun k hk => p0.old (hfr.fz k hk).1⟩
 have hfr0 : Fr B ρ F0 W0 := by
  refine ⟨hfr.os, hfr.tape, hfr.output, by have := hfr.size; omega, fun k hk hn => (p0.old (by have := hfr.size; omega)).trans (hfr.mem k hk hn), hfr.rho, fun k hk => ?_, fun k hk => .inl (hfr.bf k hk)⟩
  rcases hk with hk | hk
  ·obtain ⟨x, y⟩ := hfr.fz k hk; exact ⟨by omega, y⟩
  ·subst hk; exact ⟨by omega, .inr (.inr hfr.size)⟩
 have hi0 : HI B ρ F0 W0 (hpOf st.heap) := by
  obtain ⟨ft, hi⟩ := hi
  refine ⟨ft, hi.step g0 hfr (by omega) (fun _ => False) (fun b ob _ hb => ⟨hb, fun k hk => p0.old (hi.blk b ob k hb hk).1, fun _ => Iff.rfl⟩) (fun _ _ h => h.elim) (fun _ _ _ h => h.elim) (fun _ _ _ _ _ h => h.elim) (fun k hk => ?_) hi.fresh⟩
  rcases hk with hk | hk
  ·exact .inl hk
  ·subst hk; exact .inr (.inr ⟨Nat.le_refl _, fun _ _ h => h.elim⟩)
 have hρ := hi0.fresh lb hlb
 have g1 : Gr ρ F0 W0 (updR ρ lb (.blk W0.heap.size 0 0)) F0 W1 := p1.gr hfr0 hρ
 have hi1 := p1.hi hfr0 hi0 (b := lb) (base := 0) (cap := 0) (nob := .loop ⟨ps, assign, body, N, outs⟩ 0 sl) hlb (by
  refine ⟨W0.heap.size, 0, 0, fn, a.tmps, w.heap.size, updR_same _ _, rfl, by simp, ?_, sz, fun t tv ht => ?_⟩
  ·rw [p1.new]; rfl
  ·obtain ⟨v, hv, hr⟩ := hs t tv (hsl _ (get_mem ht))
   exact ⟨v, hv, (hr.gr g0).gr g1⟩)
 have hfr1 := p1.fr hfr0 (pl := .blk W0.heap.size 0 0) hρ
 have hheap : upd (hpOf st.heap) [(lb, some (.loop ⟨ps, assign, body, N, outs⟩ 0 sl))] = hpOf ((lb, some (.loop ⟨ps, assign, body, N, outs⟩ 0 sl)) :: st.heap) := by
  funext x; rw [upd_one]; simp only [hpOf]; rw [get_cons]
 rw [hheap] at hi1
 have hL : W1.heap[w.heap.size + 1]? = some (.loop { state := .ready, pending := none, fn, tmps := a.tmps, params := ps.toArray, assign, body, defers := w.heap.size }) := by
  have := p1.new; rw [hW0] at this; exact this
 have gg := g0.trans g1
 refine ⟨w.heap.size + 1, [{ target := .collected w.heap.size, args := #[] }], W1, { target := .fn (.func f) v2.toArray, args := v1.toArray ++ #[.func (.yield (w.heap.size + 1)) #[] #[]] }, W1, f, (v1.toArray ++ #[.func (.yield (w.heap.size + 1)) #[] #[]]) ++ v2.toArray, W1, hent, ?_, fun _ _ => trivial, ?_, fun hh => by simp [FW, Fence.wide] at hh, ?_⟩
 ·simp [resolve, hv, Deferred.ofValue]; rfl
 ·obtain ⟨⟨fn', e1, e2, e3⟩, _⟩ := hfn
  simp only [invoke, callFunc, Sem.run_bind, run_program, Result.andThen_ok, e1, e2, e3, Bool.false_eq_true, if_false]
  rfl
 ·-- the call
  have hargs : svArgs ((c1 ++ CV.yl lb :: c2).map fun c => TV.v (.one c)) = some ((c1 ++ CV.yl lb :: c2).map .one) := svArgs_map _
  have hyl : RepC (updR ρ lb (.blk W0.heap.size 0 0)) F0 W1 (.yl lb) (.func (.yield (w.heap.size + 1)) #[] #[]) := ⟨W0.heap.size, 0, 0, updR_same _ _, by rw [hW0]⟩
  have hxs : RepTs (updR ρ lb (.blk W0.heap.size 0 0)) F0 W1 ((c1 ++ CV.yl lb :: c2).map fun c => TV.v (.one c)) (v1 ++ .func (.yield (w.heap.size + 1)) #[] #[] :: v2) :=
   repC_ts (((hr1.gr gg)).append ⟨hyl, hr2.gr gg⟩)
  have hmentE : ((c1 ++ CV.yl lb :: c2).map SV.one).flatMap SV.ment = (c1 ++ CV.yl lb :: c2).flatMap CV.ment := by
   rw [List.flatMap_map]; rfl
  have hdropE : ((ids ++ hout.map (·.1)).map (hpOf ((lb, some (.loop ⟨ps, assign, body, N, outs⟩ 0 sl)) :: st.heap))).drop ids.length = (hout.map (·.1)).map (hpOf ((lb, some (.loop ⟨ps, assign, body, N, outs⟩ 0 sl)) :: st.heap)) := by
   rw [List.map_append]
   conv => lhs; arg 1; rw [← List.length_map (f := hpOf ((lb, some (.loop ⟨ps, assign, body, N, outs⟩ 0 sl)) :: st.heap)) (as := ids)]
   rw [List.drop_left]
  have htakeE : ((ids ++ hout.map (·.1)).map (hpOf ((lb, some (.loop ⟨ps, assign, body, N, outs⟩ 0 sl)) :: st.heap))).take ids.length = ids.map (hpOf ((lb, some (.loop ⟨ps, assign, body, N, outs⟩ 0 sl)) :: st.heap)) := by
   rw [List.map_append]
   conv => lhs; arg 1; rw [← List.length_map (f := hpOf ((lb, some (.loop ⟨ps, assign, body, N, outs⟩ 0 sl)) :: st.heap)) (as := ids)]
   rw [List.take_left]
  have hzip : zipObs ids ((ids ++ hout.map (·.1)).map (hpOf ((lb, some (.loop ⟨ps, assign, body, N, outs⟩ 0 sl)) :: st.heap))) = some hin := by
   rw [List.map_append]
   have : ∀ (is : List Nat) (os os' : List (Option (Option Ob))) (m : List (Nat × Option Ob)), zipObs is os = some m → zipObs is (os ++ os') = some m := by
    intro is
    induction is with
    | nil => intro os os' m h; simpa [zipObs] using h
    | cons i is ih =>
     intro os os' m h
     match os, h with
     | some (some o) :: os, h =>
      simp only [zipObs] at h
      split at h
      ·rename_i l hl
       simp only [List.cons_append, zipObs, ih os os' l hl]; exact h
      ·cases h
     | [], h => simp [zipObs] at h
     | none :: _, h => simp [zipObs] at h
     | some none :: _, h => simp [zipObs] at h
   exact this _ _ _ _ hin1
  have hall := fun K => call_gen (res := res) (B := B) (X := fun K => CallsIn (FW none) (0 - 1) P f ((v1.toArray ++ #[.func (.yield (w.heap.size + 1)) #[] #[]]) ++ v2.toArray) W1 fun e w' => ∃ v, e = .returned v ∧ K v w') hzip hargs
   (by rw [hmentE, htakeE, hdropE]; exact hok) rfl hfr1 hi1 hxs (fun B' hw _ hF hi' hxs' K hK => by
    have hcall := (callsIn_wide (n := 0 - 1)).2 (hfn.2 B' (v1 ++ .func (.yield (w.heap.size + 1)) #[] #[] :: v2) hF hi' hxs')
    have harr : (v1 ++ .func (.yield (w.heap.size + 1)) #[] #[] :: v2).toArray = (v1.toArray ++ #[.func (.yield (w.heap.size + 1)) #[] #[]]) ++ v2.toArray := Array.ext' (by simp)
    rw [harr, hw] at hcall
    have hcall' : CallsIn (FW none) (0 - 1) P f ((v1.toArray ++ #[.func (.yield (w.heap.size + 1)) #[] #[]]) ++ v2.toArray) W1 _ := hcall
    refine hcall'.mono ?_
    rintro e w' ⟨v, ρ', F', rfl, h1, h2, h3⟩
    exact ⟨v, rfl, hK v w' ⟨ρ', F', h1, h2, h3⟩⟩) K
  refine CallsIn.mono (hall (fun v w' => rangePost (FW none) 0 P (w.heap.size + 1) (fun e a' w' => ∃ st', Q e st' ∧ Conc B N L st' a' w') { a with defers := [{ target := .collected w.heap.size, args := #[] }] ++ a.defers } (.returned v) w')
   (fun v ρ2 F2 w2 g2 f2 hi2 hr => ?_)) ?_
  ·-- behind the call
   obtain ⟨ft2, hi2⟩ := hi2
   have hl2 : upd (hpOf ((lb, some (.loop ⟨ps, assign, body, N, outs⟩ 0 sl)) :: st.heap)) (hout ++ ids.map fun i => (i, none)) lb = some (some (.loop r' stt sl')) := by
    rw [upd_get, get_append, hlo]
   obtain ⟨k, base, cap, fn2, tmps2, D2, y1, y0, y2, y3, y4, y5⟩ := hi2.obj lb _ hl2
   have hk : k = w.heap.size + 1 := by
    have := g2.rho lb _ (updR_same lb (.blk W0.heap.size 0 0))
    rw [y1] at this; cases this; exact hW0
   subst hk
   have hend := run_endLoop (P := P) y3 (by
    rcases hx with ⟨h0, _⟩ | ⟨q, c, h0, _⟩
    ·subst h0; simp [loopState]
    ·subst h0; simp [loopState])
   have pt := putL (w := w2) (k := w.heap.size + 1) (.loop { state := .exhausted, pending := loopPend r'.outs stt, fn := fn2, tmps := tmps2, params := r'.ps.toArray, assign := r'.assign, body := r'.body, defers := D2 })
   have hblk := hi2.blk lb _ _ hl2 y0
   have g3 := pt.gr (ρ := ρ2) hblk.2.1
   have hfr3 := pt.fr f2 hblk.2.2
   have hi3 : HIf B ρ2 F2 (w2.putObj (w.heap.size + 1) (.loop { state := .exhausted, pending := loopPend r'.outs stt, fn := fn2, tmps := tmps2, params := r'.ps.toArray, assign := r'.assign, body := r'.body, defers := D2 }))
     (hpOf ((lb, none) :: (hout ++ (ids.map (fun i => (i, none)) ++ st.heap)))) ft2 := by
    have hu : ∀ x, hpOf ((lb, none) :: (hout ++ (ids.map (fun i => (i, none)) ++ st.heap))) x = if lb = x then some none else upd (hpOf ((lb, some (.loop ⟨ps, assign, body, N, outs⟩ 0 sl)) :: st.heap)) (hout ++ ids.map fun i => (i, none)) x := fun x => by
     simp only [hpOf]; rw [get_cons]
     by_cases e : lb = x
     ·rw [if_pos e, if_pos e]
     ·rw [if_neg e, if_neg e, ← List.append_assoc, get_append, upd_get]
      cases get (hout ++ ids.map fun i => (i, none)) x with
      | some _ => rfl
      | none => simp only; rw [get_cons, if_neg e]
    refine hi2.step g3 f2 (by rw [pt.size]; omega) (fun x => x = lb) (fun x ox e hh => ?_) (fun x ox e hh => ?_) (fun x ox q e hh _ => ?_) (fun x y ox oy q e1 e2 _ _ _ _ => e1.trans e2.symm) (fun q hq => .inl hq) fun x hh => ?_
    ·rw [hu, if_neg (Ne.symm e)] at hh
     exact ⟨hh, fun q hq => pt.old q fun e' => e (hi2.dis x lb ox _ q hh hl2 hq (e' ▸ y0)), fun _ => Iff.rfl⟩
    ·subst e; rw [hu, if_pos rfl] at hh; cases hh
    ·subst e; rw [hu, if_pos rfl] at hh; cases hh
    ·rw [hu] at hh
     split at hh
     ·cases hh
     ·exact hi2.fresh x hh
   have gall := (gg.trans g2).trans g3
   have hconc : Conc B N L ⟨st.slots, (lb, none) :: (hout ++ (ids.map (fun i => (i, none)) ++ st.heap))⟩ { a with defers := [{ target := .collected w.heap.size, args := #[] }] ++ a.defers }
     (w2.putObj (w.heap.size + 1) (.loop { state := .exhausted, pending := loopPend r'.outs stt, fn := fn2, tmps := tmps2, params := r'.ps.toArray, assign := r'.assign, body := r'.body, defers := D2 })) := by
    refine ⟨⟨ρ2, F2, hfr3, ⟨ft2, hi3⟩, fun t tv ht => ?_, ?_⟩, hid, sz⟩
    ·obtain ⟨v, hv, hr⟩ := hs t tv ht
     exact ⟨v, hv, hr.gr gall⟩
    ·obtain ⟨Ds, d1, d2, d3⟩ := dn
     have hg12 := g1.trans (g2.trans g3)
     refine ⟨w.heap.size :: Ds, by simp [d1], List.nodup_cons.2 ⟨fun hm => ?_, d2⟩, fun D hD => ?_⟩
     ·have := (hfr.fz _ (d3 _ hm).1).1; omega
     ·rcases List.mem_cons.1 hD with rfl | hD
      ·exact ⟨hg12.fz _ (.inr rfl), hfr.size, by rw [hg12.mem _ (.inr rfl)]; exact p0.new⟩
      ·obtain ⟨z1, z2, z3⟩ := d3 D hD
       exact ⟨gall.fz D z1, z2, by rw [gall.mem D z1]; exact z3⟩
   refine ⟨loopPend r'.outs stt, _, hend, ?_⟩
   rcases hx with ⟨h0, rfl⟩ | ⟨q, c, h0, hcq, hout', rfl⟩
   ·subst h0
    exact ⟨_, hQ, hconc⟩
   ·subst h0
    have hp : loopPend r'.outs (q + 2) = some c := by simp [loopPend, hr', hcq]
    rw [hp]
    cases c with
    | ret => exact wpIn_ret ⟨_, hQ, by rw [hp] at hconc; exact hconc⟩
    | exit id => exact wpIn_exit ⟨_, hQ, by rw [hp] at hconc; exact hconc⟩
    | goto l => exact wpIn_goto ⟨_, hQ, by rw [hp] at hconc; exact hconc⟩
    | _ => simp [isOut] at hout'
  ·rintro e w' ⟨v, rfl, hh⟩
   exact hh
def setLO (s : Nat) : Option Ob → Option Ob
 | some (.loop r _ sl) => some (.loop r s sl)
 | y => y
def setL (lb s : Nat) : List (Nat × Option Ob) → List (Nat × Option Ob)
 | [] => []
 | (b, x) :: l => (b, bif Nat.beq b lb then setLO s x else x) :: setL lb s l
theorem get_setL (lb s : Nat) : ∀ (l : List (Nat × Option Ob)) (b : Nat), get (setL lb s l) b = bif Nat.beq b lb then (get l b).map (setLO s) else get l b
 | [], b => by simp [setL, get]
 | (k, x) :: l, b => by
  simp only [setL]
  rw [get_cons, get_cons]
  by_cases e : k = b
  ·subst e
   rw [if_pos rfl, if_pos rfl]
   cases Nat.beq k lb <;> rfl
  ·rw [if_neg e, if_neg e]; exact get_setL lb s l b
theorem conc_setL {a : Act} {w : World} {lb : Nat} {r : LoopRec} {st0 : Nat} {sl : List (Nat × TV)} (hc : Conc B N L st a w) (hlb : get st.heap lb = some (some (.loop r st0 sl))) {l base cap : Nat} (hl : ∀ p, B.ρ lb = some p → p = .blk l base cap) (hl2 : B.ρ lb ≠ none) :
  ∃ lp : Loop, w.heap[l]? = some (.loop lp) ∧ lp.state = loopState st0 ∧ lp.pending = loopPend r.outs st0 ∧ ∀ s, s < r.outs.length + 2 → Conc B N L ⟨st.slots, setL lb s st.heap⟩ a (w.putObj l (.loop { lp with state := loopState s, pending := loopPend r.outs s })) := by
 obtain ⟨⟨ρ, F, hfr, ⟨ft, hi⟩, hs, dn⟩, hid, sz⟩ := hc
 obtain ⟨k, base', cap', fn, tmps, D, y1, y0, y2, y3, y4, y5⟩ := hi.obj lb _ hlb
 have hk : k = l := by
  cases hB : B.ρ lb with
  | none => exact absurd hB hl2
  | some p =>
   have := hfr.rho lb p hB
   rw [hl p hB, y1] at this; cases this; rfl
 subst hk
 refine ⟨_, y3, rfl, rfl, fun s hsl => ?_⟩
 show Conc B N L ⟨st.slots, setL lb s st.heap⟩ a (w.putObj k (.loop { state := loopState s, pending := loopPend r.outs s, fn, tmps, params := r.ps.toArray, assign := r.assign, body := r.body, defers := D }))
 have pt := putL (w := w) (k := k) (.loop { state := loopState s, pending := loopPend r.outs s, fn, tmps, params := r.ps.toArray, assign := r.assign, body := r.body, defers := D })
 have hblk := hi.blk lb _ k hlb y0
 have g := pt.gr (ρ := ρ) hblk.2.1
 have hhi := pt.hi hfr hi hlb y0 (S := ft lb) (nob := .loop r s sl) (fun _ h => h) ⟨k, base', cap', fn, tmps, D, y1, y0, hsl, World.putObj_heap_same hblk.1, y4, fun t tv ht => by
  obtain ⟨v, e1, e2⟩ := y5 t tv ht
  exact ⟨v, e1, e2.gr g⟩⟩
 have hu : upd (hpOf st.heap) [(lb, some (.loop r s sl))] = hpOf (setL lb s st.heap) := by
  funext b
  rw [upd_one]
  show _ = get (setL lb s st.heap) b
  rw [get_setL]
  by_cases e : lb = b
  ·subst e
   rw [if_pos rfl, hlb, show Nat.beq lb lb = true from Nat.beq_refl lb]; rfl
  ·rw [if_neg e, show Nat.beq b lb = false from beq_false_of (Ne.symm e)]; rfl
 rw [hu] at hhi
 refine ⟨⟨ρ, F, pt.fr hfr hblk.2.2, ⟨_, hhi⟩, fun t tv ht => ?_, dn.gr g⟩, hid, sz⟩
 obtain ⟨v, hv, hr⟩ := hs t tv ht
 exact ⟨v, hv, hr.gr g⟩
theorem zip_set : ∀ {ps : List Nat} {vs : List Value} {tmps : Array Value}, ps.length = vs.length → nodupL ps = true → (∀ t ∈ ps, t < tmps.size) →
  ((ps.zip vs).foldl (fun (tm : Array Value) (p : Nat × Value) => tm.setIfInBounds p.1 p.2) tmps).size = tmps.size ∧
  (∀ t, t ∉ ps → ((ps.zip vs).foldl (fun (tm : Array Value) (p : Nat × Value) => tm.setIfInBounds p.1 p.2) tmps)[t]? = tmps[t]?) ∧
  ∀ (j t : Nat) (v : Value), ps[j]? = some t → vs[j]? = some v → ((ps.zip vs).foldl (fun (tm : Array Value) (p : Nat × Value) => tm.setIfInBounds p.1 p.2) tmps)[t]? = some v
 | [], [], tmps, _, _, _ => ⟨rfl, fun _ _ => rfl, fun _ _ _ h => by simp at h⟩
 | p :: ps, v :: vs, tmps, hl, hn, hlt => by
  simp only [nodupL, Bool.and_eq_true, Bool.not_eq_true'] at hn
  have hnm := memL_false hn.1
  obtain ⟨i1, i2, i3⟩ := zip_set (ps := ps) (vs := vs) (tmps := tmps.setIfInBounds p v) (by simpa using hl) hn.2 (fun t ht => by rw [Array.size_setIfInBounds]; exact hlt t (by simp [ht]))
  rw [List.zip_cons_cons, List.foldl_cons]
  refine ⟨by rw [i1]; simp, fun t ht => ?_, fun j t u hj hu => ?_⟩
  ·rw [i2 t (fun h => ht (by simp [h])), Array.getElem?_setIfInBounds_ne (fun e => ht (by simp [e]))]
  ·cases j with
   | zero =>
    simp at hj hu; subst hj; subst hu
    rw [i2 p hnm]
    have := hlt p (by simp)
    simp [this]
   | succ j => simp at hj hu; exact i3 j t u hj hu
 | [], _ :: _, _, hl, _, _ => by simp at hl
 | _ :: _, [], _, hl, _, _ => by simp at hl
def parSl : List Nat → List SV → List (Nat × TV)
 | t :: ts, s :: ss => (t, .v s) :: parSl ts ss
 | _, _ => []
theorem parSl_get {ρ : Nat → Option Pl} {F : Nat → Prop} {w : World} : ∀ {ps : List Nat} {args : List SV} {vs : List Value}, RepSs ρ F w args vs → ∀ t tv, get (parSl ps args) t = some tv → ∃ (j : Nat) (v : Value), ps[j]? = some t ∧ vs[j]? = some v ∧ RepT ρ F w tv v
 | [], _, _, _, t, tv, h => by simp [parSl, get] at h
 | _ :: _, [], _, _, t, tv, h => by simp [parSl, get] at h
 | p :: ps, s :: ss, v :: vs, ⟨h1, h2⟩, t, tv, h => by
  simp only [parSl] at h
  rw [get_cons] at h
  split at h
  ·rename_i e; subst e; cases h; exact ⟨0, v, rfl, rfl, h1⟩
  ·obtain ⟨j, u, e1, e2, e3⟩ := parSl_get h2 t tv h
   exact ⟨j + 1, u, by simpa using e1, by simpa using e2, e3⟩
 | _ :: _, _ :: _, [], h, _, _, _ => h.elim
theorem parSl_none : ∀ {ps : List Nat} {args : List SV} {t : Nat}, ps.length = args.length → get (parSl ps args) t = none → t ∉ ps
 | [], _, _, _, _ => by simp
 | p :: ps, [], _, hl, _ => by simp at hl
 | p :: ps, s :: ss, t, hl, h => by
  simp only [parSl] at h
  rw [get_cons] at h
  split at h
  ·cases h
  ·rename_i e
   rw [List.mem_cons]
   rintro (e' | hm)
   ·exact e e'.symm
   ·exact parSl_none (by simpa using hl) h hm
def RoundQ (lb : Nat) (r : LoopRec) (res : TV) (hout : List (Nat × Option Ob)) (e : Exit) (st : St) : Prop :=
 ∃ (s : Nat) (b : Bool) (sl : List (Nat × TV)), ((e = .normal ∧ s = 0 ∧ b = true) ∨ ∃ k c, r.outs[k]? = some c ∧ isOut c = true ∧ e = exitOf c ∧ s = k + 2 ∧ b = false) ∧
  get st.heap lb = some (some (.loop r 1 sl)) ∧ HpLe (setL lb s st.heap) hout ∧ TLe (.v (.one (.d (.bool b)))) res
theorem RoundQ.on {lb : Nat} {r : LoopRec} {res : TV} {hout : List (Nat × Option Ob)} {sl : List (Nat × TV)} (h1 : get st.heap lb = some (some (.loop r 1 sl))) (h2 : HpLe (setL lb 0 st.heap) hout) (h3 : TLe (.v (.one (.d (.bool true)))) res) : RoundQ lb r res hout .normal st :=
 ⟨0, true, sl, .inl ⟨rfl, rfl, rfl⟩, h1, h2, h3⟩
theorem RoundQ.off {lb k : Nat} {c : Code} {e : Exit} {r : LoopRec} {res : TV} {hout : List (Nat × Option Ob)} {sl : List (Nat × TV)} (hc : r.outs[k]? = some c) (ho : isOut c = true) (he : e = exitOf c) (h1 : get st.heap lb = some (some (.loop r 1 sl))) (h2 : HpLe (setL lb (k + 2) st.heap) hout) (h3 : TLe (.v (.one (.d (.bool false)))) res) : RoundQ lb r res hout e st :=
 ⟨k + 2, false, sl, .inr ⟨k, c, hc, ho, he, rfl, rfl⟩, h1, h2, h3⟩
theorem yl_intro {lb : Nat} {r : LoopRec} {sl sl1 : List (Nat × TV)} {args : List SV} {hin h1 hout : List (Nat × Option Ob)} {res : TV} {sl2 : List (Nat × TV)} (hlb : get hin lb = some (some (.loop r 0 sl))) (hps : r.ps.length = args.length) (hnd : nodupL r.ps = true) (hlt : r.ps.all (fun t => Nat.blt t r.N) = true)
  (hA : ∀ rd B, AWp rd P B r.N (hin.map (·.1)) r.assign (fun e st' => e = .normal ∧ st' = ⟨sl1, h1⟩) ⟨parSl r.ps args ++ sl, hin⟩) (hlb1 : get h1 lb = some (some (.loop r 0 sl2)))
  (hB : ∀ rd B, AWp rd P B r.N (hin.map (·.1)) r.body (RoundQ lb r res hout) ⟨sl1, setL lb 1 h1⟩) : Yl P lb args hin res hout := by
 intro B vs l base cap hF hi hr hρ
 have hi0 := hi
 obtain ⟨ft, hi⟩ := hi
 obtain ⟨k, base', cap', fn, tmps, D, y1, y0, y2, y3, y4, y5⟩ := hi.obj lb _ hlb
 rw [hρ] at y1; cases y1
 have hvl := hr.length
 have hy := run_yield (P := P) (args := vs.toArray) y3 (by simp; omega)
 refine ⟨fn, _, r.assign, r.body, hy, ?_⟩
 have hfold : (r.ps.toArray.zip vs.toArray).foldl (fun tmps (t, a) => tmps.setIfInBounds t a) tmps = (r.ps.zip vs).foldl (fun (tm : Array Value) (p : Nat × Value) => tm.setIfInBounds p.1 p.2) tmps := by
  rw [← Array.foldl_toList]; simp
 obtain ⟨z1, z2, z3⟩ := zip_set (ps := r.ps) (vs := vs) (tmps := tmps) (by omega) hnd (fun t ht => by
  have := List.all_eq_true.1 hlt t ht
  rw [y4]; exact Nat.le_of_ble_eq_true (n := t + 1) this)
 have hconc : Conc B r.N (hin.map (·.1)) ⟨parSl r.ps args ++ sl, hin⟩ { tmps := (r.ps.toArray.zip vs.toArray).foldl (fun tmps (t, a) => tmps.setIfInBounds t a) tmps, defers := [] } B.w := by
  rw [hfold]
  refine ⟨⟨B.ρ, B.F, ⟨rfl, rfl, rfl, Nat.le_refl _, fun _ _ _ => rfl, fun _ _ h => h, fun k hk => ⟨hF k hk, .inl hk⟩, fun _ h => h⟩, hi0, fun t tv ht => ?_, Marks.none⟩, fun b p hbp => ?_, by rw [z1, y4]⟩
  ·have ht : get (parSl r.ps args ++ sl) t = some tv := ht
   rw [get_append] at ht
   split at ht
   ·rename_i tv' hg
    cases ht
    obtain ⟨j, v, e1, e2, e3⟩ := parSl_get hr t tv hg
    exact ⟨v, z3 j t v e1 e2, e3⟩
   ·rename_i hg
    obtain ⟨v, e1, e2⟩ := y5 t tv ht
    exact ⟨v, by rw [z2 t (parSl_none hps hg)]; exact e1, e2⟩
  ·apply Classical.byContradiction
   intro hnm
   have := hi.fresh b (get_none_of_not_mem hnm)
   rw [this] at hbp; cases hbp
 have hl1 : ∀ p, B.ρ lb = some p → p = .blk l base cap := fun p hp => by rw [hρ] at hp; cases hp; rfl
 have hl2 : B.ρ lb ≠ none := by rw [hρ]; simp
 refine roundIn_of_wpIn (F := FW none) trivial (wpIn_mono (hA (some l) B _ _ hconc) ?_)
 rintro e a1 w1 ⟨st', ⟨rfl, rfl⟩, hc1⟩
 obtain ⟨lp, q1, q2, q3, q4⟩ := conc_setL hc1 hlb1 hl1 hl2
 refine ⟨_, run_beginRound q1 (by rw [q2]; rfl), ?_⟩
 have hc2 := q4 1 (by omega)
 have hlp : ({ lp with state := loopState 1, pending := loopPend r.outs 1 } : Loop) = { lp with state := .busy } := by
  have : lp.pending = none := q3
  cases lp; simp at this; subst this; rfl
 rw [hlp] at hc2
 refine wpIn_mono (hB (some l) B _ _ hc2) ?_
 rintro e a2 w2 ⟨st2, ⟨s, b, sl3, hcase, hg, hle, hres⟩, hc3⟩
 obtain ⟨lp2, u1, u2, u3, u4⟩ := conc_setL hc3 hg hl1 hl2
 have fin : ∀ jump : Option Code, s < r.outs.length + 2 → (if jump.isNone then LoopState.ready else .done) = loopState s → jump = loopPend r.outs s → jump.isNone = b →
   ∃ v w', (Instr.endRound l jump).run P w2 = .ok v w' ∧ ∃ v', Ending.returned v = Ending.returned v' ∧ Post B res hout v' w' := by
  intro jump hs h1 h2 h3
  refine ⟨_, _, run_endRound jump u1, _, rfl, ?_⟩
  have hc4 := u4 s hs
  rw [h1, h2, show (loopPend r.outs s).isNone = b by rw [← h2]; exact h3]
  obtain ⟨⟨ρ', F', f1, f2, _, _⟩, _, _⟩ := hc4
  exact ⟨ρ', F', f1, f2.le hle, hres _ _ _ _ rfl⟩
 rcases hcase with ⟨rfl, rfl, rfl⟩ | ⟨k, c, hk, ho, rfl, rfl, rfl⟩
 ·exact fin none (by omega) rfl rfl rfl
 ·have hkl : k < r.outs.length := (List.getElem?_eq_some_iff.1 hk).1
  have hp : some c = loopPend r.outs (k + 2) := by simp [loopPend, hk]
  cases c with
  | ret => exact fin (some .ret) (by omega) rfl hp rfl
  | exit id => exact fin (some (.exit id)) (by omega) rfl hp rfl
  | goto t => exact fin (some (.goto t)) (by omega) rfl hp rfl
  | _ => simp [isOut] at ho
end
end Sg
