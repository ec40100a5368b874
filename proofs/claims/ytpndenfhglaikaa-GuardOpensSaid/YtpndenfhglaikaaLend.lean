import Derived.Test.YtpndenfhglaikaaRen
set_option linter.all false
namespace Sg
open Go
theorem Fn.leH {P : Program} {f : Nat} {args args' : List SV} {hin hin' hout : List (Nat × Option Ob)} {res : TV} (h : Fn P f args hin res hout) (hl : SLes args' args) (hh : HpLe hin' hin) : Fn P f args' hin' res hout :=
 ⟨h.1, fun B vs hF hi hr => h.2 B vs hF (hi.le hh) (hl.rep hr)⟩
def pureD : DV → Bool
 | .int _ _ | .bool _ | .str _ | .nilp | .nilf | .nilm => true
 | _ => false
def pureC : CV → Bool
 | .d x => pureD x
 | _ => false
def pureS : SV → Bool
 | .one c => pureC c
 | .agg cs => cs.all pureC
def pureT : TV → Bool
 | .v s => pureS s
 | .tup l => l.all pureS
section
variable {ρ ρ' : Nat → Option Pl} {F F' : Nat → Prop} {w w' : World}
theorem pureC_rep {c : CV} {v : Value} (h : pureC c = true) (hr : RepC ρ F w c v) : RepC ρ' F' w' c v := by
 cases c with
 | d x => cases x <;> first | exact hr | simp [pureC, pureD] at h
 | _ => simp [pureC] at h
theorem pureL_rep : ∀ {cs : List CV} {vs : List Value}, cs.all pureC = true → RepL ρ F w cs vs → RepL ρ' F' w' cs vs
 | [], [], _, _ => trivial
 | c :: cs, v :: vs, h, ⟨h1, h2⟩ => by
  simp only [List.all_cons, Bool.and_eq_true] at h
  exact ⟨pureC_rep h.1 h1, pureL_rep h.2 h2⟩
 | [], _ :: _, _, h => h.elim
 | _ :: _, [], _, h => h.elim
theorem pureS_rep {s : SV} {v : Value} (h : pureS s = true) (hr : RepS ρ F w s v) : RepS ρ' F' w' s v := by
 cases s with
 | one c => exact pureC_rep h hr
 | agg cs => obtain ⟨vs, e, hl⟩ := hr; exact ⟨vs, e, pureL_rep h hl⟩
theorem pureSs_rep : ∀ {cs : List SV} {vs : List Value}, cs.all pureS = true → RepSs ρ F w cs vs → RepSs ρ' F' w' cs vs
 | [], [], _, _ => trivial
 | c :: cs, v :: vs, h, ⟨h1, h2⟩ => by
  simp only [List.all_cons, Bool.and_eq_true] at h
  exact ⟨pureS_rep h.1 h1, pureSs_rep h.2 h2⟩
 | [], _ :: _, _, h => h.elim
 | _ :: _, [], _, h => h.elim
theorem pureT_rep {t : TV} {v : Value} (h : pureT t = true) (hr : RepT ρ F w t v) : RepT ρ' F' w' t v := by
 cases t with
 | v s => exact pureS_rep h hr
 | tup l => obtain ⟨vs, e, hl⟩ := hr; exact ⟨vs, e, pureSs_rep h hl⟩
end
theorem Fn.lend {P : Program} {f : Nat} {args args' : List SV} {hin : List (Nat × Option Ob)} {res : TV} {frz : List Nat} {p : List Prop} (h : Fn P f args [] res []) (he : finSs ⟨frz, []⟩ (hpOf hin) args' = some (p, args)) (hp : All p) (hres : pureT res = true) :
  Fn P f args' hin res hin := by
 refine ⟨h.1, fun B vs hF hi hr => ?_⟩
 obtain ⟨ft, hi⟩ := hi
 have hfr : Fr B B.ρ B.F B.w := ⟨rfl, rfl, rfl, Nat.le_refl _, fun _ _ _ => rfl, fun _ _ h => h, fun k hk => ⟨hF k hk, .inl hk⟩, fun _ h => h⟩
 have hr2 := finSs_rep (f := ⟨frz, []⟩) List.nodup_nil hi he hp hr
 have hF2 : ∀ k, frzF ft B.F (hpOf hin) frz k → k < B.w.heap.size := fun k hk => by
  rcases hk with hk | ⟨b, ob, _, hob, hk⟩
  ·exact hF k hk
  ·exact (hi.blk b ob k hob hk).1
 refine Calls.mono (h.2 ⟨B.w, renR B.ρ [], frzF ft B.F (hpOf hin) frz, fun _ => False⟩ vs hF2 ⟨fun _ _ => False, ⟨fun _ _ hh => by simp [hpOf, get] at hh, fun _ _ _ hh => by simp [hpOf, get] at hh, fun _ _ _ _ _ hh => by simp [hpOf, get] at hh, fun _ _ => rfl⟩⟩ hr2) ?_
 rintro e w' ⟨v, ρ', F', rfl, h1, h2, h3⟩
 have hmem : ∀ k, k < B.w.heap.size → w'.heap[k]? = B.w.heap[k]? := fun k hk => h1.mem k hk fun hh => hh
 have g : Gr B.ρ B.F B.w B.ρ B.F w' := ⟨fun _ _ h => h, fun _ h => h, fun k hk => hmem k (hF k hk)⟩
 refine ⟨v, B.ρ, B.F, rfl, ⟨h1.os, h1.tape, h1.output, h1.size, fun k hk _ => hmem k hk, fun _ _ h => h, fun k hk => ⟨Nat.lt_of_lt_of_le (hF k hk) h1.size, .inl hk⟩, fun _ h => h⟩, ⟨ft, ?_⟩, pureT_rep hres h3⟩
 exact hi.step g hfr h1.size (fun _ => False) (fun b ob _ hb => ⟨hb, fun k hk => hmem k (hi.blk b ob k hb hk).1, fun _ => Iff.rfl⟩) (fun _ _ h => h.elim) (fun _ _ _ h => h.elim) (fun _ _ _ _ _ h => h.elim) (fun k hk => .inl hk) hi.fresh
end Sg
