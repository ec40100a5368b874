import Derived.Test.YtpndenfhglaikaaPg7
set_option linter.all false
namespace Sg
open Go
set_option linter.unusedSectionVars false
set_option linter.unusedVariables false
theorem sameTruths_eq (a b : List Bool) (ha : a.length ≤ 9223372036854775807) : m_kit_SameTruths a b = some (decide (a = b)) := by
 unfold m_kit_SameTruths
 by_cases hl : a.length = b.length
 ·have h1 : decide ((a.length : Int) = (b.length : Int)) = true := decide_eq_true (by omega)
  rw [h1]
  simp only [Bool.not_true, cond_false]
  have key : loopO (m_kit_SameTruths_L0 a b) FUEL 0 = some (match (List.range a.length).find? (fun i => !(at' a i == at' b i)) with | some _ => .ret false | none => .brk ()) := by
   refine searchI_run a.length (fun i => !(at' a i == at' b i)) (fun _ => false) ha (fun i hi => ?_) ?_
   ·unfold m_kit_SameTruths_L0
    have h1 : decide ((i : Int) < (a.length : Int)) = true := decide_eq_true (by omega)
    rw [h1, cond_true, asO_pos (by omega), Int.toNat_natCast, wr (by omega)]
    exact bif_some _ _ _
   ·unfold m_kit_SameTruths_L0; simp
  rw [key]
  cases hf : (List.range a.length).find? (fun i => !(at' a i == at' b i)) with
  | none =>
   rw [List.find?_eq_none] at hf
   have : a = b := at_ext hl fun i hi => by
    have := hf i (List.mem_range.mpr hi); simpa using this
   simp [this]
  | some k =>
   have hk := List.mem_of_find?_eq_some hf
   have hp := List.find?_some hf
   have : a ≠ b := by intro e; subst e; simp at hp
   simp [this]
 ·have h1 : decide ((a.length : Int) = (b.length : Int)) = false := decide_eq_false (by omega)
  have h2 : a ≠ b := fun e => hl (by rw [e])
  rw [h1]; simp [h2]
structure SmallS (s : State) : Prop where
 l0 : s.closed.length ≤ 1000000000
 l1 : s.locked.length ≤ 1000000000
 l2 : s.badLink.length ≤ 1000000000
 l3 : s.on_.length ≤ 1000000000
 l4 : s.badSource.length ≤ 1000000000
 l5 : s.earthed.length ≤ 1000000000
 l6 : s.badBus.length ≤ 1000000000
theorem VS.small {p : Plant} {s : State} (hp : VP p) (h : VS p s) : SmallS s := by
 have h1 := hp.ll; have h2 := hp.sl; have h3 := hp.b
 obtain ⟨a1, a2, a3, a4, a5, a6, a7, _⟩ := h
 exact ⟨by omega, by omega, by omega, by omega, by omega, by omega, by omega⟩
theorem sameState_refl (a : State) (h : SmallS a) : m_kit_SameState a a = some true := by
 obtain ⟨h0, h1, h2, h3, h4, h5, h6⟩ := h
 unfold m_kit_SameState
 rw [sameTruths_eq _ _ (by omega), sameTruths_eq _ _ (by omega), sameTruths_eq _ _ (by omega), sameTruths_eq _ _ (by omega), sameTruths_eq _ _ (by omega), sameTruths_eq _ _ (by omega), sameTruths_eq _ _ (by omega)]
 simp [gB]
theorem copyTruths_eq (l : List Bool) (h : l.length ≤ 1000000000) : m_kit_CopyTruths l = some l := by
 unfold m_kit_CopyTruths; rw [asO_pos (by omega)]
theorem copyState_eq (s : State) (h : SmallS s) : m_kit_CopyState s = some s := by
 obtain ⟨h0, h1, h2, h3, h4, h5, h6⟩ := h
 unfold m_kit_CopyState
 rw [copyTruths_eq _ h0, copyTruths_eq _ h1, copyTruths_eq _ h2, copyTruths_eq _ h3, copyTruths_eq _ h4, copyTruths_eq _ h5, copyTruths_eq _ h6]
 rfl
theorem guardCopied_eq (s : State) (h : SmallS s) : m_guard_copied s = some s := by
 obtain ⟨h0, h1, h2, h3, h4, h5, h6⟩ := h
 unfold m_guard_copied
 rw [cloneB_eq _ h0, cloneB_eq _ h1, cloneB_eq _ h2, cloneB_eq _ h3, cloneB_eq _ h4, cloneB_eq _ h5, cloneB_eq _ h6]
 rfl
abbrev MT := (List Event) × Bool × Int × Int × (List Bool) × (List Bool) × (List Bool) × (List Bool) × (List Bool) × (List Bool) × (List Bool) × Int × (List Source) × (List Link) × (List Rack) × Int × Bool × (List Int) × Int × (List (Int × Int)) × Int
def tupM (M : Machine) (nn : Bool) : MT :=
 (M.clearing.events, M.clearing.cleared, M.clearing.millis, M.clearing.energy, M.clearing.state.closed, M.clearing.state.locked, M.clearing.state.badLink, M.clearing.state.on_, M.clearing.state.badSource, M.clearing.state.earthed, M.clearing.state.badBus, M.p.buses, M.p.sources, M.p.links, M.p.racks, M.bus, nn, M.amps, M.total, M.since, M.now)
theorem run_body {M N : Machine} {nn : Bool} (hl : m_guard_machine_look M nn = some (N, true)) (hc : N.clearing = M.clearing) :
  m_guard_machine_run_L0 (tupM M nn) = bif decide (N.total = 0) then some (.done (.ret ((⟨M.clearing.events, true, M.clearing.millis, M.clearing.energy, M.clearing.state⟩ : Clearing), N.since)))
   else (m_guard_machine_round N true).bind fun r => bif r.1 then some (.next (tupM ⟨r.2.1.clearing, r.2.1.p, r.2.1.bus, r.2.1.amps, r.2.1.total, N.since, r.2.1.now⟩ r.2.2)) else some (.done (.ret (r.2.1.clearing, N.since))) := by
 have h : m_guard_machine_run_L0 (tupM M nn) = (m_guard_machine_look M nn).bind fun r_ =>
   bif decide (r_.1.total = 0) then some (.done (.ret ((⟨M.clearing.events, true, r_.1.clearing.millis, r_.1.clearing.energy, r_.1.clearing.state⟩ : Clearing), r_.1.since)))
   else (m_guard_machine_round (⟨(⟨M.clearing.events, r_.1.clearing.cleared, r_.1.clearing.millis, r_.1.clearing.energy, r_.1.clearing.state⟩ : Clearing), r_.1.p, r_.1.bus, r_.1.amps, r_.1.total, r_.1.since, r_.1.now⟩ : Machine) r_.2).bind fun r_1 =>
    bif r_1.1 then some (.next (tupM ⟨r_1.2.1.clearing, r_1.2.1.p, r_1.2.1.bus, r_1.2.1.amps, r_1.2.1.total, r_.1.since, r_1.2.1.now⟩ r_1.2.2)) else some (.done (.ret (r_1.2.1.clearing, r_.1.since))) := rfl
 rw [h, hl, Option.bind_some]
 simp only [← hc]
section
variable {p : Plant} (hp : VP p) {s : State} {c : List Bool} (hc : c.length = p.links.length) (hb : s.badLink.length = p.links.length) {am : List Int} (ham : am.length = p.links.length) {sn : List Int} (hsn : sn.length = p.links.length)
 (hsb : ∀ k, k < p.links.length → 0 ≤ at' sn k ∧ at' sn k ≤ 1000000000)
include hp hc hb ham hsn hsb
end
end Sg
