import Derived.Test.YtpndenfhglaikaaReown
set_option linter.all false
namespace Sg
open Go
theorem wr {x : Int} (h : -9223372036854775808 ≤ x ∧ x ≤ 9223372036854775807) : IntKind.wrap .i64 x = x := by rw [IntKind.wrap_i64]; omega
theorem loopO_more {σ ρ : Type} {body : σ → Option (Flow σ ρ)} : ∀ {n m : Nat} {s : σ} {r : ρ}, loopO body n s = some r → n ≤ m → loopO body m s = some r
 | 0, _, _, _, h, _ => by cases h
 | n + 1, 0, _, _, _, hm => by omega
 | n + 1, m + 1, s, r, h, hm => by
  rw [loopO_succ] at h ⊢
  revert h
  cases body s with
  | none => exact id
  | some f =>
   cases f with
   | next s' => exact fun h => loopO_more h (by omega)
   | done r => exact id
theorem loopO_steps {σ ρ : Type} {body : σ → Option (Flow σ ρ)} (S : Nat → σ) (k : Nat) (hs : ∀ i, i < k → body (S i) = some (.next (S (i + 1)))) : ∀ (m : Nat), loopO body (k + m) (S 0) = loopO body m (S k) := by
 induction k with
 | zero => intro m; simp
 | succ k ih =>
  intro m
  have := ih (fun i hi => hs i (by omega)) (m + 1)
  rw [show k + 1 + m = k + (m + 1) by omega, this, loopO_succ, hs k (by omega)]
theorem loopO_run {σ ρ : Type} {body : σ → Option (Flow σ ρ)} {N : Nat} (S : Nat → σ) (k : Nat) (r : ρ) (hk : k < N) (hs : ∀ i, i < k → body (S i) = some (.next (S (i + 1)))) (hd : body (S k) = some (.done r)) : loopO body N (S 0) = some r := by
 have h := loopO_steps S k hs 1
 have h1 : loopO body 1 (S k) = some r := by rw [loopO_succ, hd]
 exact loopO_more (h.trans h1) (by omega)
theorem fuel_lt {k : Nat} (h : k ≤ 9223372036854775807) : k < FUEL := by unfold FUEL; omega
section
variable {α : Type} [Inhabited α]
theorem at_get {l : List α} {i : Nat} (h : i < l.length) : at' l i = l[i] := by simp [at', h]
theorem at_mem {l : List α} {i : Nat} (h : i < l.length) : at' l i ∈ l := by rw [at_get h]; exact List.getElem_mem h
theorem at_of_mem {l : List α} {x : α} (h : x ∈ l) : ∃ i, i < l.length ∧ at' l i = x := by
 obtain ⟨i, hi, e⟩ := List.mem_iff_getElem.mp h
 exact ⟨i, hi, by rw [at_get hi]; exact e⟩
theorem at_ext {l m : List α} (hl : l.length = m.length) (h : ∀ i, i < l.length → at' l i = at' m i) : l = m := by
 apply List.ext_getElem hl
 intro i h1 h2
 have := h i h1
 rwa [at_get h1, at_get h2] at this
theorem take_succ_at {l : List α} {i : Nat} (h : i < l.length) : l.take (i + 1) = l.take i ++ [at' l i] := by
 rw [at_get h, List.take_succ_eq_append_getElem h]
theorem search_run {ρ : Type} {body : Int → Option (Flow Int (Ex Unit ρ))} (l : List α) (bad : α → Bool) (f : Int → ρ) (hl : l.length ≤ 9223372036854775807)
  (hb : ∀ i : Nat, i < l.length → body i = some (bif bad (at' l i) then .done (.ret (f i)) else .next ((i : Int) + 1))) (he : body l.length = some (.done (.brk ()))) :
  loopO body FUEL 0 = some (match l.findIdx? bad with | some i => .ret (f i) | none => .brk ()) := by
 cases h : l.findIdx? bad with
 | none =>
  rw [List.findIdx?_eq_none_iff] at h
  refine loopO_run (fun i => (i : Int)) l.length _ (fuel_lt (by omega)) (fun i hi => ?_) he
  rw [hb i hi, h _ (at_mem hi)]; simp
 | some k =>
  rw [List.findIdx?_eq_some_iff_getElem] at h
  obtain ⟨hk, hp, hn⟩ := h
  refine loopO_run (fun i => (i : Int)) k _ (fuel_lt (by omega)) (fun i hi => ?_) ?_
  ·have := hn i hi
   rw [hb i (by omega), at_get (by omega)]
   simp [this]
  ·rw [hb k hk, at_get hk, hp]; rfl
omit [Inhabited α] in
theorem findIdx_any (l : List α) (bad : α → Bool) : (decide ((0 : Int) ≤ (match l.findIdx? bad with | some i => (i : Int) | none => -1))) = l.any bad := by
 cases h : l.findIdx? bad with
 | none =>
  rw [List.findIdx?_eq_none_iff] at h
  have : l.any bad = false := by rw [List.any_eq_false]; intro x hx; simp [h x hx]
  rw [this]; simp
 | some k =>
  rw [List.findIdx?_eq_some_iff_getElem] at h
  obtain ⟨hk, hp, hn⟩ := h
  have : l.any bad = true := by rw [List.any_eq_true]; exact ⟨_, List.getElem_mem hk, hp⟩
  rw [this]; simp
end
section
variable {α : Type}
theorem eqI_iff {a b : Int} : eqI a b = true ↔ a = b := by simp [eqI]
theorem eqI_refl (a : Int) : eqI a a = true := eqI_iff.mpr rfl
theorem eqI_ne {a b : Int} (h : a ≠ b) : eqI a b = false := by cases e : eqI a b with | false => rfl | true => exact absurd (eqI_iff.mp e) h
theorem mget_mset_same (k : Int) (v : α) : ∀ l : List (Int × α), mget eqI k (mset eqI k v l) = some v
 | [] => by simp [mset, mget, eqI_refl]
 | (k', v') :: l => by
  unfold mset
  cases e : eqI k k' with
  | true => simp [mget, eqI_refl]
  | false => simp only [cond_false, mget, e]; exact mget_mset_same k v l
theorem mget_mset_ne {k j : Int} (h : j ≠ k) (v : α) : ∀ l : List (Int × α), mget eqI j (mset eqI k v l) = mget eqI j l
 | [] => by simp [mset, mget, eqI_ne h]
 | (k', v') :: l => by
  unfold mset
  cases e : eqI k k' with
  | true =>
   have : k = k' := eqI_iff.mp e
   subst this
   simp [mget, eqI_ne h]
  | false => simp only [cond_false, mget, mget_mset_ne h v l]
end
end Sg
