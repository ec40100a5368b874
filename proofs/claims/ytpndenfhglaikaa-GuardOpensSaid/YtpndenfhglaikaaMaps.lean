import Derived.Test.YtpndenfhglaikaaLend
set_option linter.all false
namespace Sg
open Go
section
variable {κ α : Type}
def mget (eq : κ → κ → Bool) (k : κ) : List (κ × α) → Option α
 | [] => none
 | (k', v) :: l => bif eq k k' then some v else mget eq k l
def mset (eq : κ → κ → Bool) (k : κ) (v : α) : List (κ × α) → List (κ × α)
 | [] => [(k, v)]
 | (k', v') :: l => bif eq k k' then (k, v) :: l else (k', v') :: mset eq k v l
def eqI (a b : Int) : Bool := decide (a = b) && true
def kOf [Inhabited κ] (kc : κ → Nat → DV) (l : List (κ × α)) : Nat → Nat → DV := elOf kc (l.map (·.1))
def vOf [Inhabited α] (vc : α → Nat → DV) (l : List (κ × α)) : Nat → Nat → CV := fun i j => .d (elOf vc (l.map (·.2)) i j)
def mpD [Inhabited κ] [Inhabited α] (K V : TypeId) (ka va : Bool) (ksz vsz : Nat) (kc : κ → Nat → DV) (vc : α → Nat → DV) (l : List (κ × α)) : Ob := .map ⟨K, V, ka, va, ksz, vsz, l.length, kOf kc l, vOf vc l, []⟩
section
variable [Inhabited κ] [Inhabited α] {eq : κ → κ → Bool} {kc : κ → Nat → DV} {vc : α → Nat → DV} {ks : List (Option IntKind)} {ksz vsz : Nat}
theorem kOf_zero (x : κ × α) (l : List (κ × α)) : kOf kc (x :: l) 0 = kc x.1 := rfl
theorem kOf_succ (x : κ × α) (l : List (κ × α)) (i : Nat) : kOf kc (x :: l) (i + 1) = kOf kc l i := by
 funext j; simp [kOf, elOf, at']
theorem vOf_zero (x : κ × α) (l : List (κ × α)) : vOf vc (x :: l) 0 = fun j => .d (vc x.2 j) := rfl
theorem vOf_succ (x : κ × α) (l : List (κ × α)) (i : Nat) : vOf vc (x :: l) (i + 1) = vOf vc l i := by
 funext j; simp [vOf, elOf, at']
theorem kinds_of (hk : ∀ x, kindsOk ks (takeDV (kc x) 0 ksz) = true) : ∀ (l : List (κ × α)) (i : Nat), i < l.length → kindsOk ks (takeDV (kOf kc l i) 0 ksz) = true
 | l, i, _ => hk _
theorem lookAt_of (hk : ∀ x, kindsOk ks (takeDV (kc x) 0 ksz) = true) (he : ∀ a b, eqCs (takeDV (kc a) 0 ksz) (takeDV (kc b) 0 ksz) = some (eq a b)) (l : List (κ × α)) (k : κ) (d : α) {kd : List DV} {zero cs : List CV}
  (hkd : kd = takeDV (kc k) 0 ksz) (hz : zero = takeV (fun j => .d (vc d j)) 0 vsz) (hcs : cs = takeV (fun j => .d (vc ((mget eq k l).getD d) j)) 0 vsz) :
  LookAt ks ksz vsz l.length (kOf kc l) (vOf vc l) kd zero (mget eq k l).isSome cs := by
 subst hkd
 refine ⟨kinds_of hk l, ?_⟩
 have key : ∀ (l : List (κ × α)), ((mget eq k l).isSome = true ∧ ∃ i, i < l.length ∧ eqCs (takeDV (kc k) 0 ksz) (takeDV (kOf kc l i) 0 ksz) = some true ∧ (∀ i', i' < i → eqCs (takeDV (kc k) 0 ksz) (takeDV (kOf kc l i') 0 ksz) = some false) ∧ takeV (fun j => .d (vc ((mget eq k l).getD d) j)) 0 vsz = takeV (vOf vc l i) 0 vsz) ∨
   ((mget eq k l).isSome = false ∧ (∀ i, i < l.length → eqCs (takeDV (kc k) 0 ksz) (takeDV (kOf kc l i) 0 ksz) = some false)) := by
  intro l
  induction l with
  | nil => right; exact ⟨rfl, fun i hi => absurd hi (Nat.not_lt_zero i)⟩
  | cons x l ih =>
   obtain ⟨k', v⟩ := x
   cases hb : eq k k' with
   | true =>
    left
    refine ⟨by simp [mget, hb], 0, by simp, by rw [kOf_zero, he, hb], fun i' hi' => absurd hi' (Nat.not_lt_zero i'), ?_⟩
    simp only [mget, hb, cond_true, Option.getD_some]; rfl
   | false =>
    have h0 : mget eq k ((k', v) :: l) = mget eq k l := by simp [mget, hb]
    rw [h0]
    rcases ih with ⟨h1, i, h2, h3, h4, h5⟩ | ⟨h1, h2⟩
    ·left
     refine ⟨h1, i + 1, by simp; omega, by rw [kOf_succ]; exact h3, fun i' hi' => ?_, by rw [vOf_succ]; exact h5⟩
     cases i' with
     | zero => rw [kOf_zero, he, hb]
     | succ i' => rw [kOf_succ]; exact h4 i' (by omega)
    ·right
     refine ⟨h1, fun i hi => ?_⟩
     cases i with
     | zero => rw [kOf_zero, he, hb]
     | succ i => rw [kOf_succ]; exact h2 i (by simpa using hi)
 rcases key l with ⟨h1, i, h2, h3, h4, h5⟩ | ⟨h1, h2⟩
 ·exact .inl ⟨h1, i, h2, h3, h4, hcs.trans h5⟩
 ·refine .inr ⟨h1, h2, ?_⟩
  rw [hcs, hz]
  cases hm : mget eq k l with
  | none => rfl
  | some v => rw [hm] at h1; cases h1
theorem setAt_of (hk : ∀ x, kindsOk ks (takeDV (kc x) 0 ksz) = true) (he : ∀ a b, eqCs (takeDV (kc a) 0 ksz) (takeDV (kc b) 0 ksz) = some (eq a b)) (l : List (κ × α)) (k : κ) (v : α) {kd : List DV} {vd : List CV}
  (hkd : kd = takeDV (kc k) 0 ksz) (hvd : vd = takeV (fun j => .d (vc v j)) 0 vsz) :
  SetAt ks ksz vsz l.length (kOf kc l) (vOf vc l) kd vd [] (mset eq k v l).length (kOf kc (mset eq k v l)) (vOf vc (mset eq k v l)) := by
 subst hkd; subst hvd
 refine ⟨kinds_of hk l, fun i _ j _ x hx => by simp [vOf, CV.ment] at hx, ?_⟩
 induction l with
 | nil => exact ⟨0, fun i' hi' => absurd hi' (Nat.not_lt_zero i'), .inr ⟨rfl, rfl⟩, rfl, rfl, fun i' hi' => absurd hi' (Nat.not_lt_zero i')⟩
 | cons x l ih =>
  obtain ⟨k', v'⟩ := x
  cases hb : eq k k' with
  | true =>
   have h0 : mset eq k v ((k', v') :: l) = (k, v) :: l := by simp [mset, hb]
   rw [h0]
   refine ⟨0, fun i' hi' => absurd hi' (Nat.not_lt_zero i'), .inl ⟨by simp, by rw [kOf_zero, he, hb], rfl⟩, rfl, rfl, fun i' hi' hne => ?_⟩
   cases i' with
   | zero => exact absurd rfl hne
   | succ i' => simp only [kOf_succ, vOf_succ, and_self]
  | false =>
   have h0 : mset eq k v ((k', v') :: l) = (k', v') :: mset eq k v l := by simp [mset, hb]
   rw [h0]
   obtain ⟨i, h1, h2, h3, h4, h5⟩ := ih
   refine ⟨i + 1, fun i' hi' => ?_, ?_, by rw [kOf_succ]; exact h3, by rw [vOf_succ]; exact h4, fun i' hi' hne => ?_⟩
   ·cases i' with
    | zero => rw [kOf_zero, he, hb]
    | succ i' => rw [kOf_succ]; exact h1 i' (by omega)
   ·rcases h2 with ⟨a, b, c⟩ | ⟨a, b⟩
    ·exact .inl ⟨by simp; omega, by rw [kOf_succ]; exact b, by simp [c]⟩
    ·exact .inr ⟨by simp [a], by simp [b]⟩
   ·cases i' with
    | zero => simp only [kOf_zero, vOf_zero, and_self]
    | succ i' =>
     simp only [kOf_succ, vOf_succ]
     exact h5 i' (by simpa using hi') (by omega)
end
end
theorem idxV {n sz : Nat} {cs : List CV} {g : Nat → List CV} (h : ∀ q, q < n → (cs.drop (q * sz)).take sz = g q) {i : Int} (hi : 0 ≤ i ∧ i < (n : Int)) : (cs.drop (i.toNat * sz)).take sz = g i.toNat := h _ (by omega)
theorem idxL {n sz m : Nat} (hm : n * sz ≤ m) {i : Int} (hi : 0 ≤ i ∧ i < (n : Int)) : i.toNat * sz + sz ≤ m := by
 have : (i.toNat + 1) * sz ≤ n * sz := Nat.mul_le_mul_right _ (by omega)
 rw [Nat.add_mul, Nat.one_mul] at this; omega
end Sg
