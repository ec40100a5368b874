import Derived.Test.YtpndenfhglaikaaPg3
set_option linter.all false
namespace Sg
open Go
def cmpL : List Int → List Int → Int
 | [], [] => 0
 | [], _ :: _ => -1
 | _ :: _, [] => 1
 | a :: x, b :: y => if a < b then -1 else if b < a then 1 else cmpL x y
theorem cmpL_lex : ∀ x y, decide (cmpL x y < 0) = lexB x y
 | [], [] => rfl
 | [], _ :: _ => rfl
 | _ :: _, [] => rfl
 | a :: x, b :: y => by
  unfold cmpL lexB
  by_cases h : a < b
  ·simp [h]
  ·by_cases h' : b < a
   ·have : a ≠ b := by omega
    simp [h, h', this]
   ·have : a = b := by omega
    simp [this, cmpL_lex x y]
theorem cmp_eq (x y : Int) : m_cmp_Compare x y = some (if x < y then -1 else if y < x then 1 else 0) := by
 unfold m_cmp_Compare m_cmp_isNaN
 simp only [decide_true, Bool.not_true, Option.bind_some, cond_false]
 by_cases h : x < y
 ·simp [h]
 ·by_cases h' : y < x <;> simp [h, h']
theorem drop_at {α : Type} [Inhabited α] {l : List α} {i : Nat} (h : i < l.length) : l.drop i = at' l i :: l.drop (i + 1) := by
 rw [at_get h]; exact List.drop_eq_getElem_cons h
theorem compare_loop (x y : List Int) (hx : x.length ≤ 9223372036854775807) : ∀ (n i m : Nat), x.length - i = n → i ≤ x.length → i ≤ y.length → n < m →
  (Option.bind (loopO (m_slices_Compare_L0 x y) m (i : Int)) fun o => match o with
   | .ret v => some v
   | .brk _ => bif (decide ((x.length : Int) < (y.length : Int))) then some (-1) else some 0) = some (cmpL (x.drop i) (y.drop i)) := by
 intro n
 induction n with
 | zero =>
  intro i m hn hix hiy hm
  obtain ⟨m, rfl⟩ : ∃ k, m = k + 1 := ⟨m - 1, by omega⟩
  have : i = x.length := by omega
  subst this
  have hb : m_slices_Compare_L0 x y (x.length : Int) = some (.done (.brk ())) := by unfold m_slices_Compare_L0; simp
  rw [loopO_succ, hb]
  simp only [Option.bind_some, List.drop_length]
  by_cases h : x.length < y.length
  ·rw [drop_at h]; simp [cmpL, h]
  ·rw [List.drop_eq_nil_of_le (by omega : y.length ≤ x.length)]; simp [cmpL, h]
 | succ n ih =>
  intro i m hn hix hiy hm
  obtain ⟨m, rfl⟩ : ∃ k, m = k + 1 := ⟨m - 1, by omega⟩
  have hi : i < x.length := by omega
  have h1 : decide ((i : Int) < (x.length : Int)) = true := by simp; omega
  by_cases hy : i < y.length
  ·have h2 : decide ((y.length : Int) ≤ (i : Int)) = false := by simp; omega
   rw [drop_at hi, drop_at hy]
   unfold cmpL
   by_cases hlt : at' x i < at' y i
   ·have hb : m_slices_Compare_L0 x y (i : Int) = some (.done (.ret (-1))) := by
     unfold m_slices_Compare_L0
     rw [h1, cond_true, asO_pos (by omega), h2, cond_false, asO_pos (by omega)]
     simp [cmp_eq, hlt]
    rw [loopO_succ, hb]; simp [hlt]
   ·by_cases hgt : at' y i < at' x i
    ·have hb : m_slices_Compare_L0 x y (i : Int) = some (.done (.ret 1)) := by
      unfold m_slices_Compare_L0
      rw [h1, cond_true, asO_pos (by omega), h2, cond_false, asO_pos (by omega)]
      simp [cmp_eq, hlt, hgt]
     rw [loopO_succ, hb]; simp [hlt, hgt]
    ·have hb : m_slices_Compare_L0 x y (i : Int) = some (.next ((i : Int) + 1)) := by
      unfold m_slices_Compare_L0
      rw [h1, cond_true, asO_pos (by omega), h2, cond_false, asO_pos (by omega)]
      simp only [cmp_eq, Int.toNat_natCast, hlt, hgt, if_false, Option.bind_some]
      rw [wr (by omega)]; rfl
     rw [loopO_succ, hb]
     simp only [hlt, hgt, if_false]
     exact ih (i + 1) m (by omega) (by omega) (by omega) (by omega)
  ·have : i = y.length := by omega
   have hb : m_slices_Compare_L0 x y (i : Int) = some (.done (.ret 1)) := by
    unfold m_slices_Compare_L0
    have h2 : decide ((y.length : Int) ≤ (i : Int)) = true := by simp; omega
    rw [h1, cond_true, asO_pos (by omega), h2, cond_true]
   rw [loopO_succ, hb, drop_at hi, List.drop_eq_nil_of_le (by omega : y.length ≤ i)]
   simp [cmpL]
theorem compare_eq (x y : List Int) (hx : x.length ≤ 9223372036854775807) : m_slices_Compare x y = some (cmpL x y) := by
 have := compare_loop x y hx x.length 0 FUEL (by omega) (by omega) (by omega) (fuel_lt (by omega))
 rw [List.drop_zero, List.drop_zero] at this
 exact this
theorem or_eq (a b c : Int) : m_cmp_Or [a, b, c] = some (if a ≠ 0 then a else if b ≠ 0 then b else c) := by
 have key := searchI_run (body := m_cmp_Or_L0 [a, b, c]) 3 (fun i => !decide (at' [a, b, c] i = 0)) (fun k => at' [a, b, c] k.toNat) (by omega) (fun i hi => ?_) ?_
 ·unfold m_cmp_Or
  rw [key, show List.range 3 = [0, 1, 2] from rfl]
  simp only [List.find?_cons, List.find?_nil, at', List.getD_cons_zero, List.getD_cons_succ]
  by_cases ha : a = 0
  ·by_cases hb : b = 0
   ·by_cases hc : c = 0 <;> simp [ha, hb, hc]
   ·simp [ha, hb]
  ·simp [ha]
 ·unfold m_cmp_Or_L0
  have h1 : decide ((i : Int) < ([a, b, c].length : Int)) = true := by simp; omega
  rw [h1, cond_true, asO_pos (by simp; omega), Int.toNat_natCast, wr (by omega)]
  exact bif_some _ _ _
 ·rfl
theorem shorter_eq (x y : Way) (hx : 0 ≤ x.ohm ∧ x.ohm ≤ 1000000000) (hy : 0 ≤ y.ohm ∧ y.ohm ≤ 1000000000) (hxl : x.links.length ≤ 1000000000) (hyl : y.links.length ≤ 1000000000) :
  m_flow_ways_1 x y = some (!y.there || kltB (keyW x) (keyW y)) := by
 unfold m_flow_ways_1
 cases y.there with
 | false => rfl
 | true =>
  simp only [Bool.not_true, cond_false, Bool.false_or]
  rw [compare_eq _ _ (by omega), Option.bind_some, wr (by omega), wr (by omega), or_eq, Option.bind_some]
  congr 1
  unfold kltB keyW
  simp only
  by_cases h1 : x.ohm < y.ohm
  ·have : x.ohm - y.ohm ≠ 0 := by omega
   rw [if_pos this]; simp [h1]; omega
  ·by_cases h2 : x.ohm = y.ohm
   ·have : ¬ (x.ohm - y.ohm ≠ 0) := by omega
    rw [if_neg this]
    by_cases h3 : x.links.length < y.links.length
    ·have : (x.links.length : Int) - (y.links.length : Int) ≠ 0 := by omega
     rw [if_pos this]; simp [h2, h3]; omega
    ·by_cases h4 : x.links.length = y.links.length
     ·have : ¬ ((x.links.length : Int) - (y.links.length : Int) ≠ 0) := by omega
      rw [if_neg this, cmpL_lex]; simp [h2, h4]
     ·have : (x.links.length : Int) - (y.links.length : Int) ≠ 0 := by omega
      rw [if_pos this]; simp [h2, h3, h4]; omega
   ·have : x.ohm - y.ohm ≠ 0 := by omega
    rw [if_pos this]; simp [h1, h2]; omega
theorem clone_eq (l : List Int) (h : l.length ≤ 1000000000) : m_slices_Clone112_a l = some l := by
 unfold m_slices_Clone112_a m_slices_Clone112
 rw [asO_pos (by simp; omega)]; simp
section
variable {p : Plant} {s : State} {b : Nat} {out : List Way}
theorem ways_step (hp : VP p) (h : WInv p s b out) {i u w : Nat} (hi : i < p.links.length) (hc : condB p s i = true) (he : IsEnd p i u w) (hu : u < out.length) (hw : w < out.length) {E : Arr2Int} (e0 : E.e0 = (u : Int)) (e1 : E.e1 = (w : Int)) (ch : Bool) {β : Type} (g : List Way → Bool → β) :
  (asO ((0 : Int) ≤ E.e0 ∧ E.e0 < (out.length : Int)) (
   bif (!((at' out (E.e0.toNat)).there)) then some (g out ch)
   else
   (m_slices_Clone112_a ((at' out (E.e0.toNat)).links)).bind fun r_1 =>
   asO (((r_1.length + [(i : Int)].length) * 8 ≤ 140737488355328) ∧ (r_1.length + [(i : Int)].length ≤ 4611686018427387904)) (
   (m_flow_ways_1 (⟨true, (IntKind.wrap .i64 (((at' out (E.e0.toNat)).ohm) + ((at' p.links (i : Int).toNat).ohm))), (r_1 ++ [(i : Int)])⟩ : Way) (at' out (E.e1.toNat))).bind fun r_2 =>
   asO ((0 : Int) ≤ E.e1 ∧ E.e1 < (out.length : Int)) (
   bif r_2 then
   asO ((0 : Int) ≤ E.e1 ∧ E.e1 < (out.length : Int)) (
   some (g (out.set (E.e1.toNat) (⟨true, (IntKind.wrap .i64 (((at' out (E.e0.toNat)).ohm) + ((at' p.links (i : Int).toNat).ohm))), (r_1 ++ [(i : Int)])⟩ : Way)) true))
   else
   some (g out ch))))) = some (g (relO p i u w out) (ch || relB p i u w out)) := by
 rw [e0, e1, asO_pos (by omega)]
 simp only [Int.toNat_natCast]
 unfold relO
 cases ht : (at' out u).there with
 | false =>
  have : relB p i u w out = false := by simp [relB, ht]
  simp [this]
 | true =>
  obtain ⟨o1, o2, o3⟩ := h.ohm hp hu ht
  have hl := (hp.lnk i hi).ohm
  obtain ⟨n1, n2⟩ := nxW_wk h hu ht hi hc he
  simp only [Bool.not_true, cond_false]
  rw [clone_eq _ (by omega), Option.bind_some, asO_pos (by simp; omega), wr (by omega)]
  have hs : m_flow_ways_1 (nxW p i u out) (at' out w) = some (relB p i u w out) := by
   cases hwt : (at' out w).there with
   | false => unfold m_flow_ways_1; simp [hwt, relB, ht]
   | true =>
    obtain ⟨q1, q2, q3⟩ := h.ohm hp hw hwt
    rw [shorter_eq _ _ (by simp [nxW]; omega) (by omega) (by simp [nxW]; omega) (by omega)]
    simp [relB, ht]
  have hs' := hs
  unfold nxW at hs'
  rw [hs', Option.bind_some, asO_pos (by omega)]
  cases relB p i u w out with
  | false => simp
  | true => simp only [cond_true, if_true, Bool.or_true]; rw [asO_pos (by omega)]; rfl
end
section
variable {p : Plant} {s : State} {b : Nat} {out : List Way}
theorem ways_L2 (hp : VP p) (h : WInv p s b out) {i : Nat} (hi : i < p.links.length) (hc : condB p s i = true) (ch : Bool) :
  loopO (m_flow_ways_L2 p (i : Int)) FUEL (out, ch, 0) = some (.brk (stepO p s out i, ch || stepC p s out i)) := by
 obtain ⟨ha, hb⟩ := ends_lt hp h.len hi
 have hla := (hp.lnk i hi).a
 have hlb := (hp.lnk i hi).b
 have h1 := relO_inv hp h ha hb hi hc (.inl ⟨rfl, rfl⟩)
 have e1 : (relO p i (at' p.links i).a.toNat (at' p.links i).b.toNat out).length = out.length := (relO_le (p := p) (i := i) (u := (at' p.links i).a.toNat) hb).1
 have s0 : m_flow_ways_L2 p (i : Int) (out, ch, 0) = some (.next (relO p i (at' p.links i).a.toNat (at' p.links i).b.toNat out, ch || relB p i (at' p.links i).a.toNat (at' p.links i).b.toNat out, 1)) :=
  ways_step hp h hi hc (.inl ⟨rfl, rfl⟩) ha hb (E := ⟨(at' p.links (i : Int).toNat).a, (at' p.links (i : Int).toNat).b⟩) (by simp; omega) (by simp; omega) ch (fun o c => Flow.next (o, c, (1 : Int)))
 have s1 : ∀ ch1, m_flow_ways_L2 p (i : Int) (relO p i (at' p.links i).a.toNat (at' p.links i).b.toNat out, ch1, 1) = some (.next (relO p i (at' p.links i).b.toNat (at' p.links i).a.toNat (relO p i (at' p.links i).a.toNat (at' p.links i).b.toNat out), ch1 || relB p i (at' p.links i).b.toNat (at' p.links i).a.toNat (relO p i (at' p.links i).a.toNat (at' p.links i).b.toNat out), 2)) := fun ch1 =>
  ways_step hp h1 hi hc (.inr ⟨rfl, rfl⟩) (by omega) (by omega) (E := ⟨(at' p.links (i : Int).toNat).b, (at' p.links (i : Int).toNat).a⟩) (by simp; omega) (by simp; omega) ch1 (fun o c => Flow.next (o, c, (2 : Int)))
 have s2 : ∀ o c, m_flow_ways_L2 p (i : Int) (o, c, 2) = some (.done (.brk (o, c))) := fun o c => rfl
 have hF : FUEL = 3 + (FUEL - 3) := by unfold FUEL; omega
 have : loopO (m_flow_ways_L2 p (i : Int)) 3 (out, ch, 0) = some (.brk (stepO p s out i, ch || stepC p s out i)) := by
  rw [loopO_succ, s0]; show loopO _ 2 _ = _
  rw [loopO_succ, s1]; show loopO _ 1 _ = _
  rw [loopO_succ, s2]
  simp only [stepO, stepC, hc, if_true, Bool.true_and, Bool.or_assoc]
 exact loopO_more this (by unfold FUEL; omega)
theorem ways_L1 (hp : VP p) (hs : VS p s) (h : WInv p s b out) : loopO (m_flow_ways_L1 p s) FUEL (out, false, 0) = some (.brk (passO p s out p.links.length, passC p s out p.links.length)) := by
 refine loopO_run (fun t => (passO p s out t, passC p s out t, (t : Int))) p.links.length _ (fuel_lt (by have := hp.ll; omega)) (fun i hi => ?_) ?_
 ·unfold m_flow_ways_L1
  have h1 : decide ((i : Int) < (p.links.length : Int)) = true := by simp; omega
  have hll := hp.ll
  simp only [h1, cond_true]
  rw [asO_pos (by omega), conducts_eq hp hs hi, Option.bind_some, wr (by omega)]
  cases hc : condB p s i with
  | false => simp only [Bool.not_false, cond_true, passO, passC, stepO, stepC, hc]; simp
  | true =>
   simp only [Bool.not_true, cond_false]
   rw [ways_L2 hp (passO_inv hp h i (by omega)).1 hi hc]
   rfl
 ·unfold m_flow_ways_L1; simp
theorem ways_L0 (hp : VP p) (hs : VS p s) (hb : (b : Int) < p.buses) : ∀ (m k : Nat) (out : List Way), k + m = 240001 → WInv p s b out → WR p s b k out → ∃ out', loopO (m_flow_ways_L0 p s) (m + 3) (out, true) = some (.brk out') ∧ WFin p s b out' := by
 have step : ∀ out, WInv p s b out → m_flow_ways_L0 p s (out, true) = some (.next (passO p s out p.links.length, passC p s out p.links.length)) := by
  intro out h
  unfold m_flow_ways_L0
  simp only [cond_true]
  rw [ways_L1 hp hs h]; rfl
 have fin : ∀ n out k, WInv p s b out → WR p s b k out → passC p s out p.links.length = false → ∃ out', loopO (m_flow_ways_L0 p s) (n + 3) (out, true) = some (.brk out') ∧ WFin p s b out' := by
  intro n out k h hr hc
  refine ⟨out, ?_, .of_fix hp hb h (fun l v hw hl => hr l v hw (by omega)) (passC_false _ hc)⟩
  rw [loopO_succ, step out h, hc, passC_false _ hc]
  rfl
 intro m
 induction m with
 | zero =>
  intro k out hk h hr
  exact fin 0 out k h hr (pass_full hp h (by omega) hr _ (Nat.le_refl _)).2
 | succ m ih =>
  intro k out hk h hr
  cases hc : passC p s out p.links.length with
  | false => exact fin (m + 1) out k h hr hc
  | true =>
   obtain ⟨out', h1, h2⟩ := ih (k + 1) (passO p s out p.links.length) (by omega) (passO_inv hp h _ (Nat.le_refl _)).1 (passO_R hp hb h hr)
   refine ⟨out', ?_, h2⟩
   rw [show m + 1 + 3 = (m + 3) + 1 by omega, loopO_succ, step out h, hc]
   exact h1
theorem ways_eq (hp : VP p) (hs : VS p s) (hb : (b : Int) < p.buses) : ∃ out, m_flow_ways p s (b : Int) = some out ∧ WFin p s b out := by
 have hbb := hp.b
 let init : List Way := (List.replicate p.buses.toNat (⟨false, 0, []⟩ : Way)).set b ⟨true, 0, []⟩
 have hb' : b < p.buses.toNat := by omega
 have hlen : init.length = p.buses.toNat := by simp [init]
 have hat : ∀ v, v < init.length → (at' init v).there = true → v = b ∧ at' init v = ⟨true, 0, []⟩ := by
  intro v hv ht
  by_cases e : b = v
  ·subst e; exact ⟨rfl, at'_set_eq (by simpa using hb')⟩
  ·rw [at'_set_ne e, at'_replicate (by omega)] at ht; cases ht
 have hself : at' init b = ⟨true, 0, []⟩ := at'_set_eq (by simpa using hb')
 have hcnt : 1 ≤ cntT init := by
  unfold cntT
  exact List.countP_pos_iff.mpr ⟨at' init b, at_mem (by omega), by rw [hself]⟩
 have hinv : WInv p s b init := by
  refine ⟨by omega, fun v hv ht => ?_⟩
  obtain ⟨rfl, e⟩ := hat v hv ht
  rw [e]
  exact ⟨.nil, by simp [ohmL], by show (0 : Int) ≤ _; omega⟩
 have hR : WR p s b 0 init := by
  intro l v hw hl
  have hl0 : l = [] := List.eq_nil_of_length_eq_zero (by omega)
  subst hl0
  have : v = b := by
   generalize hq : ([] : List Int) = q at hw
   cases hw with
   | nil => rfl
   | snoc _ _ _ _ => simp at hq
  subst this
  rw [hself]
  exact ⟨rfl, kle_refl _⟩
 obtain ⟨out, h1, h2⟩ := ways_L0 hp hs hb 240001 0 init (by omega) hinv hR
 refine ⟨out, ?_, h2⟩
 unfold m_flow_ways
 rw [asO_pos (by omega), asO_pos (by simp; omega)]
 have e1 : (List.replicate p.buses.toNat ((⟨false, 0, ([] : List Int)⟩ : Way) : Way)).set (b : Int).toNat (⟨true, (at' (List.replicate p.buses.toNat ((⟨false, 0, ([] : List Int)⟩ : Way) : Way)) (b : Int).toNat).ohm, (at' (List.replicate p.buses.toNat ((⟨false, 0, ([] : List Int)⟩ : Way) : Way)) (b : Int).toNat).links⟩ : Way) = init := by
  rw [Int.toNat_natCast, at'_replicate hb']
 rw [e1, loopO_more h1 (by unfold FUEL; omega : 240001 + 3 ≤ FUEL)]
 rfl
end
end Sg
