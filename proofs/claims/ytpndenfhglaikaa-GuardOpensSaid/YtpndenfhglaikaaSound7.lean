import Derived.Test.YtpndenfhglaikaaSound6
set_option linter.all false
namespace Sg
open Go
section
variable {P : Program} {B : Base} {ρ ρ' : Nat → Option Pl} {F F' : Nat → Prop} {w w' : World} {h : Hp} {o : Oper} {a : Act} {T : List (Nat × TI)}
theorem HIf.move {ft : Nat → Nat → Prop} {S : Nat → Prop} (fr : Fr B ρ F w) (hi : HIf B ρ F w h ft) {b b' : Nat} {p : Pl} {ob nob : Ob} (hb : h b = some (some ob)) (hb' : h b' = none) (g : Gr ρ F w (updR ρ b' p) F w') (hsz : w.heap.size ≤ w'.heap.size)
  (hkeep : ∀ x ox, x ≠ b → h x = some (some ox) → ∀ k, ft x k → w'.heap[k]? = w.heap[k]?) (hS : ∀ k, S k → ft b k ∨ (w.heap.size ≤ k ∧ k < w'.heap.size))
  (hr : RepO (updR ρ b' p) F w' S b' nob) : HIf B (updR ρ b' p) F w' (upd h [(b', some nob), (b, none)]) (setF ft b' S) := by
 have hbb : b ≠ b' := fun e => by rw [e, hb'] at hb; cases hb
 have hu : ∀ x, upd h [(b', some nob), (b, none)] x = if b' = x then some (some nob) else if b = x then some none else h x := by
  intro x; exact upd_two _ _ _ _ _
 refine hi.step g fr hsz (fun x => x = b ∨ x = b') (fun x ob' e hh => ?_) (fun x ob' e hh => ?_) (fun x ob' k e hh hf => ?_) (fun b1 b2 o1 o2 k e1 e2 h1 h2 _ _ => ?_) (fun k hk => .inl hk) fun x hh => ?_
 ·rw [hu, if_neg (fun e' => e (.inr e'.symm)), if_neg (fun e' => e (.inl e'.symm))] at hh
  exact ⟨hh, hkeep x ob' (fun e' => e (.inl e')) hh, fun k => by rw [setF_ne (fun e' => e (.inr e'))]⟩
 ·by_cases e1 : b' = x
  ·subst e1; rw [hu, if_pos rfl] at hh; cases hh; rw [setF_same]; exact hr
  ·rw [hu, if_neg e1] at hh; split at hh
   ·cases hh
   ·rename_i e2; rcases e with e | e
    ·exact absurd e.symm e2
    ·exact absurd e.symm e1
 ·by_cases e1 : b' = x
  ·subst e1; rw [setF_same] at hf
   rcases hS k hf with q | q
   ·exact .inl ⟨b, ob, .inl rfl, hb, q⟩
   ·exact .inr q
  ·rw [hu, if_neg e1] at hh; split at hh
   ·cases hh
   ·rename_i e2; rcases e with e | e
    ·exact absurd e.symm e2
    ·exact absurd e.symm e1
 ·have key : ∀ x ob', (x = b ∨ x = b') → upd h [(b', some nob), (b, none)] x = some (some ob') → x = b' := fun x ob' e hh => by
   rcases e with e | e
   ·subst e; rw [hu, if_neg (Ne.symm hbb), if_pos rfl] at hh; cases hh
   ·exact e
  rw [key b1 o1 e1 h1, key b2 o2 e2 h2]
 ·rw [hu] at hh
  split at hh
  ·cases hh
  ·rename_i e
   split at hh
   ·cases hh
   ·rw [show updR ρ b' p x = ρ x by simp [updR, Ne.symm e]]; exact hi.fresh x hh
structure Re (B : Base) (ρ : Nat → Option Pl) (F : Nat → Prop) (w : World) (ft : Nat → Nat → Prop) (b fresh e esz n lenx : Nat) (news : List Value) (nob : Ob) : Prop where
 nil : n = 0 → lenx = 0 → ∀ ρ', ρ' fresh = some .nil → RepO ρ' F w (fun _ => False) fresh nob
 row : ∀ (ρ' : Nat → Option Pl) (W : World) (k' base' cap' : Nat) (row : List Value) (S : Nat → Prop), Gr ρ F w ρ' F W → ρ' fresh = some (.blk k' base' cap') → S k' → (∀ q, ft b q → S q) →
  (∀ q, ft b q → (∀ base cap, ρ b ≠ some (.blk q base cap)) → q ≠ k' ∧ W.heap[q]? = w.heap[q]?) → W.heap[k']? = some (.cells (List.toArray row) e (0, 0)) → base' + cap' * esz ≤ row.length → n + lenx ≤ cap' → cap' ≤ maxLen →
  (∀ k base cap vs, ρ b = some (.blk k base cap) → w.heap[k]? = some (.cells (List.toArray vs) e (0, 0)) → ∀ q, q < n * esz → row[base' + q]? = vs[base + q]?) → (ρ b = some .nil → n = 0) →
  (∀ q, q < lenx * esz → row[base' + (n * esz + q)]? = news[q]?) → RepO ρ' F W S fresh nob
theorem append_obj {x y : Operand} {t e : TypeId} {te : TI} {fresh b nn n lenx : Nat} {nb : Bool} {ob nob : Ob} {ft : Nat → Nat → Prop} (h1 : P.underlying t = some (.slice e))
  (hte : TOk1 P e te) (hpos : 1 ≤ te.size) (hzl : te.zero.length = te.size) (hop : o.op = .call { callee := .builtin .append, args := #[x, y], argTypes := #[t, t] }) (hfr : h fresh = none) (hob : h b = some (some ob))
  (fr : Fr B ρ F w) (hi : HIf B ρ F w h ft) (hx : RepC ρ F w (.own b nb n) (a.eval x)) (hbytes : (n + lenx) * te.bytes ≤ 140737488355328) (hmax : n + lenx ≤ 4611686018427387904)
  (hrow : ∀ k base cap, ρ b = some (.blk k base cap) → ft b k ∧ ∃ vs : List Value, w.heap[k]? = some (.cells vs.toArray e (0, 0)) ∧ base + cap * te.size ≤ vs.length ∧ n ≤ cap ∧ cap ≤ maxLen)
  {news : List Value} (hsrc : ((∃ ad c, a.eval y = .slice ad 0 c) ∧ lenx = 0 ∧ news = []) ∨ ∃ k off cap, a.eval y = .slice (some ⟨k, off, none⟩) lenx cap ∧ news.length = lenx * te.size ∧ (∀ i u, news[i]? = some u → w.cell? ⟨k, off + i, none⟩ = some u) ∧ (∀ u ∈ news, u.oneCell' = true))
  (re : Re B ρ F w ft b fresh e te.size n lenx news nob) : Good P B ρ F w h o a (.v (.one (.own fresh false (n + lenx)))) [(fresh, some nob), (b, none)] := by
 obtain ⟨_, i, z, hie, hs, hby, hz, hzc⟩ := hte
 have hbf : fresh ≠ b := fun e => by rw [← e, hfr] at hob; cases hob
 have hzsz : z.cells.size = te.size := by rw [← Array.length_toList, hzc, hzl]
 have hρf := hi.fresh fresh hfr
 have grn : ∀ p, Gr ρ F w (updR ρ fresh p) F w := fun p => ⟨updR_mono hρf, fun _ h => h, fun _ _ => rfl⟩
 have frn : ∀ p, Fr B (updR ρ fresh p) F w := fun p => { fr with rho := fun b' p' e => updR_mono hρf b' p' (fr.rho b' p' e) }
 have oth : ∀ x ox k, x ≠ b → h x = some (some ox) → ft x k → ft b k → False := fun x ox k hne hx' h1 h2 => hne (hi.dis x b ox ob k hx' hob h1 h2)
 have nilway : n = 0 → lenx = 0 → (Builtin.append_ #[t, t] o.type #[a.eval x, a.eval y]).run P w = .ok (.slice none 0 0) w → Good P B ρ F w h o a (.v (.one (.own fresh false (n + lenx)))) [(fresh, some nob), (b, none)] := by
  intro n0 l0 hrun
  have hh := HIf.move (S := fun _ => False) fr hi hob hfr (grn .nil) (Nat.le_refl _) (fun _ _ _ _ _ _ => rfl) (fun _ hf => hf.elim) (re.nil n0 l0 _ (updR_same _ _))
  subst n0; subst l0
  exact good_to (grn _) (frn _) ⟨_, hh⟩ (exec_append hop hrun) (.inr ⟨rfl, updR_same _ _, rfl, rfl⟩)
 rcases hsrc with ⟨⟨ad0, c0, hyn⟩, hl0, hnews⟩ | ⟨ks, offs, caps, hyv, hn1, hn2, hn3⟩
 ·-- nothing is appended: the same slice under a new name
  rcases hx with ⟨k, base, cap, hk, hv⟩ | ⟨_, hkn, h0, hv⟩
  ·obtain ⟨hft, vs, g2, g3, g4, g5⟩ := hrow k base cap hk
   have hr : (execOp a.eval o).run P w = .ok (.value (.slice (some ⟨k, base, none⟩) n cap)) w := exec_append hop (by rw [hyn, hv]; exact append_none h1 hie (.inr ⟨rfl, g4⟩))
   have hrep := re.row (updR ρ fresh (.blk k base cap)) w k base cap vs (ft b) (grn _) (updR_same _ _) hft (fun _ h => h) (fun q hq hne => ⟨fun e => hne base cap (by rw [e]; exact hk), rfl⟩) g2 g3 (by omega) g5
    (fun k0 base0 cap0 vs0 e1 e2 q hq => by rw [hk] at e1; cases e1; rw [g2] at e2; simp at e2; rw [e2]) (fun e => by rw [hk] at e; cases e) (fun q hq => by subst hl0; simp at hq)
   refine good_to (grn _) (frn _) ⟨_, HIf.move fr hi hob hfr (grn _) (Nat.le_refl _) (fun _ _ _ _ _ _ => rfl) (fun _ hf => .inl hf) hrep⟩ hr (.inl ⟨k, base, cap, updR_same _ _, by rw [hl0, Nat.add_zero]⟩)
  ·exact nilway h0 hl0 (by rw [hyn, hv]; exact append_none (k := 0) (base := 0) (cap := 0) (n := 0) h1 hie (.inl ⟨rfl, rfl⟩))
 ·rcases hx with ⟨k, base, cap, hk, hv⟩ | ⟨_, hkn, h0, hv⟩
  ·obtain ⟨hft, vs, g2, g3, g4, g5⟩ := hrow k base cap hk
   obtain ⟨k1, base1, cap1, row, W, hrun, hway, r1, r2, r3, r4, r5, r6⟩ := append_row (P := P) (w := w) (t := t) (ty := o.type) h1 hie hz hs hby hzsz g2 g3 g4 g5 hn1 hn2 hn3 (ks := ks) (offs := offs) (caps := caps) hmax hbytes
   have hr : (execOp a.eval o).run P w = .ok (.value (.slice (some ⟨k1, base1, none⟩) (n + lenx) cap1)) W := exec_append hop (by rw [hyv, hv]; exact hrun)
   have r5' : ∀ k0 base0 cap0 vs0, ρ b = some (.blk k0 base0 cap0) → w.heap[k0]? = some (.cells (List.toArray vs0) e (0, 0)) → ∀ q, q < n * te.size → row[base1 + q]? = vs0[base0 + q]? := fun k0 base0 cap0 vs0 e1 e2 q hq => by
    rw [hk] at e1; cases e1; rw [g2] at e2; simp at e2; rw [← e2]; exact r5 q hq
   rcases hway with ⟨rfl, rfl, rfl, pt⟩ | ⟨rfl, ps⟩
   ·have hblk := hi.blk b _ k1 hob hft
    have gr1 := pt.gr (ρ := ρ) hblk.2.1
    have fr1 := pt.fr fr hblk.2.2
    have gr2 : Gr ρ F w (updR ρ fresh (.blk k1 base1 cap1)) F W := gr1.trans ⟨updR_mono hρf, fun _ h => h, fun _ _ => rfl⟩
    have hrep := re.row (updR ρ fresh (.blk k1 base1 cap1)) W k1 base1 cap1 row (ft b) gr2 (updR_same _ _) hft (fun _ h => h)
     (fun q hq hne => have e : q ≠ k1 := fun e => hne base1 cap1 (by rw [e]; exact hk); ⟨e, pt.old q e⟩) r1 r2 r3 r4 r5' (fun e => by rw [hk] at e; cases e) r6
    refine good_to gr2 { fr1 with rho := fun b' p' e => updR_mono hρf b' p' (fr1.rho b' p' e) } ⟨_, HIf.move fr hi hob hfr gr2 (by rw [pt.size]; omega) (fun x ox hne hx' q hq => pt.old q fun e => oth x ox q hne hx' hq (e ▸ hft)) (fun _ hf => .inl hf) hrep⟩ hr (.inl ⟨k1, base1, cap1, updR_same _ _, rfl⟩)
   ·have gr1 := ps.gr fr (b := fresh) (pl := .blk w.heap.size base1 cap1) hρf
    have hrep := re.row (updR ρ fresh (.blk w.heap.size base1 cap1)) W w.heap.size base1 cap1 row (fun q => q = w.heap.size ∨ ft b q) gr1 (updR_same _ _) (.inl rfl) (fun _ h => .inr h)
     (fun q hq hne => have hlt := (hi.blk b _ q hob hq).1; ⟨by omega, ps.old hlt⟩) r1 r2 r3 r4 r5' (fun e => by rw [hk] at e; cases e) r6
    refine good_to gr1 (ps.fr fr hρf) ⟨_, HIf.move fr hi hob hfr gr1 (by rw [ps.sz]; omega) (fun x ox hne hx' q hq => ps.old (hi.blk x ox q hx' hq).1) (fun q hf => ?_) hrep⟩ hr (.inl ⟨_, base1, cap1, updR_same _ _, rfl⟩)
    rcases hf with rfl | hf
    ·exact .inr ⟨Nat.le_refl _, by rw [ps.sz]; omega⟩
    ·exact .inl hf
  ·have h0' : n = 0 := h0
   by_cases hm : lenx = 0
   ·exact nilway h0' hm (by rw [hyv, hv, hm]; exact append_none' h1 hie _ _)
   ·rw [h0'] at hbytes hmax
    simp only [Nat.zero_add] at hbytes hmax
    obtain ⟨cap1, row, W, hrun, ps, r1, r2, r3, r4, r6⟩ := append_nil (P := P) (w := w) (t := t) (ty := o.type) h1 hie hz hs hby hzsz hn1 hn2 (ks := ks) (offs := offs) (caps := caps) hmax hbytes (by omega)
    have hr : (execOp a.eval o).run P w = .ok (.value (.slice (some ⟨w.heap.size, 0, none⟩) lenx cap1)) W := exec_append hop (by rw [hyv, hv]; exact hrun)
    have gr1 := ps.gr fr (b := fresh) (pl := .blk w.heap.size 0 cap1) hρf
    have hrep := re.row (updR ρ fresh (.blk w.heap.size 0 cap1)) W w.heap.size 0 cap1 row (fun q => q = w.heap.size ∨ ft b q) gr1 (updR_same _ _) (.inl rfl) (fun _ h => .inr h)
     (fun q hq hne => have hlt := (hi.blk b _ q hob hq).1; ⟨by omega, ps.old hlt⟩) r1 (by rw [r2, Nat.zero_add]; exact Nat.le_refl _) (by rw [h0', Nat.zero_add]; exact r3) r4
     (fun k0 base0 cap0 vs0 e1 _ q hq => by rw [hkn] at e1; cases e1) (fun _ => h0') (fun q hq => by rw [h0', Nat.zero_mul, Nat.zero_add, Nat.zero_add]; exact r6 q hq)
    have htv : RepT (updR ρ fresh (.blk w.heap.size 0 cap1)) F W (.v (.one (.own fresh false (n + lenx)))) (.slice (some ⟨w.heap.size, 0, none⟩) lenx cap1) := .inl ⟨_, 0, cap1, updR_same _ _, by rw [h0', Nat.zero_add]⟩
    refine good_to gr1 (ps.fr fr hρf) ⟨_, HIf.move fr hi hob hfr gr1 (by rw [ps.sz]; omega) (fun x ox hne hx' q hq => ps.old (hi.blk x ox q hx' hq).1) (fun q hf => ?_) hrep⟩ hr htv
    rcases hf with rfl | hf
    ·exact .inr ⟨Nat.le_refl _, by rw [ps.sz]; omega⟩
    ·exact .inl hf
end
end Sg
