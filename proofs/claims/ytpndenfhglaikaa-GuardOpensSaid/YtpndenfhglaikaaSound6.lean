import Derived.Test.YtpndenfhglaikaaSound5
set_option linter.all false
namespace Sg
open Go
section
variable {P : Program} {B : Base} {ρ ρ' : Nat → Option Pl} {F F' : Nat → Prop} {w w' : World} {h : Hp} {o : Oper} {a : Act} {T : List (Nat × TI)}
theorem madeCells_get (z : Array Value) (n : Nat) (i j : Nat) (hj : j < z.size) (hin : i * z.size + j < n) : (madeCells z n).toList[i * z.size + j]? = z.toList[j]? := by
 have hm : (i * z.size + j) % z.size = j := by rw [Nat.mul_comm, Nat.mul_add_mod, Nat.mod_eq_of_lt hj]
 unfold madeCells
 rw [Array.toList_map, Array.toList_range, List.getElem?_map, List.getElem?_range hin]
 simp only [Option.map_some, hm]
 rw [Array.getElem!_eq_getD, Array.getD_eq_getD_getElem?, Array.getElem?_toList, Array.getElem?_eq_getElem hj]
 rfl
theorem make_sound (hT : TOk P T) {t : TypeId} {x y : Operand} {ti : TI} {xl xc : TV} {fresh : Nat} {an : Ann} {obs : List (Option (Option Ob))} {E : Eff} (ht : TOk1 P t ti) (hop : o.op = .makeSlice t x y)
  (he : effMake T fresh an ti.d xl xc obs = some E) (hc : All E.conds) (hobs : obs = [h fresh])
  (fr : Fr B ρ F w) (hi : HI B ρ F w h) (hx : RepT ρ F w xl (a.eval x)) (hy : RepT ρ F w xc (a.eval y)) : Good P B ρ F w h o a E.tv E.hd := by
 unfold effMake at he
 split at he
 ·rename_i e kl l kc c hd
  simp at hobs
  have hfr : h fresh = none := hobs.symm
  have hx' : a.eval x = .int kl l := hx
  have hy' : a.eval y = .int kc c := hy
  split at he
  ·rename_i te hte
   obtain ⟨_, i, z, hie, hs, hby, hz, hzc⟩ := hT.get hte
   split at he
   ·rename_i zc hzv
    cases hb : (Nat.beq te.zero.length te.size && Nat.ble 1 te.size) with
    | false => simp [hb] at he
    | true =>
     simp only [hb, cond_true] at he
     simp only [Bool.and_eq_true] at hb
     have hzl := Nat.eq_of_beq_eq_true hb.1
     have hpos := Nat.le_of_ble_eq_true hb.2
     have hcc : 0 ≤ l ∧ l = c ∧ te.bytes * l ≤ 281474976710656 ∧ l ≤ 9223372036854775807 := by
      split at he <;> cases he
      ·exact ⟨hc.1, hc.2.1, hc.2.2.1, hc.2.2.2.1⟩
      ·exact ⟨hc.1, hc.2.1, hc.2.2.1, hc.2.2.2.1⟩
     obtain ⟨h0, rfl, h48, h63⟩ := hcc
     have hu := ht.1
     rw [hd] at hu
     have hrun := run_make (P := P) w t e i z hu hie hz kl kc l l h0 (Int.le_refl _) (by rw [hby]; exact h48) h63
     have hrun' : (execOp a.eval o).run P w = .ok (.value (.slice (some ⟨w.heap.size, 0, none⟩) l.toNat l.toNat)) (w.alloc (.cells (madeCells z.cells (l.toNat * i.size)) e)) := by
      simp [execOp, hop, hx', hy', hrun]
     have p := Push.alloc w (.cells (madeCells z.cells (l.toNat * i.size)) e)
     have hρ := hi.fresh fresh hfr
     have hzsz : z.cells.size = te.size := by rw [← Array.length_toList, hzc, hzl]
     have hels : ∀ i', i' < l.toNat → ∀ j, j < te.size → ∃ u, (madeCells z.cells (l.toNat * i.size)).toList[i' * te.size + j]? = some u ∧ RepD F (w.alloc (.cells (madeCells z.cells (l.toNat * i.size)) e)) (zc.getD j .nilp) u := by
      intro i' hi' j hj
      have hin : i' * te.size + j < l.toNat * te.size := by
       have : (i' + 1) * te.size ≤ l.toNat * te.size := Nat.mul_le_mul_right _ (by omega)
       rw [Nat.add_mul, Nat.one_mul] at this; omega
      have hg := madeCells_get z.cells (l.toNat * i.size) i' j (by omega) (by rw [hzsz, hs]; exact hin)
      rw [hzsz] at hg
      rw [hg]
      have hzr := cvals_rep (ρ := ρ) (F := F) (w := w) hzv
      rw [← hzc] at hzr
      have hlz := hzr.length
      simp only [Array.length_toList, List.length_map] at hlz
      have hg2 : (zc.map CV.d)[j]? = some (.d (zc.getD j .nilp)) := by
       have hb2 : j < zc.length := by omega
       rw [List.getElem?_map, List.getD_eq_getElem?_getD, List.getElem?_eq_getElem hb2]; rfl
      obtain ⟨u, hu', hr⟩ := hzr.get hg2
      exact ⟨u, hu', RepC.gr (p.gr fr (pl := .blk w.heap.size 0 l.toNat) hρ) hr⟩
     have hcl : 0 + l.toNat * te.size ≤ (madeCells z.cells (l.toNat * i.size)).toList.length := by rw [Array.length_toList, size_madeCells, hs, Nat.zero_add]; exact Nat.le_refl _
     have hml : l.toNat ≤ maxLen := by unfold maxLen; omega
     split at he
     ·rename_i len' el'
      cases he
      obtain ⟨_, _, _, _, hle, heq, _⟩ := hc
      rw [hle]
      refine good_to (p.gr fr (pl := .blk w.heap.size 0 l.toNat) hρ) (p.fr fr hρ) (p.hi fr hi hfr ?_) hrun' (.inl ⟨w.heap.size, 0, l.toNat, updR_same _ _, rfl⟩)
      exact .inr ⟨w.heap.size, 0, l.toNat, updR_same _ _, rfl, _, by rw [p.new], hcl, Nat.le_refl _, hml, fun i' hi' j hj => by rw [← heq i' hi' j hj, Nat.zero_add]; exact hels i' hi' j hj⟩
     ·cases he
      refine good_to (p.gr fr (pl := .blk w.heap.size 0 l.toNat) hρ) (p.fr fr hρ) (p.hi fr hi hfr ?_) hrun' (.inl ⟨w.heap.size, 0, l.toNat, updR_same _ _, rfl⟩)
      exact .inr ⟨w.heap.size, 0, l.toNat, updR_same _ _, rfl, _, by rw [p.new], hcl, Nat.le_refl _, hml, fun i' hi' j hj => by rw [Nat.zero_add]; exact hels i' hi' j hj⟩
   ·cases he
  ·cases he
 ·cases he
theorem exec_builtin {b : Builtin} {args : Array Operand} {ts : Array TypeId} (hop : o.op = .call { callee := .builtin b, args := args, argTypes := ts }) :
  ∃ consts, execOp a.eval o = builtin b ts o.type consts (args.map a.eval) := by
 refine ⟨args.map fun | .const _ => true | _ => false, ?_⟩
 simp only [execOp, hop, resolve]
 rfl
theorem len_sound {x : Operand} {t : TypeId} {ti : TI} {xa : TV} {E : Eff} (ht : TOk1 P t ti) (hop : o.op = .call { callee := .builtin .len, args := #[x], argTypes := #[t] }) (he : effLen ti.d xa = some E)
  (fr : Fr B ρ F w) (hi : HI B ρ F w h) (hx : RepT ρ F w xa (a.eval x)) : Good P B ρ F w h o a E.tv E.hd := by
 obtain ⟨consts, hex⟩ := exec_builtin (a := a) hop
 have hu := run_underlyingT (w := w) ht
 unfold effLen at he
 split at he
 ·rename_i e nn esz len el hd
  cases pureE_inv he
  obtain ⟨ad, cap, hv, _⟩ := hx
  rw [hd] at hu
  refine good_same (v := .int .i64 len) fr hi ?_ rfl
  rw [hex]; simp [builtin, Builtin.len_, hu, hv, goInt]
 ·rename_i e b nn len hd
  cases pureE_inv he
  rw [hd] at hu
  refine good_same (v := .int .i64 len) fr hi ?_ rfl
  rcases hx with ⟨k, cap, _, hv⟩ | ⟨_, _, h0, hv⟩
  ·rw [hex]; simp [builtin, Builtin.len_, hu, hv, goInt]
  ·rw [hex, h0]; simp [builtin, Builtin.len_, hu, hv, goInt]
 ·rename_i s hd
  cases pureE_inv he
  have hv : a.eval x = .string s := hx
  rw [hd] at hu
  refine good_same (v := .int .i64 s.size) fr hi ?_ rfl
  rw [hex]; simp [builtin, Builtin.len_, hu, hv, goInt]
 ·rename_i n e hd
  cases pureE_inv he
  rw [hd] at hu
  refine good_same (v := .int .i64 n) fr hi ?_ rfl
  rw [hex]; simp [builtin, Builtin.len_, hu, goInt]
 ·cases he
theorem max_sound {x y : Operand} {ts : Array TypeId} {k k' : IntKind} {p q : Int} (hop : o.op = .call { callee := .builtin .max, args := #[x, y], argTypes := ts })
  (fr : Fr B ρ F w) (hi : HI B ρ F w h) (hx : RepT ρ F w (.v (.one (.d (.int k p)))) (a.eval x)) (hy : RepT ρ F w (.v (.one (.d (.int k' q)))) (a.eval y)) :
  Good P B ρ F w h o a (.v (.one (.d (.int k (if p < q then q else p))))) [] := by
 obtain ⟨consts, hex⟩ := exec_builtin (a := a) hop
 have hx' : a.eval x = .int k p := hx
 have hy' : a.eval y = .int k' q := hy
 refine good_same (v := .int k (if p < q then q else p)) fr hi ?_ rfl
 rw [hex]; simp [builtin, Builtin.max_, hx', hy', List.foldlM, Builtin.max2]
theorem srcOf_rep {xa : TV} {v : Value} {obs : List (Option (Option Ob))} {esz len : Nat} {el : Nat → Nat → DV} (hs : srcOf xa obs = some (esz, len, el)) (hi : HI B ρ F w h)
  (hobs : ∀ b nn n, xa = .v (.one (.own b nn n)) → ∃ r, obs = h b :: r) (hx : RepT ρ F w xa v) :
  ((∃ ad c, v = .slice ad 0 c) ∧ len = 0) ∨ ∃ k off cap, v = .slice (some ⟨k, off, none⟩) len cap ∧ ∃ news : List Value, news.length = len * esz ∧ (∀ i u, news[i]? = some u → w.cell? ⟨k, off + i, none⟩ = some u) ∧
   (∀ u ∈ news, u.oneCell' = true) ∧ ∀ i, i < len → ∀ j, j < esz → ∃ u, news[i * esz + j]? = some u ∧ RepD F w (el i j) u := by
 have build : ∀ (k off n : Nat), (∀ i, i < n → ∃ u, w.cell? ⟨k, off + i, none⟩ = some u ∧ u.oneCell' = true) →
   ∃ news : List Value, news.length = n ∧ (∀ i u, news[i]? = some u → w.cell? ⟨k, off + i, none⟩ = some u) ∧ ∀ u ∈ news, u.oneCell' = true := by
  intro k off n
  induction n with
  | zero => intro _; exact ⟨[], rfl, by simp, by simp⟩
  | succ n ih =>
   intro hh
   obtain ⟨news, h1, h2, h3⟩ := ih fun i hi => hh i (by omega)
   obtain ⟨u, hu, hu1⟩ := hh n (by omega)
   refine ⟨news ++ [u], by simp [h1], fun i v hv => ?_, fun v hv => ?_⟩
   ·rw [List.getElem?_append] at hv
    split at hv
    ·exact h2 i v hv
    ·rename_i e
     have : i = n := by
      rcases Nat.lt_or_ge i (n + 1) with hlt | hge
      ·omega
      ·rw [List.getElem?_eq_none (by simp; omega)] at hv; cases hv
     subst this
     rw [h1, Nat.sub_self] at hv; simp at hv; subst hv; exact hu
   ·rcases List.mem_append.1 hv with hv | hv
    ·exact h3 v hv
    ·simp at hv; subst hv; exact hu1
 have parts : ∀ (q : Nat), q < len * esz → q / esz < len ∧ q % esz < esz ∧ q / esz * esz + q % esz = q := by
  intro q hq
  have hpos : 0 < esz := Nat.pos_of_ne_zero fun e => by subst e; simp at hq
  exact ⟨Nat.div_lt_of_lt_mul (by rw [Nat.mul_comm]; exact hq), Nat.mod_lt _ hpos, by rw [Nat.mul_comm]; exact Nat.div_add_mod q esz⟩
 unfold srcOf at hs
 split at hs
 ·rename_i nn esz' len' el' _
  cases hs
  obtain ⟨ad, cap, hv, _, _, h3, _, h4⟩ := hx
  cases ad with
  | none => left; obtain ⟨h5, h6⟩ := h3 rfl; subst h5 h6; exact ⟨⟨_, _, hv⟩, rfl⟩
  | some ad =>
   by_cases hl0 : len = 0
   ·left; subst hl0; exact ⟨⟨_, _, hv⟩, rfl⟩
   right
   obtain ⟨hsp0, hcell⟩ := h4 ad rfl
   have hsp := hsp0 (by omega)
   obtain ⟨ak, ao, asp⟩ := ad
   simp at hsp; subst hsp
   obtain ⟨news, n1, n2, n3⟩ := build ak ao (len * esz) fun q hq => by
    obtain ⟨q1, q2, q3⟩ := parts q hq
    obtain ⟨_, u, hu, hr⟩ := hcell _ q1 _ q2
    rw [q3] at hu
    exact ⟨u, hu, hr.oneCell⟩
   refine ⟨ak, ao, cap, hv, news, n1, n2, n3, fun i hi' j hj => ?_⟩
   obtain ⟨_, u, hu, hr⟩ := hcell i hi' j hj
   have hin : i * esz + j < news.length := by
    rw [n1]
    have : (i + 1) * esz ≤ len * esz := Nat.mul_le_mul_right _ (by omega)
    rw [Nat.add_mul, Nat.one_mul] at this; omega
   have hg := List.getElem?_eq_getElem hin
   have := n2 _ _ hg
   simp only at this hu
   rw [hu] at this; cases this
   exact ⟨_, hg, hr⟩
 ·rename_i b nn n E' esz' len' el' _
  obtain ⟨r, hr0⟩ := hobs b nn n rfl
  simp only [List.cons.injEq] at hr0
  cases hb : Nat.beq n len' with
  | false => simp [hb] at hs
  | true =>
   simp only [hb, cond_true] at hs
   have := Nat.eq_of_beq_eq_true hb
   subst this
   cases hs
   obtain ⟨ft, hi⟩ := hi
   rcases hx with ⟨k, base, cap, hk, hv⟩ | ⟨_, _, h0, hv⟩
   ·right
    rcases hi.obj b _ hr0.1.symm with ⟨g1, _⟩ | ⟨k', base', cap', g1, g0, vs, g2, g3, g4, g5, g6⟩
    ·rw [hk] at g1; cases g1
    ·rw [hk] at g1; cases g1
     obtain ⟨news, n1, n2, n3⟩ := build k base (len * esz) fun q hq => by
      obtain ⟨q1, q2, q3⟩ := parts q hq
      obtain ⟨u, hu, hr⟩ := g6 _ q1 _ q2
      rw [q3] at hu
      exact ⟨u, by rw [cell_of_vs g2]; exact hu, hr.oneCell⟩
     refine ⟨k, base, cap, hv, news, n1, n2, n3, fun i hi' j hj => ?_⟩
     obtain ⟨u, hu, hr⟩ := g6 i hi' j hj
     have hin : i * esz + j < news.length := by
      rw [n1]
      have : (i + 1) * esz ≤ len * esz := Nat.mul_le_mul_right _ (by omega)
      rw [Nat.add_mul, Nat.one_mul] at this; omega
     have hg := List.getElem?_eq_getElem hin
     have := n2 _ _ hg
     rw [cell_of_vs g2, hu] at this; cases this
     exact ⟨_, hg, hr⟩
   ·left; subst h0; exact ⟨⟨_, _, hv⟩, rfl⟩
 ·cases hs
theorem exec_append {x y : Operand} {t t' : TypeId} (hop : o.op = .call { callee := .builtin .append, args := #[x, y], argTypes := #[t, t'] }) {v : Value}
  (hr : (Builtin.append_ #[t, t'] o.type #[a.eval x, a.eval y]).run P w = .ok v w') : (execOp a.eval o).run P w = .ok (.value v) w' := by
 obtain ⟨consts, hex⟩ := exec_builtin (a := a) hop
 rw [hex]; simp [builtin, hr]
theorem HI.newNil (fr : Fr B ρ F w) (hi : HI B ρ F w h) {b : Nat} {nob : Ob} (hb : h b = none) (hr : RepO (updR ρ b .nil) F w (fun _ => False) b nob) : HI B (updR ρ b .nil) F w (upd h [(b, some nob)]) := by
 have hρ := hi.fresh b hb
 obtain ⟨ft, hi⟩ := hi
 have g : Gr ρ F w (updR ρ b .nil) F w := ⟨updR_mono hρ, fun _ h => h, fun _ _ => rfl⟩
 have hu : ∀ b', upd h [(b, some nob)] b' = if b = b' then some (some nob) else h b' := fun b' => upd_one _ _ _
 refine ⟨setF ft b fun _ => False, hi.step g fr (Nat.le_refl _) (fun b' => b' = b) (fun b' ob' e hh => ?_) (fun b' ob' e hh => ?_) (fun b' ob' k e hh hf => ?_) (fun b1 b2 o1 o2 k e1 e2 _ _ _ _ => e1.trans e2.symm) (fun k hk => .inl hk) fun b' hh => ?_⟩
 ·rw [hu, if_neg (Ne.symm e)] at hh
  exact ⟨hh, fun _ _ => rfl, fun k => by rw [setF_ne e]⟩
 ·subst e; rw [hu, if_pos rfl] at hh; cases hh; rw [setF_same]; exact hr
 ·subst e; rw [setF_same] at hf; exact hf.elim
 ·rw [hu] at hh
  split at hh
  ·cases hh
  ·rename_i e; rw [show updR ρ b .nil b' = ρ b' by simp [updR, Ne.symm e]]; exact hi.fresh b' hh
section
variable {e t ty : TypeId} {i : TypeInfo} {z : Value} {size bytes : Nat}
theorem run_append_room_at (ht : P.underlying t = some (.slice e)) (hi : P.info? e = some i)
  (g base n cap : Nat) (cur : List Value) (hg : w.heap[g]? = some (.cells cur.toArray e (0, 0)))
  (a : Addr) (m c : Nat) (news : List Value) (hl : news.length = m * i.size) (hnews : ∀ j u, news[j]? = some u → w.cell? (a.add j) = some u) (h1 : ∀ u ∈ news, u.oneCell' = true)
  (hroom : n + m ≤ cap) (hfit : base + n * i.size + news.length ≤ cur.length) :
  (Builtin.append_ #[t, t] ty #[.slice (some ⟨g, base, none⟩) n cap, .slice (some a) m c]).run P w =
   .ok (.slice (some ⟨g, base, none⟩) (n + m) cap) (w.setRow g (cur.take (base + n * i.size) ++ news ++ cur.drop (base + n * i.size + news.length)).toArray) := by
 have hf := run_firstCells_some (P := P) w i.size m a m c news hl hnews
 have hst := run_storeCells_at P g (base + n * i.size) e news 0 cur.toArray w hg (by simpa using hfit) h1
 simp only [Nat.add_zero] at hst
 simp [Builtin.append_, run_underlying ht, Go.sizeOf, typeInfo, hi, Builtin.lenOf, hroom, hf, add_none, hst]
theorem append_row (ht : P.underlying t = some (.slice e)) (hi : P.info? e = some i) (hz : i.zero = some z) (hs : i.size = size) (hby : i.bytes = bytes) (hzs : z.cells.size = size)
  {k base n cap : Nat} {vs : List Value} (hk : w.heap[k]? = some (.cells vs.toArray e (0, 0))) (hl : base + cap * size ≤ vs.length) (hn : n ≤ cap) (hcm : cap ≤ maxLen)
  {ks offs m caps : Nat} {news : List Value} (hnl : news.length = m * size) (hnews : ∀ j u, news[j]? = some u → w.cell? ⟨ks, offs + j, none⟩ = some u) (h1 : ∀ u ∈ news, u.oneCell' = true)
  (hmax : n + m ≤ 4611686018427387904) (hbytes : (n + m) * bytes ≤ 140737488355328) :
  ∃ k' base' cap' row W, (Builtin.append_ #[t, t] ty #[.slice (some ⟨k, base, none⟩) n cap, .slice (some ⟨ks, offs, none⟩) m caps]).run P w = .ok (.slice (some ⟨k', base', none⟩) (n + m) cap') W ∧
   ((k' = k ∧ base' = base ∧ cap' = cap ∧ Put w W k) ∨ (k' = w.heap.size ∧ Push w W (.cells (List.toArray row) e))) ∧ W.heap[k']? = some (.cells (List.toArray row) e (0, 0)) ∧ base' + cap' * size ≤ row.length ∧ n + m ≤ cap' ∧ cap' ≤ maxLen ∧
   (∀ q, q < n * size → row[base' + q]? = vs[base + q]?) ∧ (∀ q, q < m * size → row[base' + (n * size + q)]? = news[q]?) := by
 subst hs hby
 have hnews' : ∀ j u, news[j]? = some u → w.cell? ((⟨ks, offs, none⟩ : Addr).add j) = some u := fun j u hu => by rw [add_none]; exact hnews j u hu
 have hm63 : n + m ≤ maxLen := by unfold maxLen; omega
 by_cases hroom : n + m ≤ cap
 ·have hfit : base + n * i.size + news.length ≤ vs.length := by
   have : (n + m) * i.size ≤ cap * i.size := Nat.mul_le_mul_right _ hroom
   rw [Nat.add_mul] at this; omega
  have hrun := run_append_room_at (P := P) (w := w) (ty := ty) ht hi k base n cap vs hk ⟨ks, offs, none⟩ m caps news hnl hnews' h1 hroom hfit
  refine ⟨k, base, cap, vs.take (base + n * i.size) ++ news ++ vs.drop (base + n * i.size + news.length), _, hrun, .inl ⟨rfl, rfl, rfl, Put.setRow _ _ _⟩, ?_, ?_, hroom, hcm, fun q hq => ?_, fun q hq => ?_⟩
  ·exact setRow_heap w k _ _ e (0, 0) hk
  ·simp; omega
  ·rw [getElem?_splice _ _ _ hfit, if_pos (by omega)]
  ·rw [getElem?_splice _ _ _ hfit, if_neg (by omega), if_pos (by omega)]; congr 1; omega
 ·have hold : base + n * i.size ≤ vs.length := Nat.le_trans (Nat.add_le_add_left (Nat.mul_le_mul_right _ hn) _) hl
  have hol : ((vs.drop base).take (n * i.size)).length = n * i.size := by simp; omega
  have hrun := run_append_grow (P := P) w t ty e i z ht hi hz ⟨k, base, none⟩ n cap ((vs.drop base).take (n * i.size)) hol (fun j u hu => by
    rw [List.getElem?_take] at hu
    split at hu
    ·rw [List.getElem?_drop] at hu; rw [add_none, cell_of_vs hk]; exact hu
    ·cases hu) ⟨ks, offs, none⟩ m caps news hnl hnews' (by omega) (by unfold maxLen at hm63; omega) (growslice_fits (by omega) hbytes)
  have earr : (((vs.drop base).take (n * i.size) ++ news) ++ (Builtin.zeroCells z.cells (grownCap w (n + m) cap e - (n + m))).toList).toArray = ((vs.drop base).take (n * i.size)).toArray ++ news.toArray ++ Builtin.zeroCells z.cells (grownCap w (n + m) cap e - (n + m)) := Array.ext' (by simp)
  refine ⟨w.heap.size, 0, grownCap w (n + m) cap e, ((vs.drop base).take (n * i.size) ++ news) ++ (Builtin.zeroCells z.cells (grownCap w (n + m) cap e - (n + m))).toList, _, hrun, .inr ⟨rfl, ?_⟩, ?_, ?_, grownCap_ge w (n + m) cap e, grownCap_le_maxLen w (n + m) cap e hm63, fun q hq => ?_, fun q hq => ?_⟩
  ·rw [earr]; exact Push.drew_alloc w _
  ·rw [earr]; exact heap_alloc_new w.drew _
  ·have := grownCap_ge w (n + m) cap e
   rw [List.length_append, List.length_append, hol, hnl, Array.length_toList, size_zeroCells, hzs]
   rw [← Nat.add_mul, ← Nat.add_mul, Nat.zero_add]; exact Nat.mul_le_mul_right _ (by omega)
  ·rw [Nat.zero_add, List.getElem?_append_left (by rw [List.length_append]; omega), List.getElem?_append_left (by omega), List.getElem?_take, if_pos hq, List.getElem?_drop]
  ·rw [Nat.zero_add, List.getElem?_append_left (by rw [List.length_append]; omega), List.getElem?_append_right (by omega), hol]; congr 1; omega
theorem append_nil (ht : P.underlying t = some (.slice e)) (hi : P.info? e = some i) (hz : i.zero = some z) (hs : i.size = size) (hby : i.bytes = bytes) (hzs : z.cells.size = size)
  {ks offs m caps : Nat} {news : List Value} (hnl : news.length = m * size) (hnews : ∀ j u, news[j]? = some u → w.cell? ⟨ks, offs + j, none⟩ = some u)
  (hmax : m ≤ 4611686018427387904) (hbytes : m * bytes ≤ 140737488355328) (hm : 0 < m) :
  ∃ cap' row W, (Builtin.append_ #[t, t] ty #[.slice none 0 0, .slice (some ⟨ks, offs, none⟩) m caps]).run P w = .ok (.slice (some ⟨w.heap.size, 0, none⟩) m cap') W ∧
   Push w W (.cells (List.toArray row) e) ∧ W.heap[w.heap.size]? = some (.cells (List.toArray row) e (0, 0)) ∧ row.length = cap' * size ∧ m ≤ cap' ∧ cap' ≤ maxLen ∧ (∀ q, q < m * size → row[q]? = news[q]?) := by
 subst hs hby
 have hnews' : ∀ j u, news[j]? = some u → w.cell? ((⟨ks, offs, none⟩ : Addr).add j) = some u := fun j u hu => by rw [add_none]; exact hnews j u hu
 have hm63 : m ≤ maxLen := by unfold maxLen; omega
 have hrun := run_append_nil (P := P) w t ty e i z ht hi hz ⟨ks, offs, none⟩ m caps news hnl hnews' hm (by omega) (by omega)
 have earr : (news ++ (Builtin.zeroCells z.cells (grownCap w m 0 e - m)).toList).toArray = news.toArray ++ Builtin.zeroCells z.cells (grownCap w m 0 e - m) := Array.ext' (by simp)
 refine ⟨grownCap w m 0 e, news ++ (Builtin.zeroCells z.cells (grownCap w m 0 e - m)).toList, _, hrun, ?_, ?_, ?_, grownCap_ge w m 0 e, grownCap_le_maxLen w m 0 e hm63, fun q hq => ?_⟩
 ·rw [earr]; exact Push.drew_alloc w _
 ·rw [earr]; exact heap_alloc_new w.drew _
 ·have := grownCap_ge w m 0 e
  simp only [List.length_append, Array.length_toList, size_zeroCells, hzs, hnl]
  rw [← Nat.add_mul]; congr 1; omega
 ·rw [List.getElem?_append_left (by omega)]
theorem append_none {ad : Option Addr} {c : Nat} (ht : P.underlying t = some (.slice e)) (hi : P.info? e = some i) {v : Value} {n k base cap : Nat} (hv : (v = .slice none 0 0 ∧ n = 0) ∨ (v = .slice (some ⟨k, base, none⟩) n cap ∧ n ≤ cap)) :
  (Builtin.append_ #[t, t] ty #[v, .slice ad 0 c]).run P w = .ok v w := by
 rcases hv with ⟨rfl, rfl⟩ | ⟨rfl, hn⟩
 ·cases ad <;> simp [Builtin.append_, run_underlying ht, Go.sizeOf, typeInfo, hi, Builtin.lenOf, Builtin.firstCells, loadCells, loadCellsFrom]
 ·cases ad <;> simp [Builtin.append_, run_underlying ht, Go.sizeOf, typeInfo, hi, Builtin.lenOf, Builtin.firstCells, hn, storeCells, loadCells, loadCellsFrom]
theorem append_none' (ht : P.underlying t = some (.slice e)) (hi : P.info? e = some i) (a0 : Addr) (c : Nat) :
  (Builtin.append_ #[t, t] ty #[.slice none 0 0, .slice (some a0) 0 c]).run P w = .ok (.slice none 0 0) w := by
 simp [Builtin.append_, run_underlying ht, Go.sizeOf, typeInfo, hi, Builtin.lenOf, Builtin.firstCells, loadCells, loadCellsFrom]
end
end
end Sg
