import Derived.Test.YtpndenfhglaikaaSoundM
set_option linter.all false
namespace Sg
open Go
section
variable {P : Program} {B : Base} {ρ ρ' : Nat → Option Pl} {F F' : Nat → Prop} {w w' : World} {h : Hp} {o : Oper} {a : Act} {T : List (Nat × TI)}
theorem RepTs.length : ∀ {xs : List TV} {vs : List Value}, RepTs ρ F w xs vs → vs.length = xs.length
  | [], [], _ => rfl
  | _ :: _, _ :: _, ⟨_, t⟩ => by simp [RepTs.length t]
  | [], _ :: _, h => h.elim
  | _ :: _, [], h => h.elim
theorem RepTs.append : ∀ {xs ys : List TV} {vs us : List Value}, RepTs ρ F w xs vs → RepTs ρ F w ys us → RepTs ρ F w (xs ++ ys) (vs ++ us)
  | [], _, [], _, _, h' => h'
  | _ :: _, _, _ :: _, _, ⟨h, t⟩, h' => ⟨h, RepTs.append t h'⟩
  | [], _, _ :: _, _, h, _ => h.elim
  | _ :: _, _, [], _, h, _ => h.elim
theorem repC_ts : ∀ {cs : List CV} {vs : List Value}, RepL ρ F w cs vs → RepTs ρ F w (cs.map fun c => .v (.one c)) vs
  | [], [], _ => trivial
  | _ :: _, _ :: _, ⟨h, t⟩ => ⟨h, repC_ts t⟩
  | [], _ :: _, h => h
  | _ :: _, [], h => h
theorem args_one {α β : Type} {args : Array α} {f : α → β} {v : β} (h : (args.toList.map f) = [v]) : ∃ x, args = #[x] ∧ f x = v := by
  match args with
  | ⟨[x]⟩ => simp at h; exact ⟨x, rfl, h⟩
  | ⟨[]⟩ => simp at h
  | ⟨_ :: _ :: _⟩ => simp at h
theorem args_two {α β : Type} {args : Array α} {f : α → β} {v u : β} (h : (args.toList.map f) = [v, u]) : ∃ x y, args = #[x, y] ∧ f x = v ∧ f y = u := by
  match args with
  | ⟨[x, y]⟩ => simp at h; exact ⟨x, y, rfl, h⟩
  | ⟨[]⟩ => simp at h
  | ⟨[_]⟩ => simp at h
  | ⟨_ :: _ :: _ :: _⟩ => simp at h
theorem arr_one {α : Type} {ts : Array α} {t : α} (h : ts.toList = [t]) : ts = #[t] := by cases ts; simp at h; simp [h]
theorem arr_two {α : Type} {ts : Array α} {t u : α} (h : ts.toList = [t, u]) : ts = #[t, u] := by cases ts; simp at h; simp [h]
theorem boolOk_spec (hT : TOk P T) {t : TypeId} {x : DV} (hb : boolOk T t x = true) : ∀ b, x = .bool b → P.underlying t = some .bool := by
  intro b e
  subst e
  simp only [boolOk] at hb
  split at hb
  · rename_i ti hti
    split at hb
    · rename_i hd; have := (hT.get hti).1; rw [hd] at this; exact this
    · cases hb
  · cases hb
theorem capF_rep : ∀ {ds : List DV} {vs : List Value}, RepL ρ F w (ds.map .d) vs → vs.length = ds.length ∧ ∀ j u, vs[j]? = some u → RepD F w (capF ds j) u := by
  intro ds vs hr
  have hl := hr.length
  simp at hl
  refine ⟨hl, fun j u hj => ?_⟩
  have hlt : j < ds.length := by
    rw [← hl]
    rcases Nat.lt_or_ge j vs.length with h | h
    · exact h
    · rw [List.getElem?_eq_none h] at hj; cases hj
  have hg : (ds.map CV.d)[j]? = some (.d (capF ds j)) := by
    rw [List.getElem?_map, capF, List.getD_eq_getElem?_getD, List.getElem?_eq_getElem hlt]; rfl
  obtain ⟨u', hu, hr'⟩ := hr.get hg
  rw [hj] at hu; cases hu; exact hr'
theorem svArgs_cells : ∀ {xs : List TV} {l : List SV} {vs : List Value}, svArgs xs = some l → (l.all isOne) = true → RepTs ρ F w xs vs → RepL ρ F w (l.flatMap cellsOf) vs
  | [], l, vs, hs, _, hx => by simp [svArgs] at hs; subst hs; match vs, hx with | [], _ => trivial
  | .v s :: xs, l, vs, hs, ha, hx => by
    simp only [svArgs] at hs
    split at hs
    · rename_i l' hl
      cases hs
      simp only [List.all_cons, Bool.and_eq_true] at ha
      match vs, hx with
      | v :: vs, ⟨h1, h2⟩ =>
        cases s with
        | agg _ => simp [isOne] at ha
        | one c => exact ⟨h1, svArgs_cells hl ha.2 h2⟩
    · cases hs
  | .tup _ :: _, _, _, hs, _, _ => by simp [svArgs] at hs
theorem takeV_length (c : Nat → CV) : ∀ i n, (takeV c i n).length = n
  | _, 0 => rfl
  | i, n + 1 => by simp [takeV, takeV_length c (i + 1) n]
theorem takeV_get (c : Nat → CV) : ∀ i n j x, (takeV c i n)[j]? = some x → j < n ∧ x = c (i + j)
  | _, 0, j, x, h => by simp [takeV] at h
  | i, n + 1, j, x, h => by
    cases j with
    | zero => simp [takeV] at h; exact ⟨by omega, h.symm⟩
    | succ j =>
      simp [takeV] at h
      obtain ⟨h1, h2⟩ := takeV_get c (i + 1) n j x h
      exact ⟨by omega, by rw [h2]; congr 1; omega⟩
theorem eff_sound (hT : TOk P T) {fresh : Nat} {an : Ann} {xs : List TV} {obs : List (Option (Option Ob))} {E : Eff} (he : eff (FnC P) T fresh an o.op xs obs = some E) (hc : All E.conds)
    (hobs : obs = (foot an fresh o.op xs).map h) (fr : Fr B ρ F w) (hi : HI B ρ F w h) (hx : RepTs ρ F w xs (o.op.operands.toList.map a.eval)) : Good P B ρ F w h o a E.tv E.hd := by
  unfold eff at he
  split at he
  · -- move
    rename_i x hop
    rw [hop] at hx
    split at he
    · cases he
      obtain ⟨v, hv, hr⟩ := hx.one
      simp [Op.operands] at hv
      exact good_same fr hi (by simp [execOp, hop, hv]) hr
    · cases he
  · rename_i x hop
    rw [hop] at hx
    split at he
    · cases he
      obtain ⟨v, hv, hr⟩ := hx.one
      simp [Op.operands] at hv
      exact good_same fr hi (by simp [execOp, hop, hv]) hr
    · cases he
  · -- alloc
    rename_i t hop
    split at he
    · rename_i ti hti
      split at he
      · rename_i z hz
        cases he
        simp [hop, foot] at hobs
        exact alloc_sound (hT.get hti) hz hop hobs.symm fr hi
      · cases he
    · cases he
  · -- box
    rename_i t x hop
    rw [hop] at hx
    split at he
    · rename_i s
      cases he
      obtain ⟨v, hv, hr⟩ := hx.one
      simp [Op.operands] at hv
      subst hv
      simp [hop, foot] at hobs
      exact box_sound hop hobs.symm fr hi hr
    · cases he
  · -- build
    rename_i t parts hop
    rw [hop] at hx
    split at he
    · rename_i ti hti
      refine build_sound hT (hT.get hti) hop he fr hi ?_
      simpa [Op.operands, Function.comp_def] using hx
    · cases he
  · rename_i t len parts hop
    rw [hop] at hx
    split at he
    · rename_i ti hti
      refine buildSlice_sound hT (hT.get hti) hop he hc ?_ fr hi ?_
      · rw [hobs, hop]; rfl
      · simpa [Op.operands, Function.comp_def] using hx
    · cases he
  · -- load
    rename_i t x hop
    rw [hop] at hx
    split at he
    · rename_i ti xa hti
      obtain ⟨v, hv, hr⟩ := hx.one
      simp [Op.operands] at hv
      subst hv
      have ho : (∀ c, an ≠ .take c) → obs = (foot .none 0 (.load t x) [xa]).map h := by
        intro hnt
        rw [hobs, hop]
        cases xa with
        | tup l => rfl
        | v s => cases s with
          | agg _ => rfl
          | one c => cases c <;> try rfl
                     cases an <;> first | rfl | exact absurd rfl (hnt _)
      split at he
      · exact loadV_sound (hT.get hti) hop he hc (ho (fun _ e => by cases e)) fr hi hr
      · refine take_sound (hT.get hti) hop he hc ?_ fr hi hr
        rw [hobs, hop]
        cases xa with
        | tup l => rfl
        | v s => cases s with
          | agg _ => rfl
          | one c => cases c <;> rfl
      · rename_i hnt
        exact load_sound (hT.get hti) hop he hc (ho (fun c e => hnt c e)) fr hi hr
    · cases he
  · -- store
    rename_i t x y hop
    rw [hop] at hx
    split at he
    · rename_i ti xa xv hti
      obtain ⟨v, u, hv, hr1, hr2⟩ := hx.two
      simp [Op.operands] at hv
      obtain ⟨rfl, rfl⟩ := hv
      have ho : (∀ n e, an ≠ .rows n e) → obs = (foot .none 0 (.store t x y) [xa, xv]).map h := by
        intro hnt
        rw [hobs, hop]
        cases xa with
        | tup l => rfl
        | v s => cases s with
          | agg _ => rfl
          | one c => cases c <;> try rfl
                     cases an <;> first | rfl | exact absurd rfl (hnt _ _)
      split at he
      · exact storeV_sound (an := .none) (hT.get hti) hop he hc (ho (fun _ _ e => by cases e)) fr hi hr1 hr2
      · rename_i n el
        refine put_sound (len' := n) (hT.get hti) hop he hc ?_ fr hi hr1 hr2
        rw [hobs, hop]
        cases xa with
        | tup l => rfl
        | v s => cases s with
          | agg _ => rfl
          | one c => cases c <;> rfl
      · rename_i hnt
        exact store_sound (hT.get hti) hop he hc (ho (fun n e h => hnt n e h)) fr hi hr1 hr2
    · cases he
  · -- makeMap
    rename_i t hop
    split at he
    · rename_i ti hti
      refine makeMap_sound hT hop he ?_ fr hi
      rw [hobs, hop]; rfl
    · cases he
  · -- lookup
    rename_i t x y ok hop
    rw [hop] at hx
    split at he
    · rename_i ti xa ya hti
      obtain ⟨v, u, hv, hr1, hr2⟩ := hx.two
      simp [Op.operands] at hv
      obtain ⟨rfl, rfl⟩ := hv
      refine lookup_sound hT (hT.get hti) hop he hc ?_ fr hi hr1 hr2
      rw [hobs, hop]
      cases xa with
      | tup l => rfl
      | v s => cases s with
        | agg _ => rfl
        | one c => cases c <;> rfl
    · cases he
  · -- mapUpdate
    rename_i t x y z hop
    rw [hop] at hx
    split at he
    · rename_i ti xa ya za hti
      have hx3 : RepTs ρ F w [xa, ya, za] [a.eval x, a.eval y, a.eval z] := by simpa [Op.operands] using hx
      obtain ⟨hr1, hr2, hr3, _⟩ := hx3
      refine mapUpdate_sound hT (hT.get hti) (by simp [execOp, hop]) he hc ?_ fr hi hr1 hr2 hr3
      rw [hobs, hop]
      cases xa with
      | tup l => rfl
      | v s => cases s with
        | agg _ => rfl
        | one c => cases c <;> rfl
    · cases he
  · -- insert
    rename_i t x y z hop
    rw [hop] at hx
    split at he
    · rename_i ti xa ya za hti
      have hx3 : RepTs ρ F w [xa, ya, za] [a.eval x, a.eval y, a.eval z] := by simpa [Op.operands] using hx
      obtain ⟨hr1, hr2, hr3, _⟩ := hx3
      refine mapUpdate_sound hT (hT.get hti) (by simp [execOp, hop]) he hc ?_ fr hi hr1 hr2 hr3
      rw [hobs, hop]
      cases xa with
      | tup l => rfl
      | v s => cases s with
        | agg _ => rfl
        | one c => cases c <;> rfl
    · cases he
  · -- slice
    rename_i t x lo hi' hop
    rw [hop] at hx
    split at he
    · rename_i ti xa rr hti
      have hx3 : RepTs ρ F w (xa :: rr) (a.eval x :: (lo.toArray.toList.map a.eval ++ (hi'.toArray.toList.map a.eval ++ []))) := by simpa [Op.operands] using hx
      obtain ⟨hr1, hr2⟩ := hx3
      split at he
      · rename_i l r1 hl
        obtain ⟨g1, g2⟩ := optTV_rep hl hr2
        split at he
        · rename_i hh hhi
          obtain ⟨_, g4⟩ := optTV_rep hhi g1
          refine slice_sound hT (hT.get hti) hop he hc ⟨rr, ?_⟩ fr hi hr1 g2 g4
          rw [hobs, hop]
        · cases he
      · cases he
    · cases he
  · -- index
    rename_i t x y hop
    rw [hop] at hx
    split at he
    · rename_i ti xa xv hti
      obtain ⟨v, u, hv, hr1, hr2⟩ := hx.two
      simp [Op.operands] at hv
      obtain ⟨rfl, rfl⟩ := hv
      split at he
      · exact indexV_sound hT (hT.get hti) hop he hc fr hi hr1 hr2
      · cases he
    · cases he
  · -- nilCheck
    rename_i x hop
    rw [hop] at hx
    split at he
    · cases pureE_inv he
      obtain ⟨v, hv, hr⟩ := hx.one
      simp [Op.operands] at hv; subst hv
      obtain ⟨ad, hv, _⟩ := id hr
      exact nilCheck_sound hop (.inl ⟨ad, hv⟩) fr hi hr
    · cases he
      obtain ⟨v, hv, hr⟩ := hx.one
      simp [Op.operands] at hv; subst hv
      obtain ⟨k, base, cap, _, hv⟩ := id hr
      exact nilCheck_sound hop (.inl ⟨_, hv⟩) fr hi hr
    · cases he
      obtain ⟨v, hv, hr⟩ := hx.one
      simp [Op.operands] at hv; subst hv
      obtain ⟨k, base, cap, _, hv⟩ := id hr
      exact nilCheck_sound hop (.inl ⟨_, hv⟩) fr hi hr
    · cases pureE_inv he
      obtain ⟨v, hv, hr⟩ := hx.one
      simp [Op.operands] at hv; subst hv
      obtain ⟨vs, hv, _⟩ := id hr
      exact nilCheck_sound hop (.inr ⟨.func _, _, _, hv, fun _ e => by cases e⟩) fr hi hr
    · cases he
      obtain ⟨v, hv, hr⟩ := hx.one
      simp [Op.operands] at hv; subst hv
      obtain ⟨vs, hv, _⟩ := id hr
      exact nilCheck_sound hop (.inr ⟨.func _, _, _, hv, fun _ e => by cases e⟩) fr hi hr
    · cases he
      obtain ⟨v, hv, hr⟩ := hx.one
      simp [Op.operands] at hv; subst hv
      obtain ⟨k, base, cap, _, hv⟩ := id hr
      exact nilCheck_sound hop (.inr ⟨.yield _, _, _, hv, fun _ e => by cases e⟩) fr hi hr
    · cases he
  · -- binOp
    rename_i op t x y t' hop
    rw [hop] at hx
    split at he
    · rename_i dx dy
      obtain ⟨v, u, hv, hr1, hr2⟩ := hx.two
      simp [Op.operands] at hv
      obtain ⟨rfl, rfl⟩ := hv
      split at he
      · split at he
        · rename_i ti hti
          exact nil_sound (hT.get hti) hop he fr hi hr1 hr2
        · cases he
      · cases hb : boolOk T t dx with
        | false => simp [hb] at he
        | true =>
          simp only [hb, cond_true] at he
          exact bin_sound (fun b1 b2 e1 _ => boolOk_spec hT hb b1 e1) hop he hc fr hi hr1 hr2
    · rename_i xs ys
      obtain ⟨v, u, hv, hr1, hr2⟩ := hx.two
      simp [Op.operands] at hv
      obtain ⟨rfl, rfl⟩ := hv
      split at he
      · rename_i ti hti
        cases hb : (ti.agg && ti.eq) with
        | false => simp [hb] at he
        | true =>
          simp only [hb, cond_true] at he
          simp only [Bool.and_eq_true] at hb
          exact eqAgg_sound hT hti hop he fr hi hr1 hr2 hb.1 (hT.getE hti hb.2).2
      · cases he
    · cases he
  · rename_i op t x hop
    rw [hop] at hx
    split at he
    · rename_i dx
      obtain ⟨v, hv, hr⟩ := hx.one
      simp [Op.operands] at hv; subst hv
      exact un_sound hop he fr hi hr
    · cases he
  · -- makeFunc
    rename_i f first captured hop
    rw [hop] at hx
    split at he
    · rename_i l hl
      cases hall : (l.all isOne) with
      | false => rw [hall] at he; simp at he
      | true =>
        rw [hall] at he
        simp only [cond_true] at he
        have hcap : (Op.makeFunc (.func f) first captured).operands.toList.map a.eval = first.toList.map a.eval ++ captured.toList.map a.eval := by simp [Op.operands]
        rw [hcap] at hx
        have hcells := svArgs_cells hl hall hx
        have hrun : (execOp a.eval o).run P w = .ok (.value (.func (.func f) (first.map a.eval) (captured.map a.eval))) w := by simp [execOp, hop, Instr.makeFunc]
        split at he
        · rename_i ds hfs hds
          cases pureE_inv he
          have hf0 : first = #[] := by simpa using hfs
          subst hf0
          rw [allD_get hds] at hcells
          obtain ⟨c1, c2⟩ := capF_rep hcells
          refine good_same fr hi hrun ⟨captured.toList.map a.eval, ?_, by simpa using c1, by simpa using c2⟩
          rw [show captured.map a.eval = (captured.toList.map a.eval).toArray from Array.ext' (by simp)]; simp
        · cases he
          have hlen := hcells.length
          refine good_same fr hi hrun ⟨first.toList.map a.eval ++ captured.toList.map a.eval, ?_, hlen, fun j u hj => ?_⟩
          · have e1 : (first.toList.map a.eval ++ captured.toList.map a.eval).take first.size = first.toList.map a.eval := by
              rw [List.take_append_of_le_length (by simp)]; exact List.take_of_length_le (by simp)
            have e2 : (first.toList.map a.eval ++ captured.toList.map a.eval).drop first.size = captured.toList.map a.eval := by
              rw [List.drop_append_of_le_length (by simp)]; simp
            rw [e1, e2]
            congr 1
            · exact Array.ext' (by simp)
            · exact Array.ext' (by simp)
          · have hlt : j < (l.flatMap cellsOf).length := by rw [← hlen]; exact (List.getElem?_eq_some_iff.1 hj).1
            have hg : (l.flatMap cellsOf)[j]? = some ((l.flatMap cellsOf).getD j (.d .nilp)) := by rw [List.getD_eq_getElem?_getD, List.getElem?_eq_getElem hlt]; rfl
            obtain ⟨u', hu, hr⟩ := hcells.get hg
            rw [hj] at hu; cases hu; exact hr
    · cases he
  · rename_i t x y hop
    rw [hop] at hx
    split at he
    · rename_i ti xl xc hti
      obtain ⟨v, u, hv, hr1, hr2⟩ := hx.two
      simp [Op.operands] at hv
      obtain ⟨rfl, rfl⟩ := hv
      refine make_sound hT (hT.get hti) hop he hc ?_ fr hi hr1 hr2
      rw [hobs, hop]; rfl
    · cases he
  · rename_i t x f hop
    rw [hop] at hx
    split at he
    · rename_i ti xa hti
      obtain ⟨v, hv, hr⟩ := hx.one
      simp [Op.operands] at hv; subst hv
      exact field_sound hT (hT.get hti) hop he fr hi hr
    · cases he
  · rename_i t x f hop
    rw [hop] at hx
    split at he
    · rename_i ti xa hti
      obtain ⟨v, hv, hr⟩ := hx.one
      simp [Op.operands] at hv; subst hv
      exact part_sound hT (hT.get hti) hop he fr hi hr
    · cases he
  · rename_i t x y hop
    rw [hop] at hx
    split at he
    · rename_i ti xa xi hti
      obtain ⟨v, u, hv, hr1, hr2⟩ := hx.two
      simp [Op.operands] at hv
      obtain ⟨rfl, rfl⟩ := hv
      exact index_sound hT (hT.get hti) hop he hc fr hi hr1 hr2
    · cases he
  · rename_i x ix hop
    rw [hop] at hx
    split at he
    · rename_i l
      split at he
      · rename_i s hs
        cases he
        obtain ⟨v, hv, hr⟩ := hx.one
        simp [Op.operands] at hv; subst hv
        exact extract_sound hop hs fr hi hr
      · cases he
    · cases he
  · -- call
    rename_i c hop
    rw [hop] at hx
    obtain ⟨callee, args, ats⟩ := c
    split at he
    · rename_i b hcal
      cases hcal
      have hops : (Op.call { callee := Callee.builtin b, args := args, argTypes := ats }).operands.toList.map a.eval = args.toList.map a.eval := by simp [Op.operands, Call.operands]
      rw [hops] at hx
      unfold effBuiltin at he
      split at he
      · rename_i t x hts
        split at he
        · rename_i ti hti
          obtain ⟨v, hv, hr⟩ := hx.one
          obtain ⟨x', rfl, rfl⟩ := args_one hv
          have := arr_one hts; subst this
          exact len_sound (hT.get hti) hop he fr hi hr
        · cases he
      · rename_i t t' s x hts
        split at he
        · rename_i ti ti' hti hti'
          split at he
          · rename_i e e' hd hd'
            split at he
            · rename_i te hte
              cases hb : Nat.beq t t' with
              | false => simp [hb] at he
              | true =>
                simp only [hb, cond_true] at he
                have := Nat.eq_of_beq_eq_true hb; subst this
                obtain ⟨v, u, hv, hr1, hr2⟩ := hx.two
                obtain ⟨x', y', rfl, rfl, rfl⟩ := args_two hv
                have := arr_two hts; subst this
                have hu := (hT.get hti).1
                rw [hd] at hu
                refine append_sound hu (hT.get hte) hop he hc ?_ fr hi hr1 hr2
                rw [hobs, hop]
                cases s with
                | tup l => rfl
                | v s => cases s with
                  | agg _ => rfl
                  | one c => cases x with
                    | tup l => cases c <;> rfl
                    | v s2 => cases s2 with
                      | agg _ => cases c <;> rfl
                      | one c2 => cases c <;> cases c2 <;> rfl
            · cases he
          · cases he
        · cases he
      · rename_i k p k' q _
        split at he
        · cases pureE_inv he
          obtain ⟨v, u, hv, hr1, hr2⟩ := hx.two
          obtain ⟨x', y', rfl, rfl, rfl⟩ := args_two hv
          exact max_sound hop fr hi hr1 hr2
        · cases he
      · cases he
    · rename_i f hcal
      cases hcal
      have hops : (Op.call { callee := Callee.value f, args := args, argTypes := ats }).operands.toList.map a.eval = a.eval f :: args.toList.map a.eval := by simp [Op.operands, Call.operands]
      rw [hops] at hx
      split at he
      · rename_i fid n cap as
        obtain ⟨⟨vs, hv, hn, hcap⟩, hx2⟩ := hx
        have hl : RepL ρ F w (takeC cap 0 n) vs := by
          refine RepL.of_get (by rw [takeC_length, hn]) fun j c hj => ?_
          obtain ⟨hlt, rfl⟩ := takeC_get cap 0 n j c hj
          have hg := List.getElem?_eq_getElem (l := vs) (i := j) (by omega)
          exact ⟨_, hg, by rw [Nat.zero_add]; exact hcap j _ hg⟩
        refine call_good rfl he hc (vs := args.toList.map a.eval ++ vs) (fun ids res hout e => ?_) (fun ids res e => ?_) ?_ fr hi (hx2.append (repC_ts hl))
        · rw [hobs, hop, e]; rfl
        · rw [hobs, hop, e]; rfl
        · rw [show (args.toList.map a.eval ++ vs).toArray = args.map a.eval ++ vs.toArray from Array.ext' (by simp)]
          simp [execOp, hop, resolve, hv, Deferred.ofValue, invoke]
      · rename_i fid nf n cap as
        cases hnf : Nat.ble nf n with
        | false => simp [hnf] at he
        | true =>
          simp only [hnf, cond_true] at he
          have hle := Nat.le_of_ble_eq_true hnf
          obtain ⟨⟨vs, hv, hn, hcap⟩, hx2⟩ := hx
          have hl1 : RepL ρ F w (takeV cap 0 nf) (vs.take nf) := by
            refine RepL.of_get (by rw [takeV_length]; simp; omega) fun j c hj => ?_
            obtain ⟨hlt, rfl⟩ := takeV_get cap 0 nf j c hj
            have hg := List.getElem?_eq_getElem (l := vs) (i := j) (by omega)
            exact ⟨_, by rw [List.getElem?_take, if_pos hlt]; exact hg, by rw [Nat.zero_add]; exact hcap j _ hg⟩
          have hl2 : RepL ρ F w (takeV cap nf (n - nf)) (vs.drop nf) := by
            refine RepL.of_get (by rw [takeV_length]; simp; omega) fun j c hj => ?_
            obtain ⟨hlt, rfl⟩ := takeV_get cap nf (n - nf) j c hj
            have hg := List.getElem?_eq_getElem (l := vs) (i := nf + j) (by omega)
            exact ⟨_, by rw [List.getElem?_drop]; exact hg, hcap (nf + j) _ hg⟩
          refine call_good rfl he hc (vs := vs.take nf ++ args.toList.map a.eval ++ vs.drop nf) (fun ids res hout e => ?_) (fun ids res e => ?_) ?_ fr hi (((repC_ts hl1).append hx2).append (repC_ts hl2))
          · rw [hobs, hop, e]; rfl
          · rw [hobs, hop, e]; rfl
          · rw [show (vs.take nf ++ args.toList.map a.eval ++ vs.drop nf).toArray = (vs.take nf).toArray ++ args.map a.eval ++ (vs.drop nf).toArray from Array.ext' (by simp)]
            simp [execOp, hop, resolve, hv, Deferred.ofValue, invoke]
      · rename_i b as
        obtain ⟨⟨k, base, cap, hk, hv⟩, hx2⟩ := hx
        refine yield_good he hc (by rw [hop]; rfl) (vs := args.toList.map a.eval) (fun ids res hout e => ?_) (fun l base' cap' hl => ?_) fr hi hx2 ⟨k, base, cap, hk⟩
        · rw [hobs, hop, e]; rfl
        · rw [hk] at hl; cases hl
          rw [show (args.toList.map a.eval).toArray = args.map a.eval from Array.ext' (by simp)]
          simp [execOp, hop, resolve, hv, Deferred.ofValue, invoke]
      · cases he
    · cases he
  · cases he
end
end Sg
