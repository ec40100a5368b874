import Derived.Test.YtpndenfhglaikaaDraw
import Derived.Sort.LoopGhostIn
set_option linter.all false
namespace Sg
open Go
structure St where
 slots : List (Nat × TV)
 heap : List (Nat × Option Ob)
structure Conc (B : Base) (N : Nat) (L : List Nat) (st : St) (a : Act) (w : World) : Prop where
 ex : ∃ ρ F, Fr B ρ F w ∧ HI B ρ F w (hpOf st.heap) ∧ (∀ t tv, get st.slots t = some tv → ∃ v, a.tmps[t]? = some v ∧ RepT ρ F w tv v) ∧ Marks B F w a.defers
 ids : ∀ b p, B.ρ b = some p → b ∈ L
 sz : a.tmps.size = N
def AWp (rd : Option Nat) (P : Program) (B : Base) (N : Nat) (L : List Nat) (c : Code) (Q : Exit → St → Prop) (st : St) : Prop :=
 ∀ a w, Conc B N L st a w → c.wpIn (FW rd) 0 P (fun e a' w' => ∃ st', Q e st' ∧ Conc B N L st' a' w') a w
def rsOf (st : St) : RS := ⟨fun t => match get st.slots t with | some tv => some ⟨[], tv, none⟩ | none => none, hpOf st.heap⟩
structure Fin where
 frz : List Nat
 ren : List (Nat × Nat)
def nnOf (b : Bool) : Option Bool := bif b then some true else none
def evD : EV → DV
 | .d x => x
 | .row _ esz len el => .sl none esz len el
def seqO : List (Option (List Prop × CV)) → Option (List Prop × List CV)
 | [] => some ([], [])
 | some (p, c) :: l => match seqO l with | some (q, cs) => some (p ++ q, c :: cs) | none => none
 | none :: _ => none
def fnC (f : FuncId) (nf n : Nat) (cs : List CV) : CV :=
 match nf, allD cs with
 | 0, some ds => .d (.fn f n (capF ds))
 | _, _ => .fn f nf n fun j => cs.getD j (.d .nilp)
def finC (f : Fin) (h : Hp) : CV → Option (List Prop × CV)
 | .d x => some ([], .d x)
 | .ptr b off =>
  bif memL b f.frz then
   match h b with
   | some (some (.cells _ cs)) => match allD cs with | some ds => some ([], .d (.ip (ds.length - off) fun j => ds.getD (off + j) .nilp)) | none => none
   | some (some (.fcells _ ds)) => some ([], .d (.ip (ds.length - off) fun j => ds.getD (off + j) .nilp))
   | _ => none
  else match get f.ren b with | some b' => some ([], .ptr b' off) | none => none
 | .opt b e i off => bif memL b f.frz then none else match get f.ren b with | some b' => some ([], .opt b' e i off) | none => none
 | .own b nn len =>
  bif memL b f.frz then
   match h b with
   | some (some (.arr _ esz len' el)) => some ([len = len'], .d (.sl (nnOf nn) esz len el))
   | some (some (.rows _ esz len' el none)) => some ([len = len'], .d (.sl (nnOf nn) esz len fun i j => evD (el i j)))
   | _ => none
  else match get f.ren b with | some b' => some ([], .own b' nn len) | none => none
 | .mp b => bif memL b f.frz then none else match get f.ren b with | some b' => some ([], .mp b') | none => none
 | .yl b => bif memL b f.frz then none else match get f.ren b with | some b' => some ([], .yl b') | none => none
 | .fn g nf n cap => match seqO ((List.range n).map fun j => finC f h (cap j)) with
  | some (p, cs) => some (p, fnC g nf n cs)
  | none => none
def finL (f : Fin) (h : Hp) : List CV → Option (List Prop × List CV)
 | [] => some ([], [])
 | c :: cs => match finC f h c, finL f h cs with
  | some (p, c'), some (q, cs') => some (p ++ q, c' :: cs')
  | _, _ => none
def finS (f : Fin) (h : Hp) : SV → Option (List Prop × SV)
 | .one c => match finC f h c with | some (p, c') => some (p, .one c') | none => none
 | .agg cs => match finL f h cs with | some (p, cs') => some (p, .agg cs') | none => none
def finSs (f : Fin) (h : Hp) : List SV → Option (List Prop × List SV)
 | [] => some ([], [])
 | c :: cs => match finS f h c, finSs f h cs with
  | some (p, c'), some (q, cs') => some (p ++ q, c' :: cs')
  | _, _ => none
def finT (f : Fin) (h : Hp) : TV → Option (List Prop × TV)
 | .v s => match finS f h s with | some (p, s') => some (p, .v s') | none => none
 | .tup l => match finSs f h l with | some (p, l') => some (p, .tup l') | none => none
def finSl (f : Fin) (h : Hp) : List (Nat × TV) → Option (List Prop × List (Nat × TV))
 | [] => some ([], [])
 | (t, tv) :: l => match finT f h tv, finSl f h l with
  | some (p, tv'), some (q, l') => some (p ++ q, (t, tv') :: l')
  | _, _ => none
def selS (f : Fin) (h : Hp) (s : Slots) : List Nat → Option (List Prop × List (Nat × TV))
 | [] => some ([], [])
 | t :: ts => match s t, selS f h s ts with
  | some ⟨[], tv, _⟩, some (q, l) => match finT f h tv with
   | some (p, tv') => some (p ++ q, (t, tv') :: l)
   | none => none
  | _, _ => none
def finO (f : Fin) (h : Hp) : Ob → Option (List Prop × Ob)
 | .cells E cs => match finL f h cs with | some (p, cs') => some (p, .cells E cs') | none => none
 | .fcells E ds => some ([], .fcells E ds)
 | .arr E esz len el => some ([], .arr E esz len el)
 | .rows E esz len el none => some ([], .rows E esz len el none)
 | .rows E esz len el (some (i, j, c)) => match finC f h c with | some (p, c') => some (p, .rows E esz len el (some (i, j, c'))) | none => none
 | .map m => bif m.ms.all (fun b => !memL b f.frz && (match get f.ren b with | some b' => Nat.beq b b' | none => false)) then some ([], .map m) else none
 | .loop r st sl => match finSl f h sl with | some (p, sl') => some (p, .loop r st sl') | none => none
 | .coll => some ([], .coll)
def selH (f : Fin) (h : Hp) : List (Nat × Nat) → Option (List Prop × List (Nat × Option Ob))
 | [] => some ([], [])
 | (b, b') :: l => match h b, selH f h l with
  | some none, some (q, m) => some (q, (b', none) :: m)
  | some (some ob), some (q, m) => bif memL b f.frz then some (q, (b', none) :: m) else match finO f h ob with
   | some (p, ob') => some (p ++ q, (b', some ob') :: m)
   | none => none
  | _, _ => none
def nodupL : List Nat → Bool
 | [] => true
 | x :: l => !(memL x l) && nodupL l
def finOk (L : List Nat) (f : Fin) : Bool :=
 nodupL (f.ren.map (·.1)) && nodupL (f.ren.map (·.2)) && L.all fun b => match get f.ren b with | some b' => Nat.beq b b' | none => false
theorem nodupL_spec : ∀ {l : List Nat}, nodupL l = true → l.Nodup
 | [], _ => List.nodup_nil
 | x :: l, h => by
  simp only [nodupL, Bool.and_eq_true, Bool.not_eq_true'] at h
  exact List.nodup_cons.2 ⟨memL_false h.1, nodupL_spec h.2⟩
section
variable {B : Base} {ρ : Nat → Option Pl} {F : Nat → Prop} {w : World} {h : Hp} {f : Fin} {ft : Nat → Nat → Prop}
def renR (ρ : Nat → Option Pl) (ren : List (Nat × Nat)) : Nat → Option Pl := fun b' => match ren.find? (fun p => Nat.beq p.2 b') with | some p => ρ p.1 | none => none
def frzF (ft : Nat → Nat → Prop) (F : Nat → Prop) (h : Hp) (frz : List Nat) : Nat → Prop := fun k => F k ∨ ∃ b ob, b ∈ frz ∧ h b = some (some ob) ∧ ft b k
theorem renR_of {ren : List (Nat × Nat)} (hn : (ren.map (·.2)).Nodup) {b b' : Nat} (hg : (b, b') ∈ ren) : renR ρ ren b' = ρ b := by
 unfold renR
 induction ren with
 | nil => simp at hg
 | cons p ren ih =>
  rw [List.map_cons, List.nodup_cons] at hn
  rw [List.find?_cons]
  rcases List.mem_cons.1 hg with rfl | hg
  ·simp
  ·cases hb : Nat.beq p.2 b' with
   | true =>
    exfalso
    have := Nat.eq_of_beq_eq_true hb
    exact hn.1 (this ▸ List.mem_map_of_mem (f := (·.2)) hg)
   | false => simpa using ih hn.2 hg
theorem get_mem {α : Type} : ∀ {l : List (Nat × α)} {b : Nat} {x : α}, get l b = some x → (b, x) ∈ l
 | [], _, _, h => by simp [get] at h
 | (k, v) :: l, b, x, h => by
  rw [get_cons] at h
  split at h
  ·rename_i e; cases h; subst e; simp
  ·exact List.mem_cons_of_mem _ (get_mem h)
theorem get_of_mem {α : Type} : ∀ {l : List (Nat × α)} {b : Nat} {x : α}, (l.map (·.1)).Nodup → (b, x) ∈ l → get l b = some x
 | [], _, _, _, h => by simp at h
 | (k, v) :: l, b, x, hn, h => by
  rw [List.map_cons, List.nodup_cons] at hn
  rw [get_cons]
  rcases List.mem_cons.1 h with e | h
  ·cases e; simp
  ·rw [if_neg]
   ·exact get_of_mem hn.2 h
   ·intro e; subst e; exact hn.1 (List.mem_map_of_mem (f := (·.1)) h)
theorem seqO_get : ∀ {l : List (Option (List Prop × CV))} {p : List Prop} {cs : List CV}, seqO l = some (p, cs) → All p → cs.length = l.length ∧ ∀ (j : Nat) (c : CV), cs[j]? = some c → ∃ q : List Prop, l[j]? = some (some (q, c)) ∧ All q
 | [], p, cs, h, _ => by simp [seqO] at h; obtain ⟨rfl, rfl⟩ := h; simp
 | none :: _, p, cs, h, _ => by simp [seqO] at h
 | some (p0, c0) :: l, p, cs, h, hp => by
  simp only [seqO] at h
  split at h
  ·rename_i q cs' h1
   cases h
   rw [All_append] at hp
   obtain ⟨e1, e2⟩ := seqO_get h1 hp.2
   refine ⟨by simp [e1], fun j c hj => ?_⟩
   cases j with
   | zero => simp at hj; subst hj; exact ⟨p0, rfl, hp.1⟩
   | succ j => simp at hj; obtain ⟨q, x1, x2⟩ := e2 j c hj; exact ⟨q, by simpa using x1, x2⟩
  ·cases h
theorem fnC_rep {ρ' : Nat → Option Pl} {F' : Nat → Prop} {g : FuncId} {nf n : Nat} {cs : List CV} {vs : List Value} (hn : vs.length = n) (hl : cs.length = n) (hr : ∀ (j : Nat) (u : Value), vs[j]? = some u → ∃ c, cs[j]? = some c ∧ RepC ρ' F' w c u) :
  RepC ρ' F' w (fnC g nf n cs) (.func (.func g) (vs.take nf).toArray (vs.drop nf).toArray) := by
 unfold fnC
 split
 ·rename_i ds hds
  have hcs := allD_get hds
  refine ⟨vs, by simp, hn, fun j u hu => ?_⟩
  obtain ⟨c, hc, hr⟩ := hr j u hu
  rw [hcs, List.getElem?_map] at hc
  cases hd : ds[j]? with
  | none => rw [hd] at hc; cases hc
  | some d =>
   rw [hd] at hc; cases hc
   show RepD F' w (ds.getD j .nilp) u
   rw [List.getD_eq_getElem?_getD, hd]; exact hr
 ·refine ⟨vs, rfl, hn, fun j u hu => ?_⟩
  obtain ⟨c, hc, hr⟩ := hr j u hu
  show RepC ρ' F' w (cs.getD j (.d .nilp)) u
  rw [List.getD_eq_getElem?_getD, hc]; exact hr
theorem evD_rep {F' : Nat → Prop} {S : Nat → Prop} {rb : Option Nat} (hF : ∀ k, F k → F' k) (hS : ∀ k, S k → F' k) : ∀ {x : EV} {v : Value}, RepV F w S rb x v → RepD F' w (evD x) v
 | .d _, _, h => RepD.gr hF (fun _ _ => rfl) h
 | .row E esz len el, _, .inl ⟨h0, h⟩ => ⟨none, 0, by rw [h, h0], by simp, by simp, fun _ => ⟨h0, rfl⟩, by omega, by simp⟩
 | .row E esz len el, _, .inr ⟨k, base, cap, h1, h2, h3, vs, h4, h5, h6, h7, h8⟩ => ⟨some ⟨k, base, none⟩, cap, h3, by simp, by simp, by simp, h6, fun ad ha => by
   cases ha
   refine ⟨fun _ => rfl, fun i hi j hj => ⟨hS k h2, ?_⟩⟩
   obtain ⟨u, hu, hr⟩ := h8 i hi j hj
   exact ⟨u, by rw [cell_of_vs h4]; exact hu, RepD.gr hF (fun _ _ => rfl) hr⟩⟩
theorem finC_rep (hn : (f.ren.map (·.2)).Nodup) (hi : HIf B ρ F w h ft) : ∀ {c c' : CV} {p : List Prop} {v : Value}, finC f h c = some (p, c') → All p → RepC ρ F w c v → RepC (renR ρ f.ren) (frzF ft F h f.frz) w c' v := by
 have hF : ∀ k, F k → frzF ft F h f.frz k := fun k hk => .inl hk
 have hfr : ∀ {b : Nat} {ob : Ob}, memL b f.frz = true → h b = some (some ob) → ∀ k, ft b k → frzF ft F h f.frz k := fun hm hob k hk => .inr ⟨_, _, memL_iff.1 hm, hob, hk⟩
 have ren : ∀ {b b' : Nat}, get f.ren b = some b' → renR ρ f.ren b' = ρ b := fun hg => renR_of hn (get_mem hg)
 intro c
 induction c with
 | d x => intro c' p v he _ hr; simp [finC] at he; obtain ⟨rfl, rfl⟩ := he; exact RepD.gr hF (fun _ _ => rfl) hr
 | ptr b off =>
  intro c' p v he hp hr
  simp only [finC] at he
  cases hm : memL b f.frz with
  | false =>
   simp only [hm, cond_false] at he
   split at he
   ·rename_i b' hg; cases he
    obtain ⟨k, base, cap, hk, hv⟩ := hr
    exact ⟨k, base, cap, by rw [ren hg]; exact hk, hv⟩
   ·cases he
  | true =>
   simp only [hm, cond_true] at he
   obtain ⟨k, base, cap, hk, hv⟩ := hr
   split at he
   ·rename_i E cs hob
    split at he
    ·rename_i ds hds
     cases he
     obtain ⟨k', cap', vs, x1, x0, x2, x3⟩ := hi.obj b _ hob
     rw [hk] at x1; cases x1
     rw [allD_get hds] at x3
     refine ⟨⟨k, 0 + off, none⟩, hv, rfl, fun j hj => ⟨hfr hm hob k x0, ?_⟩⟩
     have hlt : off + j < ds.length := by omega
     obtain ⟨u, hu, hru⟩ := x3.get (j := off + j) (c := .d (ds.getD (off + j) .nilp)) (by rw [List.getElem?_map, List.getD_eq_getElem?_getD, List.getElem?_eq_getElem hlt]; rfl)
     exact ⟨u, by rw [cell_of_vs x2, Nat.zero_add]; exact hu, RepD.gr hF (fun _ _ => rfl) hru⟩
    ·cases he
   ·rename_i E ds hob
    cases he
    obtain ⟨k', base', cap', x1, x2⟩ := hi.obj b _ hob
    rw [hk] at x1; cases x1
    refine ⟨⟨k, base + off, none⟩, hv, rfl, fun j hj => ?_⟩
    have hlt : off + j < ds.length := by omega
    obtain ⟨y1, u, y2, y3⟩ := x2 (off + j) (ds.getD (off + j) .nilp) (by rw [List.getD_eq_getElem?_getD, List.getElem?_eq_getElem hlt]; rfl)
    exact ⟨hF _ y1, u, by rw [Nat.add_assoc]; exact y2, RepD.gr hF (fun _ _ => rfl) y3⟩
   ·cases he
 | opt b esz i off =>
  intro c' p v he hp hr
  simp only [finC] at he
  cases hm : memL b f.frz with
  | true => simp [hm] at he
  | false =>
   simp only [hm, cond_false] at he
   split at he
   ·rename_i b' hg; cases he
    obtain ⟨k, base, cap, hk, hv⟩ := hr
    exact ⟨k, base, cap, by rw [ren hg]; exact hk, hv⟩
   ·cases he
 | own b nn len =>
  intro c' p v he hp hr
  simp only [finC] at he
  cases hm : memL b f.frz with
  | false =>
   simp only [hm, cond_false] at he
   split at he
   ·rename_i b' hg; cases he
    rcases hr with ⟨k, base, cap, hk, hv⟩ | ⟨h0, hk, hl, hv⟩
    ·exact .inl ⟨k, base, cap, by rw [ren hg]; exact hk, hv⟩
    ·exact .inr ⟨h0, by rw [ren hg]; exact hk, hl, hv⟩
   ·cases he
  | true =>
   simp only [hm, cond_true] at he
   have nn1 : nnOf nn = some true → nn = true := fun e => by cases nn <;> simp [nnOf] at e ⊢
   have nn2 : nnOf nn ≠ some false := fun e => by cases nn <;> simp [nnOf] at e
   have nilw : ∀ (esz : Nat) (g : Nat → Nat → DV), nn = false → len = 0 → v = .slice none 0 0 → RepD (frzF ft F h f.frz) w (.sl (nnOf nn) esz len g) v := fun esz g h0 hl hv =>
    ⟨none, 0, by rw [hv, hl], (fun e => by rw [nn1 e] at h0; cases h0), (fun e => absurd e nn2), fun _ => ⟨hl, rfl⟩, by omega, by simp⟩
   split at he
   ·rename_i E esz len' el hob
    cases he
    obtain ⟨rfl, _⟩ := hp
    rcases hr with ⟨k, base, cap, hk, hv⟩ | ⟨h0, hk, hl, hv⟩
    ·rcases hi.obj b _ hob with ⟨x1, _⟩ | ⟨k', base', cap', x1, x0, vs, x2, x3, x4, x5, x6⟩
     ·rw [hk] at x1; cases x1
     ·rw [hk] at x1; cases x1
      refine ⟨some ⟨k, base, none⟩, cap, hv, by simp, fun e => absurd e nn2, by simp, x4, fun ad ha => ?_⟩
      cases ha
      refine ⟨fun _ => rfl, fun i hi' j hj => ⟨hfr hm hob k x0, ?_⟩⟩
      obtain ⟨u, hu, hru⟩ := x6 i hi' j hj
      exact ⟨u, by rw [cell_of_vs x2]; exact hu, RepD.gr hF (fun _ _ => rfl) hru⟩
    ·exact nilw esz el h0 hl hv
   ·rename_i E esz len' el hob
    cases he
    obtain ⟨rfl, _⟩ := hp
    rcases hr with ⟨k, base, cap, hk, hv⟩ | ⟨h0, hk, hl, hv⟩
    ·rcases hi.obj b _ hob with ⟨x1, _⟩ | ⟨k', base', cap', vs, rb, x1, x0, x2, x3, x4, x5, x6, x7⟩
     ·rw [hk] at x1; cases x1
     ·rw [hk] at x1; cases x1
      refine ⟨some ⟨k, base, none⟩, cap, hv, by simp, fun e => absurd e nn2, by simp, x4, fun ad ha => ?_⟩
      cases ha
      refine ⟨fun _ => rfl, fun i hi' j hj => ⟨hfr hm hob k x0, ?_⟩⟩
      obtain ⟨u, hu, hru⟩ := x6 i hi' j hj
      have hru : RepV F w (ft b) (rb i j) (el i j) u := hru
      exact ⟨u, by rw [cell_of_vs x2]; exact hu, evD_rep hF (hfr hm hob) hru⟩
    ·exact nilw esz _ h0 hl hv
   ·cases he
 | mp b =>
  intro c' p v he hp hr
  simp only [finC] at he
  cases hm : memL b f.frz with
  | true => simp [hm] at he
  | false =>
   simp only [hm, cond_false] at he
   split at he
   ·rename_i b' hg; cases he
    obtain ⟨k, base, cap, hk, hv⟩ := hr
    exact ⟨k, base, cap, by rw [ren hg]; exact hk, hv⟩
   ·cases he
 | yl b =>
  intro c' p v he hp hr
  simp only [finC] at he
  cases hm : memL b f.frz with
  | true => simp [hm] at he
  | false =>
   simp only [hm, cond_false] at he
   split at he
   ·rename_i b' hg; cases he
    obtain ⟨k, base, cap, hk, hv⟩ := hr
    exact ⟨k, base, cap, by rw [ren hg]; exact hk, hv⟩
   ·cases he
 | fn g nf n cap ih =>
  intro c' p v he hp hr
  simp only [finC] at he
  split at he
  ·rename_i p' cs hq
   cases he
   obtain ⟨vs, rfl, hl, hr⟩ := hr
   obtain ⟨e1, e2⟩ := seqO_get hq hp
   simp at e1
   refine fnC_rep hl e1 fun j u hu => ?_
   have hj : j < n := by rw [← hl]; exact (List.getElem?_eq_some_iff.1 hu).1
   have hg := List.getElem?_eq_getElem (l := cs) (i := j) (by omega)
   refine ⟨_, hg, ?_⟩
   obtain ⟨q, x1, x2⟩ := e2 j _ hg
   rw [List.getElem?_map, List.getElem?_range hj] at x1
   simp at x1
   exact ih j x1 x2 (hr j u hu)
  ·cases he
theorem finL_rep (hn : (f.ren.map (·.2)).Nodup) (hi : HIf B ρ F w h ft) : ∀ {cs cs' : List CV} {p : List Prop} {vs : List Value}, finL f h cs = some (p, cs') → All p → RepL ρ F w cs vs → RepL (renR ρ f.ren) (frzF ft F h f.frz) w cs' vs
 | [], cs', p, vs, he, _, hr => by
  simp [finL] at he; obtain ⟨rfl, rfl⟩ := he
  match vs, hr with | [], _ => trivial
 | c :: cs, cs', p, vs, he, hp, hr => by
  simp only [finL] at he
  split at he
  ·rename_i p1 c1 p2 cs1 h1 h2
   cases he
   rw [All_append] at hp
   match vs, hr with
   | v :: vs, ⟨hr1, hr2⟩ => exact ⟨finC_rep hn hi h1 hp.1 hr1, finL_rep hn hi h2 hp.2 hr2⟩
  ·cases he
theorem finS_rep (hn : (f.ren.map (·.2)).Nodup) (hi : HIf B ρ F w h ft) {s s' : SV} {p : List Prop} {v : Value} (he : finS f h s = some (p, s')) (hp : All p) (hr : RepS ρ F w s v) : RepS (renR ρ f.ren) (frzF ft F h f.frz) w s' v := by
 cases s with
 | one c =>
  simp only [finS] at he
  split at he
  ·rename_i h1; cases he; exact finC_rep hn hi h1 hp hr
  ·cases he
 | agg cs =>
  simp only [finS] at he
  split at he
  ·rename_i h1; cases he
   obtain ⟨vs, e, hr⟩ := hr
   exact ⟨vs, e, finL_rep hn hi h1 hp hr⟩
  ·cases he
theorem finSs_rep (hn : (f.ren.map (·.2)).Nodup) (hi : HIf B ρ F w h ft) : ∀ {cs cs' : List SV} {p : List Prop} {vs : List Value}, finSs f h cs = some (p, cs') → All p → RepSs ρ F w cs vs → RepSs (renR ρ f.ren) (frzF ft F h f.frz) w cs' vs
 | [], cs', p, vs, he, _, hr => by
  simp [finSs] at he; obtain ⟨rfl, rfl⟩ := he
  match vs, hr with | [], _ => trivial
 | c :: cs, cs', p, vs, he, hp, hr => by
  simp only [finSs] at he
  split at he
  ·rename_i p1 c1 p2 cs1 h1 h2
   cases he
   rw [All_append] at hp
   match vs, hr with
   | v :: vs, ⟨hr1, hr2⟩ => exact ⟨finS_rep hn hi h1 hp.1 hr1, finSs_rep hn hi h2 hp.2 hr2⟩
  ·cases he
theorem finT_rep (hn : (f.ren.map (·.2)).Nodup) (hi : HIf B ρ F w h ft) {s s' : TV} {p : List Prop} {v : Value} (he : finT f h s = some (p, s')) (hp : All p) (hr : RepT ρ F w s v) : RepT (renR ρ f.ren) (frzF ft F h f.frz) w s' v := by
 cases s with
 | v s =>
  simp only [finT] at he
  split at he
  ·rename_i h1; cases he; exact finS_rep hn hi h1 hp hr
  ·cases he
 | tup l =>
  simp only [finT] at he
  split at he
  ·rename_i h1; cases he
   obtain ⟨vs, e, hr⟩ := hr
   exact ⟨vs, e, finSs_rep hn hi h1 hp hr⟩
  ·cases he
theorem finSl_get : ∀ {l l' : List (Nat × TV)} {p : List Prop}, finSl f h l = some (p, l') → All p → ∀ t tv', get l' t = some tv' → ∃ tv q, get l t = some tv ∧ finT f h tv = some (q, tv') ∧ All q
 | [], l', p, he, _, t, tv', hg => by simp [finSl] at he; obtain ⟨rfl, rfl⟩ := he; simp [get] at hg
 | (t0, tv0) :: l, l', p, he, hp, t, tv', hg => by
  simp only [finSl] at he
  split at he
  ·rename_i p1 tv1 p2 l1 h1 h2
   cases he
   rw [All_append] at hp
   rw [get_cons] at hg
   split at hg
   ·rename_i e; cases hg; subst e; exact ⟨tv0, p1, by rw [get_cons, if_pos rfl], h1, hp.1⟩
   ·rename_i e
    obtain ⟨tv, q, x1, x2, x3⟩ := finSl_get h2 hp.2 t tv' hg
    exact ⟨tv, q, by rw [get_cons, if_neg e]; exact x1, x2, x3⟩
  ·cases he
theorem RepC.congr {ρ' : Nat → Option Pl} {F' : Nat → Prop} (hF : ∀ k, F k → F' k) : ∀ {c : CV} {v : Value}, (∀ b ∈ c.ment, ρ' b = ρ b) → RepC ρ F w c v → RepC ρ' F' w c v := by
 intro c
 induction c with
 | d x => intro v _ h; exact RepD.gr hF (fun _ _ => rfl) h
 | ptr b off => intro v hm h; obtain ⟨k, base, cap, h, e⟩ := h; exact ⟨k, base, cap, by rw [hm b (by simp [CV.ment])]; exact h, e⟩
 | opt b esz i off => intro v hm h; obtain ⟨k, base, cap, h, e⟩ := h; exact ⟨k, base, cap, by rw [hm b (by simp [CV.ment])]; exact h, e⟩
 | own b nn len =>
  intro v hm h
  rcases h with ⟨k, base, cap, h, e⟩ | ⟨h0, h, e⟩
  ·exact .inl ⟨k, base, cap, by rw [hm b (by simp [CV.ment])]; exact h, e⟩
  ·exact .inr ⟨h0, by rw [hm b (by simp [CV.ment])]; exact h, e⟩
 | mp b => intro v hm h; obtain ⟨k, base, cap, h, e⟩ := h; exact ⟨k, base, cap, by rw [hm b (by simp [CV.ment])]; exact h, e⟩
 | yl b => intro v hm h; obtain ⟨k, base, cap, h, e⟩ := h; exact ⟨k, base, cap, by rw [hm b (by simp [CV.ment])]; exact h, e⟩
 | fn f nf n cap ih =>
  intro v hm h
  obtain ⟨vs, e, hl, h⟩ := h
  refine ⟨vs, e, hl, fun j u hu => ih j (fun b hb => hm b ?_) (h j u hu)⟩
  have hj : j < n := by rw [← hl]; exact (List.getElem?_eq_some_iff.1 hu).1
  exact List.mem_flatMap.2 ⟨j, List.mem_range.2 hj, hb⟩
theorem RepL.congr {ρ' : Nat → Option Pl} {F' : Nat → Prop} (hF : ∀ k, F k → F' k) : ∀ {cs : List CV} {vs : List Value}, (∀ b ∈ cs.flatMap CV.ment, ρ' b = ρ b) → RepL ρ F w cs vs → RepL ρ' F' w cs vs
 | [], [], _, h => h
 | c :: cs, _ :: _, hm, ⟨h, t⟩ => ⟨h.congr hF fun b hb => hm b (by simp [hb]), RepL.congr hF (fun b hb => hm b (by rw [List.flatMap_cons, List.mem_append]; exact .inr hb)) t⟩
 | [], _ :: _, _, h => h.elim
 | _ :: _, [], _, h => h.elim
theorem RepS.congr {ρ' : Nat → Option Pl} {F' : Nat → Prop} (hF : ∀ k, F k → F' k) : ∀ {s : SV} {v : Value}, (∀ b ∈ s.ment, ρ' b = ρ b) → RepS ρ F w s v → RepS ρ' F' w s v
 | .one _, _, hm, h => RepC.congr hF hm h
 | .agg _, _, hm, ⟨vs, e, h⟩ => ⟨vs, e, h.congr hF hm⟩
theorem finO_rep (hn : (f.ren.map (·.2)).Nodup) (hi : HIf B ρ F w h ft) {b b' : Nat} {ob ob' : Ob} {p : List Prop} (hb : (b, b') ∈ f.ren) (he : finO f h ob = some (p, ob')) (hp : All p) (hr : RepO ρ F w (ft b) b ob) : RepO (renR ρ f.ren) (frzF ft F h f.frz) w (ft b) b' ob' := by
 have hF : ∀ k, F k → frzF ft F h f.frz k := fun k hk => .inl hk
 have ren : renR ρ f.ren b' = ρ b := renR_of hn hb
 have g0 : Gr ρ F w ρ (frzF ft F h f.frz) w := ⟨fun _ _ h => h, hF, fun _ _ => rfl⟩
 cases ob with
 | cells E cs =>
  simp only [finO] at he
  split at he
  ·rename_i q cs' h1; cases he
   obtain ⟨k, cap, vs, x1, x0, x2, x3⟩ := hr
   exact ⟨k, cap, vs, by rw [ren]; exact x1, x0, x2, finL_rep hn hi h1 hp x3⟩
  ·cases he
 | fcells E ds =>
  simp [finO] at he; obtain ⟨rfl, rfl⟩ := he
  obtain ⟨k, base, cap, x1, x2⟩ := hr
  exact ⟨k, base, cap, by rw [ren]; exact x1, fun j x hx => by obtain ⟨y1, u, y2, y3⟩ := x2 j x hx; exact ⟨hF _ y1, u, y2, RepD.gr hF (fun _ _ => rfl) y3⟩⟩
 | arr E esz len el =>
  simp [finO] at he; obtain ⟨rfl, rfl⟩ := he
  rcases hr with ⟨x1, x2⟩ | ⟨k, base, cap, x1, x0, x2⟩
  ·exact .inl ⟨by rw [ren]; exact x1, x2⟩
  ·exact .inr ⟨k, base, cap, by rw [ren]; exact x1, x0, x2.keep g0 rfl⟩
 | rows E esz len el ov =>
  rcases hr with ⟨x1, x2⟩ | ⟨k, base, cap, vs, rb, x1, x0, x2, x3, x4, x5, x6, x7⟩
  ·cases ov with
   | none => simp [finO] at he; obtain ⟨rfl, rfl⟩ := he; exact .inl ⟨by rw [ren]; exact x1, x2⟩
   | some o =>
    obtain ⟨i, j, c⟩ := o
    simp only [finO] at he
    split at he
    ·cases he; exact .inl ⟨by rw [ren]; exact x1, x2⟩
    ·cases he
  ·cases ov with
   | none =>
    simp [finO] at he; obtain ⟨rfl, rfl⟩ := he
    refine .inr ⟨k, base, cap, vs, rb, by rw [ren]; exact x1, x0, x2, x3, x4, x5, fun i hi' j hj => ?_, x7⟩
    obtain ⟨u, hu, hr⟩ := x6 i hi' j hj
    exact ⟨u, hu, RepV.keep g0 (fun _ h => h) (fun _ _ => rfl) hr⟩
   | some o =>
    obtain ⟨i0, j0, c⟩ := o
    simp only [finO] at he
    split at he
    ·rename_i q c' h1
     cases he
     refine .inr ⟨k, base, cap, vs, rb, by rw [ren]; exact x1, x0, x2, x3, x4, x5, fun i hi' j hj => ?_, x7⟩
     obtain ⟨u, hu, hr⟩ := x6 i hi' j hj
     refine ⟨u, hu, ?_⟩
     unfold RepW at hr ⊢
     simp only at hr ⊢
     split
     ·rename_i e; rw [if_pos e] at hr; exact finC_rep hn hi h1 hp hr
     ·rename_i e; rw [if_neg e] at hr; exact RepV.keep g0 (fun _ h => h) (fun _ _ => rfl) hr
    ·cases he
 | map m =>
  simp only [finO] at he
  cases hb2 : (m.ms.all (fun b => !memL b f.frz && (match get f.ren b with | some b' => Nat.beq b b' | none => false))) with
  | false => rw [hb2] at he; cases he
  | true =>
   rw [hb2] at he
   simp only [cond_true, Option.some.injEq, Prod.mk.injEq] at he
   obtain ⟨rfl, rfl⟩ := he
   have hms : ∀ x ∈ m.ms, renR ρ f.ren x = ρ x := fun x hx => by
    have := List.all_eq_true.1 hb2 x hx
    simp only [Bool.and_eq_true] at this
    have h2 := this.2
    split at h2
    ·rename_i b2 hg; have := Nat.eq_of_beq_eq_true h2; subst this; exact renR_of hn (get_mem hg)
    ·cases h2
   obtain ⟨k, base, cap, es, x1, x0, x2, x3, x5, x4⟩ := hr
   refine ⟨k, base, cap, es, by rw [ren]; exact x1, x0, x2, x3, x5, fun i hi' => ?_⟩
   obtain ⟨e, e1, e2, ⟨s3, e3, e3'⟩, ⟨s4, e4, e4'⟩⟩ := x4 i hi'
   refine ⟨e, e1, e2, ⟨s3, e3, e3'.congr hF fun x hx => ?_⟩, s4, e4, e4'.congr hF fun x hx => hms x ?_⟩
   ·rw [asSV_ment e3] at hx
    obtain ⟨c, hc, hx⟩ := List.mem_flatMap.1 hx
    obtain ⟨j, _, rfl⟩ := takeV_mem hc
    simp [CV.ment] at hx
   ·rw [asSV_ment e4] at hx
    obtain ⟨c, hc, hx⟩ := List.mem_flatMap.1 hx
    obtain ⟨j, hj, rfl⟩ := takeV_mem hc
    exact x5 i hi' j (by omega) x hx
 | loop r st sl =>
  simp only [finO] at he
  split at he
  ·rename_i q sl' h1
   cases he
   obtain ⟨k, base, cap, fn, tmps, D, x1, x0, x2, x3, x4, x5⟩ := hr
   refine ⟨k, base, cap, fn, tmps, D, by rw [ren]; exact x1, x0, x2, x3, x4, fun t tv ht => ?_⟩
   obtain ⟨tv0, q0, y1, y2, y3⟩ := finSl_get h1 hp t tv ht
   obtain ⟨v, z1, z2⟩ := x5 t tv0 y1
   exact ⟨v, z1, finT_rep hn hi y2 y3 z2⟩
  ·cases he
 | coll =>
  simp [finO] at he; obtain ⟨rfl, rfl⟩ := he
  obtain ⟨k, base, cap, x1, x0, x2⟩ := hr
  exact ⟨k, base, cap, by rw [ren]; exact x1, x0, x2⟩
theorem selS_get {s : Slots} : ∀ {ts : List Nat} {p : List Prop} {l : List (Nat × TV)}, selS f h s ts = some (p, l) → All p → ∀ t tv', get l t = some tv' → ∃ tv src q, s t = some ⟨[], tv, src⟩ ∧ finT f h tv = some (q, tv') ∧ All q
 | [], p, l, he, _, t, tv', hg => by simp [selS] at he; obtain ⟨rfl, rfl⟩ := he; simp [get] at hg
 | t0 :: ts, p, l, he, hp, t, tv', hg => by
  simp only [selS] at he
  split at he
  ·rename_i tv src q0 l0 h1 h2
   split at he
   ·rename_i p1 tv1 h3
    cases he
    rw [All_append] at hp
    rw [get_cons] at hg
    split at hg
    ·rename_i e; cases hg; subst e; exact ⟨tv, src, p1, h1, h3, hp.1⟩
    ·exact selS_get h2 hp.2 t tv' hg
   ·cases he
  ·cases he
theorem selH_get : ∀ {l : List (Nat × Nat)} {p : List Prop} {m : List (Nat × Option Ob)}, selH f h l = some (p, m) → All p →
  (∀ b' x, get m b' = some x → ∃ b, (b, b') ∈ l ∧ (x = none ∨ ∃ ob ob' q, x = some ob' ∧ h b = some (some ob) ∧ b ∉ f.frz ∧ finO f h ob = some (q, ob') ∧ All q)) ∧ (∀ b', get m b' = none → b' ∉ l.map (·.2))
 | [], p, m, he, _ => by simp [selH] at he; obtain ⟨rfl, rfl⟩ := he; simp [get]
 | (b0, b0') :: l, p, m, he, hp => by
  have key : ∀ (q : List Prop) (m0 : List (Nat × Option Ob)) (x0 : Option Ob), selH f h l = some (q, m0) → All q → m = (b0', x0) :: m0 →
    (x0 = none ∨ ∃ ob ob' q, x0 = some ob' ∧ h b0 = some (some ob) ∧ b0 ∉ f.frz ∧ finO f h ob = some (q, ob') ∧ All q) →
    (∀ b' x, get m b' = some x → ∃ b, (b, b') ∈ (b0, b0') :: l ∧ (x = none ∨ ∃ ob ob' q, x = some ob' ∧ h b = some (some ob) ∧ b ∉ f.frz ∧ finO f h ob = some (q, ob') ∧ All q)) ∧ (∀ b', get m b' = none → b' ∉ ((b0, b0') :: l).map (·.2)) := by
   intro q m0 x0 h2 hq hm hx
   obtain ⟨i1, i2⟩ := selH_get h2 hq
   subst hm
   refine ⟨fun b' x hg => ?_, fun b' hg => ?_⟩
   ·rw [get_cons] at hg
    split at hg
    ·rename_i e; cases hg; subst e; exact ⟨b0, by simp, hx⟩
    ·obtain ⟨b, hb, hx'⟩ := i1 b' x hg; exact ⟨b, by simp [hb], hx'⟩
   ·rw [get_cons] at hg
    split at hg
    ·cases hg
    ·rename_i e
     have := i2 b' hg
     rw [List.map_cons, List.mem_cons]
     rintro (e' | e')
     ·exact e e'.symm
     ·exact this e'
  simp only [selH] at he
  split at he
  ·rename_i q m0 h1 h2
   cases he
   exact key _ m0 none h2 hp rfl (.inl rfl)
  ·rename_i ob q m0 h1 h2
   cases hm : memL b0 f.frz with
   | true => simp only [hm, cond_true] at he; cases he; exact key _ m0 none h2 hp rfl (.inl rfl)
   | false =>
    simp only [hm, cond_false] at he
    split at he
    ·rename_i p1 ob' h3
     cases he
     rw [All_append] at hp
     exact key _ m0 _ h2 hp.2 rfl (.inr ⟨ob, ob', p1, rfl, h1, memL_false hm, h3, hp.1⟩)
    ·cases he
  ·cases he
theorem conc_fin {N : Nat} {L : List Nat} {yb : Nat → Bool} {r : RS} {a : Act} {f : Fin} {ts : List Nat} {p q : List Prop} {sl : List (Nat × TV)} {hp : List (Nat × Option Ob)} (hrc : RC B yb N r a w) (hids : ∀ b p, B.ρ b = some p → b ∈ L)
  (hok : finOk L f = true) (h1 : selS f r.h r.s ts = some (p, sl)) (h2 : selH f r.h f.ren = some (q, hp)) (c1 : All p) (c2 : All q) : Conc B N L ⟨sl, hp⟩ a w := by
 obtain ⟨⟨ρ, F, hfr, ⟨ft, hhi⟩, hs, dn⟩, sz⟩ := hrc
 simp only [finOk, Bool.and_eq_true] at hok
 obtain ⟨⟨o1, o2⟩, o4⟩ := hok
 have n1 := nodupL_spec o1
 have n2 := nodupL_spec o2
 have o4 : ∀ b ∈ L, get f.ren b = some b := fun b hb => by
  have := List.all_eq_true.1 o4 b hb
  split at this
  ·rename_i b' hg; rw [hg, Nat.eq_of_beq_eq_true this]
  ·cases this
 obtain ⟨g1, g2⟩ := selH_get h2 c2
 have grm : ∀ b b', (b, b') ∈ f.ren → renR ρ f.ren b' = ρ b := fun b b' hb => renR_of n2 hb
 have live : ∀ b' ob, get hp b' = some (some ob) → ∃ b ob0 q, (b, b') ∈ f.ren ∧ r.h b = some (some ob0) ∧ b ∉ f.frz ∧ finO f r.h ob0 = some (q, ob) ∧ All q := fun b' ob hg => by
  obtain ⟨b, hb, hx⟩ := g1 b' _ hg
  rcases hx with hx | ⟨ob0, ob', q, e1, e2, e3, e4, e5⟩
  ·cases hx
  ·cases e1; exact ⟨b, ob0, q, hb, e2, e3, e4, e5⟩
 have old : ∀ b' , (∃ b, (b, b') ∈ f.ren) → ∃ b, (b, b') ∈ f.ren := fun _ h => h
 have hF : ∀ k, F k → frzF ft F r.h f.frz k := fun k hk => .inl hk
 have oldName : ∀ {b b' c : Nat}, (b, b') ∈ f.ren → (c, b') ∈ f.ren → b = c := fun {b b' c} hb hc => by
  have key : ∀ (l : List (Nat × Nat)), (l.map (·.2)).Nodup → (b, b') ∈ l → (c, b') ∈ l → b = c := by
   intro l
   induction l with
   | nil => intro _ h; simp at h
   | cons x l ih =>
    intro hn hb hc
    rw [List.map_cons, List.nodup_cons] at hn
    rcases List.mem_cons.1 hb with e1 | h1 <;> rcases List.mem_cons.1 hc with e2 | h2
    ·rw [← e1] at e2; cases e2; rfl
    ·exact absurd (List.mem_map_of_mem (f := (·.2)) h2) (by rw [← e1] at hn; exact hn.1)
    ·exact absurd (List.mem_map_of_mem (f := (·.2)) h1) (by rw [← e2] at hn; exact hn.1)
    ·exact ih hn.2 h1 h2
  exact key f.ren n2 hb hc
 refine ⟨⟨renR ρ f.ren, frzF ft F r.h f.frz, ?_, ⟨fun b' k => ∃ b, (b, b') ∈ f.ren ∧ ft b k, ?_⟩, fun t tv' hg => ?_, ?_⟩, hids, sz⟩
 ·refine ⟨hfr.os, hfr.tape, hfr.output, hfr.size, hfr.mem, fun b p hb => ?_, fun k hk => ?_, fun k hk => .inl (hfr.bf k hk)⟩
  ·rw [grm b b (get_mem (o4 b (hids b p hb)))]; exact hfr.rho b p hb
  ·rcases hk with hk | ⟨b, ob, hb, hob, hk⟩
   ·exact hfr.fz k hk
   ·obtain ⟨x1, _, x2⟩ := hhi.blk b ob k hob hk
    exact ⟨x1, .inr x2⟩
 ·refine ⟨fun b' ob hg => ?_, fun b' ob k hg hk => ?_, fun b1 b2 ob1 ob2 k hg1 hg2 e1 e2 => ?_, fun b' hg => ?_⟩
  ·obtain ⟨b, ob0, q, hb, hob, hnf, hfo, hq⟩ := live b' ob hg
   have := finO_rep n2 hhi hb hfo hq (hhi.obj b ob0 hob)
   exact this.keep ⟨fun _ _ h => h, fun _ h => h, fun _ _ => rfl⟩ (fun k hk => ⟨b, hb, hk⟩) (fun _ _ => rfl)
  ·obtain ⟨b, ob0, q, hb, hob, hnf, hfo, hq⟩ := live b' ob hg
   obtain ⟨c, hc, hk⟩ := hk
   rw [← oldName hb hc] at hk
   obtain ⟨x1, x2, x3⟩ := hhi.blk b ob0 k hob hk
   refine ⟨x1, fun hf => ?_, x3⟩
   rcases hf with hf | ⟨b2, ob2, y1, y2, y3⟩
   ·exact x2 hf
   ·exact hnf (hhi.dis b b2 ob0 ob2 k hob y2 hk y3 ▸ y1)
  ·obtain ⟨c1, oc1, _, m1, l1, _⟩ := live b1 ob1 hg1
   obtain ⟨c2, oc2, _, m2, l2, _⟩ := live b2 ob2 hg2
   obtain ⟨d1, hd1, e1⟩ := e1
   obtain ⟨d2, hd2, e2⟩ := e2
   rw [← oldName m1 hd1] at e1
   rw [← oldName m2 hd2] at e2
   have := hhi.dis c1 c2 oc1 oc2 k l1 l2 e1 e2
   subst this
   have q1 := get_of_mem n1 m1
   have q2 := get_of_mem n1 m2
   rw [q1] at q2; cases q2; rfl
  ·have hno := g2 b' hg
   unfold renR
   cases hf : f.ren.find? (fun p => Nat.beq p.2 b') with
   | none => rfl
   | some p =>
    exfalso
    have hm := List.mem_of_find?_eq_some hf
    have hb := List.find?_some hf
    exact hno (Nat.eq_of_beq_eq_true hb ▸ List.mem_map_of_mem (f := (·.2)) hm)
 ·obtain ⟨tv, src, q', e1, e2, e3⟩ := selS_get h1 c1 t tv' hg
  obtain ⟨v, hv, hr1, _⟩ := hs t _ e1
  exact ⟨v, hv, finT_rep n2 hhi e2 e3 (hr1 trivial)⟩
 ·exact dn.gr (ρ := ρ) (ρ' := ρ) ⟨fun _ _ h => h, hF, fun _ _ => rfl⟩
end
theorem rc_of_conc {B : Base} {N : Nat} {L : List Nat} {st : St} {a : Act} {w : World} {yb : Nat → Bool} (h : Conc B N L st a w) : RC B yb N (rsOf st) a w := by
 obtain ⟨⟨ρ, F, hfr, hhi, hs, dn⟩, hid, sz⟩ := h
 refine ⟨⟨ρ, F, hfr, hhi, fun t e ht => ?_, dn⟩, sz⟩
 simp only [rsOf] at ht
 split at ht
 ·rename_i tv hg
  cases ht
  obtain ⟨v, hv, hr⟩ := hs t tv hg
  exact ⟨v, hv, fun _ => hr, fun hn => absurd trivial hn⟩
 ·cases ht
theorem conc_drawn {B : Base} {N : Nat} {L : List Nat} {st : St} {a : Act} {w : World} (h : Conc B N L st a w) : Conc B N L st a { w with drawn := w.drawn + 1 } := by
 obtain ⟨⟨ρ, F, hfr, ⟨ft, hhi⟩, hs, dn⟩, hid, sz⟩ := h
 have g : Gr ρ F w ρ F { w with drawn := w.drawn + 1 } := ⟨fun _ _ h => h, fun _ h => h, fun _ _ => rfl⟩
 refine ⟨⟨ρ, F, ⟨hfr.os, hfr.tape, hfr.output, hfr.size, hfr.mem, hfr.rho, hfr.fz, hfr.bf⟩, ⟨ft, fun b ob hb => (hhi.obj b ob hb).keep g (fun _ h => h) fun _ _ => rfl, hhi.blk, hhi.dis, hhi.fresh⟩, fun t tv ht => ?_, dn.gr g⟩, hid, sz⟩
 obtain ⟨v, hv, hr⟩ := hs t tv ht
 exact ⟨v, hv, hr.gr g⟩
section
variable (Fc : Cl → List SV → List (Nat × Option Ob) → TV → List (Nat × Option Ob) → Prop) (T : List (Nat × TI))
structure RegIn where
 yb : Nat → Bool := fun _ => false
 an : Nat → Ann := fun _ => .none
 fr : Nat → Nat := fun _ => 0
 fin : Fin
 ts : List Nat
def finish (L : List Nat) (fin : Fin) (ts : List Nat) (cs : List Prop) (r : RS) : Option (List Prop × St) :=
 bif finOk L fin then
  match selS fin r.h r.s ts, selH fin r.h fin.ren with
  | some (p, sl), some (q, hp) => some (cs ++ (p ++ q), ⟨sl, hp⟩)
  | _, _ => none
 else none
def regE (ops : Array Oper) (N : Nat) (L : List Nat) (x : RegIn) (st : St) : Option (List Prop × St) :=
 match run Fc T ops.toList x.yb x.an x.fr N (List.range ops.size) (rsOf st) with
 | some (cs, r) => finish L x.fin x.ts cs r
 | none => none
def infoOf (l : List (Nat × Info)) (i : Nat) : Info := match get l i with | some x => x | none => ⟨[], true⟩
def regD (ops : Array Oper) (N : Nat) (L : List Nat) (x : RegIn) (cl : List (Nat × List Nat)) (st : St) : Option (List Prop × St) :=
 match runI Fc T ops.toList x.yb x.an x.fr N (List.range ops.size) (rsOf st) with
 | some (cs, r, inf) =>
  let clf : Nat → List Nat := fun i => match get cl i with | some l => l | none => []
  bif clOk ops.toList clf ops.size && allIndep ops.toList (infoOf inf) clf ops.size then finish L x.fin x.ts cs r else none
 | none => none
end
section
variable {rd : Option Nat} {P : Program} {B : Base} {N : Nat} {L : List Nat} {T : List (Nat × TI)} {Q : Exit → St → Prop} {st st' : St}
theorem awp_mono {c : Code} {Q' : Exit → St → Prop} (h : AWp rd P B N L c Q st) (hq : ∀ e st, Q e st → Q' e st) : AWp rd P B N L c Q' st :=
 fun a w hc => wpIn_mono (h a w hc) fun e _ _ ⟨st', h1, h2⟩ => ⟨st', hq e st' h1, h2⟩
theorem finish_conc {a : Act} {w : World} {yb : Nat → Bool} {fin : Fin} {ts : List Nat} {cs cs' : List Prop} {r : RS} (hf : finish L fin ts cs r = some (cs', st')) (hc : All cs') (hrc : RC B yb N r a w) (hid : ∀ b p, B.ρ b = some p → b ∈ L) : Conc B N L st' a w := by
 unfold finish at hf
 cases hb : finOk L fin with
 | false => simp [hb] at hf
 | true =>
  simp only [hb, cond_true] at hf
  split at hf
  ·rename_i p sl q hp h1 h2
   cases hf
   rw [All_append, All_append] at hc
   exact conc_fin hrc hid hb h1 h2 hc.2.1 hc.2.2
  ·cases hf
theorem finish_conds {fin : Fin} {ts : List Nat} {cs cs' : List Prop} {r : RS} (hf : finish L fin ts cs r = some (cs', st')) (hc : All cs') : All cs := by
 unfold finish at hf
 cases hb : finOk L fin with
 | false => simp [hb] at hf
 | true =>
  simp only [hb, cond_true] at hf
  split at hf
  ·cases hf; rw [All_append] at hc; exact hc.1
  ·cases hf
theorem awp_region (hT : TOk P T) {id : Nat} {ops : Array Oper} (x : RegIn) {cs : List Prop} (he : regE (FnC P) T ops N L x st = some (cs, st')) (hc : All cs) (hQ : Q .normal st') : AWp rd P B N L (.region id ops false) Q st := by
 intro a w hconc
 unfold regE at he
 split at he
 ·rename_i cs0 r hrun
  have hid := hconc.ids
  exact wpIn_region (run_sound hT hrun (finish_conds he hc) (rc_of_conc hconc) fun a' w' hrc => ⟨st', hQ, finish_conc he hc hrc hid⟩)
 ·cases he
theorem awp_region_draw (hT : TOk P T) (hm : P.follows .mixedOrders = true) {id : Nat} {ops : Array Oper} (x : RegIn) (cl : List (Nat × List Nat)) {cs : List Prop} (he : regD (FnC P) T ops N L x cl st = some (cs, st')) (hc : All cs) (hQ : Q .normal st') :
  AWp rd P B N L (.region id ops true) Q st := by
 intro a w hconc
 unfold regD at he
 split at he
 ·rename_i cs0 r inf hrun
  have hid := hconc.ids
  simp only at he
  cases hb : (clOk ops.toList (fun i => match get cl i with | some l => l | none => []) ops.size && allIndep ops.toList (infoOf inf) (fun i => match get cl i with | some l => l | none => []) ops.size) with
  | false => rw [hb] at he; simp at he
  | true =>
   rw [hb] at he
   simp only [cond_true] at he
   simp only [Bool.and_eq_true] at hb
   refine wpIn_region_any hm (any_sound (info := infoOf inf) (yb := x.yb) (an := x.an) (fr := x.fr) hT hb.1 hb.2 ops.size _ (rsOf st) r a _ (by simp) (fun i o ho hl => ?_) ?_ ?_ (rc_of_conc (conc_drawn hconc)) fun a' w' hrc => ⟨st', hQ, finish_conc he hc hrc hid⟩)
   ·have : i < ops.size := (Array.getElem?_eq_some_iff.1 ho).1
    simp [this] at hl
   ·refine Nat.le_trans (List.length_filter_le _ _) (by simp)
   ·have hall : ((List.range ops.size).filter fun i => !(Array.replicate ops.size false).getD i true) = List.range ops.size := by
     rw [List.filter_eq_self]
     intro i hi
     rw [List.mem_range] at hi
     simp [hi]
    rw [hall]
    exact steps_of_runI hrun (finish_conds he hc) List.nodup_range fun i y hi => by simp [infoOf, hi]
 ·cases he
theorem awp_seq {x y : Code} (h : AWp rd P B N L x (fun e st' => match e with | .normal => AWp rd P B N L y Q st' | e => Q e st') st) : AWp rd P B N L (.seq x y) Q st := by
 intro a w hc
 refine wpIn_seq (wpIn_mono (h a w hc) fun e a' w' hh => ?_)
 obtain ⟨st', h1, h2⟩ := hh
 cases e with
 | normal => exact h1 a' w' h2
 | exit id => exact ⟨st', h1, h2⟩
 | goto l => exact ⟨st', h1, h2⟩
 | ret => exact ⟨st', h1, h2⟩
 | panic c => exact ⟨st', h1, h2⟩
 | outgrown => exact ⟨st', h1, h2⟩
theorem awp_skip (h : Q .normal st) : AWp rd P B N L .skip Q st := fun _ _ hc => wpIn_skip ⟨st, h, hc⟩
theorem awp_label {l : Nat} (h : Q .normal st) : AWp rd P B N L (.label l) Q st := fun _ _ hc => wpIn_label ⟨st, h, hc⟩
theorem awp_exit {id : Nat} (h : Q (.exit id) st) : AWp rd P B N L (.exit id) Q st := fun _ _ hc => wpIn_exit ⟨st, h, hc⟩
theorem awp_goto {l : Nat} (h : Q (.goto l) st) : AWp rd P B N L (.goto l) Q st := fun _ _ hc => wpIn_goto ⟨st, h, hc⟩
theorem awp_ret (h : Q .ret st) : AWp rd P B N L .ret Q st := fun _ _ hc => wpIn_ret ⟨st, h, hc⟩
def opdT (st : St) : Operand → Option TV
 | .tmp t => get st.slots t
 | .const v => match cval v with | some d => some (.v (.one (.d d))) | none => none
 | _ => none
theorem opdT_rep {a : Act} {ρ : Nat → Option Pl} {F : Nat → Prop} {w : World} (hs : ∀ t tv, get st.slots t = some tv → ∃ v, a.tmps[t]? = some v ∧ RepT ρ F w tv v) {x : Operand} {tv : TV} (h : opdT st x = some tv) : RepT ρ F w tv (a.eval x) := by
 cases x with
 | tmp t =>
  obtain ⟨v, hv, hr⟩ := hs t tv h
  simp [Act.eval, hv]; exact hr
 | const v =>
  simp only [opdT] at h
  split at h
  ·rename_i d hd; cases h; exact cval_rep hd
  ·cases h
 | func f => simp [opdT] at h
 | global g => simp [opdT] at h
theorem awp_cond {c : Operand} {x y : Code} (b : Bool) (hb : opdT st c = some (.v (.one (.d (.bool b))))) (ht : b = true → AWp rd P B N L x Q st) (hf : b = false → AWp rd P B N L y Q st) : AWp rd P B N L (.cond c x y) Q st := by
 intro a w hc
 obtain ⟨ρ, F, hfr, hhi, hs, _⟩ := hc.ex
 exact wpIn_cond_split (t := b) (opdT_rep hs hb) (fun e => ht e a w hc) (fun e => hf e a w hc)
theorem awp_block {id : Nat} {c : Code} (h : AWp rd P B N L c (fun e st' => match e with | .exit id' => if id' = id then Q .normal st' else Q (.exit id') st' | e => Q e st') st) : AWp rd P B N L (.block id c) Q st := by
 intro a w hc
 refine wpIn_block (wpIn_mono (h a w hc) fun e a' w' hh => ?_)
 obtain ⟨st', h1, h2⟩ := hh
 cases e with
 | exit id' =>
  simp only [Exit.inBlock]
  simp only at h1
  split
  ·rename_i e; rw [if_pos e] at h1; exact ⟨st', h1, h2⟩
  ·rename_i e; rw [if_neg e] at h1; exact ⟨st', h1, h2⟩
 | normal => exact ⟨st', h1, h2⟩
 | goto l => exact ⟨st', h1, h2⟩
 | ret => exact ⟨st', h1, h2⟩
 | panic c => exact ⟨st', h1, h2⟩
 | outgrown => exact ⟨st', h1, h2⟩
theorem awp_loop {σ : Type} {c : Code} (S : σ → St) (I : σ → Prop) (μ : σ → Nat) (s : σ) (h0 : I s)
  (round : ∀ s, I s → AWp rd P B N L c (fun e st' => match e with | .normal => ∃ s', st' = S s' ∧ I s' ∧ μ s' < μ s | e => Q e st') (S s)) : AWp rd P B N L (.loop c) Q (S s) := by
 intro a w hc
 refine wpIn_loop_ghost (fun n a w => ∃ s, μ s = n ∧ I s ∧ Conc B N L (S s) a w) (μ s) ⟨s, rfl, h0, hc⟩ ?_
 rintro n a w ⟨s, rfl, hI, hc⟩
 refine wpIn_mono (round s hI a w hc) fun e a' w' hh => ?_
 obtain ⟨st', h1, h2⟩ := hh
 cases e with
 | normal =>
  obtain ⟨s', rfl, hI', hlt⟩ := h1
  exact ⟨μ s', hlt, s', rfl, hI', h2⟩
 | exit id => exact ⟨st', h1, h2⟩
 | goto l => exact ⟨st', h1, h2⟩
 | ret => exact ⟨st', h1, h2⟩
 | panic c => exact ⟨st', h1, h2⟩
 | outgrown => exact ⟨st', h1, h2⟩
end
end Sg
