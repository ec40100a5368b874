import Derived.Test.YtpndenfhglaikaaReown
set_option linter.all false
namespace Sg
open Go
abbrev nS : DV := .sl (some false) 0 0 fun _ _ => .nilp
structure RI where
 yb : List (Nat × Bool) := []
 an : List (Nat × Ann) := []
 fr : List (Nat × Nat) := []
def keysL {α : Type} (l : List (Nat × α)) : List Nat := l.map (·.1)
def finK (frz : List Nat) (s : St) : Fin := ⟨frz, s.heap.map fun p => (p.1, p.1)⟩
def RI.on (x : RI) (frz : List Nat) (s : St) : RegIn := { yb := ybf x.yb, an := anf x.an, fr := frf x.fr, fin := finK frz s, ts := keysL s.slots }
def addL (a l : List Nat) : List Nat := l.foldl (fun acc x => bif memL x acc then acc else x :: acc) a
def clGo : List Oper → Nat → List (Nat × List Nat) → List (Nat × List Nat)
 | [], _, acc => acc
 | o :: os, i, acc => clGo os (i + 1) ((i, o.after.toList.foldl (fun x e => bif Region.binds .any e then addL (addL x [e.on]) (match get acc e.on with | some l => l | none => []) else x) []) :: acc)
def clO (ops : Array Oper) : List (Nat × List Nat) := clGo ops.toList 0 []
section
variable {rd : Option Nat} {P : Program} {B : Base} {N : Nat} {L : List Nat} {T : List (Nat × TI)} {Q : Exit → St → Prop} {st st' : St} {id : Nat} {ops : Array Oper} {y : Code}
theorem rz (hT : TOk P T) (s : St) (x : RI) (frz : List Nat) (hQ : Q .normal s) (he : regE (FnC P) T ops N L (x.on frz s) st = some ([], s) := by kernel_rfl) : AWp rd P B N L (.region id ops false) Q st :=
 awp_reg hT s _ he trivial .refl hQ
theorem rg (hT : TOk P T) (s : St) (cs : List Prop) (x : RI) (frz : List Nat) (hc : All cs) (hQ : Q .normal s) (he : regE (FnC P) T ops N L (x.on frz s) st = some (cs, s) := by kernel_rfl) : AWp rd P B N L (.region id ops false) Q st :=
 awp_reg hT s _ he hc .refl hQ
theorem ri (hT : TOk P T) (s : St) (cs : List Prop) (x : RI) (frz : List Nat) (hc : All cs) (hi : Imp B N L s st') (hQ : Q .normal st') (he : regE (FnC P) T ops N L (x.on frz s) st = some (cs, s) := by kernel_rfl) : AWp rd P B N L (.region id ops false) Q st :=
 awp_reg hT s _ he hc hi hQ
theorem sz (hT : TOk P T) (s : St) (x : RI) (frz : List Nat) (hQ : AWp rd P B N L y Q s) (he : regE (FnC P) T ops N L (x.on frz s) st = some ([], s) := by kernel_rfl) : AWp rd P B N L (.seq (.region id ops false) y) Q st :=
 awp_seq (awp_reg hT s _ he trivial .refl hQ)
theorem sg (hT : TOk P T) (s : St) (cs : List Prop) (x : RI) (frz : List Nat) (hc : All cs) (hQ : AWp rd P B N L y Q s) (he : regE (FnC P) T ops N L (x.on frz s) st = some (cs, s) := by kernel_rfl) : AWp rd P B N L (.seq (.region id ops false) y) Q st :=
 awp_seq (awp_reg hT s _ he hc .refl hQ)
theorem si (hT : TOk P T) (s : St) (cs : List Prop) (x : RI) (frz : List Nat) (hc : All cs) (hi : Imp B N L s st') (hQ : AWp rd P B N L y Q st') (he : regE (FnC P) T ops N L (x.on frz s) st = some (cs, s) := by kernel_rfl) : AWp rd P B N L (.seq (.region id ops false) y) Q st :=
 awp_seq (awp_reg hT s _ he hc hi hQ)
theorem dg (hT : TOk P T) (hm : P.follows .mixedOrders = true) (s : St) (cs : List Prop) (x : RI) (frz : List Nat) (hc : All cs) (hQ : Q .normal s) (he : regD (FnC P) T ops N L (x.on frz s) (clO ops) st = some (cs, s) := by kernel_rfl) : AWp rd P B N L (.region id ops true) Q st :=
 awp_regD hT hm s _ _ he hc .refl hQ
theorem di (hT : TOk P T) (hm : P.follows .mixedOrders = true) (s : St) (cs : List Prop) (x : RI) (frz : List Nat) (hc : All cs) (hi : Imp B N L s st') (hQ : Q .normal st') (he : regD (FnC P) T ops N L (x.on frz s) (clO ops) st = some (cs, s) := by kernel_rfl) : AWp rd P B N L (.region id ops true) Q st :=
 awp_regD hT hm s _ _ he hc hi hQ
theorem sd (hT : TOk P T) (hm : P.follows .mixedOrders = true) (s : St) (cs : List Prop) (x : RI) (frz : List Nat) (hc : All cs) (hQ : AWp rd P B N L y Q s) (he : regD (FnC P) T ops N L (x.on frz s) (clO ops) st = some (cs, s) := by kernel_rfl) : AWp rd P B N L (.seq (.region id ops true) y) Q st :=
 awp_seq (awp_regD hT hm s _ _ he hc .refl hQ)
theorem fi (s : St) (cs : List Prop) (frz : List Nat) (hc : All cs) (he : finish L (finK frz s) (keysL s.slots) [] (rsOf st) = some (cs, s) := by kernel_rfl) : Imp B N L st s := Imp.fin _ _ he hc
theorem fz (s : St) (frz : List Nat) (he : finish L (finK frz s) (keysL s.slots) [] (rsOf st) = some ([], s) := by kernel_rfl) : Imp B N L st s := Imp.fin _ _ he trivial
def setA {α : Type} (t : Nat) (v : α) : List (Nat × α) → List (Nat × α)
 | [] => []
 | (k, x) :: l => bif Nat.beq k t then (k, v) :: l else (k, x) :: setA t v l
theorem setA_spec {α : Type} {t : Nat} {v : α} : ∀ {l : List (Nat × α)} {n : Nat} {x : α}, get (setA t v l) n = some x → (n = t ∧ x = v ∧ (get l t).isSome) ∨ get l n = some x
 | [], n, x, h => by simp [setA, get] at h
 | (k, y) :: l, n, x, h => by
  unfold setA at h
  cases e : Nat.beq k t with
  | true =>
   have := Nat.eq_of_beq_eq_true e
   subst this
   simp only [e, cond_true, get_cons] at h
   split at h
   ·rename_i hk; cases h; left; exact ⟨hk.symm, rfl, by simp [get_cons]⟩
   ·rename_i hk; right; rw [get_cons, if_neg hk]; exact h
  | false =>
   simp only [e, cond_false, get_cons] at h
   have hkt : k ≠ t := fun q => by subst q; simp at e
   split at h
   ·rename_i hk; right; rw [get_cons, if_pos hk]; exact h
   ·rename_i hk
    rcases setA_spec h with ⟨h1, h2, h3⟩ | h1
    ·left; exact ⟨h1, h2, by rw [get_cons, if_neg hkt]; exact h3⟩
    ·right; rw [get_cons, if_neg hk]; exact h1
theorem us (t : Nat) (y : TV) {x : TV} (he : get st.slots t = some x) (h : TLe x y) : Imp B N L st ⟨setA t y st.slots, st.heap⟩ := by
 intro a w hc
 obtain ⟨⟨ρ, F, hfr, hhi, hs, dn⟩, hid, sz⟩ := hc
 refine ⟨⟨ρ, F, hfr, hhi, fun t' tv ht => ?_, dn⟩, hid, sz⟩
 rcases setA_spec ht with ⟨rfl, rfl, _⟩ | h1
 ·obtain ⟨v, hv, hr⟩ := hs _ _ he
  exact ⟨v, hv, h _ _ _ _ hr⟩
 ·exact hs _ _ h1
theorem ct {c : Operand} {x : Code} {b : Bool} (hb : b = true) (h : AWp rd P B N L x Q st) (he : opdT st c = some (.v (.one (.d (.bool b)))) := by kernel_rfl) : AWp rd P B N L (.cond c x y) Q st :=
 awp_cond b he (fun _ => h) fun hn => absurd (hb.symm.trans hn) Bool.noConfusion
theorem cf {c : Operand} {x : Code} {b : Bool} (hb : b = false) (h : AWp rd P B N L y Q st) (he : opdT st c = some (.v (.one (.d (.bool b)))) := by kernel_rfl) : AWp rd P B N L (.cond c x y) Q st :=
 awp_cond b he (fun hn => absurd (hb.symm.trans hn) Bool.noConfusion) fun _ => h
theorem ck {c : Operand} {x : Code} (h : AWp rd P B N L x Q st) (he : opdT st c = some (.v (.one (.d (.bool true)))) := by kernel_rfl) : AWp rd P B N L (.cond c x y) Q st :=
 awp_cond true he (fun _ => h) fun hn => Bool.noConfusion hn
theorem cn {c : Operand} {x : Code} (h : AWp rd P B N L y Q st) (he : opdT st c = some (.v (.one (.d (.bool false)))) := by kernel_rfl) : AWp rd P B N L (.cond c x y) Q st :=
 awp_cond false he (fun hn => Bool.noConfusion hn) fun _ => h
theorem rq {rs : List ResultVar} {res : TV} (l : List SV) (h3 : TLe (resT l) res) (h1 : retL T st rs = some ([], l) := by kernel_rfl) (h4 : HpLe st.heap [] := by exact trivial) : RetQ T rs res [] .ret st := ⟨.inr rfl, ⟨[], l, h1, trivial, h3⟩, h4⟩
theorem rh {rs : List ResultVar} {res : TV} {hout : List (Nat × Option Ob)} (l : List SV) (h3 : TLe (resT l) res) (h4 : HpLe st.heap hout) (h1 : retL T st rs = some ([], l) := by kernel_rfl) : RetQ T rs res hout .ret st := ⟨.inr rfl, ⟨[], l, h1, trivial, h3⟩, h4⟩
theorem oi {α : Type} {a b : α} (h : some a = some b) : a = b := Option.some.inj h
def eqs {α : Type} (x : α) : Nat → List Prop → List Prop
 | 0, l => l
 | n + 1, l => (x = x) :: eqs x n l
theorem ae {α : Type} {x : α} {n : Nat} {l : List Prop} (h : All l) : All (eqs x n l) := by
 induction n with
 | zero => exact h
 | succ n ih => exact ⟨rfl, ih⟩
theorem rk {f : FuncId} {args : List SV} {hin hout : List (Nat × Option Ob)} {res : TV} (l : List (Nat × Nat)) (h : Fn P f args hin res hout) : Fn P f (args.map (SV.ren (swp l))) (renH (swp l) hin) (res.ren (swp l)) (renH (swp l) hout) :=
 Fn.renK l h rfl rfl rfl rfl
def cA {f : FuncId} {args : List SV} {hin hout : List (Nat × Option Ob)} {res : TV} (_ : Fn P f args hin res hout) (ids : List Nat) : Ann := .call ids res hout
def cR {f : FuncId} {args : List SV} {hin hout : List (Nat × Option Ob)} {res : TV} (_ : Fn P f args hin res hout) (ids : List Nat) : Ann := .callR ids res
theorem bifT {α : Type} {c : Bool} {x y : α} (h : c = true) : (bif c then x else y) = x := by rw [h]; rfl
theorem bifF {α : Type} {c : Bool} {x y : α} (h : c = false) : (bif c then x else y) = y := by rw [h]; rfl
end
theorem tR {l : List (Nat × TV)} {t : Nat} {x : TV} (h : get l t = some x := by rfl) : ∃ y, get l t = some y ∧ TLe y x := ⟨x, h, TLe.refl x⟩
theorem cW {b : Nat} {nn : Bool} {n m : Nat} (h : n = m := by simp only [List.length_set, List.length_append, List.length_cons, List.length_nil, List.length_replicate]) : CLe (.own b nn n) (.own b nn m) := CLe.of (congrArg (CV.own _ _) h)
theorem oW {E esz n m : Nat} {f : Nat → Nat → DV} (h : n = m := by simp only [List.length_set, List.length_append, List.length_cons, List.length_nil, List.length_replicate]) : OLe (some (.arr E esz n f)) (some (.arr E esz m f)) := OLe_len h
def aQ := @awp_seq
def aP := @awp_skip
def aR := @awp_ret
def aX := @awp_exit
def aI := @awp_imp
def aB := @awp_blockB
def aL := @awp_blockLoop
def aO := @asO_elim
def bE := @bind_elim
def bI := @bif_elim
def lN := @LQ_next
def lB := @LQ_brk
def lR := @LQ_ret
def fN := @fn_intro
def tL := @toNat_lt
end Sg
