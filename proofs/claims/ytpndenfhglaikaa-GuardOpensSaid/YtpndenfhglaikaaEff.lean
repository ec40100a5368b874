import Derived.Test.YtpndenfhglaikaaRep
set_option linter.all false
namespace Sg
open Go
abbrev Hp := Nat → Option (Option Ob)
def get {α : Type} : List (Nat × α) → Nat → Option α
  | [], _ => none
  | (k, v) :: l, n => bif Nat.beq k n then some v else get l n
theorem get_cons {α : Type} (k : Nat) (v : α) (l : List (Nat × α)) (n : Nat) : get ((k, v) :: l) n = if k = n then some v else get l n := by
  show (bif Nat.beq k n then some v else get l n) = _
  cases h : Nat.beq k n with
  | true => simp [Nat.eq_of_beq_eq_true h]
  | false => simp [Nat.ne_of_beq_eq_false h]
theorem get_nil {α : Type} (n : Nat) : get ([] : List (Nat × α)) n = none := rfl
structure TI where
  d : TypeDesc
  size : Nat
  bytes : Nat
  zero : List Value
  eq : Bool
def TI.agg (t : TI) : Bool := match t.d with | .struct _ | .array _ _ => true | _ => false
def TOk1 (P : Program) (t : TypeId) (ti : TI) : Prop :=
  P.underlying t = some ti.d ∧ ∃ i z, P.info? t = some i ∧ i.size = ti.size ∧ i.bytes = ti.bytes ∧ i.zero = some z ∧ z.cells.toList = ti.zero
def zshape : Bool → Value → Bool
  | true, .agg _ => true
  | false, .agg _ => false
  | false, .tuple _ => false
  | false, _ => true
  | _, _ => false
def ZOk (P : Program) (t : TypeId) (agg : Bool) : Prop := ∀ i z, P.info? t = some i → i.zero = some z → zshape agg z = true
def TOk (P : Program) : List (Nat × TI) → Prop
  | [] => True
  | (t, ti) :: l => TOk1 P t ti ∧ ((ti.eq = true → P.stoodInHeld t = false ∧ P.eqGuardType P.depth t = false) ∧ ZOk P t ti.agg) ∧ TOk P l
theorem TOk.getE {P : Program} : ∀ {T : List (Nat × TI)}, TOk P T → ∀ {t : Nat} {ti : TI}, get T t = some ti → ti.eq = true → P.stoodInHeld t = false ∧ P.eqGuardType P.depth t = false
  | [], _, _, _, h => by simp [Sg.get] at h
  | (k, v) :: l, ⟨_, h1, h2⟩, t, ti, h => by
    rw [get_cons] at h
    split at h
    · rename_i e; subst e; cases h; exact h1.1
    · exact TOk.getE h2 h
theorem TOk.getZ {P : Program} : ∀ {T : List (Nat × TI)}, TOk P T → ∀ {t : Nat} {ti : TI}, get T t = some ti → ZOk P t ti.agg
  | [], _, _, _, h => by simp [Sg.get] at h
  | (k, v) :: l, ⟨_, h1, h2⟩, t, ti, h => by
    rw [get_cons] at h
    split at h
    · rename_i e; subst e; cases h; exact h1.2
    · exact TOk.getZ h2 h
theorem TOk.get {P : Program} : ∀ {T : List (Nat × TI)}, TOk P T → ∀ {t : Nat} {ti : TI}, get T t = some ti → TOk1 P t ti
  | [], _, _, _, h => by simp [Sg.get] at h
  | (k, v) :: l, ⟨h1, _, h2⟩, t, ti, h => by
    rw [get_cons] at h
    split at h
    · rename_i e; subst e; cases h; exact h1
    · exact TOk.get h2 h
def cval : Value → Option DV
  | .int k n => some (.int k n)
  | .bool b => some (.bool b)
  | .string s => some (.str s)
  | .slice none 0 0 => some (.sl (some false) 0 0 fun _ _ => .nilp)
  | .pointer none => some .nilp
  | .nilFunc => some .nilf
  | .map none => some .nilm
  | _ => none
def cvals : List Value → Option (List DV)
  | [] => some []
  | v :: vs => match cval v, cvals vs with
    | some d, some ds => some (d :: ds)
    | _, _ => none
inductive Ann where
  | none
  | skip
  | frz (len : Nat) (el : Nat → Nat → DV)
  | take (c : Nat)
  | cells
  | rows (len : Nat) (el : Nat → Nat → EV)
  | look (ok : Bool) (cs : List CV)
  | map (len : Nat) (key : Nat → Nat → DV) (val : Nat → Nat → CV) (ms : List Nat)
  | call (ids : List Nat) (res : TV) (hout : List (Nat × Option Ob))
  | callR (ids : List Nat) (res : TV)
  | arr (len : Nat) (el : Nat → Nat → DV)
  | vals (ds : List DV)
structure Eff where
  conds : List Prop
  tv : TV
  hd : List (Nat × Option Ob)
def pureE (x : DV) : Option Eff := some ⟨[], .v (.one (.d x)), []⟩
def cellsOf : SV → List CV
  | .one c => [c]
  | .agg cs => cs
def asSV (agg : Bool) (cs : List CV) : Option SV :=
  match agg, cs with
  | true, cs => some (.agg cs)
  | false, [c] => some (.one c)
  | _, _ => none
def takeC (c : Nat → DV) : Nat → Nat → List CV
  | _, 0 => []
  | i, n + 1 => .d (c i) :: takeC c (i + 1) n
def takeV (c : Nat → CV) : Nat → Nat → List CV
  | _, 0 => []
  | i, n + 1 => c i :: takeV c (i + 1) n
def takeDV (c : Nat → DV) : Nat → Nat → List DV
  | _, 0 => []
  | i, n + 1 => c i :: takeDV c (i + 1) n
def allD : List CV → Option (List DV)
  | [] => some []
  | .d x :: cs => match allD cs with | some ds => some (x :: ds) | none => none
  | _ :: _ => none
def foot (an : Ann) (fresh : Nat) : Op → List TV → List Nat
  | .alloc _, _ | .box _ _, _ | .buildSlice _ _ _, _ | .makeSlice _ _ _, _ | .makeMap _ _, _ => [fresh]
  | .load _ _, [.v (.one (.ptr b _))] => [b]
  | .load _ _, [.v (.one (.opt b _ _ _))] => match an with | .take c => [b, c] | _ => [b]
  | .store _ _ _, .v (.one (.ptr b _)) :: _ => [b]
  | .store _ _ _, [.v (.one (.opt b _ _ _)), x] => match an, x with | .rows _ _, .v (.one (.own c _ _)) => [b, c] | _, _ => [b]
  | .lookup _ _ _ _, .v (.one (.mp b)) :: _ => [b]
  | .mapUpdate _ _ _ _, .v (.one (.mp b)) :: _ | .insert _ _ _ _, .v (.one (.mp b)) :: _ => [b]
  | .slice _ _ _ _ _, .v (.one (.own b _ _)) :: _ => [b, fresh]
  | .slice _ _ _ _ _, .v (.one (.ptr b _)) :: _ => [b]
  | .call { callee := .builtin .append, .. }, [.v (.one (.own b _ _)), .v (.one (.own b' _ _))] => [fresh, b, b']
  | .call { callee := .builtin .append, .. }, [.v (.one (.d _)), .v (.one (.own b' _ _))] => [fresh, b']
  | .call { callee := .builtin .append, .. }, .v (.one (.own b _ _)) :: _ => [fresh, b]
  | .call { callee := .builtin .append, .. }, _ => [fresh]
  | .call { callee := .value _, .. }, _ => match an with | .call ids _ hout => ids ++ hout.map (·.1) | .callR ids _ => ids | _ => []
  | _, _ => []
def intCmpE (op : BinOp) (a b : Int) : Option Bool :=
  match op with
  | .eql => some (decide (a = b))
  | .neq => some (!decide (a = b))
  | .lss => some (decide (a < b))
  | .leq => some (decide (a ≤ b))
  | .gtr => some (decide (b < a))
  | .geq => some (decide (b ≤ a))
  | _ => none
def binE (op : BinOp) (x y : DV) : Option Eff :=
  match x, y with
  | .int k a, .int k' b =>
    match op with
    | .shl => some ⟨[0 ≤ b], .v (.one (.d (.int k (k.wrap (a * 2 ^ min b.toNat k.bits))))), []⟩
    | .shr => some ⟨[0 ≤ b], .v (.one (.d (.int k (a.fdiv (2 ^ min b.toNat k.bits))))), []⟩
    | _ =>
      bif decide (k = k') then
        match op with
        | .add => pureE (.int k (k.wrap (a + b)))
        | .sub => pureE (.int k (k.wrap (a - b)))
        | .mul => pureE (.int k (k.wrap (a * b)))
        | .quo => some ⟨[b ≠ 0], .v (.one (.d (.int k (k.wrap (a.tdiv b))))), []⟩
        | .rem => some ⟨[b ≠ 0], .v (.one (.d (.int k (a.tmod b)))), []⟩
        | .and => pureE (.int k (k.wrap (BitVec.ofInt k.bits a &&& BitVec.ofInt k.bits b).toNat))
        | .or => pureE (.int k (k.wrap (BitVec.ofInt k.bits a ||| BitVec.ofInt k.bits b).toNat))
        | .xor => pureE (.int k (k.wrap (BitVec.ofInt k.bits a ^^^ BitVec.ofInt k.bits b).toNat))
        | _ => match intCmpE op a b with | some r => pureE (.bool r) | none => none
      else none
  | .bool a, .bool b =>
    match op with
    | .eql => pureE (.bool (a == b))
    | .neq => pureE (.bool (!(a == b)))
    | _ => none
  | _, _ => none
def unE (op : UnOp) (x : DV) : Option Eff :=
  match op, x with
  | .not, .bool b => pureE (.bool (!b))
  | .neg, .int k n => pureE (.int k (k.wrap (0 - n)))
  | _, _ => none
def fillL (place : Nat → Option (Nat × Nat)) (cells : List CV) : List (Nat × List CV) → Option (List CV)
  | [] => some cells
  | (i, v) :: rest =>
    match place i with
    | none => none
    | some (off, size) =>
      bif decide (v.length = size) && Nat.ble (off + v.length) cells.length then fillL place (cells.take off ++ v ++ cells.drop (off + v.length)) rest else none
def zipParts : List (Nat × Operand) → List TV → Option (List (Nat × List CV))
  | [], [] => some []
  | (i, _) :: ps, .v s :: xs => match zipParts ps xs with | some l => some ((i, cellsOf s) :: l) | none => none
  | _, _ => none
def fieldPl (T : List (Nat × TI)) (fs : Array Field) (i : Nat) : Option (Nat × Nat) :=
  match fs.toList[i]? with
  | some f => match get T f.type with | some t => some (f.offset, t.size) | none => none
  | none => none
def placesL (T : List (Nat × TI)) : List Field → Option (List (Nat × Nat))
  | [] => some []
  | f :: fs => match get T f.type, placesL T fs with
    | some t, some l => some ((f.offset, t.size) :: l)
    | _, _ => none
def repC (z : List DV) : Nat → List CV
  | 0 => []
  | n + 1 => z.map .d ++ repC z n
def elL (esz : Nat) (cs : List DV) (i j : Nat) : DV := cs.getD (i * esz + j) .nilp
def stEls (el : Nat → Nat → DV) (i off : Nat) (ds : List DV) : Nat → Nat → DV := fun i' j' => if i' = i ∧ off ≤ j' ∧ j' < off + ds.length then ds.getD (j' - off) .nilp else el i' j'
def apEl (el : Nat → Nat → DV) (len : Nat) (el' : Nat → Nat → DV) : Nat → Nat → DV := fun i j => if i < len then el i j else el' (i - len) j
def ArrEq (len esz : Nat) (f g : Nat → Nat → DV) : Prop := ∀ i, i < len → ∀ j, j < esz → f i j = g i j
def svArgs : List TV → Option (List SV)
  | [] => some []
  | .v s :: xs => match svArgs xs with | some l => some (s :: l) | none => none
  | _ => none
def CV.ment : CV → List Nat
  | .d _ => []
  | .ptr b _ | .opt b _ _ _ | .own b _ _ | .mp b | .yl b => [b]
  | .fn _ _ n cap => (List.range n).flatMap fun j => (cap j).ment
def SV.ment : SV → List Nat
  | .one c => c.ment
  | .agg cs => cs.flatMap CV.ment
def TV.ment : TV → List Nat
  | .v s => s.ment
  | .tup l => l.flatMap SV.ment
def Ob.ment : Ob → List Nat
  | .cells _ cs => cs.flatMap CV.ment
  | .rows _ _ _ _ (some (_, _, c)) => c.ment
  | .map m => m.ms
  | .loop _ _ sl => sl.flatMap fun p => p.2.ment
  | _ => []
def memL (x : Nat) : List Nat → Bool
  | [] => false
  | y :: l => bif Nat.beq x y then true else memL x l
def subL : List Nat → List Nat → Bool
  | [], _ => true
  | x :: l, m => bif memL x m then subL l m else false
theorem memL_iff {x : Nat} : ∀ {l : List Nat}, memL x l = true ↔ x ∈ l
  | [] => by simp [memL]
  | y :: l => by
    simp only [memL, List.mem_cons]
    cases h : Nat.beq x y with
    | true => simp [Nat.eq_of_beq_eq_true h]
    | false => simp [Nat.ne_of_beq_eq_false h, memL_iff]
theorem subL_iff {m : List Nat} : ∀ {l : List Nat}, subL l m = true ↔ ∀ x ∈ l, x ∈ m
  | [] => by simp [subL]
  | y :: l => by
    simp only [subL, List.mem_cons, forall_eq_or_imp]
    cases h : memL y m with
    | true => simp [subL_iff, memL_iff.1 h]
    | false =>
      have : y ∉ m := fun e => by rw [memL_iff.2 e] at h; cases h
      simp [this]
def obsMent : List (Option (Option Ob)) → List Nat
  | [] => []
  | some (some o) :: l => o.ment ++ obsMent l
  | _ :: l => obsMent l
def zipObs : List Nat → List (Option (Option Ob)) → Option (List (Nat × Option Ob))
  | [], _ => some []
  | i :: is, some (some o) :: os => match zipObs is os with | some l => some ((i, some o) :: l) | none => none
  | _, _ => none
def freshOk (ids : List Nat) : List Nat → List (Option (Option Ob)) → Bool
  | [], _ => true
  | k :: ks, o :: os => (bif memL k ids then true else (match o with | none => true | _ => false)) && freshOk ids ks os
  | _, _ => false
inductive Cl where
  | fn (f : FuncId)
  | yl (b : Nat)
def Cl.ids : Cl → List Nat
  | .fn _ => []
  | .yl b => [b]
section
variable (P : Program) (Fn : Cl → List SV → List (Nat × Option Ob) → TV → List (Nat × Option Ob) → Prop) (T : List (Nat × TI))
def effCall (an : Ann) (f : Cl) (xs : List TV) (obs : List (Option (Option Ob))) : Option Eff :=
  match an with
  | .call ids res hout =>
    match svArgs xs, zipObs ids obs with
    | some args, some hin =>
      bif subL f.ids ids && (subL (args.flatMap SV.ment) ids && subL (obsMent (obs.take ids.length)) ids && freshOk ids (hout.map (·.1)) (obs.drop ids.length)) then
        some ⟨[Fn f args hin res hout], res, hout ++ ids.map (fun i => (i, none))⟩
      else none
    | _, _ => none
  | .callR ids res =>
    match f with
    | .yl _ => none
    | .fn g =>
      match svArgs xs, zipObs ids obs with
      | some args, some hin => bif subL (args.flatMap SV.ment) ids && subL (obsMent (obs.take ids.length)) ids then some ⟨[Fn (.fn g) args hin res hin], res, []⟩ else none
      | _, _ => none
  | _ => none
def ovAway (off size : Nat) : Option (Nat × Nat × CV) → Bool
  | none => true
  | some (_, j, _) => Nat.blt j off || Nat.ble (off + size) j
def takeE (c : Nat → EV) : Nat → Nat → Option (List DV)
  | _, 0 => some []
  | i, n + 1 => match c i, takeE c (i + 1) n with | .d x, some l => some (x :: l) | _, _ => none
def effLoad (ti : TI) (a : TV) (obs : List (Option (Option Ob))) : Option Eff :=
  match a, obs with
  | .v (.one (.d (.ip n c))), [] =>
    bif Nat.ble ti.size n then (match asSV ti.agg (takeC c 0 ti.size) with | some s => some ⟨[], .v s, []⟩ | none => none) else none
  | .v (.one (.ptr _ off)), [some (some (.cells _ cs))] =>
    bif Nat.ble (off + ti.size) cs.length then (match asSV ti.agg ((cs.drop off).take ti.size) with | some s => some ⟨[], .v s, []⟩ | none => none) else none
  | .v (.one (.opt _ esz i off)), [some (some (.arr _ esz' len el))] =>
    bif Nat.beq esz esz' && Nat.ble (off + ti.size) esz then
      (match asSV ti.agg (takeC (el i) off ti.size) with | some s => some ⟨[i < len], .v s, []⟩ | none => none) else none
  | .v (.one (.opt _ esz i off)), [some (some (.cells _ cs))] =>
    bif Nat.ble (i * esz + off + ti.size) cs.length then (match asSV ti.agg ((cs.drop (i * esz + off)).take ti.size) with | some s => some ⟨[], .v s, []⟩ | none => none) else none
  | .v (.one (.ptr _ off)), [some (some (.fcells _ ds))] =>
    bif Nat.ble (off + ti.size) ds.length then (match asSV ti.agg (((ds.drop off).take ti.size).map .d) with | some s => some ⟨[], .v s, []⟩ | none => none) else none
  | .v (.one (.opt _ esz i off)), [some (some (.rows _ esz' len el ov))] =>
    bif Nat.beq esz esz' && Nat.ble (off + ti.size) esz && ovAway off ti.size ov then
      (match takeE (el i) off ti.size with
        | some ds => (match asSV ti.agg (ds.map .d) with | some s => some ⟨[i < len], .v s, []⟩ | none => none)
        | none => none) else none
  | _, _ => none
def effTake (c : Nat) (ti : TI) (a : TV) (obs : List (Option (Option Ob))) : Option Eff :=
  match a, obs with
  | .v (.one (.opt b esz i off)), [some (some (.rows E esz' len el none)), none] =>
    bif Nat.beq esz esz' && Nat.beq ti.size 1 && !ti.agg && Nat.blt off esz then
      match el i off with
      | .row E' esz1 n el1 => some ⟨[i < len], .v (.one (.own c false n)), [(b, some (.rows E esz len el (some (i, off, .own c false n)))), (c, some (.arr E' esz1 n el1))]⟩
      | _ => none
    else none
  | _, _ => none
def stV (el : Nat → Nat → EV) (i off : Nat) (x : EV) : Nat → Nat → EV := fun i' j' => if i' = i ∧ j' = off then x else el i' j'
def EvEq (len esz : Nat) (f g : Nat → Nat → EV) : Prop := ∀ i, i < len → ∀ j, j < esz → f i j = g i j
def effPut (el' : Nat → Nat → EV) (ti : TI) (a x : TV) (obs : List (Option (Option Ob))) : Option Eff :=
  match a, x, obs with
  | .v (.one (.opt b esz i off)), .v (.one (.own c _ n)), [some (some (.rows E esz' len el ov)), some (some (.arr E1 esz1 n1 el1))] =>
    bif Nat.beq esz esz' && Nat.beq ti.size 1 && Nat.blt off esz && !(Nat.beq b c) then
      some ⟨[i < len, n = n1, EvEq len esz (stV el i off (.row E1 esz1 n1 el1)) el', ∀ i0 j0 c0, ov = some (i0, j0, c0) → i0 = i ∧ j0 = off], .tup [], [(b, some (.rows E esz len el' none)), (c, none)]⟩ else none
  | _, _, _ => none
def effStore (an : Ann) (ti : TI) (a x : TV) (obs : List (Option (Option Ob))) : Option Eff :=
  match a, x, obs with
  | .v (.one (.ptr b off)), .v s, [some (some (.cells E cs))] =>
    bif Nat.beq (cellsOf s).length ti.size && Nat.ble (off + ti.size) cs.length then
      some ⟨[], .tup [], [(b, some (.cells E (cs.take off ++ cellsOf s ++ cs.drop (off + ti.size))))]⟩ else none
  | .v (.one (.opt b esz i off)), .v s, [some (some (.cells E cs))] =>
    bif Nat.beq (cellsOf s).length ti.size && Nat.ble (i * esz + off + ti.size) cs.length then
      some ⟨[], .tup [], [(b, some (.cells E (cs.take (i * esz + off) ++ cellsOf s ++ cs.drop (i * esz + off + ti.size))))]⟩ else none
  | .v (.one (.opt b esz i off)), .v s, [some (some (.arr E esz' len el))] =>
    match an, allD (cellsOf s) with
    | .arr _ el', some ds =>
      bif Nat.beq esz esz' && Nat.ble (off + ds.length) esz && Nat.beq ds.length ti.size && Nat.ble 1 ti.size then
        some ⟨[i < len, ArrEq len esz (stEls el i off ds) el'], .tup [], [(b, some (.arr E esz len el'))]⟩ else none
    | _, _ => none
  | _, _, _ => none
def effLoadV (ti : TI) (ds : List DV) (a : TV) (obs : List (Option (Option Ob))) : Option Eff :=
  match a, obs with
  | .v (.one (.d (.ip n c))), [] =>
    bif Nat.ble ti.size n && Nat.beq ds.length ti.size then (match asSV ti.agg (ds.map .d) with | some s => some ⟨[ArrEq 1 ti.size (fun _ j => c j) (fun _ j => ds.getD j .nilp)], .v s, []⟩ | none => none) else none
  | .v (.one (.ptr _ off)), [some (some (.cells _ cs))] =>
    match asSV ti.agg (ds.map .d) with
    | some s => some ⟨[off + ti.size ≤ cs.length, (cs.drop off).take ti.size = ds.map .d], .v s, []⟩
    | none => none
  | _, _ => none
def effStoreV (ti : TI) (ds : List DV) (a x : TV) (obs : List (Option (Option Ob))) : Option Eff :=
  match a, x, obs with
  | .v (.one (.ptr b off)), .v s, [some (some (.cells E cs))] =>
    bif Nat.beq (cellsOf s).length ti.size then
      some ⟨[off + ti.size ≤ cs.length, cs.take off ++ cellsOf s ++ cs.drop (off + ti.size) = ds.map .d], .tup [], [(b, some (.cells E (ds.map .d)))]⟩ else none
  | _, _, _ => none
def effIndexV (ds : List DV) (d : TypeDesc) (x ix : TV) : Option Eff :=
  match d, x, ix with
  | .array n e, .v (.agg cs), .v (.one (.d (.int _ i))) =>
    match get T e with
    | some te => match asSV te.agg (ds.map .d) with
      | some s => some ⟨[0 ≤ i ∧ i < n, i.toNat * te.size + te.size ≤ cs.length, (cs.drop (i.toNat * te.size)).take te.size = ds.map .d], .v s, []⟩
      | none => none
    | none => none
  | _, _, _ => none
def srcOf : TV → List (Option (Option Ob)) → Option (Nat × Nat × (Nat → Nat → DV))
  | .v (.one (.d (.sl _ esz len el))), _ => some (esz, len, el)
  | .v (.one (.own _ _ n)), some (some (.arr _ esz len el)) :: _ => bif Nat.beq n len then some (esz, len, el) else none
  | _, _ => none
def EvOk (x : DV) : EV → Prop
  | .d y => x = y
  | .row _ _ n _ => n = 0 ∧ ∃ e l f, x = .sl (some false) e l f
def RowsApp (len lenx esz : Nat) (el : Nat → Nat → EV) (elx : Nat → Nat → DV) (el' : Nat → Nat → EV) : Prop :=
  (∀ i, i < len → ∀ j, j < esz → el' i j = el i j) ∧ ∀ i, i < lenx → ∀ j, j < esz → EvOk (elx i j) (el' (len + i) j)
def effAppOwn (fresh : Nat) (an : Ann) (E : TypeId) (ti : TI) (b n : Nat) (ob : Ob) (eszx lenx : Nat) (elx : Nat → Nat → DV) : Option Eff :=
  match ob with
  | .arr E' esz len el =>
    match an with
    | .arr len' el' =>
      bif Nat.beq E E' && Nat.beq esz ti.size && Nat.beq eszx esz && Nat.ble 1 esz && Nat.beq ti.zero.length ti.size then
        some ⟨[n = len, (len + lenx) * ti.bytes ≤ 140737488355328, len + lenx ≤ 4611686018427387904, len' = len + lenx, ArrEq (len + lenx) esz (apEl el len elx) el'], .v (.one (.own fresh false len')), [(fresh, some (.arr E esz len' el')), (b, none)]⟩
      else none
    | _ => none
  | .rows E' esz len el none =>
    match an with
    | .rows len' el' =>
      bif Nat.beq E E' && Nat.beq esz ti.size && Nat.beq eszx esz && Nat.ble 1 esz && Nat.beq ti.zero.length ti.size then
        some ⟨[n = len, (len + lenx) * ti.bytes ≤ 140737488355328, len + lenx ≤ 4611686018427387904, len' = len + lenx, RowsApp len lenx esz el elx el'], .v (.one (.own fresh false len')), [(fresh, some (.rows E esz len' el' none)), (b, none)]⟩
      else none
    | _ => none
  | _ => none
def effAppNil (fresh : Nat) (an : Ann) (E : TypeId) (ti : TI) (eszx lenx : Nat) (elx : Nat → Nat → DV) : Option Eff :=
  match an with
  | .arr len' el' =>
    bif Nat.beq eszx ti.size && Nat.ble 1 ti.size && Nat.beq ti.zero.length ti.size then
      some ⟨[lenx * ti.bytes ≤ 140737488355328, lenx ≤ 4611686018427387904, len' = lenx, ArrEq lenx ti.size elx el'], .v (.one (.own fresh false len')), [(fresh, some (.arr E ti.size len' el'))]⟩
    else none
  | _ => none
def effAppend (fresh : Nat) (an : Ann) (E : TypeId) (ti : TI) (s x : TV) (obs : List (Option (Option Ob))) : Option Eff :=
  match s with
  | .v (.one (.own b _ n)) =>
    match obs with
    | none :: some (some ob) :: rest => match srcOf x rest with
      | some (eszx, lenx, elx) => effAppOwn fresh an E ti b n ob eszx lenx elx
      | none => none
    | _ => none
  | .v (.one (.d (.sl (some false) _ _ _))) =>
    match obs with
    | none :: rest => match srcOf x rest with
      | some (eszx, lenx, elx) => effAppNil fresh an E ti eszx lenx elx
      | none => none
    | _ => none
  | _ => none
def effIndexAddr (d : TypeDesc) (x ix : TV) : Option Eff :=
  match d, ix with
  | .slice e, .v (.one (.d (.int _ i))) =>
    match get T e with
    | some te =>
      match x with
      | .v (.one (.d (.sl _ esz len el))) => bif Nat.beq esz te.size then some ⟨[0 ≤ i ∧ i < len], .v (.one (.d (.ip esz (el i.toNat)))), []⟩ else none
      | .v (.one (.own b _ len)) => some ⟨[0 ≤ i ∧ i < len], .v (.one (.opt b te.size i.toNat 0)), []⟩
      | _ => none
    | none => none
  | .array n e, .v (.one (.d (.int _ i))) =>
    match get T e with
    | some te =>
      match x with
      | .v (.one (.d (.ip m c))) => bif Nat.ble (n * te.size) m then some ⟨[0 ≤ i ∧ i < n], .v (.one (.d (.ip te.size fun j => c (i.toNat * te.size + j)))), []⟩ else none
      | .v (.one (.ptr b off)) => some ⟨[0 ≤ i ∧ i < n], .v (.one (.ptr b (off + i.toNat * te.size))), []⟩
      | .v (.one (.opt b e q p)) => some ⟨[0 ≤ i ∧ i < n], .v (.one (.opt b e q (p + i.toNat * te.size))), []⟩
      | _ => none
    | none => none
  | _, _ => none
def effField (d : TypeDesc) (a : TV) (f : Nat) : Option Eff :=
  match d with
  | .struct fs =>
    match fieldPl T fs f with
    | some (off, size) =>
      bif Nat.ble 1 size then
        match a with
        | .v (.one (.d (.ip n c))) => bif Nat.ble (off + size) n then some ⟨[], .v (.one (.d (.ip (n - off) fun j => c (off + j)))), []⟩ else none
        | .v (.one (.ptr b o)) => some ⟨[], .v (.one (.ptr b (o + off))), []⟩
        | .v (.one (.opt b e i o)) => some ⟨[], .v (.one (.opt b e i (o + off))), []⟩
        | _ => none
      else none
    | none => none
  | _ => none
def effPart (d : TypeDesc) (x : TV) (f : Nat) : Option Eff :=
  match d, x with
  | .struct fs, .v (.agg cs) =>
    match fs.toList[f]? with
    | some fd =>
      match get T fd.type with
      | some t => bif Nat.ble (fd.offset + t.size) cs.length then (match asSV t.agg ((cs.drop fd.offset).take t.size) with | some s => some ⟨[], .v s, []⟩ | none => none) else none
      | none => none
    | none => none
  | _, _ => none
def effBuild (ti : TI) (parts : List (Nat × Operand)) (xs : List TV) : Option Eff :=
  match cvals ti.zero, zipParts parts xs with
  | some z, some ps =>
    match ti.d with
    | .struct fs => (match placesL T fs.toList with
      | some pl => (match fillL (fun i => pl[i]?) (z.map .d) ps with | some cs => some ⟨[], .v (.agg cs), []⟩ | none => none)
      | none => none)
    | .array _ e => (match get T e with
      | some te => (match fillL (fun i => some (i * te.size, te.size)) (z.map .d) ps with | some cs => some ⟨[], .v (.agg cs), []⟩ | none => none)
      | none => none)
    | _ => none
  | _, _ => none
def effBuildSlice (fresh : Nat) (an : Ann) (d : TypeDesc) (len : Nat) (parts : List (Nat × Operand)) (xs : List TV) (obs : List (Option (Option Ob))) : Option Eff :=
  match d, obs, zipParts parts xs with
  | .slice e, [none], some ps =>
    match get T e with
    | some te =>
      match cvals te.zero with
      | some z =>
        bif Nat.ble (len * te.size) 1000 && Nat.beq te.zero.length te.size && Nat.ble 1 te.size then
          match fillL (fun i => some (i * te.size, te.size)) (repC z len) ps with
          | some cs => match an with
           | .cells => some ⟨[], .v (.one (.own fresh true len)), [(fresh, some (.cells e cs))]⟩
           | _ => match allD cs with
            | some ds => match an with
              | .arr len' el' => some ⟨[len' = len, ArrEq len te.size (elL te.size ds) el'], .v (.one (.own fresh true len')), [(fresh, some (.arr e te.size len' el'))]⟩
              | .frz len' el' => some ⟨[len' = len, ArrEq len te.size (elL te.size ds) el'], .v (.one (.d (.sl (some true) te.size len' el'))), []⟩
              | _ => some ⟨[], .v (.one (.own fresh true len)), [(fresh, some (.arr e te.size len (elL te.size ds)))]⟩
            | none => none
          | none => none
        else none
      | none => none
    | none => none
  | _, _, _ => none
def effMake (fresh : Nat) (an : Ann) (d : TypeDesc) (l c : TV) (obs : List (Option (Option Ob))) : Option Eff :=
  match d, l, c, obs with
  | .slice e, .v (.one (.d (.int _ l))), .v (.one (.d (.int _ c))), [none] =>
    match get T e with
    | some te =>
      match cvals te.zero with
      | some z => bif Nat.beq te.zero.length te.size && Nat.ble 1 te.size then
          match an with
          | .arr len' el' => some ⟨[0 ≤ l, l = c, te.bytes * l ≤ 281474976710656, l ≤ 9223372036854775807, len' = l.toNat, ArrEq l.toNat te.size (fun _ j => z.getD j .nilp) el'], .v (.one (.own fresh true len')), [(fresh, some (.arr e te.size len' el'))]⟩
          | _ => some ⟨[0 ≤ l, l = c, te.bytes * l ≤ 281474976710656, l ≤ 9223372036854775807], .v (.one (.own fresh true l.toNat)), [(fresh, some (.arr e te.size l.toNat fun _ j => z.getD j .nilp))]⟩
        else none
      | none => none
    | none => none
  | _, _, _, _ => none
def effLen (d : TypeDesc) (x : TV) : Option Eff :=
  match d, x with
  | .slice _, .v (.one (.d (.sl _ _ len _))) => pureE (.int .i64 len)
  | .slice _, .v (.one (.own _ _ len)) => pureE (.int .i64 len)
  | .string, .v (.one (.d (.str s))) => pureE (.int .i64 s.size)
  | .array n _, _ => pureE (.int .i64 n)
  | _, _ => none
def effBuiltin (fresh : Nat) (an : Ann) (b : Builtin) (argTypes : Array TypeId) (xs : List TV) (obs : List (Option (Option Ob))) : Option Eff :=
  match b, argTypes.toList, xs with
  | .len, [t], [x] => match get T t, obs with | some ti, [] => effLen ti.d x | _, _ => none
  | .append, [t, t'], [s, x] =>
    match get T t, get T t' with
    | some ti, some ti' => match ti.d, ti'.d with
      | .slice e, .slice _ => match get T e with | some te => bif Nat.beq t t' then effAppend fresh an e te s x obs else none | none => none
      | _, _ => none
    | _, _ => none
  | .max, _, [.v (.one (.d (.int k a))), .v (.one (.d (.int _ b)))] => match obs with | [] => pureE (.int k (if a < b then b else a)) | _ => none
  | _, _, _ => none
def eqC : DV → DV → Option Bool
  | .int k a, .int k' b => bif decide (k = k') then some (decide (a = b)) else none
  | .bool a, .bool b => some (a == b)
  | _, _ => none
def eqCs : List DV → List DV → Option Bool
  | [], [] => some true
  | x :: xs, y :: ys => match eqC x y, eqCs xs ys with
    | some a, some b => some (a && b)
    | _, _ => none
  | _, _ => none
def flatK : Nat → TypeId → Option (List (Option IntKind))
  | 0, _ => none
  | d + 1, t => match get T t with
    | some ti => match ti.d with
      | .int k => bif Nat.beq ti.size 1 then some [some k] else none
      | .bool => bif Nat.beq ti.size 1 then some [none] else none
      | .struct fs => bif ti.eq then (match flatFs (flatK d) 0 fs.toList with | some l => bif Nat.beq l.length ti.size then some l else none | none => none) else none
      | .array n e => match flatK d e, get T e with
        | some l, some te => bif Nat.beq l.length te.size && Nat.beq (List.replicate n l).flatten.length ti.size then some ((List.replicate n l).flatten) else none
        | _, _ => none
      | _ => none
    | none => none
  where
  flatFs (g : TypeId → Option (List (Option IntKind))) : Nat → List Field → Option (List (Option IntKind))
    | _, [] => some []
    | off, f :: fs => match g f.type, get T f.type with
      | some l, some tf => bif Nat.beq f.offset off && Nat.beq l.length tf.size && !(f.name == "_") then
          (match flatFs g (off + l.length) fs with | some m => some (l ++ m) | none => none)
        else none
      | _, _ => none
def kindsOk : List (Option IntKind) → List DV → Bool
  | [], [] => true
  | some k :: ks, .int k' _ :: ds => decide (k = k') && kindsOk ks ds
  | none :: ks, .bool _ :: ds => kindsOk ks ds
  | _, _ => false
def effEqAgg (op : BinOp) (t : TypeId) (xs ys : List CV) : Option Eff :=
  match flatK T 8 t, allD xs, allD ys with
  | some ks, some ds, some es =>
    bif kindsOk ks ds && kindsOk ks es then
      match op, eqCs ds es with
      | .eql, some b => pureE (.bool b)
      | .neq, some b => pureE (.bool (!b))
      | _, _ => none
    else none
  | _, _, _ => none
def effNil (op : BinOp) (d : TypeDesc) (x y : DV) : Option Eff :=
  match op, d, x, y with
  | .eql, .slice _, .sl (some n) _ _ _, .sl (some false) _ 0 _ => pureE (.bool (!n))
  | .neq, .slice _, .sl (some n) _ _ _, .sl (some false) _ 0 _ => pureE (.bool n)
  | _, _, _, _ => none
def boolOk (t : TypeId) : DV → Bool
  | .bool _ => match get T t with
    | some ti => match ti.d with | .bool => true | _ => false
    | none => false
  | _ => true
def isOne : SV → Bool
  | .one _ => true
  | _ => false
def capF (l : List DV) (j : Nat) : DV := l.getD j .nilp
structure LookAt (ks : List (Option IntKind)) (ksz vsz len : Nat) (key : Nat → Nat → DV) (val : Nat → Nat → CV) (kd : List DV) (zero : List CV) (ok : Bool) (cs : List CV) : Prop where
  kinds : ∀ i, i < len → kindsOk ks (takeDV (key i) 0 ksz) = true
  res : (ok = true ∧ ∃ i, i < len ∧ eqCs kd (takeDV (key i) 0 ksz) = some true ∧ (∀ i', i' < i → eqCs kd (takeDV (key i') 0 ksz) = some false) ∧ cs = takeV (val i) 0 vsz) ∨
    (ok = false ∧ (∀ i, i < len → eqCs kd (takeDV (key i) 0 ksz) = some false) ∧ cs = zero)
structure SetAt (ks : List (Option IntKind)) (ksz vsz len : Nat) (key : Nat → Nat → DV) (val : Nat → Nat → CV) (kd : List DV) (vd : List CV) (ms : List Nat) (len' : Nat) (key' : Nat → Nat → DV) (val' : Nat → Nat → CV) : Prop where
  kinds : ∀ i, i < len → kindsOk ks (takeDV (key i) 0 ksz) = true
  ment : ∀ i, i < len' → ∀ j, j < vsz → ∀ x ∈ (val' i j).ment, x ∈ ms
  res : ∃ i, (∀ i', i' < i → eqCs kd (takeDV (key i') 0 ksz) = some false) ∧ ((i < len ∧ eqCs kd (takeDV (key i) 0 ksz) = some true ∧ len' = len) ∨ (i = len ∧ len' = len + 1)) ∧
    takeDV (key' i) 0 ksz = kd ∧ takeV (val' i) 0 vsz = vd ∧ ∀ i', i' < len → i' ≠ i → takeDV (key' i') 0 ksz = takeDV (key i') 0 ksz ∧ takeV (val' i') 0 vsz = takeV (val i') 0 vsz
def effMakeMap (fresh : Nat) (an : Ann) (d : TypeDesc) (obs : List (Option (Option Ob))) : Option Eff :=
  match d, obs with
  | .map K V, [none] =>
    match get T K, get T V with
    | some tk, some tv => match an with
      | .map _ key val ms => some ⟨[], .v (.one (.mp fresh)), [(fresh, some (.map ⟨K, V, tk.agg, tv.agg, tk.size, tv.size, 0, key, val, ms⟩))]⟩
      | _ => some ⟨[], .v (.one (.mp fresh)), [(fresh, some (.map ⟨K, V, tk.agg, tv.agg, tk.size, tv.size, 0, fun _ _ => .nilp, fun _ _ => .d .nilp, []⟩))]⟩
    | _, _ => none
  | _, _ => none
def isAggS : SV → Bool
  | .agg _ => true
  | .one _ => false
def mapOf : TV → List (Option (Option Ob)) → Option (Nat × MapO)
  | .v (.one (.mp b)), [some (some (.map m))] => some (b, m)
  | _, _ => none
def keyKind (T : List (Nat × TI)) (d : TypeDesc) : Bool :=
  match d with
  | .int _ | .bool => true
  | .array _ e => match get T e with | some te => (match te.d with | .int _ | .bool => true | _ => false) | none => false
  | _ => false
def keyOf (K V : TypeId) (m : MapO) (k : TV) : Option (TI × TI × List (Option IntKind) × List DV) :=
  match k with
  | .v ks =>
    match get T K, get T V, flatK T 8 K, allD (cellsOf ks) with
    | some tk, some tv, some kk, some kd =>
      bif Nat.beq K m.K && Nat.beq V m.V && (m.kagg == tk.agg) && (m.vagg == tv.agg) && Nat.beq m.ksz tk.size && Nat.beq m.vsz tv.size && kindsOk kk kd && (isAggS ks == tk.agg) && keyKind T tk.d then some (tk, tv, kk, kd) else none
    | _, _, _, _ => none
  | _ => none
def effLookup (an : Ann) (d : TypeDesc) (x k : TV) (commaOk : Bool) (obs : List (Option (Option Ob))) : Option Eff :=
  match d with
  | .map K V =>
    match mapOf x obs with
    | some (_, m) =>
      match keyOf T K V m k with
      | some (_, tv, kk, kd) =>
        match an with
        | .look ok cs =>
          match cvals tv.zero, asSV tv.agg cs with
          | some z, some s => some ⟨[LookAt kk m.ksz m.vsz m.len m.key m.val kd (z.map .d) ok cs], bif commaOk then .tup [s, .one (.d (.bool ok))] else .v s, []⟩
          | _, _ => none
        | _ => none
      | none => none
    | none => none
  | _ => none
def effMapUpdate (an : Ann) (d : TypeDesc) (x k v : TV) (obs : List (Option (Option Ob))) : Option Eff :=
  match d with
  | .map K V =>
    match mapOf x obs with
    | some (b, m) =>
      match keyOf T K V m k with
      | some (_, tv, kk, kd) =>
        match an with
        | .map len' key' val' ms =>
          match v with
          | .v vs => bif isAggS vs == tv.agg then some ⟨[SetAt kk m.ksz m.vsz m.len m.key m.val kd (cellsOf vs) ms len' key' val'], .tup [], [(b, some (.map { m with len := len', key := key', val := val', ms := ms }))]⟩ else none
          | _ => none
        | _ => none
      | none => none
    | none => none
  | _ => none
inductive Bnd where
  | lo (l : Int)
  | hi (h : Int)
  | all
def bndOf : Option TV → Option TV → Option Bnd
  | some (.v (.one (.d (.int _ l)))), none => some (.lo l)
  | none, some (.v (.one (.d (.int _ h)))) => some (.hi h)
  | none, none => some .all
  | _, _ => none
def effSliceD (esz : Nat) (nn : Option Bool) (len : Nat) (el : Nat → Nat → DV) : Bnd → Option Eff
  | .lo l => some ⟨[0 ≤ l ∧ l ≤ len], .v (.one (.d (.sl nn esz (len - l.toNat) fun i j => el (i + l.toNat) j))), []⟩
  | .hi h => some ⟨[0 ≤ h ∧ h ≤ len], .v (.one (.d (.sl nn esz h.toNat el))), []⟩
  | .all => some ⟨[], .v (.one (.d (.sl nn esz len el))), []⟩
def effSliceO (fresh b : Nat) (an : Ann) (E esz n len : Nat) (nn : Bool) (el : Nat → Nat → DV) (bd : Bnd) : Option Eff :=
  match an with
  | .arr len' el' =>
    match bd with
    | .lo l => some ⟨[n = len, 0 ≤ l ∧ l ≤ len, len' = len - l.toNat, ArrEq (len - l.toNat) esz (fun i j => el (i + l.toNat) j) el'], .v (.one (.own fresh nn len')), [(fresh, some (.arr E esz len' el')), (b, none)]⟩
    | .hi h => some ⟨[n = len, 0 ≤ h ∧ h ≤ len, len' = h.toNat, ArrEq h.toNat esz el el'], .v (.one (.own fresh nn len')), [(fresh, some (.arr E esz len' el')), (b, none)]⟩
    | .all => none
  | _ => none
def effSlice (fresh : Nat) (an : Ann) (d : TypeDesc) (x : TV) (lo hi : Option TV) (obs : List (Option (Option Ob))) : Option Eff :=
  match bndOf lo hi with
  | none => none
  | some bd =>
    match d with
    | .slice e =>
      match get T e with
      | none => none
      | some te =>
        match x with
        | .v (.one (.d (.sl nn esz len el))) => (match obs with | [] => bif Nat.beq esz te.size then effSliceD esz nn len el bd else none | _ => none)
        | .v (.one (.own b nn n)) => (match obs with | [some (some (.arr E esz len el)), none] => bif Nat.beq esz te.size then effSliceO fresh b an E esz n len nn el bd else none | _ => none)
        | _ => none
    | .array n e =>
      match get T e, bd with
      | some te, .all =>
        match x with
        | .v (.one (.ptr b off)) =>
          (match obs with
          | [some (some (.cells E cs))] => (match allD cs with
            | some ds => bif Nat.ble (off + n * te.size) ds.length then
                some ⟨[], .v (.one (.d (.sl (some true) te.size n fun i j => ds.getD (off + (i * te.size + j)) .nilp))), [(b, some (.fcells E ds))]⟩ else none
            | none => none)
          | _ => none)
        | .v (.one (.d (.ip m c))) => (match obs with | [] => bif Nat.ble (n * te.size) m && Nat.ble 1 (n * te.size) then some ⟨[], .v (.one (.d (.sl (some true) te.size n fun i j => c (i * te.size + j)))), []⟩ else none | _ => none)
        | _ => none
      | _, _ => none
    | _ => none
def optTV : Option Operand → List TV → Option (Option TV × List TV)
  | none, xs => some (none, xs)
  | some _, x :: xs => some (some x, xs)
  | some _, [] => none
def eff (fresh : Nat) (an : Ann) (o : Op) (xs : List TV) (obs : List (Option (Option Ob))) : Option Eff :=
  match o with
  | .move _ | .assign _ => match xs, obs with | [x], [] => some ⟨[], x, []⟩ | _, _ => none
  | .alloc E => match get T E, obs with
    | some ti, [none] => (match cvals ti.zero with | some z => some ⟨[], .v (.one (.ptr fresh 0)), [(fresh, some (.cells E (z.map .d)))]⟩ | none => none)
    | _, _ => none
  | .box E _ => match xs, obs with
    | [.v s], [none] => some ⟨[], .v (.one (.ptr fresh 0)), [(fresh, some (.cells E (cellsOf s)))]⟩
    | _, _ => none
  | .build t parts => match get T t, obs with | some ti, [] => effBuild T ti parts.toList xs | _, _ => none
  | .buildSlice t len parts => match get T t with | some ti => effBuildSlice T fresh an ti.d len parts.toList xs obs | none => none
  | .load t _ => match get T t, xs with | some ti, [a] => (match an with | .vals ds => effLoadV ti ds a obs | .take c => effTake c ti a obs | _ => effLoad ti a obs) | _, _ => none
  | .store t _ _ => match get T t, xs with | some ti, [a, x] => (match an with | .vals ds => effStoreV ti ds a x obs | .rows _ el => effPut el ti a x obs | _ => effStore an ti a x obs) | _, _ => none
  | .makeMap t none => match get T t with | some ti => effMakeMap T fresh an ti.d obs | none => none
  | .lookup t _ _ ok => match get T t, xs with | some ti, [x, k] => effLookup T an ti.d x k ok obs | _, _ => none
  | .mapUpdate t _ _ _ | .insert t _ _ _ => match get T t, xs with | some ti, [x, k, v] => effMapUpdate T an ti.d x k v obs | _, _ => none
  | .slice t _ lo hi none => match get T t, xs with
    | some ti, x :: r => match optTV lo r with
      | some (l, r1) => match optTV hi r1 with
        | some (h, []) => effSlice T fresh an ti.d x l h obs
        | _ => none
      | none => none
    | _, _ => none
  | .index t _ _ => match get T t, xs, obs with
    | some ti, [x, i], [] => (match an with | .vals ds => effIndexV T ds ti.d x i | _ => none)
    | _, _, _ => none
  | .nilCheck _ => match xs, obs with
    | [.v (.one (.d (.ip n c)))], [] => pureE (.ip n c)
    | [.v (.one (.ptr b o))], [] => some ⟨[], .v (.one (.ptr b o)), []⟩
    | [.v (.one (.opt b e i o))], [] => some ⟨[], .v (.one (.opt b e i o)), []⟩
    | [.v (.one (.d (.fn f n c)))], [] => pureE (.fn f n c)
    | [.v (.one (.fn f nf n c))], [] => some ⟨[], .v (.one (.fn f nf n c)), []⟩
    | [.v (.one (.yl b))], [] => some ⟨[], .v (.one (.yl b)), []⟩
    | _, _ => none
  | .binOp op t _ _ _ => match xs, obs with
    | [.v (.one (.d x)), .v (.one (.d y))], [] => (match x with
      | .sl _ _ _ _ => (match get T t with | some ti => effNil op ti.d x y | none => none)
      | _ => bif boolOk T t x then binE op x y else none)
    | [.v (.agg xs), .v (.agg ys)], [] => (match get T t with | some ti => bif ti.agg && ti.eq then effEqAgg T op t xs ys else none | none => none)
    | _, _ => none
  | .unOp op _ _ => match xs, obs with | [.v (.one (.d x))], [] => unE op x | _, _ => none
  | .makeFunc (.func f) first _ => match svArgs xs, obs with
    | some l, [] => bif l.all isOne then (match first.size, allD (l.flatMap cellsOf) with
      | 0, some ds => pureE (.fn f ds.length (capF ds))
      | _, _ => some ⟨[], .v (.one (.fn f first.size (l.flatMap cellsOf).length fun j => (l.flatMap cellsOf).getD j (.d .nilp))), []⟩) else none
    | _, _ => none
  | .makeSlice t _ _ => match get T t, xs with | some ti, [l, c] => effMake T fresh an ti.d l c obs | _, _ => none
  | .fieldAddr s _ f => match get T s, xs, obs with | some ti, [a], [] => effField T ti.d a f | _, _, _ => none
  | .field t _ f => match get T t, xs, obs with | some ti, [x], [] => effPart T ti.d x f | _, _, _ => none
  | .indexAddr t _ _ => match get T t, xs, obs with | some ti, [x, i], [] => effIndexAddr T ti.d x i | _, _, _ => none
  | .extract _ ix => match xs, obs with | [.tup l], [] => (match l[ix]? with | some s => some ⟨[], .v s, []⟩ | none => none) | _, _ => none
  | .call c => match c.callee with
    | .builtin b => effBuiltin T fresh an b c.argTypes xs obs
    | .value _ => match xs with
      | .v (.one (.d (.fn f n cap))) :: args => effCall Fn an (.fn f) (args ++ (takeC cap 0 n).map (fun c => .v (.one c))) obs
      | .v (.one (.fn f nf n cap)) :: args => bif Nat.ble nf n then effCall Fn an (.fn f) ((takeV cap 0 nf).map (fun c => .v (.one c)) ++ args ++ (takeV cap nf (n - nf)).map (fun c => .v (.one c))) obs else none
      | .v (.one (.yl b)) :: args => effCall Fn an (.yl b) args obs
      | _ => none
    | _ => none
  | _ => none
end
end Sg
