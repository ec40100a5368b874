import Derived.Orders
import Derived.Laws.Sem
import Derived.Laws.World
import Derived.Laws.Cells
import Derived.Laws.Alloc2
import Derived.Laws.Append
import Derived.Laws.AppendOwn
import Derived.Laws.OwnMore
import Derived.Laws.MakeOwn
import Derived.CallsIn
import Derived.AtR
import Derived.Laws.CopyRow
import Derived.Laws.Entries
import Derived.Laws.Concat
import Derived.Lib.AppendZeros
set_option linter.all false
namespace Sg
open Go
def bt:=@Option.bind_some
def bu:=@cond_true
def bv:=@cond_false
def bw:=@Nat.eq_of_beq_eq_true
def bx:=@Int.toNat_natCast
def bz:=@decide_eq_true
def b_:=@decide_eq_false
def cd:=@List.length_append
def ce:=@Bool.and_eq_true
def ci:=@if_neg
def cj:=@if_pos
def cm:=@Nat.le_of_ble_eq_true
def ct:=@List.mem_cons_of_mem
def cw:=@List.mem_cons_self
def cx:=@List.length_singleton
def cz:=@Nat.le_refl
def cA:=@List.mem_append
def cC:=@List.nodup_cons
def cD:=@Nat.zero_add
def cE:=@Bool.not_true
def cF:=@Bool.not_false
def cG:=@List.mem_singleton
def cH:=@Nat.mul_le_mul_right
def cJ:=@List.length_set
def cL:=@Nat.not_lt_zero
def cM:=@List.map_cons
def cN:=@Classical.byContradiction
def cP:=@Bool.or_eq_true
def cQ:=@Bool.true_and
def cR:=@List.append_assoc
def cS:=@List.getElem?_eq_getElem
def cT:=@List.getD_eq_getElem?_getD
def cU:=@List.getElem?_append_left
def cV:=@List.getElem?_append_right
def cW:=@List.append_nil
def cX:=@List.nil_append
def cY:=@List.length_cons
def c7:=@List.mem_range
def c8:=@List.any_eq_true
def c_:=@List.any_eq_false
def da:=@List.mem_filter
def db:=@Bool.not_eq_true'
def dd:=@decide_eq_false_iff_not
def de:=@decide_eq_true_iff
def dg:=@decide_eq_true_eq
def dj:=@Array.length_toList
def dt:=@List.length_map
def du:=@List.getElem?_map
def dC:=@List.length_replicate
def eK:=@Nat.lt_of_lt_of_le
def d7:=@Nat.le_trans
def d8:=@List.cons_append
def d_:=@List.length_take
def ea:=@List.length_drop
def ec:=@List.take_length
def ed:=@Nat.add_comm
def ee:=@Nat.add_assoc
def ef:=@Nat.mul_comm
def eh:=@Nat.add_mul
def ei:=@Nat.one_mul
def ej:=@List.mem_cons
def ek:=@List.take_append_drop
def eo:=@Bool.or_eq_false_iff
def ep:=@List.setIfInBounds_toArray
def ew:=@List.set_cons_succ
def eA:=@List.set_cons_zero
def eC:=@Result.andThen_ok
def eE:=@Sem.run_bind
def eI:=@Array.size_setIfInBounds
def eJ:=@Array.getElem?_setIfInBounds
def eL:=@Array.getElem?_push
def eM:=@List.getElem?_eq_none
def eN:=@Nat.mod_lt
def eQ:=@List.drop_eq_getElem_cons
def eR:=@List.append_cancel_left
def eS:=@List.take_append_of_le_length
def eV:=@Array.getElem?_eq_getElem
def eW:=@List.drop_append
def Ra:List (Nat × (List Value->Prop)):=[(1,fun l=>l=(List.range 20).map fun i=>Value.int .u64 ((10 ^ i:Nat):Int)),(0,fun l=> ∃m,l=[.int .i64 m]),(4,fun l=> ∃t v,l=[.iface t v]),(5,fun l=> ∃t v,l=[.iface t v])]
inductive DV where
 |int (k:IntKind) (n:Int)
 |bool (b:Bool)
 |str (s:ByteArray)
 |sl (nn:Option Bool) (esz len:Nat) (el:Nat->Nat->DV)
 |ip (n:Nat) (c:Nat->DV)
 |nilp
 |fn (f:FuncId) (n:Nat) (cap:Nat->DV)
 |fna (f:FuncId) (n:Nat) (cap:Nat->DV)
 |nilf
 |nilm
inductive CV where
 |d (x:DV)
 |ptr (b off:Nat)
 |opt (b esz i off:Nat)
 |own (b:Nat) (nn:Bool) (len:Nat)
 |mp (b:Nat)
 |fn (f:FuncId) (nf n:Nat) (cap:Nat->CV)
 |yl (b:Nat)
inductive SV where
 |one (c:CV)
 |agg (cs:List CV)
inductive TV where
 |v (s:SV)
 |eZ (l:List SV)
inductive EV where
 |d (x:DV)
 |row (E esz len:Nat) (el:Nat->Nat->DV)
structure jw where
 ps:List Nat
 assign:Code
 body:Code
 N:Nat
 outs:List Code
structure NZ where
 K:TypeId
 V:TypeId
 kagg:Bool
 vagg:Bool
 ksz:Nat
 vsz:Nat
 len:Nat
 key:Nat->Nat->DV
 val:Nat->Nat->CV
 ms:List Nat
def Ni (E:TypeId) (v:List Int):EV:= .row E 1 v.length fun i _=> .int .i64 (v.getD i default)
def qE (n:Int):List (Int × List Int)->List Int
 |[]=>[]
 |(k,v)::l=>bif decide (n=k)then v else qE n l
def nP (n:Int) (v:List Int):List (Int × List Int)->List (Int × List Int)
 |[]=>[(n,v)]
 |(k,v')::l=>bif decide (n=k)then(k,v)::l else(k,v')::nP n v l
def zT (v:List Int) (i _:Nat):DV:= .int .i64 (v.getD i default)
inductive Ob where
 |cells (E:TypeId) (cs:List CV)
 |fcells (E:TypeId) (ds:List DV)
 |arr (E esz len:Nat) (el:Nat->Nat->DV)
 |rows (E esz len:Nat) (el:Nat->Nat->EV) (ov:Option (Nat × Nat × CV))
 |map (m:NZ)
 |loop (r:jw) (st:Nat) (sl:List (Nat × TV))
 |coll
 |suf (b l esz:Nat)
 |frow (fu:Bool) (E:TypeId) (esz len:Nat) (el:Nat->Nat->DV)
 |gm (K V E:TypeId) (l:List (Int × List Int)) (ov:Option (Int × CV))
inductive Pl where
 |nil
 |blk (k base cap:Nat)
def bG (F:Nat->Prop) (w:World):DV->Value->Prop
 | .int k n,v=>v= .int k n
 | .bool b,v=>v= .bool b
 | .str s,v=>v= .string s
 | .sl nn esz len el,v=> ∃a cap,v= .slice a len cap/\(nn=some true->a≠none)/\(nn=some false->a=none)/\(a=none->len=0/\cap=0)/\len<=cap/\
   ∀ad,a=some ad->(0<len->ad.spot=none)/\ ∀i,i<len-> ∀j,j<esz->F ad.block/\ ∃u,w.cell? ⟨ad.block,ad.off+(i*esz+j),none⟩=some u/\bG F w (el i j) u
 | .ip n c,v=> ∃ad,v= .pointer (some ad)/\ad.spot=none/\ ∀j,j<n->F ad.block/\ ∃u,w.cell? ⟨ad.block,ad.off+j,none⟩=some u/\bG F w (c j) u
 | .nilp,v=>v= .pointer none
 | .fn f n cap,v=> ∃vs:List Value,v= .func (.func f) #[] vs.toArray/\vs.length=n/\ ∀j u,vs[j]? =some u->bG F w (cap j) u
 | .fna f n cap,v=> ∃vs:List Value,v= .func (.func f) #[.agg vs.toArray] #[]/\vs.length=n/\ ∀j u,vs[j]? =some u->bG F w (cap j) u
 | .nilf,v=>v= .nilFunc
 | .nilm,v=>v= .map none
def dW (ρ:Nat->Option Pl) (F:Nat->Prop) (w:World):CV->Value->Prop
 | .d x,v=>bG F w x v
 | .ptr b off,v=> ∃k base cap,ρ b=some (.blk k base cap)/\v= .pointer (some ⟨k,base+off,none⟩)
 | .opt b esz i off,v=> ∃k base cap,ρ b=some (.blk k base cap)/\v= .pointer (some ⟨k,base+(i*esz+off),none⟩)
 | .own b nn len,v=>(∃k base cap,ρ b=some (.blk k base cap)/\v= .slice (some ⟨k,base,none⟩) len cap)\/(nn=false/\ρ b=some .nil/\len=0/\v= .slice none 0 0)
 | .mp b,v=> ∃k base cap,ρ b=some (.blk k base cap)/\v= .map (some k)
 | .fn f nf n cap,v=> ∃vs:List Value,v= .func (.func f) (vs.take nf).toArray (vs.drop nf).toArray/\vs.length=n/\ ∀j u,vs[j]? =some u->dW ρ F w (cap j) u
 | .yl b,v=> ∃k base cap,ρ b=some (.blk k base cap)/\v= .func (.yield k) #[] #[]
def bO (ρ:Nat->Option Pl) (F:Nat->Prop) (w:World):List CV->List Value->Prop
 |[],[]=>True
 |c::cs,v::vs=>dW ρ F w c v/\bO ρ F w cs vs
 |_,_=>False
def fP (ρ:Nat->Option Pl) (F:Nat->Prop) (w:World):SV->Value->Prop
 | .one c,v=>dW ρ F w c v
 | .agg cs,v=> ∃vs:List Value,v= .agg vs.toArray/\bO ρ F w cs vs
def dK (ρ:Nat->Option Pl) (F:Nat->Prop) (w:World):List SV->List Value->Prop
 |[],[]=>True
 |c::cs,v::vs=>fP ρ F w c v/\dK ρ F w cs vs
 |_,_=>False
def bE (ρ:Nat->Option Pl) (F:Nat->Prop) (w:World):TV->Value->Prop
 | .v s,v=>fP ρ F w s v
 | .eZ l,v=> ∃vs:List Value,v= .tuple vs.toArray/\dK ρ F w l vs
structure Gr (ρ:Nat->Option Pl) (F:Nat->Prop) (w:World) (ρ':Nat->Option Pl) (F':Nat->Prop) (w':World):Prop where
 rho: ∀b p,ρ b=some p->ρ' b=some p
 fz: ∀k,F k->F' k
 mem: ∀k,F k->w'.heap[k]? =w.heap[k]?
theorem Gr.refl (ρ:Nat->Option Pl) (F:Nat->Prop) (w:World):Gr ρ F w ρ F w:=⟨fun _ _ h=>h,fun _ h=>h,fun _ _=>rfl⟩
theorem Gr.trans {ρ ρ' ρ'':Nat->Option Pl} {F F' F'':Nat->Prop} {w w' w'':World} (h:Gr ρ F w ρ' F' w') (h':Gr ρ' F' w' ρ'' F'' w''):Gr ρ F w ρ'' F'' w'':=
 ⟨fun b p e=>h'.rho b p (h.rho b p e),fun k e=>h'.fz k (h.fz k e),fun k e=>(h'.mem k (h.fz k e)).trans (h.mem k e)⟩
theorem cell_of_heap {w w':World} {k:Nat} (h:w'.heap[k]? =w.heap[k]?) (off:Nat) (s:Option Nat):w'.cell? ⟨k,off,s⟩=w.cell? ⟨k,off,s⟩:=by
 simp [World.cell?,h]
theorem bG.gr {F F':Nat->Prop} {w w':World} (hF: ∀k,F k->F' k) (hw: ∀k,F k->w'.heap[k]? =w.heap[k]?): ∀{x:DV} {v:Value},bG F w x v->bG F' w' x v:=by
 intro x;induction x with
 |int=>intro v h;exact h
 |bool=>intro v h;exact h
 |str=>intro v h;exact h
 |nilp=>intro v h;exact h
 |nilf=>intro v h;exact h
 |nilm=>intro v h;exact h
 |sl nn esz len el ih=>
  intro v h;obtain⟨a,cap,hv,h1,h2,h3,h3b,h4⟩:=h;refine⟨a,cap,hv,h1,h2,h3,h3b,fun ad ha=> ⟨(h4 ad ha).1,fun i hi j hj=> ?_⟩⟩;obtain⟨hf,u,hu,hr⟩:=(h4 ad ha).2 i hi j hj;exact⟨hF _ hf,u,by rw [cell_of_heap (hw _ hf)];exact hu,ih i j hr⟩
 |ip n c ih=>
  intro v h;obtain⟨ad,hv,h1,h2⟩:=h;refine⟨ad,hv,h1,fun j hj=> ?_⟩;obtain⟨hf,u,hu,hr⟩:=h2 j hj;exact⟨hF _ hf,u,by rw [cell_of_heap (hw _ hf)];exact hu,ih j hr⟩
 |fn f n cap ih=>
  intro v h;obtain⟨vs,hv,h1,h2⟩:=h;exact⟨vs,hv,h1,fun j u hu=>ih j (h2 j u hu)⟩
 |fna f n cap ih=>
  intro v h;obtain⟨vs,hv,h1,h2⟩:=h;exact⟨vs,hv,h1,fun j u hu=>ih j (h2 j u hu)⟩
section
variable {ρ ρ':Nat->Option Pl} {F F':Nat->Prop} {w w':World}
theorem dW.gr (g:Gr ρ F w ρ' F' w'): ∀{c:CV} {v:Value},dW ρ F w c v->dW ρ' F' w' c v:=by
 intro c;induction c with
 |d x=>intro v h;exact bG.gr g.fz g.mem h
 |ptr b off=>intro v h;obtain⟨k,base,cap,h,e⟩:=h;exact⟨k,base,cap,g.rho _ _ h,e⟩
 |opt b esz i off=>intro v h;obtain⟨k,base,cap,h,e⟩:=h;exact⟨k,base,cap,g.rho _ _ h,e⟩
 |own b nn len=>
  intro v h;rcases h with⟨k,base,cap,h,e⟩|⟨h0,h,e⟩;·exact .inl ⟨k,base,cap,g.rho _ _ h,e⟩
  ·exact .inr ⟨h0,g.rho _ _ h,e⟩
 |mp b=>intro v h;obtain⟨k,base,cap,h,e⟩:=h;exact⟨k,base,cap,g.rho _ _ h,e⟩
 |yl b=>intro v h;obtain⟨k,base,cap,h,e⟩:=h;exact⟨k,base,cap,g.rho _ _ h,e⟩
 |fn f nf n cap ih=>intro v h;obtain⟨vs,e,hl,h⟩:=h;exact⟨vs,e,hl,fun j u hu=>ih j (h j u hu)⟩
theorem bO.gr (g:Gr ρ F w ρ' F' w'): ∀{cs:List CV} {vs:List Value},bO ρ F w cs vs->bO ρ' F' w' cs vs
 |[],[],h=>h
 |_::_,_::_,⟨h,t⟩=> ⟨h.gr g,bO.gr g t⟩
 |[],_::_,h=>h
 |_::_,[],h=>h
theorem fP.gr (g:Gr ρ F w ρ' F' w'): ∀{s:SV} {v:Value},fP ρ F w s v->fP ρ' F' w' s v
 | .one _,_,h=>dW.gr g h
 | .agg _,_,⟨vs,e,h⟩=> ⟨vs,e,h.gr g⟩
theorem dK.gr (g:Gr ρ F w ρ' F' w'): ∀{cs:List SV} {vs:List Value},dK ρ F w cs vs->dK ρ' F' w' cs vs
 |[],[],h=>h
 |_::_,_::_,⟨h,t⟩=> ⟨h.gr g,dK.gr g t⟩
 |[],_::_,h=>h
 |_::_,[],h=>h
theorem bE.gr (g:Gr ρ F w ρ' F' w'): ∀{s:TV} {v:Value},bE ρ F w s v->bE ρ' F' w' s v
 | .v _,_,h=>fP.gr g h
 | .eZ _,_,⟨vs,e,h⟩=> ⟨vs,e,h.gr g⟩
theorem bO.length: ∀{cs:List CV} {vs:List Value},bO ρ F w cs vs->vs.length=cs.length
 |[],[],_=>rfl
 |_::_,_::_,⟨_,t⟩=>by simp [bO.length t]
 |[],_::_,h=>h.elim
 |_::_,[],h=>h.elim
theorem bO.get: ∀{cs:List CV} {vs:List Value},bO ρ F w cs vs-> ∀{j:Nat} {c:CV},cs[j]? =some c-> ∃u,vs[j]? =some u/\dW ρ F w c u
 |[],[],_,j,c,h=>by simp at h
 |c0::_,v0::_,⟨h0,t⟩,j,c,h=>by
  cases j with
  |zero=>simp at h;subst h;exact⟨v0,rfl,h0⟩
  |succ j=>simp at h;obtain⟨u,hu,hr⟩:=bO.get t h;exact⟨u,by simpa using hu,hr⟩
 |[],_::_,h,_,_,_=>h.elim
 |_::_,[],h,_,_,_=>h.elim
theorem bO.kL: ∀{cs:List CV} {vs:List Value},vs.length=cs.length->(∀(j:Nat) (c:CV),cs[j]? =some c-> ∃u,vs[j]? =some u/\dW ρ F w c u)->bO ρ F w cs vs
 |[],[],_,_=>trivial
 |c0::cs,v0::vs,hl,h=>by
  refine⟨?_,bO.kL (by simpa using hl) fun j c hc=> ?_⟩;·obtain⟨u,hu,hr⟩:=h 0 c0 rfl;simp at hu;subst hu;exact hr
  ·obtain⟨u,hu,hr⟩:=h (j+1) c (by simpa using hc);exact⟨u,by simpa using hu,hr⟩
 |[],_::_,hl,_=>by simp at hl
 |_::_,[],hl,_=>by simp at hl
theorem bO.append: ∀{cs cs':List CV} {vs vs':List Value},bO ρ F w cs vs->bO ρ F w cs' vs'->bO ρ F w (cs++cs') (vs++vs')
 |[],_,[],_,_,h'=>h'
 |_::_,_,_::_,_,⟨h,t⟩,h'=> ⟨h,bO.append t h'⟩
 |[],_,_::_,_,h,_=>h.elim
 |_::_,_,[],_,h,_=>h.elim
end
abbrev Hp:=Nat->Option (Option Ob)
def get {α:Type}:List (Nat × α)->Nat->Option α
 |[],_=>none
 |(k,v)::l,n=>bif Nat.beq k n then some v else get l n
theorem aA {α:Type} (k:Nat) (v:α) (l:List (Nat × α)) (n:Nat):get ((k,v)::l) n=if k=n then some v else get l n:=by
 show(bif Nat.beq k n then some v else get l n)=_;cases h:Nat.beq k n with
 |true=>simp [bw h]
 |false=>simp [Nat.ne_of_beq_eq_false h]
theorem get_nil {α:Type} (n:Nat):get ([]:List (Nat × α)) n=none:=rfl
structure TI where
 d:TypeDesc
 size:Nat
 bytes:Nat
 zero:List Value
 eq:Bool
def TI.agg (t:TI):Bool:=match t.d with| .struct _| .array _ _=>true|_=>false
def fA (P:Program) (t:TypeId) (ti:TI):Prop:=
 P.underlying t=some ti.d/\ ∃i z,P.info? t=some i/\i.size=ti.size/\i.bytes=ti.bytes/\i.zero=some z/\z.cells.toList=ti.zero
def FL:Bool->Value->Bool
 |true, .agg _=>true
 |false, .agg _=>false
 |false, .tuple _=>false
 |false,_=>true
 |_,_=>false
def ZOk (P:Program) (t:TypeId) (agg:Bool):Prop:= ∀i z,P.info? t=some i->i.zero=some z->FL agg z=true
def lC (P:Program):List (Nat × TI)->Prop
 |[]=>True
 |(t,ti)::l=>fA P t ti/\((ti.eq=true->P.stoodInHeld t=false/\P.eqGuardType P.depth t=false)/\ZOk P t ti.agg)/\lC P l
theorem lC.X8 {P:Program}: ∀{T:List (Nat × TI)},lC P T-> ∀{t:Nat} {ti:TI},get T t=some ti->ti.eq=true->P.stoodInHeld t=false/\P.eqGuardType P.depth t=false
 |[],_,_,_,h=>by simp [Sg.get]at h
 |(k,v)::l,⟨_,h1,h2⟩,t,ti,h=>by
  rw [aA]at h;split at h;·rename_i e;subst e;cases h;exact h1.1
  ·exact lC.X8 h2 h
theorem lC.Y1 {P:Program}: ∀{T:List (Nat × TI)},lC P T-> ∀{t:Nat} {ti:TI},get T t=some ti->ZOk P t ti.agg
 |[],_,_,_,h=>by simp [Sg.get]at h
 |(k,v)::l,⟨_,h1,h2⟩,t,ti,h=>by
  rw [aA]at h;split at h;·rename_i e;subst e;cases h;exact h1.2
  ·exact lC.Y1 h2 h
theorem lC.get {P:Program}: ∀{T:List (Nat × TI)},lC P T-> ∀{t:Nat} {ti:TI},get T t=some ti->fA P t ti
 |[],_,_,_,h=>by simp [Sg.get]at h
 |(k,v)::l,⟨h1,_,h2⟩,t,ti,h=>by
  rw [aA]at h;split at h;·rename_i e;subst e;cases h;exact h1
  ·exact lC.get h2 h
def SL:Value->Option DV
 | .int k n=>some (.int k n)
 | .bool b=>some (.bool b)
 | .string s=>some (.str s)
 | .slice none 0 0=>some (.sl (some false) 0 0 fun _ _=> .nilp)
 | .pointer none=>some .nilp
 | .nilFunc=>some .nilf
 | .map none=>some .nilm
 |_=>none
def qa:List Value->Option (List DV)
 |[]=>some []
 |v::vs=>match SL v,qa vs with
  |some d,some ds=>some (d::ds)
  |_,_=>none
inductive jB where
 |none
 |skip
 |frz (len:Nat) (el:Nat->Nat->DV)
 |take (c:Nat)
 |cells
 |rows (len:Nat) (el:Nat->Nat->EV)
 |look (ok:Bool) (cs:List CV)
 |map (len:Nat) (key:Nat->Nat->DV) (val:Nat->Nat->CV) (ms:List Nat)
 |call (ids:List Nat) (res:TV) (hout:List (Nat × Option Ob))
 |callR (ids:List Nat) (res:TV)
 |arr (len:Nat) (el:Nat->Nat->DV)
 |vals (ds:List DV)
 |gtk (c:Nat) (row:List Int)
 |gput (row:List Int)
 |callG (ids:List Nat) (res:TV) (b c:Nat)
 |arrL (len:Nat) (el:Nat->Nat->DV)
structure Eff where
 conds:List Prop
 tv:TV
 hd:List (Nat × Option Ob)
def fo (x:DV):Option Eff:=some ⟨[], .v (.one (.d x)),[]⟩
def cellsOf:SV->List CV
 | .one c=>[c]
 | .agg cs=>cs
def kT (agg:Bool) (cs:List CV):Option SV:=
 match agg,cs with
 |true,cs=>some (.agg cs)
 |false,[c]=>some (.one c)
 |_,_=>none
def takeC (c:Nat->DV):Nat->Nat->List CV
 |_,0=>[]
 |i,n+1=> .d (c i)::takeC c (i+1) n
def eG (c:Nat->CV):Nat->Nat->List CV
 |_,0=>[]
 |i,n+1=>c i::eG c (i+1) n
def bV (c:Nat->DV):Nat->Nat->List DV
 |_,0=>[]
 |i,n+1=>c i::bV c (i+1) n
def rE:List CV->Option (List DV)
 |[]=>some []
 | .d x::cs=>match rE cs with|some ds=>some (x::ds)|none=>none
 |_::_=>none
def foot (an:jB) (fresh:Nat):Op->List TV->List Nat
 | .alloc _,_| .box _ _,_| .buildSlice _ _ _,_| .makeSlice _ _ _,_| .makeMap _ _,_=>[fresh]
 | .load _ _,[.v (.one (.ptr b _))]=>[b]
 | .load _ _,[.v (.one (.opt b _ _ _))]=>match an with| .take c=>[b,c]|_=>[b]
 | .store _ _ _, .v (.one (.ptr b _))::_=>[b]
 | .store _ _ _,[.v (.one (.opt b _ _ _)),x]=>match an,x with| .rows _ _, .v (.one (.own c _ _))=>[b,c]|_,_=>[b]
 | .lookup _ _ _ _, .v (.one (.mp b))::_=>match an with| .gtk c _=>[b,c]|_=>[b]
 | .mapUpdate _ _ _ _, .v (.one (.mp b))::r=>match an,r with| .gput _,[_, .v (.one (.own c _ _))]=>[b,c]|_,_=>[b]
 | .insert _ _ _ _, .v (.one (.mp b))::_=>[b]
 | .slice _ _ _ _ (some _), .v (.one (.d _))::_=>[fresh]
 | .slice _ _ _ _ _, .v (.one (.own b _ _))::_=>[b,fresh]
 | .slice _ _ _ _ _, .v (.one (.ptr b _))::_=>[b]
 | .slice _ _ _ _ _, .v (.one (.opt b _ _ _))::_=>[b,fresh]
 | .call {callee:= .builtin .append, .. },[.v (.one (.own b _ _)), .v (.one (.own b' _ _))]=>[fresh,b,b']
 | .call {callee:= .builtin .append, .. },[.v (.one (.d _)), .v (.one (.own b' _ _))]=>[fresh,b']
 | .call {callee:= .builtin .append, .. }, .v (.one (.own b _ _))::_=>[fresh,b]
 | .call {callee:= .builtin .append, .. },_=>[fresh]
 | .call {callee:= .builtin .copy, .. },[.v (.one (.own c _ _)),_]=>match an with| .take b=>[c,b]|_=>[]
 | .call {callee:= .builtin .clear, .. },[.v (.one (.own c _ _))]=>match an with| .take b=>[c,b]|_=>[]
 | .call {callee:= .value _, .. },_=>match an with| .call ids _ hout=>ids++hout.map (·.1)| .callR ids _=>ids| .callG ids _ b _=>ids++[b]|_=>[]
 |_,_=>[]
def O7 (op:BinOp) (a b:Int):Option Bool:=
 match op with
 | .eql=>some (decide (a=b))
 | .neq=>some (!decide (a=b))
 | .lss=>some (decide (a<b))
 | .leq=>some (decide (a<=b))
 | .gtr=>some (decide (b<a))
 | .geq=>some (decide (b<=a))
 |_=>none
def aJ (s:ByteArray):List Int:=s.data.toList.map fun b=>(b.toNat:Int)
def ax (a b:ByteArray):ByteArray:=a++b
def jh (s:ByteArray) (l h:Nat):ByteArray:=s.extract l h
def Ce:DV->Bool
 | .int .u8 n=>decide (0<=n/\n<=255)
 |_=>false
def MV:DV->UInt8
 | .int _ n=>UInt8.ofNat n.toNat
 |_=>0
def S9 (ds:List DV):ByteArray:=⟨(ds.map MV).toArray⟩
def DU (l:List Int):ByteArray:=S9 (l.map (DV.int .u8))
def Xn (op:BinOp) (x y:DV):Option Eff:=
 match x,y with
 | .int k a, .int k' b=>
  match op with
  | .shl=>some ⟨[0<=b], .v (.one (.d (.int k (k.wrap (a*2 ^ min b.toNat k.bits))))),[]⟩
  | .shr=>some ⟨[0<=b], .v (.one (.d (.int k (a.fdiv (2 ^ min b.toNat k.bits))))),[]⟩
  |_=>
   bif decide (k=k')then
    match op with
    | .add=>fo (.int k (k.wrap (a+b)))
    | .sub=>fo (.int k (k.wrap (a - b)))
    | .mul=>fo (.int k (k.wrap (a*b)))
    | .quo=>some ⟨[b≠0], .v (.one (.d (.int k (k.wrap (a.tdiv b))))),[]⟩
    | .rem=>some ⟨[b≠0], .v (.one (.d (.int k (a.tmod b)))),[]⟩
    | .and=>fo (.int k (k.wrap (BitVec.ofInt k.bits a &&& BitVec.ofInt k.bits b).toNat))
    | .or=>fo (.int k (k.wrap (BitVec.ofInt k.bits a|||BitVec.ofInt k.bits b).toNat))
    | .xor=>fo (.int k (k.wrap (BitVec.ofInt k.bits a ^^^ BitVec.ofInt k.bits b).toNat))
    | .andNot=>fo (.int k (k.wrap (BitVec.ofInt k.bits a &&& ~~~ BitVec.ofInt k.bits b).toNat))
    |_=>match O7 op a b with|some r=>fo (.bool r)|none=>none
   else none
 | .bool a, .bool b=>
  match op with
  | .eql=>fo (.bool (a==b))
  | .neq=>fo (.bool (!(a==b)))
  |_=>none
 | .str a, .str b=>
  match op with
  | .eql=>fo (.bool (a.toList==b.toList))
  | .neq=>fo (.bool (!(a.toList==b.toList)))
  | .add=>some ⟨[a.size+b.size<=9223372036854775807], .v (.one (.d (.str (ax a b)))),[]⟩
  |_=>none
 |_,_=>none
def unE (op:UnOp) (x:DV):Option Eff:=
 match op,x with
 | .not, .bool b=>fo (.bool (!b))
 | .neg, .int k n=>fo (.int k (k.wrap (0 - n)))
 |_,_=>none
def zb (place:Nat->Option (Nat × Nat)) (cells:List CV):List (Nat × List CV)->Option (List CV)
 |[]=>some cells
 |(i,v)::rest=>
  match place i with
  |none=>none
  |some (off,size)=>
   bif decide (v.length=size) && Nat.ble (off+v.length) cells.length then zb place (cells.take off++v++cells.drop (off+v.length)) rest else none
def nY:List (Nat × Operand)->List TV->Option (List (Nat × List CV))
 |[],[]=>some []
 |(i,_)::ps, .v s::xs=>match nY ps xs with|some l=>some ((i,cellsOf s)::l)|none=>none
 |_,_=>none
def Ke (T:List (Nat × TI)) (fs:Array Field) (i:Nat):Option (Nat × Nat):=
 match fs.toList[i]? with
 |some f=>match get T f.type with|some t=>some (f.offset,t.size)|none=>none
 |none=>none
def Bl (T:List (Nat × TI)):List Field->Option (List (Nat × Nat))
 |[]=>some []
 |f::fs=>match get T f.type,Bl T fs with
  |some t,some l=>some ((f.offset,t.size)::l)
  |_,_=>none
def Nj (z:List DV):Nat->List CV
 |0=>[]
 |n+1=>z.map .d++Nj z n
def kS (esz:Nat) (cs:List DV) (i j:Nat):DV:=cs.getD (i*esz+j) .nilp
def wB (el:Nat->Nat->DV) (i off:Nat) (ds:List DV):Nat->Nat->DV:=fun i' j'=>if i'=i/\off<=j'/\j'<off+ds.length then ds.getD (j' - off) .nilp else el i' j'
def nM (el:Nat->Nat->DV) (len:Nat) (el':Nat->Nat->DV):Nat->Nat->DV:=fun i j=>if i<len then el i j else el' (i - len) j
def aav (len esz:Nat) (f g:Nat->Nat->DV):Prop:= ∀i,i<len-> ∀j,j<esz-> ∀F w v,bG F w (f i j) v->bG F w (g i j) v
def aI (len esz:Nat) (f g:Nat->Nat->DV):Prop:= ∀i,i<len-> ∀j,j<esz->f i j=g i j
def iJ:List TV->Option (List SV)
 |[]=>some []
 | .v s::xs=>match iJ xs with|some l=>some (s::l)|none=>none
 |_=>none
def CV.bR:CV->List Nat
 | .d _=>[]
 | .ptr b _| .opt b _ _ _| .own b _ _| .mp b| .yl b=>[b]
 | .fn _ _ n cap=>(List.range n).flatMap fun j=>(cap j).bR
def SV.bR:SV->List Nat
 | .one c=>c.bR
 | .agg cs=>cs.flatMap CV.bR
def TV.bR:TV->List Nat
 | .v s=>s.bR
 | .eZ l=>l.flatMap SV.bR
def Ob.bR:Ob->List Nat
 | .cells _ cs=>cs.flatMap CV.bR
 | .rows _ _ _ _ (some (_,_,c))=>c.bR
 | .gm _ _ _ _ (some (_,c))=>c.bR
 | .map m=>m.ms
 | .loop _ _ sl=>sl.flatMap fun p=>p.2.bR
 | .suf b _ _=>[b]
 |_=>[]
def gH (x:Nat):List Nat->Bool
 |[]=>false
 |y::l=>bif Nat.beq x y then true else gH x l
def dz:List Nat->List Nat->Bool
 |[],_=>true
 |x::l,m=>bif gH x m then dz l m else false
theorem kE {x:Nat}: ∀{l:List Nat},gH x l=true↔x∈l
 |[]=>by simp [gH]
 |y::l=>by
  simp only [gH,ej];cases h:Nat.beq x y with
  |true=>simp [bw h]
  |false=>simp [Nat.ne_of_beq_eq_false h,kE]
theorem bY {m:List Nat}: ∀{l:List Nat},dz l m=true↔ ∀x∈l,x∈m
 |[]=>by simp [dz]
 |y::l=>by
  simp only [dz,ej,forall_eq_or_imp];cases h:gH y m with
  |true=>simp [bY,kE.1 h]
  |false=>
   have:y ∉ m:=fun e=>by rw [kE.2 e]at h;cases h
   simp [this]
def dQ:List (Option (Option Ob))->List Nat
 |[]=>[]
 |some (some o)::l=>o.bR++dQ l
 |_::l=>dQ l
def bJ:List Nat->List (Option (Option Ob))->Option (List (Nat × Option Ob))
 |[],_=>some []
 |i::is,some (some o)::os=>match bJ is os with|some l=>some ((i,some o)::l)|none=>none
 |_,_=>none
def fT (ids:List Nat):List Nat->List (Option (Option Ob))->Bool
 |[],_=>true
 |k::ks,o::os=>(bif gH k ids then true else(match o with|none=>true|_=>false)) && fT ids ks os
 |_,_=>false
inductive Cl where
 |fn (f:FuncId)
 |yl (b:Nat)
def Cl.ids:Cl->List Nat
 | .fn _=>[]
 | .yl b=>[b]
section
variable (P:Program) (Fn:Cl->List SV->List (Nat × Option Ob)->TV->List (Nat × Option Ob)->Prop) (T:List (Nat × TI))
def mG (an:jB) (f:Cl) (xs:List TV) (obs:List (Option (Option Ob))):Option Eff:=
 match an with
 | .call ids res hout=>
  match iJ xs,bJ ids obs with
  |some args,some hin=>
   bif dz f.ids ids && (dz (args.flatMap SV.bR) ids && dz (dQ (obs.take ids.length)) ids && fT ids (hout.map (·.1)) (obs.drop ids.length))then
    some ⟨[Fn f args hin res hout],res,hout++ids.map (fun i=>(i,none))⟩
   else none
  |_,_=>none
 | .callR ids res=>
  match f with
  | .yl _=>none
  | .fn g=>
   match iJ xs,bJ ids obs with
   |some args,some hin=>bif dz (args.flatMap SV.bR) ids && dz (dQ (obs.take ids.length)) ids then some ⟨[Fn (.fn g) args hin res hin],res,[]⟩else none
   |_,_=>none
 |_=>none
def jO (an:jB) (f:Cl) (xs:List TV) (obs:List (Option (Option Ob))):Option Eff:=
 match an with
 | .callG ids res b c=>
  match mG Fn (.callR ids res) f xs (obs.take ids.length),obs.drop ids.length,bJ ids (obs.take ids.length)with
  |some E,[some (some (.gm K V Et l (some (n, .own c' _ m))))],some hin=>
   match get hin c with
   |some (some (.arr E1 esz1 m1 el1))=>
    bif Nat.beq c c' && Nat.beq E1 Et && Nat.beq esz1 1 && !(Nat.beq b c)then
     some ⟨[m=m1,m1=(qE n l).length,aI m1 1 el1 (zT (qE n l))]++E.conds,E.tv,[(b,some (.gm K V Et l none)),(c,none)]⟩
    else none
   |_=>none
  |_,_,_=>none
 |an=>mG Fn an f xs obs
def NU (off size:Nat):Option (Nat × Nat × CV)->Bool
 |none=>true
 |some (_,j,_)=>Nat.blt j off||Nat.ble (off+size) j
def Lu (c:Nat->EV):Nat->Nat->Option (List DV)
 |_,0=>some []
 |i,n+1=>match c i,Lu c (i+1) n with| .d x,some l=>some (x::l)|_,_=>none
def Co (ti:TI) (a:TV) (obs:List (Option (Option Ob))):Option Eff:=
 match a,obs with
 | .v (.one (.d (.ip n c))),[]=>
  bif Nat.ble ti.size n then(match kT ti.agg (takeC c 0 ti.size)with|some s=>some ⟨[], .v s,[]⟩|none=>none)else none
 | .v (.one (.ptr _ off)),[some (some (.cells _ cs))]=>
  bif Nat.ble (off+ti.size) cs.length then(match kT ti.agg ((cs.drop off).take ti.size)with|some s=>some ⟨[], .v s,[]⟩|none=>none)else none
 | .v (.one (.opt _ esz i off)),[some (some (.arr _ esz' len el))]=>
  bif Nat.beq esz esz' && Nat.ble (off+ti.size) esz then
   (match kT ti.agg (takeC (el i) off ti.size)with|some s=>some ⟨[i<len], .v s,[]⟩|none=>none)else
  bif Nat.beq esz 1 && Nat.beq esz' 1 && Nat.beq off 0 then
   (match kT ti.agg (takeC (fun j=>el (i+j) 0) 0 ti.size)with|some s=>some ⟨[i+ti.size<=len,1<=len], .v s,[]⟩|none=>none)else none
 | .v (.one (.opt _ esz i off)),[some (some (.cells _ cs))]=>
  bif Nat.ble (i*esz+off+ti.size) cs.length then(match kT ti.agg ((cs.drop (i*esz+off)).take ti.size)with|some s=>some ⟨[], .v s,[]⟩|none=>none)else none
 | .v (.one (.ptr _ off)),[some (some (.fcells _ ds))]=>
  bif Nat.ble (off+ti.size) ds.length then(match kT ti.agg (((ds.drop off).take ti.size).map .d)with|some s=>some ⟨[], .v s,[]⟩|none=>none)else none
 | .v (.one (.opt _ esz i off)),[some (some (.rows _ esz' len el ov))]=>
  bif Nat.beq esz esz' && Nat.ble (off+ti.size) esz && NU off ti.size ov then
   (match Lu (el i) off ti.size with
    |some ds=>(match kT ti.agg (ds.map .d)with|some s=>some ⟨[i<len], .v s,[]⟩|none=>none)
    |none=>none)else none
 |_,_=>none
def JN (c:Nat) (ti:TI) (a:TV) (obs:List (Option (Option Ob))):Option Eff:=
 match a,obs with
 | .v (.one (.opt b esz i off)),[some (some (.rows E esz' len el none)),none]=>
  bif Nat.beq esz esz' && Nat.beq ti.size 1 && !ti.agg && Nat.blt off esz then
   match el i off with
   | .row E' esz1 n el1=>some ⟨[i<len], .v (.one (.own c false n)),[(b,some (.rows E esz len el (some (i,off, .own c false n)))),(c,some (.arr E' esz1 n el1))]⟩
   |_=>none
  else none
 |_,_=>none
def WS (el:Nat->Nat->EV) (i off:Nat) (x:EV):Nat->Nat->EV:=fun i' j'=>if i'=i/\j'=off then x else el i' j'
def LJ (len esz:Nat) (f g:Nat->Nat->EV):Prop:= ∀i,i<len-> ∀j,j<esz->f i j=g i j
def NI (el':Nat->Nat->EV) (ti:TI) (a x:TV) (obs:List (Option (Option Ob))):Option Eff:=
 match a,x,obs with
 | .v (.one (.opt b esz i off)), .v (.one (.own c _ n)),[some (some (.rows E esz' len el ov)),some (some (.arr E1 esz1 n1 el1))]=>
  bif Nat.beq esz esz' && Nat.beq ti.size 1 && Nat.blt off esz && !(Nat.beq b c)then
   some ⟨[i<len,n=n1,LJ len esz (WS el i off (.row E1 esz1 n1 el1)) el',∀i0 j0 c0,ov=some (i0,j0,c0)->i0=i/\j0=off], .eZ [],[(b,some (.rows E esz len el' none)),(c,none)]⟩else none
 |_,_,_=>none
def xk (an:jB) (ti:TI) (a x:TV) (obs:List (Option (Option Ob))):Option Eff:=
 match a,x,obs with
 | .v (.one (.ptr b off)), .v s,[some (some (.cells E cs))]=>
  bif Nat.beq (cellsOf s).length ti.size && Nat.ble (off+ti.size) cs.length then
   some ⟨[], .eZ [],[(b,some (.cells E (cs.take off++cellsOf s++cs.drop (off+ti.size))))]⟩else none
 | .v (.one (.opt b esz i off)), .v s,[some (some (.cells E cs))]=>
  bif Nat.beq (cellsOf s).length ti.size && Nat.ble (i*esz+off+ti.size) cs.length then
   some ⟨[], .eZ [],[(b,some (.cells E (cs.take (i*esz+off)++cellsOf s++cs.drop (i*esz+off+ti.size))))]⟩else none
 | .v (.one (.opt b esz i off)), .v s,[some (some (.arr E esz' len el))]=>
  match an,rE (cellsOf s)with
  | .arr _ el',some ds=>
   bif Nat.beq esz esz' && Nat.ble (off+ds.length) esz && Nat.beq ds.length ti.size && Nat.ble 1 ti.size then
    some ⟨[i<len,aI len esz (wB el i off ds) el'], .eZ [],[(b,some (.arr E esz len el'))]⟩else none
  |_,_=>none
 |_,_,_=>none
def ES (ti:TI) (ds:List DV) (a:TV) (obs:List (Option (Option Ob))):Option Eff:=
 match a,obs with
 | .v (.one (.d (.ip n c))),[]=>
  bif Nat.ble ti.size n && Nat.beq ds.length ti.size then(match kT ti.agg (ds.map .d)with|some s=>some ⟨[aI 1 ti.size (fun _ j=>c j) (fun _ j=>ds.getD j .nilp)], .v s,[]⟩|none=>none)else none
 | .v (.one (.ptr _ off)),[some (some (.cells _ cs))]=>
  match kT ti.agg (ds.map .d)with
  |some s=>some ⟨[off+ti.size<=cs.length,(cs.drop off).take ti.size=ds.map .d], .v s,[]⟩
  |none=>none
 |_,_=>none
def DI (ti:TI) (ds:List DV) (a x:TV) (obs:List (Option (Option Ob))):Option Eff:=
 match a,x,obs with
 | .v (.one (.ptr b off)), .v s,[some (some (.cells E cs))]=>
  bif Nat.beq (cellsOf s).length ti.size then
   some ⟨[off+ti.size<=cs.length,cs.take off++cellsOf s++cs.drop (off+ti.size)=ds.map .d], .eZ [],[(b,some (.cells E (ds.map .d)))]⟩else none
 |_,_,_=>none
def DC (ds:List DV) (d:TypeDesc) (x ix:TV):Option Eff:=
 match d,x,ix with
 | .array n e, .v (.agg cs), .v (.one (.d (.int _ i)))=>
  match get T e with
  |some te=>match kT te.agg (ds.map .d)with
   |some s=>some ⟨[0<=i/\i<n,i.toNat*te.size+te.size<=cs.length,(cs.drop (i.toNat*te.size)).take te.size=ds.map .d], .v s,[]⟩
   |none=>none
  |none=>none
 |_,_,_=>none
def Ld:TV->List (Option (Option Ob))->Option (Nat × Nat × (Nat->Nat->DV))
 | .v (.one (.d (.sl _ esz len el))),_=>some (esz,len,el)
 | .v (.one (.own _ _ n)),some (some (.arr _ esz len el))::_=>bif Nat.beq n len then some (esz,len,el)else none
 |_,_=>none
def Rq (x:DV):EV->Prop
 | .d y=>x=y
 | .row _ _ n _=>n=0/\ ∃e l f,x= .sl (some false) e l f
def BH (len lenx esz:Nat) (el:Nat->Nat->EV) (elx:Nat->Nat->DV) (el':Nat->Nat->EV):Prop:=
 (∀i,i<len-> ∀j,j<esz->el' i j=el i j)/\ ∀i,i<lenx-> ∀j,j<esz->Rq (elx i j) (el' (len+i) j)
def Jl (fresh:Nat) (an:jB) (E:TypeId) (ti:TI) (b n:Nat) (ob:Ob) (eszx lenx:Nat) (elx:Nat->Nat->DV):Option Eff:=
 match ob with
 | .arr E' esz len el=>
  match an with
  | .arr len' el'=>
   bif Nat.beq E E' && Nat.beq esz ti.size && Nat.beq eszx esz && Nat.ble 1 esz && Nat.beq ti.zero.length ti.size then
    some ⟨[n=len,(len+lenx)*ti.bytes<=140737488355328,len+lenx<=4611686018427387904,len'=len+lenx,aI (len+lenx) esz (nM el len elx) el'], .v (.one (.own fresh false len')),[(fresh,some (.arr E esz len' el')),(b,none)]⟩
   else none
  | .frz len' el'=>
   bif Nat.beq E E' && Nat.beq esz ti.size && Nat.beq eszx esz && Nat.ble 1 esz && Nat.beq ti.zero.length ti.size then
    some ⟨[n=len,0<len,(len+lenx)*ti.bytes<=140737488355328,len+lenx<=4611686018427387904,len'=len+lenx,aI (len+lenx) esz (nM el len elx) el'], .v (.one (.d (.sl (some true) esz len' el'))),[(b,some (.frow false E esz len el))]⟩
   else none
  |_=>none
 | .frow true E' esz len el=>
  match an with
  | .frz len' el'=>
   bif Nat.beq E E' && Nat.beq esz ti.size && Nat.beq eszx esz && Nat.ble 1 esz && Nat.beq ti.zero.length ti.size then
    some ⟨[n=len,0<len,(len+lenx)*ti.bytes<=140737488355328,len+lenx<=4611686018427387904,len'=len+lenx,aI (len+lenx) esz (nM el len elx) el'], .v (.one (.d (.sl (some true) esz len' el'))),[]⟩
   else none
  |_=>none
 | .rows E' esz len el none=>
  match an with
  | .rows len' el'=>
   bif Nat.beq E E' && Nat.beq esz ti.size && Nat.beq eszx esz && Nat.ble 1 esz && Nat.beq ti.zero.length ti.size then
    some ⟨[n=len,(len+lenx)*ti.bytes<=140737488355328,len+lenx<=4611686018427387904,len'=len+lenx,BH len lenx esz el elx el'], .v (.one (.own fresh false len')),[(fresh,some (.rows E esz len' el' none)),(b,none)]⟩
   else none
  |_=>none
 |_=>none
def Iq (fresh:Nat) (an:jB) (E:TypeId) (ti:TI) (eszx lenx:Nat) (elx:Nat->Nat->DV):Option Eff:=
 match an with
 | .arr len' el'=>
  bif Nat.beq eszx ti.size && Nat.ble 1 ti.size && Nat.beq ti.zero.length ti.size then
   some ⟨[lenx*ti.bytes<=140737488355328,lenx<=4611686018427387904,len'=lenx,aI lenx ti.size elx el'], .v (.one (.own fresh false len')),[(fresh,some (.arr E ti.size len' el'))]⟩
  else none
 |_=>none
def Dk (fresh:Nat) (an:jB) (E:TypeId) (ti:TI) (s x:TV) (obs:List (Option (Option Ob))):Option Eff:=
 match s with
 | .v (.one (.own b _ n))=>
  match obs with
  |none::some (some ob)::rest=>match Ld x rest with
   |some (eszx,lenx,elx)=>Jl fresh an E ti b n ob eszx lenx elx
   |none=>none
  |_=>none
 | .v (.one (.d (.sl (some false) _ _ _)))=>
  match obs with
  |none::rest=>match Ld x rest with
   |some (eszx,lenx,elx)=>Iq fresh an E ti eszx lenx elx
   |none=>none
  |_=>none
 |_=>none
def Km (fresh:Nat) (an:jB) (E:TypeId) (te:TI) (s x:TV) (obs:List (Option (Option Ob))):Option Eff:=
 match s,x,obs,an,qa te.zero with
 | .v (.one (.d (.sl (some false) _ _ _))), .v (.one (.d (.int _ l))),[none], .arr len' el',some z=>
  bif Nat.beq te.zero.length te.size && Nat.ble 1 te.size then
   some ⟨[0<l,te.bytes*l<=140737488355328,l<=4611686018427387904,len'=l.toNat,aI l.toNat te.size (fun _ j=>z.getD j .nilp) el'], .v (.one (.own fresh true len')),[(fresh,some (.arr E te.size len' el'))]⟩else none
 |_,_,_,_,_=>none
def Sz:TypeDesc->Bool
 | .int _=>true
 |_=>false
def uN (d:TypeDesc) (x ix:TV):Option Eff:=
 match d,ix with
 | .slice e, .v (.one (.d (.int _ i)))=>
  match get T e with
  |some te=>
   match x with
   | .v (.one (.d (.sl _ esz len el)))=>bif Nat.beq esz te.size then some ⟨[0<=i/\i<len], .v (.one (.d (.ip esz (el i.toNat)))),[]⟩else none
   | .v (.one (.own b _ len))=>some ⟨[0<=i/\i<len], .v (.one (.opt b te.size i.toNat 0)),[]⟩
   |_=>none
  |none=>none
 | .array n e, .v (.one (.d (.int _ i)))=>
  match get T e with
  |some te=>
   match x with
   | .v (.one (.d (.ip m c)))=>bif Nat.ble (n*te.size) m then some ⟨[0<=i/\i<n], .v (.one (.d (.ip te.size fun j=>c (i.toNat*te.size+j)))),[]⟩else none
   | .v (.one (.ptr b off))=>some ⟨[0<=i/\i<n], .v (.one (.ptr b (off+i.toNat*te.size))),[]⟩
   | .v (.one (.opt b e q p))=>bif Nat.beq e 1 && Nat.beq q 0 && Nat.beq p 0 && Nat.beq te.size 1 && Sz te.d then some ⟨[0<=i/\i<n], .v (.one (.opt b 1 i.toNat 0)),[]⟩else
    some ⟨[0<=i/\i<n], .v (.one (.opt b e q (p+i.toNat*te.size))),[]⟩
   |_=>none
  |none=>none
 |_,_=>none
def Fj (d:TypeDesc) (a:TV) (f:Nat):Option Eff:=
 match d with
 | .struct fs=>
  match Ke T fs f with
  |some (off,size)=>
   bif Nat.ble 1 size then
    match a with
    | .v (.one (.d (.ip n c)))=>bif Nat.ble (off+size) n then some ⟨[], .v (.one (.d (.ip (n - off) fun j=>c (off+j)))),[]⟩else none
    | .v (.one (.ptr b o))=>some ⟨[], .v (.one (.ptr b (o+off))),[]⟩
    | .v (.one (.opt b e i o))=>some ⟨[], .v (.one (.opt b e i (o+off))),[]⟩
    |_=>none
   else none
  |none=>none
 |_=>none
def KA (d:TypeDesc) (x:TV) (f:Nat):Option Eff:=
 match d,x with
 | .struct fs, .v (.agg cs)=>
  match fs.toList[f]? with
  |some fd=>
   match get T fd.type with
   |some t=>bif Nat.ble (fd.offset+t.size) cs.length then(match kT t.agg ((cs.drop fd.offset).take t.size)with|some s=>some ⟨[], .v s,[]⟩|none=>none)else none
   |none=>none
  |none=>none
 |_,_=>none
def FE (ti:TI) (parts:List (Nat × Operand)) (xs:List TV):Option Eff:=
 match qa ti.zero,nY parts xs with
 |some z,some ps=>
  match ti.d with
  | .struct fs=>(match Bl T fs.toList with
   |some pl=>(match zb (fun i=>pl[i]?) (z.map .d) ps with|some cs=>some ⟨[], .v (.agg cs),[]⟩|none=>none)
   |none=>none)
  | .array _ e=>(match get T e with
   |some te=>(match zb (fun i=>some (i*te.size,te.size)) (z.map .d) ps with|some cs=>some ⟨[], .v (.agg cs),[]⟩|none=>none)
   |none=>none)
  |_=>none
 |_,_=>none
def sK (fresh:Nat) (an:jB) (d:TypeDesc) (len:Nat) (parts:List (Nat × Operand)) (xs:List TV) (obs:List (Option (Option Ob))):Option Eff:=
 match d,obs,nY parts xs with
 | .slice e,[none],some ps=>
  match get T e with
  |some te=>
   match qa te.zero with
   |some z=>
    bif Nat.ble (len*te.size) 1000 && Nat.beq te.zero.length te.size && Nat.ble 1 te.size then
     match zb (fun i=>some (i*te.size,te.size)) (Nj z len) ps with
     |some cs=>match an with
      | .cells=>some ⟨[], .v (.one (.own fresh true len)),[(fresh,some (.cells e cs))]⟩
      | .take q=>match cs[q]?,rE (cs.set q (.d .nilp))with
       |some c,some ds=>some ⟨[], .v (.one (.own fresh true len)),[(fresh,some (.rows e te.size len (fun i j=> .d (kS te.size ds i j)) (some (q / te.size,q % te.size,c))))]⟩
       |_,_=>none
      |_=>match rE cs with
      |some ds=>match an with
       | .arr len' el'=>some ⟨[len'=len,aI len te.size (kS te.size ds) el'], .v (.one (.own fresh true len')),[(fresh,some (.arr e te.size len' el'))]⟩
       | .frz len' el'=>some ⟨[len'=len,aI len te.size (kS te.size ds) el'], .v (.one (.d (.sl (some true) te.size len' el'))),[]⟩
       | .arrL len' el'=>some ⟨[len'=len,aav len te.size (kS te.size ds) el'], .v (.one (.own fresh true len')),[(fresh,some (.arr e te.size len' el'))]⟩
       |_=>some ⟨[], .v (.one (.own fresh true len)),[(fresh,some (.arr e te.size len (kS te.size ds)))]⟩
      |none=>none
     |none=>none
    else none
   |none=>none
  |none=>none
 |_,_,_=>none
def J9 (fresh:Nat) (an:jB) (d:TypeDesc) (l c:TV) (obs:List (Option (Option Ob))):Option Eff:=
 match d,l,c,obs with
 | .slice e, .v (.one (.d (.int _ l))), .v (.one (.d (.int _ c))),[none]=>
  match get T e with
  |some te=>
   match qa te.zero with
   |some z=>bif Nat.beq te.zero.length te.size && Nat.ble 1 te.size then
     match an with
     | .arr len' el'=>some ⟨[0<=l,l=c,te.bytes*l<=281474976710656,l<=9223372036854775807,len'=l.toNat,aI l.toNat te.size (fun _ j=>z.getD j .nilp) el'], .v (.one (.own fresh true len')),[(fresh,some (.arr e te.size len' el'))]⟩
     | .frz len' el'=>some ⟨[0<=l,l=c,te.bytes*l<=281474976710656,l<=9223372036854775807,len'=l.toNat,aI l.toNat te.size (fun _ j=>z.getD j .nilp) el'], .v (.one (.d (.sl (some true) te.size len' el'))),[]⟩
     |_=>some ⟨[0<=l,l=c,te.bytes*l<=281474976710656,l<=9223372036854775807], .v (.one (.own fresh true l.toNat)),[(fresh,some (.arr e te.size l.toNat fun _ j=>z.getD j .nilp))]⟩
    else none
   |none=>none
  |none=>none
 |_,_,_,_=>none
def Nl (d:TypeDesc) (x:TV):Option Eff:=
 match d,x with
 | .slice _, .v (.one (.d (.sl _ _ len _)))=>fo (.int .i64 len)
 | .slice _, .v (.one (.own _ _ len))=>fo (.int .i64 len)
 | .string, .v (.one (.d (.str s)))=>fo (.int .i64 s.size)
 | .array n _,_=>fo (.int .i64 n)
 |_,_=>none
def SE (el:Nat->Nat->DV) (l:Nat) (elx:Nat->Nat->DV) (m:Nat):Nat->Nat->DV:=fun i j=>bif Nat.ble l i && Nat.blt i (l+m)then elx (i - l) j else el i j
def Kb (an:jB) (te:TI) (x y:TV) (obs:List (Option (Option Ob))):Option Eff:=
 match x,y,obs with
 | .v (.one (.own _ _ n)), .v (.one (.d (.sl _ eszx lenx elx))),[some (some (.suf b l 0)),some (some (.arr E esz len el))]=>
  match an with
  | .take b'=>bif Nat.beq b b' && Nat.beq te.size 1 && Nat.beq esz 1 && Nat.beq eszx 1 then
    some ⟨[n=len - l], .v (.one (.d (.int .i64 (Nat.min lenx n:Nat)))),[(b,some (.arr E 1 len (SE el l elx (Nat.min lenx n))))]⟩else none
  |_=>none
 | .v (.one (.own b _ n)), .v (.one (.own c _ m)),[some (some (.arr E esz len el)),some (some (.arr _ esz2 len2 el2))]=>
  match an with
  | .take c'=>bif Nat.beq c c' && !(Nat.beq b c) && Nat.beq te.size esz && Nat.beq esz2 esz then
    some ⟨[n=len,m=len2,len2=len], .v (.one (.d (.int .i64 (n:Nat)))),[(b,some (.arr E esz len el2))]⟩else none
  |_=>none
 |_,_,_=>none
def Cb (el:Nat->Nat->DV) (l:Nat) (z:List DV) (i j:Nat):DV:=bif Nat.blt i l then el i j else z.getD j .nilp
def F9 (an:jB) (te:TI) (x:TV) (obs:List (Option (Option Ob))):Option Eff:=
 match x,obs with
 | .v (.one (.own _ _ n)),[some (some (.suf b l s)),some (some (.arr E esz len el))]=>
  match an,qa te.zero with
  | .take b',some z=>bif Nat.beq b b' && Nat.beq te.size esz && Nat.beq s esz && Nat.beq te.zero.length te.size && Nat.ble 1 esz then
    some ⟨[n=len - l], .eZ [],[(b,some (.arr E esz len (Cb el l z)))]⟩else none
  |_,_=>none
 |_,_=>none
def Gj (fresh:Nat) (an:jB) (b:Builtin) (argTypes:Array TypeId) (xs:List TV) (obs:List (Option (Option Ob))):Option Eff:=
 match b,argTypes.toList,xs with
 | .len,[t],[x]=>match get T t,obs with|some ti,[]=>Nl ti.d x|_,_=>none
 | .append,[t,t'],[s,x]=>
  match get T t,get T t' with
  |some ti,some ti'=>match ti.d,ti'.d with
   | .slice e, .slice _=>match get T e with|some te=>bif Nat.beq t t' then Dk fresh an e te s x obs else none|none=>none
   | .slice e, .int _=>match get T e with|some te=>Km fresh an e te s x obs|none=>none
   |_,_=>none
  |_,_=>none
 | .copy,[t,t'],[x,y]=>
  match get T t,get T t' with
  |some ti,some _=>match ti.d with
   | .slice e=>match get T e with|some te=>Kb an te x y obs|none=>none
   |_=>none
  |_,_=>none
 | .clear,[t],[x]=>
  match get T t with
  |some ti=>match ti.d with
   | .slice e=>match get T e with|some te=>F9 an te x obs|none=>none
   |_=>none
  |none=>none
 | .cap,[t],[.v (.one (.d (.sl (some false) _ _ _)))]=>
  match get T t with
  |some ti=>match ti.d,obs with
   | .slice _,[]=>fo (.int .i64 0)
   |_,_=>none
  |none=>none
 | .max,_,[.v (.one (.d (.int k a))), .v (.one (.d (.int _ b)))]=>match obs with|[]=>fo (.int k (if a<b then b else a))|_=>none
 | .min,_,[.v (.one (.d (.int k a))), .v (.one (.d (.int _ b)))]=>match obs with|[]=>fo (.int k (if b<a then b else a))|_=>none
 |_,_,_=>none
inductive KD where
 |i (k:IntKind)
 |b
 |s
def Ps:DV->DV->Option Bool
 | .int k a, .int k' b=>bif decide (k=k')then some (decide (a=b))else none
 | .bool a, .bool b=>some (a==b)
 | .str a, .str b=>some (a==b)
 |_,_=>none
def iW:List DV->List DV->Option Bool
 |[],[]=>some true
 |x::xs,y::ys=>match Ps x y,iW xs ys with
  |some a,some b=>some (a && b)
  |_,_=>none
 |_,_=>none
def flatK:Nat->TypeId->Option (List KD)
 |0,_=>none
 |d+1,t=>match get T t with
  |some ti=>match ti.d with
   | .int k=>bif Nat.beq ti.size 1 then some [.i k]else none
   | .bool=>bif Nat.beq ti.size 1 then some [.b]else none
   | .string=>bif Nat.beq ti.size 1 then some [.s]else none
   | .struct fs=>bif ti.eq then(match flatFs (flatK d) 0 fs.toList with|some l=>bif Nat.beq l.length ti.size then some l else none|none=>none)else none
   | .array n e=>match flatK d e,get T e with
    |some l,some te=>bif Nat.beq l.length te.size && Nat.beq (List.replicate n l).flatten.length ti.size then some ((List.replicate n l).flatten)else none
    |_,_=>none
   |_=>none
  |none=>none
 where
 flatFs (g:TypeId->Option (List KD)):Nat->List Field->Option (List KD)
  |_,[]=>some []
  |off,f::fs=>match g f.type,get T f.type with
   |some l,some tf=>bif Nat.beq f.offset off && Nat.beq l.length tf.size && !(f.name== "_")then
     (match flatFs g (off+l.length) fs with|some m=>some (l++m)|none=>none)
    else none
   |_,_=>none
def au:List KD->List DV->Bool
 |[],[]=>true
 | .i k::ks, .int k' _::ds=>decide (k=k') && au ks ds
 | .b::ks, .bool _::ds=>au ks ds
 | .s::ks, .str _::ds=>au ks ds
 |_,_=>false
def GI (op:BinOp) (t:TypeId) (xs ys:List CV):Option Eff:=
 match flatK T 8 t,rE xs,rE ys with
 |some ks,some ds,some es=>
  bif au ks ds && au ks es then
   match op,iW ds es with
   | .eql,some b=>fo (.bool b)
   | .neq,some b=>fo (.bool (!b))
   |_,_=>none
  else none
 |_,_,_=>none
def Oa (op:BinOp) (d:TypeDesc) (x y:DV):Option Eff:=
 match op,d,x,y with
 | .eql, .slice _, .sl (some n) _ _ _, .sl (some false) _ 0 _=>fo (.bool (!n))
 | .neq, .slice _, .sl (some n) _ _ _, .sl (some false) _ 0 _=>fo (.bool n)
 |_,_,_,_=>none
def JU (t:TypeId):DV->Bool
 | .bool _=>match get T t with
  |some ti=>match ti.d with| .bool=>true|_=>false
  |none=>false
 |_=>true
def Pp:SV->Bool
 | .one _=>true
 |_=>false
def zX (l:List DV) (j:Nat):DV:=l.getD j .nilp
def Rv:List CV->List CV->Prop
 |[],[]=>True
 |z::zs,c::cs=>(∀ρ F w v,dW ρ F w z v->dW ρ F w c v)/\Rv zs cs
 |_,_=>False
theorem Rv.refl: ∀l:List CV,Rv l l
 |[]=>trivial
 |_::l=> ⟨fun _ _ _ _ h=>h,Rv.refl l⟩
theorem Rv.aaF: ∀{zs cs:List CV},Rv zs cs-> ∀{ρ:Nat->Option Pl} {F:Nat->Prop} {w:World} {vs:List Value},bO ρ F w zs vs->bO ρ F w cs vs
 |[],[],_,_,_,_,_,h=>h
 |z::zs,c::cs,⟨h1,h2⟩,_,_,_,vs,h=>by
  cases vs with
  |nil=>exact h.elim
  |cons v vs=>exact⟨h1 _ _ _ _ h.1,h2.aaF h.2⟩
 |[],_::_,h,_,_,_,_,_=>h.elim
 |_::_,[],h,_,_,_,_,_=>h.elim
theorem Rv.slice (e:Nat) (f g:Nat->Nat->DV):Rv [.d (.sl (some false) 0 0 f)] [.d (.sl none e 0 g)]:=by
 refine⟨?_,trivial⟩;rintro ρ F w v ⟨a,cap,hv,h1,h2,h3,h4,h5⟩;exact⟨a,cap,hv,(fun h=>by cases h),(fun h=>by cases h),h3,h4,fun ad ha=> ⟨(h5 ad ha).1,fun i hi=>by omega⟩⟩
theorem Rv.sv {agg:Bool} {zs cs:List CV} {s:SV} (h:Rv zs cs) (hs:kT agg cs=some s): ∃s0,kT agg zs=some s0/\ ∀ρ F w v,fP ρ F w s0 v->fP ρ F w s v:=by
 cases agg with
 |true=>cases hs;exact⟨_,rfl,fun ρ F w v ⟨vs,e,hr⟩=> ⟨vs,e,h.aaF hr⟩⟩
 |false=>
  match cs,zs,h,hs with
  |[c],[z],⟨h,_⟩,hs=>cases hs;exact⟨_,rfl,fun ρ F w v hr=>h _ _ _ _ hr⟩
structure ku (ks:List KD) (ksz vsz len:Nat) (key:Nat->Nat->DV) (val:Nat->Nat->CV) (kd:List DV) (zero:List CV) (ok:Bool) (cs:List CV):Prop where
 kinds: ∀i,i<len->au ks (bV (key i) 0 ksz)=true
 res:(ok=true/\ ∃i,i<len/\iW kd (bV (key i) 0 ksz)=some true/\(∀i',i'<i->iW kd (bV (key i') 0 ksz)=some false)/\cs=eG (val i) 0 vsz)\/
  (ok=false/\(∀i,i<len->iW kd (bV (key i) 0 ksz)=some false)/\Rv zero cs)
structure jH (ks:List KD) (ksz vsz len:Nat) (key:Nat->Nat->DV) (val:Nat->Nat->CV) (kd:List DV) (vd:List CV) (ms:List Nat) (len':Nat) (key':Nat->Nat->DV) (val':Nat->Nat->CV):Prop where
 kinds: ∀i,i<len->au ks (bV (key i) 0 ksz)=true
 bR: ∀i,i<len'-> ∀j,j<vsz-> ∀x∈(val' i j).bR,x∈ms
 res: ∃i,(∀i',i'<i->iW kd (bV (key i') 0 ksz)=some false)/\((i<len/\iW kd (bV (key i) 0 ksz)=some true/\len'=len)\/(i=len/\len'=len+1))/\
  bV (key' i) 0 ksz=kd/\eG (val' i) 0 vsz=vd/\ ∀i',i'<len->i'≠i->bV (key' i') 0 ksz=bV (key i') 0 ksz/\eG (val' i') 0 vsz=eG (val i') 0 vsz
def Aw (fresh:Nat) (an:jB) (d:TypeDesc) (obs:List (Option (Option Ob))):Option Eff:=
 match d,obs with
 | .map K V,[none]=>
  match get T K,get T V with
  |some tk,some tv=>match an with
   | .gput _=>(match tv.d with| .slice E=>some ⟨[], .v (.one (.mp fresh)),[(fresh,some (.gm K V E [] none))]⟩|_=>none)
   | .map _ key val ms=>some ⟨[], .v (.one (.mp fresh)),[(fresh,some (.map ⟨K,V,tk.agg,tv.agg,tk.size,tv.size,0,key,val,ms⟩))]⟩
   |_=>some ⟨[], .v (.one (.mp fresh)),[(fresh,some (.map ⟨K,V,tk.agg,tv.agg,tk.size,tv.size,0,fun _ _=> .nilp,fun _ _=> .d .nilp,[]⟩))]⟩
  |_,_=>none
 |_,_=>none
def vC:SV->Bool
 | .agg _=>true
 | .one _=>false
def mapOf:TV->List (Option (Option Ob))->Option (Nat × NZ)
 | .v (.one (.mp b)),[some (some (.map m))]=>some (b,m)
 |_,_=>none
def uG (T:List (Nat × TI)) (d:TypeDesc):Bool:=
 match d with
 | .int _| .bool| .string=>true
 | .array _ e=>match get T e with|some te=>(match te.d with| .int _| .bool=>true|_=>false)|none=>false
 |_=>false
def keyOf (K V:TypeId) (m:NZ) (k:TV):Option (TI × TI × List KD × List DV):=
 match k with
 | .v ks=>
  match get T K,get T V,flatK T 8 K,rE (cellsOf ks)with
  |some tk,some tv,some kk,some kd=>
   bif Nat.beq K m.K && Nat.beq V m.V && (m.kagg==tk.agg) && (m.vagg==tv.agg) && Nat.beq m.ksz tk.size && Nat.beq m.vsz tv.size && au kk kd && (vC ks==tk.agg) && uG T tk.d then some (tk,tv,kk,kd)else none
  |_,_,_,_=>none
 |_=>none
def Dn (an:jB) (d:TypeDesc) (x k:TV) (commaOk:Bool) (obs:List (Option (Option Ob))):Option Eff:=
 match d with
 | .map K V=>
  match mapOf x obs with
  |some (_,m)=>
   match keyOf T K V m k with
   |some (_,tv,kk,kd)=>
    match an with
    | .look ok cs=>
     match qa tv.zero,kT tv.agg cs with
     |some z,some s=>some ⟨[ku kk m.ksz m.vsz m.len m.key m.val kd (z.map .d) ok cs],bif commaOk then .eZ [s, .one (.d (.bool ok))]else .v s,[]⟩
     |_,_=>none
    |_=>none
   |none=>none
  |none=>none
 |_=>none
def qw (an:jB) (d:TypeDesc) (x k v:TV) (obs:List (Option (Option Ob))):Option Eff:=
 match d with
 | .map K V=>
  match mapOf x obs with
  |some (b,m)=>
   match keyOf T K V m k with
   |some (_,tv,kk,kd)=>
    match an with
    | .map len' key' val' ms=>
     match v with
     | .v vs=>bif vC vs==tv.agg then some ⟨[jH kk m.ksz m.vsz m.len m.key m.val kd (cellsOf vs) ms len' key' val'], .eZ [],[(b,some (.map {m with len:=len',key:=key',val:=val',ms:=ms}))]⟩else none
     |_=>none
    |_=>none
   |none=>none
  |none=>none
 |_=>none
def Yu (K V K' V' E:TypeId):Bool:=
 match get T K,get T V,get T E with
 |some tk,some tv,some te=>Nat.beq K K' && Nat.beq V V' && (match tk.d with| .int .i64=>true|_=>false) && Nat.beq tk.size 1 && (match tv.d with| .slice E'=>Nat.beq E E'|_=>false) && Nat.beq te.size 1 && !tv.agg && !tk.agg && Nat.beq tv.size 1 && (match qa tv.zero with|some [.sl (some false) _ 0 _]=>true|_=>false)
 |_,_,_=>false
def EY (c:Nat) (row:List Int) (d:TypeDesc) (x k:TV) (commaOk:Bool) (obs:List (Option (Option Ob))):Option Eff:=
 match d,x,k,commaOk,obs with
 | .map K V, .v (.one (.mp b)), .v (.one (.d (.int .i64 n))),false,[some (some (.gm K' V' E l none)),none]=>
  bif Yu T K V K' V' E then
   some ⟨[row=qE n l], .v (.one (.own c false row.length)),[(b,some (.gm K' V' E l (some (n, .own c false row.length)))),(c,some (.arr E 1 row.length (zT row)))]⟩
  else none
 |_,_,_,_,_=>none
def Kw (row:List Int) (d:TypeDesc) (x k v:TV) (obs:List (Option (Option Ob))):Option Eff:=
 match d,x,k,v,obs with
 | .map K V, .v (.one (.mp b)), .v (.one (.d (.int .i64 n))), .v (.one (.own c _ m)),[some (some (.gm K' V' E l ov)),some (some (.arr E1 esz1 n1 el1))]=>
  bif Yu T K V K' V' E && Nat.beq E1 E && Nat.beq esz1 1 && !(Nat.beq b c)then
   some ⟨[m=n1,n1=row.length,aI n1 1 el1 (zT row),∀n0 c0,ov=some (n0,c0)->n0=n], .eZ [],[(b,some (.gm K' V' E (nP n row l) none)),(c,none)]⟩
  else none
 |_,_,_,_,_=>none
def Dq (x i:TV):Option Eff:=
 match x,i with
 | .v (.one (.d (.str s))), .v (.one (.d (.int _ n)))=>some ⟨[0<=n/\n<s.size], .v (.one (.d (.int .u8 ((aJ s).getD n.toNat 0)))),[]⟩
 |_,_=>none
inductive UA where
 |lo (l:Int)
 |hi (h:Int)
 |all
 |bo (l h:Int)
def Uv:Option TV->Option TV->Option UA
 |some (.v (.one (.d (.int _ l)))),none=>some (.lo l)
 |none,some (.v (.one (.d (.int _ h))))=>some (.hi h)
 |none,none=>some .all
 |some (.v (.one (.d (.int _ l)))),some (.v (.one (.d (.int _ h))))=>some (.bo l h)
 |_,_=>none
def ny (esz:Nat) (nn:Option Bool) (len:Nat) (el:Nat->Nat->DV):UA->Option Eff
 | .lo l=>some ⟨[0<=l/\l<=len], .v (.one (.d (.sl nn esz (len - l.toNat) fun i j=>el (i+l.toNat) j))),[]⟩
 | .hi h=>some ⟨[0<=h/\h<=len], .v (.one (.d (.sl nn esz h.toNat el))),[]⟩
 | .all=>some ⟨[], .v (.one (.d (.sl nn esz len el))),[]⟩
 | .bo l h=>some ⟨[0<=l/\l<=h/\h<=len], .v (.one (.d (.sl nn esz (h.toNat - l.toNat) fun i j=>el (i+l.toNat) j))),[]⟩
def Dt (fresh b:Nat) (an:jB) (E esz n len:Nat) (nn:Bool) (el:Nat->Nat->DV) (bd:UA):Option Eff:=
 match an with
 | .arr len' el'=>
  match bd with
  | .lo l=>some ⟨[n=len,0<=l/\l<=len,len'=len - l.toNat,aI (len - l.toNat) esz (fun i j=>el (i+l.toNat) j) el'], .v (.one (.own fresh nn len')),[(fresh,some (.arr E esz len' el')),(b,none)]⟩
  | .hi h=>some ⟨[n=len,0<=h/\h<=len,len'=h.toNat,aI h.toNat esz el el'], .v (.one (.own fresh nn len')),[(fresh,some (.arr E esz len' el')),(b,none)]⟩
  |_=>none
 | .cells=>
  match bd with
  | .lo l=>bif Nat.ble 1 esz then some ⟨[n=len,0<=l/\l<=len], .v (.one (.own fresh nn (len - l.toNat))),[(fresh,some (.suf b l.toNat esz))]⟩else none
  |_=>none
 |_=>none
def GK (fresh:Nat) (an:jB) (d:TypeDesc) (x:TV) (lo hi:Option TV) (obs:List (Option (Option Ob))):Option Eff:=
 match Uv lo hi with
 |none=>none
 |some bd=>
  match d with
  | .slice e=>
   match get T e with
   |none=>none
   |some te=>
    match x with
    | .v (.one (.d (.sl nn esz len el)))=>(match obs with|[]=>bif Nat.beq esz te.size then ny esz nn len el bd else none|_=>none)
    | .v (.one (.own b nn n))=>(match obs with|[some (some (.arr E esz len el)),none]=>bif Nat.beq esz te.size then Dt fresh b an E esz n len nn el bd else none|_=>none)
    |_=>none
  | .string=>(match x,obs with
   | .v (.one (.d (.str s))),[]=>(match bd with
    | .lo l=>some ⟨[0<=l/\l<=s.size], .v (.one (.d (.str (jh s l.toNat s.size)))),[]⟩
    | .hi h=>some ⟨[0<=h/\h<=s.size], .v (.one (.d (.str (jh s 0 h.toNat)))),[]⟩
    | .bo l h=>some ⟨[0<=l/\l<=h/\h<=s.size], .v (.one (.d (.str (jh s l.toNat h.toNat)))),[]⟩
    | .all=>none)
   |_,_=>none)
  | .array n e=>
   match get T e,bd with
   |some te, .all=>
    match x with
    | .v (.one (.ptr b off))=>
     (match obs with
     |[some (some (.cells E cs))]=>(match rE cs with
      |some ds=>bif Nat.ble (off+n*te.size) ds.length then
        some ⟨[], .v (.one (.d (.sl (some true) te.size n fun i j=>ds.getD (off+(i*te.size+j)) .nilp))),[(b,some (.fcells E ds))]⟩else none
      |none=>none)
     |_=>none)
    | .v (.one (.d (.ip m c)))=>(match obs with|[]=>bif Nat.ble (n*te.size) m && Nat.ble 1 (n*te.size)then some ⟨[], .v (.one (.d (.sl (some true) te.size n fun i j=>c (i*te.size+j)))),[]⟩else none|_=>none)
    |_=>none
   |some te, .lo l=>
    match x with
    | .v (.one (.opt b esz i off))=>(match obs with
     |[some (some (.arr _ esz' len _)),none]=>bif Nat.beq esz 1 && Nat.beq esz' 1 && Nat.beq te.size 1 && Nat.beq i 0 && Nat.beq off 0 then
       some ⟨[n=len,0<=l/\l<n], .v (.one (.own fresh true (n - l.toNat))),[(fresh,some (.suf b l.toNat 0))]⟩else none
     |_=>none)
    |_=>none
   |_,_=>none
  |_=>none
def CX (op:BinOp) (d:TypeDesc):Option Eff:=
 match d,op with
 | .pointer _, .eql=>fo (.bool false)
 | .pointer _, .neq=>fo (.bool true)
 |_,_=>none
def Pt (v:Bool) (op:BinOp) (d:TypeDesc) (y:DV):Option Eff:=
 match y,d,op with
 | .nilp, .pointer _, .eql=>fo (.bool v)
 | .nilp, .pointer _, .neq=>fo (.bool (!v))
 |_,_,_=>none
def Dw (fresh:Nat) (an:jB) (d:TypeDesc) (x lo hi mx:TV) (obs:List (Option (Option Ob))):Option Eff:=
 match d,x,lo,hi,mx,obs,an with
 | .slice e, .v (.one (.d (.sl _ esz len el))), .v (.one (.d (.int _ l))), .v (.one (.d (.int _ h))), .v (.one (.d (.int _ m))),[none], .arr len' el'=>
  match get T e with
  |some te=>bif Nat.beq esz te.size then some ⟨[0<=l/\l<h/\h<=len,h=m,len'=h.toNat - l.toNat,aI len' esz (fun i j=>el (i+l.toNat) j) el'], .v (.one (.own fresh true len')),[(fresh,some (.frow true e esz len' el'))]⟩else none
  |none=>none
 |_,_,_,_,_,_,_=>none
def Jp:Option Operand->List TV->Option (Option TV × List TV)
 |none,xs=>some (none,xs)
 |some _,x::xs=>some (some x,xs)
 |some _,[]=>none
def Tm (fresh:Nat) (an:jB) (o:Op) (xs:List TV) (obs:List (Option (Option Ob))):Option Eff:=
 match o with
 | .move _| .assign _=>match xs,obs with|[x],[]=>some ⟨[],x,[]⟩|_,_=>none
 | .alloc E=>match get T E,obs with
  |some ti,[none]=>(match qa ti.zero with
   |some z=>(match an with
    | .arr len el=>bif Nat.ble ti.size 1000 && Nat.beq ti.zero.length ti.size then some ⟨[len=ti.size,aI ti.size 1 (fun i _=>z.getD i .nilp) el], .v (.one (.opt fresh 1 0 0)),[(fresh,some (.arr E 1 len el))]⟩else none
    |_=>some ⟨[], .v (.one (.ptr fresh 0)),[(fresh,some (.cells E (z.map .d)))]⟩)
   |none=>none)
  |_,_=>none
 | .box E _=>match xs,obs with
  |[.v s],[none]=>some ⟨[], .v (.one (.ptr fresh 0)),[(fresh,some (.cells E (cellsOf s)))]⟩
  |_,_=>none
 | .build t parts=>match get T t,obs with|some ti,[]=>FE T ti parts.toList xs|_,_=>none
 | .buildSlice t len parts=>match get T t with|some ti=>sK T fresh an ti.d len parts.toList xs obs|none=>none
 | .load t _=>match get T t,xs with|some ti,[a]=>(match an with| .vals ds=>ES ti ds a obs| .take c=>JN c ti a obs|_=>Co ti a obs)|_,_=>none
 | .store t _ _=>match get T t,xs with|some ti,[a,x]=>(match an with| .vals ds=>DI ti ds a x obs| .rows _ el=>NI el ti a x obs|_=>xk an ti a x obs)|_,_=>none
 | .makeMap t none=>match get T t with|some ti=>Aw T fresh an ti.d obs|none=>none
 | .lookup t _ _ ok=>match get T t,xs with|some ti,[x,k]=>(match an with| .gtk c row=>EY T c row ti.d x k ok obs|_=>Dn T an ti.d x k ok obs)|_,_=>none
 | .mapUpdate t _ _ _=>match get T t,xs with|some ti,[x,k,v]=>(match an with| .gput row=>Kw T row ti.d x k v obs|_=>qw T an ti.d x k v obs)|_,_=>none
 | .insert t _ _ _=>match get T t,xs with|some ti,[x,k,v]=>qw T an ti.d x k v obs|_,_=>none
 | .slice t _ lo hi none=>match get T t,xs with
  |some ti,x::r=>match Jp lo r with
   |some (l,r1)=>match Jp hi r1 with
    |some (h,[])=>GK T fresh an ti.d x l h obs
    |_=>none
   |none=>none
  |_,_=>none
 | .slice t _ (some _) (some _) (some _)=>match get T t,xs with
  |some ti,[x,l,h,m]=>Dw T fresh an ti.d x l h m obs
  |_,_=>none
 | .index t _ _=>match get T t,xs,obs with
  |some ti,[x,i],[]=>(match ti.d with| .string=>Dq x i|_=>(match an with| .vals ds=>DC T ds ti.d x i|_=>none))
  |_,_,_=>none
 | .nilCheck _=>match xs,obs with
  |[.v (.one (.d (.ip n c)))],[]=>fo (.ip n c)
  |[.v (.one (.ptr b o))],[]=>some ⟨[], .v (.one (.ptr b o)),[]⟩
  |[.v (.one (.opt b e i o))],[]=>some ⟨[], .v (.one (.opt b e i o)),[]⟩
  |[.v (.one (.d (.fn f n c)))],[]=>fo (.fn f n c)
  |[.v (.one (.d (.fna f n c)))],[]=>fo (.fna f n c)
  |[.v (.one (.fn f nf n c))],[]=>some ⟨[], .v (.one (.fn f nf n c)),[]⟩
  |[.v (.one (.yl b))],[]=>some ⟨[], .v (.one (.yl b)),[]⟩
  |_,_=>none
 | .binOp op t _ _ _=>match xs,obs with
  |[.v (.one (.d x)), .v (.one (.d y))],[]=>(match x with
   | .sl _ _ _ _=>(match get T t with|some ti=>Oa op ti.d x y|none=>none)
   | .ip _ _=>(match get T t with|some ti=>Pt false op ti.d y|none=>none)
   | .nilp=>(match get T t with|some ti=>Pt true op ti.d y|none=>none)
   |_=>bif JU T t x then Xn op x y else none)
  |[.v (.agg xs), .v (.agg ys)],[]=>(match get T t with|some ti=>bif ti.agg && ti.eq then GI T op t xs ys else none|none=>none)
  |[.v (.one (.ptr _ _)), .v (.one (.d .nilp))],[]=>(match get T t with|some ti=>CX op ti.d|none=>none)
  |_,_=>none
 | .unOp op _ _=>match xs,obs with|[.v (.one (.d x))],[]=>unE op x|_,_=>none
 | .convert s d _=>match get T s,get T d,xs,obs with
  |some ts,some td,[.v (.one (.d (.int _ n)))],[]=>(match ts.d,td.d with| .int _, .int k=>fo (.int k (k.wrap n))|_,_=>none)
  |some ts,some td,[.v (.one (.d (.sl _ 1 n el)))],[]=>(match ts.d,td.d,an with
   | .slice e, .string, .vals ds=>(match get T e with|some te=>(match te.d with| .int .u8=>some ⟨[0<n,n=ds.length,aI n 1 el fun i _=>ds.getD i .nilp,ds.all Ce=true], .v (.one (.d (.str (S9 ds)))),[]⟩|_=>none)|none=>none)
   |_,_,_=>none)
  |some _,some td,[.v (.one (.d (.str x)))],[]=>(match td.d with
   | .slice e=>(match get T e with|some te=>(match te.d with| .int .u8=>fo (.sl (some true) 1 (aJ x).length fun i _=> .int .u8 ((aJ x).getD i 0))|_=>none)|none=>none)
   |_=>none)
  |_,_,_,_=>none
 | .makeFunc (.func f) first _=>match iJ xs,obs with
  |some l,[]=>bif l.all Pp then(match first.size,rE (l.flatMap cellsOf)with
   |0,some ds=>fo (.fn f ds.length (zX ds))
   |_,_=>some ⟨[], .v (.one (.fn f first.size (l.flatMap cellsOf).length fun j=>(l.flatMap cellsOf).getD j (.d .nilp))),[]⟩)else(match l with|[.agg cs]=>bif Nat.beq first.size 1 then(match rE cs with|some ds=>fo (.fna f ds.length (zX ds))|none=>none)else none|_=>none)
  |_,_=>none
 | .makeSlice t _ _=>match get T t,xs with|some ti,[l,c]=>J9 T fresh an ti.d l c obs|_,_=>none
 | .fieldAddr s _ f=>match get T s,xs,obs with|some ti,[a],[]=>Fj T ti.d a f|_,_,_=>none
 | .field t _ f=>match get T t,xs,obs with|some ti,[x],[]=>KA T ti.d x f|_,_,_=>none
 | .indexAddr t _ _=>match get T t,xs,obs with|some ti,[x,i],[]=>uN T ti.d x i|_,_,_=>none
 | .extract _ ix=>match xs,obs with|[.eZ l],[]=>(match l[ix]? with|some s=>some ⟨[], .v s,[]⟩|none=>none)|_,_=>none
 | .call c=>match c.callee with
  | .builtin b=>Gj T fresh an b c.argTypes xs obs
  | .value _=>match xs with
   | .v (.one (.d (.fn f n cap)))::args=>jO Fn an (.fn f) (args++(takeC cap 0 n).map (fun c=> .v (.one c))) obs
   | .v (.one (.d (.fna f n cap)))::args=>jO Fn an (.fn f) (.v (.agg (takeC cap 0 n))::args) obs
   | .v (.one (.fn f nf n cap))::args=>bif Nat.ble nf n then jO Fn an (.fn f) ((eG cap 0 nf).map (fun c=> .v (.one c))++args++(eG cap nf (n - nf)).map (fun c=> .v (.one c))) obs else none
   | .v (.one (.yl b))::args=>jO Fn an (.yl b) args obs
   |_=>none
  |_=>none
 |_=>none
end
def rD (F:Nat->Prop) (w:World) (k base cap E esz len:Nat) (el:Nat->Nat->DV):Prop:=
 ∃vs:List Value,w.heap[k]? =some (.cells (List.toArray vs) E (0,0))/\base+cap*esz<=vs.length/\len<=cap/\cap<=maxLen/\
  ∀i,i<len-> ∀j,j<esz-> ∃u,vs[base+(i*esz+j)]? =some u/\bG F w (el i j) u
def gY (F:Nat->Prop) (w:World) (S:Nat->Prop) (rb:Option Nat):EV->Value->Prop
 | .d x,v=>bG F w x v
 | .row E esz len el,v=>(len=0/\v= .slice none 0 0)\/ ∃k base cap,rb=some k/\S k/\v= .slice (some ⟨k,base,none⟩) len cap/\rD F w k base cap E esz len el
def yR (ρ:Nat->Option Pl) (F:Nat->Prop) (w:World) (S:Nat->Prop) (rb:Nat->Nat->Option Nat) (el:Nat->Nat->EV) (ov:Option (Nat × Nat × CV)) (i j:Nat) (v:Value):Prop:=
 match ov with
 |none=>gY F w S (rb i j) (el i j) v
 |some (i0,j0,c)=>if i=i0/\j=j0 then dW ρ F w c v else gY F w S (rb i j) (el i j) v
def xq (ρ:Nat->Option Pl) (F:Nat->Prop) (w:World) (S:Nat->Prop) (rb:Nat->Option Nat) (E:TypeId) (l:List (Int × List Int)) (ov:Option (Int × CV)) (i:Nat) (v:Value):Prop:=
 match ov with
 |none=>gY F w S (rb i) (Ni E (l.getD i default).2) v
 |some (n,c)=>if(l.getD i default).1=n then dW ρ F w c v else gY F w S (rb i) (Ni E (l.getD i default).2) v
def tO (ρ:Nat->Option Pl) (F:Nat->Prop) (w:World) (agg:Bool) (sz:Nat) (c:Nat->CV) (v:Value):Prop:=
 ∃s,kT agg (eG c 0 sz)=some s/\fP ρ F w s v
def lF (st:Nat):LoopState:=match st with|0=> .ready|1=> .busy|_=> .done
def gy (outs:List Code) (st:Nat):Option Code:=match st with|n+2=>outs[n]? |_=>none
def zu (ρ:Nat->Option Pl) (b k base cap l esz:Nat):Prop:=
 if esz=0 then∃cap2,ρ b=some (.blk k (base+l) cap2)else ρ b=some (.blk k (if cap=l then base else base+l*esz) (cap - l))
def jv (ρ:Nat->Option Pl) (F:Nat->Prop) (w:World) (S:Nat->Prop) (b:Nat):Ob->Prop
 | .cells E cs=> ∃k cap vs,ρ b=some (.blk k 0 cap)/\S k/\w.heap[k]? =some (.cells (List.toArray vs) E (0,0))/\bO ρ F w cs vs
 | .fcells _ ds=> ∃k base cap,ρ b=some (.blk k base cap)/\ ∀j x,ds[j]? =some x->F k/\ ∃u,w.cell? ⟨k,base+j,none⟩=some u/\bG F w x u
 | .arr E esz len el=>(ρ b=some .nil/\len=0)\/ ∃k base cap,ρ b=some (.blk k base cap)/\S k/\rD F w k base cap E esz len el
 | .rows E esz len el ov=>(ρ b=some .nil/\len=0)\/ ∃k base cap,∃vs:List Value,∃rb:Nat->Nat->Option Nat,ρ b=some (.blk k base cap)/\S k/\w.heap[k]? =some (.cells (List.toArray vs) E (0,0))/\base+cap*esz<=vs.length/\len<=cap/\cap<=maxLen/\
   (∀i,i<len-> ∀j,j<esz-> ∃u,vs[base+(i*esz+j)]? =some u/\yR ρ F w S rb el ov i j u)/\
   (∀i j i' j' k',rb i j=some k'->rb i' j'=some k'->i=i'/\j=j')/\(∀i j,rb i j≠some k)
 | .map m=> ∃k base cap es,ρ b=some (.blk k base cap)/\S k/\w.heap[k]? =some (.map es es.size)/\es.size=m.len/\(∀i,i<m.len-> ∀j,j<m.vsz-> ∀x∈(m.val i j).bR,x∈m.ms)/\
   ∀i,i<m.len-> ∃e,es[i]? =some e/\e.born=i/\tO ρ F w m.kagg m.ksz (fun j=> .d (m.key i j)) e.key/\tO ρ F w m.vagg m.vsz (m.val i) e.val
 | .loop r st sl=> ∃k base cap fn tmps D,ρ b=some (.blk k base cap)/\S k/\st<r.outs.length+2/\
   w.heap[k]? =some (.loop {state:=lF st,pending:=gy r.outs st,fn,tmps,params:=r.ps.toArray,assign:=r.assign,body:=r.body,defers:=D})/\
   tmps.size=r.N/\ ∀t tv,get sl t=some tv-> ∃v,tmps[t]? =some v/\bE ρ F w tv v
 | .coll=> ∃k base cap,ρ b=some (.blk k base cap)/\S k/\w.heap[k]? =some (.deferred (some []))
 | .gm _ _ E l ov=> ∃k base cap es,∃rb:Nat->Option Nat,ρ b=some (.blk k base cap)/\S k/\w.heap[k]? =some (.map es es.size)/\es.size=l.length/\
   (∀i,i<l.length-> ∃e,es[i]? =some e/\e.born=i/\e.key= .int .i64 (l.getD i default).1/\xq ρ F w S rb E l ov i e.val)/\
   (∀i i' k',rb i=some k'->rb i'=some k'->i=i')/\(∀i,rb i≠some k)/\(l.map (·.1)).Nodup
 | .frow fu _ esz len el=> ∃k base cap,ρ b=some (.blk k base cap)/\(len<=cap/\(fu=true->cap=len))/\ ∀i,i<len-> ∀j,j<esz->F k/\ ∃u,w.cell? ⟨k,base+(i*esz+j),none⟩=some u/\bG F w (el i j) u
 | .suf b0 l esz=>(ρ b0=some .nil/\ρ b=some .nil/\l=0)\/ ∃k base cap,ρ b0=some (.blk k base cap)/\l<=cap/\zu ρ b k base cap l esz
structure Base where
 w:World
 ρ:Nat->Option Pl
 F:Nat->Prop
 Ft:Nat->Prop
 mb:Nat
 df:List Deferred
structure OD (w' w:World):Prop where
 out:w'.output=w.output
 dr:True
theorem OD.refl (w:World):OD w w:=⟨rfl,trivial⟩
theorem OD.trans {w w' w'':World} (h:OD w'' w') (g:OD w' w):OD w'' w:=⟨h.out.trans g.out,trivial⟩
def GL (F:Nat->Prop) (w:World):Prop:= ∀x∈Ra,F x.1/\ ∃l E fz,w.heap[x.1]? =some (.cells (List.toArray l) E fz)/\x.2 l
structure Fr (B:Base) (ρ:Nat->Option Pl) (F:Nat->Prop) (w:World):Prop where
 os:w.os=B.w.os
 tape:w.tape=B.w.tape
 output:OD w B.w
 size:B.w.heap.size<=w.heap.size
 mem: ∀k,k<B.w.heap.size-> ¬ B.Ft k->w.heap[k]? =B.w.heap[k]?
 rho: ∀b p,B.ρ b=some p->ρ b=some p
 fz: ∀k,F k->k<w.heap.size/\(B.F k\/B.Ft k\/B.w.heap.size<=k)
 bf: ∀k,B.F k->F k
structure nG (B:Base) (ρ:Nat->Option Pl) (F:Nat->Prop) (w:World) (h:Hp) (ft:Nat->Nat->Prop):Prop where
 obj: ∀b ob,h b=some (some ob)->jv ρ F w (ft b) b ob
 blk: ∀b ob k,h b=some (some ob)->ft b k->k<w.heap.size/\ ¬ F k/\(B.Ft k\/B.w.heap.size<=k)
 dis: ∀b b' ob ob' k,h b=some (some ob)->h b'=some (some ob')->ft b k->ft b' k->b=b'
 fresh: ∀b,h b=none->ρ b=none
 gl:GL F w
def HI (B:Base) (ρ:Nat->Option Pl) (F:Nat->Prop) (w:World) (h:Hp):Prop:= ∃ft,nG B ρ F w h ft
theorem HI.fresh {B:Base} {ρ:Nat->Option Pl} {F:Nat->Prop} {w:World} {h:Hp} (hi:HI B ρ F w h): ∀b,h b=none->ρ b=none:=by
 obtain⟨ft,hi⟩:=hi;exact hi.fresh
def Base.up (B:Base):Base:=⟨B.w,B.ρ,B.F,B.Ft,B.w.heap.size,[]⟩
theorem Fr.dn {B:Base} {ρ:Nat->Option Pl} {F:Nat->Prop} {w:World} (h:Fr B.up ρ F w):Fr B ρ F w:=⟨h.os,h.tape,h.output,h.size,h.mem,h.rho,h.fz,h.bf⟩
theorem HI.dn {B:Base} {ρ:Nat->Option Pl} {F:Nat->Prop} {w:World} {h:Hp} (hi:HI B.up ρ F w h):HI B ρ F w h:=by
 obtain⟨ft,hi⟩:=hi;exact⟨ft,hi.obj,hi.blk,hi.dis,hi.fresh,hi.gl⟩
theorem HI.up {B:Base} {ρ:Nat->Option Pl} {F:Nat->Prop} {w:World} {h:Hp} (hi:HI B ρ F w h):HI B.up ρ F w h:=by
 obtain⟨ft,hi⟩:=hi;exact⟨ft,hi.obj,hi.blk,hi.dis,hi.fresh,hi.gl⟩
def upd (h:Hp) (hd:List (Nat × Option Ob)):Hp:=fun b=>match get hd b with|some o=>some o|none=>h b
theorem VH (h:Hp):upd h []=h:=rfl
def aR (l:List (Nat × Option Ob)):Hp:=get l
def Enters (P:Program) (f:FuncId):Prop:= ∃fn,P.funcs[f]? =some fn/\(fn.name== "runtime.NumGoroutine")=false/\fn.body.isNone=false
def Fn (P:Program) (f:FuncId) (args:List SV) (hin:List (Nat × Option Ob)) (res:TV) (hout:List (Nat × Option Ob)):Prop:=
 Enters P f/\ ∀(B:Base) (vs:List Value),(∀k,B.F k->k<B.w.heap.size)->HI B B.ρ B.F B.w (aR hin)->dK B.ρ B.F B.w args vs->
  Calls P f vs.toArray B.w fun e w'=> ∃v ρ' F',e= .returned v/\Fr B ρ' F' w'/\HI B ρ' F' w' (aR hout)/\bE ρ' F' w' res v
def FW (r:Option Nat):Fence:={Fence.wide with round:=r}
def EO:Op->Bool
 | .defer _=>true
 |_=>false
theorem oD {P:Program} {o:Oper} {a:Act} {w:World} {K:Act->World->Prop} {Q:Exit->Act->World->Prop} (r:Option Nat) (hd:EO o.op=false) (h:o.wp P a w K Q):o.wpIn (FW r) 0 P a w K Q:=by
 refine⟨fun _ _=>trivial, ?_⟩;rw [show o.semAt (FW r).round a.eval=execOp a.eval o from Oper.semAt_eq _ _ _ (fun c hc=>by rw [hc]at hd;cases hd)];have key: ∀{f:FuncId} {args:Array Value} {w':World} {R:Ending->World->Prop},Calls P f args w' R->CallsIn (FW r) (0 - 1) P f args w' R:=fun hc=>(callsIn_wide.2 hc:CallsIn Fence.wide 0 P _ _ _ _);unfold Oper.wp at h;generalize (execOp a.eval o).run P w=res at h;unfold Oper.upon at h;unfold Oper.uponIn;split at h;·exact h
 ·exact h
 ·exact h
 ·exact⟨fun hh=>by simp [FW,Fence.wide]at hh,key h⟩
 ·refine⟨fun hh=>by simp [FW,Fence.wide]at hh,fun c cs _=> ?_⟩;obtain⟨v,w',h1,h2⟩:=h c cs;exact⟨v,w',h1,stepsIn_wide.2 h2⟩
 ·exact h
 ·exact h.elim
def Good (P:Program) (B:Base) (ρ:Nat->Option Pl) (F:Nat->Prop) (w:World) (h:Hp) (o:Oper) (a:Act) (tv:TV) (hd:List (Nat × Option Ob)):Prop:=
 ∀(r:Option Nat) (K:Act->World->Prop) (Q:Exit->Act->World->Prop),
  (∀v ρ' F' w',Gr ρ F w ρ' F' w'->Fr B ρ' F' w'->HI B ρ' F' w' (upd h hd)->bE ρ' F' w' tv v->K (a.put o.dst v) w')->o.wpIn (FW r) 0 P a w K Q
def dS (ρ:Nat->Option Pl) (F:Nat->Prop) (w:World):List TV->List Value->Prop
 |[],[]=>True
 |c::cs,v::vs=>bE ρ F w c v/\dS ρ F w cs vs
 |_,_=>False
def All:List Prop->Prop
 |[]=>True
 |c::cs=>c/\All cs
section
variable {P:Program} {B:Base} {ρ:Nat->Option Pl} {F:Nat->Prop} {w:World} {h:Hp} {o:Oper} {a:Act}
theorem J6 {tv:TV} {hd:List (Nat × Option Ob)} (hn:EO o.op=false) (hg: ∀(K:Act->World->Prop) (Q:Exit->Act->World->Prop),
  (∀v ρ' F' w',Gr ρ F w ρ' F' w'->Fr B ρ' F' w'->HI B ρ' F' w' (upd h hd)->bE ρ' F' w' tv v->K (a.put o.dst v) w')->o.wp P a w K Q):Good P B ρ F w h o a tv hd:=
 fun r K Q hK=>oD r hn (hg K Q hK)
theorem kg {x:Next} {w':World} (hrun:(execOp a.eval o).run P w= .ok x w') (hx: ∀d,x≠ .defer d):EO o.op=false:=by
 cases ho:o.op<;>try rfl
 rename_i c;simp only [execOp,ho]at hrun;exfalso;revert hrun;rw [eE];cases(resolve a.eval c o.type).run P w with
 |halt _ _=>intro hh;cases hh
 |ok d w1=>
  simp only [eC];intro hh;simp at hh;exact hx d hh.1.symm
theorem aG {tv:TV} {v:Value} (fr:Fr B ρ F w) (hi:HI B ρ F w h) (hrun:(execOp a.eval o).run P w= .ok (.value v) w) (hr:bE ρ F w tv v):Good P B ρ F w h o a tv []:=by
 refine J6 (kg hrun (fun _ h=>by cases h)) fun K Q hK=> ?_;simp only [Oper.wp,hrun,Oper.upon];exact hK v ρ F w (.refl _ _ _) fr hi hr
theorem bI {tv:TV} {hd:List (Nat × Option Ob)} {v:Value} {ρ':Nat->Option Pl} {F':Nat->Prop} {w':World} (g:Gr ρ F w ρ' F' w') (fr:Fr B ρ' F' w') (hi:HI B ρ' F' w' (upd h hd))
  (hrun:(execOp a.eval o).run P w= .ok (.value v) w') (hr:bE ρ' F' w' tv v):Good P B ρ F w h o a tv hd:=by
 refine J6 (kg hrun (fun _ h=>by cases h)) fun K Q hK=> ?_;simp only [Oper.wp,hrun,Oper.upon];exact hK v ρ' F' w' g fr hi hr
theorem qD {hd:List (Nat × Option Ob)} {ρ':Nat->Option Pl} {F':Nat->Prop} {w':World} (g:Gr ρ F w ρ' F' w') (fr:Fr B ρ' F' w') (hi:HI B ρ' F' w' (upd h hd))
  (hrun:(execOp a.eval o).run P w= .ok .skip w'):Good P B ρ F w h o a (.eZ []) hd:=by
 refine J6 (kg hrun (fun _ h=>by cases h)) fun K Q hK=> ?_;simp only [Oper.wp,hrun,Oper.upon];exact hK undef ρ' F' w' g fr hi ⟨[],rfl,trivial⟩
theorem dS.one {x:TV} {vs:List Value} (h:dS ρ F w [x] vs): ∃v,vs=[v]/\bE ρ F w x v:=by
 match vs,h with
 |[v],⟨h,_⟩=>exact⟨v,rfl,h⟩
theorem dS.two {x y:TV} {vs:List Value} (h:dS ρ F w [x,y] vs): ∃v u,vs=[v,u]/\bE ρ F w x v/\bE ρ F w y u:=by
 match vs,h with
 |[v,u],⟨h,h',_⟩=>exact⟨v,u,rfl,h,h'⟩
theorem aK {t:TypeId} {ti:TI} (h:fA P t ti):(underlying t).run P w= .ok ti.d w:=by
 simp [underlying,h.1]
theorem dL {t:TypeId} {ti:TI} (h:fA P t ti):(Go.sizeOf t).run P w= .ok ti.size w:=by
 obtain⟨_,i,z,hi,hs,_⟩:=h;simp [Go.sizeOf,typeInfo,hi,hs]
theorem H6 {t:TypeId} {ti:TI} (h:fA P t ti): ∃i z,(typeInfo t).run P w= .ok i w/\P.info? t=some i/\i.size=ti.size/\i.bytes=ti.bytes/\i.zero=some z/\z.cells.toList=ti.zero:=by
 obtain⟨_,i,z,hi,h⟩:=h;exact⟨i,z,by simp [typeInfo,hi],hi,h⟩
theorem ru {t:TypeId} {ti:TI} (h:fA P t ti):(isAgg t).run P w= .ok ti.agg w:=by
 rw [isAgg,eE,aK h];simp only [eC,TI.agg];cases ti.d<;>rfl
theorem qz {t:TypeId} {ti:TI} (h:fA P t ti): ∃z,(zeroValue t).run P w= .ok z w/\z.cells.toList=ti.zero:=by
 obtain⟨i,z,h1,_,_,_,h2,h3⟩:=H6 (w:=w) h;exact⟨z,by simp [zeroValue,h1,h2],h3⟩
theorem eO (k off n:Nat):(⟨k,off,none⟩:Addr).add n=⟨k,off+n,none⟩:=by
 unfold Addr.add;split<;>simp_all
theorem oJ {ad:Addr} (h:ad.spot=none) (n:Nat):ad.add n=⟨ad.block,ad.off+n,none⟩:=by
 cases ad;simp at h;subst h;exact eO _ _ _
theorem iT {t:TypeId} {ti:TI} (ht:fA P t ti) {k off:Nat} {cs:List CV} {s:SV} (hs:kT ti.agg cs=some s) (hl:cs.length=ti.size)
  (hc: ∀j c,cs[j]? =some c-> ∃u,w.cell? ⟨k,off+j,none⟩=some u/\dW ρ F w c u): ∃v,(loadVar t ⟨k,off,none⟩).run P w= .ok v w/\fP ρ F w s v:=by
 have hex: ∃vs:List Value,bO ρ F w cs vs/\ ∀j v,vs[j]? =some v->w.cell? ⟨k,off+j,none⟩=some v:=by
  clear hl hs ht;induction cs generalizing off with
  |nil=>exact⟨[],trivial,by simp⟩
  |cons c cs ih=>
   obtain⟨u,hu,hr⟩:=hc 0 c rfl;obtain⟨vs,h1,h2⟩:=ih (off:=off+1) fun j c' hj=>by
    obtain⟨u',hu',hr'⟩:=hc (j+1) c' (by simpa using hj);exact⟨u',by rw [show off+1+j=off+(j+1) by omega];exact hu',hr'⟩
   refine⟨u::vs,⟨hr,h1⟩,fun j v hj=> ?_⟩;cases j with
   |zero=>simp at hj;subst hj;simpa using hu
   |succ j=>simp at hj;have:=h2 j v hj;rw [show off+(j+1)=off+1+j by omega];exact this
 obtain⟨vs,hv,hcell⟩:=hex;rw [loadVar,eE,ru ht];simp only [eC];cases hagg:ti.agg with
 |true=>
  rw [hagg]at hs;simp [kT]at hs;subst hs;refine⟨.agg vs.toArray, ?_,vs,rfl,hv⟩;simp only [if_true,eE,dL ht,eC];have:=run_loadCells_list (P:=P) (w:=w) ⟨k,off,none⟩ vs fun j v hj=>by rw [eO];exact hcell j v hj
  rw [<-hl,<-hv.length];rw [this];simp
 |false=>
  rw [hagg]at hs
  match cs,hs,hl,vs,hv,hcell with
  |[c],hs,hl,[v],hv,hcell=>
   simp [kT]at hs;subst hs;refine⟨v, ?_,hv.1⟩;have:=hcell 0 v rfl;simp at this;simp [this]
end
section
variable {P:Program} {B:Base} {ρ ρ':Nat->Option Pl} {F F':Nat->Prop} {w w':World} {h:Hp} {o:Oper} {a:Act}
theorem bG.oneCell: ∀{x:DV} {v:Value},bG F w x v->v.oneCell'=true
 | .int _ _,_,e=>by cases e;rfl
 | .bool _,_,e=>by cases e;rfl
 | .str _,_,e=>by cases e;rfl
 | .nilp,_,e=>by cases e;rfl
 | .nilf,_,e=>by cases e;rfl
 | .nilm,_,e=>by cases e;rfl
 | .sl _ _ _ _,_,⟨_,_,e,_⟩=>by cases e;rfl
 | .ip _ _,_,⟨_,e,_⟩=>by cases e;rfl
 | .fn _ _ _,_,⟨_,e,_⟩=>by cases e;rfl
 | .fna _ _ _,_,⟨_,e,_⟩=>by cases e;rfl
theorem dW.oneCell: ∀{c:CV} {v:Value},dW ρ F w c v->v.oneCell'=true
 | .d _,_,e=>bG.oneCell e
 | .ptr _ _,_,⟨_,_,_,_,e⟩=>by cases e;rfl
 | .opt _ _ _ _,_,⟨_,_,_,_,e⟩=>by cases e;rfl
 | .own _ _ _,_, .inl ⟨_,_,_,_,e⟩=>by cases e;rfl
 | .own _ _ _,_, .inr ⟨_,_,_,e⟩=>by cases e;rfl
 | .mp _,_,⟨_,_,_,_,e⟩=>by cases e;rfl
 | .fn _ _ _ _,_,⟨_,e,_⟩=>by cases e;rfl
 | .yl _,_,⟨_,_,_,_,e⟩=>by cases e;rfl
theorem bO.oneCell: ∀{cs:List CV} {vs:List Value},bO ρ F w cs vs-> ∀u∈vs,u.oneCell'=true
 |[],[],_,_,h=>by simp at h
 |_::_,_::_,⟨h,t⟩,u,hu=>by
  rcases ej.1 hu with rfl|hu;·exact h.oneCell
  ·exact bO.oneCell t u hu
 |[],_::_,h,_,_=>h.elim
 |_::_,[],h,_,_=>h.elim
theorem zh {v:Value} (h:v.oneCell'=true):v.cells= #[v]:=by cases v<;>first|rfl|cases h
theorem fP.cells: ∀{s:SV} {v:Value},fP ρ F w s v->bO ρ F w (cellsOf s) v.cells.toList
 | .one c,v,h=>by rw [zh (dW.oneCell h)];exact⟨h,trivial⟩
 | .agg cs,_,⟨vs,e,h⟩=>by subst e;exact h
theorem rD.keep {k base cap E esz len:Nat} {el:Nat->Nat->DV} (g:Gr ρ F w ρ' F' w') (hb:w'.heap[k]? =w.heap[k]?) (h:rD F w k base cap E esz len el):rD F' w' k base cap E esz len el:=by
 obtain⟨vs,h1,h2,h3,h4,h5⟩:=h;exact⟨vs,hb ▸ h1,h2,h3,h4,fun i hi j hj=>by obtain⟨u,hu,hr⟩:=h5 i hi j hj;exact⟨u,hu,bG.gr g.fz g.mem hr⟩⟩
theorem gY.keep {S S':Nat->Prop} (g:Gr ρ F w ρ' F' w') (hS: ∀k,S k->S' k) (hb: ∀k,S k->w'.heap[k]? =w.heap[k]?) {rb:Option Nat}: ∀{x:EV} {v:Value},gY F w S rb x v->gY F' w' S' rb x v
 | .d _,_,h=>bG.gr g.fz g.mem h
 | .row _ _ _ _,_, .inl h=> .inl h
 | .row _ _ _ _,_, .inr ⟨k,base,cap,h1,h2,h3,h4⟩=> .inr ⟨k,base,cap,h1,hS k h2,h3,h4.keep g (hb k h2)⟩
theorem yR.keep {S S':Nat->Prop} (g:Gr ρ F w ρ' F' w') (hS: ∀k,S k->S' k) (hb: ∀k,S k->w'.heap[k]? =w.heap[k]?) {rb:Nat->Nat->Option Nat} {el:Nat->Nat->EV} {ov:Option (Nat × Nat × CV)} {i j:Nat} {v:Value}
  (h:yR ρ F w S rb el ov i j v):yR ρ' F' w' S' rb el ov i j v:=by
 unfold yR at h ⊢;split;·exact gY.keep g hS hb h
 ·rename_i i0 j0 c;by_cases e:i=i0/\j=j0
  ·rw [cj e];simp only [cj e]at h;exact h.gr g
  ·rw [ci e];simp only [ci e]at h;exact gY.keep g hS hb h
theorem xq.keep {S S':Nat->Prop} (g:Gr ρ F w ρ' F' w') (hS: ∀k,S k->S' k) (hb: ∀k,S k->w'.heap[k]? =w.heap[k]?) {rb:Nat->Option Nat} {E:TypeId} {l:List (Int × List Int)} {ov:Option (Int × CV)} {i:Nat} {v:Value}
  (h:xq ρ F w S rb E l ov i v):xq ρ' F' w' S' rb E l ov i v:=by
 unfold xq at h ⊢;split;·exact gY.keep g hS hb h
 ·rename_i n c;by_cases e:(l.getD i default).1=n
  ·rw [cj e];simp only [cj e]at h;exact h.gr g
  ·rw [ci e];simp only [ci e]at h;exact gY.keep g hS hb h
theorem tO.keep (g:Gr ρ F w ρ' F' w') {agg:Bool} {sz:Nat} {c:Nat->CV} {v:Value} (h:tO ρ F w agg sz c v):tO ρ' F' w' agg sz c v:=by
 obtain⟨s,h1,h2⟩:=h;exact⟨s,h1,h2.gr g⟩
theorem zu.mono {ρ ρ':Nat->Option Pl} {b b' k base cap l esz:Nat} (h:zu ρ b k base cap l esz) (g: ∀p,ρ b=some p->ρ' b'=some p):zu ρ' b' k base cap l esz:=by
 unfold zu at h ⊢;by_cases e:esz=0;·rw [cj e]at h ⊢;obtain⟨c,h⟩:=h;exact⟨c,g _ h⟩
 ·rw [ci e]at h ⊢;exact g _ h
theorem jv.keep {S S':Nat->Prop} (g:Gr ρ F w ρ' F' w') (hS: ∀k,S k->S' k) {b:Nat} (hb: ∀k,S k->w'.heap[k]? =w.heap[k]?): ∀{ob:Ob},jv ρ F w S b ob->jv ρ' F' w' S' b ob
 | .cells _ _,⟨k,cap,vs,h1,h0,h2,h3⟩=> ⟨k,cap,vs,g.rho _ _ h1,hS k h0,by rw [hb k h0];exact h2,h3.gr g⟩
 | .fcells _ _,⟨k,base,cap,h1,h2⟩=> ⟨k,base,cap,g.rho _ _ h1,fun j x hx=>by
   obtain⟨hf,u,hu,hr⟩:=h2 j x hx;exact⟨g.fz _ hf,u,by rw [cell_of_heap (g.mem _ hf)];exact hu,bG.gr g.fz g.mem hr⟩⟩
 | .frow _ _ _ _ _,⟨k,base,cap,h1,h0,h2⟩=> ⟨k,base,cap,g.rho _ _ h1,h0,fun i hi j hj=>by
   obtain⟨hf,u,hu,hr⟩:=h2 i hi j hj;exact⟨g.fz _ hf,u,by rw [cell_of_heap (g.mem _ hf)];exact hu,bG.gr g.fz g.mem hr⟩⟩
 | .arr _ _ _ _, .inl ⟨h1,h2⟩=> .inl ⟨g.rho _ _ h1,h2⟩
 | .arr _ _ _ _, .inr ⟨k,base,cap,h1,h0,h2⟩=> .inr ⟨k,base,cap,g.rho _ _ h1,hS k h0,h2.keep g (hb k h0)⟩
 | .rows _ _ _ _ _, .inl ⟨h1,h2⟩=> .inl ⟨g.rho _ _ h1,h2⟩
 | .rows _ _ _ _ _, .inr ⟨k,base,cap,vs,rb,h1,h0,h2,h3,h4,h5,h6,h7,h8⟩=> .inr ⟨k,base,cap,vs,rb,g.rho _ _ h1,hS k h0,by rw [hb k h0];exact h2,h3,h4,h5,fun i hi j hj=>by
   obtain⟨u,hu,hr⟩:=h6 i hi j hj;exact⟨u,hu,hr.keep g hS hb⟩,h7,h8⟩
 | .map _,⟨k,base,cap,es,h1,h0,h2,h3,h5,h4⟩=> ⟨k,base,cap,es,g.rho _ _ h1,hS k h0,by rw [hb k h0];exact h2,h3,h5,fun i hi=>by
   obtain⟨e,e1,e2,e3,e4⟩:=h4 i hi;exact⟨e,e1,e2,e3.keep g,e4.keep g⟩⟩
 | .loop _ _ _,⟨k,base,cap,fn,tmps,D,h1,h0,h2,h3,h4,h5⟩=> ⟨k,base,cap,fn,tmps,D,g.rho _ _ h1,hS k h0,h2,by rw [hb k h0];exact h3,h4,fun t tv ht=>by
   obtain⟨v,e1,e2⟩:=h5 t tv ht;exact⟨v,e1,e2.gr g⟩⟩
 | .coll,⟨k,base,cap,h1,h0,h2⟩=> ⟨k,base,cap,g.rho _ _ h1,hS k h0,by rw [hb k h0];exact h2⟩
 | .gm _ _ _ _ _,⟨k,base,cap,es,rb,h1,h0,h2,h3,h4,h5⟩=> ⟨k,base,cap,es,rb,g.rho _ _ h1,hS k h0,by rw [hb k h0];exact h2,h3,fun i hi=>by
   obtain⟨e,e1,e2,e3,e4⟩:=h4 i hi;exact⟨e,e1,e2,e3,e4.keep g hS hb⟩,h5⟩
 | .suf _ _ _, .inl ⟨h1,h2,h3⟩=> .inl ⟨g.rho _ _ h1,g.rho _ _ h2,h3⟩
 | .suf _ _ _, .inr ⟨k,base,cap,h1,h2,h3⟩=> .inr ⟨k,base,cap,g.rho _ _ h1,h2,h3.mono fun p=>g.rho _ _⟩
theorem GL.gr (g:Gr ρ F w ρ' F' w') (h:GL F w):GL F' w':=fun x hx=> ⟨g.fz _ (h x hx).1,by rw [g.mem _ (h x hx).1];exact(h x hx).2⟩
theorem nG.step {h':Hp} {ft ft':Nat->Nat->Prop} (hi:nG B ρ F w h ft) (g:Gr ρ F w ρ' F' w') (fr:Fr B ρ F w) (hsz:w.heap.size<=w'.heap.size) (C:Nat->Prop)
  (hk: ∀b ob, ¬ C b->h' b=some (some ob)->h b=some (some ob)/\(∀k,ft b k->w'.heap[k]? =w.heap[k]?)/\ ∀k,ft' b k↔ft b k)
  (hc: ∀b ob,C b->h' b=some (some ob)->jv ρ' F' w' (ft' b) b ob)
  (hcf: ∀b ob k,C b->h' b=some (some ob)->ft' b k->(∃b0 ob0,C b0/\h b0=some (some ob0)/\ft b0 k)\/(w.heap.size<=k/\k<w'.heap.size))
  (hdis: ∀b b' ob ob' k,C b->C b'->h' b=some (some ob)->h' b'=some (some ob')->ft' b k->ft' b' k->b=b')
  (hF: ∀k,F' k->F k\/((∃b0 ob0,C b0/\h b0=some (some ob0)/\ft b0 k)/\ ∀b ob,C b->h' b=some (some ob)-> ¬ ft' b k)\/(w.heap.size<=k/\ ∀b ob,C b->h' b=some (some ob)-> ¬ ft' b k))
  (hfresh: ∀b,h' b=none->ρ' b=none):nG B ρ' F' w' h' ft':=by
 have old: ∀b ob k,C b->h' b=some (some ob)->ft' b k->(∃b0 ob0,C b0/\h b0=some (some ob0)/\ft b0 k/\k<w.heap.size/\ ¬ F k/\(B.Ft k\/B.w.heap.size<=k))\/(w.heap.size<=k/\k<w'.heap.size):=fun b ob k hb hh hf=>by
  rcases hcf b ob k hb hh hf with⟨b0,ob0,c0,e0,f0⟩|hn;·obtain⟨x,y,z⟩:=hi.blk b0 ob0 k e0 f0;exact .inl ⟨b0,ob0,c0,e0,f0,x,y,z⟩
  ·exact .inr hn
 refine⟨fun b ob hb=> ?_,fun b ob k hb hf=> ?_,fun b1 b2 o1 o2 k h1 h2 f1 f2=> ?_,hfresh,hi.gl.gr g⟩
 ·by_cases c:C b
  ·exact hc b ob c hb
  ·obtain⟨e1,e2,e3⟩:=hk b ob c hb;exact(hi.obj b ob e1).keep g (fun k hk=>(e3 k).2 hk) e2
 ·by_cases c:C b
  ·rcases old b ob k c hb hf with⟨b0,ob0,c0,e0,f0,x,y,z⟩|⟨x,y⟩
   ·refine⟨by omega,fun hf'=> ?_,z⟩;rcases hF k hf' with q|⟨_,q⟩|⟨_,q⟩
    ·exact y q
    ·exact q b ob c hb hf
    ·exact q b ob c hb hf
   ·have hBs:=fr.size;refine⟨y,fun hf'=> ?_, .inr (by omega)⟩;rcases hF k hf' with q|⟨_,q⟩|⟨_,q⟩
    ·have:=(fr.fz k q).1;omega
    ·exact q b ob c hb hf
    ·exact q b ob c hb hf
  ·obtain⟨e1,e2,e3⟩:=hk b ob c hb;obtain⟨x,y,z⟩:=hi.blk b ob k e1 ((e3 k).1 hf);refine⟨by omega,fun hf'=> ?_,z⟩;rcases hF k hf' with q|⟨⟨b0,ob0,c0,e0,f0⟩,_⟩|⟨q,_⟩
   ·exact y q
   ·exact c (hi.dis b b0 ob ob0 k e1 e0 ((e3 k).1 hf) f0 ▸ c0)
   ·omega
 ·by_cases c1:C b1<;>by_cases c2:C b2
  ·exact hdis b1 b2 o1 o2 k c1 c2 h1 h2 f1 f2
  ·obtain⟨e1,e2,e3⟩:=hk b2 o2 c2 h2;rcases old b1 o1 k c1 h1 f1 with⟨b0,ob0,c0,e0,f0,_⟩|⟨x,y⟩
   ·exact absurd (hi.dis b2 b0 o2 ob0 k e1 e0 ((e3 k).1 f2) f0 ▸ c0) c2
   ·have:=(hi.blk b2 o2 k e1 ((e3 k).1 f2)).1;omega
  ·obtain⟨e1,e2,e3⟩:=hk b1 o1 c1 h1;rcases old b2 o2 k c2 h2 f2 with⟨b0,ob0,c0,e0,f0,_⟩|⟨x,y⟩
   ·exact absurd (hi.dis b1 b0 o1 ob0 k e1 e0 ((e3 k).1 f1) f0 ▸ c0) c1
   ·have:=(hi.blk b1 o1 k e1 ((e3 k).1 f1)).1;omega
  ·obtain⟨e1,_,e3⟩:=hk b1 o1 c1 h1;obtain⟨e2,_,e4⟩:=hk b2 o2 c2 h2;exact hi.dis b1 b2 o1 o2 k e1 e2 ((e3 k).1 f1) ((e4 k).1 f2)
def bN (ρ:Nat->Option Pl) (b:Nat) (p:Pl):Nat->Option Pl:=fun b'=>if b'=b then some p else ρ b'
theorem av (b:Nat) (p:Pl):bN ρ b p b=some p:=by simp [bN]
theorem aT {b:Nat} {p:Pl} (hb:ρ b=none): ∀b' p',ρ b'=some p'->bN ρ b p b'=some p':=by
 intro b' p' h;unfold bN;split;·rename_i e;subst e;rw [hb]at h;cases h
 ·exact h
structure Push (w w':World) (ob:Obj):Prop where
 heap:w'.heap=w.heap.push ob
 os:w'.os=w.os
 tape:w'.tape=w.tape
 output:OD w' w
theorem Push.alloc (w:World) (ob:Obj):Push w (w.alloc ob) ob:=⟨rfl,rfl,rfl,⟨rfl,trivial⟩⟩
theorem Push.uQ (w:World) (ob:Obj):Push w (w.drew.alloc ob) ob:=⟨rfl,rfl,rfl,⟨rfl,trivial⟩⟩
theorem Push.old {ob:Obj} (p:Push w w' ob) {k:Nat} (hk:k<w.heap.size):w'.heap[k]? =w.heap[k]? :=by
 rw [p.heap,eL];split;·omega
 ·rfl
theorem Push.new {ob:Obj} (p:Push w w' ob):w'.heap[w.heap.size]? =some ob:=by rw [p.heap];simp
theorem Push.sz {ob:Obj} (p:Push w w' ob):w'.heap.size=w.heap.size+1:=by rw [p.heap];simp
theorem Push.gr {ob:Obj} (p:Push w w' ob) (fr:Fr B ρ F w) {b:Nat} {pl:Pl} (hb:ρ b=none):Gr ρ F w (bN ρ b pl) F w':=
 ⟨aT hb,fun _ h=>h,fun k hk=>p.old (fr.fz k hk).1⟩
theorem Push.fr {ob:Obj} (p:Push w w' ob) (fr:Fr B ρ F w) {b:Nat} {pl:Pl} (hb:ρ b=none):Fr B (bN ρ b pl) F w' where
 os:=p.os.trans fr.os
 tape:=p.tape.trans fr.tape
 output:=p.output.trans fr.output
 size:=by have:=fr.size;rw [p.sz];omega
 mem:=fun k hk hn=>(p.old (by have:=fr.size;omega)).trans (fr.mem k hk hn)
 rho:=fun b' p' e=>aT hb b' p' (fr.rho b' p' e)
 fz:=fun k hk=> ⟨by have:=(fr.fz k hk).1;rw [p.sz];omega,(fr.fz k hk).2⟩
 bf:=fr.bf
theorem jT (b:Nat) (x:Option Ob) (b':Nat):upd h [(b,x)] b'=if b=b' then some x else h b':=by
 by_cases e:b=b'<;>simp [upd,aA,get_nil,e]
theorem yF (b:Nat) (x:Option Ob) (c:Nat) (y:Option Ob) (b':Nat):upd h [(b,x),(c,y)] b'=if b=b' then some x else if c=b' then some y else h b':=by
 by_cases e:b=b'<;>by_cases e':c=b'<;>simp [upd,aA,get_nil,e,e']
theorem BG {hd:List (Nat × Option Ob)} {b:Nat}:upd h hd b=match get hd b with|some o=>some o|none=>h b:=rfl
def tK (ft:Nat->Nat->Prop) (b:Nat) (S:Nat->Prop):Nat->Nat->Prop:=fun b'=>if b'=b then S else ft b'
theorem bP (ft:Nat->Nat->Prop) (b:Nat) (S:Nat->Prop):tK ft b S b=S:=by simp [tK]
theorem gI {ft:Nat->Nat->Prop} {b b':Nat} {S:Nat->Prop} (e:b'≠b):tK ft b S b'=ft b':=by simp [tK,e]
theorem Push.hi {ob:Obj} (p:Push w w' ob) (fr:Fr B ρ F w) (hi:HI B ρ F w h) {b base cap:Nat} {nob:Ob} (hb:h b=none)
  (hr:jv (bN ρ b (.blk w.heap.size base cap)) F w' (fun k=>k=w.heap.size) b nob):HI B (bN ρ b (.blk w.heap.size base cap)) F w' (upd h [(b,some nob)]):=by
 have hρ:=hi.fresh b hb;obtain⟨ft,hi⟩:=hi;have g:=p.gr fr (pl:= .blk w.heap.size base cap) hρ;have hu: ∀b',upd h [(b,some nob)] b'=if b=b' then some (some nob)else h b':=fun b'=>jT _ _ _
 have hns: ∀ob0, ¬ h b=some (some ob0):=fun ob0 e=>by rw [hb]at e;cases e
 refine⟨tK ft b fun k=>k=w.heap.size,hi.step g fr (by rw [p.sz];omega) (fun b'=>b'=b) (fun b' ob' e hh=> ?_) (fun b' ob' e hh=> ?_) (fun b' ob' k e hh hf=> ?_) (fun b1 b2 o1 o2 k e1 e2 _ _ _ _=>e1.trans e2.symm) (fun k hk=> .inl hk) fun b' hh=> ?_⟩
 ·rw [hu,ci (Ne.symm e)]at hh;refine⟨hh,fun k hk=>p.old (hi.blk b' ob' k hh hk).1,fun k=>by rw [gI e]⟩
 ·subst e;rw [hu,cj rfl]at hh;cases hh;rw [bP];exact hr
 ·subst e;rw [bP]at hf;subst hf;exact .inr ⟨cz _,by rw [p.sz];omega⟩
 ·rw [hu]at hh;split at hh
  ·cases hh
  ·rename_i e;rw [show bN ρ b (.blk w.heap.size base cap) b'=ρ b' by simp [bN,Ne.symm e]];exact hi.fresh b' hh
structure Put (w w':World) (k:Nat):Prop where
 size:w'.heap.size=w.heap.size
 old: ∀j,j≠k->w'.heap[j]? =w.heap[j]?
 os:w'.os=w.os
 tape:w'.tape=w.tape
 output:OD w' w
theorem Put.setRow (w:World) (k:Nat) (cs:Array Value):Put w (w.setRow k cs) k:=⟨by simp,fun j hj=>setRow_other w k j cs hj,rfl,rfl,⟨rfl,trivial⟩⟩
theorem Put.gr {k:Nat} (p:Put w w' k) (hk: ¬ F k):Gr ρ F w ρ F w':=⟨fun _ _ h=>h,fun _ h=>h,fun j hj=>p.old j fun e=>hk (e ▸ hj)⟩
theorem Put.fr {k:Nat} (p:Put w w' k) (fr:Fr B ρ F w) (ho:B.Ft k\/B.w.heap.size<=k):Fr B ρ F w' where
 os:=p.os.trans fr.os
 tape:=p.tape.trans fr.tape
 output:=p.output.trans fr.output
 size:=by rw [p.size];exact fr.size
 mem:=fun j hj hn=>(p.old j fun e=>by
  subst e;rcases ho with hb|hle;·exact hn hb
  ·omega).trans (fr.mem j hj hn)
 rho:=fr.rho
 fz:=fun j hj=>by rw [p.size];exact fr.fz j hj
 bf:=fr.bf
theorem Put.hi {k:Nat} (p:Put w w' k) (fr:Fr B ρ F w) {ft:Nat->Nat->Prop} (hi:nG B ρ F w h ft) {b:Nat} {ob nob:Ob} {S:Nat->Prop} (hb:h b=some (some ob)) (hk:ft b k) (hS: ∀k,S k->ft b k)
  (hr:jv ρ F w' S b nob):nG B ρ F w' (upd h [(b,some nob)]) (tK ft b S):=by
 have hkk:=(hi.blk b ob k hb hk).2.1;have hu: ∀b',upd h [(b,some nob)] b'=if b=b' then some (some nob)else h b':=fun b'=>jT _ _ _
 refine hi.step (p.gr hkk) fr (by rw [p.size];omega) (fun b'=>b'=b) (fun b' ob' e hh=> ?_) (fun b' ob' e hh=> ?_) (fun b' ob' k e hh hf=> ?_) (fun b1 b2 o1 o2 k e1 e2 _ _ _ _=>e1.trans e2.symm) (fun k hk=> .inl hk) fun b' hh=> ?_
 ·rw [hu,ci (Ne.symm e)]at hh;exact⟨hh,fun k' hk'=>p.old k' fun e'=>e (hi.dis b' b ob' ob k hh hb (e' ▸ hk') hk),fun k=>by rw [gI e]⟩
 ·subst e;rw [hu,cj rfl]at hh;cases hh;rw [bP];exact hr
 ·subst e;rw [bP]at hf;exact .inl ⟨b',ob,rfl,hb,hS k hf⟩
 ·rw [hu]at hh;split at hh
  ·cases hh
  ·exact hi.fresh b' hh
theorem nG.drop {ft:Nat->Nat->Prop} (hi:nG B ρ F w h ft) (b:Nat):nG B ρ F w (upd h [(b,none)]) ft:=by
 have hu: ∀b',upd h [(b,none)] b'=if b=b' then some none else h b':=by
  intro b';exact jT _ _ _
 have hne: ∀b' ob',upd h [(b,none)] b'=some (some ob')->h b'=some (some ob'):=fun b' ob' hh=>by
  rw [hu]at hh;split at hh;·cases hh
  ·exact hh
 refine⟨fun b' ob' hh=>hi.obj b' ob' (hne _ _ hh),fun b' ob' k hh=>hi.blk b' ob' k (hne _ _ hh),fun b1 b2 o1 o2 k h1 h2=>hi.dis b1 b2 o1 o2 k (hne _ _ h1) (hne _ _ h2),fun b' hh=> ?_,hi.gl⟩;rw [hu]at hh;split at hh;·cases hh
 ·exact hi.fresh b' hh
theorem HI.drop (hi:HI B ρ F w h) (b:Nat):HI B ρ F w (upd h [(b,none)]):=by
 obtain⟨ft,hi⟩:=hi;exact⟨ft,hi.drop b⟩
theorem gG (c:Nat->DV): ∀i n,(takeC c i n).length=n
 |_,0=>rfl
 |i,n+1=>by simp [takeC,gG c (i+1) n]
theorem lM (c:Nat->DV): ∀i n j x,(takeC c i n)[j]? =some x->j<n/\x= .d (c (i+j))
 |_,0,j,x,h=>by simp [takeC]at h
 |i,n+1,j,x,h=>by
  cases j with
  |zero=>simp [takeC]at h;exact⟨by omega,h.symm⟩
  |succ j=>
   simp [takeC]at h;obtain⟨h1,h2⟩:=lM c (i+1) n j x h;exact⟨by omega,by rw [h2];congr 2;omega⟩
end
section
variable {P:Program} {B:Base} {ρ ρ':Nat->Option Pl} {F F':Nat->Prop} {w w':World} {h:Hp} {o:Oper} {a:Act} {T:List (Nat × TI)}
theorem bW {k:Nat} {vs:List Value} {E:TypeId} {fr:Nat × Nat} (hk:w.heap[k]? =some (.cells vs.toArray E fr)) (j:Nat):w.cell? ⟨k,j,none⟩=vs[j]? :=by
 simp [World.cell?,hk]
theorem yH {t:TypeId} {x:Operand} (hop:o.op= .load t x) {v:Value} {ad:Addr} (hx:a.eval x= .pointer (some ad)) (hl:(loadVar t ad).run P w= .ok v w):
  (execOp a.eval o).run P w= .ok (.value v) w:=by
 simp [execOp,hop,Instr.loadAt,Instr.sureAddr,hx,hl]
theorem I7 {c:Nat->EV}: ∀{i n:Nat} {ds:List DV},Lu c i n=some ds->ds.length=n/\ ∀j x,ds[j]? =some x->c (i+j)= .d x
 |_,0,ds,h=>by simp [Lu]at h;subst h;simp
 |i,n+1,ds,h=>by
  simp only [Lu]at h;split at h
  ·rename_i x l h1 h2;cases h;obtain⟨e1,e2⟩:=I7 h2;refine⟨by simp [e1],fun j y hj=> ?_⟩;cases j with
   |zero=>simp at hj;subst hj;exact h1
   |succ j=>simp at hj;have:=e2 j y hj;rw [show i+(j+1)=i+1+j by omega];exact this
  ·cases h
theorem KE {t:TypeId} {x:Operand} {ti:TI} {xa:TV} {va:Value} {obs:List (Option (Option Ob))} {E:Eff} (ht:fA P t ti) (he:Co ti xa obs=some E) (hc:All E.conds)
  (hobs:obs=(foot .none 0 (.load t x) [xa]).map h) (hi:HI B ρ F w h) (hx:bE ρ F w xa va):E.hd=[]/\ ∃ad v,va= .pointer (some ad)/\(loadVar t ad).run P w= .ok v w/\bE ρ F w E.tv v:=by
 obtain⟨ft,hi⟩:=hi;have cellsAt: ∀{k:Nat} {vs:List Value} {E:TypeId} {cs:List CV} {off:Nat} {s:SV},w.heap[k]? =some (.cells vs.toArray E (0,0))->bO ρ F w cs vs->off+ti.size<=cs.length->kT ti.agg ((cs.drop off).take ti.size)=some s->
   ∃v,(loadVar t ⟨k,off,none⟩).run P w= .ok v w/\bE ρ F w (.v s) v:=by
  intro k vs E cs off s h2 h3 hle hsv;exact iT (P:=P) (ρ:=ρ) (F:=F) (w:=w) ht hsv (by simp;omega) (k:=k) (off:=off) fun j cv hj=>by
   rw [List.getElem?_take]at hj;split at hj
   ·rw [List.getElem?_drop]at hj;obtain⟨u,hu,hr⟩:=h3.get hj;exact⟨u,by rw [bW h2];exact hu,hr⟩
   ·cases hj
 unfold Co at he;split at he
 ·-- immutable cells
  rename_i n c;obtain⟨ad,hv,hs,hcell⟩:=hx;cases hb:Nat.ble ti.size n with
  |false=>simp [hb]at he
  |true=>
   simp only [hb,bu]at he;have hle:=cm hb;split at he
   ·rename_i s hsv;cases he;obtain⟨ak,aoff,asp⟩:=ad;simp at hs;subst hs;obtain⟨v,h1,h2⟩:=iT (P:=P) (ρ:=ρ) (F:=F) (w:=w) ht hsv (gG c 0 ti.size) (k:=ak) (off:=aoff) fun j cv hj=>by
     obtain⟨hlt,rfl⟩:=lM c 0 ti.size j cv hj;obtain⟨_,u,hu,hr⟩:=hcell j (by omega);exact⟨u,hu,by rw [cD];exact hr⟩
    exact⟨rfl,_,v,hv,h1,h2⟩
   ·cases he
 ·-- an object's cells
  rename_i b off E' cs;obtain⟨k,base,cap,hk,hv⟩:=hx;cases hb:Nat.ble (off+ti.size) cs.length with
  |false=>simp [hb]at he
  |true=>
   simp only [hb,bu]at he;have hle:=cm hb;split at he
   ·rename_i s hsv;cases he;simp [foot]at hobs;obtain⟨k',cap',vs,h1,h0,h2,h3⟩:=hi.obj b _ hobs.symm;rw [hk]at h1;cases h1;obtain⟨v,g1,g2⟩:=cellsAt h2 h3 hle hsv;rw [cD]at hv;exact⟨rfl,_,v,hv,g1,g2⟩
   ·cases he
 ·rename_i b esz i off E' esz' len el;obtain⟨k,base,cap,hk,hv⟩:=hx;cases hb:(Nat.beq esz esz' && Nat.ble (off+ti.size) esz)with
  |false=>
   simp only [hb,bv]at he;cases hb2:(Nat.beq esz 1 && Nat.beq esz' 1 && Nat.beq off 0)with
   |false=>simp [hb2]at he
   |true=>
    simp only [hb2,bu]at he;simp only [ce]at hb2;have e1:=bw hb2.1.1;have e2:=bw hb2.1.2;have e3:=bw hb2.2;subst e1;subst e2;subst e3;split at he
    ·rename_i s hsv;cases he;simp [foot]at hobs;obtain⟨hlt,hl1,_⟩:=hc;rcases hi.obj b _ hobs.symm with⟨_,h0⟩|⟨k',base',cap',h1,h0,vs,h2,h3,h4,h5,h6⟩
     ·omega
     ·rw [hk]at h1;cases h1;obtain⟨v,g1,g2⟩:=iT (P:=P) (ρ:=ρ) (F:=F) (w:=w) ht hsv (gG _ _ _) (k:=k) (off:=base+(i*1+0)) fun j cv hj=>by
       obtain⟨hlt',rfl⟩:=lM _ 0 ti.size j cv hj;obtain⟨u,hu,hr⟩:=h6 (i+j) (by omega) 0 (by omega);exact⟨u,by rw [bW h2,show base+(i*1+0)+j=base+((i+j)*1+0) by omega];exact hu,by rw [cD];exact hr⟩
      exact⟨rfl,_,v,hv,g1,g2⟩
    ·cases he
  |true=>
   simp only [hb,bu]at he;simp only [ce]at hb;have he1:=bw hb.1;have hle:=cm hb.2;subst he1;split at he
   ·rename_i s hsv;cases he;simp [foot]at hobs;obtain⟨hlt,_⟩:=hc;rcases hi.obj b _ hobs.symm with⟨_,h0⟩|⟨k',base',cap',h1,h0,vs,h2,h3,h4,h5,h6⟩
    ·omega
    ·rw [hk]at h1;cases h1;obtain⟨v,g1,g2⟩:=iT (P:=P) (ρ:=ρ) (F:=F) (w:=w) ht hsv (gG _ _ _) (k:=k) (off:=base+(i*esz+off)) fun j cv hj=>by
      obtain⟨hlt',rfl⟩:=lM _ off ti.size j cv hj;obtain⟨u,hu,hr⟩:=h6 i hlt (off+j) (by omega);exact⟨u,by rw [bW h2,show base+(i*esz+off)+j=base+(i*esz+(off+j)) by omega];exact hu,hr⟩
     exact⟨rfl,_,v,hv,g1,g2⟩
   ·cases he
 ·rename_i b esz i off E' cs;obtain⟨k,base,cap,hk,hv⟩:=hx;cases hb:Nat.ble (i*esz+off+ti.size) cs.length with
  |false=>simp [hb]at he
  |true=>
   simp only [hb,bu]at he;have hle:=cm hb;split at he
   ·rename_i s hsv;cases he;simp [foot]at hobs;obtain⟨k',cap',vs,h1,h0,h2,h3⟩:=hi.obj b _ hobs.symm;rw [hk]at h1;cases h1;obtain⟨v,g1,g2⟩:=cellsAt h2 h3 hle hsv;rw [cD]at hv;exact⟨rfl,_,v,hv,g1,g2⟩
   ·cases he
 ·rename_i b off E' ds;obtain⟨k,base,cap,hk,hv⟩:=hx;cases hb:Nat.ble (off+ti.size) ds.length with
  |false=>simp [hb]at he
  |true=>
   simp only [hb,bu]at he;have hle:=cm hb;split at he
   ·rename_i s hsv;cases he;simp [foot]at hobs;obtain⟨k',base',cap',h1,h2⟩:=hi.obj b _ hobs.symm;rw [hk]at h1;cases h1;obtain⟨v,g1,g2⟩:=iT (P:=P) (ρ:=ρ) (F:=F) (w:=w) ht hsv (by simp;omega) (k:=k) (off:=base+off) fun j cv hj=>by
     rw [du,List.getElem?_take]at hj;split at hj
     ·rw [List.getElem?_drop]at hj;cases hd:ds[off+j]? with
      |none=>rw [hd]at hj;cases hj
      |some x=>
       rw [hd]at hj;cases hj;obtain⟨_,u,hu,hr⟩:=h2 _ x hd;exact⟨u,by rw [ee];exact hu,hr⟩
     ·cases hj
    exact⟨rfl,_,v,hv,g1,g2⟩
   ·cases he
 ·rename_i b esz i off E' esz' len el ov;obtain⟨k,base,cap,hk,hv⟩:=hx;cases hb:(Nat.beq esz esz' && Nat.ble (off+ti.size) esz && NU off ti.size ov)with
  |false=>simp [hb]at he
  |true=>
   simp only [hb,bu]at he;simp only [ce]at hb;have he1:=bw hb.1.1;have hle:=cm hb.1.2;have hov:=hb.2;subst he1;split at he
   ·rename_i ds hds;obtain⟨d1,d2⟩:=I7 hds;split at he
    ·rename_i s hsv;cases he;simp [foot]at hobs;obtain⟨hlt,_⟩:=hc;rcases hi.obj b _ hobs.symm with⟨_,h0⟩|⟨k',base',cap',vs,rb,h1,h0,h2,h3,h4,h5,h6,h7⟩
     ·omega
     ·rw [hk]at h1;cases h1;obtain⟨v,g1,g2⟩:=iT (P:=P) (ρ:=ρ) (F:=F) (w:=w) ht hsv (by simp [d1]) (k:=k) (off:=base+(i*esz+off)) fun j cv hj=>by
       rw [du]at hj;cases hd:ds[j]? with
       |none=>rw [hd]at hj;cases hj
       |some x=>
        rw [hd]at hj;cases hj;have hjl:j<ds.length:=(List.getElem?_eq_some_iff.1 hd).1;obtain⟨u,hu,hr⟩:=h6 i hlt (off+j) (by omega);refine⟨u,by rw [bW h2,show base+(i*esz+off)+j=base+(i*esz+(off+j)) by omega];exact hu, ?_⟩;have hel:=d2 j x hd;have hV:gY F w (ft b) (rb i (off+j)) (el i (off+j)) u:=by
         unfold yR at hr;split at hr;·exact hr
         ·rename_i i0 j0 c0;simp only [NU,cP]at hov;have hne: ¬ (i=i0/\off+j=j0):=fun hh=>by
           rcases hov with q|q;·have:=cm q;omega
           ·have:=cm q;omega
          rw [ci hne]at hr;exact hr
        rw [hel]at hV;exact hV
      exact⟨rfl,_,v,hv,g1,g2⟩
    ·cases he
   ·cases he
 ·cases he
theorem Oj {t:TypeId} {x:Operand} {ti:TI} {xa:TV} {obs:List (Option (Option Ob))} {E:Eff} (ht:fA P t ti) (hop:o.op= .load t x) (he:Co ti xa obs=some E) (hc:All E.conds)
  (hobs:obs=(foot .none 0 (.load t x) [xa]).map h) (fr:Fr B ρ F w) (hi:HI B ρ F w h) (hx:bE ρ F w xa (a.eval x)):Good P B ρ F w h o a E.tv E.hd:=by
 obtain⟨h0,ad,v,h1,h2,h3⟩:=KE (x:=x) ht he hc hobs hi hx;rw [h0];exact aG fr hi (yH hop h1 h2) h3
theorem Ai {t:TypeId} {x y:Operand} {ti:TI} (ht:fA P t ti) (hop:o.op= .store t x y) {k off:Nat} {cur:List Value} {E:TypeId} (hx:a.eval x= .pointer (some ⟨k,off,none⟩))
  (hk:w.heap[k]? =some (.cells cur.toArray E (0,0))) {news:List Value} (hn:(a.eval y).cells.toList=news) (hl:news.length=ti.size) (hle:off+ti.size<=cur.length) (h1: ∀v∈news,v.oneCell'=true):
  (execOp a.eval o).run P w= .ok .skip (w.setRow k (cur.take off++news++cur.drop (off+ti.size)).toArray):=by
 have hs:=run_storeCells_at (P:=P) k off E news 0 cur.toArray w hk (by simp;omega) h1;have hsz:(a.eval y).cells.size=ti.size:=by rw [<-hl,<-hn];simp
 simp only [Nat.add_zero]at hs;simp only [execOp,hop,Instr.storeAt,Instr.sureAddr,hx,eE,Sem.run_pure,eC,storeVar,dL ht,hsz,ne_eq,not_true_eq_false,if_false];rw [hn,hs,hl];rfl
theorem dH {α:Type} (cur news:List α) (off:Nat) (hle:off+news.length<=cur.length) (j:Nat):
  (cur.take off++news++cur.drop (off+news.length))[j]? =if j<off then cur[j]? else if j<off+news.length then news[j - off]? else cur[j]? :=by
 have h0:(cur.take off).length=off:=by simp;omega
 rw [cR,List.getElem?_append,h0];split;·rename_i hj;rw [List.getElem?_take,cj hj]
 ·rw [List.getElem?_append];split
  ·rw [cj (by omega)]
  ·rw [ci (by omega),List.getElem?_drop];congr 1;omega
theorem bO.splice: ∀{cs:List CV} {vs:List Value} {off:Nat} {cn:List CV} {vn:List Value},bO ρ F w cs vs->bO ρ F w cn vn->off+cn.length<=cs.length->
  bO ρ F w (cs.take off++cn++cs.drop (off+cn.length)) (vs.take off++vn++vs.drop (off+vn.length)):=by
 intro cs vs off cn vn h1 h2 hle;have l1:=h1.length;have l2:=h2.length;refine bO.kL (by simp;omega) fun j c hj=> ?_;rw [dH _ _ _ hle]at hj;rw [dH _ _ _ (by omega),l2];split at hj;·rename_i e;rw [cj e];exact h1.get hj
 ·rename_i e;rw [ci e];split at hj
  ·rename_i e2;rw [cj e2];exact h2.get hj
  ·rename_i e2;rw [ci e2];exact h1.get hj
theorem iy: ∀{cs:List CV} {ds:List DV},rE cs=some ds->cs=ds.map .d
 |[],ds,hh=>by simp [rE]at hh;subst hh;rfl
 | .d x::cs,ds,hh=>by
  simp only [rE]at hh;split at hh;·rename_i l hl;cases hh;simp [iy hl]
  ·cases hh
 | .ptr _ _::_,_,hh=>by simp [rE]at hh
 | .opt _ _ _ _::_,_,hh=>by simp [rE]at hh
 | .own _ _ _::_,_,hh=>by simp [rE]at hh
 | .mp _::_,_,hh=>by simp [rE]at hh
 | .fn _ _ _ _::_,_,hh=>by simp [rE]at hh
 | .yl _::_,_,hh=>by simp [rE]at hh
theorem idx_eq {i i' j esz:Nat} {off n:Nat} (hj:j<esz) (h1:i*esz+off<=i'*esz+j) (h2:i'*esz+j<i*esz+off+n) (hn:off+n<=esz):i'=i/\off<=j/\j<off+n:=by
 have d0:i'=i:=by
  have d1:(i'*esz+j) / esz=i':=by rw [ef,Nat.mul_add_div (by omega),Nat.div_eq_of_lt hj];omega
  have d2:(i'*esz+j) / esz=i:=by
   have:i'*esz+j=i*esz+(i'*esz+j - i*esz):=by omega
   have e3: ∀r,r<esz->(i*esz+r) / esz=i:=fun r hr=>by rw [ef,Nat.mul_add_div (by omega),Nat.div_eq_of_lt hr];omega
   rw [this];exact e3 _ (by omega)
  omega
 subst d0;exact⟨rfl,by omega,by omega⟩
theorem row_in {i len cap esz off n:Nat} (h1:i<len) (h2:len<=cap) (h3:off+n<=esz):i*esz+off+n<=cap*esz:=by
 have:(i+1)*esz<=cap*esz:=cH _ (by omega);rw [eh,ei]at this;omega
theorem Ef {t:TypeId} {x y:Operand} {ti:TI} {xa xv:TV} {an:jB} {obs:List (Option (Option Ob))} {E:Eff} (ht:fA P t ti) (hop:o.op= .store t x y) (he:xk an ti xa xv obs=some E) (hc:All E.conds)
  (hobs:obs=(foot .none 0 (.store t x y) [xa,xv]).map h) (fr:Fr B ρ F w) (hi:HI B ρ F w h) (hx:bE ρ F w xa (a.eval x)) (hy:bE ρ F w xv (a.eval y)):Good P B ρ F w h o a E.tv E.hd:=by
 obtain⟨ft,hi⟩:=hi;have cellsAt: ∀{b k cap off:Nat} {cs:List CV} {E':TypeId} {s:SV},h b=some (some (.cells E' cs))->ρ b=some (.blk k 0 cap)->a.eval x= .pointer (some ⟨k,off,none⟩)->fP ρ F w s (a.eval y)->(cellsOf s).length=ti.size->off+ti.size<=cs.length->
   Good P B ρ F w h o a (.eZ []) [(b,some (.cells E' (cs.take off++cellsOf s++cs.drop (off+ti.size))))]:=by
  intro b k cap off cs E' s hob hk hv hy he1 hle;obtain⟨k',cap',vs,h1,h0,h2,h3⟩:=hi.obj b _ hob;rw [hk]at h1;cases h1;have hys:=hy.cells;have l1:=h3.length;have l2:=hys.length;have hblk:=hi.blk b _ k hob h0;have hrun:=Ai ht hop hv h2 rfl (by omega) (by omega) hys.oneCell;have pt:=Put.setRow w k (vs.take off++(a.eval y).cells.toList++vs.drop (off+ti.size)).toArray;refine qD (pt.gr hblk.2.1) (pt.fr fr hblk.2.2) ⟨_,pt.hi fr hi hob h0 (fun _ h=>h) ?_⟩ hrun;refine⟨k,cap,_,hk,h0,setRow_heap w k _ _ E' (0,0) h2, ?_⟩;have:=bO.splice h3 hys (off:=off) (by omega);rw [l2,he1]at this;exact this.gr (pt.gr hblk.2.1)
 unfold xk at he;split at he
 ·rename_i b off s E' cs;obtain⟨k,base,cap,hk,hv⟩:=hx;cases hb:(Nat.beq (cellsOf s).length ti.size && Nat.ble (off+ti.size) cs.length)with
  |false=>simp [hb]at he
  |true=>
   simp only [hb,bu]at he;simp only [ce]at hb;have he1:=bw hb.1;have hle:=cm hb.2;cases he;simp [foot]at hobs;have hob:=hobs.symm;obtain⟨k',cap',vs,h1,_⟩:=hi.obj b _ hob;rw [hk]at h1;cases h1;rw [cD]at hv;exact cellsAt hob hk hv hy he1 hle
 ·rename_i b esz i off s E' cs;obtain⟨k,base,cap,hk,hv⟩:=hx;cases hb:(Nat.beq (cellsOf s).length ti.size && Nat.ble (i*esz+off+ti.size) cs.length)with
  |false=>simp [hb]at he
  |true=>
   simp only [hb,bu]at he;simp only [ce]at hb;have he1:=bw hb.1;have hle:=cm hb.2;cases he;simp [foot]at hobs;have hob:=hobs.symm;obtain⟨k',cap',vs,h1,_⟩:=hi.obj b _ hob;rw [hk]at h1;cases h1;rw [cD]at hv;exact cellsAt hob hk hv hy he1 hle
 ·rename_i b esz i off s E' esz' len el;obtain⟨k,base,cap,hk,hv⟩:=hx;split at he
  ·rename_i el' ds hcs;cases hb:(Nat.beq esz esz' && Nat.ble (off+ds.length) esz && Nat.beq ds.length ti.size && Nat.ble 1 ti.size)with
   |false=>simp [hb]at he
   |true=>
    simp only [hb,bu]at he;simp only [ce]at hb;have he1:=bw hb.1.1.1;have hle:=cm hb.1.1.2;have hsz:=bw hb.1.2;have hpos:=cm hb.2;subst he1;cases he;obtain⟨hlt,heq,_⟩:=hc;simp [foot]at hobs;have hob:=hobs.symm;rcases hi.obj b _ hob with⟨h0,h0'⟩|⟨k',base',cap',h1,h0,vs,h2,h3,h4,h5,h6⟩;·omega
    ·rw [hk]at h1;cases h1;have hys:=hy.cells;have l2':=hys.length;rw [iy hcs]at hys;have l2:=hys.length;rw [dt]at l2;have hblk:=hi.blk b _ k hob h0;have hin:=row_in hlt h4 hle;have hrun:=Ai ht hop hv h2 rfl (by rw [<-hsz];exact l2) (by omega) hys.oneCell;have pt:=Put.setRow w k (vs.take (base+(i*esz+off))++(a.eval y).cells.toList++vs.drop (base+(i*esz+off)+ti.size)).toArray;refine qD (pt.gr hblk.2.1) (pt.fr fr hblk.2.2) ⟨_,pt.hi fr hi hob h0 (fun _ h=>h) ?_⟩ hrun;refine .inr ⟨k,base,cap,hk,h0,_,setRow_heap w k _ _ E' (0,0) h2, ?_,h4,h5,fun i' hi' j hj=> ?_⟩
     ·simp only [cd,d_,ea,l2];omega
     ·rw [<-heq i' hi' j hj];have hlook:=dH vs (a.eval y).cells.toList (base+(i*esz+off)) (by omega) (base+(i'*esz+j));rw [l2]at hlook;rw [<-hsz,hlook];obtain⟨u,hu,hr⟩:=h6 i' hi' j hj;have hr':=bG.gr (pt.gr (ρ:=ρ) hblk.2.1).fz (pt.gr (ρ:=ρ) hblk.2.1).mem hr;rw [<-hsz]at hr';unfold wB;by_cases e:i'=i/\off<=j/\j<off+ds.length
      ·obtain⟨rfl,e1,e2⟩:=e;obtain⟨u0,hu0,hr0⟩:=hys.get (j:=j - off) (c:= .d (ds.getD (j - off) .nilp)) (by
        rw [du,cT,cS (by omega)];rfl)
       have hr0':=dW.gr (pt.gr (ρ:=ρ) hblk.2.1) hr0;rw [<-hsz]at hr0';rw [ci (by omega),cj (by omega),cj ⟨rfl,e1,e2⟩];exact⟨u0,by rw [show base+(i'*esz+j) - (base+(i'*esz+off))=j - off by omega];exact hu0,hr0'⟩
      ·rw [ci e];have hne:i'*esz+j<i*esz+off\/i*esz+off+ds.length<=i'*esz+j:=by
        apply cN;intro hh;simp only [not_or,Nat.not_lt,Nat.not_le]at hh;exact e (idx_eq hj hh.1 hh.2 hle)
       rcases hne with lt|ge;·rw [cj (by omega)];exact⟨u,hu,hr'⟩
       ·rw [ci (by omega),ci (by omega)];exact⟨u,hu,hr'⟩
  ·cases he
 ·cases he
end
section
variable {P:Program} {B:Base} {ρ ρ':Nat->Option Pl} {F F':Nat->Prop} {w w':World} {h:Hp} {o:Oper} {a:Act} {T:List (Nat × TI)}
theorem FH: ∀{v:Value} {x:DV},SL v=some x->bG F w x v:=by
 intro v x hc;unfold SL at hc;split at hc<;>cases hc;·rfl
 ·rfl
 ·rfl
 ·exact⟨none,0,rfl,by simp,by simp,by simp,by simp,by simp⟩
 ·rfl
 ·rfl
 ·rfl
theorem kH: ∀{vs:List Value} {xs:List DV},qa vs=some xs->bO ρ F w (xs.map .d) vs
 |[],xs,hc=>by simp [qa]at hc;subst hc;trivial
 |v::vs,xs,hc=>by
  unfold qa at hc;split at hc
  ·rename_i d ds h1 h2;cases hc;exact⟨FH h1,kH h2⟩
  ·cases hc
theorem foldl_set: ∀(vs:List Value) (off j:Nat) (cells:Array Value),off+j+vs.length<=cells.size->
  (vs.zipIdx j).foldl (fun cs (x:Value × Nat)=>cs.setIfInBounds (off+x.2) x.1) cells=((cells.toList.take (off+j))++vs++cells.toList.drop (off+j+vs.length)).toArray
 |[],off,j,cells,_=>by simp
 |v::vs,off,j,cells,hle=>by
  simp at hle;rw [List.zipIdx_cons,List.foldl_cons,foldl_set vs off (j+1) _ (by simp;omega)];apply Array.ext';apply List.ext_getElem?;intro i;have hs:(cells.setIfInBounds (off+j) v).toList=cells.toList.set (off+j) v:=by simp
  simp only [hs];have e1:off+j+(v::vs).length=off+(j+1)+vs.length:=by simp;omega
  rw [dH _ _ _ (by simp;omega),dH _ _ _ (by simp;omega),List.getElem?_set];simp only [cY,dj];by_cases c1:i<off+j;·rw [cj (by omega),cj c1,ci (by omega)]
  ·by_cases c2:i=off+j
   ·subst c2;rw [cj (by omega),cj rfl,cj (by omega),ci (by omega),cj (by omega)];simp
   ·rw [ci (by omega),ci c1];by_cases c3:i<off+(j+1)+vs.length
    ·rw [cj c3,cj (by omega),show i - (off+j)=(i - (off+(j+1)))+1 by omega];simp
    ·rw [ci c3,ci (by omega),ci (by omega)]
def Tn (ρ:Nat->Option Pl) (F:Nat->Prop) (w:World):List (Nat × List CV)->List (Nat × Value)->Prop
 |[],[]=>True
 |(i,cs)::ps,(j,v)::vs=>i=j/\bO ρ F w cs v.cells.toList/\Tn ρ F w ps vs
 |_,_=>False
theorem Bj {place:Nat->Option (Nat × Nat)}: ∀{ps:List (Nat × List CV)} {vs:List (Nat × Value)} {cs cs':List CV} {cells:Array Value},Tn ρ F w ps vs->bO ρ F w cs cells.toList->
  zb place cs ps=some cs'-> ∃cells',Instr.fill place cells vs=some cells'/\bO ρ F w cs' cells'.toList
 |[],[],cs,cs',cells,_,hc,he=>by simp [zb]at he;subst he;exact⟨cells,rfl,hc⟩
 |(i,pc)::ps,(j,v)::vs,cs,cs',cells,⟨e,h1,h2⟩,hc,he=>by
  subst e;unfold zb at he;cases hp:place i with
  |none=>simp [hp]at he
  |some x=>
   obtain⟨off,size⟩:=x;simp only [hp]at he;cases hb:(decide (pc.length=size) && Nat.ble (off+pc.length) cs.length)with
   |false=>simp [hb]at he
   |true=>
    simp only [hb,bu]at he;simp only [ce,dg]at hb;have hle:=cm hb.2;have l1:=h1.length;have l2:=hc.length;have hsz:v.cells.size=pc.length:=by rw [<-l1];simp
    have hsz2:cells.size=cs.length:=by rw [<-l2];simp
    have hsp:=bO.splice hc h1 (off:=off) hle;have hf:v.cells.zipIdx.foldl (fun cs (x:Value × Nat)=>cs.setIfInBounds (off+x.2) x.1) cells=(cells.toList.take off++v.cells.toList++cells.toList.drop (off+v.cells.toList.length)).toArray:=by
     rw [<-Array.foldl_toList,Array.toList_zipIdx];have:=foldl_set v.cells.toList off 0 cells (by rw [l1];omega);simpa using this
    obtain⟨cells',g1,g2⟩:=Bj (place:=place) (cells:=(cells.toList.take off++v.cells.toList++cells.toList.drop (off+v.cells.toList.length)).toArray) h2 hsp he;refine⟨cells', ?_,g2⟩;unfold Instr.fill;simp only [hp];rw [ci (by rw [hsz,hsz2];simp;omega)];rw [hf];exact g1
 |[],_::_,_,_,_,h,_,_=>h.elim
 |_::_,[],_,_,_,h,_,_=>h.elim
theorem vw: ∀{ps:List (Nat × Operand)} {xs:List TV} {l:List (Nat × List CV)},nY ps xs=some l->dS ρ F w xs (ps.map fun p=>a.eval p.2)->
  Tn ρ F w l (ps.map fun p=>(p.1,a.eval p.2))
 |[],[],l,hz,_=>by simp [nY]at hz;subst hz;trivial
 |(i,p)::ps, .v s::xs,l,hz,⟨h1,h2⟩=>by
  simp only [nY]at hz;split at hz
  ·rename_i l' hl;cases hz;exact⟨rfl,fP.cells h1,vw hl h2⟩
  ·cases hz
 |[],_::_,_,hz,_=>by simp [nY]at hz
 |_::_,[],_,hz,_=>by simp [nY]at hz
 |_::_, .eZ _::_,_,hz,_=>by simp [nY]at hz
theorem Ee (hT:lC P T): ∀{fs:List Field} {pl:List (Nat × Nat)},Bl T fs=some pl->fs.mapM (fun f=>(P.info? f.type).map fun i=>(f.offset,i.size))=some pl
 |[],pl,hp=>by simp [Bl]at hp;subst hp;rfl
 |f::fs,pl,hp=>by
  unfold Bl at hp;split at hp
  ·rename_i t l h1 h2;cases hp;obtain⟨_,i,z,hi,hs,_⟩:=hT.get h1;simp [List.mapM_cons,hi,hs,Ee hT h2]
  ·cases hp
theorem MH (hT:lC P T) {t:TypeId} {parts:Array (Nat × Operand)} {ti:TI} {xs:List TV} {E:Eff} (ht:fA P t ti) (hop:o.op= .build t parts) (he:FE T ti parts.toList xs=some E)
  (fr:Fr B ρ F w) (hi:HI B ρ F w h) (hx:dS ρ F w xs (parts.toList.map fun p=>a.eval p.2)):Good P B ρ F w h o a E.tv E.hd:=by
 have hps:(parts.map fun(x:Nat × Operand)=>(x.1,a.eval x.2)).toList=parts.toList.map fun p=>(p.1,a.eval p.2):=by simp
 have hrun: ∀cells,P.built t (parts.toList.map fun p=>(p.1,a.eval p.2))=some cells->(execOp a.eval o).run P w= .ok (.value (.agg cells)) w:=by
  intro cells hb;have:=run_build w t (parts.map fun(x:Nat × Operand)=>(x.1,a.eval x.2)) cells (by rw [hps];exact hb);simp [execOp,hop,this]
 obtain⟨hu,i,z,hi',hs,hb,hz,hzc⟩:=ht;unfold FE at he;split at he
 ·rename_i zc ps h1 h2;have hzr:bO ρ F w (zc.map .d) z.cells.toList:=by rw [hzc];exact kH h1
  have hpr:=vw h2 hx;split at he
  ·rename_i fs hd;split at he
   ·rename_i pl hpl;split at he
    ·rename_i cs hf;cases he;obtain⟨cells,g1,g2⟩:=Bj hpr hzr hf;refine aG fr hi (hrun cells ?_) ⟨cells.toList,by simp,g2⟩;simp only [Program.built,hi',hu,hd,hz,Ee hT hpl];simpa using g1
    ·cases he
   ·cases he
  ·rename_i n e hd;split at he
   ·rename_i te hte;obtain⟨_,ie,ze,hie,hse,_⟩:=hT.get hte;split at he
    ·rename_i cs hf;cases he;obtain⟨cells,g1,g2⟩:=Bj hpr hzr hf;refine aG fr hi (hrun cells ?_) ⟨cells.toList,by simp,g2⟩;simp only [Program.built,hi',hu,hd,hz,hie,hse];exact g1
    ·cases he
   ·cases he
  ·cases he
 ·cases he
theorem Rf {t:TypeId} {x:Operand} {s:SV} {fresh:Nat} (hop:o.op= .box t x) (hfr:h fresh=none)
  (fr:Fr B ρ F w) (hi:HI B ρ F w h) (hx:fP ρ F w s (a.eval x)):Good P B ρ F w h o a (.v (.one (.ptr fresh 0))) [(fresh,some (.cells t (cellsOf s)))]:=by
 have p:=Push.alloc w (.cells (a.eval x).cells t);have hρ:=hi.fresh fresh hfr;have hrun:(execOp a.eval o).run P w= .ok (.value (.pointer (some ⟨w.heap.size,0,none⟩))) (w.alloc (.cells (a.eval x).cells t)):=by
  simp [execOp,hop,Instr.box,newVar,newRow]
 have hcs:=hx.cells;refine bI (p.gr fr (pl:= .blk w.heap.size 0 1) hρ) (p.fr fr hρ) (p.hi fr hi hfr ?_) hrun ⟨w.heap.size,0,1,av _ _,rfl⟩;exact⟨w.heap.size,1,_,av _ _,rfl,by rw [p.new],hcs.gr (p.gr fr hρ)⟩
theorem KF {t:TypeId} {ti:TI} {zc:List DV} {fresh:Nat} (ht:fA P t ti) (hz:qa ti.zero=some zc) (hop:o.op= .alloc t) (hfr:h fresh=none)
  (fr:Fr B ρ F w) (hi:HI B ρ F w h):Good P B ρ F w h o a (.v (.one (.ptr fresh 0))) [(fresh,some (.cells t (zc.map .d)))]:=by
 obtain⟨z,hz1,hz2⟩:=qz (w:=w) ht;have p:=Push.alloc w (.cells z.cells t);have hρ:=hi.fresh fresh hfr;have hrun:(execOp a.eval o).run P w= .ok (.value (.pointer (some ⟨w.heap.size,0,none⟩))) (w.alloc (.cells z.cells t)):=by
  simp [execOp,hop,Instr.alloc,newVar,newRow,hz1]
 refine bI (p.gr fr (pl:= .blk w.heap.size 0 1) hρ) (p.fr fr hρ) (p.hi fr hi hfr ?_) hrun ⟨w.heap.size,0,1,av _ _,rfl⟩;refine⟨w.heap.size,1,z.cells.toList,av _ _,rfl,by rw [p.new], ?_⟩;have:=kH (ρ:=ρ) (F:=F) (w:=w) hz;rw [<-hz2]at this;exact this.gr (p.gr fr hρ)
theorem Ho {t:TypeId} {ti:TI} {zc:List DV} {fresh len:Nat} {el:Nat->Nat->DV} (ht:fA P t ti) (hz:qa ti.zero=some zc) (hop:o.op= .alloc t) (hfr:h fresh=none) (hl:len=ti.size) (h1:ti.size<=1000) (h2:ti.zero.length=ti.size)
  (heq:aI ti.size 1 (fun i _=>zc.getD i .nilp) el) (fr:Fr B ρ F w) (hi:HI B ρ F w h):Good P B ρ F w h o a (.v (.one (.opt fresh 1 0 0))) [(fresh,some (.arr t 1 len el))]:=by
 subst hl;obtain⟨z,hz1,hz2⟩:=qz (w:=w) ht;have p:=Push.alloc w (.cells z.cells t);have hρ:=hi.fresh fresh hfr;have hrun:(execOp a.eval o).run P w= .ok (.value (.pointer (some ⟨w.heap.size,0,none⟩))) (w.alloc (.cells z.cells t)):=by
  simp [execOp,hop,Instr.alloc,newVar,newRow,hz1]
 refine bI (p.gr fr (pl:= .blk w.heap.size 0 ti.size) hρ) (p.fr fr hρ) (p.hi fr hi hfr ?_) hrun ⟨w.heap.size,0,ti.size,av _ _,rfl⟩;have hr:=kH (ρ:=ρ) (F:=F) (w:=w) hz;rw [<-hz2]at hr;have hlen:z.cells.toList.length=ti.size:=by rw [hz2,h2]
 refine .inr ⟨w.heap.size,0,ti.size,av _ _,rfl,z.cells.toList,by rw [p.new],by omega,cz _,by unfold maxLen;omega,fun i hi' j hj=> ?_⟩;have hzl:zc.length=ti.size:=by have:=hr.length;rw [dt]at this;omega
 obtain⟨u,hu,hrr⟩:=hr.get (j:=i) (c:= .d (zc.getD i .nilp)) (by
  rw [du,cT,cS (by omega)];rfl)
 refine⟨u,by rw [show 0+(i*1+j)=i by omega];exact hu, ?_⟩;rw [<-heq i hi' j hj];exact dW.gr (p.gr fr (pl:= .blk w.heap.size 0 ti.size) hρ) hrr
theorem Ll {z:List DV} {zv:List Value} (hz:bO ρ F w (z.map .d) zv) (hl:zv.length=z.length) (h1:0<z.length): ∀n,bO ρ F w (Nj z n) ((List.range (n*z.length)).map fun i=>zv[i % z.length]!)
 |0=>by simp [Nj,bO]
 |n+1=>by
  have e:(List.range ((n+1)*z.length)).map (fun i=>zv[i % z.length]!)=zv++(List.range (n*z.length)).map fun i=>zv[i % z.length]! :=by
   rw [eh,ei,ed,List.range_add,List.map_append,List.map_map];congr 1
   ·apply List.ext_getElem?;intro i;rw [du];by_cases hi:i<z.length
    ·rw [List.getElem?_range hi];simp only [Option.map_some,Nat.mod_eq_of_lt hi];rw [List.getElem!_eq_getElem?_getD,cS (by omega)];rfl
    ·rw [eM (by simp;omega),eM (by omega)];rfl
   ·apply List.map_congr_left;intro i _;simp
  rw [e];exact hz.append (Ll hz hl h1 n)
theorem xG (z:List DV): ∀n,(Nj z n).length=n*z.length
 |0=>by simp [Nj]
 |n+1=>by simp [Nj,xG z n,eh];omega
theorem vk {place:Nat->Option (Nat × Nat)}: ∀{ps:List (Nat × List CV)} {cs cs':List CV},zb place cs ps=some cs'->cs'.length=cs.length
 |[],cs,cs',he=>by simp [zb]at he;rw [he]
 |(i,pc)::ps,cs,cs',he=>by
  unfold zb at he;cases hp:place i with
  |none=>simp [hp]at he
  |some x=>
   obtain⟨off,size⟩:=x;simp only [hp]at he;cases hb:(decide (pc.length=size) && Nat.ble (off+pc.length) cs.length)with
   |false=>simp [hb]at he
   |true=>
    simp only [hb,bu]at he;simp only [ce,dg]at hb;have hle:=cm hb.2;rw [vk he];simp;omega
theorem Mf {cells:Array Value} {e:TypeId} {sz len:Nat} {el:Nat->Nat->DV} (fr:Fr B ρ F w) (hi:HI B ρ F w h) (hrun:(execOp a.eval o).run P w= .ok (.value (.slice (some ⟨w.heap.size,0,none⟩) len len)) (w.alloc (.cells cells e)))
  (hels: ∀i,i<len-> ∀j,j<sz-> ∃u,cells.toList[0+(i*sz+j)]? =some u/\bG F (w.alloc (.cells cells e)) (el i j) u):Good P B ρ F w h o a (.v (.one (.d (.sl (some true) sz len el)))) []:=by
 have p:=Push.alloc w (.cells cells e)
 let F0:Nat->Prop:=fun k=>F k\/k=w.heap.size
 have hsz0:(w.alloc (.cells cells e)).heap.size=w.heap.size+1:=p.sz;have g0:Gr ρ F w ρ F0 (w.alloc (.cells cells e)):=⟨fun _ _ h=>h,fun _ h=> .inl h,fun k hk=>p.old (fr.fz k hk).1⟩;have hfr0:Fr B ρ F0 (w.alloc (.cells cells e)):=by
  refine⟨fr.os,fr.tape,⟨fr.output.out,fr.output.dr⟩,by have:=fr.size;omega,fun k hk hn=>(p.old (by have:=fr.size;omega)).trans (fr.mem k hk hn),fr.rho,fun k hk=> ?_,fun k hk=> .inl (fr.bf k hk)⟩;rcases hk with hk|hk;·obtain⟨x,y⟩:=fr.fz k hk;exact⟨by omega,y⟩
  ·subst hk;exact⟨by omega, .inr (.inr fr.size)⟩
 have hi0:HI B ρ F0 (w.alloc (.cells cells e)) h:=by
  obtain⟨ft,hi⟩:=hi;refine⟨ft,hi.step g0 fr (by omega) (fun _=>False) (fun b ob _ hb=> ⟨hb,fun k hk=>p.old (hi.blk b ob k hb hk).1,fun _=>Iff.rfl⟩) (fun _ _ h=>h.elim) (fun _ _ _ h=>h.elim) (fun _ _ _ _ _ h=>h.elim) (fun k hk=> ?_) hi.fresh⟩;rcases hk with hk|hk;·exact .inl hk
  ·subst hk;exact .inr (.inr ⟨cz _,fun _ _ h=>h.elim⟩)
 refine bI g0 hfr0 hi0 hrun ⟨some ⟨w.heap.size,0,none⟩,_,rfl,(fun _ e=>by cases e),(fun e=>by cases e),(fun e=>by cases e),cz _,fun ad ha=> ?_⟩;cases ha;refine⟨fun _=>rfl,fun i hi' j hj=> ⟨.inr rfl, ?_⟩⟩;obtain⟨u,hu,hr⟩:=hels i hi' j hj;refine⟨u, ?_, ?_⟩;·rw [bW (by rw [p.new])];exact hu
 ·exact bG.gr (F:=F) (w:=w.alloc (.cells cells e)) (fun _ h=> .inl h) (fun _ _=>rfl) hr
theorem DN (hT:lC P T) {t:TypeId} {len:Nat} {parts:Array (Nat × Operand)} {ti:TI} {xs:List TV} {fresh:Nat} {an:jB} {obs:List (Option (Option Ob))} {E:Eff} (ht:fA P t ti) (hop:o.op= .buildSlice t len parts)
  (he:sK T fresh an ti.d len parts.toList xs obs=some E) (hc:All E.conds) (hobs:obs=[h fresh])
  (fr:Fr B ρ F w) (hi:HI B ρ F w h) (hx:dS ρ F w xs (parts.toList.map fun p=>a.eval p.2)):Good P B ρ F w h o a E.tv E.hd:=by
 unfold sK at he;split at he
 ·rename_i e ps hd hzp;simp at hobs;have hfr:h fresh=none:=hobs.symm;split at he
  ·rename_i te hte;have hte':=hT.get hte;split at he
   ·rename_i zc hzc;cases hb:(Nat.ble (len*te.size) 1000 && Nat.beq te.zero.length te.size && Nat.ble 1 te.size)with
    |false=>simp [hb]at he
    |true=>
     simp only [hb,bu]at he;simp only [ce]at hb;have hle:=cm hb.1.1;have hzl:=bw hb.1.2;have hpos:=cm hb.2;split at he
     ·rename_i cs hf;obtain⟨z,hz1,hz2⟩:=qz (w:=w) hte';have hlz:zc.length=te.size:=by
       have:=(kH (ρ:=ρ) (F:=F) (w:=w) hzc).length;simp at this;omega
      have hzr:bO ρ F w (zc.map .d) z.cells.toList:=by rw [hz2];exact kH hzc
      have hl':z.cells.toList.length=zc.length:=by rw [hz2,hzl,hlz]
      have hzs1:=Ll hzr hl' (by rw [hlz];exact hpos) len;rw [hlz]at hzs1;have hsz:z.cells.size=te.size:=by rw [<-dj,hl',hlz]
      have hzs2:((Array.range (len*te.size)).map fun i=>z.cells[i % z.cells.size]!).toList=(List.range (len*te.size)).map fun i=>z.cells.toList[i % te.size]! :=by
       rw [Array.toList_map,Array.toList_range,hsz];refine List.map_congr_left fun i _=> ?_;rw [List.getElem!_eq_getElem?_getD,Array.getElem!_eq_getD,Array.getD_eq_getD_getElem?,Array.getElem?_toList]
      rw [<-hzs2]at hzs1;have hpr:=vw hzp hx;obtain⟨cells,g1,g2⟩:=Bj hpr hzs1 hf;have hρ:=hi.fresh fresh hfr;have p:=Push.alloc w (.cells cells e);have hps:(parts.map fun(x:Nat × Operand)=>(x.1,a.eval x.2)).toList=parts.toList.map fun p=>(p.1,a.eval p.2):=by simp
      have hrun:(execOp a.eval o).run P w= .ok (.value (.slice (some ⟨w.heap.size,0,none⟩) len len)) (w.alloc (.cells cells e)):=by
       have hu:=aK (w:=w) ht;rw [hd]at hu;have hs:=dL (w:=w) hte';by_cases h0:len=0
       ·subst h0;simp only [Nat.zero_mul]at g1;have hnil: ∀f:Nat->Value,(Array.range 0).map f= #[]:=fun f=>by simp [Array.range]
        rw [hnil]at g1;simp only [execOp,hop,Instr.buildSlice,eE,hu,hs,eC,hps,Nat.zero_mul,hnil];simp [g1,newRow]
       ·have h1:len*te.size≠0:=by
         intro e;rcases Nat.mul_eq_zero.1 e with e|e<;>omega
        simp only [execOp,hop,Instr.buildSlice,eE,hu,hs,eC,hps];rw [ci (by omega)];simp [h1,hz1,g1,newRow]
      split at he
      ·cases he;refine bI (p.gr fr (pl:= .blk w.heap.size 0 len) hρ) (p.fr fr hρ) (p.hi fr hi hfr ?_) hrun (.inl ⟨w.heap.size,0,len,av _ _,rfl⟩);exact⟨w.heap.size,len,cells.toList,av _ _,rfl,by rw [p.new],g2.gr (p.gr fr hρ)⟩
      ·rename_i q;split at he
       ·rename_i c ds hq hds;cases he;have hlen:cs.length=len*te.size:=by rw [vk hf,xG,hlz]
        have hml:len<=maxLen:=by
         have:len*1<=len*te.size:=Nat.mul_le_mul_left _ hpos;unfold maxLen;omega
        have hcl:0+len*te.size<=cells.toList.length:=by rw [g2.length,hlen,cD];exact cz _
        have hds':(ds.map CV.d).length=len*te.size:=by rw [<-iy hds,cJ,hlen]
        refine bI (p.gr fr (pl:= .blk w.heap.size 0 len) hρ) (p.fr fr hρ) (p.hi fr hi hfr ?_) hrun (.inl ⟨w.heap.size,0,len,av _ _,rfl⟩);refine .inr ⟨w.heap.size,0,len,cells.toList,fun _ _=>none,av _ _,rfl,by rw [p.new],hcl,cz _,hml,fun i hi' j hj=> ?_,(fun _ _ _ _ _ e=>by cases e),(fun _ _ e=>by cases e)⟩;have hin:i*te.size+j<len*te.size:=by
         have:(i+1)*te.size<=len*te.size:=cH _ (by omega);rw [eh,ei]at this;omega
        by_cases hiq:i=q / te.size/\j=q % te.size
        ·have hqe:i*te.size+j=q:=by rw [hiq.1,hiq.2,ef];exact Nat.div_add_mod q te.size
         obtain⟨u,hu,hr⟩:=g2.get (hqe ▸ hq:cs[i*te.size+j]? =some c);refine⟨u,by rw [cD];exact hu, ?_⟩;unfold yR;simp only;rw [cj hiq];exact dW.gr (p.gr fr (pl:= .blk w.heap.size 0 len) hρ) hr
        ·have hne:q≠i*te.size+j:=by
          rintro rfl;refine hiq ⟨?_, ?_⟩;·rw [ed,Nat.add_mul_div_right _ _ (by omega),Nat.div_eq_of_lt hj,cD]
          ·rw [ed,Nat.add_mul_mod_self_right,Nat.mod_eq_of_lt hj]
         have hg:cs[i*te.size+j]? =some (.d (kS te.size ds i j)):=by
          rw [<-List.getElem?_set_ne (l:=cs) (a:= .d .nilp) hne,iy hds,du];simp at hds';have hb2:i*te.size+j<ds.length:=by omega
          rw [kS,cT,cS hb2];rfl
         obtain⟨u,hu,hr⟩:=g2.get hg;refine⟨u,by rw [cD];exact hu, ?_⟩;unfold yR;simp only;rw [ci hiq];exact dW.gr (p.gr fr (pl:= .blk w.heap.size 0 len) hρ) hr
       ·cases he
      split at he
      ·rename_i ds hds;have hlen:(ds.map CV.d).length=len*te.size:=by
        rw [<-iy hds,vk hf,xG,hlz]
       have hels: ∀i,i<len-> ∀j,j<te.size-> ∃u,cells.toList[0+(i*te.size+j)]? =some u/\bG F (w.alloc (.cells cells e)) (kS te.size ds i j) u:=by
        intro i hi' j hj;have hin:i*te.size+j<len*te.size:=by
         have:(i+1)*te.size<=len*te.size:=cH _ (by omega);rw [eh,ei]at this;omega
        have hg:cs[i*te.size+j]? =some (.d (kS te.size ds i j)):=by
         rw [iy hds,du];simp at hlen;have hb2:i*te.size+j<ds.length:=by omega
         rw [kS,cT,cS hb2];rfl
        obtain⟨u,hu,hr⟩:=g2.get hg;exact⟨u,by rw [cD];exact hu,dW.gr (p.gr fr (pl:= .blk w.heap.size 0 len) hρ) hr⟩
       have hml:len<=maxLen:=by
        have:len*1<=len*te.size:=Nat.mul_le_mul_left _ hpos;unfold maxLen;omega
       have hcl:0+len*te.size<=cells.toList.length:=by rw [g2.length,iy hds,hlen,cD];exact cz _
       split at he
       ·rename_i len' el';cases he;obtain⟨rfl,heq,_⟩:=hc;refine bI (p.gr fr (pl:= .blk w.heap.size 0 _) hρ) (p.fr fr hρ) (p.hi fr hi hfr ?_) hrun (.inl ⟨w.heap.size,0,_,av _ _,rfl⟩);exact .inr ⟨w.heap.size,0,_,av _ _,rfl,cells.toList,by rw [p.new],hcl,cz _,hml,fun i hi' j hj=>by rw [<-heq i hi' j hj];exact hels i hi' j hj⟩
       ·rename_i len' el';cases he;obtain⟨rfl,heq,_⟩:=hc;exact Mf fr hi hrun fun i hi' j hj=>by rw [<-heq i hi' j hj];exact hels i hi' j hj
       ·rename_i len' el';cases he;obtain⟨rfl,heq,_⟩:=hc;refine bI (p.gr fr (pl:= .blk w.heap.size 0 _) hρ) (p.fr fr hρ) (p.hi fr hi hfr ?_) hrun (.inl ⟨w.heap.size,0,_,av _ _,rfl⟩);exact .inr ⟨w.heap.size,0,_,av _ _,rfl,cells.toList,by rw [p.new],hcl,cz _,hml,fun i hi' j hj=>by obtain⟨u,hu1,hu2⟩:=hels i hi' j hj;exact⟨u,hu1,heq i hi' j hj _ _ _ hu2⟩⟩
       ·cases he;refine bI (p.gr fr (pl:= .blk w.heap.size 0 len) hρ) (p.fr fr hρ) (p.hi fr hi hfr ?_) hrun (.inl ⟨w.heap.size,0,len,av _ _,rfl⟩);exact .inr ⟨w.heap.size,0,len,av _ _,rfl,cells.toList,by rw [p.new],hcl,cz _,hml,hels⟩
      ·cases he
     ·cases he
   ·cases he
  ·cases he
 ·cases he
end
section
variable {P:Program} {B:Base} {ρ ρ':Nat->Option Pl} {F F':Nat->Prop} {w w':World} {h:Hp} {o:Oper} {a:Act} {T:List (Nat × TI)}
theorem Lb {fs:Array Field} {f off size:Nat} (hp:Ke T fs f=some (off,size)): ∃fd t,fs[f]? =some fd/\get T fd.type=some t/\fd.offset=off/\t.size=size:=by
 unfold Ke at hp;split at hp
 ·rename_i fd hfd;split at hp
  ·rename_i t ht;cases hp;exact⟨fd,t,by simpa using hfd,ht,rfl,rfl⟩
  ·cases hp
 ·cases hp
theorem LV (hT:lC P T) {t:TypeId} {x:Operand} {f:Nat} {ti:TI} {xa:TV} {E:Eff} (ht:fA P t ti) (hop:o.op= .fieldAddr t x f) (he:Fj T ti.d xa f=some E)
  (fr:Fr B ρ F w) (hi:HI B ρ F w h) (hx:bE ρ F w xa (a.eval x)):Good P B ρ F w h o a E.tv E.hd:=by
 unfold Fj at he;split at he
 ·rename_i fs hd;split at he
  ·rename_i off size hp;obtain⟨fd,tf,h1,h2,h3,h4⟩:=Lb hp;have hs:=dL (w:=w) (hT.get h2);have hu:=aK (w:=w) ht;rw [hd]at hu;cases hb:Nat.ble 1 size with
   |false=>simp [hb]at he
   |true=>
    simp only [hb,bu]at he;have hpos:=cm hb;have hrun: ∀k p,a.eval x= .pointer (some ⟨k,p,none⟩)->(execOp a.eval o).run P w= .ok (.value (.pointer (some ⟨k,p+off,none⟩))) w:=by
     intro k p hv;have hne:tf.size≠0:=by omega
     simp [execOp,hop,Instr.fieldAt,hu,h1,hv,Instr.sureAddr,fieldPlace,hs,hne,eO,h3]
    split at he
    ·rename_i n c;obtain⟨ad,hv,hsp,hc⟩:=hx;obtain⟨ak,ao,asp⟩:=ad;simp at hsp;subst hsp;cases hb2:Nat.ble (off+size) n with
     |false=>simp [hb2]at he
     |true=>
      simp only [hb2,bu]at he;cases he;refine aG fr hi (hrun ak ao hv) ⟨⟨ak,ao+off,none⟩,rfl,rfl,fun j hj=> ?_⟩;obtain⟨hf,u,hu',hr⟩:=hc (off+j) (by omega);exact⟨hf,u,by rw [ee];exact hu',hr⟩
    ·rename_i b p;cases he;obtain⟨k,base,cap,hk,hv⟩:=hx;exact aG fr hi (hrun k (base+p) hv) ⟨k,base,cap,hk,by rw [ee]⟩
    ·rename_i b e i p;cases he;obtain⟨k,base,cap,hk,hv⟩:=hx;exact aG fr hi (hrun k (base+(i*e+p)) hv) ⟨k,base,cap,hk,by rw [show base+(i*e+p)+off=base+(i*e+(p+off)) by omega]⟩
    ·cases he
  ·cases he
 ·cases he
theorem Nz (hT:lC P T) {t:TypeId} {x:Operand} {f:Nat} {ti:TI} {xa:TV} {E:Eff} (ht:fA P t ti) (hop:o.op= .field t x f) (he:KA T ti.d xa f=some E)
  (fr:Fr B ρ F w) (hi:HI B ρ F w h) (hx:bE ρ F w xa (a.eval x)):Good P B ρ F w h o a E.tv E.hd:=by
 unfold KA at he;split at he
 ·rename_i fs cs hd;obtain⟨vs,hv,hr⟩:=hx;have hu:=aK (w:=w) ht;rw [hd]at hu;split at he
  ·rename_i fd hfd;have hfd':fs[f]? =some fd:=by simpa using hfd
   split at he
   ·rename_i tf htf;have hs:=dL (w:=w) (hT.get htf);have hg:=ru (w:=w) (hT.get htf);cases hb:Nat.ble (fd.offset+tf.size) cs.length with
    |false=>simp [hb]at he
    |true=>
     simp only [hb,bu]at he;have hle:=cm hb;have hl:=hr.length;have hsub:bO ρ F w ((cs.drop fd.offset).take tf.size) ((vs.drop fd.offset).take tf.size):=by
      refine bO.kL (by simp;omega) fun j c hj=> ?_;rw [List.getElem?_take]at hj ⊢;split at hj;·rename_i e;rw [cj e];rw [List.getElem?_drop]at hj ⊢;exact hr.get hj
      ·cases hj
     split at he
     ·rename_i s hsv;cases he;cases hagg:tf.agg with
      |true=>
       rw [hagg]at hsv hg;simp [kT]at hsv;subst hsv;refine aG (v:= .agg ((vs.drop fd.offset).take tf.size).toArray) fr hi ?_ ⟨_,rfl,hsub⟩;simp [execOp,hop,Instr.field,hu,hfd',hv,asAgg,part,hg,hs]
      |false=>
       rw [hagg]at hsv hg
       match hcs:(cs.drop fd.offset).take tf.size,hsv with
       |[c],hsv=>
        simp [kT]at hsv;subst hsv;rw [hcs]at hsub
        match hvs:(vs.drop fd.offset).take tf.size,hsub with
        |[v],hsub=>
         have hge:vs[fd.offset]? =some v:=by
          have:((vs.drop fd.offset).take tf.size)[0]? =some v:=by rw [hvs];rfl
          rw [List.getElem?_take]at this;split at this;·rw [List.getElem?_drop]at this;simpa using this
          ·cases this
         refine aG (v:=v) fr hi ?_ hsub.1;simp [execOp,hop,Instr.field,hu,hfd',hv,asAgg,part,hg,hge]
     ·cases he
   ·cases he
  ·cases he
 ·cases he
theorem Mq (hT:lC P T) {t:TypeId} {x y:Operand} {ti:TI} {xa xi:TV} {E:Eff} (ht:fA P t ti) (hop:o.op= .indexAddr t x y) (he:uN T ti.d xa xi=some E) (hc:All E.conds)
  (fr:Fr B ρ F w) (hi:HI B ρ F w h) (hx:bE ρ F w xa (a.eval x)) (hy:bE ρ F w xi (a.eval y)):Good P B ρ F w h o a E.tv E.hd:=by
 have hu:=aK (w:=w) ht;unfold uN at he;split at he
 ·rename_i e k i hd;rw [hd]at hu;have hy':a.eval y= .int k i:=hy;split at he
  ·rename_i te hte;have hs:=dL (w:=w) (hT.get hte);split at he
   ·rename_i nn esz len el;obtain⟨ad,cap,hv,_,_,h3,_,h4⟩:=hx;cases hb:Nat.beq esz te.size with
    |false=>simp [hb]at he
    |true=>
     simp only [hb,bu]at he;have hes:=bw hb;cases he;obtain⟨hc,_⟩:=hc;cases ad with
     |none=>have:=(h3 rfl).1;omega
     |some ad=>
      obtain⟨hsp0,hcell⟩:=h4 ad rfl;have hsp:=hsp0 (by omega);have hrun:(execOp a.eval o).run P w= .ok (.value (.pointer (some ⟨ad.block,ad.off+i.toNat*te.size,none⟩))) w:=by
       simp [execOp,hop,Instr.indexAt,hy',hv,asIntOf,hu,hs,hc.1,hc.2,oJ hsp]
      refine aG fr hi hrun ⟨_,rfl,rfl,fun j hj=> ?_⟩;obtain⟨hf,u,h5,h6⟩:=hcell i.toNat (by omega) j hj;exact⟨hf,u,by rw [<-hes,ee];exact h5,h6⟩
   ·rename_i b nn len;cases he;obtain⟨hc,_⟩:=hc;rcases hx with⟨k',base,cap,hk,hv⟩|⟨_,_,h0,_⟩
    ·have hrun:(execOp a.eval o).run P w= .ok (.value (.pointer (some ⟨k',base+i.toNat*te.size,none⟩))) w:=by
      simp [execOp,hop,Instr.indexAt,hy',hv,asIntOf,hu,hs,hc.1,hc.2,eO]
     exact aG fr hi hrun ⟨k',base,cap,hk,by rw [Nat.add_zero]⟩
    ·omega
   ·cases he
  ·cases he
 ·rename_i n e k i hd;rw [hd]at hu;have hy':a.eval y= .int k i:=hy;split at he
  ·rename_i te hte;have hs:=dL (w:=w) (hT.get hte);split at he
   ·rename_i m c;obtain⟨ad,hv,hsp,hcell⟩:=hx;cases hb:Nat.ble (n*te.size) m with
    |false=>simp [hb]at he
    |true=>
     simp only [hb,bu]at he;have hle:=cm hb;cases he;obtain⟨hc,_⟩:=hc;have hrun:(execOp a.eval o).run P w= .ok (.value (.pointer (some ⟨ad.block,ad.off+i.toNat*te.size,none⟩))) w:=by
      simp [execOp,hop,Instr.indexAt,hy',hv,asIntOf,hu,hs,hc.1,hc.2,oJ hsp,Instr.sureAddr]
     refine aG fr hi hrun ⟨_,rfl,rfl,fun j hj=> ?_⟩;have hin:i.toNat*te.size+j<m:=by
      have:(i.toNat+1)*te.size<=n*te.size:=cH _ (by omega);rw [eh,ei]at this;omega
     obtain⟨hf,u,h5,h6⟩:=hcell (i.toNat*te.size+j) hin;exact⟨hf,u,by rw [ee];exact h5,h6⟩
   ·rename_i b off;cases he;obtain⟨hc,_⟩:=hc;obtain⟨k',base,cap,hk,hv⟩:=hx;have hrun:(execOp a.eval o).run P w= .ok (.value (.pointer (some ⟨k',base+off+i.toNat*te.size,none⟩))) w:=by
     simp [execOp,hop,Instr.indexAt,hy',hv,asIntOf,hu,hs,hc.1,hc.2,eO,Instr.sureAddr]
    exact aG fr hi hrun ⟨k',base,cap,hk,by rw [ee]⟩
   ·rename_i b e' q p;cases hb:(Nat.beq e' 1 && Nat.beq q 0 && Nat.beq p 0 && Nat.beq te.size 1 && Sz te.d)with
    |true=>
     rw [hb]at he;simp only [bu]at he;cases he;simp only [ce]at hb;obtain⟨⟨⟨⟨b1,b2⟩,b3⟩,b4⟩,_⟩:=hb;have b1:=bw b1;have b2:=bw b2;have b3:=bw b3;have b4:=bw b4;obtain⟨hc,_⟩:=hc;obtain⟨k',base,cap,hk,hv⟩:=hx;have hrun:(execOp a.eval o).run P w= .ok (.value (.pointer (some ⟨k',base+(q*e'+p)+i.toNat*te.size,none⟩))) w:=by
      simp [execOp,hop,Instr.indexAt,hy',hv,asIntOf,hu,hs,hc.1,hc.2,eO,Instr.sureAddr]
     refine aG fr hi hrun ⟨k',base,cap,hk, ?_⟩;rw [b1,b2,b3,b4];have e:base+(0*1+0)+i.toNat*1=base+(i.toNat*1+0):=by omega
     rw [e]
    |false=>
    rw [hb]at he;simp only [bv]at he;cases he;obtain⟨hc,_⟩:=hc;obtain⟨k',base,cap,hk,hv⟩:=hx;have hrun:(execOp a.eval o).run P w= .ok (.value (.pointer (some ⟨k',base+(q*e'+p)+i.toNat*te.size,none⟩))) w:=by
     simp [execOp,hop,Instr.indexAt,hy',hv,asIntOf,hu,hs,hc.1,hc.2,eO,Instr.sureAddr]
    exact aG fr hi hrun ⟨k',base,cap,hk,by rw [show base+(q*e'+p)+i.toNat*te.size=base+(q*e'+(p+i.toNat*te.size)) by omega]⟩
   ·cases he
  ·cases he
 ·cases he
theorem bL {x:DV} {E:Eff} (he:fo x=some E):E=⟨[], .v (.one (.d x)),[]⟩:=by unfold fo at he;cases he;rfl
theorem Du (op:BinOp) (t:TypeId) (x y:Operand) (k k':IntKind) (p q:Int):(eqGuard op t x y (.int k p) (.int k' q)).run P w= .ok () w:=by
 unfold eqGuard;cases op<;>simp
theorem Gf (op:BinOp) (t:TypeId) (x y:Operand) (p q:Bool):(eqGuard op t x y (.bool p) (.bool q)).run P w= .ok () w:=by
 unfold eqGuard;cases op<;>simp
theorem kX (p q:Int):(p==q)=decide (p=q):=by
 by_cases e:p=q<;>simp [e]
theorem run_equal_bool {t:TypeId} (hun:(underlying t).run P w= .ok .bool w) (p q:Bool):(Op.equal t (.bool p) (.bool q)).run P w= .ok (p==q) w:=by
 show(Op.equalIn (9999+1) t _ _).run P w=_;rw [Op.equalIn];simp [hun]
theorem run_eql_bool {t:TypeId} (hun:(underlying t).run P w= .ok .bool w) (p q:Bool):(binOp .eql t (.bool p) (.bool q)).run P w= .ok (.bool (p==q)) w:=by
 show(do pure (Value.bool (<-Op.equal t (.bool p) (.bool q))):Sem Value).run P w=_;simp only [eE,run_equal_bool hun,eC];rfl
theorem run_neq_bool {t:TypeId} (hun:(underlying t).run P w= .ok .bool w) (p q:Bool):(binOp .neq t (.bool p) (.bool q)).run P w= .ok (.bool (!(p==q))) w:=by
 show(do pure (Value.bool (!(<-Op.equal t (.bool p) (.bool q)))):Sem Value).run P w=_;simp only [eE,run_equal_bool hun,eC];rfl
theorem Jh (op:BinOp) (t:TypeId) (x y:Operand) (p q:ByteArray):(eqGuard op t x y (.string p) (.string q)).run P w= .ok () w:=by
 unfold eqGuard;cases op<;>simp
theorem K6 {t:TypeId} (p q:ByteArray):(binOp .eql t (.string p) (.string q)).run P w= .ok (.bool (p.toList==q.toList)) w:=by
 simp [binOp,Op.stringOp]
theorem K7 {t:TypeId} (p q:ByteArray):(binOp .neq t (.string p) (.string q)).run P w= .ok (.bool (!(p.toList==q.toList))) w:=by
 simp [binOp,Op.stringOp]
theorem jK {op:BinOp} {t t':TypeId} {x y:Operand} {v:Value} (hop:o.op= .binOp op t x y t') (hg:(eqGuard op t x y (a.eval x) (a.eval y)).run P w= .ok () w) (hb:(binOp op t (a.eval x) (a.eval y)).run P w= .ok v w):
  (execOp a.eval o).run P w= .ok (.value v) w:=by
 simp only [execOp,hop,eE,hg,hb,eC];rfl
theorem Qm {op:BinOp} {t t':TypeId} {x y:Operand} {dx dy:DV} {E:Eff} (hu: ∀b1 b2,dx= .bool b1->dy= .bool b2->P.underlying t=some .bool) (hop:o.op= .binOp op t x y t') (he:Xn op dx dy=some E) (hc:All E.conds)
  (fr:Fr B ρ F w) (hi:HI B ρ F w h) (hx:bG F w dx (a.eval x)) (hy:bG F w dy (a.eval y)):Good P B ρ F w h o a E.tv E.hd:=by
 unfold Xn at he;split at he
 ·rename_i k p k' q;have hx':a.eval x= .int k p:=hx;have hy':a.eval y= .int k' q:=hy;split at he
  ·cases he;obtain⟨h0,_⟩:=hc;refine aG (v:= .int k (k.wrap (p*2 ^ min q.toNat k.bits))) fr hi ?_ rfl;simp [execOp,hop,hx',hy',Du,binOp,Op.shift,Int.not_lt.2 h0]
  ·cases he;obtain⟨h0,_⟩:=hc;refine aG (v:= .int k (p.fdiv (2 ^ min q.toNat k.bits))) fr hi ?_ rfl;simp [execOp,hop,hx',hy',Du,binOp,Op.shift,Int.not_lt.2 h0]
  ·rename_i hn1 hn2;cases hb:decide (k=k')with
   |false=>simp [hb]at he
   |true=>
    simp only [hb,bu]at he;have hk:=of_decide_eq_true hb;subst hk;have go: ∀v d,bG F w d v->binOp op t (.int k p) (.int k q)=pure v->Good P B ρ F w h o a (.v (.one (.d d))) []:=by
     intro v d hr hb;refine aG (v:=v) fr hi ?_ hr;simp [execOp,hop,hx',hy',Du,hb]
    split at he;·cases he;exact go _ _ rfl (by simp [binOp,Op.intArith])
    ·cases he;exact go _ _ rfl (by simp [binOp,Op.intArith])
    ·cases he;exact go _ _ rfl (by simp [binOp,Op.intArith])
    ·cases he;exact go _ _ rfl (by simp [binOp,Op.intDiv,hc.1])
    ·cases he;exact go _ _ rfl (by simp [binOp,Op.intDiv,hc.1])
    ·cases he;exact go _ _ rfl (by simp [binOp,Op.intBits])
    ·cases he;exact go _ _ rfl (by simp [binOp,Op.intBits])
    ·cases he;exact go _ _ rfl (by simp [binOp,Op.intBits])
    ·cases he;exact go _ _ rfl (by simp [binOp,Op.intBits])
    ·split at he
     ·rename_i r hr;cases bL he;unfold O7 at hr;split at hr<;>cases hr
      ·exact go _ _ rfl (by simp [binOp,Op.intCmp,kX])
      ·exact go _ _ rfl (by simp [binOp,Op.intCmp,bne,kX])
      ·exact go _ _ rfl (by simp [binOp,Op.intCmp])
      ·exact go _ _ rfl (by simp [binOp,Op.intCmp])
      ·exact go _ _ rfl (by simp [binOp,Op.intCmp])
      ·exact go _ _ rfl (by simp [binOp,Op.intCmp])
     ·cases he
 ·rename_i p q;have hx':a.eval x= .bool p:=hx;have hy':a.eval y= .bool q:=hy;have hut:=hu p q rfl rfl;have hun:(underlying t).run P w= .ok .bool w:=by simp [underlying,hut]
  split at he
  ·cases bL he;refine aG (v:= .bool (p==q)) fr hi (jK hop ?_ ?_) rfl
   ·rw [hx',hy'];exact Gf _ _ _ _ _ _
   ·rw [hx',hy'];exact run_eql_bool hun p q
  ·cases bL he;refine aG (v:= .bool (!(p==q))) fr hi (jK hop ?_ ?_) rfl
   ·rw [hx',hy'];exact Gf _ _ _ _ _ _
   ·rw [hx',hy'];exact run_neq_bool hun p q
  ·cases he
 ·rename_i p q;have hx':a.eval x= .string p:=hx;have hy':a.eval y= .string q:=hy;split at he
  ·cases bL he;refine aG (v:= .bool (p.toList==q.toList)) fr hi (jK hop ?_ ?_) rfl
   ·rw [hx',hy'];exact Jh _ _ _ _ _ _
   ·rw [hx',hy'];exact K6 p q
  ·cases bL he;refine aG (v:= .bool (!(p.toList==q.toList))) fr hi (jK hop ?_ ?_) rfl
   ·rw [hx',hy'];exact Jh _ _ _ _ _ _
   ·rw [hx',hy'];exact K7 p q
  ·cases he;obtain⟨h0,_⟩:=hc;refine aG (v:= .string (p++q)) fr hi (jK hop ?_ ?_) rfl
   ·rw [hx',hy'];rfl
   ·rw [hx',hy'];exact run_string_add_sum (w:=w) p q h0
  ·cases he
 ·cases he
theorem Uq {op:UnOp} {t:TypeId} {x:Operand} {dx:DV} {E:Eff} (hop:o.op= .unOp op t x) (he:unE op dx=some E)
  (fr:Fr B ρ F w) (hi:HI B ρ F w h) (hx:bG F w dx (a.eval x)):Good P B ρ F w h o a E.tv E.hd:=by
 unfold unE at he;split at he
 ·rename_i b;have hx':a.eval x= .bool b:=hx;cases bL he;refine aG (v:= .bool !b) fr hi ?_ rfl;simp [execOp,hop,hx',Op.unary]
 ·rename_i k n;have hx':a.eval x= .int k n:=hx;cases bL he;refine aG (v:= .int k (k.wrap (0 - n))) fr hi ?_ rfl;simp [execOp,hop,hx',Op.unary,Op.intArith]
 ·cases he
theorem dK.get: ∀{ss:List SV} {vs:List Value},dK ρ F w ss vs-> ∀{j:Nat} {s:SV},ss[j]? =some s-> ∃u,vs[j]? =some u/\fP ρ F w s u
 |[],[],_,j,c,hh=>by simp at hh
 |c0::_,v0::_,⟨h0,t⟩,j,c,hh=>by
  cases j with
  |zero=>simp at hh;subst hh;exact⟨v0,rfl,h0⟩
  |succ j=>simp at hh;obtain⟨u,hu,hr⟩:=dK.get t hh;exact⟨u,by simpa using hu,hr⟩
 |[],_::_,hh,_,_,_=>hh.elim
 |_::_,[],hh,_,_,_=>hh.elim
theorem Ie {x:Operand} {ix:Nat} {l:List SV} {s:SV} (hop:o.op= .extract x ix) (hl:l[ix]? =some s)
  (fr:Fr B ρ F w) (hi:HI B ρ F w h) (hx:bE ρ F w (.eZ l) (a.eval x)):Good P B ρ F w h o a (.v s) []:=by
 obtain⟨vs,hv,hr⟩:=hx;obtain⟨u,hu,hr'⟩:=hr.get hl;refine aG (v:=u) fr hi ?_ hr';simp [execOp,hop,hv,Instr.extract,hu]
theorem iA {x:Operand} {tv:TV} (hop:o.op= .nilCheck x) (hv:(∃ad,a.eval x= .pointer (some ad))\/ ∃f us vs,a.eval x= .func f us vs/\ ∀n,f≠ .method n)
  (fr:Fr B ρ F w) (hi:HI B ρ F w h) (hx:bE ρ F w tv (a.eval x)):Good P B ρ F w h o a tv []:=by
 refine aG (v:=a.eval x) fr hi ?_ hx;rcases hv with⟨ad,hv⟩|⟨f,us,vs,hv,hf⟩;·simp [execOp,hop,hv]
 ·cases f with
  |method n=>exact absurd rfl (hf n)
  |_=>simp [execOp,hop,hv]
end
section
variable {P:Program} {B:Base} {ρ ρ':Nat->Option Pl} {F F':Nat->Prop} {w w':World} {h:Hp} {o:Oper} {a:Act} {T:List (Nat × TI)}
theorem zC (z:Array Value) (n:Nat) (i j:Nat) (hj:j<z.size) (hin:i*z.size+j<n):(madeCells z n).toList[i*z.size+j]? =z.toList[j]? :=by
 have hm:(i*z.size+j) % z.size=j:=by rw [ef,Nat.mul_add_mod,Nat.mod_eq_of_lt hj]
 unfold madeCells;rw [Array.toList_map,Array.toList_range,du,List.getElem?_range hin];simp only [Option.map_some,hm];rw [Array.getElem!_eq_getD,Array.getD_eq_getD_getElem?,Array.getElem?_toList,eV hj];rfl
theorem Od (hT:lC P T) {t:TypeId} {x y:Operand} {ti:TI} {xl xc:TV} {fresh:Nat} {an:jB} {obs:List (Option (Option Ob))} {E:Eff} (ht:fA P t ti) (hop:o.op= .makeSlice t x y)
  (he:J9 T fresh an ti.d xl xc obs=some E) (hc:All E.conds) (hobs:obs=[h fresh])
  (fr:Fr B ρ F w) (hi:HI B ρ F w h) (hx:bE ρ F w xl (a.eval x)) (hy:bE ρ F w xc (a.eval y)):Good P B ρ F w h o a E.tv E.hd:=by
 unfold J9 at he;split at he
 ·rename_i e kl l kc c hd;simp at hobs;have hfr:h fresh=none:=hobs.symm;have hx':a.eval x= .int kl l:=hx;have hy':a.eval y= .int kc c:=hy;split at he
  ·rename_i te hte;obtain⟨_,i,z,hie,hs,hby,hz,hzc⟩:=hT.get hte;split at he
   ·rename_i zc hzv;cases hb:(Nat.beq te.zero.length te.size && Nat.ble 1 te.size)with
    |false=>simp [hb]at he
    |true=>
     simp only [hb,bu]at he;simp only [ce]at hb;have hzl:=bw hb.1;have hpos:=cm hb.2;have hcc:0<=l/\l=c/\te.bytes*l<=281474976710656/\l<=9223372036854775807:=by
      split at he<;>cases he<;>exact⟨hc.1,hc.2.1,hc.2.2.1,hc.2.2.2.1⟩
     obtain⟨h0,rfl,h48,h63⟩:=hcc;have hu:=ht.1;rw [hd]at hu;have hrun:=run_make (P:=P) w t e i z hu hie hz kl kc l l h0 (Int.le_refl _) (by rw [hby];exact h48) h63;have hrun':(execOp a.eval o).run P w= .ok (.value (.slice (some ⟨w.heap.size,0,none⟩) l.toNat l.toNat)) (w.alloc (.cells (madeCells z.cells (l.toNat*i.size)) e)):=by
      simp [execOp,hop,hx',hy',hrun]
     have p:=Push.alloc w (.cells (madeCells z.cells (l.toNat*i.size)) e);have hρ:=hi.fresh fresh hfr;have hzsz:z.cells.size=te.size:=by rw [<-dj,hzc,hzl]
     have hels: ∀i',i'<l.toNat-> ∀j,j<te.size-> ∃u,(madeCells z.cells (l.toNat*i.size)).toList[i'*te.size+j]? =some u/\bG F (w.alloc (.cells (madeCells z.cells (l.toNat*i.size)) e)) (zc.getD j .nilp) u:=by
      intro i' hi' j hj;have hin:i'*te.size+j<l.toNat*te.size:=by
       have:(i'+1)*te.size<=l.toNat*te.size:=cH _ (by omega);rw [eh,ei]at this;omega
      have hg:=zC z.cells (l.toNat*i.size) i' j (by omega) (by rw [hzsz,hs];exact hin);rw [hzsz]at hg;rw [hg];have hzr:=kH (ρ:=ρ) (F:=F) (w:=w) hzv;rw [<-hzc]at hzr;have hlz:=hzr.length;simp only [dj,dt]at hlz;have hg2:(zc.map CV.d)[j]? =some (.d (zc.getD j .nilp)):=by
       have hb2:j<zc.length:=by omega
       rw [du,cT,cS hb2];rfl
      obtain⟨u,hu',hr⟩:=hzr.get hg2;exact⟨u,hu',dW.gr (p.gr fr (pl:= .blk w.heap.size 0 l.toNat) hρ) hr⟩
     have hcl:0+l.toNat*te.size<=(madeCells z.cells (l.toNat*i.size)).toList.length:=by rw [dj,size_madeCells,hs,cD];exact cz _
     have hml:l.toNat<=maxLen:=by unfold maxLen;omega
     split at he
     ·rename_i len' el';cases he;obtain⟨_,_,_,_,hle,heq,_⟩:=hc;rw [hle];refine bI (p.gr fr (pl:= .blk w.heap.size 0 l.toNat) hρ) (p.fr fr hρ) (p.hi fr hi hfr ?_) hrun' (.inl ⟨w.heap.size,0,l.toNat,av _ _,rfl⟩);exact .inr ⟨w.heap.size,0,l.toNat,av _ _,rfl,_,by rw [p.new],hcl,cz _,hml,fun i' hi' j hj=>by rw [<-heq i' hi' j hj,cD];exact hels i' hi' j hj⟩
     ·rename_i len' el';cases he;obtain⟨_,_,_,_,hle,heq,_⟩:=hc;rw [hle];exact Mf fr hi hrun' fun i' hi' j hj=>by rw [<-heq i' hi' j hj,cD];exact hels i' hi' j hj
     ·cases he;refine bI (p.gr fr (pl:= .blk w.heap.size 0 l.toNat) hρ) (p.fr fr hρ) (p.hi fr hi hfr ?_) hrun' (.inl ⟨w.heap.size,0,l.toNat,av _ _,rfl⟩);exact .inr ⟨w.heap.size,0,l.toNat,av _ _,rfl,_,by rw [p.new],hcl,cz _,hml,fun i' hi' j hj=>by rw [cD];exact hels i' hi' j hj⟩
   ·cases he
  ·cases he
 ·cases he
theorem kC {b:Builtin} {args:Array Operand} {ts:Array TypeId} (hop:o.op= .call {callee:= .builtin b,args:=args,argTypes:=ts}):
  ∃consts,execOp a.eval o=builtin b ts o.type consts (args.map a.eval):=by
 refine⟨args.map fun| .const _=>true|_=>false, ?_⟩;simp only [execOp,hop,resolve];rfl
theorem Qg {x:Operand} {t e:TypeId} {ti:TI} {esz len:Nat} {el:Nat->Nat->DV} (ht:fA P t ti) (hd:ti.d= .slice e) (hop:o.op= .call {callee:= .builtin .cap,args:= #[x],argTypes:= #[t] })
  (fr:Fr B ρ F w) (hi:HI B ρ F w h) (hx:dW ρ F w (.d (.sl (some false) esz len el)) (a.eval x)):Good P B ρ F w h o a (.v (.one (.d (.int .i64 0)))) []:=by
 obtain⟨consts,hex⟩:=kC (a:=a) hop;have hu:=aK (w:=w) ht;obtain⟨ad,cap,hv,_,h2,h3,_⟩:=hx;have h4:=h2 rfl;have h5:=(h3 h4).2;rw [hd]at hu;refine aG (v:= .int .i64 0) fr hi ?_ rfl;rw [hex];simp [builtin,Builtin.cap_,hu,hv,goInt,h5]
theorem Rk {x:Operand} {t:TypeId} {ti:TI} {xa:TV} {E:Eff} (ht:fA P t ti) (hop:o.op= .call {callee:= .builtin .len,args:= #[x],argTypes:= #[t] }) (he:Nl ti.d xa=some E)
  (fr:Fr B ρ F w) (hi:HI B ρ F w h) (hx:bE ρ F w xa (a.eval x)):Good P B ρ F w h o a E.tv E.hd:=by
 obtain⟨consts,hex⟩:=kC (a:=a) hop;have hu:=aK (w:=w) ht;unfold Nl at he;split at he
 ·rename_i e nn esz len el hd;cases bL he;obtain⟨ad,cap,hv,_⟩:=hx;rw [hd]at hu;refine aG (v:= .int .i64 len) fr hi ?_ rfl;rw [hex];simp [builtin,Builtin.len_,hu,hv,goInt]
 ·rename_i e b nn len hd;cases bL he;rw [hd]at hu;refine aG (v:= .int .i64 len) fr hi ?_ rfl;rcases hx with⟨k,cap,_,hv⟩|⟨_,_,h0,hv⟩
  ·rw [hex];simp [builtin,Builtin.len_,hu,hv,goInt]
  ·rw [hex,h0];simp [builtin,Builtin.len_,hu,hv,goInt]
 ·rename_i s hd;cases bL he;have hv:a.eval x= .string s:=hx;rw [hd]at hu;refine aG (v:= .int .i64 s.size) fr hi ?_ rfl;rw [hex];simp [builtin,Builtin.len_,hu,hv,goInt]
 ·rename_i n e hd;cases bL he;rw [hd]at hu;refine aG (v:= .int .i64 n) fr hi ?_ rfl;rw [hex];simp [builtin,Builtin.len_,hu,goInt]
 ·cases he
theorem Qx {x y:Operand} {ts:Array TypeId} {k k':IntKind} {p q:Int} (hop:o.op= .call {callee:= .builtin .max,args:= #[x,y],argTypes:=ts})
  (fr:Fr B ρ F w) (hi:HI B ρ F w h) (hx:bE ρ F w (.v (.one (.d (.int k p)))) (a.eval x)) (hy:bE ρ F w (.v (.one (.d (.int k' q)))) (a.eval y)):
  Good P B ρ F w h o a (.v (.one (.d (.int k (if p<q then q else p))))) []:=by
 obtain⟨consts,hex⟩:=kC (a:=a) hop;have hx':a.eval x= .int k p:=hx;have hy':a.eval y= .int k' q:=hy;refine aG (v:= .int k (if p<q then q else p)) fr hi ?_ rfl;rw [hex];simp [builtin,Builtin.max_,hx',hy',List.foldlM,Builtin.max2]
theorem QR {x y:Operand} {ts:Array TypeId} {k k':IntKind} {p q:Int} (hop:o.op= .call {callee:= .builtin .min,args:= #[x,y],argTypes:=ts})
  (fr:Fr B ρ F w) (hi:HI B ρ F w h) (hx:bE ρ F w (.v (.one (.d (.int k p)))) (a.eval x)) (hy:bE ρ F w (.v (.one (.d (.int k' q)))) (a.eval y)):
  Good P B ρ F w h o a (.v (.one (.d (.int k (if q<p then q else p))))) []:=by
 obtain⟨consts,hex⟩:=kC (a:=a) hop;have hx':a.eval x= .int k p:=hx;have hy':a.eval y= .int k' q:=hy;refine aG (v:= .int k (if q<p then q else p)) fr hi ?_ rfl;rw [hex];simp [builtin,Builtin.min_,hx',hy',List.foldlM,Builtin.min2]
theorem IQ {xa:TV} {v:Value} {obs:List (Option (Option Ob))} {esz len:Nat} {el:Nat->Nat->DV} (hs:Ld xa obs=some (esz,len,el)) (hi:HI B ρ F w h)
  (hobs: ∀b nn n,xa= .v (.one (.own b nn n))-> ∃r,obs=h b::r) (hx:bE ρ F w xa v):
  ((∃ad c,v= .slice ad 0 c)/\len=0)\/ ∃k off cap,v= .slice (some ⟨k,off,none⟩) len cap/\ ∃news:List Value,news.length=len*esz/\(∀i u,news[i]? =some u->w.cell? ⟨k,off+i,none⟩=some u)/\
   (∀u∈news,u.oneCell'=true)/\ ∀i,i<len-> ∀j,j<esz-> ∃u,news[i*esz+j]? =some u/\bG F w (el i j) u:=by
 have build: ∀(k off n:Nat),(∀i,i<n-> ∃u,w.cell? ⟨k,off+i,none⟩=some u/\u.oneCell'=true)->
   ∃news:List Value,news.length=n/\(∀i u,news[i]? =some u->w.cell? ⟨k,off+i,none⟩=some u)/\ ∀u∈news,u.oneCell'=true:=by
  intro k off n;induction n with
  |zero=>intro _;exact⟨[],rfl,by simp,by simp⟩
  |succ n ih=>
   intro hh;obtain⟨news,h1,h2,h3⟩:=ih fun i hi=>hh i (by omega);obtain⟨u,hu,hu1⟩:=hh n (by omega);refine⟨news++[u],by simp [h1],fun i v hv=> ?_,fun v hv=> ?_⟩
   ·rw [List.getElem?_append]at hv;split at hv
    ·exact h2 i v hv
    ·rename_i e;have:i=n:=by
      rcases Nat.lt_or_ge i (n+1)with hlt|hge;·omega
      ·rw [eM (by simp;omega)]at hv;cases hv
     subst this;rw [h1,Nat.sub_self]at hv;simp at hv;subst hv;exact hu
   ·rcases cA.1 hv with hv|hv
    ·exact h3 v hv
    ·simp at hv;subst hv;exact hu1
 have parts: ∀(q:Nat),q<len*esz->q / esz<len/\q % esz<esz/\q / esz*esz+q % esz=q:=by
  intro q hq;have hpos:0<esz:=Nat.pos_of_ne_zero fun e=>by subst e;simp at hq
  exact⟨Nat.div_lt_of_lt_mul (by rw [ef];exact hq),eN _ hpos,by rw [ef];exact Nat.div_add_mod q esz⟩
 unfold Ld at hs;split at hs
 ·rename_i nn esz' len' el' _;cases hs;obtain⟨ad,cap,hv,_,_,h3,_,h4⟩:=hx;cases ad with
  |none=>left;obtain⟨h5,h6⟩:=h3 rfl;subst h5 h6;exact⟨⟨_,_,hv⟩,rfl⟩
  |some ad=>
   by_cases hl0:len=0;·left;subst hl0;exact⟨⟨_,_,hv⟩,rfl⟩
   right;obtain⟨hsp0,hcell⟩:=h4 ad rfl;have hsp:=hsp0 (by omega);obtain⟨ak,ao,asp⟩:=ad;simp at hsp;subst hsp;obtain⟨news,n1,n2,n3⟩:=build ak ao (len*esz) fun q hq=>by
    obtain⟨q1,q2,q3⟩:=parts q hq;obtain⟨_,u,hu,hr⟩:=hcell _ q1 _ q2;rw [q3]at hu;exact⟨u,hu,hr.oneCell⟩
   refine⟨ak,ao,cap,hv,news,n1,n2,n3,fun i hi' j hj=> ?_⟩;obtain⟨_,u,hu,hr⟩:=hcell i hi' j hj;have hin:i*esz+j<news.length:=by
    rw [n1];have:(i+1)*esz<=len*esz:=cH _ (by omega);rw [eh,ei]at this;omega
   have hg:=cS hin;have:=n2 _ _ hg;simp only at this hu;rw [hu]at this;cases this;exact⟨_,hg,hr⟩
 ·rename_i b nn n E' esz' len' el' _;obtain⟨r,hr0⟩:=hobs b nn n rfl;simp only [List.cons.injEq]at hr0;cases hb:Nat.beq n len' with
  |false=>simp [hb]at hs
  |true=>
   simp only [hb,bu]at hs;have:=bw hb;subst this;cases hs;obtain⟨ft,hi⟩:=hi;rcases hx with⟨k,base,cap,hk,hv⟩|⟨_,_,h0,hv⟩
   ·right;rcases hi.obj b _ hr0.1.symm with⟨g1,_⟩|⟨k',base',cap',g1,g0,vs,g2,g3,g4,g5,g6⟩
    ·rw [hk]at g1;cases g1
    ·rw [hk]at g1;cases g1;obtain⟨news,n1,n2,n3⟩:=build k base (len*esz) fun q hq=>by
      obtain⟨q1,q2,q3⟩:=parts q hq;obtain⟨u,hu,hr⟩:=g6 _ q1 _ q2;rw [q3]at hu;exact⟨u,by rw [bW g2];exact hu,hr.oneCell⟩
     refine⟨k,base,cap,hv,news,n1,n2,n3,fun i hi' j hj=> ?_⟩;obtain⟨u,hu,hr⟩:=g6 i hi' j hj;have hin:i*esz+j<news.length:=by
      rw [n1];have:(i+1)*esz<=len*esz:=cH _ (by omega);rw [eh,ei]at this;omega
     have hg:=cS hin;have:=n2 _ _ hg;rw [bW g2,hu]at this;cases this;exact⟨_,hg,hr⟩
   ·left;subst h0;exact⟨⟨_,_,hv⟩,rfl⟩
 ·cases hs
theorem gU {x y:Operand} {t t':TypeId} (hop:o.op= .call {callee:= .builtin .append,args:= #[x,y],argTypes:= #[t,t'] }) {v:Value}
  (hr:(Builtin.append_ #[t,t'] o.type #[a.eval x,a.eval y]).run P w= .ok v w'):(execOp a.eval o).run P w= .ok (.value v) w':=by
 obtain⟨consts,hex⟩:=kC (a:=a) hop;rw [hex];simp [builtin,hr]
theorem HI.ND (fr:Fr B ρ F w) (hi:HI B ρ F w h) {b:Nat} {nob:Ob} (hb:h b=none) (hr:jv (bN ρ b .nil) F w (fun _=>False) b nob):HI B (bN ρ b .nil) F w (upd h [(b,some nob)]):=by
 have hρ:=hi.fresh b hb;obtain⟨ft,hi⟩:=hi;have g:Gr ρ F w (bN ρ b .nil) F w:=⟨aT hρ,fun _ h=>h,fun _ _=>rfl⟩;have hu: ∀b',upd h [(b,some nob)] b'=if b=b' then some (some nob)else h b':=fun b'=>jT _ _ _
 refine⟨tK ft b fun _=>False,hi.step g fr (cz _) (fun b'=>b'=b) (fun b' ob' e hh=> ?_) (fun b' ob' e hh=> ?_) (fun b' ob' k e hh hf=> ?_) (fun b1 b2 o1 o2 k e1 e2 _ _ _ _=>e1.trans e2.symm) (fun k hk=> .inl hk) fun b' hh=> ?_⟩
 ·rw [hu,ci (Ne.symm e)]at hh;exact⟨hh,fun _ _=>rfl,fun k=>by rw [gI e]⟩
 ·subst e;rw [hu,cj rfl]at hh;cases hh;rw [bP];exact hr
 ·subst e;rw [bP]at hf;exact hf.elim
 ·rw [hu]at hh;split at hh
  ·cases hh
  ·rename_i e;rw [show bN ρ b .nil b'=ρ b' by simp [bN,Ne.symm e]];exact hi.fresh b' hh
section
variable {e t ty:TypeId} {i:TypeInfo} {z:Value} {size bytes:Nat}
theorem Aq (ht:P.underlying t=some (.slice e)) (hi:P.info? e=some i)
  (g base n cap:Nat) (cur:List Value) (hg:w.heap[g]? =some (.cells cur.toArray e (0,0)))
  (a:Addr) (m c:Nat) (news:List Value) (hl:news.length=m*i.size) (hnews: ∀j u,news[j]? =some u->w.cell? (a.add j)=some u) (h1: ∀u∈news,u.oneCell'=true)
  (hroom:n+m<=cap) (hfit:base+n*i.size+news.length<=cur.length):
  (Builtin.append_ #[t,t] ty #[.slice (some ⟨g,base,none⟩) n cap, .slice (some a) m c]).run P w=
   .ok (.slice (some ⟨g,base,none⟩) (n+m) cap) (w.setRow g (cur.take (base+n*i.size)++news++cur.drop (base+n*i.size+news.length)).toArray):=by
 have hf:=run_firstCells_some (P:=P) w i.size m a m c news hl hnews;have hst:=run_storeCells_at P g (base+n*i.size) e news 0 cur.toArray w hg (by simpa using hfit) h1;simp only [Nat.add_zero]at hst;simp [Builtin.append_,run_underlying ht,Go.sizeOf,typeInfo,hi,Builtin.lenOf,hroom,hf,eO,hst]
theorem FC (ht:P.underlying t=some (.slice e)) (hi:P.info? e=some i) (hz:i.zero=some z) (hs:i.size=size) (hby:i.bytes=bytes) (hzs:z.cells.size=size)
  {k base n cap:Nat} {vs:List Value} (hk:w.heap[k]? =some (.cells vs.toArray e (0,0))) (hl:base+cap*size<=vs.length) (hn:n<=cap) (hcm:cap<=maxLen)
  {ks offs m caps:Nat} {news:List Value} (hnl:news.length=m*size) (hnews: ∀j u,news[j]? =some u->w.cell? ⟨ks,offs+j,none⟩=some u) (h1: ∀u∈news,u.oneCell'=true)
  (hmax:n+m<=4611686018427387904) (hbytes:(n+m)*bytes<=140737488355328):
  ∃k' base' cap' row W,(Builtin.append_ #[t,t] ty #[.slice (some ⟨k,base,none⟩) n cap, .slice (some ⟨ks,offs,none⟩) m caps]).run P w= .ok (.slice (some ⟨k',base',none⟩) (n+m) cap') W/\
   ((k'=k/\base'=base/\cap'=cap/\Put w W k)\/(k'=w.heap.size/\Push w W (.cells (List.toArray row) e)))/\W.heap[k']? =some (.cells (List.toArray row) e (0,0))/\base'+cap'*size<=row.length/\n+m<=cap'/\cap'<=maxLen/\
   (∀q,q<n*size->row[base'+q]? =vs[base+q]?)/\(∀q,q<m*size->row[base'+(n*size+q)]? =news[q]?):=by
 subst hs hby;have hnews': ∀j u,news[j]? =some u->w.cell? ((⟨ks,offs,none⟩:Addr).add j)=some u:=fun j u hu=>by rw [eO];exact hnews j u hu
 have hm63:n+m<=maxLen:=by unfold maxLen;omega
 by_cases hroom:n+m<=cap
 ·have hfit:base+n*i.size+news.length<=vs.length:=by
   have:(n+m)*i.size<=cap*i.size:=cH _ hroom;rw [eh]at this;omega
  have hrun:=Aq (P:=P) (w:=w) (ty:=ty) ht hi k base n cap vs hk ⟨ks,offs,none⟩ m caps news hnl hnews' h1 hroom hfit;refine⟨k,base,cap,vs.take (base+n*i.size)++news++vs.drop (base+n*i.size+news.length),_,hrun, .inl ⟨rfl,rfl,rfl,Put.setRow _ _ _⟩, ?_, ?_,hroom,hcm,fun q hq=> ?_,fun q hq=> ?_⟩;·exact setRow_heap w k _ _ e (0,0) hk
  ·simp;omega
  ·rw [dH _ _ _ hfit,cj (by omega)]
  ·rw [dH _ _ _ hfit,ci (by omega),cj (by omega)];congr 1;omega
 ·have hold:base+n*i.size<=vs.length:=d7 (Nat.add_le_add_left (cH _ hn) _) hl;have hol:((vs.drop base).take (n*i.size)).length=n*i.size:=by simp;omega
  have hrun:=run_append_grow (P:=P) w t ty e i z ht hi hz ⟨k,base,none⟩ n cap ((vs.drop base).take (n*i.size)) hol (fun j u hu=>by
    rw [List.getElem?_take]at hu;split at hu;·rw [List.getElem?_drop]at hu;rw [eO,bW hk];exact hu
    ·cases hu) ⟨ks,offs,none⟩ m caps news hnl hnews' (by omega) (by unfold maxLen at hm63;omega) (growslice_fits (by omega) hbytes)
  have earr:(((vs.drop base).take (n*i.size)++news)++(Builtin.zeroCells z.cells (grownCap w (n+m) cap e - (n+m))).toList).toArray=((vs.drop base).take (n*i.size)).toArray++news.toArray++Builtin.zeroCells z.cells (grownCap w (n+m) cap e - (n+m)):=Array.ext' (by simp);refine⟨w.heap.size,0,grownCap w (n+m) cap e,((vs.drop base).take (n*i.size)++news)++(Builtin.zeroCells z.cells (grownCap w (n+m) cap e - (n+m))).toList,_,hrun, .inr ⟨rfl, ?_⟩, ?_, ?_,grownCap_ge w (n+m) cap e,grownCap_le_maxLen w (n+m) cap e hm63,fun q hq=> ?_,fun q hq=> ?_⟩;·rw [earr];exact Push.uQ w _
  ·rw [earr];exact heap_alloc_new w.drew _
  ·have:=grownCap_ge w (n+m) cap e;rw [cd,cd,hol,hnl,dj,size_zeroCells,hzs];rw [<-eh,<-eh,cD];exact cH _ (by omega)
  ·rw [cD,cU (by rw [cd];omega),cU (by omega),List.getElem?_take,cj hq,List.getElem?_drop]
  ·rw [cD,cU (by rw [cd];omega),cV (by omega),hol];congr 1;omega
theorem append_nil (ht:P.underlying t=some (.slice e)) (hi:P.info? e=some i) (hz:i.zero=some z) (hs:i.size=size) (hby:i.bytes=bytes) (hzs:z.cells.size=size)
  {ks offs m caps:Nat} {news:List Value} (hnl:news.length=m*size) (hnews: ∀j u,news[j]? =some u->w.cell? ⟨ks,offs+j,none⟩=some u)
  (hmax:m<=4611686018427387904) (hbytes:m*bytes<=140737488355328) (hm:0<m):
  ∃cap' row W,(Builtin.append_ #[t,t] ty #[.slice none 0 0, .slice (some ⟨ks,offs,none⟩) m caps]).run P w= .ok (.slice (some ⟨w.heap.size,0,none⟩) m cap') W/\
   Push w W (.cells (List.toArray row) e)/\W.heap[w.heap.size]? =some (.cells (List.toArray row) e (0,0))/\row.length=cap'*size/\m<=cap'/\cap'<=maxLen/\(∀q,q<m*size->row[q]? =news[q]?):=by
 subst hs hby;have hnews': ∀j u,news[j]? =some u->w.cell? ((⟨ks,offs,none⟩:Addr).add j)=some u:=fun j u hu=>by rw [eO];exact hnews j u hu
 have hm63:m<=maxLen:=by unfold maxLen;omega
 have hrun:=run_append_nil (P:=P) w t ty e i z ht hi hz ⟨ks,offs,none⟩ m caps news hnl hnews' hm (by omega) (by omega);have earr:(news++(Builtin.zeroCells z.cells (grownCap w m 0 e - m)).toList).toArray=news.toArray++Builtin.zeroCells z.cells (grownCap w m 0 e - m):=Array.ext' (by simp);refine⟨grownCap w m 0 e,news++(Builtin.zeroCells z.cells (grownCap w m 0 e - m)).toList,_,hrun, ?_, ?_, ?_,grownCap_ge w m 0 e,grownCap_le_maxLen w m 0 e hm63,fun q hq=> ?_⟩;·rw [earr];exact Push.uQ w _
 ·rw [earr];exact heap_alloc_new w.drew _
 ·have:=grownCap_ge w m 0 e;simp only [cd,dj,size_zeroCells,hzs,hnl];rw [<-eh];congr 1;omega
 ·rw [cU (by omega)]
theorem lu {ad:Option Addr} {c:Nat} (ht:P.underlying t=some (.slice e)) (hi:P.info? e=some i) {v:Value} {n k base cap:Nat} (hv:(v= .slice none 0 0/\n=0)\/(v= .slice (some ⟨k,base,none⟩) n cap/\n<=cap)):
  (Builtin.append_ #[t,t] ty #[v, .slice ad 0 c]).run P w= .ok v w:=by
 rcases hv with⟨rfl,rfl⟩|⟨rfl,hn⟩;·cases ad<;>simp [Builtin.append_,run_underlying ht,Go.sizeOf,typeInfo,hi,Builtin.lenOf,Builtin.firstCells,loadCells,loadCellsFrom]
 ·cases ad<;>simp [Builtin.append_,run_underlying ht,Go.sizeOf,typeInfo,hi,Builtin.lenOf,Builtin.firstCells,hn,storeCells,loadCells,loadCellsFrom]
theorem Bp (ht:P.underlying t=some (.slice e)) (hi:P.info? e=some i) (a0:Addr) (c:Nat):
  (Builtin.append_ #[t,t] ty #[.slice none 0 0, .slice (some a0) 0 c]).run P w= .ok (.slice none 0 0) w:=by
 simp [Builtin.append_,run_underlying ht,Go.sizeOf,typeInfo,hi,Builtin.lenOf,Builtin.firstCells,loadCells,loadCellsFrom]
end
end
section
variable {P:Program} {B:Base} {ρ ρ':Nat->Option Pl} {F F':Nat->Prop} {w w':World} {h:Hp} {o:Oper} {a:Act} {T:List (Nat × TI)}
theorem nG.move {ft:Nat->Nat->Prop} {S:Nat->Prop} (fr:Fr B ρ F w) (hi:nG B ρ F w h ft) {b b':Nat} {p:Pl} {ob nob:Ob} (hb:h b=some (some ob)) (hb':h b'=none) (g:Gr ρ F w (bN ρ b' p) F w') (hsz:w.heap.size<=w'.heap.size)
  (hkeep: ∀x ox,x≠b->h x=some (some ox)-> ∀k,ft x k->w'.heap[k]? =w.heap[k]?) (hS: ∀k,S k->ft b k\/(w.heap.size<=k/\k<w'.heap.size))
  (hr:jv (bN ρ b' p) F w' S b' nob):nG B (bN ρ b' p) F w' (upd h [(b',some nob),(b,none)]) (tK ft b' S):=by
 have hbb:b≠b':=fun e=>by rw [e,hb']at hb;cases hb
 have hu: ∀x,upd h [(b',some nob),(b,none)] x=if b'=x then some (some nob)else if b=x then some none else h x:=by
  intro x;exact yF _ _ _ _ _
 refine hi.step g fr hsz (fun x=>x=b\/x=b') (fun x ob' e hh=> ?_) (fun x ob' e hh=> ?_) (fun x ob' k e hh hf=> ?_) (fun b1 b2 o1 o2 k e1 e2 h1 h2 _ _=> ?_) (fun k hk=> .inl hk) fun x hh=> ?_
 ·rw [hu,ci (fun e'=>e (.inr e'.symm)),ci (fun e'=>e (.inl e'.symm))]at hh;exact⟨hh,hkeep x ob' (fun e'=>e (.inl e')) hh,fun k=>by rw [gI (fun e'=>e (.inr e'))]⟩
 ·by_cases e1:b'=x
  ·subst e1;rw [hu,cj rfl]at hh;cases hh;rw [bP];exact hr
  ·rw [hu,ci e1]at hh;split at hh
   ·cases hh
   ·rename_i e2;rcases e with e|e
    ·exact absurd e.symm e2
    ·exact absurd e.symm e1
 ·by_cases e1:b'=x
  ·subst e1;rw [bP]at hf;rcases hS k hf with q|q
   ·exact .inl ⟨b,ob, .inl rfl,hb,q⟩
   ·exact .inr q
  ·rw [hu,ci e1]at hh;split at hh
   ·cases hh
   ·rename_i e2;rcases e with e|e
    ·exact absurd e.symm e2
    ·exact absurd e.symm e1
 ·have key: ∀x ob',(x=b\/x=b')->upd h [(b',some nob),(b,none)] x=some (some ob')->x=b':=fun x ob' e hh=>by
   rcases e with e|e;·subst e;rw [hu,ci (Ne.symm hbb),cj rfl]at hh;cases hh
   ·exact e
  rw [key b1 o1 e1 h1,key b2 o2 e2 h2]
 ·rw [hu]at hh;split at hh
  ·cases hh
  ·rename_i e;split at hh
   ·cases hh
   ·rw [show bN ρ b' p x=ρ x by simp [bN,Ne.symm e]];exact hi.fresh x hh
structure Re (B:Base) (ρ:Nat->Option Pl) (F:Nat->Prop) (w:World) (ft:Nat->Nat->Prop) (b fresh e esz n lenx:Nat) (news:List Value) (nob:Ob):Prop where
 nil:n=0->lenx=0-> ∀ρ',ρ' fresh=some .nil->jv ρ' F w (fun _=>False) fresh nob
 row: ∀(ρ':Nat->Option Pl) (W:World) (k' base' cap':Nat) (row:List Value) (S:Nat->Prop),Gr ρ F w ρ' F W->ρ' fresh=some (.blk k' base' cap')->S k'->(∀q,ft b q->S q)->
  (∀q,ft b q->(∀base cap,ρ b≠some (.blk q base cap))->q≠k'/\W.heap[q]? =w.heap[q]?)->W.heap[k']? =some (.cells (List.toArray row) e (0,0))->base'+cap'*esz<=row.length->n+lenx<=cap'->cap'<=maxLen->
  (∀k base cap vs,ρ b=some (.blk k base cap)->w.heap[k]? =some (.cells (List.toArray vs) e (0,0))-> ∀q,q<n*esz->row[base'+q]? =vs[base+q]?)->(ρ b=some .nil->n=0)->
  (∀q,q<lenx*esz->row[base'+(n*esz+q)]? =news[q]?)->jv ρ' F W S fresh nob
theorem FY {x y:Operand} {t e:TypeId} {te:TI} {fresh b nn n lenx:Nat} {nb:Bool} {ob nob:Ob} {ft:Nat->Nat->Prop} (h1:P.underlying t=some (.slice e))
  (hte:fA P e te) (hpos:1<=te.size) (hzl:te.zero.length=te.size) (hop:o.op= .call {callee:= .builtin .append,args:= #[x,y],argTypes:= #[t,t] }) (hfr:h fresh=none) (hob:h b=some (some ob))
  (fr:Fr B ρ F w) (hi:nG B ρ F w h ft) (hx:dW ρ F w (.own b nb n) (a.eval x)) (hbytes:(n+lenx)*te.bytes<=140737488355328) (hmax:n+lenx<=4611686018427387904)
  (hrow: ∀k base cap,ρ b=some (.blk k base cap)->ft b k/\ ∃vs:List Value,w.heap[k]? =some (.cells vs.toArray e (0,0))/\base+cap*te.size<=vs.length/\n<=cap/\cap<=maxLen)
  {news:List Value} (hsrc:((∃ad c,a.eval y= .slice ad 0 c)/\lenx=0/\news=[])\/ ∃k off cap,a.eval y= .slice (some ⟨k,off,none⟩) lenx cap/\news.length=lenx*te.size/\(∀i u,news[i]? =some u->w.cell? ⟨k,off+i,none⟩=some u)/\(∀u∈news,u.oneCell'=true))
  (re:Re B ρ F w ft b fresh e te.size n lenx news nob):Good P B ρ F w h o a (.v (.one (.own fresh false (n+lenx)))) [(fresh,some nob),(b,none)]:=by
 obtain⟨_,i,z,hie,hs,hby,hz,hzc⟩:=hte;have hbf:fresh≠b:=fun e=>by rw [<-e,hfr]at hob;cases hob
 have hzsz:z.cells.size=te.size:=by rw [<-dj,hzc,hzl]
 have hρf:=hi.fresh fresh hfr;have grn: ∀p,Gr ρ F w (bN ρ fresh p) F w:=fun p=> ⟨aT hρf,fun _ h=>h,fun _ _=>rfl⟩;have frn: ∀p,Fr B (bN ρ fresh p) F w:=fun p=>{fr with rho:=fun b' p' e=>aT hρf b' p' (fr.rho b' p' e)};have oth: ∀x ox k,x≠b->h x=some (some ox)->ft x k->ft b k->False:=fun x ox k hne hx' h1 h2=>hne (hi.dis x b ox ob k hx' hob h1 h2);have nilway:n=0->lenx=0->(Builtin.append_ #[t,t] o.type #[a.eval x,a.eval y]).run P w= .ok (.slice none 0 0) w->Good P B ρ F w h o a (.v (.one (.own fresh false (n+lenx)))) [(fresh,some nob),(b,none)]:=by
  intro n0 l0 hrun;have hh:=nG.move (S:=fun _=>False) fr hi hob hfr (grn .nil) (cz _) (fun _ _ _ _ _ _=>rfl) (fun _ hf=>hf.elim) (re.nil n0 l0 _ (av _ _));subst n0;subst l0;exact bI (grn _) (frn _) ⟨_,hh⟩ (gU hop hrun) (.inr ⟨rfl,av _ _,rfl,rfl⟩)
 rcases hsrc with⟨⟨ad0,c0,hyn⟩,hl0,hnews⟩|⟨ks,offs,caps,hyv,hn1,hn2,hn3⟩
 ·-- nothing is appended: the same slice under a new name
  rcases hx with⟨k,base,cap,hk,hv⟩|⟨_,hkn,h0,hv⟩
  ·obtain⟨hft,vs,g2,g3,g4,g5⟩:=hrow k base cap hk;have hr:(execOp a.eval o).run P w= .ok (.value (.slice (some ⟨k,base,none⟩) n cap)) w:=gU hop (by rw [hyn,hv];exact lu h1 hie (.inr ⟨rfl,g4⟩));have hrep:=re.row (bN ρ fresh (.blk k base cap)) w k base cap vs (ft b) (grn _) (av _ _) hft (fun _ h=>h) (fun q hq hne=> ⟨fun e=>hne base cap (by rw [e];exact hk),rfl⟩) g2 g3 (by omega) g5
    (fun k0 base0 cap0 vs0 e1 e2 q hq=>by rw [hk]at e1;cases e1;rw [g2]at e2;simp at e2;rw [e2]) (fun e=>by rw [hk]at e;cases e) (fun q hq=>by subst hl0;simp at hq)
   refine bI (grn _) (frn _) ⟨_,nG.move fr hi hob hfr (grn _) (cz _) (fun _ _ _ _ _ _=>rfl) (fun _ hf=> .inl hf) hrep⟩ hr (.inl ⟨k,base,cap,av _ _,by rw [hl0,Nat.add_zero]⟩)
  ·exact nilway h0 hl0 (by rw [hyn,hv];exact lu (k:=0) (base:=0) (cap:=0) (n:=0) h1 hie (.inl ⟨rfl,rfl⟩))
 ·rcases hx with⟨k,base,cap,hk,hv⟩|⟨_,hkn,h0,hv⟩
  ·obtain⟨hft,vs,g2,g3,g4,g5⟩:=hrow k base cap hk;obtain⟨k1,base1,cap1,row,W,hrun,hway,r1,r2,r3,r4,r5,r6⟩:=FC (P:=P) (w:=w) (t:=t) (ty:=o.type) h1 hie hz hs hby hzsz g2 g3 g4 g5 hn1 hn2 hn3 (ks:=ks) (offs:=offs) (caps:=caps) hmax hbytes;have hr:(execOp a.eval o).run P w= .ok (.value (.slice (some ⟨k1,base1,none⟩) (n+lenx) cap1)) W:=gU hop (by rw [hyv,hv];exact hrun);have r5': ∀k0 base0 cap0 vs0,ρ b=some (.blk k0 base0 cap0)->w.heap[k0]? =some (.cells (List.toArray vs0) e (0,0))-> ∀q,q<n*te.size->row[base1+q]? =vs0[base0+q]? :=fun k0 base0 cap0 vs0 e1 e2 q hq=>by
    rw [hk]at e1;cases e1;rw [g2]at e2;simp at e2;rw [<-e2];exact r5 q hq
   rcases hway with⟨rfl,rfl,rfl,pt⟩|⟨rfl,ps⟩
   ·have hblk:=hi.blk b _ k1 hob hft;have gr1:=pt.gr (ρ:=ρ) hblk.2.1;have fr1:=pt.fr fr hblk.2.2;have gr2:Gr ρ F w (bN ρ fresh (.blk k1 base1 cap1)) F W:=gr1.trans ⟨aT hρf,fun _ h=>h,fun _ _=>rfl⟩;have hrep:=re.row (bN ρ fresh (.blk k1 base1 cap1)) W k1 base1 cap1 row (ft b) gr2 (av _ _) hft (fun _ h=>h)
     (fun q hq hne=>have e:q≠k1:=fun e=>hne base1 cap1 (by rw [e];exact hk);⟨e,pt.old q e⟩) r1 r2 r3 r4 r5' (fun e=>by rw [hk]at e;cases e) r6
    refine bI gr2 {fr1 with rho:=fun b' p' e=>aT hρf b' p' (fr1.rho b' p' e)} ⟨_,nG.move fr hi hob hfr gr2 (by rw [pt.size];omega) (fun x ox hne hx' q hq=>pt.old q fun e=>oth x ox q hne hx' hq (e ▸ hft)) (fun _ hf=> .inl hf) hrep⟩ hr (.inl ⟨k1,base1,cap1,av _ _,rfl⟩)
   ·have gr1:=ps.gr fr (b:=fresh) (pl:= .blk w.heap.size base1 cap1) hρf;have hrep:=re.row (bN ρ fresh (.blk w.heap.size base1 cap1)) W w.heap.size base1 cap1 row (fun q=>q=w.heap.size\/ft b q) gr1 (av _ _) (.inl rfl) (fun _ h=> .inr h)
     (fun q hq hne=>have hlt:=(hi.blk b _ q hob hq).1;⟨by omega,ps.old hlt⟩) r1 r2 r3 r4 r5' (fun e=>by rw [hk]at e;cases e) r6
    refine bI gr1 (ps.fr fr hρf) ⟨_,nG.move fr hi hob hfr gr1 (by rw [ps.sz];omega) (fun x ox hne hx' q hq=>ps.old (hi.blk x ox q hx' hq).1) (fun q hf=> ?_) hrep⟩ hr (.inl ⟨_,base1,cap1,av _ _,rfl⟩);rcases hf with rfl|hf;·exact .inr ⟨cz _,by rw [ps.sz];omega⟩
    ·exact .inl hf
  ·have h0':n=0:=h0;by_cases hm:lenx=0
   ·exact nilway h0' hm (by rw [hyv,hv,hm];exact Bp h1 hie _ _)
   ·rw [h0']at hbytes hmax;simp only [cD]at hbytes hmax;obtain⟨cap1,row,W,hrun,ps,r1,r2,r3,r4,r6⟩:=append_nil (P:=P) (w:=w) (t:=t) (ty:=o.type) h1 hie hz hs hby hzsz hn1 hn2 (ks:=ks) (offs:=offs) (caps:=caps) hmax hbytes (by omega);have hr:(execOp a.eval o).run P w= .ok (.value (.slice (some ⟨w.heap.size,0,none⟩) lenx cap1)) W:=gU hop (by rw [hyv,hv];exact hrun);have gr1:=ps.gr fr (b:=fresh) (pl:= .blk w.heap.size 0 cap1) hρf;have hrep:=re.row (bN ρ fresh (.blk w.heap.size 0 cap1)) W w.heap.size 0 cap1 row (fun q=>q=w.heap.size\/ft b q) gr1 (av _ _) (.inl rfl) (fun _ h=> .inr h)
     (fun q hq hne=>have hlt:=(hi.blk b _ q hob hq).1;⟨by omega,ps.old hlt⟩) r1 (by rw [r2,cD];exact cz _) (by rw [h0',cD];exact r3) r4
     (fun k0 base0 cap0 vs0 e1 _ q hq=>by rw [hkn]at e1;cases e1) (fun _=>h0') (fun q hq=>by rw [h0',Nat.zero_mul,cD,cD];exact r6 q hq)
    have htv:bE (bN ρ fresh (.blk w.heap.size 0 cap1)) F W (.v (.one (.own fresh false (n+lenx)))) (.slice (some ⟨w.heap.size,0,none⟩) lenx cap1):= .inl ⟨_,0,cap1,av _ _,by rw [h0',cD]⟩;refine bI gr1 (ps.fr fr hρf) ⟨_,nG.move fr hi hob hfr gr1 (by rw [ps.sz];omega) (fun x ox hne hx' q hq=>ps.old (hi.blk x ox q hx' hq).1) (fun q hf=> ?_) hrep⟩ hr htv;rcases hf with rfl|hf;·exact .inr ⟨cz _,by rw [ps.sz];omega⟩
    ·exact .inl hf
end
section
variable {P:Program} {B:Base} {ρ ρ':Nat->Option Pl} {F F':Nat->Prop} {w w':World} {h:Hp} {o:Oper} {a:Act} {T:List (Nat × TI)}
theorem uo {i len esz j:Nat} (hi:i<len) (hj:j<esz):i*esz+j<len*esz:=by
 have:(i+1)*esz<=len*esz:=cH _ (by omega);rw [eh,ei]at this;omega
theorem Ci {i n esz:Nat} (h:n<=i) (j:Nat):i*esz+j=n*esz+((i - n)*esz+j):=by
 have e6:i*esz=n*esz+(i - n)*esz:=by rw [<-eh];congr 1;omega
 omega
theorem Re.arr {ft:Nat->Nat->Prop} {b fresh e esz n lenx:Nat} {news:List Value} {el elx el':Nat->Nat->DV} (hob:jv ρ F w (ft b) b (.arr e esz n el)) (hsrc: ∀i,i<lenx-> ∀j,j<esz-> ∃u,news[i*esz+j]? =some u/\bG F w (elx i j) u)
  (heq:aI (n+lenx) esz (nM el n elx) el'):Re B ρ F w ft b fresh e esz n lenx news (.arr e esz (n+lenx) el'):=by
 refine⟨fun n0 l0 ρ' hρ=> .inl ⟨hρ,by omega⟩,fun ρ' W k' base' cap' row S g hρ hS hsub hoth hk hl hle hcm hpre hnil hsuf=> .inr ⟨k',base',cap',hρ,hS,row,hk,hl,hle,hcm,fun i hi j hj=> ?_⟩⟩;rw [<-heq i hi j hj,nM];split
 ·rename_i hlt;rcases hob with⟨h0,h1⟩|⟨k,base,cap,h0,_,vs,h2,h3,h4,h5,h6⟩
  ·have:=hnil h0;omega
  ·obtain⟨u,hu,hr⟩:=h6 i hlt j hj;exact⟨u,by rw [hpre k base cap vs h0 h2 _ (uo hlt hj)];exact hu,bG.gr g.fz g.mem hr⟩
 ·rename_i hge;obtain⟨u,hu,hr⟩:=hsrc (i - n) (by omega) j hj;exact⟨u,by rw [Ci (show n<=i by omega) j,hsuf ((i - n)*esz+j) (uo (by omega) hj)];exact hu,bG.gr g.fz g.mem hr⟩
theorem Rq.Rp {S:Nat->Prop} {x:DV} {y:EV} {v:Value} (h:Rq x y) (hr:bG F w x v):gY F w S none y v:=by
 cases y with
 |d y=>cases h;exact hr
 |row E esz n el=>
  obtain⟨h0,e,l,f,rfl⟩:=h;obtain⟨ad,cap,hv,_,h2,h3,_⟩:=hr;have:=h2 rfl;subst this;obtain⟨rfl,rfl⟩:=h3 rfl;exact .inl ⟨h0,hv⟩
open Classical in
theorem Re.rows {ft:Nat->Nat->Prop} {b fresh e esz n lenx:Nat} {news:List Value} {el el':Nat->Nat->EV} {elx:Nat->Nat->DV} (hob:jv ρ F w (ft b) b (.rows e esz n el none)) (hsrc: ∀i,i<lenx-> ∀j,j<esz-> ∃u,news[i*esz+j]? =some u/\bG F w (elx i j) u)
  (heq:BH n lenx esz el elx el'):Re B ρ F w ft b fresh e esz n lenx news (.rows e esz (n+lenx) el' none):=by
 refine⟨fun n0 l0 ρ' hρ=> .inl ⟨hρ,by omega⟩,fun ρ' W k' base' cap' row S g hρ hS hsub hoth hk hl hle hcm hpre hnil hsuf=> ?_⟩;have hsuf': ∀i,n<=i->i<n+lenx-> ∀j,j<esz-> ∃u,row[base'+(i*esz+j)]? =some u/\gY F W S none (el' i j) u:=fun i h1 h2 j hj=>by
  obtain⟨u,hu,hr⟩:=hsrc (i - n) (by omega) j hj;refine⟨u,by rw [Ci h1 j,hsuf ((i - n)*esz+j) (uo (by omega) hj)];exact hu, ?_⟩;have:=heq.2 (i - n) (by omega) j hj;rw [show n+(i - n)=i by omega]at this;exact this.Rp (bG.gr g.fz g.mem hr)
 rcases hob with⟨h0,h1⟩|⟨k,base,cap,vs,rb,h0,h00,h2,h3,h4,h5,h6,h7,h8⟩
 ·have n0:=hnil h0;exact .inr ⟨k',base',cap',row,fun _ _=>none,hρ,hS,hk,hl,hle,hcm,fun i hi j hj=>hsuf' i (by omega) hi j hj,(fun _ _ _ _ _ e=>by cases e),(fun _ _ e=>by cases e)⟩
 ·obtain⟨rb',hrb⟩: ∃rb':Nat->Nat->Option Nat,∀i j q,rb' i j=some q↔i<n/\rb i j=some q/\ft b q/\q≠k:=by
   refine⟨fun i j=>match rb i j with|some q=>if i<n/\ft b q/\q≠k then some q else none|none=>none,fun i j q=> ?_⟩;simp only;cases hq:rb i j with
   |none=>simp
   |some q'=>
    simp only [Option.some.injEq];split
    ·rename_i hc;constructor
     ·intro e;cases e;exact⟨hc.1,rfl,hc.2⟩
     ·rintro ⟨_,e,_⟩;rw [e]
    ·rename_i hc;constructor
     ·intro e;cases e
     ·rintro ⟨e1,e2,e3⟩;subst e2;exact absurd ⟨e1,e3⟩ hc
  have hno: ∀q,q≠k-> ∀base cap,ρ b≠some (.blk q base cap):=fun q hq base' cap' e=>by rw [h0]at e;cases e;exact hq rfl
  refine .inr ⟨k',base',cap',row,rb',hρ,hS,hk,hl,hle,hcm,fun i hi j hj=> ?_,fun i j i' j' q e1 e2=> ?_,fun i j e=> ?_⟩
  ·by_cases hlt:i<n
   ·obtain⟨u,hu,hr⟩:=h6 i hlt j hj;refine⟨u,by rw [hpre k base cap vs h0 h2 _ (uo hlt hj)];exact hu, ?_⟩;show gY F W S _ (el' i j) u;rw [heq.1 i hlt j hj];have hr:gY F w (ft b) (rb i j) (el i j) u:=hr;cases hel:el i j with
    |d x=>rw [hel]at hr;exact bG.gr g.fz g.mem hr
    |row E1 esz1 n1 el1=>
     rw [hel]at hr;rcases hr with hr|⟨q,bq,cq,q1,q2,q3,q4⟩;·exact .inl hr
     ·have hqk:q≠k:=fun e=>h8 i j (by rw [q1,e]);exact .inr ⟨q,bq,cq,(hrb i j q).2 ⟨hlt,q1,q2,hqk⟩,hsub q q2,q3,q4.keep g (hoth q q2 (hno q hqk)).2⟩
   ·obtain⟨u,hu,hr⟩:=hsuf' i (by omega) hi j hj;refine⟨u,hu, ?_⟩;show gY F W S _ (el' i j) u;cases hel:el' i j with
    |d x=>rw [hel]at hr;exact hr
    |row E1 esz1 n1 el1=>
     rw [hel]at hr;rcases hr with hr|⟨q,bq,cq,q1,_⟩;·exact .inl hr
     ·cases q1
  ·exact h7 _ _ _ _ _ ((hrb i j q).1 e1).2.1 ((hrb i' j' q).1 e2).2.1
  ·obtain⟨_,_,e3,e4⟩:=(hrb i j k').1 e;exact(hoth k' e3 (hno k' e4)).1 rfl
theorem JM {y:Operand} {xa:TV} {rest:List (Option (Option Ob))} {esz lenx:Nat} {elx:Nat->Nat->DV} (hsrc:Ld xa rest=some (esz,lenx,elx)) (hi:HI B ρ F w h) (hsrco: ∀b nn n,xa= .v (.one (.own b nn n))-> ∃r,rest=h b::r) (hy:bE ρ F w xa (a.eval y)):
  ∃news:List Value,(((∃ad c,a.eval y= .slice ad 0 c)/\lenx=0/\news=[])\/ ∃k off cap,a.eval y= .slice (some ⟨k,off,none⟩) lenx cap/\news.length=lenx*esz/\(∀i u,news[i]? =some u->w.cell? ⟨k,off+i,none⟩=some u)/\(∀u∈news,u.oneCell'=true))/\
   ∀i,i<lenx-> ∀j,j<esz-> ∃u,news[i*esz+j]? =some u/\bG F w (elx i j) u:=by
 rcases IQ hsrc hi hsrco hy with⟨h1,h2⟩|⟨k,off,cap,h1,news,h2,h3,h4,h5⟩;·exact⟨[], .inl ⟨h1,h2,rfl⟩,fun i hi=>by omega⟩
 ·exact⟨news, .inr ⟨k,off,cap,h1,h2,h3,h4⟩,h5⟩
theorem Jf {row:List Value} {e:TypeId} {sz len cap:Nat} {el:Nat->Nat->DV} {W:World} {fz:Nat × Nat} (fr:Fr B ρ F w) (hi:HI B ρ F w h) (p:Push w W (.cells (List.toArray row) e fz)) (hrun:(execOp a.eval o).run P w= .ok (.value (.slice (some ⟨w.heap.size,0,none⟩) len cap)) W) (hlc:len<=cap)
  (hels: ∀i,i<len-> ∀j,j<sz-> ∃u,row[i*sz+j]? =some u/\bG F w (el i j) u):Good P B ρ F w h o a (.v (.one (.d (.sl (some true) sz len el)))) []:=by
 let F0:Nat->Prop:=fun k=>F k\/k=w.heap.size
 have hsz0:W.heap.size=w.heap.size+1:=p.sz;have g0:Gr ρ F w ρ F0 W:=⟨fun _ _ h=>h,fun _ h=> .inl h,fun k hk=>p.old (fr.fz k hk).1⟩;have hfr0:Fr B ρ F0 W:=by
  refine⟨p.os.trans fr.os,p.tape ▸ fr.tape,p.output.trans fr.output,by have:=fr.size;omega,fun k hk hn=>(p.old (by have:=fr.size;omega)).trans (fr.mem k hk hn),fr.rho,fun k hk=> ?_,fun k hk=> .inl (fr.bf k hk)⟩;rcases hk with hk|hk;·obtain⟨x,y⟩:=fr.fz k hk;exact⟨by omega,y⟩
  ·subst hk;exact⟨by omega, .inr (.inr fr.size)⟩
 have hi0:HI B ρ F0 W h:=by
  obtain⟨ft,hi⟩:=hi;refine⟨ft,hi.step g0 fr (by omega) (fun _=>False) (fun b ob _ hb=> ⟨hb,fun k hk=>p.old (hi.blk b ob k hb hk).1,fun _=>Iff.rfl⟩) (fun _ _ h=>h.elim) (fun _ _ _ h=>h.elim) (fun _ _ _ _ _ h=>h.elim) (fun k hk=> ?_) hi.fresh⟩;rcases hk with hk|hk;·exact .inl hk
  ·subst hk;exact .inr (.inr ⟨cz _,fun _ _ h=>h.elim⟩)
 refine bI g0 hfr0 hi0 hrun ⟨some ⟨w.heap.size,0,none⟩,_,rfl,(fun _ e=>by cases e),(fun e=>by cases e),(fun e=>by cases e),hlc,fun ad ha=> ?_⟩;cases ha;refine⟨fun _=>rfl,fun i hi' j hj=> ⟨.inr rfl, ?_⟩⟩;obtain⟨u,hu,hr⟩:=hels i hi' j hj;refine⟨u, ?_,bG.gr g0.fz g0.mem hr⟩;rw [bW (by rw [p.new]),cD];exact hu
theorem GA {k off:Nat}: ∀(n:Nat),(∀q,q<n-> ∃u,w.cell? ⟨k,off+q,none⟩=some u)-> ∃l:List Value,l.length=n/\ ∀q u,l[q]? =some u->w.cell? ⟨k,off+q,none⟩=some u
 |0,_=> ⟨[],rfl,fun q u h=>by simp at h⟩
 |n+1,h=>by
  obtain⟨l,h1,h2⟩:=GA n fun q hq=>h q (by omega);obtain⟨u,hu⟩:=h n (by omega);refine⟨l++[u],by simp [h1],fun q v hv=> ?_⟩;by_cases hq:q<n;·rw [cU (by omega)]at hv;exact h2 q v hv
  ·rw [cV (by omega),h1]at hv;have:q=n:=by
    rcases Nat.lt_or_ge n q with g|g;·rw [eM (by simp;omega)]at hv;cases hv
    ·omega
   subst this;rw [Nat.sub_self]at hv;cases hv;exact hu
theorem MF {x y:Operand} {t e:TypeId} {te:TI} {b n lenx:Nat} {nb:Bool} {E':TypeId} {el elx el':Nat->Nat->DV} (h1:P.underlying t=some (.slice e))
  (hte:fA P e te) (hpos:1<=te.size) (hzl:te.zero.length=te.size) (hop:o.op= .call {callee:= .builtin .append,args:= #[x,y],argTypes:= #[t,t] }) (hob:h b=some (some (.frow true E' te.size n el))) (hn0:0<n)
  (fr:Fr B ρ F w) (hi:HI B ρ F w h) (hx:dW ρ F w (.own b nb n) (a.eval x)) (hbytes:(n+lenx)*te.bytes<=140737488355328) (hmax:n+lenx<=4611686018427387904)
  {news:List Value} (hsrc:((∃ad c,a.eval y= .slice ad 0 c)/\lenx=0/\news=[])\/ ∃k off cap,a.eval y= .slice (some ⟨k,off,none⟩) lenx cap/\news.length=lenx*te.size/\(∀i u,news[i]? =some u->w.cell? ⟨k,off+i,none⟩=some u)/\(∀u∈news,u.oneCell'=true))
  (hels: ∀i,i<lenx-> ∀j,j<te.size-> ∃u,news[i*te.size+j]? =some u/\bG F w (elx i j) u) (heq:aI (n+lenx) te.size (nM el n elx) el'):Good P B ρ F w h o a (.v (.one (.d (.sl (some true) te.size (n+lenx) el')))) []:=by
 obtain⟨_,i,z,hie,hs,hby,hz,hzc⟩:=hte;have hzsz:z.cells.size=te.size:=by rw [<-dj,hzc,hzl]
 have hob':jv ρ F w (fun _=>False) b (.frow true E' te.size n el):=by
  obtain⟨ft,hi⟩:=hi;obtain⟨k,base,cap,g1,g2,g3⟩:=hi.obj b _ hob;exact⟨k,base,cap,g1,g2,g3⟩
 obtain⟨k,base,cap,g1,g2,g3⟩:=hob';have g2:=g2.2 rfl;subst g2;rcases hx with⟨k',base',cap',hk,hv⟩|⟨_,_,h0,_⟩
 ·rw [g1]at hk;cases hk;have stay:lenx=0->(Builtin.append_ #[t,t] o.type #[a.eval x,a.eval y]).run P w= .ok (.slice (some ⟨k,base,none⟩) cap cap) w->Good P B ρ F w h o a (.v (.one (.d (.sl (some true) te.size (cap+lenx) el')))) []:=fun l0 hrun=>by
   subst l0;refine aG fr hi (gU hop hrun) ⟨some ⟨k,base,none⟩,cap,rfl,(fun _ e=>by cases e),(fun e=>by cases e),(fun e=>by cases e),cz _,fun ad ha=> ?_⟩;cases ha;refine⟨fun _=>rfl,fun i hi' j hj=> ?_⟩;obtain⟨hf,u,hu,hr⟩:=g3 i (by omega) j hj;refine⟨hf,u,hu, ?_⟩;rw [<-heq i hi' j hj,nM,cj (by omega)];exact hr
  rcases hsrc with⟨⟨ad0,c0,hyn⟩,hl0,_⟩|⟨ks,offs,caps,hyv,hn1,hn2,hn3⟩;·exact stay hl0 (by rw [hyn,hv];exact lu h1 hie (.inr ⟨rfl,cz _⟩))
  ·by_cases hm:lenx=0
   ·exact stay hm (by rw [hyv,hv,hm];exact lu h1 hie (.inr ⟨rfl,cz _⟩))
   ·obtain⟨old,ho1,ho2⟩:=GA (w:=w) (k:=k) (off:=base) (cap*te.size) fun q hq=>by
     obtain⟨_,u,hu,_⟩:=g3 (q / te.size) (Nat.div_lt_of_lt_mul (by rw [ef];exact hq)) (q % te.size) (eN _ (by omega));rw [show q / te.size*te.size+q % te.size=q by rw [ef];exact Nat.div_add_mod _ _]at hu;exact⟨u,hu⟩
    have hm63:cap+lenx<=maxLen:=by unfold maxLen;omega
    have hrun:=run_append_grow (P:=P) w t o.type e i z h1 hie hz ⟨k,base,none⟩ cap cap old (by rw [hs];exact ho1) (fun j v hj=>by rw [eO];exact ho2 j v hj) ⟨ks,offs,none⟩ lenx caps news (by rw [hs];exact hn1) (fun j v hj=>by rw [eO];exact hn2 j v hj)
     (by omega) (by unfold maxLen at hm63;omega) (growslice_fits (by omega) (by rw [hby];exact hbytes))
    have earr:((old++news)++(Builtin.zeroCells z.cells (grownCap w (cap+lenx) cap e - (cap+lenx))).toList).toArray=old.toArray++news.toArray++Builtin.zeroCells z.cells (grownCap w (cap+lenx) cap e - (cap+lenx)):=Array.ext' (by simp);have hr:(execOp a.eval o).run P w= .ok (.value (.slice (some ⟨w.heap.size,0,none⟩) (cap+lenx) (grownCap w (cap+lenx) cap e))) _:=gU hop (by rw [hyv,hv];exact hrun);refine Jf (row:=(old++news)++(Builtin.zeroCells z.cells (grownCap w (cap+lenx) cap e - (cap+lenx))).toList) fr hi (by rw [earr];exact Push.uQ w _) hr (grownCap_ge w _ _ e) fun i' hi' j hj=> ?_;have hin:=uo hi' hj;rw [<-heq i' hi' j hj,nM];split
    ·rename_i hlt;obtain⟨_,u,hu,hru⟩:=g3 i' hlt j hj;have hl:i'*te.size+j<old.length:=by rw [ho1];exact uo hlt hj
     have h2:=ho2 _ _ (cS hl);rw [hu]at h2;refine⟨u, ?_,hru⟩;rw [cR,cU hl,cS hl];exact h2.symm
    ·rename_i hge;obtain⟨u,hu,hru⟩:=hels (i' - cap) (by omega) j hj;refine⟨u, ?_,hru⟩;have hsp:=Ci (show cap<=i' by omega) j (esz:=te.size);have hnl:=uo (show i' - cap<lenx by omega) hj;rw [hsp,cR,cV (by omega),ho1,Nat.add_sub_cancel_left,cU (by omega)];exact hu
 ·omega
theorem Mj {x y:Operand} {t e:TypeId} {te:TI} {b n lenx:Nat} {nb:Bool} {el elx el':Nat->Nat->DV} (h1:P.underlying t=some (.slice e))
  (hte:fA P e te) (hpos:1<=te.size) (hzl:te.zero.length=te.size) (hop:o.op= .call {callee:= .builtin .append,args:= #[x,y],argTypes:= #[t,t] }) (hob:h b=some (some (.arr e te.size n el))) (hn0:0<n)
  (fr:Fr B ρ F w) (hi:HI B ρ F w h) (hx:dW ρ F w (.own b nb n) (a.eval x)) (hbytes:(n+lenx)*te.bytes<=140737488355328) (hmax:n+lenx<=4611686018427387904)
  {news:List Value} (hsrc:((∃ad c,a.eval y= .slice ad 0 c)/\lenx=0/\news=[])\/ ∃k off cap,a.eval y= .slice (some ⟨k,off,none⟩) lenx cap/\news.length=lenx*te.size/\(∀i u,news[i]? =some u->w.cell? ⟨k,off+i,none⟩=some u)/\(∀u∈news,u.oneCell'=true))
  (hels: ∀i,i<lenx-> ∀j,j<te.size-> ∃u,news[i*te.size+j]? =some u/\bG F w (elx i j) u) (heq:aI (n+lenx) te.size (nM el n elx) el'):Good P B ρ F w h o a (.v (.one (.d (.sl (some true) te.size (n+lenx) el')))) [(b,some (.frow false e te.size n el))]:=by
 obtain⟨_,i,z,hie,hs,hby,hz,hzc⟩:=hte;have hzsz:z.cells.size=te.size:=by rw [<-dj,hzc,hzl]
 obtain⟨ft,hi⟩:=hi;rcases hi.obj b _ hob with⟨q,_⟩|⟨k,base,cap,g1,g0,vs,g2,g3,g4,g5,g6⟩
 ·rcases hx with⟨k',base',cap',hk,_⟩|⟨_,_,h0,_⟩
  ·rw [q]at hk;cases hk
  ·omega
 rcases hx with⟨k',base',cap',hk,hv⟩|⟨_,_,h0,_⟩
 case inr=>omega
 rw [g1]at hk;cases hk;obtain⟨b1,b2,b3⟩:=hi.blk b _ k hob g0;have fin: ∀(k1 base1 cap1:Nat) (W:World),(Builtin.append_ #[t,t] o.type #[a.eval x,a.eval y]).run P w= .ok (.slice (some ⟨k1,base1,none⟩) (n+lenx) cap1) W->n+lenx<=cap1->w.heap.size<=W.heap.size->(k1=k\/(k1=w.heap.size/\k1<W.heap.size))->
   (∀q,q<w.heap.size->q≠k->W.heap[q]? =w.heap[q]?)->W.os=w.os->W.tape=w.tape->OD W w->
   (∀q,q<n*te.size-> ∀u,vs[base+q]? =some u->W.cell? ⟨k,base+q,none⟩=some u)->
   (∀q,q<n*te.size-> ∀u,vs[base+q]? =some u->W.cell? ⟨k1,base1+q,none⟩=some u)->(∀q,q<lenx*te.size-> ∀u,news[q]? =some u->W.cell? ⟨k1,base1+(n*te.size+q),none⟩=some u)->
   Good P B ρ F w h o a (.v (.one (.d (.sl (some true) te.size (n+lenx) el')))) [(b,some (.frow false e te.size n el))]:=fun k1 base1 cap1 W hrun hcap hsz hk1 hold hos htp hod hc1 hc2 hc3=>by
  let F0:Nat->Prop:=fun q=>F q\/q=k\/q=k1
  have g:Gr ρ F w ρ F0 W:=⟨fun _ _ h=>h,fun _ h=> .inl h,fun q hq=>hold q (fr.fz q hq).1 fun e=>b2 (e ▸ hq)⟩;have hu: ∀b',upd h [(b,some (.frow false e te.size n el))] b'=if b=b' then some (some (.frow false e te.size n el))else h b':=fun b'=>jT _ _ _
  have oth: ∀x ox q,x≠b->h x=some (some ox)->ft x q->q≠k:=fun x ox q hne hx' hq e=>hne (hi.dis x b ox _ q hx' hob hq (e ▸ g0));refine bI g ⟨hos.trans fr.os,htp ▸ fr.tape,hod.trans fr.output,by have:=fr.size;omega,fun q hq hn=> ?_,fr.rho,fun q hq=> ?_,fun q hq=> .inl (fr.bf q hq)⟩ ⟨tK ft b fun _=>False,hi.step g fr hsz (fun x=>x=b) (fun x ob e hh=> ?_) (fun x ob e hh=> ?_) (fun x ob q e hh hq=> ?_) (fun _ _ _ _ _ e1 e2 _ _ _ _=>e1.trans e2.symm) (fun q hq=> ?_) (fun x hh=> ?_)⟩ (gU hop hrun) ⟨some ⟨k1,base1,none⟩,cap1,rfl,(fun _ e=>by cases e),(fun e=>by cases e),(fun e=>by cases e),hcap,fun ad ha=> ?_⟩
  ·by_cases e:q=k
   ·subst e;rcases b3 with b3|b3
    ·exact absurd b3 hn
    ·omega
   ·exact(hold q (by have:=fr.size;omega) e).trans (fr.mem q hq hn)
  ·rcases hq with hq|rfl|rfl
   ·obtain⟨x1,x2⟩:=fr.fz q hq;exact⟨by omega,x2⟩
   ·exact⟨by omega,by rcases b3 with b3|b3;exact .inr (.inl b3);exact .inr (.inr b3)⟩
   ·rcases hk1 with rfl|⟨rfl,hlt⟩
    ·exact⟨by omega,by rcases b3 with b3|b3;exact .inr (.inl b3);exact .inr (.inr b3)⟩
    ·exact⟨hlt, .inr (.inr fr.size)⟩
  ·rw [hu,ci (Ne.symm e)]at hh;exact⟨hh,fun q hq=>hold q (hi.blk x ob q hh hq).1 (oth x ob q e hh hq),fun q=>by rw [gI e]⟩
  ·subst e;rw [hu,cj rfl]at hh;cases hh;refine⟨k,base,cap,g1,⟨by omega,fun e=>by cases e⟩,fun i' hi' j hj=> ⟨.inr (.inl rfl), ?_⟩⟩;obtain⟨u,hu',hr⟩:=g6 i' hi' j hj;exact⟨u,hc1 _ (uo hi' hj) u hu',bG.gr g.fz g.mem hr⟩
  ·subst e;rw [bP]at hq;exact hq.elim
  ·rcases hq with hq|rfl|rfl
   ·exact .inl hq
   ·exact .inr (.inl ⟨⟨b,_,rfl,hob,g0⟩,fun x ob e hh hq=>by subst e;rw [bP]at hq;exact hq⟩)
   ·rcases hk1 with rfl|⟨rfl,hlt⟩
    ·exact .inr (.inl ⟨⟨b,_,rfl,hob,g0⟩,fun x ob e hh hq=>by subst e;rw [bP]at hq;exact hq⟩)
    ·exact .inr (.inr ⟨cz _,fun x ob e hh hq=>by subst e;rw [bP]at hq;exact hq⟩)
  ·rw [hu]at hh;split at hh
   ·cases hh
   ·exact hi.fresh x hh
  ·cases ha;refine⟨fun _=>rfl,fun i' hi' j hj=> ⟨.inr (.inr rfl), ?_⟩⟩;rw [<-heq i' hi' j hj,nM];split
   ·rename_i hlt;obtain⟨u,hu',hr⟩:=g6 i' hlt j hj;exact⟨u,hc2 _ (uo hlt hj) u hu',bG.gr g.fz g.mem hr⟩
   ·rename_i hge;obtain⟨u,hu',hr⟩:=hels (i' - n) (by omega) j hj;have hsp:=Ci (show n<=i' by omega) j (esz:=te.size);refine⟨u, ?_,bG.gr g.fz g.mem hr⟩;have:=hc3 _ (uo (show i' - n<lenx by omega) hj) u hu';rw [hsp];exact this
 have cell0: ∀q u,vs[base+q]? =some u->w.cell? ⟨k,base+q,none⟩=some u:=fun q u hq=>by rw [bW g2];exact hq
 have stay:lenx=0->(Builtin.append_ #[t,t] o.type #[a.eval x,a.eval y]).run P w= .ok (.slice (some ⟨k,base,none⟩) n cap) w->Good P B ρ F w h o a (.v (.one (.d (.sl (some true) te.size (n+lenx) el')))) [(b,some (.frow false e te.size n el))]:=fun l0 hrun=>
  fin k base cap w (by rw [l0];exact hrun) (by omega) (cz _) (.inl rfl) (fun _ _ _=>rfl) rfl rfl (.refl _) (fun q _ u hq=>cell0 q u hq) (fun q _ u hq=>cell0 q u hq) fun q hq=>by rw [l0,Nat.zero_mul]at hq;omega
 rcases hsrc with⟨⟨ad0,c0,hyn⟩,hl0,_⟩|⟨ks,offs,caps,hyv,hn1,hn2,hn3⟩;·exact stay hl0 (by rw [hyn,hv];exact lu h1 hie (.inr ⟨rfl,g4⟩))
 ·by_cases hm:lenx=0
  ·exact stay hm (by rw [hyv,hv,hm];exact lu h1 hie (.inr ⟨rfl,g4⟩))
  ·obtain⟨k1,base1,cap1,row,W,hrun,hway,r1,r2,r3,r4,r5,r6⟩:=FC (P:=P) (w:=w) (t:=t) (ty:=o.type) h1 hie hz hs hby hzsz g2 g3 g4 g5 hn1 hn2 hn3 (ks:=ks) (offs:=offs) (caps:=caps) hmax hbytes;have hrun':(Builtin.append_ #[t,t] o.type #[a.eval x,a.eval y]).run P w= .ok (.slice (some ⟨k1,base1,none⟩) (n+lenx) cap1) W:=by rw [hyv,hv];exact hrun
   have c2: ∀q,q<n*te.size-> ∀u,vs[base+q]? =some u->W.cell? ⟨k1,base1+q,none⟩=some u:=fun q hq u hu'=>by rw [bW r1,r5 q hq];exact hu'
   have c3: ∀q,q<lenx*te.size-> ∀u,news[q]? =some u->W.cell? ⟨k1,base1+(n*te.size+q),none⟩=some u:=fun q hq u hu'=>by rw [bW r1,r6 q hq];exact hu'
   rcases hway with⟨rfl,rfl,rfl,pt⟩|⟨rfl,ps⟩;·exact fin _ _ _ W hrun' r3 (by rw [pt.size];omega) (.inl rfl) (fun q _ hq=>pt.old q hq) pt.os pt.tape pt.output c2 c2 c3
   ·exact fin _ _ _ W hrun' r3 (by rw [ps.sz];omega) (.inr ⟨rfl,by rw [ps.sz];omega⟩) (fun q hq _=>ps.old hq) ps.os ps.tape ps.output (fun q hq u hu'=>by
     have:=cell0 q u hu';rw [cell_of_heap (ps.old b1)];exact this) c2 c3
theorem JQ {x y:Operand} {t e:TypeId} {te:TI} {xs xa:TV} {fresh:Nat} {an:jB} {obs:List (Option (Option Ob))} {E:Eff} (h1:P.underlying t=some (.slice e))
  (hte:fA P e te) (hop:o.op= .call {callee:= .builtin .append,args:= #[x,y],argTypes:= #[t,t] }) (he:Dk fresh an e te xs xa obs=some E) (hc:All E.conds)
  (hobs:obs=(foot .none fresh o.op [xs,xa]).map h) (fr:Fr B ρ F w) (hi:HI B ρ F w h) (hx:bE ρ F w xs (a.eval x)) (hy:bE ρ F w xa (a.eval y)):Good P B ρ F w h o a E.tv E.hd:=by
 have hfoot: ∀b nn n,xs= .v (.one (.own b nn n))-> ∃rest,obs=h fresh::h b::rest/\ ∀b' tN n',xa= .v (.one (.own b' tN n'))-> ∃r,rest=h b'::r:=by
  intro b nn n hxs;subst hxs;rw [hop]at hobs;cases xa with
  |eZ l=>simp [foot]at hobs;exact⟨[],hobs,by simp⟩
  |v s=>cases s with
   |agg cs=>simp [foot]at hobs;exact⟨[],hobs,by simp⟩
   |one c=>
    cases c<;>simp [foot]at hobs<;>first|exact⟨[],hobs,by simp⟩|exact⟨_,hobs,fun b' tN n' hh=>by cases hh;exact⟨[],rfl⟩⟩
 unfold Dk at he;split at he
 ·-- onto an object
  rename_i b nn n;obtain⟨rest',hob',hsrco⟩:=hfoot b nn n rfl;split at he
  ·rename_i ob rest;simp only [List.cons.injEq]at hob';obtain⟨hfr,hob,hrr⟩:=hob';subst hrr;split at he
   ·rename_i eszx lenx elx hsrc;unfold Jl at he;split at he
    ·rename_i E' esz len el;split at he
     ·rename_i len' el';cases hb:(Nat.beq e E' && Nat.beq esz te.size && Nat.beq eszx esz && Nat.ble 1 esz && Nat.beq te.zero.length te.size)with
      |false=>simp [hb]at he
      |true=>
       simp only [hb,bu]at he;simp only [ce]at hb;have e1:=bw hb.1.1.1.1;have e2:=bw hb.1.1.1.2;have e3:=bw hb.1.1.2;have hpos:=cm hb.1.2;have hzl:=bw hb.2;subst e1 e2 e3;cases he;obtain⟨hn,hbytes,hmax,hll,heq,_⟩:=hc;subst hn;subst hll;obtain⟨news,hs1,hs2⟩:=JM hsrc hi hsrco hy;obtain⟨ft,hi⟩:=hi;have hrep:=hi.obj b _ hob.symm;refine FY (nn:=0) h1 hte hpos hzl hop hfr.symm hob.symm fr hi hx hbytes hmax (fun k base cap hk=> ?_) hs1 (Re.arr hrep hs2 heq);rcases hrep with⟨h0,_⟩|⟨k',base',cap',h0,h00,vs,h2,h3,h4,h5,h6⟩;·rw [hk]at h0;cases h0
       ·rw [hk]at h0;cases h0;exact⟨h00,vs,h2,h3,h4,h5⟩
     ·rename_i len' el';cases hb:(Nat.beq e E' && Nat.beq esz te.size && Nat.beq eszx esz && Nat.ble 1 esz && Nat.beq te.zero.length te.size)with
      |false=>simp [hb]at he
      |true=>
       simp only [hb,bu]at he;simp only [ce]at hb;have e1:=bw hb.1.1.1.1;have e2:=bw hb.1.1.1.2;have e3:=bw hb.1.1.2;have hpos:=cm hb.1.2;have hzl:=bw hb.2;subst e1 e2 e3;cases he;obtain⟨hn,hn0,hbytes,hmax,hll,heq,_⟩:=hc;subst hn;subst hll;obtain⟨news,hs1,hs2⟩:=JM hsrc hi hsrco hy;exact Mj h1 hte hpos hzl hop hob.symm hn0 fr hi hx hbytes hmax hs1 hs2 heq
     ·cases he
    ·rename_i E' esz len el;split at he
     ·rename_i len' el';cases hb:(Nat.beq e E' && Nat.beq esz te.size && Nat.beq eszx esz && Nat.ble 1 esz && Nat.beq te.zero.length te.size)with
      |false=>simp [hb]at he
      |true=>
       simp only [hb,bu]at he;simp only [ce]at hb;have e1:=bw hb.1.1.1.1;have e2:=bw hb.1.1.1.2;have e3:=bw hb.1.1.2;have hpos:=cm hb.1.2;have hzl:=bw hb.2;subst e1 e2 e3;cases he;obtain⟨hn,hn0,hbytes,hmax,hll,heq,_⟩:=hc;subst hn;subst hll;obtain⟨news,hs1,hs2⟩:=JM hsrc hi hsrco hy;exact MF h1 hte hpos hzl hop hob.symm hn0 fr hi hx hbytes hmax hs1 hs2 heq
     ·cases he
    ·rename_i E' esz len el;split at he
     ·rename_i len' el';cases hb:(Nat.beq e E' && Nat.beq esz te.size && Nat.beq eszx esz && Nat.ble 1 esz && Nat.beq te.zero.length te.size)with
      |false=>simp [hb]at he
      |true=>
       simp only [hb,bu]at he;simp only [ce]at hb;have e1:=bw hb.1.1.1.1;have e2:=bw hb.1.1.1.2;have e3:=bw hb.1.1.2;have hpos:=cm hb.1.2;have hzl:=bw hb.2;subst e1 e2 e3;cases he;obtain⟨hn,hbytes,hmax,hll,heq,_⟩:=hc;subst hn;subst hll;obtain⟨news,hs1,hs2⟩:=JM hsrc hi hsrco hy;obtain⟨ft,hi⟩:=hi;have hrep:=hi.obj b _ hob.symm;refine FY (nn:=0) h1 hte hpos hzl hop hfr.symm hob.symm fr hi hx hbytes hmax (fun k base cap hk=> ?_) hs1 (Re.rows hrep hs2 heq);rcases hrep with⟨h0,_⟩|⟨k',base',cap',vs,rb,h0,h00,h2,h3,h4,h5,h6⟩;·rw [hk]at h0;cases h0
       ·rw [hk]at h0;cases h0;exact⟨h00,vs,h2,h3,h4,h5⟩
     ·cases he
    ·cases he
   ·cases he
  ·cases he
 ·rename_i esz0 len0 el0;split at he
  ·rename_i rest;split at he
   ·rename_i eszx lenx elx hsrc;unfold Iq at he;split at he
    ·rename_i len' el';cases hb:(Nat.beq eszx te.size && Nat.ble 1 te.size && Nat.beq te.zero.length te.size)with
     |false=>simp [hb]at he
     |true=>
      simp only [hb,bu]at he;simp only [ce]at hb;have e3:=bw hb.1.1;have hpos:=cm hb.1.2;have hzl:=bw hb.2;subst e3;cases he;obtain⟨hbytes,hmax,hll,heq,_⟩:=hc;have hll:=hll.symm;subst hll;have hfo:h fresh=none/\ ∀b' tN n',xa= .v (.one (.own b' tN n'))-> ∃r,rest=h b'::r:=by
       rw [hop]at hobs;cases xa with
       |eZ l=>simp [foot]at hobs;exact⟨hobs.1.symm,by simp⟩
       |v s=>cases s with
        |agg cs=>simp [foot]at hobs;exact⟨hobs.1.symm,by simp⟩
        |one c=>
         cases c
         case own b2 n2 l2=>simp [foot]at hobs;exact⟨hobs.1.symm,fun b' tN n' hh=>by cases hh;exact⟨[],hobs.2⟩⟩
         all_goals (simp [foot]at hobs;exact⟨hobs.1.symm,by simp⟩)
      obtain⟨hfr,hsrco⟩:=hfo;obtain⟨_,i,z,hie,hs,hby,hz,hzc⟩:=hte;have hzsz:z.cells.size=te.size:=by rw [<-dj,hzc,hzl]
      have hρf:=hi.fresh fresh hfr;have grn: ∀p,Gr ρ F w (bN ρ fresh p) F w:=fun p=> ⟨aT hρf,fun _ h=>h,fun _ _=>rfl⟩;have frn: ∀p,Fr B (bN ρ fresh p) F w:=fun p=>{fr with rho:=fun b' p' e=>aT hρf b' p' (fr.rho b' p' e)};have hv:a.eval x= .slice none 0 0:=by
       obtain⟨ad,cap,hv,_,h2,h3,_⟩:=hx;have:=h2 rfl;subst this;obtain⟨rfl,rfl⟩:=h3 rfl;exact hv
      have nilway:(Builtin.append_ #[t,t] o.type #[a.eval x,a.eval y]).run P w= .ok (.slice none 0 0) w->lenx=0->Good P B ρ F w h o a (.v (.one (.own fresh false lenx))) [(fresh,some (.arr e te.size lenx el'))]:=by
       intro hrun h0;subst h0;exact bI (grn _) (frn _) (hi.ND fr hfr (.inl ⟨av _ _,rfl⟩)) (gU hop hrun) (.inr ⟨rfl,av _ _,rfl,rfl⟩)
      rcases IQ hsrc hi hsrco hy with⟨⟨ad0,c0,hyn⟩,hl0⟩|⟨ks,offs,caps,hyv,news,hn1,hn2,hn3,hn4⟩;·exact nilway (by rw [hyn,hv];exact lu (k:=0) (base:=0) (cap:=0) (n:=0) h1 hie (.inl ⟨rfl,rfl⟩)) hl0
      ·by_cases hm:lenx=0
       ·exact nilway (by rw [hyv,hv,hm];exact Bp h1 hie _ _) hm
       ·obtain⟨cap1,row,W,hrun,ps,r1,r2,r3,r4,r6⟩:=append_nil (P:=P) (w:=w) (t:=t) (ty:=o.type) h1 hie hz hs hby hzsz hn1 hn2 (ks:=ks) (offs:=offs) (caps:=caps) hmax hbytes (by omega);have hr:(execOp a.eval o).run P w= .ok (.value (.slice (some ⟨w.heap.size,0,none⟩) lenx cap1)) W:=gU hop (by rw [hyv,hv];exact hrun);have gr1:=ps.gr fr (b:=fresh) (pl:= .blk w.heap.size 0 cap1) hρf;refine bI gr1 (ps.fr fr hρf) (ps.hi fr hi hfr (base:=0) (cap:=cap1) (.inr ⟨_,0,cap1,av _ _,rfl,row,r1,by rw [r2,cD];exact cz _,r3,r4,fun i' hi' j hj=> ?_⟩)) hr (.inl ⟨_,0,cap1,av _ _,rfl⟩);obtain⟨u,hu,hr'⟩:=hn4 i' hi' j hj;rw [cD,r6 _ (uo hi' hj),<-heq i' hi' j hj];exact⟨u,hu,bG.gr gr1.fz gr1.mem hr'⟩
    ·cases he
   ·cases he
  ·cases he
 ·cases he
theorem Ns {x y:Operand} {t t' e:TypeId} {kn:IntKind} {te:TI} {xs xa:TV} {fresh:Nat} {an:jB} {obs:List (Option (Option Ob))} {E:Eff} (h1:P.underlying t=some (.slice e)) (h2:P.underlying t'=some (.int kn))
  (hte:fA P e te) (hop:o.op= .call {callee:= .builtin .append,args:= #[x,y],argTypes:= #[t,t'] }) (he:Km fresh an e te xs xa obs=some E) (hc:All E.conds)
  (hobs:obs=(foot .none fresh o.op [xs,xa]).map h) (fr:Fr B ρ F w) (hi:HI B ρ F w h) (hx:bE ρ F w xs (a.eval x)) (hy:bE ρ F w xa (a.eval y)):Good P B ρ F w h o a E.tv E.hd:=by
 unfold Km at he;split at he
 ·rename_i esz0 len0 el0 kl l len' el' zc hzv;rw [hop]at hobs;simp [foot]at hobs;have hfr:h fresh=none:=hobs.symm;cases hb:(Nat.beq te.zero.length te.size && Nat.ble 1 te.size)with
  |false=>simp [hb]at he
  |true=>
   simp only [hb,bu]at he;simp only [ce]at hb;have hzl:=bw hb.1;have hpos:=cm hb.2;cases he;obtain⟨h0,hbytes,hmax,hle,heq,_⟩:=hc;subst hle;obtain⟨_,i,z,hie,hs,hby,hz,hzc⟩:=hte;have hzsz:z.cells.size=te.size:=by rw [<-dj,hzc,hzl]
   have hρf:=hi.fresh fresh hfr;have hv:a.eval x= .slice none 0 0:=by
    obtain⟨ad,cap,hv,_,h2,h3,_⟩:=hx;have:=h2 rfl;subst this;obtain⟨rfl,rfl⟩:=h3 rfl;exact hv
   have hv2:a.eval y= .int kl l:=hy;obtain⟨n,rfl⟩:=Int.eq_ofNat_of_zero_le (Int.le_of_lt h0);simp only [bx,Int.ofNat_eq_natCast]at*;have h0:0<n:=by omega
   have hnb:n*i.bytes<=281474976710656:=by
    rw [hby,ef];exact Int.ofNat_le.mp (by rw [Int.natCast_mul];omega)
   have hrun:=Lib.run_append_nil_zeros (P:=P) w t t' o.type e i z kl kn h1 h2 hie hz n h0 (by omega) (by omega) hnb;have hr:(execOp a.eval o).run P w= .ok (.value (.slice (some ⟨w.heap.size,0,none⟩) n (grownCap w n 0 e))) _:=gU hop (by rw [hv,hv2];exact hrun);have p:=Push.uQ w (.cells (Builtin.zeroCells z.cells n++Builtin.zeroCells z.cells (grownCap w n 0 e - n)) e);have hgc:=grownCap_ge w n 0 e;have hgm:=grownCap_le_maxLen w n 0 e (by unfold maxLen;omega);have gr1:=p.gr fr (b:=fresh) (pl:= .blk w.heap.size 0 (grownCap w n 0 e)) hρf;refine bI gr1 (p.fr fr hρf) (p.hi fr hi hfr (base:=0) (cap:=grownCap w n 0 e) (.inr ⟨_,0,grownCap w n 0 e,av _ _,rfl,(Builtin.zeroCells z.cells n++Builtin.zeroCells z.cells (grownCap w n 0 e - n)).toList, ?_, ?_,hgc,hgm,fun i' hi' j hj=> ?_⟩)) hr (.inl ⟨_,0,grownCap w n 0 e,av _ _,rfl⟩);·exact heap_alloc_new w.drew _
   ·rw [dj,Array.size_append,size_zeroCells,size_zeroCells,hzsz,cD,<-eh];exact cH _ (by omega)
   ·have hin:i'*te.size+j<n*te.size:=by
     have:(i'+1)*te.size<=n*te.size:=cH _ (by omega);rw [eh,ei]at this;omega
    have hg:(Builtin.zeroCells z.cells n).toList[i'*te.size+j]? =z.cells.toList[j]? :=by
     have:=zC z.cells (n*z.cells.size) i' j (by omega) (by rw [hzsz];exact hin);rw [hzsz]at this;rw [<-this,<-hzsz];rfl
    have hsz:=size_zeroCells z.cells n;have hzr:=kH (ρ:=ρ) (F:=F) (w:=w) hzv;rw [<-hzc]at hzr;have hlz:=hzr.length;simp only [dj,dt]at hlz;have hg2:(zc.map CV.d)[j]? =some (.d (zc.getD j .nilp)):=by
     have hb2:j<zc.length:=by omega
     rw [du,cT,cS hb2];rfl
    obtain⟨u,hu',hr⟩:=hzr.get hg2;refine⟨u, ?_, ?_⟩
    ·rw [cD,Array.toList_append,cU (by rw [dj,hsz,hzsz];exact hin),hg];exact hu'
    ·rw [<-heq i' hi' j hj];exact dW.gr (p.gr fr (pl:= .blk w.heap.size 0 (grownCap w n 0 e)) hρf) hr
 ·cases he
end
end Sg
