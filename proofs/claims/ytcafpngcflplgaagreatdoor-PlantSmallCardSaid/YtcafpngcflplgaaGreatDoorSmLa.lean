import Derived.Orders
import Derived.Laws.Sem
import Derived.Laws.World
import Derived.Laws.Cells
import Derived.Laws.Alloc2
import Derived.Laws.Append
import Derived.Laws.AppendOwn
import Derived.Laws.OwnMore
import Derived.Laws.MakeOwn
import Derived.CallsIn
import Derived.AtR
import Derived.Laws.CopyRow
import Derived.Laws.Entries
import Derived.Laws.Concat
import Derived.Lib.AppendZeros
set_option linter.all false
namespace Sg
open Go
def br:=@Option.bind_some
def bt:=@cond_true
def bu:=@cond_false
def bv:=@Nat.eq_of_beq_eq_true
def bw:=@Int.toNat_natCast
def bx:=@decide_eq_true
def bz:=@decide_eq_false
def b_:=@List.length_append
def cd:=@Bool.and_eq_true
def ce:=@if_neg
def ci:=@if_pos
def cj:=@Nat.le_of_ble_eq_true
def cm:=@List.mem_cons_of_mem
def ct:=@List.mem_cons_self
def cw:=@List.length_singleton
def cx:=@Nat.le_refl
def cz:=@List.mem_append
def cA:=@List.nodup_cons
def cC:=@Nat.zero_add
def cD:=@Bool.not_true
def cE:=@Bool.not_false
def cF:=@List.mem_singleton
def cG:=@Nat.mul_le_mul_right
def cH:=@List.length_set
def cJ:=@Nat.not_lt_zero
def cL:=@List.map_cons
def cM:=@Classical.byContradiction
def cN:=@Bool.or_eq_true
def cP:=@Bool.true_and
def cQ:=@List.append_assoc
def cR:=@List.getElem?_eq_getElem
def cS:=@List.getD_eq_getElem?_getD
def cT:=@List.getElem?_append_left
def cU:=@List.getElem?_append_right
def cV:=@List.append_nil
def cW:=@List.nil_append
def cX:=@List.length_cons
def cY:=@List.mem_range
def c6:=@List.any_eq_true
def c7:=@List.any_eq_false
def c8:=@List.mem_filter
def c_:=@Bool.not_eq_true'
def da:=@decide_eq_false_iff_not
def db:=@decide_eq_true_iff
def dd:=@decide_eq_true_eq
def de:=@Array.length_toList
def dg:=@List.length_map
def dj:=@List.getElem?_map
def dt:=@List.length_replicate
def eJ:=@Nat.lt_of_lt_of_le
def dC:=@Nat.le_trans
def dE:=@List.cons_append
def d7:=@List.length_take
def d8:=@List.length_drop
def d_:=@List.take_length
def ea:=@Nat.add_comm
def ec:=@Nat.add_assoc
def ed:=@Nat.mul_comm
def ee:=@Nat.add_mul
def ef:=@Nat.one_mul
def eh:=@List.mem_cons
def ei:=@List.take_append_drop
def ek:=@Bool.or_eq_false_iff
def eo:=@List.setIfInBounds_toArray
def ep:=@List.set_cons_succ
def ew:=@List.set_cons_zero
def eA:=@Result.andThen_ok
def eC:=@Sem.run_bind
def eE:=@Array.size_setIfInBounds
def eI:=@Array.getElem?_setIfInBounds
def eK:=@Array.getElem?_push
def eL:=@List.getElem?_eq_none
def eM:=@Nat.mod_lt
def eN:=@List.drop_eq_getElem_cons
def eQ:=@List.take_append_of_le_length
def eR:=@Array.getElem?_eq_getElem
def Pm:List (Nat × (List Value->Prop)):=[(1,fun l=>l=(List.range 20).map fun i=>Value.int .u64 ((10 ^ i:Nat):Int)),(0,fun l=> ∃m,l=[.int .i64 m]),(4,fun l=> ∃t v,l=[.iface t v]),(5,fun l=> ∃t v,l=[.iface t v])]
inductive DV where
 |int (k:IntKind) (n:Int)
 |bool (b:Bool)
 |str (s:ByteArray)
 |sl (nn:Option Bool) (esz len:Nat) (el:Nat->Nat->DV)
 |ip (n:Nat) (c:Nat->DV)
 |nilp
 |fn (f:FuncId) (n:Nat) (cap:Nat->DV)
 |fna (f:FuncId) (n:Nat) (cap:Nat->DV)
 |nilf
 |nilm
inductive CV where
 |d (x:DV)
 |ptr (b off:Nat)
 |opt (b esz i off:Nat)
 |own (b:Nat) (nn:Bool) (len:Nat)
 |mp (b:Nat)
 |fn (f:FuncId) (nf n:Nat) (cap:Nat->CV)
 |yl (b:Nat)
inductive SV where
 |one (c:CV)
 |agg (cs:List CV)
inductive TV where
 |v (s:SV)
 |eB (l:List SV)
inductive EV where
 |d (x:DV)
 |row (E esz len:Nat) (el:Nat->Nat->DV)
structure iH where
 ps:List Nat
 assign:Code
 body:Code
 N:Nat
 outs:List Code
structure Mj where
 K:TypeId
 V:TypeId
 kagg:Bool
 vagg:Bool
 ksz:Nat
 vsz:Nat
 len:Nat
 key:Nat->Nat->DV
 val:Nat->Nat->CV
 ms:List Nat
def MF (E:TypeId) (v:List Int):EV:= .row E 1 v.length fun i _=> .int .i64 (v.getD i default)
def oK (n:Int):List (Int × List Int)->List Int
 |[]=>[]
 |(k,v)::l=>bif decide (n=k)then v else oK n l
def mH (n:Int) (v:List Int):List (Int × List Int)->List (Int × List Int)
 |[]=>[(n,v)]
 |(k,v')::l=>bif decide (n=k)then(k,v)::l else(k,v')::mH n v l
def zm (v:List Int) (i _:Nat):DV:= .int .i64 (v.getD i default)
inductive Ob where
 |cells (E:TypeId) (cs:List CV)
 |fcells (E:TypeId) (ds:List DV)
 |arr (E esz len:Nat) (el:Nat->Nat->DV)
 |rows (E esz len:Nat) (el:Nat->Nat->EV) (ov:Option (Nat × Nat × CV))
 |map (m:Mj)
 |loop (r:iH) (st:Nat) (sl:List (Nat × TV))
 |coll
 |suf (b l esz:Nat)
 |frow (fu:Bool) (E:TypeId) (esz len:Nat) (el:Nat->Nat->DV)
 |gm (K V E:TypeId) (l:List (Int × List Int)) (ov:Option (Int × CV))
inductive Pl where
 |nil
 |blk (k base cap:Nat)
def bG (F:Nat->Prop) (w:World):DV->Value->Prop
 | .int k n,v=>v= .int k n
 | .bool b,v=>v= .bool b
 | .str s,v=>v= .string s
 | .sl nn esz len el,v=> ∃a cap,v= .slice a len cap/\(nn=some true->a≠none)/\(nn=some false->a=none)/\(a=none->len=0/\cap=0)/\len<=cap/\
   ∀ad,a=some ad->(0<len->ad.spot=none)/\ ∀i,i<len-> ∀j,j<esz->F ad.block/\ ∃u,w.cell? ⟨ad.block,ad.off+(i*esz+j),none⟩=some u/\bG F w (el i j) u
 | .ip n c,v=> ∃ad,v= .pointer (some ad)/\ad.spot=none/\ ∀j,j<n->F ad.block/\ ∃u,w.cell? ⟨ad.block,ad.off+j,none⟩=some u/\bG F w (c j) u
 | .nilp,v=>v= .pointer none
 | .fn f n cap,v=> ∃vs:List Value,v= .func (.func f) #[] vs.toArray/\vs.length=n/\ ∀j u,vs[j]? =some u->bG F w (cap j) u
 | .fna f n cap,v=> ∃vs:List Value,v= .func (.func f) #[.agg vs.toArray] #[]/\vs.length=n/\ ∀j u,vs[j]? =some u->bG F w (cap j) u
 | .nilf,v=>v= .nilFunc
 | .nilm,v=>v= .map none
def dK (ρ:Nat->Option Pl) (F:Nat->Prop) (w:World):CV->Value->Prop
 | .d x,v=>bG F w x v
 | .ptr b off,v=> ∃k base cap,ρ b=some (.blk k base cap)/\v= .pointer (some ⟨k,base+off,none⟩)
 | .opt b esz i off,v=> ∃k base cap,ρ b=some (.blk k base cap)/\v= .pointer (some ⟨k,base+(i*esz+off),none⟩)
 | .own b nn len,v=>(∃k base cap,ρ b=some (.blk k base cap)/\v= .slice (some ⟨k,base,none⟩) len cap)\/(nn=false/\ρ b=some .nil/\len=0/\v= .slice none 0 0)
 | .mp b,v=> ∃k base cap,ρ b=some (.blk k base cap)/\v= .map (some k)
 | .fn f nf n cap,v=> ∃vs:List Value,v= .func (.func f) (vs.take nf).toArray (vs.drop nf).toArray/\vs.length=n/\ ∀j u,vs[j]? =some u->dK ρ F w (cap j) u
 | .yl b,v=> ∃k base cap,ρ b=some (.blk k base cap)/\v= .func (.yield k) #[] #[]
def bO (ρ:Nat->Option Pl) (F:Nat->Prop) (w:World):List CV->List Value->Prop
 |[],[]=>True
 |c::cs,v::vs=>dK ρ F w c v/\bO ρ F w cs vs
 |_,_=>False
def fB (ρ:Nat->Option Pl) (F:Nat->Prop) (w:World):SV->Value->Prop
 | .one c,v=>dK ρ F w c v
 | .agg cs,v=> ∃vs:List Value,v= .agg vs.toArray/\bO ρ F w cs vs
def dm (ρ:Nat->Option Pl) (F:Nat->Prop) (w:World):List SV->List Value->Prop
 |[],[]=>True
 |c::cs,v::vs=>fB ρ F w c v/\dm ρ F w cs vs
 |_,_=>False
def bE (ρ:Nat->Option Pl) (F:Nat->Prop) (w:World):TV->Value->Prop
 | .v s,v=>fB ρ F w s v
 | .eB l,v=> ∃vs:List Value,v= .tuple vs.toArray/\dm ρ F w l vs
structure Gr (ρ:Nat->Option Pl) (F:Nat->Prop) (w:World) (ρ':Nat->Option Pl) (F':Nat->Prop) (w':World):Prop where
 rho: ∀b p,ρ b=some p->ρ' b=some p
 fz: ∀k,F k->F' k
 mem: ∀k,F k->w'.heap[k]? =w.heap[k]?
theorem Gr.refl (ρ:Nat->Option Pl) (F:Nat->Prop) (w:World):Gr ρ F w ρ F w:=⟨fun _ _ h=>h,fun _ h=>h,fun _ _=>rfl⟩
theorem Gr.trans {ρ ρ' ρ'':Nat->Option Pl} {F F' F'':Nat->Prop} {w w' w'':World} (h:Gr ρ F w ρ' F' w') (h':Gr ρ' F' w' ρ'' F'' w''):Gr ρ F w ρ'' F'' w'':=
 ⟨fun b p e=>h'.rho b p (h.rho b p e),fun k e=>h'.fz k (h.fz k e),fun k e=>(h'.mem k (h.fz k e)).trans (h.mem k e)⟩
theorem cell_of_heap {w w':World} {k:Nat} (h:w'.heap[k]? =w.heap[k]?) (off:Nat) (s:Option Nat):w'.cell? ⟨k,off,s⟩=w.cell? ⟨k,off,s⟩:=by
 simp [World.cell?,h]
theorem bG.gr {F F':Nat->Prop} {w w':World} (hF: ∀k,F k->F' k) (hw: ∀k,F k->w'.heap[k]? =w.heap[k]?): ∀{x:DV} {v:Value},bG F w x v->bG F' w' x v:=by
 intro x;induction x with
 |int=>intro v h;exact h
 |bool=>intro v h;exact h
 |str=>intro v h;exact h
 |nilp=>intro v h;exact h
 |nilf=>intro v h;exact h
 |nilm=>intro v h;exact h
 |sl nn esz len el ih=>
  intro v h;obtain⟨a,cap,hv,h1,h2,h3,h3b,h4⟩:=h;refine⟨a,cap,hv,h1,h2,h3,h3b,fun ad ha=> ⟨(h4 ad ha).1,fun i hi j hj=> ?_⟩⟩;obtain⟨hf,u,hu,hr⟩:=(h4 ad ha).2 i hi j hj;exact⟨hF _ hf,u,by rw [cell_of_heap (hw _ hf)];exact hu,ih i j hr⟩
 |ip n c ih=>
  intro v h;obtain⟨ad,hv,h1,h2⟩:=h;refine⟨ad,hv,h1,fun j hj=> ?_⟩;obtain⟨hf,u,hu,hr⟩:=h2 j hj;exact⟨hF _ hf,u,by rw [cell_of_heap (hw _ hf)];exact hu,ih j hr⟩
 |fn f n cap ih=>
  intro v h;obtain⟨vs,hv,h1,h2⟩:=h;exact⟨vs,hv,h1,fun j u hu=>ih j (h2 j u hu)⟩
 |fna f n cap ih=>
  intro v h;obtain⟨vs,hv,h1,h2⟩:=h;exact⟨vs,hv,h1,fun j u hu=>ih j (h2 j u hu)⟩
section
variable {ρ ρ':Nat->Option Pl} {F F':Nat->Prop} {w w':World}
theorem dK.gr (g:Gr ρ F w ρ' F' w'): ∀{c:CV} {v:Value},dK ρ F w c v->dK ρ' F' w' c v:=by
 intro c;induction c with
 |d x=>intro v h;exact bG.gr g.fz g.mem h
 |ptr b off=>intro v h;obtain⟨k,base,cap,h,e⟩:=h;exact⟨k,base,cap,g.rho _ _ h,e⟩
 |opt b esz i off=>intro v h;obtain⟨k,base,cap,h,e⟩:=h;exact⟨k,base,cap,g.rho _ _ h,e⟩
 |own b nn len=>
  intro v h;rcases h with⟨k,base,cap,h,e⟩|⟨h0,h,e⟩;·exact .inl ⟨k,base,cap,g.rho _ _ h,e⟩
  ·exact .inr ⟨h0,g.rho _ _ h,e⟩
 |mp b=>intro v h;obtain⟨k,base,cap,h,e⟩:=h;exact⟨k,base,cap,g.rho _ _ h,e⟩
 |yl b=>intro v h;obtain⟨k,base,cap,h,e⟩:=h;exact⟨k,base,cap,g.rho _ _ h,e⟩
 |fn f nf n cap ih=>intro v h;obtain⟨vs,e,hl,h⟩:=h;exact⟨vs,e,hl,fun j u hu=>ih j (h j u hu)⟩
theorem bO.gr (g:Gr ρ F w ρ' F' w'): ∀{cs:List CV} {vs:List Value},bO ρ F w cs vs->bO ρ' F' w' cs vs
 |[],[],h=>h
 |_::_,_::_,⟨h,t⟩=> ⟨h.gr g,bO.gr g t⟩
 |[],_::_,h=>h
 |_::_,[],h=>h
theorem fB.gr (g:Gr ρ F w ρ' F' w'): ∀{s:SV} {v:Value},fB ρ F w s v->fB ρ' F' w' s v
 | .one _,_,h=>dK.gr g h
 | .agg _,_,⟨vs,e,h⟩=> ⟨vs,e,h.gr g⟩
theorem dm.gr (g:Gr ρ F w ρ' F' w'): ∀{cs:List SV} {vs:List Value},dm ρ F w cs vs->dm ρ' F' w' cs vs
 |[],[],h=>h
 |_::_,_::_,⟨h,t⟩=> ⟨h.gr g,dm.gr g t⟩
 |[],_::_,h=>h
 |_::_,[],h=>h
theorem bE.gr (g:Gr ρ F w ρ' F' w'): ∀{s:TV} {v:Value},bE ρ F w s v->bE ρ' F' w' s v
 | .v _,_,h=>fB.gr g h
 | .eB _,_,⟨vs,e,h⟩=> ⟨vs,e,h.gr g⟩
theorem bO.length: ∀{cs:List CV} {vs:List Value},bO ρ F w cs vs->vs.length=cs.length
 |[],[],_=>rfl
 |_::_,_::_,⟨_,t⟩=>by simp [bO.length t]
 |[],_::_,h=>h.elim
 |_::_,[],h=>h.elim
theorem bO.get: ∀{cs:List CV} {vs:List Value},bO ρ F w cs vs-> ∀{j:Nat} {c:CV},cs[j]? =some c-> ∃u,vs[j]? =some u/\dK ρ F w c u
 |[],[],_,j,c,h=>by simp at h
 |c0::_,v0::_,⟨h0,t⟩,j,c,h=>by
  cases j with
  |zero=>simp at h;subst h;exact⟨v0,rfl,h0⟩
  |succ j=>simp at h;obtain⟨u,hu,hr⟩:=bO.get t h;exact⟨u,by simpa using hu,hr⟩
 |[],_::_,h,_,_,_=>h.elim
 |_::_,[],h,_,_,_=>h.elim
theorem bO.jJ: ∀{cs:List CV} {vs:List Value},vs.length=cs.length->(∀(j:Nat) (c:CV),cs[j]? =some c-> ∃u,vs[j]? =some u/\dK ρ F w c u)->bO ρ F w cs vs
 |[],[],_,_=>trivial
 |c0::cs,v0::vs,hl,h=>by
  refine⟨?_,bO.jJ (by simpa using hl) fun j c hc=> ?_⟩;·obtain⟨u,hu,hr⟩:=h 0 c0 rfl;simp at hu;subst hu;exact hr
  ·obtain⟨u,hu,hr⟩:=h (j+1) c (by simpa using hc);exact⟨u,by simpa using hu,hr⟩
 |[],_::_,hl,_=>by simp at hl
 |_::_,[],hl,_=>by simp at hl
theorem bO.append: ∀{cs cs':List CV} {vs vs':List Value},bO ρ F w cs vs->bO ρ F w cs' vs'->bO ρ F w (cs++cs') (vs++vs')
 |[],_,[],_,_,h'=>h'
 |_::_,_,_::_,_,⟨h,t⟩,h'=> ⟨h,bO.append t h'⟩
 |[],_,_::_,_,h,_=>h.elim
 |_::_,_,[],_,h,_=>h.elim
end
abbrev Hp:=Nat->Option (Option Ob)
def get {α:Type}:List (Nat × α)->Nat->Option α
 |[],_=>none
 |(k,v)::l,n=>bif Nat.beq k n then some v else get l n
theorem aC {α:Type} (k:Nat) (v:α) (l:List (Nat × α)) (n:Nat):get ((k,v)::l) n=if k=n then some v else get l n:=by
 show(bif Nat.beq k n then some v else get l n)=_;cases h:Nat.beq k n with
 |true=>simp [bv h]
 |false=>simp [Nat.ne_of_beq_eq_false h]
theorem get_nil {α:Type} (n:Nat):get ([]:List (Nat × α)) n=none:=rfl
structure TI where
 d:TypeDesc
 size:Nat
 bytes:Nat
 zero:List Value
 eq:Bool
def TI.agg (t:TI):Bool:=match t.d with| .struct _| .array _ _=>true|_=>false
def eG (P:Program) (t:TypeId) (ti:TI):Prop:=
 P.underlying t=some ti.d/\ ∃i z,P.info? t=some i/\i.size=ti.size/\i.bytes=ti.bytes/\i.zero=some z/\z.cells.toList=ti.zero
def Du:Bool->Value->Bool
 |true, .agg _=>true
 |false, .agg _=>false
 |false, .tuple _=>false
 |false,_=>true
 |_,_=>false
def ZOk (P:Program) (t:TypeId) (agg:Bool):Prop:= ∀i z,P.info? t=some i->i.zero=some z->Du agg z=true
def kg (P:Program):List (Nat × TI)->Prop
 |[]=>True
 |(t,ti)::l=>eG P t ti/\((ti.eq=true->P.stoodInHeld t=false/\P.eqGuardType P.depth t=false)/\ZOk P t ti.agg)/\kg P l
theorem kg.Yr {P:Program}: ∀{T:List (Nat × TI)},kg P T-> ∀{t:Nat} {ti:TI},get T t=some ti->ti.eq=true->P.stoodInHeld t=false/\P.eqGuardType P.depth t=false
 |[],_,_,_,h=>by simp [Sg.get]at h
 |(k,v)::l,⟨_,h1,h2⟩,t,ti,h=>by
  rw [aC]at h;split at h;·rename_i e;subst e;cases h;exact h1.1
  ·exact kg.Yr h2 h
theorem kg.aaX {P:Program}: ∀{T:List (Nat × TI)},kg P T-> ∀{t:Nat} {ti:TI},get T t=some ti->ZOk P t ti.agg
 |[],_,_,_,h=>by simp [Sg.get]at h
 |(k,v)::l,⟨_,h1,h2⟩,t,ti,h=>by
  rw [aC]at h;split at h;·rename_i e;subst e;cases h;exact h1.2
  ·exact kg.aaX h2 h
theorem kg.get {P:Program}: ∀{T:List (Nat × TI)},kg P T-> ∀{t:Nat} {ti:TI},get T t=some ti->eG P t ti
 |[],_,_,_,h=>by simp [Sg.get]at h
 |(k,v)::l,⟨h1,_,h2⟩,t,ti,h=>by
  rw [aC]at h;split at h;·rename_i e;subst e;cases h;exact h1
  ·exact kg.get h2 h
def Q8:Value->Option DV
 | .int k n=>some (.int k n)
 | .bool b=>some (.bool b)
 | .string s=>some (.str s)
 | .slice none 0 0=>some (.sl (some false) 0 0 fun _ _=> .nilp)
 | .pointer none=>some .nilp
 | .nilFunc=>some .nilf
 | .map none=>some .nilm
 |_=>none
def nY:List Value->Option (List DV)
 |[]=>some []
 |v::vs=>match Q8 v,nY vs with
  |some d,some ds=>some (d::ds)
  |_,_=>none
inductive iJ where
 |none
 |skip
 |frz (len:Nat) (el:Nat->Nat->DV)
 |take (c:Nat)
 |cells
 |rows (len:Nat) (el:Nat->Nat->EV)
 |look (ok:Bool) (cs:List CV)
 |map (len:Nat) (key:Nat->Nat->DV) (val:Nat->Nat->CV) (ms:List Nat)
 |call (ids:List Nat) (res:TV) (hout:List (Nat × Option Ob))
 |callR (ids:List Nat) (res:TV)
 |arr (len:Nat) (el:Nat->Nat->DV)
 |vals (ds:List DV)
 |gtk (c:Nat) (row:List Int)
 |gput (row:List Int)
 |callG (ids:List Nat) (res:TV) (b c:Nat)
 |arrL (len:Nat) (el:Nat->Nat->DV)
structure Eff where
 conds:List Prop
 tv:TV
 hd:List (Nat × Option Ob)
def eF (x:DV):Option Eff:=some ⟨[], .v (.one (.d x)),[]⟩
def cellsOf:SV->List CV
 | .one c=>[c]
 | .agg cs=>cs
def jU (agg:Bool) (cs:List CV):Option SV:=
 match agg,cs with
 |true,cs=>some (.agg cs)
 |false,[c]=>some (.one c)
 |_,_=>none
def takeC (c:Nat->DV):Nat->Nat->List CV
 |_,0=>[]
 |i,n+1=> .d (c i)::takeC c (i+1) n
def dS (c:Nat->CV):Nat->Nat->List CV
 |_,0=>[]
 |i,n+1=>c i::dS c (i+1) n
def bT (c:Nat->DV):Nat->Nat->List DV
 |_,0=>[]
 |i,n+1=>c i::bT c (i+1) n
def o8:List CV->Option (List DV)
 |[]=>some []
 | .d x::cs=>match o8 cs with|some ds=>some (x::ds)|none=>none
 |_::_=>none
def foot (an:iJ) (fresh:Nat):Op->List TV->List Nat
 | .alloc _,_| .box _ _,_| .buildSlice _ _ _,_| .makeSlice _ _ _,_| .makeMap _ _,_=>[fresh]
 | .load _ _,[.v (.one (.ptr b _))]=>[b]
 | .load _ _,[.v (.one (.opt b _ _ _))]=>match an with| .take c=>[b,c]|_=>[b]
 | .store _ _ _, .v (.one (.ptr b _))::_=>[b]
 | .store _ _ _,[.v (.one (.opt b _ _ _)),x]=>match an,x with| .rows _ _, .v (.one (.own c _ _))=>[b,c]|_,_=>[b]
 | .lookup _ _ _ _, .v (.one (.mp b))::_=>match an with| .gtk c _=>[b,c]|_=>[b]
 | .mapUpdate _ _ _ _, .v (.one (.mp b))::r=>match an,r with| .gput _,[_, .v (.one (.own c _ _))]=>[b,c]|_,_=>[b]
 | .insert _ _ _ _, .v (.one (.mp b))::_=>[b]
 | .slice _ _ _ _ (some _), .v (.one (.d _))::_=>[fresh]
 | .slice _ _ _ _ _, .v (.one (.own b _ _))::_=>[b,fresh]
 | .slice _ _ _ _ _, .v (.one (.ptr b _))::_=>[b]
 | .slice _ _ _ _ _, .v (.one (.opt b _ _ _))::_=>[b,fresh]
 | .call {callee:= .builtin .append, .. },[.v (.one (.own b _ _)), .v (.one (.own b' _ _))]=>[fresh,b,b']
 | .call {callee:= .builtin .append, .. },[.v (.one (.d _)), .v (.one (.own b' _ _))]=>[fresh,b']
 | .call {callee:= .builtin .append, .. }, .v (.one (.own b _ _))::_=>[fresh,b]
 | .call {callee:= .builtin .append, .. },_=>[fresh]
 | .call {callee:= .builtin .copy, .. },[.v (.one (.own c _ _)),_]=>match an with| .take b=>[c,b]|_=>[]
 | .call {callee:= .builtin .clear, .. },[.v (.one (.own c _ _))]=>match an with| .take b=>[c,b]|_=>[]
 | .call {callee:= .value _, .. },_=>match an with| .call ids _ hout=>ids++hout.map (·.1)| .callR ids _=>ids| .callG ids _ b _=>ids++[b]|_=>[]
 |_,_=>[]
def Nr (op:BinOp) (a b:Int):Option Bool:=
 match op with
 | .eql=>some (decide (a=b))
 | .neq=>some (!decide (a=b))
 | .lss=>some (decide (a<b))
 | .leq=>some (decide (a<=b))
 | .gtr=>some (decide (b<a))
 | .geq=>some (decide (b<=a))
 |_=>none
def dH (s:ByteArray):List Int:=s.data.toList.map fun b=>(b.toNat:Int)
def aA (a b:ByteArray):ByteArray:=a++b
def bD (s:ByteArray) (l h:Nat):ByteArray:=s.extract l h
def qi:DV->Bool
 | .int .u8 n=>decide (0<=n/\n<=255)
 |_=>false
def JZ:DV->UInt8
 | .int _ n=>UInt8.ofNat n.toNat
 |_=>0
def Ng (ds:List DV):ByteArray:=⟨(ds.map JZ).toArray⟩
def qo (l:List Int):ByteArray:=Ng (l.map (DV.int .u8))
def WY (op:BinOp) (x y:DV):Option Eff:=
 match x,y with
 | .int k a, .int k' b=>
  match op with
  | .shl=>some ⟨[0<=b], .v (.one (.d (.int k (k.wrap (a*2 ^ min b.toNat k.bits))))),[]⟩
  | .shr=>some ⟨[0<=b], .v (.one (.d (.int k (a.fdiv (2 ^ min b.toNat k.bits))))),[]⟩
  |_=>
   bif decide (k=k')then
    match op with
    | .add=>eF (.int k (k.wrap (a+b)))
    | .sub=>eF (.int k (k.wrap (a - b)))
    | .mul=>eF (.int k (k.wrap (a*b)))
    | .quo=>some ⟨[b≠0], .v (.one (.d (.int k (k.wrap (a.tdiv b))))),[]⟩
    | .rem=>some ⟨[b≠0], .v (.one (.d (.int k (a.tmod b)))),[]⟩
    | .and=>eF (.int k (k.wrap (BitVec.ofInt k.bits a &&& BitVec.ofInt k.bits b).toNat))
    | .or=>eF (.int k (k.wrap (BitVec.ofInt k.bits a|||BitVec.ofInt k.bits b).toNat))
    | .xor=>eF (.int k (k.wrap (BitVec.ofInt k.bits a ^^^ BitVec.ofInt k.bits b).toNat))
    | .andNot=>eF (.int k (k.wrap (BitVec.ofInt k.bits a &&& ~~~ BitVec.ofInt k.bits b).toNat))
    |_=>match Nr op a b with|some r=>eF (.bool r)|none=>none
   else none
 | .bool a, .bool b=>
  match op with
  | .eql=>eF (.bool (a==b))
  | .neq=>eF (.bool (!(a==b)))
  |_=>none
 | .str a, .str b=>
  match op with
  | .eql=>eF (.bool (a.toList==b.toList))
  | .neq=>eF (.bool (!(a.toList==b.toList)))
  | .add=>some ⟨[a.size+b.size<=9223372036854775807], .v (.one (.d (.str (aA a b)))),[]⟩
  |_=>none
 |_,_=>none
def unE (op:UnOp) (x:DV):Option Eff:=
 match op,x with
 | .not, .bool b=>eF (.bool (!b))
 | .neg, .int k n=>eF (.int k (k.wrap (0 - n)))
 |_,_=>none
def xL (place:Nat->Option (Nat × Nat)) (cells:List CV):List (Nat × List CV)->Option (List CV)
 |[]=>some cells
 |(i,v)::rest=>
  match place i with
  |none=>none
  |some (off,size)=>
   bif decide (v.length=size) && Nat.ble (off+v.length) cells.length then xL place (cells.take off++v++cells.drop (off+v.length)) rest else none
def lZ:List (Nat × Operand)->List TV->Option (List (Nat × List CV))
 |[],[]=>some []
 |(i,_)::ps, .v s::xs=>match lZ ps xs with|some l=>some ((i,cellsOf s)::l)|none=>none
 |_,_=>none
def Ib (T:List (Nat × TI)) (fs:Array Field) (i:Nat):Option (Nat × Nat):=
 match fs.toList[i]? with
 |some f=>match get T f.type with|some t=>some (f.offset,t.size)|none=>none
 |none=>none
def zU (T:List (Nat × TI)):List Field->Option (List (Nat × Nat))
 |[]=>some []
 |f::fs=>match get T f.type,zU T fs with
  |some t,some l=>some ((f.offset,t.size)::l)
  |_,_=>none
def Mk (z:List DV):Nat->List CV
 |0=>[]
 |n+1=>z.map .d++Mk z n
def iV (esz:Nat) (cs:List DV) (i j:Nat):DV:=cs.getD (i*esz+j) .nilp
def bW (el:Nat->Nat->DV) (i off:Nat) (ds:List DV):Nat->Nat->DV:=fun i' j'=>if i'=i/\off<=j'/\j'<off+ds.length then ds.getD (j' - off) .nilp else el i' j'
def jK (el:Nat->Nat->DV) (len:Nat) (el':Nat->Nat->DV):Nat->Nat->DV:=fun i j=>if i<len then el i j else el' (i - len) j
def aaU (len esz:Nat) (f g:Nat->Nat->DV):Prop:= ∀i,i<len-> ∀j,j<esz-> ∀F w v,bG F w (f i j) v->bG F w (g i j) v
def aB (len esz:Nat) (f g:Nat->Nat->DV):Prop:= ∀i,i<len-> ∀j,j<esz->f i j=g i j
def gT:List TV->Option (List SV)
 |[]=>some []
 | .v s::xs=>match gT xs with|some l=>some (s::l)|none=>none
 |_=>none
def CV.bP:CV->List Nat
 | .d _=>[]
 | .ptr b _| .opt b _ _ _| .own b _ _| .mp b| .yl b=>[b]
 | .fn _ _ n cap=>(List.range n).flatMap fun j=>(cap j).bP
def SV.bP:SV->List Nat
 | .one c=>c.bP
 | .agg cs=>cs.flatMap CV.bP
def TV.bP:TV->List Nat
 | .v s=>s.bP
 | .eB l=>l.flatMap SV.bP
def Ob.bP:Ob->List Nat
 | .cells _ cs=>cs.flatMap CV.bP
 | .rows _ _ _ _ (some (_,_,c))=>c.bP
 | .gm _ _ _ _ (some (_,c))=>c.bP
 | .map m=>m.ms
 | .loop _ _ sl=>sl.flatMap fun p=>p.2.bP
 | .suf b _ _=>[b]
 |_=>[]
def fK (x:Nat):List Nat->Bool
 |[]=>false
 |y::l=>bif Nat.beq x y then true else fK x l
def bZ:List Nat->List Nat->Bool
 |[],_=>true
 |x::l,m=>bif fK x m then bZ l m else false
theorem jw {x:Nat}: ∀{l:List Nat},fK x l=true↔x∈l
 |[]=>by simp [fK]
 |y::l=>by
  simp only [fK,eh];cases h:Nat.beq x y with
  |true=>simp [bv h]
  |false=>simp [Nat.ne_of_beq_eq_false h,jw]
theorem bU {m:List Nat}: ∀{l:List Nat},bZ l m=true↔ ∀x∈l,x∈m
 |[]=>by simp [bZ]
 |y::l=>by
  simp only [bZ,eh,forall_eq_or_imp];cases h:fK y m with
  |true=>simp [bU,jw.1 h]
  |false=>
   have:y ∉ m:=fun e=>by rw [jw.2 e]at h;cases h
   simp [this]
def dF:List (Option (Option Ob))->List Nat
 |[]=>[]
 |some (some o)::l=>o.bP++dF l
 |_::l=>dF l
def bJ:List Nat->List (Option (Option Ob))->Option (List (Nat × Option Ob))
 |[],_=>some []
 |i::is,some (some o)::os=>match bJ is os with|some l=>some ((i,some o)::l)|none=>none
 |_,_=>none
def fE (ids:List Nat):List Nat->List (Option (Option Ob))->Bool
 |[],_=>true
 |k::ks,o::os=>(bif fK k ids then true else(match o with|none=>true|_=>false)) && fE ids ks os
 |_,_=>false
inductive Cl where
 |fn (f:FuncId)
 |yl (b:Nat)
def Cl.ids:Cl->List Nat
 | .fn _=>[]
 | .yl b=>[b]
section
variable (P:Program) (Fn:Cl->List SV->List (Nat × Option Ob)->TV->List (Nat × Option Ob)->Prop) (T:List (Nat × TI))
def kS (an:iJ) (f:Cl) (xs:List TV) (obs:List (Option (Option Ob))):Option Eff:=
 match an with
 | .call ids res hout=>
  match gT xs,bJ ids obs with
  |some args,some hin=>
   bif bZ f.ids ids && (bZ (args.flatMap SV.bP) ids && bZ (dF (obs.take ids.length)) ids && fE ids (hout.map (·.1)) (obs.drop ids.length))then
    some ⟨[Fn f args hin res hout],res,hout++ids.map (fun i=>(i,none))⟩
   else none
  |_,_=>none
 | .callR ids res=>
  match f with
  | .yl _=>none
  | .fn g=>
   match gT xs,bJ ids obs with
   |some args,some hin=>bif bZ (args.flatMap SV.bP) ids && bZ (dF (obs.take ids.length)) ids then some ⟨[Fn (.fn g) args hin res hin],res,[]⟩else none
   |_,_=>none
 |_=>none
def iO (an:iJ) (f:Cl) (xs:List TV) (obs:List (Option (Option Ob))):Option Eff:=
 match an with
 | .callG ids res b c=>
  match kS Fn (.callR ids res) f xs (obs.take ids.length),obs.drop ids.length,bJ ids (obs.take ids.length)with
  |some E,[some (some (.gm K V Et l (some (n, .own c' _ m))))],some hin=>
   match get hin c with
   |some (some (.arr E1 esz1 m1 el1))=>
    bif Nat.beq c c' && Nat.beq E1 Et && Nat.beq esz1 1 && !(Nat.beq b c)then
     some ⟨[m=m1,m1=(oK n l).length,aB m1 1 el1 (zm (oK n l))]++E.conds,E.tv,[(b,some (.gm K V Et l none)),(c,none)]⟩
    else none
   |_=>none
  |_,_,_=>none
 |an=>kS Fn an f xs obs
def LV (off size:Nat):Option (Nat × Nat × CV)->Bool
 |none=>true
 |some (_,j,_)=>Nat.blt j off||Nat.ble (off+size) j
def KG (c:Nat->EV):Nat->Nat->Option (List DV)
 |_,0=>some []
 |i,n+1=>match c i,KG c (i+1) n with| .d x,some l=>some (x::l)|_,_=>none
def zJ (ti:TI) (a:TV) (obs:List (Option (Option Ob))):Option Eff:=
 match a,obs with
 | .v (.one (.d (.ip n c))),[]=>
  bif Nat.ble ti.size n then(match jU ti.agg (takeC c 0 ti.size)with|some s=>some ⟨[], .v s,[]⟩|none=>none)else none
 | .v (.one (.ptr _ off)),[some (some (.cells _ cs))]=>
  bif Nat.ble (off+ti.size) cs.length then(match jU ti.agg ((cs.drop off).take ti.size)with|some s=>some ⟨[], .v s,[]⟩|none=>none)else none
 | .v (.one (.opt _ esz i off)),[some (some (.arr _ esz' len el))]=>
  bif Nat.beq esz esz' && Nat.ble (off+ti.size) esz then
   (match jU ti.agg (takeC (el i) off ti.size)with|some s=>some ⟨[i<len], .v s,[]⟩|none=>none)else
  bif Nat.beq esz 1 && Nat.beq esz' 1 && Nat.beq off 0 then
   (match jU ti.agg (takeC (fun j=>el (i+j) 0) 0 ti.size)with|some s=>some ⟨[i+ti.size<=len,1<=len], .v s,[]⟩|none=>none)else none
 | .v (.one (.opt _ esz i off)),[some (some (.cells _ cs))]=>
  bif Nat.ble (i*esz+off+ti.size) cs.length then(match jU ti.agg ((cs.drop (i*esz+off)).take ti.size)with|some s=>some ⟨[], .v s,[]⟩|none=>none)else none
 | .v (.one (.ptr _ off)),[some (some (.fcells _ ds))]=>
  bif Nat.ble (off+ti.size) ds.length then(match jU ti.agg (((ds.drop off).take ti.size).map .d)with|some s=>some ⟨[], .v s,[]⟩|none=>none)else none
 | .v (.one (.opt _ esz i off)),[some (some (.rows _ esz' len el ov))]=>
  bif Nat.beq esz esz' && Nat.ble (off+ti.size) esz && LV off ti.size ov then
   (match KG (el i) off ti.size with
    |some ds=>(match jU ti.agg (ds.map .d)with|some s=>some ⟨[i<len], .v s,[]⟩|none=>none)
    |none=>none)else none
 |_,_=>none
def IK (c:Nat) (ti:TI) (a:TV) (obs:List (Option (Option Ob))):Option Eff:=
 match a,obs with
 | .v (.one (.opt b esz i off)),[some (some (.rows E esz' len el none)),none]=>
  bif Nat.beq esz esz' && Nat.beq ti.size 1 && !ti.agg && Nat.blt off esz then
   match el i off with
   | .row E' esz1 n el1=>some ⟨[i<len], .v (.one (.own c false n)),[(b,some (.rows E esz len el (some (i,off, .own c false n)))),(c,some (.arr E' esz1 n el1))]⟩
   |_=>none
  else none
 |_,_=>none
def Nw (el:Nat->Nat->EV) (i off:Nat) (x:EV):Nat->Nat->EV:=fun i' j'=>if i'=i/\j'=off then x else el i' j'
def FV (len esz:Nat) (f g:Nat->Nat->EV):Prop:= ∀i,i<len-> ∀j,j<esz->f i j=g i j
def LH (el':Nat->Nat->EV) (ti:TI) (a x:TV) (obs:List (Option (Option Ob))):Option Eff:=
 match a,x,obs with
 | .v (.one (.opt b esz i off)), .v (.one (.own c _ n)),[some (some (.rows E esz' len el ov)),some (some (.arr E1 esz1 n1 el1))]=>
  bif Nat.beq esz esz' && Nat.beq ti.size 1 && Nat.blt off esz && !(Nat.beq b c)then
   some ⟨[i<len,n=n1,FV len esz (Nw el i off (.row E1 esz1 n1 el1)) el',∀i0 j0 c0,ov=some (i0,j0,c0)->i0=i/\j0=off], .eB [],[(b,some (.rows E esz len el' none)),(c,none)]⟩else none
 |_,_,_=>none
def vG (an:iJ) (ti:TI) (a x:TV) (obs:List (Option (Option Ob))):Option Eff:=
 match a,x,obs with
 | .v (.one (.ptr b off)), .v s,[some (some (.cells E cs))]=>
  bif Nat.beq (cellsOf s).length ti.size && Nat.ble (off+ti.size) cs.length then
   some ⟨[], .eB [],[(b,some (.cells E (cs.take off++cellsOf s++cs.drop (off+ti.size))))]⟩else none
 | .v (.one (.opt b esz i off)), .v s,[some (some (.cells E cs))]=>
  bif Nat.beq (cellsOf s).length ti.size && Nat.ble (i*esz+off+ti.size) cs.length then
   some ⟨[], .eB [],[(b,some (.cells E (cs.take (i*esz+off)++cellsOf s++cs.drop (i*esz+off+ti.size))))]⟩else none
 | .v (.one (.opt b esz i off)), .v s,[some (some (.arr E esz' len el))]=>
  match an,o8 (cellsOf s)with
  | .arr _ el',some ds=>
   bif Nat.beq esz esz' && Nat.ble (off+ds.length) esz && Nat.beq ds.length ti.size && Nat.ble 1 ti.size then
    some ⟨[i<len,aB len esz (bW el i off ds) el'], .eB [],[(b,some (.arr E esz len el'))]⟩else none
  |_,_=>none
 |_,_,_=>none
def Eo (ti:TI) (ds:List DV) (a:TV) (obs:List (Option (Option Ob))):Option Eff:=
 match a,obs with
 | .v (.one (.d (.ip n c))),[]=>
  bif Nat.ble ti.size n && Nat.beq ds.length ti.size then(match jU ti.agg (ds.map .d)with|some s=>some ⟨[aB 1 ti.size (fun _ j=>c j) (fun _ j=>ds.getD j .nilp)], .v s,[]⟩|none=>none)else none
 | .v (.one (.ptr _ off)),[some (some (.cells _ cs))]=>
  match jU ti.agg (ds.map .d)with
  |some s=>some ⟨[off+ti.size<=cs.length,(cs.drop off).take ti.size=ds.map .d], .v s,[]⟩
  |none=>none
 |_,_=>none
def Bh (ti:TI) (ds:List DV) (a x:TV) (obs:List (Option (Option Ob))):Option Eff:=
 match a,x,obs with
 | .v (.one (.ptr b off)), .v s,[some (some (.cells E cs))]=>
  bif Nat.beq (cellsOf s).length ti.size then
   some ⟨[off+ti.size<=cs.length,cs.take off++cellsOf s++cs.drop (off+ti.size)=ds.map .d], .eB [],[(b,some (.cells E (ds.map .d)))]⟩else none
 |_,_,_=>none
def Bq (ds:List DV) (d:TypeDesc) (x ix:TV):Option Eff:=
 match d,x,ix with
 | .array n e, .v (.agg cs), .v (.one (.d (.int _ i)))=>
  match get T e with
  |some te=>match jU te.agg (ds.map .d)with
   |some s=>some ⟨[0<=i/\i<n,i.toNat*te.size+te.size<=cs.length,(cs.drop (i.toNat*te.size)).take te.size=ds.map .d], .v s,[]⟩
   |none=>none
  |none=>none
 |_,_,_=>none
def Ji:TV->List (Option (Option Ob))->Option (Nat × Nat × (Nat->Nat->DV))
 | .v (.one (.d (.sl _ esz len el))),_=>some (esz,len,el)
 | .v (.one (.own _ _ n)),some (some (.arr _ esz len el))::_=>bif Nat.beq n len then some (esz,len,el)else none
 |_,_=>none
def Pt (x:DV):EV->Prop
 | .d y=>x=y
 | .row _ _ n _=>n=0/\ ∃e l f,x= .sl (some false) e l f
def Ay (len lenx esz:Nat) (el:Nat->Nat->EV) (elx:Nat->Nat->DV) (el':Nat->Nat->EV):Prop:=
 (∀i,i<len-> ∀j,j<esz->el' i j=el i j)/\ ∀i,i<lenx-> ∀j,j<esz->Pt (elx i j) (el' (len+i) j)
def G9 (fresh:Nat) (an:iJ) (E:TypeId) (ti:TI) (b n:Nat) (ob:Ob) (eszx lenx:Nat) (elx:Nat->Nat->DV):Option Eff:=
 match ob with
 | .arr E' esz len el=>
  match an with
  | .arr len' el'=>
   bif Nat.beq E E' && Nat.beq esz ti.size && Nat.beq eszx esz && Nat.ble 1 esz && Nat.beq ti.zero.length ti.size then
    some ⟨[n=len,(len+lenx)*ti.bytes<=140737488355328,len+lenx<=4611686018427387904,len'=len+lenx,aB (len+lenx) esz (jK el len elx) el'], .v (.one (.own fresh false len')),[(fresh,some (.arr E esz len' el')),(b,none)]⟩
   else none
  | .frz len' el'=>
   bif Nat.beq E E' && Nat.beq esz ti.size && Nat.beq eszx esz && Nat.ble 1 esz && Nat.beq ti.zero.length ti.size then
    some ⟨[n=len,0<len,(len+lenx)*ti.bytes<=140737488355328,len+lenx<=4611686018427387904,len'=len+lenx,aB (len+lenx) esz (jK el len elx) el'], .v (.one (.d (.sl (some true) esz len' el'))),[(b,some (.frow false E esz len el))]⟩
   else none
  |_=>none
 | .frow true E' esz len el=>
  match an with
  | .frz len' el'=>
   bif Nat.beq E E' && Nat.beq esz ti.size && Nat.beq eszx esz && Nat.ble 1 esz && Nat.beq ti.zero.length ti.size then
    some ⟨[n=len,0<len,(len+lenx)*ti.bytes<=140737488355328,len+lenx<=4611686018427387904,len'=len+lenx,aB (len+lenx) esz (jK el len elx) el'], .v (.one (.d (.sl (some true) esz len' el'))),[]⟩
   else none
  |_=>none
 | .rows E' esz len el none=>
  match an with
  | .rows len' el'=>
   bif Nat.beq E E' && Nat.beq esz ti.size && Nat.beq eszx esz && Nat.ble 1 esz && Nat.beq ti.zero.length ti.size then
    some ⟨[n=len,(len+lenx)*ti.bytes<=140737488355328,len+lenx<=4611686018427387904,len'=len+lenx,Ay len lenx esz el elx el'], .v (.one (.own fresh false len')),[(fresh,some (.rows E esz len' el' none)),(b,none)]⟩
   else none
  |_=>none
 |_=>none
def GU (fresh:Nat) (an:iJ) (E:TypeId) (ti:TI) (eszx lenx:Nat) (elx:Nat->Nat->DV):Option Eff:=
 match an with
 | .arr len' el'=>
  bif Nat.beq eszx ti.size && Nat.ble 1 ti.size && Nat.beq ti.zero.length ti.size then
   some ⟨[lenx*ti.bytes<=140737488355328,lenx<=4611686018427387904,len'=lenx,aB lenx ti.size elx el'], .v (.one (.own fresh false len')),[(fresh,some (.arr E ti.size len' el'))]⟩
  else none
 |_=>none
def Bc (fresh:Nat) (an:iJ) (E:TypeId) (ti:TI) (s x:TV) (obs:List (Option (Option Ob))):Option Eff:=
 match s with
 | .v (.one (.own b _ n))=>
  match obs with
  |none::some (some ob)::rest=>match Ji x rest with
   |some (eszx,lenx,elx)=>G9 fresh an E ti b n ob eszx lenx elx
   |none=>none
  |_=>none
 | .v (.one (.d (.sl (some false) _ _ _)))=>
  match obs with
  |none::rest=>match Ji x rest with
   |some (eszx,lenx,elx)=>GU fresh an E ti eszx lenx elx
   |none=>none
  |_=>none
 |_=>none
def I4 (fresh:Nat) (an:iJ) (E:TypeId) (te:TI) (s x:TV) (obs:List (Option (Option Ob))):Option Eff:=
 match s,x,obs,an,nY te.zero with
 | .v (.one (.d (.sl (some false) _ _ _))), .v (.one (.d (.int _ l))),[none], .arr len' el',some z=>
  bif Nat.beq te.zero.length te.size && Nat.ble 1 te.size then
   some ⟨[0<l,te.bytes*l<=140737488355328,l<=4611686018427387904,len'=l.toNat,aB l.toNat te.size (fun _ j=>z.getD j .nilp) el'], .v (.one (.own fresh true len')),[(fresh,some (.arr E te.size len' el'))]⟩else none
 |_,_,_,_,_=>none
def RG:TypeDesc->Bool
 | .int _=>true
 |_=>false
def su (d:TypeDesc) (x ix:TV):Option Eff:=
 match d,ix with
 | .slice e, .v (.one (.d (.int _ i)))=>
  match get T e with
  |some te=>
   match x with
   | .v (.one (.d (.sl _ esz len el)))=>bif Nat.beq esz te.size then some ⟨[0<=i/\i<len], .v (.one (.d (.ip esz (el i.toNat)))),[]⟩else none
   | .v (.one (.own b _ len))=>some ⟨[0<=i/\i<len], .v (.one (.opt b te.size i.toNat 0)),[]⟩
   |_=>none
  |none=>none
 | .array n e, .v (.one (.d (.int _ i)))=>
  match get T e with
  |some te=>
   match x with
   | .v (.one (.d (.ip m c)))=>bif Nat.ble (n*te.size) m then some ⟨[0<=i/\i<n], .v (.one (.d (.ip te.size fun j=>c (i.toNat*te.size+j)))),[]⟩else none
   | .v (.one (.ptr b off))=>some ⟨[0<=i/\i<n], .v (.one (.ptr b (off+i.toNat*te.size))),[]⟩
   | .v (.one (.opt b e q p))=>bif Nat.beq e 1 && Nat.beq q 0 && Nat.beq p 0 && Nat.beq te.size 1 && RG te.d then some ⟨[0<=i/\i<n], .v (.one (.opt b 1 i.toNat 0)),[]⟩else
    some ⟨[0<=i/\i<n], .v (.one (.opt b e q (p+i.toNat*te.size))),[]⟩
   |_=>none
  |none=>none
 |_,_=>none
def Ea (d:TypeDesc) (a:TV) (f:Nat):Option Eff:=
 match d with
 | .struct fs=>
  match Ib T fs f with
  |some (off,size)=>
   bif Nat.ble 1 size then
    match a with
    | .v (.one (.d (.ip n c)))=>bif Nat.ble (off+size) n then some ⟨[], .v (.one (.d (.ip (n - off) fun j=>c (off+j)))),[]⟩else none
    | .v (.one (.ptr b o))=>some ⟨[], .v (.one (.ptr b (o+off))),[]⟩
    | .v (.one (.opt b e i o))=>some ⟨[], .v (.one (.opt b e i (o+off))),[]⟩
    |_=>none
   else none
  |none=>none
 |_=>none
def IL (d:TypeDesc) (x:TV) (f:Nat):Option Eff:=
 match d,x with
 | .struct fs, .v (.agg cs)=>
  match fs.toList[f]? with
  |some fd=>
   match get T fd.type with
   |some t=>bif Nat.ble (fd.offset+t.size) cs.length then(match jU t.agg ((cs.drop fd.offset).take t.size)with|some s=>some ⟨[], .v s,[]⟩|none=>none)else none
   |none=>none
  |none=>none
 |_,_=>none
def DJ (ti:TI) (parts:List (Nat × Operand)) (xs:List TV):Option Eff:=
 match nY ti.zero,lZ parts xs with
 |some z,some ps=>
  match ti.d with
  | .struct fs=>(match zU T fs.toList with
   |some pl=>(match xL (fun i=>pl[i]?) (z.map .d) ps with|some cs=>some ⟨[], .v (.agg cs),[]⟩|none=>none)
   |none=>none)
  | .array _ e=>(match get T e with
   |some te=>(match xL (fun i=>some (i*te.size,te.size)) (z.map .d) ps with|some cs=>some ⟨[], .v (.agg cs),[]⟩|none=>none)
   |none=>none)
  |_=>none
 |_,_=>none
def qI (fresh:Nat) (an:iJ) (d:TypeDesc) (len:Nat) (parts:List (Nat × Operand)) (xs:List TV) (obs:List (Option (Option Ob))):Option Eff:=
 match d,obs,lZ parts xs with
 | .slice e,[none],some ps=>
  match get T e with
  |some te=>
   match nY te.zero with
   |some z=>
    bif Nat.ble (len*te.size) 1000 && Nat.beq te.zero.length te.size && Nat.ble 1 te.size then
     match xL (fun i=>some (i*te.size,te.size)) (Mk z len) ps with
     |some cs=>match an with
      | .cells=>some ⟨[], .v (.one (.own fresh true len)),[(fresh,some (.cells e cs))]⟩
      | .take q=>match cs[q]?,o8 (cs.set q (.d .nilp))with
       |some c,some ds=>some ⟨[], .v (.one (.own fresh true len)),[(fresh,some (.rows e te.size len (fun i j=> .d (iV te.size ds i j)) (some (q / te.size,q % te.size,c))))]⟩
       |_,_=>none
      |_=>match o8 cs with
      |some ds=>match an with
       | .arr len' el'=>some ⟨[len'=len,aB len te.size (iV te.size ds) el'], .v (.one (.own fresh true len')),[(fresh,some (.arr e te.size len' el'))]⟩
       | .frz len' el'=>some ⟨[len'=len,aB len te.size (iV te.size ds) el'], .v (.one (.d (.sl (some true) te.size len' el'))),[]⟩
       | .arrL len' el'=>some ⟨[len'=len,aaU len te.size (iV te.size ds) el'], .v (.one (.own fresh true len')),[(fresh,some (.arr e te.size len' el'))]⟩
       |_=>some ⟨[], .v (.one (.own fresh true len)),[(fresh,some (.arr e te.size len (iV te.size ds)))]⟩
      |none=>none
     |none=>none
    else none
   |none=>none
  |none=>none
 |_,_,_=>none
def IG (fresh:Nat) (an:iJ) (d:TypeDesc) (l c:TV) (obs:List (Option (Option Ob))):Option Eff:=
 match d,l,c,obs with
 | .slice e, .v (.one (.d (.int _ l))), .v (.one (.d (.int _ c))),[none]=>
  match get T e with
  |some te=>
   match nY te.zero with
   |some z=>bif Nat.beq te.zero.length te.size && Nat.ble 1 te.size then
     match an with
     | .arr len' el'=>some ⟨[0<=l,l=c,te.bytes*l<=281474976710656,l<=9223372036854775807,len'=l.toNat,aB l.toNat te.size (fun _ j=>z.getD j .nilp) el'], .v (.one (.own fresh true len')),[(fresh,some (.arr e te.size len' el'))]⟩
     | .frz len' el'=>some ⟨[0<=l,l=c,te.bytes*l<=281474976710656,l<=9223372036854775807,len'=l.toNat,aB l.toNat te.size (fun _ j=>z.getD j .nilp) el'], .v (.one (.d (.sl (some true) te.size len' el'))),[]⟩
     |_=>some ⟨[0<=l,l=c,te.bytes*l<=281474976710656,l<=9223372036854775807], .v (.one (.own fresh true l.toNat)),[(fresh,some (.arr e te.size l.toNat fun _ j=>z.getD j .nilp))]⟩
    else none
   |none=>none
  |none=>none
 |_,_,_,_=>none
def Mv (d:TypeDesc) (x:TV):Option Eff:=
 match d,x with
 | .slice _, .v (.one (.d (.sl _ _ len _)))=>eF (.int .i64 len)
 | .slice _, .v (.one (.own _ _ len))=>eF (.int .i64 len)
 | .string, .v (.one (.d (.str s)))=>eF (.int .i64 s.size)
 | .array n _,_=>eF (.int .i64 n)
 |_,_=>none
def RD (el:Nat->Nat->DV) (l:Nat) (elx:Nat->Nat->DV) (m:Nat):Nat->Nat->DV:=fun i j=>bif Nat.ble l i && Nat.blt i (l+m)then elx (i - l) j else el i j
def Iz (an:iJ) (te:TI) (x y:TV) (obs:List (Option (Option Ob))):Option Eff:=
 match x,y,obs with
 | .v (.one (.own _ _ n)), .v (.one (.d (.sl _ eszx lenx elx))),[some (some (.suf b l 0)),some (some (.arr E esz len el))]=>
  match an with
  | .take b'=>bif Nat.beq b b' && Nat.beq te.size 1 && Nat.beq esz 1 && Nat.beq eszx 1 then
    some ⟨[n=len - l], .v (.one (.d (.int .i64 (Nat.min lenx n:Nat)))),[(b,some (.arr E 1 len (RD el l elx (Nat.min lenx n))))]⟩else none
  |_=>none
 | .v (.one (.own b _ n)), .v (.one (.own c _ m)),[some (some (.arr E esz len el)),some (some (.arr _ esz2 len2 el2))]=>
  match an with
  | .take c'=>bif Nat.beq c c' && !(Nat.beq b c) && Nat.beq te.size esz && Nat.beq esz2 esz then
    some ⟨[n=len,m=len2,len2=len], .v (.one (.d (.int .i64 (n:Nat)))),[(b,some (.arr E esz len el2))]⟩else none
  |_=>none
 |_,_,_=>none
def Ap (el:Nat->Nat->DV) (l:Nat) (z:List DV) (i j:Nat):DV:=bif Nat.blt i l then el i j else z.getD j .nilp
def Dm (an:iJ) (te:TI) (x:TV) (obs:List (Option (Option Ob))):Option Eff:=
 match x,obs with
 | .v (.one (.own _ _ n)),[some (some (.suf b l s)),some (some (.arr E esz len el))]=>
  match an,nY te.zero with
  | .take b',some z=>bif Nat.beq b b' && Nat.beq te.size esz && Nat.beq s esz && Nat.beq te.zero.length te.size && Nat.ble 1 esz then
    some ⟨[n=len - l], .eB [],[(b,some (.arr E esz len (Ap el l z)))]⟩else none
  |_,_=>none
 |_,_=>none
def Fs (fresh:Nat) (an:iJ) (b:Builtin) (argTypes:Array TypeId) (xs:List TV) (obs:List (Option (Option Ob))):Option Eff:=
 match b,argTypes.toList,xs with
 | .len,[t],[x]=>match get T t,obs with|some ti,[]=>Mv ti.d x|_,_=>none
 | .append,[t,t'],[s,x]=>
  match get T t,get T t' with
  |some ti,some ti'=>match ti.d,ti'.d with
   | .slice e, .slice _=>match get T e with|some te=>bif Nat.beq t t' then Bc fresh an e te s x obs else none|none=>none
   | .slice e, .int _=>match get T e with|some te=>I4 fresh an e te s x obs|none=>none
   |_,_=>none
  |_,_=>none
 | .copy,[t,t'],[x,y]=>
  match get T t,get T t' with
  |some ti,some _=>match ti.d with
   | .slice e=>match get T e with|some te=>Iz an te x y obs|none=>none
   |_=>none
  |_,_=>none
 | .clear,[t],[x]=>
  match get T t with
  |some ti=>match ti.d with
   | .slice e=>match get T e with|some te=>Dm an te x obs|none=>none
   |_=>none
  |none=>none
 | .cap,[t],[.v (.one (.d (.sl (some false) _ _ _)))]=>
  match get T t with
  |some ti=>match ti.d,obs with
   | .slice _,[]=>eF (.int .i64 0)
   |_,_=>none
  |none=>none
 | .max,_,[.v (.one (.d (.int k a))), .v (.one (.d (.int _ b)))]=>match obs with|[]=>eF (.int k (if a<b then b else a))|_=>none
 | .min,_,[.v (.one (.d (.int k a))), .v (.one (.d (.int _ b)))]=>match obs with|[]=>eF (.int k (if b<a then b else a))|_=>none
 |_,_,_=>none
inductive KD where
 |i (k:IntKind)
 |b
 |s
def NC:DV->DV->Option Bool
 | .int k a, .int k' b=>bif decide (k=k')then some (decide (a=b))else none
 | .bool a, .bool b=>some (a==b)
 | .str a, .str b=>some (a==b)
 |_,_=>none
def iy:List DV->List DV->Option Bool
 |[],[]=>some true
 |x::xs,y::ys=>match NC x y,iy xs ys with
  |some a,some b=>some (a && b)
  |_,_=>none
 |_,_=>none
def flatK:Nat->TypeId->Option (List KD)
 |0,_=>none
 |d+1,t=>match get T t with
  |some ti=>match ti.d with
   | .int k=>bif Nat.beq ti.size 1 then some [.i k]else none
   | .bool=>bif Nat.beq ti.size 1 then some [.b]else none
   | .string=>bif Nat.beq ti.size 1 then some [.s]else none
   | .struct fs=>bif ti.eq then(match flatFs (flatK d) 0 fs.toList with|some l=>bif Nat.beq l.length ti.size then some l else none|none=>none)else none
   | .array n e=>match flatK d e,get T e with
    |some l,some te=>bif Nat.beq l.length te.size && Nat.beq (List.replicate n l).flatten.length ti.size then some ((List.replicate n l).flatten)else none
    |_,_=>none
   |_=>none
  |none=>none
 where
 flatFs (g:TypeId->Option (List KD)):Nat->List Field->Option (List KD)
  |_,[]=>some []
  |off,f::fs=>match g f.type,get T f.type with
   |some l,some tf=>bif Nat.beq f.offset off && Nat.beq l.length tf.size && !(f.name== "_")then
     (match flatFs g (off+l.length) fs with|some m=>some (l++m)|none=>none)
    else none
   |_,_=>none
def ax:List KD->List DV->Bool
 |[],[]=>true
 | .i k::ks, .int k' _::ds=>decide (k=k') && ax ks ds
 | .b::ks, .bool _::ds=>ax ks ds
 | .s::ks, .str _::ds=>ax ks ds
 |_,_=>false
def EZ (op:BinOp) (t:TypeId) (xs ys:List CV):Option Eff:=
 match flatK T 8 t,o8 xs,o8 ys with
 |some ks,some ds,some es=>
  bif ax ks ds && ax ks es then
   match op,iy ds es with
   | .eql,some b=>eF (.bool b)
   | .neq,some b=>eF (.bool (!b))
   |_,_=>none
  else none
 |_,_,_=>none
def K8 (op:BinOp) (d:TypeDesc) (x y:DV):Option Eff:=
 match op,d,x,y with
 | .eql, .slice _, .sl (some n) _ _ _, .sl (some false) _ 0 _=>eF (.bool (!n))
 | .neq, .slice _, .sl (some n) _ _ _, .sl (some false) _ 0 _=>eF (.bool n)
 |_,_,_,_=>none
def IV (t:TypeId):DV->Bool
 | .bool _=>match get T t with
  |some ti=>match ti.d with| .bool=>true|_=>false
  |none=>false
 |_=>true
def Nv:SV->Bool
 | .one _=>true
 |_=>false
def yS (l:List DV) (j:Nat):DV:=l.getD j .nilp
def O3:List CV->List CV->Prop
 |[],[]=>True
 |z::zs,c::cs=>(∀ρ F w v,dK ρ F w z v->dK ρ F w c v)/\O3 zs cs
 |_,_=>False
theorem O3.refl: ∀l:List CV,O3 l l
 |[]=>trivial
 |_::l=> ⟨fun _ _ _ _ h=>h,O3.refl l⟩
theorem O3.aaK: ∀{zs cs:List CV},O3 zs cs-> ∀{ρ:Nat->Option Pl} {F:Nat->Prop} {w:World} {vs:List Value},bO ρ F w zs vs->bO ρ F w cs vs
 |[],[],_,_,_,_,_,h=>h
 |z::zs,c::cs,⟨h1,h2⟩,_,_,_,vs,h=>by
  cases vs with
  |nil=>exact h.elim
  |cons v vs=>exact⟨h1 _ _ _ _ h.1,h2.aaK h.2⟩
 |[],_::_,h,_,_,_,_,_=>h.elim
 |_::_,[],h,_,_,_,_,_=>h.elim
theorem O3.slice (e:Nat) (f g:Nat->Nat->DV):O3 [.d (.sl (some false) 0 0 f)] [.d (.sl none e 0 g)]:=by
 refine⟨?_,trivial⟩;rintro ρ F w v ⟨a,cap,hv,h1,h2,h3,h4,h5⟩;exact⟨a,cap,hv,(fun h=>by cases h),(fun h=>by cases h),h3,h4,fun ad ha=> ⟨(h5 ad ha).1,fun i hi=>by omega⟩⟩
theorem O3.sv {agg:Bool} {zs cs:List CV} {s:SV} (h:O3 zs cs) (hs:jU agg cs=some s): ∃s0,jU agg zs=some s0/\ ∀ρ F w v,fB ρ F w s0 v->fB ρ F w s v:=by
 cases agg with
 |true=>cases hs;exact⟨_,rfl,fun ρ F w v ⟨vs,e,hr⟩=> ⟨vs,e,h.aaK hr⟩⟩
 |false=>
  match cs,zs,h,hs with
  |[c],[z],⟨h,_⟩,hs=>cases hs;exact⟨_,rfl,fun ρ F w v hr=>h _ _ _ _ hr⟩
structure jk (ks:List KD) (ksz vsz len:Nat) (key:Nat->Nat->DV) (val:Nat->Nat->CV) (kd:List DV) (zero:List CV) (ok:Bool) (cs:List CV):Prop where
 kinds: ∀i,i<len->ax ks (bT (key i) 0 ksz)=true
 res:(ok=true/\ ∃i,i<len/\iy kd (bT (key i) 0 ksz)=some true/\(∀i',i'<i->iy kd (bT (key i') 0 ksz)=some false)/\cs=dS (val i) 0 vsz)\/
  (ok=false/\(∀i,i<len->iy kd (bT (key i) 0 ksz)=some false)/\O3 zero cs)
structure iQ (ks:List KD) (ksz vsz len:Nat) (key:Nat->Nat->DV) (val:Nat->Nat->CV) (kd:List DV) (vd:List CV) (ms:List Nat) (len':Nat) (key':Nat->Nat->DV) (val':Nat->Nat->CV):Prop where
 kinds: ∀i,i<len->ax ks (bT (key i) 0 ksz)=true
 bP: ∀i,i<len'-> ∀j,j<vsz-> ∀x∈(val' i j).bP,x∈ms
 res: ∃i,(∀i',i'<i->iy kd (bT (key i') 0 ksz)=some false)/\((i<len/\iy kd (bT (key i) 0 ksz)=some true/\len'=len)\/(i=len/\len'=len+1))/\
  bT (key' i) 0 ksz=kd/\dS (val' i) 0 vsz=vd/\ ∀i',i'<len->i'≠i->bT (key' i') 0 ksz=bT (key i') 0 ksz/\dS (val' i') 0 vsz=dS (val i') 0 vsz
def yU (fresh:Nat) (an:iJ) (d:TypeDesc) (obs:List (Option (Option Ob))):Option Eff:=
 match d,obs with
 | .map K V,[none]=>
  match get T K,get T V with
  |some tk,some tv=>match an with
   | .gput _=>(match tv.d with| .slice E=>some ⟨[], .v (.one (.mp fresh)),[(fresh,some (.gm K V E [] none))]⟩|_=>none)
   | .map _ key val ms=>some ⟨[], .v (.one (.mp fresh)),[(fresh,some (.map ⟨K,V,tk.agg,tv.agg,tk.size,tv.size,0,key,val,ms⟩))]⟩
   |_=>some ⟨[], .v (.one (.mp fresh)),[(fresh,some (.map ⟨K,V,tk.agg,tv.agg,tk.size,tv.size,0,fun _ _=> .nilp,fun _ _=> .d .nilp,[]⟩))]⟩
  |_,_=>none
 |_,_=>none
def tq:SV->Bool
 | .agg _=>true
 | .one _=>false
def mapOf:TV->List (Option (Option Ob))->Option (Nat × Mj)
 | .v (.one (.mp b)),[some (some (.map m))]=>some (b,m)
 |_,_=>none
def tF (T:List (Nat × TI)) (d:TypeDesc):Bool:=
 match d with
 | .int _| .bool| .string=>true
 | .array _ e=>match get T e with|some te=>(match te.d with| .int _| .bool=>true|_=>false)|none=>false
 |_=>false
def keyOf (K V:TypeId) (m:Mj) (k:TV):Option (TI × TI × List KD × List DV):=
 match k with
 | .v ks=>
  match get T K,get T V,flatK T 8 K,o8 (cellsOf ks)with
  |some tk,some tv,some kk,some kd=>
   bif Nat.beq K m.K && Nat.beq V m.V && (m.kagg==tk.agg) && (m.vagg==tv.agg) && Nat.beq m.ksz tk.size && Nat.beq m.vsz tv.size && ax kk kd && (tq ks==tk.agg) && tF T tk.d then some (tk,tv,kk,kd)else none
  |_,_,_,_=>none
 |_=>none
def BZ (an:iJ) (d:TypeDesc) (x k:TV) (commaOk:Bool) (obs:List (Option (Option Ob))):Option Eff:=
 match d with
 | .map K V=>
  match mapOf x obs with
  |some (_,m)=>
   match keyOf T K V m k with
   |some (_,tv,kk,kd)=>
    match an with
    | .look ok cs=>
     match nY tv.zero,jU tv.agg cs with
     |some z,some s=>some ⟨[jk kk m.ksz m.vsz m.len m.key m.val kd (z.map .d) ok cs],bif commaOk then .eB [s, .one (.d (.bool ok))]else .v s,[]⟩
     |_,_=>none
    |_=>none
   |none=>none
  |none=>none
 |_=>none
def ol (an:iJ) (d:TypeDesc) (x k v:TV) (obs:List (Option (Option Ob))):Option Eff:=
 match d with
 | .map K V=>
  match mapOf x obs with
  |some (b,m)=>
   match keyOf T K V m k with
   |some (_,tv,kk,kd)=>
    match an with
    | .map len' key' val' ms=>
     match v with
     | .v vs=>bif tq vs==tv.agg then some ⟨[iQ kk m.ksz m.vsz m.len m.key m.val kd (cellsOf vs) ms len' key' val'], .eB [],[(b,some (.map {m with len:=len',key:=key',val:=val',ms:=ms}))]⟩else none
     |_=>none
    |_=>none
   |none=>none
  |none=>none
 |_=>none
def Yx (K V K' V' E:TypeId):Bool:=
 match get T K,get T V,get T E with
 |some tk,some tv,some te=>Nat.beq K K' && Nat.beq V V' && (match tk.d with| .int .i64=>true|_=>false) && Nat.beq tk.size 1 && (match tv.d with| .slice E'=>Nat.beq E E'|_=>false) && Nat.beq te.size 1 && !tv.agg && !tk.agg && Nat.beq tv.size 1 && (match nY tv.zero with|some [.sl (some false) _ 0 _]=>true|_=>false)
 |_,_,_=>false
def D8 (c:Nat) (row:List Int) (d:TypeDesc) (x k:TV) (commaOk:Bool) (obs:List (Option (Option Ob))):Option Eff:=
 match d,x,k,commaOk,obs with
 | .map K V, .v (.one (.mp b)), .v (.one (.d (.int .i64 n))),false,[some (some (.gm K' V' E l none)),none]=>
  bif Yx T K V K' V' E then
   some ⟨[row=oK n l], .v (.one (.own c false row.length)),[(b,some (.gm K' V' E l (some (n, .own c false row.length)))),(c,some (.arr E 1 row.length (zm row)))]⟩
  else none
 |_,_,_,_,_=>none
def Ih (row:List Int) (d:TypeDesc) (x k v:TV) (obs:List (Option (Option Ob))):Option Eff:=
 match d,x,k,v,obs with
 | .map K V, .v (.one (.mp b)), .v (.one (.d (.int .i64 n))), .v (.one (.own c _ m)),[some (some (.gm K' V' E l ov)),some (some (.arr E1 esz1 n1 el1))]=>
  bif Yx T K V K' V' E && Nat.beq E1 E && Nat.beq esz1 1 && !(Nat.beq b c)then
   some ⟨[m=n1,n1=row.length,aB n1 1 el1 (zm row),∀n0 c0,ov=some (n0,c0)->n0=n], .eB [],[(b,some (.gm K' V' E (mH n row l) none)),(c,none)]⟩
  else none
 |_,_,_,_,_=>none
def Bt (x i:TV):Option Eff:=
 match x,i with
 | .v (.one (.d (.str s))), .v (.one (.d (.int _ n)))=>some ⟨[0<=n/\n<s.size], .v (.one (.d (.int .u8 ((dH s).getD n.toNat 0)))),[]⟩
 |_,_=>none
inductive Sk where
 |lo (l:Int)
 |hi (h:Int)
 |all
 |bo (l h:Int)
def Q0:Option TV->Option TV->Option Sk
 |some (.v (.one (.d (.int _ l)))),none=>some (.lo l)
 |none,some (.v (.one (.d (.int _ h))))=>some (.hi h)
 |none,none=>some .all
 |some (.v (.one (.d (.int _ l)))),some (.v (.one (.d (.int _ h))))=>some (.bo l h)
 |_,_=>none
def lM (esz:Nat) (nn:Option Bool) (len:Nat) (el:Nat->Nat->DV):Sk->Option Eff
 | .lo l=>some ⟨[0<=l/\l<=len], .v (.one (.d (.sl nn esz (len - l.toNat) fun i j=>el (i+l.toNat) j))),[]⟩
 | .hi h=>some ⟨[0<=h/\h<=len], .v (.one (.d (.sl nn esz h.toNat el))),[]⟩
 | .all=>some ⟨[], .v (.one (.d (.sl nn esz len el))),[]⟩
 | .bo l h=>some ⟨[0<=l/\l<=h/\h<=len], .v (.one (.d (.sl nn esz (h.toNat - l.toNat) fun i j=>el (i+l.toNat) j))),[]⟩
def Bp (fresh b:Nat) (an:iJ) (E esz n len:Nat) (nn:Bool) (el:Nat->Nat->DV) (bd:Sk):Option Eff:=
 match an with
 | .arr len' el'=>
  match bd with
  | .lo l=>some ⟨[n=len,0<=l/\l<=len,len'=len - l.toNat,aB (len - l.toNat) esz (fun i j=>el (i+l.toNat) j) el'], .v (.one (.own fresh nn len')),[(fresh,some (.arr E esz len' el')),(b,none)]⟩
  | .hi h=>some ⟨[n=len,0<=h/\h<=len,len'=h.toNat,aB h.toNat esz el el'], .v (.one (.own fresh nn len')),[(fresh,some (.arr E esz len' el')),(b,none)]⟩
  |_=>none
 | .cells=>
  match bd with
  | .lo l=>bif Nat.ble 1 esz then some ⟨[n=len,0<=l/\l<=len], .v (.one (.own fresh nn (len - l.toNat))),[(fresh,some (.suf b l.toNat esz))]⟩else none
  |_=>none
 |_=>none
def EA (fresh:Nat) (an:iJ) (d:TypeDesc) (x:TV) (lo hi:Option TV) (obs:List (Option (Option Ob))):Option Eff:=
 match Q0 lo hi with
 |none=>none
 |some bd=>
  match d with
  | .slice e=>
   match get T e with
   |none=>none
   |some te=>
    match x with
    | .v (.one (.d (.sl nn esz len el)))=>(match obs with|[]=>bif Nat.beq esz te.size then lM esz nn len el bd else none|_=>none)
    | .v (.one (.own b nn n))=>(match obs with|[some (some (.arr E esz len el)),none]=>bif Nat.beq esz te.size then Bp fresh b an E esz n len nn el bd else none|_=>none)
    |_=>none
  | .string=>(match x,obs with
   | .v (.one (.d (.str s))),[]=>(match bd with
    | .lo l=>some ⟨[0<=l/\l<=s.size], .v (.one (.d (.str (bD s l.toNat s.size)))),[]⟩
    | .hi h=>some ⟨[0<=h/\h<=s.size], .v (.one (.d (.str (bD s 0 h.toNat)))),[]⟩
    | .bo l h=>some ⟨[0<=l/\l<=h/\h<=s.size], .v (.one (.d (.str (bD s l.toNat h.toNat)))),[]⟩
    | .all=>none)
   |_,_=>none)
  | .array n e=>
   match get T e,bd with
   |some te, .all=>
    match x with
    | .v (.one (.ptr b off))=>
     (match obs with
     |[some (some (.cells E cs))]=>(match o8 cs with
      |some ds=>bif Nat.ble (off+n*te.size) ds.length then
        some ⟨[], .v (.one (.d (.sl (some true) te.size n fun i j=>ds.getD (off+(i*te.size+j)) .nilp))),[(b,some (.fcells E ds))]⟩else none
      |none=>none)
     |_=>none)
    | .v (.one (.d (.ip m c)))=>(match obs with|[]=>bif Nat.ble (n*te.size) m && Nat.ble 1 (n*te.size)then some ⟨[], .v (.one (.d (.sl (some true) te.size n fun i j=>c (i*te.size+j)))),[]⟩else none|_=>none)
    |_=>none
   |some te, .lo l=>
    match x with
    | .v (.one (.opt b esz i off))=>(match obs with
     |[some (some (.arr _ esz' len _)),none]=>bif Nat.beq esz 1 && Nat.beq esz' 1 && Nat.beq te.size 1 && Nat.beq i 0 && Nat.beq off 0 then
       some ⟨[n=len,0<=l/\l<n], .v (.one (.own fresh true (n - l.toNat))),[(fresh,some (.suf b l.toNat 0))]⟩else none
     |_=>none)
    |_=>none
   |_,_=>none
  |_=>none
def Bv (op:BinOp) (d:TypeDesc):Option Eff:=
 match d,op with
 | .pointer _, .eql=>eF (.bool false)
 | .pointer _, .neq=>eF (.bool true)
 |_,_=>none
def M5 (v:Bool) (op:BinOp) (d:TypeDesc) (y:DV):Option Eff:=
 match y,d,op with
 | .nilp, .pointer _, .eql=>eF (.bool v)
 | .nilp, .pointer _, .neq=>eF (.bool (!v))
 |_,_,_=>none
def BQ (fresh:Nat) (an:iJ) (d:TypeDesc) (x lo hi mx:TV) (obs:List (Option (Option Ob))):Option Eff:=
 match d,x,lo,hi,mx,obs,an with
 | .slice e, .v (.one (.d (.sl _ esz len el))), .v (.one (.d (.int _ l))), .v (.one (.d (.int _ h))), .v (.one (.d (.int _ m))),[none], .arr len' el'=>
  match get T e with
  |some te=>bif Nat.beq esz te.size then some ⟨[0<=l/\l<h/\h<=len,h=m,len'=h.toNat - l.toNat,aB len' esz (fun i j=>el (i+l.toNat) j) el'], .v (.one (.own fresh true len')),[(fresh,some (.frow true e esz len' el'))]⟩else none
  |none=>none
 |_,_,_,_,_,_,_=>none
def Ht:Option Operand->List TV->Option (Option TV × List TV)
 |none,xs=>some (none,xs)
 |some _,x::xs=>some (some x,xs)
 |some _,[]=>none
def QH (fresh:Nat) (an:iJ) (o:Op) (xs:List TV) (obs:List (Option (Option Ob))):Option Eff:=
 match o with
 | .move _| .assign _=>match xs,obs with|[x],[]=>some ⟨[],x,[]⟩|_,_=>none
 | .alloc E=>match get T E,obs with
  |some ti,[none]=>(match nY ti.zero with
   |some z=>(match an with
    | .arr len el=>bif Nat.ble ti.size 1000 && Nat.beq ti.zero.length ti.size then some ⟨[len=ti.size,aB ti.size 1 (fun i _=>z.getD i .nilp) el], .v (.one (.opt fresh 1 0 0)),[(fresh,some (.arr E 1 len el))]⟩else none
    |_=>some ⟨[], .v (.one (.ptr fresh 0)),[(fresh,some (.cells E (z.map .d)))]⟩)
   |none=>none)
  |_,_=>none
 | .box E _=>match xs,obs with
  |[.v s],[none]=>some ⟨[], .v (.one (.ptr fresh 0)),[(fresh,some (.cells E (cellsOf s)))]⟩
  |_,_=>none
 | .build t parts=>match get T t,obs with|some ti,[]=>DJ T ti parts.toList xs|_,_=>none
 | .buildSlice t len parts=>match get T t with|some ti=>qI T fresh an ti.d len parts.toList xs obs|none=>none
 | .load t _=>match get T t,xs with|some ti,[a]=>(match an with| .vals ds=>Eo ti ds a obs| .take c=>IK c ti a obs|_=>zJ ti a obs)|_,_=>none
 | .store t _ _=>match get T t,xs with|some ti,[a,x]=>(match an with| .vals ds=>Bh ti ds a x obs| .rows _ el=>LH el ti a x obs|_=>vG an ti a x obs)|_,_=>none
 | .makeMap t none=>match get T t with|some ti=>yU T fresh an ti.d obs|none=>none
 | .lookup t _ _ ok=>match get T t,xs with|some ti,[x,k]=>(match an with| .gtk c row=>D8 T c row ti.d x k ok obs|_=>BZ T an ti.d x k ok obs)|_,_=>none
 | .mapUpdate t _ _ _=>match get T t,xs with|some ti,[x,k,v]=>(match an with| .gput row=>Ih T row ti.d x k v obs|_=>ol T an ti.d x k v obs)|_,_=>none
 | .insert t _ _ _=>match get T t,xs with|some ti,[x,k,v]=>ol T an ti.d x k v obs|_,_=>none
 | .slice t _ lo hi none=>match get T t,xs with
  |some ti,x::r=>match Ht lo r with
   |some (l,r1)=>match Ht hi r1 with
    |some (h,[])=>EA T fresh an ti.d x l h obs
    |_=>none
   |none=>none
  |_,_=>none
 | .slice t _ (some _) (some _) (some _)=>match get T t,xs with
  |some ti,[x,l,h,m]=>BQ T fresh an ti.d x l h m obs
  |_,_=>none
 | .index t _ _=>match get T t,xs,obs with
  |some ti,[x,i],[]=>(match ti.d with| .string=>Bt x i|_=>(match an with| .vals ds=>Bq T ds ti.d x i|_=>none))
  |_,_,_=>none
 | .nilCheck _=>match xs,obs with
  |[.v (.one (.d (.ip n c)))],[]=>eF (.ip n c)
  |[.v (.one (.ptr b o))],[]=>some ⟨[], .v (.one (.ptr b o)),[]⟩
  |[.v (.one (.opt b e i o))],[]=>some ⟨[], .v (.one (.opt b e i o)),[]⟩
  |[.v (.one (.d (.fn f n c)))],[]=>eF (.fn f n c)
  |[.v (.one (.d (.fna f n c)))],[]=>eF (.fna f n c)
  |[.v (.one (.fn f nf n c))],[]=>some ⟨[], .v (.one (.fn f nf n c)),[]⟩
  |[.v (.one (.yl b))],[]=>some ⟨[], .v (.one (.yl b)),[]⟩
  |_,_=>none
 | .binOp op t _ _ _=>match xs,obs with
  |[.v (.one (.d x)), .v (.one (.d y))],[]=>(match x with
   | .sl _ _ _ _=>(match get T t with|some ti=>K8 op ti.d x y|none=>none)
   | .ip _ _=>(match get T t with|some ti=>M5 false op ti.d y|none=>none)
   | .nilp=>(match get T t with|some ti=>M5 true op ti.d y|none=>none)
   |_=>bif IV T t x then WY op x y else none)
  |[.v (.agg xs), .v (.agg ys)],[]=>(match get T t with|some ti=>bif ti.agg && ti.eq then EZ T op t xs ys else none|none=>none)
  |[.v (.one (.ptr _ _)), .v (.one (.d .nilp))],[]=>(match get T t with|some ti=>Bv op ti.d|none=>none)
  |_,_=>none
 | .unOp op _ _=>match xs,obs with|[.v (.one (.d x))],[]=>unE op x|_,_=>none
 | .convert s d _=>match get T s,get T d,xs,obs with
  |some ts,some td,[.v (.one (.d (.int _ n)))],[]=>(match ts.d,td.d with| .int _, .int k=>eF (.int k (k.wrap n))|_,_=>none)
  |some ts,some td,[.v (.one (.d (.sl _ 1 n el)))],[]=>(match ts.d,td.d,an with
   | .slice e, .string, .vals ds=>(match get T e with|some te=>(match te.d with| .int .u8=>some ⟨[0<n,n=ds.length,aB n 1 el fun i _=>ds.getD i .nilp,ds.all qi=true], .v (.one (.d (.str (Ng ds)))),[]⟩|_=>none)|none=>none)
   |_,_,_=>none)
  |some _,some td,[.v (.one (.d (.str x)))],[]=>(match td.d with
   | .slice e=>(match get T e with|some te=>(match te.d with| .int .u8=>eF (.sl (some true) 1 (dH x).length fun i _=> .int .u8 ((dH x).getD i 0))|_=>none)|none=>none)
   |_=>none)
  |_,_,_,_=>none
 | .makeFunc (.func f) first _=>match gT xs,obs with
  |some l,[]=>bif l.all Nv then(match first.size,o8 (l.flatMap cellsOf)with
   |0,some ds=>eF (.fn f ds.length (yS ds))
   |_,_=>some ⟨[], .v (.one (.fn f first.size (l.flatMap cellsOf).length fun j=>(l.flatMap cellsOf).getD j (.d .nilp))),[]⟩)else(match l with|[.agg cs]=>bif Nat.beq first.size 1 then(match o8 cs with|some ds=>eF (.fna f ds.length (yS ds))|none=>none)else none|_=>none)
  |_,_=>none
 | .makeSlice t _ _=>match get T t,xs with|some ti,[l,c]=>IG T fresh an ti.d l c obs|_,_=>none
 | .fieldAddr s _ f=>match get T s,xs,obs with|some ti,[a],[]=>Ea T ti.d a f|_,_,_=>none
 | .field t _ f=>match get T t,xs,obs with|some ti,[x],[]=>IL T ti.d x f|_,_,_=>none
 | .indexAddr t _ _=>match get T t,xs,obs with|some ti,[x,i],[]=>su T ti.d x i|_,_,_=>none
 | .extract _ ix=>match xs,obs with|[.eB l],[]=>(match l[ix]? with|some s=>some ⟨[], .v s,[]⟩|none=>none)|_,_=>none
 | .call c=>match c.callee with
  | .builtin b=>Fs T fresh an b c.argTypes xs obs
  | .value _=>match xs with
   | .v (.one (.d (.fn f n cap)))::args=>iO Fn an (.fn f) (args++(takeC cap 0 n).map (fun c=> .v (.one c))) obs
   | .v (.one (.d (.fna f n cap)))::args=>iO Fn an (.fn f) (.v (.agg (takeC cap 0 n))::args) obs
   | .v (.one (.fn f nf n cap))::args=>bif Nat.ble nf n then iO Fn an (.fn f) ((dS cap 0 nf).map (fun c=> .v (.one c))++args++(dS cap nf (n - nf)).map (fun c=> .v (.one c))) obs else none
   | .v (.one (.yl b))::args=>iO Fn an (.yl b) args obs
   |_=>none
  |_=>none
 |_=>none
end
def oP (F:Nat->Prop) (w:World) (k base cap E esz len:Nat) (el:Nat->Nat->DV):Prop:=
 ∃vs:List Value,w.heap[k]? =some (.cells (List.toArray vs) E (0,0))/\base+cap*esz<=vs.length/\len<=cap/\cap<=maxLen/\
  ∀i,i<len-> ∀j,j<esz-> ∃u,vs[base+(i*esz+j)]? =some u/\bG F w (el i j) u
def fC (F:Nat->Prop) (w:World) (S:Nat->Prop) (rb:Option Nat):EV->Value->Prop
 | .d x,v=>bG F w x v
 | .row E esz len el,v=>(len=0/\v= .slice none 0 0)\/ ∃k base cap,rb=some k/\S k/\v= .slice (some ⟨k,base,none⟩) len cap/\oP F w k base cap E esz len el
def wC (ρ:Nat->Option Pl) (F:Nat->Prop) (w:World) (S:Nat->Prop) (rb:Nat->Nat->Option Nat) (el:Nat->Nat->EV) (ov:Option (Nat × Nat × CV)) (i j:Nat) (v:Value):Prop:=
 match ov with
 |none=>fC F w S (rb i j) (el i j) v
 |some (i0,j0,c)=>if i=i0/\j=j0 then dK ρ F w c v else fC F w S (rb i j) (el i j) v
def uS (ρ:Nat->Option Pl) (F:Nat->Prop) (w:World) (S:Nat->Prop) (rb:Nat->Option Nat) (E:TypeId) (l:List (Int × List Int)) (ov:Option (Int × CV)) (i:Nat) (v:Value):Prop:=
 match ov with
 |none=>fC F w S (rb i) (MF E (l.getD i default).2) v
 |some (n,c)=>if(l.getD i default).1=n then dK ρ F w c v else fC F w S (rb i) (MF E (l.getD i default).2) v
def rC (ρ:Nat->Option Pl) (F:Nat->Prop) (w:World) (agg:Bool) (sz:Nat) (c:Nat->CV) (v:Value):Prop:=
 ∃s,jU agg (dS c 0 sz)=some s/\fB ρ F w s v
def ko (st:Nat):LoopState:=match st with|0=> .ready|1=> .busy|_=> .done
def fG (outs:List Code) (st:Nat):Option Code:=match st with|n+2=>outs[n]? |_=>none
def xA (ρ:Nat->Option Pl) (b k base cap l esz:Nat):Prop:=
 if esz=0 then∃cap2,ρ b=some (.blk k (base+l) cap2)else ρ b=some (.blk k (if cap=l then base else base+l*esz) (cap - l))
def ig (ρ:Nat->Option Pl) (F:Nat->Prop) (w:World) (S:Nat->Prop) (b:Nat):Ob->Prop
 | .cells E cs=> ∃k cap vs,ρ b=some (.blk k 0 cap)/\S k/\w.heap[k]? =some (.cells (List.toArray vs) E (0,0))/\bO ρ F w cs vs
 | .fcells _ ds=> ∃k base cap,ρ b=some (.blk k base cap)/\ ∀j x,ds[j]? =some x->F k/\ ∃u,w.cell? ⟨k,base+j,none⟩=some u/\bG F w x u
 | .arr E esz len el=>(ρ b=some .nil/\len=0)\/ ∃k base cap,ρ b=some (.blk k base cap)/\S k/\oP F w k base cap E esz len el
 | .rows E esz len el ov=>(ρ b=some .nil/\len=0)\/ ∃k base cap,∃vs:List Value,∃rb:Nat->Nat->Option Nat,ρ b=some (.blk k base cap)/\S k/\w.heap[k]? =some (.cells (List.toArray vs) E (0,0))/\base+cap*esz<=vs.length/\len<=cap/\cap<=maxLen/\
   (∀i,i<len-> ∀j,j<esz-> ∃u,vs[base+(i*esz+j)]? =some u/\wC ρ F w S rb el ov i j u)/\
   (∀i j i' j' k',rb i j=some k'->rb i' j'=some k'->i=i'/\j=j')/\(∀i j,rb i j≠some k)
 | .map m=> ∃k base cap es,ρ b=some (.blk k base cap)/\S k/\w.heap[k]? =some (.map es es.size)/\es.size=m.len/\(∀i,i<m.len-> ∀j,j<m.vsz-> ∀x∈(m.val i j).bP,x∈m.ms)/\
   ∀i,i<m.len-> ∃e,es[i]? =some e/\e.born=i/\rC ρ F w m.kagg m.ksz (fun j=> .d (m.key i j)) e.key/\rC ρ F w m.vagg m.vsz (m.val i) e.val
 | .loop r st sl=> ∃k base cap fn tmps D,ρ b=some (.blk k base cap)/\S k/\st<r.outs.length+2/\
   w.heap[k]? =some (.loop {state:=ko st,pending:=fG r.outs st,fn,tmps,params:=r.ps.toArray,assign:=r.assign,body:=r.body,defers:=D})/\
   tmps.size=r.N/\ ∀t tv,get sl t=some tv-> ∃v,tmps[t]? =some v/\bE ρ F w tv v
 | .coll=> ∃k base cap,ρ b=some (.blk k base cap)/\S k/\w.heap[k]? =some (.deferred (some []))
 | .gm _ _ E l ov=> ∃k base cap es,∃rb:Nat->Option Nat,ρ b=some (.blk k base cap)/\S k/\w.heap[k]? =some (.map es es.size)/\es.size=l.length/\
   (∀i,i<l.length-> ∃e,es[i]? =some e/\e.born=i/\e.key= .int .i64 (l.getD i default).1/\uS ρ F w S rb E l ov i e.val)/\
   (∀i i' k',rb i=some k'->rb i'=some k'->i=i')/\(∀i,rb i≠some k)/\(l.map (·.1)).Nodup
 | .frow fu _ esz len el=> ∃k base cap,ρ b=some (.blk k base cap)/\(len<=cap/\(fu=true->cap=len))/\ ∀i,i<len-> ∀j,j<esz->F k/\ ∃u,w.cell? ⟨k,base+(i*esz+j),none⟩=some u/\bG F w (el i j) u
 | .suf b0 l esz=>(ρ b0=some .nil/\ρ b=some .nil/\l=0)\/ ∃k base cap,ρ b0=some (.blk k base cap)/\l<=cap/\xA ρ b k base cap l esz
structure Base where
 w:World
 ρ:Nat->Option Pl
 F:Nat->Prop
 Ft:Nat->Prop
 mb:Nat
 df:List Deferred
structure OD (w' w:World):Prop where
 out:w'.output=w.output
 dr:True
theorem OD.refl (w:World):OD w w:=⟨rfl,trivial⟩
theorem OD.trans {w w' w'':World} (h:OD w'' w') (g:OD w' w):OD w'' w:=⟨h.out.trans g.out,trivial⟩
def GL (F:Nat->Prop) (w:World):Prop:= ∀x∈Pm,F x.1/\ ∃l E fz,w.heap[x.1]? =some (.cells (List.toArray l) E fz)/\x.2 l
structure Fr (B:Base) (ρ:Nat->Option Pl) (F:Nat->Prop) (w:World):Prop where
 os:w.os=B.w.os
 tape:w.tape=B.w.tape
 output:OD w B.w
 size:B.w.heap.size<=w.heap.size
 mem: ∀k,k<B.w.heap.size-> ¬ B.Ft k->w.heap[k]? =B.w.heap[k]?
 rho: ∀b p,B.ρ b=some p->ρ b=some p
 fz: ∀k,F k->k<w.heap.size/\(B.F k\/B.Ft k\/B.w.heap.size<=k)
 bf: ∀k,B.F k->F k
structure mg (B:Base) (ρ:Nat->Option Pl) (F:Nat->Prop) (w:World) (h:Hp) (ft:Nat->Nat->Prop):Prop where
 obj: ∀b ob,h b=some (some ob)->ig ρ F w (ft b) b ob
 blk: ∀b ob k,h b=some (some ob)->ft b k->k<w.heap.size/\ ¬ F k/\(B.Ft k\/B.w.heap.size<=k)
 dis: ∀b b' ob ob' k,h b=some (some ob)->h b'=some (some ob')->ft b k->ft b' k->b=b'
 fresh: ∀b,h b=none->ρ b=none
 gl:GL F w
def HI (B:Base) (ρ:Nat->Option Pl) (F:Nat->Prop) (w:World) (h:Hp):Prop:= ∃ft,mg B ρ F w h ft
theorem HI.fresh {B:Base} {ρ:Nat->Option Pl} {F:Nat->Prop} {w:World} {h:Hp} (hi:HI B ρ F w h): ∀b,h b=none->ρ b=none:=by
 obtain⟨ft,hi⟩:=hi;exact hi.fresh
def Base.up (B:Base):Base:=⟨B.w,B.ρ,B.F,B.Ft,B.w.heap.size,[]⟩
theorem Fr.dn {B:Base} {ρ:Nat->Option Pl} {F:Nat->Prop} {w:World} (h:Fr B.up ρ F w):Fr B ρ F w:=⟨h.os,h.tape,h.output,h.size,h.mem,h.rho,h.fz,h.bf⟩
theorem HI.dn {B:Base} {ρ:Nat->Option Pl} {F:Nat->Prop} {w:World} {h:Hp} (hi:HI B.up ρ F w h):HI B ρ F w h:=by
 obtain⟨ft,hi⟩:=hi;exact⟨ft,hi.obj,hi.blk,hi.dis,hi.fresh,hi.gl⟩
theorem HI.up {B:Base} {ρ:Nat->Option Pl} {F:Nat->Prop} {w:World} {h:Hp} (hi:HI B ρ F w h):HI B.up ρ F w h:=by
 obtain⟨ft,hi⟩:=hi;exact⟨ft,hi.obj,hi.blk,hi.dis,hi.fresh,hi.gl⟩
def upd (h:Hp) (hd:List (Nat × Option Ob)):Hp:=fun b=>match get hd b with|some o=>some o|none=>h b
theorem TN (h:Hp):upd h []=h:=rfl
def aP (l:List (Nat × Option Ob)):Hp:=get l
def Enters (P:Program) (f:FuncId):Prop:= ∃fn,P.funcs[f]? =some fn/\(fn.name== "runtime.NumGoroutine")=false/\fn.body.isNone=false
def Fn (P:Program) (f:FuncId) (args:List SV) (hin:List (Nat × Option Ob)) (res:TV) (hout:List (Nat × Option Ob)):Prop:=
 Enters P f/\ ∀(B:Base) (vs:List Value),(∀k,B.F k->k<B.w.heap.size)->HI B B.ρ B.F B.w (aP hin)->dm B.ρ B.F B.w args vs->
  Calls P f vs.toArray B.w fun e w'=> ∃v ρ' F',e= .returned v/\Fr B ρ' F' w'/\HI B ρ' F' w' (aP hout)/\bE ρ' F' w' res v
def FW (r:Option Nat):Fence:={Fence.wide with round:=r}
def Dh:Op->Bool
 | .defer _=>true
 |_=>false
theorem mQ {P:Program} {o:Oper} {a:Act} {w:World} {K:Act->World->Prop} {Q:Exit->Act->World->Prop} (r:Option Nat) (hd:Dh o.op=false) (h:o.wp P a w K Q):o.wpIn (FW r) 0 P a w K Q:=by
 refine⟨fun _ _=>trivial, ?_⟩;rw [show o.semAt (FW r).round a.eval=execOp a.eval o from Oper.semAt_eq _ _ _ (fun c hc=>by rw [hc]at hd;cases hd)];have key: ∀{f:FuncId} {args:Array Value} {w':World} {R:Ending->World->Prop},Calls P f args w' R->CallsIn (FW r) (0 - 1) P f args w' R:=fun hc=>(callsIn_wide.2 hc:CallsIn Fence.wide 0 P _ _ _ _);unfold Oper.wp at h;generalize (execOp a.eval o).run P w=res at h;unfold Oper.upon at h;unfold Oper.uponIn;split at h;·exact h
 ·exact h
 ·exact h
 ·exact⟨fun hh=>by simp [FW,Fence.wide]at hh,key h⟩
 ·refine⟨fun hh=>by simp [FW,Fence.wide]at hh,fun c cs _=> ?_⟩;obtain⟨v,w',h1,h2⟩:=h c cs;exact⟨v,w',h1,stepsIn_wide.2 h2⟩
 ·exact h
 ·exact h.elim
def Good (P:Program) (B:Base) (ρ:Nat->Option Pl) (F:Nat->Prop) (w:World) (h:Hp) (o:Oper) (a:Act) (tv:TV) (hd:List (Nat × Option Ob)):Prop:=
 ∀(r:Option Nat) (K:Act->World->Prop) (Q:Exit->Act->World->Prop),
  (∀v ρ' F' w',Gr ρ F w ρ' F' w'->Fr B ρ' F' w'->HI B ρ' F' w' (upd h hd)->bE ρ' F' w' tv v->K (a.put o.dst v) w')->o.wpIn (FW r) 0 P a w K Q
def dG (ρ:Nat->Option Pl) (F:Nat->Prop) (w:World):List TV->List Value->Prop
 |[],[]=>True
 |c::cs,v::vs=>bE ρ F w c v/\dG ρ F w cs vs
 |_,_=>False
def All:List Prop->Prop
 |[]=>True
 |c::cs=>c/\All cs
section
variable {P:Program} {B:Base} {ρ:Nat->Option Pl} {F:Nat->Prop} {w:World} {h:Hp} {o:Oper} {a:Act}
theorem Iy {tv:TV} {hd:List (Nat × Option Ob)} (hn:Dh o.op=false) (hg: ∀(K:Act->World->Prop) (Q:Exit->Act->World->Prop),
  (∀v ρ' F' w',Gr ρ F w ρ' F' w'->Fr B ρ' F' w'->HI B ρ' F' w' (upd h hd)->bE ρ' F' w' tv v->K (a.put o.dst v) w')->o.wp P a w K Q):Good P B ρ F w h o a tv hd:=
 fun r K Q hK=>mQ r hn (hg K Q hK)
theorem jm {x:Next} {w':World} (hrun:(execOp a.eval o).run P w= .ok x w') (hx: ∀d,x≠ .defer d):Dh o.op=false:=by
 cases ho:o.op<;>try rfl
 rename_i c;simp only [execOp,ho]at hrun;exfalso;revert hrun;rw [eC];cases(resolve a.eval c o.type).run P w with
 |halt _ _=>intro hh;cases hh
 |ok d w1=>
  simp only [eA];intro hh;simp at hh;exact hx d hh.1.symm
theorem aH {tv:TV} {v:Value} (fr:Fr B ρ F w) (hi:HI B ρ F w h) (hrun:(execOp a.eval o).run P w= .ok (.value v) w) (hr:bE ρ F w tv v):Good P B ρ F w h o a tv []:=by
 refine Iy (jm hrun (fun _ h=>by cases h)) fun K Q hK=> ?_;simp only [Oper.wp,hrun,Oper.upon];exact hK v ρ F w (.refl _ _ _) fr hi hr
theorem bI {tv:TV} {hd:List (Nat × Option Ob)} {v:Value} {ρ':Nat->Option Pl} {F':Nat->Prop} {w':World} (g:Gr ρ F w ρ' F' w') (fr:Fr B ρ' F' w') (hi:HI B ρ' F' w' (upd h hd))
  (hrun:(execOp a.eval o).run P w= .ok (.value v) w') (hr:bE ρ' F' w' tv v):Good P B ρ F w h o a tv hd:=by
 refine Iy (jm hrun (fun _ h=>by cases h)) fun K Q hK=> ?_;simp only [Oper.wp,hrun,Oper.upon];exact hK v ρ' F' w' g fr hi hr
theorem oF {hd:List (Nat × Option Ob)} {ρ':Nat->Option Pl} {F':Nat->Prop} {w':World} (g:Gr ρ F w ρ' F' w') (fr:Fr B ρ' F' w') (hi:HI B ρ' F' w' (upd h hd))
  (hrun:(execOp a.eval o).run P w= .ok .skip w'):Good P B ρ F w h o a (.eB []) hd:=by
 refine Iy (jm hrun (fun _ h=>by cases h)) fun K Q hK=> ?_;simp only [Oper.wp,hrun,Oper.upon];exact hK undef ρ' F' w' g fr hi ⟨[],rfl,trivial⟩
theorem dG.one {x:TV} {vs:List Value} (h:dG ρ F w [x] vs): ∃v,vs=[v]/\bE ρ F w x v:=by
 match vs,h with
 |[v],⟨h,_⟩=>exact⟨v,rfl,h⟩
theorem dG.two {x y:TV} {vs:List Value} (h:dG ρ F w [x,y] vs): ∃v u,vs=[v,u]/\bE ρ F w x v/\bE ρ F w y u:=by
 match vs,h with
 |[v,u],⟨h,h',_⟩=>exact⟨v,u,rfl,h,h'⟩
theorem aL {t:TypeId} {ti:TI} (h:eG P t ti):(underlying t).run P w= .ok ti.d w:=by
 simp [underlying,h.1]
theorem dw {t:TypeId} {ti:TI} (h:eG P t ti):(Go.sizeOf t).run P w= .ok ti.size w:=by
 obtain⟨_,i,z,hi,hs,_⟩:=h;simp [Go.sizeOf,typeInfo,hi,hs]
theorem FM {t:TypeId} {ti:TI} (h:eG P t ti): ∃i z,(typeInfo t).run P w= .ok i w/\P.info? t=some i/\i.size=ti.size/\i.bytes=ti.bytes/\i.zero=some z/\z.cells.toList=ti.zero:=by
 obtain⟨_,i,z,hi,h⟩:=h;exact⟨i,z,by simp [typeInfo,hi],hi,h⟩
theorem pK {t:TypeId} {ti:TI} (h:eG P t ti):(isAgg t).run P w= .ok ti.agg w:=by
 rw [isAgg,eC,aL h];simp only [eA,TI.agg];cases ti.d<;>rfl
theorem oG {t:TypeId} {ti:TI} (h:eG P t ti): ∃z,(zeroValue t).run P w= .ok z w/\z.cells.toList=ti.zero:=by
 obtain⟨i,z,h1,_,_,_,h2,h3⟩:=FM (w:=w) h;exact⟨z,by simp [zeroValue,h1,h2],h3⟩
theorem dZ (k off n:Nat):(⟨k,off,none⟩:Addr).add n=⟨k,off+n,none⟩:=by
 unfold Addr.add;split<;>simp_all
theorem mV {ad:Addr} (h:ad.spot=none) (n:Nat):ad.add n=⟨ad.block,ad.off+n,none⟩:=by
 cases ad;simp at h;subst h;exact dZ _ _ _
theorem iA {t:TypeId} {ti:TI} (ht:eG P t ti) {k off:Nat} {cs:List CV} {s:SV} (hs:jU ti.agg cs=some s) (hl:cs.length=ti.size)
  (hc: ∀j c,cs[j]? =some c-> ∃u,w.cell? ⟨k,off+j,none⟩=some u/\dK ρ F w c u): ∃v,(loadVar t ⟨k,off,none⟩).run P w= .ok v w/\fB ρ F w s v:=by
 have hex: ∃vs:List Value,bO ρ F w cs vs/\ ∀j v,vs[j]? =some v->w.cell? ⟨k,off+j,none⟩=some v:=by
  clear hl hs ht;induction cs generalizing off with
  |nil=>exact⟨[],trivial,by simp⟩
  |cons c cs ih=>
   obtain⟨u,hu,hr⟩:=hc 0 c rfl;obtain⟨vs,h1,h2⟩:=ih (off:=off+1) fun j c' hj=>by
    obtain⟨u',hu',hr'⟩:=hc (j+1) c' (by simpa using hj);exact⟨u',by rw [show off+1+j=off+(j+1) by omega];exact hu',hr'⟩
   refine⟨u::vs,⟨hr,h1⟩,fun j v hj=> ?_⟩;cases j with
   |zero=>simp at hj;subst hj;simpa using hu
   |succ j=>simp at hj;have:=h2 j v hj;rw [show off+(j+1)=off+1+j by omega];exact this
 obtain⟨vs,hv,hcell⟩:=hex;rw [loadVar,eC,pK ht];simp only [eA];cases hagg:ti.agg with
 |true=>
  rw [hagg]at hs;simp [jU]at hs;subst hs;refine⟨.agg vs.toArray, ?_,vs,rfl,hv⟩;simp only [if_true,eC,dw ht,eA];have:=run_loadCells_list (P:=P) (w:=w) ⟨k,off,none⟩ vs fun j v hj=>by rw [dZ];exact hcell j v hj
  rw [<-hl,<-hv.length];rw [this];simp
 |false=>
  rw [hagg]at hs
  match cs,hs,hl,vs,hv,hcell with
  |[c],hs,hl,[v],hv,hcell=>
   simp [jU]at hs;subst hs;refine⟨v, ?_,hv.1⟩;have:=hcell 0 v rfl;simp at this;simp [this]
end
section
variable {P:Program} {B:Base} {ρ ρ':Nat->Option Pl} {F F':Nat->Prop} {w w':World} {h:Hp} {o:Oper} {a:Act}
theorem bG.oneCell: ∀{x:DV} {v:Value},bG F w x v->v.oneCell'=true
 | .int _ _,_,e=>by cases e;rfl
 | .bool _,_,e=>by cases e;rfl
 | .str _,_,e=>by cases e;rfl
 | .nilp,_,e=>by cases e;rfl
 | .nilf,_,e=>by cases e;rfl
 | .nilm,_,e=>by cases e;rfl
 | .sl _ _ _ _,_,⟨_,_,e,_⟩=>by cases e;rfl
 | .ip _ _,_,⟨_,e,_⟩=>by cases e;rfl
 | .fn _ _ _,_,⟨_,e,_⟩=>by cases e;rfl
 | .fna _ _ _,_,⟨_,e,_⟩=>by cases e;rfl
theorem dK.oneCell: ∀{c:CV} {v:Value},dK ρ F w c v->v.oneCell'=true
 | .d _,_,e=>bG.oneCell e
 | .ptr _ _,_,⟨_,_,_,_,e⟩=>by cases e;rfl
 | .opt _ _ _ _,_,⟨_,_,_,_,e⟩=>by cases e;rfl
 | .own _ _ _,_, .inl ⟨_,_,_,_,e⟩=>by cases e;rfl
 | .own _ _ _,_, .inr ⟨_,_,_,e⟩=>by cases e;rfl
 | .mp _,_,⟨_,_,_,_,e⟩=>by cases e;rfl
 | .fn _ _ _ _,_,⟨_,e,_⟩=>by cases e;rfl
 | .yl _,_,⟨_,_,_,_,e⟩=>by cases e;rfl
theorem bO.oneCell: ∀{cs:List CV} {vs:List Value},bO ρ F w cs vs-> ∀u∈vs,u.oneCell'=true
 |[],[],_,_,h=>by simp at h
 |_::_,_::_,⟨h,t⟩,u,hu=>by
  rcases eh.1 hu with rfl|hu;·exact h.oneCell
  ·exact bO.oneCell t u hu
 |[],_::_,h,_,_=>h.elim
 |_::_,[],h,_,_=>h.elim
theorem xC {v:Value} (h:v.oneCell'=true):v.cells= #[v]:=by cases v<;>first|rfl|cases h
theorem fB.cells: ∀{s:SV} {v:Value},fB ρ F w s v->bO ρ F w (cellsOf s) v.cells.toList
 | .one c,v,h=>by rw [xC (dK.oneCell h)];exact⟨h,trivial⟩
 | .agg cs,_,⟨vs,e,h⟩=>by subst e;exact h
theorem oP.keep {k base cap E esz len:Nat} {el:Nat->Nat->DV} (g:Gr ρ F w ρ' F' w') (hb:w'.heap[k]? =w.heap[k]?) (h:oP F w k base cap E esz len el):oP F' w' k base cap E esz len el:=by
 obtain⟨vs,h1,h2,h3,h4,h5⟩:=h;exact⟨vs,hb ▸ h1,h2,h3,h4,fun i hi j hj=>by obtain⟨u,hu,hr⟩:=h5 i hi j hj;exact⟨u,hu,bG.gr g.fz g.mem hr⟩⟩
theorem fC.keep {S S':Nat->Prop} (g:Gr ρ F w ρ' F' w') (hS: ∀k,S k->S' k) (hb: ∀k,S k->w'.heap[k]? =w.heap[k]?) {rb:Option Nat}: ∀{x:EV} {v:Value},fC F w S rb x v->fC F' w' S' rb x v
 | .d _,_,h=>bG.gr g.fz g.mem h
 | .row _ _ _ _,_, .inl h=> .inl h
 | .row _ _ _ _,_, .inr ⟨k,base,cap,h1,h2,h3,h4⟩=> .inr ⟨k,base,cap,h1,hS k h2,h3,h4.keep g (hb k h2)⟩
theorem wC.keep {S S':Nat->Prop} (g:Gr ρ F w ρ' F' w') (hS: ∀k,S k->S' k) (hb: ∀k,S k->w'.heap[k]? =w.heap[k]?) {rb:Nat->Nat->Option Nat} {el:Nat->Nat->EV} {ov:Option (Nat × Nat × CV)} {i j:Nat} {v:Value}
  (h:wC ρ F w S rb el ov i j v):wC ρ' F' w' S' rb el ov i j v:=by
 unfold wC at h ⊢;split;·exact fC.keep g hS hb h
 ·rename_i i0 j0 c;by_cases e:i=i0/\j=j0
  ·rw [ci e];simp only [ci e]at h;exact h.gr g
  ·rw [ce e];simp only [ce e]at h;exact fC.keep g hS hb h
theorem uS.keep {S S':Nat->Prop} (g:Gr ρ F w ρ' F' w') (hS: ∀k,S k->S' k) (hb: ∀k,S k->w'.heap[k]? =w.heap[k]?) {rb:Nat->Option Nat} {E:TypeId} {l:List (Int × List Int)} {ov:Option (Int × CV)} {i:Nat} {v:Value}
  (h:uS ρ F w S rb E l ov i v):uS ρ' F' w' S' rb E l ov i v:=by
 unfold uS at h ⊢;split;·exact fC.keep g hS hb h
 ·rename_i n c;by_cases e:(l.getD i default).1=n
  ·rw [ci e];simp only [ci e]at h;exact h.gr g
  ·rw [ce e];simp only [ce e]at h;exact fC.keep g hS hb h
theorem rC.keep (g:Gr ρ F w ρ' F' w') {agg:Bool} {sz:Nat} {c:Nat->CV} {v:Value} (h:rC ρ F w agg sz c v):rC ρ' F' w' agg sz c v:=by
 obtain⟨s,h1,h2⟩:=h;exact⟨s,h1,h2.gr g⟩
theorem xA.mono {ρ ρ':Nat->Option Pl} {b b' k base cap l esz:Nat} (h:xA ρ b k base cap l esz) (g: ∀p,ρ b=some p->ρ' b'=some p):xA ρ' b' k base cap l esz:=by
 unfold xA at h ⊢;by_cases e:esz=0;·rw [ci e]at h ⊢;obtain⟨c,h⟩:=h;exact⟨c,g _ h⟩
 ·rw [ce e]at h ⊢;exact g _ h
theorem ig.keep {S S':Nat->Prop} (g:Gr ρ F w ρ' F' w') (hS: ∀k,S k->S' k) {b:Nat} (hb: ∀k,S k->w'.heap[k]? =w.heap[k]?): ∀{ob:Ob},ig ρ F w S b ob->ig ρ' F' w' S' b ob
 | .cells _ _,⟨k,cap,vs,h1,h0,h2,h3⟩=> ⟨k,cap,vs,g.rho _ _ h1,hS k h0,by rw [hb k h0];exact h2,h3.gr g⟩
 | .fcells _ _,⟨k,base,cap,h1,h2⟩=> ⟨k,base,cap,g.rho _ _ h1,fun j x hx=>by
   obtain⟨hf,u,hu,hr⟩:=h2 j x hx;exact⟨g.fz _ hf,u,by rw [cell_of_heap (g.mem _ hf)];exact hu,bG.gr g.fz g.mem hr⟩⟩
 | .frow _ _ _ _ _,⟨k,base,cap,h1,h0,h2⟩=> ⟨k,base,cap,g.rho _ _ h1,h0,fun i hi j hj=>by
   obtain⟨hf,u,hu,hr⟩:=h2 i hi j hj;exact⟨g.fz _ hf,u,by rw [cell_of_heap (g.mem _ hf)];exact hu,bG.gr g.fz g.mem hr⟩⟩
 | .arr _ _ _ _, .inl ⟨h1,h2⟩=> .inl ⟨g.rho _ _ h1,h2⟩
 | .arr _ _ _ _, .inr ⟨k,base,cap,h1,h0,h2⟩=> .inr ⟨k,base,cap,g.rho _ _ h1,hS k h0,h2.keep g (hb k h0)⟩
 | .rows _ _ _ _ _, .inl ⟨h1,h2⟩=> .inl ⟨g.rho _ _ h1,h2⟩
 | .rows _ _ _ _ _, .inr ⟨k,base,cap,vs,rb,h1,h0,h2,h3,h4,h5,h6,h7,h8⟩=> .inr ⟨k,base,cap,vs,rb,g.rho _ _ h1,hS k h0,by rw [hb k h0];exact h2,h3,h4,h5,fun i hi j hj=>by
   obtain⟨u,hu,hr⟩:=h6 i hi j hj;exact⟨u,hu,hr.keep g hS hb⟩,h7,h8⟩
 | .map _,⟨k,base,cap,es,h1,h0,h2,h3,h5,h4⟩=> ⟨k,base,cap,es,g.rho _ _ h1,hS k h0,by rw [hb k h0];exact h2,h3,h5,fun i hi=>by
   obtain⟨e,e1,e2,e3,e4⟩:=h4 i hi;exact⟨e,e1,e2,e3.keep g,e4.keep g⟩⟩
 | .loop _ _ _,⟨k,base,cap,fn,tmps,D,h1,h0,h2,h3,h4,h5⟩=> ⟨k,base,cap,fn,tmps,D,g.rho _ _ h1,hS k h0,h2,by rw [hb k h0];exact h3,h4,fun t tv ht=>by
   obtain⟨v,e1,e2⟩:=h5 t tv ht;exact⟨v,e1,e2.gr g⟩⟩
 | .coll,⟨k,base,cap,h1,h0,h2⟩=> ⟨k,base,cap,g.rho _ _ h1,hS k h0,by rw [hb k h0];exact h2⟩
 | .gm _ _ _ _ _,⟨k,base,cap,es,rb,h1,h0,h2,h3,h4,h5⟩=> ⟨k,base,cap,es,rb,g.rho _ _ h1,hS k h0,by rw [hb k h0];exact h2,h3,fun i hi=>by
   obtain⟨e,e1,e2,e3,e4⟩:=h4 i hi;exact⟨e,e1,e2,e3,e4.keep g hS hb⟩,h5⟩
 | .suf _ _ _, .inl ⟨h1,h2,h3⟩=> .inl ⟨g.rho _ _ h1,g.rho _ _ h2,h3⟩
 | .suf _ _ _, .inr ⟨k,base,cap,h1,h2,h3⟩=> .inr ⟨k,base,cap,g.rho _ _ h1,h2,h3.mono fun p=>g.rho _ _⟩
theorem GL.gr (g:Gr ρ F w ρ' F' w') (h:GL F w):GL F' w':=fun x hx=> ⟨g.fz _ (h x hx).1,by rw [g.mem _ (h x hx).1];exact(h x hx).2⟩
theorem mg.step {h':Hp} {ft ft':Nat->Nat->Prop} (hi:mg B ρ F w h ft) (g:Gr ρ F w ρ' F' w') (fr:Fr B ρ F w) (hsz:w.heap.size<=w'.heap.size) (C:Nat->Prop)
  (hk: ∀b ob, ¬ C b->h' b=some (some ob)->h b=some (some ob)/\(∀k,ft b k->w'.heap[k]? =w.heap[k]?)/\ ∀k,ft' b k↔ft b k)
  (hc: ∀b ob,C b->h' b=some (some ob)->ig ρ' F' w' (ft' b) b ob)
  (hcf: ∀b ob k,C b->h' b=some (some ob)->ft' b k->(∃b0 ob0,C b0/\h b0=some (some ob0)/\ft b0 k)\/(w.heap.size<=k/\k<w'.heap.size))
  (hdis: ∀b b' ob ob' k,C b->C b'->h' b=some (some ob)->h' b'=some (some ob')->ft' b k->ft' b' k->b=b')
  (hF: ∀k,F' k->F k\/((∃b0 ob0,C b0/\h b0=some (some ob0)/\ft b0 k)/\ ∀b ob,C b->h' b=some (some ob)-> ¬ ft' b k)\/(w.heap.size<=k/\ ∀b ob,C b->h' b=some (some ob)-> ¬ ft' b k))
  (hfresh: ∀b,h' b=none->ρ' b=none):mg B ρ' F' w' h' ft':=by
 have old: ∀b ob k,C b->h' b=some (some ob)->ft' b k->(∃b0 ob0,C b0/\h b0=some (some ob0)/\ft b0 k/\k<w.heap.size/\ ¬ F k/\(B.Ft k\/B.w.heap.size<=k))\/(w.heap.size<=k/\k<w'.heap.size):=fun b ob k hb hh hf=>by
  rcases hcf b ob k hb hh hf with⟨b0,ob0,c0,e0,f0⟩|hn;·obtain⟨x,y,z⟩:=hi.blk b0 ob0 k e0 f0;exact .inl ⟨b0,ob0,c0,e0,f0,x,y,z⟩
  ·exact .inr hn
 refine⟨fun b ob hb=> ?_,fun b ob k hb hf=> ?_,fun b1 b2 o1 o2 k h1 h2 f1 f2=> ?_,hfresh,hi.gl.gr g⟩
 ·by_cases c:C b
  ·exact hc b ob c hb
  ·obtain⟨e1,e2,e3⟩:=hk b ob c hb;exact(hi.obj b ob e1).keep g (fun k hk=>(e3 k).2 hk) e2
 ·by_cases c:C b
  ·rcases old b ob k c hb hf with⟨b0,ob0,c0,e0,f0,x,y,z⟩|⟨x,y⟩
   ·refine⟨by omega,fun hf'=> ?_,z⟩;rcases hF k hf' with q|⟨_,q⟩|⟨_,q⟩
    ·exact y q
    ·exact q b ob c hb hf
    ·exact q b ob c hb hf
   ·have hBs:=fr.size;refine⟨y,fun hf'=> ?_, .inr (by omega)⟩;rcases hF k hf' with q|⟨_,q⟩|⟨_,q⟩
    ·have:=(fr.fz k q).1;omega
    ·exact q b ob c hb hf
    ·exact q b ob c hb hf
  ·obtain⟨e1,e2,e3⟩:=hk b ob c hb;obtain⟨x,y,z⟩:=hi.blk b ob k e1 ((e3 k).1 hf);refine⟨by omega,fun hf'=> ?_,z⟩;rcases hF k hf' with q|⟨⟨b0,ob0,c0,e0,f0⟩,_⟩|⟨q,_⟩
   ·exact y q
   ·exact c (hi.dis b b0 ob ob0 k e1 e0 ((e3 k).1 hf) f0 ▸ c0)
   ·omega
 ·by_cases c1:C b1<;>by_cases c2:C b2
  ·exact hdis b1 b2 o1 o2 k c1 c2 h1 h2 f1 f2
  ·obtain⟨e1,e2,e3⟩:=hk b2 o2 c2 h2;rcases old b1 o1 k c1 h1 f1 with⟨b0,ob0,c0,e0,f0,_⟩|⟨x,y⟩
   ·exact absurd (hi.dis b2 b0 o2 ob0 k e1 e0 ((e3 k).1 f2) f0 ▸ c0) c2
   ·have:=(hi.blk b2 o2 k e1 ((e3 k).1 f2)).1;omega
  ·obtain⟨e1,e2,e3⟩:=hk b1 o1 c1 h1;rcases old b2 o2 k c2 h2 f2 with⟨b0,ob0,c0,e0,f0,_⟩|⟨x,y⟩
   ·exact absurd (hi.dis b1 b0 o1 ob0 k e1 e0 ((e3 k).1 f1) f0 ▸ c0) c1
   ·have:=(hi.blk b1 o1 k e1 ((e3 k).1 f1)).1;omega
  ·obtain⟨e1,_,e3⟩:=hk b1 o1 c1 h1;obtain⟨e2,_,e4⟩:=hk b2 o2 c2 h2;exact hi.dis b1 b2 o1 o2 k e1 e2 ((e3 k).1 f1) ((e4 k).1 f2)
def bN (ρ:Nat->Option Pl) (b:Nat) (p:Pl):Nat->Option Pl:=fun b'=>if b'=b then some p else ρ b'
theorem ay (b:Nat) (p:Pl):bN ρ b p b=some p:=by simp [bN]
theorem aS {b:Nat} {p:Pl} (hb:ρ b=none): ∀b' p',ρ b'=some p'->bN ρ b p b'=some p':=by
 intro b' p' h;unfold bN;split;·rename_i e;subst e;rw [hb]at h;cases h
 ·exact h
structure Push (w w':World) (ob:Obj):Prop where
 heap:w'.heap=w.heap.push ob
 os:w'.os=w.os
 tape:w'.tape=w.tape
 output:OD w' w
theorem Push.alloc (w:World) (ob:Obj):Push w (w.alloc ob) ob:=⟨rfl,rfl,rfl,⟨rfl,trivial⟩⟩
theorem Push.sH (w:World) (ob:Obj):Push w (w.drew.alloc ob) ob:=⟨rfl,rfl,rfl,⟨rfl,trivial⟩⟩
theorem Push.old {ob:Obj} (p:Push w w' ob) {k:Nat} (hk:k<w.heap.size):w'.heap[k]? =w.heap[k]? :=by
 rw [p.heap,eK];split;·omega
 ·rfl
theorem Push.new {ob:Obj} (p:Push w w' ob):w'.heap[w.heap.size]? =some ob:=by rw [p.heap];simp
theorem Push.sz {ob:Obj} (p:Push w w' ob):w'.heap.size=w.heap.size+1:=by rw [p.heap];simp
theorem Push.gr {ob:Obj} (p:Push w w' ob) (fr:Fr B ρ F w) {b:Nat} {pl:Pl} (hb:ρ b=none):Gr ρ F w (bN ρ b pl) F w':=
 ⟨aS hb,fun _ h=>h,fun k hk=>p.old (fr.fz k hk).1⟩
theorem Push.fr {ob:Obj} (p:Push w w' ob) (fr:Fr B ρ F w) {b:Nat} {pl:Pl} (hb:ρ b=none):Fr B (bN ρ b pl) F w' where
 os:=p.os.trans fr.os
 tape:=p.tape.trans fr.tape
 output:=p.output.trans fr.output
 size:=by have:=fr.size;rw [p.sz];omega
 mem:=fun k hk hn=>(p.old (by have:=fr.size;omega)).trans (fr.mem k hk hn)
 rho:=fun b' p' e=>aS hb b' p' (fr.rho b' p' e)
 fz:=fun k hk=> ⟨by have:=(fr.fz k hk).1;rw [p.sz];omega,(fr.fz k hk).2⟩
 bf:=fr.bf
theorem iZ (b:Nat) (x:Option Ob) (b':Nat):upd h [(b,x)] b'=if b=b' then some x else h b':=by
 by_cases e:b=b'<;>simp [upd,aC,get_nil,e]
theorem wT (b:Nat) (x:Option Ob) (c:Nat) (y:Option Ob) (b':Nat):upd h [(b,x),(c,y)] b'=if b=b' then some x else if c=b' then some y else h b':=by
 by_cases e:b=b'<;>by_cases e':c=b'<;>simp [upd,aC,get_nil,e,e']
theorem zM {hd:List (Nat × Option Ob)} {b:Nat}:upd h hd b=match get hd b with|some o=>some o|none=>h b:=rfl
def qa (ft:Nat->Nat->Prop) (b:Nat) (S:Nat->Prop):Nat->Nat->Prop:=fun b'=>if b'=b then S else ft b'
theorem bB (ft:Nat->Nat->Prop) (b:Nat) (S:Nat->Prop):qa ft b S b=S:=by simp [qa]
theorem eY {ft:Nat->Nat->Prop} {b b':Nat} {S:Nat->Prop} (e:b'≠b):qa ft b S b'=ft b':=by simp [qa,e]
theorem Push.hi {ob:Obj} (p:Push w w' ob) (fr:Fr B ρ F w) (hi:HI B ρ F w h) {b base cap:Nat} {nob:Ob} (hb:h b=none)
  (hr:ig (bN ρ b (.blk w.heap.size base cap)) F w' (fun k=>k=w.heap.size) b nob):HI B (bN ρ b (.blk w.heap.size base cap)) F w' (upd h [(b,some nob)]):=by
 have hρ:=hi.fresh b hb;obtain⟨ft,hi⟩:=hi;have g:=p.gr fr (pl:= .blk w.heap.size base cap) hρ;have hu: ∀b',upd h [(b,some nob)] b'=if b=b' then some (some nob)else h b':=fun b'=>iZ _ _ _
 have hns: ∀ob0, ¬ h b=some (some ob0):=fun ob0 e=>by rw [hb]at e;cases e
 refine⟨qa ft b fun k=>k=w.heap.size,hi.step g fr (by rw [p.sz];omega) (fun b'=>b'=b) (fun b' ob' e hh=> ?_) (fun b' ob' e hh=> ?_) (fun b' ob' k e hh hf=> ?_) (fun b1 b2 o1 o2 k e1 e2 _ _ _ _=>e1.trans e2.symm) (fun k hk=> .inl hk) fun b' hh=> ?_⟩
 ·rw [hu,ce (Ne.symm e)]at hh;refine⟨hh,fun k hk=>p.old (hi.blk b' ob' k hh hk).1,fun k=>by rw [eY e]⟩
 ·subst e;rw [hu,ci rfl]at hh;cases hh;rw [bB];exact hr
 ·subst e;rw [bB]at hf;subst hf;exact .inr ⟨cx _,by rw [p.sz];omega⟩
 ·rw [hu]at hh;split at hh
  ·cases hh
  ·rename_i e;rw [show bN ρ b (.blk w.heap.size base cap) b'=ρ b' by simp [bN,Ne.symm e]];exact hi.fresh b' hh
structure Put (w w':World) (k:Nat):Prop where
 size:w'.heap.size=w.heap.size
 old: ∀j,j≠k->w'.heap[j]? =w.heap[j]?
 os:w'.os=w.os
 tape:w'.tape=w.tape
 output:OD w' w
theorem Put.setRow (w:World) (k:Nat) (cs:Array Value):Put w (w.setRow k cs) k:=⟨by simp,fun j hj=>setRow_other w k j cs hj,rfl,rfl,⟨rfl,trivial⟩⟩
theorem Put.gr {k:Nat} (p:Put w w' k) (hk: ¬ F k):Gr ρ F w ρ F w':=⟨fun _ _ h=>h,fun _ h=>h,fun j hj=>p.old j fun e=>hk (e ▸ hj)⟩
theorem Put.fr {k:Nat} (p:Put w w' k) (fr:Fr B ρ F w) (ho:B.Ft k\/B.w.heap.size<=k):Fr B ρ F w' where
 os:=p.os.trans fr.os
 tape:=p.tape.trans fr.tape
 output:=p.output.trans fr.output
 size:=by rw [p.size];exact fr.size
 mem:=fun j hj hn=>(p.old j fun e=>by
  subst e;rcases ho with hb|hle;·exact hn hb
  ·omega).trans (fr.mem j hj hn)
 rho:=fr.rho
 fz:=fun j hj=>by rw [p.size];exact fr.fz j hj
 bf:=fr.bf
theorem Put.hi {k:Nat} (p:Put w w' k) (fr:Fr B ρ F w) {ft:Nat->Nat->Prop} (hi:mg B ρ F w h ft) {b:Nat} {ob nob:Ob} {S:Nat->Prop} (hb:h b=some (some ob)) (hk:ft b k) (hS: ∀k,S k->ft b k)
  (hr:ig ρ F w' S b nob):mg B ρ F w' (upd h [(b,some nob)]) (qa ft b S):=by
 have hkk:=(hi.blk b ob k hb hk).2.1;have hu: ∀b',upd h [(b,some nob)] b'=if b=b' then some (some nob)else h b':=fun b'=>iZ _ _ _
 refine hi.step (p.gr hkk) fr (by rw [p.size];omega) (fun b'=>b'=b) (fun b' ob' e hh=> ?_) (fun b' ob' e hh=> ?_) (fun b' ob' k e hh hf=> ?_) (fun b1 b2 o1 o2 k e1 e2 _ _ _ _=>e1.trans e2.symm) (fun k hk=> .inl hk) fun b' hh=> ?_
 ·rw [hu,ce (Ne.symm e)]at hh;exact⟨hh,fun k' hk'=>p.old k' fun e'=>e (hi.dis b' b ob' ob k hh hb (e' ▸ hk') hk),fun k=>by rw [eY e]⟩
 ·subst e;rw [hu,ci rfl]at hh;cases hh;rw [bB];exact hr
 ·subst e;rw [bB]at hf;exact .inl ⟨b',ob,rfl,hb,hS k hf⟩
 ·rw [hu]at hh;split at hh
  ·cases hh
  ·exact hi.fresh b' hh
theorem mg.drop {ft:Nat->Nat->Prop} (hi:mg B ρ F w h ft) (b:Nat):mg B ρ F w (upd h [(b,none)]) ft:=by
 have hu: ∀b',upd h [(b,none)] b'=if b=b' then some none else h b':=by
  intro b';exact iZ _ _ _
 have hne: ∀b' ob',upd h [(b,none)] b'=some (some ob')->h b'=some (some ob'):=fun b' ob' hh=>by
  rw [hu]at hh;split at hh;·cases hh
  ·exact hh
 refine⟨fun b' ob' hh=>hi.obj b' ob' (hne _ _ hh),fun b' ob' k hh=>hi.blk b' ob' k (hne _ _ hh),fun b1 b2 o1 o2 k h1 h2=>hi.dis b1 b2 o1 o2 k (hne _ _ h1) (hne _ _ h2),fun b' hh=> ?_,hi.gl⟩;rw [hu]at hh;split at hh;·cases hh
 ·exact hi.fresh b' hh
theorem HI.drop (hi:HI B ρ F w h) (b:Nat):HI B ρ F w (upd h [(b,none)]):=by
 obtain⟨ft,hi⟩:=hi;exact⟨ft,hi.drop b⟩
theorem fJ (c:Nat->DV): ∀i n,(takeC c i n).length=n
 |_,0=>rfl
 |i,n+1=>by simp [takeC,fJ c (i+1) n]
theorem ku (c:Nat->DV): ∀i n j x,(takeC c i n)[j]? =some x->j<n/\x= .d (c (i+j))
 |_,0,j,x,h=>by simp [takeC]at h
 |i,n+1,j,x,h=>by
  cases j with
  |zero=>simp [takeC]at h;exact⟨by omega,h.symm⟩
  |succ j=>
   simp [takeC]at h;obtain⟨h1,h2⟩:=ku c (i+1) n j x h;exact⟨by omega,by rw [h2];congr 2;omega⟩
end
section
variable {P:Program} {B:Base} {ρ ρ':Nat->Option Pl} {F F':Nat->Prop} {w w':World} {h:Hp} {o:Oper} {a:Act} {T:List (Nat × TI)}
theorem bS {k:Nat} {vs:List Value} {E:TypeId} {fr:Nat × Nat} (hk:w.heap[k]? =some (.cells vs.toArray E fr)) (j:Nat):w.cell? ⟨k,j,none⟩=vs[j]? :=by
 simp [World.cell?,hk]
theorem wS {t:TypeId} {x:Operand} (hop:o.op= .load t x) {v:Value} {ad:Addr} (hx:a.eval x= .pointer (some ad)) (hl:(loadVar t ad).run P w= .ok v w):
  (execOp a.eval o).run P w= .ok (.value v) w:=by
 simp [execOp,hop,Instr.loadAt,Instr.sureAddr,hx,hl]
theorem GD {c:Nat->EV}: ∀{i n:Nat} {ds:List DV},KG c i n=some ds->ds.length=n/\ ∀j x,ds[j]? =some x->c (i+j)= .d x
 |_,0,ds,h=>by simp [KG]at h;subst h;simp
 |i,n+1,ds,h=>by
  simp only [KG]at h;split at h
  ·rename_i x l h1 h2;cases h;obtain⟨e1,e2⟩:=GD h2;refine⟨by simp [e1],fun j y hj=> ?_⟩;cases j with
   |zero=>simp at hj;subst hj;exact h1
   |succ j=>simp at hj;have:=e2 j y hj;rw [show i+(j+1)=i+1+j by omega];exact this
  ·cases h
theorem Js {t:TypeId} {x:Operand} {ti:TI} {xa:TV} {va:Value} {obs:List (Option (Option Ob))} {E:Eff} (ht:eG P t ti) (he:zJ ti xa obs=some E) (hc:All E.conds)
  (hobs:obs=(foot .none 0 (.load t x) [xa]).map h) (hi:HI B ρ F w h) (hx:bE ρ F w xa va):E.hd=[]/\ ∃ad v,va= .pointer (some ad)/\(loadVar t ad).run P w= .ok v w/\bE ρ F w E.tv v:=by
 obtain⟨ft,hi⟩:=hi;have cellsAt: ∀{k:Nat} {vs:List Value} {E:TypeId} {cs:List CV} {off:Nat} {s:SV},w.heap[k]? =some (.cells vs.toArray E (0,0))->bO ρ F w cs vs->off+ti.size<=cs.length->jU ti.agg ((cs.drop off).take ti.size)=some s->
   ∃v,(loadVar t ⟨k,off,none⟩).run P w= .ok v w/\bE ρ F w (.v s) v:=by
  intro k vs E cs off s h2 h3 hle hsv;exact iA (P:=P) (ρ:=ρ) (F:=F) (w:=w) ht hsv (by simp;omega) (k:=k) (off:=off) fun j cv hj=>by
   rw [List.getElem?_take]at hj;split at hj
   ·rw [List.getElem?_drop]at hj;obtain⟨u,hu,hr⟩:=h3.get hj;exact⟨u,by rw [bS h2];exact hu,hr⟩
   ·cases hj
 unfold zJ at he;split at he
 ·-- immutable cells
  rename_i n c;obtain⟨ad,hv,hs,hcell⟩:=hx;cases hb:Nat.ble ti.size n with
  |false=>simp [hb]at he
  |true=>
   simp only [hb,bt]at he;have hle:=cj hb;split at he
   ·rename_i s hsv;cases he;obtain⟨ak,aoff,asp⟩:=ad;simp at hs;subst hs;obtain⟨v,h1,h2⟩:=iA (P:=P) (ρ:=ρ) (F:=F) (w:=w) ht hsv (fJ c 0 ti.size) (k:=ak) (off:=aoff) fun j cv hj=>by
     obtain⟨hlt,rfl⟩:=ku c 0 ti.size j cv hj;obtain⟨_,u,hu,hr⟩:=hcell j (by omega);exact⟨u,hu,by rw [cC];exact hr⟩
    exact⟨rfl,_,v,hv,h1,h2⟩
   ·cases he
 ·-- an object's cells
  rename_i b off E' cs;obtain⟨k,base,cap,hk,hv⟩:=hx;cases hb:Nat.ble (off+ti.size) cs.length with
  |false=>simp [hb]at he
  |true=>
   simp only [hb,bt]at he;have hle:=cj hb;split at he
   ·rename_i s hsv;cases he;simp [foot]at hobs;obtain⟨k',cap',vs,h1,h0,h2,h3⟩:=hi.obj b _ hobs.symm;rw [hk]at h1;cases h1;obtain⟨v,g1,g2⟩:=cellsAt h2 h3 hle hsv;rw [cC]at hv;exact⟨rfl,_,v,hv,g1,g2⟩
   ·cases he
 ·rename_i b esz i off E' esz' len el;obtain⟨k,base,cap,hk,hv⟩:=hx;cases hb:(Nat.beq esz esz' && Nat.ble (off+ti.size) esz)with
  |false=>
   simp only [hb,bu]at he;cases hb2:(Nat.beq esz 1 && Nat.beq esz' 1 && Nat.beq off 0)with
   |false=>simp [hb2]at he
   |true=>
    simp only [hb2,bt]at he;simp only [cd]at hb2;have e1:=bv hb2.1.1;have e2:=bv hb2.1.2;have e3:=bv hb2.2;subst e1;subst e2;subst e3;split at he
    ·rename_i s hsv;cases he;simp [foot]at hobs;obtain⟨hlt,hl1,_⟩:=hc;rcases hi.obj b _ hobs.symm with⟨_,h0⟩|⟨k',base',cap',h1,h0,vs,h2,h3,h4,h5,h6⟩
     ·omega
     ·rw [hk]at h1;cases h1;obtain⟨v,g1,g2⟩:=iA (P:=P) (ρ:=ρ) (F:=F) (w:=w) ht hsv (fJ _ _ _) (k:=k) (off:=base+(i*1+0)) fun j cv hj=>by
       obtain⟨hlt',rfl⟩:=ku _ 0 ti.size j cv hj;obtain⟨u,hu,hr⟩:=h6 (i+j) (by omega) 0 (by omega);exact⟨u,by rw [bS h2,show base+(i*1+0)+j=base+((i+j)*1+0) by omega];exact hu,by rw [cC];exact hr⟩
      exact⟨rfl,_,v,hv,g1,g2⟩
    ·cases he
  |true=>
   simp only [hb,bt]at he;simp only [cd]at hb;have he1:=bv hb.1;have hle:=cj hb.2;subst he1;split at he
   ·rename_i s hsv;cases he;simp [foot]at hobs;obtain⟨hlt,_⟩:=hc;rcases hi.obj b _ hobs.symm with⟨_,h0⟩|⟨k',base',cap',h1,h0,vs,h2,h3,h4,h5,h6⟩
    ·omega
    ·rw [hk]at h1;cases h1;obtain⟨v,g1,g2⟩:=iA (P:=P) (ρ:=ρ) (F:=F) (w:=w) ht hsv (fJ _ _ _) (k:=k) (off:=base+(i*esz+off)) fun j cv hj=>by
      obtain⟨hlt',rfl⟩:=ku _ off ti.size j cv hj;obtain⟨u,hu,hr⟩:=h6 i hlt (off+j) (by omega);exact⟨u,by rw [bS h2,show base+(i*esz+off)+j=base+(i*esz+(off+j)) by omega];exact hu,hr⟩
     exact⟨rfl,_,v,hv,g1,g2⟩
   ·cases he
 ·rename_i b esz i off E' cs;obtain⟨k,base,cap,hk,hv⟩:=hx;cases hb:Nat.ble (i*esz+off+ti.size) cs.length with
  |false=>simp [hb]at he
  |true=>
   simp only [hb,bt]at he;have hle:=cj hb;split at he
   ·rename_i s hsv;cases he;simp [foot]at hobs;obtain⟨k',cap',vs,h1,h0,h2,h3⟩:=hi.obj b _ hobs.symm;rw [hk]at h1;cases h1;obtain⟨v,g1,g2⟩:=cellsAt h2 h3 hle hsv;rw [cC]at hv;exact⟨rfl,_,v,hv,g1,g2⟩
   ·cases he
 ·rename_i b off E' ds;obtain⟨k,base,cap,hk,hv⟩:=hx;cases hb:Nat.ble (off+ti.size) ds.length with
  |false=>simp [hb]at he
  |true=>
   simp only [hb,bt]at he;have hle:=cj hb;split at he
   ·rename_i s hsv;cases he;simp [foot]at hobs;obtain⟨k',base',cap',h1,h2⟩:=hi.obj b _ hobs.symm;rw [hk]at h1;cases h1;obtain⟨v,g1,g2⟩:=iA (P:=P) (ρ:=ρ) (F:=F) (w:=w) ht hsv (by simp;omega) (k:=k) (off:=base+off) fun j cv hj=>by
     rw [dj,List.getElem?_take]at hj;split at hj
     ·rw [List.getElem?_drop]at hj;cases hd:ds[off+j]? with
      |none=>rw [hd]at hj;cases hj
      |some x=>
       rw [hd]at hj;cases hj;obtain⟨_,u,hu,hr⟩:=h2 _ x hd;exact⟨u,by rw [ec];exact hu,hr⟩
     ·cases hj
    exact⟨rfl,_,v,hv,g1,g2⟩
   ·cases he
 ·rename_i b esz i off E' esz' len el ov;obtain⟨k,base,cap,hk,hv⟩:=hx;cases hb:(Nat.beq esz esz' && Nat.ble (off+ti.size) esz && LV off ti.size ov)with
  |false=>simp [hb]at he
  |true=>
   simp only [hb,bt]at he;simp only [cd]at hb;have he1:=bv hb.1.1;have hle:=cj hb.1.2;have hov:=hb.2;subst he1;split at he
   ·rename_i ds hds;obtain⟨d1,d2⟩:=GD hds;split at he
    ·rename_i s hsv;cases he;simp [foot]at hobs;obtain⟨hlt,_⟩:=hc;rcases hi.obj b _ hobs.symm with⟨_,h0⟩|⟨k',base',cap',vs,rb,h1,h0,h2,h3,h4,h5,h6,h7⟩
     ·omega
     ·rw [hk]at h1;cases h1;obtain⟨v,g1,g2⟩:=iA (P:=P) (ρ:=ρ) (F:=F) (w:=w) ht hsv (by simp [d1]) (k:=k) (off:=base+(i*esz+off)) fun j cv hj=>by
       rw [dj]at hj;cases hd:ds[j]? with
       |none=>rw [hd]at hj;cases hj
       |some x=>
        rw [hd]at hj;cases hj;have hjl:j<ds.length:=(List.getElem?_eq_some_iff.1 hd).1;obtain⟨u,hu,hr⟩:=h6 i hlt (off+j) (by omega);refine⟨u,by rw [bS h2,show base+(i*esz+off)+j=base+(i*esz+(off+j)) by omega];exact hu, ?_⟩;have hel:=d2 j x hd;have hV:fC F w (ft b) (rb i (off+j)) (el i (off+j)) u:=by
         unfold wC at hr;split at hr;·exact hr
         ·rename_i i0 j0 c0;simp only [LV,cN]at hov;have hne: ¬ (i=i0/\off+j=j0):=fun hh=>by
           rcases hov with q|q;·have:=cj q;omega
           ·have:=cj q;omega
          rw [ce hne]at hr;exact hr
        rw [hel]at hV;exact hV
      exact⟨rfl,_,v,hv,g1,g2⟩
    ·cases he
   ·cases he
 ·cases he
theorem Lb {t:TypeId} {x:Operand} {ti:TI} {xa:TV} {obs:List (Option (Option Ob))} {E:Eff} (ht:eG P t ti) (hop:o.op= .load t x) (he:zJ ti xa obs=some E) (hc:All E.conds)
  (hobs:obs=(foot .none 0 (.load t x) [xa]).map h) (fr:Fr B ρ F w) (hi:HI B ρ F w h) (hx:bE ρ F w xa (a.eval x)):Good P B ρ F w h o a E.tv E.hd:=by
 obtain⟨h0,ad,v,h1,h2,h3⟩:=Js (x:=x) ht he hc hobs hi hx;rw [h0];exact aH fr hi (wS hop h1 h2) h3
theorem yT {t:TypeId} {x y:Operand} {ti:TI} (ht:eG P t ti) (hop:o.op= .store t x y) {k off:Nat} {cur:List Value} {E:TypeId} (hx:a.eval x= .pointer (some ⟨k,off,none⟩))
  (hk:w.heap[k]? =some (.cells cur.toArray E (0,0))) {news:List Value} (hn:(a.eval y).cells.toList=news) (hl:news.length=ti.size) (hle:off+ti.size<=cur.length) (h1: ∀v∈news,v.oneCell'=true):
  (execOp a.eval o).run P w= .ok .skip (w.setRow k (cur.take off++news++cur.drop (off+ti.size)).toArray):=by
 have hs:=run_storeCells_at (P:=P) k off E news 0 cur.toArray w hk (by simp;omega) h1;have hsz:(a.eval y).cells.size=ti.size:=by rw [<-hl,<-hn];simp
 simp only [Nat.add_zero]at hs;simp only [execOp,hop,Instr.storeAt,Instr.sureAddr,hx,eC,Sem.run_pure,eA,storeVar,dw ht,hsz,ne_eq,not_true_eq_false,if_false];rw [hn,hs,hl];rfl
theorem dh {α:Type} (cur news:List α) (off:Nat) (hle:off+news.length<=cur.length) (j:Nat):
  (cur.take off++news++cur.drop (off+news.length))[j]? =if j<off then cur[j]? else if j<off+news.length then news[j - off]? else cur[j]? :=by
 have h0:(cur.take off).length=off:=by simp;omega
 rw [cQ,List.getElem?_append,h0];split;·rename_i hj;rw [List.getElem?_take,ci hj]
 ·rw [List.getElem?_append];split
  ·rw [ci (by omega)]
  ·rw [ce (by omega),List.getElem?_drop];congr 1;omega
theorem bO.splice: ∀{cs:List CV} {vs:List Value} {off:Nat} {cn:List CV} {vn:List Value},bO ρ F w cs vs->bO ρ F w cn vn->off+cn.length<=cs.length->
  bO ρ F w (cs.take off++cn++cs.drop (off+cn.length)) (vs.take off++vn++vs.drop (off+vn.length)):=by
 intro cs vs off cn vn h1 h2 hle;have l1:=h1.length;have l2:=h2.length;refine bO.jJ (by simp;omega) fun j c hj=> ?_;rw [dh _ _ _ hle]at hj;rw [dh _ _ _ (by omega),l2];split at hj;·rename_i e;rw [ci e];exact h1.get hj
 ·rename_i e;rw [ce e];split at hj
  ·rename_i e2;rw [ci e2];exact h2.get hj
  ·rename_i e2;rw [ce e2];exact h1.get hj
theorem gF: ∀{cs:List CV} {ds:List DV},o8 cs=some ds->cs=ds.map .d
 |[],ds,hh=>by simp [o8]at hh;subst hh;rfl
 | .d x::cs,ds,hh=>by
  simp only [o8]at hh;split at hh;·rename_i l hl;cases hh;simp [gF hl]
  ·cases hh
 | .ptr _ _::_,_,hh=>by simp [o8]at hh
 | .opt _ _ _ _::_,_,hh=>by simp [o8]at hh
 | .own _ _ _::_,_,hh=>by simp [o8]at hh
 | .mp _::_,_,hh=>by simp [o8]at hh
 | .fn _ _ _ _::_,_,hh=>by simp [o8]at hh
 | .yl _::_,_,hh=>by simp [o8]at hh
theorem idx_eq {i i' j esz:Nat} {off n:Nat} (hj:j<esz) (h1:i*esz+off<=i'*esz+j) (h2:i'*esz+j<i*esz+off+n) (hn:off+n<=esz):i'=i/\off<=j/\j<off+n:=by
 have d0:i'=i:=by
  have d1:(i'*esz+j) / esz=i':=by rw [ed,Nat.mul_add_div (by omega),Nat.div_eq_of_lt hj];omega
  have d2:(i'*esz+j) / esz=i:=by
   have:i'*esz+j=i*esz+(i'*esz+j - i*esz):=by omega
   have e3: ∀r,r<esz->(i*esz+r) / esz=i:=fun r hr=>by rw [ed,Nat.mul_add_div (by omega),Nat.div_eq_of_lt hr];omega
   rw [this];exact e3 _ (by omega)
  omega
 subst d0;exact⟨rfl,by omega,by omega⟩
theorem row_in {i len cap esz off n:Nat} (h1:i<len) (h2:len<=cap) (h3:off+n<=esz):i*esz+off+n<=cap*esz:=by
 have:(i+1)*esz<=cap*esz:=cG _ (by omega);rw [ee,ef]at this;omega
theorem Ci {t:TypeId} {x y:Operand} {ti:TI} {xa xv:TV} {an:iJ} {obs:List (Option (Option Ob))} {E:Eff} (ht:eG P t ti) (hop:o.op= .store t x y) (he:vG an ti xa xv obs=some E) (hc:All E.conds)
  (hobs:obs=(foot .none 0 (.store t x y) [xa,xv]).map h) (fr:Fr B ρ F w) (hi:HI B ρ F w h) (hx:bE ρ F w xa (a.eval x)) (hy:bE ρ F w xv (a.eval y)):Good P B ρ F w h o a E.tv E.hd:=by
 obtain⟨ft,hi⟩:=hi;have cellsAt: ∀{b k cap off:Nat} {cs:List CV} {E':TypeId} {s:SV},h b=some (some (.cells E' cs))->ρ b=some (.blk k 0 cap)->a.eval x= .pointer (some ⟨k,off,none⟩)->fB ρ F w s (a.eval y)->(cellsOf s).length=ti.size->off+ti.size<=cs.length->
   Good P B ρ F w h o a (.eB []) [(b,some (.cells E' (cs.take off++cellsOf s++cs.drop (off+ti.size))))]:=by
  intro b k cap off cs E' s hob hk hv hy he1 hle;obtain⟨k',cap',vs,h1,h0,h2,h3⟩:=hi.obj b _ hob;rw [hk]at h1;cases h1;have hys:=hy.cells;have l1:=h3.length;have l2:=hys.length;have hblk:=hi.blk b _ k hob h0;have hrun:=yT ht hop hv h2 rfl (by omega) (by omega) hys.oneCell;have pt:=Put.setRow w k (vs.take off++(a.eval y).cells.toList++vs.drop (off+ti.size)).toArray;refine oF (pt.gr hblk.2.1) (pt.fr fr hblk.2.2) ⟨_,pt.hi fr hi hob h0 (fun _ h=>h) ?_⟩ hrun;refine⟨k,cap,_,hk,h0,setRow_heap w k _ _ E' (0,0) h2, ?_⟩;have:=bO.splice h3 hys (off:=off) (by omega);rw [l2,he1]at this;exact this.gr (pt.gr hblk.2.1)
 unfold vG at he;split at he
 ·rename_i b off s E' cs;obtain⟨k,base,cap,hk,hv⟩:=hx;cases hb:(Nat.beq (cellsOf s).length ti.size && Nat.ble (off+ti.size) cs.length)with
  |false=>simp [hb]at he
  |true=>
   simp only [hb,bt]at he;simp only [cd]at hb;have he1:=bv hb.1;have hle:=cj hb.2;cases he;simp [foot]at hobs;have hob:=hobs.symm;obtain⟨k',cap',vs,h1,_⟩:=hi.obj b _ hob;rw [hk]at h1;cases h1;rw [cC]at hv;exact cellsAt hob hk hv hy he1 hle
 ·rename_i b esz i off s E' cs;obtain⟨k,base,cap,hk,hv⟩:=hx;cases hb:(Nat.beq (cellsOf s).length ti.size && Nat.ble (i*esz+off+ti.size) cs.length)with
  |false=>simp [hb]at he
  |true=>
   simp only [hb,bt]at he;simp only [cd]at hb;have he1:=bv hb.1;have hle:=cj hb.2;cases he;simp [foot]at hobs;have hob:=hobs.symm;obtain⟨k',cap',vs,h1,_⟩:=hi.obj b _ hob;rw [hk]at h1;cases h1;rw [cC]at hv;exact cellsAt hob hk hv hy he1 hle
 ·rename_i b esz i off s E' esz' len el;obtain⟨k,base,cap,hk,hv⟩:=hx;split at he
  ·rename_i el' ds hcs;cases hb:(Nat.beq esz esz' && Nat.ble (off+ds.length) esz && Nat.beq ds.length ti.size && Nat.ble 1 ti.size)with
   |false=>simp [hb]at he
   |true=>
    simp only [hb,bt]at he;simp only [cd]at hb;have he1:=bv hb.1.1.1;have hle:=cj hb.1.1.2;have hsz:=bv hb.1.2;have hpos:=cj hb.2;subst he1;cases he;obtain⟨hlt,heq,_⟩:=hc;simp [foot]at hobs;have hob:=hobs.symm;rcases hi.obj b _ hob with⟨h0,h0'⟩|⟨k',base',cap',h1,h0,vs,h2,h3,h4,h5,h6⟩;·omega
    ·rw [hk]at h1;cases h1;have hys:=hy.cells;have l2':=hys.length;rw [gF hcs]at hys;have l2:=hys.length;rw [dg]at l2;have hblk:=hi.blk b _ k hob h0;have hin:=row_in hlt h4 hle;have hrun:=yT ht hop hv h2 rfl (by rw [<-hsz];exact l2) (by omega) hys.oneCell;have pt:=Put.setRow w k (vs.take (base+(i*esz+off))++(a.eval y).cells.toList++vs.drop (base+(i*esz+off)+ti.size)).toArray;refine oF (pt.gr hblk.2.1) (pt.fr fr hblk.2.2) ⟨_,pt.hi fr hi hob h0 (fun _ h=>h) ?_⟩ hrun;refine .inr ⟨k,base,cap,hk,h0,_,setRow_heap w k _ _ E' (0,0) h2, ?_,h4,h5,fun i' hi' j hj=> ?_⟩
     ·simp only [b_,d7,d8,l2];omega
     ·rw [<-heq i' hi' j hj];have hlook:=dh vs (a.eval y).cells.toList (base+(i*esz+off)) (by omega) (base+(i'*esz+j));rw [l2]at hlook;rw [<-hsz,hlook];obtain⟨u,hu,hr⟩:=h6 i' hi' j hj;have hr':=bG.gr (pt.gr (ρ:=ρ) hblk.2.1).fz (pt.gr (ρ:=ρ) hblk.2.1).mem hr;rw [<-hsz]at hr';unfold bW;by_cases e:i'=i/\off<=j/\j<off+ds.length
      ·obtain⟨rfl,e1,e2⟩:=e;obtain⟨u0,hu0,hr0⟩:=hys.get (j:=j - off) (c:= .d (ds.getD (j - off) .nilp)) (by
        rw [dj,cS,cR (by omega)];rfl)
       have hr0':=dK.gr (pt.gr (ρ:=ρ) hblk.2.1) hr0;rw [<-hsz]at hr0';rw [ce (by omega),ci (by omega),ci ⟨rfl,e1,e2⟩];exact⟨u0,by rw [show base+(i'*esz+j) - (base+(i'*esz+off))=j - off by omega];exact hu0,hr0'⟩
      ·rw [ce e];have hne:i'*esz+j<i*esz+off\/i*esz+off+ds.length<=i'*esz+j:=by
        apply cM;intro hh;simp only [not_or,Nat.not_lt,Nat.not_le]at hh;exact e (idx_eq hj hh.1 hh.2 hle)
       rcases hne with lt|ge;·rw [ci (by omega)];exact⟨u,hu,hr'⟩
       ·rw [ce (by omega),ce (by omega)];exact⟨u,hu,hr'⟩
  ·cases he
 ·cases he
end
section
variable {P:Program} {B:Base} {ρ ρ':Nat->Option Pl} {F F':Nat->Prop} {w w':World} {h:Hp} {o:Oper} {a:Act} {T:List (Nat × TI)}
theorem Ef: ∀{v:Value} {x:DV},Q8 v=some x->bG F w x v:=by
 intro v x hc;unfold Q8 at hc;split at hc<;>cases hc;·rfl
 ·rfl
 ·rfl
 ·exact⟨none,0,rfl,by simp,by simp,by simp,by simp,by simp⟩
 ·rfl
 ·rfl
 ·rfl
theorem jD: ∀{vs:List Value} {xs:List DV},nY vs=some xs->bO ρ F w (xs.map .d) vs
 |[],xs,hc=>by simp [nY]at hc;subst hc;trivial
 |v::vs,xs,hc=>by
  unfold nY at hc;split at hc
  ·rename_i d ds h1 h2;cases hc;exact⟨Ef h1,jD h2⟩
  ·cases hc
theorem foldl_set: ∀(vs:List Value) (off j:Nat) (cells:Array Value),off+j+vs.length<=cells.size->
  (vs.zipIdx j).foldl (fun cs (x:Value × Nat)=>cs.setIfInBounds (off+x.2) x.1) cells=((cells.toList.take (off+j))++vs++cells.toList.drop (off+j+vs.length)).toArray
 |[],off,j,cells,_=>by simp
 |v::vs,off,j,cells,hle=>by
  simp at hle;rw [List.zipIdx_cons,List.foldl_cons,foldl_set vs off (j+1) _ (by simp;omega)];apply Array.ext';apply List.ext_getElem?;intro i;have hs:(cells.setIfInBounds (off+j) v).toList=cells.toList.set (off+j) v:=by simp
  simp only [hs];have e1:off+j+(v::vs).length=off+(j+1)+vs.length:=by simp;omega
  rw [dh _ _ _ (by simp;omega),dh _ _ _ (by simp;omega),List.getElem?_set];simp only [cX,de];by_cases c1:i<off+j;·rw [ci (by omega),ci c1,ce (by omega)]
  ·by_cases c2:i=off+j
   ·subst c2;rw [ci (by omega),ci rfl,ci (by omega),ce (by omega),ci (by omega)];simp
   ·rw [ce (by omega),ce c1];by_cases c3:i<off+(j+1)+vs.length
    ·rw [ci c3,ci (by omega),show i - (off+j)=(i - (off+(j+1)))+1 by omega];simp
    ·rw [ce c3,ce (by omega),ce (by omega)]
def QW (ρ:Nat->Option Pl) (F:Nat->Prop) (w:World):List (Nat × List CV)->List (Nat × Value)->Prop
 |[],[]=>True
 |(i,cs)::ps,(j,v)::vs=>i=j/\bO ρ F w cs v.cells.toList/\QW ρ F w ps vs
 |_,_=>False
theorem Aq {place:Nat->Option (Nat × Nat)}: ∀{ps:List (Nat × List CV)} {vs:List (Nat × Value)} {cs cs':List CV} {cells:Array Value},QW ρ F w ps vs->bO ρ F w cs cells.toList->
  xL place cs ps=some cs'-> ∃cells',Instr.fill place cells vs=some cells'/\bO ρ F w cs' cells'.toList
 |[],[],cs,cs',cells,_,hc,he=>by simp [xL]at he;subst he;exact⟨cells,rfl,hc⟩
 |(i,pc)::ps,(j,v)::vs,cs,cs',cells,⟨e,h1,h2⟩,hc,he=>by
  subst e;unfold xL at he;cases hp:place i with
  |none=>simp [hp]at he
  |some x=>
   obtain⟨off,size⟩:=x;simp only [hp]at he;cases hb:(decide (pc.length=size) && Nat.ble (off+pc.length) cs.length)with
   |false=>simp [hb]at he
   |true=>
    simp only [hb,bt]at he;simp only [cd,dd]at hb;have hle:=cj hb.2;have l1:=h1.length;have l2:=hc.length;have hsz:v.cells.size=pc.length:=by rw [<-l1];simp
    have hsz2:cells.size=cs.length:=by rw [<-l2];simp
    have hsp:=bO.splice hc h1 (off:=off) hle;have hf:v.cells.zipIdx.foldl (fun cs (x:Value × Nat)=>cs.setIfInBounds (off+x.2) x.1) cells=(cells.toList.take off++v.cells.toList++cells.toList.drop (off+v.cells.toList.length)).toArray:=by
     rw [<-Array.foldl_toList,Array.toList_zipIdx];have:=foldl_set v.cells.toList off 0 cells (by rw [l1];omega);simpa using this
    obtain⟨cells',g1,g2⟩:=Aq (place:=place) (cells:=(cells.toList.take off++v.cells.toList++cells.toList.drop (off+v.cells.toList.length)).toArray) h2 hsp he;refine⟨cells', ?_,g2⟩;unfold Instr.fill;simp only [hp];rw [ce (by rw [hsz,hsz2];simp;omega)];rw [hf];exact g1
 |[],_::_,_,_,_,h,_,_=>h.elim
 |_::_,[],_,_,_,h,_,_=>h.elim
theorem sJ: ∀{ps:List (Nat × Operand)} {xs:List TV} {l:List (Nat × List CV)},lZ ps xs=some l->dG ρ F w xs (ps.map fun p=>a.eval p.2)->
  QW ρ F w l (ps.map fun p=>(p.1,a.eval p.2))
 |[],[],l,hz,_=>by simp [lZ]at hz;subst hz;trivial
 |(i,p)::ps, .v s::xs,l,hz,⟨h1,h2⟩=>by
  simp only [lZ]at hz;split at hz
  ·rename_i l' hl;cases hz;exact⟨rfl,fB.cells h1,sJ hl h2⟩
  ·cases hz
 |[],_::_,_,hz,_=>by simp [lZ]at hz
 |_::_,[],_,hz,_=>by simp [lZ]at hz
 |_::_, .eB _::_,_,hz,_=>by simp [lZ]at hz
theorem Cm (hT:kg P T): ∀{fs:List Field} {pl:List (Nat × Nat)},zU T fs=some pl->fs.mapM (fun f=>(P.info? f.type).map fun i=>(f.offset,i.size))=some pl
 |[],pl,hp=>by simp [zU]at hp;subst hp;rfl
 |f::fs,pl,hp=>by
  unfold zU at hp;split at hp
  ·rename_i t l h1 h2;cases hp;obtain⟨_,i,z,hi,hs,_⟩:=hT.get h1;simp [List.mapM_cons,hi,hs,Cm hT h2]
  ·cases hp
theorem Kr (hT:kg P T) {t:TypeId} {parts:Array (Nat × Operand)} {ti:TI} {xs:List TV} {E:Eff} (ht:eG P t ti) (hop:o.op= .build t parts) (he:DJ T ti parts.toList xs=some E)
  (fr:Fr B ρ F w) (hi:HI B ρ F w h) (hx:dG ρ F w xs (parts.toList.map fun p=>a.eval p.2)):Good P B ρ F w h o a E.tv E.hd:=by
 have hps:(parts.map fun(x:Nat × Operand)=>(x.1,a.eval x.2)).toList=parts.toList.map fun p=>(p.1,a.eval p.2):=by simp
 have hrun: ∀cells,P.built t (parts.toList.map fun p=>(p.1,a.eval p.2))=some cells->(execOp a.eval o).run P w= .ok (.value (.agg cells)) w:=by
  intro cells hb;have:=run_build w t (parts.map fun(x:Nat × Operand)=>(x.1,a.eval x.2)) cells (by rw [hps];exact hb);simp [execOp,hop,this]
 obtain⟨hu,i,z,hi',hs,hb,hz,hzc⟩:=ht;unfold DJ at he;split at he
 ·rename_i zc ps h1 h2;have hzr:bO ρ F w (zc.map .d) z.cells.toList:=by rw [hzc];exact jD h1
  have hpr:=sJ h2 hx;split at he
  ·rename_i fs hd;split at he
   ·rename_i pl hpl;split at he
    ·rename_i cs hf;cases he;obtain⟨cells,g1,g2⟩:=Aq hpr hzr hf;refine aH fr hi (hrun cells ?_) ⟨cells.toList,by simp,g2⟩;simp only [Program.built,hi',hu,hd,hz,Cm hT hpl];simpa using g1
    ·cases he
   ·cases he
  ·rename_i n e hd;split at he
   ·rename_i te hte;obtain⟨_,ie,ze,hie,hse,_⟩:=hT.get hte;split at he
    ·rename_i cs hf;cases he;obtain⟨cells,g1,g2⟩:=Aq hpr hzr hf;refine aH fr hi (hrun cells ?_) ⟨cells.toList,by simp,g2⟩;simp only [Program.built,hi',hu,hd,hz,hie,hse];exact g1
    ·cases he
   ·cases he
  ·cases he
 ·cases he
theorem PG {t:TypeId} {x:Operand} {s:SV} {fresh:Nat} (hop:o.op= .box t x) (hfr:h fresh=none)
  (fr:Fr B ρ F w) (hi:HI B ρ F w h) (hx:fB ρ F w s (a.eval x)):Good P B ρ F w h o a (.v (.one (.ptr fresh 0))) [(fresh,some (.cells t (cellsOf s)))]:=by
 have p:=Push.alloc w (.cells (a.eval x).cells t);have hρ:=hi.fresh fresh hfr;have hrun:(execOp a.eval o).run P w= .ok (.value (.pointer (some ⟨w.heap.size,0,none⟩))) (w.alloc (.cells (a.eval x).cells t)):=by
  simp [execOp,hop,Instr.box,newVar,newRow]
 have hcs:=hx.cells;refine bI (p.gr fr (pl:= .blk w.heap.size 0 1) hρ) (p.fr fr hρ) (p.hi fr hi hfr ?_) hrun ⟨w.heap.size,0,1,ay _ _,rfl⟩;exact⟨w.heap.size,1,_,ay _ _,rfl,by rw [p.new],hcs.gr (p.gr fr hρ)⟩
theorem JS {t:TypeId} {ti:TI} {zc:List DV} {fresh:Nat} (ht:eG P t ti) (hz:nY ti.zero=some zc) (hop:o.op= .alloc t) (hfr:h fresh=none)
  (fr:Fr B ρ F w) (hi:HI B ρ F w h):Good P B ρ F w h o a (.v (.one (.ptr fresh 0))) [(fresh,some (.cells t (zc.map .d)))]:=by
 obtain⟨z,hz1,hz2⟩:=oG (w:=w) ht;have p:=Push.alloc w (.cells z.cells t);have hρ:=hi.fresh fresh hfr;have hrun:(execOp a.eval o).run P w= .ok (.value (.pointer (some ⟨w.heap.size,0,none⟩))) (w.alloc (.cells z.cells t)):=by
  simp [execOp,hop,Instr.alloc,newVar,newRow,hz1]
 refine bI (p.gr fr (pl:= .blk w.heap.size 0 1) hρ) (p.fr fr hρ) (p.hi fr hi hfr ?_) hrun ⟨w.heap.size,0,1,ay _ _,rfl⟩;refine⟨w.heap.size,1,z.cells.toList,ay _ _,rfl,by rw [p.new], ?_⟩;have:=jD (ρ:=ρ) (F:=F) (w:=w) hz;rw [<-hz2]at this;exact this.gr (p.gr fr hρ)
theorem EW {t:TypeId} {ti:TI} {zc:List DV} {fresh len:Nat} {el:Nat->Nat->DV} (ht:eG P t ti) (hz:nY ti.zero=some zc) (hop:o.op= .alloc t) (hfr:h fresh=none) (hl:len=ti.size) (h1:ti.size<=1000) (h2:ti.zero.length=ti.size)
  (heq:aB ti.size 1 (fun i _=>zc.getD i .nilp) el) (fr:Fr B ρ F w) (hi:HI B ρ F w h):Good P B ρ F w h o a (.v (.one (.opt fresh 1 0 0))) [(fresh,some (.arr t 1 len el))]:=by
 subst hl;obtain⟨z,hz1,hz2⟩:=oG (w:=w) ht;have p:=Push.alloc w (.cells z.cells t);have hρ:=hi.fresh fresh hfr;have hrun:(execOp a.eval o).run P w= .ok (.value (.pointer (some ⟨w.heap.size,0,none⟩))) (w.alloc (.cells z.cells t)):=by
  simp [execOp,hop,Instr.alloc,newVar,newRow,hz1]
 refine bI (p.gr fr (pl:= .blk w.heap.size 0 ti.size) hρ) (p.fr fr hρ) (p.hi fr hi hfr ?_) hrun ⟨w.heap.size,0,ti.size,ay _ _,rfl⟩;have hr:=jD (ρ:=ρ) (F:=F) (w:=w) hz;rw [<-hz2]at hr;have hlen:z.cells.toList.length=ti.size:=by rw [hz2,h2]
 refine .inr ⟨w.heap.size,0,ti.size,ay _ _,rfl,z.cells.toList,by rw [p.new],by omega,cx _,by unfold maxLen;omega,fun i hi' j hj=> ?_⟩;have hzl:zc.length=ti.size:=by have:=hr.length;rw [dg]at this;omega
 obtain⟨u,hu,hrr⟩:=hr.get (j:=i) (c:= .d (zc.getD i .nilp)) (by
  rw [dj,cS,cR (by omega)];rfl)
 refine⟨u,by rw [show 0+(i*1+j)=i by omega];exact hu, ?_⟩;rw [<-heq i hi' j hj];exact dK.gr (p.gr fr (pl:= .blk w.heap.size 0 ti.size) hρ) hrr
theorem J4 {z:List DV} {zv:List Value} (hz:bO ρ F w (z.map .d) zv) (hl:zv.length=z.length) (h1:0<z.length): ∀n,bO ρ F w (Mk z n) ((List.range (n*z.length)).map fun i=>zv[i % z.length]!)
 |0=>by simp [Mk,bO]
 |n+1=>by
  have e:(List.range ((n+1)*z.length)).map (fun i=>zv[i % z.length]!)=zv++(List.range (n*z.length)).map fun i=>zv[i % z.length]! :=by
   rw [ee,ef,ea,List.range_add,List.map_append,List.map_map];congr 1
   ·apply List.ext_getElem?;intro i;rw [dj];by_cases hi:i<z.length
    ·rw [List.getElem?_range hi];simp only [Option.map_some,Nat.mod_eq_of_lt hi];rw [List.getElem!_eq_getElem?_getD,cR (by omega)];rfl
    ·rw [eL (by simp;omega),eL (by omega)];rfl
   ·apply List.map_congr_left;intro i _;simp
  rw [e];exact hz.append (J4 hz hl h1 n)
theorem wD (z:List DV): ∀n,(Mk z n).length=n*z.length
 |0=>by simp [Mk]
 |n+1=>by simp [Mk,wD z n,ee];omega
theorem sP {place:Nat->Option (Nat × Nat)}: ∀{ps:List (Nat × List CV)} {cs cs':List CV},xL place cs ps=some cs'->cs'.length=cs.length
 |[],cs,cs',he=>by simp [xL]at he;rw [he]
 |(i,pc)::ps,cs,cs',he=>by
  unfold xL at he;cases hp:place i with
  |none=>simp [hp]at he
  |some x=>
   obtain⟨off,size⟩:=x;simp only [hp]at he;cases hb:(decide (pc.length=size) && Nat.ble (off+pc.length) cs.length)with
   |false=>simp [hb]at he
   |true=>
    simp only [hb,bt]at he;simp only [cd,dd]at hb;have hle:=cj hb.2;rw [sP he];simp;omega
theorem J8 {cells:Array Value} {e:TypeId} {sz len:Nat} {el:Nat->Nat->DV} (fr:Fr B ρ F w) (hi:HI B ρ F w h) (hrun:(execOp a.eval o).run P w= .ok (.value (.slice (some ⟨w.heap.size,0,none⟩) len len)) (w.alloc (.cells cells e)))
  (hels: ∀i,i<len-> ∀j,j<sz-> ∃u,cells.toList[0+(i*sz+j)]? =some u/\bG F (w.alloc (.cells cells e)) (el i j) u):Good P B ρ F w h o a (.v (.one (.d (.sl (some true) sz len el)))) []:=by
 have p:=Push.alloc w (.cells cells e)
 let F0:Nat->Prop:=fun k=>F k\/k=w.heap.size
 have hsz0:(w.alloc (.cells cells e)).heap.size=w.heap.size+1:=p.sz;have g0:Gr ρ F w ρ F0 (w.alloc (.cells cells e)):=⟨fun _ _ h=>h,fun _ h=> .inl h,fun k hk=>p.old (fr.fz k hk).1⟩;have hfr0:Fr B ρ F0 (w.alloc (.cells cells e)):=by
  refine⟨fr.os,fr.tape,⟨fr.output.out,fr.output.dr⟩,by have:=fr.size;omega,fun k hk hn=>(p.old (by have:=fr.size;omega)).trans (fr.mem k hk hn),fr.rho,fun k hk=> ?_,fun k hk=> .inl (fr.bf k hk)⟩;rcases hk with hk|hk;·obtain⟨x,y⟩:=fr.fz k hk;exact⟨by omega,y⟩
  ·subst hk;exact⟨by omega, .inr (.inr fr.size)⟩
 have hi0:HI B ρ F0 (w.alloc (.cells cells e)) h:=by
  obtain⟨ft,hi⟩:=hi;refine⟨ft,hi.step g0 fr (by omega) (fun _=>False) (fun b ob _ hb=> ⟨hb,fun k hk=>p.old (hi.blk b ob k hb hk).1,fun _=>Iff.rfl⟩) (fun _ _ h=>h.elim) (fun _ _ _ h=>h.elim) (fun _ _ _ _ _ h=>h.elim) (fun k hk=> ?_) hi.fresh⟩;rcases hk with hk|hk;·exact .inl hk
  ·subst hk;exact .inr (.inr ⟨cx _,fun _ _ h=>h.elim⟩)
 refine bI g0 hfr0 hi0 hrun ⟨some ⟨w.heap.size,0,none⟩,_,rfl,(fun _ e=>by cases e),(fun e=>by cases e),(fun e=>by cases e),cx _,fun ad ha=> ?_⟩;cases ha;refine⟨fun _=>rfl,fun i hi' j hj=> ⟨.inr rfl, ?_⟩⟩;obtain⟨u,hu,hr⟩:=hels i hi' j hj;refine⟨u, ?_, ?_⟩;·rw [bS (by rw [p.new])];exact hu
 ·exact bG.gr (F:=F) (w:=w.alloc (.cells cells e)) (fun _ h=> .inl h) (fun _ _=>rfl) hr
theorem BS (hT:kg P T) {t:TypeId} {len:Nat} {parts:Array (Nat × Operand)} {ti:TI} {xs:List TV} {fresh:Nat} {an:iJ} {obs:List (Option (Option Ob))} {E:Eff} (ht:eG P t ti) (hop:o.op= .buildSlice t len parts)
  (he:qI T fresh an ti.d len parts.toList xs obs=some E) (hc:All E.conds) (hobs:obs=[h fresh])
  (fr:Fr B ρ F w) (hi:HI B ρ F w h) (hx:dG ρ F w xs (parts.toList.map fun p=>a.eval p.2)):Good P B ρ F w h o a E.tv E.hd:=by
 unfold qI at he;split at he
 ·rename_i e ps hd hzp;simp at hobs;have hfr:h fresh=none:=hobs.symm;split at he
  ·rename_i te hte;have hte':=hT.get hte;split at he
   ·rename_i zc hzc;cases hb:(Nat.ble (len*te.size) 1000 && Nat.beq te.zero.length te.size && Nat.ble 1 te.size)with
    |false=>simp [hb]at he
    |true=>
     simp only [hb,bt]at he;simp only [cd]at hb;have hle:=cj hb.1.1;have hzl:=bv hb.1.2;have hpos:=cj hb.2;split at he
     ·rename_i cs hf;obtain⟨z,hz1,hz2⟩:=oG (w:=w) hte';have hlz:zc.length=te.size:=by
       have:=(jD (ρ:=ρ) (F:=F) (w:=w) hzc).length;simp at this;omega
      have hzr:bO ρ F w (zc.map .d) z.cells.toList:=by rw [hz2];exact jD hzc
      have hl':z.cells.toList.length=zc.length:=by rw [hz2,hzl,hlz]
      have hzs1:=J4 hzr hl' (by rw [hlz];exact hpos) len;rw [hlz]at hzs1;have hsz:z.cells.size=te.size:=by rw [<-de,hl',hlz]
      have hzs2:((Array.range (len*te.size)).map fun i=>z.cells[i % z.cells.size]!).toList=(List.range (len*te.size)).map fun i=>z.cells.toList[i % te.size]! :=by
       rw [Array.toList_map,Array.toList_range,hsz];refine List.map_congr_left fun i _=> ?_;rw [List.getElem!_eq_getElem?_getD,Array.getElem!_eq_getD,Array.getD_eq_getD_getElem?,Array.getElem?_toList]
      rw [<-hzs2]at hzs1;have hpr:=sJ hzp hx;obtain⟨cells,g1,g2⟩:=Aq hpr hzs1 hf;have hρ:=hi.fresh fresh hfr;have p:=Push.alloc w (.cells cells e);have hps:(parts.map fun(x:Nat × Operand)=>(x.1,a.eval x.2)).toList=parts.toList.map fun p=>(p.1,a.eval p.2):=by simp
      have hrun:(execOp a.eval o).run P w= .ok (.value (.slice (some ⟨w.heap.size,0,none⟩) len len)) (w.alloc (.cells cells e)):=by
       have hu:=aL (w:=w) ht;rw [hd]at hu;have hs:=dw (w:=w) hte';by_cases h0:len=0
       ·subst h0;simp only [Nat.zero_mul]at g1;have hnil: ∀f:Nat->Value,(Array.range 0).map f= #[]:=fun f=>by simp [Array.range]
        rw [hnil]at g1;simp only [execOp,hop,Instr.buildSlice,eC,hu,hs,eA,hps,Nat.zero_mul,hnil];simp [g1,newRow]
       ·have h1:len*te.size≠0:=by
         intro e;rcases Nat.mul_eq_zero.1 e with e|e<;>omega
        simp only [execOp,hop,Instr.buildSlice,eC,hu,hs,eA,hps];rw [ce (by omega)];simp [h1,hz1,g1,newRow]
      split at he
      ·cases he;refine bI (p.gr fr (pl:= .blk w.heap.size 0 len) hρ) (p.fr fr hρ) (p.hi fr hi hfr ?_) hrun (.inl ⟨w.heap.size,0,len,ay _ _,rfl⟩);exact⟨w.heap.size,len,cells.toList,ay _ _,rfl,by rw [p.new],g2.gr (p.gr fr hρ)⟩
      ·rename_i q;split at he
       ·rename_i c ds hq hds;cases he;have hlen:cs.length=len*te.size:=by rw [sP hf,wD,hlz]
        have hml:len<=maxLen:=by
         have:len*1<=len*te.size:=Nat.mul_le_mul_left _ hpos;unfold maxLen;omega
        have hcl:0+len*te.size<=cells.toList.length:=by rw [g2.length,hlen,cC];exact cx _
        have hds':(ds.map CV.d).length=len*te.size:=by rw [<-gF hds,cH,hlen]
        refine bI (p.gr fr (pl:= .blk w.heap.size 0 len) hρ) (p.fr fr hρ) (p.hi fr hi hfr ?_) hrun (.inl ⟨w.heap.size,0,len,ay _ _,rfl⟩);refine .inr ⟨w.heap.size,0,len,cells.toList,fun _ _=>none,ay _ _,rfl,by rw [p.new],hcl,cx _,hml,fun i hi' j hj=> ?_,(fun _ _ _ _ _ e=>by cases e),(fun _ _ e=>by cases e)⟩;have hin:i*te.size+j<len*te.size:=by
         have:(i+1)*te.size<=len*te.size:=cG _ (by omega);rw [ee,ef]at this;omega
        by_cases hiq:i=q / te.size/\j=q % te.size
        ·have hqe:i*te.size+j=q:=by rw [hiq.1,hiq.2,ed];exact Nat.div_add_mod q te.size
         obtain⟨u,hu,hr⟩:=g2.get (hqe ▸ hq:cs[i*te.size+j]? =some c);refine⟨u,by rw [cC];exact hu, ?_⟩;unfold wC;simp only;rw [ci hiq];exact dK.gr (p.gr fr (pl:= .blk w.heap.size 0 len) hρ) hr
        ·have hne:q≠i*te.size+j:=by
          rintro rfl;refine hiq ⟨?_, ?_⟩;·rw [ea,Nat.add_mul_div_right _ _ (by omega),Nat.div_eq_of_lt hj,cC]
          ·rw [ea,Nat.add_mul_mod_self_right,Nat.mod_eq_of_lt hj]
         have hg:cs[i*te.size+j]? =some (.d (iV te.size ds i j)):=by
          rw [<-List.getElem?_set_ne (l:=cs) (a:= .d .nilp) hne,gF hds,dj];simp at hds';have hb2:i*te.size+j<ds.length:=by omega
          rw [iV,cS,cR hb2];rfl
         obtain⟨u,hu,hr⟩:=g2.get hg;refine⟨u,by rw [cC];exact hu, ?_⟩;unfold wC;simp only;rw [ce hiq];exact dK.gr (p.gr fr (pl:= .blk w.heap.size 0 len) hρ) hr
       ·cases he
      split at he
      ·rename_i ds hds;have hlen:(ds.map CV.d).length=len*te.size:=by
        rw [<-gF hds,sP hf,wD,hlz]
       have hels: ∀i,i<len-> ∀j,j<te.size-> ∃u,cells.toList[0+(i*te.size+j)]? =some u/\bG F (w.alloc (.cells cells e)) (iV te.size ds i j) u:=by
        intro i hi' j hj;have hin:i*te.size+j<len*te.size:=by
         have:(i+1)*te.size<=len*te.size:=cG _ (by omega);rw [ee,ef]at this;omega
        have hg:cs[i*te.size+j]? =some (.d (iV te.size ds i j)):=by
         rw [gF hds,dj];simp at hlen;have hb2:i*te.size+j<ds.length:=by omega
         rw [iV,cS,cR hb2];rfl
        obtain⟨u,hu,hr⟩:=g2.get hg;exact⟨u,by rw [cC];exact hu,dK.gr (p.gr fr (pl:= .blk w.heap.size 0 len) hρ) hr⟩
       have hml:len<=maxLen:=by
        have:len*1<=len*te.size:=Nat.mul_le_mul_left _ hpos;unfold maxLen;omega
       have hcl:0+len*te.size<=cells.toList.length:=by rw [g2.length,gF hds,hlen,cC];exact cx _
       split at he
       ·rename_i len' el';cases he;obtain⟨rfl,heq,_⟩:=hc;refine bI (p.gr fr (pl:= .blk w.heap.size 0 _) hρ) (p.fr fr hρ) (p.hi fr hi hfr ?_) hrun (.inl ⟨w.heap.size,0,_,ay _ _,rfl⟩);exact .inr ⟨w.heap.size,0,_,ay _ _,rfl,cells.toList,by rw [p.new],hcl,cx _,hml,fun i hi' j hj=>by rw [<-heq i hi' j hj];exact hels i hi' j hj⟩
       ·rename_i len' el';cases he;obtain⟨rfl,heq,_⟩:=hc;exact J8 fr hi hrun fun i hi' j hj=>by rw [<-heq i hi' j hj];exact hels i hi' j hj
       ·rename_i len' el';cases he;obtain⟨rfl,heq,_⟩:=hc;refine bI (p.gr fr (pl:= .blk w.heap.size 0 _) hρ) (p.fr fr hρ) (p.hi fr hi hfr ?_) hrun (.inl ⟨w.heap.size,0,_,ay _ _,rfl⟩);exact .inr ⟨w.heap.size,0,_,ay _ _,rfl,cells.toList,by rw [p.new],hcl,cx _,hml,fun i hi' j hj=>by obtain⟨u,hu1,hu2⟩:=hels i hi' j hj;exact⟨u,hu1,heq i hi' j hj _ _ _ hu2⟩⟩
       ·cases he;refine bI (p.gr fr (pl:= .blk w.heap.size 0 len) hρ) (p.fr fr hρ) (p.hi fr hi hfr ?_) hrun (.inl ⟨w.heap.size,0,len,ay _ _,rfl⟩);exact .inr ⟨w.heap.size,0,len,ay _ _,rfl,cells.toList,by rw [p.new],hcl,cx _,hml,hels⟩
      ·cases he
     ·cases he
   ·cases he
  ·cases he
 ·cases he
end
section
variable {P:Program} {B:Base} {ρ ρ':Nat->Option Pl} {F F':Nat->Prop} {w w':World} {h:Hp} {o:Oper} {a:Act} {T:List (Nat × TI)}
theorem JR {fs:Array Field} {f off size:Nat} (hp:Ib T fs f=some (off,size)): ∃fd t,fs[f]? =some fd/\get T fd.type=some t/\fd.offset=off/\t.size=size:=by
 unfold Ib at hp;split at hp
 ·rename_i fd hfd;split at hp
  ·rename_i t ht;cases hp;exact⟨fd,t,by simpa using hfd,ht,rfl,rfl⟩
  ·cases hp
 ·cases hp
theorem JV (hT:kg P T) {t:TypeId} {x:Operand} {f:Nat} {ti:TI} {xa:TV} {E:Eff} (ht:eG P t ti) (hop:o.op= .fieldAddr t x f) (he:Ea T ti.d xa f=some E)
  (fr:Fr B ρ F w) (hi:HI B ρ F w h) (hx:bE ρ F w xa (a.eval x)):Good P B ρ F w h o a E.tv E.hd:=by
 unfold Ea at he;split at he
 ·rename_i fs hd;split at he
  ·rename_i off size hp;obtain⟨fd,tf,h1,h2,h3,h4⟩:=JR hp;have hs:=dw (w:=w) (hT.get h2);have hu:=aL (w:=w) ht;rw [hd]at hu;cases hb:Nat.ble 1 size with
   |false=>simp [hb]at he
   |true=>
    simp only [hb,bt]at he;have hpos:=cj hb;have hrun: ∀k p,a.eval x= .pointer (some ⟨k,p,none⟩)->(execOp a.eval o).run P w= .ok (.value (.pointer (some ⟨k,p+off,none⟩))) w:=by
     intro k p hv;have hne:tf.size≠0:=by omega
     simp [execOp,hop,Instr.fieldAt,hu,h1,hv,Instr.sureAddr,fieldPlace,hs,hne,dZ,h3]
    split at he
    ·rename_i n c;obtain⟨ad,hv,hsp,hc⟩:=hx;obtain⟨ak,ao,asp⟩:=ad;simp at hsp;subst hsp;cases hb2:Nat.ble (off+size) n with
     |false=>simp [hb2]at he
     |true=>
      simp only [hb2,bt]at he;cases he;refine aH fr hi (hrun ak ao hv) ⟨⟨ak,ao+off,none⟩,rfl,rfl,fun j hj=> ?_⟩;obtain⟨hf,u,hu',hr⟩:=hc (off+j) (by omega);exact⟨hf,u,by rw [ec];exact hu',hr⟩
    ·rename_i b p;cases he;obtain⟨k,base,cap,hk,hv⟩:=hx;exact aH fr hi (hrun k (base+p) hv) ⟨k,base,cap,hk,by rw [ec]⟩
    ·rename_i b e i p;cases he;obtain⟨k,base,cap,hk,hv⟩:=hx;exact aH fr hi (hrun k (base+(i*e+p)) hv) ⟨k,base,cap,hk,by rw [show base+(i*e+p)+off=base+(i*e+(p+off)) by omega]⟩
    ·cases he
  ·cases he
 ·cases he
theorem LM (hT:kg P T) {t:TypeId} {x:Operand} {f:Nat} {ti:TI} {xa:TV} {E:Eff} (ht:eG P t ti) (hop:o.op= .field t x f) (he:IL T ti.d xa f=some E)
  (fr:Fr B ρ F w) (hi:HI B ρ F w h) (hx:bE ρ F w xa (a.eval x)):Good P B ρ F w h o a E.tv E.hd:=by
 unfold IL at he;split at he
 ·rename_i fs cs hd;obtain⟨vs,hv,hr⟩:=hx;have hu:=aL (w:=w) ht;rw [hd]at hu;split at he
  ·rename_i fd hfd;have hfd':fs[f]? =some fd:=by simpa using hfd
   split at he
   ·rename_i tf htf;have hs:=dw (w:=w) (hT.get htf);have hg:=pK (w:=w) (hT.get htf);cases hb:Nat.ble (fd.offset+tf.size) cs.length with
    |false=>simp [hb]at he
    |true=>
     simp only [hb,bt]at he;have hle:=cj hb;have hl:=hr.length;have hsub:bO ρ F w ((cs.drop fd.offset).take tf.size) ((vs.drop fd.offset).take tf.size):=by
      refine bO.jJ (by simp;omega) fun j c hj=> ?_;rw [List.getElem?_take]at hj ⊢;split at hj;·rename_i e;rw [ci e];rw [List.getElem?_drop]at hj ⊢;exact hr.get hj
      ·cases hj
     split at he
     ·rename_i s hsv;cases he;cases hagg:tf.agg with
      |true=>
       rw [hagg]at hsv hg;simp [jU]at hsv;subst hsv;refine aH (v:= .agg ((vs.drop fd.offset).take tf.size).toArray) fr hi ?_ ⟨_,rfl,hsub⟩;simp [execOp,hop,Instr.field,hu,hfd',hv,asAgg,part,hg,hs]
      |false=>
       rw [hagg]at hsv hg
       match hcs:(cs.drop fd.offset).take tf.size,hsv with
       |[c],hsv=>
        simp [jU]at hsv;subst hsv;rw [hcs]at hsub
        match hvs:(vs.drop fd.offset).take tf.size,hsub with
        |[v],hsub=>
         have hge:vs[fd.offset]? =some v:=by
          have:((vs.drop fd.offset).take tf.size)[0]? =some v:=by rw [hvs];rfl
          rw [List.getElem?_take]at this;split at this;·rw [List.getElem?_drop]at this;simpa using this
          ·cases this
         refine aH (v:=v) fr hi ?_ hsub.1;simp [execOp,hop,Instr.field,hu,hfd',hv,asAgg,part,hg,hge]
     ·cases he
   ·cases he
  ·cases he
 ·cases he
theorem J3 (hT:kg P T) {t:TypeId} {x y:Operand} {ti:TI} {xa xi:TV} {E:Eff} (ht:eG P t ti) (hop:o.op= .indexAddr t x y) (he:su T ti.d xa xi=some E) (hc:All E.conds)
  (fr:Fr B ρ F w) (hi:HI B ρ F w h) (hx:bE ρ F w xa (a.eval x)) (hy:bE ρ F w xi (a.eval y)):Good P B ρ F w h o a E.tv E.hd:=by
 have hu:=aL (w:=w) ht;unfold su at he;split at he
 ·rename_i e k i hd;rw [hd]at hu;have hy':a.eval y= .int k i:=hy;split at he
  ·rename_i te hte;have hs:=dw (w:=w) (hT.get hte);split at he
   ·rename_i nn esz len el;obtain⟨ad,cap,hv,_,_,h3,_,h4⟩:=hx;cases hb:Nat.beq esz te.size with
    |false=>simp [hb]at he
    |true=>
     simp only [hb,bt]at he;have hes:=bv hb;cases he;obtain⟨hc,_⟩:=hc;cases ad with
     |none=>have:=(h3 rfl).1;omega
     |some ad=>
      obtain⟨hsp0,hcell⟩:=h4 ad rfl;have hsp:=hsp0 (by omega);have hrun:(execOp a.eval o).run P w= .ok (.value (.pointer (some ⟨ad.block,ad.off+i.toNat*te.size,none⟩))) w:=by
       simp [execOp,hop,Instr.indexAt,hy',hv,asIntOf,hu,hs,hc.1,hc.2,mV hsp]
      refine aH fr hi hrun ⟨_,rfl,rfl,fun j hj=> ?_⟩;obtain⟨hf,u,h5,h6⟩:=hcell i.toNat (by omega) j hj;exact⟨hf,u,by rw [<-hes,ec];exact h5,h6⟩
   ·rename_i b nn len;cases he;obtain⟨hc,_⟩:=hc;rcases hx with⟨k',base,cap,hk,hv⟩|⟨_,_,h0,_⟩
    ·have hrun:(execOp a.eval o).run P w= .ok (.value (.pointer (some ⟨k',base+i.toNat*te.size,none⟩))) w:=by
      simp [execOp,hop,Instr.indexAt,hy',hv,asIntOf,hu,hs,hc.1,hc.2,dZ]
     exact aH fr hi hrun ⟨k',base,cap,hk,by rw [Nat.add_zero]⟩
    ·omega
   ·cases he
  ·cases he
 ·rename_i n e k i hd;rw [hd]at hu;have hy':a.eval y= .int k i:=hy;split at he
  ·rename_i te hte;have hs:=dw (w:=w) (hT.get hte);split at he
   ·rename_i m c;obtain⟨ad,hv,hsp,hcell⟩:=hx;cases hb:Nat.ble (n*te.size) m with
    |false=>simp [hb]at he
    |true=>
     simp only [hb,bt]at he;have hle:=cj hb;cases he;obtain⟨hc,_⟩:=hc;have hrun:(execOp a.eval o).run P w= .ok (.value (.pointer (some ⟨ad.block,ad.off+i.toNat*te.size,none⟩))) w:=by
      simp [execOp,hop,Instr.indexAt,hy',hv,asIntOf,hu,hs,hc.1,hc.2,mV hsp,Instr.sureAddr]
     refine aH fr hi hrun ⟨_,rfl,rfl,fun j hj=> ?_⟩;have hin:i.toNat*te.size+j<m:=by
      have:(i.toNat+1)*te.size<=n*te.size:=cG _ (by omega);rw [ee,ef]at this;omega
     obtain⟨hf,u,h5,h6⟩:=hcell (i.toNat*te.size+j) hin;exact⟨hf,u,by rw [ec];exact h5,h6⟩
   ·rename_i b off;cases he;obtain⟨hc,_⟩:=hc;obtain⟨k',base,cap,hk,hv⟩:=hx;have hrun:(execOp a.eval o).run P w= .ok (.value (.pointer (some ⟨k',base+off+i.toNat*te.size,none⟩))) w:=by
     simp [execOp,hop,Instr.indexAt,hy',hv,asIntOf,hu,hs,hc.1,hc.2,dZ,Instr.sureAddr]
    exact aH fr hi hrun ⟨k',base,cap,hk,by rw [ec]⟩
   ·rename_i b e' q p;cases hb:(Nat.beq e' 1 && Nat.beq q 0 && Nat.beq p 0 && Nat.beq te.size 1 && RG te.d)with
    |true=>
     rw [hb]at he;simp only [bt]at he;cases he;simp only [cd]at hb;obtain⟨⟨⟨⟨b1,b2⟩,b3⟩,b4⟩,_⟩:=hb;have b1:=bv b1;have b2:=bv b2;have b3:=bv b3;have b4:=bv b4;obtain⟨hc,_⟩:=hc;obtain⟨k',base,cap,hk,hv⟩:=hx;have hrun:(execOp a.eval o).run P w= .ok (.value (.pointer (some ⟨k',base+(q*e'+p)+i.toNat*te.size,none⟩))) w:=by
      simp [execOp,hop,Instr.indexAt,hy',hv,asIntOf,hu,hs,hc.1,hc.2,dZ,Instr.sureAddr]
     refine aH fr hi hrun ⟨k',base,cap,hk, ?_⟩;rw [b1,b2,b3,b4];have e:base+(0*1+0)+i.toNat*1=base+(i.toNat*1+0):=by omega
     rw [e]
    |false=>
    rw [hb]at he;simp only [bu]at he;cases he;obtain⟨hc,_⟩:=hc;obtain⟨k',base,cap,hk,hv⟩:=hx;have hrun:(execOp a.eval o).run P w= .ok (.value (.pointer (some ⟨k',base+(q*e'+p)+i.toNat*te.size,none⟩))) w:=by
     simp [execOp,hop,Instr.indexAt,hy',hv,asIntOf,hu,hs,hc.1,hc.2,dZ,Instr.sureAddr]
    exact aH fr hi hrun ⟨k',base,cap,hk,by rw [show base+(q*e'+p)+i.toNat*te.size=base+(q*e'+(p+i.toNat*te.size)) by omega]⟩
   ·cases he
  ·cases he
 ·cases he
theorem bK {x:DV} {E:Eff} (he:eF x=some E):E=⟨[], .v (.one (.d x)),[]⟩:=by unfold eF at he;cases he;rfl
theorem BP (op:BinOp) (t:TypeId) (x y:Operand) (k k':IntKind) (p q:Int):(eqGuard op t x y (.int k p) (.int k' q)).run P w= .ok () w:=by
 unfold eqGuard;cases op<;>simp
theorem D5 (op:BinOp) (t:TypeId) (x y:Operand) (p q:Bool):(eqGuard op t x y (.bool p) (.bool q)).run P w= .ok () w:=by
 unfold eqGuard;cases op<;>simp
theorem j6 (p q:Int):(p==q)=decide (p=q):=by
 by_cases e:p=q<;>simp [e]
theorem run_equal_bool {t:TypeId} (hun:(underlying t).run P w= .ok .bool w) (p q:Bool):(Op.equal t (.bool p) (.bool q)).run P w= .ok (p==q) w:=by
 show(Op.equalIn (9999+1) t _ _).run P w=_;rw [Op.equalIn];simp [hun]
theorem run_eql_bool {t:TypeId} (hun:(underlying t).run P w= .ok .bool w) (p q:Bool):(binOp .eql t (.bool p) (.bool q)).run P w= .ok (.bool (p==q)) w:=by
 show(do pure (Value.bool (<-Op.equal t (.bool p) (.bool q))):Sem Value).run P w=_;simp only [eC,run_equal_bool hun,eA];rfl
theorem run_neq_bool {t:TypeId} (hun:(underlying t).run P w= .ok .bool w) (p q:Bool):(binOp .neq t (.bool p) (.bool q)).run P w= .ok (.bool (!(p==q))) w:=by
 show(do pure (Value.bool (!(<-Op.equal t (.bool p) (.bool q)))):Sem Value).run P w=_;simp only [eC,run_equal_bool hun,eA];rfl
theorem Gv (op:BinOp) (t:TypeId) (x y:Operand) (p q:ByteArray):(eqGuard op t x y (.string p) (.string q)).run P w= .ok () w:=by
 unfold eqGuard;cases op<;>simp
theorem KZ {t:TypeId} (p q:ByteArray):(binOp .eql t (.string p) (.string q)).run P w= .ok (.bool (p.toList==q.toList)) w:=by
 simp [binOp,Op.stringOp]
theorem J6 {t:TypeId} (p q:ByteArray):(binOp .neq t (.string p) (.string q)).run P w= .ok (.bool (!(p.toList==q.toList))) w:=by
 simp [binOp,Op.stringOp]
theorem iR {op:BinOp} {t t':TypeId} {x y:Operand} {v:Value} (hop:o.op= .binOp op t x y t') (hg:(eqGuard op t x y (a.eval x) (a.eval y)).run P w= .ok () w) (hb:(binOp op t (a.eval x) (a.eval y)).run P w= .ok v w):
  (execOp a.eval o).run P w= .ok (.value v) w:=by
 simp only [execOp,hop,eC,hg,hb,eA];rfl
theorem PL {op:BinOp} {t t':TypeId} {x y:Operand} {dx dy:DV} {E:Eff} (hu: ∀b1 b2,dx= .bool b1->dy= .bool b2->P.underlying t=some .bool) (hop:o.op= .binOp op t x y t') (he:WY op dx dy=some E) (hc:All E.conds)
  (fr:Fr B ρ F w) (hi:HI B ρ F w h) (hx:bG F w dx (a.eval x)) (hy:bG F w dy (a.eval y)):Good P B ρ F w h o a E.tv E.hd:=by
 unfold WY at he;split at he
 ·rename_i k p k' q;have hx':a.eval x= .int k p:=hx;have hy':a.eval y= .int k' q:=hy;split at he
  ·cases he;obtain⟨h0,_⟩:=hc;refine aH (v:= .int k (k.wrap (p*2 ^ min q.toNat k.bits))) fr hi ?_ rfl;simp [execOp,hop,hx',hy',BP,binOp,Op.shift,Int.not_lt.2 h0]
  ·cases he;obtain⟨h0,_⟩:=hc;refine aH (v:= .int k (p.fdiv (2 ^ min q.toNat k.bits))) fr hi ?_ rfl;simp [execOp,hop,hx',hy',BP,binOp,Op.shift,Int.not_lt.2 h0]
  ·rename_i hn1 hn2;cases hb:decide (k=k')with
   |false=>simp [hb]at he
   |true=>
    simp only [hb,bt]at he;have hk:=of_decide_eq_true hb;subst hk;have go: ∀v d,bG F w d v->binOp op t (.int k p) (.int k q)=pure v->Good P B ρ F w h o a (.v (.one (.d d))) []:=by
     intro v d hr hb;refine aH (v:=v) fr hi ?_ hr;simp [execOp,hop,hx',hy',BP,hb]
    split at he;·cases he;exact go _ _ rfl (by simp [binOp,Op.intArith])
    ·cases he;exact go _ _ rfl (by simp [binOp,Op.intArith])
    ·cases he;exact go _ _ rfl (by simp [binOp,Op.intArith])
    ·cases he;exact go _ _ rfl (by simp [binOp,Op.intDiv,hc.1])
    ·cases he;exact go _ _ rfl (by simp [binOp,Op.intDiv,hc.1])
    ·cases he;exact go _ _ rfl (by simp [binOp,Op.intBits])
    ·cases he;exact go _ _ rfl (by simp [binOp,Op.intBits])
    ·cases he;exact go _ _ rfl (by simp [binOp,Op.intBits])
    ·cases he;exact go _ _ rfl (by simp [binOp,Op.intBits])
    ·split at he
     ·rename_i r hr;cases bK he;unfold Nr at hr;split at hr<;>cases hr
      ·exact go _ _ rfl (by simp [binOp,Op.intCmp,j6])
      ·exact go _ _ rfl (by simp [binOp,Op.intCmp,bne,j6])
      ·exact go _ _ rfl (by simp [binOp,Op.intCmp])
      ·exact go _ _ rfl (by simp [binOp,Op.intCmp])
      ·exact go _ _ rfl (by simp [binOp,Op.intCmp])
      ·exact go _ _ rfl (by simp [binOp,Op.intCmp])
     ·cases he
 ·rename_i p q;have hx':a.eval x= .bool p:=hx;have hy':a.eval y= .bool q:=hy;have hut:=hu p q rfl rfl;have hun:(underlying t).run P w= .ok .bool w:=by simp [underlying,hut]
  split at he
  ·cases bK he;refine aH (v:= .bool (p==q)) fr hi (iR hop ?_ ?_) rfl
   ·rw [hx',hy'];exact D5 _ _ _ _ _ _
   ·rw [hx',hy'];exact run_eql_bool hun p q
  ·cases bK he;refine aH (v:= .bool (!(p==q))) fr hi (iR hop ?_ ?_) rfl
   ·rw [hx',hy'];exact D5 _ _ _ _ _ _
   ·rw [hx',hy'];exact run_neq_bool hun p q
  ·cases he
 ·rename_i p q;have hx':a.eval x= .string p:=hx;have hy':a.eval y= .string q:=hy;split at he
  ·cases bK he;refine aH (v:= .bool (p.toList==q.toList)) fr hi (iR hop ?_ ?_) rfl
   ·rw [hx',hy'];exact Gv _ _ _ _ _ _
   ·rw [hx',hy'];exact KZ p q
  ·cases bK he;refine aH (v:= .bool (!(p.toList==q.toList))) fr hi (iR hop ?_ ?_) rfl
   ·rw [hx',hy'];exact Gv _ _ _ _ _ _
   ·rw [hx',hy'];exact J6 p q
  ·cases he;obtain⟨h0,_⟩:=hc;refine aH (v:= .string (p++q)) fr hi (iR hop ?_ ?_) rfl
   ·rw [hx',hy'];rfl
   ·rw [hx',hy'];exact run_string_add_sum (w:=w) p q h0
  ·cases he
 ·cases he
theorem QX {op:UnOp} {t:TypeId} {x:Operand} {dx:DV} {E:Eff} (hop:o.op= .unOp op t x) (he:unE op dx=some E)
  (fr:Fr B ρ F w) (hi:HI B ρ F w h) (hx:bG F w dx (a.eval x)):Good P B ρ F w h o a E.tv E.hd:=by
 unfold unE at he;split at he
 ·rename_i b;have hx':a.eval x= .bool b:=hx;cases bK he;refine aH (v:= .bool !b) fr hi ?_ rfl;simp [execOp,hop,hx',Op.unary]
 ·rename_i k n;have hx':a.eval x= .int k n:=hx;cases bK he;refine aH (v:= .int k (k.wrap (0 - n))) fr hi ?_ rfl;simp [execOp,hop,hx',Op.unary,Op.intArith]
 ·cases he
theorem dm.get: ∀{ss:List SV} {vs:List Value},dm ρ F w ss vs-> ∀{j:Nat} {s:SV},ss[j]? =some s-> ∃u,vs[j]? =some u/\fB ρ F w s u
 |[],[],_,j,c,hh=>by simp at hh
 |c0::_,v0::_,⟨h0,t⟩,j,c,hh=>by
  cases j with
  |zero=>simp at hh;subst hh;exact⟨v0,rfl,h0⟩
  |succ j=>simp at hh;obtain⟨u,hu,hr⟩:=dm.get t hh;exact⟨u,by simpa using hu,hr⟩
 |[],_::_,hh,_,_,_=>hh.elim
 |_::_,[],hh,_,_,_=>hh.elim
theorem FL {x:Operand} {ix:Nat} {l:List SV} {s:SV} (hop:o.op= .extract x ix) (hl:l[ix]? =some s)
  (fr:Fr B ρ F w) (hi:HI B ρ F w h) (hx:bE ρ F w (.eB l) (a.eval x)):Good P B ρ F w h o a (.v s) []:=by
 obtain⟨vs,hv,hr⟩:=hx;obtain⟨u,hu,hr'⟩:=hr.get hl;refine aH (v:=u) fr hi ?_ hr';simp [execOp,hop,hv,Instr.extract,hu]
theorem gH {x:Operand} {tv:TV} (hop:o.op= .nilCheck x) (hv:(∃ad,a.eval x= .pointer (some ad))\/ ∃f us vs,a.eval x= .func f us vs/\ ∀n,f≠ .method n)
  (fr:Fr B ρ F w) (hi:HI B ρ F w h) (hx:bE ρ F w tv (a.eval x)):Good P B ρ F w h o a tv []:=by
 refine aH (v:=a.eval x) fr hi ?_ hx;rcases hv with⟨ad,hv⟩|⟨f,us,vs,hv,hf⟩;·simp [execOp,hop,hv]
 ·cases f with
  |method n=>exact absurd rfl (hf n)
  |_=>simp [execOp,hop,hv]
end
section
variable {P:Program} {B:Base} {ρ ρ':Nat->Option Pl} {F F':Nat->Prop} {w w':World} {h:Hp} {o:Oper} {a:Act} {T:List (Nat × TI)}
theorem xE (z:Array Value) (n:Nat) (i j:Nat) (hj:j<z.size) (hin:i*z.size+j<n):(madeCells z n).toList[i*z.size+j]? =z.toList[j]? :=by
 have hm:(i*z.size+j) % z.size=j:=by rw [ed,Nat.mul_add_mod,Nat.mod_eq_of_lt hj]
 unfold madeCells;rw [Array.toList_map,Array.toList_range,dj,List.getElem?_range hin];simp only [Option.map_some,hm];rw [Array.getElem!_eq_getD,Array.getD_eq_getD_getElem?,Array.getElem?_toList,eR hj];rfl
theorem MQ (hT:kg P T) {t:TypeId} {x y:Operand} {ti:TI} {xl xc:TV} {fresh:Nat} {an:iJ} {obs:List (Option (Option Ob))} {E:Eff} (ht:eG P t ti) (hop:o.op= .makeSlice t x y)
  (he:IG T fresh an ti.d xl xc obs=some E) (hc:All E.conds) (hobs:obs=[h fresh])
  (fr:Fr B ρ F w) (hi:HI B ρ F w h) (hx:bE ρ F w xl (a.eval x)) (hy:bE ρ F w xc (a.eval y)):Good P B ρ F w h o a E.tv E.hd:=by
 unfold IG at he;split at he
 ·rename_i e kl l kc c hd;simp at hobs;have hfr:h fresh=none:=hobs.symm;have hx':a.eval x= .int kl l:=hx;have hy':a.eval y= .int kc c:=hy;split at he
  ·rename_i te hte;obtain⟨_,i,z,hie,hs,hby,hz,hzc⟩:=hT.get hte;split at he
   ·rename_i zc hzv;cases hb:(Nat.beq te.zero.length te.size && Nat.ble 1 te.size)with
    |false=>simp [hb]at he
    |true=>
     simp only [hb,bt]at he;simp only [cd]at hb;have hzl:=bv hb.1;have hpos:=cj hb.2;have hcc:0<=l/\l=c/\te.bytes*l<=281474976710656/\l<=9223372036854775807:=by
      split at he<;>cases he<;>exact⟨hc.1,hc.2.1,hc.2.2.1,hc.2.2.2.1⟩
     obtain⟨h0,rfl,h48,h63⟩:=hcc;have hu:=ht.1;rw [hd]at hu;have hrun:=run_make (P:=P) w t e i z hu hie hz kl kc l l h0 (Int.le_refl _) (by rw [hby];exact h48) h63;have hrun':(execOp a.eval o).run P w= .ok (.value (.slice (some ⟨w.heap.size,0,none⟩) l.toNat l.toNat)) (w.alloc (.cells (madeCells z.cells (l.toNat*i.size)) e)):=by
      simp [execOp,hop,hx',hy',hrun]
     have p:=Push.alloc w (.cells (madeCells z.cells (l.toNat*i.size)) e);have hρ:=hi.fresh fresh hfr;have hzsz:z.cells.size=te.size:=by rw [<-de,hzc,hzl]
     have hels: ∀i',i'<l.toNat-> ∀j,j<te.size-> ∃u,(madeCells z.cells (l.toNat*i.size)).toList[i'*te.size+j]? =some u/\bG F (w.alloc (.cells (madeCells z.cells (l.toNat*i.size)) e)) (zc.getD j .nilp) u:=by
      intro i' hi' j hj;have hin:i'*te.size+j<l.toNat*te.size:=by
       have:(i'+1)*te.size<=l.toNat*te.size:=cG _ (by omega);rw [ee,ef]at this;omega
      have hg:=xE z.cells (l.toNat*i.size) i' j (by omega) (by rw [hzsz,hs];exact hin);rw [hzsz]at hg;rw [hg];have hzr:=jD (ρ:=ρ) (F:=F) (w:=w) hzv;rw [<-hzc]at hzr;have hlz:=hzr.length;simp only [de,dg]at hlz;have hg2:(zc.map CV.d)[j]? =some (.d (zc.getD j .nilp)):=by
       have hb2:j<zc.length:=by omega
       rw [dj,cS,cR hb2];rfl
      obtain⟨u,hu',hr⟩:=hzr.get hg2;exact⟨u,hu',dK.gr (p.gr fr (pl:= .blk w.heap.size 0 l.toNat) hρ) hr⟩
     have hcl:0+l.toNat*te.size<=(madeCells z.cells (l.toNat*i.size)).toList.length:=by rw [de,size_madeCells,hs,cC];exact cx _
     have hml:l.toNat<=maxLen:=by unfold maxLen;omega
     split at he
     ·rename_i len' el';cases he;obtain⟨_,_,_,_,hle,heq,_⟩:=hc;rw [hle];refine bI (p.gr fr (pl:= .blk w.heap.size 0 l.toNat) hρ) (p.fr fr hρ) (p.hi fr hi hfr ?_) hrun' (.inl ⟨w.heap.size,0,l.toNat,ay _ _,rfl⟩);exact .inr ⟨w.heap.size,0,l.toNat,ay _ _,rfl,_,by rw [p.new],hcl,cx _,hml,fun i' hi' j hj=>by rw [<-heq i' hi' j hj,cC];exact hels i' hi' j hj⟩
     ·rename_i len' el';cases he;obtain⟨_,_,_,_,hle,heq,_⟩:=hc;rw [hle];exact J8 fr hi hrun' fun i' hi' j hj=>by rw [<-heq i' hi' j hj,cC];exact hels i' hi' j hj
     ·cases he;refine bI (p.gr fr (pl:= .blk w.heap.size 0 l.toNat) hρ) (p.fr fr hρ) (p.hi fr hi hfr ?_) hrun' (.inl ⟨w.heap.size,0,l.toNat,ay _ _,rfl⟩);exact .inr ⟨w.heap.size,0,l.toNat,ay _ _,rfl,_,by rw [p.new],hcl,cx _,hml,fun i' hi' j hj=>by rw [cC];exact hels i' hi' j hj⟩
   ·cases he
  ·cases he
 ·cases he
theorem jh {b:Builtin} {args:Array Operand} {ts:Array TypeId} (hop:o.op= .call {callee:= .builtin b,args:=args,argTypes:=ts}):
  ∃consts,execOp a.eval o=builtin b ts o.type consts (args.map a.eval):=by
 refine⟨args.map fun| .const _=>true|_=>false, ?_⟩;simp only [execOp,hop,resolve];rfl
theorem PK {x:Operand} {t e:TypeId} {ti:TI} {esz len:Nat} {el:Nat->Nat->DV} (ht:eG P t ti) (hd:ti.d= .slice e) (hop:o.op= .call {callee:= .builtin .cap,args:= #[x],argTypes:= #[t] })
  (fr:Fr B ρ F w) (hi:HI B ρ F w h) (hx:dK ρ F w (.d (.sl (some false) esz len el)) (a.eval x)):Good P B ρ F w h o a (.v (.one (.d (.int .i64 0)))) []:=by
 obtain⟨consts,hex⟩:=jh (a:=a) hop;have hu:=aL (w:=w) ht;obtain⟨ad,cap,hv,_,h2,h3,_⟩:=hx;have h4:=h2 rfl;have h5:=(h3 h4).2;rw [hd]at hu;refine aH (v:= .int .i64 0) fr hi ?_ rfl;rw [hex];simp [builtin,Builtin.cap_,hu,hv,goInt,h5]
theorem NM {x:Operand} {t:TypeId} {ti:TI} {xa:TV} {E:Eff} (ht:eG P t ti) (hop:o.op= .call {callee:= .builtin .len,args:= #[x],argTypes:= #[t] }) (he:Mv ti.d xa=some E)
  (fr:Fr B ρ F w) (hi:HI B ρ F w h) (hx:bE ρ F w xa (a.eval x)):Good P B ρ F w h o a E.tv E.hd:=by
 obtain⟨consts,hex⟩:=jh (a:=a) hop;have hu:=aL (w:=w) ht;unfold Mv at he;split at he
 ·rename_i e nn esz len el hd;cases bK he;obtain⟨ad,cap,hv,_⟩:=hx;rw [hd]at hu;refine aH (v:= .int .i64 len) fr hi ?_ rfl;rw [hex];simp [builtin,Builtin.len_,hu,hv,goInt]
 ·rename_i e b nn len hd;cases bK he;rw [hd]at hu;refine aH (v:= .int .i64 len) fr hi ?_ rfl;rcases hx with⟨k,cap,_,hv⟩|⟨_,_,h0,hv⟩
  ·rw [hex];simp [builtin,Builtin.len_,hu,hv,goInt]
  ·rw [hex,h0];simp [builtin,Builtin.len_,hu,hv,goInt]
 ·rename_i s hd;cases bK he;have hv:a.eval x= .string s:=hx;rw [hd]at hu;refine aH (v:= .int .i64 s.size) fr hi ?_ rfl;rw [hex];simp [builtin,Builtin.len_,hu,hv,goInt]
 ·rename_i n e hd;cases bK he;rw [hd]at hu;refine aH (v:= .int .i64 n) fr hi ?_ rfl;rw [hex];simp [builtin,Builtin.len_,hu,goInt]
 ·cases he
theorem OB {x y:Operand} {ts:Array TypeId} {k k':IntKind} {p q:Int} (hop:o.op= .call {callee:= .builtin .max,args:= #[x,y],argTypes:=ts})
  (fr:Fr B ρ F w) (hi:HI B ρ F w h) (hx:bE ρ F w (.v (.one (.d (.int k p)))) (a.eval x)) (hy:bE ρ F w (.v (.one (.d (.int k' q)))) (a.eval y)):
  Good P B ρ F w h o a (.v (.one (.d (.int k (if p<q then q else p))))) []:=by
 obtain⟨consts,hex⟩:=jh (a:=a) hop;have hx':a.eval x= .int k p:=hx;have hy':a.eval y= .int k' q:=hy;refine aH (v:= .int k (if p<q then q else p)) fr hi ?_ rfl;rw [hex];simp [builtin,Builtin.max_,hx',hy',List.foldlM,Builtin.max2]
theorem Pn {x y:Operand} {ts:Array TypeId} {k k':IntKind} {p q:Int} (hop:o.op= .call {callee:= .builtin .min,args:= #[x,y],argTypes:=ts})
  (fr:Fr B ρ F w) (hi:HI B ρ F w h) (hx:bE ρ F w (.v (.one (.d (.int k p)))) (a.eval x)) (hy:bE ρ F w (.v (.one (.d (.int k' q)))) (a.eval y)):
  Good P B ρ F w h o a (.v (.one (.d (.int k (if q<p then q else p))))) []:=by
 obtain⟨consts,hex⟩:=jh (a:=a) hop;have hx':a.eval x= .int k p:=hx;have hy':a.eval y= .int k' q:=hy;refine aH (v:= .int k (if q<p then q else p)) fr hi ?_ rfl;rw [hex];simp [builtin,Builtin.min_,hx',hy',List.foldlM,Builtin.min2]
theorem Hl {xa:TV} {v:Value} {obs:List (Option (Option Ob))} {esz len:Nat} {el:Nat->Nat->DV} (hs:Ji xa obs=some (esz,len,el)) (hi:HI B ρ F w h)
  (hobs: ∀b nn n,xa= .v (.one (.own b nn n))-> ∃r,obs=h b::r) (hx:bE ρ F w xa v):
  ((∃ad c,v= .slice ad 0 c)/\len=0)\/ ∃k off cap,v= .slice (some ⟨k,off,none⟩) len cap/\ ∃news:List Value,news.length=len*esz/\(∀i u,news[i]? =some u->w.cell? ⟨k,off+i,none⟩=some u)/\
   (∀u∈news,u.oneCell'=true)/\ ∀i,i<len-> ∀j,j<esz-> ∃u,news[i*esz+j]? =some u/\bG F w (el i j) u:=by
 have build: ∀(k off n:Nat),(∀i,i<n-> ∃u,w.cell? ⟨k,off+i,none⟩=some u/\u.oneCell'=true)->
   ∃news:List Value,news.length=n/\(∀i u,news[i]? =some u->w.cell? ⟨k,off+i,none⟩=some u)/\ ∀u∈news,u.oneCell'=true:=by
  intro k off n;induction n with
  |zero=>intro _;exact⟨[],rfl,by simp,by simp⟩
  |succ n ih=>
   intro hh;obtain⟨news,h1,h2,h3⟩:=ih fun i hi=>hh i (by omega);obtain⟨u,hu,hu1⟩:=hh n (by omega);refine⟨news++[u],by simp [h1],fun i v hv=> ?_,fun v hv=> ?_⟩
   ·rw [List.getElem?_append]at hv;split at hv
    ·exact h2 i v hv
    ·rename_i e;have:i=n:=by
      rcases Nat.lt_or_ge i (n+1)with hlt|hge;·omega
      ·rw [eL (by simp;omega)]at hv;cases hv
     subst this;rw [h1,Nat.sub_self]at hv;simp at hv;subst hv;exact hu
   ·rcases cz.1 hv with hv|hv
    ·exact h3 v hv
    ·simp at hv;subst hv;exact hu1
 have parts: ∀(q:Nat),q<len*esz->q / esz<len/\q % esz<esz/\q / esz*esz+q % esz=q:=by
  intro q hq;have hpos:0<esz:=Nat.pos_of_ne_zero fun e=>by subst e;simp at hq
  exact⟨Nat.div_lt_of_lt_mul (by rw [ed];exact hq),eM _ hpos,by rw [ed];exact Nat.div_add_mod q esz⟩
 unfold Ji at hs;split at hs
 ·rename_i nn esz' len' el' _;cases hs;obtain⟨ad,cap,hv,_,_,h3,_,h4⟩:=hx;cases ad with
  |none=>left;obtain⟨h5,h6⟩:=h3 rfl;subst h5 h6;exact⟨⟨_,_,hv⟩,rfl⟩
  |some ad=>
   by_cases hl0:len=0;·left;subst hl0;exact⟨⟨_,_,hv⟩,rfl⟩
   right;obtain⟨hsp0,hcell⟩:=h4 ad rfl;have hsp:=hsp0 (by omega);obtain⟨ak,ao,asp⟩:=ad;simp at hsp;subst hsp;obtain⟨news,n1,n2,n3⟩:=build ak ao (len*esz) fun q hq=>by
    obtain⟨q1,q2,q3⟩:=parts q hq;obtain⟨_,u,hu,hr⟩:=hcell _ q1 _ q2;rw [q3]at hu;exact⟨u,hu,hr.oneCell⟩
   refine⟨ak,ao,cap,hv,news,n1,n2,n3,fun i hi' j hj=> ?_⟩;obtain⟨_,u,hu,hr⟩:=hcell i hi' j hj;have hin:i*esz+j<news.length:=by
    rw [n1];have:(i+1)*esz<=len*esz:=cG _ (by omega);rw [ee,ef]at this;omega
   have hg:=cR hin;have:=n2 _ _ hg;simp only at this hu;rw [hu]at this;cases this;exact⟨_,hg,hr⟩
 ·rename_i b nn n E' esz' len' el' _;obtain⟨r,hr0⟩:=hobs b nn n rfl;simp only [List.cons.injEq]at hr0;cases hb:Nat.beq n len' with
  |false=>simp [hb]at hs
  |true=>
   simp only [hb,bt]at hs;have:=bv hb;subst this;cases hs;obtain⟨ft,hi⟩:=hi;rcases hx with⟨k,base,cap,hk,hv⟩|⟨_,_,h0,hv⟩
   ·right;rcases hi.obj b _ hr0.1.symm with⟨g1,_⟩|⟨k',base',cap',g1,g0,vs,g2,g3,g4,g5,g6⟩
    ·rw [hk]at g1;cases g1
    ·rw [hk]at g1;cases g1;obtain⟨news,n1,n2,n3⟩:=build k base (len*esz) fun q hq=>by
      obtain⟨q1,q2,q3⟩:=parts q hq;obtain⟨u,hu,hr⟩:=g6 _ q1 _ q2;rw [q3]at hu;exact⟨u,by rw [bS g2];exact hu,hr.oneCell⟩
     refine⟨k,base,cap,hv,news,n1,n2,n3,fun i hi' j hj=> ?_⟩;obtain⟨u,hu,hr⟩:=g6 i hi' j hj;have hin:i*esz+j<news.length:=by
      rw [n1];have:(i+1)*esz<=len*esz:=cG _ (by omega);rw [ee,ef]at this;omega
     have hg:=cR hin;have:=n2 _ _ hg;rw [bS g2,hu]at this;cases this;exact⟨_,hg,hr⟩
   ·left;subst h0;exact⟨⟨_,_,hv⟩,rfl⟩
 ·cases hs
theorem fM {x y:Operand} {t t':TypeId} (hop:o.op= .call {callee:= .builtin .append,args:= #[x,y],argTypes:= #[t,t'] }) {v:Value}
  (hr:(Builtin.append_ #[t,t'] o.type #[a.eval x,a.eval y]).run P w= .ok v w'):(execOp a.eval o).run P w= .ok (.value v) w':=by
 obtain⟨consts,hex⟩:=jh (a:=a) hop;rw [hex];simp [builtin,hr]
theorem HI.Ml (fr:Fr B ρ F w) (hi:HI B ρ F w h) {b:Nat} {nob:Ob} (hb:h b=none) (hr:ig (bN ρ b .nil) F w (fun _=>False) b nob):HI B (bN ρ b .nil) F w (upd h [(b,some nob)]):=by
 have hρ:=hi.fresh b hb;obtain⟨ft,hi⟩:=hi;have g:Gr ρ F w (bN ρ b .nil) F w:=⟨aS hρ,fun _ h=>h,fun _ _=>rfl⟩;have hu: ∀b',upd h [(b,some nob)] b'=if b=b' then some (some nob)else h b':=fun b'=>iZ _ _ _
 refine⟨qa ft b fun _=>False,hi.step g fr (cx _) (fun b'=>b'=b) (fun b' ob' e hh=> ?_) (fun b' ob' e hh=> ?_) (fun b' ob' k e hh hf=> ?_) (fun b1 b2 o1 o2 k e1 e2 _ _ _ _=>e1.trans e2.symm) (fun k hk=> .inl hk) fun b' hh=> ?_⟩
 ·rw [hu,ce (Ne.symm e)]at hh;exact⟨hh,fun _ _=>rfl,fun k=>by rw [eY e]⟩
 ·subst e;rw [hu,ci rfl]at hh;cases hh;rw [bB];exact hr
 ·subst e;rw [bB]at hf;exact hf.elim
 ·rw [hu]at hh;split at hh
  ·cases hh
  ·rename_i e;rw [show bN ρ b .nil b'=ρ b' by simp [bN,Ne.symm e]];exact hi.fresh b' hh
section
variable {e t ty:TypeId} {i:TypeInfo} {z:Value} {size bytes:Nat}
theorem xX (ht:P.underlying t=some (.slice e)) (hi:P.info? e=some i)
  (g base n cap:Nat) (cur:List Value) (hg:w.heap[g]? =some (.cells cur.toArray e (0,0)))
  (a:Addr) (m c:Nat) (news:List Value) (hl:news.length=m*i.size) (hnews: ∀j u,news[j]? =some u->w.cell? (a.add j)=some u) (h1: ∀u∈news,u.oneCell'=true)
  (hroom:n+m<=cap) (hfit:base+n*i.size+news.length<=cur.length):
  (Builtin.append_ #[t,t] ty #[.slice (some ⟨g,base,none⟩) n cap, .slice (some a) m c]).run P w=
   .ok (.slice (some ⟨g,base,none⟩) (n+m) cap) (w.setRow g (cur.take (base+n*i.size)++news++cur.drop (base+n*i.size+news.length)).toArray):=by
 have hf:=run_firstCells_some (P:=P) w i.size m a m c news hl hnews;have hst:=run_storeCells_at P g (base+n*i.size) e news 0 cur.toArray w hg (by simpa using hfit) h1;simp only [Nat.add_zero]at hst;simp [Builtin.append_,run_underlying ht,Go.sizeOf,typeInfo,hi,Builtin.lenOf,hroom,hf,dZ,hst]
theorem FE (ht:P.underlying t=some (.slice e)) (hi:P.info? e=some i) (hz:i.zero=some z) (hs:i.size=size) (hby:i.bytes=bytes) (hzs:z.cells.size=size)
  {k base n cap:Nat} {vs:List Value} (hk:w.heap[k]? =some (.cells vs.toArray e (0,0))) (hl:base+cap*size<=vs.length) (hn:n<=cap) (hcm:cap<=maxLen)
  {ks offs m caps:Nat} {news:List Value} (hnl:news.length=m*size) (hnews: ∀j u,news[j]? =some u->w.cell? ⟨ks,offs+j,none⟩=some u) (h1: ∀u∈news,u.oneCell'=true)
  (hmax:n+m<=4611686018427387904) (hbytes:(n+m)*bytes<=140737488355328):
  ∃k' base' cap' row W,(Builtin.append_ #[t,t] ty #[.slice (some ⟨k,base,none⟩) n cap, .slice (some ⟨ks,offs,none⟩) m caps]).run P w= .ok (.slice (some ⟨k',base',none⟩) (n+m) cap') W/\
   ((k'=k/\base'=base/\cap'=cap/\Put w W k)\/(k'=w.heap.size/\Push w W (.cells (List.toArray row) e)))/\W.heap[k']? =some (.cells (List.toArray row) e (0,0))/\base'+cap'*size<=row.length/\n+m<=cap'/\cap'<=maxLen/\
   (∀q,q<n*size->row[base'+q]? =vs[base+q]?)/\(∀q,q<m*size->row[base'+(n*size+q)]? =news[q]?):=by
 subst hs hby;have hnews': ∀j u,news[j]? =some u->w.cell? ((⟨ks,offs,none⟩:Addr).add j)=some u:=fun j u hu=>by rw [dZ];exact hnews j u hu
 have hm63:n+m<=maxLen:=by unfold maxLen;omega
 by_cases hroom:n+m<=cap
 ·have hfit:base+n*i.size+news.length<=vs.length:=by
   have:(n+m)*i.size<=cap*i.size:=cG _ hroom;rw [ee]at this;omega
  have hrun:=xX (P:=P) (w:=w) (ty:=ty) ht hi k base n cap vs hk ⟨ks,offs,none⟩ m caps news hnl hnews' h1 hroom hfit;refine⟨k,base,cap,vs.take (base+n*i.size)++news++vs.drop (base+n*i.size+news.length),_,hrun, .inl ⟨rfl,rfl,rfl,Put.setRow _ _ _⟩, ?_, ?_,hroom,hcm,fun q hq=> ?_,fun q hq=> ?_⟩;·exact setRow_heap w k _ _ e (0,0) hk
  ·simp;omega
  ·rw [dh _ _ _ hfit,ci (by omega)]
  ·rw [dh _ _ _ hfit,ce (by omega),ci (by omega)];congr 1;omega
 ·have hold:base+n*i.size<=vs.length:=dC (Nat.add_le_add_left (cG _ hn) _) hl;have hol:((vs.drop base).take (n*i.size)).length=n*i.size:=by simp;omega
  have hrun:=run_append_grow (P:=P) w t ty e i z ht hi hz ⟨k,base,none⟩ n cap ((vs.drop base).take (n*i.size)) hol (fun j u hu=>by
    rw [List.getElem?_take]at hu;split at hu;·rw [List.getElem?_drop]at hu;rw [dZ,bS hk];exact hu
    ·cases hu) ⟨ks,offs,none⟩ m caps news hnl hnews' (by omega) (by unfold maxLen at hm63;omega) (growslice_fits (by omega) hbytes)
  have earr:(((vs.drop base).take (n*i.size)++news)++(Builtin.zeroCells z.cells (grownCap w (n+m) cap e - (n+m))).toList).toArray=((vs.drop base).take (n*i.size)).toArray++news.toArray++Builtin.zeroCells z.cells (grownCap w (n+m) cap e - (n+m)):=Array.ext' (by simp);refine⟨w.heap.size,0,grownCap w (n+m) cap e,((vs.drop base).take (n*i.size)++news)++(Builtin.zeroCells z.cells (grownCap w (n+m) cap e - (n+m))).toList,_,hrun, .inr ⟨rfl, ?_⟩, ?_, ?_,grownCap_ge w (n+m) cap e,grownCap_le_maxLen w (n+m) cap e hm63,fun q hq=> ?_,fun q hq=> ?_⟩;·rw [earr];exact Push.sH w _
  ·rw [earr];exact heap_alloc_new w.drew _
  ·have:=grownCap_ge w (n+m) cap e;rw [b_,b_,hol,hnl,de,size_zeroCells,hzs];rw [<-ee,<-ee,cC];exact cG _ (by omega)
  ·rw [cC,cT (by rw [b_];omega),cT (by omega),List.getElem?_take,ci hq,List.getElem?_drop]
  ·rw [cC,cT (by rw [b_];omega),cU (by omega),hol];congr 1;omega
theorem append_nil (ht:P.underlying t=some (.slice e)) (hi:P.info? e=some i) (hz:i.zero=some z) (hs:i.size=size) (hby:i.bytes=bytes) (hzs:z.cells.size=size)
  {ks offs m caps:Nat} {news:List Value} (hnl:news.length=m*size) (hnews: ∀j u,news[j]? =some u->w.cell? ⟨ks,offs+j,none⟩=some u)
  (hmax:m<=4611686018427387904) (hbytes:m*bytes<=140737488355328) (hm:0<m):
  ∃cap' row W,(Builtin.append_ #[t,t] ty #[.slice none 0 0, .slice (some ⟨ks,offs,none⟩) m caps]).run P w= .ok (.slice (some ⟨w.heap.size,0,none⟩) m cap') W/\
   Push w W (.cells (List.toArray row) e)/\W.heap[w.heap.size]? =some (.cells (List.toArray row) e (0,0))/\row.length=cap'*size/\m<=cap'/\cap'<=maxLen/\(∀q,q<m*size->row[q]? =news[q]?):=by
 subst hs hby;have hnews': ∀j u,news[j]? =some u->w.cell? ((⟨ks,offs,none⟩:Addr).add j)=some u:=fun j u hu=>by rw [dZ];exact hnews j u hu
 have hm63:m<=maxLen:=by unfold maxLen;omega
 have hrun:=run_append_nil (P:=P) w t ty e i z ht hi hz ⟨ks,offs,none⟩ m caps news hnl hnews' hm (by omega) (by omega);have earr:(news++(Builtin.zeroCells z.cells (grownCap w m 0 e - m)).toList).toArray=news.toArray++Builtin.zeroCells z.cells (grownCap w m 0 e - m):=Array.ext' (by simp);refine⟨grownCap w m 0 e,news++(Builtin.zeroCells z.cells (grownCap w m 0 e - m)).toList,_,hrun, ?_, ?_, ?_,grownCap_ge w m 0 e,grownCap_le_maxLen w m 0 e hm63,fun q hq=> ?_⟩;·rw [earr];exact Push.sH w _
 ·rw [earr];exact heap_alloc_new w.drew _
 ·have:=grownCap_ge w m 0 e;simp only [b_,de,size_zeroCells,hzs,hnl];rw [<-ee];congr 1;omega
 ·rw [cT (by omega)]
theorem jW {ad:Option Addr} {c:Nat} (ht:P.underlying t=some (.slice e)) (hi:P.info? e=some i) {v:Value} {n k base cap:Nat} (hv:(v= .slice none 0 0/\n=0)\/(v= .slice (some ⟨k,base,none⟩) n cap/\n<=cap)):
  (Builtin.append_ #[t,t] ty #[v, .slice ad 0 c]).run P w= .ok v w:=by
 rcases hv with⟨rfl,rfl⟩|⟨rfl,hn⟩;·cases ad<;>simp [Builtin.append_,run_underlying ht,Go.sizeOf,typeInfo,hi,Builtin.lenOf,Builtin.firstCells,loadCells,loadCellsFrom]
 ·cases ad<;>simp [Builtin.append_,run_underlying ht,Go.sizeOf,typeInfo,hi,Builtin.lenOf,Builtin.firstCells,hn,storeCells,loadCells,loadCellsFrom]
theorem AX (ht:P.underlying t=some (.slice e)) (hi:P.info? e=some i) (a0:Addr) (c:Nat):
  (Builtin.append_ #[t,t] ty #[.slice none 0 0, .slice (some a0) 0 c]).run P w= .ok (.slice none 0 0) w:=by
 simp [Builtin.append_,run_underlying ht,Go.sizeOf,typeInfo,hi,Builtin.lenOf,Builtin.firstCells,loadCells,loadCellsFrom]
end
end
section
variable {P:Program} {B:Base} {ρ ρ':Nat->Option Pl} {F F':Nat->Prop} {w w':World} {h:Hp} {o:Oper} {a:Act} {T:List (Nat × TI)}
theorem mg.move {ft:Nat->Nat->Prop} {S:Nat->Prop} (fr:Fr B ρ F w) (hi:mg B ρ F w h ft) {b b':Nat} {p:Pl} {ob nob:Ob} (hb:h b=some (some ob)) (hb':h b'=none) (g:Gr ρ F w (bN ρ b' p) F w') (hsz:w.heap.size<=w'.heap.size)
  (hkeep: ∀x ox,x≠b->h x=some (some ox)-> ∀k,ft x k->w'.heap[k]? =w.heap[k]?) (hS: ∀k,S k->ft b k\/(w.heap.size<=k/\k<w'.heap.size))
  (hr:ig (bN ρ b' p) F w' S b' nob):mg B (bN ρ b' p) F w' (upd h [(b',some nob),(b,none)]) (qa ft b' S):=by
 have hbb:b≠b':=fun e=>by rw [e,hb']at hb;cases hb
 have hu: ∀x,upd h [(b',some nob),(b,none)] x=if b'=x then some (some nob)else if b=x then some none else h x:=by
  intro x;exact wT _ _ _ _ _
 refine hi.step g fr hsz (fun x=>x=b\/x=b') (fun x ob' e hh=> ?_) (fun x ob' e hh=> ?_) (fun x ob' k e hh hf=> ?_) (fun b1 b2 o1 o2 k e1 e2 h1 h2 _ _=> ?_) (fun k hk=> .inl hk) fun x hh=> ?_
 ·rw [hu,ce (fun e'=>e (.inr e'.symm)),ce (fun e'=>e (.inl e'.symm))]at hh;exact⟨hh,hkeep x ob' (fun e'=>e (.inl e')) hh,fun k=>by rw [eY (fun e'=>e (.inr e'))]⟩
 ·by_cases e1:b'=x
  ·subst e1;rw [hu,ci rfl]at hh;cases hh;rw [bB];exact hr
  ·rw [hu,ce e1]at hh;split at hh
   ·cases hh
   ·rename_i e2;rcases e with e|e
    ·exact absurd e.symm e2
    ·exact absurd e.symm e1
 ·by_cases e1:b'=x
  ·subst e1;rw [bB]at hf;rcases hS k hf with q|q
   ·exact .inl ⟨b,ob, .inl rfl,hb,q⟩
   ·exact .inr q
  ·rw [hu,ce e1]at hh;split at hh
   ·cases hh
   ·rename_i e2;rcases e with e|e
    ·exact absurd e.symm e2
    ·exact absurd e.symm e1
 ·have key: ∀x ob',(x=b\/x=b')->upd h [(b',some nob),(b,none)] x=some (some ob')->x=b':=fun x ob' e hh=>by
   rcases e with e|e;·subst e;rw [hu,ce (Ne.symm hbb),ci rfl]at hh;cases hh
   ·exact e
  rw [key b1 o1 e1 h1,key b2 o2 e2 h2]
 ·rw [hu]at hh;split at hh
  ·cases hh
  ·rename_i e;split at hh
   ·cases hh
   ·rw [show bN ρ b' p x=ρ x by simp [bN,Ne.symm e]];exact hi.fresh x hh
structure Re (B:Base) (ρ:Nat->Option Pl) (F:Nat->Prop) (w:World) (ft:Nat->Nat->Prop) (b fresh e esz n lenx:Nat) (news:List Value) (nob:Ob):Prop where
 nil:n=0->lenx=0-> ∀ρ',ρ' fresh=some .nil->ig ρ' F w (fun _=>False) fresh nob
 row: ∀(ρ':Nat->Option Pl) (W:World) (k' base' cap':Nat) (row:List Value) (S:Nat->Prop),Gr ρ F w ρ' F W->ρ' fresh=some (.blk k' base' cap')->S k'->(∀q,ft b q->S q)->
  (∀q,ft b q->(∀base cap,ρ b≠some (.blk q base cap))->q≠k'/\W.heap[q]? =w.heap[q]?)->W.heap[k']? =some (.cells (List.toArray row) e (0,0))->base'+cap'*esz<=row.length->n+lenx<=cap'->cap'<=maxLen->
  (∀k base cap vs,ρ b=some (.blk k base cap)->w.heap[k]? =some (.cells (List.toArray vs) e (0,0))-> ∀q,q<n*esz->row[base'+q]? =vs[base+q]?)->(ρ b=some .nil->n=0)->
  (∀q,q<lenx*esz->row[base'+(n*esz+q)]? =news[q]?)->ig ρ' F W S fresh nob
theorem Ee {x y:Operand} {t e:TypeId} {te:TI} {fresh b nn n lenx:Nat} {nb:Bool} {ob nob:Ob} {ft:Nat->Nat->Prop} (h1:P.underlying t=some (.slice e))
  (hte:eG P e te) (hpos:1<=te.size) (hzl:te.zero.length=te.size) (hop:o.op= .call {callee:= .builtin .append,args:= #[x,y],argTypes:= #[t,t] }) (hfr:h fresh=none) (hob:h b=some (some ob))
  (fr:Fr B ρ F w) (hi:mg B ρ F w h ft) (hx:dK ρ F w (.own b nb n) (a.eval x)) (hbytes:(n+lenx)*te.bytes<=140737488355328) (hmax:n+lenx<=4611686018427387904)
  (hrow: ∀k base cap,ρ b=some (.blk k base cap)->ft b k/\ ∃vs:List Value,w.heap[k]? =some (.cells vs.toArray e (0,0))/\base+cap*te.size<=vs.length/\n<=cap/\cap<=maxLen)
  {news:List Value} (hsrc:((∃ad c,a.eval y= .slice ad 0 c)/\lenx=0/\news=[])\/ ∃k off cap,a.eval y= .slice (some ⟨k,off,none⟩) lenx cap/\news.length=lenx*te.size/\(∀i u,news[i]? =some u->w.cell? ⟨k,off+i,none⟩=some u)/\(∀u∈news,u.oneCell'=true))
  (re:Re B ρ F w ft b fresh e te.size n lenx news nob):Good P B ρ F w h o a (.v (.one (.own fresh false (n+lenx)))) [(fresh,some nob),(b,none)]:=by
 obtain⟨_,i,z,hie,hs,hby,hz,hzc⟩:=hte;have hbf:fresh≠b:=fun e=>by rw [<-e,hfr]at hob;cases hob
 have hzsz:z.cells.size=te.size:=by rw [<-de,hzc,hzl]
 have hρf:=hi.fresh fresh hfr;have grn: ∀p,Gr ρ F w (bN ρ fresh p) F w:=fun p=> ⟨aS hρf,fun _ h=>h,fun _ _=>rfl⟩;have frn: ∀p,Fr B (bN ρ fresh p) F w:=fun p=>{fr with rho:=fun b' p' e=>aS hρf b' p' (fr.rho b' p' e)};have oth: ∀x ox k,x≠b->h x=some (some ox)->ft x k->ft b k->False:=fun x ox k hne hx' h1 h2=>hne (hi.dis x b ox ob k hx' hob h1 h2);have nilway:n=0->lenx=0->(Builtin.append_ #[t,t] o.type #[a.eval x,a.eval y]).run P w= .ok (.slice none 0 0) w->Good P B ρ F w h o a (.v (.one (.own fresh false (n+lenx)))) [(fresh,some nob),(b,none)]:=by
  intro n0 l0 hrun;have hh:=mg.move (S:=fun _=>False) fr hi hob hfr (grn .nil) (cx _) (fun _ _ _ _ _ _=>rfl) (fun _ hf=>hf.elim) (re.nil n0 l0 _ (ay _ _));subst n0;subst l0;exact bI (grn _) (frn _) ⟨_,hh⟩ (fM hop hrun) (.inr ⟨rfl,ay _ _,rfl,rfl⟩)
 rcases hsrc with⟨⟨ad0,c0,hyn⟩,hl0,hnews⟩|⟨ks,offs,caps,hyv,hn1,hn2,hn3⟩
 ·-- nothing is appended: the same slice under a new name
  rcases hx with⟨k,base,cap,hk,hv⟩|⟨_,hkn,h0,hv⟩
  ·obtain⟨hft,vs,g2,g3,g4,g5⟩:=hrow k base cap hk;have hr:(execOp a.eval o).run P w= .ok (.value (.slice (some ⟨k,base,none⟩) n cap)) w:=fM hop (by rw [hyn,hv];exact jW h1 hie (.inr ⟨rfl,g4⟩));have hrep:=re.row (bN ρ fresh (.blk k base cap)) w k base cap vs (ft b) (grn _) (ay _ _) hft (fun _ h=>h) (fun q hq hne=> ⟨fun e=>hne base cap (by rw [e];exact hk),rfl⟩) g2 g3 (by omega) g5
    (fun k0 base0 cap0 vs0 e1 e2 q hq=>by rw [hk]at e1;cases e1;rw [g2]at e2;simp at e2;rw [e2]) (fun e=>by rw [hk]at e;cases e) (fun q hq=>by subst hl0;simp at hq)
   refine bI (grn _) (frn _) ⟨_,mg.move fr hi hob hfr (grn _) (cx _) (fun _ _ _ _ _ _=>rfl) (fun _ hf=> .inl hf) hrep⟩ hr (.inl ⟨k,base,cap,ay _ _,by rw [hl0,Nat.add_zero]⟩)
  ·exact nilway h0 hl0 (by rw [hyn,hv];exact jW (k:=0) (base:=0) (cap:=0) (n:=0) h1 hie (.inl ⟨rfl,rfl⟩))
 ·rcases hx with⟨k,base,cap,hk,hv⟩|⟨_,hkn,h0,hv⟩
  ·obtain⟨hft,vs,g2,g3,g4,g5⟩:=hrow k base cap hk;obtain⟨k1,base1,cap1,row,W,hrun,hway,r1,r2,r3,r4,r5,r6⟩:=FE (P:=P) (w:=w) (t:=t) (ty:=o.type) h1 hie hz hs hby hzsz g2 g3 g4 g5 hn1 hn2 hn3 (ks:=ks) (offs:=offs) (caps:=caps) hmax hbytes;have hr:(execOp a.eval o).run P w= .ok (.value (.slice (some ⟨k1,base1,none⟩) (n+lenx) cap1)) W:=fM hop (by rw [hyv,hv];exact hrun);have r5': ∀k0 base0 cap0 vs0,ρ b=some (.blk k0 base0 cap0)->w.heap[k0]? =some (.cells (List.toArray vs0) e (0,0))-> ∀q,q<n*te.size->row[base1+q]? =vs0[base0+q]? :=fun k0 base0 cap0 vs0 e1 e2 q hq=>by
    rw [hk]at e1;cases e1;rw [g2]at e2;simp at e2;rw [<-e2];exact r5 q hq
   rcases hway with⟨rfl,rfl,rfl,pt⟩|⟨rfl,ps⟩
   ·have hblk:=hi.blk b _ k1 hob hft;have gr1:=pt.gr (ρ:=ρ) hblk.2.1;have fr1:=pt.fr fr hblk.2.2;have gr2:Gr ρ F w (bN ρ fresh (.blk k1 base1 cap1)) F W:=gr1.trans ⟨aS hρf,fun _ h=>h,fun _ _=>rfl⟩;have hrep:=re.row (bN ρ fresh (.blk k1 base1 cap1)) W k1 base1 cap1 row (ft b) gr2 (ay _ _) hft (fun _ h=>h)
     (fun q hq hne=>have e:q≠k1:=fun e=>hne base1 cap1 (by rw [e];exact hk);⟨e,pt.old q e⟩) r1 r2 r3 r4 r5' (fun e=>by rw [hk]at e;cases e) r6
    refine bI gr2 {fr1 with rho:=fun b' p' e=>aS hρf b' p' (fr1.rho b' p' e)} ⟨_,mg.move fr hi hob hfr gr2 (by rw [pt.size];omega) (fun x ox hne hx' q hq=>pt.old q fun e=>oth x ox q hne hx' hq (e ▸ hft)) (fun _ hf=> .inl hf) hrep⟩ hr (.inl ⟨k1,base1,cap1,ay _ _,rfl⟩)
   ·have gr1:=ps.gr fr (b:=fresh) (pl:= .blk w.heap.size base1 cap1) hρf;have hrep:=re.row (bN ρ fresh (.blk w.heap.size base1 cap1)) W w.heap.size base1 cap1 row (fun q=>q=w.heap.size\/ft b q) gr1 (ay _ _) (.inl rfl) (fun _ h=> .inr h)
     (fun q hq hne=>have hlt:=(hi.blk b _ q hob hq).1;⟨by omega,ps.old hlt⟩) r1 r2 r3 r4 r5' (fun e=>by rw [hk]at e;cases e) r6
    refine bI gr1 (ps.fr fr hρf) ⟨_,mg.move fr hi hob hfr gr1 (by rw [ps.sz];omega) (fun x ox hne hx' q hq=>ps.old (hi.blk x ox q hx' hq).1) (fun q hf=> ?_) hrep⟩ hr (.inl ⟨_,base1,cap1,ay _ _,rfl⟩);rcases hf with rfl|hf;·exact .inr ⟨cx _,by rw [ps.sz];omega⟩
    ·exact .inl hf
  ·have h0':n=0:=h0;by_cases hm:lenx=0
   ·exact nilway h0' hm (by rw [hyv,hv,hm];exact AX h1 hie _ _)
   ·rw [h0']at hbytes hmax;simp only [cC]at hbytes hmax;obtain⟨cap1,row,W,hrun,ps,r1,r2,r3,r4,r6⟩:=append_nil (P:=P) (w:=w) (t:=t) (ty:=o.type) h1 hie hz hs hby hzsz hn1 hn2 (ks:=ks) (offs:=offs) (caps:=caps) hmax hbytes (by omega);have hr:(execOp a.eval o).run P w= .ok (.value (.slice (some ⟨w.heap.size,0,none⟩) lenx cap1)) W:=fM hop (by rw [hyv,hv];exact hrun);have gr1:=ps.gr fr (b:=fresh) (pl:= .blk w.heap.size 0 cap1) hρf;have hrep:=re.row (bN ρ fresh (.blk w.heap.size 0 cap1)) W w.heap.size 0 cap1 row (fun q=>q=w.heap.size\/ft b q) gr1 (ay _ _) (.inl rfl) (fun _ h=> .inr h)
     (fun q hq hne=>have hlt:=(hi.blk b _ q hob hq).1;⟨by omega,ps.old hlt⟩) r1 (by rw [r2,cC];exact cx _) (by rw [h0',cC];exact r3) r4
     (fun k0 base0 cap0 vs0 e1 _ q hq=>by rw [hkn]at e1;cases e1) (fun _=>h0') (fun q hq=>by rw [h0',Nat.zero_mul,cC,cC];exact r6 q hq)
    have htv:bE (bN ρ fresh (.blk w.heap.size 0 cap1)) F W (.v (.one (.own fresh false (n+lenx)))) (.slice (some ⟨w.heap.size,0,none⟩) lenx cap1):= .inl ⟨_,0,cap1,ay _ _,by rw [h0',cC]⟩;refine bI gr1 (ps.fr fr hρf) ⟨_,mg.move fr hi hob hfr gr1 (by rw [ps.sz];omega) (fun x ox hne hx' q hq=>ps.old (hi.blk x ox q hx' hq).1) (fun q hf=> ?_) hrep⟩ hr htv;rcases hf with rfl|hf;·exact .inr ⟨cx _,by rw [ps.sz];omega⟩
    ·exact .inl hf
end
section
variable {P:Program} {B:Base} {ρ ρ':Nat->Option Pl} {F F':Nat->Prop} {w w':World} {h:Hp} {o:Oper} {a:Act} {T:List (Nat × TI)}
theorem rU {i len esz j:Nat} (hi:i<len) (hj:j<esz):i*esz+j<len*esz:=by
 have:(i+1)*esz<=len*esz:=cG _ (by omega);rw [ee,ef]at this;omega
theorem AA {i n esz:Nat} (h:n<=i) (j:Nat):i*esz+j=n*esz+((i - n)*esz+j):=by
 have e6:i*esz=n*esz+(i - n)*esz:=by rw [<-ee];congr 1;omega
 omega
theorem Re.arr {ft:Nat->Nat->Prop} {b fresh e esz n lenx:Nat} {news:List Value} {el elx el':Nat->Nat->DV} (hob:ig ρ F w (ft b) b (.arr e esz n el)) (hsrc: ∀i,i<lenx-> ∀j,j<esz-> ∃u,news[i*esz+j]? =some u/\bG F w (elx i j) u)
  (heq:aB (n+lenx) esz (jK el n elx) el'):Re B ρ F w ft b fresh e esz n lenx news (.arr e esz (n+lenx) el'):=by
 refine⟨fun n0 l0 ρ' hρ=> .inl ⟨hρ,by omega⟩,fun ρ' W k' base' cap' row S g hρ hS hsub hoth hk hl hle hcm hpre hnil hsuf=> .inr ⟨k',base',cap',hρ,hS,row,hk,hl,hle,hcm,fun i hi j hj=> ?_⟩⟩;rw [<-heq i hi j hj,jK];split
 ·rename_i hlt;rcases hob with⟨h0,h1⟩|⟨k,base,cap,h0,_,vs,h2,h3,h4,h5,h6⟩
  ·have:=hnil h0;omega
  ·obtain⟨u,hu,hr⟩:=h6 i hlt j hj;exact⟨u,by rw [hpre k base cap vs h0 h2 _ (rU hlt hj)];exact hu,bG.gr g.fz g.mem hr⟩
 ·rename_i hge;obtain⟨u,hu,hr⟩:=hsrc (i - n) (by omega) j hj;exact⟨u,by rw [AA (show n<=i by omega) j,hsuf ((i - n)*esz+j) (rU (by omega) hj)];exact hu,bG.gr g.fz g.mem hr⟩
theorem Pt.Oo {S:Nat->Prop} {x:DV} {y:EV} {v:Value} (h:Pt x y) (hr:bG F w x v):fC F w S none y v:=by
 cases y with
 |d y=>cases h;exact hr
 |row E esz n el=>
  obtain⟨h0,e,l,f,rfl⟩:=h;obtain⟨ad,cap,hv,_,h2,h3,_⟩:=hr;have:=h2 rfl;subst this;obtain⟨rfl,rfl⟩:=h3 rfl;exact .inl ⟨h0,hv⟩
open Classical in
theorem Re.rows {ft:Nat->Nat->Prop} {b fresh e esz n lenx:Nat} {news:List Value} {el el':Nat->Nat->EV} {elx:Nat->Nat->DV} (hob:ig ρ F w (ft b) b (.rows e esz n el none)) (hsrc: ∀i,i<lenx-> ∀j,j<esz-> ∃u,news[i*esz+j]? =some u/\bG F w (elx i j) u)
  (heq:Ay n lenx esz el elx el'):Re B ρ F w ft b fresh e esz n lenx news (.rows e esz (n+lenx) el' none):=by
 refine⟨fun n0 l0 ρ' hρ=> .inl ⟨hρ,by omega⟩,fun ρ' W k' base' cap' row S g hρ hS hsub hoth hk hl hle hcm hpre hnil hsuf=> ?_⟩;have hsuf': ∀i,n<=i->i<n+lenx-> ∀j,j<esz-> ∃u,row[base'+(i*esz+j)]? =some u/\fC F W S none (el' i j) u:=fun i h1 h2 j hj=>by
  obtain⟨u,hu,hr⟩:=hsrc (i - n) (by omega) j hj;refine⟨u,by rw [AA h1 j,hsuf ((i - n)*esz+j) (rU (by omega) hj)];exact hu, ?_⟩;have:=heq.2 (i - n) (by omega) j hj;rw [show n+(i - n)=i by omega]at this;exact this.Oo (bG.gr g.fz g.mem hr)
 rcases hob with⟨h0,h1⟩|⟨k,base,cap,vs,rb,h0,h00,h2,h3,h4,h5,h6,h7,h8⟩
 ·have n0:=hnil h0;exact .inr ⟨k',base',cap',row,fun _ _=>none,hρ,hS,hk,hl,hle,hcm,fun i hi j hj=>hsuf' i (by omega) hi j hj,(fun _ _ _ _ _ e=>by cases e),(fun _ _ e=>by cases e)⟩
 ·obtain⟨rb',hrb⟩: ∃rb':Nat->Nat->Option Nat,∀i j q,rb' i j=some q↔i<n/\rb i j=some q/\ft b q/\q≠k:=by
   refine⟨fun i j=>match rb i j with|some q=>if i<n/\ft b q/\q≠k then some q else none|none=>none,fun i j q=> ?_⟩;simp only;cases hq:rb i j with
   |none=>simp
   |some q'=>
    simp only [Option.some.injEq];split
    ·rename_i hc;constructor
     ·intro e;cases e;exact⟨hc.1,rfl,hc.2⟩
     ·rintro ⟨_,e,_⟩;rw [e]
    ·rename_i hc;constructor
     ·intro e;cases e
     ·rintro ⟨e1,e2,e3⟩;subst e2;exact absurd ⟨e1,e3⟩ hc
  have hno: ∀q,q≠k-> ∀base cap,ρ b≠some (.blk q base cap):=fun q hq base' cap' e=>by rw [h0]at e;cases e;exact hq rfl
  refine .inr ⟨k',base',cap',row,rb',hρ,hS,hk,hl,hle,hcm,fun i hi j hj=> ?_,fun i j i' j' q e1 e2=> ?_,fun i j e=> ?_⟩
  ·by_cases hlt:i<n
   ·obtain⟨u,hu,hr⟩:=h6 i hlt j hj;refine⟨u,by rw [hpre k base cap vs h0 h2 _ (rU hlt hj)];exact hu, ?_⟩;show fC F W S _ (el' i j) u;rw [heq.1 i hlt j hj];have hr:fC F w (ft b) (rb i j) (el i j) u:=hr;cases hel:el i j with
    |d x=>rw [hel]at hr;exact bG.gr g.fz g.mem hr
    |row E1 esz1 n1 el1=>
     rw [hel]at hr;rcases hr with hr|⟨q,bq,cq,q1,q2,q3,q4⟩;·exact .inl hr
     ·have hqk:q≠k:=fun e=>h8 i j (by rw [q1,e]);exact .inr ⟨q,bq,cq,(hrb i j q).2 ⟨hlt,q1,q2,hqk⟩,hsub q q2,q3,q4.keep g (hoth q q2 (hno q hqk)).2⟩
   ·obtain⟨u,hu,hr⟩:=hsuf' i (by omega) hi j hj;refine⟨u,hu, ?_⟩;show fC F W S _ (el' i j) u;cases hel:el' i j with
    |d x=>rw [hel]at hr;exact hr
    |row E1 esz1 n1 el1=>
     rw [hel]at hr;rcases hr with hr|⟨q,bq,cq,q1,_⟩;·exact .inl hr
     ·cases q1
  ·exact h7 _ _ _ _ _ ((hrb i j q).1 e1).2.1 ((hrb i' j' q).1 e2).2.1
  ·obtain⟨_,_,e3,e4⟩:=(hrb i j k').1 e;exact(hoth k' e3 (hno k' e4)).1 rfl
theorem IW {y:Operand} {xa:TV} {rest:List (Option (Option Ob))} {esz lenx:Nat} {elx:Nat->Nat->DV} (hsrc:Ji xa rest=some (esz,lenx,elx)) (hi:HI B ρ F w h) (hsrco: ∀b nn n,xa= .v (.one (.own b nn n))-> ∃r,rest=h b::r) (hy:bE ρ F w xa (a.eval y)):
  ∃news:List Value,(((∃ad c,a.eval y= .slice ad 0 c)/\lenx=0/\news=[])\/ ∃k off cap,a.eval y= .slice (some ⟨k,off,none⟩) lenx cap/\news.length=lenx*esz/\(∀i u,news[i]? =some u->w.cell? ⟨k,off+i,none⟩=some u)/\(∀u∈news,u.oneCell'=true))/\
   ∀i,i<lenx-> ∀j,j<esz-> ∃u,news[i*esz+j]? =some u/\bG F w (elx i j) u:=by
 rcases Hl hsrc hi hsrco hy with⟨h1,h2⟩|⟨k,off,cap,h1,news,h2,h3,h4,h5⟩;·exact⟨[], .inl ⟨h1,h2,rfl⟩,fun i hi=>by omega⟩
 ·exact⟨news, .inr ⟨k,off,cap,h1,h2,h3,h4⟩,h5⟩
theorem Hu {row:List Value} {e:TypeId} {sz len cap:Nat} {el:Nat->Nat->DV} {W:World} {fz:Nat × Nat} (fr:Fr B ρ F w) (hi:HI B ρ F w h) (p:Push w W (.cells (List.toArray row) e fz)) (hrun:(execOp a.eval o).run P w= .ok (.value (.slice (some ⟨w.heap.size,0,none⟩) len cap)) W) (hlc:len<=cap)
  (hels: ∀i,i<len-> ∀j,j<sz-> ∃u,row[i*sz+j]? =some u/\bG F w (el i j) u):Good P B ρ F w h o a (.v (.one (.d (.sl (some true) sz len el)))) []:=by
 let F0:Nat->Prop:=fun k=>F k\/k=w.heap.size
 have hsz0:W.heap.size=w.heap.size+1:=p.sz;have g0:Gr ρ F w ρ F0 W:=⟨fun _ _ h=>h,fun _ h=> .inl h,fun k hk=>p.old (fr.fz k hk).1⟩;have hfr0:Fr B ρ F0 W:=by
  refine⟨p.os.trans fr.os,p.tape ▸ fr.tape,p.output.trans fr.output,by have:=fr.size;omega,fun k hk hn=>(p.old (by have:=fr.size;omega)).trans (fr.mem k hk hn),fr.rho,fun k hk=> ?_,fun k hk=> .inl (fr.bf k hk)⟩;rcases hk with hk|hk;·obtain⟨x,y⟩:=fr.fz k hk;exact⟨by omega,y⟩
  ·subst hk;exact⟨by omega, .inr (.inr fr.size)⟩
 have hi0:HI B ρ F0 W h:=by
  obtain⟨ft,hi⟩:=hi;refine⟨ft,hi.step g0 fr (by omega) (fun _=>False) (fun b ob _ hb=> ⟨hb,fun k hk=>p.old (hi.blk b ob k hb hk).1,fun _=>Iff.rfl⟩) (fun _ _ h=>h.elim) (fun _ _ _ h=>h.elim) (fun _ _ _ _ _ h=>h.elim) (fun k hk=> ?_) hi.fresh⟩;rcases hk with hk|hk;·exact .inl hk
  ·subst hk;exact .inr (.inr ⟨cx _,fun _ _ h=>h.elim⟩)
 refine bI g0 hfr0 hi0 hrun ⟨some ⟨w.heap.size,0,none⟩,_,rfl,(fun _ e=>by cases e),(fun e=>by cases e),(fun e=>by cases e),hlc,fun ad ha=> ?_⟩;cases ha;refine⟨fun _=>rfl,fun i hi' j hj=> ⟨.inr rfl, ?_⟩⟩;obtain⟨u,hu,hr⟩:=hels i hi' j hj;refine⟨u, ?_,bG.gr g0.fz g0.mem hr⟩;rw [bS (by rw [p.new]),cC];exact hu
theorem Fp {k off:Nat}: ∀(n:Nat),(∀q,q<n-> ∃u,w.cell? ⟨k,off+q,none⟩=some u)-> ∃l:List Value,l.length=n/\ ∀q u,l[q]? =some u->w.cell? ⟨k,off+q,none⟩=some u
 |0,_=> ⟨[],rfl,fun q u h=>by simp at h⟩
 |n+1,h=>by
  obtain⟨l,h1,h2⟩:=Fp n fun q hq=>h q (by omega);obtain⟨u,hu⟩:=h n (by omega);refine⟨l++[u],by simp [h1],fun q v hv=> ?_⟩;by_cases hq:q<n;·rw [cT (by omega)]at hv;exact h2 q v hv
  ·rw [cU (by omega),h1]at hv;have:q=n:=by
    rcases Nat.lt_or_ge n q with g|g;·rw [eL (by simp;omega)]at hv;cases hv
    ·omega
   subst this;rw [Nat.sub_self]at hv;cases hv;exact hu
theorem KH {x y:Operand} {t e:TypeId} {te:TI} {b n lenx:Nat} {nb:Bool} {E':TypeId} {el elx el':Nat->Nat->DV} (h1:P.underlying t=some (.slice e))
  (hte:eG P e te) (hpos:1<=te.size) (hzl:te.zero.length=te.size) (hop:o.op= .call {callee:= .builtin .append,args:= #[x,y],argTypes:= #[t,t] }) (hob:h b=some (some (.frow true E' te.size n el))) (hn0:0<n)
  (fr:Fr B ρ F w) (hi:HI B ρ F w h) (hx:dK ρ F w (.own b nb n) (a.eval x)) (hbytes:(n+lenx)*te.bytes<=140737488355328) (hmax:n+lenx<=4611686018427387904)
  {news:List Value} (hsrc:((∃ad c,a.eval y= .slice ad 0 c)/\lenx=0/\news=[])\/ ∃k off cap,a.eval y= .slice (some ⟨k,off,none⟩) lenx cap/\news.length=lenx*te.size/\(∀i u,news[i]? =some u->w.cell? ⟨k,off+i,none⟩=some u)/\(∀u∈news,u.oneCell'=true))
  (hels: ∀i,i<lenx-> ∀j,j<te.size-> ∃u,news[i*te.size+j]? =some u/\bG F w (elx i j) u) (heq:aB (n+lenx) te.size (jK el n elx) el'):Good P B ρ F w h o a (.v (.one (.d (.sl (some true) te.size (n+lenx) el')))) []:=by
 obtain⟨_,i,z,hie,hs,hby,hz,hzc⟩:=hte;have hzsz:z.cells.size=te.size:=by rw [<-de,hzc,hzl]
 have hob':ig ρ F w (fun _=>False) b (.frow true E' te.size n el):=by
  obtain⟨ft,hi⟩:=hi;obtain⟨k,base,cap,g1,g2,g3⟩:=hi.obj b _ hob;exact⟨k,base,cap,g1,g2,g3⟩
 obtain⟨k,base,cap,g1,g2,g3⟩:=hob';have g2:=g2.2 rfl;subst g2;rcases hx with⟨k',base',cap',hk,hv⟩|⟨_,_,h0,_⟩
 ·rw [g1]at hk;cases hk;have stay:lenx=0->(Builtin.append_ #[t,t] o.type #[a.eval x,a.eval y]).run P w= .ok (.slice (some ⟨k,base,none⟩) cap cap) w->Good P B ρ F w h o a (.v (.one (.d (.sl (some true) te.size (cap+lenx) el')))) []:=fun l0 hrun=>by
   subst l0;refine aH fr hi (fM hop hrun) ⟨some ⟨k,base,none⟩,cap,rfl,(fun _ e=>by cases e),(fun e=>by cases e),(fun e=>by cases e),cx _,fun ad ha=> ?_⟩;cases ha;refine⟨fun _=>rfl,fun i hi' j hj=> ?_⟩;obtain⟨hf,u,hu,hr⟩:=g3 i (by omega) j hj;refine⟨hf,u,hu, ?_⟩;rw [<-heq i hi' j hj,jK,ci (by omega)];exact hr
  rcases hsrc with⟨⟨ad0,c0,hyn⟩,hl0,_⟩|⟨ks,offs,caps,hyv,hn1,hn2,hn3⟩;·exact stay hl0 (by rw [hyn,hv];exact jW h1 hie (.inr ⟨rfl,cx _⟩))
  ·by_cases hm:lenx=0
   ·exact stay hm (by rw [hyv,hv,hm];exact jW h1 hie (.inr ⟨rfl,cx _⟩))
   ·obtain⟨old,ho1,ho2⟩:=Fp (w:=w) (k:=k) (off:=base) (cap*te.size) fun q hq=>by
     obtain⟨_,u,hu,_⟩:=g3 (q / te.size) (Nat.div_lt_of_lt_mul (by rw [ed];exact hq)) (q % te.size) (eM _ (by omega));rw [show q / te.size*te.size+q % te.size=q by rw [ed];exact Nat.div_add_mod _ _]at hu;exact⟨u,hu⟩
    have hm63:cap+lenx<=maxLen:=by unfold maxLen;omega
    have hrun:=run_append_grow (P:=P) w t o.type e i z h1 hie hz ⟨k,base,none⟩ cap cap old (by rw [hs];exact ho1) (fun j v hj=>by rw [dZ];exact ho2 j v hj) ⟨ks,offs,none⟩ lenx caps news (by rw [hs];exact hn1) (fun j v hj=>by rw [dZ];exact hn2 j v hj)
     (by omega) (by unfold maxLen at hm63;omega) (growslice_fits (by omega) (by rw [hby];exact hbytes))
    have earr:((old++news)++(Builtin.zeroCells z.cells (grownCap w (cap+lenx) cap e - (cap+lenx))).toList).toArray=old.toArray++news.toArray++Builtin.zeroCells z.cells (grownCap w (cap+lenx) cap e - (cap+lenx)):=Array.ext' (by simp);have hr:(execOp a.eval o).run P w= .ok (.value (.slice (some ⟨w.heap.size,0,none⟩) (cap+lenx) (grownCap w (cap+lenx) cap e))) _:=fM hop (by rw [hyv,hv];exact hrun);refine Hu (row:=(old++news)++(Builtin.zeroCells z.cells (grownCap w (cap+lenx) cap e - (cap+lenx))).toList) fr hi (by rw [earr];exact Push.sH w _) hr (grownCap_ge w _ _ e) fun i' hi' j hj=> ?_;have hin:=rU hi' hj;rw [<-heq i' hi' j hj,jK];split
    ·rename_i hlt;obtain⟨_,u,hu,hru⟩:=g3 i' hlt j hj;have hl:i'*te.size+j<old.length:=by rw [ho1];exact rU hlt hj
     have h2:=ho2 _ _ (cR hl);rw [hu]at h2;refine⟨u, ?_,hru⟩;rw [cQ,cT hl,cR hl];exact h2.symm
    ·rename_i hge;obtain⟨u,hu,hru⟩:=hels (i' - cap) (by omega) j hj;refine⟨u, ?_,hru⟩;have hsp:=AA (show cap<=i' by omega) j (esz:=te.size);have hnl:=rU (show i' - cap<lenx by omega) hj;rw [hsp,cQ,cU (by omega),ho1,Nat.add_sub_cancel_left,cT (by omega)];exact hu
 ·omega
theorem J2 {x y:Operand} {t e:TypeId} {te:TI} {b n lenx:Nat} {nb:Bool} {el elx el':Nat->Nat->DV} (h1:P.underlying t=some (.slice e))
  (hte:eG P e te) (hpos:1<=te.size) (hzl:te.zero.length=te.size) (hop:o.op= .call {callee:= .builtin .append,args:= #[x,y],argTypes:= #[t,t] }) (hob:h b=some (some (.arr e te.size n el))) (hn0:0<n)
  (fr:Fr B ρ F w) (hi:HI B ρ F w h) (hx:dK ρ F w (.own b nb n) (a.eval x)) (hbytes:(n+lenx)*te.bytes<=140737488355328) (hmax:n+lenx<=4611686018427387904)
  {news:List Value} (hsrc:((∃ad c,a.eval y= .slice ad 0 c)/\lenx=0/\news=[])\/ ∃k off cap,a.eval y= .slice (some ⟨k,off,none⟩) lenx cap/\news.length=lenx*te.size/\(∀i u,news[i]? =some u->w.cell? ⟨k,off+i,none⟩=some u)/\(∀u∈news,u.oneCell'=true))
  (hels: ∀i,i<lenx-> ∀j,j<te.size-> ∃u,news[i*te.size+j]? =some u/\bG F w (elx i j) u) (heq:aB (n+lenx) te.size (jK el n elx) el'):Good P B ρ F w h o a (.v (.one (.d (.sl (some true) te.size (n+lenx) el')))) [(b,some (.frow false e te.size n el))]:=by
 obtain⟨_,i,z,hie,hs,hby,hz,hzc⟩:=hte;have hzsz:z.cells.size=te.size:=by rw [<-de,hzc,hzl]
 obtain⟨ft,hi⟩:=hi;rcases hi.obj b _ hob with⟨q,_⟩|⟨k,base,cap,g1,g0,vs,g2,g3,g4,g5,g6⟩
 ·rcases hx with⟨k',base',cap',hk,_⟩|⟨_,_,h0,_⟩
  ·rw [q]at hk;cases hk
  ·omega
 rcases hx with⟨k',base',cap',hk,hv⟩|⟨_,_,h0,_⟩
 case inr=>omega
 rw [g1]at hk;cases hk;obtain⟨b1,b2,b3⟩:=hi.blk b _ k hob g0;have fin: ∀(k1 base1 cap1:Nat) (W:World),(Builtin.append_ #[t,t] o.type #[a.eval x,a.eval y]).run P w= .ok (.slice (some ⟨k1,base1,none⟩) (n+lenx) cap1) W->n+lenx<=cap1->w.heap.size<=W.heap.size->(k1=k\/(k1=w.heap.size/\k1<W.heap.size))->
   (∀q,q<w.heap.size->q≠k->W.heap[q]? =w.heap[q]?)->W.os=w.os->W.tape=w.tape->OD W w->
   (∀q,q<n*te.size-> ∀u,vs[base+q]? =some u->W.cell? ⟨k,base+q,none⟩=some u)->
   (∀q,q<n*te.size-> ∀u,vs[base+q]? =some u->W.cell? ⟨k1,base1+q,none⟩=some u)->(∀q,q<lenx*te.size-> ∀u,news[q]? =some u->W.cell? ⟨k1,base1+(n*te.size+q),none⟩=some u)->
   Good P B ρ F w h o a (.v (.one (.d (.sl (some true) te.size (n+lenx) el')))) [(b,some (.frow false e te.size n el))]:=fun k1 base1 cap1 W hrun hcap hsz hk1 hold hos htp hod hc1 hc2 hc3=>by
  let F0:Nat->Prop:=fun q=>F q\/q=k\/q=k1
  have g:Gr ρ F w ρ F0 W:=⟨fun _ _ h=>h,fun _ h=> .inl h,fun q hq=>hold q (fr.fz q hq).1 fun e=>b2 (e ▸ hq)⟩;have hu: ∀b',upd h [(b,some (.frow false e te.size n el))] b'=if b=b' then some (some (.frow false e te.size n el))else h b':=fun b'=>iZ _ _ _
  have oth: ∀x ox q,x≠b->h x=some (some ox)->ft x q->q≠k:=fun x ox q hne hx' hq e=>hne (hi.dis x b ox _ q hx' hob hq (e ▸ g0));refine bI g ⟨hos.trans fr.os,htp ▸ fr.tape,hod.trans fr.output,by have:=fr.size;omega,fun q hq hn=> ?_,fr.rho,fun q hq=> ?_,fun q hq=> .inl (fr.bf q hq)⟩ ⟨qa ft b fun _=>False,hi.step g fr hsz (fun x=>x=b) (fun x ob e hh=> ?_) (fun x ob e hh=> ?_) (fun x ob q e hh hq=> ?_) (fun _ _ _ _ _ e1 e2 _ _ _ _=>e1.trans e2.symm) (fun q hq=> ?_) (fun x hh=> ?_)⟩ (fM hop hrun) ⟨some ⟨k1,base1,none⟩,cap1,rfl,(fun _ e=>by cases e),(fun e=>by cases e),(fun e=>by cases e),hcap,fun ad ha=> ?_⟩
  ·by_cases e:q=k
   ·subst e;rcases b3 with b3|b3
    ·exact absurd b3 hn
    ·omega
   ·exact(hold q (by have:=fr.size;omega) e).trans (fr.mem q hq hn)
  ·rcases hq with hq|rfl|rfl
   ·obtain⟨x1,x2⟩:=fr.fz q hq;exact⟨by omega,x2⟩
   ·exact⟨by omega,by rcases b3 with b3|b3;exact .inr (.inl b3);exact .inr (.inr b3)⟩
   ·rcases hk1 with rfl|⟨rfl,hlt⟩
    ·exact⟨by omega,by rcases b3 with b3|b3;exact .inr (.inl b3);exact .inr (.inr b3)⟩
    ·exact⟨hlt, .inr (.inr fr.size)⟩
  ·rw [hu,ce (Ne.symm e)]at hh;exact⟨hh,fun q hq=>hold q (hi.blk x ob q hh hq).1 (oth x ob q e hh hq),fun q=>by rw [eY e]⟩
  ·subst e;rw [hu,ci rfl]at hh;cases hh;refine⟨k,base,cap,g1,⟨by omega,fun e=>by cases e⟩,fun i' hi' j hj=> ⟨.inr (.inl rfl), ?_⟩⟩;obtain⟨u,hu',hr⟩:=g6 i' hi' j hj;exact⟨u,hc1 _ (rU hi' hj) u hu',bG.gr g.fz g.mem hr⟩
  ·subst e;rw [bB]at hq;exact hq.elim
  ·rcases hq with hq|rfl|rfl
   ·exact .inl hq
   ·exact .inr (.inl ⟨⟨b,_,rfl,hob,g0⟩,fun x ob e hh hq=>by subst e;rw [bB]at hq;exact hq⟩)
   ·rcases hk1 with rfl|⟨rfl,hlt⟩
    ·exact .inr (.inl ⟨⟨b,_,rfl,hob,g0⟩,fun x ob e hh hq=>by subst e;rw [bB]at hq;exact hq⟩)
    ·exact .inr (.inr ⟨cx _,fun x ob e hh hq=>by subst e;rw [bB]at hq;exact hq⟩)
  ·rw [hu]at hh;split at hh
   ·cases hh
   ·exact hi.fresh x hh
  ·cases ha;refine⟨fun _=>rfl,fun i' hi' j hj=> ⟨.inr (.inr rfl), ?_⟩⟩;rw [<-heq i' hi' j hj,jK];split
   ·rename_i hlt;obtain⟨u,hu',hr⟩:=g6 i' hlt j hj;exact⟨u,hc2 _ (rU hlt hj) u hu',bG.gr g.fz g.mem hr⟩
   ·rename_i hge;obtain⟨u,hu',hr⟩:=hels (i' - n) (by omega) j hj;have hsp:=AA (show n<=i' by omega) j (esz:=te.size);refine⟨u, ?_,bG.gr g.fz g.mem hr⟩;have:=hc3 _ (rU (show i' - n<lenx by omega) hj) u hu';rw [hsp];exact this
 have cell0: ∀q u,vs[base+q]? =some u->w.cell? ⟨k,base+q,none⟩=some u:=fun q u hq=>by rw [bS g2];exact hq
 have stay:lenx=0->(Builtin.append_ #[t,t] o.type #[a.eval x,a.eval y]).run P w= .ok (.slice (some ⟨k,base,none⟩) n cap) w->Good P B ρ F w h o a (.v (.one (.d (.sl (some true) te.size (n+lenx) el')))) [(b,some (.frow false e te.size n el))]:=fun l0 hrun=>
  fin k base cap w (by rw [l0];exact hrun) (by omega) (cx _) (.inl rfl) (fun _ _ _=>rfl) rfl rfl (.refl _) (fun q _ u hq=>cell0 q u hq) (fun q _ u hq=>cell0 q u hq) fun q hq=>by rw [l0,Nat.zero_mul]at hq;omega
 rcases hsrc with⟨⟨ad0,c0,hyn⟩,hl0,_⟩|⟨ks,offs,caps,hyv,hn1,hn2,hn3⟩;·exact stay hl0 (by rw [hyn,hv];exact jW h1 hie (.inr ⟨rfl,g4⟩))
 ·by_cases hm:lenx=0
  ·exact stay hm (by rw [hyv,hv,hm];exact jW h1 hie (.inr ⟨rfl,g4⟩))
  ·obtain⟨k1,base1,cap1,row,W,hrun,hway,r1,r2,r3,r4,r5,r6⟩:=FE (P:=P) (w:=w) (t:=t) (ty:=o.type) h1 hie hz hs hby hzsz g2 g3 g4 g5 hn1 hn2 hn3 (ks:=ks) (offs:=offs) (caps:=caps) hmax hbytes;have hrun':(Builtin.append_ #[t,t] o.type #[a.eval x,a.eval y]).run P w= .ok (.slice (some ⟨k1,base1,none⟩) (n+lenx) cap1) W:=by rw [hyv,hv];exact hrun
   have c2: ∀q,q<n*te.size-> ∀u,vs[base+q]? =some u->W.cell? ⟨k1,base1+q,none⟩=some u:=fun q hq u hu'=>by rw [bS r1,r5 q hq];exact hu'
   have c3: ∀q,q<lenx*te.size-> ∀u,news[q]? =some u->W.cell? ⟨k1,base1+(n*te.size+q),none⟩=some u:=fun q hq u hu'=>by rw [bS r1,r6 q hq];exact hu'
   rcases hway with⟨rfl,rfl,rfl,pt⟩|⟨rfl,ps⟩;·exact fin _ _ _ W hrun' r3 (by rw [pt.size];omega) (.inl rfl) (fun q _ hq=>pt.old q hq) pt.os pt.tape pt.output c2 c2 c3
   ·exact fin _ _ _ W hrun' r3 (by rw [ps.sz];omega) (.inr ⟨rfl,by rw [ps.sz];omega⟩) (fun q hq _=>ps.old hq) ps.os ps.tape ps.output (fun q hq u hu'=>by
     have:=cell0 q u hu';rw [cell_of_heap (ps.old b1)];exact this) c2 c3
theorem Jc {x y:Operand} {t e:TypeId} {te:TI} {xs xa:TV} {fresh:Nat} {an:iJ} {obs:List (Option (Option Ob))} {E:Eff} (h1:P.underlying t=some (.slice e))
  (hte:eG P e te) (hop:o.op= .call {callee:= .builtin .append,args:= #[x,y],argTypes:= #[t,t] }) (he:Bc fresh an e te xs xa obs=some E) (hc:All E.conds)
  (hobs:obs=(foot .none fresh o.op [xs,xa]).map h) (fr:Fr B ρ F w) (hi:HI B ρ F w h) (hx:bE ρ F w xs (a.eval x)) (hy:bE ρ F w xa (a.eval y)):Good P B ρ F w h o a E.tv E.hd:=by
 have hfoot: ∀b nn n,xs= .v (.one (.own b nn n))-> ∃rest,obs=h fresh::h b::rest/\ ∀b' qQ n',xa= .v (.one (.own b' qQ n'))-> ∃r,rest=h b'::r:=by
  intro b nn n hxs;subst hxs;rw [hop]at hobs;cases xa with
  |eB l=>simp [foot]at hobs;exact⟨[],hobs,by simp⟩
  |v s=>cases s with
   |agg cs=>simp [foot]at hobs;exact⟨[],hobs,by simp⟩
   |one c=>
    cases c<;>simp [foot]at hobs<;>first|exact⟨[],hobs,by simp⟩|exact⟨_,hobs,fun b' qQ n' hh=>by cases hh;exact⟨[],rfl⟩⟩
 unfold Bc at he;split at he
 ·-- onto an object
  rename_i b nn n;obtain⟨rest',hob',hsrco⟩:=hfoot b nn n rfl;split at he
  ·rename_i ob rest;simp only [List.cons.injEq]at hob';obtain⟨hfr,hob,hrr⟩:=hob';subst hrr;split at he
   ·rename_i eszx lenx elx hsrc;unfold G9 at he;split at he
    ·rename_i E' esz len el;split at he
     ·rename_i len' el';cases hb:(Nat.beq e E' && Nat.beq esz te.size && Nat.beq eszx esz && Nat.ble 1 esz && Nat.beq te.zero.length te.size)with
      |false=>simp [hb]at he
      |true=>
       simp only [hb,bt]at he;simp only [cd]at hb;have e1:=bv hb.1.1.1.1;have e2:=bv hb.1.1.1.2;have e3:=bv hb.1.1.2;have hpos:=cj hb.1.2;have hzl:=bv hb.2;subst e1 e2 e3;cases he;obtain⟨hn,hbytes,hmax,hll,heq,_⟩:=hc;subst hn;subst hll;obtain⟨news,hs1,hs2⟩:=IW hsrc hi hsrco hy;obtain⟨ft,hi⟩:=hi;have hrep:=hi.obj b _ hob.symm;refine Ee (nn:=0) h1 hte hpos hzl hop hfr.symm hob.symm fr hi hx hbytes hmax (fun k base cap hk=> ?_) hs1 (Re.arr hrep hs2 heq);rcases hrep with⟨h0,_⟩|⟨k',base',cap',h0,h00,vs,h2,h3,h4,h5,h6⟩;·rw [hk]at h0;cases h0
       ·rw [hk]at h0;cases h0;exact⟨h00,vs,h2,h3,h4,h5⟩
     ·rename_i len' el';cases hb:(Nat.beq e E' && Nat.beq esz te.size && Nat.beq eszx esz && Nat.ble 1 esz && Nat.beq te.zero.length te.size)with
      |false=>simp [hb]at he
      |true=>
       simp only [hb,bt]at he;simp only [cd]at hb;have e1:=bv hb.1.1.1.1;have e2:=bv hb.1.1.1.2;have e3:=bv hb.1.1.2;have hpos:=cj hb.1.2;have hzl:=bv hb.2;subst e1 e2 e3;cases he;obtain⟨hn,hn0,hbytes,hmax,hll,heq,_⟩:=hc;subst hn;subst hll;obtain⟨news,hs1,hs2⟩:=IW hsrc hi hsrco hy;exact J2 h1 hte hpos hzl hop hob.symm hn0 fr hi hx hbytes hmax hs1 hs2 heq
     ·cases he
    ·rename_i E' esz len el;split at he
     ·rename_i len' el';cases hb:(Nat.beq e E' && Nat.beq esz te.size && Nat.beq eszx esz && Nat.ble 1 esz && Nat.beq te.zero.length te.size)with
      |false=>simp [hb]at he
      |true=>
       simp only [hb,bt]at he;simp only [cd]at hb;have e1:=bv hb.1.1.1.1;have e2:=bv hb.1.1.1.2;have e3:=bv hb.1.1.2;have hpos:=cj hb.1.2;have hzl:=bv hb.2;subst e1 e2 e3;cases he;obtain⟨hn,hn0,hbytes,hmax,hll,heq,_⟩:=hc;subst hn;subst hll;obtain⟨news,hs1,hs2⟩:=IW hsrc hi hsrco hy;exact KH h1 hte hpos hzl hop hob.symm hn0 fr hi hx hbytes hmax hs1 hs2 heq
     ·cases he
    ·rename_i E' esz len el;split at he
     ·rename_i len' el';cases hb:(Nat.beq e E' && Nat.beq esz te.size && Nat.beq eszx esz && Nat.ble 1 esz && Nat.beq te.zero.length te.size)with
      |false=>simp [hb]at he
      |true=>
       simp only [hb,bt]at he;simp only [cd]at hb;have e1:=bv hb.1.1.1.1;have e2:=bv hb.1.1.1.2;have e3:=bv hb.1.1.2;have hpos:=cj hb.1.2;have hzl:=bv hb.2;subst e1 e2 e3;cases he;obtain⟨hn,hbytes,hmax,hll,heq,_⟩:=hc;subst hn;subst hll;obtain⟨news,hs1,hs2⟩:=IW hsrc hi hsrco hy;obtain⟨ft,hi⟩:=hi;have hrep:=hi.obj b _ hob.symm;refine Ee (nn:=0) h1 hte hpos hzl hop hfr.symm hob.symm fr hi hx hbytes hmax (fun k base cap hk=> ?_) hs1 (Re.rows hrep hs2 heq);rcases hrep with⟨h0,_⟩|⟨k',base',cap',vs,rb,h0,h00,h2,h3,h4,h5,h6⟩;·rw [hk]at h0;cases h0
       ·rw [hk]at h0;cases h0;exact⟨h00,vs,h2,h3,h4,h5⟩
     ·cases he
    ·cases he
   ·cases he
  ·cases he
 ·rename_i esz0 len0 el0;split at he
  ·rename_i rest;split at he
   ·rename_i eszx lenx elx hsrc;unfold GU at he;split at he
    ·rename_i len' el';cases hb:(Nat.beq eszx te.size && Nat.ble 1 te.size && Nat.beq te.zero.length te.size)with
     |false=>simp [hb]at he
     |true=>
      simp only [hb,bt]at he;simp only [cd]at hb;have e3:=bv hb.1.1;have hpos:=cj hb.1.2;have hzl:=bv hb.2;subst e3;cases he;obtain⟨hbytes,hmax,hll,heq,_⟩:=hc;have hll:=hll.symm;subst hll;have hfo:h fresh=none/\ ∀b' qQ n',xa= .v (.one (.own b' qQ n'))-> ∃r,rest=h b'::r:=by
       rw [hop]at hobs;cases xa with
       |eB l=>simp [foot]at hobs;exact⟨hobs.1.symm,by simp⟩
       |v s=>cases s with
        |agg cs=>simp [foot]at hobs;exact⟨hobs.1.symm,by simp⟩
        |one c=>
         cases c
         case own b2 n2 l2=>simp [foot]at hobs;exact⟨hobs.1.symm,fun b' qQ n' hh=>by cases hh;exact⟨[],hobs.2⟩⟩
         all_goals (simp [foot]at hobs;exact⟨hobs.1.symm,by simp⟩)
      obtain⟨hfr,hsrco⟩:=hfo;obtain⟨_,i,z,hie,hs,hby,hz,hzc⟩:=hte;have hzsz:z.cells.size=te.size:=by rw [<-de,hzc,hzl]
      have hρf:=hi.fresh fresh hfr;have grn: ∀p,Gr ρ F w (bN ρ fresh p) F w:=fun p=> ⟨aS hρf,fun _ h=>h,fun _ _=>rfl⟩;have frn: ∀p,Fr B (bN ρ fresh p) F w:=fun p=>{fr with rho:=fun b' p' e=>aS hρf b' p' (fr.rho b' p' e)};have hv:a.eval x= .slice none 0 0:=by
       obtain⟨ad,cap,hv,_,h2,h3,_⟩:=hx;have:=h2 rfl;subst this;obtain⟨rfl,rfl⟩:=h3 rfl;exact hv
      have nilway:(Builtin.append_ #[t,t] o.type #[a.eval x,a.eval y]).run P w= .ok (.slice none 0 0) w->lenx=0->Good P B ρ F w h o a (.v (.one (.own fresh false lenx))) [(fresh,some (.arr e te.size lenx el'))]:=by
       intro hrun h0;subst h0;exact bI (grn _) (frn _) (hi.Ml fr hfr (.inl ⟨ay _ _,rfl⟩)) (fM hop hrun) (.inr ⟨rfl,ay _ _,rfl,rfl⟩)
      rcases Hl hsrc hi hsrco hy with⟨⟨ad0,c0,hyn⟩,hl0⟩|⟨ks,offs,caps,hyv,news,hn1,hn2,hn3,hn4⟩;·exact nilway (by rw [hyn,hv];exact jW (k:=0) (base:=0) (cap:=0) (n:=0) h1 hie (.inl ⟨rfl,rfl⟩)) hl0
      ·by_cases hm:lenx=0
       ·exact nilway (by rw [hyv,hv,hm];exact AX h1 hie _ _) hm
       ·obtain⟨cap1,row,W,hrun,ps,r1,r2,r3,r4,r6⟩:=append_nil (P:=P) (w:=w) (t:=t) (ty:=o.type) h1 hie hz hs hby hzsz hn1 hn2 (ks:=ks) (offs:=offs) (caps:=caps) hmax hbytes (by omega);have hr:(execOp a.eval o).run P w= .ok (.value (.slice (some ⟨w.heap.size,0,none⟩) lenx cap1)) W:=fM hop (by rw [hyv,hv];exact hrun);have gr1:=ps.gr fr (b:=fresh) (pl:= .blk w.heap.size 0 cap1) hρf;refine bI gr1 (ps.fr fr hρf) (ps.hi fr hi hfr (base:=0) (cap:=cap1) (.inr ⟨_,0,cap1,ay _ _,rfl,row,r1,by rw [r2,cC];exact cx _,r3,r4,fun i' hi' j hj=> ?_⟩)) hr (.inl ⟨_,0,cap1,ay _ _,rfl⟩);obtain⟨u,hu,hr'⟩:=hn4 i' hi' j hj;rw [cC,r6 _ (rU hi' hj),<-heq i' hi' j hj];exact⟨u,hu,bG.gr gr1.fz gr1.mem hr'⟩
    ·cases he
   ·cases he
  ·cases he
 ·cases he
theorem Lx {x y:Operand} {t t' e:TypeId} {kn:IntKind} {te:TI} {xs xa:TV} {fresh:Nat} {an:iJ} {obs:List (Option (Option Ob))} {E:Eff} (h1:P.underlying t=some (.slice e)) (h2:P.underlying t'=some (.int kn))
  (hte:eG P e te) (hop:o.op= .call {callee:= .builtin .append,args:= #[x,y],argTypes:= #[t,t'] }) (he:I4 fresh an e te xs xa obs=some E) (hc:All E.conds)
  (hobs:obs=(foot .none fresh o.op [xs,xa]).map h) (fr:Fr B ρ F w) (hi:HI B ρ F w h) (hx:bE ρ F w xs (a.eval x)) (hy:bE ρ F w xa (a.eval y)):Good P B ρ F w h o a E.tv E.hd:=by
 unfold I4 at he;split at he
 ·rename_i esz0 len0 el0 kl l len' el' zc hzv;rw [hop]at hobs;simp [foot]at hobs;have hfr:h fresh=none:=hobs.symm;cases hb:(Nat.beq te.zero.length te.size && Nat.ble 1 te.size)with
  |false=>simp [hb]at he
  |true=>
   simp only [hb,bt]at he;simp only [cd]at hb;have hzl:=bv hb.1;have hpos:=cj hb.2;cases he;obtain⟨h0,hbytes,hmax,hle,heq,_⟩:=hc;subst hle;obtain⟨_,i,z,hie,hs,hby,hz,hzc⟩:=hte;have hzsz:z.cells.size=te.size:=by rw [<-de,hzc,hzl]
   have hρf:=hi.fresh fresh hfr;have hv:a.eval x= .slice none 0 0:=by
    obtain⟨ad,cap,hv,_,h2,h3,_⟩:=hx;have:=h2 rfl;subst this;obtain⟨rfl,rfl⟩:=h3 rfl;exact hv
   have hv2:a.eval y= .int kl l:=hy;obtain⟨n,rfl⟩:=Int.eq_ofNat_of_zero_le (Int.le_of_lt h0);simp only [bw,Int.ofNat_eq_natCast]at*
   have h0:0<n:=by omega
   have hnb:n*i.bytes<=281474976710656:=by
    rw [hby,ed];exact Int.ofNat_le.mp (by rw [Int.natCast_mul];omega)
   have hrun:=Lib.run_append_nil_zeros (P:=P) w t t' o.type e i z kl kn h1 h2 hie hz n h0 (by omega) (by omega) hnb;have hr:(execOp a.eval o).run P w= .ok (.value (.slice (some ⟨w.heap.size,0,none⟩) n (grownCap w n 0 e))) _:=fM hop (by rw [hv,hv2];exact hrun);have p:=Push.sH w (.cells (Builtin.zeroCells z.cells n++Builtin.zeroCells z.cells (grownCap w n 0 e - n)) e);have hgc:=grownCap_ge w n 0 e;have hgm:=grownCap_le_maxLen w n 0 e (by unfold maxLen;omega);have gr1:=p.gr fr (b:=fresh) (pl:= .blk w.heap.size 0 (grownCap w n 0 e)) hρf;refine bI gr1 (p.fr fr hρf) (p.hi fr hi hfr (base:=0) (cap:=grownCap w n 0 e) (.inr ⟨_,0,grownCap w n 0 e,ay _ _,rfl,(Builtin.zeroCells z.cells n++Builtin.zeroCells z.cells (grownCap w n 0 e - n)).toList, ?_, ?_,hgc,hgm,fun i' hi' j hj=> ?_⟩)) hr (.inl ⟨_,0,grownCap w n 0 e,ay _ _,rfl⟩);·exact heap_alloc_new w.drew _
   ·rw [de,Array.size_append,size_zeroCells,size_zeroCells,hzsz,cC,<-ee];exact cG _ (by omega)
   ·have hin:i'*te.size+j<n*te.size:=by
     have:(i'+1)*te.size<=n*te.size:=cG _ (by omega);rw [ee,ef]at this;omega
    have hg:(Builtin.zeroCells z.cells n).toList[i'*te.size+j]? =z.cells.toList[j]? :=by
     have:=xE z.cells (n*z.cells.size) i' j (by omega) (by rw [hzsz];exact hin);rw [hzsz]at this;rw [<-this,<-hzsz];rfl
    have hsz:=size_zeroCells z.cells n;have hzr:=jD (ρ:=ρ) (F:=F) (w:=w) hzv;rw [<-hzc]at hzr;have hlz:=hzr.length;simp only [de,dg]at hlz;have hg2:(zc.map CV.d)[j]? =some (.d (zc.getD j .nilp)):=by
     have hb2:j<zc.length:=by omega
     rw [dj,cS,cR hb2];rfl
    obtain⟨u,hu',hr⟩:=hzr.get hg2;refine⟨u, ?_, ?_⟩
    ·rw [cC,Array.toList_append,cT (by rw [de,hsz,hzsz];exact hin),hg];exact hu'
    ·rw [<-heq i' hi' j hj];exact dK.gr (p.gr fr (pl:= .blk w.heap.size 0 (grownCap w n 0 e)) hρf) hr
 ·cases he
end
end Sg
