import Derived.Test.YtklofnlffikpgaaGreatCoLa
import Derived.Laws.StructEq
import Derived.Laws.CopyRow
import Derived.Laws.IdiomCopy
import Derived.OrdersIn
set_option linter.all false
namespace Sg
open Go
section
variable {P:Program} {B:Base} {ρ ρ':Nat->Option Pl} {F F':Nat->Prop} {w w':World} {h:Hp} {o:Oper} {a:Act} {T:List (Nat × TI)}
theorem M6 {t:TypeId} {x:Operand} {ti:TI} {ds:List DV} {xa:TV} {obs:List (Option (Option Ob))} {E:Eff} (ht:iC P t ti) (hop:o.op= .load t x) (he:Fh ti ds xa obs=some E) (hc:All E.conds)
  (hobs:obs=(foot .none 0 (.load t x) [xa]).map h) (fr:Fr B ρ F w) (hi:HI B ρ F w h) (hx:bM ρ F w xa (a.eval x)):Good P B ρ F w h o a E.tv E.hd:=by
 unfold Fh at he
 split at he
 ·rename_i n c
  obtain⟨ad,hv,hs,hcell⟩:=hx
  cases hb:(Nat.ble ti.size n && Nat.beq ds.length ti.size)with
  |false=>simp [hb]at he
  |true=>
   simp only [hb,bt]at he
   simp only [ce]at hb
   have hle:=cm hb.1
   have hlen:=bv hb.2
   split at he
   ·rename_i s hsv
    cases he
    obtain⟨hq,_⟩:=hc
    obtain⟨ak,aoff,asp⟩:=ad
    simp at hs;subst hs
    obtain⟨v,h1,h2⟩:=jl (P:=P) (ρ:=ρ) (F:=F) (w:=w) ht hsv (by simp [hlen]) (k:=ak) (off:=aoff) fun j cv hj=>by
     rw [du]at hj
     obtain⟨d,hd,rfl⟩:=Option.map_eq_some_iff.1 hj
     have hlt:j<ti.size:=by rw [<-hlen];exact(List.getElem?_eq_some_iff.1 hd).1
     obtain⟨_,u,hu,hr⟩:=hcell j (by omega)
     have e:=hq 0 (by omega) j hlt
     have e':c j=d:=e.trans (by show ds.getD j .nilp=d;rw [cU,hd];rfl)
     exact⟨u,by simpa using hu,by rw [e']at hr;exact hr⟩
    exact aJ fr hi (zX hop hv h1) h2
   ·cases he
 ·rename_i b off E' cs
  obtain⟨k,base,cap,hk,hv⟩:=hx
  split at he
  ·rename_i s hsv
   cases he
   obtain⟨hle,hq,_⟩:=hc
   simp [foot]at hobs
   obtain⟨ft,hi⟩:=id hi
   obtain⟨k',cap',vs,h1,h0,h2,h3⟩:=hi.obj b _ hobs.symm
   rw [hk]at h1;cases h1
   rw [cD]at hv
   obtain⟨v,g1,g2⟩:=jl (P:=P) (ρ:=ρ) (F:=F) (w:=w) ht hsv (by rw [<-hq];simp;omega) (k:=k) (off:=off) fun j cv hj=>by
    rw [<-hq,List.getElem?_take]at hj
    split at hj
    ·rw [List.getElem?_drop]at hj
     obtain⟨u,hu,hr⟩:=h3.get hj
     exact⟨u,by rw [eB h2];exact hu,hr⟩
    ·cases hj
   exact aJ fr ⟨ft,hi⟩ (zX hop hv g1) g2
  ·cases he
 ·cases he
theorem JU {t:TypeId} {x y:Operand} {ti:TI} {ds:List DV} {xa xv:TV} {an:pI} {obs:List (Option (Option Ob))} {E:Eff} (ht:iC P t ti) (hop:o.op= .store t x y) (he:DR ti ds xa xv obs=some E) (hc:All E.conds)
  (hobs:obs=(foot .none 0 (.store t x y) [xa,xv]).map h) (fr:Fr B ρ F w) (hi:HI B ρ F w h) (hx:bM ρ F w xa (a.eval x)) (hy:bM ρ F w xv (a.eval y)):Good P B ρ F w h o a E.tv E.hd:=by
 unfold DR at he
 split at he
 ·rename_i b off s E' cs
  cases hb:Nat.beq (cellsOf s).length ti.size with
  |false=>simp [hb]at he
  |true=>
   simp only [hb,bt]at he
   have he1:=bv hb
   cases he
   obtain⟨hle,hq,_⟩:=hc
   have he2:zu an ti (.v (.one (.ptr b off))) (.v s) [some (some (.cells E' cs))]=some ⟨[], .fF [],[(b,some (.cells E' (ds.map .d)))]⟩:=by
    have:Nat.ble (off+ti.size) cs.length=true:=Nat.ble_eq_true_of_le hle
    simp only [zu,hb,this,Bool.and_self,bt,hq]
   exact Ev (E:=⟨[], .fF [],[(b,some (.cells E' (ds.map .d)))]⟩) ht hop he2 trivial hobs fr hi hx hy
 ·cases he
theorem Ka (hT:pW P T) {t:TypeId} {x y:Operand} {ti:TI} {ds:List DV} {xa xv:TV} {E:Eff} (ht:iC P t ti) (hop:o.op= .index t x y) (he:Eg T ds ti.d xa xv=some E) (hc:All E.conds)
  (fr:Fr B ρ F w) (hi:HI B ρ F w h) (hx:bM ρ F w xa (a.eval x)) (hy:bM ρ F w xv (a.eval y)):Good P B ρ F w h o a E.tv E.hd:=by
 unfold Eg at he
 split at he
 ·rename_i n e cs k i hd
  split at he
  ·rename_i te hte
   split at he
   ·rename_i s hsv
    cases he
    obtain⟨⟨hi0,hi1⟩,hle,hq,_⟩:=hc
    obtain⟨vs,hv,hr⟩:=hx
    have hyv:a.eval y= .int k i:=hy
    have hu:=aS (w:=w) ht
    rw [hd]at hu
    have hs:=dU (w:=w) (hT.get hte)
    have hg:=tO (w:=w) (hT.get hte)
    have hsub:bP ρ F w (ds.map .d) ((vs.drop (i.toNat*te.size)).take te.size):=by
     rw [<-hq]
     refine bP.oV (by simp [hr.length]) fun j c hj=> ?_
     rw [List.getElem?_take]at hj ⊢
     split at hj
     ·rename_i e;rw [cj e];rw [List.getElem?_drop]at hj ⊢;exact hr.get hj
     ·cases hj
    have hl:=hr.length
    have hin:(0<=i/\i<(n:Int)):=⟨hi0,hi1⟩
    cases hagg:te.agg with
    |true=>
     rw [hagg]at hsv hg
     simp [mq]at hsv
     subst hsv
     refine aJ (v:= .agg ((vs.drop (i.toNat*te.size)).take te.size).toArray) fr hi ?_ ⟨_,rfl,hsub⟩
     simp [execOp,hop,Instr.index,hu,hv,hyv,asIntOf,part,hg,hs,hin]
    |false=>
     rw [hagg]at hsv hg
     match ds,hsv with
     |[c],hsv=>
      simp [mq]at hsv
      subst hsv
      match hvs:(vs.drop (i.toNat*te.size)).take te.size,hsub with
      |[v],hsub=>
       have hsz:te.size≠0:=by
        intro e0;rw [e0]at hvs;simp at hvs
       have hget:vs[i.toNat*te.size]? =some v:=by
        have:=congrArg (·[0]?) hvs
        simp only [List.getElem?_take,List.getElem?_drop]at this
        rw [cj (by omega)]at this
        simpa using this
       have hlt:i.toNat*te.size<vs.length:=(List.getElem?_eq_some_iff.1 hget).1
       have hget':vs[i.toNat*te.size]=v:=by rw [cT hlt]at hget;exact Option.some.inj hget
       refine aJ (v:=v) fr hi ?_ hsub.1
       simp [execOp,hop,Instr.index,hu,hv,hyv,asIntOf,part,hg,hs,hin,hlt,hget']
   ·cases he
  ·cases he
 ·cases he
theorem R8 {op:BinOp} {t t':TypeId} {x y:Operand} {ti:TI} {dx dy:DV} {E:Eff} (ht:iC P t ti) (hop:o.op= .binOp op t x y t') (he:Nv op ti.d dx dy=some E)
  (fr:Fr B ρ F w) (hi:HI B ρ F w h) (hx:bS F w dx (a.eval x)) (hy:bS F w dy (a.eval y)):Good P B ρ F w h o a E.tv E.hd:=by
 have hu:=aS (w:=w) ht
 have key: ∀{n:Bool} {esz len esz':Nat} {el el':Nat->Nat->DV},bS F w (.sl (some n) esz len el) (a.eval x)->bS F w (.sl (some false) esz' 0 el') (a.eval y)->
   ∃ad l c,a.eval x= .slice ad l c/\ad.isNone=(!n)/\a.eval y= .slice none 0 0:=by
  rintro n esz len esz' el el' ⟨ad,cap,hv,h1,h2,h3,_⟩ ⟨ad',cap',hv',_,g2,g3,_⟩
  have:=g2 rfl;subst this
  obtain⟨_,rfl⟩:=g3 rfl
  refine⟨ad,len,cap,hv, ?_,hv'⟩
  cases n with
  |true=>have:=h1 rfl;cases ad<;>simp_all
  |false=>have:=h2 rfl;subst this;rfl
 unfold Nv at he
 split at he
 ·rename_i e n esz len el esz' el' hd
  cases dH he
  obtain⟨ad,l,c,e1,e2,e3⟩:=key hx hy
  rw [hd]at hu
  refine aJ (v:= .bool (!n)) fr hi (rG hop ?_ ?_) rfl
  ·rw [e1,e3];rfl
  ·rw [e1,e3]
   show(do pure (Value.bool (<-Op.equal t _ _)):Sem Value).run P w=_
   have:(Op.equal t (.slice ad l c) (.slice none 0 0)).run P w= .ok ad.isNone w:=by
    show(Op.equalIn (9999+1) t _ _).run P w=_
    rw [Op.equalIn]
    cases ad<;>simp [hu]
   simp only [Sem.run_bind,this,Result.andThen_ok,e2];rfl
 ·rename_i e n esz len el esz' el' hd
  cases dH he
  obtain⟨ad,l,c,e1,e2,e3⟩:=key hx hy
  rw [hd]at hu
  refine aJ (v:= .bool n) fr hi (rG hop ?_ ?_) rfl
  ·rw [e1,e3];rfl
  ·rw [e1,e3]
   show(do pure (Value.bool (!(<-Op.equal t _ _))):Sem Value).run P w=_
   have:(Op.equal t (.slice ad l c) (.slice none 0 0)).run P w= .ok ad.isNone w:=by
    show(Op.equalIn (9999+1) t _ _).run P w=_
    rw [Op.equalIn]
    cases ad<;>simp [hu]
   simp only [Sem.run_bind,this,Result.andThen_ok,e2,Bool.not_not];rfl
 ·cases he
end
def ja:DV->Value
 | .int k n=> .int k n
 | .bool b=> .bool b
 |_=>undef
def gL (agg:Bool) (vs:List Value):Value:=bif agg then .agg vs.toArray else vs.headD undef
theorem wL {ρ:Nat->Option Pl} {F:Nat->Prop} {w:World}: ∀{ks:List (Option IntKind)} {ds:List DV} {vs:List Value},aA ks ds=true->bP ρ F w (ds.map .d) vs->vs=ds.map ja
 |[],[],[],_,_=>rfl
 |some k::ks, .int k' n::ds,v::vs,hk,⟨h1,h2⟩=>by
  simp only [aA,ce]at hk
  have:v= .int k' n:=h1
  rw [this,wL hk.2 h2];rfl
 |none::ks, .bool b::ds,v::vs,hk,⟨h1,h2⟩=>by
  have:v= .bool b:=h1
  rw [this,wL (ks:=ks) hk h2];rfl
 |_,[],_::_,_,h=>h.elim
 |_,_::_,[],_,h=>h.elim
 |_::_,[],_,hk,_=>by simp [aA]at hk
 |[],_::_,_,hk,_=>by simp [aA]at hk
 |none::_, .int _ _::_,_,hk,_=>by simp [aA]at hk
 |some _::_, .bool _::_,_,hk,_=>by simp [aA]at hk
 |_::_, .str _::_,_,hk,_=>by simp [aA]at hk
 |_::_, .sl _ _ _ _::_,_,hk,_=>by simp [aA]at hk
 |_::_, .ip _ _::_,_,hk,_=>by simp [aA]at hk
 |_::_, .nilp::_,_,hk,_=>by simp [aA]at hk
 |_::_, .fn _ _ _::_,_,hk,_=>by simp [aA]at hk
 |_::_, .nilf::_,_,hk,_=>by simp [aA]at hk
 |_::_, .nilm::_,_,hk,_=>by simp [aA]at hk
theorem gU: ∀{ks:List (Option IntKind)} {ds:List DV},aA ks ds=true->ds.length=ks.length
 |[],[],_=>rfl
 |some k::ks, .int k' n::ds,hk=>by
  simp only [aA,ce]at hk
  simp [gU hk.2]
 |none::ks, .bool b::ds,hk=>by simp [gU (ks:=ks) hk]
 |_::_,[],hk=>by simp [aA]at hk
 |[],_::_,hk=>by simp [aA]at hk
 |none::_, .int _ _::_,hk=>by simp [aA]at hk
 |some _::_, .bool _::_,hk=>by simp [aA]at hk
 |_::_, .str _::_,hk=>by simp [aA]at hk
 |_::_, .sl _ _ _ _::_,hk=>by simp [aA]at hk
 |_::_, .ip _ _::_,hk=>by simp [aA]at hk
 |_::_, .nilp::_,hk=>by simp [aA]at hk
 |_::_, .fn _ _ _::_,hk=>by simp [aA]at hk
 |_::_, .nilf::_,hk=>by simp [aA]at hk
 |_::_, .nilm::_,hk=>by simp [aA]at hk
theorem jH: ∀{ks ks':List (Option IntKind)} {ds:List DV},aA (ks++ks') ds=true-> ∃d1 d2,ds=d1++d2/\aA ks d1=true/\aA ks' d2=true
 |[],ks',ds,hk=> ⟨[],ds,rfl,rfl,hk⟩
 |some k::ks,ks', .int k' n::ds,hk=>by
  simp only [d7,aA,ce]at hk
  obtain⟨d1,d2,e,h1,h2⟩:=jH hk.2
  exact⟨.int k' n::d1,d2,by rw [e];rfl,by simp [aA,hk.1,h1],h2⟩
 |none::ks,ks', .bool b::ds,hk=>by
  simp only [d7,aA]at hk
  obtain⟨d1,d2,e,h1,h2⟩:=jH hk
  exact⟨.bool b::d1,d2,by rw [e];rfl,by simp [aA,h1],h2⟩
 |_::_,_,[],hk=>by simp [aA]at hk
 |none::_,_, .int _ _::_,hk=>by simp [aA]at hk
 |some _::_,_, .bool _::_,hk=>by simp [aA]at hk
 |_::_,_, .str _::_,hk=>by simp [aA]at hk
 |_::_,_, .sl _ _ _ _::_,hk=>by simp [aA]at hk
 |_::_,_, .ip _ _::_,hk=>by simp [aA]at hk
 |_::_,_, .nilp::_,hk=>by simp [aA]at hk
 |_::_,_, .fn _ _ _::_,hk=>by simp [aA]at hk
 |_::_,_, .nilf::_,hk=>by simp [aA]at hk
 |_::_,_, .nilm::_,hk=>by simp [aA]at hk
theorem Bo: ∀{d1 e1 d2 e2:List DV} {b:Bool},d1.length=e1.length->jO (d1++d2) (e1++e2)=some b-> ∃b1 b2,jO d1 e1=some b1/\jO d2 e2=some b2/\b=(b1 && b2)
 |[],[],d2,e2,b,_,he=> ⟨true,b,rfl,he,by simp⟩
 |x::d1,y::e1,d2,e2,b,hl,he=>by
  simp only [d7,jO]at he
  split at he
  ·rename_i p q h1 h2
   cases he
   obtain⟨b1,b2,g1,g2,g3⟩:=Bo (by simpa using hl) h2
   exact⟨p && b1,b2,by simp [jO,h1,g1],g2,by rw [g3,Bool.and_assoc]⟩
  ·cases he
 |[],_::_,_,_,_,hl,_=>by simp at hl
 |_::_,[],_,_,_,hl,_=>by simp at hl
section
variable {P:Program} {B:Base} {ρ ρ':Nat->Option Pl} {F F':Nat->Prop} {w w':World} {h:Hp} {o:Oper} {a:Act} {T:List (Nat × TI)}
theorem yV {t:TypeId} {ti:TI} (ht:iC P t ti) {pre dl post:List DV} (hl:dl.length=ti.size) (h1:ti.agg=false->dl.length=1):
  (part t ((pre++(dl++post)).map ja).toArray pre.length).run P w= .ok (gL ti.agg (dl.map ja)) w:=by
 have hs:=dU (w:=w) ht
 have hg:=tO (w:=w) ht
 cases hagg:ti.agg with
 |true=>
  rw [hagg]at hg
  simp only [part,Sem.run_bind,hg,hs,Result.andThen_ok,if_true,Sem.run_pure,gL,bt]
  congr 2
  rw [<-hl]
  simp
 |false=>
  rw [hagg]at hg
  match dl,h1 hagg with
  |[d],_=>
   simp [part,hg,gL]
theorem wI {d:Nat} {t:TypeId} {ti:TI} {ks:List (Option IntKind)} (hf:flatK T d t=some ks) (hti:get T t=some ti) (hagg:ti.agg=false):ks.length=1:=by
 cases d with
 |zero=>simp [flatK]at hf
 |succ d=>
  unfold flatK at hf
  rw [hti]at hf
  simp only at hf
  split at hf
  ·cases hb:Nat.beq ti.size 1 with
   |true=>simp only [hb,bt]at hf;cases hf;rfl
   |false=>simp [hb]at hf
  ·cases hb:Nat.beq ti.size 1 with
   |true=>simp only [hb,bt]at hf;cases hf;rfl
   |false=>simp [hb]at hf
  ·rename_i hd;simp [TI.agg,hd]at hagg
  ·rename_i hd;simp [TI.agg,hd]at hagg
  ·cases hf
theorem Cj (hT:pW P T) {d D:Nat} (ih: ∀t ks ti,flatK T d t=some ks->get T t=some ti->ks.length=ti.size/\ ∀w ds es b,aA ks ds=true->aA ks es=true->jO ds es=some b->(Op.equalIn D t (gL ti.agg (ds.map ja)) (gL ti.agg (es.map ja))).run P w= .ok b w):
  ∀(fs:List Field) (ks:List (Option IntKind)) (off:Nat) (pre pre' ds es:List DV) (b:Bool) (w:World),flatK.flatFs T (flatK T d) off fs=some ks->pre.length=off->pre'.length=off->aA ks ds=true->aA ks es=true->jO ds es=some b->
   (Op.eqFields D ((pre++ds).map ja).toArray ((pre'++es).map ja).toArray fs).run P w= .ok b w
 |[],ks,off,pre,pre',ds,es,b,w,hf,hp,hp',hk,hk',he=>by
  simp [flatK.flatFs]at hf;subst hf
  match ds,es,hk,hk' with
  |[],[],_,_=>simp [jO]at he;subst he;simp [Op.eqFields]
 |f::fs,ks,off,pre,pre',ds,es,b,w,hf,hp,hp',hk,hk',he=>by
  simp only [flatK.flatFs]at hf
  split at hf
  ·rename_i l tf h1 h2
   cases hb:(Nat.beq f.offset off && Nat.beq l.length tf.size && !(f.name== "_"))with
   |false=>simp [hb]at hf
   |true=>
    simp only [hb,bt]at hf
    simp only [ce,dd]at hb
    have e1:=bv hb.1.1
    have e2:=bv hb.1.2
    have hname:f.name≠ "_" :=by simpa using hb.2
    split at hf
    ·rename_i m hm
     cases hf
     obtain⟨d1,d2,rfl,k1,k2⟩:=jH hk
     obtain⟨c1,c2,rfl,k1',k2'⟩:=jH hk'
     have l1:=gU k1
     have l1':=gU k1'
     obtain⟨b1,b2,q1,q2,rfl⟩:=Bo (by rw [l1,l1']) he
     have p1:=yV (w:=w) (hT.get h2) (pre:=pre) (dl:=d1) (post:=d2) (by rw [l1,e2]) (fun ha=>by rw [l1];exact wI h1 h2 ha)
     have p2:=yV (w:=w) (hT.get h2) (pre:=pre') (dl:=c1) (post:=c2) (by rw [l1',e2]) (fun ha=>by rw [l1'];exact wI h1 h2 ha)
     rw [hp,<-e1]at p1
     rw [hp',<-e1]at p2
     have q:=(ih _ _ _ h1 h2).2 w d1 c1 b1 k1 k1' q1
     simp only [Op.eqFields,ne_eq,hname,not_false_eq_true,if_true,Sem.run_bind,p1,p2,q,Result.andThen_ok]
     by_cases hb1:b1=true
     ·subst hb1
      simp only [cE,Bool.false_eq_true,if_false,cR]
      have:=Cj hT ih fs m (off+l.length) (pre++d1) (pre'++c1) d2 c2 b2 w hm (by simp [hp,l1]) (by simp [hp',l1']) k2 k2' q2
      rw [cS,cS]at this
      exact this
     ·have:b1=false:=by simpa using hb1
      subst this
      simp
    ·cases hf
  ·cases hf
theorem Eu (hT:pW P T) {D:Nat} {e:TypeId} {l:List (Option IntKind)} {te:TI} (hte:get T e=some te) (hl:l.length=te.size) (h1:te.agg=false->l.length=1)
  (ih: ∀w ds es b,aA l ds=true->aA l es=true->jO ds es=some b->(Op.equalIn D e (gL te.agg (ds.map ja)) (gL te.agg (es.map ja))).run P w= .ok b w) (xs ys:Array Value):
  ∀(n start:Nat) (pre pre' ds es:List DV) (b:Bool) (w:World),pre.length=start*te.size->pre'.length=start*te.size->aA (List.replicate n l).flatten ds=true->aA (List.replicate n l).flatten es=true->jO ds es=some b->
   xs=((pre++ds).map ja).toArray->ys=((pre'++es).map ja).toArray->
   (forIn (m:=Sem) (List.range' start n) ((none,()):Option Bool × Unit) fun i _=>do
    if !(<-Op.equalIn D e (<-part e xs (i*te.size)) (<-part e ys (i*te.size)))then pure (ForInStep.done (some false,()))else pure (ForInStep.yield (none,()))).run P w= .ok (if b=true then none else some false,()) w
 |0,start,pre,pre',ds,es,b,w,_,_,hk,hk',he,_,_=>by
  match ds,es,hk,hk' with
  |[],[],_,_=>simp [jO]at he;subst he;simp
 |n+1,start,pre,pre',ds,es,b,w,hp,hp',hk,hk',he,hx,hy=>by
  rw [List.replicate_succ,List.flatten_cons]at hk hk'
  obtain⟨d1,d2,rfl,k1,k2⟩:=jH hk
  obtain⟨c1,c2,rfl,k1',k2'⟩:=jH hk'
  have l1:=gU k1
  have l1':=gU k1'
  obtain⟨b1,b2,q1,q2,rfl⟩:=Bo (by rw [l1,l1']) he
  have p1:=yV (w:=w) (hT.get hte) (pre:=pre) (dl:=d1) (post:=d2) (by rw [l1,hl]) (fun ha=>by rw [l1];exact h1 ha)
  have p2:=yV (w:=w) (hT.get hte) (pre:=pre') (dl:=c1) (post:=c2) (by rw [l1',hl]) (fun ha=>by rw [l1'];exact h1 ha)
  rw [hp,<-hx]at p1
  rw [hp',<-hy]at p2
  have q:=ih w d1 c1 b1 k1 k1' q1
  rw [List.range'_succ,List.forIn_cons]
  simp only [Sem.run_bind,p1,p2,q,Result.andThen_ok]
  by_cases hb1:b1=true
  ·subst hb1
   simp only [cE,Bool.false_eq_true,if_false,cR,Sem.run_pure,Result.andThen_ok]
   exact Eu hT hte hl h1 ih xs ys n (start+1) (pre++d1) (pre'++c1) d2 c2 b2 w (by simp [hp,l1,hl,ep]) (by simp [hp',l1',hl,ep]) k2 k2' q2 (by rw [cS];exact hx) (by rw [cS];exact hy)
  ·have:b1=false:=by simpa using hb1
   subst this
   simp
theorem uH (hT:pW P T): ∀d D,d<=D-> ∀t ks ti,flatK T d t=some ks->get T t=some ti->ks.length=ti.size/\ ∀w ds es b,aA ks ds=true->aA ks es=true->jO ds es=some b->
  (Op.equalIn D t (gL ti.agg (ds.map ja)) (gL ti.agg (es.map ja))).run P w= .ok b w
 |0,_,_,_,_,_,hf,_=>by simp [flatK]at hf
 |d+1,0,hd,_,_,_,_,_=>absurd hd (by omega)
 |d+1,D+1,hd,t,ks,ti,hf,hti=>by
  have ht:=hT.get hti
  unfold flatK at hf
  rw [hti]at hf
  simp only at hf
  split at hf
  ·rename_i k hdd
   cases hb:Nat.beq ti.size 1 with
   |false=>simp [hb]at hf
   |true=>
    simp only [hb,bt]at hf
    cases hf
    refine⟨(bv hb).symm,fun w ds es b hk hk' he=> ?_⟩
    match ds,es,hk,hk',he with
    |[.int k1 x],[.int k2 y],hk,hk',he=>
     simp [aA]at hk hk'
     subst hk;subst hk'
     simp [jO,Tt]at he
     subst he
     have hu:=aS (w:=w) ht
     rw [hdd]at hu
     have hagg:ti.agg=false:=by simp [TI.agg,hdd]
     simp [Op.equalIn,hu,gL,hagg,ja,mG]
    | .int _ _::_::_,_,hk,_,_=>simp [aA]at hk
    |[.int _ _], .int _ _::_::_,_,hk',_=>simp [aA]at hk'
  ·rename_i hdd
   cases hb:Nat.beq ti.size 1 with
   |false=>simp [hb]at hf
   |true=>
    simp only [hb,bt]at hf
    cases hf
    refine⟨(bv hb).symm,fun w ds es b hk hk' he=> ?_⟩
    match ds,es,hk,hk',he with
    |[.bool x],[.bool y],hk,hk',he=>
     simp [jO,Tt]at he
     subst he
     have hu:=aS (w:=w) ht
     rw [hdd]at hu
     have hagg:ti.agg=false:=by simp [TI.agg,hdd]
     simp [Op.equalIn,hu,gL,hagg,ja]
  ·rename_i fs hdd
   cases heq:ti.eq with
   |false=>simp [heq]at hf
   |true=>
    simp only [heq,bt]at hf
    split at hf
    ·rename_i l hl
     cases hb:Nat.beq l.length ti.size with
     |false=>simp [hb]at hf
     |true=>
      simp only [hb,bt]at hf
      cases hf
      refine⟨bv hb,fun w ds es b hk hk' he=> ?_⟩
      have hagg:ti.agg=true:=by simp [TI.agg,hdd]
      have hu:=ht.1
      rw [hdd]at hu
      have hfs:P.fieldsOf t=fs:=by simp [Program.fieldsOf,hu]
      rw [hagg]
      simp only [gL,bt]
      rw [run_equalIn_agg w D t _ _ (by rw [hfs];exact hu) (hT.Zf hti heq).1,hfs]
      have:=Cj hT (d:=d) (D:=D) (fun t ks ti hf hti=>uH hT d D (by omega) t ks ti hf hti) fs.toList ks 0 [] [] ds es b w hl rfl rfl hk hk' he
      simpa using this
    ·cases hf
  ·rename_i n e hdd
   split at hf
   ·rename_i l te hl hte
    cases hb:(Nat.beq l.length te.size && Nat.beq (List.replicate n l).flatten.length ti.size)with
    |false=>rw [hb]at hf;cases hf
    |true=>
     simp only [hb,bt]at hf
     cases hf
     simp only [ce]at hb
     refine⟨bv hb.2,fun w ds es b hk hk' he=> ?_⟩
     have hagg:ti.agg=true:=by simp [TI.agg,hdd]
     have hu:=aS (w:=w) ht
     rw [hdd]at hu
     have hs:=dU (w:=w) (hT.get hte)
     have:=Eu (w:=w) hT hte (bv hb.1) (fun ha=>wI hl hte ha) (uH hT d D (by omega) e l te hl hte).2 (ds.map ja).toArray (es.map ja).toArray n 0 [] [] ds es b (by simp) (by simp) hk hk' he (by simp) (by simp)
     rw [hagg]
     simp only [gL,bt]
     rw [Op.equalIn]
     simp only [Sem.run_bind,hu,hs,Result.andThen_ok]
     simp only [Std.Legacy.Range.forIn_eq_forIn_range',Std.Legacy.Range.size,Nat.sub_zero,Nat.add_sub_cancel,Nat.div_one]
     rw [this]
     cases b<;>simp
   ·cases hf
  ·cases hf
theorem MN (hT:pW P T) {op:BinOp} {t t':TypeId} {x y:Operand} {ti:TI} {xs ys:List CV} {E:Eff} (hti:get T t=some ti) (hop:o.op= .binOp op t x y t') (he:GJ T op t xs ys=some E)
  (fr:Fr B ρ F w) (hi:HI B ρ F w h) (hx:gT ρ F w (.agg xs) (a.eval x)) (hy:gT ρ F w (.agg ys) (a.eval y)) (hagg:ti.agg=true) (hg:P.eqGuardType P.depth t=false):Good P B ρ F w h o a E.tv E.hd:=by
 unfold GJ at he
 split at he
 ·rename_i ks ds es hf h1 h2
  rw [jC h1]at hx
  rw [jC h2]at hy
  obtain⟨vs,e1,r1⟩:=hx
  obtain⟨us,e2,r2⟩:=hy
  cases hb:(aA ks ds && aA ks es)with
  |false=>simp [hb]at he
  |true=>
   simp only [hb,bt]at he
   simp only [ce]at hb
   rw [wL hb.1 r1]at e1
   rw [wL hb.2 r2]at e2
   have key: ∀b,jO ds es=some b->(Op.equalIn 10000 t (.agg (ds.map ja).toArray) (.agg (es.map ja).toArray)).run P w= .ok b w:=fun b hb'=>by
    have:=(uH hT 8 10000 (by omega) t ks ti hf hti).2 w ds es b hb.1 hb.2 hb'
    rw [hagg]at this
    exact this
   split at he
   ·rename_i b hb'
    cases dH he
    refine aJ (v:= .bool b) fr hi (rG hop ?_ ?_) rfl
    ·rw [e1,e2];exact run_eqGuard_agg w _ t x y _ _ hg
    ·rw [e1,e2,run_eql_struct,key b hb'];rfl
   ·rename_i b hb'
    cases dH he
    refine aJ (v:= .bool (!b)) fr hi (rG hop ?_ ?_) rfl
    ·rw [e1,e2];exact run_eqGuard_agg w _ t x y _ _ hg
    ·rw [e1,e2,run_neq_struct,key b hb'];rfl
   ·cases he
 ·cases he
end
section
variable {P:Program} {B:Base} {ρ ρ':Nat->Option Pl} {F F':Nat->Prop} {w w':World} {h:Hp} {o:Oper} {a:Act} {T:List (Nat × TI)}
theorem rH.split {ft:Nat->Nat->Prop} {S1 S2:Nat->Prop} (fr:Fr B ρ F w) (hi:rH B ρ F w h ft) {b c:Nat} {p:Pl} {ob nb nc:Ob} (hb:h b=some (some ob)) (hc:h c=none)
  (h1: ∀k,S1 k->ft b k) (h2: ∀k,S2 k->ft b k) (hd: ∀k,S1 k->S2 k->False) (r1:jB (bL ρ c p) F w S1 b nb) (r2:jB (bL ρ c p) F w S2 c nc):
  rH B (bL ρ c p) F w (upd h [(b,some nb),(c,some nc)]) (vU (vU ft b S1) c S2):=by
 have hρ':=hi.fresh c hc
 have hbc:b≠c:=fun e=>by rw [e,hc]at hb;cases hb
 have g:Gr ρ F w (bL ρ c p) F w:=⟨aO hρ',fun _ h=>h,fun _ _=>rfl⟩
 have hu: ∀x,upd h [(b,some nb),(c,some nc)] x=if b=x then some (some nb)else if c=x then some (some nc)else h x:=by
  intro x;exact Aa _ _ _ _ _
 have fb:vU (vU ft b S1) c S2 b=S1:=by rw [eY hbc,bB]
 have fc:vU (vU ft b S1) c S2 c=S2:=bB _ _ _
 refine hi.step g fr (cz _) (fun x=>x=b\/x=c) (fun x ob' e hh=> ?_) (fun x ob' e hh=> ?_) (fun x ob' k e hh hf=> ?_) (fun b1 b2 o1 o2 k e1 e2 _ _ f1 f2=> ?_) (fun k hk=> .inl hk) fun x hh=> ?_
 ·rw [hu,ci (fun e'=>e (.inl e'.symm)),ci (fun e'=>e (.inr e'.symm))]at hh
  exact⟨hh,fun _ _=>rfl,fun k=>by rw [eY (fun e'=>e (.inr e')),eY (fun e'=>e (.inl e'))]⟩
 ·rcases e with rfl|rfl
  ·rw [hu,cj rfl]at hh;cases hh;rw [fb];exact r1
  ·rw [hu,ci hbc,cj rfl]at hh;cases hh;rw [fc];exact r2
 ·rcases e with rfl|rfl
  ·rw [fb]at hf;exact .inl ⟨x,ob, .inl rfl,hb,h1 k hf⟩
  ·rw [fc]at hf;exact .inl ⟨b,ob, .inl rfl,hb,h2 k hf⟩
 ·rcases e1 with rfl|rfl<;>rcases e2 with rfl|rfl
  ·rfl
  ·rw [fb]at f1;rw [fc]at f2;exact(hd k f1 f2).elim
  ·rw [fc]at f1;rw [fb]at f2;exact(hd k f2 f1).elim
  ·rfl
 ·rw [hu]at hh
  split at hh
  ·cases hh
  ·split at hh
   ·cases hh
   ·rename_i e;rw [show bL ρ c p x=ρ x by simp [bL,Ne.symm e]];exact hi.fresh x hh
theorem NK {t:TypeId} {x:Operand} {c:Nat} {ti:TI} {xa:TV} {obs:List (Option (Option Ob))} {E:Eff} (ht:iC P t ti) (hop:o.op= .load t x) (he:Kz c ti xa obs=some E) (hc:All E.conds)
  (hobs:obs=(foot (.take c) 0 (.load t x) [xa]).map h) (fr:Fr B ρ F w) (hi:HI B ρ F w h) (hx:bM ρ F w xa (a.eval x)):Good P B ρ F w h o a E.tv E.hd:=by
 obtain⟨ft,hi⟩:=hi
 unfold Kz at he
 split at he
 ·rename_i b esz i off E' esz' len el
  obtain⟨k,base,cap,hk,hv⟩:=hx
  cases hb:(Nat.beq esz esz' && Nat.beq ti.size 1 && !ti.agg && Nat.blt off esz)with
  |false=>simp [hb]at he
  |true=>
   simp only [hb,bt]at he
   simp only [ce,dd]at hb
   have e1:=bv hb.1.1.1
   have e2:=bv hb.1.1.2
   have e3:ti.agg=false:=hb.1.2
   have hlo:off<esz:=cm (n:=off+1) hb.2
   subst e1
   split at he
   ·rename_i E1 esz1 n el1 hel
    cases he
    obtain⟨hlt,_⟩:=hc
    simp [foot]at hobs
    obtain⟨hob,hcn⟩:=hobs
    rcases hi.obj b _ hob.symm with⟨_,h0⟩|⟨k',base',cap',vs,rb,h1,h0,h2,h3,h4,h5,h6,h7,h8⟩
    ·omega
    ·rw [hk]at h1;cases h1
     obtain⟨u,hu,hr⟩:=h6 i hlt off hlo
     have hr:iE F w (ft b) (rb i off) (el i off) u:=hr
     rw [hel]at hr
     have hload:(loadVar t ⟨k,base+(i*esz+off),none⟩).run P w= .ok u w:=by
      have hcell:w.cell? ⟨k,base+(i*esz+off),none⟩=some u:=by rw [eB h2];exact hu
      rw [loadVar,Sem.run_bind,tO ht]
      simp [e3,hcell]
     have hrun:=zX hop hv hload
     have hρc:=hi.fresh c hcn.symm
     have hbc:b≠c:=fun e=>by rw [e,<-hcn]at hob;cases hob
     have grn: ∀p,Gr ρ F w (bL ρ c p) F w:=fun p=> ⟨aO hρc,fun _ h=>h,fun _ _=>rfl⟩
     have frn: ∀p,Fr B (bL ρ c p) F w:=fun p=>{fr with rho:=fun b' p' e=>aO hρc b' p' (fr.rho b' p' e)}
     have rest: ∀(p:Pl) (S1:Nat->Prop),(∀q,S1 q↔ft b q/\rb i off≠some q)->eP (bL ρ c p) F w (.own c false n) u->jB (bL ρ c p) F w S1 b (.rows E' esz len el (some (i,off, .own c false n))):=by
      intro p S1 hS1 hcu
      refine .inr ⟨k,base,cap,vs,rb,aO hρc _ _ hk,(hS1 k).2 ⟨h0,h8 i off⟩,h2,h3,h4,h5,fun i' hi' j' hj'=> ?_,h7,h8⟩
      obtain⟨u',hu',hr'⟩:=h6 i' hi' j' hj'
      refine⟨u',hu', ?_⟩
      unfold Ah
      simp only
      split
      ·rename_i e;obtain⟨rfl,rfl⟩:=e
       rw [hu]at hu';cases hu';exact hcu
      ·rename_i hne
       have hr':iE F w (ft b) (rb i' j') (el i' j') u':=hr'
       cases hel':el i' j' with
       |d x=>rw [hel']at hr';exact hr'
       |row E2 esz2 n2 el2=>
        rw [hel']at hr'
        rcases hr' with hr'|⟨q,bq,cq,q1,q2,q3,q4⟩
        ·exact .inl hr'
        ·exact .inr ⟨q,bq,cq,q1,(hS1 q).2 ⟨q2,fun e=>hne (h7 _ _ _ _ _ q1 e)⟩,q3,q4⟩
     rcases hr with⟨n0,hu0⟩|⟨q,bq,cq,q1,q2,q3,q4⟩
     ·have hcu:eP (bL ρ c .nil) F w (.own c false n) u:= .inr ⟨rfl,au _ _,n0,hu0⟩
      exact bO (grn .nil) (frn .nil) ⟨_,rH.split (S1:=fun q=>ft b q/\rb i off≠some q) (S2:=fun _=>False) fr hi hob.symm hcn.symm (fun _ h=>h.1) (fun _ h=>h.elim) (fun _ _ h=>h) (rest _ _ (fun _=>Iff.rfl) hcu) (.inl ⟨au _ _,n0⟩)⟩ hrun hcu
     ·have hcu:eP (bL ρ c (.blk q bq cq)) F w (.own c false n) u:= .inl ⟨q,bq,cq,au _ _,q3⟩
      exact bO (grn _) (frn _) ⟨_,rH.split (S1:=fun q'=>ft b q'/\rb i off≠some q') (S2:=fun q'=>q'=q) fr hi hob.symm hcn.symm (fun _ h=>h.1) (fun q' h=>h ▸ q2) (fun q' h1 h2=>h1.2 (by rw [q1,h2])) (rest _ _ (fun _=>Iff.rfl) hcu) (.inr ⟨q,bq,cq,au _ _,rfl,q4⟩)⟩ hrun hcu
   ·cases he
 ·cases he
theorem rH.merge {ft:Nat->Nat->Prop} {S:Nat->Prop} (fr:Fr B ρ F w) (hi:rH B ρ F w h ft) {b c k:Nat} {ob oc nb:Ob} (hb:h b=some (some ob)) (hc:h c=some (some oc)) (hbc:b≠c) (pt:Put w w' k) (hk:ft b k)
  (hS: ∀k,S k->ft b k\/ft c k) (r:jB ρ F w' S b nb):rH B ρ F w' (upd h [(b,some nb),(c,none)]) (vU ft b S):=by
 have hkk:=(hi.blk b ob k hb hk).2.1
 have hu: ∀x,upd h [(b,some nb),(c,none)] x=if b=x then some (some nb)else if c=x then some none else h x:=by
  intro x;exact Aa _ _ _ _ _
 refine hi.step (pt.gr hkk) fr (by rw [pt.size];omega) (fun x=>x=b\/x=c) (fun x ob' e hh=> ?_) (fun x ob' e hh=> ?_) (fun x ob' k e hh hf=> ?_) (fun b1 b2 o1 o2 k e1 e2 h1 h2 _ _=> ?_) (fun k hk=> .inl hk) fun x hh=> ?_
 ·rw [hu,ci (fun e'=>e (.inl e'.symm)),ci (fun e'=>e (.inr e'.symm))]at hh
  exact⟨hh,fun q hq=>pt.old q fun e'=>e (.inl (hi.dis x b ob' ob q hh hb hq (e' ▸ hk))),fun k=>by rw [eY (fun e'=>e (.inl e'))]⟩
 ·rcases e with rfl|rfl
  ·rw [hu,cj rfl]at hh;cases hh;rw [bB];exact r
  ·rw [hu,ci hbc,cj rfl]at hh;cases hh
 ·rcases e with rfl|rfl
  ·rw [bB]at hf
   rcases hS k hf with q|q
   ·exact .inl ⟨x,ob, .inl rfl,hb,q⟩
   ·exact .inl ⟨c,oc, .inr rfl,hc,q⟩
  ·rw [hu,ci hbc,cj rfl]at hh;cases hh
 ·have key: ∀x ob',(x=b\/x=c)->upd h [(b,some nb),(c,none)] x=some (some ob')->x=b:=fun x ob' e hh=>by
   rcases e with e|e
   ·exact e
   ·subst e;rw [hu,ci hbc,cj rfl]at hh;cases hh
  rw [key b1 o1 e1 h1,key b2 o2 e2 h2]
 ·rw [hu]at hh
  split at hh
  ·cases hh
  ·split at hh
   ·cases hh
   ·exact hi.fresh x hh
theorem Sq {t:TypeId} {x y:Operand} {ti:TI} {xa xv:TV} {len':Nat} {el':Nat->Nat->EV} {obs:List (Option (Option Ob))} {E:Eff} (ht:iC P t ti) (hop:o.op= .store t x y) (he:O1 el' ti xa xv obs=some E) (hc:All E.conds)
  (hobs:obs=(foot (.rows len' el') 0 (.store t x y) [xa,xv]).map h) (fr:Fr B ρ F w) (hi:HI B ρ F w h) (hx:bM ρ F w xa (a.eval x)) (hy:bM ρ F w xv (a.eval y)):Good P B ρ F w h o a E.tv E.hd:=by
 classical
 obtain⟨ft,hi⟩:=hi
 unfold O1 at he
 split at he
 ·rename_i b esz i off c nn n E' esz' len el ov E1 esz1 n1 el1
  cases hb:(Nat.beq esz esz' && Nat.beq ti.size 1 && Nat.blt off esz && !(Nat.beq b c))with
  |false=>simp [hb]at he
  |true=>
   simp only [hb,bt]at he
   simp only [ce,dd]at hb
   have e1:=bv hb.1.1.1
   have e2:=bv hb.1.1.2
   have hlo:off<esz:=cm (n:=off+1) hb.1.2
   have hbc:b≠c:=Nat.ne_of_beq_eq_false hb.2
   subst e1
   cases he
   obtain⟨hlt,hn,heq,hov,_⟩:=hc
   subst hn
   simp [foot]at hobs
   obtain⟨hob,hoc⟩:=hobs
   obtain⟨k,base,cap,hk,hv⟩:=hx
   rcases hi.obj b _ hob.symm with⟨_,h0⟩|⟨k',base',cap',vs,rb,h1,h0,h2,h3,h4,h5,h6,h7,h8⟩
   ·omega
   ·rw [hk]at h1;cases h1
    have hys:(a.eval y).oneCell'=true:=eP.oneCell hy
    have hyl:(a.eval y).cells.toList=[a.eval y]:=by rw [AV hys]
    have hin:i*esz+off+1<=cap*esz:=row_in hlt h4 (by omega)
    have hrun:=Bl ht hop hv h2 hyl (by rw [e2];rfl) (by rw [e2];omega) (fun v hv=>by simp at hv;rw [hv];exact hys)
    rw [e2]at hrun
    have hblk:=hi.blk b _ k hob.symm h0
    have pt:=Put.setRow w k (vs.take (base+(i*esz+off))++[a.eval y]++vs.drop (base+(i*esz+off)+1)).toArray
    have gr:=pt.gr (ρ:=ρ) hblk.2.1
    have hcoth: ∀q,ft c q->q≠k:=fun q hq e=>hbc (hi.dis b c _ _ k hob.symm hoc.symm h0 (e ▸ hq))
    have hrow:(n=0/\a.eval y= .slice none 0 0)\/ ∃q bq cq,ft c q/\a.eval y= .slice (some ⟨q,bq,none⟩) n cq/\tY F w q bq cq E1 esz1 n el1:=by
     rcases hy with⟨q,bq,cq,hq,hv'⟩|⟨_,hq,h0',hv'⟩
     ·rcases hi.obj c _ hoc.symm with⟨g0,_⟩|⟨q',bq',cq',g0,g00,g1⟩
      ·rw [hq]at g0;cases g0
      ·rw [hq]at g0;cases g0;exact .inr ⟨q,bq,cq,g00,hv',g1⟩
     ·exact .inl ⟨h0',hv'⟩
    obtain⟨nq,hnq⟩: ∃nq:Option Nat,(nq=none/\n=0/\a.eval y= .slice none 0 0)\/ ∃q bq cq,nq=some q/\ft c q/\a.eval y= .slice (some ⟨q,bq,none⟩) n cq/\tY F w q bq cq E1 esz1 n el1:=by
     rcases hrow with⟨x1,x2⟩|⟨q,bq,cq,x1,x2,x3⟩
     ·exact⟨none, .inl ⟨rfl,x1,x2⟩⟩
     ·exact⟨some q, .inr ⟨q,bq,cq,rfl,x1,x2,x3⟩⟩
    have nqc: ∀q,nq=some q->ft c q:=fun q e=>by
     rcases hnq with⟨e',_⟩|⟨q',_,_,e',hf,_⟩
     ·rw [e']at e;cases e
     ·rw [e']at e;cases e;exact hf
    obtain⟨rb',hrb⟩: ∃rb':Nat->Nat->Option Nat,∀i' j',rb' i' j'=if i'=i/\j'=off then nq else(match rb i' j' with|some q=>if ft b q then some q else none|none=>none):=⟨_,fun _ _=>rfl⟩
    have hrb0: ∀i' j' q, ¬ (i'=i/\j'=off)->(rb' i' j'=some q↔rb i' j'=some q/\ft b q):=fun i' j' q hne=>by
     rw [hrb,ci hne]
     cases rb i' j' with
     |none=>simp
     |some q'=>
      simp only [Option.some.injEq]
      split
      ·rename_i hf;constructor
       ·rintro e;cases e;exact⟨rfl,hf⟩
       ·rintro ⟨e,_⟩;rw [e]
      ·rename_i hf;constructor
       ·intro e;cases e
       ·rintro ⟨e,hf'⟩;subst e;exact absurd hf' hf
    refine tL gr (pt.fr fr hblk.2.2) ⟨_,rH.merge (S:=fun q=>ft b q\/ft c q) fr hi hob.symm hoc.symm hbc pt h0 (fun _ h=>h) ?_⟩ hrun
    refine .inr ⟨k,base,cap,_,rb',hk, .inl h0,setRow_heap w k _ _ E' (0,0) h2, ?_,h4,h5,fun i' hi' j hj=> ?_,fun i1 j1 i2 j2 q q1 q2=> ?_,fun i' j' e=> ?_⟩
    ·simp only [cd,d8,d_,c7,List.length_nil];omega
    ·have hlook:=dW vs [a.eval y] (base+(i*esz+off)) (by simp;omega) (base+(i'*esz+j))
     simp only [c7,List.length_nil,cD]at hlook
     rw [hlook]
     by_cases e:i'=i/\j=off
     ·obtain⟨rfl,rfl⟩:=e
      refine⟨a.eval y,by rw [ci (by omega),cj (by omega)];simp, ?_⟩
      show iE F _ _ _ (el' i' j) _
      rw [<-heq i' hi' j hj,XM,cj ⟨rfl,rfl⟩,hrb,cj ⟨rfl,rfl⟩]
      rcases hnq with⟨_,x1,x2⟩|⟨q,bq,cq,e,hf,x2,x3⟩
      ·exact .inl ⟨x1,x2⟩
      ·exact .inr ⟨q,bq,cq,e, .inr hf,x2,x3.keep gr (pt.old q (hcoth q hf))⟩
     ·obtain⟨u,hu,hr⟩:=h6 i' hi' j hj
      have hne:i'*esz+j≠i*esz+off:=fun e'=>by
       have:=idx_eq (n:=1) hj (show i*esz+off<=i'*esz+j by omega) (by omega) (by omega)
       exact e ⟨this.1,by omega⟩
      refine⟨u, ?_, ?_⟩
      ·by_cases hl:i'*esz+j<i*esz+off
       ·rw [cj (by omega)];exact hu
       ·rw [ci (by omega),ci (by omega)];exact hu
      ·show iE F _ _ _ (el' i' j) _
       rw [<-heq i' hi' j hj,XM,ci e]
       have hr':iE F w (ft b) (rb i' j) (el i' j) u:=by
        unfold Ah at hr
        split at hr
        ·exact hr
        ·rename_i i0 j0 c0
         obtain⟨rfl,rfl⟩:=hov i0 j0 c0 rfl
         rw [ci e]at hr;exact hr
       cases hel:el i' j with
       |d x=>rw [hel]at hr';exact bS.gr gr.fz gr.mem hr'
       |row E2 esz2 n2 el2=>
        rw [hel]at hr'
        rcases hr' with hr'|⟨q,bq,cq,q1,q2,q3,q4⟩
        ·exact .inl hr'
        ·exact .inr ⟨q,bq,cq,(hrb0 i' j q e).2 ⟨q1,q2⟩, .inl q2,q3,q4.keep gr (pt.old q fun e'=>h8 i' j (by rw [q1,e']))⟩
    ·by_cases c1:i1=i/\j1=off<;>by_cases c2:i2=i/\j2=off
     ·exact⟨c1.1.trans c2.1.symm,c1.2.trans c2.2.symm⟩
     ·rw [hrb,cj c1]at q1
      have:=(hrb0 _ _ _ c2).1 q2
      exact absurd (hi.dis b c _ _ q hob.symm hoc.symm this.2 (nqc q q1)) hbc
     ·rw [hrb,cj c2]at q2
      have:=(hrb0 _ _ _ c1).1 q1
      exact absurd (hi.dis b c _ _ q hob.symm hoc.symm this.2 (nqc q q2)) hbc
     ·exact h7 _ _ _ _ _ ((hrb0 _ _ _ c1).1 q1).1 ((hrb0 _ _ _ c2).1 q2).1
    ·by_cases c1:i'=i/\j'=off
     ·rw [hrb,cj c1]at e;exact hcoth k (nqc k e) rfl
     ·exact h8 _ _ ((hrb0 _ _ _ c1).1 e).1
 ·cases he
end
section
variable {P:Program} {B:Base} {ρ ρ':Nat->Option Pl} {F F':Nat->Prop} {w w':World} {h:Hp} {o:Oper} {a:Act} {T:List (Nat × TI)}
def Gd (ρ:Nat->Option Pl) (F:Nat->Prop) (w:World):Option TV->Option Value->Prop
 |some tv,some v=>bM ρ F w tv v
 |none,none=>True
 |_,_=>False
def xg:Vq->Nat->Nat
 | .lo l,_=>l.toNat
 | .bo l _,_=>l.toNat
 |_,_=>0
def Hz:Vq->Nat->Nat
 | .hi h,_=>h.toNat
 | .bo _ h,_=>h.toNat
 |_,len=>len
def Vy:Vq->Nat->Prop
 | .lo l,len=>0<=l/\l<=len
 | .hi h,len=>0<=h/\h<=len
 | .all,_=>True
 | .bo l h,len=>0<=l/\l<=h/\h<=len
def BdV (bd:Vq) (lo hi:Option Value):Prop:=
 match bd with
 | .lo l=>(∃k,lo=some (.int k l))/\hi=none
 | .hi h=>lo=none/\ ∃k,hi=some (.int k h)
 | .all=>lo=none/\hi=none
 | .bo l h=>(∃k,lo=some (.int k l))/\ ∃k,hi=some (.int k h)
theorem tN {bd:Vq} {lo hi:Option Value} {is:Bool} {len cap:Nat} (hv:BdV bd lo hi) (hb:Vy bd len) (hlc:len<=cap):(Instr.sliceBounds is len cap lo hi none).run P w= .ok (xg bd len,Hz bd len,cap) w/\xg bd len<=Hz bd len/\Hz bd len<=len:=by
 cases bd with
 |lo l=>
  obtain⟨⟨k,rfl⟩,rfl⟩:=hv
  obtain⟨h1,h2⟩:=hb
  refine⟨?_,by simp [xg,Hz];omega,by simp [Hz]⟩
  simp [Instr.sliceBounds,Instr.sliceBound,asIntOf,xg,Hz,h1,h2]
 |hi l=>
  obtain⟨rfl,⟨k,rfl⟩⟩:=hv
  obtain⟨h1,h2⟩:=hb
  have h3:l<=(cap:Int):=by omega
  refine⟨?_,by simp [xg],by simp [Hz];omega⟩
  simp [Instr.sliceBounds,Instr.sliceBound,asIntOf,xg,Hz,h1,h3]
 |all=>
  obtain⟨rfl,rfl⟩:=hv
  exact⟨by simp [Instr.sliceBounds,xg,Hz],by simp [xg],by simp [Hz]⟩
 |bo l m=>
  obtain⟨⟨k,rfl⟩,⟨k',rfl⟩⟩:=hv
  obtain⟨h1,h2,h4⟩:=hb
  have h3:m<=(cap:Int):=by omega
  have h5:0<=m:=by omega
  have h6:l.toNat<=m.toNat:=by omega
  have h7:l<=(m.toNat:Int):=by omega
  refine⟨?_,by simp [xg,Hz];omega,by simp [Hz];omega⟩
  simp [Instr.sliceBounds,Instr.sliceBound,asIntOf,xg,Hz,h1,h3,h5]
  intro hq;omega
theorem uQ {t e:TypeId} {x:Operand} {lo hi:Option Operand} {ti te:TI} {bd:Vq} (ht:iC P t ti) (hd:ti.d= .slice e) (hte:iC P e te) (hop:o.op= .slice t x lo hi none) {ad:Option Addr} {len cap:Nat} (hx:a.eval x= .slice ad len cap)
  (hv:BdV bd (lo.map a.eval) (hi.map a.eval)) (hb:Vy bd len) (hlc:len<=cap):
  (execOp a.eval o).run P w= .ok (.value (.slice (if cap=xg bd len then ad else ad.map (·.add (xg bd len*te.size))) (Hz bd len - xg bd len) (cap - xg bd len))) w:=by
 have hu:=aS (w:=w) ht
 rw [hd]at hu
 have hs:=dU (w:=w) hte
 obtain⟨hbd,_⟩:=tN (P:=P) (w:=w) (is:=true) hv hb hlc
 simp [execOp,hop,Instr.sliceAt,Instr.slice,hu,hs,hx,hbd]
theorem zN {t e:TypeId} {n:Nat} {x:Operand} {ti te:TI} (ht:iC P t ti) (hd:ti.d= .array n e) (hte:iC P e te) (hop:o.op= .slice t x none none none) {k off:Nat} (hx:a.eval x= .pointer (some ⟨k,off,none⟩)):
  (execOp a.eval o).run P w= .ok (.value (.slice (some ⟨k,off,none⟩) n n)) w:=by
 have hu:=aS (w:=w) ht
 rw [hd]at hu
 have hs:=dU (w:=w) hte
 simp [execOp,hop,Instr.sliceAt,hu,hs,hx,Instr.sureAddr,Instr.sliceBounds,iP]
theorem JB {lo:Option Operand} {xs xs':List TV} {l:Option TV} {vs:List Value} (h:JC lo xs=some (l,xs')) (hx:iH ρ F w xs (lo.toArray.toList.map a.eval++vs)):
  iH ρ F w xs' vs/\Gd ρ F w l (lo.map a.eval):=by
 cases lo with
 |none=>simp [JC]at h;obtain⟨rfl,rfl⟩:=h;exact⟨by simpa using hx,trivial⟩
 |some y=>
  cases xs with
  |nil=>simp [JC]at h
  |cons x xs=>
   simp [JC]at h
   obtain⟨rfl,rfl⟩:=h
   simp at hx
   exact⟨hx.2,hx.1⟩
theorem Wp {lo hi:Option TV} {vl vh:Option Value} {bd:Vq} (h:Ub lo hi=some bd) (hl:Gd ρ F w lo vl)
  (hh:Gd ρ F w hi vh):BdV bd vl vh:=by
 unfold Ub at h
 split at h
 ·rename_i k l
  cases h
  cases vl with
  |none=>exact hl.elim
  |some v=>
   cases vh with
   |some _=>exact hh.elim
   |none=>have hl:v= .int k l:=hl;exact⟨⟨k,by rw [hl]⟩,rfl⟩
 ·rename_i k l
  cases h
  cases vh with
  |none=>exact hh.elim
  |some v=>
   cases vl with
   |some _=>exact hl.elim
   |none=>have hh:v= .int k l:=hh;exact⟨rfl,k,by rw [hh]⟩
 ·cases h
  cases vl with
  |some _=>exact hl.elim
  |none=>cases vh with
   |some _=>exact hh.elim
   |none=>exact⟨rfl,rfl⟩
 ·rename_i k l k' m
  cases h
  cases vl with
  |none=>exact hl.elim
  |some v=>
   cases vh with
   |none=>exact hh.elim
   |some u=>
    have hl:v= .int k l:=hl
    have hh:u= .int k' m:=hh
    exact⟨⟨k,by rw [hl]⟩,k',by rw [hh]⟩
 ·cases h
theorem rH.aaW {ft:Nat->Nat->Prop} (fr:Fr B ρ F w) (hi:rH B ρ F w h ft) {b k:Nat} {cap:Nat} {E:TypeId} {ds:List DV} (hb:h b=some (some (.cells E (ds.map .d)))) (hk:ρ b=some (.blk k 0 cap)) (hf:ft b k):
  rH B ρ (fun q=>F q\/q=k) w (upd h [(b,some (.fcells E ds))]) (vU ft b fun _=>False)/\Fr B ρ (fun q=>F q\/q=k) w:=by
 obtain⟨g1,g2,g3⟩:=hi.blk b _ k hb hf
 have g:Gr ρ F w ρ (fun q=>F q\/q=k) w:=⟨fun _ _ h=>h,fun _ h=> .inl h,fun _ _=>rfl⟩
 have hu: ∀b',upd h [(b,some (.fcells E ds))] b'=if b=b' then some (some (.fcells E ds))else h b':=fun b'=>pR _ _ _
 refine⟨hi.step g fr (cz _) (fun x=>x=b) (fun x ob e hh=> ?_) (fun x ob e hh=> ?_) (fun x ob q e hh hq=> ?_) (fun _ _ _ _ _ e1 e2 _ _ _ _=>e1.trans e2.symm) (fun q hq=> ?_) (fun x hh=> ?_),{fr with fz:=fun q hq=> ?_,bf:=fun q hq=> .inl (fr.bf q hq)}⟩
 ·rw [hu,ci (Ne.symm e)]at hh;exact⟨hh,fun _ _=>rfl,fun k=>by rw [eY e]⟩
 ·subst e;rw [hu,cj rfl]at hh;cases hh
  obtain⟨k',cap',vs,h1,h0,h2,h3⟩:=hi.obj x _ hb
  rw [hk]at h1;cases h1
  refine⟨k,0,cap,hk,fun j y hy=> ⟨.inr rfl, ?_⟩⟩
  obtain⟨u,hu',hr⟩:=h3.get (j:=j) (c:= .d y) (by rw [du,hy];rfl)
  exact⟨u,by rw [cD,eB h2];exact hu',bS.gr g.fz g.mem hr⟩
 ·subst e;rw [bB]at hq;exact hq.elim
 ·rcases hq with hq|hq
  ·exact .inl hq
  ·subst hq
   exact .inr (.inl ⟨⟨b,_,rfl,hb,hf⟩,fun x ob e hh hq=>by subst e;rw [bB]at hq;exact hq⟩)
 ·rw [hu]at hh;split at hh
  ·cases hh
  ·exact hi.fresh x hh
 ·rcases hq with hq|hq
  ·exact fr.fz q hq
  ·subst hq;exact⟨g1,by rcases g3 with g3|g3;exact .inr (.inl g3);exact .inr (.inr g3)⟩
theorem DT {t e:TypeId} {n:Nat} {x:Operand} {lo hi:Option Operand} {ti te:TI} (ht:iC P t ti) (hd:ti.d= .array n e) (hte:iC P e te) (hop:o.op= .slice t x lo hi none) {k off:Nat} (hx:a.eval x= .pointer (some ⟨k,off,none⟩)) {l:Int}
  (hv:BdV (.lo l) (lo.map a.eval) (hi.map a.eval)) (hb:0<=l/\l<n):(execOp a.eval o).run P w= .ok (.value (.slice (some ⟨k,off+l.toNat*te.size,none⟩) (n - l.toNat) (n - l.toNat))) w:=by
 have hu:=aS (w:=w) ht
 rw [hd]at hu
 have hs:=dU (w:=w) hte
 obtain⟨hbd,_⟩:=tN (P:=P) (w:=w) (is:=false) (len:=n) (cap:=n) hv ⟨hb.1,by omega⟩ (cz n)
 have hne:n≠l.toNat:=by omega
 simp [execOp,hop,Instr.sliceAt,hu,hs,hx,Instr.sureAddr,hbd,iP,xg,Hz,hne]
theorem rH.Zl {ft:Nat->Nat->Prop} (fr:Fr B ρ F w) (hi:rH B ρ F w h ft) {b fresh l esz:Nat} (hfr:h fresh=none) {p:Pl} (hp:jB (bL ρ fresh p) F w (fun _=>False) fresh (.suf b l esz)):HI B (bL ρ fresh p) F w (upd h [(fresh,some (.suf b l esz))]):=by
 have hρf:=hi.fresh fresh hfr
 have g:Gr ρ F w (bL ρ fresh p) F w:=⟨aO hρf,fun _ h=>h,fun _ _=>rfl⟩
 have hu: ∀x,upd h [(fresh,some (.suf b l esz))] x=if x=fresh then some (some (.suf b l esz))else h x:=fun x=>by
  show(match get [(fresh,some (.suf b l esz))] x with|some o=>some o|none=>h x)=_
  rw [av]
  by_cases e:fresh=x
  ·rw [cj e,cj e.symm]
  ·rw [ci e,ci (Ne.symm e)];rfl
 refine⟨fun x k=>x≠fresh/\ft x k,hi.step g fr (cz _) (fun x=>x=fresh) (fun x ob hx hh=> ?_) (fun x ob hx hh=> ?_) (fun x ob k hx hh hf=>absurd hx hf.1) (fun x x' ob ob' k hx _ _ _ hf _=>absurd hx hf.1) (fun k hk=> .inl hk) fun x hx=> ?_⟩
 ·rw [hu,ci hx]at hh
  exact⟨hh,fun _ _=>rfl,fun k=> ⟨fun q=>q.2,fun q=> ⟨hx,q⟩⟩⟩
 ·subst hx
  rw [hu,cj rfl]at hh
  cases hh
  exact hp.keep (.refl _ _ _) (fun _ q=>q.elim) (fun _ q=>q.elim)
 ·rw [hu]at hx
  split at hx
  ·cases hx
  ·rename_i hxf
   unfold bL;rw [ci hxf];exact hi.fresh x hx
theorem MO (hT:pW P T) {t:TypeId} {x:Operand} {lo hi':Option Operand} {ti:TI} {xa:TV} {l hh:Option TV} {fresh:Nat} {an:pI} {obs:List (Option (Option Ob))} {E:Eff} (ht:iC P t ti) (hop:o.op= .slice t x lo hi' none)
  (he:Gz T fresh an ti.d xa l hh obs=some E) (hc:All E.conds) (hobs: ∃r,obs=(foot an fresh o.op (xa::r)).map h) (fr:Fr B ρ F w) (hi:HI B ρ F w h) (hx:bM ρ F w xa (a.eval x))
  (hl:Gd ρ F w l (lo.map a.eval)) (hr:Gd ρ F w hh (hi'.map a.eval)):Good P B ρ F w h o a E.tv E.hd:=by
 obtain⟨rr,hobs⟩:=hobs
 unfold Gz at he
 split at he
 ·cases he
 ·rename_i bd hbd
  have hbv:=Wp hbd hl hr
  split at he
  ·rename_i e hd
   split at he
   ·cases he
   ·rename_i te hte
    have hte:=hT.get hte
    split at he
    ·-- data
     rename_i nn esz len el
     split at he
     ·cases hb:Nat.beq esz te.size with
      |false=>simp [hb]at he
      |true=>
       simp only [hb,bt]at he
       have hes:=bv hb
       obtain⟨ad,cap,hv,n1,n2,n3,n4,n5⟩:=hx
       have hok:Vy bd len:=by
        cases bd with
        |lo l=>simp [o6]at he;subst he;exact hc.1
        |hi l=>simp [o6]at he;subst he;exact hc.1
        |all=>trivial
        |bo l m=>simp [o6]at he;subst he;exact hc.1
       have htv:E.hd=[]/\E.tv= .v (.one (.d (.sl nn esz (Hz bd len - xg bd len) fun i j=>el (i+xg bd len) j))):=by
        cases bd with
        |lo l=>simp [o6]at he;subst he;exact⟨rfl,rfl⟩
        |hi l=>simp [o6]at he;subst he;exact⟨rfl,rfl⟩
        |all=>simp [o6]at he;subst he;exact⟨rfl,rfl⟩
        |bo l m=>simp [o6]at he;subst he;exact⟨rfl,rfl⟩
       rw [htv.1,htv.2]
       have hrun:=uQ (w:=w) ht hd hte hop hv hbv hok n4
       obtain⟨_,q1,q2⟩:=tN (P:=P) (w:=w) (is:=true) hbv hok n4
       refine aJ fr hi hrun ⟨_,_,rfl,fun e=> ?_,fun e=> ?_,fun e=> ?_,by omega,fun ad' ha=> ?_⟩
       ·have:=n1 e
        split
        ·exact this
        ·cases ad with
         |none=>exact absurd rfl this
         |some _=>simp
       ·rw [n2 e];simp
       ·split at e
        ·obtain⟨r1,r2⟩:=n3 e;omega
        ·cases ad with
         |none=>obtain⟨r1,r2⟩:=n3 rfl;omega
         |some _=>simp at e
       ·split at ha
        ·obtain⟨r1,_⟩:=n5 ad' ha
         exact⟨fun hq=>absurd hq (by omega),fun i hi'=>by omega⟩
        ·cases ad with
         |none=>simp at ha
         |some ad0=>
          simp at ha
          obtain⟨r1,r2⟩:=n5 ad0 rfl
          by_cases hq0:Hz bd len - xg bd len=0
          ·exact⟨fun hq=>absurd hq (by omega),fun i hi'=>by omega⟩
          rw [qJ (r1 (by omega))]at ha
          subst ha
          refine⟨fun _=>rfl,fun i hi' j hj=> ?_⟩
          obtain⟨hf,u,hu,hru⟩:=r2 (i+xg bd len) (by omega) j hj
          exact⟨hf,u,by simp only;rw [<-hes,show ad0.off+xg bd len*esz+(i*esz+j)=ad0.off+((i+xg bd len)*esz+j) by rw [ep];omega];exact hu,hru⟩
     ·cases he
    ·-- an object
     rename_i b nn n
     split at he
     ·rename_i E' esz len el
      cases hb:Nat.beq esz te.size with
      |false=>simp [hb]at he
      |true=>
       simp only [hb,bt]at he
       have hes:=bv hb
       rw [hop]at hobs
       simp [foot]at hobs
       obtain⟨hob,hfr⟩:=hobs
       obtain⟨ft,hi⟩:=hi
       have hρf:=hi.fresh fresh hfr.symm
       have key:(∀l, ¬ (an= .cells/\bd= .lo l))-> ∃len' el',n=len/\Vy bd len/\len'=Hz bd len - xg bd len/\aF len' esz (fun i j=>el (i+xg bd len) j) el'/\E=⟨E.conds, .v (.one (.own fresh nn len')),[(fresh,some (.arr E' esz len' el')),(b,none)]⟩:=by
        intro hna
        unfold Dz at he
        split at he
        ·rename_i len' el'
         cases bd with
         |lo l=>simp only [Option.some.injEq]at he;subst he;obtain⟨c1,c2,c3,c4,_⟩:=hc;exact⟨len',el',c1,c2,c3,by rw [c3];exact c4,rfl⟩
         |hi l=>simp only [Option.some.injEq]at he;subst he;obtain⟨c1,c2,c3,c4,_⟩:=hc;exact⟨len',el',c1,c2,by simp [xg,Hz,c3],by rw [c3];exact c4,rfl⟩
         |all=>cases he
         |bo l m=>cases he
        ·cases bd with
         |lo l=>exact absurd ⟨rfl,rfl⟩ (hna l)
         |hi l=>cases he
         |all=>cases he
         |bo l m=>cases he
        ·cases he
       have grn: ∀p,Gr ρ F w (bL ρ fresh p) F w:=fun p=> ⟨aO hρf,fun _ h=>h,fun _ _=>rfl⟩
       have frn: ∀p,Fr B (bL ρ fresh p) F w:=fun p=>{fr with rho:=fun b' p' e=>aO hρf b' p' (fr.rho b' p' e)}
       by_cases han': ∃l,an= .cells/\bd= .lo l
       ·obtain⟨l,rfl,rfl⟩:=han'
        simp only [Dz]at he
        cases hz1:Nat.ble 1 esz with
        |false=>rw [hz1]at he;cases he
        |true=>
        rw [hz1]at he
        simp only [bt,Option.some.injEq]at he
        have hz0:esz≠0:=by have:=cm hz1;omega
        subst he
        obtain⟨c1,c2,_⟩:=hc
        subst c1
        have hne:fresh≠b:=fun e=>by rw [e]at hfr;rw [<-hfr]at hob;cases hob
        have hpl: ∀p,HI B (bL ρ fresh p) F w (upd h [(fresh,some (.suf b l.toNat esz))])\/True:=fun _=> .inr trivial
        have mk: ∀p,jB (bL ρ fresh p) F w (fun _=>False) fresh (.suf b l.toNat esz)->HI B (bL ρ fresh p) F w (upd h [(fresh,some (.suf b l.toNat esz))]):=fun p hp=>by
         have hu: ∀x,upd h [(fresh,some (.suf b l.toNat esz))] x=if x=fresh then some (some (.suf b l.toNat esz))else h x:=fun x=>by
          show(match get [(fresh,some (.suf b l.toNat esz))] x with|some o=>some o|none=>h x)=_
          rw [av]
          by_cases e:fresh=x
          ·rw [cj e,cj e.symm]
          ·rw [ci e,ci (Ne.symm e)];rfl
         refine⟨fun x k=>x≠fresh/\ft x k,hi.step (grn p) fr (cz _) (fun x=>x=fresh) (fun x ob hx hh=> ?_) (fun x ob hx hh=> ?_) (fun x ob k hx hh hf=>absurd hx hf.1) (fun x x' ob ob' k hx _ _ _ hf _=>absurd hx hf.1) (fun k hk=> .inl hk) fun x hx=> ?_⟩
         ·rw [hu,ci hx]at hh
          exact⟨hh,fun _ _=>rfl,fun k=> ⟨fun q=>q.2,fun q=> ⟨hx,q⟩⟩⟩
         ·subst hx
          rw [hu,cj rfl]at hh
          cases hh
          exact hp.keep (.refl _ _ _) (fun _ q=>q.elim) (fun _ q=>q.elim)
         ·rw [hu]at hx
          split at hx
          ·cases hx
          ·rename_i hxf
           unfold bL;rw [ci hxf];exact hi.fresh x hx
        rcases hx with⟨k,base,cap,hk,hv⟩|⟨hnn,hkn,h0,hv⟩
        ·rcases hi.obj b _ hob.symm with⟨g0,_⟩|⟨k',base',cap',g0,g00,vs,g2,g3,g4,g5,g6⟩
         ·rw [hk]at g0;cases g0
         ·rw [hk]at g0;cases g0
          have hrun:=uQ (w:=w) ht hd hte hop hv hbv c2 g4
          have hl:l.toNat<=cap:=by omega
          refine bO (grn (.blk k (if cap=l.toNat then base else base+l.toNat*esz) (cap - l.toNat))) (frn _) (mk _ (.inr ⟨k,base,cap,by unfold bL;rw [ci (Ne.symm hne)];exact hk,hl,by unfold Bb;rw [ci hz0];exact au _ _⟩)) (v:= .slice (some ⟨k,if cap=l.toNat then base else base+l.toNat*esz,none⟩) (n - l.toNat) (cap - l.toNat)) ?_ (.inl ⟨k,_,_,au _ _,rfl⟩)
          rw [hrun,show xg (.lo l) n=l.toNat from rfl,show Hz (.lo l) n=n from rfl]
          by_cases hcap:cap=l.toNat
          ·rw [cj hcap,cj hcap]
          ·rw [ci hcap,ci hcap];simp [iP,hes]
        ·have hn0:n=0:=h0
         subst hn0
         have hrun:=uQ (w:=w) ht hd hte hop hv hbv c2 (cz 0)
         have h1:l.toNat=0:=by omega
         refine bO (grn .nil) (frn _) (mk _ (.inl ⟨by unfold bL;rw [ci (Ne.symm hne)];exact hkn,au _ _,h1⟩)) (v:= .slice none 0 0) ?_ (.inr ⟨hnn,au _ _,by simp,by simp⟩)
         rw [hrun,show xg (.lo l) 0=l.toNat from rfl,show Hz (.lo l) 0=0 from rfl,h1]
         simp
       have han: ∀l, ¬ (an= .cells/\bd= .lo l):=fun l hh=>han' ⟨l,hh⟩
       obtain⟨len',el',rfl,hok,hle,heq,hE⟩:=key han
       rw [hE]
       simp only
       have grn: ∀p,Gr ρ F w (bL ρ fresh p) F w:=fun p=> ⟨aO hρf,fun _ h=>h,fun _ _=>rfl⟩
       have frn: ∀p,Fr B (bL ρ fresh p) F w:=fun p=>{fr with rho:=fun b' p' e=>aO hρf b' p' (fr.rho b' p' e)}
       rcases hx with⟨k,base,cap,hk,hv⟩|⟨hnn,hkn,h0,hv⟩
       ·rcases hi.obj b _ hob.symm with⟨g0,_⟩|⟨k',base',cap',g0,g00,vs,g2,g3,g4,g5,g6⟩
        ·rw [hk]at g0;cases g0
        ·rw [hk]at g0;cases g0
         have hrun:=uQ (w:=w) ht hd hte hop hv hbv hok g4
         obtain⟨_,q1,q2⟩:=tN (P:=P) (w:=w) (is:=true) hbv hok g4
         obtain⟨nb,hnb⟩: ∃nb,nb=if cap=xg bd n then base else base+xg bd n*te.size:=⟨_,rfl⟩
         have hrun':(execOp a.eval o).run P w= .ok (.value (.slice (some ⟨k,nb,none⟩) len' (cap - xg bd n))) w:=by
          rw [hrun,hle,hnb]
          split
          ·rfl
          ·simp [iP]
         have hbl:xg bd n<=cap:=by omega
         refine bO (grn (.blk k nb (cap - xg bd n))) (frn _) ⟨_,rH.move (S:=ft b) fr hi hob.symm hfr.symm (grn _) (cz _) (fun _ _ _ _ _ _=>rfl) (fun _ hf=> .inl hf) (.inr ⟨k,nb,cap - xg bd n,au _ _,g00, ?_⟩)⟩ hrun' (.inl ⟨k,nb,_,au _ _,rfl⟩)
         by_cases hcap:cap=xg bd n
         ·-- nothing is left: the row is cut at its end
          rw [cj hcap]at hnb
          exact⟨vs,g2,by rw [hnb,show cap - xg bd n=0 by omega,Nat.zero_mul];omega,by omega,by omega,fun i hi'=>by omega⟩
         ·rw [ci hcap]at hnb
          refine⟨vs,g2, ?_,by omega,by omega,fun i hi' j hj=> ?_⟩
          ·rw [hnb,<-hes,ek,<-ep,show xg bd n+(cap - xg bd n)=cap by omega];exact g3
          ·obtain⟨u,hu,hru⟩:=g6 (i+xg bd n) (by omega) j hj
           rw [<-heq i hi' j hj]
           exact⟨u,by rw [hnb,<-hes,show base+xg bd n*esz+(i*esz+j)=base+((i+xg bd n)*esz+j) by rw [ep];omega];exact hu,hru⟩
       ·have hn0:n=0:=h0
        subst hn0
        have hrun:=uQ (w:=w) ht hd hte hop hv hbv hok (cz 0)
        obtain⟨_,q1,q2⟩:=tN (P:=P) (w:=w) (is:=true) hbv hok (cz 0)
        have h1:xg bd 0=0:=by omega
        have h2:Hz bd 0=0:=by omega
        rw [h1,h2]at hrun
        rw [h1,h2]at hle
        subst hle
        refine bO (grn .nil) (frn _) ⟨_,rH.move (S:=fun _=>False) fr hi hob.symm hfr.symm (grn _) (cz _) (fun _ _ _ _ _ _=>rfl) (fun _ hf=>hf.elim) (.inl ⟨au _ _,rfl⟩)⟩ hrun (.inr ⟨hnn,au _ _,rfl,by simp⟩)
     ·cases he
    ·cases he
  ·rename_i n e hd
   split at he
   ·rename_i te hte
    have hte:=hT.get hte
    have hlh:lo=none/\hi'=none:=by
     obtain⟨h1,h2⟩:=hbv
     exact⟨by simpa using h1,by simpa using h2⟩
    obtain⟨rfl,rfl⟩:=hlh
    split at he
    ·rename_i b off
     split at he
     ·rename_i E' cs
      split at he
      ·rename_i ds hds
       cases hb:Nat.ble (off+n*te.size) ds.length with
       |false=>simp [hb]at he
       |true=>
        simp only [hb,bt]at he
        have hle:=cm hb
        cases he
        rw [hop]at hobs
        simp [foot]at hobs
        have hcs:=jC hds
        subst hcs
        obtain⟨ft,hi⟩:=hi
        obtain⟨k,base,cap,hk,hv⟩:=hx
        obtain⟨k',cap',vs,h1,h0,h2,h3⟩:=hi.obj b _ hobs.symm
        rw [hk]at h1;cases h1
        rw [cD]at hv
        have hrun:=zN (w:=w) ht hd hte hop hv
        obtain⟨hi2,fr2⟩:=rH.aaW fr hi hobs.symm hk h0
        have g:Gr ρ F w ρ (fun q=>F q\/q=k) w:=⟨fun _ _ h=>h,fun _ h=> .inl h,fun _ _=>rfl⟩
        refine bO g fr2 ⟨_,hi2⟩ hrun ⟨some ⟨k,off,none⟩,n,rfl,by simp,by simp,by simp,cz _,fun ad ha=> ?_⟩
        cases ha
        refine⟨fun _=>rfl,fun i hi' j hj=> ⟨.inr rfl, ?_⟩⟩
        have hlt:off+(i*te.size+j)<ds.length:=by
         have:=Hf (len:=n) hi' hj
         omega
        obtain⟨u,hu,hru⟩:=h3.get (j:=off+(i*te.size+j)) (c:= .d (ds.getD (off+(i*te.size+j)) .nilp)) (by rw [du,cU,cT hlt];rfl)
        exact⟨u,by rw [eB h2];exact hu,bS.gr g.fz g.mem hru⟩
      ·cases he
     ·cases he
    ·rename_i m c
     split at he
     ·cases hb:(Nat.ble (n*te.size) m && Nat.ble 1 (n*te.size))with
      |false=>simp [hb]at he
      |true=>
       simp only [hb,bt]at he
       simp only [ce]at hb
       have hle:=cm hb.1
       cases he
       obtain⟨ad,hv,hsp,hcell⟩:=hx
       obtain⟨ak,ao,asp⟩:=ad
       simp at hsp;subst hsp
       have hrun:=zN (w:=w) ht hd hte hop hv
       refine aJ fr hi hrun ⟨some ⟨ak,ao,none⟩,n,rfl,by simp,by simp,by simp,cz _,fun ad ha=> ?_⟩
       cases ha
       refine⟨fun _=>rfl,fun i hi' j hj=> ?_⟩
       exact hcell (i*te.size+j) (dE (Hf hi' hj) hle)
     ·cases he
    ·cases he
   ·rename_i te l hte
    have hte:=hT.get hte
    split at he
    ·rename_i b esz i off
     split at he
     ·rename_i E' esz' len el
      cases hb:(Nat.beq esz 1 && Nat.beq esz' 1 && Nat.beq te.size 1 && Nat.beq i 0 && Nat.beq off 0)with
      |false=>simp [hb]at he
      |true=>
       simp only [hb,bt]at he
       simp only [ce]at hb
       have e1:=bv hb.1.1.1.1
       have e2:=bv hb.1.1.1.2
       have e3:=bv hb.1.1.2
       have e4:=bv hb.1.2
       have e5:=bv hb.2
       subst e1;subst e2;subst e4;subst e5
       cases he
       rw [hop]at hobs
       simp [foot]at hobs
       obtain⟨hob,hfr⟩:=hobs
       obtain⟨ft,hi⟩:=hi
       have hρf:=hi.fresh fresh hfr.symm
       obtain⟨c1,c2,_⟩:=hc
       subst c1
       have hne:fresh≠b:=fun e=>by rw [e]at hfr;rw [<-hfr]at hob;cases hob
       obtain⟨k,base,cap,hk,hv⟩:=hx
       rcases hi.obj b _ hob.symm with⟨_,g0⟩|⟨k',base',cap',g0,g00,vs,g2,g3,g4,g5,g6⟩
       ·omega
       ·rw [hk]at g0;cases g0
        have hrun:=DT (w:=w) ht hd hte hop hv hbv c2
        have grn: ∀p,Gr ρ F w (bL ρ fresh p) F w:=fun p=> ⟨aO hρf,fun _ h=>h,fun _ _=>rfl⟩
        have frn: ∀p,Fr B (bL ρ fresh p) F w:=fun p=>{fr with rho:=fun b' p' e=>aO hρf b' p' (fr.rho b' p' e)}
        have hcap:cap≠l.toNat:=by omega
        refine bO (grn (.blk k (base+l.toNat) (n - l.toNat))) (frn _) (rH.Zl fr hi hfr.symm (.inr ⟨k,base,cap,by unfold bL;rw [ci (Ne.symm hne)];exact hk,by omega,by unfold Bb;rw [cj rfl];exact⟨_,au _ _⟩⟩)) hrun (.inl ⟨k,_,_,au _ _, ?_⟩)
        rw [e3,show base+(0*1+0)+l.toNat*1=base+l.toNat by omega]
     ·cases he
    ·cases he
   ·cases he
  ·cases he
end
section
variable {P:Program} {T:List (Nat × TI)} {B:Base} {ρ:Nat->Option Pl} {F:Nat->Prop} {w w':World} {h:Hp} {o:Oper} {a:Act}
theorem IA {x y:Operand} {t t':TypeId} (hop:o.op= .call {callee:= .builtin .copy,args:= #[x,y],argTypes:= #[t,t'] }) {v:Value}
  (hr:(Builtin.copy_ #[t,t'] o.type #[a.eval x,a.eval y]).run P w= .ok v w'):(execOp a.eval o).run P w= .ok (.value v) w':=by
 obtain⟨consts,hex⟩:=kP (a:=a) hop
 rw [hex];simp [builtin,hr]
theorem NJ {x y:Operand} {t t' e:TypeId} {te:TI} {xa ya:TV} {an:pI} {obs:List (Option (Option Ob))} {E:Eff} (hu:P.underlying t=some (.slice e)) (hte:iC P e te)
  (hop:o.op= .call {callee:= .builtin .copy,args:= #[x,y],argTypes:= #[t,t'] }) (he:J5 an te xa ya obs=some E) (hc:All E.conds) (hobs:obs=(foot an 0 o.op [xa,ya]).map h)
  (fr:Fr B ρ F w) (hi:HI B ρ F w h) (hx:bM ρ F w xa (a.eval x)) (hy:bM ρ F w ya (a.eval y)):Good P B ρ F w h o a E.tv E.hd:=by
 unfold J5 at he
 split at he
 ·rename_i c nn n nny eszx lenx elx b l E' esz len el
  split at he
  ·rename_i b'
   cases hb:(Nat.beq b b' && Nat.beq te.size 1 && Nat.beq esz 1 && Nat.beq eszx 1)with
   |false=>simp [hb]at he
   |true=>
    simp only [hb,bt]at he
    simp only [ce]at hb
    have e1:=bv hb.1.1.1
    have e2:=bv hb.1.1.2
    have e3:=bv hb.1.2
    have e4:=bv hb.2
    subst e1;subst e3;subst e4
    cases he
    obtain⟨hn,_⟩:=hc
    rw [hop]at hobs
    simp [foot]at hobs
    obtain⟨hsf,hob⟩:=hobs
    have hinfo:(P.info? e).map (·.size)=some 1:=by
     obtain⟨_,i,z,q1,q2,_⟩:=hte
     rw [q1];simp [q2,e2]
    obtain⟨ft,hi⟩:=hi
    obtain⟨sa,scap,hsv,s1,s2,s3,s4,s5⟩:=hy
    have hsv:a.eval y= .slice sa lenx scap:=hsv
    have none0: ∀(d:Option Addr) (dl dc:Nat),a.eval x= .slice d dl dc->dl=n->Nat.min lenx n=0->Good P B ρ F w h o a (.v (.one (.d (.int .i64 (Nat.min lenx n:Nat))))) [(b,some (.arr E' 1 len (Vh el l elx (Nat.min lenx n))))]:=by
     intro d dl dc hv hdl h0
     subst hdl
     have hrun:=IA (a:=a) hop (by rw [hv,hsv];exact run_copy_none (P:=P) w t t' o.type e d sa dl dc lenx scap hu hinfo h0)
     have hcp:Vh el l elx (Nat.min lenx dl)=el:=by
      funext i j
      rw [h0]
      unfold Vh
      cases h1:Nat.ble l i with
      |false=>rfl
      |true=>
       have:=cm h1
       have h2:Nat.blt i (l+0)=false:=by
        cases h3:Nat.blt i (l+0)with
        |false=>rfl
        |true=>have:=cm h3;omega
       rw [h2];rfl
     rw [hcp,h0]
     have hup:upd h [(b,some (.arr E' 1 len el))]=h:=by
      funext q
      rw [pR]
      by_cases e:b=q
      ·subst e;rw [cj rfl];exact hob
      ·rw [ci e]
     exact bO (.refl _ _ _) fr ⟨ft,by rw [hup];exact hi⟩ hrun rfl
    by_cases h0:Nat.min lenx n=0
    ·rcases hx with⟨k,base,cap,hk,hv⟩|⟨_,_,hn0,hv⟩
     ·exact none0 _ _ _ hv rfl h0
     ·exact none0 _ _ _ hv hn0.symm h0
    ·have hm1:Nat.min lenx n<=lenx:=Nat.min_le_left _ _
     have hm2:Nat.min lenx n<=n:=Nat.min_le_right _ _
     obtain⟨m,hm⟩: ∃m,m=Nat.min lenx n:=⟨_,rfl⟩
     rw [<-hm]at h0 hm1 hm2 ⊢
     rcases hi.obj b _ hob.symm with⟨_,q0⟩|⟨k,base,cap,g1,g2,vs,g3,g4,g5,g6,g7⟩
     ·omega
     rcases hi.obj c _ hsf.symm with⟨q1,_⟩|⟨k',base',cap',q1,q2,q3⟩
     ·rw [g1]at q1;cases q1
     rw [g1]at q1;cases q1
     unfold Bb at q3
     rw [cj rfl]at q3
     obtain⟨cap2,q3⟩:=q3
     rcases hx with⟨k',base',cap',hk,hv⟩|⟨_,hk,_,_⟩
     ·rw [q3]at hk;cases hk
      cases sa with
      |none=>have:=(s3 rfl).1;omega
      |some ad=>
       obtain⟨t1,t2⟩:=s5 ad rfl
       have tsp:=t1 (by omega)
       obtain⟨ak,ao,asp⟩:=ad
       simp only at tsp;subst tsp
       have tc: ∀i,i<m-> ∃u,w.cell? ⟨ak,ao+i,none⟩=some u/\bS F w (elx i 0) u:=fun i hi'=>by
        obtain⟨_,u,hu',hr⟩:=t2 i (by omega) 0 (by omega)
        exact⟨u,by rw [show ao+i=ao+(i*1+0) by omega];exact hu',hr⟩
       obtain⟨cs,hcs⟩: ∃cs:List Value,cs=(List.range m).map fun i=>(w.cell? ⟨ak,ao+i,none⟩).getD undef:=⟨_,rfl⟩
       have hcl:cs.length=m:=by rw [hcs];simp
       have hcg: ∀i,i<m-> ∃u,cs[i]? =some u/\w.cell? ⟨ak,ao+i,none⟩=some u/\bS F w (elx i 0) u:=fun i hi'=>by
        obtain⟨u,hu',hr⟩:=tc i hi'
        refine⟨u, ?_,hu',hr⟩
        rw [hcs,du,List.getElem?_range hi']
        simp [hu']
       have hblk:=hi.blk b _ k hob.symm g2
       have hrun:=IA (a:=a) hop (by
        rw [hv,hsv]
        exact run_copy_row (P:=P) w t t' o.type e k (base+l) n cap2 ⟨ak,ao,none⟩ lenx scap vs.toArray E' cs hu hinfo g3 (by rw [hcl,hm]) (fun j v hj=>by
         have hj':j<m:=by
          rw [<-hcl]
          rcases Nat.lt_or_ge j cs.length with q|q
          ·exact q
          ·rw [List.getElem?_eq_none q]at hj;cases hj
         obtain⟨u,z1,z2,_⟩:=hcg j hj'
         rw [hj]at z1;cases z1
         rw [iP];exact z2) (by simp;omega) (fun v hv'=>by
         obtain⟨i,hi',rfl⟩:=List.mem_iff_getElem.1 hv'
         obtain⟨u,z1,_,z3⟩:=hcg i (by omega)
         rw [cT hi']at z1;cases z1
         exact z3.oneCell))
       have pt:=Put.setRow w k (vs.toArray.toList.take (base+l)++cs++vs.toArray.toList.drop (base+l+cs.length)).toArray
       refine bO (pt.gr hblk.2.1) (pt.fr fr hblk.2.2) ⟨_,pt.hi fr hi hob.symm g2 (fun _ h=>h) ?_⟩ hrun (by show goInt cs.length=_;rw [hcl];rfl)
       refine .inr ⟨k,base,cap,g1,g2,_,setRow_heap w k _ _ E' (0,0) g3, ?_,g5,g6,fun i hi' j hj=> ?_⟩
       ·simp only [cd,d8,d_,hcl];omega
       ·obtain rfl:j=0:=by omega
        have hlook:=dW vs cs (base+l) (by omega) (base+(i*1+0))
        show∃u,(vs.take (base+l)++cs++vs.drop (base+l+cs.length))[base+(i*1+0)]? =some u/\_
        rw [hlook]
        have hfz:=(pt.gr (ρ:=ρ) hblk.2.1).fz
        have hmm:=(pt.gr (ρ:=ρ) hblk.2.1).mem
        unfold Vh
        by_cases c1:l<=i
        ·rw [Nat.ble_eq_true_of_le c1]
         by_cases c2:i<l+m
         ·have:Nat.blt i (l+m)=true:=Nat.ble_eq_true_of_le c2
          rw [this,Bool.and_self,bt,ci (by omega),cj (by omega)]
          obtain⟨u,z1,_,z3⟩:=hcg (i - l) (by omega)
          exact⟨u,by rw [show base+(i*1+0) - (base+l)=i - l by omega];exact z1,bS.gr hfz hmm z3⟩
         ·have:Nat.blt i (l+m)=false:=by
           cases h3:Nat.blt i (l+m)with
           |false=>rfl
           |true=>have:=cm h3;omega
          rw [this,Bool.and_false,bu,ci (by omega),ci (by omega)]
          obtain⟨u,z1,z2⟩:=g7 i hi' 0 hj
          exact⟨u,z1,bS.gr hfz hmm z2⟩
        ·have:Nat.ble l i=false:=by
          cases h3:Nat.ble l i with
          |false=>rfl
          |true=>have:=cm h3;omega
         rw [this,Bool.false_and,bu,cj (by omega)]
         obtain⟨u,z1,z2⟩:=g7 i hi' 0 hj
         exact⟨u,z1,bS.gr hfz hmm z2⟩
     ·rw [q3]at hk;cases hk
  ·cases he
 ·cases he
end
section
variable {P:Program} {T:List (Nat × TI)} {B:Base} {ρ:Nat->Option Pl} {F:Nat->Prop} {w w':World} {h:Hp} {o:Oper} {a:Act}
theorem Gq {x:Operand} {t:TypeId} (hop:o.op= .call {callee:= .builtin .clear,args:= #[x],argTypes:= #[t] }) {v:Value}
  (hr:(Builtin.clear_ #[t] o.type #[a.eval x]).run P w= .ok v w'):(execOp a.eval o).run P w= .ok (.value v) w':=by
 obtain⟨consts,hex⟩:=kP (a:=a) hop
 rw [hex];simp [builtin,hr]
theorem H6 {z:Array Value} {n i j:Nat} (hi:i<n) (hj:j<z.size):(Builtin.zeroCells z n).toList[i*z.size+j]? =some z[j]! :=by
 have hlt:i*z.size+j<n*z.size:=by
  have:(i+1)*z.size<=n*z.size:=cJ _ hi
  rw [Nat.succ_mul]at this;omega
 simp only [Builtin.zeroCells,Array.getElem?_toList,Array.getElem?_map]
 rw [Array.getElem?_eq_getElem (by simpa using hlt)]
 simp only [Option.map_some,Array.getElem_range]
 rw [eo i,Nat.mul_add_mod,Nat.mod_eq_of_lt hj]
theorem KR {x:Operand} {t e:TypeId} {te:TI} {xa:TV} {an:pI} {obs:List (Option (Option Ob))} {E:Eff} (hu:P.underlying t=some (.slice e)) (hte:iC P e te)
  (hop:o.op= .call {callee:= .builtin .clear,args:= #[x],argTypes:= #[t] }) (he:FP an te xa obs=some E) (hc:All E.conds) (hobs:obs=(foot an 0 o.op [xa]).map h)
  (fr:Fr B ρ F w) (hi:HI B ρ F w h) (hx:bM ρ F w xa (a.eval x)):Good P B ρ F w h o a E.tv E.hd:=by
 unfold FP at he
 split at he
 ·rename_i c nn n b l s E' esz len el
  split at he
  ·rename_i b' z hz
   cases hb:(Nat.beq b b' && Nat.beq te.size esz && Nat.beq s esz && Nat.beq te.zero.length te.size && Nat.ble 1 esz)with
   |false=>simp [hb]at he
   |true=>
    simp only [hb,bt]at he
    simp only [ce]at hb
    have e1:=bv hb.1.1.1.1
    have e2:=bv hb.1.1.1.2
    have e3:=bv hb.1.1.2
    have e4:=bv hb.1.2
    have e5:=cm hb.2
    subst e1;subst e3
    cases he
    obtain⟨hn,_⟩:=hc
    rw [hop]at hobs
    simp [foot]at hobs
    obtain⟨hsf,hob⟩:=hobs
    obtain⟨zv,hzr,hzc⟩:=tJ (w:=w) hte
    have hzs:zv.cells.size=s:=by rw [<-dq,hzc,e4,e2]
    have zrep:=lK (ρ:=ρ) (F:=F) (w:=w) hz
    rw [<-hzc]at zrep
    obtain⟨ft,hi⟩:=hi
    have none0:n=0->len<=l->(Builtin.clear_ #[t] o.type #[a.eval x]).run P w= .ok (.tuple #[]) w->Good P B ρ F w h o a (.fF []) [(b,some (.arr E' s len (wS el l z)))]:=by
     intro h0 hl0 hrun
     have hup:rH B ρ F w (upd h [(b,some (.arr E' s len (wS el l z)))]) ft:=by
      have ha: ∀i,i<len-> ∀j,j<s->wS el l z i j=el i j:=fun i hi' j hj=>by
       unfold wS
       rw [show Nat.blt i l=true from Nat.ble_eq_true_of_le (by omega)];rfl
      have hu: ∀q,upd h [(b,some (.arr E' s len (wS el l z)))] q=if b=q then some (some (.arr E' s len (wS el l z)))else h q:=fun q=>pR ..
      refine⟨fun q ob hq=> ?_,fun q ob k hq hk=> ?_,fun q q' ob ob' k hq hq' hk hk'=> ?_,fun q hq=> ?_,hi.gl⟩
      ·rw [hu]at hq
       split at hq
       ·rename_i eq;subst eq;cases hq
        rcases hi.obj b _ hob.symm with q0|⟨k,base,cap,g1,g2,vs,g3,g4,g5,g6,g7⟩
        ·exact .inl q0
        ·refine .inr ⟨k,base,cap,g1,g2,vs,g3,g4,g5,g6,fun i hi' j hj=> ?_⟩
         rw [ha i hi' j hj];exact g7 i hi' j hj
       ·exact hi.obj q ob hq
      ·rw [hu]at hq
       split at hq
       ·rename_i eq;subst eq;cases hq;exact hi.blk b _ k hob.symm hk
       ·exact hi.blk q ob k hq hk
      ·have key: ∀q ob,upd h [(b,some (.arr E' s len (wS el l z)))] q=some (some ob)-> ∃ob0,h q=some (some ob0):=fun q ob hq=>by
        rw [hu]at hq
        split at hq
        ·rename_i eq;subst eq;exact⟨_,hob.symm⟩
        ·exact⟨_,hq⟩
       obtain⟨o1,h1⟩:=key q ob hq
       obtain⟨o2,h2⟩:=key q' ob' hq'
       exact hi.dis q q' o1 o2 k h1 h2 hk hk'
      ·rw [hu]at hq
       split at hq
       ·cases hq
       ·exact hi.fresh q hq
     exact bO (.refl _ _ _) fr ⟨ft,hup⟩ (Gq (a:=a) hop hrun) ⟨[],rfl,trivial⟩
    rcases hi.obj b _ hob.symm with⟨q00,q0⟩|⟨k,base,cap,g1,g2,vs,g3,g4,g5,g6,g7⟩
    ·have hn0:n=0:=by omega
     refine none0 hn0 (by omega) ?_
     rcases hx with⟨k',base',cap',_,hv⟩|⟨_,_,_,hv⟩<;>rw [hv]<;>(try rw [hn0])<;>simp [Builtin.clear_,run_underlying hu]
    by_cases h0:n=0
    ·refine none0 h0 (by omega) ?_
     rcases hx with⟨k',base',cap',_,hv⟩|⟨_,_,_,hv⟩<;>rw [hv]<;>(try rw [h0])<;>simp [Builtin.clear_,run_underlying hu]
    rcases hi.obj c _ hsf.symm with⟨q1,_⟩|⟨k',base',cap',q1,q2,q3⟩
    ·rw [g1]at q1;cases q1
    rw [g1]at q1;cases q1
    unfold Bb at q3
    rw [ci (by omega),ci (by omega)]at q3
    rcases hx with⟨k',base',cap',hk,hv⟩|⟨_,hk,_,_⟩
    ·rw [q3]at hk;cases hk
     obtain⟨m,hm⟩: ∃m,n=m+1:=⟨n - 1,by omega⟩
     obtain⟨cs,hcs⟩: ∃cs,cs=(Builtin.zeroCells zv.cells n).toList:=⟨_,rfl⟩
     have hcl:cs.length=n*s:=by rw [hcs];simp [Builtin.zeroCells,hzs]
     have hcg: ∀i,i<n-> ∀j,j<s-> ∃u,cs[i*s+j]? =some u/\bS F w (z.getD j .nilp) u:=fun i hi' j hj=>by
      have:=H6 (z:=zv.cells) hi' (by rw [hzs];exact hj)
      rw [hzs,<-hcs]at this
      refine⟨_,this, ?_⟩
      have hzl:z.length=s:=by
       have:=zrep.length
       simp only [dt,dq]at this
       omega
      have hj':j<z.length:=by omega
      obtain⟨u,hu1,hu2⟩:=zrep.get (j:=j) (c:= .d z[j]) (by simp [hj'])
      rw [Array.getElem?_toList,Array.getElem?_eq_getElem (by omega)]at hu1
      cases hu1
      rw [cU,cT hj',getElem!_pos zv.cells j (by omega)]
      exact hu2
     have hblk:=hi.blk b _ k hob.symm g2
     have hfit:base+l*s+cs.length<=vs.length:=by
      rw [hcl]
      have:(l+n)*s<=cap*s:=cJ _ (by omega)
      rw [ep]at this;omega
     have h1: ∀v∈cs,v.oneCell'=true:=fun v hv'=>by
      obtain⟨i,hi',rfl⟩:=List.mem_iff_getElem.1 hv'
      have hi'':i<n*s:=by omega
      obtain⟨u,z1,z3⟩:=hcg (i / s) (Nat.div_lt_of_lt_mul (by rwa [eo]at hi'')) (i % s) (Nat.mod_lt _ (by omega))
      rw [show i / s*s+i % s=i by rw [eo];exact Nat.div_add_mod i s,cT hi']at z1;cases z1
      exact z3.oneCell
     have hst:=run_storeCells_at P k (base+l*s) E' cs 0 vs.toArray w g3 (by simpa using hfit) h1
     have hrun:=Gq (P:=P) (w:=w) (a:=a) hop (v:= .tuple #[]) (w':=w.setRow k (vs.toArray.toList.take (base+l*s)++cs++vs.toArray.toList.drop (base+l*s+cs.length)).toArray) (by
      rw [hv,hm]
      simp only [Nat.add_zero]at hst
      have hzr':=hzr
      rw [hm]at hcs
      simp [Builtin.clear_,run_underlying hu,hzr',<-hcs,hst])
     have pt:=Put.setRow w k (vs.toArray.toList.take (base+l*s)++cs++vs.toArray.toList.drop (base+l*s+cs.length)).toArray
     refine bO (pt.gr hblk.2.1) (pt.fr fr hblk.2.2) ⟨_,pt.hi fr hi hob.symm g2 (fun _ h=>h) ?_⟩ hrun ⟨[],rfl,trivial⟩
     refine .inr ⟨k,base,cap,g1,g2,_,setRow_heap w k _ _ E' (0,0) g3, ?_,g5,g6,fun i hi' j hj=> ?_⟩
     ·simp only [cd,d8,d_,hcl];omega
     ·have hlook:=dW vs cs (base+l*s) hfit (base+(i*s+j))
      show∃u,(vs.take (base+l*s)++cs++vs.drop (base+l*s+cs.length))[base+(i*s+j)]? =some u/\_
      rw [hlook]
      have hfz:=(pt.gr (ρ:=ρ) hblk.2.1).fz
      have hmm:=(pt.gr (ρ:=ρ) hblk.2.1).mem
      unfold wS
      by_cases c1:i<l
      ·rw [show Nat.blt i l=true from Nat.ble_eq_true_of_le c1,bt]
       have:(i+1)*s<=l*s:=cJ _ c1
       rw [Nat.succ_mul]at this
       rw [cj (by omega)]
       obtain⟨u,z1,z2⟩:=g7 i hi' j hj
       exact⟨u,z1,bS.gr hfz hmm z2⟩
      ·have:Nat.blt i l=false:=by
        cases h3:Nat.blt i l with
        |false=>rfl
        |true=>have:=cm h3;omega
       rw [this,bu]
       have h4:l*s<=i*s:=cJ _ (by omega)
       have h5:(i+1)*s<=(l+n)*s:=cJ _ (by omega)
       rw [Nat.succ_mul,ep]at h5
       rw [ci (by omega),cj (by rw [hcl];omega)]
       obtain⟨u,z1,z3⟩:=hcg (i - l) (by omega) j hj
       refine⟨u, ?_,bS.gr hfz hmm z3⟩
       rw [show base+(i*s+j) - (base+l*s)=(i - l)*s+j by rw [Nat.sub_mul];omega]
       exact z1
    ·rw [q3]at hk;cases hk
  ·cases he
 ·cases he
end
section
variable {P:Program} {B:Base} {ρ ρ':Nat->Option Pl} {F F':Nat->Prop} {w w':World} {h:Hp} {o:Oper} {a:Act} {T:List (Nat × TI)}
theorem xE (f:Nat->DV): ∀i n,fM (fun j=> .d (f j)) i n=(bW f i n).map .d
 |_,0=>rfl
 |i,n+1=>by simp [fM,bW,xE f (i+1) n]
theorem Fw {agg:Bool} {ds:List DV} {ks:List (Option IntKind)} {s:SV} {v:Value} (hk:aA ks ds=true) (hs:mq agg (ds.map .d)=some s) (hr:gT ρ F w s v):v=gL agg (ds.map ja):=by
 cases agg with
 |true=>
  simp [mq]at hs;subst hs
  obtain⟨vs,rfl,hr⟩:=hr
  rw [wL hk hr];rfl
 |false=>
  match ds,hs with
  |[d],hs=>
   simp [mq]at hs;subst hs
   have:=wL (vs:=[v]) hk (ρ:=ρ) (F:=F) (w:=w) ⟨hr,trivial⟩
   simp at this
   simp [gL,this]
theorem IY {agg:Bool} {s:SV} {ds:List DV} {ks:List (Option IntKind)} {v:Value} (hk:aA ks ds=true) (ha:xB s=agg) (hd:uV (cellsOf s)=some ds) (hr:gT ρ F w s v):v=gL agg (ds.map ja):=by
 refine Fw hk ?_ hr
 rw [<-jC hd]
 cases s with
 |one c=>simp [xB]at ha;subst ha;rfl
 |agg cs=>simp [xB]at ha;subst ha;rfl
theorem Uy: ∀{k:Option IntKind} {ks:List (Option IntKind)} {x y:DV} {xs ys:List DV},aA (k::ks) (x::xs)=true->aA (k::ks) (y::ys)=true->aA ks xs=true/\aA ks ys=true/\ ∃b,Tt x y=some b:=by
 intro k ks x y xs ys hx hy
 cases k with
 |some k=>
  cases x<;>simp [aA]at hx
  cases y<;>simp [aA]at hy
  exact⟨hx.2,hy.2,by simp [Tt,<-hx.1,<-hy.1]⟩
 |none=>
  cases x<;>simp [aA]at hx
  cases y<;>simp [aA]at hy
  exact⟨hx,hy,by simp [Tt]⟩
theorem JF: ∀{ks:List (Option IntKind)} {xs ys:List DV},aA ks xs=true->aA ks ys=true-> ∃b,jO xs ys=some b
 |[],[],[],_,_=> ⟨true,rfl⟩
 |[],_::_,_,h,_=>by simp [aA]at h
 |[],[],_::_,_,h=>by simp [aA]at h
 |k::ks,[],_,h,_=>by cases k<;>simp [aA]at h
 |k::ks,_::_,[],_,h=>by cases k<;>simp [aA]at h
 |k::ks,x::xs,y::ys,h1,h2=>by
  obtain⟨g1,g2,b,hb⟩:=Uy h1 h2
  obtain⟨c,hc⟩:=JF g1 g2
  exact⟨b && c,by simp [jO,hb,hc]⟩
theorem U2 {x y:DV} (h:Tt x y=some true):x=y:=by
 cases x<;>cases y<;>simp [Tt]at h
 ·rename_i k a k' b
  by_cases e:k=k'
  ·subst e;simp at h;rw [h]
  ·simp [e]at h
 ·rw [h]
theorem Jb: ∀{xs ys:List DV},jO xs ys=some true->xs=ys
 |[],[],_=>rfl
 |[],_::_,h=>by simp [jO]at h
 |_::_,[],h=>by simp [jO]at h
 |x::xs,y::ys,h=>by
  simp only [jO]at h
  split at h
  ·rename_i a b ha hb
   simp at h
   obtain⟨rfl,rfl⟩:=h
   rw [U2 ha,Jb hb]
  ·cases h
def nP (q:MapEntry->Bool):List MapEntry->Nat->Option (Nat × Value)
 |[],_=>none
 |e::es,i=>if q e then some (i,e.val)else nP q es (i+1)
theorem zG {q:MapEntry->Bool}: ∀{es:List MapEntry} {i j:Nat} {e:MapEntry},es[j]? =some e->q e=true->(∀j' e',j'<j->es[j']? =some e'->q e'=false)->nP q es i=some (i+j,e.val)
 |[],_,_,_,h,_,_=>by simp at h
 |e0::es,i,0,e,h,hq,_=>by simp at h;subst h;simp [nP,hq]
 |e0::es,i,j+1,e,h,hq,hn=>by
  have h0:=hn 0 e0 (by omega) rfl
  simp only [nP,h0]
  rw [ci (by simp),zG (i:=i+1) (j:=j) (by simpa using h) hq fun j' e' hj he=>hn (j'+1) e' (by omega) (by simpa using he)]
  congr 2;omega
theorem uI {q:MapEntry->Bool}: ∀{es:List MapEntry} {i:Nat},(∀e∈es,q e=false)->nP q es i=none
 |[],_,_=>rfl
 |e0::es,i,h=>by
  simp only [nP,h e0 (by simp)]
  rw [ci (by simp),uI fun e he=>h e (by simp [he])]
theorem zL {K:TypeId} {k:Value} {q:MapEntry->Bool}: ∀{es:List MapEntry} {i:Nat},(∀e∈es,(Op.equal K k e.key).run P w= .ok (q e) w)->(Instr.findAsking K k es i).run P w= .ok (nP q es i) w
 |[],_,_=>by simp [Instr.findAsking,nP]
 |e::es,i,h=>by
  simp only [Instr.findAsking,Sem.run_bind,h e (by simp),Result.andThen_ok,nP]
  split
  ·simp
  ·exact zL fun e he=>h e (by simp [he])
theorem Dk {d:TypeDesc} {k:Value} {q:MapEntry->Bool}: ∀{es:List MapEntry} {i:Nat},(∀e∈es,Instr.sameNow d k e.key=some (q e))->Instr.findNow d k es i=some (nP q es i)
 |[],_,_=>by simp [Instr.findNow,nP]
 |e::es,i,h=>by
  simp only [Instr.findNow,h e (by simp),nP]
  cases hq:q e with
  |true=>simp
  |false=>simp;exact Dk fun e he=>h e (by simp [he])
theorem run_findKey {K:TypeId} {tk:TI} (ht:iC P K tk) {k:Value} {q:MapEntry->Bool} {es:List MapEntry} (h1: ∀e∈es,(Op.equal K k e.key).run P w= .ok (q e) w)
  (h2:(∀e∈es,Instr.sameNow tk.d k e.key=some (q e))\/ ∀e∈es,Instr.sameNow tk.d k e.key=none):(Instr.findKey K k es).run P w= .ok (nP q es 0) w:=by
 have hu:=aS (w:=w) ht
 rw [Instr.findKey,Sem.run_bind,hu]
 simp only [Result.andThen_ok]
 rcases h2 with h2|h2
 ·rw [Dk h2];rfl
 ·cases es with
  |nil=>simp [Instr.findNow,nP]
  |cons e es=>
   simp only [Instr.findNow,h2 e (by simp)]
   exact zL h1
theorem AL (hT:pW P T) {em:Bool} {n:Nat} {e:TypeId} {te:TI} {l:List (Option IntKind)} (hte:get T e=some te) (hl:l.length=te.size) (hk1:te.agg=false->l.length=1)
  (ih: ∀w ds,aA l ds=true->(Instr.checkKey em n e (gL te.agg (ds.map ja))).run P w= .ok () w) (xs:Array Value):
  ∀(m start:Nat) (pre ds:List DV) (w:World),pre.length=start*te.size->aA (List.replicate m l).flatten ds=true->xs=((pre++ds).map ja).toArray->
   (forIn (m:=Sem) (List.range' start m) PUnit.unit fun i _=>do Instr.checkKey em n e (<-part e xs (i*(<-Go.sizeOf e)));pure (ForInStep.yield PUnit.unit)).run P w= .ok PUnit.unit w
 |0,start,pre,ds,w,_,_,_=>by simp
 |m+1,start,pre,ds,w,hp,hk,hx=>by
  rw [List.replicate_succ,List.flatten_cons]at hk
  obtain⟨d1,d2,rfl,k1,k2⟩:=jH hk
  have l1:=gU k1
  have p1:=yV (w:=w) (hT.get hte) (pre:=pre) (dl:=d1) (post:=d2) (by rw [l1,hl]) (fun ha=>by rw [l1];exact hk1 ha)
  rw [hp,<-hx]at p1
  rw [List.range'_succ,List.forIn_cons]
  simp only [Sem.run_bind,dU (hT.get hte),p1,ih w d1 k1,Result.andThen_ok,Sem.run_pure]
  exact AL hT hte hl hk1 ih xs m (start+1) (pre++d1) d2 w (by simp [hp,l1,hl,ep]) k2 (by rw [cS];exact hx)
theorem run_checkKey (hT:pW P T) {em:Bool} {K:TypeId} {tk:TI} {ks:List (Option IntKind)} {ds:List DV} (hk:get T K=some tk) (hf:flatK T 8 K=some ks) (hkk:xV T tk.d=true) (hds:aA ks ds=true):
  (Instr.checkKey em 10000 K (gL tk.agg (ds.map ja))).run P w= .ok () w:=by
 have ht:=hT.get hk
 have hu:=aS (w:=w) ht
 unfold flatK at hf
 rw [hk]at hf
 simp only at hf
 unfold xV at hkk
 cases hd:tk.d with
 |int k=>rw [hd]at hu;rw [Instr.checkKey,Sem.run_bind,hu];rfl
 |bool=>rw [hd]at hu;rw [Instr.checkKey,Sem.run_bind,hu];rfl
 |array n e=>
  rw [hd]at hf hkk hu
  simp only at hf hkk
  split at hf
  ·rename_i l te hl hte
   cases hb:(Nat.beq l.length te.size && Nat.beq (List.replicate n l).flatten.length tk.size)with
   |false=>rw [hb]at hf;cases hf
   |true=>
    simp only [hb,bt]at hf
    cases hf
    simp only [ce]at hb
    rw [hte]at hkk
    simp only at hkk
    have hagg:tk.agg=true:=by simp [TI.agg,hd]
    have hs:=dU (w:=w) (hT.get hte)
    have ih: ∀w ds,aA l ds=true->(Instr.checkKey em 9999 e (gL te.agg (ds.map ja))).run P w= .ok () w:=fun w ds _=>by
     have hue:=aS (w:=w) (hT.get hte)
     cases hde:te.d with
     |int k=>rw [hde]at hue;rw [Instr.checkKey,Sem.run_bind,hue];rfl
     |bool=>rw [hde]at hue;rw [Instr.checkKey,Sem.run_bind,hue];rfl
     |_=>rw [hde]at hkk;simp at hkk
    have:=AL (w:=w) hT (em:=em) hte (bv hb.1) (fun ha=>wI hl hte ha) ih (ds.map ja).toArray n 0 [] ds (by simp) hds (by simp)
    rw [hagg,Instr.checkKey,Sem.run_bind,hu]
    simp only [Result.andThen_ok,gL,bt]
    simp only [Std.Legacy.Range.forIn_eq_forIn_range',Std.Legacy.Range.size,Nat.sub_zero,Nat.add_sub_cancel,Nat.div_one]
    rw [Sem.run_bind,this];rfl
  ·cases hf
 |_=>rw [hd]at hkk;simp at hkk
theorem IU {K V:TypeId} {m:OX} {k:TV} {tk tv:TI} {kk:List (Option IntKind)} {kd:List DV} (h:keyOf T K V m k=some (tk,tv,kk,kd)):
  ∃ks,k= .v ks/\get T K=some tk/\get T V=some tv/\flatK T 8 K=some kk/\uV (cellsOf ks)=some kd/\K=m.K/\V=m.V/\m.kagg=tk.agg/\m.vagg=tv.agg/\m.ksz=tk.size/\m.vsz=tv.size/\aA kk kd=true/\xB ks=tk.agg/\xV T tk.d=true:=by
 unfold keyOf at h
 split at h
 ·rename_i ks
  split at h
  ·rename_i tk' tv' kk' kd' h1 h2 h3 h4
   cases hb:(Nat.beq K m.K && Nat.beq V m.V && (m.kagg==tk'.agg) && (m.vagg==tv'.agg) && Nat.beq m.ksz tk'.size && Nat.beq m.vsz tv'.size && aA kk' kd' && (xB ks==tk'.agg) && xV T tk'.d)with
   |false=>rw [hb]at h;cases h
   |true=>
    rw [hb]at h
    simp only [bt,Option.some.injEq,Prod.mk.injEq]at h
    obtain⟨rfl,rfl,rfl,rfl⟩:=h
    simp only [ce,beq_iff_eq]at hb
    obtain⟨⟨⟨⟨⟨⟨⟨⟨b1,b2⟩,b3⟩,b4⟩,b5⟩,b6⟩,b7⟩,b8⟩,b9⟩:=hb
    exact⟨ks,rfl,h1,h2,h3,h4,bv b1,bv b2,b3,b4,bv b5,bv b6,b7,b8,b9⟩
  ·cases h
 ·cases h
theorem Jy {x:TV} {obs:List (Option (Option Ob))} {b:Nat} {m:OX} (h:mapOf x obs=some (b,m)):x= .v (.one (.mp b))/\obs=[some (some (.map m))]:=by
 unfold mapOf at h
 split at h
 ·cases h;exact⟨rfl,rfl⟩
 ·cases h
theorem LC (hT:pW P T) {K:TypeId} {tk:TI} {kk:List (Option IntKind)} {kd:List DV} {m:OX} {es:Array MapEntry} (hk:get T K=some tk) (hf:flatK T 8 K=some kk) (hkk:xV T tk.d=true) (hkd:aA kk kd=true)
  (hsz:m.kagg=tk.agg) (hes:es.size=m.len) (hkinds: ∀i,i<m.len->aA kk (bW (m.key i) 0 m.ksz)=true)
  (hent: ∀i,i<m.len-> ∃e,es[i]? =some e/\e.born=i/\wG ρ F w m.kagg m.ksz (fun j=> .d (m.key i j)) e.key/\wG ρ F w m.vagg m.vsz (m.val i) e.val):
  ∃q:MapEntry->Bool,(Instr.findKey K (gL tk.agg (kd.map ja)) es.toList).run P w= .ok (nP q es.toList 0) w/\ ∀i e,es[i]? =some e->jO kd (bW (m.key i) 0 m.ksz)=some (q e):=by
 classical
 have ht:=hT.get hk
 have hkey: ∀i e,es[i]? =some e->i<m.len/\e.key=gL tk.agg ((bW (m.key i) 0 m.ksz).map ja)/\ ∃b,jO kd (bW (m.key i) 0 m.ksz)=some b:=fun i e he=>by
  have hi:i<m.len:=by rw [<-hes];exact(Array.getElem?_eq_some_iff.1 he).1
  obtain⟨e',h1,_,⟨s,h2,h3⟩,_⟩:=hent i hi
  rw [he]at h1;cases h1
  rw [xE,hsz]at h2
  exact⟨hi,Fw (hkinds i hi) h2 h3,JF hkd (hkinds i hi)⟩
 let q:MapEntry->Bool:=fun e=>decide (∃i,es[i]? =some e/\jO kd (bW (m.key i) 0 m.ksz)=some true)
 have hq: ∀i e,es[i]? =some e->jO kd (bW (m.key i) 0 m.ksz)=some (q e):=fun i e he=>by
  obtain⟨hi,hke,b,hb⟩:=hkey i e he
  rw [hb]
  congr 1
  cases b with
  |true=>exact(bz (⟨i,he,hb⟩: ∃i,es[i]? =some e/\jO kd (bW (m.key i) 0 m.ksz)=some true)).symm
  |false=>
   refine(b_ ?_).symm
   rintro ⟨i',he',hb'⟩
   obtain⟨hi',_⟩:=hkey i' e he'
   have e1:=(hent i hi)
   have e2:=(hent i' hi')
   obtain⟨x,x1,x2,_⟩:=e1
   obtain⟨y,y1,y2,_⟩:=e2
   rw [he]at x1;cases x1
   rw [he']at y1;cases y1
   have:i=i':=x2.symm.trans y2
   subst this
   rw [hb]at hb';cases hb'
 refine⟨q,run_findKey ht (fun e he=> ?_) ?_,hq⟩
 ·obtain⟨i,hi⟩:=List.getElem?_of_mem he
  have hi':es[i]? =some e:=by simpa using hi
  obtain⟨h1,h2,_⟩:=hkey i e hi'
  rw [h2]
  exact(uH hT 8 10000 (by omega) K kk tk hf hk).2 w kd _ _ hkd (hkinds i h1) (hq i e hi')
 ·unfold flatK at hf
  rw [hk]at hf
  simp only at hf
  unfold xV at hkk
  cases hd:tk.d with
  |int k=>
   left
   intro e he
   obtain⟨i,hi⟩:=List.getElem?_of_mem he
   have hi':es[i]? =some e:=by simpa using hi
   obtain⟨h1,h2,_⟩:=hkey i e hi'
   have h3:=hkinds i h1
   have h4:=hq i e hi'
   rw [hd]at hf
   simp only at hf
   cases hb:Nat.beq tk.size 1 with
   |false=>simp [hb]at hf
   |true=>
    simp only [hb,bt]at hf
    cases hf
    have hagg:tk.agg=false:=by simp [TI.agg,hd]
    rw [h2]
    generalize bW (m.key i) 0 m.ksz=ds at h3 h4 ⊢
    match kd,ds,hkd,h3,h4 with
    |[.int k1 x],[.int k2 y],hkd,h3,h4=>
     simp [aA]at hkd h3
     subst hkd;subst h3
     simp [jO,Tt]at h4
     simp [gL,hagg,ja,Instr.sameNow,mG,h4]
    | .int _ _::_::_,_,hkd,_,_=>simp [aA]at hkd
    |[.int _ _], .int _ _::_::_,_,h3,_=>simp [aA]at h3
  |bool=>
   left
   intro e he
   obtain⟨i,hi⟩:=List.getElem?_of_mem he
   have hi':es[i]? =some e:=by simpa using hi
   obtain⟨h1,h2,_⟩:=hkey i e hi'
   have h3:=hkinds i h1
   have h4:=hq i e hi'
   rw [hd]at hf
   simp only at hf
   cases hb:Nat.beq tk.size 1 with
   |false=>simp [hb]at hf
   |true=>
    simp only [hb,bt]at hf
    cases hf
    have hagg:tk.agg=false:=by simp [TI.agg,hd]
    rw [h2]
    generalize bW (m.key i) 0 m.ksz=ds at h3 h4 ⊢
    match kd,ds,hkd,h3,h4 with
    |[.bool x],[.bool y],hkd,h3,h4=>
     simp [jO,Tt]at h4
     simp [gL,hagg,ja,Instr.sameNow,h4]
  |array n e=>
   right
   intro e he
   have hagg:tk.agg=true:=by simp [TI.agg,hd]
   rw [hagg]
   simp [Instr.sameNow,gL]
  |_=>rw [hd]at hkk;simp at hkk
def Gb (z:Value):Option (Nat × Value)->Value
 |some (_,v)=>v
 |none=>z
theorem EA {t K V:TypeId} {x y:Operand} {ok:Bool} {ti tv:TI} (ht:iC P t ti) (hd:ti.d= .map K V) (hv:iC P V tv) (hop:o.op= .lookup t x y ok) {r:Nat} {es:Array MapEntry} {cl:Nat} (hx:a.eval x= .map (some r)) (hr:w.heap[r]? =some (.map es cl))
  {kv z:Value} (hy:a.eval y=kv) (hck: ∀em,(Instr.checkKey em 10000 K kv).run P w= .ok () w) {res:Option (Nat × Value)} (hf:(Instr.findKey K kv es.toList).run P w= .ok res w) (hz:(zeroValue V).run P w= .ok z w):
  (execOp a.eval o).run P w= .ok (.value (if ok then .tuple #[Gb z res, .bool res.isSome]else Gb z res)) w:=by
 have hu:=aS (w:=w) ht
 rw [hd]at hu
 have hg:(getObj r).run P w= .ok (.map es cl) w:=by simp [getObj,Sem.run,hr]
 simp only [execOp,hop,Instr.lookup,Sem.run_bind,hu,Result.andThen_ok,hx,hy,hg,Sem.run_pure,hck,hf]
 cases res with
 |none=>simp [hz,Gb]
 |some p=>obtain⟨i,v⟩:=p;simp [Gb]
theorem LD (hT:pW P T) {V:TypeId} {tv:TI} (hV:get T V=some tv) {zv:Value} (h1:(zeroValue V).run P w= .ok zv w) (h2:zv.cells.toList=tv.zero) {z:List DV} (hz:rZ tv.zero=some z) {s:SV} (hs:mq tv.agg (z.map .d)=some s):gT ρ F w s zv:=by
 have hzr:=lK (ρ:=ρ) (F:=F) (w:=w) hz
 rw [<-h2]at hzr
 have hsh:Hg tv.agg zv=true:=by
  obtain⟨_,i,z',hi,_,_,hz',_⟩:=hT.get hV
  have:(zeroValue V).run P w= .ok z' w:=by simp [zeroValue,typeInfo,hi,hz']
  rw [this]at h1;cases h1
  exact hT.Z5 hV i zv hi hz'
 cases hag:tv.agg with
 |true=>
  rw [hag]at hs hsh
  simp [mq]at hs;subst hs
  cases zv<;>simp [Hg]at hsh
  rename_i us
  exact⟨us.toList,by simp,hzr⟩
 |false=>
  rw [hag]at hs hsh
  match z,hs with
  |[d],hs=>
   simp [mq]at hs;subst hs
   have hc:zv.cells.toList=[zv]:=by cases zv<;>simp [Hg]at hsh<;>rfl
   rw [hc]at hzr
   exact hzr.1
theorem KI (hT:pW P T) {t:TypeId} {x y:Operand} {ok:Bool} {ti:TI} {xa ya:TV} {an:pI} {obs:List (Option (Option Ob))} {E:Eff} (ht:iC P t ti) (hop:o.op= .lookup t x y ok) (he:D5 T an ti.d xa ya ok obs=some E) (hc:All E.conds)
  (hobs:obs=(foot an 0 (.lookup t x y ok) [xa,ya]).map h) (fr:Fr B ρ F w) (hi:HI B ρ F w h) (hx:bM ρ F w xa (a.eval x)) (hy:bM ρ F w ya (a.eval y)):Good P B ρ F w h o a E.tv E.hd:=by
 unfold D5 at he
 split at he
 ·rename_i K V hd
  split at he
  ·rename_i b m hm
   split at he
   ·rename_i tk tv kk kd hko
    split at he
    ·rename_i okk cs
     split at he
     ·rename_i z s hz hs
      cases he
      obtain⟨⟨hkinds,hres⟩,_⟩:=hc
      obtain⟨rfl,hob⟩:=Jy hm
      obtain⟨ks,rfl,k1,k2,k3,k4,k5,k6,k7,k8,k9,k10,k11,k12,k13⟩:=IU hko
      rw [hobs]at hob
      simp [foot]at hob
      obtain⟨k,base,cap,hk,hv⟩:=hx
      obtain⟨ft,hi0⟩:=id hi
      obtain⟨k',base',cap',es,m1,m0,m2,m3,m4,m5⟩:=hi0.obj b _ hob
      rw [hk]at m1;cases m1
      have hky:=IY k11 k12 k4 hy
      obtain⟨q,f1,f2⟩:=LC (ρ:=ρ) (F:=F) (w:=w) hT k1 k3 k13 k11 k7 m3 hkinds m5
      obtain⟨zv,z1,z2⟩:=tJ (w:=w) (hT.get k2)
      have hrun:=EA (w:=w) ht hd (hT.get k2) hop hv m2 hky (fun em=>run_checkKey hT k1 k3 k13 k11) f1 z1
      have hfin: ∀v,gT ρ F w s v->Gb zv (nP q es.toList 0)=v->(nP q es.toList 0).isSome=okk->Good P B ρ F w h o a (bif ok then .fF [s, .one (.d (.bool okk))]else .v s) []:=by
       intro v hrv h1 h2
       rw [h1,h2]at hrun
       cases ok with
       |true=>exact aJ fr hi hrun ⟨[v, .bool okk],rfl,hrv,rfl,trivial⟩
       |false=>exact aJ fr hi hrun hrv
      rcases hres with⟨rfl,i,hil,hi1,hi2,rfl⟩|⟨rfl,hi1,hz0⟩
      ·obtain⟨e,e1,_,_,⟨s',e3,e4⟩⟩:=m5 i hil
       rw [k8,hs]at e3;cases e3
       have hfe:=zG (q:=q) (es:=es.toList) (i:=0) (j:=i) (e:=e) (by simpa using e1) (by have:=f2 i e e1;rw [hi1]at this;simpa using this.symm)
        (fun j' e' hj he'=>by have:=f2 j' e' (by simpa using he');rw [hi2 j' hj]at this;simpa using this.symm)
       exact hfin e.val e4 (by rw [hfe];rfl) (by rw [hfe];rfl)
      ·have hfe:nP q es.toList 0=none:=uI fun e he=>by
        obtain⟨i,hi'⟩:=List.getElem?_of_mem he
        have hi'':es[i]? =some e:=by simpa using hi'
        have hlt:i<m.len:=by rw [<-m3];exact(Array.getElem?_eq_some_iff.1 hi'').1
        have:=f2 i e hi''
        rw [hi1 i hlt]at this;simpa using this.symm
       refine hfin zv ?_ (by rw [hfe];rfl) (by rw [hfe];rfl)
       obtain⟨s0,hs0,hs1⟩:=hz0.sv hs
       exact hs1 _ _ _ _ (LD hT k2 z1 z2 hz hs0)
     ·cases he
    ·cases he
   ·cases he
  ·cases he
 ·cases he
theorem OC {c d:Nat->DV} {n:Nat} (h:bW c 0 n=bW d 0 n):fM (fun j=> .d (c j)) 0 n=fM (fun j=> .d (d j)) 0 n:=by
 rw [xE,xE,h]
theorem Ik (hT:pW P T) {t:TypeId} {ti:TI} {fresh:Nat} {an:pI} {obs:List (Option (Option Ob))} {E:Eff} (hop:o.op= .makeMap t none) (he:BK T fresh an ti.d obs=some E) (hobs:obs=[h fresh])
  (fr:Fr B ρ F w) (hi:HI B ρ F w h):Good P B ρ F w h o a E.tv E.hd:=by
 unfold BK at he
 split at he
 ·rename_i K V hd
  simp at hobs
  split at he
  ·rename_i tk tv _ _
   have hfr:h fresh=none:=hobs.symm
   have p:=Push.alloc w (.map #[] 0)
   have hρ:=hi.fresh fresh hfr
   have hrun:(execOp a.eval o).run P w= .ok (.value (.map (some w.heap.size))) (w.alloc (.map #[] 0)):=by
    simp [execOp,hop,Instr.makeMap,newObj];rfl
   split at he
   ·split at he
    ·cases he
     refine bO (p.gr fr (pl:= .blk w.heap.size 0 0) hρ) (p.fr fr hρ) (p.hi fr hi hfr ?_) hrun ⟨w.heap.size,0,0,au _ _,rfl⟩
     exact⟨w.heap.size,0,0, #[],fun _=>none,au _ _,rfl,by rw [p.new];rfl,rfl,fun i hi=>absurd hi (cM i),(fun _ _ _ e=>by cases e),(fun _ e=>by cases e),List.nodup_nil⟩
    ·cases he
   ·cases he
    refine bO (p.gr fr (pl:= .blk w.heap.size 0 0) hρ) (p.fr fr hρ) (p.hi fr hi hfr ?_) hrun ⟨w.heap.size,0,0,au _ _,rfl⟩
    exact⟨w.heap.size,0,0, #[],au _ _,rfl,by rw [p.new];rfl,rfl,fun i hi=>by simp at hi,fun i hi=>by simp at hi⟩
   ·cases he
    refine bO (p.gr fr (pl:= .blk w.heap.size 0 0) hρ) (p.fr fr hρ) (p.hi fr hi hfr ?_) hrun ⟨w.heap.size,0,0,au _ _,rfl⟩
    exact⟨w.heap.size,0,0, #[],au _ _,rfl,by rw [p.new];rfl,rfl,fun i hi=>by simp at hi,fun i hi=>by simp at hi⟩
  ·cases he
 ·cases he
theorem JL: ∀{ks:List (Option IntKind)} {ds:List DV},aA ks ds=true-> ∀agg n,Instr.sameBits (n+1) (gL agg (ds.map ja)) (gL agg (ds.map ja))=true\/(agg=false/\ds=[]):=by
 have one: ∀{ks:List (Option IntKind)} {ds:List DV},aA ks ds=true-> ∀n,∀d∈ds,Instr.sameBits n (ja d) (ja d)=true:=by
  intro ks
  induction ks with
  |nil=>intro ds h n d hd;cases ds with
   |nil=>simp at hd
   |cons _ _=>simp [aA]at h
  |cons k ks ih=>
   intro ds h n d hd
   cases ds with
   |nil=>simp at hd
   |cons x xs=>
    have hx: ∀n,Instr.sameBits n (ja x) (ja x)=true:=fun n=>by
     cases k<;>cases x<;>simp [aA]at h<;>cases n<;>simp [ja,Instr.sameBits]
    have ht:aA ks xs=true:=by
     cases k<;>cases x<;>simp [aA]at h
     ·exact h
     ·exact h.2
    rcases eA.1 hd with rfl|hd
    ·exact hx n
    ·exact ih ht n d hd
 intro ks ds h agg n
 cases agg with
 |true=>
  left
  simp only [gL,bt,Instr.sameBits,beq_self_eq_true,cR]
  have: ∀l:List Value,(∀v∈l,Instr.sameBits n v v=true)->(l.zip l).all (fun(x,y)=>Instr.sameBits n x y)=true:=by
   intro l
   induction l with
   |nil=>simp
   |cons v l ih=>intro hh;simp [hh v (by simp),ih fun u hu=>hh u (by simp [hu])]
  refine this _ fun v hv=> ?_
  obtain⟨d,hd,rfl⟩:=List.mem_map.1 hv
  exact one h n d hd
 |false=>
  cases ds with
  |nil=>exact .inr ⟨rfl,rfl⟩
  |cons d ds=>left;simp [gL];exact one h _ d (by simp)
theorem DC: ∀{ks:List (Option IntKind)} {ds:List DV},aA ks ds=true->bP ρ F w (ds.map .d) (ds.map ja)
 |_,[],_=>trivial
 |[],_::_,h=>by simp [aA]at h
 |k::ks,d::ds,h=>by
  cases k with
  |none=>
   cases d<;>simp [aA]at h
   exact⟨rfl,DC h⟩
  |some k=>
   cases d<;>simp [aA]at h
   exact⟨rfl,DC h.2⟩
theorem yj (hT:pW P T) {t:TypeId} {x y z:Operand} {ti:TI} {xa ya za:TV} {an:pI} {obs:List (Option (Option Ob))} {E:Eff} (ht:iC P t ti) (hex:execOp a.eval o=(do Instr.mapUpdate t (a.eval x) (a.eval y) (a.eval z);pure .skip)) 
  (he:sZ T an ti.d xa ya za obs=some E) (hc:All E.conds)
  (hobs:obs=(match xa with| .v (.one (.mp b))=>[b]|_=>[]).map h) (fr:Fr B ρ F w) (hi:HI B ρ F w h) (hx:bM ρ F w xa (a.eval x)) (hy:bM ρ F w ya (a.eval y)) (hz:bM ρ F w za (a.eval z)):Good P B ρ F w h o a E.tv E.hd:=by
 unfold sZ at he
 split at he
 ·rename_i K V hd
  split at he
  ·rename_i b m hm
   split at he
   ·rename_i tk tv kk kd hko
    split at he
    ·rename_i len' key' val' ms
     split at he
     ·rename_i vs
      cases hb:(xB vs==tv.agg)with
      |false=>simp [hb]at he
      |true=>
       simp only [hb,bt]at he
       cases he
       obtain⟨⟨hkinds,hment,i,hbef,hcase,hkey',hval',hoth⟩,_⟩:=hc
       obtain⟨rfl,hob⟩:=Jy hm
       obtain⟨ks,rfl,k1,k2,k3,k4,k5,k6,k7,k8,k9,k10,k11,k12,k13⟩:=IU hko
       rw [hobs]at hob
       simp at hob
       obtain⟨k,base,cap,hk,hv⟩:=hx
       obtain⟨ft,hi⟩:=hi
       obtain⟨k',base',cap',es,m1,m0,m2,m3,m4,m5⟩:=hi.obj b _ hob
       rw [hk]at m1;cases m1
       have hky:=IY k11 k12 k4 hy
       obtain⟨q,f1,f2⟩:=LC (ρ:=ρ) (F:=F) (w:=w) hT k1 k3 k13 k11 k7 m3 hkinds m5
       have hu:=aS (w:=w) ht
       rw [hd]at hu
       have hg:(getObj k).run P w= .ok (.map es es.size) w:=by simp [getObj,Sem.run,m2]
       have hklt:k<w.heap.size:=(Array.getElem?_eq_some_iff.1 m2).1
       have hset: ∀ob',(setObj k ob').run P w= .ok () {w with heap:=w.heap.setIfInBounds k ob'}:=fun ob'=>by
        simp only [setObj,Sem.run,m2]
       have pt: ∀ob',Put w {w with heap:=w.heap.setIfInBounds k ob'} k:=fun ob'=> ⟨by simp,fun j hj=>by simp [Array.getElem?_setIfInBounds,Ne.symm hj],rfl,rfl,rfl⟩
       have hblk:=hi.blk b _ k hob m0
       have hone:tk.agg=false->kd.length=1:=fun hag=>by rw [gU k11];exact wI k3 k1 hag
       have hkA: ∀W:World,wG ρ F W m.kagg m.ksz (fun j=> .d (key' i j)) (gL tk.agg (kd.map ja)):=fun W=>by
        have hvr:=DC (ρ:=ρ) (F:=F) (w:=W) k11
        cases hag:tk.agg with
        |true=>exact⟨.agg (kd.map .d),by rw [xE,hkey',k7,hag];rfl,kd.map ja,rfl,hvr⟩
        |false=>
         have hl:=hone hag
         match kd,hl,hkey',hvr with
         |[d],_,hkey',hvr=>exact⟨.one (.d d),by rw [xE,hkey',k7,hag];rfl,hvr.1⟩
       have hgr: ∀ob',Gr ρ F w ρ F {w with heap:=w.heap.setIfInBounds k ob'}:=fun ob'=>(pt ob').gr hblk.2.1
       have hvA: ∀ob',wG ρ F {w with heap:=w.heap.setIfInBounds k ob'} m.vagg m.vsz (val' i) (a.eval z):=fun ob'=>by
        have hb':xB vs=tv.agg:=by simpa using hb
        refine⟨vs, ?_,gT.gr (hgr ob') hz⟩
        rw [hval',k8,<-hb']
        cases vs<;>rfl
       have hold: ∀ob' i' e,es[i']? =some e->i'≠i->wG ρ F {w with heap:=w.heap.setIfInBounds k ob'} m.kagg m.ksz (fun j=> .d (key' i' j)) e.key/\wG ρ F {w with heap:=w.heap.setIfInBounds k ob'} m.vagg m.vsz (val' i') e.val/\e.born=i':=fun ob' i' e he hne=>by
        have hlt:i'<m.len:=by rw [<-m3];exact(Array.getElem?_eq_some_iff.1 he).1
        obtain⟨e',e1,e2,e3,e4⟩:=m5 i' hlt
        rw [he]at e1;cases e1
        obtain⟨o1,o2⟩:=hoth i' hlt hne
        refine⟨wG.keep (hgr ob') ?_,wG.keep (hgr ob') ?_,e2⟩
        ·unfold wG;rw [OC o1];exact e3
        ·unfold wG;rw [o2];exact e4
       have finish: ∀es':Array MapEntry,es'.size=len'->(execOp a.eval o).run P w= .ok .skip {w with heap:=w.heap.setIfInBounds k (.map es' es'.size)}->
         (∀i' e,es'[i']? =some e->(i'=i/\e.born=i/\e.key=gL tk.agg (kd.map ja)/\e.val=a.eval z)\/(i'≠i/\ ∃e0,es[i']? =some e0/\e0.key=e.key/\e0.val=e.val/\e0.born=e.born))->
         Good P B ρ F w h o a (.fF []) [(b,some (.map {m with len:=len',key:=key',val:=val',ms:=ms}))]:=by
        intro es' hsz hrun hent
        refine tL (hgr _) ((pt _).fr fr hblk.2.2) ⟨_,(pt _).hi fr hi hob m0 (fun _ h=>h) ⟨k,base,cap,es',hk,m0,by simp [hklt],hsz,hment,fun i' hi'=> ?_⟩⟩ hrun
        have hi'':i'<es'.size:=by rw [hsz];exact hi'
        have hg':=Array.getElem?_eq_getElem hi''
        rcases hent i' _ hg' with⟨rfl,q1,q2,q3⟩|⟨q1,e0,q2,q3,q4,q5⟩
        ·exact⟨_,hg',q1,by rw [q2];exact hkA _,by rw [q3];exact hvA _⟩
        ·obtain⟨r1,r2,r3⟩:=hold (.map es' es'.size) i' e0 q2 q1
         exact⟨_,hg',by rw [<-q5];exact r3,by rw [<-q3];exact r1,by rw [<-q4];exact r2⟩
       have hck:=run_checkKey (w:=w) hT (em:=false) k1 k3 k13 k11
       rcases hcase with⟨hil,heq,rfl⟩|⟨rfl,rfl⟩
       ·obtain⟨e,e1,e2,⟨s',e3,e3'⟩,_⟩:=m5 i hil
        have hke:e.key=gL tk.agg (kd.map ja):=by
         rw [xE,k7]at e3
         have:=Fw (hkinds i hil) e3 e3'
         rw [this,Jb heq]
        have hfe:=zG (q:=q) (es:=es.toList) (i:=0) (j:=i) (e:=e) (by simpa using e1) (by have:=f2 i e e1;rw [heq]at this;simpa using this.symm)
         (fun j' e' hj he'=>by have:=f2 j' e' (by simpa using he');rw [hbef j' hj]at this;simpa using this.symm)
        rw [cD]at hfe
        have hsb:Instr.sameBits 10000 (gL tk.agg (kd.map ja)) (gL tk.agg (kd.map ja))=true:=by
         rcases JL k11 tk.agg 9999 with q|⟨q1,q2⟩
         ·exact q
         ·have:=hone q1;rw [q2]at this;simp at this
        refine finish (es.modify i fun e=>{e with key:=gL tk.agg (kd.map ja),val:=a.eval z}) (by simp [m3]) ?_ fun i' e' he'=> ?_
        ·rw [hex]
         simp only [Instr.mapUpdate,Sem.run_bind,hu,Result.andThen_ok,hv,hg,hky,hck,f1,hfe,e1,Option.map_some,Option.getD_some,hke,Instr.keyThatStays,hsb,if_true,Sem.run_pure,hset]
         simp
        ·rw [Array.getElem?_modify]at he'
         split at he'
         ·rename_i hii;subst hii
          rw [e1]at he'
          simp at he'
          exact .inl ⟨rfl,by rw [<-he'];exact e2,by rw [<-he'],by rw [<-he']⟩
         ·rename_i hii
          exact .inr ⟨Ne.symm hii,e',he',rfl,rfl,rfl⟩
       ·have hfe:nP q es.toList 0=none:=uI fun e he=>by
         obtain⟨j,hj⟩:=List.getElem?_of_mem he
         have hj':es[j]? =some e:=by simpa using hj
         have hlt:j<m.len:=by rw [<-m3];exact(Array.getElem?_eq_some_iff.1 hj').1
         have:=f2 j e hj'
         rw [hbef j hlt]at this;simpa using this.symm
        refine finish (es.push {key:=gL tk.agg (kd.map ja),val:=a.eval z,born:=es.size}) (by simp [m3]) ?_ fun i' e' he'=> ?_
        ·rw [hex]
         simp only [Instr.mapUpdate,Sem.run_bind,hu,Result.andThen_ok,hv,hg,hky,hck,f1,hfe,hset,Sem.run_pure]
         simp
        ·rw [Array.getElem?_push]at he'
         split at he'
         ·rename_i hii
          cases he'
          exact .inl ⟨by rw [hii,m3],by simp [m3],rfl,rfl⟩
         ·rename_i hii
          have:i'<es.size:=(Array.getElem?_eq_some_iff.1 he').1
          exact .inr ⟨by omega,e',he',rfl,rfl,rfl⟩
     ·cases he
    ·cases he
   ·cases he
  ·cases he
 ·cases he
end
theorem BZ (n:Int): ∀(l:List (Int × List Int)),(∃i,i<l.length/\(l.getD i default).1=n/\(∀j,j<i->(l.getD j default).1≠n)/\aC n l=(l.getD i default).2)\/((∀i,i<l.length->(l.getD i default).1≠n)/\aC n l=[])
 |[]=> .inr ⟨fun i hi=>absurd hi (cM i),rfl⟩
 |(k,v)::l=>by
  by_cases e:n=k
  ·left
   refine⟨0,by simp,by simp [e],fun j hj=>absurd hj (cM j), ?_⟩
   simp [aC,e]
  ·have hg:aC n ((k,v)::l)=aC n l:=by simp [aC,e]
   rw [hg]
   rcases BZ n l with⟨i,h1,h2,h3,h4⟩|⟨h1,h2⟩
   ·left
    refine⟨i+1,by simp;omega,by simpa using h2,fun j hj=> ?_,by simpa using h4⟩
    cases j with
    |zero=>simp;exact Ne.symm e
    |succ j=>simpa using h3 j (by omega)
   ·right
    refine⟨fun i hi=> ?_,h2⟩
    cases i with
    |zero=>simp;exact Ne.symm e
    |succ i=>simpa using h1 i (by simpa using hi)
theorem tu {l:List (Int × List Int)} (h:(l.map (·.1)).Nodup) {i j:Nat} (hi:i<l.length) (hj:j<l.length) (e:(l.getD i default).1=(l.getD j default).1):i=j:=by
 have h1:(l.map (·.1))[i]'(by simpa using hi)=(l.map (·.1))[j]'(by simpa using hj):=by
  simp only [List.getElem_map]
  simpa [cU,hi,hj]using e
 exact(List.getElem_inj h).1 h1
theorem FT (n:Int) (v:List Int): ∀(l:List (Int × List Int)),(∃i,i<l.length/\(l.getD i default).1=n/\(∀j,j<i->(l.getD j default).1≠n)/\(eU n v l).length=l.length/\ ∀j,(eU n v l).getD j default=if j=i then(n,v)else l.getD j default)\/
  ((∀i,i<l.length->(l.getD i default).1≠n)/\eU n v l=l++[(n,v)])
 |[]=> .inr ⟨fun i hi=>absurd hi (cM i),rfl⟩
 |(k,u)::l=>by
  by_cases e:n=k
  ·left
   refine⟨0,by simp,by simp [e],fun j hj=>absurd hj (cM j),by simp [eU,e],fun j=> ?_⟩
   cases j<;>simp [eU,e]
  ·have hg:eU n v ((k,u)::l)=(k,u)::eU n v l:=by simp [eU,e]
   rw [hg]
   rcases FT n v l with⟨i,h1,h2,h3,h4,h5⟩|⟨h1,h2⟩
   ·left
    refine⟨i+1,by simp;omega,by simpa using h2,fun j hj=> ?_,by simp [h4],fun j=> ?_⟩
    ·cases j with
     |zero=>simp;exact Ne.symm e
     |succ j=>simpa using h3 j (by omega)
    ·cases j with
     |zero=>simp
     |succ j=>simpa using h5 j
   ·right
    refine⟨fun i hi=> ?_,by rw [h2];rfl⟩
    cases i with
    |zero=>simp;exact Ne.symm e
    |succ i=>simpa using h1 i (by simpa using hi)
theorem M5 {n:Int} {v:List Int} {x:Int}: ∀{l:List (Int × List Int)},x∈(eU n v l).map (·.1)->x=n\/x∈l.map (·.1)
 |[],h=>by simp [eU]at h;exact .inl h
 |(k,u)::l,h=>by
  by_cases e:n=k
  ·right;simpa [eU,e]using h
  ·have hg:eU n v ((k,u)::l)=(k,u)::eU n v l:=by simp [eU,e]
   rw [hg,cN,eA]at h
   rcases h with h|h
   ·right;simp [h]
   ·rcases M5 h with h|h
    ·exact .inl h
    ·right;rw [cN];exact ct _ h
theorem Bj {n:Int} {v:List Int}: ∀{l:List (Int × List Int)},(l.map (·.1)).Nodup->((eU n v l).map (·.1)).Nodup
 |[],_=>by simp [eU]
 |(k,u)::l,h=>by
  by_cases e:n=k
  ·simpa [eU,e]using h
  ·have hg:eU n v ((k,u)::l)=(k,u)::eU n v l:=by simp [eU,e]
   rw [hg,cN,cC]
   rw [cN,cC]at h
   refine⟨fun hm=> ?_,Bj h.2⟩
   rcases M5 hm with q|q
   ·exact e q.symm
   ·exact h.1 q
section
variable {P:Program} {B:Base} {ρ ρ':Nat->Option Pl} {F F':Nat->Prop} {w w':World} {h:Hp} {o:Oper} {a:Act} {T:List (Nat × TI)}
theorem Pg {K V K' V' E:TypeId} (h:Zo T K V K' V' E=true): ∃tk tv te,get T K=some tk/\get T V=some tv/\get T E=some te/\K=K'/\V=V'/\tk.d= .int .i64/\tk.size=1/\tk.agg=false/\tv.agg=false/\te.size=1/\
  ∃e f,rZ tv.zero=some [.sl (some false) e 0 f]:=by
 unfold Zo at h
 split at h
 ·rename_i tk tv te h1 h2 h3
  simp only [ce,dd]at h
  obtain⟨⟨⟨⟨⟨⟨⟨⟨⟨b1,b2⟩,b3⟩,b4⟩,b5⟩,b6⟩,b7⟩,b8⟩,b9⟩,b10⟩:=h
  refine⟨tk,tv,te,h1,h2,h3,bv b1,bv b2, ?_,bv b4,b8,b7,bv b6, ?_⟩
  ·split at b3
   ·rename_i e;exact e
   ·cases b3
  ·split at b10
   ·rename_i e f q;exact⟨e,f,q⟩
   ·cases b10
 ·cases h
def gq (n:Int) (e:MapEntry):Bool:=match e.key with| .int _ m=>decide (n=m)|_=>false
theorem IK (hT:pW P T) {K:TypeId} {tk:TI} {n:Int} {es:Array MapEntry} {l:List (Int × List Int)} (hk:get T K=some tk) (hd:tk.d= .int .i64) (hs:tk.size=1) (ha:tk.agg=false) (hes:es.size=l.length)
  (hent: ∀i,i<l.length-> ∃e,es[i]? =some e/\e.key= .int .i64 (l.getD i default).1):
  (Instr.findKey K (.int .i64 n) es.toList).run P w= .ok (nP (gq n) es.toList 0) w:=by
 have hf:flatK T 8 K=some [some .i64]:=by
  unfold flatK;rw [hk];simp only [hd];simp [hs]
 have hkey: ∀e∈es.toList,∃m,e.key= .int .i64 m:=fun e he=>by
  obtain⟨i,hi⟩:=List.getElem?_of_mem he
  have hi':es[i]? =some e:=by simpa using hi
  have hlt:i<l.length:=by rw [<-hes];exact(Array.getElem?_eq_some_iff.1 hi').1
  obtain⟨e',e1,e2⟩:=hent i hlt
  rw [hi']at e1;cases e1
  exact⟨_,e2⟩
 refine run_findKey (hT.get hk) (fun e he=> ?_) (.inl fun e he=> ?_)
 ·obtain⟨m,hm⟩:=hkey e he
  have h2:=(uH hT 8 10000 (by omega) K _ tk hf hk).2 w [.int .i64 n] [.int .i64 m] (decide (n=m) && true) (by simp [aA]) (by simp [aA]) (by simp [jO,Tt])
  rw [ha]at h2
  rw [show gq n e=(decide (n=m) && true) by simp [gq,hm],hm]
  exact h2
 ·obtain⟨m,hm⟩:=hkey e he
  rw [show gq n e=decide (n=m) by simp [gq,hm],hm,hd]
  simp [Instr.sameNow,mG]
theorem AO (hT:pW P T) {K:TypeId} {tk:TI} {n:Int} (hk:get T K=some tk) (hd:tk.d= .int .i64) (em:Bool):(Instr.checkKey em 10000 K (.int .i64 n)).run P w= .ok () w:=by
 have hu:=aS (w:=w) (hT.get hk)
 rw [hd]at hu
 rw [Instr.checkKey,Sem.run_bind,hu];rfl
theorem M8 (hT:pW P T) {t:TypeId} {x y:Operand} {ok:Bool} {c:Nat} {row:List Int} {ti:TI} {xa ya:TV} {obs:List (Option (Option Ob))} {E:Eff} (ht:iC P t ti) (hop:o.op= .lookup t x y ok) (he:GZ T c row ti.d xa ya ok obs=some E) (hc:All E.conds)
  (hobs:obs=(foot (.gtk c row) 0 (.lookup t x y ok) [xa,ya]).map h) (fr:Fr B ρ F w) (hi:HI B ρ F w h) (hx:bM ρ F w xa (a.eval x)) (hy:bM ρ F w ya (a.eval y)):Good P B ρ F w h o a E.tv E.hd:=by
 obtain⟨ft,hi⟩:=hi
 unfold GZ at he
 split at he
 ·rename_i K V b n K' V' Et l hd
  cases hb:Zo T K V K' V' Et with
  |false=>simp [hb]at he
  |true=>
   simp only [hb,bt]at he
   cases he
   obtain⟨hrow,_⟩:=hc
   obtain⟨tk,tv,te,k1,k2,k3,rfl,rfl,d1,d2,d3,d4,d5,ez,fz,d6⟩:=Pg hb
   simp [foot]at hobs
   obtain⟨hob,hcn⟩:=hobs
   obtain⟨k,base,cap,hk,hv⟩:=hx
   have hy:a.eval y= .int .i64 n:=hy
   obtain⟨k',base',cap',es,rb,m1,m0,m2,m3,m4,m5,m6,m7⟩:=hi.obj b _ hob.symm
   rw [hk]at m1;cases m1
   have hf:=IK (w:=w) hT (n:=n) (es:=es) (l:=l) k1 d1 d2 d3 m3 (fun i hi=>by obtain⟨e,e1,_,e3,_⟩:=m4 i hi;exact⟨e,e1,e3⟩)
   obtain⟨zv,z1,z2⟩:=tJ (w:=w) (hT.get k2)
   have hrun:=EA (w:=w) ht hd (hT.get k2) hop hv m2 hy (fun em=>AO hT k1 d1 em) hf z1
   simp only [Bool.false_eq_true,if_false]at hrun
   have hzv:zv= .slice none 0 0:=by
    obtain⟨ad,cp,g1,_,g2,g3,_⟩:=(LD (ρ:=ρ) (F:=F) (w:=w) hT k2 z1 z2 d6 (s:= .one (.d (.sl (some false) ez 0 fz))) (by rw [d4];rfl):bS F w (.sl (some false) ez 0 fz) zv)
    have:=g2 rfl
    subst this
    rw [g1,(g3 rfl).2]
   have hρc:=hi.fresh c hcn.symm
   have grn: ∀p,Gr ρ F w (bL ρ c p) F w:=fun p=> ⟨aO hρc,fun _ h=>h,fun _ _=>rfl⟩
   have frn: ∀p,Fr B (bL ρ c p) F w:=fun p=>{fr with rho:=fun b' p' e=>aO hρc b' p' (fr.rho b' p' e)}
   rcases BZ n l with⟨i,i1,i2,i3,i4⟩|⟨i1,i2⟩
   ·obtain⟨e,e1,e2,e3,e4⟩:=m4 i i1
    have e4:iE F w (ft b) (rb i) (Nn Et (l.getD i default).2) e.val:=e4
    rw [<-i4,<-hrow]at e4
    have hfe:=zG (q:=gq n) (es:=es.toList) (i:=0) (j:=i) (e:=e) (by simpa using e1) (by simp only [gq,e3,i2,decide_true])
     (fun j' e' hj he'=>by
      obtain⟨e'',g1,_,g3,_⟩:=m4 j' (by omega)
      have:es[j']? =some e':=by simpa using he'
      rw [this]at g1;cases g1
      simp only [gq,g3]
      exact b_ (Ne.symm (i3 j' hj)))
    rw [hfe]at hrun
    have hrun:(execOp a.eval o).run P w= .ok (.value e.val) w:=hrun
    have rest: ∀(p:Pl) (S1:Nat->Prop),(∀q,S1 q↔ft b q/\rb i≠some q)->eP (bL ρ c p) F w (.own c false row.length) e.val->jB (bL ρ c p) F w S1 b (.gm K V Et l (some (n, .own c false row.length))):=by
     intro p S1 hS1 hcu
     refine⟨k,base,cap,es,rb,aO hρc _ _ hk,(hS1 k).2 ⟨m0,m6 i⟩,m2,m3,fun i' hi'=> ?_,m5,m6,m7⟩
     obtain⟨e',g1,g2,g3,g4⟩:=m4 i' hi'
     refine⟨e',g1,g2,g3, ?_⟩
     unfold yQ
     simp only
     split
     ·rename_i q
      have:=tu m7 hi' i1 (q.trans i2.symm)
      subst this
      rw [e1]at g1;cases g1
      exact hcu
     ·rename_i hne
      have g4:iE F w (ft b) (rb i') (Nn Et (l.getD i' default).2) e'.val:=g4
      rcases g4 with g4|⟨q,bq,cq,q1,q2,q3,q4⟩
      ·exact .inl g4
      ·exact .inr ⟨q,bq,cq,q1,(hS1 q).2 ⟨q2,fun eq=>hne (by rw [m5 _ _ _ q1 eq];exact i2)⟩,q3,q4⟩
    rcases e4 with⟨n0,hu0⟩|⟨q,bq,cq,q1,q2,q3,q4⟩
    ·have hcu:eP (bL ρ c .nil) F w (.own c false row.length) e.val:= .inr ⟨rfl,au _ _,n0,hu0⟩
     exact bO (grn .nil) (frn .nil) ⟨_,rH.split (S1:=fun q=>ft b q/\rb i≠some q) (S2:=fun _=>False) fr hi hob.symm hcn.symm (fun _ h=>h.1) (fun _ h=>h.elim) (fun _ _ h=>h) (rest _ _ (fun _=>Iff.rfl) hcu) (.inl ⟨au _ _,n0⟩)⟩ hrun hcu
    ·have hcu:eP (bL ρ c (.blk q bq cq)) F w (.own c false row.length) e.val:= .inl ⟨q,bq,cq,au _ _,q3⟩
     exact bO (grn _) (frn _) ⟨_,rH.split (S1:=fun q'=>ft b q'/\rb i≠some q') (S2:=fun q'=>q'=q) fr hi hob.symm hcn.symm (fun _ h=>h.1) (fun q' h=>h ▸ q2) (fun q' h1 h2=>h1.2 (by rw [q1,h2])) (rest _ _ (fun _=>Iff.rfl) hcu) (.inr ⟨q,bq,cq,au _ _,rfl,q4⟩)⟩ hrun hcu
   ·have hfe:nP (gq n) es.toList 0=none:=uI fun e he=>by
     obtain⟨j,hj⟩:=List.getElem?_of_mem he
     have hj':es[j]? =some e:=by simpa using hj
     have hlt:j<l.length:=by rw [<-m3];exact(Array.getElem?_eq_some_iff.1 hj').1
     obtain⟨e',g1,_,g3,_⟩:=m4 j hlt
     rw [hj']at g1;cases g1
     simp only [gq,g3]
     exact b_ (Ne.symm (i1 j hlt))
    rw [hfe]at hrun
    have hrun:(execOp a.eval o).run P w= .ok (.value zv) w:=hrun
    rw [hzv]at hrun
    have hr0:row.length=0:=by rw [hrow,i2];rfl
    have hcu:eP (bL ρ c .nil) F w (.own c false row.length) (.slice none 0 0):= .inr ⟨rfl,au _ _,hr0,rfl⟩
    refine bO (grn .nil) (frn .nil) ⟨_,rH.split (S1:=ft b) (S2:=fun _=>False) fr hi hob.symm hcn.symm (fun _ h=>h) (fun _ h=>h.elim) (fun _ _ h=>h) ?_ (.inl ⟨au _ _,hr0⟩)⟩ hrun hcu
    refine⟨k,base,cap,es,rb,aO hρc _ _ hk,m0,m2,m3,fun i' hi'=> ?_,m5,m6,m7⟩
    obtain⟨e',g1,g2,g3,g4⟩:=m4 i' hi'
    refine⟨e',g1,g2,g3, ?_⟩
    unfold yQ
    simp only
    rw [ci (i1 i' hi')]
    exact g4
 ·cases he
theorem OM (hT:pW P T) {t:TypeId} {x y z:Operand} {row:List Int} {ti:TI} {xa ya za:TV} {obs:List (Option (Option Ob))} {E:Eff} (ht:iC P t ti) (hex:execOp a.eval o=(do Instr.mapUpdate t (a.eval x) (a.eval y) (a.eval z);pure .skip))
  (he:J8 T row ti.d xa ya za obs=some E) (hc:All E.conds) (hobs:obs=(foot (.gput row) 0 (.mapUpdate t x y z) [xa,ya,za]).map h) (fr:Fr B ρ F w) (hi:HI B ρ F w h) (hx:bM ρ F w xa (a.eval x)) (hy:bM ρ F w ya (a.eval y)) (hz:bM ρ F w za (a.eval z)):
  Good P B ρ F w h o a E.tv E.hd:=by
 classical
 obtain⟨ft,hi⟩:=hi
 unfold J8 at he
 split at he
 ·rename_i K V b n c nn m K' V' Et l ov E1 esz1 n1 el1 hd
  cases hb:(Zo T K V K' V' Et && Nat.beq E1 Et && Nat.beq esz1 1 && !(Nat.beq b c))with
  |false=>simp [hb]at he
  |true=>
   simp only [hb,bt]at he
   cases he
   simp only [ce,dd]at hb
   obtain⟨tk,tv,te,k1,k2,k3,rfl,rfl,d1,d2,d3,d4,d5,ez,fz,d6⟩:=Pg hb.1.1.1
   have e1:=bv hb.1.1.2
   have e2:=bv hb.1.2
   have hbc:b≠c:=Nat.ne_of_beq_eq_false hb.2
   subst e1;subst e2
   obtain⟨hmn,hn1,heq,hov,_⟩:=hc
   subst hmn;subst hn1
   simp [foot]at hobs
   obtain⟨hob,hoc⟩:=hobs
   obtain⟨k,base,cap,hk,hv⟩:=hx
   have hy:a.eval y= .int .i64 n:=hy
   obtain⟨k',base',cap',es,rb,m1,m0,m2,m3,m4,m5,m6,m7⟩:=hi.obj b _ hob.symm
   rw [hk]at m1;cases m1
   have hf:=IK (w:=w) hT (n:=n) (es:=es) (l:=l) k1 d1 d2 d3 m3 (fun i hi=>by obtain⟨e,e1,_,e3,_⟩:=m4 i hi;exact⟨e,e1,e3⟩)
   have hu:=aS (w:=w) ht
   rw [hd]at hu
   have hg:(getObj k).run P w= .ok (.map es es.size) w:=by simp [getObj,Sem.run,m2]
   have hklt:k<w.heap.size:=(Array.getElem?_eq_some_iff.1 m2).1
   have hset: ∀ob',(setObj k ob').run P w= .ok () {w with heap:=w.heap.setIfInBounds k ob'}:=fun ob'=>by
    simp only [setObj,Sem.run,m2]
   have pt: ∀ob',Put w {w with heap:=w.heap.setIfInBounds k ob'} k:=fun ob'=> ⟨by simp,fun j hj=>by simp [Array.getElem?_setIfInBounds,Ne.symm hj],rfl,rfl,rfl⟩
   have hblk:=hi.blk b _ k hob.symm m0
   have hgr: ∀ob',Gr ρ F w ρ F {w with heap:=w.heap.setIfInBounds k ob'}:=fun ob'=>(pt ob').gr hblk.2.1
   have hck:=AO (w:=w) hT (n:=n) k1 d1 false
   have hcoth: ∀q,ft c q->q≠k:=fun q hq e=>hbc (hi.dis b c _ _ k hob.symm hoc.symm m0 (e ▸ hq))
   obtain⟨nq,hnq⟩: ∃nq:Option Nat,(nq=none/\row.length=0/\a.eval z= .slice none 0 0)\/ ∃q bq cq,nq=some q/\ft c q/\a.eval z= .slice (some ⟨q,bq,none⟩) row.length cq/\tY F w q bq cq E1 1 row.length (sO row):=by
    have rw2: ∀{q bq cq:Nat},tY F w q bq cq E1 1 row.length el1->tY F w q bq cq E1 1 row.length (sO row):=fun⟨vs,h1,h2,h3,h4,h5⟩=> ⟨vs,h1,h2,h3,h4,fun i hi j hj=>by rw [<-heq i hi j hj];exact h5 i hi j hj⟩
    rcases hz with⟨q,bq,cq,hq,hv'⟩|⟨_,hq,h0',hv'⟩
    ·rcases hi.obj c _ hoc.symm with⟨g0,_⟩|⟨q',bq',cq',g0,g00,g1⟩
     ·rw [hq]at g0;cases g0
     ·rw [hq]at g0;cases g0;exact⟨some q, .inr ⟨q,bq,cq,rfl,g00,hv',rw2 g1⟩⟩
    ·exact⟨none, .inl ⟨rfl,h0',hv'⟩⟩
   have nqc: ∀q,nq=some q->ft c q:=fun q e=>by
    rcases hnq with⟨e',_⟩|⟨q',_,_,e',hf,_⟩
    ·rw [e']at e;cases e
    ·rw [e']at e;cases e;exact hf
   have newV: ∀ob',iE F {w with heap:=w.heap.setIfInBounds k ob'} (fun q=>ft b q\/ft c q) nq (Nn E1 row) (a.eval z):=fun ob'=>by
    rcases hnq with⟨_,x1,x2⟩|⟨q,bq,cq,e,hf,x2,x3⟩
    ·exact .inl ⟨x1,x2⟩
    ·exact .inr ⟨q,bq,cq,e, .inr hf,x2,x3.keep (hgr ob') ((pt ob').old q (hcoth q hf))⟩
   have oldV: ∀ob' (rb':Nat->Option Nat) i e,i<l.length->es[i]? =some e->(l.getD i default).1≠n->(∀q,rb i=some q->ft b q->rb' i=some q)->
     e.born=i/\e.key= .int .i64 (l.getD i default).1/\iE F {w with heap:=w.heap.setIfInBounds k ob'} (fun q=>ft b q\/ft c q) (rb' i) (Nn E1 (l.getD i default).2) e.val:=fun ob' rb' i e hi' he hne hrb=>by
    obtain⟨e',g1,g2,g3,g4⟩:=m4 i hi'
    rw [he]at g1;cases g1
    refine⟨g2,g3, ?_⟩
    have g5:iE F w (ft b) (rb i) (Nn E1 (l.getD i default).2) e.val:=by
     unfold yQ at g4
     split at g4
     ·exact g4
     ·rename_i n0 c0
      have:=hov n0 c0 rfl
      subst this
      rw [ci hne]at g4;exact g4
    rcases g5 with g5|⟨q,bq,cq,q1,q2,q3,q4⟩
    ·exact .inl g5
    ·exact .inr ⟨q,bq,cq,hrb q q1 q2, .inl q2,q3,q4.keep (hgr ob') ((pt ob').old q fun e'=>m6 i (by rw [q1,e']))⟩
   rcases FT n row l with⟨i,i1,i2,i3,i4,i5⟩|⟨i1,i2⟩
   ·obtain⟨e,e1,e2,e3,_⟩:=m4 i i1
    have hfe:=zG (q:=gq n) (es:=es.toList) (i:=0) (j:=i) (e:=e) (by simpa using e1) (by simp only [gq,e3,i2,decide_true])
     (fun j' e' hj he'=>by
      obtain⟨e'',g1,_,g3,_⟩:=m4 j' (by omega)
      have:es[j']? =some e':=by simpa using he'
      rw [this]at g1;cases g1
      simp only [gq,g3]
      exact b_ (Ne.symm (i3 j' hj)))
    rw [cD]at hfe
    have hsb:Instr.sameBits 10000 (.int .i64 n:Value) (.int .i64 n)=true:=by simp [Instr.sameBits]
    have hke:e.key= .int .i64 n:=by rw [e3,i2]
    have hrun:(execOp a.eval o).run P w= .ok .skip {w with heap:=w.heap.setIfInBounds k (.map (es.modify i fun e=>{e with key:= .int .i64 n,val:=a.eval z}) (es.modify i fun e=>{e with key:= .int .i64 n,val:=a.eval z}).size)}:=by
     rw [hex]
     simp only [Instr.mapUpdate,Sem.run_bind,hu,Result.andThen_ok,hv,hg,hy,hck,hf,hfe,e1,Option.map_some,Option.getD_some,hke,Instr.keyThatStays,hsb,if_true,Sem.run_pure,hset]
     simp
    let rb':Nat->Option Nat:=fun j=>if j=i then nq else(match rb j with|some q=>if ft b q then some q else none|none=>none)
    have hrb0: ∀j q,j≠i->(rb' j=some q↔rb j=some q/\ft b q):=fun j q hne=>by
     show(if j=i then nq else _)=some q↔_
     rw [ci hne]
     cases rb j with
     |none=>simp
     |some q'=>
      simp only [Option.some.injEq]
      split
      ·rename_i hf;constructor
       ·rintro e;cases e;exact⟨rfl,hf⟩
       ·rintro ⟨e,_⟩;rw [e]
      ·rename_i hf;constructor
       ·intro e;cases e
       ·rintro ⟨e,hf'⟩;subst e;exact absurd hf' hf
    have hrbi:rb' i=nq:=cj rfl
    refine tL (hgr _) ((pt _).fr fr hblk.2.2) ⟨_,rH.merge (S:=fun q=>ft b q\/ft c q) fr hi hob.symm hoc.symm hbc (pt _) m0 (fun _ h=>h) ?_⟩ hrun
    refine⟨k,base,cap,es.modify i fun e=>{e with key:= .int .i64 n,val:=a.eval z},rb',hk, .inl m0,by simp [hklt],by simp [m3,i4],fun j hj=> ?_,fun j1 j2 q q1 q2=> ?_,fun j e=> ?_,Bj m7⟩
    ·rw [i4]at hj
     by_cases hji:j=i
     ·subst hji
      refine⟨{e with key:= .int .i64 n,val:=a.eval z},by rw [Array.getElem?_modify,cj rfl,e1];rfl,e2,by rw [i5,cj rfl], ?_⟩
      show iE F _ _ (rb' j) (Nn E1 ((eU n row l).getD j default).2) (a.eval z)
      rw [i5,cj rfl,hrbi]
      exact newV _
     ·obtain⟨e',g1,g2,g3,g4⟩:=m4 j hj
      have hne:(l.getD j default).1≠n:=fun q=>hji (tu m7 hj i1 (q.trans i2.symm))
      obtain⟨r1,r2,r3⟩:=oldV (.map (es.modify i fun e=>{e with key:= .int .i64 n,val:=a.eval z}) (es.modify i fun e=>{e with key:= .int .i64 n,val:=a.eval z}).size) rb' j e' hj g1 hne (fun q q1 q2=>(hrb0 j q hji).2 ⟨q1,q2⟩)
      refine⟨e',by rw [Array.getElem?_modify,ci (Ne.symm hji)];exact g1,r1,by rw [i5,ci hji];exact r2, ?_⟩
      show iE F _ _ (rb' j) (Nn E1 ((eU n row l).getD j default).2) e'.val
      rw [i5,ci hji]
      exact r3
    ·by_cases c1:j1=i<;>by_cases c2:j2=i
     ·rw [c1,c2]
     ·rw [c1,hrbi]at q1
      have:=(hrb0 _ _ c2).1 q2
      exact absurd (hi.dis b c _ _ q hob.symm hoc.symm this.2 (nqc q q1)) hbc
     ·rw [c2,hrbi]at q2
      have:=(hrb0 _ _ c1).1 q1
      exact absurd (hi.dis b c _ _ q hob.symm hoc.symm this.2 (nqc q q2)) hbc
     ·exact m5 _ _ _ ((hrb0 _ _ c1).1 q1).1 ((hrb0 _ _ c2).1 q2).1
    ·by_cases c1:j=i
     ·rw [c1,hrbi]at e;exact hcoth k (nqc k e) rfl
     ·exact m6 _ ((hrb0 _ _ c1).1 e).1
   ·have hfe:nP (gq n) es.toList 0=none:=uI fun e he=>by
     obtain⟨j,hj⟩:=List.getElem?_of_mem he
     have hj':es[j]? =some e:=by simpa using hj
     have hlt:j<l.length:=by rw [<-m3];exact(Array.getElem?_eq_some_iff.1 hj').1
     obtain⟨e',g1,_,g3,_⟩:=m4 j hlt
     rw [hj']at g1;cases g1
     simp only [gq,g3]
     exact b_ (Ne.symm (i1 j hlt))
    have hrun:(execOp a.eval o).run P w= .ok .skip {w with heap:=w.heap.setIfInBounds k (.map (es.push {key:= .int .i64 n,val:=a.eval z,born:=es.size}) (es.push {key:= .int .i64 n,val:=a.eval z,born:=es.size}).size)}:=by
     rw [hex]
     simp only [Instr.mapUpdate,Sem.run_bind,hu,Result.andThen_ok,hv,hg,hy,hck,hf,hfe,hset,Sem.run_pure]
     simp
    let rb':Nat->Option Nat:=fun j=>if j=l.length then nq else(match rb j with|some q=>if ft b q then some q else none|none=>none)
    have hrb0: ∀j q,j≠l.length->(rb' j=some q↔rb j=some q/\ft b q):=fun j q hne=>by
     show(if j=l.length then nq else _)=some q↔_
     rw [ci hne]
     cases rb j with
     |none=>simp
     |some q'=>
      simp only [Option.some.injEq]
      split
      ·rename_i hf;constructor
       ·rintro e;cases e;exact⟨rfl,hf⟩
       ·rintro ⟨e,_⟩;rw [e]
      ·rename_i hf;constructor
       ·intro e;cases e
       ·rintro ⟨e,hf'⟩;subst e;exact absurd hf' hf
    have hrbi:rb' l.length=nq:=cj rfl
    refine tL (hgr _) ((pt _).fr fr hblk.2.2) ⟨_,rH.merge (S:=fun q=>ft b q\/ft c q) fr hi hob.symm hoc.symm hbc (pt _) m0 (fun _ h=>h) ?_⟩ hrun
    have gl:(eU n row l).length=l.length+1:=by rw [i2];simp
    have g0:(eU n row l).getD l.length default=(n,row):=by rw [i2];simp
    have g1': ∀j,j<l.length->(eU n row l).getD j default=l.getD j default:=fun j hj=>by
     rw [i2,cU,cU,cV hj]
    refine⟨k,base,cap,es.push {key:= .int .i64 n,val:=a.eval z,born:=es.size},rb',hk, .inl m0,by simp [hklt],by simp [m3,gl],fun j hj=> ?_,fun j1 j2 q q1 q2=> ?_,fun j e=> ?_,Bj m7⟩
    ·by_cases hji:j=l.length
     ·subst hji
      refine⟨{key:= .int .i64 n,val:=a.eval z,born:=es.size},by rw [<-m3];simp,m3,by rw [g0], ?_⟩
      show iE F _ _ (rb' l.length) (Nn E1 ((eU n row l).getD l.length default).2) (a.eval z)
      rw [g0,hrbi]
      exact newV _
     ·have hj':j<l.length:=by omega
      obtain⟨e',g1,g2,g3,g4⟩:=m4 j hj'
      obtain⟨r1,r2,r3⟩:=oldV (.map (es.push {key:= .int .i64 n,val:=a.eval z,born:=es.size}) (es.push {key:= .int .i64 n,val:=a.eval z,born:=es.size}).size) rb' j e' hj' g1 (i1 j hj') (fun q q1 q2=>(hrb0 j q hji).2 ⟨q1,q2⟩)
      refine⟨e',by rw [Array.getElem?_push,ci (by omega)];exact g1,r1,by rw [g1' j hj'];exact r2, ?_⟩
      show iE F _ _ (rb' j) (Nn E1 ((eU n row l).getD j default).2) e'.val
      rw [g1' j hj']
      exact r3
    ·by_cases c1:j1=l.length<;>by_cases c2:j2=l.length
     ·rw [c1,c2]
     ·rw [c1,hrbi]at q1
      have:=(hrb0 _ _ c2).1 q2
      exact absurd (hi.dis b c _ _ q hob.symm hoc.symm this.2 (nqc q q1)) hbc
     ·rw [c2,hrbi]at q2
      have:=(hrb0 _ _ c1).1 q1
      exact absurd (hi.dis b c _ _ q hob.symm hoc.symm this.2 (nqc q q2)) hbc
     ·exact m5 _ _ _ ((hrb0 _ _ c1).1 q1).1 ((hrb0 _ _ c2).1 q2).1
    ·by_cases c1:j=l.length
     ·rw [c1,hrbi]at e;exact hcoth k (nqc k e) rfl
     ·exact m6 _ ((hrb0 _ _ c1).1 e).1
 ·cases he
theorem HI.Lg {b c n' m m1 esz1:Nat} {n:Int} {K V E E1:TypeId} {nn:Bool} {l:List (Int × List Int)} {el1:Nat->Nat->DV} (fr:Fr B ρ F w) (hi:HI B ρ F w h) (hb:h b=some (some (.gm K V E l (some (n, .own c nn m))))) (hc:h c=some (some (.arr E1 esz1 m1 el1))) (hE:E1=E) (hs:esz1=1)
  (hm:m=m1) (hl:m1=(aC n l).length) (hq:aF m1 1 el1 (sO (aC n l))):HI B ρ F w (upd h [(b,some (.gm K V E l none)),(c,none)]):=by
 classical
 subst hE;subst hs;subst hm;subst hl
 obtain⟨ft,hi⟩:=hi
 have hbc:b≠c:=fun e=>by rw [e,hc]at hb;cases hb
 have hu: ∀x,upd h [(b,some (.gm K V E1 l none)),(c,none)] x=if b=x then some (some (.gm K V E1 l none))else if c=x then some none else h x:=by
  intro x;exact Aa _ _ _ _ _
 have hfold:jB ρ F w (fun q=>ft b q\/ft c q) b (.gm K V E1 l none):=by
  obtain⟨k,base,cap,es,rb,m1,m0,m2,m3,m4,m5,m6,m7⟩:=hi.obj b _ hb
  have hk: ∀q,ft c q->q≠k:=fun q hq e=>hbc (hi.dis b c _ _ k hb hc m0 (e ▸ hq))
  have rw2: ∀{q bq cq:Nat},tY F w q bq cq E1 1 (aC n l).length el1->tY F w q bq cq E1 1 (aC n l).length (sO (aC n l)):=fun⟨vs,h1,h2,h3,h4,h5⟩=> ⟨vs,h1,h2,h3,h4,fun i hi j hj=>by rw [<-hq i hi j hj];exact h5 i hi j hj⟩
  obtain⟨nq,hnq⟩: ∃nq:Option Nat,(∀u,eP ρ F w (.own c nn (aC n l).length) u->iE F w (fun q=>ft b q\/ft c q) nq (Nn E1 (aC n l)) u)/\ ∀q,nq=some q->ft c q:=by
   rcases hi.obj c _ hc with⟨g0,g1⟩|⟨q,bq,cq,g0,g1,g2⟩
   ·refine⟨none,fun u hu=> ?_,fun q e=>by cases e⟩
    rcases hu with⟨q,bq,cq,e1,_⟩|⟨_,_,e3,e4⟩
    ·rw [g0]at e1;cases e1
    ·exact .inl ⟨g1,e4⟩
   ·refine⟨some q,fun u hu=> ?_,fun q' e=>by cases e;exact g1⟩
    rcases hu with⟨q',bq',cq',e1,e2⟩|⟨_,e1,e3,e4⟩
    ·rw [g0]at e1;cases e1;exact .inr ⟨q,bq,cq,rfl, .inr g1,e2,rw2 g2⟩
    ·rw [g0]at e1;cases e1
  let rb':Nat->Option Nat:=fun j=>if(l.getD j default).1=n/\j<l.length then nq else(match rb j with|some q=>if ft b q then some q else none|none=>none)
  have hrb0: ∀j q, ¬ ((l.getD j default).1=n/\j<l.length)->(rb' j=some q↔rb j=some q/\ft b q):=fun j q hne=>by
   show(if _ then nq else _)=some q↔_
   rw [ci hne]
   cases rb j with
   |none=>simp
   |some q'=>
    simp only [Option.some.injEq]
    split
    ·rename_i hf;constructor
     ·rintro e;cases e;exact⟨rfl,hf⟩
     ·rintro ⟨e,_⟩;rw [e]
    ·rename_i hf;constructor
     ·intro e;cases e
     ·rintro ⟨e,hf'⟩;subst e;exact absurd hf' hf
  have hrb1: ∀j,((l.getD j default).1=n/\j<l.length)->rb' j=nq:=fun j hj=>cj hj
  refine⟨k,base,cap,es,rb',m1, .inl m0,m2,m3,fun i hi'=> ?_,fun i1 i2 q q1 q2=> ?_,fun i e=> ?_,m7⟩
  ·obtain⟨e,e1,e2,e3,e4⟩:=m4 i hi'
   refine⟨e,e1,e2,e3, ?_⟩
   show iE F w _ _ (Nn E1 (l.getD i default).2) e.val
   unfold yQ at e4
   simp only at e4
   by_cases hk':(l.getD i default).1=n
   ·rw [cj hk']at e4
    rw [hrb1 i ⟨hk',hi'⟩]
    have:=hnq.1 _ e4
    rcases BZ n l with⟨i0,a1,a2,a3,a4⟩|⟨a1,_⟩
    ·have:=tu m7 hi' a1 (hk'.trans a2.symm)
     subst this
     rw [<-a4];assumption
    ·exact absurd hk' (a1 i hi')
   ·rw [ci hk']at e4
    rcases e4 with e4|⟨q,bq,cq,q1,q2,q3,q4⟩
    ·exact .inl e4
    ·exact .inr ⟨q,bq,cq,(hrb0 i q (fun e=>hk' e.1)).2 ⟨q1,q2⟩, .inl q2,q3,q4⟩
  ·by_cases c1:(l.getD i1 default).1=n/\i1<l.length<;>by_cases c2:(l.getD i2 default).1=n/\i2<l.length
   ·exact tu m7 c1.2 c2.2 (c1.1.trans c2.1.symm)
   ·rw [hrb1 _ c1]at q1
    exact absurd (hi.dis b c _ _ q hb hc ((hrb0 _ _ c2).1 q2).2 (hnq.2 q q1)) hbc
   ·rw [hrb1 _ c2]at q2
    exact absurd (hi.dis b c _ _ q hb hc ((hrb0 _ _ c1).1 q1).2 (hnq.2 q q2)) hbc
   ·exact m5 _ _ _ ((hrb0 _ _ c1).1 q1).1 ((hrb0 _ _ c2).1 q2).1
  ·by_cases c1:(l.getD i default).1=n/\i<l.length
   ·rw [hrb1 _ c1]at e;exact hk k (hnq.2 k e) rfl
   ·exact m6 _ ((hrb0 _ _ c1).1 e).1
 refine⟨vU ft b fun q=>ft b q\/ft c q, ?_⟩
 refine hi.step (.refl _ _ _) fr (cz _) (fun x=>x=b\/x=c) (fun x ob' e hh=> ?_) (fun x ob' e hh=> ?_) (fun x ob' k e hh hf=> ?_) (fun b1 b2 o1 o2 k e1 e2 h1 h2 _ _=> ?_) (fun k hk=> .inl hk) fun x hh=> ?_
 ·rw [hu,ci (fun e'=>e (.inl e'.symm)),ci (fun e'=>e (.inr e'.symm))]at hh
  exact⟨hh,fun _ _=>rfl,fun k=>by rw [eY (fun e'=>e (.inl e'))]⟩
 ·rcases e with rfl|rfl
  ·rw [hu,cj rfl]at hh;cases hh;rw [bB];exact hfold
  ·rw [hu,ci hbc,cj rfl]at hh;cases hh
 ·rcases e with rfl|rfl
  ·rw [bB]at hf
   rcases hf with hf|hf
   ·exact .inl ⟨x,_, .inl rfl,hb,hf⟩
   ·exact .inl ⟨c,_, .inr rfl,hc,hf⟩
  ·rw [hu,ci hbc,cj rfl]at hh;cases hh
 ·have key: ∀x ob',(x=b\/x=c)->upd h [(b,some (.gm K V E1 l none)),(c,none)] x=some (some ob')->x=b:=fun x ob' e hh=>by
   rcases e with e|e
   ·exact e
   ·subst e;rw [hu,ci hbc,cj rfl]at hh;cases hh
  rw [key b1 o1 e1 h1,key b2 o2 e2 h2]
 ·rw [hu]at hh
  split at hh
  ·cases hh
  ·split at hh
   ·cases hh
   ·exact hi.fresh x hh
theorem A8 {Fc:Cl->List SV->List (Nat × Option Ob)->TV->List (Nat × Option Ob)->Prop} {ids:List Nat} {res:TV} {f:Cl} {xs:List TV} {obs:List (Option (Option Ob))} {E:Eff} (he:sW Fc (.callR ids res) f xs obs=some E):E.hd=[]/\ ∃g,f= .fn g:=by
 unfold sW at he
 simp only at he
 split at he
 ·cases he
 ·rename_i g
  split at he
  ·rename_i args hin hargs hzip
   cases hb:(fD (args.flatMap SV.bU) ids && fD (iV (obs.take ids.length)) ids)with
   |false=>simp [hb]at he
   |true=>simp only [hb,bt]at he;cases he;exact⟨rfl,g,rfl⟩
  ·cases he
theorem FB {f:Nat} {Fc:Cl->List SV->List (Nat × Option Ob)->TV->List (Nat × Option Ob)->Prop} (hFc:Fc (.fn f)=Fn P f) {xs:List TV} {an:pI} {obs:List (Option (Option Ob))} {E:Eff} {vs:List Value} (he:wQ Fc an (.fn f) xs obs=some E) (hc:All E.conds)
  (hobs: ∀ids res hout,an= .call ids res hout->obs=(ids++hout.map (·.1)).map h) (hobs2: ∀ids res,an= .callR ids res->obs=ids.map h) (hobs3: ∀ids res b c,an= .callG ids res b c->obs=(ids++[b]).map h) (hrun:(execOp a.eval o).run P w=(callFunc f vs.toArray).run P w)
  (fr:Fr B ρ F w) (hi:HI B ρ F w h) (hx:iH ρ F w xs vs):Good P B ρ F w h o a E.tv E.hd:=by
 unfold wQ at he
 split at he
 ·rename_i ids res b c
  have ho:=hobs3 ids res b c rfl
  split at he
  ·rename_i E0 K V Et l n c' nn m hin e0 e1 e2
   split at he
   ·rename_i E1 esz1 m1 el1 e3
    cases hb:(Nat.beq c c' && Nat.beq E1 Et && Nat.beq esz1 1 && !(Nat.beq b c))with
    |false=>simp [hb]at he
    |true=>
     simp only [hb,bt]at he
     cases he
     obtain⟨hm,hl,hq,hc0⟩:=hc
     simp only [ce,dd]at hb
     have b1:=bv hb.1.1.1
     have b2:=bv hb.1.1.2
     have b3:=bv hb.1.2
     subst b1
     have hlen:(ids.map h).length=ids.length:=by simp
     have htk:obs.take ids.length=ids.map h:=by rw [ho,List.map_append,List.take_append_of_le_length (by rw [hlen];exact cz _),List.take_of_length_le (by rw [hlen];exact cz _)]
     have hdr:obs.drop ids.length=[h b]:=by rw [ho,List.map_append,List.drop_append_of_le_length (by rw [hlen];exact cz _),List.drop_of_length_le (by rw [hlen];exact cz _)];rfl
     rw [htk]at e0 e2
     rw [hdr]at e1
     have hob:h b=some (some (.gm K V Et l (some (n, .own c nn m)))):=by simpa using e1
     have hoc:h c=some (some (.arr E1 esz1 m1 el1)):=by
      obtain⟨_,z2,_,_⟩:=xw e2
      obtain⟨j,ob,y1,y2,y3⟩:=z2 c _ e3
      rw [du,y1]at y2
      simp only [Option.map_some,Option.some.injEq]at y2
      cases y3;exact y2
     obtain⟨hhd,_⟩:=A8 e0
     have hg:=Js hFc e0 hc0 (obs:=ids.map h) (fun _ _ _ e=>by cases e) (fun ids' res' e=>by cases e;rfl) hrun fr hi hx
     rw [hhd]at hg
     intro r K Q hK
     refine hg r K Q fun v ρ' F' w' g f' hi' hr'=>hK v ρ' F' w' g f' ?_ hr'
     rw [Wi]at hi'
     exact HI.Lg (n':=0) f' hi' hob hoc b2 b3 hm hl hq
   ·cases he
  ·cases he
 ·exact Js hFc he hc hobs hobs2 hrun fr hi hx
end
section
variable {P:Program} {B:Base} {ρ ρ':Nat->Option Pl} {F F':Nat->Prop} {w w':World} {h:Hp} {o:Oper} {a:Act} {T:List (Nat × TI)}
theorem iH.length: ∀{xs:List TV} {vs:List Value},iH ρ F w xs vs->vs.length=xs.length
 |[],[],_=>rfl
 |_::_,_::_,⟨_,t⟩=>by simp [iH.length t]
 |[],_::_,h=>h.elim
 |_::_,[],h=>h.elim
theorem iH.append: ∀{xs ys:List TV} {vs us:List Value},iH ρ F w xs vs->iH ρ F w ys us->iH ρ F w (xs++ys) (vs++us)
 |[],_,[],_,_,h'=>h'
 |_::_,_,_::_,_,⟨h,t⟩,h'=> ⟨h,iH.append t h'⟩
 |[],_,_::_,_,h,_=>h.elim
 |_::_,_,[],_,h,_=>h.elim
theorem Cw: ∀{cs:List CV} {vs:List Value},bP ρ F w cs vs->iH ρ F w (cs.map fun c=> .v (.one c)) vs
 |[],[],_=>trivial
 |_::_,_::_,⟨h,t⟩=> ⟨h,Cw t⟩
 |[],_::_,h=>h
 |_::_,[],h=>h
theorem Gu {α β:Type} {args:Array α} {f:α->β} {v:β} (h:(args.toList.map f)=[v]): ∃x,args= #[x]/\f x=v:=by
 match args with
 |⟨[x]⟩=>simp at h;exact⟨x,rfl,h⟩
 |⟨[]⟩=>simp at h
 |⟨_::_::_⟩=>simp at h
theorem zD {α β:Type} {args:Array α} {f:α->β} {v u:β} (h:(args.toList.map f)=[v,u]): ∃x y,args= #[x,y]/\f x=v/\f y=u:=by
 match args with
 |⟨[x,y]⟩=>simp at h;exact⟨x,y,rfl,h⟩
 |⟨[]⟩=>simp at h
 |⟨[_]⟩=>simp at h
 |⟨_::_::_::_⟩=>simp at h
theorem Kc {α:Type} {ts:Array α} {t:α} (h:ts.toList=[t]):ts= #[t]:=by cases ts;simp at h;simp [h]
theorem KC {α:Type} {ts:Array α} {t u:α} (h:ts.toList=[t,u]):ts= #[t,u]:=by cases ts;simp at h;simp [h]
theorem M9 (hT:pW P T) {t:TypeId} {x:DV} (hb:KJ T t x=true): ∀b,x= .bool b->P.underlying t=some .bool:=by
 intro b e
 subst e
 simp only [KJ]at hb
 split at hb
 ·rename_i ti hti
  split at hb
  ·rename_i hd;have:=(hT.get hti).1;rw [hd]at this;exact this
  ·cases hb
 ·cases hb
theorem SN: ∀{ds:List DV} {vs:List Value},bP ρ F w (ds.map .d) vs->vs.length=ds.length/\ ∀j u,vs[j]? =some u->bS F w (yD ds j) u:=by
 intro ds vs hr
 have hl:=hr.length
 simp at hl
 refine⟨hl,fun j u hj=> ?_⟩
 have hlt:j<ds.length:=by
  rw [<-hl]
  rcases Nat.lt_or_ge j vs.length with h|h
  ·exact h
  ·rw [List.getElem?_eq_none h]at hj;cases hj
 have hg:(ds.map CV.d)[j]? =some (.d (yD ds j)):=by
  rw [du,yD,cU,cT hlt];rfl
 obtain⟨u',hu,hr'⟩:=hr.get hg
 rw [hj]at hu;cases hu;exact hr'
theorem Co: ∀{xs:List TV} {l:List SV} {vs:List Value},mZ xs=some l->(l.all PN)=true->iH ρ F w xs vs->bP ρ F w (l.flatMap cellsOf) vs
 |[],l,vs,hs,_,hx=>by simp [mZ]at hs;subst hs;match vs,hx with|[],_=>trivial
 | .v s::xs,l,vs,hs,ha,hx=>by
  simp only [mZ]at hs
  split at hs
  ·rename_i l' hl
   cases hs
   simp only [List.all_cons,ce]at ha
   match vs,hx with
   |v::vs,⟨h1,h2⟩=>
    cases s with
    |agg _=>simp [PN]at ha
    |one c=>exact⟨h1,Co hl ha.2 h2⟩
  ·cases hs
 | .fF _::_,_,_,hs,_,_=>by simp [mZ]at hs
theorem qb (c:Nat->CV): ∀i n,(fM c i n).length=n
 |_,0=>rfl
 |i,n+1=>by simp [fM,qb c (i+1) n]
theorem wZ (c:Nat->CV): ∀i n j x,(fM c i n)[j]? =some x->j<n/\x=c (i+j)
 |_,0,j,x,h=>by simp [fM]at h
 |i,n+1,j,x,h=>by
  cases j with
  |zero=>simp [fM]at h;exact⟨by omega,h.symm⟩
  |succ j=>
   simp [fM]at h
   obtain⟨h1,h2⟩:=wZ c (i+1) n j x h
   exact⟨by omega,by rw [h2];congr 1;omega⟩
theorem Qr (hT:pW P T) {fresh:Nat} {an:pI} {xs:List TV} {obs:List (Option (Option Ob))} {E:Eff} (he:eff (BO P) T fresh an o.op xs obs=some E) (hc:All E.conds)
  (hobs:obs=(foot an fresh o.op xs).map h) (fr:Fr B ρ F w) (hi:HI B ρ F w h) (hx:iH ρ F w xs (o.op.operands.toList.map a.eval)):Good P B ρ F w h o a E.tv E.hd:=by
 unfold eff at he
 split at he
 ·-- move
  rename_i x hop
  rw [hop]at hx
  split at he
  ·cases he
   obtain⟨v,hv,hr⟩:=hx.one
   simp [Op.operands]at hv
   exact aJ fr hi (by simp [execOp,hop,hv]) hr
  ·cases he
 ·rename_i x hop
  rw [hop]at hx
  split at he
  ·cases he
   obtain⟨v,hv,hr⟩:=hx.one
   simp [Op.operands]at hv
   exact aJ fr hi (by simp [execOp,hop,hv]) hr
  ·cases he
 ·-- alloc
  rename_i t hop
  split at he
  ·rename_i ti hti
   split at he
   ·rename_i z hz
    split at he
    ·rename_i len el
     cases hb:(Nat.ble ti.size 1000 && Nat.beq ti.zero.length ti.size)with
     |false=>simp [hb]at he
     |true=>
      simp only [hb,bt]at he
      simp only [ce]at hb
      cases he
      simp [hop,foot]at hobs
      obtain⟨c1,c2,_⟩:=hc
      exact Fs (hT.get hti) hz hop hobs.symm c1 (cm hb.1) (bv hb.2) c2 fr hi
    ·cases he
     simp [hop,foot]at hobs
     exact Mc (hT.get hti) hz hop hobs.symm fr hi
   ·cases he
  ·cases he
 ·-- box
  rename_i t x hop
  rw [hop]at hx
  split at he
  ·rename_i s
   cases he
   obtain⟨v,hv,hr⟩:=hx.one
   simp [Op.operands]at hv
   subst hv
   simp [hop,foot]at hobs
   exact QR hop hobs.symm fr hi hr
  ·cases he
 ·-- build
  rename_i t bh hop
  rw [hop]at hx
  split at he
  ·rename_i ti hti
   refine LZ hT (hT.get hti) hop he fr hi ?_
   simpa [Op.operands,Function.comp_def]using hx
  ·cases he
 ·rename_i t len bh hop
  rw [hop]at hx
  split at he
  ·rename_i ti hti
   refine El hT (hT.get hti) hop he hc ?_ fr hi ?_
   ·rw [hobs,hop];rfl
   ·simpa [Op.operands,Function.comp_def]using hx
  ·cases he
 ·-- load
  rename_i t x hop
  rw [hop]at hx
  split at he
  ·rename_i ti xa hti
   obtain⟨v,hv,hr⟩:=hx.one
   simp [Op.operands]at hv
   subst hv
   have ho:(∀c,an≠ .take c)->obs=(foot .none 0 (.load t x) [xa]).map h:=by
    intro hnt
    rw [hobs,hop]
    cases xa with
    |fF l=>rfl
    |v s=>cases s with
     |agg _=>rfl
     |one c=>
      cases c<;>try rfl
      cases an<;>first|rfl|exact absurd rfl (hnt _)
   split at he
   ·exact M6 (hT.get hti) hop he hc (ho (fun _ e=>by cases e)) fr hi hr
   ·refine NK (hT.get hti) hop he hc ?_ fr hi hr
    rw [hobs,hop]
    cases xa with
    |fF l=>rfl
    |v s=>cases s with
     |agg _=>rfl
     |one c=>cases c<;>rfl
   ·rename_i hnt
    exact Oo (hT.get hti) hop he hc (ho (fun c e=>hnt c e)) fr hi hr
  ·cases he
 ·-- store
  rename_i t x y hop
  rw [hop]at hx
  split at he
  ·rename_i ti xa xv hti
   obtain⟨v,u,hv,hr1,hr2⟩:=hx.two
   simp [Op.operands]at hv
   obtain⟨rfl,rfl⟩:=hv
   have ho:(∀n e,an≠ .rows n e)->obs=(foot .none 0 (.store t x y) [xa,xv]).map h:=by
    intro hnt
    rw [hobs,hop]
    cases xa with
    |fF l=>rfl
    |v s=>cases s with
     |agg _=>rfl
     |one c=>
      cases c<;>try rfl
      cases an<;>first|rfl|exact absurd rfl (hnt _ _)
   split at he
   ·exact JU (an:= .none) (hT.get hti) hop he hc (ho (fun _ _ e=>by cases e)) fr hi hr1 hr2
   ·rename_i n el
    refine Sq (len':=n) (hT.get hti) hop he hc ?_ fr hi hr1 hr2
    rw [hobs,hop]
    cases xa with
    |fF l=>rfl
    |v s=>cases s with
     |agg _=>rfl
     |one c=>cases c<;>rfl
   ·rename_i hnt
    exact Ev (hT.get hti) hop he hc (ho (fun n e h=>hnt n e h)) fr hi hr1 hr2
  ·cases he
 ·-- makeMap
  rename_i t hop
  split at he
  ·rename_i ti hti
   refine Ik hT hop he ?_ fr hi
   rw [hobs,hop];rfl
  ·cases he
 ·-- lookup
  rename_i t x y ok hop
  rw [hop]at hx
  split at he
  ·rename_i ti xa ya hti
   obtain⟨v,u,hv,hr1,hr2⟩:=hx.two
   simp [Op.operands]at hv
   obtain⟨rfl,rfl⟩:=hv
   split at he
   ·refine M8 hT (hT.get hti) hop he hc ?_ fr hi hr1 hr2
    rw [hobs,hop]
    cases xa with
    |fF l=>rfl
    |v s=>cases s with
     |agg _=>rfl
     |one c=>cases c<;>rfl
   ·rename_i hnt
    refine KI (an:=an) hT (hT.get hti) hop he hc ?_ fr hi hr1 hr2
    rw [hobs,hop]
    cases xa with
    |fF l=>rfl
    |v s=>cases s with
     |agg _=>rfl
     |one c=>cases c<;>rfl
  ·cases he
 ·-- mapUpdate
  rename_i t x y z hop
  rw [hop]at hx
  split at he
  ·rename_i ti xa ya za hti
   have hx3:iH ρ F w [xa,ya,za] [a.eval x,a.eval y,a.eval z]:=by simpa [Op.operands]using hx
   obtain⟨hr1,hr2,hr3,_⟩:=hx3
   split at he
   ·refine OM hT (hT.get hti) (by simp [execOp,hop]) he hc ?_ fr hi hr1 hr2 hr3
    rw [hobs,hop]
    cases xa with
    |fF l=>rfl
    |v s=>cases s with
     |agg _=>rfl
     |one c=>cases c<;>rfl
   ·rename_i hnt
    refine yj hT (hT.get hti) (by simp [execOp,hop]) he hc ?_ fr hi hr1 hr2 hr3
    rw [hobs,hop]
    cases xa with
    |fF l=>rfl
    |v s=>cases s with
     |agg _=>rfl
     |one c=>cases c<;>(cases an<;>first|rfl|exact absurd rfl (hnt _))
  ·cases he
 ·-- insert
  rename_i t x y z hop
  rw [hop]at hx
  split at he
  ·rename_i ti xa ya za hti
   have hx3:iH ρ F w [xa,ya,za] [a.eval x,a.eval y,a.eval z]:=by simpa [Op.operands]using hx
   obtain⟨hr1,hr2,hr3,_⟩:=hx3
   refine yj hT (hT.get hti) (by simp [execOp,hop]) he hc ?_ fr hi hr1 hr2 hr3
   rw [hobs,hop]
   cases xa with
   |fF l=>rfl
   |v s=>cases s with
    |agg _=>rfl
    |one c=>cases c<;>rfl
  ·cases he
 ·-- slice
  rename_i t x lo hi' hop
  rw [hop]at hx
  split at he
  ·rename_i ti xa rr hti
   have hx3:iH ρ F w (xa::rr) (a.eval x::(lo.toArray.toList.map a.eval++(hi'.toArray.toList.map a.eval++[]))):=by simpa [Op.operands]using hx
   obtain⟨hr1,hr2⟩:=hx3
   split at he
   ·rename_i l r1 hl
    obtain⟨g1,g2⟩:=JB hl hr2
    split at he
    ·rename_i hh hhi
     obtain⟨_,g4⟩:=JB hhi g1
     refine MO hT (hT.get hti) hop he hc ⟨rr, ?_⟩ fr hi hr1 g2 g4
     rw [hobs,hop]
    ·cases he
   ·cases he
  ·cases he
 ·-- index
  rename_i t x y hop
  rw [hop]at hx
  split at he
  ·rename_i ti xa xv hti
   obtain⟨v,u,hv,hr1,hr2⟩:=hx.two
   simp [Op.operands]at hv
   obtain⟨rfl,rfl⟩:=hv
   split at he
   ·exact Ka hT (hT.get hti) hop he hc fr hi hr1 hr2
   ·cases he
  ·cases he
 ·-- nilCheck
  rename_i x hop
  rw [hop]at hx
  split at he
  ·cases dH he
   obtain⟨v,hv,hr⟩:=hx.one
   simp [Op.operands]at hv;subst hv
   obtain⟨ad,hv,_⟩:=id hr
   exact kE hop (.inl ⟨ad,hv⟩) fr hi hr
  ·cases he
   obtain⟨v,hv,hr⟩:=hx.one
   simp [Op.operands]at hv;subst hv
   obtain⟨k,base,cap,_,hv⟩:=id hr
   exact kE hop (.inl ⟨_,hv⟩) fr hi hr
  ·cases he
   obtain⟨v,hv,hr⟩:=hx.one
   simp [Op.operands]at hv;subst hv
   obtain⟨k,base,cap,_,hv⟩:=id hr
   exact kE hop (.inl ⟨_,hv⟩) fr hi hr
  ·cases dH he
   obtain⟨v,hv,hr⟩:=hx.one
   simp [Op.operands]at hv;subst hv
   obtain⟨vs,hv,_⟩:=id hr
   exact kE hop (.inr ⟨.func _,_,_,hv,fun _ e=>by cases e⟩) fr hi hr
  ·cases he
   obtain⟨v,hv,hr⟩:=hx.one
   simp [Op.operands]at hv;subst hv
   obtain⟨vs,hv,_⟩:=id hr
   exact kE hop (.inr ⟨.func _,_,_,hv,fun _ e=>by cases e⟩) fr hi hr
  ·cases he
   obtain⟨v,hv,hr⟩:=hx.one
   simp [Op.operands]at hv;subst hv
   obtain⟨k,base,cap,_,hv⟩:=id hr
   exact kE hop (.inr ⟨.yield _,_,_,hv,fun _ e=>by cases e⟩) fr hi hr
  ·cases he
 ·-- binOp
  rename_i op t x y t' hop
  rw [hop]at hx
  split at he
  ·rename_i dx dy
   obtain⟨v,u,hv,hr1,hr2⟩:=hx.two
   simp [Op.operands]at hv
   obtain⟨rfl,rfl⟩:=hv
   split at he
   ·split at he
    ·rename_i ti hti
     exact R8 (hT.get hti) hop he fr hi hr1 hr2
    ·cases he
   ·cases hb:KJ T t dx with
    |false=>simp [hb]at he
    |true=>
     simp only [hb,bt]at he
     exact Qq (fun b1 b2 e1 _=>M9 hT hb b1 e1) hop he hc fr hi hr1 hr2
  ·rename_i xs ys
   obtain⟨v,u,hv,hr1,hr2⟩:=hx.two
   simp [Op.operands]at hv
   obtain⟨rfl,rfl⟩:=hv
   split at he
   ·rename_i ti hti
    cases hb:(ti.agg && ti.eq)with
    |false=>simp [hb]at he
    |true=>
     simp only [hb,bt]at he
     simp only [ce]at hb
     exact MN hT hti hop he fr hi hr1 hr2 hb.1 (hT.Zf hti hb.2).2
   ·cases he
  ·cases he
 ·rename_i op t x hop
  rw [hop]at hx
  split at he
  ·rename_i dx
   obtain⟨v,hv,hr⟩:=hx.one
   simp [Op.operands]at hv;subst hv
   exact Ul hop he fr hi hr
  ·cases he
 ·-- makeFunc
  rename_i f first captured hop
  rw [hop]at hx
  split at he
  ·rename_i l hl
   cases hall:(l.all PN)with
   |false=>rw [hall]at he;simp at he
   |true=>
    rw [hall]at he
    simp only [bt]at he
    have hcap:(Op.makeFunc (.func f) first captured).operands.toList.map a.eval=first.toList.map a.eval++captured.toList.map a.eval:=by simp [Op.operands]
    rw [hcap]at hx
    have hcells:=Co hl hall hx
    have hrun:(execOp a.eval o).run P w= .ok (.value (.func (.func f) (first.map a.eval) (captured.map a.eval))) w:=by simp [execOp,hop,Instr.makeFunc]
    split at he
    ·rename_i ds hfs hds
     cases dH he
     have hf0:first= #[]:=by simpa using hfs
     subst hf0
     rw [jC hds]at hcells
     obtain⟨c1,c2⟩:=SN hcells
     refine aJ fr hi hrun ⟨captured.toList.map a.eval, ?_,by simpa using c1,by simpa using c2⟩
     rw [show captured.map a.eval=(captured.toList.map a.eval).toArray from Array.ext' (by simp)];simp
    ·cases he
     have hlen:=hcells.length
     refine aJ fr hi hrun ⟨first.toList.map a.eval++captured.toList.map a.eval, ?_,hlen,fun j u hj=> ?_⟩
     ·have e1:(first.toList.map a.eval++captured.toList.map a.eval).take first.size=first.toList.map a.eval:=by
       rw [List.take_append_of_le_length (by simp)];exact List.take_of_length_le (by simp)
      have e2:(first.toList.map a.eval++captured.toList.map a.eval).drop first.size=captured.toList.map a.eval:=by
       rw [List.drop_append_of_le_length (by simp)];simp
      rw [e1,e2]
      congr 1
      ·exact Array.ext' (by simp)
      ·exact Array.ext' (by simp)
     ·have hlt:j<(l.flatMap cellsOf).length:=by rw [<-hlen];exact(List.getElem?_eq_some_iff.1 hj).1
      have hg:(l.flatMap cellsOf)[j]? =some ((l.flatMap cellsOf).getD j (.d .nilp)):=by rw [cU,cT hlt];rfl
      obtain⟨u',hu,hr⟩:=hcells.get hg
      rw [hj]at hu;cases hu;exact hr
  ·cases he
 ·rename_i t x y hop
  rw [hop]at hx
  split at he
  ·rename_i ti xl xc hti
   obtain⟨v,u,hv,hr1,hr2⟩:=hx.two
   simp [Op.operands]at hv
   obtain⟨rfl,rfl⟩:=hv
   refine Ny hT (hT.get hti) hop he hc ?_ fr hi hr1 hr2
   rw [hobs,hop];rfl
  ·cases he
 ·rename_i t x f hop
  rw [hop]at hx
  split at he
  ·rename_i ti xa hti
   obtain⟨v,hv,hr⟩:=hx.one
   simp [Op.operands]at hv;subst hv
   exact KV hT (hT.get hti) hop he fr hi hr
  ·cases he
 ·rename_i t x f hop
  rw [hop]at hx
  split at he
  ·rename_i ti xa hti
   obtain⟨v,hv,hr⟩:=hx.one
   simp [Op.operands]at hv;subst hv
   exact OA hT (hT.get hti) hop he fr hi hr
  ·cases he
 ·rename_i t x y hop
  rw [hop]at hx
  split at he
  ·rename_i ti xa xi hti
   obtain⟨v,u,hv,hr1,hr2⟩:=hx.two
   simp [Op.operands]at hv
   obtain⟨rfl,rfl⟩:=hv
   exact LM hT (hT.get hti) hop he hc fr hi hr1 hr2
  ·cases he
 ·rename_i x ix hop
  rw [hop]at hx
  split at he
  ·rename_i l
   split at he
   ·rename_i s hs
    cases he
    obtain⟨v,hv,hr⟩:=hx.one
    simp [Op.operands]at hv;subst hv
    exact Ih hop hs fr hi hr
   ·cases he
  ·cases he
 ·-- call
  rename_i c hop
  rw [hop]at hx
  obtain⟨callee,args,ats⟩:=c
  split at he
  ·rename_i b hcal
   cases hcal
   have hops:(Op.call {callee:=Callee.builtin b,args:=args,argTypes:=ats}).operands.toList.map a.eval=args.toList.map a.eval:=by simp [Op.operands,Call.operands]
   rw [hops]at hx
   unfold Gg at he
   split at he
   ·rename_i t x hts
    split at he
    ·rename_i ti hti
     obtain⟨v,hv,hr⟩:=hx.one
     obtain⟨x',rfl,rfl⟩:=Gu hv
     have:=Kc hts;subst this
     exact R6 (hT.get hti) hop he fr hi hr
    ·cases he
   ·rename_i t t' s x hts
    split at he
    ·rename_i ti ti' hti hti'
     split at he
     ·rename_i e e' hd hd'
      split at he
      ·rename_i te hte
       cases hb:Nat.beq t t' with
       |false=>simp [hb]at he
       |true=>
        simp only [hb,bt]at he
        have:=bv hb;subst this
        obtain⟨v,u,hv,hr1,hr2⟩:=hx.two
        obtain⟨x',y',rfl,rfl,rfl⟩:=zD hv
        have:=KC hts;subst this
        have hu:=(hT.get hti).1
        rw [hd]at hu
        refine JX hu (hT.get hte) hop he hc ?_ fr hi hr1 hr2
        rw [hobs,hop]
        cases s with
        |fF l=>rfl
        |v s=>cases s with
         |agg _=>rfl
         |one c=>cases x with
          |fF l=>cases c<;>rfl
          |v s2=>cases s2 with
           |agg _=>cases c<;>rfl
           |one c2=>cases c<;>cases c2<;>rfl
      ·cases he
     ·rename_i e kn hd hd'
      split at he
      ·rename_i te hte
       obtain⟨v,u,hv,hr1,hr2⟩:=hx.two
       obtain⟨x',y',rfl,rfl,rfl⟩:=zD hv
       have:=KC hts;subst this
       have hu:=(hT.get hti).1
       rw [hd]at hu
       have hu':=(hT.get hti').1
       rw [hd']at hu'
       refine Ol hu hu' (hT.get hte) hop he hc ?_ fr hi hr1 hr2
       rw [hobs,hop]
       cases s with
       |fF l=>rfl
       |v s=>cases s with
        |agg _=>rfl
        |one c=>cases x with
         |fF l=>cases c<;>rfl
         |v s2=>cases s2 with
          |agg _=>cases c<;>rfl
          |one c2=>cases c<;>cases c2<;>rfl
      ·cases he
     ·cases he
    ·cases he
   ·rename_i t t' s x hts
    split at he
    ·rename_i ti ti' hti hti'
     split at he
     ·rename_i e hd
      split at he
      ·rename_i te hte
       obtain⟨v,u,hv,hr1,hr2⟩:=hx.two
       obtain⟨x',y',rfl,rfl,rfl⟩:=zD hv
       have:=KC hts;subst this
       have hu:=(hT.get hti).1
       rw [hd]at hu
       refine NJ hu (hT.get hte) hop he hc ?_ fr hi hr1 hr2
       rw [hobs,hop]
       cases s with
       |fF l=>rfl
       |v s=>cases s with
        |agg _=>rfl
        |one c=>cases x with
         |fF l=>cases c<;>rfl
         |v s2=>cases s2 with
          |agg _=>cases c<;>rfl
          |one c2=>cases c<;>cases c2<;>rfl
      ·cases he
     ·cases he
    ·cases he
   ·rename_i t x hts
    split at he
    ·rename_i ti hti
     split at he
     ·rename_i e hd
      split at he
      ·rename_i te hte
       obtain⟨v,hv,hr⟩:=hx.one
       obtain⟨x',rfl,rfl⟩:=Gu hv
       have:=Kc hts;subst this
       have hu:=(hT.get hti).1
       rw [hd]at hu
       refine KR hu (hT.get hte) hop he hc ?_ fr hi hr
       rw [hobs,hop]
       cases x with
       |fF l=>rfl
       |v s=>cases s with
        |agg _=>rfl
        |one c=>cases c<;>rfl
      ·cases he
     ·cases he
    ·cases he
   ·rename_i t esz len el hts
    split at he
    ·rename_i ti hti
     split at he
     ·rename_i e hd
      cases dH he
      obtain⟨v,hv,hr⟩:=hx.one
      obtain⟨x',rfl,rfl⟩:=Gu hv
      have:=Kc hts;subst this
      exact RG (hT.get hti) hd hop fr hi hr
     ·cases he
    ·cases he
   ·rename_i k p k' q _
    split at he
    ·cases dH he
     obtain⟨v,u,hv,hr1,hr2⟩:=hx.two
     obtain⟨x',y',rfl,rfl,rfl⟩:=zD hv
     exact Rw hop fr hi hr1 hr2
    ·cases he
   ·rename_i k p k' q _
    split at he
    ·cases dH he
     obtain⟨v,u,hv,hr1,hr2⟩:=hx.two
     obtain⟨x',y',rfl,rfl,rfl⟩:=zD hv
     exact Ru hop fr hi hr1 hr2
    ·cases he
   ·cases he
  ·rename_i f hcal
   cases hcal
   have hops:(Op.call {callee:=Callee.value f,args:=args,argTypes:=ats}).operands.toList.map a.eval=a.eval f::args.toList.map a.eval:=by simp [Op.operands,Call.operands]
   rw [hops]at hx
   split at he
   ·rename_i fid n cap as
    obtain⟨⟨vs,hv,hn,hcap⟩,hx2⟩:=hx
    have hl:bP ρ F w (takeC cap 0 n) vs:=by
     refine bP.oV (by rw [nO,hn]) fun j c hj=> ?_
     obtain⟨hlt,rfl⟩:=tF cap 0 n j c hj
     have hg:=cT (l:=vs) (i:=j) (by omega)
     exact⟨_,hg,by rw [cD];exact hcap j _ hg⟩
    refine FB rfl he hc (vs:=args.toList.map a.eval++vs) (fun ids res hout e=> ?_) (fun ids res e=> ?_) (fun ids res b c e=> ?_) ?_ fr hi (hx2.append (Cw hl))
    ·rw [hobs,hop,e];rfl
    ·rw [hobs,hop,e];rfl
    ·rw [hobs,hop,e];rfl
    ·rw [show(args.toList.map a.eval++vs).toArray=args.map a.eval++vs.toArray from Array.ext' (by simp)]
     simp [execOp,hop,resolve,hv,Deferred.ofValue,invoke]
   ·rename_i fid nf n cap as
    cases hnf:Nat.ble nf n with
    |false=>simp [hnf]at he
    |true=>
     simp only [hnf,bt]at he
     have hle:=cm hnf
     obtain⟨⟨vs,hv,hn,hcap⟩,hx2⟩:=hx
     have hl1:bP ρ F w (fM cap 0 nf) (vs.take nf):=by
      refine bP.oV (by rw [qb];simp;omega) fun j c hj=> ?_
      obtain⟨hlt,rfl⟩:=wZ cap 0 nf j c hj
      have hg:=cT (l:=vs) (i:=j) (by omega)
      exact⟨_,by rw [List.getElem?_take,cj hlt];exact hg,by rw [cD];exact hcap j _ hg⟩
     have hl2:bP ρ F w (fM cap nf (n - nf)) (vs.drop nf):=by
      refine bP.oV (by rw [qb];simp;omega) fun j c hj=> ?_
      obtain⟨hlt,rfl⟩:=wZ cap nf (n - nf) j c hj
      have hg:=cT (l:=vs) (i:=nf+j) (by omega)
      exact⟨_,by rw [List.getElem?_drop];exact hg,hcap (nf+j) _ hg⟩
     refine FB rfl he hc (vs:=vs.take nf++args.toList.map a.eval++vs.drop nf) (fun ids res hout e=> ?_) (fun ids res e=> ?_) (fun ids res b c e=> ?_) ?_ fr hi (((Cw hl1).append hx2).append (Cw hl2))
     ·rw [hobs,hop,e];rfl
     ·rw [hobs,hop,e];rfl
     ·rw [hobs,hop,e];rfl
     ·rw [show(vs.take nf++args.toList.map a.eval++vs.drop nf).toArray=(vs.take nf).toArray++args.map a.eval++(vs.drop nf).toArray from Array.ext' (by simp)]
      simp [execOp,hop,resolve,hv,Deferred.ofValue,invoke]
   ·rename_i b as
    obtain⟨⟨k,base,cap,hk,hv⟩,hx2⟩:=hx
    have hX:sW (BO P) an (.yl b) as obs=some E:=by
     unfold wQ at he
     split at he
     ·split at he
      ·rename_i e0 _ _
       obtain⟨_,g,hg⟩:=A8 e0
       cases hg
      ·cases he
     ·exact he
    refine Oq hX hc (by rw [hop];rfl) (vs:=args.toList.map a.eval) (fun ids res hout e=> ?_) (fun l base' cap' hl=> ?_) fr hi hx2 ⟨k,base,cap,hk⟩
    ·rw [hobs,hop,e];rfl
    ·rw [hk]at hl;cases hl
     rw [show(args.toList.map a.eval).toArray=args.map a.eval from Array.ext' (by simp)]
     simp [execOp,hop,resolve,hv,Deferred.ofValue,invoke]
   ·cases he
  ·cases he
 ·cases he
end
structure Vp where
 g:List (Nat × Bool)
 tv:TV
 src:Option Nat
abbrev Slots:=Nat->Option Vp
def gP (yb:Nat->Bool):List (Nat × Bool)->Prop
 |[]=>True
 |(j,b)::g=>yb j=b/\gP yb g
def Qf (x:Nat × Bool):List (Nat × Bool)->Bool
 |[]=>false
 |y::l=>bif Nat.beq x.1 y.1 && (x.2==y.2)then true else Qf x l
def zR:List (Nat × Bool)->List (Nat × Bool)->Bool
 |[],_=>true
 |x::l,m=>bif Qf x m then zR l m else false
theorem O9 {yb:Nat->Bool} {x:Nat × Bool}: ∀{m:List (Nat × Bool)},Qf x m=true->gP yb m->yb x.1=x.2
 |[],h,_=>by simp [Qf]at h
 |y::l,h,hg=>by
  simp only [Qf]at h
  cases hb:(Nat.beq x.1 y.1 && (x.2==y.2))with
  |true=>
   simp only [ce,beq_iff_eq]at hb
   rw [bv hb.1,hb.2];exact hg.1
  |false=>simp only [hb,bu]at h;exact O9 h hg.2
theorem Dl {yb:Nat->Bool} {m:List (Nat × Bool)} (hg:gP yb m): ∀{l:List (Nat × Bool)},zR l m=true->gP yb l
 |[],_=>trivial
 |x::l,h=>by
  simp only [zR]at h
  cases hb:Qf x m with
  |true=>simp only [hb,bt]at h;exact⟨O9 hb hg,Dl hg h⟩
  |false=>simp [hb]at h
def Ns (s:Slots):Operand->Option Vp
 | .tmp t=>s t
 | .const v=>match Tm v with|some d=>some ⟨[], .v (.one (.d d)),none⟩|none=>none
 | .func f=>some ⟨[], .v (.one (.d (.fn f 0 fun _=> .nilp))),none⟩
 | .global _=>none
def J2 (s:Slots) (g:List (Nat × Bool)):List Operand->Option (List TV)
 |[]=>some []
 |x::xs=>match Ns s x,J2 s g xs with
  |some e,some l=>bif zR e.g g then some (e.tv::l)else none
  |_,_=>none
structure Core where
 conds:List Prop
 ent:Vp
 hd:List (Nat × Option Ob)
 ft:List Nat
section
variable (Fc:Cl->List SV->List (Nat × Option Ob)->TV->List (Nat × Option Ob)->Prop) (T:List (Nat × TI)) (ops:List Oper) (yb:Nat->Bool) (an:Nat->pI) (fr:Nat->Nat) (N:Nat)
def guardOf (s:Slots) (o:Oper):Option (List (Nat × Bool) × List Prop):=
 match o.guard with
 |none=>some ([],[])
 |some (j,want)=>
  match ops[j]? with
  |some oj=>match oj.dst with
   |some d=>match s d with
    |some ⟨gj, .v (.one (.d (.bool b))),some j'⟩=>bif Nat.beq j j' then some ((j,want)::gj,[b=yb j])else none
    |_=>none
   |none=>none
  |none=>none
def Ht (s:Slots) (g:List (Nat × Bool)) (c a b:Operand):Option (List Prop × TV):=
 match Ns s c,Ns s a,Ns s b with
 |some ⟨gc, .v (.one (.d (.bool bc))),some jc⟩,some ⟨ga, .v (.one (.d (.bool x))),_⟩,some ⟨gb, .v (.one (.d (.bool y))),_⟩=>
  bif zR gc g && zR ga ((jc,true)::g) && zR gb ((jc,false)::g)then some ([bc=yb jc], .v (.one (.d (.bool (bif yb jc then x else y)))))else none
 |_,_,_=>none
def AU (g:List (Nat × Bool)) (l:List Prop):List Prop:=
 match g,l with
 |[],l=>l
 |_,[]=>[]
 |g,l=>[gP yb g->All l]
def FE (N:Nat):Option Nat->Bool
 |some d=>Nat.blt d N
 |none=>true
def Ec {α:Type}:List α->Bool
 |[]=>true
 |_=>false
def core (i:Nat) (s:Slots) (h:Hp):Option Core:=
 match ops[i]? with
 |none=>none
 |some o=>
  match guardOf ops yb s o with
  |none=>none
  |some (g,c0)=>
   bif FE N o.dst then
    match o.op with
    | .pick c a b=>match Ht yb s g c a b with
     |some (cs,tv)=>some ⟨c0++AU yb g cs,⟨g,tv,some i⟩,[],[]⟩
     |none=>none
    |_=>
     match an i with
     | .skip=>some ⟨c0++[¬ gP yb g],⟨g, .v (.one (.d (.bool false))),some i⟩,[],[]⟩
     |_=>
     match J2 s g o.op.operands.toList with
     |none=>none
     |some xs=>
      let ft:=foot (an i) (fr i) o.op xs
      match eff Fc T (fr i) (an i) o.op xs (ft.map h)with
      |none=>none
      |some E=>bif fD (E.hd.map (·.1)) ft then some ⟨c0++(AU yb g E.conds++(bif Ec g||Ec E.hd then []else [gP yb g])),⟨g,E.tv,some i⟩,E.hd,ft⟩else none
   else none
def Aj (s:Slots) (d:Option Nat) (e:Vp):Slots:=
 match d with
 |some d=>fun t=>bif Nat.beq t d then some e else s t
 |none=>s
structure RS where
 s:Slots
 h:Hp
def step (i:Nat) (r:RS):Option (List Prop × RS):=
 match core Fc T ops yb an fr N i r.s r.h with
 |some c=>some (c.conds,⟨Aj r.s ((ops[i]?).bind (·.dst)) c.ent,upd r.h c.hd⟩)
 |none=>none
def run:List Nat->RS->Option (List Prop × RS)
 |[],r=>some ([],r)
 |i::l,r=>match step Fc T ops yb an fr N i r with
  |some (c,r1)=>match run l r1 with
   |some (c',r2)=>some (c++c',r2)
   |none=>none
  |none=>none
end
theorem bn: ∀{l m:List Prop},All (l++m)↔All l/\All m
 |[],m=>by simp [All]
 |c::l,m=>by simp [All,bn,and_assoc]
theorem IV {yb:Nat->Bool} {g:List (Nat × Bool)} {l:List Prop} (h:All (AU yb g l)) (hg:gP yb g):All l:=by
 unfold AU at h
 split at h
 ·exact h
 ·trivial
 ·exact h.1 hg
def RO (ρ:Nat->Option Pl) (F:Nat->Prop) (w:World) (yb:Nat->Bool) (e:Vp) (v:Value):Prop:=
 (gP yb e.g->bM ρ F w e.tv v)/\(¬ gP yb e.g->v=undef)
def Marks (B:Base) (F:Nat->Prop) (w:World) (ds:List Deferred):Prop:=
 B.mb<=B.w.heap.size/\ ∃Ds:List Nat,ds=Ds.map (fun D=>{target:= .collected D,args:= #[] })/\Ds.Nodup/\ ∀D∈Ds,F D/\B.mb<=D/\w.heap[D]? =some (.deferred (some []))
theorem Marks.gr {B:Base} {ρ ρ':Nat->Option Pl} {F F':Nat->Prop} {w w':World} {ds:List Deferred} (g:Gr ρ F w ρ' F' w') (h:Marks B F w ds):Marks B F' w' ds:=by
 obtain⟨h0,Ds,h1,h2,h3⟩:=h
 exact⟨h0,Ds,h1,h2,fun D hD=> ⟨g.fz D (h3 D hD).1,(h3 D hD).2.1,by rw [g.mem D (h3 D hD).1];exact(h3 D hD).2.2⟩⟩
theorem Marks.none {B:Base} {F:Nat->Prop} {w:World} (h:B.mb<=B.w.heap.size):Marks B F w []:=⟨h,[],rfl,List.nodup_nil,fun _ h=>by simp at h⟩
structure RC (B:Base) (yb:Nat->Bool) (N:Nat) (r:RS) (a:Act) (w:World):Prop where
 ex: ∃ρ F,Fr B ρ F w/\HI B ρ F w r.h/\(∀t e,r.s t=some e-> ∃v,a.tmps[t]? =some v/\RO ρ F w yb e v)/\Marks B F w a.defers
 sz:a.tmps.size=N
section
variable {P:Program} {B:Base} {T:List (Nat × TI)} {ops:Array Oper} {yb:Nat->Bool} {an:Nat->pI} {fr:Nat->Nat} {N:Nat} {rd:Option Nat} {Q:Exit->Act->World->Prop}
theorem E8 {ρ:Nat->Option Pl} {F:Nat->Prop} {w:World} {s:Slots} {a:Act} (hs: ∀t e,s t=some e-> ∃v,a.tmps[t]? =some v/\RO ρ F w yb e v) {x:Operand} {e:Vp} (he:Ns s x=some e) (hg:gP yb e.g):
  bM ρ F w e.tv (a.eval x):=by
 cases x with
 |tmp t=>
  obtain⟨v,hv,hr⟩:=hs t e he
  simp [Act.eval,hv]
  exact hr.1 hg
 |const v=>
  simp only [Ns]at he
  split at he
  ·rename_i d hd;cases he;exact Fj hd
  ·cases he
 |func f=>simp only [Ns]at he;cases he;exact⟨[],rfl,rfl,by simp⟩
 |global g=>simp [Ns]at he
theorem MQ {ρ:Nat->Option Pl} {F:Nat->Prop} {w:World} {s:Slots} {a:Act} (hs: ∀t e,s t=some e-> ∃v,a.tmps[t]? =some v/\RO ρ F w yb e v) {g:List (Nat × Bool)} (hg:gP yb g):
  ∀{l:List Operand} {xs:List TV},J2 s g l=some xs->iH ρ F w xs (l.map a.eval)
 |[],xs,h=>by simp [J2]at h;subst h;trivial
 |x::l,xs,h=>by
  simp only [J2]at h
  split at h
  ·rename_i e ys h1 h2
   cases hb:zR e.g g with
   |false=>simp [hb]at h
   |true=>
    simp only [hb,bt]at h
    cases h
    exact⟨E8 hs h1 (Dl hg hb),MQ hs hg h2⟩
  ·cases h
theorem uw {s:Slots} {d:Nat} {e:Vp} (t:Nat):Aj s (some d) e t=if t=d then some e else s t:=by
 show(bif Nat.beq t d then some e else s t)=_
 cases h:Nat.beq t d with
 |true=>simp [bv h]
 |false=>simp [Nat.ne_of_beq_eq_false h]
theorem FM {r:RS} {a:Act} {w w':World} {ρ ρ':Nat->Option Pl} {F F':Nat->Prop} {h':Hp} {dst:Option Nat} {e:Vp} {v:Value} (hs: ∀t e,r.s t=some e-> ∃v,a.tmps[t]? =some v/\RO ρ F w yb e v)
  (sz:a.tmps.size=N) (dn:Marks B F w a.defers) (hd:FE N dst=true) (g:Gr ρ F w ρ' F' w') (f:Fr B ρ' F' w') (hi:HI B ρ' F' w' h') (hr:RO ρ' F' w' yb e v):
  RC B yb N ⟨Aj r.s dst e,h'⟩ (a.put dst v) w':=by
 have old: ∀t e,r.s t=some e-> ∃v,a.tmps[t]? =some v/\RO ρ' F' w' yb e v:=fun t e ht=>by
  obtain⟨u,hu,h1,h2⟩:=hs t e ht
  exact⟨u,hu,fun hg=>(h1 hg).gr g,h2⟩
 cases dst with
 |none=>exact⟨⟨ρ',F',f,hi,old,dn.gr g⟩,sz⟩
 |some d=>
  have hlt:d<N:=cm (n:=d+1) hd
  refine⟨⟨ρ',F',f,hi,fun t e' ht=> ?_,dn.gr g⟩,by simp [Act.put,sz]⟩
  have ht:Aj r.s (some d) e t=some e':=ht
  rw [uw]at ht
  by_cases e0:t=d
  ·subst e0
   rw [cj rfl]at ht;cases ht
   exact⟨v,by simp [Act.put,sz,hlt],hr⟩
  ·rw [ci e0]at ht
   obtain⟨u,hu,hr'⟩:=old t e' ht
   exact⟨u,by simp only [Act.put];rw [Array.getElem?_setIfInBounds_ne (Ne.symm e0)];exact hu,hr'⟩
theorem BV (hT:pW P T) {i:Nat} {r r':RS} {cs:List Prop} {a:Act} {w:World} {K:Act->World->Prop} (hst:step (BO P) T ops.toList yb an fr N i r=some (cs,r')) (hc:All cs) (hrc:RC B yb N r a w)
  (hK: ∀a' w',RC B yb N r' a' w'->K a' w'):wpOpIn (FW rd) 0 P ops Q i K a w:=by
 obtain⟨⟨ρ,F,hfr,hhi,hs,dn⟩,sz⟩:=hrc
 unfold step at hst
 split at hst
 ·rename_i c hcore
  cases hst
  unfold core at hcore
  split at hcore
  ·cases hcore
  ·rename_i o ho
   have ho':ops[i]? =some o:=by simpa using ho
   have hdst:(ops.toList[i]?).bind (·.dst)=o.dst:=by rw [ho];rfl
   rw [hdst]at hK
   split at hcore
   ·cases hcore
   ·rename_i g c0 hgd
    have hguard:All c0->((gP yb g/\Region.wanted o (yielded ops a.tmps)=true)\/(¬ gP yb g/\Region.wanted o (yielded ops a.tmps)=false)):=by
     intro hc0
     unfold guardOf at hgd
     split at hgd
     ·rename_i hno
      cases hgd
      left;exact⟨trivial,by simp [Region.wanted,hno]⟩
     ·rename_i j want hgo
      split at hgd
      ·rename_i oj hoj
       split at hgd
       ·rename_i d hd
        split at hgd
        ·rename_i gj b j' hsd
         cases hb:Nat.beq j j' with
         |false=>simp [hb]at hgd
         |true=>
          simp only [hb,bt]at hgd
          cases hgd
          obtain⟨hbj,_⟩:=hc0
          obtain⟨v,hv,hr1,hr2⟩:=hs d _ hsd
          have hoj':ops[j]? =some oj:=by simpa using hoj
          have hy:yielded ops a.tmps j=match v with| .bool b=>some b|_=>none:=by
           simp only [yielded,hoj',bs,hd,hv]
           cases v<;>rfl
          have hw:Region.wanted o (yielded ops a.tmps)=(yielded ops a.tmps j==some want):=by simp [Region.wanted,hgo]
          by_cases hgj:gP yb gj
          ·have hvb:v= .bool b:=hr1 hgj
           subst hvb
           simp only at hy
           by_cases hbw:b=want
           ·left;subst hbw;exact⟨⟨hbj.symm,hgj⟩,by rw [hw,hy];simp⟩
           ·right;exact⟨fun hh=>hbw (hbj.trans hh.1),by rw [hw,hy];simpa using hbw⟩
          ·have hvu:v=undef:=hr2 hgj
           subst hvu
           right;exact⟨fun hh=>hgj hh.2,by rw [hw,hy];simp [undef]⟩
        ·cases hgd
       ·cases hgd
      ·cases hgd
    cases hdok:FE N o.dst with
    |false=>simp [hdok]at hcore
    |true=>
     simp only [hdok,bt]at hcore
     unfold wpOpIn
     simp only [ho']
     split at hcore
     ·-- pick
      rename_i x y z hop
      split at hcore
      ·rename_i cs tv hpk
       cases hcore
       rw [bn]at hc
       rcases hguard hc.1 with⟨hg,hw⟩|⟨hg,hw⟩
       ·simp only [hw,if_true]
        refine uL rd (by rw [hop];rfl) ?_
        have hcs:=IV hc.2 hg
        unfold Ht at hpk
        split at hpk
        ·rename_i gc bc jc ga p sa gb q sb h1 h2 h3
         cases hb:(zR gc g && zR ga ((jc,true)::g) && zR gb ((jc,false)::g))with
         |false=>simp [hb]at hpk
         |true=>
          simp only [hb,bt]at hpk
          cases hpk
          simp only [ce]at hb
          obtain⟨hbc,_⟩:=hcs
          have hx:a.eval x= .bool bc:=E8 hs h1 (Dl hg hb.1.1)
          have hres: ∃v,(execOp a.eval o).run P w= .ok (.value v) w/\v= .bool (bif yb jc then p else q):=by
           rw [<-hbc]
           cases bc with
           |true=>
            have hy:a.eval y= .bool p:=E8 hs h2 (Dl (m:=(jc,true)::g) ⟨hbc.symm,hg⟩ hb.1.2)
            exact⟨_,by simp [execOp,hop,hx,asBool],hy⟩
           |false=>
            have hz:a.eval z= .bool q:=E8 hs h3 (Dl (m:=(jc,false)::g) ⟨hbc.symm,hg⟩ hb.2)
            exact⟨_,by simp [execOp,hop,hx,asBool],hz⟩
          obtain⟨v,hrun,hv⟩:=hres
          simp only [Oper.wp,hrun,Oper.upon]
          exact hK _ _ (FM hs sz dn hdok (.refl _ _ _) hfr hhi ⟨fun _=>hv,fun hn=>absurd hg hn⟩)
        ·cases hpk
       ·simp only [hw]
        exact⟨fun _ _=>trivial,hK _ _ (FM hs sz dn hdok (.refl _ _ _) hfr hhi ⟨fun hh=>absurd hh hg,fun _=>rfl⟩)⟩
      ·cases hcore
     ·split at hcore
      ·-- known not to be carried out
       cases hcore
       rw [bn]at hc
       rcases hguard hc.1 with⟨hg,hw⟩|⟨hg,hw⟩
       ·exact absurd hg hc.2.1
       ·simp only [hw]
        exact⟨fun _ _=>trivial,hK _ _ (FM hs sz dn hdok (.refl _ _ _) hfr hhi ⟨fun hh=>absurd hh hg,fun _=>rfl⟩)⟩
      split at hcore
      ·cases hcore
      ·rename_i xs hxs
       split at hcore
       ·cases hcore
       ·rename_i E hE
        cases hb:fD (E.hd.map (·.1)) (foot (an i) (fr i) o.op xs)with
        |false=>simp [hb]at hcore
        |true=>
         simp only [hb,bt]at hcore
         cases hcore
         rw [bn,bn]at hc
         rcases hguard hc.1 with⟨hg,hw⟩|⟨hg,hw⟩
         ·simp only [hw,if_true]
          exact Qr hT hE (IV hc.2.1 hg) rfl hfr hhi (MQ hs hg hxs) rd K Q fun v ρ' F' w' g' f' hi' hr'=>
           hK _ _ (FM hs sz dn hdok g' f' hi' ⟨fun _=>hr',fun hn=>absurd hg hn⟩)
         ·simp only [hw]
          have hnil:E.hd=[]:=by
           cases g with
           |nil=>exact absurd trivial hg
           |cons _ _=>
            cases hh:E.hd with
            |nil=>rfl
            |cons _ _=>
             have h2:=hc.2.2
             rw [hh]at h2
             exact absurd h2.1 hg
          rw [hnil]at hK
          exact⟨fun _ _=>trivial,hK _ _ (FM hs sz dn hdok (.refl _ _ _) hfr hhi ⟨fun hh=>absurd hh hg,fun _=>rfl⟩)⟩
 ·cases hst
theorem DI (hT:pW P T): ∀{l:List Nat} {r r':RS} {cs:List Prop} {a:Act} {w:World},run (BO P) T ops.toList yb an fr N l r=some (cs,r')->All cs->RC B yb N r a w->
  (∀a' w',RC B yb N r' a' w'->Q .normal a' w')->wpOpsIn (FW rd) 0 P ops Q l a w
 |[],r,r',cs,a,w,hr,hc,hrc,hQ=>by
  simp [run]at hr
  obtain⟨rfl,rfl⟩:=hr
  exact hQ a w hrc
 |i::l,r,r',cs,a,w,hr,hc,hrc,hQ=>by
  simp only [run]at hr
  split at hr
  ·rename_i c r1 h1
   split at hr
   ·rename_i c' r2 h2
    cases hr
    rw [bn]at hc
    rw [wpOpsIn_cons]
    exact BV hT h1 hc.1 hrc fun a' w' h'=>DI hT h2 hc.2 h' hQ
   ·cases hr
  ·cases hr
end
section
variable (Fc:Cl->List SV->List (Nat × Option Ob)->TV->List (Nat × Option Ob)->Prop) (T:List (Nat × TI)) (ops:List Oper) (yb:Nat->Bool) (an:Nat->pI) (fr:Nat->Nat) (N:Nat)
def tmpsOf:List Operand->List Nat
 |[]=>[]
 | .tmp t::l=>t::tmpsOf l
 |_::l=>tmpsOf l
def readsOf (o:Oper):List Nat:=
 (match o.guard with
  |some (j,_)=>match ops[j]? with|some oj=>(match oj.dst with|some d=>[d]|none=>[])|none=>[]
  |none=>[])++tmpsOf o.op.operands.toList
def Mr:List Nat->List Nat->Bool
 |[],_=>true
 |x::l,m=>bif iZ x m then false else Mr l m
structure Aq where
 ft:List Nat
 wr:List Nat
def Ko (d:Option Nat) (l:List Nat):Bool:=match d with|some d=> !(iZ d l)|none=>true
def indep (info:Nat->Aq) (i j:Nat):Bool:=
 match ops[i]?,ops[j]? with
 |some oi,some oj=>
  Ko oi.dst (readsOf ops oj) && Ko oj.dst (readsOf ops oi) && (match oi.dst,oj.dst with|some a,some b=> !(Nat.beq a b)|_,_=>true) &&
   (Mr (info i).wr (info j).ft && Mr (info j).wr (info i).ft)
 |_,_=>false
def EL:List Nat->RS->Option (List Prop × RS × List (Nat × Aq))
 |[],r=>some ([],r,[])
 |i::l,r=>match core Fc T ops yb an fr N i r.s r.h with
  |some c=>match EL l ⟨Aj r.s ((ops[i]?).bind (·.dst)) c.ent,upd r.h c.hd⟩with
   |some (c',r2,inf)=>some (c.conds++c',r2,(i,⟨c.ft,c.hd.map (·.1)⟩)::inf)
   |none=>none
  |none=>none
def Step (info:Nat->Aq) (i:Nat) (r r':RS):Prop:=
 ∃c,core Fc T ops yb an fr N i r.s r.h=some c/\All c.conds/\c.ft=(info i).ft/\c.hd.map (·.1)=(info i).wr/\r'=⟨Aj r.s ((ops[i]?).bind (·.dst)) c.ent,upd r.h c.hd⟩
def Steps (info:Nat->Aq):List Nat->RS->RS->Prop
 |[],r,r'=>r'=r
 |i::l,r,r'=> ∃r1,Step Fc T ops yb an fr N info i r r1/\Steps info l r1 r'
end
section
variable {Fc:Cl->List SV->List (Nat × Option Ob)->TV->List (Nat × Option Ob)->Prop} {T:List (Nat × TI)} {ops:List Oper} {yb:Nat->Bool} {an:Nat->pI} {fr:Nat->Nat} {N:Nat} {info:Nat->Aq}
theorem IJ {s s':Slots} {x:Operand} (h: ∀t,x= .tmp t->s' t=s t):Ns s' x=Ns s x:=by
 cases x with
 |tmp t=>exact h t rfl
 |const _=>rfl
 |func _=>rfl
 |global _=>rfl
theorem F8 {t:Nat}: ∀{l:List Operand}, .tmp t∈l->t∈tmpsOf l
 |[],h=>by simp at h
 |x::l,h=>by
  rcases eA.1 h with rfl|h
  ·simp [tmpsOf]
  ·have:=F8 h
   cases x<;>simp [tmpsOf,this]
theorem Gp {s s':Slots} {g:List (Nat × Bool)}: ∀{l:List Operand},(∀t∈tmpsOf l,s' t=s t)->J2 s' g l=J2 s g l
 |[],_=>rfl
 |x::l,h=>by
  simp only [J2]
  rw [IJ (s:=s) (s':=s') fun t e=>h t (by subst e;simp [tmpsOf]),Gp (l:=l) fun t ht=>h t (by cases x<;>simp [tmpsOf,ht])]
theorem AQ {α β:Type} {f g:α->β}: ∀{l:List α},(∀x∈l,f x=g x)->l.map f=l.map g
 |[],_=>rfl
 |x::l,h=>by rw [cN,cN,h x (by simp),AQ fun y hy=>h y (by simp [hy])]
theorem FX {i:Nat} {s s':Slots} {h h':Hp} {c:Core} (hc:core Fc T ops yb an fr N i s h=some c) (hs: ∀o,ops[i]? =some o-> ∀t∈readsOf ops o,s' t=s t) (hh: ∀b∈c.ft,h' b=h b):
  core Fc T ops yb an fr N i s' h'=some c:=by
 unfold core at hc ⊢
 cases ho:ops[i]? with
 |none=>rw [ho]at hc;cases hc
 |some o=>
  have hs:=hs o ho
  rw [ho]at hc
  simp only at hc ⊢
  have hg:guardOf ops yb s' o=guardOf ops yb s o:=by
   unfold guardOf
   cases hgo:o.guard with
   |none=>rfl
   |some x=>
    obtain⟨j,want⟩:=x
    simp only
    cases hoj:ops[j]? with
    |none=>rfl
    |some oj=>
     simp only
     cases hd:oj.dst with
     |none=>rfl
     |some d=>
      simp only
      rw [hs d (by simp [readsOf,hgo,hoj,hd])]
  rw [hg]
  cases hgd:guardOf ops yb s o with
  |none=>rw [hgd]at hc;cases hc
  |some x=>
   obtain⟨g,c0⟩:=x
   rw [hgd]at hc
   simp only at hc ⊢
   cases hdok:FE N o.dst with
   |false=>rw [hdok]at hc;simp at hc
   |true=>
    rw [hdok]at hc
    simp only [bt]at hc ⊢
    have hrd: ∀t∈tmpsOf o.op.operands.toList,s' t=s t:=fun t ht=>hs t (by simp only [readsOf,cA];exact .inr ht)
    split at hc
    ·rename_i x y z hop
     have e1: ∀u,u∈[x,y,z]->Ns s' u=Ns s u:=fun u hu=>IJ fun t e=>hrd t (F8 (by rw [hop,<-e];simpa [Op.operands]using hu))
     have hp:Ht yb s' g x y z=Ht yb s g x y z:=by
      unfold Ht
      rw [e1 x (by simp),e1 y (by simp),e1 z (by simp)]
     rw [hp];exact hc
    ·rename_i hnp
     rw [Gp hrd]
     split at hc
     ·cases hc;rfl
     split at hc
     ·cases hc
     ·rename_i xs hxs
      split at hc
      ·cases hc
      ·rename_i E hE
       cases hb:(fD (E.hd.map (·.1)) (foot (an i) (fr i) o.op xs))with
       |false=>simp [hb]at hc
       |true=>
        simp only [hb,bt]at hc
        cases hc
        rw [AQ (f:=h') (g:=h) fun b hb'=>hh b hb',hE]
        simp only [hb,bt]
theorem IG {i:Nat} {s:Slots} {h:Hp} {c:Core} (hc:core Fc T ops yb an fr N i s h=some c): ∀b∈c.hd.map (·.1),b∈c.ft:=by
 unfold core at hc
 split at hc
 ·cases hc
 ·split at hc
  ·cases hc
  ·rename_i o _ _ g c0 _
   cases hdok:FE N o.dst with
   |false=>rw [hdok]at hc;simp at hc
   |true=>
    rw [hdok]at hc
    simp only [bt]at hc
    split at hc
    ·split at hc
     ·cases hc;simp
     ·cases hc
    ·split at hc
     ·cases hc;simp
     split at hc
     ·cases hc
     ·rename_i xs _
      split at hc
      ·cases hc
      ·rename_i E _
       cases hb:(fD (E.hd.map (·.1)) (foot (an i) (fr i) o.op xs))with
       |false=>simp [hb]at hc
       |true=>
        simp only [hb,bt]at hc
        cases hc
        exact bX.1 hb
theorem qH {x:Nat} {l:List Nat} (h:iZ x l=false):x ∉ l:=fun hm=>by rw [qw.2 hm]at h;cases h
theorem Bc: ∀{l m:List Nat},Mr l m=true-> ∀x∈l,x ∉ m
 |[],_,_,_,h=>by simp at h
 |y::l,m,h,x,hx=>by
  simp only [Mr]at h
  cases hb:iZ y m with
  |true=>simp [hb]at h
  |false=>
   simp only [hb,bu]at h
   rcases eA.1 hx with rfl|hx
   ·exact qH hb
   ·exact Bc h x hx
theorem SH {h:Hp} {l m:List (Nat × Option Ob)} (hd: ∀b∈l.map (·.1),b ∉ m.map (·.1)):upd (upd h l) m=upd (upd h m) l:=by
 funext b
 simp only [upd]
 cases hl:get l b with
 |none=>simp
 |some x=>
  have:get m b=none:=eD (hd b (Gv (by rw [hl];simp)))
  simp [this]
theorem QE {s:Slots} {d d':Option Nat} {e e':Vp} (h: ∀x y,d=some x->d'=some y->x≠y):Aj (Aj s d e) d' e'=Aj (Aj s d' e') d e:=by
 cases d with
 |none=>rfl
 |some x=>
  cases d' with
  |none=>rfl
  |some y=>
   have hne:=h x y rfl rfl
   funext t
   rw [uw,uw,uw,uw]
   by_cases e1:t=x
   ·subst e1;simp [hne]
   ·by_cases e2:t=y
    ·subst e2;simp [e1]
    ·simp [e1,e2]
theorem QG {i j:Nat} {r r1 r2:RS} (hin:indep ops info i j=true) (h1:Step Fc T ops yb an fr N info i r r1) (h2:Step Fc T ops yb an fr N info j r1 r2):
  ∃r1',Step Fc T ops yb an fr N info j r r1'/\Step Fc T ops yb an fr N info i r1' r2:=by
 obtain⟨c1,a1,a2,a3,a4,rfl⟩:=h1
 obtain⟨c2,b1,b2,b3,b4,rfl⟩:=h2
 unfold indep at hin
 split at hin
 ·rename_i oi oj hoi hoj
  simp only [ce]at hin
  obtain⟨⟨⟨d1,d2⟩,d3⟩,d4,d5⟩:=hin
  have hdi:(ops[i]?).bind (·.dst)=oi.dst:=by rw [hoi];rfl
  have hdj:(ops[j]?).bind (·.dst)=oj.dst:=by rw [hoj];rfl
  rw [hdi]at b1 ⊢
  rw [hdj]
  have k1:=IG a1
  have k2:=IG b1
  have hne: ∀x y,oi.dst=some x->oj.dst=some y->x≠y:=fun x y ex ey e=>by
   rw [ex,ey]at d3
   simp only at d3
   have:Nat.beq x y=true:=by rw [e];exact Nat.beq_refl y
   rw [this]at d3;cases d3
  have hheap:(∀b∈c2.ft,upd r.h c1.hd b=r.h b)/\(∀b∈c1.ft,upd r.h c2.hd b=r.h b)/\upd (upd r.h c1.hd) c2.hd=upd (upd r.h c2.hd) c1.hd:=by
   rw [<-a4,<-b3]at d4
   rw [<-b4,<-a3]at d5
   have e1:=Bc d4
   have e2:=Bc d5
   refine⟨fun b hb=> ?_,fun b hb=> ?_,SH fun b hb hb'=>e1 b hb (k2 b hb')⟩
   ·simp only [upd];rw [eD fun hm=>e1 b hm hb]
   ·simp only [upd];rw [eD fun hm=>e2 b hm hb]
  have c2':core Fc T ops yb an fr N j r.s r.h=some c2:=by
   refine FX b1 (fun o ho t ht=> ?_) fun b hb=>(hheap.1 b hb).symm
   rw [hoj]at ho;cases ho
   cases hd:oi.dst with
   |none=>rfl
   |some x=>
    show r.s t=Aj r.s (some x) c1.ent t
    rw [uw,ci]
    intro e
    rw [hd]at d1
    simp only [Ko,dd]at d1
    exact qH d1 (e ▸ ht)
  have c1':core Fc T ops yb an fr N i (Aj r.s oj.dst c2.ent) (upd r.h c2.hd)=some c1:=by
   refine FX a1 (fun o ho t ht=> ?_) hheap.2.1
   rw [hoi]at ho;cases ho
   cases hd:oj.dst with
   |none=>rfl
   |some x=>
    rw [uw,ci]
    intro e
    rw [hd]at d2
    simp only [Ko,dd]at d2
    exact qH d2 (e ▸ ht)
  refine⟨⟨Aj r.s oj.dst c2.ent,upd r.h c2.hd⟩,⟨c2,c2',b2,b3,b4,by rw [hdj]⟩,⟨c1,c1',a2,a3,a4, ?_⟩⟩
  rw [hdi,QE hne,hheap.2.2]
 ·cases hin
theorem ED {x:Nat}: ∀{A l:List Nat} {r r':RS},(∀a∈A,indep ops info a x=true)->Steps Fc T ops yb an fr N info (A++x::l) r r'->Steps Fc T ops yb an fr N info (x::(A++l)) r r'
 |[],_,_,_,_,h=>h
 |a::A,l,r,r',hin,⟨r1,h1,h2⟩=>by
  obtain⟨r2,h3,h4⟩:=ED (A:=A) (fun b hb=>hin b (by simp [hb])) h2
  obtain⟨r1',h5,h6⟩:=QG (hin a (by simp)) h1 h3
  exact⟨r1',h5,r2,h6,h4⟩
def DW (ops:List Oper) (cl:Nat->List Nat):Nat->Bool
 |0=>true
 |n+1=>DW ops cl n && (match ops[n]? with
  |some o=>(o.after.toList.all fun e=> !(Region.binds .any e)||(Nat.blt e.on n && fD (cl e.on) (cl n) && iZ e.on (cl n))) &&
    ((cl n).all fun x=>o.after.toList.any fun e=>Region.binds .any e && (Nat.beq x e.on||iZ x (cl e.on)))
  |none=>false)
def p8 (ops:List Oper) (info:Nat->Aq) (cl:Nat->List Nat):Nat->Bool
 |0=>true
 |n+1=>p8 ops info cl n && rowIndep n
 where
 rowIndep (x:Nat):Bool:=go x x
 go (x:Nat):Nat->Bool
  |0=>true
  |a+1=>go x a && (iZ a (cl x)||indep ops info a x)
theorem Ba {cl:Nat->List Nat}: ∀{n:Nat},p8 ops info cl n=true-> ∀x,x<n-> ∀a,a<x->a∈cl x\/indep ops info a x=true
 |0,_,x,hx,_,_=>by omega
 |n+1,h,x,hx,a,ha=>by
  simp only [p8,ce]at h
  by_cases e:x=n
  ·subst e
   have key: ∀m,p8.go ops info cl x m=true-> ∀a,a<m->a∈cl x\/indep ops info a x=true:=by
    intro m
    induction m with
    |zero=>intro _ a ha;omega
    |succ m ih=>
     intro hm a ha
     simp only [p8.go,ce,cQ]at hm
     by_cases e:a=m
     ·subst e
      rcases hm.2 with h|h
      ·exact .inl (qw.1 h)
      ·exact .inr h
     ·exact ih hm.1 a (by omega)
   exact key x h.2 a ha
  ·exact Ba h.1 x (by omega) a ha
theorem zY {cl:Nat->List Nat}: ∀{n:Nat},DW ops cl n=true-> ∀x,x<n-> ∃o,ops[x]? =some o/\(∀y∈cl x,∃e∈o.after,Region.binds .any e=true/\e.on<x/\(y=e.on\/y∈cl e.on))
 |0,_,x,hx=>by omega
 |n+1,h,x,hx=>by
  simp only [DW,ce]at h
  by_cases e:x=n
  ·subst e
   have h2:=h.2
   split at h2
   ·rename_i o ho
    refine⟨o,ho,fun y hy=> ?_⟩
    simp only [ce,List.all_eq_true,c_,cQ]at h2
    obtain⟨e,he,hb,hon⟩:=h2.2 y hy
    have h3:=h2.1 e he
    refine⟨e,by simpa using he,hb, ?_, ?_⟩
    ·rcases h3 with h3|h3
     ·rw [hb]at h3;cases h3
     ·exact cm (n:=e.on+1) h3.1.1
    ·rcases hon with hon|hon
     ·exact .inl (bv hon)
     ·exact .inr (qw.1 hon)
   ·cases h2
  ·exact zY h.1 x (by omega)
end
section
variable {P:Program} {B:Base} {T:List (Nat × TI)} {ops:Array Oper} {yb:Nat->Bool} {an:Nat->pI} {fr:Nat->Nat} {N:Nat} {rd:Option Nat} {info:Nat->Aq} {Q:Exit->Act->World->Prop}
theorem KU {cl:Nat->List Nat} {listed:Array Bool} (hcl:DW ops.toList cl ops.size=true)
  (hdown: ∀i o,ops[i]? =some o->listed.getD i true=true-> ∀e∈o.after,Region.binds .any e=true->listed.getD e.on false=true) (hsz:listed.size=ops.size):
  ∀x,x<ops.size->listed.getD x true=true-> ∀y∈cl x,listed.getD y false=true:=by
 intro x
 induction x using Nat.strongRecOn with
 |_ x ih=>
  intro hx hl y hy
  obtain⟨o,ho,hcl'⟩:=zY hcl x hx
  obtain⟨e,he,hb,hlt,hy'⟩:=hcl' y hy
  have hon:=hdown x o (by simpa using ho) hl e he hb
  rcases hy' with rfl|hy'
  ·exact hon
  ·have hlt':e.on<ops.size:=by omega
   refine ih e.on hlt hlt' ?_ y hy'
   have h1:e.on<listed.size:=by omega
   simp [h1]at hon ⊢
   exact hon
theorem R4 (hT:pW P T) {cl:Nat->List Nat} (hcl:DW ops.toList cl ops.size=true) (hall:p8 ops.toList info cl ops.size=true):
  ∀(fuel:Nat) (listed:Array Bool) (r r':RS) (a:Act) (w:World),listed.size=ops.size->
   (∀i o,ops[i]? =some o->listed.getD i true=true-> ∀e∈o.after,Region.binds .any e=true->listed.getD e.on false=true)->
   ((List.range ops.size).filter fun i=> !listed.getD i true).length<=fuel->
   Steps (BO P) T ops.toList yb an fr N info ((List.range ops.size).filter fun i=> !listed.getD i true) r r'->RC B yb N r a w->(∀a' w',RC B yb N r' a' w'->Q .normal a' w')->
   wpAnyIn (FW rd) 0 P .any ops Q fuel listed a w:=by
 intro fuel
 have hready: ∀listed:Array Bool,Region.ready .any ops listed=[]->((List.range ops.size).filter fun i=> !listed.getD i true)=[]:=by
  intro listed hr
  apply cP
  intro hne
  have hex: ∃x,x<ops.size/\listed.getD x true=false/\ ∀y,y<x->listed.getD y true=true:=by
   obtain⟨z,hz⟩:=List.exists_mem_of_ne_nil _ hne
   rw [db,c9]at hz
   have key: ∀n z,z=n->z<ops.size->listed.getD z true=false-> ∃x,x<ops.size/\listed.getD x true=false/\ ∀y,y<x->listed.getD y true=true:=by
    intro n
    induction n using Nat.strongRecOn with
    |_ n ih=>
     intro z hzn hz1 hz2
     by_cases hmin: ∃y,y<z/\listed.getD y true=false
     ·obtain⟨y,hy1,hy2⟩:=hmin
      exact ih y (by omega) y rfl (by omega) hy2
     ·refine⟨z,hz1,hz2,fun y hy=> ?_⟩
      cases hb:listed.getD y true with
      |true=>rfl
      |false=>exact absurd ⟨y,hy,hb⟩ hmin
   exact key z z rfl hz.1 (by simpa using hz.2)
  obtain⟨x,hx,hxl,hmin⟩:=hex
  obtain⟨o,ho,_⟩:=zY hcl x hx
  have ho':ops[x]? =some o:=by simpa using ho
  have hafter: ∀e∈o.after,Region.binds .any e=true->e.on<x:=by
   intro e he hb
   have:DW ops.toList cl (x+1)=true:=by
    have mono: ∀n m,n<=m->DW ops.toList cl m=true->DW ops.toList cl n=true:=by
     intro n m hnm h
     induction m with
     |zero=>
      have:n=0:=by omega
      subst this;exact h
     |succ m ih=>
      by_cases e:n=m+1
      ·subst e;exact h
      ·simp only [DW,ce]at h;exact ih (by omega) h.1
    exact mono _ _ (by omega) hcl
   simp only [DW,ce]at this
   have h2:=this.2
   rw [ho]at h2
   simp only [ce,List.all_eq_true]at h2
   have h3:=h2.1 e (by simpa using he)
   rw [hb]at h3
   simp only [cE,Bool.false_or,ce]at h3
   exact cm (n:=e.on+1) h3.1.1
  have:x∈Region.ready .any ops listed:=by
   rw [mem_ready]
   refine⟨hxl,o,ho',fun e he hb=> ?_⟩
   have hlt:=hafter e he hb
   have:=hmin e.on hlt
   have hsome:listed.getD e.on true=true:=this
   by_cases h1:e.on<listed.size
   ·simp [h1]at hsome ⊢;exact hsome
   ·-- beyond the list: then x would be listed
    have h2: ¬ x<listed.size:=by omega
    simp [h2]at hxl
  rw [hr]at this
  simp at this
 induction fuel with
 |zero=>
  intro listed r r' a w hsz hdown hlen hst hrc hQ
  have hnil:((List.range ops.size).filter fun i=> !listed.getD i true)=[]:=List.eq_nil_of_length_eq_zero (by omega)
  refine⟨?_, ?_⟩
  ·unfold Region.ready
   rw [List.filter_eq_nil_iff]at hnil ⊢
   intro x hx
   have:=hnil x hx
   simp only [ce]
   intro ⟨h1,_⟩
   exact this h1
  ·rw [hnil]at hst
   cases hst
   exact hQ a w hrc
 |succ fuel ih=>
  intro listed r r' a w hsz hdown hlen hst hrc hQ
  refine⟨fun hr=> ?_,fun x hx=> ?_⟩
  ·rw [hready listed hr]at hst
   cases hst
   exact hQ a w hrc
  ·rw [mem_ready]at hx
   obtain⟨hxl,o,ho,hedge⟩:=hx
   have hlt:x<ops.size:=(Array.getElem?_eq_some_iff.1 ho).1
   have hmem:x∈(List.range ops.size).filter fun i=> !listed.getD i true:=by
    rw [db,c9];exact⟨hlt,by simp [hxl]⟩
   obtain⟨A,l,hAl⟩:=List.append_of_mem hmem
   have hsorted:((List.range ops.size).filter fun i=> !listed.getD i true).Pairwise (· < ·):=List.Pairwise.filter _ List.pairwise_lt_range
   rw [hAl]at hsorted hst
   have hA: ∀a∈A,a<x:=fun a ha=>(List.pairwise_append.1 hsorted).2.2 a ha x (by simp)
   have hAu: ∀a∈A,listed.getD a true=false:=fun a ha=>by
    have:a∈(List.range ops.size).filter fun i=> !listed.getD i true:=by rw [hAl];simp [ha]
    rw [db]at this
    simpa using this.2
   have hind: ∀a∈A,indep ops.toList info a x=true:=fun a ha=>by
    rcases Ba hall x hlt a (hA a ha)with hc|hi
    ·-- a is before x: it would be listed
     exfalso
     obtain⟨o',ho',hcl'⟩:=zY hcl x hlt
     have:o'=o:=by
      have e1:ops[x]? =some o':=by simpa using ho'
      rw [ho]at e1;cases e1;rfl
     subst this
     obtain⟨e,he,hb,hlt',hy⟩:=hcl' a hc
     have hon:=hedge e he hb
     have hla:listed.getD a false=true:=by
      rcases hy with rfl|hy
      ·exact hon
      ·refine KU hcl hdown hsz e.on (by omega) ?_ a hy
       have h1:e.on<listed.size:=by omega
       simp [h1]at hon ⊢;exact hon
     have:=hAu a ha
     have h1:a<listed.size:=by have:=hA a ha;omega
     simp [h1]at hla this
     rw [hla]at this;cases this
    ·exact hi
   obtain⟨r1,⟨c,c1,c2,c3,c4,rfl⟩,hrest⟩:=ED hind hst
   have hstep:step (BO P) T ops.toList yb an fr N x r=some (c.conds,⟨Aj r.s ((ops.toList[x]?).bind (·.dst)) c.ent,upd r.h c.hd⟩):=by
    unfold step;rw [c1]
   have hfil:((List.range ops.size).filter fun i=> !(listed.setIfInBounds x true).getD i true)=A++l:=by
    have hnd:((List.range ops.size).filter fun i=> !listed.getD i true).Nodup:=List.Pairwise.filter _ List.nodup_range
    have e1:((List.range ops.size).filter fun i=> !(listed.setIfInBounds x true).getD i true)=((List.range ops.size).filter fun i=> !listed.getD i true).filter fun i=>i !=x:=by
     rw [List.filter_filter]
     apply List.filter_congr
     intro i hi
     by_cases e:i=x
     ·subst e
      have:i<listed.size:=by omega
      simp [this]
     ·rw [getD_set_ne true (Ne.symm e)];simp [e]
    rw [e1,hAl,eC,List.filter_cons]
    rw [hAl]at hnd
    have hxA:x ∉ A:=fun h=>by have:=hA x h;omega
    have hxl':x ∉ l:=(cC.1 (List.nodup_append.1 hnd).2.1).1
    have f1:A.filter (fun i=>i !=x)=A:=List.filter_eq_self.2 fun y hy=>by simpa using fun(e:y=x)=>hxA (e ▸ hy)
    have f2:l.filter (fun i=>i !=x)=l:=List.filter_eq_self.2 fun y hy=>by simpa using fun(e:y=x)=>hxl' (e ▸ hy)
    rw [f1,f2];simp
   refine BV hT hstep c2 hrc fun a' w' hrc'=>ih (listed.setIfInBounds x true) _ r' a' w' (by simp [hsz]) (fun i o' ho' hli e he hb=> ?_) (by rw [hfil];rw [hAl]at hlen;simp at hlen ⊢;omega) (by rw [hfil];exact hrest) hrc' hQ
   by_cases e:i=x
   ·subst e
    rw [ho]at ho';cases ho'
    exact getD_set_true (hedge _ he hb)
   ·rw [getD_set_ne true (Ne.symm e)]at hli
    exact getD_set_true (hdown i o' ho' hli _ he hb)
theorem AP {Fc:Cl->List SV->List (Nat × Option Ob)->TV->List (Nat × Option Ob)->Prop} {opl:List Oper}: ∀{l:List Nat} {r r':RS} {cs:List Prop} {inf:List (Nat × Aq)},EL Fc T opl yb an fr N l r=some (cs,r',inf)->All cs->l.Nodup->
  (∀i x,get inf i=some x->info i=x)->Steps Fc T opl yb an fr N info l r r'
 |[],r,r',cs,inf,h,_,_,_=>by simp [EL]at h;obtain⟨rfl,rfl,rfl⟩:=h;rfl
 |i::l,r,r',cs,inf,h,hc,hnd,hinf=>by
  simp only [EL]at h
  split at h
  ·rename_i c hcore
   split at h
   ·rename_i c' r2 inf' h2
    cases h
    rw [bn]at hc
    have hi:info i=⟨c.ft,c.hd.map (·.1)⟩:=hinf i _ (by rw [av,cj rfl])
    refine⟨_,⟨c,hcore,hc.1,by rw [hi],by rw [hi],rfl⟩,AP h2 hc.2 (cC.1 hnd).2 fun j x hj=> ?_⟩
    have hkeys: ∀{l r r' cs inf},EL Fc T opl yb an fr N l r=some (cs,r',inf)-> ∀j x,get inf j=some x->j∈l:=by
     intro l
     induction l with
     |nil=>intro r r' cs inf h j x hj;simp [EL]at h;obtain⟨_,_,rfl⟩:=h;simp [get]at hj
     |cons y l ih=>
      intro r r' cs inf h j x hj
      simp only [EL]at h
      split at h
      ·split at h
       ·rename_i h3
        cases h
        rw [av]at hj
        split at hj
        ·rename_i e;simp [e]
        ·exact ct _ (ih h3 j x hj)
       ·cases h
      ·cases h
    have hjl:=hkeys h2 j x hj
    apply hinf
    rw [av,ci (fun(e:i=j)=>(cC.1 hnd).1 (e ▸ hjl))]
    exact hj
   ·cases h
  ·cases h
end
end Sg
