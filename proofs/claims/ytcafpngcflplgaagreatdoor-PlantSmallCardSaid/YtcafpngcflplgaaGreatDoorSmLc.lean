import Derived.Test.YtcafpngcflplgaaGreatDoorSmLb
import Derived.OrdersIn
import Derived.Sort.LoopGhostIn
import Derived.RangeFuncLeaves
import Derived.KernelRfl
import Derived.RangeFuncIn
import Derived.RangeFuncRecord
import Derived.LoopNIn
import Derived.Deep.Slices
import Derived.OpenShut
import Derived.Carry
set_option linter.all false
namespace Sg
open Go
structure Qv where
 g:List (Nat × Bool)
 tv:TV
 src:Option Nat
abbrev Slots:=Nat->Option Qv
def gP (yb:Nat->Bool):List (Nat × Bool)->Prop
 |[]=>True
 |(j,b)::g=>yb j=b/\gP yb g
def Pz (x:Nat × Bool):List (Nat × Bool)->Bool
 |[]=>false
 |y::l=>bif Nat.beq x.1 y.1 && (x.2==y.2)then true else Pz x l
def wu:List (Nat × Bool)->List (Nat × Bool)->Bool
 |[],_=>true
 |x::l,m=>bif Pz x m then wu l m else false
theorem NE {yb:Nat->Bool} {x:Nat × Bool}: ∀{m:List (Nat × Bool)},Pz x m=true->gP yb m->yb x.1=x.2
 |[],h,_=>by simp [Pz]at h
 |y::l,h,hg=>by
  simp only [Pz]at h;cases hb:(Nat.beq x.1 y.1 && (x.2==y.2))with
  |true=>
   simp only [cd,beq_iff_eq]at hb;rw [bv hb.1,hb.2];exact hg.1
  |false=>simp only [hb,bu]at h;exact NE h hg.2
theorem Av {yb:Nat->Bool} {m:List (Nat × Bool)} (hg:gP yb m): ∀{l:List (Nat × Bool)},wu l m=true->gP yb l
 |[],_=>trivial
 |x::l,h=>by
  simp only [wu]at h;cases hb:Pz x m with
  |true=>simp only [hb,bt]at h;exact⟨NE hb hg,Av hg h⟩
  |false=>simp [hb]at h
def Lu (s:Slots):Operand->Option Qv
 | .tmp t=>s t
 | .const v=>match Q8 v with|some d=>some ⟨[], .v (.one (.d d)),none⟩|none=>none
 | .func f=>some ⟨[], .v (.one (.d (.fn f 0 fun _=> .nilp))),none⟩
 | .global _=>none
def Ip (s:Slots) (g:List (Nat × Bool)):List Operand->Option (List TV)
 |[]=>some []
 |x::xs=>match Lu s x,Ip s g xs with
  |some e,some l=>bif wu e.g g then some (e.tv::l)else none
  |_,_=>none
structure Core where
 conds:List Prop
 ent:Qv
 hd:List (Nat × Option Ob)
 ft:List Nat
section
variable (Fc:Cl->List SV->List (Nat × Option Ob)->TV->List (Nat × Option Ob)->Prop) (T:List (Nat × TI)) (ops:List Oper) (yb:Nat->Bool) (an:Nat->iJ) (fr:Nat->Nat) (N:Nat)
def guardOf (s:Slots) (o:Oper):Option (List (Nat × Bool) × List Prop):=
 match o.guard with
 |none=>some ([],[])
 |some (j,want)=>
  match ops[j]? with
  |some oj=>match oj.dst with
   |some d=>match s d with
    |some ⟨gj, .v (.one (.d (.bool b))),some j'⟩=>bif Nat.beq j j' then some ((j,want)::gj,[b=yb j])else none
    |_=>none
   |none=>none
  |none=>none
def EH (s:Slots) (g:List (Nat × Bool)) (c a b:Operand):Option (List Prop × TV):=
 match Lu s c,Lu s a,Lu s b with
 |some ⟨gc, .v (.one (.d (.bool bc))),some jc⟩,some ⟨ga, .v (.one (.d (.bool x))),_⟩,some ⟨gb, .v (.one (.d (.bool y))),_⟩=>
  bif wu gc g && wu ga ((jc,true)::g) && wu gb ((jc,false)::g)then some ([bc=yb jc], .v (.one (.d (.bool (bif yb jc then x else y)))))else none
 |_,_,_=>none
def xU (g:List (Nat × Bool)) (l:List Prop):List Prop:=
 match g,l with
 |[],l=>l
 |_,[]=>[]
 |g,l=>[gP yb g->All l]
def Co (N:Nat):Option Nat->Bool
 |some d=>Nat.blt d N
 |none=>true
def wH {α:Type}:List α->Bool
 |[]=>true
 |_=>false
def core (i:Nat) (s:Slots) (h:Hp):Option Core:=
 match ops[i]? with
 |none=>none
 |some o=>
  match guardOf ops yb s o with
  |none=>none
  |some (g,c0)=>
   bif Co N o.dst then
    match o.op with
    | .pick c a b=>match EH yb s g c a b with
     |some (cs,tv)=>some ⟨c0++xU yb g cs,⟨g,tv,some i⟩,[],[]⟩
     |none=>none
    |_=>
     match an i with
     | .skip=>some ⟨c0++[¬ gP yb g],⟨g, .v (.one (.d (.bool false))),some i⟩,[],[]⟩
     |_=>
     match Ip s g o.op.operands.toList with
     |none=>none
     |some xs=>
      let ft:=foot (an i) (fr i) o.op xs
      match QH Fc T (fr i) (an i) o.op xs (ft.map h)with
      |none=>none
      |some E=>bif bZ (E.hd.map (·.1)) ft then some ⟨c0++(xU yb g E.conds++(bif wH g||wH E.hd then []else [gP yb g])),⟨g,E.tv,some i⟩,E.hd,ft⟩else none
   else none
def uo (s:Slots) (d:Option Nat) (e:Qv):Slots:=
 match d with
 |some d=>fun t=>bif Nat.beq t d then some e else s t
 |none=>s
structure RS where
 s:Slots
 h:Hp
def step (i:Nat) (r:RS):Option (List Prop × RS):=
 match core Fc T ops yb an fr N i r.s r.h with
 |some c=>some (c.conds,⟨uo r.s ((ops[i]?).bind (·.dst)) c.ent,upd r.h c.hd⟩)
 |none=>none
def run:List Nat->RS->Option (List Prop × RS)
 |[],r=>some ([],r)
 |i::l,r=>match step Fc T ops yb an fr N i r with
  |some (c,r1)=>match run l r1 with
   |some (c',r2)=>some (c++c',r2)
   |none=>none
  |none=>none
end
theorem aW: ∀{l m:List Prop},All (l++m)↔All l/\All m
 |[],m=>by simp [All]
 |c::l,m=>by simp [All,aW,and_assoc]
theorem Bd {yb:Nat->Bool} {g:List (Nat × Bool)} {l:List Prop} (h:All (xU yb g l)) (hg:gP yb g):All l:=by
 unfold xU at h;split at h;·exact h
 ·trivial
 ·exact h.1 hg
def MR (ρ:Nat->Option Pl) (F:Nat->Prop) (w:World) (yb:Nat->Bool) (e:Qv) (v:Value):Prop:=
 (gP yb e.g->bE ρ F w e.tv v)/\(¬ gP yb e.g->v=undef)
def Marks (B:Base) (F:Nat->Prop) (w:World) (ds:List Deferred):Prop:=
 B.mb<=B.w.heap.size/\ ∃Ds:List Nat,ds=Ds.map (fun D=>{target:= .collected D,args:= #[] })++B.df/\Ds.Nodup/\ ∀D∈Ds,F D/\B.mb<=D/\w.heap[D]? =some (.deferred (some []))
theorem Marks.gr {B:Base} {ρ ρ':Nat->Option Pl} {F F':Nat->Prop} {w w':World} {ds:List Deferred} (g:Gr ρ F w ρ' F' w') (h:Marks B F w ds):Marks B F' w' ds:=by
 obtain⟨h0,Ds,h1,h2,h3⟩:=h;exact⟨h0,Ds,h1,h2,fun D hD=> ⟨g.fz D (h3 D hD).1,(h3 D hD).2.1,by rw [g.mem D (h3 D hD).1];exact(h3 D hD).2.2⟩⟩
theorem Marks.none {B:Base} {F:Nat->Prop} {w:World} (h:B.mb<=B.w.heap.size) (hd:B.df=[]):Marks B F w []:=⟨h,[],hd.symm,List.nodup_nil,fun _ h=>by simp at h⟩
structure RC (B:Base) (yb:Nat->Bool) (N:Nat) (r:RS) (a:Act) (w:World):Prop where
 ex: ∃ρ F,Fr B ρ F w/\HI B ρ F w r.h/\(∀t e,r.s t=some e-> ∃v,a.tmps[t]? =some v/\MR ρ F w yb e v)/\Marks B F w a.defers
 sz:a.tmps.size=N
section
variable {P:Program} {B:Base} {T:List (Nat × TI)} {ops:Array Oper} {yb:Nat->Bool} {an:Nat->iJ} {fr:Nat->Nat} {N:Nat} {rd:Option Nat} {Q:Exit->Act->World->Prop}
theorem Dj {ρ:Nat->Option Pl} {F:Nat->Prop} {w:World} {s:Slots} {a:Act} (hs: ∀t e,s t=some e-> ∃v,a.tmps[t]? =some v/\MR ρ F w yb e v) {x:Operand} {e:Qv} (he:Lu s x=some e) (hg:gP yb e.g):
  bE ρ F w e.tv (a.eval x):=by
 cases x with
 |tmp t=>
  obtain⟨v,hv,hr⟩:=hs t e he;simp [Act.eval,hv];exact hr.1 hg
 |const v=>
  simp only [Lu]at he;split at he;·rename_i d hd;cases he;exact Ef hd
  ·cases he
 |func f=>simp only [Lu]at he;cases he;exact⟨[],rfl,rfl,by simp⟩
 |global g=>simp [Lu]at he
theorem FJ {ρ:Nat->Option Pl} {F:Nat->Prop} {w:World} {s:Slots} {a:Act} (hs: ∀t e,s t=some e-> ∃v,a.tmps[t]? =some v/\MR ρ F w yb e v) {g:List (Nat × Bool)} (hg:gP yb g):
  ∀{l:List Operand} {xs:List TV},Ip s g l=some xs->dG ρ F w xs (l.map a.eval)
 |[],xs,h=>by simp [Ip]at h;subst h;trivial
 |x::l,xs,h=>by
  simp only [Ip]at h;split at h
  ·rename_i e ys h1 h2;cases hb:wu e.g g with
   |false=>simp [hb]at h
   |true=>
    simp only [hb,bt]at h;cases h;exact⟨Dj hs h1 (Av hg hb),FJ hs hg h2⟩
  ·cases h
theorem nM {s:Slots} {d:Nat} {e:Qv} (t:Nat):uo s (some d) e t=if t=d then some e else s t:=by
 show(bif Nat.beq t d then some e else s t)=_;cases h:Nat.beq t d with
 |true=>simp [bv h]
 |false=>simp [Nat.ne_of_beq_eq_false h]
theorem Dx {r:RS} {a:Act} {w w':World} {ρ ρ':Nat->Option Pl} {F F':Nat->Prop} {h':Hp} {dst:Option Nat} {e:Qv} {v:Value} (hs: ∀t e,r.s t=some e-> ∃v,a.tmps[t]? =some v/\MR ρ F w yb e v)
  (sz:a.tmps.size=N) (dn:Marks B F w a.defers) (hd:Co N dst=true) (g:Gr ρ F w ρ' F' w') (f:Fr B ρ' F' w') (hi:HI B ρ' F' w' h') (hr:MR ρ' F' w' yb e v):
  RC B yb N ⟨uo r.s dst e,h'⟩ (a.put dst v) w':=by
 have old: ∀t e,r.s t=some e-> ∃v,a.tmps[t]? =some v/\MR ρ' F' w' yb e v:=fun t e ht=>by
  obtain⟨u,hu,h1,h2⟩:=hs t e ht;exact⟨u,hu,fun hg=>(h1 hg).gr g,h2⟩
 cases dst with
 |none=>exact⟨⟨ρ',F',f,hi,old,dn.gr g⟩,sz⟩
 |some d=>
  have hlt:d<N:=cj (n:=d+1) hd;refine⟨⟨ρ',F',f,hi,fun t e' ht=> ?_,dn.gr g⟩,by simp [Act.put,sz]⟩;have ht:uo r.s (some d) e t=some e':=ht;rw [nM]at ht;by_cases e0:t=d
  ·subst e0;rw [ci rfl]at ht;cases ht;exact⟨v,by simp [Act.put,sz,hlt],hr⟩
  ·rw [ce e0]at ht;obtain⟨u,hu,hr'⟩:=old t e' ht;exact⟨u,by simp only [Act.put];rw [Array.getElem?_setIfInBounds_ne (Ne.symm e0)];exact hu,hr'⟩
def Ya (Fc:Cl->List SV->List (Nat × Option Ob)->TV->List (Nat × Option Ob)->Prop) (P:Program) (T:List (Nat × TI)) (B:Base) (yb:Nat->Bool) (N:Nat) (rd:Option Nat) (Q:Exit->Act->World->Prop) (r:RS) (o:Oper) (an:iJ):Prop:=
 ∀{fresh:Nat} {xs:List TV} {obs:List (Option (Option Ob))} {E:Eff} {a:Act} {w:World} {ρ:Nat->Option Pl} {F:Nat->Prop} {K:Act->World->Prop},QH Fc T fresh an o.op xs obs=some E->All E.conds->
  obs=(foot an fresh o.op xs).map r.h->Fr B ρ F w->HI B ρ F w r.h->(∀t e,r.s t=some e-> ∃v,a.tmps[t]? =some v/\MR ρ F w yb e v)->Marks B F w a.defers->a.tmps.size=N->dG ρ F w xs (o.op.operands.toList.map a.eval)->
  (∀v ρ' F' w',Gr ρ F w ρ' F' w'->Fr B ρ' F' w'->HI B ρ' F' w' (upd r.h E.hd)->bE ρ' F' w' E.tv v->K (a.put o.dst v) w')->o.wpIn (FW rd) 0 P a w K Q
theorem Yv (hT:kg P T) (r:RS) (o:Oper) (an:iJ):Ya (vF P) P T B yb N rd Q r o an:=fun he hc hobs hf hi _ _ _ hx hK=>BD hT he hc hobs hf hi hx rd _ Q hK
theorem wE {Fc:Cl->List SV->List (Nat × Option Ob)->TV->List (Nat × Option Ob)->Prop} {i:Nat} {r r':RS} {cs:List Prop} {a:Act} {w:World} {K:Act->World->Prop} (hE: ∀o,ops[i]? =some o->Ya Fc P T B yb N rd Q r o (an i))
  (hst:step Fc T ops.toList yb an fr N i r=some (cs,r')) (hc:All cs) (hrc:RC B yb N r a w)
  (hK: ∀a' w',RC B yb N r' a' w'->K a' w'):wpOpIn (FW rd) 0 P ops Q i K a w:=by
 obtain⟨⟨ρ,F,hfr,hhi,hs,dn⟩,sz⟩:=hrc;unfold step at hst;split at hst
 ·rename_i c hcore;cases hst;unfold core at hcore;split at hcore
  ·cases hcore
  ·rename_i o ho;have ho':ops[i]? =some o:=by simpa using ho
   have hdst:(ops.toList[i]?).bind (·.dst)=o.dst:=by rw [ho];rfl
   rw [hdst]at hK;split at hcore;·cases hcore
   ·rename_i g c0 hgd;have hguard:All c0->((gP yb g/\Region.wanted o (yielded ops a.tmps)=true)\/(¬ gP yb g/\Region.wanted o (yielded ops a.tmps)=false)):=by
     intro hc0;unfold guardOf at hgd;split at hgd
     ·rename_i hno;cases hgd;left;exact⟨trivial,by simp [Region.wanted,hno]⟩
     ·rename_i j want hgo;split at hgd
      ·rename_i oj hoj;split at hgd
       ·rename_i d hd;split at hgd
        ·rename_i gj b j' hsd;cases hb:Nat.beq j j' with
         |false=>simp [hb]at hgd
         |true=>
          simp only [hb,bt]at hgd;cases hgd;obtain⟨hbj,_⟩:=hc0;obtain⟨v,hv,hr1,hr2⟩:=hs d _ hsd;have hoj':ops[j]? =some oj:=by simpa using hoj
          have hy:yielded ops a.tmps j=match v with| .bool b=>some b|_=>none:=by
           simp only [yielded,hoj',br,hd,hv];cases v<;>rfl
          have hw:Region.wanted o (yielded ops a.tmps)=(yielded ops a.tmps j==some want):=by simp [Region.wanted,hgo]
          by_cases hgj:gP yb gj
          ·have hvb:v= .bool b:=hr1 hgj;subst hvb;simp only at hy;by_cases hbw:b=want
           ·left;subst hbw;exact⟨⟨hbj.symm,hgj⟩,by rw [hw,hy];simp⟩
           ·right;exact⟨fun hh=>hbw (hbj.trans hh.1),by rw [hw,hy];simpa using hbw⟩
          ·have hvu:v=undef:=hr2 hgj;subst hvu;right;exact⟨fun hh=>hgj hh.2,by rw [hw,hy];simp [undef]⟩
        ·cases hgd
       ·cases hgd
      ·cases hgd
    cases hdok:Co N o.dst with
    |false=>simp [hdok]at hcore
    |true=>
     simp only [hdok,bt]at hcore;unfold wpOpIn;simp only [ho'];split at hcore
     ·-- pick
      rename_i x y z hop;split at hcore
      ·rename_i cs tv hpk;cases hcore;rw [aW]at hc;rcases hguard hc.1 with⟨hg,hw⟩|⟨hg,hw⟩
       ·simp only [hw,if_true];refine mQ rd (by rw [hop];rfl) ?_;have hcs:=Bd hc.2 hg;unfold EH at hpk;split at hpk
        ·rename_i gc bc jc ga p sa gb q sb h1 h2 h3;cases hb:(wu gc g && wu ga ((jc,true)::g) && wu gb ((jc,false)::g))with
         |false=>simp [hb]at hpk
         |true=>
          simp only [hb,bt]at hpk;cases hpk;simp only [cd]at hb;obtain⟨hbc,_⟩:=hcs;have hx:a.eval x= .bool bc:=Dj hs h1 (Av hg hb.1.1);have hres: ∃v,(execOp a.eval o).run P w= .ok (.value v) w/\v= .bool (bif yb jc then p else q):=by
           rw [<-hbc];cases bc with
           |true=>
            have hy:a.eval y= .bool p:=Dj hs h2 (Av (m:=(jc,true)::g) ⟨hbc.symm,hg⟩ hb.1.2);exact⟨_,by simp [execOp,hop,hx,asBool],hy⟩
           |false=>
            have hz:a.eval z= .bool q:=Dj hs h3 (Av (m:=(jc,false)::g) ⟨hbc.symm,hg⟩ hb.2);exact⟨_,by simp [execOp,hop,hx,asBool],hz⟩
          obtain⟨v,hrun,hv⟩:=hres;simp only [Oper.wp,hrun,Oper.upon];exact hK _ _ (Dx hs sz dn hdok (.refl _ _ _) hfr hhi ⟨fun _=>hv,fun hn=>absurd hg hn⟩)
        ·cases hpk
       ·simp only [hw];exact⟨fun _ _=>trivial,hK _ _ (Dx hs sz dn hdok (.refl _ _ _) hfr hhi ⟨fun hh=>absurd hh hg,fun _=>rfl⟩)⟩
      ·cases hcore
     ·split at hcore
      ·-- known not to be carried out
       cases hcore;rw [aW]at hc;rcases hguard hc.1 with⟨hg,hw⟩|⟨hg,hw⟩;·exact absurd hg hc.2.1
       ·simp only [hw];exact⟨fun _ _=>trivial,hK _ _ (Dx hs sz dn hdok (.refl _ _ _) hfr hhi ⟨fun hh=>absurd hh hg,fun _=>rfl⟩)⟩
      split at hcore;·cases hcore
      ·rename_i xs hxs;split at hcore
       ·cases hcore
       ·rename_i E hE';cases hb:bZ (E.hd.map (·.1)) (foot (an i) (fr i) o.op xs)with
        |false=>simp [hb]at hcore
        |true=>
         simp only [hb,bt]at hcore;cases hcore;rw [aW,aW]at hc;rcases hguard hc.1 with⟨hg,hw⟩|⟨hg,hw⟩
         ·simp only [hw,if_true];exact hE o ho' hE' (Bd hc.2.1 hg) rfl hfr hhi hs dn sz (FJ hs hg hxs) fun v ρ' F' w' g' f' hi' hr'=>
           hK _ _ (Dx hs sz dn hdok g' f' hi' ⟨fun _=>hr',fun hn=>absurd hg hn⟩)
         ·simp only [hw];have hnil:E.hd=[]:=by
           cases g with
           |nil=>exact absurd trivial hg
           |cons _ _=>
            cases hh:E.hd with
            |nil=>rfl
            |cons _ _=>
             have h2:=hc.2.2;rw [hh]at h2;exact absurd h2.1 hg
          rw [hnil]at hK;exact⟨fun _ _=>trivial,hK _ _ (Dx hs sz dn hdok (.refl _ _ _) hfr hhi ⟨fun hh=>absurd hh hg,fun _=>rfl⟩)⟩
 ·cases hst
theorem y7 (hT:kg P T) {i:Nat} {r r':RS} {cs:List Prop} {a:Act} {w:World} {K:Act->World->Prop} (hst:step (vF P) T ops.toList yb an fr N i r=some (cs,r')) (hc:All cs) (hrc:RC B yb N r a w)
  (hK: ∀a' w',RC B yb N r' a' w'->K a' w'):wpOpIn (FW rd) 0 P ops Q i K a w:=wE (fun o _=>Yv hT r o _) hst hc hrc hK
theorem Bo (hT:kg P T): ∀{l:List Nat} {r r':RS} {cs:List Prop} {a:Act} {w:World},run (vF P) T ops.toList yb an fr N l r=some (cs,r')->All cs->RC B yb N r a w->
  (∀a' w',RC B yb N r' a' w'->Q .normal a' w')->wpOpsIn (FW rd) 0 P ops Q l a w
 |[],r,r',cs,a,w,hr,hc,hrc,hQ=>by
  simp [run]at hr;obtain⟨rfl,rfl⟩:=hr;exact hQ a w hrc
 |i::l,r,r',cs,a,w,hr,hc,hrc,hQ=>by
  simp only [run]at hr;split at hr
  ·rename_i c r1 h1;split at hr
   ·rename_i c' r2 h2;cases hr;rw [aW]at hc;rw [wpOpsIn_cons];exact y7 hT h1 hc.1 hrc fun a' w' h'=>Bo hT h2 hc.2 h' hQ
   ·cases hr
  ·cases hr
end
section
variable (Fc:Cl->List SV->List (Nat × Option Ob)->TV->List (Nat × Option Ob)->Prop) (T:List (Nat × TI)) (ops:List Oper) (yb:Nat->Bool) (an:Nat->iJ) (fr:Nat->Nat) (N:Nat)
def tmpsOf:List Operand->List Nat
 |[]=>[]
 | .tmp t::l=>t::tmpsOf l
 |_::l=>tmpsOf l
def readsOf (o:Oper):List Nat:=
 (match o.guard with
  |some (j,_)=>match ops[j]? with|some oj=>(match oj.dst with|some d=>[d]|none=>[])|none=>[]
  |none=>[])++tmpsOf o.op.operands.toList
def Cw:List Nat->List Nat->Bool
 |[],_=>true
 |x::l,m=>bif fK x m then false else Cw l m
structure oV where
 ft:List Nat
 wr:List Nat
def Ie (d:Option Nat) (l:List Nat):Bool:=match d with|some d=> !(fK d l)|none=>true
def indep (info:Nat->oV) (i j:Nat):Bool:=
 match ops[i]?,ops[j]? with
 |some oi,some oj=>
  Ie oi.dst (readsOf ops oj) && Ie oj.dst (readsOf ops oi) && (match oi.dst,oj.dst with|some a,some b=> !(Nat.beq a b)|_,_=>true) &&
   (Cw (info i).wr (info j).ft && Cw (info j).wr (info i).ft)
 |_,_=>false
def wX:List Nat->RS->Option (List Prop × RS × List (Nat × oV))
 |[],r=>some ([],r,[])
 |i::l,r=>match core Fc T ops yb an fr N i r.s r.h with
  |some c=>match wX l ⟨uo r.s ((ops[i]?).bind (·.dst)) c.ent,upd r.h c.hd⟩with
   |some (c',r2,inf)=>some (c.conds++c',r2,(i,⟨c.ft,c.hd.map (·.1)⟩)::inf)
   |none=>none
  |none=>none
def Step (info:Nat->oV) (i:Nat) (r r':RS):Prop:=
 ∃c,core Fc T ops yb an fr N i r.s r.h=some c/\All c.conds/\c.ft=(info i).ft/\c.hd.map (·.1)=(info i).wr/\r'=⟨uo r.s ((ops[i]?).bind (·.dst)) c.ent,upd r.h c.hd⟩
def Steps (info:Nat->oV):List Nat->RS->RS->Prop
 |[],r,r'=>r'=r
 |i::l,r,r'=> ∃r1,Step Fc T ops yb an fr N info i r r1/\Steps info l r1 r'
end
section
variable {Fc:Cl->List SV->List (Nat × Option Ob)->TV->List (Nat × Option Ob)->Prop} {T:List (Nat × TI)} {ops:List Oper} {yb:Nat->Bool} {an:Nat->iJ} {fr:Nat->Nat} {N:Nat} {info:Nat->oV}
theorem Gx {s s':Slots} {x:Operand} (h: ∀t,x= .tmp t->s' t=s t):Lu s' x=Lu s x:=by
 cases x with
 |tmp t=>exact h t rfl
 |const _=>rfl
 |func _=>rfl
 |global _=>rfl
theorem FD {t:Nat}: ∀{l:List Operand}, .tmp t∈l->t∈tmpsOf l
 |[],h=>by simp at h
 |x::l,h=>by
  rcases eh.1 h with rfl|h;·simp [tmpsOf]
  ·have:=FD h;cases x<;>simp [tmpsOf,this]
theorem DK {s s':Slots} {g:List (Nat × Bool)}: ∀{l:List Operand},(∀t∈tmpsOf l,s' t=s t)->Ip s' g l=Ip s g l
 |[],_=>rfl
 |x::l,h=>by
  simp only [Ip];rw [Gx (s:=s) (s':=s') fun t e=>h t (by subst e;simp [tmpsOf]),DK (l:=l) fun t ht=>h t (by cases x<;>simp [tmpsOf,ht])]
theorem xP {α β:Type} {f g:α->β}: ∀{l:List α},(∀x∈l,f x=g x)->l.map f=l.map g
 |[],_=>rfl
 |x::l,h=>by rw [cL,cL,h x (by simp),xP fun y hy=>h y (by simp [hy])]
theorem D9 {i:Nat} {s s':Slots} {h h':Hp} {c:Core} (hc:core Fc T ops yb an fr N i s h=some c) (hs: ∀o,ops[i]? =some o-> ∀t∈readsOf ops o,s' t=s t) (hh: ∀b∈c.ft,h' b=h b):
  core Fc T ops yb an fr N i s' h'=some c:=by
 unfold core at hc ⊢;cases ho:ops[i]? with
 |none=>rw [ho]at hc;cases hc
 |some o=>
  have hs:=hs o ho;rw [ho]at hc;simp only at hc ⊢;have hg:guardOf ops yb s' o=guardOf ops yb s o:=by
   unfold guardOf;cases hgo:o.guard with
   |none=>rfl
   |some x=>
    obtain⟨j,want⟩:=x;simp only;cases hoj:ops[j]? with
    |none=>rfl
    |some oj=>
     simp only;cases hd:oj.dst with
     |none=>rfl
     |some d=>
      simp only;rw [hs d (by simp [readsOf,hgo,hoj,hd])]
  rw [hg];cases hgd:guardOf ops yb s o with
  |none=>rw [hgd]at hc;cases hc
  |some x=>
   obtain⟨g,c0⟩:=x;rw [hgd]at hc;simp only at hc ⊢;cases hdok:Co N o.dst with
   |false=>rw [hdok]at hc;simp at hc
   |true=>
    rw [hdok]at hc;simp only [bt]at hc ⊢;have hrd: ∀t∈tmpsOf o.op.operands.toList,s' t=s t:=fun t ht=>hs t (by simp only [readsOf,cz];exact .inr ht);split at hc
    ·rename_i x y z hop;have e1: ∀u,u∈[x,y,z]->Lu s' u=Lu s u:=fun u hu=>Gx fun t e=>hrd t (FD (by rw [hop,<-e];simpa [Op.operands]using hu));have hp:EH yb s' g x y z=EH yb s g x y z:=by
      unfold EH;rw [e1 x (by simp),e1 y (by simp),e1 z (by simp)]
     rw [hp];exact hc
    ·rename_i hnp;rw [DK hrd];split at hc
     ·cases hc;rfl
     split at hc;·cases hc
     ·rename_i xs hxs;split at hc
      ·cases hc
      ·rename_i E hE;cases hb:(bZ (E.hd.map (·.1)) (foot (an i) (fr i) o.op xs))with
       |false=>simp [hb]at hc
       |true=>
        simp only [hb,bt]at hc;cases hc;rw [xP (f:=h') (g:=h) fun b hb'=>hh b hb',hE];simp only [hb,bt]
theorem GV {i:Nat} {s:Slots} {h:Hp} {c:Core} (hc:core Fc T ops yb an fr N i s h=some c): ∀b∈c.hd.map (·.1),b∈c.ft:=by
 unfold core at hc;split at hc;·cases hc
 ·split at hc
  ·cases hc
  ·rename_i o _ _ g c0 _;cases hdok:Co N o.dst with
   |false=>rw [hdok]at hc;simp at hc
   |true=>
    rw [hdok]at hc;simp only [bt]at hc;split at hc
    ·split at hc
     ·cases hc;simp
     ·cases hc
    ·split at hc
     ·cases hc;simp
     split at hc;·cases hc
     ·rename_i xs _;split at hc
      ·cases hc
      ·rename_i E _;cases hb:(bZ (E.hd.map (·.1)) (foot (an i) (fr i) o.op xs))with
       |false=>simp [hb]at hc
       |true=>
        simp only [hb,bt]at hc;cases hc;exact bU.1 hb
theorem mU {x:Nat} {l:List Nat} (h:fK x l=false):x ∉ l:=fun hm=>by rw [jw.2 hm]at h;cases h
theorem ny: ∀{l m:List Nat},Cw l m=true-> ∀x∈l,x ∉ m
 |[],_,_,_,h=>by simp at h
 |y::l,m,h,x,hx=>by
  simp only [Cw]at h;cases hb:fK y m with
  |true=>simp [hb]at h
  |false=>
   simp only [hb,bu]at h;rcases eh.1 hx with rfl|hx;·exact mU hb
   ·exact ny h x hx
theorem QA {h:Hp} {l m:List (Nat × Option Ob)} (hd: ∀b∈l.map (·.1),b ∉ m.map (·.1)):upd (upd h l) m=upd (upd h m) l:=by
 funext b
 simp only [upd];cases hl:get l b with
 |none=>simp
 |some x=>
  have:get m b=none:=bL (hd b (Fh (by rw [hl];simp)));simp [this]
theorem OE {s:Slots} {d d':Option Nat} {e e':Qv} (h: ∀x y,d=some x->d'=some y->x≠y):uo (uo s d e) d' e'=uo (uo s d' e') d e:=by
 cases d with
 |none=>rfl
 |some x=>
  cases d' with
  |none=>rfl
  |some y=>
   have hne:=h x y rfl rfl
   funext t
   rw [nM,nM,nM,nM];by_cases e1:t=x;·subst e1;simp [hne]
   ·by_cases e2:t=y
    ·subst e2;simp [e1]
    ·simp [e1,e2]
theorem Lp {α:Type} {l:List α} (h:wH l=true):l=[]:=by cases l<;>first|rfl|cases h
theorem Py {i j:Nat} {r r1 r2:RS} (hin:indep ops info i j=true) (h1:Step Fc T ops yb an fr N info i r r1) (h2:Step Fc T ops yb an fr N info j r1 r2):
  ∃r1',Step Fc T ops yb an fr N info j r r1'/\Step Fc T ops yb an fr N info i r1' r2:=by
 obtain⟨c1,a1,a2,a3,a4,rfl⟩:=h1;obtain⟨c2,b1,b2,b3,b4,rfl⟩:=h2;unfold indep at hin;split at hin
 ·rename_i oi oj hoi hoj;simp only [cd]at hin;obtain⟨⟨⟨d1,d2⟩,d3⟩,d4,d5⟩:=hin;have hdi:(ops[i]?).bind (·.dst)=oi.dst:=by rw [hoi];rfl
  have hdj:(ops[j]?).bind (·.dst)=oj.dst:=by rw [hoj];rfl
  rw [hdi]at b1 ⊢;rw [hdj];have k1:=GV a1;have k2:=GV b1;have hne: ∀x y,oi.dst=some x->oj.dst=some y->x≠y:=fun x y ex ey e=>by
   rw [ex,ey]at d3;simp only at d3;have:Nat.beq x y=true:=by rw [e];exact Nat.beq_refl y
   rw [this]at d3;cases d3
  have hheap:(∀b∈c2.ft,upd r.h c1.hd b=r.h b)/\(∀b∈c1.ft,upd r.h c2.hd b=r.h b)/\upd (upd r.h c1.hd) c2.hd=upd (upd r.h c2.hd) c1.hd:=by
   rw [<-a4,<-b3]at d4;rw [<-b4,<-a3]at d5;have e1:=ny d4;have e2:=ny d5;refine⟨fun b hb=> ?_,fun b hb=> ?_,QA fun b hb hb'=>e1 b hb (k2 b hb')⟩;·simp only [upd];rw [bL fun hm=>e1 b hm hb]
   ·simp only [upd];rw [bL fun hm=>e2 b hm hb]
  have c2':core Fc T ops yb an fr N j r.s r.h=some c2:=by
   refine D9 b1 (fun o ho t ht=> ?_) fun b hb=>(hheap.1 b hb).symm;rw [hoj]at ho;cases ho;cases hd:oi.dst with
   |none=>rfl
   |some x=>
    show r.s t=uo r.s (some x) c1.ent t;rw [nM,ce];intro e;rw [hd]at d1;simp only [Ie,c_]at d1;exact mU d1 (e ▸ ht)
  have c1':core Fc T ops yb an fr N i (uo r.s oj.dst c2.ent) (upd r.h c2.hd)=some c1:=by
   refine D9 a1 (fun o ho t ht=> ?_) hheap.2.1;rw [hoi]at ho;cases ho;cases hd:oj.dst with
   |none=>rfl
   |some x=>
    rw [nM,ce];intro e;rw [hd]at d2;simp only [Ie,c_]at d2;exact mU d2 (e ▸ ht)
  refine⟨⟨uo r.s oj.dst c2.ent,upd r.h c2.hd⟩,⟨c2,c2',b2,b3,b4,by rw [hdj]⟩,⟨c1,c1',a2,a3,a4, ?_⟩⟩;rw [hdi,OE hne,hheap.2.2]
 ·cases hin
theorem Cv {x:Nat}: ∀{A l:List Nat} {r r':RS},(∀a∈A,indep ops info a x=true)->Steps Fc T ops yb an fr N info (A++x::l) r r'->Steps Fc T ops yb an fr N info (x::(A++l)) r r'
 |[],_,_,_,_,h=>h
 |a::A,l,r,r',hin,⟨r1,h1,h2⟩=>by
  obtain⟨r2,h3,h4⟩:=Cv (A:=A) (fun b hb=>hin b (by simp [hb])) h2;obtain⟨r1',h5,h6⟩:=Py (hin a (by simp)) h1 h3;exact⟨r1',h5,r2,h6,h4⟩
def xW (ops:List Oper) (cl:Nat->List Nat):Nat->Bool
 |0=>true
 |n+1=>xW ops cl n && (match ops[n]? with
  |some o=>(o.after.toList.all fun e=> !(Region.binds .any e)||(Nat.blt e.on n && bZ (cl e.on) (cl n) && fK e.on (cl n))) &&
    ((cl n).all fun x=>o.after.toList.any fun e=>Region.binds .any e && (Nat.beq x e.on||fK x (cl e.on)))
  |none=>false)
def l8 (ops:List Oper) (info:Nat->oV) (cl:Nat->List Nat):Nat->Bool
 |0=>true
 |n+1=>l8 ops info cl n && rowIndep n
 where
 rowIndep (x:Nat):Bool:=go x x
 go (x:Nat):Nat->Bool
  |0=>true
  |a+1=>go x a && (fK a (cl x)||indep ops info a x)
theorem xI {cl:Nat->List Nat}: ∀{n:Nat},l8 ops info cl n=true-> ∀x,x<n-> ∀a,a<x->a∈cl x\/indep ops info a x=true
 |0,_,x,hx,_,_=>by omega
 |n+1,h,x,hx,a,ha=>by
  simp only [l8,cd]at h;by_cases e:x=n
  ·subst e;have key: ∀m,l8.go ops info cl x m=true-> ∀a,a<m->a∈cl x\/indep ops info a x=true:=by
    intro m;induction m with
    |zero=>intro _ a ha;omega
    |succ m ih=>
     intro hm a ha;simp only [l8.go,cd,cN]at hm;by_cases e:a=m
     ·subst e;rcases hm.2 with h|h
      ·exact .inl (jw.1 h)
      ·exact .inr h
     ·exact ih hm.1 a (by omega)
   exact key x h.2 a ha
  ·exact xI h.1 x (by omega) a ha
theorem wQ {cl:Nat->List Nat}: ∀{n:Nat},xW ops cl n=true-> ∀x,x<n-> ∃o,ops[x]? =some o/\(∀y∈cl x,∃e∈o.after,Region.binds .any e=true/\e.on<x/\(y=e.on\/y∈cl e.on))
 |0,_,x,hx=>by omega
 |n+1,h,x,hx=>by
  simp only [xW,cd]at h;by_cases e:x=n
  ·subst e;have h2:=h.2;split at h2
   ·rename_i o ho;refine⟨o,ho,fun y hy=> ?_⟩;simp only [cd,List.all_eq_true,c6,cN]at h2;obtain⟨e,he,hb,hon⟩:=h2.2 y hy;have h3:=h2.1 e he;refine⟨e,by simpa using he,hb, ?_, ?_⟩
    ·rcases h3 with h3|h3
     ·rw [hb]at h3;cases h3
     ·exact cj (n:=e.on+1) h3.1.1
    ·rcases hon with hon|hon
     ·exact .inl (bv hon)
     ·exact .inr (jw.1 hon)
   ·cases h2
  ·exact wQ h.1 x (by omega)
end
section
variable {P:Program} {B:Base} {T:List (Nat × TI)} {ops:Array Oper} {yb:Nat->Bool} {an:Nat->iJ} {fr:Nat->Nat} {N:Nat} {rd:Option Nat} {info:Nat->oV} {Q:Exit->Act->World->Prop}
theorem Jw {cl:Nat->List Nat} {listed:Array Bool} (hcl:xW ops.toList cl ops.size=true)
  (hdown: ∀i o,ops[i]? =some o->listed.getD i true=true-> ∀e∈o.after,Region.binds .any e=true->listed.getD e.on false=true) (hsz:listed.size=ops.size):
  ∀x,x<ops.size->listed.getD x true=true-> ∀y∈cl x,listed.getD y false=true:=by
 intro x;induction x using Nat.strongRecOn with
 |_ x ih=>
  intro hx hl y hy;obtain⟨o,ho,hcl'⟩:=wQ hcl x hx;obtain⟨e,he,hb,hlt,hy'⟩:=hcl' y hy;have hon:=hdown x o (by simpa using ho) hl e he hb;rcases hy' with rfl|hy';·exact hon
  ·have hlt':e.on<ops.size:=by omega
   refine ih e.on hlt hlt' ?_ y hy';have h1:e.on<listed.size:=by omega
   simp [h1]at hon ⊢;exact hon
theorem Cf {n:Nat} {f live:Nat->Bool} (h:(List.range n).filter f=[]):(List.range n).filter (fun i=>f i && live i)=[]:=by
 rw [List.filter_eq_nil_iff]at h ⊢;intro x hx;have:=h x hx;simp at this ⊢;intro h1;rw [h1]at this;cases this
theorem EO {Fc:Cl->List SV->List (Nat × Option Ob)->TV->List (Nat × Option Ob)->Prop} {cl:Nat->List Nat} (live:Nat->Bool) (hcl:xW ops.toList cl ops.size=true) (hall: ∀x,x<ops.size->live x=true-> ∀a,a<x->live a=true->a∈cl x\/indep ops.toList info a x=true)
  (Inv:Array Bool->RS->Prop) (hlive: ∀listed r x,Inv listed r->listed.size=ops.size->x<ops.size->(∀y∈cl x,listed.getD y false=true)->live x=true) (hS: ∀listed r r1 x,Inv listed r->listed.size=ops.size->x<ops.size->listed.getD x true=false->(∀y∈cl x,listed.getD y false=true)->Step Fc T ops.toList yb an fr N info x r r1->
   ∀(K:Act->World->Prop) a w,RC B yb N r a w->(Inv (listed.setIfInBounds x true) r1-> ∀a' w',RC B yb N r1 a' w'->K a' w')->wpOpIn (FW rd) 0 P ops Q x K a w):
  ∀(fuel:Nat) (listed:Array Bool) (r r':RS) (a:Act) (w:World),listed.size=ops.size->Inv listed r->
   (∀i o,ops[i]? =some o->listed.getD i true=true-> ∀e∈o.after,Region.binds .any e=true->listed.getD e.on false=true)->
   ((List.range ops.size).filter fun i=> !listed.getD i true).length<=fuel->
   Steps Fc T ops.toList yb an fr N info ((List.range ops.size).filter fun i=> !listed.getD i true && live i) r r'->RC B yb N r a w->
   (∀listed' a' w',((List.range ops.size).filter fun i=> !listed'.getD i true)=[]->Inv listed' r'->RC B yb N r' a' w'->Q .normal a' w')->
   wpAnyIn (FW rd) 0 P .any ops Q fuel listed a w:=by
 intro fuel;have hready: ∀listed:Array Bool,Region.ready .any ops listed=[]->((List.range ops.size).filter fun i=> !listed.getD i true)=[]:=by
  intro listed hr;apply cM;intro hne;have hex: ∃x,x<ops.size/\listed.getD x true=false/\ ∀y,y<x->listed.getD y true=true:=by
   obtain⟨z,hz⟩:=List.exists_mem_of_ne_nil _ hne;rw [c8,cY]at hz;have key: ∀n z,z=n->z<ops.size->listed.getD z true=false-> ∃x,x<ops.size/\listed.getD x true=false/\ ∀y,y<x->listed.getD y true=true:=by
    intro n;induction n using Nat.strongRecOn with
    |_ n ih=>
     intro z hzn hz1 hz2;by_cases hmin: ∃y,y<z/\listed.getD y true=false
     ·obtain⟨y,hy1,hy2⟩:=hmin;exact ih y (by omega) y rfl (by omega) hy2
     ·refine⟨z,hz1,hz2,fun y hy=> ?_⟩;cases hb:listed.getD y true with
      |true=>rfl
      |false=>exact absurd ⟨y,hy,hb⟩ hmin
   exact key z z rfl hz.1 (by simpa using hz.2)
  obtain⟨x,hx,hxl,hmin⟩:=hex;obtain⟨o,ho,_⟩:=wQ hcl x hx;have ho':ops[x]? =some o:=by simpa using ho
  have hafter: ∀e∈o.after,Region.binds .any e=true->e.on<x:=by
   intro e he hb;have:xW ops.toList cl (x+1)=true:=by
    have mono: ∀n m,n<=m->xW ops.toList cl m=true->xW ops.toList cl n=true:=by
     intro n m hnm h;induction m with
     |zero=>
      have:n=0:=by omega
      subst this;exact h
     |succ m ih=>
      by_cases e:n=m+1;·subst e;exact h
      ·simp only [xW,cd]at h;exact ih (by omega) h.1
    exact mono _ _ (by omega) hcl
   simp only [xW,cd]at this;have h2:=this.2;rw [ho]at h2;simp only [cd,List.all_eq_true]at h2;have h3:=h2.1 e (by simpa using he);rw [hb]at h3;simp only [cD,Bool.false_or,cd]at h3;exact cj (n:=e.on+1) h3.1.1
  have:x∈Region.ready .any ops listed:=by
   rw [mem_ready];refine⟨hxl,o,ho',fun e he hb=> ?_⟩;have hlt:=hafter e he hb;have:=hmin e.on hlt;have hsome:listed.getD e.on true=true:=this;by_cases h1:e.on<listed.size;·simp [h1]at hsome ⊢;exact hsome
   ·-- beyond the list: then x would be listed
    have h2: ¬ x<listed.size:=by omega
    simp [h2]at hxl
  rw [hr]at this;simp at this
 induction fuel with
 |zero=>
  intro listed r r' a w hsz hinv hdown hlen hst hrc hQ;have hnil:((List.range ops.size).filter fun i=> !listed.getD i true)=[]:=List.eq_nil_of_length_eq_zero (by omega);refine⟨?_, ?_⟩
  ·unfold Region.ready;rw [List.filter_eq_nil_iff]at hnil ⊢;intro x hx;have:=hnil x hx;simp only [cd];intro ⟨h1,_⟩;exact this h1
  ·rw [Cf hnil]at hst;cases hst;exact hQ listed a w hnil hinv hrc
 |succ fuel ih=>
  intro listed r r' a w hsz hinv hdown hlen hst hrc hQ;refine⟨fun hr=> ?_,fun x hx=> ?_⟩
  ·have hnil:=hready listed hr;rw [Cf hnil]at hst;cases hst;exact hQ listed a w hnil hinv hrc
  ·rw [mem_ready]at hx;obtain⟨hxl,o,ho,hedge⟩:=hx;have hlt:x<ops.size:=(Array.getElem?_eq_some_iff.1 ho).1;have hpre: ∀y∈cl x,listed.getD y false=true:=fun y hy=>by
    obtain⟨o',ho',hcl'⟩:=wQ hcl x hlt;have:o'=o:=by
     have e1:ops[x]? =some o':=by simpa using ho'
     rw [ho]at e1;cases e1;rfl
    subst this;obtain⟨e,he,hb,hlt',hy'⟩:=hcl' y hy;have hon:=hedge e he hb;rcases hy' with rfl|hy';·exact hon
    ·refine Jw hcl hdown hsz e.on (by omega) ?_ y hy';have h1:e.on<listed.size:=by omega
     simp [h1]at hon ⊢;exact hon
   have hlx:=hlive listed r x hinv hsz hlt hpre;have hmem:x∈(List.range ops.size).filter fun i=> !listed.getD i true && live i:=by
    rw [c8,cY];exact⟨hlt,by simp [hxl,hlx]⟩
   have hmem':x∈(List.range ops.size).filter fun i=> !listed.getD i true:=by
    rw [c8,cY];exact⟨hlt,by simp [hxl]⟩
   obtain⟨A,l,hAl⟩:=List.append_of_mem hmem;have hsorted:((List.range ops.size).filter fun i=> !listed.getD i true && live i).Pairwise (· < ·):=List.Pairwise.filter _ List.pairwise_lt_range;rw [hAl]at hsorted hst;have hA: ∀a∈A,a<x:=fun a ha=>(List.pairwise_append.1 hsorted).2.2 a ha x (by simp);have hAu: ∀a∈A,listed.getD a true=false/\live a=true:=fun a ha=>by
    have:a∈(List.range ops.size).filter fun i=> !listed.getD i true && live i:=by rw [hAl];simp [ha]
    rw [c8]at this;simpa using this.2
   have hind: ∀a∈A,indep ops.toList info a x=true:=fun a ha=>by
    rcases hall x hlt hlx a (hA a ha) (hAu a ha).2 with hc|hi
    ·-- a is before x: it would be listed
     exfalso;have hla:=hpre a hc;have:=(hAu a ha).1;have h1:a<listed.size:=by have:=hA a ha;omega
     simp [h1]at hla this;rw [hla]at this;cases this
    ·exact hi
   obtain⟨r1,hst1,hrest⟩:=Cv hind hst;have hst0:=hst1;have hfil:((List.range ops.size).filter fun i=> !(listed.setIfInBounds x true).getD i true && live i)=A++l:=by
    have hnd:((List.range ops.size).filter fun i=> !listed.getD i true && live i).Nodup:=List.Pairwise.filter _ List.nodup_range;have e1:((List.range ops.size).filter fun i=> !(listed.setIfInBounds x true).getD i true && live i)=((List.range ops.size).filter fun i=> !listed.getD i true && live i).filter fun i=>i !=x:=by
     rw [List.filter_filter];apply List.filter_congr;intro i hi;by_cases e:i=x
     ·subst e;have:i<listed.size:=by omega
      simp [this]
     ·rw [getD_set_ne true (Ne.symm e)];simp [e]
    rw [e1,hAl,List.filter_append,List.filter_cons];rw [hAl]at hnd;have hxA:x ∉ A:=fun h=>by have:=hA x h;omega
    have hxl':x ∉ l:=(cA.1 (List.nodup_append.1 hnd).2.1).1;have f1:A.filter (fun i=>i !=x)=A:=List.filter_eq_self.2 fun y hy=>by simpa using fun(e:y=x)=>hxA (e ▸ hy)
    have f2:l.filter (fun i=>i !=x)=l:=List.filter_eq_self.2 fun y hy=>by simpa using fun(e:y=x)=>hxl' (e ▸ hy)
    rw [f1,f2];simp
   have hless:((List.range ops.size).filter fun i=> !(listed.setIfInBounds x true).getD i true).length<((List.range ops.size).filter fun i=> !listed.getD i true).length:=by
    have e1:((List.range ops.size).filter fun i=> !(listed.setIfInBounds x true).getD i true)=((List.range ops.size).filter fun i=> !listed.getD i true).filter fun i=>i !=x:=by
     rw [List.filter_filter];apply List.filter_congr;intro i hi;by_cases e:i=x
     ·subst e;have:i<listed.size:=by omega
      simp [this]
     ·rw [getD_set_ne true (Ne.symm e)];simp [e]
    rw [e1];exact List.length_filter_lt_length_iff_exists.2 ⟨x,hmem',by simp⟩
   refine hS listed r r1 x hinv hsz hlt hxl hpre hst0 _ a w hrc fun hinv' a' w' hrc'=>ih (listed.setIfInBounds x true) _ r' a' w' (by simp [hsz]) hinv' (fun i o' ho' hli e he hb=> ?_) (by omega) (by rw [hfil];exact hrest) hrc' hQ;by_cases e:i=x
   ·subst e;rw [ho]at ho';cases ho';exact getD_set_true (hedge _ he hb)
   ·rw [getD_set_ne true (Ne.symm e)]at hli;exact getD_set_true (hdown i o' ho' hli _ he hb)
theorem Od (hT:kg P T) {cl:Nat->List Nat} (hcl:xW ops.toList cl ops.size=true) (hall:l8 ops.toList info cl ops.size=true) (fuel:Nat) (listed:Array Bool) (r r':RS) (a:Act) (w:World) (hsz:listed.size=ops.size)
  (hdown: ∀i o,ops[i]? =some o->listed.getD i true=true-> ∀e∈o.after,Region.binds .any e=true->listed.getD e.on false=true) (hlen:((List.range ops.size).filter fun i=> !listed.getD i true).length<=fuel)
  (hst:Steps (vF P) T ops.toList yb an fr N info ((List.range ops.size).filter fun i=> !listed.getD i true) r r') (hrc:RC B yb N r a w) (hQ: ∀a' w',RC B yb N r' a' w'->Q .normal a' w'):wpAnyIn (FW rd) 0 P .any ops Q fuel listed a w:=
 EO (T:=T) (Fc:=vF P) (info:=info) (an:=an) (fr:=fr) (fun _=>true) hcl (fun x hx _ a ha _=>xI hall x hx a ha) (fun _ _=>True) (fun _ _ _ _ _ _ _=>rfl) (fun _ r r1 x _ _ _ _ _ ⟨c,c1,c2,_,_,e⟩ K a w hrc hK=>y7 hT (by unfold step;rw [c1]) c2 hrc fun a' w' h=>hK trivial a' w' (e ▸ h)) fuel listed r r' a w hsz trivial hdown hlen (by simpa using hst) hrc fun _ a' w' _ _ h=>hQ a' w' h
theorem qF {Fc:Cl->List SV->List (Nat × Option Ob)->TV->List (Nat × Option Ob)->Prop} {opl:List Oper}: ∀{l:List Nat} {r r':RS} {cs:List Prop} {inf:List (Nat × oV)},wX Fc T opl yb an fr N l r=some (cs,r',inf)->All cs->l.Nodup->
  (∀i x,get inf i=some x->info i=x)->Steps Fc T opl yb an fr N info l r r'
 |[],r,r',cs,inf,h,_,_,_=>by simp [wX]at h;obtain⟨rfl,rfl,rfl⟩:=h;rfl
 |i::l,r,r',cs,inf,h,hc,hnd,hinf=>by
  simp only [wX]at h;split at h
  ·rename_i c hcore;split at h
   ·rename_i c' r2 inf' h2;cases h;rw [aW]at hc;have hi:info i=⟨c.ft,c.hd.map (·.1)⟩:=hinf i _ (by rw [aC,ci rfl]);refine⟨_,⟨c,hcore,hc.1,by rw [hi],by rw [hi],rfl⟩,qF h2 hc.2 (cA.1 hnd).2 fun j x hj=> ?_⟩;have hkeys: ∀{l r r' cs inf},wX Fc T opl yb an fr N l r=some (cs,r',inf)-> ∀j x,get inf j=some x->j∈l:=by
     intro l;induction l with
     |nil=>intro r r' cs inf h j x hj;simp [wX]at h;obtain⟨_,_,rfl⟩:=h;simp [get]at hj
     |cons y l ih=>
      intro r r' cs inf h j x hj;simp only [wX]at h;split at h
      ·split at h
       ·rename_i h3;cases h;rw [aC]at hj;split at hj
        ·rename_i e;simp [e]
        ·exact cm _ (ih h3 j x hj)
       ·cases h
      ·cases h
    have hjl:=hkeys h2 j x hj;apply hinf;rw [aC,ce (fun(e:i=j)=>(cA.1 hnd).1 (e ▸ hjl))];exact hj
   ·cases h
  ·cases h
end
structure St where
 slots:List (Nat × TV)
 heap:List (Nat × Option Ob)
structure Conc (B:Base) (N:Nat) (L:List Nat) (st:St) (a:Act) (w:World):Prop where
 ex: ∃ρ F,Fr B ρ F w/\HI B ρ F w (aP st.heap)/\(∀t tv,get st.slots t=some tv-> ∃v,a.tmps[t]? =some v/\bE ρ F w tv v)/\Marks B F w a.defers
 ids: ∀b p,B.ρ b=some p->b∈L
 sz:a.tmps.size=N
def jV (rd:Option Nat) (P:Program) (B:Base) (N:Nat) (L:List Nat) (c:Code) (Q:Exit->St->Prop) (st:St):Prop:=
 ∀a w,Conc B N L st a w->c.wpIn (FW rd) 0 P (fun e a' w'=> ∃st',Q e st'/\Conc B N L st' a' w') a w
def lm (st:St):RS:=⟨fun t=>match get st.slots t with|some tv=>some ⟨[],tv,none⟩|none=>none,aP st.heap⟩
structure Fin where
 frz:List Nat
 ren:List (Nat × Nat)
def Li (b:Bool):Option Bool:=bif b then some true else none
def Dg:EV->DV
 | .d x=>x
 | .row _ esz len el=> .sl none esz len el
def Kl:List (Option (List Prop × CV))->Option (List Prop × List CV)
 |[]=>some ([],[])
 |some (p,c)::l=>match Kl l with|some (q,cs)=>some (p++q,c::cs)|none=>none
 |none::_=>none
def fnC (f:FuncId) (nf n:Nat) (cs:List CV):CV:=
 match nf,o8 cs with
 |0,some ds=> .d (.fn f n (yS ds))
 |_,_=> .fn f nf n fun j=>cs.getD j (.d .nilp)
def nQ (f:Fin) (h:Hp):CV->Option (List Prop × CV)
 | .d x=>some ([], .d x)
 | .ptr b off=>
  bif fK b f.frz then
   match h b with
   |some (some (.cells _ cs))=>match o8 cs with|some ds=>some ([], .d (.ip (ds.length - off) fun j=>ds.getD (off+j) .nilp))|none=>none
   |some (some (.fcells _ ds))=>some ([], .d (.ip (ds.length - off) fun j=>ds.getD (off+j) .nilp))
   |_=>none
  else match get f.ren b with|some b'=>some ([], .ptr b' off)|none=>none
 | .opt b e i off=>bif fK b f.frz then none else match get f.ren b with|some b'=>some ([], .opt b' e i off)|none=>none
 | .own b nn len=>
  bif fK b f.frz then
   match h b with
   |some (some (.arr _ esz len' el))=>some ([len=len'], .d (.sl (Li nn) esz len el))
   |some (some (.rows _ esz len' el none))=>some ([len=len'], .d (.sl (Li nn) esz len fun i j=>Dg (el i j)))
   |_=>none
  else match get f.ren b with|some b'=>some ([], .own b' nn len)|none=>none
 | .mp b=>bif fK b f.frz then none else match get f.ren b with|some b'=>some ([], .mp b')|none=>none
 | .yl b=>bif fK b f.frz then none else match get f.ren b with|some b'=>some ([], .yl b')|none=>none
 | .fn g nf n cap=>match Kl ((List.range n).map fun j=>nQ f h (cap j))with
  |some (p,cs)=>some (p,fnC g nf n cs)
  |none=>none
def Ei (f:Fin) (h:Hp):List CV->Option (List Prop × List CV)
 |[]=>some ([],[])
 |c::cs=>match nQ f h c,Ei f h cs with
  |some (p,c'),some (q,cs')=>some (p++q,c'::cs')
  |_,_=>none
def CZ (f:Fin) (h:Hp):SV->Option (List Prop × SV)
 | .one c=>match nQ f h c with|some (p,c')=>some (p, .one c')|none=>none
 | .agg cs=>match Ei f h cs with|some (p,cs')=>some (p, .agg cs')|none=>none
def wB (f:Fin) (h:Hp):List SV->Option (List Prop × List SV)
 |[]=>some ([],[])
 |c::cs=>match CZ f h c,wB f h cs with
  |some (p,c'),some (q,cs')=>some (p++q,c'::cs')
  |_,_=>none
def zf (f:Fin) (h:Hp):TV->Option (List Prop × TV)
 | .v s=>match CZ f h s with|some (p,s')=>some (p, .v s')|none=>none
 | .eB l=>match wB f h l with|some (p,l')=>some (p, .eB l')|none=>none
def xD (f:Fin) (h:Hp):List (Nat × TV)->Option (List Prop × List (Nat × TV))
 |[]=>some ([],[])
 |(t,tv)::l=>match zf f h tv,xD f h l with
  |some (p,tv'),some (q,l')=>some (p++q,(t,tv')::l')
  |_,_=>none
def EN (f:Fin) (h:Hp) (s:Slots):List Nat->Option (List Prop × List (Nat × TV))
 |[]=>some ([],[])
 |t::ts=>match s t,EN f h s ts with
  |some ⟨[],tv,_⟩,some (q,l)=>match zf f h tv with
   |some (p,tv')=>some (p++q,(t,tv')::l)
   |none=>none
  |_,_=>none
def lX (f:Fin) (h:Hp):Ob->Option (List Prop × Ob)
 | .cells E cs=>match Ei f h cs with|some (p,cs')=>some (p, .cells E cs')|none=>none
 | .fcells E ds=>some ([], .fcells E ds)
 | .frow fu E esz len el=>some ([], .frow fu E esz len el)
 | .arr E esz len el=>some ([], .arr E esz len el)
 | .rows E esz len el none=>some ([], .rows E esz len el none)
 | .rows E esz len el (some (i,j,c))=>match nQ f h c with|some (p,c')=>some (p, .rows E esz len el (some (i,j,c')))|none=>none
 | .map m=>bif m.ms.all (fun b=> !fK b f.frz && (match get f.ren b with|some b'=>Nat.beq b b'|none=>false))then some ([], .map m)else none
 | .loop r st sl=>match xD f h sl with|some (p,sl')=>some (p, .loop r st sl')|none=>none
 | .gm K V E l none=>some ([], .gm K V E l none)
 | .gm K V E l (some (n,c))=>match nQ f h c with|some (p,c')=>some (p, .gm K V E l (some (n,c')))|none=>none
 | .coll=>some ([], .coll)
 | .suf b l esz=>bif fK b f.frz then none else match get f.ren b with|some b'=>some ([], .suf b' l esz)|none=>none
def Br (f:Fin) (h:Hp):List (Nat × Nat)->Option (List Prop × List (Nat × Option Ob))
 |[]=>some ([],[])
 |(b,b')::l=>match h b,Br f h l with
  |some none,some (q,m)=>some (q,(b',none)::m)
  |some (some ob),some (q,m)=>bif fK b f.frz then some (q,(b',none)::m)else match lX f h ob with
   |some (p,ob')=>some (p++q,(b',some ob')::m)
   |none=>none
  |_,_=>none
def rY:List Nat->Bool
 |[]=>true
 |x::l=> !(fK x l) && rY l
def Dt (L:List Nat) (f:Fin):Bool:=
 rY (f.ren.map (·.1)) && rY (f.ren.map (·.2)) && L.all fun b=>match get f.ren b with|some b'=>Nat.beq b b'|none=>false
theorem wo: ∀{l:List Nat},rY l=true->l.Nodup
 |[],_=>List.nodup_nil
 |x::l,h=>by
  simp only [rY,cd,c_]at h;exact cA.2 ⟨mU h.1,wo h.2⟩
section
variable {B:Base} {ρ:Nat->Option Pl} {F:Nat->Prop} {w:World} {h:Hp} {f:Fin} {ft:Nat->Nat->Prop}
def yI (ρ:Nat->Option Pl) (ren:List (Nat × Nat)):Nat->Option Pl:=fun b'=>match ren.find? (fun p=>Nat.beq p.2 b')with|some p=>ρ p.1|none=>none
def xZ (ft:Nat->Nat->Prop) (F:Nat->Prop) (h:Hp) (frz:List Nat):Nat->Prop:=fun k=>F k\/ ∃b ob,b∈frz/\h b=some (some ob)/\ft b k
theorem zF {ren:List (Nat × Nat)} (hn:(ren.map (·.2)).Nodup) {b b':Nat} (hg:(b,b')∈ren):yI ρ ren b'=ρ b:=by
 unfold yI;induction ren with
 |nil=>simp at hg
 |cons p ren ih=>
  rw [cL,cA]at hn;rw [List.find?_cons];rcases eh.1 hg with rfl|hg;·simp
  ·cases hb:Nat.beq p.2 b' with
   |true=>
    exfalso;have:=bv hb;exact hn.1 (this ▸ List.mem_map_of_mem (f:=(·.2)) hg)
   |false=>simpa using ih hn.2 hg
theorem get_mem {α:Type}: ∀{l:List (Nat × α)} {b:Nat} {x:α},get l b=some x->(b,x)∈l
 |[],_,_,h=>by simp [get]at h
 |(k,v)::l,b,x,h=>by
  rw [aC]at h;split at h;·rename_i e;cases h;subst e;simp
  ·exact cm _ (get_mem h)
theorem get_of_mem {α:Type}: ∀{l:List (Nat × α)} {b:Nat} {x:α},(l.map (·.1)).Nodup->(b,x)∈l->get l b=some x
 |[],_,_,_,h=>by simp at h
 |(k,v)::l,b,x,hn,h=>by
  rw [cL,cA]at hn;rw [aC];rcases eh.1 h with e|h;·cases e;simp
  ·rw [ce]
   ·exact get_of_mem hn.2 h
   ·intro e;subst e;exact hn.1 (List.mem_map_of_mem (f:=(·.1)) h)
theorem Km: ∀{l:List (Option (List Prop × CV))} {p:List Prop} {cs:List CV},Kl l=some (p,cs)->All p->cs.length=l.length/\ ∀(j:Nat) (c:CV),cs[j]? =some c-> ∃q:List Prop,l[j]? =some (some (q,c))/\All q
 |[],p,cs,h,_=>by simp [Kl]at h;obtain⟨rfl,rfl⟩:=h;simp
 |none::_,p,cs,h,_=>by simp [Kl]at h
 |some (p0,c0)::l,p,cs,h,hp=>by
  simp only [Kl]at h;split at h
  ·rename_i q cs' h1;cases h;rw [aW]at hp;obtain⟨e1,e2⟩:=Km h1 hp.2;refine⟨by simp [e1],fun j c hj=> ?_⟩;cases j with
   |zero=>simp at hj;subst hj;exact⟨p0,rfl,hp.1⟩
   |succ j=>simp at hj;obtain⟨q,x1,x2⟩:=e2 j c hj;exact⟨q,by simpa using x1,x2⟩
  ·cases h
theorem U3 {ρ':Nat->Option Pl} {F':Nat->Prop} {g:FuncId} {nf n:Nat} {cs:List CV} {vs:List Value} (hn:vs.length=n) (hl:cs.length=n) (hr: ∀(j:Nat) (u:Value),vs[j]? =some u-> ∃c,cs[j]? =some c/\dK ρ' F' w c u):
  dK ρ' F' w (fnC g nf n cs) (.func (.func g) (vs.take nf).toArray (vs.drop nf).toArray):=by
 unfold fnC;split
 ·rename_i ds hds;have hcs:=gF hds;refine⟨vs,by simp,hn,fun j u hu=> ?_⟩;obtain⟨c,hc,hr⟩:=hr j u hu;rw [hcs,dj]at hc;cases hd:ds[j]? with
  |none=>rw [hd]at hc;cases hc
  |some d=>
   rw [hd]at hc;cases hc;show bG F' w (ds.getD j .nilp) u;rw [cS,hd];exact hr
 ·refine⟨vs,rfl,hn,fun j u hu=> ?_⟩;obtain⟨c,hc,hr⟩:=hr j u hu;show dK ρ' F' w (cs.getD j (.d .nilp)) u;rw [cS,hc];exact hr
theorem VF {F':Nat->Prop} {S:Nat->Prop} {rb:Option Nat} (hF: ∀k,F k->F' k) (hS: ∀k,S k->F' k): ∀{x:EV} {v:Value},fC F w S rb x v->bG F' w (Dg x) v
 | .d _,_,h=>bG.gr hF (fun _ _=>rfl) h
 | .row E esz len el,_, .inl ⟨h0,h⟩=> ⟨none,0,by rw [h,h0],by simp,by simp,fun _=> ⟨h0,rfl⟩,by omega,by simp⟩
 | .row E esz len el,_, .inr ⟨k,base,cap,h1,h2,h3,vs,h4,h5,h6,h7,h8⟩=> ⟨some ⟨k,base,none⟩,cap,h3,by simp,by simp,by simp,h6,fun ad ha=>by
   cases ha;refine⟨fun _=>rfl,fun i hi j hj=> ⟨hS k h2, ?_⟩⟩;obtain⟨u,hu,hr⟩:=h8 i hi j hj;exact⟨u,by rw [bS h4];exact hu,bG.gr hF (fun _ _=>rfl) hr⟩⟩
theorem AR (hn:(f.ren.map (·.2)).Nodup) (hi:mg B ρ F w h ft): ∀{c c':CV} {p:List Prop} {v:Value},nQ f h c=some (p,c')->All p->dK ρ F w c v->dK (yI ρ f.ren) (xZ ft F h f.frz) w c' v:=by
 have hF: ∀k,F k->xZ ft F h f.frz k:=fun k hk=> .inl hk;have hfr: ∀{b:Nat} {ob:Ob},fK b f.frz=true->h b=some (some ob)-> ∀k,ft b k->xZ ft F h f.frz k:=fun hm hob k hk=> .inr ⟨_,_,jw.1 hm,hob,hk⟩;have ren: ∀{b b':Nat},get f.ren b=some b'->yI ρ f.ren b'=ρ b:=fun hg=>zF hn (get_mem hg);intro c;induction c with
 |d x=>intro c' p v he _ hr;simp [nQ]at he;obtain⟨rfl,rfl⟩:=he;exact bG.gr hF (fun _ _=>rfl) hr
 |ptr b off=>
  intro c' p v he hp hr;simp only [nQ]at he;cases hm:fK b f.frz with
  |false=>
   simp only [hm,bu]at he;split at he
   ·rename_i b' hg;cases he;obtain⟨k,base,cap,hk,hv⟩:=hr;exact⟨k,base,cap,by rw [ren hg];exact hk,hv⟩
   ·cases he
  |true=>
   simp only [hm,bt]at he;obtain⟨k,base,cap,hk,hv⟩:=hr;split at he
   ·rename_i E cs hob;split at he
    ·rename_i ds hds;cases he;obtain⟨k',cap',vs,x1,x0,x2,x3⟩:=hi.obj b _ hob;rw [hk]at x1;cases x1;rw [gF hds]at x3;refine⟨⟨k,0+off,none⟩,hv,rfl,fun j hj=> ⟨hfr hm hob k x0, ?_⟩⟩;have hlt:off+j<ds.length:=by omega
     obtain⟨u,hu,hru⟩:=x3.get (j:=off+j) (c:= .d (ds.getD (off+j) .nilp)) (by rw [dj,cS,cR hlt];rfl);exact⟨u,by rw [bS x2,cC];exact hu,bG.gr hF (fun _ _=>rfl) hru⟩
    ·cases he
   ·rename_i E ds hob;cases he;obtain⟨k',base',cap',x1,x2⟩:=hi.obj b _ hob;rw [hk]at x1;cases x1;refine⟨⟨k,base+off,none⟩,hv,rfl,fun j hj=> ?_⟩;have hlt:off+j<ds.length:=by omega
    obtain⟨y1,u,y2,y3⟩:=x2 (off+j) (ds.getD (off+j) .nilp) (by rw [cS,cR hlt];rfl);exact⟨hF _ y1,u,by rw [ec];exact y2,bG.gr hF (fun _ _=>rfl) y3⟩
   ·cases he
 |opt b esz i off=>
  intro c' p v he hp hr;simp only [nQ]at he;cases hm:fK b f.frz with
  |true=>simp [hm]at he
  |false=>
   simp only [hm,bu]at he;split at he
   ·rename_i b' hg;cases he;obtain⟨k,base,cap,hk,hv⟩:=hr;exact⟨k,base,cap,by rw [ren hg];exact hk,hv⟩
   ·cases he
 |own b nn len=>
  intro c' p v he hp hr;simp only [nQ]at he;cases hm:fK b f.frz with
  |false=>
   simp only [hm,bu]at he;split at he
   ·rename_i b' hg;cases he;rcases hr with⟨k,base,cap,hk,hv⟩|⟨h0,hk,hl,hv⟩
    ·exact .inl ⟨k,base,cap,by rw [ren hg];exact hk,hv⟩
    ·exact .inr ⟨h0,by rw [ren hg];exact hk,hl,hv⟩
   ·cases he
  |true=>
   simp only [hm,bt]at he;have nn1:Li nn=some true->nn=true:=fun e=>by cases nn<;>simp [Li]at e ⊢
   have nn2:Li nn≠some false:=fun e=>by cases nn<;>simp [Li]at e
   have nilw: ∀(esz:Nat) (g:Nat->Nat->DV),nn=false->len=0->v= .slice none 0 0->bG (xZ ft F h f.frz) w (.sl (Li nn) esz len g) v:=fun esz g h0 hl hv=>
    ⟨none,0,by rw [hv,hl],(fun e=>by rw [nn1 e]at h0;cases h0),(fun e=>absurd e nn2),fun _=> ⟨hl,rfl⟩,by omega,by simp⟩
   split at he
   ·rename_i E esz len' el hob;cases he;obtain⟨rfl,_⟩:=hp;rcases hr with⟨k,base,cap,hk,hv⟩|⟨h0,hk,hl,hv⟩
    ·rcases hi.obj b _ hob with⟨x1,_⟩|⟨k',base',cap',x1,x0,vs,x2,x3,x4,x5,x6⟩
     ·rw [hk]at x1;cases x1
     ·rw [hk]at x1;cases x1;refine⟨some ⟨k,base,none⟩,cap,hv,by simp,fun e=>absurd e nn2,by simp,x4,fun ad ha=> ?_⟩;cases ha;refine⟨fun _=>rfl,fun i hi' j hj=> ⟨hfr hm hob k x0, ?_⟩⟩;obtain⟨u,hu,hru⟩:=x6 i hi' j hj;exact⟨u,by rw [bS x2];exact hu,bG.gr hF (fun _ _=>rfl) hru⟩
    ·exact nilw esz el h0 hl hv
   ·rename_i E esz len' el hob;cases he;obtain⟨rfl,_⟩:=hp;rcases hr with⟨k,base,cap,hk,hv⟩|⟨h0,hk,hl,hv⟩
    ·rcases hi.obj b _ hob with⟨x1,_⟩|⟨k',base',cap',vs,rb,x1,x0,x2,x3,x4,x5,x6,x7⟩
     ·rw [hk]at x1;cases x1
     ·rw [hk]at x1;cases x1;refine⟨some ⟨k,base,none⟩,cap,hv,by simp,fun e=>absurd e nn2,by simp,x4,fun ad ha=> ?_⟩;cases ha;refine⟨fun _=>rfl,fun i hi' j hj=> ⟨hfr hm hob k x0, ?_⟩⟩;obtain⟨u,hu,hru⟩:=x6 i hi' j hj;have hru:fC F w (ft b) (rb i j) (el i j) u:=hru;exact⟨u,by rw [bS x2];exact hu,VF hF (hfr hm hob) hru⟩
    ·exact nilw esz _ h0 hl hv
   ·cases he
 |mp b=>
  intro c' p v he hp hr;simp only [nQ]at he;cases hm:fK b f.frz with
  |true=>simp [hm]at he
  |false=>
   simp only [hm,bu]at he;split at he
   ·rename_i b' hg;cases he;obtain⟨k,base,cap,hk,hv⟩:=hr;exact⟨k,base,cap,by rw [ren hg];exact hk,hv⟩
   ·cases he
 |yl b=>
  intro c' p v he hp hr;simp only [nQ]at he;cases hm:fK b f.frz with
  |true=>simp [hm]at he
  |false=>
   simp only [hm,bu]at he;split at he
   ·rename_i b' hg;cases he;obtain⟨k,base,cap,hk,hv⟩:=hr;exact⟨k,base,cap,by rw [ren hg];exact hk,hv⟩
   ·cases he
 |fn g nf n cap ih=>
  intro c' p v he hp hr;simp only [nQ]at he;split at he
  ·rename_i p' cs hq;cases he;obtain⟨vs,rfl,hl,hr⟩:=hr;obtain⟨e1,e2⟩:=Km hq hp;simp at e1;refine U3 hl e1 fun j u hu=> ?_;have hj:j<n:=by rw [<-hl];exact(List.getElem?_eq_some_iff.1 hu).1
   have hg:=cR (l:=cs) (i:=j) (by omega);refine⟨_,hg, ?_⟩;obtain⟨q,x1,x2⟩:=e2 j _ hg;rw [dj,List.getElem?_range hj]at x1;simp at x1;exact ih j x1 x2 (hr j u hu)
  ·cases he
theorem D7 (hn:(f.ren.map (·.2)).Nodup) (hi:mg B ρ F w h ft): ∀{cs cs':List CV} {p:List Prop} {vs:List Value},Ei f h cs=some (p,cs')->All p->bO ρ F w cs vs->bO (yI ρ f.ren) (xZ ft F h f.frz) w cs' vs
 |[],cs',p,vs,he,_,hr=>by
  simp [Ei]at he;obtain⟨rfl,rfl⟩:=he
  match vs,hr with|[],_=>trivial
 |c::cs,cs',p,vs,he,hp,hr=>by
  simp only [Ei]at he;split at he
  ·rename_i p1 c1 p2 cs1 h1 h2;cases he;rw [aW]at hp
   match vs,hr with
   |v::vs,⟨hr1,hr2⟩=>exact⟨AR hn hi h1 hp.1 hr1,D7 hn hi h2 hp.2 hr2⟩
  ·cases he
theorem KW (hn:(f.ren.map (·.2)).Nodup) (hi:mg B ρ F w h ft) {s s':SV} {p:List Prop} {v:Value} (he:CZ f h s=some (p,s')) (hp:All p) (hr:fB ρ F w s v):fB (yI ρ f.ren) (xZ ft F h f.frz) w s' v:=by
 cases s with
 |one c=>
  simp only [CZ]at he;split at he;·rename_i h1;cases he;exact AR hn hi h1 hp hr
  ·cases he
 |agg cs=>
  simp only [CZ]at he;split at he
  ·rename_i h1;cases he;obtain⟨vs,e,hr⟩:=hr;exact⟨vs,e,D7 hn hi h1 hp hr⟩
  ·cases he
theorem BI (hn:(f.ren.map (·.2)).Nodup) (hi:mg B ρ F w h ft): ∀{cs cs':List SV} {p:List Prop} {vs:List Value},wB f h cs=some (p,cs')->All p->dm ρ F w cs vs->dm (yI ρ f.ren) (xZ ft F h f.frz) w cs' vs
 |[],cs',p,vs,he,_,hr=>by
  simp [wB]at he;obtain⟨rfl,rfl⟩:=he
  match vs,hr with|[],_=>trivial
 |c::cs,cs',p,vs,he,hp,hr=>by
  simp only [wB]at he;split at he
  ·rename_i p1 c1 p2 cs1 h1 h2;cases he;rw [aW]at hp
   match vs,hr with
   |v::vs,⟨hr1,hr2⟩=>exact⟨KW hn hi h1 hp.1 hr1,BI hn hi h2 hp.2 hr2⟩
  ·cases he
theorem KA (hn:(f.ren.map (·.2)).Nodup) (hi:mg B ρ F w h ft) {s s':TV} {p:List Prop} {v:Value} (he:zf f h s=some (p,s')) (hp:All p) (hr:bE ρ F w s v):bE (yI ρ f.ren) (xZ ft F h f.frz) w s' v:=by
 cases s with
 |v s=>
  simp only [zf]at he;split at he;·rename_i h1;cases he;exact KW hn hi h1 hp hr
  ·cases he
 |eB l=>
  simp only [zf]at he;split at he
  ·rename_i h1;cases he;obtain⟨vs,e,hr⟩:=hr;exact⟨vs,e,BI hn hi h1 hp hr⟩
  ·cases he
theorem HZ: ∀{l l':List (Nat × TV)} {p:List Prop},xD f h l=some (p,l')->All p-> ∀t tv',get l' t=some tv'-> ∃tv q,get l t=some tv/\zf f h tv=some (q,tv')/\All q
 |[],l',p,he,_,t,tv',hg=>by simp [xD]at he;obtain⟨rfl,rfl⟩:=he;simp [get]at hg
 |(t0,tv0)::l,l',p,he,hp,t,tv',hg=>by
  simp only [xD]at he;split at he
  ·rename_i p1 tv1 p2 l1 h1 h2;cases he;rw [aW]at hp;rw [aC]at hg;split at hg
   ·rename_i e;cases hg;subst e;exact⟨tv0,p1,by rw [aC,ci rfl],h1,hp.1⟩
   ·rename_i e;obtain⟨tv,q,x1,x2,x3⟩:=HZ h2 hp.2 t tv' hg;exact⟨tv,q,by rw [aC,ce e];exact x1,x2,x3⟩
  ·cases he
theorem dK.congr {ρ':Nat->Option Pl} {F':Nat->Prop} (hF: ∀k,F k->F' k): ∀{c:CV} {v:Value},(∀b∈c.bP,ρ' b=ρ b)->dK ρ F w c v->dK ρ' F' w c v:=by
 intro c;induction c with
 |d x=>intro v _ h;exact bG.gr hF (fun _ _=>rfl) h
 |ptr b off=>intro v hm h;obtain⟨k,base,cap,h,e⟩:=h;exact⟨k,base,cap,by rw [hm b (by simp [CV.bP])];exact h,e⟩
 |opt b esz i off=>intro v hm h;obtain⟨k,base,cap,h,e⟩:=h;exact⟨k,base,cap,by rw [hm b (by simp [CV.bP])];exact h,e⟩
 |own b nn len=>
  intro v hm h;rcases h with⟨k,base,cap,h,e⟩|⟨h0,h,e⟩;·exact .inl ⟨k,base,cap,by rw [hm b (by simp [CV.bP])];exact h,e⟩
  ·exact .inr ⟨h0,by rw [hm b (by simp [CV.bP])];exact h,e⟩
 |mp b=>intro v hm h;obtain⟨k,base,cap,h,e⟩:=h;exact⟨k,base,cap,by rw [hm b (by simp [CV.bP])];exact h,e⟩
 |yl b=>intro v hm h;obtain⟨k,base,cap,h,e⟩:=h;exact⟨k,base,cap,by rw [hm b (by simp [CV.bP])];exact h,e⟩
 |fn f nf n cap ih=>
  intro v hm h;obtain⟨vs,e,hl,h⟩:=h;refine⟨vs,e,hl,fun j u hu=>ih j (fun b hb=>hm b ?_) (h j u hu)⟩;have hj:j<n:=by rw [<-hl];exact(List.getElem?_eq_some_iff.1 hu).1
  exact List.mem_flatMap.2 ⟨j,cY.2 hj,hb⟩
theorem bO.congr {ρ':Nat->Option Pl} {F':Nat->Prop} (hF: ∀k,F k->F' k): ∀{cs:List CV} {vs:List Value},(∀b∈cs.flatMap CV.bP,ρ' b=ρ b)->bO ρ F w cs vs->bO ρ' F' w cs vs
 |[],[],_,h=>h
 |c::cs,_::_,hm,⟨h,t⟩=> ⟨h.congr hF fun b hb=>hm b (by simp [hb]),bO.congr hF (fun b hb=>hm b (by rw [List.flatMap_cons,cz];exact .inr hb)) t⟩
 |[],_::_,_,h=>h.elim
 |_::_,[],_,h=>h.elim
theorem fB.congr {ρ':Nat->Option Pl} {F':Nat->Prop} (hF: ∀k,F k->F' k): ∀{s:SV} {v:Value},(∀b∈s.bP,ρ' b=ρ b)->fB ρ F w s v->fB ρ' F' w s v
 | .one _,_,hm,h=>dK.congr hF hm h
 | .agg _,_,hm,⟨vs,e,h⟩=> ⟨vs,e,h.congr hF hm⟩
theorem SF (hn:(f.ren.map (·.2)).Nodup) (hi:mg B ρ F w h ft) {b b':Nat} {ob ob':Ob} {p:List Prop} (hb:(b,b')∈f.ren) (he:lX f h ob=some (p,ob')) (hp:All p) (hr:ig ρ F w (ft b) b ob):ig (yI ρ f.ren) (xZ ft F h f.frz) w (ft b) b' ob':=by
 have hF: ∀k,F k->xZ ft F h f.frz k:=fun k hk=> .inl hk;have ren:yI ρ f.ren b'=ρ b:=zF hn hb;have g0:Gr ρ F w ρ (xZ ft F h f.frz) w:=⟨fun _ _ h=>h,hF,fun _ _=>rfl⟩;cases ob with
 |cells E cs=>
  simp only [lX]at he;split at he
  ·rename_i q cs' h1;cases he;obtain⟨k,cap,vs,x1,x0,x2,x3⟩:=hr;exact⟨k,cap,vs,by rw [ren];exact x1,x0,x2,D7 hn hi h1 hp x3⟩
  ·cases he
 |fcells E ds=>
  simp [lX]at he;obtain⟨rfl,rfl⟩:=he;obtain⟨k,base,cap,x1,x2⟩:=hr;exact⟨k,base,cap,by rw [ren];exact x1,fun j x hx=>by obtain⟨y1,u,y2,y3⟩:=x2 j x hx;exact⟨hF _ y1,u,y2,bG.gr hF (fun _ _=>rfl) y3⟩⟩
 |frow fu E esz len el=>
  simp [lX]at he;obtain⟨rfl,rfl⟩:=he;obtain⟨k,base,cap,x1,x0,x2⟩:=hr;exact⟨k,base,cap,by rw [ren];exact x1,x0,fun i hi j hj=>by obtain⟨y1,u,y2,y3⟩:=x2 i hi j hj;exact⟨hF _ y1,u,y2,bG.gr hF (fun _ _=>rfl) y3⟩⟩
 |arr E esz len el=>
  simp [lX]at he;obtain⟨rfl,rfl⟩:=he;rcases hr with⟨x1,x2⟩|⟨k,base,cap,x1,x0,x2⟩;·exact .inl ⟨by rw [ren];exact x1,x2⟩
  ·exact .inr ⟨k,base,cap,by rw [ren];exact x1,x0,x2.keep g0 rfl⟩
 |rows E esz len el ov=>
  rcases hr with⟨x1,x2⟩|⟨k,base,cap,vs,rb,x1,x0,x2,x3,x4,x5,x6,x7⟩
  ·cases ov with
   |none=>simp [lX]at he;obtain⟨rfl,rfl⟩:=he;exact .inl ⟨by rw [ren];exact x1,x2⟩
   |some o=>
    obtain⟨i,j,c⟩:=o;simp only [lX]at he;split at he;·cases he;exact .inl ⟨by rw [ren];exact x1,x2⟩
    ·cases he
  ·cases ov with
   |none=>
    simp [lX]at he;obtain⟨rfl,rfl⟩:=he;refine .inr ⟨k,base,cap,vs,rb,by rw [ren];exact x1,x0,x2,x3,x4,x5,fun i hi' j hj=> ?_,x7⟩;obtain⟨u,hu,hr⟩:=x6 i hi' j hj;exact⟨u,hu,fC.keep g0 (fun _ h=>h) (fun _ _=>rfl) hr⟩
   |some o=>
    obtain⟨i0,j0,c⟩:=o;simp only [lX]at he;split at he
    ·rename_i q c' h1;cases he;refine .inr ⟨k,base,cap,vs,rb,by rw [ren];exact x1,x0,x2,x3,x4,x5,fun i hi' j hj=> ?_,x7⟩;obtain⟨u,hu,hr⟩:=x6 i hi' j hj;refine⟨u,hu, ?_⟩;unfold wC at hr ⊢;simp only at hr ⊢;split
     ·rename_i e;rw [ci e]at hr;exact AR hn hi h1 hp hr
     ·rename_i e;rw [ce e]at hr;exact fC.keep g0 (fun _ h=>h) (fun _ _=>rfl) hr
    ·cases he
 |map m=>
  simp only [lX]at he;cases hb2:(m.ms.all (fun b=> !fK b f.frz && (match get f.ren b with|some b'=>Nat.beq b b'|none=>false)))with
  |false=>rw [hb2]at he;cases he
  |true=>
   rw [hb2]at he;simp only [bt,Option.some.injEq,Prod.mk.injEq]at he;obtain⟨rfl,rfl⟩:=he;have hms: ∀x∈m.ms,yI ρ f.ren x=ρ x:=fun x hx=>by
    have:=List.all_eq_true.1 hb2 x hx;simp only [cd]at this;have h2:=this.2;split at h2;·rename_i b2 hg;have:=bv h2;subst this;exact zF hn (get_mem hg)
    ·cases h2
   obtain⟨k,base,cap,es,x1,x0,x2,x3,x5,x4⟩:=hr;refine⟨k,base,cap,es,by rw [ren];exact x1,x0,x2,x3,x5,fun i hi'=> ?_⟩;obtain⟨e,e1,e2,⟨s3,e3,e3'⟩,⟨s4,e4,e4'⟩⟩:=x4 i hi';refine⟨e,e1,e2,⟨s3,e3,e3'.congr hF fun x hx=> ?_⟩,s4,e4,e4'.congr hF fun x hx=>hms x ?_⟩
   ·rw [wU e3]at hx;obtain⟨c,hc,hx⟩:=List.mem_flatMap.1 hx;obtain⟨j,_,rfl⟩:=qY hc;simp [CV.bP]at hx
   ·rw [wU e4]at hx;obtain⟨c,hc,hx⟩:=List.mem_flatMap.1 hx;obtain⟨j,hj,rfl⟩:=qY hc;exact x5 i hi' j (by omega) x hx
 |loop r st sl=>
  simp only [lX]at he;split at he
  ·rename_i q sl' h1;cases he;obtain⟨k,base,cap,fn,tmps,D,x1,x0,x2,x3,x4,x5⟩:=hr;refine⟨k,base,cap,fn,tmps,D,by rw [ren];exact x1,x0,x2,x3,x4,fun t tv ht=> ?_⟩;obtain⟨tv0,q0,y1,y2,y3⟩:=HZ h1 hp t tv ht;obtain⟨v,z1,z2⟩:=x5 t tv0 y1;exact⟨v,z1,KA hn hi y2 y3 z2⟩
  ·cases he
 |gm K V E l ov=>
  obtain⟨k,base,cap,es,rb,x1,x0,x2,x3,x4,x5⟩:=hr;cases ov with
  |none=>
   simp [lX]at he;obtain⟨rfl,rfl⟩:=he;refine⟨k,base,cap,es,rb,by rw [ren];exact x1,x0,x2,x3,fun i hi'=> ?_,x5⟩;obtain⟨e,e1,e2,e3,e4⟩:=x4 i hi';refine⟨e,e1,e2,e3, ?_⟩;unfold uS at e4 ⊢;exact fC.keep g0 (fun _ h=>h) (fun _ _=>rfl) e4
  |some o=>
   obtain⟨n,c⟩:=o;simp only [lX]at he;split at he
   ·rename_i q c' h1;cases he;refine⟨k,base,cap,es,rb,by rw [ren];exact x1,x0,x2,x3,fun i hi'=> ?_,x5⟩;obtain⟨e,e1,e2,e3,e4⟩:=x4 i hi';refine⟨e,e1,e2,e3, ?_⟩;unfold uS at e4 ⊢;simp only at e4 ⊢;split
    ·rename_i e;rw [ci e]at e4;exact AR hn hi h1 hp e4
    ·rename_i e;rw [ce e]at e4;exact fC.keep g0 (fun _ h=>h) (fun _ _=>rfl) e4
   ·cases he
 |coll=>
  simp [lX]at he;obtain⟨rfl,rfl⟩:=he;obtain⟨k,base,cap,x1,x0,x2⟩:=hr;exact⟨k,base,cap,by rw [ren];exact x1,x0,x2⟩
 |suf b0 l esz=>
  simp only [lX]at he;cases hm:fK b0 f.frz with
  |true=>rw [hm]at he;cases he
  |false=>
   rw [hm]at he;simp only [bu]at he;split at he
   ·rename_i b1 hg;cases he;have hb0:=zF (ρ:=ρ) hn (get_mem hg);rcases hr with⟨y1,y2,y3⟩|⟨k,base,cap,y1,y2,y3⟩
    ·exact .inl ⟨by rw [hb0];exact y1,by rw [ren];exact y2,y3⟩
    ·exact .inr ⟨k,base,cap,by rw [hb0];exact y1,y2,y3.mono fun p hp=>by rw [ren];exact hp⟩
   ·cases he
theorem Jt {s:Slots}: ∀{ts:List Nat} {p:List Prop} {l:List (Nat × TV)},EN f h s ts=some (p,l)->All p-> ∀t tv',get l t=some tv'-> ∃tv src q,s t=some ⟨[],tv,src⟩/\zf f h tv=some (q,tv')/\All q
 |[],p,l,he,_,t,tv',hg=>by simp [EN]at he;obtain⟨rfl,rfl⟩:=he;simp [get]at hg
 |t0::ts,p,l,he,hp,t,tv',hg=>by
  simp only [EN]at he;split at he
  ·rename_i tv src q0 l0 h1 h2;split at he
   ·rename_i p1 tv1 h3;cases he;rw [aW]at hp;rw [aC]at hg;split at hg
    ·rename_i e;cases hg;subst e;exact⟨tv,src,p1,h1,h3,hp.1⟩
    ·exact Jt h2 hp.2 t tv' hg
   ·cases he
  ·cases he
theorem K3: ∀{l:List (Nat × Nat)} {p:List Prop} {m:List (Nat × Option Ob)},Br f h l=some (p,m)->All p->
  (∀b' x,get m b'=some x-> ∃b,(b,b')∈l/\(x=none\/ ∃ob ob' q,x=some ob'/\h b=some (some ob)/\b ∉ f.frz/\lX f h ob=some (q,ob')/\All q))/\(∀b',get m b'=none->b' ∉ l.map (·.2))
 |[],p,m,he,_=>by simp [Br]at he;obtain⟨rfl,rfl⟩:=he;simp [get]
 |(b0,b0')::l,p,m,he,hp=>by
  have key: ∀(q:List Prop) (m0:List (Nat × Option Ob)) (x0:Option Ob),Br f h l=some (q,m0)->All q->m=(b0',x0)::m0->
    (x0=none\/ ∃ob ob' q,x0=some ob'/\h b0=some (some ob)/\b0 ∉ f.frz/\lX f h ob=some (q,ob')/\All q)->
    (∀b' x,get m b'=some x-> ∃b,(b,b')∈(b0,b0')::l/\(x=none\/ ∃ob ob' q,x=some ob'/\h b=some (some ob)/\b ∉ f.frz/\lX f h ob=some (q,ob')/\All q))/\(∀b',get m b'=none->b' ∉ ((b0,b0')::l).map (·.2)):=by
   intro q m0 x0 h2 hq hm hx;obtain⟨i1,i2⟩:=K3 h2 hq;subst hm;refine⟨fun b' x hg=> ?_,fun b' hg=> ?_⟩
   ·rw [aC]at hg;split at hg
    ·rename_i e;cases hg;subst e;exact⟨b0,by simp,hx⟩
    ·obtain⟨b,hb,hx'⟩:=i1 b' x hg;exact⟨b,by simp [hb],hx'⟩
   ·rw [aC]at hg;split at hg
    ·cases hg
    ·rename_i e;have:=i2 b' hg;rw [cL,eh];rintro (e'|e')
     ·exact e e'.symm
     ·exact this e'
  simp only [Br]at he;split at he
  ·rename_i q m0 h1 h2;cases he;exact key _ m0 none h2 hp rfl (.inl rfl)
  ·rename_i ob q m0 h1 h2;cases hm:fK b0 f.frz with
   |true=>simp only [hm,bt]at he;cases he;exact key _ m0 none h2 hp rfl (.inl rfl)
   |false=>
    simp only [hm,bu]at he;split at he
    ·rename_i p1 ob' h3;cases he;rw [aW]at hp;exact key _ m0 _ h2 hp.2 rfl (.inr ⟨ob,ob',p1,rfl,h1,mU hm,h3,hp.1⟩)
    ·cases he
  ·cases he
theorem QZ {N:Nat} {L:List Nat} {yb:Nat->Bool} {r:RS} {a:Act} {f:Fin} {ts:List Nat} {p q:List Prop} {sl:List (Nat × TV)} {hp:List (Nat × Option Ob)} (hrc:RC B yb N r a w) (hids: ∀b p,B.ρ b=some p->b∈L)
  (hok:Dt L f=true) (h1:EN f r.h r.s ts=some (p,sl)) (h2:Br f r.h f.ren=some (q,hp)) (c1:All p) (c2:All q):Conc B N L ⟨sl,hp⟩ a w:=by
 obtain⟨⟨ρ,F,hfr,⟨ft,hhi⟩,hs,dn⟩,sz⟩:=hrc;simp only [Dt,cd]at hok;obtain⟨⟨o1,o2⟩,o4⟩:=hok;have n1:=wo o1;have n2:=wo o2;have o4: ∀b∈L,get f.ren b=some b:=fun b hb=>by
  have:=List.all_eq_true.1 o4 b hb;split at this;·rename_i b' hg;rw [hg,bv this]
  ·cases this
 obtain⟨g1,g2⟩:=K3 h2 c2;have grm: ∀b b',(b,b')∈f.ren->yI ρ f.ren b'=ρ b:=fun b b' hb=>zF n2 hb;have live: ∀b' ob,get hp b'=some (some ob)-> ∃b ob0 q,(b,b')∈f.ren/\r.h b=some (some ob0)/\b ∉ f.frz/\lX f r.h ob0=some (q,ob)/\All q:=fun b' ob hg=>by
  obtain⟨b,hb,hx⟩:=g1 b' _ hg;rcases hx with hx|⟨ob0,ob',q,e1,e2,e3,e4,e5⟩;·cases hx
  ·cases e1;exact⟨b,ob0,q,hb,e2,e3,e4,e5⟩
 have old: ∀b',(∃b,(b,b')∈f.ren)-> ∃b,(b,b')∈f.ren:=fun _ h=>h;have hF: ∀k,F k->xZ ft F r.h f.frz k:=fun k hk=> .inl hk;have oldName: ∀{b b' c:Nat},(b,b')∈f.ren->(c,b')∈f.ren->b=c:=fun{b b' c} hb hc=>by
  have key: ∀(l:List (Nat × Nat)),(l.map (·.2)).Nodup->(b,b')∈l->(c,b')∈l->b=c:=by
   intro l;induction l with
   |nil=>intro _ h;simp at h
   |cons x l ih=>
    intro hn hb hc;rw [cL,cA]at hn;rcases eh.1 hb with e1|h1<;>rcases eh.1 hc with e2|h2;·rw [<-e1]at e2;cases e2;rfl
    ·exact absurd (List.mem_map_of_mem (f:=(·.2)) h2) (by rw [<-e1]at hn;exact hn.1)
    ·exact absurd (List.mem_map_of_mem (f:=(·.2)) h1) (by rw [<-e2]at hn;exact hn.1)
    ·exact ih hn.2 h1 h2
  exact key f.ren n2 hb hc
 refine⟨⟨yI ρ f.ren,xZ ft F r.h f.frz, ?_,⟨fun b' k=> ∃b,(b,b')∈f.ren/\ft b k, ?_⟩,fun t tv' hg=> ?_, ?_⟩,hids,sz⟩
 ·refine⟨hfr.os,hfr.tape,hfr.output,hfr.size,hfr.mem,fun b p hb=> ?_,fun k hk=> ?_,fun k hk=> .inl (hfr.bf k hk)⟩
  ·rw [grm b b (get_mem (o4 b (hids b p hb)))];exact hfr.rho b p hb
  ·rcases hk with hk|⟨b,ob,hb,hob,hk⟩
   ·exact hfr.fz k hk
   ·obtain⟨x1,_,x2⟩:=hhi.blk b ob k hob hk;exact⟨x1, .inr x2⟩
 ·refine⟨fun b' ob hg=> ?_,fun b' ob k hg hk=> ?_,fun b1 b2 ob1 ob2 k hg1 hg2 e1 e2=> ?_,fun b' hg=> ?_,fun x hx=> ⟨.inl (hhi.gl x hx).1,(hhi.gl x hx).2⟩⟩
  ·obtain⟨b,ob0,q,hb,hob,hnf,hfo,hq⟩:=live b' ob hg;have:=SF n2 hhi hb hfo hq (hhi.obj b ob0 hob);exact this.keep ⟨fun _ _ h=>h,fun _ h=>h,fun _ _=>rfl⟩ (fun k hk=> ⟨b,hb,hk⟩) (fun _ _=>rfl)
  ·obtain⟨b,ob0,q,hb,hob,hnf,hfo,hq⟩:=live b' ob hg;obtain⟨c,hc,hk⟩:=hk;rw [<-oldName hb hc]at hk;obtain⟨x1,x2,x3⟩:=hhi.blk b ob0 k hob hk;refine⟨x1,fun hf=> ?_,x3⟩;rcases hf with hf|⟨b2,ob2,y1,y2,y3⟩
   ·exact x2 hf
   ·exact hnf (hhi.dis b b2 ob0 ob2 k hob y2 hk y3 ▸ y1)
  ·obtain⟨c1,oc1,_,m1,l1,_⟩:=live b1 ob1 hg1;obtain⟨c2,oc2,_,m2,l2,_⟩:=live b2 ob2 hg2;obtain⟨d1,hd1,e1⟩:=e1;obtain⟨d2,hd2,e2⟩:=e2;rw [<-oldName m1 hd1]at e1;rw [<-oldName m2 hd2]at e2;have:=hhi.dis c1 c2 oc1 oc2 k l1 l2 e1 e2;subst this;have q1:=get_of_mem n1 m1;have q2:=get_of_mem n1 m2;rw [q1]at q2;cases q2;rfl
  ·have hno:=g2 b' hg;unfold yI;cases hf:f.ren.find? (fun p=>Nat.beq p.2 b')with
   |none=>rfl
   |some p=>
    exfalso;have hm:=List.mem_of_find?_eq_some hf;have hb:=List.find?_some hf;exact hno (bv hb ▸ List.mem_map_of_mem (f:=(·.2)) hm)
 ·obtain⟨tv,src,q',e1,e2,e3⟩:=Jt h1 c1 t tv' hg;obtain⟨v,hv,hr1,_⟩:=hs t _ e1;exact⟨v,hv,KA n2 hhi e2 e3 (hr1 trivial)⟩
 ·exact dn.gr (ρ:=ρ) (ρ':=ρ) ⟨fun _ _ h=>h,hF,fun _ _=>rfl⟩
end
theorem lF {B:Base} {N:Nat} {L:List Nat} {st:St} {a:Act} {w:World} {yb:Nat->Bool} (h:Conc B N L st a w):RC B yb N (lm st) a w:=by
 obtain⟨⟨ρ,F,hfr,hhi,hs,dn⟩,hid,sz⟩:=h;refine⟨⟨ρ,F,hfr,hhi,fun t e ht=> ?_,dn⟩,sz⟩;simp only [lm]at ht;split at ht
 ·rename_i tv hg;cases ht;obtain⟨v,hv,hr⟩:=hs t tv hg;exact⟨v,hv,fun _=>hr,fun hn=>absurd trivial hn⟩
 ·cases ht
theorem E8 {B:Base} {N:Nat} {L:List Nat} {st:St} {a:Act} {w:World} (h:Conc B N L st a w):Conc B N L st a {w with drawn:=w.drawn+1}:=by
 obtain⟨⟨ρ,F,hfr,⟨ft,hhi⟩,hs,dn⟩,hid,sz⟩:=h;have g:Gr ρ F w ρ F {w with drawn:=w.drawn+1}:=⟨fun _ _ h=>h,fun _ h=>h,fun _ _=>rfl⟩;refine⟨⟨ρ,F,⟨hfr.os,hfr.tape,⟨hfr.output.out,trivial⟩,hfr.size,hfr.mem,hfr.rho,hfr.fz,hfr.bf⟩,⟨ft,fun b ob hb=>(hhi.obj b ob hb).keep g (fun _ h=>h) fun _ _=>rfl,hhi.blk,hhi.dis,hhi.fresh,hhi.gl.gr g⟩,fun t tv ht=> ?_,dn.gr g⟩,hid,sz⟩;obtain⟨v,hv,hr⟩:=hs t tv ht;exact⟨v,hv,hr.gr g⟩
section
variable (Fc:Cl->List SV->List (Nat × Option Ob)->TV->List (Nat × Option Ob)->Prop) (T:List (Nat × TI))
structure vv where
 yb:Nat->Bool:=fun _=>false
 an:Nat->iJ:=fun _=> .none
 fr:Nat->Nat:=fun _=>0
 fin:Fin
 ts:List Nat
def finish (L:List Nat) (fin:Fin) (ts:List Nat) (cs:List Prop) (r:RS):Option (List Prop × St):=
 bif Dt L fin then
  match EN fin r.h r.s ts,Br fin r.h fin.ren with
  |some (p,sl),some (q,hp)=>some (cs++(p++q),⟨sl,hp⟩)
  |_,_=>none
 else none
def K9 (ops:Array Oper) (N:Nat) (L:List Nat) (x:vv) (st:St):Option (List Prop × St):=
 match run Fc T ops.toList x.yb x.an x.fr N (List.range ops.size) (lm st)with
 |some (cs,r)=>finish L x.fin x.ts cs r
 |none=>none
def rX (l:List (Nat × oV)) (i:Nat):oV:=match get l i with|some x=>x|none=> ⟨[],[]⟩
def Rs (ops:Array Oper) (N:Nat) (L:List Nat) (x:vv) (cl:List (Nat × List Nat)) (st:St):Option (List Prop × St):=
 match wX Fc T ops.toList x.yb x.an x.fr N (List.range ops.size) (lm st)with
 |some (cs,r,inf)=>
  let clf:Nat->List Nat:=fun i=>match get cl i with|some l=>l|none=>[]
  bif xW ops.toList clf ops.size && l8 ops.toList (rX inf) clf ops.size then finish L x.fin x.ts cs r else none
 |none=>none
end
section
variable {rd:Option Nat} {P:Program} {B:Base} {N:Nat} {L:List Nat} {T:List (Nat × TI)} {Q:Exit->St->Prop} {st st':St}
theorem eH {c:Code} {Q':Exit->St->Prop} (h:jV rd P B N L c Q st) (hq: ∀e st,Q e st->Q' e st):jV rd P B N L c Q' st:=
 fun a w hc=>wpIn_mono (h a w hc) fun e _ _ ⟨st',h1,h2⟩=> ⟨st',hq e st' h1,h2⟩
theorem lI {a:Act} {w:World} {yb:Nat->Bool} {fin:Fin} {ts:List Nat} {cs cs':List Prop} {r:RS} (hf:finish L fin ts cs r=some (cs',st')) (hc:All cs') (hrc:RC B yb N r a w) (hid: ∀b p,B.ρ b=some p->b∈L):Conc B N L st' a w:=by
 unfold finish at hf;cases hb:Dt L fin with
 |false=>simp [hb]at hf
 |true=>
  simp only [hb,bt]at hf;split at hf
  ·rename_i p sl q hp h1 h2;cases hf;rw [aW,aW]at hc;exact QZ hrc hid hb h1 h2 hc.2.1 hc.2.2
  ·cases hf
theorem oC {fin:Fin} {ts:List Nat} {cs cs':List Prop} {r:RS} (hf:finish L fin ts cs r=some (cs',st')) (hc:All cs'):All cs:=by
 unfold finish at hf;cases hb:Dt L fin with
 |false=>simp [hb]at hf
 |true=>
  simp only [hb,bt]at hf;split at hf;·cases hf;rw [aW]at hc;exact hc.1
  ·cases hf
theorem Ec (hT:kg P T) {id:Nat} {ops:Array Oper} (x:vv) {cs:List Prop} (he:K9 (vF P) T ops N L x st=some (cs,st')) (hc:All cs) (hQ:Q .normal st'):jV rd P B N L (.region id ops false) Q st:=by
 intro a w hconc;unfold K9 at he;split at he
 ·rename_i cs0 r hrun;have hid:=hconc.ids;exact wpIn_region (Bo hT hrun (oC he hc) (lF hconc) fun a' w' hrc=> ⟨st',hQ,lI he hc hrc hid⟩)
 ·cases he
theorem tV (hT:kg P T) (hm:P.follows .mixedOrders=true) {id:Nat} {ops:Array Oper} (x:vv) (cl:List (Nat × List Nat)) {cs:List Prop} (he:Rs (vF P) T ops N L x cl st=some (cs,st')) (hc:All cs) (hQ:Q .normal st'):
  jV rd P B N L (.region id ops true) Q st:=by
 intro a w hconc;unfold Rs at he;split at he
 ·rename_i cs0 r inf hrun;have hid:=hconc.ids;simp only at he;cases hb:(xW ops.toList (fun i=>match get cl i with|some l=>l|none=>[]) ops.size && l8 ops.toList (rX inf) (fun i=>match get cl i with|some l=>l|none=>[]) ops.size)with
  |false=>rw [hb]at he;simp at he
  |true=>
   rw [hb]at he;simp only [bt]at he;simp only [cd]at hb;refine wpIn_region_any hm (Od (info:=rX inf) (yb:=x.yb) (an:=x.an) (fr:=x.fr) hT hb.1 hb.2 ops.size _ (lm st) r a _ (by simp) (fun i o ho hl=> ?_) ?_ ?_ (lF (E8 hconc)) fun a' w' hrc=> ⟨st',hQ,lI he hc hrc hid⟩)
   ·have:i<ops.size:=(Array.getElem?_eq_some_iff.1 ho).1;simp [this]at hl
   ·refine dC (List.length_filter_le _ _) (by simp)
   ·have hall:((List.range ops.size).filter fun i=> !(Array.replicate ops.size false).getD i true)=List.range ops.size:=by
     rw [List.filter_eq_self];intro i hi;rw [cY]at hi;simp [hi]
    rw [hall];exact qF hrun (oC he hc) List.nodup_range fun i y hi=>by simp [rX,hi]
 ·cases he
theorem tH {x y:Code} (h:jV rd P B N L x (fun e st'=>match e with| .normal=>jV rd P B N L y Q st'|e=>Q e st') st):jV rd P B N L (.seq x y) Q st:=by
 intro a w hc;refine wpIn_seq (wpIn_mono (h a w hc) fun e a' w' hh=> ?_);obtain⟨st',h1,h2⟩:=hh;cases e with
 |normal=>exact h1 a' w' h2
 |exit id=>exact⟨st',h1,h2⟩
 |goto l=>exact⟨st',h1,h2⟩
 |ret=>exact⟨st',h1,h2⟩
 |panic c=>exact⟨st',h1,h2⟩
 |outgrown=>exact⟨st',h1,h2⟩
theorem Jv (h:Q .normal st):jV rd P B N L .skip Q st:=fun _ _ hc=>wpIn_skip ⟨st,h,hc⟩
theorem Gi {l:Nat} (h:Q .normal st):jV rd P B N L (.label l) Q st:=fun _ _ hc=>wpIn_label ⟨st,h,hc⟩
theorem Rj {id:Nat} (h:Q (.exit id) st):jV rd P B N L (.exit id) Q st:=fun _ _ hc=>wpIn_exit ⟨st,h,hc⟩
theorem Qn {l:Nat} (h:Q (.goto l) st):jV rd P B N L (.goto l) Q st:=fun _ _ hc=>wpIn_goto ⟨st,h,hc⟩
theorem Un (h:Q .ret st):jV rd P B N L .ret Q st:=fun _ _ hc=>wpIn_ret ⟨st,h,hc⟩
def Au (st:St):Operand->Option TV
 | .tmp t=>get st.slots t
 | .const v=>match Q8 v with|some d=>some (.v (.one (.d d)))|none=>none
 |_=>none
theorem Jg {a:Act} {ρ:Nat->Option Pl} {F:Nat->Prop} {w:World} (hs: ∀t tv,get st.slots t=some tv-> ∃v,a.tmps[t]? =some v/\bE ρ F w tv v) {x:Operand} {tv:TV} (h:Au st x=some tv):bE ρ F w tv (a.eval x):=by
 cases x with
 |tmp t=>
  obtain⟨v,hv,hr⟩:=hs t tv h;simp [Act.eval,hv];exact hr
 |const v=>
  simp only [Au]at h;split at h;·rename_i d hd;cases h;exact Ef hd
  ·cases h
 |func f=>simp [Au]at h
 |global g=>simp [Au]at h
theorem uW {c:Operand} {x y:Code} (b:Bool) (hb:Au st c=some (.v (.one (.d (.bool b))))) (ht:b=true->jV rd P B N L x Q st) (hf:b=false->jV rd P B N L y Q st):jV rd P B N L (.cond c x y) Q st:=by
 intro a w hc;obtain⟨ρ,F,hfr,hhi,hs,_⟩:=hc.ex;exact wpIn_cond_split (t:=b) (Jg hs hb) (fun e=>ht e a w hc) (fun e=>hf e a w hc)
theorem O5 {id:Nat} {c:Code} (h:jV rd P B N L c (fun e st'=>match e with| .exit id'=>if id'=id then Q .normal st' else Q (.exit id') st'|e=>Q e st') st):jV rd P B N L (.block id c) Q st:=by
 intro a w hc;refine wpIn_block (wpIn_mono (h a w hc) fun e a' w' hh=> ?_);obtain⟨st',h1,h2⟩:=hh;cases e with
 |exit id'=>
  simp only [Exit.inBlock];simp only at h1;split;·rename_i e;rw [ci e]at h1;exact⟨st',h1,h2⟩
  ·rename_i e;rw [ce e]at h1;exact⟨st',h1,h2⟩
 |normal=>exact⟨st',h1,h2⟩
 |goto l=>exact⟨st',h1,h2⟩
 |ret=>exact⟨st',h1,h2⟩
 |panic c=>exact⟨st',h1,h2⟩
 |outgrown=>exact⟨st',h1,h2⟩
theorem Qe {σ:Type} {c:Code} (S:σ->St) (I:σ->Prop) (μ:σ->Nat) (s:σ) (h0:I s)
  (round: ∀s,I s->jV rd P B N L c (fun e st'=>match e with| .normal=> ∃s',st'=S s'/\I s'/\μ s'<μ s|e=>Q e st') (S s)):jV rd P B N L (.loop c) Q (S s):=by
 intro a w hc;refine wpIn_loop_ghost (fun n a w=> ∃s,μ s=n/\I s/\Conc B N L (S s) a w) (μ s) ⟨s,rfl,h0,hc⟩ ?_;rintro n a w ⟨s,rfl,hI,hc⟩;refine wpIn_mono (round s hI a w hc) fun e a' w' hh=> ?_;obtain⟨st',h1,h2⟩:=hh;cases e with
 |normal=>
  obtain⟨s',rfl,hI',hlt⟩:=h1;exact⟨μ s',hlt,s',rfl,hI',h2⟩
 |exit id=>exact⟨st',h1,h2⟩
 |goto l=>exact⟨st',h1,h2⟩
 |ret=>exact⟨st',h1,h2⟩
 |panic c=>exact⟨st',h1,h2⟩
 |outgrown=>exact⟨st',h1,h2⟩
end
def lQ (x y:DV):Prop:= ∀F w v,bG F w x v->bG F w y v
def qm (x y:CV):Prop:= ∀ρ F w v,dK ρ F w x v->dK ρ F w y v
def zw (x y:SV):Prop:= ∀ρ F w v,fB ρ F w x v->fB ρ F w y v
def Ca (x y:TV):Prop:= ∀ρ F w v,bE ρ F w x v->bE ρ F w y v
def G6 (x y:Option Ob):Prop:=match x,y with
 |some x,some y=> ∀ρ F w S b,ig ρ F w S b x->ig ρ F w S b y
 |_,none=>True
 |_,_=>False
theorem lQ.refl (x:DV):lQ x x:=fun _ _ _ h=>h
theorem qm.refl (x:CV):qm x x:=fun _ _ _ _ h=>h
theorem zw.refl (x:SV):zw x x:=fun _ _ _ _ h=>h
theorem Ca.refl (x:TV):Ca x x:=fun _ _ _ _ h=>h
theorem G6.refl:(x:Option Ob)->G6 x x
 |none=>trivial
 |some _=>fun _ _ _ _ _ h=>h
theorem Ca.of {x y:TV} (h:x=y):Ca x y:=h ▸ .refl x
theorem zw.of {x y:SV} (h:x=y):zw x y:=h ▸ .refl x
theorem qm.of {x y:CV} (h:x=y):qm x y:=h ▸ .refl x
theorem lQ.of {x y:DV} (h:x=y):lQ x y:=h ▸ .refl x
theorem lQ.trans {x y z:DV} (h:lQ x y) (h':lQ y z):lQ x z:=fun F w v hr=>h' F w v (h F w v hr)
theorem qm.trans {x y z:CV} (h:qm x y) (h':qm y z):qm x z:=fun ρ F w v hr=>h' ρ F w v (h ρ F w v hr)
theorem qm.d {x y:DV} (h:lQ x y):qm (.d x) (.d y):=fun _ F w v hr=>h F w v hr
theorem zw.one {x y:CV} (h:qm x y):zw (.one x) (.one y):=fun ρ F w v hr=>h ρ F w v hr
theorem Ca.v {x y:SV} (h:zw x y):Ca (.v x) (.v y):=fun ρ F w v hr=>h ρ F w v hr
def KI:List CV->List CV->Prop
 |[],[]=>True
 |x::xs,y::ys=>qm x y/\KI xs ys
 |_,_=>False
def En:List SV->List SV->Prop
 |[],[]=>True
 |x::xs,y::ys=>zw x y/\En xs ys
 |_,_=>False
theorem KI.Oo {ρ:Nat->Option Pl} {F:Nat->Prop} {w:World}: ∀{xs ys:List CV} {vs:List Value},KI xs ys->bO ρ F w xs vs->bO ρ F w ys vs
 |[],[],_,_,h=>h
 |_::_,_::_,_::_,⟨h,t⟩,⟨h',t'⟩=> ⟨h _ _ _ _ h',KI.Oo t t'⟩
 |_::_,_::_,[],_,h=>h.elim
 |[],_::_,_,h,_=>h.elim
 |_::_,[],_,h,_=>h.elim
theorem En.Oo {ρ:Nat->Option Pl} {F:Nat->Prop} {w:World}: ∀{xs ys:List SV} {vs:List Value},En xs ys->dm ρ F w xs vs->dm ρ F w ys vs
 |[],[],_,_,h=>h
 |_::_,_::_,_::_,⟨h,t⟩,⟨h',t'⟩=> ⟨h _ _ _ _ h',En.Oo t t'⟩
 |_::_,_::_,[],_,h=>h.elim
 |[],_::_,_,h,_=>h.elim
 |_::_,[],_,h,_=>h.elim
theorem zw.agg {xs ys:List CV} (h:KI xs ys):zw (.agg xs) (.agg ys):=fun _ _ _ _ ⟨vs,e,hr⟩=> ⟨vs,e,h.Oo hr⟩
theorem Ca.eB {xs ys:List SV} (h:En xs ys):Ca (.eB xs) (.eB ys):=fun _ _ _ _ ⟨vs,e,hr⟩=> ⟨vs,e,h.Oo hr⟩
theorem lQ.sl {nn qQ:Option Bool} {esz len:Nat} {f g:Nat->Nat->DV} (hn:qQ=none\/qQ=nn) (h: ∀i,i<len-> ∀j,j<esz->lQ (f i j) (g i j)):lQ (.sl nn esz len f) (.sl qQ esz len g):=by
 rintro F w v ⟨a,cap,hv,h1,h2,h3,h4,h5⟩;refine⟨a,cap,hv, ?_, ?_,h3,h4,fun ad ha=> ⟨(h5 ad ha).1,fun i hi j hj=> ?_⟩⟩
 ·rcases hn with rfl|rfl
  ·intro e;cases e
  ·exact h1
 ·rcases hn with rfl|rfl
  ·intro e;cases e
  ·exact h2
 ·obtain⟨hf,u,hu,hr⟩:=(h5 ad ha).2 i hi j hj;exact⟨hf,u,hu,h i hi j hj F w u hr⟩
def Rz (sl:List (Nat × TV)):List (Nat × TV)->Prop
 |[]=>True
 |(t,tv')::l=>(∃tv,get sl t=some tv/\Ca tv tv')/\Rz sl l
theorem Rz.get {sl:List (Nat × TV)}: ∀{l:List (Nat × TV)},Rz sl l-> ∀{t:Nat} {tv':TV},get l t=some tv'-> ∃tv,Sg.get sl t=some tv/\Ca tv tv'
 |[],_,_,_,h=>by simp [Sg.get]at h
 |(k,v)::l,⟨h1,h2⟩,t,tv',h=>by
  rw [aC]at h;split at h;·rename_i e;cases h;subst e;exact h1
  ·exact Rz.get h2 h
def oo:List (Nat × Option Ob)->List (Nat × Option Ob)->Prop
 |[],[]=>True
 |(b,x)::l,(b',y)::l'=>b=b'/\G6 x y/\oo l l'
 |_,_=>False
theorem oo.refl:(l:List (Nat × Option Ob))->oo l l
 |[]=>trivial
 |(_,x)::l=> ⟨rfl, .refl x,oo.refl l⟩
theorem oo.get: ∀{l l':List (Nat × Option Ob)},oo l l'-> ∀b,(∀y,get l' b=some y-> ∃x,get l b=some x/\G6 x y)/\(get l' b=none->get l b=none)
 |[],[],_,b=>by simp [Sg.get]
 |(k,x)::l,(k',y)::l',⟨e,h1,h2⟩,b=>by
  subst e;rw [aC,aC];obtain⟨i1,i2⟩:=oo.get h2 b;by_cases e:k=b;·rw [ci e,ci e];exact⟨fun y' hy=>by cases hy;exact⟨x,rfl,h1⟩,by simp⟩
  ·rw [ce e,ce e];exact⟨i1,i2⟩
 |[],_::_,h,_=>h.elim
 |_::_,[],h,_=>h.elim
structure aav (st st':St):Prop where
 sl:Rz st.slots st'.slots
 hp:oo st.heap st'.heap
theorem HI.le {B:Base} {ρ:Nat->Option Pl} {F:Nat->Prop} {w:World} {l l':List (Nat × Option Ob)} (h:oo l l') (hi:HI B ρ F w (aP l)):HI B ρ F w (aP l'):=by
 have hex: ∀b ob',aP l' b=some (some ob')-> ∃ob,aP l b=some (some ob)/\G6 (some ob) (some ob'):=fun b ob' hb=>by
  obtain⟨x,hx,hle⟩:=(h.get b).1 _ hb;cases x with
  |none=>exact hle.elim
  |some x=>exact⟨x,hx,hle⟩
 obtain⟨ft,hi⟩:=hi;refine⟨ft,fun b ob hb=> ?_,fun b ob k hb=> ?_,fun b1 b2 o1 o2 k h1 h2=> ?_,fun b hb=>hi.fresh b ((h.get b).2 hb),hi.gl⟩;·obtain⟨x,hx,hle⟩:=hex b ob hb;exact hle _ _ _ _ _ (hi.obj b x hx)
 ·obtain⟨x,hx,_⟩:=hex b ob hb;exact hi.blk b x k hx
 ·obtain⟨x,hx,_⟩:=hex b1 o1 h1;obtain⟨y,hy,_⟩:=hex b2 o2 h2;exact hi.dis b1 b2 x y k hx hy
theorem Conc.le {B:Base} {N:Nat} {L:List Nat} {st st':St} {a:Act} {w:World} (h:aav st st') (hc:Conc B N L st a w):Conc B N L st' a w:=by
 obtain⟨⟨ρ,F,hfr,hhi,hs,dn⟩,hid,sz⟩:=hc;refine⟨⟨ρ,F,hfr,hhi.le h.hp,fun t tv' ht=> ?_,dn⟩,hid,sz⟩;obtain⟨tv,h1,h2⟩:=h.sl.get ht;obtain⟨v,hv,hr⟩:=hs t tv h1;exact⟨v,hv,h2 _ _ _ _ hr⟩
section
variable {rd:Option Nat} {P:Program} {B:Base} {N:Nat} {L:List Nat} {T:List (Nat × TI)} {Q:Exit->St->Prop} {st st':St}
def Uc (T:List (Nat × TI)) (st:St):ResultVar->Option (List Prop × SV)
 | .tmp t=>match get st.slots t with|some (.v s)=>some ([],s)|_=>none
 | .cell a t=>match get st.slots a,get T t with
  |some tv,some ti=>match zJ ti tv ((foot .none 0 (.load t (.tmp a)) [tv]).map (aP st.heap))with
   |some ⟨cs, .v s,_⟩=>some (cs,s)
   |_=>none
  |_,_=>none
def KX (T:List (Nat × TI)) (st:St):List ResultVar->Option (List Prop × List SV)
 |[]=>some ([],[])
 |r::rs=>match Uc T st r,KX T st rs with
  |some (p,s),some (q,l)=>some (p++q,s::l)
  |_,_=>none
def Jm:List SV->TV
 |[s]=> .v s
 |l=> .eB l
def Ep (T:List (Nat × TI)) (rs:List ResultVar) (res:TV) (hout:List (Nat × Option Ob)) (e:Exit) (st:St):Prop:=
 (e= .normal\/e= .ret)/\(∃p l,KX T st rs=some (p,l)/\All p/\Ca (Jm l) res)/\oo st.heap hout
theorem Ep.mk {rs:List ResultVar} {res:TV} {hout:List (Nat × Option Ob)} {e:Exit} {p:List Prop} {l:List SV} (he:e= .normal\/e= .ret) (h1:KX T st rs=some (p,l)) (h2:All p) (h3:Ca (Jm l) res) (h4:oo st.heap hout):
  Ep T rs res hout e st:=⟨he,⟨p,l,h1,h2,h3⟩,h4⟩
def Ql (tmps:Array Value):ResultVar->Sem Value
 | .tmp t=>pure (tmps.getD t undef)
 | .cell a t=>do loadVar t (<-asAddr (tmps.getD a undef))
theorem Eu (fn:Func) (tmps:Array Value):results fn tmps=(do
  let vs<-fn.results.mapM (Ql tmps)
  pure (if h:vs.size=1 then vs[0]else .tuple vs):Sem Value):=rfl
theorem QF (hT:kg P T) {ρ:Nat->Option Pl} {F:Nat->Prop} {w:World} {a:Act} (hi:HI B ρ F w (aP st.heap)) (hs: ∀t tv,get st.slots t=some tv-> ∃v,a.tmps[t]? =some v/\bE ρ F w tv v) {r:ResultVar} {p:List Prop} {s:SV}
  (h:Uc T st r=some (p,s)) (hp:All p): ∃v,(Ql a.tmps r).run P w= .ok v w/\fB ρ F w s v:=by
 cases r with
 |tmp t=>
  simp only [Uc]at h;split at h
  ·rename_i s' hg;cases h;obtain⟨v,hv,hr⟩:=hs t _ hg;exact⟨v,by simp [Ql,hv],hr⟩
  ·cases h
 |cell x t=>
  simp only [Uc]at h;split at h
  ·rename_i tv ti hg hti;split at h
   ·rename_i cs s' hd he;cases h;obtain⟨v,hv,hr⟩:=hs x _ hg;obtain⟨_,ad,u,e1,e2,e3⟩:=Js (x:= .tmp x) (hT.get hti) he hp rfl hi hr;exact⟨u,by simp [Ql,hv,e1,asAddr,e2],e3⟩
   ·cases h
  ·cases h
theorem Ff (hT:kg P T) {ρ:Nat->Option Pl} {F:Nat->Prop} {w:World} {a:Act} (hi:HI B ρ F w (aP st.heap)) (hs: ∀t tv,get st.slots t=some tv-> ∃v,a.tmps[t]? =some v/\bE ρ F w tv v): ∀{rs:List ResultVar} {p:List Prop} {l:List SV},
  KX T st rs=some (p,l)->All p-> ∃vs,(rs.mapM (Ql a.tmps)).run P w= .ok vs w/\dm ρ F w l vs
 |[],p,l,h,_=>by simp [KX]at h;obtain⟨rfl,rfl⟩:=h;exact⟨[],by simp,trivial⟩
 |r::rs,p,l,h,hp=>by
  simp only [KX]at h;split at h
  ·rename_i p1 s q l1 h1 h2;cases h;rw [aW]at hp;obtain⟨v,e1,e2⟩:=QF hT hi hs h1 hp.1;obtain⟨vs,e3,e4⟩:=Ff hT hi hs h2 hp.2;refine⟨v::vs, ?_,e2,e4⟩;rw [List.mapM_cons];simp only [eC,Sem.run_pure,e1,e3,eA]
  ·cases h
theorem dm.length {ρ:Nat->Option Pl} {F:Nat->Prop} {w:World}: ∀{cs:List SV} {vs:List Value},dm ρ F w cs vs->vs.length=cs.length
 |[],[],_=>rfl
 |_::_,_::_,⟨_,t⟩=>by simp [dm.length t]
 |[],_::_,h=>h.elim
 |_::_,[],h=>h.elim
def slotsOf:Nat->List SV->List (Nat × TV)
 |_,[]=>[]
 |i,s::l=>(i, .v s)::slotsOf (i+1) l
theorem qg {ρ:Nat->Option Pl} {F:Nat->Prop} {w:World}: ∀{args:List SV} {vs:List Value} {i:Nat},dm ρ F w args vs-> ∀t tv,get (slotsOf i args) t=some tv->i<=t/\ ∃v,vs[t - i]? =some v/\bE ρ F w tv v
 |[],_,_,_,t,tv,h=>by simp [slotsOf,get]at h
 |s::args,v::vs,i,⟨h1,h2⟩,t,tv,h=>by
  simp only [slotsOf]at h;rw [aC]at h;split at h;·rename_i e;cases h;subst e;exact⟨cx _,v,by simp,h1⟩
  ·obtain⟨e1,u,e2,e3⟩:=qg h2 t tv h;exact⟨by omega,u,by rw [show t - i=(t - (i+1))+1 by omega];simpa using e2,e3⟩
 |_::_,[],_,h,_,_,_=>h.elim
theorem bG.shrink {F F':Nat->Prop} {w:World} (hF: ∀k,F k->(∃c E f,w.heap[k]? =some (.cells c E f))->F' k): ∀{x:DV} {v:Value},bG F w x v->bG F' w x v:=by
 have cellk: ∀{k off:Nat} {s:Option Nat} {u:Value},w.cell? ⟨k,off,s⟩=some u-> ∃c E f,w.heap[k]? =some (.cells c E f):=fun{k off s u} hu=>by
  simp only [World.cell?]at hu;split at hu;·rename_i c E f hk;exact⟨c,E,f,hk⟩
  ·cases hu
 intro x;induction x with
 |int=>intro v h;exact h
 |bool=>intro v h;exact h
 |str=>intro v h;exact h
 |nilp=>intro v h;exact h
 |nilf=>intro v h;exact h
 |nilm=>intro v h;exact h
 |sl nn esz len el ih=>
  intro v h;obtain⟨a,cap,hv,h1,h2,h3,h3b,h4⟩:=h;refine⟨a,cap,hv,h1,h2,h3,h3b,fun ad ha=> ⟨(h4 ad ha).1,fun i hi j hj=> ?_⟩⟩;obtain⟨hf,u,hu,hr⟩:=(h4 ad ha).2 i hi j hj;exact⟨hF _ hf (cellk hu),u,hu,ih i j hr⟩
 |ip n c ih=>
  intro v h;obtain⟨ad,hv,h1,h2⟩:=h;refine⟨ad,hv,h1,fun j hj=> ?_⟩;obtain⟨hf,u,hu,hr⟩:=h2 j hj;exact⟨hF _ hf (cellk hu),u,hu,ih j hr⟩
 |fn f n cap ih=>
  intro v h;obtain⟨vs,hv,h1,h2⟩:=h;exact⟨vs,hv,h1,fun j u hu=>ih j (h2 j u hu)⟩
 |fna f n cap ih=>
  intro v h;obtain⟨vs,hv,h1,h2⟩:=h;exact⟨vs,hv,h1,fun j u hu=>ih j (h2 j u hu)⟩
section
variable {ρ:Nat->Option Pl} {F F':Nat->Prop} {w:World} (hD: ∀x v,bG F w x v->bG F' w x v)
include hD
theorem dK.conv: ∀{c:CV} {v:Value},dK ρ F w c v->dK ρ F' w c v:=by
 intro c;induction c with
 |d x=>intro v h;exact hD _ _ h
 |ptr b off=>intro v h;exact h
 |opt b esz i off=>intro v h;exact h
 |own b nn len=>intro v h;exact h
 |mp b=>intro v h;exact h
 |yl b=>intro v h;exact h
 |fn f nf n cap ih=>intro v h;obtain⟨vs,e,hl,h⟩:=h;exact⟨vs,e,hl,fun j u hu=>ih j (h j u hu)⟩
theorem bO.conv: ∀{cs:List CV} {vs:List Value},bO ρ F w cs vs->bO ρ F' w cs vs
 |[],[],h=>h
 |_::_,_::_,⟨h,t⟩=> ⟨h.conv hD,bO.conv t⟩
 |[],_::_,h=>h.elim
 |_::_,[],h=>h.elim
theorem fB.conv: ∀{s:SV} {v:Value},fB ρ F w s v->fB ρ F' w s v
 | .one _,_,h=>dK.conv hD h
 | .agg _,_,⟨vs,e,h⟩=> ⟨vs,e,h.conv hD⟩
theorem dm.conv: ∀{cs:List SV} {vs:List Value},dm ρ F w cs vs->dm ρ F' w cs vs
 |[],[],h=>h
 |_::_,_::_,⟨h,t⟩=> ⟨h.conv hD,dm.conv t⟩
 |[],_::_,h=>h.elim
 |_::_,[],h=>h.elim
theorem bE.conv: ∀{s:TV} {v:Value},bE ρ F w s v->bE ρ F' w s v
 | .v _,_,h=>fB.conv hD h
 | .eB _,_,⟨vs,e,h⟩=> ⟨vs,e,h.conv hD⟩
theorem oP.conv {k base cap E esz len:Nat} {el:Nat->Nat->DV} (h:oP F w k base cap E esz len el):oP F' w k base cap E esz len el:=by
 obtain⟨vs,h1,h2,h3,h4,h5⟩:=h;exact⟨vs,h1,h2,h3,h4,fun i hi j hj=>by obtain⟨u,hu,hr⟩:=h5 i hi j hj;exact⟨u,hu,hD _ _ hr⟩⟩
theorem fC.conv {S:Nat->Prop} {rb:Option Nat}: ∀{x:EV} {v:Value},fC F w S rb x v->fC F' w S rb x v
 | .d _,_,h=>hD _ _ h
 | .row _ _ _ _,_, .inl h=> .inl h
 | .row _ _ _ _,_, .inr ⟨k,base,cap,h1,h2,h3,h4⟩=> .inr ⟨k,base,cap,h1,h2,h3,h4.conv hD⟩
theorem ig.conv {S:Nat->Prop} {b:Nat} (hF: ∀k,F k->(∃c E f,w.heap[k]? =some (.cells c E f))->F' k): ∀{ob:Ob},ig ρ F w S b ob->ig ρ F' w S b ob
 | .cells _ _,⟨k,cap,vs,h1,h0,h2,h3⟩=> ⟨k,cap,vs,h1,h0,h2,h3.conv hD⟩
 | .fcells _ _,⟨k,base,cap,h1,h2⟩=> ⟨k,base,cap,h1,fun j x hx=>by
   obtain⟨hf,u,hu,hr⟩:=h2 j x hx;refine⟨hF _ hf ?_,u,hu,hD _ _ hr⟩;simp only [World.cell?]at hu;split at hu;·rename_i c E f hk;exact⟨c,E,f,hk⟩
   ·cases hu⟩
 | .frow _ _ _ _ _,⟨k,base,cap,h1,h0,h2⟩=> ⟨k,base,cap,h1,h0,fun i hi j hj=>by
   obtain⟨hf,u,hu,hr⟩:=h2 i hi j hj;refine⟨hF _ hf ?_,u,hu,hD _ _ hr⟩;simp only [World.cell?]at hu;split at hu;·rename_i c E f hk;exact⟨c,E,f,hk⟩
   ·cases hu⟩
 | .arr _ _ _ _, .inl h=> .inl h
 | .arr _ _ _ _, .inr ⟨k,base,cap,h1,h0,h2⟩=> .inr ⟨k,base,cap,h1,h0,h2.conv hD⟩
 | .rows _ _ _ _ _, .inl h=> .inl h
 | .rows _ _ _ _ ov, .inr ⟨k,base,cap,vs,rb,h1,h0,h2,h3,h4,h5,h6,h7⟩=> .inr ⟨k,base,cap,vs,rb,h1,h0,h2,h3,h4,h5,fun i hi j hj=>by
   obtain⟨u,hu,hr⟩:=h6 i hi j hj;refine⟨u,hu, ?_⟩;unfold wC at hr ⊢;cases ov with
   |none=>exact fC.conv hD hr
   |some p=>
    obtain⟨i0,j0,c⟩:=p;simp only at hr ⊢;split;·rename_i e;rw [ci e]at hr;exact hr.conv hD
    ·rename_i e;rw [ce e]at hr;exact fC.conv hD hr,h7⟩
 | .map m,⟨k,base,cap,es,h1,h0,h2,h3,h5,h4⟩=> ⟨k,base,cap,es,h1,h0,h2,h3,h5,fun i hi=>by
   obtain⟨e,e1,e2,⟨s3,e3,e3'⟩,⟨s4,e4,e4'⟩⟩:=h4 i hi;exact⟨e,e1,e2,⟨s3,e3,e3'.conv hD⟩,s4,e4,e4'.conv hD⟩⟩
 | .loop _ _ _,⟨k,base,cap,fn,tmps,D,h1,h0,h2,h3,h4,h5⟩=> ⟨k,base,cap,fn,tmps,D,h1,h0,h2,h3,h4,fun t tv ht=>by
   obtain⟨v,e1,e2⟩:=h5 t tv ht;exact⟨v,e1,e2.conv hD⟩⟩
 | .gm _ _ _ _ ov,⟨k,base,cap,es,rb,h1,h0,h2,h3,h4,h5⟩=> ⟨k,base,cap,es,rb,h1,h0,h2,h3,fun i hi=>by
   obtain⟨e,e1,e2,e3,hr⟩:=h4 i hi;refine⟨e,e1,e2,e3, ?_⟩;unfold uS at hr ⊢;cases ov with
   |none=>exact fC.conv hD hr
   |some p=>
    obtain⟨n,c⟩:=p;simp only at hr ⊢;split;·rename_i e;rw [ci e]at hr;exact hr.conv hD
    ·rename_i e;rw [ce e]at hr;exact fC.conv hD hr,h5⟩
 | .coll,⟨k,base,cap,h1,h0,h2⟩=> ⟨k,base,cap,h1,h0,h2⟩
 | .suf _ _ _,h=>h
end
structure Known (B:Base) (st:St) (tmps:Array Value) (F:Nat->Prop) (ρ:Nat->Option Pl) (w:World) (ds:List Deferred):Prop where
 fr:Fr B ρ F w
 hi:HI B ρ F w (aP st.heap)
 sl: ∀t tv,get st.slots t=some tv-> ∃v,tmps[t]? =some v/\bE ρ F w tv v
 marks:Marks B F w ds
 mb:B.mb=B.w.heap.size
 bF: ∀k,B.F k->k<B.w.heap.size
 df:B.df=[]
theorem sW {st:St} {tmps:Array Value} {F:Nat->Prop} {ρ:Nat->Option Pl} {w:World} {ds:List Deferred} {d:Deferred} (hk:Known B st tmps F ρ w (d::ds)):
  ∃D w' F',d.target= .collected D/\(Instr.takeDeferred D).run P w= .ok [] w'/\Known B st tmps F' ρ w' ds:=by
 obtain⟨fr,⟨ft,hi⟩,sl,⟨hd0,Ds,hds,hnd,hD⟩,hmk,hbF,hdf⟩:=hk;rw [hmk]at hD;cases Ds with
 |nil=>rw [hdf]at hds;simp at hds
 |cons D Ds=>
  simp at hds;obtain⟨rfl,rfl⟩:=hds;obtain⟨x1,x2,x3⟩:=hD D (by simp);have hlt:D<w.heap.size:=(fr.fz D x1).1;rw [cA]at hnd
  let F0:Nat->Prop:=fun k=>F k/\k≠D
  have hF0: ∀k,F k->(∃c E f,w.heap[k]? =some (.cells c E f))->F0 k:=fun k hk ⟨c,E,f,hc⟩=> ⟨hk,fun e=>by rw [e,x3]at hc;cases hc⟩;have hsh: ∀x v,bG F w x v->bG F0 w x v:=fun x v h=>h.shrink hF0
  let w':World:={w with heap:=w.heap.setIfInBounds D (.deferred none)}
  have hold: ∀k,k≠D->w'.heap[k]? =w.heap[k]? :=fun k hk=>by simp [w',eI,Ne.symm hk]
  have g:Gr ρ F0 w ρ F0 w':=⟨fun _ _ h=>h,fun _ h=>h,fun k hk=>hold k hk.2⟩;refine⟨D,w',F0,rfl, ?_,⟨⟨fr.os,fr.tape,⟨fr.output.out,fr.output.dr⟩,by simp [w'];exact fr.size,fun k hk hn=>(hold k (by omega)).trans (fr.mem k hk hn),fr.rho,fun k hk=> ⟨by simp [w'];exact(fr.fz k hk.1).1,(fr.fz k hk.1).2⟩,fun k hk=> ⟨fr.bf k hk,fun e=> ?_⟩⟩,
   ⟨ft,fun b ob hb=> ?_,fun b ob k hb hf=> ?_,hi.dis,hi.fresh,GL.gr g fun x hx=> ⟨hF0 _ (hi.gl x hx).1 (by obtain⟨l,E,fz,e,_⟩:=(hi.gl x hx).2;exact⟨_,E,fz,e⟩),(hi.gl x hx).2⟩⟩,fun t tv ht=> ?_,⟨hd0,Ds,rfl,hnd.2,fun E hE=> ?_⟩,hmk,hbF,hdf⟩⟩
  ·have hg:(getObj D).run P w= .ok (.deferred (some [])) w:=by simp [getObj,Sem.run,x3]
   have hs:(setObj D (.deferred none)).run P w= .ok () w':=by simp only [setObj,Sem.run,x3];rfl
   simp only [Instr.takeDeferred,eC,hg,eA,hs,Sem.run_pure]
  ·have:=hbF k hk;omega
  ·have:=(hi.obj b ob hb).conv hsh hF0
   refine this.keep g (fun _ h=>h) fun k hk=>hold k fun e=> ?_;exact(hi.blk b ob k hb hk).2.1 (e ▸ x1)
  ·obtain⟨y1,y2,y3⟩:=hi.blk b ob k hb hf;exact⟨by simp [w'];exact y1,fun h=>y2 h.1,y3⟩
  ·obtain⟨v,hv,hr⟩:=sl t tv ht;exact⟨v,hv,(hr.conv hsh).gr g⟩
  ·obtain⟨y1,y2,y3⟩:=hD E (by simp [hE]);have hne:E≠D:=fun e=>hnd.1 (e ▸ hE);exact⟨⟨y1,hne⟩,by rw [hmk];exact y2,(hold E hne).trans y3⟩
theorem KU (hT:kg P T) {f:Nat} {fn:Func} {c:Code} {args:List SV} {hin hout:List (Nat × Option Ob)} {res:TV} (hf:P.funcs[f]? =some fn) (hb:fn.body=some c) (hn:(fn.name== "runtime.NumGoroutine")=false)
  (h: ∀B,jV none P B (args.length+(fn.ntmps - args.length)) (hin.map (·.1)) c (Ep T fn.results.toList res hout) ⟨slotsOf 0 args,hin⟩):Fn P f args hin res hout:=by
 refine⟨⟨fn,hf,hn,by rw [hb];rfl⟩,fun B0 vs hF hi hr=> ?_⟩;have hl:=hr.length;obtain⟨B,hBe⟩: ∃B,B=B0.up:=⟨_,rfl⟩;have hF: ∀k,B.F k->k<B.w.heap.size:=by rw [hBe];exact hF
 have hi:HI B B.ρ B.F B.w (aP hin):=by rw [hBe];exact hi.up
 have hr:dm B.ρ B.F B.w args vs:=by rw [hBe];exact hr
 have hmk:B.mb=B.w.heap.size:=by rw [hBe];rfl
 have dnF: ∀{ρ F w},Fr B ρ F w->Fr B0 ρ F w:=by rw [hBe];exact Fr.dn
 have dnH: ∀{ρ F w h},HI B ρ F w h->HI B0 ρ F w h:=by rw [hBe];exact HI.dn
 rw [show B0.w=B.w by rw [hBe];rfl];refine callsIn_wide.1 (callsIn_of_wp_marks (F:=Fence.wide) (n:=0) hf hb trivial (wpIn_mono (h B _ _ ⟨⟨B.ρ,B.F,⟨rfl,rfl, .refl _,cx _,fun _ _ _=>rfl,fun _ _ h=>h,fun k hk=> ⟨hF k hk, .inl hk⟩,fun _ h=>h⟩,hi,fun t tv ht=> ?_,Marks.none (Nat.le_of_eq hmk) (by rw [hBe];rfl)⟩,fun b p hbp=> ?_, ?_⟩) ?_))
 ·obtain⟨_,v,hv,hr'⟩:=qg hr t tv ht;refine⟨v, ?_,hr'⟩;rw [Nat.sub_zero]at hv;have hlt:t<vs.length:=by
   rcases Nat.lt_or_ge t vs.length with h|h;·exact h
   ·rw [eL h]at hv;cases hv
  rw [Array.getElem?_append_left (by simpa using hlt)];simpa using hv
 ·apply cM;intro hnm;have:=hi.fresh b (bL hnm);rw [this]at hbp;cases hbp
 ·simp [hl]
 ·rintro e a' w' ⟨st',⟨he,⟨p,l,h1,h2,h3⟩,h4⟩,hc⟩;obtain⟨⟨ρ',F',hfr,hhi,hs,dn⟩,_,_⟩:=hc;have key: ∀(ds:List Deferred) (F:Nat->Prop) (w:World),Known B st' a'.tmps F ρ' w ds->LeavesInM Fence.wide 0 P fn a'.tmps (fun e w'=> ∃v ρ' F',e= .returned v/\Fr B0 ρ' F' w'/\HI B0 ρ' F' w' (aP hout)/\bE ρ' F' w' res v) ds .returning w:=by
   intro ds;induction ds with
   |nil=>
    intro F w hk;obtain⟨us,g1,g2⟩:=Ff hT hk.hi hk.sl h1 h2;have hres: ∃v,(results fn a'.tmps).run P w= .ok v w/\bE ρ' F w (Jm l) v:=by
     refine⟨if h:us.length=1 then us[0]else .tuple us.toArray, ?_, ?_⟩
     ·rw [Eu,eC,Array.mapM_eq_mapM_toList,Sem.run_map,g1];simp
     ·have hlen:=g2.length
      match l,us,g2,hlen with
      |[],[],_,_=>exact⟨[],rfl,trivial⟩
      |[s],[u],g2,_=>exact g2.1
      |s1::s2::l,u1::u2::us,g2,_=>exact⟨u1::u2::us,by simp,g2⟩
    obtain⟨v,hv,hr⟩:=hres;exact⟨v,hv,v,ρ',F,rfl,dnF hk.fr,dnH (hk.hi.le h4),h3 _ _ _ _ hr⟩
   |cons d ds ih=>
    intro F w hk;obtain⟨D,w2,F2,x1,x2,x3⟩:=sW (P:=P) hk;exact⟨by simp, .inl ⟨D,w2,x1,x2,ih F2 w2 x3⟩⟩
  rcases he with rfl|rfl;·exact key a'.defers F' w' ⟨hfr,hhi,hs,dn,hmk,hF,by rw [hBe];rfl⟩
  ·exact key a'.defers F' w' ⟨hfr,hhi,hs,dn,hmk,hF,by rw [hBe];rfl⟩
end
def at' {α:Type} [Inhabited α] (l:List α) (i:Nat):α:=l.getD i default
def aj {α:Type} [Inhabited α] (c:α->Nat->DV) (l:List α):Nat->Nat->DV:=fun i j=>c (at' l i) j
def bR {α:Type} [Inhabited α] (nn:Option Bool) (esz:Nat) (c:α->Nat->DV) (l:List α):DV:= .sl nn esz l.length (aj c l)
def dz {α:Type} [Inhabited α] (E esz:Nat) (c:α->Nat->DV) (l:List α):Ob:= .arr E esz l.length (aj c l)
def aN (k:IntKind) (n:Int) (_:Nat):DV:= .int k n
def av (b:Bool) (_:Nat):DV:= .bool b
def cZ (s:ByteArray) (_:Nat):DV:= .str s
def slC {α:Type} [Inhabited α] (esz:Nat) (c:α->Nat->DV) (l:List α) (_:Nat):DV:=bR none esz c l
def PS (ds:List DV) (off:Nat):DV:= .ip (ds.length - off) fun j=>ds.getD (off+j) .nilp
def ybf (l:List (Nat × Bool)) (j:Nat):Bool:=match get l j with|some b=>b|none=>false
def anf (l:List (Nat × iJ)) (j:Nat):iJ:=match get l j with|some b=>b|none=> .none
def K6 (l:List (Nat × Nat)) (j:Nat):Nat:=match get l j with|some b=>b|none=>0
def aX {α:Type} (c:Prop) [Decidable c] (k:Option α):Option α:=if c then k else none
theorem R6 {α:Type} {c:Prop} [Decidable c] {k:Option α} {r:α} (h:aX c k=some r) {G:Prop} (f:c->k=some r->G):G:=by
 unfold aX at h;split at h;·rename_i hc;exact f hc h
 ·cases h
theorem aJ {α:Type} {c:Prop} [Decidable c] (hc:c) (k:Option α):aX c k=k:=ci hc
theorem Zd {α:Type} {c:Bool} {m d:Option α} {y:α} (h:(bif c then m else d)=some y) (hc:c=true):m=some y:=by rw [hc]at h;exact h
inductive bC (σ ρ:Type) where
 |next (s:σ)
 |done (r:ρ)
inductive Ex (β ρ:Type) where
 |brk (b:β)
 |ret (r:ρ)
def aI {σ ρ:Type} (body:σ->Option (bC σ ρ)):Nat->σ->Option ρ
 |0,_=>none
 |n+1,s=>match body s with
  |none=>none
  |some (.next s')=>aI body n s'
  |some (.done r)=>some r
def FUEL:Nat:=1180591620717411303424
theorem aF {σ ρ:Type} (body:σ->Option (bC σ ρ)) (n:Nat) (s:σ):aI body (n+1) s=match body s with|none=>none|some (.next s')=>aI body n s'|some (.done r)=>some r:=rfl
section
variable {rd:Option Nat} {P:Program} {B:Base} {N:Nat} {L:List Nat} {T:List (Nat × TI)} {Q:Exit->St->Prop} {st st':St}
theorem Pd {σ ρ:Type} {c:Code} (S:σ->St) (R:ρ->Exit->St->Prop) {body:σ->Option (bC σ ρ)} {n:Nat} {s:σ} {r:ρ} (h:aI body n s=some r)
  (hb: ∀s f,body s=some f->jV rd P B N L c (fun e st'=>match f with| .next s'=>e= .normal/\st'=S s'| .done r=>e≠ .normal/\R r e st') (S s)):jV rd P B N L (.loop c) (R r) (S s):=by
 refine Qe (fun(x:σ × Nat)=>S x.1) (fun x=>aI body x.2 x.1=some r) (fun x=>x.2) (s,n) h fun x hx=> ?_;obtain⟨s,n⟩:=x;cases n with
 |zero=>cases hx
 |succ n=>
  simp only [aF]at hx;cases hbs:body s with
  |none=>rw [hbs]at hx;cases hx
  |some f=>
   rw [hbs]at hx;refine eH (hb s f hbs) fun e st' hq=> ?_;cases f with
   |next s'=>
    obtain⟨rfl,rfl⟩:=hq;exact⟨(s',n),rfl,hx,by simp⟩
   |done r'=>
    obtain⟨hne,hR⟩:=hq;simp only [Option.some.injEq]at hx;subst hx;cases e with
    |normal=>exact absurd rfl hne
    |exit id=>exact hR
    |goto l=>exact hR
    |ret=>exact hR
    |panic c=>exact hR
    |outgrown=>exact hR
theorem Sm {x y:Code} (R:Exit->St->Prop) (h1:jV rd P B N L x R st) (h2: ∀e st',R e st'->match e with| .normal=>jV rd P B N L y Q st'|e=>Q e st'):jV rd P B N L (.seq x y) Q st:=
 tH (eH h1 h2)
end
section
variable {α:Type} [Inhabited α]
theorem ug {l m:List α} {i:Nat} (h:i<l.length):at' (l++m) i=at' l i:=by
 simp [at',cS,cT h]
theorem rz {l m:List α} {i:Nat} (h:l.length<=i):at' (l++m) i=at' m (i - l.length):=by
 simp [at',cS,cU h]
theorem DX {l:List α} {i:Nat} {x:α} (h:i<l.length):at' (l.set i x) i=x:=by
 simp [at',cS,h]
theorem Dy {l:List α} {i j:Nat} {x:α} (h:i≠j):at' (l.set i x) j=at' l j:=by
 simp [at',cS,List.getElem?_set_ne h]
theorem FN {n i:Nat} {x:α} (h:i<n):at' (List.replicate n x) i=x:=by
 simp [at',cS,h]
theorem bH (c:α->Nat->DV) (l m:List α) (esz:Nat):aB (l.length+m.length) esz (jK (aj c l) l.length (aj c m)) (aj c (l++m)):=by
 intro i hi j hj;unfold jK aj;split;·rename_i h;rw [ug h]
 ·rename_i h;rw [rz (by omega)]
theorem OI (c:α->Nat->DV) (l:List α) (esz i off:Nat) (ds:List DV) (x:α) (h: ∀j,j<esz->c x j=if off<=j/\j<off+ds.length then ds.getD (j - off) .nilp else c (at' l i) j):aB l.length esz (bW (aj c l) i off ds) (aj c (l.set i x)):=by
 intro i' hi' j hj;unfold bW aj;by_cases e:i'=i
 ·subst e;rw [DX hi',h j hj];by_cases e2:off<=j/\j<off+ds.length<;>simp [e2]
 ·rw [Dy (Ne.symm e),ce (fun hh=>e hh.1)]
theorem aK (c:α->Nat->DV) (l:List α) (n esz i off:Nat) (ds:List DV) (x:α) (hn:n=l.length) (h: ∀j,j<esz->c x j=if off<=j/\j<off+ds.length then ds.getD (j - off) .nilp else c (at' l i) j):aB n esz (bW (aj c l) i off ds) (aj c (l.set i x)):=hn ▸ OI c l esz i off ds x h
theorem gX (c:α->Nat->DV) (n esz:Nat) (z:List DV) (x:α) (h: ∀j,j<esz->z.getD j .nilp=c x j):aB n esz (fun _ j=>z.getD j .nilp) (aj c (List.replicate n x)):=by
 intro i hi j hj;unfold aj;show z.getD j .nilp=_;rw [FN hi,h j hj]
theorem nA (n esz:Nat) (f:Nat->Nat->DV):aB n esz f f:=fun _ _ _ _=>rfl
end
def gB:List (Bool × Bool)->Bool
 |[]=>true
 |(b,w)::l=>(b==w) && gB l
theorem VN {yb:Nat->Bool}: ∀{g:List (Nat × Bool)},gP yb g->gB (g.map fun p=>(yb p.1,p.2))=true
 |[],_=>rfl
 |(j,w)::g,⟨h1,h2⟩=>by simp [gB,h1,VN h2]
def vD (x:DV):TV:= .v (.one (.d x))
def vI (n:Int):TV:= .v (.one (.d (.int .i64 n)))
def vB (b:Bool):TV:= .v (.one (.d (.bool b)))
def vP (b off:Nat):TV:= .v (.one (.ptr b off))
def vO (b:Nat) (nn:Bool) (len:Nat):TV:= .v (.one (.own b nn len))
def sD (x:DV):SV:= .one (.d x)
def sI (n:Int):SV:= .one (.d (.int .i64 n))
def sB (b:Bool):SV:= .one (.d (.bool b))
def cI (n:Int):CV:= .d (.int .i64 n)
def cB (b:Bool):CV:= .d (.bool b)
theorem lQ.nil' {nn:Option Bool} {esz esz':Nat} {f g:Nat->Nat->DV}:lQ (.sl nn esz 0 f) (.sl none esz' 0 g):=by
 rintro F w v ⟨a,cap,hv,h1,h2,h3,h4,h5⟩;exact⟨a,cap,hv,by simp,by simp,h3,h4,fun ad ha=> ⟨(h5 ad ha).1,fun i hi=>by omega⟩⟩
theorem lQ.qQ {nn:Option Bool} {esz len:Nat} {f:Nat->Nat->DV}:lQ (.sl nn esz len f) (.sl none esz len f):= .sl (.inl rfl) fun _ _ _ _=> .refl _
theorem lQ.ip' {n m:Nat} {c d:Nat->DV} (hm:m<=n) (h: ∀j,j<m->lQ (c j) (d j)):lQ (.ip n c) (.ip m d):=by
 rintro F w v ⟨ad,hv,h1,h2⟩;refine⟨ad,hv,h1,fun j hj=> ?_⟩;obtain⟨hf,u,hu,hr⟩:=h2 j (by omega);exact⟨hf,u,hu,h j hj F w u hr⟩
theorem Fn.le {P:Program} {f:Nat} {args args':List SV} {hin hout:List (Nat × Option Ob)} {res:TV} (h:Fn P f args hin res hout) (hl:En args' args):Fn P f args' hin res hout:=
 ⟨h.1,fun B vs hF hi hr=>h.2 B vs hF hi (hl.Oo hr)⟩
section
variable {rd:Option Nat} {P:Program} {B:Base} {N:Nat} {L:List Nat} {Q:Exit->St->Prop} {st st':St}
end
def zl (i:TypeInfo):List Value:=match i.zero with|some v=>v.cells.toList|none=>[]
theorem gQ {P:Program} {t:TypeId}:(false=true->P.stoodInHeld t=false/\P.eqGuardType P.depth t=false):=fun h=>Bool.noConfusion h
theorem eX {P:Program} {t:TypeId} {i:TypeInfo} {d:TypeDesc} {e:Bool} (hu:P.underlying t=some d:=by kernel_rfl) (hi:P.info? t=some i:=by kernel_rfl) (hz:i.zero.isSome=true:=by kernel_rfl):eG P t ⟨d,i.size,i.bytes,zl i,e⟩:=by
 obtain⟨z,hz'⟩:=Option.isSome_iff_exists.1 hz;exact⟨hu,i,z,hi,rfl,rfl,hz',by simp [zl,hz']⟩
theorem cu {P:Program} {t:TypeId} {agg:Bool} (h:(match P.info? t with|some i=>(match i.zero with|some z=>Du agg z|none=>true)|none=>true)=true:=by kernel_rfl):ZOk P t agg:=by
 intro i z hi hz;rw [hi]at h;simp only [hz]at h;exact h
section
variable {rd:Option Nat} {P:Program} {B:Base} {N:Nat} {L:List Nat} {T:List (Nat × TI)} {Q:Exit->St->Prop} {st st' st'':St}
def jl (B:Base) (N:Nat) (L:List Nat) (st st':St):Prop:= ∀a w,Conc B N L st a w->Conc B N L st' a w
theorem jl.refl:jl B N L st st:=fun _ _ h=>h
theorem jl.trans (h:jl B N L st st') (h':jl B N L st' st''):jl B N L st st'':=fun a w hc=>h' a w (h a w hc)
theorem jl.le (h:aav st st'):jl B N L st st':=fun _ _ hc=>hc.le h
theorem jl.fin (fin:Fin) (ts:List Nat) {cs:List Prop} (he:finish L fin ts [] (lm st)=some (cs,st')) (hc:All cs):jl B N L st st':=
 fun _ _ hconc=>lI (yb:=fun _=>false) he hc (lF hconc) hconc.ids
theorem sN {c:Code} (h:jl B N L st st') (hw:jV rd P B N L c Q st'):jV rd P B N L c Q st:=fun a w hc=>hw a w (h a w hc)
theorem jC {c:Code} (hw:jV rd P B N L c (fun e s=> ∃s',jl B N L s s'/\Q e s') st):jV rd P B N L c Q st:=
 fun a w hc=>wpIn_mono (hw a w hc) fun _ a' w' ⟨_,⟨s',hi,hq⟩,h2⟩=> ⟨s',hq,hi a' w' h2⟩
theorem Ic (hT:kg P T) {id:Nat} {ops:Array Oper} (st1:St) (x:vv) {cs:List Prop} (he:K9 (vF P) T ops N L x st=some (cs,st1)) (hc:All cs) (hi:jl B N L st1 st') (hQ:Q .normal st'):jV rd P B N L (.region id ops false) Q st:=
 jC (Ec hT x he hc ⟨_,hi,hQ⟩)
theorem Qi (hT:kg P T) (hm:P.follows .mixedOrders=true) {id:Nat} {ops:Array Oper} (st1:St) (x:vv) (cl:List (Nat × List Nat)) {cs:List Prop} (he:Rs (vF P) T ops N L x cl st=some (cs,st1)) (hc:All cs) (hi:jl B N L st1 st') (hQ:Q .normal st'):
  jV rd P B N L (.region id ops true) Q st:=
 jC (tV hT hm x cl he hc ⟨_,hi,hQ⟩)
theorem jl.SG {t b:Nat} {esz0:Nat} {el0:Nat->Nat->DV} {ob:Ob} (hob: ∀ρ F w S,ρ b=some .nil->ig ρ F w S b ob) (ht:get st.slots t=some (.v (.one (.d (.sl (some false) esz0 0 el0))))) (hb:get st.heap b=none):
  jl B N L st ⟨(t, .v (.one (.own b false 0)))::st.slots,(b,some ob)::st.heap⟩:=by
 intro a w hc;obtain⟨⟨ρ,F,hfr,hhi,hs,dn⟩,hid,sz⟩:=hc;have hρ:=hhi.fresh b hb;have hn:=hhi.Ml hfr (b:=b) (nob:=ob) hb (hob _ _ _ _ (ay _ _));have g:Gr ρ F w (bN ρ b .nil) F w:=⟨aS hρ,fun _ h=>h,fun _ _=>rfl⟩;have hhp:upd (aP st.heap) [(b,some ob)]=aP ((b,some ob)::st.heap):=by
  funext x;rw [iZ];simp only [aP];rw [aC]
 rw [hhp]at hn;refine⟨⟨bN ρ b .nil,F,{hfr with rho:=fun b' p' e=>aS hρ b' p' (hfr.rho b' p' e)},hn,fun t' tv ht'=> ?_,dn⟩,hid,sz⟩;rw [aC]at ht';split at ht'
 ·rename_i e;cases ht';subst e;obtain⟨v,hv,hr⟩:=hs t _ ht;obtain⟨ad,cap,e1,_,h2,h3,_⟩:=hr;have:=h2 rfl;subst this;obtain⟨_,rfl⟩:=h3 rfl;exact⟨v,hv, .inr ⟨rfl,ay _ _,rfl,e1⟩⟩
 ·obtain⟨v,hv,hr⟩:=hs t' tv ht';exact⟨v,hv,hr.gr g⟩
theorem jl.YN {t b E esz:Nat} {esz0:Nat} {el0 el:Nat->Nat->DV} (ht:get st.slots t=some (.v (.one (.d (.sl (some false) esz0 0 el0))))) (hb:get st.heap b=none):
  jl B N L st ⟨(t, .v (.one (.own b false 0)))::st.slots,(b,some (.arr E esz 0 el))::st.heap⟩:=jl.SG (fun _ _ _ _ h=> .inl ⟨h,rfl⟩) ht hb
theorem jl.XL {t b E esz:Nat} {esz0:Nat} {el0:Nat->Nat->DV} {el:Nat->Nat->EV} {ov:Option (Nat × Nat × CV)} (ht:get st.slots t=some (.v (.one (.d (.sl (some false) esz0 0 el0))))) (hb:get st.heap b=none):
  jl B N L st ⟨(t, .v (.one (.own b false 0)))::st.slots,(b,some (.rows E esz 0 el ov))::st.heap⟩:=jl.SG (fun _ _ _ _ h=> .inl ⟨h,rfl⟩) ht hb
theorem jl.X7 {p q b E esz:Nat} {E0:TypeId} {cs:List CV} {esz0:Nat} {el0:Nat->Nat->DV} {ob:Ob} (hob: ∀ρ F w S,ρ b=some .nil->ig ρ F w S b ob) (hp:get st.heap p=some (some (.cells E0 cs))) (hq:cs[q]? =some (.d (.sl (some false) esz0 0 el0))) (hb:get st.heap b=none):
  jl B N L st ⟨st.slots,(p,some (.cells E0 (cs.set q (.own b false 0))))::(b,some ob)::st.heap⟩:=by
 intro a w hc;obtain⟨⟨ρ,F,hfr,hhi,hs,dn⟩,hid,sz⟩:=hc;have hρ:=hhi.fresh b hb;have hn:=hhi.Ml hfr (b:=b) (nob:=ob) hb (hob _ _ _ _ (ay _ _));have g:Gr ρ F w (bN ρ b .nil) F w:=⟨aS hρ,fun _ h=>h,fun _ _=>rfl⟩;have hhp:upd (aP st.heap) [(b,some ob)]=aP ((b,some ob)::st.heap):=by
  funext x;rw [iZ];simp only [aP];rw [aC]
 rw [hhp]at hn;have hpb:p≠b:=fun e=>by rw [e,hb]at hp;cases hp
 refine⟨⟨bN ρ b .nil,F,{hfr with rho:=fun b' p' e=>aS hρ b' p' (hfr.rho b' p' e)}, ?_,fun t' tv ht'=> ?_,dn⟩,hid,sz⟩
 ·obtain⟨ft,hn⟩:=hn;have hp':aP ((b,some ob)::st.heap) p=some (some (.cells E0 cs)):=by simp only [aP];rw [aC,ce (Ne.symm hpb)];exact hp
  have hu: ∀x,aP ((p,some (.cells E0 (cs.set q (.own b false 0))))::(b,some ob)::st.heap) x=if p=x then some (some (.cells E0 (cs.set q (.own b false 0))))else aP ((b,some ob)::st.heap) x:=fun x=>by simp only [aP];rw [aC]
  have hex: ∀x ox,aP ((p,some (.cells E0 (cs.set q (.own b false 0))))::(b,some ob)::st.heap) x=some (some ox)-> ∃ox0,aP ((b,some ob)::st.heap) x=some (some ox0):=fun x ox hh=>by
   rw [hu]at hh;split at hh;·rename_i e;subst e;exact⟨_,hp'⟩
   ·exact⟨_,hh⟩
  refine⟨ft,fun x ox hh=> ?_,fun x ox k hh hf=> ?_,fun x y ox oy k h1 h2=> ?_,fun x hh=> ?_,hn.gl⟩
  ·rw [hu]at hh;split at hh
   ·rename_i e;subst e;cases hh;obtain⟨k,cap,vs,x1,x0,x2,x3⟩:=hn.obj p _ hp';refine⟨k,cap,vs,x1,x0,x2,bO.jJ (by rw [x3.length,cH]) fun j c hj=> ?_⟩;rw [List.getElem?_set]at hj;split at hj
    ·rename_i e;subst e;split at hj
     ·cases hj;obtain⟨u,hu',hr⟩:=x3.get hq;refine⟨u,hu', ?_⟩;obtain⟨ad,cap',e1,_,h2,h3,_⟩:=hr;have:=h2 rfl;subst this;obtain⟨_,rfl⟩:=h3 rfl;exact .inr ⟨rfl,ay _ _,rfl,e1⟩
     ·cases hj
    ·exact x3.get hj
   ·exact hn.obj x ox hh
  ·obtain⟨ox0,h0⟩:=hex x ox hh;exact hn.blk x ox0 k h0 hf
  ·obtain⟨o1,g1⟩:=hex x ox h1;obtain⟨o2,g2⟩:=hex y oy h2;exact hn.dis x y o1 o2 k g1 g2
  ·rw [hu]at hh;split at hh
   ·cases hh
   ·exact hn.fresh x hh
 ·obtain⟨v,hv,hr⟩:=hs t' tv ht';exact⟨v,hv,hr.gr g⟩
theorem jl.ob {b:Nat} {x y:Ob} (hb:get st.heap b=some (some x)) (hxy: ∀ρ F w S,ig ρ F w S b x->ig ρ F w S b y):jl B N L st ⟨st.slots,(b,some y)::st.heap⟩:=by
 intro a w hc;obtain⟨⟨ρ,F,hfr,⟨ft,hi⟩,hs,dn⟩,hid,sz⟩:=hc;have hu: ∀c,aP ((b,some y)::st.heap) c=if b=c then some (some y)else aP st.heap c:=fun c=>by simp only [aP];rw [aC]
 have hex: ∀c oc,aP ((b,some y)::st.heap) c=some (some oc)-> ∃oc0,aP st.heap c=some (some oc0):=fun c oc hh=>by
  rw [hu]at hh;split at hh;·rename_i e;subst e;exact⟨_,hb⟩
  ·exact⟨_,hh⟩
 refine⟨⟨ρ,F,hfr,⟨ft,fun c oc hh=> ?_,fun c oc k hh hf=> ?_,fun c d oc od k h1 h2=> ?_,fun c hh=> ?_,hi.gl⟩,hs,dn⟩,hid,sz⟩
 ·rw [hu]at hh;split at hh
  ·rename_i e;subst e;cases hh;exact hxy _ _ _ _ (hi.obj b x hb)
  ·exact hi.obj c oc hh
 ·obtain⟨o0,h0⟩:=hex c oc hh;exact hi.blk c o0 k h0 hf
 ·obtain⟨o1,g1⟩:=hex c oc h1;obtain⟨o2,g2⟩:=hex d od h2;exact hi.dis c d o1 o2 k g1 g2
 ·rw [hu]at hh;split at hh
  ·cases hh
  ·exact hi.fresh c hh
theorem jl.Xo {b E esz len:Nat} {el:Nat->Nat->DV} {el':Nat->Nat->EV} (hb:get st.heap b=some (some (.arr E esz len el))) (h: ∀i,i<len-> ∀j,j<esz->Pt (el i j) (el' i j)):jl B N L st ⟨st.slots,(b,some (.rows E esz len el' none))::st.heap⟩:=by
 refine jl.ob hb fun ρ F w S hr=> ?_;rcases hr with hr|⟨k,base,cap,x1,x0,vs,x2,x3,x4,x5,x6⟩;·exact .inl hr
 ·refine .inr ⟨k,base,cap,vs,fun _ _=>none,x1,x0,x2,x3,x4,x5,fun i hi j hj=> ?_,(fun _ _ _ _ _ e=>by cases e),(fun _ _ e=>by cases e)⟩;obtain⟨u,hu,hr⟩:=x6 i hi j hj;exact⟨u,hu,(h i hi j hj).Oo hr⟩
theorem jl.fold {b c E esz len i j E1 esz1 n:Nat} {nn:Bool} {el el':Nat->Nat->EV} {el1:Nat->Nat->DV} (hb:get st.heap b=some (some (.rows E esz len el (some (i,j, .own c nn n))))) (hc:get st.heap c=some (some (.arr E1 esz1 n el1)))
  (h: ∀i',i'<len-> ∀j',j'<esz->Nw el i j (.row E1 esz1 n el1) i' j'=el' i' j'):jl B N L st ⟨st.slots,(b,some (.rows E esz len el' none))::(c,none)::st.heap⟩:=by
 classical
 intro a w hconc;obtain⟨⟨ρ,F,hfr,⟨ft,hi⟩,hs,dn⟩,hid,sz⟩:=hconc;have hbc:b≠c:=fun e=>by rw [e,hc]at hb;cases hb
 have hu: ∀x,aP ((b,some (.rows E esz len el' none))::(c,none)::st.heap) x=if b=x then some (some (.rows E esz len el' none))else if c=x then some none else aP st.heap x:=fun x=>by simp only [aP];rw [aC,aC]
 have hfold:ig ρ F w (fun q=>ft b q\/ft c q) b (.rows E esz len el' none):=by
  rcases hi.obj b _ hb with hr|⟨k,base,cap,vs,rb,x1,x0,x2,x3,x4,x5,x6,x7,x8⟩;·exact .inl hr
  ·have hk: ∀q,ft c q->q≠k:=fun q hq e=>hbc (hi.dis b c _ _ k hb hc x0 (e ▸ hq));have hrowC:=hi.obj c _ hc;obtain⟨nq,hnq⟩: ∃nq:Option Nat,(∀u,dK ρ F w (.own c nn n) u->fC F w (fun q=>ft b q\/ft c q) nq (.row E1 esz1 n el1) u)/\ ∀q,nq=some q->ft c q:=by
    rcases hrowC with⟨g0,g1⟩|⟨q,bq,cq,g0,g1,g2⟩
    ·refine⟨none,fun u hu=> ?_,fun q e=>by cases e⟩;rcases hu with⟨q,bq,cq,e1,_⟩|⟨_,_,e3,e4⟩
     ·rw [g0]at e1;cases e1
     ·exact .inl ⟨g1,e4⟩
    ·refine⟨some q,fun u hu=> ?_,fun q' e=>by cases e;exact g1⟩;rcases hu with⟨q',bq',cq',e1,e2⟩|⟨_,e1,e3,e4⟩
     ·rw [g0]at e1;cases e1;exact .inr ⟨q,bq,cq,rfl, .inr g1,e2,g2⟩
     ·rw [g0]at e1;cases e1
   obtain⟨rb',hrb⟩: ∃rb':Nat->Nat->Option Nat,∀i' j',rb' i' j'=if i'=i/\j'=j then nq else(match rb i' j' with|some q=>if ft b q then some q else none|none=>none):=⟨_,fun _ _=>rfl⟩
   have hrb0: ∀i' j' q, ¬ (i'=i/\j'=j)->(rb' i' j'=some q↔rb i' j'=some q/\ft b q):=fun i' j' q hne=>by
    rw [hrb,ce hne];cases rb i' j' with
    |none=>simp
    |some q'=>
     simp only [Option.some.injEq];split
     ·rename_i hf;constructor
      ·rintro e;cases e;exact⟨rfl,hf⟩
      ·rintro ⟨e,_⟩;rw [e]
     ·rename_i hf;constructor
      ·intro e;cases e
      ·rintro ⟨e,hf'⟩;subst e;exact absurd hf' hf
   refine .inr ⟨k,base,cap,vs,rb',x1, .inl x0,x2,x3,x4,x5,fun i' hi' j' hj'=> ?_,fun i1 j1 i2 j2 q q1 q2=> ?_,fun i' j' e=> ?_⟩
   ·obtain⟨u,hu',hr⟩:=x6 i' hi' j' hj';refine⟨u,hu', ?_⟩;show fC F w _ _ (el' i' j') u;rw [<-h i' hi' j' hj',Nw];unfold wC at hr;simp only at hr;by_cases e:i'=i/\j'=j
    ·rw [ci e]at hr ⊢;rw [hrb,ci e];exact hnq.1 u hr
    ·rw [ce e]at hr ⊢;cases hel:el i' j' with
     |d x=>rw [hel]at hr;exact hr
     |row E2 esz2 n2 el2=>
      rw [hel]at hr;rcases hr with hr|⟨q,bq,cq,q1,q2,q3,q4⟩;·exact .inl hr
      ·exact .inr ⟨q,bq,cq,(hrb0 i' j' q e).2 ⟨q1,q2⟩, .inl q2,q3,q4⟩
   ·by_cases c1:i1=i/\j1=j<;>by_cases c2:i2=i/\j2=j
    ·exact⟨c1.1.trans c2.1.symm,c1.2.trans c2.2.symm⟩
    ·rw [hrb,ci c1]at q1;exact absurd (hi.dis b c _ _ q hb hc ((hrb0 _ _ _ c2).1 q2).2 (hnq.2 q q1)) hbc
    ·rw [hrb,ci c2]at q2;exact absurd (hi.dis b c _ _ q hb hc ((hrb0 _ _ _ c1).1 q1).2 (hnq.2 q q2)) hbc
    ·exact x7 _ _ _ _ _ ((hrb0 _ _ _ c1).1 q1).1 ((hrb0 _ _ _ c2).1 q2).1
   ·by_cases c1:i'=i/\j'=j
    ·rw [hrb,ci c1]at e;exact hk k (hnq.2 k e) rfl
    ·exact x8 _ _ ((hrb0 _ _ _ c1).1 e).1
 refine⟨⟨ρ,F,hfr,⟨qa ft b fun q=>ft b q\/ft c q, ?_⟩,hs,dn⟩,hid,sz⟩;refine hi.step (.refl _ _ _) hfr (cx _) (fun x=>x=b\/x=c) (fun x ob' e hh=> ?_) (fun x ob' e hh=> ?_) (fun x ob' k e hh hf=> ?_) (fun b1 b2 o1 o2 k e1 e2 h1 h2 _ _=> ?_) (fun k hk=> .inl hk) fun x hh=> ?_
 ·rw [hu,ce (fun e'=>e (.inl e'.symm)),ce (fun e'=>e (.inr e'.symm))]at hh;exact⟨hh,fun _ _=>rfl,fun k=>by rw [eY (fun e'=>e (.inl e'))]⟩
 ·rcases e with rfl|rfl
  ·rw [hu,ci rfl]at hh;cases hh;rw [bB];exact hfold
  ·rw [hu,ce hbc,ci rfl]at hh;cases hh
 ·rcases e with rfl|rfl
  ·rw [bB]at hf;rcases hf with hf|hf
   ·exact .inl ⟨x,_, .inl rfl,hb,hf⟩
   ·exact .inl ⟨c,_, .inr rfl,hc,hf⟩
  ·rw [hu,ce hbc,ci rfl]at hh;cases hh
 ·have key: ∀x ob',(x=b\/x=c)->aP ((b,some (.rows E esz len el' none))::(c,none)::st.heap) x=some (some ob')->x=b:=fun x ob' e hh=>by
   rcases e with e|e;·exact e
   ·subst e;rw [hu,ce hbc,ci rfl]at hh;cases hh
  rw [key b1 o1 e1 h1,key b2 o2 e2 h2]
 ·rw [hu]at hh;split at hh
  ·cases hh
  ·split at hh
   ·cases hh
   ·exact hi.fresh x hh
theorem l9 {a b:Nat} (h:a≠b):Nat.beq a b=false:=by
 cases hb:Nat.beq a b with
 |true=>exact absurd (bv hb) h
 |false=>rfl
theorem K7 {id:Nat} {c:Code} (h:jV rd P B N L c (fun e st'=>match e with| .exit id'=>bif Nat.beq id' id then Q .normal st' else Q (.exit id') st'|e=>Q e st') st):jV rd P B N L (.block id c) Q st:=by
 refine O5 (eH h fun e st' hh=> ?_);cases e with
 |exit id'=>
  simp only at hh ⊢;split;·rename_i e;subst e;simpa using hh
  ·rename_i e;rw [show Nat.beq id' id=false from l9 e]at hh;exact hh
 |normal=>exact hh
 |goto l=>exact hh
 |ret=>exact hh
 |panic c=>exact hh
 |outgrown=>exact hh
end
theorem mO {E:TypeId} {cs ds:List CV} (h:KI cs ds):G6 (some (.cells E cs)) (some (.cells E ds)):=by
 rintro ρ F w S b ⟨k,cap,vs,h1,h0,h2,h3⟩;exact⟨k,cap,vs,h1,h0,h2,h.Oo h3⟩
def Ex.fold {β X Y:Type} (o:Ex β X) (f:β->Option Y) (g:X->Option Y):Option Y:=match o with| .brk z=>f z| .ret v=>g v
def zb:Code->Exit
 | .exit id=> .exit id
 | .goto l=> .goto l
 |_=> .ret
def Ak:Code->Bool
 | .ret| .exit _| .goto _=>true
 |_=>false
def OA (outs:List Code) (st:Nat) (e:Exit):Prop:=(st=0/\e= .normal)\/ ∃k c,st=k+2/\outs[k]? =some c/\Ak c=true/\e=zb c
theorem OA.zero {outs:List Code} {st:Nat} (h:st=0):OA outs st .normal:= .inl ⟨h,rfl⟩
theorem OA.out {outs:List Code} {st k:Nat} {c:Code} (h:st=k+2) (hc:outs[k]? =some c) (ho:Ak c=true):OA outs st (zb c):= .inr ⟨k,c,h,hc,ho,rfl⟩
theorem aao {w:World} {k:Nat} (o:Obj):Put w (w.putObj k o) k:=⟨by simp,fun j hj=>World.putObj_heap_other hj,rfl,rfl,⟨rfl,trivial⟩⟩
section
variable {P:Program} {B:Base} {N:Nat} {L:List Nat} {T:List (Nat × TI)} {Q:Exit->St->Prop} {st:St}
def Ue:TV->Option (FuncId × List CV × List CV)
 | .v (.one (.d (.fn f n cap)))=>some (f,[],takeC cap 0 n)
 | .v (.one (.fn f nf n cap))=>bif Nat.ble nf n then some (f,dS cap 0 nf,dS cap nf (n - nf))else none
 |_=>none
theorem Rx {ρ:Nat->Option Pl} {F:Nat->Prop} {w:World} {tv:TV} {f:FuncId} {c1 c2:List CV} {v:Value} (h:Ue tv=some (f,c1,c2)) (hr:bE ρ F w tv v): ∃v1 v2:List Value,v= .func (.func f) v1.toArray v2.toArray/\bO ρ F w c1 v1/\bO ρ F w c2 v2:=by
 unfold Ue at h;split at h
 ·rename_i g n cap;cases h;obtain⟨vs,hv,hn,hcap⟩:=hr;refine⟨[],vs,hv,trivial,bO.jJ (by rw [fJ,hn]) fun j c hj=> ?_⟩;obtain⟨hlt,rfl⟩:=ku cap 0 n j c hj;have hg:=cR (l:=vs) (i:=j) (by omega);exact⟨_,hg,by rw [cC];exact hcap j _ hg⟩
 ·rename_i g nf n cap;cases hb:Nat.ble nf n with
  |false=>simp [hb]at h
  |true=>
   simp only [hb,bt]at h;cases h;have hle:=cj hb;obtain⟨vs,hv,hn,hcap⟩:=hr;refine⟨vs.take nf,vs.drop nf,hv,bO.jJ (by rw [jb];simp;omega) fun j c hj=> ?_,bO.jJ (by rw [jb];simp;omega) fun j c hj=> ?_⟩
   ·obtain⟨hlt,rfl⟩:=ni cap 0 nf j c hj;have hg:=cR (l:=vs) (i:=j) (by omega);exact⟨_,by rw [List.getElem?_take,ci hlt];exact hg,by rw [cC];exact hcap j _ hg⟩
   ·obtain⟨hlt,rfl⟩:=ni cap nf (n - nf) j c hj;have hg:=cR (l:=vs) (i:=nf+j) (by omega);exact⟨_,by rw [List.getElem?_drop];exact hg,hcap (nf+j) _ hg⟩
 ·cases h
theorem Fu: ∀(cs:List CV),gT (cs.map fun c=> .v (.one c))=some (cs.map .one)
 |[]=>rfl
 |c::cs=>by simp [gT,Fu cs]
theorem Gf {g:Operand} {gv:TV} {ps:List Nat} {assign body:Code} (lb:Nat) (sl:List (Nat × TV)) (outs:List Code) (ids:List Nat) {f:FuncId} {c1 c2:List CV} {hin:List (Nat × Option Ob)} (res:TV) (hout:List (Nat × Option Ob)) {stt:Nat} {r':iH} {sl':List (Nat × TV)} {e:Exit}
  (hg:Au st g=some gv) (hf:Ue gv=some (f,c1,c2)) (hlb:get st.heap lb=none) (hsl: ∀p∈sl,get st.slots p.1=some p.2)
  (hin1:bJ ids (ids.map (aP ((lb,some (.loop ⟨ps,assign,body,N,outs⟩ 0 sl))::st.heap)))=some hin)
  (hok:(bZ ((c1++CV.yl lb::c2).flatMap CV.bP) ids && bZ (dF (ids.map (aP ((lb,some (.loop ⟨ps,assign,body,N,outs⟩ 0 sl))::st.heap)))) ids && fE ids (hout.map (·.1)) ((hout.map (·.1)).map (aP ((lb,some (.loop ⟨ps,assign,body,N,outs⟩ 0 sl))::st.heap))))=true)
  (hfn:Fn P f ((c1++CV.yl lb::c2).map .one) hin res hout) (hlo:get hout lb=some (some (.loop r' stt sl'))) (hr':r'.outs=outs) (hx:OA outs stt e)
  (hQ:Q e ⟨st.slots,(lb,none)::(hout++(ids.map (fun i=>(i,none))++st.heap))⟩):jV none P B N L (.rangeFunc g ps.toArray assign body) Q st:=by
 intro a w hc;obtain⟨⟨ρ,F,hfr,hi,hs,dn⟩,hid,sz⟩:=hc;refine wpIn_rangeFunc ?_;intro fn _;obtain⟨v1,v2,hv,hr1,hr2⟩:=Rx hf (Jg hs hg)
 let W0:=w.alloc (.deferred (some []))
 let W1:=W0.alloc (.loop {state:= .ready,pending:=none,fn,tmps:=a.tmps,params:=ps.toArray,assign,body,defers:=w.heap.size})
 have hent:(Instr.enterLoop fn a.tmps ps.toArray assign body (FW none).round).run P w= .ok (w.heap.size+1,[{target:= .collected w.heap.size,args:= #[] }]) W1:=run_enterLoop_outer _ _ _ _ _;have p0:=Push.alloc w (.deferred (some []));have p1:=Push.alloc W0 (.loop {state:= .ready,pending:=none,fn,tmps:=a.tmps,params:=ps.toArray,assign,body,defers:=w.heap.size})
 let F0:Nat->Prop:=fun k=>F k\/k=w.heap.size
 have hW0:W0.heap.size=w.heap.size+1:=p0.sz;have g0:Gr ρ F w ρ F0 W0:=⟨fun _ _ h=>h,fun _ h=> .inl h,fun k hk=>p0.old (hfr.fz k hk).1⟩;have hfr0:Fr B ρ F0 W0:=by
  refine⟨hfr.os,hfr.tape,⟨hfr.output.out,hfr.output.dr⟩,by have:=hfr.size;omega,fun k hk hn=>(p0.old (by have:=hfr.size;omega)).trans (hfr.mem k hk hn),hfr.rho,fun k hk=> ?_,fun k hk=> .inl (hfr.bf k hk)⟩;rcases hk with hk|hk;·obtain⟨x,y⟩:=hfr.fz k hk;exact⟨by omega,y⟩
  ·subst hk;exact⟨by omega, .inr (.inr hfr.size)⟩
 have hi0:HI B ρ F0 W0 (aP st.heap):=by
  obtain⟨ft,hi⟩:=hi;refine⟨ft,hi.step g0 hfr (by omega) (fun _=>False) (fun b ob _ hb=> ⟨hb,fun k hk=>p0.old (hi.blk b ob k hb hk).1,fun _=>Iff.rfl⟩) (fun _ _ h=>h.elim) (fun _ _ _ h=>h.elim) (fun _ _ _ _ _ h=>h.elim) (fun k hk=> ?_) hi.fresh⟩;rcases hk with hk|hk;·exact .inl hk
  ·subst hk;exact .inr (.inr ⟨cx _,fun _ _ h=>h.elim⟩)
 have hρ:=hi0.fresh lb hlb;have g1:Gr ρ F0 W0 (bN ρ lb (.blk W0.heap.size 0 0)) F0 W1:=p1.gr hfr0 hρ;have hi1:=p1.hi hfr0 hi0 (b:=lb) (base:=0) (cap:=0) (nob:= .loop ⟨ps,assign,body,N,outs⟩ 0 sl) hlb (by
  refine⟨W0.heap.size,0,0,fn,a.tmps,w.heap.size,ay _ _,rfl,by simp, ?_,sz,fun t tv ht=> ?_⟩;·rw [p1.new];rfl
  ·obtain⟨v,hv,hr⟩:=hs t tv (hsl _ (get_mem ht));exact⟨v,hv,(hr.gr g0).gr g1⟩)
 have hfr1:=p1.fr hfr0 (pl:= .blk W0.heap.size 0 0) hρ;have hheap:upd (aP st.heap) [(lb,some (.loop ⟨ps,assign,body,N,outs⟩ 0 sl))]=aP ((lb,some (.loop ⟨ps,assign,body,N,outs⟩ 0 sl))::st.heap):=by
  funext x;rw [iZ];simp only [aP];rw [aC]
 rw [hheap]at hi1;have hL:W1.heap[w.heap.size+1]? =some (.loop {state:= .ready,pending:=none,fn,tmps:=a.tmps,params:=ps.toArray,assign,body,defers:=w.heap.size}):=by
  have:=p1.new;rw [hW0]at this;exact this
 have gg:=g0.trans g1;refine⟨w.heap.size+1,[{target:= .collected w.heap.size,args:= #[] }],W1,{target:= .fn (.func f) v2.toArray,args:=v1.toArray++ #[.func (.yield (w.heap.size+1)) #[] #[]] },W1,f,(v1.toArray++ #[.func (.yield (w.heap.size+1)) #[] #[]])++v2.toArray,W1,hent, ?_,fun _ _=>trivial, ?_,fun hh=>by simp [FW,Fence.wide]at hh, ?_⟩;·simp [resolve,hv,Deferred.ofValue];rfl
 ·obtain⟨⟨fn',e1,e2,e3⟩,_⟩:=hfn;simp only [invoke,callFunc,eC,run_program,eA,e1,e2,e3,Bool.false_eq_true,if_false];rfl
 ·-- the call
  have hargs:gT ((c1++CV.yl lb::c2).map fun c=>TV.v (.one c))=some ((c1++CV.yl lb::c2).map .one):=Fu _;have hyl:dK (bN ρ lb (.blk W0.heap.size 0 0)) F0 W1 (.yl lb) (.func (.yield (w.heap.size+1)) #[] #[]):=⟨W0.heap.size,0,0,ay _ _,by rw [hW0]⟩;have hxs:dG (bN ρ lb (.blk W0.heap.size 0 0)) F0 W1 ((c1++CV.yl lb::c2).map fun c=>TV.v (.one c)) (v1++ .func (.yield (w.heap.size+1)) #[] #[]::v2):=
   qB (((hr1.gr gg)).append ⟨hyl,hr2.gr gg⟩)
  have hmentE:((c1++CV.yl lb::c2).map SV.one).flatMap SV.bP=(c1++CV.yl lb::c2).flatMap CV.bP:=by
   rw [List.flatMap_map];rfl
  have hdropE:((ids++hout.map (·.1)).map (aP ((lb,some (.loop ⟨ps,assign,body,N,outs⟩ 0 sl))::st.heap))).drop ids.length=(hout.map (·.1)).map (aP ((lb,some (.loop ⟨ps,assign,body,N,outs⟩ 0 sl))::st.heap)):=by
   rw [List.map_append]
   conv=>lhs;arg 1;rw [<-dg (f:=aP ((lb,some (.loop ⟨ps,assign,body,N,outs⟩ 0 sl))::st.heap)) (as:=ids)]
   rw [List.drop_left]
  have htakeE:((ids++hout.map (·.1)).map (aP ((lb,some (.loop ⟨ps,assign,body,N,outs⟩ 0 sl))::st.heap))).take ids.length=ids.map (aP ((lb,some (.loop ⟨ps,assign,body,N,outs⟩ 0 sl))::st.heap)):=by
   rw [List.map_append]
   conv=>lhs;arg 1;rw [<-dg (f:=aP ((lb,some (.loop ⟨ps,assign,body,N,outs⟩ 0 sl))::st.heap)) (as:=ids)]
   rw [List.take_left]
  have hzip:bJ ids ((ids++hout.map (·.1)).map (aP ((lb,some (.loop ⟨ps,assign,body,N,outs⟩ 0 sl))::st.heap)))=some hin:=by
   rw [List.map_append];have: ∀(is:List Nat) (os os':List (Option (Option Ob))) (m:List (Nat × Option Ob)),bJ is os=some m->bJ is (os++os')=some m:=by
    intro is;induction is with
    |nil=>intro os os' m h;simpa [bJ]using h
    |cons i is ih=>
     intro os os' m h
     match os,h with
     |some (some o)::os,h=>
      simp only [bJ]at h;split at h
      ·rename_i l hl;simp only [dE,bJ,ih os os' l hl];exact h
      ·cases h
     |[],h=>simp [bJ]at h
     |none::_,h=>simp [bJ]at h
     |some none::_,h=>simp [bJ]at h
   exact this _ _ _ _ hin1
  have hall:=fun K=>AZ (res:=res) (B:=B) (X:=fun K=>CallsIn (FW none) (0 - 1) P f ((v1.toArray++ #[.func (.yield (w.heap.size+1)) #[] #[]])++v2.toArray) W1 fun e w'=> ∃v,e= .returned v/\K v w') hzip hargs
   (by rw [hmentE,htakeE,hdropE];exact hok) rfl hfr1 hi1 hxs (fun B' hw _ hF hi' hxs' K hK=>by
    have hcall:=(callsIn_wide (n:=0 - 1)).2 (hfn.2 B' (v1++ .func (.yield (w.heap.size+1)) #[] #[]::v2) hF hi' hxs');have harr:(v1++ .func (.yield (w.heap.size+1)) #[] #[]::v2).toArray=(v1.toArray++ #[.func (.yield (w.heap.size+1)) #[] #[]])++v2.toArray:=Array.ext' (by simp);rw [harr,hw]at hcall;have hcall':CallsIn (FW none) (0 - 1) P f ((v1.toArray++ #[.func (.yield (w.heap.size+1)) #[] #[]])++v2.toArray) W1 _:=hcall;refine hcall'.mono ?_;rintro e w' ⟨v,ρ',F',rfl,h1,h2,h3⟩;exact⟨v,rfl,hK v w' ⟨ρ',F',h1,h2,h3⟩⟩) K
  refine CallsIn.mono (hall (fun v w'=>rangePost (FW none) 0 P (w.heap.size+1) (fun e a' w'=> ∃st',Q e st'/\Conc B N L st' a' w') {a with defers:=[{target:= .collected w.heap.size,args:= #[] }]++a.defers} (.returned v) w')
   (fun v ρ2 F2 w2 g2 f2 hi2 hr=> ?_)) ?_
  ·-- behind the call
   obtain⟨ft2,hi2⟩:=hi2;have hl2:upd (aP ((lb,some (.loop ⟨ps,assign,body,N,outs⟩ 0 sl))::st.heap)) (hout++ids.map fun i=>(i,none)) lb=some (some (.loop r' stt sl')):=by
    rw [zM,get_append,hlo]
   obtain⟨k,base,cap,fn2,tmps2,D2,y1,y0,y2,y3,y4,y5⟩:=hi2.obj lb _ hl2;have hk:k=w.heap.size+1:=by
    have:=g2.rho lb _ (ay lb (.blk W0.heap.size 0 0));rw [y1]at this;cases this;exact hW0
   subst hk;have hend:=run_endLoop (P:=P) y3 (by
    rcases hx with⟨h0,_⟩|⟨q,c,h0,_⟩;·subst h0;simp [ko]
    ·subst h0;simp [ko])
   have pt:=aao (w:=w2) (k:=w.heap.size+1) (.loop {state:= .exhausted,pending:=fG r'.outs stt,fn:=fn2,tmps:=tmps2,params:=r'.ps.toArray,assign:=r'.assign,body:=r'.body,defers:=D2});have hblk:=hi2.blk lb _ _ hl2 y0;have g3:=pt.gr (ρ:=ρ2) hblk.2.1;have hfr3:=pt.fr f2 hblk.2.2;have hi3:mg B ρ2 F2 (w2.putObj (w.heap.size+1) (.loop {state:= .exhausted,pending:=fG r'.outs stt,fn:=fn2,tmps:=tmps2,params:=r'.ps.toArray,assign:=r'.assign,body:=r'.body,defers:=D2}))
     (aP ((lb,none)::(hout++(ids.map (fun i=>(i,none))++st.heap)))) ft2:=by
    have hu: ∀x,aP ((lb,none)::(hout++(ids.map (fun i=>(i,none))++st.heap))) x=if lb=x then some none else upd (aP ((lb,some (.loop ⟨ps,assign,body,N,outs⟩ 0 sl))::st.heap)) (hout++ids.map fun i=>(i,none)) x:=fun x=>by
     simp only [aP];rw [aC];by_cases e:lb=x;·rw [ci e,ci e]
     ·rw [ce e,ce e,<-cQ,get_append,zM];cases get (hout++ids.map fun i=>(i,none)) x with
      |some _=>rfl
      |none=>simp only;rw [aC,ce e]
    refine hi2.step g3 f2 (by rw [pt.size];omega) (fun x=>x=lb) (fun x ox e hh=> ?_) (fun x ox e hh=> ?_) (fun x ox q e hh _=> ?_) (fun x y ox oy q e1 e2 _ _ _ _=>e1.trans e2.symm) (fun q hq=> .inl hq) fun x hh=> ?_
    ·rw [hu,ce (Ne.symm e)]at hh;exact⟨hh,fun q hq=>pt.old q fun e'=>e (hi2.dis x lb ox _ q hh hl2 hq (e' ▸ y0)),fun _=>Iff.rfl⟩
    ·subst e;rw [hu,ci rfl]at hh;cases hh
    ·subst e;rw [hu,ci rfl]at hh;cases hh
    ·rw [hu]at hh;split at hh
     ·cases hh
     ·exact hi2.fresh x hh
   have gall:=(gg.trans g2).trans g3;have hconc:Conc B N L ⟨st.slots,(lb,none)::(hout++(ids.map (fun i=>(i,none))++st.heap))⟩ {a with defers:=[{target:= .collected w.heap.size,args:= #[] }]++a.defers}
     (w2.putObj (w.heap.size+1) (.loop {state:= .exhausted,pending:=fG r'.outs stt,fn:=fn2,tmps:=tmps2,params:=r'.ps.toArray,assign:=r'.assign,body:=r'.body,defers:=D2})):=by
    refine⟨⟨ρ2,F2,hfr3,⟨ft2,hi3⟩,fun t tv ht=> ?_, ?_⟩,hid,sz⟩
    ·obtain⟨v,hv,hr⟩:=hs t tv ht;exact⟨v,hv,hr.gr gall⟩
    ·obtain⟨d0,Ds,d1,d2,d3⟩:=dn;have hg12:=g1.trans (g2.trans g3);refine⟨d0,w.heap.size::Ds,by simp [d1],cA.2 ⟨fun hm=> ?_,d2⟩,fun D hD=> ?_⟩
     ·have:=(hfr.fz _ (d3 _ hm).1).1;omega
     ·rcases eh.1 hD with rfl|hD
      ·exact⟨hg12.fz _ (.inr rfl),dC d0 hfr.size,by rw [hg12.mem _ (.inr rfl)];exact p0.new⟩
      ·obtain⟨z1,z2,z3⟩:=d3 D hD;exact⟨gall.fz D z1,z2,by rw [gall.mem D z1];exact z3⟩
   refine⟨fG r'.outs stt,_,hend, ?_⟩;rcases hx with⟨h0,rfl⟩|⟨q,c,h0,hcq,hout',rfl⟩
   ·subst h0;exact⟨_,hQ,hconc⟩
   ·subst h0;have hp:fG r'.outs (q+2)=some c:=by simp [fG,hr',hcq]
    rw [hp];cases c with
    |ret=>exact wpIn_ret ⟨_,hQ,by rw [hp]at hconc;exact hconc⟩
    |exit id=>exact wpIn_exit ⟨_,hQ,by rw [hp]at hconc;exact hconc⟩
    |goto l=>exact wpIn_goto ⟨_,hQ,by rw [hp]at hconc;exact hconc⟩
    |_=>simp [Ak]at hout'
  ·rintro e w' ⟨v,rfl,hh⟩;exact hh
def Wh (s:Nat):Option Ob->Option Ob
 |some (.loop r _ sl)=>some (.loop r s sl)
 |y=>y
def zn (lb s:Nat):List (Nat × Option Ob)->List (Nat × Option Ob)
 |[]=>[]
 |(b,x)::l=>(b,bif Nat.beq b lb then Wh s x else x)::zn lb s l
theorem Kv (lb s:Nat): ∀(l:List (Nat × Option Ob)) (b:Nat),get (zn lb s l) b=bif Nat.beq b lb then(get l b).map (Wh s)else get l b
 |[],b=>by simp [zn,get]
 |(k,x)::l,b=>by
  simp only [zn];rw [aC,aC];by_cases e:k=b
  ·subst e;rw [ci rfl,ci rfl];cases Nat.beq k lb<;>rfl
  ·rw [ce e,ce e];exact Kv lb s l b
theorem Gp {a:Act} {w:World} {lb:Nat} {r:iH} {st0:Nat} {sl:List (Nat × TV)} (hc:Conc B N L st a w) (hlb:get st.heap lb=some (some (.loop r st0 sl))) {l base cap:Nat} (hl: ∀p,B.ρ lb=some p->p= .blk l base cap) (hl2:B.ρ lb≠none):
  ∃lp:Loop,w.heap[l]? =some (.loop lp)/\lp.state=ko st0/\lp.pending=fG r.outs st0/\ ∀s,s<r.outs.length+2->Conc B N L ⟨st.slots,zn lb s st.heap⟩ a (w.putObj l (.loop {lp with state:=ko s,pending:=fG r.outs s})):=by
 obtain⟨⟨ρ,F,hfr,⟨ft,hi⟩,hs,dn⟩,hid,sz⟩:=hc;obtain⟨k,base',cap',fn,tmps,D,y1,y0,y2,y3,y4,y5⟩:=hi.obj lb _ hlb;have hk:k=l:=by
  cases hB:B.ρ lb with
  |none=>exact absurd hB hl2
  |some p=>
   have:=hfr.rho lb p hB;rw [hl p hB,y1]at this;cases this;rfl
 subst hk;refine⟨_,y3,rfl,rfl,fun s hsl=> ?_⟩;show Conc B N L ⟨st.slots,zn lb s st.heap⟩ a (w.putObj k (.loop {state:=ko s,pending:=fG r.outs s,fn,tmps,params:=r.ps.toArray,assign:=r.assign,body:=r.body,defers:=D}));have pt:=aao (w:=w) (k:=k) (.loop {state:=ko s,pending:=fG r.outs s,fn,tmps,params:=r.ps.toArray,assign:=r.assign,body:=r.body,defers:=D});have hblk:=hi.blk lb _ k hlb y0;have g:=pt.gr (ρ:=ρ) hblk.2.1;have hhi:=pt.hi hfr hi hlb y0 (S:=ft lb) (nob:= .loop r s sl) (fun _ h=>h) ⟨k,base',cap',fn,tmps,D,y1,y0,hsl,World.putObj_heap_same hblk.1,y4,fun t tv ht=>by
  obtain⟨v,e1,e2⟩:=y5 t tv ht;exact⟨v,e1,e2.gr g⟩⟩
 have hu:upd (aP st.heap) [(lb,some (.loop r s sl))]=aP (zn lb s st.heap):=by
  funext b
  rw [iZ];show _=get (zn lb s st.heap) b;rw [Kv];by_cases e:lb=b
  ·subst e;rw [ci rfl,hlb,show Nat.beq lb lb=true from Nat.beq_refl lb];rfl
  ·rw [ce e,show Nat.beq b lb=false from l9 (Ne.symm e)];rfl
 rw [hu]at hhi;refine⟨⟨ρ,F,pt.fr hfr hblk.2.2,⟨_,hhi⟩,fun t tv ht=> ?_,dn.gr g⟩,hid,sz⟩;obtain⟨v,hv,hr⟩:=hs t tv ht;exact⟨v,hv,hr.gr g⟩
theorem MV: ∀{ps:List Nat} {vs:List Value} {tmps:Array Value},ps.length=vs.length->rY ps=true->(∀t∈ps,t<tmps.size)->
  ((ps.zip vs).foldl (fun(tm:Array Value) (p:Nat × Value)=>tm.setIfInBounds p.1 p.2) tmps).size=tmps.size/\
  (∀t,t ∉ ps->((ps.zip vs).foldl (fun(tm:Array Value) (p:Nat × Value)=>tm.setIfInBounds p.1 p.2) tmps)[t]? =tmps[t]?)/\
  ∀(j t:Nat) (v:Value),ps[j]? =some t->vs[j]? =some v->((ps.zip vs).foldl (fun(tm:Array Value) (p:Nat × Value)=>tm.setIfInBounds p.1 p.2) tmps)[t]? =some v
 |[],[],tmps,_,_,_=> ⟨rfl,fun _ _=>rfl,fun _ _ _ h=>by simp at h⟩
 |p::ps,v::vs,tmps,hl,hn,hlt=>by
  simp only [rY,cd,c_]at hn;have hnm:=mU hn.1;obtain⟨i1,i2,i3⟩:=MV (ps:=ps) (vs:=vs) (tmps:=tmps.setIfInBounds p v) (by simpa using hl) hn.2 (fun t ht=>by rw [eE];exact hlt t (by simp [ht]));rw [List.zip_cons_cons,List.foldl_cons];refine⟨by rw [i1];simp,fun t ht=> ?_,fun j t u hj hu=> ?_⟩;·rw [i2 t (fun h=>ht (by simp [h])),Array.getElem?_setIfInBounds_ne (fun e=>ht (by simp [e]))]
  ·cases j with
   |zero=>
    simp at hj hu;subst hj;subst hu;rw [i2 p hnm];have:=hlt p (by simp);simp [this]
   |succ j=>simp at hj hu;exact i3 j t u hj hu
 |[],_::_,_,hl,_,_=>by simp at hl
 |_::_,[],_,hl,_,_=>by simp at hl
def tX:List Nat->List SV->List (Nat × TV)
 |t::ts,s::ss=>(t, .v s)::tX ts ss
 |_,_=>[]
theorem Gn {ρ:Nat->Option Pl} {F:Nat->Prop} {w:World}: ∀{ps:List Nat} {args:List SV} {vs:List Value},dm ρ F w args vs-> ∀t tv,get (tX ps args) t=some tv-> ∃(j:Nat) (v:Value),ps[j]? =some t/\vs[j]? =some v/\bE ρ F w tv v
 |[],_,_,_,t,tv,h=>by simp [tX,get]at h
 |_::_,[],_,_,t,tv,h=>by simp [tX,get]at h
 |p::ps,s::ss,v::vs,⟨h1,h2⟩,t,tv,h=>by
  simp only [tX]at h;rw [aC]at h;split at h;·rename_i e;subst e;cases h;exact⟨0,v,rfl,rfl,h1⟩
  ·obtain⟨j,u,e1,e2,e3⟩:=Gn h2 t tv h;exact⟨j+1,u,by simpa using e1,by simpa using e2,e3⟩
 |_::_,_::_,[],h,_,_,_=>h.elim
theorem EY: ∀{ps:List Nat} {args:List SV} {t:Nat},ps.length=args.length->get (tX ps args) t=none->t ∉ ps
 |[],_,_,_,_=>by simp
 |p::ps,[],_,hl,_=>by simp at hl
 |p::ps,s::ss,t,hl,h=>by
  simp only [tX]at h;rw [aC]at h;split at h;·cases h
  ·rename_i e;rw [eh];rintro (e'|hm)
   ·exact e e'.symm
   ·exact EY (by simpa using hl) h hm
def yH (lb:Nat) (r:iH) (res:TV) (hout:List (Nat × Option Ob)) (e:Exit) (st:St):Prop:=
 ∃(s:Nat) (b:Bool) (sl:List (Nat × TV)),((e= .normal/\s=0/\b=true)\/ ∃k c,r.outs[k]? =some c/\Ak c=true/\e=zb c/\s=k+2/\b=false)/\
  get st.heap lb=some (some (.loop r 1 sl))/\oo (zn lb s st.heap) hout/\Ca (.v (.one (.d (.bool b)))) res
theorem yH.on {lb:Nat} {r:iH} {res:TV} {hout:List (Nat × Option Ob)} {sl:List (Nat × TV)} (h1:get st.heap lb=some (some (.loop r 1 sl))) (h2:oo (zn lb 0 st.heap) hout) (h3:Ca (.v (.one (.d (.bool true)))) res):yH lb r res hout .normal st:=
 ⟨0,true,sl, .inl ⟨rfl,rfl,rfl⟩,h1,h2,h3⟩
theorem yH.off {lb k:Nat} {c:Code} {e:Exit} {r:iH} {res:TV} {hout:List (Nat × Option Ob)} {sl:List (Nat × TV)} (hc:r.outs[k]? =some c) (ho:Ak c=true) (he:e=zb c) (h1:get st.heap lb=some (some (.loop r 1 sl))) (h2:oo (zn lb (k+2) st.heap) hout) (h3:Ca (.v (.one (.d (.bool false)))) res):yH lb r res hout e st:=
 ⟨k+2,false,sl, .inr ⟨k,c,hc,ho,he,rfl,rfl⟩,h1,h2,h3⟩
theorem QV {lb:Nat} {r:iH} {sl sl1:List (Nat × TV)} {args:List SV} {hin h1 hout:List (Nat × Option Ob)} {res:TV} {sl2:List (Nat × TV)} (hlb:get hin lb=some (some (.loop r 0 sl))) (hps:r.ps.length=args.length) (hnd:rY r.ps=true) (hlt:r.ps.all (fun t=>Nat.blt t r.N)=true)
  (hA: ∀rd B,jV rd P B r.N (hin.map (·.1)) r.assign (fun e st'=>e= .normal/\st'=⟨sl1,h1⟩) ⟨tX r.ps args++sl,hin⟩) (hlb1:get h1 lb=some (some (.loop r 0 sl2)))
  (hB: ∀rd B,jV rd P B r.N (hin.map (·.1)) r.body (yH lb r res hout) ⟨sl1,zn lb 1 h1⟩):Yl P lb args hin res hout:=by
 intro B0 vs l base cap hF hi hr hρ;obtain⟨B,hBe⟩: ∃B,B=B0.up:=⟨_,rfl⟩;have hF: ∀k,B.F k->k<B.w.heap.size:=by rw [hBe];exact hF
 have hi:HI B B.ρ B.F B.w (aP hin):=by rw [hBe];exact hi.up
 have hr:dm B.ρ B.F B.w args vs:=by rw [hBe];exact hr
 have hρ:B.ρ lb=some (.blk l base cap):=by rw [hBe];exact hρ
 have hmk:B.mb<=B.w.heap.size:=by rw [hBe];exact cx _
 have down: ∀{v w},Post B res hout v w->Post B0 res hout v w:=by
  rw [hBe];rintro v w ⟨ρ,F,a,b,c⟩;exact⟨ρ,F,a.dn,b.dn,c⟩
 rw [show B0.w=B.w by rw [hBe];rfl];have hi0:=hi;obtain⟨ft,hi⟩:=hi;obtain⟨k,base',cap',fn,tmps,D,y1,y0,y2,y3,y4,y5⟩:=hi.obj lb _ hlb;rw [hρ]at y1;cases y1;have hvl:=hr.length;have hy:=run_yield (P:=P) (args:=vs.toArray) y3 (by simp;omega);refine⟨fn,_,r.assign,r.body,hy, ?_⟩;have hfold:(r.ps.toArray.zip vs.toArray).foldl (fun tmps (t,a)=>tmps.setIfInBounds t a) tmps=(r.ps.zip vs).foldl (fun(tm:Array Value) (p:Nat × Value)=>tm.setIfInBounds p.1 p.2) tmps:=by
  rw [<-Array.foldl_toList];simp
 obtain⟨z1,z2,z3⟩:=MV (ps:=r.ps) (vs:=vs) (tmps:=tmps) (by omega) hnd (fun t ht=>by
  have:=List.all_eq_true.1 hlt t ht;rw [y4];exact cj (n:=t+1) this)
 have hconc:Conc B r.N (hin.map (·.1)) ⟨tX r.ps args++sl,hin⟩ {tmps:=(r.ps.toArray.zip vs.toArray).foldl (fun tmps (t,a)=>tmps.setIfInBounds t a) tmps,defers:=[] } B.w:=by
  rw [hfold];refine⟨⟨B.ρ,B.F,⟨rfl,rfl, .refl _,cx _,fun _ _ _=>rfl,fun _ _ h=>h,fun k hk=> ⟨hF k hk, .inl hk⟩,fun _ h=>h⟩,hi0,fun t tv ht=> ?_,Marks.none hmk (by rw [hBe];rfl)⟩,fun b p hbp=> ?_,by rw [z1,y4]⟩
  ·have ht:get (tX r.ps args++sl) t=some tv:=ht;rw [get_append]at ht;split at ht
   ·rename_i tv' hg;cases ht;obtain⟨j,v,e1,e2,e3⟩:=Gn hr t tv hg;exact⟨v,z3 j t v e1 e2,e3⟩
   ·rename_i hg;obtain⟨v,e1,e2⟩:=y5 t tv ht;exact⟨v,by rw [z2 t (EY hps hg)];exact e1,e2⟩
  ·apply cM;intro hnm;have:=hi.fresh b (bL hnm);rw [this]at hbp;cases hbp
 have hl1: ∀p,B.ρ lb=some p->p= .blk l base cap:=fun p hp=>by rw [hρ]at hp;cases hp;rfl
 have hl2:B.ρ lb≠none:=by rw [hρ];simp
 refine roundIn_of_wpIn (F:=FW none) trivial (wpIn_mono (hA (some l) B _ _ hconc) ?_);rintro e a1 w1 ⟨st',⟨rfl,rfl⟩,hc1⟩;obtain⟨lp,q1,q2,q3,q4⟩:=Gp hc1 hlb1 hl1 hl2;refine⟨_,run_beginRound q1 (by rw [q2];rfl), ?_⟩;have hc2:=q4 1 (by omega);have hlp:({lp with state:=ko 1,pending:=fG r.outs 1}:Loop)={lp with state:= .busy}:=by
  have:lp.pending=none:=q3;cases lp;simp at this;subst this;rfl
 rw [hlp]at hc2;refine wpIn_mono (hB (some l) B _ _ hc2) ?_;rintro e a2 w2 ⟨st2,⟨s,b,sl3,hcase,hg,hle,hres⟩,hc3⟩;obtain⟨lp2,u1,u2,u3,u4⟩:=Gp hc3 hg hl1 hl2;have fin: ∀jump:Option Code,s<r.outs.length+2->(if jump.isNone then LoopState.ready else .done)=ko s->jump=fG r.outs s->jump.isNone=b->
   ∃v w',(Instr.endRound l jump).run P w2= .ok v w'/\ ∃v',Ending.returned v=Ending.returned v'/\Post B0 res hout v' w':=by
  intro jump hs h1 h2 h3;refine⟨_,_,run_endRound jump u1,_,rfl, ?_⟩;have hc4:=u4 s hs;rw [h1,h2,show(fG r.outs s).isNone=b by rw [<-h2];exact h3];obtain⟨⟨ρ',F',f1,f2,_,_⟩,_,_⟩:=hc4;exact down ⟨ρ',F',f1,f2.le hle,hres _ _ _ _ rfl⟩
 rcases hcase with⟨rfl,rfl,rfl⟩|⟨k,c,hk,ho,rfl,rfl,rfl⟩;·exact fin none (by omega) rfl rfl rfl
 ·have hkl:k<r.outs.length:=(List.getElem?_eq_some_iff.1 hk).1;have hp:some c=fG r.outs (k+2):=by simp [fG,hk]
  cases c with
  |ret=>exact fin (some .ret) (by omega) rfl hp rfl
  |exit id=>exact fin (some (.exit id)) (by omega) rfl hp rfl
  |goto t=>exact fin (some (.goto t)) (by omega) rfl hp rfl
  |_=>simp [Ak]at ho
end
def Vk (l:List CV) (j:Nat):CV:=l.getD j (.d .nilp)
theorem Al (n:Nat) (f:Nat->CV) {j:Nat} (h:j<n):Vk ((List.range n).map f) j=f j:=by
 simp [Vk,cS,h]
def CV.ren (σ:Nat->Nat):CV->CV
 | .d x=> .d x
 | .ptr b off=> .ptr (σ b) off
 | .opt b e i off=> .opt (σ b) e i off
 | .own b nn len=> .own (σ b) nn len
 | .mp b=> .mp (σ b)
 | .fn f nf n cap=> .fn f nf n (Vk ((List.range n).map fun j=>(cap j).ren σ))
 | .yl b=> .yl (σ b)
def SV.ren (σ:Nat->Nat):SV->SV
 | .one c=> .one (c.ren σ)
 | .agg cs=> .agg (cs.map (CV.ren σ))
def TV.ren (σ:Nat->Nat):TV->TV
 | .v s=> .v (s.ren σ)
 | .eB l=> .eB (l.map (SV.ren σ))
def Ob.ren (σ:Nat->Nat):Ob->Ob
 | .cells E cs=> .cells E (cs.map (CV.ren σ))
 | .fcells E ds=> .fcells E ds
 | .frow fu E esz len el=> .frow fu E esz len el
 | .arr E esz len el=> .arr E esz len el
 | .rows E esz len el ov=> .rows E esz len el (ov.map fun x=>(x.1,x.2.1,x.2.2.ren σ))
 | .map m=> .map {m with val:=fun i j=>(m.val i j).ren σ,ms:=m.ms.map σ}
 | .loop r st sl=> .loop r st (sl.map fun p=>(p.1,p.2.ren σ))
 | .gm K V E l ov=> .gm K V E l (ov.map fun x=>(x.1,x.2.ren σ))
 | .coll=> .coll
 | .suf b l esz=> .suf (σ b) l esz
def qb (σ:Nat->Nat) (h:List (Nat × Option Ob)):List (Nat × Option Ob):=h.map fun p=>(σ p.1,p.2.map (Ob.ren σ))
section
variable {ρ:Nat->Option Pl} {F:Nat->Prop} {w:World} {σ:Nat->Nat}
theorem zV: ∀{c:CV} {v:Value},dK ρ F w (c.ren σ) v↔dK (fun x=>ρ (σ x)) F w c v:=by
 intro c;induction c with
 |fn f nf n cap ih=>
  intro v;constructor
  ·rintro ⟨vs,e,hl,h⟩;refine⟨vs,e,hl,fun j u hu=>(ih j).1 ?_⟩;have:=h j u hu
   rwa [Al _ _ (by rw [<-hl];exact(List.getElem?_eq_some_iff.1 hu).1)]at this
  ·rintro ⟨vs,e,hl,h⟩;refine⟨vs,e,hl,fun j u hu=> ?_⟩;rw [Al _ _ (by rw [<-hl];exact(List.getElem?_eq_some_iff.1 hu).1)];exact(ih j).2 (h j u hu)
 |_=>intro v;exact Iff.rfl
theorem ve: ∀{cs:List CV} {vs:List Value},bO ρ F w (cs.map (CV.ren σ)) vs↔bO (fun x=>ρ (σ x)) F w cs vs
 |[],[]=>Iff.rfl
 |_::_,_::_=>and_congr zV ve
 |[],_::_=>Iff.rfl
 |_::_,[]=>Iff.rfl
theorem zB: ∀{s:SV} {v:Value},fB ρ F w (s.ren σ) v↔fB (fun x=>ρ (σ x)) F w s v
 | .one _,_=>zV
 | .agg _,_=> ⟨fun⟨vs,e,h⟩=> ⟨vs,e,ve.1 h⟩,fun⟨vs,e,h⟩=> ⟨vs,e,ve.2 h⟩⟩
theorem mY: ∀{cs:List SV} {vs:List Value},dm ρ F w (cs.map (SV.ren σ)) vs↔dm (fun x=>ρ (σ x)) F w cs vs
 |[],[]=>Iff.rfl
 |_::_,_::_=>and_congr zB mY
 |[],_::_=>Iff.rfl
 |_::_,[]=>Iff.rfl
theorem Af: ∀{t:TV} {v:Value},bE ρ F w (t.ren σ) v↔bE (fun x=>ρ (σ x)) F w t v
 | .v _,_=>zB
 | .eB _,_=> ⟨fun⟨vs,e,h⟩=> ⟨vs,e,mY.1 h⟩,fun⟨vs,e,h⟩=> ⟨vs,e,mY.2 h⟩⟩
theorem J5: ∀{c:CV} {x:Nat},x∈(c.ren σ).bP↔ ∃y,y∈c.bP/\σ y=x:=by
 intro c;induction c with
 |d y=>intro x;simp [CV.ren,CV.bP]
 |fn f nf n cap ih=>
  intro x;simp only [CV.ren,CV.bP,List.mem_flatMap,cY];constructor
  ·rintro ⟨j,hj,h⟩;rw [Al _ _ hj]at h;obtain⟨y,hy,e⟩:=(ih j).1 h;exact⟨y,⟨j,hj,hy⟩,e⟩
  ·rintro ⟨y,⟨j,hj,hy⟩,e⟩;refine⟨j,hj, ?_⟩;rw [Al _ _ hj];exact(ih j).2 ⟨y,hy,e⟩
 |_=>intro x;simp [CV.ren,CV.bP,eq_comm]
theorem qN {α β:Type} (f:α->β): ∀(l:List (Nat × α)) (t:Nat),get (l.map fun p=>(p.1,f p.2)) t=(get l t).map f
 |[],_=>rfl
 |(k,x)::l,t=>by
  rw [cL,aC,aC,qN f l t];split<;>rfl
theorem Hf (c:Nat->CV): ∀(i n:Nat),dS (fun j=>(c j).ren σ) i n=(dS c i n).map (CV.ren σ)
 |_,0=>rfl
 |i,n+1=>by rw [dS,dS,cL,Hf c (i+1) n]
theorem Ro (agg:Bool) (cs:List CV):jU agg (cs.map (CV.ren σ))=(jU agg cs).map (SV.ren σ):=by
 cases agg with
 |true=>rfl
 |false=>match cs with
  |[]=>rfl
  |[_]=>rfl
  |_::_::_=>rfl
theorem Dr {agg:Bool} {sz:Nat} {c:Nat->CV} {v:Value}:rC ρ F w agg sz (fun j=>(c j).ren σ) v↔rC (fun x=>ρ (σ x)) F w agg sz c v:=by
 unfold rC;rw [Hf,Ro];constructor
 ·rintro ⟨s,e,h⟩;cases hh:jU agg (dS c 0 sz)with
  |none=>rw [hh]at e;cases e
  |some s'=>rw [hh]at e;cases e;exact⟨s',rfl,zB.1 h⟩
 ·rintro ⟨s,e,h⟩;rw [e];exact⟨_,rfl,zB.2 h⟩
theorem KV {S:Nat->Prop} {rb:Nat->Nat->Option Nat} {el:Nat->Nat->EV} {ov:Option (Nat × Nat × CV)} {i j:Nat} {v:Value}:
  wC ρ F w S rb el (ov.map fun x=>(x.1,x.2.1,x.2.2.ren σ)) i j v↔wC (fun x=>ρ (σ x)) F w S rb el ov i j v:=by
 unfold wC;cases ov with
 |none=>exact Iff.rfl
 |some x=>
  simp only [Option.map_some];split;·exact zV
  ·exact Iff.rfl
theorem KT {S:Nat->Prop} {rb:Nat->Option Nat} {E:TypeId} {l:List (Int × List Int)} {ov:Option (Int × CV)} {i:Nat} {v:Value}:
  uS ρ F w S rb E l (ov.map fun x=>(x.1,x.2.ren σ)) i v↔uS (fun x=>ρ (σ x)) F w S rb E l ov i v:=by
 unfold uS;cases ov with
 |none=>exact Iff.rfl
 |some x=>
  simp only [Option.map_some];split;·exact zV
  ·exact Iff.rfl
theorem Ju (hσ: ∀x y,σ x=σ y->x=y) {S:Nat->Prop} {b:Nat} {ob:Ob}:ig ρ F w S (σ b) (ob.ren σ)↔ig (fun x=>ρ (σ x)) F w S b ob:=by
 cases ob with
 |cells E cs=>
  constructor;·rintro ⟨k,cap,vs,h1,h2,h3,h4⟩;exact⟨k,cap,vs,h1,h2,h3,ve.1 h4⟩
  ·rintro ⟨k,cap,vs,h1,h2,h3,h4⟩;exact⟨k,cap,vs,h1,h2,h3,ve.2 h4⟩
 |fcells E ds=>exact Iff.rfl
 |frow fu E esz len el=>exact Iff.rfl
 |arr E esz len el=>exact Iff.rfl
 |rows E esz len el ov=>
  constructor
  ·rintro (h|⟨k,base,cap,vs,rb,h1,h2,h3,h4,h5,h6,h7,h8,h9⟩)
   ·exact .inl h
   ·exact .inr ⟨k,base,cap,vs,rb,h1,h2,h3,h4,h5,h6,fun i hi j hj=>by obtain⟨u,hu,hr⟩:=h7 i hi j hj;exact⟨u,hu,KV.1 hr⟩,h8,h9⟩
  ·rintro (h|⟨k,base,cap,vs,rb,h1,h2,h3,h4,h5,h6,h7,h8,h9⟩)
   ·exact .inl h
   ·exact .inr ⟨k,base,cap,vs,rb,h1,h2,h3,h4,h5,h6,fun i hi j hj=>by obtain⟨u,hu,hr⟩:=h7 i hi j hj;exact⟨u,hu,KV.2 hr⟩,h8,h9⟩
 |map m=>
  have hk: ∀i v,rC ρ F w m.kagg m.ksz (fun j=> .d (m.key i j)) v↔rC (fun x=>ρ (σ x)) F w m.kagg m.ksz (fun j=> .d (m.key i j)) v:=fun i v=>Dr (c:=fun j=> .d (m.key i j));constructor
  ·rintro ⟨k,base,cap,es,h1,h2,h3,h4,h5,h6⟩;refine⟨k,base,cap,es,h1,h2,h3,h4,fun i hi j hj x hx=> ?_,fun i hi=> ?_⟩
   ·obtain⟨y,hy,e⟩:=List.mem_map.1 (h5 i hi j hj (σ x) (J5.2 ⟨x,hx,rfl⟩));rw [<-hσ _ _ e];exact hy
   ·obtain⟨e,g1,g2,g3,g4⟩:=h6 i hi;exact⟨e,g1,g2,(hk _ _).1 g3,Dr.1 g4⟩
  ·rintro ⟨k,base,cap,es,h1,h2,h3,h4,h5,h6⟩;refine⟨k,base,cap,es,h1,h2,h3,h4,fun i hi j hj x hx=> ?_,fun i hi=> ?_⟩
   ·obtain⟨y,hy,e⟩:=J5.1 hx;exact List.mem_map.2 ⟨y,h5 i hi j hj y hy,e⟩
   ·obtain⟨e,g1,g2,g3,g4⟩:=h6 i hi;exact⟨e,g1,g2,(hk _ _).2 g3,Dr.2 g4⟩
 |loop r st sl=>
  constructor
  ·rintro ⟨k,base,cap,fn,tmps,D,h1,h2,h3,h4,h5,h6⟩;refine⟨k,base,cap,fn,tmps,D,h1,h2,h3,h4,h5,fun t tv ht=> ?_⟩;obtain⟨v,hv,hr⟩:=h6 t (tv.ren σ) (by rw [qN,ht];rfl);exact⟨v,hv,Af.1 hr⟩
  ·rintro ⟨k,base,cap,fn,tmps,D,h1,h2,h3,h4,h5,h6⟩;refine⟨k,base,cap,fn,tmps,D,h1,h2,h3,h4,h5,fun t tv ht=> ?_⟩;rw [qN]at ht;cases hg:get sl t with
   |none=>rw [hg]at ht;cases ht
   |some tv'=>rw [hg]at ht;cases ht;obtain⟨v,hv,hr⟩:=h6 t tv' hg;exact⟨v,hv,Af.2 hr⟩
 |gm K V E l ov=>
  constructor
  ·rintro ⟨k,base,cap,es,rb,h1,h0,h2,h3,h4,h5⟩;exact⟨k,base,cap,es,rb,h1,h0,h2,h3,fun i hi=>by obtain⟨e,e1,e2,e3,hr⟩:=h4 i hi;exact⟨e,e1,e2,e3,KT.1 hr⟩,h5⟩
  ·rintro ⟨k,base,cap,es,rb,h1,h0,h2,h3,h4,h5⟩;exact⟨k,base,cap,es,rb,h1,h0,h2,h3,fun i hi=>by obtain⟨e,e1,e2,e3,hr⟩:=h4 i hi;exact⟨e,e1,e2,e3,KT.2 hr⟩,h5⟩
 |coll=>exact Iff.rfl
 |suf b0 l esz=>exact Iff.rfl
end
structure Rn (σ τ:Nat->Nat):Prop where
 st: ∀x,σ (τ x)=x
 ts: ∀x,τ (σ x)=x
theorem Rn.inj {σ τ:Nat->Nat} (r:Rn σ τ) {x y:Nat} (h:σ x=σ y):x=y:=by rw [<-r.ts x,h,r.ts]
theorem JH {σ τ:Nat->Nat} (r:Rn σ τ): ∀(h:List (Nat × Option Ob)) (b:Nat),get (qb σ h) (σ b)=(get h b).map (Option.map (Ob.ren σ))
 |[],_=>rfl
 |(k,x)::h,b=>by
  show get ((σ k,x.map (Ob.ren σ))::qb σ h) (σ b)=_;rw [aC,aC,JH r h b];by_cases e:k=b;·rw [ci e,ci (by rw [e])];rfl
  ·rw [ce e,ce (fun e'=>e (r.inj e'))]
theorem vk {σ τ:Nat->Nat} (r:Rn σ τ) {B:Base} {ρ0:Nat->Option Pl} {ρ:Nat->Option Pl} {F:Nat->Prop} {w:World} {h:List (Nat × Option Ob)}:
  HI B ρ F w (aP (qb σ h))↔HI {B with ρ:=ρ0} (fun x=>ρ (σ x)) F w (aP h):=by
 have hg: ∀b,aP (qb σ h) (σ b)=(aP h b).map (Option.map (Ob.ren σ)):=JH r h;have hg': ∀b,aP (qb σ h) b=(aP h (τ b)).map (Option.map (Ob.ren σ)):=fun b=>by rw [<-hg,r.st]
 have key: ∀b ob,aP h b=some (some ob)->aP (qb σ h) (σ b)=some (some (ob.ren σ)):=fun b ob hh=>by rw [hg,hh];rfl
 have key': ∀b ob',aP (qb σ h) b=some (some ob')-> ∃ob,aP h (τ b)=some (some ob)/\ob'=ob.ren σ:=fun b ob' hh=>by
  rw [hg']at hh;cases h1:aP h (τ b)with
  |none=>rw [h1]at hh;cases hh
  |some o=>cases o with
   |none=>rw [h1]at hh;cases hh
   |some ob=>rw [h1]at hh;cases hh;exact⟨ob,rfl,rfl⟩
 constructor
 ·rintro ⟨ft,hi⟩;refine⟨fun b=>ft (σ b),fun b ob hh=>(Ju fun _ _=>r.inj).1 (hi.obj _ _ (key b ob hh)),fun b ob k hh hk=>hi.blk _ _ k (key b ob hh) hk,fun b b' ob ob' k h1 h2 k1 k2=>r.inj (hi.dis _ _ _ _ k (key _ _ h1) (key _ _ h2) k1 k2),fun b hb=>hi.fresh _ ?_,hi.gl⟩;rw [hg,hb];rfl
 ·rintro ⟨ft,hi⟩;refine⟨fun b=>ft (τ b),fun b ob' hh=> ?_,fun b ob' k hh hk=> ?_,fun b b' ob ob' k h1 h2 k1 k2=> ?_,fun b hb=> ?_,hi.gl⟩
  ·obtain⟨ob,h1,rfl⟩:=key' b ob' hh;have:=(Ju fun _ _=>r.inj).2 (hi.obj _ _ h1)
   rwa [r.st]at this
  ·obtain⟨ob,h1,rfl⟩:=key' b ob' hh;exact hi.blk _ _ k h1 hk
  ·obtain⟨o1,g1,_⟩:=key' b ob h1;obtain⟨o2,g2,_⟩:=key' b' ob' h2;have:=hi.dis _ _ _ _ k g1 g2 k1 k2;rw [<-r.st b,this,r.st]
  ·have:=hi.fresh (τ b) (by
    have:=hg' b;rw [hb]at this;cases h1:aP h (τ b)with
    |none=>rfl
    |some o=>rw [h1]at this;cases this)
   simpa [r.st]using this
theorem Fn.ren {σ τ:Nat->Nat} (r:Rn σ τ) {P:Program} {f:FuncId} {args:List SV} {hin hout:List (Nat × Option Ob)} {res:TV} (h:Fn P f args hin res hout):
  Fn P f (args.map (SV.ren σ)) (qb σ hin) (res.ren σ) (qb σ hout):=by
 refine⟨h.1,fun B vs hF hi hr=> ?_⟩;have hc:=h.2 {B with ρ:=fun x=>B.ρ (σ x)} vs hF ((vk r).1 hi) (mY (σ:=σ).1 hr);refine Calls.mono hc ?_;rintro e w' ⟨v,ρ',F',rfl,hf,h1,h2⟩;refine⟨v,fun x=>ρ' (τ x),F',rfl, ?_, ?_, ?_⟩
 ·refine⟨hf.os,hf.tape,hf.output,hf.size,hf.mem,fun b p hb=>hf.rho (τ b) p ?_,hf.fz,hf.bf⟩;show B.ρ (σ (τ b))=some p;rw [r.st];exact hb
 ·refine(vk (ρ0:=fun x=>B.ρ (σ x)) r).2 ?_;have:(fun x=>(fun x=>ρ' (τ x)) (σ x))=ρ':=by funext x;simp [r.ts]
  rw [this];exact h1
 ·refine Af.2 ?_;have:(fun x=>(fun x=>ρ' (τ x)) (σ x))=ρ':=by funext x;simp [r.ts]
  rw [this];exact h2
def sw (a b x:Nat):Nat:=bif Nat.beq x a then b else bif Nat.beq x b then a else x
def swp:List (Nat × Nat)->Nat->Nat
 |[],x=>x
 |(a,b)::l,x=>swp l (sw a b x)
def nN:List (Nat × Nat)->Nat->Nat
 |[],x=>x
 |(a,b)::l,x=>sw a b (nN l x)
theorem MU (a b x:Nat):sw a b x=if x=a then b else if x=b then a else x:=by
 unfold sw;cases h:Nat.beq x a with
 |true=>rw [ci (bv h)];rfl
 |false=>
  rw [ce (Nat.ne_of_beq_eq_false h)];cases h':Nat.beq x b with
  |true=>rw [ci (bv h')];rfl
  |false=>rw [ce (Nat.ne_of_beq_eq_false h')];rfl
theorem VJ (a b x:Nat):sw a b (sw a b x)=x:=by
 rw [MU a b x];by_cases h1:x=a
 ·rw [ci h1,MU];by_cases h3:b=a
  ·rw [ci h3,h1,h3]
  ·rw [ce h3,ci rfl,h1]
 ·rw [ce h1];by_cases h2:x=b
  ·rw [ci h2,MU,ci rfl,h2]
  ·rw [ce h2,MU,ce h1,ce h2]
theorem Cb: ∀l:List (Nat × Nat),Rn (swp l) (nN l)
 |[]=> ⟨fun _=>rfl,fun _=>rfl⟩
 |(a,b)::l=> ⟨fun x=>by show swp l (sw a b (sw a b (nN l x)))=x;rw [VJ,(Cb l).st],fun x=>by show sw a b (nN l (swp l (sw a b x)))=x;rw [(Cb l).ts,VJ]⟩
theorem Fn.Ma {P:Program} {f:FuncId} {args args':List SV} {hin hin' hout hout':List (Nat × Option Ob)} {res res':TV} (l:List (Nat × Nat)) (h:Fn P f args hin res hout)
  (e1:args.map (SV.ren (swp l))=args') (e2:qb (swp l) hin=hin') (e3:res.ren (swp l)=res') (e4:qb (swp l) hout=hout'):Fn P f args' hin' res' hout':=by
 subst e1;subst e2;subst e3;subst e4;exact h.ren (Cb l)
theorem Fn.leH {P:Program} {f:Nat} {args args':List SV} {hin hin' hout:List (Nat × Option Ob)} {res:TV} (h:Fn P f args hin res hout) (hl:En args' args) (hh:oo hin' hin):Fn P f args' hin' res hout:=
 ⟨h.1,fun B vs hF hi hr=>h.2 B vs hF (hi.le hh) (hl.Oo hr)⟩
def MS:DV->Bool
 | .int _ _| .bool _| .str _| .nilp| .nilf| .nilm=>true
 |_=>false
def Hw:CV->Bool
 | .d x=>MS x
 |_=>false
def Nq:SV->Bool
 | .one c=>Hw c
 | .agg cs=>cs.all Hw
def VQ:TV->Bool
 | .v s=>Nq s
 | .eB l=>l.all Nq
section
variable {ρ ρ':Nat->Option Pl} {F F':Nat->Prop} {w w':World}
theorem HV {c:CV} {v:Value} (h:Hw c=true) (hr:dK ρ F w c v):dK ρ' F' w' c v:=by
 cases c with
 |d x=>cases x<;>first|exact hr|simp [Hw,MS]at h
 |_=>simp [Hw]at h
theorem Gj: ∀{cs:List CV} {vs:List Value},cs.all Hw=true->bO ρ F w cs vs->bO ρ' F' w' cs vs
 |[],[],_,_=>trivial
 |c::cs,v::vs,h,⟨h1,h2⟩=>by
  simp only [List.all_cons,cd]at h;exact⟨HV h.1 h1,Gj h.2 h2⟩
 |[],_::_,_,h=>h.elim
 |_::_,[],_,h=>h.elim
theorem GZ {s:SV} {v:Value} (h:Nq s=true) (hr:fB ρ F w s v):fB ρ' F' w' s v:=by
 cases s with
 |one c=>exact HV h hr
 |agg cs=>obtain⟨vs,e,hl⟩:=hr;exact⟨vs,e,Gj h hl⟩
theorem Fy: ∀{cs:List SV} {vs:List Value},cs.all Nq=true->dm ρ F w cs vs->dm ρ' F' w' cs vs
 |[],[],_,_=>trivial
 |c::cs,v::vs,h,⟨h1,h2⟩=>by
  simp only [List.all_cons,cd]at h;exact⟨GZ h.1 h1,Fy h.2 h2⟩
 |[],_::_,_,h=>h.elim
 |_::_,[],_,h=>h.elim
theorem Om {t:TV} {v:Value} (h:VQ t=true) (hr:bE ρ F w t v):bE ρ' F' w' t v:=by
 cases t with
 |v s=>exact GZ h hr
 |eB l=>obtain⟨vs,e,hl⟩:=hr;exact⟨vs,e,Fy h hl⟩
end
theorem Fn.JE {P:Program} {f:Nat} {args args':List SV} {hin:List (Nat × Option Ob)} {res:TV} {frz:List Nat} {p:List Prop} (h:Fn P f args [] res []) (he:wB ⟨frz,[]⟩ (aP hin) args'=some (p,args)) (hp:All p) (hres:VQ res=true):
  Fn P f args' hin res hin:=by
 refine⟨h.1,fun B vs hF hi hr=> ?_⟩;obtain⟨ft,hi⟩:=hi;have hfr:Fr B B.ρ B.F B.w:=⟨rfl,rfl, .refl _,cx _,fun _ _ _=>rfl,fun _ _ h=>h,fun k hk=> ⟨hF k hk, .inl hk⟩,fun _ h=>h⟩;have hr2:=BI (f:=⟨frz,[]⟩) List.nodup_nil hi he hp hr;have hF2: ∀k,xZ ft B.F (aP hin) frz k->k<B.w.heap.size:=fun k hk=>by
  rcases hk with hk|⟨b,ob,_,hob,hk⟩;·exact hF k hk
  ·exact(hi.blk b ob k hob hk).1
 refine Calls.mono (h.2 ⟨B.w,yI B.ρ [],xZ ft B.F (aP hin) frz,(fun _=>False),0,[]⟩ vs hF2 ⟨fun _ _=>False,⟨fun _ _ hh=>by simp [aP,get]at hh,fun _ _ _ hh=>by simp [aP,get]at hh,fun _ _ _ _ _ hh=>by simp [aP,get]at hh,fun _ _=>rfl,fun x hx=> ⟨.inl (hi.gl x hx).1,(hi.gl x hx).2⟩⟩⟩ hr2) ?_;rintro e w' ⟨v,ρ',F',rfl,h1,h2,h3⟩;have hmem: ∀k,k<B.w.heap.size->w'.heap[k]? =B.w.heap[k]? :=fun k hk=>h1.mem k hk fun hh=>hh;have g:Gr B.ρ B.F B.w B.ρ B.F w':=⟨fun _ _ h=>h,fun _ h=>h,fun k hk=>hmem k (hF k hk)⟩;refine⟨v,B.ρ,B.F,rfl,⟨h1.os,h1.tape,h1.output,h1.size,fun k hk _=>hmem k hk,fun _ _ h=>h,fun k hk=> ⟨eJ (hF k hk) h1.size, .inl hk⟩,fun _ h=>h⟩,⟨ft, ?_⟩,Om hres h3⟩;exact hi.step g hfr h1.size (fun _=>False) (fun b ob _ hb=> ⟨hb,fun k hk=>hmem k (hi.blk b ob k hb hk).1,fun _=>Iff.rfl⟩) (fun _ _ h=>h.elim) (fun _ _ _ h=>h.elim) (fun _ _ _ _ _ h=>h.elim) (fun k hk=> .inl hk) hi.fresh
section
variable {κ α:Type}
def bg (eq:κ->κ->Bool) (k:κ):List (κ × α)->Option α
 |[]=>none
 |(k',v)::l=>bif eq k k' then some v else bg eq k l
def aG (eq:κ->κ->Bool) (k:κ) (v:α):List (κ × α)->List (κ × α)
 |[]=>[(k,v)]
 |(k',v')::l=>bif eq k k' then(k,v)::l else(k',v')::aG eq k v l
def fA (a b:Int):Bool:=decide (a=b) && true
def bn (a b:ByteArray):Bool:=(a==b) && true
def kI [Inhabited κ] (kc:κ->Nat->DV) (l:List (κ × α)):Nat->Nat->DV:=aj kc (l.map (·.1))
def kT [Inhabited α] (vc:α->Nat->DV) (l:List (κ × α)):Nat->Nat->CV:=fun i j=> .d (aj vc (l.map (·.2)) i j)
def Me [Inhabited κ] [Inhabited α] (K V:TypeId) (ka va:Bool) (ksz vsz:Nat) (kc:κ->Nat->DV) (vc:α->Nat->DV) (l:List (κ × α)):Ob:= .map ⟨K,V,ka,va,ksz,vsz,l.length,kI kc l,kT vc l,[]⟩
section
variable [Inhabited κ] [Inhabited α] {eq:κ->κ->Bool} {kc:κ->Nat->DV} {vc:α->Nat->DV} {ks:List KD} {ksz vsz:Nat}
theorem rF (x:κ × α) (l:List (κ × α)):kI kc (x::l) 0=kc x.1:=rfl
theorem nL (x:κ × α) (l:List (κ × α)) (i:Nat):kI kc (x::l) (i+1)=kI kc l i:=by
 funext j;simp [kI,aj,at']
theorem Qu (x:κ × α) (l:List (κ × α)):kT vc (x::l) 0=fun j=> .d (vc x.2 j):=rfl
theorem zW (x:κ × α) (l:List (κ × α)) (i:Nat):kT vc (x::l) (i+1)=kT vc l i:=by
 funext j;simp [kT,aj,at']
theorem JC (hk: ∀x,ax ks (bT (kc x) 0 ksz)=true): ∀(l:List (κ × α)) (i:Nat),i<l.length->ax ks (bT (kI kc l i) 0 ksz)=true
 |l,i,_=>hk _
theorem Mx (hk: ∀x,ax ks (bT (kc x) 0 ksz)=true) (he: ∀a b,iy (bT (kc a) 0 ksz) (bT (kc b) 0 ksz)=some (eq a b)) (l:List (κ × α)) (k:κ) (d:α) {kd:List DV} {zero cs:List CV}
  (hkd:kd=bT (kc k) 0 ksz) (hz:O3 zero (dS (fun j=> .d (vc d j)) 0 vsz)) (hcs:cs=dS (fun j=> .d (vc ((bg eq k l).getD d) j)) 0 vsz):
  jk ks ksz vsz l.length (kI kc l) (kT vc l) kd zero (bg eq k l).isSome cs:=by
 subst hkd;refine⟨JC hk l, ?_⟩;have key: ∀(l:List (κ × α)),((bg eq k l).isSome=true/\ ∃i,i<l.length/\iy (bT (kc k) 0 ksz) (bT (kI kc l i) 0 ksz)=some true/\(∀i',i'<i->iy (bT (kc k) 0 ksz) (bT (kI kc l i') 0 ksz)=some false)/\dS (fun j=> .d (vc ((bg eq k l).getD d) j)) 0 vsz=dS (kT vc l i) 0 vsz)\/
   ((bg eq k l).isSome=false/\(∀i,i<l.length->iy (bT (kc k) 0 ksz) (bT (kI kc l i) 0 ksz)=some false)):=by
  intro l;induction l with
  |nil=>right;exact⟨rfl,fun i hi=>absurd hi (cJ i)⟩
  |cons x l ih=>
   obtain⟨k',v⟩:=x;cases hb:eq k k' with
   |true=>
    left;refine⟨by simp [bg,hb],0,by simp,by rw [rF,he,hb],fun i' hi'=>absurd hi' (cJ i'), ?_⟩;simp only [bg,hb,bt,Option.getD_some];rfl
   |false=>
    have h0:bg eq k ((k',v)::l)=bg eq k l:=by simp [bg,hb]
    rw [h0];rcases ih with⟨h1,i,h2,h3,h4,h5⟩|⟨h1,h2⟩
    ·left;refine⟨h1,i+1,by simp;omega,by rw [nL];exact h3,fun i' hi'=> ?_,by rw [zW];exact h5⟩;cases i' with
     |zero=>rw [rF,he,hb]
     |succ i'=>rw [nL];exact h4 i' (by omega)
    ·right;refine⟨h1,fun i hi=> ?_⟩;cases i with
     |zero=>rw [rF,he,hb]
     |succ i=>rw [nL];exact h2 i (by simpa using hi)
 rcases key l with⟨h1,i,h2,h3,h4,h5⟩|⟨h1,h2⟩;·exact .inl ⟨h1,i,h2,h3,h4,hcs.trans h5⟩
 ·refine .inr ⟨h1,h2, ?_⟩;rw [hcs];cases hm:bg eq k l with
  |none=>exact hz
  |some v=>rw [hm]at h1;cases h1
theorem gZ (hk: ∀x,ax ks (bT (kc x) 0 ksz)=true) (he: ∀a b,iy (bT (kc a) 0 ksz) (bT (kc b) 0 ksz)=some (eq a b)) (l:List (κ × α)) (k:κ) (d:α) {kd:List DV} {zero cs:List CV}
  (hkd:kd=bT (kc k) 0 ksz) (hz:zero=dS (fun j=> .d (vc d j)) 0 vsz) (hcs:cs=dS (fun j=> .d (vc ((bg eq k l).getD d) j)) 0 vsz):
  jk ks ksz vsz l.length (kI kc l) (kT vc l) kd zero (bg eq k l).isSome cs:=Mx hk he l k d hkd (hz ▸ O3.refl _) hcs
theorem iN (hk: ∀x,ax ks (bT (kc x) 0 ksz)=true) (he: ∀a b,iy (bT (kc a) 0 ksz) (bT (kc b) 0 ksz)=some (eq a b)) (l:List (κ × α)) (k:κ) (v:α) {kd:List DV} {vd:List CV}
  (hkd:kd=bT (kc k) 0 ksz) (hvd:vd=dS (fun j=> .d (vc v j)) 0 vsz):
  iQ ks ksz vsz l.length (kI kc l) (kT vc l) kd vd [] (aG eq k v l).length (kI kc (aG eq k v l)) (kT vc (aG eq k v l)):=by
 subst hkd;subst hvd;refine⟨JC hk l,fun i _ j _ x hx=>by simp [kT,CV.bP]at hx, ?_⟩;induction l with
 |nil=>exact⟨0,fun i' hi'=>absurd hi' (cJ i'), .inr ⟨rfl,rfl⟩,rfl,rfl,fun i' hi'=>absurd hi' (cJ i')⟩
 |cons x l ih=>
  obtain⟨k',v'⟩:=x;cases hb:eq k k' with
  |true=>
   have h0:aG eq k v ((k',v')::l)=(k,v)::l:=by simp [aG,hb]
   rw [h0];refine⟨0,fun i' hi'=>absurd hi' (cJ i'), .inl ⟨by simp,by rw [rF,he,hb],rfl⟩,rfl,rfl,fun i' hi' hne=> ?_⟩;cases i' with
   |zero=>exact absurd rfl hne
   |succ i'=>simp only [nL,zW,and_self]
  |false=>
   have h0:aG eq k v ((k',v')::l)=(k',v')::aG eq k v l:=by simp [aG,hb]
   rw [h0];obtain⟨i,h1,h2,h3,h4,h5⟩:=ih;refine⟨i+1,fun i' hi'=> ?_, ?_,by rw [nL];exact h3,by rw [zW];exact h4,fun i' hi' hne=> ?_⟩
   ·cases i' with
    |zero=>rw [rF,he,hb]
    |succ i'=>rw [nL];exact h1 i' (by omega)
   ·rcases h2 with⟨a,b,c⟩|⟨a,b⟩
    ·exact .inl ⟨by simp;omega,by rw [nL];exact b,by simp [c]⟩
    ·exact .inr ⟨by simp [a],by simp [b]⟩
   ·cases i' with
    |zero=>simp only [rF,Qu,and_self]
    |succ i'=>
     simp only [nL,zW];exact h5 i' (by simpa using hi') (by omega)
end
end
def Rc:List Nat->Code->Code
 |[],c=>c
 |i::l,c=>match c,i with
  | .seq x _,0=>Rc l x
  | .seq _ y,_=>Rc l y
  | .cond _ x _,0=>Rc l x
  | .cond _ _ y,_=>Rc l y
  | .block _ x,_=>Rc l x
  | .loop x,_=>Rc l x
  | .scope x,_=>Rc l x
  | .rangeFunc _ _ x _,0=>Rc l x
  | .rangeFunc _ _ _ y,_=>Rc l y
  |c,_=>c
def jX (f:Func):Code:=match f.body with|some c=>c|none=> .skip
theorem G6.of {x y:Option Ob} (h:x=y):G6 x y:=h ▸ .refl x
section
variable {rd:Option Nat} {P:Program} {B:Base} {N:Nat} {L:List Nat} {Q:Exit->St->Prop} {st st':St}
end
section
variable (rd:Option Nat) (P:Program) (B:Base) (N:Nat) (L:List Nat) (c:Code) (Q:Exit->St->Prop)
def LoopN:Nat->St->Prop
 |0,_=>False
 |m+1,st=>jV rd P B N L c (fun e st'=>match e with| .normal=>LoopN m st'|e=>Q e st') st
end
section
variable {rd:Option Nat} {P:Program} {B:Base} {N:Nat} {L:List Nat} {Q:Exit->St->Prop} {st:St} {c:Code}
theorem Pw (m:Nat) (h:LoopN rd P B N L c Q m st):jV rd P B N L (.loop c) Q st:=by
 intro a w hc;refine wpIn_loop_rounds m ?_;revert st a w;induction m with
 |zero=>intro st h;exact h.elim
 |succ m ih=>
  intro st h a w hc;rw [roundsIn_succ];refine wpIn_mono (h a w hc) ?_;rintro e a' w' ⟨st',h1,h2⟩;cases e with
  |normal=>exact ih h1 a' w' h2
  |exit id=>exact⟨st',h1,h2⟩
  |goto l=>exact⟨st',h1,h2⟩
  |ret=>exact⟨st',h1,h2⟩
  |panic v=>exact⟨st',h1,h2⟩
  |outgrown=>exact⟨st',h1,h2⟩
end
theorem Cr {P:Program} {b:Frame} {a:Act} {k:List Item} {cs:List Frame} {w:World} {c:Code}:Go.step P (lone (b.atR a (.code (.scope c)::k)) cs w)= .next (lone (b.atR a (.code c:: .inScope c::k)) cs w):=
 step_lone_go (by simp [stepG,stepG.exec,Frame.atR])
theorem xO {P:Program} {b:Frame} {a:Act} {k:List Item} {cs:List Frame} {w:World} {c:Code}:Go.step P (lone (b.atR a (.inScope c::k)) cs w)= .next (lone (b.atR a k) cs w):=
 step_lone_go (by simp [stepG,stepG.exec,Frame.atR])
def GQ {σ ρ:Type} (l:Nat) (S:σ->St) (R:ρ->Exit->St->Prop):bC σ ρ->Exit->St->Prop
 | .next s,e,st=>e= .goto l/\st=S s
 | .done r,e,st=>(∀l',e≠ .goto l')/\R r e st
section
variable {rd:Option Nat} {P:Program} {B:Base} {N:Nat} {L:List Nat} {st:St}
theorem Mq {σ ρ:Type} {c rest:Code} (l:Nat) (hf:findLabel c l=some rest) (S:σ->St) (R:ρ->Exit->St->Prop) {body:σ->Option (bC σ ρ)} {n:Nat} {s0:σ} {o:ρ} (h:aI body n s0=some o)
  (hb: ∀s f,body s=some f->jV rd P B N L rest (GQ l S R f) (S s)) (h1: ∀f,body s0=some f->jV rd P B N L c (GQ l S R f) st):jV rd P B N L (.scope c) (R o) st:=by
 intro a w hc b k cs hro hbu hr;have hg:gotoIn l (.inScope c::k)=some (.code rest:: .inScope c::k):=by simp [gotoIn,hf]
 have fin: ∀(m:Nat) (s:σ) (f:bC σ ρ) (x:Code) (a:Act) (w:World),aI body (m+1) s=some o->body s=some f->
   (∀s' a' w',aI body m s'=some o->Conc B N L (S s') a' w'-> ∃e a2 w2,(∃st',R o e st'/\Conc B N L st' a2 w2)/\ArrivesIn (Machine.fenced P (FW rd)) P (lone (b.atR a' (.code rest:: .inScope c::k)) cs w') b k cs e a2 w2)->
   (∃e a1 w1,(∃st',GQ l S R f e st'/\Conc B N L st' a1 w1)/\ArrivesIn (Machine.fenced P (FW rd)) P (lone (b.atR a (.code x:: .inScope c::k)) cs w) b (.inScope c::k) cs e a1 w1)->
   ∃e a2 w2,(∃st',R o e st'/\Conc B N L st' a2 w2)/\ArrivesIn (Machine.fenced P (FW rd)) P (lone (b.atR a (.code x:: .inScope c::k)) cs w) b k cs e a2 w2:=by
  rintro m s f x a w hl hbs ih ⟨e,a1,w1,⟨st',hq,hconc⟩,harr⟩;rw [aF,hbs]at hl;cases f with
  |next s'=>
   obtain⟨rfl,rfl⟩:=hq;obtain⟨e2,a2,w2,hq2,harr2⟩:=ih s' a1 w1 hl hconc;exact⟨e2,a2,w2,hq2, .of_steps (harr.1 _ hg) harr2⟩
  |done r=>
   obtain⟨hng,hR⟩:=hq;simp only [Option.some.injEq]at hl;subst hl;cases e with
   |normal=>exact⟨.normal,a1,w1,⟨st',hR,hconc⟩,StepsIn.trans harr (.one (fenced_calm hbu hr rfl) xO)⟩
   |exit id=>
    have hx:exitTo id (.inScope c::k)=exitTo id k:=by simp [exitTo]
    exact⟨_,a1,w1,⟨st',hR,hconc⟩,fun k' hk=>harr.1 k' (by rw [hx];exact hk),fun hr' hk=>harr.2 hr' (by rw [hx];exact hk)⟩
   |goto l'=>exact absurd rfl (hng l')
   |ret=>exact⟨_,a1,w1,⟨st',hR,hconc⟩,harr⟩
   |panic ch=>exact⟨_,a1,w1,⟨st',hR,hconc⟩,harr⟩
   |outgrown=>exact⟨_,a1,w1,⟨st',hR,hconc⟩,harr⟩
 have key: ∀m s a w,aI body m s=some o->Conc B N L (S s) a w-> ∃e a2 w2,(∃st',R o e st'/\Conc B N L st' a2 w2)/\ArrivesIn (Machine.fenced P (FW rd)) P (lone (b.atR a (.code rest:: .inScope c::k)) cs w) b k cs e a2 w2:=by
  intro m;induction m with
  |zero=>intro s a w hl;cases hl
  |succ m ih=>
   intro s a w hl hconc;cases hbs:body s with
   |none=>rw [aF,hbs]at hl;cases hl
   |some f=>exact fin m s f rest a w hl hbs (fun s' a' w' h1 h2=>ih s' a' w' h1 h2) (hb s f hbs a w hconc b (.inScope c::k) cs hro hbu hr)
 cases n with
 |zero=>cases h
 |succ n=>
  cases hbs:body s0 with
  |none=>rw [aF,hbs]at h;cases h
  |some f=>
   obtain⟨e,a2,w2,hq,harr⟩:=fin n s0 f c a w h hbs (fun s' a' w' h1 h2=>key n s' a' w' h1 h2) (h1 f hbs a w hc b (.inScope c::k) cs hro hbu hr);exact⟨e,a2,w2,hq, .of_steps (.one (fenced_calm hbu hr rfl) Cr) harr⟩
end
section
variable {rd:Option Nat} {P:Program} {B:Base} {N:Nat} {L:List Nat} {Q:Exit->St->Prop} {st:St}
end
theorem Yl.leH {P:Program} {b:Nat} {args args':List SV} {hin hin' hout:List (Nat × Option Ob)} {res:TV} (h:Yl P b args hin res hout) (hl:En args' args) (hh:oo hin' hin):Yl P b args' hin' res hout:=
 fun B vs l base cap hF hi hr hb=>h B vs l base cap hF (hi.le hh) (hl.Oo hr) hb
theorem Yl.Ma {P:Program} {b b':Nat} {args args':List SV} {hin hin' hout hout':List (Nat × Option Ob)} {res res':TV} (l:List (Nat × Nat)) (h:Yl P b args hin res hout)
  (e0:swp l b=b') (e1:args.map (SV.ren (swp l))=args') (e2:qb (swp l) hin=hin') (e3:res.ren (swp l)=res') (e4:qb (swp l) hout=hout'):Yl P b' args' hin' res' hout':=by
 subst e0;subst e1;subst e2;subst e3;subst e4;have r:=Cb l;intro B vs lp base cap hF hi hr hb;obtain⟨fn,tmps,assign,body,h1,h2⟩:=h {B with ρ:=fun x=>B.ρ (swp l x)} vs lp base cap hF ((vk r).1 hi) (mY (σ:=swp l).1 hr) hb;refine⟨fn,tmps,assign,body,h1,h2.mono ?_⟩;rintro e w' ⟨v,rfl,ρ',F',hf,g1,g2⟩;refine⟨v,rfl,fun x=>ρ' (nN l x),F', ?_, ?_, ?_⟩
 ·refine⟨hf.os,hf.tape,hf.output,hf.size,hf.mem,fun b p hb=>hf.rho (nN l b) p ?_,hf.fz,hf.bf⟩;show B.ρ (swp l (nN l b))=some p;rw [r.st];exact hb
 ·refine(vk (ρ0:=fun x=>B.ρ (swp l x)) r).2 ?_;have:(fun x=>(fun x=>ρ' (nN l x)) (swp l x))=ρ':=by funext x;simp [r.ts]
  rw [this];exact g1
 ·refine Af.2 ?_;have:(fun x=>(fun x=>ρ' (nN l x)) (swp l x))=ρ':=by funext x;simp [r.ts]
  rw [this];exact g2
def DLs:List DV->List DV->Prop
 |[],[]=>True
 |x::xs,y::ys=>lQ x y/\DLs xs ys
 |_,_=>False
theorem DLs.get: ∀{xs ys:List DV},DLs xs ys->xs.length=ys.length/\ ∀j,lQ (xs.getD j .nilp) (ys.getD j .nilp)
 |[],[],_=> ⟨rfl,fun _=> .refl _⟩
 |x::xs,y::ys,⟨h1,h2⟩=>by
  obtain⟨g1,g2⟩:=DLs.get h2;refine⟨by simp [g1],fun j=> ?_⟩;cases j with
  |zero=>exact h1
  |succ j=>simpa using g2 j
 |[],_::_,h=>h.elim
 |_::_,[],h=>h.elim
def pR {α:Type} [Inhabited α] (c:α->Nat->EV) (l:List α):Nat->Nat->EV:=fun i j=>c (at' l i) j
section
variable {α:Type} [Inhabited α]
theorem qR (c:α->Nat->EV) (l:List α) (n esz i off:Nat) (v:EV) (x:α) (hn:n=l.length) (h: ∀j,j<esz->c x j=if j=off then v else c (at' l i) j):FV n esz (Nw (pR c l) i off v) (pR c (l.set i x)):=by
 intro i' hi' j hj;unfold Nw pR;by_cases e:i'=i
 ·subst e;rw [DX (by omega),h j hj];by_cases e2:j=off<;>simp [e2]
 ·rw [Dy (Ne.symm e),ce (fun hh=>e hh.1)]
theorem NA (c:α->Nat->EV) (l m:List α) (esz:Nat) (elx:Nat->Nat->DV) (h: ∀i,i<m.length-> ∀j,j<esz->Pt (elx i j) (c (at' m i) j)):Ay l.length m.length esz (pR c l) elx (pR c (l++m)):=by
 refine⟨fun i hi j _=> ?_,fun i hi j hj=> ?_⟩;·unfold pR;rw [ug hi]
 ·unfold pR;rw [rz (by omega),Nat.add_sub_cancel_left];exact h i hi j hj
end
def qx (ks:List DV):Nat->Nat->DV:=fun i _=>ks.getD i .nilp
def P9 (vsz:Nat) (vs:List CV):Nat->Nat->CV:=fun i j=>vs.getD (i*vsz+j) (.d .nilp)
theorem Fn.nn {P:Program} {f:Nat} {esz len:Nat} {el:Nat->Nat->DV} {hin hout:List (Nat × Option Ob)} {res:TV} (h1:Fn P f [.one (.d (.sl (some true) esz len el))] hin res hout) (h2:len=0->Fn P f [.one (.d (.sl (some false) esz len el))] hin res hout):
  Fn P f [.one (.d (.sl none esz len el))] hin res hout:=by
 refine⟨h1.1,fun B vs hF hi hr=> ?_⟩
 match vs,hr with
 |[v],⟨⟨a,cap,hv,_,_,h3,h4,h5⟩,_⟩=>
  cases a with
  |none=>exact(h2 (h3 rfl).1).2 B [v] hF hi ⟨⟨none,cap,hv,(fun e=>by cases e),fun _=>rfl,h3,h4,h5⟩,trivial⟩
  |some ad=>exact h1.2 B [v] hF hi ⟨⟨some ad,cap,hv,fun _ e=>(by cases e),(fun e=>by cases e),h3,h4,h5⟩,trivial⟩
 |[],hr=>exact hr.elim
 |_::_::_,hr=>exact hr.2.elim
section
variable {B:Base} {N:Nat} {L:List Nat} {st:St}
theorem jl.Zo {p q b b' E esz n:Nat} {el:Nat->Nat->DV} {E0:TypeId} {cs:List CV} {nn:Bool} {len:Nat} (hp:get st.heap p=some (some (.cells E0 cs))) (hq:cs[q]? =some (.own b nn len)) (hb:get st.heap b=some (some (.arr E esz n el))) (hb':get st.heap b'=none):
  jl B N L st ⟨st.slots,(p,some (.cells E0 (cs.set q (.own b' nn len))))::(b',some (.arr E esz n el))::(b,none)::st.heap⟩:=by
 intro a w hc;obtain⟨⟨ρ,F,hfr,⟨ft,hi⟩,hs,dn⟩,hid,sz⟩:=hc;have hρ:=hi.fresh b' hb';have hpb:p≠b:=fun e=>by rw [e,hb]at hp;cases hp
 have hpb':p≠b':=fun e=>by rw [e,hb']at hp;cases hp
 have hbb':b≠b':=fun e=>by rw [e,hb']at hb;cases hb
 obtain⟨pl,hpl⟩: ∃pl,ρ b=some pl:=by
  rcases hi.obj b _ hb with⟨h,_⟩|⟨k,base,cap,h,_⟩<;>exact⟨_,h⟩
 have hu: ∀x,aP ((p,some (.cells E0 (cs.set q (.own b' nn len))))::(b',some (.arr E esz n el))::(b,none)::st.heap) x=if p=x then some (some (.cells E0 (cs.set q (.own b' nn len))))else if b'=x then some (some (.arr E esz n el))else if b=x then some none else aP st.heap x:=fun x=>by simp only [aP];rw [aC,aC,aC]
 have g:Gr ρ F w (bN ρ b' pl) F w:=⟨aS hρ,fun _ h=>h,fun _ _=>rfl⟩;have hlive: ∀x ox,(x=p\/x=b'\/x=b)->aP ((p,some (.cells E0 (cs.set q (.own b' nn len))))::(b',some (.arr E esz n el))::(b,none)::st.heap) x=some (some ox)->(x=p/\ox= .cells E0 (cs.set q (.own b' nn len)))\/(x=b'/\ox= .arr E esz n el):=fun x ox hx hh=>by
  rw [hu]at hh;rcases hx with rfl|rfl|rfl;·rw [ci rfl]at hh;cases hh;exact .inl ⟨rfl,rfl⟩
  ·rw [ce hpb',ci rfl]at hh;cases hh;exact .inr ⟨rfl,rfl⟩
  ·rw [ce hpb,ce (Ne.symm hbb'),ci rfl]at hh;cases hh
 refine⟨⟨bN ρ b' pl,F,{hfr with rho:=fun x p' e=>aS hρ x p' (hfr.rho x p' e)},⟨qa ft b' (ft b), ?_⟩,fun t' tv ht'=> ?_,dn⟩,hid,sz⟩
 ·refine hi.step g hfr (cx _) (fun x=>x=p\/x=b'\/x=b) (fun x ox hx hh=> ?_) (fun x ox hx hh=> ?_) (fun x ox k hx hh hf=> ?_) (fun x y ox oy k hx hy h1 h2 f1 f2=> ?_) (fun k hk=> .inl hk) fun x hh=> ?_
  ·rw [hu,ce (fun e=>hx (.inl e.symm)),ce (fun e=>hx (.inr (.inl e.symm))),ce (fun e=>hx (.inr (.inr e.symm)))]at hh;exact⟨hh,fun _ _=>rfl,fun k=>by rw [eY (fun e=>hx (.inr (.inl e)))]⟩
  ·rcases hlive x ox hx hh with⟨rfl,rfl⟩|⟨rfl,rfl⟩
   ·rw [eY hpb'];obtain⟨k,cap,vs,x1,x0,x2,x3⟩:=hi.obj x _ hp;refine⟨k,cap,vs,aS hρ _ _ x1,x0,x2,bO.jJ (by rw [x3.length,cH]) fun j c hj=> ?_⟩;rw [List.getElem?_set]at hj;split at hj
    ·rename_i e;subst e;split at hj
     ·cases hj;obtain⟨u,hu',hr⟩:=x3.get hq;refine⟨u,hu', ?_⟩;rcases hr with⟨k,base,cap,e1,e2⟩|⟨e0,e1,e2,e3⟩
      ·rw [hpl]at e1;cases e1;exact .inl ⟨k,base,cap,ay _ _,e2⟩
      ·rw [hpl]at e1;cases e1;exact .inr ⟨e0,ay _ _,e2,e3⟩
     ·cases hj
    ·obtain⟨u,hu',hr⟩:=x3.get hj;exact⟨u,hu',hr.gr g⟩
   ·rw [bB];rcases hi.obj b _ hb with⟨h,h0⟩|⟨k,base,cap,h,h1,h2⟩
    ·rw [hpl]at h;cases h;exact .inl ⟨ay _ _,h0⟩
    ·rw [hpl]at h;cases h;exact .inr ⟨k,base,cap,ay _ _,h1,h2⟩
  ·rcases hlive x ox hx hh with⟨rfl,rfl⟩|⟨rfl,rfl⟩
   ·rw [eY hpb']at hf;exact .inl ⟨x,_, .inl rfl,hp,hf⟩
   ·rw [bB]at hf;exact .inl ⟨b,_, .inr (.inr rfl),hb,hf⟩
  ·rcases hlive x ox hx h1 with⟨rfl,rfl⟩|⟨rfl,rfl⟩<;>rcases hlive y oy hy h2 with⟨rfl,rfl⟩|⟨rfl,rfl⟩
   ·rfl
   ·rw [eY hpb']at f1;rw [bB]at f2;exact absurd (hi.dis _ _ _ _ k hp hb f1 f2) hpb
   ·rw [bB]at f1;rw [eY hpb']at f2;exact absurd (hi.dis _ _ _ _ k hb hp f1 f2).symm hpb
   ·rfl
  ·rw [hu]at hh;split at hh
   ·cases hh
   ·split at hh
    ·cases hh
    ·split at hh
     ·cases hh
     ·rename_i e1 e2 e3;have:=hi.fresh x hh;simp only [bN];rw [ce (Ne.symm e2)];exact this
 ·obtain⟨v,hv,hr⟩:=hs t' tv ht';exact⟨v,hv,hr.gr g⟩
end
theorem sG {E esz n:Nat} {f g:Nat->Nat->DV} (h: ∀i,i<n-> ∀j,j<esz->lQ (f i j) (g i j)):G6 (some (.arr E esz n f)) (some (.arr E esz n g)):=by
 rintro ρ F w S b (hr|⟨k,base,cap,x1,x0,vs,x2,x3,x4,x5,x6⟩);·exact .inl hr
 ·exact .inr ⟨k,base,cap,x1,x0,vs,x2,x3,x4,x5,fun i hi j hj=>by
   obtain⟨u,hu,hr⟩:=x6 i hi j hj;exact⟨u,hu,h i hi j hj _ _ _ hr⟩⟩
theorem Ns {α:Type} [Inhabited α] (l:List α) (k i:Nat):at' (l.drop k) i=at' l (i+k):=by
 unfold at';rw [cS,cS,List.getElem?_drop,ea]
theorem Mt {α:Type} [Inhabited α] {n:Nat} (c:α->Nat->DV) (l:List α) (esz k:Nat): ∀i,i<n-> ∀j,j<esz->lQ ((fun i j=>aj c l (i+k) j) i j) (aj c (l.drop k) i j):=fun i _ j _=> .of (by
 show c (at' l (i+k)) j=c (at' (l.drop k) i) j;rw [Ns])
theorem lQ.slN {nn qQ:Option Bool} {esz len m:Nat} {f g:Nat->Nat->DV} (hl:len=m) (hn:qQ=none\/qQ=nn) (h: ∀i,i<len-> ∀j,j<esz->lQ (f i j) (g i j)):lQ (.sl nn esz len f) (.sl qQ esz m g):=hl ▸ lQ.sl hn h
theorem toNat_lt {i:Int} {n:Nat} (h:(0:Int)<=i/\i<(n:Int)):i.toNat<n:=by omega
def abE (l:List (Nat × Option Ob)):CV->Bool
 | .d x=>MS x
 | .own b _ _=>(get l b).isSome
 |_=>false
def ZR (l:List (Nat × Option Ob)):Ob->Prop
 | .cells _ cs=>cs.all (abE l)=true
 | .arr _ _ _ el=> ∀i j,MS (el i j)=true
 |_=>False
def Ou (l:List (Nat × Option Ob)):List (Nat × Option Ob)->Prop
 |[]=>True
 |(_,none)::r=>Ou l r
 |(_,some o)::r=>ZR l o/\Ou l r
section
variable {ρ ρ':Nat->Option Pl} {F F':Nat->Prop} {w w':World} {l:List (Nat × Option Ob)}
theorem Ou.get: ∀{m:List (Nat × Option Ob)},Ou l m-> ∀{b:Nat} {o:Ob},Sg.get m b=some (some o)->ZR l o
 |[],_,b,o,h=>by cases h
 |(b0,x)::m,hm,b,o,h=>by
  rw [aC]at h;split at h;·cases h;exact hm.1
  ·cases x with
   |none=>exact Ou.get (m:=m) hm h
   |some _=>exact Ou.get hm.2 h
end
abbrev nS:DV:= .sl (some false) 0 0 fun _ _=> .nilp
structure RI where
 yb:List (Nat × Bool):=[]
 an:List (Nat × iJ):=[]
 fr:List (Nat × Nat):=[]
def jY {α:Type} (l:List (Nat × α)):List Nat:=l.map (·.1)
def Z8 (frz:List Nat) (s:St):Fin:=⟨frz,s.heap.map fun p=>(p.1,p.1)⟩
def RI.on (x:RI) (frz:List Nat) (s:St):vv:={yb:=ybf x.yb,an:=anf x.an,fr:=K6 x.fr,fin:=Z8 frz s,ts:=jY s.slots}
def Y2 (a l:List Nat):List Nat:=l.foldl (fun acc x=>bif fK x acc then acc else x::acc) a
def aa9:List Oper->Nat->List (Nat × List Nat)->List (Nat × List Nat)
 |[],_,acc=>acc
 |o::os,i,acc=>aa9 os (i+1) ((i,o.after.toList.foldl (fun x e=>bif Region.binds .any e then Y2 (Y2 x [e.on]) (match get acc e.on with|some l=>l|none=>[])else x) [])::acc)
def Z0 (ops:Array Oper):List (Nat × List Nat):=aa9 ops.toList 0 []
section
variable {rd:Option Nat} {P:Program} {B:Base} {N:Nat} {L:List Nat} {T:List (Nat × TI)} {Q:Exit->St->Prop} {st st':St} {id:Nat} {ops:Array Oper} {y:Code}
theorem rg (hT:kg P T) (s:St) (cs:List Prop) (x:RI) (frz:List Nat) (hc:All cs) (hQ:Q .normal s) (he:K9 (vF P) T ops N L (x.on frz s) st=some (cs,s):=by kernel_rfl):jV rd P B N L (.region id ops false) Q st:=
 Ic hT s _ he hc .refl hQ
theorem sz (hT:kg P T) (s:St) (x:RI) (frz:List Nat) (hQ:jV rd P B N L y Q s) (he:K9 (vF P) T ops N L (x.on frz s) st=some ([],s):=by kernel_rfl):jV rd P B N L (.seq (.region id ops false) y) Q st:=
 tH (Ic hT s _ he trivial .refl hQ)
theorem si (hT:kg P T) (s:St) (cs:List Prop) (x:RI) (frz:List Nat) (hc:All cs) (hi:jl B N L s st') (hQ:jV rd P B N L y Q st') (he:K9 (vF P) T ops N L (x.on frz s) st=some (cs,s):=by kernel_rfl):jV rd P B N L (.seq (.region id ops false) y) Q st:=
 tH (Ic hT s _ he hc hi hQ)
theorem sj (hT:kg P T) (hm:P.follows .mixedOrders=true) (s:St) (cs:List Prop) (x:RI) (frz:List Nat) (hc:All cs) (hi:jl B N L s st') (hQ:jV rd P B N L y Q st') (he:Rs (vF P) T ops N L (x.on frz s) (Z0 ops) st=some (cs,s):=by kernel_rfl):jV rd P B N L (.seq (.region id ops true) y) Q st:=
 tH (Qi hT hm s _ _ he hc hi hQ)
theorem fz (s:St) (frz:List Nat) (he:finish L (Z8 frz s) (jY s.slots) [] (lm st)=some ([],s):=by kernel_rfl):jl B N L st s:=jl.fin _ _ he trivial
def yt {α:Type} (t:Nat) (v:α):List (Nat × α)->List (Nat × α)
 |[]=>[]
 |(k,x)::l=>bif Nat.beq k t then(k,v)::l else(k,x)::yt t v l
theorem G8 {α:Type} {t:Nat} {v:α}: ∀{l:List (Nat × α)} {n:Nat} {x:α},get (yt t v l) n=some x->(n=t/\x=v/\(get l t).isSome)\/get l n=some x
 |[],n,x,h=>by simp [yt,get]at h
 |(k,y)::l,n,x,h=>by
  unfold yt at h;cases e:Nat.beq k t with
  |true=>
   have:=bv e;subst this;simp only [e,bt,aC]at h;split at h;·rename_i hk;cases h;left;exact⟨hk.symm,rfl,by simp [aC]⟩
   ·rename_i hk;right;rw [aC,ce hk];exact h
  |false=>
   simp only [e,bu,aC]at h;have hkt:k≠t:=fun q=>by subst q;simp at e
   split at h;·rename_i hk;right;rw [aC,ci hk];exact h
   ·rename_i hk;rcases G8 h with⟨h1,h2,h3⟩|h1
    ·left;exact⟨h1,h2,by rw [aC,ce hkt];exact h3⟩
    ·right;rw [aC,ce hk];exact h1
theorem JY {b:Nat} {x y:Option Ob} (h:G6 x y): ∀{l:List (Nat × Option Ob)},get l b=some x->oo l (yt b y l)
 |[],e=>by cases e
 |(k,z)::l,e=>by
  unfold yt;rw [aC]at e;by_cases hk:k=b
  ·subst hk;rw [ci rfl]at e;cases e;simp only [Nat.beq_refl,bt];exact⟨rfl,h,oo.refl l⟩
  ·rw [ce hk]at e;have:Nat.beq k b=false:=l9 hk;simp only [this,bu];exact⟨rfl,G6.refl z,JY h e⟩
theorem us (t:Nat) (y:TV) {x:TV} (he:get st.slots t=some x) (h:Ca x y):jl B N L st ⟨yt t y st.slots,st.heap⟩:=by
 intro a w hc;obtain⟨⟨ρ,F,hfr,hhi,hs,dn⟩,hid,sz⟩:=hc;refine⟨⟨ρ,F,hfr,hhi,fun t' tv ht=> ?_,dn⟩,hid,sz⟩;rcases G8 ht with⟨rfl,rfl,_⟩|h1
 ·obtain⟨v,hv,hr⟩:=hs _ _ he;exact⟨v,hv,h _ _ _ _ hr⟩
 ·exact hs _ _ h1
theorem uh (b:Nat) (y:Option Ob) {x:Option Ob} (he:get st.heap b=some x) (h:G6 x y):jl B N L st ⟨st.slots,yt b y st.heap⟩:=by
 intro a w hc;obtain⟨⟨ρ,F,hfr,hhi,hs,dn⟩,hid,sz⟩:=hc;exact⟨⟨ρ,F,hfr,hhi.le (JY h he),hs,dn⟩,hid,sz⟩
theorem cf {c:Operand} {x:Code} {b:Bool} (hb:b=false) (h:jV rd P B N L y Q st) (he:Au st c=some (.v (.one (.d (.bool b)))):=by kernel_rfl):jV rd P B N L (.cond c x y) Q st:=
 uW b he (fun hn=>absurd (hb.symm.trans hn) Bool.noConfusion) fun _=>h
theorem ck {c:Operand} {x:Code} (h:jV rd P B N L x Q st) (he:Au st c=some (.v (.one (.d (.bool true)))):=by kernel_rfl):jV rd P B N L (.cond c x y) Q st:=
 uW true he (fun _=>h) fun hn=>Bool.noConfusion hn
theorem cn {c:Operand} {x:Code} (h:jV rd P B N L y Q st) (he:Au st c=some (.v (.one (.d (.bool false)))):=by kernel_rfl):jV rd P B N L (.cond c x y) Q st:=
 uW false he (fun hn=>Bool.noConfusion hn) fun _=>h
theorem oi {α:Type} {a b:α} (h:some a=some b):a=b:=Option.some.inj h
end
theorem rl {T:List (Nat × TI)} {rs:List ResultVar} {res:TV} {hout:List (Nat × Option Ob)} {st:St} (l:List SV) (h1:KX T st rs=some ([],l):=by kernel_rfl) (h2:Jm l=res:=by kernel_rfl) (h3:st.heap=hout:=by kernel_rfl):Ep T rs res hout .ret st:=
 ⟨.inr rfl,⟨[],l,h1,trivial,h2 ▸ Ca.refl _⟩,h3 ▸ oo.refl _⟩
end Sg

namespace Sg
open Go Go.ChangeShapes Go.WideShapes Go.RowKit Go.Deep
def C9 (w:World) (k:Nat):Prop:=k<w.heap.size
theorem Vv {w:World} {k off:Nat} {u:Value} (h:w.cell? ⟨k,off,none⟩=some u):k<w.heap.size:=by
 unfold World.cell? at h;cases e:w.heap[k]? with
 |none=>simp [e]at h
 |some o=>exact(Array.getElem?_eq_some_iff.mp e).1
theorem cell_spot {w:World} {a:Addr} {u:Value} (h:w.cell? a=some u):a.spot=none:=by
 unfold World.cell? at h;cases e:a.spot with
 |none=>rfl
 |some s=>
  split at h;·simp [e]at h
  ·cases h
structure Rd (P:Program) (t:TypeId) (n:Nat) {α:Type} (c:α->Nat->DV) (S:α->Prop):Prop where
 size:P.cellsOf t=n
 rd: ∀{H:Type} {enc:TypeId × Value->H} {w:World} {fuel:Nat} {cs:List Value} {x:DataW H × List MemPlace},DataW.trod enc P w 0 (fun _=>true) true fuel t cs=some x->
  ∃a:α,S a/\cs.length=n/\ ∀j,j<n-> ∃u,cs[j]? =some u/\bG (C9 w) w (c a j) u
section
variable {P:Program} {t e:TypeId}
theorem Rd.int (ht:P.underlying t=some (.int .i64)) (hs:P.cellsOf t=1):Rd P t 1 (aN .i64) (fun n=> -9223372036854775808<=n/\n<=9223372036854775807):=by
 refine⟨hs,fun h=> ?_⟩;obtain⟨n,rfl,_,hw⟩:=DataW.trod_int ht h;refine⟨n,by simpa [Lit.wf,IntKind.min,IntKind.max,IntKind.signed,IntKind.bits]using hw,rfl,fun j hj=> ?_⟩;have:j=0:=by omega
 subst this;exact⟨_,rfl,rfl⟩
theorem Rd.bool (ht:P.underlying t=some .bool) (hs:P.cellsOf t=1):Rd P t 1 av (fun _=>True):=by
 refine⟨hs,fun h=> ?_⟩;obtain⟨b,rfl,_⟩:=DataW.trod_bool ht h;refine⟨b,trivial,rfl,fun j hj=> ?_⟩;have:j=0:=by omega
 subst this;exact⟨_,rfl,rfl⟩
open Classical in
theorem Rd.slice {n:Nat} {α:Type} [Inhabited α] {c:α->Nat->DV} {S:α->Prop} (ht:P.underlying t=some (.slice e)) (hs:P.cellsOf t=1) (hn:0<n) (he:Rd P e n c S):Rd P t 1 (slC n c) (fun l=>l.length<=9223372036854775807/\ ∀x∈l,S x):=by
 refine⟨hs,fun{H enc w fuel cs x} h=> ?_⟩;rcases open_slice ht h with⟨rfl,_⟩|⟨a,len,cap,m,fu,D,Pl,rfl,hb,hl,hm,hmm,_,hx⟩
 ·refine⟨[],⟨by simp,by simp⟩,rfl,fun j hj=> ?_⟩;have:j=0:=by omega
  subst this;exact⟨_,rfl,none,0,rfl,by simp,by simp,by simp,cx _,by simp⟩
 ·simp only [if_true]at hmm;subst hmm;have hel: ∀i,i<m-> ∃y:α,S y/\ ∀j,j<n->a.spot=none/\ ∃u,w.cell? ⟨a.block,a.off+(i*n+j),none⟩=some u/\bG (C9 w) w (c y j) u:=by
   intro i hi;obtain⟨cs',h1,h2⟩:=hx i hi;rw [he.size]at h1;obtain⟨y,hy,hlen,hc⟩:=he.rd h2;obtain⟨_,hcl,hat⟩:=World.cells?_some h1;obtain⟨cs0,h10,h20⟩:=hx 0 (by omega);rw [he.size]at h10;obtain⟨y0,_,hlen0,hc0⟩:=he.rd h20;obtain⟨_,_,hat0⟩:=World.cells?_some h10;obtain⟨u0,hu0,_⟩:=hc0 0 hn;have hsp:a.spot=none:=by
    have:=(hat0 0 hn).trans hu0;simp only [Nat.zero_mul]at this;have h3:=cell_spot this;simpa [Addr.add]using h3
   refine⟨y,hy,fun j hj=> ⟨hsp, ?_⟩⟩;obtain⟨u,hu,hr⟩:=hc j hj;refine⟨u, ?_,hr⟩;have:=(hat j hj).trans hu;rw [mV hsp,mV rfl]at this;rw [<-this];simp only [ec]
  let pick:Nat->α:=fun i=>if h:i<m then Classical.choose (hel i h)else default
  have hpick: ∀i,i<m->S (pick i)/\ ∀j,j<n->a.spot=none/\ ∃u,w.cell? ⟨a.block,a.off+(i*n+j),none⟩=some u/\bG (C9 w) w (c (pick i) j) u:=by
   intro i hi;show S (dite _ _ _)/\_;simp only [pick,dif_pos hi];exact Classical.choose_spec (hel i hi)
  let l:List α:=(List.range len).map pick
  have hll:l.length=len:=by simp [l]
  have hat: ∀i,i<len->at' l i=pick i:=fun i hi=>by simp [at',l,hi]
  refine⟨l,⟨by rw [hll];exact dC (dC hl hm) (by decide),fun x hx=> ?_⟩,rfl,fun j hj=> ?_⟩
  ·obtain⟨i,hi,rfl⟩:=List.mem_map.mp hx;exact(hpick i (eJ (List.mem_range.mp hi) hl)).1
  ·have:j=0:=by omega
   subst this;refine⟨_,rfl,some a,m, ?_,by simp,by simp,by simp,by rw [hll];exact hl,fun ad ha=> ?_⟩;·simp [hll]
   ·cases ha;refine⟨fun h0=> ?_,fun i hi j hj=> ?_⟩
    ·exact((hpick 0 (by omega)).2 0 hn).1
    ·rw [hll]at hi;obtain⟨_,u,hu,hr⟩:=(hpick i (by omega)).2 j hj;exact⟨Vv hu,u,hu,by show bG _ _ (c (at' l i) j) u;rw [hat i hi];exact hr⟩
theorem JA {n off:Nat} {α:Type} {c:α->Nat->DV} {w:World} {cs:List Value} {a:α} (h: ∀j,j<n-> ∃u,((cs.drop off).take n)[j]? =some u/\bG (C9 w) w (c a j) u):
  ∀j,j<n-> ∃u,cs[off+j]? =some u/\bG (C9 w) w (c a j) u:=by
 intro j hj;obtain⟨u,hu,hr⟩:=h j hj;rw [List.getElem?_take_of_lt hj,List.getElem?_drop]at hu;exact⟨u,hu,hr⟩
theorem Rd.field {n off:Nat} {α:Type} {c:α->Nat->DV} {S:α->Prop} (he:Rd P e n c S) {H:Type} {enc:TypeId × Value->H} {w:World} {fuel:Nat} {cs:List Value}
  (h: ∃y,DataW.trod enc P w 0 (fun _=>true) true fuel e ((cs.drop off).take (P.cellsOf e))=some y): ∃a:α,S a/\ ∀j,j<n-> ∃u,cs[off+j]? =some u/\bG (C9 w) w (c a j) u:=by
 obtain⟨y,hy⟩:=h;rw [he.size]at hy;obtain⟨a,ha,hl,hc⟩:=he.rd hy;exact⟨a,ha,JA hc⟩
end
section
variable {P:Program} {t:TypeId}
theorem Rd.agg {n:Nat} {α:Type} {c:α->Nat->DV} {S:α->Prop} (hr:Rd P t n c S) {fs:Array Field} (ht:P.underlying t=some (.struct fs)) {W:World} {b0:Nat} {v:Value} (hv:Value.okWide P W .any b0 t v)
  {H:Type} {enc:TypeId × Value->H} {d:DataW H} {ps:List MemPlace} (h:DataW.Trod enc P W 0 (fun _=>true) true t v d ps):
  ∃a:α,S a/\fB (fun _=>none) (C9 W) W (.agg ((List.range n).map fun j=> .d (c a j))) v:=by
 obtain⟨cs,rfl,hsz⟩:=okWide_struct ht hv;obtain⟨fuel,hf⟩:=h;obtain⟨a,ha,hl,hc⟩:=hr.rd hf;refine⟨a,ha,cs.toList,by simp,bO.jJ (by rw [dg,List.length_range];exact hl) fun j x hx=> ?_⟩;have hj:j<n:=by
  have:=(List.getElem?_eq_some_iff.mp hx).1;simpa using this
 obtain⟨u,hu,hru⟩:=hc j hj;refine⟨u,hu, ?_⟩;simp [hj]at hx;subst hx;exact hru
theorem Rd.one {α:Type} {c:α->Nat->DV} {S:α->Prop} (hr:Rd P t 1 c S) {W:World} {v:Value} (hv:v.cells.toList=[v])
  {H:Type} {enc:TypeId × Value->H} {d:DataW H} {ps:List MemPlace} (h:DataW.Trod enc P W 0 (fun _=>true) true t v d ps): ∃a:α,S a/\fB (fun _=>none) (C9 W) W (.one (.d (c a 0))) v:=by
 obtain⟨fuel,hf⟩:=h;rw [hv]at hf;obtain⟨a,ha,hl,hc⟩:=hr.rd hf;obtain⟨u,hu,hru⟩:=hc 0 (by omega);simp at hu;subst hu;exact⟨a,ha,hru⟩
theorem OW {f:FuncId} {args:List SV} {W:World} {vs:List Value} (h:Fn P f args [] (vB true) []) (hr:dm (fun _=>none) (C9 W) W args vs) (hg:GL (C9 W) W):
  Calls P f vs.toArray W fun e W'=>e= .returned (.bool true)/\Below W.heap.size W W':=by
 refine(h.2 ⟨W,fun _=>none,C9 W,(fun _=>False),0,[]⟩ vs (fun _ h=>h) ⟨fun _ _=>False, ?_⟩ hr).mono fun e W' hh=> ?_;·exact⟨fun b ob h=>(by cases h),fun b ob k h=>(by cases h),fun b b' ob ob' k h=>(by cases h),fun _ _=>rfl,hg⟩
 ·obtain⟨v,ρ',F',he,fr,_,hv⟩:=hh;have hv':v= .bool true:=hv;subst hv';exact⟨he,fr.os,fr.tape,fr.output.out,fr.size,fun k hk=>fr.mem k hk fun q=>q⟩
theorem xw {H:Type} {enc:TypeId × Value->H} (hl:laidOutB P=true) {W W':World} (hb:Below W.heap.size W W') {sp:Nat->Bool}: ∀{ts:List TypeId} {vs:List Value} {ds:List (DataW H)} {ps:List MemPlace},
  DataW.TrodAll enc P W 0 (fun _=>true) true ts vs ds ps->(∀t∈ts,P.readableRec t=true/\t<P.types.size)->(∀q∈ps,q.block<W.heap.size)->(∀q∈ps,sp q.block=true)->DataW.TrodAll enc P W' 0 sp true ts vs ds ps
 |[],vs,ds,ps,h,_,_,_=>by
  obtain⟨rfl,rfl,rfl⟩:=trodAll_nil h;rfl
 |t::ts,vs,ds,ps,h,hr,hlt,hsp=>by
  obtain⟨v,vs',d,ds',p,q,rfl,rfl,rfl,h0,h1⟩:=trodAll_cons h;have ht:=hr t ct;exact trodAll_cons_mk (WideElems.Trod_stays hl ht.1 ht.2 h0 (fun x hx=>hb.same (hlt x (List.mem_append_left _ hx))) (fun x hx=>hsp x (List.mem_append_left _ hx)))
   (xw hl hb h1 (fun t ht=>hr t (cm _ ht)) (fun x hx=>hlt x (List.mem_append_right _ hx)) (fun x hx=>hsp x (List.mem_append_right _ hx)))
theorem SH {H:Type} {enc:TypeId × Value->H} {f:Func} {s:ChangeSpec} {W W':World} {args:Array Value} {ds gs:List (DataW H)} {before:List MemPlace} {t4:TypeId} (hs:s.vars=[])
  (hW:DataW.Whole enc P f.params.toList s.vars false W args.toList ds gs before) (h1:(s.fn H (ds++gs)).results=[.lit (.bool true)]) (h2:(s.fn H (ds++gs)).args=ds) (h3:(s.fn H (ds++gs)).vars=[])
  (hr:f.resultTypes= #[t4]) (h4:P.underlying t4=some .bool) (hl:laidOutB P=true) (hread: ∀t∈f.params.toList,P.readableRec t=true/\t<P.types.size) (hb:Below W.heap.size W W'):
  s.post enc P f false true false false W args (.bool true) W':=by
 have hlt:=hW.lt;have hW':=hW;obtain⟨p,q,hA,hV,rfl,_,_⟩:=hW;rw [hs]at hV;obtain⟨_,rfl⟩:=trodVars_none hV;rw [cV]at hW' hlt;refine⟨ds,gs,p,[],p,[],hW', ?_, ?_, ?_,hb.frame _,fun h=>by cases h⟩
 ·rw [h1,hr];exact trodAll_cons_mk (p:=[]) (p':=[]) (shut_bool h4 true) trodAll_mk0
 ·rw [h2];exact xw hl hb hA hread (fun x hx=>hlt x hx) (fun x hx=>by simpa using hlt x hx)
 ·rw [hs,h3];rfl
end
end Sg
