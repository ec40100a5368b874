import Derived.Test.YtpndenfhglaikaaGreatLb
import Derived.LoopNIn
import Derived.Deep.Slices
import Derived.OpenShut
import Derived.Carry
set_option linter.all false
namespace Sg
open Go
def DI (l:List CV) (j:Nat):CV:=l.getD j (.d .nilp)
theorem Hw (n:Nat) (f:Nat→CV) {j:Nat} (h:j<n):DI ((List.range n).map f) j=f j:=by
 simp [DI,List.getD_eq_getElem?_getD,h]
def CV.ren (σ:Nat→Nat):CV→CV
 | .d x=> .d x
 | .ptr b off=> .ptr (σ b) off
 | .opt b e i off=> .opt (σ b) e i off
 | .own b nn len=> .own (σ b) nn len
 | .mp b=> .mp (σ b)
 | .fn f nf n cap=> .fn f nf n (DI ((List.range n).map fun j=>(cap j).ren σ))
 | .yl b=> .yl (σ b)
def SV.ren (σ:Nat→Nat):SV→SV
 | .one c=> .one (c.ren σ)
 | .agg cs=> .agg (cs.map (CV.ren σ))
def TV.ren (σ:Nat→Nat):TV→TV
 | .v s=> .v (s.ren σ)
 | .iB l=> .iB (l.map (SV.ren σ))
def Ob.ren (σ:Nat→Nat):Ob→Ob
 | .cells E cs=> .cells E (cs.map (CV.ren σ))
 | .fcells E ds=> .fcells E ds
 | .arr E esz len el=> .arr E esz len el
 | .rows E esz len el ov=> .rows E esz len el (ov.map fun x=>(x.1,x.2.1,x.2.2.ren σ))
 | .map m=> .map {m with val:=fun i j=>(m.val i j).ren σ,ms:=m.ms.map σ}
 | .loop r st sl=> .loop r st (sl.map fun p=>(p.1,p.2.ren σ))
 | .coll=> .coll
def BG (σ:Nat→Nat) (h:List (Nat × Option Ob)):List (Nat × Option Ob):=h.map fun p=>(σ p.1,p.2.map (Ob.ren σ))
section
variable {ρ:Nat→Option Pl} {F:Nat→Prop} {w:World} {σ:Nat→Nat}
theorem Nf: ∀{c:CV} {v:Value},jC ρ F w (c.ren σ) v↔jC (fun x=>ρ (σ x)) F w c v:=by
 intro c
 induction c with
 |fn f nf n cap ih=>
  intro v
  constructor
  ·rintro ⟨vs,e,hl,h⟩
   refine⟨vs,e,hl,fun j u hu=>(ih j).1 ?_⟩
   have:=h j u hu
   rwa [Hw _ _ (by rw [←hl];exact(List.getElem?_eq_some_iff.1 hu).1)]at this
  ·rintro ⟨vs,e,hl,h⟩
   refine⟨vs,e,hl,fun j u hu=> ?_⟩
   rw [Hw _ _ (by rw [←hl];exact(List.getElem?_eq_some_iff.1 hu).1)]
   exact(ih j).2 (h j u hu)
 |_=>intro v;exact Iff.rfl
theorem D6: ∀{cs:List CV} {vs:List Value},cO ρ F w (cs.map (CV.ren σ)) vs↔cO (fun x=>ρ (σ x)) F w cs vs
 |[],[]=>Iff.rfl
 |_::_,_::_=>and_congr Nf D6
 |[],_::_=>Iff.rfl
 |_::_,[]=>Iff.rfl
theorem Hu: ∀{s:SV} {v:Value},ko ρ F w (s.ren σ) v↔ko (fun x=>ρ (σ x)) F w s v
 | .one _,_=>Nf
 | .agg _,_=> ⟨fun⟨vs,e,h⟩=> ⟨vs,e,D6.1 h⟩,fun⟨vs,e,h⟩=> ⟨vs,e,D6.2 h⟩⟩
theorem Bh: ∀{cs:List SV} {vs:List Value},gN ρ F w (cs.map (SV.ren σ)) vs↔gN (fun x=>ρ (σ x)) F w cs vs
 |[],[]=>Iff.rfl
 |_::_,_::_=>and_congr Hu Bh
 |[],_::_=>Iff.rfl
 |_::_,[]=>Iff.rfl
theorem Ih: ∀{t:TV} {v:Value},dJ ρ F w (t.ren σ) v↔dJ (fun x=>ρ (σ x)) F w t v
 | .v _,_=>Hu
 | .iB _,_=> ⟨fun⟨vs,e,h⟩=> ⟨vs,e,Bh.1 h⟩,fun⟨vs,e,h⟩=> ⟨vs,e,Bh.2 h⟩⟩
theorem UD: ∀{c:CV} {x:Nat},x∈(c.ren σ).dz↔ ∃y,y∈c.dz∧σ y=x:=by
 intro c
 induction c with
 |d y=>intro x;simp [CV.ren,CV.dz]
 |fn f nf n cap ih=>
  intro x
  simp only [CV.ren,CV.dz,List.mem_flatMap,List.mem_range]
  constructor
  ·rintro ⟨j,hj,h⟩
   rw [Hw _ _ hj]at h
   obtain⟨y,hy,e⟩:=(ih j).1 h;exact⟨y,⟨j,hj,hy⟩,e⟩
  ·rintro ⟨y,⟨j,hj,hy⟩,e⟩
   refine⟨j,hj, ?_⟩
   rw [Hw _ _ hj]
   exact(ih j).2 ⟨y,hy,e⟩
 |_=>intro x;simp [CV.ren,CV.dz,eq_comm]
theorem zL {α β:Type} (f:α→β): ∀(l:List (Nat × α)) (t:Nat),get (l.map fun p=>(p.1,f p.2)) t=(get l t).map f
 |[],_=>rfl
 |(k,x)::l,t=>by
  rw [List.map_cons,aS,aS,zL f l t]
  split<;>rfl
theorem Pm (c:Nat→CV): ∀(i n:Nat),iQ (fun j=>(c j).ren σ) i n=(iQ c i n).map (CV.ren σ)
 |_,0=>rfl
 |i,n+1=>by rw [iQ,iQ,List.map_cons,Pm c (i+1) n]
theorem aap (agg:Bool) (cs:List CV):qA agg (cs.map (CV.ren σ))=(qA agg cs).map (SV.ren σ):=by
 cases agg with
 |true=>rfl
 |false=>match cs with
  |[]=>rfl
  |[_]=>rfl
  |_::_::_=>rfl
theorem MC {agg:Bool} {sz:Nat} {c:Nat→CV} {v:Value}:Ac ρ F w agg sz (fun j=>(c j).ren σ) v↔Ac (fun x=>ρ (σ x)) F w agg sz c v:=by
 unfold Ac
 rw [Pm,aap]
 constructor
 ·rintro ⟨s,e,h⟩
  cases hh:qA agg (iQ c 0 sz)with
  |none=>rw [hh]at e;cases e
  |some s'=>rw [hh]at e;cases e;exact⟨s',rfl,Hu.1 h⟩
 ·rintro ⟨s,e,h⟩
  rw [e]
  exact⟨_,rfl,Hu.2 h⟩
theorem UM {S:Nat→Prop} {rb:Nat→Nat→Option Nat} {el:Nat→Nat→EV} {ov:Option (Nat × Nat × CV)} {i j:Nat} {v:Value}:
  Hy ρ F w S rb el (ov.map fun x=>(x.1,x.2.1,x.2.2.ren σ)) i j v↔Hy (fun x=>ρ (σ x)) F w S rb el ov i j v:=by
 unfold Hy
 cases ov with
 |none=>exact Iff.rfl
 |some x=>
  simp only [Option.map_some]
  split
  ·exact Nf
  ·exact Iff.rfl
theorem Si (hσ: ∀x y,σ x=σ y→x=y) {S:Nat→Prop} {b:Nat} {ob:Ob}:nO ρ F w S (σ b) (ob.ren σ)↔nO (fun x=>ρ (σ x)) F w S b ob:=by
 cases ob with
 |cells E cs=>
  constructor
  ·rintro ⟨k,cap,vs,h1,h2,h3,h4⟩;exact⟨k,cap,vs,h1,h2,h3,D6.1 h4⟩
  ·rintro ⟨k,cap,vs,h1,h2,h3,h4⟩;exact⟨k,cap,vs,h1,h2,h3,D6.2 h4⟩
 |fcells E ds=>exact Iff.rfl
 |arr E esz len el=>exact Iff.rfl
 |rows E esz len el ov=>
  constructor
  ·rintro (h|⟨k,base,cap,vs,rb,h1,h2,h3,h4,h5,h6,h7,h8,h9⟩)
   ·exact .inl h
   ·exact .inr ⟨k,base,cap,vs,rb,h1,h2,h3,h4,h5,h6,fun i hi j hj=>by obtain⟨u,hu,hr⟩:=h7 i hi j hj;exact⟨u,hu,UM.1 hr⟩,h8,h9⟩
  ·rintro (h|⟨k,base,cap,vs,rb,h1,h2,h3,h4,h5,h6,h7,h8,h9⟩)
   ·exact .inl h
   ·exact .inr ⟨k,base,cap,vs,rb,h1,h2,h3,h4,h5,h6,fun i hi j hj=>by obtain⟨u,hu,hr⟩:=h7 i hi j hj;exact⟨u,hu,UM.2 hr⟩,h8,h9⟩
 |map m=>
  have hk: ∀i v,Ac ρ F w m.kagg m.ksz (fun j=> .d (m.key i j)) v↔Ac (fun x=>ρ (σ x)) F w m.kagg m.ksz (fun j=> .d (m.key i j)) v:=fun i v=>MC (c:=fun j=> .d (m.key i j))
  constructor
  ·rintro ⟨k,base,cap,es,h1,h2,h3,h4,h5,h6⟩
   refine⟨k,base,cap,es,h1,h2,h3,h4,fun i hi j hj x hx=> ?_,fun i hi=> ?_⟩
   ·obtain⟨y,hy,e⟩:=List.mem_map.1 (h5 i hi j hj (σ x) (UD.2 ⟨x,hx,rfl⟩))
    rw [←hσ _ _ e];exact hy
   ·obtain⟨e,g1,g2,g3,g4⟩:=h6 i hi;exact⟨e,g1,g2,(hk _ _).1 g3,MC.1 g4⟩
  ·rintro ⟨k,base,cap,es,h1,h2,h3,h4,h5,h6⟩
   refine⟨k,base,cap,es,h1,h2,h3,h4,fun i hi j hj x hx=> ?_,fun i hi=> ?_⟩
   ·obtain⟨y,hy,e⟩:=UD.1 hx
    exact List.mem_map.2 ⟨y,h5 i hi j hj y hy,e⟩
   ·obtain⟨e,g1,g2,g3,g4⟩:=h6 i hi;exact⟨e,g1,g2,(hk _ _).2 g3,MC.2 g4⟩
 |loop r st sl=>
  constructor
  ·rintro ⟨k,base,cap,fn,tmps,D,h1,h2,h3,h4,h5,h6⟩
   refine⟨k,base,cap,fn,tmps,D,h1,h2,h3,h4,h5,fun t tv ht=> ?_⟩
   obtain⟨v,hv,hr⟩:=h6 t (tv.ren σ) (by rw [zL,ht];rfl)
   exact⟨v,hv,Ih.1 hr⟩
  ·rintro ⟨k,base,cap,fn,tmps,D,h1,h2,h3,h4,h5,h6⟩
   refine⟨k,base,cap,fn,tmps,D,h1,h2,h3,h4,h5,fun t tv ht=> ?_⟩
   rw [zL]at ht
   cases hg:get sl t with
   |none=>rw [hg]at ht;cases ht
   |some tv'=>rw [hg]at ht;cases ht;obtain⟨v,hv,hr⟩:=h6 t tv' hg;exact⟨v,hv,Ih.2 hr⟩
 |coll=>exact Iff.rfl
end
structure Rn (σ τ:Nat→Nat):Prop where
 st: ∀x,σ (τ x)=x
 ts: ∀x,τ (σ x)=x
theorem Rn.inj {σ τ:Nat→Nat} (r:Rn σ τ) {x y:Nat} (h:σ x=σ y):x=y:=by rw [←r.ts x,h,r.ts]
theorem Sy {σ τ:Nat→Nat} (r:Rn σ τ): ∀(h:List (Nat × Option Ob)) (b:Nat),get (BG σ h) (σ b)=(get h b).map (Option.map (Ob.ren σ))
 |[],_=>rfl
 |(k,x)::h,b=>by
  show get ((σ k,x.map (Ob.ren σ))::BG σ h) (σ b)=_
  rw [aS,aS,Sy r h b]
  by_cases e:k=b
  ·rw [if_pos e,if_pos (by rw [e])];rfl
  ·rw [if_neg e,if_neg (fun e'=>e (r.inj e'))]
theorem Qj {σ τ:Nat→Nat} (r:Rn σ τ) {B:Base} {ρ0:Nat→Option Pl} {ρ:Nat→Option Pl} {F:Nat→Prop} {w:World} {h:List (Nat × Option Ob)}:
  HI B ρ F w (bX (BG σ h))↔HI {B with ρ:=ρ0} (fun x=>ρ (σ x)) F w (bX h):=by
 have hg: ∀b,bX (BG σ h) (σ b)=(bX h b).map (Option.map (Ob.ren σ)):=Sy r h
 have hg': ∀b,bX (BG σ h) b=(bX h (τ b)).map (Option.map (Ob.ren σ)):=fun b=>by rw [←hg,r.st]
 have key: ∀b ob,bX h b=some (some ob)→bX (BG σ h) (σ b)=some (some (ob.ren σ)):=fun b ob hh=>by rw [hg,hh];rfl
 have key': ∀b ob',bX (BG σ h) b=some (some ob')→ ∃ob,bX h (τ b)=some (some ob)∧ob'=ob.ren σ:=fun b ob' hh=>by
  rw [hg']at hh
  cases h1:bX h (τ b)with
  |none=>rw [h1]at hh;cases hh
  |some o=>cases o with
   |none=>rw [h1]at hh;cases hh
   |some ob=>rw [h1]at hh;cases hh;exact⟨ob,rfl,rfl⟩
 constructor
 ·rintro ⟨ft,hi⟩
  refine⟨fun b=>ft (σ b),fun b ob hh=>(Si fun _ _=>r.inj).1 (hi.obj _ _ (key b ob hh)),fun b ob k hh hk=>hi.blk _ _ k (key b ob hh) hk,fun b b' ob ob' k h1 h2 k1 k2=>r.inj (hi.dis _ _ _ _ k (key _ _ h1) (key _ _ h2) k1 k2),fun b hb=>hi.fresh _ ?_⟩
  rw [hg,hb];rfl
 ·rintro ⟨ft,hi⟩
  refine⟨fun b=>ft (τ b),fun b ob' hh=> ?_,fun b ob' k hh hk=> ?_,fun b b' ob ob' k h1 h2 k1 k2=> ?_,fun b hb=> ?_⟩
  ·obtain⟨ob,h1,rfl⟩:=key' b ob' hh
   have:=(Si fun _ _=>r.inj).2 (hi.obj _ _ h1)
   rwa [r.st]at this
  ·obtain⟨ob,h1,rfl⟩:=key' b ob' hh
   exact hi.blk _ _ k h1 hk
  ·obtain⟨o1,g1,_⟩:=key' b ob h1
   obtain⟨o2,g2,_⟩:=key' b' ob' h2
   have:=hi.dis _ _ _ _ k g1 g2 k1 k2
   rw [←r.st b,this,r.st]
  ·have:=hi.fresh (τ b) (by
    have:=hg' b;rw [hb]at this
    cases h1:bX h (τ b)with
    |none=>rfl
    |some o=>rw [h1]at this;cases this)
   simpa [r.st]using this
theorem Fn.ren {σ τ:Nat→Nat} (r:Rn σ τ) {P:Program} {f:FuncId} {args:List SV} {hin hout:List (Nat × Option Ob)} {res:TV} (h:Fn P f args hin res hout):
  Fn P f (args.map (SV.ren σ)) (BG σ hin) (res.ren σ) (BG σ hout):=by
 refine⟨h.1,fun B vs hF hi hr=> ?_⟩
 have hc:=h.2 {B with ρ:=fun x=>B.ρ (σ x)} vs hF ((Qj r).1 hi) (Bh (σ:=σ).1 hr)
 refine Calls.mono hc ?_
 rintro e w' ⟨v,ρ',F',rfl,hf,h1,h2⟩
 refine⟨v,fun x=>ρ' (τ x),F',rfl, ?_, ?_, ?_⟩
 ·refine⟨hf.os,hf.tape,hf.output,hf.size,hf.mem,fun b p hb=>hf.rho (τ b) p ?_,hf.fz,hf.bf⟩
  show B.ρ (σ (τ b))=some p
  rw [r.st];exact hb
 ·refine(Qj (ρ0:=fun x=>B.ρ (σ x)) r).2 ?_
  have:(fun x=>(fun x=>ρ' (τ x)) (σ x))=ρ':=by funext x;simp [r.ts]
  rw [this];exact h1
 ·refine Ih.2 ?_
  have:(fun x=>(fun x=>ρ' (τ x)) (σ x))=ρ':=by funext x;simp [r.ts]
  rw [this];exact h2
def sw (a b x:Nat):Nat:=bif Nat.beq x a then b else bif Nat.beq x b then a else x
def swp:List (Nat × Nat)→Nat→Nat
 |[],x=>x
 |(a,b)::l,x=>swp l (sw a b x)
def Hl:List (Nat × Nat)→Nat→Nat
 |[],x=>x
 |(a,b)::l,x=>sw a b (Hl l x)
theorem Xf (a b x:Nat):sw a b x=if x=a then b else if x=b then a else x:=by
 unfold sw
 cases h:Nat.beq x a with
 |true=>rw [if_pos (Nat.eq_of_beq_eq_true h)];rfl
 |false=>
  rw [if_neg (Nat.ne_of_beq_eq_false h)]
  cases h':Nat.beq x b with
  |true=>rw [if_pos (Nat.eq_of_beq_eq_true h')];rfl
  |false=>rw [if_neg (Nat.ne_of_beq_eq_false h')];rfl
theorem afK (a b x:Nat):sw a b (sw a b x)=x:=by
 rw [Xf a b x]
 by_cases h1:x=a
 ·rw [if_pos h1,Xf]
  by_cases h3:b=a
  ·rw [if_pos h3,h1,h3]
  ·rw [if_neg h3,if_pos rfl,h1]
 ·rw [if_neg h1]
  by_cases h2:x=b
  ·rw [if_pos h2,Xf,if_pos rfl,h2]
  ·rw [if_neg h2,Xf,if_neg h1,if_neg h2]
theorem QS: ∀l:List (Nat × Nat),Rn (swp l) (Hl l)
 |[]=> ⟨fun _=>rfl,fun _=>rfl⟩
 |(a,b)::l=> ⟨fun x=>by show swp l (sw a b (sw a b (Hl l x)))=x;rw [afK,(QS l).st],fun x=>by show sw a b (Hl l (swp l (sw a b x)))=x;rw [(QS l).ts,afK]⟩
theorem Fn.aeb {P:Program} {f:FuncId} {args args':List SV} {hin hin' hout hout':List (Nat × Option Ob)} {res res':TV} (l:List (Nat × Nat)) (h:Fn P f args hin res hout)
  (e1:args.map (SV.ren (swp l))=args') (e2:BG (swp l) hin=hin') (e3:res.ren (swp l)=res') (e4:BG (swp l) hout=hout'):Fn P f args' hin' res' hout':=by
 subst e1;subst e2;subst e3;subst e4
 exact h.ren (QS l)
theorem Fn.leH {P:Program} {f:Nat} {args args':List SV} {hin hin' hout:List (Nat × Option Ob)} {res:TV} (h:Fn P f args hin res hout) (hl:RX args' args) (hh:wI hin' hin):Fn P f args' hin' res hout:=
 ⟨h.1,fun B vs hF hi hr=>h.2 B vs hF (hi.le hh) (hl.rep hr)⟩
def PI:DV→Bool
 | .int _ _| .bool _| .str _| .nilp| .nilf| .nilm=>true
 |_=>false
def PO:CV→Bool
 | .d x=>PI x
 |_=>false
def Xi:SV→Bool
 | .one c=>PO c
 | .agg cs=>cs.all PO
def afu:TV→Bool
 | .v s=>Xi s
 | .iB l=>l.all Xi
section
variable {ρ ρ':Nat→Option Pl} {F F':Nat→Prop} {w w':World}
theorem P5 {c:CV} {v:Value} (h:PO c=true) (hr:jC ρ F w c v):jC ρ' F' w' c v:=by
 cases c with
 |d x=>cases x<;>first|exact hr|simp [PO,PI]at h
 |_=>simp [PO]at h
theorem PE: ∀{cs:List CV} {vs:List Value},cs.all PO=true→cO ρ F w cs vs→cO ρ' F' w' cs vs
 |[],[],_,_=>trivial
 |c::cs,v::vs,h,⟨h1,h2⟩=>by
  simp only [List.all_cons,Bool.and_eq_true]at h
  exact⟨P5 h.1 h1,PE h.2 h2⟩
 |[],_::_,_,h=>h.elim
 |_::_,[],_,h=>h.elim
theorem Pv {s:SV} {v:Value} (h:Xi s=true) (hr:ko ρ F w s v):ko ρ' F' w' s v:=by
 cases s with
 |one c=>exact P5 h hr
 |agg cs=>obtain⟨vs,e,hl⟩:=hr;exact⟨vs,e,PE h hl⟩
theorem LC: ∀{cs:List SV} {vs:List Value},cs.all Xi=true→gN ρ F w cs vs→gN ρ' F' w' cs vs
 |[],[],_,_=>trivial
 |c::cs,v::vs,h,⟨h1,h2⟩=>by
  simp only [List.all_cons,Bool.and_eq_true]at h
  exact⟨Pv h.1 h1,LC h.2 h2⟩
 |[],_::_,_,h=>h.elim
 |_::_,[],_,h=>h.elim
theorem XH {t:TV} {v:Value} (h:afu t=true) (hr:dJ ρ F w t v):dJ ρ' F' w' t v:=by
 cases t with
 |v s=>exact Pv h hr
 |iB l=>obtain⟨vs,e,hl⟩:=hr;exact⟨vs,e,LC h hl⟩
end
theorem Fn.DK {P:Program} {f:Nat} {args args':List SV} {hin:List (Nat × Option Ob)} {res:TV} {frz:List Nat} {p:List Prop} (h:Fn P f args [] res []) (he:L8 ⟨frz,[]⟩ (bX hin) args'=some (p,args)) (hp:All p) (hres:afu res=true):
  Fn P f args' hin res hin:=by
 refine⟨h.1,fun B vs hF hi hr=> ?_⟩
 obtain⟨ft,hi⟩:=hi
 have hfr:Fr B B.ρ B.F B.w:=⟨rfl,rfl,rfl,Nat.le_refl _,fun _ _ _=>rfl,fun _ _ h=>h,fun k hk=> ⟨hF k hk, .inl hk⟩,fun _ h=>h⟩
 have hr2:=EL (f:=⟨frz,[]⟩) List.nodup_nil hi he hp hr
 have hF2: ∀k,En ft B.F (bX hin) frz k→k<B.w.heap.size:=fun k hk=>by
  rcases hk with hk|⟨b,ob,_,hob,hk⟩
  ·exact hF k hk
  ·exact(hi.blk b ob k hob hk).1
 refine Calls.mono (h.2 ⟨B.w,Fv B.ρ [],En ft B.F (bX hin) frz,fun _=>False⟩ vs hF2 ⟨fun _ _=>False,⟨fun _ _ hh=>by simp [bX,get]at hh,fun _ _ _ hh=>by simp [bX,get]at hh,fun _ _ _ _ _ hh=>by simp [bX,get]at hh,fun _ _=>rfl⟩⟩ hr2) ?_
 rintro e w' ⟨v,ρ',F',rfl,h1,h2,h3⟩
 have hmem: ∀k,k<B.w.heap.size→w'.heap[k]? =B.w.heap[k]? :=fun k hk=>h1.mem k hk fun hh=>hh
 have g:Gr B.ρ B.F B.w B.ρ B.F w':=⟨fun _ _ h=>h,fun _ h=>h,fun k hk=>hmem k (hF k hk)⟩
 refine⟨v,B.ρ,B.F,rfl,⟨h1.os,h1.tape,h1.output,h1.size,fun k hk _=>hmem k hk,fun _ _ h=>h,fun k hk=> ⟨Nat.lt_of_lt_of_le (hF k hk) h1.size, .inl hk⟩,fun _ h=>h⟩,⟨ft, ?_⟩,XH hres h3⟩
 exact hi.step g hfr h1.size (fun _=>False) (fun b ob _ hb=> ⟨hb,fun k hk=>hmem k (hi.blk b ob k hb hk).1,fun _=>Iff.rfl⟩) (fun _ _ h=>h.elim) (fun _ _ _ h=>h.elim) (fun _ _ _ _ _ h=>h.elim) (fun k hk=> .inl hk) hi.fresh
section
variable {κ α:Type}
def bQ (eq:κ→κ→Bool) (k:κ):List (κ × α)→Option α
 |[]=>none
 |(k',v)::l=>bif eq k k' then some v else bQ eq k l
def jH (eq:κ→κ→Bool) (k:κ) (v:α):List (κ × α)→List (κ × α)
 |[]=>[(k,v)]
 |(k',v')::l=>bif eq k k' then(k,v)::l else(k',v')::jH eq k v l
def gI (a b:Int):Bool:=decide (a=b) && true
def Gb [Inhabited κ] (kc:κ→Nat→DV) (l:List (κ × α)):Nat→Nat→DV:=au kc (l.map (·.1))
def IB [Inhabited α] (vc:α→Nat→DV) (l:List (κ × α)):Nat→Nat→CV:=fun i j=> .d (au vc (l.map (·.2)) i j)
def Px [Inhabited κ] [Inhabited α] (K V:TypeId) (ka va:Bool) (ksz vsz:Nat) (kc:κ→Nat→DV) (vc:α→Nat→DV) (l:List (κ × α)):Ob:= .map ⟨K,V,ka,va,ksz,vsz,l.length,Gb kc l,IB vc l,[]⟩
section
variable [Inhabited κ] [Inhabited α] {eq:κ→κ→Bool} {kc:κ→Nat→DV} {vc:α→Nat→DV} {ks:List (Option IntKind)} {ksz vsz:Nat}
theorem Ag (x:κ × α) (l:List (κ × α)):Gb kc (x::l) 0=kc x.1:=rfl
theorem ve (x:κ × α) (l:List (κ × α)) (i:Nat):Gb kc (x::l) (i+1)=Gb kc l i:=by
 funext j;simp [Gb,au,at']
theorem abz (x:κ × α) (l:List (κ × α)):IB vc (x::l) 0=fun j=> .d (vc x.2 j):=rfl
theorem GK (x:κ × α) (l:List (κ × α)) (i:Nat):IB vc (x::l) (i+1)=IB vc l i:=by
 funext j;simp [IB,au,at']
theorem Tt (hk: ∀x,aA ks (dK (kc x) 0 ksz)=true): ∀(l:List (κ × α)) (i:Nat),i<l.length→aA ks (dK (Gb kc l i) 0 ksz)=true
 |l,i,_=>hk _
theorem um (hk: ∀x,aA ks (dK (kc x) 0 ksz)=true) (he: ∀a b,lX (dK (kc a) 0 ksz) (dK (kc b) 0 ksz)=some (eq a b)) (l:List (κ × α)) (k:κ) (d:α) {kd:List DV} {zero cs:List CV}
  (hkd:kd=dK (kc k) 0 ksz) (hz:zero=iQ (fun j=> .d (vc d j)) 0 vsz) (hcs:cs=iQ (fun j=> .d (vc ((bQ eq k l).getD d) j)) 0 vsz):
  tV ks ksz vsz l.length (Gb kc l) (IB vc l) kd zero (bQ eq k l).isSome cs:=by
 subst hkd
 refine⟨Tt hk l, ?_⟩
 have key: ∀(l:List (κ × α)),((bQ eq k l).isSome=true∧ ∃i,i<l.length∧lX (dK (kc k) 0 ksz) (dK (Gb kc l i) 0 ksz)=some true∧(∀i',i'<i→lX (dK (kc k) 0 ksz) (dK (Gb kc l i') 0 ksz)=some false)∧iQ (fun j=> .d (vc ((bQ eq k l).getD d) j)) 0 vsz=iQ (IB vc l i) 0 vsz)∨
   ((bQ eq k l).isSome=false∧(∀i,i<l.length→lX (dK (kc k) 0 ksz) (dK (Gb kc l i) 0 ksz)=some false)):=by
  intro l
  induction l with
  |nil=>right;exact⟨rfl,fun i hi=>absurd hi (Nat.not_lt_zero i)⟩
  |cons x l ih=>
   obtain⟨k',v⟩:=x
   cases hb:eq k k' with
   |true=>
    left
    refine⟨by simp [bQ,hb],0,by simp,by rw [Ag,he,hb],fun i' hi'=>absurd hi' (Nat.not_lt_zero i'), ?_⟩
    simp only [bQ,hb,cond_true,Option.getD_some];rfl
   |false=>
    have h0:bQ eq k ((k',v)::l)=bQ eq k l:=by simp [bQ,hb]
    rw [h0]
    rcases ih with⟨h1,i,h2,h3,h4,h5⟩|⟨h1,h2⟩
    ·left
     refine⟨h1,i+1,by simp;omega,by rw [ve];exact h3,fun i' hi'=> ?_,by rw [GK];exact h5⟩
     cases i' with
     |zero=>rw [Ag,he,hb]
     |succ i'=>rw [ve];exact h4 i' (by omega)
    ·right
     refine⟨h1,fun i hi=> ?_⟩
     cases i with
     |zero=>rw [Ag,he,hb]
     |succ i=>rw [ve];exact h2 i (by simpa using hi)
 rcases key l with⟨h1,i,h2,h3,h4,h5⟩|⟨h1,h2⟩
 ·exact .inl ⟨h1,i,h2,h3,h4,hcs.trans h5⟩
 ·refine .inr ⟨h1,h2, ?_⟩
  rw [hcs,hz]
  cases hm:bQ eq k l with
  |none=>rfl
  |some v=>rw [hm]at h1;cases h1
theorem NN (hk: ∀x,aA ks (dK (kc x) 0 ksz)=true) (he: ∀a b,lX (dK (kc a) 0 ksz) (dK (kc b) 0 ksz)=some (eq a b)) (l:List (κ × α)) (k:κ) (v:α) {kd:List DV} {vd:List CV}
  (hkd:kd=dK (kc k) 0 ksz) (hvd:vd=iQ (fun j=> .d (vc v j)) 0 vsz):
  uL ks ksz vsz l.length (Gb kc l) (IB vc l) kd vd [] (jH eq k v l).length (Gb kc (jH eq k v l)) (IB vc (jH eq k v l)):=by
 subst hkd;subst hvd
 refine⟨Tt hk l,fun i _ j _ x hx=>by simp [IB,CV.dz]at hx, ?_⟩
 induction l with
 |nil=>exact⟨0,fun i' hi'=>absurd hi' (Nat.not_lt_zero i'), .inr ⟨rfl,rfl⟩,rfl,rfl,fun i' hi'=>absurd hi' (Nat.not_lt_zero i')⟩
 |cons x l ih=>
  obtain⟨k',v'⟩:=x
  cases hb:eq k k' with
  |true=>
   have h0:jH eq k v ((k',v')::l)=(k,v)::l:=by simp [jH,hb]
   rw [h0]
   refine⟨0,fun i' hi'=>absurd hi' (Nat.not_lt_zero i'), .inl ⟨by simp,by rw [Ag,he,hb],rfl⟩,rfl,rfl,fun i' hi' hne=> ?_⟩
   cases i' with
   |zero=>exact absurd rfl hne
   |succ i'=>simp only [ve,GK,and_self]
  |false=>
   have h0:jH eq k v ((k',v')::l)=(k',v')::jH eq k v l:=by simp [jH,hb]
   rw [h0]
   obtain⟨i,h1,h2,h3,h4,h5⟩:=ih
   refine⟨i+1,fun i' hi'=> ?_, ?_,by rw [ve];exact h3,by rw [GK];exact h4,fun i' hi' hne=> ?_⟩
   ·cases i' with
    |zero=>rw [Ag,he,hb]
    |succ i'=>rw [ve];exact h1 i' (by omega)
   ·rcases h2 with⟨a,b,c⟩|⟨a,b⟩
    ·exact .inl ⟨by simp;omega,by rw [ve];exact b,by simp [c]⟩
    ·exact .inr ⟨by simp [a],by simp [b]⟩
   ·cases i' with
    |zero=>simp only [Ag,abz,and_self]
    |succ i'=>
     simp only [ve,GK]
     exact h5 i' (by simpa using hi') (by omega)
end
end
theorem anY {n sz:Nat} {cs:List CV} {g:Nat→List CV} (h: ∀q,q<n→(cs.drop (q*sz)).take sz=g q) {i:Int} (hi:0≤i∧i<(n:Int)):(cs.drop (i.toNat*sz)).take sz=g i.toNat:=h _ (by omega)
theorem anD {n sz m:Nat} (hm:n*sz≤m) {i:Int} (hi:0≤i∧i<(n:Int)):i.toNat*sz+sz≤m:=by
 have:(i.toNat+1)*sz≤n*sz:=Nat.mul_le_mul_right _ (by omega)
 rw [Nat.add_mul,Nat.one_mul]at this;omega
def Om:List Nat→Code→Code
 |[],c=>c
 |i::l,c=>match c,i with
  | .seq x _,0=>Om l x
  | .seq _ y,_=>Om l y
  | .cond _ x _,0=>Om l x
  | .cond _ _ y,_=>Om l y
  | .block _ x,_=>Om l x
  | .loop x,_=>Om l x
  | .scope x,_=>Om l x
  | .rangeFunc _ _ x _,0=>Om l x
  | .rangeFunc _ _ _ y,_=>Om l y
  |c,_=>c
def vM (f:Func):Code:=match f.body with|some c=>c|none=> .skip
theorem XT.of {x y:Option Ob} (h:x=y):XT x y:=h ▸ .refl x
theorem Hz {x y:List (Nat × Option Ob)} (h:x=y):wI x y:=h ▸ wI.refl x
section
variable {rd:Option Nat} {P:Program} {B:Base} {N:Nat} {L:List Nat} {Q:Exit→St→Prop} {st st':St}
theorem Ab {c c':Code} (h:c'=c) (hw:bG rd P B N L c Q st):bG rd P B N L c' Q st:=h ▸ hw
theorem wU {c:Code} {st0:St} (h:st0=st) (hw:bG rd P B N L c Q st):bG rd P B N L c Q st0:=h ▸ hw
theorem x9 {g:Operand} {ps:List Nat} {assign body:Code} (lb:Nat) (sl:List (Nat × TV)) (outs:List Code) (ids:List Nat) (res:TV) (hout:List (Nat × Option Ob)) (gv:TV) (f:FuncId) (c1 c2:List CV) (hin:List (Nat × Option Ob)) (args:List SV) (r':rX) (stt:Nat) (sl':List (Nat × TV)) {e:Exit}
  (hg:M0 st g=some gv) (hf:adJ gv=some (f,c1,c2)) (hlb:get st.heap lb=none) (hsl:sl.map (fun p=>get st.slots p.1)=sl.map fun p=>some p.2)
  (hin1:dY ids (ids.map (bX ((lb,some (.loop ⟨ps,assign,body,N,outs⟩ 0 sl))::st.heap)))=some hin)
  (hok:(iy ((c1++CV.yl lb::c2).flatMap CV.dz) ids && iy (kP (ids.map (bX ((lb,some (.loop ⟨ps,assign,body,N,outs⟩ 0 sl))::st.heap)))) ids && mo ids (hout.map (·.1)) ((hout.map (·.1)).map (bX ((lb,some (.loop ⟨ps,assign,body,N,outs⟩ 0 sl))::st.heap))))=true)
  (ha:args=(c1++CV.yl lb::c2).map .one) (hfn:Fn P f args hin res hout) (hlo:get hout lb=some (some (.loop r' stt sl'))) (hr':r'.outs=outs) (hx:Rj outs stt e)
  (hi:bJ B N L ⟨st.slots,(lb,none)::(hout++(ids.map (fun i=>(i,none))++st.heap))⟩ st') (hQ:Q e st'):bG none P B N L (.rangeFunc g ps.toArray assign body) Q st:=by
 subst ha
 refine A7 (NR lb sl outs ids res hout hg hf hlb (fun p hp=> ?_) hin1 hok hfn hlo hr' hx ⟨st',hi,hQ⟩)
 obtain⟨j,hj⟩:=List.getElem?_of_mem hp
 have:=congrArg (fun l=>l[j]?) hsl
 simp only [List.getElem?_map,hj,Option.map_some,Option.some.injEq]at this
 exact this
end
section
variable (rd:Option Nat) (P:Program) (B:Base) (N:Nat) (L:List Nat) (c:Code) (Q:Exit→St→Prop)
def LoopN:Nat→St→Prop
 |0,_=>False
 |m+1,st=>bG rd P B N L c (fun e st'=>match e with| .normal=>LoopN m st'|e=>Q e st') st
end
section
variable {rd:Option Nat} {P:Program} {B:Base} {N:Nat} {L:List Nat} {Q:Exit→St→Prop} {st:St} {c:Code}
theorem jS (m:Nat) (h:bG rd P B N L c (fun e st'=>match e with| .normal=>LoopN rd P B N L c Q m st'|e=>Q e st') st):LoopN rd P B N L c Q (m+1) st:=h
theorem PN (m:Nat) (h:LoopN rd P B N L c Q m st):bG rd P B N L (.loop c) Q st:=by
 intro a w hc
 refine wpIn_loop_rounds m ?_
 revert st a w
 induction m with
 |zero=>intro st h;exact h.elim
 |succ m ih=>
  intro st h a w hc
  rw [roundsIn_succ]
  refine wpIn_mono (h a w hc) ?_
  rintro e a' w' ⟨st',h1,h2⟩
  cases e with
  |normal=>exact ih h1 a' w' h2
  |exit id=>exact⟨st',h1,h2⟩
  |goto l=>exact⟨st',h1,h2⟩
  |ret=>exact⟨st',h1,h2⟩
  |panic v=>exact⟨st',h1,h2⟩
  |outgrown=>exact⟨st',h1,h2⟩
end
theorem Uf {P:Program} {b:Frame} {a:Act} {k:List Item} {cs:List Frame} {w:World} {c:Code}:Go.step P (lone (b.atR a (.code (.scope c)::k)) cs w)= .next (lone (b.atR a (.code c:: .inScope c::k)) cs w):=
 step_lone_go (by simp [stepG,stepG.exec,Frame.atR])
theorem Oj {P:Program} {b:Frame} {a:Act} {k:List Item} {cs:List Frame} {w:World} {c:Code}:Go.step P (lone (b.atR a (.inScope c::k)) cs w)= .next (lone (b.atR a k) cs w):=
 step_lone_go (by simp [stepG,stepG.exec,Frame.atR])
def GQ {σ ρ:Type} (l:Nat) (S:σ→St) (R:ρ→Exit→St→Prop):aM σ ρ→Exit→St→Prop
 | .next s,e,st=>e= .goto l∧st=S s
 | .done r,e,st=>(∀l',e≠ .goto l')∧R r e st
section
variable {rd:Option Nat} {P:Program} {B:Base} {N:Nat} {L:List Nat} {st:St}
theorem Ws {σ ρ:Type} {c rest:Code} (l:Nat) (hf:findLabel c l=some rest) (S:σ→St) (R:ρ→Exit→St→Prop) {body:σ→Option (aM σ ρ)} {n:Nat} {s0:σ} {o:ρ} (h:ay body n s0=some o)
  (hb: ∀s f,body s=some f→bG rd P B N L rest (GQ l S R f) (S s)) (h1: ∀f,body s0=some f→bG rd P B N L c (GQ l S R f) st):bG rd P B N L (.scope c) (R o) st:=by
 intro a w hc b k cs hro hbu hr
 have hg:gotoIn l (.inScope c::k)=some (.code rest:: .inScope c::k):=by simp [gotoIn,hf]
 have fin: ∀(m:Nat) (s:σ) (f:aM σ ρ) (x:Code) (a:Act) (w:World),ay body (m+1) s=some o→body s=some f→
   (∀s' a' w',ay body m s'=some o→Conc B N L (S s') a' w'→ ∃e a2 w2,(∃st',R o e st'∧Conc B N L st' a2 w2)∧ArrivesIn (Machine.fenced P (FW rd)) P (lone (b.atR a' (.code rest:: .inScope c::k)) cs w') b k cs e a2 w2)→
   (∃e a1 w1,(∃st',GQ l S R f e st'∧Conc B N L st' a1 w1)∧ArrivesIn (Machine.fenced P (FW rd)) P (lone (b.atR a (.code x:: .inScope c::k)) cs w) b (.inScope c::k) cs e a1 w1)→
   ∃e a2 w2,(∃st',R o e st'∧Conc B N L st' a2 w2)∧ArrivesIn (Machine.fenced P (FW rd)) P (lone (b.atR a (.code x:: .inScope c::k)) cs w) b k cs e a2 w2:=by
  rintro m s f x a w hl hbs ih ⟨e,a1,w1,⟨st',hq,hconc⟩,harr⟩
  rw [bD,hbs]at hl
  cases f with
  |next s'=>
   obtain⟨rfl,rfl⟩:=hq
   obtain⟨e2,a2,w2,hq2,harr2⟩:=ih s' a1 w1 hl hconc
   exact⟨e2,a2,w2,hq2, .of_steps (harr.1 _ hg) harr2⟩
  |done r=>
   obtain⟨hng,hR⟩:=hq
   simp only [Option.some.injEq]at hl
   subst hl
   cases e with
   |normal=>exact⟨.normal,a1,w1,⟨st',hR,hconc⟩,StepsIn.trans harr (.one (fenced_calm hbu hr rfl) Oj)⟩
   |exit id=>
    have hx:exitTo id (.inScope c::k)=exitTo id k:=by simp [exitTo]
    exact⟨_,a1,w1,⟨st',hR,hconc⟩,fun k' hk=>harr.1 k' (by rw [hx];exact hk),fun hr' hk=>harr.2 hr' (by rw [hx];exact hk)⟩
   |goto l'=>exact absurd rfl (hng l')
   |ret=>exact⟨_,a1,w1,⟨st',hR,hconc⟩,harr⟩
   |panic ch=>exact⟨_,a1,w1,⟨st',hR,hconc⟩,harr⟩
   |outgrown=>exact⟨_,a1,w1,⟨st',hR,hconc⟩,harr⟩
 have key: ∀m s a w,ay body m s=some o→Conc B N L (S s) a w→ ∃e a2 w2,(∃st',R o e st'∧Conc B N L st' a2 w2)∧ArrivesIn (Machine.fenced P (FW rd)) P (lone (b.atR a (.code rest:: .inScope c::k)) cs w) b k cs e a2 w2:=by
  intro m
  induction m with
  |zero=>intro s a w hl;cases hl
  |succ m ih=>
   intro s a w hl hconc
   cases hbs:body s with
   |none=>rw [bD,hbs]at hl;cases hl
   |some f=>exact fin m s f rest a w hl hbs (fun s' a' w' h1 h2=>ih s' a' w' h1 h2) (hb s f hbs a w hconc b (.inScope c::k) cs hro hbu hr)
 cases n with
 |zero=>cases h
 |succ n=>
  cases hbs:body s0 with
  |none=>rw [bD,hbs]at h;cases h
  |some f=>
   obtain⟨e,a2,w2,hq,harr⟩:=fin n s0 f c a w h hbs (fun s' a' w' h1 h2=>key n s' a' w' h1 h2) (h1 f hbs a w hc b (.inScope c::k) cs hro hbu hr)
   exact⟨e,a2,w2,hq, .of_steps (.one (fenced_calm hbu hr rfl) Uf) harr⟩
end
section
variable {rd:Option Nat} {P:Program} {B:Base} {N:Nat} {L:List Nat} {Q:Exit→St→Prop} {st:St}
theorem Wn {σ β X:Type} {x y:Code} (l:Nat) (hx:findLabel x l=none) (av:List Nat) (S:σ→St) (Sb:β→St) (Qo:X→Exit→St→Prop) {body:σ→Option (aM σ (Ex β X))} {n:Nat} {s0:σ} {o:Ex β X} (h:ay body n s0=some o)
  (hp:bG rd P B N L x (fun e st'=>e= .normal∧st'=S s0) st) (hb: ∀s f,body s=some f→bG rd P B N L y (GQ l S (JQ av Sb Qo) f) (S s))
  (hk:fE (fun z=> ∃s',bJ B N L (Sb z) s'∧Q .normal s') (fun v=> ∀e st',e≠ .normal→avoid av e→Qo v e st'→Q e st') o):bG rd P B N L (.scope (.seq x (.seq (.label l) y))) Q st:=by
 refine A7 (Ba (Ws (rest:= .seq .skip y) l (by simp [findLabel,hx]) S (JQ av Sb Qo) h (fun s f hf=>yQ (Ud (hb s f hf))) fun f hf=> ?_) fun e st' hR=> ?_)
 ·refine Uv _ hp fun e st' hh=> ?_
  obtain⟨rfl,rfl⟩:=hh
  exact yQ (X6 (hb s0 f hf))
 ·cases o with
  |brk z=>
   obtain⟨rfl,rfl⟩:=hR
   exact hk
  |ret v=>
   obtain⟨h2,h4,h3⟩:=hR
   exact⟨_, .refl,hk _ _ h2 h4 h3⟩
theorem ad4 {σ ρ:Type} {l:Nat} {S:σ→St} {R:ρ→Exit→St→Prop} {s:σ} (h:st=S s):GQ l S R (.next s) (.goto l) st:=⟨rfl,h⟩
theorem abS {σ β X:Type} {l:Nat} {S:σ→St} {av:List Nat} {Sb:β→St} {Qo:X→Exit→St→Prop} {v:X} {e:Exit} (h0: ∀l',e≠ .goto l') (h1:e≠ .normal) (h2:avoid av e) (h:Qo v e st):GQ l S (JQ av Sb Qo) (.done (.ret v)) e st:=⟨h0,h1,h2,h⟩
theorem abJ (l:Nat):Exit.ret≠ .goto l:=Exit.noConfusion
end
theorem Yl.leH {P:Program} {b:Nat} {args args':List SV} {hin hin' hout:List (Nat × Option Ob)} {res:TV} (h:Yl P b args hin res hout) (hl:RX args' args) (hh:wI hin' hin):Yl P b args' hin' res hout:=
 fun B vs l base cap hF hi hr hb=>h B vs l base cap hF (hi.le hh) (hl.rep hr) hb
theorem Yl.aeb {P:Program} {b b':Nat} {args args':List SV} {hin hin' hout hout':List (Nat × Option Ob)} {res res':TV} (l:List (Nat × Nat)) (h:Yl P b args hin res hout)
  (e0:swp l b=b') (e1:args.map (SV.ren (swp l))=args') (e2:BG (swp l) hin=hin') (e3:res.ren (swp l)=res') (e4:BG (swp l) hout=hout'):Yl P b' args' hin' res' hout':=by
 subst e0;subst e1;subst e2;subst e3;subst e4
 have r:=QS l
 intro B vs lp base cap hF hi hr hb
 obtain⟨fn,tmps,assign,body,h1,h2⟩:=h {B with ρ:=fun x=>B.ρ (swp l x)} vs lp base cap hF ((Qj r).1 hi) (Bh (σ:=swp l).1 hr) hb
 refine⟨fn,tmps,assign,body,h1,h2.mono ?_⟩
 rintro e w' ⟨v,rfl,ρ',F',hf,g1,g2⟩
 refine⟨v,rfl,fun x=>ρ' (Hl l x),F', ?_, ?_, ?_⟩
 ·refine⟨hf.os,hf.tape,hf.output,hf.size,hf.mem,fun b p hb=>hf.rho (Hl l b) p ?_,hf.fz,hf.bf⟩
  show B.ρ (swp l (Hl l b))=some p
  rw [r.st];exact hb
 ·refine(Qj (ρ0:=fun x=>B.ρ (swp l x)) r).2 ?_
  have:(fun x=>(fun x=>ρ' (Hl l x)) (swp l x))=ρ':=by funext x;simp [r.ts]
  rw [this];exact g1
 ·refine Ih.2 ?_
  have:(fun x=>(fun x=>ρ' (Hl l x)) (swp l x))=ρ':=by funext x;simp [r.ts]
  rw [this];exact g2
def DLs:List DV→List DV→Prop
 |[],[]=>True
 |x::xs,y::ys=>dR x y∧DLs xs ys
 |_,_=>False
theorem DLs.get: ∀{xs ys:List DV},DLs xs ys→xs.length=ys.length∧ ∀j,dR (xs.getD j .nilp) (ys.getD j .nilp)
 |[],[],_=> ⟨rfl,fun _=> .refl _⟩
 |x::xs,y::ys,⟨h1,h2⟩=>by
  obtain⟨g1,g2⟩:=DLs.get h2
  refine⟨by simp [g1],fun j=> ?_⟩
  cases j with
  |zero=>exact h1
  |succ j=>simpa using g2 j
 |[],_::_,h=>h.elim
 |_::_,[],h=>h.elim
theorem Li {ds es:List DV} {off:Nat} (h:DLs ds es):dR (oL ds off) (oL es off):=by
 obtain⟨h1,h2⟩:=h.get
 unfold oL
 rw [h1]
 exact dR.ip' (Nat.le_refl _) fun j _=>h2 _
def BF {α:Type} [Inhabited α] (c:α→Nat→EV) (l:List α):Nat→Nat→EV:=fun i j=>c (at' l i) j
section
variable {α:Type} [Inhabited α]
theorem Ma (c:α→Nat→EV) (l:List α) (n esz i off:Nat) (v:EV) (x:α) (hn:n=l.length) (h: ∀j,j<esz→c x j=if j=off then v else c (at' l i) j):aa5 n esz (stV (BF c l) i off v) (BF c (l.set i x)):=by
 intro i' hi' j hj
 unfold stV BF
 by_cases e:i'=i
 ·subst e
  rw [bV (by omega),h j hj]
  by_cases e2:j=off<;>simp [e2]
 ·rw [dh (Ne.symm e),if_neg (fun hh=>e hh.1)]
theorem acN (c:α→Nat→EV) (l m:List α) (esz:Nat) (elx:Nat→Nat→DV) (h: ∀i,i<m.length→ ∀j,j<esz→acQ (elx i j) (c (at' m i) j)):Lc l.length m.length esz (BF c l) elx (BF c (l++m)):=by
 refine⟨fun i hi j _=> ?_,fun i hi j hj=> ?_⟩
 ·unfold BF;rw [Cq hi]
 ·unfold BF
  rw [AX (by omega),Nat.add_sub_cancel_left]
  exact h i hi j hj
end
def yP (ks:List DV):Nat→Nat→DV:=fun i _=>ks.getD i .nilp
def ZY (vsz:Nat) (vs:List CV):Nat→Nat→CV:=fun i j=>vs.getD (i*vsz+j) (.d .nilp)
theorem Fn.nn {P:Program} {f:Nat} {esz len:Nat} {el:Nat→Nat→DV} {hin hout:List (Nat × Option Ob)} {res:TV} (h1:Fn P f [.one (.d (.sl (some true) esz len el))] hin res hout) (h2:len=0→Fn P f [.one (.d (.sl (some false) esz len el))] hin res hout):
  Fn P f [.one (.d (.sl none esz len el))] hin res hout:=by
 refine⟨h1.1,fun B vs hF hi hr=> ?_⟩
 match vs,hr with
 |[v],⟨⟨a,cap,hv,_,_,h3,h4,h5⟩,_⟩=>
  cases a with
  |none=>exact(h2 (h3 rfl).1).2 B [v] hF hi ⟨⟨none,cap,hv,(fun e=>by cases e),fun _=>rfl,h3,h4,h5⟩,trivial⟩
  |some ad=>exact h1.2 B [v] hF hi ⟨⟨some ad,cap,hv,fun _ e=>(by cases e),(fun e=>by cases e),h3,h4,h5⟩,trivial⟩
 |[],hr=>exact hr.elim
 |_::_::_,hr=>exact hr.2.elim
section
variable {B:Base} {N:Nat} {L:List Nat} {st:St}
theorem bJ.rD {p q b b' E esz n:Nat} {el:Nat→Nat→DV} {E0:TypeId} {cs:List CV} {nn:Bool} {len:Nat} (hp:get st.heap p=some (some (.cells E0 cs))) (hq:cs[q]? =some (.own b nn len)) (hb:get st.heap b=some (some (.arr E esz n el))) (hb':get st.heap b'=none):
  bJ B N L st ⟨st.slots,(p,some (.cells E0 (cs.set q (.own b' nn len))))::(b',some (.arr E esz n el))::(b,none)::st.heap⟩:=by
 intro a w hc
 obtain⟨⟨ρ,F,hfr,⟨ft,hi⟩,hs,dn⟩,hid,sz⟩:=hc
 have hρ:=hi.fresh b' hb'
 have hpb:p≠b:=fun e=>by rw [e,hb]at hp;cases hp
 have hpb':p≠b':=fun e=>by rw [e,hb']at hp;cases hp
 have hbb':b≠b':=fun e=>by rw [e,hb']at hb;cases hb
 obtain⟨pl,hpl⟩: ∃pl,ρ b=some pl:=by
  rcases hi.obj b _ hb with⟨h,_⟩|⟨k,base,cap,h,_⟩<;>exact⟨_,h⟩
 have hu: ∀x,bX ((p,some (.cells E0 (cs.set q (.own b' nn len))))::(b',some (.arr E esz n el))::(b,none)::st.heap) x=if p=x then some (some (.cells E0 (cs.set q (.own b' nn len))))else if b'=x then some (some (.arr E esz n el))else if b=x then some none else bX st.heap x:=fun x=>by simp only [bX];rw [aS,aS,aS]
 have g:Gr ρ F w (iN ρ b' pl) F w:=⟨dN hρ,fun _ h=>h,fun _ _=>rfl⟩
 have hlive: ∀x ox,(x=p∨x=b'∨x=b)→bX ((p,some (.cells E0 (cs.set q (.own b' nn len))))::(b',some (.arr E esz n el))::(b,none)::st.heap) x=some (some ox)→(x=p∧ox= .cells E0 (cs.set q (.own b' nn len)))∨(x=b'∧ox= .arr E esz n el):=fun x ox hx hh=>by
  rw [hu]at hh
  rcases hx with rfl|rfl|rfl
  ·rw [if_pos rfl]at hh;cases hh;exact .inl ⟨rfl,rfl⟩
  ·rw [if_neg hpb',if_pos rfl]at hh;cases hh;exact .inr ⟨rfl,rfl⟩
  ·rw [if_neg hpb,if_neg (Ne.symm hbb'),if_pos rfl]at hh;cases hh
 refine⟨⟨iN ρ b' pl,F,{hfr with rho:=fun x p' e=>dN hρ x p' (hfr.rho x p' e)},⟨Ey ft b' (ft b), ?_⟩,fun t' tv ht'=> ?_,dn⟩,hid,sz⟩
 ·refine hi.step g hfr (Nat.le_refl _) (fun x=>x=p∨x=b'∨x=b) (fun x ox hx hh=> ?_) (fun x ox hx hh=> ?_) (fun x ox k hx hh hf=> ?_) (fun x y ox oy k hx hy h1 h2 f1 f2=> ?_) (fun k hk=> .inl hk) fun x hh=> ?_
  ·rw [hu,if_neg (fun e=>hx (.inl e.symm)),if_neg (fun e=>hx (.inr (.inl e.symm))),if_neg (fun e=>hx (.inr (.inr e.symm)))]at hh
   exact⟨hh,fun _ _=>rfl,fun k=>by rw [nM (fun e=>hx (.inr (.inl e)))]⟩
  ·rcases hlive x ox hx hh with⟨rfl,rfl⟩|⟨rfl,rfl⟩
   ·rw [nM hpb']
    obtain⟨k,cap,vs,x1,x0,x2,x3⟩:=hi.obj x _ hp
    refine⟨k,cap,vs,dN hρ _ _ x1,x0,x2,cO.uq (by rw [x3.length,List.length_set]) fun j c hj=> ?_⟩
    rw [List.getElem?_set]at hj
    split at hj
    ·rename_i e;subst e
     split at hj
     ·cases hj
      obtain⟨u,hu',hr⟩:=x3.get hq
      refine⟨u,hu', ?_⟩
      rcases hr with⟨k,base,cap,e1,e2⟩|⟨e0,e1,e2,e3⟩
      ·rw [hpl]at e1;cases e1
       exact .inl ⟨k,base,cap,aN _ _,e2⟩
      ·rw [hpl]at e1;cases e1
       exact .inr ⟨e0,aN _ _,e2,e3⟩
     ·cases hj
    ·obtain⟨u,hu',hr⟩:=x3.get hj
     exact⟨u,hu',hr.gr g⟩
   ·rw [fF]
    rcases hi.obj b _ hb with⟨h,h0⟩|⟨k,base,cap,h,h1,h2⟩
    ·rw [hpl]at h;cases h;exact .inl ⟨aN _ _,h0⟩
    ·rw [hpl]at h;cases h;exact .inr ⟨k,base,cap,aN _ _,h1,h2⟩
  ·rcases hlive x ox hx hh with⟨rfl,rfl⟩|⟨rfl,rfl⟩
   ·rw [nM hpb']at hf
    exact .inl ⟨x,_, .inl rfl,hp,hf⟩
   ·rw [fF]at hf
    exact .inl ⟨b,_, .inr (.inr rfl),hb,hf⟩
  ·rcases hlive x ox hx h1 with⟨rfl,rfl⟩|⟨rfl,rfl⟩<;>rcases hlive y oy hy h2 with⟨rfl,rfl⟩|⟨rfl,rfl⟩
   ·rfl
   ·rw [nM hpb']at f1;rw [fF]at f2
    exact absurd (hi.dis _ _ _ _ k hp hb f1 f2) hpb
   ·rw [fF]at f1;rw [nM hpb']at f2
    exact absurd (hi.dis _ _ _ _ k hb hp f1 f2).symm hpb
   ·rfl
  ·rw [hu]at hh
   split at hh
   ·cases hh
   ·split at hh
    ·cases hh
    ·split at hh
     ·cases hh
     ·rename_i e1 e2 e3
      have:=hi.fresh x hh
      simp only [iN];rw [if_neg (Ne.symm e2)];exact this
 ·obtain⟨v,hv,hr⟩:=hs t' tv ht'
  exact⟨v,hv,hr.gr g⟩
end
theorem Xo {E esz n:Nat} {f g:Nat→Nat→DV} (h: ∀i,i<n→ ∀j,j<esz→dR (f i j) (g i j)):XT (some (.arr E esz n f)) (some (.arr E esz n g)):=by
 rintro ρ F w S b (hr|⟨k,base,cap,x1,x0,vs,x2,x3,x4,x5,x6⟩)
 ·exact .inl hr
 ·exact .inr ⟨k,base,cap,x1,x0,vs,x2,x3,x4,x5,fun i hi j hj=>by
   obtain⟨u,hu,hr⟩:=x6 i hi j hj
   exact⟨u,hu,h i hi j hj _ _ _ hr⟩⟩
theorem ak5 {α:Type} [Inhabited α] (c:α→Nat→DV) (n esz:Nat) (z:List DV) (x:α) (h: ∀j,j<esz→dR (z.getD j .nilp) (c x j)): ∀i,i<(List.replicate n x).length→ ∀j,j<esz→dR ((fun(_:Nat) j=>z.getD j .nilp) i j) (au c (List.replicate n x) i j):=by
 intro i hi j hj
 show dR (z.getD j .nilp) _
 unfold au
 rw [gM (by simpa using hi)]
 exact h j hj
theorem IV {E esz n m:Nat} {f:Nat→Nat→EV} {ov:Option (Nat × Nat × CV)} (h:n=m):XT (some (.rows E esz n f ov)) (some (.rows E esz m f ov)):=h ▸ .refl _
theorem an8 {α:Type} [Inhabited α] (c:α→Nat→DV) (l:List α) (n esz i off:Nat) (ds:List DV) (x:α) (hn:n=l.length) (h: ∀j,j<esz→dR (if off≤j∧j<off+ds.length then ds.getD (j - off) .nilp else c (at' l i) j) (c x j)):
  ∀i',i'<n→ ∀j,j<esz→dR (lH (au c l) i off ds i' j) (au c (l.set i x) i' j):=by
 intro i' hi' j hj
 unfold lH au
 by_cases e:i'=i
 ·subst e
  rw [bV (by omega)]
  have:=h j hj
  by_cases e2:off≤j∧j<off+ds.length
  ·rw [if_pos e2]at this;rw [if_pos ⟨rfl,e2⟩];exact this
  ·rw [if_neg e2]at this;rw [if_neg (fun hh=>e2 hh.2)];exact this
 ·rw [dh (Ne.symm e),if_neg (fun hh=>e hh.1)]
  exact .refl _
theorem dR.slN {nn nI:Option Bool} {esz len m:Nat} {f g:Nat→Nat→DV} (hl:len=m) (hn:nI=none∨nI=nn) (h: ∀i,i<len→ ∀j,j<esz→dR (f i j) (g i j)):dR (.sl nn esz len f) (.sl nI esz m g):=hl ▸ dR.sl hn h
theorem toNat_lt {i:Int} {n:Nat} (h:(0:Int)≤i∧i<(n:Int)):i.toNat<n:=by omega
def YR (l:List (Nat × Option Ob)):CV→Bool
 | .d x=>PI x
 | .own b _ _=>(get l b).isSome
 |_=>false
def aey (l:List (Nat × Option Ob)):SV→Bool
 | .one c=>YR l c
 | .agg cs=>cs.all (YR l)
def air (l:List (Nat × Option Ob)):TV→Bool
 | .v s=>aey l s
 | .iB m=>m.all (aey l)
def agp (l:List (Nat × Option Ob)):Ob→Prop
 | .cells _ cs=>cs.all (YR l)=true
 | .arr _ _ _ el=> ∀i j,PI (el i j)=true
 |_=>False
def WT (l:List (Nat × Option Ob)):List (Nat × Option Ob)→Prop
 |[]=>True
 |(_,none)::r=>WT l r
 |(_,some o)::r=>agp l o∧WT l r
section
variable {ρ ρ':Nat→Option Pl} {F F':Nat→Prop} {w w':World} {l:List (Nat × Option Ob)}
theorem WT.get: ∀{m:List (Nat × Option Ob)},WT l m→ ∀{b:Nat} {o:Ob},Sg.get m b=some (some o)→agp l o
 |[],_,b,o,h=>by cases h
 |(b0,x)::m,hm,b,o,h=>by
  rw [aS]at h
  split at h
  ·cases h;exact hm.1
  ·cases x with
   |none=>exact WT.get (m:=m) hm h
   |some _=>exact WT.get hm.2 h
theorem Pq {x:DV} {v:Value} (h:PI x=true) (hr:d9 F w x v):d9 F' w' x v:=by
 cases x<;>first|exact hr|simp [PI]at h
theorem Sr (hg: ∀b,(get l b).isSome=true→ρ' b=ρ b) {c:CV} {v:Value} (h:YR l c=true) (hr:jC ρ F w c v):jC ρ' F' w' c v:=by
 cases c with
 |d x=>exact Pq h hr
 |own b nn len=>
  have:=hg b h
  unfold jC at hr ⊢
  rw [this];exact hr
 |_=>simp [YR]at h
theorem LM (hg: ∀b,(get l b).isSome=true→ρ' b=ρ b): ∀{cs:List CV} {vs:List Value},cs.all (YR l)=true→cO ρ F w cs vs→cO ρ' F' w' cs vs
 |[],[],_,_=>trivial
 |c::cs,v::vs,h,⟨h1,h2⟩=>by
  simp only [List.all_cons,Bool.and_eq_true]at h
  exact⟨Sr hg h.1 h1,LM hg h.2 h2⟩
 |[],_::_,_,h=>h.elim
 |_::_,[],_,h=>h.elim
theorem U0 (hg: ∀b,(get l b).isSome=true→ρ' b=ρ b) {s:SV} {v:Value} (h:aey l s=true) (hr:ko ρ F w s v):ko ρ' F' w' s v:=by
 cases s with
 |one c=>exact Sr hg h hr
 |agg cs=>obtain⟨vs,e,hl⟩:=hr;exact⟨vs,e,LM hg h hl⟩
theorem Pb (hg: ∀b,(get l b).isSome=true→ρ' b=ρ b): ∀{cs:List SV} {vs:List Value},cs.all (aey l)=true→gN ρ F w cs vs→gN ρ' F' w' cs vs
 |[],[],_,_=>trivial
 |c::cs,v::vs,h,⟨h1,h2⟩=>by
  simp only [List.all_cons,Bool.and_eq_true]at h
  exact⟨U0 hg h.1 h1,Pb hg h.2 h2⟩
 |[],_::_,_,h=>h.elim
 |_::_,[],_,h=>h.elim
theorem aaX (hg: ∀b,(get l b).isSome=true→ρ' b=ρ b) {t:TV} {v:Value} (h:air l t=true) (hr:dJ ρ F w t v):dJ ρ' F' w' t v:=by
 cases t with
 |v s=>exact U0 hg h hr
 |iB m=>obtain⟨vs,e,hl⟩:=hr;exact⟨vs,e,Pb hg h hl⟩
theorem aaq (hg: ∀b,(get l b).isSome=true→ρ' b=ρ b) {S:Nat→Prop} {b:Nat} (hb:(get l b).isSome=true) {o:Ob} (h:agp l o) (hr:nO ρ F w S b o):nO ρ' F' w S b o:=by
 have e:=hg b hb
 cases o with
 |cells E cs=>
  obtain⟨k,cap,vs,h1,h2,h3,h4⟩:=hr
  exact⟨k,cap,vs,by rw [e];exact h1,h2,h3,LM hg h h4⟩
 |arr E esz len el=>
  rcases hr with⟨h1,h2⟩|⟨k,base,cap,h1,h2,h3⟩
  ·exact .inl ⟨by rw [e];exact h1,h2⟩
  ·refine .inr ⟨k,base,cap,by rw [e];exact h1,h2, ?_⟩
   obtain⟨vs,g1,g2,g3,g4,g5⟩:=h3
   exact⟨vs,g1,g2,g3,g4,fun i hi j hj=>by
    obtain⟨u,hu,hd⟩:=g5 i hi j hj
    exact⟨u,hu,Pq (h i j) hd⟩⟩
 |_=>exact h.elim
end
theorem Fn.aaf {P:Program} {f:Nat} {args args':List SV} {hin hout:List (Nat × Option Ob)} {res:TV} {frz:List Nat} {p:List Prop} (h:Fn P f args [] res hout) (he:L8 ⟨frz,[]⟩ (bX hin) args'=some (p,args)) (hp:All p)
  (hres:air hout res=true) (ho:WT hout hout) (hd:(hout.all fun x=>(get hin x.1).isNone)=true):Fn P f args' hin res (hin++hout):=by
 refine⟨h.1,fun B vs hF hi hr=> ?_⟩
 obtain⟨ft,hi⟩:=hi
 have hfr:Fr B B.ρ B.F B.w:=⟨rfl,rfl,rfl,Nat.le_refl _,fun _ _ _=>rfl,fun _ _ h=>h,fun k hk=> ⟨hF k hk, .inl hk⟩,fun _ h=>h⟩
 have hr2:=EL (f:=⟨frz,[]⟩) List.nodup_nil hi he hp hr
 have hF2: ∀k,En ft B.F (bX hin) frz k→k<B.w.heap.size:=fun k hk=>by
  rcases hk with hk|⟨b,ob,_,hob,hk⟩
  ·exact hF k hk
  ·exact(hi.blk b ob k hob hk).1
 refine Calls.mono (h.2 ⟨B.w,Fv B.ρ [],En ft B.F (bX hin) frz,fun _=>False⟩ vs hF2 ⟨fun _ _=>False,⟨fun _ _ hh=>by simp [bX,get]at hh,fun _ _ _ hh=>by simp [bX,get]at hh,fun _ _ _ _ _ hh=>by simp [bX,get]at hh,fun _ _=>rfl⟩⟩ hr2) ?_
 rintro e w' ⟨v,ρ',F',rfl,h1,⟨ft1,h2⟩,h3⟩
 have hmem: ∀k,k<B.w.heap.size→w'.heap[k]? =B.w.heap[k]? :=fun k hk=>h1.mem k hk fun hh=>hh
 have hin0: ∀b,(get hout b).isSome=true→get hin b=none:=fun b hb=>by
  rw [List.all_eq_true]at hd
  have key: ∀m:List (Nat × Option Ob),(∀x∈m,(get hin x.1).isNone=true)→(get m b).isSome=true→get hin b=none:=by
   intro m
   induction m with
   |nil=>intro _ hb;simp [get]at hb
   |cons x m ih=>
    intro hm hb
    obtain⟨b0,y⟩:=x
    rw [aS]at hb
    split at hb
    ·rename_i e;have:=hm _ List.mem_cons_self;rw [←e];simpa using this
    ·exact ih (fun x hx=>hm x (List.mem_cons_of_mem _ hx)) hb
  exact key hout hd hb
 let ρ2:Nat→Option Pl:=fun b=>if(get hout b).isSome=true then ρ' b else B.ρ b
 have e2: ∀b,(get hout b).isSome=true→ρ2 b=ρ' b:=fun b hb=>if_pos hb
 have e3: ∀b, ¬ (get hout b).isSome=true→ρ2 b=B.ρ b:=fun b hb=>if_neg hb
 have hrho: ∀b q,B.ρ b=some q→ρ2 b=some q:=fun b q hq=>by
  by_cases hb:(get hout b).isSome=true
  ·have:=hi.fresh b (hin0 b hb);rw [this]at hq;cases hq
  ·rw [e3 b hb];exact hq
 have g:Gr B.ρ B.F B.w ρ2 B.F w':=⟨hrho,fun _ h=>h,fun k hk=>hmem k (hF k hk)⟩
 have hap: ∀b,get hin b=none→bX (hin++hout) b=get hout b:=fun b q=>by
  show get (hin++hout) b=_
  rw [get_append,q]
 have hap0: ∀b x,get hin b=some x→bX (hin++hout) b=some x:=fun b x q=>by
  show get (hin++hout) b=_
  rw [get_append,q]
 have hap1: ∀b,(get hout b).isSome=true→bX (hin++hout) b=get hout b:=fun b hb=>hap b (hin0 b hb)
 refine⟨v,ρ2,B.F,rfl,⟨h1.os,h1.tape,h1.output,h1.size,fun k hk _=>hmem k hk,hrho,fun k hk=> ⟨Nat.lt_of_lt_of_le (hF k hk) h1.size, .inl hk⟩,fun _ h=>h⟩,⟨fun b k=>if(get hout b).isSome=true then ft1 b k else ft b k, ?_⟩,aaX e2 hres h3⟩
 refine hi.step g hfr h1.size (fun b=>(get hout b).isSome=true) (fun b ob hb hh=> ?_) (fun b ob hb hh=> ?_) (fun b ob k hb hh hf=> ?_) (fun b b' ob ob' k hb hb' hh hh' hf hf'=> ?_) (fun k hk=> .inl hk) (fun b hh=> ?_)
 ·have hn:get hout b=none:=by cases q:get hout b with|none=>rfl|some _=>rw [q]at hb;exact absurd rfl hb
  have:bX hin b=some (some ob):=by
   show get hin b=_
   cases q:get hin b with
   |none=>rw [hap b q,hn]at hh;cases hh
   |some x=>rw [hap0 b x q]at hh;exact hh
  exact⟨this,fun k hk=>hmem k (hi.blk b ob k this hk).1,fun k=>by rw [if_neg hb]⟩
 ·rw [hap1 b hb]at hh
  have e4:(fun k=>if(get hout b).isSome=true then ft1 b k else ft b k)=ft1 b:=by funext k;rw [if_pos hb]
  show nO ρ2 B.F w' (fun k=>if(get hout b).isSome=true then ft1 b k else ft b k) b ob
  rw [e4]
  exact aaq e2 hb (ho.get hh) (h2.obj b ob hh)
 ·rw [hap1 b hb]at hh
  rw [if_pos hb]at hf
  obtain⟨q1,_,q3⟩:=h2.blk b ob k hh hf
  exact .inr ⟨q3.elim (fun h=>h.elim) id,q1⟩
 ·rw [hap1 b hb]at hh
  rw [hap1 b' hb']at hh'
  rw [if_pos hb]at hf
  rw [if_pos hb']at hf'
  exact h2.dis b b' ob ob' k hh hh' hf hf'
 ·have q1:get hin b=none:=by
   cases q:get hin b with
   |none=>rfl
   |some x=>rw [hap0 b x q]at hh;cases hh
  rw [hap b q1]at hh
  rw [e3 b (by rw [hh];simp)]
  exact hi.fresh b q1
abbrev nS:DV:= .sl (some false) 0 0 fun _ _=> .nilp
structure RI where
 yb:List (Nat × Bool):=[]
 an:List (Nat × Cm):=[]
 fr:List (Nat × Nat):=[]
def abh {α:Type} (l:List (Nat × α)):List Nat:=l.map (·.1)
def afW (frz:List Nat) (s:St):Fin:=⟨frz,s.heap.map fun p=>(p.1,p.1)⟩
def RI.on (x:RI) (frz:List Nat) (s:St):LX:={yb:=ic x.yb,an:=anf x.an,fr:=frf x.fr,fin:=afW frz s,ts:=abh s.slots}
def aju (a l:List Nat):List Nat:=l.foldl (fun acc x=>bif oG x acc then acc else x::acc) a
def ali:List Oper→Nat→List (Nat × List Nat)→List (Nat × List Nat)
 |[],_,acc=>acc
 |o::os,i,acc=>ali os (i+1) ((i,o.after.toList.foldl (fun x e=>bif Region.binds .any e then aju (aju x [e.on]) (match get acc e.on with|some l=>l|none=>[])else x) [])::acc)
def clO (ops:Array Oper):List (Nat × List Nat):=ali ops.toList 0 []
section
variable {rd:Option Nat} {P:Program} {B:Base} {N:Nat} {L:List Nat} {T:List (Nat × TI)} {Q:Exit→St→Prop} {st st':St} {id:Nat} {ops:Array Oper} {y:Code}
theorem rz (hT:vo P T) (s:St) (x:RI) (frz:List Nat) (hQ:Q .normal s) (he:Q9 (Qk P) T ops N L (x.on frz s) st=some ([],s):=by kernel_rfl):bG rd P B N L (.region id ops false) Q st:=
 EO hT s _ he trivial .refl hQ
theorem rg (hT:vo P T) (s:St) (cs:List Prop) (x:RI) (frz:List Nat) (hc:All cs) (hQ:Q .normal s) (he:Q9 (Qk P) T ops N L (x.on frz s) st=some (cs,s):=by kernel_rfl):bG rd P B N L (.region id ops false) Q st:=
 EO hT s _ he hc .refl hQ
theorem ri (hT:vo P T) (s:St) (cs:List Prop) (x:RI) (frz:List Nat) (hc:All cs) (hi:bJ B N L s st') (hQ:Q .normal st') (he:Q9 (Qk P) T ops N L (x.on frz s) st=some (cs,s):=by kernel_rfl):bG rd P B N L (.region id ops false) Q st:=
 EO hT s _ he hc hi hQ
theorem sz (hT:vo P T) (s:St) (x:RI) (frz:List Nat) (hQ:bG rd P B N L y Q s) (he:Q9 (Qk P) T ops N L (x.on frz s) st=some ([],s):=by kernel_rfl):bG rd P B N L (.seq (.region id ops false) y) Q st:=
 yQ (EO hT s _ he trivial .refl hQ)
theorem sg (hT:vo P T) (s:St) (cs:List Prop) (x:RI) (frz:List Nat) (hc:All cs) (hQ:bG rd P B N L y Q s) (he:Q9 (Qk P) T ops N L (x.on frz s) st=some (cs,s):=by kernel_rfl):bG rd P B N L (.seq (.region id ops false) y) Q st:=
 yQ (EO hT s _ he hc .refl hQ)
theorem si (hT:vo P T) (s:St) (cs:List Prop) (x:RI) (frz:List Nat) (hc:All cs) (hi:bJ B N L s st') (hQ:bG rd P B N L y Q st') (he:Q9 (Qk P) T ops N L (x.on frz s) st=some (cs,s):=by kernel_rfl):bG rd P B N L (.seq (.region id ops false) y) Q st:=
 yQ (EO hT s _ he hc hi hQ)
theorem dg (hT:vo P T) (hm:P.follows .mixedOrders=true) (s:St) (cs:List Prop) (x:RI) (frz:List Nat) (hc:All cs) (hQ:Q .normal s) (he:XF (Qk P) T ops N L (x.on frz s) (clO ops) st=some (cs,s):=by kernel_rfl):bG rd P B N L (.region id ops true) Q st:=
 LH hT hm s _ _ he hc .refl hQ
theorem di (hT:vo P T) (hm:P.follows .mixedOrders=true) (s:St) (cs:List Prop) (x:RI) (frz:List Nat) (hc:All cs) (hi:bJ B N L s st') (hQ:Q .normal st') (he:XF (Qk P) T ops N L (x.on frz s) (clO ops) st=some (cs,s):=by kernel_rfl):bG rd P B N L (.region id ops true) Q st:=
 LH hT hm s _ _ he hc hi hQ
theorem sd (hT:vo P T) (hm:P.follows .mixedOrders=true) (s:St) (cs:List Prop) (x:RI) (frz:List Nat) (hc:All cs) (hQ:bG rd P B N L y Q s) (he:XF (Qk P) T ops N L (x.on frz s) (clO ops) st=some (cs,s):=by kernel_rfl):bG rd P B N L (.seq (.region id ops true) y) Q st:=
 yQ (LH hT hm s _ _ he hc .refl hQ)
theorem fi (s:St) (cs:List Prop) (frz:List Nat) (hc:All cs) (he:finish L (afW frz s) (abh s.slots) [] (UU st)=some (cs,s):=by kernel_rfl):bJ B N L st s:=bJ.fin _ _ he hc
theorem fz (s:St) (frz:List Nat) (he:finish L (afW frz s) (abh s.slots) [] (UU st)=some ([],s):=by kernel_rfl):bJ B N L st s:=bJ.fin _ _ he trivial
def aa9 {α:Type} (t:Nat) (v:α):List (Nat × α)→List (Nat × α)
 |[]=>[]
 |(k,x)::l=>bif Nat.beq k t then(k,v)::l else(k,x)::aa9 t v l
theorem PG {α:Type} {t:Nat} {v:α}: ∀{l:List (Nat × α)} {n:Nat} {x:α},get (aa9 t v l) n=some x→(n=t∧x=v∧(get l t).isSome)∨get l n=some x
 |[],n,x,h=>by simp [aa9,get]at h
 |(k,y)::l,n,x,h=>by
  unfold aa9 at h
  cases e:Nat.beq k t with
  |true=>
   have:=Nat.eq_of_beq_eq_true e
   subst this
   simp only [e,cond_true,aS]at h
   split at h
   ·rename_i hk;cases h;left;exact⟨hk.symm,rfl,by simp [aS]⟩
   ·rename_i hk;right;rw [aS,if_neg hk];exact h
  |false=>
   simp only [e,cond_false,aS]at h
   have hkt:k≠t:=fun q=>by subst q;simp at e
   split at h
   ·rename_i hk;right;rw [aS,if_pos hk];exact h
   ·rename_i hk
    rcases PG h with⟨h1,h2,h3⟩|h1
    ·left;exact⟨h1,h2,by rw [aS,if_neg hkt];exact h3⟩
    ·right;rw [aS,if_neg hk];exact h1
theorem us (t:Nat) (y:TV) {x:TV} (he:get st.slots t=some x) (h:fe x y):bJ B N L st ⟨aa9 t y st.slots,st.heap⟩:=by
 intro a w hc
 obtain⟨⟨ρ,F,hfr,hhi,hs,dn⟩,hid,sz⟩:=hc
 refine⟨⟨ρ,F,hfr,hhi,fun t' tv ht=> ?_,dn⟩,hid,sz⟩
 rcases PG ht with⟨rfl,rfl,_⟩|h1
 ·obtain⟨v,hv,hr⟩:=hs _ _ he
  exact⟨v,hv,h _ _ _ _ hr⟩
 ·exact hs _ _ h1
theorem ct {c:Operand} {x:Code} {b:Bool} (hb:b=true) (h:bG rd P B N L x Q st) (he:M0 st c=some (.v (.one (.d (.bool b)))):=by kernel_rfl):bG rd P B N L (.cond c x y) Q st:=
 Hr b he (fun _=>h) fun hn=>absurd (hb.symm.trans hn) Bool.noConfusion
theorem cf {c:Operand} {x:Code} {b:Bool} (hb:b=false) (h:bG rd P B N L y Q st) (he:M0 st c=some (.v (.one (.d (.bool b)))):=by kernel_rfl):bG rd P B N L (.cond c x y) Q st:=
 Hr b he (fun hn=>absurd (hb.symm.trans hn) Bool.noConfusion) fun _=>h
theorem ck {c:Operand} {x:Code} (h:bG rd P B N L x Q st) (he:M0 st c=some (.v (.one (.d (.bool true)))):=by kernel_rfl):bG rd P B N L (.cond c x y) Q st:=
 Hr true he (fun _=>h) fun hn=>Bool.noConfusion hn
theorem cn {c:Operand} {x:Code} (h:bG rd P B N L y Q st) (he:M0 st c=some (.v (.one (.d (.bool false)))):=by kernel_rfl):bG rd P B N L (.cond c x y) Q st:=
 Hr false he (fun hn=>Bool.noConfusion hn) fun _=>h
theorem rh {rs:List ResultVar} {res:TV} {hout:List (Nat × Option Ob)} (l:List SV) (h3:fe (ab8 l) res) (h4:wI st.heap hout) (h1:RN T st rs=some ([],l):=by kernel_rfl):aW T rs res hout .ret st:=⟨.inr rfl,⟨[],l,h1,trivial,h3⟩,h4⟩
theorem oi {α:Type} {a b:α} (h:some a=some b):a=b:=Option.some.inj h
def eqs {α:Type} (x:α):Nat→List Prop→List Prop
 |0,l=>l
 |n+1,l=>(x=x)::eqs x n l
theorem ae {α:Type} {x:α} {n:Nat} {l:List Prop} (h:All l):All (eqs x n l):=by
 induction n with
 |zero=>exact h
 |succ n ih=>exact⟨rfl,ih⟩
theorem rk {f:FuncId} {args:List SV} {hin hout:List (Nat × Option Ob)} {res:TV} (l:List (Nat × Nat)) (h:Fn P f args hin res hout):Fn P f (args.map (SV.ren (swp l))) (BG (swp l) hin) (res.ren (swp l)) (BG (swp l) hout):=
 Fn.aeb l h rfl rfl rfl rfl
def cA {f:FuncId} {args:List SV} {hin hout:List (Nat × Option Ob)} {res:TV} (_:Fn P f args hin res hout) (ids:List Nat):Cm:= .call ids res hout
def cR {f:FuncId} {args:List SV} {hin hout:List (Nat × Option Ob)} {res:TV} (_:Fn P f args hin res hout) (ids:List Nat):Cm:= .callR ids res
theorem aaO {α:Type} {c:Bool} {x y:α} (h:c=true):(bif c then x else y)=x:=by rw [h];rfl
theorem acd {α:Type} {c:Bool} {x y:α} (h:c=false):(bif c then x else y)=y:=by rw [h];rfl
end
theorem tR {l:List (Nat × TV)} {t:Nat} {x:TV} (h:get l t=some x:=by rfl): ∃y,get l t=some y∧fe y x:=⟨x,h,fe.refl x⟩
theorem cW {b:Nat} {nn:Bool} {n m:Nat} (h:n=m:=by simp only [List.length_set,List.length_append,List.length_cons,List.length_nil,List.length_replicate]):bH (.own b nn n) (.own b nn m):=bH.of (congrArg (CV.own _ _) h)
theorem oW {E esz n m:Nat} {f:Nat→Nat→DV} (h:n=m:=by simp only [List.length_set,List.length_append,List.length_cons,List.length_nil,List.length_replicate]):XT (some (.arr E esz n f)) (some (.arr E esz m f)):=acV h
def aQ:= @yQ
def aP:= @Ud
def aR:= @acK
def aX:= @aaD
def aI:= @ac0
def aB:= @VU
def aL:= @OC
def aO:= @aby
def bE:= @XY
def bI:= @abU
theorem lN {σ β X:Type} {b:Nat} {av:List Nat} {S:σ→St} {Sb:β→St} {Qo:X→Exit→St→Prop} {s:σ} {st:St} (h:st=S s:=by kernel_rfl):LQ b av S Sb Qo (.next s) .normal st:=acX h
theorem lB {σ β X:Type} {b:Nat} {av:List Nat} {S:σ→St} {Sb:β→St} {Qo:X→Exit→St→Prop} {z:β} {st:St} (h:st=Sb z:=by kernel_rfl):LQ b av S Sb Qo (.done (.brk z)) (.exit b) st:=ahe h
theorem rK {P:Program} {f:FuncId} {args args':List SV} {hin hin' hout hout':List (Nat × Option Ob)} {res res':TV} (l:List (Nat × Nat)) (h:Fn P f args hin res hout)
 (e1:args.map (SV.ren (swp l))=args':=by kernel_rfl) (e2:BG (swp l) hin=hin':=by kernel_rfl) (e3:res.ren (swp l)=res':=by kernel_rfl) (e4:BG (swp l) hout=hout':=by kernel_rfl):Fn P f args' hin' res' hout':=Fn.aeb l h e1 e2 e3 e4
theorem yK {P:Program} {b b':Nat} {args args':List SV} {hin hin' hout hout':List (Nat × Option Ob)} {res res':TV} (l:List (Nat × Nat)) (h:Yl P b args hin res hout)
 (e0:swp l b=b':=by kernel_rfl) (e1:args.map (SV.ren (swp l))=args':=by kernel_rfl) (e2:BG (swp l) hin=hin':=by kernel_rfl) (e3:res.ren (swp l)=res':=by kernel_rfl) (e4:BG (swp l) hout=hout':=by kernel_rfl):Yl P b' args' hin' res' hout':=Yl.aeb l h e0 e1 e2 e3 e4
theorem rl {T:List (Nat × TI)} {rs:List ResultVar} {res:TV} {hout:List (Nat × Option Ob)} {st:St} (l:List SV) (h1:RN T st rs=some ([],l):=by kernel_rfl) (h2:ab8 l=res:=by kernel_rfl) (h3:st.heap=hout:=by kernel_rfl):aW T rs res hout .ret st:=
 ⟨.inr rfl,⟨[],l,h1,trivial,h2 ▸ fe.refl _⟩,h3 ▸ wI.refl _⟩
theorem hNl: ∀(n:Nat) {l l':List (Nat × Option Ob)},wI (l.drop n) (l'.drop n)→l.take n=l'.take n→wI l l'
 |0,_,_,h,_=>h
 |n+1,[],[],_,_=>trivial
 |n+1,[],_::_,_,e=>by cases e
 |n+1,_::_,[],_,e=>by cases e
 |n+1,(a,x)::l,(b,y)::l',h,e=>by
  simp only [List.take_succ_cons,List.cons.injEq,Prod.mk.injEq]at e
  obtain⟨⟨rfl,rfl⟩,e⟩:=e
  exact⟨rfl,XT.refl _,hNl n h e⟩
theorem hN (n:Nat) {l l':List (Nat × Option Ob)} (h:wI (l.drop n) (l'.drop n)) (e:l.take n=l'.take n:=by kernel_rfl):wI l l':=hNl n h e
def lR:= @ag0
def fN:= @abR
def tL:= @toNat_lt
end Sg

namespace Sg
open Go Go.ChangeShapes Go.WideShapes Go.RowKit Go.Deep
def Ox (w:World) (k:Nat):Prop:=k<w.heap.size
theorem aef {w:World} {k off:Nat} {u:Value} (h:w.cell? ⟨k,off,none⟩=some u):k<w.heap.size:=by
 unfold World.cell? at h
 cases e:w.heap[k]? with
 |none=>simp [e]at h
 |some o=>exact(Array.getElem?_eq_some_iff.mp e).1
theorem cell_spot {w:World} {a:Addr} {u:Value} (h:w.cell? a=some u):a.spot=none:=by
 unfold World.cell? at h
 cases e:a.spot with
 |none=>rfl
 |some s=>
  split at h
  ·simp [e]at h
  ·cases h
structure Rd (P:Program) (t:TypeId) (n:Nat) {α:Type} (c:α→Nat→DV) (S:α→Prop):Prop where
 size:P.cellsOf t=n
 rd: ∀{H:Type} {enc:TypeId × Value→H} {w:World} {fuel:Nat} {cs:List Value} {x:DataW H × List MemPlace},DataW.trod enc P w 0 (fun _=>true) true fuel t cs=some x→
  ∃a:α,S a∧cs.length=n∧ ∀j,j<n→ ∃u,cs[j]? =some u∧d9 (Ox w) w (c a j) u
section
variable {P:Program} {t e:TypeId}
theorem Rd.int (ht:P.underlying t=some (.int .i64)) (hs:P.cellsOf t=1):Rd P t 1 (aC .i64) (fun n=> -9223372036854775808≤n∧n≤9223372036854775807):=by
 refine⟨hs,fun h=> ?_⟩
 obtain⟨n,rfl,_,hw⟩:=DataW.trod_int ht h
 refine⟨n,by simpa [Lit.wf,IntKind.min,IntKind.max,IntKind.signed,IntKind.bits]using hw,rfl,fun j hj=> ?_⟩
 have:j=0:=by omega
 subst this;exact⟨_,rfl,rfl⟩
theorem Rd.bool (ht:P.underlying t=some .bool) (hs:P.cellsOf t=1):Rd P t 1 af (fun _=>True):=by
 refine⟨hs,fun h=> ?_⟩
 obtain⟨b,rfl,_⟩:=DataW.trod_bool ht h
 refine⟨b,trivial,rfl,fun j hj=> ?_⟩
 have:j=0:=by omega
 subst this;exact⟨_,rfl,rfl⟩
open Classical in
theorem Rd.slice {n:Nat} {α:Type} [Inhabited α] {c:α→Nat→DV} {S:α→Prop} (ht:P.underlying t=some (.slice e)) (hs:P.cellsOf t=1) (hn:0<n) (he:Rd P e n c S):Rd P t 1 (slC n c) (fun l=>l.length≤9223372036854775807∧ ∀x∈l,S x):=by
 refine⟨hs,fun{H enc w fuel cs x} h=> ?_⟩
 rcases open_slice ht h with⟨rfl,_⟩|⟨a,len,cap,m,fu,D,Pl,rfl,hb,hl,hm,hmm,_,hx⟩
 ·refine⟨[],⟨by simp,by simp⟩,rfl,fun j hj=> ?_⟩
  have:j=0:=by omega
  subst this
  exact⟨_,rfl,none,0,rfl,by simp,by simp,by simp,Nat.le_refl _,by simp⟩
 ·simp only [if_true]at hmm
  subst hmm
  have hel: ∀i,i<m→ ∃y:α,S y∧ ∀j,j<n→a.spot=none∧ ∃u,w.cell? ⟨a.block,a.off+(i*n+j),none⟩=some u∧d9 (Ox w) w (c y j) u:=by
   intro i hi
   obtain⟨cs',h1,h2⟩:=hx i hi
   rw [he.size]at h1
   obtain⟨y,hy,hlen,hc⟩:=he.rd h2
   obtain⟨_,hcl,hat⟩:=World.cells?_some h1
   obtain⟨cs0,h10,h20⟩:=hx 0 (by omega)
   rw [he.size]at h10
   obtain⟨y0,_,hlen0,hc0⟩:=he.rd h20
   obtain⟨_,_,hat0⟩:=World.cells?_some h10
   obtain⟨u0,hu0,_⟩:=hc0 0 hn
   have hsp:a.spot=none:=by
    have:=(hat0 0 hn).trans hu0
    simp only [Nat.zero_mul]at this
    have h3:=cell_spot this
    simpa [Addr.add]using h3
   refine⟨y,hy,fun j hj=> ⟨hsp, ?_⟩⟩
   obtain⟨u,hu,hr⟩:=hc j hj
   refine⟨u, ?_,hr⟩
   have:=(hat j hj).trans hu
   rw [Ar hsp,Ar rfl]at this
   rw [←this];simp only [Nat.add_assoc]
  let pick:Nat→α:=fun i=>if h:i<m then Classical.choose (hel i h)else default
  have hpick: ∀i,i<m→S (pick i)∧ ∀j,j<n→a.spot=none∧ ∃u,w.cell? ⟨a.block,a.off+(i*n+j),none⟩=some u∧d9 (Ox w) w (c (pick i) j) u:=by
   intro i hi
   show S (dite _ _ _)∧_
   simp only [pick,dif_pos hi]
   exact Classical.choose_spec (hel i hi)
  let l:List α:=(List.range len).map pick
  have hll:l.length=len:=by simp [l]
  have hat: ∀i,i<len→at' l i=pick i:=fun i hi=>by simp [at',l,hi]
  refine⟨l,⟨by rw [hll];exact Nat.le_trans (Nat.le_trans hl hm) (by decide),fun x hx=> ?_⟩,rfl,fun j hj=> ?_⟩
  ·obtain⟨i,hi,rfl⟩:=List.mem_map.mp hx
   exact(hpick i (Nat.lt_of_lt_of_le (List.mem_range.mp hi) hl)).1
  ·have:j=0:=by omega
   subst this
   refine⟨_,rfl,some a,m, ?_,by simp,by simp,by simp,by rw [hll];exact hl,fun ad ha=> ?_⟩
   ·simp [hll]
   ·cases ha
    refine⟨fun h0=> ?_,fun i hi j hj=> ?_⟩
    ·exact((hpick 0 (by omega)).2 0 hn).1
    ·rw [hll]at hi
     obtain⟨_,u,hu,hr⟩:=(hpick i (by omega)).2 j hj
     exact⟨aef hu,u,hu,by show d9 _ _ (c (at' l i) j) u;rw [hat i hi];exact hr⟩
theorem R6 {n off:Nat} {α:Type} {c:α→Nat→DV} {w:World} {cs:List Value} {a:α} (h: ∀j,j<n→ ∃u,((cs.drop off).take n)[j]? =some u∧d9 (Ox w) w (c a j) u):
  ∀j,j<n→ ∃u,cs[off+j]? =some u∧d9 (Ox w) w (c a j) u:=by
 intro j hj
 obtain⟨u,hu,hr⟩:=h j hj
 rw [List.getElem?_take_of_lt hj,List.getElem?_drop]at hu
 exact⟨u,hu,hr⟩
theorem Rd.fields {fs:Array Field} {n:Nat} (ht:P.underlying t=some (.struct fs)) (hs:P.cellsOf t=n) {H:Type} {enc:TypeId × Value→H} {w:World} {fuel:Nat} {cs:List Value} {x:DataW H × List MemPlace}
  (h:DataW.trod enc P w 0 (fun _=>true) true fuel t cs=some x):cs.length=n∧ ∀(i:Nat) (f:Field),fs[i]? =some f→ ∃y,DataW.trod enc P w 0 (fun _=>true) true (fuel - 1) f.type ((cs.drop f.offset).take (P.cellsOf f.type))=some y:=by
 obtain⟨xs,m,rfl,_,hl,hxl,hf⟩:=DataW.trod_struct ht h
 refine⟨by rw [hl,hs],fun i f hi=> ?_⟩
 have hlt:=(Array.getElem?_eq_some_iff.mp hi).1
 have:=hf i f hi
 rw [List.getElem?_eq_getElem (by omega)]at this
 exact⟨_,this⟩
theorem Rd.field {n off:Nat} {α:Type} {c:α→Nat→DV} {S:α→Prop} (he:Rd P e n c S) {H:Type} {enc:TypeId × Value→H} {w:World} {fuel:Nat} {cs:List Value}
  (h: ∃y,DataW.trod enc P w 0 (fun _=>true) true fuel e ((cs.drop off).take (P.cellsOf e))=some y): ∃a:α,S a∧ ∀j,j<n→ ∃u,cs[off+j]? =some u∧d9 (Ox w) w (c a j) u:=by
 obtain⟨y,hy⟩:=h
 rw [he.size]at hy
 obtain⟨a,ha,hl,hc⟩:=he.rd hy
 exact⟨a,ha,R6 hc⟩
theorem Rd.elems {m n:Nat} (ht:P.underlying t=some (.array m e)) (hs:P.cellsOf t=n) {H:Type} {enc:TypeId × Value→H} {w:World} {fuel:Nat} {cs:List Value} {x:DataW H × List MemPlace}
  (h:DataW.trod enc P w 0 (fun _=>true) true fuel t cs=some x):cs.length=n∧ ∀(i:Nat),i<m→ ∃y,DataW.trod enc P w 0 (fun _=>true) true (fuel - 1) e ((cs.drop (i*P.cellsOf e)).take (P.cellsOf e))=some y:=by
 obtain⟨xs,q,rfl,_,hl,hxl,hf⟩:=DataW.trod_array ht h
 refine⟨by rw [hl,hs],fun i hi=> ?_⟩
 have:=hf i hi
 rw [List.getElem?_eq_getElem (by omega)]at this
 exact⟨_,this⟩
end
section
variable {P:Program} {t:TypeId}
theorem Rd.agg {n:Nat} {α:Type} {c:α→Nat→DV} {S:α→Prop} (hr:Rd P t n c S) {fs:Array Field} (ht:P.underlying t=some (.struct fs)) {W:World} {b0:Nat} {v:Value} (hv:Value.okWide P W .any b0 t v)
  {H:Type} {enc:TypeId × Value→H} {d:DataW H} {ps:List MemPlace} (h:DataW.Trod enc P W 0 (fun _=>true) true t v d ps):
  ∃a:α,S a∧ko (fun _=>none) (Ox W) W (.agg ((List.range n).map fun j=> .d (c a j))) v:=by
 obtain⟨cs,rfl,hsz⟩:=okWide_struct ht hv
 obtain⟨fuel,hf⟩:=h
 obtain⟨a,ha,hl,hc⟩:=hr.rd hf
 refine⟨a,ha,cs.toList,by simp,cO.uq (by rw [List.length_map,List.length_range];exact hl) fun j x hx=> ?_⟩
 have hj:j<n:=by
  have:=(List.getElem?_eq_some_iff.mp hx).1
  simpa using this
 obtain⟨u,hu,hru⟩:=hc j hj
 refine⟨u,hu, ?_⟩
 simp [hj]at hx
 subst hx
 exact hru
theorem Rd.one {α:Type} {c:α→Nat→DV} {S:α→Prop} (hr:Rd P t 1 c S) {W:World} {v:Value} (hv:v.cells.toList=[v])
  {H:Type} {enc:TypeId × Value→H} {d:DataW H} {ps:List MemPlace} (h:DataW.Trod enc P W 0 (fun _=>true) true t v d ps): ∃a:α,S a∧ko (fun _=>none) (Ox W) W (.one (.d (c a 0))) v:=by
 obtain⟨fuel,hf⟩:=h
 rw [hv]at hf
 obtain⟨a,ha,hl,hc⟩:=hr.rd hf
 obtain⟨u,hu,hru⟩:=hc 0 (by omega)
 simp at hu;subst hu
 exact⟨a,ha,hru⟩
theorem adf {k:IntKind} (ht:P.underlying t=some (.int k)) {W:World} {b0:Nat} {v:Value} (hv:Value.okWide P W .any b0 t v):v.cells.toList=[v]:=by
 obtain⟨n,rfl⟩:=okWide_int ht hv;rfl
theorem Zm {f:FuncId} {args:List SV} {W:World} {vs:List Value} (h:Fn P f args [] (vB true) []) (hr:gN (fun _=>none) (Ox W) W args vs):
  Calls P f vs.toArray W fun e W'=>e= .returned (.bool true)∧Below W.heap.size W W':=by
 refine(h.2 ⟨W,fun _=>none,Ox W,fun _=>False⟩ vs (fun _ h=>h) ⟨fun _ _=>False, ?_⟩ hr).mono fun e W' hh=> ?_
 ·exact⟨fun b ob h=>(by cases h),fun b ob k h=>(by cases h),fun b b' ob ob' k h=>(by cases h),fun _ _=>rfl⟩
 ·obtain⟨v,ρ',F',he,fr,_,hv⟩:=hh
  have hv':v= .bool true:=hv
  subst hv'
  exact⟨he,fr.os,fr.tape,fr.output,fr.size,fun k hk=>fr.mem k hk fun q=>q⟩
theorem Fy {H:Type} {enc:TypeId × Value→H} (hl:laidOutB P=true) {W W':World} (hb:Below W.heap.size W W') {sp:Nat→Bool}: ∀{ts:List TypeId} {vs:List Value} {ds:List (DataW H)} {ps:List MemPlace},
  DataW.TrodAll enc P W 0 (fun _=>true) true ts vs ds ps→(∀t∈ts,P.readableRec t=true∧t<P.types.size)→(∀q∈ps,q.block<W.heap.size)→(∀q∈ps,sp q.block=true)→DataW.TrodAll enc P W' 0 sp true ts vs ds ps
 |[],vs,ds,ps,h,_,_,_=>by
  obtain⟨rfl,rfl,rfl⟩:=trodAll_nil h;rfl
 |t::ts,vs,ds,ps,h,hr,hlt,hsp=>by
  obtain⟨v,vs',d,ds',p,q,rfl,rfl,rfl,h0,h1⟩:=trodAll_cons h
  have ht:=hr t List.mem_cons_self
  exact trodAll_cons_mk (WideElems.Trod_stays hl ht.1 ht.2 h0 (fun x hx=>hb.same (hlt x (List.mem_append_left _ hx))) (fun x hx=>hsp x (List.mem_append_left _ hx)))
   (Fy hl hb h1 (fun t ht=>hr t (List.mem_cons_of_mem _ ht)) (fun x hx=>hlt x (List.mem_append_right _ hx)) (fun x hx=>hsp x (List.mem_append_right _ hx)))
theorem abf {H:Type} {enc:TypeId × Value→H} {f:Func} {s:ChangeSpec} {W W':World} {args:Array Value} {ds gs:List (DataW H)} {before:List MemPlace} {t4:TypeId} (hs:s.vars=[])
  (hW:DataW.Whole enc P f.params.toList s.vars false W args.toList ds gs before) (h1:(s.fn H (ds++gs)).results=[.lit (.bool true)]) (h2:(s.fn H (ds++gs)).args=ds) (h3:(s.fn H (ds++gs)).vars=[])
  (hr:f.resultTypes= #[t4]) (h4:P.underlying t4=some .bool) (hl:laidOutB P=true) (hread: ∀t∈f.params.toList,P.readableRec t=true∧t<P.types.size) (hb:Below W.heap.size W W'):
  s.post enc P f false true false false W args (.bool true) W':=by
 have hlt:=hW.lt
 have hW':=hW
 obtain⟨p,q,hA,hV,rfl,_,_⟩:=hW
 rw [hs]at hV
 obtain⟨_,rfl⟩:=trodVars_none hV
 rw [List.append_nil]at hW' hlt
 refine⟨ds,gs,p,[],p,[],hW', ?_, ?_, ?_,hb.frame _,fun h=>by cases h⟩
 ·rw [h1,hr]
  exact trodAll_cons_mk (p:=[]) (p':=[]) (shut_bool h4 true) trodAll_mk0
 ·rw [h2]
  exact Fy hl hb hA hread (fun x hx=>hlt x hx) (fun x hx=>by simpa using hlt x hx)
 ·rw [hs,h3];rfl
end
end Sg
