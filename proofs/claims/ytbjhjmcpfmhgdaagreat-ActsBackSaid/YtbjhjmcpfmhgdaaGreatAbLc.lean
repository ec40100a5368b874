import Derived.Test.YtbjhjmcpfmhgdaaGreatAbLb
import Derived.Sort.LoopGhostIn
import Derived.RangeFuncLeaves
import Derived.KernelRfl
import Derived.RangeFuncIn
import Derived.RangeFuncRecord
import Derived.LoopNIn
import Derived.Deep.Slices
import Derived.OpenShut
import Derived.Carry
import Derived.Maps.RangeRun
set_option linter.all false
namespace Sg
open Go
section
variable (Fc:Cl→List SV→List (Nat × Option Ob)→TV→List (Nat × Option Ob)→Prop) (T:List (Nat × TI)) (ops:List Oper) (yb:Nat→Bool) (an:Nat→lZ) (fr:Nat→Nat) (N:Nat)
def tmpsOf:List Operand→List Nat
 |[]=>[]
 | .tmp t::l=>t::tmpsOf l
 |_::l=>tmpsOf l
def readsOf (o:Oper):List Nat:=
 (match o.guard with
  |some (j,_)=>match ops[j]? with|some oj=>(match oj.dst with|some d=>[d]|none=>[])|none=>[]
  |none=>[])++tmpsOf o.op.operands.toList
def JI:List Nat→List Nat→Bool
 |[],_=>true
 |x::l,m=>bif gU x m then false else JI l m
structure yP where
 ft:List Nat
 wr:List Nat
def Hz (d:Option Nat) (l:List Nat):Bool:=match d with|some d=> !(gU d l)|none=>true
def indep (info:Nat→yP) (i j:Nat):Bool:=
 match ops[i]?,ops[j]? with
 |some oi,some oj=>
  Hz oi.dst (readsOf ops oj) && Hz oj.dst (readsOf ops oi) && (match oi.dst,oj.dst with|some a,some b=> !(Nat.beq a b)|_,_=>true) &&
   (JI (info i).wr (info j).ft && JI (info j).wr (info i).ft)
 |_,_=>false
def Cv:List Nat→RS→Option (List Prop × RS × List (Nat × yP))
 |[],r=>some ([],r,[])
 |i::l,r=>match core Fc T ops yb an fr N i r.s r.h with
  |some c=>match Cv l ⟨yT r.s ((ops[i]?).bind (·.dst)) c.ent,upd r.h c.hd⟩with
   |some (c',r2,inf)=>some (c.conds++c',r2,(i,⟨c.ft,c.hd.map (·.1)⟩)::inf)
   |none=>none
  |none=>none
def Step (info:Nat→yP) (i:Nat) (r r':RS):Prop:=
 ∃c,core Fc T ops yb an fr N i r.s r.h=some c∧All c.conds∧c.ft=(info i).ft∧c.hd.map (·.1)=(info i).wr∧r'=⟨yT r.s ((ops[i]?).bind (·.dst)) c.ent,upd r.h c.hd⟩
def Steps (info:Nat→yP):List Nat→RS→RS→Prop
 |[],r,r'=>r'=r
 |i::l,r,r'=> ∃r1,Step Fc T ops yb an fr N info i r r1∧Steps info l r1 r'
end
section
variable {Fc:Cl→List SV→List (Nat × Option Ob)→TV→List (Nat × Option Ob)→Prop} {T:List (Nat × TI)} {ops:List Oper} {yb:Nat→Bool} {an:Nat→lZ} {fr:Nat→Nat} {N:Nat} {info:Nat→yP}
theorem FX {s s':Slots} {x:Operand} (h: ∀t,x= .tmp t→s' t=s t):Lu s' x=Lu s x:=by
 cases x with
 |tmp t=>exact h t rfl
 |const _=>rfl
 |func _=>rfl
 |global _=>rfl
theorem EN {t:Nat}: ∀{l:List Operand}, .tmp t∈l→t∈tmpsOf l
 |[],h=>by simp at h
 |x::l,h=>by
  rcases List.mem_cons.1 h with rfl|h
  ·simp [tmpsOf]
  ·have:=EN h
   cases x<;>simp [tmpsOf,this]
theorem Ei {s s':Slots} {g:List (Nat × Bool)}: ∀{l:List Operand},(∀t∈tmpsOf l,s' t=s t)→G5 s' g l=G5 s g l
 |[],_=>rfl
 |x::l,h=>by
  simp only [G5]
  rw [FX (s:=s) (s':=s') fun t e=>h t (by subst e;simp [tmpsOf]),Ei (l:=l) fun t ht=>h t (by cases x<;>simp [tmpsOf,ht])]
theorem zx {α β:Type} {f g:α→β}: ∀{l:List α},(∀x∈l,f x=g x)→l.map f=l.map g
 |[],_=>rfl
 |x::l,h=>by rw [List.map_cons,List.map_cons,h x (by simp),zx fun y hy=>h y (by simp [hy])]
theorem DI {i:Nat} {s s':Slots} {h h':Hp} {c:Core} (hc:core Fc T ops yb an fr N i s h=some c) (hs: ∀o,ops[i]? =some o→ ∀t∈readsOf ops o,s' t=s t) (hh: ∀b∈c.ft,h' b=h b):
  core Fc T ops yb an fr N i s' h'=some c:=by
 unfold core at hc ⊢
 cases ho:ops[i]? with
 |none=>rw [ho]at hc;cases hc
 |some o=>
  have hs:=hs o ho
  rw [ho]at hc
  simp only at hc ⊢
  have hg:guardOf ops yb s' o=guardOf ops yb s o:=by
   unfold guardOf
   cases hgo:o.guard with
   |none=>rfl
   |some x=>
    obtain⟨j,want⟩:=x
    simp only
    cases hoj:ops[j]? with
    |none=>rfl
    |some oj=>
     simp only
     cases hd:oj.dst with
     |none=>rfl
     |some d=>
      simp only
      rw [hs d (by simp [readsOf,hgo,hoj,hd])]
  rw [hg]
  cases hgd:guardOf ops yb s o with
  |none=>rw [hgd]at hc;cases hc
  |some x=>
   obtain⟨g,c0⟩:=x
   rw [hgd]at hc
   simp only at hc ⊢
   cases hdok:DL N o.dst with
   |false=>rw [hdok]at hc;simp at hc
   |true=>
    rw [hdok]at hc
    simp only [cond_true]at hc ⊢
    have hrd: ∀t∈tmpsOf o.op.operands.toList,s' t=s t:=fun t ht=>hs t (by simp only [readsOf,List.mem_append];exact .inr ht)
    split at hc
    ·rename_i x y z hop
     have e1: ∀u,u∈[x,y,z]→Lu s' u=Lu s u:=fun u hu=>FX fun t e=>hrd t (EN (by rw [hop,←e];simpa [Op.operands]using hu))
     have hp:EI yb s' g x y z=EI yb s g x y z:=by
      unfold EI
      rw [e1 x (by simp),e1 y (by simp),e1 z (by simp)]
     rw [hp];exact hc
    ·rename_i hnp
     rw [Ei hrd]
     split at hc
     ·cases hc;rfl
     split at hc
     ·cases hc
     ·rename_i xs hxs
      split at hc
      ·cases hc
      ·rename_i E hE
       cases hb:(aP (E.hd.map (·.1)) (foot (an i) (fr i) o.op xs))with
       |false=>simp [hb]at hc
       |true=>
        simp only [hb,cond_true]at hc
        cases hc
        rw [zx (f:=h') (g:=h) fun b hb'=>hh b hb',hE]
        simp only [hb,cond_true]
theorem Fy {i:Nat} {s:Slots} {h:Hp} {c:Core} (hc:core Fc T ops yb an fr N i s h=some c): ∀b∈c.hd.map (·.1),b∈c.ft:=by
 unfold core at hc
 split at hc
 ·cases hc
 ·split at hc
  ·cases hc
  ·rename_i o _ _ g c0 _
   cases hdok:DL N o.dst with
   |false=>rw [hdok]at hc;simp at hc
   |true=>
    rw [hdok]at hc
    simp only [cond_true]at hc
    split at hc
    ·split at hc
     ·cases hc;simp
     ·cases hc
    ·split at hc
     ·cases hc;simp
     split at hc
     ·cases hc
     ·rename_i xs _
      split at hc
      ·cases hc
      ·rename_i E _
       cases hb:(aP (E.hd.map (·.1)) (foot (an i) (fr i) o.op xs))with
       |false=>simp [hb]at hc
       |true=>
        simp only [hb,cond_true]at hc
        cases hc
        exact au.1 hb
theorem nR {x:Nat} {l:List Nat} (h:gU x l=false):x ∉ l:=fun hm=>by rw [nA.2 hm]at h;cases h
theorem Aa: ∀{l m:List Nat},JI l m=true→ ∀x∈l,x ∉ m
 |[],_,_,_,h=>by simp at h
 |y::l,m,h,x,hx=>by
  simp only [JI]at h
  cases hb:gU y m with
  |true=>simp [hb]at h
  |false=>
   simp only [hb,cond_false]at h
   rcases List.mem_cons.1 hx with rfl|hx
   ·exact nR hb
   ·exact Aa h x hx
theorem P9 {h:Hp} {l m:List (Nat × Option Ob)} (hd: ∀b∈l.map (·.1),b ∉ m.map (·.1)):upd (upd h l) m=upd (upd h m) l:=by
 funext b
 simp only [upd]
 cases hl:get l b with
 |none=>simp
 |some x=>
  have:get m b=none:=bQ (hd b (Du (by rw [hl];simp)))
  simp [this]
theorem ME {s:Slots} {d d':Option Nat} {e e':Qr} (h: ∀x y,d=some x→d'=some y→x≠y):yT (yT s d e) d' e'=yT (yT s d' e') d e:=by
 cases d with
 |none=>rfl
 |some x=>
  cases d' with
  |none=>rfl
  |some y=>
   have hne:=h x y rfl rfl
   funext t
   rw [qI,qI,qI,qI]
   by_cases e1:t=x
   ·subst e1;simp [hne]
   ·by_cases e2:t=y
    ·subst e2;simp [e1]
    ·simp [e1,e2]
theorem Nv {i j:Nat} {r r1 r2:RS} (hin:indep ops info i j=true) (h1:Step Fc T ops yb an fr N info i r r1) (h2:Step Fc T ops yb an fr N info j r1 r2):
  ∃r1',Step Fc T ops yb an fr N info j r r1'∧Step Fc T ops yb an fr N info i r1' r2:=by
 obtain⟨c1,a1,a2,a3,a4,rfl⟩:=h1
 obtain⟨c2,b1,b2,b3,b4,rfl⟩:=h2
 unfold indep at hin
 split at hin
 ·rename_i oi oj hoi hoj
  simp only [Bool.and_eq_true]at hin
  obtain⟨⟨⟨d1,d2⟩,d3⟩,d4,d5⟩:=hin
  have hdi:(ops[i]?).bind (·.dst)=oi.dst:=by rw [hoi];rfl
  have hdj:(ops[j]?).bind (·.dst)=oj.dst:=by rw [hoj];rfl
  rw [hdi]at b1 ⊢
  rw [hdj]
  have k1:=Fy a1
  have k2:=Fy b1
  have hne: ∀x y,oi.dst=some x→oj.dst=some y→x≠y:=fun x y ex ey e=>by
   rw [ex,ey]at d3
   simp only at d3
   have:Nat.beq x y=true:=by rw [e];exact Nat.beq_refl y
   rw [this]at d3;cases d3
  have hheap:(∀b∈c2.ft,upd r.h c1.hd b=r.h b)∧(∀b∈c1.ft,upd r.h c2.hd b=r.h b)∧upd (upd r.h c1.hd) c2.hd=upd (upd r.h c2.hd) c1.hd:=by
   rw [←a4,←b3]at d4
   rw [←b4,←a3]at d5
   have e1:=Aa d4
   have e2:=Aa d5
   refine⟨fun b hb=> ?_,fun b hb=> ?_,P9 fun b hb hb'=>e1 b hb (k2 b hb')⟩
   ·simp only [upd];rw [bQ fun hm=>e1 b hm hb]
   ·simp only [upd];rw [bQ fun hm=>e2 b hm hb]
  have c2':core Fc T ops yb an fr N j r.s r.h=some c2:=by
   refine DI b1 (fun o ho t ht=> ?_) fun b hb=>(hheap.1 b hb).symm
   rw [hoj]at ho;cases ho
   cases hd:oi.dst with
   |none=>rfl
   |some x=>
    show r.s t=yT r.s (some x) c1.ent t
    rw [qI,if_neg]
    intro e
    rw [hd]at d1
    simp only [Hz,Bool.not_eq_true']at d1
    exact nR d1 (e ▸ ht)
  have c1':core Fc T ops yb an fr N i (yT r.s oj.dst c2.ent) (upd r.h c2.hd)=some c1:=by
   refine DI a1 (fun o ho t ht=> ?_) hheap.2.1
   rw [hoi]at ho;cases ho
   cases hd:oj.dst with
   |none=>rfl
   |some x=>
    rw [qI,if_neg]
    intro e
    rw [hd]at d2
    simp only [Hz,Bool.not_eq_true']at d2
    exact nR d2 (e ▸ ht)
  refine⟨⟨yT r.s oj.dst c2.ent,upd r.h c2.hd⟩,⟨c2,c2',b2,b3,b4,by rw [hdj]⟩,⟨c1,c1',a2,a3,a4, ?_⟩⟩
  rw [hdi,ME hne,hheap.2.2]
 ·cases hin
theorem Cr {x:Nat}: ∀{A l:List Nat} {r r':RS},(∀a∈A,indep ops info a x=true)→Steps Fc T ops yb an fr N info (A++x::l) r r'→Steps Fc T ops yb an fr N info (x::(A++l)) r r'
 |[],_,_,_,_,h=>h
 |a::A,l,r,r',hin,⟨r1,h1,h2⟩=>by
  obtain⟨r2,h3,h4⟩:=Cr (A:=A) (fun b hb=>hin b (by simp [hb])) h2
  obtain⟨r1',h5,h6⟩:=Nv (hin a (by simp)) h1 h3
  exact⟨r1',h5,r2,h6,h4⟩
def BA (ops:List Oper) (cl:Nat→List Nat):Nat→Bool
 |0=>true
 |n+1=>BA ops cl n && (match ops[n]? with
  |some o=>(o.after.toList.all fun e=> !(Region.binds .any e)||(Nat.blt e.on n && aP (cl e.on) (cl n) && gU e.on (cl n))) &&
    ((cl n).all fun x=>o.after.toList.any fun e=>Region.binds .any e && (Nat.beq x e.on||gU x (cl e.on)))
  |none=>false)
def mY (ops:List Oper) (info:Nat→yP) (cl:Nat→List Nat):Nat→Bool
 |0=>true
 |n+1=>mY ops info cl n && rowIndep n
 where
 rowIndep (x:Nat):Bool:=go x x
 go (x:Nat):Nat→Bool
  |0=>true
  |a+1=>go x a && (gU a (cl x)||indep ops info a x)
theorem y8 {cl:Nat→List Nat}: ∀{n:Nat},mY ops info cl n=true→ ∀x,x<n→ ∀a,a<x→a∈cl x∨indep ops info a x=true
 |0,_,x,hx,_,_=>by omega
 |n+1,h,x,hx,a,ha=>by
  simp only [mY,Bool.and_eq_true]at h
  by_cases e:x=n
  ·subst e
   have key: ∀m,mY.go ops info cl x m=true→ ∀a,a<m→a∈cl x∨indep ops info a x=true:=by
    intro m
    induction m with
    |zero=>intro _ a ha;omega
    |succ m ih=>
     intro hm a ha
     simp only [mY.go,Bool.and_eq_true,Bool.or_eq_true]at hm
     by_cases e:a=m
     ·subst e
      rcases hm.2 with h|h
      ·exact .inl (nA.1 h)
      ·exact .inr h
     ·exact ih hm.1 a (by omega)
   exact key x h.2 a ha
  ·exact y8 h.1 x (by omega) a ha
theorem yF {cl:Nat→List Nat}: ∀{n:Nat},BA ops cl n=true→ ∀x,x<n→ ∃o,ops[x]? =some o∧(∀y∈cl x,∃e∈o.after,Region.binds .any e=true∧e.on<x∧(y=e.on∨y∈cl e.on))
 |0,_,x,hx=>by omega
 |n+1,h,x,hx=>by
  simp only [BA,Bool.and_eq_true]at h
  by_cases e:x=n
  ·subst e
   have h2:=h.2
   split at h2
   ·rename_i o ho
    refine⟨o,ho,fun y hy=> ?_⟩
    simp only [Bool.and_eq_true,List.all_eq_true,List.any_eq_true,Bool.or_eq_true]at h2
    obtain⟨e,he,hb,hon⟩:=h2.2 y hy
    have h3:=h2.1 e he
    refine⟨e,by simpa using he,hb, ?_, ?_⟩
    ·rcases h3 with h3|h3
     ·rw [hb]at h3;cases h3
     ·exact Nat.le_of_ble_eq_true (n:=e.on+1) h3.1.1
    ·rcases hon with hon|hon
     ·exact .inl (Nat.eq_of_beq_eq_true hon)
     ·exact .inr (nA.1 hon)
   ·cases h2
  ·exact yF h.1 x (by omega)
end
section
variable {P:Program} {B:Base} {T:List (Nat × TI)} {ops:Array Oper} {yb:Nat→Bool} {an:Nat→lZ} {fr:Nat→Nat} {N:Nat} {rd:Option Nat} {info:Nat→yP} {Q:Exit→Act→World→Prop}
theorem IG {cl:Nat→List Nat} {listed:Array Bool} (hcl:BA ops.toList cl ops.size=true)
  (hdown: ∀i o,ops[i]? =some o→listed.getD i true=true→ ∀e∈o.after,Region.binds .any e=true→listed.getD e.on false=true) (hsz:listed.size=ops.size):
  ∀x,x<ops.size→listed.getD x true=true→ ∀y∈cl x,listed.getD y false=true:=by
 intro x
 induction x using Nat.strongRecOn with
 |_ x ih=>
  intro hx hl y hy
  obtain⟨o,ho,hcl'⟩:=yF hcl x hx
  obtain⟨e,he,hb,hlt,hy'⟩:=hcl' y hy
  have hon:=hdown x o (by simpa using ho) hl e he hb
  rcases hy' with rfl|hy'
  ·exact hon
  ·have hlt':e.on<ops.size:=by omega
   refine ih e.on hlt hlt' ?_ y hy'
   have h1:e.on<listed.size:=by omega
   simp [h1]at hon ⊢
   exact hon
theorem M8 (hT:lY P T) {cl:Nat→List Nat} (hcl:BA ops.toList cl ops.size=true) (hall:mY ops.toList info cl ops.size=true):
  ∀(fuel:Nat) (listed:Array Bool) (r r':RS) (a:Act) (w:World),listed.size=ops.size→
   (∀i o,ops[i]? =some o→listed.getD i true=true→ ∀e∈o.after,Region.binds .any e=true→listed.getD e.on false=true)→
   ((List.range ops.size).filter fun i=> !listed.getD i true).length≤fuel→
   Steps (Bn P) T ops.toList yb an fr N info ((List.range ops.size).filter fun i=> !listed.getD i true) r r'→RC B yb N r a w→(∀a' w',RC B yb N r' a' w'→Q .normal a' w')→
   wpAnyIn (FW rd) 0 P .any ops Q fuel listed a w:=by
 intro fuel
 have hready: ∀listed:Array Bool,Region.ready .any ops listed=[]→((List.range ops.size).filter fun i=> !listed.getD i true)=[]:=by
  intro listed hr
  apply Classical.byContradiction
  intro hne
  have hex: ∃x,x<ops.size∧listed.getD x true=false∧ ∀y,y<x→listed.getD y true=true:=by
   obtain⟨z,hz⟩:=List.exists_mem_of_ne_nil _ hne
   rw [List.mem_filter,List.mem_range]at hz
   have key: ∀n z,z=n→z<ops.size→listed.getD z true=false→ ∃x,x<ops.size∧listed.getD x true=false∧ ∀y,y<x→listed.getD y true=true:=by
    intro n
    induction n using Nat.strongRecOn with
    |_ n ih=>
     intro z hzn hz1 hz2
     by_cases hmin: ∃y,y<z∧listed.getD y true=false
     ·obtain⟨y,hy1,hy2⟩:=hmin
      exact ih y (by omega) y rfl (by omega) hy2
     ·refine⟨z,hz1,hz2,fun y hy=> ?_⟩
      cases hb:listed.getD y true with
      |true=>rfl
      |false=>exact absurd ⟨y,hy,hb⟩ hmin
   exact key z z rfl hz.1 (by simpa using hz.2)
  obtain⟨x,hx,hxl,hmin⟩:=hex
  obtain⟨o,ho,_⟩:=yF hcl x hx
  have ho':ops[x]? =some o:=by simpa using ho
  have hafter: ∀e∈o.after,Region.binds .any e=true→e.on<x:=by
   intro e he hb
   have:BA ops.toList cl (x+1)=true:=by
    have mono: ∀n m,n≤m→BA ops.toList cl m=true→BA ops.toList cl n=true:=by
     intro n m hnm h
     induction m with
     |zero=>
      have:n=0:=by omega
      subst this;exact h
     |succ m ih=>
      by_cases e:n=m+1
      ·subst e;exact h
      ·simp only [BA,Bool.and_eq_true]at h;exact ih (by omega) h.1
    exact mono _ _ (by omega) hcl
   simp only [BA,Bool.and_eq_true]at this
   have h2:=this.2
   rw [ho]at h2
   simp only [Bool.and_eq_true,List.all_eq_true]at h2
   have h3:=h2.1 e (by simpa using he)
   rw [hb]at h3
   simp only [Bool.not_true,Bool.false_or,Bool.and_eq_true]at h3
   exact Nat.le_of_ble_eq_true (n:=e.on+1) h3.1.1
  have:x∈Region.ready .any ops listed:=by
   rw [mem_ready]
   refine⟨hxl,o,ho',fun e he hb=> ?_⟩
   have hlt:=hafter e he hb
   have:=hmin e.on hlt
   have hsome:listed.getD e.on true=true:=this
   by_cases h1:e.on<listed.size
   ·simp [h1]at hsome ⊢;exact hsome
   ·-- beyond the list: then x would be listed
    have h2: ¬ x<listed.size:=by omega
    simp [h2]at hxl
  rw [hr]at this
  simp at this
 induction fuel with
 |zero=>
  intro listed r r' a w hsz hdown hlen hst hrc hQ
  have hnil:((List.range ops.size).filter fun i=> !listed.getD i true)=[]:=List.eq_nil_of_length_eq_zero (by omega)
  refine⟨?_, ?_⟩
  ·unfold Region.ready
   rw [List.filter_eq_nil_iff]at hnil ⊢
   intro x hx
   have:=hnil x hx
   simp only [Bool.and_eq_true]
   intro ⟨h1,_⟩
   exact this h1
  ·rw [hnil]at hst
   cases hst
   exact hQ a w hrc
 |succ fuel ih=>
  intro listed r r' a w hsz hdown hlen hst hrc hQ
  refine⟨fun hr=> ?_,fun x hx=> ?_⟩
  ·rw [hready listed hr]at hst
   cases hst
   exact hQ a w hrc
  ·rw [mem_ready]at hx
   obtain⟨hxl,o,ho,hedge⟩:=hx
   have hlt:x<ops.size:=(Array.getElem?_eq_some_iff.1 ho).1
   have hmem:x∈(List.range ops.size).filter fun i=> !listed.getD i true:=by
    rw [List.mem_filter,List.mem_range];exact⟨hlt,by simp [hxl]⟩
   obtain⟨A,l,hAl⟩:=List.append_of_mem hmem
   have hsorted:((List.range ops.size).filter fun i=> !listed.getD i true).Pairwise (· < ·):=List.Pairwise.filter _ List.pairwise_lt_range
   rw [hAl]at hsorted hst
   have hA: ∀a∈A,a<x:=fun a ha=>(List.pairwise_append.1 hsorted).2.2 a ha x (by simp)
   have hAu: ∀a∈A,listed.getD a true=false:=fun a ha=>by
    have:a∈(List.range ops.size).filter fun i=> !listed.getD i true:=by rw [hAl];simp [ha]
    rw [List.mem_filter]at this
    simpa using this.2
   have hind: ∀a∈A,indep ops.toList info a x=true:=fun a ha=>by
    rcases y8 hall x hlt a (hA a ha)with hc|hi
    ·-- a is before x: it would be listed
     exfalso
     obtain⟨o',ho',hcl'⟩:=yF hcl x hlt
     have:o'=o:=by
      have e1:ops[x]? =some o':=by simpa using ho'
      rw [ho]at e1;cases e1;rfl
     subst this
     obtain⟨e,he,hb,hlt',hy⟩:=hcl' a hc
     have hon:=hedge e he hb
     have hla:listed.getD a false=true:=by
      rcases hy with rfl|hy
      ·exact hon
      ·refine IG hcl hdown hsz e.on (by omega) ?_ a hy
       have h1:e.on<listed.size:=by omega
       simp [h1]at hon ⊢;exact hon
     have:=hAu a ha
     have h1:a<listed.size:=by have:=hA a ha;omega
     simp [h1]at hla this
     rw [hla]at this;cases this
    ·exact hi
   obtain⟨r1,⟨c,c1,c2,c3,c4,rfl⟩,hrest⟩:=Cr hind hst
   have hstep:step (Bn P) T ops.toList yb an fr N x r=some (c.conds,⟨yT r.s ((ops.toList[x]?).bind (·.dst)) c.ent,upd r.h c.hd⟩):=by
    unfold step;rw [c1]
   have hfil:((List.range ops.size).filter fun i=> !(listed.setIfInBounds x true).getD i true)=A++l:=by
    have hnd:((List.range ops.size).filter fun i=> !listed.getD i true).Nodup:=List.Pairwise.filter _ List.nodup_range
    have e1:((List.range ops.size).filter fun i=> !(listed.setIfInBounds x true).getD i true)=((List.range ops.size).filter fun i=> !listed.getD i true).filter fun i=>i !=x:=by
     rw [List.filter_filter]
     apply List.filter_congr
     intro i hi
     by_cases e:i=x
     ·subst e
      have:i<listed.size:=by omega
      simp [this]
     ·rw [getD_set_ne true (Ne.symm e)];simp [e]
    rw [e1,hAl,List.filter_append,List.filter_cons]
    rw [hAl]at hnd
    have hxA:x ∉ A:=fun h=>by have:=hA x h;omega
    have hxl':x ∉ l:=(List.nodup_cons.1 (List.nodup_append.1 hnd).2.1).1
    have f1:A.filter (fun i=>i !=x)=A:=List.filter_eq_self.2 fun y hy=>by simpa using fun(e:y=x)=>hxA (e ▸ hy)
    have f2:l.filter (fun i=>i !=x)=l:=List.filter_eq_self.2 fun y hy=>by simpa using fun(e:y=x)=>hxl' (e ▸ hy)
    rw [f1,f2];simp
   refine zM hT hstep c2 hrc fun a' w' hrc'=>ih (listed.setIfInBounds x true) _ r' a' w' (by simp [hsz]) (fun i o' ho' hli e he hb=> ?_) (by rw [hfil];rw [hAl]at hlen;simp at hlen ⊢;omega) (by rw [hfil];exact hrest) hrc' hQ
   by_cases e:i=x
   ·subst e
    rw [ho]at ho';cases ho'
    exact getD_set_true (hedge _ he hb)
   ·rw [getD_set_ne true (Ne.symm e)]at hli
    exact getD_set_true (hdown i o' ho' hli _ he hb)
theorem zm {Fc:Cl→List SV→List (Nat × Option Ob)→TV→List (Nat × Option Ob)→Prop} {opl:List Oper}: ∀{l:List Nat} {r r':RS} {cs:List Prop} {inf:List (Nat × yP)},Cv Fc T opl yb an fr N l r=some (cs,r',inf)→All cs→l.Nodup→
  (∀i x,get inf i=some x→info i=x)→Steps Fc T opl yb an fr N info l r r'
 |[],r,r',cs,inf,h,_,_,_=>by simp [Cv]at h;obtain⟨rfl,rfl,rfl⟩:=h;rfl
 |i::l,r,r',cs,inf,h,hc,hnd,hinf=>by
  simp only [Cv]at h
  split at h
  ·rename_i c hcore
   split at h
   ·rename_i c' r2 inf' h2
    cases h
    rw [aZ]at hc
    have hi:info i=⟨c.ft,c.hd.map (·.1)⟩:=hinf i _ (by rw [aC,if_pos rfl])
    refine⟨_,⟨c,hcore,hc.1,by rw [hi],by rw [hi],rfl⟩,zm h2 hc.2 (List.nodup_cons.1 hnd).2 fun j x hj=> ?_⟩
    have hkeys: ∀{l r r' cs inf},Cv Fc T opl yb an fr N l r=some (cs,r',inf)→ ∀j x,get inf j=some x→j∈l:=by
     intro l
     induction l with
     |nil=>intro r r' cs inf h j x hj;simp [Cv]at h;obtain⟨_,_,rfl⟩:=h;simp [get]at hj
     |cons y l ih=>
      intro r r' cs inf h j x hj
      simp only [Cv]at h
      split at h
      ·split at h
       ·rename_i h3
        cases h
        rw [aC]at hj
        split at hj
        ·rename_i e;simp [e]
        ·exact List.mem_cons_of_mem _ (ih h3 j x hj)
       ·cases h
      ·cases h
    have hjl:=hkeys h2 j x hj
    apply hinf
    rw [aC,if_neg (fun(e:i=j)=>(List.nodup_cons.1 hnd).1 (e ▸ hjl))]
    exact hj
   ·cases h
  ·cases h
end
structure St where
 slots:List (Nat × TV)
 heap:List (Nat × Option Ob)
structure Conc (B:Base) (N:Nat) (L:List Nat) (st:St) (a:Act) (w:World):Prop where
 ex: ∃ρ F,Fr B ρ F w∧HI B ρ F w (aR st.heap)∧(∀t tv,get st.slots t=some tv→ ∃v,a.tmps[t]? =some v∧bB ρ F w tv v)∧Marks B F w a.defers
 ids: ∀b p,B.ρ b=some p→b∈L
 sz:a.tmps.size=N
def lC (rd:Option Nat) (P:Program) (B:Base) (N:Nat) (L:List Nat) (c:Code) (Q:Exit→St→Prop) (st:St):Prop:=
 ∀a w,Conc B N L st a w→c.wpIn (FW rd) 0 P (fun e a' w'=> ∃st',Q e st'∧Conc B N L st' a' w') a w
def uL (st:St):RS:=⟨fun t=>match get st.slots t with|some tv=>some ⟨[],tv,none⟩|none=>none,aR st.heap⟩
structure Fin where
 frz:List Nat
 ren:List (Nat × Nat)
def LA (b:Bool):Option Bool:=bif b then some true else none
def Xo:EV→DV
 | .d x=>x
 | .row _ esz len el=> .sl none esz len el
def Jq:List (Option (List Prop × CV))→Option (List Prop × List CV)
 |[]=>some ([],[])
 |some (p,c)::l=>match Jq l with|some (q,cs)=>some (p++q,c::cs)|none=>none
 |none::_=>none
def XQ (f:FuncId) (nf n:Nat) (cs:List CV):CV:=
 match nf,rM cs with
 |0,some ds=> .d (.fn f n (bn ds))
 |_,_=> .fn f nf n fun j=>cs.getD j (.d .nilp)
def tH (f:Fin) (h:Hp):CV→Option (List Prop × CV)
 | .d x=>some ([], .d x)
 | .ptr b off=>
  bif gU b f.frz then
   match h b with
   |some (some (.cells _ cs))=>match rM cs with|some ds=>some ([], .d (.ip (ds.length - off) fun j=>ds.getD (off+j) .nilp))|none=>none
   |some (some (.fcells _ ds))=>some ([], .d (.ip (ds.length - off) fun j=>ds.getD (off+j) .nilp))
   |_=>none
  else match get f.ren b with|some b'=>some ([], .ptr b' off)|none=>none
 | .opt b e i off=>bif gU b f.frz then none else match get f.ren b with|some b'=>some ([], .opt b' e i off)|none=>none
 | .own b nn len=>
  bif gU b f.frz then
   match h b with
   |some (some (.arr _ esz len' el))=>some ([len=len'], .d (.sl (LA nn) esz len el))
   |some (some (.rows _ esz len' el none))=>some ([len=len'], .d (.sl (LA nn) esz len fun i j=>Xo (el i j)))
   |_=>none
  else match get f.ren b with|some b'=>some ([], .own b' nn len)|none=>none
 | .mp b=>bif gU b f.frz then none else match get f.ren b with|some b'=>some ([], .mp b')|none=>none
 | .yl b=>bif gU b f.frz then none else match get f.ren b with|some b'=>some ([], .yl b')|none=>none
 | .fn g nf n cap=>match Jq ((List.range n).map fun j=>tH f h (cap j))with
  |some (p,cs)=>some (p,XQ g nf n cs)
  |none=>none
def Kj (f:Fin) (h:Hp):List CV→Option (List Prop × List CV)
 |[]=>some ([],[])
 |c::cs=>match tH f h c,Kj f h cs with
  |some (p,c'),some (q,cs')=>some (p++q,c'::cs')
  |_,_=>none
def Im (f:Fin) (h:Hp):SV→Option (List Prop × SV)
 | .one c=>match tH f h c with|some (p,c')=>some (p, .one c')|none=>none
 | .agg cs=>match Kj f h cs with|some (p,cs')=>some (p, .agg cs')|none=>none
def AQ (f:Fin) (h:Hp):List SV→Option (List Prop × List SV)
 |[]=>some ([],[])
 |c::cs=>match Im f h c,AQ f h cs with
  |some (p,c'),some (q,cs')=>some (p++q,c'::cs')
  |_,_=>none
def En (f:Fin) (h:Hp):TV→Option (List Prop × TV)
 | .v s=>match Im f h s with|some (p,s')=>some (p, .v s')|none=>none
 | .dX l=>match AQ f h l with|some (p,l')=>some (p, .dX l')|none=>none
def EK (f:Fin) (h:Hp):List (Nat × TV)→Option (List Prop × List (Nat × TV))
 |[]=>some ([],[])
 |(t,tv)::l=>match En f h tv,EK f h l with
  |some (p,tv'),some (q,l')=>some (p++q,(t,tv')::l')
  |_,_=>none
def Kn (f:Fin) (h:Hp) (s:Slots):List Nat→Option (List Prop × List (Nat × TV))
 |[]=>some ([],[])
 |t::ts=>match s t,Kn f h s ts with
  |some ⟨[],tv,_⟩,some (q,l)=>match En f h tv with
   |some (p,tv')=>some (p++q,(t,tv')::l)
   |none=>none
  |_,_=>none
def rq (f:Fin) (h:Hp):Ob→Option (List Prop × Ob)
 | .cells E cs=>match Kj f h cs with|some (p,cs')=>some (p, .cells E cs')|none=>none
 | .fcells E ds=>some ([], .fcells E ds)
 | .frow fu E esz len el=>some ([], .frow fu E esz len el)
 | .arr E esz len el=>some ([], .arr E esz len el)
 | .rows E esz len el none=>some ([], .rows E esz len el none)
 | .rows E esz len el (some (i,j,c))=>match tH f h c with|some (p,c')=>some (p, .rows E esz len el (some (i,j,c')))|none=>none
 | .map m=>bif m.ms.all (fun b=> !gU b f.frz && (match get f.ren b with|some b'=>Nat.beq b b'|none=>false))then some ([], .map m)else none
 | .loop r st sl=>match EK f h sl with|some (p,sl')=>some (p, .loop r st sl')|none=>none
 | .gm K V E l none=>some ([], .gm K V E l none)
 | .gm K V E l (some (n,c))=>match tH f h c with|some (p,c')=>some (p, .gm K V E l (some (n,c')))|none=>none
 | .coll=>some ([], .coll)
 | .suf b l esz=>bif gU b f.frz then none else match get f.ren b with|some b'=>some ([], .suf b' l esz)|none=>none
def E5 (f:Fin) (h:Hp):List (Nat × Nat)→Option (List Prop × List (Nat × Option Ob))
 |[]=>some ([],[])
 |(b,b')::l=>match h b,E5 f h l with
  |some none,some (q,m)=>some (q,(b',none)::m)
  |some (some ob),some (q,m)=>bif gU b f.frz then some (q,(b',none)::m)else match rq f h ob with
   |some (p,ob')=>some (p++q,(b',some ob')::m)
   |none=>none
  |_,_=>none
def uY:List Nat→Bool
 |[]=>true
 |x::l=> !(gU x l) && uY l
def Eu (L:List Nat) (f:Fin):Bool:=
 uY (f.ren.map (·.1)) && uY (f.ren.map (·.2)) && L.all fun b=>match get f.ren b with|some b'=>Nat.beq b b'|none=>false
theorem xX: ∀{l:List Nat},uY l=true→l.Nodup
 |[],_=>List.nodup_nil
 |x::l,h=>by
  simp only [uY,Bool.and_eq_true,Bool.not_eq_true']at h
  exact List.nodup_cons.2 ⟨nR h.1,xX h.2⟩
section
variable {B:Base} {ρ:Nat→Option Pl} {F:Nat→Prop} {w:World} {h:Hp} {f:Fin} {ft:Nat→Nat→Prop}
def yO (ρ:Nat→Option Pl) (ren:List (Nat × Nat)):Nat→Option Pl:=fun b'=>match ren.find? (fun p=>Nat.beq p.2 b')with|some p=>ρ p.1|none=>none
def xE (ft:Nat→Nat→Prop) (F:Nat→Prop) (h:Hp) (frz:List Nat):Nat→Prop:=fun k=>F k∨ ∃b ob,b∈frz∧h b=some (some ob)∧ft b k
theorem Ay {ren:List (Nat × Nat)} (hn:(ren.map (·.2)).Nodup) {b b':Nat} (hg:(b,b')∈ren):yO ρ ren b'=ρ b:=by
 unfold yO
 induction ren with
 |nil=>simp at hg
 |cons p ren ih=>
  rw [List.map_cons,List.nodup_cons]at hn
  rw [List.find?_cons]
  rcases List.mem_cons.1 hg with rfl|hg
  ·simp
  ·cases hb:Nat.beq p.2 b' with
   |true=>
    exfalso
    have:=Nat.eq_of_beq_eq_true hb
    exact hn.1 (this ▸ List.mem_map_of_mem (f:=(·.2)) hg)
   |false=>simpa using ih hn.2 hg
theorem get_mem {α:Type}: ∀{l:List (Nat × α)} {b:Nat} {x:α},get l b=some x→(b,x)∈l
 |[],_,_,h=>by simp [get]at h
 |(k,v)::l,b,x,h=>by
  rw [aC]at h
  split at h
  ·rename_i e;cases h;subst e;simp
  ·exact List.mem_cons_of_mem _ (get_mem h)
theorem get_of_mem {α:Type}: ∀{l:List (Nat × α)} {b:Nat} {x:α},(l.map (·.1)).Nodup→(b,x)∈l→get l b=some x
 |[],_,_,_,h=>by simp at h
 |(k,v)::l,b,x,hn,h=>by
  rw [List.map_cons,List.nodup_cons]at hn
  rw [aC]
  rcases List.mem_cons.1 h with e|h
  ·cases e;simp
  ·rw [if_neg]
   ·exact get_of_mem hn.2 h
   ·intro e;subst e;exact hn.1 (List.mem_map_of_mem (f:=(·.1)) h)
theorem JS: ∀{l:List (Option (List Prop × CV))} {p:List Prop} {cs:List CV},Jq l=some (p,cs)→All p→cs.length=l.length∧ ∀(j:Nat) (c:CV),cs[j]? =some c→ ∃q:List Prop,l[j]? =some (some (q,c))∧All q
 |[],p,cs,h,_=>by simp [Jq]at h;obtain⟨rfl,rfl⟩:=h;simp
 |none::_,p,cs,h,_=>by simp [Jq]at h
 |some (p0,c0)::l,p,cs,h,hp=>by
  simp only [Jq]at h
  split at h
  ·rename_i q cs' h1
   cases h
   rw [aZ]at hp
   obtain⟨e1,e2⟩:=JS h1 hp.2
   refine⟨by simp [e1],fun j c hj=> ?_⟩
   cases j with
   |zero=>simp at hj;subst hj;exact⟨p0,rfl,hp.1⟩
   |succ j=>simp at hj;obtain⟨q,x1,x2⟩:=e2 j c hj;exact⟨q,by simpa using x1,x2⟩
  ·cases h
theorem Rp {ρ':Nat→Option Pl} {F':Nat→Prop} {g:FuncId} {nf n:Nat} {cs:List CV} {vs:List Value} (hn:vs.length=n) (hl:cs.length=n) (hr: ∀(j:Nat) (u:Value),vs[j]? =some u→ ∃c,cs[j]? =some c∧dH ρ' F' w c u):
  dH ρ' F' w (XQ g nf n cs) (.func (.func g) (vs.take nf).toArray (vs.drop nf).toArray):=by
 unfold XQ
 split
 ·rename_i ds hds
  have hcs:=iy hds
  refine⟨vs,by simp,hn,fun j u hu=> ?_⟩
  obtain⟨c,hc,hr⟩:=hr j u hu
  rw [hcs,List.getElem?_map]at hc
  cases hd:ds[j]? with
  |none=>rw [hd]at hc;cases hc
  |some d=>
   rw [hd]at hc;cases hc
   show bJ F' w (ds.getD j .nilp) u
   rw [List.getD_eq_getElem?_getD,hd];exact hr
 ·refine⟨vs,rfl,hn,fun j u hu=> ?_⟩
  obtain⟨c,hc,hr⟩:=hr j u hu
  show dH ρ' F' w (cs.getD j (.d .nilp)) u
  rw [List.getD_eq_getElem?_getD,hc];exact hr
theorem RY {F':Nat→Prop} {S:Nat→Prop} {rb:Option Nat} (hF: ∀k,F k→F' k) (hS: ∀k,S k→F' k): ∀{x:EV} {v:Value},gG F w S rb x v→bJ F' w (Xo x) v
 | .d _,_,h=>bJ.gr hF (fun _ _=>rfl) h
 | .row E esz len el,_, .inl ⟨h0,h⟩=> ⟨none,0,by rw [h,h0],by simp,by simp,fun _=> ⟨h0,rfl⟩,by omega,by simp⟩
 | .row E esz len el,_, .inr ⟨k,base,cap,h1,h2,h3,vs,h4,h5,h6,h7,h8⟩=> ⟨some ⟨k,base,none⟩,cap,h3,by simp,by simp,by simp,h6,fun ad ha=>by
   cases ha
   refine⟨fun _=>rfl,fun i hi j hj=> ⟨hS k h2, ?_⟩⟩
   obtain⟨u,hu,hr⟩:=h8 i hi j hj
   exact⟨u,by rw [bW h4];exact hu,bJ.gr hF (fun _ _=>rfl) hr⟩⟩
theorem Ao (hn:(f.ren.map (·.2)).Nodup) (hi:mZ B ρ F w h ft): ∀{c c':CV} {p:List Prop} {v:Value},tH f h c=some (p,c')→All p→dH ρ F w c v→dH (yO ρ f.ren) (xE ft F h f.frz) w c' v:=by
 have hF: ∀k,F k→xE ft F h f.frz k:=fun k hk=> .inl hk
 have hfr: ∀{b:Nat} {ob:Ob},gU b f.frz=true→h b=some (some ob)→ ∀k,ft b k→xE ft F h f.frz k:=fun hm hob k hk=> .inr ⟨_,_,nA.1 hm,hob,hk⟩
 have ren: ∀{b b':Nat},get f.ren b=some b'→yO ρ f.ren b'=ρ b:=fun hg=>Ay hn (get_mem hg)
 intro c
 induction c with
 |d x=>intro c' p v he _ hr;simp [tH]at he;obtain⟨rfl,rfl⟩:=he;exact bJ.gr hF (fun _ _=>rfl) hr
 |ptr b off=>
  intro c' p v he hp hr
  simp only [tH]at he
  cases hm:gU b f.frz with
  |false=>
   simp only [hm,cond_false]at he
   split at he
   ·rename_i b' hg;cases he
    obtain⟨k,base,cap,hk,hv⟩:=hr
    exact⟨k,base,cap,by rw [ren hg];exact hk,hv⟩
   ·cases he
  |true=>
   simp only [hm,cond_true]at he
   obtain⟨k,base,cap,hk,hv⟩:=hr
   split at he
   ·rename_i E cs hob
    split at he
    ·rename_i ds hds
     cases he
     obtain⟨k',cap',vs,x1,x0,x2,x3⟩:=hi.obj b _ hob
     rw [hk]at x1;cases x1
     rw [iy hds]at x3
     refine⟨⟨k,0+off,none⟩,hv,rfl,fun j hj=> ⟨hfr hm hob k x0, ?_⟩⟩
     have hlt:off+j<ds.length:=by omega
     obtain⟨u,hu,hru⟩:=x3.get (j:=off+j) (c:= .d (ds.getD (off+j) .nilp)) (by rw [List.getElem?_map,List.getD_eq_getElem?_getD,List.getElem?_eq_getElem hlt];rfl)
     exact⟨u,by rw [bW x2,Nat.zero_add];exact hu,bJ.gr hF (fun _ _=>rfl) hru⟩
    ·cases he
   ·rename_i E ds hob
    cases he
    obtain⟨k',base',cap',x1,x2⟩:=hi.obj b _ hob
    rw [hk]at x1;cases x1
    refine⟨⟨k,base+off,none⟩,hv,rfl,fun j hj=> ?_⟩
    have hlt:off+j<ds.length:=by omega
    obtain⟨y1,u,y2,y3⟩:=x2 (off+j) (ds.getD (off+j) .nilp) (by rw [List.getD_eq_getElem?_getD,List.getElem?_eq_getElem hlt];rfl)
    exact⟨hF _ y1,u,by rw [Nat.add_assoc];exact y2,bJ.gr hF (fun _ _=>rfl) y3⟩
   ·cases he
 |opt b esz i off=>
  intro c' p v he hp hr
  simp only [tH]at he
  cases hm:gU b f.frz with
  |true=>simp [hm]at he
  |false=>
   simp only [hm,cond_false]at he
   split at he
   ·rename_i b' hg;cases he
    obtain⟨k,base,cap,hk,hv⟩:=hr
    exact⟨k,base,cap,by rw [ren hg];exact hk,hv⟩
   ·cases he
 |own b nn len=>
  intro c' p v he hp hr
  simp only [tH]at he
  cases hm:gU b f.frz with
  |false=>
   simp only [hm,cond_false]at he
   split at he
   ·rename_i b' hg;cases he
    rcases hr with⟨k,base,cap,hk,hv⟩|⟨h0,hk,hl,hv⟩
    ·exact .inl ⟨k,base,cap,by rw [ren hg];exact hk,hv⟩
    ·exact .inr ⟨h0,by rw [ren hg];exact hk,hl,hv⟩
   ·cases he
  |true=>
   simp only [hm,cond_true]at he
   have nn1:LA nn=some true→nn=true:=fun e=>by cases nn<;>simp [LA]at e ⊢
   have nn2:LA nn≠some false:=fun e=>by cases nn<;>simp [LA]at e
   have nilw: ∀(esz:Nat) (g:Nat→Nat→DV),nn=false→len=0→v= .slice none 0 0→bJ (xE ft F h f.frz) w (.sl (LA nn) esz len g) v:=fun esz g h0 hl hv=>
    ⟨none,0,by rw [hv,hl],(fun e=>by rw [nn1 e]at h0;cases h0),(fun e=>absurd e nn2),fun _=> ⟨hl,rfl⟩,by omega,by simp⟩
   split at he
   ·rename_i E esz len' el hob
    cases he
    obtain⟨rfl,_⟩:=hp
    rcases hr with⟨k,base,cap,hk,hv⟩|⟨h0,hk,hl,hv⟩
    ·rcases hi.obj b _ hob with⟨x1,_⟩|⟨k',base',cap',x1,x0,vs,x2,x3,x4,x5,x6⟩
     ·rw [hk]at x1;cases x1
     ·rw [hk]at x1;cases x1
      refine⟨some ⟨k,base,none⟩,cap,hv,by simp,fun e=>absurd e nn2,by simp,x4,fun ad ha=> ?_⟩
      cases ha
      refine⟨fun _=>rfl,fun i hi' j hj=> ⟨hfr hm hob k x0, ?_⟩⟩
      obtain⟨u,hu,hru⟩:=x6 i hi' j hj
      exact⟨u,by rw [bW x2];exact hu,bJ.gr hF (fun _ _=>rfl) hru⟩
    ·exact nilw esz el h0 hl hv
   ·rename_i E esz len' el hob
    cases he
    obtain⟨rfl,_⟩:=hp
    rcases hr with⟨k,base,cap,hk,hv⟩|⟨h0,hk,hl,hv⟩
    ·rcases hi.obj b _ hob with⟨x1,_⟩|⟨k',base',cap',vs,rb,x1,x0,x2,x3,x4,x5,x6,x7⟩
     ·rw [hk]at x1;cases x1
     ·rw [hk]at x1;cases x1
      refine⟨some ⟨k,base,none⟩,cap,hv,by simp,fun e=>absurd e nn2,by simp,x4,fun ad ha=> ?_⟩
      cases ha
      refine⟨fun _=>rfl,fun i hi' j hj=> ⟨hfr hm hob k x0, ?_⟩⟩
      obtain⟨u,hu,hru⟩:=x6 i hi' j hj
      have hru:gG F w (ft b) (rb i j) (el i j) u:=hru
      exact⟨u,by rw [bW x2];exact hu,RY hF (hfr hm hob) hru⟩
    ·exact nilw esz _ h0 hl hv
   ·cases he
 |mp b=>
  intro c' p v he hp hr
  simp only [tH]at he
  cases hm:gU b f.frz with
  |true=>simp [hm]at he
  |false=>
   simp only [hm,cond_false]at he
   split at he
   ·rename_i b' hg;cases he
    obtain⟨k,base,cap,hk,hv⟩:=hr
    exact⟨k,base,cap,by rw [ren hg];exact hk,hv⟩
   ·cases he
 |yl b=>
  intro c' p v he hp hr
  simp only [tH]at he
  cases hm:gU b f.frz with
  |true=>simp [hm]at he
  |false=>
   simp only [hm,cond_false]at he
   split at he
   ·rename_i b' hg;cases he
    obtain⟨k,base,cap,hk,hv⟩:=hr
    exact⟨k,base,cap,by rw [ren hg];exact hk,hv⟩
   ·cases he
 |fn g nf n cap ih=>
  intro c' p v he hp hr
  simp only [tH]at he
  split at he
  ·rename_i p' cs hq
   cases he
   obtain⟨vs,rfl,hl,hr⟩:=hr
   obtain⟨e1,e2⟩:=JS hq hp
   simp at e1
   refine Rp hl e1 fun j u hu=> ?_
   have hj:j<n:=by rw [←hl];exact(List.getElem?_eq_some_iff.1 hu).1
   have hg:=List.getElem?_eq_getElem (l:=cs) (i:=j) (by omega)
   refine⟨_,hg, ?_⟩
   obtain⟨q,x1,x2⟩:=e2 j _ hg
   rw [List.getElem?_map,List.getElem?_range hj]at x1
   simp at x1
   exact ih j x1 x2 (hr j u hu)
  ·cases he
theorem Dt (hn:(f.ren.map (·.2)).Nodup) (hi:mZ B ρ F w h ft): ∀{cs cs':List CV} {p:List Prop} {vs:List Value},Kj f h cs=some (p,cs')→All p→bR ρ F w cs vs→bR (yO ρ f.ren) (xE ft F h f.frz) w cs' vs
 |[],cs',p,vs,he,_,hr=>by
  simp [Kj]at he;obtain⟨rfl,rfl⟩:=he
  match vs,hr with|[],_=>trivial
 |c::cs,cs',p,vs,he,hp,hr=>by
  simp only [Kj]at he
  split at he
  ·rename_i p1 c1 p2 cs1 h1 h2
   cases he
   rw [aZ]at hp
   match vs,hr with
   |v::vs,⟨hr1,hr2⟩=>exact⟨Ao hn hi h1 hp.1 hr1,Dt hn hi h2 hp.2 hr2⟩
  ·cases he
theorem Ii (hn:(f.ren.map (·.2)).Nodup) (hi:mZ B ρ F w h ft) {s s':SV} {p:List Prop} {v:Value} (he:Im f h s=some (p,s')) (hp:All p) (hr:fM ρ F w s v):fM (yO ρ f.ren) (xE ft F h f.frz) w s' v:=by
 cases s with
 |one c=>
  simp only [Im]at he
  split at he
  ·rename_i h1;cases he;exact Ao hn hi h1 hp hr
  ·cases he
 |agg cs=>
  simp only [Im]at he
  split at he
  ·rename_i h1;cases he
   obtain⟨vs,e,hr⟩:=hr
   exact⟨vs,e,Dt hn hi h1 hp hr⟩
  ·cases he
theorem yD (hn:(f.ren.map (·.2)).Nodup) (hi:mZ B ρ F w h ft): ∀{cs cs':List SV} {p:List Prop} {vs:List Value},AQ f h cs=some (p,cs')→All p→dN ρ F w cs vs→dN (yO ρ f.ren) (xE ft F h f.frz) w cs' vs
 |[],cs',p,vs,he,_,hr=>by
  simp [AQ]at he;obtain⟨rfl,rfl⟩:=he
  match vs,hr with|[],_=>trivial
 |c::cs,cs',p,vs,he,hp,hr=>by
  simp only [AQ]at he
  split at he
  ·rename_i p1 c1 p2 cs1 h1 h2
   cases he
   rw [aZ]at hp
   match vs,hr with
   |v::vs,⟨hr1,hr2⟩=>exact⟨Ii hn hi h1 hp.1 hr1,yD hn hi h2 hp.2 hr2⟩
  ·cases he
theorem JQ (hn:(f.ren.map (·.2)).Nodup) (hi:mZ B ρ F w h ft) {s s':TV} {p:List Prop} {v:Value} (he:En f h s=some (p,s')) (hp:All p) (hr:bB ρ F w s v):bB (yO ρ f.ren) (xE ft F h f.frz) w s' v:=by
 cases s with
 |v s=>
  simp only [En]at he
  split at he
  ·rename_i h1;cases he;exact Ii hn hi h1 hp hr
  ·cases he
 |dX l=>
  simp only [En]at he
  split at he
  ·rename_i h1;cases he
   obtain⟨vs,e,hr⟩:=hr
   exact⟨vs,e,yD hn hi h1 hp hr⟩
  ·cases he
theorem Gu: ∀{l l':List (Nat × TV)} {p:List Prop},EK f h l=some (p,l')→All p→ ∀t tv',get l' t=some tv'→ ∃tv q,get l t=some tv∧En f h tv=some (q,tv')∧All q
 |[],l',p,he,_,t,tv',hg=>by simp [EK]at he;obtain⟨rfl,rfl⟩:=he;simp [get]at hg
 |(t0,tv0)::l,l',p,he,hp,t,tv',hg=>by
  simp only [EK]at he
  split at he
  ·rename_i p1 tv1 p2 l1 h1 h2
   cases he
   rw [aZ]at hp
   rw [aC]at hg
   split at hg
   ·rename_i e;cases hg;subst e;exact⟨tv0,p1,by rw [aC,if_pos rfl],h1,hp.1⟩
   ·rename_i e
    obtain⟨tv,q,x1,x2,x3⟩:=Gu h2 hp.2 t tv' hg
    exact⟨tv,q,by rw [aC,if_neg e];exact x1,x2,x3⟩
  ·cases he
theorem dH.congr {ρ':Nat→Option Pl} {F':Nat→Prop} (hF: ∀k,F k→F' k): ∀{c:CV} {v:Value},(∀b∈c.aL,ρ' b=ρ b)→dH ρ F w c v→dH ρ' F' w c v:=by
 intro c
 induction c with
 |d x=>intro v _ h;exact bJ.gr hF (fun _ _=>rfl) h
 |ptr b off=>intro v hm h;obtain⟨k,base,cap,h,e⟩:=h;exact⟨k,base,cap,by rw [hm b (by simp [CV.aL])];exact h,e⟩
 |opt b esz i off=>intro v hm h;obtain⟨k,base,cap,h,e⟩:=h;exact⟨k,base,cap,by rw [hm b (by simp [CV.aL])];exact h,e⟩
 |own b nn len=>
  intro v hm h
  rcases h with⟨k,base,cap,h,e⟩|⟨h0,h,e⟩
  ·exact .inl ⟨k,base,cap,by rw [hm b (by simp [CV.aL])];exact h,e⟩
  ·exact .inr ⟨h0,by rw [hm b (by simp [CV.aL])];exact h,e⟩
 |mp b=>intro v hm h;obtain⟨k,base,cap,h,e⟩:=h;exact⟨k,base,cap,by rw [hm b (by simp [CV.aL])];exact h,e⟩
 |yl b=>intro v hm h;obtain⟨k,base,cap,h,e⟩:=h;exact⟨k,base,cap,by rw [hm b (by simp [CV.aL])];exact h,e⟩
 |fn f nf n cap ih=>
  intro v hm h
  obtain⟨vs,e,hl,h⟩:=h
  refine⟨vs,e,hl,fun j u hu=>ih j (fun b hb=>hm b ?_) (h j u hu)⟩
  have hj:j<n:=by rw [←hl];exact(List.getElem?_eq_some_iff.1 hu).1
  exact List.mem_flatMap.2 ⟨j,List.mem_range.2 hj,hb⟩
theorem bR.congr {ρ':Nat→Option Pl} {F':Nat→Prop} (hF: ∀k,F k→F' k): ∀{cs:List CV} {vs:List Value},(∀b∈cs.flatMap CV.aL,ρ' b=ρ b)→bR ρ F w cs vs→bR ρ' F' w cs vs
 |[],[],_,h=>h
 |c::cs,_::_,hm,⟨h,t⟩=> ⟨h.congr hF fun b hb=>hm b (by simp [hb]),bR.congr hF (fun b hb=>hm b (by rw [List.flatMap_cons,List.mem_append];exact .inr hb)) t⟩
 |[],_::_,_,h=>h.elim
 |_::_,[],_,h=>h.elim
theorem fM.congr {ρ':Nat→Option Pl} {F':Nat→Prop} (hF: ∀k,F k→F' k): ∀{s:SV} {v:Value},(∀b∈s.aL,ρ' b=ρ b)→fM ρ F w s v→fM ρ' F' w s v
 | .one _,_,hm,h=>dH.congr hF hm h
 | .agg _,_,hm,⟨vs,e,h⟩=> ⟨vs,e,h.congr hF hm⟩
theorem P7 (hn:(f.ren.map (·.2)).Nodup) (hi:mZ B ρ F w h ft) {b b':Nat} {ob ob':Ob} {p:List Prop} (hb:(b,b')∈f.ren) (he:rq f h ob=some (p,ob')) (hp:All p) (hr:gT ρ F w (ft b) b ob):gT (yO ρ f.ren) (xE ft F h f.frz) w (ft b) b' ob':=by
 have hF: ∀k,F k→xE ft F h f.frz k:=fun k hk=> .inl hk
 have ren:yO ρ f.ren b'=ρ b:=Ay hn hb
 have g0:Gr ρ F w ρ (xE ft F h f.frz) w:=⟨fun _ _ h=>h,hF,fun _ _=>rfl⟩
 cases ob with
 |cells E cs=>
  simp only [rq]at he
  split at he
  ·rename_i q cs' h1;cases he
   obtain⟨k,cap,vs,x1,x0,x2,x3⟩:=hr
   exact⟨k,cap,vs,by rw [ren];exact x1,x0,x2,Dt hn hi h1 hp x3⟩
  ·cases he
 |fcells E ds=>
  simp [rq]at he;obtain⟨rfl,rfl⟩:=he
  obtain⟨k,base,cap,x1,x2⟩:=hr
  exact⟨k,base,cap,by rw [ren];exact x1,fun j x hx=>by obtain⟨y1,u,y2,y3⟩:=x2 j x hx;exact⟨hF _ y1,u,y2,bJ.gr hF (fun _ _=>rfl) y3⟩⟩
 |frow fu E esz len el=>
  simp [rq]at he;obtain⟨rfl,rfl⟩:=he
  obtain⟨k,base,cap,x1,x0,x2⟩:=hr
  exact⟨k,base,cap,by rw [ren];exact x1,x0,fun i hi j hj=>by obtain⟨y1,u,y2,y3⟩:=x2 i hi j hj;exact⟨hF _ y1,u,y2,bJ.gr hF (fun _ _=>rfl) y3⟩⟩
 |arr E esz len el=>
  simp [rq]at he;obtain⟨rfl,rfl⟩:=he
  rcases hr with⟨x1,x2⟩|⟨k,base,cap,x1,x0,x2⟩
  ·exact .inl ⟨by rw [ren];exact x1,x2⟩
  ·exact .inr ⟨k,base,cap,by rw [ren];exact x1,x0,x2.keep g0 rfl⟩
 |rows E esz len el ov=>
  rcases hr with⟨x1,x2⟩|⟨k,base,cap,vs,rb,x1,x0,x2,x3,x4,x5,x6,x7⟩
  ·cases ov with
   |none=>simp [rq]at he;obtain⟨rfl,rfl⟩:=he;exact .inl ⟨by rw [ren];exact x1,x2⟩
   |some o=>
    obtain⟨i,j,c⟩:=o
    simp only [rq]at he
    split at he
    ·cases he;exact .inl ⟨by rw [ren];exact x1,x2⟩
    ·cases he
  ·cases ov with
   |none=>
    simp [rq]at he;obtain⟨rfl,rfl⟩:=he
    refine .inr ⟨k,base,cap,vs,rb,by rw [ren];exact x1,x0,x2,x3,x4,x5,fun i hi' j hj=> ?_,x7⟩
    obtain⟨u,hu,hr⟩:=x6 i hi' j hj
    exact⟨u,hu,gG.keep g0 (fun _ h=>h) (fun _ _=>rfl) hr⟩
   |some o=>
    obtain⟨i0,j0,c⟩:=o
    simp only [rq]at he
    split at he
    ·rename_i q c' h1
     cases he
     refine .inr ⟨k,base,cap,vs,rb,by rw [ren];exact x1,x0,x2,x3,x4,x5,fun i hi' j hj=> ?_,x7⟩
     obtain⟨u,hu,hr⟩:=x6 i hi' j hj
     refine⟨u,hu, ?_⟩
     unfold yM at hr ⊢
     simp only at hr ⊢
     split
     ·rename_i e;rw [if_pos e]at hr;exact Ao hn hi h1 hp hr
     ·rename_i e;rw [if_neg e]at hr;exact gG.keep g0 (fun _ h=>h) (fun _ _=>rfl) hr
    ·cases he
 |map m=>
  simp only [rq]at he
  cases hb2:(m.ms.all (fun b=> !gU b f.frz && (match get f.ren b with|some b'=>Nat.beq b b'|none=>false)))with
  |false=>rw [hb2]at he;cases he
  |true=>
   rw [hb2]at he
   simp only [cond_true,Option.some.injEq,Prod.mk.injEq]at he
   obtain⟨rfl,rfl⟩:=he
   have hms: ∀x∈m.ms,yO ρ f.ren x=ρ x:=fun x hx=>by
    have:=List.all_eq_true.1 hb2 x hx
    simp only [Bool.and_eq_true]at this
    have h2:=this.2
    split at h2
    ·rename_i b2 hg;have:=Nat.eq_of_beq_eq_true h2;subst this;exact Ay hn (get_mem hg)
    ·cases h2
   obtain⟨k,base,cap,es,x1,x0,x2,x3,x5,x4⟩:=hr
   refine⟨k,base,cap,es,by rw [ren];exact x1,x0,x2,x3,x5,fun i hi'=> ?_⟩
   obtain⟨e,e1,e2,⟨s3,e3,e3'⟩,⟨s4,e4,e4'⟩⟩:=x4 i hi'
   refine⟨e,e1,e2,⟨s3,e3,e3'.congr hF fun x hx=> ?_⟩,s4,e4,e4'.congr hF fun x hx=>hms x ?_⟩
   ·rw [yG e3]at hx
    obtain⟨c,hc,hx⟩:=List.mem_flatMap.1 hx
    obtain⟨j,_,rfl⟩:=uM hc
    simp [CV.aL]at hx
   ·rw [yG e4]at hx
    obtain⟨c,hc,hx⟩:=List.mem_flatMap.1 hx
    obtain⟨j,hj,rfl⟩:=uM hc
    exact x5 i hi' j (by omega) x hx
 |loop r st sl=>
  simp only [rq]at he
  split at he
  ·rename_i q sl' h1
   cases he
   obtain⟨k,base,cap,fn,tmps,D,x1,x0,x2,x3,x4,x5⟩:=hr
   refine⟨k,base,cap,fn,tmps,D,by rw [ren];exact x1,x0,x2,x3,x4,fun t tv ht=> ?_⟩
   obtain⟨tv0,q0,y1,y2,y3⟩:=Gu h1 hp t tv ht
   obtain⟨v,z1,z2⟩:=x5 t tv0 y1
   exact⟨v,z1,JQ hn hi y2 y3 z2⟩
  ·cases he
 |gm K V E l ov=>
  obtain⟨k,base,cap,es,rb,x1,x0,x2,x3,x4,x5⟩:=hr
  cases ov with
  |none=>
   simp [rq]at he;obtain⟨rfl,rfl⟩:=he
   refine⟨k,base,cap,es,rb,by rw [ren];exact x1,x0,x2,x3,fun i hi'=> ?_,x5⟩
   obtain⟨e,e1,e2,e3,e4⟩:=x4 i hi'
   refine⟨e,e1,e2,e3, ?_⟩
   unfold xW at e4 ⊢
   exact gG.keep g0 (fun _ h=>h) (fun _ _=>rfl) e4
  |some o=>
   obtain⟨n,c⟩:=o
   simp only [rq]at he
   split at he
   ·rename_i q c' h1
    cases he
    refine⟨k,base,cap,es,rb,by rw [ren];exact x1,x0,x2,x3,fun i hi'=> ?_,x5⟩
    obtain⟨e,e1,e2,e3,e4⟩:=x4 i hi'
    refine⟨e,e1,e2,e3, ?_⟩
    unfold xW at e4 ⊢
    simp only at e4 ⊢
    split
    ·rename_i e;rw [if_pos e]at e4;exact Ao hn hi h1 hp e4
    ·rename_i e;rw [if_neg e]at e4;exact gG.keep g0 (fun _ h=>h) (fun _ _=>rfl) e4
   ·cases he
 |coll=>
  simp [rq]at he;obtain⟨rfl,rfl⟩:=he
  obtain⟨k,base,cap,x1,x0,x2⟩:=hr
  exact⟨k,base,cap,by rw [ren];exact x1,x0,x2⟩
 |suf b0 l esz=>
  simp only [rq]at he
  cases hm:gU b0 f.frz with
  |true=>rw [hm]at he;cases he
  |false=>
   rw [hm]at he
   simp only [cond_false]at he
   split at he
   ·rename_i b1 hg
    cases he
    have hb0:=Ay (ρ:=ρ) hn (get_mem hg)
    rcases hr with⟨y1,y2,y3⟩|⟨k,base,cap,y1,y2,y3⟩
    ·exact .inl ⟨by rw [hb0];exact y1,by rw [ren];exact y2,y3⟩
    ·exact .inr ⟨k,base,cap,by rw [hb0];exact y1,y2,y3.mono fun p hp=>by rw [ren];exact hp⟩
   ·cases he
theorem Jh {s:Slots}: ∀{ts:List Nat} {p:List Prop} {l:List (Nat × TV)},Kn f h s ts=some (p,l)→All p→ ∀t tv',get l t=some tv'→ ∃tv src q,s t=some ⟨[],tv,src⟩∧En f h tv=some (q,tv')∧All q
 |[],p,l,he,_,t,tv',hg=>by simp [Kn]at he;obtain⟨rfl,rfl⟩:=he;simp [get]at hg
 |t0::ts,p,l,he,hp,t,tv',hg=>by
  simp only [Kn]at he
  split at he
  ·rename_i tv src q0 l0 h1 h2
   split at he
   ·rename_i p1 tv1 h3
    cases he
    rw [aZ]at hp
    rw [aC]at hg
    split at hg
    ·rename_i e;cases hg;subst e;exact⟨tv,src,p1,h1,h3,hp.1⟩
    ·exact Jh h2 hp.2 t tv' hg
   ·cases he
  ·cases he
theorem Jr: ∀{l:List (Nat × Nat)} {p:List Prop} {m:List (Nat × Option Ob)},E5 f h l=some (p,m)→All p→
  (∀b' x,get m b'=some x→ ∃b,(b,b')∈l∧(x=none∨ ∃ob ob' q,x=some ob'∧h b=some (some ob)∧b ∉ f.frz∧rq f h ob=some (q,ob')∧All q))∧(∀b',get m b'=none→b' ∉ l.map (·.2))
 |[],p,m,he,_=>by simp [E5]at he;obtain⟨rfl,rfl⟩:=he;simp [get]
 |(b0,b0')::l,p,m,he,hp=>by
  have key: ∀(q:List Prop) (m0:List (Nat × Option Ob)) (x0:Option Ob),E5 f h l=some (q,m0)→All q→m=(b0',x0)::m0→
    (x0=none∨ ∃ob ob' q,x0=some ob'∧h b0=some (some ob)∧b0 ∉ f.frz∧rq f h ob=some (q,ob')∧All q)→
    (∀b' x,get m b'=some x→ ∃b,(b,b')∈(b0,b0')::l∧(x=none∨ ∃ob ob' q,x=some ob'∧h b=some (some ob)∧b ∉ f.frz∧rq f h ob=some (q,ob')∧All q))∧(∀b',get m b'=none→b' ∉ ((b0,b0')::l).map (·.2)):=by
   intro q m0 x0 h2 hq hm hx
   obtain⟨i1,i2⟩:=Jr h2 hq
   subst hm
   refine⟨fun b' x hg=> ?_,fun b' hg=> ?_⟩
   ·rw [aC]at hg
    split at hg
    ·rename_i e;cases hg;subst e;exact⟨b0,by simp,hx⟩
    ·obtain⟨b,hb,hx'⟩:=i1 b' x hg;exact⟨b,by simp [hb],hx'⟩
   ·rw [aC]at hg
    split at hg
    ·cases hg
    ·rename_i e
     have:=i2 b' hg
     rw [List.map_cons,List.mem_cons]
     rintro (e'|e')
     ·exact e e'.symm
     ·exact this e'
  simp only [E5]at he
  split at he
  ·rename_i q m0 h1 h2
   cases he
   exact key _ m0 none h2 hp rfl (.inl rfl)
  ·rename_i ob q m0 h1 h2
   cases hm:gU b0 f.frz with
   |true=>simp only [hm,cond_true]at he;cases he;exact key _ m0 none h2 hp rfl (.inl rfl)
   |false=>
    simp only [hm,cond_false]at he
    split at he
    ·rename_i p1 ob' h3
     cases he
     rw [aZ]at hp
     exact key _ m0 _ h2 hp.2 rfl (.inr ⟨ob,ob',p1,rfl,h1,nR hm,h3,hp.1⟩)
    ·cases he
  ·cases he
theorem O4 {N:Nat} {L:List Nat} {yb:Nat→Bool} {r:RS} {a:Act} {f:Fin} {ts:List Nat} {p q:List Prop} {sl:List (Nat × TV)} {hp:List (Nat × Option Ob)} (hrc:RC B yb N r a w) (hids: ∀b p,B.ρ b=some p→b∈L)
  (hok:Eu L f=true) (h1:Kn f r.h r.s ts=some (p,sl)) (h2:E5 f r.h f.ren=some (q,hp)) (c1:All p) (c2:All q):Conc B N L ⟨sl,hp⟩ a w:=by
 obtain⟨⟨ρ,F,hfr,⟨ft,hhi⟩,hs,dn⟩,sz⟩:=hrc
 simp only [Eu,Bool.and_eq_true]at hok
 obtain⟨⟨o1,o2⟩,o4⟩:=hok
 have n1:=xX o1
 have n2:=xX o2
 have o4: ∀b∈L,get f.ren b=some b:=fun b hb=>by
  have:=List.all_eq_true.1 o4 b hb
  split at this
  ·rename_i b' hg;rw [hg,Nat.eq_of_beq_eq_true this]
  ·cases this
 obtain⟨g1,g2⟩:=Jr h2 c2
 have grm: ∀b b',(b,b')∈f.ren→yO ρ f.ren b'=ρ b:=fun b b' hb=>Ay n2 hb
 have live: ∀b' ob,get hp b'=some (some ob)→ ∃b ob0 q,(b,b')∈f.ren∧r.h b=some (some ob0)∧b ∉ f.frz∧rq f r.h ob0=some (q,ob)∧All q:=fun b' ob hg=>by
  obtain⟨b,hb,hx⟩:=g1 b' _ hg
  rcases hx with hx|⟨ob0,ob',q,e1,e2,e3,e4,e5⟩
  ·cases hx
  ·cases e1;exact⟨b,ob0,q,hb,e2,e3,e4,e5⟩
 have old: ∀b',(∃b,(b,b')∈f.ren)→ ∃b,(b,b')∈f.ren:=fun _ h=>h
 have hF: ∀k,F k→xE ft F r.h f.frz k:=fun k hk=> .inl hk
 have oldName: ∀{b b' c:Nat},(b,b')∈f.ren→(c,b')∈f.ren→b=c:=fun{b b' c} hb hc=>by
  have key: ∀(l:List (Nat × Nat)),(l.map (·.2)).Nodup→(b,b')∈l→(c,b')∈l→b=c:=by
   intro l
   induction l with
   |nil=>intro _ h;simp at h
   |cons x l ih=>
    intro hn hb hc
    rw [List.map_cons,List.nodup_cons]at hn
    rcases List.mem_cons.1 hb with e1|h1<;>rcases List.mem_cons.1 hc with e2|h2
    ·rw [←e1]at e2;cases e2;rfl
    ·exact absurd (List.mem_map_of_mem (f:=(·.2)) h2) (by rw [←e1]at hn;exact hn.1)
    ·exact absurd (List.mem_map_of_mem (f:=(·.2)) h1) (by rw [←e2]at hn;exact hn.1)
    ·exact ih hn.2 h1 h2
  exact key f.ren n2 hb hc
 refine⟨⟨yO ρ f.ren,xE ft F r.h f.frz, ?_,⟨fun b' k=> ∃b,(b,b')∈f.ren∧ft b k, ?_⟩,fun t tv' hg=> ?_, ?_⟩,hids,sz⟩
 ·refine⟨hfr.os,hfr.tape,hfr.output,hfr.size,hfr.mem,fun b p hb=> ?_,fun k hk=> ?_,fun k hk=> .inl (hfr.bf k hk)⟩
  ·rw [grm b b (get_mem (o4 b (hids b p hb)))];exact hfr.rho b p hb
  ·rcases hk with hk|⟨b,ob,hb,hob,hk⟩
   ·exact hfr.fz k hk
   ·obtain⟨x1,_,x2⟩:=hhi.blk b ob k hob hk
    exact⟨x1, .inr x2⟩
 ·refine⟨fun b' ob hg=> ?_,fun b' ob k hg hk=> ?_,fun b1 b2 ob1 ob2 k hg1 hg2 e1 e2=> ?_,fun b' hg=> ?_,fun x hx=> ⟨.inl (hhi.gl x hx).1,(hhi.gl x hx).2⟩⟩
  ·obtain⟨b,ob0,q,hb,hob,hnf,hfo,hq⟩:=live b' ob hg
   have:=P7 n2 hhi hb hfo hq (hhi.obj b ob0 hob)
   exact this.keep ⟨fun _ _ h=>h,fun _ h=>h,fun _ _=>rfl⟩ (fun k hk=> ⟨b,hb,hk⟩) (fun _ _=>rfl)
  ·obtain⟨b,ob0,q,hb,hob,hnf,hfo,hq⟩:=live b' ob hg
   obtain⟨c,hc,hk⟩:=hk
   rw [←oldName hb hc]at hk
   obtain⟨x1,x2,x3⟩:=hhi.blk b ob0 k hob hk
   refine⟨x1,fun hf=> ?_,x3⟩
   rcases hf with hf|⟨b2,ob2,y1,y2,y3⟩
   ·exact x2 hf
   ·exact hnf (hhi.dis b b2 ob0 ob2 k hob y2 hk y3 ▸ y1)
  ·obtain⟨c1,oc1,_,m1,l1,_⟩:=live b1 ob1 hg1
   obtain⟨c2,oc2,_,m2,l2,_⟩:=live b2 ob2 hg2
   obtain⟨d1,hd1,e1⟩:=e1
   obtain⟨d2,hd2,e2⟩:=e2
   rw [←oldName m1 hd1]at e1
   rw [←oldName m2 hd2]at e2
   have:=hhi.dis c1 c2 oc1 oc2 k l1 l2 e1 e2
   subst this
   have q1:=get_of_mem n1 m1
   have q2:=get_of_mem n1 m2
   rw [q1]at q2;cases q2;rfl
  ·have hno:=g2 b' hg
   unfold yO
   cases hf:f.ren.find? (fun p=>Nat.beq p.2 b')with
   |none=>rfl
   |some p=>
    exfalso
    have hm:=List.mem_of_find?_eq_some hf
    have hb:=List.find?_some hf
    exact hno (Nat.eq_of_beq_eq_true hb ▸ List.mem_map_of_mem (f:=(·.2)) hm)
 ·obtain⟨tv,src,q',e1,e2,e3⟩:=Jh h1 c1 t tv' hg
  obtain⟨v,hv,hr1,_⟩:=hs t _ e1
  exact⟨v,hv,JQ n2 hhi e2 e3 (hr1 trivial)⟩
 ·exact dn.gr (ρ:=ρ) (ρ':=ρ) ⟨fun _ _ h=>h,hF,fun _ _=>rfl⟩
end
theorem rz {B:Base} {N:Nat} {L:List Nat} {st:St} {a:Act} {w:World} {yb:Nat→Bool} (h:Conc B N L st a w):RC B yb N (uL st) a w:=by
 obtain⟨⟨ρ,F,hfr,hhi,hs,dn⟩,hid,sz⟩:=h
 refine⟨⟨ρ,F,hfr,hhi,fun t e ht=> ?_,dn⟩,sz⟩
 simp only [uL]at ht
 split at ht
 ·rename_i tv hg
  cases ht
  obtain⟨v,hv,hr⟩:=hs t tv hg
  exact⟨v,hv,fun _=>hr,fun hn=>absurd trivial hn⟩
 ·cases ht
theorem KU {B:Base} {N:Nat} {L:List Nat} {st:St} {a:Act} {w:World} (h:Conc B N L st a w):Conc B N L st a {w with drawn:=w.drawn+1}:=by
 obtain⟨⟨ρ,F,hfr,⟨ft,hhi⟩,hs,dn⟩,hid,sz⟩:=h
 have g:Gr ρ F w ρ F {w with drawn:=w.drawn+1}:=⟨fun _ _ h=>h,fun _ h=>h,fun _ _=>rfl⟩
 refine⟨⟨ρ,F,⟨hfr.os,hfr.tape,hfr.output,hfr.size,hfr.mem,hfr.rho,hfr.fz,hfr.bf⟩,⟨ft,fun b ob hb=>(hhi.obj b ob hb).keep g (fun _ h=>h) fun _ _=>rfl,hhi.blk,hhi.dis,hhi.fresh,hhi.gl.gr g⟩,fun t tv ht=> ?_,dn.gr g⟩,hid,sz⟩
 obtain⟨v,hv,hr⟩:=hs t tv ht
 exact⟨v,hv,hr.gr g⟩
section
variable (Fc:Cl→List SV→List (Nat × Option Ob)→TV→List (Nat × Option Ob)→Prop) (T:List (Nat × TI))
structure zu where
 yb:Nat→Bool:=fun _=>false
 an:Nat→lZ:=fun _=> .none
 fr:Nat→Nat:=fun _=>0
 fin:Fin
 ts:List Nat
def finish (L:List Nat) (fin:Fin) (ts:List Nat) (cs:List Prop) (r:RS):Option (List Prop × St):=
 bif Eu L fin then
  match Kn fin r.h r.s ts,E5 fin r.h fin.ren with
  |some (p,sl),some (q,hp)=>some (cs++(p++q),⟨sl,hp⟩)
  |_,_=>none
 else none
def M0 (ops:Array Oper) (N:Nat) (L:List Nat) (x:zu) (st:St):Option (List Prop × St):=
 match run Fc T ops.toList x.yb x.an x.fr N (List.range ops.size) (uL st)with
 |some (cs,r)=>finish L x.fin x.ts cs r
 |none=>none
def Ew (l:List (Nat × yP)) (i:Nat):yP:=match get l i with|some x=>x|none=> ⟨[],[]⟩
def Uz (ops:Array Oper) (N:Nat) (L:List Nat) (x:zu) (cl:List (Nat × List Nat)) (st:St):Option (List Prop × St):=
 match Cv Fc T ops.toList x.yb x.an x.fr N (List.range ops.size) (uL st)with
 |some (cs,r,inf)=>
  let clf:Nat→List Nat:=fun i=>match get cl i with|some l=>l|none=>[]
  bif BA ops.toList clf ops.size && mY ops.toList (Ew inf) clf ops.size then finish L x.fin x.ts cs r else none
 |none=>none
end
section
variable {rd:Option Nat} {P:Program} {B:Base} {N:Nat} {L:List Nat} {T:List (Nat × TI)} {Q:Exit→St→Prop} {st st':St}
theorem eP {c:Code} {Q':Exit→St→Prop} (h:lC rd P B N L c Q st) (hq: ∀e st,Q e st→Q' e st):lC rd P B N L c Q' st:=
 fun a w hc=>wpIn_mono (h a w hc) fun e _ _ ⟨st',h1,h2⟩=> ⟨st',hq e st' h1,h2⟩
theorem oM {a:Act} {w:World} {yb:Nat→Bool} {fin:Fin} {ts:List Nat} {cs cs':List Prop} {r:RS} (hf:finish L fin ts cs r=some (cs',st')) (hc:All cs') (hrc:RC B yb N r a w) (hid: ∀b p,B.ρ b=some p→b∈L):Conc B N L st' a w:=by
 unfold finish at hf
 cases hb:Eu L fin with
 |false=>simp [hb]at hf
 |true=>
  simp only [hb,cond_true]at hf
  split at hf
  ·rename_i p sl q hp h1 h2
   cases hf
   rw [aZ,aZ]at hc
   exact O4 hrc hid hb h1 h2 hc.2.1 hc.2.2
  ·cases hf
theorem pQ {fin:Fin} {ts:List Nat} {cs cs':List Prop} {r:RS} (hf:finish L fin ts cs r=some (cs',st')) (hc:All cs'):All cs:=by
 unfold finish at hf
 cases hb:Eu L fin with
 |false=>simp [hb]at hf
 |true=>
  simp only [hb,cond_true]at hf
  split at hf
  ·cases hf;rw [aZ]at hc;exact hc.1
  ·cases hf
theorem Eb (hT:lY P T) {id:Nat} {ops:Array Oper} (x:zu) {cs:List Prop} (he:M0 (Bn P) T ops N L x st=some (cs,st')) (hc:All cs) (hQ:Q .normal st'):lC rd P B N L (.region id ops false) Q st:=by
 intro a w hconc
 unfold M0 at he
 split at he
 ·rename_i cs0 r hrun
  have hid:=hconc.ids
  exact wpIn_region (BI hT hrun (pQ he hc) (rz hconc) fun a' w' hrc=> ⟨st',hQ,oM he hc hrc hid⟩)
 ·cases he
theorem CQ (hT:lY P T) (hm:P.follows .mixedOrders=true) {id:Nat} {ops:Array Oper} (x:zu) (cl:List (Nat × List Nat)) {cs:List Prop} (he:Uz (Bn P) T ops N L x cl st=some (cs,st')) (hc:All cs) (hQ:Q .normal st'):
  lC rd P B N L (.region id ops true) Q st:=by
 intro a w hconc
 unfold Uz at he
 split at he
 ·rename_i cs0 r inf hrun
  have hid:=hconc.ids
  simp only at he
  cases hb:(BA ops.toList (fun i=>match get cl i with|some l=>l|none=>[]) ops.size && mY ops.toList (Ew inf) (fun i=>match get cl i with|some l=>l|none=>[]) ops.size)with
  |false=>rw [hb]at he;simp at he
  |true=>
   rw [hb]at he
   simp only [cond_true]at he
   simp only [Bool.and_eq_true]at hb
   refine wpIn_region_any hm (M8 (info:=Ew inf) (yb:=x.yb) (an:=x.an) (fr:=x.fr) hT hb.1 hb.2 ops.size _ (uL st) r a _ (by simp) (fun i o ho hl=> ?_) ?_ ?_ (rz (KU hconc)) fun a' w' hrc=> ⟨st',hQ,oM he hc hrc hid⟩)
   ·have:i<ops.size:=(Array.getElem?_eq_some_iff.1 ho).1
    simp [this]at hl
   ·refine Nat.le_trans (List.length_filter_le _ _) (by simp)
   ·have hall:((List.range ops.size).filter fun i=> !(Array.replicate ops.size false).getD i true)=List.range ops.size:=by
     rw [List.filter_eq_self]
     intro i hi
     rw [List.mem_range]at hi
     simp [hi]
    rw [hall]
    exact zm hrun (pQ he hc) List.nodup_range fun i y hi=>by simp [Ew,hi]
 ·cases he
theorem Aw {x y:Code} (h:lC rd P B N L x (fun e st'=>match e with| .normal=>lC rd P B N L y Q st'|e=>Q e st') st):lC rd P B N L (.seq x y) Q st:=by
 intro a w hc
 refine wpIn_seq (wpIn_mono (h a w hc) fun e a' w' hh=> ?_)
 obtain⟨st',h1,h2⟩:=hh
 cases e with
 |normal=>exact h1 a' w' h2
 |exit id=>exact⟨st',h1,h2⟩
 |goto l=>exact⟨st',h1,h2⟩
 |ret=>exact⟨st',h1,h2⟩
 |panic c=>exact⟨st',h1,h2⟩
 |outgrown=>exact⟨st',h1,h2⟩
theorem Ih (h:Q .normal st):lC rd P B N L .skip Q st:=fun _ _ hc=>wpIn_skip ⟨st,h,hc⟩
theorem F9 {l:Nat} (h:Q .normal st):lC rd P B N L (.label l) Q st:=fun _ _ hc=>wpIn_label ⟨st,h,hc⟩
theorem Qm {id:Nat} (h:Q (.exit id) st):lC rd P B N L (.exit id) Q st:=fun _ _ hc=>wpIn_exit ⟨st,h,hc⟩
theorem O3 {l:Nat} (h:Q (.goto l) st):lC rd P B N L (.goto l) Q st:=fun _ _ hc=>wpIn_goto ⟨st,h,hc⟩
theorem Rx (h:Q .ret st):lC rd P B N L .ret Q st:=fun _ _ hc=>wpIn_ret ⟨st,h,hc⟩
def AA (st:St):Operand→Option TV
 | .tmp t=>get st.slots t
 | .const v=>match N7 v with|some d=>some (.v (.one (.d d)))|none=>none
 |_=>none
theorem Jd {a:Act} {ρ:Nat→Option Pl} {F:Nat→Prop} {w:World} (hs: ∀t tv,get st.slots t=some tv→ ∃v,a.tmps[t]? =some v∧bB ρ F w tv v) {x:Operand} {tv:TV} (h:AA st x=some tv):bB ρ F w tv (a.eval x):=by
 cases x with
 |tmp t=>
  obtain⟨v,hv,hr⟩:=hs t tv h
  simp [Act.eval,hv];exact hr
 |const v=>
  simp only [AA]at h
  split at h
  ·rename_i d hd;cases h;exact Eh hd
  ·cases h
 |func f=>simp [AA]at h
 |global g=>simp [AA]at h
theorem xO {c:Operand} {x y:Code} (b:Bool) (hb:AA st c=some (.v (.one (.d (.bool b))))) (ht:b=true→lC rd P B N L x Q st) (hf:b=false→lC rd P B N L y Q st):lC rd P B N L (.cond c x y) Q st:=by
 intro a w hc
 obtain⟨ρ,F,hfr,hhi,hs,_⟩:=hc.ex
 exact wpIn_cond_split (t:=b) (Jd hs hb) (fun e=>ht e a w hc) (fun e=>hf e a w hc)
theorem Nb {id:Nat} {c:Code} (h:lC rd P B N L c (fun e st'=>match e with| .exit id'=>if id'=id then Q .normal st' else Q (.exit id') st'|e=>Q e st') st):lC rd P B N L (.block id c) Q st:=by
 intro a w hc
 refine wpIn_block (wpIn_mono (h a w hc) fun e a' w' hh=> ?_)
 obtain⟨st',h1,h2⟩:=hh
 cases e with
 |exit id'=>
  simp only [Exit.inBlock]
  simp only at h1
  split
  ·rename_i e;rw [if_pos e]at h1;exact⟨st',h1,h2⟩
  ·rename_i e;rw [if_neg e]at h1;exact⟨st',h1,h2⟩
 |normal=>exact⟨st',h1,h2⟩
 |goto l=>exact⟨st',h1,h2⟩
 |ret=>exact⟨st',h1,h2⟩
 |panic c=>exact⟨st',h1,h2⟩
 |outgrown=>exact⟨st',h1,h2⟩
theorem OE {σ:Type} {c:Code} (S:σ→St) (I:σ→Prop) (μ:σ→Nat) (s:σ) (h0:I s)
  (round: ∀s,I s→lC rd P B N L c (fun e st'=>match e with| .normal=> ∃s',st'=S s'∧I s'∧μ s'<μ s|e=>Q e st') (S s)):lC rd P B N L (.loop c) Q (S s):=by
 intro a w hc
 refine wpIn_loop_ghost (fun n a w=> ∃s,μ s=n∧I s∧Conc B N L (S s) a w) (μ s) ⟨s,rfl,h0,hc⟩ ?_
 rintro n a w ⟨s,rfl,hI,hc⟩
 refine wpIn_mono (round s hI a w hc) fun e a' w' hh=> ?_
 obtain⟨st',h1,h2⟩:=hh
 cases e with
 |normal=>
  obtain⟨s',rfl,hI',hlt⟩:=h1
  exact⟨μ s',hlt,s',rfl,hI',h2⟩
 |exit id=>exact⟨st',h1,h2⟩
 |goto l=>exact⟨st',h1,h2⟩
 |ret=>exact⟨st',h1,h2⟩
 |panic c=>exact⟨st',h1,h2⟩
 |outgrown=>exact⟨st',h1,h2⟩
end
def wS (x y:DV):Prop:= ∀F w v,bJ F w x v→bJ F w y v
def GK (x y:CV):Prop:= ∀ρ F w v,dH ρ F w x v→dH ρ F w y v
def Ib (x y:SV):Prop:= ∀ρ F w v,fM ρ F w x v→fM ρ F w y v
def BB (x y:TV):Prop:= ∀ρ F w v,bB ρ F w x v→bB ρ F w y v
def KI (x y:Option Ob):Prop:=match x,y with
 |some x,some y=> ∀ρ F w S b,gT ρ F w S b x→gT ρ F w S b y
 |_,none=>True
 |_,_=>False
theorem wS.refl (x:DV):wS x x:=fun _ _ _ h=>h
theorem GK.refl (x:CV):GK x x:=fun _ _ _ _ h=>h
theorem Ib.refl (x:SV):Ib x x:=fun _ _ _ _ h=>h
theorem BB.refl (x:TV):BB x x:=fun _ _ _ _ h=>h
theorem KI.refl:(x:Option Ob)→KI x x
 |none=>trivial
 |some _=>fun _ _ _ _ _ h=>h
theorem BB.of {x y:TV} (h:x=y):BB x y:=h ▸ .refl x
theorem Ib.of {x y:SV} (h:x=y):Ib x y:=h ▸ .refl x
theorem GK.of {x y:CV} (h:x=y):GK x y:=h ▸ .refl x
theorem wS.of {x y:DV} (h:x=y):wS x y:=h ▸ .refl x
theorem wS.trans {x y z:DV} (h:wS x y) (h':wS y z):wS x z:=fun F w v hr=>h' F w v (h F w v hr)
theorem GK.trans {x y z:CV} (h:GK x y) (h':GK y z):GK x z:=fun ρ F w v hr=>h' ρ F w v (h ρ F w v hr)
theorem GK.d {x y:DV} (h:wS x y):GK (.d x) (.d y):=fun _ F w v hr=>h F w v hr
theorem Ib.one {x y:CV} (h:GK x y):Ib (.one x) (.one y):=fun ρ F w v hr=>h ρ F w v hr
theorem BB.v {x y:SV} (h:Ib x y):BB (.v x) (.v y):=fun ρ F w v hr=>h ρ F w v hr
def IV:List CV→List CV→Prop
 |[],[]=>True
 |x::xs,y::ys=>GK x y∧IV xs ys
 |_,_=>False
def EU:List SV→List SV→Prop
 |[],[]=>True
 |x::xs,y::ys=>Ib x y∧EU xs ys
 |_,_=>False
theorem IV.NZ {ρ:Nat→Option Pl} {F:Nat→Prop} {w:World}: ∀{xs ys:List CV} {vs:List Value},IV xs ys→bR ρ F w xs vs→bR ρ F w ys vs
 |[],[],_,_,h=>h
 |_::_,_::_,_::_,⟨h,t⟩,⟨h',t'⟩=> ⟨h _ _ _ _ h',IV.NZ t t'⟩
 |_::_,_::_,[],_,h=>h.elim
 |[],_::_,_,h,_=>h.elim
 |_::_,[],_,h,_=>h.elim
theorem EU.NZ {ρ:Nat→Option Pl} {F:Nat→Prop} {w:World}: ∀{xs ys:List SV} {vs:List Value},EU xs ys→dN ρ F w xs vs→dN ρ F w ys vs
 |[],[],_,_,h=>h
 |_::_,_::_,_::_,⟨h,t⟩,⟨h',t'⟩=> ⟨h _ _ _ _ h',EU.NZ t t'⟩
 |_::_,_::_,[],_,h=>h.elim
 |[],_::_,_,h,_=>h.elim
 |_::_,[],_,h,_=>h.elim
theorem Ib.agg {xs ys:List CV} (h:IV xs ys):Ib (.agg xs) (.agg ys):=fun _ _ _ _ ⟨vs,e,hr⟩=> ⟨vs,e,h.NZ hr⟩
theorem BB.dX {xs ys:List SV} (h:EU xs ys):BB (.dX xs) (.dX ys):=fun _ _ _ _ ⟨vs,e,hr⟩=> ⟨vs,e,h.NZ hr⟩
theorem wS.sl {nn Cf:Option Bool} {esz len:Nat} {f g:Nat→Nat→DV} (hn:Cf=none∨Cf=nn) (h: ∀i,i<len→ ∀j,j<esz→wS (f i j) (g i j)):wS (.sl nn esz len f) (.sl Cf esz len g):=by
 rintro F w v ⟨a,cap,hv,h1,h2,h3,h4,h5⟩
 refine⟨a,cap,hv, ?_, ?_,h3,h4,fun ad ha=> ⟨(h5 ad ha).1,fun i hi j hj=> ?_⟩⟩
 ·rcases hn with rfl|rfl
  ·intro e;cases e
  ·exact h1
 ·rcases hn with rfl|rfl
  ·intro e;cases e
  ·exact h2
 ·obtain⟨hf,u,hu,hr⟩:=(h5 ad ha).2 i hi j hj
  exact⟨hf,u,hu,h i hi j hj F w u hr⟩
def OW (sl:List (Nat × TV)):List (Nat × TV)→Prop
 |[]=>True
 |(t,tv')::l=>(∃tv,get sl t=some tv∧BB tv tv')∧OW sl l
theorem OW.get {sl:List (Nat × TV)}: ∀{l:List (Nat × TV)},OW sl l→ ∀{t:Nat} {tv':TV},get l t=some tv'→ ∃tv,Sg.get sl t=some tv∧BB tv tv'
 |[],_,_,_,h=>by simp [Sg.get]at h
 |(k,v)::l,⟨h1,h2⟩,t,tv',h=>by
  rw [aC]at h
  split at h
  ·rename_i e;cases h;subst e;exact h1
  ·exact OW.get h2 h
def nY:List (Nat × Option Ob)→List (Nat × Option Ob)→Prop
 |[],[]=>True
 |(b,x)::l,(b',y)::l'=>b=b'∧KI x y∧nY l l'
 |_,_=>False
theorem nY.refl:(l:List (Nat × Option Ob))→nY l l
 |[]=>trivial
 |(_,x)::l=> ⟨rfl, .refl x,nY.refl l⟩
theorem nY.get: ∀{l l':List (Nat × Option Ob)},nY l l'→ ∀b,(∀y,get l' b=some y→ ∃x,get l b=some x∧KI x y)∧(get l' b=none→get l b=none)
 |[],[],_,b=>by simp [Sg.get]
 |(k,x)::l,(k',y)::l',⟨e,h1,h2⟩,b=>by
  subst e
  rw [aC,aC]
  obtain⟨i1,i2⟩:=nY.get h2 b
  by_cases e:k=b
  ·rw [if_pos e,if_pos e];exact⟨fun y' hy=>by cases hy;exact⟨x,rfl,h1⟩,by simp⟩
  ·rw [if_neg e,if_neg e];exact⟨i1,i2⟩
 |[],_::_,h,_=>h.elim
 |_::_,[],h,_=>h.elim
structure Vl (st st':St):Prop where
 sl:OW st.slots st'.slots
 hp:nY st.heap st'.heap
theorem HI.le {B:Base} {ρ:Nat→Option Pl} {F:Nat→Prop} {w:World} {l l':List (Nat × Option Ob)} (h:nY l l') (hi:HI B ρ F w (aR l)):HI B ρ F w (aR l'):=by
 have hex: ∀b ob',aR l' b=some (some ob')→ ∃ob,aR l b=some (some ob)∧KI (some ob) (some ob'):=fun b ob' hb=>by
  obtain⟨x,hx,hle⟩:=(h.get b).1 _ hb
  cases x with
  |none=>exact hle.elim
  |some x=>exact⟨x,hx,hle⟩
 obtain⟨ft,hi⟩:=hi
 refine⟨ft,fun b ob hb=> ?_,fun b ob k hb=> ?_,fun b1 b2 o1 o2 k h1 h2=> ?_,fun b hb=>hi.fresh b ((h.get b).2 hb),hi.gl⟩
 ·obtain⟨x,hx,hle⟩:=hex b ob hb;exact hle _ _ _ _ _ (hi.obj b x hx)
 ·obtain⟨x,hx,_⟩:=hex b ob hb;exact hi.blk b x k hx
 ·obtain⟨x,hx,_⟩:=hex b1 o1 h1
  obtain⟨y,hy,_⟩:=hex b2 o2 h2
  exact hi.dis b1 b2 x y k hx hy
theorem Conc.le {B:Base} {N:Nat} {L:List Nat} {st st':St} {a:Act} {w:World} (h:Vl st st') (hc:Conc B N L st a w):Conc B N L st' a w:=by
 obtain⟨⟨ρ,F,hfr,hhi,hs,dn⟩,hid,sz⟩:=hc
 refine⟨⟨ρ,F,hfr,hhi.le h.hp,fun t tv' ht=> ?_,dn⟩,hid,sz⟩
 obtain⟨tv,h1,h2⟩:=h.sl.get ht
 obtain⟨v,hv,hr⟩:=hs t tv h1
 exact⟨v,hv,h2 _ _ _ _ hr⟩
section
variable {rd:Option Nat} {P:Program} {B:Base} {N:Nat} {L:List Nat} {T:List (Nat × TI)} {Q:Exit→St→Prop} {st st':St}
def O0 (T:List (Nat × TI)) (st:St):ResultVar→Option (List Prop × SV)
 | .tmp t=>match get st.slots t with|some (.v s)=>some ([],s)|_=>none
 | .cell a t=>match get st.slots a,get T t with
  |some tv,some ti=>match Am ti tv ((foot .none 0 (.load t (.tmp a)) [tv]).map (aR st.heap))with
   |some ⟨cs, .v s,_⟩=>some (cs,s)
   |_=>none
  |_,_=>none
def Hf (T:List (Nat × TI)) (st:St):List ResultVar→Option (List Prop × List SV)
 |[]=>some ([],[])
 |r::rs=>match O0 T st r,Hf T st rs with
  |some (p,s),some (q,l)=>some (p++q,s::l)
  |_,_=>none
def Io:List SV→TV
 |[s]=> .v s
 |l=> .dX l
def Cw (T:List (Nat × TI)) (rs:List ResultVar) (res:TV) (hout:List (Nat × Option Ob)) (e:Exit) (st:St):Prop:=
 (e= .normal∨e= .ret)∧(∃p l,Hf T st rs=some (p,l)∧All p∧BB (Io l) res)∧nY st.heap hout
theorem Cw.mk {rs:List ResultVar} {res:TV} {hout:List (Nat × Option Ob)} {e:Exit} {p:List Prop} {l:List SV} (he:e= .normal∨e= .ret) (h1:Hf T st rs=some (p,l)) (h2:All p) (h3:BB (Io l) res) (h4:nY st.heap hout):
  Cw T rs res hout e st:=⟨he,⟨p,l,h1,h2,h3⟩,h4⟩
def Oi (tmps:Array Value):ResultVar→Sem Value
 | .tmp t=>pure (tmps.getD t undef)
 | .cell a t=>do loadVar t (←asAddr (tmps.getD a undef))
theorem zS (fn:Func) (tmps:Array Value):results fn tmps=(do
  let vs←fn.results.mapM (Oi tmps)
  pure (if h:vs.size=1 then vs[0]else .tuple vs):Sem Value):=rfl
theorem PX (hT:lY P T) {ρ:Nat→Option Pl} {F:Nat→Prop} {w:World} {a:Act} (hi:HI B ρ F w (aR st.heap)) (hs: ∀t tv,get st.slots t=some tv→ ∃v,a.tmps[t]? =some v∧bB ρ F w tv v) {r:ResultVar} {p:List Prop} {s:SV}
  (h:O0 T st r=some (p,s)) (hp:All p): ∃v,(Oi a.tmps r).run P w= .ok v w∧fM ρ F w s v:=by
 cases r with
 |tmp t=>
  simp only [O0]at h
  split at h
  ·rename_i s' hg
   cases h
   obtain⟨v,hv,hr⟩:=hs t _ hg
   exact⟨v,by simp [Oi,hv],hr⟩
  ·cases h
 |cell x t=>
  simp only [O0]at h
  split at h
  ·rename_i tv ti hg hti
   split at h
   ·rename_i cs s' hd he
    cases h
    obtain⟨v,hv,hr⟩:=hs x _ hg
    obtain⟨_,ad,u,e1,e2,e3⟩:=Ja (x:= .tmp x) (hT.get hti) he hp rfl hi hr
    exact⟨u,by simp [Oi,hv,e1,asAddr,e2],e3⟩
   ·cases h
  ·cases h
theorem DX (hT:lY P T) {ρ:Nat→Option Pl} {F:Nat→Prop} {w:World} {a:Act} (hi:HI B ρ F w (aR st.heap)) (hs: ∀t tv,get st.slots t=some tv→ ∃v,a.tmps[t]? =some v∧bB ρ F w tv v): ∀{rs:List ResultVar} {p:List Prop} {l:List SV},
  Hf T st rs=some (p,l)→All p→ ∃vs,(rs.mapM (Oi a.tmps)).run P w= .ok vs w∧dN ρ F w l vs
 |[],p,l,h,_=>by simp [Hf]at h;obtain⟨rfl,rfl⟩:=h;exact⟨[],by simp,trivial⟩
 |r::rs,p,l,h,hp=>by
  simp only [Hf]at h
  split at h
  ·rename_i p1 s q l1 h1 h2
   cases h
   rw [aZ]at hp
   obtain⟨v,e1,e2⟩:=PX hT hi hs h1 hp.1
   obtain⟨vs,e3,e4⟩:=DX hT hi hs h2 hp.2
   refine⟨v::vs, ?_,e2,e4⟩
   rw [List.mapM_cons]
   simp only [Sem.run_bind,Sem.run_pure,e1,e3,Result.andThen_ok]
  ·cases h
theorem dN.length {ρ:Nat→Option Pl} {F:Nat→Prop} {w:World}: ∀{cs:List SV} {vs:List Value},dN ρ F w cs vs→vs.length=cs.length
 |[],[],_=>rfl
 |_::_,_::_,⟨_,t⟩=>by simp [dN.length t]
 |[],_::_,h=>h.elim
 |_::_,[],h=>h.elim
def slotsOf:Nat→List SV→List (Nat × TV)
 |_,[]=>[]
 |i,s::l=>(i, .v s)::slotsOf (i+1) l
theorem rU {ρ:Nat→Option Pl} {F:Nat→Prop} {w:World}: ∀{args:List SV} {vs:List Value} {i:Nat},dN ρ F w args vs→ ∀t tv,get (slotsOf i args) t=some tv→i≤t∧ ∃v,vs[t - i]? =some v∧bB ρ F w tv v
 |[],_,_,_,t,tv,h=>by simp [slotsOf,get]at h
 |s::args,v::vs,i,⟨h1,h2⟩,t,tv,h=>by
  simp only [slotsOf]at h
  rw [aC]at h
  split at h
  ·rename_i e;cases h;subst e;exact⟨Nat.le_refl _,v,by simp,h1⟩
  ·obtain⟨e1,u,e2,e3⟩:=rU h2 t tv h
   exact⟨by omega,u,by rw [show t - i=(t - (i+1))+1 by omega];simpa using e2,e3⟩
 |_::_,[],_,h,_,_,_=>h.elim
theorem bJ.shrink {F F':Nat→Prop} {w:World} (hF: ∀k,F k→(∃c E f,w.heap[k]? =some (.cells c E f))→F' k): ∀{x:DV} {v:Value},bJ F w x v→bJ F' w x v:=by
 have cellk: ∀{k off:Nat} {s:Option Nat} {u:Value},w.cell? ⟨k,off,s⟩=some u→ ∃c E f,w.heap[k]? =some (.cells c E f):=fun{k off s u} hu=>by
  simp only [World.cell?]at hu
  split at hu
  ·rename_i c E f hk;exact⟨c,E,f,hk⟩
  ·cases hu
 intro x
 induction x with
 |int=>intro v h;exact h
 |bool=>intro v h;exact h
 |str=>intro v h;exact h
 |nilp=>intro v h;exact h
 |nilf=>intro v h;exact h
 |nilm=>intro v h;exact h
 |sl nn esz len el ih=>
  intro v h
  obtain⟨a,cap,hv,h1,h2,h3,h3b,h4⟩:=h
  refine⟨a,cap,hv,h1,h2,h3,h3b,fun ad ha=> ⟨(h4 ad ha).1,fun i hi j hj=> ?_⟩⟩
  obtain⟨hf,u,hu,hr⟩:=(h4 ad ha).2 i hi j hj
  exact⟨hF _ hf (cellk hu),u,hu,ih i j hr⟩
 |ip n c ih=>
  intro v h
  obtain⟨ad,hv,h1,h2⟩:=h
  refine⟨ad,hv,h1,fun j hj=> ?_⟩
  obtain⟨hf,u,hu,hr⟩:=h2 j hj
  exact⟨hF _ hf (cellk hu),u,hu,ih j hr⟩
 |fn f n cap ih=>
  intro v h
  obtain⟨vs,hv,h1,h2⟩:=h
  exact⟨vs,hv,h1,fun j u hu=>ih j (h2 j u hu)⟩
section
variable {ρ:Nat→Option Pl} {F F':Nat→Prop} {w:World} (hD: ∀x v,bJ F w x v→bJ F' w x v)
include hD
theorem dH.conv: ∀{c:CV} {v:Value},dH ρ F w c v→dH ρ F' w c v:=by
 intro c
 induction c with
 |d x=>intro v h;exact hD _ _ h
 |ptr b off=>intro v h;exact h
 |opt b esz i off=>intro v h;exact h
 |own b nn len=>intro v h;exact h
 |mp b=>intro v h;exact h
 |yl b=>intro v h;exact h
 |fn f nf n cap ih=>intro v h;obtain⟨vs,e,hl,h⟩:=h;exact⟨vs,e,hl,fun j u hu=>ih j (h j u hu)⟩
theorem bR.conv: ∀{cs:List CV} {vs:List Value},bR ρ F w cs vs→bR ρ F' w cs vs
 |[],[],h=>h
 |_::_,_::_,⟨h,t⟩=> ⟨h.conv hD,bR.conv t⟩
 |[],_::_,h=>h.elim
 |_::_,[],h=>h.elim
theorem fM.conv: ∀{s:SV} {v:Value},fM ρ F w s v→fM ρ F' w s v
 | .one _,_,h=>dH.conv hD h
 | .agg _,_,⟨vs,e,h⟩=> ⟨vs,e,h.conv hD⟩
theorem dN.conv: ∀{cs:List SV} {vs:List Value},dN ρ F w cs vs→dN ρ F' w cs vs
 |[],[],h=>h
 |_::_,_::_,⟨h,t⟩=> ⟨h.conv hD,dN.conv t⟩
 |[],_::_,h=>h.elim
 |_::_,[],h=>h.elim
theorem bB.conv: ∀{s:TV} {v:Value},bB ρ F w s v→bB ρ F' w s v
 | .v _,_,h=>fM.conv hD h
 | .dX _,_,⟨vs,e,h⟩=> ⟨vs,e,h.conv hD⟩
theorem qE.conv {k base cap E esz len:Nat} {el:Nat→Nat→DV} (h:qE F w k base cap E esz len el):qE F' w k base cap E esz len el:=by
 obtain⟨vs,h1,h2,h3,h4,h5⟩:=h
 exact⟨vs,h1,h2,h3,h4,fun i hi j hj=>by obtain⟨u,hu,hr⟩:=h5 i hi j hj;exact⟨u,hu,hD _ _ hr⟩⟩
theorem gG.conv {S:Nat→Prop} {rb:Option Nat}: ∀{x:EV} {v:Value},gG F w S rb x v→gG F' w S rb x v
 | .d _,_,h=>hD _ _ h
 | .row _ _ _ _,_, .inl h=> .inl h
 | .row _ _ _ _,_, .inr ⟨k,base,cap,h1,h2,h3,h4⟩=> .inr ⟨k,base,cap,h1,h2,h3,h4.conv hD⟩
theorem gT.conv {S:Nat→Prop} {b:Nat} (hF: ∀k,F k→(∃c E f,w.heap[k]? =some (.cells c E f))→F' k): ∀{ob:Ob},gT ρ F w S b ob→gT ρ F' w S b ob
 | .cells _ _,⟨k,cap,vs,h1,h0,h2,h3⟩=> ⟨k,cap,vs,h1,h0,h2,h3.conv hD⟩
 | .fcells _ _,⟨k,base,cap,h1,h2⟩=> ⟨k,base,cap,h1,fun j x hx=>by
   obtain⟨hf,u,hu,hr⟩:=h2 j x hx
   refine⟨hF _ hf ?_,u,hu,hD _ _ hr⟩
   simp only [World.cell?]at hu
   split at hu
   ·rename_i c E f hk;exact⟨c,E,f,hk⟩
   ·cases hu⟩
 | .frow _ _ _ _ _,⟨k,base,cap,h1,h0,h2⟩=> ⟨k,base,cap,h1,h0,fun i hi j hj=>by
   obtain⟨hf,u,hu,hr⟩:=h2 i hi j hj
   refine⟨hF _ hf ?_,u,hu,hD _ _ hr⟩
   simp only [World.cell?]at hu
   split at hu
   ·rename_i c E f hk;exact⟨c,E,f,hk⟩
   ·cases hu⟩
 | .arr _ _ _ _, .inl h=> .inl h
 | .arr _ _ _ _, .inr ⟨k,base,cap,h1,h0,h2⟩=> .inr ⟨k,base,cap,h1,h0,h2.conv hD⟩
 | .rows _ _ _ _ _, .inl h=> .inl h
 | .rows _ _ _ _ ov, .inr ⟨k,base,cap,vs,rb,h1,h0,h2,h3,h4,h5,h6,h7⟩=> .inr ⟨k,base,cap,vs,rb,h1,h0,h2,h3,h4,h5,fun i hi j hj=>by
   obtain⟨u,hu,hr⟩:=h6 i hi j hj
   refine⟨u,hu, ?_⟩
   unfold yM at hr ⊢
   cases ov with
   |none=>exact gG.conv hD hr
   |some p=>
    obtain⟨i0,j0,c⟩:=p
    simp only at hr ⊢
    split
    ·rename_i e;rw [if_pos e]at hr;exact hr.conv hD
    ·rename_i e;rw [if_neg e]at hr;exact gG.conv hD hr,h7⟩
 | .map m,⟨k,base,cap,es,h1,h0,h2,h3,h5,h4⟩=> ⟨k,base,cap,es,h1,h0,h2,h3,h5,fun i hi=>by
   obtain⟨e,e1,e2,⟨s3,e3,e3'⟩,⟨s4,e4,e4'⟩⟩:=h4 i hi
   exact⟨e,e1,e2,⟨s3,e3,e3'.conv hD⟩,s4,e4,e4'.conv hD⟩⟩
 | .loop _ _ _,⟨k,base,cap,fn,tmps,D,h1,h0,h2,h3,h4,h5⟩=> ⟨k,base,cap,fn,tmps,D,h1,h0,h2,h3,h4,fun t tv ht=>by
   obtain⟨v,e1,e2⟩:=h5 t tv ht
   exact⟨v,e1,e2.conv hD⟩⟩
 | .gm _ _ _ _ ov,⟨k,base,cap,es,rb,h1,h0,h2,h3,h4,h5⟩=> ⟨k,base,cap,es,rb,h1,h0,h2,h3,fun i hi=>by
   obtain⟨e,e1,e2,e3,hr⟩:=h4 i hi
   refine⟨e,e1,e2,e3, ?_⟩
   unfold xW at hr ⊢
   cases ov with
   |none=>exact gG.conv hD hr
   |some p=>
    obtain⟨n,c⟩:=p
    simp only at hr ⊢
    split
    ·rename_i e;rw [if_pos e]at hr;exact hr.conv hD
    ·rename_i e;rw [if_neg e]at hr;exact gG.conv hD hr,h5⟩
 | .coll,⟨k,base,cap,h1,h0,h2⟩=> ⟨k,base,cap,h1,h0,h2⟩
 | .suf _ _ _,h=>h
end
structure Known (B:Base) (st:St) (tmps:Array Value) (F:Nat→Prop) (ρ:Nat→Option Pl) (w:World) (ds:List Deferred):Prop where
 fr:Fr B ρ F w
 hi:HI B ρ F w (aR st.heap)
 sl: ∀t tv,get st.slots t=some tv→ ∃v,tmps[t]? =some v∧bB ρ F w tv v
 marks:Marks B F w ds
 mb:B.mb=B.w.heap.size
 bF: ∀k,B.F k→k<B.w.heap.size
 df:B.df=[]
theorem uT {st:St} {tmps:Array Value} {F:Nat→Prop} {ρ:Nat→Option Pl} {w:World} {ds:List Deferred} {d:Deferred} (hk:Known B st tmps F ρ w (d::ds)):
  ∃D w' F',d.target= .collected D∧(Instr.takeDeferred D).run P w= .ok [] w'∧Known B st tmps F' ρ w' ds:=by
 obtain⟨fr,⟨ft,hi⟩,sl,⟨hd0,Ds,hds,hnd,hD⟩,hmk,hbF,hdf⟩:=hk
 rw [hmk]at hD
 cases Ds with
 |nil=>rw [hdf]at hds;simp at hds
 |cons D Ds=>
  simp at hds
  obtain⟨rfl,rfl⟩:=hds
  obtain⟨x1,x2,x3⟩:=hD D (by simp)
  have hlt:D<w.heap.size:=(fr.fz D x1).1
  rw [List.nodup_cons]at hnd
  let F0:Nat→Prop:=fun k=>F k∧k≠D
  have hF0: ∀k,F k→(∃c E f,w.heap[k]? =some (.cells c E f))→F0 k:=fun k hk ⟨c,E,f,hc⟩=> ⟨hk,fun e=>by rw [e,x3]at hc;cases hc⟩
  have hsh: ∀x v,bJ F w x v→bJ F0 w x v:=fun x v h=>h.shrink hF0
  let w':World:={w with heap:=w.heap.setIfInBounds D (.deferred none)}
  have hold: ∀k,k≠D→w'.heap[k]? =w.heap[k]? :=fun k hk=>by simp [w',Array.getElem?_setIfInBounds,Ne.symm hk]
  have g:Gr ρ F0 w ρ F0 w':=⟨fun _ _ h=>h,fun _ h=>h,fun k hk=>hold k hk.2⟩
  refine⟨D,w',F0,rfl, ?_,⟨⟨fr.os,fr.tape,fr.output,by simp [w'];exact fr.size,fun k hk hn=>(hold k (by omega)).trans (fr.mem k hk hn),fr.rho,fun k hk=> ⟨by simp [w'];exact(fr.fz k hk.1).1,(fr.fz k hk.1).2⟩,fun k hk=> ⟨fr.bf k hk,fun e=> ?_⟩⟩,
   ⟨ft,fun b ob hb=> ?_,fun b ob k hb hf=> ?_,hi.dis,hi.fresh,GL.gr g fun x hx=> ⟨hF0 _ (hi.gl x hx).1 (by obtain⟨E,fz,e⟩:=(hi.gl x hx).2;exact⟨_,E,fz,e⟩),(hi.gl x hx).2⟩⟩,fun t tv ht=> ?_,⟨hd0,Ds,rfl,hnd.2,fun E hE=> ?_⟩,hmk,hbF,hdf⟩⟩
  ·have hg:(getObj D).run P w= .ok (.deferred (some [])) w:=by simp [getObj,Sem.run,x3]
   have hs:(setObj D (.deferred none)).run P w= .ok () w':=by simp only [setObj,Sem.run,x3];rfl
   simp only [Instr.takeDeferred,Sem.run_bind,hg,Result.andThen_ok,hs,Sem.run_pure]
  ·have:=hbF k hk;omega
  ·have:=(hi.obj b ob hb).conv hsh hF0
   refine this.keep g (fun _ h=>h) fun k hk=>hold k fun e=> ?_
   exact(hi.blk b ob k hb hk).2.1 (e ▸ x1)
  ·obtain⟨y1,y2,y3⟩:=hi.blk b ob k hb hf
   exact⟨by simp [w'];exact y1,fun h=>y2 h.1,y3⟩
  ·obtain⟨v,hv,hr⟩:=sl t tv ht
   exact⟨v,hv,(hr.conv hsh).gr g⟩
  ·obtain⟨y1,y2,y3⟩:=hD E (by simp [hE])
   have hne:E≠D:=fun e=>hnd.1 (e ▸ hE)
   exact⟨⟨y1,hne⟩,by rw [hmk];exact y2,(hold E hne).trans y3⟩
theorem Oc (hT:lY P T) {f:Nat} {fn:Func} {c:Code} {args:List SV} {hin hout:List (Nat × Option Ob)} {res:TV} (hf:P.funcs[f]? =some fn) (hb:fn.body=some c) (hn:(fn.name== "runtime.NumGoroutine")=false)
  (h: ∀B,lC none P B (args.length+(fn.ntmps - args.length)) (hin.map (·.1)) c (Cw T fn.results.toList res hout) ⟨slotsOf 0 args,hin⟩):Fn P f args hin res hout:=by
 refine⟨⟨fn,hf,hn,by rw [hb];rfl⟩,fun B0 vs hF hi hr=> ?_⟩
 have hl:=hr.length
 obtain⟨B,hBe⟩: ∃B,B=B0.up:=⟨_,rfl⟩
 have hF: ∀k,B.F k→k<B.w.heap.size:=by rw [hBe];exact hF
 have hi:HI B B.ρ B.F B.w (aR hin):=by rw [hBe];exact hi.up
 have hr:dN B.ρ B.F B.w args vs:=by rw [hBe];exact hr
 have hmk:B.mb=B.w.heap.size:=by rw [hBe];rfl
 have dnF: ∀{ρ F w},Fr B ρ F w→Fr B0 ρ F w:=by rw [hBe];exact Fr.dn
 have dnH: ∀{ρ F w h},HI B ρ F w h→HI B0 ρ F w h:=by rw [hBe];exact HI.dn
 rw [show B0.w=B.w by rw [hBe];rfl]
 refine callsIn_wide.1 (callsIn_of_wp_marks (F:=Fence.wide) (n:=0) hf hb trivial (wpIn_mono (h B _ _ ⟨⟨B.ρ,B.F,⟨rfl,rfl, .refl _,Nat.le_refl _,fun _ _ _=>rfl,fun _ _ h=>h,fun k hk=> ⟨hF k hk, .inl hk⟩,fun _ h=>h⟩,hi,fun t tv ht=> ?_,Marks.none (Nat.le_of_eq hmk) (by rw [hBe];rfl)⟩,fun b p hbp=> ?_, ?_⟩) ?_))
 ·obtain⟨_,v,hv,hr'⟩:=rU hr t tv ht
  refine⟨v, ?_,hr'⟩
  rw [Nat.sub_zero]at hv
  have hlt:t<vs.length:=by
   rcases Nat.lt_or_ge t vs.length with h|h
   ·exact h
   ·rw [List.getElem?_eq_none h]at hv;cases hv
  rw [Array.getElem?_append_left (by simpa using hlt)]
  simpa using hv
 ·apply Classical.byContradiction
  intro hnm
  have:=hi.fresh b (bQ hnm)
  rw [this]at hbp;cases hbp
 ·simp [hl]
 ·rintro e a' w' ⟨st',⟨he,⟨p,l,h1,h2,h3⟩,h4⟩,hc⟩
  obtain⟨⟨ρ',F',hfr,hhi,hs,dn⟩,_,_⟩:=hc
  have key: ∀(ds:List Deferred) (F:Nat→Prop) (w:World),Known B st' a'.tmps F ρ' w ds→LeavesInM Fence.wide 0 P fn a'.tmps (fun e w'=> ∃v ρ' F',e= .returned v∧Fr B0 ρ' F' w'∧HI B0 ρ' F' w' (aR hout)∧bB ρ' F' w' res v) ds .returning w:=by
   intro ds
   induction ds with
   |nil=>
    intro F w hk
    obtain⟨us,g1,g2⟩:=DX hT hk.hi hk.sl h1 h2
    have hres: ∃v,(results fn a'.tmps).run P w= .ok v w∧bB ρ' F w (Io l) v:=by
     refine⟨if h:us.length=1 then us[0]else .tuple us.toArray, ?_, ?_⟩
     ·rw [zS,Sem.run_bind,Array.mapM_eq_mapM_toList,Sem.run_map,g1]
      simp
     ·have hlen:=g2.length
      match l,us,g2,hlen with
      |[],[],_,_=>exact⟨[],rfl,trivial⟩
      |[s],[u],g2,_=>exact g2.1
      |s1::s2::l,u1::u2::us,g2,_=>exact⟨u1::u2::us,by simp,g2⟩
    obtain⟨v,hv,hr⟩:=hres
    exact⟨v,hv,v,ρ',F,rfl,dnF hk.fr,dnH (hk.hi.le h4),h3 _ _ _ _ hr⟩
   |cons d ds ih=>
    intro F w hk
    obtain⟨D,w2,F2,x1,x2,x3⟩:=uT (P:=P) hk
    exact⟨by simp, .inl ⟨D,w2,x1,x2,ih F2 w2 x3⟩⟩
  rcases he with rfl|rfl
  ·exact key a'.defers F' w' ⟨hfr,hhi,hs,dn,hmk,hF,by rw [hBe];rfl⟩
  ·exact key a'.defers F' w' ⟨hfr,hhi,hs,dn,hmk,hF,by rw [hBe];rfl⟩
end
def at' {α:Type} [Inhabited α] (l:List α) (i:Nat):α:=l.getD i default
def aB {α:Type} [Inhabited α] (c:α→Nat→DV) (l:List α):Nat→Nat→DV:=fun i j=>c (at' l i) j
def aA {α:Type} [Inhabited α] (nn:Option Bool) (esz:Nat) (c:α→Nat→DV) (l:List α):DV:= .sl nn esz l.length (aB c l)
def bX {α:Type} [Inhabited α] (E esz:Nat) (c:α→Nat→DV) (l:List α):Ob:= .arr E esz l.length (aB c l)
def aT (k:IntKind) (n:Int) (_:Nat):DV:= .int k n
def af (b:Bool) (_:Nat):DV:= .bool b
def QO {α:Type} [Inhabited α] (esz:Nat) (c:α→Nat→DV) (l:List α) (_:Nat):DV:=aA none esz c l
def wC (ds:List DV) (off:Nat):DV:= .ip (ds.length - off) fun j=>ds.getD (off+j) .nilp
def Y3 (l:List (Nat × Bool)) (j:Nat):Bool:=match get l j with|some b=>b|none=>false
def Yp (l:List (Nat × lZ)) (j:Nat):lZ:=match get l j with|some b=>b|none=> .none
def Px (l:List (Nat × Nat)) (j:Nat):Nat:=match get l j with|some b=>b|none=>0
def bg {α:Type} (c:Prop) [Decidable c] (k:Option α):Option α:=if c then k else none
theorem Oz {α:Type} {c:Prop} [Decidable c] {k:Option α} {r:α} (h:bg c k=some r) {G:Prop} (f:c→k=some r→G):G:=by
 unfold bg at h
 split at h
 ·rename_i hc;exact f hc h
 ·cases h
theorem aF {α:Type} {c:Prop} [Decidable c] (hc:c) (k:Option α):bg c k=k:=if_pos hc
theorem SG {α:Type} {c:Bool} {m d:Option α} {y:α} (h:(bif c then m else d)=some y) (hc:c=true):m=some y:=by rw [hc]at h;exact h
inductive dz (σ ρ:Type) where
 |next (s:σ)
 |done (r:ρ)
inductive Ex (β ρ:Type) where
 |brk (b:β)
 |ret (r:ρ)
def aV {σ ρ:Type} (body:σ→Option (dz σ ρ)):Nat→σ→Option ρ
 |0,_=>none
 |n+1,s=>match body s with
  |none=>none
  |some (.next s')=>aV body n s'
  |some (.done r)=>some r
def FUEL:Nat:=1180591620717411303424
theorem bS {σ ρ:Type} (body:σ→Option (dz σ ρ)) (n:Nat) (s:σ):aV body (n+1) s=match body s with|none=>none|some (.next s')=>aV body n s'|some (.done r)=>some r:=rfl
section
variable {rd:Option Nat} {P:Program} {B:Base} {N:Nat} {L:List Nat} {T:List (Nat × TI)} {Q:Exit→St→Prop} {st st':St}
theorem MN {σ ρ:Type} {c:Code} (S:σ→St) (R:ρ→Exit→St→Prop) {body:σ→Option (dz σ ρ)} {n:Nat} {s:σ} {r:ρ} (h:aV body n s=some r)
  (hb: ∀s f,body s=some f→lC rd P B N L c (fun e st'=>match f with| .next s'=>e= .normal∧st'=S s'| .done r=>e≠ .normal∧R r e st') (S s)):lC rd P B N L (.loop c) (R r) (S s):=by
 refine OE (fun(x:σ × Nat)=>S x.1) (fun x=>aV body x.2 x.1=some r) (fun x=>x.2) (s,n) h fun x hx=> ?_
 obtain⟨s,n⟩:=x
 cases n with
 |zero=>cases hx
 |succ n=>
  simp only [bS]at hx
  cases hbs:body s with
  |none=>rw [hbs]at hx;cases hx
  |some f=>
   rw [hbs]at hx
   refine eP (hb s f hbs) fun e st' hq=> ?_
   cases f with
   |next s'=>
    obtain⟨rfl,rfl⟩:=hq
    exact⟨(s',n),rfl,hx,by simp⟩
   |done r'=>
    obtain⟨hne,hR⟩:=hq
    simp only [Option.some.injEq]at hx
    subst hx
    cases e with
    |normal=>exact absurd rfl hne
    |exit id=>exact hR
    |goto l=>exact hR
    |ret=>exact hR
    |panic c=>exact hR
    |outgrown=>exact hR
theorem OV {x y:Code} (R:Exit→St→Prop) (h1:lC rd P B N L x R st) (h2: ∀e st',R e st'→match e with| .normal=>lC rd P B N L y Q st'|e=>Q e st'):lC rd P B N L (.seq x y) Q st:=
 Aw (eP h1 h2)
end
section
variable {α:Type} [Inhabited α]
theorem vW {l m:List α} {i:Nat} (h:i<l.length):at' (l++m) i=at' l i:=by
 simp [at',List.getD_eq_getElem?_getD,List.getElem?_append_left h]
theorem uJ {l m:List α} {i:Nat} (h:l.length≤i):at' (l++m) i=at' m (i - l.length):=by
 simp [at',List.getD_eq_getElem?_getD,List.getElem?_append_right h]
theorem bH {l:List α} {i:Nat} {x:α} (h:i<l.length):at' (l.set i x) i=x:=by
 simp [at',List.getD_eq_getElem?_getD,h]
theorem bV {l:List α} {i j:Nat} {x:α} (h:i≠j):at' (l.set i x) j=at' l j:=by
 simp [at',List.getD_eq_getElem?_getD,List.getElem?_set_ne h]
theorem zw {n i:Nat} {x:α} (h:i<n):at' (List.replicate n x) i=x:=by
 simp [at',List.getD_eq_getElem?_getD,h]
theorem dm (c:α→Nat→DV) (l m:List α) (esz:Nat):aQ (l.length+m.length) esz (lu (aB c l) l.length (aB c m)) (aB c (l++m)):=by
 intro i hi j hj
 unfold lu aB
 split
 ·rename_i h;rw [vW h]
 ·rename_i h;rw [uJ (by omega)]
theorem NV (c:α→Nat→DV) (l:List α) (esz i off:Nat) (ds:List DV) (x:α) (h: ∀j,j<esz→c x j=if off≤j∧j<off+ds.length then ds.getD (j - off) .nilp else c (at' l i) j):aQ l.length esz (qX (aB c l) i off ds) (aB c (l.set i x)):=by
 intro i' hi' j hj
 unfold qX aB
 by_cases e:i'=i
 ·subst e
  rw [bH hi',h j hj]
  by_cases e2:off≤j∧j<off+ds.length<;>simp [e2]
 ·rw [bV (Ne.symm e),if_neg (fun hh=>e hh.1)]
theorem dG (c:α→Nat→DV) (l:List α) (n esz i off:Nat) (ds:List DV) (x:α) (hn:n=l.length) (h: ∀j,j<esz→c x j=if off≤j∧j<off+ds.length then ds.getD (j - off) .nilp else c (at' l i) j):aQ n esz (qX (aB c l) i off ds) (aB c (l.set i x)):=hn ▸ NV c l esz i off ds x h
theorem l8 (c:α→Nat→DV) (n esz:Nat) (z:List DV) (x:α) (h: ∀j,j<esz→z.getD j .nilp=c x j):aQ n esz (fun _ j=>z.getD j .nilp) (aB c (List.replicate n x)):=by
 intro i hi j hj
 unfold aB
 show z.getD j .nilp=_
 rw [zw hi,h j hj]
theorem vJ (n esz:Nat) (f:Nat→Nat→DV):aQ n esz f f:=fun _ _ _ _=>rfl
end
def gB:List (Bool × Bool)→Bool
 |[]=>true
 |(b,w)::l=>(b==w) && gB l
theorem SH {yb:Nat→Bool}: ∀{g:List (Nat × Bool)},gP yb g→gB (g.map fun p=>(yb p.1,p.2))=true
 |[],_=>rfl
 |(j,w)::g,⟨h1,h2⟩=>by simp [gB,h1,SH h2]
def vD (x:DV):TV:= .v (.one (.d x))
def vI (n:Int):TV:= .v (.one (.d (.int .i64 n)))
def vB (b:Bool):TV:= .v (.one (.d (.bool b)))
def vP (b off:Nat):TV:= .v (.one (.ptr b off))
def vO (b:Nat) (nn:Bool) (len:Nat):TV:= .v (.one (.own b nn len))
def sD (x:DV):SV:= .one (.d x)
def sI (n:Int):SV:= .one (.d (.int .i64 n))
def sB (b:Bool):SV:= .one (.d (.bool b))
def cI (n:Int):CV:= .d (.int .i64 n)
def cB (b:Bool):CV:= .d (.bool b)
theorem wS.nil' {nn:Option Bool} {esz esz':Nat} {f g:Nat→Nat→DV}:wS (.sl nn esz 0 f) (.sl none esz' 0 g):=by
 rintro F w v ⟨a,cap,hv,h1,h2,h3,h4,h5⟩
 exact⟨a,cap,hv,by simp,by simp,h3,h4,fun ad ha=> ⟨(h5 ad ha).1,fun i hi=>by omega⟩⟩
theorem wS.Cf {nn:Option Bool} {esz len:Nat} {f:Nat→Nat→DV}:wS (.sl nn esz len f) (.sl none esz len f):= .sl (.inl rfl) fun _ _ _ _=> .refl _
theorem wS.Y6 {n m:Nat} {c d:Nat→DV} (hm:m≤n) (h: ∀j,j<m→wS (c j) (d j)):wS (.ip n c) (.ip m d):=by
 rintro F w v ⟨ad,hv,h1,h2⟩
 refine⟨ad,hv,h1,fun j hj=> ?_⟩
 obtain⟨hf,u,hu,hr⟩:=h2 j (by omega)
 exact⟨hf,u,hu,h j hj F w u hr⟩
theorem Fn.le {P:Program} {f:Nat} {args args':List SV} {hin hout:List (Nat × Option Ob)} {res:TV} (h:Fn P f args hin res hout) (hl:EU args' args):Fn P f args' hin res hout:=
 ⟨h.1,fun B vs hF hi hr=>h.2 B vs hF hi (hl.NZ hr)⟩
section
variable {rd:Option Nat} {P:Program} {B:Base} {N:Nat} {L:List Nat} {Q:Exit→St→Prop} {st st':St}
end
def zl (i:TypeInfo):List Value:=match i.zero with|some v=>v.cells.toList|none=>[]
theorem fD {P:Program} {t:TypeId}:(false=true→P.stoodInHeld t=false∧P.eqGuardType P.depth t=false):=fun h=>Bool.noConfusion h
theorem dQ {P:Program} {t:TypeId} {i:TypeInfo} {d:TypeDesc} (hu:P.underlying t=some d) (hi:P.info? t=some i) (hz:i.zero.isSome=true) {e:Bool}:eH P t ⟨d,i.size,i.bytes,zl i,e⟩:=by
 obtain⟨z,hz'⟩:=Option.isSome_iff_exists.1 hz
 exact⟨hu,i,z,hi,rfl,rfl,hz',by simp [zl,hz']⟩
theorem bK {P:Program} {t:TypeId} {agg:Bool} (h:(match P.info? t with|some i=>(match i.zero with|some z=>EP agg z|none=>true)|none=>true)=true):XK P t agg:=by
 intro i z hi hz
 rw [hi]at h
 simp only [hz]at h
 exact h
section
variable {rd:Option Nat} {P:Program} {B:Base} {N:Nat} {L:List Nat} {T:List (Nat × TI)} {Q:Exit→St→Prop} {st st' st'':St}
def j5 (B:Base) (N:Nat) (L:List Nat) (st st':St):Prop:= ∀a w,Conc B N L st a w→Conc B N L st' a w
theorem j5.refl:j5 B N L st st:=fun _ _ h=>h
theorem j5.trans (h:j5 B N L st st') (h':j5 B N L st' st''):j5 B N L st st'':=fun a w hc=>h' a w (h a w hc)
theorem j5.le (h:Vl st st'):j5 B N L st st':=fun _ _ hc=>hc.le h
theorem j5.fin (fin:Fin) (ts:List Nat) {cs:List Prop} (he:finish L fin ts [] (uL st)=some (cs,st')) (hc:All cs):j5 B N L st st':=
 fun _ _ hconc=>oM (yb:=fun _=>false) he hc (rz hconc) hconc.ids
theorem uU {c:Code} (h:j5 B N L st st') (hw:lC rd P B N L c Q st'):lC rd P B N L c Q st:=fun a w hc=>hw a w (h a w hc)
theorem kJ {c:Code} (hw:lC rd P B N L c (fun e s=> ∃s',j5 B N L s s'∧Q e s') st):lC rd P B N L c Q st:=
 fun a w hc=>wpIn_mono (hw a w hc) fun _ a' w' ⟨_,⟨s',hi,hq⟩,h2⟩=> ⟨s',hq,hi a' w' h2⟩
theorem Mk (hT:lY P T) {id:Nat} {ops:Array Oper} (st1:St) (x:zu) {cs:List Prop} (he:M0 (Bn P) T ops N L x st=some (cs,st1)) (hc:All cs) (hi:j5 B N L st1 st') (hQ:Q .normal st'):lC rd P B N L (.region id ops false) Q st:=
 kJ (Eb hT x he hc ⟨_,hi,hQ⟩)
theorem j5.Pm {t b:Nat} {esz0:Nat} {el0:Nat→Nat→DV} {ob:Ob} (hob: ∀ρ F w S,ρ b=some .nil→gT ρ F w S b ob) (ht:get st.slots t=some (.v (.one (.d (.sl (some false) esz0 0 el0))))) (hb:get st.heap b=none):
  j5 B N L st ⟨(t, .v (.one (.own b false 0)))::st.slots,(b,some ob)::st.heap⟩:=by
 intro a w hc
 obtain⟨⟨ρ,F,hfr,hhi,hs,dn⟩,hid,sz⟩:=hc
 have hρ:=hhi.fresh b hb
 have hn:=hhi.Lh hfr (b:=b) (nob:=ob) hb (hob _ _ _ _ (ay _ _))
 have g:Gr ρ F w (bE ρ b .nil) F w:=⟨aO hρ,fun _ h=>h,fun _ _=>rfl⟩
 have hhp:upd (aR st.heap) [(b,some ob)]=aR ((b,some ob)::st.heap):=by
  funext x;rw [jl];simp only [aR];rw [aC]
 rw [hhp]at hn
 refine⟨⟨bE ρ b .nil,F,{hfr with rho:=fun b' p' e=>aO hρ b' p' (hfr.rho b' p' e)},hn,fun t' tv ht'=> ?_,dn⟩,hid,sz⟩
 rw [aC]at ht'
 split at ht'
 ·rename_i e
  cases ht';subst e
  obtain⟨v,hv,hr⟩:=hs t _ ht
  obtain⟨ad,cap,e1,_,h2,h3,_⟩:=hr
  have:=h2 rfl;subst this
  obtain⟨_,rfl⟩:=h3 rfl
  exact⟨v,hv, .inr ⟨rfl,ay _ _,rfl,e1⟩⟩
 ·obtain⟨v,hv,hr⟩:=hs t' tv ht'
  exact⟨v,hv,hr.gr g⟩
theorem j5.Wn {t b E esz:Nat} {esz0:Nat} {el0 el:Nat→Nat→DV} (ht:get st.slots t=some (.v (.one (.d (.sl (some false) esz0 0 el0))))) (hb:get st.heap b=none):
  j5 B N L st ⟨(t, .v (.one (.own b false 0)))::st.slots,(b,some (.arr E esz 0 el))::st.heap⟩:=j5.Pm (fun _ _ _ _ h=> .inl ⟨h,rfl⟩) ht hb
theorem j5.UD {t b E esz:Nat} {esz0:Nat} {el0:Nat→Nat→DV} {el:Nat→Nat→EV} {ov:Option (Nat × Nat × CV)} (ht:get st.slots t=some (.v (.one (.d (.sl (some false) esz0 0 el0))))) (hb:get st.heap b=none):
  j5 B N L st ⟨(t, .v (.one (.own b false 0)))::st.slots,(b,some (.rows E esz 0 el ov))::st.heap⟩:=j5.Pm (fun _ _ _ _ h=> .inl ⟨h,rfl⟩) ht hb
theorem j5.Uc {p q b E esz:Nat} {E0:TypeId} {cs:List CV} {esz0:Nat} {el0:Nat→Nat→DV} {ob:Ob} (hob: ∀ρ F w S,ρ b=some .nil→gT ρ F w S b ob) (hp:get st.heap p=some (some (.cells E0 cs))) (hq:cs[q]? =some (.d (.sl (some false) esz0 0 el0))) (hb:get st.heap b=none):
  j5 B N L st ⟨st.slots,(p,some (.cells E0 (cs.set q (.own b false 0))))::(b,some ob)::st.heap⟩:=by
 intro a w hc
 obtain⟨⟨ρ,F,hfr,hhi,hs,dn⟩,hid,sz⟩:=hc
 have hρ:=hhi.fresh b hb
 have hn:=hhi.Lh hfr (b:=b) (nob:=ob) hb (hob _ _ _ _ (ay _ _))
 have g:Gr ρ F w (bE ρ b .nil) F w:=⟨aO hρ,fun _ h=>h,fun _ _=>rfl⟩
 have hhp:upd (aR st.heap) [(b,some ob)]=aR ((b,some ob)::st.heap):=by
  funext x;rw [jl];simp only [aR];rw [aC]
 rw [hhp]at hn
 have hpb:p≠b:=fun e=>by rw [e,hb]at hp;cases hp
 refine⟨⟨bE ρ b .nil,F,{hfr with rho:=fun b' p' e=>aO hρ b' p' (hfr.rho b' p' e)}, ?_,fun t' tv ht'=> ?_,dn⟩,hid,sz⟩
 ·obtain⟨ft,hn⟩:=hn
  have hp':aR ((b,some ob)::st.heap) p=some (some (.cells E0 cs)):=by simp only [aR];rw [aC,if_neg (Ne.symm hpb)];exact hp
  have hu: ∀x,aR ((p,some (.cells E0 (cs.set q (.own b false 0))))::(b,some ob)::st.heap) x=if p=x then some (some (.cells E0 (cs.set q (.own b false 0))))else aR ((b,some ob)::st.heap) x:=fun x=>by simp only [aR];rw [aC]
  have hex: ∀x ox,aR ((p,some (.cells E0 (cs.set q (.own b false 0))))::(b,some ob)::st.heap) x=some (some ox)→ ∃ox0,aR ((b,some ob)::st.heap) x=some (some ox0):=fun x ox hh=>by
   rw [hu]at hh;split at hh
   ·rename_i e;subst e;exact⟨_,hp'⟩
   ·exact⟨_,hh⟩
  refine⟨ft,fun x ox hh=> ?_,fun x ox k hh hf=> ?_,fun x y ox oy k h1 h2=> ?_,fun x hh=> ?_,hn.gl⟩
  ·rw [hu]at hh;split at hh
   ·rename_i e;subst e;cases hh
    obtain⟨k,cap,vs,x1,x0,x2,x3⟩:=hn.obj p _ hp'
    refine⟨k,cap,vs,x1,x0,x2,bR.nV (by rw [x3.length,List.length_set]) fun j c hj=> ?_⟩
    rw [List.getElem?_set]at hj
    split at hj
    ·rename_i e;subst e
     split at hj
     ·cases hj
      obtain⟨u,hu',hr⟩:=x3.get hq
      refine⟨u,hu', ?_⟩
      obtain⟨ad,cap',e1,_,h2,h3,_⟩:=hr
      have:=h2 rfl;subst this
      obtain⟨_,rfl⟩:=h3 rfl
      exact .inr ⟨rfl,ay _ _,rfl,e1⟩
     ·cases hj
    ·exact x3.get hj
   ·exact hn.obj x ox hh
  ·obtain⟨ox0,h0⟩:=hex x ox hh;exact hn.blk x ox0 k h0 hf
  ·obtain⟨o1,g1⟩:=hex x ox h1
   obtain⟨o2,g2⟩:=hex y oy h2
   exact hn.dis x y o1 o2 k g1 g2
  ·rw [hu]at hh;split at hh
   ·cases hh
   ·exact hn.fresh x hh
 ·obtain⟨v,hv,hr⟩:=hs t' tv ht'
  exact⟨v,hv,hr.gr g⟩
theorem j5.ob {b:Nat} {x y:Ob} (hb:get st.heap b=some (some x)) (hxy: ∀ρ F w S,gT ρ F w S b x→gT ρ F w S b y):j5 B N L st ⟨st.slots,(b,some y)::st.heap⟩:=by
 intro a w hc
 obtain⟨⟨ρ,F,hfr,⟨ft,hi⟩,hs,dn⟩,hid,sz⟩:=hc
 have hu: ∀c,aR ((b,some y)::st.heap) c=if b=c then some (some y)else aR st.heap c:=fun c=>by simp only [aR];rw [aC]
 have hex: ∀c oc,aR ((b,some y)::st.heap) c=some (some oc)→ ∃oc0,aR st.heap c=some (some oc0):=fun c oc hh=>by
  rw [hu]at hh;split at hh
  ·rename_i e;subst e;exact⟨_,hb⟩
  ·exact⟨_,hh⟩
 refine⟨⟨ρ,F,hfr,⟨ft,fun c oc hh=> ?_,fun c oc k hh hf=> ?_,fun c d oc od k h1 h2=> ?_,fun c hh=> ?_,hi.gl⟩,hs,dn⟩,hid,sz⟩
 ·rw [hu]at hh;split at hh
  ·rename_i e;subst e;cases hh;exact hxy _ _ _ _ (hi.obj b x hb)
  ·exact hi.obj c oc hh
 ·obtain⟨o0,h0⟩:=hex c oc hh;exact hi.blk c o0 k h0 hf
 ·obtain⟨o1,g1⟩:=hex c oc h1
  obtain⟨o2,g2⟩:=hex d od h2
  exact hi.dis c d o1 o2 k g1 g2
 ·rw [hu]at hh;split at hh
  ·cases hh
  ·exact hi.fresh c hh
theorem j5.Uq {b E esz len:Nat} {el:Nat→Nat→DV} {el':Nat→Nat→EV} (hb:get st.heap b=some (some (.arr E esz len el))) (h: ∀i,i<len→ ∀j,j<esz→MQ (el i j) (el' i j)):j5 B N L st ⟨st.slots,(b,some (.rows E esz len el' none))::st.heap⟩:=by
 refine j5.ob hb fun ρ F w S hr=> ?_
 rcases hr with hr|⟨k,base,cap,x1,x0,vs,x2,x3,x4,x5,x6⟩
 ·exact .inl hr
 ·refine .inr ⟨k,base,cap,vs,fun _ _=>none,x1,x0,x2,x3,x4,x5,fun i hi j hj=> ?_,(fun _ _ _ _ _ e=>by cases e),(fun _ _ e=>by cases e)⟩
  obtain⟨u,hu,hr⟩:=x6 i hi j hj
  exact⟨u,hu,(h i hi j hj).NZ hr⟩
theorem p9 {a b:Nat} (h:a≠b):Nat.beq a b=false:=by
 cases hb:Nat.beq a b with
 |true=>exact absurd (Nat.eq_of_beq_eq_true hb) h
 |false=>rfl
theorem KX {id:Nat} {c:Code} (h:lC rd P B N L c (fun e st'=>match e with| .exit id'=>bif Nat.beq id' id then Q .normal st' else Q (.exit id') st'|e=>Q e st') st):lC rd P B N L (.block id c) Q st:=by
 refine Nb (eP h fun e st' hh=> ?_)
 cases e with
 |exit id'=>
  simp only at hh ⊢
  split
  ·rename_i e;subst e;simpa using hh
  ·rename_i e;rw [show Nat.beq id' id=false from p9 e]at hh;exact hh
 |normal=>exact hh
 |goto l=>exact hh
 |ret=>exact hh
 |panic c=>exact hh
 |outgrown=>exact hh
end
theorem BO {E:TypeId} {cs ds:List CV} (h:IV cs ds):KI (some (.cells E cs)) (some (.cells E ds)):=by
 rintro ρ F w S b ⟨k,cap,vs,h1,h0,h2,h3⟩
 exact⟨k,cap,vs,h1,h0,h2,h.NZ h3⟩
def zC:Code→Exit
 | .exit id=> .exit id
 | .goto l=> .goto l
 |_=> .ret
def AL:Code→Bool
 | .ret| .exit _| .goto _=>true
 |_=>false
def NR (outs:List Code) (st:Nat) (e:Exit):Prop:=(st=0∧e= .normal)∨ ∃k c,st=k+2∧outs[k]? =some c∧AL c=true∧e=zC c
theorem NR.zero {outs:List Code} {st:Nat} (h:st=0):NR outs st .normal:= .inl ⟨h,rfl⟩
theorem NR.out {outs:List Code} {st k:Nat} {c:Code} (h:st=k+2) (hc:outs[k]? =some c) (ho:AL c=true):NR outs st (zC c):= .inr ⟨k,c,h,hc,ho,rfl⟩
theorem Wv {w:World} {k:Nat} (o:Obj):Put w (w.putObj k o) k:=⟨by simp,fun j hj=>World.putObj_heap_other hj,rfl,rfl,rfl⟩
section
variable {P:Program} {B:Base} {N:Nat} {L:List Nat} {T:List (Nat × TI)} {Q:Exit→St→Prop} {st:St}
def Rs:TV→Option (FuncId × List CV × List CV)
 | .v (.one (.d (.fn f n cap)))=>some (f,[],takeC cap 0 n)
 | .v (.one (.fn f nf n cap))=>bif Nat.ble nf n then some (f,dZ cap 0 nf,dZ cap nf (n - nf))else none
 |_=>none
theorem P6 {ρ:Nat→Option Pl} {F:Nat→Prop} {w:World} {tv:TV} {f:FuncId} {c1 c2:List CV} {v:Value} (h:Rs tv=some (f,c1,c2)) (hr:bB ρ F w tv v): ∃v1 v2:List Value,v= .func (.func f) v1.toArray v2.toArray∧bR ρ F w c1 v1∧bR ρ F w c2 v2:=by
 unfold Rs at h
 split at h
 ·rename_i g n cap
  cases h
  obtain⟨vs,hv,hn,hcap⟩:=hr
  refine⟨[],vs,hv,trivial,bR.nV (by rw [kK,hn]) fun j c hj=> ?_⟩
  obtain⟨hlt,rfl⟩:=qj cap 0 n j c hj
  have hg:=List.getElem?_eq_getElem (l:=vs) (i:=j) (by omega)
  exact⟨_,hg,by rw [Nat.zero_add];exact hcap j _ hg⟩
 ·rename_i g nf n cap
  cases hb:Nat.ble nf n with
  |false=>simp [hb]at h
  |true=>
   simp only [hb,cond_true]at h
   cases h
   have hle:=Nat.le_of_ble_eq_true hb
   obtain⟨vs,hv,hn,hcap⟩:=hr
   refine⟨vs.take nf,vs.drop nf,hv,bR.nV (by rw [mH];simp;omega) fun j c hj=> ?_,bR.nV (by rw [mH];simp;omega) fun j c hj=> ?_⟩
   ·obtain⟨hlt,rfl⟩:=uH cap 0 nf j c hj
    have hg:=List.getElem?_eq_getElem (l:=vs) (i:=j) (by omega)
    exact⟨_,by rw [List.getElem?_take,if_pos hlt];exact hg,by rw [Nat.zero_add];exact hcap j _ hg⟩
   ·obtain⟨hlt,rfl⟩:=uH cap nf (n - nf) j c hj
    have hg:=List.getElem?_eq_getElem (l:=vs) (i:=nf+j) (by omega)
    exact⟨_,by rw [List.getElem?_drop];exact hg,hcap (nf+j) _ hg⟩
 ·cases h
theorem D7: ∀(cs:List CV),jy (cs.map fun c=> .v (.one c))=some (cs.map .one)
 |[]=>rfl
 |c::cs=>by simp [jy,D7 cs]
theorem Fj {g:Operand} {gv:TV} {ps:List Nat} {assign body:Code} (lb:Nat) (sl:List (Nat × TV)) (outs:List Code) (ids:List Nat) {f:FuncId} {c1 c2:List CV} {hin:List (Nat × Option Ob)} (res:TV) (hout:List (Nat × Option Ob)) {stt:Nat} {r':ig} {sl':List (Nat × TV)} {e:Exit}
  (hg:AA st g=some gv) (hf:Rs gv=some (f,c1,c2)) (hlb:get st.heap lb=none) (hsl: ∀p∈sl,get st.slots p.1=some p.2)
  (hin1:bY ids (ids.map (aR ((lb,some (.loop ⟨ps,assign,body,N,outs⟩ 0 sl))::st.heap)))=some hin)
  (hok:(aP ((c1++CV.yl lb::c2).flatMap CV.aL) ids && aP (fJ (ids.map (aR ((lb,some (.loop ⟨ps,assign,body,N,outs⟩ 0 sl))::st.heap)))) ids && iA ids (hout.map (·.1)) ((hout.map (·.1)).map (aR ((lb,some (.loop ⟨ps,assign,body,N,outs⟩ 0 sl))::st.heap))))=true)
  (hfn:Fn P f ((c1++CV.yl lb::c2).map .one) hin res hout) (hlo:get hout lb=some (some (.loop r' stt sl'))) (hr':r'.outs=outs) (hx:NR outs stt e)
  (hQ:Q e ⟨st.slots,(lb,none)::(hout++(ids.map (fun i=>(i,none))++st.heap))⟩):lC none P B N L (.rangeFunc g ps.toArray assign body) Q st:=by
 intro a w hc
 obtain⟨⟨ρ,F,hfr,hi,hs,dn⟩,hid,sz⟩:=hc
 refine wpIn_rangeFunc ?_
 intro fn _
 obtain⟨v1,v2,hv,hr1,hr2⟩:=P6 hf (Jd hs hg)
 let W0:=w.alloc (.deferred (some []))
 let W1:=W0.alloc (.loop {state:= .ready,pending:=none,fn,tmps:=a.tmps,params:=ps.toArray,assign,body,defers:=w.heap.size})
 have hent:(Instr.enterLoop fn a.tmps ps.toArray assign body (FW none).round).run P w= .ok (w.heap.size+1,[{target:= .collected w.heap.size,args:= #[] }]) W1:=run_enterLoop_outer _ _ _ _ _
 have p0:=Push.alloc w (.deferred (some []))
 have p1:=Push.alloc W0 (.loop {state:= .ready,pending:=none,fn,tmps:=a.tmps,params:=ps.toArray,assign,body,defers:=w.heap.size})
 let F0:Nat→Prop:=fun k=>F k∨k=w.heap.size
 have hW0:W0.heap.size=w.heap.size+1:=p0.sz
 have g0:Gr ρ F w ρ F0 W0:=⟨fun _ _ h=>h,fun _ h=> .inl h,fun k hk=>p0.old (hfr.fz k hk).1⟩
 have hfr0:Fr B ρ F0 W0:=by
  refine⟨hfr.os,hfr.tape,hfr.output,by have:=hfr.size;omega,fun k hk hn=>(p0.old (by have:=hfr.size;omega)).trans (hfr.mem k hk hn),hfr.rho,fun k hk=> ?_,fun k hk=> .inl (hfr.bf k hk)⟩
  rcases hk with hk|hk
  ·obtain⟨x,y⟩:=hfr.fz k hk;exact⟨by omega,y⟩
  ·subst hk;exact⟨by omega, .inr (.inr hfr.size)⟩
 have hi0:HI B ρ F0 W0 (aR st.heap):=by
  obtain⟨ft,hi⟩:=hi
  refine⟨ft,hi.step g0 hfr (by omega) (fun _=>False) (fun b ob _ hb=> ⟨hb,fun k hk=>p0.old (hi.blk b ob k hb hk).1,fun _=>Iff.rfl⟩) (fun _ _ h=>h.elim) (fun _ _ _ h=>h.elim) (fun _ _ _ _ _ h=>h.elim) (fun k hk=> ?_) hi.fresh⟩
  rcases hk with hk|hk
  ·exact .inl hk
  ·subst hk;exact .inr (.inr ⟨Nat.le_refl _,fun _ _ h=>h.elim⟩)
 have hρ:=hi0.fresh lb hlb
 have g1:Gr ρ F0 W0 (bE ρ lb (.blk W0.heap.size 0 0)) F0 W1:=p1.gr hfr0 hρ
 have hi1:=p1.hi hfr0 hi0 (b:=lb) (base:=0) (cap:=0) (nob:= .loop ⟨ps,assign,body,N,outs⟩ 0 sl) hlb (by
  refine⟨W0.heap.size,0,0,fn,a.tmps,w.heap.size,ay _ _,rfl,by simp, ?_,sz,fun t tv ht=> ?_⟩
  ·rw [p1.new];rfl
  ·obtain⟨v,hv,hr⟩:=hs t tv (hsl _ (get_mem ht))
   exact⟨v,hv,(hr.gr g0).gr g1⟩)
 have hfr1:=p1.fr hfr0 (pl:= .blk W0.heap.size 0 0) hρ
 have hheap:upd (aR st.heap) [(lb,some (.loop ⟨ps,assign,body,N,outs⟩ 0 sl))]=aR ((lb,some (.loop ⟨ps,assign,body,N,outs⟩ 0 sl))::st.heap):=by
  funext x;rw [jl];simp only [aR];rw [aC]
 rw [hheap]at hi1
 have hL:W1.heap[w.heap.size+1]? =some (.loop {state:= .ready,pending:=none,fn,tmps:=a.tmps,params:=ps.toArray,assign,body,defers:=w.heap.size}):=by
  have:=p1.new;rw [hW0]at this;exact this
 have gg:=g0.trans g1
 refine⟨w.heap.size+1,[{target:= .collected w.heap.size,args:= #[] }],W1,{target:= .fn (.func f) v2.toArray,args:=v1.toArray++ #[.func (.yield (w.heap.size+1)) #[] #[]] },W1,f,(v1.toArray++ #[.func (.yield (w.heap.size+1)) #[] #[]])++v2.toArray,W1,hent, ?_,fun _ _=>trivial, ?_,fun hh=>by simp [FW,Fence.wide]at hh, ?_⟩
 ·simp [resolve,hv,Deferred.ofValue];rfl
 ·obtain⟨⟨fn',e1,e2,e3⟩,_⟩:=hfn
  simp only [invoke,callFunc,Sem.run_bind,run_program,Result.andThen_ok,e1,e2,e3,Bool.false_eq_true,if_false]
  rfl
 ·-- the call
  have hargs:jy ((c1++CV.yl lb::c2).map fun c=>TV.v (.one c))=some ((c1++CV.yl lb::c2).map .one):=D7 _
  have hyl:dH (bE ρ lb (.blk W0.heap.size 0 0)) F0 W1 (.yl lb) (.func (.yield (w.heap.size+1)) #[] #[]):=⟨W0.heap.size,0,0,ay _ _,by rw [hW0]⟩
  have hxs:dU (bE ρ lb (.blk W0.heap.size 0 0)) F0 W1 ((c1++CV.yl lb::c2).map fun c=>TV.v (.one c)) (v1++ .func (.yield (w.heap.size+1)) #[] #[]::v2):=
   Bl (((hr1.gr gg)).append ⟨hyl,hr2.gr gg⟩)
  have hmentE:((c1++CV.yl lb::c2).map SV.one).flatMap SV.aL=(c1++CV.yl lb::c2).flatMap CV.aL:=by
   rw [List.flatMap_map];rfl
  have hdropE:((ids++hout.map (·.1)).map (aR ((lb,some (.loop ⟨ps,assign,body,N,outs⟩ 0 sl))::st.heap))).drop ids.length=(hout.map (·.1)).map (aR ((lb,some (.loop ⟨ps,assign,body,N,outs⟩ 0 sl))::st.heap)):=by
   rw [List.map_append]
   conv=>lhs;arg 1;rw [←List.length_map (f:=aR ((lb,some (.loop ⟨ps,assign,body,N,outs⟩ 0 sl))::st.heap)) (as:=ids)]
   rw [List.drop_left]
  have htakeE:((ids++hout.map (·.1)).map (aR ((lb,some (.loop ⟨ps,assign,body,N,outs⟩ 0 sl))::st.heap))).take ids.length=ids.map (aR ((lb,some (.loop ⟨ps,assign,body,N,outs⟩ 0 sl))::st.heap)):=by
   rw [List.map_append]
   conv=>lhs;arg 1;rw [←List.length_map (f:=aR ((lb,some (.loop ⟨ps,assign,body,N,outs⟩ 0 sl))::st.heap)) (as:=ids)]
   rw [List.take_left]
  have hzip:bY ids ((ids++hout.map (·.1)).map (aR ((lb,some (.loop ⟨ps,assign,body,N,outs⟩ 0 sl))::st.heap)))=some hin:=by
   rw [List.map_append]
   have: ∀(is:List Nat) (os os':List (Option (Option Ob))) (m:List (Nat × Option Ob)),bY is os=some m→bY is (os++os')=some m:=by
    intro is
    induction is with
    |nil=>intro os os' m h;simpa [bY]using h
    |cons i is ih=>
     intro os os' m h
     match os,h with
     |some (some o)::os,h=>
      simp only [bY]at h
      split at h
      ·rename_i l hl
       simp only [List.cons_append,bY,ih os os' l hl];exact h
      ·cases h
     |[],h=>simp [bY]at h
     |none::_,h=>simp [bY]at h
     |some none::_,h=>simp [bY]at h
   exact this _ _ _ _ hin1
  have hall:=fun K=>Dz (res:=res) (B:=B) (X:=fun K=>CallsIn (FW none) (0 - 1) P f ((v1.toArray++ #[.func (.yield (w.heap.size+1)) #[] #[]])++v2.toArray) W1 fun e w'=> ∃v,e= .returned v∧K v w') hzip hargs
   (by rw [hmentE,htakeE,hdropE];exact hok) rfl hfr1 hi1 hxs (fun B' hw _ hF hi' hxs' K hK=>by
    have hcall:=(callsIn_wide (n:=0 - 1)).2 (hfn.2 B' (v1++ .func (.yield (w.heap.size+1)) #[] #[]::v2) hF hi' hxs')
    have harr:(v1++ .func (.yield (w.heap.size+1)) #[] #[]::v2).toArray=(v1.toArray++ #[.func (.yield (w.heap.size+1)) #[] #[]])++v2.toArray:=Array.ext' (by simp)
    rw [harr,hw]at hcall
    have hcall':CallsIn (FW none) (0 - 1) P f ((v1.toArray++ #[.func (.yield (w.heap.size+1)) #[] #[]])++v2.toArray) W1 _:=hcall
    refine hcall'.mono ?_
    rintro e w' ⟨v,ρ',F',rfl,h1,h2,h3⟩
    exact⟨v,rfl,hK v w' ⟨ρ',F',h1,h2,h3⟩⟩) K
  refine CallsIn.mono (hall (fun v w'=>rangePost (FW none) 0 P (w.heap.size+1) (fun e a' w'=> ∃st',Q e st'∧Conc B N L st' a' w') {a with defers:=[{target:= .collected w.heap.size,args:= #[] }]++a.defers} (.returned v) w')
   (fun v ρ2 F2 w2 g2 f2 hi2 hr=> ?_)) ?_
  ·-- behind the call
   obtain⟨ft2,hi2⟩:=hi2
   have hl2:upd (aR ((lb,some (.loop ⟨ps,assign,body,N,outs⟩ 0 sl))::st.heap)) (hout++ids.map fun i=>(i,none)) lb=some (some (.loop r' stt sl')):=by
    rw [C9,get_append,hlo]
   obtain⟨k,base,cap,fn2,tmps2,D2,y1,y0,y2,y3,y4,y5⟩:=hi2.obj lb _ hl2
   have hk:k=w.heap.size+1:=by
    have:=g2.rho lb _ (ay lb (.blk W0.heap.size 0 0))
    rw [y1]at this;cases this;exact hW0
   subst hk
   have hend:=run_endLoop (P:=P) y3 (by
    rcases hx with⟨h0,_⟩|⟨q,c,h0,_⟩
    ·subst h0;simp [kR]
    ·subst h0;simp [kR])
   have pt:=Wv (w:=w2) (k:=w.heap.size+1) (.loop {state:= .exhausted,pending:=fT r'.outs stt,fn:=fn2,tmps:=tmps2,params:=r'.ps.toArray,assign:=r'.assign,body:=r'.body,defers:=D2})
   have hblk:=hi2.blk lb _ _ hl2 y0
   have g3:=pt.gr (ρ:=ρ2) hblk.2.1
   have hfr3:=pt.fr f2 hblk.2.2
   have hi3:mZ B ρ2 F2 (w2.putObj (w.heap.size+1) (.loop {state:= .exhausted,pending:=fT r'.outs stt,fn:=fn2,tmps:=tmps2,params:=r'.ps.toArray,assign:=r'.assign,body:=r'.body,defers:=D2}))
     (aR ((lb,none)::(hout++(ids.map (fun i=>(i,none))++st.heap)))) ft2:=by
    have hu: ∀x,aR ((lb,none)::(hout++(ids.map (fun i=>(i,none))++st.heap))) x=if lb=x then some none else upd (aR ((lb,some (.loop ⟨ps,assign,body,N,outs⟩ 0 sl))::st.heap)) (hout++ids.map fun i=>(i,none)) x:=fun x=>by
     simp only [aR];rw [aC]
     by_cases e:lb=x
     ·rw [if_pos e,if_pos e]
     ·rw [if_neg e,if_neg e,←List.append_assoc,get_append,C9]
      cases get (hout++ids.map fun i=>(i,none)) x with
      |some _=>rfl
      |none=>simp only;rw [aC,if_neg e]
    refine hi2.step g3 f2 (by rw [pt.size];omega) (fun x=>x=lb) (fun x ox e hh=> ?_) (fun x ox e hh=> ?_) (fun x ox q e hh _=> ?_) (fun x y ox oy q e1 e2 _ _ _ _=>e1.trans e2.symm) (fun q hq=> .inl hq) fun x hh=> ?_
    ·rw [hu,if_neg (Ne.symm e)]at hh
     exact⟨hh,fun q hq=>pt.old q fun e'=>e (hi2.dis x lb ox _ q hh hl2 hq (e' ▸ y0)),fun _=>Iff.rfl⟩
    ·subst e;rw [hu,if_pos rfl]at hh;cases hh
    ·subst e;rw [hu,if_pos rfl]at hh;cases hh
    ·rw [hu]at hh
     split at hh
     ·cases hh
     ·exact hi2.fresh x hh
   have gall:=(gg.trans g2).trans g3
   have hconc:Conc B N L ⟨st.slots,(lb,none)::(hout++(ids.map (fun i=>(i,none))++st.heap))⟩ {a with defers:=[{target:= .collected w.heap.size,args:= #[] }]++a.defers}
     (w2.putObj (w.heap.size+1) (.loop {state:= .exhausted,pending:=fT r'.outs stt,fn:=fn2,tmps:=tmps2,params:=r'.ps.toArray,assign:=r'.assign,body:=r'.body,defers:=D2})):=by
    refine⟨⟨ρ2,F2,hfr3,⟨ft2,hi3⟩,fun t tv ht=> ?_, ?_⟩,hid,sz⟩
    ·obtain⟨v,hv,hr⟩:=hs t tv ht
     exact⟨v,hv,hr.gr gall⟩
    ·obtain⟨d0,Ds,d1,d2,d3⟩:=dn
     have hg12:=g1.trans (g2.trans g3)
     refine⟨d0,w.heap.size::Ds,by simp [d1],List.nodup_cons.2 ⟨fun hm=> ?_,d2⟩,fun D hD=> ?_⟩
     ·have:=(hfr.fz _ (d3 _ hm).1).1;omega
     ·rcases List.mem_cons.1 hD with rfl|hD
      ·exact⟨hg12.fz _ (.inr rfl),Nat.le_trans d0 hfr.size,by rw [hg12.mem _ (.inr rfl)];exact p0.new⟩
      ·obtain⟨z1,z2,z3⟩:=d3 D hD
       exact⟨gall.fz D z1,z2,by rw [gall.mem D z1];exact z3⟩
   refine⟨fT r'.outs stt,_,hend, ?_⟩
   rcases hx with⟨h0,rfl⟩|⟨q,c,h0,hcq,hout',rfl⟩
   ·subst h0
    exact⟨_,hQ,hconc⟩
   ·subst h0
    have hp:fT r'.outs (q+2)=some c:=by simp [fT,hr',hcq]
    rw [hp]
    cases c with
    |ret=>exact wpIn_ret ⟨_,hQ,by rw [hp]at hconc;exact hconc⟩
    |exit id=>exact wpIn_exit ⟨_,hQ,by rw [hp]at hconc;exact hconc⟩
    |goto l=>exact wpIn_goto ⟨_,hQ,by rw [hp]at hconc;exact hconc⟩
    |_=>simp [AL]at hout'
  ·rintro e w' ⟨v,rfl,hh⟩
   exact hh
def Sw (s:Nat):Option Ob→Option Ob
 |some (.loop r _ sl)=>some (.loop r s sl)
 |y=>y
def zX (lb s:Nat):List (Nat × Option Ob)→List (Nat × Option Ob)
 |[]=>[]
 |(b,x)::l=>(b,bif Nat.beq b lb then Sw s x else x)::zX lb s l
theorem IJ (lb s:Nat): ∀(l:List (Nat × Option Ob)) (b:Nat),get (zX lb s l) b=bif Nat.beq b lb then(get l b).map (Sw s)else get l b
 |[],b=>by simp [zX,get]
 |(k,x)::l,b=>by
  simp only [zX]
  rw [aC,aC]
  by_cases e:k=b
  ·subst e
   rw [if_pos rfl,if_pos rfl]
   cases Nat.beq k lb<;>rfl
  ·rw [if_neg e,if_neg e];exact IJ lb s l b
theorem Gh {a:Act} {w:World} {lb:Nat} {r:ig} {st0:Nat} {sl:List (Nat × TV)} (hc:Conc B N L st a w) (hlb:get st.heap lb=some (some (.loop r st0 sl))) {l base cap:Nat} (hl: ∀p,B.ρ lb=some p→p= .blk l base cap) (hl2:B.ρ lb≠none):
  ∃lp:Loop,w.heap[l]? =some (.loop lp)∧lp.state=kR st0∧lp.pending=fT r.outs st0∧ ∀s,s<r.outs.length+2→Conc B N L ⟨st.slots,zX lb s st.heap⟩ a (w.putObj l (.loop {lp with state:=kR s,pending:=fT r.outs s})):=by
 obtain⟨⟨ρ,F,hfr,⟨ft,hi⟩,hs,dn⟩,hid,sz⟩:=hc
 obtain⟨k,base',cap',fn,tmps,D,y1,y0,y2,y3,y4,y5⟩:=hi.obj lb _ hlb
 have hk:k=l:=by
  cases hB:B.ρ lb with
  |none=>exact absurd hB hl2
  |some p=>
   have:=hfr.rho lb p hB
   rw [hl p hB,y1]at this;cases this;rfl
 subst hk
 refine⟨_,y3,rfl,rfl,fun s hsl=> ?_⟩
 show Conc B N L ⟨st.slots,zX lb s st.heap⟩ a (w.putObj k (.loop {state:=kR s,pending:=fT r.outs s,fn,tmps,params:=r.ps.toArray,assign:=r.assign,body:=r.body,defers:=D}))
 have pt:=Wv (w:=w) (k:=k) (.loop {state:=kR s,pending:=fT r.outs s,fn,tmps,params:=r.ps.toArray,assign:=r.assign,body:=r.body,defers:=D})
 have hblk:=hi.blk lb _ k hlb y0
 have g:=pt.gr (ρ:=ρ) hblk.2.1
 have hhi:=pt.hi hfr hi hlb y0 (S:=ft lb) (nob:= .loop r s sl) (fun _ h=>h) ⟨k,base',cap',fn,tmps,D,y1,y0,hsl,World.putObj_heap_same hblk.1,y4,fun t tv ht=>by
  obtain⟨v,e1,e2⟩:=y5 t tv ht
  exact⟨v,e1,e2.gr g⟩⟩
 have hu:upd (aR st.heap) [(lb,some (.loop r s sl))]=aR (zX lb s st.heap):=by
  funext b
  rw [jl]
  show _=get (zX lb s st.heap) b
  rw [IJ]
  by_cases e:lb=b
  ·subst e
   rw [if_pos rfl,hlb,show Nat.beq lb lb=true from Nat.beq_refl lb];rfl
  ·rw [if_neg e,show Nat.beq b lb=false from p9 (Ne.symm e)];rfl
 rw [hu]at hhi
 refine⟨⟨ρ,F,pt.fr hfr hblk.2.2,⟨_,hhi⟩,fun t tv ht=> ?_,dn.gr g⟩,hid,sz⟩
 obtain⟨v,hv,hr⟩:=hs t tv ht
 exact⟨v,hv,hr.gr g⟩
theorem LQ: ∀{ps:List Nat} {vs:List Value} {tmps:Array Value},ps.length=vs.length→uY ps=true→(∀t∈ps,t<tmps.size)→
  ((ps.zip vs).foldl (fun(tm:Array Value) (p:Nat × Value)=>tm.setIfInBounds p.1 p.2) tmps).size=tmps.size∧
  (∀t,t ∉ ps→((ps.zip vs).foldl (fun(tm:Array Value) (p:Nat × Value)=>tm.setIfInBounds p.1 p.2) tmps)[t]? =tmps[t]?)∧
  ∀(j t:Nat) (v:Value),ps[j]? =some t→vs[j]? =some v→((ps.zip vs).foldl (fun(tm:Array Value) (p:Nat × Value)=>tm.setIfInBounds p.1 p.2) tmps)[t]? =some v
 |[],[],tmps,_,_,_=> ⟨rfl,fun _ _=>rfl,fun _ _ _ h=>by simp at h⟩
 |p::ps,v::vs,tmps,hl,hn,hlt=>by
  simp only [uY,Bool.and_eq_true,Bool.not_eq_true']at hn
  have hnm:=nR hn.1
  obtain⟨i1,i2,i3⟩:=LQ (ps:=ps) (vs:=vs) (tmps:=tmps.setIfInBounds p v) (by simpa using hl) hn.2 (fun t ht=>by rw [Array.size_setIfInBounds];exact hlt t (by simp [ht]))
  rw [List.zip_cons_cons,List.foldl_cons]
  refine⟨by rw [i1];simp,fun t ht=> ?_,fun j t u hj hu=> ?_⟩
  ·rw [i2 t (fun h=>ht (by simp [h])),Array.getElem?_setIfInBounds_ne (fun e=>ht (by simp [e]))]
  ·cases j with
   |zero=>
    simp at hj hu;subst hj;subst hu
    rw [i2 p hnm]
    have:=hlt p (by simp)
    simp [this]
   |succ j=>simp at hj hu;exact i3 j t u hj hu
 |[],_::_,_,hl,_,_=>by simp at hl
 |_::_,[],_,hl,_,_=>by simp at hl
def vZ:List Nat→List SV→List (Nat × TV)
 |t::ts,s::ss=>(t, .v s)::vZ ts ss
 |_,_=>[]
theorem Gn {ρ:Nat→Option Pl} {F:Nat→Prop} {w:World}: ∀{ps:List Nat} {args:List SV} {vs:List Value},dN ρ F w args vs→ ∀t tv,get (vZ ps args) t=some tv→ ∃(j:Nat) (v:Value),ps[j]? =some t∧vs[j]? =some v∧bB ρ F w tv v
 |[],_,_,_,t,tv,h=>by simp [vZ,get]at h
 |_::_,[],_,_,t,tv,h=>by simp [vZ,get]at h
 |p::ps,s::ss,v::vs,⟨h1,h2⟩,t,tv,h=>by
  simp only [vZ]at h
  rw [aC]at h
  split at h
  ·rename_i e;subst e;cases h;exact⟨0,v,rfl,rfl,h1⟩
  ·obtain⟨j,u,e1,e2,e3⟩:=Gn h2 t tv h
   exact⟨j+1,u,by simpa using e1,by simpa using e2,e3⟩
 |_::_,_::_,[],h,_,_,_=>h.elim
theorem Er: ∀{ps:List Nat} {args:List SV} {t:Nat},ps.length=args.length→get (vZ ps args) t=none→t ∉ ps
 |[],_,_,_,_=>by simp
 |p::ps,[],_,hl,_=>by simp at hl
 |p::ps,s::ss,t,hl,h=>by
  simp only [vZ]at h
  rw [aC]at h
  split at h
  ·cases h
  ·rename_i e
   rw [List.mem_cons]
   rintro (e'|hm)
   ·exact e e'.symm
   ·exact Er (by simpa using hl) h hm
def Ab (lb:Nat) (r:ig) (res:TV) (hout:List (Nat × Option Ob)) (e:Exit) (st:St):Prop:=
 ∃(s:Nat) (b:Bool) (sl:List (Nat × TV)),((e= .normal∧s=0∧b=true)∨ ∃k c,r.outs[k]? =some c∧AL c=true∧e=zC c∧s=k+2∧b=false)∧
  get st.heap lb=some (some (.loop r 1 sl))∧nY (zX lb s st.heap) hout∧BB (.v (.one (.d (.bool b)))) res
theorem Ab.on {lb:Nat} {r:ig} {res:TV} {hout:List (Nat × Option Ob)} {sl:List (Nat × TV)} (h1:get st.heap lb=some (some (.loop r 1 sl))) (h2:nY (zX lb 0 st.heap) hout) (h3:BB (.v (.one (.d (.bool true)))) res):Ab lb r res hout .normal st:=
 ⟨0,true,sl, .inl ⟨rfl,rfl,rfl⟩,h1,h2,h3⟩
theorem Ab.off {lb k:Nat} {c:Code} {e:Exit} {r:ig} {res:TV} {hout:List (Nat × Option Ob)} {sl:List (Nat × TV)} (hc:r.outs[k]? =some c) (ho:AL c=true) (he:e=zC c) (h1:get st.heap lb=some (some (.loop r 1 sl))) (h2:nY (zX lb (k+2) st.heap) hout) (h3:BB (.v (.one (.d (.bool false)))) res):Ab lb r res hout e st:=
 ⟨k+2,false,sl, .inr ⟨k,c,hc,ho,he,rfl,rfl⟩,h1,h2,h3⟩
theorem Pe {lb:Nat} {r:ig} {sl sl1:List (Nat × TV)} {args:List SV} {hin h1 hout:List (Nat × Option Ob)} {res:TV} {sl2:List (Nat × TV)} (hlb:get hin lb=some (some (.loop r 0 sl))) (hps:r.ps.length=args.length) (hnd:uY r.ps=true) (hlt:r.ps.all (fun t=>Nat.blt t r.N)=true)
  (hA: ∀rd B,lC rd P B r.N (hin.map (·.1)) r.assign (fun e st'=>e= .normal∧st'=⟨sl1,h1⟩) ⟨vZ r.ps args++sl,hin⟩) (hlb1:get h1 lb=some (some (.loop r 0 sl2)))
  (hB: ∀rd B,lC rd P B r.N (hin.map (·.1)) r.body (Ab lb r res hout) ⟨sl1,zX lb 1 h1⟩):Yl P lb args hin res hout:=by
 intro B0 vs l base cap hF hi hr hρ
 obtain⟨B,hBe⟩: ∃B,B=B0.up:=⟨_,rfl⟩
 have hF: ∀k,B.F k→k<B.w.heap.size:=by rw [hBe];exact hF
 have hi:HI B B.ρ B.F B.w (aR hin):=by rw [hBe];exact hi.up
 have hr:dN B.ρ B.F B.w args vs:=by rw [hBe];exact hr
 have hρ:B.ρ lb=some (.blk l base cap):=by rw [hBe];exact hρ
 have hmk:B.mb≤B.w.heap.size:=by rw [hBe];exact Nat.le_refl _
 have down: ∀{v w},Post B res hout v w→Post B0 res hout v w:=by
  rw [hBe]
  rintro v w ⟨ρ,F,a,b,c⟩
  exact⟨ρ,F,a.dn,b.dn,c⟩
 rw [show B0.w=B.w by rw [hBe];rfl]
 have hi0:=hi
 obtain⟨ft,hi⟩:=hi
 obtain⟨k,base',cap',fn,tmps,D,y1,y0,y2,y3,y4,y5⟩:=hi.obj lb _ hlb
 rw [hρ]at y1;cases y1
 have hvl:=hr.length
 have hy:=run_yield (P:=P) (args:=vs.toArray) y3 (by simp;omega)
 refine⟨fn,_,r.assign,r.body,hy, ?_⟩
 have hfold:(r.ps.toArray.zip vs.toArray).foldl (fun tmps (t,a)=>tmps.setIfInBounds t a) tmps=(r.ps.zip vs).foldl (fun(tm:Array Value) (p:Nat × Value)=>tm.setIfInBounds p.1 p.2) tmps:=by
  rw [←Array.foldl_toList];simp
 obtain⟨z1,z2,z3⟩:=LQ (ps:=r.ps) (vs:=vs) (tmps:=tmps) (by omega) hnd (fun t ht=>by
  have:=List.all_eq_true.1 hlt t ht
  rw [y4];exact Nat.le_of_ble_eq_true (n:=t+1) this)
 have hconc:Conc B r.N (hin.map (·.1)) ⟨vZ r.ps args++sl,hin⟩ {tmps:=(r.ps.toArray.zip vs.toArray).foldl (fun tmps (t,a)=>tmps.setIfInBounds t a) tmps,defers:=[] } B.w:=by
  rw [hfold]
  refine⟨⟨B.ρ,B.F,⟨rfl,rfl, .refl _,Nat.le_refl _,fun _ _ _=>rfl,fun _ _ h=>h,fun k hk=> ⟨hF k hk, .inl hk⟩,fun _ h=>h⟩,hi0,fun t tv ht=> ?_,Marks.none hmk (by rw [hBe];rfl)⟩,fun b p hbp=> ?_,by rw [z1,y4]⟩
  ·have ht:get (vZ r.ps args++sl) t=some tv:=ht
   rw [get_append]at ht
   split at ht
   ·rename_i tv' hg
    cases ht
    obtain⟨j,v,e1,e2,e3⟩:=Gn hr t tv hg
    exact⟨v,z3 j t v e1 e2,e3⟩
   ·rename_i hg
    obtain⟨v,e1,e2⟩:=y5 t tv ht
    exact⟨v,by rw [z2 t (Er hps hg)];exact e1,e2⟩
  ·apply Classical.byContradiction
   intro hnm
   have:=hi.fresh b (bQ hnm)
   rw [this]at hbp;cases hbp
 have hl1: ∀p,B.ρ lb=some p→p= .blk l base cap:=fun p hp=>by rw [hρ]at hp;cases hp;rfl
 have hl2:B.ρ lb≠none:=by rw [hρ];simp
 refine roundIn_of_wpIn (F:=FW none) trivial (wpIn_mono (hA (some l) B _ _ hconc) ?_)
 rintro e a1 w1 ⟨st',⟨rfl,rfl⟩,hc1⟩
 obtain⟨lp,q1,q2,q3,q4⟩:=Gh hc1 hlb1 hl1 hl2
 refine⟨_,run_beginRound q1 (by rw [q2];rfl), ?_⟩
 have hc2:=q4 1 (by omega)
 have hlp:({lp with state:=kR 1,pending:=fT r.outs 1}:Loop)={lp with state:= .busy}:=by
  have:lp.pending=none:=q3
  cases lp;simp at this;subst this;rfl
 rw [hlp]at hc2
 refine wpIn_mono (hB (some l) B _ _ hc2) ?_
 rintro e a2 w2 ⟨st2,⟨s,b,sl3,hcase,hg,hle,hres⟩,hc3⟩
 obtain⟨lp2,u1,u2,u3,u4⟩:=Gh hc3 hg hl1 hl2
 have fin: ∀jump:Option Code,s<r.outs.length+2→(if jump.isNone then LoopState.ready else .done)=kR s→jump=fT r.outs s→jump.isNone=b→
   ∃v w',(Instr.endRound l jump).run P w2= .ok v w'∧ ∃v',Ending.returned v=Ending.returned v'∧Post B0 res hout v' w':=by
  intro jump hs h1 h2 h3
  refine⟨_,_,run_endRound jump u1,_,rfl, ?_⟩
  have hc4:=u4 s hs
  rw [h1,h2,show(fT r.outs s).isNone=b by rw [←h2];exact h3]
  obtain⟨⟨ρ',F',f1,f2,_,_⟩,_,_⟩:=hc4
  exact down ⟨ρ',F',f1,f2.le hle,hres _ _ _ _ rfl⟩
 rcases hcase with⟨rfl,rfl,rfl⟩|⟨k,c,hk,ho,rfl,rfl,rfl⟩
 ·exact fin none (by omega) rfl rfl rfl
 ·have hkl:k<r.outs.length:=(List.getElem?_eq_some_iff.1 hk).1
  have hp:some c=fT r.outs (k+2):=by simp [fT,hk]
  cases c with
  |ret=>exact fin (some .ret) (by omega) rfl hp rfl
  |exit id=>exact fin (some (.exit id)) (by omega) rfl hp rfl
  |goto t=>exact fin (some (.goto t)) (by omega) rfl hp rfl
  |_=>simp [AL]at ho
end
def QF (l:List CV) (j:Nat):CV:=l.getD j (.d .nilp)
theorem AU (n:Nat) (f:Nat→CV) {j:Nat} (h:j<n):QF ((List.range n).map f) j=f j:=by
 simp [QF,List.getD_eq_getElem?_getD,h]
def CV.ren (σ:Nat→Nat):CV→CV
 | .d x=> .d x
 | .ptr b off=> .ptr (σ b) off
 | .opt b e i off=> .opt (σ b) e i off
 | .own b nn len=> .own (σ b) nn len
 | .mp b=> .mp (σ b)
 | .fn f nf n cap=> .fn f nf n (QF ((List.range n).map fun j=>(cap j).ren σ))
 | .yl b=> .yl (σ b)
def SV.ren (σ:Nat→Nat):SV→SV
 | .one c=> .one (c.ren σ)
 | .agg cs=> .agg (cs.map (CV.ren σ))
def TV.ren (σ:Nat→Nat):TV→TV
 | .v s=> .v (s.ren σ)
 | .dX l=> .dX (l.map (SV.ren σ))
def Ob.ren (σ:Nat→Nat):Ob→Ob
 | .cells E cs=> .cells E (cs.map (CV.ren σ))
 | .fcells E ds=> .fcells E ds
 | .frow fu E esz len el=> .frow fu E esz len el
 | .arr E esz len el=> .arr E esz len el
 | .rows E esz len el ov=> .rows E esz len el (ov.map fun x=>(x.1,x.2.1,x.2.2.ren σ))
 | .map m=> .map {m with val:=fun i j=>(m.val i j).ren σ,ms:=m.ms.map σ}
 | .loop r st sl=> .loop r st (sl.map fun p=>(p.1,p.2.ren σ))
 | .gm K V E l ov=> .gm K V E l (ov.map fun x=>(x.1,x.2.ren σ))
 | .coll=> .coll
 | .suf b l esz=> .suf (σ b) l esz
def lX (σ:Nat→Nat) (h:List (Nat × Option Ob)):List (Nat × Option Ob):=h.map fun p=>(σ p.1,p.2.map (Ob.ren σ))
section
variable {ρ:Nat→Option Pl} {F:Nat→Prop} {w:World} {σ:Nat→Nat}
theorem Bj: ∀{c:CV} {v:Value},dH ρ F w (c.ren σ) v↔dH (fun x=>ρ (σ x)) F w c v:=by
 intro c
 induction c with
 |fn f nf n cap ih=>
  intro v
  constructor
  ·rintro ⟨vs,e,hl,h⟩
   refine⟨vs,e,hl,fun j u hu=>(ih j).1 ?_⟩
   have:=h j u hu
   rwa [AU _ _ (by rw [←hl];exact(List.getElem?_eq_some_iff.1 hu).1)]at this
  ·rintro ⟨vs,e,hl,h⟩
   refine⟨vs,e,hl,fun j u hu=> ?_⟩
   rw [AU _ _ (by rw [←hl];exact(List.getElem?_eq_some_iff.1 hu).1)]
   exact(ih j).2 (h j u hu)
 |_=>intro v;exact Iff.rfl
theorem yo: ∀{cs:List CV} {vs:List Value},bR ρ F w (cs.map (CV.ren σ)) vs↔bR (fun x=>ρ (σ x)) F w cs vs
 |[],[]=>Iff.rfl
 |_::_,_::_=>and_congr Bj yo
 |[],_::_=>Iff.rfl
 |_::_,[]=>Iff.rfl
theorem AV: ∀{s:SV} {v:Value},fM ρ F w (s.ren σ) v↔fM (fun x=>ρ (σ x)) F w s v
 | .one _,_=>Bj
 | .agg _,_=> ⟨fun⟨vs,e,h⟩=> ⟨vs,e,yo.1 h⟩,fun⟨vs,e,h⟩=> ⟨vs,e,yo.2 h⟩⟩
theorem qb: ∀{cs:List SV} {vs:List Value},dN ρ F w (cs.map (SV.ren σ)) vs↔dN (fun x=>ρ (σ x)) F w cs vs
 |[],[]=>Iff.rfl
 |_::_,_::_=>and_congr AV qb
 |[],_::_=>Iff.rfl
 |_::_,[]=>Iff.rfl
theorem Az: ∀{t:TV} {v:Value},bB ρ F w (t.ren σ) v↔bB (fun x=>ρ (σ x)) F w t v
 | .v _,_=>AV
 | .dX _,_=> ⟨fun⟨vs,e,h⟩=> ⟨vs,e,qb.1 h⟩,fun⟨vs,e,h⟩=> ⟨vs,e,qb.2 h⟩⟩
theorem I8: ∀{c:CV} {x:Nat},x∈(c.ren σ).aL↔ ∃y,y∈c.aL∧σ y=x:=by
 intro c
 induction c with
 |d y=>intro x;simp [CV.ren,CV.aL]
 |fn f nf n cap ih=>
  intro x
  simp only [CV.ren,CV.aL,List.mem_flatMap,List.mem_range]
  constructor
  ·rintro ⟨j,hj,h⟩
   rw [AU _ _ hj]at h
   obtain⟨y,hy,e⟩:=(ih j).1 h;exact⟨y,⟨j,hj,hy⟩,e⟩
  ·rintro ⟨y,⟨j,hj,hy⟩,e⟩
   refine⟨j,hj, ?_⟩
   rw [AU _ _ hj]
   exact(ih j).2 ⟨y,hy,e⟩
 |_=>intro x;simp [CV.ren,CV.aL,eq_comm]
theorem sZ {α β:Type} (f:α→β): ∀(l:List (Nat × α)) (t:Nat),get (l.map fun p=>(p.1,f p.2)) t=(get l t).map f
 |[],_=>rfl
 |(k,x)::l,t=>by
  rw [List.map_cons,aC,aC,sZ f l t]
  split<;>rfl
theorem FR (c:Nat→CV): ∀(i n:Nat),dZ (fun j=>(c j).ren σ) i n=(dZ c i n).map (CV.ren σ)
 |_,0=>rfl
 |i,n+1=>by rw [dZ,dZ,List.map_cons,FR c (i+1) n]
theorem OQ (agg:Bool) (cs:List CV):ko agg (cs.map (CV.ren σ))=(ko agg cs).map (SV.ren σ):=by
 cases agg with
 |true=>rfl
 |false=>match cs with
  |[]=>rfl
  |[_]=>rfl
  |_::_::_=>rfl
theorem Dp {agg:Bool} {sz:Nat} {c:Nat→CV} {v:Value}:uF ρ F w agg sz (fun j=>(c j).ren σ) v↔uF (fun x=>ρ (σ x)) F w agg sz c v:=by
 unfold uF
 rw [FR,OQ]
 constructor
 ·rintro ⟨s,e,h⟩
  cases hh:ko agg (dZ c 0 sz)with
  |none=>rw [hh]at e;cases e
  |some s'=>rw [hh]at e;cases e;exact⟨s',rfl,AV.1 h⟩
 ·rintro ⟨s,e,h⟩
  rw [e]
  exact⟨_,rfl,AV.2 h⟩
theorem JW {S:Nat→Prop} {rb:Nat→Nat→Option Nat} {el:Nat→Nat→EV} {ov:Option (Nat × Nat × CV)} {i j:Nat} {v:Value}:
  yM ρ F w S rb el (ov.map fun x=>(x.1,x.2.1,x.2.2.ren σ)) i j v↔yM (fun x=>ρ (σ x)) F w S rb el ov i j v:=by
 unfold yM
 cases ov with
 |none=>exact Iff.rfl
 |some x=>
  simp only [Option.map_some]
  split
  ·exact Bj
  ·exact Iff.rfl
theorem JR {S:Nat→Prop} {rb:Nat→Option Nat} {E:TypeId} {l:List (Int × List Int)} {ov:Option (Int × CV)} {i:Nat} {v:Value}:
  xW ρ F w S rb E l (ov.map fun x=>(x.1,x.2.ren σ)) i v↔xW (fun x=>ρ (σ x)) F w S rb E l ov i v:=by
 unfold xW
 cases ov with
 |none=>exact Iff.rfl
 |some x=>
  simp only [Option.map_some]
  split
  ·exact Bj
  ·exact Iff.rfl
theorem Kb (hσ: ∀x y,σ x=σ y→x=y) {S:Nat→Prop} {b:Nat} {ob:Ob}:gT ρ F w S (σ b) (ob.ren σ)↔gT (fun x=>ρ (σ x)) F w S b ob:=by
 cases ob with
 |cells E cs=>
  constructor
  ·rintro ⟨k,cap,vs,h1,h2,h3,h4⟩;exact⟨k,cap,vs,h1,h2,h3,yo.1 h4⟩
  ·rintro ⟨k,cap,vs,h1,h2,h3,h4⟩;exact⟨k,cap,vs,h1,h2,h3,yo.2 h4⟩
 |fcells E ds=>exact Iff.rfl
 |frow fu E esz len el=>exact Iff.rfl
 |arr E esz len el=>exact Iff.rfl
 |rows E esz len el ov=>
  constructor
  ·rintro (h|⟨k,base,cap,vs,rb,h1,h2,h3,h4,h5,h6,h7,h8,h9⟩)
   ·exact .inl h
   ·exact .inr ⟨k,base,cap,vs,rb,h1,h2,h3,h4,h5,h6,fun i hi j hj=>by obtain⟨u,hu,hr⟩:=h7 i hi j hj;exact⟨u,hu,JW.1 hr⟩,h8,h9⟩
  ·rintro (h|⟨k,base,cap,vs,rb,h1,h2,h3,h4,h5,h6,h7,h8,h9⟩)
   ·exact .inl h
   ·exact .inr ⟨k,base,cap,vs,rb,h1,h2,h3,h4,h5,h6,fun i hi j hj=>by obtain⟨u,hu,hr⟩:=h7 i hi j hj;exact⟨u,hu,JW.2 hr⟩,h8,h9⟩
 |map m=>
  have hk: ∀i v,uF ρ F w m.kagg m.ksz (fun j=> .d (m.key i j)) v↔uF (fun x=>ρ (σ x)) F w m.kagg m.ksz (fun j=> .d (m.key i j)) v:=fun i v=>Dp (c:=fun j=> .d (m.key i j))
  constructor
  ·rintro ⟨k,base,cap,es,h1,h2,h3,h4,h5,h6⟩
   refine⟨k,base,cap,es,h1,h2,h3,h4,fun i hi j hj x hx=> ?_,fun i hi=> ?_⟩
   ·obtain⟨y,hy,e⟩:=List.mem_map.1 (h5 i hi j hj (σ x) (I8.2 ⟨x,hx,rfl⟩))
    rw [←hσ _ _ e];exact hy
   ·obtain⟨e,g1,g2,g3,g4⟩:=h6 i hi;exact⟨e,g1,g2,(hk _ _).1 g3,Dp.1 g4⟩
  ·rintro ⟨k,base,cap,es,h1,h2,h3,h4,h5,h6⟩
   refine⟨k,base,cap,es,h1,h2,h3,h4,fun i hi j hj x hx=> ?_,fun i hi=> ?_⟩
   ·obtain⟨y,hy,e⟩:=I8.1 hx
    exact List.mem_map.2 ⟨y,h5 i hi j hj y hy,e⟩
   ·obtain⟨e,g1,g2,g3,g4⟩:=h6 i hi;exact⟨e,g1,g2,(hk _ _).2 g3,Dp.2 g4⟩
 |loop r st sl=>
  constructor
  ·rintro ⟨k,base,cap,fn,tmps,D,h1,h2,h3,h4,h5,h6⟩
   refine⟨k,base,cap,fn,tmps,D,h1,h2,h3,h4,h5,fun t tv ht=> ?_⟩
   obtain⟨v,hv,hr⟩:=h6 t (tv.ren σ) (by rw [sZ,ht];rfl)
   exact⟨v,hv,Az.1 hr⟩
  ·rintro ⟨k,base,cap,fn,tmps,D,h1,h2,h3,h4,h5,h6⟩
   refine⟨k,base,cap,fn,tmps,D,h1,h2,h3,h4,h5,fun t tv ht=> ?_⟩
   rw [sZ]at ht
   cases hg:get sl t with
   |none=>rw [hg]at ht;cases ht
   |some tv'=>rw [hg]at ht;cases ht;obtain⟨v,hv,hr⟩:=h6 t tv' hg;exact⟨v,hv,Az.2 hr⟩
 |gm K V E l ov=>
  constructor
  ·rintro ⟨k,base,cap,es,rb,h1,h0,h2,h3,h4,h5⟩
   exact⟨k,base,cap,es,rb,h1,h0,h2,h3,fun i hi=>by obtain⟨e,e1,e2,e3,hr⟩:=h4 i hi;exact⟨e,e1,e2,e3,JR.1 hr⟩,h5⟩
  ·rintro ⟨k,base,cap,es,rb,h1,h0,h2,h3,h4,h5⟩
   exact⟨k,base,cap,es,rb,h1,h0,h2,h3,fun i hi=>by obtain⟨e,e1,e2,e3,hr⟩:=h4 i hi;exact⟨e,e1,e2,e3,JR.2 hr⟩,h5⟩
 |coll=>exact Iff.rfl
 |suf b0 l esz=>exact Iff.rfl
end
structure Rn (σ τ:Nat→Nat):Prop where
 st: ∀x,σ (τ x)=x
 ts: ∀x,τ (σ x)=x
theorem Rn.inj {σ τ:Nat→Nat} (r:Rn σ τ) {x y:Nat} (h:σ x=σ y):x=y:=by rw [←r.ts x,h,r.ts]
theorem Jy {σ τ:Nat→Nat} (r:Rn σ τ): ∀(h:List (Nat × Option Ob)) (b:Nat),get (lX σ h) (σ b)=(get h b).map (Option.map (Ob.ren σ))
 |[],_=>rfl
 |(k,x)::h,b=>by
  show get ((σ k,x.map (Ob.ren σ))::lX σ h) (σ b)=_
  rw [aC,aC,Jy r h b]
  by_cases e:k=b
  ·rw [if_pos e,if_pos (by rw [e])];rfl
  ·rw [if_neg e,if_neg (fun e'=>e (r.inj e'))]
theorem Br {σ τ:Nat→Nat} (r:Rn σ τ) {B:Base} {ρ0:Nat→Option Pl} {ρ:Nat→Option Pl} {F:Nat→Prop} {w:World} {h:List (Nat × Option Ob)}:
  HI B ρ F w (aR (lX σ h))↔HI {B with ρ:=ρ0} (fun x=>ρ (σ x)) F w (aR h):=by
 have hg: ∀b,aR (lX σ h) (σ b)=(aR h b).map (Option.map (Ob.ren σ)):=Jy r h
 have hg': ∀b,aR (lX σ h) b=(aR h (τ b)).map (Option.map (Ob.ren σ)):=fun b=>by rw [←hg,r.st]
 have key: ∀b ob,aR h b=some (some ob)→aR (lX σ h) (σ b)=some (some (ob.ren σ)):=fun b ob hh=>by rw [hg,hh];rfl
 have key': ∀b ob',aR (lX σ h) b=some (some ob')→ ∃ob,aR h (τ b)=some (some ob)∧ob'=ob.ren σ:=fun b ob' hh=>by
  rw [hg']at hh
  cases h1:aR h (τ b)with
  |none=>rw [h1]at hh;cases hh
  |some o=>cases o with
   |none=>rw [h1]at hh;cases hh
   |some ob=>rw [h1]at hh;cases hh;exact⟨ob,rfl,rfl⟩
 constructor
 ·rintro ⟨ft,hi⟩
  refine⟨fun b=>ft (σ b),fun b ob hh=>(Kb fun _ _=>r.inj).1 (hi.obj _ _ (key b ob hh)),fun b ob k hh hk=>hi.blk _ _ k (key b ob hh) hk,fun b b' ob ob' k h1 h2 k1 k2=>r.inj (hi.dis _ _ _ _ k (key _ _ h1) (key _ _ h2) k1 k2),fun b hb=>hi.fresh _ ?_,hi.gl⟩
  rw [hg,hb];rfl
 ·rintro ⟨ft,hi⟩
  refine⟨fun b=>ft (τ b),fun b ob' hh=> ?_,fun b ob' k hh hk=> ?_,fun b b' ob ob' k h1 h2 k1 k2=> ?_,fun b hb=> ?_,hi.gl⟩
  ·obtain⟨ob,h1,rfl⟩:=key' b ob' hh
   have:=(Kb fun _ _=>r.inj).2 (hi.obj _ _ h1)
   rwa [r.st]at this
  ·obtain⟨ob,h1,rfl⟩:=key' b ob' hh
   exact hi.blk _ _ k h1 hk
  ·obtain⟨o1,g1,_⟩:=key' b ob h1
   obtain⟨o2,g2,_⟩:=key' b' ob' h2
   have:=hi.dis _ _ _ _ k g1 g2 k1 k2
   rw [←r.st b,this,r.st]
  ·have:=hi.fresh (τ b) (by
    have:=hg' b;rw [hb]at this
    cases h1:aR h (τ b)with
    |none=>rfl
    |some o=>rw [h1]at this;cases this)
   simpa [r.st]using this
theorem Fn.ren {σ τ:Nat→Nat} (r:Rn σ τ) {P:Program} {f:FuncId} {args:List SV} {hin hout:List (Nat × Option Ob)} {res:TV} (h:Fn P f args hin res hout):
  Fn P f (args.map (SV.ren σ)) (lX σ hin) (res.ren σ) (lX σ hout):=by
 refine⟨h.1,fun B vs hF hi hr=> ?_⟩
 have hc:=h.2 {B with ρ:=fun x=>B.ρ (σ x)} vs hF ((Br r).1 hi) (qb (σ:=σ).1 hr)
 refine Calls.mono hc ?_
 rintro e w' ⟨v,ρ',F',rfl,hf,h1,h2⟩
 refine⟨v,fun x=>ρ' (τ x),F',rfl, ?_, ?_, ?_⟩
 ·refine⟨hf.os,hf.tape,hf.output,hf.size,hf.mem,fun b p hb=>hf.rho (τ b) p ?_,hf.fz,hf.bf⟩
  show B.ρ (σ (τ b))=some p
  rw [r.st];exact hb
 ·refine(Br (ρ0:=fun x=>B.ρ (σ x)) r).2 ?_
  have:(fun x=>(fun x=>ρ' (τ x)) (σ x))=ρ':=by funext x;simp [r.ts]
  rw [this];exact h1
 ·refine Az.2 ?_
  have:(fun x=>(fun x=>ρ' (τ x)) (σ x))=ρ':=by funext x;simp [r.ts]
  rw [this];exact h2
def sw (a b x:Nat):Nat:=bif Nat.beq x a then b else bif Nat.beq x b then a else x
def swp:List (Nat × Nat)→Nat→Nat
 |[],x=>x
 |(a,b)::l,x=>swp l (sw a b x)
def uG:List (Nat × Nat)→Nat→Nat
 |[],x=>x
 |(a,b)::l,x=>sw a b (uG l x)
theorem LJ (a b x:Nat):sw a b x=if x=a then b else if x=b then a else x:=by
 unfold sw
 cases h:Nat.beq x a with
 |true=>rw [if_pos (Nat.eq_of_beq_eq_true h)];rfl
 |false=>
  rw [if_neg (Nat.ne_of_beq_eq_false h)]
  cases h':Nat.beq x b with
  |true=>rw [if_pos (Nat.eq_of_beq_eq_true h')];rfl
  |false=>rw [if_neg (Nat.ne_of_beq_eq_false h')];rfl
theorem SN (a b x:Nat):sw a b (sw a b x)=x:=by
 rw [LJ a b x]
 by_cases h1:x=a
 ·rw [if_pos h1,LJ]
  by_cases h3:b=a
  ·rw [if_pos h3,h1,h3]
  ·rw [if_neg h3,if_pos rfl,h1]
 ·rw [if_neg h1]
  by_cases h2:x=b
  ·rw [if_pos h2,LJ,if_pos rfl,h2]
  ·rw [if_neg h2,LJ,if_neg h1,if_neg h2]
theorem Dr: ∀l:List (Nat × Nat),Rn (swp l) (uG l)
 |[]=> ⟨fun _=>rfl,fun _=>rfl⟩
 |(a,b)::l=> ⟨fun x=>by show swp l (sw a b (sw a b (uG l x)))=x;rw [SN,(Dr l).st],fun x=>by show sw a b (uG l (swp l (sw a b x)))=x;rw [(Dr l).ts,SN]⟩
theorem Fn.Ki {P:Program} {f:FuncId} {args args':List SV} {hin hin' hout hout':List (Nat × Option Ob)} {res res':TV} (l:List (Nat × Nat)) (h:Fn P f args hin res hout)
  (e1:args.map (SV.ren (swp l))=args') (e2:lX (swp l) hin=hin') (e3:res.ren (swp l)=res') (e4:lX (swp l) hout=hout'):Fn P f args' hin' res' hout':=by
 subst e1;subst e2;subst e3;subst e4
 exact h.ren (Dr l)
theorem Fn.YC {P:Program} {f:Nat} {args args':List SV} {hin hin' hout:List (Nat × Option Ob)} {res:TV} (h:Fn P f args hin res hout) (hl:EU args' args) (hh:nY hin' hin):Fn P f args' hin' res hout:=
 ⟨h.1,fun B vs hF hi hr=>h.2 B vs hF (hi.le hh) (hl.NZ hr)⟩
def FT:DV→Bool
 | .int _ _| .bool _| .str _| .nilp| .nilf| .nilm=>true
 |_=>false
def FI:CV→Bool
 | .d x=>FT x
 |_=>false
def Ml:SV→Bool
 | .one c=>FI c
 | .agg cs=>cs.all FI
def R9:TV→Bool
 | .v s=>Ml s
 | .dX l=>l.all Ml
section
variable {ρ ρ':Nat→Option Pl} {F F':Nat→Prop} {w w':World}
theorem FO {c:CV} {v:Value} (h:FI c=true) (hr:dH ρ F w c v):dH ρ' F' w' c v:=by
 cases c with
 |d x=>cases x<;>first|exact hr|simp [FI,FT]at h
 |_=>simp [FI]at h
theorem Gq: ∀{cs:List CV} {vs:List Value},cs.all FI=true→bR ρ F w cs vs→bR ρ' F' w' cs vs
 |[],[],_,_=>trivial
 |c::cs,v::vs,h,⟨h1,h2⟩=>by
  simp only [List.all_cons,Bool.and_eq_true]at h
  exact⟨FO h.1 h1,Gq h.2 h2⟩
 |[],_::_,_,h=>h.elim
 |_::_,[],_,h=>h.elim
theorem FH {s:SV} {v:Value} (h:Ml s=true) (hr:fM ρ F w s v):fM ρ' F' w' s v:=by
 cases s with
 |one c=>exact FO h hr
 |agg cs=>obtain⟨vs,e,hl⟩:=hr;exact⟨vs,e,Gq h hl⟩
theorem DY: ∀{cs:List SV} {vs:List Value},cs.all Ml=true→dN ρ F w cs vs→dN ρ' F' w' cs vs
 |[],[],_,_=>trivial
 |c::cs,v::vs,h,⟨h1,h2⟩=>by
  simp only [List.all_cons,Bool.and_eq_true]at h
  exact⟨FH h.1 h1,DY h.2 h2⟩
 |[],_::_,_,h=>h.elim
 |_::_,[],_,h=>h.elim
theorem M9 {t:TV} {v:Value} (h:R9 t=true) (hr:bB ρ F w t v):bB ρ' F' w' t v:=by
 cases t with
 |v s=>exact FH h hr
 |dX l=>obtain⟨vs,e,hl⟩:=hr;exact⟨vs,e,DY h hl⟩
end
theorem Fn.Xw {P:Program} {f:Nat} {args args':List SV} {hin:List (Nat × Option Ob)} {res:TV} {frz:List Nat} {p:List Prop} (h:Fn P f args [] res []) (he:AQ ⟨frz,[]⟩ (aR hin) args'=some (p,args)) (hp:All p) (hres:R9 res=true):
  Fn P f args' hin res hin:=by
 refine⟨h.1,fun B vs hF hi hr=> ?_⟩
 obtain⟨ft,hi⟩:=hi
 have hfr:Fr B B.ρ B.F B.w:=⟨rfl,rfl, .refl _,Nat.le_refl _,fun _ _ _=>rfl,fun _ _ h=>h,fun k hk=> ⟨hF k hk, .inl hk⟩,fun _ h=>h⟩
 have hr2:=yD (f:=⟨frz,[]⟩) List.nodup_nil hi he hp hr
 have hF2: ∀k,xE ft B.F (aR hin) frz k→k<B.w.heap.size:=fun k hk=>by
  rcases hk with hk|⟨b,ob,_,hob,hk⟩
  ·exact hF k hk
  ·exact(hi.blk b ob k hob hk).1
 refine Calls.mono (h.2 ⟨B.w,yO B.ρ [],xE ft B.F (aR hin) frz,(fun _=>False),0,[]⟩ vs hF2 ⟨fun _ _=>False,⟨fun _ _ hh=>by simp [aR,get]at hh,fun _ _ _ hh=>by simp [aR,get]at hh,fun _ _ _ _ _ hh=>by simp [aR,get]at hh,fun _ _=>rfl,fun x hx=> ⟨.inl (hi.gl x hx).1,(hi.gl x hx).2⟩⟩⟩ hr2) ?_
 rintro e w' ⟨v,ρ',F',rfl,h1,h2,h3⟩
 have hmem: ∀k,k<B.w.heap.size→w'.heap[k]? =B.w.heap[k]? :=fun k hk=>h1.mem k hk fun hh=>hh
 have g:Gr B.ρ B.F B.w B.ρ B.F w':=⟨fun _ _ h=>h,fun _ h=>h,fun k hk=>hmem k (hF k hk)⟩
 refine⟨v,B.ρ,B.F,rfl,⟨h1.os,h1.tape,h1.output,h1.size,fun k hk _=>hmem k hk,fun _ _ h=>h,fun k hk=> ⟨Nat.lt_of_lt_of_le (hF k hk) h1.size, .inl hk⟩,fun _ h=>h⟩,⟨ft, ?_⟩,M9 hres h3⟩
 exact hi.step g hfr h1.size (fun _=>False) (fun b ob _ hb=> ⟨hb,fun k hk=>hmem k (hi.blk b ob k hb hk).1,fun _=>Iff.rfl⟩) (fun _ _ h=>h.elim) (fun _ _ _ h=>h.elim) (fun _ _ _ _ _ h=>h.elim) (fun k hk=> .inl hk) hi.fresh
section
variable {κ α:Type}
def bC (eq:κ→κ→Bool) (k:κ):List (κ × α)→Option α
 |[]=>none
 |(k',v)::l=>bif eq k k' then some v else bC eq k l
def eB (eq:κ→κ→Bool) (k:κ) (v:α):List (κ × α)→List (κ × α)
 |[]=>[(k,v)]
 |(k',v')::l=>bif eq k k' then(k,v)::l else(k',v')::eB eq k v l
def aU (a b:Int):Bool:=decide (a=b) && true
def yK [Inhabited κ] (kc:κ→Nat→DV) (l:List (κ × α)):Nat→Nat→DV:=aB kc (l.map (·.1))
def zb [Inhabited α] (vc:α→Nat→DV) (l:List (κ × α)):Nat→Nat→CV:=fun i j=> .d (aB vc (l.map (·.2)) i j)
def Ny [Inhabited κ] [Inhabited α] (K V:TypeId) (ka va:Bool) (ksz vsz:Nat) (kc:κ→Nat→DV) (vc:α→Nat→DV) (l:List (κ × α)):Ob:= .map ⟨K,V,ka,va,ksz,vsz,l.length,yK kc l,zb vc l,[]⟩
section
variable [Inhabited κ] [Inhabited α] {eq:κ→κ→Bool} {kc:κ→Nat→DV} {vc:α→Nat→DV} {ks:List (Option IntKind)} {ksz vsz:Nat}
theorem uO (x:κ × α) (l:List (κ × α)):yK kc (x::l) 0=kc x.1:=rfl
theorem oG (x:κ × α) (l:List (κ × α)) (i:Nat):yK kc (x::l) (i+1)=yK kc l i:=by
 funext j;simp [yK,aB,at']
theorem Oa (x:κ × α) (l:List (κ × α)):zb vc (x::l) 0=fun j=> .d (vc x.2 j):=rfl
theorem Au (x:κ × α) (l:List (κ × α)) (i:Nat):zb vc (x::l) (i+1)=zb vc l i:=by
 funext j;simp [zb,aB,at']
theorem JM (hk: ∀x,aG ks (bU (kc x) 0 ksz)=true): ∀(l:List (κ × α)) (i:Nat),i<l.length→aG ks (bU (yK kc l i) 0 ksz)=true
 |l,i,_=>hk _
theorem Lp (hk: ∀x,aG ks (bU (kc x) 0 ksz)=true) (he: ∀a b,iM (bU (kc a) 0 ksz) (bU (kc b) 0 ksz)=some (eq a b)) (l:List (κ × α)) (k:κ) (d:α) {kd:List DV} {zero cs:List CV}
  (hkd:kd=bU (kc k) 0 ksz) (hz:NC zero (dZ (fun j=> .d (vc d j)) 0 vsz)) (hcs:cs=dZ (fun j=> .d (vc ((bC eq k l).getD d) j)) 0 vsz):
  dD ks ksz vsz l.length (yK kc l) (zb vc l) kd zero (bC eq k l).isSome cs:=by
 subst hkd
 refine⟨JM hk l, ?_⟩
 have key: ∀(l:List (κ × α)),((bC eq k l).isSome=true∧ ∃i,i<l.length∧iM (bU (kc k) 0 ksz) (bU (yK kc l i) 0 ksz)=some true∧(∀i',i'<i→iM (bU (kc k) 0 ksz) (bU (yK kc l i') 0 ksz)=some false)∧dZ (fun j=> .d (vc ((bC eq k l).getD d) j)) 0 vsz=dZ (zb vc l i) 0 vsz)∨
   ((bC eq k l).isSome=false∧(∀i,i<l.length→iM (bU (kc k) 0 ksz) (bU (yK kc l i) 0 ksz)=some false)):=by
  intro l
  induction l with
  |nil=>right;exact⟨rfl,fun i hi=>absurd hi (Nat.not_lt_zero i)⟩
  |cons x l ih=>
   obtain⟨k',v⟩:=x
   cases hb:eq k k' with
   |true=>
    left
    refine⟨by simp [bC,hb],0,by simp,by rw [uO,he,hb],fun i' hi'=>absurd hi' (Nat.not_lt_zero i'), ?_⟩
    simp only [bC,hb,cond_true,Option.getD_some];rfl
   |false=>
    have h0:bC eq k ((k',v)::l)=bC eq k l:=by simp [bC,hb]
    rw [h0]
    rcases ih with⟨h1,i,h2,h3,h4,h5⟩|⟨h1,h2⟩
    ·left
     refine⟨h1,i+1,by simp;omega,by rw [oG];exact h3,fun i' hi'=> ?_,by rw [Au];exact h5⟩
     cases i' with
     |zero=>rw [uO,he,hb]
     |succ i'=>rw [oG];exact h4 i' (by omega)
    ·right
     refine⟨h1,fun i hi=> ?_⟩
     cases i with
     |zero=>rw [uO,he,hb]
     |succ i=>rw [oG];exact h2 i (by simpa using hi)
 rcases key l with⟨h1,i,h2,h3,h4,h5⟩|⟨h1,h2⟩
 ·exact .inl ⟨h1,i,h2,h3,h4,hcs.trans h5⟩
 ·refine .inr ⟨h1,h2, ?_⟩
  rw [hcs]
  cases hm:bC eq k l with
  |none=>exact hz
  |some v=>rw [hm]at h1;cases h1
theorem qg (hk: ∀x,aG ks (bU (kc x) 0 ksz)=true) (he: ∀a b,iM (bU (kc a) 0 ksz) (bU (kc b) 0 ksz)=some (eq a b)) (l:List (κ × α)) (k:κ) (d:α) {kd:List DV} {zero cs:List CV}
  (hkd:kd=bU (kc k) 0 ksz) (hz:zero=dZ (fun j=> .d (vc d j)) 0 vsz) (hcs:cs=dZ (fun j=> .d (vc ((bC eq k l).getD d) j)) 0 vsz):
  dD ks ksz vsz l.length (yK kc l) (zb vc l) kd zero (bC eq k l).isSome cs:=Lp hk he l k d hkd (hz ▸ NC.refl _) hcs
theorem Ak (hk: ∀x,aG ks (bU (kc x) 0 ksz)=true) (he: ∀a b,iM (bU (kc a) 0 ksz) (bU (kc b) 0 ksz)=some (eq a b)) (l:List (κ × α)) (k:κ) (v:α) {kd:List DV} {vd:List CV}
  (hkd:kd=bU (kc k) 0 ksz) (hvd:vd=dZ (fun j=> .d (vc v j)) 0 vsz):
  eD ks ksz vsz l.length (yK kc l) (zb vc l) kd vd [] (eB eq k v l).length (yK kc (eB eq k v l)) (zb vc (eB eq k v l)):=by
 subst hkd;subst hvd
 refine⟨JM hk l,fun i _ j _ x hx=>by simp [zb,CV.aL]at hx, ?_⟩
 induction l with
 |nil=>exact⟨0,fun i' hi'=>absurd hi' (Nat.not_lt_zero i'), .inr ⟨rfl,rfl⟩,rfl,rfl,fun i' hi'=>absurd hi' (Nat.not_lt_zero i')⟩
 |cons x l ih=>
  obtain⟨k',v'⟩:=x
  cases hb:eq k k' with
  |true=>
   have h0:eB eq k v ((k',v')::l)=(k,v)::l:=by simp [eB,hb]
   rw [h0]
   refine⟨0,fun i' hi'=>absurd hi' (Nat.not_lt_zero i'), .inl ⟨by simp,by rw [uO,he,hb],rfl⟩,rfl,rfl,fun i' hi' hne=> ?_⟩
   cases i' with
   |zero=>exact absurd rfl hne
   |succ i'=>simp only [oG,Au,and_self]
  |false=>
   have h0:eB eq k v ((k',v')::l)=(k',v')::eB eq k v l:=by simp [eB,hb]
   rw [h0]
   obtain⟨i,h1,h2,h3,h4,h5⟩:=ih
   refine⟨i+1,fun i' hi'=> ?_, ?_,by rw [oG];exact h3,by rw [Au];exact h4,fun i' hi' hne=> ?_⟩
   ·cases i' with
    |zero=>rw [uO,he,hb]
    |succ i'=>rw [oG];exact h1 i' (by omega)
   ·rcases h2 with⟨a,b,c⟩|⟨a,b⟩
    ·exact .inl ⟨by simp;omega,by rw [oG];exact b,by simp [c]⟩
    ·exact .inr ⟨by simp [a],by simp [b]⟩
   ·cases i' with
    |zero=>simp only [uO,Oa,and_self]
    |succ i'=>
     simp only [oG,Au]
     exact h5 i' (by simpa using hi') (by omega)
end
end
def Np:List Nat→Code→Code
 |[],c=>c
 |i::l,c=>match c,i with
  | .seq x _,0=>Np l x
  | .seq _ y,_=>Np l y
  | .cond _ x _,0=>Np l x
  | .cond _ _ y,_=>Np l y
  | .block _ x,_=>Np l x
  | .loop x,_=>Np l x
  | .scope x,_=>Np l x
  | .rangeFunc _ _ x _,0=>Np l x
  | .rangeFunc _ _ _ y,_=>Np l y
  |c,_=>c
def kC (f:Func):Code:=match f.body with|some c=>c|none=> .skip
theorem KI.of {x y:Option Ob} (h:x=y):KI x y:=h ▸ .refl x
section
variable {rd:Option Nat} {P:Program} {B:Base} {N:Nat} {L:List Nat} {Q:Exit→St→Prop} {st st':St}
end
section
variable (rd:Option Nat) (P:Program) (B:Base) (N:Nat) (L:List Nat) (c:Code) (Q:Exit→St→Prop)
def LoopN:Nat→St→Prop
 |0,_=>False
 |m+1,st=>lC rd P B N L c (fun e st'=>match e with| .normal=>LoopN m st'|e=>Q e st') st
end
section
variable {rd:Option Nat} {P:Program} {B:Base} {N:Nat} {L:List Nat} {Q:Exit→St→Prop} {st:St} {c:Code}
theorem Nr (m:Nat) (h:LoopN rd P B N L c Q m st):lC rd P B N L (.loop c) Q st:=by
 intro a w hc
 refine wpIn_loop_rounds m ?_
 revert st a w
 induction m with
 |zero=>intro st h;exact h.elim
 |succ m ih=>
  intro st h a w hc
  rw [roundsIn_succ]
  refine wpIn_mono (h a w hc) ?_
  rintro e a' w' ⟨st',h1,h2⟩
  cases e with
  |normal=>exact ih h1 a' w' h2
  |exit id=>exact⟨st',h1,h2⟩
  |goto l=>exact⟨st',h1,h2⟩
  |ret=>exact⟨st',h1,h2⟩
  |panic v=>exact⟨st',h1,h2⟩
  |outgrown=>exact⟨st',h1,h2⟩
end
theorem Cj {P:Program} {b:Frame} {a:Act} {k:List Item} {cs:List Frame} {w:World} {c:Code}:Go.step P (lone (b.atR a (.code (.scope c)::k)) cs w)= .next (lone (b.atR a (.code c:: .inScope c::k)) cs w):=
 step_lone_go (by simp [stepG,stepG.exec,Frame.atR])
theorem zn {P:Program} {b:Frame} {a:Act} {k:List Item} {cs:List Frame} {w:World} {c:Code}:Go.step P (lone (b.atR a (.inScope c::k)) cs w)= .next (lone (b.atR a k) cs w):=
 step_lone_go (by simp [stepG,stepG.exec,Frame.atR])
def GQ {σ ρ:Type} (l:Nat) (S:σ→St) (R:ρ→Exit→St→Prop):dz σ ρ→Exit→St→Prop
 | .next s,e,st=>e= .goto l∧st=S s
 | .done r,e,st=>(∀l',e≠ .goto l')∧R r e st
section
variable {rd:Option Nat} {P:Program} {B:Base} {N:Nat} {L:List Nat} {st:St}
theorem Lj {σ ρ:Type} {c rest:Code} (l:Nat) (hf:findLabel c l=some rest) (S:σ→St) (R:ρ→Exit→St→Prop) {body:σ→Option (dz σ ρ)} {n:Nat} {s0:σ} {o:ρ} (h:aV body n s0=some o)
  (hb: ∀s f,body s=some f→lC rd P B N L rest (GQ l S R f) (S s)) (h1: ∀f,body s0=some f→lC rd P B N L c (GQ l S R f) st):lC rd P B N L (.scope c) (R o) st:=by
 intro a w hc b k cs hro hbu hr
 have hg:gotoIn l (.inScope c::k)=some (.code rest:: .inScope c::k):=by simp [gotoIn,hf]
 have fin: ∀(m:Nat) (s:σ) (f:dz σ ρ) (x:Code) (a:Act) (w:World),aV body (m+1) s=some o→body s=some f→
   (∀s' a' w',aV body m s'=some o→Conc B N L (S s') a' w'→ ∃e a2 w2,(∃st',R o e st'∧Conc B N L st' a2 w2)∧ArrivesIn (Machine.fenced P (FW rd)) P (lone (b.atR a' (.code rest:: .inScope c::k)) cs w') b k cs e a2 w2)→
   (∃e a1 w1,(∃st',GQ l S R f e st'∧Conc B N L st' a1 w1)∧ArrivesIn (Machine.fenced P (FW rd)) P (lone (b.atR a (.code x:: .inScope c::k)) cs w) b (.inScope c::k) cs e a1 w1)→
   ∃e a2 w2,(∃st',R o e st'∧Conc B N L st' a2 w2)∧ArrivesIn (Machine.fenced P (FW rd)) P (lone (b.atR a (.code x:: .inScope c::k)) cs w) b k cs e a2 w2:=by
  rintro m s f x a w hl hbs ih ⟨e,a1,w1,⟨st',hq,hconc⟩,harr⟩
  rw [bS,hbs]at hl
  cases f with
  |next s'=>
   obtain⟨rfl,rfl⟩:=hq
   obtain⟨e2,a2,w2,hq2,harr2⟩:=ih s' a1 w1 hl hconc
   exact⟨e2,a2,w2,hq2, .of_steps (harr.1 _ hg) harr2⟩
  |done r=>
   obtain⟨hng,hR⟩:=hq
   simp only [Option.some.injEq]at hl
   subst hl
   cases e with
   |normal=>exact⟨.normal,a1,w1,⟨st',hR,hconc⟩,StepsIn.trans harr (.one (fenced_calm hbu hr rfl) zn)⟩
   |exit id=>
    have hx:exitTo id (.inScope c::k)=exitTo id k:=by simp [exitTo]
    exact⟨_,a1,w1,⟨st',hR,hconc⟩,fun k' hk=>harr.1 k' (by rw [hx];exact hk),fun hr' hk=>harr.2 hr' (by rw [hx];exact hk)⟩
   |goto l'=>exact absurd rfl (hng l')
   |ret=>exact⟨_,a1,w1,⟨st',hR,hconc⟩,harr⟩
   |panic ch=>exact⟨_,a1,w1,⟨st',hR,hconc⟩,harr⟩
   |outgrown=>exact⟨_,a1,w1,⟨st',hR,hconc⟩,harr⟩
 have key: ∀m s a w,aV body m s=some o→Conc B N L (S s) a w→ ∃e a2 w2,(∃st',R o e st'∧Conc B N L st' a2 w2)∧ArrivesIn (Machine.fenced P (FW rd)) P (lone (b.atR a (.code rest:: .inScope c::k)) cs w) b k cs e a2 w2:=by
  intro m
  induction m with
  |zero=>intro s a w hl;cases hl
  |succ m ih=>
   intro s a w hl hconc
   cases hbs:body s with
   |none=>rw [bS,hbs]at hl;cases hl
   |some f=>exact fin m s f rest a w hl hbs (fun s' a' w' h1 h2=>ih s' a' w' h1 h2) (hb s f hbs a w hconc b (.inScope c::k) cs hro hbu hr)
 cases n with
 |zero=>cases h
 |succ n=>
  cases hbs:body s0 with
  |none=>rw [bS,hbs]at h;cases h
  |some f=>
   obtain⟨e,a2,w2,hq,harr⟩:=fin n s0 f c a w h hbs (fun s' a' w' h1 h2=>key n s' a' w' h1 h2) (h1 f hbs a w hc b (.inScope c::k) cs hro hbu hr)
   exact⟨e,a2,w2,hq, .of_steps (.one (fenced_calm hbu hr rfl) Cj) harr⟩
end
section
variable {rd:Option Nat} {P:Program} {B:Base} {N:Nat} {L:List Nat} {Q:Exit→St→Prop} {st:St}
end
theorem Yl.YC {P:Program} {b:Nat} {args args':List SV} {hin hin' hout:List (Nat × Option Ob)} {res:TV} (h:Yl P b args hin res hout) (hl:EU args' args) (hh:nY hin' hin):Yl P b args' hin' res hout:=
 fun B vs l base cap hF hi hr hb=>h B vs l base cap hF (hi.le hh) (hl.NZ hr) hb
theorem Yl.Ki {P:Program} {b b':Nat} {args args':List SV} {hin hin' hout hout':List (Nat × Option Ob)} {res res':TV} (l:List (Nat × Nat)) (h:Yl P b args hin res hout)
  (e0:swp l b=b') (e1:args.map (SV.ren (swp l))=args') (e2:lX (swp l) hin=hin') (e3:res.ren (swp l)=res') (e4:lX (swp l) hout=hout'):Yl P b' args' hin' res' hout':=by
 subst e0;subst e1;subst e2;subst e3;subst e4
 have r:=Dr l
 intro B vs lp base cap hF hi hr hb
 obtain⟨fn,tmps,assign,body,h1,h2⟩:=h {B with ρ:=fun x=>B.ρ (swp l x)} vs lp base cap hF ((Br r).1 hi) (qb (σ:=swp l).1 hr) hb
 refine⟨fn,tmps,assign,body,h1,h2.mono ?_⟩
 rintro e w' ⟨v,rfl,ρ',F',hf,g1,g2⟩
 refine⟨v,rfl,fun x=>ρ' (uG l x),F', ?_, ?_, ?_⟩
 ·refine⟨hf.os,hf.tape,hf.output,hf.size,hf.mem,fun b p hb=>hf.rho (uG l b) p ?_,hf.fz,hf.bf⟩
  show B.ρ (swp l (uG l b))=some p
  rw [r.st];exact hb
 ·refine(Br (ρ0:=fun x=>B.ρ (swp l x)) r).2 ?_
  have:(fun x=>(fun x=>ρ' (uG l x)) (swp l x))=ρ':=by funext x;simp [r.ts]
  rw [this];exact g1
 ·refine Az.2 ?_
  have:(fun x=>(fun x=>ρ' (uG l x)) (swp l x))=ρ':=by funext x;simp [r.ts]
  rw [this];exact g2
def Xg:List DV→List DV→Prop
 |[],[]=>True
 |x::xs,y::ys=>wS x y∧Xg xs ys
 |_,_=>False
theorem Xg.get: ∀{xs ys:List DV},Xg xs ys→xs.length=ys.length∧ ∀j,wS (xs.getD j .nilp) (ys.getD j .nilp)
 |[],[],_=> ⟨rfl,fun _=> .refl _⟩
 |x::xs,y::ys,⟨h1,h2⟩=>by
  obtain⟨g1,g2⟩:=Xg.get h2
  refine⟨by simp [g1],fun j=> ?_⟩
  cases j with
  |zero=>exact h1
  |succ j=>simpa using g2 j
 |[],_::_,h=>h.elim
 |_::_,[],h=>h.elim
def vL {α:Type} [Inhabited α] (c:α→Nat→EV) (l:List α):Nat→Nat→EV:=fun i j=>c (at' l i) j
section
variable {α:Type} [Inhabited α]
theorem Dh (c:α→Nat→EV) (l:List α) (n esz i off:Nat) (v:EV) (x:α) (hn:n=l.length) (h: ∀j,j<esz→c x j=if j=off then v else c (at' l i) j):PN n esz (Si (vL c l) i off v) (vL c (l.set i x)):=by
 intro i' hi' j hj
 unfold Si vL
 by_cases e:i'=i
 ·subst e
  rw [bH (by omega),h j hj]
  by_cases e2:j=off<;>simp [e2]
 ·rw [bV (Ne.symm e),if_neg (fun hh=>e hh.1)]
theorem RO (c:α→Nat→EV) (l m:List α) (esz:Nat) (elx:Nat→Nat→DV) (h: ∀i,i<m.length→ ∀j,j<esz→MQ (elx i j) (c (at' m i) j)):Dc l.length m.length esz (vL c l) elx (vL c (l++m)):=by
 refine⟨fun i hi j _=> ?_,fun i hi j hj=> ?_⟩
 ·unfold vL;rw [vW hi]
 ·unfold vL
  rw [uJ (by omega),Nat.add_sub_cancel_left]
  exact h i hi j hj
end
def dP (ks:List DV):Nat→Nat→DV:=fun i _=>ks.getD i .nilp
def kX (vsz:Nat) (vs:List CV):Nat→Nat→CV:=fun i j=>vs.getD (i*vsz+j) (.d .nilp)
theorem Fn.nn {P:Program} {f:Nat} {esz len:Nat} {el:Nat→Nat→DV} {hin hout:List (Nat × Option Ob)} {res:TV} (h1:Fn P f [.one (.d (.sl (some true) esz len el))] hin res hout) (h2:len=0→Fn P f [.one (.d (.sl (some false) esz len el))] hin res hout):
  Fn P f [.one (.d (.sl none esz len el))] hin res hout:=by
 refine⟨h1.1,fun B vs hF hi hr=> ?_⟩
 match vs,hr with
 |[v],⟨⟨a,cap,hv,_,_,h3,h4,h5⟩,_⟩=>
  cases a with
  |none=>exact(h2 (h3 rfl).1).2 B [v] hF hi ⟨⟨none,cap,hv,(fun e=>by cases e),fun _=>rfl,h3,h4,h5⟩,trivial⟩
  |some ad=>exact h1.2 B [v] hF hi ⟨⟨some ad,cap,hv,fun _ e=>(by cases e),(fun e=>by cases e),h3,h4,h5⟩,trivial⟩
 |[],hr=>exact hr.elim
 |_::_::_,hr=>exact hr.2.elim
section
variable {B:Base} {N:Nat} {L:List Nat} {st:St}
theorem j5.Wy {p q b b' E esz n:Nat} {el:Nat→Nat→DV} {E0:TypeId} {cs:List CV} {nn:Bool} {len:Nat} (hp:get st.heap p=some (some (.cells E0 cs))) (hq:cs[q]? =some (.own b nn len)) (hb:get st.heap b=some (some (.arr E esz n el))) (hb':get st.heap b'=none):
  j5 B N L st ⟨st.slots,(p,some (.cells E0 (cs.set q (.own b' nn len))))::(b',some (.arr E esz n el))::(b,none)::st.heap⟩:=by
 intro a w hc
 obtain⟨⟨ρ,F,hfr,⟨ft,hi⟩,hs,dn⟩,hid,sz⟩:=hc
 have hρ:=hi.fresh b' hb'
 have hpb:p≠b:=fun e=>by rw [e,hb]at hp;cases hp
 have hpb':p≠b':=fun e=>by rw [e,hb']at hp;cases hp
 have hbb':b≠b':=fun e=>by rw [e,hb']at hb;cases hb
 obtain⟨pl,hpl⟩: ∃pl,ρ b=some pl:=by
  rcases hi.obj b _ hb with⟨h,_⟩|⟨k,base,cap,h,_⟩<;>exact⟨_,h⟩
 have hu: ∀x,aR ((p,some (.cells E0 (cs.set q (.own b' nn len))))::(b',some (.arr E esz n el))::(b,none)::st.heap) x=if p=x then some (some (.cells E0 (cs.set q (.own b' nn len))))else if b'=x then some (some (.arr E esz n el))else if b=x then some none else aR st.heap x:=fun x=>by simp only [aR];rw [aC,aC,aC]
 have g:Gr ρ F w (bE ρ b' pl) F w:=⟨aO hρ,fun _ h=>h,fun _ _=>rfl⟩
 have hlive: ∀x ox,(x=p∨x=b'∨x=b)→aR ((p,some (.cells E0 (cs.set q (.own b' nn len))))::(b',some (.arr E esz n el))::(b,none)::st.heap) x=some (some ox)→(x=p∧ox= .cells E0 (cs.set q (.own b' nn len)))∨(x=b'∧ox= .arr E esz n el):=fun x ox hx hh=>by
  rw [hu]at hh
  rcases hx with rfl|rfl|rfl
  ·rw [if_pos rfl]at hh;cases hh;exact .inl ⟨rfl,rfl⟩
  ·rw [if_neg hpb',if_pos rfl]at hh;cases hh;exact .inr ⟨rfl,rfl⟩
  ·rw [if_neg hpb,if_neg (Ne.symm hbb'),if_pos rfl]at hh;cases hh
 refine⟨⟨bE ρ b' pl,F,{hfr with rho:=fun x p' e=>aO hρ x p' (hfr.rho x p' e)},⟨sK ft b' (ft b), ?_⟩,fun t' tv ht'=> ?_,dn⟩,hid,sz⟩
 ·refine hi.step g hfr (Nat.le_refl _) (fun x=>x=p∨x=b'∨x=b) (fun x ox hx hh=> ?_) (fun x ox hx hh=> ?_) (fun x ox k hx hh hf=> ?_) (fun x y ox oy k hx hy h1 h2 f1 f2=> ?_) (fun k hk=> .inl hk) fun x hh=> ?_
  ·rw [hu,if_neg (fun e=>hx (.inl e.symm)),if_neg (fun e=>hx (.inr (.inl e.symm))),if_neg (fun e=>hx (.inr (.inr e.symm)))]at hh
   exact⟨hh,fun _ _=>rfl,fun k=>by rw [dR (fun e=>hx (.inr (.inl e)))]⟩
  ·rcases hlive x ox hx hh with⟨rfl,rfl⟩|⟨rfl,rfl⟩
   ·rw [dR hpb']
    obtain⟨k,cap,vs,x1,x0,x2,x3⟩:=hi.obj x _ hp
    refine⟨k,cap,vs,aO hρ _ _ x1,x0,x2,bR.nV (by rw [x3.length,List.length_set]) fun j c hj=> ?_⟩
    rw [List.getElem?_set]at hj
    split at hj
    ·rename_i e;subst e
     split at hj
     ·cases hj
      obtain⟨u,hu',hr⟩:=x3.get hq
      refine⟨u,hu', ?_⟩
      rcases hr with⟨k,base,cap,e1,e2⟩|⟨e0,e1,e2,e3⟩
      ·rw [hpl]at e1;cases e1
       exact .inl ⟨k,base,cap,ay _ _,e2⟩
      ·rw [hpl]at e1;cases e1
       exact .inr ⟨e0,ay _ _,e2,e3⟩
     ·cases hj
    ·obtain⟨u,hu',hr⟩:=x3.get hj
     exact⟨u,hu',hr.gr g⟩
   ·rw [bA]
    rcases hi.obj b _ hb with⟨h,h0⟩|⟨k,base,cap,h,h1,h2⟩
    ·rw [hpl]at h;cases h;exact .inl ⟨ay _ _,h0⟩
    ·rw [hpl]at h;cases h;exact .inr ⟨k,base,cap,ay _ _,h1,h2⟩
  ·rcases hlive x ox hx hh with⟨rfl,rfl⟩|⟨rfl,rfl⟩
   ·rw [dR hpb']at hf
    exact .inl ⟨x,_, .inl rfl,hp,hf⟩
   ·rw [bA]at hf
    exact .inl ⟨b,_, .inr (.inr rfl),hb,hf⟩
  ·rcases hlive x ox hx h1 with⟨rfl,rfl⟩|⟨rfl,rfl⟩<;>rcases hlive y oy hy h2 with⟨rfl,rfl⟩|⟨rfl,rfl⟩
   ·rfl
   ·rw [dR hpb']at f1;rw [bA]at f2
    exact absurd (hi.dis _ _ _ _ k hp hb f1 f2) hpb
   ·rw [bA]at f1;rw [dR hpb']at f2
    exact absurd (hi.dis _ _ _ _ k hb hp f1 f2).symm hpb
   ·rfl
  ·rw [hu]at hh
   split at hh
   ·cases hh
   ·split at hh
    ·cases hh
    ·split at hh
     ·cases hh
     ·rename_i e1 e2 e3
      have:=hi.fresh x hh
      simp only [bE];rw [if_neg (Ne.symm e2)];exact this
 ·obtain⟨v,hv,hr⟩:=hs t' tv ht'
  exact⟨v,hv,hr.gr g⟩
end
theorem QK {E esz n:Nat} {f g:Nat→Nat→DV} (h: ∀i,i<n→ ∀j,j<esz→wS (f i j) (g i j)):KI (some (.arr E esz n f)) (some (.arr E esz n g)):=by
 rintro ρ F w S b (hr|⟨k,base,cap,x1,x0,vs,x2,x3,x4,x5,x6⟩)
 ·exact .inl hr
 ·exact .inr ⟨k,base,cap,x1,x0,vs,x2,x3,x4,x5,fun i hi j hj=>by
   obtain⟨u,hu,hr⟩:=x6 i hi j hj
   exact⟨u,hu,h i hi j hj _ _ _ hr⟩⟩
theorem Db {α:Type} [Inhabited α] (l:List α) (k i:Nat):at' (l.drop k) i=at' l (i+k):=by
 unfold at';rw [List.getD_eq_getElem?_getD,List.getD_eq_getElem?_getD,List.getElem?_drop,Nat.add_comm]
theorem UC {α:Type} [Inhabited α] {n:Nat} (c:α→Nat→DV) (l:List α) (esz k:Nat): ∀i,i<n→ ∀j,j<esz→wS ((fun i j=>aB c l (i+k) j) i j) (aB c (l.drop k) i j):=fun i _ j _=> .of (by
 show c (at' l (i+k)) j=c (at' (l.drop k) i) j
 rw [Db])
theorem wS.Yu {nn Cf:Option Bool} {esz len m:Nat} {f g:Nat→Nat→DV} (hl:len=m) (hn:Cf=none∨Cf=nn) (h: ∀i,i<len→ ∀j,j<esz→wS (f i j) (g i j)):wS (.sl nn esz len f) (.sl Cf esz m g):=hl ▸ wS.sl hn h
theorem toNat_lt {i:Int} {n:Nat} (h:(0:Int)≤i∧i<(n:Int)):i.toNat<n:=by omega
def Ns (l:List (Nat × Option Ob)):CV→Bool
 | .d x=>FT x
 | .own b _ _=>(get l b).isSome
 |_=>false
def Q8 (l:List (Nat × Option Ob)):SV→Bool
 | .one c=>Ns l c
 | .agg cs=>cs.all (Ns l)
def Vn (l:List (Nat × Option Ob)):TV→Bool
 | .v s=>Q8 l s
 | .dX m=>m.all (Q8 l)
def TM (l:List (Nat × Option Ob)):Ob→Prop
 | .cells _ cs=>cs.all (Ns l)=true
 | .arr _ _ _ el=> ∀i j,FT (el i j)=true
 |_=>False
def KO (l:List (Nat × Option Ob)):List (Nat × Option Ob)→Prop
 |[]=>True
 |(_,none)::r=>KO l r
 |(_,some o)::r=>TM l o∧KO l r
section
variable {ρ ρ':Nat→Option Pl} {F F':Nat→Prop} {w w':World} {l:List (Nat × Option Ob)}
theorem KO.get: ∀{m:List (Nat × Option Ob)},KO l m→ ∀{b:Nat} {o:Ob},Sg.get m b=some (some o)→TM l o
 |[],_,b,o,h=>by cases h
 |(b0,x)::m,hm,b,o,h=>by
  rw [aC]at h
  split at h
  ·cases h;exact hm.1
  ·cases x with
   |none=>exact KO.get (m:=m) hm h
   |some _=>exact KO.get hm.2 h
theorem FP {x:DV} {v:Value} (h:FT x=true) (hr:bJ F w x v):bJ F' w' x v:=by
 cases x<;>first|exact hr|simp [FT]at h
theorem Kk (hg: ∀b,(get l b).isSome=true→ρ' b=ρ b) {c:CV} {v:Value} (h:Ns l c=true) (hr:dH ρ F w c v):dH ρ' F' w' c v:=by
 cases c with
 |d x=>exact FP h hr
 |own b nn len=>
  have:=hg b h
  unfold dH at hr ⊢
  rw [this];exact hr
 |_=>simp [Ns]at h
theorem ER (hg: ∀b,(get l b).isSome=true→ρ' b=ρ b): ∀{cs:List CV} {vs:List Value},cs.all (Ns l)=true→bR ρ F w cs vs→bR ρ' F' w' cs vs
 |[],[],_,_=>trivial
 |c::cs,v::vs,h,⟨h1,h2⟩=>by
  simp only [List.all_cons,Bool.and_eq_true]at h
  exact⟨Kk hg h.1 h1,ER hg h.2 h2⟩
 |[],_::_,_,h=>h.elim
 |_::_,[],_,h=>h.elim
theorem Je (hg: ∀b,(get l b).isSome=true→ρ' b=ρ b) {s:SV} {v:Value} (h:Q8 l s=true) (hr:fM ρ F w s v):fM ρ' F' w' s v:=by
 cases s with
 |one c=>exact Kk hg h hr
 |agg cs=>obtain⟨vs,e,hl⟩:=hr;exact⟨vs,e,ER hg h hl⟩
theorem Gc (hg: ∀b,(get l b).isSome=true→ρ' b=ρ b): ∀{cs:List SV} {vs:List Value},cs.all (Q8 l)=true→dN ρ F w cs vs→dN ρ' F' w' cs vs
 |[],[],_,_=>trivial
 |c::cs,v::vs,h,⟨h1,h2⟩=>by
  simp only [List.all_cons,Bool.and_eq_true]at h
  exact⟨Je hg h.1 h1,Gc hg h.2 h2⟩
 |[],_::_,_,h=>h.elim
 |_::_,[],_,h=>h.elim
theorem Qc (hg: ∀b,(get l b).isSome=true→ρ' b=ρ b) {t:TV} {v:Value} (h:Vn l t=true) (hr:bB ρ F w t v):bB ρ' F' w' t v:=by
 cases t with
 |v s=>exact Je hg h hr
 |dX m=>obtain⟨vs,e,hl⟩:=hr;exact⟨vs,e,Gc hg h hl⟩
theorem OL (hg: ∀b,(get l b).isSome=true→ρ' b=ρ b) {S:Nat→Prop} {b:Nat} (hb:(get l b).isSome=true) {o:Ob} (h:TM l o) (hr:gT ρ F w S b o):gT ρ' F' w S b o:=by
 have e:=hg b hb
 cases o with
 |cells E cs=>
  obtain⟨k,cap,vs,h1,h2,h3,h4⟩:=hr
  exact⟨k,cap,vs,by rw [e];exact h1,h2,h3,ER hg h h4⟩
 |arr E esz len el=>
  rcases hr with⟨h1,h2⟩|⟨k,base,cap,h1,h2,h3⟩
  ·exact .inl ⟨by rw [e];exact h1,h2⟩
  ·refine .inr ⟨k,base,cap,by rw [e];exact h1,h2, ?_⟩
   obtain⟨vs,g1,g2,g3,g4,g5⟩:=h3
   exact⟨vs,g1,g2,g3,g4,fun i hi j hj=>by
    obtain⟨u,hu,hd⟩:=g5 i hi j hj
    exact⟨u,hu,FP (h i j) hd⟩⟩
 |_=>exact h.elim
end
theorem Fn.SL {P:Program} {f:Nat} {args args':List SV} {hin hout:List (Nat × Option Ob)} {res:TV} {frz:List Nat} {p:List Prop} (h:Fn P f args [] res hout) (he:AQ ⟨frz,[]⟩ (aR hin) args'=some (p,args)) (hp:All p)
  (hres:Vn hout res=true) (ho:KO hout hout) (hd:(hout.all fun x=>(get hin x.1).isNone)=true):Fn P f args' hin res (hin++hout):=by
 refine⟨h.1,fun B vs hF hi hr=> ?_⟩
 obtain⟨ft,hi⟩:=hi
 have hfr:Fr B B.ρ B.F B.w:=⟨rfl,rfl, .refl _,Nat.le_refl _,fun _ _ _=>rfl,fun _ _ h=>h,fun k hk=> ⟨hF k hk, .inl hk⟩,fun _ h=>h⟩
 have hr2:=yD (f:=⟨frz,[]⟩) List.nodup_nil hi he hp hr
 have hF2: ∀k,xE ft B.F (aR hin) frz k→k<B.w.heap.size:=fun k hk=>by
  rcases hk with hk|⟨b,ob,_,hob,hk⟩
  ·exact hF k hk
  ·exact(hi.blk b ob k hob hk).1
 refine Calls.mono (h.2 ⟨B.w,yO B.ρ [],xE ft B.F (aR hin) frz,(fun _=>False),0,[]⟩ vs hF2 ⟨fun _ _=>False,⟨fun _ _ hh=>by simp [aR,get]at hh,fun _ _ _ hh=>by simp [aR,get]at hh,fun _ _ _ _ _ hh=>by simp [aR,get]at hh,fun _ _=>rfl,fun x hx=> ⟨.inl (hi.gl x hx).1,(hi.gl x hx).2⟩⟩⟩ hr2) ?_
 rintro e w' ⟨v,ρ',F',rfl,h1,⟨ft1,h2⟩,h3⟩
 have hmem: ∀k,k<B.w.heap.size→w'.heap[k]? =B.w.heap[k]? :=fun k hk=>h1.mem k hk fun hh=>hh
 have hin0: ∀b,(get hout b).isSome=true→get hin b=none:=fun b hb=>by
  rw [List.all_eq_true]at hd
  have key: ∀m:List (Nat × Option Ob),(∀x∈m,(get hin x.1).isNone=true)→(get m b).isSome=true→get hin b=none:=by
   intro m
   induction m with
   |nil=>intro _ hb;simp [get]at hb
   |cons x m ih=>
    intro hm hb
    obtain⟨b0,y⟩:=x
    rw [aC]at hb
    split at hb
    ·rename_i e;have:=hm _ List.mem_cons_self;rw [←e];simpa using this
    ·exact ih (fun x hx=>hm x (List.mem_cons_of_mem _ hx)) hb
  exact key hout hd hb
 let ρ2:Nat→Option Pl:=fun b=>if(get hout b).isSome=true then ρ' b else B.ρ b
 have e2: ∀b,(get hout b).isSome=true→ρ2 b=ρ' b:=fun b hb=>if_pos hb
 have e3: ∀b, ¬ (get hout b).isSome=true→ρ2 b=B.ρ b:=fun b hb=>if_neg hb
 have hrho: ∀b q,B.ρ b=some q→ρ2 b=some q:=fun b q hq=>by
  by_cases hb:(get hout b).isSome=true
  ·have:=hi.fresh b (hin0 b hb);rw [this]at hq;cases hq
  ·rw [e3 b hb];exact hq
 have g:Gr B.ρ B.F B.w ρ2 B.F w':=⟨hrho,fun _ h=>h,fun k hk=>hmem k (hF k hk)⟩
 have hap: ∀b,get hin b=none→aR (hin++hout) b=get hout b:=fun b q=>by
  show get (hin++hout) b=_
  rw [get_append,q]
 have hap0: ∀b x,get hin b=some x→aR (hin++hout) b=some x:=fun b x q=>by
  show get (hin++hout) b=_
  rw [get_append,q]
 have hap1: ∀b,(get hout b).isSome=true→aR (hin++hout) b=get hout b:=fun b hb=>hap b (hin0 b hb)
 refine⟨v,ρ2,B.F,rfl,⟨h1.os,h1.tape,h1.output,h1.size,fun k hk _=>hmem k hk,hrho,fun k hk=> ⟨Nat.lt_of_lt_of_le (hF k hk) h1.size, .inl hk⟩,fun _ h=>h⟩,⟨fun b k=>if(get hout b).isSome=true then ft1 b k else ft b k, ?_⟩,Qc e2 hres h3⟩
 refine hi.step g hfr h1.size (fun b=>(get hout b).isSome=true) (fun b ob hb hh=> ?_) (fun b ob hb hh=> ?_) (fun b ob k hb hh hf=> ?_) (fun b b' ob ob' k hb hb' hh hh' hf hf'=> ?_) (fun k hk=> .inl hk) (fun b hh=> ?_)
 ·have hn:get hout b=none:=by cases q:get hout b with|none=>rfl|some _=>rw [q]at hb;exact absurd rfl hb
  have:aR hin b=some (some ob):=by
   show get hin b=_
   cases q:get hin b with
   |none=>rw [hap b q,hn]at hh;cases hh
   |some x=>rw [hap0 b x q]at hh;exact hh
  exact⟨this,fun k hk=>hmem k (hi.blk b ob k this hk).1,fun k=>by rw [if_neg hb]⟩
 ·rw [hap1 b hb]at hh
  have e4:(fun k=>if(get hout b).isSome=true then ft1 b k else ft b k)=ft1 b:=by funext k;rw [if_pos hb]
  show gT ρ2 B.F w' (fun k=>if(get hout b).isSome=true then ft1 b k else ft b k) b ob
  rw [e4]
  exact OL e2 hb (ho.get hh) (h2.obj b ob hh)
 ·rw [hap1 b hb]at hh
  rw [if_pos hb]at hf
  obtain⟨q1,_,q3⟩:=h2.blk b ob k hh hf
  exact .inr ⟨q3.elim (fun h=>h.elim) id,q1⟩
 ·rw [hap1 b hb]at hh
  rw [hap1 b' hb']at hh'
  rw [if_pos hb]at hf
  rw [if_pos hb']at hf'
  exact h2.dis b b' ob ob' k hh hh' hf hf'
 ·have q1:get hin b=none:=by
   cases q:get hin b with
   |none=>rfl
   |some x=>rw [hap0 b x q]at hh;cases hh
  rw [hap b q1]at hh
  rw [e3 b (by rw [hh];simp)]
  exact hi.fresh b q1
abbrev nS:DV:= .sl (some false) 0 0 fun _ _=> .nilp
structure RI where
 yb:List (Nat × Bool):=[]
 an:List (Nat × lZ):=[]
 fr:List (Nat × Nat):=[]
def nN {α:Type} (l:List (Nat × α)):List Nat:=l.map (·.1)
def V3 (frz:List Nat) (s:St):Fin:=⟨frz,s.heap.map fun p=>(p.1,p.1)⟩
def RI.on (x:RI) (frz:List Nat) (s:St):zu:={yb:=Y3 x.yb,an:=Yp x.an,fr:=Px x.fr,fin:=V3 frz s,ts:=nN s.slots}
def VI (a l:List Nat):List Nat:=l.foldl (fun acc x=>bif gU x acc then acc else x::acc) a
def WE:List Oper→Nat→List (Nat × List Nat)→List (Nat × List Nat)
 |[],_,acc=>acc
 |o::os,i,acc=>WE os (i+1) ((i,o.after.toList.foldl (fun x e=>bif Region.binds .any e then VI (VI x [e.on]) (match get acc e.on with|some l=>l|none=>[])else x) [])::acc)
def XJ (ops:Array Oper):List (Nat × List Nat):=WE ops.toList 0 []
section
variable {rd:Option Nat} {P:Program} {B:Base} {N:Nat} {L:List Nat} {T:List (Nat × TI)} {Q:Exit→St→Prop} {st st':St} {id:Nat} {ops:Array Oper} {y:Code}
theorem rg (hT:lY P T) (s:St) (cs:List Prop) (x:RI) (frz:List Nat) (hc:All cs) (hQ:Q .normal s) (he:M0 (Bn P) T ops N L (x.on frz s) st=some (cs,s):=by kernel_rfl):lC rd P B N L (.region id ops false) Q st:=
 Mk hT s _ he hc .refl hQ
theorem sz (hT:lY P T) (s:St) (x:RI) (frz:List Nat) (hQ:lC rd P B N L y Q s) (he:M0 (Bn P) T ops N L (x.on frz s) st=some ([],s):=by kernel_rfl):lC rd P B N L (.seq (.region id ops false) y) Q st:=
 Aw (Mk hT s _ he trivial .refl hQ)
theorem fz (s:St) (frz:List Nat) (he:finish L (V3 frz s) (nN s.slots) [] (uL st)=some ([],s):=by kernel_rfl):j5 B N L st s:=j5.fin _ _ he trivial
def AO {α:Type} (t:Nat) (v:α):List (Nat × α)→List (Nat × α)
 |[]=>[]
 |(k,x)::l=>bif Nat.beq k t then(k,v)::l else(k,x)::AO t v l
theorem F6 {α:Type} {t:Nat} {v:α}: ∀{l:List (Nat × α)} {n:Nat} {x:α},get (AO t v l) n=some x→(n=t∧x=v∧(get l t).isSome)∨get l n=some x
 |[],n,x,h=>by simp [AO,get]at h
 |(k,y)::l,n,x,h=>by
  unfold AO at h
  cases e:Nat.beq k t with
  |true=>
   have:=Nat.eq_of_beq_eq_true e
   subst this
   simp only [e,cond_true,aC]at h
   split at h
   ·rename_i hk;cases h;left;exact⟨hk.symm,rfl,by simp [aC]⟩
   ·rename_i hk;right;rw [aC,if_neg hk];exact h
  |false=>
   simp only [e,cond_false,aC]at h
   have hkt:k≠t:=fun q=>by subst q;simp at e
   split at h
   ·rename_i hk;right;rw [aC,if_pos hk];exact h
   ·rename_i hk
    rcases F6 h with⟨h1,h2,h3⟩|h1
    ·left;exact⟨h1,h2,by rw [aC,if_neg hkt];exact h3⟩
    ·right;rw [aC,if_neg hk];exact h1
theorem JB {b:Nat} {x y:Option Ob} (h:KI x y): ∀{l:List (Nat × Option Ob)},get l b=some x→nY l (AO b y l)
 |[],e=>by cases e
 |(k,z)::l,e=>by
  unfold AO
  rw [aC]at e
  by_cases hk:k=b
  ·subst hk
   rw [if_pos rfl]at e;cases e
   simp only [Nat.beq_refl,cond_true]
   exact⟨rfl,h,nY.refl l⟩
  ·rw [if_neg hk]at e
   have:Nat.beq k b=false:=p9 hk
   simp only [this,cond_false]
   exact⟨rfl,KI.refl z,JB h e⟩
theorem us (t:Nat) (y:TV) {x:TV} (he:get st.slots t=some x) (h:BB x y):j5 B N L st ⟨AO t y st.slots,st.heap⟩:=by
 intro a w hc
 obtain⟨⟨ρ,F,hfr,hhi,hs,dn⟩,hid,sz⟩:=hc
 refine⟨⟨ρ,F,hfr,hhi,fun t' tv ht=> ?_,dn⟩,hid,sz⟩
 rcases F6 ht with⟨rfl,rfl,_⟩|h1
 ·obtain⟨v,hv,hr⟩:=hs _ _ he
  exact⟨v,hv,h _ _ _ _ hr⟩
 ·exact hs _ _ h1
theorem uh (b:Nat) (y:Option Ob) {x:Option Ob} (he:get st.heap b=some x) (h:KI x y):j5 B N L st ⟨st.slots,AO b y st.heap⟩:=by
 intro a w hc
 obtain⟨⟨ρ,F,hfr,hhi,hs,dn⟩,hid,sz⟩:=hc
 exact⟨⟨ρ,F,hfr,hhi.le (JB h he),hs,dn⟩,hid,sz⟩
theorem cf {c:Operand} {x:Code} {b:Bool} (hb:b=false) (h:lC rd P B N L y Q st) (he:AA st c=some (.v (.one (.d (.bool b)))):=by kernel_rfl):lC rd P B N L (.cond c x y) Q st:=
 xO b he (fun hn=>absurd (hb.symm.trans hn) Bool.noConfusion) fun _=>h
theorem ck {c:Operand} {x:Code} (h:lC rd P B N L x Q st) (he:AA st c=some (.v (.one (.d (.bool true)))):=by kernel_rfl):lC rd P B N L (.cond c x y) Q st:=
 xO true he (fun _=>h) fun hn=>Bool.noConfusion hn
theorem cn {c:Operand} {x:Code} (h:lC rd P B N L y Q st) (he:AA st c=some (.v (.one (.d (.bool false)))):=by kernel_rfl):lC rd P B N L (.cond c x y) Q st:=
 xO false he (fun hn=>Bool.noConfusion hn) fun _=>h
theorem oi {α:Type} {a b:α} (h:some a=some b):a=b:=Option.some.inj h
end
theorem rl {T:List (Nat × TI)} {rs:List ResultVar} {res:TV} {hout:List (Nat × Option Ob)} {st:St} (l:List SV) (h1:Hf T st rs=some ([],l):=by kernel_rfl) (h2:Io l=res:=by kernel_rfl) (h3:st.heap=hout:=by kernel_rfl):Cw T rs res hout .ret st:=
 ⟨.inr rfl,⟨[],l,h1,trivial,h2 ▸ BB.refl _⟩,h3 ▸ nY.refl _⟩
theorem YI: ∀(n:Nat) {l l':List (Nat × Option Ob)},nY (l.drop n) (l'.drop n)→l.take n=l'.take n→nY l l'
 |0,_,_,h,_=>h
 |n+1,[],[],_,_=>trivial
 |n+1,[],_::_,_,e=>by cases e
 |n+1,_::_,[],_,e=>by cases e
 |n+1,(a,x)::l,(b,y)::l',h,e=>by
  simp only [List.take_succ_cons,List.cons.injEq,Prod.mk.injEq]at e
  obtain⟨⟨rfl,rfl⟩,e⟩:=e
  exact⟨rfl,KI.refl _,YI n h e⟩
theorem hN (n:Nat) {l l':List (Nat × Option Ob)} (h:nY (l.drop n) (l'.drop n)) (e:l.take n=l'.take n:=by kernel_rfl):nY l l':=YI n h e
end Sg

namespace Sg
open Go Go.ChangeShapes Go.WideShapes Go.RowKit Go.Deep
def Dq (w:World) (k:Nat):Prop:=k<w.heap.size
theorem Qv {w:World} {k off:Nat} {u:Value} (h:w.cell? ⟨k,off,none⟩=some u):k<w.heap.size:=by
 unfold World.cell? at h
 cases e:w.heap[k]? with
 |none=>simp [e]at h
 |some o=>exact(Array.getElem?_eq_some_iff.mp e).1
theorem cell_spot {w:World} {a:Addr} {u:Value} (h:w.cell? a=some u):a.spot=none:=by
 unfold World.cell? at h
 cases e:a.spot with
 |none=>rfl
 |some s=>
  split at h
  ·simp [e]at h
  ·cases h
structure Rd (P:Program) (t:TypeId) (n:Nat) {α:Type} (c:α→Nat→DV) (S:α→Prop):Prop where
 size:P.cellsOf t=n
 rd: ∀{H:Type} {enc:TypeId × Value→H} {w:World} {fuel:Nat} {cs:List Value} {x:DataW H × List MemPlace},DataW.trod enc P w 0 (fun _=>true) true fuel t cs=some x→
  ∃a:α,S a∧cs.length=n∧ ∀j,j<n→ ∃u,cs[j]? =some u∧bJ (Dq w) w (c a j) u
section
variable {P:Program} {t e:TypeId}
theorem Rd.int (ht:P.underlying t=some (.int .i64)) (hs:P.cellsOf t=1):Rd P t 1 (aT .i64) (fun n=> -9223372036854775808≤n∧n≤9223372036854775807):=by
 refine⟨hs,fun h=> ?_⟩
 obtain⟨n,rfl,_,hw⟩:=DataW.trod_int ht h
 refine⟨n,by simpa [Lit.wf,IntKind.min,IntKind.max,IntKind.signed,IntKind.bits]using hw,rfl,fun j hj=> ?_⟩
 have:j=0:=by omega
 subst this;exact⟨_,rfl,rfl⟩
theorem Rd.bool (ht:P.underlying t=some .bool) (hs:P.cellsOf t=1):Rd P t 1 af (fun _=>True):=by
 refine⟨hs,fun h=> ?_⟩
 obtain⟨b,rfl,_⟩:=DataW.trod_bool ht h
 refine⟨b,trivial,rfl,fun j hj=> ?_⟩
 have:j=0:=by omega
 subst this;exact⟨_,rfl,rfl⟩
open Classical in
theorem Rd.slice {n:Nat} {α:Type} [Inhabited α] {c:α→Nat→DV} {S:α→Prop} (ht:P.underlying t=some (.slice e)) (hs:P.cellsOf t=1) (hn:0<n) (he:Rd P e n c S):Rd P t 1 (QO n c) (fun l=>l.length≤9223372036854775807∧ ∀x∈l,S x):=by
 refine⟨hs,fun{H enc w fuel cs x} h=> ?_⟩
 rcases open_slice ht h with⟨rfl,_⟩|⟨a,len,cap,m,fu,D,Pl,rfl,hb,hl,hm,hmm,_,hx⟩
 ·refine⟨[],⟨by simp,by simp⟩,rfl,fun j hj=> ?_⟩
  have:j=0:=by omega
  subst this
  exact⟨_,rfl,none,0,rfl,by simp,by simp,by simp,Nat.le_refl _,by simp⟩
 ·simp only [if_true]at hmm
  subst hmm
  have hel: ∀i,i<m→ ∃y:α,S y∧ ∀j,j<n→a.spot=none∧ ∃u,w.cell? ⟨a.block,a.off+(i*n+j),none⟩=some u∧bJ (Dq w) w (c y j) u:=by
   intro i hi
   obtain⟨cs',h1,h2⟩:=hx i hi
   rw [he.size]at h1
   obtain⟨y,hy,hlen,hc⟩:=he.rd h2
   obtain⟨_,hcl,hat⟩:=World.cells?_some h1
   obtain⟨cs0,h10,h20⟩:=hx 0 (by omega)
   rw [he.size]at h10
   obtain⟨y0,_,hlen0,hc0⟩:=he.rd h20
   obtain⟨_,_,hat0⟩:=World.cells?_some h10
   obtain⟨u0,hu0,_⟩:=hc0 0 hn
   have hsp:a.spot=none:=by
    have:=(hat0 0 hn).trans hu0
    simp only [Nat.zero_mul]at this
    have h3:=cell_spot this
    simpa [Addr.add]using h3
   refine⟨y,hy,fun j hj=> ⟨hsp, ?_⟩⟩
   obtain⟨u,hu,hr⟩:=hc j hj
   refine⟨u, ?_,hr⟩
   have:=(hat j hj).trans hu
   rw [ql hsp,ql rfl]at this
   rw [←this];simp only [Nat.add_assoc]
  let pick:Nat→α:=fun i=>if h:i<m then Classical.choose (hel i h)else default
  have hpick: ∀i,i<m→S (pick i)∧ ∀j,j<n→a.spot=none∧ ∃u,w.cell? ⟨a.block,a.off+(i*n+j),none⟩=some u∧bJ (Dq w) w (c (pick i) j) u:=by
   intro i hi
   show S (dite _ _ _)∧_
   simp only [pick,dif_pos hi]
   exact Classical.choose_spec (hel i hi)
  let l:List α:=(List.range len).map pick
  have hll:l.length=len:=by simp [l]
  have hat: ∀i,i<len→at' l i=pick i:=fun i hi=>by simp [at',l,hi]
  refine⟨l,⟨by rw [hll];exact Nat.le_trans (Nat.le_trans hl hm) (by decide),fun x hx=> ?_⟩,rfl,fun j hj=> ?_⟩
  ·obtain⟨i,hi,rfl⟩:=List.mem_map.mp hx
   exact(hpick i (Nat.lt_of_lt_of_le (List.mem_range.mp hi) hl)).1
  ·have:j=0:=by omega
   subst this
   refine⟨_,rfl,some a,m, ?_,by simp,by simp,by simp,by rw [hll];exact hl,fun ad ha=> ?_⟩
   ·simp [hll]
   ·cases ha
    refine⟨fun h0=> ?_,fun i hi j hj=> ?_⟩
    ·exact((hpick 0 (by omega)).2 0 hn).1
    ·rw [hll]at hi
     obtain⟨_,u,hu,hr⟩:=(hpick i (by omega)).2 j hj
     exact⟨Qv hu,u,hu,by show bJ _ _ (c (at' l i) j) u;rw [hat i hi];exact hr⟩
theorem JX {n off:Nat} {α:Type} {c:α→Nat→DV} {w:World} {cs:List Value} {a:α} (h: ∀j,j<n→ ∃u,((cs.drop off).take n)[j]? =some u∧bJ (Dq w) w (c a j) u):
  ∀j,j<n→ ∃u,cs[off+j]? =some u∧bJ (Dq w) w (c a j) u:=by
 intro j hj
 obtain⟨u,hu,hr⟩:=h j hj
 rw [List.getElem?_take_of_lt hj,List.getElem?_drop]at hu
 exact⟨u,hu,hr⟩
theorem Rd.fields {fs:Array Field} {n:Nat} (ht:P.underlying t=some (.struct fs)) (hs:P.cellsOf t=n) {H:Type} {enc:TypeId × Value→H} {w:World} {fuel:Nat} {cs:List Value} {x:DataW H × List MemPlace}
  (h:DataW.trod enc P w 0 (fun _=>true) true fuel t cs=some x):cs.length=n∧ ∀(i:Nat) (f:Field),fs[i]? =some f→ ∃y,DataW.trod enc P w 0 (fun _=>true) true (fuel - 1) f.type ((cs.drop f.offset).take (P.cellsOf f.type))=some y:=by
 obtain⟨xs,m,rfl,_,hl,hxl,hf⟩:=DataW.trod_struct ht h
 refine⟨by rw [hl,hs],fun i f hi=> ?_⟩
 have hlt:=(Array.getElem?_eq_some_iff.mp hi).1
 have:=hf i f hi
 rw [List.getElem?_eq_getElem (by omega)]at this
 exact⟨_,this⟩
theorem Rd.field {n off:Nat} {α:Type} {c:α→Nat→DV} {S:α→Prop} (he:Rd P e n c S) {H:Type} {enc:TypeId × Value→H} {w:World} {fuel:Nat} {cs:List Value}
  (h: ∃y,DataW.trod enc P w 0 (fun _=>true) true fuel e ((cs.drop off).take (P.cellsOf e))=some y): ∃a:α,S a∧ ∀j,j<n→ ∃u,cs[off+j]? =some u∧bJ (Dq w) w (c a j) u:=by
 obtain⟨y,hy⟩:=h
 rw [he.size]at hy
 obtain⟨a,ha,hl,hc⟩:=he.rd hy
 exact⟨a,ha,JX hc⟩
theorem Rd.elems {m n:Nat} (ht:P.underlying t=some (.array m e)) (hs:P.cellsOf t=n) {H:Type} {enc:TypeId × Value→H} {w:World} {fuel:Nat} {cs:List Value} {x:DataW H × List MemPlace}
  (h:DataW.trod enc P w 0 (fun _=>true) true fuel t cs=some x):cs.length=n∧ ∀(i:Nat),i<m→ ∃y,DataW.trod enc P w 0 (fun _=>true) true (fuel - 1) e ((cs.drop (i*P.cellsOf e)).take (P.cellsOf e))=some y:=by
 obtain⟨xs,q,rfl,_,hl,hxl,hf⟩:=DataW.trod_array ht h
 refine⟨by rw [hl,hs],fun i hi=> ?_⟩
 have:=hf i hi
 rw [List.getElem?_eq_getElem (by omega)]at this
 exact⟨_,this⟩
end
section
variable {P:Program} {t:TypeId}
theorem Rd.agg {n:Nat} {α:Type} {c:α→Nat→DV} {S:α→Prop} (hr:Rd P t n c S) {fs:Array Field} (ht:P.underlying t=some (.struct fs)) {W:World} {b0:Nat} {v:Value} (hv:Value.okWide P W .any b0 t v)
  {H:Type} {enc:TypeId × Value→H} {d:DataW H} {ps:List MemPlace} (h:DataW.Trod enc P W 0 (fun _=>true) true t v d ps):
  ∃a:α,S a∧fM (fun _=>none) (Dq W) W (.agg ((List.range n).map fun j=> .d (c a j))) v:=by
 obtain⟨cs,rfl,hsz⟩:=okWide_struct ht hv
 obtain⟨fuel,hf⟩:=h
 obtain⟨a,ha,hl,hc⟩:=hr.rd hf
 refine⟨a,ha,cs.toList,by simp,bR.nV (by rw [List.length_map,List.length_range];exact hl) fun j x hx=> ?_⟩
 have hj:j<n:=by
  have:=(List.getElem?_eq_some_iff.mp hx).1
  simpa using this
 obtain⟨u,hu,hru⟩:=hc j hj
 refine⟨u,hu, ?_⟩
 simp [hj]at hx
 subst hx
 exact hru
theorem Rd.one {α:Type} {c:α→Nat→DV} {S:α→Prop} (hr:Rd P t 1 c S) {W:World} {v:Value} (hv:v.cells.toList=[v])
  {H:Type} {enc:TypeId × Value→H} {d:DataW H} {ps:List MemPlace} (h:DataW.Trod enc P W 0 (fun _=>true) true t v d ps): ∃a:α,S a∧fM (fun _=>none) (Dq W) W (.one (.d (c a 0))) v:=by
 obtain⟨fuel,hf⟩:=h
 rw [hv]at hf
 obtain⟨a,ha,hl,hc⟩:=hr.rd hf
 obtain⟨u,hu,hru⟩:=hc 0 (by omega)
 simp at hu;subst hu
 exact⟨a,ha,hru⟩
theorem QS {k:IntKind} (ht:P.underlying t=some (.int k)) {W:World} {b0:Nat} {v:Value} (hv:Value.okWide P W .any b0 t v):v.cells.toList=[v]:=by
 obtain⟨n,rfl⟩:=okWide_int ht hv;rfl
theorem M5 {e:TypeId} (ht:P.underlying t=some (.slice e)) {W:World} {b0:Nat} {v:Value} (hv:Value.okWide P W .any b0 t v):v.cells.toList=[v]:=by
 obtain⟨a,l,c,rfl⟩:=okWide_slice ht hv;rfl
theorem NI {f:FuncId} {args:List SV} {W:World} {vs:List Value} (h:Fn P f args [] (vB true) []) (hr:dN (fun _=>none) (Dq W) W args vs) (hg:GL (Dq W) W):
  Calls P f vs.toArray W fun e W'=>e= .returned (.bool true)∧Below W.heap.size W W':=by
 refine(h.2 ⟨W,fun _=>none,Dq W,(fun _=>False),0,[]⟩ vs (fun _ h=>h) ⟨fun _ _=>False, ?_⟩ hr).mono fun e W' hh=> ?_
 ·exact⟨fun b ob h=>(by cases h),fun b ob k h=>(by cases h),fun b b' ob ob' k h=>(by cases h),fun _ _=>rfl,hg⟩
 ·obtain⟨v,ρ',F',he,fr,_,hv⟩:=hh
  have hv':v= .bool true:=hv
  subst hv'
  exact⟨he,fr.os,fr.tape,fr.output,fr.size,fun k hk=>fr.mem k hk fun q=>q⟩
theorem yV {H:Type} {enc:TypeId × Value→H} (hl:laidOutB P=true) {W W':World} (hb:Below W.heap.size W W') {sp:Nat→Bool}: ∀{ts:List TypeId} {vs:List Value} {ds:List (DataW H)} {ps:List MemPlace},
  DataW.TrodAll enc P W 0 (fun _=>true) true ts vs ds ps→(∀t∈ts,P.readableRec t=true∧t<P.types.size)→(∀q∈ps,q.block<W.heap.size)→(∀q∈ps,sp q.block=true)→DataW.TrodAll enc P W' 0 sp true ts vs ds ps
 |[],vs,ds,ps,h,_,_,_=>by
  obtain⟨rfl,rfl,rfl⟩:=trodAll_nil h;rfl
 |t::ts,vs,ds,ps,h,hr,hlt,hsp=>by
  obtain⟨v,vs',d,ds',p,q,rfl,rfl,rfl,h0,h1⟩:=trodAll_cons h
  have ht:=hr t List.mem_cons_self
  exact trodAll_cons_mk (WideElems.Trod_stays hl ht.1 ht.2 h0 (fun x hx=>hb.same (hlt x (List.mem_append_left _ hx))) (fun x hx=>hsp x (List.mem_append_left _ hx)))
   (yV hl hb h1 (fun t ht=>hr t (List.mem_cons_of_mem _ ht)) (fun x hx=>hlt x (List.mem_append_right _ hx)) (fun x hx=>hsp x (List.mem_append_right _ hx)))
theorem Og {H:Type} {enc:TypeId × Value→H} {f:Func} {s:ChangeSpec} {W W':World} {args:Array Value} {ds gs:List (DataW H)} {before:List MemPlace} {t4:TypeId} (hs:s.vars=[])
  (hW:DataW.Whole enc P f.params.toList s.vars false W args.toList ds gs before) (h1:(s.fn H (ds++gs)).results=[.lit (.bool true)]) (h2:(s.fn H (ds++gs)).args=ds) (h3:(s.fn H (ds++gs)).vars=[])
  (hr:f.resultTypes= #[t4]) (h4:P.underlying t4=some .bool) (hl:laidOutB P=true) (hread: ∀t∈f.params.toList,P.readableRec t=true∧t<P.types.size) (hb:Below W.heap.size W W'):
  s.post enc P f false true false false W args (.bool true) W':=by
 have hlt:=hW.lt
 have hW':=hW
 obtain⟨p,q,hA,hV,rfl,_,_⟩:=hW
 rw [hs]at hV
 obtain⟨_,rfl⟩:=trodVars_none hV
 rw [List.append_nil]at hW' hlt
 refine⟨ds,gs,p,[],p,[],hW', ?_, ?_, ?_,hb.frame _,fun h=>by cases h⟩
 ·rw [h1,hr]
  exact trodAll_cons_mk (p:=[]) (p':=[]) (shut_bool h4 true) trodAll_mk0
 ·rw [h2]
  exact yV hl hb hA hread (fun x hx=>hlt x hx) (fun x hx=>by simpa using hlt x hx)
 ·rw [hs,h3];rfl
end
end Sg

namespace Sg
open Go Go.ChangeMaps
section
variable {P:Program} {B:Base} {N:Nat} {L:List Nat} {st:St} {rd:Option Nat}
theorem gY {ops:Array Oper} {Q:Exit→Act→World→Prop} {i:Nat} {o:Oper} {a:Act} {w w':World} {v:Value} {K:Act→World→Prop} (ho:ops[i]? =some o) (hg:o.guard=none) (hrun:(execOp a.eval o).run P w= .ok (.value v) w') (hK:K (a.put o.dst v) w'):wpOpIn (FW rd) 0 P ops Q i K a w:=by
 unfold wpOpIn
 rw [ho]
 simp only [Region.wanted,hg,if_true]
 refine rE rd (kM hrun (fun _ h=>by cases h)) ?_
 simp only [Oper.wp,hrun,Oper.upon]
 exact hK
theorem qh {ρ:Nat→Option Pl} {F:Nat→Prop} {w:World} {sl:List (Nat × TV)} {a:Act} {d:Nat} {tv:TV} {v:Value} (hs: ∀t tv,get sl t=some tv→ ∃v,a.tmps[t]? =some v∧bB ρ F w tv v) (hd:d<a.tmps.size) (hr:bB ρ F w tv v):
  ∀t tv',get ((d,tv)::sl) t=some tv'→ ∃v',(a.put (some d) v).tmps[t]? =some v'∧bB ρ F w tv' v':=by
 intro t tv' ht
 rw [aC]at ht
 split at ht
 ·rename_i e;subst e;cases ht
  exact⟨v,by simp [Act.put,hd],hr⟩
 ·rename_i e
  obtain⟨u,hu,hr'⟩:=hs t tv' ht
  exact⟨u,by simp only [Act.put];rw [Array.getElem?_setIfInBounds_ne e];exact hu,hr'⟩
theorem eval_put_ne {a:Act} {d t:Nat} {v:Value} (h:t≠d):(a.put (some d) v).eval (.tmp t)=a.eval (.tmp t):=by
 simp only [Act.eval,Act.put,Array.getD_eq_getD_getElem?]
 rw [Array.getElem?_setIfInBounds_ne (Ne.symm h)]
theorem yu {a:Act} {d:Nat} {v:Value} (h:d<a.tmps.size):(a.put (some d) v).eval (.tmp d)=v:=by simp [Act.eval,Act.put,h]
structure It (B:Base) (N:Nat) (L:List Nat) (st:St) (it kit km:Nat) (es:Array MapEntry) (seen:Array Nat) (a:Act) (w:World):Prop where
 ex: ∃ρ F ft,Fr B ρ F w∧mZ B ρ F w (aR st.heap) ft∧(∀t tv,get st.slots t=some tv→ ∃v,a.tmps[t]? =some v∧bB ρ F w tv v)∧Marks B F w a.defers∧ρ it=some (.blk kit 0 0)∧
  ∀k,k=kit∨k=km→ ¬ F k∧ ∀b ob,aR st.heap b=some (some ob)→ ¬ ft b k
 ids: ∀b p,B.ρ b=some p→b∈L
 sz:a.tmps.size=N
 bit:B.w.heap.size≤kit
 itx:w.heap[kit]? =some (.mapIter (some km) es.size seen es.size)
 mpx:w.heap[km]? =some (.map es es.size)
theorem lt_of_heap {w:World} {k:Nat} {o:Obj} (h:w.heap[k]? =some o):k<w.heap.size:=(Array.getElem?_eq_some_iff.1 h).1
theorem It.Pv {it kit km:Nat} {es:Array MapEntry} {seen:Array Nat} {a:Act} {w:World} (h:It B N L st it kit km es seen a w):Conc B N L st a w:=by
 obtain⟨⟨ρ,F,ft,h1,h2,h3,h4,_⟩,h5,h6,_,_,_⟩:=h
 exact⟨⟨ρ,F,h1,⟨ft,h2⟩,h3,h4⟩,h5,h6⟩
theorem It.base {it kit km:Nat} {es:Array MapEntry} {seen:Array Nat} {a:Act} {w:World} (h:It B N L st it kit km es seen a w):
  ∃B',Conc B' N (it::L) st a w∧ ∀st' a' w',Conc B' N (it::L) st' a' w'→It B N L st' it kit km es seen a' w':=by
 obtain⟨⟨ρ,F,ft,fr,hi,hs,dn,hit,hK⟩,ids,sz,bit,itx,mpx⟩:=h
 have lk: ∀k,k=kit∨k=km→k<w.heap.size:=fun k hk=>hk.elim (fun e=>e ▸ lt_of_heap itx) (fun e=>e ▸ lt_of_heap mpx)
 let B':Base:=⟨w,(fun x=>if x=it then some (.blk kit 0 0)else B.ρ x),F,(fun k=> ∃b ob,aR st.heap b=some (some ob)∧ft b k),B.mb,B.df⟩
 have nK: ∀k,k=kit∨k=km→ ¬ B'.Ft k:=fun k hk ⟨b,ob,h1,h2⟩=>(hK k hk).2 b ob h1 h2
 refine⟨B',⟨⟨ρ,F,⟨rfl,rfl, .refl _,Nat.le_refl _,fun _ _ _=>rfl,fun b p e=> ?_,fun k hk=> ⟨(fr.fz k hk).1, .inl hk⟩,fun _ h=>h⟩,⟨ft,hi.obj,fun b ob k hb hf=> ⟨(hi.blk b ob k hb hf).1,(hi.blk b ob k hb hf).2.1, .inl ⟨b,ob,hb,hf⟩⟩,hi.dis,hi.fresh,hi.gl⟩,hs, ?_⟩,fun b p e=> ?_,sz⟩, ?_⟩
 ·by_cases hb:b=it
  ·subst hb
   have e:(if b=b then some (.blk kit 0 0)else B.ρ b)=some p:=e
   rw [if_pos rfl]at e
   rw [hit,e]
  ·have e:(if b=it then some (.blk kit 0 0)else B.ρ b)=some p:=e
   rw [if_neg hb]at e
   exact fr.rho b p e
 ·obtain⟨d0,Ds,d1,d2,d3⟩:=dn
  exact⟨Nat.le_trans d0 fr.size,Ds,d1,d2,d3⟩
 ·by_cases hb:b=it
  ·subst hb;exact List.mem_cons_self
  ·have e:(if b=it then some (.blk kit 0 0)else B.ρ b)=some p:=e
   rw [if_neg hb]at e
   exact List.mem_cons_of_mem _ (ids b p e)
 ·rintro st' a' w' ⟨⟨ρ',F',fr',⟨ft',hi'⟩,hs',dn'⟩,_,sz'⟩
  have inB: ∀k,(B'.Ft k∨w.heap.size≤k)→B.Ft k∨B.w.heap.size≤k:=fun k hk=>by
   rcases hk with⟨b,ob,h1,h2⟩|hk
   ·exact(hi.blk b ob k h1 h2).2.2
   ·exact .inr (Nat.le_trans fr.size hk)
  have hit':ρ' it=some (.blk kit 0 0):=fr'.rho it _ (if_pos rfl)
  have hmem: ∀k,k=kit∨k=km→w'.heap[k]? =w.heap[k]? :=fun k hk=>fr'.mem k (lk k hk) (nK k hk)
  refine⟨⟨ρ',F',ft',⟨fr'.os.trans fr.os,fr'.tape.trans fr.tape,fr'.output.trans fr.output,Nat.le_trans fr.size fr'.size,fun k hk hn=> ?_,fun b p e=> ?_,fun k hk=> ?_,fun k hk=>fr'.bf k (fr.bf k hk)⟩,⟨hi'.obj,fun b ob k hb hf=> ?_,hi'.dis,hi'.fresh,hi'.gl⟩,hs', ?_,hit',fun k hk=> ⟨fun hf=> ?_,fun b ob hb hf=> ?_⟩⟩,ids,sz',bit,(hmem _ (.inl rfl)).trans itx,(hmem _ (.inr rfl)).trans mpx⟩
  ·refine(fr'.mem k (Nat.lt_of_lt_of_le hk fr.size) fun⟨b,ob,h1,h2⟩=> ?_).trans (fr.mem k hk hn)
   rcases(hi.blk b ob k h1 h2).2.2 with h|h
   ·exact hn h
   ·omega
  ·apply fr'.rho
   show(if b=it then some (.blk kit 0 0)else B.ρ b)=some p
   by_cases hb:b=it
   ·subst hb
    have:=fr.rho b p e
    rw [if_pos rfl,←hit,this]
   ·rw [if_neg hb];exact e
  ·obtain⟨x1,x2⟩:=fr'.fz k hk
   refine⟨x1, ?_⟩
   rcases x2 with x2|x2
   ·exact(fr.fz k x2).2
   ·exact .inr (inB k x2)
  ·obtain⟨x1,x2,x3⟩:=hi'.blk b ob k hb hf
   exact⟨x1,x2,inB k x3⟩
  ·obtain⟨_,Ds,d1,d2,d3⟩:=dn'
   exact⟨dn.1,Ds,d1,d2,d3⟩
  ·have:=lk k hk
   rcases(fr'.fz k hf).2 with x|x|x
   ·exact(hK k hk).1 x
   ·exact nK k hk x
   ·exact absurd x (by show ¬ w.heap.size≤k;omega)
  ·have:=lk k hk
   rcases(hi'.blk b ob k hb hf).2.2 with x|x
   ·exact nK k hk x
   ·exact absurd x (by show ¬ w.heap.size≤k;omega)
theorem It.put {it kit km:Nat} {es:Array MapEntry} {seen:Array Nat} {a:Act} {w:World} (h:It B N L st it kit km es seen a w) {d:Nat} {tv:TV} {v:Value} (hd:d<N) (hr: ∀ρ F w,bB ρ F w tv v):
  It B N L ⟨(d,tv)::st.slots,st.heap⟩ it kit km es seen (a.put (some d) v) w:=by
 obtain⟨⟨ρ,F,ft,fr,hi,hs,dn,hit,hK⟩,ids,sz,bit,itx,mpx⟩:=h
 exact⟨⟨ρ,F,ft,fr,hi,qh hs (by omega) (hr _ _ _),dn,hit,hK⟩,ids,by simp [Act.put,sz],bit,itx,mpx⟩
theorem It.turn {it kit km:Nat} {es:Array MapEntry} {seen seen':Array Nat} {a:Act} {w w':World} (h:It B N L st it kit km es seen a w) (ho:w'.os=w.os) (ht:w'.tape=w.tape) (hp:OD w' w)
  (hh:w'.heap=w.heap.setIfInBounds kit (.mapIter (some km) es.size seen' es.size)):It B N L st it kit km es seen' a w':=by
 obtain⟨⟨ρ,F,ft,fr,hi,hs,dn,hit,hK⟩,ids,sz,bit,itx,mpx⟩:=h
 have hlt:=lt_of_heap itx
 have hold: ∀k,k≠kit→w'.heap[k]? =w.heap[k]? :=fun k hk=>by rw [hh,Array.getElem?_setIfInBounds_ne (Ne.symm hk)]
 have hsz:w'.heap.size=w.heap.size:=by rw [hh,Array.size_setIfInBounds]
 have hkk:km≠kit:=fun e=>by subst e;rw [itx]at mpx;cases mpx
 have g:Gr ρ F w ρ F w':=⟨fun _ _ h=>h,fun _ h=>h,fun k hk=>hold k fun e=>(hK kit (.inl rfl)).1 (e ▸ hk)⟩
 refine⟨⟨ρ,F,ft,⟨ho.trans fr.os,ht.trans fr.tape,hp.trans fr.output,by rw [hsz];exact fr.size,fun k hk hn=>(hold k (by omega)).trans (fr.mem k hk hn),fr.rho,fun k hk=> ⟨by rw [hsz];exact(fr.fz k hk).1,(fr.fz k hk).2⟩,fr.bf⟩,
  ⟨fun b ob hb=>(hi.obj b ob hb).keep g (fun _ h=>h) fun k hk=>hold k fun e=>(hK kit (.inl rfl)).2 b ob hb (e ▸ hk),fun b ob k hb hf=> ⟨by rw [hsz];exact(hi.blk b ob k hb hf).1,(hi.blk b ob k hb hf).2⟩,hi.dis,hi.fresh,hi.gl.gr g⟩,
  fun t tv h=> ?_,dn.gr g,hit,hK⟩,ids,sz,bit,by rw [hh];simp [hlt],by rw [hold km hkk];exact mpx⟩
 obtain⟨v,hv,hr⟩:=hs t tv h
 exact⟨v,hv,hr.gr g⟩
theorem It.eval {it kit km:Nat} {es:Array MapEntry} {seen:Array Nat} {a:Act} {w:World} (h:It B N L st it kit km es seen a w) {t:Nat} (hsl:get st.slots t=some (.v (.one (.ptr it 0)))):a.eval (.tmp t)= .pointer (some ⟨kit,0,none⟩):=by
 obtain⟨⟨ρ,F,ft,fr,hi,hs,dn,hit,hK⟩,_⟩:=h
 obtain⟨v,hv,k,base,cap,h1,h2⟩:=hs _ _ hsl
 rw [hit]at h1;cases h1
 simp [Act.eval,hv,h2]
structure Es (es:Array MapEntry) (n:Nat) (sV valS:Nat→SV):Prop where
 sz:es.size=n
 at_: ∀i,i<n→ ∃e,es[i]? =some e∧e.born=i∧(∀ρ F w,fM ρ F w (sV i) e.key)∧ ∀ρ F w,fM ρ F w (valS i) e.val
theorem Es.born {es:Array MapEntry} {n:Nat} {sV valS:Nat→SV} (h:Es es n sV valS):es.toList.map (·.born)=List.range n:=by
 apply List.ext_getElem?
 intro i
 rw [List.getElem?_map,Array.getElem?_toList]
 by_cases hi:i<n
 ·obtain⟨e,h1,h2,_⟩:=h.at_ i hi
  rw [h1,List.getElem?_range hi]
  simp [h2]
 ·rw [Array.getElem?_eq_none (by rw [h.sz];omega),List.getElem?_eq_none (by simp;omega)];rfl
theorem Es.mem {es:Array MapEntry} {n:Nat} {sV valS:Nat→SV} (h:Es es n sV valS) {e:MapEntry} (he:e∈es.toList):e.born<n∧es[e.born]? =some e:=by
 obtain⟨i,hi,rfl⟩:=List.mem_iff_getElem.1 he
 have hi2:i<n:=by rw [←h.sz];simpa using hi
 obtain⟨e',h1,h2,_⟩:=h.at_ i hi2
 have:es[i]? =some (es.toList[i]):=by rw [←Array.getElem?_toList,List.getElem?_eq_getElem hi]
 rw [this]at h1;cases h1
 rw [h2]
 exact⟨hi2,this⟩
theorem It.next {it kit km n:Nat} {sV valS:Nat→SV} {es:Array MapEntry} {seen:Array Nat} {a:Act} {w:World} (h:It B N L st it kit km es seen a w) (hes:Es es n sV valS)
  {o0 o1:Oper} {t2 t3 t4 id:Nat} (e0:o0.op= .next (.tmp t2) false) (g0:o0.guard=none) (d0:o0.dst=some t3) (e1:o1.op= .extract (.tmp t3) 0) (g1:o1.guard=none) (d1:o1.dst=some t4) (h3:t3<N) (h4:t4<N)
  (hsl:get st.slots t2=some (.v (.one (.ptr it 0)))) {Q:Exit→Act→World→Prop}
  (hend:(∀i,i<n→i∈seen)→ ∀a' w',It B N L ⟨(t4,vB false)::(t3, .dX [.one (.d (.bool false))])::st.slots,st.heap⟩ it kit km es seen a' w'→Q .normal a' w')
  (hmore: ∀i,i<n→i ∉ seen→ ∀a' w',It B N L ⟨(t4,vB true)::(t3, .dX [.one (.d (.bool true)),sV i,valS i])::st.slots,st.heap⟩ it kit km es (seen.push i) a' w'→Q .normal a' w'):
  (Code.region id #[o0,o1] false).wpIn (FW rd) 0 P Q a w:=by
 refine wpIn_region ?_
 show wpOpsIn _ _ _ _ _ [0,1] a w
 have hev:=h.eval hsl
 have hbd: ∀x∈es.toList,x.born<es.size:=fun x hx=>by rw [hes.sz];exact(hes.mem hx).1
 have hput: ∀(w':World) (v:Value),(execOp (a.put (some t3) v).eval o1).run P w'=(Instr.extract v 0>>=fun v=>pure (Next.value v):Sem Next).run P w':=fun w' v=>by
  have:(a.put (some t3) v).eval (.tmp t3)=v:=by simp [Act.eval,Act.put,h.sz,h3]
  simp only [execOp,e1,this]
 rcases run_next_at (P:=P) w o0.type kit km es.size es.size seen es es.size h.itx h.mpx hbd (Nat.le_refl _)with⟨hl,hrun⟩|⟨e,he,w1,hw1,hrun⟩
 ·rw [wpOpsIn_cons]
  refine gY (o:=o0) rfl g0 (v:= .tuple #[.bool false]) (w':=w) ?_ ?_
  ·simp only [execOp,e0,hev,Sem.run_bind,hrun,Result.andThen_ok,Sem.run_pure]
  rw [wpOpsIn_cons]
  refine gY (o:=o1) rfl g1 (v:= .bool false) (w':=w) ?_ ?_
  ·rw [d0,hput];simp [Instr.extract]
  rw [d0,d1]
  refine hend (fun i hi=> ?_) _ _ ((h.put (tv:= .dX [.one (.d (.bool false))]) h3 fun ρ F w=> ⟨[.bool false],rfl,rfl,trivial⟩).put (tv:=vB false) h4 fun ρ F w=>rfl)
  obtain⟨e,q1,q2,_⟩:=hes.at_ i hi
  apply Classical.byContradiction
  intro hns
  have:e∈leftOf es seen:=by
   unfold leftOf
   rw [Array.mem_filter]
   exact⟨Array.mem_of_getElem? q1,by simp [q2,hns]⟩
  have:=Array.size_pos_of_mem this
  omega
 ·have hel:e∈es∧e.born ∉ seen:=by
   have:e∈leftOf es seen:=by simpa using he
   unfold leftOf at this
   rw [Array.mem_filter]at this
   exact⟨this.1,by simpa using this.2⟩
  obtain⟨m1,m2⟩:=hes.mem (by simpa using hel.1)
  obtain⟨e',q1,q2,q3,q4⟩:=hes.at_ _ m1
  rw [m2]at q1;cases q1
  rw [wpOpsIn_cons]
  refine gY (o:=o0) rfl g0 (v:= .tuple #[.bool true,e.key,e.val]) (w':=setBlock w1 kit (.mapIter (some km) es.size (seen.push e.born) es.size)) ?_ ?_
  ·simp only [execOp,e0,hev,Sem.run_bind,hrun,Result.andThen_ok,Sem.run_pure]
  rw [wpOpsIn_cons]
  refine gY (o:=o1) rfl g1 (v:= .bool true) (w':=setBlock w1 kit (.mapIter (some km) es.size (seen.push e.born) es.size)) ?_ ?_
  ·rw [d0,hput];simp [Instr.extract]
  rw [d0,d1]
  have h':It B N L st it kit km es (seen.push e.born) a (setBlock w1 kit (.mapIter (some km) es.size (seen.push e.born) es.size)):=by
   rcases hw1 with rfl|rfl
   ·exact h.turn rfl rfl rfl rfl
   ·exact h.turn rfl rfl rfl rfl
  exact hmore _ m1 hel.2 _ _ ((h'.put (tv:= .dX [.one (.d (.bool true)),sV e.born,valS e.born]) h3 fun ρ F w=> ⟨[.bool true,e.key,e.val],rfl,rfl,q3 _ _ _,q4 _ _ _,trivial⟩).put (tv:=vB true) h4 fun ρ F w=>rfl)
def YO (rd:Option Nat) (P:Program) (B:Base) (N:Nat) (L:List Nat) (ops:Array Oper) (l:List Nat) (Qs:St→Prop) (st:St):Prop:=
 ∀Q:Exit→Act→World→Prop,(∀st' a w,Qs st'→Conc B N L st' a w→Q .normal a w)→ ∀a w,Conc B N L st a w→wpOpsIn (FW rd) 0 P ops Q l a w
def MB (Fc:Cl→List SV→List (Nat × Option Ob)→TV→List (Nat × Option Ob)→Prop) (T:List (Nat × TI)) (ops:Array Oper) (l:List Nat) (N:Nat) (L:List Nat) (x:zu) (st:St):Option (List Prop × St):=
 match run Fc T ops.toList x.yb x.an x.fr N l (uL st)with
 |some (cs,r)=>finish L x.fin x.ts cs r
 |none=>none
theorem YZ {T:List (Nat × TI)} (hT:lY P T) {ops:Array Oper} {l:List Nat} {Qs:St→Prop} {st':St} (s:St) (x:zu) {cs:List Prop} (he:MB (Bn P) T ops l N L x st=some (cs,s)) (hc:All cs) (hi:j5 B N L s st') (hQ:Qs st'):YO rd P B N L ops l Qs st:=by
 intro Q hq a w hconc
 unfold MB at he
 split at he
 ·rename_i cs0 r hrun
  have hid:=hconc.ids
  exact BI hT hrun (pQ he hc) (rz hconc) fun a' w' hrc=>hq _ _ _ hQ (hi _ _ (oM he hc hrc hid))
 ·cases he
theorem It.entry {it kit km n i:Nat} {sV valS:Nat→SV} {es:Array MapEntry} {seen:Array Nat} {a:Act} {w:World} (h:It B N L st it kit km es (seen.push i) a w) (hes:Es es n sV valS) (hi:i<n)
  {ops:Array Oper} {l:List Nat} {o0 o1 o2:Oper} {t2 t5 t6 t7 id:Nat} (hl:List.range ops.size=0::1::2::l) (p0:ops[0]? =some o0) (p1:ops[1]? =some o1) (p2:ops[2]? =some o2)
  (e0:o0.op= .entry (.tmp t2)) (g0:o0.guard=none) (d0:o0.dst=some t5) (e1:o1.op= .extract (.tmp t5) 0) (g1:o1.guard=none) (d1:o1.dst=some t6) (e2:o2.op= .extract (.tmp t5) 1) (g2:o2.guard=none) (d2:o2.dst=some t7)
  (h5:t5<N) (h6:t6<N) (h7:t7<N) (n56:t5≠t6)
  (hsl:get st.slots t2=some (.v (.one (.ptr it 0)))) {Q:Exit→Act→World→Prop}
  (hQ: ∀a' w',It B N L ⟨(t7, .v (valS i))::(t6, .v (sV i))::(t5, .dX [sV i,valS i])::st.slots,st.heap⟩ it kit km es (seen.push i) a' w'→wpOpsIn (FW rd) 0 P ops Q l a' w'):
  (Code.region id ops false).wpIn (FW rd) 0 P Q a w:=by
 refine wpIn_region ?_
 rw [hl]
 have hev:=h.eval hsl
 obtain⟨e,q1,q2,q3,q4⟩:=hes.at_ i hi
 have hmem:e∈es.toList:=by rw [←Array.getElem?_toList]at q1;exact List.mem_of_getElem? q1
 have hrun:=run_entry_at (P:=P) w kit km es.size seen es es.size e (by rw [q2];exact h.itx) h.mpx hmem (by rw [hes.born];exact List.nodup_range)
 have sz:=h.sz
 rw [wpOpsIn_cons]
 refine gY (o:=o0) p0 g0 (v:= .tuple #[e.key,e.val]) (w':=w) ?_ ?_
 ·simp only [execOp,e0,hev,Sem.run_bind,hrun,Result.andThen_ok,Sem.run_pure]
 rw [d0,wpOpsIn_cons]
 refine gY (o:=o1) p1 g1 (v:=e.key) (w':=w) ?_ ?_
 ·have:(a.put (some t5) (.tuple #[e.key,e.val])).eval (.tmp t5)= .tuple #[e.key,e.val]:=by simp [Act.eval,Act.put,sz,h5]
  simp [execOp,e1,this,Instr.extract]
 rw [d1,wpOpsIn_cons]
 refine gY (o:=o2) p2 g2 (v:=e.val) (w':=w) ?_ ?_
 ·have:((a.put (some t5) (.tuple #[e.key,e.val])).put (some t6) e.key).eval (.tmp t5)= .tuple #[e.key,e.val]:=by
   rw [eval_put_ne n56,yu (by omega)]
  simp [execOp,e2,this,Instr.extract]
 rw [d2]
 exact hQ _ _ (((h.put (tv:= .dX [sV i,valS i]) h5 fun ρ F w=> ⟨[e.key,e.val],rfl,q3 _ _ _,q4 _ _ _,trivial⟩).put (tv:= .v (sV i)) h6 fun ρ F w=>q3 _ _ _).put (tv:= .v (valS i)) h7 fun ρ F w=>q4 _ _ _)
def Qp (s:SV):Prop:= ∀ρ F w ρ' F' w' v,fM ρ F w s v→fM ρ' F' w' s v
theorem It.start {a:Act} {w:World} (hc:Conc B N L st a w) {tm t1 t2 b it id:Nat} {T K V:TypeId} {m:K5} {sV valS:Nat→SV} {o0 o1:Oper}
  (e0:o0.op= .move (.tmp tm)) (g0:o0.guard=none) (d0:o0.dst=some t1) (e1:o1.op= .range T (.tmp t1)) (g1:o1.guard=none) (d1:o1.dst=some t2) (h1:t1<N) (h2:t2<N)
  (hT:P.underlying T=some (.map K V)) (hsl:get st.slots tm=some (.v (.one (.mp b)))) (hb:get st.heap b=some (some (.map m))) (hit:get st.heap it=none)
  (hk: ∀i,i<m.len→ko m.kagg (dZ (fun j=> .d (m.key i j)) 0 m.ksz)=some (sV i)∧ko m.vagg (dZ (m.val i) 0 m.vsz)=some (valS i)) (hp: ∀i,i<m.len→Qp (sV i)∧Qp (valS i)) {Q:Exit→Act→World→Prop}
  (hQ: ∀es kit km a' w',Es es m.len sV valS→It B N L ⟨(t2,vP it 0)::(t1, .v (.one (.mp b)))::st.slots,(it,none)::(b,none)::st.heap⟩ it kit km es #[] a' w'→Q .normal a' w'):
  (Code.region id #[o0,o1] false).wpIn (FW rd) 0 P Q a w:=by
 obtain⟨⟨ρ,F,fr,⟨ft,hi⟩,hs,dn⟩,ids,sz⟩:=hc
 obtain⟨v,hv,hvr⟩:=hs _ _ hsl
 have hvr':=hvr
 obtain⟨km,base,cap,hρ,rfl⟩:=hvr
 obtain⟨km',base',cap',es,r1,r2,r3,r4,r5,r6⟩:=hi.obj b _ hb
 rw [hρ]at r1;cases r1
 have hes:Es es m.len sV valS:=⟨r4,fun i hi'=>by
  obtain⟨e,q1,q2,⟨s1,q3,q4⟩,⟨s2,q5,q6⟩⟩:=r6 i hi'
  rw [(hk i hi').1]at q3;cases q3
  rw [(hk i hi').2]at q5;cases q5
  exact⟨e,q1,q2,fun ρ' F' w'=>(hp i hi').1 _ _ _ _ _ _ _ q4,fun ρ' F' w'=>(hp i hi').2 _ _ _ _ _ _ _ q6⟩⟩
 have hitb:it≠b:=fun e=>by subst e;rw [hit]at hb;cases hb
 have hρit:ρ it=none:=hi.fresh it hit
 have hmb:=hi.blk b _ km hb r2
 refine wpIn_region ?_
 show wpOpsIn _ _ _ _ _ [0,1] a w
 rw [wpOpsIn_cons]
 have hevm:a.eval (.tmp tm)= .map (some km):=by simp [Act.eval,hv]
 refine gY (o:=o0) rfl g0 (v:= .map (some km)) (w':=w) (by simp [execOp,e0,hevm]) ?_
 rw [d0,wpOpsIn_cons]
 let w1:World:=w.alloc (.mapIter (some km) es.size #[] es.size)
 have hev1:(a.put (some t1) (.map (some km))).eval (.tmp t1)= .map (some km):=yu (by omega)
 refine gY (o:=o1) rfl g1 (v:= .pointer (some ⟨w.heap.size,0,none⟩)) (w':=w1) ?_ ?_
 ·simp only [execOp,e1,hev1,Sem.run_bind,run_range_map w T K V km es es.size hT r3,Result.andThen_ok,Sem.run_pure];rfl
 rw [d1]
 have hsz1:w1.heap.size=w.heap.size+1:=by show(w.heap.push _).size=_;simp
 have hold: ∀k,k<w.heap.size→w1.heap[k]? =w.heap[k]? :=fun k hk=>heap_alloc_old w _ hk
 have hupd: ∀x p,ρ x=some p→bE ρ it (.blk w.heap.size 0 0) x=some p:=aO hρit
 have g:Gr ρ F w (bE ρ it (.blk w.heap.size 0 0)) F w1:=⟨hupd,fun _ h=>h,fun k hk=>hold k (fr.fz k hk).1⟩
 have hget: ∀x ob,aR ((it,none)::(b,none)::st.heap) x=some (some ob)→get st.heap x=some (some ob)∧x≠b∧x≠it:=by
  intro x ob hx
  unfold aR at hx
  rw [aC,aC]at hx
  split at hx
  ·cases hx
  ·rename_i n1
   split at hx
   ·cases hx
   ·rename_i n2;exact⟨hx,Ne.symm n2,Ne.symm n1⟩
 refine hQ es w.heap.size km _ _ hes ⟨⟨bE ρ it (.blk w.heap.size 0 0),F,ft,⟨fr.os,fr.tape,fr.output,by rw [hsz1];exact Nat.le_succ_of_le fr.size,fun k hk hn=>(hold k (Nat.lt_of_lt_of_le hk fr.size)).trans (fr.mem k hk hn),fun x p e=>hupd x p (fr.rho x p e),fun k hk=> ⟨by rw [hsz1];exact Nat.lt_succ_of_lt (fr.fz k hk).1,(fr.fz k hk).2⟩,fr.bf⟩,
  ⟨fun x ob hx=> ?_,fun x ob k hx hf=> ?_,fun x x' ob ob' k hx hx'=>hi.dis x x' ob ob' k (hget x ob hx).1 (hget x' ob' hx').1,fun x hx=> ?_,hi.gl.gr g⟩, ?_,dn.gr g,ay _ _,fun k hk=> ?_⟩,ids,by simp [Act.put,sz],fr.size,heap_alloc_new w _,by rw [hold km hmb.1];exact r3⟩
 ·exact(hi.obj x ob (hget x ob hx).1).keep g (fun _ h=>h) fun k hk=>hold k (hi.blk x ob k (hget x ob hx).1 hk).1
 ·obtain⟨y1,y2,y3⟩:=hi.blk x ob k (hget x ob hx).1 hf
  exact⟨by rw [hsz1];omega,y2,y3⟩
 ·unfold aR at hx
  rw [aC,aC]at hx
  split at hx
  ·cases hx
  ·rename_i n1
   split at hx
   ·cases hx
   ·unfold bE;rw [if_neg (Ne.symm n1)];exact hi.fresh x hx
 ·refine qh (qh (fun t tv ht=> ?_) (by omega) ?_) (by simp [Act.put];omega) ?_
  ·obtain⟨u,hu,hr⟩:=hs t tv ht
   exact⟨u,hu,hr.gr g⟩
  ·exact bB.gr g (s:= .v (.one (.mp b))) hvr'
  ·exact⟨w.heap.size,0,0,ay _ _,rfl⟩
 ·rcases hk with rfl|rfl
  ·exact⟨fun hf=>by have:=(fr.fz _ hf).1;omega,fun x ob hx hf=>by have:=(hi.blk x ob _ (hget x ob hx).1 hf).1;omega⟩
  ·exact⟨hmb.2.1,fun x ob hx hf=>(hget x ob hx).2.1 (hi.dis x b ob _ k (hget x ob hx).1 hb hf r2)⟩
def Q7 (N t1 t2 t3 t4 t5 t6 t7:Nat):Bool:=Nat.blt t1 N && Nat.blt t2 N && Nat.blt t3 N && Nat.blt t4 N && Nat.blt t5 N && Nat.blt t6 N && Nat.blt t7 N && !(Nat.beq t5 t6) && !(Nat.beq t3 t2) && !(Nat.beq t4 t2)
theorem Ng {N t1 t2 t3 t4 t5 t6 t7:Nat} (h:Q7 N t1 t2 t3 t4 t5 t6 t7=true):(t1<N∧t2<N∧t3<N∧t4<N∧t5<N∧t6<N∧t7<N)∧t5≠t6∧t3≠t2∧t4≠t2:=by
 unfold Q7 at h
 have lt: ∀a b,Nat.blt a b=true→a<b:=fun a b h=>Nat.le_of_ble_eq_true h
 have ne: ∀a b,(!(Nat.beq a b))=true→a≠b:=fun a b h e=>by subst e;simp at h
 simp only [Bool.and_eq_true]at h
 obtain⟨⟨⟨⟨⟨⟨⟨⟨⟨a1,a2⟩,a3⟩,a4⟩,a5⟩,a6⟩,a7⟩,a8⟩,a9⟩,a10⟩:=h
 exact⟨⟨lt _ _ a1,lt _ _ a2,lt _ _ a3,lt _ _ a4,lt _ _ a5,lt _ _ a6,lt _ _ a7⟩,ne _ _ a8,ne _ _ a9,ne _ _ a10⟩
theorem j5.VY {b c l E esz len:Nat} {el:Nat→Nat→DV} (hb:get st.heap b=some (some (.arr E esz len el))) (hc:get st.heap c=some (some (.suf b l esz))) (hl:l≤len) (hz:esz≠0):
  j5 B N L st ⟨st.slots,(c,some (.arr E esz (len - l) fun i j=>el (i+l) j))::(b,none)::st.heap⟩:=by
 rintro a w ⟨⟨ρ,F,fr,⟨ft,hi⟩,hs,dn⟩,hid,sz⟩
 have hne:c≠b:=fun e=>by rw [e,hb]at hc;cases hc
 have hu: ∀x,aR ((c,some (.arr E esz (len - l) fun i j=>el (i+l) j))::(b,none)::st.heap) x=if x=c then some (some (.arr E esz (len - l) fun i j=>el (i+l) j))else if x=b then some none else get st.heap x:=fun x=>by
  unfold aR
  rw [aC,aC]
  by_cases e1:c=x
  ·rw [if_pos e1,if_pos e1.symm]
  ·rw [if_neg e1,if_neg (Ne.symm e1)]
   by_cases e2:b=x
   ·rw [if_pos e2,if_pos e2.symm]
   ·rw [if_neg e2,if_neg (Ne.symm e2)]
 refine⟨⟨ρ,F,fr,⟨fun x k=>if x=c then ft b k else x≠b∧ft x k,hi.step (.refl _ _ _) fr (Nat.le_refl _) (fun x=>x=c∨x=b) (fun x ob hx hh=> ?_) (fun x ob hx hh=> ?_) (fun x ob k hx hh hf=> ?_) (fun x x' ob ob' k hx hx' hh hh' _ _=> ?_) (fun k hk=> .inl hk) fun x hx=> ?_⟩,hs,dn⟩,hid,sz⟩
 ·have h1:x≠c:=fun e=>hx (.inl e)
  have h2:x≠b:=fun e=>hx (.inr e)
  rw [hu,if_neg h1,if_neg h2]at hh
  exact⟨hh,fun _ _=>rfl,fun k=>by simp only [if_neg h1];exact⟨fun q=>q.2,fun q=> ⟨h2,q⟩⟩⟩
 ·rw [hu]at hh
  by_cases h1:x=c
  ·subst h1
   rw [if_pos rfl]at hh
   cases hh
   simp only [if_true]
   have hob:=hi.obj b _ hb
   have hsf:=hi.obj x _ hc
   rcases hob with⟨g1,g2⟩|⟨k,base,cap,g1,g2,vs,g3,g4,g5,g6,g7⟩
   ·rcases hsf with⟨_,s2,s3⟩|⟨k,base,cap,s1,_⟩
    ·exact .inl ⟨s2,by omega⟩
    ·rw [g1]at s1;cases s1
   ·rcases hsf with⟨s1,_,_⟩|⟨k',base',cap',s1,s2,s3⟩
    ·rw [g1]at s1;cases s1
    ·rw [g1]at s1;cases s1
     unfold yU at s3
     rw [if_neg hz]at s3
     by_cases hcap:cap=l
     ·rw [if_pos hcap]at s3
      exact .inr ⟨k,base,cap - l,s3,g2,vs,g3,by rw [show cap - l=0 by omega,Nat.zero_mul];omega,by omega,by omega,fun i hi'=>by omega⟩
     ·rw [if_neg hcap]at s3
      refine .inr ⟨k,base+l*esz,cap - l,s3,g2,vs,g3, ?_,by omega,by omega,fun i hi' j hj=> ?_⟩
      ·rw [Nat.add_assoc,←Nat.add_mul,show l+(cap - l)=cap by omega];exact g4
      ·obtain⟨u,q1,q2⟩:=g7 (i+l) (by omega) j hj
       exact⟨u,by rw [show base+l*esz+(i*esz+j)=base+((i+l)*esz+j) by rw [Nat.add_mul];omega];exact q1,q2⟩
  ·rw [if_neg h1]at hh
   rcases hx with hx|hx
   ·exact absurd hx h1
   ·rw [if_pos hx]at hh;cases hh
 ·left
  rcases hx with hx|hx
  ·subst hx
   simp only [if_true]at hf
   exact⟨b,_, .inr rfl,hb,hf⟩
  ·rw [hu,if_neg (by rw [hx];exact Ne.symm hne),if_pos hx]at hh;cases hh
 ·have one: ∀y o,y=c∨y=b→aR ((c,some (.arr E esz (len - l) fun i j=>el (i+l) j))::(b,none)::st.heap) y=some (some o)→y=c:=fun y o hy ho=>by
   rcases hy with hy|hy
   ·exact hy
   ·rw [hu,if_neg (by rw [hy];exact Ne.symm hne),if_pos hy]at ho;cases ho
  rw [one x ob hx hh,one x' ob' hx' hh']
 ·rw [hu]at hx
  split at hx
  ·cases hx
  ·split at hx
   ·cases hx
   ·exact hi.fresh x hx
theorem j5.Uh {α:Type} [Inhabited α] {b c k E esz:Nat} {cf:α→Nat→DV} {l:List α} (hb:get st.heap b=some (some (.arr E esz l.length (aB cf l)))) (hc:get st.heap c=some (some (.suf b k esz))) (hl:k≤l.length) (hz:esz≠0):
  j5 B N L st ⟨st.slots,(c,some (.arr E esz (l.length - k) (aB cf (l.drop k))))::(b,none)::st.heap⟩:=by
 have h:=j5.VY (B:=B) (N:=N) (L:=L) hb hc hl hz
 have e:(fun i j=>aB cf l (i+k) j)=aB cf (l.drop k):=by
  funext i j
  show cf (at' l (i+k)) j=cf (at' (l.drop k) i) j
  rw [Db]
 rw [e]at h
 exact h
end
def SQ (Q:Exit→St→Prop):Exit→St→Prop:=fun e st=>(∀l,e≠ .goto l)∧Q e st
section
variable {P:Program} {B:Base} {N:Nat} {L:List Nat} {st:St} {rd:Option Nat} {Q:Exit→St→Prop}
theorem LC {c:Code} (h:lC rd P B N L c (SQ Q) st):lC rd P B N L (.scope c) Q st:=by
 intro a w hc b k cs hro hbu hr
 obtain⟨e,a1,w1,⟨st',⟨hng,hR⟩,hconc⟩,harr⟩:=h a w hc b (.inScope c::k) cs hro hbu hr
 have fin: ∃e a2 w2,(∃st',Q e st'∧Conc B N L st' a2 w2)∧ArrivesIn (Machine.fenced P (FW rd)) P (lone (b.atR a (.code c:: .inScope c::k)) cs w) b k cs e a2 w2:=by
  cases e with
  |normal=>exact⟨.normal,a1,w1,⟨st',hR,hconc⟩,StepsIn.trans harr (.one (fenced_calm hbu hr rfl) zn)⟩
  |exit id=>
   have hx:exitTo id (.inScope c::k)=exitTo id k:=by simp [exitTo]
   exact⟨_,a1,w1,⟨st',hR,hconc⟩,fun k' hk=>harr.1 k' (by rw [hx];exact hk),fun hr' hk=>harr.2 hr' (by rw [hx];exact hk)⟩
  |goto l'=>exact absurd rfl (hng l')
  |ret=>exact⟨_,a1,w1,⟨st',hR,hconc⟩,harr⟩
  |panic ch=>exact⟨_,a1,w1,⟨st',hR,hconc⟩,harr⟩
  |outgrown=>exact⟨_,a1,w1,⟨st',hR,hconc⟩,harr⟩
 obtain⟨e,a2,w2,hq,harr⟩:=fin
 exact⟨e,a2,w2,hq, .of_steps (.one (fenced_calm hbu hr rfl) Cj) harr⟩
end
section
variable {B:Base} {N:Nat} {L:List Nat} {st:St}
theorem j5.Py {b c m m1:Nat} {n:Int} {K V E:TypeId} {nn:Bool} {l:List (Int × List Int)} {el1:Nat→Nat→DV} (hb:get st.heap b=some (some (.gm K V E l (some (n, .own c nn m))))) (hc:get st.heap c=some (some (.arr E 1 m1 el1)))
  (hm:m=m1) (hl:m1=(qY n l).length) (hq:aQ m1 1 el1 (z8 (qY n l))):j5 B N L st ⟨st.slots,(b,some (.gm K V E l none))::(c,none)::st.heap⟩:=by
 intro a w hconc
 obtain⟨⟨ρ,F,hfr,hi,hs,dn⟩,hid,sz⟩:=hconc
 refine⟨⟨ρ,F,hfr, ?_,hs,dn⟩,hid,sz⟩
 have:=HI.Py (n':=0) hfr hi hb hc rfl rfl hm hl hq
 have e:upd (aR st.heap) [(b,some (.gm K V E l none)),(c,none)]=aR ((b,some (.gm K V E l none))::(c,none)::st.heap):=by
  funext x
  rw [yC]
  simp only [aR];rw [aC,aC]
 rw [e]at this;exact this
end
end Sg
