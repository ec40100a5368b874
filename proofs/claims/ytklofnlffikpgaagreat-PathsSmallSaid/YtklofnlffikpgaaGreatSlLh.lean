import Derived.Test.YtklofnlffikpgaaGreatSlLg
import Derived.Test.YtklofnlffikpgaaGreatSlGm
import Derived.KernelRfl
set_option linter.all false
namespace Sg
open Go
theorem X3 {α:Type} [Inhabited α] {l:List α} {k:Nat}:rO l k 1=[at' l k]:=by
 unfold rO
 rw [List.range_one,List.map_singleton,cC]
theorem K4 {α:Type} (f:Nat->List α): ∀n,dS f (n+1)=f 0++dS (fun i=>f (i+1)) n
 |0=>by simp [dS]
 |n+1=>by
  show dS f (n+1)++f (n+1)=_
  rw [K4 f n,cS];rfl
def PG {α β:Type} (g:α->List α->List β):List α->List β
 |[]=>[]
 |a::l=>g a l++PG g l
theorem M0 {α β:Type} [Inhabited α] (g:α->List α->List β): ∀l:List α,dS (fun i=>g (at' l i) (l.drop (i+1))) l.length=PG g l
 |[]=>rfl
 |a::l=>by
  show dS _ (l.length+1)=_
  rw [K4]
  have ih:=M0 g l
  show g a l++dS (fun i=>g (at' l i) (l.drop (i+1))) l.length=_
  rw [ih];rfl
theorem Jc {α:Type} (q:α->Bool) (W:List α->Bool): ∀S:List α,(PG (fun a l=>l.map fun b=>[a,b]) (S.filter q)).filter W=PG (fun a l=>bif q a then(l.filter fun b=>q b && W [a,b]).map fun b=>[a,b]else []) S
 |[]=>rfl
 |a::S=>by
  rw [List.filter_cons]
  show _=_++PG _ S
  rw [<-Jc q W S]
  cases h:q a with
  |false=>simp [h]
  |true=>
   rw [ci rfl]
   show _=(bif q a then _ else _)++_
   rw [h,bt]
   show(_++PG _ (S.filter q)).filter W=_
   rw [ej]
   congr 1
   rw [List.filter_map,List.filter_filter]
   congr 1
   refine List.filter_congr fun b _=> ?_
   show(W [a,b] && q b)=_
   rw [Bool.and_comm]
section
variable {p:ah} {s:State} {l:List Transfer} (hp:VP p) (hs:VS p s) (hl:l.length<=16) (hx: ∀x∈l,Vk p x)
def LD (p:ah) (s:State) (l:List Transfer) (k:Nat):List aL:=
 bif decide (0<(at' p.a_ k).bk) && !BA p s k then [⟨(k:Int),⟨0,0⟩⟩]
 else bif decide ((at' p.a_ k).bk<2)then []
 else((aC p s).filter fun x=> !BA p (KF p s l [x]) k).map fun x=> ⟨(k:Int),x⟩
include hp
theorem YL (k:Nat):(LD p s l k).length<=72:=by
 unfold LD
 cases decide (0<(at' p.a_ k).bk) && !BA p s k with
 |true=>simp
 |false=>
  cases decide ((at' p.a_ k).bk<2)with
  |true=>simp
  |false=>
   rw [bu,bu,de]
   exact dt (List.length_filter_le _ _) (oK hp)
include hs hl hx
theorem Qe {k:Nat} (hk:k<p.a_.length) (out:List aL) (ho:out.length<=10000):ay (jb p s l (k:Int) (aC p s)) FUEL (out,0)=some (.brk (out++((aC p s).filter fun x=> !BA p (KF p s l [x]) k).map fun x=> ⟨(k:Int),x⟩)):=by
 have h72:=oK (s:=s) hp
 refine Av (body:=jb p s l (k:Int) (aC p s)) (aC p s) _ (fun x=>(⟨(k:Int),x⟩:aL)) out (by omega) (fun t o ht hol=> ?_) (fun o=> ?_)
 ·have hi:=qi hp (at_mem ht)
  unfold jb
  dsimp only
  rw [uM (by omega),bt,au ⟨by omega,by omega⟩,bw,(ML hp hs hl hx (by simp) (fun y hy=>by rw [cF]at hy;subst hy;exact hi)).1,bs]
  dsimp only
  rw [Jh hp (Rc hp hs hx _) hk,bs,au ⟨by rw [cw];omega,by rw [cw];omega⟩,wr (by omega)]
  cases BA p (KF p s l [at' (aC p s) t]) k<;>rfl
 ·unfold jb
  dsimp only
  rw [jE (by omega)];rfl
theorem Kg {k:Nat} (hk:k<p.a_.length) (h2:(at' p.a_ k).bk=2) (out:List aL) (ho:out.length<=10000):ay (eH p s l (aC p s) (k:Int)) FUEL (out,0)=some (.brk (out++((aC p s).filter fun x=> !BA p (KF p s l [x]) k).map fun x=> ⟨(k:Int),x⟩)):=by
 have h72:=oK (s:=s) hp
 refine Av (body:=eH p s l (aC p s) (k:Int)) (aC p s) _ (fun x=>(⟨(k:Int),x⟩:aL)) out (by omega) (fun t o ht hol=> ?_) (fun o=> ?_)
 ·have hi:=qi hp (at_mem ht)
  have hc:(0:Int)<=(t:Int)/\(t:Int)<((aC p s).length:Int):=⟨by omega,by omega⟩
  unfold eH
  dsimp only
  rw [uM (by omega),bt,bw,bw,bx h2,bt,(ML hp hs hl hx (by simp) (fun y hy=>by rw [cF]at hy;subst hy;exact hi)).2,bs,au hc]
  dsimp only
  rw [AV hp (Rc hp hs hx _) hk,bs,au ⟨hc,by rw [cw];omega,by rw [cw];omega⟩,wr (by omega)]
  cases BA p (KF p s l [at' (aC p s) t]) k<;>rfl
 ·unfold eH
  dsimp only
  rw [jE (by omega)];rfl
omit hs hl hx in
theorem Ja (n:Nat) (hn:n<=24):(dS (LD p s l) n).length<=2000:=by
 have:=jk (f:=LD p s l) (m:=72) (n:=n) fun i _=>YL hp i
 have:n*72<=24*72:=cH 72 hn
 omega
theorem QV:jJ p s l=some (dS (LD p s l) p.a_.length,0)/\jG p s l=some (dS (LD p s l) p.a_.length,0):=by
 have hrl:=hp.rl
 have z:FD p s l=0:=nD.2 ⟨hp,hs,hl,hx⟩
 unfold jJ jG
 rw [vH p s l hp.small (by omega),nZ p s l hp.small,bs,bs,bx z,cD,bu,bu,Gv hp hs,bs]
 have k1:=aU (body:=fT p s l) (fun k=>(dS (LD p s l) k,(k:Int))) p.a_.length (.brk (dS (LD p s l) p.a_.length)) (fuel_lt (by omega)) (fun k hk=>by
  have hlen:=Ja (s:=s) (l:=l) hp k (by omega)
  show fT p s l _=some (.next (dS (LD p s l) k++LD p s l k,_))
  generalize dS (LD p s l) k=A at hlen
  unfold fT LD
  dsimp only
  rw [uM (by omega),bt,au ⟨by omega,by omega⟩,Jh hp hs hk,bw,wr (by omega),au ⟨by rw [cw];omega,by rw [cw];omega⟩,NH hp hs,bs,Qe hp hs hl hx hk _ (by omega)]
  cases decide (0<(at' p.a_ k).bk)<;>cases BA p s k<;>cases decide ((at' p.a_ k).bk<2)<;>first|rfl|(simp only [bt,bu,cX,cQ,Bool.false_and,cD,cE];rfl)) (by
  unfold fT
  dsimp only
  rw [jE (by omega)];rfl)
 have k2:=aU (body:=fP p s l (aC p s)) (fun k=>(dS (LD p s l) k,(k:Int))) p.a_.length (.brk (dS (LD p s l) p.a_.length)) (fuel_lt (by omega)) (fun k hk=>by
  have hlen:=Ja (s:=s) (l:=l) hp k (by omega)
  have hc:(0:Int)<=(k:Int)/\(k:Int)<(p.a_.length:Int):=⟨by omega,by omega⟩
  show fP p s l (aC p s) _=some (.next (dS (LD p s l) k++LD p s l k,_))
  have hL1:ay (eH p s l (aC p s) (k:Int)) FUEL (dS (LD p s l) k,0)=some (.brk (dS (LD p s l) k++bif decide ((at' p.a_ k).bk<2)then []else((aC p s).filter fun x=> !BA p (KF p s l [x]) k).map fun x=> ⟨(k:Int),x⟩)):=by
   have hr:=(hp.rck k hk).bk
   have hf:rF (at' p.a_ k)<=2:=by unfold rF;split<;>omega
   by_cases h2:(at' p.a_ k).bk<2
   ·rw [bx h2,bt,cX]
    refine jd (n:=1) ?_ (by unfold FUEL;omega)
    rw [bK]
    unfold eH
    dsimp only
    rw [bw,bz (show ¬ (at' p.a_ k).bk=2 by omega)]
    cases decide ((0:Int)<((aC p s).length:Int))<;>rfl
   ·rw [bz h2,bu]
    exact Kg hp hs hl hx hk (by omega) _ (by omega)
  generalize dS (LD p s l) k=A at hlen hL1
  unfold fP LD
  dsimp only
  rw [uM (by omega),bt,au hc,AV hp hs hk,bw,wr (by omega),au ⟨by rw [cw];omega,by rw [cw];omega⟩,hL1,show decide (1<=(at' p.a_ k).bk)=decide (0<(at' p.a_ k).bk)from decide_eq_decide.2 (by omega)]
  cases decide (0<(at' p.a_ k).bk)<;>cases BA p s k<;>rfl) (by
  unfold fP
  dsimp only
  rw [jE (by omega)];rfl)
 have k1:ay (fT p s l) FUEL ([],0)=_:=k1
 have k2:ay (fP p s l (aC p s)) FUEL ([],0)=_:=k2
 rw [k1,k2]
 exact⟨rfl,rfl⟩
def wV (p:ah) (s:State) (l:List Transfer) (x:List Part):Bool:=decide (0<((V4 p s l x).length:Int))
theorem O6 {x:List Part} (hn:x.length<=1000) (hi: ∀y∈x,mP p y):kQ x p.ar p.aa p.aq p.a_ s.ap s.aw s.ag s.on_ s.ae s.am s.al l=some (wV p s l x):=by
 unfold kQ
 have:=(M8 hp hs hl hx hn hi).1
 have this:iN ⟨p.ar,p.aa,p.aq,p.a_⟩ ⟨s.ap,s.aw,s.ag,s.on_,s.ae,s.am,s.al⟩ l x=_:=this
 rw [this];rfl
def yK (p:ah) (s:State) (l:List Transfer) (S:List Part):List (List Part):=(S.filter fun x=>wV p s l [x]).map fun x=>[x]
omit hp hs hl hx in
theorem Bb (S:List Part):(yK p s l S).length<=S.length:=by unfold yK;rw [de];exact List.length_filter_le _ _
theorem Yc:ay (mh p s l (aC p s)) FUEL ([],[],0)=some (.brk (yK p s l (aC p s),(aC p s).filter fun x=> !wV p s l [x])):=by
 have h72:=oK (s:=s) hp
 have key:=aU (body:=mh p s l (aC p s)) (fun t=>(yK p s l ((aC p s).take t),((aC p s).take t).filter (fun x=> !wV p s l [x]),(t:Int))) (aC p s).length (.brk (yK p s l (aC p s),(aC p s).filter fun x=> !wV p s l [x])) (fuel_lt (by omega)) (fun t ht=> ?_) ?_
 ·exact key
 ·have hi:=qi hp (at_mem ht)
  have h1:=Bb (p:=p) (s:=s) (l:=l) ((aC p s).take t)
  have h2:(((aC p s).take t).filter (fun x=> !wV p s l [x])).length<=((aC p s).take t).length:=List.length_filter_le _ _
  rw [dC]at h1 h2
  unfold mh
  dsimp only
  rw [uM (by omega),bt,au ⟨by omega,by omega⟩,bw,O6 hp hs hl hx (by simp) (fun y hy=>by rw [cF]at hy;subst hy;exact hi),bs,au ⟨by rw [cw];omega,by rw [cw];omega⟩,au ⟨by rw [cw];omega,by rw [cw];omega⟩,wr (by omega),eD ht]
  unfold yK
  rw [ej,ej,List.map_append]
  cases h:wV p s l [at' (aC p s) t]with
  |true=>simp [h]
  |false=>simp [h]
 ·unfold mh
  dsimp only
  rw [jE (by omega),bu,dT]
omit hs hl hx hp in
theorem Vv (l:List Part) (hl:l.length<=72):rX l=some (PG (fun a l=>l.map fun b=>[a,b]) l):=by
 have L1: ∀(i:Nat) (out:List (List Part)),i<l.length->out.length<=10000->ay (kM l (i:Int)) FUEL (out,0)=some (.brk (out++(l.drop (i+1)).map fun b=>[at' l i,b])):=fun i out hi ho=>by
  have key:=Av (body:=kM l (i:Int)) (l.drop (i+1)) (fun _=>true) (fun b=>[at' l i,b]) out (by rw [dE];omega) (fun t o ht hol=> ?_) (fun o=> ?_)
  ·rw [key]
   congr 4
   rw [List.filter_eq_self];simp
  ·rw [dE]at ht
   unfold kM
   dsimp only
   rw [wr (x:=(i:Int)+1) (by omega),show((i:Int)+1).toNat=i+1 by omega,uM (by omega),bt,au ⟨by omega,by rw [dE];omega⟩,au ⟨by rw [cw];omega,by rw [cw];omega⟩,wr (by omega)]
   rfl
  ·unfold kM
   dsimp only
   rw [wr (x:=(i:Int)+1) (by omega),show((i:Int)+1).toNat=i+1 by omega,dE,jE (by omega)];rfl
 have hacc: ∀n,n<=l.length->(dS (fun i=>(l.drop (i+1)).map fun b=>[at' l i,b]) n).length<=6000:=fun n hn=>by
  have:=jk (f:=fun i=>(l.drop (i+1)).map fun b=>[at' l i,b]) (m:=72) (n:=n) fun i _=>by rw [de,dE];omega
  have:n*72<=72*72:=cH 72 (by omega)
  omega
 have key:=aU (body:=kR l) (fun t=>(dS (fun i=>(l.drop (i+1)).map fun b=>[at' l i,b]) t,(t:Int))) l.length (.brk (dS (fun i=>(l.drop (i+1)).map fun b=>[at' l i,b]) l.length)) (fuel_lt (by omega)) (fun t ht=> ?_) ?_
 ·unfold rX
  have key:ay (kR l) FUEL ([],0)=_:=key
  rw [key,M0 (fun a l=>l.map fun b=>[a,b]) l];rfl
 ·unfold kR
  dsimp only
  rw [uM (by omega),bt,au ⟨by omega,by omega⟩,wr (by omega),au ⟨by omega,by omega⟩,L1 t _ ht (by have:=hacc t (by omega);omega)]
  rfl
 ·unfold kR
  dsimp only
  rw [jE (by omega)];rfl
omit hs hl hx hp in
theorem MJ {α β:Type} {g:α->List α->List β} {x:β}: ∀{l:List α},x∈PG g l-> ∃a m,a∈l/\(∀b∈m,b∈l)/\x∈g a m
 |[],h=>by cases h
 |a::l,h=>by
  rcases cz.1 h with h|h
  ·exact⟨a,l,ct,fun b hb=>cm _ hb,h⟩
  ·obtain⟨b,m,h1,h2,h3⟩:=MJ h
   exact⟨b,m,cm _ h1,fun c hc=>cm _ (h2 c hc),h3⟩
omit hs hl hx hp in
theorem Mg {α β:Type} {g:α->List α->List β} {m:Nat}: ∀{l:List α},(∀a k,k.length<=l.length->(g a k).length<=m)->(PG g l).length<=l.length*m
 |[],_=>by simp [PG]
 |a::l,h=>by
  have h1:=Mg (l:=l) (g:=g) (m:=m) fun a k hk=>h a k (by rw [c6];omega)
  have h2:=h a l (by rw [c6];omega)
  rw [PG,b_,c6,Nat.succ_mul];omega
def wkL (p:ah) (s:State) (l:List Transfer) (pairs:Bool):List (List Part):=
 yK p s l (aC p s)++bif pairs then(PG (fun a l=>l.map fun b=>[a,b]) ((aC p s).filter fun x=> !wV p s l [x])).filter (wV p s l)else []
theorem Zn (pairs:Bool):ow p s l pairs=some (wkL p s l pairs,0):=by
 have h72:=oK (s:=s) hp
 have z:FD p s l=0:=nD.2 ⟨hp,hs,hl,hx⟩
 unfold ow wkL
 rw [vH p s l hp.small (by omega),bs,bx z,cD,bu,NH hp hs,bs,Yc hp hs hl hx,bs]
 dsimp only
 cases pairs with
 |false=>rw [bu,bu,cX]
 |true=>
  have h1:=Bb (p:=p) (s:=s) (l:=l) (aC p s)
  have hfl:((aC p s).filter fun x=> !wV p s l [x]).length<=72:=dt (List.length_filter_le _ _) h72
  have hpl:(PG (fun a l=>l.map fun b=>[a,b]) ((aC p s).filter fun x=> !wV p s l [x])).length<=6000:=by
   have:=Mg (l:=(aC p s).filter fun x=> !wV p s l [x]) (g:=fun a (l:List Part)=>l.map fun b=>[a,b]) (m:=72) fun a k hk=>by rw [de];omega
   have:((aC p s).filter fun x=> !wV p s l [x]).length*72<=72*72:=cH 72 hfl
   omega
  have hmem: ∀x∈PG (fun a l=>l.map fun b=>[a,b]) ((aC p s).filter fun x=> !wV p s l [x]),x.length<=1000/\ ∀y∈x,mP p y:=fun x hxm=>by
   obtain⟨a,m,h1,h2,h3⟩:=MJ hxm
   obtain⟨b,hb,rfl⟩:=List.mem_map.1 h3
   refine⟨by simp,fun y hy=> ?_⟩
   rcases ef.1 hy with rfl|hy
   ·exact qi hp (c_.1 h1).1
   ·rw [cF]at hy;subst hy
    exact qi hp (c_.1 (h2 _ hb)).1
  rw [bt,bt,Vv _ hfl,bs]
  generalize PG (fun a l=>l.map fun b=>[a,b]) ((aC p s).filter fun x=> !wV p s l [x])=R at hpl hmem
  have key:=Av (body:=pO p s l R) R (wV p s l) id (yK p s l (aC p s)) (by omega) (fun t o ht ho=> ?_) (fun o=> ?_)
  ·rw [key,List.map_id];rfl
  ·obtain⟨m1,m2⟩:=hmem _ (at_mem ht)
   unfold pO
   dsimp only
   rw [uM (by omega),bt,au ⟨by omega,by omega⟩,bw,O6 hp hs hl hx m1 m2,bs,au ⟨by rw [cw];omega,by rw [cw];omega⟩,wr (by omega)]
   cases wV p s l (at' R t)<;>rfl
  ·unfold pO
   dsimp only
   rw [jE (by omega)];rfl
def Hl (p:ah) (s:State) (l:List Transfer) (S:List Part) (t:Nat):List Bool:=tab S.length fun i=>decide (i<t) && wV p s l [at' S i]
omit hp hs hl hx in
theorem Zw (S:List Part) {t:Nat} (ht:t<S.length):(Hl p s l S t).set t (wV p s l [at' S t])=Hl p s l S (t+1):=by
 refine uT (by simp [Hl,aY]) fun i hi=> ?_
 rw [cJ]at hi
 unfold Hl at hi ⊢
 rw [aY]at hi
 by_cases e:t=i
 ·subst e
  rw [bU (by rw [aY];exact hi),rH hi,bx (by omega)];rfl
 ·rw [bM e,rH hi,rH hi,show decide (i<t)=decide (i<t+1)from decide_eq_decide.2 (by omega)]
theorem Q0:ay (lX p s l (aC p s)) FUEL ([],List.replicate (((aC p s).length:Int).toNat) false,0)=some (.brk (yK p s l (aC p s),Hl p s l (aC p s) (aC p s).length)):=by
 have h72:=oK (s:=s) hp
 have key:=aU (body:=lX p s l (aC p s)) (fun t=>(yK p s l ((aC p s).take t),Hl p s l (aC p s) t,(t:Int))) (aC p s).length (.brk (yK p s l (aC p s),Hl p s l (aC p s) (aC p s).length)) (fuel_lt (by omega)) (fun t ht=> ?_) ?_
 ·have e:List.replicate (((aC p s).length:Int).toNat) false=Hl p s l (aC p s) 0:=by
   refine uT (by simp [Hl,aY]) fun i hi=> ?_
   rw [dj]at hi
   rw [jZ hi]
   unfold Hl
   rw [rH (by omega)];rfl
  rw [e];exact key
 ·have hi:=qi hp (at_mem ht)
  have h1:=Bb (p:=p) (s:=s) (l:=l) ((aC p s).take t)
  rw [dC]at h1
  have hw:(Hl p s l (aC p s) t).length=(aC p s).length:=by unfold Hl;rw [aY]
  have hw2:(Hl p s l (aC p s) (t+1)).length=(aC p s).length:=by unfold Hl;rw [aY]
  unfold lX
  dsimp only
  rw [uM (by omega),bt,bw,wr (by omega),show((t:Int)+1).toNat - t=1 by omega,X3,(M8 hp hs hl hx (by simp) (fun y hy=>by rw [cF]at hy;subst hy;exact hi)).2,bs,au ⟨by omega,by omega,by omega⟩,au ⟨by omega,by omega⟩]
  dsimp only
  rw [show(decide (0<((V4 p s l [at' (aC p s) t]).length:Int)))=wV p s l [at' (aC p s) t]from rfl,Zw _ ht,au ⟨⟨by omega,by omega⟩,by omega⟩,au ⟨⟨by omega,by omega⟩,by rw [cw];omega,by rw [cw];omega⟩,eD ht]
  have e:at' (Hl p s l (aC p s) (t+1)) t=wV p s l [at' (aC p s) t]:=by
   unfold Hl
   rw [rH ht,bx (by omega)];rfl
  rw [e]
  unfold yK
  rw [ej,List.map_append]
  cases h:wV p s l [at' (aC p s) t]with
  |true=>simp [h]
  |false=>simp [h]
 ·unfold lX
  dsimp only
  rw [jE (by omega),bu,dT]
theorem Rq {i:Nat} (hi:i<(aC p s).length) (out:List (List Part)) (ho:out.length<=10000):
  ay (lY p s l (aC p s) (Hl p s l (aC p s) (aC p s).length) (i:Int)) FUEL (out,(i:Int)+1)=some (.brk (out++bif !wV p s l [at' (aC p s) i]then(((aC p s).drop (i+1)).filter fun b=> !wV p s l [b] && wV p s l [at' (aC p s) i,b]).map fun b=>[at' (aC p s) i,b]else [])):=by
 have h72:=oK (s:=s) hp
 have hw:((Hl p s l (aC p s) (aC p s).length).length:Int)=((aC p s).length:Int):=by unfold Hl;rw [aY]
 have hwa: ∀k,k<(aC p s).length->at' (Hl p s l (aC p s) (aC p s).length) k=wV p s l [at' (aC p s) k]:=fun k hk=>by
  unfold Hl
  rw [rH hk,bx hk];rfl
 have key:=Ls (body:=lY p s l (aC p s) (Hl p s l (aC p s) (aC p s).length) (i:Int)) ((aC p s).drop (i+1)) (fun b=> !wV p s l [at' (aC p s) i] && (!wV p s l [b] && wV p s l [at' (aC p s) i,b])) (fun b=>[at' (aC p s) i,b]) out ((i:Int)+1) (by rw [dE];omega) (fun t o ht hol=> ?_) (fun o=> ?_)
 ·rw [key]
  cases wV p s l [at' (aC p s) i]with
  |false=>rfl
  |true=>simp
 ·have ht':=ht
  rw [dE]at ht
  have ea:at' ((aC p s).drop (i+1)) t=at' (aC p s) (i+1+t):=by
   rw [fG ht',List.getElem_drop,fG (by omega)]
  have h1:=qi hp (at_mem hi)
  have h2:=qi hp (at_mem (show i+1+t<(aC p s).length by omega))
  unfold lY
  dsimp only
  rw [show(i:Int)+1+(t:Int)=((i+1+t:Nat):Int) by omega,uM (by omega),bt,au ⟨⟨by omega,by omega⟩,fun _=> ⟨by omega,by omega⟩⟩,bw,bw,hwa i hi,hwa _ (by omega),au ⟨⟨by omega,by omega⟩,⟨by omega,by omega⟩⟩,(M8 hp hs hl hx (by simp) (fun y hy=>by
   rcases ef.1 hy with rfl|hy
   ·exact h1
   ·rw [cF]at hy;subst hy;exact h2)).2,bs,au ⟨by rw [cw];omega,by rw [cw];omega⟩,wr (by omega),ea]
  dsimp only
  rw [show(decide (0<((V4 p s l [at' (aC p s) i,at' (aC p s) (i+1+t)]).length:Int)))=wV p s l [at' (aC p s) i,at' (aC p s) (i+1+t)]from rfl]
  cases wV p s l [at' (aC p s) i]<;>cases wV p s l [at' (aC p s) (i+1+t)]<;>cases wV p s l [at' (aC p s) i,at' (aC p s) (i+1+t)]<;>rfl
 ·unfold lY
  dsimp only
  rw [dE,jE (by omega)];rfl
theorem Qx (pairs:Bool):oH p s l pairs=some (wkL p s l pairs,0):=by
 have h72:=oK (s:=s) hp
 have z:FD p s l=0:=nD.2 ⟨hp,hs,hl,hx⟩
 have h1:=Bb (p:=p) (s:=s) (l:=l) (aC p s)
 unfold oH wkL
 rw [nZ p s l hp.small,bs,bx z,cD,bu,Gv hp hs,bs,au ⟨by omega,by omega,by omega⟩,Q0 hp hs hl hx,bs]
 dsimp only
 let G:Part->List Part->List (List Part):=fun a m=>bif !wV p s l [a]then(m.filter fun b=> !wV p s l [b] && wV p s l [a,b]).map fun b=>[a,b]else []
 have hG: ∀a m,(G a m).length<=m.length:=fun a m=>by
  show(bif !wV p s l [a]then _ else _:List (List Part)).length<=_
  cases wV p s l [a]with
  |true=>simp
  |false=>
   rw [cE,bt,de];exact List.length_filter_le _ _
 cases pairs with
 |false=>
  have key:ay (iy p s l false (aC p s) (Hl p s l (aC p s) (aC p s).length)) FUEL (yK p s l (aC p s),0)=some (.brk (yK p s l (aC p s))):=by
   refine jd (n:=1) ?_ (by unfold FUEL;omega)
   rw [bK]
   unfold iy
   dsimp only
   cases decide ((0:Int)<((aC p s).length:Int))<;>rfl
  rw [key,bu,cX];rfl
 |true=>
  have hacc: ∀n,n<=(aC p s).length->(dS (fun i=>G (at' (aC p s) i) ((aC p s).drop (i+1))) n).length<=6000:=fun n hn=>by
   have:=jk (f:=fun i=>G (at' (aC p s) i) ((aC p s).drop (i+1))) (m:=72) (n:=n) fun i _=>dt (hG _ _) (by rw [dE];omega)
   have:n*72<=72*72:=cH 72 (by omega)
   omega
  have key:=aU (body:=iy p s l true (aC p s) (Hl p s l (aC p s) (aC p s).length)) (fun t=>(yK p s l (aC p s)++dS (fun i=>G (at' (aC p s) i) ((aC p s).drop (i+1))) t,(t:Int))) (aC p s).length (.brk (yK p s l (aC p s)++dS (fun i=>G (at' (aC p s) i) ((aC p s).drop (i+1))) (aC p s).length)) (fuel_lt (by omega)) (fun t ht=> ?_) ?_
  ·rw [show dS (fun i=>G (at' (aC p s) i) ((aC p s).drop (i+1))) 0=[]from rfl,cX]at key
   have key:ay (iy p s l true (aC p s) (Hl p s l (aC p s) (aC p s).length)) FUEL (yK p s l (aC p s),0)=_:=key
   rw [key,bt,Jc,M0 G];rfl
  ·have:=hacc t (by omega)
   unfold iy
   dsimp only
   rw [uM (by omega),bt,bt,wr (by omega),Rq hp hs hl hx ht _ (by rw [b_];omega),bs,cS]
   rfl
  ·unfold iy
   dsimp only
   rw [jE (by omega)];rfl
theorem Zc (pairs:Bool):(wkL p s l pairs).length<=10000/\ ∀x∈wkL p s l pairs,x.length<=1000:=by
 have h72:=oK (s:=s) hp
 have h1:=Bb (p:=p) (s:=s) (l:=l) (aC p s)
 have ho: ∀x∈yK p s l (aC p s),x.length<=1000:=fun x hxm=>by
  unfold yK at hxm
  obtain⟨y,_,rfl⟩:=List.mem_map.1 hxm
  simp
 unfold wkL
 cases pairs with
 |false=>rw [bu,cX];exact⟨by omega,ho⟩
 |true=>
  rw [bt]
  have hfl:((aC p s).filter fun x=> !wV p s l [x]).length<=72:=dt (List.length_filter_le _ _) h72
  have hpl:=Mg (l:=(aC p s).filter fun x=> !wV p s l [x]) (g:=fun a (l:List Part)=>l.map fun b=>[a,b]) (m:=72) fun a k hk=>by rw [de];omega
  have h5:((aC p s).filter fun x=> !wV p s l [x]).length*72<=72*72:=cH 72 hfl
  have h6:=List.length_filter_le (wV p s l) (PG (fun a l=>l.map fun b=>[a,b]) ((aC p s).filter fun x=> !wV p s l [x]))
  refine⟨by rw [b_];omega,fun x hxm=> ?_⟩
  rcases cz.1 hxm with h|h
  ·exact ho x h
  ·obtain⟨a,m,_,_,h3⟩:=MJ (c_.1 h).1
   obtain⟨b,_,rfl⟩:=List.mem_map.1 h3
   simp
end
theorem CZ (l:List (List Part)) (h:l.length<=1000000) (h1: ∀x∈l,x.length<=1000000):qJ l l=some true:=by
 have key:ay (nu l l) FUEL 0=some (.brk ()):=by
  refine EQ l (by omega) (fun t ht=> ?_) ?_
  ·unfold nu xC
   rw [uM (by omega),bt,bw,Jj _ (h1 _ (at_mem ht)),bs,bs,au ⟨⟨by omega,by omega⟩,by omega,by omega⟩,wr (by omega)]
   rfl
  ·unfold nu
   rw [jE (by omega)];rfl
 unfold qJ
 simp [key]
theorem U9 (l:List aL) (h:l.length<=1000000):ay (fI (l,0) (l,0)) FUEL 0=some (.brk ()):=by
 refine EQ l (by omega) (fun t ht=> ?_) ?_
 ·unfold fI
  dsimp only
  rw [uM (by omega),bt,au ⟨⟨by omega,by omega⟩,by omega,by omega⟩,wr (by omega)]
  simp
 ·unfold fI
  dsimp only
  rw [jE (by omega)];rfl
theorem Zo (p:ah) (hp:Small p): ∃b,sP p=some b:=by
 unfold sP
 cases(bif (bif (decide (60<(p.aa.length:Int)))then true else(decide (60<(p.aq.length:Int))))then true else(decide (60<(p.a_.length:Int))))with
 |true=>exact⟨_,rfl⟩
 |false=>
  rw [bu,wW p hp]
  exact⟨_,rfl⟩
theorem Ht (p:ah) (s:State) (l:List Transfer) (pairs:Bool) (hp:Small p):ja p s l pairs=some true:=by
 obtain⟨b,hb⟩:=Zo p hp
 unfold ja
 rw [hb,bs]
 cases hB:(bif (bif b then true else(bif (decide (6<(l.length:Int)))then(decide ((l.length:Int)<=16))else false))then true else(decide (20<(l.length:Int))))with
 |true=>rw [bt,tQ];rfl
 |false=>
  have hl:l.length<=20:=by
   by_cases h:20<(l.length:Int)
   ·rw [bx h,wR,Bool.or_true]at hB;cases hB
   ·omega
  rw [bu,Wh l (by omega),bs]
  by_cases z:FD p s l=0
  ·obtain⟨hv,hs,h16,hx⟩:=nD.1 z
   obtain⟨e1,e2⟩:=QV hv hs h16 hx
   have hrl:=hv.rl
   have hpl:=Ja (s:=s) (l:=l) hv p.a_.length (by omega)
   obtain⟨w1,w2⟩:=Zc hv hs h16 hx pairs
   rw [e1,e2,bs,bs]
   dsimp only
   rw [bx rfl,bx rfl,cD,bu,bu,U9 _ (by omega),bs,bs,Zn hv hs h16 hx,Qx hv hs h16 hx,bs,bs]
   dsimp only
   rw [bx rfl,show gB [(true,true)]=true from rfl,bt,CZ _ (by omega) (fun x h=>by have:=w2 x h;omega),bs,bt,show gB [(true,true)]=true from rfl,bt,tQ]
   rfl
  ·have d:(!decide (FD p s l=0))=true:=by rw [bz z];rfl
   have e1:jJ p s l=some ([],FD p s l):=by unfold jJ;rw [vH p s l hp (by omega),bs,d];rfl
   have e2:jG p s l=some ([],FD p s l):=by unfold jG;rw [nZ p s l hp,bs,d];rfl
   have e3:ow p s l pairs=some ([],FD p s l):=by unfold ow;rw [vH p s l hp (by omega),bs,d];rfl
   have e4:oH p s l pairs=some ([],FD p s l):=by unfold oH;rw [nZ p s l hp,bs,d];rfl
   have k0:ay (fI ([],FD p s l) ([],FD p s l)) FUEL 0=some (.brk ()):=by
    refine jd (n:=1) ?_ (by unfold FUEL;omega)
    rfl
   rw [e1,e2,bs,bs]
   dsimp only
   rw [bx rfl,bx rfl,cD,bu,bu,k0,bs,bs,e3,e4,bs,bs]
   dsimp only
   rw [bx rfl,show gB [(true,true)]=true from rfl,bt,CZ _ (by simp) (fun x h=>by cases h),bs,bt,show gB [(true,true)]=true from rfl,bt,tQ]
   rfl
def Ci (y:Int):ah:=⟨4,[⟨0,1,500,y,20⟩,⟨1,1,500,y,20⟩],[⟨0,2,3,500,10,[]⟩,⟨1,3,3,500,10,[]⟩,⟨2,3,3,500,10,[]⟩],[⟨⟨2,3⟩,100,2⟩]⟩
def qa:State:=⟨[true,true,false],List.replicate 3 false,List.replicate 3 false,[true,true],List.replicate 2 false,List.replicate 4 false,List.replicate 4 false⟩
theorem WT (y:Int):iA y=some (Ci y,qa):=by kernel_rfl
def okC (n:Int):Bool:=match rq (some true) (Ci (Int.fdiv n (2 ^ min 11 (IntKind.bits .i64)))) (QT n qa) (IntKind.wrap .i64 ((Int.tmod n 3) - 1)) []with|some true=>true|_=>false
def BM (k:Nat):Bool:=(List.range 32).all fun q=>okC ((4*(32*k+q)+3:Nat):Int)
end Sg
