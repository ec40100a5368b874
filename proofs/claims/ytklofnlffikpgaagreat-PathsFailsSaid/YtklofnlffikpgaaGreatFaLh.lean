import Derived.Test.YtklofnlffikpgaaGreatFaLg
set_option linter.all false
namespace Sg
open Go
theorem VW {α:Type} [Inhabited α] {l:List α} {k:Nat}:Gx l k 1=[at' l k]:=by
 unfold Gx
 rw [List.range_one,List.map_singleton,Nat.zero_add]
theorem IZ {α:Type} (f:Nat→List α): ∀n,dG f (n+1)=f 0++dG (fun i=>f (i+1)) n
 |0=>by simp [dG]
 |n+1=>by
  show dG f (n+1)++f (n+1)=_
  rw [IZ f n,List.append_assoc];rfl
def Ml {α β:Type} (g:α→List α→List β):List α→List β
 |[]=>[]
 |a::l=>g a l++Ml g l
theorem Jq {α β:Type} [Inhabited α] (g:α→List α→List β): ∀l:List α,dG (fun i=>g (at' l i) (l.drop (i+1))) l.length=Ml g l
 |[]=>rfl
 |a::l=>by
  show dG _ (l.length+1)=_
  rw [IZ]
  have ih:=Jq g l
  show g a l++dG (fun i=>g (at' l i) (l.drop (i+1))) l.length=_
  rw [ih];rfl
theorem Fj {α:Type} (q:α→Bool) (W:List α→Bool): ∀S:List α,(Ml (fun a l=>l.map fun b=>[a,b]) (S.filter q)).filter W=Ml (fun a l=>bif q a then(l.filter fun b=>q b && W [a,b]).map fun b=>[a,b]else []) S
 |[]=>rfl
 |a::S=>by
  rw [List.filter_cons]
  show _=_++Ml _ S
  rw [←Fj q W S]
  cases h:q a with
  |false=>simp [h]
  |true=>
   rw [if_pos rfl]
   show _=(bif q a then _ else _)++_
   rw [h,cond_true]
   show(_++Ml _ (S.filter q)).filter W=_
   rw [List.filter_append]
   congr 1
   rw [List.filter_map,List.filter_filter]
   congr 1
   refine List.filter_congr fun b _=> ?_
   show(W [a,b] && q b)=_
   rw [Bool.and_comm]
section
variable {p:ai} {s:State} {l:List Transfer} (hp:VP p) (hs:VS p s) (hl:l.length≤16) (hx: ∀x∈l,Tj p x)
def He (p:ai) (s:State) (l:List Transfer) (k:Nat):List aI:=
 bif decide (0<(at' p.racks k).paths) && !yJ p s k then [⟨(k:Int),⟨0,0⟩⟩]
 else bif decide ((at' p.racks k).paths<2)then []
 else((aC p s).filter fun x=> !yJ p (GU p s l [x]) k).map fun x=> ⟨(k:Int),x⟩
include hp
theorem UG (k:Nat):(He p s l k).length≤72:=by
 unfold He
 cases decide (0<(at' p.racks k).paths) && !yJ p s k with
 |true=>simp
 |false=>
  cases decide ((at' p.racks k).paths<2)with
  |true=>simp
  |false=>
   rw [cond_false,cond_false,List.length_map]
   exact Nat.le_trans (List.length_filter_le _ _) (mM hp)
include hs hl hx
theorem MS {k:Nat} (hk:k<p.racks.length) (out:List aI) (ho:out.length≤10000):aA (gY p s l (k:Int) (aC p s)) FUEL (out,0)=some (.brk (out++((aC p s).filter fun x=> !yJ p (GU p s l [x]) k).map fun x=> ⟨(k:Int),x⟩)):=by
 have h72:=mM (s:=s) hp
 refine yX (body:=gY p s l (k:Int) (aC p s)) (aC p s) _ (fun x=>(⟨(k:Int),x⟩:aI)) out (by omega) (fun t o ht hol=> ?_) (fun o=> ?_)
 ·have hi:=oG hp (at_mem ht)
  unfold gY
  dsimp only
  rw [uT (by omega),cond_true,au ⟨by omega,by omega⟩,Int.toNat_natCast,(Js hp hs hl hx (by simp) (fun y hy=>by rw [List.mem_singleton]at hy;subst hy;exact hi)).1,Option.bind_some]
  dsimp only
  rw [EX hp (MC hp hs hx _) hk,Option.bind_some,au ⟨by rw [List.length_singleton];omega,by rw [List.length_singleton];omega⟩,wr (by omega)]
  cases yJ p (GU p s l [at' (aC p s) t]) k<;>rfl
 ·unfold gY
  dsimp only
  rw [kG (by omega)];rfl
theorem G9 {k:Nat} (hk:k<p.racks.length) (h2:(at' p.racks k).paths=2) (out:List aI) (ho:out.length≤10000):aA (dX p s l (aC p s) (k:Int)) FUEL (out,0)=some (.brk (out++((aC p s).filter fun x=> !yJ p (GU p s l [x]) k).map fun x=> ⟨(k:Int),x⟩)):=by
 have h72:=mM (s:=s) hp
 refine yX (body:=dX p s l (aC p s) (k:Int)) (aC p s) _ (fun x=>(⟨(k:Int),x⟩:aI)) out (by omega) (fun t o ht hol=> ?_) (fun o=> ?_)
 ·have hi:=oG hp (at_mem ht)
  have hc:(0:Int)≤(t:Int)∧(t:Int)<((aC p s).length:Int):=⟨by omega,by omega⟩
  unfold dX
  dsimp only
  rw [uT (by omega),cond_true,Int.toNat_natCast,Int.toNat_natCast,decide_eq_true h2,cond_true,(Js hp hs hl hx (by simp) (fun y hy=>by rw [List.mem_singleton]at hy;subst hy;exact hi)).2,Option.bind_some,au hc]
  dsimp only
  rw [zi hp (MC hp hs hx _) hk,Option.bind_some,au ⟨hc,by rw [List.length_singleton];omega,by rw [List.length_singleton];omega⟩,wr (by omega)]
  cases yJ p (GU p s l [at' (aC p s) t]) k<;>rfl
 ·unfold dX
  dsimp only
  rw [kG (by omega)];rfl
omit hs hl hx in
theorem Fq (n:Nat) (hn:n≤24):(dG (He p s l) n).length≤2000:=by
 have:=ig (f:=He p s l) (m:=72) (n:=n) fun i _=>UG hp i
 have:n*72≤24*72:=Nat.mul_le_mul_right 72 hn
 omega
theorem MB:iK p s l=some (dG (He p s l) p.racks.length,0)∧iJ p s l=some (dG (He p s l) p.racks.length,0):=by
 have hrl:=hp.rl
 have z:DK p s l=0:=qH.2 ⟨hp,hs,hl,hx⟩
 unfold iK iJ
 rw [vQ p s l hp.small (by omega),oz p s l hp.small,Option.bind_some,Option.bind_some,decide_eq_true z,Bool.not_true,cond_false,cond_false,Dv hp hs,Option.bind_some]
 have k1:=aW (body:=fo p s l) (fun k=>(dG (He p s l) k,(k:Int))) p.racks.length (.brk (dG (He p s l) p.racks.length)) (fuel_lt (by omega)) (fun k hk=>by
  have hlen:=Fq (s:=s) (l:=l) hp k (by omega)
  show fo p s l _=some (.next (dG (He p s l) k++He p s l k,_))
  generalize dG (He p s l) k=A at hlen
  unfold fo He
  dsimp only
  rw [uT (by omega),cond_true,au ⟨by omega,by omega⟩,EX hp hs hk,Int.toNat_natCast,wr (by omega),au ⟨by rw [List.length_singleton];omega,by rw [List.length_singleton];omega⟩,LH hp hs,Option.bind_some,MS hp hs hl hx hk _ (by omega)]
  cases decide (0<(at' p.racks k).paths)<;>cases yJ p s k<;>cases decide ((at' p.racks k).paths<2)<;>first|rfl|(simp only [cond_true,cond_false,List.append_nil,Bool.true_and,Bool.false_and,Bool.not_true,Bool.not_false];rfl)) (by
  unfold fo
  dsimp only
  rw [kG (by omega)];rfl)
 have k2:=aW (body:=fe p s l (aC p s)) (fun k=>(dG (He p s l) k,(k:Int))) p.racks.length (.brk (dG (He p s l) p.racks.length)) (fuel_lt (by omega)) (fun k hk=>by
  have hlen:=Fq (s:=s) (l:=l) hp k (by omega)
  have hc:(0:Int)≤(k:Int)∧(k:Int)<(p.racks.length:Int):=⟨by omega,by omega⟩
  show fe p s l (aC p s) _=some (.next (dG (He p s l) k++He p s l k,_))
  have hL1:aA (dX p s l (aC p s) (k:Int)) FUEL (dG (He p s l) k,0)=some (.brk (dG (He p s l) k++bif decide ((at' p.racks k).paths<2)then []else((aC p s).filter fun x=> !yJ p (GU p s l [x]) k).map fun x=> ⟨(k:Int),x⟩)):=by
   have hr:=(hp.rck k hk).paths
   have hf:qf (at' p.racks k)≤2:=by unfold qf;split<;>omega
   by_cases h2:(at' p.racks k).paths<2
   ·rw [decide_eq_true h2,cond_true,List.append_nil]
    refine gV (n:=1) ?_ (by unfold FUEL;omega)
    rw [bL]
    unfold dX
    dsimp only
    rw [Int.toNat_natCast,decide_eq_false (show ¬ (at' p.racks k).paths=2 by omega)]
    cases decide ((0:Int)<((aC p s).length:Int))<;>rfl
   ·rw [decide_eq_false h2,cond_false]
    exact G9 hp hs hl hx hk (by omega) _ (by omega)
  generalize dG (He p s l) k=A at hlen hL1
  unfold fe He
  dsimp only
  rw [uT (by omega),cond_true,au hc,zi hp hs hk,Int.toNat_natCast,wr (by omega),au ⟨by rw [List.length_singleton];omega,by rw [List.length_singleton];omega⟩,hL1,show decide (1≤(at' p.racks k).paths)=decide (0<(at' p.racks k).paths)from decide_eq_decide.2 (by omega)]
  cases decide (0<(at' p.racks k).paths)<;>cases yJ p s k<;>rfl) (by
  unfold fe
  dsimp only
  rw [kG (by omega)];rfl)
 have k1:aA (fo p s l) FUEL ([],0)=_:=k1
 have k2:aA (fe p s l (aC p s)) FUEL ([],0)=_:=k2
 rw [k1,k2]
 exact⟨rfl,rfl⟩
def uR (p:ai) (s:State) (l:List Transfer) (x:List Part):Bool:=decide (0<((TH p s l x).length:Int))
theorem LJ {x:List Part} (hn:x.length≤1000) (hi: ∀y∈x,qg p y):jI x p.buses p.sources p.links p.racks s.closed s.locked s.badLink s.on_ s.badSource s.earthed s.badBus l=some (uR p s l x):=by
 unfold jI
 have:=(JF hp hs hl hx hn hi).1
 have this:mo ⟨p.buses,p.sources,p.links,p.racks⟩ ⟨s.closed,s.locked,s.badLink,s.on_,s.badSource,s.earthed,s.badBus⟩ l x=_:=this
 rw [this];rfl
def xu (p:ai) (s:State) (l:List Transfer) (S:List Part):List (List Part):=(S.filter fun x=>uR p s l [x]).map fun x=>[x]
omit hp hs hl hx in
theorem yI (S:List Part):(xu p s l S).length≤S.length:=by unfold xu;rw [List.length_map];exact List.length_filter_le _ _
theorem Vg:aA (kF p s l (aC p s)) FUEL ([],[],0)=some (.brk (xu p s l (aC p s),(aC p s).filter fun x=> !uR p s l [x])):=by
 have h72:=mM (s:=s) hp
 have key:=aW (body:=kF p s l (aC p s)) (fun t=>(xu p s l ((aC p s).take t),((aC p s).take t).filter (fun x=> !uR p s l [x]),(t:Int))) (aC p s).length (.brk (xu p s l (aC p s),(aC p s).filter fun x=> !uR p s l [x])) (fuel_lt (by omega)) (fun t ht=> ?_) ?_
 ·exact key
 ·have hi:=oG hp (at_mem ht)
  have h1:=yI (p:=p) (s:=s) (l:=l) ((aC p s).take t)
  have h2:(((aC p s).take t).filter (fun x=> !uR p s l [x])).length≤((aC p s).take t).length:=List.length_filter_le _ _
  rw [List.length_take]at h1 h2
  unfold kF
  dsimp only
  rw [uT (by omega),cond_true,au ⟨by omega,by omega⟩,Int.toNat_natCast,LJ hp hs hl hx (by simp) (fun y hy=>by rw [List.mem_singleton]at hy;subst hy;exact hi),Option.bind_some,au ⟨by rw [List.length_singleton];omega,by rw [List.length_singleton];omega⟩,au ⟨by rw [List.length_singleton];omega,by rw [List.length_singleton];omega⟩,wr (by omega),dU ht]
  unfold xu
  rw [List.filter_append,List.filter_append,List.map_append]
  cases h:uR p s l [at' (aC p s) t]with
  |true=>simp [h]
  |false=>simp [h]
 ·unfold kF
  dsimp only
  rw [kG (by omega),cond_false,List.take_length]
omit hs hl hx hp in
theorem Rb (l:List Part) (hl:l.length≤72):qw l=some (Ml (fun a l=>l.map fun b=>[a,b]) l):=by
 have L1: ∀(i:Nat) (out:List (List Part)),i<l.length→out.length≤10000→aA (jH l (i:Int)) FUEL (out,0)=some (.brk (out++(l.drop (i+1)).map fun b=>[at' l i,b])):=fun i out hi ho=>by
  have key:=yX (body:=jH l (i:Int)) (l.drop (i+1)) (fun _=>true) (fun b=>[at' l i,b]) out (by rw [List.length_drop];omega) (fun t o ht hol=> ?_) (fun o=> ?_)
  ·rw [key]
   congr 4
   rw [List.filter_eq_self];simp
  ·rw [List.length_drop]at ht
   unfold jH
   dsimp only
   rw [wr (x:=(i:Int)+1) (by omega),show((i:Int)+1).toNat=i+1 by omega,uT (by omega),cond_true,au ⟨by omega,by rw [List.length_drop];omega⟩,au ⟨by rw [List.length_singleton];omega,by rw [List.length_singleton];omega⟩,wr (by omega)]
   rfl
  ·unfold jH
   dsimp only
   rw [wr (x:=(i:Int)+1) (by omega),show((i:Int)+1).toNat=i+1 by omega,List.length_drop,kG (by omega)];rfl
 have hacc: ∀n,n≤l.length→(dG (fun i=>(l.drop (i+1)).map fun b=>[at' l i,b]) n).length≤6000:=fun n hn=>by
  have:=ig (f:=fun i=>(l.drop (i+1)).map fun b=>[at' l i,b]) (m:=72) (n:=n) fun i _=>by rw [List.length_map,List.length_drop];omega
  have:n*72≤72*72:=Nat.mul_le_mul_right 72 (by omega)
  omega
 have key:=aW (body:=jQ l) (fun t=>(dG (fun i=>(l.drop (i+1)).map fun b=>[at' l i,b]) t,(t:Int))) l.length (.brk (dG (fun i=>(l.drop (i+1)).map fun b=>[at' l i,b]) l.length)) (fuel_lt (by omega)) (fun t ht=> ?_) ?_
 ·unfold qw
  have key:aA (jQ l) FUEL ([],0)=_:=key
  rw [key,Jq (fun a l=>l.map fun b=>[a,b]) l];rfl
 ·unfold jQ
  dsimp only
  rw [uT (by omega),cond_true,au ⟨by omega,by omega⟩,wr (by omega),au ⟨by omega,by omega⟩,L1 t _ ht (by have:=hacc t (by omega);omega)]
  rfl
 ·unfold jQ
  dsimp only
  rw [kG (by omega)];rfl
omit hs hl hx hp in
theorem Jb {α β:Type} {g:α→List α→List β} {x:β}: ∀{l:List α},x∈Ml g l→ ∃a m,a∈l∧(∀b∈m,b∈l)∧x∈g a m
 |[],h=>by cases h
 |a::l,h=>by
  rcases List.mem_append.1 h with h|h
  ·exact⟨a,l,List.mem_cons_self,fun b hb=>List.mem_cons_of_mem _ hb,h⟩
  ·obtain⟨b,m,h1,h2,h3⟩:=Jb h
   exact⟨b,m,List.mem_cons_of_mem _ h1,fun c hc=>List.mem_cons_of_mem _ (h2 c hc),h3⟩
omit hs hl hx hp in
theorem JD {α β:Type} {g:α→List α→List β} {m:Nat}: ∀{l:List α},(∀a k,k.length≤l.length→(g a k).length≤m)→(Ml g l).length≤l.length*m
 |[],_=>by simp [Ml]
 |a::l,h=>by
  have h1:=JD (l:=l) (g:=g) (m:=m) fun a k hk=>h a k (by rw [List.length_cons];omega)
  have h2:=h a l (by rw [List.length_cons];omega)
  rw [Ml,List.length_append,List.length_cons,Nat.succ_mul];omega
def WU (p:ai) (s:State) (l:List Transfer) (pairs:Bool):List (List Part):=
 xu p s l (aC p s)++bif pairs then(Ml (fun a l=>l.map fun b=>[a,b]) ((aC p s).filter fun x=> !uR p s l [x])).filter (uR p s l)else []
theorem Wm (pairs:Bool):mH p s l pairs=some (WU p s l pairs,0):=by
 have h72:=mM (s:=s) hp
 have z:DK p s l=0:=qH.2 ⟨hp,hs,hl,hx⟩
 unfold mH WU
 rw [vQ p s l hp.small (by omega),Option.bind_some,decide_eq_true z,Bool.not_true,cond_false,LH hp hs,Option.bind_some,Vg hp hs hl hx,Option.bind_some]
 dsimp only
 cases pairs with
 |false=>rw [cond_false,cond_false,List.append_nil]
 |true=>
  have h1:=yI (p:=p) (s:=s) (l:=l) (aC p s)
  have hfl:((aC p s).filter fun x=> !uR p s l [x]).length≤72:=Nat.le_trans (List.length_filter_le _ _) h72
  have hpl:(Ml (fun a l=>l.map fun b=>[a,b]) ((aC p s).filter fun x=> !uR p s l [x])).length≤6000:=by
   have:=JD (l:=(aC p s).filter fun x=> !uR p s l [x]) (g:=fun a (l:List Part)=>l.map fun b=>[a,b]) (m:=72) fun a k hk=>by rw [List.length_map];omega
   have:((aC p s).filter fun x=> !uR p s l [x]).length*72≤72*72:=Nat.mul_le_mul_right 72 hfl
   omega
  have hmem: ∀x∈Ml (fun a l=>l.map fun b=>[a,b]) ((aC p s).filter fun x=> !uR p s l [x]),x.length≤1000∧ ∀y∈x,qg p y:=fun x hxm=>by
   obtain⟨a,m,h1,h2,h3⟩:=Jb hxm
   obtain⟨b,hb,rfl⟩:=List.mem_map.1 h3
   refine⟨by simp,fun y hy=> ?_⟩
   rcases List.mem_cons.1 hy with rfl|hy
   ·exact oG hp (List.mem_filter.1 h1).1
   ·rw [List.mem_singleton]at hy;subst hy
    exact oG hp (List.mem_filter.1 (h2 _ hb)).1
  rw [cond_true,cond_true,Rb _ hfl,Option.bind_some]
  generalize Ml (fun a l=>l.map fun b=>[a,b]) ((aC p s).filter fun x=> !uR p s l [x])=R at hpl hmem
  have key:=yX (body:=nU p s l R) R (uR p s l) id (xu p s l (aC p s)) (by omega) (fun t o ht ho=> ?_) (fun o=> ?_)
  ·rw [key,List.map_id];rfl
  ·obtain⟨m1,m2⟩:=hmem _ (at_mem ht)
   unfold nU
   dsimp only
   rw [uT (by omega),cond_true,au ⟨by omega,by omega⟩,Int.toNat_natCast,LJ hp hs hl hx m1 m2,Option.bind_some,au ⟨by rw [List.length_singleton];omega,by rw [List.length_singleton];omega⟩,wr (by omega)]
   cases uR p s l (at' R t)<;>rfl
  ·unfold nU
   dsimp only
   rw [kG (by omega)];rfl
def DN (p:ai) (s:State) (l:List Transfer) (S:List Part) (t:Nat):List Bool:=tab S.length fun i=>decide (i<t) && uR p s l [at' S i]
omit hp hs hl hx in
theorem Vs (S:List Part) {t:Nat} (ht:t<S.length):(DN p s l S t).set t (uR p s l [at' S t])=DN p s l S (t+1):=by
 refine vF (by simp [DN,aQ]) fun i hi=> ?_
 rw [List.length_set]at hi
 unfold DN at hi ⊢
 rw [aQ]at hi
 by_cases e:t=i
 ·subst e
  rw [bQ (by rw [aQ];exact hi),qi hi,decide_eq_true (by omega)];rfl
 ·rw [bJ e,qi hi,qi hi,show decide (i<t)=decide (i<t+1)from decide_eq_decide.2 (by omega)]
theorem ND:aA (kH p s l (aC p s)) FUEL ([],List.replicate (((aC p s).length:Int).toNat) false,0)=some (.brk (xu p s l (aC p s),DN p s l (aC p s) (aC p s).length)):=by
 have h72:=mM (s:=s) hp
 have key:=aW (body:=kH p s l (aC p s)) (fun t=>(xu p s l ((aC p s).take t),DN p s l (aC p s) t,(t:Int))) (aC p s).length (.brk (xu p s l (aC p s),DN p s l (aC p s) (aC p s).length)) (fuel_lt (by omega)) (fun t ht=> ?_) ?_
 ·have e:List.replicate (((aC p s).length:Int).toNat) false=DN p s l (aC p s) 0:=by
   refine vF (by simp [DN,aQ]) fun i hi=> ?_
   rw [List.length_replicate]at hi
   rw [ja hi]
   unfold DN
   rw [qi (by omega)];rfl
  rw [e];exact key
 ·have hi:=oG hp (at_mem ht)
  have h1:=yI (p:=p) (s:=s) (l:=l) ((aC p s).take t)
  rw [List.length_take]at h1
  have hw:(DN p s l (aC p s) t).length=(aC p s).length:=by unfold DN;rw [aQ]
  have hw2:(DN p s l (aC p s) (t+1)).length=(aC p s).length:=by unfold DN;rw [aQ]
  unfold kH
  dsimp only
  rw [uT (by omega),cond_true,Int.toNat_natCast,wr (by omega),show((t:Int)+1).toNat - t=1 by omega,VW,(JF hp hs hl hx (by simp) (fun y hy=>by rw [List.mem_singleton]at hy;subst hy;exact hi)).2,Option.bind_some,au ⟨by omega,by omega,by omega⟩,au ⟨by omega,by omega⟩]
  dsimp only
  rw [show(decide (0<((TH p s l [at' (aC p s) t]).length:Int)))=uR p s l [at' (aC p s) t]from rfl,Vs _ ht,au ⟨⟨by omega,by omega⟩,by omega⟩,au ⟨⟨by omega,by omega⟩,by rw [List.length_singleton];omega,by rw [List.length_singleton];omega⟩,dU ht]
  have e:at' (DN p s l (aC p s) (t+1)) t=uR p s l [at' (aC p s) t]:=by
   unfold DN
   rw [qi ht,decide_eq_true (by omega)];rfl
  rw [e]
  unfold xu
  rw [List.filter_append,List.map_append]
  cases h:uR p s l [at' (aC p s) t]with
  |true=>simp [h]
  |false=>simp [h]
 ·unfold kH
  dsimp only
  rw [kG (by omega),cond_false,List.take_length]
theorem Ny {i:Nat} (hi:i<(aC p s).length) (out:List (List Part)) (ho:out.length≤10000):
  aA (kC p s l (aC p s) (DN p s l (aC p s) (aC p s).length) (i:Int)) FUEL (out,(i:Int)+1)=some (.brk (out++bif !uR p s l [at' (aC p s) i]then(((aC p s).drop (i+1)).filter fun b=> !uR p s l [b] && uR p s l [at' (aC p s) i,b]).map fun b=>[at' (aC p s) i,b]else [])):=by
 have h72:=mM (s:=s) hp
 have hw:((DN p s l (aC p s) (aC p s).length).length:Int)=((aC p s).length:Int):=by unfold DN;rw [aQ]
 have hwa: ∀k,k<(aC p s).length→at' (DN p s l (aC p s) (aC p s).length) k=uR p s l [at' (aC p s) k]:=fun k hk=>by
  unfold DN
  rw [qi hk,decide_eq_true hk];rfl
 have key:=Iq (body:=kC p s l (aC p s) (DN p s l (aC p s) (aC p s).length) (i:Int)) ((aC p s).drop (i+1)) (fun b=> !uR p s l [at' (aC p s) i] && (!uR p s l [b] && uR p s l [at' (aC p s) i,b])) (fun b=>[at' (aC p s) i,b]) out ((i:Int)+1) (by rw [List.length_drop];omega) (fun t o ht hol=> ?_) (fun o=> ?_)
 ·rw [key]
  cases uR p s l [at' (aC p s) i]with
  |false=>rfl
  |true=>simp
 ·have ht':=ht
  rw [List.length_drop]at ht
  have ea:at' ((aC p s).drop (i+1)) t=at' (aC p s) (i+1+t):=by
   rw [eU ht',List.getElem_drop,eU (by omega)]
  have h1:=oG hp (at_mem hi)
  have h2:=oG hp (at_mem (show i+1+t<(aC p s).length by omega))
  unfold kC
  dsimp only
  rw [show(i:Int)+1+(t:Int)=((i+1+t:Nat):Int) by omega,uT (by omega),cond_true,au ⟨⟨by omega,by omega⟩,fun _=> ⟨by omega,by omega⟩⟩,Int.toNat_natCast,Int.toNat_natCast,hwa i hi,hwa _ (by omega),au ⟨⟨by omega,by omega⟩,⟨by omega,by omega⟩⟩,(JF hp hs hl hx (by simp) (fun y hy=>by
   rcases List.mem_cons.1 hy with rfl|hy
   ·exact h1
   ·rw [List.mem_singleton]at hy;subst hy;exact h2)).2,Option.bind_some,au ⟨by rw [List.length_singleton];omega,by rw [List.length_singleton];omega⟩,wr (by omega),ea]
  dsimp only
  rw [show(decide (0<((TH p s l [at' (aC p s) i,at' (aC p s) (i+1+t)]).length:Int)))=uR p s l [at' (aC p s) i,at' (aC p s) (i+1+t)]from rfl]
  cases uR p s l [at' (aC p s) i]<;>cases uR p s l [at' (aC p s) (i+1+t)]<;>cases uR p s l [at' (aC p s) i,at' (aC p s) (i+1+t)]<;>rfl
 ·unfold kC
  dsimp only
  rw [List.length_drop,kG (by omega)];rfl
theorem MN (pairs:Bool):mQ p s l pairs=some (WU p s l pairs,0):=by
 have h72:=mM (s:=s) hp
 have z:DK p s l=0:=qH.2 ⟨hp,hs,hl,hx⟩
 have h1:=yI (p:=p) (s:=s) (l:=l) (aC p s)
 unfold mQ WU
 rw [oz p s l hp.small,Option.bind_some,decide_eq_true z,Bool.not_true,cond_false,Dv hp hs,Option.bind_some,au ⟨by omega,by omega,by omega⟩,ND hp hs hl hx,Option.bind_some]
 dsimp only
 let G:Part→List Part→List (List Part):=fun a m=>bif !uR p s l [a]then(m.filter fun b=> !uR p s l [b] && uR p s l [a,b]).map fun b=>[a,b]else []
 have hG: ∀a m,(G a m).length≤m.length:=fun a m=>by
  show(bif !uR p s l [a]then _ else _:List (List Part)).length≤_
  cases uR p s l [a]with
  |true=>simp
  |false=>
   rw [Bool.not_false,cond_true,List.length_map];exact List.length_filter_le _ _
 cases pairs with
 |false=>
  have key:aA (fM p s l false (aC p s) (DN p s l (aC p s) (aC p s).length)) FUEL (xu p s l (aC p s),0)=some (.brk (xu p s l (aC p s))):=by
   refine gV (n:=1) ?_ (by unfold FUEL;omega)
   rw [bL]
   unfold fM
   dsimp only
   cases decide ((0:Int)<((aC p s).length:Int))<;>rfl
  rw [key,cond_false,List.append_nil];rfl
 |true=>
  have hacc: ∀n,n≤(aC p s).length→(dG (fun i=>G (at' (aC p s) i) ((aC p s).drop (i+1))) n).length≤6000:=fun n hn=>by
   have:=ig (f:=fun i=>G (at' (aC p s) i) ((aC p s).drop (i+1))) (m:=72) (n:=n) fun i _=>Nat.le_trans (hG _ _) (by rw [List.length_drop];omega)
   have:n*72≤72*72:=Nat.mul_le_mul_right 72 (by omega)
   omega
  have key:=aW (body:=fM p s l true (aC p s) (DN p s l (aC p s) (aC p s).length)) (fun t=>(xu p s l (aC p s)++dG (fun i=>G (at' (aC p s) i) ((aC p s).drop (i+1))) t,(t:Int))) (aC p s).length (.brk (xu p s l (aC p s)++dG (fun i=>G (at' (aC p s) i) ((aC p s).drop (i+1))) (aC p s).length)) (fuel_lt (by omega)) (fun t ht=> ?_) ?_
  ·rw [show dG (fun i=>G (at' (aC p s) i) ((aC p s).drop (i+1))) 0=[]from rfl,List.append_nil]at key
   have key:aA (fM p s l true (aC p s) (DN p s l (aC p s) (aC p s).length)) FUEL (xu p s l (aC p s),0)=_:=key
   rw [key,cond_true,Fj,Jq G];rfl
  ·have:=hacc t (by omega)
   unfold fM
   dsimp only
   rw [uT (by omega),cond_true,cond_true,wr (by omega),Ny hp hs hl hx ht _ (by rw [List.length_append];omega),Option.bind_some,List.append_assoc]
   rfl
  ·unfold fM
   dsimp only
   rw [kG (by omega)];rfl
theorem Vj (pairs:Bool):(WU p s l pairs).length≤10000∧ ∀x∈WU p s l pairs,x.length≤1000:=by
 have h72:=mM (s:=s) hp
 have h1:=yI (p:=p) (s:=s) (l:=l) (aC p s)
 have ho: ∀x∈xu p s l (aC p s),x.length≤1000:=fun x hxm=>by
  unfold xu at hxm
  obtain⟨y,_,rfl⟩:=List.mem_map.1 hxm
  simp
 unfold WU
 cases pairs with
 |false=>rw [cond_false,List.append_nil];exact⟨by omega,ho⟩
 |true=>
  rw [cond_true]
  have hfl:((aC p s).filter fun x=> !uR p s l [x]).length≤72:=Nat.le_trans (List.length_filter_le _ _) h72
  have hpl:=JD (l:=(aC p s).filter fun x=> !uR p s l [x]) (g:=fun a (l:List Part)=>l.map fun b=>[a,b]) (m:=72) fun a k hk=>by rw [List.length_map];omega
  have h5:((aC p s).filter fun x=> !uR p s l [x]).length*72≤72*72:=Nat.mul_le_mul_right 72 hfl
  have h6:=List.length_filter_le (uR p s l) (Ml (fun a l=>l.map fun b=>[a,b]) ((aC p s).filter fun x=> !uR p s l [x]))
  refine⟨by rw [List.length_append];omega,fun x hxm=> ?_⟩
  rcases List.mem_append.1 hxm with h|h
  ·exact ho x h
  ·obtain⟨a,m,_,_,h3⟩:=Jb (List.mem_filter.1 h).1
   obtain⟨b,_,rfl⟩:=List.mem_map.1 h3
   simp
end
theorem Ap (l:List (List Part)) (h:l.length≤1000000) (h1: ∀x∈l,x.length≤1000000):o6 l l=some true:=by
 have key:aA (lu l l) FUEL 0=some (.brk ()):=by
  refine Gc l (by omega) (fun t ht=> ?_) ?_
  ·unfold lu vK
   rw [uT (by omega),cond_true,Int.toNat_natCast,Fz _ (h1 _ (at_mem ht)),Option.bind_some,Option.bind_some,au ⟨⟨by omega,by omega⟩,by omega,by omega⟩,wr (by omega)]
   rfl
  ·unfold lu
   rw [kG (by omega)];rfl
 unfold o6
 simp [key]
theorem QO (l:List aI) (h:l.length≤1000000):aA (eY (l,0) (l,0)) FUEL 0=some (.brk ()):=by
 refine Gc l (by omega) (fun t ht=> ?_) ?_
 ·unfold eY
  dsimp only
  rw [uT (by omega),cond_true,au ⟨⟨by omega,by omega⟩,by omega,by omega⟩,wr (by omega)]
  simp
 ·unfold eY
  dsimp only
  rw [kG (by omega)];rfl
theorem Ug (p:ai) (hp:Small p): ∃b,uQ p=some b:=by
 unfold uQ
 cases(bif (bif (decide (60<(p.sources.length:Int)))then true else(decide (60<(p.links.length:Int))))then true else(decide (60<(p.racks.length:Int))))with
 |true=>exact⟨_,rfl⟩
 |false=>
  rw [cond_false,uV p hp]
  exact⟨_,rfl⟩
theorem DL (p:ai) (s:State) (l:List Transfer) (pairs:Bool) (hp:Small p):jY p s l pairs=some true:=by
 obtain⟨b,hb⟩:=Ug p hp
 unfold jY
 rw [hb,Option.bind_some]
 cases hB:(bif (bif b then true else(bif (decide (6<(l.length:Int)))then(decide ((l.length:Int)≤16))else false))then true else(decide (20<(l.length:Int))))with
 |true=>rw [cond_true,I4];rfl
 |false=>
  have hl:l.length≤20:=by
   by_cases h:20<(l.length:Int)
   ·rw [decide_eq_true h,zI,Bool.or_true]at hB;cases hB
   ·omega
  rw [cond_false,XH l (by omega),Option.bind_some]
  by_cases z:DK p s l=0
  ·obtain⟨hv,hs,h16,hx⟩:=qH.1 z
   obtain⟨e1,e2⟩:=MB hv hs h16 hx
   have hrl:=hv.rl
   have hpl:=Fq (s:=s) (l:=l) hv p.racks.length (by omega)
   obtain⟨w1,w2⟩:=Vj hv hs h16 hx pairs
   rw [e1,e2,Option.bind_some,Option.bind_some]
   dsimp only
   rw [decide_eq_true rfl,decide_eq_true rfl,Bool.not_true,cond_false,cond_false,QO _ (by omega),Option.bind_some,Option.bind_some,Wm hv hs h16 hx,MN hv hs h16 hx,Option.bind_some,Option.bind_some]
   dsimp only
   rw [decide_eq_true rfl,show gB [(true,true)]=true from rfl,cond_true,Ap _ (by omega) (fun x h=>by have:=w2 x h;omega),Option.bind_some,cond_true,show gB [(true,true)]=true from rfl,cond_true,I4]
   rfl
  ·have d:(!decide (DK p s l=0))=true:=by rw [decide_eq_false z];rfl
   have e1:iK p s l=some ([],DK p s l):=by unfold iK;rw [vQ p s l hp (by omega),Option.bind_some,d];rfl
   have e2:iJ p s l=some ([],DK p s l):=by unfold iJ;rw [oz p s l hp,Option.bind_some,d];rfl
   have e3:mH p s l pairs=some ([],DK p s l):=by unfold mH;rw [vQ p s l hp (by omega),Option.bind_some,d];rfl
   have e4:mQ p s l pairs=some ([],DK p s l):=by unfold mQ;rw [oz p s l hp,Option.bind_some,d];rfl
   have k0:aA (eY ([],DK p s l) ([],DK p s l)) FUEL 0=some (.brk ()):=by
    refine gV (n:=1) ?_ (by unfold FUEL;omega)
    rfl
   rw [e1,e2,Option.bind_some,Option.bind_some]
   dsimp only
   rw [decide_eq_true rfl,decide_eq_true rfl,Bool.not_true,cond_false,cond_false,k0,Option.bind_some,Option.bind_some,e3,e4,Option.bind_some,Option.bind_some]
   dsimp only
   rw [decide_eq_true rfl,show gB [(true,true)]=true from rfl,cond_true,Ap _ (by simp) (fun x h=>by cases h),Option.bind_some,cond_true,show gB [(true,true)]=true from rfl,cond_true,I4]
   rfl
end Sg
