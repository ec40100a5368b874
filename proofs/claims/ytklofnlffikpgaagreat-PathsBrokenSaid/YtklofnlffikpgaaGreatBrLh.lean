import Derived.Test.YtklofnlffikpgaaGreatBrLg
set_option linter.all false
namespace Sg
open Go
theorem IL {α:Type} (f:Nat→List α): ∀n,bK f (n+1)=f 0++bK (fun i=>f (i+1)) n
 |0=>by simp [bK]
 |n+1=>by
  show bK f (n+1)++f (n+1)=_
  rw [IL f n,List.append_assoc];rfl
def QW {α β:Type} (g:α→List α→List β):List α→List β
 |[]=>[]
 |a::l=>g a l++QW g l
theorem Oi {α β:Type} [Inhabited α] (g:α→List α→List β): ∀l:List α,bK (fun i=>g (at' l i) (l.drop (i+1))) l.length=QW g l
 |[]=>rfl
 |a::l=>by
  show bK _ (l.length+1)=_
  rw [IL]
  have ih:=Oi g l
  show g a l++bK (fun i=>g (at' l i) (l.drop (i+1))) l.length=_
  rw [ih];rfl
section
variable {p:ah} {s:State} {l:List Transfer} (hp:VP p) (hs:VS p s) (hl:l.length≤16) (hx: ∀x∈l,Gz p x)
def Dp (p:ah) (s:State) (l:List Transfer) (k:Nat):List aO:=
 bif decide (0<(at' p.racks k).paths) && !kV p s k then [⟨(k:Int),⟨0,0⟩⟩]
 else bif decide ((at' p.racks k).paths<2)then []
 else((bE p s).filter fun x=> !kV p (E9 p s l [x]) k).map fun x=> ⟨(k:Int),x⟩
include hp
theorem UK (k:Nat):(Dp p s l k).length≤72:=by
 unfold Dp
 cases decide (0<(at' p.racks k).paths) && !kV p s k with
 |true=>simp
 |false=>
  cases decide ((at' p.racks k).paths<2)with
  |true=>simp
  |false=>
   rw [cond_false,cond_false,List.length_map]
   exact Nat.le_trans (List.length_filter_le _ _) (oO hp)
include hs hl hx
theorem M6 {k:Nat} (hk:k<p.racks.length) (out:List aO) (ho:out.length≤10000):ay (iT p s l (k:Int) (bE p s)) FUEL (out,0)=some (.brk (out++((bE p s).filter fun x=> !kV p (E9 p s l [x]) k).map fun x=> ⟨(k:Int),x⟩)):=by
 have h72:=oO (s:=s) hp
 refine yO (body:=iT p s l (k:Int) (bE p s)) (bE p s) _ (fun x=>(⟨(k:Int),x⟩:aO)) out (by omega) (fun t o ht hol=> ?_) (fun o=> ?_)
 ·have hi:=nC hp (at_mem ht)
  unfold iT
  dsimp only
  rw [rD (by omega),cond_true,ai ⟨by omega,by omega⟩,Int.toNat_natCast,(Js hp hs hl hx (by simp) (fun y hy=>by rw [List.mem_singleton]at hy;subst hy;exact hi)).1,Option.bind_some]
  dsimp only
  rw [yc hp (IX hp hs hx _) hk,Option.bind_some,ai ⟨by rw [List.length_singleton];omega,by rw [List.length_singleton];omega⟩,wr (by omega)]
  cases kV p (E9 p s l [at' (bE p s) t]) k<;>rfl
 ·unfold iT
  dsimp only
  rw [jm (by omega)];rfl
theorem GK {k:Nat} (hk:k<p.racks.length) (h2:(at' p.racks k).paths=2) (out:List aO) (ho:out.length≤10000):ay (eF p s l (bE p s) (k:Int)) FUEL (out,0)=some (.brk (out++((bE p s).filter fun x=> !kV p (E9 p s l [x]) k).map fun x=> ⟨(k:Int),x⟩)):=by
 have h72:=oO (s:=s) hp
 refine yO (body:=eF p s l (bE p s) (k:Int)) (bE p s) _ (fun x=>(⟨(k:Int),x⟩:aO)) out (by omega) (fun t o ht hol=> ?_) (fun o=> ?_)
 ·have hi:=nC hp (at_mem ht)
  have hc:(0:Int)≤(t:Int)∧(t:Int)<((bE p s).length:Int):=⟨by omega,by omega⟩
  unfold eF
  dsimp only
  rw [rD (by omega),cond_true,Int.toNat_natCast,Int.toNat_natCast,decide_eq_true h2,cond_true,(Js hp hs hl hx (by simp) (fun y hy=>by rw [List.mem_singleton]at hy;subst hy;exact hi)).2,Option.bind_some,ai hc]
  dsimp only
  rw [zi hp (IX hp hs hx _) hk,Option.bind_some,ai ⟨hc,by rw [List.length_singleton];omega,by rw [List.length_singleton];omega⟩,wr (by omega)]
  cases kV p (E9 p s l [at' (bE p s) t]) k<;>rfl
 ·unfold eF
  dsimp only
  rw [jm (by omega)];rfl
omit hs hl hx in
theorem F6 (n:Nat) (hn:n≤24):(bK (Dp p s l) n).length≤2000:=by
 have:=fq (f:=Dp p s l) (m:=72) (n:=n) fun i _=>UK hp i
 have:n*72≤24*72:=Nat.mul_le_mul_right 72 hn
 omega
theorem FM:lF p s l=some (bK (Dp p s l) p.racks.length,0)∧xI p s l=some (bK (Dp p s l) p.racks.length,0):=by
 have hrl:=hp.rl
 have z:L6 p s l=0:=tY.2 ⟨hp,hs,hl,hx⟩
 unfold lF xI
 rw [A7 p s l hp.small (by omega),yj p s l hp.small,Option.bind_some,Option.bind_some,decide_eq_true z,Bool.not_true,cond_false,cond_false,J2 hp hs,Option.bind_some]
 have k1:=aR (body:=gu p s l) (fun k=>(bK (Dp p s l) k,(k:Int))) p.racks.length (.brk (bK (Dp p s l) p.racks.length)) (fuel_lt (by omega)) (fun k hk=>by
  have hlen:=F6 (s:=s) (l:=l) hp k (by omega)
  show gu p s l _=some (.next (bK (Dp p s l) k++Dp p s l k,_))
  generalize bK (Dp p s l) k=A at hlen
  unfold gu Dp
  dsimp only
  rw [rD (by omega),cond_true,ai ⟨by omega,by omega⟩,yc hp hs hk,Int.toNat_natCast,wr (by omega),ai ⟨by rw [List.length_singleton];omega,by rw [List.length_singleton];omega⟩,FV hp hs,Option.bind_some,M6 hp hs hl hx hk _ (by omega)]
  cases decide (0<(at' p.racks k).paths)<;>cases kV p s k<;>cases decide ((at' p.racks k).paths<2)<;>first|rfl|(simp only [cond_true,cond_false,List.append_nil,Bool.true_and,Bool.false_and,Bool.not_true,Bool.not_false];rfl)) (by
  unfold gu
  dsimp only
  rw [jm (by omega)];rfl)
 have k2:=aR (body:=gy p s l (bE p s)) (fun k=>(bK (Dp p s l) k,(k:Int))) p.racks.length (.brk (bK (Dp p s l) p.racks.length)) (fuel_lt (by omega)) (fun k hk=>by
  have hlen:=F6 (s:=s) (l:=l) hp k (by omega)
  have hc:(0:Int)≤(k:Int)∧(k:Int)<(p.racks.length:Int):=⟨by omega,by omega⟩
  show gy p s l (bE p s) _=some (.next (bK (Dp p s l) k++Dp p s l k,_))
  have hL1:ay (eF p s l (bE p s) (k:Int)) FUEL (bK (Dp p s l) k,0)=some (.brk (bK (Dp p s l) k++bif decide ((at' p.racks k).paths<2)then []else((bE p s).filter fun x=> !kV p (E9 p s l [x]) k).map fun x=> ⟨(k:Int),x⟩)):=by
   have hr:=(hp.rck k hk).paths
   have hf:qC (at' p.racks k)≤2:=by unfold qC;split<;>omega
   by_cases h2:(at' p.racks k).paths<2
   ·rw [decide_eq_true h2,cond_true,List.append_nil]
    refine gD (n:=1) ?_ (by unfold FUEL;omega)
    rw [aZ]
    unfold eF
    dsimp only
    rw [Int.toNat_natCast,decide_eq_false (show ¬ (at' p.racks k).paths=2 by omega)]
    cases decide ((0:Int)<((bE p s).length:Int))<;>rfl
   ·rw [decide_eq_false h2,cond_false]
    exact GK hp hs hl hx hk (by omega) _ (by omega)
  generalize bK (Dp p s l) k=A at hlen hL1
  unfold gy Dp
  dsimp only
  rw [rD (by omega),cond_true,ai hc,zi hp hs hk,Int.toNat_natCast,wr (by omega),ai ⟨by rw [List.length_singleton];omega,by rw [List.length_singleton];omega⟩,hL1,show decide (1≤(at' p.racks k).paths)=decide (0<(at' p.racks k).paths)from decide_eq_decide.2 (by omega)]
  cases decide (0<(at' p.racks k).paths)<;>cases kV p s k<;>rfl) (by
  unfold gy
  dsimp only
  rw [jm (by omega)];rfl)
 have k1:ay (gu p s l) FUEL ([],0)=_:=k1
 have k2:ay (gy p s l (bE p s)) FUEL ([],0)=_:=k2
 rw [k1,k2]
 exact⟨rfl,rfl⟩
def D5 (p:ah) (s:State) (l:List Transfer) (x:List Part):Bool:=decide (0<((Td p s l x).length:Int))
theorem LY {x:List Part} (hn:x.length≤1000) (hi: ∀y∈x,lZ p y):kJ x p.buses p.sources p.links p.racks s.closed s.locked s.badLink s.on_ s.badSource s.earthed s.badBus l=some (D5 p s l x):=by
 unfold kJ
 have:=(OC hp hs hl hx hn hi).1
 have this:jK ⟨p.buses,p.sources,p.links,p.racks⟩ ⟨s.closed,s.locked,s.badLink,s.on_,s.badSource,s.earthed,s.badBus⟩ l x=_:=this
 rw [this];rfl
def FN (p:ah) (s:State) (l:List Transfer) (S:List Part):List (List Part):=(S.filter fun x=>D5 p s l [x]).map fun x=>[x]
omit hp hs hl hx in
theorem EZ (S:List Part):(FN p s l S).length≤S.length:=by unfold FN;rw [List.length_map];exact List.length_filter_le _ _
theorem Vf:ay (lC p s l (bE p s)) FUEL ([],[],0)=some (.brk (FN p s l (bE p s),(bE p s).filter fun x=> !D5 p s l [x])):=by
 have h72:=oO (s:=s) hp
 have key:=aR (body:=lC p s l (bE p s)) (fun t=>(FN p s l ((bE p s).take t),((bE p s).take t).filter (fun x=> !D5 p s l [x]),(t:Int))) (bE p s).length (.brk (FN p s l (bE p s),(bE p s).filter fun x=> !D5 p s l [x])) (fuel_lt (by omega)) (fun t ht=> ?_) ?_
 ·exact key
 ·have hi:=nC hp (at_mem ht)
  have h1:=EZ (p:=p) (s:=s) (l:=l) ((bE p s).take t)
  have h2:(((bE p s).take t).filter (fun x=> !D5 p s l [x])).length≤((bE p s).take t).length:=List.length_filter_le _ _
  rw [List.length_take]at h1 h2
  unfold lC
  dsimp only
  rw [rD (by omega),cond_true,ai ⟨by omega,by omega⟩,Int.toNat_natCast,LY hp hs hl hx (by simp) (fun y hy=>by rw [List.mem_singleton]at hy;subst hy;exact hi),Option.bind_some,ai ⟨by rw [List.length_singleton];omega,by rw [List.length_singleton];omega⟩,ai ⟨by rw [List.length_singleton];omega,by rw [List.length_singleton];omega⟩,wr (by omega),dF ht]
  unfold FN
  rw [List.filter_append,List.filter_append,List.map_append]
  cases h:D5 p s l [at' (bE p s) t]with
  |true=>simp [h]
  |false=>simp [h]
 ·unfold lC
  dsimp only
  rw [jm (by omega),cond_false,List.take_length]
omit hs hl hx hp in
theorem RB (l:List Part) (hl:l.length≤72):qI l=some (QW (fun a l=>l.map fun b=>[a,b]) l):=by
 have L1: ∀(i:Nat) (out:List (List Part)),i<l.length→out.length≤10000→ay (kH l (i:Int)) FUEL (out,0)=some (.brk (out++(l.drop (i+1)).map fun b=>[at' l i,b])):=fun i out hi ho=>by
  have key:=yO (body:=kH l (i:Int)) (l.drop (i+1)) (fun _=>true) (fun b=>[at' l i,b]) out (by rw [List.length_drop];omega) (fun t o ht hol=> ?_) (fun o=> ?_)
  ·rw [key]
   congr 4
   rw [List.filter_eq_self];simp
  ·rw [List.length_drop]at ht
   unfold kH
   dsimp only
   rw [wr (x:=(i:Int)+1) (by omega),show((i:Int)+1).toNat=i+1 by omega,rD (by omega),cond_true,ai ⟨by omega,by rw [List.length_drop];omega⟩,ai ⟨by rw [List.length_singleton];omega,by rw [List.length_singleton];omega⟩,wr (by omega)]
   rfl
  ·unfold kH
   dsimp only
   rw [wr (x:=(i:Int)+1) (by omega),show((i:Int)+1).toNat=i+1 by omega,List.length_drop,jm (by omega)];rfl
 have hacc: ∀n,n≤l.length→(bK (fun i=>(l.drop (i+1)).map fun b=>[at' l i,b]) n).length≤6000:=fun n hn=>by
  have:=fq (f:=fun i=>(l.drop (i+1)).map fun b=>[at' l i,b]) (m:=72) (n:=n) fun i _=>by rw [List.length_map,List.length_drop];omega
  have:n*72≤72*72:=Nat.mul_le_mul_right 72 (by omega)
  omega
 have key:=aR (body:=kg l) (fun t=>(bK (fun i=>(l.drop (i+1)).map fun b=>[at' l i,b]) t,(t:Int))) l.length (.brk (bK (fun i=>(l.drop (i+1)).map fun b=>[at' l i,b]) l.length)) (fuel_lt (by omega)) (fun t ht=> ?_) ?_
 ·unfold qI
  have key:ay (kg l) FUEL ([],0)=_:=key
  rw [key,Oi (fun a l=>l.map fun b=>[a,b]) l];rfl
 ·unfold kg
  dsimp only
  rw [rD (by omega),cond_true,ai ⟨by omega,by omega⟩,wr (by omega),ai ⟨by omega,by omega⟩,L1 t _ ht (by have:=hacc t (by omega);omega)]
  rfl
 ·unfold kg
  dsimp only
  rw [jm (by omega)];rfl
omit hs hl hx hp in
theorem I9 {α β:Type} {g:α→List α→List β} {x:β}: ∀{l:List α},x∈QW g l→ ∃a m,a∈l∧(∀b∈m,b∈l)∧x∈g a m
 |[],h=>by cases h
 |a::l,h=>by
  rcases List.mem_append.1 h with h|h
  ·exact⟨a,l,List.mem_cons_self,fun b hb=>List.mem_cons_of_mem _ hb,h⟩
  ·obtain⟨b,m,h1,h2,h3⟩:=I9 h
   exact⟨b,m,List.mem_cons_of_mem _ h1,fun c hc=>List.mem_cons_of_mem _ (h2 c hc),h3⟩
omit hs hl hx hp in
theorem Jt {α β:Type} {g:α→List α→List β} {m:Nat}: ∀{l:List α},(∀a k,k.length≤l.length→(g a k).length≤m)→(QW g l).length≤l.length*m
 |[],_=>by simp [QW]
 |a::l,h=>by
  have h1:=Jt (l:=l) (g:=g) (m:=m) fun a k hk=>h a k (by rw [List.length_cons];omega)
  have h2:=h a l (by rw [List.length_cons];omega)
  rw [QW,List.length_append,List.length_cons,Nat.succ_mul];omega
def TR (p:ah) (s:State) (l:List Transfer) (pairs:Bool):List (List Part):=
 FN p s l (bE p s)++bif pairs then(QW (fun a l=>l.map fun b=>[a,b]) ((bE p s).filter fun x=> !D5 p s l [x])).filter (D5 p s l)else []
theorem OG (pairs:Bool):p9 p s l pairs=some (TR p s l pairs,0):=by
 have h72:=oO (s:=s) hp
 have z:L6 p s l=0:=tY.2 ⟨hp,hs,hl,hx⟩
 unfold p9 TR
 rw [A7 p s l hp.small (by omega),Option.bind_some,decide_eq_true z,Bool.not_true,cond_false,FV hp hs,Option.bind_some,Vf hp hs hl hx,Option.bind_some]
 dsimp only
 cases pairs with
 |false=>rw [cond_false,cond_false,List.append_nil]
 |true=>
  have h1:=EZ (p:=p) (s:=s) (l:=l) (bE p s)
  have hfl:((bE p s).filter fun x=> !D5 p s l [x]).length≤72:=Nat.le_trans (List.length_filter_le _ _) h72
  have hpl:(QW (fun a l=>l.map fun b=>[a,b]) ((bE p s).filter fun x=> !D5 p s l [x])).length≤6000:=by
   have:=Jt (l:=(bE p s).filter fun x=> !D5 p s l [x]) (g:=fun a (l:List Part)=>l.map fun b=>[a,b]) (m:=72) fun a k hk=>by rw [List.length_map];omega
   have:((bE p s).filter fun x=> !D5 p s l [x]).length*72≤72*72:=Nat.mul_le_mul_right 72 hfl
   omega
  have hmem: ∀x∈QW (fun a l=>l.map fun b=>[a,b]) ((bE p s).filter fun x=> !D5 p s l [x]),x.length≤1000∧ ∀y∈x,lZ p y:=fun x hxm=>by
   obtain⟨a,m,h1,h2,h3⟩:=I9 hxm
   obtain⟨b,hb,rfl⟩:=List.mem_map.1 h3
   refine⟨by simp,fun y hy=> ?_⟩
   rcases List.mem_cons.1 hy with rfl|hy
   ·exact nC hp (List.mem_filter.1 h1).1
   ·rw [List.mem_singleton]at hy;subst hy
    exact nC hp (List.mem_filter.1 (h2 _ hb)).1
  rw [cond_true,cond_true,RB _ hfl,Option.bind_some]
  generalize QW (fun a l=>l.map fun b=>[a,b]) ((bE p s).filter fun x=> !D5 p s l [x])=R at hpl hmem
  have key:=yO (body:=oD p s l R) R (D5 p s l) id (FN p s l (bE p s)) (by omega) (fun t o ht ho=> ?_) (fun o=> ?_)
  ·rw [key,List.map_id];rfl
  ·obtain⟨m1,m2⟩:=hmem _ (at_mem ht)
   unfold oD
   dsimp only
   rw [rD (by omega),cond_true,ai ⟨by omega,by omega⟩,Int.toNat_natCast,LY hp hs hl hx m1 m2,Option.bind_some,ai ⟨by rw [List.length_singleton];omega,by rw [List.length_singleton];omega⟩,wr (by omega)]
   cases D5 p s l (at' R t)<;>rfl
  ·unfold oD
   dsimp only
   rw [jm (by omega)];rfl
theorem Vq (pairs:Bool):(TR p s l pairs).length≤10000∧ ∀x∈TR p s l pairs,x.length≤1000:=by
 have h72:=oO (s:=s) hp
 have h1:=EZ (p:=p) (s:=s) (l:=l) (bE p s)
 have ho: ∀x∈FN p s l (bE p s),x.length≤1000:=fun x hxm=>by
  unfold FN at hxm
  obtain⟨y,_,rfl⟩:=List.mem_map.1 hxm
  simp
 unfold TR
 cases pairs with
 |false=>rw [cond_false,List.append_nil];exact⟨by omega,ho⟩
 |true=>
  rw [cond_true]
  have hfl:((bE p s).filter fun x=> !D5 p s l [x]).length≤72:=Nat.le_trans (List.length_filter_le _ _) h72
  have hpl:=Jt (l:=(bE p s).filter fun x=> !D5 p s l [x]) (g:=fun a (l:List Part)=>l.map fun b=>[a,b]) (m:=72) fun a k hk=>by rw [List.length_map];omega
  have h5:((bE p s).filter fun x=> !D5 p s l [x]).length*72≤72*72:=Nat.mul_le_mul_right 72 hfl
  have h6:=List.length_filter_le (D5 p s l) (QW (fun a l=>l.map fun b=>[a,b]) ((bE p s).filter fun x=> !D5 p s l [x]))
  refine⟨by rw [List.length_append];omega,fun x hxm=> ?_⟩
  rcases List.mem_append.1 hxm with h|h
  ·exact ho x h
  ·obtain⟨a,m,_,_,h3⟩:=I9 (List.mem_filter.1 h).1
   obtain⟨b,_,rfl⟩:=List.mem_map.1 h3
   simp
end
def sF (φ:Int→Int) (a:Int):List Int→Int
 |[]=>0
 |b::l=>φ a - φ b+sF φ a l
def Ec (φ:Int→Int):List (Int × List Int)→Int
 |[]=>0
 |(a,l)::m=>sF φ a l+Ec φ m
theorem BG (φ:Int→Int) (a:Int): ∀l m:List Int,sF φ a (l++m)=sF φ a l+sF φ a m
 |[],m=>by simp [sF]
 |b::l,m=>by rw [List.cons_append,sF,sF,BG φ a l m];omega
theorem EH (φ:Int→Int) (a:Int) (l:List Int): ∀m:List (Int × List Int),Ec φ (gK a l m)=Ec φ m - sF φ a (aD a m)+sF φ a l
 |[]=>by simp [gK,aD,Ec,sF]
 |(k,v)::m=>by
  unfold gK aD
  by_cases e:a=k
  ·subst e
   rw [decide_eq_true rfl,cond_true,cond_true,Ec,Ec];omega
  ·rw [decide_eq_false e,cond_false,cond_false,Ec,Ec,EH φ a l m];omega
theorem fG (a u:Int) (l:List Int): ∀m:List (Int × List Int),aD u (gK a l m)=if u=a then l else aD u m
 |[]=>by
  unfold gK aD
  by_cases e:u=a
  ·rw [decide_eq_true e,cond_true,if_pos e]
  ·rw [decide_eq_false e,cond_false,if_neg e];rfl
 |(k,v)::m=>by
  unfold gK
  by_cases e:a=k
  ·subst e
   rw [decide_eq_true rfl,cond_true]
   unfold aD
   by_cases e2:u=a
   ·rw [decide_eq_true e2,cond_true,if_pos e2]
   ·rw [decide_eq_false e2,cond_false,cond_false,if_neg e2]
  ·rw [decide_eq_false e,cond_false]
   unfold aD
   rw [fG a u l m]
   by_cases e2:u=k
   ·rw [decide_eq_true e2,cond_true,cond_true,if_neg (by omega)]
   ·rw [decide_eq_false e2,cond_false,cond_false]
theorem Cu (a:Int) (l:List Int): ∀m:List (Int × List Int),(m.map (·.1)).Nodup→((gK a l m).map (·.1)).Nodup∧ ∀k,k∈(gK a l m).map (·.1)↔k=a∨k∈m.map (·.1)
 |[],_=>by simp [gK]
 |(k,v)::m,h=>by
  rw [List.map_cons,List.nodup_cons]at h
  obtain⟨h1,h2⟩:=Cu a l m h.2
  unfold gK
  by_cases e:a=k
  ·subst e
   rw [decide_eq_true rfl,cond_true]
   exact⟨by rw [List.map_cons,List.nodup_cons];exact h,fun k=>by simp⟩
  ·rw [decide_eq_false e,cond_false]
   refine⟨?_,fun j=> ?_⟩
   ·rw [List.map_cons,List.nodup_cons]
    refine⟨fun hm=> ?_,h1⟩
    rcases(h2 _).1 hm with q|q
    ·exact e q.symm
    ·exact h.1 q
   ·rw [List.map_cons,List.mem_cons,h2,List.map_cons,List.mem_cons]
    constructor
    ·rintro (q|q|q)
     ·exact .inr (.inl q)
     ·exact .inl q
     ·exact .inr (.inr q)
    ·rintro (q|q|q)
     ·exact .inr (.inl q)
     ·exact .inl q
     ·exact .inr (.inr q)
theorem EY {u b:Int}: ∀{m:List (Int × List Int)},b∈aD u m→ ∃l,(u,l)∈m∧l=aD u m
 |[],h=>by cases h
 |(k,v)::m,h=>by
  unfold aD at h ⊢
  by_cases e:u=k
  ·rw [decide_eq_true e,cond_true]at h ⊢
   subst e;exact⟨v,List.mem_cons_self,rfl⟩
  ·rw [decide_eq_false e,cond_false]at h ⊢
   obtain⟨l,h1,h2⟩:=EY h
   exact⟨l,List.mem_cons_of_mem _ h1,h2⟩
theorem I5: ∀(n:Nat) (l:List Int),l.Nodup→(∀x∈l, -2≤x∧x<(n:Int) - 2)→l.length≤n
 |0,l,_,h=>by
  cases l with
  |nil=>simp
  |cons x l=>have:=h x List.mem_cons_self;omega
 |n+1,l,hn,h=>by
  have h1:=I5 n (l.erase ((n:Int) - 2)) (hn.erase _) fun x hx=>by
   rw [hn.mem_erase_iff]at hx
   have:=h x hx.2;omega
  rw [List.length_erase]at h1
  split at h1<;>omega
theorem Og (l:List Int) (b:Int) (hl:l.length≤100000):fD l b=some (match l.findIdx? (fun x=>decide (b=x))with|some i=>(i:Int)|none=> -1):=by
 unfold fD
 rw [jO l (fun x=>decide (b=x)) id (by omega) (fun i hi=> ?_) ?_]
 ·cases l.findIdx? (fun x=>decide (b=x))<;>rfl
 ·unfold mJ
  rw [jm (by omega)];rfl
 ·unfold mJ
  rw [rD (by omega),cond_true,ai ⟨by omega,by omega⟩,Int.toNat_natCast,wr (by omega)]
  exact wG _ _ _
theorem has_eq (l:List Int) (b:Int) (hl:l.length≤100000):gU l b=some (decide (b∈l)):=by
 unfold gU
 rw [Og l b hl,Option.bind_some]
 cases h:l.findIdx? (fun x=>decide (b=x))with
 |none=>
  have:=List.findIdx?_eq_none_iff.1 h
  rw [show decide (b∈l)=false from decide_eq_false fun hb=>by have:=this b hb;simp at this];rfl
 |some k=>
  obtain⟨hk,hkb,_⟩:=List.findIdx?_eq_some_iff_getElem.1 h
  have e:b=l[k]:=of_decide_eq_true hkb
  rw [show decide (b∈l)=true from decide_eq_true (e ▸ List.getElem_mem hk)]
  dsimp only
  rw [decide_eq_true (by omega)]
theorem Oe (l:List Int) (b:Int) (hl:l.length≤100000) (hn:l.Nodup) (hb:b∈l): ∃(i:Int) (l':List Int),fD l b=some i∧lu l i (IntKind.wrap .i64 (i+1))=some l'∧l'.Nodup∧(∀w,w∈l'↔w∈l∧w≠b)∧(∀φ a,sF φ a l'+(φ a - φ b)=sF φ a l):=by
 rw [Og l b hl]
 cases h:l.findIdx? (fun x=>decide (b=x))with
 |none=>
  have:=List.findIdx?_eq_none_iff.1 h b hb
  simp at this
 |some k=>
  obtain⟨hk,hkb,_⟩:=List.findIdx?_eq_some_iff_getElem.1 h
  have e:b=l[k]:=of_decide_eq_true hkb
  have el:l=l.take k++(b::l.drop (k+1)):=by
   rw [e,←List.drop_eq_getElem_cons hk,List.take_append_drop]
  refine⟨(k:Int),l.take k++l.drop (k+1),rfl, ?_, ?_,fun w=> ?_,fun φ a=> ?_⟩
  ·unfold lu R4
   rw [wr (by omega),decide_eq_true ⟨by omega,by omega,by omega⟩,cond_true,Int.toNat_natCast,show((k:Int)+1).toNat=k+1 by omega]
  ·have h1:=el ▸ hn
   rw [List.nodup_append]at h1 ⊢
   obtain⟨q1,q2,q3⟩:=h1
   rw [List.nodup_cons]at q2
   exact⟨q1,q2.2,fun a ha c hc=>q3 a ha c (List.mem_cons_of_mem _ hc)⟩
  ·have h1:=el ▸ hn
   rw [List.nodup_append]at h1
   obtain⟨q1,q2,q3⟩:=h1
   rw [List.nodup_cons]at q2
   have em:w∈l↔w∈l.take k∨w=b∨w∈l.drop (k+1):=by
    conv=>lhs;rw [el]
    rw [List.mem_append,List.mem_cons]
   rw [em,List.mem_append]
   constructor
   ·rintro (q|q)
    ·exact⟨.inl q,fun e=>q3 w q b List.mem_cons_self e⟩
    ·exact⟨.inr (.inr q),fun e=>q2.1 (e ▸ q)⟩
   ·rintro ⟨q|q|q,g⟩
    ·exact .inl q
    ·exact absurd q g
    ·exact .inr q
  ·conv=>rhs;rw [el]
   rw [BG,BG,sF];omega
structure GI (M:Nat) (B:Int→Int→Prop) (e0 e1:List (Int × List Int)):Prop where
 n0: ∀u,(aD u e0).Nodup
 n1: ∀u,(aD u e1).Nodup
 base: ∀u v,B u v↔v∈aD u e0∨v∈aD u e1
 dis: ∀u v,v∈aD u e0→v∈aD u e1→False
 keys:(e1.map (·.1)).Nodup
 rng: ∀u v,B u v→(-2≤u∧u<(M:Int) - 2)∧ -2≤v∧v<(M:Int) - 2
section
variable {M:Nat} {B:Int→Int→Prop} {e0 e1:List (Int × List Int)} (hM:M≤10000)
include hM
theorem GI.TN (g:GI M B e0 e1) (u:Int):(aD u e0).length≤10000:=Nat.le_trans (I5 M _ (g.n0 u) fun x hx=>(g.rng u x ((g.base u x).2 (.inl hx))).2) hM
theorem GI.V5 (g:GI M B e0 e1) (u:Int):(aD u e1).length≤10000:=Nat.le_trans (I5 M _ (g.n1 u) fun x hx=>(g.rng u x ((g.base u x).2 (.inr hx))).2) hM
omit hM in
theorem Eh {l:List Int} {b:Int} (h:l.Nodup) (hb:b ∉ l):(l++[b]).Nodup:=by
 rw [List.nodup_append]
 exact⟨h,by simp,fun a ha c hc e=>by rw [List.mem_singleton]at hc;subst hc;subst e;exact hb ha⟩
theorem GI.fwd (g:GI M B e0 e1) (ps:List Part) {a b:Int} (hb:b∈aD a e0): ∃f0 f1,eG a b 0 ⟨ps,⟨e0,e1⟩⟩=some ⟨ps,⟨f0,f1⟩⟩∧GI M B f0 f1∧(∀φ,Ec φ f1=Ec φ e1+(φ a - φ b))∧ ∀u w,(u≠a∨w≠b)→(w∈aD u f0↔w∈aD u e0)∧(w∈aD u f1↔w∈aD u e1):=by
 have h0:=g.TN hM a;have h1:=g.V5 hM a
 obtain⟨i,l',hi,hd,hn,hm,hs⟩:=Oe (aD a e0) b (by omega) (g.n0 a) hb
 have hb1:b ∉ aD a e1:=fun h=>g.dis a b hb h
 refine⟨gK a l' e0,gK a (aD a e1++[b]) e1, ?_,⟨fun u=> ?_,fun u=> ?_,fun u v=> ?_,fun u v q1 q2=> ?_,(Cu a _ e1 g.keys).1,g.rng⟩,fun φ=> ?_,fun u w q=> ⟨?_, ?_⟩⟩
 ·unfold eG
  rw [decide_eq_true rfl,cond_true]
  dsimp only
  rw [hi,Option.bind_some,hd,Option.bind_some,ai ⟨by rw [List.length_singleton];omega,by rw [List.length_singleton];omega⟩]
 ·rw [fG];split
  ·exact hn
  ·exact g.n0 u
 ·rw [fG];split
  ·exact Eh (g.n1 a) hb1
  ·exact g.n1 u
 ·rw [fG,fG]
  by_cases e:u=a
  ·subst e
   rw [if_pos rfl,if_pos rfl,hm,List.mem_append,List.mem_singleton,g.base]
   by_cases ev:v=b
   ·subst ev;exact⟨fun _=> .inr (.inr rfl),fun _=> .inl hb⟩
   ·constructor
    ·rintro (q|q)
     ·exact .inl ⟨q,ev⟩
     ·exact .inr (.inl q)
    ·rintro (q|q|q)
     ·exact .inl q.1
     ·exact .inr q
     ·exact absurd q ev
  ·rw [if_neg e,if_neg e,g.base]
 ·rw [fG]at q1 q2
  by_cases e:u=a
  ·subst e
   rw [if_pos rfl]at q1 q2
   rw [hm]at q1
   rcases List.mem_append.1 q2 with q|q
   ·exact g.dis _ _ q1.1 q
   ·exact q1.2 (List.mem_singleton.1 q)
  ·rw [if_neg e]at q1 q2
   exact g.dis _ _ q1 q2
 ·rw [EH,BG]
  show _ - _+(_+(φ a - φ b+0))=_
  omega
 ·rw [fG]
  by_cases e:u=a
  ·subst e
   rw [if_pos rfl,hm]
   exact⟨fun h=>h.1,fun h=> ⟨h,q.elim (fun h=>absurd rfl h) id⟩⟩
  ·rw [if_neg e]
 ·rw [fG]
  by_cases e:u=a
  ·subst e
   rw [if_pos rfl,List.mem_append,List.mem_singleton]
   exact⟨fun h=>h.elim id fun h=>absurd h (q.elim (fun h=>absurd rfl h) id), .inl⟩
  ·rw [if_neg e]
theorem GI.back (g:GI M B e0 e1) (ps:List Part) {a b:Int} (hb:b∈aD a e1): ∃f0 f1,eG a b 1 ⟨ps,⟨e0,e1⟩⟩=some ⟨ps,⟨f0,f1⟩⟩∧GI M B f0 f1∧(∀φ,Ec φ f1=Ec φ e1 - (φ a - φ b))∧ ∀u w,(u≠a∨w≠b)→(w∈aD u f0↔w∈aD u e0)∧(w∈aD u f1↔w∈aD u e1):=by
 have h0:=g.TN hM a;have h1:=g.V5 hM a
 obtain⟨i,l',hi,hd,hn,hm,hs⟩:=Oe (aD a e1) b (by omega) (g.n1 a) hb
 have hb0:b ∉ aD a e0:=fun h=>g.dis a b h hb
 refine⟨gK a (aD a e0++[b]) e0,gK a l' e1, ?_,⟨fun u=> ?_,fun u=> ?_,fun u v=> ?_,fun u v q1 q2=> ?_,(Cu a _ e1 g.keys).1,g.rng⟩,fun φ=> ?_,fun u w q=> ⟨?_, ?_⟩⟩
 ·unfold eG
  rw [decide_eq_false (by decide),cond_false,ai rfl]
  dsimp only
  rw [hi,Option.bind_some,hd,Option.bind_some,ai ⟨by rw [List.length_singleton];omega,by rw [List.length_singleton];omega⟩]
 ·rw [fG];split
  ·exact Eh (g.n0 a) hb0
  ·exact g.n0 u
 ·rw [fG];split
  ·exact hn
  ·exact g.n1 u
 ·rw [fG,fG]
  by_cases e:u=a
  ·subst e
   rw [if_pos rfl,if_pos rfl,hm,List.mem_append,List.mem_singleton,g.base]
   by_cases ev:v=b
   ·subst ev;exact⟨fun _=> .inl (.inr rfl),fun _=> .inr hb⟩
   ·constructor
    ·rintro (q|q)
     ·exact .inl (.inl q)
     ·exact .inr ⟨q,ev⟩
    ·rintro ((q|q)|q)
     ·exact .inl q
     ·exact absurd q ev
     ·exact .inr q.1
  ·rw [if_neg e,if_neg e,g.base]
 ·rw [fG]at q1 q2
  by_cases e:u=a
  ·subst e
   rw [if_pos rfl]at q1 q2
   rw [hm]at q2
   rcases List.mem_append.1 q1 with q|q
   ·exact g.dis _ _ q q2.1
   ·exact q2.2 (List.mem_singleton.1 q)
  ·rw [if_neg e]at q1 q2
   exact g.dis _ _ q1 q2
 ·rw [EH]
  have:=hs φ a
  omega
 ·rw [fG]
  by_cases e:u=a
  ·subst e
   rw [if_pos rfl,List.mem_append,List.mem_singleton]
   exact⟨fun h=>h.elim id fun h=>absurd h (q.elim (fun h=>absurd rfl h) id), .inl⟩
  ·rw [if_neg e]
 ·rw [fG]
  by_cases e:u=a
  ·subst e
   rw [if_pos rfl,hm]
   exact⟨fun h=>h.1,fun h=> ⟨h,q.elim (fun h=>absurd rfl h) id⟩⟩
  ·rw [if_neg e]
end
def vs (o:List (Int × Bool)) (u:Int):Bool:=(aW bX u o).getD false
theorem qJ (o:List (Int × Bool)) (a u:Int):vs (fH bX a true o) u=(decide (u=a)||vs o u):=by
 unfold vs
 by_cases e:u=a
 ·subst e;rw [gQ];simp
 ·rw [jE e,decide_eq_false e];rfl
theorem cnt_lt {α:Type} {p q:α→Bool}: ∀{l:List α},(∀x∈l,p x=true→q x=true)→(∃x∈l,q x=true∧p x=false)→l.countP p<l.countP q
 |[],_,⟨_,h,_⟩=>by cases h
 |a::l,h,⟨x,hx,h1,h2⟩=>by
  have hle:l.countP p≤l.countP q:=List.countP_mono_left fun x hx=>h x (List.mem_cons_of_mem _ hx)
  rw [List.countP_cons,List.countP_cons]
  rcases List.mem_cons.1 hx with rfl|hx
  ·rw [h1,h2];simp;omega
  ·have:=cnt_lt (fun x hx=>h x (List.mem_cons_of_mem _ hx)) ⟨x,hx,h1,h2⟩
   have h3:=h a List.mem_cons_self
   cases hp:p a with
   |false=>simp;omega
   |true=>rw [h3 hp];simp;omega
def Wi (M:Nat) (o:List (Int × Bool)):Nat:=(List.range M).countP fun(i:Nat)=> !vs o ((i:Int) - 2)
theorem Kb {M:Nat} {o o':List (Int × Bool)} (h: ∀u,vs o u=true→vs o' u=true):Wi M o'≤Wi M o:=by
 refine List.countP_mono_left fun i _ hi=> ?_
 cases e:vs o ((i:Int) - 2)with
 |false=>rfl
 |true=>rw [h _ e]at hi;cases hi
theorem TK {M:Nat} {o:List (Int × Bool)} {a:Int} (h:vs o a=false) (hr: -2≤a∧a<(M:Int) - 2):Wi M (fH bX a true o)<Wi M o:=by
 refine cnt_lt (fun i _ hi=> ?_) ⟨(a+2).toNat,List.mem_range.2 (by omega), ?_, ?_⟩
 ·rw [qJ]at hi
  cases e:vs o ((i:Int) - 2)with
  |false=>rfl
  |true=>rw [e]at hi;simp at hi
 ·rw [show(((a+2).toNat:Nat):Int) - 2=a by omega,h];rfl
 ·rw [show(((a+2).toNat:Nat):Int) - 2=a by omega,qJ];simp
def IND (e1:List (Int × List Int)):Prop:= ∀w x y,w≠ -2→w∈aD x e1→w∈aD y e1→x=y
def Rs (e0 e1:List (Int × List Int)) (u w:Int):Prop:=w∈aD u e0∨(u∈aD w e1∧w≠ -1)
def SUC (M:Nat) (B:Int→Int→Prop) (ps:List Part) (e0 e1:List (Int × List Int)) (o:List (Int × Bool)) (a:Int) (r:Bool × List (Int × Bool) × Graph):Prop:=
 r.1=true∧ ∃f0 f1,r.2.2=⟨ps,⟨f0,f1⟩⟩∧GI M B f0 f1∧(∀φ,Ec φ f1=Ec φ e1+(φ a - φ (-2)))∧ ∀u w,(vs o u=true∨vs o w=true)→(w∈aD u f0↔w∈aD u e0)∧(w∈aD u f1↔w∈aD u e1)
def FAI (ps:List Part) (e0 e1:List (Int × List Int)) (o:List (Int × Bool)) (a:Int) (r:Bool × List (Int × Bool) × Graph):Prop:=
 r.1=false∧r.2.2=⟨ps,⟨e0,e1⟩⟩∧(∀u,vs o u=true→vs r.2.1 u=true)∧vs r.2.1 a=true∧vs r.2.1 (-2)=false∧ ∀u,vs r.2.1 u=true→vs o u=false→ ∀w,Rs e0 e1 u w→vs r.2.1 w=true
theorem KG (l:List Int) (h:l.length≤10000):jW l=some l:=by
 unfold jW pq
 rw [Bool.not_true,cond_false,ai ⟨by simp;omega,by simp;omega⟩];rfl
section
variable {M:Nat} {B:Int→Int→Prop} {e0 e1:List (Int × List Int)} {ps:List Part} (hM:M≤10000) (g:GI M B e0 e1) (hI:IND e1)
include hM g hI
def Y3 (e0 e1:List (Int × List Int)) (o1:List (Int × Bool)) (r:List Int) (q:List (Int × Bool) × List (Int × List Int) × List (Int × List Int) × Int):Prop:=
 q.2.1=e0∧q.2.2.1=e1∧ ∃j:Nat,q.2.2.2=(j:Int)∧j≤r.length∧(∀u,vs o1 u=true→vs q.1 u=true)∧vs q.1 (-2)=false∧(∀u,vs q.1 u=true→vs o1 u=false→ ∀w,Rs e0 e1 u w→vs q.1 w=true)∧ ∀i,i<j→vs q.1 (at' r i)=true
omit hI in
theorem X7 {n:Nat} {o:List (Int × Bool)} {a:Int} (ha: -2≤a∧a<(M:Int) - 2) (hva:vs o a=false) (h2:a≠ -2) (hn:Wi M o≤n)
  (ih: ∀o b,(-2≤b∧b<(M:Int) - 2)→vs o b=false→vs o (-2)=false→Wi M o<n→ ∃r,bM n b o ⟨ps,⟨e0,e1⟩⟩=some r∧(SUC M B ps e0 e1 o b r∨FAI ps e0 e1 o b r))
  (q:List (Int × Bool) × List (Int × List Int) × List (Int × List Int) × Int) (hq:Y3 e0 e1 (fH bX a true o) (aD a e0) q):
  ∃f,fA (bM n) a ⟨ps,⟨e0,e1⟩⟩ (aD a e0) q=some f∧match f with
   | .next q'=>Y3 e0 e1 (fH bX a true o) (aD a e0) q'∧(aD a e0).length - q'.2.2.2.toNat<(aD a e0).length - q.2.2.2.toNat
   | .done r=>(∃v,r= .ret v∧SUC M B ps e0 e1 o a v)∨ ∃o',r= .brk (o',e0,e1)∧Y3 e0 e1 (fH bX a true o) (aD a e0) (o',e0,e1,((aD a e0).length:Int)):=by
 have h0:=g.TN hM a
 obtain⟨o0,f0,f1,t⟩:=q
 obtain⟨q0,q1,j,qj,hj,hmo,hv2,hcl,hall⟩:=hq
 dsimp only at q0 q1 qj hmo hv2 hcl hall
 have q0:=q0.symm;have q1:=q1.symm
 subst q0 q1 qj
 have hoo: ∀u,vs o u=true→vs o0 u=true:=fun u h=>hmo u (by rw [qJ,h];simp)
 have hao:vs o0 a=true:=hmo a (by rw [qJ];simp)
 unfold fA
 dsimp only
 by_cases hc:j<(aD a e0).length
 ·rw [rD (by omega),cond_true,ai ⟨by omega,by omega⟩,Int.toNat_natCast]
  have hbm:at' (aD a e0) j∈aD a e0:=at_mem hc
  have hbr:=(g.rng a _ ((g.base a _).2 (.inl hbm))).2
  show∃f,(bif !vs o0 (at' (aD a e0) j)then _ else _)=some f∧_
  generalize hb:at' (aD a e0) j=b at hbm hbr
  cases hvb:vs o0 b with
  |true=>
   rw [Bool.not_true,cond_false]
   refine⟨_,rfl,⟨rfl,rfl,j+1,wr (by omega),hc,hmo,hv2,hcl,fun i hi=> ?_⟩,by dsimp only;rw [wr (by omega)];omega⟩
   by_cases e:i=j
   ·subst e;rw [hb];exact hvb
   ·exact hall i (by omega)
  |false=>
   have hlt:=TK (M:=M) hva ha
   have hle:=Kb (M:=M) hmo
   obtain⟨r,hr,hs|hf⟩:=ih o0 b hbr hvb hv2 (by omega)
   ·obtain⟨s1,f0,f1,s2,s3,s4,s5⟩:=hs
    rw [Bool.not_false,cond_true,hr,Option.bind_some,s1,cond_true,s2]
    dsimp only
    obtain⟨g0,g1,m1,m2,m3,m4⟩:=GI.fwd hM s3 ps ((s5 a b (.inl hao)).1.2 hbm)
    rw [m1,Option.bind_some]
    refine⟨_,rfl, .inl ⟨_,rfl,rfl,g0,g1,rfl,m2,fun φ=>by rw [m3,s4];omega,fun u w huw=> ?_⟩⟩
    have h6:u≠a∨w≠b:=by
     by_cases e:u=a
     ·right;intro e2;subst e e2
      rcases huw with h|h
      ·rw [hva]at h;cases h
      ·rw [hoo _ h]at hvb;cases hvb
     ·exact .inl e
    have h7:vs o0 u=true∨vs o0 w=true:=huw.imp (hoo u) (hoo w)
    exact⟨(m4 u w h6).1.trans (s5 u w h7).1,(m4 u w h6).2.trans (s5 u w h7).2⟩
   ·obtain⟨s1,s2,s3,s4,s5,s6⟩:=hf
    rw [Bool.not_false,cond_true,hr,Option.bind_some,s1,cond_false,s2]
    refine⟨_,rfl,⟨rfl,rfl,j+1,wr (by omega),hc,fun u h=>s3 u (hmo u h),s5,fun u hu hno w hw=> ?_,fun i hi=> ?_⟩,by dsimp only;rw [wr (by omega)];omega⟩
    ·cases e:vs o0 u with
     |true=>exact s3 w (hcl u e hno w hw)
     |false=>exact s6 u hu e w hw
    ·by_cases e:i=j
     ·subst e;rw [hb];exact s4
     ·exact s3 _ (hall i (by omega))
 ·rw [jm (by omega),cond_false]
  refine⟨_,rfl, .inr ⟨o0,rfl,rfl,rfl,j,by dsimp only;omega,hj,hmo,hv2,hcl,hall⟩⟩
omit hI in
theorem RZ {a:Int} {x:Int × List Int} (hx:x∈e1):bI a x=true↔x.1≠ -1∧a∈aD x.1 e1:=by
 have e:=uV g.keys hx
 have hl:=g.V5 hM x.1
 unfold bI
 rw [←e,has_eq _ _ (by omega)]
 unfold nfl
 by_cases h1:x.1= -1
 ·simp [h1]
 ·by_cases h2:a∈aD x.1 e1
  ·simp [h1,h2]
  ·simp [h1,h2]
theorem LX: ∀(n:Nat) (o:List (Int × Bool)) (a:Int),(-2≤a∧a<(M:Int) - 2)→vs o a=false→vs o (-2)=false→Wi M o<n→ ∃r,bM n a o ⟨ps,⟨e0,e1⟩⟩=some r∧(SUC M B ps e0 e1 o a r∨FAI ps e0 e1 o a r)
 |0,_,_,_,_,_,h=>by omega
 |n+1,o,a,ha,hva,hv2,hn=>by
  have ih:=LX n
  show∃r,eu (bM n) a o ⟨ps,⟨e0,e1⟩⟩=some r∧_
  unfold eu
  by_cases h2:a= -2
  ·rw [decide_eq_true h2,cond_true]
   exact⟨_,rfl, .inl ⟨rfl,e0,e1,rfl,g,fun φ=>by rw [h2];omega,fun u w _=> ⟨Iff.rfl,Iff.rfl⟩⟩⟩
  ·have h0:=g.TN hM a
   rw [decide_eq_false h2,cond_false]
   dsimp only
   rw [KG _ (by omega),Option.bind_some]
   obtain⟨r,hr,hR⟩:=sS (body:=fA (bM n) a ⟨ps,⟨e0,e1⟩⟩ (aD a e0)) (Y3 e0 e1 (fH bX a true o) (aD a e0)) (fun q=>(aD a e0).length - q.2.2.2.toNat)
    (fun r=>(∃v,r= .ret v∧SUC M B ps e0 e1 o a v)∨ ∃o',r= .brk (o',e0,e1)∧Y3 e0 e1 (fH bX a true o) (aD a e0) (o',e0,e1,((aD a e0).length:Int)))
    (fun q hq=>by obtain⟨f,e,hf⟩:=X7 hM g (ps:=ps) ha hva h2 (by omega) ih q hq;exact⟨f,e,by cases f<;>exact hf⟩) FUEL (fH bX a true o,e0,e1,0)
    ⟨rfl,rfl,0,rfl,Nat.zero_le _,fun _ h=>h,by rw [qJ,hv2,decide_eq_false (Ne.symm h2)];rfl,fun u h1 h2=>(by rw [h1]at h2;cases h2),fun i hi=>by omega⟩ (fuel_lt (by dsimp only;omega))
   rw [hr,Option.bind_some]
   rcases hR with⟨v,rfl,hv⟩|⟨o',rfl,_,_,j,hj1,hj2,hmo,hv2',hcl,hall⟩
   ·exact⟨v,rfl, .inl hv⟩
   ·dsimp only at hj1 hmo hv2' hcl hall ⊢
    have hj:j=(aD a e0).length:=by omega
    subst hj
    have hoo: ∀u,vs o u=true→vs o' u=true:=fun u h=>hmo u (by rw [qJ,h];simp)
    have hao:vs o' a=true:=hmo a (by rw [qJ];simp)
    have hfw: ∀w,w∈aD a e0→vs o' w=true:=fun w hw=>by
     obtain⟨i,hi,e⟩:=fU hw
     rw [←e];exact hall i hi
    have hfl: ∀w,a∈aD w e1→w≠ -1→(w,aD w e1)∈e1.filter (bI a):=fun w hw h1=>by
     obtain⟨l,q1,q2⟩:=EY hw
     rw [q2]at q1
     exact List.mem_filter.2 ⟨q1,(RZ hM g q1).2 ⟨h1,hw⟩⟩
    have hfi: ∀x,x∈e1.filter (bI a)→x∈e1∧x.1≠ -1∧a∈aD x.1 e1:=fun x hx=>by
     obtain⟨q1,q2⟩:=List.mem_filter.1 hx
     exact⟨q1,(RZ hM g q1).1 q2⟩
    have hnd:((e1.filter (bI a)).map (·.1)).Nodup:=List.Nodup.sublist (List.Sublist.map _ List.filter_sublist) g.keys
    unfold goG goS
    cases hF:e1.filter (bI a)with
    |nil=>
     rw [hF]at hfl
     refine⟨_,rfl, .inr ⟨rfl,rfl,hoo,hao,hv2',fun u hu hno w hw=> ?_⟩⟩
     by_cases e:u=a
     ·subst e
      rcases hw with hw|⟨hw,h1⟩
      ·exact hfw w hw
      ·cases hfl w hw h1
     ·exact hcl u hu (by rw [qJ,hno,decide_eq_false e];rfl) w hw
    |cons x rest=>
     rw [hF]at hfl hfi hnd
     obtain⟨hx1,hx2,hx3⟩:=hfi x List.mem_cons_self
     cases rest with
     |cons y rest=>
      obtain⟨hy1,hy2,hy3⟩:=hfi y (List.mem_cons_of_mem _ List.mem_cons_self)
      have:=hI a x.1 y.1 h2 hx3 hy3
      rw [List.map_cons,List.map_cons,List.nodup_cons]at hnd
      exact absurd (this ▸ List.mem_cons_self) hnd.1
     |nil=>
      have hw1: ∀w,a∈aD w e1→w≠ -1→w=x.1:=fun w hw h1=>by
       have:=List.mem_singleton.1 (hfl w hw h1)
       rw [←this]
      have hxr:=(g.rng x.1 a ((g.base x.1 a).2 (.inr hx3))).1
      have hl1:=g.V5 hM x.1
      have ex:=uV g.keys hx1
      dsimp only
      unfold fC
      dsimp only
      rw [show(aW bX x.1 o').getD false=vs o' x.1 from rfl]
      cases hvx:vs o' x.1 with
      |true=>
       refine⟨_,rfl, .inr ⟨rfl,rfl,hoo,hao,hv2',fun u hu hno w hw=> ?_⟩⟩
       by_cases e:u=a
       ·subst e
        rcases hw with hw|⟨hw,h1⟩
        ·exact hfw w hw
        ·rw [hw1 w hw h1];exact hvx
       ·exact hcl u hu (by rw [qJ,hno,decide_eq_false e];rfl) w hw
      |false=>
       have hlt:=TK (M:=M) hva ha
       have hle:=Kb (M:=M) hmo
       obtain⟨r,hr,hs|hf⟩:=ih o' x.1 hxr hvx hv2' (by omega)
       ·obtain⟨s1,f0,f1,s2,s3,s4,s5⟩:=hs
        obtain⟨g0,g1,m1,m2,m3,m4⟩:=GI.back hM s3 ps ((s5 x.1 a (.inr hao)).2.2 hx3)
        rw [Bool.not_false,cond_true,decide_eq_false hx2,Bool.not_false,cond_true,←ex,has_eq _ _ (by omega),Option.bind_some,decide_eq_true hx3,cond_true,hr,Option.bind_some,s1,cond_true,s2]
        dsimp only
        rw [m1,Option.bind_some]
        refine⟨_,rfl, .inl ⟨rfl,g0,g1,rfl,m2,fun φ=>by rw [m3,s4];omega,fun u w huw=> ?_⟩⟩
        have h6:u≠x.1∨w≠a:=by
         by_cases e:u=x.1
         ·right;intro e2;subst e e2
          rcases huw with h|h
          ·rw [hoo _ h]at hvx;cases hvx
          ·rw [hva]at h;cases h
         ·exact .inl e
        have h7:vs o' u=true∨vs o' w=true:=huw.imp (hoo u) (hoo w)
        exact⟨(m4 u w h6).1.trans (s5 u w h7).1,(m4 u w h6).2.trans (s5 u w h7).2⟩
       ·obtain⟨s1,s2,s3,s4,s5,s6⟩:=hf
        rw [Bool.not_false,cond_true,decide_eq_false hx2,Bool.not_false,cond_true,←ex,has_eq _ _ (by omega),Option.bind_some,decide_eq_true hx3,cond_true,hr,Option.bind_some,s1,cond_false,s2]
        dsimp only
        rw [ai rfl]
        refine⟨_,rfl, .inr ⟨rfl,rfl,fun u h=>s3 u (hoo u h),s3 a hao,s5,fun u hu hno w hw=> ?_⟩⟩
        by_cases e:u=a
        ·subst e
         rcases hw with hw|⟨hw,h1⟩
         ·exact s3 w (hfw w hw)
         ·rw [hw1 w hw h1];exact s4
        ·cases e2:vs o' u with
         |true=>exact s3 w (hcl u e2 (by rw [qJ,hno,decide_eq_false e];rfl) w hw)
         |false=>exact s6 u hu e2 w hw
end
structure NB (P:Nat) (B:Int→Int→Prop):Prop where
 ev: ∀(i:Nat) v,B (2*(i:Int)) v→v=2*(i:Int)+1
 od: ∀u (i:Nat),B u (2*(i:Int)+1)→u=2*(i:Int)
 src: ∀u, ¬ B u (-1)
 fst: ∀v,B (-1) v→ ∃i:Nat,i<P∧v=2*(i:Int)
 odd: ∀(i:Nat) v,B (2*(i:Int)+1) v→v= -2∨ ∃j:Nat,j<P∧v=2*(j:Int)
def FL (K:Nat) (e1:List (Int × List Int)):Prop:= ∀φ,Ec φ e1=(K:Int)*(φ (-1) - φ (-2))
def ind (w u:Int):Int:=if u=w then 1 else 0
def inn (w:Int):List (Int × List Int)→Int
 |[]=>0
 |(_,l)::m=>(if w∈l then 1 else 0)+inn w m
theorem Kk (w a:Int): ∀l:List Int,l.Nodup→sF (ind w) a l=(if a=w then(l.length:Int)else 0) - (if w∈l then 1 else 0)
 |[],_=>by simp [sF]
 |b::l,h=>by
  rw [List.nodup_cons]at h
  rw [sF,Kk w a l h.2]
  unfold ind
  by_cases e1:a=w
  ·rw [if_pos e1,if_pos e1,if_pos e1]
   by_cases e2:b=w
   ·subst e2
    rw [if_pos rfl,if_neg h.1,if_pos List.mem_cons_self,List.length_cons];omega
   ·rw [if_neg e2]
    by_cases e3:w∈l
    ·rw [if_pos e3,if_pos (List.mem_cons_of_mem _ e3),List.length_cons];omega
    ·rw [if_neg e3,if_neg (fun q=>(List.mem_cons.1 q).elim (fun q=>e2 q.symm) e3),List.length_cons];omega
  ·rw [if_neg e1,if_neg e1,if_neg e1]
   by_cases e2:b=w
   ·subst e2
    rw [if_pos rfl,if_neg h.1,if_pos List.mem_cons_self];omega
   ·rw [if_neg e2]
    by_cases e3:w∈l
    ·rw [if_pos e3,if_pos (List.mem_cons_of_mem _ e3)];omega
    ·rw [if_neg e3,if_neg (fun q=>(List.mem_cons.1 q).elim (fun q=>e2 q.symm) e3)];omega
theorem IQ {u:Int}: ∀{m:List (Int × List Int)},u ∉ m.map (·.1)→aD u m=[]
 |[],_=>rfl
 |(k,v)::m,h=>by
  rw [List.map_cons,List.mem_cons]at h
  unfold aD
  rw [decide_eq_false fun e=>h (.inl e),cond_false]
  exact IQ fun q=>h (.inr q)
theorem OT (w:Int): ∀m:List (Int × List Int),(m.map (·.1)).Nodup→(∀x∈m,x.2.Nodup)→Ec (ind w) m=((aD w m).length:Int) - inn w m
 |[],_,_=>by simp [Ec,aD,inn]
 |(a,l)::m,h,hr=>by
  rw [List.map_cons,List.nodup_cons]at h
  rw [Ec,OT w m h.2 fun x hx=>hr x (List.mem_cons_of_mem _ hx),Kk w a l (hr _ List.mem_cons_self),inn,show aD w ((a,l)::m)=(bif decide (w=a)then l else aD w m)from rfl]
  by_cases e:w=a
  ·subst e
   have:=IQ (u:=w) h.1
   rw [decide_eq_true rfl,cond_true,if_pos rfl,this,List.length_nil];omega
  ·rw [decide_eq_false e,cond_false,if_neg (Ne.symm e)];omega
theorem R8 (w:Int): ∀m:List (Int × List Int),0≤inn w m
 |[]=>Int.le_refl 0
 |(a,l)::m=>by
  have:=R8 w m
  rw [inn];split<;>omega
theorem Bw {w x:Int}: ∀{m:List (Int × List Int)},w∈aD x m→1≤inn w m
 |[],h=>by cases h
 |(a,l)::m,h=>by
  have h0:=R8 w m
  unfold aD at h
  rw [inn]
  by_cases e:x=a
  ·rw [decide_eq_true e,cond_true]at h
   rw [if_pos h];omega
  ·rw [decide_eq_false e,cond_false]at h
   have:=Bw h
   split<;>omega
theorem Ow {w x y:Int} (hxy:x≠y): ∀{m:List (Int × List Int)},w∈aD x m→w∈aD y m→2≤inn w m
 |[],h,_=>by cases h
 |(a,l)::m,h,k=>by
  unfold aD at h k
  rw [inn]
  by_cases e:x=a
  ·rw [decide_eq_true e,cond_true]at h
   rw [decide_eq_false (fun q=>hxy (e.trans q.symm)),cond_false]at k
   have:=Bw k
   rw [if_pos h];omega
  ·rw [decide_eq_false e,cond_false]at h
   by_cases e2:y=a
   ·rw [decide_eq_true e2,cond_true]at k
    have:=Bw h
    rw [if_pos k];omega
   ·rw [decide_eq_false e2,cond_false]at k
    have:=Ow hxy h k
    split<;>omega
theorem OH {l:List Int} {c:Int} (hn:l.Nodup) (h: ∀x∈l,x=c):l.length≤1:=by
 match l,hn,h with
 |[],_,_=>simp
 |[a],_,_=>simp
 |a::b::l,hn,h=>
  rw [List.nodup_cons]at hn
  have h1:=h a List.mem_cons_self
  have h2:=h b (List.mem_cons_of_mem _ List.mem_cons_self)
  exact absurd (h1.trans h2.symm ▸ List.mem_cons_self) hn.1
section
variable {M P:Nat} {B:Int→Int→Prop} {e0 e1:List (Int × List Int)} {K:Nat} (hM:M=2*P+2) (g:GI M B e0 e1) (nb:NB P B) (fl:FL K e1)
include g
theorem GI.WA: ∀x∈e1,x.2.Nodup:=fun x hx=>by rw [←uV g.keys hx];exact g.n1 _
theorem Uf (w:Int):Ec (ind w) e1=((aD w e1).length:Int) - inn w e1:=OT w e1 g.keys g.WA
include nb fl
theorem keeps {w:Int} (h1:w≠ -1) (h2:w≠ -2):((aD w e1).length:Int)=inn w e1:=by
 have h:=fl (ind w)
 rw [Uf g]at h
 unfold ind at h
 rw [if_neg (Ne.symm h1),if_neg (Ne.symm h2),Int.sub_self,Int.mul_zero]at h
 omega
theorem Xa (i:Nat):(aD (2*(i:Int)) e1).length≤1:=OH (g.n1 _) fun x hx=>nb.ev i x ((g.base _ _).2 (.inr hx))
theorem FL.ind:IND e1:=fun w x y h2 hx hy=>by
 have bx:=(g.base _ _).2 (.inr hx);have by':=(g.base _ _).2 (.inr hy)
 have hr:=(g.rng _ _ bx).2
 have h1:w≠ -1:=fun e=>nb.src x (e ▸ bx)
 by_cases e:w=2*(((w / 2).toNat:Nat):Int)
 ·by_cases q:x=y
  ·exact q
  ·have k2:=Ow q hx hy
   have k:=keeps g nb fl h1 h2
   have:=Xa g nb fl (w / 2).toNat
   rw [←e]at this
   omega
 ·have e:w=2*(((w / 2).toNat:Nat):Int)+1:=by omega
  rw [e]at bx by'
  rw [nb.od x _ bx,nb.od y _ by']
theorem UJ:((aD (-1) e1).length:Int)=K:=by
 have h:=fl (ind (-1))
 rw [Uf g]at h
 unfold ind at h
 rw [if_pos rfl,if_neg (by decide)]at h
 have hz:inn (-1) e1=0:=by
  have hrow: ∀x∈e1,(-1:Int) ∉ x.2:=fun x hx hm=>by
   rw [←uV g.keys hx]at hm
   exact nb.src _ ((g.base _ _).2 (.inr hm))
  clear g fl h
  induction e1 with
  |nil=>rfl
  |cons x m ih=>
   obtain⟨a,l⟩:=x
   rw [inn,if_neg (hrow _ List.mem_cons_self),ih fun x hx=>hrow x (List.mem_cons_of_mem _ hx)];rfl
 unfold ind at hz
 omega
theorem UG {i:Nat} {x:Int} (h:2*(i:Int)∈aD x e1):0<(aD (2*(i:Int)+1) e1).length:=by
 have k1:=keeps g nb fl (w:=2*(i:Int)) (by omega) (by omega)
 have k2:=Bw h
 have h3:0<(aD (2*(i:Int)) e1).length:=by omega
 have hm:=at_mem h3
 have e:=nb.ev i _ ((g.base _ _).2 (.inr hm))
 rw [e]at hm
 have k3:=Bw hm
 have k4:=keeps g nb fl (w:=2*(i:Int)+1) (by omega) (by omega)
 omega
omit g nb fl in
theorem Cm (u:Int): ∀m:List (Int × List Int),(aW bX u m).getD ([]:List Int)=aD u m
 |[]=>rfl
 |(k,v)::m=>by
  unfold aW aD
  by_cases e:u=k
  ·rw [DY.2 e,decide_eq_true e];rfl
  ·rw [IW e,decide_eq_false e];exact Cm u m
include hM
def WI (P M:Nat) (e1:List (Int × List Int)) (q:Int × List Part):Prop:=
 (q.1= -2∧q.2.length≤M)∨ ∃i:Nat,i<P∧q.1=2*(i:Int)∧ ∃T:List Int,T.Nodup∧(∀w∈T,∃j:Nat,j<P∧w=2*(j:Int))∧q.1∈T∧q.2.length+1≤T.length∧ ∀w∈T,∃x,w∈aD x e1∧(x= -1∨ ∃v∈T,v≠q.1∧x=v+1)
theorem Ta {ps:List Part} (hps:ps.length=P) (hP:P≤1000) (q:Int × List Part) (hq:WI P M e1 q): ∃f,jd ⟨ps,⟨e0,e1⟩⟩ q=some f∧match f with
  | .next q'=>WI P M e1 q'∧M+5 - q'.2.length<M+5 - q.2.length
  | .done r=> ∃w,r= .brk w∧w.length≤M:=by
 obtain⟨a,way⟩:=q
 unfold jd
 dsimp only
 by_cases h2:a= -2
 ·subst h2
  rcases hq with⟨_,hq⟩|⟨i,_,hi,_⟩
  ·exact⟨_,rfl,way,rfl,hq⟩
  ·dsimp only at hi;omega
 ·rcases hq with⟨hq,_⟩|⟨i,hi,hai,T,hT,hTe,haT,hlen,hpre⟩
  ·exact absurd hq h2
  ·dsimp only at hai haT hlen hpre
   obtain⟨x,hx,_⟩:=hpre a haT
   have hgo:=UG g nb fl (i:=i) (x:=x) (hai ▸ hx)
   have hTl:T.length≤M:=I5 M T hT fun w hw=>by
    obtain⟨j,hj,e⟩:=hTe w hw
    omega
   have ht:Int.tdiv a 2=(i:Int):=by rw [hai,Int.mul_tdiv_cancel_left _ (by decide)]
   rw [decide_eq_false h2,Bool.not_false,cond_true,ht,wr (x:=(i:Int)) (by omega),ai ⟨by decide,⟨by omega,by omega⟩,by rw [List.length_singleton];omega,by rw [List.length_singleton];omega⟩,wr (x:=a+1) (by omega),Cm,hai,ai ⟨by omega,by omega⟩]
   have hm:=at_mem hgo
   refine⟨_,rfl, ?_,by simp only [List.length_append,List.length_singleton];omega⟩
   rcases nb.odd i _ ((g.base _ _).2 (.inr hm))with e|⟨j,hj,e⟩
   ·exact .inl ⟨e,by simp only [List.length_append,List.length_singleton];omega⟩
   ·refine .inr ⟨j,hj,e,at' (aD (2*(i:Int)+1) e1) 0::T, ?_,fun w hw=> ?_,List.mem_cons_self,by dsimp only;rw [List.length_append,List.length_singleton,List.length_cons];omega,fun w hw=> ?_⟩
    ·rw [List.nodup_cons]
     refine⟨fun hmT=> ?_,hT⟩
     obtain⟨y,hy,hy2⟩:=hpre _ hmT
     have:=FL.ind g nb fl _ _ _ (by omega) hm hy
     rcases hy2 with q|⟨v,_,q1,q2⟩<;>omega
    ·rcases List.mem_cons.1 hw with rfl|hw
     ·exact⟨j,hj,e⟩
     ·exact hTe w hw
    ·have hnT:at' (aD (2*(i:Int)+1) e1) 0 ∉ T:=fun hmT=>by
      obtain⟨y,hy,hy2⟩:=hpre _ hmT
      have:=FL.ind g nb fl _ _ _ (by omega) hm hy
      rcases hy2 with q|⟨v,_,q1,q2⟩<;>omega
     rcases List.mem_cons.1 hw with rfl|hw
     ·exact⟨_,hm, .inr ⟨a,List.mem_cons_of_mem _ haT,fun q=>hnT (by have q:a=at' (aD (2*(i:Int)+1) e1) 0:=q;rw [←q];exact haT),by rw [hai]⟩⟩
     ·obtain⟨y,hy,hy2⟩:=hpre w hw
      refine⟨y,hy,hy2.imp id ?_⟩
      rintro ⟨v,v1,v2,v3⟩
      exact⟨v,List.mem_cons_of_mem _ v1,fun q=>hnT (by have q:v=at' (aD (2*(i:Int)+1) e1) 0:=q;rw [←q];exact v1),v3⟩
theorem UN {ps:List Part} (hps:ps.length=P) (hP:P≤1000) (hK:K≤1000): ∃W,fV ⟨ps,⟨e0,e1⟩⟩=some W∧W.length=K:=by
 have hs:=UJ g nb fl
 obtain⟨r,hr,W,rfl,hW⟩:=sS (body:=l8 ⟨ps,⟨e0,e1⟩⟩) (fun q=> ∃t:Nat,q.2=(t:Int)∧t≤K∧q.1.length=t) (fun q=>K - q.2.toNat) (fun r=> ∃W,r= .brk W∧W.length=K) (fun q hq=>by
  obtain⟨out,tt⟩:=q
  obtain⟨t,ht,htK,hlen⟩:=hq
  dsimp only at ht hlen
  subst ht
  unfold l8
  dsimp only
  rw [Cm]
  by_cases hc:t<K
  ·have hm:at' (aD (-1) e1) t∈aD (-1) e1:=at_mem (by omega)
   obtain⟨i,hi,e⟩:=nb.fst _ ((g.base _ _).2 (.inr hm))
   obtain⟨w,hw,way,rfl,hway⟩:=sS (body:=jd ⟨ps,⟨e0,e1⟩⟩) (WI P M e1) (fun q=>M+5 - q.2.length) (fun r=> ∃w,r= .brk w∧w.length≤M)
    (fun q hq=>by obtain⟨f,e,hf⟩:=Ta hM g nb fl hps hP q hq;exact⟨f,e,by cases f<;>exact hf⟩) FUEL (at' (aD (-1) e1) t,([]:List Part))
    (.inr ⟨i,hi,e,[at' (aD (-1) e1) t],by simp,fun w hw=>by rw [List.mem_singleton]at hw;subst hw;exact⟨i,hi,e⟩,by simp,by simp,fun w hw=>by rw [List.mem_singleton]at hw;subst hw;exact⟨-1,hm, .inl rfl⟩⟩) (fuel_lt (by simp;omega))
   rw [rD (by omega),cond_true,ai ⟨by omega,by omega⟩,Int.toNat_natCast,hw,Option.bind_some]
   dsimp only
   rw [ai ⟨by rw [List.length_singleton];omega,by rw [List.length_singleton];omega⟩,wr (by omega)]
   exact⟨_,rfl,⟨t+1,rfl,hc,by simp only [List.length_append,List.length_singleton];omega⟩,by dsimp only;omega⟩
  ·rw [jm (by omega),cond_false]
   exact⟨_,rfl,out,rfl,by omega⟩) FUEL ([],0) ⟨0,rfl,Nat.zero_le _,rfl⟩ (fuel_lt (by dsimp only;omega))
 refine⟨W, ?_,hW⟩
 unfold fV
 rw [hr];rfl
end
def CLO (e0 e1:List (Int × List Int)):Prop:= ∃V:Int→Bool,V (-1)=true∧V (-2)=false∧ ∀u w,V u=true→Rs e0 e1 u w→V w=true
section
variable {M P:Nat} {B:Int→Int→Prop} {ps:List Part} (hM:M=2*P+2) (hP:P≤1000) (nb:NB P B) (hps:ps.length=P)
include hM hP nb
theorem Ee {e0 e1:List (Int × List Int)} {K:Nat} (g:GI M B e0 e1) (fl:FL K e1): ∃f0 f1,(dB ⟨ps,⟨e0,e1⟩⟩=some (true,⟨ps,⟨f0,f1⟩⟩)∧GI M B f0 f1∧FL (K+1) f1)∨(dB ⟨ps,⟨e0,e1⟩⟩=some (false,⟨ps,⟨e0,e1⟩⟩)∧CLO e0 e1):=by
 have hu:Wi M []≤M:=by
  unfold Wi
  exact Nat.le_trans List.countP_le_length (by simp)
 obtain⟨r,hr,hs|hf⟩:=LX (by omega) g (FL.ind g nb fl) (ps:=ps) FUEL [] (-1) ⟨by decide,by omega⟩ rfl rfl (by unfold FUEL;omega)
 ·obtain⟨s1,f0,f1,s2,s3,s4,_⟩:=hs
  refine⟨f0,f1, .inl ⟨?_,s3,fun φ=> ?_⟩⟩
  ·unfold dB
   rw [hr,Option.bind_some,s1,s2]
  ·rw [s4,fl φ,Int.natCast_add,Int.add_mul];simp
 ·obtain⟨s1,s2,s3,s4,s5,s6⟩:=hf
  refine⟨e0,e1, .inr ⟨?_,vs r.2.1,s4,s5,fun u w hu hw=>s6 u hu rfl w hw⟩⟩
  unfold dB
  rw [hr,Option.bind_some,s1,s2]
include hps
theorem J8 {g0:List (Int × List Int)} (g:GI M B g0 []): ∃e0 e1 K W,ay (fI ⟨ps,⟨g0,[]⟩⟩) FUEL (g0,[],0)=some (.brk (e0,e1))∧GI M B e0 e1∧FL K e1∧K≤2∧(K=0→e1=[])∧(K<2→CLO e0 e1)∧fV ⟨ps,⟨e0,e1⟩⟩=some W∧W.length=K:=by
 have fl0:FL 0 []:=fun φ=>by simp [Ec]
 have fin: ∀{e0 e1:List (Int × List Int)} {K:Nat},GI M B e0 e1→FL K e1→K≤2→ ∃W,fV ⟨ps,⟨e0,e1⟩⟩=some W∧W.length=K:=fun g fl hK=>UN hM g nb fl hps hP (by omega)
 have go: ∀(a b:List (Int × List Int)) (r:Bool) (f0 f1:List (Int × List Int)) (t:Nat),t<2→dB ⟨ps,⟨a,b⟩⟩=some (r,⟨ps,⟨f0,f1⟩⟩)→fI ⟨ps,⟨g0,[]⟩⟩ (a,b,(t:Int))=some (bif r then .next (f0,f1,((t+1:Nat):Int))else .done (.brk (f0,f1))):=fun a b r f0 f1 t ht h=>by
  unfold fI
  dsimp only
  rw [rD (by omega),cond_true,h,Option.bind_some,wr (by omega)]
  cases r<;>rfl
 obtain⟨a0,a1,⟨h1,h2,h3⟩|⟨h1,h2⟩⟩:=Ee hM hP nb (ps:=ps) g fl0
 ·obtain⟨b0,b1,⟨k1,k2,k3⟩|⟨k1,k2⟩⟩:=Ee hM hP nb (ps:=ps) h2 h3
  ·obtain⟨W,hW,hWl⟩:=fin k2 k3 (Nat.le_refl 2)
   refine⟨b0,b1,2,W,gD (n:=3) ?_ (by unfold FUEL;omega),k2,k3,Nat.le_refl 2,fun h=>(by cases h),fun h=>by omega,hW,hWl⟩
   have s1:=go _ _ _ _ _ 0 (by omega) h1;have s2:=go _ _ _ _ _ 1 (by omega) k1
   have s1:fI ⟨ps,⟨g0,[]⟩⟩ (g0,[],0)=_:=s1
   rw [aZ,s1]
   show ay _ 2 (a0,a1,((1:Nat):Int))=_
   rw [aZ,s2]
   show ay _ 1 (b0,b1,((2:Nat):Int))=_
   rw [aZ]
   unfold fI
   dsimp only
   rw [jm (by omega)];rfl
  ·obtain⟨W,hW,hWl⟩:=fin h2 h3 (by omega)
   refine⟨a0,a1,1,W,gD (n:=2) ?_ (by unfold FUEL;omega),h2,h3,by omega,fun h=>(by cases h),fun _=>k2,hW,hWl⟩
   have s1:=go _ _ _ _ _ 0 (by omega) h1;have s2:=go _ _ _ _ _ 1 (by omega) k1
   have s1:fI ⟨ps,⟨g0,[]⟩⟩ (g0,[],0)=_:=s1
   rw [aZ,s1]
   show ay _ 1 (a0,a1,((1:Nat):Int))=_
   rw [aZ,s2];rfl
 ·obtain⟨W,hW,hWl⟩:=fin g fl0 (by omega)
  refine⟨g0,[],0,W,gD (n:=1) ?_ (by unfold FUEL;omega),g,fl0,by omega,fun _=>rfl,fun _=>h2,hW,hWl⟩
  have s1:=go _ _ _ _ _ 0 (by omega) h1
  have s1:fI ⟨ps,⟨g0,[]⟩⟩ (g0,[],0)=_:=s1
  rw [aZ,s1];rfl
end
def VF (g:List (Int × List Int)) (e:Int × Int):List (Int × List Int):=gK e.1 (aD e.1 g++[e.2]) g
def lq (E:List (Int × Int)):List (Int × List Int):=E.foldl VF []
theorem QV (E:List (Int × Int)) (e:Int × Int):lq (E++[e])=VF (lq E) e:=by unfold lq;rw [List.foldl_append];rfl
theorem IG (u:Int): ∀(E:List (Int × Int)) (g:List (Int × List Int)),aD u (E.foldl VF g)=aD u g++(E.filter fun e=>decide (e.1=u)).map (·.2)
 |[],g=>by simp
 |e::E,g=>by
  rw [List.foldl_cons,IG u E,List.filter_cons]
  unfold VF
  rw [fG]
  by_cases h:u=e.1
  ·subst h
   rw [if_pos rfl,if_pos (decide_eq_true rfl),List.map_cons,List.append_assoc];rfl
  ·rw [if_neg h,if_neg (by rw [decide_eq_false (Ne.symm h)];decide)]
theorem FX (u:Int) (E:List (Int × Int)):aD u (lq E)=(E.filter fun e=>decide (e.1=u)).map (·.2):=by
 unfold lq
 rw [IG];rfl
theorem Vb {u v:Int} {E:List (Int × Int)}:v∈aD u (lq E)↔(u,v)∈E:=by
 rw [FX,List.mem_map]
 constructor
 ·rintro ⟨e,he,rfl⟩
  obtain⟨h1,h2⟩:=List.mem_filter.1 he
  rw [←of_decide_eq_true h2];exact h1
 ·intro h
  exact⟨(u,v),List.mem_filter.2 ⟨h,decide_eq_true rfl⟩,rfl⟩
theorem Vo (u:Int) (E:List (Int × Int)):(aD u (lq E)).length≤E.length:=by
 rw [FX,List.length_map];exact List.length_filter_le _ _
theorem P9 {E:List (Int × Int)} (h:E.Nodup) (u:Int):(aD u (lq E)).Nodup:=by
 rw [FX]
 have h1:(E.filter fun e=>decide (e.1=u)).Nodup:=h.sublist List.filter_sublist
 have h2: ∀e∈E.filter (fun e=>decide (e.1=u)),e.1=u:=fun e he=>of_decide_eq_true (List.mem_filter.1 he).2
 generalize E.filter (fun e=>decide (e.1=u))=F at h1 h2
 induction F with
 |nil=>simp
 |cons e F ih=>
  rw [List.nodup_cons]at h1
  rw [List.map_cons,List.nodup_cons]
  refine⟨fun hm=> ?_,ih h1.2 fun x hx=>h2 x (List.mem_cons_of_mem _ hx)⟩
  obtain⟨x,hx,e2⟩:=List.mem_map.1 hm
  have a1:=h2 x (List.mem_cons_of_mem _ hx);have a2:=h2 e List.mem_cons_self
  have:x=e:=Prod.ext (a1.trans a2.symm) e2
  exact h1.1 (this ▸ hx)
theorem zk (ps:List Part) (E:List (Int × Int)) (a b:Int) (h:E.length≤100000):dG a b ⟨ps,⟨lq E,[]⟩⟩=some ⟨ps,⟨lq (E++[(a,b)]),[]⟩⟩:=by
 have:=Vo a E
 unfold dG
 dsimp only
 rw [ai ⟨by rw [List.length_singleton];omega,by rw [List.length_singleton];omega⟩,QV];rfl
section
variable {α:Type} [Inhabited α]
theorem I8 {a b:List α} {i:Nat} (h:i<a.length):at' (a++b) i=at' a i:=by
 rw [dX (by rw [List.length_append];omega),dX h,List.getElem_append_left h]
theorem OM {a b:List α} {i:Nat} (h:i<b.length):at' (a++b) (a.length+i)=at' b i:=by
 rw [dX (by rw [List.length_append];omega),dX h,List.getElem_append_right (Nat.le_add_right _ _)]
 congr 1;omega
end
section
variable {p:ah} (hp:VP p)
theorem dh:(partsOf p).length=p.buses.toNat+p.sources.length+p.links.length:=by simp only [partsOf,List.length_append,aK]
theorem Di {b:Nat} (h:b<p.buses.toNat):at' (partsOf p) b=⟨1,(b:Int)⟩:=by
 unfold partsOf
 rw [I8 (by rw [List.length_append,aK,aK];omega),I8 (by rw [aK];exact h),vk h]
theorem Dn {k:Nat} (h:k<p.sources.length):at' (partsOf p) (p.buses.toNat+k)=⟨2,(k:Int)⟩:=by
 unfold partsOf
 rw [I8 (by rw [List.length_append,aK,aK];omega)]
 have:=OM (a:=tab p.buses.toNat (fun b=>(⟨1,(b:Int)⟩:Part))) (b:=tab p.sources.length (fun b=>(⟨2,(b:Int)⟩:Part))) (i:=k) (by rw [aK];exact h)
 rw [aK]at this
 rw [this,vk h]
theorem Dh {i:Nat} (h:i<p.links.length):at' (partsOf p) (p.buses.toNat+p.sources.length+i)=⟨3,(i:Int)⟩:=by
 unfold partsOf
 have:=OM (a:=tab p.buses.toNat (fun b=>(⟨1,(b:Int)⟩:Part))++tab p.sources.length (fun b=>(⟨2,(b:Int)⟩:Part))) (b:=tab p.links.length (fun b=>(⟨3,(b:Int)⟩:Part))) (i:=i) (by rw [aK];exact h)
 rw [List.length_append,aK,aK]at this
 rw [this,vk h]
theorem K9 {i j:Nat} (hi:i<(partsOf p).length) (hj:j<(partsOf p).length) (e:at' (partsOf p) i=at' (partsOf p) j):i=j:=by
 have key: ∀i,i<(partsOf p).length→(i<p.buses.toNat∧at' (partsOf p) i=⟨1,(i:Int)⟩)∨(∃k,k<p.sources.length∧i=p.buses.toNat+k∧at' (partsOf p) i=⟨2,(k:Int)⟩)∨ ∃k,k<p.links.length∧i=p.buses.toNat+p.sources.length+k∧at' (partsOf p) i=⟨3,(k:Int)⟩:=fun i hi=>by
  rw [dh]at hi
  by_cases h1:i<p.buses.toNat
  ·exact .inl ⟨h1,Di h1⟩
  ·by_cases h2:i<p.buses.toNat+p.sources.length
   ·refine .inr (.inl ⟨i - p.buses.toNat,by omega,by omega, ?_⟩)
    have:=Dn (p:=p) (k:=i - p.buses.toNat) (by omega)
    rwa [show p.buses.toNat+(i - p.buses.toNat)=i by omega]at this
   ·refine .inr (.inr ⟨i - (p.buses.toNat+p.sources.length),by omega,by omega, ?_⟩)
    have:=Dh (p:=p) (i:=i - (p.buses.toNat+p.sources.length)) (by omega)
    rwa [show p.buses.toNat+p.sources.length+(i - (p.buses.toNat+p.sources.length))=i by omega]at this
 rcases key i hi with⟨_,a⟩|⟨k,_,a1,a⟩|⟨k,_,a1,a⟩<;>rcases key j hj with⟨_,b⟩|⟨m,_,b1,b⟩|⟨m,_,b1,b⟩<;>rw [a,b]at e<;>simp at e<;>omega
include hp
theorem Ak {i:Nat} (hi:i<(partsOf p).length) {x:Part} (e:at' (partsOf p) i=x):fF (partsOf p) x=some (i:Int):=by
 have h72:(partsOf p).length≤100:=by
  have hb:=hp.b;have hsl:=hp.sl;have hll:=hp.ll
  rw [dh];omega
 have hq: ∀y:Part,((decide (x.kind=y.kind)) && ((decide (x.index=y.index)) && true))=true↔x=y:=fun y=>by
  obtain⟨a,b⟩:=x;obtain⟨c,d⟩:=y
  simp
 have hf:(partsOf p).findIdx? (fun y=>(decide (x.kind=y.kind)) && ((decide (x.index=y.index)) && true))=some i:=by
  rw [List.findIdx?_eq_some_iff_getElem]
  refine⟨hi,(hq _).2 (by rw [←dX hi,e]),fun j hj=> ?_⟩
  intro h
  have h:=(hq _).1 h
  rw [←dX (by omega),←e]at h
  have:=K9 hi (by omega) h
  omega
 unfold fF
 rw [jO (partsOf p) (fun y=>(decide (x.kind=y.kind)) && ((decide (x.index=y.index)) && true)) id (by omega) (fun i hi=> ?_) ?_,hf]
 ·rfl
 ·unfold mH
  rw [jm (by omega)];rfl
 ·unfold mH
  rw [rD (by omega),cond_true,ai ⟨by omega,by omega⟩,Int.toNat_natCast,wr (by omega)]
  exact wG _ _ _
theorem Bq (g h:List (Int × List Int)) {b:Int} (hb:0≤b∧b<p.buses):bL 1 b ⟨partsOf p,⟨g,h⟩⟩=some b:=by
 unfold bL
 have e:=Di (p:=p) (b:=b.toNat) (by omega)
 have:=Ak hp (i:=b.toNat) (by rw [dh];omega) e
 rw [show((b.toNat:Nat):Int)=b by omega]at this
 show(fF (partsOf p) ⟨1,b⟩).bind _=_
 rw [this];rfl
theorem Sr (g h:List (Int × List Int)) {k:Nat} (hk:k<p.sources.length):bL 2 (k:Int) ⟨partsOf p,⟨g,h⟩⟩=some ((p.buses.toNat+k:Nat):Int):=by
 unfold bL
 have:=Ak hp (by rw [dh];omega) (Dn (p:=p) hk)
 show(fF (partsOf p) ⟨2,(k:Int)⟩).bind _=_
 rw [this];rfl
theorem R5 (g h:List (Int × List Int)) {i:Nat} (hi:i<p.links.length):bL 3 (i:Int) ⟨partsOf p,⟨g,h⟩⟩=some ((p.buses.toNat+p.sources.length+i:Nat):Int):=by
 unfold bL
 have:=Ak hp (by rw [dh];omega) (Dh (p:=p) hi)
 show(fF (partsOf p) ⟨3,(i:Int)⟩).bind _=_
 rw [this];rfl
end
def Cz (i:Nat):List (Int × Int):=[(2*(i:Int),2*(i:Int)+1)]
def uL (p:ah) (s:State) (k:Nat):List (Int × Int):=if dO p s k=true then [(-1,2*((p.buses.toNat+k:Nat):Int)),(2*((p.buses.toNat+k:Nat):Int)+1,2*(at' p.sources k).bus)]else []
def lx (p:ah) (i:Nat):Int:=((p.buses.toNat+p.sources.length+i:Nat):Int)
def rC (p:ah) (s:State) (i:Nat):List (Int × Int):=if iC p s i=true then [(2*(at' p.links i).a+1,2*lx p i),(2*lx p i+1,2*(at' p.links i).a),(2*(at' p.links i).b+1,2*lx p i),(2*lx p i+1,2*(at' p.links i).b)]else []
def fd (p:ah) (k t:Nat):Int:=at' [(at' p.racks k).feeds.e0,(at' p.racks k).feeds.e1] t
def uK (p:ah) (s:State) (k t:Nat):List (Int × Int):=if 0≤fd p k t∧at' s.badBus (fd p k t).toNat=false then [(2*fd p k t+1, -2)]else []
def aF (p:ah) (s:State) (k:Nat):List (Int × Int):=bK Cz (partsOf p).length++bK (uL p s) p.sources.length++bK (rC p s) p.links.length++bK (uK p s k) 2
section
variable {p:ah} {s:State} (hp:VP p) (hs:VS p s) {k:Nat} (hk:k<p.racks.length)
include hp
theorem BS:(bK Cz (partsOf p).length).length≤100∧(∀n,n≤p.sources.length→(bK (uL p s) n).length≤16)∧(∀n,n≤p.links.length→(bK (rC p s) n).length≤160)∧(∀n,n≤2→(bK (uK p s k) n).length≤2):=by
 have hb:=hp.b;have hsl:=hp.sl;have hll:=hp.ll
 have hP:=dh (p:=p)
 refine⟨?_,fun n hn=> ?_,fun n hn=> ?_,fun n hn=> ?_⟩
 ·have:=fq (f:=Cz) (m:=1) (n:=(partsOf p).length) fun i _=>by simp [Cz]
  omega
 ·have:=fq (f:=uL p s) (m:=2) (n:=n) fun i _=>by unfold uL;split<;>simp
  omega
 ·have:=fq (f:=rC p s) (m:=4) (n:=n) fun i _=>by unfold rC;split<;>simp
  omega
 ·have:=fq (f:=uK p s k) (m:=1) (n:=n) fun i _=>by unfold uK;split<;>simp
  omega
include hs
theorem Xu (e:Int):ay (fT (partsOf p,e)) FUEL ([],0)=some (.brk (lq (bK Cz (partsOf p).length))):=by
 have hb:=hp.b;have hsl:=hp.sl;have hll:=hp.ll
 have hP:=dh (p:=p)
 refine aR (body:=fT (partsOf p,e)) (fun t=>(lq (bK Cz t),(t:Int))) (partsOf p).length _ (fuel_lt (by omega)) (fun t ht=> ?_) ?_
 ·have hl:=fq (f:=Cz) (m:=1) (n:=t) fun i _=>by simp [Cz]
  unfold fT
  dsimp only
  rw [rD (by omega),cond_true,wr (x:=2*(t:Int)) (by omega),wr (x:=2*(t:Int)+1) (by omega),zk _ _ _ _ (by omega),Option.bind_some,wr (by omega)]
  rfl
 ·unfold fT
  dsimp only
  rw [jm (by omega)];rfl
theorem Yi (e:Int) (E:List (Int × Int)) (hE:E.length≤1000):ay (fO p s (partsOf p,e)) FUEL (lq E,0)=some (.brk (lq (E++bK (uL p s) p.sources.length))):=by
 have hb:=hp.b;have hsl:=hp.sl;have hll:=hp.ll
 have h1:=hs.on;have h2:=hs.badSource;have h3:=hs.badBus
 have key:=aR (body:=fO p s (partsOf p,e)) (fun t=>(lq (E++bK (uL p s) t),(t:Int))) p.sources.length (.brk (lq (E++bK (uL p s) p.sources.length))) (fuel_lt (by omega)) (fun t ht=> ?_) ?_
 ·rw [show E++bK (uL p s) 0=E from List.append_nil E]at key;exact key
 ·have hl:=(BS (s:=s) (k:=0) hp).2.1 t (by omega)
  have hsb:=(hp.src t ht).bus
  unfold fO
  dsimp only
  rw [rD (by omega),cond_true,ai ⟨by omega,by omega⟩,Int.toNat_natCast,ai ⟨⟨by omega,by omega⟩,fun _=> ⟨by omega,by omega⟩,fun _=> ⟨by omega,by omega⟩⟩,wr (x:=(t:Int)+1) (by omega)]
  have ec:(bif (bif (at' s.on_ t)then(!(at' s.badSource t))else false)then(!(at' s.badBus (at' p.sources t).bus.toNat))else false)=dO p s t:=by
   unfold dO
   cases at' s.on_ t<;>cases at' s.badSource t<;>rfl
  rw [ec]
  rw [show lq (E++bK (uL p s) (t+1))=lq (E++(bK (uL p s) t++uL p s t))from rfl]
  cases hf:dO p s t with
  |false=>
   have:uL p s t=[]:=by unfold uL;rw [hf,if_neg (by decide)]
   rw [cond_false,this,List.append_nil];rfl
  |true=>
   have:uL p s t=[(-1,2*((p.buses.toNat+t:Nat):Int)),(2*((p.buses.toNat+t:Nat):Int)+1,2*(at' p.sources t).bus)]:=by unfold uL;rw [hf,if_pos rfl]
   rw [cond_true,this,Sr hp _ _ ht,Option.bind_some,wr (x:=2*((p.buses.toNat+t:Nat):Int)) (by omega),zk _ _ _ _ (by rw [List.length_append];omega),Option.bind_some]
   dsimp only
   rw [Bq hp _ _ hsb,Option.bind_some,wr (x:=2*((p.buses.toNat+t:Nat):Int)+1) (by omega),wr (x:=2*(at' p.sources t).bus) (by omega),zk _ _ _ _ (by rw [List.length_append,List.length_append,List.length_singleton];omega),Option.bind_some]
   simp only [List.append_assoc]
   rfl
 ·unfold fO
  dsimp only
  rw [jm (by omega)];rfl
theorem Yk (e:Int) {i:Nat} (hi:i<p.links.length) (E:List (Int × Int)) (hE:E.length≤2000):ay (dA p (partsOf p,e) (i:Int) (lx p i)) FUEL (lq E,0)=some (.brk (lq (E++[(2*(at' p.links i).a+1,2*lx p i),(2*lx p i+1,2*(at' p.links i).a),(2*(at' p.links i).b+1,2*lx p i),(2*lx p i+1,2*(at' p.links i).b)]))):=by
 have hb:=hp.b;have hsl:=hp.sl;have hll:=hp.ll
 have hli:=hp.lnk i hi;have ha:=hli.a;have hbb:=hli.b
 have hX:lx p i=((p.buses.toNat+p.sources.length+i:Nat):Int):=rfl
 have st: ∀(t:Nat) (F:List (Int × Int)) (w:Int),t<2→F.length≤2100→at' [(at' p.links i).a,(at' p.links i).b] t=w→0≤w∧w<p.buses→dA p (partsOf p,e) (i:Int) (lx p i) (lq F,(t:Int))=some (.next (lq (F++[(2*w+1,2*lx p i)]++[(2*lx p i+1,2*w)]),((t+1:Nat):Int))):=fun t F w ht hF hw hr=>by
  unfold dA
  dsimp only
  rw [rD (by omega),cond_true,ai ⟨by omega,by omega⟩,Int.toNat_natCast,Int.toNat_natCast,hw,Bq hp _ _ hr,Option.bind_some,wr (x:=2*w) (by omega),wr (x:=2*w+1) (by omega),wr (x:=2*lx p i) (by omega),zk _ _ _ _ (by omega),Option.bind_some]
  dsimp only
  rw [Bq hp _ _ hr,Option.bind_some,wr (x:=2*lx p i+1) (by omega),wr (x:=2*w) (by omega),zk _ _ _ _ (by rw [List.length_append,List.length_singleton];omega),Option.bind_some,wr (by omega)]
  rfl
 refine gD (n:=3) ?_ (by unfold FUEL;omega)
 have s0:dA p (partsOf p,e) (i:Int) (lx p i) (lq E,0)=_:=st 0 E _ (by omega) (by omega) rfl ha
 rw [aZ,s0]
 show ay _ 2 (_,((1:Nat):Int))=_
 rw [aZ,st 1 _ _ (by omega) (by simp only [List.length_append,List.length_singleton];omega) rfl hbb]
 show ay _ 1 (_,((2:Nat):Int))=_
 rw [aZ]
 unfold dA
 dsimp only
 rw [jm (by omega),cond_false]
 simp only [List.append_assoc]
 rfl
theorem XZ (e:Int) (E:List (Int × Int)) (hE:E.length≤1100):ay (fM p s (partsOf p,e)) FUEL (lq E,0)=some (.brk (lq (E++bK (rC p s) p.links.length))):=by
 have hb:=hp.b;have hsl:=hp.sl;have hll:=hp.ll
 have h1:=hs.closed;have h2:=hs.badLink;have h3:=hs.badBus
 have key:=aR (body:=fM p s (partsOf p,e)) (fun t=>(lq (E++bK (rC p s) t),(t:Int))) p.links.length (.brk (lq (E++bK (rC p s) p.links.length))) (fuel_lt (by omega)) (fun t ht=> ?_) ?_
 ·rw [show E++bK (rC p s) 0=E from List.append_nil E]at key;exact key
 ·have hl:=(BS (s:=s) (k:=0) hp).2.2.1 t (by omega)
  have hli:=hp.lnk t ht;have ha:=hli.a;have hbb:=hli.b
  unfold fM
  dsimp only
  rw [rD (by omega),cond_true,ai ⟨by omega,by omega⟩,Int.toNat_natCast,ai ⟨⟨by omega,by omega⟩,fun _=> ⟨by omega,by omega⟩,fun _=> ⟨by omega,by omega⟩,fun _=> ⟨by omega,by omega⟩⟩,wr (x:=(t:Int)+1) (by omega)]
  have ec:(bif (bif (bif (!(at' s.closed t))then true else(at' s.badLink t))then true else(at' s.badBus (at' p.links t).a.toNat))then true else(at' s.badBus (at' p.links t).b.toNat))= !iC p s t:=by
   unfold iC
   cases at' s.closed t<;>cases at' s.badLink t<;>cases at' s.badBus (at' p.links t).a.toNat<;>cases at' s.badBus (at' p.links t).b.toNat<;>rfl
  rw [ec]
  rw [show lq (E++bK (rC p s) (t+1))=lq (E++(bK (rC p s) t++rC p s t))from rfl]
  cases hf:iC p s t with
  |false=>
   rw [Bool.not_false,cond_true]
   unfold rC
   rw [hf,if_neg (by decide),List.append_nil];rfl
  |true=>
   have hL3:=Yk hp hs e ht (E++bK (rC p s) t) (by rw [List.length_append];omega)
   rw [Bool.not_true,cond_false,R5 hp _ _ ht,Option.bind_some]
   have hL3:ay (dA p (partsOf p,e) (t:Int) ((p.buses.toNat+p.sources.length+t:Nat):Int)) FUEL (lq (E++bK (rC p s) t),0)=_:=hL3
   rw [hL3,Option.bind_some,List.append_assoc]
   have:rC p s t=[(2*(at' p.links t).a+1,2*lx p t),(2*lx p t+1,2*(at' p.links t).a),(2*(at' p.links t).b+1,2*lx p t),(2*lx p t+1,2*(at' p.links t).b)]:=by unfold rC;rw [hf,if_pos rfl]
   rw [this];rfl
 ·unfold fM
  dsimp only
  rw [jm (by omega)];rfl
include hk
theorem XE (e:Int) (E:List (Int × Int)) (hE:E.length≤1300):ay (fQ p s (k:Int) (partsOf p,e)) FUEL (lq E,0)=some (.brk (lq (E++bK (uK p s k) 2))):=by
 have hb:=hp.b;have hsl:=hp.sl;have hll:=hp.ll
 have h3:=hs.badBus
 have hr:=hp.rck k hk;have r0:=hr.e0;have r1:=hr.e1
 have key:=aR (body:=fQ p s (k:Int) (partsOf p,e)) (fun t=>(lq (E++bK (uK p s k) t),(t:Int))) 2 (.brk (lq (E++bK (uK p s k) 2))) (fuel_lt (by omega)) (fun t ht=> ?_) ?_
 ·rw [show E++bK (uK p s k) 0=E from List.append_nil E]at key;exact key
 ·have hl:=(BS (s:=s) (k:=k) hp).2.2.2 t (by omega)
  have hfr: -1≤fd p k t∧fd p k t<p.buses:=by
   match t,ht with
   |0,_=>exact⟨by show -1≤(at' p.racks k).feeds.e0;omega,r0.2⟩
   |1,_=>exact r1
  unfold fQ
  dsimp only
  rw [rD (by omega),cond_true,ai ⟨by omega,by omega⟩,Int.toNat_natCast,Int.toNat_natCast,show at' [(at' p.racks k).feeds.e0,(at' p.racks k).feeds.e1] t=fd p k t from rfl,wr (x:=(t:Int)+1) (by omega)]
  rw [show lq (E++bK (uK p s k) (t+1))=lq (E++(bK (uK p s k) t++uK p s k t))from rfl]
  by_cases h0:0≤fd p k t
  ·rw [decide_eq_true h0,cond_true,ai (fun _=> ⟨h0,by omega⟩)]
   cases hbd:at' s.badBus (fd p k t).toNat with
   |true=>
    have:uK p s k t=[]:=by unfold uK;rw [if_neg (fun h=>by rw [hbd]at h;cases h.2)]
    rw [this,List.append_nil];rfl
   |false=>
    have:uK p s k t=[(2*fd p k t+1, -2)]:=by unfold uK;rw [if_pos ⟨h0,hbd⟩]
    rw [this,Bool.not_false,cond_true,Bq hp _ _ ⟨h0,hfr.2⟩,Option.bind_some,wr (x:=2*fd p k t) (by omega),wr (x:=2*fd p k t+1) (by omega),zk _ _ _ _ (by rw [List.length_append];omega),Option.bind_some,List.append_assoc]
    rfl
  ·have:uK p s k t=[]:=by unfold uK;rw [if_neg (fun h=>h0 h.1)]
   rw [this,List.append_nil,decide_eq_false h0,cond_false,cond_false,ai (fun h=>absurd h (by decide))]
   rfl
 ·unfold fQ
  dsimp only
  rw [jm (by omega)];rfl
theorem NW:kU p s (k:Int)=some ⟨partsOf p,⟨lq (aF p s k),[]⟩⟩:=by
 obtain⟨a1,a2,a3,a4⟩:=BS (s:=s) (k:=k) hp
 have a2:=a2 _ (Nat.le_refl _);have a3:=a3 _ (Nat.le_refl _)
 unfold kU
 rw [parts_eq hp,Option.bind_some,Xu hp hs 0,Option.bind_some]
 dsimp only
 rw [Yi hp hs 0 _ (by omega),Option.bind_some]
 dsimp only
 rw [XZ hp hs 0 _ (by rw [List.length_append];omega),Option.bind_some]
 dsimp only
 rw [ai ⟨by omega,by omega⟩,XE hp hs hk 0 _ (by rw [List.length_append,List.length_append];omega),Option.bind_some]
 rfl
end
theorem mS {p:ah} {s:State} {j:Nat} {u v:Int} (h:(u,v)∈uL p s j):dO p s j=true∧(u= -1∧v=2*((p.buses.toNat+j:Nat):Int)∨u=2*((p.buses.toNat+j:Nat):Int)+1∧v=2*(at' p.sources j).bus):=by
 unfold uL at h
 by_cases c:dO p s j=true
 ·rw [if_pos c]at h
  refine⟨c, ?_⟩
  rcases List.mem_cons.1 h with h|h
  ·cases h;exact .inl ⟨rfl,rfl⟩
  ·rw [List.mem_singleton]at h;cases h;exact .inr ⟨rfl,rfl⟩
 ·rw [if_neg c]at h;cases h
theorem mL {p:ah} {s:State} {i:Nat} {u v:Int} (h:(u,v)∈rC p s i):iC p s i=true∧ ∃w,(w=(at' p.links i).a∨w=(at' p.links i).b)∧(u=2*w+1∧v=2*lx p i∨u=2*lx p i+1∧v=2*w):=by
 unfold rC at h
 by_cases c:iC p s i=true
 ·rw [if_pos c]at h
  refine⟨c, ?_⟩
  rcases List.mem_cons.1 h with h|h
  ·cases h;exact⟨_, .inl rfl, .inl ⟨rfl,rfl⟩⟩
  ·rcases List.mem_cons.1 h with h|h
   ·cases h;exact⟨_, .inl rfl, .inr ⟨rfl,rfl⟩⟩
   ·rcases List.mem_cons.1 h with h|h
    ·cases h;exact⟨_, .inr rfl, .inl ⟨rfl,rfl⟩⟩
    ·rw [List.mem_singleton]at h;cases h;exact⟨_, .inr rfl, .inr ⟨rfl,rfl⟩⟩
 ·rw [if_neg c]at h;cases h
theorem mR {p:ah} {s:State} {k t:Nat} {u v:Int} (h:(u,v)∈uK p s k t):0≤fd p k t∧at' s.badBus (fd p k t).toNat=false∧u=2*fd p k t+1∧v= -2:=by
 unfold uK at h
 by_cases c:0≤fd p k t∧at' s.badBus (fd p k t).toNat=false
 ·rw [if_pos c]at h
  rw [List.mem_singleton]at h;cases h
  exact⟨c.1,c.2,rfl,rfl⟩
 ·rw [if_neg c]at h;cases h
theorem mP {i:Nat} {u v:Int} (h:(u,v)∈Cz i):u=2*(i:Int)∧v=2*(i:Int)+1:=by
 unfold Cz at h
 rw [List.mem_singleton]at h;cases h;exact⟨rfl,rfl⟩
section
variable {p:ah} {s:State} (hp:VP p) {k:Nat} (hk:k<p.racks.length)
include hp
theorem A9 (i:Nat):lx p i=((p.buses.toNat+p.sources.length+i:Nat):Int):=rfl
theorem Rz (n:Nat):(bK Cz n).Nodup:=mQ (fun i _=>by simp [Cz]) fun i j x _ _ h1 h2=>by
 obtain⟨u,v⟩:=x
 have:=mP h1;have:=mP h2;omega
theorem SX (n:Nat) (hn:n≤p.sources.length):(bK (uL p s) n).Nodup:=by
 have hb:=hp.b
 refine mQ (fun i hi=> ?_) fun i j x hi hj h1 h2=> ?_
 ·unfold uL
  split
  ·rw [List.nodup_cons]
   refine⟨fun h=> ?_,by simp⟩
   rw [List.mem_singleton,Prod.mk.injEq]at h;omega
  ·simp
 ·obtain⟨u,v⟩:=x
  have:=(hp.src i (by omega)).bus;have:=(hp.src j (by omega)).bus
  rcases(mS h1).2 with a|a<;>rcases(mS h2).2 with b|b<;>omega
theorem RN (n:Nat) (hn:n≤p.links.length):(bK (rC p s) n).Nodup:=by
 have hb:=hp.b
 refine mQ (fun i hi=> ?_) fun i j x hi hj h1 h2=> ?_
 ·have hl:=hp.lnk i (by omega);have ha:=hl.a;have hbb:=hl.b;have hab:=hl.ab
  have hx:=A9 hp i
  unfold rC
  split
  ·rw [List.nodup_cons,List.nodup_cons,List.nodup_cons]
   simp only [List.mem_cons,List.not_mem_nil,or_false,Prod.mk.injEq,List.nodup_cons,List.nodup_nil,not_false_eq_true,and_true]
   omega
  ·simp
 ·obtain⟨u,v⟩:=x
  have l1:=hp.lnk i (by omega);have l2:=hp.lnk j (by omega)
  have a1:=l1.a;have b1:=l1.b;have a2:=l2.a;have b2:=l2.b
  have hx:=A9 hp i;have hy:=A9 hp j
  obtain⟨w,hw,c⟩:=(mL h1).2
  obtain⟨z,hz,d⟩:=(mL h2).2
  rcases c with c|c<;>rcases d with d|d<;>rcases hw with rfl|rfl<;>rcases hz with rfl|rfl<;>omega
include hk
theorem JO {t:Nat} (ht:t<2): -1≤fd p k t∧fd p k t<p.buses:=by
 have hr:=hp.rck k hk;have r0:=hr.e0;have r1:=hr.e1
 match t,ht with
 |0,_=>exact⟨by show -1≤(at' p.racks k).feeds.e0;omega,r0.2⟩
 |1,_=>exact r1
theorem Si:(bK (uK p s k) 2).Nodup:=by
 have hr:=hp.rck k hk
 refine mQ (fun t _=>by unfold uK;split<;>simp) fun i j x hi hj h1 h2=> ?_
 obtain⟨u,v⟩:=x
 have a:=mR h1;have b:=mR h2
 have e:fd p k i=fd p k j:=by omega
 have hne:fd p k 0≠fd p k 1:=hr.ne
 match i,j,hi,hj with
 |0,0,_,_=>rfl
 |1,1,_,_=>rfl
 |0,1,_,_=>exact absurd e hne
 |1,0,_,_=>exact absurd e.symm hne
theorem EN {u v:Int} (h:(u,v)∈aF p s k):(∃i:Nat,i<(partsOf p).length∧u=2*(i:Int)∧v=2*(i:Int)+1)∨
  (∃j:Nat,j<p.sources.length∧dO p s j=true∧(u= -1∧v=2*((p.buses.toNat+j:Nat):Int)∨u=2*((p.buses.toNat+j:Nat):Int)+1∧v=2*(at' p.sources j).bus))∨
  (∃i:Nat,i<p.links.length∧iC p s i=true∧ ∃w,(w=(at' p.links i).a∨w=(at' p.links i).b)∧(u=2*w+1∧v=2*lx p i∨u=2*lx p i+1∧v=2*w))∨
  ∃t:Nat,t<2∧0≤fd p k t∧at' s.badBus (fd p k t).toNat=false∧u=2*fd p k t+1∧v= -2:=by
 unfold aF at h
 rw [List.mem_append,List.mem_append,List.mem_append,bH,bH,bH,bH]at h
 rcases h with((⟨i,hi,h⟩|⟨j,hj,h⟩)|⟨i,hi,h⟩)|⟨t,ht,h⟩
 ·exact .inl ⟨i,hi,mP h⟩
 ·exact .inr (.inl ⟨j,hj,mS h⟩)
 ·exact .inr (.inr (.inl ⟨i,hi,mL h⟩))
 ·exact .inr (.inr (.inr ⟨t,ht,mR h⟩))
theorem VB:(aF p s k).Nodup:=by
 have hb:=hp.b
 unfold aF
 rw [List.nodup_append,List.nodup_append,List.nodup_append]
 refine⟨⟨⟨Rz hp _,SX hp _ (Nat.le_refl _),fun x hx y hy e=> ?_⟩,RN hp _ (Nat.le_refl _),fun x hx y hy e=> ?_⟩,Si hp hk,fun x hx y hy e=> ?_⟩
 ·subst e;obtain⟨u,v⟩:=x
  obtain⟨i,hi,h1⟩:=bH.1 hx;obtain⟨j,hj,h2⟩:=bH.1 hy
  have:=(hp.src j hj).bus
  have a:=mP h1
  rcases(mS h2).2 with b|b<;>omega
 ·subst e;obtain⟨u,v⟩:=x
  obtain⟨i,hi,h2⟩:=bH.1 hy
  have l2:=hp.lnk i hi;have a2:=l2.a;have b2:=l2.b
  have hx':=A9 hp i
  obtain⟨w,hw,c⟩:=(mL h2).2
  have hw:0≤w∧w<p.buses:=by rcases hw with rfl|rfl<;>omega
  rcases List.mem_append.1 hx with hx|hx
  ·obtain⟨j,hj,h1⟩:=bH.1 hx
   have a:=mP h1
   rcases c with c|c<;>omega
  ·obtain⟨j,hj,h1⟩:=bH.1 hx
   have:=(hp.src j hj).bus
   rcases(mS h1).2 with b|b<;>rcases c with c|c<;>omega
 ·subst e;obtain⟨u,v⟩:=x
  obtain⟨t,ht,h2⟩:=bH.1 hy
  have r:=mR h2
  rcases List.mem_append.1 hx with hx|hx
  ·rcases List.mem_append.1 hx with hx|hx
   ·obtain⟨j,hj,h1⟩:=bH.1 hx
    have a:=mP h1
    omega
   ·obtain⟨j,hj,h1⟩:=bH.1 hx
    have:=(hp.src j hj).bus
    rcases(mS h1).2 with b|b<;>omega
  ·obtain⟨i,hi,h1⟩:=bH.1 hx
   have l2:=hp.lnk i hi;have a2:=l2.a;have b2:=l2.b
   have hx':=A9 hp i
   obtain⟨w,hw,c⟩:=(mL h1).2
   have hw:0≤w∧w<p.buses:=by rcases hw with rfl|rfl<;>omega
   rcases c with c|c<;>omega
theorem Oo:NB (partsOf p).length (fun u v=>(u,v)∈aF p s k):=by
 have hb:=hp.b
 have hP:=dh (p:=p)
 have key: ∀u v,(u,v)∈aF p s k→(∃i:Nat,i<(partsOf p).length∧u=2*(i:Int)∧v=2*(i:Int)+1)∨(u= -1∧ ∃j:Nat,j<(partsOf p).length∧v=2*(j:Int))∨(∃i j:Nat,i<(partsOf p).length∧j<(partsOf p).length∧u=2*(i:Int)+1∧v=2*(j:Int))∨ ∃i:Nat,i<(partsOf p).length∧u=2*(i:Int)+1∧v= -2:=fun u v h=>by
  rcases EN hp hk h with⟨i,hi,h⟩|⟨j,hj,_,h|h⟩|⟨i,hi,_,w,hw,h⟩|⟨t,ht,h0,_,h⟩
  ·exact .inl ⟨i,hi,h⟩
  ·exact .inr (.inl ⟨h.1,_,by omega,h.2⟩)
  ·have:=(hp.src j hj).bus
   exact .inr (.inr (.inl ⟨p.buses.toNat+j,(at' p.sources j).bus.toNat,by omega,by omega,h.1,by omega⟩))
  ·have l2:=hp.lnk i hi;have a2:=l2.a;have b2:=l2.b
   have hx':=A9 hp i
   have hw:0≤w∧w<p.buses:=by rcases hw with rfl|rfl<;>omega
   rcases h with h|h
   ·exact .inr (.inr (.inl ⟨w.toNat,p.buses.toNat+p.sources.length+i,by omega,by omega,by omega,by omega⟩))
   ·exact .inr (.inr (.inl ⟨p.buses.toNat+p.sources.length+i,w.toNat,by omega,by omega,by omega,by omega⟩))
  ·have:=JO hp hk ht
   exact .inr (.inr (.inr ⟨(fd p k t).toNat,by omega,by omega,h.2⟩))
 refine⟨fun i v h=> ?_,fun u i h=> ?_,fun u h=> ?_,fun v h=> ?_,fun i v h=> ?_⟩
 ·rcases key _ _ h with⟨j,hj,h⟩|⟨h,_⟩|⟨a,b,_,_,h,_⟩|⟨a,_,h,_⟩<;>omega
 ·rcases key _ _ h with⟨j,hj,h⟩|⟨_,b,_,h⟩|⟨a,b,_,_,_,h⟩|⟨a,_,_,h⟩<;>omega
 ·rcases key _ _ h with⟨j,hj,h⟩|⟨_,b,_,h⟩|⟨a,b,_,_,_,h⟩|⟨a,_,_,h⟩<;>omega
 ·rcases key _ _ h with⟨j,hj,h⟩|⟨_,b,hb',h⟩|⟨a,b,_,_,h,_⟩|⟨a,_,h,_⟩
  ·omega
  ·exact⟨b,hb',h⟩
  ·omega
  ·omega
 ·rcases key _ _ h with⟨j,hj,h⟩|⟨h,_⟩|⟨a,b,_,hb',_,h⟩|⟨a,_,_,h⟩
  ·omega
  ·omega
  ·exact .inr ⟨b,hb',h⟩
  ·exact .inl h
theorem VD:GI (2*(partsOf p).length+2) (fun u v=>(u,v)∈aF p s k) (lq (aF p s k)) []:=by
 have hb:=hp.b
 have hP:=dh (p:=p)
 refine⟨fun u=>P9 (VB hp hk) u,fun u=>List.nodup_nil,fun u v=> ?_,fun u v _ h=>(by cases h),List.nodup_nil,fun u v h=> ?_⟩
 ·rw [Vb]
  exact⟨.inl,fun h=>h.elim id fun h=>(by cases h)⟩
 ·rcases EN hp hk h with⟨i,hi,h⟩|⟨j,hj,_,h|h⟩|⟨i,hi,_,w,hw,h⟩|⟨t,ht,h0,_,h⟩
  ·omega
  ·omega
  ·have:=(hp.src j hj).bus
   omega
  ·have l2:=hp.lnk i hi;have a2:=l2.a;have b2:=l2.b
   have hx':=A9 hp i
   have hw:0≤w∧w<p.buses:=by rcases hw with rfl|rfl<;>omega
   rcases h with h|h<;>omega
  ·have:=JO hp hk ht
   omega
end
theorem DX {φ:Int→Int} {a:Int}: ∀{l:List Int},(∀b∈l,φ a≤φ b)→sF φ a l≤0
 |[],_=>Int.le_refl 0
 |b::l,h=>by
  have:=h b List.mem_cons_self
  have:=DX fun x hx=>h x (List.mem_cons_of_mem b hx)
  rw [sF];omega
theorem Jg {φ:Int→Int}: ∀{m:List (Int × List Int)},(∀x∈m,sF φ x.1 x.2≤0)→Ec φ m≤0
 |[],_=>Int.le_refl 0
 |(a,l)::m,h=>by
  have h1:=h _ List.mem_cons_self
  have h2:=Jg fun x hx=>h x (List.mem_cons_of_mem (a,l) hx)
  dsimp only at h1
  rw [Ec];omega
theorem Oc {φ:Int→Int} {c:Int}: ∀{m:List (Int × List Int)},(m.map (·.1)).Nodup→(∀x∈m,x.1≠c→sF φ x.1 x.2≤0)→(∀x∈m,sF φ x.1 x.2≤1)→Ec φ m≤1
 |[],_,_,_=>by show(0:Int)≤1;omega
 |(a,l)::m,hn,h,h1=>by
  rw [List.map_cons,List.nodup_cons]at hn
  have g1:=h1 _ List.mem_cons_self
  dsimp only at g1
  rw [Ec]
  by_cases e:a=c
  ·have:=Jg (φ:=φ) (m:=m) fun x hx=>h x (List.mem_cons_of_mem _ hx) fun q=>hn.1 (List.mem_map.2 ⟨x,hx,q.trans e.symm⟩)
   omega
  ·have g0:=h _ List.mem_cons_self e
   have:=Oc (c:=c) hn.2 (fun x hx=>h x (List.mem_cons_of_mem _ hx)) fun x hx=>h1 x (List.mem_cons_of_mem _ hx)
   dsimp only at g0
   omega
structure Xj (p:ah) (s s':State) (ix:Nat):Prop where
 src: ∀j,j<p.sources.length→p.buses.toNat+j≠ix→(at' p.sources j).bus.toNat≠ix→dO p s j=true→dO p s' j=true
 lnk: ∀j,j<p.links.length→p.buses.toNat+p.sources.length+j≠ix→(at' p.links j).a.toNat≠ix→(at' p.links j).b.toNat≠ix→iC p s j=true→iC p s' j=true
 live: ∀b,b<p.buses.toNat→jo p s' b→b≠ix
def Qn (p:ah) (s s':State) (ix i:Nat):Prop:=
 (i<p.buses.toNat∧jo p s' i)∨(∃j,j<p.sources.length∧i=p.buses.toNat+j∧i≠ix∧dO p s j=true)∨
 ∃j,j<p.links.length∧i=p.buses.toNat+p.sources.length+j∧i≠ix∧iC p s j=true∧(jo p s' (at' p.links j).a.toNat∨jo p s' (at' p.links j).b.toNat)
def Qp (p:ah) (s s':State) (ix:Nat) (u:Int):Prop:=u= -1∨(∃i:Nat,u=2*(i:Int)∧(i=ix∨Qn p s s' ix i))∨ ∃i:Nat,u=2*(i:Int)+1∧Qn p s s' ix i
def Fd (p:ah) (s:State) (k:Nat):Prop:= ∃t,t<2∧0≤fd p k t∧jo p s (fd p k t).toNat
section
variable {p:ah} {s s':State} (hp:VP p) {k:Nat} (hk:k<p.racks.length)
include hp hk
theorem Jz {ix:Nat} (hB:Xj p s s' ix) (hu: ¬ Fd p s' k) {u v:Int} (h:(u,v)∈aF p s k) (hc:u≠2*(ix:Int)) (hq:Qp p s s' ix u):Qp p s s' ix v:=by
 have hb:=hp.b
 have odd: ∀i:Nat,u=2*(i:Int)+1→Qn p s s' ix i:=fun i e=>by
  rcases hq with q|⟨j,q,_⟩|⟨j,q,h⟩
  ·omega
  ·omega
  ·have:j=i:=by omega
   rw [←this];exact h
 have bus: ∀i:Nat,i<p.buses.toNat→Qn p s s' ix i→jo p s' i:=fun i hi h=>by
  rcases h with h|⟨j,_,q,_⟩|⟨j,_,q,_⟩
  ·exact h.2
  ·omega
  ·omega
 rcases EN hp hk h with⟨i,hi,h1,h2⟩|⟨j,hj,hf,⟨h1,h2⟩|⟨h1,h2⟩⟩|⟨i,hi,hcb,w,hw,h⟩|⟨t,ht,h0,hbd,h1,h2⟩
 ·rcases hq with q|⟨j,q,h⟩|⟨j,q,_⟩
  ·omega
  ·have e:j=i:=by omega
   subst e
   rcases h with h|h
   ·exact absurd (h ▸ h1) hc
   ·exact .inr (.inr ⟨j,h2,h⟩)
  ·omega
 ·refine .inr (.inl ⟨_,h2, ?_⟩)
  by_cases e:p.buses.toNat+j=ix
  ·exact .inl e
  ·exact .inr (.inr (.inl ⟨j,hj,rfl,e,hf⟩))
 ·have hbu:=(hp.src j hj).bus
  have hQ:=odd _ h1
  refine .inr (.inl ⟨(at' p.sources j).bus.toNat,by omega, ?_⟩)
  by_cases e:(at' p.sources j).bus.toNat=ix
  ·exact .inl e
  ·right;left
   refine⟨by omega, ?_⟩
   have hne:p.buses.toNat+j≠ix:=by
    rcases hQ with q|⟨m,_,q,q2,_⟩|⟨m,_,q,_⟩
    ·omega
    ·exact q2
    ·omega
   have hf':=hB.src j hj hne e hf
   refine⟨?_,j,hj,hf',[], .nil⟩
   unfold dO at hf'
   simp only [Bool.and_eq_true,Bool.not_eq_true']at hf'
   exact hf'.2
 ·have l2:=hp.lnk i hi;have a2:=l2.a;have b2:=l2.b
  have hx:=A9 hp i
  have hwr:0≤w∧w<p.buses:=by rcases hw with rfl|rfl<;>omega
  rcases h with⟨h1,h2⟩|⟨h1,h2⟩
  ·have hL:=bus w.toNat (by omega) (odd w.toNat (by omega))
   refine .inr (.inl ⟨p.buses.toNat+p.sources.length+i,by omega, ?_⟩)
   by_cases e:p.buses.toNat+p.sources.length+i=ix
   ·exact .inl e
   ·refine .inr (.inr (.inr ⟨i,hi,rfl,e,hcb, ?_⟩))
    rcases hw with rfl|rfl
    ·exact .inl hL
    ·exact .inr hL
  ·have hQ:=odd (p.buses.toNat+p.sources.length+i) (by omega)
   have hQ2:p.buses.toNat+p.sources.length+i≠ix∧(jo p s' (at' p.links i).a.toNat∨jo p s' (at' p.links i).b.toNat):=by
    rcases hQ with q|⟨m,_,q,_⟩|⟨m,_,q,q2,_,q3⟩
    ·omega
    ·omega
    ·have:m=i:=by omega
     subst this;exact⟨q2,q3⟩
   obtain⟨hxi,hL⟩:=hQ2
   refine .inr (.inl ⟨w.toNat,by omega, ?_⟩)
   by_cases e:w.toNat=ix
   ·exact .inl e
   ·refine .inr (.inl ⟨by omega, ?_⟩)
    have ext: ∀x y:Nat,jo p s' x→iC p s' i=true→((at' p.links i).a.toNat=x∧(at' p.links i).b.toNat=y∨(at' p.links i).b.toNat=x∧(at' p.links i).a.toNat=y)→jo p s' y:=fun x y hl hc he=>by
     obtain⟨_,m,hm,hf,l,wk⟩:=hl
     refine⟨?_,m,hm,hf,_, .snoc wk hi hc he⟩
     unfold iC at hc
     simp only [Bool.and_eq_true,Bool.not_eq_true']at hc
     rcases he with⟨_,e⟩|⟨_,e⟩
     ·rw [←e];exact hc.2
     ·rw [←e];exact hc.1.2
    rcases hw with rfl|rfl<;>rcases hL with hL|hL
    ·exact hL
    ·exact ext _ _ hL (hB.lnk i hi hxi e (hB.live _ (by omega) hL) hcb) (.inr ⟨rfl,rfl⟩)
    ·exact ext _ _ hL (hB.lnk i hi hxi (hB.live _ (by omega) hL) e hcb) (.inl ⟨rfl,rfl⟩)
    ·exact hL
 ·have:=JO hp hk ht
  have hL:=bus (fd p k t).toNat (by omega) (odd (fd p k t).toNat (by omega))
  exact absurd ⟨t,ht,h0,hL⟩ hu
theorem Rc {ix:Nat} (hB:Xj p s s' ix) (hu: ¬ Fd p s' k) {e0 e1:List (Int × List Int)} {K:Nat} (g:GI (2*(partsOf p).length+2) (fun u v=>(u,v)∈aF p s k) e0 e1) (fl:FL K e1):K≤1:=by
 classical
 have h:=fl fun u=>if Qp p s s' ix u then 1 else 0
 have q1:Qp p s s' ix (-1):= .inl rfl
 have q2: ¬ Qp p s s' ix (-2):=fun q=>by
  rcases q with q|⟨i,q,_⟩|⟨i,q,_⟩<;>omega
 rw [if_pos q1,if_neg q2]at h
 have hst: ∀x∈e1,∀b∈x.2,(x.1,b)∈aF p s k:=fun x hx b hb=>by
  rw [←uV g.keys hx]at hb
  exact(g.base _ _).2 (.inr hb)
 have hle:=Oc (φ:=fun u=>if Qp p s s' ix u then(1:Int)else 0) (c:=2*(ix:Int)) g.keys (fun x hx hc=>DX fun b hb=>by
  by_cases c1:Qp p s s' ix x.1
  ·rw [if_pos c1,if_pos (Jz hp hk hB hu (hst x hx b hb) hc c1)];exact Int.le_refl _
  ·rw [if_neg c1];split<;>decide) (fun x hx=>by
  by_cases c:x.1=2*(ix:Int)
  ·have hl1:=OH (c:=2*(ix:Int)+1) (g.WA x hx) fun b hb=>(Oo hp hk).ev ix b (c ▸ hst x hx b hb)
   match hxx:x.2,hl1 with
   |[],_=>exact Int.zero_le_ofNat 1
   |[b],_=>rw [sF,sF];split<;>split<;>decide
  ·have:=DX (φ:=fun u=>if Qp p s s' ix u then(1:Int)else 0) (a:=x.1) (l:=x.2) fun b hb=>by
    by_cases c1:Qp p s s' ix x.1
    ·rw [if_pos c1,if_pos (Jz hp hk hB hu (hst x hx b hb) c c1)];exact Int.le_refl _
    ·rw [if_neg c1];split<;>decide
   omega)
 omega
theorem Xj.self {ix:Nat} (h:(partsOf p).length≤ix):Xj p s s ix:=by
 have hP:=dh (p:=p)
 exact⟨fun _ _ _ _ h=>h,fun _ _ _ _ _ h=>h,fun b hb _=>by omega⟩
theorem TS (hu: ¬ Fd p s k) {e0 e1:List (Int × List Int)} {K:Nat} (g:GI (2*(partsOf p).length+2) (fun u v=>(u,v)∈aF p s k) e0 e1) (fl:FL K e1):K=0:=by
 classical
 have hB:Xj p s s (partsOf p).length:=Xj.self hp hk (Nat.le_refl _)
 have h:=fl fun u=>if Qp p s s (partsOf p).length u then 1 else 0
 have q1:Qp p s s (partsOf p).length (-1):= .inl rfl
 have q2: ¬ Qp p s s (partsOf p).length (-2):=fun q=>by
  rcases q with q|⟨i,q,_⟩|⟨i,q,_⟩<;>omega
 rw [if_pos q1,if_neg q2]at h
 have hle:=Jg (φ:=fun u=>if Qp p s s (partsOf p).length u then(1:Int)else 0) (m:=e1) fun x hx=>DX fun b hb=>by
  rw [←uV g.keys hx]at hb
  have hm:=(g.base _ _).2 (.inr hb)
  have hc:x.1≠2*(((partsOf p).length:Nat):Int):=by
   have:=(g.rng _ _ hm).1;omega
  by_cases c1:Qp p s s (partsOf p).length x.1
  ·rw [if_pos c1,if_pos (Jz hp hk hB hu hm hc c1)];exact Int.le_refl _
  ·rw [if_neg c1];split<;>decide
 omega
theorem QE {e0:List (Int × List Int)} (g:GI (2*(partsOf p).length+2) (fun u v=>(u,v)∈aF p s k) e0 []) (hc:CLO e0 []): ¬ Fd p s k:=by
 have hb:=hp.b
 have hP:=dh (p:=p)
 obtain⟨V,v1,v2,v3⟩:=hc
 have st: ∀u w,(u,w)∈aF p s k→V u=true→V w=true:=fun u w hm hu=>v3 u w hu (.inl (((g.base u w).1 hm).elim id fun h=>(by cases h)))
 have mp: ∀i,i<(partsOf p).length→((2*(i:Int),2*(i:Int)+1)∈aF p s k):=fun i hi=>by
  unfold aF
  rw [List.mem_append,List.mem_append,List.mem_append]
  exact .inl (.inl (.inl (bH.2 ⟨i,hi,by simp [Cz]⟩)))
 have ms: ∀j x,j<p.sources.length→x∈uL p s j→x∈aF p s k:=fun j x hj hx=>by
  unfold aF
  rw [List.mem_append,List.mem_append,List.mem_append]
  exact .inl (.inl (.inr (bH.2 ⟨j,hj,hx⟩)))
 have ml: ∀j x,j<p.links.length→x∈rC p s j→x∈aF p s k:=fun j x hj hx=>by
  unfold aF
  rw [List.mem_append,List.mem_append,List.mem_append]
  exact .inl (.inr (bH.2 ⟨j,hj,hx⟩))
 rintro ⟨t,ht,h0,hbd,j,hj,hf,l,wk⟩
 have hbu:=(hp.src j hj).bus
 have hS:uL p s j=[(-1,2*((p.buses.toNat+j:Nat):Int)),(2*((p.buses.toNat+j:Nat):Int)+1,2*(at' p.sources j).bus)]:=by unfold uL;rw [if_pos hf]
 have a1:=st _ _ (ms j (-1,2*((p.buses.toNat+j:Nat):Int)) hj (by rw [hS];exact List.mem_cons_self)) v1
 have a2:=st _ _ (mp (p.buses.toNat+j) (by omega)) a1
 have a3:=st _ _ (ms j (2*((p.buses.toNat+j:Nat):Int)+1,2*(at' p.sources j).bus) hj (by rw [hS];exact List.mem_cons_of_mem _ List.mem_cons_self)) a2
 have walk: ∀l (b:Nat),Wk p s (at' p.sources j).bus.toNat l b→b<p.buses.toNat∧V (2*(b:Int)+1)=true:=fun l b wk=>by
  induction wk with
  |nil=>
   refine⟨by omega,st _ _ (mp _ (by omega)) ?_⟩
   rw [show(((at' p.sources j).bus.toNat:Nat):Int)=(at' p.sources j).bus by omega];exact a3
  |snoc wk' hi hc he ih=>
   rename_i l' x y i
   obtain⟨ih1,ih2⟩:=ih
   have l2:=hp.lnk i hi;have la:=l2.a;have lb:=l2.b
   have hx:=A9 hp i
   have hL:rC p s i=[(2*(at' p.links i).a+1,2*lx p i),(2*lx p i+1,2*(at' p.links i).a),(2*(at' p.links i).b+1,2*lx p i),(2*lx p i+1,2*(at' p.links i).b)]:=by unfold rC;rw [if_pos hc]
   have go: ∀q r:Int,q=(x:Int)→r=(y:Int)→r<p.buses→(2*q+1,2*lx p i)∈rC p s i→(2*lx p i+1,2*r)∈rC p s i→y<p.buses.toNat∧V (2*(y:Int)+1)=true:=fun q r e1 e2 hr m1 m2=>by
    subst e1 e2
    have b1:=st _ _ (ml i _ hi m1) ih2
    have b2:=st _ _ (mp (p.buses.toNat+p.sources.length+i) (by omega)) b1
    have b3:=st _ _ (ml i _ hi m2) b2
    exact⟨by omega,st _ _ (mp y (by omega)) b3⟩
   rcases he with⟨e1,e2⟩|⟨e1,e2⟩
   ·exact go (at' p.links i).a (at' p.links i).b (by omega) (by omega) lb.2 (by rw [hL];simp) (by rw [hL];simp)
   ·exact go (at' p.links i).b (at' p.links i).a (by omega) (by omega) la.2 (by rw [hL];simp) (by rw [hL];simp)
 obtain⟨_,w2⟩:=walk l _ wk
 have:=st (2*fd p k t+1) (-2) (by
  unfold aF
  rw [List.mem_append]
  exact .inr (bH.2 ⟨t,ht,by unfold uK;rw [if_pos ⟨h0,hbd⟩];simp⟩)) (by rw [show(((fd p k t).toNat:Nat):Int)=fd p k t by omega]at w2;exact w2)
 rw [v2]at this;cases this
end
theorem U4 {ρ:Type} (l:List Part) (hl:l.length≤100000) (pr:Part→Bool) {body:(List Part × Int × Int)→Option (aP (List Part × Int × Int) (Ex (List Part × Int) ρ))}
  (hb: ∀(o:List Part) (i j:Nat),j<l.length→o.length=l.length→i≤j→at' o j=at' l j→body (o,(i:Int),(j:Int))=some (.next (bif pr (at' l j)then(o,(i:Int),(j:Int)+1)else(o.set i (at' l j),(i:Int)+1,(j:Int)+1))))
  (he: ∀(o:List Part) (i:Int),o.length=l.length→body (o,i,(l.length:Int))=some (.done (.brk (o,i)))) {k:Nat} (hk:k<l.length) (hkb:pr l[k]=true) (hkn: ∀j (h:j<l.length),j<k→pr l[j]=false):
  ∃(o:List Part) (i:Nat),ay body FUEL (l,(k:Int),(k:Int)+1)=some (.brk (o,(i:Int)))∧i≤o.length∧o.take i=l.filter (fun x=> !pr x):=by
 obtain⟨r,hr,o,i,rfl,h1,h2⟩:=sS (body:=body) (fun q=> ∃i j:Nat,q.2.1=(i:Int)∧q.2.2=(j:Int)∧i≤j∧j≤l.length∧q.1.length=l.length∧q.1.take i=(l.take j).filter (fun x=> !pr x)∧ ∀k,j≤k→k<l.length→at' q.1 k=at' l k) (fun q=>l.length - q.2.2.toNat)
  (fun r=> ∃(o:List Part) (i:Nat),r= .brk (o,(i:Int))∧i≤o.length∧o.take i=l.filter (fun x=> !pr x)) (fun q hq=>by
   obtain⟨o,ii,jj⟩:=q
   obtain⟨i,j,hi,hj,hij,hjl,hol,ht,hk⟩:=hq
   dsimp only at hi hj hol ht hk
   subst hi hj
   by_cases hc:j<l.length
   ·refine⟨_,hb o i j hc hol hij (hk j (Nat.le_refl j) hc), ?_⟩
    cases hpr:pr (at' l j)with
    |true=>
     refine⟨⟨i,j+1,rfl,rfl,by omega,hc,hol, ?_,fun k h1 h2=>hk k (by omega) h2⟩,by simp only [cond_true];omega⟩
     rw [dF hc,List.filter_append]
     simp only [cond_true]
     rw [ht]
     simp [hpr]
    |false=>
     refine⟨⟨i+1,j+1,rfl,rfl,by omega,hc,by simp only [cond_false,List.length_set];exact hol, ?_,fun k h1 h2=> ?_⟩,by simp only [cond_false];omega⟩
     ·simp only [cond_false]
      rw [dF (by rw [List.length_set];omega),dF hc,List.filter_append,bP (by omega),List.take_set_of_le (Nat.le_refl i),ht]
      simp [hpr]
     ·simp only [cond_false]
      rw [bC (by omega)]
      exact hk k (by omega) h2
   ·have:j=l.length:=by omega
    subst this
    exact⟨_,he o i hol,o,i,rfl,by omega,by rw [ht,List.take_length]⟩) FUEL (l,(k:Int),(k:Int)+1) ⟨k,k+1,rfl,rfl,by omega,hk,rfl,by
    dsimp only
    rw [dF hk,List.filter_append,dX hk]
    simp only [List.filter_cons,hkb,Bool.not_true,List.filter_nil,Bool.false_eq_true,if_false,List.append_nil]
    symm
    rw [List.filter_eq_self]
    intro x hxm
    obtain⟨m,hm,e⟩:=List.mem_take_iff_getElem.1 hxm
    have:=hkn m (by omega) (by omega)
    rw [e]at this
    rw [this];rfl,fun _ _ _=>rfl⟩ (fuel_lt (by dsimp only;omega))
 exact⟨o,i,hr,h1,h2⟩
section
variable {p:ah} {s:State} (hp:VP p) (hs:VS p s) {k:Nat} (hk:k<p.racks.length)
include hp hs hk
theorem BR:kV p s k=true↔Fd p s k:=by
 have hr:=hp.rck k hk;have r0:=hr.e0;have r1:=hr.e1
 unfold kV Dz
 rw [Bool.or_eq_true]
 dsimp only
 constructor
 ·rintro (h|h)
  ·exact⟨0,by omega,r0.1,(pV hp hs (b:=(at' p.racks k).feeds.e0.toNat) (by omega)).1 h⟩
  ·by_cases h0:0≤(at' p.racks k).feeds.e1
   ·rw [decide_eq_true h0,cond_true]at h
    exact⟨1,by omega,h0,(pV hp hs (b:=(at' p.racks k).feeds.e1.toNat) (by omega)).1 h⟩
   ·rw [decide_eq_false h0,cond_false]at h;cases h
 ·rintro ⟨t,ht,h0,hL⟩
  match t,ht with
  |0,_=>exact .inl ((pV hp hs (b:=(at' p.racks k).feeds.e0.toNat) (by omega)).2 hL)
  |1,_=>
   have h0:0≤(at' p.racks k).feeds.e1:=h0
   rw [decide_eq_true h0,cond_true]
   exact .inr ((pV hp hs (b:=(at' p.racks k).feeds.e1.toNat) (by omega)).2 hL)
omit hk in
theorem Ua {x:Part} (hx:lZ p x): ∃ix,Xj p s (di s x true) ix:=by
 have hb:=hp.b
 have h7:=hs.badBus;have h3:=hs.badLink;have h5:=hs.badSource
 obtain⟨c,j⟩:=x
 obtain⟨h0,h⟩:=hx
 dsimp only at h0 h
 rcases h with⟨rfl,hj⟩|⟨rfl,hj⟩|⟨rfl,hj⟩
 ·have e:di s ⟨1,j⟩ true=⟨s.closed,s.locked,s.badLink,s.on_,s.badSource,s.earthed,s.badBus.set j.toNat true⟩:=by unfold di;rw [if_pos rfl]
  rw [e]
  refine⟨j.toNat,fun m hm _ h2 hf=> ?_,fun m hm _ h2 h3 hc=> ?_,fun b hb' hl q=> ?_⟩
  ·unfold dO at hf ⊢
   dsimp only
   rw [bC (Ne.symm h2)];exact hf
  ·unfold iC at hc ⊢
   dsimp only
   rw [bC (Ne.symm h2),bC (Ne.symm h3)];exact hc
  ·subst q
   have:=hl.1
   dsimp only at this
   rw [bP (by omega)]at this;cases this
 ·have e:di s ⟨2,j⟩ true=⟨s.closed,s.locked,s.badLink,s.on_,s.badSource.set j.toNat true,s.earthed,s.badBus⟩:=by unfold di;rw [if_neg (show ¬ (2:Int)=1 by decide),if_pos rfl]
  rw [e]
  refine⟨p.buses.toNat+j.toNat,fun m hm h1 _ hf=> ?_,fun m hm _ _ _ hc=>hc,fun b hb' hl q=>by omega⟩
  unfold dO at hf ⊢
  dsimp only
  rw [bC (by omega)];exact hf
 ·have e:di s ⟨3,j⟩ true=⟨s.closed,s.locked,s.badLink.set j.toNat true,s.on_,s.badSource,s.earthed,s.badBus⟩:=by unfold di;rw [if_neg (show ¬ (3:Int)=1 by decide),if_neg (show ¬ (3:Int)=2 by decide)]
  rw [e]
  refine⟨p.buses.toNat+p.sources.length+j.toNat,fun m hm _ _ hf=>hf,fun m hm h1 _ _ hc=> ?_,fun b hb' hl q=>by omega⟩
  unfold iC at hc ⊢
  dsimp only
  rw [bC (by omega)];exact hc
theorem FP:jy p s (k:Int)=some 0:=by
 unfold jy
 rw [lK p s hp.small,iM.mpr ⟨hp,hs⟩,Option.bind_some,decide_eq_true rfl,Bool.not_true,cond_false,decide_eq_false (by omega),cond_false,decide_eq_false (by omega),cond_false]
theorem JA: ∃K:Nat,fZ p s (k:Int)=some ((K:Int),0)∧(K=0↔kV p s k=false)∧(K=2→ ∀x,lZ p x→kV p (di s x true) k=true):=by
 have hP:=dh (p:=p);have hb:=hp.b;have hsl:=hp.sl;have hll:=hp.ll
 obtain⟨e0,e1,K,W,h1,h2,h3,_,h5,h6,h7,h8⟩:=J8 (ps:=partsOf p) rfl (by omega) (Oo hp hk) rfl (VD (s:=s) hp hk)
 refine⟨K, ?_,⟨fun h=> ?_,fun h=> ?_⟩,fun h x hx=> ?_⟩
 ·unfold fZ xA
  rw [FP hp hs hk,Option.bind_some,decide_eq_true rfl,Bool.not_true,cond_false,NW hp hs hk,Option.bind_some]
  dsimp only
  rw [h1,Option.bind_some]
  dsimp only
  rw [h7,Option.bind_some,Option.bind_some,h8]
 ·have hc:=h6 (by omega)
  have he:=h5 h
  subst he
  have:=QE hp hk h2 hc
  cases hf:kV p s k with
  |false=>rfl
  |true=>exact absurd ((BR hp hs hk).1 hf) this
 ·exact TS hp hk (fun q=>by rw [(BR hp hs hk).2 q]at h;cases h) h2 h3
 ·cases hf:kV p (di s x true) k with
  |true=>rfl
  |false=>
   obtain⟨ix,hB⟩:=Ua hp hs hx
   have:=Rc hp hk hB (fun q=>by rw [(BR hp (VS.di hs x true) hk).2 q]at hf;cases hf) h2 h3
   omega
def Fe (p:ah) (s:State) (k:Nat):List Part:=(bE p s).filter fun x=> !kV p (di s x true) k
theorem Lr {x:Part} (hx:lZ p x):iU x p.buses p.sources p.links p.racks s.closed s.locked s.badLink s.on_ s.badSource s.earthed s.badBus (k:Int)=some (kV p (di s x true) k):=by
 unfold iU oq
 have h1:=Ih hp hs hx true
 have h1:kP ⟨p.buses,p.sources,p.links,p.racks⟩ ⟨s.closed,s.locked,s.badLink,s.on_,s.badSource,s.earthed,s.badBus⟩ x true=_:=h1
 rw [h1,Option.bind_some,Option.bind_some]
 have h2:=yc hp (VS.di hs x true) hk
 have h2:jD ⟨p.buses,p.sources,p.links,p.racks⟩ (di s x true) (k:Int)=_:=h2
 dsimp only
 rw [h2];rfl
theorem Ka:dW p s (k:Int)=some (bif kV p s k then Fe p s k else [],0):=by
 have h72:=oO (s:=s) hp
 unfold dW
 rw [FP hp hs hk,Option.bind_some,decide_eq_true rfl,Bool.not_true,cond_false,yc hp hs hk,Option.bind_some]
 cases kV p s k with
 |false=>rfl
 |true=>
  rw [Bool.not_true,cond_false,FV hp hs,Option.bind_some,cond_true]
  have hi: ∀x∈bE p s,lZ p x:=fun x hx=>nC hp hx
  have key:iJ (bE p s) p.buses p.sources p.links p.racks s.closed s.locked s.badLink s.on_ s.badSource s.earthed s.badBus (k:Int)=some (Fe p s k):=by
   unfold Fe
   generalize bE p s=l at h72 hi
   unfold iJ
   have hidx:gL l p.buses p.sources p.links p.racks s.closed s.locked s.badLink s.on_ s.badSource s.earthed s.badBus (k:Int)=some (match l.findIdx? (fun x=>kV p (di s x true) k)with|some i=>(i:Int)|none=> -1):=by
    unfold gL
    rw [jO l (fun x=>kV p (di s x true) k) id (by omega) (fun i hil=> ?_) ?_]
    ·cases l.findIdx? (fun x=>kV p (di s x true) k)<;>rfl
    ·unfold iI
     rw [jm (by omega)];rfl
    ·unfold iI
     rw [Int.toNat_natCast,Lr hp hs hk (hi _ (at_mem hil))]
     exact mE hil (by omega) _ id _
   rw [hidx,Option.bind_some]
   cases h:l.findIdx? (fun x=>kV p (di s x true) k)with
   |none=>
    dsimp only
    rw [decide_eq_true rfl,cond_true]
    congr 1
    symm
    rw [List.filter_eq_self]
    intro x hxm
    have:=List.findIdx?_eq_none_iff.1 h x hxm
    rw [this];rfl
   |some m=>
    obtain⟨hm,hmb,hmn⟩:=List.findIdx?_eq_some_iff_getElem.1 h
    dsimp only
    rw [decide_eq_false (by omega),cond_false,wr (by omega)]
    obtain⟨o,i,hr,h1,h3⟩:=U4 l (by omega) (fun x=>kV p (di s x true) k) (body:=fJ p.buses p.sources p.links p.racks s.closed s.locked s.badLink s.on_ s.badSource s.earthed s.badBus (k:Int)) (fun o i j hj hol hij hat=>by
     unfold fJ
     dsimp only
     rw [rD (by omega),cond_true,ai ⟨by omega,by omega⟩,Int.toNat_natCast,hat,Lr hp hs hk (hi _ (at_mem hj)),Option.bind_some,ai ⟨by omega,by omega⟩,wr (by omega),wr (by omega),Int.toNat_natCast]
     cases kV p (di s (at' l j) true) k<;>rfl) (fun o i hol=>by
     unfold fJ
     dsimp only
     rw [jm (by omega)];rfl) hm hmb (fun j hj hjm=>by have:=hmn j hjm;simpa using this)
    rw [hr,Option.bind_some]
    dsimp only
    have hc:=AY o i (⟨0,0⟩:Part)
    rw [ai ⟨by omega,by omega⟩,Int.toNat_natCast,ai ⟨by omega,by omega⟩,Ie,h3]
  rw [key];rfl
end
def Xk (x y:Part):Bool:=(decide (x.kind=y.kind)) && ((decide (x.index=y.index)) && true)
theorem U0 {x y:Part}:Xk x y=true↔x=y:=by
 obtain⟨a,b⟩:=x;obtain⟨c,d⟩:=y
 simp [Xk]
theorem QT (R:List aO) (C:List Part) (c:Bool) (i:Nat) (hi:i<R.length) (hR:R.length≤100000) (hC:C.length≤1000):ay (fE (R,0) (i:Int) (C,0)) FUEL (c,0)=some (.brk (c||(List.range C.length).any fun j=>Xk (at' C j) (at' R i).part)):=by
 have key:=aR (body:=fE (R,0) (i:Int) (C,0)) (fun j=>(c||(List.range j).any fun j=>Xk (at' C j) (at' R i).part,(j:Int))) C.length (.brk (c||(List.range C.length).any fun j=>Xk (at' C j) (at' R i).part)) (fuel_lt (by omega)) (fun j hj=> ?_) ?_
 ·rw [show(c||(List.range 0).any fun j=>Xk (at' C j) (at' R i).part)=c by simp]at key
  exact key
 ·unfold fE
  dsimp only
  rw [rD (by omega),cond_true,ai ⟨fun _=>by omega,fun _=>by omega⟩,Int.toNat_natCast,Int.toNat_natCast,wr (by omega),xw,List.range_succ,List.any_append]
  simp only [List.any_cons,List.any_nil,Bool.or_false]
  rw [←Bool.or_assoc]
  rfl
 ·unfold fE
  dsimp only
  rw [jm (by omega)];rfl
section
variable {p:ah} {s:State} {l:List Transfer} (hp:VP p) (hs:VS p s) (hl:l.length≤16) (hx: ∀x∈l,Gz p x)
include hp hs hx
theorem LC {x:Part} {k:Nat} (hk:k<p.racks.length) (h:kV p (di s x true) k=true):kV p (E9 p s l [x]) k=true:=by
 have hv:=VS.di hs x true
 have hb:=hp.b
 have g:=(KT hp hx hv).1
 have ha:=IX (l:=l) hp hs hx [x]
 obtain⟨t,ht,h0,hL⟩:=(BR hp hv hk).1 h
 have hr:=JO hp hk ht
 exact(BR hp ha hk).2 ⟨t,ht,h0,g.live _ (by omega) hL⟩
theorem Rp {b:aO} {n:Nat} (hn:n≤p.racks.length) (h:b∈bK (Dp p s l) n): ∃k,k<p.racks.length∧b.rack=(k:Int)∧0<(at' p.racks k).paths∧((kV p s k=false∧b.part.kind=0)∨(kV p s k=true∧b.part.kind≠0∧b.part∈Fe p s k)):=by
 obtain⟨k,hk,h⟩:=bH.1 h
 have hk':k<p.racks.length:=by omega
 unfold Dp at h
 refine⟨k,hk', ?_⟩
 cases h1:decide (0<(at' p.racks k).paths) && !kV p s k with
 |true=>
  rw [h1,cond_true,List.mem_singleton]at h
  subst h
  simp only [Bool.and_eq_true,Bool.not_eq_true',decide_eq_true_eq]at h1
  exact⟨rfl,h1.1, .inl ⟨h1.2,rfl⟩⟩
 |false=>
  rw [h1,cond_false]at h
  by_cases h2:(at' p.racks k).paths<2
  ·rw [decide_eq_true h2]at h;cases h
  ·rw [decide_eq_false h2,cond_false]at h
   obtain⟨x,hxm,rfl⟩:=List.mem_map.1 h
   obtain⟨hxs,hxf⟩:=List.mem_filter.1 hxm
   have h3:0<(at' p.racks k).paths:=by omega
   rw [decide_eq_true h3]at h1
   refine⟨rfl,h3, .inr ⟨by simpa using h1, ?_,List.mem_filter.2 ⟨hxs, ?_⟩⟩⟩
   ·rcases(nC hp hxs).2 with q|q|q
    all_goals (dsimp only;omega)
   ·cases hf:kV p (di s x true) k with
    |false=>rfl
    |true=>rw [LC hp hs hx hk' hf]at hxf;cases hxf
theorem Hw:ay (fo p s (bK (Dp p s l) p.racks.length,0)) FUEL 0=some (.brk ()):=by
 have hrl:=hp.rl
 have hlen:=F6 (s:=s) (l:=l) hp p.racks.length (by omega)
 refine Ke (bK (Dp p s l) p.racks.length) (by omega) (fun i hi=> ?_) ?_
 ·obtain⟨k,hk,hr,hpa,hc⟩:=Rp hp hs hx (Nat.le_refl _) (at_mem hi)
  obtain⟨K,hS,hK0,hK2⟩:=JA hp hs hk
  have h4:=fun C c (hC:C.length≤1000)=>QT (bK (Dp p s l) p.racks.length) C c i hi (by omega) hC
  generalize bK (Dp p s l) p.racks.length=R at*
  have hii:(0:Int)≤(i:Int)∧(i:Int)<(R.length:Int):=⟨by omega,by omega⟩
  unfold fo
  dsimp only
  rw [rD (by omega),cond_true,Int.toNat_natCast,hr,Int.toNat_natCast,ai ⟨hii,fun _=>hii,fun _=>hii,fun _=> ⟨by omega,by omega⟩⟩,decide_eq_false (by omega),cond_false,decide_eq_false (by omega),cond_false,decide_eq_false (by omega),cond_false,hS,Option.bind_some,ai hii,Ka hp hs hk,Option.bind_some,ai hii,ai (fun _=>hii),wr (by omega)]
  dsimp only
  have h72:(Fe p s k).length≤1000:=Nat.le_trans (List.length_filter_le _ _) (by have:=oO (s:=s) hp;omega)
  rcases hc with⟨hf,hkd⟩|⟨hf,hkd,hm⟩
  ·have hK:=hK0.2 hf
   subst hK
   rw [hf,hkd,cond_false,h4 _ _ (by simp)]
   rfl
  ·have hK:K≠0:=fun e=>by rw [hK0.1 e]at hf;cases hf
   obtain⟨hm1,hm2⟩:=List.mem_filter.1 hm
   have hK2:K≠2:=fun e=>by rw [hK2 e _ (nC hp hm1)]at hm2;cases hm2
   rw [hf,cond_true,h4 _ _ h72,decide_eq_true rfl,decide_eq_false (show ¬ (K:Int)=2 by omega),decide_eq_false (show ¬ (K:Int)=0 by omega),decide_eq_false hkd]
   have:((List.range (Fe p s k).length).any fun j=>Xk (at' (Fe p s k) j) (at' R i).part)=true:=by
    obtain⟨j,hj,e⟩:=fU hm
    exact List.any_eq_true.2 ⟨j,List.mem_range.2 hj,U0.2 e⟩
   rw [this]
   rfl
 ·unfold fo
  dsimp only
  rw [jm (by omega)];rfl
include hl
theorem Hf:ay (fB p s l (TR p s l false,0)) FUEL 0=some (.brk ()):=by
 obtain⟨hw,_⟩:=Vq hp hs hl hx false
 have hmem: ∀y∈TR p s l false,∃x,y=[x]∧lZ p x∧D5 p s l [x]=true:=fun y hy=>by
  unfold TR at hy
  rw [cond_false,List.append_nil]at hy
  unfold FN at hy
  obtain⟨x,hxm,rfl⟩:=List.mem_map.1 hy
  obtain⟨h1,h2⟩:=List.mem_filter.1 hxm
  exact⟨x,rfl,nC hp h1,h2⟩
 generalize TR p s l false=R at hw hmem
 refine Ke R (by omega) (fun i hi=> ?_) ?_
 ·obtain⟨x,hy,hxi,hwk⟩:=hmem _ (at_mem hi)
  have hii:(0:Int)≤(i:Int)∧(i:Int)<(R.length:Int):=⟨by omega,by omega⟩
  unfold fB
  dsimp only
  rw [rD (by omega),cond_true,Int.toNat_natCast,hy,(OC hp hs hl hx (by simp) (fun z hz=>by rw [List.mem_singleton]at hz;subst hz;exact hxi)).1,Option.bind_some,ai hii,ai (fun _=>hii),wr (by omega)]
  unfold D5 at hwk
  have:0<((Td p s l [x]).length:Int):=of_decide_eq_true hwk
  dsimp only
  rw [decide_eq_false (show ¬ ((Td p s l [x]).length:Int)=0 by omega)]
  rfl
 ·unfold fB
  dsimp only
  rw [jm (by omega)];rfl
end
theorem RY {α:Type} [Inhabited α] {l:List α} {x:α} {n:Nat} (hn:n≤l.length) (h:x∈ve l 0 n):x∈l:=by
 unfold ve at h
 obtain⟨i,hi,rfl⟩:=List.mem_map.1 h
 have:=List.mem_range.1 hi
 exact at_mem (by omega)
theorem SE {α:Type} [Inhabited α] (l:List α) (a n:Nat):(ve l a n).length=n:=by unfold ve;simp
theorem Cw (p:ah) (s:State) (l:List Transfer) (hp:Small p):jY p s l=some true:=by
 unfold jY
 cases hB:(bif (bif (bif (bif (decide (60<(p.sources.length:Int)))then true else(decide (20<(p.links.length:Int))))then true else(decide (60<(p.racks.length:Int))))then true else(decide (12<p.buses)))then true else(decide (60<(l.length:Int))))with
 |true=>simp [gB,Eb]
 |false=>
  have hl:l.length≤60:=by
   by_cases h:60<(l.length:Int)
   ·rw [decide_eq_true h,xw,Bool.or_true]at hB;cases hB
   ·omega
  rw [show gB [(false,false)]=true from rfl,cond_true,lK p s hp,Option.bind_some,cond_false]
  by_cases h0:pY p s=0
  ·obtain⟨hv,hs⟩:=iM.mp h0
   obtain⟨o,ho,ho1,ho2⟩:=SG hv hs l (by omega)
   rw [h0,decide_eq_true rfl,Bool.not_true,cond_false,ho,Option.bind_some]
   by_cases h6:6<(o.length:Int)
   ·have c1:=SE o 0 6
    have c2: ∀x∈ve o 0 6,Gz p x:=fun x hx=>ho2 x (RY (by omega) hx)
    rw [decide_eq_true h6,cond_true,ai ⟨by decide,by omega⟩,(FM hv hs (by omega) c2).1,Option.bind_some]
    dsimp only
    rw [decide_eq_true rfl,Bool.not_true,cond_false,show oW=fo from rfl,Hw hv hs c2,Option.bind_some]
    dsimp only
    rw [OG hv hs (by omega) c2,Option.bind_some]
    dsimp only
    rw [decide_eq_true rfl,Bool.not_true,cond_false,show pQ p s o (TR p s (ve o 0 6) false,0)=fB p s (ve o 0 6) (TR p s (ve o 0 6) false,0)from rfl,Hf hv hs (by omega) c2,Option.bind_some]
    dsimp only
    rw [Eb];rfl
   ·rw [decide_eq_false h6,cond_false,(FM hv hs ho1 ho2).1,Option.bind_some]
    dsimp only
    rw [decide_eq_true rfl,Bool.not_true,cond_false,Hw hv hs ho2,Option.bind_some]
    dsimp only
    rw [OG hv hs ho1 ho2,Option.bind_some]
    dsimp only
    rw [decide_eq_true rfl,Bool.not_true,cond_false,Hf hv hs ho1 ho2,Option.bind_some]
    dsimp only
    rw [Eb];rfl
  ·rw [decide_eq_false h0,Bool.not_false,cond_true,Eb];rfl
end Sg
