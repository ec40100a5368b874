import Derived.Test.YtolddefbejdanaaDoorWaLc
import Derived.Test.YtolddefbejdanaaDoorWaGm
import Derived.KernelRfl
set_option linter.all false
namespace Sg
open Go
theorem wr {x:Int} (h: -9223372036854775808≤x∧x≤9223372036854775807):IntKind.wrap .i64 x=x:=by rw [IntKind.wrap_i64];omega
theorem lC {σ ρ:Type} {body:σ→Option (bS σ ρ)}: ∀{n m:Nat} {s:σ} {r:ρ},aL body n s=some r→n≤m→aL body m s=some r
 |0,_,_,_,h,_=>by cases h
 |n+1,0,_,_,_,hm=>by omega
 |n+1,m+1,s,r,h,hm=>by
  rw [dA]at h ⊢
  revert h
  cases body s with
  |none=>exact id
  |some f=>
   cases f with
   |next s'=>exact fun h=>lC h (by omega)
   |done r=>exact id
theorem CG {σ ρ:Type} {body:σ→Option (bS σ ρ)} (S:Nat→σ) (k:Nat) (hs: ∀i,i<k→body (S i)=some (.next (S (i+1)))): ∀(m:Nat),aL body (k+m) (S 0)=aL body m (S k):=by
 induction k with
 |zero=>intro m;simp
 |succ k ih=>
  intro m
  have:=ih (fun i hi=>hs i (by omega)) (m+1)
  rw [show k+1+m=k+(m+1) by omega,this,dA,hs k (by omega)]
theorem bJ {σ ρ:Type} {body:σ→Option (bS σ ρ)} {N:Nat} (S:Nat→σ) (k:Nat) (r:ρ) (hk:k<N) (hs: ∀i,i<k→body (S i)=some (.next (S (i+1)))) (hd:body (S k)=some (.done r)):aL body N (S 0)=some r:=by
 have h:=CG S k hs 1
 have h1:aL body 1 (S k)=some r:=by rw [dA,hd]
 exact lC (h.trans h1) (by omega)
theorem fuel_lt {k:Nat} (h:k≤9223372036854775807):k<FUEL:=by unfold FUEL;omega
section
variable {α:Type} [Inhabited α]
theorem dY {l:List α} {i:Nat} (h:i<l.length):at' l i=l[i]:=by simp [at',h]
theorem at_mem {l:List α} {i:Nat} (h:i<l.length):at' l i∈l:=by rw [dY h];exact List.getElem_mem h
theorem eY {l:List α} {x:α} (h:x∈l): ∃i,i<l.length∧at' l i=x:=by
 obtain⟨i,hi,e⟩:=List.mem_iff_getElem.mp h
 exact⟨i,hi,by rw [dY hi];exact e⟩
theorem xN {l m:List α} (hl:l.length=m.length) (h: ∀i,i<l.length→at' l i=at' m i):l=m:=by
 apply List.ext_getElem hl
 intro i h1 h2
 have:=h i h1
 rwa [dY h1,dY h2]at this
theorem jD {l:List α} {i:Nat} (h:i<l.length):l.take (i+1)=l.take i++[at' l i]:=by
 rw [dY h,List.take_succ_eq_append_getElem h]
theorem rH {ρ:Type} {body:Int→Option (bS Int (Ex Unit ρ))} (l:List α) (bad:α→Bool) (f:Int→ρ) (hl:l.length≤9223372036854775807)
  (hb: ∀i:Nat,i<l.length→body i=some (bif bad (at' l i)then .done (.ret (f i))else .next ((i:Int)+1))) (he:body l.length=some (.done (.brk ()))):
  aL body FUEL 0=some (match l.findIdx? bad with|some i=> .ret (f i)|none=> .brk ()):=by
 cases h:l.findIdx? bad with
 |none=>
  rw [List.findIdx?_eq_none_iff]at h
  refine bJ (fun i=>(i:Int)) l.length _ (fuel_lt (by omega)) (fun i hi=> ?_) he
  rw [hb i hi,h _ (at_mem hi)];simp
 |some k=>
  rw [List.findIdx?_eq_some_iff_getElem]at h
  obtain⟨hk,hp,hn⟩:=h
  refine bJ (fun i=>(i:Int)) k _ (fuel_lt (by omega)) (fun i hi=> ?_) ?_
  ·have:=hn i hi
   rw [hb i (by omega),dY (by omega)]
   simp [this]
  ·rw [hb k hk,dY hk,hp];rfl
omit [Inhabited α]in
theorem qc (l:List α) (bad:α→Bool):(decide ((0:Int)≤(match l.findIdx? bad with|some i=>(i:Int)|none=> -1)))=l.any bad:=by
 cases h:l.findIdx? bad with
 |none=>
  rw [List.findIdx?_eq_none_iff]at h
  have:l.any bad=false:=by rw [List.any_eq_false];intro x hx;simp [h x hx]
  rw [this];simp
 |some k=>
  rw [List.findIdx?_eq_some_iff_getElem]at h
  obtain⟨hk,hp,hn⟩:=h
  have:l.any bad=true:=by rw [List.any_eq_true];exact⟨_,List.getElem_mem hk,hp⟩
  rw [this];simp
end
section
variable {α:Type}
theorem Bg {a b:Int}:bB a b=true↔a=b:=by simp [bB]
theorem xC (a:Int):bB a a=true:=Bg.mpr rfl
theorem Eg {a b:Int} (h:a≠b):bB a b=false:=by cases e:bB a b with|false=>rfl|true=>exact absurd (Bg.mp e) h
theorem eu (k:Int) (v:α): ∀l:List (Int × α),aJ bB k (dS bB k v l)=some v
 |[]=>by simp [dS,aJ,xC]
 |(k',v')::l=>by
  unfold dS
  cases e:bB k k' with
  |true=>simp [aJ,xC]
  |false=>simp only [cond_false,aJ,e];exact eu k v l
theorem gu {k j:Int} (h:j≠k) (v:α): ∀l:List (Int × α),aJ bB j (dS bB k v l)=aJ bB j l
 |[]=>by simp [dS,aJ,Eg h]
 |(k',v')::l=>by
  unfold dS
  cases e:bB k k' with
  |true=>
   have:k=k':=Bg.mp e
   subst this
   simp [aJ,Eg h]
  |false=>simp only [cond_false,aJ,gu h v l]
end
theorem Cf {α:Type} (c:Bool) (x y:α):(bif c then some x else some y)=some (bif c then x else y):=by cases c<;>rfl
theorem mg {ρ:Type} {body:Int→Option (bS Int (Ex Unit ρ))} (n:Nat) (bad:Nat→Bool) (f:Int→ρ) (hl:n≤9223372036854775807)
  (hb: ∀i:Nat,i<n→body i=some (bif bad i then .done (.ret (f i))else .next ((i:Int)+1))) (he:body n=some (.done (.brk ()))):
  aL body FUEL 0=some (match(List.range n).find? bad with|some i=> .ret (f i)|none=> .brk ()):=by
 cases h:(List.range n).find? bad with
 |none=>
  rw [List.find?_eq_none]at h
  refine bJ (fun i=>(i:Int)) n _ (fuel_lt (by omega)) (fun i hi=> ?_) he
  rw [hb i hi]
  have:=h i (List.mem_range.mpr hi)
  simp at this;simp [this]
 |some k=>
  rw [List.find?_range_eq_some]at h
  obtain⟨hp,hk,hn⟩:=h
  rw [List.mem_range]at hk
  refine bJ (fun i=>(i:Int)) k _ (fuel_lt (by omega)) (fun i hi=> ?_) ?_
  ·have:=hn i hi
   rw [hb i (by omega)]
   simp at this;simp [this]
  ·rw [hb k hk,hp];rfl
theorem uM {α:Type} (p:α→Bool): ∀l:List α,(l.find? p).isSome=l.any p
 |[]=>rfl
 |x::l=>by
  rw [List.any_cons,List.find?_cons]
  cases h:p x with
  |true=>simp
  |false=>simpa using uM p l
def wi (n a b:Int):Bool:=decide (a≤n) && decide (n≤b)
theorem vJ {n a b:Int}:wi n a b=true↔a≤n∧n≤b:=by simp [wi]
theorem mU (n a b:Int):aF n a b=some (wi n a b):=by
 unfold aF wi;cases decide (a≤n)<;>rfl
def lV (b:Int) (x:Source):Bool:=wi x.bus 0 (b - 1) && wi x.kind 1 3 && wi x.power 1 100000 && wi x.sync 0 8 && wi x.ohm 10 100000
theorem F4 {b:Int} (hb:1≤b∧b≤24) (x:Source) (l1:List Source) (l2:List Link) (l3:List aO):iG x b l1 l2 l3=some (lV b x):=by
 unfold iG lV
 simp only [mU,Option.bind_some]
 rw [wr (by omega)]
 generalize wi x.bus 0 (b - 1)=b1
 generalize wi x.kind 1 3=b2
 generalize wi x.power 1 100000=b3
 generalize wi x.sync 0 8=b4
 generalize wi x.ohm 10 100000=b5
 cases b1<;>cases b2<;>cases b3<;>cases b4<;>cases b5<;>rfl
def lS (l:List dR) (i:Nat):Bool:=
 !wi (at' l i).amps 1 1000000|| !wi (at' l i).millis 1 100000||(decide (0<i) && (decide ((at' l i).amps≤(at' l (i - 1)).amps)||decide ((at' l (i - 1)).millis≤(at' l i).millis)))
def jG (b:Int) (x:Link):Bool:=
 wi x.a 0 (b - 1) && wi x.b 0 (b - 1) && !decide (x.a=x.b) && wi x.kind 1 3 && wi x.most 1 100000 && wi x.ohm 10 100000 && !(List.range x.trip.length).any (lS x.trip) && decide ((x.trip.length:Int)≤6) && (decide ((x.trip.length:Int)=0)||decide (x.kind=3))
theorem KL {α:Type} [Inhabited α] (l:List α) (i:Nat) (h:0<i):at' l (((i:Int) - 1).toNat)=at' l (i - 1):=by
 congr 1;omega
theorem KT (x:Link) (hx:x.trip.length≤9223372036854775807):aL (gY x) FUEL 0=some (match(List.range x.trip.length).find? (lS x.trip)with|some _=> .ret false|none=> .brk ()):=by
 refine mg x.trip.length (lS x.trip) (fun _=>false) hx (fun i hi=> ?_) ?_
 ·unfold gY
  have h1:decide ((i:Int)<(x.trip.length:Int))=true:=by simp;omega
  rw [h1,cond_true,aK (by omega)]
  simp only [mU,Option.bind_some,Int.toNat_natCast]
  rw [wr (x:=(i:Int) - 1) (by omega),wr (x:=(i:Int)+1) (by omega)]
  unfold lS
  by_cases h0:0<i
  ·rw [KL _ _ h0]
   simp only [h0,Int.natCast_pos,decide_true]
   generalize wi (at' x.trip i).amps 1 1000000=b1
   generalize wi (at' x.trip i).millis 1 100000=b2
   generalize decide ((at' x.trip i).amps≤(at' x.trip (i - 1)).amps)=b3
   generalize decide ((at' x.trip (i - 1)).millis≤(at' x.trip i).millis)=b4
   cases b1<;>cases b2<;>cases b3<;>cases b4<;>simp [gB,dQ]<;>omega
  ·have:i=0:=by omega
   subst this
   generalize wi (at' x.trip 0).amps 1 1000000=b1
   generalize wi (at' x.trip 0).millis 1 100000=b2
   cases b1<;>cases b2<;>simp [gB,dQ]
 ·unfold gY
  have h1:decide ((x.trip.length:Int)<(x.trip.length:Int))=false:=by simp
  rw [h1];rfl
theorem KI {b:Int} (hb:1≤b∧b≤24) (x:Link) (hx:x.trip.length≤9223372036854775807) (l1:List Source) (l2:List Link) (l3:List aO):jI x b l1 l2 l3=some (jG b x):=by
 unfold jI jG
 simp only [mU,Option.bind_some]
 rw [wr (by omega),KT x hx]
 generalize wi x.a 0 (b - 1)=b1
 generalize wi x.b 0 (b - 1)=b2
 generalize decide (x.a=x.b)=b3
 generalize wi x.kind 1 3=b4
 generalize wi x.most 1 100000=b5
 generalize wi x.ohm 10 100000=b6
 have:(List.range x.trip.length).any (lS x.trip)=((List.range x.trip.length).find? (lS x.trip)).isSome:=(uM _ _).symm
 rw [this]
 cases b1<;>cases b2<;>cases b3<;>cases b4<;>cases b5<;>cases b6<;>try rfl
 cases(List.range x.trip.length).find? (lS x.trip)with
 |some k=>simp [gB]
 |none=>
  simp only [gB,Option.bind_some,Option.isSome_none]
  generalize decide ((x.trip.length:Int)≤6)=c1
  generalize decide ((x.trip.length:Int)=0)=c2
  generalize decide (x.kind=3)=c3
  cases c1<;>cases c2<;>cases c3<;>rfl
def qo (x:aO):Int:=if x.feeds.e1= -1 then 1 else 2
def jL (b:Int) (x:aO):Bool:=wi x.feeds.e0 0 (b - 1) && wi x.feeds.e1 (-1) (b - 1) && !decide (x.feeds.e0=x.feeds.e1) && wi x.power 1 100000 && wi x.paths 0 (qo x)
theorem H8 (x:aO):j4 x=some (qo x):=by
 unfold j4 qo
 by_cases h:x.feeds.e1= -1<;>simp [h]
theorem KJ {b:Int} (hb:1≤b∧b≤24) (x:aO) (l1:List Source) (l2:List Link) (l3:List aO):jl x b l1 l2 l3=some (jL b x):=by
 unfold jl jL
 simp only [mU,Option.bind_some,H8]
 rw [wr (by omega)]
 generalize wi x.feeds.e0 0 (b - 1)=b1
 generalize wi x.feeds.e1 (-1) (b - 1)=b2
 generalize decide (x.feeds.e0=x.feeds.e1)=b3
 generalize hb4:wi x.power 1 100000=b4
 cases b1<;>cases b2<;>cases b3<;>cases b4<;>simp [gB]<;>rfl
theorem qm {α ρ:Type} [Inhabited α] {l:List α} {i:Nat} (hi:i<l.length) (hl:l.length≤9223372036854775807) (b:Bool) (f:Int→ρ) (G:Option (bS Int (Ex Unit ρ))):
  (bif (decide ((i:Int)<(l.length:Int)))then((some b).bind fun r_=>dQ ((0:Int)≤(i:Int)∧(i:Int)<(l.length:Int)) (bif r_ then some (.done (.ret (f (i:Int))))else some (.next (IntKind.wrap .i64 ((i:Int)+1)))))else G)=some (bif b then .done (.ret (f i))else .next ((i:Int)+1)):=by
 have h1:decide ((i:Int)<(l.length:Int))=true:=by simp;omega
 rw [h1,cond_true,Option.bind_some,aK (by omega),wr (by omega)]
 cases b<;>rfl
theorem Js {b:Int} (hb:1≤b∧b≤24) (l:List Source) (hl:l.length≤9223372036854775807) (m:Int) (l1:List Source) (l2:List Link) (l3:List aO):
  kM l m b l1 l2 l3=some (decide ((l.length:Int)≤m) && l.all (lV b)):=by
 have hs:eH l b l1 l2 l3=some (l.any fun x=> !lV b x):=by
  unfold eH iT
  rw [rH l (fun x=> !lV b x) id hl (fun i hi=> ?_) ?_]
  ·rw [←qc];cases l.findIdx? fun x=> !lV b x<;>rfl
  ·unfold gM;simp
  ·unfold gM lI
   rw [Int.toNat_natCast,F4 hb,Option.bind_some]
   exact qm hi hl _ id _
 unfold kM
 rw [hs]
 have:(!l.any fun x=> !lV b x)=l.all (lV b):=by rw [List.not_any_eq_all_not];simp
 rw [←this]
 cases decide ((l.length:Int)≤m)<;>simp [gB]
theorem GI {b:Int} (hb:1≤b∧b≤24) (l:List Link) (hl:l.length≤9223372036854775807) (ht: ∀x∈l,x.trip.length≤9223372036854775807) (m:Int) (l1:List Source) (l2:List Link) (l3:List aO):
  jH l m b l1 l2 l3=some (decide ((l.length:Int)≤m) && l.all (jG b)):=by
 have hs:dD l b l1 l2 l3=some (l.any fun x=> !jG b x):=by
  unfold dD gT
  rw [rH l (fun x=> !jG b x) id hl (fun i hi=> ?_) ?_]
  ·rw [←qc];cases l.findIdx? fun x=> !jG b x<;>rfl
  ·unfold fK;simp
  ·unfold fK jh
   rw [Int.toNat_natCast,KI hb _ (ht _ (at_mem hi)),Option.bind_some]
   exact qm hi hl _ id _
 unfold jH
 rw [hs]
 have:(!l.any fun x=> !jG b x)=l.all (jG b):=by rw [List.not_any_eq_all_not];simp
 rw [←this]
 cases decide ((l.length:Int)≤m)<;>simp [gB]
theorem FZ {b:Int} (hb:1≤b∧b≤24) (l:List aO) (hl:l.length≤9223372036854775807) (m:Int) (l1:List Source) (l2:List Link) (l3:List aO):
  jK l m b l1 l2 l3=some (decide ((l.length:Int)≤m) && l.all (jL b)):=by
 have hs:dF l b l1 l2 l3=some (l.any fun x=> !jL b x):=by
  unfold dF gQ
  rw [rH l (fun x=> !jL b x) id hl (fun i hi=> ?_) ?_]
  ·rw [←qc];cases l.findIdx? fun x=> !jL b x<;>rfl
  ·unfold fI;simp
  ·unfold fI jw
   rw [Int.toNat_natCast,KJ hb,Option.bind_some]
   exact qm hi hl _ id _
 unfold jK
 rw [hs]
 have:(!l.any fun x=> !jL b x)=l.all (jL b):=by rw [List.not_any_eq_all_not];simp
 rw [←this]
 cases decide ((l.length:Int)≤m)<;>simp [gB]
structure Small (p:aj):Prop where
 src:p.sources.length≤9223372036854775807
 lnk:p.links.length≤9223372036854775807
 rck:p.racks.length≤9223372036854775807
 trp: ∀x∈p.links,x.trip.length≤9223372036854775807
def og (p:aj):Int:=
 if wi p.buses 1 24=false then 10 else if(decide ((p.sources.length:Int)≤8) && p.sources.all (lV p.buses))=false then 11
 else if(decide ((p.links.length:Int)≤40) && p.links.all (jG p.buses))=false then 12 else if(decide ((p.racks.length:Int)≤24) && p.racks.all (jL p.buses))=false then 13 else 0
theorem I6 (p:aj) (hp:Small p):fM p=some (og p):=by
 unfold fM og
 simp only [mU,Option.bind_some,kY,nO,nY]
 cases h0:wi p.buses 1 24 with
 |false=>simp
 |true=>
  have hb:=vJ.mp h0
  rw [Js hb _ hp.src,GI hb _ hp.lnk hp.trp,FZ hb _ hp.rck]
  simp only [Option.bind_some,Bool.not_true,cond_false]
  generalize (decide ((p.sources.length:Int)≤8) && p.sources.all (lV p.buses))=b1
  generalize (decide ((p.links.length:Int)≤40) && p.links.all (jG p.buses))=b2
  generalize (decide ((p.racks.length:Int)≤24) && p.racks.all (jL p.buses))=b3
  cases b1<;>cases b2<;>cases b3<;>simp
def kG (p:aj) (s:State):Bool:=
 decide (s.closed.length=p.links.length) && decide (s.locked.length=p.links.length) && decide (s.badLink.length=p.links.length) && decide (s.on_.length=p.sources.length) && decide (s.badSource.length=p.sources.length) &&
 decide ((s.earthed.length:Int)=p.buses) && decide ((s.badBus.length:Int)=p.buses)
def iy (p:aj) (s:State) (i:Nat):Bool:=decide ((at' p.links i).kind=1) && (!at' s.closed i||at' s.locked i)
def uW (p:aj) (s:State):Int:=if og p≠0 then og p else if kG p s && !(List.range p.links.length).any (iy p s)then 0 else 9
theorem mD (p:aj) (s:State) (hp:Small p):aW p s=some (uW p s):=by
 unfold aW uW
 rw [I6 p hp,Option.bind_some]
 by_cases hc:og p=0
 ·rw [hc]
  simp only [decide_true,Bool.not_true,cond_false,ne_eq,not_true_eq_false,if_false]
  have h0:aL (eG p s) FUEL 0=some (bif kG p s then .brk ()else .ret 9):=by
   have key:=mg (body:=eG p s) 7 (fun i=> !decide (((at' [(⟨s.closed,(p.links.length:Int)⟩:bC),(⟨s.locked,(p.links.length:Int)⟩:bC),(⟨s.badLink,(p.links.length:Int)⟩:bC),(⟨s.on_,(p.sources.length:Int)⟩:bC),(⟨s.badSource,(p.sources.length:Int)⟩:bC),(⟨s.earthed,p.buses⟩:bC),(⟨s.badBus,p.buses⟩:bC)] i).l.length:Int)=(at' [(⟨s.closed,(p.links.length:Int)⟩:bC),(⟨s.locked,(p.links.length:Int)⟩:bC),(⟨s.badLink,(p.links.length:Int)⟩:bC),(⟨s.on_,(p.sources.length:Int)⟩:bC),(⟨s.badSource,(p.sources.length:Int)⟩:bC),(⟨s.earthed,p.buses⟩:bC),(⟨s.badBus,p.buses⟩:bC)] i).n)) (fun _=>(9:Int)) (by omega) (fun i hi=> ?_) ?_
   ·rw [key]
    have e:((List.range 7).find? fun i=> !decide (((at' [(⟨s.closed,(p.links.length:Int)⟩:bC),(⟨s.locked,(p.links.length:Int)⟩:bC),(⟨s.badLink,(p.links.length:Int)⟩:bC),(⟨s.on_,(p.sources.length:Int)⟩:bC),(⟨s.badSource,(p.sources.length:Int)⟩:bC),(⟨s.earthed,p.buses⟩:bC),(⟨s.badBus,p.buses⟩:bC)] i).l.length:Int)=(at' [(⟨s.closed,(p.links.length:Int)⟩:bC),(⟨s.locked,(p.links.length:Int)⟩:bC),(⟨s.badLink,(p.links.length:Int)⟩:bC),(⟨s.on_,(p.sources.length:Int)⟩:bC),(⟨s.badSource,(p.sources.length:Int)⟩:bC),(⟨s.earthed,p.buses⟩:bC),(⟨s.badBus,p.buses⟩:bC)] i).n)).isSome= !kG p s:=by
     rw [show List.range 7=[0,1,2,3,4,5,6]from rfl,uM]
     simp only [List.any_cons,List.any_nil,at',List.getD_cons_zero,List.getD_cons_succ,kG,Int.natCast_inj]
     simp [Bool.or_assoc]
    revert e
    cases hf:(List.range 7).find? _ with
    |none=>
     intro e
     have:kG p s=true:=by simpa using e.symm
     rw [this];rfl
    |some k=>
     intro e
     have:kG p s=false:=by simpa using e.symm
     rw [this];rfl
   ·have h1:decide ((i:Int)<7)=true:=by simp;omega
    unfold eG
    rw [show([(⟨s.closed,(p.links.length:Int)⟩:bC),(⟨s.locked,(p.links.length:Int)⟩:bC),(⟨s.badLink,(p.links.length:Int)⟩:bC),(⟨s.on_,(p.sources.length:Int)⟩:bC),(⟨s.badSource,(p.sources.length:Int)⟩:bC),(⟨s.earthed,p.buses⟩:bC),(⟨s.badBus,p.buses⟩:bC)].length:Int)=7 from rfl,h1,cond_true,aK (by omega),Int.toNat_natCast,wr (by omega)]
    exact Cf _ _ _
   ·rfl
  rw [h0,Option.bind_some]
  cases hL:kG p s with
  |false=>rfl
  |true=>
   simp only [cond_true,Bool.true_and]
   simp only [kG,Bool.and_eq_true,decide_eq_true_eq]at hL
   have h1:aL (eO p s) FUEL 0=some (match(List.range p.links.length).find? (iy p s)with|some _=> .ret 9|none=> .brk ()):=by
    refine mg p.links.length (iy p s) (fun _=>9) hp.lnk (fun i hi=> ?_) ?_
    ·unfold eO iy
     have h1:decide ((i:Int)<(p.links.length:Int))=true:=by simp;omega
     have:=hp.lnk
     rw [h1,cond_true,aK (by omega),Int.toNat_natCast,wr (by omega),aK ⟨fun _=>by omega,fun _=>by omega⟩]
     generalize decide ((at' p.links i).kind=1)=b1
     generalize at' s.closed i=b2
     generalize at' s.locked i=b3
     cases b1<;>cases b2<;>cases b3<;>rfl
    ·unfold eO;simp
   rw [h1,Option.bind_some]
   have:(List.range p.links.length).any (iy p s)=((List.range p.links.length).find? (iy p s)).isSome:=(uM _ _).symm
   rw [this]
   cases(List.range p.links.length).find? (iy p s)<;>rfl
 ·have:decide (og p=0)=false:=by simp [hc]
  rw [this]
  simp [hc]
structure VL (b:Int) (x:Link):Prop where
 a:0≤x.a∧x.a<b
 b:0≤x.b∧x.b<b
 ab:x.a≠x.b
 kind:1≤x.kind∧x.kind≤3
 most:1≤x.most∧x.most≤100000
 ohm:10≤x.ohm∧x.ohm≤100000
 tl:x.trip.length≤6
 trip: ∀i,i<x.trip.length→lS x.trip i=false
 trk:x.trip=[]∨x.kind=3
structure Pk (b:Int) (x:Source):Prop where
 bus:0≤x.bus∧x.bus<b
 kind:1≤x.kind∧x.kind≤3
 power:1≤x.power∧x.power≤100000
 sync:0≤x.sync∧x.sync≤8
 ohm:10≤x.ohm∧x.ohm≤100000
structure VR (b:Int) (x:aO):Prop where
 e0:0≤x.feeds.e0∧x.feeds.e0<b
 e1: -1≤x.feeds.e1∧x.feeds.e1<b
 ne:x.feeds.e0≠x.feeds.e1
 power:1≤x.power∧x.power≤100000
 paths:0≤x.paths∧x.paths≤qo x
structure VP (p:aj):Prop where
 b:1≤p.buses∧p.buses≤24
 sl:p.sources.length≤8
 src: ∀i,i<p.sources.length→Pk p.buses (at' p.sources i)
 ll:p.links.length≤40
 lnk: ∀i,i<p.links.length→VL p.buses (at' p.links i)
 rl:p.racks.length≤24
 rck: ∀i,i<p.racks.length→VR p.buses (at' p.racks i)
structure VS (p:aj) (s:State):Prop where
 closed:s.closed.length=p.links.length
 locked:s.locked.length=p.links.length
 badLink:s.badLink.length=p.links.length
 on:s.on_.length=p.sources.length
 badSource:s.badSource.length=p.sources.length
 earthed:(s.earthed.length:Int)=p.buses
 badBus:(s.badBus.length:Int)=p.buses
 cable: ∀i,i<p.links.length→(at' p.links i).kind=1→at' s.closed i=true∧at' s.locked i=false
theorem z8 {b:Int} {x:Source}:lV b x=true↔Pk b x:=by
 simp only [lV,Bool.and_eq_true,vJ]
 exact⟨fun⟨⟨⟨⟨h1,h2⟩,h3⟩,h4⟩,h5⟩=> ⟨by omega,h2,h3,h4,h5⟩,fun h=> ⟨⟨⟨⟨by have:=h.bus;omega,h.kind⟩,h.power⟩,h.sync⟩,h.ohm⟩⟩
theorem xH {b:Int} {x:aO}:jL b x=true↔VR b x:=by
 simp only [jL,Bool.and_eq_true,vJ,Bool.not_eq_true',decide_eq_false_iff_not]
 exact⟨fun⟨⟨⟨⟨h1,h2⟩,h3⟩,h4⟩,h5⟩=> ⟨by omega,by omega,h3,h4,h5⟩,fun h=> ⟨⟨⟨⟨by have:=h.e0;omega,by have:=h.e1;omega⟩,h.ne⟩,h.power⟩,h.paths⟩⟩
theorem y9 {b:Int} {x:Link}:jG b x=true↔VL b x:=by
 simp only [jG,Bool.and_eq_true,vJ,Bool.not_eq_true',decide_eq_false_iff_not,Bool.or_eq_true,decide_eq_true_eq,List.any_eq_false,List.mem_range,Bool.not_eq_true]
 constructor
 ·rintro ⟨⟨⟨⟨⟨⟨⟨⟨h1,h2⟩,h3⟩,h4⟩,h5⟩,h6⟩,h7⟩,h8⟩,h9⟩
  exact⟨by omega,by omega,h3,h4,h5,h6,by omega,h7,h9.imp (fun h=>List.eq_nil_of_length_eq_zero (by omega)) id⟩
 ·intro h
  refine⟨⟨⟨⟨⟨⟨⟨⟨by have:=h.a;omega,by have:=h.b;omega⟩,h.ab⟩,h.kind⟩,h.most⟩,h.ohm⟩,h.trip⟩,by have:=h.tl;omega⟩,h.trk.imp (fun e=>by simp [e]) id⟩
theorem wC {p:aj}:og p=0↔VP p:=by
 unfold og
 constructor
 ·intro h
  cases h0:wi p.buses 1 24 with
  |false=>rw [h0]at h;simp at h
  |true=>
   rw [h0]at h
   cases h1:(decide ((p.sources.length:Int)≤8) && p.sources.all (lV p.buses))with
   |false=>rw [h1]at h;simp at h
   |true=>
    rw [h1]at h
    cases h2:(decide ((p.links.length:Int)≤40) && p.links.all (jG p.buses))with
    |false=>rw [h2]at h;simp at h
    |true=>
     rw [h2]at h
     cases h3:(decide ((p.racks.length:Int)≤24) && p.racks.all (jL p.buses))with
     |false=>rw [h3]at h;simp at h
     |true=>
      simp only [Bool.and_eq_true,decide_eq_true_eq,List.all_eq_true]at h1 h2 h3
      exact⟨vJ.mp h0,by omega,fun i hi=>z8.mp (h1.2 _ (at_mem hi)),by omega,fun i hi=>y9.mp (h2.2 _ (at_mem hi)),by omega,fun i hi=>xH.mp (h3.2 _ (at_mem hi))⟩
 ·intro h
  have h0:wi p.buses 1 24=true:=vJ.mpr h.b
  have h1:(decide ((p.sources.length:Int)≤8) && p.sources.all (lV p.buses))=true:=by
   simp only [Bool.and_eq_true,decide_eq_true_eq,List.all_eq_true]
   exact⟨by have:=h.sl;omega,fun x hx=>by obtain⟨i,hi,rfl⟩:=eY hx;exact z8.mpr (h.src i hi)⟩
  have h2:(decide ((p.links.length:Int)≤40) && p.links.all (jG p.buses))=true:=by
   simp only [Bool.and_eq_true,decide_eq_true_eq,List.all_eq_true]
   exact⟨by have:=h.ll;omega,fun x hx=>by obtain⟨i,hi,rfl⟩:=eY hx;exact y9.mpr (h.lnk i hi)⟩
  have h3:(decide ((p.racks.length:Int)≤24) && p.racks.all (jL p.buses))=true:=by
   simp only [Bool.and_eq_true,decide_eq_true_eq,List.all_eq_true]
   exact⟨by have:=h.rl;omega,fun x hx=>by obtain⟨i,hi,rfl⟩:=eY hx;exact xH.mpr (h.rck i hi)⟩
  rw [h0,h1,h2,h3];rfl
theorem VP.small {p:aj} (h:VP p):Small p:=by
 refine⟨by have:=h.sl;omega,by have:=h.ll;omega,by have:=h.rl;omega,fun x hx=> ?_⟩
 obtain⟨i,hi,rfl⟩:=eY hx
 have:=(h.lnk i hi).tl;omega
theorem wh {p:aj} {s:State}:uW p s=0↔VP p∧VS p s:=by
 unfold uW
 by_cases hc:og p=0
 ·rw [if_neg (by simp [hc])]
  have hv:=wC.mp hc
  constructor
  ·intro h
   cases h1:(kG p s && !(List.range p.links.length).any (iy p s))with
   |false=>rw [h1]at h;simp at h
   |true=>
    simp only [kG,Bool.and_eq_true,decide_eq_true_eq,Bool.not_eq_true',List.any_eq_false,List.mem_range,iy,Bool.or_eq_true,not_and,not_or,Bool.not_eq_true]at h1
    obtain⟨⟨⟨⟨⟨⟨⟨h1,h2⟩,h3⟩,h4⟩,h5⟩,h6⟩,h7⟩,h8⟩:=h1
    exact⟨hv,h1,h2,h3,h4,h5,h6,h7,fun i hi hk=>by have:=h8 i hi hk;simpa using this⟩
  ·rintro ⟨_,h⟩
   have:(kG p s && !(List.range p.links.length).any (iy p s))=true:=by
    simp only [kG,Bool.and_eq_true,decide_eq_true_eq,Bool.not_eq_true',List.any_eq_false,List.mem_range,iy,Bool.or_eq_true,not_and,not_or,Bool.not_eq_true]
    exact⟨⟨⟨⟨⟨⟨⟨h.closed,h.locked⟩,h.badLink⟩,h.on⟩,h.badSource⟩,h.earthed⟩,h.badBus⟩,fun i hi hk=>by have:=h.cable i hi hk;simpa using this⟩
   rw [this];rfl
 ·rw [if_pos hc]
  exact⟨fun h=>absurd h hc,fun h=>absurd (wC.mpr h.1) hc⟩
def bn (p:aj) (s:State) (i:Nat):Bool:=at' s.closed i && !at' s.badLink i && !at' s.badBus (at' p.links i).a.toNat && !at' s.badBus (at' p.links i).b.toNat
def jd (p:aj) (s:State) (k:Nat):Bool:=at' s.on_ k && !at' s.badSource k && !at' s.badBus (at' p.sources k).bus.toNat
inductive Wk (p:aj) (s:State) (b:Nat):List Int→Nat→Prop where
 |nil:Wk p s b [] b
 |snoc {l:List Int} {v w i:Nat}:Wk p s b l v→i<p.links.length→bn p s i=true→
   ((at' p.links i).a.toNat=v∧(at' p.links i).b.toNat=w∨(at' p.links i).b.toNat=v∧(at' p.links i).a.toNat=w)→Wk p s b (l++[(i:Int)]) w
def tab {α:Type} (n:Nat) (f:Nat→α):List α:=(List.range n).map f
section
variable {α:Type} [Inhabited α]
theorem G6 {n:Nat} {f g:Nat→α} (h: ∀i,i<n→f i=g i):tab n f=tab n g:=by
 unfold tab;exact List.map_congr_left fun i hi=>h i (List.mem_range.mp hi)
end
def oQ (c:List Bool):Nat:=c.countP id
theorem yN: ∀(c:List Bool) (i:Nat),i<c.length→at' c i=true→oQ (c.set i false)+1=oQ c
 |[],_,h,_=>by simp at h
 |b::c,0,_,h=>by
  have:b=true:=h
  subst this;simp [oQ]
 |b::c,i+1,h,hb=>by
  have:=yN c i (by simpa using h) hb
  simp only [oQ,List.set_cons_succ,List.countP_cons]at this ⊢
  omega
structure MG (s:State):Prop where
 l0:s.closed.length≤1000000000
 l1:s.locked.length≤1000000000
 l2:s.badLink.length≤1000000000
 l3:s.on_.length≤1000000000
 l4:s.badSource.length≤1000000000
 l5:s.earthed.length≤1000000000
 l6:s.badBus.length≤1000000000
theorem VS.small {p:aj} {s:State} (hp:VP p) (h:VS p s):MG s:=by
 have h1:=hp.ll;have h2:=hp.sl;have h3:=hp.b
 obtain⟨a1,a2,a3,a4,a5,a6,a7,_⟩:=h
 exact⟨by omega,by omega,by omega,by omega,by omega,by omega,by omega⟩
def Ch (hd:List (Int × Int)):Nat→Int→Int→Prop
 |0,x,r=>aJ bB x hd=none∧r=x
 |k+1,x,r=> ∃y,aJ bB x hd=some y∧Ch hd k y r
theorem of_run {hd:List (Int × Int)}: ∀(k:Nat) (x r:Int),Ch hd k x r→aL (dh ⟨hd⟩) (k+1) x=some (.ret r)
 |0,x,r,h=>by
  obtain⟨h,e⟩:=h
  rw [dA];unfold dh;simp [h,e]
 |k+1,x,r,h=>by
  obtain⟨y,h,hc⟩:=h
  have:dh ⟨hd⟩ x=some (.next y):=by unfold dh;simp [h]
  rw [dA,this]
  exact of_run k y r hc
theorem of_eq {hd:List (Int × Int)} {k:Nat} {x r:Int} (h:Ch hd k x r) (hk:k≤1000):aR ⟨hd⟩ x=some r:=by
 unfold aR
 rw [lC (of_run k x r h) (by unfold FUEL;omega)];rfl
theorem Ch.root {hd:List (Int × Int)}: ∀{k:Nat} {x r:Int},Ch hd k x r→aJ bB r hd=none
 |0,x,r,h=>by obtain⟨h,e⟩:=h;rw [e];exact h
 |k+1,x,r,h=>by obtain⟨y,_,hc⟩:=h;exact hc.root
theorem Ch.set {hd:List (Int × Int)} {a b:Int} (hab:a≠b) (ha:aJ bB a hd=none) (hb:aJ bB b hd=none): ∀{k:Nat} {x r:Int},Ch hd k x r→
  ∃k',k'≤k+1∧Ch (dS bB a b hd) k' x (if r=a then b else r)
 |0,x,r,h=>by
  obtain⟨h,e⟩:=h
  subst e
  by_cases e:r=a
  ·subst e
   rw [if_pos rfl]
   exact⟨1,by omega,b,eu _ _ _,by rw [gu (Ne.symm hab)];exact hb,rfl⟩
  ·rw [if_neg e]
   exact⟨0,by omega,by rw [gu e];exact h,rfl⟩
 |k+1,x,r,h=>by
  obtain⟨y,h,hc⟩:=h
  obtain⟨k',hk,hc'⟩:=hc.set hab ha hb
  have:x≠a:=fun e=>by rw [e,ha]at h;cases h
  exact⟨k'+1,by omega,y,by rw [gu this];exact h,hc'⟩
section
variable {p:aj} {s:State}
theorem Wk.trans {u v w:Nat} {l m:List Int} (h:Wk p s u l v) (h':Wk p s v m w):Wk p s u (l++m) w:=by
 induction h' with
 |nil=>simpa using h
 |snoc _ hi hc he ih=>rw [←List.append_assoc];exact ih.snoc hi hc he
theorem Wk.symm {u v:Nat} {l:List Int} (h:Wk p s u l v): ∃m,Wk p s v m u:=by
 induction h with
 |nil=>exact⟨[], .nil⟩
 |snoc _ hi hc he ih=>
  obtain⟨m,hm⟩:=ih
  exact⟨_,(Wk.nil.snoc hi hc (he.symm.imp id id|>.elim (fun⟨a,b⟩=> .inl ⟨b,a⟩) fun⟨a,b⟩=> .inr ⟨b,a⟩)).trans hm⟩
def kT (p:aj) (s:State):Nat→List (Int × Int) × (Int→Int)
 |0=>([],id)
 |n+1=>
  let q:=kT p s n
  if bn p s n=true∧q.2 (at' p.links n).a≠q.2 (at' p.links n).b then
   (dS bB (q.2 (at' p.links n).a) (q.2 (at' p.links n).b) q.1,fun x=>if q.2 x=q.2 (at' p.links n).a then q.2 (at' p.links n).b else q.2 x)
  else q
structure UF (p:aj) (s:State) (n:Nat) (hd:List (Int × Int)) (f:Int→Int):Prop where
 ch: ∀x,∃k,k≤n∧Ch hd k x (f x)
 cn: ∀x:Nat,(x:Int)<p.buses→0≤f x∧f x<p.buses∧ ∃l,Wk p s x l (f x).toNat
 ed: ∀i,i<n→bn p s i=true→f (at' p.links i).a=f (at' p.links i).b
theorem uf (hp:VP p): ∀n,n≤p.links.length→UF p s n (kT p s n).1 (kT p s n).2
 |0,_=> ⟨fun x=> ⟨0,Nat.le_refl _,rfl,rfl⟩,fun x hx=> ⟨by show(0:Int)≤x;omega,hx,[],by show Wk p s x [] ((x:Int).toNat);simp;exact .nil⟩,fun i hi=>absurd hi (Nat.not_lt_zero _)⟩
 |n+1,hn=>by
  have h:=uf hp n (by omega)
  have hl:=hp.lnk n (by omega)
  unfold kT
  by_cases hc:bn p s n=true∧(kT p s n).2 (at' p.links n).a≠(kT p s n).2 (at' p.links n).b
  ·rw [if_pos hc]
   obtain⟨hc1,hc2⟩:=hc
   obtain⟨ka,_,ca⟩:=h.ch (at' p.links n).a
   obtain⟨kb,_,cb⟩:=h.ch (at' p.links n).b
   refine⟨fun x=> ?_,fun x hx=> ?_,fun i hi hci=> ?_⟩
   ·obtain⟨k,hk,c⟩:=h.ch x
    obtain⟨k',hk',c'⟩:=c.set hc2 ca.root cb.root
    exact⟨k',by omega,c'⟩
   ·obtain⟨h0,h1,l,hw⟩:=h.cn x hx
    simp only
    by_cases e:(kT p s n).2 x=(kT p s n).2 (at' p.links n).a
    ·rw [if_pos e]
     have ha:=hl.a;have hb:=hl.b
     obtain⟨_,_,la,wa⟩:=h.cn (at' p.links n).a.toNat (by omega)
     obtain⟨b0,b1,lb,wb⟩:=h.cn (at' p.links n).b.toNat (by omega)
     have ea:(((at' p.links n).a.toNat:Nat):Int)=(at' p.links n).a:=by omega
     have eb:(((at' p.links n).b.toNat:Nat):Int)=(at' p.links n).b:=by omega
     rw [ea,←e]at wa
     rw [eb]at wb b0 b1
     obtain⟨m,wm⟩:=wa.symm
     refine⟨b0,b1,_,((hw.trans wm).snoc (by omega) hc1 (.inl ⟨rfl,rfl⟩)).trans wb⟩
    ·rw [if_neg e];exact⟨h0,h1,l,hw⟩
   ·simp only
    by_cases e:i=n
    ·subst e;rw [if_pos rfl]
     by_cases e2:(kT p s i).2 (at' p.links i).b=(kT p s i).2 (at' p.links i).a
     ·rw [if_pos e2]
     ·rw [if_neg e2]
    ·rw [h.ed i (by omega) hci]
  ·rw [if_neg hc]
   refine⟨fun x=> ?_,h.cn,fun i hi hci=> ?_⟩
   ·obtain⟨k,hk,c⟩:=h.ch x;exact⟨k,by omega,c⟩
   ·by_cases e:i=n
    ·subst e
     by_cases e2:(kT p s i).2 (at' p.links i).a=(kT p s i).2 (at' p.links i).b
     ·exact e2
     ·exact absurd ⟨hci,e2⟩ hc
    ·exact h.ed i (by omega) hci
def aI (p:aj) (s:State) (x:Nat):Int:=(kT p s p.links.length).2 x
theorem lJ (hp:VP p) {u v:Nat} (hu:(u:Int)<p.buses) (hv:(v:Int)<p.buses):aI p s u=aI p s v↔ ∃l,Wk p s u l v:=by
 have h:=uf (s:=s) hp p.links.length (Nat.le_refl _)
 constructor
 ·intro e
  obtain⟨_,_,l,w⟩:=h.cn u hu
  obtain⟨_,_,m,w'⟩:=h.cn v hv
  obtain⟨m',w''⟩:=w'.symm
  have:(kT p s p.links.length).2 u=(kT p s p.links.length).2 v:=e
  rw [this]at w
  exact⟨_,w.trans w''⟩
 ·rintro ⟨l,w⟩
  clear hv
  induction w with
  |nil=>rfl
  |snoc w hi hc he ih=>
   rename_i i
   rw [ih]
   have hl:=hp.lnk i hi
   have ha:=hl.a;have hb:=hl.b
   have ed:=h.ed i hi hc
   unfold aI
   rcases he with⟨e1,e2⟩|⟨e1,e2⟩
   ·rw [←e1,←e2,Int.toNat_of_nonneg (by omega),Int.toNat_of_nonneg (by omega),ed]
   ·rw [←e1,←e2,Int.toNat_of_nonneg (by omega),Int.toNat_of_nonneg (by omega),ed]
theorem w9 (hp:VP p) (x:Int):aR ⟨(kT p s p.links.length).1⟩ x=some ((kT p s p.links.length).2 x):=by
 obtain⟨k,hk,c⟩:=(uf (s:=s) hp p.links.length (Nat.le_refl _)).ch x
 have:=hp.ll
 exact of_eq c (by omega)
theorem join_eq (hp:VP p) {n:Nat} (hn:n<p.links.length) (hc:bn p s n=true):fQ ⟨(kT p s n).1⟩ (at' p.links n).a (at' p.links n).b=some (kT p s (n+1)).1:=by
 have h:=uf (s:=s) hp n (by omega)
 have:=hp.ll
 obtain⟨ka,_,ca⟩:=h.ch (at' p.links n).a
 obtain⟨kb,_,cb⟩:=h.ch (at' p.links n).b
 unfold fQ
 rw [of_eq ca (by omega),of_eq cb (by omega)]
 simp only [Option.bind_some]
 rw [kT]
 by_cases e:(kT p s n).2 (at' p.links n).a=(kT p s n).2 (at' p.links n).b
 ·simp [e]
 ·simp [e,hc]
end
theorem fZ {α:Type} [Inhabited α] {l m:List α} {j:Nat} (h:j<l.length):at' (l++m) j=at' l j:=by
 rw [dY (by rw [List.length_append];omega),dY h,List.getElem_append_left]
theorem iw {α:Type} [Inhabited α] (l:List α) (x:α):at' (l++[x]) l.length=x:=by
 rw [dY (by simp)];simp
section
variable {p:aj} {s:State} (hp:VP p) (hs:VS p s)
include hp hs
theorem Gj {i:Nat} (hi:i<p.links.length):bN p.links s.closed s.badLink s.badBus ((kT p s i).1,(i:Int))=some (.next ((kT p s (i+1)).1,((i+1:Nat):Int))):=by
 have hl:=hp.lnk i hi
 have ha:=hl.a;have hb:=hl.b;have h1:=hs.closed;have h2:=hs.badLink;have h3:=hs.badBus;have hll:=hp.ll
 have hd:decide ((i:Int)<(p.links.length:Int))=true:=decide_eq_true (by omega)
 have hcb:(bif (bif (bif (at' s.closed i)then(!(at' s.badLink i))else false)then(!(at' s.badBus (((at' p.links i).a).toNat)))else false)then(!(at' s.badBus (((at' p.links i).b).toNat)))else false)=bn p s i:=by
  unfold bn
  cases at' s.closed i<;>cases at' s.badLink i<;>cases at' s.badBus (at' p.links i).a.toNat<;>cases at' s.badBus (at' p.links i).b.toNat<;>rfl
 unfold bN
 simp only [Int.toNat_natCast]
 rw [hd,cond_true,aK (by omega),hcb]
 cases hc:bn p s i with
 |true=>
  rw [cond_true]
  unfold fe
  rw [join_eq hp hi hc]
  simp only [Option.bind_some]
  rw [aK ⟨by omega,fun _=>by omega,fun _=>by omega,fun _=>by omega⟩,wr (by omega)]
  rfl
 |false=>
  rw [cond_false,aK ⟨by omega,fun _=>by omega,fun _=>by omega,fun _=>by omega⟩,wr (by omega)]
  have:kT p s (i+1)=kT p s i:=by rw [kT];simp [hc]
  rw [this];rfl
theorem qP:iB p.buses p.sources p.links p.racks s.closed s.locked s.badLink s.on_ s.badSource s.earthed s.badBus ⟨[]⟩=some ⟨(kT p s p.links.length).1⟩:=by
 have hll:=hp.ll
 have key:aL (bN p.links s.closed s.badLink s.badBus) FUEL ((kT p s 0).1,((0:Nat):Int))=some (.brk (kT p s p.links.length).1):=by
  refine bJ (fun i=>((kT p s i).1,(i:Int))) p.links.length _ (fuel_lt (by omega)) (fun i hi=>Gj hp hs hi) ?_
  unfold bN
  simp
 show(aL (bN p.links s.closed s.badLink s.badBus) FUEL ((kT p s 0).1,((0:Nat):Int))).bind _=_
 rw [key];rfl
omit hs
structure II (p:aj) (s:State) (t n:Nat) (out:List af) (m:List (Int × Int)):Prop where
 ix: ∀h i,aJ bB h m=some i→0≤i∧i<(out.length:Int)
 inj: ∀h h' i,aJ bB h m=some i→aJ bB h' m=some i→h=h'
 cov: ∀b:Nat,b<t→at' s.badBus b=false→ ∃j:Nat,aJ bB (aI p s b) m=some (j:Int)∧(b:Int)∈(at' out j).buses
 mem: ∀j,j<out.length→ ∀x∈(at' out j).buses,∃b:Nat,x=b∧b<t∧at' s.badBus b=false∧aJ bB (aI p s b) m=some (j:Int)
 src: ∀j,j<out.length→(at' out j).sources=[]
 len:out.length≤n
 bl: ∀j,j<out.length→(at' out j).buses.length≤t
omit hp
theorem II.fresh {t n:Nat} {out:List af} {m:List (Int × Int)} {h0:Int} (g:II p s t n out m) (hn:aJ bB h0 m=none):II p s t (n+1) (out++[⟨[],[]⟩]) (dS bB h0 (out.length:Int) m):=by
 have old: ∀h i,h≠h0→aJ bB h (dS bB h0 (out.length:Int) m)=some i→aJ bB h m=some i:=fun h i e q=>by rwa [gu e]at q
 refine⟨fun h i q=> ?_,fun h h' i q q'=> ?_,fun b hb hbad=> ?_,fun j hj x hx=> ?_,fun j hj=> ?_, ?_,fun j hj=> ?_⟩
 ·rw [List.length_append]
  by_cases e:h=h0
  ·subst e;rw [eu]at q;cases q;simp;omega
  ·have:=g.ix h i (old h i e q);simp;omega
 ·by_cases e:h=h0
  ·subst e;rw [eu]at q;cases q
   by_cases e':h'=h
   ·exact e'.symm
   ·have:=g.ix h' _ (old h' _ e' q');omega
  ·by_cases e':h'=h0
   ·subst e';rw [eu]at q';cases q'
    have:=g.ix h _ (old h _ e q);omega
   ·exact g.inj h h' i (old h i e q) (old h' i e' q')
 ·obtain⟨j,q,hx⟩:=g.cov b hb hbad
  have e:aI p s b≠h0:=fun e=>by rw [e,hn]at q;cases q
  have:=g.ix _ _ q
  exact⟨j,by rw [gu e];exact q,by rw [fZ (by omega)];exact hx⟩
 ·rw [List.length_append]at hj
  by_cases e:j<out.length
  ·rw [fZ e]at hx
   obtain⟨b,h1,h2,h3,q⟩:=g.mem j e x hx
   have e:aI p s b≠h0:=fun e=>by rw [e,hn]at q;cases q
   exact⟨b,h1,h2,h3,by rw [gu e];exact q⟩
  ·have:j=out.length:=by simp at hj;omega
   subst this
   rw [iw]at hx;simp at hx
 ·rw [List.length_append]at hj
  by_cases e:j<out.length
  ·rw [fZ e];exact g.src j e
  ·have:j=out.length:=by simp at hj;omega
   subst this;rw [iw]
 ·rw [List.length_append];have:=g.len;simp;omega
 ·rw [List.length_append]at hj
  by_cases e:j<out.length
  ·rw [fZ e];exact g.bl j e
  ·have:j=out.length:=by simp at hj;omega
   subst this;rw [iw];simp
theorem II.add {t n:Nat} {out:List af} {m:List (Int × Int)} (g:II p s t n out m) (hbad:at' s.badBus t=false) {j:Nat} (hj:aJ bB (aI p s t) m=some (j:Int)):
  II p s (t+1) n (out.set j ⟨(at' out j).buses++[(t:Int)],(at' out j).sources⟩) m:=by
 have hjl:=(g.ix _ _ hj).2
 refine⟨fun h i q=>by rw [List.length_set];exact g.ix h i q,g.inj,fun b hb hbb=> ?_,fun i hi x hx=> ?_,fun i hi=> ?_,by rw [List.length_set];exact g.len,fun i hi=> ?_⟩
 ·by_cases e:b=t
  ·subst e
   exact⟨j,hj,by rw [bH (by omega)];simp⟩
  ·obtain⟨i,q,hx⟩:=g.cov b (by omega) hbb
   refine⟨i,q, ?_⟩
   by_cases e2:j=i
   ·subst e2;rw [bH (by omega)];simp [hx]
   ·rw [bI e2];exact hx
 ·rw [List.length_set]at hi
  by_cases e2:j=i
  ·subst e2
   rw [bH (by omega)]at hx
   rcases List.mem_append.mp hx with hx|hx
   ·obtain⟨b,h1,h2,h3,q⟩:=g.mem j hi x hx
    exact⟨b,h1,by omega,h3,q⟩
   ·simp at hx
    exact⟨t,hx,by omega,hbad,hj⟩
  ·rw [bI e2]at hx
   obtain⟨b,h1,h2,h3,q⟩:=g.mem i hi x hx
   exact⟨b,h1,by omega,h3,q⟩
 ·rw [List.length_set]at hi
  by_cases e2:j=i
  ·subst e2;rw [bH (by omega)];exact g.src j hi
  ·rw [bI e2];exact g.src i hi
 ·rw [List.length_set]at hi
  have:=g.bl i hi
  by_cases e2:j=i
  ·subst e2;rw [bH (by omega)];simp;omega
  ·rw [bI e2];omega
include hp hs
theorem Ir {t:Nat} (ht:(t:Int)<p.buses) {out:List af} {m:List (Int × Int)} (g:II p s t t out m):
  ∃out' m',aT p s ⟨(kT p s p.links.length).1⟩ (out,m,(t:Int))=some (.next (out',m',((t+1:Nat):Int)))∧II p s (t+1) (t+1) out' m':=by
 have h3:=hs.badBus;have hb:=hp.b
 have hd:decide ((t:Int)<p.buses)=true:=decide_eq_true ht
 have hlen:=g.len
 unfold aT
 simp only [Int.toNat_natCast]
 rw [hd,cond_true,aK (by omega)]
 cases hbad:at' s.badBus t with
 |true=>
  refine⟨out,m,by rw [cond_true,wr (by omega)];rfl,g.ix,g.inj,fun b hb' hbb=> ?_,fun j hj x hx=> ?_,g.src,by omega,fun j hj=> ?_⟩
  ·have:b≠t:=fun e=>by rw [e,hbad]at hbb;cases hbb
   exact g.cov b (by omega) hbb
  ·obtain⟨b,h1,h2,h3,q⟩:=g.mem j hj x hx
   exact⟨b,h1,by omega,h3,q⟩
  ·have:=g.bl j hj;omega
 |false=>
  rw [cond_false,w9 hp,Option.bind_some]
  have eh:(kT p s p.links.length).2 (t:Int)=aI p s t:=rfl
  rw [eh]
  cases hq:aJ bB (aI p s t) m with
  |some i=>
   obtain⟨i0,i1⟩:=g.ix _ _ hq
   obtain⟨j,rfl⟩: ∃j:Nat,i=(j:Int):=⟨i.toNat,by omega⟩
   have hbl:=g.bl j (by omega)
   refine⟨_,_, ?_,⟨(g.add hbad hq).ix,g.inj,(g.add hbad hq).cov,(g.add hbad hq).mem,(g.add hbad hq).src,by have:=(g.add hbad hq).len;omega,(g.add hbad hq).bl⟩⟩
   simp only [Option.isSome_some,Bool.not_true,cond_false,Option.getD_some,Int.toNat_natCast]
   rw [aK ⟨by omega,by simp;omega,by simp;omega⟩,wr (by omega)]
   rfl
  |none=>
   have g':=g.fresh hq
   have hj:aJ bB (aI p s t) (dS bB (aI p s t) (out.length:Int) m)=some (out.length:Int):=eu _ _ _
   have g2:=g'.add hbad hj
   refine⟨_,_, ?_,g2⟩
   simp only [Option.isSome_none,Bool.not_false,cond_true,hj,Option.getD_some,Int.toNat_natCast,iw]
   rw [aK ⟨by simp;omega,by simp;omega⟩,aK ⟨by simp;omega,by simp⟩,wr (by omega)]
   rfl
theorem Mf: ∀(d t:Nat) (out:List af) (m:List (Int × Int)),((t+d:Nat):Int)=p.buses→II p s t t out m→
  ∃out' m',aL (aT p s ⟨(kT p s p.links.length).1⟩) (d+1) (out,m,(t:Int))=some (.brk (out',m'))∧II p s p.buses.toNat p.buses.toNat out' m':=by
 intro d
 induction d with
 |zero=>
  intro t out m ht g
  refine⟨out,m, ?_,by
   have:p.buses.toNat=t:=by omega
   rw [this];exact g⟩
  rw [dA]
  have hd:decide ((t:Int)<p.buses)=false:=decide_eq_false (by omega)
  unfold aT
  simp only
  rw [hd];rfl
 |succ d ih=>
  intro t out m ht g
  obtain⟨out1,m1,h1,g1⟩:=Ir hp hs (by omega) g
  obtain⟨out2,m2,h2,g2⟩:=ih (t+1) out1 m1 (by omega) g1
  exact⟨out2,m2,by rw [dA,h1];exact h2,g2⟩
structure JJ (p:aj) (s:State) (m:List (Int × Int)) (o:List af) (k:Nat) (out:List af):Prop where
 len:out.length=o.length
 bus: ∀j,j<out.length→(at' out j).buses=(at' o j).buses
 src: ∀j,j<out.length→((at' out j).sources≠[]↔ ∃i,i<k∧jd p s i=true∧aJ bB (aI p s (at' p.sources i).bus.toNat) m=some (j:Int))
 sl: ∀j,j<out.length→(at' out j).sources.length≤k
theorem Jt {o:List af} {m:List (Int × Int)} (g:II p s p.buses.toNat p.buses.toNat o m) {k:Nat} (hk:k<p.sources.length) {out:List af} (q:JJ p s m o k out):
  ∃out',aU p s ⟨(kT p s p.links.length).1⟩ m (out,(k:Int))=some (.next (out',((k+1:Nat):Int)))∧JJ p s m o (k+1) out':=by
 have hl:=(hp.src k hk).bus;have h1:=hs.on;have h2:=hs.badSource;have h3:=hs.badBus;have h4:=hp.sl
 have hd:decide ((k:Int)<(p.sources.length:Int))=true:=decide_eq_true (by omega)
 have hcb:(bif (bif (at' s.on_ k)then(!(at' s.badSource k))else false)then(!(at' s.badBus (((at' p.sources k).bus).toNat)))else false)=jd p s k:=by
  unfold jd
  cases at' s.on_ k<;>cases at' s.badSource k<;>cases at' s.badBus (at' p.sources k).bus.toNat<;>rfl
 unfold aU
 simp only [Int.toNat_natCast]
 rw [hd,cond_true,aK (by omega),aK ⟨by omega,fun _=>by omega,fun _=>by omega⟩,hcb]
 cases hf:jd p s k with
 |false=>
  refine⟨out,by rw [cond_false,wr (by omega)];rfl,q.len,q.bus,fun j hj=> ?_,fun j hj=>by have:=q.sl j hj;omega⟩
  rw [q.src j hj]
  constructor
  ·rintro ⟨i,h1,h2,h3⟩;exact⟨i,by omega,h2,h3⟩
  ·rintro ⟨i,h1,h2,h3⟩
   have:i≠k:=fun e=>by rw [e,hf]at h2;cases h2
   exact⟨i,by omega,h2,h3⟩
 |true=>
  have hbad:at' s.badBus (at' p.sources k).bus.toNat=false:=by
   unfold jd at hf
   revert hf
   cases at' s.badBus (at' p.sources k).bus.toNat<;>simp
  obtain⟨j,hj,_⟩:=g.cov (at' p.sources k).bus.toNat (by omega) hbad
  have hjl:=(g.ix _ _ hj).2
  have hlen:=q.len
  have hsl:=q.sl j (by omega)
  have eh:(kT p s p.links.length).2 (at' p.sources k).bus=aI p s (at' p.sources k).bus.toNat:=by unfold aI;rw [Int.toNat_of_nonneg (by omega)]
  rw [cond_true,w9 hp,Option.bind_some,eh,hj]
  simp only [Option.getD_some,Int.toNat_natCast]
  rw [aK ⟨by omega,by simp;omega,by simp;omega⟩,wr (by omega)]
  refine⟨_,rfl,by rw [List.length_set];exact q.len,fun i hi=> ?_,fun i hi=> ?_,fun i hi=> ?_⟩
  ·rw [List.length_set]at hi
   by_cases e:j=i
   ·subst e;rw [bH (by omega)];exact q.bus j hi
   ·rw [bI e];exact q.bus i hi
  ·rw [List.length_set]at hi
   by_cases e:j=i
   ·subst e;rw [bH (by omega)]
    simp only [ne_eq,List.append_eq_nil_iff,List.cons_ne_nil,and_false,not_false_eq_true,true_iff]
    exact⟨k,by omega,hf,hj⟩
   ·rw [bI e,q.src i hi]
    constructor
    ·rintro ⟨i',h1,h2,h3⟩;exact⟨i',by omega,h2,h3⟩
    ·rintro ⟨i',h1,h2,h3⟩
     have:i'≠k:=fun e'=>by
      rw [e',hj]at h3
      have:=Option.some.inj h3
      omega
     exact⟨i',by omega,h2,h3⟩
  ·rw [List.length_set]at hi
   have:=q.sl i hi
   by_cases e:j=i
   ·subst e;rw [bH (by omega)];simp;omega
   ·rw [bI e];omega
theorem MV {o:List af} {m:List (Int × Int)} (g:II p s p.buses.toNat p.buses.toNat o m): ∀(d k:Nat) (out:List af),k+d=p.sources.length→JJ p s m o k out→
  ∃out',aL (aU p s ⟨(kT p s p.links.length).1⟩ m) (d+1) (out,(k:Int))=some (.brk out')∧JJ p s m o p.sources.length out':=by
 intro d
 induction d with
 |zero=>
  intro k out hk q
  refine⟨out, ?_,by
   have:p.sources.length=k:=by omega
   rw [this];exact q⟩
  rw [dA]
  have hd:decide ((k:Int)<(p.sources.length:Int))=false:=decide_eq_false (by omega)
  unfold aU
  simp only
  rw [hd];rfl
 |succ d ih=>
  intro k out hk q
  obtain⟨out1,h1,q1⟩:=Jt hp hs g (by omega) q
  obtain⟨out2,h2,q2⟩:=ih (k+1) out1 (by omega) q1
  exact⟨out2,by rw [dA,h1];exact h2,q2⟩
theorem EZ: ∃out o m,bZ p s=some out∧II p s p.buses.toNat p.buses.toNat o m∧JJ p s m o p.sources.length out:=by
 have hb:=hp.b;have h4:=hp.sl
 obtain⟨o,m,h1,g⟩:=Mf hp hs p.buses.toNat 0 [] [] (by omega) ⟨fun h i q=>by simp [aJ]at q,fun h h' i q=>by simp [aJ]at q,fun b hb=>absurd hb (Nat.not_lt_zero _),fun j hj=>by simp at hj,fun j hj=>by simp at hj,Nat.le_refl _,fun j hj=>by simp at hj⟩
 obtain⟨out,h2,q⟩:=MV hp hs g p.sources.length 0 o (by omega) ⟨rfl,fun _ _=>rfl,fun j hj=>by rw [g.src j hj];simp,fun j hj=>by rw [g.src j hj];simp⟩
 refine⟨out,o,m, ?_,g,q⟩
 unfold bZ
 simp only [gq,Option.bind_some]
 rw [qP hp hs,Option.bind_some]
 have e1:aL (aT p s ⟨(kT p s p.links.length).1⟩) FUEL (([]:List af),([]:List (Int × Int)),0)=some (.brk (o,m)):=lC h1 (by unfold FUEL;omega)
 have e2:aL (aU p s ⟨(kT p s p.links.length).1⟩ m) FUEL (o,0)=some (.brk out):=lC h2 (by unfold FUEL;omega)
 rw [e1]
 simp only [Option.bind_some]
 rw [e2]
 rfl
end
def fG (v:Bool) (o:List Bool) (l:List Int):List Bool:=l.foldl (fun o x=>o.set x.toNat v) o
theorem iN (v:Bool): ∀(l:List Int) (o:List Bool),(fG v o l).length=o.length
 |[],_=>rfl
 |x::l,o=>by
  show(fG v (o.set x.toNat v) l).length=_
  rw [iN v l,List.length_set]
theorem wz (v:Bool) (o:List Bool) (l:List Int) (x:Int):fG v o (l++[x])=(fG v o l).set x.toNat v:=by simp [fG]
theorem vw (v:Bool): ∀(l:List Int) (o:List Bool) (j:Nat),(∀x∈l,0≤x)→j<o.length→at' (fG v o l) j=if(j:Int)∈l then v else at' o j
 |[],o,j,_,_=>by simp [fG]
 |x::l,o,j,h,hj=>by
  show at' (fG v (o.set x.toNat v) l) j=_
  rw [vw v l _ j (fun y hy=>h y (List.mem_cons_of_mem _ hy)) (by rw [List.length_set];exact hj)]
  have hx:=h x List.mem_cons_self
  by_cases e:(j:Int)∈l
  ·rw [if_pos e,if_pos (List.mem_cons_of_mem _ e)]
  ·rw [if_neg e]
   by_cases e2:x.toNat=j
   ·subst e2
    rw [bH hj,if_pos (by rw [Int.toNat_of_nonneg hx];exact List.mem_cons_self)]
   ·rw [bI e2,if_neg]
    intro hm
    rcases List.mem_cons.mp hm with h1|h1
    ·omega
    ·exact e h1
def xB (n:Nat) (l:List af):List Bool:=l.foldl (fun o x=>fG (decide (0<(x.sources.length:Int))) o x.buses) (List.replicate n false)
theorem Ah (n:Nat) (l:List af) (x:af):xB n (l++[x])=fG (decide (0<(x.sources.length:Int))) (xB n l) x.buses:=by simp [xB]
theorem pR (n:Nat) (l:List af):(xB n l).length=n:=by
 unfold xB
 suffices∀(l:List af) (o:List Bool),(l.foldl (fun o x=>fG (decide (0<(x.sources.length:Int))) o x.buses) o).length=o.length by rw [this];simp
 intro l
 induction l with
 |nil=>intro o;rfl
 |cons x l ih=>intro o;rw [List.foldl_cons,ih,iN]
def yI (p:aj) (s:State) (b:Nat):Prop:=at' s.badBus b=false∧ ∃k,k<p.sources.length∧jd p s k=true∧ ∃l,Wk p s (at' p.sources k).bus.toNat l b
section
variable {p:aj} {s:State} (hp:VP p) (hs:VS p s)
include hp hs
theorem KS {out:List af} {j:Nat} (hj:j<out.length) (hx: ∀x∈(at' out j).buses,0≤x∧x<p.buses) (hl:(at' out j).buses.length≤1000) {o:List Bool} (ho:(o.length:Int)=p.buses):
  aL (gH out (j:Int)) FUEL (o,0)=some (.brk (fG (decide (0<((at' out j).sources.length:Int))) o (at' out j).buses)):=by
 have key:aL (gH out (j:Int)) FUEL (fG (decide (0<((at' out j).sources.length:Int))) o ((at' out j).buses.take 0),((0:Nat):Int))=some (.brk (fG (decide (0<((at' out j).sources.length:Int))) o (at' out j).buses)):=by
  refine bJ (fun i=>(fG (decide (0<((at' out j).sources.length:Int))) o ((at' out j).buses.take i),(i:Int))) (at' out j).buses.length _ (fuel_lt (by omega)) (fun i hi=> ?_) ?_
  ·have hd:decide ((i:Int)<((at' out j).buses.length:Int))=true:=decide_eq_true (by omega)
   have hm:=hx _ (at_mem hi)
   have hlen:=iN (decide (0<((at' out j).sources.length:Int))) ((at' out j).buses.take i) o
   unfold gH
   simp only [Int.toNat_natCast]
   rw [hd,cond_true,aK (by omega),aK (by omega),wr (by omega),jD hi,wz]
   rfl
  ·have hd:decide (((at' out j).buses.length:Int)<((at' out j).buses.length:Int))=false:=decide_eq_false (by omega)
   unfold gH
   simp only [Int.toNat_natCast]
   rw [hd,cond_false,List.take_length]
 exact key
theorem J5: ∃L,jA p s=some (L,0)∧(L.length:Int)=p.buses∧ ∀b:Nat,(b:Int)<p.buses→(at' L b=true↔yI p s b):=by
 have hb:=hp.b;have h4:=hp.sl
 obtain⟨out,o,m,e,g,q⟩:=EZ hp hs
 have hlen:=q.len
 have hgl:=g.len
 have hbus: ∀j,j<out.length→ ∀x∈(at' out j).buses,∃b:Nat,x=b∧(b:Int)<p.buses∧at' s.badBus b=false∧aJ bB (aI p s b) m=some (j:Int):=by
  intro j hj x hx
  rw [q.bus j hj]at hx
  obtain⟨b,h1,h2,h3,h5⟩:=g.mem j (by omega) x hx
  exact⟨b,h1,by omega,h3,h5⟩
 have hx: ∀j,j<out.length→ ∀x∈(at' out j).buses,0≤x∧x<p.buses:=by
  intro j hj x hx
  obtain⟨b,h1,h2,_⟩:=hbus j hj x hx
  omega
 have hl: ∀j,j<out.length→(at' out j).buses.length≤1000:=by
  intro j hj;rw [q.bus j hj];have:=g.bl j (by omega);omega
 have hL:aL (gI out) FUEL (xB p.buses.toNat (out.take 0),((0:Nat):Int))=some (.brk (xB p.buses.toNat out)):=by
  refine bJ (fun i=>(xB p.buses.toNat (out.take i),(i:Int))) out.length _ (fuel_lt (by omega)) (fun i hi=> ?_) ?_
  ·have hd:decide ((i:Int)<(out.length:Int))=true:=decide_eq_true (by omega)
   have hlo:=pR p.buses.toNat (out.take i)
   unfold gI
   simp only
   rw [hd,cond_true,aK (by omega),KS hp hs hi (hx i hi) (hl i hi) (by omega)]
   simp only [Option.bind_some]
   rw [wr (by omega),jD hi,Ah]
   rfl
  ·have hd:decide ((out.length:Int)<(out.length:Int))=false:=decide_eq_false (by omega)
   unfold gI
   simp only
   rw [hd,cond_false,List.take_length]
 have hat: ∀n,n≤out.length→ ∀b:Nat,(b:Int)<p.buses→(at' (xB p.buses.toNat (out.take n)) b=true↔ ∃j,j<n∧(b:Int)∈(at' out j).buses∧(at' out j).sources≠[]):=by
  intro n
  induction n with
  |zero=>
   intro _ b hb'
   rw [List.take_zero]
   show at' (List.replicate p.buses.toNat false) b=true↔_
   rw [fJ (by omega)]
   simp
  |succ n ih=>
   intro hn b hb'
   have hln:=pR p.buses.toNat (out.take n)
   rw [jD (by omega),Ah,vw _ _ _ _ (fun x h=>(hx n (by omega) x h).1) (by omega)]
   by_cases hm:(b:Int)∈(at' out n).buses
   ·rw [if_pos hm]
    have huniq: ∀j,j<out.length→(b:Int)∈(at' out j).buses→j=n:=by
     intro j hj hmj
     obtain⟨b1,e1,_,_,f1⟩:=hbus n (by omega) _ hm
     obtain⟨b2,e2,_,_,f2⟩:=hbus j hj _ hmj
     have:b1=b2:=by omega
     subst this
     rw [f1]at f2
     have:=Option.some.inj f2
     omega
    constructor
    ·intro hd
     refine⟨n,by omega,hm,fun hn=> ?_⟩
     rw [hn]at hd;simp at hd
    ·rintro ⟨j,hj,hmj,hsj⟩
     have:=huniq j (by omega) hmj
     subst this
     have:=List.length_pos_iff.mpr hsj
     exact decide_eq_true (by omega)
   ·rw [if_neg hm,ih (by omega) b hb']
    constructor
    ·rintro ⟨j,hj,h⟩;exact⟨j,by omega,h⟩
    ·rintro ⟨j,hj,h⟩
     have:j≠n:=fun e=>by subst e;exact hm h.1
     exact⟨j,by omega,h⟩
 refine⟨xB p.buses.toNat out, ?_,by rw [pR];omega,fun b hb'=> ?_⟩
 ·unfold jA
  have h0:uW p s=0:=wh.mpr ⟨hp,hs⟩
  rw [mD p s hp.small,h0,Option.bind_some]
  simp only [decide_true,Bool.not_true,cond_false]
  rw [aK ⟨by omega,by omega,by omega⟩,e,Option.bind_some]
  have hL':aL (gI out) FUEL (List.replicate p.buses.toNat false,0)=some (.brk (xB p.buses.toNat out)):=hL
  rw [hL'];rfl
 ·have:=hat out.length (Nat.le_refl _) b hb'
  rw [List.take_length]at this
  rw [this]
  constructor
  ·rintro ⟨j,hj,hm,hsj⟩
   obtain⟨b1,e1,h1,hbad,f1⟩:=hbus j hj _ hm
   have:b1=b:=by omega
   subst this
   obtain⟨k,hk,hf,f2⟩:=(q.src j hj).mp hsj
   have hk2:=(hp.src k hk).bus
   have:=g.inj _ _ _ f1 f2
   obtain⟨l,w⟩:=(lJ hp (by omega) hb').mp this.symm
   exact⟨hbad,k,hk,hf,l,w⟩
  ·rintro ⟨hbad,k,hk,hf,l,w⟩
   have hk2:=(hp.src k hk).bus
   have he:=(lJ (s:=s) hp (u:=(at' p.sources k).bus.toNat) (by omega) hb').mpr ⟨l,w⟩
   obtain⟨j,hj,hm⟩:=g.cov b (by omega) hbad
   have hjl:=(g.ix _ _ hj).2
   refine⟨j,by omega,by rw [q.bus j (by omega)];exact hm, ?_⟩
   rw [q.src j (by omega)]
   exact⟨k,hk,hf,by rw [he];exact hj⟩
omit hp hs
end
def rts (p:aj) (s:State):Nat→List Int
 |0=>[]
 |t+1=>if at' s.badBus t=true∨aI p s t∈rts p s t then rts p s t else rts p s t++[aI p s t]
def iA (p:aj) (s:State) (t:Nat) (h:Int):List Int:=List.map (fun b:Nat=>(Int.ofNat b)) ((List.range t).filter fun b=> !at' s.badBus b && decide (aI p s b=h))
def pF (p:aj) (s:State) (k:Nat) (h:Int):List Int:=List.map (fun i:Nat=>(Int.ofNat i)) ((List.range k).filter fun i=>jd p s i && decide (aI p s (at' p.sources i).bus.toNat=h))
def di (p:aj) (s:State) (t k:Nat):List af:=(rts p s t).map fun h=> ⟨iA p s t h,pF p s k h⟩
def BR (r:List Int):List (Int × Int):=tab r.length fun j=>(at' r j,(j:Int))
theorem ko {p:aj} {s:State} {h:Int}: ∀{t:Nat},h∈rts p s t↔ ∃b,b<t∧at' s.badBus b=false∧aI p s b=h
 |0=>by simp [rts]
 |t+1=>by
  have e:rts p s (t+1)=if at' s.badBus t=true∨aI p s t∈rts p s t then rts p s t else rts p s t++[aI p s t]:=rfl
  rw [e]
  by_cases c:at' s.badBus t=true∨aI p s t∈rts p s t
  ·rw [if_pos c,ko]
   constructor
   ·rintro ⟨b,h1,h2,h3⟩;exact⟨b,by omega,h2,h3⟩
   ·rintro ⟨b,h1,h2,h3⟩
    by_cases e:b=t
    ·subst e
     rcases c with c|c
     ·rw [h2]at c;cases c
     ·rw [h3]at c;exact ko.1 c
    ·exact⟨b,by omega,h2,h3⟩
  ·rw [if_neg c,List.mem_append,List.mem_singleton,ko]
   rw [not_or,Bool.not_eq_true]at c
   constructor
   ·rintro (⟨b,h1,h2,h3⟩|rfl)
    ·exact⟨b,by omega,h2,h3⟩
    ·exact⟨t,by omega,c.1,rfl⟩
   ·rintro ⟨b,h1,h2,h3⟩
    by_cases e:b=t
    ·subst e;exact .inr h3.symm
    ·exact .inl ⟨b,by omega,h2,h3⟩
theorem jS {p:aj} {s:State}: ∀t,(rts p s t).Nodup
 |0=>by simp [rts]
 |t+1=>by
  have e:rts p s (t+1)=if at' s.badBus t=true∨aI p s t∈rts p s t then rts p s t else rts p s t++[aI p s t]:=rfl
  rw [e]
  by_cases c:at' s.badBus t=true∨aI p s t∈rts p s t
  ·rw [if_pos c];exact jS t
  ·rw [if_neg c,List.nodup_append]
   refine⟨jS t,by simp,fun a ha b hb=> ?_⟩
   rw [List.mem_singleton]at hb
   subst hb
   exact fun e=>c (.inr (e ▸ ha))
theorem lT {p:aj} {s:State}: ∀t,(rts p s t).length≤t
 |0=>by simp [rts]
 |t+1=>by
  have e:rts p s (t+1)=if at' s.badBus t=true∨aI p s t∈rts p s t then rts p s t else rts p s t++[aI p s t]:=rfl
  have:=lT (p:=p) (s:=s) t
  rw [e];split
  ·omega
  ·rw [List.length_append,List.length_singleton];omega
theorem Lf {α:Type} (n:Nat) (f:Nat→α):tab (n+1) f=tab n f++[f n]:=by simp [tab,List.range_succ]
theorem mr {α:Type} {h:Int}: ∀{l m:List (Int × α)},aJ bB h l=none→aJ bB h (l++m)=aJ bB h m
 |[],_,_=>rfl
 |(k,v)::l,m,hn=>by
  unfold aJ at hn
  rw [List.cons_append]
  conv=>lhs;unfold aJ
  cases e:bB h k with
  |true=>rw [e]at hn;simp at hn
  |false=>rw [e]at hn;simp only [cond_false]at hn ⊢;exact mr hn
theorem qY {α:Type} {h:Int} {v:α}: ∀{l m:List (Int × α)},aJ bB h l=some v→aJ bB h (l++m)=some v
 |[],_,hn=>by simp [aJ]at hn
 |(k,w)::l,m,hn=>by
  unfold aJ at hn
  rw [List.cons_append]
  conv=>lhs;unfold aJ
  cases e:bB h k with
  |true=>rw [e]at hn;simpa using hn
  |false=>rw [e]at hn;simp only [cond_false]at hn ⊢;exact qY hn
theorem zi (r:List Int) (h:Int):BR (r++[h])=BR r++[(h,(r.length:Int))]:=by
 unfold BR
 rw [List.length_append,List.length_singleton,Lf]
 have e1:(tab r.length fun j=>(at' (r++[h]) j,(j:Int)))=tab r.length fun j=>(at' r j,(j:Int)):=G6 fun j hj=>by rw [fZ hj]
 rw [e1,iw]
theorem j5: ∀{n:Nat} {r:List Int} {h:Int},r.length=n→h ∉ r→aJ bB h (BR r)=none
 |0,r,h,hl,_=>by
  have:r=[]:=List.eq_nil_of_length_eq_zero hl
  subst this;rfl
 |n+1,r,h,hl,hn=>by
  rcases List.eq_nil_or_concat r with rfl|⟨q,x,rfl⟩
  ·simp at hl
  ·rw [List.concat_eq_append]at*
   rw [List.mem_append,List.mem_singleton,not_or]at hn
   rw [zi,mr (j5 (by simpa using hl) hn.1)]
   simp [aJ,Eg hn.2]
theorem yw: ∀{n:Nat} {r:List Int} {j:Nat},r.length=n→r.Nodup→j<r.length→aJ bB (at' r j) (BR r)=some (j:Int)
 |0,r,j,hl,_,hj=>by omega
 |n+1,r,j,hl,hn,hj=>by
  rcases List.eq_nil_or_concat r with rfl|⟨q,x,rfl⟩
  ·simp at hl
  ·rw [List.concat_eq_append]at*
   rw [List.nodup_append]at hn
   rw [List.length_append,List.length_singleton]at hj hl
   rw [zi]
   by_cases e:j=q.length
   ·subst e
    rw [iw,mr (j5 rfl fun hm=>hn.2.2 _ hm _ (List.mem_singleton_self x) rfl)]
    simp [aJ,xC]
   ·rw [fZ (by omega),qY (yw (show q.length=n by omega) hn.1 (by omega))]
theorem H9 {r:List Int} {h:Int} (hn:h ∉ r):dS bB h (r.length:Int) (BR r)=BR (r++[h]):=by
 rw [zi]
 have gen: ∀{l:List (Int × Int)} {v:Int},aJ bB h l=none→dS bB h v l=l++[(h,v)]:=by
  intro l v
  induction l with
  |nil=>intro _;rfl
  |cons a l ih=>
   obtain⟨k',v'⟩:=a
   intro hg
   unfold aJ at hg
   unfold dS
   cases e:bB h k' with
   |true=>rw [e]at hg;simp at hg
   |false=>rw [e]at hg;simp only [cond_false]at hg ⊢;rw [ih hg];rfl
 exact gen (j5 rfl hn)
theorem uZ {p:aj} {s:State} (t:Nat) (h:Int):iA p s (t+1) h=iA p s t h++(if(!at' s.badBus t && decide (aI p s t=h))=true then [(t:Int)]else []):=by
 unfold iA
 rw [List.range_succ,List.filter_append,List.map_append]
 congr 1
 by_cases c:(!at' s.badBus t && decide (aI p s t=h))=true
 ·simp only [List.filter_cons,List.filter_nil,c,if_true];rfl
 ·simp only [List.filter_cons,List.filter_nil,c,if_false];rfl
theorem AP {p:aj} {s:State} (k:Nat) (h:Int):pF p s (k+1) h=pF p s k h++(if(jd p s k && decide (aI p s (at' p.sources k).bus.toNat=h))=true then [(k:Int)]else []):=by
 unfold pF
 rw [List.range_succ,List.filter_append,List.map_append]
 congr 1
 by_cases c:(jd p s k && decide (aI p s (at' p.sources k).bus.toNat=h))=true
 ·simp only [List.filter_cons,List.filter_nil,c,if_true];rfl
 ·simp only [List.filter_cons,List.filter_nil,c,if_false];rfl
theorem xG {p:aj} {s:State} (t:Nat) (h:Int):(iA p s t h).length≤t:=by
 unfold iA;rw [List.length_map];exact Nat.le_trans (List.length_filter_le _ _) (by simp)
theorem D6 {p:aj} {s:State} (t:Nat) (h:Int):(pF p s t h).length≤t:=by
 unfold pF;rw [List.length_map];exact Nat.le_trans (List.length_filter_le _ _) (by simp)
theorem nL {α β:Type} [Inhabited α] [Inhabited β] {f:α→β} {l:List α} {j:Nat} (h:j<l.length):at' (l.map f) j=f (at' l j):=by
 rw [dY (by rw [List.length_map];exact h),dY h,List.getElem_map]
section
variable {p:aj} {s:State} (hp:VP p) (hs:VS p s)
include hp hs
theorem FM {t:Nat} (ht:(t:Int)<p.buses):aT p s ⟨(kT p s p.links.length).1⟩ (di p s t 0,BR (rts p s t),(t:Int))=some (.next (di p s (t+1) 0,BR (rts p s (t+1)),((t+1:Nat):Int))):=by
 have h3:=hs.badBus;have hb:=hp.b
 have hrl:=lT (p:=p) (s:=s) t
 have er:rts p s (t+1)=if at' s.badBus t=true∨aI p s t∈rts p s t then rts p s t else rts p s t++[aI p s t]:=rfl
 have ss0: ∀h,pF p s 0 h=[]:=fun h=>rfl
 have hil:(di p s t 0).length=(rts p s t).length:=by unfold di;rw [List.length_map]
 unfold aT
 dsimp only
 rw [Int.toNat_natCast,decide_eq_true ht,cond_true,aK (by omega),wr (by omega)]
 cases hbad:at' s.badBus t with
 |true=>
  rw [cond_true,er,if_pos (.inl hbad)]
  have:di p s (t+1) 0=di p s t 0:=by
   unfold di
   rw [er,if_pos (.inl hbad)]
   refine List.map_congr_left fun h _=> ?_
   rw [uZ,hbad,if_neg (by simp),List.append_nil]
  rw [this];rfl
 |false=>
  rw [cond_false,w9 hp,Option.bind_some]
  have eh:(kT p s p.links.length).2 (t:Int)=aI p s t:=rfl
  rw [eh]
  by_cases hm:aI p s t∈rts p s t
  ·obtain⟨j,hj,e⟩:=eY hm
   have hg:=yw rfl (jS t) hj
   rw [e]at hg
   rw [hg,er,if_pos (.inr hm)]
   have hbl:=xG (p:=p) (s:=s) t (aI p s t)
   have hat:at' (di p s t 0) j=⟨iA p s t (aI p s t),[]⟩:=by unfold di;rw [nL hj,e,ss0]
   rw [Option.isSome_some,Bool.not_true,cond_false,Option.getD_some,Int.toNat_natCast,hat,aK ⟨by omega,by simp;omega,by simp;omega⟩]
   refine congrArg (fun l=>some (bS.next (l,_,_))) ?_
   refine xN (by rw [List.length_set];unfold di;rw [List.length_map,List.length_map,er,if_pos (.inr hm)]) fun i hi=> ?_
   rw [List.length_set,hil]at hi
   have h2:at' (di p s (t+1) 0) i=⟨iA p s (t+1) (at' (rts p s t) i),[]⟩:=by
    have h3:rts p s (t+1)=rts p s t:=by rw [er,if_pos (.inr hm)]
    unfold di;rw [h3,nL hi,ss0]
   rw [h2,uZ,hbad]
   by_cases e2:j=i
   ·subst e2
    rw [bH (by omega),e]
    simp
   ·rw [bI e2]
    have:aI p s t≠at' (rts p s t) i:=fun q=>by
     have hn:=jS (p:=p) (s:=s) t
     rw [dY hi,←e,dY hj]at q
     exact e2 ((List.getElem_inj hn).1 q)
    rw [decide_eq_false this]
    unfold di;rw [nL hi,ss0];simp
  ·have hg:=j5 (r:=rts p s t) rfl hm
   have er2:rts p s (t+1)=rts p s t++[aI p s t]:=by rw [er,if_neg (fun q=>q.elim (fun q=>by rw [hbad]at q;cases q) hm)]
   have hg2:aJ bB (aI p s t) (dS bB (aI p s t) ((di p s t 0).length:Int) (BR (rts p s t)))=some ((di p s t 0).length:Int):=eu _ _ _
   have hms:dS bB (aI p s t) ((di p s t 0).length:Int) (BR (rts p s t))=BR (rts p s (t+1)):=by rw [hil,er2];exact H9 hm
   rw [hg]
   simp only [Option.isSome_none,Bool.not_false,cond_true,hg2,Option.getD_some,Int.toNat_natCast,iw]
   rw [aK ⟨by simp;omega,by simp;omega⟩,aK ⟨by simp;omega,by simp⟩,hms]
   refine congrArg (fun l=>some (bS.next (l,_,_))) ?_
   have hbs:iA p s t (aI p s t)=[]:=by
    unfold iA
    rw [List.map_eq_nil_iff,List.filter_eq_nil_iff]
    intro b hb2 hc
    simp only [Bool.and_eq_true,Bool.not_eq_true',decide_eq_true_eq]at hc
    exact hm (ko.2 ⟨b,List.mem_range.1 hb2,hc.1,hc.2⟩)
   refine xN (by rw [List.length_set,List.length_append,List.length_singleton,hil];unfold di;rw [List.length_map,er2,List.length_append,List.length_singleton]) fun i hi=> ?_
   rw [List.length_set,List.length_append,List.length_singleton,hil]at hi
   have h2:at' (di p s (t+1) 0) i=⟨iA p s (t+1) (at' (rts p s (t+1)) i),[]⟩:=by
    unfold di;rw [nL (by rw [er2,List.length_append,List.length_singleton];exact hi),ss0]
   rw [h2,uZ,hbad,er2]
   by_cases e2:i=(rts p s t).length
   ·subst e2
    rw [hil,bH (by rw [List.length_append,List.length_singleton,hil];omega),iw,hbs]
    simp
   ·rw [hil,bI (Ne.symm e2),fZ (by omega),fZ (by omega)]
    have:aI p s t≠at' (rts p s t) i:=fun q=>hm (q ▸ at_mem (by omega))
    rw [decide_eq_false this]
    unfold di;rw [nL (by omega),ss0];simp
theorem Ga {k:Nat} (hk:k<p.sources.length):aU p s ⟨(kT p s p.links.length).1⟩ (BR (rts p s p.buses.toNat)) (di p s p.buses.toNat k,(k:Int))=some (.next (di p s p.buses.toNat (k+1),((k+1:Nat):Int))):=by
 have hl:=(hp.src k hk).bus;have h1:=hs.on;have h2:=hs.badSource;have h3:=hs.badBus;have h4:=hp.sl;have hb:=hp.b
 have hrl:=lT (p:=p) (s:=s) p.buses.toNat
 have hcb:(bif (bif (at' s.on_ k)then(!(at' s.badSource k))else false)then(!(at' s.badBus (((at' p.sources k).bus).toNat)))else false)=jd p s k:=by
  unfold jd
  cases at' s.on_ k<;>cases at' s.badSource k<;>cases at' s.badBus (at' p.sources k).bus.toNat<;>rfl
 unfold aU
 dsimp only
 rw [Int.toNat_natCast,decide_eq_true (show(k:Int)<(p.sources.length:Int) by omega),cond_true,aK (by omega),aK ⟨by omega,fun _=>by omega,fun _=>by omega⟩,hcb,wr (by omega)]
 cases hf:jd p s k with
 |false=>
  have:di p s p.buses.toNat (k+1)=di p s p.buses.toNat k:=by
   unfold di
   refine List.map_congr_left fun h _=> ?_
   rw [AP,hf,if_neg (by simp),List.append_nil]
  rw [this];rfl
 |true=>
  have hbad:at' s.badBus (at' p.sources k).bus.toNat=false:=by
   unfold jd at hf
   revert hf
   cases at' s.badBus (at' p.sources k).bus.toNat<;>simp
  have hm:aI p s (at' p.sources k).bus.toNat∈rts p s p.buses.toNat:=ko.2 ⟨_,by omega,hbad,rfl⟩
  obtain⟨j,hj,e⟩:=eY hm
  have hg:=yw rfl (jS p.buses.toNat) hj
  rw [e]at hg
  have eh:(kT p s p.links.length).2 (at' p.sources k).bus=aI p s (at' p.sources k).bus.toNat:=by unfold aI;rw [Int.toNat_of_nonneg (by omega)]
  have hil: ∀k,(di p s p.buses.toNat k).length=(rts p s p.buses.toNat).length:=fun k=>by unfold di;rw [List.length_map]
  have hat:at' (di p s p.buses.toNat k) j=⟨iA p s p.buses.toNat (aI p s (at' p.sources k).bus.toNat),pF p s k (aI p s (at' p.sources k).bus.toNat)⟩:=by unfold di;rw [nL hj,e]
  have hsl:=D6 (p:=p) (s:=s) k (aI p s (at' p.sources k).bus.toNat)
  rw [cond_true,w9 hp,Option.bind_some,eh,hg,Option.getD_some,Int.toNat_natCast,hat,aK ⟨by rw [hil];omega,by simp;omega,by simp;omega⟩]
  refine congrArg (fun l=>some (bS.next (l,_))) ?_
  refine xN (by rw [List.length_set,hil,hil]) fun i hi=> ?_
  rw [List.length_set,hil]at hi
  have h5:at' (di p s p.buses.toNat (k+1)) i=⟨iA p s p.buses.toNat (at' (rts p s p.buses.toNat) i),pF p s (k+1) (at' (rts p s p.buses.toNat) i)⟩:=by unfold di;rw [nL hi]
  rw [h5,AP,hf]
  by_cases e2:j=i
  ·subst e2
   rw [bH (by rw [hil];omega),e]
   simp
  ·rw [bI e2]
   have:aI p s (at' p.sources k).bus.toNat≠at' (rts p s p.buses.toNat) i:=fun q=>by
    have hn:=jS (p:=p) (s:=s) p.buses.toNat
    rw [dY hi,←e,dY hj]at q
    exact e2 ((List.getElem_inj hn).1 q)
   rw [decide_eq_false this]
   unfold di;rw [nL hi];simp
theorem zS:bZ p s=some (di p s p.buses.toNat p.sources.length):=by
 have hb:=hp.b;have h4:=hp.sl
 unfold bZ
 simp only [gq,Option.bind_some]
 rw [qP hp hs,Option.bind_some]
 have e1:aL (aT p s ⟨(kT p s p.links.length).1⟩) FUEL (di p s 0 0,BR (rts p s 0),((0:Nat):Int))=some (.brk (di p s p.buses.toNat 0,BR (rts p s p.buses.toNat))):=by
  refine bJ (fun t=>(di p s t 0,BR (rts p s t),(t:Int))) p.buses.toNat _ (fuel_lt (by omega)) (fun t ht=>FM hp hs (by omega)) ?_
  unfold aT
  dsimp only
  rw [decide_eq_false (by omega)];rfl
 have e1':aL (aT p s ⟨(kT p s p.links.length).1⟩) FUEL (([]:List af),([]:List (Int × Int)),0)=_:=e1
 have e2:aL (aU p s ⟨(kT p s p.links.length).1⟩ (BR (rts p s p.buses.toNat))) FUEL (di p s p.buses.toNat 0,((0:Nat):Int))=some (.brk (di p s p.buses.toNat p.sources.length)):=by
  refine bJ (fun k=>(di p s p.buses.toNat k,(k:Int))) p.sources.length _ (fuel_lt (by omega)) (fun k hk=>Ga hp hs hk) ?_
  unfold aU
  dsimp only
  rw [decide_eq_false (by omega)];rfl
 have e2':aL (aU p s ⟨(kT p s p.links.length).1⟩ (BR (rts p s p.buses.toNat))) FUEL (di p s p.buses.toNat 0,0)=_:=e2
 rw [e1']
 simp only [Option.bind_some]
 rw [e2'];rfl
end
theorem FI (a b:Bool):(bif a then true else b)=(a||b):=by cases a<;>rfl
theorem Rt {a b:Int} (h:a<b):decide (a<b)=true:=decide_eq_true h
section
variable {p:aj} {s:State} (hp:VP p) (hs:VS p s)
include hp
include hs
end
def D8 (p:aj) (c:Nat→Bool) (o:List Bool) (i:Nat):List Bool:=
 bif c i && (at' o (at' p.links i).a.toNat||at' o (at' p.links i).b.toNat)then(o.set (at' p.links i).a.toNat true).set (at' p.links i).b.toNat true else o
def xq (p:aj) (c:Nat→Bool) (o:List Bool):Nat→List Bool
 |0=>o
 |n+1=>D8 p c (xq p c o n) n
def oC (p:aj) (c:Nat→Bool) (o:List Bool):Nat→List Bool
 |0=>o
 |n+1=>xq p c (oC p c o n) p.links.length
theorem at_set {o:List Bool} {a v:Nat} (hv:v<o.length):at' (o.set a true) v=(decide (v=a)||at' o v):=by
 by_cases e:v=a
 ·subst e;rw [bH hv];simp
 ·rw [bI (Ne.symm e)];simp [e]
theorem Fa (p:aj) (c:Nat→Bool) (o:List Bool) (i:Nat):(D8 p c o i).length=o.length:=by
 unfold D8;cases(c i && (at' o (at' p.links i).a.toNat||at' o (at' p.links i).b.toNat))<;>simp
theorem nR (p:aj) (c:Nat→Bool) (o:List Bool): ∀n,(xq p c o n).length=o.length
 |0=>rfl
 |n+1=>by rw [xq,Fa,nR p c o n]
theorem jZ (p:aj) (c:Nat→Bool) (o:List Bool): ∀n,(oC p c o n).length=o.length
 |0=>rfl
 |n+1=>by rw [oC,nR,jZ p c o n]
theorem tV {o:List Bool} {a:Nat} (ha:a<o.length):(at' o a=true→o.set a true=o)∧(at' o a=false→oQ (o.set a true)=oQ o+1):=by
 refine⟨fun h=>xN (by simp) fun i hi=> ?_,fun h=> ?_⟩
 ·rw [at_set (by simpa using hi)]
  by_cases e:i=a
  ·subst e;simp [h]
  ·simp [e]
 ·have h2:=yN (o.set a true) a (by simpa using ha) (by rw [at_set ha];simp)
  rw [List.set_set]at h2
  have:o.set a false=o:=xN (by simp) fun i hi=>by
   by_cases e:i=a
   ·subst e;rw [bH ha,h]
   ·rw [bI (Ne.symm e)]
  rw [this]at h2
  omega
section
variable {p:aj} {c:Nat→Bool} (hp:VP p)
include hp
theorem JF {o:List Bool} (ho:(o.length:Int)=p.buses) {i:Nat} (hi:i<p.links.length):
  (D8 p c o i=o∧(c i=true→at' o (at' p.links i).a.toNat=at' o (at' p.links i).b.toNat))∨oQ o<oQ (D8 p c o i):=by
 have hl:=hp.lnk i hi
 have ha:=hl.a;have hb:=hl.b;have hne:=hl.ab
 have ka:(at' p.links i).a.toNat<o.length:=by omega
 have kb:(at' p.links i).b.toNat<o.length:=by omega
 have kn:(at' p.links i).b.toNat≠(at' p.links i).a.toNat:=by omega
 unfold D8
 generalize (at' p.links i).a.toNat=a at*
 generalize (at' p.links i).b.toNat=b at*
 cases hc:c i with
 |false=>left;exact⟨rfl,fun h=>by cases h⟩
 |true=>
  obtain⟨a1,a2⟩:=tV ka
  have hba:at' (o.set a true) b=at' o b:=bI (Ne.symm kn)
  obtain⟨b1,b2⟩:=tV (o:=o.set a true) (a:=b) (by simpa using kb)
  rw [hba]at b1 b2
  cases h1:at' o a with
  |true=>
   rw [a1 h1]at b1 b2 ⊢
   cases h2:at' o b with
   |true=>left;simp [b1 h2,h1,h2]
   |false=>right;have:=b2 h2;simp [h1];omega
  |false=>
   have a2:=a2 h1
   cases h2:at' o b with
   |true=>right;have:=b1 h2;simp [this];omega
   |false=>left;simp [h1,h2]
theorem zf {o:List Bool} (ho:(o.length:Int)=p.buses): ∀n,n≤p.links.length→
  (xq p c o n=o∧ ∀i,i<n→c i=true→at' o (at' p.links i).a.toNat=at' o (at' p.links i).b.toNat)∨oQ o<oQ (xq p c o n)
 |0,_=> .inl ⟨rfl,fun i hi=>absurd hi (Nat.not_lt_zero i)⟩
 |n+1,hn=>by
  have ih:=zf ho n (by omega)
  have st:=JF hp (c:=c) (o:=xq p c o n) (by rw [nR];exact ho) (i:=n) (by omega)
  rw [xq]
  rcases ih with⟨e,h⟩|h
  ·rw [e]at st ⊢
   rcases st with⟨e2,h2⟩|h2
   ·left
    refine⟨e2,fun i hi hc=> ?_⟩
    by_cases q:i=n
    ·subst q;exact h2 hc
    ·exact h i (by omega) hc
   ·right;exact h2
  ·right
   rcases st with⟨e2,_⟩|h2
   ·rw [e2];exact h
   ·omega
theorem E8 {o:List Bool} (ho:(o.length:Int)=p.buses) {m:Nat} (h1:m≤oQ o): ∀n,xq p c (oC p c o n) p.links.length=oC p c o n∨n+m≤oQ (oC p c o n)
 |0=> .inr (by rw [Nat.zero_add];exact h1)
 |n+1=>by
  rcases E8 ho h1 n with e|e
  ·left;rw [oC,e,e]
  ·rcases zf hp (c:=c) (o:=oC p c o n) (by rw [jZ];exact ho) p.links.length (Nat.le_refl _)with⟨q,_⟩|q
   ·left;rw [oC,q,q]
   ·right;rw [oC];omega
theorem MO {D:Nat→Prop} (hD: ∀u i w,D u→i<p.links.length→c i=true→((at' p.links i).a.toNat=u∧(at' p.links i).b.toNat=w∨(at' p.links i).b.toNat=u∧(at' p.links i).a.toNat=w)→D w)
  {o:List Bool} (ho:(o.length:Int)=p.buses) (h: ∀v,v<o.length→at' o v=true→D v) {i:Nat} (hi:i<p.links.length): ∀v,v<(D8 p c o i).length→at' (D8 p c o i) v=true→D v:=by
 intro v hv hm
 rw [Fa]at hv
 have hl:=hp.lnk i hi
 have ha:=hl.a;have hb:=hl.b
 unfold D8 at hm
 cases hc:c i with
 |false=>rw [hc]at hm;exact h v hv hm
 |true=>
  cases hq:(at' o (at' p.links i).a.toNat||at' o (at' p.links i).b.toNat)with
  |false=>rw [hc,hq]at hm;exact h v hv hm
  |true=>
   rw [hc,hq]at hm
   simp only [Bool.and_self,cond_true]at hm
   rw [at_set (by simpa using hv),at_set hv]at hm
   simp only [Bool.or_eq_true,decide_eq_true_eq]at hm hq
   rcases hm with e|e|e
   ·rcases hq with q|q
    ·exact hD _ i _ (h _ (by omega) q) hi hc (.inl ⟨rfl,e.symm⟩)
    ·rw [e];exact h _ (by omega) q
   ·rcases hq with q|q
    ·rw [e];exact h _ (by omega) q
    ·exact hD _ i _ (h _ (by omega) q) hi hc (.inr ⟨rfl,e.symm⟩)
   ·exact h v hv e
theorem Iu {D:Nat→Prop} (hD: ∀u i w,D u→i<p.links.length→c i=true→((at' p.links i).a.toNat=u∧(at' p.links i).b.toNat=w∨(at' p.links i).b.toNat=u∧(at' p.links i).a.toNat=w)→D w)
  {o:List Bool} (ho:(o.length:Int)=p.buses) (h: ∀v,v<o.length→at' o v=true→D v): ∀n,n≤p.links.length→ ∀v,v<(xq p c o n).length→at' (xq p c o n) v=true→D v
 |0,_=>h
 |n+1,hn=>MO hp hD (by rw [nR];exact ho) (Iu hD ho h n (by omega)) (by omega)
theorem Em {D:Nat→Prop} (hD: ∀u i w,D u→i<p.links.length→c i=true→((at' p.links i).a.toNat=u∧(at' p.links i).b.toNat=w∨(at' p.links i).b.toNat=u∧(at' p.links i).a.toNat=w)→D w)
  {o:List Bool} (ho:(o.length:Int)=p.buses) (h: ∀v,v<o.length→at' o v=true→D v): ∀n,∀v,v<(oC p c o n).length→at' (oC p c o n) v=true→D v
 |0=>h
 |n+1=>Iu hp hD (by rw [jZ];exact ho) (Em hD ho h n) _ (Nat.le_refl _)
theorem HZ {o:List Bool} {v i:Nat} (hv:v<o.length) (h:at' o v=true):at' (D8 p c o i) v=true:=by
 unfold D8
 cases(c i && (at' o (at' p.links i).a.toNat||at' o (at' p.links i).b.toNat))with
 |false=>exact h
 |true=>rw [cond_true,at_set (by simpa using hv),at_set hv,h];simp
theorem Df {o:List Bool} {v:Nat} (hv:v<o.length) (h:at' o v=true): ∀n,at' (xq p c o n) v=true
 |0=>h
 |n+1=>HZ hp (by rw [nR];exact hv) (Df hv h n)
theorem yt {o:List Bool} {v:Nat} (hv:v<o.length) (h:at' o v=true): ∀n,at' (oC p c o n) v=true
 |0=>h
 |n+1=>Df hp (by rw [jZ];exact hv) (yt hv h n) _
theorem yJ {o:List Bool} (ho:(o.length:Int)=p.buses) {n:Nat} (hB:n+oQ o≤oQ (oC p c o n)→ ∀i,i<p.links.length→c i=true→at' (oC p c o n) (at' p.links i).a.toNat=at' (oC p c o n) (at' p.links i).b.toNat):
  ∀i,i<p.links.length→c i=true→at' (oC p c o n) (at' p.links i).a.toNat=at' (oC p c o n) (at' p.links i).b.toNat:=by
 rcases E8 hp (c:=c) ho (Nat.le_refl _) n with h|h
 ·rcases zf hp (c:=c) (o:=oC p c o n) (by rw [jZ];exact ho) p.links.length (Nat.le_refl _)with⟨_,q⟩|q
  ·exact q
  ·rw [h]at q;exact absurd q (Nat.lt_irrefl _)
 ·exact hB h
end
theorem Ik {b w:Bool} {l:List (Bool × Bool)} (h:gB ((b,w)::l)=true):b=w:=by
 simp only [gB,Bool.and_eq_true,beq_iff_eq]at h;exact h.1
theorem IV {o:List Bool} (h:o.length≤oQ o): ∀i,i<o.length→at' o i=true:=by
 intro i hi
 have h2:o.countP id=o.length:=Nat.le_antisymm List.countP_le_length h
 exact List.countP_eq_length.1 h2 _ (at_mem hi)
theorem yM: ∀(l:List Int) (o:List Bool),(∀v,v<o.length→at' o v=true→(v:Int)∈l)→oQ o≤l.length
 |[],o,h=>by
  have:o.countP id=0:=List.countP_eq_zero.2 fun x hx=>by
   obtain⟨i,hi,e⟩:=eY hx
   intro q
   have q2:at' o i=true:=e.trans q
   exact absurd (h i hi q2) (by simp)
  unfold oQ;omega
 |x::l,o,h=>by
  by_cases hx:x.toNat<o.length∧at' o x.toNat=true
  ·have h1:=yN o x.toNat hx.1 hx.2
   have h2:=yM l (o.set x.toNat false) (fun v hv hq=>by
    rw [List.length_set]at hv
    by_cases e:x.toNat=v
    ·subst e;rw [bH hv]at hq;cases hq
    ·rw [bI e]at hq
     rcases List.mem_cons.1 (h v hv hq)with e2|e2
     ·exact absurd (by omega) e
     ·exact e2)
   rw [List.length_cons];omega
  ·have h2:=yM l o (fun v hv hq=>by
    rcases List.mem_cons.1 (h v hv hq)with e2|e2
    ·subst e2;exact absurd ⟨by simpa using hv,by simpa using hq⟩ hx
    ·exact e2)
   rw [List.length_cons];omega
section
variable {p:aj} {s:State} (hp:VP p) (hs:VS p s)
include hp hs
theorem qf {i:Nat} (hi:i<p.links.length):dZ p s (i:Int)=some (bn p s i):=by
 have hl:=hp.lnk i hi
 have ha:=hl.a;have hb:=hl.b
 have h1:=hs.closed;have h3:=hs.badLink;have h7:=hs.badBus
 unfold dZ bn
 rw [aK (by omega),Int.toNat_natCast,aK ⟨by omega,fun _=>by omega,fun _=>by omega,fun _=>by omega⟩]
 cases at' s.closed i<;>cases at' s.badLink i<;>cases at' s.badBus (at' p.links i).a.toNat<;>cases at' s.badBus (at' p.links i).b.toNat<;>rfl
def wo (p:aj) (s:State):Nat→List Bool
 |0=>List.replicate p.buses.toNat false
 |k+1=>(wo p s k).set (at' p.sources k).bus.toNat (at' (wo p s k) (at' p.sources k).bus.toNat||jd p s k)
omit hp hs in
theorem vv: ∀k,(wo p s k).length=p.buses.toNat
 |0=>by simp [wo]
 |k+1=>by rw [wo,List.length_set,vv k]
omit hp hs in
theorem FE: ∀k v,v<p.buses.toNat→(at' (wo p s k) v=true↔ ∃j,j<k∧jd p s j=true∧(at' p.sources j).bus.toNat=v)
 |0,v,hv=>by rw [wo,fJ hv];simp
 |k+1,v,hv=>by
  rw [wo]
  by_cases e:(at' p.sources k).bus.toNat=v
  ·subst e
   rw [bH (by rw [vv];exact hv),Bool.or_eq_true,FE k _ hv]
   constructor
   ·rintro (⟨j,h1,h2,h3⟩|h)
    ·exact⟨j,by omega,h2,h3⟩
    ·exact⟨k,by omega,h,rfl⟩
   ·rintro ⟨j,h1,h2,h3⟩
    by_cases q:j=k
    ·subst q;exact .inr h2
    ·exact .inl ⟨j,by omega,h2,h3⟩
  ·rw [bI e,FE k _ hv]
   constructor
   ·rintro ⟨j,h1,h2,h3⟩;exact⟨j,by omega,h2,h3⟩
   ·rintro ⟨j,h1,h2,h3⟩
    by_cases q:j=k
    ·subst q;exact absurd h3 e
    ·exact⟨j,by omega,h2,h3⟩
theorem Kj:aL (dL p s) FUEL (List.replicate p.buses.toNat false,0)=some (.brk (wo p s p.sources.length)):=by
 have h4:=hp.sl
 refine bJ (body:=dL p s) (fun k=>(wo p s k,(k:Int))) p.sources.length _ (fuel_lt (by omega)) (fun k hk=> ?_) ?_
 ·have hl:=(hp.src k hk).bus;have h1:=hs.on;have h2:=hs.badSource;have h3:=hs.badBus
  have hw:=vv (p:=p) (s:=s) k
  unfold dL
  dsimp only
  rw [decide_eq_true (show(k:Int)<(p.sources.length:Int) by omega),cond_true,aK (by omega),Int.toNat_natCast,aK ⟨by omega,fun _=>by omega,fun _=>by omega,fun _=>by omega⟩,wr (by omega)]
  have:(bif at' (wo p s k) (at' p.sources k).bus.toNat then true else(bif (bif at' s.on_ k then(!(at' s.badSource k))else false)then(!(at' s.badBus (at' p.sources k).bus.toNat))else false))=(at' (wo p s k) (at' p.sources k).bus.toNat||jd p s k):=by
   unfold jd
   cases at' (wo p s k) (at' p.sources k).bus.toNat<;>cases at' s.on_ k<;>cases at' s.badSource k<;>cases at' s.badBus (at' p.sources k).bus.toNat<;>rfl
  rw [this];rfl
 ·unfold dL
  dsimp only
  rw [decide_eq_false (by omega)];rfl
omit hp hs in
theorem Ko {o:List Bool} {a b:Nat} (ha:a<o.length) (hb:b<o.length) (c:Bool):
  (bif (bif c then(!(at' o a==at' o b))else false)then(o.set a true).set b true else o)=bif c && (at' o a||at' o b)then(o.set a true).set b true else o:=by
 cases c with
 |false=>rfl
 |true=>
  cases h1:at' o a with
  |true=>
   cases h2:at' o b with
   |true=>
    have e1:=(tV ha).1 h1
    rw [e1,(tV hb).1 h2];rfl
   |false=>rfl
  |false=>cases h2:at' o b<;>rfl
theorem K5 {o:List Bool} (ho:(o.length:Int)=p.buses):aL (dG p s) FUEL (o,0)=some (.brk (xq p (bn p s) o p.links.length)):=by
 have h4:=hp.ll
 refine bJ (body:=dG p s) (fun k=>(xq p (bn p s) o k,(k:Int))) p.links.length _ (fuel_lt (by omega)) (fun k hk=> ?_) ?_
 ·have hl:=hp.lnk k hk
  have ha:=hl.a;have hb:=hl.b
  have hw:=nR p (bn p s) o k
  unfold dG
  dsimp only
  rw [decide_eq_true (show(k:Int)<(p.links.length:Int) by omega),cond_true,aK (by omega),qf hp hs hk,Option.bind_some,Int.toNat_natCast,aK ⟨fun _=>by omega,fun _=>by omega⟩,aK ⟨by omega,by omega⟩,wr (by omega)]
  have e:=Ko (o:=xq p (bn p s) o k) (a:=(at' p.links k).a.toNat) (b:=(at' p.links k).b.toNat) (by omega) (by omega) (bn p s k)
  rw [show xq p (bn p s) o (k+1)=D8 p (bn p s) (xq p (bn p s) o k) k from rfl]
  unfold D8
  rw [←e]
  cases(bif bn p s k then(!(at' (xq p (bn p s) o k) (at' p.links k).a.toNat==at' (xq p (bn p s) o k) (at' p.links k).b.toNat))else false)<;>rfl
 ·unfold dG
  dsimp only
  rw [decide_eq_false (by omega)];rfl
theorem JY {o:List Bool} (ho:(o.length:Int)=p.buses):aL (dM p s) FUEL (o,0)=some (.brk (oC p (bn p s) o p.buses.toNat)):=by
 have h4:=hp.b
 refine bJ (body:=dM p s) (fun k=>(oC p (bn p s) o k,(k:Int))) p.buses.toNat _ (fuel_lt (by omega)) (fun k hk=> ?_) ?_
 ·have hw:=jZ p (bn p s) o k
  unfold dM
  dsimp only
  rw [decide_eq_true (show(k:Int)<p.buses by omega),cond_true,K5 hp hs (by omega),Option.bind_some,wr (by omega)]
  rfl
 ·unfold dM
  dsimp only
  rw [decide_eq_false (by omega)];rfl
theorem Ii {b:Nat} (hb:b<p.buses.toNat):at' (oC p (bn p s) (wo p s p.sources.length) p.buses.toNat) b=true↔yI p s b:=by
 have hP:=hp.b
 have hw:=vv (p:=p) (s:=s) p.sources.length
 have ho:((wo p s p.sources.length).length:Int)=p.buses:=by omega
 have hcond: ∀i,bn p s i=true→at' s.badBus (at' p.links i).a.toNat=false∧at' s.badBus (at' p.links i).b.toNat=false:=by
  intro i h
  unfold bn at h
  simp only [Bool.and_eq_true,Bool.not_eq_true']at h
  exact⟨h.1.2,h.2⟩
 have hl:=jZ p (bn p s) (wo p s p.sources.length) p.buses.toNat
 constructor
 ·refine Em hp (c:=bn p s) (D:=fun v=>yI p s v) (fun u i w h hi hc he=> ?_) ho (fun v hv h=> ?_) _ b (by omega)
  ·obtain⟨hu,k,hk,hf,l,hW⟩:=h
   refine⟨?_,k,hk,hf,_,hW.snoc hi hc he⟩
   rcases he with⟨_,e⟩|⟨_,e⟩
   ·rw [←e];exact(hcond i hc).2
   ·rw [←e];exact(hcond i hc).1
  ·obtain⟨j,h1,h2,h3⟩:=(FE _ v (by omega)).1 h
   refine⟨?_,j,h1,h2,[],by rw [h3];exact .nil⟩
   have:at' s.badBus (at' p.sources j).bus.toNat=false:=by
    unfold jd at h2
    simp only [Bool.and_eq_true,Bool.not_eq_true']at h2
    exact h2.2
   rw [←h3];exact this
 ·rintro ⟨hu,k,hk,hf,l,hW⟩
  have hsb:=(hp.src k hk).bus
  have hcl:=yJ hp (c:=bn p s) ho (n:=p.buses.toNat) (fun hc i hi _=>by
   have hall:=IV (o:=oC p (bn p s) (wo p s p.sources.length) p.buses.toNat) (by omega)
   have ha:=(hp.lnk i hi).a;have hb:=(hp.lnk i hi).b
   rw [hall _ (by omega),hall _ (by omega)])
  have h0:at' (oC p (bn p s) (wo p s p.sources.length) p.buses.toNat) (at' p.sources k).bus.toNat=true:=yt hp (by omega) ((FE _ _ (by omega)).2 ⟨k,hk,hf,rfl⟩) _
  clear hu hb
  induction hW with
  |nil=>exact h0
  |snoc _ hi hc he ih=>
   have:=hcl _ hi hc
   rcases he with⟨e1,e2⟩|⟨e1,e2⟩
   ·rw [←e2,←this,e1];exact ih
   ·rw [←e2,this,e1];exact ih
theorem GJ {l:List Int} (hn:0<l.length) (hr: ∀x∈l,0≤x∧x<p.buses) (hl:l.length≤1000)
  (hJ: ∀v:Nat,(v:Int)∈l→ ∃m,Wk p s (at' l 0).toNat m v) (hC: ∀i,i<p.links.length→bn p s i=true→((at' p.links i).a∈l↔(at' p.links i).b∈l)):
  ig p s l=some true:=by
 have hP:=hp.b;have h4:=hp.ll
 have hin:(fG true (List.replicate p.buses.toNat false) l).length=p.buses.toNat:=by rw [iN,List.length_replicate]
 have hat: ∀v,v<p.buses.toNat→(at' (fG true (List.replicate p.buses.toNat false) l) v=decide ((v:Int)∈l)):=by
  intro v hv
  rw [vw _ _ _ _ (fun x hx=>(hr x hx).1) (by simpa using hv),fJ hv]
  by_cases e:(v:Int)∈l
  ·rw [if_pos e,decide_eq_true e]
  ·rw [if_neg e,decide_eq_false e]
 have L0:aL (fE l) FUEL (List.replicate p.buses.toNat false,0)=some (.brk (fG true (List.replicate p.buses.toNat false) l)):=by
  refine bJ (body:=fE l) (fun k=>(fG true (List.replicate p.buses.toNat false) (l.take k),(k:Int))) l.length _ (fuel_lt (by omega)) (fun k hk=> ?_) ?_
  ·have hx:=hr _ (at_mem hk)
   have hw:(fG true (List.replicate p.buses.toNat false) (l.take k)).length=p.buses.toNat:=by rw [iN,List.length_replicate]
   unfold fE
   dsimp only
   rw [decide_eq_true (show(k:Int)<(l.length:Int) by omega),cond_true,Int.toNat_natCast,aK ⟨by omega,by omega⟩,wr (by omega),jD hk,wz]
   rfl
  ·unfold fE
   dsimp only
   rw [decide_eq_false (by omega),List.take_length];rfl
 generalize hI:fG true (List.replicate p.buses.toNat false) l=I at hin hat L0
 have L2: ∀o:List Bool,(o.length:Int)=p.buses→aL (fw p s I) FUEL (o,0)=some (.brk (xq p (fun i=>bn p s i && at' I (at' p.links i).a.toNat && at' I (at' p.links i).b.toNat) o p.links.length)):=by
  intro o ho
  refine bJ (body:=fw p s I) (fun k=>(xq p (fun i=>bn p s i && at' I (at' p.links i).a.toNat && at' I (at' p.links i).b.toNat) o k,(k:Int))) p.links.length _ (fuel_lt (by omega)) (fun k hk=> ?_) ?_
  ·have hl:=hp.lnk k hk
   have ha:=hl.a;have hb:=hl.b
   have hw:=nR p (fun i=>bn p s i && at' I (at' p.links i).a.toNat && at' I (at' p.links i).b.toNat) o k
   unfold fw
   dsimp only
   rw [decide_eq_true (show(k:Int)<(p.links.length:Int) by omega),cond_true,aK (by omega),qf hp hs hk,Option.bind_some,Int.toNat_natCast,aK ⟨fun _=>by omega,fun _=>by omega,fun _=>by omega,fun _=>by omega⟩,aK ⟨by omega,by omega⟩,wr (by omega)]
   rw [show xq p (fun i=>bn p s i && at' I (at' p.links i).a.toNat && at' I (at' p.links i).b.toNat) o (k+1)=D8 p (fun i=>bn p s i && at' I (at' p.links i).a.toNat && at' I (at' p.links i).b.toNat) (xq p (fun i=>bn p s i && at' I (at' p.links i).a.toNat && at' I (at' p.links i).b.toNat) o k) k from rfl]
   generalize xq p (fun i=>bn p s i && at' I (at' p.links i).a.toNat && at' I (at' p.links i).b.toNat) o k=q
   unfold D8
   dsimp only
   cases bn p s k<;>cases at' I (at' p.links k).a.toNat<;>cases at' I (at' p.links k).b.toNat<;>cases at' q (at' p.links k).a.toNat<;>cases at' q (at' p.links k).b.toNat<;>rfl
  ·unfold fw
   dsimp only
   rw [decide_eq_false (by omega)];rfl
 have L1: ∀o:List Bool,(o.length:Int)=p.buses→aL (fC p s l I) FUEL (o,0)=some (.brk (oC p (fun i=>bn p s i && at' I (at' p.links i).a.toNat && at' I (at' p.links i).b.toNat) o l.length)):=by
  intro o ho
  refine bJ (body:=fC p s l I) (fun k=>(oC p (fun i=>bn p s i && at' I (at' p.links i).a.toNat && at' I (at' p.links i).b.toNat) o k,(k:Int))) l.length _ (fuel_lt (by omega)) (fun k hk=> ?_) ?_
  ·have hw:=jZ p (fun i=>bn p s i && at' I (at' p.links i).a.toNat && at' I (at' p.links i).b.toNat) o k
   unfold fC
   dsimp only
   rw [decide_eq_true (show(k:Int)<(l.length:Int) by omega),cond_true,L2 _ (by omega),Option.bind_some,wr (by omega)]
   rfl
  ·unfold fC
   dsimp only
   rw [decide_eq_false (by omega)];rfl
 have h0:=hr _ (at_mem hn)
 have hO:((List.replicate p.buses.toNat false).set (at' l 0).toNat true).length=p.buses.toNat:=by simp
 have hOa: ∀v,v<p.buses.toNat→(at' ((List.replicate p.buses.toNat false).set (at' l 0).toNat true) v=decide (v=(at' l 0).toNat)):=by
  intro v hv
  rw [at_set (by simpa using hv),fJ hv,Bool.or_false]
 have hOc:1≤oQ ((List.replicate p.buses.toNat false).set (at' l 0).toNat true):=by
  have:=(tV (o:=List.replicate p.buses.toNat false) (a:=(at' l 0).toNat) (by simp;omega)).2 (fJ (by omega))
  omega
 generalize hOe:(List.replicate p.buses.toNat false).set (at' l 0).toNat true=O at hO hOa hOc
 generalize hce:(fun i=>bn p s i && at' I (at' p.links i).a.toNat && at' I (at' p.links i).b.toNat)=c at L1
 have hc': ∀i,c i=(bn p s i && at' I (at' p.links i).a.toNat && at' I (at' p.links i).b.toNat):=fun i=>by rw [←hce]
 have hg:=jZ p c O l.length
 have hsub: ∀v,v<(oC p c O l.length).length→at' (oC p c O l.length) v=true→(v:Int)∈l:=by
  refine Em hp (c:=c) (D:=fun v=>(v:Int)∈l) (fun u i w h hi hci he=> ?_) (by omega) (fun v hv h=> ?_) _
  ·rw [hc' i,Bool.and_eq_true,Bool.and_eq_true]at hci
   have ha:=(hp.lnk i hi).a;have hb:=(hp.lnk i hi).b
   rw [hat _ (by omega),hat _ (by omega),decide_eq_true_eq,decide_eq_true_eq,Int.toNat_of_nonneg (by omega),Int.toNat_of_nonneg (by omega)]at hci
   rcases he with⟨_,e⟩|⟨_,e⟩
   ·rw [←e,Int.toNat_of_nonneg (by omega)];exact hci.2
   ·rw [←e,Int.toNat_of_nonneg (by omega)];exact hci.1.2
  ·rw [hOa v (by omega),decide_eq_true_eq]at h
   subst h
   rw [Int.toNat_of_nonneg (by omega)];exact at_mem hn
 have hcl:=yJ hp (c:=c) (o:=O) (by omega) (n:=l.length) (fun hq=>by
  have:=yM l _ hsub
  omega)
 have hseen: ∀v:Nat,(v:Int)∈l→at' (oC p c O l.length) v=true:=by
  intro v hv
  obtain⟨m,hW⟩:=hJ v hv
  have key:at' (oC p c O l.length) v=true∧(v:Int)∈l:=by
   clear hv
   induction hW with
   |nil=>
    refine⟨yt hp (by omega) (by rw [hOa _ (by omega),decide_eq_true_eq]) _,by rw [Int.toNat_of_nonneg (by omega)];exact at_mem hn⟩
   | @snoc m v w i hw hi hci he ih=>
    obtain⟨h1,h2⟩:=ih
    have ha:=(hp.lnk i hi).a;have hb:=(hp.lnk i hi).b
    have hC1:=hC i hi hci
    have hab:(at' p.links i).a∈l∧(at' p.links i).b∈l:=by
     rcases he with⟨e,_⟩|⟨e,_⟩
     ·have:(at' p.links i).a∈l:=by rw [←Int.toNat_of_nonneg (show 0≤(at' p.links i).a by omega),e];exact h2
      exact⟨this,hC1.1 this⟩
     ·have:(at' p.links i).b∈l:=by rw [←Int.toNat_of_nonneg (show 0≤(at' p.links i).b by omega),e];exact h2
      exact⟨hC1.2 this,this⟩
    have hcc:c i=true:=by
     rw [hc' i,hci,hat _ (by omega),hat _ (by omega),Int.toNat_of_nonneg (by omega),Int.toNat_of_nonneg (by omega),decide_eq_true hab.1,decide_eq_true hab.2];rfl
    have:=hcl i hi hcc
    rcases he with⟨e1,e2⟩|⟨e1,e2⟩
    ·rw [←e2];exact⟨by rw [←this,e1];exact h1,by rw [Int.toNat_of_nonneg (by omega)];exact hab.2⟩
    ·rw [←e2];exact⟨by rw [this,e1];exact h1,by rw [Int.toNat_of_nonneg (by omega)];exact hab.1⟩
  exact key.1
 have L3:aL (fB l (oC p c O l.length)) FUEL 0=some (.brk ()):=by
  refine bJ (body:=fB l (oC p c O l.length)) (fun k=>(k:Int)) l.length _ (fuel_lt (by omega)) (fun k hk=> ?_) ?_
  ·have hx:=hr _ (at_mem hk)
   unfold fB
   rw [decide_eq_true (show(k:Int)<(l.length:Int) by omega),cond_true,Int.toNat_natCast,aK ⟨by omega,by omega⟩,wr (by omega),hseen _ (by rw [Int.toNat_of_nonneg (by omega)];exact at_mem hk)]
   rfl
  ·unfold fB
   rw [decide_eq_false (by omega)];rfl
 unfold ig
 rw [aK ⟨by omega,by omega,by omega⟩,L0,Option.bind_some]
 dsimp only
 rw [aK ⟨by omega,by rw [List.length_replicate];omega⟩,hOe,L1 O (by omega),Option.bind_some]
 dsimp only
 rw [L3,Option.bind_some]
end
def uG (v:Int) (o:List Int) (l:List Int):List Int:=l.foldl (fun o x=>o.set x.toNat v) o
theorem pY (v:Int): ∀(l:List Int) (o:List Int),(uG v o l).length=o.length
 |[],_=>rfl
 |x::l,o=>by rw [uG,List.foldl_cons];exact(pY v l _).trans (by simp)
theorem GY (v:Int) (o:List Int) (l:List Int) (x:Int):uG v o (l++[x])=(uG v o l).set x.toNat v:=by simp [uG]
theorem xg (v:Int): ∀(l:List Int) (o:List Int) (j:Nat),(∀x∈l,0≤x)→j<o.length→at' (uG v o l) j=if(j:Int)∈l then v else at' o j
 |[],_,_,_,_=>by simp [uG]
 |x::l,o,j,hx,hj=>by
  rw [uG,List.foldl_cons,←uG,xg v l _ j (fun y hy=>hx y (List.mem_cons_of_mem _ hy)) (by simpa using hj)]
  have h0:=hx x (List.mem_cons_self ..)
  by_cases e:(j:Int)∈l
  ·rw [if_pos e,if_pos (List.mem_cons_of_mem _ e)]
  ·rw [if_neg e]
   by_cases q:x.toNat=j
   ·subst q
    rw [bH hj,if_pos (by rw [Int.toNat_of_nonneg h0];exact List.mem_cons_self ..)]
   ·rw [bI q,if_neg]
    intro h
    rcases List.mem_cons.1 h with h|h
    ·exact q (by omega)
    ·exact e h
theorem dV {p:aj} {s:State} {t:Nat} {h x:Int}:x∈iA p s t h↔ ∃b:Nat,x=b∧b<t∧at' s.badBus b=false∧aI p s b=h:=by
 unfold iA
 rw [List.mem_map]
 constructor
 ·rintro ⟨b,hb,rfl⟩
  rw [List.mem_filter]at hb
  simp only [Bool.and_eq_true,Bool.not_eq_true',decide_eq_true_eq,List.mem_range]at hb
  exact⟨b,rfl,hb.1,hb.2.1,hb.2.2⟩
 ·rintro ⟨b,rfl,h1,h2,h3⟩
  refine⟨b,List.mem_filter.2 ⟨List.mem_range.2 h1,by rw [h2,h3,decide_eq_true rfl];rfl⟩,rfl⟩
theorem xE {p:aj} {s:State} {t:Nat} {h x:Int}:x∈pF p s t h↔ ∃k:Nat,x=k∧k<t∧jd p s k=true∧aI p s (at' p.sources k).bus.toNat=h:=by
 unfold pF
 rw [List.mem_map]
 constructor
 ·rintro ⟨b,hb,rfl⟩
  rw [List.mem_filter]at hb
  simp only [Bool.and_eq_true,decide_eq_true_eq,List.mem_range]at hb
  exact⟨b,rfl,hb.1,hb.2.1,hb.2.2⟩
 ·rintro ⟨b,rfl,h1,h2,h3⟩
  refine⟨b,List.mem_filter.2 ⟨List.mem_range.2 h1,by rw [h2,h3,decide_eq_true rfl];rfl⟩,rfl⟩
theorem Cz (p:aj) (s:State) (t:Nat) (h:Int):(iA p s t h).Pairwise (· < ·):=by
 unfold iA
 rw [List.pairwise_map]
 exact(List.pairwise_lt_range.filter _).imp fun h=>Int.ofNat_lt.2 h
theorem EO {l:List Int} (h:l.Pairwise (· < ·)) {i j:Nat} (hij:i<j) (hj:j<l.length):at' l i<at' l j:=by
 rw [dY (by omega),dY hj]
 exact List.pairwise_iff_getElem.1 h i j (by omega) hj hij
theorem KH {l:List Int} (h:l.Pairwise (· < ·)) {x:Int} (hx:x∈l):at' l 0≤x:=by
 obtain⟨i,hi,rfl⟩:=eY hx
 by_cases e:i=0
 ·subst e;exact Int.le_refl _
 ·exact Int.le_of_lt (EO h (by omega) hi)
theorem xh {α:Type} {l:List α} {x:α} (h:x∈l):0<l.length:=List.length_pos_of_mem h
theorem AY (p:aj) (s:State) (B:Nat): ∀t,t≤B→(rts p s t).Pairwise (fun h h'=>at' (iA p s B h) 0<at' (iA p s B h') 0)∧ ∀h∈rts p s t,at' (iA p s B h) 0<(t:Int)
 |0,_=> ⟨by simp [rts],by simp [rts]⟩
 |t+1,ht=>by
  obtain⟨ih1,ih2⟩:=AY p s B t (by omega)
  have e:rts p s (t+1)=if at' s.badBus t=true∨aI p s t∈rts p s t then rts p s t else rts p s t++[aI p s t]:=rfl
  rw [e]
  by_cases c:at' s.badBus t=true∨aI p s t∈rts p s t
  ·rw [if_pos c]
   exact⟨ih1,fun h hh=>by have:=ih2 h hh;omega⟩
  ·rw [if_neg c]
   rw [not_or,Bool.not_eq_true]at c
   have hm:(t:Int)∈iA p s B (aI p s t):=dV.2 ⟨t,rfl,by omega,c.1,rfl⟩
   have hf:at' (iA p s B (aI p s t)) 0=(t:Int):=by
    have h1:=KH (Cz p s B _) hm
    obtain⟨b,e1,e2,e3,e4⟩:=dV.1 (at_mem (xh hm))
    by_cases q:b<t
    ·exact absurd (ko.2 ⟨b,q,e3,e4⟩) c.2
    ·omega
   refine⟨List.pairwise_append.2 ⟨ih1,by simp,fun a ha b hb=> ?_⟩,fun h hh=> ?_⟩
   ·rw [List.mem_singleton]at hb
    subst hb
    rw [hf];exact ih2 a ha
   ·rcases List.mem_append.1 hh with hh|hh
    ·have:=ih2 h hh;omega
    ·rw [List.mem_singleton]at hh
     subst hh
     rw [hf];omega
def o7 (p:aj) (s:State):Nat→List Int
 |0=>List.replicate p.buses.toNat 0
 |j+1=>uG ((j:Int)+1) (o7 p s j) (iA p s p.buses.toNat (at' (rts p s p.buses.toNat) j))
theorem lU {p:aj} {s:State}: ∀j,(o7 p s j).length=p.buses.toNat
 |0=>by simp [o7]
 |j+1=>by rw [o7,pY,lU j]
theorem Fe {p:aj} {s:State} {B i j:Nat} (hi:i<(rts p s B).length) (hj:j<(rts p s B).length) (h:at' (rts p s B) i=at' (rts p s B) j):i=j:=by
 rw [dY hi,dY hj]at h
 exact(List.getElem_inj (jS B)).1 h
theorem E5 {p:aj} {s:State} {t:Nat} {h:Int}: ∀x∈iA p s t h,0≤x:=fun x hx=>by
 obtain⟨b,rfl,_⟩:=dV.1 hx;omega
theorem yu {p:aj} {s:State} {b:Nat} (hb:b<p.buses.toNat): ∀j,j≤(rts p s p.buses.toNat).length→(at' s.badBus b=true∨ ∀i,i<j→at' (rts p s p.buses.toNat) i≠aI p s b)→at' (o7 p s j) b=0
 |0,_,_=>by rw [o7,fJ hb]
 |j+1,hj,h=>by
  have hn:(b:Int) ∉ iA p s p.buses.toNat (at' (rts p s p.buses.toNat) j):=fun hm=>by
   obtain⟨c,e1,e2,e3,e4⟩:=dV.1 hm
   obtain rfl:b=c:=by omega
   rcases h with h|h
   ·rw [h]at e3;cases e3
   ·exact h j (by omega) e4.symm
  rw [o7,xg _ _ _ _ E5 (by rw [lU];exact hb),if_neg hn]
  exact yu hb j (by omega) (h.imp id fun h i hi=>h i (by omega))
theorem uy {p:aj} {s:State} {b:Nat} (hb:b<p.buses.toNat) (hbad:at' s.badBus b=false) {i:Nat} (hi:i<(rts p s p.buses.toNat).length) (he:at' (rts p s p.buses.toNat) i=aI p s b): ∀j,j≤(rts p s p.buses.toNat).length→i<j→at' (o7 p s j) b=(i:Int)+1
 |0,_,h=>absurd h (Nat.not_lt_zero i)
 |j+1,hj,h=>by
  rw [o7,xg _ _ _ _ E5 (by rw [lU];exact hb)]
  by_cases e:i=j
  ·subst e
   rw [if_pos (dV.2 ⟨b,rfl,hb,hbad,he.symm⟩)]
  ·have hn:(b:Int) ∉ iA p s p.buses.toNat (at' (rts p s p.buses.toNat) j):=fun hm=>by
    obtain⟨c,e1,e2,e3,e4⟩:=dV.1 hm
    obtain rfl:b=c:=by omega
    exact e (Fe hi (by omega) (he.trans e4))
   rw [if_neg hn]
   exact uy hb hbad hi he j (by omega) (by omega)
section
variable {p:aj} {s:State} (hp:VP p) (hs:VS p s)
include hp hs
theorem vL {j:Nat} (hj:j<(rts p s p.buses.toNat).length):at' (di p s p.buses.toNat p.sources.length) j=⟨iA p s p.buses.toNat (at' (rts p s p.buses.toNat) j),pF p s p.sources.length (at' (rts p s p.buses.toNat) j)⟩:=by
 unfold di;rw [nL hj]
omit hp hs in
theorem BM:(di p s p.buses.toNat p.sources.length).length=(rts p s p.buses.toNat).length:=by unfold di;rw [List.length_map]
theorem KP {j:Nat} (hj:j<(rts p s p.buses.toNat).length):aL (dJ p s (di p s p.buses.toNat p.sources.length,0) (j:Int)) FUEL (o7 p s j,0)=some (.brk (o7 p s (j+1))):=by
 have hP:=hp.b;have h7:=hs.badBus
 have hle:=lT (p:=p) (s:=s) p.buses.toNat
 have hbl:=xG (p:=p) (s:=s) p.buses.toNat (at' (rts p s p.buses.toNat) j)
 have e2:o7 p s (j+1)=uG ((j:Int)+1) (o7 p s j) (iA p s p.buses.toNat (at' (rts p s p.buses.toNat) j)):=rfl
 rw [e2]
 have hl:(at' (di p s p.buses.toNat p.sources.length) j).buses=iA p s p.buses.toNat (at' (rts p s p.buses.toNat) j):=by rw [vL hp hs hj]
 have hasc:=Cz p s p.buses.toNat (at' (rts p s p.buses.toNat) j)
 have hmem: ∀x,x∈iA p s p.buses.toNat (at' (rts p s p.buses.toNat) j)→0≤x∧x<p.buses∧at' s.badBus x.toNat=false∧aI p s x.toNat=at' (rts p s p.buses.toNat) j:=by
  intro x hx
  obtain⟨b,rfl,h1,h2,h3⟩:=dV.1 hx
  rw [Int.toNat_natCast]
  exact⟨by omega,by omega,h2,h3⟩
 generalize hLe:iA p s p.buses.toNat (at' (rts p s p.buses.toNat) j)=l at hl hasc hmem hbl
 refine bJ (body:=dJ p s (di p s p.buses.toNat p.sources.length,0) (j:Int)) (fun n=>(uG ((j:Int)+1) (o7 p s j) (l.take n),(n:Int))) l.length _ (fuel_lt (by omega)) (fun n hn=> ?_) ?_
 ·obtain⟨h1,h2,h3,h4⟩:=hmem _ (at_mem hn)
  have hz:at' (o7 p s j) (at' l n).toNat=0:=yu (by omega) j (by omega) (.inr fun i hi e=>by
   have:=Fe (by omega) hj (e.trans h4)
   omega)
  have hnt:at' l n ∉ l.take n:=fun hm=>by
   obtain⟨i,hi,e⟩:=eY hm
   rw [List.length_take]at hi
   have e3:at' (l.take n) i=at' l i:=by rw [dY (by rw [List.length_take];exact hi),dY (by omega),List.getElem_take]
   have:=EO hasc (show i<n by omega) hn
   rw [e3]at e;omega
  have hq:at' (uG ((j:Int)+1) (o7 p s j) (l.take n)) (at' l n).toNat=0:=by
   rw [xg _ _ _ _ (fun x hx=>(hmem x (List.mem_of_mem_take hx)).1) (by rw [lU];omega),Int.toNat_of_nonneg h1,if_neg hnt,hz]
  have hsl:(uG ((j:Int)+1) (o7 p s j) (l.take n)).length=p.buses.toNat:=by rw [pY,lU]
  have hpv:(bif (decide (0<(n:Int)))then(decide (at' l n≤(at' l (IntKind.wrap .i64 ((n:Int) - 1)).toNat)))else false)=false:=by
   by_cases e:n=0
   ·subst e;rfl
   ·rw [decide_eq_true (by omega),cond_true,wr (by omega)]
    have:=EO hasc (show((n:Int) - 1).toNat<n by omega) hn
    rw [decide_eq_false (by omega)]
  have hpw: ∀gs,gB ((decide (0<(n:Int)),true)::gs)=true→(0:Int)≤IntKind.wrap .i64 ((n:Int) - 1)∧IntKind.wrap .i64 ((n:Int) - 1)<(l.length:Int):=fun gs hg=>by
   have:=of_decide_eq_true (Ik hg)
   rw [wr (by omega)];omega
  unfold dJ
  dsimp only
  rw [Int.toNat_natCast,hl,decide_eq_true (show(n:Int)<(l.length:Int) by omega),cond_true,Int.toNat_natCast,aK ⟨by omega,fun _=>by omega,fun _=>by omega,fun _=>by omega,fun _=>by omega,fun _=>by omega,fun h=>hpw _ h,fun _=>by omega⟩]
  rw [decide_eq_false (show ¬ at' l n<0 by omega),decide_eq_false (show ¬ p.buses≤at' l n by omega),h3,hq,hpv,decide_eq_true (show(0:Int)=0 from rfl)]
  simp only [cond_false,Bool.not_true]
  rw [aK ⟨by omega,by omega⟩,wr (by omega),wr (by omega),jD hn,GY]
  rfl
 ·unfold dJ
  dsimp only
  rw [Int.toNat_natCast,hl,decide_eq_false (by omega),List.take_length];rfl
theorem Ky {j:Nat} (hj:j<(rts p s p.buses.toNat).length):aL (dI p s (di p s p.buses.toNat p.sources.length,0) (j:Int) (o7 p s (j+1))) FUEL 0=some (.brk ()):=by
 have hP:=hp.b;have h7:=hs.badBus;have hon:=hs.on;have hbs:=hs.badSource;have hsl:=hp.sl
 have hle:=lT (p:=p) (s:=s) p.buses.toNat
 have hbl:=D6 (p:=p) (s:=s) p.sources.length (at' (rts p s p.buses.toNat) j)
 have hl:(at' (di p s p.buses.toNat p.sources.length) j).sources=pF p s p.sources.length (at' (rts p s p.buses.toNat) j):=by rw [vL hp hs hj]
 have hmem: ∀x,x∈pF p s p.sources.length (at' (rts p s p.buses.toNat) j)→0≤x∧x<p.sources.length∧at' s.on_ x.toNat=true∧at' s.badSource x.toNat=false∧at' (o7 p s (j+1)) (at' p.sources x.toNat).bus.toNat=(j:Int)+1:=by
  intro x hx
  obtain⟨k,rfl,h1,h2,h3⟩:=xE.1 hx
  have hb:=(hp.src k h1).bus
  rw [Int.toNat_natCast]
  have h2':=h2
  unfold jd at h2'
  simp only [Bool.and_eq_true,Bool.not_eq_true']at h2'
  exact⟨by omega,by omega,h2'.1.1,h2'.1.2,uy (by omega) h2'.2 hj h3.symm _ (by omega) (by omega)⟩
 generalize pF p s p.sources.length (at' (rts p s p.buses.toNat) j)=l at hl hmem hbl
 have hil:=BM (p:=p) (s:=s)
 have hio:=lU (p:=p) (s:=s) (j+1)
 refine bJ (body:=dI p s (di p s p.buses.toNat p.sources.length,0) (j:Int) (o7 p s (j+1))) (fun n=>(n:Int)) l.length _ (fuel_lt (by omega)) (fun n hn=> ?_) ?_
 ·obtain⟨h1,h2,h3,h4,h5⟩:=hmem _ (at_mem hn)
  have hb:=(hp.src (at' l n).toNat (by omega)).bus
  unfold dI
  dsimp only
  rw [aK (by omega),Int.toNat_natCast,hl,decide_eq_true (show(n:Int)<(l.length:Int) by omega),cond_true,Int.toNat_natCast,aK ⟨by omega,by omega⟩,aK ⟨fun _=>by omega,fun _=>by omega,fun _=>by omega,fun _=>by omega⟩]
  rw [decide_eq_false (show ¬ at' l n<0 by omega),decide_eq_false (show ¬ (p.sources.length:Int)≤at' l n by omega),h3,h4,h5,wr (x:=(j:Int)+1) (by omega),decide_eq_true (show(j:Int)+1=(j:Int)+1 from rfl)]
  simp only [cond_false,Bool.not_true]
  rw [wr (by omega)]
  rfl
 ·unfold dI
  dsimp only
  rw [aK (by omega),Int.toNat_natCast,hl,decide_eq_false (by omega)];rfl
theorem EX {j:Nat} (hj:j<(rts p s p.buses.toNat).length):ig p s (iA p s p.buses.toNat (at' (rts p s p.buses.toNat) j))=some true:=by
 have hP:=hp.b
 have hbl:=xG (p:=p) (s:=s) p.buses.toNat (at' (rts p s p.buses.toNat) j)
 obtain⟨b,hb1,hb2,hb3⟩:=ko.1 (at_mem hj)
 have hmb:(b:Int)∈iA p s p.buses.toNat (at' (rts p s p.buses.toNat) j):=dV.2 ⟨b,rfl,hb1,hb2,hb3⟩
 have h0:=xh hmb
 refine GJ hp hs h0 (fun x hx=> ?_) (by omega) (fun v hv=> ?_) (fun i hi hc=> ?_)
 ·obtain⟨c,rfl,h1,_⟩:=dV.1 hx;omega
 ·obtain⟨c,e1,h1,_,e3⟩:=dV.1 hv
  obtain rfl:v=c:=by omega
  obtain⟨d,f1,f2,_,f3⟩:=dV.1 (at_mem h0)
  rw [f1,Int.toNat_natCast]
  exact(lJ hp (by omega) (by omega)).1 (f3.trans e3.symm)
 ·have ha:=(hp.lnk i hi).a;have hb:=(hp.lnk i hi).b
  have hh:aI p s (at' p.links i).a.toNat=aI p s (at' p.links i).b.toNat:=(lJ hp (by omega) (by omega)).2 ⟨_,Wk.nil.snoc hi hc (.inl ⟨rfl,rfl⟩)⟩
  have hcc:=hc
  unfold bn at hcc
  simp only [Bool.and_eq_true,Bool.not_eq_true']at hcc
  constructor
  ·intro hm
   obtain⟨c,e1,h1,_,e3⟩:=dV.1 hm
   refine dV.2 ⟨(at' p.links i).b.toNat,by omega,by omega,hcc.2, ?_⟩
   rw [←hh,e1,Int.toNat_natCast,e3]
  ·intro hm
   obtain⟨c,e1,h1,_,e3⟩:=dV.1 hm
   refine dV.2 ⟨(at' p.links i).a.toNat,by omega,by omega,hcc.1.2, ?_⟩
   rw [hh,e1,Int.toNat_natCast,e3]
theorem Ll:aL (dP p s (di p s p.buses.toNat p.sources.length,0)) FUEL (List.replicate p.buses.toNat 0,0)=some (.brk (o7 p s (rts p s p.buses.toNat).length)):=by
 have hP:=hp.b
 have hle:=lT (p:=p) (s:=s) p.buses.toNat
 have hil:=BM (p:=p) (s:=s)
 have hpos: ∀j,j<(rts p s p.buses.toNat).length→0<(iA p s p.buses.toNat (at' (rts p s p.buses.toNat) j)).length:=by
  intro j hj
  obtain⟨b,hb1,hb2,hb3⟩:=ko.1 (at_mem hj)
  exact xh (dV.2 ⟨b,rfl,hb1,hb2,hb3⟩)
 refine bJ (body:=dP p s (di p s p.buses.toNat p.sources.length,0)) (fun j=>(o7 p s j,(j:Int))) (rts p s p.buses.toNat).length _ (fuel_lt (by omega)) (fun j hj=> ?_) ?_
 ·have h0:=hpos j hj
  have hpr: ∀gs,gB ((decide (0<(j:Int)),true)::gs)=true→IntKind.wrap .i64 ((j:Int) - 1)=((j - 1:Nat):Int)∧0<j:=fun gs hg=>by
   have:=of_decide_eq_true (Ik hg)
   rw [wr (by omega)];omega
  have hc:(bif (decide (0<(j:Int)))then(decide (at' (iA p s p.buses.toNat (at' (rts p s p.buses.toNat) j)) 0≤at' (at' (di p s p.buses.toNat p.sources.length) (IntKind.wrap .i64 ((j:Int) - 1)).toNat).buses 0))else false)=false:=by
   by_cases e:j=0
   ·subst e;rfl
   ·rw [decide_eq_true (by omega),cond_true,wr (by omega),vL hp hs (by omega)]
    have hpw:=(AY p s p.buses.toNat p.buses.toNat (Nat.le_refl _)).1
    have hlt:=List.pairwise_iff_getElem.1 hpw ((j:Int) - 1).toNat j (by omega) hj (by omega)
    rw [←dY (by omega),←dY hj]at hlt
    exact decide_eq_false (by dsimp only;omega)
  unfold dP
  dsimp only
  rw [decide_eq_true (show(j:Int)<((di p s p.buses.toNat p.sources.length).length:Int) by omega),cond_true,aK (by omega),Int.toNat_natCast,vL hp hs hj]
  dsimp only
  rw [aK ⟨fun hg=>by obtain⟨e1,e2⟩:=hpr _ hg;rw [e1];omega,fun hg=>by obtain⟨e1,e2⟩:=hpr _ hg;rw [e1,Int.toNat_natCast,vL hp hs (by omega)];exact⟨by omega,by have:=hpos (j - 1) (by omega);dsimp only;omega⟩,fun _=>by omega⟩,hc,decide_eq_false (by omega)]
  simp only [cond_false]
  rw [KP hp hs hj,Option.bind_some]
  dsimp only
  rw [EX hp hs hj,Option.bind_some,Bool.not_true,cond_false,Ky hp hs hj,Option.bind_some]
  dsimp only
  rw [wr (by omega)]
  rfl
 ·unfold dP
  dsimp only
  rw [decide_eq_false (by omega)];rfl
end
section
variable {p:aj} {s:State} (hp:VP p) (hs:VS p s)
include hp hs
end
section
variable {p:aj} (hp:VP p)
include hp
end
def MR (p:aj):Bool:=decide (60<(p.sources.length:Int))||decide (60<(p.links.length:Int))||decide (60<(p.racks.length:Int))||p.links.any fun x=>decide (20<(x.trip.length:Int))
theorem Mr (p:aj):lW p=some (MR p):=by
 unfold lW MR
 rw [FI,FI]
 cases h:(decide (60<(p.sources.length:Int))||decide (60<(p.links.length:Int))||decide (60<(p.racks.length:Int)))with
 |true=>rfl
 |false=>
  rw [cond_false,Bool.false_or]
  simp only [Bool.or_eq_false_iff,decide_eq_false_iff_not]at h
  have key:aL (jB p) FUEL 0=some (match(List.range p.links.length).find? (fun i=>decide (20<((at' p.links i).trip.length:Int)))with|some _=> .ret true|none=> .brk ()):=by
   refine mg p.links.length (fun i=>decide (20<((at' p.links i).trip.length:Int))) (fun _=>true) (by omega) (fun i hi=> ?_) ?_
   ·unfold jB
    rw [Rt (by omega),cond_true,aK (by omega),Int.toNat_natCast,wr (by omega)]
    exact Cf _ _ _
   ·unfold jB;simp
  rw [key]
  cases hf:(List.range p.links.length).find? (fun i=>decide (20<((at' p.links i).trip.length:Int)))with
  |none=>
   rw [List.find?_eq_none]at hf
   have:(p.links.any fun x=>decide (20<(x.trip.length:Int)))=false:=by
    rw [List.any_eq_false]
    intro x hx
    obtain⟨i,hi,e⟩:=eY hx
    have:=hf i (List.mem_range.mpr hi);rw [e]at this;exact this
   rw [this];rfl
  |some i=>
   have hi:=List.mem_range.1 (List.mem_of_find?_eq_some hf)
   have hq:=List.find?_some hf
   have:(p.links.any fun x=>decide (20<(x.trip.length:Int)))=true:=List.any_eq_true.2 ⟨_,at_mem hi,hq⟩
   rw [this];rfl
theorem Be:j6=some true:=by kernel_rfl
section
variable {p:aj} {s:State} (hp:VP p) (hs:VS p s)
include hp hs
theorem IK {b:Nat} (hb:b<p.buses.toNat) (hbad:at' s.badBus b=false):yI p s b↔0<(pF p s p.sources.length (aI p s b)).length:=by
 have hP:=hp.b
 constructor
 ·rintro ⟨_,k,hk,hf,l,hW⟩
  have hsb:=(hp.src k hk).bus
  exact xh (xE.2 ⟨k,rfl,hk,hf,(lJ hp (by omega) (by omega)).2 ⟨l,hW⟩⟩)
 ·intro h
  obtain⟨k,_,hk,hf,he⟩:=xE.1 (at_mem h)
  have hsb:=(hp.src k hk).bus
  exact⟨hbad,k,hk,hf,(lJ hp (by omega) (by omega)).1 he⟩
theorem Le {L:List Bool} (hL:(L.length:Int)=p.buses) (hLa: ∀b:Nat,(b:Int)<p.buses→(at' L b=true↔yI p s b)):
  aL (dO p s (L,0) (di p s p.buses.toNat p.sources.length,0) (oC p (bn p s) (wo p s p.sources.length) p.buses.toNat) (o7 p s (rts p s p.buses.toNat).length)) FUEL 0=some (.brk ()):=by
 have hP:=hp.b;have h7:=hs.badBus
 have hle:=lT (p:=p) (s:=s) p.buses.toNat
 have hil:=BM (p:=p) (s:=s)
 have hio:=lU (p:=p) (s:=s) (rts p s p.buses.toNat).length
 have hwl:(oC p (bn p s) (wo p s p.sources.length) p.buses.toNat).length=p.buses.toNat:=by rw [jZ,vv]
 refine bJ (body:=dO p s (L,0) (di p s p.buses.toNat p.sources.length,0) (oC p (bn p s) (wo p s p.sources.length) p.buses.toNat) (o7 p s (rts p s p.buses.toNat).length)) (fun n=>(n:Int)) p.buses.toNat _ (fuel_lt (by omega)) (fun b hb=> ?_) ?_
 ·have hlw:at' L b=at' (oC p (bn p s) (wo p s p.sources.length) p.buses.toNat) b:=by
   have h1:=hLa b (by omega);have h2:=Ii hp hs hb
   exact Bool.eq_iff_iff.2 (h1.trans h2.symm)
  have hin:(at' s.badBus b=true∧at' (o7 p s (rts p s p.buses.toNat).length) b=0)∨(at' s.badBus b=false∧ ∃j,j<(rts p s p.buses.toNat).length∧at' (rts p s p.buses.toNat) j=aI p s b∧at' (o7 p s (rts p s p.buses.toNat).length) b=(j:Int)+1):=by
   cases hbad:at' s.badBus b with
   |true=>exact .inl ⟨rfl,yu hb _ (Nat.le_refl _) (.inl hbad)⟩
   |false=>
    obtain⟨j,hj,e⟩:=eY (ko.2 ⟨b,hb,hbad,rfl⟩)
    exact .inr ⟨rfl,j,hj,e,uy hb hbad hj e _ (Nat.le_refl _) hj⟩
  have hixr: ∀gs,gB ((decide (0<at' (o7 p s (rts p s p.buses.toNat).length) b),true)::gs)=true→(0:Int)≤IntKind.wrap .i64 (at' (o7 p s (rts p s p.buses.toNat).length) b - 1)∧IntKind.wrap .i64 (at' (o7 p s (rts p s p.buses.toNat).length) b - 1)<((di p s p.buses.toNat p.sources.length).length:Int):=fun gs hg=>by
   have h0:=of_decide_eq_true (Ik hg)
   rcases hin with⟨_,e⟩|⟨_,j,hj,_,e⟩
   ·omega
   ·rw [e,wr (by omega)];omega
  have hcond:(bif (bif (!(at' L b==at' (oC p (bn p s) (wo p s p.sources.length) p.buses.toNat) b))then true else(!(decide (at' (o7 p s (rts p s p.buses.toNat).length) b=0)==at' s.badBus b)))then true else(bif (decide (0<at' (o7 p s (rts p s p.buses.toNat).length) b))then(!(at' L b==(decide (0<((at' (di p s p.buses.toNat p.sources.length) (IntKind.wrap .i64 (at' (o7 p s (rts p s p.buses.toNat).length) b - 1)).toNat).sources.length:Int)))))else false))=false:=by
   have hll:=hlw
   rw [hlw,beq_self_eq_true,Bool.not_true,cond_false]
   rcases hin with⟨e0,e⟩|⟨e0,j,hj,ej,e⟩
   ·rw [e,e0];rfl
   ·rw [e,e0,decide_eq_false (show ¬ (j:Int)+1=0 by omega),decide_eq_true (show 0<(j:Int)+1 by omega),wr (by omega),show((j:Int)+1 - 1).toNat=j by omega,vL hp hs hj,ej]
    dsimp only
    have h1:=(hLa b (by omega)).trans (IK hp hs hb e0)
    rw [hlw]at h1
    have:at' (oC p (bn p s) (wo p s p.sources.length) p.buses.toNat) b=decide (0<((pF p s p.sources.length (aI p s b)).length:Int)):=by
     rw [Bool.eq_iff_iff,h1,decide_eq_true_eq];omega
    rw [this];simp
  unfold dO
  dsimp only
  rw [decide_eq_true (show(b:Int)<p.buses by omega),cond_true,Int.toNat_natCast,aK ⟨by omega,by omega,fun _=>by omega,fun _=>by omega,fun _=>by omega,fun _=>by omega,fun _=>by omega,fun h=>hixr _ h⟩,hcond,cond_false,wr (by omega)]
  rfl
 ·unfold dO
  dsimp only
  rw [decide_eq_false (by omega)];rfl
theorem Kl:aL (dH p s (o7 p s (rts p s p.buses.toNat).length)) FUEL 0=some (.brk ()):=by
 have hP:=hp.b;have h7:=hs.badBus;have hll:=hp.ll
 have hle:=lT (p:=p) (s:=s) p.buses.toNat
 have hio:=lU (p:=p) (s:=s) (rts p s p.buses.toNat).length
 refine bJ (body:=dH p s (o7 p s (rts p s p.buses.toNat).length)) (fun n=>(n:Int)) p.links.length _ (fuel_lt (by omega)) (fun i hi=> ?_) ?_
 ·have ha:=(hp.lnk i hi).a;have hb:=(hp.lnk i hi).b
  unfold dH
  rw [decide_eq_true (show(i:Int)<(p.links.length:Int) by omega),cond_true,qf hp hs hi,Option.bind_some,Int.toNat_natCast,aK ⟨fun _=>by omega,fun _=>by omega,fun _=>by omega⟩,wr (by omega)]
  have:(bif bn p s i then(!decide (at' (o7 p s (rts p s p.buses.toNat).length) (at' p.links i).a.toNat=at' (o7 p s (rts p s p.buses.toNat).length) (at' p.links i).b.toNat))else false)=false:=by
   cases hc:bn p s i with
   |false=>rfl
   |true=>
    have hh:aI p s (at' p.links i).a.toNat=aI p s (at' p.links i).b.toNat:=(lJ hp (by omega) (by omega)).2 ⟨_,Wk.nil.snoc hi hc (.inl ⟨rfl,rfl⟩)⟩
    have hcc:=hc
    unfold bn at hcc
    simp only [Bool.and_eq_true,Bool.not_eq_true']at hcc
    obtain⟨j,hj,e⟩:=eY (ko.2 ⟨(at' p.links i).a.toNat,by omega,hcc.1.2,rfl⟩:aI p s (at' p.links i).a.toNat∈rts p s p.buses.toNat)
    rw [uy (by omega) hcc.1.2 hj e _ (Nat.le_refl _) hj,uy (by omega) hcc.2 hj (e.trans hh) _ (Nat.le_refl _) hj,decide_eq_true rfl];rfl
  rw [this];rfl
 ·unfold dH
  rw [decide_eq_false (by omega)];rfl
end
theorem zu (p:aj) (s:State) (hp:Small p):gU p s=some true:=by
 unfold gU
 rw [Mr,Option.bind_some]
 cases hB:MR p with
 |true=>simp [gB,Be]
 |false=>
  rw [show gB [(false,false)]=true from rfl,cond_true,mD p s hp,Option.bind_some,cond_false]
  by_cases h0:uW p s=0
  ·obtain⟨hv,hs⟩:=wh.mp h0
   have hb:=hv.b
   have d00:decide ((0:Int)=0)=true:=rfl
   obtain⟨L,hL,hLl,hLa⟩:=J5 hv hs
   have hI:eU p s=some (di p s p.buses.toNat p.sources.length,0):=by
    unfold eU
    rw [mD p s hp,Option.bind_some,h0,d00,Bool.not_true,cond_false,zS hv hs];rfl
   rw [h0,d00,Bool.not_true,cond_false,hL,Option.bind_some,hI,Option.bind_some]
   dsimp only
   rw [d00,decide_eq_true hLl]
   simp only [Bool.not_true,cond_false]
   rw [aK ⟨by omega,by omega,by omega⟩,Kj hv hs,Option.bind_some]
   dsimp only
   rw [JY hv hs (by rw [vv];omega),Option.bind_some]
   dsimp only
   rw [aK ⟨by omega,by omega,by omega⟩,Ll hv hs,Option.bind_some]
   dsimp only
   rw [Le hv hs hLl hLa,Option.bind_some]
   dsimp only
   rw [Kl hv hs,Option.bind_some]
   dsimp only
   rw [Be];rfl
  ·rw [decide_eq_false h0,Bool.not_false,cond_true,Be];rfl
end Sg
