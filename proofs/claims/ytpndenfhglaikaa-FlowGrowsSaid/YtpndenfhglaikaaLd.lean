import Derived.Test.YtpndenfhglaikaaLa
import Derived.Test.YtpndenfhglaikaaLc
import Derived.Test.YtpndenfhglaikaaGm
set_option linter.all false
namespace Sg
open Go
def bH:Nat→(Nat→Int)→Int
 |0,_=>0
 |n+1,f=>bH n f+f n
theorem dF {n:Nat} {f g:Nat→Int} (h: ∀i,i<n→f i=g i):bH n f=bH n g:=by
 induction n with
 |zero=>rfl
 |succ n ih=>rw [bH,bH,ih fun i hi=>h i (by omega),h n (by omega)]
theorem BL (n:Nat) (f g:Nat→Int):bH n (fun i=>f i+g i)=bH n f+bH n g:=by
 induction n with
 |zero=>rfl
 |succ n ih=>simp only [bH];rw [ih];omega
theorem FV (n:Nat) (f g:Nat→Int):bH n (fun i=>f i - g i)=bH n f - bH n g:=by
 induction n with
 |zero=>rfl
 |succ n ih=>simp only [bH];rw [ih];omega
theorem nu (n:Nat):bH n (fun _=>0)=0:=by
 induction n with
 |zero=>rfl
 |succ n ih=>simp only [bH];rw [ih];omega
theorem pU {n:Nat} {f g:Nat→Int} (h: ∀i,i<n→f i≤g i):bH n f≤bH n g:=by
 induction n with
 |zero=>exact Int.le_refl _
 |succ n ih=>simp only [bH];have:=ih fun i hi=>h i (by omega);have:=h n (by omega);omega
theorem OG {n:Nat} {f:Nat→Int} (h: ∀i,i<n→0≤f i):0≤bH n f:=by
 have:=pU (f:=fun _=>0) h;rwa [nu]at this
theorem yQ {n:Nat} {f g:Nat→Int} (h: ∀i,i<n→f i≤g i) (e:bH n f=bH n g): ∀i,i<n→f i=g i:=by
 induction n with
 |zero=>intro i hi;omega
 |succ n ih=>
  simp only [bH]at e
  have h1:=pU (n:=n) (f:=f) (g:=g) fun i hi=>h i (by omega)
  have h2:=h n (by omega)
  intro i hi
  by_cases hin:i=n
  ·subst hin;omega
  ·exact ih (fun i hi=>h i (by omega)) (by omega) i (by omega)
theorem Hy (n m:Nat) (f:Nat→Nat→Int):bH n (fun i=>bH m (f i))=bH m (fun j=>bH n fun i=>f i j):=by
 induction n with
 |zero=>simp only [bH];rw [nu]
 |succ n ih=>simp only [bH];rw [ih,←BL]
theorem JC {n:Nat} {k:Nat} (f:Nat→Int) (h:k<n):bH n (fun i=>if i=k then f i else 0)=f k:=by
 induction n with
 |zero=>omega
 |succ n ih=>
  simp only [bH]
  by_cases e:k=n
  ·subst e
   rw [if_pos rfl,dF (g:=fun _=>0) (fun i hi=>if_neg (by omega)),nu];omega
  ·rw [ih (by omega),if_neg (fun q=>e q.symm)];omega
theorem JY (n:Nat) (f:Nat→Int):bH n (fun i=> - f i)= - bH n f:=by
 induction n with
 |zero=>rfl
 |succ n ih=>simp only [bH];rw [ih];omega
theorem wr {x:Int} (h: -9223372036854775808≤x∧x≤9223372036854775807):IntKind.wrap .i64 x=x:=by rw [IntKind.wrap_i64];omega
theorem zT {σ ρ:Type} {body:σ→Option (aU σ ρ)}: ∀{n m:Nat} {s:σ} {r:ρ},aZ body n s=some r→n≤m→aZ body m s=some r
 |0,_,_,_,h,_=>by cases h
 |n+1,0,_,_,_,hm=>by omega
 |n+1,m+1,s,r,h,hm=>by
  rw [iI]at h ⊢
  revert h
  cases body s with
  |none=>exact id
  |some f=>
   cases f with
   |next s'=>exact fun h=>zT h (by omega)
   |done r=>exact id
theorem QY {σ ρ:Type} {body:σ→Option (aU σ ρ)} (S:Nat→σ) (k:Nat) (hs: ∀i,i<k→body (S i)=some (.next (S (i+1)))): ∀(m:Nat),aZ body (k+m) (S 0)=aZ body m (S k):=by
 induction k with
 |zero=>intro m;simp
 |succ k ih=>
  intro m
  have:=ih (fun i hi=>hs i (by omega)) (m+1)
  rw [show k+1+m=k+(m+1) by omega,this,iI,hs k (by omega)]
theorem lC {σ ρ:Type} {body:σ→Option (aU σ ρ)} {N:Nat} (S:Nat→σ) (k:Nat) (r:ρ) (hk:k<N) (hs: ∀i,i<k→body (S i)=some (.next (S (i+1)))) (hd:body (S k)=some (.done r)):aZ body N (S 0)=some r:=by
 have h:=QY S k hs 1
 have h1:aZ body 1 (S k)=some r:=by rw [iI,hd]
 exact zT (h.trans h1) (by omega)
theorem fuel_lt {k:Nat} (h:k≤9223372036854775807):k<FUEL:=by unfold FUEL;omega
section
variable {α:Type} [Inhabited α]
theorem iJ {l:List α} {i:Nat} (h:i<l.length):at' l i=l[i]:=by simp [at',h]
theorem at_mem {l:List α} {i:Nat} (h:i<l.length):at' l i∈l:=by rw [iJ h];exact List.getElem_mem h
theorem oU {l:List α} {x:α} (h:x∈l): ∃i,i<l.length∧at' l i=x:=by
 obtain⟨i,hi,e⟩:=List.mem_iff_getElem.mp h
 exact⟨i,hi,by rw [iJ hi];exact e⟩
theorem Ta {l m:List α} (hl:l.length=m.length) (h: ∀i,i<l.length→at' l i=at' m i):l=m:=by
 apply List.ext_getElem hl
 intro i h1 h2
 have:=h i h1
 rwa [iJ h1,iJ h2]at this
theorem EM {ρ:Type} {body:Int→Option (aU Int (Ex Unit ρ))} (l:List α) (bad:α→Bool) (f:Int→ρ) (hl:l.length≤9223372036854775807)
  (hb: ∀i:Nat,i<l.length→body i=some (bif bad (at' l i)then .done (.ret (f i))else .next ((i:Int)+1))) (he:body l.length=some (.done (.brk ()))):
  aZ body FUEL 0=some (match l.findIdx? bad with|some i=> .ret (f i)|none=> .brk ()):=by
 cases h:l.findIdx? bad with
 |none=>
  rw [List.findIdx?_eq_none_iff]at h
  refine lC (fun i=>(i:Int)) l.length _ (fuel_lt (by omega)) (fun i hi=> ?_) he
  rw [hb i hi,h _ (at_mem hi)];simp
 |some k=>
  rw [List.findIdx?_eq_some_iff_getElem]at h
  obtain⟨hk,hp,hn⟩:=h
  refine lC (fun i=>(i:Int)) k _ (fuel_lt (by omega)) (fun i hi=> ?_) ?_
  ·have:=hn i hi
   rw [hb i (by omega),iJ (by omega)]
   simp [this]
  ·rw [hb k hk,iJ hk,hp];rfl
omit [Inhabited α]in
theorem BP (l:List α) (bad:α→Bool):(decide ((0:Int)≤(match l.findIdx? bad with|some i=>(i:Int)|none=> -1)))=l.any bad:=by
 cases h:l.findIdx? bad with
 |none=>
  rw [List.findIdx?_eq_none_iff]at h
  have:l.any bad=false:=by rw [List.any_eq_false];intro x hx;simp [h x hx]
  rw [this];simp
 |some k=>
  rw [List.findIdx?_eq_some_iff_getElem]at h
  obtain⟨hk,hp,hn⟩:=h
  have:l.any bad=true:=by rw [List.any_eq_true];exact⟨_,List.getElem_mem hk,hp⟩
  rw [this];simp
end
section
variable {α:Type}
theorem aaC {a b:Int}:Ff a b=true↔a=b:=by simp [Ff]
theorem Xx {a b:Int} (h:a≠b):Ff a b=false:=by cases e:Ff a b with|false=>rfl|true=>exact absurd (aaC.mp e) h
end
theorem Xd {α:Type} (c:Bool) (x y:α):(bif c then some x else some y)=some (bif c then x else y):=by cases c<;>rfl
theorem BX {ρ:Type} {body:Int→Option (aU Int (Ex Unit ρ))} (n:Nat) (bad:Nat→Bool) (f:Int→ρ) (hl:n≤9223372036854775807)
  (hb: ∀i:Nat,i<n→body i=some (bif bad i then .done (.ret (f i))else .next ((i:Int)+1))) (he:body n=some (.done (.brk ()))):
  aZ body FUEL 0=some (match(List.range n).find? bad with|some i=> .ret (f i)|none=> .brk ()):=by
 cases h:(List.range n).find? bad with
 |none=>
  rw [List.find?_eq_none]at h
  refine lC (fun i=>(i:Int)) n _ (fuel_lt (by omega)) (fun i hi=> ?_) he
  rw [hb i hi]
  have:=h i (List.mem_range.mpr hi)
  simp at this;simp [this]
 |some k=>
  rw [List.find?_range_eq_some]at h
  obtain⟨hp,hk,hn⟩:=h
  rw [List.mem_range]at hk
  refine lC (fun i=>(i:Int)) k _ (fuel_lt (by omega)) (fun i hi=> ?_) ?_
  ·have:=hn i hi
   rw [hb i (by omega)]
   simp at this;simp [this]
  ·rw [hb k hk,hp];rfl
theorem Gy {α:Type} (p:α→Bool): ∀l:List α,(l.find? p).isSome=l.any p
 |[]=>rfl
 |x::l=>by
  rw [List.any_cons,List.find?_cons]
  cases h:p x with
  |true=>simp
  |false=>simpa using Gy p l
def wi (n a b:Int):Bool:=decide (a≤n) && decide (n≤b)
theorem Ai {n a b:Int}:wi n a b=true↔a≤n∧n≤b:=by simp [wi]
theorem o5 (n a b:Int):aS n a b=some (wi n a b):=by
 unfold aS wi;cases decide (a≤n)<;>rfl
def xJ (b:Int) (x:Source):Bool:=wi x.bus 0 (b - 1) && wi x.kind 1 3 && wi x.power 1 100000 && wi x.sync 0 8 && wi x.iR 10 100000
theorem UE {b:Int} (hb:1≤b∧b≤24) (x:Source) (l1:List Source) (l2:List Link) (l3:List ax):kF x b l1 l2 l3=some (xJ b x):=by
 unfold kF xJ
 simp only [o5,Option.bind_some]
 rw [wr (by omega)]
 generalize wi x.bus 0 (b - 1)=b1
 generalize wi x.kind 1 3=b2
 generalize wi x.power 1 100000=b3
 generalize wi x.sync 0 8=b4
 generalize wi x.iR 10 100000=b5
 cases b1<;>cases b2<;>cases b3<;>cases b4<;>cases b5<;>rfl
def xG (l:List je) (i:Nat):Bool:=
 !wi (at' l i).amps 1 1000000|| !wi (at' l i).millis 1 100000||(decide (0<i) && (decide ((at' l i).amps≤(at' l (i - 1)).amps)||decide ((at' l (i - 1)).millis≤(at' l i).millis)))
def qz (b:Int) (x:Link):Bool:=
 wi x.a 0 (b - 1) && wi x.b 0 (b - 1) && !decide (x.a=x.b) && wi x.kind 1 3 && wi x.most 1 100000 && wi x.iR 10 100000 && !(List.range x.trip.length).any (xG x.trip) && decide ((x.trip.length:Int)≤6) && (decide ((x.trip.length:Int)=0)||decide (x.kind=3))
theorem aai {α:Type} [Inhabited α] (l:List α) (i:Nat) (h:0<i):at' l (((i:Int) - 1).toNat)=at' l (i - 1):=by
 congr 1;omega
theorem aaJ (x:Link) (hx:x.trip.length≤9223372036854775807):aZ (jS x) FUEL 0=some (match(List.range x.trip.length).find? (xG x.trip)with|some _=> .ret false|none=> .brk ()):=by
 refine BX x.trip.length (xG x.trip) (fun _=>false) hx (fun i hi=> ?_) ?_
 ·unfold jS
  have h1:decide ((i:Int)<(x.trip.length:Int))=true:=by simp;omega
  rw [h1,cond_true,aH (by omega)]
  simp only [o5,Option.bind_some,Int.toNat_natCast]
  rw [wr (x:=(i:Int) - 1) (by omega),wr (x:=(i:Int)+1) (by omega)]
  unfold xG
  by_cases h0:0<i
  ·rw [aai _ _ h0]
   simp only [h0,Int.natCast_pos,decide_true]
   generalize wi (at' x.trip i).amps 1 1000000=b1
   generalize wi (at' x.trip i).millis 1 100000=b2
   generalize decide ((at' x.trip i).amps≤(at' x.trip (i - 1)).amps)=b3
   generalize decide ((at' x.trip (i - 1)).millis≤(at' x.trip i).millis)=b4
   cases b1<;>cases b2<;>cases b3<;>cases b4<;>simp [gB,dS]<;>omega
  ·have:i=0:=by omega
   subst this
   generalize wi (at' x.trip 0).amps 1 1000000=b1
   generalize wi (at' x.trip 0).millis 1 100000=b2
   cases b1<;>cases b2<;>simp [gB,dS]
 ·unfold jS
  have h1:decide ((x.trip.length:Int)<(x.trip.length:Int))=false:=by simp
  rw [h1];rfl
theorem aaG {b:Int} (hb:1≤b∧b≤24) (x:Link) (hx:x.trip.length≤9223372036854775807) (l1:List Source) (l2:List Link) (l3:List ax):mJ x b l1 l2 l3=some (qz b x):=by
 unfold mJ qz
 simp only [o5,Option.bind_some]
 rw [wr (by omega),aaJ x hx]
 generalize wi x.a 0 (b - 1)=b1
 generalize wi x.b 0 (b - 1)=b2
 generalize decide (x.a=x.b)=b3
 generalize wi x.kind 1 3=b4
 generalize wi x.most 1 100000=b5
 generalize wi x.iR 10 100000=b6
 have:(List.range x.trip.length).any (xG x.trip)=((List.range x.trip.length).find? (xG x.trip)).isSome:=(Gy _ _).symm
 rw [this]
 cases b1<;>cases b2<;>cases b3<;>cases b4<;>cases b5<;>cases b6<;>try rfl
 cases(List.range x.trip.length).find? (xG x.trip)with
 |some k=>simp [gB]
 |none=>
  simp only [gB,Option.bind_some,Option.isSome_none]
  generalize decide ((x.trip.length:Int)≤6)=c1
  generalize decide ((x.trip.length:Int)=0)=c2
  generalize decide (x.kind=3)=c3
  cases c1<;>cases c2<;>cases c3<;>rfl
def C8 (x:ax):Int:=if x.feeds.e1= -1 then 1 else 2
def qd (b:Int) (x:ax):Bool:=wi x.feeds.e0 0 (b - 1) && wi x.feeds.e1 (-1) (b - 1) && !decide (x.feeds.e0=x.feeds.e1) && wi x.power 1 100000 && wi x.paths 0 (C8 x)
theorem YH (x:ax):oq x=some (C8 x):=by
 unfold oq C8
 by_cases h:x.feeds.e1= -1<;>simp [h]
theorem aac {b:Int} (hb:1≤b∧b≤24) (x:ax) (l1:List Source) (l2:List Link) (l3:List ax):mV x b l1 l2 l3=some (qd b x):=by
 unfold mV qd
 simp only [o5,Option.bind_some,YH]
 rw [wr (by omega)]
 generalize wi x.feeds.e0 0 (b - 1)=b1
 generalize wi x.feeds.e1 (-1) (b - 1)=b2
 generalize decide (x.feeds.e0=x.feeds.e1)=b3
 generalize hb4:wi x.power 1 100000=b4
 cases b1<;>cases b2<;>cases b3<;>cases b4<;>simp [gB]<;>rfl
theorem BN {α ρ:Type} [Inhabited α] {l:List α} {i:Nat} (hi:i<l.length) (hl:l.length≤9223372036854775807) (b:Bool) (f:Int→ρ) (G:Option (aU Int (Ex Unit ρ))):
  (bif (decide ((i:Int)<(l.length:Int)))then((some b).bind fun r_=>dS ((0:Int)≤(i:Int)∧(i:Int)<(l.length:Int)) (bif r_ then some (.done (.ret (f (i:Int))))else some (.next (IntKind.wrap .i64 ((i:Int)+1)))))else G)=some (bif b then .done (.ret (f i))else .next ((i:Int)+1)):=by
 have h1:decide ((i:Int)<(l.length:Int))=true:=by simp;omega
 rw [h1,cond_true,Option.bind_some,aH (by omega),wr (by omega)]
 cases b<;>rfl
theorem Yr {b:Int} (hb:1≤b∧b≤24) (l:List Source) (hl:l.length≤9223372036854775807) (m:Int) (l1:List Source) (l2:List Link) (l3:List ax):
  pW l m b l1 l2 l3=some (decide ((l.length:Int)≤m) && l.all (xJ b)):=by
 have hs:gL l b l1 l2 l3=some (l.any fun x=> !xJ b x):=by
  unfold gL kS
  rw [EM l (fun x=> !xJ b x) id hl (fun i hi=> ?_) ?_]
  ·rw [←BP];cases l.findIdx? fun x=> !xJ b x<;>rfl
  ·unfold jy;simp
  ·unfold jy qy
   rw [Int.toNat_natCast,UE hb,Option.bind_some]
   exact BN hi hl _ id _
 unfold pW
 rw [hs]
 have:(!l.any fun x=> !xJ b x)=l.all (xJ b):=by rw [List.not_any_eq_all_not];simp
 rw [←this]
 cases decide ((l.length:Int)≤m)<;>simp [gB]
theorem UD {b:Int} (hb:1≤b∧b≤24) (l:List Link) (hl:l.length≤9223372036854775807) (ht: ∀x∈l,x.trip.length≤9223372036854775807) (m:Int) (l1:List Source) (l2:List Link) (l3:List ax):
  ni l m b l1 l2 l3=some (decide ((l.length:Int)≤m) && l.all (qz b)):=by
 have hs:fE l b l1 l2 l3=some (l.any fun x=> !qz b x):=by
  unfold fE jA
  rw [EM l (fun x=> !qz b x) id hl (fun i hi=> ?_) ?_]
  ·rw [←BP];cases l.findIdx? fun x=> !qz b x<;>rfl
  ·unfold gZ;simp
  ·unfold gZ mD
   rw [Int.toNat_natCast,aaG hb _ (ht _ (at_mem hi)),Option.bind_some]
   exact BN hi hl _ id _
 unfold ni
 rw [hs]
 have:(!l.any fun x=> !qz b x)=l.all (qz b):=by rw [List.not_any_eq_all_not];simp
 rw [←this]
 cases decide ((l.length:Int)≤m)<;>simp [gB]
theorem V9 {b:Int} (hb:1≤b∧b≤24) (l:List ax) (hl:l.length≤9223372036854775807) (m:Int) (l1:List Source) (l2:List Link) (l3:List ax):
  mQ l m b l1 l2 l3=some (decide ((l.length:Int)≤m) && l.all (qd b)):=by
 have hs:fD l b l1 l2 l3=some (l.any fun x=> !qd b x):=by
  unfold fD jw
  rw [EM l (fun x=> !qd b x) id hl (fun i hi=> ?_) ?_]
  ·rw [←BP];cases l.findIdx? fun x=> !qd b x<;>rfl
  ·unfold ic;simp
  ·unfold ic lV
   rw [Int.toNat_natCast,aac hb,Option.bind_some]
   exact BN hi hl _ id _
 unfold mQ
 rw [hs]
 have:(!l.any fun x=> !qd b x)=l.all (qd b):=by rw [List.not_any_eq_all_not];simp
 rw [←this]
 cases decide ((l.length:Int)≤m)<;>simp [gB]
structure Small (p:ai):Prop where
 src:p.sources.length≤9223372036854775807
 lnk:p.links.length≤9223372036854775807
 rck:p.racks.length≤9223372036854775807
 trp: ∀x∈p.links,x.trip.length≤9223372036854775807
def Al (p:ai):Int:=
 if wi p.buses 1 24=false then 10 else if(decide ((p.sources.length:Int)≤8) && p.sources.all (xJ p.buses))=false then 11
 else if(decide ((p.links.length:Int)≤40) && p.links.all (qz p.buses))=false then 12 else if(decide ((p.racks.length:Int)≤24) && p.racks.all (qd p.buses))=false then 13 else 0
theorem QE (p:ai) (hp:Small p):jU p=some (Al p):=by
 unfold jU Al
 simp only [o5,Option.bind_some,pE,uN,uH]
 cases h0:wi p.buses 1 24 with
 |false=>simp
 |true=>
  have hb:=Ai.mp h0
  rw [Yr hb _ hp.src,UD hb _ hp.lnk hp.trp,V9 hb _ hp.rck]
  simp only [Option.bind_some,Bool.not_true,cond_false]
  generalize (decide ((p.sources.length:Int)≤8) && p.sources.all (xJ p.buses))=b1
  generalize (decide ((p.links.length:Int)≤40) && p.links.all (qz p.buses))=b2
  generalize (decide ((p.racks.length:Int)≤24) && p.racks.all (qd p.buses))=b3
  cases b1<;>cases b2<;>cases b3<;>simp
def sV (p:ai) (s:State):Bool:=
 decide (s.closed.length=p.links.length) && decide (s.locked.length=p.links.length) && decide (s.badLink.length=p.links.length) && decide (s.on_.length=p.sources.length) && decide (s.badSource.length=p.sources.length) &&
 decide ((s.earthed.length:Int)=p.buses) && decide ((s.badBus.length:Int)=p.buses)
def mW (p:ai) (s:State) (i:Nat):Bool:=decide ((at' p.links i).kind=1) && (!at' s.closed i||at' s.locked i)
def Kr (p:ai) (s:State):Int:=if Al p≠0 then Al p else if sV p s && !(List.range p.links.length).any (mW p s)then 0 else 9
theorem yF (p:ai) (s:State) (hp:Small p):dD p s=some (Kr p s):=by
 unfold dD Kr
 rw [QE p hp,Option.bind_some]
 by_cases hc:Al p=0
 ·rw [hc]
  simp only [decide_true,Bool.not_true,cond_false,ne_eq,not_true_eq_false,if_false]
  have h0:aZ (gJ p s) FUEL 0=some (bif sV p s then .brk ()else .ret 9):=by
   have key:=BX (body:=gJ p s) 7 (fun i=> !decide (((at' [(⟨s.closed,(p.links.length:Int)⟩:dV),(⟨s.locked,(p.links.length:Int)⟩:dV),(⟨s.badLink,(p.links.length:Int)⟩:dV),(⟨s.on_,(p.sources.length:Int)⟩:dV),(⟨s.badSource,(p.sources.length:Int)⟩:dV),(⟨s.earthed,p.buses⟩:dV),(⟨s.badBus,p.buses⟩:dV)] i).l.length:Int)=(at' [(⟨s.closed,(p.links.length:Int)⟩:dV),(⟨s.locked,(p.links.length:Int)⟩:dV),(⟨s.badLink,(p.links.length:Int)⟩:dV),(⟨s.on_,(p.sources.length:Int)⟩:dV),(⟨s.badSource,(p.sources.length:Int)⟩:dV),(⟨s.earthed,p.buses⟩:dV),(⟨s.badBus,p.buses⟩:dV)] i).n)) (fun _=>(9:Int)) (by omega) (fun i hi=> ?_) ?_
   ·rw [key]
    have e:((List.range 7).find? fun i=> !decide (((at' [(⟨s.closed,(p.links.length:Int)⟩:dV),(⟨s.locked,(p.links.length:Int)⟩:dV),(⟨s.badLink,(p.links.length:Int)⟩:dV),(⟨s.on_,(p.sources.length:Int)⟩:dV),(⟨s.badSource,(p.sources.length:Int)⟩:dV),(⟨s.earthed,p.buses⟩:dV),(⟨s.badBus,p.buses⟩:dV)] i).l.length:Int)=(at' [(⟨s.closed,(p.links.length:Int)⟩:dV),(⟨s.locked,(p.links.length:Int)⟩:dV),(⟨s.badLink,(p.links.length:Int)⟩:dV),(⟨s.on_,(p.sources.length:Int)⟩:dV),(⟨s.badSource,(p.sources.length:Int)⟩:dV),(⟨s.earthed,p.buses⟩:dV),(⟨s.badBus,p.buses⟩:dV)] i).n)).isSome= !sV p s:=by
     rw [show List.range 7=[0,1,2,3,4,5,6]from rfl,Gy]
     simp only [List.any_cons,List.any_nil,at',List.getD_cons_zero,List.getD_cons_succ,sV,Int.natCast_inj]
     simp [Bool.or_assoc]
    revert e
    cases hf:(List.range 7).find? _ with
    |none=>
     intro e
     have:sV p s=true:=by simpa using e.symm
     rw [this];rfl
    |some k=>
     intro e
     have:sV p s=false:=by simpa using e.symm
     rw [this];rfl
   ·have h1:decide ((i:Int)<7)=true:=by simp;omega
    unfold gJ
    rw [show([(⟨s.closed,(p.links.length:Int)⟩:dV),(⟨s.locked,(p.links.length:Int)⟩:dV),(⟨s.badLink,(p.links.length:Int)⟩:dV),(⟨s.on_,(p.sources.length:Int)⟩:dV),(⟨s.badSource,(p.sources.length:Int)⟩:dV),(⟨s.earthed,p.buses⟩:dV),(⟨s.badBus,p.buses⟩:dV)].length:Int)=7 from rfl,h1,cond_true,aH (by omega),Int.toNat_natCast,wr (by omega)]
    exact Xd _ _ _
   ·rfl
  rw [h0,Option.bind_some]
  cases hL:sV p s with
  |false=>rfl
  |true=>
   simp only [cond_true,Bool.true_and]
   simp only [sV,Bool.and_eq_true,decide_eq_true_eq]at hL
   have h1:aZ (gM p s) FUEL 0=some (match(List.range p.links.length).find? (mW p s)with|some _=> .ret 9|none=> .brk ()):=by
    refine BX p.links.length (mW p s) (fun _=>9) hp.lnk (fun i hi=> ?_) ?_
    ·unfold gM mW
     have h1:decide ((i:Int)<(p.links.length:Int))=true:=by simp;omega
     have:=hp.lnk
     rw [h1,cond_true,aH (by omega),Int.toNat_natCast,wr (by omega),aH ⟨fun _=>by omega,fun _=>by omega⟩]
     generalize decide ((at' p.links i).kind=1)=b1
     generalize at' s.closed i=b2
     generalize at' s.locked i=b3
     cases b1<;>cases b2<;>cases b3<;>rfl
    ·unfold gM;simp
   rw [h1,Option.bind_some]
   have:(List.range p.links.length).any (mW p s)=((List.range p.links.length).find? (mW p s)).isSome:=(Gy _ _).symm
   rw [this]
   cases(List.range p.links.length).find? (mW p s)<;>rfl
 ·have:decide (Al p=0)=false:=by simp [hc]
  rw [this]
  simp [hc]
structure VL (b:Int) (x:Link):Prop where
 a:0≤x.a∧x.a<b
 b:0≤x.b∧x.b<b
 ab:x.a≠x.b
 kind:1≤x.kind∧x.kind≤3
 most:1≤x.most∧x.most≤100000
 iR:10≤x.iR∧x.iR≤100000
 tl:x.trip.length≤6
 trip: ∀i,i<x.trip.length→xG x.trip i=false
 trk:x.trip=[]∨x.kind=3
structure ajE (b:Int) (x:Source):Prop where
 bus:0≤x.bus∧x.bus<b
 kind:1≤x.kind∧x.kind≤3
 power:1≤x.power∧x.power≤100000
 sync:0≤x.sync∧x.sync≤8
 iR:10≤x.iR∧x.iR≤100000
structure VR (b:Int) (x:ax):Prop where
 e0:0≤x.feeds.e0∧x.feeds.e0<b
 e1: -1≤x.feeds.e1∧x.feeds.e1<b
 ne:x.feeds.e0≠x.feeds.e1
 power:1≤x.power∧x.power≤100000
 paths:0≤x.paths∧x.paths≤C8 x
structure VP (p:ai):Prop where
 b:1≤p.buses∧p.buses≤24
 sl:p.sources.length≤8
 src: ∀i,i<p.sources.length→ajE p.buses (at' p.sources i)
 ll:p.links.length≤40
 lnk: ∀i,i<p.links.length→VL p.buses (at' p.links i)
 rl:p.racks.length≤24
 rck: ∀i,i<p.racks.length→VR p.buses (at' p.racks i)
structure VS (p:ai) (s:State):Prop where
 closed:s.closed.length=p.links.length
 locked:s.locked.length=p.links.length
 badLink:s.badLink.length=p.links.length
 on:s.on_.length=p.sources.length
 badSource:s.badSource.length=p.sources.length
 earthed:(s.earthed.length:Int)=p.buses
 badBus:(s.badBus.length:Int)=p.buses
 cable: ∀i,i<p.links.length→(at' p.links i).kind=1→at' s.closed i=true∧at' s.locked i=false
theorem MH {b:Int} {x:Source}:xJ b x=true↔ajE b x:=by
 simp only [xJ,Bool.and_eq_true,Ai]
 exact⟨fun⟨⟨⟨⟨h1,h2⟩,h3⟩,h4⟩,h5⟩=> ⟨by omega,h2,h3,h4,h5⟩,fun h=> ⟨⟨⟨⟨by have:=h.bus;omega,h.kind⟩,h.power⟩,h.sync⟩,h.iR⟩⟩
theorem Km {b:Int} {x:ax}:qd b x=true↔VR b x:=by
 simp only [qd,Bool.and_eq_true,Ai,Bool.not_eq_true',decide_eq_false_iff_not]
 exact⟨fun⟨⟨⟨⟨h1,h2⟩,h3⟩,h4⟩,h5⟩=> ⟨by omega,by omega,h3,h4,h5⟩,fun h=> ⟨⟨⟨⟨by have:=h.e0;omega,by have:=h.e1;omega⟩,h.ne⟩,h.power⟩,h.paths⟩⟩
theorem KZ {b:Int} {x:Link}:qz b x=true↔VL b x:=by
 simp only [qz,Bool.and_eq_true,Ai,Bool.not_eq_true',decide_eq_false_iff_not,Bool.or_eq_true,decide_eq_true_eq,List.any_eq_false,List.mem_range,Bool.not_eq_true]
 constructor
 ·rintro ⟨⟨⟨⟨⟨⟨⟨⟨h1,h2⟩,h3⟩,h4⟩,h5⟩,h6⟩,h7⟩,h8⟩,h9⟩
  exact⟨by omega,by omega,h3,h4,h5,h6,by omega,h7,h9.imp (fun h=>List.eq_nil_of_length_eq_zero (by omega)) id⟩
 ·intro h
  refine⟨⟨⟨⟨⟨⟨⟨⟨by have:=h.a;omega,by have:=h.b;omega⟩,h.ab⟩,h.kind⟩,h.most⟩,h.iR⟩,h.trip⟩,by have:=h.tl;omega⟩,h.trk.imp (fun e=>by simp [e]) id⟩
theorem BF {p:ai}:Al p=0↔VP p:=by
 unfold Al
 constructor
 ·intro h
  cases h0:wi p.buses 1 24 with
  |false=>rw [h0]at h;simp at h
  |true=>
   rw [h0]at h
   cases h1:(decide ((p.sources.length:Int)≤8) && p.sources.all (xJ p.buses))with
   |false=>rw [h1]at h;simp at h
   |true=>
    rw [h1]at h
    cases h2:(decide ((p.links.length:Int)≤40) && p.links.all (qz p.buses))with
    |false=>rw [h2]at h;simp at h
    |true=>
     rw [h2]at h
     cases h3:(decide ((p.racks.length:Int)≤24) && p.racks.all (qd p.buses))with
     |false=>rw [h3]at h;simp at h
     |true=>
      simp only [Bool.and_eq_true,decide_eq_true_eq,List.all_eq_true]at h1 h2 h3
      exact⟨Ai.mp h0,by omega,fun i hi=>MH.mp (h1.2 _ (at_mem hi)),by omega,fun i hi=>KZ.mp (h2.2 _ (at_mem hi)),by omega,fun i hi=>Km.mp (h3.2 _ (at_mem hi))⟩
 ·intro h
  have h0:wi p.buses 1 24=true:=Ai.mpr h.b
  have h1:(decide ((p.sources.length:Int)≤8) && p.sources.all (xJ p.buses))=true:=by
   simp only [Bool.and_eq_true,decide_eq_true_eq,List.all_eq_true]
   exact⟨by have:=h.sl;omega,fun x hx=>by obtain⟨i,hi,rfl⟩:=oU hx;exact MH.mpr (h.src i hi)⟩
  have h2:(decide ((p.links.length:Int)≤40) && p.links.all (qz p.buses))=true:=by
   simp only [Bool.and_eq_true,decide_eq_true_eq,List.all_eq_true]
   exact⟨by have:=h.ll;omega,fun x hx=>by obtain⟨i,hi,rfl⟩:=oU hx;exact KZ.mpr (h.lnk i hi)⟩
  have h3:(decide ((p.racks.length:Int)≤24) && p.racks.all (qd p.buses))=true:=by
   simp only [Bool.and_eq_true,decide_eq_true_eq,List.all_eq_true]
   exact⟨by have:=h.rl;omega,fun x hx=>by obtain⟨i,hi,rfl⟩:=oU hx;exact Km.mpr (h.rck i hi)⟩
  rw [h0,h1,h2,h3];rfl
theorem VP.small {p:ai} (h:VP p):Small p:=by
 refine⟨by have:=h.sl;omega,by have:=h.ll;omega,by have:=h.rl;omega,fun x hx=> ?_⟩
 obtain⟨i,hi,rfl⟩:=oU hx
 have:=(h.lnk i hi).tl;omega
theorem CG {p:ai} {s:State}:Kr p s=0↔VP p∧VS p s:=by
 unfold Kr
 by_cases hc:Al p=0
 ·rw [if_neg (by simp [hc])]
  have hv:=BF.mp hc
  constructor
  ·intro h
   cases h1:(sV p s && !(List.range p.links.length).any (mW p s))with
   |false=>rw [h1]at h;simp at h
   |true=>
    simp only [sV,Bool.and_eq_true,decide_eq_true_eq,Bool.not_eq_true',List.any_eq_false,List.mem_range,mW,Bool.or_eq_true,not_and,not_or,Bool.not_eq_true]at h1
    obtain⟨⟨⟨⟨⟨⟨⟨h1,h2⟩,h3⟩,h4⟩,h5⟩,h6⟩,h7⟩,h8⟩:=h1
    exact⟨hv,h1,h2,h3,h4,h5,h6,h7,fun i hi hk=>by have:=h8 i hi hk;simpa using this⟩
  ·rintro ⟨_,h⟩
   have:(sV p s && !(List.range p.links.length).any (mW p s))=true:=by
    simp only [sV,Bool.and_eq_true,decide_eq_true_eq,Bool.not_eq_true',List.any_eq_false,List.mem_range,mW,Bool.or_eq_true,not_and,not_or,Bool.not_eq_true]
    exact⟨⟨⟨⟨⟨⟨⟨h.closed,h.locked⟩,h.badLink⟩,h.on⟩,h.badSource⟩,h.earthed⟩,h.badBus⟩,fun i hi hk=>by have:=h.cable i hi hk;simpa using this⟩
   rw [this];rfl
 ·rw [if_pos hc]
  exact⟨fun h=>absurd h hc,fun h=>absurd (BF.mpr h.1) hc⟩
def bA (p:ai) (s:State) (i:Nat):Bool:=at' s.closed i && !at' s.badLink i && !at' s.badBus (at' p.links i).a.toNat && !at' s.badBus (at' p.links i).b.toNat
def bC (p:ai) (s:State) (k:Nat):Bool:=at' s.on_ k && !at' s.badSource k && !at' s.badBus (at' p.sources k).bus.toNat
theorem QM {p:ai} {s:State} (hp:VP p) (hs:VS p s) {i:Nat} (hi:i<p.links.length):eH p s i=some (bA p s i):=by
 have hl:=hp.lnk i hi
 have ha:=hl.a;have hb:=hl.b;have h1:=hs.closed;have h2:=hs.badLink;have h3:=hs.badBus
 unfold eH bA
 simp only [Int.toNat_natCast]
 rw [aH (by omega),aH ⟨by omega,fun _=>by omega,fun _=>by omega,fun _=>by omega⟩]
 cases at' s.closed i<;>cases at' s.badLink i<;>cases at' s.badBus (at' p.links i).a.toNat<;>cases at' s.badBus (at' p.links i).b.toNat<;>rfl
theorem Nk {p:ai} {s:State} (hp:VP p) (hs:VS p s) {k:Nat} (hk:k<p.sources.length):iW p s k=some (bC p s k):=by
 have hl:=(hp.src k hk).bus;have h1:=hs.on;have h2:=hs.badSource;have h3:=hs.badBus
 unfold iW bC
 simp only [Int.toNat_natCast]
 rw [aH ⟨by omega,fun _=>by omega,fun _=>by omega,fun _=>by omega⟩]
 cases at' s.on_ k<;>cases at' s.badSource k<;>cases at' s.badBus (at' p.sources k).bus.toNat<;>rfl
def lexB:List Int→List Int→Bool
 |[],[]=>false
 |[],_::_=>true
 |_::_,[]=>false
 |a::x,b::y=>decide (a<b)||(decide (a=b) && lexB x y)
theorem IL: ∀x,lexB x x=false
 |[]=>rfl
 |a::x=>by simp [lexB,IL x]
theorem Lf: ∀{x y z},lexB x y=true→lexB y z=true→lexB x z=true
 |[],[],_,h,_=>by cases h
 |[],_::_,[],_,h=>by cases h
 |[],_::_,_::_,_,_=>rfl
 |_::_,[],_,h,_=>by cases h
 |_::_,_::_,[],_,h=>by cases h
 |a::x,b::y,c::z,h,h'=>by
  simp only [lexB,Bool.or_eq_true,Bool.and_eq_true,decide_eq_true_eq]at h h' ⊢
  rcases h with h|⟨h,g⟩
  ·left;rcases h' with h'|⟨h',_⟩<;>omega
  ·rcases h' with h'|⟨h',g'⟩
   ·left;omega
   ·right;exact⟨by omega,Lf g g'⟩
theorem KP: ∀{x y},x≠y→lexB x y=true∨lexB y x=true
 |[],[],h=>absurd rfl h
 |[],_::_,_=> .inl rfl
 |_::_,[],_=> .inr rfl
 |a::x,b::y,h=>by
  simp only [lexB,Bool.or_eq_true,Bool.and_eq_true,decide_eq_true_eq]
  by_cases e:a=b
  ·subst e
   rcases KP (x:=x) (y:=y) (fun e=>h (by rw [e]))with g|g
   ·left;right;exact⟨rfl,g⟩
   ·right;right;exact⟨rfl,g⟩
  ·rcases Int.lt_or_lt_of_ne e with g|g
   ·left;left;exact g
   ·right;left;exact g
abbrev Key:=Int × List Int
def FY (a b:Key):Bool:=decide (a.1<b.1)||(decide (a.1=b.1) && (decide (a.2.length<b.2.length)||(decide (a.2.length=b.2.length) && lexB a.2 b.2)))
def YT (a b:Key):Prop:=FY b a=false
theorem KT {a b:Key}:FY a b=true↔a.1<b.1∨(a.1=b.1∧(a.2.length<b.2.length∨(a.2.length=b.2.length∧lexB a.2 b.2=true))):=by
 simp only [FY,Bool.or_eq_true,Bool.and_eq_true,decide_eq_true_eq]
theorem IA (a:Key):FY a a=false:=by simp [FY,IL]
theorem Kh {a b c:Key} (h:FY a b=true) (h':FY b c=true):FY a c=true:=by
 rw [KT]at*
 rcases h with h|⟨h,g⟩
 ·left;rcases h' with h'|⟨h',_⟩<;>omega
 ·rcases h' with h'|⟨h',g'⟩
  ·left;omega
  ·right
   refine⟨by omega, ?_⟩
   rcases g with g|⟨g,f⟩
   ·left;rcases g' with g'|⟨g',_⟩<;>omega
   ·rcases g' with g'|⟨g',f'⟩
    ·left;omega
    ·right;exact⟨by omega,Lf f f'⟩
theorem JQ {a b:Key} (h:a≠b):FY a b=true∨FY b a=true:=by
 rw [KT,KT]
 by_cases e:a.1=b.1
 ·by_cases e2:a.2.length=b.2.length
  ·have:a.2≠b.2:=fun e3=>h (Prod.ext e e3)
   rcases KP this with g|g
   ·left;right;exact⟨e, .inr ⟨e2,g⟩⟩
   ·right;right;exact⟨e.symm, .inr ⟨e2.symm,g⟩⟩
  ·rcases Nat.lt_or_gt_of_ne e2 with g|g
   ·left;right;exact⟨e, .inl g⟩
   ·right;right;exact⟨e.symm, .inl g⟩
 ·rcases Int.lt_or_lt_of_ne e with g|g
  ·left;left;exact g
  ·right;left;exact g
theorem Xv (a:Key):YT a a:=IA a
theorem Vi {a b:Key} (h:FY a b=true):YT a b:=by
 unfold YT
 cases e:FY b a with
 |false=>rfl
 |true=>have:=Kh h e;rw [IA]at this;exact this.symm
theorem Mr {a b c:Key} (h:YT a b) (h':YT b c):YT a c:=by
 by_cases e1:a=b
 ·rw [e1];exact h'
 ·by_cases e2:b=c
  ·rw [←e2];exact h
  ·have g1:FY a b=true:=(JQ e1).resolve_right (by unfold YT at h;simp [h])
   have g2:FY b c=true:=(JQ e2).resolve_right (by unfold YT at h';simp [h'])
   exact Vi (Kh g1 g2)
inductive Wk (p:ai) (s:State) (b:Nat):List Int→Nat→Prop where
 |nil:Wk p s b [] b
 |snoc {l:List Int} {v w i:Nat}:Wk p s b l v→i<p.links.length→bA p s i=true→
   ((at' p.links i).a.toNat=v∧(at' p.links i).b.toNat=w∨(at' p.links i).b.toNat=v∧(at' p.links i).a.toNat=w)→Wk p s b (l++[(i:Int)]) w
def Rh (p:ai) (l:List Int):Int:=(l.map fun i=>(at' p.links i.toNat).iR).sum
theorem UN (p:ai) (l:List Int) (i:Nat):Rh p (l++[(i:Int)])=Rh p l+(at' p.links i).iR:=by simp [Rh]
theorem Wk.len {p:ai} {s:State} {b:Nat} (hp:VP p): ∀{l v},Wk p s b l v→10*(l.length:Int)≤Rh p l:=by
 intro l v h
 induction h with
 |nil=>simp [Rh]
 |snoc h hi _ _ ih=>
  rename_i i
  rw [UN];have:=(hp.lnk _ hi).iR;simp;omega
def ais (out:List Way):Nat:=out.countP (·.there)
theorem Zt (out:List Way):ais out≤out.length:=List.countP_le_length
def ade (w:Way):Key:=(w.iR,w.links)
structure ahZ (p:ai) (s:State) (b:Nat) (out:List Way):Prop where
 len:(out.length:Int)=p.buses
 wk: ∀v,v<out.length→(at' out v).there=true→Wk p s b (at' out v).links v∧(at' out v).iR=Rh p (at' out v).links∧(at' out v).iR≤100000*(ais out:Int)
theorem ahZ.iR {p:ai} {s:State} {b:Nat} {out:List Way} (hp:VP p) (h:ahZ p s b out) {v:Nat} (hv:v<out.length) (ht:(at' out v).there=true):0≤(at' out v).iR∧(at' out v).iR≤2400000∧(at' out v).links.length≤240000:=by
 obtain⟨h1,h2,h3⟩:=h.wk v hv ht
 have:=h1.len hp
 have:=Zt out
 have:=h.len
 have:=hp.b
 omega
def WLe (out' out:List Way):Prop:=out'.length=out.length∧ ∀v,v<out.length→(at' out v).there=true→(at' out' v).there=true∧YT (ade (at' out' v)) (ade (at' out v))
theorem WLe.refl (out:List Way):WLe out out:=⟨rfl,fun _ _ h=> ⟨h,Xv _⟩⟩
theorem WLe.trans {a b c:List Way} (h:WLe a b) (h':WLe b c):WLe a c:=
 ⟨h.1.trans h'.1,fun v hv ht=>by
  obtain⟨t1,k1⟩:=h'.2 v hv ht
  obtain⟨t2,k2⟩:=h.2 v (by have:=h'.1;omega) t1
  exact⟨t2,Mr k2 k1⟩⟩
section
variable {p:ai} {s:State} {b:Nat} {out:List Way} {i u w:Nat}
end
def WR (p:ai) (s:State) (b k:Nat) (out:List Way):Prop:= ∀l v,Wk p s b l v→l.length≤k→(at' out v).there=true∧YT (ade (at' out v)) (Rh p l,l)
theorem Wk.lt {p:ai} {s:State} {b:Nat} (hp:VP p) (hb:(b:Int)<p.buses): ∀{l v},Wk p s b l v→(v:Int)<p.buses:=by
 intro l v h
 cases h with
 |nil=>exact hb
 |snoc h hi hc he=>
  have h1:=(hp.lnk _ hi).a;have h2:=(hp.lnk _ hi).b
  rcases he with⟨_,he⟩|⟨_,he⟩<;>omega
theorem WR.le {p:ai} {s:State} {b k:Nat} {out out':List Way} (hp:VP p) (hb:(b:Int)<p.buses) (hl:(out.length:Int)=p.buses) (h:WR p s b k out) (hle:WLe out' out):WR p s b k out':=by
 intro l v hw hk
 obtain⟨t,g⟩:=h l v hw hk
 obtain⟨t',g'⟩:=hle.2 v (by have:=hw.lt hp hb;omega) t
 exact⟨t',Mr g' g⟩
section
variable {p:ai} {s:State} {b:Nat} {out:List Way}
end
section
variable {p:ai} {s:State} {b:Nat} {out:List Way}
end
section
variable {p:ai} {s:State} {b:Nat} {out:List Way}
end
def tab {α:Type} (n:Nat) (f:Nat→α):List α:=(List.range n).map f
section
variable {α:Type} [Inhabited α]
theorem ji (n:Nat) (f:Nat→α):(tab n f).length=n:=by simp [tab]
theorem Ka {n:Nat} {f:Nat→α} {i:Nat} (h:i<n):at' (tab n f) i=f i:=by
 rw [iJ (by rw [ji];exact h)];simp [tab]
end
theorem Wk.mem {p:ai} {s:State} {b:Nat}: ∀{l v},Wk p s b l v→ ∀i∈l,0≤i∧i<(p.links.length:Int):=by
 intro l v h
 induction h with
 |nil=>simp
 |snoc h hi _ _ ih=>
  intro j hj
  rcases List.mem_append.mp hj with hj|hj
  ·exact ih j hj
  ·simp at hj;subst hj;omega
section
variable {p:ai} {s:State} (hp:VP p) (hs:VS p s)
include hp hs
end
theorem Pf {n:Nat} {f:Nat→Int} (h: ∀i,i<n→ -1000000≤f i∧f i≤1000000): -((n:Int)*1000000)≤bH n f∧bH n f≤(n:Int)*1000000:=by
 induction n with
 |zero=>simp [bH]
 |succ n ih=>
  have:=ih fun i hi=>h i (by omega)
  have:=h n (by omega)
  simp only [bH]
  omega
theorem ZA {a b:Int} (h:a<b):decide (a<b)=true:=decide_eq_true h
theorem Rv {a b:Int} (h:b≤a):decide (a<b)=false:=decide_eq_false (by omega)
theorem gB1 {a:Bool} (h:gB [(a,true)]=true):a=true:=by cases a;exact h;rfl
theorem XD (i:Nat):((i+1:Nat):Int)=(i:Int)+1:=by simp
def XE (p:ai) (s:State) (C:Nat→Bool) (k:Nat):Int:=if(bC p s k && !C (at' p.sources k).bus.toNat)=true then(at' p.sources k).power else 0
def XF (p:ai) (s:State) (C:Nat→Bool) (i:Nat):Int:=if(bA p s i && !(C (at' p.links i).a.toNat==C (at' p.links i).b.toNat))=true then(at' p.links i).most else 0
def rkC (p:ai) (C:Nat→Bool) (r:Nat):Bool:=C (at' p.racks r).feeds.e0.toNat||(decide (0≤(at' p.racks r).feeds.e1) && C (at' p.racks r).feeds.e1.toNat)
def Vj (p:ai) (C:Nat→Bool) (r:Nat):Int:=if rkC p C r=true then(at' p.racks r).power else 0
def He (p:ai) (s:State) (C:Nat→Bool):Int:=bH p.sources.length (XE p s C)+bH p.links.length (XF p s C)+bH p.racks.length (Vj p C)
section
variable {p:ai} {s:State} (hp:VP p) (hs:VS p s)
include hp
include hs
end
def YW (x:aj):Nat→Int
 |0=>0
 |n+1=>IntKind.wrap .i64 (YW x n+IntKind.wrap .i64 ((at' x.racks n).e0+(at' x.racks n).e1))
theorem Mq {x:aj} (hl:x.racks.length≤1000000):bK x=some (YW x x.racks.length):=by
 have key:aZ (jb x) FUEL (YW x 0,((0:Nat):Int))=some (.brk (YW x x.racks.length)):=by
  refine lC (fun i=>(YW x i,(i:Int))) x.racks.length _ (fuel_lt (by omega)) (fun i hi=> ?_) ?_
  ·unfold jb
   simp only [Int.toNat_natCast]
   rw [ZA (by omega),cond_true,aH (by omega),wr (x:=(i:Int)+1) (by omega)]
   rfl
  ·unfold jb;simp
 unfold bK
 show Option.bind (aZ (jb x) FUEL (YW x 0,((0:Nat):Int))) _=_
 rw [key];rfl
theorem Tz {x:aj} (h: ∀r,r<x.racks.length→0≤(at' x.racks r).e0+(at' x.racks r).e1∧(at' x.racks r).e0+(at' x.racks r).e1≤1000000) (hl:x.racks.length≤1000):
  ∀n,n≤x.racks.length→YW x n=bH n fun r=>(at' x.racks r).e0+(at' x.racks r).e1
 |0,_=>rfl
 |n+1,hn=>by
  have h1:=h n (by omega)
  have h2:=Pf (n:=n) (f:=fun r=>(at' x.racks r).e0+(at' x.racks r).e1) fun i hi=>by exact⟨by have:=h i (by omega);omega,by have:=h i (by omega);omega⟩
  rw [YW,bH,Tz h hl n (by omega),wr (x:=(at' x.racks n).e0+(at' x.racks n).e1) (by omega),wr (by omega)]
def jF (s:State) (b:Int):Bool:=decide (0≤b) && !at' s.badBus b.toNat
def blS (p:ai) (x:aj) (b k:Nat):Int:=if(at' p.sources k).bus=(b:Int)then at' x.sources k else 0
def blL (p:ai) (x:aj) (b i:Nat):Int:=(if(at' p.links i).b=(b:Int)then at' x.links i else 0) - (if(at' p.links i).a=(b:Int)then at' x.links i else 0)
def blR (p:ai) (x:aj) (b r:Nat):Int:=(if(at' p.racks r).feeds.e0=(b:Int)then(at' x.racks r).e0 else 0)+(if(at' p.racks r).feeds.e1=(b:Int)then(at' x.racks r).e1 else 0)
def bal (p:ai) (x:aj) (b:Nat):Int:=bH p.sources.length (blS p x b)+bH p.links.length (blL p x b) - bH p.racks.length (blR p x b)
section
variable {p:ai} {s:State} (hp:VP p) (hs:VS p s) {x:aj} (h1:x.sources.length=p.sources.length) (h2:x.links.length=p.links.length) (h3:x.racks.length=p.racks.length)
include hp hs h1 h2 h3
end
structure Bd (p:ai) (x:aj):Prop where
 l1:x.sources.length=p.sources.length
 l2:x.links.length=p.links.length
 l3:x.racks.length=p.racks.length
 s: ∀k,k<p.sources.length→0≤at' x.sources k∧at' x.sources k≤100000
 l: ∀i,i<p.links.length→ -100000≤at' x.links i∧at' x.links i≤100000
 r: ∀r,r<p.racks.length→(0≤(at' x.racks r).e0∧(at' x.racks r).e0≤100000)∧(0≤(at' x.racks r).e1∧(at' x.racks r).e1≤100000)
section
variable {p:ai} {x:aj} (hp:VP p) (hx:Bd p x)
include hp hx
end
section
variable {p:ai} {s:State} {x:aj}
variable (hp:VP p) (hs:VS p s)
include hp hs
end
section
variable {p:ai} (hsm:Small p) (s:State) (x:aj)
include hsm
end
def tw (i:Nat):Nat:=if i % 2=0 then i+1 else i - 1
theorem MS (i:Nat):tw (tw i)=i:=by
 unfold tw
 by_cases h:i % 2=0
 ·rw [if_pos h,if_neg (by omega)];omega
 ·rw [if_neg h,if_pos (by omega)];omega
theorem FT {i m:Nat} (h:i<2*m):tw i<2*m:=by unfold tw;split<;>omega
theorem Wo (i:Nat):tw i≠i:=by unfold tw;split<;>omega
theorem ZC (i:Nat):i ^^^ 1=tw i:=by
 have h1:(i ^^^ 1) / 2=i / 2:=by rw [Nat.xor_div_two];simp
 have h2:= @Nat.xor_mod_two_eq_one i 1
 unfold tw
 split<;>omega
theorem xor_eq {i:Nat} (h:i<1000000):IntKind.wrap .i64 (((BitVec.ofInt (IntKind.bits .i64) (i:Int) ^^^ BitVec.ofInt (IntKind.bits .i64) 1).toNat:Int))=(tw i:Int):=by
 have e:(BitVec.ofInt (IntKind.bits .i64) (i:Int) ^^^ BitVec.ofInt (IntKind.bits .i64) 1).toNat=tw i:=by
  rw [BitVec.toNat_xor,←ZC]
  have e1:(BitVec.ofInt (IntKind.bits .i64) (i:Int)).toNat=i:=by
   show(BitVec.ofInt 64 (i:Int)).toNat=i
   rw [BitVec.toNat_ofInt]
   omega
  have e2:(BitVec.ofInt (IntKind.bits .i64) 1).toNat=1:=rfl
  rw [e1,e2]
 rw [e]
 have:tw i<1000002:=by unfold tw;split<;>omega
 rw [wr (by omega)]
def tgt (a:List aV) (i:Nat):Nat:=(at' a i).to_.toNat
def iQ (a:List aV) (i:Nat):Int:=(at' a i).left
structure NW (n m:Nat) (a:List aV) (fr:List (List Int)):Prop where
 n1:1≤n∧n≤1000
 m1:m≤1000
 len:a.length=2*m
 to: ∀i,i<2*m→0≤(at' a i).to_∧(at' a i).to_<n
 left: ∀i,i<2*m→0≤iQ a i∧iQ a i+iQ a (tw i)≤1000000
 frl:fr.length=n
 fr1: ∀v,v<n→ ∀x∈at' fr v,∃i:Nat,x=(i:Int)∧i<2*m∧tgt a (tw i)=v
 fr2: ∀i,i<2*m→(i:Int)∈at' fr (tgt a (tw i))
 frn: ∀v,v<n→(at' fr v).length≤2*m
theorem NW.tl {n m:Nat} {a:List aV} {fr:List (List Int)} (h:NW n m a fr) {i:Nat} (hi:i<2*m):tgt a i<n∧(at' a i).to_=(tgt a i:Int):=by
 have:=h.to i hi;unfold tgt;omega
def Z5 (m:Nat) (a:List aV) (K:Nat→Prop):Prop:= ∀i,i<2*m→0<iQ a i→K (tgt a (tw i))→K (tgt a i)
theorem vX {σ ρ:Type} {body:σ→Option (aU σ ρ)} (I:σ→Prop) (μ:σ→Nat) (R:ρ→Prop)
  (h: ∀s,I s→(∃s',body s=some (.next s')∧I s'∧μ s'<μ s)∨(∃r,body s=some (.done r)∧R r)):
  ∀(N:Nat) (s:σ),I s→μ s<N→ ∃r,aZ body N s=some r∧R r
 |0,_,_,hN=>by omega
 |N+1,s,hs,hN=>by
  rw [iI]
  rcases h s hs with⟨s',e,hi,hm⟩|⟨r,e,hr⟩
  ·rw [e];exact vX I μ R h N s' hi (by omega)
  ·rw [e];exact⟨r,rfl,hr⟩
def cntF (l:List Bool):Nat:=(l.filter (! ·)).length
theorem Gz: ∀(l:List Bool) (w:Nat),w<l.length→at' l w=false→cntF (l.set w true)+1=cntF l
 |[],w,h,_=>by simp at h
 |b::l,0,_,h=>by
  have:b=false:=h
  subst this
  simp [cntF]
 |b::l,w+1,h,hb=>by
  have:=Gz l w (by simpa using h) hb
  unfold cntF at this ⊢
  rw [List.set_cons_succ]
  cases b<;>simp<;>omega
def Q8 (a:List aV) (i:Nat) (z:List Bool × List af):List Bool × List af:=
 if(decide (0<iQ a i) && !at' z.1 (tgt a i))=true then(z.1.set (tgt a i) true,z.2++[⟨(at' a i).to_,(i:Int)⟩])else z
def Eh (a:List aV) (L:List Int) (z:List Bool × List af):Nat→List Bool × List af
 |0=>z
 |k+1=>Q8 a (at' L k).toNat (Eh a L z k)
structure BI (n m:Nat) (a:List aV) (bys:List Int) (seen:List Bool) (pd:List af) (W:Nat→Prop) (par:Nat→Int) (rk:Nat→Nat) (t:Nat) (Y:Nat→Prop):Prop where
 sl:seen.length=n
 s0:at' seen 0=true
 p0:par 0= -1
 g2: ∀v,v<n→at' seen v=true→v≠0→ ∃i:Nat,par v=(i:Int)∧i<2*m∧tgt a i=v∧0<iQ a i∧Y (tgt a (tw i))∧rk (tgt a (tw i))<rk v
 g3: ∀v,Y v→v<n∧at' seen v=true∧at' bys v=par v
 g4: ∀x∈pd,∃v:Nat,x.e0=(v:Int)∧v<n∧at' seen v=true∧x.e1=par v
 g5: ∀v,v<n→at' seen v=true→rk v<t
 g6: ∀v,v<n→at' seen v=true→(Y v∧ ∀i,i<2*m→tgt a (tw i)=v→0<iQ a i→at' seen (tgt a i)=true)∨(∃x∈pd,x.e0=(v:Int))∨W v
 g7: ∀K:Nat→Prop,Z5 m a K→K 0→ ∀v,v<n→at' seen v=true→K v
 tc:t+cntF seen=n
theorem fe {l:List Bool} {w v:Nat} (h:w<l.length):at' (l.set w true) v=true↔v=w∨at' l v=true:=by
 by_cases e:w=v
 ·subst e;rw [fI h];simp
 ·rw [eG e]
  exact⟨.inr,fun q=>q.elim (fun x=>absurd x.symm e) id⟩
section
variable {n m:Nat} {a:List aV} {fr:List (List Int)} (hN:NW n m a fr)
include hN
theorem ab6 {bys:List Int} {seen:List Bool} {q:List af} {u:Nat} {par:Nat→Int} {rk:Nat→Nat} {t:Nat} {Y:Nat→Prop} (h:BI n m a bys seen q (· =u) par rk t Y) {i:Nat} (hi:i<2*m) (hu:tgt a (tw i)=u) (hY:Y u):
  ∃par rk t,BI n m a bys (Q8 a i (seen,q)).1 (Q8 a i (seen,q)).2 (· =u) par rk t Y∧(0<iQ a i→at' (Q8 a i (seen,q)).1 (tgt a i)=true)∧(∀v,at' seen v=true→at' (Q8 a i (seen,q)).1 v=true)∧cntF (Q8 a i (seen,q)).1+(Q8 a i (seen,q)).2.length=cntF seen+q.length:=by
 unfold Q8
 by_cases hc:(decide (0<iQ a i) && !at' seen (tgt a i))=true
 ·simp only [hc,if_true]
  rw [Bool.and_eq_true,decide_eq_true_eq,Bool.not_eq_true']at hc
  obtain⟨hl,hw⟩:=hc
  have hwn:=(hN.tl hi).1
  have hto:=(hN.tl hi).2
  generalize hwd:tgt a i=w at*
  have hws:w<seen.length:=by rw [h.sl];exact hwn
  have hw0:w≠0:=fun e=>by rw [e,h.s0]at hw;cases hw
  have neq: ∀v,at' seen v=true→v≠w:=fun v hv e=>by rw [e,hw]at hv;cases hv
  have hus:=(h.g3 u hY).2.1
  refine⟨fun v=>if v=w then(i:Int)else par v,fun v=>if v=w then t else rk v,t+1,⟨?_, ?_, ?_, ?_, ?_, ?_, ?_, ?_, ?_, ?_⟩,fun _=>(fe hws).2 (.inl rfl),fun v hv=>(fe hws).2 (.inr hv), ?_⟩
  ·rw [List.length_set];exact h.sl
  ·exact(fe hws).2 (.inr h.s0)
  ·show(if 0=w then(i:Int)else par 0)= -1
   rw [if_neg (Ne.symm hw0)];exact h.p0
  ·intro v hv hs h0
   rcases(fe hws).1 hs with rfl|hs
   ·refine⟨i,if_pos rfl,hi,hwd,hl,by rw [hu];exact hY, ?_⟩
    rw [hu]
    show(if u=v then t else rk u)<(if v=v then t else rk v)
    rw [if_neg (neq u hus),if_pos rfl]
    exact h.g5 u (h.g3 u hY).1 hus
   ·obtain⟨j,h1,h2,h3,h4,h5,h6⟩:=h.g2 v hv hs h0
    refine⟨j,(if_neg (neq v hs)).trans h1,h2,h3,h4,h5, ?_⟩
    show(if tgt a (tw j)=w then t else rk (tgt a (tw j)))<(if v=w then t else rk v)
    rw [if_neg (neq v hs),if_neg (neq _ (h.g3 _ h5).2.1)]
    exact h6
  ·intro v hv
   obtain⟨h1,h2,h3⟩:=h.g3 v hv
   exact⟨h1,(fe hws).2 (.inr h2),h3.trans (if_neg (neq v h2)).symm⟩
  ·intro x hx
   rw [List.mem_append,List.mem_singleton]at hx
   rcases hx with hx|rfl
   ·obtain⟨v,h1,h2,h3,h4⟩:=h.g4 x hx
    exact⟨v,h1,h2,(fe hws).2 (.inr h3),h4.trans (if_neg (neq v h3)).symm⟩
   ·exact⟨w,hto,hwn,(fe hws).2 (.inl rfl),(if_pos rfl).symm⟩
  ·intro v hv hs
   show(if v=w then t else rk v)<t+1
   rcases(fe hws).1 hs with rfl|hs
   ·rw [if_pos rfl];omega
   ·rw [if_neg (neq v hs)];have:=h.g5 v hv hs;omega
  ·intro v hv hs
   rcases(fe hws).1 hs with rfl|hs
   ·exact .inr (.inl ⟨_,List.mem_append_right _ (List.mem_singleton_self _),hto⟩)
   ·rcases h.g6 v hv hs with⟨h1,h2⟩|⟨x,h1,h2⟩|h1
    ·exact .inl ⟨h1,fun j hj e hl=>(fe hws).2 (.inr (h2 j hj e hl))⟩
    ·exact .inr (.inl ⟨x,List.mem_append_left _ h1,h2⟩)
    ·exact .inr (.inr h1)
  ·intro K hK h0 v hv hs
   rcases(fe hws).1 hs with rfl|hs
   ·have:=hK i hi hl (by rw [hu];exact h.g7 K hK h0 u (h.g3 u hY).1 hus)
    rwa [hwd]at this
   ·exact h.g7 K hK h0 v hv hs
  ·have:=Gz seen w hws hw
   have:=h.tc
   show t+1+cntF (seen.set w true)=n
   omega
  ·have:=Gz seen w hws hw
   rw [List.length_append,List.length_singleton];omega
 ·simp only [hc,if_false]
  refine⟨par,rk,t,h,fun hl=> ?_,fun _=>id,rfl⟩
  rw [decide_eq_true hl,Bool.true_and,Bool.not_eq_true',Bool.not_eq_false]at hc
  exact hc
theorem Oq {bys:List Int} {seen:List Bool} {q:List af} {u:Nat} {par:Nat→Int} {rk:Nat→Nat} {t:Nat} {Y:Nat→Prop} (h:BI n m a bys seen q (· =u) par rk t Y) (hu:u<n) (hY:Y u):
  ∀k,k≤(at' fr u).length→ ∃par rk t,BI n m a bys (Eh a (at' fr u) (seen,q) k).1 (Eh a (at' fr u) (seen,q) k).2 (· =u) par rk t Y∧(∀j,j<k→0<iQ a (at' (at' fr u) j).toNat→at' (Eh a (at' fr u) (seen,q) k).1 (tgt a (at' (at' fr u) j).toNat)=true)∧(∀v,at' seen v=true→at' (Eh a (at' fr u) (seen,q) k).1 v=true)∧cntF (Eh a (at' fr u) (seen,q) k).1+(Eh a (at' fr u) (seen,q) k).2.length=cntF seen+q.length
 |0,_=> ⟨par,rk,t,h,fun j hj=>by omega,fun _=>id,rfl⟩
 |k+1,hk=>by
  obtain⟨par,rk,t,h1,h2,h3,h4⟩:=Oq h hu hY k (by omega)
  obtain⟨i,e,hi,hti⟩:=hN.fr1 u hu _ (at_mem (show k<(at' fr u).length by omega))
  have ei:(at' (at' fr u) k).toNat=i:=by rw [e];rfl
  obtain⟨par,rk,t,g1,g2,g3,g4⟩:=ab6 hN h1 hi hti hY
  refine⟨par,rk,t, ?_, ?_, ?_, ?_⟩
  ·show BI n m a bys (Q8 a (at' (at' fr u) k).toNat (Eh a (at' fr u) (seen,q) k)).1 (Q8 a (at' (at' fr u) k).toNat (Eh a (at' fr u) (seen,q) k)).2 _ _ _ _ _
   rw [ei];exact g1
  ·intro j hj hl
   show at' (Q8 a (at' (at' fr u) k).toNat (Eh a (at' fr u) (seen,q) k)).1 _=true
   rw [ei]
   by_cases e2:j=k
   ·subst e2;rw [ei]at hl ⊢;exact g2 hl
   ·exact g3 _ (h2 j (by omega) hl)
  ·intro v hv
   show at' (Q8 a (at' (at' fr u) k).toNat (Eh a (at' fr u) (seen,q) k)).1 _=true
   rw [ei];exact g3 _ (h3 v hv)
  ·show cntF (Q8 a (at' (at' fr u) k).toNat (Eh a (at' fr u) (seen,q) k)).1+(Q8 a (at' (at' fr u) k).toNat (Eh a (at' fr u) (seen,q) k)).2.length=_
   rw [ei];exact g4.trans h4
theorem BI.visit {bys:List Int} {seen:List Bool} {q:List af} {x:af} {par:Nat→Int} {rk:Nat→Nat} {t:Nat} {Y:Nat→Prop} (h:BI n m a bys seen (x::q) (fun _=>False) par rk t Y) (hl:bys.length=n):
  ∃u:Nat,x.e0=(u:Int)∧u<n∧BI n m a (bys.set u x.e1) seen q (· =u) par rk t (fun v=>Y v∨v=u):=by
 obtain⟨u,e,hu,hs,hp⟩:=h.g4 x List.mem_cons_self
 refine⟨u,e,hu,h.sl,h.s0,h.p0, ?_, ?_,fun y hy=>h.g4 y (List.mem_cons_of_mem _ hy),h.g5, ?_,h.g7,h.tc⟩
 ·intro v hv hs h0
  obtain⟨i,h1,h2,h3,h4,h5,h6⟩:=h.g2 v hv hs h0
  exact⟨i,h1,h2,h3,h4, .inl h5,h6⟩
 ·intro v hv
  by_cases e2:v=u
  ·subst e2;exact⟨hu,hs,by rw [fI (by omega)];exact hp⟩
  ·obtain⟨h1,h2,h3⟩:=h.g3 v (hv.resolve_right e2)
   exact⟨h1,h2,by rw [eG (Ne.symm e2)];exact h3⟩
 ·intro v hv hs
  rcases h.g6 v hv hs with⟨h1,h2⟩|⟨y,h1,h2⟩|h1
  ·exact .inl ⟨.inl h1,h2⟩
  ·rcases List.mem_cons.1 h1 with rfl|h1
   ·exact .inr (.inr (by omega))
   ·exact .inr (.inl ⟨y,h1,h2⟩)
  ·exact h1.elim
theorem BI.done {bys:List Int} {seen:List Bool} {q:List af} {u:Nat} {par:Nat→Int} {rk:Nat→Nat} {t:Nat} {Y:Nat→Prop} (h:BI n m a bys seen q (· =u) par rk t Y) (hY:Y u) (hc: ∀j,j<(at' fr u).length→0<iQ a (at' (at' fr u) j).toNat→at' seen (tgt a (at' (at' fr u) j).toNat)=true):BI n m a bys seen q (fun _=>False) par rk t Y:=by
 refine⟨h.sl,h.s0,h.p0,h.g2,h.g3,h.g4,h.g5,fun v hv hs=> ?_,h.g7,h.tc⟩
 rcases h.g6 v hv hs with h1|h1|rfl
 ·exact .inl h1
 ·exact .inr (.inl h1)
 ·refine .inl ⟨hY,fun i hi hti hl=> ?_⟩
  have:=hN.fr2 i hi
  rw [hti]at this
  obtain⟨j,hj,e⟩:=oU this
  have ei:(at' (at' fr v) j).toNat=i:=by rw [e];rfl
  have:=hc j hj (by rw [ei];exact hl)
  rwa [ei]at this
theorem BI.first {bys:List Int}:BI n m a bys ((List.replicate n false).set 0 true) [⟨0, -1⟩] (fun _=>False) (fun _=> -1) (fun _=>0) 1 (fun _=>False):=by
 have hn:=hN.n1
 have hs: ∀v,v<n→at' ((List.replicate n false).set 0 true) v=true→v=0:=by
  intro v hv h
  rcases(fe (by rw [List.length_replicate];omega)).1 h with h|h
  ·exact h
  ·rw [fV hv]at h;cases h
 have h0:at' ((List.replicate n false).set 0 true) 0=true:=(fe (by rw [List.length_replicate];omega)).2 (.inl rfl)
 refine⟨by simp,h0,rfl,fun v hv h q=>absurd (hs v hv h) q,fun v h=>h.elim, ?_,fun _ _ _=>by omega, ?_, ?_, ?_⟩
 ·intro x hx
  rw [List.mem_singleton]at hx
  subst hx
  exact⟨0,rfl,by omega,h0,rfl⟩
 ·intro v hv h
  have:=hs v hv h
  subst this
  exact .inr (.inl ⟨_,List.mem_singleton_self _,rfl⟩)
 ·intro K hK hK0 v hv h
  rw [hs v hv h];exact hK0
 ·have:=Gz (List.replicate n false) 0 (by rw [List.length_replicate];omega) (fV (by omega))
  have e:cntF (List.replicate n false)=n:=by simp [cntF]
  omega
end
structure Wy (n m:Nat) (a:List aV) (bys:List Int) (sink K:Nat) (p:Nat→Nat) (rk:Nat→Nat):Prop where
 p0:p 0=sink
 pK:p K=0
 end_:at' bys 0= -1
 bl:bys.length=n
 lt: ∀k,k≤K→p k<n
 st: ∀k,k<K→ ∃i:Nat,at' bys (p k)=(i:Int)∧i<2*m∧tgt a i=p k∧0<iQ a i∧p (k+1)=tgt a (tw i)∧rk (p (k+1))<rk (p k)
 Kn:K≤n
section
variable {n m:Nat} {a:List aV} {fr:List (List Int)} (hN:NW n m a fr)
include hN
theorem BI.way {bys:List Int} {seen:List Bool} {q:List af} {W:Nat→Prop} {par:Nat→Int} {rk:Nat→Nat} {t:Nat} {Y:Nat→Prop} (h:BI n m a bys seen q W par rk t Y) (hl:bys.length=n):
  ∀(r v:Nat),rk v≤r→Y v→ ∃K p,Wy n m a bys v K p rk∧K≤rk v:=by
 have base:at' bys 0= -1→ ∃K p,Wy n m a bys 0 K p rk∧K≤rk 0:=fun e=> ⟨0,fun _=>0,⟨rfl,rfl,e,hl,fun _ _=>by have:=hN.n1;show 0<n;omega,fun k hk=>by omega,by omega⟩,by omega⟩
 have byP: ∀v,Y v→at' bys v=par v:=fun v hv=>(h.g3 v hv).2.2
 have rkn: ∀v,Y v→rk v≤n:=fun v hv=>by have:=h.g5 v (h.g3 v hv).1 (h.g3 v hv).2.1;have:=h.tc;omega
 have zero: ∀r v,rk v≤r→Y v→Y 0:=by
  intro r
  induction r with
  |zero=>
   intro v hr hv
   by_cases h0:v=0
   ·subst h0;exact hv
   ·obtain⟨i,_,_,_,_,_,h6⟩:=h.g2 v (h.g3 v hv).1 (h.g3 v hv).2.1 h0
    omega
  |succ r ih=>
   intro v hr hv
   by_cases h0:v=0
   ·subst h0;exact hv
   ·obtain⟨i,_,_,_,_,h5,h6⟩:=h.g2 v (h.g3 v hv).1 (h.g3 v hv).2.1 h0
    exact ih _ (by omega) h5
 intro r
 induction r with
 |zero=>
  intro v hr hv
  by_cases h0:v=0
  ·subst h0;exact base ((byP 0 hv).trans h.p0)
  ·obtain⟨i,_,_,_,_,_,h6⟩:=h.g2 v (h.g3 v hv).1 (h.g3 v hv).2.1 h0
   omega
 |succ r ih=>
  intro v hr hv
  by_cases h0:v=0
  ·subst h0;exact base ((byP 0 hv).trans h.p0)
  ·obtain⟨i,h1,h2,h3,h4,h5,h6⟩:=h.g2 v (h.g3 v hv).1 (h.g3 v hv).2.1 h0
   obtain⟨K,p,hw,hK⟩:=ih _ (by omega) h5
   refine⟨K+1,fun k=>match k with|0=>v|k+1=>p k,⟨rfl,hw.pK,hw.end_,hl, ?_, ?_, ?_⟩,by omega⟩
   ·intro k hk
    match k,hk with
    |0,_=>exact(h.g3 v hv).1
    |k+1,hk=>exact hw.lt k (by omega)
   ·intro k hk
    match k,hk with
    |0,_=>exact⟨i,(byP v hv).trans h1,h2,h3,h4,hw.p0,by show rk (p 0)<rk v;rw [hw.p0];exact h6⟩
    |k+1,hk=>exact hw.st k (by omega)
   ·have:=rkn v hv;omega
end
def ER (A:List aV) (i:Nat) (l:Int):List aV:=A.set i ⟨(at' A i).to_,iQ A i - l⟩
def Pz (A:List aV) (i:Nat) (l:Int):List aV:=(ER A i l).set (tw i) ⟨(at' (ER A i l) (tw i)).to_,iQ (ER A i l) (tw i)+l⟩
theorem YZ (A:List aV) (i:Nat) (l:Int):(Pz A i l).length=A.length:=by simp [Pz,ER]
theorem X4 {A:List aV} {i:Nat} {l:Int} (j:Nat) (hi:i<A.length) (ht:tw i<A.length):(at' (Pz A i l) j).to_=(at' A j).to_:=by
 have h1: ∀j,(at' (ER A i l) j).to_=(at' A j).to_:=fun j=>by
  unfold ER
  by_cases e:i=j
  ·subst e;rw [fI hi]
  ·rw [eG e]
 unfold Pz
 by_cases e:tw i=j
 ·subst e;rw [fI (by simpa [ER]using ht)];exact h1 _
 ·rw [eG e];exact h1 _
theorem Z7 {A:List aV} {i:Nat} {l:Int} (j:Nat) (hi:i<A.length) (ht:tw i<A.length):iQ (Pz A i l) j=if j=i then iQ A i - l else if j=tw i then iQ A (tw i)+l else iQ A j:=by
 have h1: ∀j,iQ (ER A i l) j=if j=i then iQ A i - l else iQ A j:=fun j=>by
  unfold iQ ER
  by_cases e:i=j
  ·subst e;rw [fI hi,if_pos rfl];rfl
  ·rw [eG e,if_neg (Ne.symm e)]
 have hne:=Wo i
 by_cases e:tw i=j
 ·subst e
  rw [if_neg hne,if_pos rfl]
  unfold Pz
  show(at' ((ER A i l).set (tw i) _) (tw i)).left=_
  rw [fI (by simpa [ER]using ht)]
  show iQ (ER A i l) (tw i)+l=_
  rw [h1,if_neg hne]
 ·unfold Pz
  show(at' ((ER A i l).set (tw i) _) j).left=_
  rw [eG e]
  show iQ (ER A i l) j=_
  rw [h1]
  by_cases e2:j=i
  ·rw [if_pos e2,if_pos e2]
  ·rw [if_neg e2,if_neg e2,if_neg (fun q=>e q.symm)]
def nI (m:Nat) (a:List aV) (v:Nat):Int:=bH (2*m) fun i=>if tgt a i=v then iQ a i else 0
structure Sm (m:Nat) (a b:List aV):Prop where
 len:b.length=a.length
 to: ∀j,(at' b j).to_=(at' a j).to_
 sum: ∀j,j<2*m→iQ b j+iQ b (tw j)=iQ a j+iQ a (tw j)
 pos: ∀j,j<2*m→0≤iQ b j
theorem Sm.tgt {m:Nat} {a b:List aV} (h:Sm m a b) (j:Nat):tgt b j=Sg.tgt a j:=by unfold Sg.tgt;rw [h.to]
theorem Sm.trans {m:Nat} {a b c:List aV} (h:Sm m a b) (g:Sm m b c):Sm m a c:=⟨g.len.trans h.len,fun j=>(g.to j).trans (h.to j),fun j hj=>(g.sum j hj).trans (h.sum j hj),g.pos⟩
theorem NW.same {n m:Nat} {a b:List aV} {fr:List (List Int)} (hN:NW n m a fr) (h:Sm m a b):NW n m b fr:=by
 refine⟨hN.n1,hN.m1,h.len.trans hN.len,fun i hi=>by rw [h.to];exact hN.to i hi,fun i hi=> ⟨h.pos i hi,by rw [h.sum i hi];exact(hN.left i hi).2⟩,hN.frl,fun v hv x hx=> ?_,fun i hi=> ?_,hN.frn⟩
 ·obtain⟨i,h1,h2,h3⟩:=hN.fr1 v hv x hx
  exact⟨i,h1,h2,(h.tgt _).trans h3⟩
 ·rw [h.tgt];exact hN.fr2 i hi
def gF (a:List aV) (bys:List Int) (p:Nat→Nat):Nat→Int
 |0=> -1
 |k+1=>if gF a bys p k<0∨iQ a (at' bys (p k)).toNat<gF a bys p k then iQ a (at' bys (p k)).toNat else gF a bys p k
def nH (a:List aV) (bys:List Int) (p:Nat→Nat) (l:Int):Nat→List aV
 |0=>a
 |k+1=>Pz (nH a bys p l k) (at' bys (p k)).toNat l
section
variable {n m:Nat} {a:List aV} {fr:List (List Int)} (hN:NW n m a fr) {bys:List Int} {sink K:Nat} {p:Nat→Nat} {rk:Nat→Nat} (hw:Wy n m a bys sink K p rk)
include hN hw
theorem MW: ∀k,k≤K→(k=0∧gF a bys p k= -1)∨(0<gF a bys p k∧gF a bys p k≤1000000∧ ∀j,j<k→gF a bys p k≤iQ a (at' bys (p j)).toNat)
 |0,_=> .inl ⟨rfl,rfl⟩
 |k+1,hk=>by
  obtain⟨i,h1,h2,h3,h4,h5,h6⟩:=hw.st k (by omega)
  have hl:=hN.left i h2
  have hl2:=hN.left _ (FT h2)
  have e:(at' bys (p k)).toNat=i:=by rw [h1];rfl
  refine .inr ?_
  have ih:=MW k (by omega)
  rw [gF,e]
  rcases ih with⟨h0,h⟩|⟨g1,g2,g3⟩
  ·rw [if_pos (by omega)]
   refine⟨h4,by omega,fun j hj=> ?_⟩
   have:j=k:=by omega
   subst this;rw [e];exact Int.le_refl _
  ·by_cases hc:iQ a i<gF a bys p k
   ·rw [if_pos (.inr hc)]
    refine⟨h4,by omega,fun j hj=> ?_⟩
    by_cases e2:j=k
    ·subst e2;rw [e];exact Int.le_refl _
    ·have:=g3 j (by omega);omega
   ·rw [if_neg (by omega)]
    refine⟨g1,g2,fun j hj=> ?_⟩
    by_cases e2:j=k
    ·subst e2;rw [e];omega
    ·exact g3 j (by omega)
theorem ai3 {j k:Nat} (hjk:j<k) (hk:k≤K):rk (p k)<rk (p j):=by
 induction k with
 |zero=>omega
 |succ k ih=>
  obtain⟨i,_,_,_,_,_,h6⟩:=hw.st k (by omega)
  by_cases e:j=k
  ·subst e;exact h6
  ·have:=ih (by omega) (by omega);omega
theorem TQ {l:Int} (hl0:0<l) (hl: ∀j,j<K→l≤iQ a (at' bys (p j)).toNat): ∀k,k≤K→Sm m a (nH a bys p l k)∧(∀j,k≤j→j<K→iQ (nH a bys p l k) (at' bys (p j)).toNat=iQ a (at' bys (p j)).toNat)∧
  ∀v,nI m (nH a bys p l k) v=nI m a v - (if v=p 0 then l else 0)+(if v=p k then l else 0)
 |0,_=> ⟨⟨rfl,fun _=>rfl,fun _ _=>rfl,fun j hj=>(hN.left j hj).1⟩,fun _ _ _=>rfl,fun v=>by show nI m a v=_;omega⟩
 |k+1,hk=>by
  obtain⟨h1,h2,h3⟩:=TQ hl0 hl k (by omega)
  obtain⟨i,g1,g2,g3,g4,g5,g6⟩:=hw.st k (by omega)
  have e:(at' bys (p k)).toNat=i:=by rw [g1];rfl
  have ht:=FT g2
  have hne:=Wo i
  have hlen:(nH a bys p l k).length=2*m:=h1.len.trans hN.len
  have hlf: ∀j,iQ (nH a bys p l (k+1)) j=if j=i then iQ (nH a bys p l k) i - l else if j=tw i then iQ (nH a bys p l k) (tw i)+l else iQ (nH a bys p l k) j:=fun j=>by
   show iQ (Pz (nH a bys p l k) (at' bys (p k)).toNat l) j=_
   rw [e];exact Z7 j (by omega) (by omega)
  have hto: ∀j,(at' (nH a bys p l (k+1)) j).to_=(at' (nH a bys p l k) j).to_:=fun j=>by
   show(at' (Pz (nH a bys p l k) (at' bys (p k)).toNat l) j).to_=_
   rw [e];exact X4 j (by omega) (by omega)
  have hi0:iQ (nH a bys p l k) i=iQ a i:=by have:=h2 k (Nat.le_refl _) (by omega);rwa [e]at this
  have hli:l≤iQ a i:=by have:=hl k (by omega);rwa [e]at this
  have s1:Sm m (nH a bys p l k) (nH a bys p l (k+1)):=by
   refine⟨by show(Pz _ _ _).length=_;exact YZ _ _ _,hto,fun j hj=> ?_,fun j hj=> ?_⟩
   ·rw [hlf,hlf]
    by_cases e1:j=i
    ·subst e1;rw [if_pos rfl,if_neg hne,if_pos rfl];omega
    ·rw [if_neg e1]
     by_cases e2:j=tw i
     ·subst e2;rw [MS,if_pos rfl,if_pos rfl];omega
     ·rw [if_neg e2,if_neg (fun q=>e2 (by rw [←q,MS])),if_neg (fun q=>e1 (by have:=congrArg tw q;rwa [MS,MS]at this))]
   ·rw [hlf]
    have:=h1.pos j hj
    split
    ·omega
    ·split
     ·have:=h1.pos _ ht;omega
     ·exact this
  refine⟨h1.trans s1,fun j hj hjK=> ?_,fun v=> ?_⟩
  ·obtain⟨i',f1,f2,f3,f4,f5,f6⟩:=hw.st j hjK
   have e':(at' bys (p j)).toNat=i':=by rw [f1];rfl
   have hr:=ai3 hN hw (show k<j by omega) (by omega)
   rw [←h2 j (by omega) hjK,e',hlf]
   have n1:i'≠i:=fun q=>by rw [q,g3]at f3;rw [f3]at hr;omega
   have n2:i'≠tw i:=fun q=>by
    rw [q]at f3 f5
    rw [MS,g3]at f5
    rw [f5]at f6
    omega
   rw [if_neg n1,if_neg n2]
  ·have:nI m (nH a bys p l (k+1)) v=nI m (nH a bys p l k) v - (if v=p k then l else 0)+(if v=p (k+1)then l else 0):=by
    unfold nI
    have htg: ∀j,tgt (nH a bys p l (k+1)) j=tgt (nH a bys p l k) j:=fun j=>by unfold tgt;rw [hto]
    have htk: ∀j,tgt (nH a bys p l k) j=tgt a j:=h1.tgt
    have e1:(bH (2*m) fun j=>if tgt (nH a bys p l (k+1)) j=v then iQ (nH a bys p l (k+1)) j else 0)=bH (2*m) fun j=>((if tgt (nH a bys p l k) j=v then iQ (nH a bys p l k) j else 0) - (if j=i then(if v=p k then l else 0)else 0))+(if j=tw i then(if v=p (k+1)then l else 0)else 0):=by
     refine dF fun j hj=> ?_
     rw [htg,hlf,htk]
     by_cases e1:j=i
     ·subst e1
      rw [if_pos rfl,if_pos rfl,if_neg (Ne.symm hne),g3]
      by_cases e2:p k=v
      ·rw [if_pos e2,if_pos e2,if_pos e2.symm];omega
      ·rw [if_neg e2,if_neg e2,if_neg (Ne.symm e2)];omega
     ·rw [if_neg e1,if_neg e1]
      by_cases e2:j=tw i
      ·subst e2
       rw [if_pos rfl,if_pos rfl,←g5]
       by_cases e3:p (k+1)=v
       ·rw [if_pos e3,if_pos e3,if_pos e3.symm];omega
       ·rw [if_neg e3,if_neg e3,if_neg (Ne.symm e3)];omega
      ·rw [if_neg e2,if_neg e2];omega
    rw [e1,BL,FV,JC (fun _=>if v=p k then l else 0) g2,JC (fun _=>if v=p (k+1)then l else 0) ht]
   rw [this,h3];omega
end
theorem XO {A:List aV} {o:List Int} {x19 x20 l:Int} {bys:List Int} (hbd:o.set x19.toNat x20=bys) {pk i:Nat} (hpk:pk<bys.length) (hby:at' bys pk=(i:Int)) (hi:i<A.length) (ht:tw i<A.length) (h6:i<1000000)
  (b1: -1000000000000≤iQ A i - l∧iQ A i - l≤1000000000000) (b2: -1000000000000≤iQ A (tw i)+l∧iQ A (tw i)+l≤1000000000000):
  bN x19 x20 o l (A,(pk:Int))=some (.next (Pz A i l,(at' A (tw i)).to_)):=by
 have hne:=Wo i
 have e1:(at' (A.set i ⟨(at' A i).to_,(at' A i).left - l⟩) (tw i)).left=iQ A (tw i):=by rw [eG (Ne.symm hne)];rfl
 unfold bN
 dsimp only
 rw [hbd,Int.toNat_natCast,hby,Int.toNat_natCast,xor_eq h6,Int.toNat_natCast,aH (by omega),decide_eq_true (show(0:Int)≤(i:Int) by omega),cond_true,aH (by omega),wr (x:=(at' A i).left - l) (by have:iQ A i=(at' A i).left:=rfl;omega),aH ⟨by omega,by rw [List.length_set];omega⟩,e1,wr (x:=iQ A (tw i)+l) (by omega),aH ⟨by omega,by rw [List.length_set,List.length_set];omega⟩]
 have e2:((A.set i ⟨(at' A i).to_,(at' A i).left - l⟩).set (tw i) ⟨(at' (A.set i ⟨(at' A i).to_,(at' A i).left - l⟩) (tw i)).to_,iQ A (tw i)+l⟩)=Pz A i l:=by
  unfold Pz
  have:iQ (ER A i l) (tw i)=iQ A (tw i):=e1
  rw [this];rfl
 rw [e2,X4 _ hi ht]
theorem Xu {a:List aV} {fr:List (List Int)} {o:List Int} {x19 x20:Int} {bys:List Int} (hbd:o.set x19.toNat x20=bys) {pk i:Nat} {least:Int} (hpk:pk<bys.length) (hby:at' bys pk=(i:Int)) (hi:i<a.length) (ht:tw i<a.length) (h6:i<1000000):
  bM x19 x20 o ⟨a,fr⟩ (least,(pk:Int))=some (.next (if least<0∨iQ a i<least then iQ a i else least,(at' a (tw i)).to_)):=by
 unfold bM
 dsimp only
 rw [hbd,Int.toNat_natCast,hby,Int.toNat_natCast,xor_eq h6,Int.toNat_natCast,aH (by omega),decide_eq_true (show(0:Int)≤(i:Int) by omega),cond_true,aH (by omega)]
 simp only [aH (show((0:Int)≤(pk:Int)∧(pk:Int)<(bys.length:Int))∧((0:Int)≤(tw i:Int)∧(tw i:Int)<(a.length:Int)) by omega)]
 by_cases c1:least<0
 ·rw [decide_eq_true c1,if_pos (.inl c1)];rfl
 ·rw [decide_eq_false c1]
  by_cases c2:(at' a i).left<least
  ·rw [decide_eq_true c2,if_pos (.inr c2)];rfl
  ·rw [decide_eq_false c2,if_neg (fun q=>q.elim c1 c2)];rfl
section
variable {n m:Nat} {a:List aV} {fr:List (List Int)} (hN:NW n m a fr)
include hN
theorem NW.res (v:Nat):0≤nI m a v∧nI m a v≤2000000000:=by
 have h: ∀i,i<2*m→0≤(if tgt a i=v then iQ a i else 0)∧(if tgt a i=v then iQ a i else 0)≤1000000:=fun i hi=>by
  have h1:=hN.left i hi;have h2:=hN.left _ (FT hi)
  split<;>omega
 have:=Pf (n:=2*m) (f:=fun i=>if tgt a i=v then iQ a i else 0) fun i hi=> ⟨by have:=h i hi;omega,(h i hi).2⟩
 have h0:=OG (n:=2*m) (f:=fun i=>if tgt a i=v then iQ a i else 0) fun i hi=>(h i hi).1
 have:=hN.m1
 unfold nI
 exact⟨h0,by omega⟩
theorem SG {sink:Nat} (h0:sink≠0) {o bys:List Int} {x20:Int} (hbd:o.set sink x20=bys) (hol:o.length=n) (hs:sink<n) {K:Nat} {p rk:Nat→Nat} (hw:Wy n m a bys sink K p rk):
  ∃a',dG (sink:Int) x20 (sink:Int) o ⟨a,fr⟩=some (2,bys,⟨a',fr⟩)∧Sm m a a'∧(∀v,v≠0→v≠sink→nI m a' v=nI m a v)∧nI m a' sink<nI m a sink:=by
 have hK0:K≠0:=fun e=>by have:=hw.pK;rw [e,hw.p0]at this;exact h0 this
 have hKn:=hw.Kn
 have hn1:=hN.n1
 have hbd':o.set (sink:Int).toNat x20=bys:=by rw [Int.toNat_natCast];exact hbd
 have hlen:=hN.len
 have hm:=hN.m1
 have stp: ∀k,k<K→ ∃i:Nat,at' bys (p k)=(i:Int)∧(at' bys (p k)).toNat=i∧i<2*m∧tw i<2*m∧(at' a (tw i)).to_=(p (k+1):Int):=fun k hk=>by
  obtain⟨i,h1,h2,h3,h4,h5,h6⟩:=hw.st k hk
  exact⟨i,h1,by rw [h1];rfl,h2,FT h2,by rw [h5];exact(hN.tl (FT h2)).2⟩
 obtain⟨hl,hl1,hl2⟩:0<gF a bys p K∧gF a bys p K≤1000000∧ ∀j,j<K→gF a bys p K≤iQ a (at' bys (p j)).toNat:=(MW hN hw K (Nat.le_refl _)).resolve_left (fun q=>hK0 q.1)
 have L0:aZ (bM (sink:Int) x20 o ⟨a,fr⟩) FUEL (-1,(sink:Int))=some (.brk (gF a bys p K)):=by
  have e:((-1:Int),(sink:Int))=(fun k=>(gF a bys p k,(p k:Int))) 0:=by show _=(gF a bys p 0,(p 0:Int));rw [hw.p0];rfl
  rw [e]
  refine lC (fun k=>(gF a bys p k,(p k:Int))) K _ (fuel_lt (by omega)) (fun k hk=> ?_) ?_
  ·obtain⟨i,h1,h2,h3,h4,h5⟩:=stp k hk
   show bM _ _ _ _ (gF a bys p k,(p k:Int))=some (.next (gF a bys p (k+1),(p (k+1):Int)))
   rw [Xu hbd' (by rw [hw.bl];exact hw.lt k (by omega)) h1 (by omega) (by omega) (by omega),h5,gF,h2]
  ·show bM _ _ _ _ (gF a bys p K,(p K:Int))=_
   rw [hw.pK]
   unfold bM
   dsimp only
   rw [hbd',Int.toNat_natCast,hw.end_,aH (by rw [hw.bl];omega)]
   rfl
 have Pz:=fun k hk=>TQ hN hw hl hl2 k hk
 have L1:aZ (bN (sink:Int) x20 o (gF a bys p K)) FUEL (a,(sink:Int))=some (.brk (nH a bys p (gF a bys p K) K)):=by
  have e:(a,(sink:Int))=(fun k=>(nH a bys p (gF a bys p K) k,(p k:Int))) 0:=by show _=(nH a bys p (gF a bys p K) 0,(p 0:Int));rw [hw.p0];rfl
  rw [e]
  refine lC (fun k=>(nH a bys p (gF a bys p K) k,(p k:Int))) K _ (fuel_lt (by omega)) (fun k hk=> ?_) ?_
  ·obtain⟨i,h1,h2,h3,h4,h5⟩:=stp k hk
   obtain⟨g1,g2,g3⟩:=Pz k (by omega)
   have hN':=hN.same g1
   have b1:=hN'.left i h3
   have b2:=hN'.left _ h4
   rw [MS]at b2
   show bN _ _ _ _ (nH a bys p (gF a bys p K) k,(p k:Int))=some (.next (nH a bys p (gF a bys p K) (k+1),(p (k+1):Int)))
   rw [XO hbd' (by rw [hw.bl];exact hw.lt k (by omega)) h1 (by rw [hN'.len];omega) (by rw [hN'.len];omega) (by omega) (by omega) (by omega),g1.to,h5,nH,h2]
  ·show bN _ _ _ _ (nH a bys p (gF a bys p K) K,(p K:Int))=_
   rw [hw.pK]
   unfold bN
   dsimp only
   rw [hbd',Int.toNat_natCast,hw.end_,aH (by rw [hw.bl];omega)]
   rfl
 obtain⟨g1,g2,g3⟩:=Pz K (Nat.le_refl _)
 refine⟨nH a bys p (gF a bys p K) K, ?_,g1,fun v hv hv2=> ?_, ?_⟩
 ·unfold dG
  rw [aH (by omega),decide_eq_true rfl,Bool.not_true,cond_false,L0]
  simp only [Option.bind_some]
  rw [L1,hbd'];rfl
 ·rw [g3,hw.p0,hw.pK,if_neg hv2,if_neg hv];omega
 ·rw [g3,hw.p0,hw.pK,if_pos rfl,if_neg h0];omega
theorem Pw {bys:List Int} {seen:List Bool} {q:List af} {u:Nat} {par:Nat→Int} {rk:Nat→Nat} {t:Nat} {Y:Nat→Prop} (h:BI n m a bys seen q (· =u) par rk t Y) (hY:Y u) (hq:cntF seen+q.length≤n) (c:Nat) (by_:List Int):
  aZ (dH (u:Int) (c,by_,⟨a,fr⟩)) FUEL (seen,q,0)=some (.brk (Eh a (at' fr u) (seen,q) (at' fr u).length))∧
  aZ (bS a fr (u:Int)) FUEL (seen,q,0)=some (.brk (Eh a (at' fr u) (seen,q) (at' fr u).length)):=by
 have hu:=(h.g3 u hY).1
 have hfl:=hN.frn u hu
 have hm:=hN.m1
 have hn:=hN.n1
 have step: ∀k,k<(at' fr u).length→dH (u:Int) (c,by_,⟨a,fr⟩) ((Eh a (at' fr u) (seen,q) k).1,(Eh a (at' fr u) (seen,q) k).2,(k:Int))=some (.next ((Eh a (at' fr u) (seen,q) (k+1)).1,(Eh a (at' fr u) (seen,q) (k+1)).2,((k+1:Nat):Int)))∧
   bS a fr (u:Int) ((Eh a (at' fr u) (seen,q) k).1,(Eh a (at' fr u) (seen,q) k).2,(k:Int))=some (.next ((Eh a (at' fr u) (seen,q) (k+1)).1,(Eh a (at' fr u) (seen,q) (k+1)).2,((k+1:Nat):Int))):=by
  intro k hk
  obtain⟨par,rk,t,h1,h2,h3,h4⟩:=Oq hN h hu hY k (by omega)
  obtain⟨i,e,hi,hti⟩:=hN.fr1 u hu _ (at_mem hk)
  have ei:(at' (at' fr u) k).toNat=i:=by rw [e];rfl
  rw [Eh,ei]
  generalize Eh a (at' fr u) (seen,q) k=z at h1 h4 ⊢
  obtain⟨sn,qq⟩:=z
  have hsl:=h1.sl
  have hql:qq.length≤n:=by have h4':cntF sn+qq.length=cntF seen+q.length:=h4;omega
  have hto:=hN.to i hi
  have htg:=hN.tl hi
  have hsl':sn.length=n:=hsl
  constructor
  ·unfold dH Q8
   dsimp only
   rw [Int.toNat_natCast,Int.toNat_natCast,e,Int.toNat_natCast,ZA (by omega),cond_true,aH (by omega),aH (by rw [hN.len];omega),aH (fun _=>by omega),aH (by omega),wr (x:=(k:Int)+1) (by omega),XD]
   rw [show(at' a i).left=iQ a i from rfl,show(at' a i).to_.toNat=tgt a i from rfl]
   unfold ja
   rw [aH ⟨by simp only [List.length_singleton];omega,by simp only [List.length_singleton];omega⟩]
   cases decide (0<iQ a i)<;>cases at' sn (tgt a i)<;>rfl
  ·unfold bS Q8
   dsimp only
   rw [Int.toNat_natCast,Int.toNat_natCast,e,Int.toNat_natCast,ZA (by omega),cond_true,aH (by omega),aH (by rw [hN.len];omega),aH (fun _=>by omega),aH (by omega),wr (x:=(k:Int)+1) (by omega),XD]
   rw [show(at' a i).left=iQ a i from rfl,show(at' a i).to_.toNat=tgt a i from rfl]
   unfold ja
   rw [aH ⟨by simp only [List.length_singleton];omega,by simp only [List.length_singleton];omega⟩]
   cases decide (0<iQ a i)<;>cases at' sn (tgt a i)<;>rfl
 constructor
 ·refine lC (fun k=>((Eh a (at' fr u) (seen,q) k).1,(Eh a (at' fr u) (seen,q) k).2,(k:Int))) (at' fr u).length _ (fuel_lt (by omega)) (fun k hk=>(step k hk).1) ?_
  unfold dH
  dsimp only
  rw [Int.toNat_natCast,Rv (by omega)];rfl
 ·refine lC (fun k=>((Eh a (at' fr u) (seen,q) k).1,(Eh a (at' fr u) (seen,q) k).2,(k:Int))) (at' fr u).length _ (fuel_lt (by omega)) (fun k hk=>(step k hk).2) ?_
  unfold bS
  dsimp only
  rw [Int.toNat_natCast,Rv (by omega)];rfl
end
def Apart (m:Nat) (a:List aV) (sink:Nat):Prop:= ∃K:Nat→Prop,Z5 m a K∧K 0∧ ¬ K sink
section
variable {n m:Nat} {a:List aV} {fr:List (List Int)} (hN:NW n m a fr)
include hN
theorem Rb {sink:Nat} (h0:sink≠0) (hs:sink<n): ∃r,fB (sink:Int) (List.replicate n 0) ⟨a,fr⟩=some r∧
  ((r.1=0∧r.2.2=⟨a,fr⟩∧Apart m a sink)∨(r.1=2∧ ∃a',r.2.2=⟨a',fr⟩∧Sm m a a'∧(∀v,v≠0→v≠sink→nI m a' v=nI m a v)∧nI m a' sink<nI m a sink)):=by
 have hn:=hN.n1
 have key:=vX (body:=fO (sink:Int))
  (fun s:List aV × List (List Int) × List Int × List Bool × List af × Int × Int=>s.1=a∧s.2.1=fr∧s.2.2.1.length=n∧(∃par rk t Y,BI n m a s.2.2.1 s.2.2.2.1 (⟨s.2.2.2.2.2.1,s.2.2.2.2.2.2⟩::s.2.2.2.2.1) (fun _=>False) par rk t Y∧ ¬ Y sink)∧cntF s.2.2.2.1+s.2.2.2.2.1.length+1≤n)
  (fun s=>cntF s.2.2.2.1+s.2.2.2.2.1.length+1)
  (fun r:Ex Unit (Nat × List Int × Network)=> ∃v,r= .ret v∧((v.1=0∧v.2.2=⟨a,fr⟩∧Apart m a sink)∨(v.1=2∧ ∃a',v.2.2=⟨a',fr⟩∧Sm m a a'∧(∀w,w≠0→w≠sink→nI m a' w=nI m a w)∧nI m a' sink<nI m a sink)))
  (fun s hI=> ?_)
 ·unfold fB
  dsimp only
  rw [hN.frl,aH ⟨by omega,by omega,by omega⟩,aH ⟨by omega,by rw [List.length_replicate];omega⟩]
  obtain⟨r,e,v,rfl,h⟩:=key FUEL (a,fr,List.replicate n 0,(List.replicate n false).set 0 true,[],0, -1) ⟨rfl,rfl,by simp,⟨_,_,_,_,BI.first hN,id⟩,by
   have:=(BI.first (bys:=[]) hN).tc
   show cntF ((List.replicate n false).set 0 true)+0+1≤n
   omega⟩ (by
   have:=(BI.first (bys:=[]) hN).tc
   show cntF ((List.replicate n false).set 0 true)+0+1<FUEL
   unfold FUEL
   omega)
  rw [Int.toNat_natCast,e]
  exact⟨v,rfl,h⟩
 ·obtain⟨a',fr',by_,seen,q,at0,at1⟩:=s
  obtain⟨rfl,rfl,hl,⟨par,rk,t,Y,hB,hY⟩,hc⟩:=hI
  dsimp only at hl hB hc ⊢
  obtain⟨u,e,hu,hB⟩:=hB.visit hN hl
  have e:at0=(u:Int):=e
  subst e
  unfold fO
  dsimp only
  have hl2:(by_.set u at1).length=n:=by rw [List.length_set];exact hl
  by_cases hus:u=sink
  ·subst hus
   obtain⟨K,p,hw,_⟩:=hB.way hN hl2 _ u (Nat.le_refl _) (.inr rfl)
   obtain⟨a'',e1,g1,g2,g3⟩:=SG hN h0 (o:=by_) (x20:=at1) rfl hl hs hw
   rw [e1]
   exact .inr ⟨_,rfl,_,rfl, .inr ⟨rfl,a'',rfl,g1,g2,g3⟩⟩
  ·have e1:dG (u:Int) at1 (sink:Int) by_ ⟨a',fr'⟩=some (0,by_.set u at1,⟨a',fr'⟩):=by
    unfold dG
    rw [aH (by omega),decide_eq_false (by omega),Int.toNat_natCast];rfl
   rw [e1]
   simp only [Option.bind_some]
   rw [show Nat.beq 0 0=true from rfl,cond_true,aH (by rw [hN.frl];omega),(Pw hN hB (.inr rfl) (by omega) 0 _).1]
   obtain⟨par2,rk2,t2,h1,h2,h3,h4⟩:=Oq hN hB hu (.inr rfl) (at' fr' u).length (Nat.le_refl _)
   have h5:=h1.done hN (.inr rfl) h2
   generalize Eh a' (at' fr' u) (seen,q) (at' fr' u).length=z at h4 h5 ⊢
   obtain⟨sn,qq⟩:=z
   have hY2: ¬ (Y sink∨sink=u):=fun q=>q.elim hY (fun q=>hus q.symm)
   simp only [Option.bind_some]
   unfold iE
   cases qq with
   |nil=>
    right
    refine⟨_,rfl,_,rfl, .inl ⟨rfl,rfl,fun v=>v<n∧at' sn v=true, ?_,⟨by omega,h5.s0⟩, ?_⟩⟩
    ·rintro i hi hl ⟨hv,hs⟩
     rcases h5.g6 _ hv hs with⟨_,g⟩|⟨x,hx,_⟩|g
     ·exact⟨(hN.tl hi).1,g i hi rfl hl⟩
     ·cases hx
     ·exact g.elim
    ·rintro ⟨_,hss⟩
     rcases h5.g6 _ hs hss with⟨g,_⟩|⟨x,hx,_⟩|g
     ·exact hY2 g
     ·cases hx
     ·exact g.elim
   |cons x qr=>
    left
    have h4':cntF sn+(qr.length+1)=cntF seen+q.length:=h4
    refine⟨(a',fr',by_.set u at1,sn,qr,x.e0,x.e1), ?_,⟨rfl,rfl,hl2,⟨_,_,_,_,h5,hY2⟩, ?_⟩, ?_⟩
    ·simp only [List.length_cons]
     rw [decide_eq_false (by omega),cond_false,aH ⟨by omega,by omega⟩];rfl
    ·show cntF sn+qr.length+1≤n
     omega
    ·show cntF sn+qr.length+1<cntF seen+q.length+1
     omega
theorem aaF {sink:Nat} (h0:sink≠0) (hs:sink<n): ∃a',iP (sink:Int) ⟨a,fr⟩=some ⟨a',fr⟩∧Sm m a a'∧(∀v,v≠0→v≠sink→nI m a' v=nI m a v)∧Apart m a' sink:=by
 have hn:=hN.n1
 have key:=vX (body:=iV (sink:Int))
  (fun s:List aV × List (List Int)=>s.2=fr∧Sm m a s.1∧ ∀v,v≠0→v≠sink→nI m s.1 v=nI m a v)
  (fun s=>(nI m s.1 sink).toNat)
  (fun r:Ex Unit Network=> ∃a',r= .ret ⟨a',fr⟩∧Sm m a a'∧(∀v,v≠0→v≠sink→nI m a' v=nI m a v)∧Apart m a' sink)
  (fun s hI=> ?_)
 ·obtain⟨r,e,a',rfl,h⟩:=key FUEL (a,fr) ⟨rfl,⟨rfl,fun _=>rfl,fun _ _=>rfl,fun j hj=>(hN.left j hj).1⟩,fun _ _ _=>rfl⟩ (by
   have:=hN.res sink
   show(nI m a sink).toNat<FUEL
   unfold FUEL;omega)
  unfold iP
  dsimp only
  rw [e]
  exact⟨a',rfl,h⟩
 ·obtain⟨b,fr'⟩:=s
  obtain⟨rfl,h1,h2⟩:=hI
  dsimp only at h1 h2 ⊢
  have hN':=hN.same h1
  unfold iV
  dsimp only
  rw [hN.frl,aH ⟨by omega,by omega,by omega⟩,Int.toNat_natCast]
  obtain⟨r,e,h⟩:=Rb hN' h0 hs
  unfold eT
  simp only [Option.bind_some]
  rw [e]
  simp only [Option.bind_some]
  rcases h with⟨r1,r2,r3⟩|⟨r1,a',r2,g1,g2,g3⟩
  ·right
   rw [r1,r2,show Nat.beq 0 0=true from rfl,cond_true]
   exact⟨_,rfl,b,rfl,h1,h2,r3⟩
  ·left
   rw [r1,r2,show Nat.beq 2 0=false from rfl,cond_false,aH rfl]
   refine⟨_,rfl,⟨rfl,h1.trans g1,fun v hv hv2=>(g2 v hv hv2).trans (h2 v hv hv2)⟩, ?_⟩
   have:=(hN'.same g1).res sink
   show(nI m a' sink).toNat<(nI m b sink).toNat
   omega
theorem UH {p:ai} (hb:0≤p.buses∧p.buses<n): ∃cut,dI a fr p (List.replicate p.buses.toNat false)=some cut∧cut.length=p.buses.toNat∧
  ∃R:Nat→Prop,Z5 m a R∧R 0∧(∀v,R v→v<n)∧(∀K,Z5 m a K→K 0→ ∀v,R v→K v)∧ ∀b:Nat,(b:Int)<p.buses→(at' cut b=true↔R (b+1)):=by
 have hn:=hN.n1
 have key:=vX (body:=eU a fr p)
  (fun s:List Bool × List Bool × List af × Int × Int=>s.1.length=p.buses.toNat∧(∃bys par rk t Y,bys.length=n∧BI n m a bys s.2.1 (⟨s.2.2.2.1,s.2.2.2.2⟩::s.2.2.1) (fun _=>False) par rk t Y∧ ∀b:Nat,(b:Int)<p.buses→(at' s.1 b=true↔Y (b+1)))∧cntF s.2.1+s.2.2.1.length+1≤n)
  (fun s=>cntF s.2.1+s.2.2.1.length+1)
  (fun r:Ex Unit (List Bool)=> ∃cut,r= .ret cut∧cut.length=p.buses.toNat∧ ∃R:Nat→Prop,Z5 m a R∧R 0∧(∀v,R v→v<n)∧(∀K,Z5 m a K→K 0→ ∀v,R v→K v)∧ ∀b:Nat,(b:Int)<p.buses→(at' cut b=true↔R (b+1)))
  (fun s hI=> ?_)
 ·unfold dI
  rw [hN.frl,aH ⟨by omega,by omega,by omega⟩,aH ⟨by omega,by rw [List.length_replicate];omega⟩]
  obtain⟨r,e,v,rfl,h⟩:=key FUEL (List.replicate p.buses.toNat false,(List.replicate n false).set 0 true,[],0, -1) ⟨by simp,⟨List.replicate n 0,_,_,_,_,by simp,BI.first hN,fun b hb2=>by
   show at' (List.replicate p.buses.toNat false) b=true↔False
   rw [fV (by omega)];simp⟩,by
   have:=(BI.first (bys:=[]) hN).tc
   show cntF ((List.replicate n false).set 0 true)+0+1≤n
   omega⟩ (by
   have:=(BI.first (bys:=[]) hN).tc
   show cntF ((List.replicate n false).set 0 true)+0+1<FUEL
   unfold FUEL
   omega)
  rw [Int.toNat_natCast,e]
  exact⟨v,rfl,h⟩
 ·obtain⟨o,seen,q,at0,at1⟩:=s
  obtain⟨ho,⟨bys,par,rk,t,Y,hl,hB,hO⟩,hc⟩:=hI
  dsimp only at ho hB hO hc ⊢
  obtain⟨u,e,hu,hB⟩:=hB.visit hN hl
  have e:at0=(u:Int):=e
  subst e
  unfold eU
  dsimp only
  have hl2:(bys.set u at1).length=n:=by rw [List.length_set];exact hl
  obtain⟨o2,e1,ho2,hO2⟩: ∃o2,jM (u:Int) at1 p o=some o2∧o2.length=p.buses.toNat∧ ∀b:Nat,(b:Int)<p.buses→(at' o2 b=true↔Y (b+1)∨b+1=u):=by
   unfold jM
   rw [wr (x:=(u:Int) - 1) (by omega)]
   by_cases c:0<(u:Int)∧(u:Int)≤p.buses
   ·rw [decide_eq_true c.1,decide_eq_true c.2]
    simp only [cond_true]
    rw [aH (by rw [ho];omega)]
    refine⟨_,rfl,by rw [List.length_set];exact ho,fun b hb2=> ?_⟩
    rw [fe (by rw [ho];omega),hO b hb2,or_comm]
    exact or_congr Iff.rfl (by omega)
   ·have:(bif decide (0<(u:Int))then decide ((u:Int)≤p.buses)else false)=false:=by
     by_cases c1:0<(u:Int)
     ·rw [decide_eq_true c1,cond_true,decide_eq_false (fun q=>c ⟨c1,q⟩)]
     ·rw [decide_eq_false c1,cond_false]
    rw [this,cond_false]
    exact⟨_,rfl,ho,fun b hb2=>(hO b hb2).trans ⟨.inl,fun q=>q.elim id (fun q=>by omega)⟩⟩
  rw [e1]
  simp only [Option.bind_some]
  rw [aH (by rw [hN.frl];omega),(Pw hN hB (.inr rfl) (by omega) 0 []).2]
  obtain⟨par2,rk2,t2,h1,h2,h3,h4⟩:=Oq hN hB hu (.inr rfl) (at' fr u).length (Nat.le_refl _)
  have h5:=h1.done hN (.inr rfl) h2
  generalize Eh a (at' fr u) (seen,q) (at' fr u).length=z at h4 h5 ⊢
  obtain⟨sn,qq⟩:=z
  simp only [Option.bind_some]
  unfold iE
  cases qq with
  |nil=>
   right
   have hall: ∀v,v<n→at' sn v=true→(Y v∨v=u)∧ ∀i,i<2*m→tgt a (tw i)=v→0<iQ a i→at' sn (tgt a i)=true:=fun v hv hs=>by
    rcases h5.g6 _ hv hs with g|⟨x,hx,_⟩|g
    ·exact g
    ·cases hx
    ·exact g.elim
   refine⟨_,rfl,_,rfl,ho2,fun v=>v<n∧at' sn v=true, ?_,⟨by omega,h5.s0⟩,fun v h=>h.1,fun K hK hK0 v h=>h5.g7 K hK hK0 v h.1 h.2,fun b hb2=>(hO2 b hb2).trans ⟨fun h=> ?_,fun h=>(hall _ h.1 h.2).1⟩⟩
   ·rintro i hi hl ⟨hv,hs⟩
    exact⟨(hN.tl hi).1,(hall _ hv hs).2 i hi rfl hl⟩
   ·have:=h5.g3 (b+1) h
    exact⟨this.1,this.2.1⟩
  |cons x qr=>
   left
   have h4':cntF sn+(qr.length+1)=cntF seen+q.length:=h4
   refine⟨(o2,sn,qr,x.e0,x.e1), ?_,⟨ho2,⟨_,_,_,_,_,hl2,h5,hO2⟩, ?_⟩, ?_⟩
   ·simp only [List.length_cons]
    rw [decide_eq_false (by omega),cond_false,aH ⟨by omega,by omega⟩];rfl
   ·show cntF sn+qr.length+1≤n
    omega
   ·show cntF sn+qr.length+1<cntF seen+q.length+1
    omega
end
def Pr (a:List aV) (j:Nat) (u v:Nat) (t k:Int):Prop:=at' a (2*j)=⟨(v:Int),t⟩∧at' a (2*j+1)=⟨(u:Int),k⟩
theorem vC {α:Type} [Inhabited α] {l x:List α} {i:Nat} (h:i<l.length):at' (l++x) i=at' l i:=by
 rw [iJ (by rw [List.length_append];omega),iJ h,List.getElem_append_left h]
theorem Av {α:Type} [Inhabited α] {l x:List α} {i:Nat} (h:i<x.length):at' (l++x) (l.length+i)=at' x i:=by
 rw [iJ (by rw [List.length_append];omega),iJ h,List.getElem_append_right (by omega)]
 congr 1;omega
theorem Pr.app {a x:List aV} {j u v:Nat} {t k:Int} (h:Pr a j u v t k) (hl:2*j+1<a.length):Pr (a++x) j u v t k:=⟨(vC (by omega)).trans h.1,(vC hl).trans h.2⟩
theorem Ol {n m:Nat} {a:List aV} {fr:List (List Int)} (hN:NW n m a fr) {u v:Nat} {t k:Int} (hu:u<n) (hv:v<n) (huv:u≠v) (ht:0≤t) (hk:0≤k) (htk:t+k≤1000000) (hm:m+1≤1000):
  ∃fr',dQ (u:Int) (v:Int) t k ⟨a,fr⟩=some (((2*m:Nat):Int),⟨a++[⟨(v:Int),t⟩,⟨(u:Int),k⟩],fr'⟩)∧NW n (m+1) (a++[⟨(v:Int),t⟩,⟨(u:Int),k⟩]) fr'∧Pr (a++[⟨(v:Int),t⟩,⟨(u:Int),k⟩]) m u v t k:=by
 have hlen:=hN.len
 have hfl:=hN.frl
 have hfu:=hN.frn u hu
 have hfv:=hN.frn v hv
 have hb: ∀i,i<2*m→at' (a++[⟨(v:Int),t⟩,⟨(u:Int),k⟩]) i=at' a i:=fun i hi=>vC (by omega)
 have hb0:at' (a++[⟨(v:Int),t⟩,⟨(u:Int),k⟩]) (2*m)=⟨(v:Int),t⟩:=by rw [←hlen];exact Av (i:=0) (by simp)
 have hb1:at' (a++[⟨(v:Int),t⟩,⟨(u:Int),k⟩]) (2*m+1)=⟨(u:Int),k⟩:=by rw [←hlen];exact Av (i:=1) (by simp)
 have e1:at' (fr.set u (at' fr u++[((2*m:Nat):Int)])) v=at' fr v:=eG huv
 refine⟨(fr.set u (at' fr u++[((2*m:Nat):Int)])).set v (at' fr v++[((2*m+1:Nat):Int)]), ?_, ?_,hb0,hb1⟩
 ·unfold dQ
  dsimp only
  simp only [List.length_cons,List.length_nil]
  rw [Int.toNat_natCast,Int.toNat_natCast,aH ⟨by omega,by omega⟩,aH ⟨by omega,by omega,by omega⟩,hlen,e1,aH ⟨by rw [List.length_set];omega,by omega,by omega⟩,wr (x:=((2*m:Nat):Int)+1) (by omega),XD]
 ·have hfr: ∀w,at' ((fr.set u (at' fr u++[((2*m:Nat):Int)])).set v (at' fr v++[((2*m+1:Nat):Int)])) w=if w=v then at' fr v++[((2*m+1:Nat):Int)]else if w=u then at' fr u++[((2*m:Nat):Int)]else at' fr w:=fun w=>by
   by_cases h1:v=w
   ·subst h1;rw [fI (by rw [List.length_set];omega),if_pos rfl]
   ·rw [eG h1,if_neg (Ne.symm h1)]
    by_cases h2:u=w
    ·subst h2;rw [fI (by omega),if_pos rfl]
    ·rw [eG h2,if_neg (Ne.symm h2)]
  have tg: ∀i,i<2*m→tgt (a++[⟨(v:Int),t⟩,⟨(u:Int),k⟩]) i=tgt a i:=fun i hi=>by unfold tgt;rw [hb i hi]
  have tg0:tgt (a++[⟨(v:Int),t⟩,⟨(u:Int),k⟩]) (2*m)=v:=by unfold tgt;rw [hb0];rfl
  have tg1:tgt (a++[⟨(v:Int),t⟩,⟨(u:Int),k⟩]) (2*m+1)=u:=by unfold tgt;rw [hb1];rfl
  have t0:tw (2*m)=2*m+1:=by unfold tw;rw [if_pos (by omega)]
  have t1:tw (2*m+1)=2*m:=by unfold tw;rw [if_neg (by omega)];omega
  have cs: ∀i,i<2*(m+1)→i<2*m∨i=2*m∨i=2*m+1:=fun i hi=>by omega
  refine⟨hN.n1,hm,by simp;omega,fun i hi=> ?_,fun i hi=> ?_,by simp [hfl],fun w hw x hx=> ?_,fun i hi=> ?_,fun w hw=> ?_⟩
  ·rcases cs i hi with h|rfl|rfl
   ·rw [hb i h];exact hN.to i h
   ·rw [hb0];show 0≤(v:Int)∧(v:Int)<n;omega
   ·rw [hb1];show 0≤(u:Int)∧(u:Int)<n;omega
  ·unfold iQ
   rcases cs i hi with h|rfl|rfl
   ·rw [hb i h,hb _ (FT h)];exact hN.left i h
   ·rw [t0,hb0,hb1];exact⟨ht,htk⟩
   ·rw [t1,hb0,hb1];exact⟨hk,by show k+t≤_;omega⟩
  ·rw [hfr]at hx
   have old: ∀w,w<n→ ∀x∈at' fr w,∃i:Nat,x=(i:Int)∧i<2*(m+1)∧tgt (a++[⟨(v:Int),t⟩,⟨(u:Int),k⟩]) (tw i)=w:=fun w hw x hx=>by
    obtain⟨i,h1,h2,h3⟩:=hN.fr1 w hw x hx
    exact⟨i,h1,by omega,by rw [tg _ (FT h2)];exact h3⟩
   split at hx
   ·rename_i e;subst e
    rw [List.mem_append,List.mem_singleton]at hx
    rcases hx with hx|rfl
    ·exact old _ hw x hx
    ·exact⟨_,rfl,by omega,by rw [t1];exact tg0⟩
   ·split at hx
    ·rename_i e;subst e
     rw [List.mem_append,List.mem_singleton]at hx
     rcases hx with hx|rfl
     ·exact old _ hw x hx
     ·exact⟨_,rfl,by omega,by rw [t0];exact tg1⟩
    ·exact old _ hw x hx
  ·rw [hfr]
   rcases cs i hi with h|rfl|rfl
   ·rw [tg _ (FT h)]
    have:=hN.fr2 i h
    split
    ·rename_i e;rw [e]at this;exact List.mem_append_left _ this
    ·split
     ·rename_i e;rw [e]at this;exact List.mem_append_left _ this
     ·exact this
   ·rw [t0,tg1,if_neg huv,if_pos rfl];exact List.mem_append_right _ (List.mem_singleton_self _)
   ·rw [t1,tg0,if_pos rfl];exact List.mem_append_right _ (List.mem_singleton_self _)
  ·rw [hfr]
   have:=hN.frn w hw
   split
   ·rw [List.length_append,List.length_singleton];omega
   ·split
    ·rw [List.length_append,List.length_singleton];omega
    ·omega
theorem NW.nil {n:Nat} (h:1≤n∧n≤1000):NW n 0 [] (List.replicate n []):=by
 refine⟨h,by omega,rfl,fun i hi=>by omega,fun i hi=>by omega,by simp,fun v hv x hx=> ?_,fun i hi=>by omega,fun v hv=> ?_⟩
 ·rw [fV hv]at hx;cases hx
 ·rw [fV hv];simp
def kY (f:Nat→Bool):Nat→Nat
 |0=>0
 |k+1=>kY f k+(if f k=true then 1 else 0)
theorem GL (f:Nat→Bool) (k:Nat):kY f (k+1)=kY f k+(if f k=true then 1 else 0):=rfl
theorem N9 (f:Nat→Bool) (k:Nat):kY f k≤k:=by
 induction k with
 |zero=>exact Nat.le_refl _
 |succ k ih=>rw [GL];split<;>omega
theorem XJ (f:Nat→Bool) {j k:Nat} (h:j≤k):kY f j≤kY f k:=by
 induction k with
 |zero=>
  have:j=0:=by omega
  subst this;exact Nat.le_refl _
 |succ k ih=>
  by_cases e:j=k+1
  ·subst e;exact Nat.le_refl _
  ·have:=ih (by omega);rw [GL];split<;>omega
theorem zJ {f:Nat→Bool} {j k:Nat} (h:j<k) (hf:f j=true):kY f j<kY f k:=by
 have h1:kY f (j+1)=kY f j+1:=by show kY f j+_=_;rw [if_pos hf]
 have:=XJ f (show j+1≤k by omega)
 omega
theorem Nu (f:Nat→Bool) (g:Nat→Int) (o:Nat): ∀k,bH (o+kY f k) g=bH o g+bH k fun i=>if f i=true then g (o+kY f i)else 0
 |0=>by simp [kY,bH]
 |k+1=>by
  have ih:=Nu f g o k
  rw [GL,bH]
  cases hf:f k with
  |true=>rw [if_pos rfl,if_pos rfl,show o+(kY f k+1)=(o+kY f k)+1 by omega,bH,ih];omega
  |false=>rw [if_neg (by simp),if_neg (by simp),Nat.add_zero,ih];omega
def MO (f:Nat→Bool) (o:Nat):Nat→List (Int × Int)
 |0=>[]
 |k+1=>MO f o k++(if f k=true then [((k:Int),((2*(o+kY f k):Nat):Int))]else [])
theorem FO {f:Nat→Bool} {o:Nat}: ∀{k:Nat} {e:Int × Int},e∈MO f o k↔ ∃i,i<k∧f i=true∧e=((i:Int),((2*(o+kY f i):Nat):Int))
 |0,e=>by simp [MO]
 |k+1,e=>by
  unfold MO
  rw [List.mem_append,FO]
  constructor
  ·rintro (⟨i,h1,h2,h3⟩|h)
   ·exact⟨i,by omega,h2,h3⟩
   ·split at h
    ·rename_i hf;rw [List.mem_singleton]at h;exact⟨k,by omega,hf,h⟩
    ·cases h
  ·rintro ⟨i,h1,h2,h3⟩
   by_cases e1:i=k
   ·subst e1;right;rw [if_pos h2,List.mem_singleton];exact h3
   ·exact .inl ⟨i,by omega,h2,h3⟩
theorem Fp {κ α:Type} {eq:κ→κ→Bool} {k:κ} {v:α}: ∀{l:List (κ × α)},(∀e∈l,eq k e.1=false)→gN eq k v l=l++[(k,v)]
 |[],_=>rfl
 |(k',v')::l,h=>by
  have h1:=h (k',v') List.mem_cons_self
  unfold gN
  rw [h1,cond_false,Fp fun e he=>h e (List.mem_cons_of_mem _ he)];rfl
section
variable {p:ai} {s:State} (hp:VP p) (hs:VS p s)
include hp hs
def nodes (p:ai):Nat:=2+p.buses.toNat+p.racks.length
theorem XV: ∃a fr,aZ (iM p s) FUEL ([],List.replicate (nodes p) [],[],0)=some (.brk (p.sources,a,fr,List.replicate p.sources.length 0,MO (bC p s) 0 p.sources.length))∧NW (nodes p) (kY (bC p s) p.sources.length) a fr∧
  ∀k,k<p.sources.length→bC p s k=true→Pr a (kY (bC p s) k) 0 (1+(at' p.sources k).bus.toNat) (at' p.sources k).power 0:=by
 have hsl:=hp.sl;have hrl:=hp.rl;have hb:=hp.b
 have key:=vX (body:=iM p s)
  (fun z:List aV × List (List Int) × List (Int × Int) × Int=> ∃k:Nat,z.2.2.2=(k:Int)∧k≤p.sources.length∧NW (nodes p) (kY (bC p s) k) z.1 z.2.1∧z.2.2.1=MO (bC p s) 0 k∧ ∀j,j<k→bC p s j=true→Pr z.1 (kY (bC p s) j) 0 (1+(at' p.sources j).bus.toNat) (at' p.sources j).power 0)
  (fun z=>p.sources.length - z.2.2.2.toNat)
  (fun r=> ∃a fr,r= .brk (p.sources,a,fr,List.replicate p.sources.length 0,MO (bC p s) 0 p.sources.length)∧NW (nodes p) (kY (bC p s) p.sources.length) a fr∧ ∀k,k<p.sources.length→bC p s k=true→Pr a (kY (bC p s) k) 0 (1+(at' p.sources k).bus.toNat) (at' p.sources k).power 0)
  (fun z hI=> ?_)
 ·obtain⟨r,e,a,fr,rfl,h⟩:=key FUEL ([],List.replicate (nodes p) [],[],0) ⟨0,rfl,by omega,NW.nil (by unfold nodes;omega),rfl,fun j hj=>by omega⟩ (by show p.sources.length - _<FUEL;unfold FUEL;omega)
  exact⟨a,fr,e,h⟩
 ·obtain⟨a,fr,mp,t⟩:=z
  obtain⟨k,rfl,hk,hN,hm,hP⟩:=hI
  dsimp only at hN hm hP ⊢
  subst hm
  unfold iM
  dsimp only
  by_cases hk2:k<p.sources.length
  ·left
   have hv:=hp.src k hk2;have hbus:=hv.bus;have hw:=hv.power
   have hcl:=N9 (bC p s) k
   rw [ZA (by omega),cond_true,aH (by omega),Nk hp hs hk2,Option.bind_some,Int.toNat_natCast,wr (x:=(k:Int)+1) (by omega)]
   have h1:kY (bC p s) (k+1)=kY (bC p s) k+(if bC p s k=true then 1 else 0):=rfl
   have hm1:MO (bC p s) 0 (k+1)=MO (bC p s) 0 k++(if bC p s k=true then [((k:Int),((2*(0+kY (bC p s) k):Nat):Int))]else []):=rfl
   cases hf:bC p s k with
   |false=>
    rw [hf,if_neg (by simp)]at h1 hm1
    rw [cond_false]
    refine⟨_,rfl,⟨k+1,by simp,by omega,by rw [h1];exact hN,by rw [hm1,List.append_nil],fun j hj hfj=> ?_⟩, ?_⟩
    ·by_cases e:j=k
     ·subst e;rw [hf]at hfj;cases hfj
     ·exact hP j (by omega) hfj
    ·show p.sources.length - ((k:Int)+1).toNat<p.sources.length - (k:Int).toNat
     omega
   |true=>
    rw [hf,if_pos rfl]at h1 hm1
    have e1:IntKind.wrap .i64 (1+(at' p.sources k).bus)=((1+(at' p.sources k).bus.toNat:Nat):Int):=by rw [wr (by omega)];omega
    obtain⟨fr',g1,g2,g3⟩:=Ol hN (u:=0) (v:=1+(at' p.sources k).bus.toNat) (t:=(at' p.sources k).power) (k:=0) (by unfold nodes;omega) (by unfold nodes;omega) (by omega) (by omega) (by omega) (by omega) (by omega)
    rw [cond_true,e1]
    have g1':dQ 0 ((1+(at' p.sources k).bus.toNat:Nat):Int) (at' p.sources k).power 0 ⟨a,fr⟩=_:=g1
    rw [g1',Option.bind_some]
    refine⟨_,rfl,⟨k+1,by simp,by omega,by rw [h1];exact g2, ?_,fun j hj hfj=> ?_⟩, ?_⟩
    ·rw [hm1]
     rw [Nat.zero_add]
     exact Fp fun e he=>by
      obtain⟨i,h1,h2,rfl⟩:=FO.1 he
      exact Xx (by show(k:Int)≠(i:Int);omega)
    ·by_cases e:j=k
     ·subst e;exact g3
     ·refine(hP j (by omega) hfj).app ?_
      have:=zJ (show j<k by omega) hfj
      rw [hN.len];omega
    ·show p.sources.length - ((k:Int)+1).toNat<p.sources.length - (k:Int).toNat
     omega
  ·right
   have:k=p.sources.length:=by omega
   subst this
   rw [Rv (by omega),cond_false,Int.toNat_natCast]
   exact⟨_,rfl,a,fr,rfl,hN,hP⟩
end
def Kp (m:Nat) (a b:List aV):Prop:= ∀j u v t k,j<m→Pr a j u v t k→Pr b j u v t k
def Wj (p:ai) (s:State) (r:Nat):Nat:=1+(if jF s (at' p.racks r).feeds.e0=true then 1 else 0)+(if jF s (at' p.racks r).feeds.e1=true then 1 else 0)
def qH (p:ai) (s:State):Nat→Nat
 |0=>0
 |k+1=>qH p s k+Wj p s k
theorem BH (p:ai) (s:State) (k:Nat):qH p s (k+1)=qH p s k+Wj p s k:=rfl
theorem Rk (p:ai) (s:State) (r:Nat):1≤Wj p s r∧Wj p s r≤3:=by unfold Wj;split<;>split<;>omega
theorem YL (p:ai) (s:State) (k:Nat):qH p s k≤3*k:=by
 induction k with
 |zero=>exact Nat.le_refl _
 |succ k ih=>rw [BH];have:=Rk p s k;omega
theorem Oe {p:ai} {s:State} {j k:Nat} (h:j<k):qH p s j+Wj p s j≤qH p s k:=by
 induction k with
 |zero=>omega
 |succ k ih=>
  rw [BH]
  by_cases e:j=k
  ·subst e;exact Nat.le_refl _
  ·have:=ih (by omega);omega
def mH (p:ai) (s:State) (o r:Nat) (c:Bool):Nat:=o+qH p s r+1+(if c=true∧jF s (at' p.racks r).feeds.e0=true then 1 else 0)
def Pg (p:ai) (s:State) (o r:Nat):List (af × Int):=if jF s (at' p.racks r).feeds.e0=true then [(⟨(r:Int),0⟩,((2*mH p s o r false:Nat):Int))]else []
def adM (p:ai) (s:State) (o r:Nat):List (af × Int):=if jF s (at' p.racks r).feeds.e1=true then [(⟨(r:Int),1⟩,((2*mH p s o r true:Nat):Int))]else []
def Lg (p:ai) (s:State) (o:Nat):Nat→List (af × Int)
 |0=>[]
 |k+1=>Lg p s o k++Pg p s o k++adM p s o k
theorem CW {p:ai} {s:State} {o:Nat}: ∀{k:Nat} {e:af × Int},e∈Lg p s o k↔ ∃r,r<k∧((jF s (at' p.racks r).feeds.e0=true∧e=(⟨(r:Int),0⟩,((2*mH p s o r false:Nat):Int)))∨(jF s (at' p.racks r).feeds.e1=true∧e=(⟨(r:Int),1⟩,((2*mH p s o r true:Nat):Int))))
 |0,e=>by simp [Lg]
 |k+1,e=>by
  unfold Lg
  rw [List.mem_append,List.mem_append,CW]
  constructor
  ·rintro ((⟨i,h1,h2⟩|h)|h)
   ·exact⟨i,by omega,h2⟩
   ·unfold Pg at h
    split at h
    ·rename_i hf;rw [List.mem_singleton]at h;exact⟨k,by omega, .inl ⟨hf,h⟩⟩
    ·cases h
   ·unfold adM at h
    split at h
    ·rename_i hf;rw [List.mem_singleton]at h;exact⟨k,by omega, .inr ⟨hf,h⟩⟩
    ·cases h
  ·rintro ⟨i,h1,h2⟩
   by_cases e1:i=k
   ·subst e1
    rcases h2 with⟨hf,h⟩|⟨hf,h⟩
    ·left;right;unfold Pg;rw [if_pos hf,List.mem_singleton];exact h
    ·right;unfold adM;rw [if_pos hf,List.mem_singleton];exact h
   ·exact .inl (.inl ⟨i,by omega,h2⟩)
section
variable {p:ai} {s:State} (hp:VP p) (hs:VS p s)
include hp hs
theorem YF {m0:Nat} {a0:List aV} {fr0:List (List Int)} (hN0:NW (nodes p) m0 a0 fr0) (hm0:m0≤8): ∃a fr,aZ (iG p s p.sources) FUEL (a0,fr0,[],0)=some (.brk (p.links,a,fr,List.replicate p.links.length 0,MO (bA p s) m0 p.links.length))∧NW (nodes p) (m0+kY (bA p s) p.links.length) a fr∧Kp m0 a0 a∧
  ∀k,k<p.links.length→bA p s k=true→Pr a (m0+kY (bA p s) k) (1+(at' p.links k).a.toNat) (1+(at' p.links k).b.toNat) (at' p.links k).most (at' p.links k).most:=by
 have hsl:=hp.ll;have hrl:=hp.rl;have hb:=hp.b
 have key:=vX (body:=iG p s p.sources)
  (fun z:List aV × List (List Int) × List (Int × Int) × Int=> ∃k:Nat,z.2.2.2=(k:Int)∧k≤p.links.length∧NW (nodes p) (m0+kY (bA p s) k) z.1 z.2.1∧z.2.2.1=MO (bA p s) m0 k∧Kp m0 a0 z.1∧ ∀j,j<k→bA p s j=true→Pr z.1 (m0+kY (bA p s) j) (1+(at' p.links j).a.toNat) (1+(at' p.links j).b.toNat) (at' p.links j).most (at' p.links j).most)
  (fun z=>p.links.length - z.2.2.2.toNat)
  (fun r=> ∃a fr,r= .brk (p.links,a,fr,List.replicate p.links.length 0,MO (bA p s) m0 p.links.length)∧NW (nodes p) (m0+kY (bA p s) p.links.length) a fr∧Kp m0 a0 a∧ ∀k,k<p.links.length→bA p s k=true→Pr a (m0+kY (bA p s) k) (1+(at' p.links k).a.toNat) (1+(at' p.links k).b.toNat) (at' p.links k).most (at' p.links k).most)
  (fun z hI=> ?_)
 ·obtain⟨r,e,a,fr,rfl,h⟩:=key FUEL (a0,fr0,[],0) ⟨0,rfl,by omega,hN0,rfl,fun j u v t k _ h=>h,fun j hj=>by omega⟩ (by show p.links.length - _<FUEL;unfold FUEL;omega)
  exact⟨a,fr,e,h⟩
 ·obtain⟨a,fr,mp,t⟩:=z
  obtain⟨k,rfl,hk,hN,hm,hKp,hP⟩:=hI
  dsimp only at hN hm hKp hP ⊢
  subst hm
  unfold iG
  dsimp only
  by_cases hk2:k<p.links.length
  ·left
   have hv:=hp.lnk k hk2;have ha:=hv.a;have hbb:=hv.b;have hne:=hv.ab;have hw:=hv.most
   have hcl:=N9 (bA p s) k
   have hc:eH ⟨p.buses,p.sources,p.links,p.racks⟩ s (k:Int)=some (bA p s k):=QM hp hs hk2
   rw [ZA (by omega),cond_true,aH (by omega),hc,Option.bind_some,Int.toNat_natCast,wr (x:=(k:Int)+1) (by omega)]
   have h1:kY (bA p s) (k+1)=kY (bA p s) k+(if bA p s k=true then 1 else 0):=rfl
   have hm1:MO (bA p s) m0 (k+1)=MO (bA p s) m0 k++(if bA p s k=true then [((k:Int),((2*(m0+kY (bA p s) k):Nat):Int))]else []):=rfl
   cases hf:bA p s k with
   |false=>
    rw [hf,if_neg (by simp)]at h1 hm1
    rw [cond_false]
    refine⟨_,rfl,⟨k+1,by simp,by omega,by rw [h1];exact hN,by rw [hm1,List.append_nil],hKp,fun j hj hfj=> ?_⟩, ?_⟩
    ·by_cases e:j=k
     ·subst e;rw [hf]at hfj;cases hfj
     ·exact hP j (by omega) hfj
    ·show p.links.length - ((k:Int)+1).toNat<p.links.length - (k:Int).toNat
     omega
   |true=>
    rw [hf,if_pos rfl]at h1 hm1
    have e1:IntKind.wrap .i64 (1+(at' p.links k).a)=((1+(at' p.links k).a.toNat:Nat):Int):=by rw [wr (by omega)];omega
    have e2:IntKind.wrap .i64 (1+(at' p.links k).b)=((1+(at' p.links k).b.toNat:Nat):Int):=by rw [wr (by omega)];omega
    obtain⟨fr',g1,g2,g3⟩:=Ol hN (u:=1+(at' p.links k).a.toNat) (v:=1+(at' p.links k).b.toNat) (t:=(at' p.links k).most) (k:=(at' p.links k).most) (by unfold nodes;omega) (by unfold nodes;omega) (by omega) (by omega) (by omega) (by omega) (by omega)
    rw [cond_true,e1,e2,g1,Option.bind_some]
    refine⟨_,rfl,⟨k+1,by simp,by omega,by rw [h1];exact g2, ?_,fun j u v t k hj h=>(hKp j u v t k hj h).app (by rw [hN.len];omega),fun j hj hfj=> ?_⟩, ?_⟩
    ·rw [hm1]
     exact Fp fun e he=>by
      obtain⟨i,h1,h2,rfl⟩:=FO.1 he
      exact Xx (by show(k:Int)≠(i:Int);omega)
    ·by_cases e:j=k
     ·subst e;exact g3
     ·refine(hP j (by omega) hfj).app ?_
      have:=zJ (show j<k by omega) hfj
      rw [hN.len];omega
    ·show p.links.length - ((k:Int)+1).toNat<p.links.length - (k:Int).toNat
     omega
  ·right
   have:k=p.links.length:=by omega
   subst this
   rw [Rv (by omega),cond_false,Int.toNat_natCast]
   exact⟨_,rfl,a,fr,rfl,hN,hKp,hP⟩
theorem Kv {m:Nat} {a:List aV} {fr:List (List Int)} (hN:NW (nodes p) m a fr) (hm:m+1≤1000) {r:Nat} (hr:r<p.racks.length) (mp:List (af × Int)) {c:Nat} {b:Int} (hc:at' [(at' p.racks r).feeds.e0,(at' p.racks r).feeds.e1] c=b) (hc2:c<2) (hb1: -1≤b∧b<p.buses) (hnew: ∀e∈mp,e.1≠⟨(r:Int),(c:Int)⟩):
  ∃a' fr',fG p s p.racks (r:Int) (a,fr,mp,(c:Int))=some (.next (a',fr',mp++(if jF s b=true then [(⟨(r:Int),(c:Int)⟩,((2*m:Nat):Int))]else []),((c+1:Nat):Int)))∧NW (nodes p) (m+(if jF s b=true then 1 else 0)) a' fr'∧Kp m a a'∧(jF s b=true→Pr a' m (1+b.toNat) (1+p.buses.toNat+r) (at' p.racks r).power 0):=by
 have hrl:=hp.rl;have hb:=hp.b
 have hw:=(hp.rck r hr).power
 have h4:=hs.badBus
 have hf:jf s b=some (jF s b):=by
  unfold jf jF
  rw [aH (fun h=> ⟨of_decide_eq_true (gB1 h),by omega⟩)]
  cases decide (0≤b)<;>rfl
 unfold fG
 dsimp only
 rw [Int.toNat_natCast,Int.toNat_natCast,ZA (by omega),cond_true,aH (by omega),hc,hf,Option.bind_some,wr (x:=(c:Int)+1) (by omega)]
 cases hfb:jF s b with
 |false=>
  refine⟨a,fr, ?_,hN,fun j u v t k _ h=>h,fun h=>by cases h⟩
  rw [if_neg (by simp),List.append_nil];rfl
 |true=>
  have hb0:0≤b:=by unfold jF at hfb;rw [Bool.and_eq_true,decide_eq_true_eq]at hfb;exact hfb.1
  have e1:IntKind.wrap .i64 (1+b)=((1+b.toNat:Nat):Int):=by rw [wr (by omega)];omega
  have e2:IntKind.wrap .i64 (IntKind.wrap .i64 (1+p.buses)+(r:Int))=((1+p.buses.toNat+r:Nat):Int):=by rw [wr (x:=1+p.buses) (by omega),wr (by omega)];omega
  obtain⟨fr',g1,g2,g3⟩:=Ol hN (u:=1+b.toNat) (v:=1+p.buses.toNat+r) (t:=(at' p.racks r).power) (k:=0) (by unfold nodes;omega) (by unfold nodes;omega) (by omega) (by omega) (by omega) (by omega) hm
  refine⟨_,fr', ?_,g2,fun j u v t k hj h=>h.app (by rw [hN.len];omega),fun _=>g3⟩
  rw [cond_true,e1,e2,g1,Option.bind_some,if_pos rfl]
  rw [Fp (fun e he=>by
   have:=hnew e he
   cases h1:(decide ((r:Int)=e.1.e0) && (decide ((c:Int)=e.1.e1) && true))with
   |false=>rfl
   |true=>
    rw [Bool.and_true,Bool.and_eq_true,decide_eq_true_eq,decide_eq_true_eq]at h1
    refine absurd ?_ this
    obtain⟨⟨x,y⟩,z⟩:=e
    obtain⟨rfl,rfl⟩:=h1;rfl)]
  rfl
theorem WK {m0:Nat} {a0:List aV} {fr0:List (List Int)} (hN0:NW (nodes p) m0 a0 fr0) (hm0:m0≤48) (x2:List af): ∃a fr,aZ (iF p s) FUEL (p.racks,((1+p.buses.toNat+p.racks.length:Nat):Int),a0,fr0,x2,[],p.racks,(p.racks.length:Int),0)=some (.brk (p.racks,((1+p.buses.toNat+p.racks.length:Nat):Int),a,fr,x2,Lg p s m0 p.racks.length))∧NW (nodes p) (m0+qH p s p.racks.length) a fr∧Kp m0 a0 a∧
  ∀r,r<p.racks.length→Pr a (m0+qH p s r) (1+p.buses.toNat+r) (1+p.buses.toNat+p.racks.length) (at' p.racks r).power 0∧(jF s (at' p.racks r).feeds.e0=true→Pr a (mH p s m0 r false) (1+(at' p.racks r).feeds.e0.toNat) (1+p.buses.toNat+r) (at' p.racks r).power 0)∧(jF s (at' p.racks r).feeds.e1=true→Pr a (mH p s m0 r true) (1+(at' p.racks r).feeds.e1.toNat) (1+p.buses.toNat+r) (at' p.racks r).power 0):=by
 have hrl:=hp.rl;have hb:=hp.b
 have key:=vX (body:=iF p s)
  (fun z:List ax × Int × List aV × List (List Int) × List af × List (af × Int) × List ax × Int × Int=> ∃k a fr,z=(p.racks,((1+p.buses.toNat+p.racks.length:Nat):Int),a,fr,x2,Lg p s m0 k,p.racks,(p.racks.length:Int),(k:Int))∧k≤p.racks.length∧NW (nodes p) (m0+qH p s k) a fr∧Kp m0 a0 a∧ ∀r,r<k→Pr a (m0+qH p s r) (1+p.buses.toNat+r) (1+p.buses.toNat+p.racks.length) (at' p.racks r).power 0∧(jF s (at' p.racks r).feeds.e0=true→Pr a (mH p s m0 r false) (1+(at' p.racks r).feeds.e0.toNat) (1+p.buses.toNat+r) (at' p.racks r).power 0)∧(jF s (at' p.racks r).feeds.e1=true→Pr a (mH p s m0 r true) (1+(at' p.racks r).feeds.e1.toNat) (1+p.buses.toNat+r) (at' p.racks r).power 0))
  (fun z=>p.racks.length - z.2.2.2.2.2.2.2.2.toNat)
  (fun q=> ∃a fr,q= .brk (p.racks,((1+p.buses.toNat+p.racks.length:Nat):Int),a,fr,x2,Lg p s m0 p.racks.length)∧NW (nodes p) (m0+qH p s p.racks.length) a fr∧Kp m0 a0 a∧ ∀r,r<p.racks.length→Pr a (m0+qH p s r) (1+p.buses.toNat+r) (1+p.buses.toNat+p.racks.length) (at' p.racks r).power 0∧(jF s (at' p.racks r).feeds.e0=true→Pr a (mH p s m0 r false) (1+(at' p.racks r).feeds.e0.toNat) (1+p.buses.toNat+r) (at' p.racks r).power 0)∧(jF s (at' p.racks r).feeds.e1=true→Pr a (mH p s m0 r true) (1+(at' p.racks r).feeds.e1.toNat) (1+p.buses.toNat+r) (at' p.racks r).power 0))
  (fun z hI=> ?_)
 ·obtain⟨r,e,a,fr,rfl,h⟩:=key FUEL (p.racks,((1+p.buses.toNat+p.racks.length:Nat):Int),a0,fr0,x2,[],p.racks,(p.racks.length:Int),0) ⟨0,a0,fr0,rfl,by omega,hN0,fun j u v t k _ h=>h,fun j hj=>by omega⟩ (by show p.racks.length - _<FUEL;unfold FUEL;omega)
  exact⟨a,fr,e,h⟩
 ·obtain⟨k,a,fr,rfl,hk,hN,hKp,hP⟩:=hI
  unfold iF
  dsimp only
  by_cases hk2:k<p.racks.length
  ·left
   have hv:=hp.rck k hk2;have ha:=hv.e0;have hbb:=hv.e1;have hne:=hv.ne;have hw:=hv.power
   have hcl:=YL p s k
   have e2:IntKind.wrap .i64 (IntKind.wrap .i64 (1+p.buses)+(k:Int))=((1+p.buses.toNat+k:Nat):Int):=by rw [wr (x:=1+p.buses) (by omega),wr (by omega)];omega
   obtain⟨fr1,g1,g2,g3⟩:=Ol hN (u:=1+p.buses.toNat+k) (v:=1+p.buses.toNat+p.racks.length) (t:=(at' p.racks k).power) (k:=0) (by unfold nodes;omega) (by unfold nodes;omega) (by omega) (by omega) (by omega) (by omega) (by omega)
   generalize hA1:a++[⟨((1+p.buses.toNat+p.racks.length:Nat):Int),(at' p.racks k).power⟩,⟨((1+p.buses.toNat+k:Nat):Int),0⟩]=A1 at g1 g2 g3
   have kp1:Kp (m0+qH p s k) a A1:=fun j u v t k hj h=>by rw [←hA1];exact h.app (by rw [hN.len];omega)
   obtain⟨A2,fr2,f1,f2,f3,f4⟩:=Kv hp hs g2 (by omega) hk2 (Lg p s m0 k) (c:=0) (b:=(at' p.racks k).feeds.e0) rfl (by omega) ⟨by omega,ha.2⟩ (fun e he q=>by
    obtain⟨i,h1,h2⟩:=CW.1 he
    rcases h2 with⟨_,rfl⟩|⟨_,rfl⟩
    ·have:(i:Int)=(k:Int):=congrArg af.e0 q
     omega
    ·have:(i:Int)=(k:Int):=congrArg af.e0 q
     omega)
   obtain⟨A3,fr3,d1,d2,d3,d4⟩:=Kv hp hs f2 (by split<;>omega) hk2 (Lg p s m0 k++Pg p s m0 k) (c:=1) (b:=(at' p.racks k).feeds.e1) rfl (by omega) hbb (fun e he q=>by
    rw [List.mem_append]at he
    rcases he with he|he
    ·obtain⟨i,h1,h2⟩:=CW.1 he
     rcases h2 with⟨_,rfl⟩|⟨_,rfl⟩
     ·have:(i:Int)=(k:Int):=congrArg af.e0 q
      omega
     ·have:(i:Int)=(k:Int):=congrArg af.e0 q
      omega
    ·unfold Pg at he
     split at he
     ·rw [List.mem_singleton]at he
      subst he
      have:(0:Int)=1:=congrArg af.e1 q
      omega
     ·cases he)
   have i1:m0+qH p s k+1=mH p s m0 k false:=by unfold mH;rw [if_neg (by simp)]
   have i2:m0+qH p s k+1+(if jF s (at' p.racks k).feeds.e0=true then 1 else 0)=mH p s m0 k true:=by
    unfold mH
    cases jF s (at' p.racks k).feeds.e0<;>simp
   have hm1:Lg p s m0 k++(if jF s (at' p.racks k).feeds.e0=true then [((⟨(k:Int),((0:Nat):Int)⟩:af),((2*(m0+qH p s k+1):Nat):Int))]else [])=Lg p s m0 k++Pg p s m0 k:=by rw [i1];rfl
   have hm2:Lg p s m0 k++Pg p s m0 k++(if jF s (at' p.racks k).feeds.e1=true then [((⟨(k:Int),((1:Nat):Int)⟩:af),((2*(m0+qH p s k+1+(if jF s (at' p.racks k).feeds.e0=true then 1 else 0)):Nat):Int))]else [])=Lg p s m0 (k+1):=by rw [i2];rfl
   rw [hm1]at f1
   rw [hm2]at d1
   have hN3:NW (nodes p) (m0+qH p s (k+1)) A3 fr3:=by
    have:m0+qH p s (k+1)=m0+qH p s k+1+(if jF s (at' p.racks k).feeds.e0=true then 1 else 0)+(if jF s (at' p.racks k).feeds.e1=true then 1 else 0):=by rw [BH];unfold Wj;omega
    rw [this];exact d2
   have L3:aZ (fG p s p.racks (k:Int)) FUEL (A1,fr1,Lg p s m0 k,0)=some (.brk (A3,fr3,Lg p s m0 (k+1))):=by
    refine zT (n:=3) ?_ (by unfold FUEL;omega)
    have f1':fG p s p.racks (k:Int) (A1,fr1,Lg p s m0 k,0)=_:=f1
    rw [iI,f1']
    show aZ _ 2 (A2,fr2,Lg p s m0 k++Pg p s m0 k,((1:Nat):Int))=_
    rw [iI,d1]
    show aZ _ 1 (A3,fr3,Lg p s m0 (k+1),((2:Nat):Int))=_
    rw [iI]
    unfold fG
    rfl
   rw [ZA (by omega),cond_true,aH (by omega),e2,Int.toNat_natCast,g1,Option.bind_some]
   dsimp only
   rw [L3,Option.bind_some,wr (x:=(k:Int)+1) (by omega)]
   refine⟨_,rfl,⟨k+1,A3,fr3,by simp,by omega,hN3,fun j u v t c hj h=>d3 j u v t c (by split<;>omega) (f3 j u v t c (by omega) (kp1 j u v t c (by omega) (hKp j u v t c hj h))),fun r hr=> ?_⟩, ?_⟩
   ·by_cases e:r=k
    ·subst e
     refine⟨d3 _ _ _ _ _ (by split<;>omega) (f3 _ _ _ _ _ (by omega) g3),fun h=>d3 _ _ _ _ _ (by rw [if_pos h,←i1];omega) (by rw [←i1];exact f4 h),fun h=>by rw [←i2];exact d4 h⟩
    ·have hlt:=Oe (p:=p) (s:=s) (show r<k by omega)
     have hwd:=Rk p s r
     obtain⟨q1,q2,q3⟩:=hP r (by omega)
     have up: ∀j u v t c,j<m0+qH p s k→Pr a j u v t c→Pr A3 j u v t c:=fun j u v t c hj h=>d3 j u v t c (by split<;>omega) (f3 j u v t c (by omega) (kp1 j u v t c hj h))
     have hwd2:Wj p s r=1+(if jF s (at' p.racks r).feeds.e0=true then 1 else 0)+(if jF s (at' p.racks r).feeds.e1=true then 1 else 0):=rfl
     refine⟨up _ _ _ _ _ (by omega) q1,fun h=>up _ _ _ _ _ ?_ (q2 h),fun h=>up _ _ _ _ _ ?_ (q3 h)⟩
     ·unfold mH;rw [if_pos h]at hwd2;rw [if_neg (by simp)];omega
     ·unfold mH;rw [if_pos h]at hwd2
      cases hx:jF s (at' p.racks r).feeds.e0<;>rw [hx]at hwd2<;>simp at hwd2 ⊢ <;>omega
   ·show p.racks.length - ((k:Int)+1).toNat<p.racks.length - (k:Int).toNat
    omega
  ·right
   have:k=p.racks.length:=by omega
   subst this
   rw [Rv (by omega),cond_false]
   exact⟨_,rfl,a,fr,rfl,hN,hKp,hP⟩
end
theorem IE {σ:Type} [DecidableEq σ] {r:σ}: ∀{l:List (Option σ)},l≠[]→(∀x∈l,x=some r)→Am l=some r
 |[],h,_=>absurd rfl h
 |[a],_,h=>h a (List.mem_singleton_self a)
 |a::b::l,_,h=>by
  unfold Am
  have:=IE (l:=b::l) (by simp) fun x hx=>h x (List.mem_cons_of_mem _ hx)
  rw [this,if_pos (h a List.mem_cons_self)]
  exact h a List.mem_cons_self
theorem IK {σ:Type} (I:σ→Prop) (len:Nat) (upd:Nat→σ→σ) (hI: ∀s i,I s→i<len→I (upd i s)) (hc: ∀s i j,I s→i<len→j<len→upd i (upd j s)=upd j (upd i s)) {x:Nat} (hx:x<len): ∀(l:List Nat) (s:σ),I s→(∀y∈l,y<len)→x∈l→(l.erase x).foldl (fun s i=>upd i s) (upd x s)=l.foldl (fun s i=>upd i s) s
 |[],_,_,_,h=>by cases h
 |y::l,s,hs,hl,h=>by
  by_cases e:y=x
  ·subst e;rw [List.erase_cons_head];rfl
  ·have hyl:=hl y List.mem_cons_self
   rw [List.erase_cons_tail (by simpa using e),List.foldl_cons,List.foldl_cons,hc s y x hs hyl hx]
   exact IK I len upd hI hc hx l (upd y s) (hI s y hs hyl) (fun z hz=>hl z (List.mem_cons_of_mem _ hz)) ((List.mem_cons.1 h).resolve_left (Ne.symm e))
theorem JS {σ:Type} [DecidableEq σ] {body:σ→Nat→Option σ} (I:σ→Prop) (len:Nat) (upd:Nat→σ→σ) (hb: ∀s i,I s→i<len→body s i=some (upd i s)) (hI: ∀s i,I s→i<len→I (upd i s)) (hc: ∀s i j,I s→i<len→j<len→upd i (upd j s)=upd j (upd i s)):
  ∀(k:Nat) (l:List Nat) (s:σ),l.length=k→(∀y∈l,y<len)→I s→xV body k l s=some (l.foldl (fun s i=>upd i s) s)
 |0,l,s,hl,_,_=>by
  have:l=[]:=List.eq_nil_of_length_eq_zero hl
  subst this;rfl
 |k+1,l,s,hl,hlt,hs=>by
  unfold xV
  refine IE (fun e=> ?_) fun o ho=> ?_
  ·have:=congrArg List.length e
   rw [List.length_map,hl]at this;cases this
  ·obtain⟨x,hx,rfl⟩:=List.mem_map.1 ho
   have hxl:=hlt x hx
   rw [hb s x hs hxl,Option.bind_some,JS I len upd hb hI hc k (l.erase x) (upd x s) (by rw [List.length_erase_of_mem hx,hl];rfl) (fun y hy=>hlt y (List.mem_of_mem_erase hy)) (hI s x hs hxl),IK I len upd hI hc hxl l s hs hlt hx]
theorem Ui (W:Nat→Int) (s:List Int) (i j:Nat):(s.set j (W j)).set i (W i)=(s.set i (W i)).set j (W j):=by
 by_cases e:i=j
 ·subst e;rfl
 ·exact List.set_comm _ _ (Ne.symm e)
theorem Qy (ks:Nat→Nat) (W:Nat→Int): ∀(l:List Nat) (s:List Int),(∀y∈l,ks y<s.length)→(l.foldl (fun s i=>s.set (ks i) (W (ks i))) s).length=s.length∧ ∀k,((∃y∈l,ks y=k)→at' (l.foldl (fun s i=>s.set (ks i) (W (ks i))) s) k=W k)∧((∀y∈l,ks y≠k)→at' (l.foldl (fun s i=>s.set (ks i) (W (ks i))) s) k=at' s k)
 |[],s,_=> ⟨rfl,fun k=> ⟨fun⟨y,hy,_⟩=>absurd hy List.not_mem_nil,fun _=>rfl⟩⟩
 |x::l,s,h=>by
  have hx:=h x List.mem_cons_self
  obtain⟨h1,h2⟩:=Qy ks W l (s.set (ks x) (W (ks x))) fun y hy=>by rw [List.length_set];exact h y (List.mem_cons_of_mem _ hy)
  rw [List.foldl_cons]
  refine⟨by rw [h1,List.length_set],fun k=> ⟨fun⟨y,hy,e⟩=> ?_,fun hn=> ?_⟩⟩
  ·by_cases q: ∃y∈l,ks y=k
   ·exact(h2 k).1 q
   ·rw [(h2 k).2 fun y hy e=>q ⟨y,hy,e⟩]
    rcases List.mem_cons.1 hy with rfl|hy
    ·subst e;exact fI hx
    ·exact absurd ⟨y,hy,e⟩ q
  ·rw [(h2 k).2 fun y hy=>hn y (List.mem_cons_of_mem _ hy)]
   exact eG (hn x List.mem_cons_self)
theorem ME {mp:List (Int × Int)} {f:Nat→Bool} {o N:Nat} (hmp:mp=MO f o N) (W:Nat→Int) {body:List Int→Nat→Option (List Int)}
  (hb: ∀s i k,s.length=N→i<mp.length→k<N→f k=true→at' (mp.map Prod.fst) i=(k:Int)→at' (mp.map Prod.snd) i=((2*(o+kY f k):Nat):Int)→body s i=some (s.set k (W k))):
  xV body mp.length (List.range mp.length) (List.replicate N 0)=some (tab N fun k=>if f k=true then W k else 0):=by
 have ent: ∀i,i<mp.length→ ∃k,k<N∧f k=true∧at' (mp.map Prod.fst) i=(k:Int)∧at' (mp.map Prod.snd) i=((2*(o+kY f k):Nat):Int):=fun i hi=>by
  have hm:at' mp i∈MO f o N:=hmp ▸ at_mem hi
  obtain⟨k,h1,h2,h3⟩:=FO.1 hm
  refine⟨k,h1,h2, ?_, ?_⟩
  ·rw [iJ (by rw [List.length_map];exact hi),List.getElem_map,←iJ hi,h3]
  ·rw [iJ (by rw [List.length_map];exact hi),List.getElem_map,←iJ hi,h3]
 have hks: ∀i,i<mp.length→(at' (mp.map Prod.fst) i).toNat<N:=fun i hi=>by
  obtain⟨k,h1,_,h3,_⟩:=ent i hi
  rw [h3];omega
 rw [JS (fun s:List Int=>s.length=N) mp.length (fun i s=>s.set (at' (mp.map Prod.fst) i).toNat (W (at' (mp.map Prod.fst) i).toNat)) (fun s i hs hi=> ?_) (fun s i hs hi=>by rw [List.length_set];exact hs) (fun s i j _ _ _=>Ui W s _ _) mp.length (List.range mp.length) _ List.length_range (fun y hy=>List.mem_range.1 hy) (by simp)]
 ·congr 1
  obtain⟨h1,h2⟩:=Qy (fun i=>(at' (mp.map Prod.fst) i).toNat) W (List.range mp.length) (List.replicate N 0) fun y hy=>by rw [List.length_replicate];exact hks y (List.mem_range.1 hy)
  refine Ta (by rw [h1,ji,List.length_replicate]) fun k hk=> ?_
  rw [h1,List.length_replicate]at hk
  rw [Ka hk]
  cases hf:f k with
  |true=>
   rw [if_pos rfl]
   refine(h2 k).1 ?_
   have hm:((k:Int),((2*(o+kY f k):Nat):Int))∈mp:=hmp ▸ FO.2 ⟨k,hk,hf,rfl⟩
   obtain⟨i,hi,e⟩:=oU hm
   refine⟨i,List.mem_range.2 hi, ?_⟩
   show(at' (mp.map Prod.fst) i).toNat=k
   rw [iJ (by rw [List.length_map];exact hi),List.getElem_map,←iJ hi,e];rfl
  |false=>
   rw [if_neg (by simp),(h2 k).2 (fun y hy e=> ?_),fV hk]
   obtain⟨k',_,h3,h4,_⟩:=ent y (List.mem_range.1 hy)
   have e:(at' (mp.map Prod.fst) y).toNat=k:=e
   rw [h4]at e
   have:k'=k:=by omega
   subst this
   rw [hf]at h3;cases h3
 ·obtain⟨k,h1,h2,h3,h4⟩:=ent i hi
  rw [hb s i k hs hi h1 h2 h3 h4,h3];rfl
def zW (s:List af) (r:Nat) (c:Bool) (v:Int):List af:=if c=true then s.set r ⟨(at' s r).e0,v⟩else s.set r ⟨v,(at' s r).e1⟩
theorem qh (s:List af) (r:Nat) (c:Bool) (v:Int):(zW s r c v).length=s.length:=by unfold zW;split<;>simp
theorem Fx {s:List af} {r:Nat} (c:Bool) (v:Int) (hr:r<s.length) (k:Nat):(at' (zW s r c v) k).e0=(if k=r∧c=false then v else(at' s k).e0)∧(at' (zW s r c v) k).e1=(if k=r∧c=true then v else(at' s k).e1):=by
 unfold zW
 by_cases e:r=k
 ·subst e
  cases c
  ·rw [if_neg (by simp),fI hr];simp
  ·rw [if_pos rfl,fI hr];simp
 ·have e': ¬ k=r:=fun q=>e q.symm
  cases c
  ·rw [if_neg (by simp),eG e];simp [e']
  ·rw [if_pos rfl,eG e];simp [e']
theorem TU {x y:af} (h0:x.e0=y.e0) (h1:x.e1=y.e1):x=y:=by cases x;cases y;simp at h0 h1;rw [h0,h1]
theorem UQ (W:Nat→Bool→Int) {s:List af} {i j:Nat} {c d:Bool} (hi:i<s.length) (hj:j<s.length):zW (zW s j d (W j d)) i c (W i c)=zW (zW s i c (W i c)) j d (W j d):=by
 refine Ta (by rw [qh,qh,qh,qh]) fun k hk=> ?_
 have h1:=Fx c (W i c) (s:=zW s j d (W j d)) (by rw [qh];exact hi) k
 have h2:=Fx d (W j d) (s:=zW s i c (W i c)) (by rw [qh];exact hj) k
 have h3:=Fx d (W j d) hj k
 have h4:=Fx c (W i c) hi k
 refine TU ?_ ?_
 ·rw [h1.1,h2.1,h3.1,h4.1]
  by_cases e1:k=i∧c=false<;>by_cases e2:k=j∧d=false
  ·obtain⟨rfl,rfl⟩:=e1;obtain⟨rfl,rfl⟩:=e2;rfl
  ·rw [if_pos e1,if_neg e2,if_pos e1]
  ·rw [if_neg e1,if_pos e2,if_pos e2]
  ·rw [if_neg e1,if_neg e2,if_neg e2,if_neg e1]
 ·rw [h1.2,h2.2,h3.2,h4.2]
  by_cases e1:k=i∧c=true<;>by_cases e2:k=j∧d=true
  ·obtain⟨rfl,rfl⟩:=e1;obtain⟨rfl,rfl⟩:=e2;rfl
  ·rw [if_pos e1,if_neg e2,if_pos e1]
  ·rw [if_neg e1,if_pos e2,if_pos e2]
  ·rw [if_neg e1,if_neg e2,if_neg e2,if_neg e1]
theorem MU (kr:Nat→Nat) (kc:Nat→Bool) (W:Nat→Bool→Int): ∀(l:List Nat) (s:List af),(∀y∈l,kr y<s.length)→(l.foldl (fun s i=>zW s (kr i) (kc i) (W (kr i) (kc i))) s).length=s.length∧ ∀k,
  ((∃y∈l,kr y=k∧kc y=false)→(at' (l.foldl (fun s i=>zW s (kr i) (kc i) (W (kr i) (kc i))) s) k).e0=W k false)∧((∀y∈l, ¬ (kr y=k∧kc y=false))→(at' (l.foldl (fun s i=>zW s (kr i) (kc i) (W (kr i) (kc i))) s) k).e0=(at' s k).e0)∧
  ((∃y∈l,kr y=k∧kc y=true)→(at' (l.foldl (fun s i=>zW s (kr i) (kc i) (W (kr i) (kc i))) s) k).e1=W k true)∧((∀y∈l, ¬ (kr y=k∧kc y=true))→(at' (l.foldl (fun s i=>zW s (kr i) (kc i) (W (kr i) (kc i))) s) k).e1=(at' s k).e1)
 |[],s,_=> ⟨rfl,fun k=> ⟨fun⟨y,hy,_⟩=>absurd hy List.not_mem_nil,fun _=>rfl,fun⟨y,hy,_⟩=>absurd hy List.not_mem_nil,fun _=>rfl⟩⟩
 |x::l,s,h=>by
  have hx:=h x List.mem_cons_self
  obtain⟨h1,h2⟩:=MU kr kc W l (zW s (kr x) (kc x) (W (kr x) (kc x))) fun y hy=>by rw [qh];exact h y (List.mem_cons_of_mem _ hy)
  rw [List.foldl_cons]
  refine⟨by rw [h1,qh],fun k=> ?_⟩
  obtain⟨g1,g2,g3,g4⟩:=h2 k
  obtain⟨f1,f2⟩:=Fx (kc x) (W (kr x) (kc x)) hx k
  refine⟨fun⟨y,hy,e⟩=> ?_,fun hn=> ?_,fun⟨y,hy,e⟩=> ?_,fun hn=> ?_⟩
  ·by_cases q: ∃y∈l,kr y=k∧kc y=false
   ·exact g1 q
   ·rw [g2 fun y hy e=>q ⟨y,hy,e⟩,f1]
    rcases List.mem_cons.1 hy with rfl|hy
    ·rw [if_pos ⟨e.1.symm,e.2⟩,e.1,e.2]
    ·exact absurd ⟨y,hy,e⟩ q
  ·rw [g2 fun y hy=>hn y (List.mem_cons_of_mem _ hy),f1,if_neg fun q=>hn x List.mem_cons_self ⟨q.1.symm,q.2⟩]
  ·by_cases q: ∃y∈l,kr y=k∧kc y=true
   ·exact g3 q
   ·rw [g4 fun y hy e=>q ⟨y,hy,e⟩,f2]
    rcases List.mem_cons.1 hy with rfl|hy
    ·rw [if_pos ⟨e.1.symm,e.2⟩,e.1,e.2]
    ·exact absurd ⟨y,hy,e⟩ q
  ·rw [g4 fun y hy=>hn y (List.mem_cons_of_mem _ hy),f2,if_neg fun q=>hn x List.mem_cons_self ⟨q.1.symm,q.2⟩]
section
variable {p:ai} {s:State}
theorem SS {mp:List (af × Int)} {o:Nat} (hmp:mp=Lg p s o p.racks.length) (W:Nat→Bool→Int) {body:List af→Nat→Option (List af)}
  (hb: ∀z i r c,z.length=p.racks.length→i<mp.length→r<p.racks.length→jF s (if c=true then(at' p.racks r).feeds.e1 else(at' p.racks r).feeds.e0)=true→at' (mp.map Prod.fst) i=⟨(r:Int),if c=true then 1 else 0⟩→at' (mp.map Prod.snd) i=((2*mH p s o r c:Nat):Int)→body z i=some (zW z r c (W r c))):
  xV body mp.length (List.range mp.length) (List.replicate p.racks.length ⟨0,0⟩)=some (tab p.racks.length fun r=> ⟨if jF s (at' p.racks r).feeds.e0=true then W r false else 0,if jF s (at' p.racks r).feeds.e1=true then W r true else 0⟩):=by
 have ent: ∀i,i<mp.length→ ∃r c,r<p.racks.length∧jF s (if c=true then(at' p.racks r).feeds.e1 else(at' p.racks r).feeds.e0)=true∧at' (mp.map Prod.fst) i=⟨(r:Int),if c=true then 1 else 0⟩∧at' (mp.map Prod.snd) i=((2*mH p s o r c:Nat):Int):=fun i hi=>by
  have hm:at' mp i∈Lg p s o p.racks.length:=hmp ▸ at_mem hi
  obtain⟨r,h1,h2⟩:=CW.1 hm
  have q1:at' (mp.map Prod.fst) i=(at' mp i).1:=by rw [iJ (by rw [List.length_map];exact hi),List.getElem_map,←iJ hi]
  have q2:at' (mp.map Prod.snd) i=(at' mp i).2:=by rw [iJ (by rw [List.length_map];exact hi),List.getElem_map,←iJ hi]
  rcases h2 with⟨hf,e⟩|⟨hf,e⟩
  ·exact⟨r,false,h1,hf,by rw [q1,e];rfl,by rw [q2,e]⟩
  ·exact⟨r,true,h1,hf,by rw [q1,e];rfl,by rw [q2,e]⟩
 have kcd: ∀(c:Bool),decide ((if c=true then(1:Int)else 0)=1)=c:=fun c=>by cases c<;>rfl
 rw [JS (fun z:List af=>z.length=p.racks.length) mp.length (fun i z=>zW z (at' (mp.map Prod.fst) i).e0.toNat (decide ((at' (mp.map Prod.fst) i).e1=1)) (W (at' (mp.map Prod.fst) i).e0.toNat (decide ((at' (mp.map Prod.fst) i).e1=1)))) (fun z i hz hi=> ?_) (fun z i hz hi=>by rw [qh];exact hz) (fun z i j hz hi hj=> ?_) mp.length (List.range mp.length) _ List.length_range (fun y hy=>List.mem_range.1 hy) (by simp)]
 ·congr 1
  obtain⟨h1,h2⟩:=MU (fun i=>(at' (mp.map Prod.fst) i).e0.toNat) (fun i=>decide ((at' (mp.map Prod.fst) i).e1=1)) W (List.range mp.length) (List.replicate p.racks.length ⟨0,0⟩) fun y hy=>by
   obtain⟨r,c,g1,_,g3,_⟩:=ent y (List.mem_range.1 hy)
   rw [List.length_replicate,g3]
   show(r:Int).toNat<_
   omega
  refine Ta (by rw [h1,ji,List.length_replicate]) fun k hk=> ?_
  rw [h1,List.length_replicate]at hk
  rw [Ka hk]
  obtain⟨f1,f2,f3,f4⟩:=h2 k
  refine TU ?_ ?_
  ·show _=if jF s (at' p.racks k).feeds.e0=true then W k false else 0
   cases hf:jF s (at' p.racks k).feeds.e0 with
   |true=>
    rw [if_pos rfl]
    have hm:((⟨(k:Int),0⟩:af),((2*mH p s o k false:Nat):Int))∈mp:=hmp ▸ CW.2 ⟨k,hk, .inl ⟨hf,rfl⟩⟩
    obtain⟨i,hi,e⟩:=oU hm
    refine f1 ⟨i,List.mem_range.2 hi, ?_⟩
    rw [iJ (by rw [List.length_map];exact hi),List.getElem_map,←iJ hi,e];exact⟨rfl,rfl⟩
   |false=>
    rw [if_neg (by simp),f2 fun y hy e=> ?_,fV hk]
    obtain⟨r,c,_,g2,g3,_⟩:=ent y (List.mem_range.1 hy)
    rw [g3,kcd]at e
    have e1:(r:Int).toNat=k:=e.1
    have:r=k:=by omega
    subst this
    rw [e.2,if_neg (by simp),hf]at g2;cases g2
  ·show _=if jF s (at' p.racks k).feeds.e1=true then W k true else 0
   cases hf:jF s (at' p.racks k).feeds.e1 with
   |true=>
    rw [if_pos rfl]
    have hm:((⟨(k:Int),1⟩:af),((2*mH p s o k true:Nat):Int))∈mp:=hmp ▸ CW.2 ⟨k,hk, .inr ⟨hf,rfl⟩⟩
    obtain⟨i,hi,e⟩:=oU hm
    refine f3 ⟨i,List.mem_range.2 hi, ?_⟩
    rw [iJ (by rw [List.length_map];exact hi),List.getElem_map,←iJ hi,e];exact⟨rfl,rfl⟩
   |false=>
    rw [if_neg (by simp),f4 fun y hy e=> ?_,fV hk]
    obtain⟨r,c,_,g2,g3,_⟩:=ent y (List.mem_range.1 hy)
    rw [g3,kcd]at e
    have e1:(r:Int).toNat=k:=e.1
    have:r=k:=by omega
    subst this
    rw [e.2,if_pos rfl,hf]at g2;cases g2
 ·obtain⟨r,c,h1,h2,h3,h4⟩:=ent i hi
  rw [hb z i r c hz hi h1 h2 h3 h4,h3,kcd];rfl
 ·obtain⟨r,c,h1,_,h3,_⟩:=ent i hi
  obtain⟨r',c',h1',_,h3',_⟩:=ent j hj
  rw [h3,h3',kcd,kcd]
  exact UQ W (by rw [hz];show(r:Int).toNat<_;omega) (by rw [hz];show(r':Int).toNat<_;omega)
end
structure DF (p:ai) (s:State) (m0 m1 m:Nat) (a b:List aV) (fr:List (List Int)) (R:Nat→Prop) (x:aj) (cut:List Bool):Prop where
 hN:NW (nodes p) m a fr
 sm:Sm m a b
 res: ∀v,v≠0→v≠1+p.buses.toNat+p.racks.length→nI m b v=nI m a v
 e0:m0=kY (bC p s) p.sources.length
 e1:m1=m0+kY (bA p s) p.links.length
 e2:m=m1+qH p s p.racks.length
 src: ∀k,k<p.sources.length→bC p s k=true→Pr a (kY (bC p s) k) 0 (1+(at' p.sources k).bus.toNat) (at' p.sources k).power 0
 lnk: ∀k,k<p.links.length→bA p s k=true→Pr a (m0+kY (bA p s) k) (1+(at' p.links k).a.toNat) (1+(at' p.links k).b.toNat) (at' p.links k).most (at' p.links k).most
 rck: ∀r,r<p.racks.length→Pr a (m1+qH p s r) (1+p.buses.toNat+r) (1+p.buses.toNat+p.racks.length) (at' p.racks r).power 0∧(jF s (at' p.racks r).feeds.e0=true→Pr a (mH p s m1 r false) (1+(at' p.racks r).feeds.e0.toNat) (1+p.buses.toNat+r) (at' p.racks r).power 0)∧(jF s (at' p.racks r).feeds.e1=true→Pr a (mH p s m1 r true) (1+(at' p.racks r).feeds.e1.toNat) (1+p.buses.toNat+r) (at' p.racks r).power 0)
 xe:x=⟨tab p.sources.length fun k=>if bC p s k=true then iQ b (2*(0+kY (bC p s) k)+1)else 0,tab p.links.length fun k=>if bA p s k=true then(at' p.links k).most - iQ b (2*(m0+kY (bA p s) k))else 0,tab p.racks.length fun r=> ⟨if jF s (at' p.racks r).feeds.e0=true then iQ b (2*mH p s m1 r false+1)else 0,if jF s (at' p.racks r).feeds.e1=true then iQ b (2*mH p s m1 r true+1)else 0⟩⟩
 clo:Z5 m b R
 r0:R 0
 rs: ¬ R (1+p.buses.toNat+p.racks.length)
 mn: ∀K,Z5 m b K→K 0→ ∀v,R v→K v
 cl:cut.length=p.buses.toNat
 ct: ∀v:Nat,(v:Int)<p.buses→(at' cut v=true↔R (v+1))
theorem lI (j:Nat):tw (2*j)=2*j+1:=by unfold tw;rw [if_pos (by omega)]
theorem BU (j:Nat):tw (2*j+1)=2*j:=by unfold tw;rw [if_neg (by omega)];omega
theorem X5 {p:ai} {s:State} {o r:Nat} (c:Bool) (hf:jF s (if c=true then(at' p.racks r).feeds.e1 else(at' p.racks r).feeds.e0)=true):mH p s o r c<o+qH p s r+Wj p s r:=by
 unfold mH Wj
 cases c with
 |false=>
  rw [if_neg (by simp)]at hf
  rw [if_pos hf,if_neg (by simp)];omega
 |true=>
  rw [if_pos rfl]at hf
  rw [if_pos hf]
  cases jF s (at' p.racks r).feeds.e0<;>simp
section
variable {p:ai} {s:State} (hp:VP p) (hs:VS p s)
include hp hs
theorem UI: ∃m0 m1 m a b fr R x cut,bQ p s=some (x,cut,0)∧DF p s m0 m1 m a b fr R x cut:=by
 have hb:=hp.b;have hsl:=hp.sl;have hll:=hp.ll;have hrl:=hp.rl
 obtain⟨a0,fr0,l0,n0,p0⟩:=XV hp hs
 have c0:=N9 (bC p s) p.sources.length
 have c1:=N9 (bA p s) p.links.length
 have c2:=YL p s p.racks.length
 obtain⟨a1,fr1,l1,n1,k1,p1⟩:=YF hp hs n0 (by omega)
 obtain⟨a2,fr2,l2,n2,k2,p2⟩:=WK hp hs n1 (by omega) (List.replicate p.racks.length ⟨0,0⟩)
 generalize hm0:kY (bC p s) p.sources.length=m0 at*
 generalize hm1:m0+kY (bA p s) p.links.length=m1 at*
 generalize hm2:m1+qH p s p.racks.length=m at*
 obtain⟨b,f1,sm,res,ap⟩:=aaF n2 (sink:=1+p.buses.toNat+p.racks.length) (by omega) (by unfold nodes;omega)
 have nb:=n2.same sm
 obtain⟨cut,r1,cl,R,clo,r0,rn,mn,ct⟩:=UH nb (p:=p) (by unfold nodes;omega)
 have hm:m≤1000:=n2.m1
 have lB: ∀j,j<2*m→0≤iQ b j∧iQ b j≤1000000:=fun j hj=>by
  have h1:=nb.left j hj;have h2:=nb.left _ (FT hj);omega
 have srcs: ∀k,k<p.sources.length→bC p s k=true→kY (bC p s) k<m:=fun k hk hf=>by
  have:=zJ hk hf;omega
 have lnks: ∀k,k<p.links.length→bA p s k=true→m0+kY (bA p s) k<m:=fun k hk hf=>by
  have:=zJ hk hf;omega
 have rcks: ∀r c,r<p.racks.length→jF s (if c=true then(at' p.racks r).feeds.e1 else(at' p.racks r).feeds.e0)=true→mH p s m1 r c<m:=fun r c hr hf=>by
  have:=X5 (o:=m1) c hf
  have:=Oe (p:=p) (s:=s) hr
  omega
 have x4:=ME (mp:=MO (bC p s) 0 p.sources.length) rfl (fun k=>iQ b (2*(0+kY (bC p s) k)+1)) (body:=jJ (MO (bC p s) 0 p.sources.length) ⟨b,fr2⟩) (fun z i k hz hi hk hf e1 e2=>by
  have:=srcs k hk hf
  unfold jJ
  rw [e1,e2,xor_eq (by omega),lI,aH ⟨by rw [nb.len];omega,by omega⟩,Int.toNat_natCast,Int.toNat_natCast];rfl)
 have x5:=ME (mp:=MO (bA p s) m0 p.links.length) rfl (fun k=>(at' p.links k).most - iQ b (2*(m0+kY (bA p s) k))) (body:=jI p.links (MO (bA p s) m0 p.links.length) ⟨b,fr2⟩) (fun z i k hz hi hk hf e1 e2=>by
  have:=lnks k hk hf
  have hw:=(hp.lnk k hk).most
  have hl:=lB (2*(m0+kY (bA p s) k)) (by omega)
  unfold jI
  rw [e1,e2,aH ⟨by omega,by rw [nb.len];omega,by omega⟩,Int.toNat_natCast,Int.toNat_natCast]
  show some (z.set k (IntKind.wrap .i64 ((at' p.links k).most - iQ b (2*(m0+kY (bA p s) k)))))=_
  rw [wr (by omega)])
 have x6:=SS (p:=p) (s:=s) (mp:=Lg p s m1 p.racks.length) rfl (fun r c=>iQ b (2*mH p s m1 r c+1)) (body:=jH (Lg p s m1 p.racks.length) ⟨b,fr2⟩) (fun z i r c hz hi hr hf e1 e2=>by
  have:=rcks r c hr hf
  unfold jH
  rw [e1,e2,xor_eq (by omega),lI]
  dsimp only
  have q1:((0:Int)≤((2*mH p s m1 r c+1:Nat):Int)∧((2*mH p s m1 r c+1:Nat):Int)<(b.length:Int))∧((0:Int)≤(r:Int)∧(r:Int)<(z.length:Int)):=⟨by rw [nb.len];omega,by omega⟩
  cases c with
  |false=>rw [if_neg (by simp),decide_eq_true rfl,cond_true,aH q1];rfl
  |true=>rw [if_pos rfl,decide_eq_false (by omega),cond_false,aH rfl,aH q1];rfl)
 refine⟨m0,m1,m,a2,b,fr2,R,_,cut, ?_,⟨n2,sm,res,hm0.symm,hm1.symm,hm2.symm,fun k hk hf=>k2 _ _ _ _ _ (by have:=zJ hk hf;omega) (k1 _ _ _ _ _ (by have:=zJ hk hf;omega) (p0 k hk hf)),fun k hk hf=>k2 _ _ _ _ _ (by have:=zJ hk hf;omega) (p1 k hk hf),p2,rfl,clo,r0,fun h=> ?_,mn,cl,ct⟩⟩
 ·have e3:IntKind.wrap .i64 (IntKind.wrap .i64 (1+p.buses)+(p.racks.length:Int))=((1+p.buses.toNat+p.racks.length:Nat):Int):=by rw [wr (x:=1+p.buses) (by omega),wr (by omega)];omega
  have e4:IntKind.wrap .i64 (((1+p.buses.toNat+p.racks.length:Nat):Int)+1)=((nodes p:Nat):Int):=by unfold nodes;rw [wr (by omega)];omega
  have e5:nodes p≤100:=by unfold nodes;omega
  unfold bQ
  rw [yF p s hp.small,CG.mpr ⟨hp,hs⟩,Option.bind_some,decide_eq_true rfl,Bool.not_true,cond_false,e3,e4,aH ⟨by omega,by omega,by omega⟩,aH ⟨by omega,by omega,by omega,by omega,by omega,by omega,by omega,by omega,by omega⟩,Int.toNat_natCast,l0]
  simp only [Option.bind_some]
  rw [l1]
  simp only [Option.bind_some]
  rw [Int.toNat_natCast,l2]
  simp only [Option.bind_some]
  rw [f1,Option.bind_some,x4,Option.bind_some,x5,Option.bind_some,x6,Option.bind_some,aH ⟨by omega,by omega,by omega⟩]
  unfold eT
  rw [Option.bind_some]
  have r1':dI b fr2 ⟨p.buses,p.sources,p.links,p.racks⟩ (List.replicate p.buses.toNat false)=some cut:=r1
  rw [r1',Option.bind_some]
 ·obtain⟨K,h1,h2,h3⟩:=ap
  exact h3 (mn K h1 h2 _ h)
end
structure Ps (p:ai) (s:State) (x:aj):Prop where
 l1:x.sources.length=p.sources.length
 l2:x.links.length=p.links.length
 l3:x.racks.length=p.racks.length
 sS: ∀k,k<p.sources.length→0≤at' x.sources k∧at' x.sources k≤(at' p.sources k).power∧(bC p s k=false→at' x.sources k=0)
 sL: ∀i,i<p.links.length→ -(at' p.links i).most≤at' x.links i∧at' x.links i≤(at' p.links i).most∧(bA p s i=false→at' x.links i=0)
 sR: ∀r,r<p.racks.length→0≤(at' x.racks r).e0∧0≤(at' x.racks r).e1∧(at' x.racks r).e0+(at' x.racks r).e1≤(at' p.racks r).power∧(jF s (at' p.racks r).feeds.e0=false→(at' x.racks r).e0=0)∧(jF s (at' p.racks r).feeds.e1=false→(at' x.racks r).e1=0)
 bl: ∀b:Nat,(b:Int)<p.buses→bal p x b=0
def TS (p:ai) (x:aj):Int:=bH p.racks.length fun r=>(at' x.racks r).e0+(at' x.racks r).e1
def YV (p:ai) (x:aj) (D:Nat→Bool) (k:Nat):Int:=if D (at' p.sources k).bus.toNat=true then 0 else at' x.sources k
def UY (p:ai) (x:aj) (D:Nat→Bool) (i:Nat):Int:=(if D (at' p.links i).a.toNat=true then at' x.links i else 0) - (if D (at' p.links i).b.toNat=true then at' x.links i else 0)
def SB (p:ai) (x:aj) (D:Nat→Bool) (r:Nat):Int:=(if D (at' p.racks r).feeds.e0.toNat=true then(at' x.racks r).e0 else 0)+(if 0≤(at' p.racks r).feeds.e1∧D (at' p.racks r).feeds.e1.toNat=true then(at' x.racks r).e1 else 0)
theorem CJ {N:Nat} {D:Nat→Bool} {z v:Int} (hz:z<N):(bH N fun b=>if D b=true then(if z=(b:Int)then v else 0)else 0)=if 0≤z∧D z.toNat=true then v else 0:=by
 by_cases h0:0≤z
 ·have e:(fun b:Nat=>if D b=true then(if z=(b:Int)then v else 0)else 0)=fun b=>if b=z.toNat then(if D b=true then v else 0)else 0:=funext fun b=>by
   by_cases e1:b=z.toNat
   ·rw [if_pos e1,if_pos (show z=(b:Int) by omega)]
   ·rw [if_neg e1,if_neg (show ¬ z=(b:Int) by omega)];split<;>rfl
  rw [e,JC (fun b=>if D b=true then v else 0) (by omega)]
  by_cases e2:D z.toNat=true
  ·rw [if_pos e2,if_pos ⟨h0,e2⟩]
  ·rw [if_neg e2,if_neg fun q=>e2 q.2]
 ·rw [if_neg fun q=>h0 q.1,dF (g:=fun _=>0) fun b _=>by rw [if_neg (show ¬ z=(b:Int) by omega)];split<;>rfl,nu]
section
variable {p:ai} {s:State} (hp:VP p) (hs:VS p s) {x:aj} (hx:Ps p s x)
include hp hs hx
theorem TG (D:Nat→Bool):(bH p.sources.length fun k=>if D (at' p.sources k).bus.toNat=true then at' x.sources k else 0)=(bH p.links.length (UY p x D))+bH p.racks.length (SB p x D):=by
 have hb:=hp.b
 have h0:(bH p.buses.toNat fun b=>if D b=true then bal p x b else 0)=0:=by
  rw [dF (g:=fun _=>0) fun b hb=>by rw [hx.bl b (by omega)];split<;>rfl,nu]
 have e1:(fun b=>if D b=true then bal p x b else 0)=fun b=>((bH p.sources.length fun k=>if D b=true then blS p x b k else 0)+(bH p.links.length fun k=>if D b=true then blL p x b k else 0)) - (bH p.racks.length fun k=>if D b=true then blR p x b k else 0):=funext fun b=>by
  cases D b with
  |true=>simp only [if_true];rfl
  |false=>simp [nu]
 rw [e1,FV,BL,Hy,Hy p.buses.toNat p.links.length,Hy p.buses.toNat p.racks.length]at h0
 have s1:(bH p.sources.length fun k=>bH p.buses.toNat fun b=>if D b=true then blS p x b k else 0)=bH p.sources.length fun k=>if D (at' p.sources k).bus.toNat=true then at' x.sources k else 0:=by
  refine dF fun k hk=> ?_
  have hv:=(hp.src k hk).bus
  unfold blS
  rw [CJ (by omega)]
  by_cases h:D (at' p.sources k).bus.toNat=true
  ·rw [if_pos h,if_pos ⟨hv.1,h⟩]
  ·rw [if_neg h,if_neg fun q=>h q.2]
 have s2:(bH p.links.length fun k=>bH p.buses.toNat fun b=>if D b=true then blL p x b k else 0)= - bH p.links.length (UY p x D):=by
  rw [←JY]
  refine dF fun k hk=> ?_
  have hv:=hp.lnk k hk;have ha:=hv.a;have hbb:=hv.b
  have e:(fun b=>if D b=true then blL p x b k else 0)=fun b=>(if D b=true then(if(at' p.links k).b=(b:Int)then at' x.links k else 0)else 0) - (if D b=true then(if(at' p.links k).a=(b:Int)then at' x.links k else 0)else 0):=funext fun b=>by
   unfold blL;cases D b<;>simp
  rw [e,FV,CJ (by omega),CJ (by omega)]
  unfold UY
  cases D (at' p.links k).b.toNat<;>cases D (at' p.links k).a.toNat<;>simp [ha.1,hbb.1]
 have s3:(bH p.racks.length fun k=>bH p.buses.toNat fun b=>if D b=true then blR p x b k else 0)=bH p.racks.length (SB p x D):=by
  refine dF fun k hk=> ?_
  have hv:=hp.rck k hk;have ha:=hv.e0;have hbb:=hv.e1
  have e:(fun b=>if D b=true then blR p x b k else 0)=fun b=>(if D b=true then(if(at' p.racks k).feeds.e0=(b:Int)then(at' x.racks k).e0 else 0)else 0)+(if D b=true then(if(at' p.racks k).feeds.e1=(b:Int)then(at' x.racks k).e1 else 0)else 0):=funext fun b=>by
   unfold blR;cases D b<;>simp
  rw [e,BL,CJ (by omega),CJ (by omega)]
  unfold SB
  cases D (at' p.racks k).feeds.e0.toNat<;>simp [ha.1]
 rw [s1,s2,s3]at h0
 omega
theorem Hu (D:Nat→Bool):TS p x=bH p.sources.length (YV p x D)+bH p.links.length (UY p x D)+bH p.racks.length (SB p x D):=by
 have hb:=hp.b
 have h1:=TG hp hs hx D
 have h2:=TG hp hs hx fun _=>true
 have e1:(bH p.links.length (UY p x fun _=>true))=0:=by
  rw [dF (g:=fun _=>0) fun i _=>by unfold UY;simp,nu]
 have e2:(bH p.racks.length (SB p x fun _=>true))=TS p x:=by
  refine dF fun r hr=> ?_
  have hv:=hp.rck r hr;have hw:=hx.sR r hr
  unfold SB
  rw [if_pos rfl]
  by_cases h:0≤(at' p.racks r).feeds.e1
  ·rw [if_pos ⟨h,rfl⟩]
  ·rw [if_neg fun q=>h q.1,hw.2.2.2.2 (by unfold jF;rw [decide_eq_false h];rfl)]
 have e3:(bH p.sources.length fun k=>if(true:Bool)=true then at' x.sources k else 0)=(bH p.sources.length (YV p x D))+bH p.sources.length fun k=>if D (at' p.sources k).bus.toNat=true then at' x.sources k else 0:=by
  rw [←BL]
  refine dF fun k _=> ?_
  unfold YV
  cases D (at' p.sources k).bus.toNat<;>simp
 have h2':(bH p.sources.length fun k=>if(true:Bool)=true then at' x.sources k else 0)=_:=h2
 rw [e3,e1,e2]at h2'
 omega
def Nh (p:ai) (s:State) (D:Nat→Bool):Prop:= ∀b:Nat,(b:Int)<p.buses→D b=true→at' s.badBus b=false
omit hx in
theorem abB {D:Nat→Bool} (hD:Nh p s D) {b:Int} (hb:0≤b∧b<p.buses) (h:D b.toNat=true):jF s b=true:=by
 unfold jF
 rw [decide_eq_true hb.1,hD b.toNat (by omega) h];rfl
theorem abn {D:Nat→Bool} (hD:Nh p s D):(∀k,k<p.sources.length→YV p x D k≤XE p s D k)∧(∀i,i<p.links.length→UY p x D i≤XF p s D i)∧ ∀r,r<p.racks.length→SB p x D r≤Vj p D r:=by
 refine⟨fun k hk=> ?_,fun i hi=> ?_,fun r hr=> ?_⟩
 ·have h:=hx.sS k hk
  have hw:=(hp.src k hk).power
  unfold YV XE
  cases D (at' p.sources k).bus.toNat<;>cases hf:bC p s k<;>simp
  ·have:=h.2.2 hf;omega
  ·omega
 ·have h:=hx.sL i hi
  have hw:=(hp.lnk i hi).most
  unfold UY XF
  cases hc:bA p s i
  ·have:=h.2.2 hc;rw [this];simp
  ·cases D (at' p.links i).a.toNat<;>cases D (at' p.links i).b.toNat<;>simp<;>omega
 ·have h:=hx.sR r hr
  have hv:=hp.rck r hr;have hw:=hv.power
  unfold SB Vj rkC
  cases D (at' p.racks r).feeds.e0.toNat<;>cases D (at' p.racks r).feeds.e1.toNat<;>by_cases h1:0≤(at' p.racks r).feeds.e1<;>simp [h1]<;>omega
theorem ae5 {D:Nat→Bool} (hD:Nh p s D):TS p x≤He p s D:=by
 obtain⟨h1,h2,h3⟩:=abn hp hs hx hD
 rw [Hu hp hs hx D]
 have:=pU h1;have:=pU h2;have:=pU h3
 unfold He;omega
theorem UZ {D:Nat→Bool} (hD:Nh p s D) (e:TS p x=He p s D):(∀k,k<p.sources.length→YV p x D k=XE p s D k)∧(∀i,i<p.links.length→UY p x D i=XF p s D i)∧ ∀r,r<p.racks.length→SB p x D r=Vj p D r:=by
 obtain⟨h1,h2,h3⟩:=abn hp hs hx hD
 rw [Hu hp hs hx D]at e
 have q1:=pU h1;have q2:=pU h2;have q3:=pU h3
 unfold He at e
 exact⟨yQ h1 (by omega),yQ h2 (by omega),yQ h3 (by omega)⟩
theorem NZ {D:Nat→Bool} (h1: ∀k,k<p.sources.length→YV p x D k=XE p s D k) (h2: ∀i,i<p.links.length→UY p x D i=XF p s D i) (h3: ∀r,r<p.racks.length→SB p x D r=Vj p D r):TS p x=He p s D:=by
 rw [Hu hp hs hx D]
 unfold He
 rw [dF h1,dF h2,dF h3]
end
theorem GX (f:Nat→Int): ∀m,bH (2*m) f=bH m fun j=>f (2*j)+f (2*j+1)
 |0=>rfl
 |m+1=>by rw [show 2*(m+1)=2*m+1+1 by omega,bH,bH,bH,GX f m];omega
theorem TW (p:ai) (s:State) (g:Nat→Int) (o:Nat): ∀k,bH (o+qH p s k) g=bH o g+bH k fun r=>g (o+qH p s r)+(if jF s (at' p.racks r).feeds.e0=true then g (mH p s o r false)else 0)+(if jF s (at' p.racks r).feeds.e1=true then g (mH p s o r true)else 0)
 |0=>by simp [qH,bH]
 |k+1=>by
  have ih:=TW p s g o k
  have e:bH (o+qH p s (k+1)) g=bH (o+qH p s k) g+(g (o+qH p s k)+(if jF s (at' p.racks k).feeds.e0=true then g (mH p s o k false)else 0)+(if jF s (at' p.racks k).feeds.e1=true then g (mH p s o k true)else 0)):=by
   rw [BH]
   unfold Wj mH
   cases h0:jF s (at' p.racks k).feeds.e0<;>cases h1:jF s (at' p.racks k).feeds.e1<;>simp
   ·rw [show o+(qH p s k+1)=(o+qH p s k)+1 by omega,bH]
   ·rw [show o+(qH p s k+(1+1))=(o+qH p s k)+1+1 by omega,bH,bH];omega
   ·rw [show o+(qH p s k+(1+1))=(o+qH p s k)+1+1 by omega,bH,bH];omega
   ·rw [show o+(qH p s k+(1+1+1))=(o+qH p s k)+1+1+1 by omega,bH,bH,bH,show o+qH p s k+2=o+qH p s k+1+1 from rfl];omega
  rw [e,ih,bH];omega
theorem H6 {f:Nat→Bool}: ∀{k j:Nat},j<kY f k→ ∃i,i<k∧f i=true∧j=kY f i
 |0,j,h=>by simp [kY]at h
 |k+1,j,h=>by
  rw [GL]at h
  by_cases h2:j<kY f k
  ·obtain⟨i,h3,h4,h5⟩:=H6 h2
   exact⟨i,by omega,h4,h5⟩
  ·split at h
   ·rename_i hf;exact⟨k,by omega,hf,by omega⟩
   ·omega
theorem MJ {p:ai} {s:State} {o:Nat}: ∀{k j:Nat},o≤j→j<o+qH p s k→ ∃r,r<k∧(j=o+qH p s r∨(jF s (at' p.racks r).feeds.e0=true∧j=mH p s o r false)∨(jF s (at' p.racks r).feeds.e1=true∧j=mH p s o r true))
 |0,j,h0,h=>by simp [qH]at h;omega
 |k+1,j,h0,h=>by
  rw [BH]at h
  by_cases h2:j<o+qH p s k
  ·obtain⟨i,h3,h4⟩:=MJ h0 h2
   exact⟨i,by omega,h4⟩
  ·refine⟨k,by omega, ?_⟩
   unfold Wj at h
   unfold mH
   cases e0:jF s (at' p.racks k).feeds.e0<;>cases e1:jF s (at' p.racks k).feeds.e1<;>simp [e0,e1]at h ⊢ <;>omega
section
variable {p:ai} {s:State} {m0 m1 m:Nat} {a b:List aV} {fr:List (List Int)} {R:Nat→Prop} {x:aj} {cut:List Bool}
theorem DF.j1 (h:DF p s m0 m1 m a b fr R x cut) {k:Nat} (hk:k<p.sources.length) (hf:bC p s k=true):kY (bC p s) k<m:=by
 have:=zJ hk hf;have:=h.e0;have:=h.e1;have:=h.e2;omega
theorem DF.j2 (h:DF p s m0 m1 m a b fr R x cut) {k:Nat} (hk:k<p.links.length) (hf:bA p s k=true):m0+kY (bA p s) k<m:=by
 have:=zJ hk hf;have:=h.e1;have:=h.e2;omega
theorem DF.j3 (h:DF p s m0 m1 m a b fr R x cut) {r:Nat} (hr:r<p.racks.length):m1+qH p s r<m:=by
 have:=Oe (p:=p) (s:=s) hr;have:=Rk p s r;have:=h.e2;omega
theorem DF.j4 (h:DF p s m0 m1 m a b fr R x cut) {r:Nat} (hr:r<p.racks.length) (c:Bool) (hf:jF s (if c=true then(at' p.racks r).feeds.e1 else(at' p.racks r).feeds.e0)=true):mH p s m1 r c<m:=by
 have:=X5 (o:=m1) c hf
 have:=Oe (p:=p) (s:=s) hr;have:=h.e2;omega
theorem DF.kinds (h:DF p s m0 m1 m a b fr R x cut) {j:Nat} (hj:j<m):
  (∃k,k<p.sources.length∧bC p s k=true∧j=kY (bC p s) k)∨(∃k,k<p.links.length∧bA p s k=true∧j=m0+kY (bA p s) k)∨
  ∃r,r<p.racks.length∧(j=m1+qH p s r∨(jF s (at' p.racks r).feeds.e0=true∧j=mH p s m1 r false)∨(jF s (at' p.racks r).feeds.e1=true∧j=mH p s m1 r true)):=by
 have e0:=h.e0;have e1:=h.e1;have e2:=h.e2
 by_cases h1:j<m0
 ·rw [e0]at h1;exact .inl (H6 h1)
 ·by_cases h2:j<m1
  ·obtain⟨k,g1,g2,g3⟩:=H6 (f:=bA p s) (k:=p.links.length) (j:=j - m0) (by omega)
   exact .inr (.inl ⟨k,g1,g2,by omega⟩)
  ·exact .inr (.inr (MJ (by omega) (by omega)))
theorem DF.pair (h:DF p s m0 m1 m a b fr R x cut) {j u v:Nat} {t k:Int} (hP:Pr a j u v t k) (hj:j<m):tgt a (2*j)=v∧tgt a (2*j+1)=u∧tgt b (2*j)=v∧tgt b (2*j+1)=u∧iQ a (2*j)=t∧iQ a (2*j+1)=k∧iQ b (2*j)+iQ b (2*j+1)=t+k∧0≤iQ b (2*j)∧0≤iQ b (2*j+1):=by
 have t1:tgt a (2*j)=v:=by unfold tgt;rw [hP.1];rfl
 have t2:tgt a (2*j+1)=u:=by unfold tgt;rw [hP.2];rfl
 have l1:iQ a (2*j)=t:=by unfold iQ;rw [hP.1]
 have l2:iQ a (2*j+1)=k:=by unfold iQ;rw [hP.2]
 have:=h.sm.sum (2*j) (by omega)
 rw [lI,l1,l2]at this
 exact⟨t1,t2,(h.sm.tgt _).trans t1,(h.sm.tgt _).trans t2,l1,l2,this,h.sm.pos _ (by omega),h.sm.pos _ (by omega)⟩
def dl (a b:List aV) (j:Nat):Int:=iQ b (2*j+1) - iQ a (2*j+1)
theorem DF.flow (h:DF p s m0 m1 m a b fr R x cut) {v:Nat} (h0:v≠0) (h1:v≠1+p.buses.toNat+p.racks.length):
  let g:=fun j=>(if tgt a (2*j+1)=v then dl a b j else 0) - (if tgt a (2*j)=v then dl a b j else 0)
  (bH p.sources.length fun k=>if bC p s k=true then g (kY (bC p s) k)else 0)+(bH p.links.length fun k=>if bA p s k=true then g (m0+kY (bA p s) k)else 0)+(bH p.racks.length fun r=>g (m1+qH p s r)+(if jF s (at' p.racks r).feeds.e0=true then g (mH p s m1 r false)else 0)+(if jF s (at' p.racks r).feeds.e1=true then g (mH p s m1 r true)else 0))=0:=by
 intro g
 have e:bH m g=0:=by
  have hr:=h.res v h0 h1
  unfold nI at hr
  rw [GX,GX]at hr
  have e1:bH m g=(bH m fun j=>(if tgt b (2*j)=v then iQ b (2*j)else 0)+(if tgt b (2*j+1)=v then iQ b (2*j+1)else 0)) - (bH m fun j=>(if tgt a (2*j)=v then iQ a (2*j)else 0)+(if tgt a (2*j+1)=v then iQ a (2*j+1)else 0)):=by
   rw [←FV]
   refine dF fun j hj=> ?_
   have hs:=h.sm.sum (2*j) (by omega)
   rw [lI]at hs
   show(if tgt a (2*j+1)=v then dl a b j else 0) - (if tgt a (2*j)=v then dl a b j else 0)=_
   rw [h.sm.tgt,h.sm.tgt]
   unfold dl
   by_cases c1:tgt a (2*j+1)=v<;>by_cases c2:tgt a (2*j)=v<;>simp only [c1,c2,if_true,if_false]<;>omega
  omega
 have d1:=TW p s g m1 p.racks.length
 rw [←h.e2]at d1
 have d2:=Nu (bA p s) g m0 p.links.length
 rw [←h.e1]at d2
 have d3:=Nu (bC p s) g 0 p.sources.length
 rw [Nat.zero_add,←h.e0]at d3
 have d4:(bH p.sources.length fun i=>if bC p s i=true then g (0+kY (bC p s) i)else 0)=bH p.sources.length fun k=>if bC p s k=true then g (kY (bC p s) k)else 0:=dF fun i _=>by rw [Nat.zero_add]
 rw [d1,d2,d3,d4]at e
 simp only [bH]at e
 omega
variable (hp:VP p) (hs:VS p s)
include hp hs
theorem DF.xS (h:DF p s m0 m1 m a b fr R x cut) {k:Nat} (hk:k<p.sources.length):at' x.sources k=if bC p s k=true then dl a b (kY (bC p s) k)else 0:=by
 rw [h.xe]
 show at' (tab p.sources.length _) k=_
 rw [Ka hk,Nat.zero_add]
 cases hf:bC p s k with
 |false=>rfl
 |true=>
  have:=h.pair (h.src k hk hf) (h.j1 hk hf)
  rw [if_pos rfl,if_pos rfl]
  unfold dl;omega
theorem DF.xL (h:DF p s m0 m1 m a b fr R x cut) {k:Nat} (hk:k<p.links.length):at' x.links k=if bA p s k=true then dl a b (m0+kY (bA p s) k)else 0:=by
 rw [h.xe]
 show at' (tab p.links.length _) k=_
 rw [Ka hk]
 cases hf:bA p s k with
 |false=>rfl
 |true=>
  have:=h.pair (h.lnk k hk hf) (h.j2 hk hf)
  rw [if_pos rfl,if_pos rfl]
  unfold dl;omega
theorem DF.xR (h:DF p s m0 m1 m a b fr R x cut) {r:Nat} (hr:r<p.racks.length):(at' x.racks r).e0=(if jF s (at' p.racks r).feeds.e0=true then dl a b (mH p s m1 r false)else 0)∧(at' x.racks r).e1=(if jF s (at' p.racks r).feeds.e1=true then dl a b (mH p s m1 r true)else 0):=by
 have e:at' x.racks r=⟨if jF s (at' p.racks r).feeds.e0=true then iQ b (2*mH p s m1 r false+1)else 0,if jF s (at' p.racks r).feeds.e1=true then iQ b (2*mH p s m1 r true+1)else 0⟩:=by rw [h.xe];exact Ka hr
 rw [e]
 obtain⟨_,q1,q2⟩:=h.rck r hr
 constructor
 ·show(if jF s (at' p.racks r).feeds.e0=true then iQ b (2*mH p s m1 r false+1)else 0)=_
  cases hf:jF s (at' p.racks r).feeds.e0 with
  |false=>rfl
  |true=>
   have:=h.pair (q1 hf) (h.j4 hr false (by simpa using hf))
   rw [if_pos rfl,if_pos rfl]
   unfold dl;omega
 ·show(if jF s (at' p.racks r).feeds.e1=true then iQ b (2*mH p s m1 r true+1)else 0)=_
  cases hf:jF s (at' p.racks r).feeds.e1 with
  |false=>rfl
  |true=>
   have:=h.pair (q2 hf) (h.j4 hr true (by simpa using hf))
   rw [if_pos rfl,if_pos rfl]
   unfold dl;omega
theorem DF.aef (h:DF p s m0 m1 m a b fr R x cut) {r:Nat} (hr:r<p.racks.length):(at' x.racks r).e0+(at' x.racks r).e1=dl a b (m1+qH p s r):=by
 have hb:=hp.b
 have f:=h.flow (v:=1+p.buses.toNat+r) (by omega) (by omega)
 dsimp only at f
 have z1:(bH p.sources.length fun k=>if bC p s k=true then(if tgt a (2*kY (bC p s) k+1)=1+p.buses.toNat+r then dl a b (kY (bC p s) k)else 0) - (if tgt a (2*kY (bC p s) k)=1+p.buses.toNat+r then dl a b (kY (bC p s) k)else 0)else 0)=0:=by
  rw [dF (g:=fun _=>0) fun k hk=> ?_,nu]
  have hv:=(hp.src k hk).bus
  by_cases hf:bC p s k=true
  ·have:=h.pair (h.src k hk hf) (h.j1 hk hf)
   rw [if_pos hf,if_neg (by omega),if_neg (by omega)];rfl
  ·rw [if_neg hf]
 have z2:(bH p.links.length fun k=>if bA p s k=true then(if tgt a (2*(m0+kY (bA p s) k)+1)=1+p.buses.toNat+r then dl a b (m0+kY (bA p s) k)else 0) - (if tgt a (2*(m0+kY (bA p s) k))=1+p.buses.toNat+r then dl a b (m0+kY (bA p s) k)else 0)else 0)=0:=by
  rw [dF (g:=fun _=>0) fun k hk=> ?_,nu]
  have ha:=(hp.lnk k hk).a;have hbb:=(hp.lnk k hk).b
  by_cases hf:bA p s k=true
  ·have:=h.pair (h.lnk k hk hf) (h.j2 hk hf)
   rw [if_pos hf,if_neg (by omega),if_neg (by omega)];rfl
  ·rw [if_neg hf]
 rw [z1,z2,dF (g:=fun r'=>if r'=r then dl a b (m1+qH p s r) - ((at' x.racks r).e0+(at' x.racks r).e1)else 0) fun r' hr'=> ?_,JC (fun _=>dl a b (m1+qH p s r) - ((at' x.racks r).e0+(at' x.racks r).e1)) hr]at f
 ·omega
 ·obtain⟨q0,q1,q2⟩:=h.rck r' hr'
  have ha:=(hp.rck r' hr').e0;have hbb:=(hp.rck r' hr').e1
  have p0:=h.pair q0 (h.j3 hr')
  have x0:=h.xR hp hs hr'
  have c1:(if jF s (at' p.racks r').feeds.e0=true then(if tgt a (2*mH p s m1 r' false+1)=1+p.buses.toNat+r then dl a b (mH p s m1 r' false)else 0) - (if tgt a (2*mH p s m1 r' false)=1+p.buses.toNat+r then dl a b (mH p s m1 r' false)else 0)else 0)=if r'=r then - (at' x.racks r').e0 else 0:=by
   by_cases hf:jF s (at' p.racks r').feeds.e0=true
   ·have p1:=h.pair (q1 hf) (h.j4 hr' false (by simpa using hf))
    rw [if_pos hf,x0.1,if_pos hf,if_neg (show ¬ tgt a (2*mH p s m1 r' false+1)=1+p.buses.toNat+r by omega)]
    by_cases e:r'=r
    ·rw [if_pos (by omega),if_pos e];omega
    ·rw [if_neg (by omega),if_neg e];omega
   ·rw [if_neg hf,x0.1,if_neg hf];split<;>rfl
  have c2:(if jF s (at' p.racks r').feeds.e1=true then(if tgt a (2*mH p s m1 r' true+1)=1+p.buses.toNat+r then dl a b (mH p s m1 r' true)else 0) - (if tgt a (2*mH p s m1 r' true)=1+p.buses.toNat+r then dl a b (mH p s m1 r' true)else 0)else 0)=if r'=r then - (at' x.racks r').e1 else 0:=by
   by_cases hf:jF s (at' p.racks r').feeds.e1=true
   ·have p1:=h.pair (q2 hf) (h.j4 hr' true (by simpa using hf))
    rw [if_pos hf,x0.2,if_pos hf,if_neg (show ¬ tgt a (2*mH p s m1 r' true+1)=1+p.buses.toNat+r by omega)]
    by_cases e:r'=r
    ·rw [if_pos (by omega),if_pos e];omega
    ·rw [if_neg (by omega),if_neg e];omega
   ·rw [if_neg hf,x0.2,if_neg hf];split<;>rfl
  rw [c1,c2,if_neg (show ¬ tgt a (2*(m1+qH p s r'))=1+p.buses.toNat+r by omega)]
  by_cases e:r'=r
  ·subst e
   rw [if_pos (by omega),if_pos rfl,if_pos rfl,if_pos rfl];omega
  ·rw [if_neg (by omega),if_neg e,if_neg e,if_neg e];omega
theorem DF.ps (h:DF p s m0 m1 m a b fr R x cut):Ps p s x:=by
 have hb:=hp.b
 refine⟨by rw [h.xe];exact ji _ _,by rw [h.xe];exact ji _ _,by rw [h.xe];exact ji _ _,fun k hk=> ?_,fun k hk=> ?_,fun r hr=> ?_,fun v hv=> ?_⟩
 ·have hw:=(hp.src k hk).power
  rw [h.xS hp hs hk]
  by_cases hf:bC p s k=true
  ·have:=h.pair (h.src k hk hf) (h.j1 hk hf)
   rw [if_pos hf];unfold dl
   exact⟨by omega,by omega,fun q=>by rw [hf]at q;cases q⟩
  ·rw [if_neg hf];exact⟨by omega,by omega,fun _=>rfl⟩
 ·have hw:=(hp.lnk k hk).most
  rw [h.xL hp hs hk]
  by_cases hf:bA p s k=true
  ·have:=h.pair (h.lnk k hk hf) (h.j2 hk hf)
   rw [if_pos hf];unfold dl
   exact⟨by omega,by omega,fun q=>by rw [hf]at q;cases q⟩
  ·rw [if_neg hf];exact⟨by omega,by omega,fun _=>rfl⟩
 ·have hw:=(hp.rck r hr).power
  obtain⟨q0,q1,q2⟩:=h.rck r hr
  have p0:=h.pair q0 (h.j3 hr)
  have x0:=h.xR hp hs hr
  have x1:=h.aef hp hs hr
  have b0:0≤(at' x.racks r).e0:=by
   rw [x0.1]
   by_cases hf:jF s (at' p.racks r).feeds.e0=true
   ·have:=h.pair (q1 hf) (h.j4 hr false (by simpa using hf))
    rw [if_pos hf];unfold dl;omega
   ·rw [if_neg hf];omega
  have b1:0≤(at' x.racks r).e1:=by
   rw [x0.2]
   by_cases hf:jF s (at' p.racks r).feeds.e1=true
   ·have:=h.pair (q2 hf) (h.j4 hr true (by simpa using hf))
    rw [if_pos hf];unfold dl;omega
   ·rw [if_neg hf];omega
  refine⟨b0,b1,by rw [x1];unfold dl;omega,fun q=> ?_,fun q=> ?_⟩
  ·rw [x0.1,q];rfl
  ·rw [x0.2,q];rfl
 ·have f:=h.flow (v:=1+v) (by omega) (by omega)
  dsimp only at f
  rw [dF (n:=p.sources.length) (g:=fun k=> - blS p x v k) fun k hk=> ?_,dF (n:=p.links.length) (g:=fun k=> - blL p x v k) fun k hk=> ?_,dF (n:=p.racks.length) (g:=fun r=>blR p x v r) fun r hr=> ?_,JY,JY]at f
  ·unfold bal;show _+_ - bH _ (fun r=>blR p x v r)=0;omega
  ·obtain⟨q0,q1,q2⟩:=h.rck r hr
   have ha:=(hp.rck r hr).e0;have hbb:=(hp.rck r hr).e1
   have p0:=h.pair q0 (h.j3 hr)
   have x0:=h.xR hp hs hr
   unfold blR
   rw [if_neg (show ¬ tgt a (2*(m1+qH p s r)+1)=1+v by omega),if_neg (show ¬ tgt a (2*(m1+qH p s r))=1+v by omega)]
   have c1:(if jF s (at' p.racks r).feeds.e0=true then(if tgt a (2*mH p s m1 r false+1)=1+v then dl a b (mH p s m1 r false)else 0) - (if tgt a (2*mH p s m1 r false)=1+v then dl a b (mH p s m1 r false)else 0)else 0)=if(at' p.racks r).feeds.e0=(v:Int)then(at' x.racks r).e0 else 0:=by
    by_cases hf:jF s (at' p.racks r).feeds.e0=true
    ·have p1:=h.pair (q1 hf) (h.j4 hr false (by simpa using hf))
     rw [if_pos hf,x0.1,if_pos hf,if_neg (show ¬ tgt a (2*mH p s m1 r false)=1+v by omega)]
     by_cases e:(at' p.racks r).feeds.e0=(v:Int)
     ·rw [if_pos (by omega),if_pos e];omega
     ·rw [if_neg (by omega),if_neg e];omega
    ·rw [if_neg hf,x0.1,if_neg hf];split<;>rfl
   have c2:(if jF s (at' p.racks r).feeds.e1=true then(if tgt a (2*mH p s m1 r true+1)=1+v then dl a b (mH p s m1 r true)else 0) - (if tgt a (2*mH p s m1 r true)=1+v then dl a b (mH p s m1 r true)else 0)else 0)=if(at' p.racks r).feeds.e1=(v:Int)then(at' x.racks r).e1 else 0:=by
    by_cases hf:jF s (at' p.racks r).feeds.e1=true
    ·have p1:=h.pair (q2 hf) (h.j4 hr true (by simpa using hf))
     have hf0:0≤(at' p.racks r).feeds.e1:=by unfold jF at hf;rw [Bool.and_eq_true,decide_eq_true_eq]at hf;exact hf.1
     rw [if_pos hf,x0.2,if_pos hf,if_neg (show ¬ tgt a (2*mH p s m1 r true)=1+v by omega)]
     by_cases e:(at' p.racks r).feeds.e1=(v:Int)
     ·rw [if_pos (by omega),if_pos e];omega
     ·rw [if_neg (by omega),if_neg e];omega
    ·rw [if_neg hf,x0.2,if_neg hf];split<;>rfl
   rw [c1,c2];omega
  ·have ha:=(hp.lnk k hk).a;have hbb:=(hp.lnk k hk).b;have hne:=(hp.lnk k hk).ab
   unfold blL
   rw [h.xL hp hs hk]
   by_cases hf:bA p s k=true
   ·have:=h.pair (h.lnk k hk hf) (h.j2 hk hf)
    rw [if_pos hf,if_pos hf]
    by_cases e1:(at' p.links k).a=(v:Int)
    ·rw [if_pos (by omega),if_neg (by omega),if_neg (by omega),if_pos e1];omega
    ·rw [if_neg (by omega),if_neg (show ¬ (at' p.links k).a=(v:Int)from e1)]
     by_cases e2:(at' p.links k).b=(v:Int)
     ·rw [if_pos (by omega),if_pos e2];omega
     ·rw [if_neg (by omega),if_neg e2];omega
   ·rw [if_neg hf,if_neg hf];simp
  ·have hbus:=(hp.src k hk).bus
   unfold blS
   rw [h.xS hp hs hk]
   by_cases hf:bC p s k=true
   ·have:=h.pair (h.src k hk hf) (h.j1 hk hf)
    rw [if_pos hf,if_pos hf,if_neg (show ¬ tgt a (2*kY (bC p s) k+1)=1+v by omega)]
    by_cases e1:(at' p.sources k).bus=(v:Int)
    ·rw [if_pos (by omega),if_pos e1];omega
    ·rw [if_neg (by omega),if_neg e1];omega
   ·rw [if_neg hf,if_neg hf];simp
end
section
variable {p:ai} {s:State} {m0 m1 m:Nat} {a b:List aV} {fr:List (List Int)} {R:Nat→Prop} {x:aj} {cut:List Bool} (hp:VP p) (hs:VS p s) (h:DF p s m0 m1 m a b fr R x cut)
include hp hs h
theorem DF.go (K:Nat→Prop)
  (hS: ∀k,k<p.sources.length→bC p s k=true→(K 0→at' x.sources k<(at' p.sources k).power→K (1+(at' p.sources k).bus.toNat))∧(K (1+(at' p.sources k).bus.toNat)→0<at' x.sources k→K 0))
  (hL: ∀k,k<p.links.length→bA p s k=true→(K (1+(at' p.links k).a.toNat)→at' x.links k<(at' p.links k).most→K (1+(at' p.links k).b.toNat))∧(K (1+(at' p.links k).b.toNat)→ -(at' p.links k).most<at' x.links k→K (1+(at' p.links k).a.toNat)))
  (hR: ∀r,r<p.racks.length→(K (1+p.buses.toNat+r)→(at' x.racks r).e0+(at' x.racks r).e1<(at' p.racks r).power→K (1+p.buses.toNat+p.racks.length))∧(K (1+p.buses.toNat+p.racks.length)→K (1+p.buses.toNat+r))∧
   (jF s (at' p.racks r).feeds.e0=true→(K (1+(at' p.racks r).feeds.e0.toNat)→(at' x.racks r).e0<(at' p.racks r).power→K (1+p.buses.toNat+r))∧(K (1+p.buses.toNat+r)→0<(at' x.racks r).e0→K (1+(at' p.racks r).feeds.e0.toNat)))∧
   (jF s (at' p.racks r).feeds.e1=true→(K (1+(at' p.racks r).feeds.e1.toNat)→(at' x.racks r).e1<(at' p.racks r).power→K (1+p.buses.toNat+r))∧(K (1+p.buses.toNat+r)→0<(at' x.racks r).e1→K (1+(at' p.racks r).feeds.e1.toNat)))):Z5 m b K:=by
 intro i hi hl hK
 obtain⟨j,hj⟩: ∃j,i=2*j∨i=2*j+1:=⟨i / 2,by omega⟩
 have hjm:j<m:=by omega
 rcases h.kinds hjm with⟨k,hk,hf,rfl⟩|⟨k,hk,hf,rfl⟩|⟨r,hr,hc⟩
 ·have q:=h.pair (h.src k hk hf) hjm
  have xe:=h.xS hp hs hk
  rw [if_pos hf]at xe
  unfold dl at xe
  rcases hj with rfl|rfl
  ·rw [lI,q.2.2.2.1]at hK
   rw [q.2.2.1]
   exact(hS k hk hf).1 hK (by omega)
  ·rw [BU,q.2.2.1]at hK
   rw [q.2.2.2.1]
   exact(hS k hk hf).2 hK (by omega)
 ·have q:=h.pair (h.lnk k hk hf) hjm
  have xe:=h.xL hp hs hk
  rw [if_pos hf]at xe
  unfold dl at xe
  rcases hj with rfl|rfl
  ·rw [lI,q.2.2.2.1]at hK
   rw [q.2.2.1]
   exact(hL k hk hf).1 hK (by omega)
  ·rw [BU,q.2.2.1]at hK
   rw [q.2.2.2.1]
   exact(hL k hk hf).2 hK (by omega)
 ·obtain⟨q0,q1,q2⟩:=h.rck r hr
  obtain⟨x0,x1⟩:=h.xR hp hs hr
  have xr:=h.aef hp hs hr
  obtain⟨g1,g2,g3,g4⟩:=hR r hr
  rcases hc with rfl|⟨hf,rfl⟩|⟨hf,rfl⟩
  ·have q:=h.pair q0 hjm
   unfold dl at xr
   rcases hj with rfl|rfl
   ·rw [lI,q.2.2.2.1]at hK
    rw [q.2.2.1]
    exact g1 hK (by omega)
   ·rw [BU,q.2.2.1]at hK
    rw [q.2.2.2.1]
    exact g2 hK
  ·have q:=h.pair (q1 hf) hjm
   rw [if_pos hf]at x0
   unfold dl at x0
   rcases hj with rfl|rfl
   ·rw [lI,q.2.2.2.1]at hK
    rw [q.2.2.1]
    exact(g3 hf).1 hK (by omega)
   ·rw [BU,q.2.2.1]at hK
    rw [q.2.2.2.1]
    exact(g3 hf).2 hK (by omega)
  ·have q:=h.pair (q2 hf) hjm
   rw [if_pos hf]at x1
   unfold dl at x1
   rcases hj with rfl|rfl
   ·rw [lI,q.2.2.2.1]at hK
    rw [q.2.2.1]
    exact(g4 hf).1 hK (by omega)
   ·rw [BU,q.2.2.1]at hK
    rw [q.2.2.2.1]
    exact(g4 hf).2 hK (by omega)
theorem S9 {k:Nat} (hf:bC p s k=true):at' s.badBus (at' p.sources k).bus.toNat=false:=by
 unfold bC at hf;simp only [Bool.and_eq_true,Bool.not_eq_true']at hf;exact hf.2
theorem KR {k:Nat} (hf:bA p s k=true):at' s.badBus (at' p.links k).a.toNat=false∧at' s.badBus (at' p.links k).b.toNat=false:=by
 unfold bA at hf;simp only [Bool.and_eq_true,Bool.not_eq_true']at hf;exact⟨hf.1.2,hf.2⟩
theorem Fv {v:Int} (hf:jF s v=true):0≤v∧at' s.badBus v.toNat=false:=by
 unfold jF at hf;simp only [Bool.and_eq_true,Bool.not_eq_true',decide_eq_true_eq]at hf;exact hf
theorem DF.right:Nh p s (at' cut):=by
 have hb:=hp.b
 intro v hv hc
 have hR:=(h.ct v hv).1 hc
 have key:=h.mn (fun w=> ∀u:Nat,(u:Int)<p.buses→w=1+u→at' s.badBus u=false) ?_ (fun u _ e=>by omega) _ hR v hv (by omega)
 ·exact key
 ·refine h.go hp hs _ (fun k hk hf=> ⟨fun _ _ u hu e=> ?_,fun _ _ u hu e=>by omega⟩) (fun k hk hf=> ⟨fun _ _ u hu e=> ?_,fun _ _ u hu e=> ?_⟩) (fun r hr=> ⟨fun _ _ u hu e=>by omega,fun _ u hu e=>by omega,fun hf=> ⟨fun _ _ u hu e=>by omega,fun _ _ u hu e=> ?_⟩,fun hf=> ⟨fun _ _ u hu e=>by omega,fun _ _ u hu e=> ?_⟩⟩)
  ·have:=S9 hp hs h hf
   have e2:u=(at' p.sources k).bus.toNat:=by omega
   rw [e2];exact this
  ·have e2:u=(at' p.links k).b.toNat:=by omega
   rw [e2];exact(KR hp hs h hf).2
  ·have e2:u=(at' p.links k).a.toNat:=by omega
   rw [e2];exact(KR hp hs h hf).1
  ·have e2:u=(at' p.racks r).feeds.e0.toNat:=by omega
   rw [e2];exact(Fv hp hs h hf).2
  ·have e2:u=(at' p.racks r).feeds.e1.toNat:=by omega
   rw [e2];exact(Fv hp hs h hf).2
theorem DF.ajF {k:Nat} (hk:k<p.sources.length) (hf:bC p s k=true) (hc:at' cut (at' p.sources k).bus.toNat=false):at' x.sources k=(at' p.sources k).power:=by
 have hbus:=(hp.src k hk).bus
 have hj:=h.j1 hk hf
 have q:=h.pair (h.src k hk hf) hj
 have xe:=h.xS hp hs hk
 rw [if_pos hf]at xe
 unfold dl at xe
 refine Decidable.byContradiction fun hn=> ?_
 have:=h.clo (2*kY (bC p s) k) (by omega) (by omega) (by rw [lI,q.2.2.2.1];exact h.r0)
 rw [q.2.2.1,Nat.add_comm,←h.ct _ (by omega),hc]at this
 cases this
theorem DF.ahr {k:Nat} (hk:k<p.links.length) (hf:bA p s k=true):(at' cut (at' p.links k).a.toNat=true→at' cut (at' p.links k).b.toNat=false→at' x.links k=(at' p.links k).most)∧(at' cut (at' p.links k).b.toNat=true→at' cut (at' p.links k).a.toNat=false→at' x.links k= -(at' p.links k).most):=by
 have hl:=hp.lnk k hk;have ha:=hl.a;have hb:=hl.b
 have hj:=h.j2 hk hf
 have q:=h.pair (h.lnk k hk hf) hj
 have xe:=h.xL hp hs hk
 rw [if_pos hf]at xe
 unfold dl at xe
 refine⟨fun c1 c2=>Decidable.byContradiction fun hn=> ?_,fun c1 c2=>Decidable.byContradiction fun hn=> ?_⟩
 ·have:=h.clo (2*(m0+kY (bA p s) k)) (by omega) (by omega) (by rw [lI,q.2.2.2.1,Nat.add_comm];exact(h.ct _ (by omega)).1 c1)
  rw [q.2.2.1,Nat.add_comm,←h.ct _ (by omega),c2]at this
  cases this
 ·have:=h.clo (2*(m0+kY (bA p s) k)+1) (by omega) (by omega) (by rw [BU,q.2.2.1,Nat.add_comm];exact(h.ct _ (by omega)).1 c1)
  rw [q.2.2.2.1,Nat.add_comm,←h.ct _ (by omega),c2]at this
  cases this
theorem DF.tight:(∀k,k<p.sources.length→YV p x (at' cut) k=XE p s (at' cut) k)∧(∀i,i<p.links.length→UY p x (at' cut) i=XF p s (at' cut) i)∧ ∀r,r<p.racks.length→SB p x (at' cut) r=Vj p (at' cut) r:=by
 have hps:=h.ps hp hs
 have hrt:=h.right hp hs
 refine⟨fun k hk=> ?_,fun i hi=> ?_,fun r hr=> ?_⟩
 ·unfold YV XE
  cases hc:at' cut (at' p.sources k).bus.toNat with
  |true=>simp
  |false=>
   cases hf:bC p s k with
   |true=>simp;exact h.ajF hp hs hk hf hc
   |false=>simp;exact(hps.sS k hk).2.2 hf
 ·unfold UY XF
  cases hf:bA p s i with
  |false=>rw [(hps.sL i hi).2.2 hf];simp
  |true=>
   obtain⟨g1,g2⟩:=h.ahr hp hs hi hf
   cases ca:at' cut (at' p.links i).a.toNat<;>cases cb:at' cut (at' p.links i).b.toNat<;>simp
   ·have:=g2 cb ca;omega
   ·exact g1 ca cb
 ·have hv:=hp.rck r hr;have ha:=hv.e0;have hb:=hv.e1;have hw:=hv.power
  obtain⟨w1,w2,w3,w4,w5⟩:=hps.sR r hr
  obtain⟨q0,q1,q2⟩:=h.rck r hr
  obtain⟨x0,x1⟩:=h.xR hp hs hr
  have xr:=h.aef hp hs hr
  unfold dl at xr
  have pr:=h.pair q0 (h.j3 hr)
  have hjr:=h.j3 hr
  unfold SB Vj rkC
  have full:R (1+p.buses.toNat+r)→(at' x.racks r).e0+(at' x.racks r).e1=(at' p.racks r).power:=fun hR=>Decidable.byContradiction fun hn=>by
   have:=h.clo (2*(m1+qH p s r)) (by omega) (by omega) (by rw [lI,pr.2.2.2.1];exact hR)
   rw [pr.2.2.1]at this
   exact h.rs this
  have f0:at' cut (at' p.racks r).feeds.e0.toNat=true→jF s (at' p.racks r).feeds.e0=true:=fun hc=>abB hp hs hrt ha hc
  have f1:0≤(at' p.racks r).feeds.e1→at' cut (at' p.racks r).feeds.e1.toNat=true→jF s (at' p.racks r).feeds.e1=true:=fun h0 hc=>abB hp hs hrt ⟨h0,hb.2⟩ hc
  have in0:at' cut (at' p.racks r).feeds.e0.toNat=true→(at' x.racks r).e0=(at' p.racks r).power∨R (1+p.buses.toNat+r):=fun hc=>by
   have hf:=f0 hc
   have hj:=h.j4 hr false (by simpa using hf)
   have q:=h.pair (q1 hf) hj
   rw [if_pos hf]at x0
   unfold dl at x0
   by_cases hn:(at' x.racks r).e0=(at' p.racks r).power
   ·exact .inl hn
   ·have:=h.clo (2*mH p s m1 r false) (by omega) (by omega) (by rw [lI,q.2.2.2.1,Nat.add_comm];exact(h.ct _ (by omega)).1 hc)
    rw [q.2.2.1]at this
    exact .inr this
  have in1:0≤(at' p.racks r).feeds.e1→at' cut (at' p.racks r).feeds.e1.toNat=true→(at' x.racks r).e1=(at' p.racks r).power∨R (1+p.buses.toNat+r):=fun h0 hc=>by
   have hf:=f1 h0 hc
   have hj:=h.j4 hr true (by simpa using hf)
   have q:=h.pair (q2 hf) hj
   rw [if_pos hf]at x1
   unfold dl at x1
   by_cases hn:(at' x.racks r).e1=(at' p.racks r).power
   ·exact .inl hn
   ·have:=h.clo (2*mH p s m1 r true) (by omega) (by omega) (by rw [lI,q.2.2.2.1,Nat.add_comm];exact(h.ct _ (by omega)).1 hc)
    rw [q.2.2.1]at this
    exact .inr this
  have out0:R (1+p.buses.toNat+r)→at' cut (at' p.racks r).feeds.e0.toNat=false→(at' x.racks r).e0=0:=fun hR hc=>by
   cases hf:jF s (at' p.racks r).feeds.e0 with
   |false=>exact w4 hf
   |true=>
    have hj:=h.j4 hr false (by simpa using hf)
    have q:=h.pair (q1 hf) hj
    rw [if_pos hf]at x0
    unfold dl at x0
    refine Decidable.byContradiction fun hn=> ?_
    have:=h.clo (2*mH p s m1 r false+1) (by omega) (by omega) (by rw [BU,q.2.2.1];exact hR)
    rw [q.2.2.2.1,Nat.add_comm,←h.ct _ (by omega),hc]at this
    cases this
  have out1:R (1+p.buses.toNat+r)→(0≤(at' p.racks r).feeds.e1→at' cut (at' p.racks r).feeds.e1.toNat=false)→(at' x.racks r).e1=0:=fun hR hc=>by
   cases hf:jF s (at' p.racks r).feeds.e1 with
   |false=>exact w5 hf
   |true=>
    have h0:=(Fv hp hs h hf).1
    have hj:=h.j4 hr true (by simpa using hf)
    have q:=h.pair (q2 hf) hj
    rw [if_pos hf]at x1
    unfold dl at x1
    refine Decidable.byContradiction fun hn=> ?_
    have:=h.clo (2*mH p s m1 r true+1) (by omega) (by omega) (by rw [BU,q.2.2.1];exact hR)
    rw [q.2.2.2.1,Nat.add_comm,←h.ct _ (by omega),hc h0]at this
    cases this
  by_cases h0:0≤(at' p.racks r).feeds.e1
  ·cases c0:at' cut (at' p.racks r).feeds.e0.toNat<;>cases c1:at' cut (at' p.racks r).feeds.e1.toNat<;>simp [h0]
   ·rcases in1 h0 c1 with e|e
    ·exact e
    ·have:=full e;have:=out0 e c0;omega
   ·rcases in0 c0 with e|e
    ·exact e
    ·have:=full e;have:=out1 e (fun _=>c1);omega
   ·rcases in0 c0 with e|e
    ·rcases in1 h0 c1 with e'|e'
     ·omega
     ·exact full e'
    ·exact full e
  ·cases c0:at' cut (at' p.racks r).feeds.e0.toNat<;>simp [h0]
   rcases in0 c0 with e|e
   ·exact e
   ·have:=full e;have:=out1 e (fun q=>absurd q h0);omega
theorem DF.akD:TS p x=He p s (at' cut):=by
 obtain⟨h1,h2,h3⟩:=h.tight hp hs
 exact NZ hp hs (h.ps hp hs) h1 h2 h3
theorem DF.least {D:Nat→Bool} (hD:Nh p s D) (e:TS p x=He p s D) {v:Nat} (hv:(v:Int)<p.buses) (hc:at' cut v=true):D v=true:=by
 have hb:=hp.b
 have hps:=h.ps hp hs
 obtain⟨t1,t2,t3⟩:=UZ hp hs hps hD e
 have hR:=(h.ct v hv).1 hc
 have key:=h.mn (fun w=>(∀u:Nat,(u:Int)<p.buses→w=1+u→D u=true)∧(∀r,r<p.racks.length→w=1+p.buses.toNat+r→rkC p D r=true)∧w≠1+p.buses.toNat+p.racks.length) ?_ ⟨fun u _ e=>by omega,fun u _ e=>by omega,by omega⟩ _ hR
 ·exact key.1 v hv (by omega)
 ·refine h.go hp hs _ (fun k hk hf=> ?_) (fun k hk hf=> ?_) (fun r hr=> ?_)
  ·have hbus:=(hp.src k hk).bus
   refine⟨fun _ hl=> ⟨fun u hu e=> ?_,fun r hr e=>by omega,by omega⟩,fun _ _=> ⟨fun u _ e=>by omega,fun u _ e=>by omega,by omega⟩⟩
   have e2:u=(at' p.sources k).bus.toNat:=by omega
   have t:=t1 k hk
   unfold YV XE at t
   rw [e2]
   cases hc:D (at' p.sources k).bus.toNat with
   |true=>rfl
   |false=>rw [hc,hf]at t;simp at t;omega
  ·have ha:=(hp.lnk k hk).a;have hbb:=(hp.lnk k hk).b
   have t:=t2 k hk
   unfold UY XF at t
   refine⟨fun hK hl=> ⟨fun u hu e=> ?_,fun r hr e=>by omega,by omega⟩,fun hK hl=> ⟨fun u hu e=> ?_,fun r hr e=>by omega,by omega⟩⟩
   ·have e2:u=(at' p.links k).b.toNat:=by omega
    have hA:=hK.1 (at' p.links k).a.toNat (by omega) rfl
    rw [e2]
    cases hc:D (at' p.links k).b.toNat with
    |true=>rfl
    |false=>rw [hc,hf,hA]at t;simp at t;omega
   ·have e2:u=(at' p.links k).a.toNat:=by omega
    have hB:=hK.1 (at' p.links k).b.toNat (by omega) rfl
    rw [e2]
    cases hc:D (at' p.links k).a.toNat with
    |true=>rfl
    |false=>rw [hc,hf,hB]at t;simp at t;omega
  ·have hv:=hp.rck r hr;have ha:=hv.e0;have hbb:=hv.e1;have hw:=hv.power
   have t:=t3 r hr
   obtain⟨w1,w2,w3,w4,w5⟩:=hps.sR r hr
   refine⟨fun hK hl=> ?_,fun hK=>absurd rfl hK.2.2,fun hf=> ⟨fun hK hl=> ⟨fun u hu e=>by omega,fun r' hr' e=> ?_,by omega⟩,fun hK hl=> ⟨fun u hu e=> ?_,fun r' hr' e=>by omega,by omega⟩⟩,fun hf=> ?_⟩
   ·have hC:=hK.2.1 r hr rfl
    unfold SB Vj at t
    rw [hC,if_pos rfl]at t
    exfalso
    revert t
    split<;>split<;>omega
   ·have e2:r'=r:=by omega
    rw [e2]
    unfold rkC
    rw [hK.1 (at' p.racks r).feeds.e0.toNat (by omega) rfl];rfl
   ·have hC:=hK.2.1 r hr rfl
    have e2:u=(at' p.racks r).feeds.e0.toNat:=by omega
    unfold SB Vj at t
    rw [hC,if_pos rfl]at t
    rw [e2]
    cases hc:D (at' p.racks r).feeds.e0.toNat with
    |true=>rfl
    |false=>
     exfalso
     rw [hc,if_neg (by simp)]at t
     revert t
     split<;>omega
   ·have h0:=(Fv hp hs h hf).1
    refine⟨fun hK hl=> ⟨fun u hu e=>by omega,fun r' hr' e=> ?_,by omega⟩,fun hK hl=> ⟨fun u hu e=> ?_,fun r' hr' e=>by omega,by omega⟩⟩
    ·have e2:r'=r:=by omega
     rw [e2]
     unfold rkC
     rw [hK.1 (at' p.racks r).feeds.e1.toNat (by omega) rfl,decide_eq_true h0];simp
    ·have hC:=hK.2.1 r hr rfl
     have e2:u=(at' p.racks r).feeds.e1.toNat:=by omega
     unfold SB Vj at t
     rw [hC,if_pos rfl]at t
     rw [e2]
     cases hc:D (at' p.racks r).feeds.e1.toNat with
     |true=>rfl
     |false=>
      exfalso
      rw [hc,if_neg (by simp: ¬ (0≤(at' p.racks r).feeds.e1∧(false:Bool)=true))]at t
      revert t
      split<;>omega
end
structure Sv (p:ai) (s:State) (x:aj) (cut:List Bool):Prop where
 ps:Ps p s x
 cl:cut.length=p.buses.toNat
 rt:Nh p s (at' cut)
 eq:TS p x=He p s (at' cut)
 least: ∀D,Nh p s D→TS p x=He p s D→ ∀v:Nat,(v:Int)<p.buses→at' cut v=true→D v=true
theorem K3 {p:ai} {s:State} (hp:VP p) (hs:VS p s): ∃x cut,bQ p s=some (x,cut,0)∧Sv p s x cut:=by
 obtain⟨m0,m1,m,a,b,fr,R,x,cut,e,h⟩:=UI hp hs
 exact⟨x,cut,e,h.ps hp hs,h.cl,h.right hp hs,h.akD hp hs,fun D hD e v hv hc=>h.least hp hs hD e hv hc⟩
theorem aaz:iY=some true:=by kernel_rfl
section
variable {p:ai} {s:State} (hp:VP p) (hs:VS p s)
include hp hs
theorem Ps.amount {x:aj} (h:Ps p s x):bK x=some (TS p x):=by
 have hrl:=hp.rl
 rw [Mq (by rw [h.l3];omega),Tz (fun r hr=> ?_) (by rw [h.l3];omega) _ (Nat.le_refl _),h.l3]
 ·rfl
 ·rw [h.l3]at hr
  have:=h.sR r hr
  have:=(hp.rck r hr).power
  omega
theorem Ps.YW {x:aj} (h:Ps p s x):YW x x.racks.length=TS p x:=by
 have hrl:=hp.rl
 have h1:=h.amount hp hs
 rw [Mq (by rw [h.l3];omega)]at h1
 exact Option.some.inj h1
end
structure Xc (s:State):Prop where
 l0:s.closed.length≤140737488351232
 l1:s.locked.length≤140737488351232
 l2:s.badLink.length≤140737488351232
 l3:s.on_.length≤140737488351232
 l4:s.badSource.length≤140737488351232
 l5:s.earthed.length≤140737488351232
 l6:s.badBus.length≤140737488351232
theorem iK (l:List Bool) (h:l.length≤140737488351232):dM l=some l:=by
 unfold dM;rw [aH (by omega)]
theorem Kk (s:State) (h:Xc s):lm s=some s:=by
 obtain⟨h0,h1,h2,h3,h4,h5,h6⟩:=h
 unfold lm
 rw [iK _ h0,iK _ h1,iK _ h2,iK _ h3,iK _ h4,iK _ h5,iK _ h6]
 rfl
theorem VS.room {p:ai} {s:State} (hp:VP p) (h:VS p s):Xc s:=by
 have h1:=hp.ll;have h2:=hp.sl;have h3:=hp.b
 obtain⟨a1,a2,a3,a4,a5,a6,a7,_⟩:=h
 exact⟨by omega,by omega,by omega,by omega,by omega,by omega,by omega⟩
theorem JA (x n:Int) (hn:1≤n∧n≤1000000): ∃b:Nat,mZ x n=some (b:Int)∧(b:Int)<n:=by
 unfold mZ
 have h1:decide (n<1)=false:=decide_eq_false (by omega)
 have h2:=Int.tmod_lt_of_pos x (show 0<n by omega)
 have h3: -n<x.tmod n:=by
  have:=Int.tmod_lt_of_pos (-x) (show 0<n by omega)
  rw [Int.neg_tmod]at this;omega
 rw [h1,cond_false,aH (by omega)]
 by_cases h:x.tmod n<0
 ·have:decide (x.tmod n<0)=true:=decide_eq_true h
  rw [this,cond_true,wr (by omega)]
  exact⟨(x.tmod n+n).toNat,by congr 1;omega,by omega⟩
 ·have:decide (x.tmod n<0)=false:=decide_eq_false h
  rw [this,cond_false]
  exact⟨(x.tmod n).toNat,by congr 1;omega,by omega⟩
theorem mR (l:List Bool) (h:l.length≤140737488351232):bV l=some l:=by
 unfold bV lU
 rw [Bool.not_true,cond_false,aH ⟨by simp only [List.length_nil];omega,by simp only [List.length_nil];omega⟩];rfl
theorem UC (s:State) (h:Xc s):mK s=some s:=by
 obtain⟨h0,h1,h2,h3,h4,h5,h6⟩:=h
 unfold mK
 rw [mR _ h0,mR _ h1,mR _ h2,mR _ h3,mR _ h4,mR _ h5,mR _ h6]
 rfl
def partsOf (p:ai):List Part:=tab p.buses.toNat (fun b=> ⟨1,(b:Int)⟩)++tab p.sources.length (fun b=> ⟨2,(b:Int)⟩)++tab p.links.length (fun b=> ⟨3,(b:Int)⟩)
theorem Wt {α:Type} (n:Nat) (f:Nat→α):tab (n+1) f=tab n f++[f n]:=by simp [tab,List.range_succ]
theorem Wz (p:ai) (t n:Nat) (ht:t<3) (hn:at' [p.buses,(p.sources.length:Int),(p.links.length:Int)] t=(n:Int)) (hn2:n≤1000) (out:List Part) (ho:out.length≤10000):aZ (jd p (t:Int)) FUEL (out,0)=some (.brk (out++tab n fun b=> ⟨(t:Int)+1,(b:Int)⟩)):=by
 have e0:out=out++tab 0 fun b=>(⟨(t:Int)+1,(b:Int)⟩:Part):=by simp [tab]
 have key:aZ (jd p (t:Int)) FUEL (out++tab 0 (fun b=>(⟨(t:Int)+1,(b:Int)⟩:Part)),((0:Nat):Int))=some (.brk (out++tab n fun b=> ⟨(t:Int)+1,(b:Int)⟩)):=by
  refine lC (fun k=>(out++tab k (fun b=>(⟨(t:Int)+1,(b:Int)⟩:Part)),(k:Int))) n _ (fuel_lt (by omega)) (fun k hk=> ?_) ?_
  ·unfold jd
   dsimp only
   rw [Int.toNat_natCast,hn,ZA (by omega),cond_true,aH ⟨by rw [List.length_append,ji,List.length_singleton];omega,by rw [List.length_append,ji,List.length_singleton];omega⟩,wr (x:=(k:Int)+1) (by omega),wr (x:=(t:Int)+1) (by omega),Wt,List.append_assoc]
   rfl
  ·unfold jd
   dsimp only
   rw [Int.toNat_natCast,hn,Rv (by omega)];rfl
 rw [←e0]at key
 exact key
section
variable {p:ai} {s:State} (hp:VP p) (hs:VS p s)
include hp
theorem parts_eq:ol p=some (partsOf p,0):=by
 have hb:=hp.b;have hsl:=hp.sl;have hll:=hp.ll
 unfold ol
 rw [QE p hp.small,BF.mpr hp,Option.bind_some,decide_eq_true rfl,Bool.not_true,cond_false]
 have key:aZ (gV p) FUEL ([],0)=some (.brk (partsOf p)):=by
  refine zT (n:=4) ?_ (by unfold FUEL;omega)
  have r: ∀(t n:Nat) (out:List Part),t<3→at' [p.buses,(p.sources.length:Int),(p.links.length:Int)] t=(n:Int)→n≤1000→out.length≤10000→gV p (out,(t:Int))=some (.next (out++tab n (fun b=> ⟨(t:Int)+1,(b:Int)⟩),((t+1:Nat):Int))):=fun t n out ht hn hn2 ho=>by
   unfold gV
   dsimp only
   have hl3:([p.buses,(p.sources.length:Int),(p.links.length:Int)].length:Int)=3:=rfl
   rw [ZA (by rw [hl3];omega),cond_true,aH ⟨by omega,by rw [hl3];omega⟩,Wz p t n ht hn hn2 out ho]
   simp only [Option.bind_some]
   rw [wr (by omega)];rfl
  have r0:gV p ([],0)=_:=r 0 p.buses.toNat [] (by omega) (by show p.buses=_;omega) (by omega) (by simp)
  rw [iI,r0]
  show aZ _ 3 (([]++tab p.buses.toNat (fun b=>(⟨((0:Nat):Int)+1,(b:Int)⟩:Part))),((1:Nat):Int))=_
  rw [iI,r 1 p.sources.length _ (by omega) rfl (by omega) (by simp [ji];omega)]
  show aZ _ 2 (_,((2:Nat):Int))=_
  rw [iI,r 2 p.links.length _ (by omega) rfl (by omega) (by simp [ji];omega)]
  show aZ _ 1 (_,((3:Nat):Int))=_
  rw [iI]
  unfold gV
  dsimp only
  rw [decide_eq_false (by show ¬ ((3:Nat):Int)<3;omega),cond_false]
  rfl
 rw [key];rfl
theorem R5 {i:Nat} (hi:i<(partsOf p).length): ∃(c j:Nat),at' (partsOf p) i=⟨(c:Int),(j:Int)⟩∧((c=1∧(j:Int)<p.buses)∨(c=2∧j<p.sources.length)∨(c=3∧j<p.links.length)):=by
 have hb:=hp.b
 have hm:=at_mem hi
 unfold partsOf at hm
 rw [List.mem_append,List.mem_append]at hm
 have mt: ∀{n:Nat} {f:Nat→Part} {x:Part},x∈tab n f→ ∃j,j<n∧x=f j:=fun{n f x} h=>by
  obtain⟨j,hj,e⟩:=List.mem_map.1 h
  exact⟨j,List.mem_range.1 hj,e.symm⟩
 rcases hm with(h|h)|h
 ·obtain⟨j,hj,e⟩:=mt h
  exact⟨1,j,e, .inl ⟨rfl,by omega⟩⟩
 ·obtain⟨j,hj,e⟩:=mt h
  exact⟨2,j,e, .inr (.inl ⟨rfl,hj⟩)⟩
 ·obtain⟨j,hj,e⟩:=mt h
  exact⟨3,j,e, .inr (.inr ⟨rfl,hj⟩)⟩
include hs
theorem XC {c j:Nat} (h:(c=1∧(j:Int)<p.buses)∨(c=2∧j<p.sources.length)∨(c=3∧j<p.links.length)): ∃t,oo p s ⟨(c:Int),(j:Int)⟩=some (t,0)∧VS p t∧(∀k,k<p.sources.length→bC p t k=true→bC p s k=true)∧(∀i,i<p.links.length→bA p t i=true→bA p s i=true):=by
 have hb:=hp.b;have hsl:=hp.sl;have hll:=hp.ll
 have h7:=hs.badBus;have h3:=hs.badLink;have h5:=hs.badSource
 have setT: ∀(l:List Bool) (i q:Nat),at' (l.set i true) q=false→at' l q=false:=fun l i q hq=>by
  by_cases e:i=q
  ·subst e
   by_cases hl:i<l.length
   ·rw [fI hl]at hq;cases hq
   ·rw [List.set_eq_of_length_le (by omega)]at hq;exact hq
  ·rwa [eG e]at hq
 unfold oo pO
 rw [yF p s hp.small,CG.mpr ⟨hp,hs⟩,Option.bind_some,decide_eq_true rfl,Bool.not_true,cond_false,UC s (hs.room hp),Option.bind_some]
 dsimp only
 rcases h with⟨rfl,hj⟩|⟨rfl,hj⟩|⟨rfl,hj⟩
 ·rw [show Ff ((1:Nat):Int) 1=true from rfl,cond_true,o5,Option.bind_some,wr (by omega),Ai.mpr ⟨by omega,by omega⟩,Bool.not_true,cond_false,aH ⟨by omega,by omega⟩,Int.toNat_natCast]
  refine⟨_,rfl,⟨hs.closed,hs.locked,hs.badLink,hs.on,hs.badSource,hs.earthed,by show((s.badBus.set j true).length:Int)=_;rw [List.length_set];exact h7,hs.cable⟩,fun k hk hf=> ?_,fun i hi hf=> ?_⟩
  ·unfold bC at hf ⊢
   simp only [Bool.and_eq_true,Bool.not_eq_true']at hf ⊢
   exact⟨hf.1,setT _ _ _ hf.2⟩
  ·unfold bA at hf ⊢
   simp only [Bool.and_eq_true,Bool.not_eq_true']at hf ⊢
   exact⟨⟨hf.1.1,setT _ _ _ hf.1.2⟩,setT _ _ _ hf.2⟩
 ·rw [show Ff ((2:Nat):Int) 1=false from rfl,cond_false,show Ff ((2:Nat):Int) 2=true from rfl,cond_true,o5,Option.bind_some,wr (by omega),Ai.mpr ⟨by omega,by omega⟩,Bool.not_true,cond_false,aH ⟨by omega,by omega⟩,Int.toNat_natCast]
  refine⟨_,rfl,⟨hs.closed,hs.locked,hs.badLink,hs.on,by show(s.badSource.set j true).length=_;rw [List.length_set];exact h5,hs.earthed,h7,hs.cable⟩,fun k hk hf=> ?_,fun i hi hf=>hf⟩
  unfold bC at hf ⊢
  simp only [Bool.and_eq_true,Bool.not_eq_true']at hf ⊢
  exact⟨⟨hf.1.1,setT _ _ _ hf.1.2⟩,hf.2⟩
 ·rw [show Ff ((3:Nat):Int) 1=false from rfl,cond_false,show Ff ((3:Nat):Int) 2=false from rfl,cond_false,show Ff ((3:Nat):Int) 3=true from rfl,cond_true,o5,Option.bind_some,wr (by omega),Ai.mpr ⟨by omega,by omega⟩,Bool.not_true,cond_false,aH ⟨by omega,by omega⟩,Int.toNat_natCast]
  refine⟨_,rfl,⟨hs.closed,hs.locked,by show(s.badLink.set j true).length=_;rw [List.length_set];exact h3,hs.on,hs.badSource,hs.earthed,h7,hs.cable⟩,fun k hk hf=>hf,fun i hi hf=> ?_⟩
  unfold bA at hf ⊢
  simp only [Bool.and_eq_true,Bool.not_eq_true']at hf ⊢
  exact⟨⟨⟨hf.1.1.1,setT _ _ _ hf.1.1.2⟩,hf.1.2⟩,hf.2⟩
omit hs in
theorem Yt {t u:State} (ht:VS p t) (h1: ∀k,k<p.sources.length→bC p t k=true→bC p u k=true) (h2: ∀i,i<p.links.length→bA p t i=true→bA p u i=true) (C:Nat→Bool):Nh p t (fun b=>C b && !at' t.badBus b)∧He p t (fun b=>C b && !at' t.badBus b)≤He p u C:=by
 refine⟨fun b _ hc=>by rw [Bool.and_eq_true,Bool.not_eq_true']at hc;exact hc.2, ?_⟩
 have q1:bH p.sources.length (XE p t fun b=>C b && !at' t.badBus b)≤bH p.sources.length (XE p u C):=pU fun k hk=>by
  have hw:=(hp.src k hk).power
  unfold XE
  cases hf:bC p t k with
  |false=>simp;split<;>omega
  |true=>
   have hg:at' t.badBus (at' p.sources k).bus.toNat=false:=by unfold bC at hf;simp only [Bool.and_eq_true,Bool.not_eq_true']at hf;exact hf.2
   simp [hg,h1 k hk hf]
 have q2:bH p.links.length (XF p t fun b=>C b && !at' t.badBus b)≤bH p.links.length (XF p u C):=pU fun k hk=>by
  have hw:=(hp.lnk k hk).most
  unfold XF
  cases hf:bA p t k with
  |false=>simp;split<;>omega
  |true=>
   have hg:at' t.badBus (at' p.links k).a.toNat=false∧at' t.badBus (at' p.links k).b.toNat=false:=by unfold bA at hf;simp only [Bool.and_eq_true,Bool.not_eq_true']at hf;exact⟨hf.1.2,hf.2⟩
   simp [hg.1,hg.2,h2 k hk hf]
 have q3:bH p.racks.length (Vj p fun b=>C b && !at' t.badBus b)≤bH p.racks.length (Vj p C):=pU fun r hr=>by
  have hw:=(hp.rck r hr).power
  unfold Vj
  by_cases h:rkC p (fun b=>C b && !at' t.badBus b) r=true
  ·rw [if_pos h,if_pos]
   ·exact Int.le_refl _
   ·unfold rkC at h ⊢
    rw [Bool.or_eq_true,Bool.and_eq_true,Bool.and_eq_true,Bool.and_eq_true]at h
    rw [Bool.or_eq_true,Bool.and_eq_true]
    exact h.imp (fun q=>q.1) fun q=> ⟨q.1,q.2.1⟩
  ·rw [if_neg h];split<;>omega
 unfold He;omega
omit hs in
theorem Qd {t u:State} (ht:VS p t) (hu:VS p u) (h1: ∀k,k<p.sources.length→bC p t k=true→bC p u k=true) (h2: ∀i,i<p.links.length→bA p t i=true→bA p u i=true) {x y:aj} {c d:List Bool} (hx:Sv p t x c) (hy:Sv p u y d):TS p x≤TS p y:=by
 obtain⟨g1,g2⟩:=Yt hp ht h1 h2 (at' d)
 have:=ae5 hp ht hx.ps g1
 rw [hy.eq];omega
end
theorem Gd {l:List Bool} {i q:Nat} (h:at' l q=true):at' (l.set i true) q=true:=by
 by_cases e:i=q
 ·subst e
  by_cases hl:i<l.length
  ·exact fI hl
  ·rw [List.set_eq_of_length_le (by omega)];exact h
 ·rw [eG e];exact h
theorem Ki (p:ai) (s:State) (n k m:Int) (hp:Small p):jQ p s n k m=some true:=by
 unfold jQ
 rw [aaz]
 generalize (bif (bif (decide (60<(p.sources.length:Int)))then true else(decide (60<(p.links.length:Int))))then true else(decide (60<(p.racks.length:Int))))=big
 cases big with
 |true=>rfl
 |false=>
  rw [show gB [(false,false)]=true from rfl,cond_true,yF p s hp,Option.bind_some,cond_false]
  by_cases h0:Kr p s=0
  ·obtain⟨hv,hs⟩:=CG.mp h0
   have hb:=hv.b;have hsl:=hv.sl;have hll:=hv.ll
   have hc1:=hs.closed;have hc4:=hs.on
   rw [decide_eq_true h0,Bool.not_true,cond_false]
   obtain⟨x,cut,e,h⟩:=K3 hv hs
   have hpl:(partsOf p).length=p.buses.toNat+p.sources.length+p.links.length:=by unfold partsOf;simp [ji];omega
   obtain⟨q,hq,hq2⟩:=JA n (partsOf p).length (by rw [hpl];omega)
   obtain⟨c,j,hat,hcj⟩:=R5 hv (show q<(partsOf p).length by omega)
   obtain⟨t,hbr,ht,hf1,hf2⟩:=XC hv hs hcj
   obtain⟨y,cy,ey,hy⟩:=K3 hv ht
   have hle:=Qd hv ht hs hf1 hf2 hy h
   rw [e,Option.bind_some,parts_eq hv,Option.bind_some]
   dsimp only
   rw [decide_eq_true rfl,Bool.not_true,cond_false,cond_false,decide_eq_false (show ¬ ((partsOf p).length:Int)=0 by rw [hpl];omega),cond_false,hq,Option.bind_some,Int.toNat_natCast,hat,hbr,Option.bind_some,aH ⟨by omega,by omega⟩]
   dsimp only
   rw [decide_eq_true rfl,Bool.not_true,cond_false,ey,Option.bind_some]
   dsimp only
   rw [decide_eq_true rfl,Bool.not_true,show gB [(false,false)]=true from rfl,cond_true,cond_true,hy.ps.amount hv ht,Option.bind_some,h.ps.amount hv hs,Option.bind_some,cond_false,Rv hle,cond_false,Kk s (hs.room hv),Option.bind_some]
   have fin: ∀(u:State),VS p u→(∀k,k<p.sources.length→bC p s k=true→bC p u k=true)→(∀i,i<p.links.length→bA p s i=true→bA p u i=true)→
     ((bQ p u).bind fun r_12=>
      (bif gB [((decide (r_12.2.2=0)),true)]then bK r_12.1 else some default).bind fun r_13=>
      (bif gB [((decide (r_12.2.2=0)),true)]then some (TS p x)else some default).bind fun r_14=>
      (bif gB [((bif (decide (r_12.2.2=0))then(decide (r_14≤r_13))else false),true)]then some true else some default).bind fun r_15=>
      some (bif (bif (decide (r_12.2.2=0))then(decide (r_14≤r_13))else false)then r_15 else false))=some true:=fun u hu g1 g2=>by
    obtain⟨z,cz,ez,hz⟩:=K3 hv hu
    have:=Qd hv hs hu g1 g2 h hz
    rw [ez,Option.bind_some]
    dsimp only
    rw [decide_eq_true rfl,show gB [(true,true)]=true from rfl,cond_true,cond_true,hz.ps.amount hv hu,Option.bind_some,Option.bind_some,cond_true,decide_eq_true this]
    rfl
   have cabl: ∀(l:List Bool),(∀i,i<p.links.length→at' s.closed i=true→at' l i=true)→ ∀i,i<p.links.length→(at' p.links i).kind=1→at' l i=true∧at' s.locked i=false:=fun l hl i hi hk=> ⟨hl i hi (hs.cable i hi hk).1,(hs.cable i hi hk).2⟩
   have fS: ∀(b:Nat),∀k,k<p.sources.length→bC p s k=true→bC p ⟨s.closed,s.locked,s.badLink,s.on_.set b true,s.badSource,s.earthed,s.badBus⟩ k=true:=fun b k hk hf=>by
    unfold bC at hf ⊢
    simp only [Bool.and_eq_true]at hf ⊢
    exact⟨⟨Gd hf.1.1,hf.1.2⟩,hf.2⟩
   have fC: ∀(b:Nat),∀k,k<p.links.length→bA p s k=true→bA p ⟨s.closed.set b true,s.locked,s.badLink,s.on_,s.badSource,s.earthed,s.badBus⟩ k=true:=fun b k hk hf=>by
    unfold bA at hf ⊢
    simp only [Bool.and_eq_true]at hf ⊢
    exact⟨⟨⟨Gd hf.1.1.1,hf.1.1.2⟩,hf.1.2⟩,hf.2⟩
   by_cases hL:0<p.links.length
   ·obtain⟨b1,hb1,hb2⟩:=JA k p.links.length (by omega)
    rw [decide_eq_true (show(0:Int)<(p.links.length:Int) by omega),cond_true,hb1,Option.bind_some,aH ⟨by omega,by omega⟩,Int.toNat_natCast]
    by_cases hS:0<p.sources.length
    ·obtain⟨b3,hb3,hb4⟩:=JA m p.sources.length (by omega)
     rw [decide_eq_true (show(0:Int)<(p.sources.length:Int) by omega),cond_true,hb3,Option.bind_some,aH ⟨by omega,by omega⟩,Int.toNat_natCast]
     exact fin ⟨s.closed.set b1 true,s.locked,s.badLink,s.on_.set b3 true,s.badSource,s.earthed,s.badBus⟩ ⟨by show(s.closed.set b1 true).length=_;rw [List.length_set];exact hc1,hs.locked,hs.badLink,by show(s.on_.set b3 true).length=_;rw [List.length_set];exact hc4,hs.badSource,hs.earthed,hs.badBus,cabl _ fun i _ q=>Gd q⟩ (fS b3) (fC b1)
    ·rw [decide_eq_false (show ¬ (0:Int)<(p.sources.length:Int) by omega),cond_false]
     exact fin ⟨s.closed.set b1 true,s.locked,s.badLink,s.on_,s.badSource,s.earthed,s.badBus⟩ ⟨by show(s.closed.set b1 true).length=_;rw [List.length_set];exact hc1,hs.locked,hs.badLink,hc4,hs.badSource,hs.earthed,hs.badBus,cabl _ fun i _ q=>Gd q⟩ (fun _ _ q=>q) (fC b1)
   ·rw [decide_eq_false (show ¬ (0:Int)<(p.links.length:Int) by omega),cond_false]
    by_cases hS:0<p.sources.length
    ·obtain⟨b3,hb3,hb4⟩:=JA m p.sources.length (by omega)
     rw [decide_eq_true (show(0:Int)<(p.sources.length:Int) by omega),cond_true,hb3,Option.bind_some,aH ⟨by omega,by omega⟩,Int.toNat_natCast]
     exact fin ⟨s.closed,s.locked,s.badLink,s.on_.set b3 true,s.badSource,s.earthed,s.badBus⟩ ⟨hc1,hs.locked,hs.badLink,by show(s.on_.set b3 true).length=_;rw [List.length_set];exact hc4,hs.badSource,hs.earthed,hs.badBus,hs.cable⟩ (fS b3) (fun _ _ q=>q)
    ·rw [decide_eq_false (show ¬ (0:Int)<(p.sources.length:Int) by omega),cond_false]
     exact fin s hs (fun _ _ q=>q) (fun _ _ q=>q)
  ·rw [decide_eq_false h0];rfl
end Sg
