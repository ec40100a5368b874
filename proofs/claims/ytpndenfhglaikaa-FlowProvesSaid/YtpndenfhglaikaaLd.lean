import Derived.Test.YtpndenfhglaikaaLa
import Derived.Test.YtpndenfhglaikaaLc
import Derived.Test.YtpndenfhglaikaaGm
set_option linter.all false
namespace Sg
open Go
def aT:Nat→(Nat→Int)→Int
 |0,_=>0
 |n+1,f=>aT n f+f n
theorem bS {n:Nat} {f g:Nat→Int} (h: ∀i,i<n→f i=g i):aT n f=aT n g:=by
 induction n with
 |zero=>rfl
 |succ n ih=>rw [aT,aT,ih fun i hi=>h i (by omega),h n (by omega)]
theorem Af (n:Nat) (f g:Nat→Int):aT n (fun i=>f i+g i)=aT n f+aT n g:=by
 induction n with
 |zero=>rfl
 |succ n ih=>simp only [aT];rw [ih];omega
theorem EP (n:Nat) (f g:Nat→Int):aT n (fun i=>f i - g i)=aT n f - aT n g:=by
 induction n with
 |zero=>rfl
 |succ n ih=>simp only [aT];rw [ih];omega
theorem mR (n:Nat):aT n (fun _=>0)=0:=by
 induction n with
 |zero=>rfl
 |succ n ih=>simp only [aT];rw [ih];omega
theorem vQ {n:Nat} {f g:Nat→Int} (h: ∀i,i<n→f i≤g i):aT n f≤aT n g:=by
 induction n with
 |zero=>exact Int.le_refl _
 |succ n ih=>simp only [aT];have:=ih fun i hi=>h i (by omega);have:=h n (by omega);omega
theorem NY {n:Nat} {f:Nat→Int} (h: ∀i,i<n→0≤f i):0≤aT n f:=by
 have:=vQ (f:=fun _=>0) h;rwa [mR]at this
theorem wZ {n:Nat} {f g:Nat→Int} (h: ∀i,i<n→f i≤g i) (e:aT n f=aT n g): ∀i,i<n→f i=g i:=by
 induction n with
 |zero=>intro i hi;omega
 |succ n ih=>
  simp only [aT]at e
  have h1:=vQ (n:=n) (f:=f) (g:=g) fun i hi=>h i (by omega)
  have h2:=h n (by omega)
  intro i hi
  by_cases hin:i=n
  ·subst hin;omega
  ·exact ih (fun i hi=>h i (by omega)) (by omega) i (by omega)
theorem Fe (n m:Nat) (f:Nat→Nat→Int):aT n (fun i=>aT m (f i))=aT m (fun j=>aT n fun i=>f i j):=by
 induction n with
 |zero=>simp only [aT];rw [mR]
 |succ n ih=>simp only [aT];rw [ih,←Af]
theorem Hq {n:Nat} {k:Nat} (f:Nat→Int) (h:k<n):aT n (fun i=>if i=k then f i else 0)=f k:=by
 induction n with
 |zero=>omega
 |succ n ih=>
  simp only [aT]
  by_cases e:k=n
  ·subst e
   rw [if_pos rfl,bS (g:=fun _=>0) (fun i hi=>if_neg (by omega)),mR];omega
  ·rw [ih (by omega),if_neg (fun q=>e q.symm)];omega
theorem H8 (n:Nat) (f:Nat→Int):aT n (fun i=> - f i)= - aT n f:=by
 induction n with
 |zero=>rfl
 |succ n ih=>simp only [aT];rw [ih];omega
theorem wr {x:Int} (h: -9223372036854775808≤x∧x≤9223372036854775807):IntKind.wrap .i64 x=x:=by rw [IntKind.wrap_i64];omega
theorem uE {σ ρ:Type} {body:σ→Option (aM σ ρ)}: ∀{n m:Nat} {s:σ} {r:ρ},aS body n s=some r→n≤m→aS body m s=some r
 |0,_,_,_,h,_=>by cases h
 |n+1,0,_,_,_,hm=>by omega
 |n+1,m+1,s,r,h,hm=>by
  rw [fQ]at h ⊢
  revert h
  cases body s with
  |none=>exact id
  |some f=>
   cases f with
   |next s'=>exact fun h=>uE h (by omega)
   |done r=>exact id
theorem Mk {σ ρ:Type} {body:σ→Option (aM σ ρ)} (S:Nat→σ) (k:Nat) (hs: ∀i,i<k→body (S i)=some (.next (S (i+1)))): ∀(m:Nat),aS body (k+m) (S 0)=aS body m (S k):=by
 induction k with
 |zero=>intro m;simp
 |succ k ih=>
  intro m
  have:=ih (fun i hi=>hs i (by omega)) (m+1)
  rw [show k+1+m=k+(m+1) by omega,this,fQ,hs k (by omega)]
theorem fT {σ ρ:Type} {body:σ→Option (aM σ ρ)} {N:Nat} (S:Nat→σ) (k:Nat) (r:ρ) (hk:k<N) (hs: ∀i,i<k→body (S i)=some (.next (S (i+1)))) (hd:body (S k)=some (.done r)):aS body N (S 0)=some r:=by
 have h:=Mk S k hs 1
 have h1:aS body 1 (S k)=some r:=by rw [fQ,hd]
 exact uE (h.trans h1) (by omega)
theorem fuel_lt {k:Nat} (h:k≤9223372036854775807):k<FUEL:=by unfold FUEL;omega
section
variable {α:Type} [Inhabited α]
theorem iw {l:List α} {i:Nat} (h:i<l.length):at' l i=l[i]:=by simp [at',h]
theorem at_mem {l:List α} {i:Nat} (h:i<l.length):at' l i∈l:=by rw [iw h];exact List.getElem_mem h
theorem oq {l:List α} {x:α} (h:x∈l): ∃i,i<l.length∧at' l i=x:=by
 obtain⟨i,hi,e⟩:=List.mem_iff_getElem.mp h
 exact⟨i,hi,by rw [iw hi];exact e⟩
theorem I7 {l m:List α} (hl:l.length=m.length) (h: ∀i,i<l.length→at' l i=at' m i):l=m:=by
 apply List.ext_getElem hl
 intro i h1 h2
 have:=h i h1
 rwa [iw h1,iw h2]at this
theorem vz {ρ:Type} {body:Int→Option (aM Int (Ex Unit ρ))} (l:List α) (bad:α→Bool) (f:Int→ρ) (hl:l.length≤9223372036854775807)
  (hb: ∀i:Nat,i<l.length→body i=some (bif bad (at' l i)then .done (.ret (f i))else .next ((i:Int)+1))) (he:body l.length=some (.done (.brk ()))):
  aS body FUEL 0=some (match l.findIdx? bad with|some i=> .ret (f i)|none=> .brk ()):=by
 cases h:l.findIdx? bad with
 |none=>
  rw [List.findIdx?_eq_none_iff]at h
  refine fT (fun i=>(i:Int)) l.length _ (fuel_lt (by omega)) (fun i hi=> ?_) he
  rw [hb i hi,h _ (at_mem hi)];simp
 |some k=>
  rw [List.findIdx?_eq_some_iff_getElem]at h
  obtain⟨hk,hp,hn⟩:=h
  refine fT (fun i=>(i:Int)) k _ (fuel_lt (by omega)) (fun i hi=> ?_) ?_
  ·have:=hn i hi
   rw [hb i (by omega),iw (by omega)]
   simp [this]
  ·rw [hb k hk,iw hk,hp];rfl
omit [Inhabited α]in
theorem qX (l:List α) (bad:α→Bool):(decide ((0:Int)≤(match l.findIdx? bad with|some i=>(i:Int)|none=> -1)))=l.any bad:=by
 cases h:l.findIdx? bad with
 |none=>
  rw [List.findIdx?_eq_none_iff]at h
  have:l.any bad=false:=by rw [List.any_eq_false];intro x hx;simp [h x hx]
  rw [this];simp
 |some k=>
  rw [List.findIdx?_eq_some_iff_getElem]at h
  obtain⟨hk,hp,hn⟩:=h
  have:l.any bad=true:=by rw [List.any_eq_true];exact⟨_,List.getElem_mem hk,hp⟩
  rw [this];simp
end
section
variable {α:Type}
theorem WY {a b:Int}:NJ a b=true↔a=b:=by simp [NJ]
theorem Vf {a b:Int} (h:a≠b):NJ a b=false:=by cases e:NJ a b with|false=>rfl|true=>exact absurd (WY.mp e) h
end
theorem U3 {α:Type} (c:Bool) (x y:α):(bif c then some x else some y)=some (bif c then x else y):=by cases c<;>rfl
theorem vU {ρ:Type} {body:Int→Option (aM Int (Ex Unit ρ))} (n:Nat) (bad:Nat→Bool) (f:Int→ρ) (hl:n≤9223372036854775807)
  (hb: ∀i:Nat,i<n→body i=some (bif bad i then .done (.ret (f i))else .next ((i:Int)+1))) (he:body n=some (.done (.brk ()))):
  aS body FUEL 0=some (match(List.range n).find? bad with|some i=> .ret (f i)|none=> .brk ()):=by
 cases h:(List.range n).find? bad with
 |none=>
  rw [List.find?_eq_none]at h
  refine fT (fun i=>(i:Int)) n _ (fuel_lt (by omega)) (fun i hi=> ?_) he
  rw [hb i hi]
  have:=h i (List.mem_range.mpr hi)
  simp at this;simp [this]
 |some k=>
  rw [List.find?_range_eq_some]at h
  obtain⟨hp,hk,hn⟩:=h
  rw [List.mem_range]at hk
  refine fT (fun i=>(i:Int)) k _ (fuel_lt (by omega)) (fun i hi=> ?_) ?_
  ·have:=hn i hi
   rw [hb i (by omega)]
   simp at this;simp [this]
  ·rw [hb k hk,hp];rfl
theorem AV {α:Type} (p:α→Bool): ∀l:List α,(l.find? p).isSome=l.any p
 |[]=>rfl
 |x::l=>by
  rw [List.any_cons,List.find?_cons]
  cases h:p x with
  |true=>simp
  |false=>simpa using AV p l
def wi (n a b:Int):Bool:=decide (a≤n) && decide (n≤b)
theorem Fz {n a b:Int}:wi n a b=true↔a≤n∧n≤b:=by simp [wi]
theorem xV (n a b:Int):aW n a b=some (wi n a b):=by
 unfold aW wi;cases decide (a≤n)<;>rfl
def vZ (b:Int) (x:Source):Bool:=wi x.bus 0 (b - 1) && wi x.kind 1 3 && wi x.power 1 100000 && wi x.sync 0 8 && wi x.iL 10 100000
theorem RJ {b:Int} (hb:1≤b∧b≤24) (x:Source) (l1:List Source) (l2:List Link) (l3:List ay):jM x b l1 l2 l3=some (vZ b x):=by
 unfold jM vZ
 simp only [xV,Option.bind_some]
 rw [wr (by omega)]
 generalize wi x.bus 0 (b - 1)=b1
 generalize wi x.kind 1 3=b2
 generalize wi x.power 1 100000=b3
 generalize wi x.sync 0 8=b4
 generalize wi x.iL 10 100000=b5
 cases b1<;>cases b2<;>cases b3<;>cases b4<;>cases b5<;>rfl
def wT (l:List iQ) (i:Nat):Bool:=
 !wi (at' l i).amps 1 1000000|| !wi (at' l i).millis 1 100000||(decide (0<i) && (decide ((at' l i).amps≤(at' l (i - 1)).amps)||decide ((at' l (i - 1)).millis≤(at' l i).millis)))
def oM (b:Int) (x:Link):Bool:=
 wi x.a 0 (b - 1) && wi x.b 0 (b - 1) && !decide (x.a=x.b) && wi x.kind 1 3 && wi x.most 1 100000 && wi x.iL 10 100000 && !(List.range x.trip.length).any (wT x.trip) && decide ((x.trip.length:Int)≤6) && (decide ((x.trip.length:Int)=0)||decide (x.kind=3))
theorem Xn {α:Type} [Inhabited α] (l:List α) (i:Nat) (h:0<i):at' l (((i:Int) - 1).toNat)=at' l (i - 1):=by
 congr 1;omega
theorem Wj (x:Link) (hx:x.trip.length≤9223372036854775807):aS (jy x) FUEL 0=some (match(List.range x.trip.length).find? (wT x.trip)with|some _=> .ret false|none=> .brk ()):=by
 refine vU x.trip.length (wT x.trip) (fun _=>false) hx (fun i hi=> ?_) ?_
 ·unfold jy
  have h1:decide ((i:Int)<(x.trip.length:Int))=true:=by simp;omega
  rw [h1,cond_true,aA (by omega)]
  simp only [xV,Option.bind_some,Int.toNat_natCast]
  rw [wr (x:=(i:Int) - 1) (by omega),wr (x:=(i:Int)+1) (by omega)]
  unfold wT
  by_cases h0:0<i
  ·rw [Xn _ _ h0]
   simp only [h0,Int.natCast_pos,decide_true]
   generalize wi (at' x.trip i).amps 1 1000000=b1
   generalize wi (at' x.trip i).millis 1 100000=b2
   generalize decide ((at' x.trip i).amps≤(at' x.trip (i - 1)).amps)=b3
   generalize decide ((at' x.trip (i - 1)).millis≤(at' x.trip i).millis)=b4
   cases b1<;>cases b2<;>cases b3<;>cases b4<;>simp [gB,dU]<;>omega
  ·have:i=0:=by omega
   subst this
   generalize wi (at' x.trip 0).amps 1 1000000=b1
   generalize wi (at' x.trip 0).millis 1 100000=b2
   cases b1<;>cases b2<;>simp [gB,dU]
 ·unfold jy
  have h1:decide ((x.trip.length:Int)<(x.trip.length:Int))=false:=by simp
  rw [h1];rfl
theorem XM {b:Int} (hb:1≤b∧b≤24) (x:Link) (hx:x.trip.length≤9223372036854775807) (l1:List Source) (l2:List Link) (l3:List ay):mF x b l1 l2 l3=some (oM b x):=by
 unfold mF oM
 simp only [xV,Option.bind_some]
 rw [wr (by omega),Wj x hx]
 generalize wi x.a 0 (b - 1)=b1
 generalize wi x.b 0 (b - 1)=b2
 generalize decide (x.a=x.b)=b3
 generalize wi x.kind 1 3=b4
 generalize wi x.most 1 100000=b5
 generalize wi x.iL 10 100000=b6
 have:(List.range x.trip.length).any (wT x.trip)=((List.range x.trip.length).find? (wT x.trip)).isSome:=(AV _ _).symm
 rw [this]
 cases b1<;>cases b2<;>cases b3<;>cases b4<;>cases b5<;>cases b6<;>try rfl
 cases(List.range x.trip.length).find? (wT x.trip)with
 |some k=>simp [gB]
 |none=>
  simp only [gB,Option.bind_some,Option.isSome_none]
  generalize decide ((x.trip.length:Int)≤6)=c1
  generalize decide ((x.trip.length:Int)=0)=c2
  generalize decide (x.kind=3)=c3
  cases c1<;>cases c2<;>cases c3<;>rfl
def Bh (x:ay):Int:=if x.feeds.e1= -1 then 1 else 2
def pG (b:Int) (x:ay):Bool:=wi x.feeds.e0 0 (b - 1) && wi x.feeds.e1 (-1) (b - 1) && !decide (x.feeds.e0=x.feeds.e1) && wi x.power 1 100000 && wi x.paths 0 (Bh x)
theorem Ue (x:ay):nL x=some (Bh x):=by
 unfold nL Bh
 by_cases h:x.feeds.e1= -1<;>simp [h]
theorem W9 {b:Int} (hb:1≤b∧b≤24) (x:ay) (l1:List Source) (l2:List Link) (l3:List ay):lW x b l1 l2 l3=some (pG b x):=by
 unfold lW pG
 simp only [xV,Option.bind_some,Ue]
 rw [wr (by omega)]
 generalize wi x.feeds.e0 0 (b - 1)=b1
 generalize wi x.feeds.e1 (-1) (b - 1)=b2
 generalize decide (x.feeds.e0=x.feeds.e1)=b3
 generalize hb4:wi x.power 1 100000=b4
 cases b1<;>cases b2<;>cases b3<;>cases b4<;>simp [gB]<;>rfl
theorem rf {α ρ:Type} [Inhabited α] {l:List α} {i:Nat} (hi:i<l.length) (hl:l.length≤9223372036854775807) (b:Bool) (f:Int→ρ) (G:Option (aM Int (Ex Unit ρ))):
  (bif (decide ((i:Int)<(l.length:Int)))then((some b).bind fun r_=>dU ((0:Int)≤(i:Int)∧(i:Int)<(l.length:Int)) (bif r_ then some (.done (.ret (f (i:Int))))else some (.next (IntKind.wrap .i64 ((i:Int)+1)))))else G)=some (bif b then .done (.ret (f i))else .next ((i:Int)+1)):=by
 have h1:decide ((i:Int)<(l.length:Int))=true:=by simp;omega
 rw [h1,cond_true,Option.bind_some,aA (by omega),wr (by omega)]
 cases b<;>rfl
theorem U4 {b:Int} (hb:1≤b∧b≤24) (l:List Source) (hl:l.length≤9223372036854775807) (m:Int) (l1:List Source) (l2:List Link) (l3:List ay):
  o9 l m b l1 l2 l3=some (decide ((l.length:Int)≤m) && l.all (vZ b)):=by
 have hs:gD l b l1 l2 l3=some (l.any fun x=> !vZ b x):=by
  unfold gD ko
  rw [vz l (fun x=> !vZ b x) id hl (fun i hi=> ?_) ?_]
  ·rw [←qX];cases l.findIdx? fun x=> !vZ b x<;>rfl
  ·unfold jf;simp
  ·unfold jf pM
   rw [Int.toNat_natCast,RJ hb,Option.bind_some]
   exact rf hi hl _ id _
 unfold o9
 rw [hs]
 have:(!l.any fun x=> !vZ b x)=l.all (vZ b):=by rw [List.not_any_eq_all_not];simp
 rw [←this]
 cases decide ((l.length:Int)≤m)<;>simp [gB]
theorem SA {b:Int} (hb:1≤b∧b≤24) (l:List Link) (hl:l.length≤9223372036854775807) (ht: ∀x∈l,x.trip.length≤9223372036854775807) (m:Int) (l1:List Source) (l2:List Link) (l3:List ay):
  mq l m b l1 l2 l3=some (decide ((l.length:Int)≤m) && l.all (oM b)):=by
 have hs:eX l b l1 l2 l3=some (l.any fun x=> !oM b x):=by
  unfold eX jd
  rw [vz l (fun x=> !oM b x) id hl (fun i hi=> ?_) ?_]
  ·rw [←qX];cases l.findIdx? fun x=> !oM b x<;>rfl
  ·unfold gT;simp
  ·unfold gT lG
   rw [Int.toNat_natCast,XM hb _ (ht _ (at_mem hi)),Option.bind_some]
   exact rf hi hl _ id _
 unfold mq
 rw [hs]
 have:(!l.any fun x=> !oM b x)=l.all (oM b):=by rw [List.not_any_eq_all_not];simp
 rw [←this]
 cases decide ((l.length:Int)≤m)<;>simp [gB]
theorem R9 {b:Int} (hb:1≤b∧b≤24) (l:List ay) (hl:l.length≤9223372036854775807) (m:Int) (l1:List Source) (l2:List Link) (l3:List ay):
  mh l m b l1 l2 l3=some (decide ((l.length:Int)≤m) && l.all (pG b)):=by
 have hs:eY l b l1 l2 l3=some (l.any fun x=> !pG b x):=by
  unfold eY je
  rw [vz l (fun x=> !pG b x) id hl (fun i hi=> ?_) ?_]
  ·rw [←qX];cases l.findIdx? fun x=> !pG b x<;>rfl
  ·unfold gN;simp
  ·unfold gN kT
   rw [Int.toNat_natCast,W9 hb,Option.bind_some]
   exact rf hi hl _ id _
 unfold mh
 rw [hs]
 have:(!l.any fun x=> !pG b x)=l.all (pG b):=by rw [List.not_any_eq_all_not];simp
 rw [←this]
 cases decide ((l.length:Int)≤m)<;>simp [gB]
structure Small (p:ah):Prop where
 src:p.sources.length≤9223372036854775807
 lnk:p.links.length≤9223372036854775807
 rck:p.racks.length≤9223372036854775807
 trp: ∀x∈p.links,x.trip.length≤9223372036854775807
def yO (p:ah):Int:=
 if wi p.buses 1 24=false then 10 else if(decide ((p.sources.length:Int)≤8) && p.sources.all (vZ p.buses))=false then 11
 else if(decide ((p.links.length:Int)≤40) && p.links.all (oM p.buses))=false then 12 else if(decide ((p.racks.length:Int)≤24) && p.racks.all (pG p.buses))=false then 13 else 0
theorem UD (p:ah) (hp:Small p):kM p=some (yO p):=by
 unfold kM yO
 simp only [xV,Option.bind_some,oK,sQ,tN]
 cases h0:wi p.buses 1 24 with
 |false=>simp
 |true=>
  have hb:=Fz.mp h0
  rw [U4 hb _ hp.src,SA hb _ hp.lnk hp.trp,R9 hb _ hp.rck]
  simp only [Option.bind_some,Bool.not_true,cond_false]
  generalize (decide ((p.sources.length:Int)≤8) && p.sources.all (vZ p.buses))=b1
  generalize (decide ((p.links.length:Int)≤40) && p.links.all (oM p.buses))=b2
  generalize (decide ((p.racks.length:Int)≤24) && p.racks.all (pG p.buses))=b3
  cases b1<;>cases b2<;>cases b3<;>simp
def rH (p:ah) (s:State):Bool:=
 decide (s.closed.length=p.links.length) && decide (s.locked.length=p.links.length) && decide (s.badLink.length=p.links.length) && decide (s.on_.length=p.sources.length) && decide (s.badSource.length=p.sources.length) &&
 decide ((s.earthed.length:Int)=p.buses) && decide ((s.badBus.length:Int)=p.buses)
def l8 (p:ah) (s:State) (i:Nat):Bool:=decide ((at' p.links i).kind=1) && (!at' s.closed i||at' s.locked i)
def uV (p:ah) (s:State):Int:=if yO p≠0 then yO p else if rH p s && !(List.range p.links.length).any (l8 p s)then 0 else 9
theorem qP (p:ah) (s:State) (hp:Small p):dm p s=some (uV p s):=by
 unfold dm uV
 rw [UD p hp,Option.bind_some]
 by_cases hc:yO p=0
 ·rw [hc]
  simp only [decide_true,Bool.not_true,cond_false,ne_eq,not_true_eq_false,if_false]
  have h0:aS (gu p s) FUEL 0=some (bif rH p s then .brk ()else .ret 9):=by
   have key:=vU (body:=gu p s) 7 (fun i=> !decide (((at' [(⟨s.closed,(p.links.length:Int)⟩:dD),(⟨s.locked,(p.links.length:Int)⟩:dD),(⟨s.badLink,(p.links.length:Int)⟩:dD),(⟨s.on_,(p.sources.length:Int)⟩:dD),(⟨s.badSource,(p.sources.length:Int)⟩:dD),(⟨s.earthed,p.buses⟩:dD),(⟨s.badBus,p.buses⟩:dD)] i).l.length:Int)=(at' [(⟨s.closed,(p.links.length:Int)⟩:dD),(⟨s.locked,(p.links.length:Int)⟩:dD),(⟨s.badLink,(p.links.length:Int)⟩:dD),(⟨s.on_,(p.sources.length:Int)⟩:dD),(⟨s.badSource,(p.sources.length:Int)⟩:dD),(⟨s.earthed,p.buses⟩:dD),(⟨s.badBus,p.buses⟩:dD)] i).n)) (fun _=>(9:Int)) (by omega) (fun i hi=> ?_) ?_
   ·rw [key]
    have e:((List.range 7).find? fun i=> !decide (((at' [(⟨s.closed,(p.links.length:Int)⟩:dD),(⟨s.locked,(p.links.length:Int)⟩:dD),(⟨s.badLink,(p.links.length:Int)⟩:dD),(⟨s.on_,(p.sources.length:Int)⟩:dD),(⟨s.badSource,(p.sources.length:Int)⟩:dD),(⟨s.earthed,p.buses⟩:dD),(⟨s.badBus,p.buses⟩:dD)] i).l.length:Int)=(at' [(⟨s.closed,(p.links.length:Int)⟩:dD),(⟨s.locked,(p.links.length:Int)⟩:dD),(⟨s.badLink,(p.links.length:Int)⟩:dD),(⟨s.on_,(p.sources.length:Int)⟩:dD),(⟨s.badSource,(p.sources.length:Int)⟩:dD),(⟨s.earthed,p.buses⟩:dD),(⟨s.badBus,p.buses⟩:dD)] i).n)).isSome= !rH p s:=by
     rw [show List.range 7=[0,1,2,3,4,5,6]from rfl,AV]
     simp only [List.any_cons,List.any_nil,at',List.getD_cons_zero,List.getD_cons_succ,rH,Int.natCast_inj]
     simp [Bool.or_assoc]
    revert e
    cases hf:(List.range 7).find? _ with
    |none=>
     intro e
     have:rH p s=true:=by simpa using e.symm
     rw [this];rfl
    |some k=>
     intro e
     have:rH p s=false:=by simpa using e.symm
     rw [this];rfl
   ·have h1:decide ((i:Int)<7)=true:=by simp;omega
    unfold gu
    rw [show([(⟨s.closed,(p.links.length:Int)⟩:dD),(⟨s.locked,(p.links.length:Int)⟩:dD),(⟨s.badLink,(p.links.length:Int)⟩:dD),(⟨s.on_,(p.sources.length:Int)⟩:dD),(⟨s.badSource,(p.sources.length:Int)⟩:dD),(⟨s.earthed,p.buses⟩:dD),(⟨s.badBus,p.buses⟩:dD)].length:Int)=7 from rfl,h1,cond_true,aA (by omega),Int.toNat_natCast,wr (by omega)]
    exact U3 _ _ _
   ·rfl
  rw [h0,Option.bind_some]
  cases hL:rH p s with
  |false=>rfl
  |true=>
   simp only [cond_true,Bool.true_and]
   simp only [rH,Bool.and_eq_true,decide_eq_true_eq]at hL
   have h1:aS (gI p s) FUEL 0=some (match(List.range p.links.length).find? (l8 p s)with|some _=> .ret 9|none=> .brk ()):=by
    refine vU p.links.length (l8 p s) (fun _=>9) hp.lnk (fun i hi=> ?_) ?_
    ·unfold gI l8
     have h1:decide ((i:Int)<(p.links.length:Int))=true:=by simp;omega
     have:=hp.lnk
     rw [h1,cond_true,aA (by omega),Int.toNat_natCast,wr (by omega),aA ⟨fun _=>by omega,fun _=>by omega⟩]
     generalize decide ((at' p.links i).kind=1)=b1
     generalize at' s.closed i=b2
     generalize at' s.locked i=b3
     cases b1<;>cases b2<;>cases b3<;>rfl
    ·unfold gI;simp
   rw [h1,Option.bind_some]
   have:(List.range p.links.length).any (l8 p s)=((List.range p.links.length).find? (l8 p s)).isSome:=(AV _ _).symm
   rw [this]
   cases(List.range p.links.length).find? (l8 p s)<;>rfl
 ·have:decide (yO p=0)=false:=by simp [hc]
  rw [this]
  simp [hc]
structure VL (b:Int) (x:Link):Prop where
 a:0≤x.a∧x.a<b
 b:0≤x.b∧x.b<b
 ab:x.a≠x.b
 kind:1≤x.kind∧x.kind≤3
 most:1≤x.most∧x.most≤100000
 iL:10≤x.iL∧x.iL≤100000
 tl:x.trip.length≤6
 trip: ∀i,i<x.trip.length→wT x.trip i=false
 trk:x.trip=[]∨x.kind=3
structure afe (b:Int) (x:Source):Prop where
 bus:0≤x.bus∧x.bus<b
 kind:1≤x.kind∧x.kind≤3
 power:1≤x.power∧x.power≤100000
 sync:0≤x.sync∧x.sync≤8
 iL:10≤x.iL∧x.iL≤100000
structure VR (b:Int) (x:ay):Prop where
 e0:0≤x.feeds.e0∧x.feeds.e0<b
 e1: -1≤x.feeds.e1∧x.feeds.e1<b
 ne:x.feeds.e0≠x.feeds.e1
 power:1≤x.power∧x.power≤100000
 paths:0≤x.paths∧x.paths≤Bh x
structure VP (p:ah):Prop where
 b:1≤p.buses∧p.buses≤24
 sl:p.sources.length≤8
 src: ∀i,i<p.sources.length→afe p.buses (at' p.sources i)
 ll:p.links.length≤40
 lnk: ∀i,i<p.links.length→VL p.buses (at' p.links i)
 rl:p.racks.length≤24
 rck: ∀i,i<p.racks.length→VR p.buses (at' p.racks i)
structure VS (p:ah) (s:State):Prop where
 closed:s.closed.length=p.links.length
 locked:s.locked.length=p.links.length
 badLink:s.badLink.length=p.links.length
 on:s.on_.length=p.sources.length
 badSource:s.badSource.length=p.sources.length
 earthed:(s.earthed.length:Int)=p.buses
 badBus:(s.badBus.length:Int)=p.buses
 cable: ∀i,i<p.links.length→(at' p.links i).kind=1→at' s.closed i=true∧at' s.locked i=false
theorem Kw {b:Int} {x:Source}:vZ b x=true↔afe b x:=by
 simp only [vZ,Bool.and_eq_true,Fz]
 exact⟨fun⟨⟨⟨⟨h1,h2⟩,h3⟩,h4⟩,h5⟩=> ⟨by omega,h2,h3,h4,h5⟩,fun h=> ⟨⟨⟨⟨by have:=h.bus;omega,h.kind⟩,h.power⟩,h.sync⟩,h.iL⟩⟩
theorem Jq {b:Int} {x:ay}:pG b x=true↔VR b x:=by
 simp only [pG,Bool.and_eq_true,Fz,Bool.not_eq_true',decide_eq_false_iff_not]
 exact⟨fun⟨⟨⟨⟨h1,h2⟩,h3⟩,h4⟩,h5⟩=> ⟨by omega,by omega,h3,h4,h5⟩,fun h=> ⟨⟨⟨⟨by have:=h.e0;omega,by have:=h.e1;omega⟩,h.ne⟩,h.power⟩,h.paths⟩⟩
theorem Jl {b:Int} {x:Link}:oM b x=true↔VL b x:=by
 simp only [oM,Bool.and_eq_true,Fz,Bool.not_eq_true',decide_eq_false_iff_not,Bool.or_eq_true,decide_eq_true_eq,List.any_eq_false,List.mem_range,Bool.not_eq_true]
 constructor
 ·rintro ⟨⟨⟨⟨⟨⟨⟨⟨h1,h2⟩,h3⟩,h4⟩,h5⟩,h6⟩,h7⟩,h8⟩,h9⟩
  exact⟨by omega,by omega,h3,h4,h5,h6,by omega,h7,h9.imp (fun h=>List.eq_nil_of_length_eq_zero (by omega)) id⟩
 ·intro h
  refine⟨⟨⟨⟨⟨⟨⟨⟨by have:=h.a;omega,by have:=h.b;omega⟩,h.ab⟩,h.kind⟩,h.most⟩,h.iL⟩,h.trip⟩,by have:=h.tl;omega⟩,h.trk.imp (fun e=>by simp [e]) id⟩
theorem Gi {p:ah}:yO p=0↔VP p:=by
 unfold yO
 constructor
 ·intro h
  cases h0:wi p.buses 1 24 with
  |false=>rw [h0]at h;simp at h
  |true=>
   rw [h0]at h
   cases h1:(decide ((p.sources.length:Int)≤8) && p.sources.all (vZ p.buses))with
   |false=>rw [h1]at h;simp at h
   |true=>
    rw [h1]at h
    cases h2:(decide ((p.links.length:Int)≤40) && p.links.all (oM p.buses))with
    |false=>rw [h2]at h;simp at h
    |true=>
     rw [h2]at h
     cases h3:(decide ((p.racks.length:Int)≤24) && p.racks.all (pG p.buses))with
     |false=>rw [h3]at h;simp at h
     |true=>
      simp only [Bool.and_eq_true,decide_eq_true_eq,List.all_eq_true]at h1 h2 h3
      exact⟨Fz.mp h0,by omega,fun i hi=>Kw.mp (h1.2 _ (at_mem hi)),by omega,fun i hi=>Jl.mp (h2.2 _ (at_mem hi)),by omega,fun i hi=>Jq.mp (h3.2 _ (at_mem hi))⟩
 ·intro h
  have h0:wi p.buses 1 24=true:=Fz.mpr h.b
  have h1:(decide ((p.sources.length:Int)≤8) && p.sources.all (vZ p.buses))=true:=by
   simp only [Bool.and_eq_true,decide_eq_true_eq,List.all_eq_true]
   exact⟨by have:=h.sl;omega,fun x hx=>by obtain⟨i,hi,rfl⟩:=oq hx;exact Kw.mpr (h.src i hi)⟩
  have h2:(decide ((p.links.length:Int)≤40) && p.links.all (oM p.buses))=true:=by
   simp only [Bool.and_eq_true,decide_eq_true_eq,List.all_eq_true]
   exact⟨by have:=h.ll;omega,fun x hx=>by obtain⟨i,hi,rfl⟩:=oq hx;exact Jl.mpr (h.lnk i hi)⟩
  have h3:(decide ((p.racks.length:Int)≤24) && p.racks.all (pG p.buses))=true:=by
   simp only [Bool.and_eq_true,decide_eq_true_eq,List.all_eq_true]
   exact⟨by have:=h.rl;omega,fun x hx=>by obtain⟨i,hi,rfl⟩:=oq hx;exact Jq.mpr (h.rck i hi)⟩
  rw [h0,h1,h2,h3];rfl
theorem VP.small {p:ah} (h:VP p):Small p:=by
 refine⟨by have:=h.sl;omega,by have:=h.ll;omega,by have:=h.rl;omega,fun x hx=> ?_⟩
 obtain⟨i,hi,rfl⟩:=oq hx
 have:=(h.lnk i hi).tl;omega
theorem om {p:ah} {s:State}:uV p s=0↔VP p∧VS p s:=by
 unfold uV
 by_cases hc:yO p=0
 ·rw [if_neg (by simp [hc])]
  have hv:=Gi.mp hc
  constructor
  ·intro h
   cases h1:(rH p s && !(List.range p.links.length).any (l8 p s))with
   |false=>rw [h1]at h;simp at h
   |true=>
    simp only [rH,Bool.and_eq_true,decide_eq_true_eq,Bool.not_eq_true',List.any_eq_false,List.mem_range,l8,Bool.or_eq_true,not_and,not_or,Bool.not_eq_true]at h1
    obtain⟨⟨⟨⟨⟨⟨⟨h1,h2⟩,h3⟩,h4⟩,h5⟩,h6⟩,h7⟩,h8⟩:=h1
    exact⟨hv,h1,h2,h3,h4,h5,h6,h7,fun i hi hk=>by have:=h8 i hi hk;simpa using this⟩
  ·rintro ⟨_,h⟩
   have:(rH p s && !(List.range p.links.length).any (l8 p s))=true:=by
    simp only [rH,Bool.and_eq_true,decide_eq_true_eq,Bool.not_eq_true',List.any_eq_false,List.mem_range,l8,Bool.or_eq_true,not_and,not_or,Bool.not_eq_true]
    exact⟨⟨⟨⟨⟨⟨⟨h.closed,h.locked⟩,h.badLink⟩,h.on⟩,h.badSource⟩,h.earthed⟩,h.badBus⟩,fun i hi hk=>by have:=h.cable i hi hk;simpa using this⟩
   rw [this];rfl
 ·rw [if_pos hc]
  exact⟨fun h=>absurd h hc,fun h=>absurd (Gi.mpr h.1) hc⟩
def bG (p:ah) (s:State) (i:Nat):Bool:=at' s.closed i && !at' s.badLink i && !at' s.badBus (at' p.links i).a.toNat && !at' s.badBus (at' p.links i).b.toNat
def bH (p:ah) (s:State) (k:Nat):Bool:=at' s.on_ k && !at' s.badSource k && !at' s.badBus (at' p.sources k).bus.toNat
theorem Ao {p:ah} {s:State} (hp:VP p) (hs:VS p s) {i:Nat} (hi:i<p.links.length):dz p s i=some (bG p s i):=by
 have hl:=hp.lnk i hi
 have ha:=hl.a;have hb:=hl.b;have h1:=hs.closed;have h2:=hs.badLink;have h3:=hs.badBus
 unfold dz bG
 simp only [Int.toNat_natCast]
 rw [aA (by omega),aA ⟨by omega,fun _=>by omega,fun _=>by omega,fun _=>by omega⟩]
 cases at' s.closed i<;>cases at' s.badLink i<;>cases at' s.badBus (at' p.links i).a.toNat<;>cases at' s.badBus (at' p.links i).b.toNat<;>rfl
theorem zw {p:ah} {s:State} (hp:VP p) (hs:VS p s) {k:Nat} (hk:k<p.sources.length):gU p s k=some (bH p s k):=by
 have hl:=(hp.src k hk).bus;have h1:=hs.on;have h2:=hs.badSource;have h3:=hs.badBus
 unfold gU bH
 simp only [Int.toNat_natCast]
 rw [aA ⟨by omega,fun _=>by omega,fun _=>by omega,fun _=>by omega⟩]
 cases at' s.on_ k<;>cases at' s.badSource k<;>cases at' s.badBus (at' p.sources k).bus.toNat<;>rfl
def lexB:List Int→List Int→Bool
 |[],[]=>false
 |[],_::_=>true
 |_::_,[]=>false
 |a::x,b::y=>decide (a<b)||(decide (a=b) && lexB x y)
theorem Gb: ∀x,lexB x x=false
 |[]=>rfl
 |a::x=>by simp [lexB,Gb x]
theorem Hw: ∀{x y z},lexB x y=true→lexB y z=true→lexB x z=true
 |[],[],_,h,_=>by cases h
 |[],_::_,[],_,h=>by cases h
 |[],_::_,_::_,_,_=>rfl
 |_::_,[],_,h,_=>by cases h
 |_::_,_::_,[],_,h=>by cases h
 |a::x,b::y,c::z,h,h'=>by
  simp only [lexB,Bool.or_eq_true,Bool.and_eq_true,decide_eq_true_eq]at h h' ⊢
  rcases h with h|⟨h,g⟩
  ·left;rcases h' with h'|⟨h',_⟩<;>omega
  ·rcases h' with h'|⟨h',g'⟩
   ·left;omega
   ·right;exact⟨by omega,Hw g g'⟩
theorem Ic: ∀{x y},x≠y→lexB x y=true∨lexB y x=true
 |[],[],h=>absurd rfl h
 |[],_::_,_=> .inl rfl
 |_::_,[],_=> .inr rfl
 |a::x,b::y,h=>by
  simp only [lexB,Bool.or_eq_true,Bool.and_eq_true,decide_eq_true_eq]
  by_cases e:a=b
  ·subst e
   rcases Ic (x:=x) (y:=y) (fun e=>h (by rw [e]))with g|g
   ·left;right;exact⟨rfl,g⟩
   ·right;right;exact⟨rfl,g⟩
  ·rcases Int.lt_or_lt_of_ne e with g|g
   ·left;left;exact g
   ·right;left;exact g
abbrev Key:=Int × List Int
def D6 (a b:Key):Bool:=decide (a.1<b.1)||(decide (a.1=b.1) && (decide (a.2.length<b.2.length)||(decide (a.2.length=b.2.length) && lexB a.2 b.2)))
def VT (a b:Key):Prop:=D6 b a=false
theorem Jo {a b:Key}:D6 a b=true↔a.1<b.1∨(a.1=b.1∧(a.2.length<b.2.length∨(a.2.length=b.2.length∧lexB a.2 b.2=true))):=by
 simp only [D6,Bool.or_eq_true,Bool.and_eq_true,decide_eq_true_eq]
theorem F6 (a:Key):D6 a a=false:=by simp [D6,Gb]
theorem I8 {a b c:Key} (h:D6 a b=true) (h':D6 b c=true):D6 a c=true:=by
 rw [Jo]at*
 rcases h with h|⟨h,g⟩
 ·left;rcases h' with h'|⟨h',_⟩<;>omega
 ·rcases h' with h'|⟨h',g'⟩
  ·left;omega
  ·right
   refine⟨by omega, ?_⟩
   rcases g with g|⟨g,f⟩
   ·left;rcases g' with g'|⟨g',_⟩<;>omega
   ·rcases g' with g'|⟨g',f'⟩
    ·left;omega
    ·right;exact⟨by omega,Hw f f'⟩
theorem Js {a b:Key} (h:a≠b):D6 a b=true∨D6 b a=true:=by
 rw [Jo,Jo]
 by_cases e:a.1=b.1
 ·by_cases e2:a.2.length=b.2.length
  ·have:a.2≠b.2:=fun e3=>h (Prod.ext e e3)
   rcases Ic this with g|g
   ·left;right;exact⟨e, .inr ⟨e2,g⟩⟩
   ·right;right;exact⟨e.symm, .inr ⟨e2.symm,g⟩⟩
  ·rcases Nat.lt_or_gt_of_ne e2 with g|g
   ·left;right;exact⟨e, .inl g⟩
   ·right;right;exact⟨e.symm, .inl g⟩
 ·rcases Int.lt_or_lt_of_ne e with g|g
  ·left;left;exact g
  ·right;left;exact g
theorem UY (a:Key):VT a a:=F6 a
theorem RB {a b:Key} (h:D6 a b=true):VT a b:=by
 unfold VT
 cases e:D6 b a with
 |false=>rfl
 |true=>have:=I8 h e;rw [F6]at this;exact this.symm
theorem Kh {a b c:Key} (h:VT a b) (h':VT b c):VT a c:=by
 by_cases e1:a=b
 ·rw [e1];exact h'
 ·by_cases e2:b=c
  ·rw [←e2];exact h
  ·have g1:D6 a b=true:=(Js e1).resolve_right (by unfold VT at h;simp [h])
   have g2:D6 b c=true:=(Js e2).resolve_right (by unfold VT at h';simp [h'])
   exact RB (I8 g1 g2)
inductive Wk (p:ah) (s:State) (b:Nat):List Int→Nat→Prop where
 |nil:Wk p s b [] b
 |snoc {l:List Int} {v w i:Nat}:Wk p s b l v→i<p.links.length→bG p s i=true→
   ((at' p.links i).a.toNat=v∧(at' p.links i).b.toNat=w∨(at' p.links i).b.toNat=v∧(at' p.links i).a.toNat=w)→Wk p s b (l++[(i:Int)]) w
def Oz (p:ah) (l:List Int):Int:=(l.map fun i=>(at' p.links i.toNat).iL).sum
theorem QI (p:ah) (l:List Int) (i:Nat):Oz p (l++[(i:Int)])=Oz p l+(at' p.links i).iL:=by simp [Oz]
theorem Wk.len {p:ah} {s:State} {b:Nat} (hp:VP p): ∀{l v},Wk p s b l v→10*(l.length:Int)≤Oz p l:=by
 intro l v h
 induction h with
 |nil=>simp [Oz]
 |snoc h hi _ _ ih=>
  rename_i i
  rw [QI];have:=(hp.lnk _ hi).iL;simp;omega
def acH (out:List Way):Nat:=out.countP (·.there)
theorem V8 (out:List Way):acH out≤out.length:=List.countP_le_length
def aap (w:Way):Key:=(w.iL,w.links)
structure aff (p:ah) (s:State) (b:Nat) (out:List Way):Prop where
 len:(out.length:Int)=p.buses
 wk: ∀v,v<out.length→(at' out v).there=true→Wk p s b (at' out v).links v∧(at' out v).iL=Oz p (at' out v).links∧(at' out v).iL≤100000*(acH out:Int)
theorem aff.iL {p:ah} {s:State} {b:Nat} {out:List Way} (hp:VP p) (h:aff p s b out) {v:Nat} (hv:v<out.length) (ht:(at' out v).there=true):0≤(at' out v).iL∧(at' out v).iL≤2400000∧(at' out v).links.length≤240000:=by
 obtain⟨h1,h2,h3⟩:=h.wk v hv ht
 have:=h1.len hp
 have:=V8 out
 have:=h.len
 have:=hp.b
 omega
def WLe (out' out:List Way):Prop:=out'.length=out.length∧ ∀v,v<out.length→(at' out v).there=true→(at' out' v).there=true∧VT (aap (at' out' v)) (aap (at' out v))
theorem WLe.refl (out:List Way):WLe out out:=⟨rfl,fun _ _ h=> ⟨h,UY _⟩⟩
theorem WLe.trans {a b c:List Way} (h:WLe a b) (h':WLe b c):WLe a c:=
 ⟨h.1.trans h'.1,fun v hv ht=>by
  obtain⟨t1,k1⟩:=h'.2 v hv ht
  obtain⟨t2,k2⟩:=h.2 v (by have:=h'.1;omega) t1
  exact⟨t2,Kh k2 k1⟩⟩
section
variable {p:ah} {s:State} {b:Nat} {out:List Way} {i u w:Nat}
end
def WR (p:ah) (s:State) (b k:Nat) (out:List Way):Prop:= ∀l v,Wk p s b l v→l.length≤k→(at' out v).there=true∧VT (aap (at' out v)) (Oz p l,l)
theorem Wk.lt {p:ah} {s:State} {b:Nat} (hp:VP p) (hb:(b:Int)<p.buses): ∀{l v},Wk p s b l v→(v:Int)<p.buses:=by
 intro l v h
 cases h with
 |nil=>exact hb
 |snoc h hi hc he=>
  have h1:=(hp.lnk _ hi).a;have h2:=(hp.lnk _ hi).b
  rcases he with⟨_,he⟩|⟨_,he⟩<;>omega
theorem WR.le {p:ah} {s:State} {b k:Nat} {out out':List Way} (hp:VP p) (hb:(b:Int)<p.buses) (hl:(out.length:Int)=p.buses) (h:WR p s b k out) (hle:WLe out' out):WR p s b k out':=by
 intro l v hw hk
 obtain⟨t,g⟩:=h l v hw hk
 obtain⟨t',g'⟩:=hle.2 v (by have:=hw.lt hp hb;omega) t
 exact⟨t',Kh g' g⟩
section
variable {p:ah} {s:State} {b:Nat} {out:List Way}
end
section
variable {p:ah} {s:State} {b:Nat} {out:List Way}
end
section
variable {p:ah} {s:State} {b:Nat} {out:List Way}
end
def tab {α:Type} (n:Nat) (f:Nat→α):List α:=(List.range n).map f
section
variable {α:Type} [Inhabited α]
theorem dh (n:Nat) (f:Nat→α):(tab n f).length=n:=by simp [tab]
theorem oL {n:Nat} {f:Nat→α} {i:Nat} (h:i<n):at' (tab n f) i=f i:=by
 rw [iw (by rw [dh];exact h)];simp [tab]
theorem jq {n:Nat} {f g:Nat→α} (h: ∀i,i<n→f i=g i):tab n f=tab n g:=by
 unfold tab;exact List.map_congr_left fun i hi=>h i (List.mem_range.mp hi)
theorem Br {n:Nat} {f:Nat→α} {t:Nat} {v:α}:(tab n f).set t v=tab n (fun k=>if k=t then v else f k):=by
 apply I7 (by simp [dh])
 intro i hi
 simp only [List.length_set,dh]at hi
 rw [oL hi]
 by_cases e:t=i
 ·subst e;rw [fM (by rw [dh];exact hi),if_pos rfl]
 ·rw [d9 e,oL hi,if_neg (Ne.symm e)]
theorem Qr (n:Nat) (x:α):List.replicate n x=tab n (fun _=>x):=I7 (by simp [dh]) fun i hi=>by
 rw [List.length_replicate]at hi;rw [eZ hi,oL hi]
end
theorem Wk.mem {p:ah} {s:State} {b:Nat}: ∀{l v},Wk p s b l v→ ∀i∈l,0≤i∧i<(p.links.length:Int):=by
 intro l v h
 induction h with
 |nil=>simp
 |snoc h hi _ _ ih=>
  intro j hj
  rcases List.mem_append.mp hj with hj|hj
  ·exact ih j hj
  ·simp at hj;subst hj;omega
section
variable {p:ah} {s:State} (hp:VP p) (hs:VS p s)
include hp hs
end
theorem qR {n:Nat} {f:Nat→Int} (h: ∀i,i<n→ -1000000≤f i∧f i≤1000000): -((n:Int)*1000000)≤aT n f∧aT n f≤(n:Int)*1000000:=by
 induction n with
 |zero=>simp [aT]
 |succ n ih=>
  have:=ih fun i hi=>h i (by omega)
  have:=h n (by omega)
  simp only [aT]
  omega
theorem KP {ρ:Type} {body:Int × Int→Option (aM (Int × Int) (Ex Int ρ))} (n:Nat) (f:Nat→Int) (a:Int) (hn:n≤1000) (hf: ∀i,i<n→ -1000000≤f i∧f i≤1000000) (ha: -1000000000000≤a∧a≤1000000000000)
  (hb: ∀(i:Nat) (x:Int),i<n→ -10000000000000≤x∧x≤10000000000000→body (x,(i:Int))=some (.next (x+f i,((i+1:Nat):Int))))
  (he: ∀x:Int,body (x,(n:Int))=some (.done (.brk x))):aS body FUEL (a,0)=some (.brk (a+aT n f)):=by
 have key:aS body FUEL (a+aT 0 f,((0:Nat):Int))=some (.brk (a+aT n f)):=by
  refine fT (fun i=>(a+aT i f,(i:Int))) n _ (fuel_lt (by omega)) (fun i hi=> ?_) (he _)
  have:=qR (n:=i) (f:=f) fun j hj=>hf j (by omega)
  rw [hb i _ hi (by omega),aT,←Int.add_assoc]
 simpa [aT]using key
theorem wr' {x:Int} (h: -20000000000000≤x∧x≤20000000000000):IntKind.wrap .i64 x=x:=wr (by omega)
theorem FT {a b:Int} (h:a<b):decide (a<b)=true:=decide_eq_true h
theorem NM {a b:Int} (h:b≤a):decide (a<b)=false:=decide_eq_false (by omega)
theorem gB1 {a:Bool} (h:gB [(a,true)]=true):a=true:=by cases a;exact h;rfl
theorem Cr (i:Nat):((i+1:Nat):Int)=(i:Int)+1:=by simp
def Ov (p:ah) (s:State) (C:Nat→Bool) (k:Nat):Int:=if(bH p s k && !C (at' p.sources k).bus.toNat)=true then(at' p.sources k).power else 0
def Ow (p:ah) (s:State) (C:Nat→Bool) (i:Nat):Int:=if(bG p s i && !(C (at' p.links i).a.toNat==C (at' p.links i).b.toNat))=true then(at' p.links i).most else 0
def VQ (p:ah) (C:Nat→Bool) (r:Nat):Bool:=C (at' p.racks r).feeds.e0.toNat||(decide (0≤(at' p.racks r).feeds.e1) && C (at' p.racks r).feeds.e1.toNat)
def OG (p:ah) (C:Nat→Bool) (r:Nat):Int:=if VQ p C r=true then(at' p.racks r).power else 0
def BM (p:ah) (s:State) (C:Nat→Bool):Int:=aT p.sources.length (Ov p s C)+aT p.links.length (Ow p s C)+aT p.racks.length (OG p C)
section
variable {p:ah} {s:State} (hp:VP p) (hs:VS p s)
include hp
theorem Tg (C:Nat→Bool) {k:Nat} (hk:k<p.sources.length):0≤Ov p s C k∧Ov p s C k≤100000:=by
 have:=(hp.src k hk).power;unfold Ov;split<;>omega
theorem UB (C:Nat→Bool) {k:Nat} (hk:k<p.links.length):0≤Ow p s C k∧Ow p s C k≤100000:=by
 have:=(hp.lnk k hk).most;unfold Ow;split<;>omega
theorem Zr (C:Nat→Bool) {k:Nat} (hk:k<p.racks.length):0≤OG p C k∧OG p C k≤100000:=by
 have:=(hp.rck k hk).power;unfold OG;split<;>omega
theorem YA (C:Nat→Bool): -1000000000≤aT p.sources.length (Ov p s C)∧aT p.sources.length (Ov p s C)≤1000000000:=by
 have:=qR (n:=p.sources.length) (f:=Ov p s C) fun i hi=>by have:=Tg (s:=s) hp C hi;omega
 have:=hp.sl;omega
theorem agD (C:Nat→Bool): -1000000000≤aT p.links.length (Ow p s C)∧aT p.links.length (Ow p s C)≤1000000000:=by
 have:=qR (n:=p.links.length) (f:=Ow p s C) fun i hi=>by have:=UB (s:=s) hp C hi;omega
 have:=hp.ll;omega
include hs
theorem aar {cut:List Bool} (hc:(cut.length:Int)=p.buses):iE p.buses p.sources p.links p.racks s.closed s.locked s.badLink s.on_ s.badSource s.earthed s.badBus cut 0=some (BM p s (at' cut)):=by
 unfold iE
 have hsl:=hp.sl;have hll:=hp.ll;have hrl:=hp.rl
 rw [KP p.sources.length (Ov p s (at' cut)) 0 (by omega) (fun i hi=>by have:=Tg (s:=s) hp (at' cut) hi;omega) (by omega) (fun k x hk hx=> ?_) (fun x=> ?_)]
 rotate_left
 ·have hf:gU ⟨p.buses,p.sources,p.links,p.racks⟩ ⟨s.closed,s.locked,s.badLink,s.on_,s.badSource,s.earthed,s.badBus⟩ (k:Int)=some (bH p s k):=zw hp hs hk
  have hv:=hp.src k hk;have hb:=hv.bus;have hw:=hv.power
  unfold iM cO Ov
  simp only [Int.toNat_natCast]
  rw [FT (by omega),cond_true,aA (by omega),hf,Option.bind_some,Cr]
  cases bH p s k<;>cases at' cut (at' p.sources k).bus.toNat<;>simp only [cond_true,cond_false,Bool.not_true,Bool.not_false,Bool.and_true,Bool.and_false,if_true,Option.bind_some,Bool.false_and,Bool.true_and]<;>
   rw [aA (fun _=>by omega),wr' (x:=(k:Int)+1) (by omega)]<;>first|(rw [wr' (by omega)])|(simp)
 ·unfold iM;simp
 simp only [Option.bind_some]
 rw [KP p.links.length (Ow p s (at' cut)) _ (by omega) (fun i hi=>by have:=UB (s:=s) hp (at' cut) hi;omega) (by have:=YA (s:=s) hp (at' cut);omega) (fun k x hk hx=> ?_) (fun x=> ?_)]
 rotate_left
 ·have hf:dz ⟨p.buses,p.sources,p.links,p.racks⟩ ⟨s.closed,s.locked,s.badLink,s.on_,s.badSource,s.earthed,s.badBus⟩ (k:Int)=some (bG p s k):=Ao hp hs hk
  have hv:=hp.lnk k hk;have ha:=hv.a;have hb:=hv.b;have hw:=hv.most
  unfold iH cO Ow
  simp only [Int.toNat_natCast]
  rw [FT (by omega),cond_true,aA (by omega),hf,Option.bind_some,Cr]
  cases bG p s k<;>cases at' cut (at' p.links k).a.toNat<;>cases at' cut (at' p.links k).b.toNat<;>simp only [cond_true,cond_false,Bool.not_true,Bool.not_false,Bool.and_true,Bool.and_false,if_true,Option.bind_some,Bool.false_and,Bool.true_and,beq_self_eq_true,show(true==false)=false from rfl,show(false==true)=false from rfl]<;>
   rw [aA ⟨fun _=>by omega,fun _=>by omega⟩,wr' (x:=(k:Int)+1) (by omega)]<;>first|(rw [wr' (by omega)])|(simp)
 ·unfold iH;simp
 simp only [Option.bind_some]
 rw [KP p.racks.length (OG p (at' cut)) _ (by omega) (fun i hi=>by have:=Zr hp (at' cut) hi;omega) (by have:=YA (s:=s) hp (at' cut);have:=agD (s:=s) hp (at' cut);omega) (fun k x hk hx=> ?_) (fun x=> ?_)]
 rotate_left
 ·have hv:=hp.rck k hk;have ha:=hv.e0;have hb:=hv.e1;have hw:=hv.power
  have hf:cK [(at' p.racks k).feeds.e0,(at' p.racks k).feeds.e1] cut=some (VQ p (at' cut) k):=by
   unfold cK gM
   rw [vz [(at' p.racks k).feeds.e0,(at' p.racks k).feeds.e1] (fun b=>decide (0≤b) && at' cut b.toNat) id (by simp) (fun i hi=> ?_) ?_]
   ·have e:=qX [(at' p.racks k).feeds.e0,(at' p.racks k).feeds.e1] fun b=>decide (0≤b) && at' cut b.toNat
    have e2:([(at' p.racks k).feeds.e0,(at' p.racks k).feeds.e1].any fun b=>decide (0≤b) && at' cut b.toNat)=VQ p (at' cut) k:=by
     unfold VQ
     rw [List.any_cons,List.any_cons,List.any_nil,Bool.or_false,decide_eq_true (show 0≤(at' p.racks k).feeds.e0 by omega),Bool.true_and]
    rw [e2]at e
    rw [←e]
    cases [(at' p.racks k).feeds.e0,(at' p.racks k).feeds.e1].findIdx? (fun b=>decide (0≤b) && at' cut b.toNat)<;>rfl
   ·unfold fE;rfl
   ·have hx: -1≤at' [(at' p.racks k).feeds.e0,(at' p.racks k).feeds.e1] i∧at' [(at' p.racks k).feeds.e0,(at' p.racks k).feeds.e1] i<p.buses:=by
     match i,hi with
     |0,_=>exact(show -1≤(at' p.racks k).feeds.e0∧(at' p.racks k).feeds.e0<p.buses by omega)
     |1,_=>exact hb
    unfold fE j6
    rw [Int.toNat_natCast]
    generalize at' [(at' p.racks k).feeds.e0,(at' p.racks k).feeds.e1] i=b at hx ⊢
    rw [aA (fun h=> ⟨of_decide_eq_true (gB1 h),by omega⟩)]
    have e:(bif decide (0≤b)then at' cut b.toNat else false)=(decide (0≤b) && at' cut b.toNat):=by cases decide (0≤b)<;>rfl
    rw [e]
    exact rf hi (by simp) _ id _
  unfold iJ cO OG
  simp only [Int.toNat_natCast]
  rw [FT (by omega),cond_true,aA (by omega),hf,Option.bind_some,Cr,wr' (x:=(k:Int)+1) (by omega)]
  cases VQ p (at' cut) k with
  |true=>simp only [cond_true,if_true,Option.bind_some];rw [wr' (by omega)]
  |false=>simp
 ·unfold iJ;simp
 simp only [Option.bind_some,Int.zero_add]
 rfl
end
def Rq (x:ai):Nat→Int
 |0=>0
 |n+1=>IntKind.wrap .i64 (Rq x n+IntKind.wrap .i64 ((at' x.racks n).e0+(at' x.racks n).e1))
theorem ES {x:ai} (hl:x.racks.length≤1000000):eT x=some (Rq x x.racks.length):=by
 have key:aS (iN x) FUEL (Rq x 0,((0:Nat):Int))=some (.brk (Rq x x.racks.length)):=by
  refine fT (fun i=>(Rq x i,(i:Int))) x.racks.length _ (fuel_lt (by omega)) (fun i hi=> ?_) ?_
  ·unfold iN
   simp only [Int.toNat_natCast]
   rw [FT (by omega),cond_true,aA (by omega),wr (x:=(i:Int)+1) (by omega)]
   rfl
  ·unfold iN;simp
 unfold eT
 show Option.bind (aS (iN x) FUEL (Rq x 0,((0:Nat):Int))) _=_
 rw [key];rfl
theorem Ql {x:ai} (h: ∀r,r<x.racks.length→0≤(at' x.racks r).e0+(at' x.racks r).e1∧(at' x.racks r).e0+(at' x.racks r).e1≤1000000) (hl:x.racks.length≤1000):
  ∀n,n≤x.racks.length→Rq x n=aT n fun r=>(at' x.racks r).e0+(at' x.racks r).e1
 |0,_=>rfl
 |n+1,hn=>by
  have h1:=h n (by omega)
  have h2:=qR (n:=n) (f:=fun r=>(at' x.racks r).e0+(at' x.racks r).e1) fun i hi=>by exact⟨by have:=h i (by omega);omega,by have:=h i (by omega);omega⟩
  rw [Rq,aT,Ql h hl n (by omega),wr (x:=(at' x.racks n).e0+(at' x.racks n).e1) (by omega),wr (by omega)]
def iG (s:State) (b:Int):Bool:=decide (0≤b) && !at' s.badBus b.toNat
def VO (p:ah) (s:State) (x:ai) (k:Nat):Bool:=(decide (at' x.sources k<0)||decide ((at' p.sources k).power<at' x.sources k))||(decide (0<at' x.sources k) && !bH p s k)
def VN (p:ah) (s:State) (x:ai) (i:Nat):Bool:=(decide (at' x.links i< - (at' p.links i).most)||decide ((at' p.links i).most<at' x.links i))||(!decide (at' x.links i=0) && !bG p s i)
def Qg (s:State) (pw b d:Int):Bool:=(decide (d<0)||decide (pw<d))||(decide (0<d) && !iG s b)
def VH (p:ah) (s:State) (x:ai) (r:Nat):Bool:=Qg s (at' p.racks r).power (at' p.racks r).feeds.e0 (at' x.racks r).e0||Qg s (at' p.racks r).power (at' p.racks r).feeds.e1 (at' x.racks r).e1||decide ((at' p.racks r).power<(at' x.racks r).e0+(at' x.racks r).e1)
def Pq (p:ah) (x:ai) (b k:Nat):Int:=if(at' p.sources k).bus=(b:Int)then at' x.sources k else 0
def LZ (p:ah) (x:ai) (b i:Nat):Int:=(if(at' p.links i).b=(b:Int)then at' x.links i else 0) - (if(at' p.links i).a=(b:Int)then at' x.links i else 0)
def KW (p:ah) (x:ai) (b r:Nat):Int:=(if(at' p.racks r).feeds.e0=(b:Int)then(at' x.racks r).e0 else 0)+(if(at' p.racks r).feeds.e1=(b:Int)then(at' x.racks r).e1 else 0)
def SN (p:ah) (x:ai) (b:Nat):Int:=aT p.sources.length (Pq p x b)+aT p.links.length (LZ p x b) - aT p.racks.length (KW p x b)
def K8 (p:ah) (x:ai):Bool:=decide (x.sources.length=p.sources.length) && decide (x.links.length=p.links.length) && decide (x.racks.length=p.racks.length)
def QA (p:ah) (s:State) (x:ai):Bool:=
 K8 p x && !(List.range p.sources.length).any (VO p s x) && !(List.range p.links.length).any (VN p s x) && !(List.range p.racks.length).any (VH p s x) && (List.range p.buses.toNat).all fun b=>decide (SN p x b=0)
theorem wG {ρ:Type} {body:Int→Option (aM Int (Ex Unit ρ))} (n:Nat) (bad:Nat→Bool) (v:ρ) (hl:n≤9223372036854775807)
  (hb: ∀i:Nat,i<n→body i=some (bif bad i then .done (.ret v)else .next ((i:Int)+1))) (he:body n=some (.done (.brk ()))):
  aS body FUEL 0=some (bif (List.range n).any bad then .ret v else .brk ()):=by
 rw [vU n bad (fun _=>v) hl hb he,←AV]
 cases(List.range n).find? bad<;>rfl
section
variable {p:ah} {s:State} (hp:VP p) (hs:VS p s) {x:ai} (h1:x.sources.length=p.sources.length) (h2:x.links.length=p.links.length) (h3:x.racks.length=p.racks.length)
include hp hs h1 h2 h3
theorem Pb:mG p s x=some (!(List.range p.sources.length).any (VO p s x) && !(List.range p.links.length).any (VN p s x)):=by
 have hsl:=hp.sl;have hll:=hp.ll
 unfold mG
 rw [wG p.sources.length (VO p s x) false (by omega) (fun k hk=> ?_) (by unfold lC;simp [h1])]
 rotate_left
 ·have hw:=(hp.src k hk).power
  unfold lC VO
  rw [Int.toNat_natCast]
  rw [FT (by omega),cond_true,aA (by omega),zw hp hs hk,wr (x:=(k:Int)+1) (by omega)]
  simp only [aA (show gB [(decide (at' x.sources k<0),false)]=true→(0:Int)≤(k:Int)∧(k:Int)<(p.sources.length:Int)from fun _=>by omega)]
  generalize decide (at' x.sources k<0)=a1
  generalize decide ((at' p.sources k).power<at' x.sources k)=a2
  generalize decide (0<at' x.sources k)=a3
  generalize bH p s k=a4
  cases a1<;>cases a2<;>cases a3<;>cases a4<;>rfl
 cases(List.range p.sources.length).any (VO p s x)with
 |true=>rfl
 |false=>
  simp only [cond_false,Option.bind_some,Bool.not_false,Bool.true_and]
  rw [wG p.links.length (VN p s x) false (by omega) (fun k hk=> ?_) (by unfold lK;simp [h2])]
  rotate_left
  ·have hw:=(hp.lnk k hk).most
   unfold lK VN
   rw [Int.toNat_natCast]
   rw [FT (by omega),cond_true,aA (by omega),Ao hp hs hk,wr (x:=(k:Int)+1) (by omega)]
   simp only [aA (show((0:Int)≤(k:Int)∧(k:Int)<(p.links.length:Int))∧(gB [(decide (at' x.links k<IntKind.wrap .i64 (0 - (at' p.links k).most)),false)]=true→(0:Int)≤(k:Int)∧(k:Int)<(p.links.length:Int))from⟨by omega,fun _=>by omega⟩)]
   rw [wr (x:=0 - (at' p.links k).most) (by omega),Int.zero_sub]
   generalize decide (at' x.links k< -(at' p.links k).most)=a1
   generalize decide ((at' p.links k).most<at' x.links k)=a2
   generalize decide (at' x.links k=0)=a3
   generalize bG p s k=a4
   cases a1<;>cases a2<;>cases a3<;>cases a4<;>rfl
  cases(List.range p.links.length).any (VN p s x)<;>rfl
theorem Im {b:Int} (hb:b<p.buses):fO s b=some (iG s b):=by
 have h4:=hs.badBus
 unfold fO iG
 rw [aA (fun h=> ⟨of_decide_eq_true (gB1 h),by omega⟩)]
 cases decide (0≤b)<;>rfl
theorem Tw:oN p s x=some (!(List.range p.racks.length).any (VH p s x)):=by
 have hrl:=hp.rl
 unfold oN
 rw [wG p.racks.length (VH p s x) false (by omega) (fun k hk=> ?_) (by unfold nV;simp [h3])]
 rotate_left
 ·have hv:=hp.rck k hk;have hw:=hv.power;have ha:=hv.e0;have hb:=hv.e1
  have key:aS (fo p s x (k:Int)) FUEL 0=some (bif Qg s (at' p.racks k).power (at' p.racks k).feeds.e0 (at' x.racks k).e0||Qg s (at' p.racks k).power (at' p.racks k).feeds.e1 (at' x.racks k).e1 then .ret (.done (.ret false))else .brk ()):=by
   have ra:fo p s x (k:Int) ((0:Nat):Int)=some (bif Qg s (at' p.racks k).power (at' p.racks k).feeds.e0 (at' x.racks k).e0 then .done (.ret (.done (.ret false)))else .next ((1:Nat):Int)):=by
    unfold fo Qg
    rw [Int.toNat_natCast]
    rw [FT (a:=((0:Nat):Int)) (by omega),cond_true,aA (by omega),decide_eq_true (show((0:Nat):Int)=0 by omega),cond_true,Im hp hs h1 h2 h3 ha.2]
    rw [show at' [(at' x.racks k).e0,(at' x.racks k).e1] ((0:Nat):Int).toNat=(at' x.racks k).e0 from rfl]
    simp only [aA (show(gB [(decide ((at' x.racks k).e0<0),false)]=true→(0:Int)≤(k:Int)∧(k:Int)<(p.racks.length:Int))∧(gB [(decide (0<(at' x.racks k).e0),true),((bif decide ((at' x.racks k).e0<0)then true else decide ((at' p.racks k).power<(at' x.racks k).e0)),false)]=true→(0:Int)≤(k:Int)∧(k:Int)<(p.racks.length:Int))from⟨fun _=>by omega,fun _=>by omega⟩)]
    generalize decide ((at' x.racks k).e0<0)=a1
    generalize decide ((at' p.racks k).power<(at' x.racks k).e0)=a2
    generalize decide (0<(at' x.racks k).e0)=a3
    generalize iG s (at' p.racks k).feeds.e0=a4
    cases a1<;>cases a2<;>cases a3<;>cases a4<;>rfl
   have rb:fo p s x (k:Int) ((1:Nat):Int)=some (bif Qg s (at' p.racks k).power (at' p.racks k).feeds.e1 (at' x.racks k).e1 then .done (.ret (.done (.ret false)))else .next ((2:Nat):Int)):=by
    unfold fo Qg
    rw [Int.toNat_natCast]
    rw [FT (a:=((1:Nat):Int)) (by omega),cond_true,aA (by omega),decide_eq_false (show ¬ ((1:Nat):Int)=0 by omega),cond_false,aA (by omega),Im hp hs h1 h2 h3 hb.2]
    rw [show at' [(at' x.racks k).e0,(at' x.racks k).e1] ((1:Nat):Int).toNat=(at' x.racks k).e1 from rfl]
    simp only [aA (show(gB [(decide ((at' x.racks k).e1<0),false)]=true→(0:Int)≤(k:Int)∧(k:Int)<(p.racks.length:Int))∧(gB [(decide (0<(at' x.racks k).e1),true),((bif decide ((at' x.racks k).e1<0)then true else decide ((at' p.racks k).power<(at' x.racks k).e1)),false)]=true→(0:Int)≤(k:Int)∧(k:Int)<(p.racks.length:Int))from⟨fun _=>by omega,fun _=>by omega⟩)]
    generalize decide ((at' x.racks k).e1<0)=a1
    generalize decide ((at' p.racks k).power<(at' x.racks k).e1)=a2
    generalize decide (0<(at' x.racks k).e1)=a3
    generalize iG s (at' p.racks k).feeds.e1=a4
    cases a1<;>cases a2<;>cases a3<;>cases a4<;>rfl
   have rc:fo p s x (k:Int) ((2:Nat):Int)=some (.done (.brk ())):=by unfold fo;rfl
   rw [show(0:Int)=((0:Nat):Int)from rfl]
   refine uE (n:=3) ?_ (by unfold FUEL;omega)
   rw [fQ,ra]
   cases Qg s (at' p.racks k).power (at' p.racks k).feeds.e0 (at' x.racks k).e0 with
   |true=>rfl
   |false=>
    show aS _ 2 ((1:Nat):Int)=_
    rw [fQ,rb]
    cases Qg s (at' p.racks k).power (at' p.racks k).feeds.e1 (at' x.racks k).e1 with
    |true=>rfl
    |false=>
     show aS _ 1 ((2:Nat):Int)=_
     rw [fQ,rc];rfl
  unfold nV
  rw [Int.toNat_natCast]
  rw [FT (by omega),cond_true,aA (by omega),key,wr (x:=(k:Int)+1) (by omega)]
  unfold VH
  by_cases hd:(Qg s (at' p.racks k).power (at' p.racks k).feeds.e0 (at' x.racks k).e0||Qg s (at' p.racks k).power (at' p.racks k).feeds.e1 (at' x.racks k).e1)=true
  ·rw [hd];rfl
  ·rw [Bool.not_eq_true]at hd
   have hd':=hd
   rw [Bool.or_eq_false_iff]at hd'
   unfold Qg at hd'
   simp only [Bool.or_eq_false_iff,decide_eq_false_iff_not]at hd'
   rw [hd]
   simp only [cond_false,Option.bind_some,Bool.false_or]
   rw [aA (by omega),wr (x:=(at' x.racks k).e0+(at' x.racks k).e1) (by omega)]
   cases decide ((at' p.racks k).power<(at' x.racks k).e0+(at' x.racks k).e1)<;>rfl
 cases(List.range p.racks.length).any (VH p s x)<;>rfl
end
structure Bd (p:ah) (x:ai):Prop where
 l1:x.sources.length=p.sources.length
 l2:x.links.length=p.links.length
 l3:x.racks.length=p.racks.length
 s: ∀k,k<p.sources.length→0≤at' x.sources k∧at' x.sources k≤100000
 l: ∀i,i<p.links.length→ -100000≤at' x.links i∧at' x.links i≤100000
 r: ∀r,r<p.racks.length→(0≤(at' x.racks r).e0∧(at' x.racks r).e0≤100000)∧(0≤(at' x.racks r).e1∧(at' x.racks r).e1≤100000)
section
variable {p:ah} {x:ai} (hp:VP p) (hx:Bd p x)
include hp hx
theorem Zu (b:Nat) {k:Nat} (hk:k<p.sources.length): -1000000≤Pq p x b k∧Pq p x b k≤1000000:=by
 have:=hx.s k hk;unfold Pq;split<;>omega
theorem abo (b:Nat) {k:Nat} (hk:k<p.links.length): -1000000≤LZ p x b k∧LZ p x b k≤1000000:=by
 have:=hx.l k hk;unfold LZ;split<;>split<;>omega
theorem Zl (b:Nat) {k:Nat} (hk:k<p.racks.length): -1000000≤KW p x b k∧KW p x b k≤1000000:=by
 have:=hx.r k hk;unfold KW;split<;>split<;>omega
theorem L6 (b n:Nat) (h:n≤p.sources.length): -1000000000≤aT n (Pq p x b)∧aT n (Pq p x b)≤1000000000:=by
 have:=qR (n:=n) (f:=Pq p x b) fun i hi=>Zu hp hx b (by omega);have:=hp.sl;omega
theorem LW (b n:Nat) (h:n≤p.links.length): -1000000000≤aT n (LZ p x b)∧aT n (LZ p x b)≤1000000000:=by
 have:=qR (n:=n) (f:=LZ p x b) fun i hi=>abo hp hx b (by omega);have:=hp.ll;omega
theorem XK (b n:Nat) (h:n≤p.racks.length): -1000000000≤aT n (KW p x b)∧aT n (KW p x b)≤1000000000:=by
 have:=qR (n:=n) (f:=KW p x b) fun i hi=>Zl hp hx b (by omega);have:=hp.rl;omega
theorem Nk:aS (iZ p x) FUEL (List.replicate p.buses.toNat (0:Int),0)=some (.brk (tab p.buses.toNat fun b=>aT p.sources.length (Pq p x b))):=by
 have hb:=hp.b;have hsl:=hp.sl
 rw [Qr]
 refine fT (fun i=>(tab p.buses.toNat (fun b=>aT i (Pq p x b)),(i:Int))) p.sources.length _ (fuel_lt (by omega)) (fun k hk=> ?_) ?_
 ·have hv:=(hp.src k hk).bus;have hw:=hx.s k hk
  have hbt:(at' p.sources k).bus.toNat<p.buses.toNat:=by omega
  unfold iZ
  dsimp only
  rw [Int.toNat_natCast]
  rw [hx.l1,FT (by omega),cond_true,aA (by omega),aA ⟨by omega,by rw [dh];omega⟩,oL hbt,wr (x:=(k:Int)+1) (by omega),wr (by have:=L6 hp hx (at' p.sources k).bus.toNat k (by omega);omega),Br,Cr]
  refine congrArg (fun l=>some (aM.next (l,_))) (jq fun b hbb=> ?_)
  rw [aT]
  unfold Pq
  by_cases e:b=(at' p.sources k).bus.toNat
  ·subst e;rw [if_pos rfl,if_pos (by omega)]
  ·rw [if_neg e,if_neg (by omega)];omega
 ·unfold iZ;simp [hx.l1]
theorem MQ (f:Nat→Int) (hf: ∀b, -1000000000≤f b∧f b≤1000000000):aS (iU p x) FUEL (tab p.buses.toNat f,0)=some (.brk (tab p.buses.toNat fun b=>f b+aT p.links.length (LZ p x b))):=by
 have hb:=hp.b;have hsl:=hp.ll
 have e0:tab p.buses.toNat f=tab p.buses.toNat (fun b=>f b+aT 0 (LZ p x b)):=jq fun b _=>by simp [aT]
 rw [e0]
 refine fT (fun i=>(tab p.buses.toNat (fun b=>f b+aT i (LZ p x b)),(i:Int))) p.links.length _ (fuel_lt (by omega)) (fun k hk=> ?_) ?_
 ·have hv:=hp.lnk k hk;have ha:=hv.a;have hbb:=hv.b;have hne:=hv.ab;have hw:=hx.l k hk
  have h1:(at' p.links k).a.toNat<p.buses.toNat:=by omega
  have h2:(at' p.links k).b.toNat<p.buses.toNat:=by omega
  have h3: ¬ (at' p.links k).b.toNat=(at' p.links k).a.toNat:=by omega
  unfold iU
  dsimp only
  rw [Int.toNat_natCast]
  rw [hx.l2,FT (by omega),cond_true,aA (by omega),aA ⟨by omega,by rw [dh];omega⟩,aA ⟨by omega,by rw [List.length_set,dh];omega⟩,oL h1,wr (x:=f (at' p.links k).a.toNat+aT k (LZ p x (at' p.links k).a.toNat) - at' x.links k) (by have:=LW hp hx (at' p.links k).a.toNat k (by omega);have:=hf (at' p.links k).a.toNat;omega),Br,oL h2,if_neg h3,wr (x:=f (at' p.links k).b.toNat+aT k (LZ p x (at' p.links k).b.toNat)+at' x.links k) (by have:=LW hp hx (at' p.links k).b.toNat k (by omega);have:=hf (at' p.links k).b.toNat;omega),Br,wr (x:=(k:Int)+1) (by omega),Cr]
  refine congrArg (fun l=>some (aM.next (l,_))) (jq fun b hbb=> ?_)
  rw [aT]
  unfold LZ
  by_cases e:b=(at' p.links k).b.toNat
  ·subst e
   rw [if_pos rfl,if_pos (by omega),if_neg (by omega)];omega
  ·rw [if_neg e]
   by_cases e2:b=(at' p.links k).a.toNat
   ·subst e2;rw [if_pos rfl,if_neg (by omega),if_pos (by omega)];omega
   ·rw [if_neg e2,if_neg (by omega),if_neg (by omega)];omega
 ·unfold iU;simp [hx.l2]
theorem MI (f:Nat→Int) (hf: ∀b, -10000000000≤f b∧f b≤10000000000):aS (iV p x) FUEL (tab p.buses.toNat f,0)=some (.brk (tab p.buses.toNat fun b=>f b - aT p.racks.length (KW p x b))):=by
 have hb:=hp.b;have hsl:=hp.rl
 have e0:tab p.buses.toNat f=tab p.buses.toNat (fun b=>f b - aT 0 (KW p x b)):=jq fun b _=>by simp [aT]
 rw [e0]
 refine fT (fun i=>(tab p.buses.toNat (fun b=>f b - aT i (KW p x b)),(i:Int))) p.racks.length _ (fuel_lt (by omega)) (fun k hk=> ?_) ?_
 ·have hv:=hp.rck k hk;have ha:=hv.e0;have hbb:=hv.e1;have hne:=hv.ne;have hw:=hx.r k hk
  have key: ∀g:Nat→Int,(∀b, -20000000000≤g b∧g b≤20000000000)→aS (dM p x (k:Int)) FUEL (tab p.buses.toNat g,0)=some (.brk (tab p.buses.toNat fun b=>g b - KW p x b k)):=by
   intro g hg
   have ra:dM p x (k:Int) (tab p.buses.toNat g,0)=some (.next (tab p.buses.toNat (fun b=>g b - if(at' p.racks k).feeds.e0=(b:Int)then(at' x.racks k).e0 else 0),1)):=by
    unfold dM
    dsimp only
    rw [Int.toNat_natCast]
    rw [FT (a:=0) (by omega),cond_true,aA (by omega)]
    rw [show at' [(at' p.racks k).feeds.e0,(at' p.racks k).feeds.e1] (0:Int).toNat=(at' p.racks k).feeds.e0 from rfl,decide_eq_true ha.1,cond_true,decide_eq_true (show(0:Int)=0 from rfl),cond_true,aA (by rw [dh];omega),oL (by omega),wr (by have:=hg (at' p.racks k).feeds.e0.toNat;omega),Br]
    refine congrArg (fun l=>some (aM.next (l,_))) (jq fun b hbb=> ?_)
    by_cases e:b=(at' p.racks k).feeds.e0.toNat
    ·subst e;rw [if_pos rfl,if_pos (by omega)]
    ·rw [if_neg e,if_neg (by omega)];omega
   have rb: ∀g:Nat→Int,(∀b, -30000000000≤g b∧g b≤30000000000)→dM p x (k:Int) (tab p.buses.toNat g,1)=some (.next (tab p.buses.toNat (fun b=>g b - if(at' p.racks k).feeds.e1=(b:Int)then(at' x.racks k).e1 else 0),2)):=by
    intro g hg
    unfold dM
    dsimp only
    rw [Int.toNat_natCast]
    rw [FT (a:=1) (by omega),cond_true,aA (by omega)]
    rw [show at' [(at' p.racks k).feeds.e0,(at' p.racks k).feeds.e1] (1:Int).toNat=(at' p.racks k).feeds.e1 from rfl]
    by_cases h0:0≤(at' p.racks k).feeds.e1
    ·rw [decide_eq_true h0,cond_true,decide_eq_false (show ¬ (1:Int)=0 by omega),cond_false,aA rfl,aA (by rw [dh];omega),oL (by omega),wr (by have:=hg (at' p.racks k).feeds.e1.toNat;omega),Br]
     refine congrArg (fun l=>some (aM.next (l,_))) (jq fun b hbb=> ?_)
     by_cases e:b=(at' p.racks k).feeds.e1.toNat
     ·subst e;rw [if_pos rfl,if_pos (by omega)]
     ·rw [if_neg e,if_neg (by omega)];omega
    ·rw [decide_eq_false h0,cond_false,wr (by omega)]
     refine congrArg (fun l=>some (aM.next (l,_))) (jq fun b hbb=> ?_)
     rw [if_neg (by omega)];omega
   refine uE (n:=3) ?_ (by unfold FUEL;omega)
   rw [fQ,ra]
   show aS _ 2 _=_
   rw [fQ,rb _ (fun b=>by have:=hg b;split<;>omega)]
   show aS _ 1 _=_
   rw [fQ]
   unfold dM
   refine congrArg (fun l=>some (Ex.brk l)) (jq fun b _=> ?_)
   unfold KW
   omega
  unfold iV
  dsimp only
  rw [hx.l3,FT (by omega),cond_true,aA (by omega),aA (by omega),key _ (fun b=>by have:=hf b;have:=XK hp hx b k (by omega);omega),wr (x:=(k:Int)+1) (by omega),Cr]
  simp only [Option.bind_some]
  refine congrArg (fun l=>some (aM.next (l,_))) (jq fun b hbb=> ?_)
  rw [aT];omega
 ·unfold iV;simp [hx.l3]
theorem Oa (s:State):kH p s x=some ((List.range p.buses.toNat).all fun b=>decide (SN p x b=0)):=by
 have hb:=hp.b
 unfold kH
 rw [aA ⟨by omega,by omega,by omega⟩,Nk hp hx]
 simp only [Option.bind_some]
 rw [MQ hp hx _ (fun b=>L6 hp hx b _ (Nat.le_refl _))]
 simp only [Option.bind_some]
 rw [MI hp hx _ (fun b=>by have:=L6 hp hx b _ (Nat.le_refl _);have:=LW hp hx b _ (Nat.le_refl _);omega)]
 simp only [Option.bind_some]
 have hc:cu (tab p.buses.toNat (SN p x))=some ((tab p.buses.toNat (SN p x)).any fun n=> !decide (n=0)):=by
  unfold cu gQ
  rw [vz (tab p.buses.toNat (SN p x)) (fun n=> !decide (n=0)) id (by rw [dh];omega) (fun i hi=> ?_) (by unfold fF;simp)]
  ·rw [←qX];cases(tab p.buses.toNat (SN p x)).findIdx? fun n=> !decide (n=0)<;>rfl
  ·unfold fF kU
   rw [Int.toNat_natCast]
   exact rf hi (by rw [dh];omega) _ id _
 show(cu (tab p.buses.toNat (SN p x))).bind _=_
 rw [hc,Option.bind_some,List.not_any_eq_all_not]
 unfold tab
 rw [List.all_map]
 congr 1
 refine congrArg (fun q=>List.all _ q) (funext fun b=> ?_)
 simp
end
section
variable {p:ah} {s:State} {x:ai}
theorem afD (hp:VP p) (hl:K8 p x=true) (h1:(List.range p.sources.length).any (VO p s x)=false) (h2:(List.range p.links.length).any (VN p s x)=false) (h3:(List.range p.racks.length).any (VH p s x)=false):Bd p x:=by
 simp only [K8,Bool.and_eq_true,decide_eq_true_eq]at hl
 simp only [List.any_eq_false,List.mem_range,Bool.not_eq_true]at h1 h2 h3
 refine⟨hl.1.1,hl.1.2,hl.2,fun k hk=> ?_,fun k hk=> ?_,fun k hk=> ?_⟩
 ·have:=h1 k hk;have:=(hp.src k hk).power
  simp only [VO,Bool.or_eq_false_iff,decide_eq_false_iff_not]at*
  omega
 ·have:=h2 k hk;have:=(hp.lnk k hk).most
  simp only [VN,Bool.or_eq_false_iff,decide_eq_false_iff_not]at*
  omega
 ·have:=h3 k hk;have:=(hp.rck k hk).power
  simp only [VH,Qg,Bool.or_eq_false_iff,decide_eq_false_iff_not]at*
  omega
variable (hp:VP p) (hs:VS p s)
include hp hs
end
def KJ (p:ah) (s:State) (x:ai):Int:=if uV p s=0 then(if QA p s x=true then 0 else 20)else uV p s
section
variable {p:ah} (hsm:Small p) (s:State) (x:ai)
include hsm
theorem Gy:iB p s x=some (KJ p s x):=by
 unfold iB KJ
 rw [qP p s hsm,Option.bind_some]
 by_cases h0:uV p s=0
 ·obtain⟨hp,hs⟩:=om.mp h0
  rw [h0,if_pos rfl,decide_eq_true (show(0:Int)=0 from rfl),Bool.not_true,cond_false]
  have hlen:(bif (bif (!decide ((x.sources.length:Int)=(p.sources.length:Int)))then true else(!decide ((x.links.length:Int)=(p.links.length:Int))))then true else(!decide ((x.racks.length:Int)=(p.racks.length:Int))))= !K8 p x:=by
   unfold K8
   rw [decide_eq_decide.mpr (Int.natCast_inj (m:=x.sources.length) (n:=p.sources.length)),decide_eq_decide.mpr (Int.natCast_inj (m:=x.links.length) (n:=p.links.length)),decide_eq_decide.mpr (Int.natCast_inj (m:=x.racks.length) (n:=p.racks.length))]
   generalize decide (x.sources.length=p.sources.length)=a1
   generalize decide (x.links.length=p.links.length)=a2
   generalize decide (x.racks.length=p.racks.length)=a3
   cases a1<;>cases a2<;>cases a3<;>rfl
  rw [hlen]
  unfold QA
  cases hL:K8 p x with
  |false=>rfl
  |true=>
   have hl:=hL
   simp only [K8,Bool.and_eq_true,decide_eq_true_eq]at hl
   obtain⟨⟨l1,l2⟩,l3⟩:=hl
   simp only [Bool.not_true,cond_false,Bool.true_and,sZ,Option.bind_some]
   rw [aA (by omega),Pb hp hs l1 l2 l3,Option.bind_some]
   cases hS:(List.range p.sources.length).any (VO p s x)with
   |true=>rfl
   |false=>
    cases hK:(List.range p.links.length).any (VN p s x)with
    |true=>rfl
    |false=>
     simp only [Bool.not_false,Bool.and_true,Bool.not_true,cond_false,Bool.true_and]
     rw [aA (by omega),Tw hp hs l1 l2 l3,Option.bind_some]
     cases hR:(List.range p.racks.length).any (VH p s x)with
     |true=>rfl
     |false=>
      have hx:=afD hp hL hS hK hR
      simp only [Bool.not_false,Bool.not_true,cond_false,Bool.true_and]
      rw [aA (by omega),Oa hp hx,Option.bind_some]
      cases(List.range p.buses.toNat).all fun b=>decide (SN p x b=0)<;>rfl
 ·rw [decide_eq_false h0,if_neg h0];rfl
def Ll (p:ah) (s:State) (cut:List Bool):Int × Int:=
 if uV p s=0 then(if(cut.length:Int)=p.buses then(if((List.range p.buses.toNat).any fun b=>at' cut b && at' s.badBus b)=true then(0,1)else(BM p s (at' cut),0))else(0,1))else(0,uV p s)
omit x in
theorem Gf (cut:List Bool):iy p s cut=some (Ll p s cut):=by
 unfold iy Ll
 rw [qP p s hsm,Option.bind_some]
 by_cases h0:uV p s=0
 ·obtain⟨hp,hs⟩:=om.mp h0
  have hb:=hp.b;have h4:=hs.badBus
  rw [h0,if_pos rfl,decide_eq_true (show(0:Int)=0 from rfl),Bool.not_true,cond_false]
  by_cases h1:(cut.length:Int)=p.buses
  ·rw [decide_eq_true h1,if_pos h1,Bool.not_true,cond_false]
   rw [wG p.buses.toNat (fun b=>at' cut b && at' s.badBus b) (0,1) (by omega) (fun k hk=> ?_) (by unfold kE;rw [NM (by omega),cond_false])]
   rotate_left
   ·unfold kE
    rw [Int.toNat_natCast,FT (by omega),cond_true,aA (by omega),aA (fun _=>by omega),wr (x:=(k:Int)+1) (by omega)]
    cases at' cut k<;>cases at' s.badBus k<;>rfl
   cases(List.range p.buses.toNat).any fun b=>at' cut b && at' s.badBus b with
   |true=>rfl
   |false=>
    simp only [cond_false,Option.bind_some,lX]
    rw [aar hp hs h1,Option.bind_some];rfl
  ·rw [decide_eq_false h1,if_neg h1];rfl
 ·rw [decide_eq_false h0,if_neg h0];rfl
def U5 (p:ah) (s:State) (x:ai) (cut:List Bool):Int:=
 if KJ p s x=0 then(if(Ll p s cut).2=0 then(if(Ll p s cut).1=Rq x x.racks.length then 0 else 7)else(Ll p s cut).2)else KJ p s x
theorem PO (hl:x.racks.length≤1000000) (cut:List Bool):fe p s x cut=some (U5 p s x cut):=by
 unfold fe U5
 rw [Gy hsm,Option.bind_some,Gf hsm,ES hl]
 by_cases h0:KJ p s x=0
 ·rw [decide_eq_true h0,if_pos h0]
  simp only [Bool.not_true,cond_false,Option.bind_some]
  by_cases h1:(Ll p s cut).2=0
  ·rw [decide_eq_true h1,if_pos h1,show gB [(true,true)]=true from rfl,cond_true,Option.bind_some,cond_true,h1]
   by_cases h2:(Ll p s cut).1=Rq x x.racks.length
   ·rw [decide_eq_true h2,if_pos h2];rfl
   ·rw [decide_eq_false h2,if_neg h2];rfl
  ·rw [decide_eq_false h1,if_neg h1];rfl
 ·rw [decide_eq_false h0,if_neg h0];rfl
end
def tw (i:Nat):Nat:=if i % 2=0 then i+1 else i - 1
theorem KG (i:Nat):tw (tw i)=i:=by
 unfold tw
 by_cases h:i % 2=0
 ·rw [if_pos h,if_neg (by omega)];omega
 ·rw [if_neg h,if_pos (by omega)];omega
theorem Ei {i m:Nat} (h:i<2*m):tw i<2*m:=by unfold tw;split<;>omega
theorem TN (i:Nat):tw i≠i:=by unfold tw;split<;>omega
theorem Wu (i:Nat):i ^^^ 1=tw i:=by
 have h1:(i ^^^ 1) / 2=i / 2:=by rw [Nat.xor_div_two];simp
 have h2:= @Nat.xor_mod_two_eq_one i 1
 unfold tw
 split<;>omega
theorem xor_eq {i:Nat} (h:i<1000000):IntKind.wrap .i64 (((BitVec.ofInt (IntKind.bits .i64) (i:Int) ^^^ BitVec.ofInt (IntKind.bits .i64) 1).toNat:Int))=(tw i:Int):=by
 have e:(BitVec.ofInt (IntKind.bits .i64) (i:Int) ^^^ BitVec.ofInt (IntKind.bits .i64) 1).toNat=tw i:=by
  rw [BitVec.toNat_xor,←Wu]
  have e1:(BitVec.ofInt (IntKind.bits .i64) (i:Int)).toNat=i:=by
   show(BitVec.ofInt 64 (i:Int)).toNat=i
   rw [BitVec.toNat_ofInt]
   omega
  have e2:(BitVec.ofInt (IntKind.bits .i64) 1).toNat=1:=rfl
  rw [e1,e2]
 rw [e]
 have:tw i<1000002:=by unfold tw;split<;>omega
 rw [wr (by omega)]
def tgt (a:List aY) (i:Nat):Nat:=(at' a i).to_.toNat
def iF (a:List aY) (i:Nat):Int:=(at' a i).left
structure NW (n m:Nat) (a:List aY) (fr:List (List Int)):Prop where
 n1:1≤n∧n≤1000
 m1:m≤1000
 len:a.length=2*m
 to: ∀i,i<2*m→0≤(at' a i).to_∧(at' a i).to_<n
 left: ∀i,i<2*m→0≤iF a i∧iF a i+iF a (tw i)≤1000000
 frl:fr.length=n
 fr1: ∀v,v<n→ ∀x∈at' fr v,∃i:Nat,x=(i:Int)∧i<2*m∧tgt a (tw i)=v
 fr2: ∀i,i<2*m→(i:Int)∈at' fr (tgt a (tw i))
 frn: ∀v,v<n→(at' fr v).length≤2*m
theorem NW.tl {n m:Nat} {a:List aY} {fr:List (List Int)} (h:NW n m a fr) {i:Nat} (hi:i<2*m):tgt a i<n∧(at' a i).to_=(tgt a i:Int):=by
 have:=h.to i hi;unfold tgt;omega
def XW (m:Nat) (a:List aY) (K:Nat→Prop):Prop:= ∀i,i<2*m→0<iF a i→K (tgt a (tw i))→K (tgt a i)
theorem uY {σ ρ:Type} {body:σ→Option (aM σ ρ)} (I:σ→Prop) (μ:σ→Nat) (R:ρ→Prop)
  (h: ∀s,I s→(∃s',body s=some (.next s')∧I s'∧μ s'<μ s)∨(∃r,body s=some (.done r)∧R r)):
  ∀(N:Nat) (s:σ),I s→μ s<N→ ∃r,aS body N s=some r∧R r
 |0,_,_,hN=>by omega
 |N+1,s,hs,hN=>by
  rw [fQ]
  rcases h s hs with⟨s',e,hi,hm⟩|⟨r,e,hr⟩
  ·rw [e];exact uY I μ R h N s' hi (by omega)
  ·rw [e];exact⟨r,rfl,hr⟩
def cntF (l:List Bool):Nat:=(l.filter (! ·)).length
theorem DC: ∀(l:List Bool) (w:Nat),w<l.length→at' l w=false→cntF (l.set w true)+1=cntF l
 |[],w,h,_=>by simp at h
 |b::l,0,_,h=>by
  have:b=false:=h
  subst this
  simp [cntF]
 |b::l,w+1,h,hb=>by
  have:=DC l w (by simpa using h) hb
  unfold cntF at this ⊢
  rw [List.set_cons_succ]
  cases b<;>simp<;>omega
def Ox (a:List aY) (i:Nat) (z:List Bool × List af):List Bool × List af:=
 if(decide (0<iF a i) && !at' z.1 (tgt a i))=true then(z.1.set (tgt a i) true,z.2++[⟨(at' a i).to_,(i:Int)⟩])else z
def Cz (a:List aY) (L:List Int) (z:List Bool × List af):Nat→List Bool × List af
 |0=>z
 |k+1=>Ox a (at' L k).toNat (Cz a L z k)
structure BI (n m:Nat) (a:List aY) (bys:List Int) (seen:List Bool) (pd:List af) (W:Nat→Prop) (par:Nat→Int) (rk:Nat→Nat) (t:Nat) (Y:Nat→Prop):Prop where
 sl:seen.length=n
 s0:at' seen 0=true
 p0:par 0= -1
 g2: ∀v,v<n→at' seen v=true→v≠0→ ∃i:Nat,par v=(i:Int)∧i<2*m∧tgt a i=v∧0<iF a i∧Y (tgt a (tw i))∧rk (tgt a (tw i))<rk v
 g3: ∀v,Y v→v<n∧at' seen v=true∧at' bys v=par v
 g4: ∀x∈pd,∃v:Nat,x.e0=(v:Int)∧v<n∧at' seen v=true∧x.e1=par v
 g5: ∀v,v<n→at' seen v=true→rk v<t
 g6: ∀v,v<n→at' seen v=true→(Y v∧ ∀i,i<2*m→tgt a (tw i)=v→0<iF a i→at' seen (tgt a i)=true)∨(∃x∈pd,x.e0=(v:Int))∨W v
 g7: ∀K:Nat→Prop,XW m a K→K 0→ ∀v,v<n→at' seen v=true→K v
 tc:t+cntF seen=n
theorem eB {l:List Bool} {w v:Nat} (h:w<l.length):at' (l.set w true) v=true↔v=w∨at' l v=true:=by
 by_cases e:w=v
 ·subst e;rw [fM h];simp
 ·rw [d9 e]
  exact⟨.inr,fun q=>q.elim (fun x=>absurd x.symm e) id⟩
section
variable {n m:Nat} {a:List aY} {fr:List (List Int)} (hN:NW n m a fr)
include hN
theorem ZH {bys:List Int} {seen:List Bool} {q:List af} {u:Nat} {par:Nat→Int} {rk:Nat→Nat} {t:Nat} {Y:Nat→Prop} (h:BI n m a bys seen q (· =u) par rk t Y) {i:Nat} (hi:i<2*m) (hu:tgt a (tw i)=u) (hY:Y u):
  ∃par rk t,BI n m a bys (Ox a i (seen,q)).1 (Ox a i (seen,q)).2 (· =u) par rk t Y∧(0<iF a i→at' (Ox a i (seen,q)).1 (tgt a i)=true)∧(∀v,at' seen v=true→at' (Ox a i (seen,q)).1 v=true)∧cntF (Ox a i (seen,q)).1+(Ox a i (seen,q)).2.length=cntF seen+q.length:=by
 unfold Ox
 by_cases hc:(decide (0<iF a i) && !at' seen (tgt a i))=true
 ·simp only [hc,if_true]
  rw [Bool.and_eq_true,decide_eq_true_eq,Bool.not_eq_true']at hc
  obtain⟨hl,hw⟩:=hc
  have hwn:=(hN.tl hi).1
  have hto:=(hN.tl hi).2
  generalize hwd:tgt a i=w at*
  have hws:w<seen.length:=by rw [h.sl];exact hwn
  have hw0:w≠0:=fun e=>by rw [e,h.s0]at hw;cases hw
  have neq: ∀v,at' seen v=true→v≠w:=fun v hv e=>by rw [e,hw]at hv;cases hv
  have hus:=(h.g3 u hY).2.1
  refine⟨fun v=>if v=w then(i:Int)else par v,fun v=>if v=w then t else rk v,t+1,⟨?_, ?_, ?_, ?_, ?_, ?_, ?_, ?_, ?_, ?_⟩,fun _=>(eB hws).2 (.inl rfl),fun v hv=>(eB hws).2 (.inr hv), ?_⟩
  ·rw [List.length_set];exact h.sl
  ·exact(eB hws).2 (.inr h.s0)
  ·show(if 0=w then(i:Int)else par 0)= -1
   rw [if_neg (Ne.symm hw0)];exact h.p0
  ·intro v hv hs h0
   rcases(eB hws).1 hs with rfl|hs
   ·refine⟨i,if_pos rfl,hi,hwd,hl,by rw [hu];exact hY, ?_⟩
    rw [hu]
    show(if u=v then t else rk u)<(if v=v then t else rk v)
    rw [if_neg (neq u hus),if_pos rfl]
    exact h.g5 u (h.g3 u hY).1 hus
   ·obtain⟨j,h1,h2,h3,h4,h5,h6⟩:=h.g2 v hv hs h0
    refine⟨j,(if_neg (neq v hs)).trans h1,h2,h3,h4,h5, ?_⟩
    show(if tgt a (tw j)=w then t else rk (tgt a (tw j)))<(if v=w then t else rk v)
    rw [if_neg (neq v hs),if_neg (neq _ (h.g3 _ h5).2.1)]
    exact h6
  ·intro v hv
   obtain⟨h1,h2,h3⟩:=h.g3 v hv
   exact⟨h1,(eB hws).2 (.inr h2),h3.trans (if_neg (neq v h2)).symm⟩
  ·intro x hx
   rw [List.mem_append,List.mem_singleton]at hx
   rcases hx with hx|rfl
   ·obtain⟨v,h1,h2,h3,h4⟩:=h.g4 x hx
    exact⟨v,h1,h2,(eB hws).2 (.inr h3),h4.trans (if_neg (neq v h3)).symm⟩
   ·exact⟨w,hto,hwn,(eB hws).2 (.inl rfl),(if_pos rfl).symm⟩
  ·intro v hv hs
   show(if v=w then t else rk v)<t+1
   rcases(eB hws).1 hs with rfl|hs
   ·rw [if_pos rfl];omega
   ·rw [if_neg (neq v hs)];have:=h.g5 v hv hs;omega
  ·intro v hv hs
   rcases(eB hws).1 hs with rfl|hs
   ·exact .inr (.inl ⟨_,List.mem_append_right _ (List.mem_singleton_self _),hto⟩)
   ·rcases h.g6 v hv hs with⟨h1,h2⟩|⟨x,h1,h2⟩|h1
    ·exact .inl ⟨h1,fun j hj e hl=>(eB hws).2 (.inr (h2 j hj e hl))⟩
    ·exact .inr (.inl ⟨x,List.mem_append_left _ h1,h2⟩)
    ·exact .inr (.inr h1)
  ·intro K hK h0 v hv hs
   rcases(eB hws).1 hs with rfl|hs
   ·have:=hK i hi hl (by rw [hu];exact h.g7 K hK h0 u (h.g3 u hY).1 hus)
    rwa [hwd]at this
   ·exact h.g7 K hK h0 v hv hs
  ·have:=DC seen w hws hw
   have:=h.tc
   show t+1+cntF (seen.set w true)=n
   omega
  ·have:=DC seen w hws hw
   rw [List.length_append,List.length_singleton];omega
 ·simp only [hc,if_false]
  refine⟨par,rk,t,h,fun hl=> ?_,fun _=>id,rfl⟩
  rw [decide_eq_true hl,Bool.true_and,Bool.not_eq_true',Bool.not_eq_false]at hc
  exact hc
theorem LA {bys:List Int} {seen:List Bool} {q:List af} {u:Nat} {par:Nat→Int} {rk:Nat→Nat} {t:Nat} {Y:Nat→Prop} (h:BI n m a bys seen q (· =u) par rk t Y) (hu:u<n) (hY:Y u):
  ∀k,k≤(at' fr u).length→ ∃par rk t,BI n m a bys (Cz a (at' fr u) (seen,q) k).1 (Cz a (at' fr u) (seen,q) k).2 (· =u) par rk t Y∧(∀j,j<k→0<iF a (at' (at' fr u) j).toNat→at' (Cz a (at' fr u) (seen,q) k).1 (tgt a (at' (at' fr u) j).toNat)=true)∧(∀v,at' seen v=true→at' (Cz a (at' fr u) (seen,q) k).1 v=true)∧cntF (Cz a (at' fr u) (seen,q) k).1+(Cz a (at' fr u) (seen,q) k).2.length=cntF seen+q.length
 |0,_=> ⟨par,rk,t,h,fun j hj=>by omega,fun _=>id,rfl⟩
 |k+1,hk=>by
  obtain⟨par,rk,t,h1,h2,h3,h4⟩:=LA h hu hY k (by omega)
  obtain⟨i,e,hi,hti⟩:=hN.fr1 u hu _ (at_mem (show k<(at' fr u).length by omega))
  have ei:(at' (at' fr u) k).toNat=i:=by rw [e];rfl
  obtain⟨par,rk,t,g1,g2,g3,g4⟩:=ZH hN h1 hi hti hY
  refine⟨par,rk,t, ?_, ?_, ?_, ?_⟩
  ·show BI n m a bys (Ox a (at' (at' fr u) k).toNat (Cz a (at' fr u) (seen,q) k)).1 (Ox a (at' (at' fr u) k).toNat (Cz a (at' fr u) (seen,q) k)).2 _ _ _ _ _
   rw [ei];exact g1
  ·intro j hj hl
   show at' (Ox a (at' (at' fr u) k).toNat (Cz a (at' fr u) (seen,q) k)).1 _=true
   rw [ei]
   by_cases e2:j=k
   ·subst e2;rw [ei]at hl ⊢;exact g2 hl
   ·exact g3 _ (h2 j (by omega) hl)
  ·intro v hv
   show at' (Ox a (at' (at' fr u) k).toNat (Cz a (at' fr u) (seen,q) k)).1 _=true
   rw [ei];exact g3 _ (h3 v hv)
  ·show cntF (Ox a (at' (at' fr u) k).toNat (Cz a (at' fr u) (seen,q) k)).1+(Ox a (at' (at' fr u) k).toNat (Cz a (at' fr u) (seen,q) k)).2.length=_
   rw [ei];exact g4.trans h4
theorem BI.visit {bys:List Int} {seen:List Bool} {q:List af} {x:af} {par:Nat→Int} {rk:Nat→Nat} {t:Nat} {Y:Nat→Prop} (h:BI n m a bys seen (x::q) (fun _=>False) par rk t Y) (hl:bys.length=n):
  ∃u:Nat,x.e0=(u:Int)∧u<n∧BI n m a (bys.set u x.e1) seen q (· =u) par rk t (fun v=>Y v∨v=u):=by
 obtain⟨u,e,hu,hs,hp⟩:=h.g4 x List.mem_cons_self
 refine⟨u,e,hu,h.sl,h.s0,h.p0, ?_, ?_,fun y hy=>h.g4 y (List.mem_cons_of_mem _ hy),h.g5, ?_,h.g7,h.tc⟩
 ·intro v hv hs h0
  obtain⟨i,h1,h2,h3,h4,h5,h6⟩:=h.g2 v hv hs h0
  exact⟨i,h1,h2,h3,h4, .inl h5,h6⟩
 ·intro v hv
  by_cases e2:v=u
  ·subst e2;exact⟨hu,hs,by rw [fM (by omega)];exact hp⟩
  ·obtain⟨h1,h2,h3⟩:=h.g3 v (hv.resolve_right e2)
   exact⟨h1,h2,by rw [d9 (Ne.symm e2)];exact h3⟩
 ·intro v hv hs
  rcases h.g6 v hv hs with⟨h1,h2⟩|⟨y,h1,h2⟩|h1
  ·exact .inl ⟨.inl h1,h2⟩
  ·rcases List.mem_cons.1 h1 with rfl|h1
   ·exact .inr (.inr (by omega))
   ·exact .inr (.inl ⟨y,h1,h2⟩)
  ·exact h1.elim
theorem BI.done {bys:List Int} {seen:List Bool} {q:List af} {u:Nat} {par:Nat→Int} {rk:Nat→Nat} {t:Nat} {Y:Nat→Prop} (h:BI n m a bys seen q (· =u) par rk t Y) (hY:Y u) (hc: ∀j,j<(at' fr u).length→0<iF a (at' (at' fr u) j).toNat→at' seen (tgt a (at' (at' fr u) j).toNat)=true):BI n m a bys seen q (fun _=>False) par rk t Y:=by
 refine⟨h.sl,h.s0,h.p0,h.g2,h.g3,h.g4,h.g5,fun v hv hs=> ?_,h.g7,h.tc⟩
 rcases h.g6 v hv hs with h1|h1|rfl
 ·exact .inl h1
 ·exact .inr (.inl h1)
 ·refine .inl ⟨hY,fun i hi hti hl=> ?_⟩
  have:=hN.fr2 i hi
  rw [hti]at this
  obtain⟨j,hj,e⟩:=oq this
  have ei:(at' (at' fr v) j).toNat=i:=by rw [e];rfl
  have:=hc j hj (by rw [ei];exact hl)
  rwa [ei]at this
theorem BI.first {bys:List Int}:BI n m a bys ((List.replicate n false).set 0 true) [⟨0, -1⟩] (fun _=>False) (fun _=> -1) (fun _=>0) 1 (fun _=>False):=by
 have hn:=hN.n1
 have hs: ∀v,v<n→at' ((List.replicate n false).set 0 true) v=true→v=0:=by
  intro v hv h
  rcases(eB (by rw [List.length_replicate];omega)).1 h with h|h
  ·exact h
  ·rw [eZ hv]at h;cases h
 have h0:at' ((List.replicate n false).set 0 true) 0=true:=(eB (by rw [List.length_replicate];omega)).2 (.inl rfl)
 refine⟨by simp,h0,rfl,fun v hv h q=>absurd (hs v hv h) q,fun v h=>h.elim, ?_,fun _ _ _=>by omega, ?_, ?_, ?_⟩
 ·intro x hx
  rw [List.mem_singleton]at hx
  subst hx
  exact⟨0,rfl,by omega,h0,rfl⟩
 ·intro v hv h
  have:=hs v hv h
  subst this
  exact .inr (.inl ⟨_,List.mem_singleton_self _,rfl⟩)
 ·intro K hK hK0 v hv h
  rw [hs v hv h];exact hK0
 ·have:=DC (List.replicate n false) 0 (by rw [List.length_replicate];omega) (eZ (by omega))
  have e:cntF (List.replicate n false)=n:=by simp [cntF]
  omega
end
structure Wy (n m:Nat) (a:List aY) (bys:List Int) (sink K:Nat) (p:Nat→Nat) (rk:Nat→Nat):Prop where
 p0:p 0=sink
 pK:p K=0
 end_:at' bys 0= -1
 bl:bys.length=n
 lt: ∀k,k≤K→p k<n
 st: ∀k,k<K→ ∃i:Nat,at' bys (p k)=(i:Int)∧i<2*m∧tgt a i=p k∧0<iF a i∧p (k+1)=tgt a (tw i)∧rk (p (k+1))<rk (p k)
 Kn:K≤n
section
variable {n m:Nat} {a:List aY} {fr:List (List Int)} (hN:NW n m a fr)
include hN
theorem BI.way {bys:List Int} {seen:List Bool} {q:List af} {W:Nat→Prop} {par:Nat→Int} {rk:Nat→Nat} {t:Nat} {Y:Nat→Prop} (h:BI n m a bys seen q W par rk t Y) (hl:bys.length=n):
  ∀(r v:Nat),rk v≤r→Y v→ ∃K p,Wy n m a bys v K p rk∧K≤rk v:=by
 have base:at' bys 0= -1→ ∃K p,Wy n m a bys 0 K p rk∧K≤rk 0:=fun e=> ⟨0,fun _=>0,⟨rfl,rfl,e,hl,fun _ _=>by have:=hN.n1;show 0<n;omega,fun k hk=>by omega,by omega⟩,by omega⟩
 have byP: ∀v,Y v→at' bys v=par v:=fun v hv=>(h.g3 v hv).2.2
 have rkn: ∀v,Y v→rk v≤n:=fun v hv=>by have:=h.g5 v (h.g3 v hv).1 (h.g3 v hv).2.1;have:=h.tc;omega
 have zero: ∀r v,rk v≤r→Y v→Y 0:=by
  intro r
  induction r with
  |zero=>
   intro v hr hv
   by_cases h0:v=0
   ·subst h0;exact hv
   ·obtain⟨i,_,_,_,_,_,h6⟩:=h.g2 v (h.g3 v hv).1 (h.g3 v hv).2.1 h0
    omega
  |succ r ih=>
   intro v hr hv
   by_cases h0:v=0
   ·subst h0;exact hv
   ·obtain⟨i,_,_,_,_,h5,h6⟩:=h.g2 v (h.g3 v hv).1 (h.g3 v hv).2.1 h0
    exact ih _ (by omega) h5
 intro r
 induction r with
 |zero=>
  intro v hr hv
  by_cases h0:v=0
  ·subst h0;exact base ((byP 0 hv).trans h.p0)
  ·obtain⟨i,_,_,_,_,_,h6⟩:=h.g2 v (h.g3 v hv).1 (h.g3 v hv).2.1 h0
   omega
 |succ r ih=>
  intro v hr hv
  by_cases h0:v=0
  ·subst h0;exact base ((byP 0 hv).trans h.p0)
  ·obtain⟨i,h1,h2,h3,h4,h5,h6⟩:=h.g2 v (h.g3 v hv).1 (h.g3 v hv).2.1 h0
   obtain⟨K,p,hw,hK⟩:=ih _ (by omega) h5
   refine⟨K+1,fun k=>match k with|0=>v|k+1=>p k,⟨rfl,hw.pK,hw.end_,hl, ?_, ?_, ?_⟩,by omega⟩
   ·intro k hk
    match k,hk with
    |0,_=>exact(h.g3 v hv).1
    |k+1,hk=>exact hw.lt k (by omega)
   ·intro k hk
    match k,hk with
    |0,_=>exact⟨i,(byP v hv).trans h1,h2,h3,h4,hw.p0,by show rk (p 0)<rk v;rw [hw.p0];exact h6⟩
    |k+1,hk=>exact hw.st k (by omega)
   ·have:=rkn v hv;omega
end
def Dk (A:List aY) (i:Nat) (l:Int):List aY:=A.set i ⟨(at' A i).to_,iF A i - l⟩
def Ou (A:List aY) (i:Nat) (l:Int):List aY:=(Dk A i l).set (tw i) ⟨(at' (Dk A i l) (tw i)).to_,iF (Dk A i l) (tw i)+l⟩
theorem XR (A:List aY) (i:Nat) (l:Int):(Ou A i l).length=A.length:=by simp [Ou,Dk]
theorem UK {A:List aY} {i:Nat} {l:Int} (j:Nat) (hi:i<A.length) (ht:tw i<A.length):(at' (Ou A i l) j).to_=(at' A j).to_:=by
 have h1: ∀j,(at' (Dk A i l) j).to_=(at' A j).to_:=fun j=>by
  unfold Dk
  by_cases e:i=j
  ·subst e;rw [fM hi]
  ·rw [d9 e]
 unfold Ou
 by_cases e:tw i=j
 ·subst e;rw [fM (by simpa [Dk]using ht)];exact h1 _
 ·rw [d9 e];exact h1 _
theorem Xm {A:List aY} {i:Nat} {l:Int} (j:Nat) (hi:i<A.length) (ht:tw i<A.length):iF (Ou A i l) j=if j=i then iF A i - l else if j=tw i then iF A (tw i)+l else iF A j:=by
 have h1: ∀j,iF (Dk A i l) j=if j=i then iF A i - l else iF A j:=fun j=>by
  unfold iF Dk
  by_cases e:i=j
  ·subst e;rw [fM hi,if_pos rfl];rfl
  ·rw [d9 e,if_neg (Ne.symm e)]
 have hne:=TN i
 by_cases e:tw i=j
 ·subst e
  rw [if_neg hne,if_pos rfl]
  unfold Ou
  show(at' ((Dk A i l).set (tw i) _) (tw i)).left=_
  rw [fM (by simpa [Dk]using ht)]
  show iF (Dk A i l) (tw i)+l=_
  rw [h1,if_neg hne]
 ·unfold Ou
  show(at' ((Dk A i l).set (tw i) _) j).left=_
  rw [d9 e]
  show iF (Dk A i l) j=_
  rw [h1]
  by_cases e2:j=i
  ·rw [if_pos e2,if_pos e2]
  ·rw [if_neg e2,if_neg e2,if_neg (fun q=>e q.symm)]
def mM (m:Nat) (a:List aY) (v:Nat):Int:=aT (2*m) fun i=>if tgt a i=v then iF a i else 0
structure Sm (m:Nat) (a b:List aY):Prop where
 len:b.length=a.length
 to: ∀j,(at' b j).to_=(at' a j).to_
 sum: ∀j,j<2*m→iF b j+iF b (tw j)=iF a j+iF a (tw j)
 pos: ∀j,j<2*m→0≤iF b j
theorem Sm.tgt {m:Nat} {a b:List aY} (h:Sm m a b) (j:Nat):tgt b j=Sg.tgt a j:=by unfold Sg.tgt;rw [h.to]
theorem Sm.trans {m:Nat} {a b c:List aY} (h:Sm m a b) (g:Sm m b c):Sm m a c:=⟨g.len.trans h.len,fun j=>(g.to j).trans (h.to j),fun j hj=>(g.sum j hj).trans (h.sum j hj),g.pos⟩
theorem NW.same {n m:Nat} {a b:List aY} {fr:List (List Int)} (hN:NW n m a fr) (h:Sm m a b):NW n m b fr:=by
 refine⟨hN.n1,hN.m1,h.len.trans hN.len,fun i hi=>by rw [h.to];exact hN.to i hi,fun i hi=> ⟨h.pos i hi,by rw [h.sum i hi];exact(hN.left i hi).2⟩,hN.frl,fun v hv x hx=> ?_,fun i hi=> ?_,hN.frn⟩
 ·obtain⟨i,h1,h2,h3⟩:=hN.fr1 v hv x hx
  exact⟨i,h1,h2,(h.tgt _).trans h3⟩
 ·rw [h.tgt];exact hN.fr2 i hi
def fP (a:List aY) (bys:List Int) (p:Nat→Nat):Nat→Int
 |0=> -1
 |k+1=>if fP a bys p k<0∨iF a (at' bys (p k)).toNat<fP a bys p k then iF a (at' bys (p k)).toNat else fP a bys p k
def mK (a:List aY) (bys:List Int) (p:Nat→Nat) (l:Int):Nat→List aY
 |0=>a
 |k+1=>Ou (mK a bys p l k) (at' bys (p k)).toNat l
section
variable {n m:Nat} {a:List aY} {fr:List (List Int)} (hN:NW n m a fr) {bys:List Int} {sink K:Nat} {p:Nat→Nat} {rk:Nat→Nat} (hw:Wy n m a bys sink K p rk)
include hN hw
theorem Kj: ∀k,k≤K→(k=0∧fP a bys p k= -1)∨(0<fP a bys p k∧fP a bys p k≤1000000∧ ∀j,j<k→fP a bys p k≤iF a (at' bys (p j)).toNat)
 |0,_=> .inl ⟨rfl,rfl⟩
 |k+1,hk=>by
  obtain⟨i,h1,h2,h3,h4,h5,h6⟩:=hw.st k (by omega)
  have hl:=hN.left i h2
  have hl2:=hN.left _ (Ei h2)
  have e:(at' bys (p k)).toNat=i:=by rw [h1];rfl
  refine .inr ?_
  have ih:=Kj k (by omega)
  rw [fP,e]
  rcases ih with⟨h0,h⟩|⟨g1,g2,g3⟩
  ·rw [if_pos (by omega)]
   refine⟨h4,by omega,fun j hj=> ?_⟩
   have:j=k:=by omega
   subst this;rw [e];exact Int.le_refl _
  ·by_cases hc:iF a i<fP a bys p k
   ·rw [if_pos (.inr hc)]
    refine⟨h4,by omega,fun j hj=> ?_⟩
    by_cases e2:j=k
    ·subst e2;rw [e];exact Int.le_refl _
    ·have:=g3 j (by omega);omega
   ·rw [if_neg (by omega)]
    refine⟨g1,g2,fun j hj=> ?_⟩
    by_cases e2:j=k
    ·subst e2;rw [e];omega
    ·exact g3 j (by omega)
theorem acU {j k:Nat} (hjk:j<k) (hk:k≤K):rk (p k)<rk (p j):=by
 induction k with
 |zero=>omega
 |succ k ih=>
  obtain⟨i,_,_,_,_,_,h6⟩:=hw.st k (by omega)
  by_cases e:j=k
  ·subst e;exact h6
  ·have:=ih (by omega) (by omega);omega
theorem Qt {l:Int} (hl0:0<l) (hl: ∀j,j<K→l≤iF a (at' bys (p j)).toNat): ∀k,k≤K→Sm m a (mK a bys p l k)∧(∀j,k≤j→j<K→iF (mK a bys p l k) (at' bys (p j)).toNat=iF a (at' bys (p j)).toNat)∧
  ∀v,mM m (mK a bys p l k) v=mM m a v - (if v=p 0 then l else 0)+(if v=p k then l else 0)
 |0,_=> ⟨⟨rfl,fun _=>rfl,fun _ _=>rfl,fun j hj=>(hN.left j hj).1⟩,fun _ _ _=>rfl,fun v=>by show mM m a v=_;omega⟩
 |k+1,hk=>by
  obtain⟨h1,h2,h3⟩:=Qt hl0 hl k (by omega)
  obtain⟨i,g1,g2,g3,g4,g5,g6⟩:=hw.st k (by omega)
  have e:(at' bys (p k)).toNat=i:=by rw [g1];rfl
  have ht:=Ei g2
  have hne:=TN i
  have hlen:(mK a bys p l k).length=2*m:=h1.len.trans hN.len
  have hlf: ∀j,iF (mK a bys p l (k+1)) j=if j=i then iF (mK a bys p l k) i - l else if j=tw i then iF (mK a bys p l k) (tw i)+l else iF (mK a bys p l k) j:=fun j=>by
   show iF (Ou (mK a bys p l k) (at' bys (p k)).toNat l) j=_
   rw [e];exact Xm j (by omega) (by omega)
  have hto: ∀j,(at' (mK a bys p l (k+1)) j).to_=(at' (mK a bys p l k) j).to_:=fun j=>by
   show(at' (Ou (mK a bys p l k) (at' bys (p k)).toNat l) j).to_=_
   rw [e];exact UK j (by omega) (by omega)
  have hi0:iF (mK a bys p l k) i=iF a i:=by have:=h2 k (Nat.le_refl _) (by omega);rwa [e]at this
  have hli:l≤iF a i:=by have:=hl k (by omega);rwa [e]at this
  have s1:Sm m (mK a bys p l k) (mK a bys p l (k+1)):=by
   refine⟨by show(Ou _ _ _).length=_;exact XR _ _ _,hto,fun j hj=> ?_,fun j hj=> ?_⟩
   ·rw [hlf,hlf]
    by_cases e1:j=i
    ·subst e1;rw [if_pos rfl,if_neg hne,if_pos rfl];omega
    ·rw [if_neg e1]
     by_cases e2:j=tw i
     ·subst e2;rw [KG,if_pos rfl,if_pos rfl];omega
     ·rw [if_neg e2,if_neg (fun q=>e2 (by rw [←q,KG])),if_neg (fun q=>e1 (by have:=congrArg tw q;rwa [KG,KG]at this))]
   ·rw [hlf]
    have:=h1.pos j hj
    split
    ·omega
    ·split
     ·have:=h1.pos _ ht;omega
     ·exact this
  refine⟨h1.trans s1,fun j hj hjK=> ?_,fun v=> ?_⟩
  ·obtain⟨i',f1,f2,f3,f4,f5,f6⟩:=hw.st j hjK
   have e':(at' bys (p j)).toNat=i':=by rw [f1];rfl
   have hr:=acU hN hw (show k<j by omega) (by omega)
   rw [←h2 j (by omega) hjK,e',hlf]
   have n1:i'≠i:=fun q=>by rw [q,g3]at f3;rw [f3]at hr;omega
   have n2:i'≠tw i:=fun q=>by
    rw [q]at f3 f5
    rw [KG,g3]at f5
    rw [f5]at f6
    omega
   rw [if_neg n1,if_neg n2]
  ·have:mM m (mK a bys p l (k+1)) v=mM m (mK a bys p l k) v - (if v=p k then l else 0)+(if v=p (k+1)then l else 0):=by
    unfold mM
    have htg: ∀j,tgt (mK a bys p l (k+1)) j=tgt (mK a bys p l k) j:=fun j=>by unfold tgt;rw [hto]
    have htk: ∀j,tgt (mK a bys p l k) j=tgt a j:=h1.tgt
    have e1:(aT (2*m) fun j=>if tgt (mK a bys p l (k+1)) j=v then iF (mK a bys p l (k+1)) j else 0)=aT (2*m) fun j=>((if tgt (mK a bys p l k) j=v then iF (mK a bys p l k) j else 0) - (if j=i then(if v=p k then l else 0)else 0))+(if j=tw i then(if v=p (k+1)then l else 0)else 0):=by
     refine bS fun j hj=> ?_
     rw [htg,hlf,htk]
     by_cases e1:j=i
     ·subst e1
      rw [if_pos rfl,if_pos rfl,if_neg (Ne.symm hne),g3]
      by_cases e2:p k=v
      ·rw [if_pos e2,if_pos e2,if_pos e2.symm];omega
      ·rw [if_neg e2,if_neg e2,if_neg (Ne.symm e2)];omega
     ·rw [if_neg e1,if_neg e1]
      by_cases e2:j=tw i
      ·subst e2
       rw [if_pos rfl,if_pos rfl,←g5]
       by_cases e3:p (k+1)=v
       ·rw [if_pos e3,if_pos e3,if_pos e3.symm];omega
       ·rw [if_neg e3,if_neg e3,if_neg (Ne.symm e3)];omega
      ·rw [if_neg e2,if_neg e2];omega
    rw [e1,Af,EP,Hq (fun _=>if v=p k then l else 0) g2,Hq (fun _=>if v=p (k+1)then l else 0) ht]
   rw [this,h3];omega
end
theorem Vt {A:List aY} {o:List Int} {x19 x20 l:Int} {bys:List Int} (hbd:o.set x19.toNat x20=bys) {pk i:Nat} (hpk:pk<bys.length) (hby:at' bys pk=(i:Int)) (hi:i<A.length) (ht:tw i<A.length) (h6:i<1000000)
  (b1: -1000000000000≤iF A i - l∧iF A i - l≤1000000000000) (b2: -1000000000000≤iF A (tw i)+l∧iF A (tw i)+l≤1000000000000):
  bC x19 x20 o l (A,(pk:Int))=some (.next (Ou A i l,(at' A (tw i)).to_)):=by
 have hne:=TN i
 have e1:(at' (A.set i ⟨(at' A i).to_,(at' A i).left - l⟩) (tw i)).left=iF A (tw i):=by rw [d9 (Ne.symm hne)];rfl
 unfold bC
 dsimp only
 rw [hbd,Int.toNat_natCast,hby,Int.toNat_natCast,xor_eq h6,Int.toNat_natCast,aA (by omega),decide_eq_true (show(0:Int)≤(i:Int) by omega),cond_true,aA (by omega),wr (x:=(at' A i).left - l) (by have:iF A i=(at' A i).left:=rfl;omega),aA ⟨by omega,by rw [List.length_set];omega⟩,e1,wr (x:=iF A (tw i)+l) (by omega),aA ⟨by omega,by rw [List.length_set,List.length_set];omega⟩]
 have e2:((A.set i ⟨(at' A i).to_,(at' A i).left - l⟩).set (tw i) ⟨(at' (A.set i ⟨(at' A i).to_,(at' A i).left - l⟩) (tw i)).to_,iF A (tw i)+l⟩)=Ou A i l:=by
  unfold Ou
  have:iF (Dk A i l) (tw i)=iF A (tw i):=e1
  rw [this];rfl
 rw [e2,UK _ hi ht]
theorem TJ {a:List aY} {fr:List (List Int)} {o:List Int} {x19 x20:Int} {bys:List Int} (hbd:o.set x19.toNat x20=bys) {pk i:Nat} {least:Int} (hpk:pk<bys.length) (hby:at' bys pk=(i:Int)) (hi:i<a.length) (ht:tw i<a.length) (h6:i<1000000):
  bD x19 x20 o ⟨a,fr⟩ (least,(pk:Int))=some (.next (if least<0∨iF a i<least then iF a i else least,(at' a (tw i)).to_)):=by
 unfold bD
 dsimp only
 rw [hbd,Int.toNat_natCast,hby,Int.toNat_natCast,xor_eq h6,Int.toNat_natCast,aA (by omega),decide_eq_true (show(0:Int)≤(i:Int) by omega),cond_true,aA (by omega)]
 simp only [aA (show((0:Int)≤(pk:Int)∧(pk:Int)<(bys.length:Int))∧((0:Int)≤(tw i:Int)∧(tw i:Int)<(a.length:Int)) by omega)]
 by_cases c1:least<0
 ·rw [decide_eq_true c1,if_pos (.inl c1)];rfl
 ·rw [decide_eq_false c1]
  by_cases c2:(at' a i).left<least
  ·rw [decide_eq_true c2,if_pos (.inr c2)];rfl
  ·rw [decide_eq_false c2,if_neg (fun q=>q.elim c1 c2)];rfl
section
variable {n m:Nat} {a:List aY} {fr:List (List Int)} (hN:NW n m a fr)
include hN
theorem NW.res (v:Nat):0≤mM m a v∧mM m a v≤2000000000:=by
 have h: ∀i,i<2*m→0≤(if tgt a i=v then iF a i else 0)∧(if tgt a i=v then iF a i else 0)≤1000000:=fun i hi=>by
  have h1:=hN.left i hi;have h2:=hN.left _ (Ei hi)
  split<;>omega
 have:=qR (n:=2*m) (f:=fun i=>if tgt a i=v then iF a i else 0) fun i hi=> ⟨by have:=h i hi;omega,(h i hi).2⟩
 have h0:=NY (n:=2*m) (f:=fun i=>if tgt a i=v then iF a i else 0) fun i hi=>(h i hi).1
 have:=hN.m1
 unfold mM
 exact⟨h0,by omega⟩
theorem Qb {sink:Nat} (h0:sink≠0) {o bys:List Int} {x20:Int} (hbd:o.set sink x20=bys) (hol:o.length=n) (hs:sink<n) {K:Nat} {p rk:Nat→Nat} (hw:Wy n m a bys sink K p rk):
  ∃a',bT (sink:Int) x20 (sink:Int) o ⟨a,fr⟩=some (2,bys,⟨a',fr⟩)∧Sm m a a'∧(∀v,v≠0→v≠sink→mM m a' v=mM m a v)∧mM m a' sink<mM m a sink:=by
 have hK0:K≠0:=fun e=>by have:=hw.pK;rw [e,hw.p0]at this;exact h0 this
 have hKn:=hw.Kn
 have hn1:=hN.n1
 have hbd':o.set (sink:Int).toNat x20=bys:=by rw [Int.toNat_natCast];exact hbd
 have hlen:=hN.len
 have hm:=hN.m1
 have stp: ∀k,k<K→ ∃i:Nat,at' bys (p k)=(i:Int)∧(at' bys (p k)).toNat=i∧i<2*m∧tw i<2*m∧(at' a (tw i)).to_=(p (k+1):Int):=fun k hk=>by
  obtain⟨i,h1,h2,h3,h4,h5,h6⟩:=hw.st k hk
  exact⟨i,h1,by rw [h1];rfl,h2,Ei h2,by rw [h5];exact(hN.tl (Ei h2)).2⟩
 obtain⟨hl,hl1,hl2⟩:0<fP a bys p K∧fP a bys p K≤1000000∧ ∀j,j<K→fP a bys p K≤iF a (at' bys (p j)).toNat:=(Kj hN hw K (Nat.le_refl _)).resolve_left (fun q=>hK0 q.1)
 have L0:aS (bD (sink:Int) x20 o ⟨a,fr⟩) FUEL (-1,(sink:Int))=some (.brk (fP a bys p K)):=by
  have e:((-1:Int),(sink:Int))=(fun k=>(fP a bys p k,(p k:Int))) 0:=by show _=(fP a bys p 0,(p 0:Int));rw [hw.p0];rfl
  rw [e]
  refine fT (fun k=>(fP a bys p k,(p k:Int))) K _ (fuel_lt (by omega)) (fun k hk=> ?_) ?_
  ·obtain⟨i,h1,h2,h3,h4,h5⟩:=stp k hk
   show bD _ _ _ _ (fP a bys p k,(p k:Int))=some (.next (fP a bys p (k+1),(p (k+1):Int)))
   rw [TJ hbd' (by rw [hw.bl];exact hw.lt k (by omega)) h1 (by omega) (by omega) (by omega),h5,fP,h2]
  ·show bD _ _ _ _ (fP a bys p K,(p K:Int))=_
   rw [hw.pK]
   unfold bD
   dsimp only
   rw [hbd',Int.toNat_natCast,hw.end_,aA (by rw [hw.bl];omega)]
   rfl
 have Ou:=fun k hk=>Qt hN hw hl hl2 k hk
 have L1:aS (bC (sink:Int) x20 o (fP a bys p K)) FUEL (a,(sink:Int))=some (.brk (mK a bys p (fP a bys p K) K)):=by
  have e:(a,(sink:Int))=(fun k=>(mK a bys p (fP a bys p K) k,(p k:Int))) 0:=by show _=(mK a bys p (fP a bys p K) 0,(p 0:Int));rw [hw.p0];rfl
  rw [e]
  refine fT (fun k=>(mK a bys p (fP a bys p K) k,(p k:Int))) K _ (fuel_lt (by omega)) (fun k hk=> ?_) ?_
  ·obtain⟨i,h1,h2,h3,h4,h5⟩:=stp k hk
   obtain⟨g1,g2,g3⟩:=Ou k (by omega)
   have hN':=hN.same g1
   have b1:=hN'.left i h3
   have b2:=hN'.left _ h4
   rw [KG]at b2
   show bC _ _ _ _ (mK a bys p (fP a bys p K) k,(p k:Int))=some (.next (mK a bys p (fP a bys p K) (k+1),(p (k+1):Int)))
   rw [Vt hbd' (by rw [hw.bl];exact hw.lt k (by omega)) h1 (by rw [hN'.len];omega) (by rw [hN'.len];omega) (by omega) (by omega) (by omega),g1.to,h5,mK,h2]
  ·show bC _ _ _ _ (mK a bys p (fP a bys p K) K,(p K:Int))=_
   rw [hw.pK]
   unfold bC
   dsimp only
   rw [hbd',Int.toNat_natCast,hw.end_,aA (by rw [hw.bl];omega)]
   rfl
 obtain⟨g1,g2,g3⟩:=Ou K (Nat.le_refl _)
 refine⟨mK a bys p (fP a bys p K) K, ?_,g1,fun v hv hv2=> ?_, ?_⟩
 ·unfold bT
  rw [aA (by omega),decide_eq_true rfl,Bool.not_true,cond_false,L0]
  simp only [Option.bind_some]
  rw [L1,hbd'];rfl
 ·rw [g3,hw.p0,hw.pK,if_neg hv2,if_neg hv];omega
 ·rw [g3,hw.p0,hw.pK,if_pos rfl,if_neg h0];omega
theorem Nc {bys:List Int} {seen:List Bool} {q:List af} {u:Nat} {par:Nat→Int} {rk:Nat→Nat} {t:Nat} {Y:Nat→Prop} (h:BI n m a bys seen q (· =u) par rk t Y) (hY:Y u) (hq:cntF seen+q.length≤n) (c:Nat) (by_:List Int):
  aS (bV (u:Int) (c,by_,⟨a,fr⟩)) FUEL (seen,q,0)=some (.brk (Cz a (at' fr u) (seen,q) (at' fr u).length))∧
  aS (bN a fr (u:Int)) FUEL (seen,q,0)=some (.brk (Cz a (at' fr u) (seen,q) (at' fr u).length)):=by
 have hu:=(h.g3 u hY).1
 have hfl:=hN.frn u hu
 have hm:=hN.m1
 have hn:=hN.n1
 have step: ∀k,k<(at' fr u).length→bV (u:Int) (c,by_,⟨a,fr⟩) ((Cz a (at' fr u) (seen,q) k).1,(Cz a (at' fr u) (seen,q) k).2,(k:Int))=some (.next ((Cz a (at' fr u) (seen,q) (k+1)).1,(Cz a (at' fr u) (seen,q) (k+1)).2,((k+1:Nat):Int)))∧
   bN a fr (u:Int) ((Cz a (at' fr u) (seen,q) k).1,(Cz a (at' fr u) (seen,q) k).2,(k:Int))=some (.next ((Cz a (at' fr u) (seen,q) (k+1)).1,(Cz a (at' fr u) (seen,q) (k+1)).2,((k+1:Nat):Int))):=by
  intro k hk
  obtain⟨par,rk,t,h1,h2,h3,h4⟩:=LA hN h hu hY k (by omega)
  obtain⟨i,e,hi,hti⟩:=hN.fr1 u hu _ (at_mem hk)
  have ei:(at' (at' fr u) k).toNat=i:=by rw [e];rfl
  rw [Cz,ei]
  generalize Cz a (at' fr u) (seen,q) k=z at h1 h4 ⊢
  obtain⟨sn,qq⟩:=z
  have hsl:=h1.sl
  have hql:qq.length≤n:=by have h4':cntF sn+qq.length=cntF seen+q.length:=h4;omega
  have hto:=hN.to i hi
  have htg:=hN.tl hi
  have hsl':sn.length=n:=hsl
  constructor
  ·unfold bV Ox
   dsimp only
   rw [Int.toNat_natCast,Int.toNat_natCast,e,Int.toNat_natCast,FT (by omega),cond_true,aA (by omega),aA (by rw [hN.len];omega),aA (fun _=>by omega),aA (by omega),wr (x:=(k:Int)+1) (by omega),Cr]
   rw [show(at' a i).left=iF a i from rfl,show(at' a i).to_.toNat=tgt a i from rfl]
   unfold iO
   rw [aA ⟨by simp only [List.length_singleton];omega,by simp only [List.length_singleton];omega⟩]
   cases decide (0<iF a i)<;>cases at' sn (tgt a i)<;>rfl
  ·unfold bN Ox
   dsimp only
   rw [Int.toNat_natCast,Int.toNat_natCast,e,Int.toNat_natCast,FT (by omega),cond_true,aA (by omega),aA (by rw [hN.len];omega),aA (fun _=>by omega),aA (by omega),wr (x:=(k:Int)+1) (by omega),Cr]
   rw [show(at' a i).left=iF a i from rfl,show(at' a i).to_.toNat=tgt a i from rfl]
   unfold iO
   rw [aA ⟨by simp only [List.length_singleton];omega,by simp only [List.length_singleton];omega⟩]
   cases decide (0<iF a i)<;>cases at' sn (tgt a i)<;>rfl
 constructor
 ·refine fT (fun k=>((Cz a (at' fr u) (seen,q) k).1,(Cz a (at' fr u) (seen,q) k).2,(k:Int))) (at' fr u).length _ (fuel_lt (by omega)) (fun k hk=>(step k hk).1) ?_
  unfold bV
  dsimp only
  rw [Int.toNat_natCast,NM (by omega)];rfl
 ·refine fT (fun k=>((Cz a (at' fr u) (seen,q) k).1,(Cz a (at' fr u) (seen,q) k).2,(k:Int))) (at' fr u).length _ (fuel_lt (by omega)) (fun k hk=>(step k hk).2) ?_
  unfold bN
  dsimp only
  rw [Int.toNat_natCast,NM (by omega)];rfl
end
def Apart (m:Nat) (a:List aY) (sink:Nat):Prop:= ∃K:Nat→Prop,XW m a K∧K 0∧ ¬ K sink
section
variable {n m:Nat} {a:List aY} {fr:List (List Int)} (hN:NW n m a fr)
include hN
theorem OU {sink:Nat} (h0:sink≠0) (hs:sink<n): ∃r,eU (sink:Int) (List.replicate n 0) ⟨a,fr⟩=some r∧
  ((r.1=0∧r.2.2=⟨a,fr⟩∧Apart m a sink)∨(r.1=2∧ ∃a',r.2.2=⟨a',fr⟩∧Sm m a a'∧(∀v,v≠0→v≠sink→mM m a' v=mM m a v)∧mM m a' sink<mM m a sink)):=by
 have hn:=hN.n1
 have key:=uY (body:=fG (sink:Int))
  (fun s:List aY × List (List Int) × List Int × List Bool × List af × Int × Int=>s.1=a∧s.2.1=fr∧s.2.2.1.length=n∧(∃par rk t Y,BI n m a s.2.2.1 s.2.2.2.1 (⟨s.2.2.2.2.2.1,s.2.2.2.2.2.2⟩::s.2.2.2.2.1) (fun _=>False) par rk t Y∧ ¬ Y sink)∧cntF s.2.2.2.1+s.2.2.2.2.1.length+1≤n)
  (fun s=>cntF s.2.2.2.1+s.2.2.2.2.1.length+1)
  (fun r:Ex Unit (Nat × List Int × Network)=> ∃v,r= .ret v∧((v.1=0∧v.2.2=⟨a,fr⟩∧Apart m a sink)∨(v.1=2∧ ∃a',v.2.2=⟨a',fr⟩∧Sm m a a'∧(∀w,w≠0→w≠sink→mM m a' w=mM m a w)∧mM m a' sink<mM m a sink)))
  (fun s hI=> ?_)
 ·unfold eU
  dsimp only
  rw [hN.frl,aA ⟨by omega,by omega,by omega⟩,aA ⟨by omega,by rw [List.length_replicate];omega⟩]
  obtain⟨r,e,v,rfl,h⟩:=key FUEL (a,fr,List.replicate n 0,(List.replicate n false).set 0 true,[],0, -1) ⟨rfl,rfl,by simp,⟨_,_,_,_,BI.first hN,id⟩,by
   have:=(BI.first (bys:=[]) hN).tc
   show cntF ((List.replicate n false).set 0 true)+0+1≤n
   omega⟩ (by
   have:=(BI.first (bys:=[]) hN).tc
   show cntF ((List.replicate n false).set 0 true)+0+1<FUEL
   unfold FUEL
   omega)
  rw [Int.toNat_natCast,e]
  exact⟨v,rfl,h⟩
 ·obtain⟨a',fr',by_,seen,q,at0,at1⟩:=s
  obtain⟨rfl,rfl,hl,⟨par,rk,t,Y,hB,hY⟩,hc⟩:=hI
  dsimp only at hl hB hc ⊢
  obtain⟨u,e,hu,hB⟩:=hB.visit hN hl
  have e:at0=(u:Int):=e
  subst e
  unfold fG
  dsimp only
  have hl2:(by_.set u at1).length=n:=by rw [List.length_set];exact hl
  by_cases hus:u=sink
  ·subst hus
   obtain⟨K,p,hw,_⟩:=hB.way hN hl2 _ u (Nat.le_refl _) (.inr rfl)
   obtain⟨a'',e1,g1,g2,g3⟩:=Qb hN h0 (o:=by_) (x20:=at1) rfl hl hs hw
   rw [e1]
   exact .inr ⟨_,rfl,_,rfl, .inr ⟨rfl,a'',rfl,g1,g2,g3⟩⟩
  ·have e1:bT (u:Int) at1 (sink:Int) by_ ⟨a',fr'⟩=some (0,by_.set u at1,⟨a',fr'⟩):=by
    unfold bT
    rw [aA (by omega),decide_eq_false (by omega),Int.toNat_natCast];rfl
   rw [e1]
   simp only [Option.bind_some]
   rw [show Nat.beq 0 0=true from rfl,cond_true,aA (by rw [hN.frl];omega),(Nc hN hB (.inr rfl) (by omega) 0 _).1]
   obtain⟨par2,rk2,t2,h1,h2,h3,h4⟩:=LA hN hB hu (.inr rfl) (at' fr' u).length (Nat.le_refl _)
   have h5:=h1.done hN (.inr rfl) h2
   generalize Cz a' (at' fr' u) (seen,q) (at' fr' u).length=z at h4 h5 ⊢
   obtain⟨sn,qq⟩:=z
   have hY2: ¬ (Y sink∨sink=u):=fun q=>q.elim hY (fun q=>hus q.symm)
   simp only [Option.bind_some]
   unfold ig
   cases qq with
   |nil=>
    right
    refine⟨_,rfl,_,rfl, .inl ⟨rfl,rfl,fun v=>v<n∧at' sn v=true, ?_,⟨by omega,h5.s0⟩, ?_⟩⟩
    ·rintro i hi hl ⟨hv,hs⟩
     rcases h5.g6 _ hv hs with⟨_,g⟩|⟨x,hx,_⟩|g
     ·exact⟨(hN.tl hi).1,g i hi rfl hl⟩
     ·cases hx
     ·exact g.elim
    ·rintro ⟨_,hss⟩
     rcases h5.g6 _ hs hss with⟨g,_⟩|⟨x,hx,_⟩|g
     ·exact hY2 g
     ·cases hx
     ·exact g.elim
   |cons x qr=>
    left
    have h4':cntF sn+(qr.length+1)=cntF seen+q.length:=h4
    refine⟨(a',fr',by_.set u at1,sn,qr,x.e0,x.e1), ?_,⟨rfl,rfl,hl2,⟨_,_,_,_,h5,hY2⟩, ?_⟩, ?_⟩
    ·simp only [List.length_cons]
     rw [decide_eq_false (by omega),cond_false,aA ⟨by omega,by omega⟩];rfl
    ·show cntF sn+qr.length+1≤n
     omega
    ·show cntF sn+qr.length+1<cntF seen+q.length+1
     omega
theorem WQ {sink:Nat} (h0:sink≠0) (hs:sink<n): ∃a',iD (sink:Int) ⟨a,fr⟩=some ⟨a',fr⟩∧Sm m a a'∧(∀v,v≠0→v≠sink→mM m a' v=mM m a v)∧Apart m a' sink:=by
 have hn:=hN.n1
 have key:=uY (body:=iK (sink:Int))
  (fun s:List aY × List (List Int)=>s.2=fr∧Sm m a s.1∧ ∀v,v≠0→v≠sink→mM m s.1 v=mM m a v)
  (fun s=>(mM m s.1 sink).toNat)
  (fun r:Ex Unit Network=> ∃a',r= .ret ⟨a',fr⟩∧Sm m a a'∧(∀v,v≠0→v≠sink→mM m a' v=mM m a v)∧Apart m a' sink)
  (fun s hI=> ?_)
 ·obtain⟨r,e,a',rfl,h⟩:=key FUEL (a,fr) ⟨rfl,⟨rfl,fun _=>rfl,fun _ _=>rfl,fun j hj=>(hN.left j hj).1⟩,fun _ _ _=>rfl⟩ (by
   have:=hN.res sink
   show(mM m a sink).toNat<FUEL
   unfold FUEL;omega)
  unfold iD
  dsimp only
  rw [e]
  exact⟨a',rfl,h⟩
 ·obtain⟨b,fr'⟩:=s
  obtain⟨rfl,h1,h2⟩:=hI
  dsimp only at h1 h2 ⊢
  have hN':=hN.same h1
  unfold iK
  dsimp only
  rw [hN.frl,aA ⟨by omega,by omega,by omega⟩,Int.toNat_natCast]
  obtain⟨r,e,h⟩:=OU hN' h0 hs
  unfold dR
  simp only [Option.bind_some]
  rw [e]
  simp only [Option.bind_some]
  rcases h with⟨r1,r2,r3⟩|⟨r1,a',r2,g1,g2,g3⟩
  ·right
   rw [r1,r2,show Nat.beq 0 0=true from rfl,cond_true]
   exact⟨_,rfl,b,rfl,h1,h2,r3⟩
  ·left
   rw [r1,r2,show Nat.beq 2 0=false from rfl,cond_false,aA rfl]
   refine⟨_,rfl,⟨rfl,h1.trans g1,fun v hv hv2=>(g2 v hv hv2).trans (h2 v hv hv2)⟩, ?_⟩
   have:=(hN'.same g1).res sink
   show(mM m a' sink).toNat<(mM m b sink).toNat
   omega
theorem Rc {p:ah} (hb:0≤p.buses∧p.buses<n): ∃cut,bU a fr p (List.replicate p.buses.toNat false)=some cut∧cut.length=p.buses.toNat∧
  ∃R:Nat→Prop,XW m a R∧R 0∧(∀v,R v→v<n)∧(∀K,XW m a K→K 0→ ∀v,R v→K v)∧ ∀b:Nat,(b:Int)<p.buses→(at' cut b=true↔R (b+1)):=by
 have hn:=hN.n1
 have key:=uY (body:=dS a fr p)
  (fun s:List Bool × List Bool × List af × Int × Int=>s.1.length=p.buses.toNat∧(∃bys par rk t Y,bys.length=n∧BI n m a bys s.2.1 (⟨s.2.2.2.1,s.2.2.2.2⟩::s.2.2.1) (fun _=>False) par rk t Y∧ ∀b:Nat,(b:Int)<p.buses→(at' s.1 b=true↔Y (b+1)))∧cntF s.2.1+s.2.2.1.length+1≤n)
  (fun s=>cntF s.2.1+s.2.2.1.length+1)
  (fun r:Ex Unit (List Bool)=> ∃cut,r= .ret cut∧cut.length=p.buses.toNat∧ ∃R:Nat→Prop,XW m a R∧R 0∧(∀v,R v→v<n)∧(∀K,XW m a K→K 0→ ∀v,R v→K v)∧ ∀b:Nat,(b:Int)<p.buses→(at' cut b=true↔R (b+1)))
  (fun s hI=> ?_)
 ·unfold bU
  rw [hN.frl,aA ⟨by omega,by omega,by omega⟩,aA ⟨by omega,by rw [List.length_replicate];omega⟩]
  obtain⟨r,e,v,rfl,h⟩:=key FUEL (List.replicate p.buses.toNat false,(List.replicate n false).set 0 true,[],0, -1) ⟨by simp,⟨List.replicate n 0,_,_,_,_,by simp,BI.first hN,fun b hb2=>by
   show at' (List.replicate p.buses.toNat false) b=true↔False
   rw [eZ (by omega)];simp⟩,by
   have:=(BI.first (bys:=[]) hN).tc
   show cntF ((List.replicate n false).set 0 true)+0+1≤n
   omega⟩ (by
   have:=(BI.first (bys:=[]) hN).tc
   show cntF ((List.replicate n false).set 0 true)+0+1<FUEL
   unfold FUEL
   omega)
  rw [Int.toNat_natCast,e]
  exact⟨v,rfl,h⟩
 ·obtain⟨o,seen,q,at0,at1⟩:=s
  obtain⟨ho,⟨bys,par,rk,t,Y,hl,hB,hO⟩,hc⟩:=hI
  dsimp only at ho hB hO hc ⊢
  obtain⟨u,e,hu,hB⟩:=hB.visit hN hl
  have e:at0=(u:Int):=e
  subst e
  unfold dS
  dsimp only
  have hl2:(bys.set u at1).length=n:=by rw [List.length_set];exact hl
  obtain⟨o2,e1,ho2,hO2⟩: ∃o2,jB (u:Int) at1 p o=some o2∧o2.length=p.buses.toNat∧ ∀b:Nat,(b:Int)<p.buses→(at' o2 b=true↔Y (b+1)∨b+1=u):=by
   unfold jB
   rw [wr (x:=(u:Int) - 1) (by omega)]
   by_cases c:0<(u:Int)∧(u:Int)≤p.buses
   ·rw [decide_eq_true c.1,decide_eq_true c.2]
    simp only [cond_true]
    rw [aA (by rw [ho];omega)]
    refine⟨_,rfl,by rw [List.length_set];exact ho,fun b hb2=> ?_⟩
    rw [eB (by rw [ho];omega),hO b hb2,or_comm]
    exact or_congr Iff.rfl (by omega)
   ·have:(bif decide (0<(u:Int))then decide ((u:Int)≤p.buses)else false)=false:=by
     by_cases c1:0<(u:Int)
     ·rw [decide_eq_true c1,cond_true,decide_eq_false (fun q=>c ⟨c1,q⟩)]
     ·rw [decide_eq_false c1,cond_false]
    rw [this,cond_false]
    exact⟨_,rfl,ho,fun b hb2=>(hO b hb2).trans ⟨.inl,fun q=>q.elim id (fun q=>by omega)⟩⟩
  rw [e1]
  simp only [Option.bind_some]
  rw [aA (by rw [hN.frl];omega),(Nc hN hB (.inr rfl) (by omega) 0 []).2]
  obtain⟨par2,rk2,t2,h1,h2,h3,h4⟩:=LA hN hB hu (.inr rfl) (at' fr u).length (Nat.le_refl _)
  have h5:=h1.done hN (.inr rfl) h2
  generalize Cz a (at' fr u) (seen,q) (at' fr u).length=z at h4 h5 ⊢
  obtain⟨sn,qq⟩:=z
  simp only [Option.bind_some]
  unfold ig
  cases qq with
  |nil=>
   right
   have hall: ∀v,v<n→at' sn v=true→(Y v∨v=u)∧ ∀i,i<2*m→tgt a (tw i)=v→0<iF a i→at' sn (tgt a i)=true:=fun v hv hs=>by
    rcases h5.g6 _ hv hs with g|⟨x,hx,_⟩|g
    ·exact g
    ·cases hx
    ·exact g.elim
   refine⟨_,rfl,_,rfl,ho2,fun v=>v<n∧at' sn v=true, ?_,⟨by omega,h5.s0⟩,fun v h=>h.1,fun K hK hK0 v h=>h5.g7 K hK hK0 v h.1 h.2,fun b hb2=>(hO2 b hb2).trans ⟨fun h=> ?_,fun h=>(hall _ h.1 h.2).1⟩⟩
   ·rintro i hi hl ⟨hv,hs⟩
    exact⟨(hN.tl hi).1,(hall _ hv hs).2 i hi rfl hl⟩
   ·have:=h5.g3 (b+1) h
    exact⟨this.1,this.2.1⟩
  |cons x qr=>
   left
   have h4':cntF sn+(qr.length+1)=cntF seen+q.length:=h4
   refine⟨(o2,sn,qr,x.e0,x.e1), ?_,⟨ho2,⟨_,_,_,_,_,hl2,h5,hO2⟩, ?_⟩, ?_⟩
   ·simp only [List.length_cons]
    rw [decide_eq_false (by omega),cond_false,aA ⟨by omega,by omega⟩];rfl
   ·show cntF sn+qr.length+1≤n
    omega
   ·show cntF sn+qr.length+1<cntF seen+q.length+1
    omega
end
def Pr (a:List aY) (j:Nat) (u v:Nat) (t k:Int):Prop:=at' a (2*j)=⟨(v:Int),t⟩∧at' a (2*j+1)=⟨(u:Int),k⟩
theorem vk {α:Type} [Inhabited α] {l x:List α} {i:Nat} (h:i<l.length):at' (l++x) i=at' l i:=by
 rw [iw (by rw [List.length_append];omega),iw h,List.getElem_append_left h]
theorem zO {α:Type} [Inhabited α] {l x:List α} {i:Nat} (h:i<x.length):at' (l++x) (l.length+i)=at' x i:=by
 rw [iw (by rw [List.length_append];omega),iw h,List.getElem_append_right (by omega)]
 congr 1;omega
theorem Pr.app {a x:List aY} {j u v:Nat} {t k:Int} (h:Pr a j u v t k) (hl:2*j+1<a.length):Pr (a++x) j u v t k:=⟨(vk (by omega)).trans h.1,(vk hl).trans h.2⟩
theorem LK {n m:Nat} {a:List aY} {fr:List (List Int)} (hN:NW n m a fr) {u v:Nat} {t k:Int} (hu:u<n) (hv:v<n) (huv:u≠v) (ht:0≤t) (hk:0≤k) (htk:t+k≤1000000) (hm:m+1≤1000):
  ∃fr',dw (u:Int) (v:Int) t k ⟨a,fr⟩=some (((2*m:Nat):Int),⟨a++[⟨(v:Int),t⟩,⟨(u:Int),k⟩],fr'⟩)∧NW n (m+1) (a++[⟨(v:Int),t⟩,⟨(u:Int),k⟩]) fr'∧Pr (a++[⟨(v:Int),t⟩,⟨(u:Int),k⟩]) m u v t k:=by
 have hlen:=hN.len
 have hfl:=hN.frl
 have hfu:=hN.frn u hu
 have hfv:=hN.frn v hv
 have hb: ∀i,i<2*m→at' (a++[⟨(v:Int),t⟩,⟨(u:Int),k⟩]) i=at' a i:=fun i hi=>vk (by omega)
 have hb0:at' (a++[⟨(v:Int),t⟩,⟨(u:Int),k⟩]) (2*m)=⟨(v:Int),t⟩:=by rw [←hlen];exact zO (i:=0) (by simp)
 have hb1:at' (a++[⟨(v:Int),t⟩,⟨(u:Int),k⟩]) (2*m+1)=⟨(u:Int),k⟩:=by rw [←hlen];exact zO (i:=1) (by simp)
 have e1:at' (fr.set u (at' fr u++[((2*m:Nat):Int)])) v=at' fr v:=d9 huv
 refine⟨(fr.set u (at' fr u++[((2*m:Nat):Int)])).set v (at' fr v++[((2*m+1:Nat):Int)]), ?_, ?_,hb0,hb1⟩
 ·unfold dw
  dsimp only
  simp only [List.length_cons,List.length_nil]
  rw [Int.toNat_natCast,Int.toNat_natCast,aA ⟨by omega,by omega⟩,aA ⟨by omega,by omega,by omega⟩,hlen,e1,aA ⟨by rw [List.length_set];omega,by omega,by omega⟩,wr (x:=((2*m:Nat):Int)+1) (by omega),Cr]
 ·have hfr: ∀w,at' ((fr.set u (at' fr u++[((2*m:Nat):Int)])).set v (at' fr v++[((2*m+1:Nat):Int)])) w=if w=v then at' fr v++[((2*m+1:Nat):Int)]else if w=u then at' fr u++[((2*m:Nat):Int)]else at' fr w:=fun w=>by
   by_cases h1:v=w
   ·subst h1;rw [fM (by rw [List.length_set];omega),if_pos rfl]
   ·rw [d9 h1,if_neg (Ne.symm h1)]
    by_cases h2:u=w
    ·subst h2;rw [fM (by omega),if_pos rfl]
    ·rw [d9 h2,if_neg (Ne.symm h2)]
  have tg: ∀i,i<2*m→tgt (a++[⟨(v:Int),t⟩,⟨(u:Int),k⟩]) i=tgt a i:=fun i hi=>by unfold tgt;rw [hb i hi]
  have tg0:tgt (a++[⟨(v:Int),t⟩,⟨(u:Int),k⟩]) (2*m)=v:=by unfold tgt;rw [hb0];rfl
  have tg1:tgt (a++[⟨(v:Int),t⟩,⟨(u:Int),k⟩]) (2*m+1)=u:=by unfold tgt;rw [hb1];rfl
  have t0:tw (2*m)=2*m+1:=by unfold tw;rw [if_pos (by omega)]
  have t1:tw (2*m+1)=2*m:=by unfold tw;rw [if_neg (by omega)];omega
  have cs: ∀i,i<2*(m+1)→i<2*m∨i=2*m∨i=2*m+1:=fun i hi=>by omega
  refine⟨hN.n1,hm,by simp;omega,fun i hi=> ?_,fun i hi=> ?_,by simp [hfl],fun w hw x hx=> ?_,fun i hi=> ?_,fun w hw=> ?_⟩
  ·rcases cs i hi with h|rfl|rfl
   ·rw [hb i h];exact hN.to i h
   ·rw [hb0];show 0≤(v:Int)∧(v:Int)<n;omega
   ·rw [hb1];show 0≤(u:Int)∧(u:Int)<n;omega
  ·unfold iF
   rcases cs i hi with h|rfl|rfl
   ·rw [hb i h,hb _ (Ei h)];exact hN.left i h
   ·rw [t0,hb0,hb1];exact⟨ht,htk⟩
   ·rw [t1,hb0,hb1];exact⟨hk,by show k+t≤_;omega⟩
  ·rw [hfr]at hx
   have old: ∀w,w<n→ ∀x∈at' fr w,∃i:Nat,x=(i:Int)∧i<2*(m+1)∧tgt (a++[⟨(v:Int),t⟩,⟨(u:Int),k⟩]) (tw i)=w:=fun w hw x hx=>by
    obtain⟨i,h1,h2,h3⟩:=hN.fr1 w hw x hx
    exact⟨i,h1,by omega,by rw [tg _ (Ei h2)];exact h3⟩
   split at hx
   ·rename_i e;subst e
    rw [List.mem_append,List.mem_singleton]at hx
    rcases hx with hx|rfl
    ·exact old _ hw x hx
    ·exact⟨_,rfl,by omega,by rw [t1];exact tg0⟩
   ·split at hx
    ·rename_i e;subst e
     rw [List.mem_append,List.mem_singleton]at hx
     rcases hx with hx|rfl
     ·exact old _ hw x hx
     ·exact⟨_,rfl,by omega,by rw [t0];exact tg1⟩
    ·exact old _ hw x hx
  ·rw [hfr]
   rcases cs i hi with h|rfl|rfl
   ·rw [tg _ (Ei h)]
    have:=hN.fr2 i h
    split
    ·rename_i e;rw [e]at this;exact List.mem_append_left _ this
    ·split
     ·rename_i e;rw [e]at this;exact List.mem_append_left _ this
     ·exact this
   ·rw [t0,tg1,if_neg huv,if_pos rfl];exact List.mem_append_right _ (List.mem_singleton_self _)
   ·rw [t1,tg0,if_pos rfl];exact List.mem_append_right _ (List.mem_singleton_self _)
  ·rw [hfr]
   have:=hN.frn w hw
   split
   ·rw [List.length_append,List.length_singleton];omega
   ·split
    ·rw [List.length_append,List.length_singleton];omega
    ·omega
theorem NW.nil {n:Nat} (h:1≤n∧n≤1000):NW n 0 [] (List.replicate n []):=by
 refine⟨h,by omega,rfl,fun i hi=>by omega,fun i hi=>by omega,by simp,fun v hv x hx=> ?_,fun i hi=>by omega,fun v hv=> ?_⟩
 ·rw [eZ hv]at hx;cases hx
 ·rw [eZ hv];simp
def kg (f:Nat→Bool):Nat→Nat
 |0=>0
 |k+1=>kg f k+(if f k=true then 1 else 0)
theorem Ee (f:Nat→Bool) (k:Nat):kg f (k+1)=kg f k+(if f k=true then 1 else 0):=rfl
theorem LM (f:Nat→Bool) (k:Nat):kg f k≤k:=by
 induction k with
 |zero=>exact Nat.le_refl _
 |succ k ih=>rw [Ee];split<;>omega
theorem Vl (f:Nat→Bool) {j k:Nat} (h:j≤k):kg f j≤kg f k:=by
 induction k with
 |zero=>
  have:j=0:=by omega
  subst this;exact Nat.le_refl _
 |succ k ih=>
  by_cases e:j=k+1
  ·subst e;exact Nat.le_refl _
  ·have:=ih (by omega);rw [Ee];split<;>omega
theorem yZ {f:Nat→Bool} {j k:Nat} (h:j<k) (hf:f j=true):kg f j<kg f k:=by
 have h1:kg f (j+1)=kg f j+1:=by show kg f j+_=_;rw [if_pos hf]
 have:=Vl f (show j+1≤k by omega)
 omega
theorem KV (f:Nat→Bool) (g:Nat→Int) (o:Nat): ∀k,aT (o+kg f k) g=aT o g+aT k fun i=>if f i=true then g (o+kg f i)else 0
 |0=>by simp [kg,aT]
 |k+1=>by
  have ih:=KV f g o k
  rw [Ee,aT]
  cases hf:f k with
  |true=>rw [if_pos rfl,if_pos rfl,show o+(kg f k+1)=(o+kg f k)+1 by omega,aT,ih];omega
  |false=>rw [if_neg (by simp),if_neg (by simp),Nat.add_zero,ih];omega
def Ky (f:Nat→Bool) (o:Nat):Nat→List (Int × Int)
 |0=>[]
 |k+1=>Ky f o k++(if f k=true then [((k:Int),((2*(o+kg f k):Nat):Int))]else [])
theorem DN {f:Nat→Bool} {o:Nat}: ∀{k:Nat} {e:Int × Int},e∈Ky f o k↔ ∃i,i<k∧f i=true∧e=((i:Int),((2*(o+kg f i):Nat):Int))
 |0,e=>by simp [Ky]
 |k+1,e=>by
  unfold Ky
  rw [List.mem_append,DN]
  constructor
  ·rintro (⟨i,h1,h2,h3⟩|h)
   ·exact⟨i,by omega,h2,h3⟩
   ·split at h
    ·rename_i hf;rw [List.mem_singleton]at h;exact⟨k,by omega,hf,h⟩
    ·cases h
  ·rintro ⟨i,h1,h2,h3⟩
   by_cases e1:i=k
   ·subst e1;right;rw [if_pos h2,List.mem_singleton];exact h3
   ·exact .inl ⟨i,by omega,h2,h3⟩
theorem Ew {κ α:Type} {eq:κ→κ→Bool} {k:κ} {v:α}: ∀{l:List (κ × α)},(∀e∈l,eq k e.1=false)→jF eq k v l=l++[(k,v)]
 |[],_=>rfl
 |(k',v')::l,h=>by
  have h1:=h (k',v') List.mem_cons_self
  unfold jF
  rw [h1,cond_false,Ew fun e he=>h e (List.mem_cons_of_mem _ he)];rfl
section
variable {p:ah} {s:State} (hp:VP p) (hs:VS p s)
include hp hs
def nodes (p:ah):Nat:=2+p.buses.toNat+p.racks.length
theorem Ti: ∃a fr,aS (jr p s) FUEL ([],List.replicate (nodes p) [],[],0)=some (.brk (p.sources,a,fr,List.replicate p.sources.length 0,Ky (bH p s) 0 p.sources.length))∧NW (nodes p) (kg (bH p s) p.sources.length) a fr∧
  ∀k,k<p.sources.length→bH p s k=true→Pr a (kg (bH p s) k) 0 (1+(at' p.sources k).bus.toNat) (at' p.sources k).power 0:=by
 have hsl:=hp.sl;have hrl:=hp.rl;have hb:=hp.b
 have key:=uY (body:=jr p s)
  (fun z:List aY × List (List Int) × List (Int × Int) × Int=> ∃k:Nat,z.2.2.2=(k:Int)∧k≤p.sources.length∧NW (nodes p) (kg (bH p s) k) z.1 z.2.1∧z.2.2.1=Ky (bH p s) 0 k∧ ∀j,j<k→bH p s j=true→Pr z.1 (kg (bH p s) j) 0 (1+(at' p.sources j).bus.toNat) (at' p.sources j).power 0)
  (fun z=>p.sources.length - z.2.2.2.toNat)
  (fun r=> ∃a fr,r= .brk (p.sources,a,fr,List.replicate p.sources.length 0,Ky (bH p s) 0 p.sources.length)∧NW (nodes p) (kg (bH p s) p.sources.length) a fr∧ ∀k,k<p.sources.length→bH p s k=true→Pr a (kg (bH p s) k) 0 (1+(at' p.sources k).bus.toNat) (at' p.sources k).power 0)
  (fun z hI=> ?_)
 ·obtain⟨r,e,a,fr,rfl,h⟩:=key FUEL ([],List.replicate (nodes p) [],[],0) ⟨0,rfl,by omega,NW.nil (by unfold nodes;omega),rfl,fun j hj=>by omega⟩ (by show p.sources.length - _<FUEL;unfold FUEL;omega)
  exact⟨a,fr,e,h⟩
 ·obtain⟨a,fr,mp,t⟩:=z
  obtain⟨k,rfl,hk,hN,hm,hP⟩:=hI
  dsimp only at hN hm hP ⊢
  subst hm
  unfold jr
  dsimp only
  by_cases hk2:k<p.sources.length
  ·left
   have hv:=hp.src k hk2;have hbus:=hv.bus;have hw:=hv.power
   have hcl:=LM (bH p s) k
   rw [FT (by omega),cond_true,aA (by omega),zw hp hs hk2,Option.bind_some,Int.toNat_natCast,wr (x:=(k:Int)+1) (by omega)]
   have h1:kg (bH p s) (k+1)=kg (bH p s) k+(if bH p s k=true then 1 else 0):=rfl
   have hm1:Ky (bH p s) 0 (k+1)=Ky (bH p s) 0 k++(if bH p s k=true then [((k:Int),((2*(0+kg (bH p s) k):Nat):Int))]else []):=rfl
   cases hf:bH p s k with
   |false=>
    rw [hf,if_neg (by simp)]at h1 hm1
    rw [cond_false]
    refine⟨_,rfl,⟨k+1,by simp,by omega,by rw [h1];exact hN,by rw [hm1,List.append_nil],fun j hj hfj=> ?_⟩, ?_⟩
    ·by_cases e:j=k
     ·subst e;rw [hf]at hfj;cases hfj
     ·exact hP j (by omega) hfj
    ·show p.sources.length - ((k:Int)+1).toNat<p.sources.length - (k:Int).toNat
     omega
   |true=>
    rw [hf,if_pos rfl]at h1 hm1
    have e1:IntKind.wrap .i64 (1+(at' p.sources k).bus)=((1+(at' p.sources k).bus.toNat:Nat):Int):=by rw [wr (by omega)];omega
    obtain⟨fr',g1,g2,g3⟩:=LK hN (u:=0) (v:=1+(at' p.sources k).bus.toNat) (t:=(at' p.sources k).power) (k:=0) (by unfold nodes;omega) (by unfold nodes;omega) (by omega) (by omega) (by omega) (by omega) (by omega)
    rw [cond_true,e1]
    have g1':dw 0 ((1+(at' p.sources k).bus.toNat:Nat):Int) (at' p.sources k).power 0 ⟨a,fr⟩=_:=g1
    rw [g1',Option.bind_some]
    refine⟨_,rfl,⟨k+1,by simp,by omega,by rw [h1];exact g2, ?_,fun j hj hfj=> ?_⟩, ?_⟩
    ·rw [hm1]
     rw [Nat.zero_add]
     exact Ew fun e he=>by
      obtain⟨i,h1,h2,rfl⟩:=DN.1 he
      exact Vf (by show(k:Int)≠(i:Int);omega)
    ·by_cases e:j=k
     ·subst e;exact g3
     ·refine(hP j (by omega) hfj).app ?_
      have:=yZ (show j<k by omega) hfj
      rw [hN.len];omega
    ·show p.sources.length - ((k:Int)+1).toNat<p.sources.length - (k:Int).toNat
     omega
  ·right
   have:k=p.sources.length:=by omega
   subst this
   rw [NM (by omega),cond_false,Int.toNat_natCast]
   exact⟨_,rfl,a,fr,rfl,hN,hP⟩
end
def Kp (m:Nat) (a b:List aY):Prop:= ∀j u v t k,j<m→Pr a j u v t k→Pr b j u v t k
def Ta (p:ah) (s:State) (r:Nat):Nat:=1+(if iG s (at' p.racks r).feeds.e0=true then 1 else 0)+(if iG s (at' p.racks r).feeds.e1=true then 1 else 0)
def qf (p:ah) (s:State):Nat→Nat
 |0=>0
 |k+1=>qf p s k+Ta p s k
theorem Aq (p:ah) (s:State) (k:Nat):qf p s (k+1)=qf p s k+Ta p s k:=rfl
theorem PZ (p:ah) (s:State) (r:Nat):1≤Ta p s r∧Ta p s r≤3:=by unfold Ta;split<;>split<;>omega
theorem Tj (p:ah) (s:State) (k:Nat):qf p s k≤3*k:=by
 induction k with
 |zero=>exact Nat.le_refl _
 |succ k ih=>rw [Aq];have:=PZ p s k;omega
theorem Li {p:ah} {s:State} {j k:Nat} (h:j<k):qf p s j+Ta p s j≤qf p s k:=by
 induction k with
 |zero=>omega
 |succ k ih=>
  rw [Aq]
  by_cases e:j=k
  ·subst e;exact Nat.le_refl _
  ·have:=ih (by omega);omega
def lV (p:ah) (s:State) (o r:Nat) (c:Bool):Nat:=o+qf p s r+1+(if c=true∧iG s (at' p.racks r).feeds.e0=true then 1 else 0)
def NR (p:ah) (s:State) (o r:Nat):List (af × Int):=if iG s (at' p.racks r).feeds.e0=true then [(⟨(r:Int),0⟩,((2*lV p s o r false:Nat):Int))]else []
def abl (p:ah) (s:State) (o r:Nat):List (af × Int):=if iG s (at' p.racks r).feeds.e1=true then [(⟨(r:Int),1⟩,((2*lV p s o r true:Nat):Int))]else []
def Jy (p:ah) (s:State) (o:Nat):Nat→List (af × Int)
 |0=>[]
 |k+1=>Jy p s o k++NR p s o k++abl p s o k
theorem Bg {p:ah} {s:State} {o:Nat}: ∀{k:Nat} {e:af × Int},e∈Jy p s o k↔ ∃r,r<k∧((iG s (at' p.racks r).feeds.e0=true∧e=(⟨(r:Int),0⟩,((2*lV p s o r false:Nat):Int)))∨(iG s (at' p.racks r).feeds.e1=true∧e=(⟨(r:Int),1⟩,((2*lV p s o r true:Nat):Int))))
 |0,e=>by simp [Jy]
 |k+1,e=>by
  unfold Jy
  rw [List.mem_append,List.mem_append,Bg]
  constructor
  ·rintro ((⟨i,h1,h2⟩|h)|h)
   ·exact⟨i,by omega,h2⟩
   ·unfold NR at h
    split at h
    ·rename_i hf;rw [List.mem_singleton]at h;exact⟨k,by omega, .inl ⟨hf,h⟩⟩
    ·cases h
   ·unfold abl at h
    split at h
    ·rename_i hf;rw [List.mem_singleton]at h;exact⟨k,by omega, .inr ⟨hf,h⟩⟩
    ·cases h
  ·rintro ⟨i,h1,h2⟩
   by_cases e1:i=k
   ·subst e1
    rcases h2 with⟨hf,h⟩|⟨hf,h⟩
    ·left;right;unfold NR;rw [if_pos hf,List.mem_singleton];exact h
    ·right;unfold abl;rw [if_pos hf,List.mem_singleton];exact h
   ·exact .inl (.inl ⟨i,by omega,h2⟩)
section
variable {p:ah} {s:State} (hp:VP p) (hs:VS p s)
include hp hs
theorem UN {m0:Nat} {a0:List aY} {fr0:List (List Int)} (hN0:NW (nodes p) m0 a0 fr0) (hm0:m0≤8): ∃a fr,aS (jo p s p.sources) FUEL (a0,fr0,[],0)=some (.brk (p.links,a,fr,List.replicate p.links.length 0,Ky (bG p s) m0 p.links.length))∧NW (nodes p) (m0+kg (bG p s) p.links.length) a fr∧Kp m0 a0 a∧
  ∀k,k<p.links.length→bG p s k=true→Pr a (m0+kg (bG p s) k) (1+(at' p.links k).a.toNat) (1+(at' p.links k).b.toNat) (at' p.links k).most (at' p.links k).most:=by
 have hsl:=hp.ll;have hrl:=hp.rl;have hb:=hp.b
 have key:=uY (body:=jo p s p.sources)
  (fun z:List aY × List (List Int) × List (Int × Int) × Int=> ∃k:Nat,z.2.2.2=(k:Int)∧k≤p.links.length∧NW (nodes p) (m0+kg (bG p s) k) z.1 z.2.1∧z.2.2.1=Ky (bG p s) m0 k∧Kp m0 a0 z.1∧ ∀j,j<k→bG p s j=true→Pr z.1 (m0+kg (bG p s) j) (1+(at' p.links j).a.toNat) (1+(at' p.links j).b.toNat) (at' p.links j).most (at' p.links j).most)
  (fun z=>p.links.length - z.2.2.2.toNat)
  (fun r=> ∃a fr,r= .brk (p.links,a,fr,List.replicate p.links.length 0,Ky (bG p s) m0 p.links.length)∧NW (nodes p) (m0+kg (bG p s) p.links.length) a fr∧Kp m0 a0 a∧ ∀k,k<p.links.length→bG p s k=true→Pr a (m0+kg (bG p s) k) (1+(at' p.links k).a.toNat) (1+(at' p.links k).b.toNat) (at' p.links k).most (at' p.links k).most)
  (fun z hI=> ?_)
 ·obtain⟨r,e,a,fr,rfl,h⟩:=key FUEL (a0,fr0,[],0) ⟨0,rfl,by omega,hN0,rfl,fun j u v t k _ h=>h,fun j hj=>by omega⟩ (by show p.links.length - _<FUEL;unfold FUEL;omega)
  exact⟨a,fr,e,h⟩
 ·obtain⟨a,fr,mp,t⟩:=z
  obtain⟨k,rfl,hk,hN,hm,hKp,hP⟩:=hI
  dsimp only at hN hm hKp hP ⊢
  subst hm
  unfold jo
  dsimp only
  by_cases hk2:k<p.links.length
  ·left
   have hv:=hp.lnk k hk2;have ha:=hv.a;have hbb:=hv.b;have hne:=hv.ab;have hw:=hv.most
   have hcl:=LM (bG p s) k
   have hc:dz ⟨p.buses,p.sources,p.links,p.racks⟩ s (k:Int)=some (bG p s k):=Ao hp hs hk2
   rw [FT (by omega),cond_true,aA (by omega),hc,Option.bind_some,Int.toNat_natCast,wr (x:=(k:Int)+1) (by omega)]
   have h1:kg (bG p s) (k+1)=kg (bG p s) k+(if bG p s k=true then 1 else 0):=rfl
   have hm1:Ky (bG p s) m0 (k+1)=Ky (bG p s) m0 k++(if bG p s k=true then [((k:Int),((2*(m0+kg (bG p s) k):Nat):Int))]else []):=rfl
   cases hf:bG p s k with
   |false=>
    rw [hf,if_neg (by simp)]at h1 hm1
    rw [cond_false]
    refine⟨_,rfl,⟨k+1,by simp,by omega,by rw [h1];exact hN,by rw [hm1,List.append_nil],hKp,fun j hj hfj=> ?_⟩, ?_⟩
    ·by_cases e:j=k
     ·subst e;rw [hf]at hfj;cases hfj
     ·exact hP j (by omega) hfj
    ·show p.links.length - ((k:Int)+1).toNat<p.links.length - (k:Int).toNat
     omega
   |true=>
    rw [hf,if_pos rfl]at h1 hm1
    have e1:IntKind.wrap .i64 (1+(at' p.links k).a)=((1+(at' p.links k).a.toNat:Nat):Int):=by rw [wr (by omega)];omega
    have e2:IntKind.wrap .i64 (1+(at' p.links k).b)=((1+(at' p.links k).b.toNat:Nat):Int):=by rw [wr (by omega)];omega
    obtain⟨fr',g1,g2,g3⟩:=LK hN (u:=1+(at' p.links k).a.toNat) (v:=1+(at' p.links k).b.toNat) (t:=(at' p.links k).most) (k:=(at' p.links k).most) (by unfold nodes;omega) (by unfold nodes;omega) (by omega) (by omega) (by omega) (by omega) (by omega)
    rw [cond_true,e1,e2,g1,Option.bind_some]
    refine⟨_,rfl,⟨k+1,by simp,by omega,by rw [h1];exact g2, ?_,fun j u v t k hj h=>(hKp j u v t k hj h).app (by rw [hN.len];omega),fun j hj hfj=> ?_⟩, ?_⟩
    ·rw [hm1]
     exact Ew fun e he=>by
      obtain⟨i,h1,h2,rfl⟩:=DN.1 he
      exact Vf (by show(k:Int)≠(i:Int);omega)
    ·by_cases e:j=k
     ·subst e;exact g3
     ·refine(hP j (by omega) hfj).app ?_
      have:=yZ (show j<k by omega) hfj
      rw [hN.len];omega
    ·show p.links.length - ((k:Int)+1).toNat<p.links.length - (k:Int).toNat
     omega
  ·right
   have:k=p.links.length:=by omega
   subst this
   rw [NM (by omega),cond_false,Int.toNat_natCast]
   exact⟨_,rfl,a,fr,rfl,hN,hKp,hP⟩
theorem Jp {m:Nat} {a:List aY} {fr:List (List Int)} (hN:NW (nodes p) m a fr) (hm:m+1≤1000) {r:Nat} (hr:r<p.racks.length) (mp:List (af × Int)) {c:Nat} {b:Int} (hc:at' [(at' p.racks r).feeds.e0,(at' p.racks r).feeds.e1] c=b) (hc2:c<2) (hb1: -1≤b∧b<p.buses) (hnew: ∀e∈mp,e.1≠⟨(r:Int),(c:Int)⟩):
  ∃a' fr',fV p s p.racks (r:Int) (a,fr,mp,(c:Int))=some (.next (a',fr',mp++(if iG s b=true then [(⟨(r:Int),(c:Int)⟩,((2*m:Nat):Int))]else []),((c+1:Nat):Int)))∧NW (nodes p) (m+(if iG s b=true then 1 else 0)) a' fr'∧Kp m a a'∧(iG s b=true→Pr a' m (1+b.toNat) (1+p.buses.toNat+r) (at' p.racks r).power 0):=by
 have hrl:=hp.rl;have hb:=hp.b
 have hw:=(hp.rck r hr).power
 have h4:=hs.badBus
 have hf:fO s b=some (iG s b):=by
  unfold fO iG
  rw [aA (fun h=> ⟨of_decide_eq_true (gB1 h),by omega⟩)]
  cases decide (0≤b)<;>rfl
 unfold fV
 dsimp only
 rw [Int.toNat_natCast,Int.toNat_natCast,FT (by omega),cond_true,aA (by omega),hc,hf,Option.bind_some,wr (x:=(c:Int)+1) (by omega)]
 cases hfb:iG s b with
 |false=>
  refine⟨a,fr, ?_,hN,fun j u v t k _ h=>h,fun h=>by cases h⟩
  rw [if_neg (by simp),List.append_nil];rfl
 |true=>
  have hb0:0≤b:=by unfold iG at hfb;rw [Bool.and_eq_true,decide_eq_true_eq]at hfb;exact hfb.1
  have e1:IntKind.wrap .i64 (1+b)=((1+b.toNat:Nat):Int):=by rw [wr (by omega)];omega
  have e2:IntKind.wrap .i64 (IntKind.wrap .i64 (1+p.buses)+(r:Int))=((1+p.buses.toNat+r:Nat):Int):=by rw [wr (x:=1+p.buses) (by omega),wr (by omega)];omega
  obtain⟨fr',g1,g2,g3⟩:=LK hN (u:=1+b.toNat) (v:=1+p.buses.toNat+r) (t:=(at' p.racks r).power) (k:=0) (by unfold nodes;omega) (by unfold nodes;omega) (by omega) (by omega) (by omega) (by omega) hm
  refine⟨_,fr', ?_,g2,fun j u v t k hj h=>h.app (by rw [hN.len];omega),fun _=>g3⟩
  rw [cond_true,e1,e2,g1,Option.bind_some,if_pos rfl]
  rw [Ew (fun e he=>by
   have:=hnew e he
   cases h1:(decide ((r:Int)=e.1.e0) && (decide ((c:Int)=e.1.e1) && true))with
   |false=>rfl
   |true=>
    rw [Bool.and_true,Bool.and_eq_true,decide_eq_true_eq,decide_eq_true_eq]at h1
    refine absurd ?_ this
    obtain⟨⟨x,y⟩,z⟩:=e
    obtain⟨rfl,rfl⟩:=h1;rfl)]
  rfl
theorem Tm {m0:Nat} {a0:List aY} {fr0:List (List Int)} (hN0:NW (nodes p) m0 a0 fr0) (hm0:m0≤48) (x2:List af): ∃a fr,aS (jv p s) FUEL (p.racks,((1+p.buses.toNat+p.racks.length:Nat):Int),a0,fr0,x2,[],p.racks,(p.racks.length:Int),0)=some (.brk (p.racks,((1+p.buses.toNat+p.racks.length:Nat):Int),a,fr,x2,Jy p s m0 p.racks.length))∧NW (nodes p) (m0+qf p s p.racks.length) a fr∧Kp m0 a0 a∧
  ∀r,r<p.racks.length→Pr a (m0+qf p s r) (1+p.buses.toNat+r) (1+p.buses.toNat+p.racks.length) (at' p.racks r).power 0∧(iG s (at' p.racks r).feeds.e0=true→Pr a (lV p s m0 r false) (1+(at' p.racks r).feeds.e0.toNat) (1+p.buses.toNat+r) (at' p.racks r).power 0)∧(iG s (at' p.racks r).feeds.e1=true→Pr a (lV p s m0 r true) (1+(at' p.racks r).feeds.e1.toNat) (1+p.buses.toNat+r) (at' p.racks r).power 0):=by
 have hrl:=hp.rl;have hb:=hp.b
 have key:=uY (body:=jv p s)
  (fun z:List ay × Int × List aY × List (List Int) × List af × List (af × Int) × List ay × Int × Int=> ∃k a fr,z=(p.racks,((1+p.buses.toNat+p.racks.length:Nat):Int),a,fr,x2,Jy p s m0 k,p.racks,(p.racks.length:Int),(k:Int))∧k≤p.racks.length∧NW (nodes p) (m0+qf p s k) a fr∧Kp m0 a0 a∧ ∀r,r<k→Pr a (m0+qf p s r) (1+p.buses.toNat+r) (1+p.buses.toNat+p.racks.length) (at' p.racks r).power 0∧(iG s (at' p.racks r).feeds.e0=true→Pr a (lV p s m0 r false) (1+(at' p.racks r).feeds.e0.toNat) (1+p.buses.toNat+r) (at' p.racks r).power 0)∧(iG s (at' p.racks r).feeds.e1=true→Pr a (lV p s m0 r true) (1+(at' p.racks r).feeds.e1.toNat) (1+p.buses.toNat+r) (at' p.racks r).power 0))
  (fun z=>p.racks.length - z.2.2.2.2.2.2.2.2.toNat)
  (fun q=> ∃a fr,q= .brk (p.racks,((1+p.buses.toNat+p.racks.length:Nat):Int),a,fr,x2,Jy p s m0 p.racks.length)∧NW (nodes p) (m0+qf p s p.racks.length) a fr∧Kp m0 a0 a∧ ∀r,r<p.racks.length→Pr a (m0+qf p s r) (1+p.buses.toNat+r) (1+p.buses.toNat+p.racks.length) (at' p.racks r).power 0∧(iG s (at' p.racks r).feeds.e0=true→Pr a (lV p s m0 r false) (1+(at' p.racks r).feeds.e0.toNat) (1+p.buses.toNat+r) (at' p.racks r).power 0)∧(iG s (at' p.racks r).feeds.e1=true→Pr a (lV p s m0 r true) (1+(at' p.racks r).feeds.e1.toNat) (1+p.buses.toNat+r) (at' p.racks r).power 0))
  (fun z hI=> ?_)
 ·obtain⟨r,e,a,fr,rfl,h⟩:=key FUEL (p.racks,((1+p.buses.toNat+p.racks.length:Nat):Int),a0,fr0,x2,[],p.racks,(p.racks.length:Int),0) ⟨0,a0,fr0,rfl,by omega,hN0,fun j u v t k _ h=>h,fun j hj=>by omega⟩ (by show p.racks.length - _<FUEL;unfold FUEL;omega)
  exact⟨a,fr,e,h⟩
 ·obtain⟨k,a,fr,rfl,hk,hN,hKp,hP⟩:=hI
  unfold jv
  dsimp only
  by_cases hk2:k<p.racks.length
  ·left
   have hv:=hp.rck k hk2;have ha:=hv.e0;have hbb:=hv.e1;have hne:=hv.ne;have hw:=hv.power
   have hcl:=Tj p s k
   have e2:IntKind.wrap .i64 (IntKind.wrap .i64 (1+p.buses)+(k:Int))=((1+p.buses.toNat+k:Nat):Int):=by rw [wr (x:=1+p.buses) (by omega),wr (by omega)];omega
   obtain⟨fr1,g1,g2,g3⟩:=LK hN (u:=1+p.buses.toNat+k) (v:=1+p.buses.toNat+p.racks.length) (t:=(at' p.racks k).power) (k:=0) (by unfold nodes;omega) (by unfold nodes;omega) (by omega) (by omega) (by omega) (by omega) (by omega)
   generalize hA1:a++[⟨((1+p.buses.toNat+p.racks.length:Nat):Int),(at' p.racks k).power⟩,⟨((1+p.buses.toNat+k:Nat):Int),0⟩]=A1 at g1 g2 g3
   have kp1:Kp (m0+qf p s k) a A1:=fun j u v t k hj h=>by rw [←hA1];exact h.app (by rw [hN.len];omega)
   obtain⟨A2,fr2,f1,f2,f3,f4⟩:=Jp hp hs g2 (by omega) hk2 (Jy p s m0 k) (c:=0) (b:=(at' p.racks k).feeds.e0) rfl (by omega) ⟨by omega,ha.2⟩ (fun e he q=>by
    obtain⟨i,h1,h2⟩:=Bg.1 he
    rcases h2 with⟨_,rfl⟩|⟨_,rfl⟩
    ·have:(i:Int)=(k:Int):=congrArg af.e0 q
     omega
    ·have:(i:Int)=(k:Int):=congrArg af.e0 q
     omega)
   obtain⟨A3,fr3,d1,d2,d3,d4⟩:=Jp hp hs f2 (by split<;>omega) hk2 (Jy p s m0 k++NR p s m0 k) (c:=1) (b:=(at' p.racks k).feeds.e1) rfl (by omega) hbb (fun e he q=>by
    rw [List.mem_append]at he
    rcases he with he|he
    ·obtain⟨i,h1,h2⟩:=Bg.1 he
     rcases h2 with⟨_,rfl⟩|⟨_,rfl⟩
     ·have:(i:Int)=(k:Int):=congrArg af.e0 q
      omega
     ·have:(i:Int)=(k:Int):=congrArg af.e0 q
      omega
    ·unfold NR at he
     split at he
     ·rw [List.mem_singleton]at he
      subst he
      have:(0:Int)=1:=congrArg af.e1 q
      omega
     ·cases he)
   have i1:m0+qf p s k+1=lV p s m0 k false:=by unfold lV;rw [if_neg (by simp)]
   have i2:m0+qf p s k+1+(if iG s (at' p.racks k).feeds.e0=true then 1 else 0)=lV p s m0 k true:=by
    unfold lV
    cases iG s (at' p.racks k).feeds.e0<;>simp
   have hm1:Jy p s m0 k++(if iG s (at' p.racks k).feeds.e0=true then [((⟨(k:Int),((0:Nat):Int)⟩:af),((2*(m0+qf p s k+1):Nat):Int))]else [])=Jy p s m0 k++NR p s m0 k:=by rw [i1];rfl
   have hm2:Jy p s m0 k++NR p s m0 k++(if iG s (at' p.racks k).feeds.e1=true then [((⟨(k:Int),((1:Nat):Int)⟩:af),((2*(m0+qf p s k+1+(if iG s (at' p.racks k).feeds.e0=true then 1 else 0)):Nat):Int))]else [])=Jy p s m0 (k+1):=by rw [i2];rfl
   rw [hm1]at f1
   rw [hm2]at d1
   have hN3:NW (nodes p) (m0+qf p s (k+1)) A3 fr3:=by
    have:m0+qf p s (k+1)=m0+qf p s k+1+(if iG s (at' p.racks k).feeds.e0=true then 1 else 0)+(if iG s (at' p.racks k).feeds.e1=true then 1 else 0):=by rw [Aq];unfold Ta;omega
    rw [this];exact d2
   have L3:aS (fV p s p.racks (k:Int)) FUEL (A1,fr1,Jy p s m0 k,0)=some (.brk (A3,fr3,Jy p s m0 (k+1))):=by
    refine uE (n:=3) ?_ (by unfold FUEL;omega)
    have f1':fV p s p.racks (k:Int) (A1,fr1,Jy p s m0 k,0)=_:=f1
    rw [fQ,f1']
    show aS _ 2 (A2,fr2,Jy p s m0 k++NR p s m0 k,((1:Nat):Int))=_
    rw [fQ,d1]
    show aS _ 1 (A3,fr3,Jy p s m0 (k+1),((2:Nat):Int))=_
    rw [fQ]
    unfold fV
    rfl
   rw [FT (by omega),cond_true,aA (by omega),e2,Int.toNat_natCast,g1,Option.bind_some]
   dsimp only
   rw [L3,Option.bind_some,wr (x:=(k:Int)+1) (by omega)]
   refine⟨_,rfl,⟨k+1,A3,fr3,by simp,by omega,hN3,fun j u v t c hj h=>d3 j u v t c (by split<;>omega) (f3 j u v t c (by omega) (kp1 j u v t c (by omega) (hKp j u v t c hj h))),fun r hr=> ?_⟩, ?_⟩
   ·by_cases e:r=k
    ·subst e
     refine⟨d3 _ _ _ _ _ (by split<;>omega) (f3 _ _ _ _ _ (by omega) g3),fun h=>d3 _ _ _ _ _ (by rw [if_pos h,←i1];omega) (by rw [←i1];exact f4 h),fun h=>by rw [←i2];exact d4 h⟩
    ·have hlt:=Li (p:=p) (s:=s) (show r<k by omega)
     have hwd:=PZ p s r
     obtain⟨q1,q2,q3⟩:=hP r (by omega)
     have up: ∀j u v t c,j<m0+qf p s k→Pr a j u v t c→Pr A3 j u v t c:=fun j u v t c hj h=>d3 j u v t c (by split<;>omega) (f3 j u v t c (by omega) (kp1 j u v t c hj h))
     have hwd2:Ta p s r=1+(if iG s (at' p.racks r).feeds.e0=true then 1 else 0)+(if iG s (at' p.racks r).feeds.e1=true then 1 else 0):=rfl
     refine⟨up _ _ _ _ _ (by omega) q1,fun h=>up _ _ _ _ _ ?_ (q2 h),fun h=>up _ _ _ _ _ ?_ (q3 h)⟩
     ·unfold lV;rw [if_pos h]at hwd2;rw [if_neg (by simp)];omega
     ·unfold lV;rw [if_pos h]at hwd2
      cases hx:iG s (at' p.racks r).feeds.e0<;>rw [hx]at hwd2<;>simp at hwd2 ⊢ <;>omega
   ·show p.racks.length - ((k:Int)+1).toNat<p.racks.length - (k:Int).toNat
    omega
  ·right
   have:k=p.racks.length:=by omega
   subst this
   rw [NM (by omega),cond_false]
   exact⟨_,rfl,a,fr,rfl,hN,hKp,hP⟩
end
theorem F9 {σ:Type} [DecidableEq σ] {r:σ}: ∀{l:List (Option σ)},l≠[]→(∀x∈l,x=some r)→yV l=some r
 |[],h,_=>absurd rfl h
 |[a],_,h=>h a (List.mem_singleton_self a)
 |a::b::l,_,h=>by
  unfold yV
  have:=F9 (l:=b::l) (by simp) fun x hx=>h x (List.mem_cons_of_mem _ hx)
  rw [this,if_pos (h a List.mem_cons_self)]
  exact h a List.mem_cons_self
theorem F7 {σ:Type} (I:σ→Prop) (len:Nat) (upd:Nat→σ→σ) (hI: ∀s i,I s→i<len→I (upd i s)) (hc: ∀s i j,I s→i<len→j<len→upd i (upd j s)=upd j (upd i s)) {x:Nat} (hx:x<len): ∀(l:List Nat) (s:σ),I s→(∀y∈l,y<len)→x∈l→(l.erase x).foldl (fun s i=>upd i s) (upd x s)=l.foldl (fun s i=>upd i s) s
 |[],_,_,_,h=>by cases h
 |y::l,s,hs,hl,h=>by
  by_cases e:y=x
  ·subst e;rw [List.erase_cons_head];rfl
  ·have hyl:=hl y List.mem_cons_self
   rw [List.erase_cons_tail (by simpa using e),List.foldl_cons,List.foldl_cons,hc s y x hs hyl hx]
   exact F7 I len upd hI hc hx l (upd y s) (hI s y hs hyl) (fun z hz=>hl z (List.mem_cons_of_mem _ hz)) ((List.mem_cons.1 h).resolve_left (Ne.symm e))
theorem Ir {σ:Type} [DecidableEq σ] {body:σ→Nat→Option σ} (I:σ→Prop) (len:Nat) (upd:Nat→σ→σ) (hb: ∀s i,I s→i<len→body s i=some (upd i s)) (hI: ∀s i,I s→i<len→I (upd i s)) (hc: ∀s i j,I s→i<len→j<len→upd i (upd j s)=upd j (upd i s)):
  ∀(k:Nat) (l:List Nat) (s:σ),l.length=k→(∀y∈l,y<len)→I s→wH body k l s=some (l.foldl (fun s i=>upd i s) s)
 |0,l,s,hl,_,_=>by
  have:l=[]:=List.eq_nil_of_length_eq_zero hl
  subst this;rfl
 |k+1,l,s,hl,hlt,hs=>by
  unfold wH
  refine F9 (fun e=> ?_) fun o ho=> ?_
  ·have:=congrArg List.length e
   rw [List.length_map,hl]at this;cases this
  ·obtain⟨x,hx,rfl⟩:=List.mem_map.1 ho
   have hxl:=hlt x hx
   rw [hb s x hs hxl,Option.bind_some,Ir I len upd hb hI hc k (l.erase x) (upd x s) (by rw [List.length_erase_of_mem hx,hl];rfl) (fun y hy=>hlt y (List.mem_of_mem_erase hy)) (hI s x hs hxl),F7 I len upd hI hc hxl l s hs hlt hx]
theorem RX (W:Nat→Int) (s:List Int) (i j:Nat):(s.set j (W j)).set i (W i)=(s.set i (W i)).set j (W j):=by
 by_cases e:i=j
 ·subst e;rfl
 ·exact List.set_comm _ _ (Ne.symm e)
theorem Mg (ks:Nat→Nat) (W:Nat→Int): ∀(l:List Nat) (s:List Int),(∀y∈l,ks y<s.length)→(l.foldl (fun s i=>s.set (ks i) (W (ks i))) s).length=s.length∧ ∀k,((∃y∈l,ks y=k)→at' (l.foldl (fun s i=>s.set (ks i) (W (ks i))) s) k=W k)∧((∀y∈l,ks y≠k)→at' (l.foldl (fun s i=>s.set (ks i) (W (ks i))) s) k=at' s k)
 |[],s,_=> ⟨rfl,fun k=> ⟨fun⟨y,hy,_⟩=>absurd hy List.not_mem_nil,fun _=>rfl⟩⟩
 |x::l,s,h=>by
  have hx:=h x List.mem_cons_self
  obtain⟨h1,h2⟩:=Mg ks W l (s.set (ks x) (W (ks x))) fun y hy=>by rw [List.length_set];exact h y (List.mem_cons_of_mem _ hy)
  rw [List.foldl_cons]
  refine⟨by rw [h1,List.length_set],fun k=> ⟨fun⟨y,hy,e⟩=> ?_,fun hn=> ?_⟩⟩
  ·by_cases q: ∃y∈l,ks y=k
   ·exact(h2 k).1 q
   ·rw [(h2 k).2 fun y hy e=>q ⟨y,hy,e⟩]
    rcases List.mem_cons.1 hy with rfl|hy
    ·subst e;exact fM hx
    ·exact absurd ⟨y,hy,e⟩ q
  ·rw [(h2 k).2 fun y hy=>hn y (List.mem_cons_of_mem _ hy)]
   exact d9 (hn x List.mem_cons_self)
theorem Ke {mp:List (Int × Int)} {f:Nat→Bool} {o N:Nat} (hmp:mp=Ky f o N) (W:Nat→Int) {body:List Int→Nat→Option (List Int)}
  (hb: ∀s i k,s.length=N→i<mp.length→k<N→f k=true→at' (mp.map Prod.fst) i=(k:Int)→at' (mp.map Prod.snd) i=((2*(o+kg f k):Nat):Int)→body s i=some (s.set k (W k))):
  wH body mp.length (List.range mp.length) (List.replicate N 0)=some (tab N fun k=>if f k=true then W k else 0):=by
 have ent: ∀i,i<mp.length→ ∃k,k<N∧f k=true∧at' (mp.map Prod.fst) i=(k:Int)∧at' (mp.map Prod.snd) i=((2*(o+kg f k):Nat):Int):=fun i hi=>by
  have hm:at' mp i∈Ky f o N:=hmp ▸ at_mem hi
  obtain⟨k,h1,h2,h3⟩:=DN.1 hm
  refine⟨k,h1,h2, ?_, ?_⟩
  ·rw [iw (by rw [List.length_map];exact hi),List.getElem_map,←iw hi,h3]
  ·rw [iw (by rw [List.length_map];exact hi),List.getElem_map,←iw hi,h3]
 have hks: ∀i,i<mp.length→(at' (mp.map Prod.fst) i).toNat<N:=fun i hi=>by
  obtain⟨k,h1,_,h3,_⟩:=ent i hi
  rw [h3];omega
 rw [Ir (fun s:List Int=>s.length=N) mp.length (fun i s=>s.set (at' (mp.map Prod.fst) i).toNat (W (at' (mp.map Prod.fst) i).toNat)) (fun s i hs hi=> ?_) (fun s i hs hi=>by rw [List.length_set];exact hs) (fun s i j _ _ _=>RX W s _ _) mp.length (List.range mp.length) _ List.length_range (fun y hy=>List.mem_range.1 hy) (by simp)]
 ·congr 1
  obtain⟨h1,h2⟩:=Mg (fun i=>(at' (mp.map Prod.fst) i).toNat) W (List.range mp.length) (List.replicate N 0) fun y hy=>by rw [List.length_replicate];exact hks y (List.mem_range.1 hy)
  refine I7 (by rw [h1,dh,List.length_replicate]) fun k hk=> ?_
  rw [h1,List.length_replicate]at hk
  rw [oL hk]
  cases hf:f k with
  |true=>
   rw [if_pos rfl]
   refine(h2 k).1 ?_
   have hm:((k:Int),((2*(o+kg f k):Nat):Int))∈mp:=hmp ▸ DN.2 ⟨k,hk,hf,rfl⟩
   obtain⟨i,hi,e⟩:=oq hm
   refine⟨i,List.mem_range.2 hi, ?_⟩
   show(at' (mp.map Prod.fst) i).toNat=k
   rw [iw (by rw [List.length_map];exact hi),List.getElem_map,←iw hi,e];rfl
  |false=>
   rw [if_neg (by simp),(h2 k).2 (fun y hy e=> ?_),eZ hk]
   obtain⟨k',_,h3,h4,_⟩:=ent y (List.mem_range.1 hy)
   have e:(at' (mp.map Prod.fst) y).toNat=k:=e
   rw [h4]at e
   have:k'=k:=by omega
   subst this
   rw [hf]at h3;cases h3
 ·obtain⟨k,h1,h2,h3,h4⟩:=ent i hi
  rw [hb s i k hs hi h1 h2 h3 h4,h3];rfl
def yE (s:List af) (r:Nat) (c:Bool) (v:Int):List af:=if c=true then s.set r ⟨(at' s r).e0,v⟩else s.set r ⟨v,(at' s r).e1⟩
theorem pu (s:List af) (r:Nat) (c:Bool) (v:Int):(yE s r c v).length=s.length:=by unfold yE;split<;>simp
theorem Ej {s:List af} {r:Nat} (c:Bool) (v:Int) (hr:r<s.length) (k:Nat):(at' (yE s r c v) k).e0=(if k=r∧c=false then v else(at' s k).e0)∧(at' (yE s r c v) k).e1=(if k=r∧c=true then v else(at' s k).e1):=by
 unfold yE
 by_cases e:r=k
 ·subst e
  cases c
  ·rw [if_neg (by simp),fM hr];simp
  ·rw [if_pos rfl,fM hr];simp
 ·have e': ¬ k=r:=fun q=>e q.symm
  cases c
  ·rw [if_neg (by simp),d9 e];simp [e']
  ·rw [if_pos rfl,d9 e];simp [e']
theorem Qz {x y:af} (h0:x.e0=y.e0) (h1:x.e1=y.e1):x=y:=by cases x;cases y;simp at h0 h1;rw [h0,h1]
theorem R5 (W:Nat→Bool→Int) {s:List af} {i j:Nat} {c d:Bool} (hi:i<s.length) (hj:j<s.length):yE (yE s j d (W j d)) i c (W i c)=yE (yE s i c (W i c)) j d (W j d):=by
 refine I7 (by rw [pu,pu,pu,pu]) fun k hk=> ?_
 have h1:=Ej c (W i c) (s:=yE s j d (W j d)) (by rw [pu];exact hi) k
 have h2:=Ej d (W j d) (s:=yE s i c (W i c)) (by rw [pu];exact hj) k
 have h3:=Ej d (W j d) hj k
 have h4:=Ej c (W i c) hi k
 refine Qz ?_ ?_
 ·rw [h1.1,h2.1,h3.1,h4.1]
  by_cases e1:k=i∧c=false<;>by_cases e2:k=j∧d=false
  ·obtain⟨rfl,rfl⟩:=e1;obtain⟨rfl,rfl⟩:=e2;rfl
  ·rw [if_pos e1,if_neg e2,if_pos e1]
  ·rw [if_neg e1,if_pos e2,if_pos e2]
  ·rw [if_neg e1,if_neg e2,if_neg e2,if_neg e1]
 ·rw [h1.2,h2.2,h3.2,h4.2]
  by_cases e1:k=i∧c=true<;>by_cases e2:k=j∧d=true
  ·obtain⟨rfl,rfl⟩:=e1;obtain⟨rfl,rfl⟩:=e2;rfl
  ·rw [if_pos e1,if_neg e2,if_pos e1]
  ·rw [if_neg e1,if_pos e2,if_pos e2]
  ·rw [if_neg e1,if_neg e2,if_neg e2,if_neg e1]
theorem Kq (kr:Nat→Nat) (kc:Nat→Bool) (W:Nat→Bool→Int): ∀(l:List Nat) (s:List af),(∀y∈l,kr y<s.length)→(l.foldl (fun s i=>yE s (kr i) (kc i) (W (kr i) (kc i))) s).length=s.length∧ ∀k,
  ((∃y∈l,kr y=k∧kc y=false)→(at' (l.foldl (fun s i=>yE s (kr i) (kc i) (W (kr i) (kc i))) s) k).e0=W k false)∧((∀y∈l, ¬ (kr y=k∧kc y=false))→(at' (l.foldl (fun s i=>yE s (kr i) (kc i) (W (kr i) (kc i))) s) k).e0=(at' s k).e0)∧
  ((∃y∈l,kr y=k∧kc y=true)→(at' (l.foldl (fun s i=>yE s (kr i) (kc i) (W (kr i) (kc i))) s) k).e1=W k true)∧((∀y∈l, ¬ (kr y=k∧kc y=true))→(at' (l.foldl (fun s i=>yE s (kr i) (kc i) (W (kr i) (kc i))) s) k).e1=(at' s k).e1)
 |[],s,_=> ⟨rfl,fun k=> ⟨fun⟨y,hy,_⟩=>absurd hy List.not_mem_nil,fun _=>rfl,fun⟨y,hy,_⟩=>absurd hy List.not_mem_nil,fun _=>rfl⟩⟩
 |x::l,s,h=>by
  have hx:=h x List.mem_cons_self
  obtain⟨h1,h2⟩:=Kq kr kc W l (yE s (kr x) (kc x) (W (kr x) (kc x))) fun y hy=>by rw [pu];exact h y (List.mem_cons_of_mem _ hy)
  rw [List.foldl_cons]
  refine⟨by rw [h1,pu],fun k=> ?_⟩
  obtain⟨g1,g2,g3,g4⟩:=h2 k
  obtain⟨f1,f2⟩:=Ej (kc x) (W (kr x) (kc x)) hx k
  refine⟨fun⟨y,hy,e⟩=> ?_,fun hn=> ?_,fun⟨y,hy,e⟩=> ?_,fun hn=> ?_⟩
  ·by_cases q: ∃y∈l,kr y=k∧kc y=false
   ·exact g1 q
   ·rw [g2 fun y hy e=>q ⟨y,hy,e⟩,f1]
    rcases List.mem_cons.1 hy with rfl|hy
    ·rw [if_pos ⟨e.1.symm,e.2⟩,e.1,e.2]
    ·exact absurd ⟨y,hy,e⟩ q
  ·rw [g2 fun y hy=>hn y (List.mem_cons_of_mem _ hy),f1,if_neg fun q=>hn x List.mem_cons_self ⟨q.1.symm,q.2⟩]
  ·by_cases q: ∃y∈l,kr y=k∧kc y=true
   ·exact g3 q
   ·rw [g4 fun y hy e=>q ⟨y,hy,e⟩,f2]
    rcases List.mem_cons.1 hy with rfl|hy
    ·rw [if_pos ⟨e.1.symm,e.2⟩,e.1,e.2]
    ·exact absurd ⟨y,hy,e⟩ q
  ·rw [g4 fun y hy=>hn y (List.mem_cons_of_mem _ hy),f2,if_neg fun q=>hn x List.mem_cons_self ⟨q.1.symm,q.2⟩]
section
variable {p:ah} {s:State}
theorem PN {mp:List (af × Int)} {o:Nat} (hmp:mp=Jy p s o p.racks.length) (W:Nat→Bool→Int) {body:List af→Nat→Option (List af)}
  (hb: ∀z i r c,z.length=p.racks.length→i<mp.length→r<p.racks.length→iG s (if c=true then(at' p.racks r).feeds.e1 else(at' p.racks r).feeds.e0)=true→at' (mp.map Prod.fst) i=⟨(r:Int),if c=true then 1 else 0⟩→at' (mp.map Prod.snd) i=((2*lV p s o r c:Nat):Int)→body z i=some (yE z r c (W r c))):
  wH body mp.length (List.range mp.length) (List.replicate p.racks.length ⟨0,0⟩)=some (tab p.racks.length fun r=> ⟨if iG s (at' p.racks r).feeds.e0=true then W r false else 0,if iG s (at' p.racks r).feeds.e1=true then W r true else 0⟩):=by
 have ent: ∀i,i<mp.length→ ∃r c,r<p.racks.length∧iG s (if c=true then(at' p.racks r).feeds.e1 else(at' p.racks r).feeds.e0)=true∧at' (mp.map Prod.fst) i=⟨(r:Int),if c=true then 1 else 0⟩∧at' (mp.map Prod.snd) i=((2*lV p s o r c:Nat):Int):=fun i hi=>by
  have hm:at' mp i∈Jy p s o p.racks.length:=hmp ▸ at_mem hi
  obtain⟨r,h1,h2⟩:=Bg.1 hm
  have q1:at' (mp.map Prod.fst) i=(at' mp i).1:=by rw [iw (by rw [List.length_map];exact hi),List.getElem_map,←iw hi]
  have q2:at' (mp.map Prod.snd) i=(at' mp i).2:=by rw [iw (by rw [List.length_map];exact hi),List.getElem_map,←iw hi]
  rcases h2 with⟨hf,e⟩|⟨hf,e⟩
  ·exact⟨r,false,h1,hf,by rw [q1,e];rfl,by rw [q2,e]⟩
  ·exact⟨r,true,h1,hf,by rw [q1,e];rfl,by rw [q2,e]⟩
 have kcd: ∀(c:Bool),decide ((if c=true then(1:Int)else 0)=1)=c:=fun c=>by cases c<;>rfl
 rw [Ir (fun z:List af=>z.length=p.racks.length) mp.length (fun i z=>yE z (at' (mp.map Prod.fst) i).e0.toNat (decide ((at' (mp.map Prod.fst) i).e1=1)) (W (at' (mp.map Prod.fst) i).e0.toNat (decide ((at' (mp.map Prod.fst) i).e1=1)))) (fun z i hz hi=> ?_) (fun z i hz hi=>by rw [pu];exact hz) (fun z i j hz hi hj=> ?_) mp.length (List.range mp.length) _ List.length_range (fun y hy=>List.mem_range.1 hy) (by simp)]
 ·congr 1
  obtain⟨h1,h2⟩:=Kq (fun i=>(at' (mp.map Prod.fst) i).e0.toNat) (fun i=>decide ((at' (mp.map Prod.fst) i).e1=1)) W (List.range mp.length) (List.replicate p.racks.length ⟨0,0⟩) fun y hy=>by
   obtain⟨r,c,g1,_,g3,_⟩:=ent y (List.mem_range.1 hy)
   rw [List.length_replicate,g3]
   show(r:Int).toNat<_
   omega
  refine I7 (by rw [h1,dh,List.length_replicate]) fun k hk=> ?_
  rw [h1,List.length_replicate]at hk
  rw [oL hk]
  obtain⟨f1,f2,f3,f4⟩:=h2 k
  refine Qz ?_ ?_
  ·show _=if iG s (at' p.racks k).feeds.e0=true then W k false else 0
   cases hf:iG s (at' p.racks k).feeds.e0 with
   |true=>
    rw [if_pos rfl]
    have hm:((⟨(k:Int),0⟩:af),((2*lV p s o k false:Nat):Int))∈mp:=hmp ▸ Bg.2 ⟨k,hk, .inl ⟨hf,rfl⟩⟩
    obtain⟨i,hi,e⟩:=oq hm
    refine f1 ⟨i,List.mem_range.2 hi, ?_⟩
    rw [iw (by rw [List.length_map];exact hi),List.getElem_map,←iw hi,e];exact⟨rfl,rfl⟩
   |false=>
    rw [if_neg (by simp),f2 fun y hy e=> ?_,eZ hk]
    obtain⟨r,c,_,g2,g3,_⟩:=ent y (List.mem_range.1 hy)
    rw [g3,kcd]at e
    have e1:(r:Int).toNat=k:=e.1
    have:r=k:=by omega
    subst this
    rw [e.2,if_neg (by simp),hf]at g2;cases g2
  ·show _=if iG s (at' p.racks k).feeds.e1=true then W k true else 0
   cases hf:iG s (at' p.racks k).feeds.e1 with
   |true=>
    rw [if_pos rfl]
    have hm:((⟨(k:Int),1⟩:af),((2*lV p s o k true:Nat):Int))∈mp:=hmp ▸ Bg.2 ⟨k,hk, .inr ⟨hf,rfl⟩⟩
    obtain⟨i,hi,e⟩:=oq hm
    refine f3 ⟨i,List.mem_range.2 hi, ?_⟩
    rw [iw (by rw [List.length_map];exact hi),List.getElem_map,←iw hi,e];exact⟨rfl,rfl⟩
   |false=>
    rw [if_neg (by simp),f4 fun y hy e=> ?_,eZ hk]
    obtain⟨r,c,_,g2,g3,_⟩:=ent y (List.mem_range.1 hy)
    rw [g3,kcd]at e
    have e1:(r:Int).toNat=k:=e.1
    have:r=k:=by omega
    subst this
    rw [e.2,if_pos rfl,hf]at g2;cases g2
 ·obtain⟨r,c,h1,h2,h3,h4⟩:=ent i hi
  rw [hb z i r c hz hi h1 h2 h3 h4,h3,kcd];rfl
 ·obtain⟨r,c,h1,_,h3,_⟩:=ent i hi
  obtain⟨r',c',h1',_,h3',_⟩:=ent j hj
  rw [h3,h3',kcd,kcd]
  exact R5 W (by rw [hz];show(r:Int).toNat<_;omega) (by rw [hz];show(r':Int).toNat<_;omega)
end
structure BH (p:ah) (s:State) (m0 m1 m:Nat) (a b:List aY) (fr:List (List Int)) (R:Nat→Prop) (x:ai) (cut:List Bool):Prop where
 hN:NW (nodes p) m a fr
 sm:Sm m a b
 res: ∀v,v≠0→v≠1+p.buses.toNat+p.racks.length→mM m b v=mM m a v
 e0:m0=kg (bH p s) p.sources.length
 e1:m1=m0+kg (bG p s) p.links.length
 e2:m=m1+qf p s p.racks.length
 src: ∀k,k<p.sources.length→bH p s k=true→Pr a (kg (bH p s) k) 0 (1+(at' p.sources k).bus.toNat) (at' p.sources k).power 0
 lnk: ∀k,k<p.links.length→bG p s k=true→Pr a (m0+kg (bG p s) k) (1+(at' p.links k).a.toNat) (1+(at' p.links k).b.toNat) (at' p.links k).most (at' p.links k).most
 rck: ∀r,r<p.racks.length→Pr a (m1+qf p s r) (1+p.buses.toNat+r) (1+p.buses.toNat+p.racks.length) (at' p.racks r).power 0∧(iG s (at' p.racks r).feeds.e0=true→Pr a (lV p s m1 r false) (1+(at' p.racks r).feeds.e0.toNat) (1+p.buses.toNat+r) (at' p.racks r).power 0)∧(iG s (at' p.racks r).feeds.e1=true→Pr a (lV p s m1 r true) (1+(at' p.racks r).feeds.e1.toNat) (1+p.buses.toNat+r) (at' p.racks r).power 0)
 xe:x=⟨tab p.sources.length fun k=>if bH p s k=true then iF b (2*(0+kg (bH p s) k)+1)else 0,tab p.links.length fun k=>if bG p s k=true then(at' p.links k).most - iF b (2*(m0+kg (bG p s) k))else 0,tab p.racks.length fun r=> ⟨if iG s (at' p.racks r).feeds.e0=true then iF b (2*lV p s m1 r false+1)else 0,if iG s (at' p.racks r).feeds.e1=true then iF b (2*lV p s m1 r true+1)else 0⟩⟩
 clo:XW m b R
 r0:R 0
 rs: ¬ R (1+p.buses.toNat+p.racks.length)
 mn: ∀K,XW m b K→K 0→ ∀v,R v→K v
 cl:cut.length=p.buses.toNat
 ct: ∀v:Nat,(v:Int)<p.buses→(at' cut v=true↔R (v+1))
theorem kR (j:Nat):tw (2*j)=2*j+1:=by unfold tw;rw [if_pos (by omega)]
theorem Av (j:Nat):tw (2*j+1)=2*j:=by unfold tw;rw [if_neg (by omega)];omega
theorem Vp {p:ah} {s:State} {o r:Nat} (c:Bool) (hf:iG s (if c=true then(at' p.racks r).feeds.e1 else(at' p.racks r).feeds.e0)=true):lV p s o r c<o+qf p s r+Ta p s r:=by
 unfold lV Ta
 cases c with
 |false=>
  rw [if_neg (by simp)]at hf
  rw [if_pos hf,if_neg (by simp)];omega
 |true=>
  rw [if_pos rfl]at hf
  rw [if_pos hf]
  cases iG s (at' p.racks r).feeds.e0<;>simp
section
variable {p:ah} {s:State} (hp:VP p) (hs:VS p s)
include hp hs
theorem Rt: ∃m0 m1 m a b fr R x cut,fq p s=some (x,cut,0)∧BH p s m0 m1 m a b fr R x cut:=by
 have hb:=hp.b;have hsl:=hp.sl;have hll:=hp.ll;have hrl:=hp.rl
 obtain⟨a0,fr0,l0,n0,p0⟩:=Ti hp hs
 have c0:=LM (bH p s) p.sources.length
 have c1:=LM (bG p s) p.links.length
 have c2:=Tj p s p.racks.length
 obtain⟨a1,fr1,l1,n1,k1,p1⟩:=UN hp hs n0 (by omega)
 obtain⟨a2,fr2,l2,n2,k2,p2⟩:=Tm hp hs n1 (by omega) (List.replicate p.racks.length ⟨0,0⟩)
 generalize hm0:kg (bH p s) p.sources.length=m0 at*
 generalize hm1:m0+kg (bG p s) p.links.length=m1 at*
 generalize hm2:m1+qf p s p.racks.length=m at*
 obtain⟨b,f1,sm,res,ap⟩:=WQ n2 (sink:=1+p.buses.toNat+p.racks.length) (by omega) (by unfold nodes;omega)
 have nb:=n2.same sm
 obtain⟨cut,r1,cl,R,clo,r0,rn,mn,ct⟩:=Rc nb (p:=p) (by unfold nodes;omega)
 have hm:m≤1000:=n2.m1
 have lB: ∀j,j<2*m→0≤iF b j∧iF b j≤1000000:=fun j hj=>by
  have h1:=nb.left j hj;have h2:=nb.left _ (Ei hj);omega
 have srcs: ∀k,k<p.sources.length→bH p s k=true→kg (bH p s) k<m:=fun k hk hf=>by
  have:=yZ hk hf;omega
 have lnks: ∀k,k<p.links.length→bG p s k=true→m0+kg (bG p s) k<m:=fun k hk hf=>by
  have:=yZ hk hf;omega
 have rcks: ∀r c,r<p.racks.length→iG s (if c=true then(at' p.racks r).feeds.e1 else(at' p.racks r).feeds.e0)=true→lV p s m1 r c<m:=fun r c hr hf=>by
  have:=Vp (o:=m1) c hf
  have:=Li (p:=p) (s:=s) hr
  omega
 have x4:=Ke (mp:=Ky (bH p s) 0 p.sources.length) rfl (fun k=>iF b (2*(0+kg (bH p s) k)+1)) (body:=kI (Ky (bH p s) 0 p.sources.length) ⟨b,fr2⟩) (fun z i k hz hi hk hf e1 e2=>by
  have:=srcs k hk hf
  unfold kI
  rw [e1,e2,xor_eq (by omega),kR,aA ⟨by rw [nb.len];omega,by omega⟩,Int.toNat_natCast,Int.toNat_natCast];rfl)
 have x5:=Ke (mp:=Ky (bG p s) m0 p.links.length) rfl (fun k=>(at' p.links k).most - iF b (2*(m0+kg (bG p s) k))) (body:=kJ p.links (Ky (bG p s) m0 p.links.length) ⟨b,fr2⟩) (fun z i k hz hi hk hf e1 e2=>by
  have:=lnks k hk hf
  have hw:=(hp.lnk k hk).most
  have hl:=lB (2*(m0+kg (bG p s) k)) (by omega)
  unfold kJ
  rw [e1,e2,aA ⟨by omega,by rw [nb.len];omega,by omega⟩,Int.toNat_natCast,Int.toNat_natCast]
  show some (z.set k (IntKind.wrap .i64 ((at' p.links k).most - iF b (2*(m0+kg (bG p s) k)))))=_
  rw [wr (by omega)])
 have x6:=PN (p:=p) (s:=s) (mp:=Jy p s m1 p.racks.length) rfl (fun r c=>iF b (2*lV p s m1 r c+1)) (body:=kK (Jy p s m1 p.racks.length) ⟨b,fr2⟩) (fun z i r c hz hi hr hf e1 e2=>by
  have:=rcks r c hr hf
  unfold kK
  rw [e1,e2,xor_eq (by omega),kR]
  dsimp only
  have q1:((0:Int)≤((2*lV p s m1 r c+1:Nat):Int)∧((2*lV p s m1 r c+1:Nat):Int)<(b.length:Int))∧((0:Int)≤(r:Int)∧(r:Int)<(z.length:Int)):=⟨by rw [nb.len];omega,by omega⟩
  cases c with
  |false=>rw [if_neg (by simp),decide_eq_true rfl,cond_true,aA q1];rfl
  |true=>rw [if_pos rfl,decide_eq_false (by omega),cond_false,aA rfl,aA q1];rfl)
 refine⟨m0,m1,m,a2,b,fr2,R,_,cut, ?_,⟨n2,sm,res,hm0.symm,hm1.symm,hm2.symm,fun k hk hf=>k2 _ _ _ _ _ (by have:=yZ hk hf;omega) (k1 _ _ _ _ _ (by have:=yZ hk hf;omega) (p0 k hk hf)),fun k hk hf=>k2 _ _ _ _ _ (by have:=yZ hk hf;omega) (p1 k hk hf),p2,rfl,clo,r0,fun h=> ?_,mn,cl,ct⟩⟩
 ·have e3:IntKind.wrap .i64 (IntKind.wrap .i64 (1+p.buses)+(p.racks.length:Int))=((1+p.buses.toNat+p.racks.length:Nat):Int):=by rw [wr (x:=1+p.buses) (by omega),wr (by omega)];omega
  have e4:IntKind.wrap .i64 (((1+p.buses.toNat+p.racks.length:Nat):Int)+1)=((nodes p:Nat):Int):=by unfold nodes;rw [wr (by omega)];omega
  have e5:nodes p≤100:=by unfold nodes;omega
  unfold fq
  rw [qP p s hp.small,om.mpr ⟨hp,hs⟩,Option.bind_some,decide_eq_true rfl,Bool.not_true,cond_false,e3,e4,aA ⟨by omega,by omega,by omega⟩,aA ⟨by omega,by omega,by omega,by omega,by omega,by omega,by omega,by omega,by omega⟩,Int.toNat_natCast,l0]
  simp only [Option.bind_some]
  rw [l1]
  simp only [Option.bind_some]
  rw [Int.toNat_natCast,l2]
  simp only [Option.bind_some]
  rw [f1,Option.bind_some,x4,Option.bind_some,x5,Option.bind_some,x6,Option.bind_some,aA ⟨by omega,by omega,by omega⟩]
  unfold dR
  rw [Option.bind_some]
  have r1':bU b fr2 ⟨p.buses,p.sources,p.links,p.racks⟩ (List.replicate p.buses.toNat false)=some cut:=r1
  rw [r1',Option.bind_some]
 ·obtain⟨K,h1,h2,h3⟩:=ap
  exact h3 (mn K h1 h2 _ h)
end
structure Ps (p:ah) (s:State) (x:ai):Prop where
 l1:x.sources.length=p.sources.length
 l2:x.links.length=p.links.length
 l3:x.racks.length=p.racks.length
 sS: ∀k,k<p.sources.length→0≤at' x.sources k∧at' x.sources k≤(at' p.sources k).power∧(bH p s k=false→at' x.sources k=0)
 sL: ∀i,i<p.links.length→ -(at' p.links i).most≤at' x.links i∧at' x.links i≤(at' p.links i).most∧(bG p s i=false→at' x.links i=0)
 sR: ∀r,r<p.racks.length→0≤(at' x.racks r).e0∧0≤(at' x.racks r).e1∧(at' x.racks r).e0+(at' x.racks r).e1≤(at' p.racks r).power∧(iG s (at' p.racks r).feeds.e0=false→(at' x.racks r).e0=0)∧(iG s (at' p.racks r).feeds.e1=false→(at' x.racks r).e1=0)
 bl: ∀b:Nat,(b:Int)<p.buses→SN p x b=0
def RN (p:ah) (x:ai):Int:=aT p.racks.length fun r=>(at' x.racks r).e0+(at' x.racks r).e1
def VI (p:ah) (x:ai) (D:Nat→Bool) (k:Nat):Int:=if D (at' p.sources k).bus.toNat=true then 0 else at' x.sources k
def Ri (p:ah) (x:ai) (D:Nat→Bool) (i:Nat):Int:=(if D (at' p.links i).a.toNat=true then at' x.links i else 0) - (if D (at' p.links i).b.toNat=true then at' x.links i else 0)
def OD (p:ah) (x:ai) (D:Nat→Bool) (r:Nat):Int:=(if D (at' p.racks r).feeds.e0.toNat=true then(at' x.racks r).e0 else 0)+(if 0≤(at' p.racks r).feeds.e1∧D (at' p.racks r).feeds.e1.toNat=true then(at' x.racks r).e1 else 0)
theorem Ah {N:Nat} {D:Nat→Bool} {z v:Int} (hz:z<N):(aT N fun b=>if D b=true then(if z=(b:Int)then v else 0)else 0)=if 0≤z∧D z.toNat=true then v else 0:=by
 by_cases h0:0≤z
 ·have e:(fun b:Nat=>if D b=true then(if z=(b:Int)then v else 0)else 0)=fun b=>if b=z.toNat then(if D b=true then v else 0)else 0:=funext fun b=>by
   by_cases e1:b=z.toNat
   ·rw [if_pos e1,if_pos (show z=(b:Int) by omega)]
   ·rw [if_neg e1,if_neg (show ¬ z=(b:Int) by omega)];split<;>rfl
  rw [e,Hq (fun b=>if D b=true then v else 0) (by omega)]
  by_cases e2:D z.toNat=true
  ·rw [if_pos e2,if_pos ⟨h0,e2⟩]
  ·rw [if_neg e2,if_neg fun q=>e2 q.2]
 ·rw [if_neg fun q=>h0 q.1,bS (g:=fun _=>0) fun b _=>by rw [if_neg (show ¬ z=(b:Int) by omega)];split<;>rfl,mR]
section
variable {p:ah} {s:State} (hp:VP p) (hs:VS p s) {x:ai} (hx:Ps p s x)
include hp hs hx
theorem Qv (D:Nat→Bool):(aT p.sources.length fun k=>if D (at' p.sources k).bus.toNat=true then at' x.sources k else 0)=(aT p.links.length (Ri p x D))+aT p.racks.length (OD p x D):=by
 have hb:=hp.b
 have h0:(aT p.buses.toNat fun b=>if D b=true then SN p x b else 0)=0:=by
  rw [bS (g:=fun _=>0) fun b hb=>by rw [hx.bl b (by omega)];split<;>rfl,mR]
 have e1:(fun b=>if D b=true then SN p x b else 0)=fun b=>((aT p.sources.length fun k=>if D b=true then Pq p x b k else 0)+(aT p.links.length fun k=>if D b=true then LZ p x b k else 0)) - (aT p.racks.length fun k=>if D b=true then KW p x b k else 0):=funext fun b=>by
  cases D b with
  |true=>simp only [if_true];rfl
  |false=>simp [mR]
 rw [e1,EP,Af,Fe,Fe p.buses.toNat p.links.length,Fe p.buses.toNat p.racks.length]at h0
 have s1:(aT p.sources.length fun k=>aT p.buses.toNat fun b=>if D b=true then Pq p x b k else 0)=aT p.sources.length fun k=>if D (at' p.sources k).bus.toNat=true then at' x.sources k else 0:=by
  refine bS fun k hk=> ?_
  have hv:=(hp.src k hk).bus
  unfold Pq
  rw [Ah (by omega)]
  by_cases h:D (at' p.sources k).bus.toNat=true
  ·rw [if_pos h,if_pos ⟨hv.1,h⟩]
  ·rw [if_neg h,if_neg fun q=>h q.2]
 have s2:(aT p.links.length fun k=>aT p.buses.toNat fun b=>if D b=true then LZ p x b k else 0)= - aT p.links.length (Ri p x D):=by
  rw [←H8]
  refine bS fun k hk=> ?_
  have hv:=hp.lnk k hk;have ha:=hv.a;have hbb:=hv.b
  have e:(fun b=>if D b=true then LZ p x b k else 0)=fun b=>(if D b=true then(if(at' p.links k).b=(b:Int)then at' x.links k else 0)else 0) - (if D b=true then(if(at' p.links k).a=(b:Int)then at' x.links k else 0)else 0):=funext fun b=>by
   unfold LZ;cases D b<;>simp
  rw [e,EP,Ah (by omega),Ah (by omega)]
  unfold Ri
  cases D (at' p.links k).b.toNat<;>cases D (at' p.links k).a.toNat<;>simp [ha.1,hbb.1]
 have s3:(aT p.racks.length fun k=>aT p.buses.toNat fun b=>if D b=true then KW p x b k else 0)=aT p.racks.length (OD p x D):=by
  refine bS fun k hk=> ?_
  have hv:=hp.rck k hk;have ha:=hv.e0;have hbb:=hv.e1
  have e:(fun b=>if D b=true then KW p x b k else 0)=fun b=>(if D b=true then(if(at' p.racks k).feeds.e0=(b:Int)then(at' x.racks k).e0 else 0)else 0)+(if D b=true then(if(at' p.racks k).feeds.e1=(b:Int)then(at' x.racks k).e1 else 0)else 0):=funext fun b=>by
   unfold KW;cases D b<;>simp
  rw [e,Af,Ah (by omega),Ah (by omega)]
  unfold OD
  cases D (at' p.racks k).feeds.e0.toNat<;>simp [ha.1]
 rw [s1,s2,s3]at h0
 omega
theorem Fu (D:Nat→Bool):RN p x=aT p.sources.length (VI p x D)+aT p.links.length (Ri p x D)+aT p.racks.length (OD p x D):=by
 have hb:=hp.b
 have h1:=Qv hp hs hx D
 have h2:=Qv hp hs hx fun _=>true
 have e1:(aT p.links.length (Ri p x fun _=>true))=0:=by
  rw [bS (g:=fun _=>0) fun i _=>by unfold Ri;simp,mR]
 have e2:(aT p.racks.length (OD p x fun _=>true))=RN p x:=by
  refine bS fun r hr=> ?_
  have hv:=hp.rck r hr;have hw:=hx.sR r hr
  unfold OD
  rw [if_pos rfl]
  by_cases h:0≤(at' p.racks r).feeds.e1
  ·rw [if_pos ⟨h,rfl⟩]
  ·rw [if_neg fun q=>h q.1,hw.2.2.2.2 (by unfold iG;rw [decide_eq_false h];rfl)]
 have e3:(aT p.sources.length fun k=>if(true:Bool)=true then at' x.sources k else 0)=(aT p.sources.length (VI p x D))+aT p.sources.length fun k=>if D (at' p.sources k).bus.toNat=true then at' x.sources k else 0:=by
  rw [←Af]
  refine bS fun k _=> ?_
  unfold VI
  cases D (at' p.sources k).bus.toNat<;>simp
 have h2':(aT p.sources.length fun k=>if(true:Bool)=true then at' x.sources k else 0)=_:=h2
 rw [e3,e1,e2]at h2'
 omega
def Jz (p:ah) (s:State) (D:Nat→Bool):Prop:= ∀b:Nat,(b:Int)<p.buses→D b=true→at' s.badBus b=false
omit hx in
theorem Yt {D:Nat→Bool} (hD:Jz p s D) {b:Int} (hb:0≤b∧b<p.buses) (h:D b.toNat=true):iG s b=true:=by
 unfold iG
 rw [decide_eq_true hb.1,hD b.toNat (by omega) h];rfl
theorem Yo {D:Nat→Bool} (hD:Jz p s D):(∀k,k<p.sources.length→VI p x D k≤Ov p s D k)∧(∀i,i<p.links.length→Ri p x D i≤Ow p s D i)∧ ∀r,r<p.racks.length→OD p x D r≤OG p D r:=by
 refine⟨fun k hk=> ?_,fun i hi=> ?_,fun r hr=> ?_⟩
 ·have h:=hx.sS k hk
  have hw:=(hp.src k hk).power
  unfold VI Ov
  cases D (at' p.sources k).bus.toNat<;>cases hf:bH p s k<;>simp
  ·have:=h.2.2 hf;omega
  ·omega
 ·have h:=hx.sL i hi
  have hw:=(hp.lnk i hi).most
  unfold Ri Ow
  cases hc:bG p s i
  ·have:=h.2.2 hc;rw [this];simp
  ·cases D (at' p.links i).a.toNat<;>cases D (at' p.links i).b.toNat<;>simp<;>omega
 ·have h:=hx.sR r hr
  have hv:=hp.rck r hr;have hw:=hv.power
  unfold OD OG VQ
  cases D (at' p.racks r).feeds.e0.toNat<;>cases D (at' p.racks r).feeds.e1.toNat<;>by_cases h1:0≤(at' p.racks r).feeds.e1<;>simp [h1]<;>omega
theorem abn {D:Nat→Bool} (hD:Jz p s D):RN p x≤BM p s D:=by
 obtain⟨h1,h2,h3⟩:=Yo hp hs hx hD
 rw [Fu hp hs hx D]
 have:=vQ h1;have:=vQ h2;have:=vQ h3
 unfold BM;omega
theorem RL {D:Nat→Bool} (hD:Jz p s D) (e:RN p x=BM p s D):(∀k,k<p.sources.length→VI p x D k=Ov p s D k)∧(∀i,i<p.links.length→Ri p x D i=Ow p s D i)∧ ∀r,r<p.racks.length→OD p x D r=OG p D r:=by
 obtain⟨h1,h2,h3⟩:=Yo hp hs hx hD
 rw [Fu hp hs hx D]at e
 have q1:=vQ h1;have q2:=vQ h2;have q3:=vQ h3
 unfold BM at e
 exact⟨wZ h1 (by omega),wZ h2 (by omega),wZ h3 (by omega)⟩
theorem Lu {D:Nat→Bool} (h1: ∀k,k<p.sources.length→VI p x D k=Ov p s D k) (h2: ∀i,i<p.links.length→Ri p x D i=Ow p s D i) (h3: ∀r,r<p.racks.length→OD p x D r=OG p D r):RN p x=BM p s D:=by
 rw [Fu hp hs hx D]
 unfold BM
 rw [bS h1,bS h2,bS h3]
theorem Ps.ag8:QA p s x=true:=by
 unfold QA
 have e1:K8 p x=true:=by unfold K8;simp [hx.l1,hx.l2,hx.l3]
 have e2:(List.range p.sources.length).any (VO p s x)=false:=by
  rw [List.any_eq_false]
  intro k hk
  have h:=hx.sS k (List.mem_range.1 hk)
  unfold VO
  rw [decide_eq_false (by omega),decide_eq_false (by omega)]
  cases hf:bH p s k
  ·rw [decide_eq_false (by have:=h.2.2 hf;omega)];simp
  ·simp
 have e3:(List.range p.links.length).any (VN p s x)=false:=by
  rw [List.any_eq_false]
  intro k hk
  have h:=hx.sL k (List.mem_range.1 hk)
  unfold VN
  rw [decide_eq_false (by omega),decide_eq_false (by omega)]
  cases hf:bG p s k
  ·rw [decide_eq_true (h.2.2 hf)];simp
  ·simp
 have e4:(List.range p.racks.length).any (VH p s x)=false:=by
  rw [List.any_eq_false]
  intro r hk
  have h:=hx.sR r (List.mem_range.1 hk)
  unfold VH Qg
  rw [decide_eq_false (show ¬ (at' x.racks r).e0<0 by omega),decide_eq_false (show ¬ (at' x.racks r).e1<0 by omega),decide_eq_false (show ¬ (at' p.racks r).power<(at' x.racks r).e0 by omega),decide_eq_false (show ¬ (at' p.racks r).power<(at' x.racks r).e1 by omega),decide_eq_false (show ¬ (at' p.racks r).power<(at' x.racks r).e0+(at' x.racks r).e1 by omega)]
  cases h0:iG s (at' p.racks r).feeds.e0<;>cases h1:iG s (at' p.racks r).feeds.e1
  ·rw [h.2.2.2.1 h0,h.2.2.2.2 h1];simp
  ·rw [h.2.2.2.1 h0];simp
  ·rw [h.2.2.2.2 h1];simp
  ·simp
 have e5:((List.range p.buses.toNat).all fun b=>decide (SN p x b=0))=true:=by
  rw [List.all_eq_true]
  intro b hb
  have:=List.mem_range.1 hb
  exact decide_eq_true (hx.bl b (by omega))
 rw [e1,e2,e3,e4,e5];rfl
end
theorem Fp (f:Nat→Int): ∀m,aT (2*m) f=aT m fun j=>f (2*j)+f (2*j+1)
 |0=>rfl
 |m+1=>by rw [show 2*(m+1)=2*m+1+1 by omega,aT,aT,aT,Fp f m];omega
theorem Qx (p:ah) (s:State) (g:Nat→Int) (o:Nat): ∀k,aT (o+qf p s k) g=aT o g+aT k fun r=>g (o+qf p s r)+(if iG s (at' p.racks r).feeds.e0=true then g (lV p s o r false)else 0)+(if iG s (at' p.racks r).feeds.e1=true then g (lV p s o r true)else 0)
 |0=>by simp [qf,aT]
 |k+1=>by
  have ih:=Qx p s g o k
  have e:aT (o+qf p s (k+1)) g=aT (o+qf p s k) g+(g (o+qf p s k)+(if iG s (at' p.racks k).feeds.e0=true then g (lV p s o k false)else 0)+(if iG s (at' p.racks k).feeds.e1=true then g (lV p s o k true)else 0)):=by
   rw [Aq]
   unfold Ta lV
   cases h0:iG s (at' p.racks k).feeds.e0<;>cases h1:iG s (at' p.racks k).feeds.e1<;>simp
   ·rw [show o+(qf p s k+1)=(o+qf p s k)+1 by omega,aT]
   ·rw [show o+(qf p s k+(1+1))=(o+qf p s k)+1+1 by omega,aT,aT];omega
   ·rw [show o+(qf p s k+(1+1))=(o+qf p s k)+1+1 by omega,aT,aT];omega
   ·rw [show o+(qf p s k+(1+1+1))=(o+qf p s k)+1+1+1 by omega,aT,aT,aT,show o+qf p s k+2=o+qf p s k+1+1 from rfl];omega
  rw [e,ih,aT];omega
theorem Fy {f:Nat→Bool}: ∀{k j:Nat},j<kg f k→ ∃i,i<k∧f i=true∧j=kg f i
 |0,j,h=>by simp [kg]at h
 |k+1,j,h=>by
  rw [Ee]at h
  by_cases h2:j<kg f k
  ·obtain⟨i,h3,h4,h5⟩:=Fy h2
   exact⟨i,by omega,h4,h5⟩
  ·split at h
   ·rename_i hf;exact⟨k,by omega,hf,by omega⟩
   ·omega
theorem KC {p:ah} {s:State} {o:Nat}: ∀{k j:Nat},o≤j→j<o+qf p s k→ ∃r,r<k∧(j=o+qf p s r∨(iG s (at' p.racks r).feeds.e0=true∧j=lV p s o r false)∨(iG s (at' p.racks r).feeds.e1=true∧j=lV p s o r true))
 |0,j,h0,h=>by simp [qf]at h;omega
 |k+1,j,h0,h=>by
  rw [Aq]at h
  by_cases h2:j<o+qf p s k
  ·obtain⟨i,h3,h4⟩:=KC h0 h2
   exact⟨i,by omega,h4⟩
  ·refine⟨k,by omega, ?_⟩
   unfold Ta at h
   unfold lV
   cases e0:iG s (at' p.racks k).feeds.e0<;>cases e1:iG s (at' p.racks k).feeds.e1<;>simp [e0,e1]at h ⊢ <;>omega
section
variable {p:ah} {s:State} {m0 m1 m:Nat} {a b:List aY} {fr:List (List Int)} {R:Nat→Prop} {x:ai} {cut:List Bool}
theorem BH.j1 (h:BH p s m0 m1 m a b fr R x cut) {k:Nat} (hk:k<p.sources.length) (hf:bH p s k=true):kg (bH p s) k<m:=by
 have:=yZ hk hf;have:=h.e0;have:=h.e1;have:=h.e2;omega
theorem BH.j2 (h:BH p s m0 m1 m a b fr R x cut) {k:Nat} (hk:k<p.links.length) (hf:bG p s k=true):m0+kg (bG p s) k<m:=by
 have:=yZ hk hf;have:=h.e1;have:=h.e2;omega
theorem BH.j3 (h:BH p s m0 m1 m a b fr R x cut) {r:Nat} (hr:r<p.racks.length):m1+qf p s r<m:=by
 have:=Li (p:=p) (s:=s) hr;have:=PZ p s r;have:=h.e2;omega
theorem BH.j4 (h:BH p s m0 m1 m a b fr R x cut) {r:Nat} (hr:r<p.racks.length) (c:Bool) (hf:iG s (if c=true then(at' p.racks r).feeds.e1 else(at' p.racks r).feeds.e0)=true):lV p s m1 r c<m:=by
 have:=Vp (o:=m1) c hf
 have:=Li (p:=p) (s:=s) hr;have:=h.e2;omega
theorem BH.kinds (h:BH p s m0 m1 m a b fr R x cut) {j:Nat} (hj:j<m):
  (∃k,k<p.sources.length∧bH p s k=true∧j=kg (bH p s) k)∨(∃k,k<p.links.length∧bG p s k=true∧j=m0+kg (bG p s) k)∨
  ∃r,r<p.racks.length∧(j=m1+qf p s r∨(iG s (at' p.racks r).feeds.e0=true∧j=lV p s m1 r false)∨(iG s (at' p.racks r).feeds.e1=true∧j=lV p s m1 r true)):=by
 have e0:=h.e0;have e1:=h.e1;have e2:=h.e2
 by_cases h1:j<m0
 ·rw [e0]at h1;exact .inl (Fy h1)
 ·by_cases h2:j<m1
  ·obtain⟨k,g1,g2,g3⟩:=Fy (f:=bG p s) (k:=p.links.length) (j:=j - m0) (by omega)
   exact .inr (.inl ⟨k,g1,g2,by omega⟩)
  ·exact .inr (.inr (KC (by omega) (by omega)))
theorem BH.pair (h:BH p s m0 m1 m a b fr R x cut) {j u v:Nat} {t k:Int} (hP:Pr a j u v t k) (hj:j<m):tgt a (2*j)=v∧tgt a (2*j+1)=u∧tgt b (2*j)=v∧tgt b (2*j+1)=u∧iF a (2*j)=t∧iF a (2*j+1)=k∧iF b (2*j)+iF b (2*j+1)=t+k∧0≤iF b (2*j)∧0≤iF b (2*j+1):=by
 have t1:tgt a (2*j)=v:=by unfold tgt;rw [hP.1];rfl
 have t2:tgt a (2*j+1)=u:=by unfold tgt;rw [hP.2];rfl
 have l1:iF a (2*j)=t:=by unfold iF;rw [hP.1]
 have l2:iF a (2*j+1)=k:=by unfold iF;rw [hP.2]
 have:=h.sm.sum (2*j) (by omega)
 rw [kR,l1,l2]at this
 exact⟨t1,t2,(h.sm.tgt _).trans t1,(h.sm.tgt _).trans t2,l1,l2,this,h.sm.pos _ (by omega),h.sm.pos _ (by omega)⟩
def dl (a b:List aY) (j:Nat):Int:=iF b (2*j+1) - iF a (2*j+1)
theorem BH.flow (h:BH p s m0 m1 m a b fr R x cut) {v:Nat} (h0:v≠0) (h1:v≠1+p.buses.toNat+p.racks.length):
  let g:=fun j=>(if tgt a (2*j+1)=v then dl a b j else 0) - (if tgt a (2*j)=v then dl a b j else 0)
  (aT p.sources.length fun k=>if bH p s k=true then g (kg (bH p s) k)else 0)+(aT p.links.length fun k=>if bG p s k=true then g (m0+kg (bG p s) k)else 0)+(aT p.racks.length fun r=>g (m1+qf p s r)+(if iG s (at' p.racks r).feeds.e0=true then g (lV p s m1 r false)else 0)+(if iG s (at' p.racks r).feeds.e1=true then g (lV p s m1 r true)else 0))=0:=by
 intro g
 have e:aT m g=0:=by
  have hr:=h.res v h0 h1
  unfold mM at hr
  rw [Fp,Fp]at hr
  have e1:aT m g=(aT m fun j=>(if tgt b (2*j)=v then iF b (2*j)else 0)+(if tgt b (2*j+1)=v then iF b (2*j+1)else 0)) - (aT m fun j=>(if tgt a (2*j)=v then iF a (2*j)else 0)+(if tgt a (2*j+1)=v then iF a (2*j+1)else 0)):=by
   rw [←EP]
   refine bS fun j hj=> ?_
   have hs:=h.sm.sum (2*j) (by omega)
   rw [kR]at hs
   show(if tgt a (2*j+1)=v then dl a b j else 0) - (if tgt a (2*j)=v then dl a b j else 0)=_
   rw [h.sm.tgt,h.sm.tgt]
   unfold dl
   by_cases c1:tgt a (2*j+1)=v<;>by_cases c2:tgt a (2*j)=v<;>simp only [c1,c2,if_true,if_false]<;>omega
  omega
 have d1:=Qx p s g m1 p.racks.length
 rw [←h.e2]at d1
 have d2:=KV (bG p s) g m0 p.links.length
 rw [←h.e1]at d2
 have d3:=KV (bH p s) g 0 p.sources.length
 rw [Nat.zero_add,←h.e0]at d3
 have d4:(aT p.sources.length fun i=>if bH p s i=true then g (0+kg (bH p s) i)else 0)=aT p.sources.length fun k=>if bH p s k=true then g (kg (bH p s) k)else 0:=bS fun i _=>by rw [Nat.zero_add]
 rw [d1,d2,d3,d4]at e
 simp only [aT]at e
 omega
variable (hp:VP p) (hs:VS p s)
include hp hs
theorem BH.xS (h:BH p s m0 m1 m a b fr R x cut) {k:Nat} (hk:k<p.sources.length):at' x.sources k=if bH p s k=true then dl a b (kg (bH p s) k)else 0:=by
 rw [h.xe]
 show at' (tab p.sources.length _) k=_
 rw [oL hk,Nat.zero_add]
 cases hf:bH p s k with
 |false=>rfl
 |true=>
  have:=h.pair (h.src k hk hf) (h.j1 hk hf)
  rw [if_pos rfl,if_pos rfl]
  unfold dl;omega
theorem BH.xL (h:BH p s m0 m1 m a b fr R x cut) {k:Nat} (hk:k<p.links.length):at' x.links k=if bG p s k=true then dl a b (m0+kg (bG p s) k)else 0:=by
 rw [h.xe]
 show at' (tab p.links.length _) k=_
 rw [oL hk]
 cases hf:bG p s k with
 |false=>rfl
 |true=>
  have:=h.pair (h.lnk k hk hf) (h.j2 hk hf)
  rw [if_pos rfl,if_pos rfl]
  unfold dl;omega
theorem BH.xR (h:BH p s m0 m1 m a b fr R x cut) {r:Nat} (hr:r<p.racks.length):(at' x.racks r).e0=(if iG s (at' p.racks r).feeds.e0=true then dl a b (lV p s m1 r false)else 0)∧(at' x.racks r).e1=(if iG s (at' p.racks r).feeds.e1=true then dl a b (lV p s m1 r true)else 0):=by
 have e:at' x.racks r=⟨if iG s (at' p.racks r).feeds.e0=true then iF b (2*lV p s m1 r false+1)else 0,if iG s (at' p.racks r).feeds.e1=true then iF b (2*lV p s m1 r true+1)else 0⟩:=by rw [h.xe];exact oL hr
 rw [e]
 obtain⟨_,q1,q2⟩:=h.rck r hr
 constructor
 ·show(if iG s (at' p.racks r).feeds.e0=true then iF b (2*lV p s m1 r false+1)else 0)=_
  cases hf:iG s (at' p.racks r).feeds.e0 with
  |false=>rfl
  |true=>
   have:=h.pair (q1 hf) (h.j4 hr false (by simpa using hf))
   rw [if_pos rfl,if_pos rfl]
   unfold dl;omega
 ·show(if iG s (at' p.racks r).feeds.e1=true then iF b (2*lV p s m1 r true+1)else 0)=_
  cases hf:iG s (at' p.racks r).feeds.e1 with
  |false=>rfl
  |true=>
   have:=h.pair (q2 hf) (h.j4 hr true (by simpa using hf))
   rw [if_pos rfl,if_pos rfl]
   unfold dl;omega
theorem BH.aa4 (h:BH p s m0 m1 m a b fr R x cut) {r:Nat} (hr:r<p.racks.length):(at' x.racks r).e0+(at' x.racks r).e1=dl a b (m1+qf p s r):=by
 have hb:=hp.b
 have f:=h.flow (v:=1+p.buses.toNat+r) (by omega) (by omega)
 dsimp only at f
 have z1:(aT p.sources.length fun k=>if bH p s k=true then(if tgt a (2*kg (bH p s) k+1)=1+p.buses.toNat+r then dl a b (kg (bH p s) k)else 0) - (if tgt a (2*kg (bH p s) k)=1+p.buses.toNat+r then dl a b (kg (bH p s) k)else 0)else 0)=0:=by
  rw [bS (g:=fun _=>0) fun k hk=> ?_,mR]
  have hv:=(hp.src k hk).bus
  by_cases hf:bH p s k=true
  ·have:=h.pair (h.src k hk hf) (h.j1 hk hf)
   rw [if_pos hf,if_neg (by omega),if_neg (by omega)];rfl
  ·rw [if_neg hf]
 have z2:(aT p.links.length fun k=>if bG p s k=true then(if tgt a (2*(m0+kg (bG p s) k)+1)=1+p.buses.toNat+r then dl a b (m0+kg (bG p s) k)else 0) - (if tgt a (2*(m0+kg (bG p s) k))=1+p.buses.toNat+r then dl a b (m0+kg (bG p s) k)else 0)else 0)=0:=by
  rw [bS (g:=fun _=>0) fun k hk=> ?_,mR]
  have ha:=(hp.lnk k hk).a;have hbb:=(hp.lnk k hk).b
  by_cases hf:bG p s k=true
  ·have:=h.pair (h.lnk k hk hf) (h.j2 hk hf)
   rw [if_pos hf,if_neg (by omega),if_neg (by omega)];rfl
  ·rw [if_neg hf]
 rw [z1,z2,bS (g:=fun r'=>if r'=r then dl a b (m1+qf p s r) - ((at' x.racks r).e0+(at' x.racks r).e1)else 0) fun r' hr'=> ?_,Hq (fun _=>dl a b (m1+qf p s r) - ((at' x.racks r).e0+(at' x.racks r).e1)) hr]at f
 ·omega
 ·obtain⟨q0,q1,q2⟩:=h.rck r' hr'
  have ha:=(hp.rck r' hr').e0;have hbb:=(hp.rck r' hr').e1
  have p0:=h.pair q0 (h.j3 hr')
  have x0:=h.xR hp hs hr'
  have c1:(if iG s (at' p.racks r').feeds.e0=true then(if tgt a (2*lV p s m1 r' false+1)=1+p.buses.toNat+r then dl a b (lV p s m1 r' false)else 0) - (if tgt a (2*lV p s m1 r' false)=1+p.buses.toNat+r then dl a b (lV p s m1 r' false)else 0)else 0)=if r'=r then - (at' x.racks r').e0 else 0:=by
   by_cases hf:iG s (at' p.racks r').feeds.e0=true
   ·have p1:=h.pair (q1 hf) (h.j4 hr' false (by simpa using hf))
    rw [if_pos hf,x0.1,if_pos hf,if_neg (show ¬ tgt a (2*lV p s m1 r' false+1)=1+p.buses.toNat+r by omega)]
    by_cases e:r'=r
    ·rw [if_pos (by omega),if_pos e];omega
    ·rw [if_neg (by omega),if_neg e];omega
   ·rw [if_neg hf,x0.1,if_neg hf];split<;>rfl
  have c2:(if iG s (at' p.racks r').feeds.e1=true then(if tgt a (2*lV p s m1 r' true+1)=1+p.buses.toNat+r then dl a b (lV p s m1 r' true)else 0) - (if tgt a (2*lV p s m1 r' true)=1+p.buses.toNat+r then dl a b (lV p s m1 r' true)else 0)else 0)=if r'=r then - (at' x.racks r').e1 else 0:=by
   by_cases hf:iG s (at' p.racks r').feeds.e1=true
   ·have p1:=h.pair (q2 hf) (h.j4 hr' true (by simpa using hf))
    rw [if_pos hf,x0.2,if_pos hf,if_neg (show ¬ tgt a (2*lV p s m1 r' true+1)=1+p.buses.toNat+r by omega)]
    by_cases e:r'=r
    ·rw [if_pos (by omega),if_pos e];omega
    ·rw [if_neg (by omega),if_neg e];omega
   ·rw [if_neg hf,x0.2,if_neg hf];split<;>rfl
  rw [c1,c2,if_neg (show ¬ tgt a (2*(m1+qf p s r'))=1+p.buses.toNat+r by omega)]
  by_cases e:r'=r
  ·subst e
   rw [if_pos (by omega),if_pos rfl,if_pos rfl,if_pos rfl];omega
  ·rw [if_neg (by omega),if_neg e,if_neg e,if_neg e];omega
theorem BH.ps (h:BH p s m0 m1 m a b fr R x cut):Ps p s x:=by
 have hb:=hp.b
 refine⟨by rw [h.xe];exact dh _ _,by rw [h.xe];exact dh _ _,by rw [h.xe];exact dh _ _,fun k hk=> ?_,fun k hk=> ?_,fun r hr=> ?_,fun v hv=> ?_⟩
 ·have hw:=(hp.src k hk).power
  rw [h.xS hp hs hk]
  by_cases hf:bH p s k=true
  ·have:=h.pair (h.src k hk hf) (h.j1 hk hf)
   rw [if_pos hf];unfold dl
   exact⟨by omega,by omega,fun q=>by rw [hf]at q;cases q⟩
  ·rw [if_neg hf];exact⟨by omega,by omega,fun _=>rfl⟩
 ·have hw:=(hp.lnk k hk).most
  rw [h.xL hp hs hk]
  by_cases hf:bG p s k=true
  ·have:=h.pair (h.lnk k hk hf) (h.j2 hk hf)
   rw [if_pos hf];unfold dl
   exact⟨by omega,by omega,fun q=>by rw [hf]at q;cases q⟩
  ·rw [if_neg hf];exact⟨by omega,by omega,fun _=>rfl⟩
 ·have hw:=(hp.rck r hr).power
  obtain⟨q0,q1,q2⟩:=h.rck r hr
  have p0:=h.pair q0 (h.j3 hr)
  have x0:=h.xR hp hs hr
  have x1:=h.aa4 hp hs hr
  have b0:0≤(at' x.racks r).e0:=by
   rw [x0.1]
   by_cases hf:iG s (at' p.racks r).feeds.e0=true
   ·have:=h.pair (q1 hf) (h.j4 hr false (by simpa using hf))
    rw [if_pos hf];unfold dl;omega
   ·rw [if_neg hf];omega
  have b1:0≤(at' x.racks r).e1:=by
   rw [x0.2]
   by_cases hf:iG s (at' p.racks r).feeds.e1=true
   ·have:=h.pair (q2 hf) (h.j4 hr true (by simpa using hf))
    rw [if_pos hf];unfold dl;omega
   ·rw [if_neg hf];omega
  refine⟨b0,b1,by rw [x1];unfold dl;omega,fun q=> ?_,fun q=> ?_⟩
  ·rw [x0.1,q];rfl
  ·rw [x0.2,q];rfl
 ·have f:=h.flow (v:=1+v) (by omega) (by omega)
  dsimp only at f
  rw [bS (n:=p.sources.length) (g:=fun k=> - Pq p x v k) fun k hk=> ?_,bS (n:=p.links.length) (g:=fun k=> - LZ p x v k) fun k hk=> ?_,bS (n:=p.racks.length) (g:=fun r=>KW p x v r) fun r hr=> ?_,H8,H8]at f
  ·unfold SN;show _+_ - aT _ (fun r=>KW p x v r)=0;omega
  ·obtain⟨q0,q1,q2⟩:=h.rck r hr
   have ha:=(hp.rck r hr).e0;have hbb:=(hp.rck r hr).e1
   have p0:=h.pair q0 (h.j3 hr)
   have x0:=h.xR hp hs hr
   unfold KW
   rw [if_neg (show ¬ tgt a (2*(m1+qf p s r)+1)=1+v by omega),if_neg (show ¬ tgt a (2*(m1+qf p s r))=1+v by omega)]
   have c1:(if iG s (at' p.racks r).feeds.e0=true then(if tgt a (2*lV p s m1 r false+1)=1+v then dl a b (lV p s m1 r false)else 0) - (if tgt a (2*lV p s m1 r false)=1+v then dl a b (lV p s m1 r false)else 0)else 0)=if(at' p.racks r).feeds.e0=(v:Int)then(at' x.racks r).e0 else 0:=by
    by_cases hf:iG s (at' p.racks r).feeds.e0=true
    ·have p1:=h.pair (q1 hf) (h.j4 hr false (by simpa using hf))
     rw [if_pos hf,x0.1,if_pos hf,if_neg (show ¬ tgt a (2*lV p s m1 r false)=1+v by omega)]
     by_cases e:(at' p.racks r).feeds.e0=(v:Int)
     ·rw [if_pos (by omega),if_pos e];omega
     ·rw [if_neg (by omega),if_neg e];omega
    ·rw [if_neg hf,x0.1,if_neg hf];split<;>rfl
   have c2:(if iG s (at' p.racks r).feeds.e1=true then(if tgt a (2*lV p s m1 r true+1)=1+v then dl a b (lV p s m1 r true)else 0) - (if tgt a (2*lV p s m1 r true)=1+v then dl a b (lV p s m1 r true)else 0)else 0)=if(at' p.racks r).feeds.e1=(v:Int)then(at' x.racks r).e1 else 0:=by
    by_cases hf:iG s (at' p.racks r).feeds.e1=true
    ·have p1:=h.pair (q2 hf) (h.j4 hr true (by simpa using hf))
     have hf0:0≤(at' p.racks r).feeds.e1:=by unfold iG at hf;rw [Bool.and_eq_true,decide_eq_true_eq]at hf;exact hf.1
     rw [if_pos hf,x0.2,if_pos hf,if_neg (show ¬ tgt a (2*lV p s m1 r true)=1+v by omega)]
     by_cases e:(at' p.racks r).feeds.e1=(v:Int)
     ·rw [if_pos (by omega),if_pos e];omega
     ·rw [if_neg (by omega),if_neg e];omega
    ·rw [if_neg hf,x0.2,if_neg hf];split<;>rfl
   rw [c1,c2];omega
  ·have ha:=(hp.lnk k hk).a;have hbb:=(hp.lnk k hk).b;have hne:=(hp.lnk k hk).ab
   unfold LZ
   rw [h.xL hp hs hk]
   by_cases hf:bG p s k=true
   ·have:=h.pair (h.lnk k hk hf) (h.j2 hk hf)
    rw [if_pos hf,if_pos hf]
    by_cases e1:(at' p.links k).a=(v:Int)
    ·rw [if_pos (by omega),if_neg (by omega),if_neg (by omega),if_pos e1];omega
    ·rw [if_neg (by omega),if_neg (show ¬ (at' p.links k).a=(v:Int)from e1)]
     by_cases e2:(at' p.links k).b=(v:Int)
     ·rw [if_pos (by omega),if_pos e2];omega
     ·rw [if_neg (by omega),if_neg e2];omega
   ·rw [if_neg hf,if_neg hf];simp
  ·have hbus:=(hp.src k hk).bus
   unfold Pq
   rw [h.xS hp hs hk]
   by_cases hf:bH p s k=true
   ·have:=h.pair (h.src k hk hf) (h.j1 hk hf)
    rw [if_pos hf,if_pos hf,if_neg (show ¬ tgt a (2*kg (bH p s) k+1)=1+v by omega)]
    by_cases e1:(at' p.sources k).bus=(v:Int)
    ·rw [if_pos (by omega),if_pos e1];omega
    ·rw [if_neg (by omega),if_neg e1];omega
   ·rw [if_neg hf,if_neg hf];simp
end
section
variable {p:ah} {s:State} {m0 m1 m:Nat} {a b:List aY} {fr:List (List Int)} {R:Nat→Prop} {x:ai} {cut:List Bool} (hp:VP p) (hs:VS p s) (h:BH p s m0 m1 m a b fr R x cut)
include hp hs h
theorem BH.go (K:Nat→Prop)
  (hS: ∀k,k<p.sources.length→bH p s k=true→(K 0→at' x.sources k<(at' p.sources k).power→K (1+(at' p.sources k).bus.toNat))∧(K (1+(at' p.sources k).bus.toNat)→0<at' x.sources k→K 0))
  (hL: ∀k,k<p.links.length→bG p s k=true→(K (1+(at' p.links k).a.toNat)→at' x.links k<(at' p.links k).most→K (1+(at' p.links k).b.toNat))∧(K (1+(at' p.links k).b.toNat)→ -(at' p.links k).most<at' x.links k→K (1+(at' p.links k).a.toNat)))
  (hR: ∀r,r<p.racks.length→(K (1+p.buses.toNat+r)→(at' x.racks r).e0+(at' x.racks r).e1<(at' p.racks r).power→K (1+p.buses.toNat+p.racks.length))∧(K (1+p.buses.toNat+p.racks.length)→K (1+p.buses.toNat+r))∧
   (iG s (at' p.racks r).feeds.e0=true→(K (1+(at' p.racks r).feeds.e0.toNat)→(at' x.racks r).e0<(at' p.racks r).power→K (1+p.buses.toNat+r))∧(K (1+p.buses.toNat+r)→0<(at' x.racks r).e0→K (1+(at' p.racks r).feeds.e0.toNat)))∧
   (iG s (at' p.racks r).feeds.e1=true→(K (1+(at' p.racks r).feeds.e1.toNat)→(at' x.racks r).e1<(at' p.racks r).power→K (1+p.buses.toNat+r))∧(K (1+p.buses.toNat+r)→0<(at' x.racks r).e1→K (1+(at' p.racks r).feeds.e1.toNat)))):XW m b K:=by
 intro i hi hl hK
 obtain⟨j,hj⟩: ∃j,i=2*j∨i=2*j+1:=⟨i / 2,by omega⟩
 have hjm:j<m:=by omega
 rcases h.kinds hjm with⟨k,hk,hf,rfl⟩|⟨k,hk,hf,rfl⟩|⟨r,hr,hc⟩
 ·have q:=h.pair (h.src k hk hf) hjm
  have xe:=h.xS hp hs hk
  rw [if_pos hf]at xe
  unfold dl at xe
  rcases hj with rfl|rfl
  ·rw [kR,q.2.2.2.1]at hK
   rw [q.2.2.1]
   exact(hS k hk hf).1 hK (by omega)
  ·rw [Av,q.2.2.1]at hK
   rw [q.2.2.2.1]
   exact(hS k hk hf).2 hK (by omega)
 ·have q:=h.pair (h.lnk k hk hf) hjm
  have xe:=h.xL hp hs hk
  rw [if_pos hf]at xe
  unfold dl at xe
  rcases hj with rfl|rfl
  ·rw [kR,q.2.2.2.1]at hK
   rw [q.2.2.1]
   exact(hL k hk hf).1 hK (by omega)
  ·rw [Av,q.2.2.1]at hK
   rw [q.2.2.2.1]
   exact(hL k hk hf).2 hK (by omega)
 ·obtain⟨q0,q1,q2⟩:=h.rck r hr
  obtain⟨x0,x1⟩:=h.xR hp hs hr
  have xr:=h.aa4 hp hs hr
  obtain⟨g1,g2,g3,g4⟩:=hR r hr
  rcases hc with rfl|⟨hf,rfl⟩|⟨hf,rfl⟩
  ·have q:=h.pair q0 hjm
   unfold dl at xr
   rcases hj with rfl|rfl
   ·rw [kR,q.2.2.2.1]at hK
    rw [q.2.2.1]
    exact g1 hK (by omega)
   ·rw [Av,q.2.2.1]at hK
    rw [q.2.2.2.1]
    exact g2 hK
  ·have q:=h.pair (q1 hf) hjm
   rw [if_pos hf]at x0
   unfold dl at x0
   rcases hj with rfl|rfl
   ·rw [kR,q.2.2.2.1]at hK
    rw [q.2.2.1]
    exact(g3 hf).1 hK (by omega)
   ·rw [Av,q.2.2.1]at hK
    rw [q.2.2.2.1]
    exact(g3 hf).2 hK (by omega)
  ·have q:=h.pair (q2 hf) hjm
   rw [if_pos hf]at x1
   unfold dl at x1
   rcases hj with rfl|rfl
   ·rw [kR,q.2.2.2.1]at hK
    rw [q.2.2.1]
    exact(g4 hf).1 hK (by omega)
   ·rw [Av,q.2.2.1]at hK
    rw [q.2.2.2.1]
    exact(g4 hf).2 hK (by omega)
theorem PD {k:Nat} (hf:bH p s k=true):at' s.badBus (at' p.sources k).bus.toNat=false:=by
 unfold bH at hf;simp only [Bool.and_eq_true,Bool.not_eq_true']at hf;exact hf.2
theorem Ju {k:Nat} (hf:bG p s k=true):at' s.badBus (at' p.links k).a.toNat=false∧at' s.badBus (at' p.links k).b.toNat=false:=by
 unfold bG at hf;simp only [Bool.and_eq_true,Bool.not_eq_true']at hf;exact⟨hf.1.2,hf.2⟩
theorem Dw {v:Int} (hf:iG s v=true):0≤v∧at' s.badBus v.toNat=false:=by
 unfold iG at hf;simp only [Bool.and_eq_true,Bool.not_eq_true',decide_eq_true_eq]at hf;exact hf
theorem BH.right:Jz p s (at' cut):=by
 have hb:=hp.b
 intro v hv hc
 have hR:=(h.ct v hv).1 hc
 have key:=h.mn (fun w=> ∀u:Nat,(u:Int)<p.buses→w=1+u→at' s.badBus u=false) ?_ (fun u _ e=>by omega) _ hR v hv (by omega)
 ·exact key
 ·refine h.go hp hs _ (fun k hk hf=> ⟨fun _ _ u hu e=> ?_,fun _ _ u hu e=>by omega⟩) (fun k hk hf=> ⟨fun _ _ u hu e=> ?_,fun _ _ u hu e=> ?_⟩) (fun r hr=> ⟨fun _ _ u hu e=>by omega,fun _ u hu e=>by omega,fun hf=> ⟨fun _ _ u hu e=>by omega,fun _ _ u hu e=> ?_⟩,fun hf=> ⟨fun _ _ u hu e=>by omega,fun _ _ u hu e=> ?_⟩⟩)
  ·have:=PD hp hs h hf
   have e2:u=(at' p.sources k).bus.toNat:=by omega
   rw [e2];exact this
  ·have e2:u=(at' p.links k).b.toNat:=by omega
   rw [e2];exact(Ju hp hs h hf).2
  ·have e2:u=(at' p.links k).a.toNat:=by omega
   rw [e2];exact(Ju hp hs h hf).1
  ·have e2:u=(at' p.racks r).feeds.e0.toNat:=by omega
   rw [e2];exact(Dw hp hs h hf).2
  ·have e2:u=(at' p.racks r).feeds.e1.toNat:=by omega
   rw [e2];exact(Dw hp hs h hf).2
theorem BH.ack {k:Nat} (hk:k<p.sources.length) (hf:bH p s k=true) (hc:at' cut (at' p.sources k).bus.toNat=false):at' x.sources k=(at' p.sources k).power:=by
 have hbus:=(hp.src k hk).bus
 have hj:=h.j1 hk hf
 have q:=h.pair (h.src k hk hf) hj
 have xe:=h.xS hp hs hk
 rw [if_pos hf]at xe
 unfold dl at xe
 refine Decidable.byContradiction fun hn=> ?_
 have:=h.clo (2*kg (bH p s) k) (by omega) (by omega) (by rw [kR,q.2.2.2.1];exact h.r0)
 rw [q.2.2.1,Nat.add_comm,←h.ct _ (by omega),hc]at this
 cases this
theorem BH.af6 {k:Nat} (hk:k<p.links.length) (hf:bG p s k=true):(at' cut (at' p.links k).a.toNat=true→at' cut (at' p.links k).b.toNat=false→at' x.links k=(at' p.links k).most)∧(at' cut (at' p.links k).b.toNat=true→at' cut (at' p.links k).a.toNat=false→at' x.links k= -(at' p.links k).most):=by
 have hl:=hp.lnk k hk;have ha:=hl.a;have hb:=hl.b
 have hj:=h.j2 hk hf
 have q:=h.pair (h.lnk k hk hf) hj
 have xe:=h.xL hp hs hk
 rw [if_pos hf]at xe
 unfold dl at xe
 refine⟨fun c1 c2=>Decidable.byContradiction fun hn=> ?_,fun c1 c2=>Decidable.byContradiction fun hn=> ?_⟩
 ·have:=h.clo (2*(m0+kg (bG p s) k)) (by omega) (by omega) (by rw [kR,q.2.2.2.1,Nat.add_comm];exact(h.ct _ (by omega)).1 c1)
  rw [q.2.2.1,Nat.add_comm,←h.ct _ (by omega),c2]at this
  cases this
 ·have:=h.clo (2*(m0+kg (bG p s) k)+1) (by omega) (by omega) (by rw [Av,q.2.2.1,Nat.add_comm];exact(h.ct _ (by omega)).1 c1)
  rw [q.2.2.2.1,Nat.add_comm,←h.ct _ (by omega),c2]at this
  cases this
theorem BH.tight:(∀k,k<p.sources.length→VI p x (at' cut) k=Ov p s (at' cut) k)∧(∀i,i<p.links.length→Ri p x (at' cut) i=Ow p s (at' cut) i)∧ ∀r,r<p.racks.length→OD p x (at' cut) r=OG p (at' cut) r:=by
 have hps:=h.ps hp hs
 have hrt:=h.right hp hs
 refine⟨fun k hk=> ?_,fun i hi=> ?_,fun r hr=> ?_⟩
 ·unfold VI Ov
  cases hc:at' cut (at' p.sources k).bus.toNat with
  |true=>simp
  |false=>
   cases hf:bH p s k with
   |true=>simp;exact h.ack hp hs hk hf hc
   |false=>simp;exact(hps.sS k hk).2.2 hf
 ·unfold Ri Ow
  cases hf:bG p s i with
  |false=>rw [(hps.sL i hi).2.2 hf];simp
  |true=>
   obtain⟨g1,g2⟩:=h.af6 hp hs hi hf
   cases ca:at' cut (at' p.links i).a.toNat<;>cases cb:at' cut (at' p.links i).b.toNat<;>simp
   ·have:=g2 cb ca;omega
   ·exact g1 ca cb
 ·have hv:=hp.rck r hr;have ha:=hv.e0;have hb:=hv.e1;have hw:=hv.power
  obtain⟨w1,w2,w3,w4,w5⟩:=hps.sR r hr
  obtain⟨q0,q1,q2⟩:=h.rck r hr
  obtain⟨x0,x1⟩:=h.xR hp hs hr
  have xr:=h.aa4 hp hs hr
  unfold dl at xr
  have pr:=h.pair q0 (h.j3 hr)
  have hjr:=h.j3 hr
  unfold OD OG VQ
  have full:R (1+p.buses.toNat+r)→(at' x.racks r).e0+(at' x.racks r).e1=(at' p.racks r).power:=fun hR=>Decidable.byContradiction fun hn=>by
   have:=h.clo (2*(m1+qf p s r)) (by omega) (by omega) (by rw [kR,pr.2.2.2.1];exact hR)
   rw [pr.2.2.1]at this
   exact h.rs this
  have f0:at' cut (at' p.racks r).feeds.e0.toNat=true→iG s (at' p.racks r).feeds.e0=true:=fun hc=>Yt hp hs hrt ha hc
  have f1:0≤(at' p.racks r).feeds.e1→at' cut (at' p.racks r).feeds.e1.toNat=true→iG s (at' p.racks r).feeds.e1=true:=fun h0 hc=>Yt hp hs hrt ⟨h0,hb.2⟩ hc
  have in0:at' cut (at' p.racks r).feeds.e0.toNat=true→(at' x.racks r).e0=(at' p.racks r).power∨R (1+p.buses.toNat+r):=fun hc=>by
   have hf:=f0 hc
   have hj:=h.j4 hr false (by simpa using hf)
   have q:=h.pair (q1 hf) hj
   rw [if_pos hf]at x0
   unfold dl at x0
   by_cases hn:(at' x.racks r).e0=(at' p.racks r).power
   ·exact .inl hn
   ·have:=h.clo (2*lV p s m1 r false) (by omega) (by omega) (by rw [kR,q.2.2.2.1,Nat.add_comm];exact(h.ct _ (by omega)).1 hc)
    rw [q.2.2.1]at this
    exact .inr this
  have in1:0≤(at' p.racks r).feeds.e1→at' cut (at' p.racks r).feeds.e1.toNat=true→(at' x.racks r).e1=(at' p.racks r).power∨R (1+p.buses.toNat+r):=fun h0 hc=>by
   have hf:=f1 h0 hc
   have hj:=h.j4 hr true (by simpa using hf)
   have q:=h.pair (q2 hf) hj
   rw [if_pos hf]at x1
   unfold dl at x1
   by_cases hn:(at' x.racks r).e1=(at' p.racks r).power
   ·exact .inl hn
   ·have:=h.clo (2*lV p s m1 r true) (by omega) (by omega) (by rw [kR,q.2.2.2.1,Nat.add_comm];exact(h.ct _ (by omega)).1 hc)
    rw [q.2.2.1]at this
    exact .inr this
  have out0:R (1+p.buses.toNat+r)→at' cut (at' p.racks r).feeds.e0.toNat=false→(at' x.racks r).e0=0:=fun hR hc=>by
   cases hf:iG s (at' p.racks r).feeds.e0 with
   |false=>exact w4 hf
   |true=>
    have hj:=h.j4 hr false (by simpa using hf)
    have q:=h.pair (q1 hf) hj
    rw [if_pos hf]at x0
    unfold dl at x0
    refine Decidable.byContradiction fun hn=> ?_
    have:=h.clo (2*lV p s m1 r false+1) (by omega) (by omega) (by rw [Av,q.2.2.1];exact hR)
    rw [q.2.2.2.1,Nat.add_comm,←h.ct _ (by omega),hc]at this
    cases this
  have out1:R (1+p.buses.toNat+r)→(0≤(at' p.racks r).feeds.e1→at' cut (at' p.racks r).feeds.e1.toNat=false)→(at' x.racks r).e1=0:=fun hR hc=>by
   cases hf:iG s (at' p.racks r).feeds.e1 with
   |false=>exact w5 hf
   |true=>
    have h0:=(Dw hp hs h hf).1
    have hj:=h.j4 hr true (by simpa using hf)
    have q:=h.pair (q2 hf) hj
    rw [if_pos hf]at x1
    unfold dl at x1
    refine Decidable.byContradiction fun hn=> ?_
    have:=h.clo (2*lV p s m1 r true+1) (by omega) (by omega) (by rw [Av,q.2.2.1];exact hR)
    rw [q.2.2.2.1,Nat.add_comm,←h.ct _ (by omega),hc h0]at this
    cases this
  by_cases h0:0≤(at' p.racks r).feeds.e1
  ·cases c0:at' cut (at' p.racks r).feeds.e0.toNat<;>cases c1:at' cut (at' p.racks r).feeds.e1.toNat<;>simp [h0]
   ·rcases in1 h0 c1 with e|e
    ·exact e
    ·have:=full e;have:=out0 e c0;omega
   ·rcases in0 c0 with e|e
    ·exact e
    ·have:=full e;have:=out1 e (fun _=>c1);omega
   ·rcases in0 c0 with e|e
    ·rcases in1 h0 c1 with e'|e'
     ·omega
     ·exact full e'
    ·exact full e
  ·cases c0:at' cut (at' p.racks r).feeds.e0.toNat<;>simp [h0]
   rcases in0 c0 with e|e
   ·exact e
   ·have:=full e;have:=out1 e (fun q=>absurd q h0);omega
theorem BH.aha:RN p x=BM p s (at' cut):=by
 obtain⟨h1,h2,h3⟩:=h.tight hp hs
 exact Lu hp hs (h.ps hp hs) h1 h2 h3
theorem BH.least {D:Nat→Bool} (hD:Jz p s D) (e:RN p x=BM p s D) {v:Nat} (hv:(v:Int)<p.buses) (hc:at' cut v=true):D v=true:=by
 have hb:=hp.b
 have hps:=h.ps hp hs
 obtain⟨t1,t2,t3⟩:=RL hp hs hps hD e
 have hR:=(h.ct v hv).1 hc
 have key:=h.mn (fun w=>(∀u:Nat,(u:Int)<p.buses→w=1+u→D u=true)∧(∀r,r<p.racks.length→w=1+p.buses.toNat+r→VQ p D r=true)∧w≠1+p.buses.toNat+p.racks.length) ?_ ⟨fun u _ e=>by omega,fun u _ e=>by omega,by omega⟩ _ hR
 ·exact key.1 v hv (by omega)
 ·refine h.go hp hs _ (fun k hk hf=> ?_) (fun k hk hf=> ?_) (fun r hr=> ?_)
  ·have hbus:=(hp.src k hk).bus
   refine⟨fun _ hl=> ⟨fun u hu e=> ?_,fun r hr e=>by omega,by omega⟩,fun _ _=> ⟨fun u _ e=>by omega,fun u _ e=>by omega,by omega⟩⟩
   have e2:u=(at' p.sources k).bus.toNat:=by omega
   have t:=t1 k hk
   unfold VI Ov at t
   rw [e2]
   cases hc:D (at' p.sources k).bus.toNat with
   |true=>rfl
   |false=>rw [hc,hf]at t;simp at t;omega
  ·have ha:=(hp.lnk k hk).a;have hbb:=(hp.lnk k hk).b
   have t:=t2 k hk
   unfold Ri Ow at t
   refine⟨fun hK hl=> ⟨fun u hu e=> ?_,fun r hr e=>by omega,by omega⟩,fun hK hl=> ⟨fun u hu e=> ?_,fun r hr e=>by omega,by omega⟩⟩
   ·have e2:u=(at' p.links k).b.toNat:=by omega
    have hA:=hK.1 (at' p.links k).a.toNat (by omega) rfl
    rw [e2]
    cases hc:D (at' p.links k).b.toNat with
    |true=>rfl
    |false=>rw [hc,hf,hA]at t;simp at t;omega
   ·have e2:u=(at' p.links k).a.toNat:=by omega
    have hB:=hK.1 (at' p.links k).b.toNat (by omega) rfl
    rw [e2]
    cases hc:D (at' p.links k).a.toNat with
    |true=>rfl
    |false=>rw [hc,hf,hB]at t;simp at t;omega
  ·have hv:=hp.rck r hr;have ha:=hv.e0;have hbb:=hv.e1;have hw:=hv.power
   have t:=t3 r hr
   obtain⟨w1,w2,w3,w4,w5⟩:=hps.sR r hr
   refine⟨fun hK hl=> ?_,fun hK=>absurd rfl hK.2.2,fun hf=> ⟨fun hK hl=> ⟨fun u hu e=>by omega,fun r' hr' e=> ?_,by omega⟩,fun hK hl=> ⟨fun u hu e=> ?_,fun r' hr' e=>by omega,by omega⟩⟩,fun hf=> ?_⟩
   ·have hC:=hK.2.1 r hr rfl
    unfold OD OG at t
    rw [hC,if_pos rfl]at t
    exfalso
    revert t
    split<;>split<;>omega
   ·have e2:r'=r:=by omega
    rw [e2]
    unfold VQ
    rw [hK.1 (at' p.racks r).feeds.e0.toNat (by omega) rfl];rfl
   ·have hC:=hK.2.1 r hr rfl
    have e2:u=(at' p.racks r).feeds.e0.toNat:=by omega
    unfold OD OG at t
    rw [hC,if_pos rfl]at t
    rw [e2]
    cases hc:D (at' p.racks r).feeds.e0.toNat with
    |true=>rfl
    |false=>
     exfalso
     rw [hc,if_neg (by simp)]at t
     revert t
     split<;>omega
   ·have h0:=(Dw hp hs h hf).1
    refine⟨fun hK hl=> ⟨fun u hu e=>by omega,fun r' hr' e=> ?_,by omega⟩,fun hK hl=> ⟨fun u hu e=> ?_,fun r' hr' e=>by omega,by omega⟩⟩
    ·have e2:r'=r:=by omega
     rw [e2]
     unfold VQ
     rw [hK.1 (at' p.racks r).feeds.e1.toNat (by omega) rfl,decide_eq_true h0];simp
    ·have hC:=hK.2.1 r hr rfl
     have e2:u=(at' p.racks r).feeds.e1.toNat:=by omega
     unfold OD OG at t
     rw [hC,if_pos rfl]at t
     rw [e2]
     cases hc:D (at' p.racks r).feeds.e1.toNat with
     |true=>rfl
     |false=>
      exfalso
      rw [hc,if_neg (by simp: ¬ (0≤(at' p.racks r).feeds.e1∧(false:Bool)=true))]at t
      revert t
      split<;>omega
end
structure Sv (p:ah) (s:State) (x:ai) (cut:List Bool):Prop where
 ps:Ps p s x
 cl:cut.length=p.buses.toNat
 rt:Jz p s (at' cut)
 eq:RN p x=BM p s (at' cut)
 least: ∀D,Jz p s D→RN p x=BM p s D→ ∀v:Nat,(v:Int)<p.buses→at' cut v=true→D v=true
theorem VG {p:ah} {s:State} (hp:VP p) (hs:VS p s): ∃x cut,fq p s=some (x,cut,0)∧Sv p s x cut:=by
 obtain⟨m0,m1,m,a,b,fr,R,x,cut,e,h⟩:=Rt hp hs
 exact⟨x,cut,e,h.ps hp hs,h.cl,h.right hp hs,h.aha hp hs,fun D hD e v hv hc=>h.least hp hs hD e hv hc⟩
theorem Wm:nO=some true:=by kernel_rfl
section
variable {p:ah} {s:State} (hp:VP p) (hs:VS p s)
include hp hs
theorem Ps.amount {x:ai} (h:Ps p s x):eT x=some (RN p x):=by
 have hrl:=hp.rl
 rw [ES (by rw [h.l3];omega),Ql (fun r hr=> ?_) (by rw [h.l3];omega) _ (Nat.le_refl _),h.l3]
 ·rfl
 ·rw [h.l3]at hr
  have:=h.sR r hr
  have:=(hp.rck r hr).power
  omega
theorem Ps.Rq {x:ai} (h:Ps p s x):Rq x x.racks.length=RN p x:=by
 have hrl:=hp.rl
 have h1:=h.amount hp hs
 rw [ES (by rw [h.l3];omega)]at h1
 exact Option.some.inj h1
theorem Ji {cut:List Bool} (hl:cut.length=p.buses.toNat) (hr:Jz p s (at' cut)):Ll p s cut=(BM p s (at' cut),0):=by
 have hb:=hp.b
 unfold Ll
 rw [if_pos (om.mpr ⟨hp,hs⟩),if_pos (by omega),if_neg]
 rw [List.any_eq_true]
 rintro ⟨b,hb2,hc⟩
 rw [Bool.and_eq_true]at hc
 have:=List.mem_range.1 hb2
 have:=hr b (by omega) hc.1
 rw [hc.2]at this;cases this
theorem Sv.cert {x:ai} {cut:List Bool} (h:Sv p s x cut):fe p s x cut=some 0:=by
 have hrl:=hp.rl
 rw [PO hp.small s x (by rw [h.ps.l3];omega)]
 unfold U5 KJ
 rw [if_pos (om.mpr ⟨hp,hs⟩),if_pos (h.ps.ag8 hp hs),if_pos rfl,Ji hp hs h.cl h.rt,if_pos rfl,h.ps.Rq hp hs,h.eq,if_pos rfl]
end
theorem Gu (p:ah) (s:State) (cuts:List (List Bool)) (hp:Small p):iW p s cuts=some true:=by
 unfold iW
 rw [Wm]
 generalize (bif (bif (decide (60<(p.sources.length:Int)))then true else(decide (60<(p.links.length:Int))))then true else(decide (60<(p.racks.length:Int))))=big
 cases big with
 |true=>rfl
 |false=>
  rw [show gB [(false,false)]=true from rfl,cond_true,qP p s hp,Option.bind_some,cond_false]
  by_cases h0:uV p s=0
  ·obtain⟨hv,hs⟩:=om.mp h0
   have hb:=hv.b
   have hbb:=hs.badBus
   rw [decide_eq_true h0,Bool.not_true,cond_false]
   obtain⟨x,cut,e,h⟩:=VG hv hs
   have hcl:=h.cl
   rw [e,Option.bind_some]
   dsimp only
   rw [decide_eq_true rfl,Bool.not_true,cond_false,decide_eq_true (show(cut.length:Int)=p.buses by omega),Bool.not_true,show gB [(false,false)]=true from rfl,cond_true,h.cert hv hs,Option.bind_some,cond_false,decide_eq_true rfl,Bool.not_true,cond_false]
   have key:aS (gq p s cuts (x,cut,0)) FUEL 0=some (.brk ()):=by
    refine fT (fun i=>(i:Int)) (min cuts.length 20) _ (fuel_lt (by omega)) (fun i hi=> ?_) ?_
    ·have hi1:i<cuts.length:=by omega
     have L1:aS (gH p s cuts (i:Int)) FUEL (List.replicate p.buses.toNat false,0)=some (.brk (tab p.buses.toNat fun b=>decide (b<(at' cuts i).length) && (at' (at' cuts i) b && !at' s.badBus b))):=by
      have e0:List.replicate p.buses.toNat false=tab p.buses.toNat fun b=>if b<0 then(decide (b<(at' cuts i).length) && (at' (at' cuts i) b && !at' s.badBus b))else false:=by rw [Qr];exact jq fun b _=>by simp
      rw [e0]
      refine fT (fun k=>(tab p.buses.toNat (fun b=>if b<k then(decide (b<(at' cuts i).length) && (at' (at' cuts i) b && !at' s.badBus b))else false),(k:Int))) (min p.buses.toNat (at' cuts i).length) _ (fuel_lt (by omega)) (fun k hk=> ?_) ?_
      ·unfold gH
       dsimp only
       rw [Int.toNat_natCast,Int.toNat_natCast,aA (fun _=>by omega),FT (by omega),FT (by omega),cond_true,cond_true,aA ⟨by omega,by omega,fun _=>by omega,by rw [dh];omega⟩,wr (x:=(k:Int)+1) (by omega),Br,Cr]
       refine congrArg (fun l=>some (aM.next (l,_))) (jq fun b hb2=> ?_)
       by_cases e1:b=k
       ·subst e1
        rw [if_pos rfl,if_pos (by omega),decide_eq_true (by omega)]
        cases at' (at' cuts i) b<;>rfl
       ·rw [if_neg e1]
        by_cases e2:b<k
        ·rw [if_pos e2,if_pos (by omega)]
        ·rw [if_neg e2,if_neg (by omega)]
      ·unfold gH
       dsimp only
       rw [Int.toNat_natCast,aA (fun _=>by omega)]
       have:(bif decide (((min p.buses.toNat (at' cuts i).length:Nat):Int)<p.buses)then decide (((min p.buses.toNat (at' cuts i).length:Nat):Int)<((at' cuts i).length:Int))else false)=false:=by
        by_cases q:p.buses.toNat≤(at' cuts i).length
        ·rw [decide_eq_false (by omega)];rfl
        ·rw [decide_eq_true (show((min p.buses.toNat (at' cuts i).length:Nat):Int)<p.buses by omega),cond_true,decide_eq_false (by omega)]
       rw [this,cond_false]
       refine congrArg (fun l=>some (aM.done (Ex.brk l))) (jq fun b hb2=> ?_)
       by_cases q:b<min p.buses.toNat (at' cuts i).length
       ·rw [if_pos q]
       ·rw [if_neg q,decide_eq_false (by omega)];rfl
     generalize ho:(tab p.buses.toNat fun b=>decide (b<(at' cuts i).length) && (at' (at' cuts i) b && !at' s.badBus b))=other at L1
     have hol:other.length=p.buses.toNat:=by rw [←ho];exact dh _ _
     have hor:Jz p s (at' other):=fun b hb2 hc=>by
      rw [←ho,oL (by omega)]at hc
      simp only [Bool.and_eq_true,Bool.not_eq_true']at hc
      exact hc.2.2
     have hle:=abn hv hs h.ps hor
     unfold gq
     rw [FT (by omega),FT (by omega),cond_true,cond_true,aA ⟨by omega,by omega,by omega⟩,L1]
     simp only [Option.bind_some]
     rw [Gf hp s other,Ji hv hs hol hor,Option.bind_some]
     dsimp only
     rw [decide_eq_true rfl,Bool.not_true,show gB [(false,false)]=true from rfl,cond_true,h.ps.amount hv hs,Option.bind_some,cond_false,NM hle,cond_false]
     have L2:aS (gy p (x,cut,0) other (BM p s (at' other),0)) FUEL 0=some (.brk ()):=by
      refine fT (fun b=>(b:Int)) p.buses.toNat _ (fuel_lt (by omega)) (fun b hb2=> ?_) ?_
      ·unfold gy
       dsimp only
       rw [Int.toNat_natCast,FT (by omega),cond_true,h.ps.amount hv hs,Option.bind_some,aA ⟨fun _=>by omega,fun _=>by omega⟩,wr (x:=(b:Int)+1) (by omega)]
       have:(bif bif decide (BM p s (at' other)=RN p x)then at' cut b else false then !at' other b else false)=false:=by
        by_cases q:BM p s (at' other)=RN p x
        ·rw [decide_eq_true q,cond_true]
         cases hc:at' cut b with
         |false=>rfl
         |true=>
          rw [h.least _ hor q.symm b (by omega) hc];rfl
        ·rw [decide_eq_false q];rfl
       rw [this];rfl
      ·unfold gy
       rw [NM (by omega)];rfl
     rw [L2]
     simp only [Option.bind_some]
     rw [wr (by omega)]
     rfl
    ·unfold gq
     have:(bif decide (((min cuts.length 20:Nat):Int)<(cuts.length:Int))then decide (((min cuts.length 20:Nat):Int)<20)else false)=false:=by
      by_cases q:cuts.length≤20
      ·rw [decide_eq_false (by omega)];rfl
      ·rw [decide_eq_true (show((min cuts.length 20:Nat):Int)<(cuts.length:Int) by omega),cond_true,decide_eq_false (by omega)]
     rw [this,cond_false]
   rw [key];rfl
  ·rw [decide_eq_false h0];rfl
end Sg
