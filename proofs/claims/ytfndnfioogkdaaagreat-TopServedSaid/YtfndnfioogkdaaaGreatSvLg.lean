import Derived.Test.YtfndnfioogkdaaaGreatSvLc
import Derived.Test.YtfndnfioogkdaaaGreatSvGm
import Derived.Test.YtfndnfioogkdaaaGreatSvLa
set_option linter.all false
namespace Sg
open Go
theorem wr {x:Int} (h: -9223372036854775808≤x∧x≤9223372036854775807):IntKind.wrap .i64 x=x:=by rw [IntKind.wrap_i64];omega
theorem iP {σ ρ:Type} {body:σ→Option (cZ σ ρ)}: ∀{n m:Nat} {s:σ} {r:ρ},aV body n s=some r→n≤m→aV body m s=some r
 |0,_,_,_,h,_=>by cases h
 |n+1,0,_,_,_,hm=>by omega
 |n+1,m+1,s,r,h,hm=>by
  rw [bH]at h ⊢
  revert h
  cases body s with
  |none=>exact id
  |some f=>
   cases f with
   |next s'=>exact fun h=>iP h (by omega)
   |done r=>exact id
theorem KO {σ ρ:Type} {body:σ→Option (cZ σ ρ)} (S:Nat→σ) (k:Nat) (hs: ∀i,i<k→body (S i)=some (.next (S (i+1)))): ∀(m:Nat),aV body (k+m) (S 0)=aV body m (S k):=by
 induction k with
 |zero=>intro m;simp
 |succ k ih=>
  intro m
  have:=ih (fun i hi=>hs i (by omega)) (m+1)
  rw [show k+1+m=k+(m+1) by omega,this,bH,hs k (by omega)]
theorem eP {σ ρ:Type} {body:σ→Option (cZ σ ρ)} {N:Nat} (S:Nat→σ) (k:Nat) (r:ρ) (hk:k<N) (hs: ∀i,i<k→body (S i)=some (.next (S (i+1)))) (hd:body (S k)=some (.done r)):aV body N (S 0)=some r:=by
 have h:=KO S k hs 1
 have h1:aV body 1 (S k)=some r:=by rw [bH,hd]
 exact iP (h.trans h1) (by omega)
theorem fuel_lt {k:Nat} (h:k≤9223372036854775807):k<FUEL:=by unfold FUEL;omega
section
variable {α:Type} [Inhabited α]
theorem eG {l:List α} {i:Nat} (h:i<l.length):at' l i=l[i]:=by simp [at',h]
theorem at_mem {l:List α} {i:Nat} (h:i<l.length):at' l i∈l:=by rw [eG h];exact List.getElem_mem h
theorem j5 {l:List α} {x:α} (h:x∈l): ∃i,i<l.length∧at' l i=x:=by
 obtain⟨i,hi,e⟩:=List.mem_iff_getElem.mp h
 exact⟨i,hi,by rw [eG hi];exact e⟩
theorem M6 {l m:List α} (hl:l.length=m.length) (h: ∀i,i<l.length→at' l i=at' m i):l=m:=by
 apply List.ext_getElem hl
 intro i h1 h2
 have:=h i h1
 rwa [eG h1,eG h2]at this
theorem qC {l:List α} {i:Nat} (h:i<l.length):l.take (i+1)=l.take i++[at' l i]:=by
 rw [eG h,List.take_succ_eq_append_getElem h]
theorem rX {ρ:Type} {body:Int→Option (cZ Int (Ex Unit ρ))} (l:List α) (bad:α→Bool) (f:Int→ρ) (hl:l.length≤9223372036854775807)
  (hb: ∀i:Nat,i<l.length→body i=some (bif bad (at' l i)then .done (.ret (f i))else .next ((i:Int)+1))) (he:body l.length=some (.done (.brk ()))):
  aV body FUEL 0=some (match l.findIdx? bad with|some i=> .ret (f i)|none=> .brk ()):=by
 cases h:l.findIdx? bad with
 |none=>
  rw [List.findIdx?_eq_none_iff]at h
  refine eP (fun i=>(i:Int)) l.length _ (fuel_lt (by omega)) (fun i hi=> ?_) he
  rw [hb i hi,h _ (at_mem hi)];simp
 |some k=>
  rw [List.findIdx?_eq_some_iff_getElem]at h
  obtain⟨hk,hp,hn⟩:=h
  refine eP (fun i=>(i:Int)) k _ (fuel_lt (by omega)) (fun i hi=> ?_) ?_
  ·have:=hn i hi
   rw [hb i (by omega),eG (by omega)]
   simp [this]
  ·rw [hb k hk,eG hk,hp];rfl
omit [Inhabited α]in
theorem zx (l:List α) (bad:α→Bool):(decide ((0:Int)≤(match l.findIdx? bad with|some i=>(i:Int)|none=> -1)))=l.any bad:=by
 cases h:l.findIdx? bad with
 |none=>
  rw [List.findIdx?_eq_none_iff]at h
  have:l.any bad=false:=by rw [List.any_eq_false];intro x hx;simp [h x hx]
  rw [this];simp
 |some k=>
  rw [List.findIdx?_eq_some_iff_getElem]at h
  obtain⟨hk,hp,hn⟩:=h
  have:l.any bad=true:=by rw [List.any_eq_true];exact⟨_,List.getElem_mem hk,hp⟩
  rw [this];simp
end
section
variable {α:Type}
theorem EQ {a b:Int}:bA a b=true↔a=b:=by simp [bA]
theorem Md (a:Int):bA a a=true:=EQ.mpr rfl
theorem EZ {a b:Int} (h:a≠b):bA a b=false:=by cases e:bA a b with|false=>rfl|true=>exact absurd (EQ.mp e) h
theorem iO (k:Int) (v:α): ∀l:List (Int × α),bR bA k (dL bA k v l)=some v
 |[]=>by simp [dL,bR,Md]
 |(k',v')::l=>by
  unfold dL
  cases e:bA k k' with
  |true=>simp [bR,Md]
  |false=>simp only [cond_false,bR,e];exact iO k v l
theorem jk {k j:Int} (h:j≠k) (v:α): ∀l:List (Int × α),bR bA j (dL bA k v l)=bR bA j l
 |[]=>by simp [dL,bR,EZ h]
 |(k',v')::l=>by
  unfold dL
  cases e:bA k k' with
  |true=>
   have:k=k':=EQ.mp e
   subst this
   simp [bR,EZ h]
  |false=>simp only [cond_false,bR,jk h v l]
end
theorem GX {α:Type} (c:Bool) (x y:α):(bif c then some x else some y)=some (bif c then x else y):=by cases c<;>rfl
theorem yY {ρ:Type} {body:Int→Option (cZ Int (Ex Unit ρ))} (n:Nat) (bad:Nat→Bool) (f:Int→ρ) (hl:n≤9223372036854775807)
  (hb: ∀i:Nat,i<n→body i=some (bif bad i then .done (.ret (f i))else .next ((i:Int)+1))) (he:body n=some (.done (.brk ()))):
  aV body FUEL 0=some (match(List.range n).find? bad with|some i=> .ret (f i)|none=> .brk ()):=by
 cases h:(List.range n).find? bad with
 |none=>
  rw [List.find?_eq_none]at h
  refine eP (fun i=>(i:Int)) n _ (fuel_lt (by omega)) (fun i hi=> ?_) he
  rw [hb i hi]
  have:=h i (List.mem_range.mpr hi)
  simp at this;simp [this]
 |some k=>
  rw [List.find?_range_eq_some]at h
  obtain⟨hp,hk,hn⟩:=h
  rw [List.mem_range]at hk
  refine eP (fun i=>(i:Int)) k _ (fuel_lt (by omega)) (fun i hi=> ?_) ?_
  ·have:=hn i hi
   rw [hb i (by omega)]
   simp at this;simp [this]
  ·rw [hb k hk,hp];rfl
theorem Dc {α:Type} (p:α→Bool): ∀l:List α,(l.find? p).isSome=l.any p
 |[]=>rfl
 |x::l=>by
  rw [List.any_cons,List.find?_cons]
  cases h:p x with
  |true=>simp
  |false=>simpa using Dc p l
def wi (n a b:Int):Bool:=decide (a≤n) && decide (n≤b)
theorem Dv {n a b:Int}:wi n a b=true↔a≤n∧n≤b:=by simp [wi]
theorem vY (n a b:Int):bK n a b=some (wi n a b):=by
 unfold bK wi;cases decide (a≤n)<;>rfl
def uE (b:Int) (x:Source):Bool:=wi x.bus 0 (b - 1) && wi x.kind 1 3 && wi x.power 1 100000 && wi x.sync 0 8 && wi x.ohm 10 100000
theorem QG {b:Int} (hb:1≤b∧b≤24) (x:Source) (l1:List Source) (l2:List Link) (l3:List aT):lQ x b l1 l2 l3=some (uE b x):=by
 unfold lQ uE
 simp only [vY,Option.bind_some]
 rw [wr (by omega)]
 generalize wi x.bus 0 (b - 1)=b1
 generalize wi x.kind 1 3=b2
 generalize wi x.power 1 100000=b3
 generalize wi x.sync 0 8=b4
 generalize wi x.ohm 10 100000=b5
 cases b1<;>cases b2<;>cases b3<;>cases b4<;>cases b5<;>rfl
def uH (l:List lW) (i:Nat):Bool:=
 !wi (at' l i).amps 1 1000000|| !wi (at' l i).millis 1 100000||(decide (0<i) && (decide ((at' l i).amps≤(at' l (i - 1)).amps)||decide ((at' l (i - 1)).millis≤(at' l i).millis)))
def nN (b:Int) (x:Link):Bool:=
 wi x.a 0 (b - 1) && wi x.b 0 (b - 1) && !decide (x.a=x.b) && wi x.kind 1 3 && wi x.most 1 100000 && wi x.ohm 10 100000 && !(List.range x.trip.length).any (uH x.trip) && decide ((x.trip.length:Int)≤6) && (decide ((x.trip.length:Int)=0)||decide (x.kind=3))
theorem UC {α:Type} [Inhabited α] (l:List α) (i:Nat) (h:0<i):at' l (((i:Int) - 1).toNat)=at' l (i - 1):=by
 congr 1;omega
theorem Vb (x:Link) (hx:x.trip.length≤9223372036854775807):aV (kF x) FUEL 0=some (match(List.range x.trip.length).find? (uH x.trip)with|some _=> .ret false|none=> .brk ()):=by
 refine yY x.trip.length (uH x.trip) (fun _=>false) hx (fun i hi=> ?_) ?_
 ·unfold kF
  have h1:decide ((i:Int)<(x.trip.length:Int))=true:=by simp;omega
  rw [h1,cond_true,aH (by omega)]
  simp only [vY,Option.bind_some,Int.toNat_natCast]
  rw [wr (x:=(i:Int) - 1) (by omega),wr (x:=(i:Int)+1) (by omega)]
  unfold uH
  by_cases h0:0<i
  ·rw [UC _ _ h0]
   simp only [h0,Int.natCast_pos,decide_true]
   generalize wi (at' x.trip i).amps 1 1000000=b1
   generalize wi (at' x.trip i).millis 1 100000=b2
   generalize decide ((at' x.trip i).amps≤(at' x.trip (i - 1)).amps)=b3
   generalize decide ((at' x.trip (i - 1)).millis≤(at' x.trip i).millis)=b4
   cases b1<;>cases b2<;>cases b3<;>cases b4<;>simp [gB,bM]<;>omega
  ·have:i=0:=by omega
   subst this
   generalize wi (at' x.trip 0).amps 1 1000000=b1
   generalize wi (at' x.trip 0).millis 1 100000=b2
   cases b1<;>cases b2<;>simp [gB,bM]
 ·unfold kF
  have h1:decide ((x.trip.length:Int)<(x.trip.length:Int))=false:=by simp
  rw [h1];rfl
theorem Um {b:Int} (hb:1≤b∧b≤24) (x:Link) (hx:x.trip.length≤9223372036854775807) (l1:List Source) (l2:List Link) (l3:List aT):nI x b l1 l2 l3=some (nN b x):=by
 unfold nI nN
 simp only [vY,Option.bind_some]
 rw [wr (by omega),Vb x hx]
 generalize wi x.a 0 (b - 1)=b1
 generalize wi x.b 0 (b - 1)=b2
 generalize decide (x.a=x.b)=b3
 generalize wi x.kind 1 3=b4
 generalize wi x.most 1 100000=b5
 generalize wi x.ohm 10 100000=b6
 have:(List.range x.trip.length).any (uH x.trip)=((List.range x.trip.length).find? (uH x.trip)).isSome:=(Dc _ _).symm
 rw [this]
 cases b1<;>cases b2<;>cases b3<;>cases b4<;>cases b5<;>cases b6<;>try rfl
 cases(List.range x.trip.length).find? (uH x.trip)with
 |some k=>simp [gB]
 |none=>
  simp only [gB,Option.bind_some,Option.isSome_none]
  generalize decide ((x.trip.length:Int)≤6)=c1
  generalize decide ((x.trip.length:Int)=0)=c2
  generalize decide (x.kind=3)=c3
  cases c1<;>cases c2<;>cases c3<;>rfl
def zK (x:aT):Int:=if x.feeds.e1= -1 then 1 else 2
def nX (b:Int) (x:aT):Bool:=wi x.feeds.e0 0 (b - 1) && wi x.feeds.e1 (-1) (b - 1) && !decide (x.feeds.e0=x.feeds.e1) && wi x.power 1 100000 && wi x.paths 0 (zK x)
theorem QR (x:aT):o8 x=some (zK x):=by
 unfold o8 zK
 by_cases h:x.feeds.e1= -1<;>simp [h]
theorem Uq {b:Int} (hb:1≤b∧b≤24) (x:aT) (l1:List Source) (l2:List Link) (l3:List aT):nW x b l1 l2 l3=some (nX b x):=by
 unfold nW nX
 simp only [vY,Option.bind_some,QR]
 rw [wr (by omega)]
 generalize wi x.feeds.e0 0 (b - 1)=b1
 generalize wi x.feeds.e1 (-1) (b - 1)=b2
 generalize decide (x.feeds.e0=x.feeds.e1)=b3
 generalize hb4:wi x.power 1 100000=b4
 cases b1<;>cases b2<;>cases b3<;>cases b4<;>simp [gB]<;>rfl
theorem zk {α ρ:Type} [Inhabited α] {l:List α} {i:Nat} (hi:i<l.length) (hl:l.length≤9223372036854775807) (b:Bool) (f:Int→ρ) (G:Option (cZ Int (Ex Unit ρ))):
  (bif (decide ((i:Int)<(l.length:Int)))then((some b).bind fun r_=>bM ((0:Int)≤(i:Int)∧(i:Int)<(l.length:Int)) (bif r_ then some (.done (.ret (f (i:Int))))else some (.next (IntKind.wrap .i64 ((i:Int)+1)))))else G)=some (bif b then .done (.ret (f i))else .next ((i:Int)+1)):=by
 have h1:decide ((i:Int)<(l.length:Int))=true:=by simp;omega
 rw [h1,cond_true,Option.bind_some,aH (by omega),wr (by omega)]
 cases b<;>rfl
theorem Tt {b:Int} (hb:1≤b∧b≤24) (l:List Source) (hl:l.length≤9223372036854775807) (m:Int) (l1:List Source) (l2:List Link) (l3:List aT):
  qF l m b l1 l2 l3=some (decide ((l.length:Int)≤m) && l.all (uE b)):=by
 have hs:iR l b l1 l2 l3=some (l.any fun x=> !uE b x):=by
  unfold iR mZ
  rw [rX l (fun x=> !uE b x) id hl (fun i hi=> ?_) ?_]
  ·rw [←zx];cases l.findIdx? fun x=> !uE b x<;>rfl
  ·unfold ku;simp
  ·unfold ku rM
   rw [Int.toNat_natCast,QG hb,Option.bind_some]
   exact zk hi hl _ id _
 unfold qF
 rw [hs]
 have:(!l.any fun x=> !uE b x)=l.all (uE b):=by rw [List.not_any_eq_all_not];simp
 rw [←this]
 cases decide ((l.length:Int)≤m)<;>simp [gB]
theorem Ql {b:Int} (hb:1≤b∧b≤24) (l:List Link) (hl:l.length≤9223372036854775807) (ht: ∀x∈l,x.trip.length≤9223372036854775807) (m:Int) (l1:List Source) (l2:List Link) (l3:List aT):
  nR l m b l1 l2 l3=some (decide ((l.length:Int)≤m) && l.all (nN b)):=by
 have hs:gU l b l1 l2 l3=some (l.any fun x=> !nN b x):=by
  unfold gU kD
  rw [rX l (fun x=> !nN b x) id hl (fun i hi=> ?_) ?_]
  ·rw [←zx];cases l.findIdx? fun x=> !nN b x<;>rfl
  ·unfold jo;simp
  ·unfold jo nV
   rw [Int.toNat_natCast,Um hb _ (ht _ (at_mem hi)),Option.bind_some]
   exact zk hi hl _ id _
 unfold nR
 rw [hs]
 have:(!l.any fun x=> !nN b x)=l.all (nN b):=by rw [List.not_any_eq_all_not];simp
 rw [←this]
 cases decide ((l.length:Int)≤m)<;>simp [gB]
theorem Qx {b:Int} (hb:1≤b∧b≤24) (l:List aT) (hl:l.length≤9223372036854775807) (m:Int) (l1:List Source) (l2:List Link) (l3:List aT):
  nL l m b l1 l2 l3=some (decide ((l.length:Int)≤m) && l.all (nX b)):=by
 have hs:gW l b l1 l2 l3=some (l.any fun x=> !nX b x):=by
  unfold gW kC
  rw [rX l (fun x=> !nX b x) id hl (fun i hi=> ?_) ?_]
  ·rw [←zx];cases l.findIdx? fun x=> !nX b x<;>rfl
  ·unfold jw;simp
  ·unfold jw nU
   rw [Int.toNat_natCast,Uq hb,Option.bind_some]
   exact zk hi hl _ id _
 unfold nL
 rw [hs]
 have:(!l.any fun x=> !nX b x)=l.all (nX b):=by rw [List.not_any_eq_all_not];simp
 rw [←this]
 cases decide ((l.length:Int)≤m)<;>simp [gB]
structure Small (p:au):Prop where
 src:p.sources.length≤9223372036854775807
 lnk:p.links.length≤9223372036854775807
 rck:p.racks.length≤9223372036854775807
 trp: ∀x∈p.links,x.trip.length≤9223372036854775807
def wH (p:au):Int:=
 if wi p.buses 1 24=false then 10 else if(decide ((p.sources.length:Int)≤8) && p.sources.all (uE p.buses))=false then 11
 else if(decide ((p.links.length:Int)≤40) && p.links.all (nN p.buses))=false then 12 else if(decide ((p.racks.length:Int)≤24) && p.racks.all (nX p.buses))=false then 13 else 0
theorem Kt (p:au) (hp:Small p):mq p=some (wH p):=by
 unfold mq wH
 simp only [vY,Option.bind_some,sJ,wZ,wR]
 cases h0:wi p.buses 1 24 with
 |false=>simp
 |true=>
  have hb:=Dv.mp h0
  rw [Tt hb _ hp.src,Ql hb _ hp.lnk hp.trp,Qx hb _ hp.rck]
  simp only [Option.bind_some,Bool.not_true,cond_false]
  generalize (decide ((p.sources.length:Int)≤8) && p.sources.all (uE p.buses))=b1
  generalize (decide ((p.links.length:Int)≤40) && p.links.all (nN p.buses))=b2
  generalize (decide ((p.racks.length:Int)≤24) && p.racks.all (nX p.buses))=b3
  cases b1<;>cases b2<;>cases b3<;>simp
def pX (p:au) (s:State):Bool:=
 decide (s.closed.length=p.links.length) && decide (s.locked.length=p.links.length) && decide (s.badLink.length=p.links.length) && decide (s.on_.length=p.sources.length) && decide (s.badSource.length=p.sources.length) &&
 decide ((s.earthed.length:Int)=p.buses) && decide ((s.badBus.length:Int)=p.buses)
def kZ (p:au) (s:State) (i:Nat):Bool:=decide ((at' p.links i).kind=1) && (!at' s.closed i||at' s.locked i)
def Du (p:au) (s:State):Int:=if wH p≠0 then wH p else if pX p s && !(List.range p.links.length).any (kZ p s)then 0 else 9
theorem pq (p:au) (s:State) (hp:Small p):dI p s=some (Du p s):=by
 unfold dI Du
 rw [Kt p hp,Option.bind_some]
 by_cases hc:wH p=0
 ·rw [hc]
  simp only [decide_true,Bool.not_true,cond_false,ne_eq,not_true_eq_false,if_false]
  have h0:aV (iV p s) FUEL 0=some (bif pX p s then .brk ()else .ret 9):=by
   have key:=yY (body:=iV p s) 7 (fun i=> !decide (((at' [(⟨s.closed,(p.links.length:Int)⟩:dN),(⟨s.locked,(p.links.length:Int)⟩:dN),(⟨s.badLink,(p.links.length:Int)⟩:dN),(⟨s.on_,(p.sources.length:Int)⟩:dN),(⟨s.badSource,(p.sources.length:Int)⟩:dN),(⟨s.earthed,p.buses⟩:dN),(⟨s.badBus,p.buses⟩:dN)] i).l.length:Int)=(at' [(⟨s.closed,(p.links.length:Int)⟩:dN),(⟨s.locked,(p.links.length:Int)⟩:dN),(⟨s.badLink,(p.links.length:Int)⟩:dN),(⟨s.on_,(p.sources.length:Int)⟩:dN),(⟨s.badSource,(p.sources.length:Int)⟩:dN),(⟨s.earthed,p.buses⟩:dN),(⟨s.badBus,p.buses⟩:dN)] i).n)) (fun _=>(9:Int)) (by omega) (fun i hi=> ?_) ?_
   ·rw [key]
    have e:((List.range 7).find? fun i=> !decide (((at' [(⟨s.closed,(p.links.length:Int)⟩:dN),(⟨s.locked,(p.links.length:Int)⟩:dN),(⟨s.badLink,(p.links.length:Int)⟩:dN),(⟨s.on_,(p.sources.length:Int)⟩:dN),(⟨s.badSource,(p.sources.length:Int)⟩:dN),(⟨s.earthed,p.buses⟩:dN),(⟨s.badBus,p.buses⟩:dN)] i).l.length:Int)=(at' [(⟨s.closed,(p.links.length:Int)⟩:dN),(⟨s.locked,(p.links.length:Int)⟩:dN),(⟨s.badLink,(p.links.length:Int)⟩:dN),(⟨s.on_,(p.sources.length:Int)⟩:dN),(⟨s.badSource,(p.sources.length:Int)⟩:dN),(⟨s.earthed,p.buses⟩:dN),(⟨s.badBus,p.buses⟩:dN)] i).n)).isSome= !pX p s:=by
     rw [show List.range 7=[0,1,2,3,4,5,6]from rfl,Dc]
     simp only [List.any_cons,List.any_nil,at',List.getD_cons_zero,List.getD_cons_succ,pX,Int.natCast_inj]
     simp [Bool.or_assoc]
    revert e
    cases hf:(List.range 7).find? _ with
    |none=>
     intro e
     have:pX p s=true:=by simpa using e.symm
     rw [this];rfl
    |some k=>
     intro e
     have:pX p s=false:=by simpa using e.symm
     rw [this];rfl
   ·have h1:decide ((i:Int)<7)=true:=by simp;omega
    unfold iV
    rw [show([(⟨s.closed,(p.links.length:Int)⟩:dN),(⟨s.locked,(p.links.length:Int)⟩:dN),(⟨s.badLink,(p.links.length:Int)⟩:dN),(⟨s.on_,(p.sources.length:Int)⟩:dN),(⟨s.badSource,(p.sources.length:Int)⟩:dN),(⟨s.earthed,p.buses⟩:dN),(⟨s.badBus,p.buses⟩:dN)].length:Int)=7 from rfl,h1,cond_true,aH (by omega),Int.toNat_natCast,wr (by omega)]
    exact GX _ _ _
   ·rfl
  rw [h0,Option.bind_some]
  cases hL:pX p s with
  |false=>rfl
  |true=>
   simp only [cond_true,Bool.true_and]
   simp only [pX,Bool.and_eq_true,decide_eq_true_eq]at hL
   have h1:aV (iW p s) FUEL 0=some (match(List.range p.links.length).find? (kZ p s)with|some _=> .ret 9|none=> .brk ()):=by
    refine yY p.links.length (kZ p s) (fun _=>9) hp.lnk (fun i hi=> ?_) ?_
    ·unfold iW kZ
     have h1:decide ((i:Int)<(p.links.length:Int))=true:=by simp;omega
     have:=hp.lnk
     rw [h1,cond_true,aH (by omega),Int.toNat_natCast,wr (by omega),aH ⟨fun _=>by omega,fun _=>by omega⟩]
     generalize decide ((at' p.links i).kind=1)=b1
     generalize at' s.closed i=b2
     generalize at' s.locked i=b3
     cases b1<;>cases b2<;>cases b3<;>rfl
    ·unfold iW;simp
   rw [h1,Option.bind_some]
   have:(List.range p.links.length).any (kZ p s)=((List.range p.links.length).find? (kZ p s)).isSome:=(Dc _ _).symm
   rw [this]
   cases(List.range p.links.length).find? (kZ p s)<;>rfl
 ·have:decide (wH p=0)=false:=by simp [hc]
  rw [this]
  simp [hc]
structure VL (b:Int) (x:Link):Prop where
 a:0≤x.a∧x.a<b
 b:0≤x.b∧x.b<b
 ab:x.a≠x.b
 kind:1≤x.kind∧x.kind≤3
 most:1≤x.most∧x.most≤100000
 ohm:10≤x.ohm∧x.ohm≤100000
 tl:x.trip.length≤6
 trip: ∀i,i<x.trip.length→uH x.trip i=false
 trk:x.trip=[]∨x.kind=3
structure Zr (b:Int) (x:Source):Prop where
 bus:0≤x.bus∧x.bus<b
 kind:1≤x.kind∧x.kind≤3
 power:1≤x.power∧x.power≤100000
 sync:0≤x.sync∧x.sync≤8
 ohm:10≤x.ohm∧x.ohm≤100000
structure VR (b:Int) (x:aT):Prop where
 e0:0≤x.feeds.e0∧x.feeds.e0<b
 e1: -1≤x.feeds.e1∧x.feeds.e1<b
 ne:x.feeds.e0≠x.feeds.e1
 power:1≤x.power∧x.power≤100000
 paths:0≤x.paths∧x.paths≤zK x
structure VP (p:au):Prop where
 b:1≤p.buses∧p.buses≤24
 sl:p.sources.length≤8
 src: ∀i,i<p.sources.length→Zr p.buses (at' p.sources i)
 ll:p.links.length≤40
 lnk: ∀i,i<p.links.length→VL p.buses (at' p.links i)
 rl:p.racks.length≤24
 rck: ∀i,i<p.racks.length→VR p.buses (at' p.racks i)
structure VS (p:au) (s:State):Prop where
 closed:s.closed.length=p.links.length
 locked:s.locked.length=p.links.length
 badLink:s.badLink.length=p.links.length
 on:s.on_.length=p.sources.length
 badSource:s.badSource.length=p.sources.length
 earthed:(s.earthed.length:Int)=p.buses
 badBus:(s.badBus.length:Int)=p.buses
 cable: ∀i,i<p.links.length→(at' p.links i).kind=1→at' s.closed i=true∧at' s.locked i=false
theorem Io {b:Int} {x:Source}:uE b x=true↔Zr b x:=by
 simp only [uE,Bool.and_eq_true,Dv]
 exact⟨fun⟨⟨⟨⟨h1,h2⟩,h3⟩,h4⟩,h5⟩=> ⟨by omega,h2,h3,h4,h5⟩,fun h=> ⟨⟨⟨⟨by have:=h.bus;omega,h.kind⟩,h.power⟩,h.sync⟩,h.ohm⟩⟩
theorem FV {b:Int} {x:aT}:nX b x=true↔VR b x:=by
 simp only [nX,Bool.and_eq_true,Dv,Bool.not_eq_true',decide_eq_false_iff_not]
 exact⟨fun⟨⟨⟨⟨h1,h2⟩,h3⟩,h4⟩,h5⟩=> ⟨by omega,by omega,h3,h4,h5⟩,fun h=> ⟨⟨⟨⟨by have:=h.e0;omega,by have:=h.e1;omega⟩,h.ne⟩,h.power⟩,h.paths⟩⟩
theorem FT {b:Int} {x:Link}:nN b x=true↔VL b x:=by
 simp only [nN,Bool.and_eq_true,Dv,Bool.not_eq_true',decide_eq_false_iff_not,Bool.or_eq_true,decide_eq_true_eq,List.any_eq_false,List.mem_range,Bool.not_eq_true]
 constructor
 ·rintro ⟨⟨⟨⟨⟨⟨⟨⟨h1,h2⟩,h3⟩,h4⟩,h5⟩,h6⟩,h7⟩,h8⟩,h9⟩
  exact⟨by omega,by omega,h3,h4,h5,h6,by omega,h7,h9.imp (fun h=>List.eq_nil_of_length_eq_zero (by omega)) id⟩
 ·intro h
  refine⟨⟨⟨⟨⟨⟨⟨⟨by have:=h.a;omega,by have:=h.b;omega⟩,h.ab⟩,h.kind⟩,h.most⟩,h.ohm⟩,h.trip⟩,by have:=h.tl;omega⟩,h.trk.imp (fun e=>by simp [e]) id⟩
theorem yE {p:au}:wH p=0↔VP p:=by
 unfold wH
 constructor
 ·intro h
  cases h0:wi p.buses 1 24 with
  |false=>rw [h0]at h;simp at h
  |true=>
   rw [h0]at h
   cases h1:(decide ((p.sources.length:Int)≤8) && p.sources.all (uE p.buses))with
   |false=>rw [h1]at h;simp at h
   |true=>
    rw [h1]at h
    cases h2:(decide ((p.links.length:Int)≤40) && p.links.all (nN p.buses))with
    |false=>rw [h2]at h;simp at h
    |true=>
     rw [h2]at h
     cases h3:(decide ((p.racks.length:Int)≤24) && p.racks.all (nX p.buses))with
     |false=>rw [h3]at h;simp at h
     |true=>
      simp only [Bool.and_eq_true,decide_eq_true_eq,List.all_eq_true]at h1 h2 h3
      exact⟨Dv.mp h0,by omega,fun i hi=>Io.mp (h1.2 _ (at_mem hi)),by omega,fun i hi=>FT.mp (h2.2 _ (at_mem hi)),by omega,fun i hi=>FV.mp (h3.2 _ (at_mem hi))⟩
 ·intro h
  have h0:wi p.buses 1 24=true:=Dv.mpr h.b
  have h1:(decide ((p.sources.length:Int)≤8) && p.sources.all (uE p.buses))=true:=by
   simp only [Bool.and_eq_true,decide_eq_true_eq,List.all_eq_true]
   exact⟨by have:=h.sl;omega,fun x hx=>by obtain⟨i,hi,rfl⟩:=j5 hx;exact Io.mpr (h.src i hi)⟩
  have h2:(decide ((p.links.length:Int)≤40) && p.links.all (nN p.buses))=true:=by
   simp only [Bool.and_eq_true,decide_eq_true_eq,List.all_eq_true]
   exact⟨by have:=h.ll;omega,fun x hx=>by obtain⟨i,hi,rfl⟩:=j5 hx;exact FT.mpr (h.lnk i hi)⟩
  have h3:(decide ((p.racks.length:Int)≤24) && p.racks.all (nX p.buses))=true:=by
   simp only [Bool.and_eq_true,decide_eq_true_eq,List.all_eq_true]
   exact⟨by have:=h.rl;omega,fun x hx=>by obtain⟨i,hi,rfl⟩:=j5 hx;exact FV.mpr (h.rck i hi)⟩
  rw [h0,h1,h2,h3];rfl
theorem VP.small {p:au} (h:VP p):Small p:=by
 refine⟨by have:=h.sl;omega,by have:=h.ll;omega,by have:=h.rl;omega,fun x hx=> ?_⟩
 obtain⟨i,hi,rfl⟩:=j5 hx
 have:=(h.lnk i hi).tl;omega
theorem uF {p:au} {s:State}:Du p s=0↔VP p∧VS p s:=by
 unfold Du
 by_cases hc:wH p=0
 ·rw [if_neg (by simp [hc])]
  have hv:=yE.mp hc
  constructor
  ·intro h
   cases h1:(pX p s && !(List.range p.links.length).any (kZ p s))with
   |false=>rw [h1]at h;simp at h
   |true=>
    simp only [pX,Bool.and_eq_true,decide_eq_true_eq,Bool.not_eq_true',List.any_eq_false,List.mem_range,kZ,Bool.or_eq_true,not_and,not_or,Bool.not_eq_true]at h1
    obtain⟨⟨⟨⟨⟨⟨⟨h1,h2⟩,h3⟩,h4⟩,h5⟩,h6⟩,h7⟩,h8⟩:=h1
    exact⟨hv,h1,h2,h3,h4,h5,h6,h7,fun i hi hk=>by have:=h8 i hi hk;simpa using this⟩
  ·rintro ⟨_,h⟩
   have:(pX p s && !(List.range p.links.length).any (kZ p s))=true:=by
    simp only [pX,Bool.and_eq_true,decide_eq_true_eq,Bool.not_eq_true',List.any_eq_false,List.mem_range,kZ,Bool.or_eq_true,not_and,not_or,Bool.not_eq_true]
    exact⟨⟨⟨⟨⟨⟨⟨h.closed,h.locked⟩,h.badLink⟩,h.on⟩,h.badSource⟩,h.earthed⟩,h.badBus⟩,fun i hi hk=>by have:=h.cable i hi hk;simpa using this⟩
   rw [this];rfl
 ·rw [if_pos hc]
  exact⟨fun h=>absurd h hc,fun h=>absurd (yE.mpr h.1) hc⟩
def bB (p:au) (s:State) (i:Nat):Bool:=at' s.closed i && !at' s.badLink i && !at' s.badBus (at' p.links i).a.toNat && !at' s.badBus (at' p.links i).b.toNat
def bG (p:au) (s:State) (k:Nat):Bool:=at' s.on_ k && !at' s.badSource k && !at' s.badBus (at' p.sources k).bus.toNat
inductive Wk (p:au) (s:State) (b:Nat):List Int→Nat→Prop where
 |nil:Wk p s b [] b
 |snoc {l:List Int} {v w i:Nat}:Wk p s b l v→i<p.links.length→bB p s i=true→
   ((at' p.links i).a.toNat=v∧(at' p.links i).b.toNat=w∨(at' p.links i).b.toNat=v∧(at' p.links i).a.toNat=w)→Wk p s b (l++[(i:Int)]) w
def tab {α:Type} (n:Nat) (f:Nat→α):List α:=(List.range n).map f
section
variable {α:Type} [Inhabited α]
theorem cK (n:Nat) (f:Nat→α):(tab n f).length=n:=by simp [tab]
theorem wK {n:Nat} {f:Nat→α} {i:Nat} (h:i<n):at' (tab n f) i=f i:=by
 rw [eG (by rw [cK];exact h)];simp [tab]
end
structure Yi (s:State):Prop where
 l0:s.closed.length≤1000000000
 l1:s.locked.length≤1000000000
 l2:s.badLink.length≤1000000000
 l3:s.on_.length≤1000000000
 l4:s.badSource.length≤1000000000
 l5:s.earthed.length≤1000000000
 l6:s.badBus.length≤1000000000
theorem VS.small {p:au} {s:State} (hp:VP p) (h:VS p s):Yi s:=by
 have h1:=hp.ll;have h2:=hp.sl;have h3:=hp.b
 obtain⟨a1,a2,a3,a4,a5,a6,a7,_⟩:=h
 exact⟨by omega,by omega,by omega,by omega,by omega,by omega,by omega⟩
section
variable {p:au} {s:State} (hp:VP p) (hs:VS p s)
include hp hs
end
def Ch (hd:List (Int × Int)):Nat→Int→Int→Prop
 |0,x,r=>bR bA x hd=none∧r=x
 |k+1,x,r=> ∃y,bR bA x hd=some y∧Ch hd k y r
theorem of_run {hd:List (Int × Int)}: ∀(k:Nat) (x r:Int),Ch hd k x r→aV (fE ⟨hd⟩) (k+1) x=some (.ret r)
 |0,x,r,h=>by
  obtain⟨h,e⟩:=h
  rw [bH];unfold fE;simp [h,e]
 |k+1,x,r,h=>by
  obtain⟨y,h,hc⟩:=h
  have:fE ⟨hd⟩ x=some (.next y):=by unfold fE;simp [h]
  rw [bH,this]
  exact of_run k y r hc
theorem of_eq {hd:List (Int × Int)} {k:Nat} {x r:Int} (h:Ch hd k x r) (hk:k≤1000):dO ⟨hd⟩ x=some r:=by
 unfold dO
 rw [iP (of_run k x r h) (by unfold FUEL;omega)];rfl
theorem Ch.root {hd:List (Int × Int)}: ∀{k:Nat} {x r:Int},Ch hd k x r→bR bA r hd=none
 |0,x,r,h=>by obtain⟨h,e⟩:=h;rw [e];exact h
 |k+1,x,r,h=>by obtain⟨y,_,hc⟩:=h;exact hc.root
theorem Ch.set {hd:List (Int × Int)} {a b:Int} (hab:a≠b) (ha:bR bA a hd=none) (hb:bR bA b hd=none): ∀{k:Nat} {x r:Int},Ch hd k x r→
  ∃k',k'≤k+1∧Ch (dL bA a b hd) k' x (if r=a then b else r)
 |0,x,r,h=>by
  obtain⟨h,e⟩:=h
  subst e
  by_cases e:r=a
  ·subst e
   rw [if_pos rfl]
   exact⟨1,by omega,b,iO _ _ _,by rw [jk (Ne.symm hab)];exact hb,rfl⟩
  ·rw [if_neg e]
   exact⟨0,by omega,by rw [jk e];exact h,rfl⟩
 |k+1,x,r,h=>by
  obtain⟨y,h,hc⟩:=h
  obtain⟨k',hk,hc'⟩:=hc.set hab ha hb
  have:x≠a:=fun e=>by rw [e,ha]at h;cases h
  exact⟨k'+1,by omega,y,by rw [jk this];exact h,hc'⟩
section
variable {p:au} {s:State}
theorem Wk.trans {u v w:Nat} {l m:List Int} (h:Wk p s u l v) (h':Wk p s v m w):Wk p s u (l++m) w:=by
 induction h' with
 |nil=>simpa using h
 |snoc _ hi hc he ih=>rw [←List.append_assoc];exact ih.snoc hi hc he
theorem Wk.symm {u v:Nat} {l:List Int} (h:Wk p s u l v): ∃m,Wk p s v m u:=by
 induction h with
 |nil=>exact⟨[], .nil⟩
 |snoc _ hi hc he ih=>
  obtain⟨m,hm⟩:=ih
  exact⟨_,(Wk.nil.snoc hi hc (he.symm.imp id id|>.elim (fun⟨a,b⟩=> .inl ⟨b,a⟩) fun⟨a,b⟩=> .inr ⟨b,a⟩)).trans hm⟩
def wD (p:au) (s:State):Nat→List (Int × Int) × (Int→Int)
 |0=>([],id)
 |n+1=>
  let q:=wD p s n
  if bB p s n=true∧q.2 (at' p.links n).a≠q.2 (at' p.links n).b then
   (dL bA (q.2 (at' p.links n).a) (q.2 (at' p.links n).b) q.1,fun x=>if q.2 x=q.2 (at' p.links n).a then q.2 (at' p.links n).b else q.2 x)
  else q
structure UF (p:au) (s:State) (n:Nat) (hd:List (Int × Int)) (f:Int→Int):Prop where
 ch: ∀x,∃k,k≤n∧Ch hd k x (f x)
 cn: ∀x:Nat,(x:Int)<p.buses→0≤f x∧f x<p.buses∧ ∃l,Wk p s x l (f x).toNat
 ed: ∀i,i<n→bB p s i=true→f (at' p.links i).a=f (at' p.links i).b
theorem uf (hp:VP p): ∀n,n≤p.links.length→UF p s n (wD p s n).1 (wD p s n).2
 |0,_=> ⟨fun x=> ⟨0,Nat.le_refl _,rfl,rfl⟩,fun x hx=> ⟨by show(0:Int)≤x;omega,hx,[],by show Wk p s x [] ((x:Int).toNat);simp;exact .nil⟩,fun i hi=>absurd hi (Nat.not_lt_zero _)⟩
 |n+1,hn=>by
  have h:=uf hp n (by omega)
  have hl:=hp.lnk n (by omega)
  unfold wD
  by_cases hc:bB p s n=true∧(wD p s n).2 (at' p.links n).a≠(wD p s n).2 (at' p.links n).b
  ·rw [if_pos hc]
   obtain⟨hc1,hc2⟩:=hc
   obtain⟨ka,_,ca⟩:=h.ch (at' p.links n).a
   obtain⟨kb,_,cb⟩:=h.ch (at' p.links n).b
   refine⟨fun x=> ?_,fun x hx=> ?_,fun i hi hci=> ?_⟩
   ·obtain⟨k,hk,c⟩:=h.ch x
    obtain⟨k',hk',c'⟩:=c.set hc2 ca.root cb.root
    exact⟨k',by omega,c'⟩
   ·obtain⟨h0,h1,l,hw⟩:=h.cn x hx
    simp only
    by_cases e:(wD p s n).2 x=(wD p s n).2 (at' p.links n).a
    ·rw [if_pos e]
     have ha:=hl.a;have hb:=hl.b
     obtain⟨_,_,la,wa⟩:=h.cn (at' p.links n).a.toNat (by omega)
     obtain⟨b0,b1,lb,wb⟩:=h.cn (at' p.links n).b.toNat (by omega)
     have ea:(((at' p.links n).a.toNat:Nat):Int)=(at' p.links n).a:=by omega
     have eb:(((at' p.links n).b.toNat:Nat):Int)=(at' p.links n).b:=by omega
     rw [ea,←e]at wa
     rw [eb]at wb b0 b1
     obtain⟨m,wm⟩:=wa.symm
     refine⟨b0,b1,_,((hw.trans wm).snoc (by omega) hc1 (.inl ⟨rfl,rfl⟩)).trans wb⟩
    ·rw [if_neg e];exact⟨h0,h1,l,hw⟩
   ·simp only
    by_cases e:i=n
    ·subst e;rw [if_pos rfl]
     by_cases e2:(wD p s i).2 (at' p.links i).b=(wD p s i).2 (at' p.links i).a
     ·rw [if_pos e2]
     ·rw [if_neg e2]
    ·rw [h.ed i (by omega) hci]
  ·rw [if_neg hc]
   refine⟨fun x=> ?_,h.cn,fun i hi hci=> ?_⟩
   ·obtain⟨k,hk,c⟩:=h.ch x;exact⟨k,by omega,c⟩
   ·by_cases e:i=n
    ·subst e
     by_cases e2:(wD p s i).2 (at' p.links i).a=(wD p s i).2 (at' p.links i).b
     ·exact e2
     ·exact absurd ⟨hci,e2⟩ hc
    ·exact h.ed i (by omega) hci
def lU (p:au) (s:State) (x:Nat):Int:=(wD p s p.links.length).2 x
theorem K4 (hp:VP p) {u v:Nat} (hu:(u:Int)<p.buses) (hv:(v:Int)<p.buses):lU p s u=lU p s v↔ ∃l,Wk p s u l v:=by
 have h:=uf (s:=s) hp p.links.length (Nat.le_refl _)
 constructor
 ·intro e
  obtain⟨_,_,l,w⟩:=h.cn u hu
  obtain⟨_,_,m,w'⟩:=h.cn v hv
  obtain⟨m',w''⟩:=w'.symm
  have:(wD p s p.links.length).2 u=(wD p s p.links.length).2 v:=e
  rw [this]at w
  exact⟨_,w.trans w''⟩
 ·rintro ⟨l,w⟩
  clear hv
  induction w with
  |nil=>rfl
  |snoc w hi hc he ih=>
   rename_i i
   rw [ih]
   have hl:=hp.lnk i hi
   have ha:=hl.a;have hb:=hl.b
   have ed:=h.ed i hi hc
   unfold lU
   rcases he with⟨e1,e2⟩|⟨e1,e2⟩
   ·rw [←e1,←e2,Int.toNat_of_nonneg (by omega),Int.toNat_of_nonneg (by omega),ed]
   ·rw [←e1,←e2,Int.toNat_of_nonneg (by omega),Int.toNat_of_nonneg (by omega),ed]
theorem OI (hp:VP p) (x:Int):dO ⟨(wD p s p.links.length).1⟩ x=some ((wD p s p.links.length).2 x):=by
 obtain⟨k,hk,c⟩:=(uf (s:=s) hp p.links.length (Nat.le_refl _)).ch x
 have:=hp.ll
 exact of_eq c (by omega)
theorem join_eq (hp:VP p) {n:Nat} (hn:n<p.links.length) (hc:bB p s n=true):jB ⟨(wD p s n).1⟩ (at' p.links n).a (at' p.links n).b=some (wD p s (n+1)).1:=by
 have h:=uf (s:=s) hp n (by omega)
 have:=hp.ll
 obtain⟨ka,_,ca⟩:=h.ch (at' p.links n).a
 obtain⟨kb,_,cb⟩:=h.ch (at' p.links n).b
 unfold jB
 rw [of_eq ca (by omega),of_eq cb (by omega)]
 simp only [Option.bind_some]
 rw [wD]
 by_cases e:(wD p s n).2 (at' p.links n).a=(wD p s n).2 (at' p.links n).b
 ·simp [e]
 ·simp [e,hc]
end
theorem tZ {α:Type} [Inhabited α] {l m:List α} {j:Nat} (h:j<l.length):at' (l++m) j=at' l j:=by
 rw [eG (by rw [List.length_append];omega),eG h,List.getElem_append_left]
theorem wN {α:Type} [Inhabited α] (l:List α) (x:α):at' (l++[x]) l.length=x:=by
 rw [eG (by simp)];simp
section
variable {p:au} {s:State} (hp:VP p) (hs:VS p s)
include hp hs
theorem Pm {i:Nat} (hi:i<p.links.length):dZ p.links s.closed s.badLink s.badBus ((wD p s i).1,(i:Int))=some (.next ((wD p s (i+1)).1,((i+1:Nat):Int))):=by
 have hl:=hp.lnk i hi
 have ha:=hl.a;have hb:=hl.b;have h1:=hs.closed;have h2:=hs.badLink;have h3:=hs.badBus;have hll:=hp.ll
 have hd:decide ((i:Int)<(p.links.length:Int))=true:=decide_eq_true (by omega)
 have hcb:(bif (bif (bif (at' s.closed i)then(!(at' s.badLink i))else false)then(!(at' s.badBus (((at' p.links i).a).toNat)))else false)then(!(at' s.badBus (((at' p.links i).b).toNat)))else false)=bB p s i:=by
  unfold bB
  cases at' s.closed i<;>cases at' s.badLink i<;>cases at' s.badBus (at' p.links i).a.toNat<;>cases at' s.badBus (at' p.links i).b.toNat<;>rfl
 unfold dZ
 simp only [Int.toNat_natCast]
 rw [hd,cond_true,aH (by omega),hcb]
 cases hc:bB p s i with
 |true=>
  rw [cond_true]
  unfold kT
  rw [join_eq hp hi hc]
  simp only [Option.bind_some]
  rw [aH ⟨by omega,fun _=>by omega,fun _=>by omega,fun _=>by omega⟩,wr (by omega)]
  rfl
 |false=>
  rw [cond_false,aH ⟨by omega,fun _=>by omega,fun _=>by omega,fun _=>by omega⟩,wr (by omega)]
  have:wD p s (i+1)=wD p s i:=by rw [wD];simp [hc]
  rw [this];rfl
theorem Ho:kS p.buses p.sources p.links p.racks s.closed s.locked s.badLink s.on_ s.badSource s.earthed s.badBus ⟨[]⟩=some ⟨(wD p s p.links.length).1⟩:=by
 have hll:=hp.ll
 have key:aV (dZ p.links s.closed s.badLink s.badBus) FUEL ((wD p s 0).1,((0:Nat):Int))=some (.brk (wD p s p.links.length).1):=by
  refine eP (fun i=>((wD p s i).1,(i:Int))) p.links.length _ (fuel_lt (by omega)) (fun i hi=>Pm hp hs hi) ?_
  unfold dZ
  simp
 show(aV (dZ p.links s.closed s.badLink s.badBus) FUEL ((wD p s 0).1,((0:Nat):Int))).bind _=_
 rw [key];rfl
omit hs
structure II (p:au) (s:State) (t n:Nat) (out:List aS) (m:List (Int × Int)):Prop where
 ix: ∀h i,bR bA h m=some i→0≤i∧i<(out.length:Int)
 inj: ∀h h' i,bR bA h m=some i→bR bA h' m=some i→h=h'
 cov: ∀b:Nat,b<t→at' s.badBus b=false→ ∃j:Nat,bR bA (lU p s b) m=some (j:Int)∧(b:Int)∈(at' out j).buses
 mem: ∀j,j<out.length→ ∀x∈(at' out j).buses,∃b:Nat,x=b∧b<t∧at' s.badBus b=false∧bR bA (lU p s b) m=some (j:Int)
 src: ∀j,j<out.length→(at' out j).sources=[]
 len:out.length≤n
 bl: ∀j,j<out.length→(at' out j).buses.length≤t
omit hp
theorem II.fresh {t n:Nat} {out:List aS} {m:List (Int × Int)} {h0:Int} (g:II p s t n out m) (hn:bR bA h0 m=none):II p s t (n+1) (out++[⟨[],[]⟩]) (dL bA h0 (out.length:Int) m):=by
 have old: ∀h i,h≠h0→bR bA h (dL bA h0 (out.length:Int) m)=some i→bR bA h m=some i:=fun h i e q=>by rwa [jk e]at q
 refine⟨fun h i q=> ?_,fun h h' i q q'=> ?_,fun b hb hbad=> ?_,fun j hj x hx=> ?_,fun j hj=> ?_, ?_,fun j hj=> ?_⟩
 ·rw [List.length_append]
  by_cases e:h=h0
  ·subst e;rw [iO]at q;cases q;simp;omega
  ·have:=g.ix h i (old h i e q);simp;omega
 ·by_cases e:h=h0
  ·subst e;rw [iO]at q;cases q
   by_cases e':h'=h
   ·exact e'.symm
   ·have:=g.ix h' _ (old h' _ e' q');omega
  ·by_cases e':h'=h0
   ·subst e';rw [iO]at q';cases q'
    have:=g.ix h _ (old h _ e q);omega
   ·exact g.inj h h' i (old h i e q) (old h' i e' q')
 ·obtain⟨j,q,hx⟩:=g.cov b hb hbad
  have e:lU p s b≠h0:=fun e=>by rw [e,hn]at q;cases q
  have:=g.ix _ _ q
  exact⟨j,by rw [jk e];exact q,by rw [tZ (by omega)];exact hx⟩
 ·rw [List.length_append]at hj
  by_cases e:j<out.length
  ·rw [tZ e]at hx
   obtain⟨b,h1,h2,h3,q⟩:=g.mem j e x hx
   have e:lU p s b≠h0:=fun e=>by rw [e,hn]at q;cases q
   exact⟨b,h1,h2,h3,by rw [jk e];exact q⟩
  ·have:j=out.length:=by simp at hj;omega
   subst this
   rw [wN]at hx;simp at hx
 ·rw [List.length_append]at hj
  by_cases e:j<out.length
  ·rw [tZ e];exact g.src j e
  ·have:j=out.length:=by simp at hj;omega
   subst this;rw [wN]
 ·rw [List.length_append];have:=g.len;simp;omega
 ·rw [List.length_append]at hj
  by_cases e:j<out.length
  ·rw [tZ e];exact g.bl j e
  ·have:j=out.length:=by simp at hj;omega
   subst this;rw [wN];simp
theorem II.add {t n:Nat} {out:List aS} {m:List (Int × Int)} (g:II p s t n out m) (hbad:at' s.badBus t=false) {j:Nat} (hj:bR bA (lU p s t) m=some (j:Int)):
  II p s (t+1) n (out.set j ⟨(at' out j).buses++[(t:Int)],(at' out j).sources⟩) m:=by
 have hjl:=(g.ix _ _ hj).2
 refine⟨fun h i q=>by rw [List.length_set];exact g.ix h i q,g.inj,fun b hb hbb=> ?_,fun i hi x hx=> ?_,fun i hi=> ?_,by rw [List.length_set];exact g.len,fun i hi=> ?_⟩
 ·by_cases e:b=t
  ·subst e
   exact⟨j,hj,by rw [dA (by omega)];simp⟩
  ·obtain⟨i,q,hx⟩:=g.cov b (by omega) hbb
   refine⟨i,q, ?_⟩
   by_cases e2:j=i
   ·subst e2;rw [dA (by omega)];simp [hx]
   ·rw [bS e2];exact hx
 ·rw [List.length_set]at hi
  by_cases e2:j=i
  ·subst e2
   rw [dA (by omega)]at hx
   rcases List.mem_append.mp hx with hx|hx
   ·obtain⟨b,h1,h2,h3,q⟩:=g.mem j hi x hx
    exact⟨b,h1,by omega,h3,q⟩
   ·simp at hx
    exact⟨t,hx,by omega,hbad,hj⟩
  ·rw [bS e2]at hx
   obtain⟨b,h1,h2,h3,q⟩:=g.mem i hi x hx
   exact⟨b,h1,by omega,h3,q⟩
 ·rw [List.length_set]at hi
  by_cases e2:j=i
  ·subst e2;rw [dA (by omega)];exact g.src j hi
  ·rw [bS e2];exact g.src i hi
 ·rw [List.length_set]at hi
  have:=g.bl i hi
  by_cases e2:j=i
  ·subst e2;rw [dA (by omega)];simp;omega
  ·rw [bS e2];omega
include hp hs
theorem Rt {t:Nat} (ht:(t:Int)<p.buses) {out:List aS} {m:List (Int × Int)} (g:II p s t t out m):
  ∃out' m',gL p s ⟨(wD p s p.links.length).1⟩ (out,m,(t:Int))=some (.next (out',m',((t+1:Nat):Int)))∧II p s (t+1) (t+1) out' m':=by
 have h3:=hs.badBus;have hb:=hp.b
 have hd:decide ((t:Int)<p.buses)=true:=decide_eq_true ht
 have hlen:=g.len
 unfold gL
 simp only [Int.toNat_natCast]
 rw [hd,cond_true,aH (by omega)]
 cases hbad:at' s.badBus t with
 |true=>
  refine⟨out,m,by rw [cond_true,wr (by omega)];rfl,g.ix,g.inj,fun b hb' hbb=> ?_,fun j hj x hx=> ?_,g.src,by omega,fun j hj=> ?_⟩
  ·have:b≠t:=fun e=>by rw [e,hbad]at hbb;cases hbb
   exact g.cov b (by omega) hbb
  ·obtain⟨b,h1,h2,h3,q⟩:=g.mem j hj x hx
   exact⟨b,h1,by omega,h3,q⟩
  ·have:=g.bl j hj;omega
 |false=>
  rw [cond_false,OI hp,Option.bind_some]
  have eh:(wD p s p.links.length).2 (t:Int)=lU p s t:=rfl
  rw [eh]
  cases hq:bR bA (lU p s t) m with
  |some i=>
   obtain⟨i0,i1⟩:=g.ix _ _ hq
   obtain⟨j,rfl⟩: ∃j:Nat,i=(j:Int):=⟨i.toNat,by omega⟩
   have hbl:=g.bl j (by omega)
   refine⟨_,_, ?_,⟨(g.add hbad hq).ix,g.inj,(g.add hbad hq).cov,(g.add hbad hq).mem,(g.add hbad hq).src,by have:=(g.add hbad hq).len;omega,(g.add hbad hq).bl⟩⟩
   simp only [Option.isSome_some,Bool.not_true,cond_false,Option.getD_some,Int.toNat_natCast]
   rw [aH ⟨by omega,by simp;omega,by simp;omega⟩,wr (by omega)]
   rfl
  |none=>
   have g':=g.fresh hq
   have hj:bR bA (lU p s t) (dL bA (lU p s t) (out.length:Int) m)=some (out.length:Int):=iO _ _ _
   have g2:=g'.add hbad hj
   refine⟨_,_, ?_,g2⟩
   simp only [Option.isSome_none,Bool.not_false,cond_true,hj,Option.getD_some,Int.toNat_natCast,wN]
   rw [aH ⟨by simp;omega,by simp;omega⟩,aH ⟨by simp;omega,by simp⟩,wr (by omega)]
   rfl
theorem WU: ∀(d t:Nat) (out:List aS) (m:List (Int × Int)),((t+d:Nat):Int)=p.buses→II p s t t out m→
  ∃out' m',aV (gL p s ⟨(wD p s p.links.length).1⟩) (d+1) (out,m,(t:Int))=some (.brk (out',m'))∧II p s p.buses.toNat p.buses.toNat out' m':=by
 intro d
 induction d with
 |zero=>
  intro t out m ht g
  refine⟨out,m, ?_,by
   have:p.buses.toNat=t:=by omega
   rw [this];exact g⟩
  rw [bH]
  have hd:decide ((t:Int)<p.buses)=false:=decide_eq_false (by omega)
  unfold gL
  simp only
  rw [hd];rfl
 |succ d ih=>
  intro t out m ht g
  obtain⟨out1,m1,h1,g1⟩:=Rt hp hs (by omega) g
  obtain⟨out2,m2,h2,g2⟩:=ih (t+1) out1 m1 (by omega) g1
  exact⟨out2,m2,by rw [bH,h1];exact h2,g2⟩
structure JJ (p:au) (s:State) (m:List (Int × Int)) (o:List aS) (k:Nat) (out:List aS):Prop where
 len:out.length=o.length
 bus: ∀j,j<out.length→(at' out j).buses=(at' o j).buses
 src: ∀j,j<out.length→((at' out j).sources≠[]↔ ∃i,i<k∧bG p s i=true∧bR bA (lU p s (at' p.sources i).bus.toNat) m=some (j:Int))
 sl: ∀j,j<out.length→(at' out j).sources.length≤k
theorem Tm {o:List aS} {m:List (Int × Int)} (g:II p s p.buses.toNat p.buses.toNat o m) {k:Nat} (hk:k<p.sources.length) {out:List aS} (q:JJ p s m o k out):
  ∃out',gK p s ⟨(wD p s p.links.length).1⟩ m (out,(k:Int))=some (.next (out',((k+1:Nat):Int)))∧JJ p s m o (k+1) out':=by
 have hl:=(hp.src k hk).bus;have h1:=hs.on;have h2:=hs.badSource;have h3:=hs.badBus;have h4:=hp.sl
 have hd:decide ((k:Int)<(p.sources.length:Int))=true:=decide_eq_true (by omega)
 have hcb:(bif (bif (at' s.on_ k)then(!(at' s.badSource k))else false)then(!(at' s.badBus (((at' p.sources k).bus).toNat)))else false)=bG p s k:=by
  unfold bG
  cases at' s.on_ k<;>cases at' s.badSource k<;>cases at' s.badBus (at' p.sources k).bus.toNat<;>rfl
 unfold gK
 simp only [Int.toNat_natCast]
 rw [hd,cond_true,aH (by omega),aH ⟨by omega,fun _=>by omega,fun _=>by omega⟩,hcb]
 cases hf:bG p s k with
 |false=>
  refine⟨out,by rw [cond_false,wr (by omega)];rfl,q.len,q.bus,fun j hj=> ?_,fun j hj=>by have:=q.sl j hj;omega⟩
  rw [q.src j hj]
  constructor
  ·rintro ⟨i,h1,h2,h3⟩;exact⟨i,by omega,h2,h3⟩
  ·rintro ⟨i,h1,h2,h3⟩
   have:i≠k:=fun e=>by rw [e,hf]at h2;cases h2
   exact⟨i,by omega,h2,h3⟩
 |true=>
  have hbad:at' s.badBus (at' p.sources k).bus.toNat=false:=by
   unfold bG at hf
   revert hf
   cases at' s.badBus (at' p.sources k).bus.toNat<;>simp
  obtain⟨j,hj,_⟩:=g.cov (at' p.sources k).bus.toNat (by omega) hbad
  have hjl:=(g.ix _ _ hj).2
  have hlen:=q.len
  have hsl:=q.sl j (by omega)
  have eh:(wD p s p.links.length).2 (at' p.sources k).bus=lU p s (at' p.sources k).bus.toNat:=by unfold lU;rw [Int.toNat_of_nonneg (by omega)]
  rw [cond_true,OI hp,Option.bind_some,eh,hj]
  simp only [Option.getD_some,Int.toNat_natCast]
  rw [aH ⟨by omega,by simp;omega,by simp;omega⟩,wr (by omega)]
  refine⟨_,rfl,by rw [List.length_set];exact q.len,fun i hi=> ?_,fun i hi=> ?_,fun i hi=> ?_⟩
  ·rw [List.length_set]at hi
   by_cases e:j=i
   ·subst e;rw [dA (by omega)];exact q.bus j hi
   ·rw [bS e];exact q.bus i hi
  ·rw [List.length_set]at hi
   by_cases e:j=i
   ·subst e;rw [dA (by omega)]
    simp only [ne_eq,List.append_eq_nil_iff,List.cons_ne_nil,and_false,not_false_eq_true,true_iff]
    exact⟨k,by omega,hf,hj⟩
   ·rw [bS e,q.src i hi]
    constructor
    ·rintro ⟨i',h1,h2,h3⟩;exact⟨i',by omega,h2,h3⟩
    ·rintro ⟨i',h1,h2,h3⟩
     have:i'≠k:=fun e'=>by
      rw [e',hj]at h3
      have:=Option.some.inj h3
      omega
     exact⟨i',by omega,h2,h3⟩
  ·rw [List.length_set]at hi
   have:=q.sl i hi
   by_cases e:j=i
   ·subst e;rw [dA (by omega)];simp;omega
   ·rw [bS e];omega
theorem XL {o:List aS} {m:List (Int × Int)} (g:II p s p.buses.toNat p.buses.toNat o m): ∀(d k:Nat) (out:List aS),k+d=p.sources.length→JJ p s m o k out→
  ∃out',aV (gK p s ⟨(wD p s p.links.length).1⟩ m) (d+1) (out,(k:Int))=some (.brk out')∧JJ p s m o p.sources.length out':=by
 intro d
 induction d with
 |zero=>
  intro k out hk q
  refine⟨out, ?_,by
   have:p.sources.length=k:=by omega
   rw [this];exact q⟩
  rw [bH]
  have hd:decide ((k:Int)<(p.sources.length:Int))=false:=decide_eq_false (by omega)
  unfold gK
  simp only
  rw [hd];rfl
 |succ d ih=>
  intro k out hk q
  obtain⟨out1,h1,q1⟩:=Tm hp hs g (by omega) q
  obtain⟨out2,h2,q2⟩:=ih (k+1) out1 (by omega) q1
  exact⟨out2,by rw [bH,h1];exact h2,q2⟩
theorem NI: ∃out o m,ja p s=some out∧II p s p.buses.toNat p.buses.toNat o m∧JJ p s m o p.sources.length out:=by
 have hb:=hp.b;have h4:=hp.sl
 obtain⟨o,m,h1,g⟩:=WU hp hs p.buses.toNat 0 [] [] (by omega) ⟨fun h i q=>by simp [bR]at q,fun h h' i q=>by simp [bR]at q,fun b hb=>absurd hb (Nat.not_lt_zero _),fun j hj=>by simp at hj,fun j hj=>by simp at hj,Nat.le_refl _,fun j hj=>by simp at hj⟩
 obtain⟨out,h2,q⟩:=XL hp hs g p.sources.length 0 o (by omega) ⟨rfl,fun _ _=>rfl,fun j hj=>by rw [g.src j hj];simp,fun j hj=>by rw [g.src j hj];simp⟩
 refine⟨out,o,m, ?_,g,q⟩
 unfold ja
 simp only [mU,Option.bind_some]
 rw [Ho hp hs,Option.bind_some]
 have e1:aV (gL p s ⟨(wD p s p.links.length).1⟩) FUEL (([]:List aS),([]:List (Int × Int)),0)=some (.brk (o,m)):=iP h1 (by unfold FUEL;omega)
 have e2:aV (gK p s ⟨(wD p s p.links.length).1⟩ m) FUEL (o,0)=some (.brk out):=iP h2 (by unfold FUEL;omega)
 rw [e1]
 simp only [Option.bind_some]
 rw [e2]
 rfl
end
def mY (v:Bool) (o:List Bool) (l:List Int):List Bool:=l.foldl (fun o x=>o.set x.toNat v) o
theorem uS (v:Bool): ∀(l:List Int) (o:List Bool),(mY v o l).length=o.length
 |[],_=>rfl
 |x::l,o=>by
  show(mY v (o.set x.toNat v) l).length=_
  rw [uS v l,List.length_set]
theorem LB (v:Bool) (o:List Bool) (l:List Int) (x:Int):mY v o (l++[x])=(mY v o l).set x.toNat v:=by simp [mY]
theorem Iw (v:Bool): ∀(l:List Int) (o:List Bool) (j:Nat),(∀x∈l,0≤x)→j<o.length→at' (mY v o l) j=if(j:Int)∈l then v else at' o j
 |[],o,j,_,_=>by simp [mY]
 |x::l,o,j,h,hj=>by
  show at' (mY v (o.set x.toNat v) l) j=_
  rw [Iw v l _ j (fun y hy=>h y (List.mem_cons_of_mem _ hy)) (by rw [List.length_set];exact hj)]
  have hx:=h x List.mem_cons_self
  by_cases e:(j:Int)∈l
  ·rw [if_pos e,if_pos (List.mem_cons_of_mem _ e)]
  ·rw [if_neg e]
   by_cases e2:x.toNat=j
   ·subst e2
    rw [dA hj,if_pos (by rw [Int.toNat_of_nonneg hx];exact List.mem_cons_self)]
   ·rw [bS e2,if_neg]
    intro hm
    rcases List.mem_cons.mp hm with h1|h1
    ·omega
    ·exact e h1
def FR (n:Nat) (l:List aS):List Bool:=l.foldl (fun o x=>mY (decide (0<(x.sources.length:Int))) o x.buses) (List.replicate n false)
theorem Im (n:Nat) (l:List aS) (x:aS):FR n (l++[x])=mY (decide (0<(x.sources.length:Int))) (FR n l) x.buses:=by simp [FR]
theorem zh (n:Nat) (l:List aS):(FR n l).length=n:=by
 unfold FR
 suffices∀(l:List aS) (o:List Bool),(l.foldl (fun o x=>mY (decide (0<(x.sources.length:Int))) o x.buses) o).length=o.length by rw [this];simp
 intro l
 induction l with
 |nil=>intro o;rfl
 |cons x l ih=>intro o;rw [List.foldl_cons,ih,uS]
def mK (p:au) (s:State) (b:Nat):Prop:=at' s.badBus b=false∧ ∃k,k<p.sources.length∧bG p s k=true∧ ∃l,Wk p s (at' p.sources k).bus.toNat l b
section
variable {p:au} {s:State} (hp:VP p) (hs:VS p s)
include hp hs
theorem Vs {out:List aS} {j:Nat} (hj:j<out.length) (hx: ∀x∈(at' out j).buses,0≤x∧x<p.buses) (hl:(at' out j).buses.length≤1000) {o:List Bool} (ho:(o.length:Int)=p.buses):
  aV (jS out (j:Int)) FUEL (o,0)=some (.brk (mY (decide (0<((at' out j).sources.length:Int))) o (at' out j).buses)):=by
 have key:aV (jS out (j:Int)) FUEL (mY (decide (0<((at' out j).sources.length:Int))) o ((at' out j).buses.take 0),((0:Nat):Int))=some (.brk (mY (decide (0<((at' out j).sources.length:Int))) o (at' out j).buses)):=by
  refine eP (fun i=>(mY (decide (0<((at' out j).sources.length:Int))) o ((at' out j).buses.take i),(i:Int))) (at' out j).buses.length _ (fuel_lt (by omega)) (fun i hi=> ?_) ?_
  ·have hd:decide ((i:Int)<((at' out j).buses.length:Int))=true:=decide_eq_true (by omega)
   have hm:=hx _ (at_mem hi)
   have hlen:=uS (decide (0<((at' out j).sources.length:Int))) ((at' out j).buses.take i) o
   unfold jS
   simp only [Int.toNat_natCast]
   rw [hd,cond_true,aH (by omega),aH (by omega),wr (by omega),qC hi,LB]
   rfl
  ·have hd:decide (((at' out j).buses.length:Int)<((at' out j).buses.length:Int))=false:=decide_eq_false (by omega)
   unfold jS
   simp only [Int.toNat_natCast]
   rw [hd,cond_false,List.take_length]
 exact key
theorem Jl: ∃L,iD p s=some (L,0)∧(L.length:Int)=p.buses∧ ∀b:Nat,(b:Int)<p.buses→(at' L b=true↔mK p s b):=by
 have hb:=hp.b;have h4:=hp.sl
 obtain⟨out,o,m,e,g,q⟩:=NI hp hs
 have hlen:=q.len
 have hgl:=g.len
 have hbus: ∀j,j<out.length→ ∀x∈(at' out j).buses,∃b:Nat,x=b∧(b:Int)<p.buses∧at' s.badBus b=false∧bR bA (lU p s b) m=some (j:Int):=by
  intro j hj x hx
  rw [q.bus j hj]at hx
  obtain⟨b,h1,h2,h3,h5⟩:=g.mem j (by omega) x hx
  exact⟨b,h1,by omega,h3,h5⟩
 have hx: ∀j,j<out.length→ ∀x∈(at' out j).buses,0≤x∧x<p.buses:=by
  intro j hj x hx
  obtain⟨b,h1,h2,_⟩:=hbus j hj x hx
  omega
 have hl: ∀j,j<out.length→(at' out j).buses.length≤1000:=by
  intro j hj;rw [q.bus j hj];have:=g.bl j (by omega);omega
 have hL:aV (jW out) FUEL (FR p.buses.toNat (out.take 0),((0:Nat):Int))=some (.brk (FR p.buses.toNat out)):=by
  refine eP (fun i=>(FR p.buses.toNat (out.take i),(i:Int))) out.length _ (fuel_lt (by omega)) (fun i hi=> ?_) ?_
  ·have hd:decide ((i:Int)<(out.length:Int))=true:=decide_eq_true (by omega)
   have hlo:=zh p.buses.toNat (out.take i)
   unfold jW
   simp only
   rw [hd,cond_true,aH (by omega),Vs hp hs hi (hx i hi) (hl i hi) (by omega)]
   simp only [Option.bind_some]
   rw [wr (by omega),qC hi,Im]
   rfl
  ·have hd:decide ((out.length:Int)<(out.length:Int))=false:=decide_eq_false (by omega)
   unfold jW
   simp only
   rw [hd,cond_false,List.take_length]
 have hat: ∀n,n≤out.length→ ∀b:Nat,(b:Int)<p.buses→(at' (FR p.buses.toNat (out.take n)) b=true↔ ∃j,j<n∧(b:Int)∈(at' out j).buses∧(at' out j).sources≠[]):=by
  intro n
  induction n with
  |zero=>
   intro _ b hb'
   rw [List.take_zero]
   show at' (List.replicate p.buses.toNat false) b=true↔_
   rw [fJ (by omega)]
   simp
  |succ n ih=>
   intro hn b hb'
   have hln:=zh p.buses.toNat (out.take n)
   rw [qC (by omega),Im,Iw _ _ _ _ (fun x h=>(hx n (by omega) x h).1) (by omega)]
   by_cases hm:(b:Int)∈(at' out n).buses
   ·rw [if_pos hm]
    have huniq: ∀j,j<out.length→(b:Int)∈(at' out j).buses→j=n:=by
     intro j hj hmj
     obtain⟨b1,e1,_,_,f1⟩:=hbus n (by omega) _ hm
     obtain⟨b2,e2,_,_,f2⟩:=hbus j hj _ hmj
     have:b1=b2:=by omega
     subst this
     rw [f1]at f2
     have:=Option.some.inj f2
     omega
    constructor
    ·intro hd
     refine⟨n,by omega,hm,fun hn=> ?_⟩
     rw [hn]at hd;simp at hd
    ·rintro ⟨j,hj,hmj,hsj⟩
     have:=huniq j (by omega) hmj
     subst this
     have:=List.length_pos_iff.mpr hsj
     exact decide_eq_true (by omega)
   ·rw [if_neg hm,ih (by omega) b hb']
    constructor
    ·rintro ⟨j,hj,h⟩;exact⟨j,by omega,h⟩
    ·rintro ⟨j,hj,h⟩
     have:j≠n:=fun e=>by subst e;exact hm h.1
     exact⟨j,by omega,h⟩
 refine⟨FR p.buses.toNat out, ?_,by rw [zh];omega,fun b hb'=> ?_⟩
 ·unfold iD
  have h0:Du p s=0:=uF.mpr ⟨hp,hs⟩
  rw [pq p s hp.small,h0,Option.bind_some]
  simp only [decide_true,Bool.not_true,cond_false]
  rw [aH ⟨by omega,by omega,by omega⟩,e,Option.bind_some]
  have hL':aV (jW out) FUEL (List.replicate p.buses.toNat false,0)=some (.brk (FR p.buses.toNat out)):=hL
  rw [hL'];rfl
 ·have:=hat out.length (Nat.le_refl _) b hb'
  rw [List.take_length]at this
  rw [this]
  constructor
  ·rintro ⟨j,hj,hm,hsj⟩
   obtain⟨b1,e1,h1,hbad,f1⟩:=hbus j hj _ hm
   have:b1=b:=by omega
   subst this
   obtain⟨k,hk,hf,f2⟩:=(q.src j hj).mp hsj
   have hk2:=(hp.src k hk).bus
   have:=g.inj _ _ _ f1 f2
   obtain⟨l,w⟩:=(K4 hp (by omega) hb').mp this.symm
   exact⟨hbad,k,hk,hf,l,w⟩
  ·rintro ⟨hbad,k,hk,hf,l,w⟩
   have hk2:=(hp.src k hk).bus
   have he:=(K4 (s:=s) hp (u:=(at' p.sources k).bus.toNat) (by omega) hb').mpr ⟨l,w⟩
   obtain⟨j,hj,hm⟩:=g.cov b (by omega) hbad
   have hjl:=(g.ix _ _ hj).2
   refine⟨j,by omega,by rw [q.bus j (by omega)];exact hm, ?_⟩
   rw [q.src j (by omega)]
   exact⟨k,hk,hf,by rw [he];exact hj⟩
omit hp hs
end
section
variable {p:au} {s:State} (hp:VP p) (hs:VS p s)
include hp hs
end
theorem QW {α:Type} (n:Nat) (f:Nat→α):tab (n+1) f=tab n f++[f n]:=by simp [tab,List.range_succ]
section
variable {p:au} {s:State} (hp:VP p) (hs:VS p s)
include hp hs
def HZ (p:au) (L:List Bool) (k:Nat):aY:=⟨at' L (at' p.racks k).feeds.e0.toNat,bif decide (0≤(at' p.racks k).feeds.e1)then at' L (at' p.racks k).feeds.e1.toNat else false⟩
theorem TH {L:List Bool} (h1:iD p s=some (L,0)) (h3:(L.length:Int)=p.buses):nD p s=some (tab p.racks.length (HZ p L),0):=by
 have hrl:=hp.rl
 ·unfold nD
  rw [h1,Option.bind_some]
  simp only [decide_true,Bool.not_true,cond_false]
  have key:aV (jG p (L,0)) FUEL (tab 0 (HZ p L),((0:Nat):Int))=some (.brk (tab p.racks.length (HZ p L))):=by
   refine eP (body:=jG p (L,0)) (fun t=>(tab t (HZ p L),(t:Int))) p.racks.length _ (fuel_lt (by omega)) (fun t ht=> ?_) ?_
   ·have hr:=hp.rck t ht
    have r0:=hr.e0;have r1:=hr.e1
    unfold jG
    have d1:decide ((t:Int)<(p.racks.length:Int))=true:=decide_eq_true (by omega)
    have d2:decide (0≤(at' p.racks t).feeds.e0)=true:=decide_eq_true (by omega)
    simp only [d1,cond_true,Int.toNat_natCast,d2]
    have q1: ∀l,gB [(decide (0≤(at' p.racks t).feeds.e1),true)]=l→l=true→0≤(at' p.racks t).feeds.e1:=fun l e h=>by
     subst e;simp [gB]at h;exact h
    rw [aH (by omega),aH (fun _=>by omega),aH (fun h=>by have:=q1 _ rfl h;omega),aH (by rw [cK,List.length_singleton];omega),wr (by omega),QW]
    rfl
   ·unfold jG
    have d1:decide ((p.racks.length:Int)<(p.racks.length:Int))=false:=decide_eq_false (by omega)
    simp only [d1,cond_false]
  have key':aV (jG p (L,0)) FUEL ([],0)=_:=key
  rw [key'];rfl
end
theorem Un {α:Type} (n:Nat) (f:Nat→α):tab (n+1) f=tab n f++[f n]:=by simp [tab,List.range_succ]
section
variable {p:au} {s:State} (hp:VP p) (hs:VS p s)
include hp hs
end
theorem Vp (a b:Bool):(bif a then true else b)=(a||b):=by cases a<;>rfl
theorem JR {a b:Int} (h:a<b):decide (a<b)=true:=decide_eq_true h
theorem zN {a b:Int} (h:b≤a):decide (a<b)=false:=decide_eq_false (by omega)
def jh {α:Type} (f:Nat→List α):Nat→List α
 |0=>[]
 |n+1=>jh f n++f n
theorem fO {α:Type} {f:Nat→List α} {x:α}: ∀{n:Nat},x∈jh f n↔ ∃i,i<n∧x∈f i
 |0=>by simp [jh]
 |n+1=>by
  rw [jh,List.mem_append,fO]
  constructor
  ·rintro (⟨i,h,g⟩|g)
   ·exact⟨i,by omega,g⟩
   ·exact⟨n,by omega,g⟩
  ·rintro ⟨i,h,g⟩
   by_cases e:i=n
   ·subst e;exact .inr g
   ·exact .inl ⟨i,by omega,g⟩
theorem wu {α:Type} {f:Nat→List α} {m:Nat}: ∀{n:Nat},(∀i,i<n→(f i).length≤m)→(jh f n).length≤n*m
 |0,_=>by simp [jh]
 |n+1,h=>by
  have h1:=wu (n:=n) fun i hi=>h i (by omega)
  have h2:=h n (by omega)
  rw [jh,List.length_append,Nat.add_mul,Nat.one_mul];omega
section
variable {p:au} {s:State} (hp:VP p) (hs:VS p s)
include hp
include hs
end
section
variable {p:au} {s:State} (hp:VP p) (hs:VS p s)
include hp hs
end
theorem sH {α:Type} {f:Nat→List α}: ∀{n:Nat},(∀i,i<n→(f i).Nodup)→(∀i j x,i<n→j<n→x∈f i→x∈f j→i=j)→(jh f n).Nodup
 |0,_,_=>by simp [jh]
 |n+1,h,g=>by
  rw [jh,List.nodup_append]
  refine⟨sH (fun i hi=>h i (by omega)) (fun i j x hi hj=>g i j x (by omega) (by omega)),h n (by omega),fun a ha b hb e=> ?_⟩
  subst e
  obtain⟨i,hi,hm⟩:=fO.1 ha
  have:=g i n a (by omega) (by omega) hm hb
  omega
section
variable {p:au} {s:State} (hp:VP p) (hs:VS p s)
include hp hs
end
def lJ (s:State) (x:Part) (b:Bool):State:=
 if x.kind=1 then⟨s.closed,s.locked,s.badLink,s.on_,s.badSource,s.earthed,s.badBus.set x.index.toNat b⟩
 else if x.kind=2 then⟨s.closed,s.locked,s.badLink,s.on_,s.badSource.set x.index.toNat b,s.earthed,s.badBus⟩
 else⟨s.closed,s.locked,s.badLink.set x.index.toNat b,s.on_,s.badSource,s.earthed,s.badBus⟩
def Tp (p:au) (x:Part):Prop:=0≤x.index∧(x.kind=1∧x.index<p.buses∨x.kind=2∧x.index<(p.sources.length:Int)∨x.kind=3∧x.index<(p.links.length:Int))
section
variable {p:au} {s:State} (hp:VP p) (hs:VS p s)
include hp hs
omit hp in
theorem VS.lJ (x:Part) (b:Bool):VS p (lJ s x b):=by
 have h7:=hs.badBus;have h3:=hs.badLink;have h5:=hs.badSource
 unfold Sg.lJ
 split
 ·exact⟨hs.closed,hs.locked,hs.badLink,hs.on,hs.badSource,hs.earthed,by rw [List.length_set];exact h7,hs.cable⟩
 ·split
  ·exact⟨hs.closed,hs.locked,hs.badLink,hs.on,by rw [List.length_set];exact h5,hs.earthed,hs.badBus,hs.cable⟩
  ·exact⟨hs.closed,hs.locked,by rw [List.length_set];exact h3,hs.on,hs.badSource,hs.earthed,hs.badBus,hs.cable⟩
end
def E0:State:=⟨[],[],[],[],[],[],[]⟩
section
variable {p:au} {s:State} (hp:VP p) (hs:VS p s)
include hp hs
end
def partsOf (p:au):List Part:=tab p.buses.toNat (fun b=> ⟨1,(b:Int)⟩)++tab p.sources.length (fun b=> ⟨2,(b:Int)⟩)++tab p.links.length (fun b=> ⟨3,(b:Int)⟩)
theorem R5 (p:au) (t n:Nat) (ht:t<3) (hn:at' [p.buses,(p.sources.length:Int),(p.links.length:Int)] t=(n:Int)) (hn2:n≤1000) (out:List Part) (ho:out.length≤10000):aV (jH p (t:Int)) FUEL (out,0)=some (.brk (out++tab n fun b=> ⟨(t:Int)+1,(b:Int)⟩)):=by
 have e0:out=out++tab 0 fun b=>(⟨(t:Int)+1,(b:Int)⟩:Part):=by simp [tab]
 have key:aV (jH p (t:Int)) FUEL (out++tab 0 (fun b=>(⟨(t:Int)+1,(b:Int)⟩:Part)),((0:Nat):Int))=some (.brk (out++tab n fun b=> ⟨(t:Int)+1,(b:Int)⟩)):=by
  refine eP (fun k=>(out++tab k (fun b=>(⟨(t:Int)+1,(b:Int)⟩:Part)),(k:Int))) n _ (fuel_lt (by omega)) (fun k hk=> ?_) ?_
  ·unfold jH
   dsimp only
   rw [Int.toNat_natCast,hn,JR (by omega),cond_true,aH ⟨by rw [List.length_append,cK,List.length_singleton];omega,by rw [List.length_append,cK,List.length_singleton];omega⟩,wr (x:=(k:Int)+1) (by omega),wr (x:=(t:Int)+1) (by omega),Un,List.append_assoc]
   rfl
  ·unfold jH
   dsimp only
   rw [Int.toNat_natCast,hn,zN (by omega)];rfl
 rw [←e0]at key
 exact key
section
variable {p:au} (hp:VP p)
include hp
theorem parts_eq:o9 p=some (partsOf p,0):=by
 have hb:=hp.b;have hsl:=hp.sl;have hll:=hp.ll
 unfold o9
 rw [Kt p hp.small,yE.mpr hp,Option.bind_some,decide_eq_true rfl,Bool.not_true,cond_false]
 have key:aV (iL p) FUEL ([],0)=some (.brk (partsOf p)):=by
  refine iP (n:=4) ?_ (by unfold FUEL;omega)
  have r: ∀(t n:Nat) (out:List Part),t<3→at' [p.buses,(p.sources.length:Int),(p.links.length:Int)] t=(n:Int)→n≤1000→out.length≤10000→iL p (out,(t:Int))=some (.next (out++tab n (fun b=> ⟨(t:Int)+1,(b:Int)⟩),((t+1:Nat):Int))):=fun t n out ht hn hn2 ho=>by
   unfold iL
   dsimp only
   have hl3:([p.buses,(p.sources.length:Int),(p.links.length:Int)].length:Int)=3:=rfl
   rw [JR (by rw [hl3];omega),cond_true,aH ⟨by omega,by rw [hl3];omega⟩,R5 p t n ht hn hn2 out ho]
   simp only [Option.bind_some]
   rw [wr (by omega)];rfl
  have r0:iL p ([],0)=_:=r 0 p.buses.toNat [] (by omega) (by show p.buses=_;omega) (by omega) (by simp)
  rw [bH,r0]
  show aV _ 3 (([]++tab p.buses.toNat (fun b=>(⟨((0:Nat):Int)+1,(b:Int)⟩:Part))),((1:Nat):Int))=_
  rw [bH,r 1 p.sources.length _ (by omega) rfl (by omega) (by simp [cK];omega)]
  show aV _ 2 (_,((2:Nat):Int))=_
  rw [bH,r 2 p.links.length _ (by omega) rfl (by omega) (by simp [cK];omega)]
  show aV _ 1 (_,((3:Nat):Int))=_
  rw [bH]
  unfold iL
  dsimp only
  rw [decide_eq_false (by show ¬ ((3:Nat):Int)<3;omega),cond_false]
  rfl
 rw [key];rfl
end
def kJ (p:au) (s:State):List Bool:=((iD p s).getD default).1
section
variable {p:au} {s:State} (hp:VP p) (hs:VS p s)
include hp hs
theorem Qh:iD p s=some (kJ p s,0):=by
 obtain⟨L,h,_⟩:=Jl hp hs
 unfold kJ;rw [h];rfl
theorem Pj:((kJ p s).length:Int)=p.buses:=by
 obtain⟨L,h,h1,_⟩:=Jl hp hs
 unfold kJ;rw [h];exact h1
theorem zn {b:Nat} (hb:(b:Int)<p.buses):at' (kJ p s) b=true↔mK p s b:=by
 obtain⟨L,h,_,h2⟩:=Jl hp hs
 unfold kJ;rw [h];exact h2 b hb
end
section
variable {p:au} {s t:State} (hp:VP p) (hs:VS p s) (ht:VS p t)
include hp hs ht
end
section
variable {p:au} (hp:VP p)
include hp
end
def Hy (p:au) (s:State) (k:Nat):Bool:=(HZ p (kJ p s) k).e0||(HZ p (kJ p s) k).e1
section
variable {p:au} {s:State} (hp:VP p) (hs:VS p s)
include hp hs
end
section
variable {p:au} {s:State} (hp:VP p) (hs:VS p s)
include hp
include hs
end
def qB (φ:Int→Int) (a:Int):List Int→Int
 |[]=>0
 |b::l=>φ a - φ b+qB φ a l
def ET (φ:Int→Int):List (Int × List Int)→Int
 |[]=>0
 |(a,l)::m=>qB φ a l+ET φ m
theorem BF (φ:Int→Int) (a:Int): ∀l m:List Int,qB φ a (l++m)=qB φ a l+qB φ a m
 |[],m=>by simp [qB]
 |b::l,m=>by rw [List.cons_append,qB,qB,BF φ a l m];omega
theorem Fx (φ:Int→Int) (a:Int) (l:List Int): ∀m:List (Int × List Int),ET φ (gV a l m)=ET φ m - qB φ a (aN a m)+qB φ a l
 |[]=>by simp [gV,aN,ET,qB]
 |(k,v)::m=>by
  unfold gV aN
  by_cases e:a=k
  ·subst e
   rw [decide_eq_true rfl,cond_true,cond_true,ET,ET];omega
  ·rw [decide_eq_false e,cond_false,cond_false,ET,ET,Fx φ a l m];omega
theorem fZ (a u:Int) (l:List Int): ∀m:List (Int × List Int),aN u (gV a l m)=if u=a then l else aN u m
 |[]=>by
  unfold gV aN
  by_cases e:u=a
  ·rw [decide_eq_true e,cond_true,if_pos e]
  ·rw [decide_eq_false e,cond_false,if_neg e];rfl
 |(k,v)::m=>by
  unfold gV
  by_cases e:a=k
  ·subst e
   rw [decide_eq_true rfl,cond_true]
   unfold aN
   by_cases e2:u=a
   ·rw [decide_eq_true e2,cond_true,if_pos e2]
   ·rw [decide_eq_false e2,cond_false,cond_false,if_neg e2]
  ·rw [decide_eq_false e,cond_false]
   unfold aN
   rw [fZ a u l m]
   by_cases e2:u=k
   ·rw [decide_eq_true e2,cond_true,cond_true,if_neg (by omega)]
   ·rw [decide_eq_false e2,cond_false,cond_false]
theorem Ea (a:Int) (l:List Int): ∀m:List (Int × List Int),(m.map (·.1)).Nodup→((gV a l m).map (·.1)).Nodup∧ ∀k,k∈(gV a l m).map (·.1)↔k=a∨k∈m.map (·.1)
 |[],_=>by simp [gV]
 |(k,v)::m,h=>by
  rw [List.map_cons,List.nodup_cons]at h
  obtain⟨h1,h2⟩:=Ea a l m h.2
  unfold gV
  by_cases e:a=k
  ·subst e
   rw [decide_eq_true rfl,cond_true]
   exact⟨by rw [List.map_cons,List.nodup_cons];exact h,fun k=>by simp⟩
  ·rw [decide_eq_false e,cond_false]
   refine⟨?_,fun j=> ?_⟩
   ·rw [List.map_cons,List.nodup_cons]
    refine⟨fun hm=> ?_,h1⟩
    rcases(h2 _).1 hm with q|q
    ·exact e q.symm
    ·exact h.1 q
   ·rw [List.map_cons,List.mem_cons,h2,List.map_cons,List.mem_cons]
    constructor
    ·rintro (q|q|q)
     ·exact .inr (.inl q)
     ·exact .inl q
     ·exact .inr (.inr q)
    ·rintro (q|q|q)
     ·exact .inr (.inl q)
     ·exact .inl q
     ·exact .inr (.inr q)
theorem Fa {u b:Int}: ∀{m:List (Int × List Int)},b∈aN u m→ ∃l,(u,l)∈m∧l=aN u m
 |[],h=>by cases h
 |(k,v)::m,h=>by
  unfold aN at h ⊢
  by_cases e:u=k
  ·rw [decide_eq_true e,cond_true]at h ⊢
   subst e;exact⟨v,List.mem_cons_self,rfl⟩
  ·rw [decide_eq_false e,cond_false]at h ⊢
   obtain⟨l,h1,h2⟩:=Fa h
   exact⟨l,List.mem_cons_of_mem _ h1,h2⟩
theorem Jv: ∀(n:Nat) (l:List Int),l.Nodup→(∀x∈l, -2≤x∧x<(n:Int) - 2)→l.length≤n
 |0,l,_,h=>by
  cases l with
  |nil=>simp
  |cons x l=>have:=h x List.mem_cons_self;omega
 |n+1,l,hn,h=>by
  have h1:=Jv n (l.erase ((n:Int) - 2)) (hn.erase _) fun x hx=>by
   rw [hn.mem_erase_iff]at hx
   have:=h x hx.2;omega
  rw [List.length_erase]at h1
  split at h1<;>omega
theorem Ow (l:List Int) (b:Int) (hl:l.length≤100000):fK l b=some (match l.findIdx? (fun x=>decide (b=x))with|some i=>(i:Int)|none=> -1):=by
 unfold fK
 rw [rX l (fun x=>decide (b=x)) id (by omega) (fun i hi=> ?_) ?_]
 ·cases l.findIdx? (fun x=>decide (b=x))<;>rfl
 ·unfold kR
  rw [zN (by omega)];rfl
 ·unfold kR
  rw [JR (by omega),cond_true,aH ⟨by omega,by omega⟩,Int.toNat_natCast,wr (by omega)]
  exact GX _ _ _
theorem has_eq (l:List Int) (b:Int) (hl:l.length≤100000):eD l b=some (decide (b∈l)):=by
 unfold eD
 rw [Ow l b hl,Option.bind_some]
 cases h:l.findIdx? (fun x=>decide (b=x))with
 |none=>
  have:=List.findIdx?_eq_none_iff.1 h
  rw [show decide (b∈l)=false from decide_eq_false fun hb=>by have:=this b hb;simp at this];rfl
 |some k=>
  obtain⟨hk,hkb,_⟩:=List.findIdx?_eq_some_iff_getElem.1 h
  have e:b=l[k]:=of_decide_eq_true hkb
  rw [show decide (b∈l)=true from decide_eq_true (e ▸ List.getElem_mem hk)]
  dsimp only
  rw [decide_eq_true (by omega)]
theorem OB (l:List Int) (b:Int) (hl:l.length≤100000) (hn:l.Nodup) (hb:b∈l): ∃(i:Int) (l':List Int),fK l b=some i∧jQ l i (IntKind.wrap .i64 (i+1))=some l'∧l'.Nodup∧(∀w,w∈l'↔w∈l∧w≠b)∧(∀φ a,qB φ a l'+(φ a - φ b)=qB φ a l):=by
 rw [Ow l b hl]
 cases h:l.findIdx? (fun x=>decide (b=x))with
 |none=>
  have:=List.findIdx?_eq_none_iff.1 h b hb
  simp at this
 |some k=>
  obtain⟨hk,hkb,_⟩:=List.findIdx?_eq_some_iff_getElem.1 h
  have e:b=l[k]:=of_decide_eq_true hkb
  have el:l=l.take k++(b::l.drop (k+1)):=by
   rw [e,←List.drop_eq_getElem_cons hk,List.take_append_drop]
  refine⟨(k:Int),l.take k++l.drop (k+1),rfl, ?_, ?_,fun w=> ?_,fun φ a=> ?_⟩
  ·unfold jQ Q9
   rw [wr (by omega),decide_eq_true ⟨by omega,by omega,by omega⟩,cond_true,Int.toNat_natCast,show((k:Int)+1).toNat=k+1 by omega]
  ·have h1:=el ▸ hn
   rw [List.nodup_append]at h1 ⊢
   obtain⟨q1,q2,q3⟩:=h1
   rw [List.nodup_cons]at q2
   exact⟨q1,q2.2,fun a ha c hc=>q3 a ha c (List.mem_cons_of_mem _ hc)⟩
  ·have h1:=el ▸ hn
   rw [List.nodup_append]at h1
   obtain⟨q1,q2,q3⟩:=h1
   rw [List.nodup_cons]at q2
   have em:w∈l↔w∈l.take k∨w=b∨w∈l.drop (k+1):=by
    conv=>lhs;rw [el]
    rw [List.mem_append,List.mem_cons]
   rw [em,List.mem_append]
   constructor
   ·rintro (q|q)
    ·exact⟨.inl q,fun e=>q3 w q b List.mem_cons_self e⟩
    ·exact⟨.inr (.inr q),fun e=>q2.1 (e ▸ q)⟩
   ·rintro ⟨q|q|q,g⟩
    ·exact .inl q
    ·exact absurd q g
    ·exact .inr q
  ·conv=>rhs;rw [el]
   rw [BF,BF,qB];omega
structure GI (M:Nat) (B:Int→Int→Prop) (e0 e1:List (Int × List Int)):Prop where
 n0: ∀u,(aN u e0).Nodup
 n1: ∀u,(aN u e1).Nodup
 base: ∀u v,B u v↔v∈aN u e0∨v∈aN u e1
 dis: ∀u v,v∈aN u e0→v∈aN u e1→False
 keys:(e1.map (·.1)).Nodup
 rng: ∀u v,B u v→(-2≤u∧u<(M:Int) - 2)∧ -2≤v∧v<(M:Int) - 2
section
variable {M:Nat} {B:Int→Int→Prop} {e0 e1:List (Int × List Int)} (hM:M≤10000)
include hM
theorem GI.Rf (g:GI M B e0 e1) (u:Int):(aN u e0).length≤10000:=Nat.le_trans (Jv M _ (g.n0 u) fun x hx=>(g.rng u x ((g.base u x).2 (.inl hx))).2) hM
theorem GI.Vh (g:GI M B e0 e1) (u:Int):(aN u e1).length≤10000:=Nat.le_trans (Jv M _ (g.n1 u) fun x hx=>(g.rng u x ((g.base u x).2 (.inr hx))).2) hM
omit hM in
theorem Ff {l:List Int} {b:Int} (h:l.Nodup) (hb:b ∉ l):(l++[b]).Nodup:=by
 rw [List.nodup_append]
 exact⟨h,by simp,fun a ha c hc e=>by rw [List.mem_singleton]at hc;subst hc;subst e;exact hb ha⟩
theorem GI.fwd (g:GI M B e0 e1) (ps:List Part) {a b:Int} (hb:b∈aN a e0): ∃f0 f1,fB a b 0 ⟨ps,⟨e0,e1⟩⟩=some ⟨ps,⟨f0,f1⟩⟩∧GI M B f0 f1∧(∀φ,ET φ f1=ET φ e1+(φ a - φ b))∧ ∀u w,(u≠a∨w≠b)→(w∈aN u f0↔w∈aN u e0)∧(w∈aN u f1↔w∈aN u e1):=by
 have h0:=g.Rf hM a;have h1:=g.Vh hM a
 obtain⟨i,l',hi,hd,hn,hm,hs⟩:=OB (aN a e0) b (by omega) (g.n0 a) hb
 have hb1:b ∉ aN a e1:=fun h=>g.dis a b hb h
 refine⟨gV a l' e0,gV a (aN a e1++[b]) e1, ?_,⟨fun u=> ?_,fun u=> ?_,fun u v=> ?_,fun u v q1 q2=> ?_,(Ea a _ e1 g.keys).1,g.rng⟩,fun φ=> ?_,fun u w q=> ⟨?_, ?_⟩⟩
 ·unfold fB
  rw [decide_eq_true rfl,cond_true]
  dsimp only
  rw [hi,Option.bind_some,hd,Option.bind_some,aH ⟨by rw [List.length_singleton];omega,by rw [List.length_singleton];omega⟩]
 ·rw [fZ];split
  ·exact hn
  ·exact g.n0 u
 ·rw [fZ];split
  ·exact Ff (g.n1 a) hb1
  ·exact g.n1 u
 ·rw [fZ,fZ]
  by_cases e:u=a
  ·subst e
   rw [if_pos rfl,if_pos rfl,hm,List.mem_append,List.mem_singleton,g.base]
   by_cases ev:v=b
   ·subst ev;exact⟨fun _=> .inr (.inr rfl),fun _=> .inl hb⟩
   ·constructor
    ·rintro (q|q)
     ·exact .inl ⟨q,ev⟩
     ·exact .inr (.inl q)
    ·rintro (q|q|q)
     ·exact .inl q.1
     ·exact .inr q
     ·exact absurd q ev
  ·rw [if_neg e,if_neg e,g.base]
 ·rw [fZ]at q1 q2
  by_cases e:u=a
  ·subst e
   rw [if_pos rfl]at q1 q2
   rw [hm]at q1
   rcases List.mem_append.1 q2 with q|q
   ·exact g.dis _ _ q1.1 q
   ·exact q1.2 (List.mem_singleton.1 q)
  ·rw [if_neg e]at q1 q2
   exact g.dis _ _ q1 q2
 ·rw [Fx,BF]
  show _ - _+(_+(φ a - φ b+0))=_
  omega
 ·rw [fZ]
  by_cases e:u=a
  ·subst e
   rw [if_pos rfl,hm]
   exact⟨fun h=>h.1,fun h=> ⟨h,q.elim (fun h=>absurd rfl h) id⟩⟩
  ·rw [if_neg e]
 ·rw [fZ]
  by_cases e:u=a
  ·subst e
   rw [if_pos rfl,List.mem_append,List.mem_singleton]
   exact⟨fun h=>h.elim id fun h=>absurd h (q.elim (fun h=>absurd rfl h) id), .inl⟩
  ·rw [if_neg e]
theorem GI.back (g:GI M B e0 e1) (ps:List Part) {a b:Int} (hb:b∈aN a e1): ∃f0 f1,fB a b 1 ⟨ps,⟨e0,e1⟩⟩=some ⟨ps,⟨f0,f1⟩⟩∧GI M B f0 f1∧(∀φ,ET φ f1=ET φ e1 - (φ a - φ b))∧ ∀u w,(u≠a∨w≠b)→(w∈aN u f0↔w∈aN u e0)∧(w∈aN u f1↔w∈aN u e1):=by
 have h0:=g.Rf hM a;have h1:=g.Vh hM a
 obtain⟨i,l',hi,hd,hn,hm,hs⟩:=OB (aN a e1) b (by omega) (g.n1 a) hb
 have hb0:b ∉ aN a e0:=fun h=>g.dis a b h hb
 refine⟨gV a (aN a e0++[b]) e0,gV a l' e1, ?_,⟨fun u=> ?_,fun u=> ?_,fun u v=> ?_,fun u v q1 q2=> ?_,(Ea a _ e1 g.keys).1,g.rng⟩,fun φ=> ?_,fun u w q=> ⟨?_, ?_⟩⟩
 ·unfold fB
  rw [decide_eq_false (by decide),cond_false,aH rfl]
  dsimp only
  rw [hi,Option.bind_some,hd,Option.bind_some,aH ⟨by rw [List.length_singleton];omega,by rw [List.length_singleton];omega⟩]
 ·rw [fZ];split
  ·exact Ff (g.n0 a) hb0
  ·exact g.n0 u
 ·rw [fZ];split
  ·exact hn
  ·exact g.n1 u
 ·rw [fZ,fZ]
  by_cases e:u=a
  ·subst e
   rw [if_pos rfl,if_pos rfl,hm,List.mem_append,List.mem_singleton,g.base]
   by_cases ev:v=b
   ·subst ev;exact⟨fun _=> .inl (.inr rfl),fun _=> .inr hb⟩
   ·constructor
    ·rintro (q|q)
     ·exact .inl (.inl q)
     ·exact .inr ⟨q,ev⟩
    ·rintro ((q|q)|q)
     ·exact .inl q
     ·exact absurd q ev
     ·exact .inr q.1
  ·rw [if_neg e,if_neg e,g.base]
 ·rw [fZ]at q1 q2
  by_cases e:u=a
  ·subst e
   rw [if_pos rfl]at q1 q2
   rw [hm]at q2
   rcases List.mem_append.1 q1 with q|q
   ·exact g.dis _ _ q q2.1
   ·exact q2.2 (List.mem_singleton.1 q)
  ·rw [if_neg e]at q1 q2
   exact g.dis _ _ q1 q2
 ·rw [Fx]
  have:=hs φ a
  omega
 ·rw [fZ]
  by_cases e:u=a
  ·subst e
   rw [if_pos rfl,List.mem_append,List.mem_singleton]
   exact⟨fun h=>h.elim id fun h=>absurd h (q.elim (fun h=>absurd rfl h) id), .inl⟩
  ·rw [if_neg e]
 ·rw [fZ]
  by_cases e:u=a
  ·subst e
   rw [if_pos rfl,hm]
   exact⟨fun h=>h.1,fun h=> ⟨h,q.elim (fun h=>absurd rfl h) id⟩⟩
  ·rw [if_neg e]
end
def vs (o:List (Int × Bool)) (u:Int):Bool:=(bR bA u o).getD false
theorem o7 (o:List (Int × Bool)) (a u:Int):vs (dL bA a true o) u=(decide (u=a)||vs o u):=by
 unfold vs
 by_cases e:u=a
 ·subst e;rw [iO];simp
 ·rw [jk e,decide_eq_false e];rfl
theorem cnt_lt {α:Type} {p q:α→Bool}: ∀{l:List α},(∀x∈l,p x=true→q x=true)→(∃x∈l,q x=true∧p x=false)→l.countP p<l.countP q
 |[],_,⟨_,h,_⟩=>by cases h
 |a::l,h,⟨x,hx,h1,h2⟩=>by
  have hle:l.countP p≤l.countP q:=List.countP_mono_left fun x hx=>h x (List.mem_cons_of_mem _ hx)
  rw [List.countP_cons,List.countP_cons]
  rcases List.mem_cons.1 hx with rfl|hx
  ·rw [h1,h2];simp;omega
  ·have:=cnt_lt (fun x hx=>h x (List.mem_cons_of_mem _ hx)) ⟨x,hx,h1,h2⟩
   have h3:=h a List.mem_cons_self
   cases hp:p a with
   |false=>simp;omega
   |true=>rw [h3 hp];simp;omega
def Vx (M:Nat) (o:List (Int × Bool)):Nat:=(List.range M).countP fun(i:Nat)=> !vs o ((i:Int) - 2)
theorem KN {M:Nat} {o o':List (Int × Bool)} (h: ∀u,vs o u=true→vs o' u=true):Vx M o'≤Vx M o:=by
 refine List.countP_mono_left fun i _ hi=> ?_
 cases e:vs o ((i:Int) - 2)with
 |false=>rfl
 |true=>rw [h _ e]at hi;cases hi
theorem Sq {M:Nat} {o:List (Int × Bool)} {a:Int} (h:vs o a=false) (hr: -2≤a∧a<(M:Int) - 2):Vx M (dL bA a true o)<Vx M o:=by
 refine cnt_lt (fun i _ hi=> ?_) ⟨(a+2).toNat,List.mem_range.2 (by omega), ?_, ?_⟩
 ·rw [o7]at hi
  cases e:vs o ((i:Int) - 2)with
  |false=>rfl
  |true=>rw [e]at hi;simp at hi
 ·rw [show(((a+2).toNat:Nat):Int) - 2=a by omega,h];rfl
 ·rw [show(((a+2).toNat:Nat):Int) - 2=a by omega,o7];simp
def IND (e1:List (Int × List Int)):Prop:= ∀w x y,w≠ -2→w∈aN x e1→w∈aN y e1→x=y
def Rs (e0 e1:List (Int × List Int)) (u w:Int):Prop:=w∈aN u e0∨(u∈aN w e1∧w≠ -1)
def SUC (M:Nat) (B:Int→Int→Prop) (ps:List Part) (e0 e1:List (Int × List Int)) (o:List (Int × Bool)) (a:Int) (r:Bool × List (Int × Bool) × Graph):Prop:=
 r.1=true∧ ∃f0 f1,r.2.2=⟨ps,⟨f0,f1⟩⟩∧GI M B f0 f1∧(∀φ,ET φ f1=ET φ e1+(φ a - φ (-2)))∧ ∀u w,(vs o u=true∨vs o w=true)→(w∈aN u f0↔w∈aN u e0)∧(w∈aN u f1↔w∈aN u e1)
def FAI (ps:List Part) (e0 e1:List (Int × List Int)) (o:List (Int × Bool)) (a:Int) (r:Bool × List (Int × Bool) × Graph):Prop:=
 r.1=false∧r.2.2=⟨ps,⟨e0,e1⟩⟩∧(∀u,vs o u=true→vs r.2.1 u=true)∧vs r.2.1 a=true∧vs r.2.1 (-2)=false∧ ∀u,vs r.2.1 u=true→vs o u=false→ ∀w,Rs e0 e1 u w→vs r.2.1 w=true
theorem K5 (l:List Int) (h:l.length≤10000):jA l=some l:=by
 unfold jA om
 rw [Bool.not_true,cond_false,aH ⟨by simp;omega,by simp;omega⟩];rfl
section
variable {M:Nat} {B:Int→Int→Prop} {e0 e1:List (Int × List Int)} {ps:List Part} (hM:M≤10000) (g:GI M B e0 e1) (hI:IND e1)
include hM g hI
def Zm (e0 e1:List (Int × List Int)) (o1:List (Int × Bool)) (r:List Int) (q:List (Int × Bool) × List (Int × List Int) × List (Int × List Int) × Int):Prop:=
 q.2.1=e0∧q.2.2.1=e1∧ ∃j:Nat,q.2.2.2=(j:Int)∧j≤r.length∧(∀u,vs o1 u=true→vs q.1 u=true)∧vs q.1 (-2)=false∧(∀u,vs q.1 u=true→vs o1 u=false→ ∀w,Rs e0 e1 u w→vs q.1 w=true)∧ ∀i,i<j→vs q.1 (at' r i)=true
omit hI in
theorem XQ {n:Nat} {o:List (Int × Bool)} {a:Int} (ha: -2≤a∧a<(M:Int) - 2) (hva:vs o a=false) (h2:a≠ -2) (hn:Vx M o≤n)
  (ih: ∀o b,(-2≤b∧b<(M:Int) - 2)→vs o b=false→vs o (-2)=false→Vx M o<n→ ∃r,cu n b o ⟨ps,⟨e0,e1⟩⟩=some r∧(SUC M B ps e0 e1 o b r∨FAI ps e0 e1 o b r))
  (q:List (Int × Bool) × List (Int × List Int) × List (Int × List Int) × Int) (hq:Zm e0 e1 (dL bA a true o) (aN a e0) q):
  ∃f,fM (cu n) a ⟨ps,⟨e0,e1⟩⟩ (aN a e0) q=some f∧match f with
   | .next q'=>Zm e0 e1 (dL bA a true o) (aN a e0) q'∧(aN a e0).length - q'.2.2.2.toNat<(aN a e0).length - q.2.2.2.toNat
   | .done r=>(∃v,r= .ret v∧SUC M B ps e0 e1 o a v)∨ ∃o',r= .brk (o',e0,e1)∧Zm e0 e1 (dL bA a true o) (aN a e0) (o',e0,e1,((aN a e0).length:Int)):=by
 have h0:=g.Rf hM a
 obtain⟨o0,f0,f1,t⟩:=q
 obtain⟨q0,q1,j,qj,hj,hmo,hv2,hcl,hall⟩:=hq
 dsimp only at q0 q1 qj hmo hv2 hcl hall
 have q0:=q0.symm;have q1:=q1.symm
 subst q0 q1 qj
 have hoo: ∀u,vs o u=true→vs o0 u=true:=fun u h=>hmo u (by rw [o7,h];simp)
 have hao:vs o0 a=true:=hmo a (by rw [o7];simp)
 unfold fM
 dsimp only
 by_cases hc:j<(aN a e0).length
 ·rw [JR (by omega),cond_true,aH ⟨by omega,by omega⟩,Int.toNat_natCast]
  have hbm:at' (aN a e0) j∈aN a e0:=at_mem hc
  have hbr:=(g.rng a _ ((g.base a _).2 (.inl hbm))).2
  show∃f,(bif !vs o0 (at' (aN a e0) j)then _ else _)=some f∧_
  generalize hb:at' (aN a e0) j=b at hbm hbr
  cases hvb:vs o0 b with
  |true=>
   rw [Bool.not_true,cond_false]
   refine⟨_,rfl,⟨rfl,rfl,j+1,wr (by omega),hc,hmo,hv2,hcl,fun i hi=> ?_⟩,by dsimp only;rw [wr (by omega)];omega⟩
   by_cases e:i=j
   ·subst e;rw [hb];exact hvb
   ·exact hall i (by omega)
  |false=>
   have hlt:=Sq (M:=M) hva ha
   have hle:=KN (M:=M) hmo
   obtain⟨r,hr,hs|hf⟩:=ih o0 b hbr hvb hv2 (by omega)
   ·obtain⟨s1,f0,f1,s2,s3,s4,s5⟩:=hs
    rw [Bool.not_false,cond_true,hr,Option.bind_some,s1,cond_true,s2]
    dsimp only
    obtain⟨g0,g1,m1,m2,m3,m4⟩:=GI.fwd hM s3 ps ((s5 a b (.inl hao)).1.2 hbm)
    rw [m1,Option.bind_some]
    refine⟨_,rfl, .inl ⟨_,rfl,rfl,g0,g1,rfl,m2,fun φ=>by rw [m3,s4];omega,fun u w huw=> ?_⟩⟩
    have h6:u≠a∨w≠b:=by
     by_cases e:u=a
     ·right;intro e2;subst e e2
      rcases huw with h|h
      ·rw [hva]at h;cases h
      ·rw [hoo _ h]at hvb;cases hvb
     ·exact .inl e
    have h7:vs o0 u=true∨vs o0 w=true:=huw.imp (hoo u) (hoo w)
    exact⟨(m4 u w h6).1.trans (s5 u w h7).1,(m4 u w h6).2.trans (s5 u w h7).2⟩
   ·obtain⟨s1,s2,s3,s4,s5,s6⟩:=hf
    rw [Bool.not_false,cond_true,hr,Option.bind_some,s1,cond_false,s2]
    refine⟨_,rfl,⟨rfl,rfl,j+1,wr (by omega),hc,fun u h=>s3 u (hmo u h),s5,fun u hu hno w hw=> ?_,fun i hi=> ?_⟩,by dsimp only;rw [wr (by omega)];omega⟩
    ·cases e:vs o0 u with
     |true=>exact s3 w (hcl u e hno w hw)
     |false=>exact s6 u hu e w hw
    ·by_cases e:i=j
     ·subst e;rw [hb];exact s4
     ·exact s3 _ (hall i (by omega))
 ·rw [zN (by omega),cond_false]
  refine⟨_,rfl, .inr ⟨o0,rfl,rfl,rfl,j,by dsimp only;omega,hj,hmo,hv2,hcl,hall⟩⟩
omit hI in
theorem SA {a:Int} {x:Int × List Int} (hx:x∈e1):bW a x=true↔x.1≠ -1∧a∈aN x.1 e1:=by
 have e:=tO g.keys hx
 have hl:=g.Vh hM x.1
 unfold bW
 rw [←e,has_eq _ _ (by omega)]
 unfold nfl
 by_cases h1:x.1= -1
 ·simp [h1]
 ·by_cases h2:a∈aN x.1 e1
  ·simp [h1,h2]
  ·simp [h1,h2]
theorem KG: ∀(n:Nat) (o:List (Int × Bool)) (a:Int),(-2≤a∧a<(M:Int) - 2)→vs o a=false→vs o (-2)=false→Vx M o<n→ ∃r,cu n a o ⟨ps,⟨e0,e1⟩⟩=some r∧(SUC M B ps e0 e1 o a r∨FAI ps e0 e1 o a r)
 |0,_,_,_,_,_,h=>by omega
 |n+1,o,a,ha,hva,hv2,hn=>by
  have ih:=KG n
  show∃r,fw (cu n) a o ⟨ps,⟨e0,e1⟩⟩=some r∧_
  unfold fw
  by_cases h2:a= -2
  ·rw [decide_eq_true h2,cond_true]
   exact⟨_,rfl, .inl ⟨rfl,e0,e1,rfl,g,fun φ=>by rw [h2];omega,fun u w _=> ⟨Iff.rfl,Iff.rfl⟩⟩⟩
  ·have h0:=g.Rf hM a
   rw [decide_eq_false h2,cond_false]
   dsimp only
   rw [K5 _ (by omega),Option.bind_some]
   obtain⟨r,hr,hR⟩:=Dp (body:=fM (cu n) a ⟨ps,⟨e0,e1⟩⟩ (aN a e0)) (Zm e0 e1 (dL bA a true o) (aN a e0)) (fun q=>(aN a e0).length - q.2.2.2.toNat)
    (fun r=>(∃v,r= .ret v∧SUC M B ps e0 e1 o a v)∨ ∃o',r= .brk (o',e0,e1)∧Zm e0 e1 (dL bA a true o) (aN a e0) (o',e0,e1,((aN a e0).length:Int)))
    (fun q hq=>by obtain⟨f,e,hf⟩:=XQ hM g (ps:=ps) ha hva h2 (by omega) ih q hq;exact⟨f,e,by cases f<;>exact hf⟩) FUEL (dL bA a true o,e0,e1,0)
    ⟨rfl,rfl,0,rfl,Nat.zero_le _,fun _ h=>h,by rw [o7,hv2,decide_eq_false (Ne.symm h2)];rfl,fun u h1 h2=>(by rw [h1]at h2;cases h2),fun i hi=>by omega⟩ (fuel_lt (by dsimp only;omega))
   rw [hr,Option.bind_some]
   rcases hR with⟨v,rfl,hv⟩|⟨o',rfl,_,_,j,hj1,hj2,hmo,hv2',hcl,hall⟩
   ·exact⟨v,rfl, .inl hv⟩
   ·dsimp only at hj1 hmo hv2' hcl hall ⊢
    have hj:j=(aN a e0).length:=by omega
    subst hj
    have hoo: ∀u,vs o u=true→vs o' u=true:=fun u h=>hmo u (by rw [o7,h];simp)
    have hao:vs o' a=true:=hmo a (by rw [o7];simp)
    have hfw: ∀w,w∈aN a e0→vs o' w=true:=fun w hw=>by
     obtain⟨i,hi,e⟩:=j5 hw
     rw [←e];exact hall i hi
    have hfl: ∀w,a∈aN w e1→w≠ -1→(w,aN w e1)∈e1.filter (bW a):=fun w hw h1=>by
     obtain⟨l,q1,q2⟩:=Fa hw
     rw [q2]at q1
     exact List.mem_filter.2 ⟨q1,(SA hM g q1).2 ⟨h1,hw⟩⟩
    have hfi: ∀x,x∈e1.filter (bW a)→x∈e1∧x.1≠ -1∧a∈aN x.1 e1:=fun x hx=>by
     obtain⟨q1,q2⟩:=List.mem_filter.1 hx
     exact⟨q1,(SA hM g q1).1 q2⟩
    have hnd:((e1.filter (bW a)).map (·.1)).Nodup:=List.Nodup.sublist (List.Sublist.map _ List.filter_sublist) g.keys
    unfold goG goS
    cases hF:e1.filter (bW a)with
    |nil=>
     rw [hF]at hfl
     refine⟨_,rfl, .inr ⟨rfl,rfl,hoo,hao,hv2',fun u hu hno w hw=> ?_⟩⟩
     by_cases e:u=a
     ·subst e
      rcases hw with hw|⟨hw,h1⟩
      ·exact hfw w hw
      ·cases hfl w hw h1
     ·exact hcl u hu (by rw [o7,hno,decide_eq_false e];rfl) w hw
    |cons x rest=>
     rw [hF]at hfl hfi hnd
     obtain⟨hx1,hx2,hx3⟩:=hfi x List.mem_cons_self
     cases rest with
     |cons y rest=>
      obtain⟨hy1,hy2,hy3⟩:=hfi y (List.mem_cons_of_mem _ List.mem_cons_self)
      have:=hI a x.1 y.1 h2 hx3 hy3
      rw [List.map_cons,List.map_cons,List.nodup_cons]at hnd
      exact absurd (this ▸ List.mem_cons_self) hnd.1
     |nil=>
      have hw1: ∀w,a∈aN w e1→w≠ -1→w=x.1:=fun w hw h1=>by
       have:=List.mem_singleton.1 (hfl w hw h1)
       rw [←this]
      have hxr:=(g.rng x.1 a ((g.base x.1 a).2 (.inr hx3))).1
      have hl1:=g.Vh hM x.1
      have ex:=tO g.keys hx1
      dsimp only
      unfold fP
      dsimp only
      rw [show(bR bA x.1 o').getD false=vs o' x.1 from rfl]
      cases hvx:vs o' x.1 with
      |true=>
       refine⟨_,rfl, .inr ⟨rfl,rfl,hoo,hao,hv2',fun u hu hno w hw=> ?_⟩⟩
       by_cases e:u=a
       ·subst e
        rcases hw with hw|⟨hw,h1⟩
        ·exact hfw w hw
        ·rw [hw1 w hw h1];exact hvx
       ·exact hcl u hu (by rw [o7,hno,decide_eq_false e];rfl) w hw
      |false=>
       have hlt:=Sq (M:=M) hva ha
       have hle:=KN (M:=M) hmo
       obtain⟨r,hr,hs|hf⟩:=ih o' x.1 hxr hvx hv2' (by omega)
       ·obtain⟨s1,f0,f1,s2,s3,s4,s5⟩:=hs
        obtain⟨g0,g1,m1,m2,m3,m4⟩:=GI.back hM s3 ps ((s5 x.1 a (.inr hao)).2.2 hx3)
        rw [Bool.not_false,cond_true,decide_eq_false hx2,Bool.not_false,cond_true,←ex,has_eq _ _ (by omega),Option.bind_some,decide_eq_true hx3,cond_true,hr,Option.bind_some,s1,cond_true,s2]
        dsimp only
        rw [m1,Option.bind_some]
        refine⟨_,rfl, .inl ⟨rfl,g0,g1,rfl,m2,fun φ=>by rw [m3,s4];omega,fun u w huw=> ?_⟩⟩
        have h6:u≠x.1∨w≠a:=by
         by_cases e:u=x.1
         ·right;intro e2;subst e e2
          rcases huw with h|h
          ·rw [hoo _ h]at hvx;cases hvx
          ·rw [hva]at h;cases h
         ·exact .inl e
        have h7:vs o' u=true∨vs o' w=true:=huw.imp (hoo u) (hoo w)
        exact⟨(m4 u w h6).1.trans (s5 u w h7).1,(m4 u w h6).2.trans (s5 u w h7).2⟩
       ·obtain⟨s1,s2,s3,s4,s5,s6⟩:=hf
        rw [Bool.not_false,cond_true,decide_eq_false hx2,Bool.not_false,cond_true,←ex,has_eq _ _ (by omega),Option.bind_some,decide_eq_true hx3,cond_true,hr,Option.bind_some,s1,cond_false,s2]
        dsimp only
        rw [aH rfl]
        refine⟨_,rfl, .inr ⟨rfl,rfl,fun u h=>s3 u (hoo u h),s3 a hao,s5,fun u hu hno w hw=> ?_⟩⟩
        by_cases e:u=a
        ·subst e
         rcases hw with hw|⟨hw,h1⟩
         ·exact s3 w (hfw w hw)
         ·rw [hw1 w hw h1];exact s4
        ·cases e2:vs o' u with
         |true=>exact s3 w (hcl u e2 (by rw [o7,hno,decide_eq_false e];rfl) w hw)
         |false=>exact s6 u hu e2 w hw
end
structure NB (P:Nat) (B:Int→Int→Prop):Prop where
 ev: ∀(i:Nat) v,B (2*(i:Int)) v→v=2*(i:Int)+1
 od: ∀u (i:Nat),B u (2*(i:Int)+1)→u=2*(i:Int)
 src: ∀u, ¬ B u (-1)
 fst: ∀v,B (-1) v→ ∃i:Nat,i<P∧v=2*(i:Int)
 odd: ∀(i:Nat) v,B (2*(i:Int)+1) v→v= -2∨ ∃j:Nat,j<P∧v=2*(j:Int)
def FL (K:Nat) (e1:List (Int × List Int)):Prop:= ∀φ,ET φ e1=(K:Int)*(φ (-1) - φ (-2))
def ind (w u:Int):Int:=if u=w then 1 else 0
def inn (w:Int):List (Int × List Int)→Int
 |[]=>0
 |(_,l)::m=>(if w∈l then 1 else 0)+inn w m
theorem KW (w a:Int): ∀l:List Int,l.Nodup→qB (ind w) a l=(if a=w then(l.length:Int)else 0) - (if w∈l then 1 else 0)
 |[],_=>by simp [qB]
 |b::l,h=>by
  rw [List.nodup_cons]at h
  rw [qB,KW w a l h.2]
  unfold ind
  by_cases e1:a=w
  ·rw [if_pos e1,if_pos e1,if_pos e1]
   by_cases e2:b=w
   ·subst e2
    rw [if_pos rfl,if_neg h.1,if_pos List.mem_cons_self,List.length_cons];omega
   ·rw [if_neg e2]
    by_cases e3:w∈l
    ·rw [if_pos e3,if_pos (List.mem_cons_of_mem _ e3),List.length_cons];omega
    ·rw [if_neg e3,if_neg (fun q=>(List.mem_cons.1 q).elim (fun q=>e2 q.symm) e3),List.length_cons];omega
  ·rw [if_neg e1,if_neg e1,if_neg e1]
   by_cases e2:b=w
   ·subst e2
    rw [if_pos rfl,if_neg h.1,if_pos List.mem_cons_self];omega
   ·rw [if_neg e2]
    by_cases e3:w∈l
    ·rw [if_pos e3,if_pos (List.mem_cons_of_mem _ e3)];omega
    ·rw [if_neg e3,if_neg (fun q=>(List.mem_cons.1 q).elim (fun q=>e2 q.symm) e3)];omega
theorem Ja {u:Int}: ∀{m:List (Int × List Int)},u ∉ m.map (·.1)→aN u m=[]
 |[],_=>rfl
 |(k,v)::m,h=>by
  rw [List.map_cons,List.mem_cons]at h
  unfold aN
  rw [decide_eq_false fun e=>h (.inl e),cond_false]
  exact Ja fun q=>h (.inr q)
theorem OO (w:Int): ∀m:List (Int × List Int),(m.map (·.1)).Nodup→(∀x∈m,x.2.Nodup)→ET (ind w) m=((aN w m).length:Int) - inn w m
 |[],_,_=>by simp [ET,aN,inn]
 |(a,l)::m,h,hr=>by
  rw [List.map_cons,List.nodup_cons]at h
  rw [ET,OO w m h.2 fun x hx=>hr x (List.mem_cons_of_mem _ hx),KW w a l (hr _ List.mem_cons_self),inn,show aN w ((a,l)::m)=(bif decide (w=a)then l else aN w m)from rfl]
  by_cases e:w=a
  ·subst e
   have:=Ja (u:=w) h.1
   rw [decide_eq_true rfl,cond_true,if_pos rfl,this,List.length_nil];omega
  ·rw [decide_eq_false e,cond_false,if_neg (Ne.symm e)];omega
theorem RF (w:Int): ∀m:List (Int × List Int),0≤inn w m
 |[]=>Int.le_refl 0
 |(a,l)::m=>by
  have:=RF w m
  rw [inn];split<;>omega
theorem Ce {w x:Int}: ∀{m:List (Int × List Int)},w∈aN x m→1≤inn w m
 |[],h=>by cases h
 |(a,l)::m,h=>by
  have h0:=RF w m
  unfold aN at h
  rw [inn]
  by_cases e:x=a
  ·rw [decide_eq_true e,cond_true]at h
   rw [if_pos h];omega
  ·rw [decide_eq_false e,cond_false]at h
   have:=Ce h
   split<;>omega
theorem O0 {w x y:Int} (hxy:x≠y): ∀{m:List (Int × List Int)},w∈aN x m→w∈aN y m→2≤inn w m
 |[],h,_=>by cases h
 |(a,l)::m,h,k=>by
  unfold aN at h k
  rw [inn]
  by_cases e:x=a
  ·rw [decide_eq_true e,cond_true]at h
   rw [decide_eq_false (fun q=>hxy (e.trans q.symm)),cond_false]at k
   have:=Ce k
   rw [if_pos h];omega
  ·rw [decide_eq_false e,cond_false]at h
   by_cases e2:y=a
   ·rw [decide_eq_true e2,cond_true]at k
    have:=Ce h
    rw [if_pos k];omega
   ·rw [decide_eq_false e2,cond_false]at k
    have:=O0 hxy h k
    split<;>omega
theorem OL {l:List Int} {c:Int} (hn:l.Nodup) (h: ∀x∈l,x=c):l.length≤1:=by
 match l,hn,h with
 |[],_,_=>simp
 |[a],_,_=>simp
 |a::b::l,hn,h=>
  rw [List.nodup_cons]at hn
  have h1:=h a List.mem_cons_self
  have h2:=h b (List.mem_cons_of_mem _ List.mem_cons_self)
  exact absurd (h1.trans h2.symm ▸ List.mem_cons_self) hn.1
section
variable {M P:Nat} {B:Int→Int→Prop} {e0 e1:List (Int × List Int)} {K:Nat} (hM:M=2*P+2) (g:GI M B e0 e1) (nb:NB P B) (fl:FL K e1)
include g
theorem GI.Wj: ∀x∈e1,x.2.Nodup:=fun x hx=>by rw [←tO g.keys hx];exact g.n1 _
theorem TN (w:Int):ET (ind w) e1=((aN w e1).length:Int) - inn w e1:=OO w e1 g.keys g.Wj
include nb fl
theorem keeps {w:Int} (h1:w≠ -1) (h2:w≠ -2):((aN w e1).length:Int)=inn w e1:=by
 have h:=fl (ind w)
 rw [TN g]at h
 unfold ind at h
 rw [if_neg (Ne.symm h1),if_neg (Ne.symm h2),Int.sub_self,Int.mul_zero]at h
 omega
theorem X7 (i:Nat):(aN (2*(i:Int)) e1).length≤1:=OL (g.n1 _) fun x hx=>nb.ev i x ((g.base _ _).2 (.inr hx))
theorem FL.ind:IND e1:=fun w x y h2 hx hy=>by
 have bx:=(g.base _ _).2 (.inr hx);have by':=(g.base _ _).2 (.inr hy)
 have hr:=(g.rng _ _ bx).2
 have h1:w≠ -1:=fun e=>nb.src x (e ▸ bx)
 by_cases e:w=2*(((w / 2).toNat:Nat):Int)
 ·by_cases q:x=y
  ·exact q
  ·have k2:=O0 q hx hy
   have k:=keeps g nb fl h1 h2
   have:=X7 g nb fl (w / 2).toNat
   rw [←e]at this
   omega
 ·have e:w=2*(((w / 2).toNat:Nat):Int)+1:=by omega
  rw [e]at bx by'
  rw [nb.od x _ bx,nb.od y _ by']
theorem VK:((aN (-1) e1).length:Int)=K:=by
 have h:=fl (ind (-1))
 rw [TN g]at h
 unfold ind at h
 rw [if_pos rfl,if_neg (by decide)]at h
 have hz:inn (-1) e1=0:=by
  have hrow: ∀x∈e1,(-1:Int) ∉ x.2:=fun x hx hm=>by
   rw [←tO g.keys hx]at hm
   exact nb.src _ ((g.base _ _).2 (.inr hm))
  clear g fl h
  induction e1 with
  |nil=>rfl
  |cons x m ih=>
   obtain⟨a,l⟩:=x
   rw [inn,if_neg (hrow _ List.mem_cons_self),ih fun x hx=>hrow x (List.mem_cons_of_mem _ hx)];rfl
 unfold ind at hz
 omega
theorem Uk {i:Nat} {x:Int} (h:2*(i:Int)∈aN x e1):0<(aN (2*(i:Int)+1) e1).length:=by
 have k1:=keeps g nb fl (w:=2*(i:Int)) (by omega) (by omega)
 have k2:=Ce h
 have h3:0<(aN (2*(i:Int)) e1).length:=by omega
 have hm:=at_mem h3
 have e:=nb.ev i _ ((g.base _ _).2 (.inr hm))
 rw [e]at hm
 have k3:=Ce hm
 have k4:=keeps g nb fl (w:=2*(i:Int)+1) (by omega) (by omega)
 omega
omit g nb fl in
theorem DR (u:Int): ∀m:List (Int × List Int),(bR bA u m).getD ([]:List Int)=aN u m
 |[]=>rfl
 |(k,v)::m=>by
  unfold bR aN
  by_cases e:u=k
  ·rw [EQ.2 e,decide_eq_true e];rfl
  ·rw [EZ e,decide_eq_false e];exact DR u m
include hM
def WI (P M:Nat) (e1:List (Int × List Int)) (q:Int × List Part):Prop:=
 (q.1= -2∧q.2.length≤M)∨ ∃i:Nat,i<P∧q.1=2*(i:Int)∧ ∃T:List Int,T.Nodup∧(∀w∈T,∃j:Nat,j<P∧w=2*(j:Int))∧q.1∈T∧q.2.length+1≤T.length∧ ∀w∈T,∃x,w∈aN x e1∧(x= -1∨ ∃v∈T,v≠q.1∧x=v+1)
theorem Tf {ps:List Part} (hps:ps.length=P) (hP:P≤1000) (q:Int × List Part) (hq:WI P M e1 q): ∃f,iT ⟨ps,⟨e0,e1⟩⟩ q=some f∧match f with
  | .next q'=>WI P M e1 q'∧M+5 - q'.2.length<M+5 - q.2.length
  | .done r=> ∃w,r= .brk w∧w.length≤M:=by
 obtain⟨a,way⟩:=q
 unfold iT
 dsimp only
 by_cases h2:a= -2
 ·subst h2
  rcases hq with⟨_,hq⟩|⟨i,_,hi,_⟩
  ·exact⟨_,rfl,way,rfl,hq⟩
  ·dsimp only at hi;omega
 ·rcases hq with⟨hq,_⟩|⟨i,hi,hai,T,hT,hTe,haT,hlen,hpre⟩
  ·exact absurd hq h2
  ·dsimp only at hai haT hlen hpre
   obtain⟨x,hx,_⟩:=hpre a haT
   have hgo:=Uk g nb fl (i:=i) (x:=x) (hai ▸ hx)
   have hTl:T.length≤M:=Jv M T hT fun w hw=>by
    obtain⟨j,hj,e⟩:=hTe w hw
    omega
   have ht:Int.tdiv a 2=(i:Int):=by rw [hai,Int.mul_tdiv_cancel_left _ (by decide)]
   rw [decide_eq_false h2,Bool.not_false,cond_true,ht,wr (x:=(i:Int)) (by omega),aH ⟨by decide,⟨by omega,by omega⟩,by rw [List.length_singleton];omega,by rw [List.length_singleton];omega⟩,wr (x:=a+1) (by omega),DR,hai,aH ⟨by omega,by omega⟩]
   have hm:=at_mem hgo
   refine⟨_,rfl, ?_,by simp only [List.length_append,List.length_singleton];omega⟩
   rcases nb.odd i _ ((g.base _ _).2 (.inr hm))with e|⟨j,hj,e⟩
   ·exact .inl ⟨e,by simp only [List.length_append,List.length_singleton];omega⟩
   ·refine .inr ⟨j,hj,e,at' (aN (2*(i:Int)+1) e1) 0::T, ?_,fun w hw=> ?_,List.mem_cons_self,by dsimp only;rw [List.length_append,List.length_singleton,List.length_cons];omega,fun w hw=> ?_⟩
    ·rw [List.nodup_cons]
     refine⟨fun hmT=> ?_,hT⟩
     obtain⟨y,hy,hy2⟩:=hpre _ hmT
     have:=FL.ind g nb fl _ _ _ (by omega) hm hy
     rcases hy2 with q|⟨v,_,q1,q2⟩<;>omega
    ·rcases List.mem_cons.1 hw with rfl|hw
     ·exact⟨j,hj,e⟩
     ·exact hTe w hw
    ·have hnT:at' (aN (2*(i:Int)+1) e1) 0 ∉ T:=fun hmT=>by
      obtain⟨y,hy,hy2⟩:=hpre _ hmT
      have:=FL.ind g nb fl _ _ _ (by omega) hm hy
      rcases hy2 with q|⟨v,_,q1,q2⟩<;>omega
     rcases List.mem_cons.1 hw with rfl|hw
     ·exact⟨_,hm, .inr ⟨a,List.mem_cons_of_mem _ haT,fun q=>hnT (by have q:a=at' (aN (2*(i:Int)+1) e1) 0:=q;rw [←q];exact haT),by rw [hai]⟩⟩
     ·obtain⟨y,hy,hy2⟩:=hpre w hw
      refine⟨y,hy,hy2.imp id ?_⟩
      rintro ⟨v,v1,v2,v3⟩
      exact⟨v,List.mem_cons_of_mem _ v1,fun q=>hnT (by have q:v=at' (aN (2*(i:Int)+1) e1) 0:=q;rw [←q];exact v1),v3⟩
theorem Vy {ps:List Part} (hps:ps.length=P) (hP:P≤1000) (hK:K≤1000): ∃W,gM ⟨ps,⟨e0,e1⟩⟩=some W∧W.length=K:=by
 have hs:=VK g nb fl
 obtain⟨r,hr,W,rfl,hW⟩:=Dp (body:=kE ⟨ps,⟨e0,e1⟩⟩) (fun q=> ∃t:Nat,q.2=(t:Int)∧t≤K∧q.1.length=t) (fun q=>K - q.2.toNat) (fun r=> ∃W,r= .brk W∧W.length=K) (fun q hq=>by
  obtain⟨out,tt⟩:=q
  obtain⟨t,ht,htK,hlen⟩:=hq
  dsimp only at ht hlen
  subst ht
  unfold kE
  dsimp only
  rw [DR]
  by_cases hc:t<K
  ·have hm:at' (aN (-1) e1) t∈aN (-1) e1:=at_mem (by omega)
   obtain⟨i,hi,e⟩:=nb.fst _ ((g.base _ _).2 (.inr hm))
   obtain⟨w,hw,way,rfl,hway⟩:=Dp (body:=iT ⟨ps,⟨e0,e1⟩⟩) (WI P M e1) (fun q=>M+5 - q.2.length) (fun r=> ∃w,r= .brk w∧w.length≤M)
    (fun q hq=>by obtain⟨f,e,hf⟩:=Tf hM g nb fl hps hP q hq;exact⟨f,e,by cases f<;>exact hf⟩) FUEL (at' (aN (-1) e1) t,([]:List Part))
    (.inr ⟨i,hi,e,[at' (aN (-1) e1) t],by simp,fun w hw=>by rw [List.mem_singleton]at hw;subst hw;exact⟨i,hi,e⟩,by simp,by simp,fun w hw=>by rw [List.mem_singleton]at hw;subst hw;exact⟨-1,hm, .inl rfl⟩⟩) (fuel_lt (by simp;omega))
   rw [JR (by omega),cond_true,aH ⟨by omega,by omega⟩,Int.toNat_natCast,hw,Option.bind_some]
   dsimp only
   rw [aH ⟨by rw [List.length_singleton];omega,by rw [List.length_singleton];omega⟩,wr (by omega)]
   exact⟨_,rfl,⟨t+1,rfl,hc,by simp only [List.length_append,List.length_singleton];omega⟩,by dsimp only;omega⟩
  ·rw [zN (by omega),cond_false]
   exact⟨_,rfl,out,rfl,by omega⟩) FUEL ([],0) ⟨0,rfl,Nat.zero_le _,rfl⟩ (fuel_lt (by dsimp only;omega))
 refine⟨W, ?_,hW⟩
 unfold gM
 rw [hr];rfl
end
def CLO (e0 e1:List (Int × List Int)):Prop:= ∃V:Int→Bool,V (-1)=true∧V (-2)=false∧ ∀u w,V u=true→Rs e0 e1 u w→V w=true
section
variable {M P:Nat} {B:Int→Int→Prop} {ps:List Part} (hM:M=2*P+2) (hP:P≤1000) (nb:NB P B) (hps:ps.length=P)
include hM hP nb
theorem GK {e0 e1:List (Int × List Int)} {K:Nat} (g:GI M B e0 e1) (fl:FL K e1): ∃f0 f1,(dV ⟨ps,⟨e0,e1⟩⟩=some (true,⟨ps,⟨f0,f1⟩⟩)∧GI M B f0 f1∧FL (K+1) f1)∨(dV ⟨ps,⟨e0,e1⟩⟩=some (false,⟨ps,⟨e0,e1⟩⟩)∧CLO e0 e1):=by
 have hu:Vx M []≤M:=by
  unfold Vx
  exact Nat.le_trans List.countP_le_length (by simp)
 obtain⟨r,hr,hs|hf⟩:=KG (by omega) g (FL.ind g nb fl) (ps:=ps) FUEL [] (-1) ⟨by decide,by omega⟩ rfl rfl (by unfold FUEL;omega)
 ·obtain⟨s1,f0,f1,s2,s3,s4,_⟩:=hs
  refine⟨f0,f1, .inl ⟨?_,s3,fun φ=> ?_⟩⟩
  ·unfold dV
   rw [hr,Option.bind_some,s1,s2]
  ·rw [s4,fl φ,Int.natCast_add,Int.add_mul];simp
 ·obtain⟨s1,s2,s3,s4,s5,s6⟩:=hf
  refine⟨e0,e1, .inr ⟨?_,vs r.2.1,s4,s5,fun u w hu hw=>s6 u hu rfl w hw⟩⟩
  unfold dV
  rw [hr,Option.bind_some,s1,s2]
include hps
theorem KP {g0:List (Int × List Int)} (g:GI M B g0 []): ∃e0 e1 K W,aV (gy ⟨ps,⟨g0,[]⟩⟩) FUEL (g0,[],0)=some (.brk (e0,e1))∧GI M B e0 e1∧FL K e1∧K≤2∧(K=0→e1=[])∧(K<2→CLO e0 e1)∧gM ⟨ps,⟨e0,e1⟩⟩=some W∧W.length=K:=by
 have fl0:FL 0 []:=fun φ=>by simp [ET]
 have fin: ∀{e0 e1:List (Int × List Int)} {K:Nat},GI M B e0 e1→FL K e1→K≤2→ ∃W,gM ⟨ps,⟨e0,e1⟩⟩=some W∧W.length=K:=fun g fl hK=>Vy hM g nb fl hps hP (by omega)
 have go: ∀(a b:List (Int × List Int)) (r:Bool) (f0 f1:List (Int × List Int)) (t:Nat),t<2→dV ⟨ps,⟨a,b⟩⟩=some (r,⟨ps,⟨f0,f1⟩⟩)→gy ⟨ps,⟨g0,[]⟩⟩ (a,b,(t:Int))=some (bif r then .next (f0,f1,((t+1:Nat):Int))else .done (.brk (f0,f1))):=fun a b r f0 f1 t ht h=>by
  unfold gy
  dsimp only
  rw [JR (by omega),cond_true,h,Option.bind_some,wr (by omega)]
  cases r<;>rfl
 obtain⟨a0,a1,⟨h1,h2,h3⟩|⟨h1,h2⟩⟩:=GK hM hP nb (ps:=ps) g fl0
 ·obtain⟨b0,b1,⟨k1,k2,k3⟩|⟨k1,k2⟩⟩:=GK hM hP nb (ps:=ps) h2 h3
  ·obtain⟨W,hW,hWl⟩:=fin k2 k3 (Nat.le_refl 2)
   refine⟨b0,b1,2,W,iP (n:=3) ?_ (by unfold FUEL;omega),k2,k3,Nat.le_refl 2,fun h=>(by cases h),fun h=>by omega,hW,hWl⟩
   have s1:=go _ _ _ _ _ 0 (by omega) h1;have s2:=go _ _ _ _ _ 1 (by omega) k1
   have s1:gy ⟨ps,⟨g0,[]⟩⟩ (g0,[],0)=_:=s1
   rw [bH,s1]
   show aV _ 2 (a0,a1,((1:Nat):Int))=_
   rw [bH,s2]
   show aV _ 1 (b0,b1,((2:Nat):Int))=_
   rw [bH]
   unfold gy
   dsimp only
   rw [zN (by omega)];rfl
  ·obtain⟨W,hW,hWl⟩:=fin h2 h3 (by omega)
   refine⟨a0,a1,1,W,iP (n:=2) ?_ (by unfold FUEL;omega),h2,h3,by omega,fun h=>(by cases h),fun _=>k2,hW,hWl⟩
   have s1:=go _ _ _ _ _ 0 (by omega) h1;have s2:=go _ _ _ _ _ 1 (by omega) k1
   have s1:gy ⟨ps,⟨g0,[]⟩⟩ (g0,[],0)=_:=s1
   rw [bH,s1]
   show aV _ 1 (a0,a1,((1:Nat):Int))=_
   rw [bH,s2];rfl
 ·obtain⟨W,hW,hWl⟩:=fin g fl0 (by omega)
  refine⟨g0,[],0,W,iP (n:=1) ?_ (by unfold FUEL;omega),g,fl0,by omega,fun _=>rfl,fun _=>h2,hW,hWl⟩
  have s1:=go _ _ _ _ _ 0 (by omega) h1
  have s1:gy ⟨ps,⟨g0,[]⟩⟩ (g0,[],0)=_:=s1
  rw [bH,s1];rfl
end
def Vn (g:List (Int × List Int)) (e:Int × Int):List (Int × List Int):=gV e.1 (aN e.1 g++[e.2]) g
def jX (E:List (Int × Int)):List (Int × List Int):=E.foldl Vn []
theorem Qt (E:List (Int × Int)) (e:Int × Int):jX (E++[e])=Vn (jX E) e:=by unfold jX;rw [List.foldl_append];rfl
theorem Ic (u:Int): ∀(E:List (Int × Int)) (g:List (Int × List Int)),aN u (E.foldl Vn g)=aN u g++(E.filter fun e=>decide (e.1=u)).map (·.2)
 |[],g=>by simp
 |e::E,g=>by
  rw [List.foldl_cons,Ic u E,List.filter_cons]
  unfold Vn
  rw [fZ]
  by_cases h:u=e.1
  ·subst h
   rw [if_pos rfl,if_pos (decide_eq_true rfl),List.map_cons,List.append_assoc];rfl
  ·rw [if_neg h,if_neg (by rw [decide_eq_false (Ne.symm h)];decide)]
theorem F4 (u:Int) (E:List (Int × Int)):aN u (jX E)=(E.filter fun e=>decide (e.1=u)).map (·.2):=by
 unfold jX
 rw [Ic];rfl
theorem Uj {u v:Int} {E:List (Int × Int)}:v∈aN u (jX E)↔(u,v)∈E:=by
 rw [F4,List.mem_map]
 constructor
 ·rintro ⟨e,he,rfl⟩
  obtain⟨h1,h2⟩:=List.mem_filter.1 he
  rw [←of_decide_eq_true h2];exact h1
 ·intro h
  exact⟨(u,v),List.mem_filter.2 ⟨h,decide_eq_true rfl⟩,rfl⟩
theorem Uw (u:Int) (E:List (Int × Int)):(aN u (jX E)).length≤E.length:=by
 rw [F4,List.length_map];exact List.length_filter_le _ _
theorem Pg {E:List (Int × Int)} (h:E.Nodup) (u:Int):(aN u (jX E)).Nodup:=by
 rw [F4]
 have h1:(E.filter fun e=>decide (e.1=u)).Nodup:=h.sublist List.filter_sublist
 have h2: ∀e∈E.filter (fun e=>decide (e.1=u)),e.1=u:=fun e he=>of_decide_eq_true (List.mem_filter.1 he).2
 generalize E.filter (fun e=>decide (e.1=u))=F at h1 h2
 induction F with
 |nil=>simp
 |cons e F ih=>
  rw [List.nodup_cons]at h1
  rw [List.map_cons,List.nodup_cons]
  refine⟨fun hm=> ?_,ih h1.2 fun x hx=>h2 x (List.mem_cons_of_mem _ hx)⟩
  obtain⟨x,hx,e2⟩:=List.mem_map.1 hm
  have a1:=h2 x (List.mem_cons_of_mem _ hx);have a2:=h2 e List.mem_cons_self
  have:x=e:=Prod.ext (a1.trans a2.symm) e2
  exact h1.1 (this ▸ hx)
theorem zD (ps:List Part) (E:List (Int × Int)) (a b:Int) (h:E.length≤100000):dY a b ⟨ps,⟨jX E,[]⟩⟩=some ⟨ps,⟨jX (E++[(a,b)]),[]⟩⟩:=by
 have:=Uw a E
 unfold dY
 dsimp only
 rw [aH ⟨by rw [List.length_singleton];omega,by rw [List.length_singleton];omega⟩,Qt];rfl
section
variable {α:Type} [Inhabited α]
theorem Kb {a b:List α} {i:Nat} (h:i<a.length):at' (a++b) i=at' a i:=by
 rw [eG (by rw [List.length_append];omega),eG h,List.getElem_append_left h]
theorem OG {a b:List α} {i:Nat} (h:i<b.length):at' (a++b) (a.length+i)=at' b i:=by
 rw [eG (by rw [List.length_append];omega),eG h,List.getElem_append_right (Nat.le_add_right _ _)]
 congr 1;omega
end
section
variable {p:au} (hp:VP p)
theorem dR:(partsOf p).length=p.buses.toNat+p.sources.length+p.links.length:=by simp only [partsOf,List.length_append,cK]
theorem Er {b:Nat} (h:b<p.buses.toNat):at' (partsOf p) b=⟨1,(b:Int)⟩:=by
 unfold partsOf
 rw [Kb (by rw [List.length_append,cK,cK];omega),Kb (by rw [cK];exact h),wK h]
theorem Ej {k:Nat} (h:k<p.sources.length):at' (partsOf p) (p.buses.toNat+k)=⟨2,(k:Int)⟩:=by
 unfold partsOf
 rw [Kb (by rw [List.length_append,cK,cK];omega)]
 have:=OG (a:=tab p.buses.toNat (fun b=>(⟨1,(b:Int)⟩:Part))) (b:=tab p.sources.length (fun b=>(⟨2,(b:Int)⟩:Part))) (i:=k) (by rw [cK];exact h)
 rw [cK]at this
 rw [this,wK h]
theorem En {i:Nat} (h:i<p.links.length):at' (partsOf p) (p.buses.toNat+p.sources.length+i)=⟨3,(i:Int)⟩:=by
 unfold partsOf
 have:=OG (a:=tab p.buses.toNat (fun b=>(⟨1,(b:Int)⟩:Part))++tab p.sources.length (fun b=>(⟨2,(b:Int)⟩:Part))) (b:=tab p.links.length (fun b=>(⟨3,(b:Int)⟩:Part))) (i:=i) (by rw [cK];exact h)
 rw [List.length_append,cK,cK]at this
 rw [this,wK h]
theorem Kw {i j:Nat} (hi:i<(partsOf p).length) (hj:j<(partsOf p).length) (e:at' (partsOf p) i=at' (partsOf p) j):i=j:=by
 have key: ∀i,i<(partsOf p).length→(i<p.buses.toNat∧at' (partsOf p) i=⟨1,(i:Int)⟩)∨(∃k,k<p.sources.length∧i=p.buses.toNat+k∧at' (partsOf p) i=⟨2,(k:Int)⟩)∨ ∃k,k<p.links.length∧i=p.buses.toNat+p.sources.length+k∧at' (partsOf p) i=⟨3,(k:Int)⟩:=fun i hi=>by
  rw [dR]at hi
  by_cases h1:i<p.buses.toNat
  ·exact .inl ⟨h1,Er h1⟩
  ·by_cases h2:i<p.buses.toNat+p.sources.length
   ·refine .inr (.inl ⟨i - p.buses.toNat,by omega,by omega, ?_⟩)
    have:=Ej (p:=p) (k:=i - p.buses.toNat) (by omega)
    rwa [show p.buses.toNat+(i - p.buses.toNat)=i by omega]at this
   ·refine .inr (.inr ⟨i - (p.buses.toNat+p.sources.length),by omega,by omega, ?_⟩)
    have:=En (p:=p) (i:=i - (p.buses.toNat+p.sources.length)) (by omega)
    rwa [show p.buses.toNat+p.sources.length+(i - (p.buses.toNat+p.sources.length))=i by omega]at this
 rcases key i hi with⟨_,a⟩|⟨k,_,a1,a⟩|⟨k,_,a1,a⟩<;>rcases key j hj with⟨_,b⟩|⟨m,_,b1,b⟩|⟨m,_,b1,b⟩<;>rw [a,b]at e<;>simp at e<;>omega
include hp
theorem Bg {i:Nat} (hi:i<(partsOf p).length) {x:Part} (e:at' (partsOf p) i=x):fV (partsOf p) x=some (i:Int):=by
 have h72:(partsOf p).length≤100:=by
  have hb:=hp.b;have hsl:=hp.sl;have hll:=hp.ll
  rw [dR];omega
 have hq: ∀y:Part,((decide (x.kind=y.kind)) && ((decide (x.index=y.index)) && true))=true↔x=y:=fun y=>by
  obtain⟨a,b⟩:=x;obtain⟨c,d⟩:=y
  simp
 have hf:(partsOf p).findIdx? (fun y=>(decide (x.kind=y.kind)) && ((decide (x.index=y.index)) && true))=some i:=by
  rw [List.findIdx?_eq_some_iff_getElem]
  refine⟨hi,(hq _).2 (by rw [←eG hi,e]),fun j hj=> ?_⟩
  intro h
  have h:=(hq _).1 h
  rw [←eG (by omega),←e]at h
  have:=Kw hi (by omega) h
  omega
 unfold fV
 rw [rX (partsOf p) (fun y=>(decide (x.kind=y.kind)) && ((decide (x.index=y.index)) && true)) id (by omega) (fun i hi=> ?_) ?_,hf]
 ·rfl
 ·unfold kX
  rw [zN (by omega)];rfl
 ·unfold kX
  rw [JR (by omega),cond_true,aH ⟨by omega,by omega⟩,Int.toNat_natCast,wr (by omega)]
  exact GX _ _ _
theorem Cw (g h:List (Int × List Int)) {b:Int} (hb:0≤b∧b<p.buses):bZ 1 b ⟨partsOf p,⟨g,h⟩⟩=some b:=by
 unfold bZ
 have e:=Er (p:=p) (b:=b.toNat) (by omega)
 have:=Bg hp (i:=b.toNat) (by rw [dR];omega) e
 rw [show((b.toNat:Nat):Int)=b by omega]at this
 show(fV (partsOf p) ⟨1,b⟩).bind _=_
 rw [this];rfl
theorem Tk (g h:List (Int × List Int)) {k:Nat} (hk:k<p.sources.length):bZ 2 (k:Int) ⟨partsOf p,⟨g,h⟩⟩=some ((p.buses.toNat+k:Nat):Int):=by
 unfold bZ
 have:=Bg hp (by rw [dR];omega) (Ej (p:=p) hk)
 show(fV (partsOf p) ⟨2,(k:Int)⟩).bind _=_
 rw [this];rfl
theorem R9 (g h:List (Int × List Int)) {i:Nat} (hi:i<p.links.length):bZ 3 (i:Int) ⟨partsOf p,⟨g,h⟩⟩=some ((p.buses.toNat+p.sources.length+i:Nat):Int):=by
 unfold bZ
 have:=Bg hp (by rw [dR];omega) (En (p:=p) hi)
 show(fV (partsOf p) ⟨3,(i:Int)⟩).bind _=_
 rw [this];rfl
end
def DL (i:Nat):List (Int × Int):=[(2*(i:Int),2*(i:Int)+1)]
def sW (p:au) (s:State) (k:Nat):List (Int × Int):=if bG p s k=true then [(-1,2*((p.buses.toNat+k:Nat):Int)),(2*((p.buses.toNat+k:Nat):Int)+1,2*(at' p.sources k).bus)]else []
def lx (p:au) (i:Nat):Int:=((p.buses.toNat+p.sources.length+i:Nat):Int)
def qb (p:au) (s:State) (i:Nat):List (Int × Int):=if bB p s i=true then [(2*(at' p.links i).a+1,2*lx p i),(2*lx p i+1,2*(at' p.links i).a),(2*(at' p.links i).b+1,2*lx p i),(2*lx p i+1,2*(at' p.links i).b)]else []
def fd (p:au) (k t:Nat):Int:=at' [(at' p.racks k).feeds.e0,(at' p.racks k).feeds.e1] t
def sV (p:au) (s:State) (k t:Nat):List (Int × Int):=if 0≤fd p k t∧at' s.badBus (fd p k t).toNat=false then [(2*fd p k t+1, -2)]else []
def ay (p:au) (s:State) (k:Nat):List (Int × Int):=jh DL (partsOf p).length++jh (sW p s) p.sources.length++jh (qb p s) p.links.length++jh (sV p s k) 2
section
variable {p:au} {s:State} (hp:VP p) (hs:VS p s) {k:Nat} (hk:k<p.racks.length)
include hp
theorem Cn:(jh DL (partsOf p).length).length≤100∧(∀n,n≤p.sources.length→(jh (sW p s) n).length≤16)∧(∀n,n≤p.links.length→(jh (qb p s) n).length≤160)∧(∀n,n≤2→(jh (sV p s k) n).length≤2):=by
 have hb:=hp.b;have hsl:=hp.sl;have hll:=hp.ll
 have hP:=dR (p:=p)
 refine⟨?_,fun n hn=> ?_,fun n hn=> ?_,fun n hn=> ?_⟩
 ·have:=wu (f:=DL) (m:=1) (n:=(partsOf p).length) fun i _=>by simp [DL]
  omega
 ·have:=wu (f:=sW p s) (m:=2) (n:=n) fun i _=>by unfold sW;split<;>simp
  omega
 ·have:=wu (f:=qb p s) (m:=4) (n:=n) fun i _=>by unfold qb;split<;>simp
  omega
 ·have:=wu (f:=sV p s k) (m:=1) (n:=n) fun i _=>by unfold sV;split<;>simp
  omega
include hs
theorem XG (e:Int):aV (gG (partsOf p,e)) FUEL ([],0)=some (.brk (jX (jh DL (partsOf p).length))):=by
 have hb:=hp.b;have hsl:=hp.sl;have hll:=hp.ll
 have hP:=dR (p:=p)
 refine eP (body:=gG (partsOf p,e)) (fun t=>(jX (jh DL t),(t:Int))) (partsOf p).length _ (fuel_lt (by omega)) (fun t ht=> ?_) ?_
 ·have hl:=wu (f:=DL) (m:=1) (n:=t) fun i _=>by simp [DL]
  unfold gG
  dsimp only
  rw [JR (by omega),cond_true,wr (x:=2*(t:Int)) (by omega),wr (x:=2*(t:Int)+1) (by omega),zD _ _ _ _ (by omega),Option.bind_some,wr (by omega)]
  rfl
 ·unfold gG
  dsimp only
  rw [zN (by omega)];rfl
theorem Xt (e:Int) (E:List (Int × Int)) (hE:E.length≤1000):aV (gH p s (partsOf p,e)) FUEL (jX E,0)=some (.brk (jX (E++jh (sW p s) p.sources.length))):=by
 have hb:=hp.b;have hsl:=hp.sl;have hll:=hp.ll
 have h1:=hs.on;have h2:=hs.badSource;have h3:=hs.badBus
 have key:=eP (body:=gH p s (partsOf p,e)) (fun t=>(jX (E++jh (sW p s) t),(t:Int))) p.sources.length (.brk (jX (E++jh (sW p s) p.sources.length))) (fuel_lt (by omega)) (fun t ht=> ?_) ?_
 ·rw [show E++jh (sW p s) 0=E from List.append_nil E]at key;exact key
 ·have hl:=(Cn (s:=s) (k:=0) hp).2.1 t (by omega)
  have hsb:=(hp.src t ht).bus
  unfold gH
  dsimp only
  rw [JR (by omega),cond_true,aH ⟨by omega,by omega⟩,Int.toNat_natCast,aH ⟨⟨by omega,by omega⟩,fun _=> ⟨by omega,by omega⟩,fun _=> ⟨by omega,by omega⟩⟩,wr (x:=(t:Int)+1) (by omega)]
  have ec:(bif (bif (at' s.on_ t)then(!(at' s.badSource t))else false)then(!(at' s.badBus (at' p.sources t).bus.toNat))else false)=bG p s t:=by
   unfold bG
   cases at' s.on_ t<;>cases at' s.badSource t<;>rfl
  rw [ec]
  rw [show jX (E++jh (sW p s) (t+1))=jX (E++(jh (sW p s) t++sW p s t))from rfl]
  cases hf:bG p s t with
  |false=>
   have:sW p s t=[]:=by unfold sW;rw [hf,if_neg (by decide)]
   rw [cond_false,this,List.append_nil];rfl
  |true=>
   have:sW p s t=[(-1,2*((p.buses.toNat+t:Nat):Int)),(2*((p.buses.toNat+t:Nat):Int)+1,2*(at' p.sources t).bus)]:=by unfold sW;rw [hf,if_pos rfl]
   rw [cond_true,this,Tk hp _ _ ht,Option.bind_some,wr (x:=2*((p.buses.toNat+t:Nat):Int)) (by omega),zD _ _ _ _ (by rw [List.length_append];omega),Option.bind_some]
   dsimp only
   rw [Cw hp _ _ hsb,Option.bind_some,wr (x:=2*((p.buses.toNat+t:Nat):Int)+1) (by omega),wr (x:=2*(at' p.sources t).bus) (by omega),zD _ _ _ _ (by rw [List.length_append,List.length_append,List.length_singleton];omega),Option.bind_some]
   simp only [List.append_assoc]
   rfl
 ·unfold gH
  dsimp only
  rw [zN (by omega)];rfl
theorem X8 (e:Int) {i:Nat} (hi:i<p.links.length) (E:List (Int × Int)) (hE:E.length≤2000):aV (dU p (partsOf p,e) (i:Int) (lx p i)) FUEL (jX E,0)=some (.brk (jX (E++[(2*(at' p.links i).a+1,2*lx p i),(2*lx p i+1,2*(at' p.links i).a),(2*(at' p.links i).b+1,2*lx p i),(2*lx p i+1,2*(at' p.links i).b)]))):=by
 have hb:=hp.b;have hsl:=hp.sl;have hll:=hp.ll
 have hli:=hp.lnk i hi;have ha:=hli.a;have hbb:=hli.b
 have hX:lx p i=((p.buses.toNat+p.sources.length+i:Nat):Int):=rfl
 have st: ∀(t:Nat) (F:List (Int × Int)) (w:Int),t<2→F.length≤2100→at' [(at' p.links i).a,(at' p.links i).b] t=w→0≤w∧w<p.buses→dU p (partsOf p,e) (i:Int) (lx p i) (jX F,(t:Int))=some (.next (jX (F++[(2*w+1,2*lx p i)]++[(2*lx p i+1,2*w)]),((t+1:Nat):Int))):=fun t F w ht hF hw hr=>by
  unfold dU
  dsimp only
  rw [JR (by omega),cond_true,aH ⟨by omega,by omega⟩,Int.toNat_natCast,Int.toNat_natCast,hw,Cw hp _ _ hr,Option.bind_some,wr (x:=2*w) (by omega),wr (x:=2*w+1) (by omega),wr (x:=2*lx p i) (by omega),zD _ _ _ _ (by omega),Option.bind_some]
  dsimp only
  rw [Cw hp _ _ hr,Option.bind_some,wr (x:=2*lx p i+1) (by omega),wr (x:=2*w) (by omega),zD _ _ _ _ (by rw [List.length_append,List.length_singleton];omega),Option.bind_some,wr (by omega)]
  rfl
 refine iP (n:=3) ?_ (by unfold FUEL;omega)
 have s0:dU p (partsOf p,e) (i:Int) (lx p i) (jX E,0)=_:=st 0 E _ (by omega) (by omega) rfl ha
 rw [bH,s0]
 show aV _ 2 (_,((1:Nat):Int))=_
 rw [bH,st 1 _ _ (by omega) (by simp only [List.length_append,List.length_singleton];omega) rfl hbb]
 show aV _ 1 (_,((2:Nat):Int))=_
 rw [bH]
 unfold dU
 dsimp only
 rw [zN (by omega),cond_false]
 simp only [List.append_assoc]
 rfl
theorem Xu (e:Int) (E:List (Int × Int)) (hE:E.length≤1100):aV (gF p s (partsOf p,e)) FUEL (jX E,0)=some (.brk (jX (E++jh (qb p s) p.links.length))):=by
 have hb:=hp.b;have hsl:=hp.sl;have hll:=hp.ll
 have h1:=hs.closed;have h2:=hs.badLink;have h3:=hs.badBus
 have key:=eP (body:=gF p s (partsOf p,e)) (fun t=>(jX (E++jh (qb p s) t),(t:Int))) p.links.length (.brk (jX (E++jh (qb p s) p.links.length))) (fuel_lt (by omega)) (fun t ht=> ?_) ?_
 ·rw [show E++jh (qb p s) 0=E from List.append_nil E]at key;exact key
 ·have hl:=(Cn (s:=s) (k:=0) hp).2.2.1 t (by omega)
  have hli:=hp.lnk t ht;have ha:=hli.a;have hbb:=hli.b
  unfold gF
  dsimp only
  rw [JR (by omega),cond_true,aH ⟨by omega,by omega⟩,Int.toNat_natCast,aH ⟨⟨by omega,by omega⟩,fun _=> ⟨by omega,by omega⟩,fun _=> ⟨by omega,by omega⟩,fun _=> ⟨by omega,by omega⟩⟩,wr (x:=(t:Int)+1) (by omega)]
  have ec:(bif (bif (bif (!(at' s.closed t))then true else(at' s.badLink t))then true else(at' s.badBus (at' p.links t).a.toNat))then true else(at' s.badBus (at' p.links t).b.toNat))= !bB p s t:=by
   unfold bB
   cases at' s.closed t<;>cases at' s.badLink t<;>cases at' s.badBus (at' p.links t).a.toNat<;>cases at' s.badBus (at' p.links t).b.toNat<;>rfl
  rw [ec]
  rw [show jX (E++jh (qb p s) (t+1))=jX (E++(jh (qb p s) t++qb p s t))from rfl]
  cases hf:bB p s t with
  |false=>
   rw [Bool.not_false,cond_true]
   unfold qb
   rw [hf,if_neg (by decide),List.append_nil];rfl
  |true=>
   have hL3:=X8 hp hs e ht (E++jh (qb p s) t) (by rw [List.length_append];omega)
   rw [Bool.not_true,cond_false,R9 hp _ _ ht,Option.bind_some]
   have hL3:aV (dU p (partsOf p,e) (t:Int) ((p.buses.toNat+p.sources.length+t:Nat):Int)) FUEL (jX (E++jh (qb p s) t),0)=_:=hL3
   rw [hL3,Option.bind_some,List.append_assoc]
   have:qb p s t=[(2*(at' p.links t).a+1,2*lx p t),(2*lx p t+1,2*(at' p.links t).a),(2*(at' p.links t).b+1,2*lx p t),(2*lx p t+1,2*(at' p.links t).b)]:=by unfold qb;rw [hf,if_pos rfl]
   rw [this];rfl
 ·unfold gF
  dsimp only
  rw [zN (by omega)];rfl
include hk
theorem WB (e:Int) (E:List (Int × Int)) (hE:E.length≤1300):aV (gD p s (k:Int) (partsOf p,e)) FUEL (jX E,0)=some (.brk (jX (E++jh (sV p s k) 2))):=by
 have hb:=hp.b;have hsl:=hp.sl;have hll:=hp.ll
 have h3:=hs.badBus
 have hr:=hp.rck k hk;have r0:=hr.e0;have r1:=hr.e1
 have key:=eP (body:=gD p s (k:Int) (partsOf p,e)) (fun t=>(jX (E++jh (sV p s k) t),(t:Int))) 2 (.brk (jX (E++jh (sV p s k) 2))) (fuel_lt (by omega)) (fun t ht=> ?_) ?_
 ·rw [show E++jh (sV p s k) 0=E from List.append_nil E]at key;exact key
 ·have hl:=(Cn (s:=s) (k:=k) hp).2.2.2 t (by omega)
  have hfr: -1≤fd p k t∧fd p k t<p.buses:=by
   match t,ht with
   |0,_=>exact⟨by show -1≤(at' p.racks k).feeds.e0;omega,r0.2⟩
   |1,_=>exact r1
  unfold gD
  dsimp only
  rw [JR (by omega),cond_true,aH ⟨by omega,by omega⟩,Int.toNat_natCast,Int.toNat_natCast,show at' [(at' p.racks k).feeds.e0,(at' p.racks k).feeds.e1] t=fd p k t from rfl,wr (x:=(t:Int)+1) (by omega)]
  rw [show jX (E++jh (sV p s k) (t+1))=jX (E++(jh (sV p s k) t++sV p s k t))from rfl]
  by_cases h0:0≤fd p k t
  ·rw [decide_eq_true h0,cond_true,aH (fun _=> ⟨h0,by omega⟩)]
   cases hbd:at' s.badBus (fd p k t).toNat with
   |true=>
    have:sV p s k t=[]:=by unfold sV;rw [if_neg (fun h=>by rw [hbd]at h;cases h.2)]
    rw [this,List.append_nil];rfl
   |false=>
    have:sV p s k t=[(2*fd p k t+1, -2)]:=by unfold sV;rw [if_pos ⟨h0,hbd⟩]
    rw [this,Bool.not_false,cond_true,Cw hp _ _ ⟨h0,hfr.2⟩,Option.bind_some,wr (x:=2*fd p k t) (by omega),wr (x:=2*fd p k t+1) (by omega),zD _ _ _ _ (by rw [List.length_append];omega),Option.bind_some,List.append_assoc]
    rfl
  ·have:sV p s k t=[]:=by unfold sV;rw [if_neg (fun h=>h0 h.1)]
   rw [this,List.append_nil,decide_eq_false h0,cond_false,cond_false,aH (fun h=>absurd h (by decide))]
   rfl
 ·unfold gD
  dsimp only
  rw [zN (by omega)];rfl
theorem Om:jP p s (k:Int)=some ⟨partsOf p,⟨jX (ay p s k),[]⟩⟩:=by
 obtain⟨a1,a2,a3,a4⟩:=Cn (s:=s) (k:=k) hp
 have a2:=a2 _ (Nat.le_refl _);have a3:=a3 _ (Nat.le_refl _)
 unfold jP
 rw [parts_eq hp,Option.bind_some,XG hp hs 0,Option.bind_some]
 dsimp only
 rw [Xt hp hs 0 _ (by omega),Option.bind_some]
 dsimp only
 rw [Xu hp hs 0 _ (by rw [List.length_append];omega),Option.bind_some]
 dsimp only
 rw [aH ⟨by omega,by omega⟩,WB hp hs hk 0 _ (by rw [List.length_append,List.length_append];omega),Option.bind_some]
 rfl
end
theorem mS {p:au} {s:State} {j:Nat} {u v:Int} (h:(u,v)∈sW p s j):bG p s j=true∧(u= -1∧v=2*((p.buses.toNat+j:Nat):Int)∨u=2*((p.buses.toNat+j:Nat):Int)+1∧v=2*(at' p.sources j).bus):=by
 unfold sW at h
 by_cases c:bG p s j=true
 ·rw [if_pos c]at h
  refine⟨c, ?_⟩
  rcases List.mem_cons.1 h with h|h
  ·cases h;exact .inl ⟨rfl,rfl⟩
  ·rw [List.mem_singleton]at h;cases h;exact .inr ⟨rfl,rfl⟩
 ·rw [if_neg c]at h;cases h
theorem mL {p:au} {s:State} {i:Nat} {u v:Int} (h:(u,v)∈qb p s i):bB p s i=true∧ ∃w,(w=(at' p.links i).a∨w=(at' p.links i).b)∧(u=2*w+1∧v=2*lx p i∨u=2*lx p i+1∧v=2*w):=by
 unfold qb at h
 by_cases c:bB p s i=true
 ·rw [if_pos c]at h
  refine⟨c, ?_⟩
  rcases List.mem_cons.1 h with h|h
  ·cases h;exact⟨_, .inl rfl, .inl ⟨rfl,rfl⟩⟩
  ·rcases List.mem_cons.1 h with h|h
   ·cases h;exact⟨_, .inl rfl, .inr ⟨rfl,rfl⟩⟩
   ·rcases List.mem_cons.1 h with h|h
    ·cases h;exact⟨_, .inr rfl, .inl ⟨rfl,rfl⟩⟩
    ·rw [List.mem_singleton]at h;cases h;exact⟨_, .inr rfl, .inr ⟨rfl,rfl⟩⟩
 ·rw [if_neg c]at h;cases h
theorem mR {p:au} {s:State} {k t:Nat} {u v:Int} (h:(u,v)∈sV p s k t):0≤fd p k t∧at' s.badBus (fd p k t).toNat=false∧u=2*fd p k t+1∧v= -2:=by
 unfold sV at h
 by_cases c:0≤fd p k t∧at' s.badBus (fd p k t).toNat=false
 ·rw [if_pos c]at h
  rw [List.mem_singleton]at h;cases h
  exact⟨c.1,c.2,rfl,rfl⟩
 ·rw [if_neg c]at h;cases h
theorem mP {i:Nat} {u v:Int} (h:(u,v)∈DL i):u=2*(i:Int)∧v=2*(i:Int)+1:=by
 unfold DL at h
 rw [List.mem_singleton]at h;cases h;exact⟨rfl,rfl⟩
section
variable {p:au} {s:State} (hp:VP p) {k:Nat} (hk:k<p.racks.length)
include hp
theorem Dl (i:Nat):lx p i=((p.buses.toNat+p.sources.length+i:Nat):Int):=rfl
theorem TJ (n:Nat):(jh DL n).Nodup:=sH (fun i _=>by simp [DL]) fun i j x _ _ h1 h2=>by
 obtain⟨u,v⟩:=x
 have:=mP h1;have:=mP h2;omega
theorem Rh (n:Nat) (hn:n≤p.sources.length):(jh (sW p s) n).Nodup:=by
 have hb:=hp.b
 refine sH (fun i hi=> ?_) fun i j x hi hj h1 h2=> ?_
 ·unfold sW
  split
  ·rw [List.nodup_cons]
   refine⟨fun h=> ?_,by simp⟩
   rw [List.mem_singleton,Prod.mk.injEq]at h;omega
  ·simp
 ·obtain⟨u,v⟩:=x
  have:=(hp.src i (by omega)).bus;have:=(hp.src j (by omega)).bus
  rcases(mS h1).2 with a|a<;>rcases(mS h2).2 with b|b<;>omega
theorem Sj (n:Nat) (hn:n≤p.links.length):(jh (qb p s) n).Nodup:=by
 have hb:=hp.b
 refine sH (fun i hi=> ?_) fun i j x hi hj h1 h2=> ?_
 ·have hl:=hp.lnk i (by omega);have ha:=hl.a;have hbb:=hl.b;have hab:=hl.ab
  have hx:=Dl hp i
  unfold qb
  split
  ·rw [List.nodup_cons,List.nodup_cons,List.nodup_cons]
   simp only [List.mem_cons,List.not_mem_nil,or_false,Prod.mk.injEq,List.nodup_cons,List.nodup_nil,not_false_eq_true,and_true]
   omega
  ·simp
 ·obtain⟨u,v⟩:=x
  have l1:=hp.lnk i (by omega);have l2:=hp.lnk j (by omega)
  have a1:=l1.a;have b1:=l1.b;have a2:=l2.a;have b2:=l2.b
  have hx:=Dl hp i;have hy:=Dl hp j
  obtain⟨w,hw,c⟩:=(mL h1).2
  obtain⟨z,hz,d⟩:=(mL h2).2
  rcases c with c|c<;>rcases d with d|d<;>rcases hw with rfl|rfl<;>rcases hz with rfl|rfl<;>omega
include hk
theorem M0 {t:Nat} (ht:t<2): -1≤fd p k t∧fd p k t<p.buses:=by
 have hr:=hp.rck k hk;have r0:=hr.e0;have r1:=hr.e1
 match t,ht with
 |0,_=>exact⟨by show -1≤(at' p.racks k).feeds.e0;omega,r0.2⟩
 |1,_=>exact r1
theorem Sy:(jh (sV p s k) 2).Nodup:=by
 have hr:=hp.rck k hk
 refine sH (fun t _=>by unfold sV;split<;>simp) fun i j x hi hj h1 h2=> ?_
 obtain⟨u,v⟩:=x
 have a:=mR h1;have b:=mR h2
 have e:fd p k i=fd p k j:=by omega
 have hne:fd p k 0≠fd p k 1:=hr.ne
 match i,j,hi,hj with
 |0,0,_,_=>rfl
 |1,1,_,_=>rfl
 |0,1,_,_=>exact absurd e hne
 |1,0,_,_=>exact absurd e.symm hne
theorem Fj {u v:Int} (h:(u,v)∈ay p s k):(∃i:Nat,i<(partsOf p).length∧u=2*(i:Int)∧v=2*(i:Int)+1)∨
  (∃j:Nat,j<p.sources.length∧bG p s j=true∧(u= -1∧v=2*((p.buses.toNat+j:Nat):Int)∨u=2*((p.buses.toNat+j:Nat):Int)+1∧v=2*(at' p.sources j).bus))∨
  (∃i:Nat,i<p.links.length∧bB p s i=true∧ ∃w,(w=(at' p.links i).a∨w=(at' p.links i).b)∧(u=2*w+1∧v=2*lx p i∨u=2*lx p i+1∧v=2*w))∨
  ∃t:Nat,t<2∧0≤fd p k t∧at' s.badBus (fd p k t).toNat=false∧u=2*fd p k t+1∧v= -2:=by
 unfold ay at h
 rw [List.mem_append,List.mem_append,List.mem_append,fO,fO,fO,fO]at h
 rcases h with((⟨i,hi,h⟩|⟨j,hj,h⟩)|⟨i,hi,h⟩)|⟨t,ht,h⟩
 ·exact .inl ⟨i,hi,mP h⟩
 ·exact .inr (.inl ⟨j,hj,mS h⟩)
 ·exact .inr (.inr (.inl ⟨i,hi,mL h⟩))
 ·exact .inr (.inr (.inr ⟨t,ht,mR h⟩))
theorem Vv:(ay p s k).Nodup:=by
 have hb:=hp.b
 unfold ay
 rw [List.nodup_append,List.nodup_append,List.nodup_append]
 refine⟨⟨⟨TJ hp _,Rh hp _ (Nat.le_refl _),fun x hx y hy e=> ?_⟩,Sj hp _ (Nat.le_refl _),fun x hx y hy e=> ?_⟩,Sy hp hk,fun x hx y hy e=> ?_⟩
 ·subst e;obtain⟨u,v⟩:=x
  obtain⟨i,hi,h1⟩:=fO.1 hx;obtain⟨j,hj,h2⟩:=fO.1 hy
  have:=(hp.src j hj).bus
  have a:=mP h1
  rcases(mS h2).2 with b|b<;>omega
 ·subst e;obtain⟨u,v⟩:=x
  obtain⟨i,hi,h2⟩:=fO.1 hy
  have l2:=hp.lnk i hi;have a2:=l2.a;have b2:=l2.b
  have hx':=Dl hp i
  obtain⟨w,hw,c⟩:=(mL h2).2
  have hw:0≤w∧w<p.buses:=by rcases hw with rfl|rfl<;>omega
  rcases List.mem_append.1 hx with hx|hx
  ·obtain⟨j,hj,h1⟩:=fO.1 hx
   have a:=mP h1
   rcases c with c|c<;>omega
  ·obtain⟨j,hj,h1⟩:=fO.1 hx
   have:=(hp.src j hj).bus
   rcases(mS h1).2 with b|b<;>rcases c with c|c<;>omega
 ·subst e;obtain⟨u,v⟩:=x
  obtain⟨t,ht,h2⟩:=fO.1 hy
  have r:=mR h2
  rcases List.mem_append.1 hx with hx|hx
  ·rcases List.mem_append.1 hx with hx|hx
   ·obtain⟨j,hj,h1⟩:=fO.1 hx
    have a:=mP h1
    omega
   ·obtain⟨j,hj,h1⟩:=fO.1 hx
    have:=(hp.src j hj).bus
    rcases(mS h1).2 with b|b<;>omega
  ·obtain⟨i,hi,h1⟩:=fO.1 hx
   have l2:=hp.lnk i hi;have a2:=l2.a;have b2:=l2.b
   have hx':=Dl hp i
   obtain⟨w,hw,c⟩:=(mL h1).2
   have hw:0≤w∧w<p.buses:=by rcases hw with rfl|rfl<;>omega
   rcases c with c|c<;>omega
theorem OZ:NB (partsOf p).length (fun u v=>(u,v)∈ay p s k):=by
 have hb:=hp.b
 have hP:=dR (p:=p)
 have key: ∀u v,(u,v)∈ay p s k→(∃i:Nat,i<(partsOf p).length∧u=2*(i:Int)∧v=2*(i:Int)+1)∨(u= -1∧ ∃j:Nat,j<(partsOf p).length∧v=2*(j:Int))∨(∃i j:Nat,i<(partsOf p).length∧j<(partsOf p).length∧u=2*(i:Int)+1∧v=2*(j:Int))∨ ∃i:Nat,i<(partsOf p).length∧u=2*(i:Int)+1∧v= -2:=fun u v h=>by
  rcases Fj hp hk h with⟨i,hi,h⟩|⟨j,hj,_,h|h⟩|⟨i,hi,_,w,hw,h⟩|⟨t,ht,h0,_,h⟩
  ·exact .inl ⟨i,hi,h⟩
  ·exact .inr (.inl ⟨h.1,_,by omega,h.2⟩)
  ·have:=(hp.src j hj).bus
   exact .inr (.inr (.inl ⟨p.buses.toNat+j,(at' p.sources j).bus.toNat,by omega,by omega,h.1,by omega⟩))
  ·have l2:=hp.lnk i hi;have a2:=l2.a;have b2:=l2.b
   have hx':=Dl hp i
   have hw:0≤w∧w<p.buses:=by rcases hw with rfl|rfl<;>omega
   rcases h with h|h
   ·exact .inr (.inr (.inl ⟨w.toNat,p.buses.toNat+p.sources.length+i,by omega,by omega,by omega,by omega⟩))
   ·exact .inr (.inr (.inl ⟨p.buses.toNat+p.sources.length+i,w.toNat,by omega,by omega,by omega,by omega⟩))
  ·have:=M0 hp hk ht
   exact .inr (.inr (.inr ⟨(fd p k t).toNat,by omega,by omega,h.2⟩))
 refine⟨fun i v h=> ?_,fun u i h=> ?_,fun u h=> ?_,fun v h=> ?_,fun i v h=> ?_⟩
 ·rcases key _ _ h with⟨j,hj,h⟩|⟨h,_⟩|⟨a,b,_,_,h,_⟩|⟨a,_,h,_⟩<;>omega
 ·rcases key _ _ h with⟨j,hj,h⟩|⟨_,b,_,h⟩|⟨a,b,_,_,_,h⟩|⟨a,_,_,h⟩<;>omega
 ·rcases key _ _ h with⟨j,hj,h⟩|⟨_,b,_,h⟩|⟨a,b,_,_,_,h⟩|⟨a,_,_,h⟩<;>omega
 ·rcases key _ _ h with⟨j,hj,h⟩|⟨_,b,hb',h⟩|⟨a,b,_,_,h,_⟩|⟨a,_,h,_⟩
  ·omega
  ·exact⟨b,hb',h⟩
  ·omega
  ·omega
 ·rcases key _ _ h with⟨j,hj,h⟩|⟨h,_⟩|⟨a,b,_,hb',_,h⟩|⟨a,_,_,h⟩
  ·omega
  ·omega
  ·exact .inr ⟨b,hb',h⟩
  ·exact .inl h
theorem VT:GI (2*(partsOf p).length+2) (fun u v=>(u,v)∈ay p s k) (jX (ay p s k)) []:=by
 have hb:=hp.b
 have hP:=dR (p:=p)
 refine⟨fun u=>Pg (Vv hp hk) u,fun u=>List.nodup_nil,fun u v=> ?_,fun u v _ h=>(by cases h),List.nodup_nil,fun u v h=> ?_⟩
 ·rw [Uj]
  exact⟨.inl,fun h=>h.elim id fun h=>(by cases h)⟩
 ·rcases Fj hp hk h with⟨i,hi,h⟩|⟨j,hj,_,h|h⟩|⟨i,hi,_,w,hw,h⟩|⟨t,ht,h0,_,h⟩
  ·omega
  ·omega
  ·have:=(hp.src j hj).bus
   omega
  ·have l2:=hp.lnk i hi;have a2:=l2.a;have b2:=l2.b
   have hx':=Dl hp i
   have hw:0≤w∧w<p.buses:=by rcases hw with rfl|rfl<;>omega
   rcases h with h|h<;>omega
  ·have:=M0 hp hk ht
   omega
end
theorem EX {φ:Int→Int} {a:Int}: ∀{l:List Int},(∀b∈l,φ a≤φ b)→qB φ a l≤0
 |[],_=>Int.le_refl 0
 |b::l,h=>by
  have:=h b List.mem_cons_self
  have:=EX fun x hx=>h x (List.mem_cons_of_mem b hx)
  rw [qB];omega
theorem JS {φ:Int→Int}: ∀{m:List (Int × List Int)},(∀x∈m,qB φ x.1 x.2≤0)→ET φ m≤0
 |[],_=>Int.le_refl 0
 |(a,l)::m,h=>by
  have h1:=h _ List.mem_cons_self
  have h2:=JS fun x hx=>h x (List.mem_cons_of_mem (a,l) hx)
  dsimp only at h1
  rw [ET];omega
theorem OV {φ:Int→Int} {c:Int}: ∀{m:List (Int × List Int)},(m.map (·.1)).Nodup→(∀x∈m,x.1≠c→qB φ x.1 x.2≤0)→(∀x∈m,qB φ x.1 x.2≤1)→ET φ m≤1
 |[],_,_,_=>by show(0:Int)≤1;omega
 |(a,l)::m,hn,h,h1=>by
  rw [List.map_cons,List.nodup_cons]at hn
  have g1:=h1 _ List.mem_cons_self
  dsimp only at g1
  rw [ET]
  by_cases e:a=c
  ·have:=JS (φ:=φ) (m:=m) fun x hx=>h x (List.mem_cons_of_mem _ hx) fun q=>hn.1 (List.mem_map.2 ⟨x,hx,q.trans e.symm⟩)
   omega
  ·have g0:=h _ List.mem_cons_self e
   have:=OV (c:=c) hn.2 (fun x hx=>h x (List.mem_cons_of_mem _ hx)) fun x hx=>h1 x (List.mem_cons_of_mem _ hx)
   dsimp only at g0
   omega
structure Yt (p:au) (s s':State) (ix:Nat):Prop where
 src: ∀j,j<p.sources.length→p.buses.toNat+j≠ix→(at' p.sources j).bus.toNat≠ix→bG p s j=true→bG p s' j=true
 lnk: ∀j,j<p.links.length→p.buses.toNat+p.sources.length+j≠ix→(at' p.links j).a.toNat≠ix→(at' p.links j).b.toNat≠ix→bB p s j=true→bB p s' j=true
 live: ∀b,b<p.buses.toNat→mK p s' b→b≠ix
def Qn (p:au) (s s':State) (ix i:Nat):Prop:=
 (i<p.buses.toNat∧mK p s' i)∨(∃j,j<p.sources.length∧i=p.buses.toNat+j∧i≠ix∧bG p s j=true)∨
 ∃j,j<p.links.length∧i=p.buses.toNat+p.sources.length+j∧i≠ix∧bB p s j=true∧(mK p s' (at' p.links j).a.toNat∨mK p s' (at' p.links j).b.toNat)
def Qp (p:au) (s s':State) (ix:Nat) (u:Int):Prop:=u= -1∨(∃i:Nat,u=2*(i:Int)∧(i=ix∨Qn p s s' ix i))∨ ∃i:Nat,u=2*(i:Int)+1∧Qn p s s' ix i
def Fd (p:au) (s:State) (k:Nat):Prop:= ∃t,t<2∧0≤fd p k t∧mK p s (fd p k t).toNat
section
variable {p:au} {s s':State} (hp:VP p) {k:Nat} (hk:k<p.racks.length)
include hp hk
theorem JG {ix:Nat} (hB:Yt p s s' ix) (hu: ¬ Fd p s' k) {u v:Int} (h:(u,v)∈ay p s k) (hc:u≠2*(ix:Int)) (hq:Qp p s s' ix u):Qp p s s' ix v:=by
 have hb:=hp.b
 have odd: ∀i:Nat,u=2*(i:Int)+1→Qn p s s' ix i:=fun i e=>by
  rcases hq with q|⟨j,q,_⟩|⟨j,q,h⟩
  ·omega
  ·omega
  ·have:j=i:=by omega
   rw [←this];exact h
 have bus: ∀i:Nat,i<p.buses.toNat→Qn p s s' ix i→mK p s' i:=fun i hi h=>by
  rcases h with h|⟨j,_,q,_⟩|⟨j,_,q,_⟩
  ·exact h.2
  ·omega
  ·omega
 rcases Fj hp hk h with⟨i,hi,h1,h2⟩|⟨j,hj,hf,⟨h1,h2⟩|⟨h1,h2⟩⟩|⟨i,hi,hcb,w,hw,h⟩|⟨t,ht,h0,hbd,h1,h2⟩
 ·rcases hq with q|⟨j,q,h⟩|⟨j,q,_⟩
  ·omega
  ·have e:j=i:=by omega
   subst e
   rcases h with h|h
   ·exact absurd (h ▸ h1) hc
   ·exact .inr (.inr ⟨j,h2,h⟩)
  ·omega
 ·refine .inr (.inl ⟨_,h2, ?_⟩)
  by_cases e:p.buses.toNat+j=ix
  ·exact .inl e
  ·exact .inr (.inr (.inl ⟨j,hj,rfl,e,hf⟩))
 ·have hbu:=(hp.src j hj).bus
  have hQ:=odd _ h1
  refine .inr (.inl ⟨(at' p.sources j).bus.toNat,by omega, ?_⟩)
  by_cases e:(at' p.sources j).bus.toNat=ix
  ·exact .inl e
  ·right;left
   refine⟨by omega, ?_⟩
   have hne:p.buses.toNat+j≠ix:=by
    rcases hQ with q|⟨m,_,q,q2,_⟩|⟨m,_,q,_⟩
    ·omega
    ·exact q2
    ·omega
   have hf':=hB.src j hj hne e hf
   refine⟨?_,j,hj,hf',[], .nil⟩
   unfold bG at hf'
   simp only [Bool.and_eq_true,Bool.not_eq_true']at hf'
   exact hf'.2
 ·have l2:=hp.lnk i hi;have a2:=l2.a;have b2:=l2.b
  have hx:=Dl hp i
  have hwr:0≤w∧w<p.buses:=by rcases hw with rfl|rfl<;>omega
  rcases h with⟨h1,h2⟩|⟨h1,h2⟩
  ·have hL:=bus w.toNat (by omega) (odd w.toNat (by omega))
   refine .inr (.inl ⟨p.buses.toNat+p.sources.length+i,by omega, ?_⟩)
   by_cases e:p.buses.toNat+p.sources.length+i=ix
   ·exact .inl e
   ·refine .inr (.inr (.inr ⟨i,hi,rfl,e,hcb, ?_⟩))
    rcases hw with rfl|rfl
    ·exact .inl hL
    ·exact .inr hL
  ·have hQ:=odd (p.buses.toNat+p.sources.length+i) (by omega)
   have hQ2:p.buses.toNat+p.sources.length+i≠ix∧(mK p s' (at' p.links i).a.toNat∨mK p s' (at' p.links i).b.toNat):=by
    rcases hQ with q|⟨m,_,q,_⟩|⟨m,_,q,q2,_,q3⟩
    ·omega
    ·omega
    ·have:m=i:=by omega
     subst this;exact⟨q2,q3⟩
   obtain⟨hxi,hL⟩:=hQ2
   refine .inr (.inl ⟨w.toNat,by omega, ?_⟩)
   by_cases e:w.toNat=ix
   ·exact .inl e
   ·refine .inr (.inl ⟨by omega, ?_⟩)
    have ext: ∀x y:Nat,mK p s' x→bB p s' i=true→((at' p.links i).a.toNat=x∧(at' p.links i).b.toNat=y∨(at' p.links i).b.toNat=x∧(at' p.links i).a.toNat=y)→mK p s' y:=fun x y hl hc he=>by
     obtain⟨_,m,hm,hf,l,wk⟩:=hl
     refine⟨?_,m,hm,hf,_, .snoc wk hi hc he⟩
     unfold bB at hc
     simp only [Bool.and_eq_true,Bool.not_eq_true']at hc
     rcases he with⟨_,e⟩|⟨_,e⟩
     ·rw [←e];exact hc.2
     ·rw [←e];exact hc.1.2
    rcases hw with rfl|rfl<;>rcases hL with hL|hL
    ·exact hL
    ·exact ext _ _ hL (hB.lnk i hi hxi e (hB.live _ (by omega) hL) hcb) (.inr ⟨rfl,rfl⟩)
    ·exact ext _ _ hL (hB.lnk i hi hxi (hB.live _ (by omega) hL) e hcb) (.inl ⟨rfl,rfl⟩)
    ·exact hL
 ·have:=M0 hp hk ht
  have hL:=bus (fd p k t).toNat (by omega) (odd (fd p k t).toNat (by omega))
  exact absurd ⟨t,ht,h0,hL⟩ hu
theorem Td {ix:Nat} (hB:Yt p s s' ix) (hu: ¬ Fd p s' k) {e0 e1:List (Int × List Int)} {K:Nat} (g:GI (2*(partsOf p).length+2) (fun u v=>(u,v)∈ay p s k) e0 e1) (fl:FL K e1):K≤1:=by
 classical
 have h:=fl fun u=>if Qp p s s' ix u then 1 else 0
 have q1:Qp p s s' ix (-1):= .inl rfl
 have q2: ¬ Qp p s s' ix (-2):=fun q=>by
  rcases q with q|⟨i,q,_⟩|⟨i,q,_⟩<;>omega
 rw [if_pos q1,if_neg q2]at h
 have hst: ∀x∈e1,∀b∈x.2,(x.1,b)∈ay p s k:=fun x hx b hb=>by
  rw [←tO g.keys hx]at hb
  exact(g.base _ _).2 (.inr hb)
 have hle:=OV (φ:=fun u=>if Qp p s s' ix u then(1:Int)else 0) (c:=2*(ix:Int)) g.keys (fun x hx hc=>EX fun b hb=>by
  by_cases c1:Qp p s s' ix x.1
  ·rw [if_pos c1,if_pos (JG hp hk hB hu (hst x hx b hb) hc c1)];exact Int.le_refl _
  ·rw [if_neg c1];split<;>decide) (fun x hx=>by
  by_cases c:x.1=2*(ix:Int)
  ·have hl1:=OL (c:=2*(ix:Int)+1) (g.Wj x hx) fun b hb=>(OZ hp hk).ev ix b (c ▸ hst x hx b hb)
   match hxx:x.2,hl1 with
   |[],_=>exact Int.zero_le_ofNat 1
   |[b],_=>rw [qB,qB];split<;>split<;>decide
  ·have:=EX (φ:=fun u=>if Qp p s s' ix u then(1:Int)else 0) (a:=x.1) (l:=x.2) fun b hb=>by
    by_cases c1:Qp p s s' ix x.1
    ·rw [if_pos c1,if_pos (JG hp hk hB hu (hst x hx b hb) c c1)];exact Int.le_refl _
    ·rw [if_neg c1];split<;>decide
   omega)
 omega
theorem Yt.self {ix:Nat} (h:(partsOf p).length≤ix):Yt p s s ix:=by
 have hP:=dR (p:=p)
 exact⟨fun _ _ _ _ h=>h,fun _ _ _ _ _ h=>h,fun b hb _=>by omega⟩
theorem Ty (hu: ¬ Fd p s k) {e0 e1:List (Int × List Int)} {K:Nat} (g:GI (2*(partsOf p).length+2) (fun u v=>(u,v)∈ay p s k) e0 e1) (fl:FL K e1):K=0:=by
 classical
 have hB:Yt p s s (partsOf p).length:=Yt.self hp hk (Nat.le_refl _)
 have h:=fl fun u=>if Qp p s s (partsOf p).length u then 1 else 0
 have q1:Qp p s s (partsOf p).length (-1):= .inl rfl
 have q2: ¬ Qp p s s (partsOf p).length (-2):=fun q=>by
  rcases q with q|⟨i,q,_⟩|⟨i,q,_⟩<;>omega
 rw [if_pos q1,if_neg q2]at h
 have hle:=JS (φ:=fun u=>if Qp p s s (partsOf p).length u then(1:Int)else 0) (m:=e1) fun x hx=>EX fun b hb=>by
  rw [←tO g.keys hx]at hb
  have hm:=(g.base _ _).2 (.inr hb)
  have hc:x.1≠2*(((partsOf p).length:Nat):Int):=by
   have:=(g.rng _ _ hm).1;omega
  by_cases c1:Qp p s s (partsOf p).length x.1
  ·rw [if_pos c1,if_pos (JG hp hk hB hu hm hc c1)];exact Int.le_refl _
  ·rw [if_neg c1];split<;>decide
 omega
theorem Pf {e0:List (Int × List Int)} (g:GI (2*(partsOf p).length+2) (fun u v=>(u,v)∈ay p s k) e0 []) (hc:CLO e0 []): ¬ Fd p s k:=by
 have hb:=hp.b
 have hP:=dR (p:=p)
 obtain⟨V,v1,v2,v3⟩:=hc
 have st: ∀u w,(u,w)∈ay p s k→V u=true→V w=true:=fun u w hm hu=>v3 u w hu (.inl (((g.base u w).1 hm).elim id fun h=>(by cases h)))
 have mp: ∀i,i<(partsOf p).length→((2*(i:Int),2*(i:Int)+1)∈ay p s k):=fun i hi=>by
  unfold ay
  rw [List.mem_append,List.mem_append,List.mem_append]
  exact .inl (.inl (.inl (fO.2 ⟨i,hi,by simp [DL]⟩)))
 have ms: ∀j x,j<p.sources.length→x∈sW p s j→x∈ay p s k:=fun j x hj hx=>by
  unfold ay
  rw [List.mem_append,List.mem_append,List.mem_append]
  exact .inl (.inl (.inr (fO.2 ⟨j,hj,hx⟩)))
 have ml: ∀j x,j<p.links.length→x∈qb p s j→x∈ay p s k:=fun j x hj hx=>by
  unfold ay
  rw [List.mem_append,List.mem_append,List.mem_append]
  exact .inl (.inr (fO.2 ⟨j,hj,hx⟩))
 rintro ⟨t,ht,h0,hbd,j,hj,hf,l,wk⟩
 have hbu:=(hp.src j hj).bus
 have hS:sW p s j=[(-1,2*((p.buses.toNat+j:Nat):Int)),(2*((p.buses.toNat+j:Nat):Int)+1,2*(at' p.sources j).bus)]:=by unfold sW;rw [if_pos hf]
 have a1:=st _ _ (ms j (-1,2*((p.buses.toNat+j:Nat):Int)) hj (by rw [hS];exact List.mem_cons_self)) v1
 have a2:=st _ _ (mp (p.buses.toNat+j) (by omega)) a1
 have a3:=st _ _ (ms j (2*((p.buses.toNat+j:Nat):Int)+1,2*(at' p.sources j).bus) hj (by rw [hS];exact List.mem_cons_of_mem _ List.mem_cons_self)) a2
 have walk: ∀l (b:Nat),Wk p s (at' p.sources j).bus.toNat l b→b<p.buses.toNat∧V (2*(b:Int)+1)=true:=fun l b wk=>by
  induction wk with
  |nil=>
   refine⟨by omega,st _ _ (mp _ (by omega)) ?_⟩
   rw [show(((at' p.sources j).bus.toNat:Nat):Int)=(at' p.sources j).bus by omega];exact a3
  |snoc wk' hi hc he ih=>
   rename_i l' x y i
   obtain⟨ih1,ih2⟩:=ih
   have l2:=hp.lnk i hi;have la:=l2.a;have lb:=l2.b
   have hx:=Dl hp i
   have hL:qb p s i=[(2*(at' p.links i).a+1,2*lx p i),(2*lx p i+1,2*(at' p.links i).a),(2*(at' p.links i).b+1,2*lx p i),(2*lx p i+1,2*(at' p.links i).b)]:=by unfold qb;rw [if_pos hc]
   have go: ∀q r:Int,q=(x:Int)→r=(y:Int)→r<p.buses→(2*q+1,2*lx p i)∈qb p s i→(2*lx p i+1,2*r)∈qb p s i→y<p.buses.toNat∧V (2*(y:Int)+1)=true:=fun q r e1 e2 hr m1 m2=>by
    subst e1 e2
    have b1:=st _ _ (ml i _ hi m1) ih2
    have b2:=st _ _ (mp (p.buses.toNat+p.sources.length+i) (by omega)) b1
    have b3:=st _ _ (ml i _ hi m2) b2
    exact⟨by omega,st _ _ (mp y (by omega)) b3⟩
   rcases he with⟨e1,e2⟩|⟨e1,e2⟩
   ·exact go (at' p.links i).a (at' p.links i).b (by omega) (by omega) lb.2 (by rw [hL];simp) (by rw [hL];simp)
   ·exact go (at' p.links i).b (at' p.links i).a (by omega) (by omega) la.2 (by rw [hL];simp) (by rw [hL];simp)
 obtain⟨_,w2⟩:=walk l _ wk
 have:=st (2*fd p k t+1) (-2) (by
  unfold ay
  rw [List.mem_append]
  exact .inr (fO.2 ⟨t,ht,by unfold sV;rw [if_pos ⟨h0,hbd⟩];simp⟩)) (by rw [show(((fd p k t).toNat:Nat):Int)=fd p k t by omega]at w2;exact w2)
 rw [v2]at this;cases this
end
section
variable {p:au} {s:State} (hp:VP p) (hs:VS p s) {k:Nat} (hk:k<p.racks.length)
include hp hs hk
theorem Di:Hy p s k=true↔Fd p s k:=by
 have hr:=hp.rck k hk;have r0:=hr.e0;have r1:=hr.e1
 unfold Hy HZ
 rw [Bool.or_eq_true]
 dsimp only
 constructor
 ·rintro (h|h)
  ·exact⟨0,by omega,r0.1,(zn hp hs (b:=(at' p.racks k).feeds.e0.toNat) (by omega)).1 h⟩
  ·by_cases h0:0≤(at' p.racks k).feeds.e1
   ·rw [decide_eq_true h0,cond_true]at h
    exact⟨1,by omega,h0,(zn hp hs (b:=(at' p.racks k).feeds.e1.toNat) (by omega)).1 h⟩
   ·rw [decide_eq_false h0,cond_false]at h;cases h
 ·rintro ⟨t,ht,h0,hL⟩
  match t,ht with
  |0,_=>exact .inl ((zn hp hs (b:=(at' p.racks k).feeds.e0.toNat) (by omega)).2 hL)
  |1,_=>
   have h0:0≤(at' p.racks k).feeds.e1:=h0
   rw [decide_eq_true h0,cond_true]
   exact .inr ((zn hp hs (b:=(at' p.racks k).feeds.e1.toNat) (by omega)).2 hL)
omit hk in
theorem Q8 {x:Part} (hx:Tp p x): ∃ix,Yt p s (lJ s x true) ix:=by
 have hb:=hp.b
 have h7:=hs.badBus;have h3:=hs.badLink;have h5:=hs.badSource
 obtain⟨c,j⟩:=x
 obtain⟨h0,h⟩:=hx
 dsimp only at h0 h
 rcases h with⟨rfl,hj⟩|⟨rfl,hj⟩|⟨rfl,hj⟩
 ·have e:lJ s ⟨1,j⟩ true=⟨s.closed,s.locked,s.badLink,s.on_,s.badSource,s.earthed,s.badBus.set j.toNat true⟩:=by unfold lJ;rw [if_pos rfl]
  rw [e]
  refine⟨j.toNat,fun m hm _ h2 hf=> ?_,fun m hm _ h2 h3 hc=> ?_,fun b hb' hl q=> ?_⟩
  ·unfold bG at hf ⊢
   dsimp only
   rw [bS (Ne.symm h2)];exact hf
  ·unfold bB at hc ⊢
   dsimp only
   rw [bS (Ne.symm h2),bS (Ne.symm h3)];exact hc
  ·subst q
   have:=hl.1
   dsimp only at this
   rw [dA (by omega)]at this;cases this
 ·have e:lJ s ⟨2,j⟩ true=⟨s.closed,s.locked,s.badLink,s.on_,s.badSource.set j.toNat true,s.earthed,s.badBus⟩:=by unfold lJ;rw [if_neg (show ¬ (2:Int)=1 by decide),if_pos rfl]
  rw [e]
  refine⟨p.buses.toNat+j.toNat,fun m hm h1 _ hf=> ?_,fun m hm _ _ _ hc=>hc,fun b hb' hl q=>by omega⟩
  unfold bG at hf ⊢
  dsimp only
  rw [bS (by omega)];exact hf
 ·have e:lJ s ⟨3,j⟩ true=⟨s.closed,s.locked,s.badLink.set j.toNat true,s.on_,s.badSource,s.earthed,s.badBus⟩:=by unfold lJ;rw [if_neg (show ¬ (3:Int)=1 by decide),if_neg (show ¬ (3:Int)=2 by decide)]
  rw [e]
  refine⟨p.buses.toNat+p.sources.length+j.toNat,fun m hm _ _ hf=>hf,fun m hm h1 _ _ hc=> ?_,fun b hb' hl q=>by omega⟩
  unfold bB at hc ⊢
  dsimp only
  rw [bS (by omega)];exact hc
theorem NH:kK p s (k:Int)=some 0:=by
 unfold kK
 rw [pq p s hp.small,uF.mpr ⟨hp,hs⟩,Option.bind_some,decide_eq_true rfl,Bool.not_true,cond_false,decide_eq_false (by omega),cond_false,decide_eq_false (by omega),cond_false]
theorem Kj: ∃K:Nat,jF p s (k:Int)=some ((K:Int),0)∧(K=0↔Hy p s k=false)∧(K=2→ ∀x,Tp p x→Hy p (lJ s x true) k=true):=by
 have hP:=dR (p:=p);have hb:=hp.b;have hsl:=hp.sl;have hll:=hp.ll
 obtain⟨e0,e1,K,W,h1,h2,h3,_,h5,h6,h7,h8⟩:=KP (ps:=partsOf p) rfl (by omega) (OZ hp hk) rfl (VT (s:=s) hp hk)
 refine⟨K, ?_,⟨fun h=> ?_,fun h=> ?_⟩,fun h x hx=> ?_⟩
 ·unfold jF wJ
  rw [NH hp hs hk,Option.bind_some,decide_eq_true rfl,Bool.not_true,cond_false,Om hp hs hk,Option.bind_some]
  dsimp only
  rw [h1,Option.bind_some]
  dsimp only
  rw [h7,Option.bind_some,Option.bind_some,h8]
 ·have hc:=h6 (by omega)
  have he:=h5 h
  subst he
  have:=Pf hp hk h2 hc
  cases hf:Hy p s k with
  |false=>rfl
  |true=>exact absurd ((Di hp hs hk).1 hf) this
 ·exact Ty hp hk (fun q=>by rw [(Di hp hs hk).2 q]at h;cases h) h2 h3
 ·cases hf:Hy p (lJ s x true) k with
  |true=>rfl
  |false=>
   obtain⟨ix,hB⟩:=Q8 hp hs hx
   have:=Td hp hk hB (fun q=>by rw [(Di hp (VS.lJ hs x true) hk).2 q]at hf;cases hf) h2 h3
   omega
end
theorem MR {p:au} {s:State} (hp:VP p) (hs:VS p s) {i:Nat} (hi:i<p.links.length):jR p s i=some (bB p s i):=by
 have hl:=hp.lnk i hi
 have ha:=hl.a;have hb:=hl.b;have h1:=hs.closed;have h2:=hs.badLink;have h3:=hs.badBus
 unfold jR bB
 simp only [Int.toNat_natCast]
 rw [aH (by omega),aH ⟨by omega,fun _=>by omega,fun _=>by omega,fun _=>by omega⟩]
 cases at' s.closed i<;>cases at' s.badLink i<;>cases at' s.badBus (at' p.links i).a.toNat<;>cases at' s.badBus (at' p.links i).b.toNat<;>rfl
theorem Jm {p:au} {s:State} (hp:VP p) (hs:VS p s) {k:Nat} (hk:k<p.sources.length):qG p s k=some (bG p s k):=by
 have hl:=(hp.src k hk).bus;have h1:=hs.on;have h2:=hs.badSource;have h3:=hs.badBus
 unfold qG bG
 simp only [Int.toNat_natCast]
 rw [aH ⟨by omega,fun _=>by omega,fun _=>by omega,fun _=>by omega⟩]
 cases at' s.on_ k<;>cases at' s.badSource k<;>cases at' s.badBus (at' p.sources k).bus.toNat<;>rfl
section
variable {α:Type} [Inhabited α]
end
theorem Wk.mem {p:au} {s:State} {b:Nat}: ∀{l v},Wk p s b l v→ ∀i∈l,0≤i∧i<(p.links.length:Int):=by
 intro l v h
 induction h with
 |nil=>simp
 |snoc h hi _ _ ih=>
  intro j hj
  rcases List.mem_append.mp hj with hj|hj
  ·exact ih j hj
  ·simp at hj;subst hj;omega
def bP:Nat→(Nat→Int)→Int
 |0,_=>0
 |n+1,f=>bP n f+f n
theorem dJ {n:Nat} {f g:Nat→Int} (h: ∀i,i<n→f i=g i):bP n f=bP n g:=by
 induction n with
 |zero=>rfl
 |succ n ih=>rw [bP,bP,ih fun i hi=>h i (by omega),h n (by omega)]
theorem yj (n:Nat) (f g:Nat→Int):bP n (fun i=>f i+g i)=bP n f+bP n g:=by
 induction n with
 |zero=>rfl
 |succ n ih=>simp only [bP];rw [ih];omega
theorem Ca (n:Nat) (f g:Nat→Int):bP n (fun i=>f i - g i)=bP n f - bP n g:=by
 induction n with
 |zero=>rfl
 |succ n ih=>simp only [bP];rw [ih];omega
theorem lG (n:Nat):bP n (fun _=>0)=0:=by
 induction n with
 |zero=>rfl
 |succ n ih=>simp only [bP];rw [ih];omega
theorem tX {n:Nat} {f g:Nat→Int} (h: ∀i,i<n→f i≤g i):bP n f≤bP n g:=by
 induction n with
 |zero=>exact Int.le_refl _
 |succ n ih=>simp only [bP];have:=ih fun i hi=>h i (by omega);have:=h n (by omega);omega
theorem Ms {n:Nat} {f:Nat→Int} (h: ∀i,i<n→0≤f i):0≤bP n f:=by
 have:=tX (f:=fun _=>0) h;rwa [lG]at this
theorem uY {n:Nat} {f g:Nat→Int} (h: ∀i,i<n→f i≤g i) (e:bP n f=bP n g): ∀i,i<n→f i=g i:=by
 induction n with
 |zero=>intro i hi;omega
 |succ n ih=>
  simp only [bP]at e
  have h1:=tX (n:=n) (f:=f) (g:=g) fun i hi=>h i (by omega)
  have h2:=h n (by omega)
  intro i hi
  by_cases hin:i=n
  ·subst hin;omega
  ·exact ih (fun i hi=>h i (by omega)) (by omega) i (by omega)
theorem Eb (n m:Nat) (f:Nat→Nat→Int):bP n (fun i=>bP m (f i))=bP m (fun j=>bP n fun i=>f i j):=by
 induction n with
 |zero=>simp only [bP];rw [lG]
 |succ n ih=>simp only [bP];rw [ih,←yj]
theorem EU {n:Nat} {k:Nat} (f:Nat→Int) (h:k<n):bP n (fun i=>if i=k then f i else 0)=f k:=by
 induction n with
 |zero=>omega
 |succ n ih=>
  simp only [bP]
  by_cases e:k=n
  ·subst e
   rw [if_pos rfl,dJ (g:=fun _=>0) (fun i hi=>if_neg (by omega)),lG];omega
  ·rw [ih (by omega),if_neg (fun q=>e q.symm)];omega
theorem FQ (n:Nat) (f:Nat→Int):bP n (fun i=> - f i)= - bP n f:=by
 induction n with
 |zero=>rfl
 |succ n ih=>simp only [bP];rw [ih];omega
theorem Ky {n:Nat} {f:Nat→Int} (h: ∀i,i<n→ -1000000≤f i∧f i≤1000000): -((n:Int)*1000000)≤bP n f∧bP n f≤(n:Int)*1000000:=by
 induction n with
 |zero=>simp [bP]
 |succ n ih=>
  have:=ih fun i hi=>h i (by omega)
  have:=h n (by omega)
  simp only [bP]
  omega
theorem gB1 {a:Bool} (h:gB [(a,true)]=true):a=true:=by cases a;exact h;rfl
theorem SS (i:Nat):((i+1:Nat):Int)=(i:Int)+1:=by simp
def Nq (p:au) (s:State) (C:Nat→Bool) (k:Nat):Int:=if(bG p s k && !C (at' p.sources k).bus.toNat)=true then(at' p.sources k).power else 0
def yC (p:au) (s:State) (C:Nat→Bool) (i:Nat):Int:=if(bB p s i && !(C (at' p.links i).a.toNat==C (at' p.links i).b.toNat))=true then(at' p.links i).most else 0
def Ub (p:au) (C:Nat→Bool) (r:Nat):Bool:=C (at' p.racks r).feeds.e0.toNat||(decide (0≤(at' p.racks r).feeds.e1) && C (at' p.racks r).feeds.e1.toNat)
def Mi (p:au) (C:Nat→Bool) (r:Nat):Int:=if Ub p C r=true then(at' p.racks r).power else 0
def AJ (p:au) (s:State) (C:Nat→Bool):Int:=bP p.sources.length (Nq p s C)+bP p.links.length (yC p s C)+bP p.racks.length (Mi p C)
section
variable {p:au} {s:State} (hp:VP p) (hs:VS p s)
include hp
theorem XO (C:Nat→Bool) {k:Nat} (hk:k<p.sources.length):0≤Nq p s C k∧Nq p s C k≤100000:=by
 have:=(hp.src k hk).power;unfold Nq;split<;>omega
theorem Xf (C:Nat→Bool) {k:Nat} (hk:k<p.links.length):0≤yC p s C k∧yC p s C k≤100000:=by
 have:=(hp.lnk k hk).most;unfold yC;split<;>omega
theorem Yz (C:Nat→Bool) {k:Nat} (hk:k<p.racks.length):0≤Mi p C k∧Mi p C k≤100000:=by
 have:=(hp.rck k hk).power;unfold Mi;split<;>omega
include hs
end
def Wu (x:bX):Nat→Int
 |0=>0
 |n+1=>IntKind.wrap .i64 (Wu x n+IntKind.wrap .i64 ((at' x.racks n).e0+(at' x.racks n).e1))
theorem PZ {x:bX} (hl:x.racks.length≤1000000):j6 x=some (Wu x x.racks.length):=by
 have key:aV (jK x) FUEL (Wu x 0,((0:Nat):Int))=some (.brk (Wu x x.racks.length)):=by
  refine eP (fun i=>(Wu x i,(i:Int))) x.racks.length _ (fuel_lt (by omega)) (fun i hi=> ?_) ?_
  ·unfold jK
   simp only [Int.toNat_natCast]
   rw [JR (by omega),cond_true,aH (by omega),wr (x:=(i:Int)+1) (by omega)]
   rfl
  ·unfold jK;simp
 unfold j6
 show Option.bind (aV (jK x) FUEL (Wu x 0,((0:Nat):Int))) _=_
 rw [key];rfl
theorem OC {x:bX} (h: ∀r,r<x.racks.length→0≤(at' x.racks r).e0+(at' x.racks r).e1∧(at' x.racks r).e0+(at' x.racks r).e1≤1000000) (hl:x.racks.length≤1000):
  ∀n,n≤x.racks.length→Wu x n=bP n fun r=>(at' x.racks r).e0+(at' x.racks r).e1
 |0,_=>rfl
 |n+1,hn=>by
  have h1:=h n (by omega)
  have h2:=Ky (n:=n) (f:=fun r=>(at' x.racks r).e0+(at' x.racks r).e1) fun i hi=>by exact⟨by have:=h i (by omega);omega,by have:=h i (by omega);omega⟩
  rw [Wu,bP,OC h hl n (by omega),wr (x:=(at' x.racks n).e0+(at' x.racks n).e1) (by omega),wr (by omega)]
def iZ (s:State) (b:Int):Bool:=decide (0≤b) && !at' s.badBus b.toNat
def YF (p:au) (x:bX) (b k:Nat):Int:=if(at' p.sources k).bus=(b:Int)then at' x.sources k else 0
def Xo (p:au) (x:bX) (b i:Nat):Int:=(if(at' p.links i).b=(b:Int)then at' x.links i else 0) - (if(at' p.links i).a=(b:Int)then at' x.links i else 0)
def VY (p:au) (x:bX) (b r:Nat):Int:=(if(at' p.racks r).feeds.e0=(b:Int)then(at' x.racks r).e0 else 0)+(if(at' p.racks r).feeds.e1=(b:Int)then(at' x.racks r).e1 else 0)
def bal (p:au) (x:bX) (b:Nat):Int:=bP p.sources.length (YF p x b)+bP p.links.length (Xo p x b) - bP p.racks.length (VY p x b)
section
variable {p:au} {s:State} (hp:VP p) (hs:VS p s) {x:bX} (h1:x.sources.length=p.sources.length) (h2:x.links.length=p.links.length) (h3:x.racks.length=p.racks.length)
include hp hs h1 h2 h3
end
def tw (i:Nat):Nat:=if i % 2=0 then i+1 else i - 1
theorem I8 (i:Nat):tw (tw i)=i:=by
 unfold tw
 by_cases h:i % 2=0
 ·rw [if_pos h,if_neg (by omega)];omega
 ·rw [if_neg h,if_pos (by omega)];omega
theorem CY {i m:Nat} (h:i<2*m):tw i<2*m:=by unfold tw;split<;>omega
theorem Tn (i:Nat):tw i≠i:=by unfold tw;split<;>omega
theorem Vt (i:Nat):i ^^^ 1=tw i:=by
 have h1:(i ^^^ 1) / 2=i / 2:=by rw [Nat.xor_div_two];simp
 have h2:= @Nat.xor_mod_two_eq_one i 1
 unfold tw
 split<;>omega
theorem xor_eq {i:Nat} (h:i<1000000):IntKind.wrap .i64 (((BitVec.ofInt (IntKind.bits .i64) (i:Int) ^^^ BitVec.ofInt (IntKind.bits .i64) 1).toNat:Int))=(tw i:Int):=by
 have e:(BitVec.ofInt (IntKind.bits .i64) (i:Int) ^^^ BitVec.ofInt (IntKind.bits .i64) 1).toNat=tw i:=by
  rw [BitVec.toNat_xor,←Vt]
  have e1:(BitVec.ofInt (IntKind.bits .i64) (i:Int)).toNat=i:=by
   show(BitVec.ofInt 64 (i:Int)).toNat=i
   rw [BitVec.toNat_ofInt]
   omega
  have e2:(BitVec.ofInt (IntKind.bits .i64) 1).toNat=1:=rfl
  rw [e1,e2]
 rw [e]
 have:tw i<1000002:=by unfold tw;split<;>omega
 rw [wr (by omega)]
def tgt (a:List bY) (i:Nat):Nat:=(at' a i).to_.toNat
def iB (a:List bY) (i:Nat):Int:=(at' a i).left
structure NW (n m:Nat) (a:List bY) (fr:List (List Int)):Prop where
 n1:1≤n∧n≤1000
 m1:m≤1000
 len:a.length=2*m
 to: ∀i,i<2*m→0≤(at' a i).to_∧(at' a i).to_<n
 left: ∀i,i<2*m→0≤iB a i∧iB a i+iB a (tw i)≤1000000
 frl:fr.length=n
 fr1: ∀v,v<n→ ∀x∈at' fr v,∃i:Nat,x=(i:Int)∧i<2*m∧tgt a (tw i)=v
 fr2: ∀i,i<2*m→(i:Int)∈at' fr (tgt a (tw i))
 frn: ∀v,v<n→(at' fr v).length≤2*m
theorem NW.tl {n m:Nat} {a:List bY} {fr:List (List Int)} (h:NW n m a fr) {i:Nat} (hi:i<2*m):tgt a i<n∧(at' a i).to_=(tgt a i:Int):=by
 have:=h.to i hi;unfold tgt;omega
def U0 (m:Nat) (a:List bY) (K:Nat→Prop):Prop:= ∀i,i<2*m→0<iB a i→K (tgt a (tw i))→K (tgt a i)
theorem r9 {σ ρ:Type} {body:σ→Option (cZ σ ρ)} (I:σ→Prop) (μ:σ→Nat) (R:ρ→Prop)
  (h: ∀s,I s→(∃s',body s=some (.next s')∧I s'∧μ s'<μ s)∨(∃r,body s=some (.done r)∧R r)):
  ∀(N:Nat) (s:σ),I s→μ s<N→ ∃r,aV body N s=some r∧R r
 |0,_,_,hN=>by omega
 |N+1,s,hs,hN=>by
  rw [bH]
  rcases h s hs with⟨s',e,hi,hm⟩|⟨r,e,hr⟩
  ·rw [e];exact r9 I μ R h N s' hi (by omega)
  ·rw [e];exact⟨r,rfl,hr⟩
def lq (l:List Bool):Nat:=(l.filter (! ·)).length
theorem CF: ∀(l:List Bool) (w:Nat),w<l.length→at' l w=false→lq (l.set w true)+1=lq l
 |[],w,h,_=>by simp at h
 |b::l,0,_,h=>by
  have:b=false:=h
  subst this
  simp [lq]
 |b::l,w+1,h,hb=>by
  have:=CF l w (by simpa using h) hb
  unfold lq at this ⊢
  rw [List.set_cons_succ]
  cases b<;>simp<;>omega
def MV (a:List bY) (i:Nat) (z:List Bool × List ah):List Bool × List ah:=
 if(decide (0<iB a i) && !at' z.1 (tgt a i))=true then(z.1.set (tgt a i) true,z.2++[⟨(at' a i).to_,(i:Int)⟩])else z
def Av (a:List bY) (L:List Int) (z:List Bool × List ah):Nat→List Bool × List ah
 |0=>z
 |k+1=>MV a (at' L k).toNat (Av a L z k)
structure BI (n m:Nat) (a:List bY) (bys:List Int) (seen:List Bool) (pd:List ah) (W:Nat→Prop) (par:Nat→Int) (rk:Nat→Nat) (t:Nat) (Y:Nat→Prop):Prop where
 sl:seen.length=n
 s0:at' seen 0=true
 p0:par 0= -1
 g2: ∀v,v<n→at' seen v=true→v≠0→ ∃i:Nat,par v=(i:Int)∧i<2*m∧tgt a i=v∧0<iB a i∧Y (tgt a (tw i))∧rk (tgt a (tw i))<rk v
 g3: ∀v,Y v→v<n∧at' seen v=true∧at' bys v=par v
 g4: ∀x∈pd,∃v:Nat,x.e0=(v:Int)∧v<n∧at' seen v=true∧x.e1=par v
 g5: ∀v,v<n→at' seen v=true→rk v<t
 g6: ∀v,v<n→at' seen v=true→(Y v∧ ∀i,i<2*m→tgt a (tw i)=v→0<iB a i→at' seen (tgt a i)=true)∨(∃x∈pd,x.e0=(v:Int))∨W v
 g7: ∀K:Nat→Prop,U0 m a K→K 0→ ∀v,v<n→at' seen v=true→K v
 tc:t+lq seen=n
theorem fo {l:List Bool} {w v:Nat} (h:w<l.length):at' (l.set w true) v=true↔v=w∨at' l v=true:=by
 by_cases e:w=v
 ·subst e;rw [dA h];simp
 ·rw [bS e]
  exact⟨.inr,fun q=>q.elim (fun x=>absurd x.symm e) id⟩
section
variable {n m:Nat} {a:List bY} {fr:List (List Int)} (hN:NW n m a fr)
include hN
theorem Yu {bys:List Int} {seen:List Bool} {q:List ah} {u:Nat} {par:Nat→Int} {rk:Nat→Nat} {t:Nat} {Y:Nat→Prop} (h:BI n m a bys seen q (· =u) par rk t Y) {i:Nat} (hi:i<2*m) (hu:tgt a (tw i)=u) (hY:Y u):
  ∃par rk t,BI n m a bys (MV a i (seen,q)).1 (MV a i (seen,q)).2 (· =u) par rk t Y∧(0<iB a i→at' (MV a i (seen,q)).1 (tgt a i)=true)∧(∀v,at' seen v=true→at' (MV a i (seen,q)).1 v=true)∧lq (MV a i (seen,q)).1+(MV a i (seen,q)).2.length=lq seen+q.length:=by
 unfold MV
 by_cases hc:(decide (0<iB a i) && !at' seen (tgt a i))=true
 ·simp only [hc,if_true]
  rw [Bool.and_eq_true,decide_eq_true_eq,Bool.not_eq_true']at hc
  obtain⟨hl,hw⟩:=hc
  have hwn:=(hN.tl hi).1
  have hto:=(hN.tl hi).2
  generalize hwd:tgt a i=w at*
  have hws:w<seen.length:=by rw [h.sl];exact hwn
  have hw0:w≠0:=fun e=>by rw [e,h.s0]at hw;cases hw
  have neq: ∀v,at' seen v=true→v≠w:=fun v hv e=>by rw [e,hw]at hv;cases hv
  have hus:=(h.g3 u hY).2.1
  refine⟨fun v=>if v=w then(i:Int)else par v,fun v=>if v=w then t else rk v,t+1,⟨?_, ?_, ?_, ?_, ?_, ?_, ?_, ?_, ?_, ?_⟩,fun _=>(fo hws).2 (.inl rfl),fun v hv=>(fo hws).2 (.inr hv), ?_⟩
  ·rw [List.length_set];exact h.sl
  ·exact(fo hws).2 (.inr h.s0)
  ·show(if 0=w then(i:Int)else par 0)= -1
   rw [if_neg (Ne.symm hw0)];exact h.p0
  ·intro v hv hs h0
   rcases(fo hws).1 hs with rfl|hs
   ·refine⟨i,if_pos rfl,hi,hwd,hl,by rw [hu];exact hY, ?_⟩
    rw [hu]
    show(if u=v then t else rk u)<(if v=v then t else rk v)
    rw [if_neg (neq u hus),if_pos rfl]
    exact h.g5 u (h.g3 u hY).1 hus
   ·obtain⟨j,h1,h2,h3,h4,h5,h6⟩:=h.g2 v hv hs h0
    refine⟨j,(if_neg (neq v hs)).trans h1,h2,h3,h4,h5, ?_⟩
    show(if tgt a (tw j)=w then t else rk (tgt a (tw j)))<(if v=w then t else rk v)
    rw [if_neg (neq v hs),if_neg (neq _ (h.g3 _ h5).2.1)]
    exact h6
  ·intro v hv
   obtain⟨h1,h2,h3⟩:=h.g3 v hv
   exact⟨h1,(fo hws).2 (.inr h2),h3.trans (if_neg (neq v h2)).symm⟩
  ·intro x hx
   rw [List.mem_append,List.mem_singleton]at hx
   rcases hx with hx|rfl
   ·obtain⟨v,h1,h2,h3,h4⟩:=h.g4 x hx
    exact⟨v,h1,h2,(fo hws).2 (.inr h3),h4.trans (if_neg (neq v h3)).symm⟩
   ·exact⟨w,hto,hwn,(fo hws).2 (.inl rfl),(if_pos rfl).symm⟩
  ·intro v hv hs
   show(if v=w then t else rk v)<t+1
   rcases(fo hws).1 hs with rfl|hs
   ·rw [if_pos rfl];omega
   ·rw [if_neg (neq v hs)];have:=h.g5 v hv hs;omega
  ·intro v hv hs
   rcases(fo hws).1 hs with rfl|hs
   ·exact .inr (.inl ⟨_,List.mem_append_right _ (List.mem_singleton_self _),hto⟩)
   ·rcases h.g6 v hv hs with⟨h1,h2⟩|⟨x,h1,h2⟩|h1
    ·exact .inl ⟨h1,fun j hj e hl=>(fo hws).2 (.inr (h2 j hj e hl))⟩
    ·exact .inr (.inl ⟨x,List.mem_append_left _ h1,h2⟩)
    ·exact .inr (.inr h1)
  ·intro K hK h0 v hv hs
   rcases(fo hws).1 hs with rfl|hs
   ·have:=hK i hi hl (by rw [hu];exact h.g7 K hK h0 u (h.g3 u hY).1 hus)
    rwa [hwd]at this
   ·exact h.g7 K hK h0 v hv hs
  ·have:=CF seen w hws hw
   have:=h.tc
   show t+1+lq (seen.set w true)=n
   omega
  ·have:=CF seen w hws hw
   rw [List.length_append,List.length_singleton];omega
 ·simp only [hc,if_false]
  refine⟨par,rk,t,h,fun hl=> ?_,fun _=>id,rfl⟩
  rw [decide_eq_true hl,Bool.true_and,Bool.not_eq_true',Bool.not_eq_false]at hc
  exact hc
theorem JB {bys:List Int} {seen:List Bool} {q:List ah} {u:Nat} {par:Nat→Int} {rk:Nat→Nat} {t:Nat} {Y:Nat→Prop} (h:BI n m a bys seen q (· =u) par rk t Y) (hu:u<n) (hY:Y u):
  ∀k,k≤(at' fr u).length→ ∃par rk t,BI n m a bys (Av a (at' fr u) (seen,q) k).1 (Av a (at' fr u) (seen,q) k).2 (· =u) par rk t Y∧(∀j,j<k→0<iB a (at' (at' fr u) j).toNat→at' (Av a (at' fr u) (seen,q) k).1 (tgt a (at' (at' fr u) j).toNat)=true)∧(∀v,at' seen v=true→at' (Av a (at' fr u) (seen,q) k).1 v=true)∧lq (Av a (at' fr u) (seen,q) k).1+(Av a (at' fr u) (seen,q) k).2.length=lq seen+q.length
 |0,_=> ⟨par,rk,t,h,fun j hj=>by omega,fun _=>id,rfl⟩
 |k+1,hk=>by
  obtain⟨par,rk,t,h1,h2,h3,h4⟩:=JB h hu hY k (by omega)
  obtain⟨i,e,hi,hti⟩:=hN.fr1 u hu _ (at_mem (show k<(at' fr u).length by omega))
  have ei:(at' (at' fr u) k).toNat=i:=by rw [e];rfl
  obtain⟨par,rk,t,g1,g2,g3,g4⟩:=Yu hN h1 hi hti hY
  refine⟨par,rk,t, ?_, ?_, ?_, ?_⟩
  ·show BI n m a bys (MV a (at' (at' fr u) k).toNat (Av a (at' fr u) (seen,q) k)).1 (MV a (at' (at' fr u) k).toNat (Av a (at' fr u) (seen,q) k)).2 _ _ _ _ _
   rw [ei];exact g1
  ·intro j hj hl
   show at' (MV a (at' (at' fr u) k).toNat (Av a (at' fr u) (seen,q) k)).1 _=true
   rw [ei]
   by_cases e2:j=k
   ·subst e2;rw [ei]at hl ⊢;exact g2 hl
   ·exact g3 _ (h2 j (by omega) hl)
  ·intro v hv
   show at' (MV a (at' (at' fr u) k).toNat (Av a (at' fr u) (seen,q) k)).1 _=true
   rw [ei];exact g3 _ (h3 v hv)
  ·show lq (MV a (at' (at' fr u) k).toNat (Av a (at' fr u) (seen,q) k)).1+(MV a (at' (at' fr u) k).toNat (Av a (at' fr u) (seen,q) k)).2.length=_
   rw [ei];exact g4.trans h4
theorem BI.visit {bys:List Int} {seen:List Bool} {q:List ah} {x:ah} {par:Nat→Int} {rk:Nat→Nat} {t:Nat} {Y:Nat→Prop} (h:BI n m a bys seen (x::q) (fun _=>False) par rk t Y) (hl:bys.length=n):
  ∃u:Nat,x.e0=(u:Int)∧u<n∧BI n m a (bys.set u x.e1) seen q (· =u) par rk t (fun v=>Y v∨v=u):=by
 obtain⟨u,e,hu,hs,hp⟩:=h.g4 x List.mem_cons_self
 refine⟨u,e,hu,h.sl,h.s0,h.p0, ?_, ?_,fun y hy=>h.g4 y (List.mem_cons_of_mem _ hy),h.g5, ?_,h.g7,h.tc⟩
 ·intro v hv hs h0
  obtain⟨i,h1,h2,h3,h4,h5,h6⟩:=h.g2 v hv hs h0
  exact⟨i,h1,h2,h3,h4, .inl h5,h6⟩
 ·intro v hv
  by_cases e2:v=u
  ·subst e2;exact⟨hu,hs,by rw [dA (by omega)];exact hp⟩
  ·obtain⟨h1,h2,h3⟩:=h.g3 v (hv.resolve_right e2)
   exact⟨h1,h2,by rw [bS (Ne.symm e2)];exact h3⟩
 ·intro v hv hs
  rcases h.g6 v hv hs with⟨h1,h2⟩|⟨y,h1,h2⟩|h1
  ·exact .inl ⟨.inl h1,h2⟩
  ·rcases List.mem_cons.1 h1 with rfl|h1
   ·exact .inr (.inr (by omega))
   ·exact .inr (.inl ⟨y,h1,h2⟩)
  ·exact h1.elim
theorem BI.done {bys:List Int} {seen:List Bool} {q:List ah} {u:Nat} {par:Nat→Int} {rk:Nat→Nat} {t:Nat} {Y:Nat→Prop} (h:BI n m a bys seen q (· =u) par rk t Y) (hY:Y u) (hc: ∀j,j<(at' fr u).length→0<iB a (at' (at' fr u) j).toNat→at' seen (tgt a (at' (at' fr u) j).toNat)=true):BI n m a bys seen q (fun _=>False) par rk t Y:=by
 refine⟨h.sl,h.s0,h.p0,h.g2,h.g3,h.g4,h.g5,fun v hv hs=> ?_,h.g7,h.tc⟩
 rcases h.g6 v hv hs with h1|h1|rfl
 ·exact .inl h1
 ·exact .inr (.inl h1)
 ·refine .inl ⟨hY,fun i hi hti hl=> ?_⟩
  have:=hN.fr2 i hi
  rw [hti]at this
  obtain⟨j,hj,e⟩:=j5 this
  have ei:(at' (at' fr v) j).toNat=i:=by rw [e];rfl
  have:=hc j hj (by rw [ei];exact hl)
  rwa [ei]at this
theorem BI.first {bys:List Int}:BI n m a bys ((List.replicate n false).set 0 true) [⟨0, -1⟩] (fun _=>False) (fun _=> -1) (fun _=>0) 1 (fun _=>False):=by
 have hn:=hN.n1
 have hs: ∀v,v<n→at' ((List.replicate n false).set 0 true) v=true→v=0:=by
  intro v hv h
  rcases(fo (by rw [List.length_replicate];omega)).1 h with h|h
  ·exact h
  ·rw [fJ hv]at h;cases h
 have h0:at' ((List.replicate n false).set 0 true) 0=true:=(fo (by rw [List.length_replicate];omega)).2 (.inl rfl)
 refine⟨by simp,h0,rfl,fun v hv h q=>absurd (hs v hv h) q,fun v h=>h.elim, ?_,fun _ _ _=>by omega, ?_, ?_, ?_⟩
 ·intro x hx
  rw [List.mem_singleton]at hx
  subst hx
  exact⟨0,rfl,by omega,h0,rfl⟩
 ·intro v hv h
  have:=hs v hv h
  subst this
  exact .inr (.inl ⟨_,List.mem_singleton_self _,rfl⟩)
 ·intro K hK hK0 v hv h
  rw [hs v hv h];exact hK0
 ·have:=CF (List.replicate n false) 0 (by rw [List.length_replicate];omega) (fJ (by omega))
  have e:lq (List.replicate n false)=n:=by simp [lq]
  omega
end
structure Wy (n m:Nat) (a:List bY) (bys:List Int) (sink K:Nat) (p:Nat→Nat) (rk:Nat→Nat):Prop where
 p0:p 0=sink
 pK:p K=0
 end_:at' bys 0= -1
 bl:bys.length=n
 lt: ∀k,k≤K→p k<n
 st: ∀k,k<K→ ∃i:Nat,at' bys (p k)=(i:Int)∧i<2*m∧tgt a i=p k∧0<iB a i∧p (k+1)=tgt a (tw i)∧rk (p (k+1))<rk (p k)
 Kn:K≤n
section
variable {n m:Nat} {a:List bY} {fr:List (List Int)} (hN:NW n m a fr)
include hN
theorem BI.way {bys:List Int} {seen:List Bool} {q:List ah} {W:Nat→Prop} {par:Nat→Int} {rk:Nat→Nat} {t:Nat} {Y:Nat→Prop} (h:BI n m a bys seen q W par rk t Y) (hl:bys.length=n):
  ∀(r v:Nat),rk v≤r→Y v→ ∃K p,Wy n m a bys v K p rk∧K≤rk v:=by
 have base:at' bys 0= -1→ ∃K p,Wy n m a bys 0 K p rk∧K≤rk 0:=fun e=> ⟨0,fun _=>0,⟨rfl,rfl,e,hl,fun _ _=>by have:=hN.n1;show 0<n;omega,fun k hk=>by omega,by omega⟩,by omega⟩
 have byP: ∀v,Y v→at' bys v=par v:=fun v hv=>(h.g3 v hv).2.2
 have rkn: ∀v,Y v→rk v≤n:=fun v hv=>by have:=h.g5 v (h.g3 v hv).1 (h.g3 v hv).2.1;have:=h.tc;omega
 have zero: ∀r v,rk v≤r→Y v→Y 0:=by
  intro r
  induction r with
  |zero=>
   intro v hr hv
   by_cases h0:v=0
   ·subst h0;exact hv
   ·obtain⟨i,_,_,_,_,_,h6⟩:=h.g2 v (h.g3 v hv).1 (h.g3 v hv).2.1 h0
    omega
  |succ r ih=>
   intro v hr hv
   by_cases h0:v=0
   ·subst h0;exact hv
   ·obtain⟨i,_,_,_,_,h5,h6⟩:=h.g2 v (h.g3 v hv).1 (h.g3 v hv).2.1 h0
    exact ih _ (by omega) h5
 intro r
 induction r with
 |zero=>
  intro v hr hv
  by_cases h0:v=0
  ·subst h0;exact base ((byP 0 hv).trans h.p0)
  ·obtain⟨i,_,_,_,_,_,h6⟩:=h.g2 v (h.g3 v hv).1 (h.g3 v hv).2.1 h0
   omega
 |succ r ih=>
  intro v hr hv
  by_cases h0:v=0
  ·subst h0;exact base ((byP 0 hv).trans h.p0)
  ·obtain⟨i,h1,h2,h3,h4,h5,h6⟩:=h.g2 v (h.g3 v hv).1 (h.g3 v hv).2.1 h0
   obtain⟨K,p,hw,hK⟩:=ih _ (by omega) h5
   refine⟨K+1,fun k=>match k with|0=>v|k+1=>p k,⟨rfl,hw.pK,hw.end_,hl, ?_, ?_, ?_⟩,by omega⟩
   ·intro k hk
    match k,hk with
    |0,_=>exact(h.g3 v hv).1
    |k+1,hk=>exact hw.lt k (by omega)
   ·intro k hk
    match k,hk with
    |0,_=>exact⟨i,(byP v hv).trans h1,h2,h3,h4,hw.p0,by show rk (p 0)<rk v;rw [hw.p0];exact h6⟩
    |k+1,hk=>exact hw.st k (by omega)
   ·have:=rkn v hv;omega
end
def Bw (A:List bY) (i:Nat) (l:Int):List bY:=A.set i ⟨(at' A i).to_,iB A i - l⟩
def KM (A:List bY) (i:Nat) (l:Int):List bY:=(Bw A i l).set (tw i) ⟨(at' (Bw A i l) (tw i)).to_,iB (Bw A i l) (tw i)+l⟩
theorem U8 (A:List bY) (i:Nat) (l:Int):(KM A i l).length=A.length:=by simp [KM,Bw]
theorem Tx {A:List bY} {i:Nat} {l:Int} (j:Nat) (hi:i<A.length) (ht:tw i<A.length):(at' (KM A i l) j).to_=(at' A j).to_:=by
 have h1: ∀j,(at' (Bw A i l) j).to_=(at' A j).to_:=fun j=>by
  unfold Bw
  by_cases e:i=j
  ·subst e;rw [dA hi]
  ·rw [bS e]
 unfold KM
 by_cases e:tw i=j
 ·subst e;rw [dA (by simpa [Bw]using ht)];exact h1 _
 ·rw [bS e];exact h1 _
theorem Vk {A:List bY} {i:Nat} {l:Int} (j:Nat) (hi:i<A.length) (ht:tw i<A.length):iB (KM A i l) j=if j=i then iB A i - l else if j=tw i then iB A (tw i)+l else iB A j:=by
 have h1: ∀j,iB (Bw A i l) j=if j=i then iB A i - l else iB A j:=fun j=>by
  unfold iB Bw
  by_cases e:i=j
  ·subst e;rw [dA hi,if_pos rfl];rfl
  ·rw [bS e,if_neg (Ne.symm e)]
 have hne:=Tn i
 by_cases e:tw i=j
 ·subst e
  rw [if_neg hne,if_pos rfl]
  unfold KM
  show(at' ((Bw A i l).set (tw i) _) (tw i)).left=_
  rw [dA (by simpa [Bw]using ht)]
  show iB (Bw A i l) (tw i)+l=_
  rw [h1,if_neg hne]
 ·unfold KM
  show(at' ((Bw A i l).set (tw i) _) j).left=_
  rw [bS e]
  show iB (Bw A i l) j=_
  rw [h1]
  by_cases e2:j=i
  ·rw [if_pos e2,if_pos e2]
  ·rw [if_neg e2,if_neg e2,if_neg (fun q=>e q.symm)]
def lg (m:Nat) (a:List bY) (v:Nat):Int:=bP (2*m) fun i=>if tgt a i=v then iB a i else 0
structure Sm (m:Nat) (a b:List bY):Prop where
 len:b.length=a.length
 to: ∀j,(at' b j).to_=(at' a j).to_
 sum: ∀j,j<2*m→iB b j+iB b (tw j)=iB a j+iB a (tw j)
 pos: ∀j,j<2*m→0≤iB b j
theorem Sm.tgt {m:Nat} {a b:List bY} (h:Sm m a b) (j:Nat):tgt b j=Sg.tgt a j:=by unfold Sg.tgt;rw [h.to]
theorem Sm.trans {m:Nat} {a b c:List bY} (h:Sm m a b) (g:Sm m b c):Sm m a c:=⟨g.len.trans h.len,fun j=>(g.to j).trans (h.to j),fun j hj=>(g.sum j hj).trans (h.sum j hj),g.pos⟩
theorem NW.same {n m:Nat} {a b:List bY} {fr:List (List Int)} (hN:NW n m a fr) (h:Sm m a b):NW n m b fr:=by
 refine⟨hN.n1,hN.m1,h.len.trans hN.len,fun i hi=>by rw [h.to];exact hN.to i hi,fun i hi=> ⟨h.pos i hi,by rw [h.sum i hi];exact(hN.left i hi).2⟩,hN.frl,fun v hv x hx=> ?_,fun i hi=> ?_,hN.frn⟩
 ·obtain⟨i,h1,h2,h3⟩:=hN.fr1 v hv x hx
  exact⟨i,h1,h2,(h.tgt _).trans h3⟩
 ·rw [h.tgt];exact hN.fr2 i hi
def fQ (a:List bY) (bys:List Int) (p:Nat→Nat):Nat→Int
 |0=> -1
 |k+1=>if fQ a bys p k<0∨iB a (at' bys (p k)).toNat<fQ a bys p k then iB a (at' bys (p k)).toNat else fQ a bys p k
def lm (a:List bY) (bys:List Int) (p:Nat→Nat) (l:Int):Nat→List bY
 |0=>a
 |k+1=>KM (lm a bys p l k) (at' bys (p k)).toNat l
section
variable {n m:Nat} {a:List bY} {fr:List (List Int)} (hN:NW n m a fr) {bys:List Int} {sink K:Nat} {p:Nat→Nat} {rk:Nat→Nat} (hw:Wy n m a bys sink K p rk)
include hN hw
theorem Ji: ∀k,k≤K→(k=0∧fQ a bys p k= -1)∨(0<fQ a bys p k∧fQ a bys p k≤1000000∧ ∀j,j<k→fQ a bys p k≤iB a (at' bys (p j)).toNat)
 |0,_=> .inl ⟨rfl,rfl⟩
 |k+1,hk=>by
  obtain⟨i,h1,h2,h3,h4,h5,h6⟩:=hw.st k (by omega)
  have hl:=hN.left i h2
  have hl2:=hN.left _ (CY h2)
  have e:(at' bys (p k)).toNat=i:=by rw [h1];rfl
  refine .inr ?_
  have ih:=Ji k (by omega)
  rw [fQ,e]
  rcases ih with⟨h0,h⟩|⟨g1,g2,g3⟩
  ·rw [if_pos (by omega)]
   refine⟨h4,by omega,fun j hj=> ?_⟩
   have:j=k:=by omega
   subst this;rw [e];exact Int.le_refl _
  ·by_cases hc:iB a i<fQ a bys p k
   ·rw [if_pos (.inr hc)]
    refine⟨h4,by omega,fun j hj=> ?_⟩
    by_cases e2:j=k
    ·subst e2;rw [e];exact Int.le_refl _
    ·have:=g3 j (by omega);omega
   ·rw [if_neg (by omega)]
    refine⟨g1,g2,fun j hj=> ?_⟩
    by_cases e2:j=k
    ·subst e2;rw [e];omega
    ·exact g3 j (by omega)
theorem aaN {j k:Nat} (hjk:j<k) (hk:k≤K):rk (p k)<rk (p j):=by
 induction k with
 |zero=>omega
 |succ k ih=>
  obtain⟨i,_,_,_,_,_,h6⟩:=hw.st k (by omega)
  by_cases e:j=k
  ·subst e;exact h6
  ·have:=ih (by omega) (by omega);omega
theorem O3 {l:Int} (hl0:0<l) (hl: ∀j,j<K→l≤iB a (at' bys (p j)).toNat): ∀k,k≤K→Sm m a (lm a bys p l k)∧(∀j,k≤j→j<K→iB (lm a bys p l k) (at' bys (p j)).toNat=iB a (at' bys (p j)).toNat)∧
  ∀v,lg m (lm a bys p l k) v=lg m a v - (if v=p 0 then l else 0)+(if v=p k then l else 0)
 |0,_=> ⟨⟨rfl,fun _=>rfl,fun _ _=>rfl,fun j hj=>(hN.left j hj).1⟩,fun _ _ _=>rfl,fun v=>by show lg m a v=_;omega⟩
 |k+1,hk=>by
  obtain⟨h1,h2,h3⟩:=O3 hl0 hl k (by omega)
  obtain⟨i,g1,g2,g3,g4,g5,g6⟩:=hw.st k (by omega)
  have e:(at' bys (p k)).toNat=i:=by rw [g1];rfl
  have ht:=CY g2
  have hne:=Tn i
  have hlen:(lm a bys p l k).length=2*m:=h1.len.trans hN.len
  have hlf: ∀j,iB (lm a bys p l (k+1)) j=if j=i then iB (lm a bys p l k) i - l else if j=tw i then iB (lm a bys p l k) (tw i)+l else iB (lm a bys p l k) j:=fun j=>by
   show iB (KM (lm a bys p l k) (at' bys (p k)).toNat l) j=_
   rw [e];exact Vk j (by omega) (by omega)
  have hto: ∀j,(at' (lm a bys p l (k+1)) j).to_=(at' (lm a bys p l k) j).to_:=fun j=>by
   show(at' (KM (lm a bys p l k) (at' bys (p k)).toNat l) j).to_=_
   rw [e];exact Tx j (by omega) (by omega)
  have hi0:iB (lm a bys p l k) i=iB a i:=by have:=h2 k (Nat.le_refl _) (by omega);rwa [e]at this
  have hli:l≤iB a i:=by have:=hl k (by omega);rwa [e]at this
  have s1:Sm m (lm a bys p l k) (lm a bys p l (k+1)):=by
   refine⟨by show(KM _ _ _).length=_;exact U8 _ _ _,hto,fun j hj=> ?_,fun j hj=> ?_⟩
   ·rw [hlf,hlf]
    by_cases e1:j=i
    ·subst e1;rw [if_pos rfl,if_neg hne,if_pos rfl];omega
    ·rw [if_neg e1]
     by_cases e2:j=tw i
     ·subst e2;rw [I8,if_pos rfl,if_pos rfl];omega
     ·rw [if_neg e2,if_neg (fun q=>e2 (by rw [←q,I8])),if_neg (fun q=>e1 (by have:=congrArg tw q;rwa [I8,I8]at this))]
   ·rw [hlf]
    have:=h1.pos j hj
    split
    ·omega
    ·split
     ·have:=h1.pos _ ht;omega
     ·exact this
  refine⟨h1.trans s1,fun j hj hjK=> ?_,fun v=> ?_⟩
  ·obtain⟨i',f1,f2,f3,f4,f5,f6⟩:=hw.st j hjK
   have e':(at' bys (p j)).toNat=i':=by rw [f1];rfl
   have hr:=aaN hN hw (show k<j by omega) (by omega)
   rw [←h2 j (by omega) hjK,e',hlf]
   have n1:i'≠i:=fun q=>by rw [q,g3]at f3;rw [f3]at hr;omega
   have n2:i'≠tw i:=fun q=>by
    rw [q]at f3 f5
    rw [I8,g3]at f5
    rw [f5]at f6
    omega
   rw [if_neg n1,if_neg n2]
  ·have:lg m (lm a bys p l (k+1)) v=lg m (lm a bys p l k) v - (if v=p k then l else 0)+(if v=p (k+1)then l else 0):=by
    unfold lg
    have htg: ∀j,tgt (lm a bys p l (k+1)) j=tgt (lm a bys p l k) j:=fun j=>by unfold tgt;rw [hto]
    have htk: ∀j,tgt (lm a bys p l k) j=tgt a j:=h1.tgt
    have e1:(bP (2*m) fun j=>if tgt (lm a bys p l (k+1)) j=v then iB (lm a bys p l (k+1)) j else 0)=bP (2*m) fun j=>((if tgt (lm a bys p l k) j=v then iB (lm a bys p l k) j else 0) - (if j=i then(if v=p k then l else 0)else 0))+(if j=tw i then(if v=p (k+1)then l else 0)else 0):=by
     refine dJ fun j hj=> ?_
     rw [htg,hlf,htk]
     by_cases e1:j=i
     ·subst e1
      rw [if_pos rfl,if_pos rfl,if_neg (Ne.symm hne),g3]
      by_cases e2:p k=v
      ·rw [if_pos e2,if_pos e2,if_pos e2.symm];omega
      ·rw [if_neg e2,if_neg e2,if_neg (Ne.symm e2)];omega
     ·rw [if_neg e1,if_neg e1]
      by_cases e2:j=tw i
      ·subst e2
       rw [if_pos rfl,if_pos rfl,←g5]
       by_cases e3:p (k+1)=v
       ·rw [if_pos e3,if_pos e3,if_pos e3.symm];omega
       ·rw [if_neg e3,if_neg e3,if_neg (Ne.symm e3)];omega
      ·rw [if_neg e2,if_neg e2];omega
    rw [e1,yj,Ca,EU (fun _=>if v=p k then l else 0) g2,EU (fun _=>if v=p (k+1)then l else 0) ht]
   rw [this,h3];omega
end
theorem TL {A:List bY} {o:List Int} {x19 x20 l:Int} {bys:List Int} (hbd:o.set x19.toNat x20=bys) {pk i:Nat} (hpk:pk<bys.length) (hby:at' bys pk=(i:Int)) (hi:i<A.length) (ht:tw i<A.length) (h6:i<1000000)
  (b1: -1000000000000≤iB A i - l∧iB A i - l≤1000000000000) (b2: -1000000000000≤iB A (tw i)+l∧iB A (tw i)+l≤1000000000000):
  dh x19 x20 o l (A,(pk:Int))=some (.next (KM A i l,(at' A (tw i)).to_)):=by
 have hne:=Tn i
 have e1:(at' (A.set i ⟨(at' A i).to_,(at' A i).left - l⟩) (tw i)).left=iB A (tw i):=by rw [bS (Ne.symm hne)];rfl
 unfold dh
 dsimp only
 rw [hbd,Int.toNat_natCast,hby,Int.toNat_natCast,xor_eq h6,Int.toNat_natCast,aH (by omega),decide_eq_true (show(0:Int)≤(i:Int) by omega),cond_true,aH (by omega),wr (x:=(at' A i).left - l) (by have:iB A i=(at' A i).left:=rfl;omega),aH ⟨by omega,by rw [List.length_set];omega⟩,e1,wr (x:=iB A (tw i)+l) (by omega),aH ⟨by omega,by rw [List.length_set,List.length_set];omega⟩]
 have e2:((A.set i ⟨(at' A i).to_,(at' A i).left - l⟩).set (tw i) ⟨(at' (A.set i ⟨(at' A i).to_,(at' A i).left - l⟩) (tw i)).to_,iB A (tw i)+l⟩)=KM A i l:=by
  unfold KM
  have:iB (Bw A i l) (tw i)=iB A (tw i):=e1
  rw [this];rfl
 rw [e2,Tx _ hi ht]
theorem TQ {a:List bY} {fr:List (List Int)} {o:List Int} {x19 x20:Int} {bys:List Int} (hbd:o.set x19.toNat x20=bys) {pk i:Nat} {least:Int} (hpk:pk<bys.length) (hby:at' bys pk=(i:Int)) (hi:i<a.length) (ht:tw i<a.length) (h6:i<1000000):
  cO x19 x20 o ⟨a,fr⟩ (least,(pk:Int))=some (.next (if least<0∨iB a i<least then iB a i else least,(at' a (tw i)).to_)):=by
 unfold cO
 dsimp only
 rw [hbd,Int.toNat_natCast,hby,Int.toNat_natCast,xor_eq h6,Int.toNat_natCast,aH (by omega),decide_eq_true (show(0:Int)≤(i:Int) by omega),cond_true,aH (by omega)]
 simp only [aH (show((0:Int)≤(pk:Int)∧(pk:Int)<(bys.length:Int))∧((0:Int)≤(tw i:Int)∧(tw i:Int)<(a.length:Int)) by omega)]
 by_cases c1:least<0
 ·rw [decide_eq_true c1,if_pos (.inl c1)];rfl
 ·rw [decide_eq_false c1]
  by_cases c2:(at' a i).left<least
  ·rw [decide_eq_true c2,if_pos (.inr c2)];rfl
  ·rw [decide_eq_false c2,if_neg (fun q=>q.elim c1 c2)];rfl
section
variable {n m:Nat} {a:List bY} {fr:List (List Int)} (hN:NW n m a fr)
include hN
theorem NW.res (v:Nat):0≤lg m a v∧lg m a v≤2000000000:=by
 have h: ∀i,i<2*m→0≤(if tgt a i=v then iB a i else 0)∧(if tgt a i=v then iB a i else 0)≤1000000:=fun i hi=>by
  have h1:=hN.left i hi;have h2:=hN.left _ (CY hi)
  split<;>omega
 have:=Ky (n:=2*m) (f:=fun i=>if tgt a i=v then iB a i else 0) fun i hi=> ⟨by have:=h i hi;omega,(h i hi).2⟩
 have h0:=Ms (n:=2*m) (f:=fun i=>if tgt a i=v then iB a i else 0) fun i hi=>(h i hi).1
 have:=hN.m1
 unfold lg
 exact⟨h0,by omega⟩
theorem M7 {sink:Nat} (h0:sink≠0) {o bys:List Int} {x20:Int} (hbd:o.set sink x20=bys) (hol:o.length=n) (hs:sink<n) {K:Nat} {p rk:Nat→Nat} (hw:Wy n m a bys sink K p rk):
  ∃a',dS (sink:Int) x20 (sink:Int) o ⟨a,fr⟩=some (2,bys,⟨a',fr⟩)∧Sm m a a'∧(∀v,v≠0→v≠sink→lg m a' v=lg m a v)∧lg m a' sink<lg m a sink:=by
 have hK0:K≠0:=fun e=>by have:=hw.pK;rw [e,hw.p0]at this;exact h0 this
 have hKn:=hw.Kn
 have hn1:=hN.n1
 have hbd':o.set (sink:Int).toNat x20=bys:=by rw [Int.toNat_natCast];exact hbd
 have hlen:=hN.len
 have hm:=hN.m1
 have stp: ∀k,k<K→ ∃i:Nat,at' bys (p k)=(i:Int)∧(at' bys (p k)).toNat=i∧i<2*m∧tw i<2*m∧(at' a (tw i)).to_=(p (k+1):Int):=fun k hk=>by
  obtain⟨i,h1,h2,h3,h4,h5,h6⟩:=hw.st k hk
  exact⟨i,h1,by rw [h1];rfl,h2,CY h2,by rw [h5];exact(hN.tl (CY h2)).2⟩
 obtain⟨hl,hl1,hl2⟩:0<fQ a bys p K∧fQ a bys p K≤1000000∧ ∀j,j<K→fQ a bys p K≤iB a (at' bys (p j)).toNat:=(Ji hN hw K (Nat.le_refl _)).resolve_left (fun q=>hK0 q.1)
 have L0:aV (cO (sink:Int) x20 o ⟨a,fr⟩) FUEL (-1,(sink:Int))=some (.brk (fQ a bys p K)):=by
  have e:((-1:Int),(sink:Int))=(fun k=>(fQ a bys p k,(p k:Int))) 0:=by show _=(fQ a bys p 0,(p 0:Int));rw [hw.p0];rfl
  rw [e]
  refine eP (fun k=>(fQ a bys p k,(p k:Int))) K _ (fuel_lt (by omega)) (fun k hk=> ?_) ?_
  ·obtain⟨i,h1,h2,h3,h4,h5⟩:=stp k hk
   show cO _ _ _ _ (fQ a bys p k,(p k:Int))=some (.next (fQ a bys p (k+1),(p (k+1):Int)))
   rw [TQ hbd' (by rw [hw.bl];exact hw.lt k (by omega)) h1 (by omega) (by omega) (by omega),h5,fQ,h2]
  ·show cO _ _ _ _ (fQ a bys p K,(p K:Int))=_
   rw [hw.pK]
   unfold cO
   dsimp only
   rw [hbd',Int.toNat_natCast,hw.end_,aH (by rw [hw.bl];omega)]
   rfl
 have KM:=fun k hk=>O3 hN hw hl hl2 k hk
 have L1:aV (dh (sink:Int) x20 o (fQ a bys p K)) FUEL (a,(sink:Int))=some (.brk (lm a bys p (fQ a bys p K) K)):=by
  have e:(a,(sink:Int))=(fun k=>(lm a bys p (fQ a bys p K) k,(p k:Int))) 0:=by show _=(lm a bys p (fQ a bys p K) 0,(p 0:Int));rw [hw.p0];rfl
  rw [e]
  refine eP (fun k=>(lm a bys p (fQ a bys p K) k,(p k:Int))) K _ (fuel_lt (by omega)) (fun k hk=> ?_) ?_
  ·obtain⟨i,h1,h2,h3,h4,h5⟩:=stp k hk
   obtain⟨g1,g2,g3⟩:=KM k (by omega)
   have hN':=hN.same g1
   have b1:=hN'.left i h3
   have b2:=hN'.left _ h4
   rw [I8]at b2
   show dh _ _ _ _ (lm a bys p (fQ a bys p K) k,(p k:Int))=some (.next (lm a bys p (fQ a bys p K) (k+1),(p (k+1):Int)))
   rw [TL hbd' (by rw [hw.bl];exact hw.lt k (by omega)) h1 (by rw [hN'.len];omega) (by rw [hN'.len];omega) (by omega) (by omega) (by omega),g1.to,h5,lm,h2]
  ·show dh _ _ _ _ (lm a bys p (fQ a bys p K) K,(p K:Int))=_
   rw [hw.pK]
   unfold dh
   dsimp only
   rw [hbd',Int.toNat_natCast,hw.end_,aH (by rw [hw.bl];omega)]
   rfl
 obtain⟨g1,g2,g3⟩:=KM K (Nat.le_refl _)
 refine⟨lm a bys p (fQ a bys p K) K, ?_,g1,fun v hv hv2=> ?_, ?_⟩
 ·unfold dS
  rw [aH (by omega),decide_eq_true rfl,Bool.not_true,cond_false,L0]
  simp only [Option.bind_some]
  rw [L1,hbd'];rfl
 ·rw [g3,hw.p0,hw.pK,if_neg hv2,if_neg hv];omega
 ·rw [g3,hw.p0,hw.pK,if_pos rfl,if_neg h0];omega
theorem Ld {bys:List Int} {seen:List Bool} {q:List ah} {u:Nat} {par:Nat→Int} {rk:Nat→Nat} {t:Nat} {Y:Nat→Prop} (h:BI n m a bys seen q (· =u) par rk t Y) (hY:Y u) (hq:lq seen+q.length≤n) (c:Nat) (by_:List Int):
  aV (dX (u:Int) (c,by_,⟨a,fr⟩)) FUEL (seen,q,0)=some (.brk (Av a (at' fr u) (seen,q) (at' fr u).length))∧
  aV (dM a fr (u:Int)) FUEL (seen,q,0)=some (.brk (Av a (at' fr u) (seen,q) (at' fr u).length)):=by
 have hu:=(h.g3 u hY).1
 have hfl:=hN.frn u hu
 have hm:=hN.m1
 have hn:=hN.n1
 have step: ∀k,k<(at' fr u).length→dX (u:Int) (c,by_,⟨a,fr⟩) ((Av a (at' fr u) (seen,q) k).1,(Av a (at' fr u) (seen,q) k).2,(k:Int))=some (.next ((Av a (at' fr u) (seen,q) (k+1)).1,(Av a (at' fr u) (seen,q) (k+1)).2,((k+1:Nat):Int)))∧
   dM a fr (u:Int) ((Av a (at' fr u) (seen,q) k).1,(Av a (at' fr u) (seen,q) k).2,(k:Int))=some (.next ((Av a (at' fr u) (seen,q) (k+1)).1,(Av a (at' fr u) (seen,q) (k+1)).2,((k+1:Nat):Int))):=by
  intro k hk
  obtain⟨par,rk,t,h1,h2,h3,h4⟩:=JB hN h hu hY k (by omega)
  obtain⟨i,e,hi,hti⟩:=hN.fr1 u hu _ (at_mem hk)
  have ei:(at' (at' fr u) k).toNat=i:=by rw [e];rfl
  rw [Av,ei]
  generalize Av a (at' fr u) (seen,q) k=z at h1 h4 ⊢
  obtain⟨sn,qq⟩:=z
  have hsl:=h1.sl
  have hql:qq.length≤n:=by have h4':lq sn+qq.length=lq seen+q.length:=h4;omega
  have hto:=hN.to i hi
  have htg:=hN.tl hi
  have hsl':sn.length=n:=hsl
  constructor
  ·unfold dX MV
   dsimp only
   rw [Int.toNat_natCast,Int.toNat_natCast,e,Int.toNat_natCast,JR (by omega),cond_true,aH (by omega),aH (by rw [hN.len];omega),aH (fun _=>by omega),aH (by omega),wr (x:=(k:Int)+1) (by omega),SS]
   rw [show(at' a i).left=iB a i from rfl,show(at' a i).to_.toNat=tgt a i from rfl]
   unfold jJ
   rw [aH ⟨by simp only [List.length_singleton];omega,by simp only [List.length_singleton];omega⟩]
   cases decide (0<iB a i)<;>cases at' sn (tgt a i)<;>rfl
  ·unfold dM MV
   dsimp only
   rw [Int.toNat_natCast,Int.toNat_natCast,e,Int.toNat_natCast,JR (by omega),cond_true,aH (by omega),aH (by rw [hN.len];omega),aH (fun _=>by omega),aH (by omega),wr (x:=(k:Int)+1) (by omega),SS]
   rw [show(at' a i).left=iB a i from rfl,show(at' a i).to_.toNat=tgt a i from rfl]
   unfold jJ
   rw [aH ⟨by simp only [List.length_singleton];omega,by simp only [List.length_singleton];omega⟩]
   cases decide (0<iB a i)<;>cases at' sn (tgt a i)<;>rfl
 constructor
 ·refine eP (fun k=>((Av a (at' fr u) (seen,q) k).1,(Av a (at' fr u) (seen,q) k).2,(k:Int))) (at' fr u).length _ (fuel_lt (by omega)) (fun k hk=>(step k hk).1) ?_
  unfold dX
  dsimp only
  rw [Int.toNat_natCast,zN (by omega)];rfl
 ·refine eP (fun k=>((Av a (at' fr u) (seen,q) k).1,(Av a (at' fr u) (seen,q) k).2,(k:Int))) (at' fr u).length _ (fuel_lt (by omega)) (fun k hk=>(step k hk).2) ?_
  unfold dM
  dsimp only
  rw [Int.toNat_natCast,zN (by omega)];rfl
end
def Apart (m:Nat) (a:List bY) (sink:Nat):Prop:= ∃K:Nat→Prop,U0 m a K∧K 0∧ ¬ K sink
section
variable {n m:Nat} {a:List bY} {fr:List (List Int)} (hN:NW n m a fr)
include hN
theorem NY {sink:Nat} (h0:sink≠0) (hs:sink<n): ∃r,gX (sink:Int) (List.replicate n 0) ⟨a,fr⟩=some r∧
  ((r.1=0∧r.2.2=⟨a,fr⟩∧Apart m a sink)∨(r.1=2∧ ∃a',r.2.2=⟨a',fr⟩∧Sm m a a'∧(∀v,v≠0→v≠sink→lg m a' v=lg m a v)∧lg m a' sink<lg m a sink)):=by
 have hn:=hN.n1
 have key:=r9 (body:=iI (sink:Int))
  (fun s:List bY × List (List Int) × List Int × List Bool × List ah × Int × Int=>s.1=a∧s.2.1=fr∧s.2.2.1.length=n∧(∃par rk t Y,BI n m a s.2.2.1 s.2.2.2.1 (⟨s.2.2.2.2.2.1,s.2.2.2.2.2.2⟩::s.2.2.2.2.1) (fun _=>False) par rk t Y∧ ¬ Y sink)∧lq s.2.2.2.1+s.2.2.2.2.1.length+1≤n)
  (fun s=>lq s.2.2.2.1+s.2.2.2.2.1.length+1)
  (fun r:Ex Unit (Nat × List Int × Network)=> ∃v,r= .ret v∧((v.1=0∧v.2.2=⟨a,fr⟩∧Apart m a sink)∨(v.1=2∧ ∃a',v.2.2=⟨a',fr⟩∧Sm m a a'∧(∀w,w≠0→w≠sink→lg m a' w=lg m a w)∧lg m a' sink<lg m a sink)))
  (fun s hI=> ?_)
 ·unfold gX
  dsimp only
  rw [hN.frl,aH ⟨by omega,by omega,by omega⟩,aH ⟨by omega,by rw [List.length_replicate];omega⟩]
  obtain⟨r,e,v,rfl,h⟩:=key FUEL (a,fr,List.replicate n 0,(List.replicate n false).set 0 true,[],0, -1) ⟨rfl,rfl,by simp,⟨_,_,_,_,BI.first hN,id⟩,by
   have:=(BI.first (bys:=[]) hN).tc
   show lq ((List.replicate n false).set 0 true)+0+1≤n
   omega⟩ (by
   have:=(BI.first (bys:=[]) hN).tc
   show lq ((List.replicate n false).set 0 true)+0+1<FUEL
   unfold FUEL
   omega)
  rw [Int.toNat_natCast,e]
  exact⟨v,rfl,h⟩
 ·obtain⟨a',fr',by_,seen,q,at0,at1⟩:=s
  obtain⟨rfl,rfl,hl,⟨par,rk,t,Y,hB,hY⟩,hc⟩:=hI
  dsimp only at hl hB hc ⊢
  obtain⟨u,e,hu,hB⟩:=hB.visit hN hl
  have e:at0=(u:Int):=e
  subst e
  unfold iI
  dsimp only
  have hl2:(by_.set u at1).length=n:=by rw [List.length_set];exact hl
  by_cases hus:u=sink
  ·subst hus
   obtain⟨K,p,hw,_⟩:=hB.way hN hl2 _ u (Nat.le_refl _) (.inr rfl)
   obtain⟨a'',e1,g1,g2,g3⟩:=M7 hN h0 (o:=by_) (x20:=at1) rfl hl hs hw
   rw [e1]
   exact .inr ⟨_,rfl,_,rfl, .inr ⟨rfl,a'',rfl,g1,g2,g3⟩⟩
  ·have e1:dS (u:Int) at1 (sink:Int) by_ ⟨a',fr'⟩=some (0,by_.set u at1,⟨a',fr'⟩):=by
    unfold dS
    rw [aH (by omega),decide_eq_false (by omega),Int.toNat_natCast];rfl
   rw [e1]
   simp only [Option.bind_some]
   rw [show Nat.beq 0 0=true from rfl,cond_true,aH (by rw [hN.frl];omega),(Ld hN hB (.inr rfl) (by omega) 0 _).1]
   obtain⟨par2,rk2,t2,h1,h2,h3,h4⟩:=JB hN hB hu (.inr rfl) (at' fr' u).length (Nat.le_refl _)
   have h5:=h1.done hN (.inr rfl) h2
   generalize Av a' (at' fr' u) (seen,q) (at' fr' u).length=z at h4 h5 ⊢
   obtain⟨sn,qq⟩:=z
   have hY2: ¬ (Y sink∨sink=u):=fun q=>q.elim hY (fun q=>hus q.symm)
   simp only [Option.bind_some]
   unfold jl
   cases qq with
   |nil=>
    right
    refine⟨_,rfl,_,rfl, .inl ⟨rfl,rfl,fun v=>v<n∧at' sn v=true, ?_,⟨by omega,h5.s0⟩, ?_⟩⟩
    ·rintro i hi hl ⟨hv,hs⟩
     rcases h5.g6 _ hv hs with⟨_,g⟩|⟨x,hx,_⟩|g
     ·exact⟨(hN.tl hi).1,g i hi rfl hl⟩
     ·cases hx
     ·exact g.elim
    ·rintro ⟨_,hss⟩
     rcases h5.g6 _ hs hss with⟨g,_⟩|⟨x,hx,_⟩|g
     ·exact hY2 g
     ·cases hx
     ·exact g.elim
   |cons x qr=>
    left
    have h4':lq sn+(qr.length+1)=lq seen+q.length:=h4
    refine⟨(a',fr',by_.set u at1,sn,qr,x.e0,x.e1), ?_,⟨rfl,rfl,hl2,⟨_,_,_,_,h5,hY2⟩, ?_⟩, ?_⟩
    ·simp only [List.length_cons]
     rw [decide_eq_false (by omega),cond_false,aH ⟨by omega,by omega⟩];rfl
    ·show lq sn+qr.length+1≤n
     omega
    ·show lq sn+qr.length+1<lq seen+q.length+1
     omega
theorem Uu {sink:Nat} (h0:sink≠0) (hs:sink<n): ∃a',jC (sink:Int) ⟨a,fr⟩=some ⟨a',fr⟩∧Sm m a a'∧(∀v,v≠0→v≠sink→lg m a' v=lg m a v)∧Apart m a' sink:=by
 have hn:=hN.n1
 have key:=r9 (body:=jM (sink:Int))
  (fun s:List bY × List (List Int)=>s.2=fr∧Sm m a s.1∧ ∀v,v≠0→v≠sink→lg m s.1 v=lg m a v)
  (fun s=>(lg m s.1 sink).toNat)
  (fun r:Ex Unit Network=> ∃a',r= .ret ⟨a',fr⟩∧Sm m a a'∧(∀v,v≠0→v≠sink→lg m a' v=lg m a v)∧Apart m a' sink)
  (fun s hI=> ?_)
 ·obtain⟨r,e,a',rfl,h⟩:=key FUEL (a,fr) ⟨rfl,⟨rfl,fun _=>rfl,fun _ _=>rfl,fun j hj=>(hN.left j hj).1⟩,fun _ _ _=>rfl⟩ (by
   have:=hN.res sink
   show(lg m a sink).toNat<FUEL
   unfold FUEL;omega)
  unfold jC
  dsimp only
  rw [e]
  exact⟨a',rfl,h⟩
 ·obtain⟨b,fr'⟩:=s
  obtain⟨rfl,h1,h2⟩:=hI
  dsimp only at h1 h2 ⊢
  have hN':=hN.same h1
  unfold jM
  dsimp only
  rw [hN.frl,aH ⟨by omega,by omega,by omega⟩,Int.toNat_natCast]
  obtain⟨r,e,h⟩:=NY hN' h0 hs
  unfold fU
  simp only [Option.bind_some]
  rw [e]
  simp only [Option.bind_some]
  rcases h with⟨r1,r2,r3⟩|⟨r1,a',r2,g1,g2,g3⟩
  ·right
   rw [r1,r2,show Nat.beq 0 0=true from rfl,cond_true]
   exact⟨_,rfl,b,rfl,h1,h2,r3⟩
  ·left
   rw [r1,r2,show Nat.beq 2 0=false from rfl,cond_false,aH rfl]
   refine⟨_,rfl,⟨rfl,h1.trans g1,fun v hv hv2=>(g2 v hv hv2).trans (h2 v hv hv2)⟩, ?_⟩
   have:=(hN'.same g1).res sink
   show(lg m a' sink).toNat<(lg m b sink).toNat
   omega
theorem QB {p:au} (hb:0≤p.buses∧p.buses<n): ∃cut,dW a fr p (List.replicate p.buses.toNat false)=some cut∧cut.length=p.buses.toNat∧
  ∃R:Nat→Prop,U0 m a R∧R 0∧(∀v,R v→v<n)∧(∀K,U0 m a K→K 0→ ∀v,R v→K v)∧ ∀b:Nat,(b:Int)<p.buses→(at' cut b=true↔R (b+1)):=by
 have hn:=hN.n1
 have key:=r9 (body:=gN a fr p)
  (fun s:List Bool × List Bool × List ah × Int × Int=>s.1.length=p.buses.toNat∧(∃bys par rk t Y,bys.length=n∧BI n m a bys s.2.1 (⟨s.2.2.2.1,s.2.2.2.2⟩::s.2.2.1) (fun _=>False) par rk t Y∧ ∀b:Nat,(b:Int)<p.buses→(at' s.1 b=true↔Y (b+1)))∧lq s.2.1+s.2.2.1.length+1≤n)
  (fun s=>lq s.2.1+s.2.2.1.length+1)
  (fun r:Ex Unit (List Bool)=> ∃cut,r= .ret cut∧cut.length=p.buses.toNat∧ ∃R:Nat→Prop,U0 m a R∧R 0∧(∀v,R v→v<n)∧(∀K,U0 m a K→K 0→ ∀v,R v→K v)∧ ∀b:Nat,(b:Int)<p.buses→(at' cut b=true↔R (b+1)))
  (fun s hI=> ?_)
 ·unfold dW
  rw [hN.frl,aH ⟨by omega,by omega,by omega⟩,aH ⟨by omega,by rw [List.length_replicate];omega⟩]
  obtain⟨r,e,v,rfl,h⟩:=key FUEL (List.replicate p.buses.toNat false,(List.replicate n false).set 0 true,[],0, -1) ⟨by simp,⟨List.replicate n 0,_,_,_,_,by simp,BI.first hN,fun b hb2=>by
   show at' (List.replicate p.buses.toNat false) b=true↔False
   rw [fJ (by omega)];simp⟩,by
   have:=(BI.first (bys:=[]) hN).tc
   show lq ((List.replicate n false).set 0 true)+0+1≤n
   omega⟩ (by
   have:=(BI.first (bys:=[]) hN).tc
   show lq ((List.replicate n false).set 0 true)+0+1<FUEL
   unfold FUEL
   omega)
  rw [Int.toNat_natCast,e]
  exact⟨v,rfl,h⟩
 ·obtain⟨o,seen,q,at0,at1⟩:=s
  obtain⟨ho,⟨bys,par,rk,t,Y,hl,hB,hO⟩,hc⟩:=hI
  dsimp only at ho hB hO hc ⊢
  obtain⟨u,e,hu,hB⟩:=hB.visit hN hl
  have e:at0=(u:Int):=e
  subst e
  unfold gN
  dsimp only
  have hl2:(bys.set u at1).length=n:=by rw [List.length_set];exact hl
  obtain⟨o2,e1,ho2,hO2⟩: ∃o2,kM (u:Int) at1 p o=some o2∧o2.length=p.buses.toNat∧ ∀b:Nat,(b:Int)<p.buses→(at' o2 b=true↔Y (b+1)∨b+1=u):=by
   unfold kM
   rw [wr (x:=(u:Int) - 1) (by omega)]
   by_cases c:0<(u:Int)∧(u:Int)≤p.buses
   ·rw [decide_eq_true c.1,decide_eq_true c.2]
    simp only [cond_true]
    rw [aH (by rw [ho];omega)]
    refine⟨_,rfl,by rw [List.length_set];exact ho,fun b hb2=> ?_⟩
    rw [fo (by rw [ho];omega),hO b hb2,or_comm]
    exact or_congr Iff.rfl (by omega)
   ·have:(bif decide (0<(u:Int))then decide ((u:Int)≤p.buses)else false)=false:=by
     by_cases c1:0<(u:Int)
     ·rw [decide_eq_true c1,cond_true,decide_eq_false (fun q=>c ⟨c1,q⟩)]
     ·rw [decide_eq_false c1,cond_false]
    rw [this,cond_false]
    exact⟨_,rfl,ho,fun b hb2=>(hO b hb2).trans ⟨.inl,fun q=>q.elim id (fun q=>by omega)⟩⟩
  rw [e1]
  simp only [Option.bind_some]
  rw [aH (by rw [hN.frl];omega),(Ld hN hB (.inr rfl) (by omega) 0 []).2]
  obtain⟨par2,rk2,t2,h1,h2,h3,h4⟩:=JB hN hB hu (.inr rfl) (at' fr u).length (Nat.le_refl _)
  have h5:=h1.done hN (.inr rfl) h2
  generalize Av a (at' fr u) (seen,q) (at' fr u).length=z at h4 h5 ⊢
  obtain⟨sn,qq⟩:=z
  simp only [Option.bind_some]
  unfold jl
  cases qq with
  |nil=>
   right
   have hall: ∀v,v<n→at' sn v=true→(Y v∨v=u)∧ ∀i,i<2*m→tgt a (tw i)=v→0<iB a i→at' sn (tgt a i)=true:=fun v hv hs=>by
    rcases h5.g6 _ hv hs with g|⟨x,hx,_⟩|g
    ·exact g
    ·cases hx
    ·exact g.elim
   refine⟨_,rfl,_,rfl,ho2,fun v=>v<n∧at' sn v=true, ?_,⟨by omega,h5.s0⟩,fun v h=>h.1,fun K hK hK0 v h=>h5.g7 K hK hK0 v h.1 h.2,fun b hb2=>(hO2 b hb2).trans ⟨fun h=> ?_,fun h=>(hall _ h.1 h.2).1⟩⟩
   ·rintro i hi hl ⟨hv,hs⟩
    exact⟨(hN.tl hi).1,(hall _ hv hs).2 i hi rfl hl⟩
   ·have:=h5.g3 (b+1) h
    exact⟨this.1,this.2.1⟩
  |cons x qr=>
   left
   have h4':lq sn+(qr.length+1)=lq seen+q.length:=h4
   refine⟨(o2,sn,qr,x.e0,x.e1), ?_,⟨ho2,⟨_,_,_,_,_,hl2,h5,hO2⟩, ?_⟩, ?_⟩
   ·simp only [List.length_cons]
    rw [decide_eq_false (by omega),cond_false,aH ⟨by omega,by omega⟩];rfl
   ·show lq sn+qr.length+1≤n
    omega
   ·show lq sn+qr.length+1<lq seen+q.length+1
    omega
end
def Pr (a:List bY) (j:Nat) (u v:Nat) (t k:Int):Prop:=at' a (2*j)=⟨(v:Int),t⟩∧at' a (2*j+1)=⟨(u:Int),k⟩
theorem sU {α:Type} [Inhabited α] {l x:List α} {i:Nat} (h:i<l.length):at' (l++x) i=at' l i:=by
 rw [eG (by rw [List.length_append];omega),eG h,List.getElem_append_left h]
theorem xB {α:Type} [Inhabited α] {l x:List α} {i:Nat} (h:i<x.length):at' (l++x) (l.length+i)=at' x i:=by
 rw [eG (by rw [List.length_append];omega),eG h,List.getElem_append_right (by omega)]
 congr 1;omega
theorem Pr.app {a x:List bY} {j u v:Nat} {t k:Int} (h:Pr a j u v t k) (hl:2*j+1<a.length):Pr (a++x) j u v t k:=⟨(sU (by omega)).trans h.1,(sU hl).trans h.2⟩
theorem JM {n m:Nat} {a:List bY} {fr:List (List Int)} (hN:NW n m a fr) {u v:Nat} {t k:Int} (hu:u<n) (hv:v<n) (huv:u≠v) (ht:0≤t) (hk:0≤k) (htk:t+k≤1000000) (hm:m+1≤1000):
  ∃fr',eF (u:Int) (v:Int) t k ⟨a,fr⟩=some (((2*m:Nat):Int),⟨a++[⟨(v:Int),t⟩,⟨(u:Int),k⟩],fr'⟩)∧NW n (m+1) (a++[⟨(v:Int),t⟩,⟨(u:Int),k⟩]) fr'∧Pr (a++[⟨(v:Int),t⟩,⟨(u:Int),k⟩]) m u v t k:=by
 have hlen:=hN.len
 have hfl:=hN.frl
 have hfu:=hN.frn u hu
 have hfv:=hN.frn v hv
 have hb: ∀i,i<2*m→at' (a++[⟨(v:Int),t⟩,⟨(u:Int),k⟩]) i=at' a i:=fun i hi=>sU (by omega)
 have hb0:at' (a++[⟨(v:Int),t⟩,⟨(u:Int),k⟩]) (2*m)=⟨(v:Int),t⟩:=by rw [←hlen];exact xB (i:=0) (by simp)
 have hb1:at' (a++[⟨(v:Int),t⟩,⟨(u:Int),k⟩]) (2*m+1)=⟨(u:Int),k⟩:=by rw [←hlen];exact xB (i:=1) (by simp)
 have e1:at' (fr.set u (at' fr u++[((2*m:Nat):Int)])) v=at' fr v:=bS huv
 refine⟨(fr.set u (at' fr u++[((2*m:Nat):Int)])).set v (at' fr v++[((2*m+1:Nat):Int)]), ?_, ?_,hb0,hb1⟩
 ·unfold eF
  dsimp only
  simp only [List.length_cons,List.length_nil]
  rw [Int.toNat_natCast,Int.toNat_natCast,aH ⟨by omega,by omega⟩,aH ⟨by omega,by omega,by omega⟩,hlen,e1,aH ⟨by rw [List.length_set];omega,by omega,by omega⟩,wr (x:=((2*m:Nat):Int)+1) (by omega),SS]
 ·have hfr: ∀w,at' ((fr.set u (at' fr u++[((2*m:Nat):Int)])).set v (at' fr v++[((2*m+1:Nat):Int)])) w=if w=v then at' fr v++[((2*m+1:Nat):Int)]else if w=u then at' fr u++[((2*m:Nat):Int)]else at' fr w:=fun w=>by
   by_cases h1:v=w
   ·subst h1;rw [dA (by rw [List.length_set];omega),if_pos rfl]
   ·rw [bS h1,if_neg (Ne.symm h1)]
    by_cases h2:u=w
    ·subst h2;rw [dA (by omega),if_pos rfl]
    ·rw [bS h2,if_neg (Ne.symm h2)]
  have tg: ∀i,i<2*m→tgt (a++[⟨(v:Int),t⟩,⟨(u:Int),k⟩]) i=tgt a i:=fun i hi=>by unfold tgt;rw [hb i hi]
  have tg0:tgt (a++[⟨(v:Int),t⟩,⟨(u:Int),k⟩]) (2*m)=v:=by unfold tgt;rw [hb0];rfl
  have tg1:tgt (a++[⟨(v:Int),t⟩,⟨(u:Int),k⟩]) (2*m+1)=u:=by unfold tgt;rw [hb1];rfl
  have t0:tw (2*m)=2*m+1:=by unfold tw;rw [if_pos (by omega)]
  have t1:tw (2*m+1)=2*m:=by unfold tw;rw [if_neg (by omega)];omega
  have cs: ∀i,i<2*(m+1)→i<2*m∨i=2*m∨i=2*m+1:=fun i hi=>by omega
  refine⟨hN.n1,hm,by simp;omega,fun i hi=> ?_,fun i hi=> ?_,by simp [hfl],fun w hw x hx=> ?_,fun i hi=> ?_,fun w hw=> ?_⟩
  ·rcases cs i hi with h|rfl|rfl
   ·rw [hb i h];exact hN.to i h
   ·rw [hb0];show 0≤(v:Int)∧(v:Int)<n;omega
   ·rw [hb1];show 0≤(u:Int)∧(u:Int)<n;omega
  ·unfold iB
   rcases cs i hi with h|rfl|rfl
   ·rw [hb i h,hb _ (CY h)];exact hN.left i h
   ·rw [t0,hb0,hb1];exact⟨ht,htk⟩
   ·rw [t1,hb0,hb1];exact⟨hk,by show k+t≤_;omega⟩
  ·rw [hfr]at hx
   have old: ∀w,w<n→ ∀x∈at' fr w,∃i:Nat,x=(i:Int)∧i<2*(m+1)∧tgt (a++[⟨(v:Int),t⟩,⟨(u:Int),k⟩]) (tw i)=w:=fun w hw x hx=>by
    obtain⟨i,h1,h2,h3⟩:=hN.fr1 w hw x hx
    exact⟨i,h1,by omega,by rw [tg _ (CY h2)];exact h3⟩
   split at hx
   ·rename_i e;subst e
    rw [List.mem_append,List.mem_singleton]at hx
    rcases hx with hx|rfl
    ·exact old _ hw x hx
    ·exact⟨_,rfl,by omega,by rw [t1];exact tg0⟩
   ·split at hx
    ·rename_i e;subst e
     rw [List.mem_append,List.mem_singleton]at hx
     rcases hx with hx|rfl
     ·exact old _ hw x hx
     ·exact⟨_,rfl,by omega,by rw [t0];exact tg1⟩
    ·exact old _ hw x hx
  ·rw [hfr]
   rcases cs i hi with h|rfl|rfl
   ·rw [tg _ (CY h)]
    have:=hN.fr2 i h
    split
    ·rename_i e;rw [e]at this;exact List.mem_append_left _ this
    ·split
     ·rename_i e;rw [e]at this;exact List.mem_append_left _ this
     ·exact this
   ·rw [t0,tg1,if_neg huv,if_pos rfl];exact List.mem_append_right _ (List.mem_singleton_self _)
   ·rw [t1,tg0,if_pos rfl];exact List.mem_append_right _ (List.mem_singleton_self _)
  ·rw [hfr]
   have:=hN.frn w hw
   split
   ·rw [List.length_append,List.length_singleton];omega
   ·split
    ·rw [List.length_append,List.length_singleton];omega
    ·omega
theorem NW.nil {n:Nat} (h:1≤n∧n≤1000):NW n 0 [] (List.replicate n []):=by
 refine⟨h,by omega,rfl,fun i hi=>by omega,fun i hi=>by omega,by simp,fun v hv x hx=> ?_,fun i hi=>by omega,fun v hv=> ?_⟩
 ·rw [fJ hv]at hx;cases hx
 ·rw [fJ hv];simp
def jO (f:Nat→Bool):Nat→Nat
 |0=>0
 |k+1=>jO f k+(if f k=true then 1 else 0)
theorem BP (f:Nat→Bool) (k:Nat):jO f (k+1)=jO f k+(if f k=true then 1 else 0):=rfl
theorem JA (f:Nat→Bool) (k:Nat):jO f k≤k:=by
 induction k with
 |zero=>exact Nat.le_refl _
 |succ k ih=>rw [BP];split<;>omega
theorem Q6 (f:Nat→Bool) {j k:Nat} (h:j≤k):jO f j≤jO f k:=by
 induction k with
 |zero=>
  have:j=0:=by omega
  subst this;exact Nat.le_refl _
 |succ k ih=>
  by_cases e:j=k+1
  ·subst e;exact Nat.le_refl _
  ·have:=ih (by omega);rw [BP];split<;>omega
theorem wV {f:Nat→Bool} {j k:Nat} (h:j<k) (hf:f j=true):jO f j<jO f k:=by
 have h1:jO f (j+1)=jO f j+1:=by show jO f j+_=_;rw [if_pos hf]
 have:=Q6 f (show j+1≤k by omega)
 omega
theorem JO (f:Nat→Bool) (g:Nat→Int) (o:Nat): ∀k,bP (o+jO f k) g=bP o g+bP k fun i=>if f i=true then g (o+jO f i)else 0
 |0=>by simp [jO,bP]
 |k+1=>by
  have ih:=JO f g o k
  rw [BP,bP]
  cases hf:f k with
  |true=>rw [if_pos rfl,if_pos rfl,show o+(jO f k+1)=(o+jO f k)+1 by omega,bP,ih];omega
  |false=>rw [if_neg (by simp),if_neg (by simp),Nat.add_zero,ih];omega
def Jb (f:Nat→Bool) (o:Nat):Nat→List (Int × Int)
 |0=>[]
 |k+1=>Jb f o k++(if f k=true then [((k:Int),((2*(o+jO f k):Nat):Int))]else [])
theorem Df {f:Nat→Bool} {o:Nat}: ∀{k:Nat} {e:Int × Int},e∈Jb f o k↔ ∃i,i<k∧f i=true∧e=((i:Int),((2*(o+jO f i):Nat):Int))
 |0,e=>by simp [Jb]
 |k+1,e=>by
  unfold Jb
  rw [List.mem_append,Df]
  constructor
  ·rintro (⟨i,h1,h2,h3⟩|h)
   ·exact⟨i,by omega,h2,h3⟩
   ·split at h
    ·rename_i hf;rw [List.mem_singleton]at h;exact⟨k,by omega,hf,h⟩
    ·cases h
  ·rintro ⟨i,h1,h2,h3⟩
   by_cases e1:i=k
   ·subst e1;right;rw [if_pos h2,List.mem_singleton];exact h3
   ·exact .inl ⟨i,by omega,h2,h3⟩
theorem Cy {κ α:Type} {eq:κ→κ→Bool} {k:κ} {v:α}: ∀{l:List (κ × α)},(∀e∈l,eq k e.1=false)→dL eq k v l=l++[(k,v)]
 |[],_=>rfl
 |(k',v')::l,h=>by
  have h1:=h (k',v') List.mem_cons_self
  unfold dL
  rw [h1,cond_false,Cy fun e he=>h e (List.mem_cons_of_mem _ he)];rfl
section
variable {p:au} {s:State} (hp:VP p) (hs:VS p s)
include hp hs
def nodes (p:au):Nat:=2+p.buses.toNat+p.racks.length
theorem RN: ∃a fr,aV (jY p s) FUEL ([],List.replicate (nodes p) [],[],0)=some (.brk (p.sources,a,fr,List.replicate p.sources.length 0,Jb (bG p s) 0 p.sources.length))∧NW (nodes p) (jO (bG p s) p.sources.length) a fr∧
  ∀k,k<p.sources.length→bG p s k=true→Pr a (jO (bG p s) k) 0 (1+(at' p.sources k).bus.toNat) (at' p.sources k).power 0:=by
 have hsl:=hp.sl;have hrl:=hp.rl;have hb:=hp.b
 have key:=r9 (body:=jY p s)
  (fun z:List bY × List (List Int) × List (Int × Int) × Int=> ∃k:Nat,z.2.2.2=(k:Int)∧k≤p.sources.length∧NW (nodes p) (jO (bG p s) k) z.1 z.2.1∧z.2.2.1=Jb (bG p s) 0 k∧ ∀j,j<k→bG p s j=true→Pr z.1 (jO (bG p s) j) 0 (1+(at' p.sources j).bus.toNat) (at' p.sources j).power 0)
  (fun z=>p.sources.length - z.2.2.2.toNat)
  (fun r=> ∃a fr,r= .brk (p.sources,a,fr,List.replicate p.sources.length 0,Jb (bG p s) 0 p.sources.length)∧NW (nodes p) (jO (bG p s) p.sources.length) a fr∧ ∀k,k<p.sources.length→bG p s k=true→Pr a (jO (bG p s) k) 0 (1+(at' p.sources k).bus.toNat) (at' p.sources k).power 0)
  (fun z hI=> ?_)
 ·obtain⟨r,e,a,fr,rfl,h⟩:=key FUEL ([],List.replicate (nodes p) [],[],0) ⟨0,rfl,by omega,NW.nil (by unfold nodes;omega),rfl,fun j hj=>by omega⟩ (by show p.sources.length - _<FUEL;unfold FUEL;omega)
  exact⟨a,fr,e,h⟩
 ·obtain⟨a,fr,mp,t⟩:=z
  obtain⟨k,rfl,hk,hN,hm,hP⟩:=hI
  dsimp only at hN hm hP ⊢
  subst hm
  unfold jY
  dsimp only
  by_cases hk2:k<p.sources.length
  ·left
   have hv:=hp.src k hk2;have hbus:=hv.bus;have hw:=hv.power
   have hcl:=JA (bG p s) k
   rw [JR (by omega),cond_true,aH (by omega),Jm hp hs hk2,Option.bind_some,Int.toNat_natCast,wr (x:=(k:Int)+1) (by omega)]
   have h1:jO (bG p s) (k+1)=jO (bG p s) k+(if bG p s k=true then 1 else 0):=rfl
   have hm1:Jb (bG p s) 0 (k+1)=Jb (bG p s) 0 k++(if bG p s k=true then [((k:Int),((2*(0+jO (bG p s) k):Nat):Int))]else []):=rfl
   cases hf:bG p s k with
   |false=>
    rw [hf,if_neg (by simp)]at h1 hm1
    rw [cond_false]
    refine⟨_,rfl,⟨k+1,by simp,by omega,by rw [h1];exact hN,by rw [hm1,List.append_nil],fun j hj hfj=> ?_⟩, ?_⟩
    ·by_cases e:j=k
     ·subst e;rw [hf]at hfj;cases hfj
     ·exact hP j (by omega) hfj
    ·show p.sources.length - ((k:Int)+1).toNat<p.sources.length - (k:Int).toNat
     omega
   |true=>
    rw [hf,if_pos rfl]at h1 hm1
    have e1:IntKind.wrap .i64 (1+(at' p.sources k).bus)=((1+(at' p.sources k).bus.toNat:Nat):Int):=by rw [wr (by omega)];omega
    obtain⟨fr',g1,g2,g3⟩:=JM hN (u:=0) (v:=1+(at' p.sources k).bus.toNat) (t:=(at' p.sources k).power) (k:=0) (by unfold nodes;omega) (by unfold nodes;omega) (by omega) (by omega) (by omega) (by omega) (by omega)
    rw [cond_true,e1]
    have g1':eF 0 ((1+(at' p.sources k).bus.toNat:Nat):Int) (at' p.sources k).power 0 ⟨a,fr⟩=_:=g1
    rw [g1',Option.bind_some]
    refine⟨_,rfl,⟨k+1,by simp,by omega,by rw [h1];exact g2, ?_,fun j hj hfj=> ?_⟩, ?_⟩
    ·rw [hm1]
     rw [Nat.zero_add]
     exact Cy fun e he=>by
      obtain⟨i,h1,h2,rfl⟩:=Df.1 he
      exact EZ (by show(k:Int)≠(i:Int);omega)
    ·by_cases e:j=k
     ·subst e;exact g3
     ·refine(hP j (by omega) hfj).app ?_
      have:=wV (show j<k by omega) hfj
      rw [hN.len];omega
    ·show p.sources.length - ((k:Int)+1).toNat<p.sources.length - (k:Int).toNat
     omega
  ·right
   have:k=p.sources.length:=by omega
   subst this
   rw [zN (by omega),cond_false,Int.toNat_natCast]
   exact⟨_,rfl,a,fr,rfl,hN,hP⟩
end
end Sg
