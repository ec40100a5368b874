import Derived.Test.YtklofnlffikpgaaGreatHaLc
import Derived.Test.YtklofnlffikpgaaGreatHaGm
set_option linter.all false
namespace Sg
open Go
theorem wr {x:Int} (h: -9223372036854775808≤x∧x≤9223372036854775807):IntKind.wrap .i64 x=x:=by rw [IntKind.wrap_i64];omega
theorem lJ {σ ρ:Type} {body:σ→Option (bA σ ρ)}: ∀{n m:Nat} {s:σ} {r:ρ},aJ body n s=some r→n≤m→aJ body m s=some r
 |0,_,_,_,h,_=>by cases h
 |n+1,0,_,_,_,hm=>by omega
 |n+1,m+1,s,r,h,hm=>by
  rw [dw]at h ⊢
  revert h
  cases body s with
  |none=>exact id
  |some f=>
   cases f with
   |next s'=>exact fun h=>lJ h (by omega)
   |done r=>exact id
theorem Gb {σ ρ:Type} {body:σ→Option (bA σ ρ)} (S:Nat→σ) (k:Nat) (hs: ∀i,i<k→body (S i)=some (.next (S (i+1)))): ∀(m:Nat),aJ body (k+m) (S 0)=aJ body m (S k):=by
 induction k with
 |zero=>intro m;simp
 |succ k ih=>
  intro m
  have:=ih (fun i hi=>hs i (by omega)) (m+1)
  rw [show k+1+m=k+(m+1) by omega,this,dw,hs k (by omega)]
theorem eO {σ ρ:Type} {body:σ→Option (bA σ ρ)} {N:Nat} (S:Nat→σ) (k:Nat) (r:ρ) (hk:k<N) (hs: ∀i,i<k→body (S i)=some (.next (S (i+1)))) (hd:body (S k)=some (.done r)):aJ body N (S 0)=some r:=by
 have h:=Gb S k hs 1
 have h1:aJ body 1 (S k)=some r:=by rw [dw,hd]
 exact lJ (h.trans h1) (by omega)
theorem fuel_lt {k:Nat} (h:k≤9223372036854775807):k<FUEL:=by unfold FUEL;omega
section
variable {α:Type} [Inhabited α]
theorem gF {l:List α} {i:Nat} (h:i<l.length):at' l i=l[i]:=by simp [at',h]
theorem at_mem {l:List α} {i:Nat} (h:i<l.length):at' l i∈l:=by rw [gF h];exact List.getElem_mem h
theorem iI {l:List α} {x:α} (h:x∈l): ∃i,i<l.length∧at' l i=x:=by
 obtain⟨i,hi,e⟩:=List.mem_iff_getElem.mp h
 exact⟨i,hi,by rw [gF hi];exact e⟩
theorem HY {l m:List α} (hl:l.length=m.length) (h: ∀i,i<l.length→at' l i=at' m i):l=m:=by
 apply List.ext_getElem hl
 intro i h1 h2
 have:=h i h1
 rwa [gF h1,gF h2]at this
theorem nJ {l:List α} {i:Nat} (h:i<l.length):l.take (i+1)=l.take i++[at' l i]:=by
 rw [gF h,List.take_succ_eq_append_getElem h]
theorem lI {ρ:Type} {body:Int→Option (bA Int (Ex Unit ρ))} (l:List α) (bad:α→Bool) (f:Int→ρ) (hl:l.length≤9223372036854775807)
  (hb: ∀i:Nat,i<l.length→body i=some (bif bad (at' l i)then .done (.ret (f i))else .next ((i:Int)+1))) (he:body l.length=some (.done (.brk ()))):
  aJ body FUEL 0=some (match l.findIdx? bad with|some i=> .ret (f i)|none=> .brk ()):=by
 cases h:l.findIdx? bad with
 |none=>
  rw [List.findIdx?_eq_none_iff]at h
  refine eO (fun i=>(i:Int)) l.length _ (fuel_lt (by omega)) (fun i hi=> ?_) he
  rw [hb i hi,h _ (at_mem hi)];simp
 |some k=>
  rw [List.findIdx?_eq_some_iff_getElem]at h
  obtain⟨hk,hp,hn⟩:=h
  refine eO (fun i=>(i:Int)) k _ (fuel_lt (by omega)) (fun i hi=> ?_) ?_
  ·have:=hn i hi
   rw [hb i (by omega),gF (by omega)]
   simp [this]
  ·rw [hb k hk,gF hk,hp];rfl
omit [Inhabited α]in
theorem jZ (l:List α) (bad:α→Bool):(decide ((0:Int)≤(match l.findIdx? bad with|some i=>(i:Int)|none=> -1)))=l.any bad:=by
 cases h:l.findIdx? bad with
 |none=>
  rw [List.findIdx?_eq_none_iff]at h
  have:l.any bad=false:=by rw [List.any_eq_false];intro x hx;simp [h x hx]
  rw [this];simp
 |some k=>
  rw [List.findIdx?_eq_some_iff_getElem]at h
  obtain⟨hk,hp,hn⟩:=h
  have:l.any bad=true:=by rw [List.any_eq_true];exact⟨_,List.getElem_mem hk,hp⟩
  rw [this];simp
end
section
variable {α:Type}
theorem Eh {a b:Int}:bO a b=true↔a=b:=by simp [bO]
theorem Br (a:Int):bO a a=true:=Eh.mpr rfl
theorem IA {a b:Int} (h:a≠b):bO a b=false:=by cases e:bO a b with|false=>rfl|true=>exact absurd (Eh.mp e) h
theorem fC (k:Int) (v:α): ∀l:List (Int × α),aQ bO k (fe bO k v l)=some v
 |[]=>by simp [fe,aQ,Br]
 |(k',v')::l=>by
  unfold fe
  cases e:bO k k' with
  |true=>simp [aQ,Br]
  |false=>simp only [cond_false,aQ,e];exact fC k v l
theorem iD {k j:Int} (h:j≠k) (v:α): ∀l:List (Int × α),aQ bO j (fe bO k v l)=aQ bO j l
 |[]=>by simp [fe,aQ,IA h]
 |(k',v')::l=>by
  unfold fe
  cases e:bO k k' with
  |true=>
   have:k=k':=Eh.mp e
   subst this
   simp [aQ,IA h]
  |false=>simp only [cond_false,aQ,iD h v l]
end
theorem zS {α:Type} (c:Bool) (x y:α):(bif c then some x else some y)=some (bif c then x else y):=by cases c<;>rfl
theorem lZ {ρ:Type} {body:Int→Option (bA Int (Ex Unit ρ))} (n:Nat) (bad:Nat→Bool) (f:Int→ρ) (hl:n≤9223372036854775807)
  (hb: ∀i:Nat,i<n→body i=some (bif bad i then .done (.ret (f i))else .next ((i:Int)+1))) (he:body n=some (.done (.brk ()))):
  aJ body FUEL 0=some (match(List.range n).find? bad with|some i=> .ret (f i)|none=> .brk ()):=by
 cases h:(List.range n).find? bad with
 |none=>
  rw [List.find?_eq_none]at h
  refine eO (fun i=>(i:Int)) n _ (fuel_lt (by omega)) (fun i hi=> ?_) he
  rw [hb i hi]
  have:=h i (List.mem_range.mpr hi)
  simp at this;simp [this]
 |some k=>
  rw [List.find?_range_eq_some]at h
  obtain⟨hp,hk,hn⟩:=h
  rw [List.mem_range]at hk
  refine eO (fun i=>(i:Int)) k _ (fuel_lt (by omega)) (fun i hi=> ?_) ?_
  ·have:=hn i hi
   rw [hb i (by omega)]
   simp at this;simp [this]
  ·rw [hb k hk,hp];rfl
theorem uK {α:Type} (p:α→Bool): ∀l:List α,(l.find? p).isSome=l.any p
 |[]=>rfl
 |x::l=>by
  rw [List.any_cons,List.find?_cons]
  cases h:p x with
  |true=>simp
  |false=>simpa using uK p l
def wi (n a b:Int):Bool:=decide (a≤n) && decide (n≤b)
theorem yD {n a b:Int}:wi n a b=true↔a≤n∧n≤b:=by simp [wi]
theorem qI (n a b:Int):aK n a b=some (wi n a b):=by
 unfold aK wi;cases decide (a≤n)<;>rfl
def pq (b:Int) (x:Source):Bool:=wi x.bus 0 (b - 1) && wi x.kind 1 3 && wi x.power 1 100000 && wi x.sync 0 8 && wi x.ohm 10 100000
theorem Jk {b:Int} (hb:1≤b∧b≤24) (x:Source) (l1:List Source) (l2:List Link) (l3:List aN):jw x b l1 l2 l3=some (pq b x):=by
 unfold jw pq
 simp only [qI,Option.bind_some]
 rw [wr (by omega)]
 generalize wi x.bus 0 (b - 1)=b1
 generalize wi x.kind 1 3=b2
 generalize wi x.power 1 100000=b3
 generalize wi x.sync 0 8=b4
 generalize wi x.ohm 10 100000=b5
 cases b1<;>cases b2<;>cases b3<;>cases b4<;>cases b5<;>rfl
def pE (l:List qd) (i:Nat):Bool:=
 !wi (at' l i).amps 1 1000000|| !wi (at' l i).millis 1 100000||(decide (0<i) && (decide ((at' l i).amps≤(at' l (i - 1)).amps)||decide ((at' l (i - 1)).millis≤(at' l i).millis)))
def kJ (b:Int) (x:Link):Bool:=
 wi x.a 0 (b - 1) && wi x.b 0 (b - 1) && !decide (x.a=x.b) && wi x.kind 1 3 && wi x.most 1 100000 && wi x.ohm 10 100000 && !(List.range x.trip.length).any (pE x.trip) && decide ((x.trip.length:Int)≤6) && (decide ((x.trip.length:Int)=0)||decide (x.kind=3))
theorem OT {α:Type} [Inhabited α] (l:List α) (i:Nat) (h:0<i):at' l (((i:Int) - 1).toNat)=at' l (i - 1):=by
 congr 1;omega
theorem Og (x:Link) (hx:x.trip.length≤9223372036854775807):aJ (iT x) FUEL 0=some (match(List.range x.trip.length).find? (pE x.trip)with|some _=> .ret false|none=> .brk ()):=by
 refine lZ x.trip.length (pE x.trip) (fun _=>false) hx (fun i hi=> ?_) ?_
 ·unfold iT
  have h1:decide ((i:Int)<(x.trip.length:Int))=true:=by simp;omega
  rw [h1,cond_true,aL (by omega)]
  simp only [qI,Option.bind_some,Int.toNat_natCast]
  rw [wr (x:=(i:Int) - 1) (by omega),wr (x:=(i:Int)+1) (by omega)]
  unfold pE
  by_cases h0:0<i
  ·rw [OT _ _ h0]
   simp only [h0,Int.natCast_pos,decide_true]
   generalize wi (at' x.trip i).amps 1 1000000=b1
   generalize wi (at' x.trip i).millis 1 100000=b2
   generalize decide ((at' x.trip i).amps≤(at' x.trip (i - 1)).amps)=b3
   generalize decide ((at' x.trip (i - 1)).millis≤(at' x.trip i).millis)=b4
   cases b1<;>cases b2<;>cases b3<;>cases b4<;>simp [gB,dh]<;>omega
  ·have:i=0:=by omega
   subst this
   generalize wi (at' x.trip 0).amps 1 1000000=b1
   generalize wi (at' x.trip 0).millis 1 100000=b2
   cases b1<;>cases b2<;>simp [gB,dh]
 ·unfold iT
  have h1:decide ((x.trip.length:Int)<(x.trip.length:Int))=false:=by simp
  rw [h1];rfl
theorem NS {b:Int} (hb:1≤b∧b≤24) (x:Link) (hx:x.trip.length≤9223372036854775807) (l1:List Source) (l2:List Link) (l3:List aN):ko x b l1 l2 l3=some (kJ b x):=by
 unfold ko kJ
 simp only [qI,Option.bind_some]
 rw [wr (by omega),Og x hx]
 generalize wi x.a 0 (b - 1)=b1
 generalize wi x.b 0 (b - 1)=b2
 generalize decide (x.a=x.b)=b3
 generalize wi x.kind 1 3=b4
 generalize wi x.most 1 100000=b5
 generalize wi x.ohm 10 100000=b6
 have:(List.range x.trip.length).any (pE x.trip)=((List.range x.trip.length).find? (pE x.trip)).isSome:=(uK _ _).symm
 rw [this]
 cases b1<;>cases b2<;>cases b3<;>cases b4<;>cases b5<;>cases b6<;>try rfl
 cases(List.range x.trip.length).find? (pE x.trip)with
 |some k=>simp [gB]
 |none=>
  simp only [gB,Option.bind_some,Option.isSome_none]
  generalize decide ((x.trip.length:Int)≤6)=c1
  generalize decide ((x.trip.length:Int)=0)=c2
  generalize decide (x.kind=3)=c3
  cases c1<;>cases c2<;>cases c3<;>rfl
def uR (x:aN):Int:=if x.feeds.e1= -1 then 1 else 2
def j6 (b:Int) (x:aN):Bool:=wi x.feeds.e0 0 (b - 1) && wi x.feeds.e1 (-1) (b - 1) && !decide (x.feeds.e0=x.feeds.e1) && wi x.power 1 100000 && wi x.paths 0 (uR x)
theorem M4 (x:aN):lU x=some (uR x):=by
 unfold lU uR
 by_cases h:x.feeds.e1= -1<;>simp [h]
theorem NA {b:Int} (hb:1≤b∧b≤24) (x:aN) (l1:List Source) (l2:List Link) (l3:List aN):kU x b l1 l2 l3=some (j6 b x):=by
 unfold kU j6
 simp only [qI,Option.bind_some,M4]
 rw [wr (by omega)]
 generalize wi x.feeds.e0 0 (b - 1)=b1
 generalize wi x.feeds.e1 (-1) (b - 1)=b2
 generalize decide (x.feeds.e0=x.feeds.e1)=b3
 generalize hb4:wi x.power 1 100000=b4
 cases b1<;>cases b2<;>cases b3<;>cases b4<;>simp [gB]<;>rfl
theorem mh {α ρ:Type} [Inhabited α] {l:List α} {i:Nat} (hi:i<l.length) (hl:l.length≤9223372036854775807) (b:Bool) (f:Int→ρ) (G:Option (bA Int (Ex Unit ρ))):
  (bif (decide ((i:Int)<(l.length:Int)))then((some b).bind fun r_=>dh ((0:Int)≤(i:Int)∧(i:Int)<(l.length:Int)) (bif r_ then some (.done (.ret (f (i:Int))))else some (.next (IntKind.wrap .i64 ((i:Int)+1)))))else G)=some (bif b then .done (.ret (f i))else .next ((i:Int)+1)):=by
 have h1:decide ((i:Int)<(l.length:Int))=true:=by simp;omega
 rw [h1,cond_true,Option.bind_some,aL (by omega),wr (by omega)]
 cases b<;>rfl
theorem Mx {b:Int} (hb:1≤b∧b≤24) (l:List Source) (hl:l.length≤9223372036854775807) (m:Int) (l1:List Source) (l2:List Link) (l3:List aN):
  nk l m b l1 l2 l3=some (decide ((l.length:Int)≤m) && l.all (pq b)):=by
 have hs:fH l b l1 l2 l3=some (l.any fun x=> !pq b x):=by
  unfold fH jS
  rw [lI l (fun x=> !pq b x) id hl (fun i hi=> ?_) ?_]
  ·rw [←jZ];cases l.findIdx? fun x=> !pq b x<;>rfl
  ·unfold iL;simp
  ·unfold iL og
   rw [Int.toNat_natCast,Jk hb,Option.bind_some]
   exact mh hi hl _ id _
 unfold nk
 rw [hs]
 have:(!l.any fun x=> !pq b x)=l.all (pq b):=by rw [List.not_any_eq_all_not];simp
 rw [←this]
 cases decide ((l.length:Int)≤m)<;>simp [gB]
theorem Jv {b:Int} (hb:1≤b∧b≤24) (l:List Link) (hl:l.length≤9223372036854775807) (ht: ∀x∈l,x.trip.length≤9223372036854775807) (m:Int) (l1:List Source) (l2:List Link) (l3:List aN):
  kW l m b l1 l2 l3=some (decide ((l.length:Int)≤m) && l.all (kJ b)):=by
 have hs:d9 l b l1 l2 l3=some (l.any fun x=> !kJ b x):=by
  unfold d9 iN
  rw [lI l (fun x=> !kJ b x) id hl (fun i hi=> ?_) ?_]
  ·rw [←jZ];cases l.findIdx? fun x=> !kJ b x<;>rfl
  ·unfold gG;simp
  ·unfold gG ku
   rw [Int.toNat_natCast,NS hb _ (ht _ (at_mem hi)),Option.bind_some]
   exact mh hi hl _ id _
 unfold kW
 rw [hs]
 have:(!l.any fun x=> !kJ b x)=l.all (kJ b):=by rw [List.not_any_eq_all_not];simp
 rw [←this]
 cases decide ((l.length:Int)≤m)<;>simp [gB]
theorem Jy {b:Int} (hb:1≤b∧b≤24) (l:List aN) (hl:l.length≤9223372036854775807) (m:Int) (l1:List Source) (l2:List Link) (l3:List aN):
  kF l m b l1 l2 l3=some (decide ((l.length:Int)≤m) && l.all (j6 b)):=by
 have hs:eu l b l1 l2 l3=some (l.any fun x=> !j6 b x):=by
  unfold eu iM
  rw [lI l (fun x=> !j6 b x) id hl (fun i hi=> ?_) ?_]
  ·rw [←jZ];cases l.findIdx? fun x=> !j6 b x<;>rfl
  ·unfold gI;simp
  ·unfold gI kQ
   rw [Int.toNat_natCast,NA hb,Option.bind_some]
   exact mh hi hl _ id _
 unfold kF
 rw [hs]
 have:(!l.any fun x=> !j6 b x)=l.all (j6 b):=by rw [List.not_any_eq_all_not];simp
 rw [←this]
 cases decide ((l.length:Int)≤m)<;>simp [gB]
structure Small (p:au):Prop where
 src:p.sources.length≤9223372036854775807
 lnk:p.links.length≤9223372036854775807
 rck:p.racks.length≤9223372036854775807
 trp: ∀x∈p.links,x.trip.length≤9223372036854775807
def qX (p:au):Int:=
 if wi p.buses 1 24=false then 10 else if(decide ((p.sources.length:Int)≤8) && p.sources.all (pq p.buses))=false then 11
 else if(decide ((p.links.length:Int)≤40) && p.links.all (kJ p.buses))=false then 12 else if(decide ((p.racks.length:Int)≤24) && p.racks.all (j6 p.buses))=false then 13 else 0
theorem K8 (p:au) (hp:Small p):jO p=some (qX p):=by
 unfold jO qX
 simp only [qI,Option.bind_some,nZ,rF,rA]
 cases h0:wi p.buses 1 24 with
 |false=>simp
 |true=>
  have hb:=yD.mp h0
  rw [Mx hb _ hp.src,Jv hb _ hp.lnk hp.trp,Jy hb _ hp.rck]
  simp only [Option.bind_some,Bool.not_true,cond_false]
  generalize (decide ((p.sources.length:Int)≤8) && p.sources.all (pq p.buses))=b1
  generalize (decide ((p.links.length:Int)≤40) && p.links.all (kJ p.buses))=b2
  generalize (decide ((p.racks.length:Int)≤24) && p.racks.all (j6 p.buses))=b3
  cases b1<;>cases b2<;>cases b3<;>simp
def mU (p:au) (s:State):Bool:=
 decide (s.closed.length=p.links.length) && decide (s.locked.length=p.links.length) && decide (s.badLink.length=p.links.length) && decide (s.on_.length=p.sources.length) && decide (s.badSource.length=p.sources.length) &&
 decide ((s.earthed.length:Int)=p.buses) && decide ((s.badBus.length:Int)=p.buses)
def jg (p:au) (s:State) (i:Nat):Bool:=decide ((at' p.links i).kind=1) && (!at' s.closed i||at' s.locked i)
def oL (p:au) (s:State):Int:=if qX p≠0 then qX p else if mU p s && !(List.range p.links.length).any (jg p s)then 0 else 9
theorem lW (p:au) (s:State) (hp:Small p):bP p s=some (oL p s):=by
 unfold bP oL
 rw [K8 p hp,Option.bind_some]
 by_cases hc:qX p=0
 ·rw [hc]
  simp only [decide_true,Bool.not_true,cond_false,ne_eq,not_true_eq_false,if_false]
  have h0:aJ (fK p s) FUEL 0=some (bif mU p s then .brk ()else .ret 9):=by
   have key:=lZ (body:=fK p s) 7 (fun i=> !decide (((at' [(⟨s.closed,(p.links.length:Int)⟩:bM),(⟨s.locked,(p.links.length:Int)⟩:bM),(⟨s.badLink,(p.links.length:Int)⟩:bM),(⟨s.on_,(p.sources.length:Int)⟩:bM),(⟨s.badSource,(p.sources.length:Int)⟩:bM),(⟨s.earthed,p.buses⟩:bM),(⟨s.badBus,p.buses⟩:bM)] i).l.length:Int)=(at' [(⟨s.closed,(p.links.length:Int)⟩:bM),(⟨s.locked,(p.links.length:Int)⟩:bM),(⟨s.badLink,(p.links.length:Int)⟩:bM),(⟨s.on_,(p.sources.length:Int)⟩:bM),(⟨s.badSource,(p.sources.length:Int)⟩:bM),(⟨s.earthed,p.buses⟩:bM),(⟨s.badBus,p.buses⟩:bM)] i).n)) (fun _=>(9:Int)) (by omega) (fun i hi=> ?_) ?_
   ·rw [key]
    have e:((List.range 7).find? fun i=> !decide (((at' [(⟨s.closed,(p.links.length:Int)⟩:bM),(⟨s.locked,(p.links.length:Int)⟩:bM),(⟨s.badLink,(p.links.length:Int)⟩:bM),(⟨s.on_,(p.sources.length:Int)⟩:bM),(⟨s.badSource,(p.sources.length:Int)⟩:bM),(⟨s.earthed,p.buses⟩:bM),(⟨s.badBus,p.buses⟩:bM)] i).l.length:Int)=(at' [(⟨s.closed,(p.links.length:Int)⟩:bM),(⟨s.locked,(p.links.length:Int)⟩:bM),(⟨s.badLink,(p.links.length:Int)⟩:bM),(⟨s.on_,(p.sources.length:Int)⟩:bM),(⟨s.badSource,(p.sources.length:Int)⟩:bM),(⟨s.earthed,p.buses⟩:bM),(⟨s.badBus,p.buses⟩:bM)] i).n)).isSome= !mU p s:=by
     rw [show List.range 7=[0,1,2,3,4,5,6]from rfl,uK]
     simp only [List.any_cons,List.any_nil,at',List.getD_cons_zero,List.getD_cons_succ,mU,Int.natCast_inj]
     simp [Bool.or_assoc]
    revert e
    cases hf:(List.range 7).find? _ with
    |none=>
     intro e
     have:mU p s=true:=by simpa using e.symm
     rw [this];rfl
    |some k=>
     intro e
     have:mU p s=false:=by simpa using e.symm
     rw [this];rfl
   ·have h1:decide ((i:Int)<7)=true:=by simp;omega
    unfold fK
    rw [show([(⟨s.closed,(p.links.length:Int)⟩:bM),(⟨s.locked,(p.links.length:Int)⟩:bM),(⟨s.badLink,(p.links.length:Int)⟩:bM),(⟨s.on_,(p.sources.length:Int)⟩:bM),(⟨s.badSource,(p.sources.length:Int)⟩:bM),(⟨s.earthed,p.buses⟩:bM),(⟨s.badBus,p.buses⟩:bM)].length:Int)=7 from rfl,h1,cond_true,aL (by omega),Int.toNat_natCast,wr (by omega)]
    exact zS _ _ _
   ·rfl
  rw [h0,Option.bind_some]
  cases hL:mU p s with
  |false=>rfl
  |true=>
   simp only [cond_true,Bool.true_and]
   simp only [mU,Bool.and_eq_true,decide_eq_true_eq]at hL
   have h1:aJ (fG p s) FUEL 0=some (match(List.range p.links.length).find? (jg p s)with|some _=> .ret 9|none=> .brk ()):=by
    refine lZ p.links.length (jg p s) (fun _=>9) hp.lnk (fun i hi=> ?_) ?_
    ·unfold fG jg
     have h1:decide ((i:Int)<(p.links.length:Int))=true:=by simp;omega
     have:=hp.lnk
     rw [h1,cond_true,aL (by omega),Int.toNat_natCast,wr (by omega),aL ⟨fun _=>by omega,fun _=>by omega⟩]
     generalize decide ((at' p.links i).kind=1)=b1
     generalize at' s.closed i=b2
     generalize at' s.locked i=b3
     cases b1<;>cases b2<;>cases b3<;>rfl
    ·unfold fG;simp
   rw [h1,Option.bind_some]
   have:(List.range p.links.length).any (jg p s)=((List.range p.links.length).find? (jg p s)).isSome:=(uK _ _).symm
   rw [this]
   cases(List.range p.links.length).find? (jg p s)<;>rfl
 ·have:decide (qX p=0)=false:=by simp [hc]
  rw [this]
  simp [hc]
structure VL (b:Int) (x:Link):Prop where
 a:0≤x.a∧x.a<b
 b:0≤x.b∧x.b<b
 ab:x.a≠x.b
 kind:1≤x.kind∧x.kind≤3
 most:1≤x.most∧x.most≤100000
 ohm:10≤x.ohm∧x.ohm≤100000
 tl:x.trip.length≤6
 trip: ∀i,i<x.trip.length→pE x.trip i=false
 trk:x.trip=[]∨x.kind=3
structure TS (b:Int) (x:Source):Prop where
 bus:0≤x.bus∧x.bus<b
 kind:1≤x.kind∧x.kind≤3
 power:1≤x.power∧x.power≤100000
 sync:0≤x.sync∧x.sync≤8
 ohm:10≤x.ohm∧x.ohm≤100000
structure VR (b:Int) (x:aN):Prop where
 e0:0≤x.feeds.e0∧x.feeds.e0<b
 e1: -1≤x.feeds.e1∧x.feeds.e1<b
 ne:x.feeds.e0≠x.feeds.e1
 power:1≤x.power∧x.power≤100000
 paths:0≤x.paths∧x.paths≤uR x
structure VP (p:au):Prop where
 b:1≤p.buses∧p.buses≤24
 sl:p.sources.length≤8
 src: ∀i,i<p.sources.length→TS p.buses (at' p.sources i)
 ll:p.links.length≤40
 lnk: ∀i,i<p.links.length→VL p.buses (at' p.links i)
 rl:p.racks.length≤24
 rck: ∀i,i<p.racks.length→VR p.buses (at' p.racks i)
structure VS (p:au) (s:State):Prop where
 closed:s.closed.length=p.links.length
 locked:s.locked.length=p.links.length
 badLink:s.badLink.length=p.links.length
 on:s.on_.length=p.sources.length
 badSource:s.badSource.length=p.sources.length
 earthed:(s.earthed.length:Int)=p.buses
 badBus:(s.badBus.length:Int)=p.buses
 cable: ∀i,i<p.links.length→(at' p.links i).kind=1→at' s.closed i=true∧at' s.locked i=false
theorem Cz {b:Int} {x:Source}:pq b x=true↔TS b x:=by
 simp only [pq,Bool.and_eq_true,yD]
 exact⟨fun⟨⟨⟨⟨h1,h2⟩,h3⟩,h4⟩,h5⟩=> ⟨by omega,h2,h3,h4,h5⟩,fun h=> ⟨⟨⟨⟨by have:=h.bus;omega,h.kind⟩,h.power⟩,h.sync⟩,h.ohm⟩⟩
theorem Bf {b:Int} {x:aN}:j6 b x=true↔VR b x:=by
 simp only [j6,Bool.and_eq_true,yD,Bool.not_eq_true',decide_eq_false_iff_not]
 exact⟨fun⟨⟨⟨⟨h1,h2⟩,h3⟩,h4⟩,h5⟩=> ⟨by omega,by omega,h3,h4,h5⟩,fun h=> ⟨⟨⟨⟨by have:=h.e0;omega,by have:=h.e1;omega⟩,h.ne⟩,h.power⟩,h.paths⟩⟩
theorem A8 {b:Int} {x:Link}:kJ b x=true↔VL b x:=by
 simp only [kJ,Bool.and_eq_true,yD,Bool.not_eq_true',decide_eq_false_iff_not,Bool.or_eq_true,decide_eq_true_eq,List.any_eq_false,List.mem_range,Bool.not_eq_true]
 constructor
 ·rintro ⟨⟨⟨⟨⟨⟨⟨⟨h1,h2⟩,h3⟩,h4⟩,h5⟩,h6⟩,h7⟩,h8⟩,h9⟩
  exact⟨by omega,by omega,h3,h4,h5,h6,by omega,h7,h9.imp (fun h=>List.eq_nil_of_length_eq_zero (by omega)) id⟩
 ·intro h
  refine⟨⟨⟨⟨⟨⟨⟨⟨by have:=h.a;omega,by have:=h.b;omega⟩,h.ab⟩,h.kind⟩,h.most⟩,h.ohm⟩,h.trip⟩,by have:=h.tl;omega⟩,h.trk.imp (fun e=>by simp [e]) id⟩
theorem zk {p:au}:qX p=0↔VP p:=by
 unfold qX
 constructor
 ·intro h
  cases h0:wi p.buses 1 24 with
  |false=>rw [h0]at h;simp at h
  |true=>
   rw [h0]at h
   cases h1:(decide ((p.sources.length:Int)≤8) && p.sources.all (pq p.buses))with
   |false=>rw [h1]at h;simp at h
   |true=>
    rw [h1]at h
    cases h2:(decide ((p.links.length:Int)≤40) && p.links.all (kJ p.buses))with
    |false=>rw [h2]at h;simp at h
    |true=>
     rw [h2]at h
     cases h3:(decide ((p.racks.length:Int)≤24) && p.racks.all (j6 p.buses))with
     |false=>rw [h3]at h;simp at h
     |true=>
      simp only [Bool.and_eq_true,decide_eq_true_eq,List.all_eq_true]at h1 h2 h3
      exact⟨yD.mp h0,by omega,fun i hi=>Cz.mp (h1.2 _ (at_mem hi)),by omega,fun i hi=>A8.mp (h2.2 _ (at_mem hi)),by omega,fun i hi=>Bf.mp (h3.2 _ (at_mem hi))⟩
 ·intro h
  have h0:wi p.buses 1 24=true:=yD.mpr h.b
  have h1:(decide ((p.sources.length:Int)≤8) && p.sources.all (pq p.buses))=true:=by
   simp only [Bool.and_eq_true,decide_eq_true_eq,List.all_eq_true]
   exact⟨by have:=h.sl;omega,fun x hx=>by obtain⟨i,hi,rfl⟩:=iI hx;exact Cz.mpr (h.src i hi)⟩
  have h2:(decide ((p.links.length:Int)≤40) && p.links.all (kJ p.buses))=true:=by
   simp only [Bool.and_eq_true,decide_eq_true_eq,List.all_eq_true]
   exact⟨by have:=h.ll;omega,fun x hx=>by obtain⟨i,hi,rfl⟩:=iI hx;exact A8.mpr (h.lnk i hi)⟩
  have h3:(decide ((p.racks.length:Int)≤24) && p.racks.all (j6 p.buses))=true:=by
   simp only [Bool.and_eq_true,decide_eq_true_eq,List.all_eq_true]
   exact⟨by have:=h.rl;omega,fun x hx=>by obtain⟨i,hi,rfl⟩:=iI hx;exact Bf.mpr (h.rck i hi)⟩
  rw [h0,h1,h2,h3];rfl
theorem VP.small {p:au} (h:VP p):Small p:=by
 refine⟨by have:=h.sl;omega,by have:=h.ll;omega,by have:=h.rl;omega,fun x hx=> ?_⟩
 obtain⟨i,hi,rfl⟩:=iI hx
 have:=(h.lnk i hi).tl;omega
theorem mo {p:au} {s:State}:oL p s=0↔VP p∧VS p s:=by
 unfold oL
 by_cases hc:qX p=0
 ·rw [if_neg (by simp [hc])]
  have hv:=zk.mp hc
  constructor
  ·intro h
   cases h1:(mU p s && !(List.range p.links.length).any (jg p s))with
   |false=>rw [h1]at h;simp at h
   |true=>
    simp only [mU,Bool.and_eq_true,decide_eq_true_eq,Bool.not_eq_true',List.any_eq_false,List.mem_range,jg,Bool.or_eq_true,not_and,not_or,Bool.not_eq_true]at h1
    obtain⟨⟨⟨⟨⟨⟨⟨h1,h2⟩,h3⟩,h4⟩,h5⟩,h6⟩,h7⟩,h8⟩:=h1
    exact⟨hv,h1,h2,h3,h4,h5,h6,h7,fun i hi hk=>by have:=h8 i hi hk;simpa using this⟩
  ·rintro ⟨_,h⟩
   have:(mU p s && !(List.range p.links.length).any (jg p s))=true:=by
    simp only [mU,Bool.and_eq_true,decide_eq_true_eq,Bool.not_eq_true',List.any_eq_false,List.mem_range,jg,Bool.or_eq_true,not_and,not_or,Bool.not_eq_true]
    exact⟨⟨⟨⟨⟨⟨⟨h.closed,h.locked⟩,h.badLink⟩,h.on⟩,h.badSource⟩,h.earthed⟩,h.badBus⟩,fun i hi hk=>by have:=h.cable i hi hk;simpa using this⟩
   rw [this];rfl
 ·rw [if_pos hc]
  exact⟨fun h=>absurd h hc,fun h=>absurd (zk.mpr h.1) hc⟩
def yY (p:au) (s:State) (i:Nat):Bool:=at' s.closed i && !at' s.badLink i && !at' s.badBus (at' p.links i).a.toNat && !at' s.badBus (at' p.links i).b.toNat
def mH (p:au) (s:State) (k:Nat):Bool:=at' s.on_ k && !at' s.badSource k && !at' s.badBus (at' p.sources k).bus.toNat
inductive Wk (p:au) (s:State) (b:Nat):List Int→Nat→Prop where
 |nil:Wk p s b [] b
 |snoc {l:List Int} {v w i:Nat}:Wk p s b l v→i<p.links.length→yY p s i=true→
   ((at' p.links i).a.toNat=v∧(at' p.links i).b.toNat=w∨(at' p.links i).b.toNat=v∧(at' p.links i).a.toNat=w)→Wk p s b (l++[(i:Int)]) w
def tab {α:Type} (n:Nat) (f:Nat→α):List α:=(List.range n).map f
section
variable {α:Type} [Inhabited α]
theorem JB {n:Nat} {f g:Nat→α} (h: ∀i,i<n→f i=g i):tab n f=tab n g:=by
 unfold tab;exact List.map_congr_left fun i hi=>h i (List.mem_range.mp hi)
end
structure Pz (s:State):Prop where
 l0:s.closed.length≤1000000000
 l1:s.locked.length≤1000000000
 l2:s.badLink.length≤1000000000
 l3:s.on_.length≤1000000000
 l4:s.badSource.length≤1000000000
 l5:s.earthed.length≤1000000000
 l6:s.badBus.length≤1000000000
theorem VS.small {p:au} {s:State} (hp:VP p) (h:VS p s):Pz s:=by
 have h1:=hp.ll;have h2:=hp.sl;have h3:=hp.b
 obtain⟨a1,a2,a3,a4,a5,a6,a7,_⟩:=h
 exact⟨by omega,by omega,by omega,by omega,by omega,by omega,by omega⟩
def Ch (hd:List (Int × Int)):Nat→Int→Int→Prop
 |0,x,r=>aQ bO x hd=none∧r=x
 |k+1,x,r=> ∃y,aQ bO x hd=some y∧Ch hd k y r
theorem of_run {hd:List (Int × Int)}: ∀(k:Nat) (x r:Int),Ch hd k x r→aJ (dN ⟨hd⟩) (k+1) x=some (.ret r)
 |0,x,r,h=>by
  obtain⟨h,e⟩:=h
  rw [dw];unfold dN;simp [h,e]
 |k+1,x,r,h=>by
  obtain⟨y,h,hc⟩:=h
  have:dN ⟨hd⟩ x=some (.next y):=by unfold dN;simp [h]
  rw [dw,this]
  exact of_run k y r hc
theorem of_eq {hd:List (Int × Int)} {k:Nat} {x r:Int} (h:Ch hd k x r) (hk:k≤1000):bN ⟨hd⟩ x=some r:=by
 unfold bN
 rw [lJ (of_run k x r h) (by unfold FUEL;omega)];rfl
theorem Ch.root {hd:List (Int × Int)}: ∀{k:Nat} {x r:Int},Ch hd k x r→aQ bO r hd=none
 |0,x,r,h=>by obtain⟨h,e⟩:=h;rw [e];exact h
 |k+1,x,r,h=>by obtain⟨y,_,hc⟩:=h;exact hc.root
theorem Ch.set {hd:List (Int × Int)} {a b:Int} (hab:a≠b) (ha:aQ bO a hd=none) (hb:aQ bO b hd=none): ∀{k:Nat} {x r:Int},Ch hd k x r→
  ∃k',k'≤k+1∧Ch (fe bO a b hd) k' x (if r=a then b else r)
 |0,x,r,h=>by
  obtain⟨h,e⟩:=h
  subst e
  by_cases e:r=a
  ·subst e
   rw [if_pos rfl]
   exact⟨1,by omega,b,fC _ _ _,by rw [iD (Ne.symm hab)];exact hb,rfl⟩
  ·rw [if_neg e]
   exact⟨0,by omega,by rw [iD e];exact h,rfl⟩
 |k+1,x,r,h=>by
  obtain⟨y,h,hc⟩:=h
  obtain⟨k',hk,hc'⟩:=hc.set hab ha hb
  have:x≠a:=fun e=>by rw [e,ha]at h;cases h
  exact⟨k'+1,by omega,y,by rw [iD this];exact h,hc'⟩
section
variable {p:au} {s:State}
theorem Wk.trans {u v w:Nat} {l m:List Int} (h:Wk p s u l v) (h':Wk p s v m w):Wk p s u (l++m) w:=by
 induction h' with
 |nil=>simpa using h
 |snoc _ hi hc he ih=>rw [←List.append_assoc];exact ih.snoc hi hc he
theorem Wk.symm {u v:Nat} {l:List Int} (h:Wk p s u l v): ∃m,Wk p s v m u:=by
 induction h with
 |nil=>exact⟨[], .nil⟩
 |snoc _ hi hc he ih=>
  obtain⟨m,hm⟩:=ih
  exact⟨_,(Wk.nil.snoc hi hc (he.symm.imp id id|>.elim (fun⟨a,b⟩=> .inl ⟨b,a⟩) fun⟨a,b⟩=> .inr ⟨b,a⟩)).trans hm⟩
def nT (p:au) (s:State):Nat→List (Int × Int) × (Int→Int)
 |0=>([],id)
 |n+1=>
  let q:=nT p s n
  if yY p s n=true∧q.2 (at' p.links n).a≠q.2 (at' p.links n).b then
   (fe bO (q.2 (at' p.links n).a) (q.2 (at' p.links n).b) q.1,fun x=>if q.2 x=q.2 (at' p.links n).a then q.2 (at' p.links n).b else q.2 x)
  else q
structure UF (p:au) (s:State) (n:Nat) (hd:List (Int × Int)) (f:Int→Int):Prop where
 ch: ∀x,∃k,k≤n∧Ch hd k x (f x)
 cn: ∀x:Nat,(x:Int)<p.buses→0≤f x∧f x<p.buses∧ ∃l,Wk p s x l (f x).toNat
 ed: ∀i,i<n→yY p s i=true→f (at' p.links i).a=f (at' p.links i).b
theorem uf (hp:VP p): ∀n,n≤p.links.length→UF p s n (nT p s n).1 (nT p s n).2
 |0,_=> ⟨fun x=> ⟨0,Nat.le_refl _,rfl,rfl⟩,fun x hx=> ⟨by show(0:Int)≤x;omega,hx,[],by show Wk p s x [] ((x:Int).toNat);simp;exact .nil⟩,fun i hi=>absurd hi (Nat.not_lt_zero _)⟩
 |n+1,hn=>by
  have h:=uf hp n (by omega)
  have hl:=hp.lnk n (by omega)
  unfold nT
  by_cases hc:yY p s n=true∧(nT p s n).2 (at' p.links n).a≠(nT p s n).2 (at' p.links n).b
  ·rw [if_pos hc]
   obtain⟨hc1,hc2⟩:=hc
   obtain⟨ka,_,ca⟩:=h.ch (at' p.links n).a
   obtain⟨kb,_,cb⟩:=h.ch (at' p.links n).b
   refine⟨fun x=> ?_,fun x hx=> ?_,fun i hi hci=> ?_⟩
   ·obtain⟨k,hk,c⟩:=h.ch x
    obtain⟨k',hk',c'⟩:=c.set hc2 ca.root cb.root
    exact⟨k',by omega,c'⟩
   ·obtain⟨h0,h1,l,hw⟩:=h.cn x hx
    simp only
    by_cases e:(nT p s n).2 x=(nT p s n).2 (at' p.links n).a
    ·rw [if_pos e]
     have ha:=hl.a;have hb:=hl.b
     obtain⟨_,_,la,wa⟩:=h.cn (at' p.links n).a.toNat (by omega)
     obtain⟨b0,b1,lb,wb⟩:=h.cn (at' p.links n).b.toNat (by omega)
     have ea:(((at' p.links n).a.toNat:Nat):Int)=(at' p.links n).a:=by omega
     have eb:(((at' p.links n).b.toNat:Nat):Int)=(at' p.links n).b:=by omega
     rw [ea,←e]at wa
     rw [eb]at wb b0 b1
     obtain⟨m,wm⟩:=wa.symm
     refine⟨b0,b1,_,((hw.trans wm).snoc (by omega) hc1 (.inl ⟨rfl,rfl⟩)).trans wb⟩
    ·rw [if_neg e];exact⟨h0,h1,l,hw⟩
   ·simp only
    by_cases e:i=n
    ·subst e;rw [if_pos rfl]
     by_cases e2:(nT p s i).2 (at' p.links i).b=(nT p s i).2 (at' p.links i).a
     ·rw [if_pos e2]
     ·rw [if_neg e2]
    ·rw [h.ed i (by omega) hci]
  ·rw [if_neg hc]
   refine⟨fun x=> ?_,h.cn,fun i hi hci=> ?_⟩
   ·obtain⟨k,hk,c⟩:=h.ch x;exact⟨k,by omega,c⟩
   ·by_cases e:i=n
    ·subst e
     by_cases e2:(nT p s i).2 (at' p.links i).a=(nT p s i).2 (at' p.links i).b
     ·exact e2
     ·exact absurd ⟨hci,e2⟩ hc
    ·exact h.ed i (by omega) hci
def aV (p:au) (s:State) (x:Nat):Int:=(nT p s p.links.length).2 x
theorem wU (hp:VP p) {u v:Nat} (hu:(u:Int)<p.buses) (hv:(v:Int)<p.buses):aV p s u=aV p s v↔ ∃l,Wk p s u l v:=by
 have h:=uf (s:=s) hp p.links.length (Nat.le_refl _)
 constructor
 ·intro e
  obtain⟨_,_,l,w⟩:=h.cn u hu
  obtain⟨_,_,m,w'⟩:=h.cn v hv
  obtain⟨m',w''⟩:=w'.symm
  have:(nT p s p.links.length).2 u=(nT p s p.links.length).2 v:=e
  rw [this]at w
  exact⟨_,w.trans w''⟩
 ·rintro ⟨l,w⟩
  clear hv
  induction w with
  |nil=>rfl
  |snoc w hi hc he ih=>
   rename_i i
   rw [ih]
   have hl:=hp.lnk i hi
   have ha:=hl.a;have hb:=hl.b
   have ed:=h.ed i hi hc
   unfold aV
   rcases he with⟨e1,e2⟩|⟨e1,e2⟩
   ·rw [←e1,←e2,Int.toNat_of_nonneg (by omega),Int.toNat_of_nonneg (by omega),ed]
   ·rw [←e1,←e2,Int.toNat_of_nonneg (by omega),Int.toNat_of_nonneg (by omega),ed]
theorem zR (hp:VP p) (x:Int):bN ⟨(nT p s p.links.length).1⟩ x=some ((nT p s p.links.length).2 x):=by
 obtain⟨k,hk,c⟩:=(uf (s:=s) hp p.links.length (Nat.le_refl _)).ch x
 have:=hp.ll
 exact of_eq c (by omega)
theorem join_eq (hp:VP p) {n:Nat} (hn:n<p.links.length) (hc:yY p s n=true):gT ⟨(nT p s n).1⟩ (at' p.links n).a (at' p.links n).b=some (nT p s (n+1)).1:=by
 have h:=uf (s:=s) hp n (by omega)
 have:=hp.ll
 obtain⟨ka,_,ca⟩:=h.ch (at' p.links n).a
 obtain⟨kb,_,cb⟩:=h.ch (at' p.links n).b
 unfold gT
 rw [of_eq ca (by omega),of_eq cb (by omega)]
 simp only [Option.bind_some]
 rw [nT]
 by_cases e:(nT p s n).2 (at' p.links n).a=(nT p s n).2 (at' p.links n).b
 ·simp [e]
 ·simp [e,hc]
end
theorem gY {α:Type} [Inhabited α] {l m:List α} {j:Nat} (h:j<l.length):at' (l++m) j=at' l j:=by
 rw [gF (by rw [List.length_append];omega),gF h,List.getElem_append_left]
theorem iV {α:Type} [Inhabited α] (l:List α) (x:α):at' (l++[x]) l.length=x:=by
 rw [gF (by simp)];simp
section
variable {p:au} {s:State} (hp:VP p) (hs:VS p s)
include hp hs
theorem KE {i:Nat} (hi:i<p.links.length):bX p.links s.closed s.badLink s.badBus ((nT p s i).1,(i:Int))=some (.next ((nT p s (i+1)).1,((i+1:Nat):Int))):=by
 have hl:=hp.lnk i hi
 have ha:=hl.a;have hb:=hl.b;have h1:=hs.closed;have h2:=hs.badLink;have h3:=hs.badBus;have hll:=hp.ll
 have hd:decide ((i:Int)<(p.links.length:Int))=true:=decide_eq_true (by omega)
 have hcb:(bif (bif (bif (at' s.closed i)then(!(at' s.badLink i))else false)then(!(at' s.badBus (((at' p.links i).a).toNat)))else false)then(!(at' s.badBus (((at' p.links i).b).toNat)))else false)=yY p s i:=by
  unfold yY
  cases at' s.closed i<;>cases at' s.badLink i<;>cases at' s.badBus (at' p.links i).a.toNat<;>cases at' s.badBus (at' p.links i).b.toNat<;>rfl
 unfold bX
 simp only [Int.toNat_natCast]
 rw [hd,cond_true,aL (by omega),hcb]
 cases hc:yY p s i with
 |true=>
  rw [cond_true]
  unfold iX
  rw [join_eq hp hi hc]
  simp only [Option.bind_some]
  rw [aL ⟨by omega,fun _=>by omega,fun _=>by omega,fun _=>by omega⟩,wr (by omega)]
  rfl
 |false=>
  rw [cond_false,aL ⟨by omega,fun _=>by omega,fun _=>by omega,fun _=>by omega⟩,wr (by omega)]
  have:nT p s (i+1)=nT p s i:=by rw [nT];simp [hc]
  rw [this];rfl
theorem vW:iZ p.buses p.sources p.links p.racks s.closed s.locked s.badLink s.on_ s.badSource s.earthed s.badBus ⟨[]⟩=some ⟨(nT p s p.links.length).1⟩:=by
 have hll:=hp.ll
 have key:aJ (bX p.links s.closed s.badLink s.badBus) FUEL ((nT p s 0).1,((0:Nat):Int))=some (.brk (nT p s p.links.length).1):=by
  refine eO (fun i=>((nT p s i).1,(i:Int))) p.links.length _ (fuel_lt (by omega)) (fun i hi=>KE hp hs hi) ?_
  unfold bX
  simp
 show(aJ (bX p.links s.closed s.badLink s.badBus) FUEL ((nT p s 0).1,((0:Nat):Int))).bind _=_
 rw [key];rfl
omit hs
structure II (p:au) (s:State) (t n:Nat) (out:List aD) (m:List (Int × Int)):Prop where
 ix: ∀h i,aQ bO h m=some i→0≤i∧i<(out.length:Int)
 inj: ∀h h' i,aQ bO h m=some i→aQ bO h' m=some i→h=h'
 cov: ∀b:Nat,b<t→at' s.badBus b=false→ ∃j:Nat,aQ bO (aV p s b) m=some (j:Int)∧(b:Int)∈(at' out j).buses
 mem: ∀j,j<out.length→ ∀x∈(at' out j).buses,∃b:Nat,x=b∧b<t∧at' s.badBus b=false∧aQ bO (aV p s b) m=some (j:Int)
 src: ∀j,j<out.length→(at' out j).sources=[]
 len:out.length≤n
 bl: ∀j,j<out.length→(at' out j).buses.length≤t
omit hp
theorem II.fresh {t n:Nat} {out:List aD} {m:List (Int × Int)} {h0:Int} (g:II p s t n out m) (hn:aQ bO h0 m=none):II p s t (n+1) (out++[⟨[],[]⟩]) (fe bO h0 (out.length:Int) m):=by
 have old: ∀h i,h≠h0→aQ bO h (fe bO h0 (out.length:Int) m)=some i→aQ bO h m=some i:=fun h i e q=>by rwa [iD e]at q
 refine⟨fun h i q=> ?_,fun h h' i q q'=> ?_,fun b hb hbad=> ?_,fun j hj x hx=> ?_,fun j hj=> ?_, ?_,fun j hj=> ?_⟩
 ·rw [List.length_append]
  by_cases e:h=h0
  ·subst e;rw [fC]at q;cases q;simp;omega
  ·have:=g.ix h i (old h i e q);simp;omega
 ·by_cases e:h=h0
  ·subst e;rw [fC]at q;cases q
   by_cases e':h'=h
   ·exact e'.symm
   ·have:=g.ix h' _ (old h' _ e' q');omega
  ·by_cases e':h'=h0
   ·subst e';rw [fC]at q';cases q'
    have:=g.ix h _ (old h _ e q);omega
   ·exact g.inj h h' i (old h i e q) (old h' i e' q')
 ·obtain⟨j,q,hx⟩:=g.cov b hb hbad
  have e:aV p s b≠h0:=fun e=>by rw [e,hn]at q;cases q
  have:=g.ix _ _ q
  exact⟨j,by rw [iD e];exact q,by rw [gY (by omega)];exact hx⟩
 ·rw [List.length_append]at hj
  by_cases e:j<out.length
  ·rw [gY e]at hx
   obtain⟨b,h1,h2,h3,q⟩:=g.mem j e x hx
   have e:aV p s b≠h0:=fun e=>by rw [e,hn]at q;cases q
   exact⟨b,h1,h2,h3,by rw [iD e];exact q⟩
  ·have:j=out.length:=by simp at hj;omega
   subst this
   rw [iV]at hx;simp at hx
 ·rw [List.length_append]at hj
  by_cases e:j<out.length
  ·rw [gY e];exact g.src j e
  ·have:j=out.length:=by simp at hj;omega
   subst this;rw [iV]
 ·rw [List.length_append];have:=g.len;simp;omega
 ·rw [List.length_append]at hj
  by_cases e:j<out.length
  ·rw [gY e];exact g.bl j e
  ·have:j=out.length:=by simp at hj;omega
   subst this;rw [iV];simp
theorem II.add {t n:Nat} {out:List aD} {m:List (Int × Int)} (g:II p s t n out m) (hbad:at' s.badBus t=false) {j:Nat} (hj:aQ bO (aV p s t) m=some (j:Int)):
  II p s (t+1) n (out.set j ⟨(at' out j).buses++[(t:Int)],(at' out j).sources⟩) m:=by
 have hjl:=(g.ix _ _ hj).2
 refine⟨fun h i q=>by rw [List.length_set];exact g.ix h i q,g.inj,fun b hb hbb=> ?_,fun i hi x hx=> ?_,fun i hi=> ?_,by rw [List.length_set];exact g.len,fun i hi=> ?_⟩
 ·by_cases e:b=t
  ·subst e
   exact⟨j,hj,by rw [bZ (by omega)];simp⟩
  ·obtain⟨i,q,hx⟩:=g.cov b (by omega) hbb
   refine⟨i,q, ?_⟩
   by_cases e2:j=i
   ·subst e2;rw [bZ (by omega)];simp [hx]
   ·rw [bQ e2];exact hx
 ·rw [List.length_set]at hi
  by_cases e2:j=i
  ·subst e2
   rw [bZ (by omega)]at hx
   rcases List.mem_append.mp hx with hx|hx
   ·obtain⟨b,h1,h2,h3,q⟩:=g.mem j hi x hx
    exact⟨b,h1,by omega,h3,q⟩
   ·simp at hx
    exact⟨t,hx,by omega,hbad,hj⟩
  ·rw [bQ e2]at hx
   obtain⟨b,h1,h2,h3,q⟩:=g.mem i hi x hx
   exact⟨b,h1,by omega,h3,q⟩
 ·rw [List.length_set]at hi
  by_cases e2:j=i
  ·subst e2;rw [bZ (by omega)];exact g.src j hi
  ·rw [bQ e2];exact g.src i hi
 ·rw [List.length_set]at hi
  have:=g.bl i hi
  by_cases e2:j=i
  ·subst e2;rw [bZ (by omega)];simp;omega
  ·rw [bQ e2];omega
include hp hs
theorem Nf {t:Nat} (ht:(t:Int)<p.buses) {out:List aD} {m:List (Int × Int)} (g:II p s t t out m):
  ∃out' m',bg p s ⟨(nT p s p.links.length).1⟩ (out,m,(t:Int))=some (.next (out',m',((t+1:Nat):Int)))∧II p s (t+1) (t+1) out' m':=by
 have h3:=hs.badBus;have hb:=hp.b
 have hd:decide ((t:Int)<p.buses)=true:=decide_eq_true ht
 have hlen:=g.len
 unfold bg
 simp only [Int.toNat_natCast]
 rw [hd,cond_true,aL (by omega)]
 cases hbad:at' s.badBus t with
 |true=>
  refine⟨out,m,by rw [cond_true,wr (by omega)];rfl,g.ix,g.inj,fun b hb' hbb=> ?_,fun j hj x hx=> ?_,g.src,by omega,fun j hj=> ?_⟩
  ·have:b≠t:=fun e=>by rw [e,hbad]at hbb;cases hbb
   exact g.cov b (by omega) hbb
  ·obtain⟨b,h1,h2,h3,q⟩:=g.mem j hj x hx
   exact⟨b,h1,by omega,h3,q⟩
  ·have:=g.bl j hj;omega
 |false=>
  rw [cond_false,zR hp,Option.bind_some]
  have eh:(nT p s p.links.length).2 (t:Int)=aV p s t:=rfl
  rw [eh]
  cases hq:aQ bO (aV p s t) m with
  |some i=>
   obtain⟨i0,i1⟩:=g.ix _ _ hq
   obtain⟨j,rfl⟩: ∃j:Nat,i=(j:Int):=⟨i.toNat,by omega⟩
   have hbl:=g.bl j (by omega)
   refine⟨_,_, ?_,⟨(g.add hbad hq).ix,g.inj,(g.add hbad hq).cov,(g.add hbad hq).mem,(g.add hbad hq).src,by have:=(g.add hbad hq).len;omega,(g.add hbad hq).bl⟩⟩
   simp only [Option.isSome_some,Bool.not_true,cond_false,Option.getD_some,Int.toNat_natCast]
   rw [aL ⟨by omega,by simp;omega,by simp;omega⟩,wr (by omega)]
   rfl
  |none=>
   have g':=g.fresh hq
   have hj:aQ bO (aV p s t) (fe bO (aV p s t) (out.length:Int) m)=some (out.length:Int):=fC _ _ _
   have g2:=g'.add hbad hj
   refine⟨_,_, ?_,g2⟩
   simp only [Option.isSome_none,Bool.not_false,cond_true,hj,Option.getD_some,Int.toNat_natCast,iV]
   rw [aL ⟨by simp;omega,by simp;omega⟩,aL ⟨by simp;omega,by simp⟩,wr (by omega)]
   rfl
theorem Qj: ∀(d t:Nat) (out:List aD) (m:List (Int × Int)),((t+d:Nat):Int)=p.buses→II p s t t out m→
  ∃out' m',aJ (bg p s ⟨(nT p s p.links.length).1⟩) (d+1) (out,m,(t:Int))=some (.brk (out',m'))∧II p s p.buses.toNat p.buses.toNat out' m':=by
 intro d
 induction d with
 |zero=>
  intro t out m ht g
  refine⟨out,m, ?_,by
   have:p.buses.toNat=t:=by omega
   rw [this];exact g⟩
  rw [dw]
  have hd:decide ((t:Int)<p.buses)=false:=decide_eq_false (by omega)
  unfold bg
  simp only
  rw [hd];rfl
 |succ d ih=>
  intro t out m ht g
  obtain⟨out1,m1,h1,g1⟩:=Nf hp hs (by omega) g
  obtain⟨out2,m2,h2,g2⟩:=ih (t+1) out1 m1 (by omega) g1
  exact⟨out2,m2,by rw [dw,h1];exact h2,g2⟩
structure JJ (p:au) (s:State) (m:List (Int × Int)) (o:List aD) (k:Nat) (out:List aD):Prop where
 len:out.length=o.length
 bus: ∀j,j<out.length→(at' out j).buses=(at' o j).buses
 src: ∀j,j<out.length→((at' out j).sources≠[]↔ ∃i,i<k∧mH p s i=true∧aQ bO (aV p s (at' p.sources i).bus.toNat) m=some (j:Int))
 sl: ∀j,j<out.length→(at' out j).sources.length≤k
theorem MN {o:List aD} {m:List (Int × Int)} (g:II p s p.buses.toNat p.buses.toNat o m) {k:Nat} (hk:k<p.sources.length) {out:List aD} (q:JJ p s m o k out):
  ∃out',bn p s ⟨(nT p s p.links.length).1⟩ m (out,(k:Int))=some (.next (out',((k+1:Nat):Int)))∧JJ p s m o (k+1) out':=by
 have hl:=(hp.src k hk).bus;have h1:=hs.on;have h2:=hs.badSource;have h3:=hs.badBus;have h4:=hp.sl
 have hd:decide ((k:Int)<(p.sources.length:Int))=true:=decide_eq_true (by omega)
 have hcb:(bif (bif (at' s.on_ k)then(!(at' s.badSource k))else false)then(!(at' s.badBus (((at' p.sources k).bus).toNat)))else false)=mH p s k:=by
  unfold mH
  cases at' s.on_ k<;>cases at' s.badSource k<;>cases at' s.badBus (at' p.sources k).bus.toNat<;>rfl
 unfold bn
 simp only [Int.toNat_natCast]
 rw [hd,cond_true,aL (by omega),aL ⟨by omega,fun _=>by omega,fun _=>by omega⟩,hcb]
 cases hf:mH p s k with
 |false=>
  refine⟨out,by rw [cond_false,wr (by omega)];rfl,q.len,q.bus,fun j hj=> ?_,fun j hj=>by have:=q.sl j hj;omega⟩
  rw [q.src j hj]
  constructor
  ·rintro ⟨i,h1,h2,h3⟩;exact⟨i,by omega,h2,h3⟩
  ·rintro ⟨i,h1,h2,h3⟩
   have:i≠k:=fun e=>by rw [e,hf]at h2;cases h2
   exact⟨i,by omega,h2,h3⟩
 |true=>
  have hbad:at' s.badBus (at' p.sources k).bus.toNat=false:=by
   unfold mH at hf
   revert hf
   cases at' s.badBus (at' p.sources k).bus.toNat<;>simp
  obtain⟨j,hj,_⟩:=g.cov (at' p.sources k).bus.toNat (by omega) hbad
  have hjl:=(g.ix _ _ hj).2
  have hlen:=q.len
  have hsl:=q.sl j (by omega)
  have eh:(nT p s p.links.length).2 (at' p.sources k).bus=aV p s (at' p.sources k).bus.toNat:=by unfold aV;rw [Int.toNat_of_nonneg (by omega)]
  rw [cond_true,zR hp,Option.bind_some,eh,hj]
  simp only [Option.getD_some,Int.toNat_natCast]
  rw [aL ⟨by omega,by simp;omega,by simp;omega⟩,wr (by omega)]
  refine⟨_,rfl,by rw [List.length_set];exact q.len,fun i hi=> ?_,fun i hi=> ?_,fun i hi=> ?_⟩
  ·rw [List.length_set]at hi
   by_cases e:j=i
   ·subst e;rw [bZ (by omega)];exact q.bus j hi
   ·rw [bQ e];exact q.bus i hi
  ·rw [List.length_set]at hi
   by_cases e:j=i
   ·subst e;rw [bZ (by omega)]
    simp only [ne_eq,List.append_eq_nil_iff,List.cons_ne_nil,and_false,not_false_eq_true,true_iff]
    exact⟨k,by omega,hf,hj⟩
   ·rw [bQ e,q.src i hi]
    constructor
    ·rintro ⟨i',h1,h2,h3⟩;exact⟨i',by omega,h2,h3⟩
    ·rintro ⟨i',h1,h2,h3⟩
     have:i'≠k:=fun e'=>by
      rw [e',hj]at h3
      have:=Option.some.inj h3
      omega
     exact⟨i',by omega,h2,h3⟩
  ·rw [List.length_set]at hi
   have:=q.sl i hi
   by_cases e:j=i
   ·subst e;rw [bZ (by omega)];simp;omega
   ·rw [bQ e];omega
theorem QG {o:List aD} {m:List (Int × Int)} (g:II p s p.buses.toNat p.buses.toNat o m): ∀(d k:Nat) (out:List aD),k+d=p.sources.length→JJ p s m o k out→
  ∃out',aJ (bn p s ⟨(nT p s p.links.length).1⟩ m) (d+1) (out,(k:Int))=some (.brk out')∧JJ p s m o p.sources.length out':=by
 intro d
 induction d with
 |zero=>
  intro k out hk q
  refine⟨out, ?_,by
   have:p.sources.length=k:=by omega
   rw [this];exact q⟩
  rw [dw]
  have hd:decide ((k:Int)<(p.sources.length:Int))=false:=decide_eq_false (by omega)
  unfold bn
  simp only
  rw [hd];rfl
 |succ d ih=>
  intro k out hk q
  obtain⟨out1,h1,q1⟩:=MN hp hs g (by omega) q
  obtain⟨out2,h2,q2⟩:=ih (k+1) out1 (by omega) q1
  exact⟨out2,by rw [dw,h1];exact h2,q2⟩
theorem G5: ∃out o m,eU p s=some out∧II p s p.buses.toNat p.buses.toNat o m∧JJ p s m o p.sources.length out:=by
 have hb:=hp.b;have h4:=hp.sl
 obtain⟨o,m,h1,g⟩:=Qj hp hs p.buses.toNat 0 [] [] (by omega) ⟨fun h i q=>by simp [aQ]at q,fun h h' i q=>by simp [aQ]at q,fun b hb=>absurd hb (Nat.not_lt_zero _),fun j hj=>by simp at hj,fun j hj=>by simp at hj,Nat.le_refl _,fun j hj=>by simp at hj⟩
 obtain⟨out,h2,q⟩:=QG hp hs g p.sources.length 0 o (by omega) ⟨rfl,fun _ _=>rfl,fun j hj=>by rw [g.src j hj];simp,fun j hj=>by rw [g.src j hj];simp⟩
 refine⟨out,o,m, ?_,g,q⟩
 unfold eU
 simp only [iB,Option.bind_some]
 rw [vW hp hs,Option.bind_some]
 have e1:aJ (bg p s ⟨(nT p s p.links.length).1⟩) FUEL (([]:List aD),([]:List (Int × Int)),0)=some (.brk (o,m)):=lJ h1 (by unfold FUEL;omega)
 have e2:aJ (bn p s ⟨(nT p s p.links.length).1⟩ m) FUEL (o,0)=some (.brk out):=lJ h2 (by unfold FUEL;omega)
 rw [e1]
 simp only [Option.bind_some]
 rw [e2]
 rfl
end
def jU (v:Bool) (o:List Bool) (l:List Int):List Bool:=l.foldl (fun o x=>o.set x.toNat v) o
theorem p9 (v:Bool): ∀(l:List Int) (o:List Bool),(jU v o l).length=o.length
 |[],_=>rfl
 |x::l,o=>by
  show(jU v (o.set x.toNat v) l).length=_
  rw [p9 v l,List.length_set]
theorem FY (v:Bool) (o:List Bool) (l:List Int) (x:Int):jU v o (l++[x])=(jU v o l).set x.toNat v:=by simp [jU]
theorem Cv (v:Bool): ∀(l:List Int) (o:List Bool) (j:Nat),(∀x∈l,0≤x)→j<o.length→at' (jU v o l) j=if(j:Int)∈l then v else at' o j
 |[],o,j,_,_=>by simp [jU]
 |x::l,o,j,h,hj=>by
  show at' (jU v (o.set x.toNat v) l) j=_
  rw [Cv v l _ j (fun y hy=>h y (List.mem_cons_of_mem _ hy)) (by rw [List.length_set];exact hj)]
  have hx:=h x List.mem_cons_self
  by_cases e:(j:Int)∈l
  ·rw [if_pos e,if_pos (List.mem_cons_of_mem _ e)]
  ·rw [if_neg e]
   by_cases e2:x.toNat=j
   ·subst e2
    rw [bZ hj,if_pos (by rw [Int.toNat_of_nonneg hx];exact List.mem_cons_self)]
   ·rw [bQ e2,if_neg]
    intro hm
    rcases List.mem_cons.mp hm with h1|h1
    ·omega
    ·exact e h1
def Bn (n:Nat) (l:List aD):List Bool:=l.foldl (fun o x=>jU (decide (0<(x.sources.length:Int))) o x.buses) (List.replicate n false)
theorem Cx (n:Nat) (l:List aD) (x:aD):Bn n (l++[x])=jU (decide (0<(x.sources.length:Int))) (Bn n l) x.buses:=by simp [Bn]
theorem uL (n:Nat) (l:List aD):(Bn n l).length=n:=by
 unfold Bn
 suffices∀(l:List aD) (o:List Bool),(l.foldl (fun o x=>jU (decide (0<(x.sources.length:Int))) o x.buses) o).length=o.length by rw [this];simp
 intro l
 induction l with
 |nil=>intro o;rfl
 |cons x l ih=>intro o;rw [List.foldl_cons,ih,p9]
def oG (p:au) (s:State) (b:Nat):Prop:=at' s.badBus b=false∧ ∃k,k<p.sources.length∧mH p s k=true∧ ∃l,Wk p s (at' p.sources k).bus.toNat l b
section
variable {p:au} {s:State} (hp:VP p) (hs:VS p s)
include hp hs
theorem NJ {out:List aD} {j:Nat} (hj:j<out.length) (hx: ∀x∈(at' out j).buses,0≤x∧x<p.buses) (hl:(at' out j).buses.length≤1000) {o:List Bool} (ho:(o.length:Int)=p.buses):
  aJ (iG out (j:Int)) FUEL (o,0)=some (.brk (jU (decide (0<((at' out j).sources.length:Int))) o (at' out j).buses)):=by
 have key:aJ (iG out (j:Int)) FUEL (jU (decide (0<((at' out j).sources.length:Int))) o ((at' out j).buses.take 0),((0:Nat):Int))=some (.brk (jU (decide (0<((at' out j).sources.length:Int))) o (at' out j).buses)):=by
  refine eO (fun i=>(jU (decide (0<((at' out j).sources.length:Int))) o ((at' out j).buses.take i),(i:Int))) (at' out j).buses.length _ (fuel_lt (by omega)) (fun i hi=> ?_) ?_
  ·have hd:decide ((i:Int)<((at' out j).buses.length:Int))=true:=decide_eq_true (by omega)
   have hm:=hx _ (at_mem hi)
   have hlen:=p9 (decide (0<((at' out j).sources.length:Int))) ((at' out j).buses.take i) o
   unfold iG
   simp only [Int.toNat_natCast]
   rw [hd,cond_true,aL (by omega),aL (by omega),wr (by omega),nJ hi,FY]
   rfl
  ·have hd:decide (((at' out j).buses.length:Int)<((at' out j).buses.length:Int))=false:=decide_eq_false (by omega)
   unfold iG
   simp only [Int.toNat_natCast]
   rw [hd,cond_false,List.take_length]
 exact key
theorem Dz: ∃L,cO p s=some (L,0)∧(L.length:Int)=p.buses∧ ∀b:Nat,(b:Int)<p.buses→(at' L b=true↔oG p s b):=by
 have hb:=hp.b;have h4:=hp.sl
 obtain⟨out,o,m,e,g,q⟩:=G5 hp hs
 have hlen:=q.len
 have hgl:=g.len
 have hbus: ∀j,j<out.length→ ∀x∈(at' out j).buses,∃b:Nat,x=b∧(b:Int)<p.buses∧at' s.badBus b=false∧aQ bO (aV p s b) m=some (j:Int):=by
  intro j hj x hx
  rw [q.bus j hj]at hx
  obtain⟨b,h1,h2,h3,h5⟩:=g.mem j (by omega) x hx
  exact⟨b,h1,by omega,h3,h5⟩
 have hx: ∀j,j<out.length→ ∀x∈(at' out j).buses,0≤x∧x<p.buses:=by
  intro j hj x hx
  obtain⟨b,h1,h2,_⟩:=hbus j hj x hx
  omega
 have hl: ∀j,j<out.length→(at' out j).buses.length≤1000:=by
  intro j hj;rw [q.bus j hj];have:=g.bl j (by omega);omega
 have hL:aJ (iF out) FUEL (Bn p.buses.toNat (out.take 0),((0:Nat):Int))=some (.brk (Bn p.buses.toNat out)):=by
  refine eO (fun i=>(Bn p.buses.toNat (out.take i),(i:Int))) out.length _ (fuel_lt (by omega)) (fun i hi=> ?_) ?_
  ·have hd:decide ((i:Int)<(out.length:Int))=true:=decide_eq_true (by omega)
   have hlo:=uL p.buses.toNat (out.take i)
   unfold iF
   simp only
   rw [hd,cond_true,aL (by omega),NJ hp hs hi (hx i hi) (hl i hi) (by omega)]
   simp only [Option.bind_some]
   rw [wr (by omega),nJ hi,Cx]
   rfl
  ·have hd:decide ((out.length:Int)<(out.length:Int))=false:=decide_eq_false (by omega)
   unfold iF
   simp only
   rw [hd,cond_false,List.take_length]
 have hat: ∀n,n≤out.length→ ∀b:Nat,(b:Int)<p.buses→(at' (Bn p.buses.toNat (out.take n)) b=true↔ ∃j,j<n∧(b:Int)∈(at' out j).buses∧(at' out j).sources≠[]):=by
  intro n
  induction n with
  |zero=>
   intro _ b hb'
   rw [List.take_zero]
   show at' (List.replicate p.buses.toNat false) b=true↔_
   rw [lV (by omega)]
   simp
  |succ n ih=>
   intro hn b hb'
   have hln:=uL p.buses.toNat (out.take n)
   rw [nJ (by omega),Cx,Cv _ _ _ _ (fun x h=>(hx n (by omega) x h).1) (by omega)]
   by_cases hm:(b:Int)∈(at' out n).buses
   ·rw [if_pos hm]
    have huniq: ∀j,j<out.length→(b:Int)∈(at' out j).buses→j=n:=by
     intro j hj hmj
     obtain⟨b1,e1,_,_,f1⟩:=hbus n (by omega) _ hm
     obtain⟨b2,e2,_,_,f2⟩:=hbus j hj _ hmj
     have:b1=b2:=by omega
     subst this
     rw [f1]at f2
     have:=Option.some.inj f2
     omega
    constructor
    ·intro hd
     refine⟨n,by omega,hm,fun hn=> ?_⟩
     rw [hn]at hd;simp at hd
    ·rintro ⟨j,hj,hmj,hsj⟩
     have:=huniq j (by omega) hmj
     subst this
     have:=List.length_pos_iff.mpr hsj
     exact decide_eq_true (by omega)
   ·rw [if_neg hm,ih (by omega) b hb']
    constructor
    ·rintro ⟨j,hj,h⟩;exact⟨j,by omega,h⟩
    ·rintro ⟨j,hj,h⟩
     have:j≠n:=fun e=>by subst e;exact hm h.1
     exact⟨j,by omega,h⟩
 refine⟨Bn p.buses.toNat out, ?_,by rw [uL];omega,fun b hb'=> ?_⟩
 ·unfold cO
  have h0:oL p s=0:=mo.mpr ⟨hp,hs⟩
  rw [lW p s hp.small,h0,Option.bind_some]
  simp only [decide_true,Bool.not_true,cond_false]
  rw [aL ⟨by omega,by omega,by omega⟩,e,Option.bind_some]
  have hL':aJ (iF out) FUEL (List.replicate p.buses.toNat false,0)=some (.brk (Bn p.buses.toNat out)):=hL
  rw [hL'];rfl
 ·have:=hat out.length (Nat.le_refl _) b hb'
  rw [List.take_length]at this
  rw [this]
  constructor
  ·rintro ⟨j,hj,hm,hsj⟩
   obtain⟨b1,e1,h1,hbad,f1⟩:=hbus j hj _ hm
   have:b1=b:=by omega
   subst this
   obtain⟨k,hk,hf,f2⟩:=(q.src j hj).mp hsj
   have hk2:=(hp.src k hk).bus
   have:=g.inj _ _ _ f1 f2
   obtain⟨l,w⟩:=(wU hp (by omega) hb').mp this.symm
   exact⟨hbad,k,hk,hf,l,w⟩
  ·rintro ⟨hbad,k,hk,hf,l,w⟩
   have hk2:=(hp.src k hk).bus
   have he:=(wU (s:=s) hp (u:=(at' p.sources k).bus.toNat) (by omega) hb').mpr ⟨l,w⟩
   obtain⟨j,hj,hm⟩:=g.cov b (by omega) hbad
   have hjl:=(g.ix _ _ hj).2
   refine⟨j,by omega,by rw [q.bus j (by omega)];exact hm, ?_⟩
   rw [q.src j (by omega)]
   exact⟨k,hk,hf,by rw [he];exact hj⟩
omit hp hs
end
def rts (p:au) (s:State):Nat→List Int
 |0=>[]
 |t+1=>if at' s.badBus t=true∨aV p s t∈rts p s t then rts p s t else rts p s t++[aV p s t]
def yG (p:au) (s:State) (t:Nat) (h:Int):List Int:=List.map (fun b:Nat=>(Int.ofNat b)) ((List.range t).filter fun b=> !at' s.badBus b && decide (aV p s b=h))
def qj (p:au) (s:State) (k:Nat) (h:Int):List Int:=List.map (fun i:Nat=>(Int.ofNat i)) ((List.range k).filter fun i=>mH p s i && decide (aV p s (at' p.sources i).bus.toNat=h))
def dH (p:au) (s:State) (t k:Nat):List aD:=(rts p s t).map fun h=> ⟨yG p s t h,qj p s k h⟩
def Ep (r:List Int):List (Int × Int):=tab r.length fun j=>(at' r j,(j:Int))
theorem uV {p:au} {s:State} {h:Int}: ∀{t:Nat},h∈rts p s t↔ ∃b,b<t∧at' s.badBus b=false∧aV p s b=h
 |0=>by simp [rts]
 |t+1=>by
  have e:rts p s (t+1)=if at' s.badBus t=true∨aV p s t∈rts p s t then rts p s t else rts p s t++[aV p s t]:=rfl
  rw [e]
  by_cases c:at' s.badBus t=true∨aV p s t∈rts p s t
  ·rw [if_pos c,uV]
   constructor
   ·rintro ⟨b,h1,h2,h3⟩;exact⟨b,by omega,h2,h3⟩
   ·rintro ⟨b,h1,h2,h3⟩
    by_cases e:b=t
    ·subst e
     rcases c with c|c
     ·rw [h2]at c;cases c
     ·rw [h3]at c;exact uV.1 c
    ·exact⟨b,by omega,h2,h3⟩
  ·rw [if_neg c,List.mem_append,List.mem_singleton,uV]
   rw [not_or,Bool.not_eq_true]at c
   constructor
   ·rintro (⟨b,h1,h2,h3⟩|rfl)
    ·exact⟨b,by omega,h2,h3⟩
    ·exact⟨t,by omega,c.1,rfl⟩
   ·rintro ⟨b,h1,h2,h3⟩
    by_cases e:b=t
    ·subst e;exact .inr h3.symm
    ·exact .inl ⟨b,by omega,h2,h3⟩
theorem nR {p:au} {s:State}: ∀t,(rts p s t).Nodup
 |0=>by simp [rts]
 |t+1=>by
  have e:rts p s (t+1)=if at' s.badBus t=true∨aV p s t∈rts p s t then rts p s t else rts p s t++[aV p s t]:=rfl
  rw [e]
  by_cases c:at' s.badBus t=true∨aV p s t∈rts p s t
  ·rw [if_pos c];exact nR t
  ·rw [if_neg c,List.nodup_append]
   refine⟨nR t,by simp,fun a ha b hb=> ?_⟩
   rw [List.mem_singleton]at hb
   subst hb
   exact fun e=>c (.inr (e ▸ ha))
theorem xM {p:au} {s:State}: ∀t,(rts p s t).length≤t
 |0=>by simp [rts]
 |t+1=>by
  have e:rts p s (t+1)=if at' s.badBus t=true∨aV p s t∈rts p s t then rts p s t else rts p s t++[aV p s t]:=rfl
  have:=xM (p:=p) (s:=s) t
  rw [e];split
  ·omega
  ·rw [List.length_append,List.length_singleton];omega
theorem N8 {α:Type} (n:Nat) (f:Nat→α):tab (n+1) f=tab n f++[f n]:=by simp [tab,List.range_succ]
theorem pO {α:Type} {h:Int}: ∀{l m:List (Int × α)},aQ bO h l=none→aQ bO h (l++m)=aQ bO h m
 |[],_,_=>rfl
 |(k,v)::l,m,hn=>by
  unfold aQ at hn
  rw [List.cons_append]
  conv=>lhs;unfold aQ
  cases e:bO h k with
  |true=>rw [e]at hn;simp at hn
  |false=>rw [e]at hn;simp only [cond_false]at hn ⊢;exact pO hn
theorem vF {α:Type} {h:Int} {v:α}: ∀{l m:List (Int × α)},aQ bO h l=some v→aQ bO h (l++m)=some v
 |[],_,hn=>by simp [aQ]at hn
 |(k,w)::l,m,hn=>by
  unfold aQ at hn
  rw [List.cons_append]
  conv=>lhs;unfold aQ
  cases e:bO h k with
  |true=>rw [e]at hn;simpa using hn
  |false=>rw [e]at hn;simp only [cond_false]at hn ⊢;exact vF hn
theorem zW (r:List Int) (h:Int):Ep (r++[h])=Ep r++[(h,(r.length:Int))]:=by
 unfold Ep
 rw [List.length_append,List.length_singleton,N8]
 have e1:(tab r.length fun j=>(at' (r++[h]) j,(j:Int)))=tab r.length fun j=>(at' r j,(j:Int)):=JB fun j hj=>by rw [gY hj]
 rw [e1,iV]
theorem lX: ∀{n:Nat} {r:List Int} {h:Int},r.length=n→h ∉ r→aQ bO h (Ep r)=none
 |0,r,h,hl,_=>by
  have:r=[]:=List.eq_nil_of_length_eq_zero hl
  subst this;rfl
 |n+1,r,h,hl,hn=>by
  rcases List.eq_nil_or_concat r with rfl|⟨q,x,rfl⟩
  ·simp at hl
  ·rw [List.concat_eq_append]at*
   rw [List.mem_append,List.mem_singleton,not_or]at hn
   rw [zW,pO (lX (by simpa using hl) hn.1)]
   simp [aQ,IA hn.2]
theorem Ad: ∀{n:Nat} {r:List Int} {j:Nat},r.length=n→r.Nodup→j<r.length→aQ bO (at' r j) (Ep r)=some (j:Int)
 |0,r,j,hl,_,hj=>by omega
 |n+1,r,j,hl,hn,hj=>by
  rcases List.eq_nil_or_concat r with rfl|⟨q,x,rfl⟩
  ·simp at hl
  ·rw [List.concat_eq_append]at*
   rw [List.nodup_append]at hn
   rw [List.length_append,List.length_singleton]at hj hl
   rw [zW]
   by_cases e:j=q.length
   ·subst e
    rw [iV,pO (lX rfl fun hm=>hn.2.2 _ hm _ (List.mem_singleton_self x) rfl)]
    simp [aQ,Br]
   ·rw [gY (by omega),vF (Ad (show q.length=n by omega) hn.1 (by omega))]
theorem MI {r:List Int} {h:Int} (hn:h ∉ r):fe bO h (r.length:Int) (Ep r)=Ep (r++[h]):=by
 rw [zW]
 have gen: ∀{l:List (Int × Int)} {v:Int},aQ bO h l=none→fe bO h v l=l++[(h,v)]:=by
  intro l v
  induction l with
  |nil=>intro _;rfl
  |cons a l ih=>
   obtain⟨k',v'⟩:=a
   intro hg
   unfold aQ at hg
   unfold fe
   cases e:bO h k' with
   |true=>rw [e]at hg;simp at hg
   |false=>rw [e]at hg;simp only [cond_false]at hg ⊢;rw [ih hg];rfl
 exact gen (lX rfl hn)
theorem yK {p:au} {s:State} (t:Nat) (h:Int):yG p s (t+1) h=yG p s t h++(if(!at' s.badBus t && decide (aV p s t=h))=true then [(t:Int)]else []):=by
 unfold yG
 rw [List.range_succ,List.filter_append,List.map_append]
 congr 1
 by_cases c:(!at' s.badBus t && decide (aV p s t=h))=true
 ·simp only [List.filter_cons,List.filter_nil,c,if_true];rfl
 ·simp only [List.filter_cons,List.filter_nil,c,if_false];rfl
theorem Cn {p:au} {s:State} (k:Nat) (h:Int):qj p s (k+1) h=qj p s k h++(if(mH p s k && decide (aV p s (at' p.sources k).bus.toNat=h))=true then [(k:Int)]else []):=by
 unfold qj
 rw [List.range_succ,List.filter_append,List.map_append]
 congr 1
 by_cases c:(mH p s k && decide (aV p s (at' p.sources k).bus.toNat=h))=true
 ·simp only [List.filter_cons,List.filter_nil,c,if_true];rfl
 ·simp only [List.filter_cons,List.filter_nil,c,if_false];rfl
theorem LX {p:au} {s:State} (t:Nat) (h:Int):(yG p s t h).length≤t:=by
 unfold yG;rw [List.length_map];exact Nat.le_trans (List.length_filter_le _ _) (by simp)
theorem zX {p:au} {s:State} (t:Nat) (h:Int):(qj p s t h).length≤t:=by
 unfold qj;rw [List.length_map];exact Nat.le_trans (List.length_filter_le _ _) (by simp)
theorem pK {α β:Type} [Inhabited α] [Inhabited β] {f:α→β} {l:List α} {j:Nat} (h:j<l.length):at' (l.map f) j=f (at' l j):=by
 rw [gF (by rw [List.length_map];exact h),gF h,List.getElem_map]
section
variable {p:au} {s:State} (hp:VP p) (hs:VS p s)
include hp hs
theorem Kt {t:Nat} (ht:(t:Int)<p.buses):bg p s ⟨(nT p s p.links.length).1⟩ (dH p s t 0,Ep (rts p s t),(t:Int))=some (.next (dH p s (t+1) 0,Ep (rts p s (t+1)),((t+1:Nat):Int))):=by
 have h3:=hs.badBus;have hb:=hp.b
 have hrl:=xM (p:=p) (s:=s) t
 have er:rts p s (t+1)=if at' s.badBus t=true∨aV p s t∈rts p s t then rts p s t else rts p s t++[aV p s t]:=rfl
 have ss0: ∀h,qj p s 0 h=[]:=fun h=>rfl
 have hil:(dH p s t 0).length=(rts p s t).length:=by unfold dH;rw [List.length_map]
 unfold bg
 dsimp only
 rw [Int.toNat_natCast,decide_eq_true ht,cond_true,aL (by omega),wr (by omega)]
 cases hbad:at' s.badBus t with
 |true=>
  rw [cond_true,er,if_pos (.inl hbad)]
  have:dH p s (t+1) 0=dH p s t 0:=by
   unfold dH
   rw [er,if_pos (.inl hbad)]
   refine List.map_congr_left fun h _=> ?_
   rw [yK,hbad,if_neg (by simp),List.append_nil]
  rw [this];rfl
 |false=>
  rw [cond_false,zR hp,Option.bind_some]
  have eh:(nT p s p.links.length).2 (t:Int)=aV p s t:=rfl
  rw [eh]
  by_cases hm:aV p s t∈rts p s t
  ·obtain⟨j,hj,e⟩:=iI hm
   have hg:=Ad rfl (nR t) hj
   rw [e]at hg
   rw [hg,er,if_pos (.inr hm)]
   have hbl:=LX (p:=p) (s:=s) t (aV p s t)
   have hat:at' (dH p s t 0) j=⟨yG p s t (aV p s t),[]⟩:=by unfold dH;rw [pK hj,e,ss0]
   rw [Option.isSome_some,Bool.not_true,cond_false,Option.getD_some,Int.toNat_natCast,hat,aL ⟨by omega,by simp;omega,by simp;omega⟩]
   refine congrArg (fun l=>some (bA.next (l,_,_))) ?_
   refine HY (by rw [List.length_set];unfold dH;rw [List.length_map,List.length_map,er,if_pos (.inr hm)]) fun i hi=> ?_
   rw [List.length_set,hil]at hi
   have h2:at' (dH p s (t+1) 0) i=⟨yG p s (t+1) (at' (rts p s t) i),[]⟩:=by
    have h3:rts p s (t+1)=rts p s t:=by rw [er,if_pos (.inr hm)]
    unfold dH;rw [h3,pK hi,ss0]
   rw [h2,yK,hbad]
   by_cases e2:j=i
   ·subst e2
    rw [bZ (by omega),e]
    simp
   ·rw [bQ e2]
    have:aV p s t≠at' (rts p s t) i:=fun q=>by
     have hn:=nR (p:=p) (s:=s) t
     rw [gF hi,←e,gF hj]at q
     exact e2 ((List.getElem_inj hn).1 q)
    rw [decide_eq_false this]
    unfold dH;rw [pK hi,ss0];simp
  ·have hg:=lX (r:=rts p s t) rfl hm
   have er2:rts p s (t+1)=rts p s t++[aV p s t]:=by rw [er,if_neg (fun q=>q.elim (fun q=>by rw [hbad]at q;cases q) hm)]
   have hg2:aQ bO (aV p s t) (fe bO (aV p s t) ((dH p s t 0).length:Int) (Ep (rts p s t)))=some ((dH p s t 0).length:Int):=fC _ _ _
   have hms:fe bO (aV p s t) ((dH p s t 0).length:Int) (Ep (rts p s t))=Ep (rts p s (t+1)):=by rw [hil,er2];exact MI hm
   rw [hg]
   simp only [Option.isSome_none,Bool.not_false,cond_true,hg2,Option.getD_some,Int.toNat_natCast,iV]
   rw [aL ⟨by simp;omega,by simp;omega⟩,aL ⟨by simp;omega,by simp⟩,hms]
   refine congrArg (fun l=>some (bA.next (l,_,_))) ?_
   have hbs:yG p s t (aV p s t)=[]:=by
    unfold yG
    rw [List.map_eq_nil_iff,List.filter_eq_nil_iff]
    intro b hb2 hc
    simp only [Bool.and_eq_true,Bool.not_eq_true',decide_eq_true_eq]at hc
    exact hm (uV.2 ⟨b,List.mem_range.1 hb2,hc.1,hc.2⟩)
   refine HY (by rw [List.length_set,List.length_append,List.length_singleton,hil];unfold dH;rw [List.length_map,er2,List.length_append,List.length_singleton]) fun i hi=> ?_
   rw [List.length_set,List.length_append,List.length_singleton,hil]at hi
   have h2:at' (dH p s (t+1) 0) i=⟨yG p s (t+1) (at' (rts p s (t+1)) i),[]⟩:=by
    unfold dH;rw [pK (by rw [er2,List.length_append,List.length_singleton];exact hi),ss0]
   rw [h2,yK,hbad,er2]
   by_cases e2:i=(rts p s t).length
   ·subst e2
    rw [hil,bZ (by rw [List.length_append,List.length_singleton,hil];omega),iV,hbs]
    simp
   ·rw [hil,bQ (Ne.symm e2),gY (by omega),gY (by omega)]
    have:aV p s t≠at' (rts p s t) i:=fun q=>hm (q ▸ at_mem (by omega))
    rw [decide_eq_false this]
    unfold dH;rw [pK (by omega),ss0];simp
theorem Jo {k:Nat} (hk:k<p.sources.length):bn p s ⟨(nT p s p.links.length).1⟩ (Ep (rts p s p.buses.toNat)) (dH p s p.buses.toNat k,(k:Int))=some (.next (dH p s p.buses.toNat (k+1),((k+1:Nat):Int))):=by
 have hl:=(hp.src k hk).bus;have h1:=hs.on;have h2:=hs.badSource;have h3:=hs.badBus;have h4:=hp.sl;have hb:=hp.b
 have hrl:=xM (p:=p) (s:=s) p.buses.toNat
 have hcb:(bif (bif (at' s.on_ k)then(!(at' s.badSource k))else false)then(!(at' s.badBus (((at' p.sources k).bus).toNat)))else false)=mH p s k:=by
  unfold mH
  cases at' s.on_ k<;>cases at' s.badSource k<;>cases at' s.badBus (at' p.sources k).bus.toNat<;>rfl
 unfold bn
 dsimp only
 rw [Int.toNat_natCast,decide_eq_true (show(k:Int)<(p.sources.length:Int) by omega),cond_true,aL (by omega),aL ⟨by omega,fun _=>by omega,fun _=>by omega⟩,hcb,wr (by omega)]
 cases hf:mH p s k with
 |false=>
  have:dH p s p.buses.toNat (k+1)=dH p s p.buses.toNat k:=by
   unfold dH
   refine List.map_congr_left fun h _=> ?_
   rw [Cn,hf,if_neg (by simp),List.append_nil]
  rw [this];rfl
 |true=>
  have hbad:at' s.badBus (at' p.sources k).bus.toNat=false:=by
   unfold mH at hf
   revert hf
   cases at' s.badBus (at' p.sources k).bus.toNat<;>simp
  have hm:aV p s (at' p.sources k).bus.toNat∈rts p s p.buses.toNat:=uV.2 ⟨_,by omega,hbad,rfl⟩
  obtain⟨j,hj,e⟩:=iI hm
  have hg:=Ad rfl (nR p.buses.toNat) hj
  rw [e]at hg
  have eh:(nT p s p.links.length).2 (at' p.sources k).bus=aV p s (at' p.sources k).bus.toNat:=by unfold aV;rw [Int.toNat_of_nonneg (by omega)]
  have hil: ∀k,(dH p s p.buses.toNat k).length=(rts p s p.buses.toNat).length:=fun k=>by unfold dH;rw [List.length_map]
  have hat:at' (dH p s p.buses.toNat k) j=⟨yG p s p.buses.toNat (aV p s (at' p.sources k).bus.toNat),qj p s k (aV p s (at' p.sources k).bus.toNat)⟩:=by unfold dH;rw [pK hj,e]
  have hsl:=zX (p:=p) (s:=s) k (aV p s (at' p.sources k).bus.toNat)
  rw [cond_true,zR hp,Option.bind_some,eh,hg,Option.getD_some,Int.toNat_natCast,hat,aL ⟨by rw [hil];omega,by simp;omega,by simp;omega⟩]
  refine congrArg (fun l=>some (bA.next (l,_))) ?_
  refine HY (by rw [List.length_set,hil,hil]) fun i hi=> ?_
  rw [List.length_set,hil]at hi
  have h5:at' (dH p s p.buses.toNat (k+1)) i=⟨yG p s p.buses.toNat (at' (rts p s p.buses.toNat) i),qj p s (k+1) (at' (rts p s p.buses.toNat) i)⟩:=by unfold dH;rw [pK hi]
  rw [h5,Cn,hf]
  by_cases e2:j=i
  ·subst e2
   rw [bZ (by rw [hil];omega),e]
   simp
  ·rw [bQ e2]
   have:aV p s (at' p.sources k).bus.toNat≠at' (rts p s p.buses.toNat) i:=fun q=>by
    have hn:=nR (p:=p) (s:=s) p.buses.toNat
    rw [gF hi,←e,gF hj]at q
    exact e2 ((List.getElem_inj hn).1 q)
   rw [decide_eq_false this]
   unfold dH;rw [pK hi];simp
theorem Cf:eU p s=some (dH p s p.buses.toNat p.sources.length):=by
 have hb:=hp.b;have h4:=hp.sl
 unfold eU
 simp only [iB,Option.bind_some]
 rw [vW hp hs,Option.bind_some]
 have e1:aJ (bg p s ⟨(nT p s p.links.length).1⟩) FUEL (dH p s 0 0,Ep (rts p s 0),((0:Nat):Int))=some (.brk (dH p s p.buses.toNat 0,Ep (rts p s p.buses.toNat))):=by
  refine eO (fun t=>(dH p s t 0,Ep (rts p s t),(t:Int))) p.buses.toNat _ (fuel_lt (by omega)) (fun t ht=>Kt hp hs (by omega)) ?_
  unfold bg
  dsimp only
  rw [decide_eq_false (by omega)];rfl
 have e1':aJ (bg p s ⟨(nT p s p.links.length).1⟩) FUEL (([]:List aD),([]:List (Int × Int)),0)=_:=e1
 have e2:aJ (bn p s ⟨(nT p s p.links.length).1⟩ (Ep (rts p s p.buses.toNat))) FUEL (dH p s p.buses.toNat 0,((0:Nat):Int))=some (.brk (dH p s p.buses.toNat p.sources.length)):=by
  refine eO (fun k=>(dH p s p.buses.toNat k,(k:Int))) p.sources.length _ (fuel_lt (by omega)) (fun k hk=>Jo hp hs hk) ?_
  unfold bn
  dsimp only
  rw [decide_eq_false (by omega)];rfl
 have e2':aJ (bn p s ⟨(nT p s p.links.length).1⟩ (Ep (rts p s p.buses.toNat))) FUEL (dH p s p.buses.toNat 0,0)=_:=e2
 rw [e1']
 simp only [Option.bind_some]
 rw [e2'];rfl
end
theorem Du (a b:Bool):(bif a then true else b)=(a||b):=by cases a<;>rfl
theorem Nk {a b:Int} (h:a<b):decide (a<b)=true:=decide_eq_true h
theorem Hl {a b:Int} (h:b≤a):decide (a<b)=false:=decide_eq_false (by omega)
def lM {α:Type} (f:Nat→List α):Nat→List α
 |0=>[]
 |n+1=>lM f n++f n
theorem ou {α:Type} {f:Nat→List α} {x:α}: ∀{n:Nat},x∈lM f n↔ ∃i,i<n∧x∈f i
 |0=>by simp [lM]
 |n+1=>by
  rw [lM,List.mem_append,ou]
  constructor
  ·rintro (⟨i,h,g⟩|g)
   ·exact⟨i,by omega,g⟩
   ·exact⟨n,by omega,g⟩
  ·rintro ⟨i,h,g⟩
   by_cases e:i=n
   ·subst e;exact .inr g
   ·exact .inl ⟨i,by omega,g⟩
theorem kE {α:Type} {f:Nat→List α} {m:Nat}: ∀{n:Nat},(∀i,i<n→(f i).length≤m)→(lM f n).length≤n*m
 |0,_=>by simp [lM]
 |n+1,h=>by
  have h1:=kE (n:=n) fun i hi=>h i (by omega)
  have h2:=h n (by omega)
  rw [lM,List.length_append,Nat.add_mul,Nat.one_mul];omega
theorem wF {α ρ:Type} {body:List α × Int→Option (bA (List α × Int) (Ex (List α) ρ))} (k n:Nat) (f:Nat→List α) (o0:List α) (hn:n≤1000000000)
  (hb: ∀i,i<n→body (o0++lM f i,((k+i:Nat):Int))=some (.next (o0++lM f (i+1),((k+(i+1):Nat):Int)))) (he:body (o0++lM f n,((k+n:Nat):Int))=some (.done (.brk (o0++lM f n)))):
  aJ body FUEL (o0,(k:Int))=some (.brk (o0++lM f n)):=by
 have:=eO (N:=FUEL) (body:=body) (fun i=>(o0++lM f i,((k+i:Nat):Int))) n (.brk (o0++lM f n)) (fuel_lt (by omega)) hb he
 simpa [lM]using this
def Uz (a b:Source):Bool:=decide (a.sync=0)|| !decide (a.sync=b.sync)
def Gv (p:au) (a b:Int):List ah:=if Uz (at' p.sources a.toNat) (at' p.sources b.toNat)=true then [⟨a,b⟩]else []
theorem Ef (p:au) (a b:Int):(Gv p a b).length≤1:=by unfold Gv;split<;>simp
def mK (p:au) (l:List Int):List ah:=lM (fun i=>lM (fun j=>Gv p (at' l i) (at' (l.drop (i+1)) j)) (l.length - (i+1))) l.length
theorem wu (p:au) (l:List Int) (hl:l.length≤8):(mK p l).length≤64:=by
 have h1: ∀i,i<l.length→(lM (fun j=>Gv p (at' l i) (at' (l.drop (i+1)) j)) (l.length - (i+1))).length≤8:=fun i hi=>by
  have:=kE (f:=fun j=>Gv p (at' l i) (at' (l.drop (i+1)) j)) (n:=l.length - (i+1)) (m:=1) fun j _=>Ef _ _ _
  omega
 have:=kE h1
 unfold mK
 have h2:l.length*8≤8*8:=Nat.mul_le_mul_right 8 hl
 omega
def Wm (p:au) (s:State) (x:ah):Prop:= ∃i k:Nat,x=⟨i,k⟩∧i<k∧k<p.sources.length∧mH p s i=true∧mH p s k=true∧(∃l,Wk p s (at' p.sources i).bus.toNat l (at' p.sources k).bus.toNat)∧Uz (at' p.sources i) (at' p.sources k)=true
def Lr (p:au) (s:State):List ah:=lM (fun t=>mK p (at' (dH p s p.buses.toNat p.sources.length) t).sources) (dH p s p.buses.toNat p.sources.length).length
def Je (p:au) (s:State):List ah:=(Lr p s).mergeSort fun x y=> !decide (bC y x<0)
section
variable {p:au} {s:State} (hp:VP p) (hs:VS p s)
include hp
theorem LW {isl:List aD} {t i:Nat} (ht:t<isl.length) (hl:(at' isl t).sources.length≤8) (hm: ∀x∈(at' isl t).sources,0≤x∧x<(p.sources.length:Int)) (hi:i<(at' isl t).sources.length) (o:List ah) (ho:o.length≤100000):
  aJ (iy p isl (t:Int) (i:Int)) FUEL (o,0)=some (.brk (o++lM (fun j=>Gv p (at' (at' isl t).sources i) (at' ((at' isl t).sources.drop (i+1)) j)) ((at' isl t).sources.length - (i+1)))):=by
 have hsl:=hp.sl
 generalize hL:(at' isl t).sources=l at*
 have hw:(IntKind.wrap .i64 ((i:Int)+1)).toNat=i+1:=by rw [wr (by omega)];omega
 refine wF 0 (l.length - (i+1)) (fun j=>Gv p (at' l i) (at' (l.drop (i+1)) j)) o (by omega) (fun j hj=> ?_) ?_
 ·have hA:=kE (f:=fun j=>Gv p (at' l i) (at' (l.drop (i+1)) j)) (n:=j) (m:=1) fun j _=>Ef _ _ _
  unfold iy
  simp only [Int.toNat_natCast,hL,hw,Nat.zero_add]
  have hd:(l.drop (i+1)).length=l.length - (i+1):=List.length_drop
  rw [Nk (by omega),cond_true,aL (by rw [hd];omega)]
  have hx1:=hm _ (at_mem hi)
  have hjd:j<(l.drop (i+1)).length:=by omega
  have hx2:=hm _ (List.mem_of_mem_drop (at_mem hjd))
  rw [aL ⟨hx1,fun _=>hx1,fun _=>hx2⟩,Du,wr (x:=(j:Int)+1) (by omega)]
  show(bif Uz (at' p.sources (at' l i).toNat) (at' p.sources (at' (l.drop (i+1)) j).toNat)then _ else _)=_
  rw [lM]
  unfold Gv
  cases hc:Uz (at' p.sources (at' l i).toNat) (at' p.sources (at' (l.drop (i+1)) j).toNat)with
  |true=>
   rw [cond_true,if_pos rfl,aL ⟨by simp only [List.length_append,List.length_singleton];unfold Gv at hA;omega,by simp only [List.length_append,List.length_singleton];unfold Gv at hA;omega⟩,List.append_assoc]
   rfl
  |false=>
   rw [cond_false,if_neg (by simp),List.append_nil]
   rfl
 ·unfold iy
  simp only [Int.toNat_natCast,hL,hw,Nat.zero_add]
  have:decide (((l.length - (i+1):Nat):Int)<((l.length - (i+1):Nat):Int))=false:=decide_eq_false (by omega)
  rw [this,cond_false]
theorem MV {isl:List aD} {t:Nat} (ht:t<isl.length) (hl:(at' isl t).sources.length≤8) (hm: ∀x∈(at' isl t).sources,0≤x∧x<(p.sources.length:Int)) (o:List ah) (ho:o.length≤90000):
  aJ (iA p isl (t:Int)) FUEL (o,0)=some (.brk (o++mK p (at' isl t).sources)):=by
 have hsl:=hp.sl
 refine wF 0 (at' isl t).sources.length (fun i=>lM (fun j=>Gv p (at' (at' isl t).sources i) (at' ((at' isl t).sources.drop (i+1)) j)) ((at' isl t).sources.length - (i+1))) o (by omega) (fun i hi=> ?_) ?_
 ·have hA:=kE (f:=fun i=>lM (fun j=>Gv p (at' (at' isl t).sources i) (at' ((at' isl t).sources.drop (i+1)) j)) ((at' isl t).sources.length - (i+1))) (n:=i) (m:=8) fun i' _=>by
   have:=kE (f:=fun j=>Gv p (at' (at' isl t).sources i') (at' ((at' isl t).sources.drop (i'+1)) j)) (n:=(at' isl t).sources.length - (i'+1)) (m:=1) fun j _=>Ef _ _ _
   omega
  have h8:i*8≤8*8:=Nat.mul_le_mul_right 8 (by omega)
  unfold iA
  simp only [Int.toNat_natCast,Nat.zero_add]
  rw [Nk (by omega),cond_true,aL (by omega),wr (by omega),aL (by omega),LW hp ht hl hm hi _ (by rw [List.length_append];omega),Option.bind_some]
  rw [lM,List.append_assoc]
  rfl
 ·unfold iA
  simp only [Int.toNat_natCast,Nat.zero_add]
  have:decide (((at' isl t).sources.length:Int)<((at' isl t).sources.length:Int))=false:=decide_eq_false (by omega)
  rw [this,cond_false]
theorem Lh {isl:List aD} (hn:isl.length≤24) (hl: ∀t,t<isl.length→(at' isl t).sources.length≤8) (hm: ∀t,t<isl.length→ ∀x∈(at' isl t).sources,0≤x∧x<(p.sources.length:Int)):
  aJ (fB p isl) FUEL ([],0)=some (.brk (lM (fun t=>mK p (at' isl t).sources) isl.length)):=by
 have:=wF (body:=fB p isl) 0 isl.length (fun t=>mK p (at' isl t).sources) [] (by omega) (fun t ht=> ?_) ?_
 ·simpa using this
 ·have hA:=kE (f:=fun t=>mK p (at' isl t).sources) (n:=t) (m:=64) fun i hi=>wu _ _ (hl i (by omega))
  have h8:t*64≤24*64:=Nat.mul_le_mul_right 64 (by omega)
  unfold fB
  simp only [Int.toNat_natCast,Nat.zero_add]
  rw [Nk (by omega),cond_true,aL (by omega),MV hp ht (hl t ht) (hm t ht) _ (by rw [List.length_append];simp;omega),Option.bind_some,wr (by omega),lM,List.append_assoc]
  rfl
 ·unfold fB
  simp only [Int.toNat_natCast,Nat.zero_add]
  have:decide ((isl.length:Int)<(isl.length:Int))=false:=decide_eq_false (by omega)
  rw [this,cond_false]
include hs
theorem Ip:bE p s=some (Je p s,0)∧ ∀x,x∈Je p s↔Wm p s x:=by
 have hb:=hp.b;have hsl:=hp.sl
 have hrl:=xM (p:=p) (s:=s) p.buses.toNat
 have hlen:(dH p s p.buses.toNat p.sources.length).length=(rts p s p.buses.toNat).length:=by simp [dH]
 have hat: ∀t,t<(rts p s p.buses.toNat).length→(at' (dH p s p.buses.toNat p.sources.length) t).sources=qj p s p.sources.length (at' (rts p s p.buses.toNat) t):=fun t ht=>by
  unfold dH;rw [pK ht]
 have hss: ∀h x,x∈qj p s p.sources.length h↔ ∃i:Nat,x=(i:Int)∧i<p.sources.length∧mH p s i=true∧aV p s (at' p.sources i).bus.toNat=h:=by
  intro h x
  unfold qj
  rw [List.mem_map]
  constructor
  ·rintro ⟨i,hi,rfl⟩
   rw [List.mem_filter,List.mem_range,Bool.and_eq_true,decide_eq_true_eq]at hi
   exact⟨i,rfl,hi.1,hi.2.1,hi.2.2⟩
  ·rintro ⟨i,rfl,h1,h2,h3⟩
   exact⟨i,List.mem_filter.2 ⟨List.mem_range.2 h1,by rw [h2,decide_eq_true h3];rfl⟩,rfl⟩
 have hsorted: ∀h,(qj p s p.sources.length h).Pairwise (· < ·):=by
  intro h
  unfold qj
  rw [List.pairwise_map]
  exact(List.pairwise_lt_range.filter _).imp fun hab=>Int.ofNat_lt.2 hab
 have hl8: ∀t,t<(dH p s p.buses.toNat p.sources.length).length→(at' (dH p s p.buses.toNat p.sources.length) t).sources.length≤8:=fun t ht=>by
  rw [hat t (by omega)];have:=zX (p:=p) (s:=s) p.sources.length (at' (rts p s p.buses.toNat) t);omega
 have hmm: ∀t,t<(dH p s p.buses.toNat p.sources.length).length→ ∀x∈(at' (dH p s p.buses.toNat p.sources.length) t).sources,0≤x∧x<(p.sources.length:Int):=fun t ht x hx=>by
  rw [hat t (by omega),hss]at hx;obtain⟨i,rfl,h1,_⟩:=hx;omega
 unfold Je Lr
 generalize hout:lM (fun t=>mK p (at' (dH p s p.buses.toNat p.sources.length) t).sources) (dH p s p.buses.toNat p.sources.length).length=out
 have hol:out.length≤24*64:=by
  have hA:=kE (f:=fun t=>mK p (at' (dH p s p.buses.toNat p.sources.length) t).sources) (n:=(dH p s p.buses.toNat p.sources.length).length) (m:=64) fun i hi=>wu _ _ (hl8 i hi)
  rw [hout]at hA
  have:(dH p s p.buses.toNat p.sources.length).length*64≤24*64:=Nat.mul_le_mul_right 64 (by omega)
  omega
 have hlm:(out.mergeSort fun x y=> !decide (bC y x<0)).length=out.length:=List.length_mergeSort _
 refine⟨?_,fun x=> ?_⟩
 ·unfold bE
  have h0:oL p s=0:=mo.mpr ⟨hp,hs⟩
  rw [lW p s (VP.small hp),h0,Option.bind_some]
  simp only [decide_true,Bool.not_true,cond_false]
  rw [Cf hp hs,Option.bind_some,Lh hp (by omega) hl8 hmm]
  simp only [Option.bind_some]
  rw [hout]
  have hsf:fZ out=some (out.mergeSort fun x y=> !decide (bC y x<0)):=by
   clear hlm hout
   cases out with
   |nil=>simp [fZ]
   |cons a l=>unfold fZ;simp only;rw [decide_eq_true (by omega)];rfl
  rw [hsf,Option.bind_some,aL hlm.symm]
 ·rw [List.mem_mergeSort]
  constructor
  ·intro hx
   rw [←hout,ou]at hx
   obtain⟨t,ht,hx⟩:=hx
   have ht':t<(rts p s p.buses.toNat).length:=by omega
   rw [hat t ht']at hx
   unfold mK at hx
   rw [ou]at hx
   obtain⟨i,hi,hx⟩:=hx
   rw [ou]at hx
   obtain⟨j,hj,hx⟩:=hx
   unfold Gv at hx
   split at hx
   ·rename_i hc
    have hjd:j<((qj p s p.sources.length (at' (rts p s p.buses.toNat) t)).drop (i+1)).length:=by rw [List.length_drop];exact hj
    rw [x9]at hc
    have hi2:j+(i+1)<(qj p s p.sources.length (at' (rts p s p.buses.toNat) t)).length:=by omega
    obtain⟨a,ea,ha1,ha2,ha3⟩:=(hss _ _).1 (at_mem hi)
    obtain⟨b,eb,hb1,hb2,hb3⟩:=(hss _ _).1 (at_mem hi2)
    have hlt:at' (qj p s p.sources.length (at' (rts p s p.buses.toNat) t)) i<at' (qj p s p.sources.length (at' (rts p s p.buses.toNat) t)) (j+(i+1)):=by
     rw [gF hi,gF hi2]
     exact List.pairwise_iff_getElem.1 (hsorted _) i (j+(i+1)) hi hi2 (by omega)
    rw [ea,eb]at hc hlt
    rw [List.mem_singleton]at hx
    refine⟨a,b,by rw [hx,x9,ea,eb],by omega,hb1,ha2,hb2, ?_,by simpa using hc⟩
    have hA:=(hp.src a ha1).bus;have hB:=(hp.src b hb1).bus
    exact(wU hp (by omega) (by omega)).1 (ha3.trans hb3.symm)
   ·cases hx
  ·rintro ⟨a,b,rfl,hab,hb1,ha2,hb2,hw,hc⟩
   have ha1:a<p.sources.length:=by omega
   have hA:=(hp.src a ha1).bus;have hB:=(hp.src b hb1).bus
   have hh:=(wU hp (u:=(at' p.sources a).bus.toNat) (v:=(at' p.sources b).bus.toNat) (by omega) (by omega)).2 hw
   have hfa:at' s.badBus (at' p.sources a).bus.toNat=false:=by
    unfold mH at ha2;simp only [Bool.and_eq_true,Bool.not_eq_true']at ha2;exact ha2.2
   have hr:aV p s (at' p.sources a).bus.toNat∈rts p s p.buses.toNat:=uV.2 ⟨_,by omega,hfa,rfl⟩
   obtain⟨t,ht,et⟩:=iI hr
   have m1:((a:Nat):Int)∈qj p s p.sources.length (at' (rts p s p.buses.toNat) t):=(hss _ _).2 ⟨a,rfl,ha1,ha2,et.symm⟩
   have m2:((b:Nat):Int)∈qj p s p.sources.length (at' (rts p s p.buses.toNat) t):=(hss _ _).2 ⟨b,rfl,hb1,hb2,by rw [et];exact hh.symm⟩
   obtain⟨i,hi,ei⟩:=iI m1
   obtain⟨k,hk,ek⟩:=iI m2
   have hik:i<k:=by
    rcases Nat.lt_trichotomy i k with h|h|h
    ·exact h
    ·subst h;rw [ei]at ek;omega
    ·have:=List.pairwise_iff_getElem.1 (hsorted (at' (rts p s p.buses.toNat) t)) k i hk hi h
     rw [←gF hk,←gF hi,ei,ek]at this;omega
   rw [←hout,ou]
   refine⟨t,by omega, ?_⟩
   rw [hat t ht]
   unfold mK
   rw [ou]
   refine⟨i,hi,ou.2 ⟨k - (i+1),by omega, ?_⟩⟩
   rw [x9,show k - (i+1)+(i+1)=k by omega,ei,ek]
   unfold Gv
   rw [if_pos (by simpa using hc)]
   exact List.mem_singleton.2 rfl
end
structure Ph (s:State):Prop where
 l0:s.closed.length≤140737488351232
 l1:s.locked.length≤140737488351232
 l2:s.badLink.length≤140737488351232
 l3:s.on_.length≤140737488351232
 l4:s.badSource.length≤140737488351232
 l5:s.earthed.length≤140737488351232
 l6:s.badBus.length≤140737488351232
theorem VS.room {p:au} {s:State} (hp:VP p) (h:VS p s):Ph s:=by
 have h1:=hp.ll;have h2:=hp.sl;have h3:=hp.b
 obtain⟨a1,a2,a3,a4,a5,a6,a7,_⟩:=h
 exact⟨by omega,by omega,by omega,by omega,by omega,by omega,by omega⟩
theorem l9 (l:List Bool) (h:l.length≤140737488351232):aP l=some l:=by
 unfold aP oQ
 rw [Bool.not_true,cond_false,aL ⟨by simp only [List.length_nil];omega,by simp only [List.length_nil];omega⟩];rfl
section
variable {p:au} {s:State} (hp:VP p) (hs:VS p s)
include hp hs
end
def Mi (s:State) (i:Nat):State:=⟨s.closed.set i true,s.locked,s.badLink,s.on_,s.badSource,s.earthed,s.badBus⟩
theorem RD {l:List Bool} {i q:Nat} (h:at' l q=true):at' (l.set i true) q=true:=by
 by_cases e:i=q
 ·subst e
  by_cases hl:i<l.length
  ·rw [bZ hl]
  ·rw [List.set_eq_of_length_le (by omega)];exact h
 ·rwa [bQ e]
theorem VS.close {p:au} {s:State} (hs:VS p s) (i:Nat):VS p (Mi s i):=
 ⟨by unfold Mi;rw [List.length_set];exact hs.closed,hs.locked,hs.badLink,hs.on,hs.badSource,hs.earthed,hs.badBus,fun q hq hk=> ⟨RD (hs.cable q hq hk).1,(hs.cable q hq hk).2⟩⟩
theorem DJ:lT=some true:=by kernel_rfl
def gy (p:au) (s:State):List Bool:=((cO p s).getD default).1
section
variable {p:au} {s:State} (hp:VP p) (hs:VS p s)
include hp hs
theorem uX:cO p s=some (gy p s,0):=by
 obtain⟨L,h,_⟩:=Dz hp hs
 unfold gy;rw [h];rfl
theorem lK:((gy p s).length:Int)=p.buses:=by
 obtain⟨L,h,h1,_⟩:=Dz hp hs
 unfold gy;rw [h];exact h1
theorem jK {b:Nat} (hb:(b:Int)<p.buses):at' (gy p s) b=true↔oG p s b:=by
 obtain⟨L,h,_,h2⟩:=Dz hp hs
 unfold gy;rw [h];exact h2 b hb
theorem rG:bE p s=some (Je p s,0):=(Ip hp hs).1
theorem uS:(Je p s).length≤100000:=by
 have hb:=hp.b;have hsl:=hp.sl
 have hrl:=xM (p:=p) (s:=s) p.buses.toNat
 have hlen:(dH p s p.buses.toNat p.sources.length).length=(rts p s p.buses.toNat).length:=by simp [dH]
 have hl8: ∀t,t<(dH p s p.buses.toNat p.sources.length).length→(at' (dH p s p.buses.toNat p.sources.length) t).sources.length≤8:=fun t ht=>by
  have e:(at' (dH p s p.buses.toNat p.sources.length) t).sources=qj p s p.sources.length (at' (rts p s p.buses.toNat) t):=by unfold dH;rw [pK (by omega)]
  rw [e];have:=zX (p:=p) (s:=s) p.sources.length (at' (rts p s p.buses.toNat) t);omega
 unfold Je Lr
 rw [List.length_mergeSort]
 have hA:=kE (f:=fun t=>mK p (at' (dH p s p.buses.toNat p.sources.length) t).sources) (n:=(dH p s p.buses.toNat p.sources.length).length) (m:=64) fun i hi=>wu _ _ (hl8 i hi)
 have:(dH p s p.buses.toNat p.sources.length).length*64≤24*64:=Nat.mul_le_mul_right 64 (by omega)
 omega
end
def wR (p:au) (i:Int):Bool:=bif (bif (decide (0≤i))then(decide (i<(p.links.length:Int)))else false)then(!decide (((at' p.links i.toNat).kind)=1))else false
theorem KU (p:au) (i x1:Int):dP i x1 p.sources p.links p.racks=some (wR p i):=by
 unfold dP wR
 rw [aL (fun h=>by
  by_cases h1:0≤i<;>by_cases h2:i<(p.links.length:Int)
  ·exact⟨h1,h2⟩
  all_goals (exfalso;revert h;simp [gB,h1,h2]))]
theorem xP {p:au} {i:Int}:wR p i=true↔0≤i∧i<(p.links.length:Int)∧(at' p.links i.toNat).kind≠1:=by
 unfold wR
 by_cases h1:0≤i<;>by_cases h2:i<(p.links.length:Int)<;>simp [h1,h2]
def Md (p:au) (x:Transfer):Bool:= !(bif (bif (bif (decide (x.watch<0))then true else(decide (p.buses≤x.watch)))then true else(!wR p x.close))then true else(bif (!decide (x.open_=(-1)))then(bif (!wR p x.open_)then true else(decide (x.open_=x.close)))else false))
theorem LP (p:au) (x:Transfer):eG x p.buses p.sources p.links p.racks p.buses p.sources p.links p.racks=some (!Md p x):=by
 unfold eG Md
 simp only [KU]
 generalize decide (x.watch<0)=b1
 generalize decide (p.buses≤x.watch)=b2
 generalize wR p x.close=b3
 generalize decide (x.open_= -1)=b4
 generalize wR p x.open_=b5
 generalize decide (x.open_=x.close)=b6
 cases b1<;>cases b2<;>cases b3<;>cases b4<;>cases b5<;>cases b6<;>rfl
structure FB (p:au) (x:Transfer):Prop where
 watch:0≤x.watch∧x.watch<p.buses
 close:wR p x.close=true
 open_:x.open_= -1∨wR p x.open_=true∧x.open_≠x.close
theorem IQ {p:au} {x:Transfer}:Md p x=true↔FB p x:=by
 have key:Md p x=(!decide (x.watch<0) && (!decide (p.buses≤x.watch) && (wR p x.close && (decide (x.open_= -1)||(wR p x.open_ && !decide (x.open_=x.close)))))):=by
  unfold Md
  generalize decide (x.watch<0)=b1
  generalize decide (p.buses≤x.watch)=b2
  generalize wR p x.close=b3
  generalize decide (x.open_= -1)=b4
  generalize wR p x.open_=b5
  generalize decide (x.open_=x.close)=b6
  cases b1<;>cases b2<;>cases b3<;>cases b4<;>cases b5<;>cases b6<;>rfl
 rw [key]
 simp only [Bool.and_eq_true,Bool.not_eq_true',Bool.or_eq_true,decide_eq_false_iff_not,decide_eq_true_eq]
 exact⟨fun⟨a,b,c,d⟩=> ⟨by omega,c,d⟩,fun⟨a,b,c⟩=> ⟨by omega,by omega,b,c⟩⟩
def O1 (p:au) (s:State) (l:List Transfer):Int:=bif !decide (oL p s=0)then oL p s else bif (bif decide (16<(l.length:Int))then true else l.any fun x=> !Md p x)then 1 else 0
theorem K7 (p:au) (s:State) (l:List Transfer) (hp:Small p) (hl:l.length≤9223372036854775807):dY p s l=some (O1 p s l):=by
 have hc:eD l p.buses p.sources p.links p.racks p.buses p.sources p.links p.racks=some (l.any fun x=> !Md p x):=by
  unfold eD iJ
  rw [lI l (fun x=> !Md p x) id hl (fun i hi=> ?_) ?_]
  ·rw [←jZ];cases l.findIdx? fun x=> !Md p x<;>rfl
  ·unfold gJ;simp
  ·unfold gJ
   rw [Int.toNat_natCast,LP]
   exact mh hi hl _ id _
 unfold dY O1
 rw [lW p s hp,Option.bind_some,hc]
 by_cases h0:oL p s=0
 ·rw [decide_eq_true h0,Bool.not_true,cond_false,cond_false]
  generalize l.any (fun x=> !Md p x)=b2
  cases decide (16<(l.length:Int))<;>cases b2<;>rfl
 ·rw [decide_eq_false h0];rfl
theorem BB {p:au} {s:State} {l:List Transfer}:O1 p s l=0↔VP p∧VS p s∧l.length≤16∧ ∀x∈l,FB p x:=by
 unfold O1
 by_cases h0:oL p s=0
 ·rw [decide_eq_true h0,Bool.not_true,cond_false]
  have hv:=mo.mp h0
  by_cases hl:16<(l.length:Int)
  ·rw [decide_eq_true hl,cond_true,cond_true]
   exact⟨fun h=>absurd h (by decide),fun h=>absurd h.2.2.1 (by omega)⟩
  ·rw [decide_eq_false hl,cond_false]
   cases ha:l.any fun x=> !Md p x with
   |true=>
    obtain⟨x,hx,hb⟩:=List.any_eq_true.1 ha
    refine⟨fun h=>absurd h (by decide),fun h=> ?_⟩
    rw [IQ.2 (h.2.2.2 x hx)]at hb;cases hb
   |false=>
    refine⟨fun _=> ⟨hv.1,hv.2,by omega,fun x hx=> ?_⟩,fun _=>rfl⟩
    have:=List.any_eq_false.1 ha x hx
    exact IQ.1 (by simpa using this)
 ·rw [decide_eq_false h0]
  exact⟨fun h=>absurd h h0,fun h=>absurd (mo.mpr ⟨h.1,h.2.1⟩) h0⟩
def BU (s:State) (x:Transfer):List Bool:=if 0≤x.open_ then(s.closed.set x.close.toNat true).set x.open_.toNat false else s.closed.set x.close.toNat true
def Bo (s:State) (x:Transfer):State:=⟨BU s x,s.locked,s.badLink,s.on_,s.badSource,s.earthed,s.badBus⟩
theorem Lu (s:State) (x:Transfer):(BU s x).length=s.closed.length:=by unfold BU;split<;>simp
theorem VS.new {p:au} {s:State} (hs:VS p s) {x:Transfer} (hx:FB p x):VS p (Bo s x):=by
 refine⟨(Lu s x).trans hs.closed,hs.locked,hs.badLink,hs.on,hs.badSource,hs.earthed,hs.badBus,fun i hi hk=> ⟨?_,(hs.cable i hi hk).2⟩⟩
 have hc:=(hs.cable i hi hk).1
 have h1:i≠x.close.toNat:=fun e=>(xP.1 hx.close).2.2 (e ▸ hk)
 show at' (BU s x) i=true
 unfold BU
 split
 ·rcases hx.open_ with h|⟨h,_⟩
  ·omega
  ·have h2:i≠x.open_.toNat:=fun e=>(xP.1 h).2.2 (e ▸ hk)
   rw [bQ (Ne.symm h2),bQ (Ne.symm h1)];exact hc
 ·rw [bQ (Ne.symm h1)];exact hc
def PZ (s:State) (L:List Bool) (x:Transfer):Bool:=bif (bif (bif (bif (at' s.badBus x.watch.toNat)then true else(at' L x.watch.toNat))then true else(at' s.closed x.close.toNat))then true else(at' s.badLink x.close.toNat))then true else(at' s.locked x.close.toNat)
def Qf (s:State) (x:Transfer):Bool:=bif (at' s.badLink x.open_.toNat)then true else(at' s.locked x.open_.toNat)
def zq (L A E:List Bool) (b:Nat):Bool:=bif (bif (at' L b)then(!(at' A b))else false)then true else(bif (bif (at' A b)then(at' E b)else false)then(!(at' L b))else false)
def JV (x y:ah):Bool:=(decide (x.e0=y.e0)) && ((decide (x.e1=y.e1)) && true)
theorem Ja {x y:ah}:JV x y=true↔x=y:=by
 unfold JV
 simp only [Bool.and_true,Bool.and_eq_true,decide_eq_true_eq]
 exact⟨fun h=>by cases x;cases y;simp only at h;rw [h.1,h.2],fun h=>by rw [h];exact⟨rfl,rfl⟩⟩
def EA (p:au) (s t:State) (x:Transfer):Bool:= !((List.range (gy p t).length).any (zq (gy p s) (gy p t) s.earthed)) && (at' (gy p t) x.watch.toNat && !((Je p t).any fun c=> !((Je p s).any (JV c))))
def zA (p:au) (s:State) (x:Transfer):Bool:= !PZ s (gy p s) x && ((!decide (0≤x.open_)|| !Qf s x) && EA p s (Bo s x) x)
theorem KI (l:List ah) (v:ah) (hl:l.length≤9223372036854775807):iO l v=some (l.any (JV v)):=by
 unfold iO oF
 rw [lI l (JV v) id hl (fun i hi=> ?_) ?_]
 ·rw [←jZ];cases l.findIdx? (JV v)<;>rfl
 ·unfold kH;simp
 ·unfold kH
  rw [Int.toNat_natCast]
  have h1:decide ((i:Int)<(l.length:Int))=true:=decide_eq_true (by omega)
  rw [h1,cond_true,aL (by omega),wr (by omega)]
  exact zS _ _ _
theorem ER (a b:List ah) (ha:a.length≤9223372036854775807) (hb:b.length≤9223372036854775807):bU a b=some (a.any fun c=> !(b.any (JV c))):=by
 unfold bU iK
 rw [lI a (fun c=> !(b.any (JV c))) id ha (fun i hi=> ?_) ?_]
 ·rw [←jZ];cases a.findIdx? fun c=> !(b.any (JV c))<;>rfl
 ·unfold gH;simp
 ·unfold gH mO
  rw [Int.toNat_natCast,KI b _ hb,Option.bind_some]
  exact mh hi ha _ id _
theorem Ez (s:State) (L A:List Bool) (e1 e2:Int) (hL:L.length=A.length) (hE:s.earthed.length=A.length) (hA:A.length≤1000):
  aJ (fw s (L,e1) (A,e2)) FUEL 0=some (match(List.range A.length).find? (zq L A s.earthed)with|some _=> .ret (s,false)|none=> .brk ()):=by
 refine lZ A.length (zq L A s.earthed) (fun _=>(s,false)) (by omega) (fun i hi=> ?_) ?_
 ·unfold fw
  dsimp only
  rw [Nk (by omega),cond_true,aL ⟨by omega,fun _=>by omega,fun _=>by omega,fun _=>by omega,fun _=>by omega⟩,Int.toNat_natCast,wr (by omega)]
  exact zS _ _ _
 ·unfold fw
  dsimp only
  rw [Hl (by omega)];rfl
section
variable {p:au} {s t:State} (hp:VP p) (hs:VS p s) (ht:VS p t)
include hp hs ht
theorem Gc {x:Transfer} (hx:FB p x) (he:t.earthed=s.earthed):
  ((cO p t).bind fun r_2=>
   Option.bind (aJ (fw s (gy p s,0) r_2) FUEL (0)) fun o=>match o with
   | .ret v=>some v
   | .brk _=>
   (bE p s).bind fun r_3=>
   (bE p t).bind fun r_4=>
   (bif gB [((!(at' r_2.1 x.watch.toNat)),false)]then bU r_4.1 r_3.1 else some default).bind fun r_5=>
   dh ((0:Int)≤x.watch∧x.watch<(r_2.1.length:Int)) (
   bif (bif (!(at' r_2.1 x.watch.toNat))then true else r_5)then
   some (s,false)
   else
   some (t,true)))=some (bif EA p s t x then(t,true)else(s,false)):=by
 have hb:=hp.b
 have l1:=lK hp hs;have l2:=lK hp ht;have l3:=hs.earthed
 have c1:=uS hp hs;have c2:=uS hp ht
 obtain⟨w1,w2⟩:=hx.watch
 rw [uX hp ht,Option.bind_some,Ez s (gy p s) (gy p t) 0 0 (by omega) (by omega) (by omega),Option.bind_some]
 unfold EA
 have hf:=uK (zq (gy p s) (gy p t) s.earthed) (List.range (gy p t).length)
 cases hq:(List.range (gy p t).length).find? (zq (gy p s) (gy p t) s.earthed)with
 |some k=>
  rw [hq]at hf
  rw [←hf];rfl
 |none=>
  rw [hq]at hf
  rw [←hf]
  dsimp only
  rw [rG hp hs,Option.bind_some,rG hp ht,Option.bind_some]
  dsimp only
  rw [ER _ _ (by omega) (by omega)]
  generalize (Je p t).any (fun c=> !((Je p s).any (JV c)))=b2
  cases at' (gy p t) x.watch.toNat with
  |false=>
   show dh _ _=_
   rw [aL ⟨by omega,by omega⟩];rfl
  |true=>
   show dh _ _=_
   rw [aL ⟨by omega,by omega⟩];cases b2<;>rfl
omit ht in
theorem La {x:Transfer} (hx:FB p x):jM p s x=some (bif zA p s x then(Bo s x,true)else(s,false)):=by
 have hb:=hp.b;have hll:=hp.ll
 have l1:=lK hp hs;have l2:=hs.badBus;have l3:=hs.closed;have l4:=hs.badLink;have l5:=hs.locked
 obtain⟨w1,w2⟩:=hx.watch
 obtain⟨c1,c2,_⟩:=xP.1 hx.close
 have hn:=hs.new hx
 unfold jM
 rw [uX hp hs,Option.bind_some]
 dsimp only
 rw [aL ⟨⟨by omega,by omega⟩,fun _=> ⟨by omega,by omega⟩,fun _=> ⟨by omega,by omega⟩,fun _=> ⟨by omega,by omega⟩,fun _=> ⟨by omega,by omega⟩⟩]
 unfold zA
 show(bif PZ s (gy p s) x then _ else _)=_
 cases hA:PZ s (gy p s) x with
 |true=>rfl
 |false=>
  rw [cond_false,l9 _ (by omega),Option.bind_some,aL ⟨by omega,by omega⟩]
  by_cases ho:0≤x.open_
  ·have hm:wR p x.open_=true:=by
    rcases hx.open_ with h|h
    ·omega
    ·exact h.1
   obtain⟨o1,o2,_⟩:=xP.1 hm
   rw [decide_eq_true ho,cond_true,aL ⟨⟨by omega,by omega⟩,fun _=> ⟨by omega,by omega⟩⟩]
   show(bif Qf s x then _ else _)=_
   cases hO:Qf s x with
   |true=>rfl
   |false=>
    rw [cond_false,aL ⟨by omega,by rw [List.length_set];omega⟩]
    have e:Bo s x=⟨(s.closed.set x.close.toNat true).set x.open_.toNat false,s.locked,s.badLink,s.on_,s.badSource,s.earthed,s.badBus⟩:=by unfold Bo BU;rw [if_pos ho]
    have:=Gc hp hs hn hx rfl
    rw [e]at this ⊢
    exact this
  ·rw [decide_eq_false ho,cond_false,show qp=fw from rfl]
   have e:Bo s x=⟨s.closed.set x.close.toNat true,s.locked,s.badLink,s.on_,s.badSource,s.earthed,s.badBus⟩:=by unfold Bo BU;rw [if_neg ho]
   have:=Gc hp hs hn hx rfl
   rw [e]at this ⊢
   exact this
end
def cntF (d:List Bool):Nat:=d.countP (fun b=> !b)
theorem tN: ∀(d:List Bool) (i:Nat),i<d.length→at' d i=false→cntF (d.set i true)+1=cntF d
 |b::d,0,_,h=>by
  have h:b=false:=h
  subst h
  simp [cntF]
 |b::d,i+1,hi,h=>by
  have ih:=tN d i (by simpa using hi) h
  unfold cntF at ih ⊢
  rw [List.set_cons_succ,List.countP_cons,List.countP_cons]
  omega
theorem IL (d:List Bool):cntF d≤d.length:=List.countP_le_length
def lC (p:au) (s:State) (l:List Transfer) (d:List Bool):Option Nat:=(List.range l.length).find? fun i=> !at' d i && zA p s (at' l i)
theorem nY {p:au} {s:State} {l:List Transfer} {d:List Bool} {i:Nat} (h:lC p s l d=some i):i<l.length∧at' d i=false∧zA p s (at' l i)=true:=by
 have h1:=List.mem_range.1 (List.mem_of_find?_eq_some h)
 have h2:=List.find?_some h
 simp only [Bool.and_eq_true,Bool.not_eq_true']at h2
 exact⟨h1,h2⟩
theorem GJ {p:au} {s:State} {l:List Transfer} {d:List Bool} (h:lC p s l d=none): ∀i,i<l.length→at' d i=false→zA p s (at' l i)=false:=fun i hi hd=>by
 have:=(List.find?_eq_none.1 h) i (List.mem_range.2 hi)
 rw [hd]at this
 simpa using this
def sK (p:au) (l:List Transfer):Nat→State→List Int→List Bool→State × List Int × List Bool
 |0,s,o,d=>(s,o,d)
 |n+1,s,o,d=>match lC p s l d with
  |none=>(s,o,d)
  |some i=>sK p l n (Bo s (at' l i)) (o++[(i:Int)]) (d.set i true)
def jB (s:State) (c:List Bool):State:=⟨c,s.locked,s.badLink,s.on_,s.badSource,s.earthed,s.badBus⟩
section
variable {p:au} {l:List Transfer} (hp:VP p) (hl:l.length≤16) (hx: ∀x∈l,FB p x)
include hp hl hx
theorem Eo {s:State} {c:List Bool} (hs:VS p (jB s c)) {o:List Int} {d:List Bool} (hd:d.length=l.length) (ho:o.length≤1000):
  aJ (gN l p.buses p.sources p.links p.racks s c o d) FUEL 0=some (match lC p (jB s c) l d with|some i=> .ret (.next (BU (jB s c) (at' l i),o++[(i:Int)],d.set i true))|none=> .brk ()):=by
 refine lZ l.length (fun i=> !at' d i && zA p (jB s c) (at' l i)) (fun i=>bA.next (BU (jB s c) (at' l i.toNat),o++[i],d.set i.toNat true)) (by omega) (fun i hi=> ?_) ?_
 ·have ha:=La hp hs (hx _ (at_mem hi))
  have ha':jM ⟨p.buses,p.sources,p.links,p.racks⟩ ⟨c,s.locked,s.badLink,s.on_,s.badSource,s.earthed,s.badBus⟩ (at' l i)=some (bif zA p (jB s c) (at' l i)then(Bo (jB s c) (at' l i),true)else(jB s c,false)):=ha
  unfold gN
  rw [Nk (by omega),cond_true,aL (by omega),aL (by omega),Int.toNat_natCast,wr (by omega),ha']
  cases at' d i with
  |true=>rfl
  |false=>
   cases zA p (jB s c) (at' l i)with
   |false=>rfl
   |true=>
    rw [cond_false,Option.bind_some]
    rw [cond_true,aL (by omega)]
    unfold jE
    rw [aL ⟨by rw [List.length_singleton];omega,by rw [List.length_singleton];omega⟩]
    rfl
 ·unfold gN
  rw [Hl (by omega)];rfl
theorem xA {s:State} {c:List Bool} (hs:VS p (jB s c)) {o:List Int} {d:List Bool} (hd:d.length=l.length) (ho:o.length≤1000):
  gQ l p.buses p.sources p.links p.racks s (c,o,d)=some (match lC p (jB s c) l d with|some i=> .next (BU (jB s c) (at' l i),o++[(i:Int)],d.set i true)|none=> .done (.brk (c,o))):=by
 unfold gQ
 dsimp only
 rw [Eo hp hl hx hs hd ho]
 cases lC p (jB s c) l d<;>rfl
theorem zf (s:State): ∀(n:Nat) (c:List Bool) (o:List Int) (d:List Bool),VS p (jB s c)→d.length=l.length→cntF d≤n→o.length+n≤1000→
  aJ (gQ l p.buses p.sources p.links p.racks s) (n+1) (c,o,d)=some (.brk ((sK p l n (jB s c) o d).1.closed,(sK p l n (jB s c) o d).2.1))
 |0,c,o,d,hs,hd,hn,ho=>by
  rw [dw,xA hp hl hx hs hd (by omega)]
  cases h:lC p (jB s c) l d with
  |none=>rfl
  |some i=>
   obtain⟨h1,h2,_⟩:=nY h
   have:=tN d i (by omega) h2
   omega
 |n+1,c,o,d,hs,hd,hn,ho=>by
  rw [dw,xA hp hl hx hs hd (by omega)]
  unfold sK
  cases h:lC p (jB s c) l d with
  |none=>rfl
  |some i=>
   obtain⟨h1,h2,_⟩:=nY h
   have:=tN d i (by omega) h2
   exact zf s n _ _ _ (hs.new (hx _ (at_mem h1))) (by rw [List.length_set];exact hd) (by omega) (by rw [List.length_append,List.length_singleton];omega)
end
theorem Ao (p:au) (l:List Transfer) (s:State): ∀(n:Nat) (c:List Bool) (o:List Int) (d:List Bool),(sK p l n (jB s c) o d).1=jB s (sK p l n (jB s c) o d).1.closed
 |0,_,_,_=>rfl
 |n+1,c,o,d=>by
  unfold sK
  cases lC p (jB s c) l d with
  |none=>rfl
  |some i=>exact Ao p l s n _ _ _
def qz (p:au) (s:State) (l:List Transfer):State × List Int × List Bool:=sK p l l.length s [] (List.replicate l.length false)
theorem GU (s:State) (h:Ph s):kI s=some s:=by
 obtain⟨h0,h1,h2,h3,h4,h5,h6⟩:=h
 unfold kI
 rw [l9 _ h0,l9 _ h1,l9 _ h2,l9 _ h3,l9 _ h4,l9 _ h5,l9 _ h6]
 rfl
def Wp:State:=⟨[],[],[],[],[],[],[]⟩
theorem Dm (p:au) (s:State) (l:List Transfer) (hp:Small p) (hl:l.length≤9223372036854775807):
  bS p s l=some (if O1 p s l=0 then((qz p s l).1,(qz p s l).2.1,0)else(Wp,[],O1 p s l)):=by
 unfold bS
 rw [K7 p s l hp hl,Option.bind_some]
 by_cases h0:O1 p s l=0
 ·obtain⟨hv,hs,h16,hx⟩:=BB.1 h0
  rw [decide_eq_true h0,Bool.not_true,cond_false,GU s (hs.room hv),Option.bind_some,if_pos h0]
  unfold kT
  rw [Option.bind_some]
  dsimp only
  unfold lQ
  rw [aL ⟨by omega,by omega,by omega⟩,Option.bind_some,Int.toNat_natCast]
  have key:=zf hv h16 hx s l.length s.closed [] (List.replicate l.length false) hs (by simp) (by have:=IL (List.replicate l.length false);rw [List.length_replicate]at this;exact this) (by simp;omega)
  rw [lJ key (by unfold FUEL;omega),Option.bind_some,Option.bind_some]
  congr 2
  exact(Ao p l s l.length s.closed [] (List.replicate l.length false)).symm
 ·rw [decide_eq_false h0,if_neg h0];rfl
structure SI (p:au) (s0:State) (l:List Transfer) (s:State) (o:List Int) (d:List Bool):Prop where
 vs:VS p s
 earth:s.earthed=s0.earthed
 live: ∀b:Nat,(b:Int)<p.buses→oG p s0 b→oG p s b
 dead: ∀b:Nat,(b:Int)<p.buses→oG p s b→at' s0.earthed b=true→oG p s0 b
 clash: ∀c,c∈Je p s→c∈Je p s0
 dl:d.length=l.length
 ord: ∀i,i<l.length→(at' d i=true↔(i:Int)∈o)
 rng: ∀x∈o,∃i:Nat,x=(i:Int)∧i<l.length
 nodup:o.Nodup
 watch: ∀i:Nat,i<l.length→(i:Int)∈o→oG p s (at' l i).watch.toNat
section
variable {p:au} {s0:State} {l:List Transfer} (hp:VP p) (hx: ∀x∈l,FB p x)
include hp hx
omit hx in
theorem J8 {s t:State} {x:Transfer} (hs:VS p s) (ht:VS p t) (h:EA p s t x=true):(∀b:Nat,(b:Int)<p.buses→oG p s b→oG p t b)∧(∀b:Nat,(b:Int)<p.buses→oG p t b→at' s.earthed b=true→oG p s b)∧at' (gy p t) x.watch.toNat=true∧ ∀c,c∈Je p t→c∈Je p s:=by
 unfold EA at h
 simp only [Bool.and_eq_true,Bool.not_eq_true']at h
 obtain⟨h1,h2,h3⟩:=h
 have l1:=lK hp hs;have l2:=lK hp ht
 have hu: ∀b:Nat,(b:Int)<p.buses→zq (gy p s) (gy p t) s.earthed b=false:=fun b hb=>by
  have:=List.any_eq_false.1 h1 b (List.mem_range.2 (by omega))
  simpa using this
 refine⟨fun b hb hL=> ?_,fun b hb hA hE=> ?_,h2,fun c hc=> ?_⟩
 ·have:=hu b hb
  rw [←jK hp hs hb]at hL
  rw [←jK hp ht hb]
  unfold zq at this
  rw [hL]at this
  cases hA:at' (gy p t) b with
  |true=>rfl
  |false=>rw [hA]at this;cases this
 ·have:=hu b hb
  rw [←jK hp ht hb]at hA
  rw [←jK hp hs hb]
  unfold zq at this
  rw [hA,hE]at this
  cases hL:at' (gy p s) b with
  |true=>rfl
  |false=>rw [hL]at this;cases this
 ·have:=List.any_eq_false.1 h3 c hc
  simp only [Bool.not_eq_true,Bool.not_eq_false']at this
  obtain⟨y,hy,e⟩:=List.any_eq_true.1 this
  rw [Ja.1 e];exact hy
theorem SI.step {s:State} {o:List Int} {d:List Bool} (g:SI p s0 l s o d) {i:Nat} (hn:lC p s l d=some i):SI p s0 l (Bo s (at' l i)) (o++[(i:Int)]) (d.set i true):=by
 obtain⟨hi,hd,hc⟩:=nY hn
 have hxi:=hx _ (at_mem hi)
 have hvn:=g.vs.new hxi
 unfold zA at hc
 simp only [Bool.and_eq_true]at hc
 obtain⟨t1,t2,t3,t4⟩:=J8 hp g.vs hvn hc.2.2
 have hno:(i:Int) ∉ o:=fun h=>by rw [(g.ord i hi).2 h]at hd;cases hd
 refine⟨hvn,g.earth,fun b hb h=>t1 b hb (g.live b hb h),fun b hb h he=>g.dead b hb (t2 b hb h (by rw [g.earth];exact he)) he,fun c hc=>g.clash c (t4 c hc),by rw [List.length_set];exact g.dl,fun j hj=> ?_,fun x hx=> ?_, ?_,fun j hj hm=> ?_⟩
 ·rw [List.mem_append,List.mem_singleton,←g.ord j hj]
  have hdl:=g.dl
  by_cases e:i=j
  ·subst e;rw [bZ (by omega)];simp
  ·rw [bQ e]
   exact⟨.inl,fun h=>h.elim id fun h=>absurd (by omega) e⟩
 ·rcases List.mem_append.1 hx with h|h
  ·exact g.rng x h
  ·exact⟨i,List.mem_singleton.1 h,hi⟩
 ·rw [List.nodup_append]
  exact⟨g.nodup,by simp,fun a ha b hb e=>by rw [List.mem_singleton]at hb;subst hb;subst e;exact hno ha⟩
 ·have hw: ∀j,j<l.length→0≤(at' l j).watch∧(at' l j).watch<p.buses:=fun j hj=>(hx _ (at_mem hj)).watch
  have:=hw j hj
  rcases List.mem_append.1 hm with h|h
  ·exact t1 _ (by omega) (g.watch j hj h)
  ·have e:j=i:=by have:=List.mem_singleton.1 h;omega
   subst e
   exact(jK hp hvn (by omega)).1 t3
theorem SI.run: ∀(n:Nat) {s:State} {o:List Int} {d:List Bool},SI p s0 l s o d→cntF d≤n→SI p s0 l (sK p l n s o d).1 (sK p l n s o d).2.1 (sK p l n s o d).2.2∧lC p (sK p l n s o d).1 l (sK p l n s o d).2.2=none
 |0,s,o,d,g,hn=>by
  refine⟨g, ?_⟩
  show lC p s l d=none
  cases h:lC p s l d with
  |none=>rfl
  |some i=>
   obtain⟨h1,h2,_⟩:=nY h
   have:=tN d i (by rw [g.dl];exact h1) h2
   omega
 |n+1,s,o,d,g,hn=>by
  unfold sK
  cases h:lC p s l d with
  |none=>exact⟨g,h⟩
  |some i=>
   obtain⟨h1,h2,_⟩:=nY h
   have:=tN d i (by rw [g.dl];exact h1) h2
   exact SI.run n (g.step hp hx h) (by omega)
omit hx in
theorem SI.init (hs:VS p s0):SI p s0 l s0 [] (List.replicate l.length false):=
 ⟨hs,rfl,fun _ _ h=>h,fun _ _ h _=>h,fun _ h=>h,by simp,fun i hi=>by rw [lV hi];simp,fun _ h=>(by cases h),List.nodup_nil,fun _ _ h=>(by cases h)⟩
theorem KP (hs:VS p s0):SI p s0 l (qz p s0 l).1 (qz p s0 l).2.1 (qz p s0 l).2.2∧lC p (qz p s0 l).1 l (qz p s0 l).2.2=none:=
 SI.run hp hx l.length (SI.init hp hs) (by have:=IL (List.replicate l.length false);rw [List.length_replicate]at this;exact this)
end
theorem Dk {p:au} {s:State} {l:List Transfer} (hp:VP p) (hs:VS p s) (hl:l.length≤16) (hx: ∀x∈l,FB p x):bS p s l=some ((qz p s l).1,(qz p s l).2.1,0):=by
 rw [Dm p s l hp.small (by omega),if_pos (BB.2 ⟨hp,hs,hl,hx⟩)]
theorem Ih {p:au} {s:State} (hp:VP p) (hs:VS p s) (x:Transfer): ∃r,bS p s [x]=some r∧(r.2.2=0↔FB p x):=by
 refine⟨_,Dm p s [x] hp.small (by simp), ?_⟩
 have key:O1 p s [x]=0↔FB p x:=BB.trans ⟨fun h=>h.2.2.2 x (by simp),fun h=> ⟨hp,hs,by simp,fun y hy=>by rw [List.mem_singleton]at hy;subst hy;exact h⟩⟩
 split
 ·next h=>exact⟨fun _=>key.1 h,fun _=>rfl⟩
 ·exact key
theorem right_step {p:au} {s:State} (hp:VP p) (hs:VS p s) (l:List Transfer) (hl:l.length≤1000): ∀q:List Transfer × Int,(q.1.length≤16∧(∀x∈q.1,FB p x)∧0≤q.2∧q.2≤(l.length:Int))→ ∃f,jo p s l q=some f∧match f with
  | .next s'=>(s'.1.length≤16∧(∀x∈s'.1,FB p x)∧0≤s'.2∧s'.2≤(l.length:Int))∧l.length - s'.2.toNat<l.length - q.2.toNat
  | .done r=> ∃o,r= .brk o∧o.length≤16∧ ∀x∈o,FB p x:=by
 intro q hq
 obtain⟨out,i⟩:=q
 obtain⟨h1,h2,h3,h4⟩:=hq
 dsimp only at h1 h2 h3 h4
 unfold jo
 dsimp only
 by_cases hc:i<(l.length:Int)∧(out.length:Int)<16
 ·obtain⟨r,hr,hz⟩:=Ih hp hs (at' l i.toNat)
  rw [decide_eq_true hc.1,cond_true,decide_eq_true hc.2,cond_true,aL ⟨h3,hc.1⟩,hr,Option.bind_some,wr (by omega)]
  by_cases h0:r.2.2=0
  ·rw [decide_eq_true h0,cond_true,aL ⟨by simp only [List.length_singleton];omega,by simp only [List.length_singleton];omega⟩]
   refine⟨_,rfl,⟨by simp only [List.length_append,List.length_singleton];omega,fun x hx=> ?_,by dsimp only;omega,by dsimp only;omega⟩,by dsimp only;omega⟩
   rcases List.mem_append.1 hx with h|h
   ·exact h2 x h
   ·rw [List.mem_singleton.1 h];exact hz.1 h0
  ·rw [decide_eq_false h0,cond_false]
   exact⟨_,rfl,⟨h1,h2,by dsimp only;omega,by dsimp only;omega⟩,by dsimp only;omega⟩
 ·have:(bif decide (i<(l.length:Int))then decide ((out.length:Int)<16)else false)=false:=by
   by_cases a:i<(l.length:Int)
   ·rw [decide_eq_true a,cond_true];exact decide_eq_false fun b=>hc ⟨a,b⟩
   ·rw [decide_eq_false a];rfl
  rw [this,cond_false]
  exact⟨_,rfl,out,rfl,h1,h2⟩
theorem L6 {p:au} {s:State} (hp:VP p) (hs:VS p s) (l:List Transfer) (hl:l.length≤1000): ∃out,lY p s l=some out∧out.length≤16∧ ∀x∈out,FB p x:=by
 obtain⟨r,h,hr⟩:=Cj (body:=jo p s l) (fun q=>q.1.length≤16∧(∀x∈q.1,FB p x)∧0≤q.2∧q.2≤(l.length:Int)) (fun q=>l.length - q.2.toNat)
  (fun r=> ∃o,r= .brk o∧o.length≤16∧ ∀x∈o,FB p x) (fun q hq=>by obtain⟨f,h1,h2⟩:=right_step hp hs l hl q hq;exact⟨f,h1,by cases f<;>exact h2⟩) FUEL ([],0) ⟨by simp,fun _ h=>(by cases h),Int.le_refl 0,by simp⟩ (fuel_lt (by simp;omega))
 obtain⟨o,rfl,h1,h2⟩:=hr
 refine⟨o, ?_,h1,h2⟩
 unfold lY
 rw [h];rfl
theorem Oj {p:au} {s:State} {r:State × List Int × Int} {A B:List Bool} (hb:p.buses≤24) (hA:(A.length:Int)=p.buses) (hB:(B.length:Int)=p.buses) (hE:(s.earthed.length:Int)=p.buses) (he:r.1.earthed=s.earthed)
  (h1: ∀b:Nat,(b:Int)<p.buses→at' A b=true→at' B b=true) (h2: ∀b:Nat,(b:Int)<p.buses→at' B b=true→at' s.earthed b=true→at' A b=true):
  aJ (dB p s r (A,0) (B,0)) FUEL 0=some (.brk ()):=by
 refine eO (body:=dB p s r (A,0) (B,0)) (fun i=>(i:Int)) A.length _ (fuel_lt (by omega)) (fun i hi=> ?_) ?_
 ·unfold dB
  dsimp only
  rw [Nk (by omega),cond_true,he,aL ⟨⟨by omega,by omega⟩,fun _=> ⟨by omega,by omega⟩,fun _=> ⟨by omega,by omega⟩,fun _=> ⟨by omega,by omega⟩,fun _=> ⟨by omega,by omega⟩,fun _=> ⟨by omega,by omega⟩,fun _=> ⟨by omega,by omega⟩⟩,Int.toNat_natCast,wr (by omega)]
  have a:=h1 i (by omega);have b:=h2 i (by omega)
  revert a b
  cases at' A i<;>cases at' B i<;>cases at' s.earthed i<;>intro a b
  all_goals first|rfl|(exfalso;revert a b;simp)
 ·unfold dB
  rw [Hl (by omega)];rfl
theorem Oe (A C:List ah) (i:Nat) (hi:i<C.length) (hn:A.length≤100000) (hc:C.length≤100000):aJ (dD (A,0) (C,0) (i:Int)) FUEL (false,0)=some (.brk ((List.range A.length).any fun j=>JV (at' A j) (at' C i))):=by
 refine eO (body:=dD (A,0) (C,0) (i:Int)) (fun j=>((List.range j).any fun j=>JV (at' A j) (at' C i),(j:Int))) A.length _ (fuel_lt (by omega)) (fun j hj=> ?_) ?_
 ·unfold dD
  dsimp only
  rw [Nk (by omega),cond_true,aL ⟨fun _=>by omega,fun _=>by omega⟩,Int.toNat_natCast,Int.toNat_natCast,wr (by omega),Du,List.range_succ,List.any_append]
  simp only [List.any_cons,List.any_nil,Bool.or_false]
  rfl
 ·unfold dD
  dsimp only
  rw [Hl (by omega)];rfl
theorem Ns (A C:List ah) (hn:A.length≤100000) (hc:C.length≤100000) (h: ∀x,x∈C→x∈A):aJ (dF (A,0) (C,0)) FUEL 0=some (.brk ()):=by
 refine eO (body:=dF (A,0) (C,0)) (fun i=>(i:Int)) C.length _ (fuel_lt (by omega)) (fun i hi=> ?_) ?_
 ·unfold dF
  dsimp only
  rw [Nk (by omega),cond_true,Oe A C i hi hn hc,Option.bind_some]
  dsimp only
  have:((List.range A.length).any fun j=>JV (at' A j) (at' C i))=true:=by
   obtain⟨j,hj,e⟩:=iI (h _ (at_mem hi))
   exact List.any_eq_true.2 ⟨j,List.mem_range.2 hj,Ja.2 e⟩
  rw [this,Bool.not_true,cond_false,wr (by omega)]
  rfl
 ·unfold dF
  dsimp only
  rw [Hl (by omega)];rfl
theorem LV {o:List Int} (h:o.Nodup) {j:Nat} (hj:j<o.length):at' o j ∉ o.take j:=fun hm=>by
 have e:o=o.take j++(at' o j::o.drop (j+1)):=by
  rw [gF hj,←List.drop_eq_getElem_cons hj,List.take_append_drop]
 have h:=e ▸ h
 rw [List.nodup_append]at h
 exact h.2.2 _ hm _ List.mem_cons_self rfl
theorem LQ {l:List Transfer} {r:State × List Int × Int} {B:List Bool} (hl:l.length≤16) (ho:r.2.1.length≤100000) (hr: ∀x∈r.2.1,∃i:Nat,x=(i:Int)∧i<l.length) (hn:r.2.1.Nodup)
  (hw: ∀i:Nat,i<l.length→(i:Int)∈r.2.1→(0≤(at' l i).watch∧(at' l i).watch<(B.length:Int))∧at' B (at' l i).watch.toNat=true): ∀q:List Bool × Int,(q.1.length=l.length∧ ∃j:Nat,q.2=(j:Int)∧j≤r.2.1.length∧ ∀i,i<l.length→(at' q.1 i=true↔(i:Int)∈r.2.1.take j))→ ∃f,dA l r (B,0) q=some f∧match f with
  | .next s'=>(s'.1.length=l.length∧ ∃j:Nat,s'.2=(j:Int)∧j≤r.2.1.length∧ ∀i,i<l.length→(at' s'.1 i=true↔(i:Int)∈r.2.1.take j))∧r.2.1.length - s'.2.toNat<r.2.1.length - q.2.toNat
  | .done x=> ∃D,x= .brk D∧D.length=l.length∧ ∀i,i<l.length→(at' D i=true↔(i:Int)∈r.2.1):=by
 intro q hq
 obtain⟨d,i1⟩:=q
 obtain⟨h1,j,h2,h3,h4⟩:=hq
 dsimp only at h1 h2 h4
 subst h2
 unfold dA
 dsimp only
 by_cases hj:j<r.2.1.length
 ·obtain⟨i,hx,hi⟩:=hr _ (at_mem hj)
  have hm:(i:Int)∈r.2.1:=hx ▸ at_mem hj
  obtain⟨⟨w1,w2⟩,w3⟩:=hw i hi hm
  have hd:at' d i=false:=by
   cases e:at' d i with
   |false=>rfl
   |true=>
    have:=(h4 i hi).1 e
    rw [←hx]at this
    exact absurd this (LV hn hj)
  rw [Nk (by omega),cond_true,aL ⟨by omega,by omega⟩,Int.toNat_natCast,hx,Int.toNat_natCast,aL ⟨fun _=> ⟨by omega,by omega⟩,fun _=> ⟨by omega,by omega⟩,fun _=> ⟨w1,w2⟩⟩,decide_eq_false (by omega),cond_false,decide_eq_false (by omega),cond_false,hd,cond_false,w3,Bool.not_true,cond_false,aL ⟨by omega,by omega⟩,wr (by omega)]
  refine⟨_,rfl,⟨by rw [List.length_set];exact h1,j+1,by simp,hj,fun k hk=> ?_⟩,by dsimp only;omega⟩
  dsimp only
  rw [nJ hj,hx,List.mem_append,List.mem_singleton,←h4 k hk]
  by_cases e:i=k
  ·subst e;rw [bZ (by omega)];simp
  ·rw [bQ e]
   exact⟨.inl,fun h=>h.elim id fun h=>absurd (by omega) e⟩
 ·rw [Hl (by omega),cond_false]
  refine⟨_,rfl,d,rfl,h1,fun k hk=> ?_⟩
  have:=h4 k hk
  rwa [List.take_of_length_le (by omega)]at this
theorem OO {l:List Transfer} {r:State × List Int × Int} {B:List Bool} (hl:l.length≤16) (ho:r.2.1.length≤100000) (hr: ∀x∈r.2.1,∃i:Nat,x=(i:Int)∧i<l.length) (hn:r.2.1.Nodup)
  (hw: ∀i:Nat,i<l.length→(i:Int)∈r.2.1→(0≤(at' l i).watch∧(at' l i).watch<(B.length:Int))∧at' B (at' l i).watch.toNat=true):
  ∃D,aJ (dA l r (B,0)) FUEL (List.replicate ((l.length:Int).toNat) false,0)=some (.brk D)∧D.length=l.length∧ ∀i,i<l.length→(at' D i=true↔(i:Int)∈r.2.1):=by
 obtain⟨x,h,D,rfl,h1,h2⟩:=Cj (body:=dA l r (B,0)) (fun q=>q.1.length=l.length∧ ∃j:Nat,q.2=(j:Int)∧j≤r.2.1.length∧ ∀i,i<l.length→(at' q.1 i=true↔(i:Int)∈r.2.1.take j)) (fun q=>r.2.1.length - q.2.toNat)
  (fun x=> ∃D,x= .brk D∧D.length=l.length∧ ∀i,i<l.length→(at' D i=true↔(i:Int)∈r.2.1)) (fun q hq=>by obtain⟨f,h1,h2⟩:=LQ hl ho hr hn hw q hq;exact⟨f,h1,by cases f<;>exact h2⟩) FUEL (List.replicate ((l.length:Int).toNat) false,0) ⟨by simp,0,rfl,Nat.zero_le _,fun i hi=>by
   dsimp only
   rw [lV (by simpa using hi)];simp⟩ (fuel_lt (by dsimp only;omega))
 exact⟨D,h,h1,h2⟩
theorem Mg {l:List Transfer} {k:Nat}:BL l k 1=[at' l k]:=by
 unfold BL
 rw [List.range_one,List.map_singleton,Nat.zero_add]
theorem Gy {p:au} {s:State} {x:Transfer} (h:zA p s x=false):qz p s [x]=(s,[],[false]):=by
 have hn:lC p s [x] [false]=none:=by
  unfold lC
  rw [List.find?_eq_none]
  intro i hi
  have:i=0:=by have:=List.mem_range.1 hi;simp only [List.length_singleton]at this;omega
  subst this
  show ¬ ((!at' [false] 0 && zA p s (at' [x] 0))=true)
  rw [show at' [x] 0=x from rfl,h];simp
 show sK p [x] 1 s [] [false]=_
 unfold sK
 rw [hn]
theorem N9 {p:au} {l:List Transfer} {r:State × List Int × Int} {D:List Bool} (hp:VP p) (hs:VS p r.1) (hl:l.length≤16) (hx: ∀x∈l,FB p x) (hD:D.length=l.length) (hc: ∀i,i<l.length→at' D i=false→zA p r.1 (at' l i)=false):
  aJ (dG p l r D) FUEL 0=some (.brk ()):=by
 refine eO (body:=dG p l r D) (fun i=>(i:Int)) l.length _ (fuel_lt (by omega)) (fun i hi=> ?_) ?_
 ·unfold dG
  rw [Nk (by omega),cond_true,aL ⟨by omega,by omega⟩,Int.toNat_natCast,wr (by omega)]
  cases hd:at' D i with
  |true=>rfl
  |false=>
   rw [cond_false,show((i:Int)+1).toNat - i=1 by omega,Mg,Dk hp hs (by simp) (fun y hy=>by rw [List.mem_singleton]at hy;subst hy;exact hx _ (at_mem hi)),Gy (hc i hi hd),Option.bind_some,aL ⟨by omega,by omega,by omega⟩]
   rfl
 ·unfold dG
  rw [Hl (by omega)];rfl
theorem EF (p:au) (l:List Transfer): ∀(n:Nat) (s:State) (o:List Int) (d:List Bool),(sK p l n s o d).2.1.length≤o.length+n
 |0,_,_,_=>Nat.le_refl _
 |n+1,s,o,d=>by
  unfold sK
  cases lC p s l d with
  |none=>exact Nat.le_add_right _ _
  |some i=>
   have:=EF p l n (Bo s (at' l i)) (o++[(i:Int)]) (d.set i true)
   rw [List.length_append,List.length_singleton]at this
   dsimp only
   omega
theorem wP (p:au) (s:State) (l:List Transfer) (hp:Small p):fI p s l=some true:=by
 unfold fI
 cases hB:(bif (bif (bif (decide (60<(p.sources.length:Int)))then true else(decide (60<(p.links.length:Int))))then true else(decide (60<(p.racks.length:Int))))then true else(decide (60<(l.length:Int))))with
 |true=>simp [gB,DJ]
 |false=>
  have hl:l.length≤60:=by
   by_cases h:60<(l.length:Int)
   ·rw [decide_eq_true h]at hB
    rw [Du,Bool.or_true]at hB;cases hB
   ·omega
  rw [show gB [(false,false)]=true from rfl,cond_true,lW p s hp,Option.bind_some,cond_false]
  by_cases h0:oL p s=0
  ·obtain⟨hv,hs⟩:=mo.mp h0
   have hb:=hv.b;have hE:=hs.earthed
   obtain⟨o,ho,ho1,ho2⟩:=L6 hv hs l (by omega)
   rw [h0,decide_eq_true rfl,Bool.not_true,cond_false,ho,Option.bind_some,Dk hv hs ho1 ho2,Option.bind_some]
   obtain⟨g,hn⟩:=KP hv ho2 hs (l:=o)
   generalize hq:qz p s o=q at g hn
   obtain⟨t,ord,d⟩:=q
   dsimp only at g hn ⊢
   have l1:=lK hv hs;have l2:=lK hv g.vs
   have hE2:=g.vs.earthed
   rw [uX hv hs,Option.bind_some,uX hv g.vs,Option.bind_some,rG hv hs,Option.bind_some,rG hv g.vs,Option.bind_some]
   dsimp only
   rw [show decide ((0:Int)=0)=true from rfl,decide_eq_true l1,decide_eq_true l2,decide_eq_true hE,decide_eq_true hE2]
   simp only [Bool.not_true,cond_false]
   rw [Oj (by omega) l1 l2 hE g.earth (fun b hb h=>(jK hv g.vs hb).2 (g.live b hb ((jK hv hs hb).1 h))) (fun b hb h he=>(jK hv hs hb).2 (g.dead b hb ((jK hv g.vs hb).1 h) he)),Option.bind_some]
   dsimp only
   rw [Ns _ _ (uS hv hs) (uS hv g.vs) g.clash,Option.bind_some]
   dsimp only
   rw [aL ⟨by omega,by omega,by omega⟩]
   have hol:ord.length≤100000:=by
    have:=EF p o o.length s [] (List.replicate o.length false)
    have e:(qz p s o).2.1=ord:=by rw [hq]
    unfold qz at e
    rw [e]at this
    simp only [List.length_nil]at this
    omega
   obtain⟨D,hD,hD1,hD2⟩:=OO (r:=(t,ord,0)) (B:=gy p t) ho1 hol g.rng g.nodup (fun i hi hm=>by
    obtain⟨w1,w2⟩:=(ho2 _ (at_mem hi)).watch
    exact⟨⟨w1,by omega⟩,(jK hv g.vs (by omega)).2 (g.watch i hi hm)⟩)
   rw [hD,Option.bind_some]
   dsimp only
   rw [N9 hv g.vs ho1 ho2 hD1 (fun i hi hd=> ?_),Option.bind_some]
   ·dsimp only
    rw [DJ];rfl
   ·refine GJ hn i hi ?_
    cases e:at' d i with
    |false=>rfl
    |true=>rw [(hD2 i hi).2 ((g.ord i hi).1 e)]at hd;cases hd
  ·rw [decide_eq_false h0,Bool.not_false,cond_true,DJ];rfl
end Sg
