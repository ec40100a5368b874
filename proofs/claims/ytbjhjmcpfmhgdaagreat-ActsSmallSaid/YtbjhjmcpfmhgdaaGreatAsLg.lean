import Derived.Test.YtbjhjmcpfmhgdaaGreatAsLc
import Derived.Test.YtbjhjmcpfmhgdaaGreatAsGm
import Derived.Test.YtbjhjmcpfmhgdaaGreatAsLd
set_option linter.all false
namespace Sg
open Go
theorem wr {x:Int} (h: -9223372036854775808≤x∧x≤9223372036854775807):IntKind.wrap .i64 x=x:=by rw [IntKind.wrap_i64];omega
theorem kY {σ ρ:Type} {body:σ→Option (dG σ ρ)}: ∀{n m:Nat} {s:σ} {r:ρ},aW body n s=some r→n≤m→aW body m s=some r
 |0,_,_,_,h,_=>by cases h
 |n+1,0,_,_,_,hm=>by omega
 |n+1,m+1,s,r,h,hm=>by
  rw [cu]at h ⊢
  revert h
  cases body s with
  |none=>exact id
  |some f=>
   cases f with
   |next s'=>exact fun h=>kY h (by omega)
   |done r=>exact id
theorem K7 {σ ρ:Type} {body:σ→Option (dG σ ρ)} (S:Nat→σ) (k:Nat) (hs: ∀i,i<k→body (S i)=some (.next (S (i+1)))): ∀(m:Nat),aW body (k+m) (S 0)=aW body m (S k):=by
 induction k with
 |zero=>intro m;simp
 |succ k ih=>
  intro m
  have:=ih (fun i hi=>hs i (by omega)) (m+1)
  rw [show k+1+m=k+(m+1) by omega,this,cu,hs k (by omega)]
theorem gF {σ ρ:Type} {body:σ→Option (dG σ ρ)} {N:Nat} (S:Nat→σ) (k:Nat) (r:ρ) (hk:k<N) (hs: ∀i,i<k→body (S i)=some (.next (S (i+1)))) (hd:body (S k)=some (.done r)):aW body N (S 0)=some r:=by
 have h:=K7 S k hs 1
 have h1:aW body 1 (S k)=some r:=by rw [cu,hd]
 exact kY (h.trans h1) (by omega)
theorem fuel_lt {k:Nat} (h:k≤9223372036854775807):k<FUEL:=by unfold FUEL;omega
section
variable {α:Type} [Inhabited α]
theorem fG {l:List α} {i:Nat} (h:i<l.length):at' l i=l[i]:=by simp [at',h]
theorem at_mem {l:List α} {i:Nat} (h:i<l.length):at' l i∈l:=by rw [fG h];exact List.getElem_mem h
theorem kr {l:List α} {x:α} (h:x∈l): ∃i,i<l.length∧at' l i=x:=by
 obtain⟨i,hi,e⟩:=List.mem_iff_getElem.mp h
 exact⟨i,hi,by rw [fG hi];exact e⟩
theorem ET {l m:List α} (hl:l.length=m.length) (h: ∀i,i<l.length→at' l i=at' m i):l=m:=by
 apply List.ext_getElem hl
 intro i h1 h2
 have:=h i h1
 rwa [fG h1,fG h2]at this
theorem nW {l:List α} {i:Nat} (h:i<l.length):l.take (i+1)=l.take i++[at' l i]:=by
 rw [fG h,List.take_succ_eq_append_getElem h]
theorem jT {ρ:Type} {body:Int→Option (dG Int (Ex Unit ρ))} (l:List α) (bad:α→Bool) (f:Int→ρ) (hl:l.length≤9223372036854775807)
  (hb: ∀i:Nat,i<l.length→body i=some (bif bad (at' l i)then .done (.ret (f i))else .next ((i:Int)+1))) (he:body l.length=some (.done (.brk ()))):
  aW body FUEL 0=some (match l.findIdx? bad with|some i=> .ret (f i)|none=> .brk ()):=by
 cases h:l.findIdx? bad with
 |none=>
  rw [List.findIdx?_eq_none_iff]at h
  refine gF (fun i=>(i:Int)) l.length _ (fuel_lt (by omega)) (fun i hi=> ?_) he
  rw [hb i hi,h _ (at_mem hi)];simp
 |some k=>
  rw [List.findIdx?_eq_some_iff_getElem]at h
  obtain⟨hk,hp,hn⟩:=h
  refine gF (fun i=>(i:Int)) k _ (fuel_lt (by omega)) (fun i hi=> ?_) ?_
  ·have:=hn i hi
   rw [hb i (by omega),fG (by omega)]
   simp [this]
  ·rw [hb k hk,fG hk,hp];rfl
omit [Inhabited α]in
theorem jC (l:List α) (bad:α→Bool):(decide ((0:Int)≤(match l.findIdx? bad with|some i=>(i:Int)|none=> -1)))=l.any bad:=by
 cases h:l.findIdx? bad with
 |none=>
  rw [List.findIdx?_eq_none_iff]at h
  have:l.any bad=false:=by rw [List.any_eq_false];intro x hx;simp [h x hx]
  rw [this];simp
 |some k=>
  rw [List.findIdx?_eq_some_iff_getElem]at h
  obtain⟨hk,hp,hn⟩:=h
  have:l.any bad=true:=by rw [List.any_eq_true];exact⟨_,List.getElem_mem hk,hp⟩
  rw [this];simp
end
section
variable {α:Type}
theorem Iw {a b:Int}:aS a b=true↔a=b:=by simp [aS]
theorem FC (a:Int):aS a a=true:=Iw.mpr rfl
theorem Md {a b:Int} (h:a≠b):aS a b=false:=by cases e:aS a b with|false=>rfl|true=>exact absurd (Iw.mp e) h
theorem iy (k:Int) (v:α): ∀l:List (Int × α),bD aS k (fe aS k v l)=some v
 |[]=>by simp [fe,bD,FC]
 |(k',v')::l=>by
  unfold fe
  cases e:aS k k' with
  |true=>simp [bD,FC]
  |false=>simp only [cond_false,bD,e];exact iy k v l
theorem jW {k j:Int} (h:j≠k) (v:α): ∀l:List (Int × α),bD aS j (fe aS k v l)=bD aS j l
 |[]=>by simp [fe,bD,Md h]
 |(k',v')::l=>by
  unfold fe
  cases e:aS k k' with
  |true=>
   have:k=k':=Iw.mp e
   subst this
   simp [bD,Md h]
  |false=>simp only [cond_false,bD,jW h v l]
end
theorem vR {α:Type} (c:Bool) (x y:α):(bif c then some x else some y)=some (bif c then x else y):=by cases c<;>rfl
theorem tJ {ρ:Type} {body:Int→Option (dG Int (Ex Unit ρ))} (n:Nat) (bad:Nat→Bool) (f:Int→ρ) (hl:n≤9223372036854775807)
  (hb: ∀i:Nat,i<n→body i=some (bif bad i then .done (.ret (f i))else .next ((i:Int)+1))) (he:body n=some (.done (.brk ()))):
  aW body FUEL 0=some (match(List.range n).find? bad with|some i=> .ret (f i)|none=> .brk ()):=by
 cases h:(List.range n).find? bad with
 |none=>
  rw [List.find?_eq_none]at h
  refine gF (fun i=>(i:Int)) n _ (fuel_lt (by omega)) (fun i hi=> ?_) he
  rw [hb i hi]
  have:=h i (List.mem_range.mpr hi)
  simp at this;simp [this]
 |some k=>
  rw [List.find?_range_eq_some]at h
  obtain⟨hp,hk,hn⟩:=h
  rw [List.mem_range]at hk
  refine gF (fun i=>(i:Int)) k _ (fuel_lt (by omega)) (fun i hi=> ?_) ?_
  ·have:=hn i hi
   rw [hb i (by omega)]
   simp at this;simp [this]
  ·rw [hb k hk,hp];rfl
theorem zk {α:Type} (p:α→Bool): ∀l:List α,(l.find? p).isSome=l.any p
 |[]=>rfl
 |x::l=>by
  rw [List.any_cons,List.find?_cons]
  cases h:p x with
  |true=>simp
  |false=>simpa using zk p l
def wi (n a b:Int):Bool:=decide (a≤n) && decide (n≤b)
theorem uK {n a b:Int}:wi n a b=true↔a≤n∧n≤b:=by simp [wi]
theorem lI (n a b:Int):aV n a b=some (wi n a b):=by
 unfold aV wi;cases decide (a≤n)<;>rfl
def uy (b:Int) (x:Source):Bool:=wi x.bus 0 (b - 1) && wi x.kind 1 3 && wi x.power 1 100000 && wi x.sync 0 8 && wi x.ohm 10 100000
theorem O8 {b:Int} (hb:1≤b∧b≤24) (x:Source) (l1:List Source) (l2:List Link) (l3:List aL):lD x b l1 l2 l3=some (uy b x):=by
 unfold lD uy
 simp only [lI,Option.bind_some]
 rw [wr (by omega)]
 generalize wi x.bus 0 (b - 1)=b1
 generalize wi x.kind 1 3=b2
 generalize wi x.power 1 100000=b3
 generalize wi x.sync 0 8=b4
 generalize wi x.ohm 10 100000=b5
 cases b1<;>cases b2<;>cases b3<;>cases b4<;>cases b5<;>rfl
def tF (l:List dU) (i:Nat):Bool:=
 !wi (at' l i).amps 1 1000000|| !wi (at' l i).millis 1 100000||(decide (0<i) && (decide ((at' l i).amps≤(at' l (i - 1)).amps)||decide ((at' l (i - 1)).millis≤(at' l i).millis)))
def mZ (b:Int) (x:Link):Bool:=
 wi x.a 0 (b - 1) && wi x.b 0 (b - 1) && !decide (x.a=x.b) && wi x.kind 1 3 && wi x.most 1 100000 && wi x.ohm 10 100000 && !(List.range x.trip.length).any (tF x.trip) && decide ((x.trip.length:Int)≤6) && (decide ((x.trip.length:Int)=0)||decide (x.kind=3))
theorem T9 {α:Type} [Inhabited α] (l:List α) (i:Nat) (h:0<i):at' l (((i:Int) - 1).toNat)=at' l (i - 1):=by
 congr 1;omega
theorem Si (x:Link) (hx:x.trip.length≤9223372036854775807):aW (kI x) FUEL 0=some (match(List.range x.trip.length).find? (tF x.trip)with|some _=> .ret false|none=> .brk ()):=by
 refine tJ x.trip.length (tF x.trip) (fun _=>false) hx (fun i hi=> ?_) ?_
 ·unfold kI
  have h1:decide ((i:Int)<(x.trip.length:Int))=true:=by simp;omega
  rw [h1,cond_true,aA (by omega)]
  simp only [lI,Option.bind_some,Int.toNat_natCast]
  rw [wr (x:=(i:Int) - 1) (by omega),wr (x:=(i:Int)+1) (by omega)]
  unfold tF
  by_cases h0:0<i
  ·rw [T9 _ _ h0]
   simp only [h0,Int.natCast_pos,decide_true]
   generalize wi (at' x.trip i).amps 1 1000000=b1
   generalize wi (at' x.trip i).millis 1 100000=b2
   generalize decide ((at' x.trip i).amps≤(at' x.trip (i - 1)).amps)=b3
   generalize decide ((at' x.trip (i - 1)).millis≤(at' x.trip i).millis)=b4
   cases b1<;>cases b2<;>cases b3<;>cases b4<;>simp [gB,bn]<;>omega
  ·have:i=0:=by omega
   subst this
   generalize wi (at' x.trip 0).amps 1 1000000=b1
   generalize wi (at' x.trip 0).millis 1 100000=b2
   cases b1<;>cases b2<;>simp [gB,bn]
 ·unfold kI
  have h1:decide ((x.trip.length:Int)<(x.trip.length:Int))=false:=by simp
  rw [h1];rfl
theorem Ud {b:Int} (hb:1≤b∧b≤24) (x:Link) (hx:x.trip.length≤9223372036854775807) (l1:List Source) (l2:List Link) (l3:List aL):ny x b l1 l2 l3=some (mZ b x):=by
 unfold ny mZ
 simp only [lI,Option.bind_some]
 rw [wr (by omega),Si x hx]
 generalize wi x.a 0 (b - 1)=b1
 generalize wi x.b 0 (b - 1)=b2
 generalize decide (x.a=x.b)=b3
 generalize wi x.kind 1 3=b4
 generalize wi x.most 1 100000=b5
 generalize wi x.ohm 10 100000=b6
 have:(List.range x.trip.length).any (tF x.trip)=((List.range x.trip.length).find? (tF x.trip)).isSome:=(zk _ _).symm
 rw [this]
 cases b1<;>cases b2<;>cases b3<;>cases b4<;>cases b5<;>cases b6<;>try rfl
 cases(List.range x.trip.length).find? (tF x.trip)with
 |some k=>simp [gB]
 |none=>
  simp only [gB,Option.bind_some,Option.isSome_none]
  generalize decide ((x.trip.length:Int)≤6)=c1
  generalize decide ((x.trip.length:Int)=0)=c2
  generalize decide (x.kind=3)=c3
  cases c1<;>cases c2<;>cases c3<;>rfl
def zD (x:aL):Int:=if x.feeds.e1= -1 then 1 else 2
def nQ (b:Int) (x:aL):Bool:=wi x.feeds.e0 0 (b - 1) && wi x.feeds.e1 (-1) (b - 1) && !decide (x.feeds.e0=x.feeds.e1) && wi x.power 1 100000 && wi x.paths 0 (zD x)
theorem Ra (x:aL):oO x=some (zD x):=by
 unfold oO zD
 by_cases h:x.feeds.e1= -1<;>simp [h]
theorem Uh {b:Int} (hb:1≤b∧b≤24) (x:aL) (l1:List Source) (l2:List Link) (l3:List aL):mY x b l1 l2 l3=some (nQ b x):=by
 unfold mY nQ
 simp only [lI,Option.bind_some,Ra]
 rw [wr (by omega)]
 generalize wi x.feeds.e0 0 (b - 1)=b1
 generalize wi x.feeds.e1 (-1) (b - 1)=b2
 generalize decide (x.feeds.e0=x.feeds.e1)=b3
 generalize hb4:wi x.power 1 100000=b4
 cases b1<;>cases b2<;>cases b3<;>cases b4<;>simp [gB]<;>rfl
theorem jD {α ρ:Type} [Inhabited α] {l:List α} {i:Nat} (hi:i<l.length) (hl:l.length≤9223372036854775807) (b:Bool) (f:Int→ρ) (G:Option (dG Int (Ex Unit ρ))):
  (bif (decide ((i:Int)<(l.length:Int)))then((some b).bind fun r_=>bn ((0:Int)≤(i:Int)∧(i:Int)<(l.length:Int)) (bif r_ then some (.done (.ret (f (i:Int))))else some (.next (IntKind.wrap .i64 ((i:Int)+1)))))else G)=some (bif b then .done (.ret (f i))else .next ((i:Int)+1)):=by
 have h1:decide ((i:Int)<(l.length:Int))=true:=by simp;omega
 rw [h1,cond_true,Option.bind_some,aA (by omega),wr (by omega)]
 cases b<;>rfl
theorem Qd {b:Int} (hb:1≤b∧b≤24) (l:List Source) (hl:l.length≤9223372036854775807) (m:Int) (l1:List Source) (l2:List Link) (l3:List aL):
  qw l m b l1 l2 l3=some (decide ((l.length:Int)≤m) && l.all (uy b)):=by
 have hs:iB l b l1 l2 l3=some (l.any fun x=> !uy b x):=by
  unfold iB mE
  rw [jT l (fun x=> !uy b x) id hl (fun i hi=> ?_) ?_]
  ·rw [←jC];cases l.findIdx? fun x=> !uy b x<;>rfl
  ·unfold kz;simp
  ·unfold kz si
   rw [Int.toNat_natCast,O8 hb,Option.bind_some]
   exact jD hi hl _ id _
 unfold qw
 rw [hs]
 have:(!l.any fun x=> !uy b x)=l.all (uy b):=by rw [List.not_any_eq_all_not];simp
 rw [←this]
 cases decide ((l.length:Int)≤m)<;>simp [gB]
theorem O9 {b:Int} (hb:1≤b∧b≤24) (l:List Link) (hl:l.length≤9223372036854775807) (ht: ∀x∈l,x.trip.length≤9223372036854775807) (m:Int) (l1:List Source) (l2:List Link) (l3:List aL):
  nO l m b l1 l2 l3=some (decide ((l.length:Int)≤m) && l.all (mZ b)):=by
 have hs:fO l b l1 l2 l3=some (l.any fun x=> !mZ b x):=by
  unfold fO kC
  rw [jT l (fun x=> !mZ b x) id hl (fun i hi=> ?_) ?_]
  ·rw [←jC];cases l.findIdx? fun x=> !mZ b x<;>rfl
  ·unfold ja;simp
  ·unfold ja nk
   rw [Int.toNat_natCast,Ud hb _ (ht _ (at_mem hi)),Option.bind_some]
   exact jD hi hl _ id _
 unfold nO
 rw [hs]
 have:(!l.any fun x=> !mZ b x)=l.all (mZ b):=by rw [List.not_any_eq_all_not];simp
 rw [←this]
 cases decide ((l.length:Int)≤m)<;>simp [gB]
theorem O3 {b:Int} (hb:1≤b∧b≤24) (l:List aL) (hl:l.length≤9223372036854775807) (m:Int) (l1:List Source) (l2:List Link) (l3:List aL):
  nu l m b l1 l2 l3=some (decide ((l.length:Int)≤m) && l.all (nQ b)):=by
 have hs:fQ l b l1 l2 l3=some (l.any fun x=> !nQ b x):=by
  unfold fQ kD
  rw [jT l (fun x=> !nQ b x) id hl (fun i hi=> ?_) ?_]
  ·rw [←jC];cases l.findIdx? fun x=> !nQ b x<;>rfl
  ·unfold iY;simp
  ·unfold iY nI
   rw [Int.toNat_natCast,Uh hb,Option.bind_some]
   exact jD hi hl _ id _
 unfold nu
 rw [hs]
 have:(!l.any fun x=> !nQ b x)=l.all (nQ b):=by rw [List.not_any_eq_all_not];simp
 rw [←this]
 cases decide ((l.length:Int)≤m)<;>simp [gB]
structure Small (p:ay):Prop where
 src:p.sources.length≤9223372036854775807
 lnk:p.links.length≤9223372036854775807
 rck:p.racks.length≤9223372036854775807
 trp: ∀x∈p.links,x.trip.length≤9223372036854775807
def wI (p:ay):Int:=
 if wi p.buses 1 24=false then 10 else if(decide ((p.sources.length:Int)≤8) && p.sources.all (uy p.buses))=false then 11
 else if(decide ((p.links.length:Int)≤40) && p.links.all (mZ p.buses))=false then 12 else if(decide ((p.racks.length:Int)≤24) && p.racks.all (nQ p.buses))=false then 13 else 0
theorem Q7 (p:ay) (hp:Small p):oP p=some (wI p):=by
 unfold oP wI
 simp only [lI,Option.bind_some,rJ,wV,wM]
 cases h0:wi p.buses 1 24 with
 |false=>simp
 |true=>
  have hb:=uK.mp h0
  rw [Qd hb _ hp.src,O9 hb _ hp.lnk hp.trp,O3 hb _ hp.rck]
  simp only [Option.bind_some,Bool.not_true,cond_false]
  generalize (decide ((p.sources.length:Int)≤8) && p.sources.all (uy p.buses))=b1
  generalize (decide ((p.links.length:Int)≤40) && p.links.all (mZ p.buses))=b2
  generalize (decide ((p.racks.length:Int)≤24) && p.racks.all (nQ p.buses))=b3
  cases b1<;>cases b2<;>cases b3<;>simp
def pV (p:ay) (s:State):Bool:=
 decide (s.closed.length=p.links.length) && decide (s.locked.length=p.links.length) && decide (s.badLink.length=p.links.length) && decide (s.on_.length=p.sources.length) && decide (s.badSource.length=p.sources.length) &&
 decide ((s.earthed.length:Int)=p.buses) && decide ((s.badBus.length:Int)=p.buses)
def kT (p:ay) (s:State) (i:Nat):Bool:=decide ((at' p.links i).kind=1) && (!at' s.closed i||at' s.locked i)
def oF (p:ay) (s:State):Int:=if wI p≠0 then wI p else if pV p s && !(List.range p.links.length).any (kT p s)then 0 else 9
theorem kg (p:ay) (s:State) (hp:Small p):di p s=some (oF p s):=by
 unfold di oF
 rw [Q7 p hp,Option.bind_some]
 by_cases hc:wI p=0
 ·rw [hc]
  simp only [decide_true,Bool.not_true,cond_false,ne_eq,not_true_eq_false,if_false]
  have h0:aW (iD p s) FUEL 0=some (bif pV p s then .brk ()else .ret 9):=by
   have key:=tJ (body:=iD p s) 7 (fun i=> !decide (((at' [(⟨s.closed,(p.links.length:Int)⟩:cK),(⟨s.locked,(p.links.length:Int)⟩:cK),(⟨s.badLink,(p.links.length:Int)⟩:cK),(⟨s.on_,(p.sources.length:Int)⟩:cK),(⟨s.badSource,(p.sources.length:Int)⟩:cK),(⟨s.earthed,p.buses⟩:cK),(⟨s.badBus,p.buses⟩:cK)] i).l.length:Int)=(at' [(⟨s.closed,(p.links.length:Int)⟩:cK),(⟨s.locked,(p.links.length:Int)⟩:cK),(⟨s.badLink,(p.links.length:Int)⟩:cK),(⟨s.on_,(p.sources.length:Int)⟩:cK),(⟨s.badSource,(p.sources.length:Int)⟩:cK),(⟨s.earthed,p.buses⟩:cK),(⟨s.badBus,p.buses⟩:cK)] i).n)) (fun _=>(9:Int)) (by omega) (fun i hi=> ?_) ?_
   ·rw [key]
    have e:((List.range 7).find? fun i=> !decide (((at' [(⟨s.closed,(p.links.length:Int)⟩:cK),(⟨s.locked,(p.links.length:Int)⟩:cK),(⟨s.badLink,(p.links.length:Int)⟩:cK),(⟨s.on_,(p.sources.length:Int)⟩:cK),(⟨s.badSource,(p.sources.length:Int)⟩:cK),(⟨s.earthed,p.buses⟩:cK),(⟨s.badBus,p.buses⟩:cK)] i).l.length:Int)=(at' [(⟨s.closed,(p.links.length:Int)⟩:cK),(⟨s.locked,(p.links.length:Int)⟩:cK),(⟨s.badLink,(p.links.length:Int)⟩:cK),(⟨s.on_,(p.sources.length:Int)⟩:cK),(⟨s.badSource,(p.sources.length:Int)⟩:cK),(⟨s.earthed,p.buses⟩:cK),(⟨s.badBus,p.buses⟩:cK)] i).n)).isSome= !pV p s:=by
     rw [show List.range 7=[0,1,2,3,4,5,6]from rfl,zk]
     simp only [List.any_cons,List.any_nil,at',List.getD_cons_zero,List.getD_cons_succ,pV,Int.natCast_inj]
     simp [Bool.or_assoc]
    revert e
    cases hf:(List.range 7).find? _ with
    |none=>
     intro e
     have:pV p s=true:=by simpa using e.symm
     rw [this];rfl
    |some k=>
     intro e
     have:pV p s=false:=by simpa using e.symm
     rw [this];rfl
   ·have h1:decide ((i:Int)<7)=true:=by simp;omega
    unfold iD
    rw [show([(⟨s.closed,(p.links.length:Int)⟩:cK),(⟨s.locked,(p.links.length:Int)⟩:cK),(⟨s.badLink,(p.links.length:Int)⟩:cK),(⟨s.on_,(p.sources.length:Int)⟩:cK),(⟨s.badSource,(p.sources.length:Int)⟩:cK),(⟨s.earthed,p.buses⟩:cK),(⟨s.badBus,p.buses⟩:cK)].length:Int)=7 from rfl,h1,cond_true,aA (by omega),Int.toNat_natCast,wr (by omega)]
    exact vR _ _ _
   ·rfl
  rw [h0,Option.bind_some]
  cases hL:pV p s with
  |false=>rfl
  |true=>
   simp only [cond_true,Bool.true_and]
   simp only [pV,Bool.and_eq_true,decide_eq_true_eq]at hL
   have h1:aW (iA p s) FUEL 0=some (match(List.range p.links.length).find? (kT p s)with|some _=> .ret 9|none=> .brk ()):=by
    refine tJ p.links.length (kT p s) (fun _=>9) hp.lnk (fun i hi=> ?_) ?_
    ·unfold iA kT
     have h1:decide ((i:Int)<(p.links.length:Int))=true:=by simp;omega
     have:=hp.lnk
     rw [h1,cond_true,aA (by omega),Int.toNat_natCast,wr (by omega),aA ⟨fun _=>by omega,fun _=>by omega⟩]
     generalize decide ((at' p.links i).kind=1)=b1
     generalize at' s.closed i=b2
     generalize at' s.locked i=b3
     cases b1<;>cases b2<;>cases b3<;>rfl
    ·unfold iA;simp
   rw [h1,Option.bind_some]
   have:(List.range p.links.length).any (kT p s)=((List.range p.links.length).find? (kT p s)).isSome:=(zk _ _).symm
   rw [this]
   cases(List.range p.links.length).find? (kT p s)<;>rfl
 ·have:decide (wI p=0)=false:=by simp [hc]
  rw [this]
  simp [hc]
structure VL (b:Int) (x:Link):Prop where
 a:0≤x.a∧x.a<b
 b:0≤x.b∧x.b<b
 ab:x.a≠x.b
 kind:1≤x.kind∧x.kind≤3
 most:1≤x.most∧x.most≤100000
 ohm:10≤x.ohm∧x.ohm≤100000
 tl:x.trip.length≤6
 trip: ∀i,i<x.trip.length→tF x.trip i=false
 trk:x.trip=[]∨x.kind=3
structure Xl (b:Int) (x:Source):Prop where
 bus:0≤x.bus∧x.bus<b
 kind:1≤x.kind∧x.kind≤3
 power:1≤x.power∧x.power≤100000
 sync:0≤x.sync∧x.sync≤8
 ohm:10≤x.ohm∧x.ohm≤100000
structure VR (b:Int) (x:aL):Prop where
 e0:0≤x.feeds.e0∧x.feeds.e0<b
 e1: -1≤x.feeds.e1∧x.feeds.e1<b
 ne:x.feeds.e0≠x.feeds.e1
 power:1≤x.power∧x.power≤100000
 paths:0≤x.paths∧x.paths≤zD x
structure VP (p:ay):Prop where
 b:1≤p.buses∧p.buses≤24
 sl:p.sources.length≤8
 src: ∀i,i<p.sources.length→Xl p.buses (at' p.sources i)
 ll:p.links.length≤40
 lnk: ∀i,i<p.links.length→VL p.buses (at' p.links i)
 rl:p.racks.length≤24
 rck: ∀i,i<p.racks.length→VR p.buses (at' p.racks i)
structure VS (p:ay) (s:State):Prop where
 closed:s.closed.length=p.links.length
 locked:s.locked.length=p.links.length
 badLink:s.badLink.length=p.links.length
 on:s.on_.length=p.sources.length
 badSource:s.badSource.length=p.sources.length
 earthed:(s.earthed.length:Int)=p.buses
 badBus:(s.badBus.length:Int)=p.buses
 cable: ∀i,i<p.links.length→(at' p.links i).kind=1→at' s.closed i=true∧at' s.locked i=false
theorem Hl {b:Int} {x:Source}:uy b x=true↔Xl b x:=by
 simp only [uy,Bool.and_eq_true,uK]
 exact⟨fun⟨⟨⟨⟨h1,h2⟩,h3⟩,h4⟩,h5⟩=> ⟨by omega,h2,h3,h4,h5⟩,fun h=> ⟨⟨⟨⟨by have:=h.bus;omega,h.kind⟩,h.power⟩,h.sync⟩,h.ohm⟩⟩
theorem Fw {b:Int} {x:aL}:nQ b x=true↔VR b x:=by
 simp only [nQ,Bool.and_eq_true,uK,Bool.not_eq_true',decide_eq_false_iff_not]
 exact⟨fun⟨⟨⟨⟨h1,h2⟩,h3⟩,h4⟩,h5⟩=> ⟨by omega,by omega,h3,h4,h5⟩,fun h=> ⟨⟨⟨⟨by have:=h.e0;omega,by have:=h.e1;omega⟩,h.ne⟩,h.power⟩,h.paths⟩⟩
theorem F7 {b:Int} {x:Link}:mZ b x=true↔VL b x:=by
 simp only [mZ,Bool.and_eq_true,uK,Bool.not_eq_true',decide_eq_false_iff_not,Bool.or_eq_true,decide_eq_true_eq,List.any_eq_false,List.mem_range,Bool.not_eq_true]
 constructor
 ·rintro ⟨⟨⟨⟨⟨⟨⟨⟨h1,h2⟩,h3⟩,h4⟩,h5⟩,h6⟩,h7⟩,h8⟩,h9⟩
  exact⟨by omega,by omega,h3,h4,h5,h6,by omega,h7,h9.imp (fun h=>List.eq_nil_of_length_eq_zero (by omega)) id⟩
 ·intro h
  refine⟨⟨⟨⟨⟨⟨⟨⟨by have:=h.a;omega,by have:=h.b;omega⟩,h.ab⟩,h.kind⟩,h.most⟩,h.ohm⟩,h.trip⟩,by have:=h.tl;omega⟩,h.trk.imp (fun e=>by simp [e]) id⟩
theorem DF {p:ay}:wI p=0↔VP p:=by
 unfold wI
 constructor
 ·intro h
  cases h0:wi p.buses 1 24 with
  |false=>rw [h0]at h;simp at h
  |true=>
   rw [h0]at h
   cases h1:(decide ((p.sources.length:Int)≤8) && p.sources.all (uy p.buses))with
   |false=>rw [h1]at h;simp at h
   |true=>
    rw [h1]at h
    cases h2:(decide ((p.links.length:Int)≤40) && p.links.all (mZ p.buses))with
    |false=>rw [h2]at h;simp at h
    |true=>
     rw [h2]at h
     cases h3:(decide ((p.racks.length:Int)≤24) && p.racks.all (nQ p.buses))with
     |false=>rw [h3]at h;simp at h
     |true=>
      simp only [Bool.and_eq_true,decide_eq_true_eq,List.all_eq_true]at h1 h2 h3
      exact⟨uK.mp h0,by omega,fun i hi=>Hl.mp (h1.2 _ (at_mem hi)),by omega,fun i hi=>F7.mp (h2.2 _ (at_mem hi)),by omega,fun i hi=>Fw.mp (h3.2 _ (at_mem hi))⟩
 ·intro h
  have h0:wi p.buses 1 24=true:=uK.mpr h.b
  have h1:(decide ((p.sources.length:Int)≤8) && p.sources.all (uy p.buses))=true:=by
   simp only [Bool.and_eq_true,decide_eq_true_eq,List.all_eq_true]
   exact⟨by have:=h.sl;omega,fun x hx=>by obtain⟨i,hi,rfl⟩:=kr hx;exact Hl.mpr (h.src i hi)⟩
  have h2:(decide ((p.links.length:Int)≤40) && p.links.all (mZ p.buses))=true:=by
   simp only [Bool.and_eq_true,decide_eq_true_eq,List.all_eq_true]
   exact⟨by have:=h.ll;omega,fun x hx=>by obtain⟨i,hi,rfl⟩:=kr hx;exact F7.mpr (h.lnk i hi)⟩
  have h3:(decide ((p.racks.length:Int)≤24) && p.racks.all (nQ p.buses))=true:=by
   simp only [Bool.and_eq_true,decide_eq_true_eq,List.all_eq_true]
   exact⟨by have:=h.rl;omega,fun x hx=>by obtain⟨i,hi,rfl⟩:=kr hx;exact Fw.mpr (h.rck i hi)⟩
  rw [h0,h1,h2,h3];rfl
theorem VP.small {p:ay} (h:VP p):Small p:=by
 refine⟨by have:=h.sl;omega,by have:=h.ll;omega,by have:=h.rl;omega,fun x hx=> ?_⟩
 obtain⟨i,hi,rfl⟩:=kr hx
 have:=(h.lnk i hi).tl;omega
theorem lg {p:ay} {s:State}:oF p s=0↔VP p∧VS p s:=by
 unfold oF
 by_cases hc:wI p=0
 ·rw [if_neg (by simp [hc])]
  have hv:=DF.mp hc
  constructor
  ·intro h
   cases h1:(pV p s && !(List.range p.links.length).any (kT p s))with
   |false=>rw [h1]at h;simp at h
   |true=>
    simp only [pV,Bool.and_eq_true,decide_eq_true_eq,Bool.not_eq_true',List.any_eq_false,List.mem_range,kT,Bool.or_eq_true,not_and,not_or,Bool.not_eq_true]at h1
    obtain⟨⟨⟨⟨⟨⟨⟨h1,h2⟩,h3⟩,h4⟩,h5⟩,h6⟩,h7⟩,h8⟩:=h1
    exact⟨hv,h1,h2,h3,h4,h5,h6,h7,fun i hi hk=>by have:=h8 i hi hk;simpa using this⟩
  ·rintro ⟨_,h⟩
   have:(pV p s && !(List.range p.links.length).any (kT p s))=true:=by
    simp only [pV,Bool.and_eq_true,decide_eq_true_eq,Bool.not_eq_true',List.any_eq_false,List.mem_range,kT,Bool.or_eq_true,not_and,not_or,Bool.not_eq_true]
    exact⟨⟨⟨⟨⟨⟨⟨h.closed,h.locked⟩,h.badLink⟩,h.on⟩,h.badSource⟩,h.earthed⟩,h.badBus⟩,fun i hi hk=>by have:=h.cable i hi hk;simpa using this⟩
   rw [this];rfl
 ·rw [if_pos hc]
  exact⟨fun h=>absurd h hc,fun h=>absurd (DF.mpr h.1) hc⟩
def DN (p:ay) (s:State) (i:Nat):Bool:=at' s.closed i && !at' s.badLink i && !at' s.badBus (at' p.links i).a.toNat && !at' s.badBus (at' p.links i).b.toNat
def oq (p:ay) (s:State) (k:Nat):Bool:=at' s.on_ k && !at' s.badSource k && !at' s.badBus (at' p.sources k).bus.toNat
inductive Wk (p:ay) (s:State) (b:Nat):List Int→Nat→Prop where
 |nil:Wk p s b [] b
 |snoc {l:List Int} {v w i:Nat}:Wk p s b l v→i<p.links.length→DN p s i=true→
   ((at' p.links i).a.toNat=v∧(at' p.links i).b.toNat=w∨(at' p.links i).b.toNat=v∧(at' p.links i).a.toNat=w)→Wk p s b (l++[(i:Int)]) w
def tab {α:Type} (n:Nat) (f:Nat→α):List α:=(List.range n).map f
section
variable {α:Type} [Inhabited α]
theorem wJ (n:Nat) (f:Nat→α):(tab n f).length=n:=by simp [tab]
theorem Wv {n:Nat} {f:Nat→α} {i:Nat} (h:i<n):at' (tab n f) i=f i:=by
 rw [fG (by rw [wJ];exact h)];simp [tab]
theorem OU {n:Nat} {f g:Nat→α} (h: ∀i,i<n→f i=g i):tab n f=tab n g:=by
 unfold tab;exact List.map_congr_left fun i hi=>h i (List.mem_range.mp hi)
end
structure QM (s:State):Prop where
 l0:s.closed.length≤1000000000
 l1:s.locked.length≤1000000000
 l2:s.badLink.length≤1000000000
 l3:s.on_.length≤1000000000
 l4:s.badSource.length≤1000000000
 l5:s.earthed.length≤1000000000
 l6:s.badBus.length≤1000000000
theorem VS.small {p:ay} {s:State} (hp:VP p) (h:VS p s):QM s:=by
 have h1:=hp.ll;have h2:=hp.sl;have h3:=hp.b
 obtain⟨a1,a2,a3,a4,a5,a6,a7,_⟩:=h
 exact⟨by omega,by omega,by omega,by omega,by omega,by omega,by omega⟩
theorem wT (a b:Bool):(bif a then true else b)=(a||b):=by cases a<;>rfl
theorem BI (a b:Bool):(bif a then b else false)=(a && b):=by cases a<;>rfl
section
variable {p:ay} {s:State} (hp:VP p) (hs:VS p s)
include hp hs
end
def Ch (hd:List (Int × Int)):Nat→Int→Int→Prop
 |0,x,r=>bD aS x hd=none∧r=x
 |k+1,x,r=> ∃y,bD aS x hd=some y∧Ch hd k y r
theorem of_run {hd:List (Int × Int)}: ∀(k:Nat) (x r:Int),Ch hd k x r→aW (eO ⟨hd⟩) (k+1) x=some (.ret r)
 |0,x,r,h=>by
  obtain⟨h,e⟩:=h
  rw [cu];unfold eO;simp [h,e]
 |k+1,x,r,h=>by
  obtain⟨y,h,hc⟩:=h
  have:eO ⟨hd⟩ x=some (.next y):=by unfold eO;simp [h]
  rw [cu,this]
  exact of_run k y r hc
theorem of_eq {hd:List (Int × Int)} {k:Nat} {x r:Int} (h:Ch hd k x r) (hk:k≤1000):dh ⟨hd⟩ x=some r:=by
 unfold dh
 rw [kY (of_run k x r h) (by unfold FUEL;omega)];rfl
theorem Ch.root {hd:List (Int × Int)}: ∀{k:Nat} {x r:Int},Ch hd k x r→bD aS r hd=none
 |0,x,r,h=>by obtain⟨h,e⟩:=h;rw [e];exact h
 |k+1,x,r,h=>by obtain⟨y,_,hc⟩:=h;exact hc.root
theorem Ch.set {hd:List (Int × Int)} {a b:Int} (hab:a≠b) (ha:bD aS a hd=none) (hb:bD aS b hd=none): ∀{k:Nat} {x r:Int},Ch hd k x r→
  ∃k',k'≤k+1∧Ch (fe aS a b hd) k' x (if r=a then b else r)
 |0,x,r,h=>by
  obtain⟨h,e⟩:=h
  subst e
  by_cases e:r=a
  ·subst e
   rw [if_pos rfl]
   exact⟨1,by omega,b,iy _ _ _,by rw [jW (Ne.symm hab)];exact hb,rfl⟩
  ·rw [if_neg e]
   exact⟨0,by omega,by rw [jW e];exact h,rfl⟩
 |k+1,x,r,h=>by
  obtain⟨y,h,hc⟩:=h
  obtain⟨k',hk,hc'⟩:=hc.set hab ha hb
  have:x≠a:=fun e=>by rw [e,ha]at h;cases h
  exact⟨k'+1,by omega,y,by rw [jW this];exact h,hc'⟩
section
variable {p:ay} {s:State}
theorem Wk.trans {u v w:Nat} {l m:List Int} (h:Wk p s u l v) (h':Wk p s v m w):Wk p s u (l++m) w:=by
 induction h' with
 |nil=>simpa using h
 |snoc _ hi hc he ih=>rw [←List.append_assoc];exact ih.snoc hi hc he
theorem Wk.symm {u v:Nat} {l:List Int} (h:Wk p s u l v): ∃m,Wk p s v m u:=by
 induction h with
 |nil=>exact⟨[], .nil⟩
 |snoc _ hi hc he ih=>
  obtain⟨m,hm⟩:=ih
  exact⟨_,(Wk.nil.snoc hi hc (he.symm.imp id id|>.elim (fun⟨a,b⟩=> .inl ⟨b,a⟩) fun⟨a,b⟩=> .inr ⟨b,a⟩)).trans hm⟩
def qN (p:ay) (s:State):Nat→List (Int × Int) × (Int→Int)
 |0=>([],id)
 |n+1=>
  let q:=qN p s n
  if DN p s n=true∧q.2 (at' p.links n).a≠q.2 (at' p.links n).b then
   (fe aS (q.2 (at' p.links n).a) (q.2 (at' p.links n).b) q.1,fun x=>if q.2 x=q.2 (at' p.links n).a then q.2 (at' p.links n).b else q.2 x)
  else q
structure UF (p:ay) (s:State) (n:Nat) (hd:List (Int × Int)) (f:Int→Int):Prop where
 ch: ∀x,∃k,k≤n∧Ch hd k x (f x)
 cn: ∀x:Nat,(x:Int)<p.buses→0≤f x∧f x<p.buses∧ ∃l,Wk p s x l (f x).toNat
 ed: ∀i,i<n→DN p s i=true→f (at' p.links i).a=f (at' p.links i).b
theorem uf (hp:VP p): ∀n,n≤p.links.length→UF p s n (qN p s n).1 (qN p s n).2
 |0,_=> ⟨fun x=> ⟨0,Nat.le_refl _,rfl,rfl⟩,fun x hx=> ⟨by show(0:Int)≤x;omega,hx,[],by show Wk p s x [] ((x:Int).toNat);simp;exact .nil⟩,fun i hi=>absurd hi (Nat.not_lt_zero _)⟩
 |n+1,hn=>by
  have h:=uf hp n (by omega)
  have hl:=hp.lnk n (by omega)
  unfold qN
  by_cases hc:DN p s n=true∧(qN p s n).2 (at' p.links n).a≠(qN p s n).2 (at' p.links n).b
  ·rw [if_pos hc]
   obtain⟨hc1,hc2⟩:=hc
   obtain⟨ka,_,ca⟩:=h.ch (at' p.links n).a
   obtain⟨kb,_,cb⟩:=h.ch (at' p.links n).b
   refine⟨fun x=> ?_,fun x hx=> ?_,fun i hi hci=> ?_⟩
   ·obtain⟨k,hk,c⟩:=h.ch x
    obtain⟨k',hk',c'⟩:=c.set hc2 ca.root cb.root
    exact⟨k',by omega,c'⟩
   ·obtain⟨h0,h1,l,hw⟩:=h.cn x hx
    simp only
    by_cases e:(qN p s n).2 x=(qN p s n).2 (at' p.links n).a
    ·rw [if_pos e]
     have ha:=hl.a;have hb:=hl.b
     obtain⟨_,_,la,wa⟩:=h.cn (at' p.links n).a.toNat (by omega)
     obtain⟨b0,b1,lb,wb⟩:=h.cn (at' p.links n).b.toNat (by omega)
     have ea:(((at' p.links n).a.toNat:Nat):Int)=(at' p.links n).a:=by omega
     have eb:(((at' p.links n).b.toNat:Nat):Int)=(at' p.links n).b:=by omega
     rw [ea,←e]at wa
     rw [eb]at wb b0 b1
     obtain⟨m,wm⟩:=wa.symm
     refine⟨b0,b1,_,((hw.trans wm).snoc (by omega) hc1 (.inl ⟨rfl,rfl⟩)).trans wb⟩
    ·rw [if_neg e];exact⟨h0,h1,l,hw⟩
   ·simp only
    by_cases e:i=n
    ·subst e;rw [if_pos rfl]
     by_cases e2:(qN p s i).2 (at' p.links i).b=(qN p s i).2 (at' p.links i).a
     ·rw [if_pos e2]
     ·rw [if_neg e2]
    ·rw [h.ed i (by omega) hci]
  ·rw [if_neg hc]
   refine⟨fun x=> ?_,h.cn,fun i hi hci=> ?_⟩
   ·obtain⟨k,hk,c⟩:=h.ch x;exact⟨k,by omega,c⟩
   ·by_cases e:i=n
    ·subst e
     by_cases e2:(qN p s i).2 (at' p.links i).a=(qN p s i).2 (at' p.links i).b
     ·exact e2
     ·exact absurd ⟨hci,e2⟩ hc
    ·exact h.ed i (by omega) hci
def aY (p:ay) (s:State) (x:Nat):Int:=(qN p s p.links.length).2 x
theorem sK (hp:VP p) {u v:Nat} (hu:(u:Int)<p.buses) (hv:(v:Int)<p.buses):aY p s u=aY p s v↔ ∃l,Wk p s u l v:=by
 have h:=uf (s:=s) hp p.links.length (Nat.le_refl _)
 constructor
 ·intro e
  obtain⟨_,_,l,w⟩:=h.cn u hu
  obtain⟨_,_,m,w'⟩:=h.cn v hv
  obtain⟨m',w''⟩:=w'.symm
  have:(qN p s p.links.length).2 u=(qN p s p.links.length).2 v:=e
  rw [this]at w
  exact⟨_,w.trans w''⟩
 ·rintro ⟨l,w⟩
  clear hv
  induction w with
  |nil=>rfl
  |snoc w hi hc he ih=>
   rename_i i
   rw [ih]
   have hl:=hp.lnk i hi
   have ha:=hl.a;have hb:=hl.b
   have ed:=h.ed i hi hc
   unfold aY
   rcases he with⟨e1,e2⟩|⟨e1,e2⟩
   ·rw [←e1,←e2,Int.toNat_of_nonneg (by omega),Int.toNat_of_nonneg (by omega),ed]
   ·rw [←e1,←e2,Int.toNat_of_nonneg (by omega),Int.toNat_of_nonneg (by omega),ed]
theorem Eh (hp:VP p) (x:Int):dh ⟨(qN p s p.links.length).1⟩ x=some ((qN p s p.links.length).2 x):=by
 obtain⟨k,hk,c⟩:=(uf (s:=s) hp p.links.length (Nat.le_refl _)).ch x
 have:=hp.ll
 exact of_eq c (by omega)
theorem join_eq (hp:VP p) {n:Nat} (hn:n<p.links.length) (hc:DN p s n=true):jk ⟨(qN p s n).1⟩ (at' p.links n).a (at' p.links n).b=some (qN p s (n+1)).1:=by
 have h:=uf (s:=s) hp n (by omega)
 have:=hp.ll
 obtain⟨ka,_,ca⟩:=h.ch (at' p.links n).a
 obtain⟨kb,_,cb⟩:=h.ch (at' p.links n).b
 unfold jk
 rw [of_eq ca (by omega),of_eq cb (by omega)]
 simp only [Option.bind_some]
 rw [qN]
 by_cases e:(qN p s n).2 (at' p.links n).a=(qN p s n).2 (at' p.links n).b
 ·simp [e]
 ·simp [e,hc]
end
theorem iT {α:Type} [Inhabited α] {l m:List α} {j:Nat} (h:j<l.length):at' (l++m) j=at' l j:=by
 rw [fG (by rw [List.length_append];omega),fG h,List.getElem_append_left]
theorem jE {α:Type} [Inhabited α] (l:List α) (x:α):at' (l++[x]) l.length=x:=by
 rw [fG (by simp)];simp
section
variable {p:ay} {s:State} (hp:VP p) (hs:VS p s)
include hp hs
theorem Pt {i:Nat} (hi:i<p.links.length):dI p.links s.closed s.badLink s.badBus ((qN p s i).1,(i:Int))=some (.next ((qN p s (i+1)).1,((i+1:Nat):Int))):=by
 have hl:=hp.lnk i hi
 have ha:=hl.a;have hb:=hl.b;have h1:=hs.closed;have h2:=hs.badLink;have h3:=hs.badBus;have hll:=hp.ll
 have hd:decide ((i:Int)<(p.links.length:Int))=true:=decide_eq_true (by omega)
 have hcb:(bif (bif (bif (at' s.closed i)then(!(at' s.badLink i))else false)then(!(at' s.badBus (((at' p.links i).a).toNat)))else false)then(!(at' s.badBus (((at' p.links i).b).toNat)))else false)=DN p s i:=by
  unfold DN
  cases at' s.closed i<;>cases at' s.badLink i<;>cases at' s.badBus (at' p.links i).a.toNat<;>cases at' s.badBus (at' p.links i).b.toNat<;>rfl
 unfold dI
 simp only [Int.toNat_natCast]
 rw [hd,cond_true,aA (by omega),hcb]
 cases hc:DN p s i with
 |true=>
  rw [cond_true]
  unfold kU
  rw [join_eq hp hi hc]
  simp only [Option.bind_some]
  rw [aA ⟨by omega,fun _=>by omega,fun _=>by omega,fun _=>by omega⟩,wr (by omega)]
  rfl
 |false=>
  rw [cond_false,aA ⟨by omega,fun _=>by omega,fun _=>by omega,fun _=>by omega⟩,wr (by omega)]
  have:qN p s (i+1)=qN p s i:=by rw [qN];simp [hc]
  rw [this];rfl
theorem Al:kQ p.buses p.sources p.links p.racks s.closed s.locked s.badLink s.on_ s.badSource s.earthed s.badBus ⟨[]⟩=some ⟨(qN p s p.links.length).1⟩:=by
 have hll:=hp.ll
 have key:aW (dI p.links s.closed s.badLink s.badBus) FUEL ((qN p s 0).1,((0:Nat):Int))=some (.brk (qN p s p.links.length).1):=by
  refine gF (fun i=>((qN p s i).1,(i:Int))) p.links.length _ (fuel_lt (by omega)) (fun i hi=>Pt hp hs hi) ?_
  unfold dI
  simp
 show(aW (dI p.links s.closed s.badLink s.badBus) FUEL ((qN p s 0).1,((0:Nat):Int))).bind _=_
 rw [key];rfl
omit hs
structure II (p:ay) (s:State) (t n:Nat) (out:List aH) (m:List (Int × Int)):Prop where
 ix: ∀h i,bD aS h m=some i→0≤i∧i<(out.length:Int)
 inj: ∀h h' i,bD aS h m=some i→bD aS h' m=some i→h=h'
 cov: ∀b:Nat,b<t→at' s.badBus b=false→ ∃j:Nat,bD aS (aY p s b) m=some (j:Int)∧(b:Int)∈(at' out j).buses
 mem: ∀j,j<out.length→ ∀x∈(at' out j).buses,∃b:Nat,x=b∧b<t∧at' s.badBus b=false∧bD aS (aY p s b) m=some (j:Int)
 src: ∀j,j<out.length→(at' out j).sources=[]
 len:out.length≤n
 bl: ∀j,j<out.length→(at' out j).buses.length≤t
omit hp
theorem II.fresh {t n:Nat} {out:List aH} {m:List (Int × Int)} {h0:Int} (g:II p s t n out m) (hn:bD aS h0 m=none):II p s t (n+1) (out++[⟨[],[]⟩]) (fe aS h0 (out.length:Int) m):=by
 have old: ∀h i,h≠h0→bD aS h (fe aS h0 (out.length:Int) m)=some i→bD aS h m=some i:=fun h i e q=>by rwa [jW e]at q
 refine⟨fun h i q=> ?_,fun h h' i q q'=> ?_,fun b hb hbad=> ?_,fun j hj x hx=> ?_,fun j hj=> ?_, ?_,fun j hj=> ?_⟩
 ·rw [List.length_append]
  by_cases e:h=h0
  ·subst e;rw [iy]at q;cases q;simp;omega
  ·have:=g.ix h i (old h i e q);simp;omega
 ·by_cases e:h=h0
  ·subst e;rw [iy]at q;cases q
   by_cases e':h'=h
   ·exact e'.symm
   ·have:=g.ix h' _ (old h' _ e' q');omega
  ·by_cases e':h'=h0
   ·subst e';rw [iy]at q';cases q'
    have:=g.ix h _ (old h _ e q);omega
   ·exact g.inj h h' i (old h i e q) (old h' i e' q')
 ·obtain⟨j,q,hx⟩:=g.cov b hb hbad
  have e:aY p s b≠h0:=fun e=>by rw [e,hn]at q;cases q
  have:=g.ix _ _ q
  exact⟨j,by rw [jW e];exact q,by rw [iT (by omega)];exact hx⟩
 ·rw [List.length_append]at hj
  by_cases e:j<out.length
  ·rw [iT e]at hx
   obtain⟨b,h1,h2,h3,q⟩:=g.mem j e x hx
   have e:aY p s b≠h0:=fun e=>by rw [e,hn]at q;cases q
   exact⟨b,h1,h2,h3,by rw [jW e];exact q⟩
  ·have:j=out.length:=by simp at hj;omega
   subst this
   rw [jE]at hx;simp at hx
 ·rw [List.length_append]at hj
  by_cases e:j<out.length
  ·rw [iT e];exact g.src j e
  ·have:j=out.length:=by simp at hj;omega
   subst this;rw [jE]
 ·rw [List.length_append];have:=g.len;simp;omega
 ·rw [List.length_append]at hj
  by_cases e:j<out.length
  ·rw [iT e];exact g.bl j e
  ·have:j=out.length:=by simp at hj;omega
   subst this;rw [jE];simp
theorem II.add {t n:Nat} {out:List aH} {m:List (Int × Int)} (g:II p s t n out m) (hbad:at' s.badBus t=false) {j:Nat} (hj:bD aS (aY p s t) m=some (j:Int)):
  II p s (t+1) n (out.set j ⟨(at' out j).buses++[(t:Int)],(at' out j).sources⟩) m:=by
 have hjl:=(g.ix _ _ hj).2
 refine⟨fun h i q=>by rw [List.length_set];exact g.ix h i q,g.inj,fun b hb hbb=> ?_,fun i hi x hx=> ?_,fun i hi=> ?_,by rw [List.length_set];exact g.len,fun i hi=> ?_⟩
 ·by_cases e:b=t
  ·subst e
   exact⟨j,hj,by rw [dR (by omega)];simp⟩
  ·obtain⟨i,q,hx⟩:=g.cov b (by omega) hbb
   refine⟨i,q, ?_⟩
   by_cases e2:j=i
   ·subst e2;rw [dR (by omega)];simp [hx]
   ·rw [bZ e2];exact hx
 ·rw [List.length_set]at hi
  by_cases e2:j=i
  ·subst e2
   rw [dR (by omega)]at hx
   rcases List.mem_append.mp hx with hx|hx
   ·obtain⟨b,h1,h2,h3,q⟩:=g.mem j hi x hx
    exact⟨b,h1,by omega,h3,q⟩
   ·simp at hx
    exact⟨t,hx,by omega,hbad,hj⟩
  ·rw [bZ e2]at hx
   obtain⟨b,h1,h2,h3,q⟩:=g.mem i hi x hx
   exact⟨b,h1,by omega,h3,q⟩
 ·rw [List.length_set]at hi
  by_cases e2:j=i
  ·subst e2;rw [dR (by omega)];exact g.src j hi
  ·rw [bZ e2];exact g.src i hi
 ·rw [List.length_set]at hi
  have:=g.bl i hi
  by_cases e2:j=i
  ·subst e2;rw [dR (by omega)];simp;omega
  ·rw [bZ e2];omega
include hp hs
theorem Qv {t:Nat} (ht:(t:Int)<p.buses) {out:List aH} {m:List (Int × Int)} (g:II p s t t out m):
  ∃out' m',bN p s ⟨(qN p s p.links.length).1⟩ (out,m,(t:Int))=some (.next (out',m',((t+1:Nat):Int)))∧II p s (t+1) (t+1) out' m':=by
 have h3:=hs.badBus;have hb:=hp.b
 have hd:decide ((t:Int)<p.buses)=true:=decide_eq_true ht
 have hlen:=g.len
 unfold bN
 simp only [Int.toNat_natCast]
 rw [hd,cond_true,aA (by omega)]
 cases hbad:at' s.badBus t with
 |true=>
  refine⟨out,m,by rw [cond_true,wr (by omega)];rfl,g.ix,g.inj,fun b hb' hbb=> ?_,fun j hj x hx=> ?_,g.src,by omega,fun j hj=> ?_⟩
  ·have:b≠t:=fun e=>by rw [e,hbad]at hbb;cases hbb
   exact g.cov b (by omega) hbb
  ·obtain⟨b,h1,h2,h3,q⟩:=g.mem j hj x hx
   exact⟨b,h1,by omega,h3,q⟩
  ·have:=g.bl j hj;omega
 |false=>
  rw [cond_false,Eh hp,Option.bind_some]
  have eh:(qN p s p.links.length).2 (t:Int)=aY p s t:=rfl
  rw [eh]
  cases hq:bD aS (aY p s t) m with
  |some i=>
   obtain⟨i0,i1⟩:=g.ix _ _ hq
   obtain⟨j,rfl⟩: ∃j:Nat,i=(j:Int):=⟨i.toNat,by omega⟩
   have hbl:=g.bl j (by omega)
   refine⟨_,_, ?_,⟨(g.add hbad hq).ix,g.inj,(g.add hbad hq).cov,(g.add hbad hq).mem,(g.add hbad hq).src,by have:=(g.add hbad hq).len;omega,(g.add hbad hq).bl⟩⟩
   simp only [Option.isSome_some,Bool.not_true,cond_false,Option.getD_some,Int.toNat_natCast]
   rw [aA ⟨by omega,by simp;omega,by simp;omega⟩,wr (by omega)]
   rfl
  |none=>
   have g':=g.fresh hq
   have hj:bD aS (aY p s t) (fe aS (aY p s t) (out.length:Int) m)=some (out.length:Int):=iy _ _ _
   have g2:=g'.add hbad hj
   refine⟨_,_, ?_,g2⟩
   simp only [Option.isSome_none,Bool.not_false,cond_true,hj,Option.getD_some,Int.toNat_natCast,jE]
   rw [aA ⟨by simp;omega,by simp;omega⟩,aA ⟨by simp;omega,by simp⟩,wr (by omega)]
   rfl
theorem Vt: ∀(d t:Nat) (out:List aH) (m:List (Int × Int)),((t+d:Nat):Int)=p.buses→II p s t t out m→
  ∃out' m',aW (bN p s ⟨(qN p s p.links.length).1⟩) (d+1) (out,m,(t:Int))=some (.brk (out',m'))∧II p s p.buses.toNat p.buses.toNat out' m':=by
 intro d
 induction d with
 |zero=>
  intro t out m ht g
  refine⟨out,m, ?_,by
   have:p.buses.toNat=t:=by omega
   rw [this];exact g⟩
  rw [cu]
  have hd:decide ((t:Int)<p.buses)=false:=decide_eq_false (by omega)
  unfold bN
  simp only
  rw [hd];rfl
 |succ d ih=>
  intro t out m ht g
  obtain⟨out1,m1,h1,g1⟩:=Qv hp hs (by omega) g
  obtain⟨out2,m2,h2,g2⟩:=ih (t+1) out1 m1 (by omega) g1
  exact⟨out2,m2,by rw [cu,h1];exact h2,g2⟩
structure JJ (p:ay) (s:State) (m:List (Int × Int)) (o:List aH) (k:Nat) (out:List aH):Prop where
 len:out.length=o.length
 bus: ∀j,j<out.length→(at' out j).buses=(at' o j).buses
 src: ∀j,j<out.length→((at' out j).sources≠[]↔ ∃i,i<k∧oq p s i=true∧bD aS (aY p s (at' p.sources i).bus.toNat) m=some (j:Int))
 sl: ∀j,j<out.length→(at' out j).sources.length≤k
theorem QO {o:List aH} {m:List (Int × Int)} (g:II p s p.buses.toNat p.buses.toNat o m) {k:Nat} (hk:k<p.sources.length) {out:List aH} (q:JJ p s m o k out):
  ∃out',bM p s ⟨(qN p s p.links.length).1⟩ m (out,(k:Int))=some (.next (out',((k+1:Nat):Int)))∧JJ p s m o (k+1) out':=by
 have hl:=(hp.src k hk).bus;have h1:=hs.on;have h2:=hs.badSource;have h3:=hs.badBus;have h4:=hp.sl
 have hd:decide ((k:Int)<(p.sources.length:Int))=true:=decide_eq_true (by omega)
 have hcb:(bif (bif (at' s.on_ k)then(!(at' s.badSource k))else false)then(!(at' s.badBus (((at' p.sources k).bus).toNat)))else false)=oq p s k:=by
  unfold oq
  cases at' s.on_ k<;>cases at' s.badSource k<;>cases at' s.badBus (at' p.sources k).bus.toNat<;>rfl
 unfold bM
 simp only [Int.toNat_natCast]
 rw [hd,cond_true,aA (by omega),aA ⟨by omega,fun _=>by omega,fun _=>by omega⟩,hcb]
 cases hf:oq p s k with
 |false=>
  refine⟨out,by rw [cond_false,wr (by omega)];rfl,q.len,q.bus,fun j hj=> ?_,fun j hj=>by have:=q.sl j hj;omega⟩
  rw [q.src j hj]
  constructor
  ·rintro ⟨i,h1,h2,h3⟩;exact⟨i,by omega,h2,h3⟩
  ·rintro ⟨i,h1,h2,h3⟩
   have:i≠k:=fun e=>by rw [e,hf]at h2;cases h2
   exact⟨i,by omega,h2,h3⟩
 |true=>
  have hbad:at' s.badBus (at' p.sources k).bus.toNat=false:=by
   unfold oq at hf
   revert hf
   cases at' s.badBus (at' p.sources k).bus.toNat<;>simp
  obtain⟨j,hj,_⟩:=g.cov (at' p.sources k).bus.toNat (by omega) hbad
  have hjl:=(g.ix _ _ hj).2
  have hlen:=q.len
  have hsl:=q.sl j (by omega)
  have eh:(qN p s p.links.length).2 (at' p.sources k).bus=aY p s (at' p.sources k).bus.toNat:=by unfold aY;rw [Int.toNat_of_nonneg (by omega)]
  rw [cond_true,Eh hp,Option.bind_some,eh,hj]
  simp only [Option.getD_some,Int.toNat_natCast]
  rw [aA ⟨by omega,by simp;omega,by simp;omega⟩,wr (by omega)]
  refine⟨_,rfl,by rw [List.length_set];exact q.len,fun i hi=> ?_,fun i hi=> ?_,fun i hi=> ?_⟩
  ·rw [List.length_set]at hi
   by_cases e:j=i
   ·subst e;rw [dR (by omega)];exact q.bus j hi
   ·rw [bZ e];exact q.bus i hi
  ·rw [List.length_set]at hi
   by_cases e:j=i
   ·subst e;rw [dR (by omega)]
    simp only [ne_eq,List.append_eq_nil_iff,List.cons_ne_nil,and_false,not_false_eq_true,true_iff]
    exact⟨k,by omega,hf,hj⟩
   ·rw [bZ e,q.src i hi]
    constructor
    ·rintro ⟨i',h1,h2,h3⟩;exact⟨i',by omega,h2,h3⟩
    ·rintro ⟨i',h1,h2,h3⟩
     have:i'≠k:=fun e'=>by
      rw [e',hj]at h3
      have:=Option.some.inj h3
      omega
     exact⟨i',by omega,h2,h3⟩
  ·rw [List.length_set]at hi
   have:=q.sl i hi
   by_cases e:j=i
   ·subst e;rw [dR (by omega)];simp;omega
   ·rw [bZ e];omega
theorem VG {o:List aH} {m:List (Int × Int)} (g:II p s p.buses.toNat p.buses.toNat o m): ∀(d k:Nat) (out:List aH),k+d=p.sources.length→JJ p s m o k out→
  ∃out',aW (bM p s ⟨(qN p s p.links.length).1⟩ m) (d+1) (out,(k:Int))=some (.brk out')∧JJ p s m o p.sources.length out':=by
 intro d
 induction d with
 |zero=>
  intro k out hk q
  refine⟨out, ?_,by
   have:p.sources.length=k:=by omega
   rw [this];exact q⟩
  rw [cu]
  have hd:decide ((k:Int)<(p.sources.length:Int))=false:=decide_eq_false (by omega)
  unfold bM
  simp only
  rw [hd];rfl
 |succ d ih=>
  intro k out hk q
  obtain⟨out1,h1,q1⟩:=QO hp hs g (by omega) q
  obtain⟨out2,h2,q2⟩:=ih (k+1) out1 (by omega) q1
  exact⟨out2,by rw [cu,h1];exact h2,q2⟩
theorem MP: ∃out o m,fq p s=some out∧II p s p.buses.toNat p.buses.toNat o m∧JJ p s m o p.sources.length out:=by
 have hb:=hp.b;have h4:=hp.sl
 obtain⟨o,m,h1,g⟩:=Vt hp hs p.buses.toNat 0 [] [] (by omega) ⟨fun h i q=>by simp [bD]at q,fun h h' i q=>by simp [bD]at q,fun b hb=>absurd hb (Nat.not_lt_zero _),fun j hj=>by simp at hj,fun j hj=>by simp at hj,Nat.le_refl _,fun j hj=>by simp at hj⟩
 obtain⟨out,h2,q⟩:=VG hp hs g p.sources.length 0 o (by omega) ⟨rfl,fun _ _=>rfl,fun j hj=>by rw [g.src j hj];simp,fun j hj=>by rw [g.src j hj];simp⟩
 refine⟨out,o,m, ?_,g,q⟩
 unfold fq
 simp only [jQ,Option.bind_some]
 rw [Al hp hs,Option.bind_some]
 have e1:aW (bN p s ⟨(qN p s p.links.length).1⟩) FUEL (([]:List aH),([]:List (Int × Int)),0)=some (.brk (o,m)):=kY h1 (by unfold FUEL;omega)
 have e2:aW (bM p s ⟨(qN p s p.links.length).1⟩ m) FUEL (o,0)=some (.brk out):=kY h2 (by unfold FUEL;omega)
 rw [e1]
 simp only [Option.bind_some]
 rw [e2]
 rfl
end
def mG (v:Bool) (o:List Bool) (l:List Int):List Bool:=l.foldl (fun o x=>o.set x.toNat v) o
theorem uL (v:Bool): ∀(l:List Int) (o:List Bool),(mG v o l).length=o.length
 |[],_=>rfl
 |x::l,o=>by
  show(mG v (o.set x.toNat v) l).length=_
  rw [uL v l,List.length_set]
theorem KU (v:Bool) (o:List Bool) (l:List Int) (x:Int):mG v o (l++[x])=(mG v o l).set x.toNat v:=by simp [mG]
theorem HZ (v:Bool): ∀(l:List Int) (o:List Bool) (j:Nat),(∀x∈l,0≤x)→j<o.length→at' (mG v o l) j=if(j:Int)∈l then v else at' o j
 |[],o,j,_,_=>by simp [mG]
 |x::l,o,j,h,hj=>by
  show at' (mG v (o.set x.toNat v) l) j=_
  rw [HZ v l _ j (fun y hy=>h y (List.mem_cons_of_mem _ hy)) (by rw [List.length_set];exact hj)]
  have hx:=h x List.mem_cons_self
  by_cases e:(j:Int)∈l
  ·rw [if_pos e,if_pos (List.mem_cons_of_mem _ e)]
  ·rw [if_neg e]
   by_cases e2:x.toNat=j
   ·subst e2
    rw [dR hj,if_pos (by rw [Int.toNat_of_nonneg hx];exact List.mem_cons_self)]
   ·rw [bZ e2,if_neg]
    intro hm
    rcases List.mem_cons.mp hm with h1|h1
    ·omega
    ·exact e h1
def EJ (n:Nat) (l:List aH):List Bool:=l.foldl (fun o x=>mG (decide (0<(x.sources.length:Int))) o x.buses) (List.replicate n false)
theorem GZ (n:Nat) (l:List aH) (x:aH):EJ n (l++[x])=mG (decide (0<(x.sources.length:Int))) (EJ n l) x.buses:=by simp [EJ]
theorem yB (n:Nat) (l:List aH):(EJ n l).length=n:=by
 unfold EJ
 suffices∀(l:List aH) (o:List Bool),(l.foldl (fun o x=>mG (decide (0<(x.sources.length:Int))) o x.buses) o).length=o.length by rw [this];simp
 intro l
 induction l with
 |nil=>intro o;rfl
 |cons x l ih=>intro o;rw [List.foldl_cons,ih,uL]
def wE (p:ay) (s:State) (b:Nat):Prop:=at' s.badBus b=false∧ ∃k,k<p.sources.length∧oq p s k=true∧ ∃l,Wk p s (at' p.sources k).bus.toNat l b
section
variable {p:ay} {s:State} (hp:VP p) (hs:VS p s)
include hp hs
theorem TR {out:List aH} {j:Nat} (hj:j<out.length) (hx: ∀x∈(at' out j).buses,0≤x∧x<p.buses) (hl:(at' out j).buses.length≤1000) {o:List Bool} (ho:(o.length:Int)=p.buses):
  aW (j6 out (j:Int)) FUEL (o,0)=some (.brk (mG (decide (0<((at' out j).sources.length:Int))) o (at' out j).buses)):=by
 have key:aW (j6 out (j:Int)) FUEL (mG (decide (0<((at' out j).sources.length:Int))) o ((at' out j).buses.take 0),((0:Nat):Int))=some (.brk (mG (decide (0<((at' out j).sources.length:Int))) o (at' out j).buses)):=by
  refine gF (fun i=>(mG (decide (0<((at' out j).sources.length:Int))) o ((at' out j).buses.take i),(i:Int))) (at' out j).buses.length _ (fuel_lt (by omega)) (fun i hi=> ?_) ?_
  ·have hd:decide ((i:Int)<((at' out j).buses.length:Int))=true:=decide_eq_true (by omega)
   have hm:=hx _ (at_mem hi)
   have hlen:=uL (decide (0<((at' out j).sources.length:Int))) ((at' out j).buses.take i) o
   unfold j6
   simp only [Int.toNat_natCast]
   rw [hd,cond_true,aA (by omega),aA (by omega),wr (by omega),nW hi,KU]
   rfl
  ·have hd:decide (((at' out j).buses.length:Int)<((at' out j).buses.length:Int))=false:=decide_eq_false (by omega)
   unfold j6
   simp only [Int.toNat_natCast]
   rw [hd,cond_false,List.take_length]
 exact key
theorem Uk: ∃L,gT p s=some (L,0)∧(L.length:Int)=p.buses∧ ∀b:Nat,(b:Int)<p.buses→(at' L b=true↔wE p s b):=by
 have hb:=hp.b;have h4:=hp.sl
 obtain⟨out,o,m,e,g,q⟩:=MP hp hs
 have hlen:=q.len
 have hgl:=g.len
 have hbus: ∀j,j<out.length→ ∀x∈(at' out j).buses,∃b:Nat,x=b∧(b:Int)<p.buses∧at' s.badBus b=false∧bD aS (aY p s b) m=some (j:Int):=by
  intro j hj x hx
  rw [q.bus j hj]at hx
  obtain⟨b,h1,h2,h3,h5⟩:=g.mem j (by omega) x hx
  exact⟨b,h1,by omega,h3,h5⟩
 have hx: ∀j,j<out.length→ ∀x∈(at' out j).buses,0≤x∧x<p.buses:=by
  intro j hj x hx
  obtain⟨b,h1,h2,_⟩:=hbus j hj x hx
  omega
 have hl: ∀j,j<out.length→(at' out j).buses.length≤1000:=by
  intro j hj;rw [q.bus j hj];have:=g.bl j (by omega);omega
 have hL:aW (jZ out) FUEL (EJ p.buses.toNat (out.take 0),((0:Nat):Int))=some (.brk (EJ p.buses.toNat out)):=by
  refine gF (fun i=>(EJ p.buses.toNat (out.take i),(i:Int))) out.length _ (fuel_lt (by omega)) (fun i hi=> ?_) ?_
  ·have hd:decide ((i:Int)<(out.length:Int))=true:=decide_eq_true (by omega)
   have hlo:=yB p.buses.toNat (out.take i)
   unfold jZ
   simp only
   rw [hd,cond_true,aA (by omega),TR hp hs hi (hx i hi) (hl i hi) (by omega)]
   simp only [Option.bind_some]
   rw [wr (by omega),nW hi,GZ]
   rfl
  ·have hd:decide ((out.length:Int)<(out.length:Int))=false:=decide_eq_false (by omega)
   unfold jZ
   simp only
   rw [hd,cond_false,List.take_length]
 have hat: ∀n,n≤out.length→ ∀b:Nat,(b:Int)<p.buses→(at' (EJ p.buses.toNat (out.take n)) b=true↔ ∃j,j<n∧(b:Int)∈(at' out j).buses∧(at' out j).sources≠[]):=by
  intro n
  induction n with
  |zero=>
   intro _ b hb'
   rw [List.take_zero]
   show at' (List.replicate p.buses.toNat false) b=true↔_
   rw [Ac (by omega)]
   simp
  |succ n ih=>
   intro hn b hb'
   have hln:=yB p.buses.toNat (out.take n)
   rw [nW (by omega),GZ,HZ _ _ _ _ (fun x h=>(hx n (by omega) x h).1) (by omega)]
   by_cases hm:(b:Int)∈(at' out n).buses
   ·rw [if_pos hm]
    have huniq: ∀j,j<out.length→(b:Int)∈(at' out j).buses→j=n:=by
     intro j hj hmj
     obtain⟨b1,e1,_,_,f1⟩:=hbus n (by omega) _ hm
     obtain⟨b2,e2,_,_,f2⟩:=hbus j hj _ hmj
     have:b1=b2:=by omega
     subst this
     rw [f1]at f2
     have:=Option.some.inj f2
     omega
    constructor
    ·intro hd
     refine⟨n,by omega,hm,fun hn=> ?_⟩
     rw [hn]at hd;simp at hd
    ·rintro ⟨j,hj,hmj,hsj⟩
     have:=huniq j (by omega) hmj
     subst this
     have:=List.length_pos_iff.mpr hsj
     exact decide_eq_true (by omega)
   ·rw [if_neg hm,ih (by omega) b hb']
    constructor
    ·rintro ⟨j,hj,h⟩;exact⟨j,by omega,h⟩
    ·rintro ⟨j,hj,h⟩
     have:j≠n:=fun e=>by subst e;exact hm h.1
     exact⟨j,by omega,h⟩
 refine⟨EJ p.buses.toNat out, ?_,by rw [yB];omega,fun b hb'=> ?_⟩
 ·unfold gT
  have h0:oF p s=0:=lg.mpr ⟨hp,hs⟩
  rw [kg p s hp.small,h0,Option.bind_some]
  simp only [decide_true,Bool.not_true,cond_false]
  rw [aA ⟨by omega,by omega,by omega⟩,e,Option.bind_some]
  have hL':aW (jZ out) FUEL (List.replicate p.buses.toNat false,0)=some (.brk (EJ p.buses.toNat out)):=hL
  rw [hL'];rfl
 ·have:=hat out.length (Nat.le_refl _) b hb'
  rw [List.take_length]at this
  rw [this]
  constructor
  ·rintro ⟨j,hj,hm,hsj⟩
   obtain⟨b1,e1,h1,hbad,f1⟩:=hbus j hj _ hm
   have:b1=b:=by omega
   subst this
   obtain⟨k,hk,hf,f2⟩:=(q.src j hj).mp hsj
   have hk2:=(hp.src k hk).bus
   have:=g.inj _ _ _ f1 f2
   obtain⟨l,w⟩:=(sK hp (by omega) hb').mp this.symm
   exact⟨hbad,k,hk,hf,l,w⟩
  ·rintro ⟨hbad,k,hk,hf,l,w⟩
   have hk2:=(hp.src k hk).bus
   have he:=(sK (s:=s) hp (u:=(at' p.sources k).bus.toNat) (by omega) hb').mpr ⟨l,w⟩
   obtain⟨j,hj,hm⟩:=g.cov b (by omega) hbad
   have hjl:=(g.ix _ _ hj).2
   refine⟨j,by omega,by rw [q.bus j (by omega)];exact hm, ?_⟩
   rw [q.src j (by omega)]
   exact⟨k,hk,hf,by rw [he];exact hj⟩
omit hp hs
end
section
variable {p:ay} {s:State} (hp:VP p) (hs:VS p s)
include hp hs
end
theorem Rp {α:Type} (n:Nat) (f:Nat→α):tab (n+1) f=tab n f++[f n]:=by simp [tab,List.range_succ]
section
variable {p:ay} {s:State} (hp:VP p) (hs:VS p s)
include hp hs
def MI (p:ay) (L:List Bool) (k:Nat):aB:=⟨at' L (at' p.racks k).feeds.e0.toNat,bif decide (0≤(at' p.racks k).feeds.e1)then at' L (at' p.racks k).feeds.e1.toNat else false⟩
theorem P9 {L:List Bool} (h1:gT p s=some (L,0)) (h3:(L.length:Int)=p.buses):oW p s=some (tab p.racks.length (MI p L),0):=by
 have hrl:=hp.rl
 ·unfold oW
  rw [h1,Option.bind_some]
  simp only [decide_true,Bool.not_true,cond_false]
  have key:aW (jw p (L,0)) FUEL (tab 0 (MI p L),((0:Nat):Int))=some (.brk (tab p.racks.length (MI p L))):=by
   refine gF (body:=jw p (L,0)) (fun t=>(tab t (MI p L),(t:Int))) p.racks.length _ (fuel_lt (by omega)) (fun t ht=> ?_) ?_
   ·have hr:=hp.rck t ht
    have r0:=hr.e0;have r1:=hr.e1
    unfold jw
    have d1:decide ((t:Int)<(p.racks.length:Int))=true:=decide_eq_true (by omega)
    have d2:decide (0≤(at' p.racks t).feeds.e0)=true:=decide_eq_true (by omega)
    simp only [d1,cond_true,Int.toNat_natCast,d2]
    have q1: ∀l,gB [(decide (0≤(at' p.racks t).feeds.e1),true)]=l→l=true→0≤(at' p.racks t).feeds.e1:=fun l e h=>by
     subst e;simp [gB]at h;exact h
    rw [aA (by omega),aA (fun _=>by omega),aA (fun h=>by have:=q1 _ rfl h;omega),aA (by rw [wJ,List.length_singleton];omega),wr (by omega),Rp]
    rfl
   ·unfold jw
    have d1:decide ((p.racks.length:Int)<(p.racks.length:Int))=false:=decide_eq_false (by omega)
    simp only [d1,cond_false]
  have key':aW (jw p (L,0)) FUEL ([],0)=_:=key
  rw [key'];rfl
end
def rts (p:ay) (s:State):Nat→List Int
 |0=>[]
 |t+1=>if at' s.badBus t=true∨aY p s t∈rts p s t then rts p s t else rts p s t++[aY p s t]
def yX (p:ay) (s:State) (t:Nat) (h:Int):List Int:=List.map (fun b:Nat=>(Int.ofNat b)) ((List.range t).filter fun b=> !at' s.badBus b && decide (aY p s b=h))
def pY (p:ay) (s:State) (k:Nat) (h:Int):List Int:=List.map (fun i:Nat=>(Int.ofNat i)) ((List.range k).filter fun i=>oq p s i && decide (aY p s (at' p.sources i).bus.toNat=h))
def dJ (p:ay) (s:State) (t k:Nat):List aH:=(rts p s t).map fun h=> ⟨yX p s t h,pY p s k h⟩
def Jt (r:List Int):List (Int × Int):=tab r.length fun j=>(at' r j,(j:Int))
theorem wZ {p:ay} {s:State} {h:Int}: ∀{t:Nat},h∈rts p s t↔ ∃b,b<t∧at' s.badBus b=false∧aY p s b=h
 |0=>by simp [rts]
 |t+1=>by
  have e:rts p s (t+1)=if at' s.badBus t=true∨aY p s t∈rts p s t then rts p s t else rts p s t++[aY p s t]:=rfl
  rw [e]
  by_cases c:at' s.badBus t=true∨aY p s t∈rts p s t
  ·rw [if_pos c,wZ]
   constructor
   ·rintro ⟨b,h1,h2,h3⟩;exact⟨b,by omega,h2,h3⟩
   ·rintro ⟨b,h1,h2,h3⟩
    by_cases e:b=t
    ·subst e
     rcases c with c|c
     ·rw [h2]at c;cases c
     ·rw [h3]at c;exact wZ.1 c
    ·exact⟨b,by omega,h2,h3⟩
  ·rw [if_neg c,List.mem_append,List.mem_singleton,wZ]
   rw [not_or,Bool.not_eq_true]at c
   constructor
   ·rintro (⟨b,h1,h2,h3⟩|rfl)
    ·exact⟨b,by omega,h2,h3⟩
    ·exact⟨t,by omega,c.1,rfl⟩
   ·rintro ⟨b,h1,h2,h3⟩
    by_cases e:b=t
    ·subst e;exact .inr h3.symm
    ·exact .inl ⟨b,by omega,h2,h3⟩
theorem oH {p:ay} {s:State}: ∀t,(rts p s t).Nodup
 |0=>by simp [rts]
 |t+1=>by
  have e:rts p s (t+1)=if at' s.badBus t=true∨aY p s t∈rts p s t then rts p s t else rts p s t++[aY p s t]:=rfl
  rw [e]
  by_cases c:at' s.badBus t=true∨aY p s t∈rts p s t
  ·rw [if_pos c];exact oH t
  ·rw [if_neg c,List.nodup_append]
   refine⟨oH t,by simp,fun a ha b hb=> ?_⟩
   rw [List.mem_singleton]at hb
   subst hb
   exact fun e=>c (.inr (e ▸ ha))
theorem BQ {p:ay} {s:State}: ∀t,(rts p s t).length≤t
 |0=>by simp [rts]
 |t+1=>by
  have e:rts p s (t+1)=if at' s.badBus t=true∨aY p s t∈rts p s t then rts p s t else rts p s t++[aY p s t]:=rfl
  have:=BQ (p:=p) (s:=s) t
  rw [e];split
  ·omega
  ·rw [List.length_append,List.length_singleton];omega
theorem Sz {α:Type} (n:Nat) (f:Nat→α):tab (n+1) f=tab n f++[f n]:=by simp [tab,List.range_succ]
theorem uY {α:Type} {h:Int}: ∀{l m:List (Int × α)},bD aS h l=none→bD aS h (l++m)=bD aS h m
 |[],_,_=>rfl
 |(k,v)::l,m,hn=>by
  unfold bD at hn
  rw [List.cons_append]
  conv=>lhs;unfold bD
  cases e:aS h k with
  |true=>rw [e]at hn;simp at hn
  |false=>rw [e]at hn;simp only [cond_false]at hn ⊢;exact uY hn
theorem Az {α:Type} {h:Int} {v:α}: ∀{l m:List (Int × α)},bD aS h l=some v→bD aS h (l++m)=some v
 |[],_,hn=>by simp [bD]at hn
 |(k,w)::l,m,hn=>by
  unfold bD at hn
  rw [List.cons_append]
  conv=>lhs;unfold bD
  cases e:aS h k with
  |true=>rw [e]at hn;simpa using hn
  |false=>rw [e]at hn;simp only [cond_false]at hn ⊢;exact Az hn
theorem FD (r:List Int) (h:Int):Jt (r++[h])=Jt r++[(h,(r.length:Int))]:=by
 unfold Jt
 rw [List.length_append,List.length_singleton,Sz]
 have e1:(tab r.length fun j=>(at' (r++[h]) j,(j:Int)))=tab r.length fun j=>(at' r j,(j:Int)):=OU fun j hj=>by rw [iT hj]
 rw [e1,jE]
theorem oN: ∀{n:Nat} {r:List Int} {h:Int},r.length=n→h ∉ r→bD aS h (Jt r)=none
 |0,r,h,hl,_=>by
  have:r=[]:=List.eq_nil_of_length_eq_zero hl
  subst this;rfl
 |n+1,r,h,hl,hn=>by
  rcases List.eq_nil_or_concat r with rfl|⟨q,x,rfl⟩
  ·simp at hl
  ·rw [List.concat_eq_append]at*
   rw [List.mem_append,List.mem_singleton,not_or]at hn
   rw [FD,uY (oN (by simpa using hl) hn.1)]
   simp [bD,Md hn.2]
theorem EL: ∀{n:Nat} {r:List Int} {j:Nat},r.length=n→r.Nodup→j<r.length→bD aS (at' r j) (Jt r)=some (j:Int)
 |0,r,j,hl,_,hj=>by omega
 |n+1,r,j,hl,hn,hj=>by
  rcases List.eq_nil_or_concat r with rfl|⟨q,x,rfl⟩
  ·simp at hl
  ·rw [List.concat_eq_append]at*
   rw [List.nodup_append]at hn
   rw [List.length_append,List.length_singleton]at hj hl
   rw [FD]
   by_cases e:j=q.length
   ·subst e
    rw [jE,uY (oN rfl fun hm=>hn.2.2 _ hm _ (List.mem_singleton_self x) rfl)]
    simp [bD,FC]
   ·rw [iT (by omega),Az (EL (show q.length=n by omega) hn.1 (by omega))]
theorem RN {r:List Int} {h:Int} (hn:h ∉ r):fe aS h (r.length:Int) (Jt r)=Jt (r++[h]):=by
 rw [FD]
 have gen: ∀{l:List (Int × Int)} {v:Int},bD aS h l=none→fe aS h v l=l++[(h,v)]:=by
  intro l v
  induction l with
  |nil=>intro _;rfl
  |cons a l ih=>
   obtain⟨k',v'⟩:=a
   intro hg
   unfold bD at hg
   unfold fe
   cases e:aS h k' with
   |true=>rw [e]at hg;simp at hg
   |false=>rw [e]at hg;simp only [cond_false]at hg ⊢;rw [ih hg];rfl
 exact gen (oN rfl hn)
theorem CR {p:ay} {s:State} (t:Nat) (h:Int):yX p s (t+1) h=yX p s t h++(if(!at' s.badBus t && decide (aY p s t=h))=true then [(t:Int)]else []):=by
 unfold yX
 rw [List.range_succ,List.filter_append,List.map_append]
 congr 1
 by_cases c:(!at' s.badBus t && decide (aY p s t=h))=true
 ·simp only [List.filter_cons,List.filter_nil,c,if_true];rfl
 ·simp only [List.filter_cons,List.filter_nil,c,if_false];rfl
theorem Ib {p:ay} {s:State} (k:Nat) (h:Int):pY p s (k+1) h=pY p s k h++(if(oq p s k && decide (aY p s (at' p.sources k).bus.toNat=h))=true then [(k:Int)]else []):=by
 unfold pY
 rw [List.range_succ,List.filter_append,List.map_append]
 congr 1
 by_cases c:(oq p s k && decide (aY p s (at' p.sources k).bus.toNat=h))=true
 ·simp only [List.filter_cons,List.filter_nil,c,if_true];rfl
 ·simp only [List.filter_cons,List.filter_nil,c,if_false];rfl
theorem K8 {p:ay} {s:State} (t:Nat) (h:Int):(yX p s t h).length≤t:=by
 unfold yX;rw [List.length_map];exact Nat.le_trans (List.length_filter_le _ _) (by simp)
theorem Bw {p:ay} {s:State} (t:Nat) (h:Int):(pY p s t h).length≤t:=by
 unfold pY;rw [List.length_map];exact Nat.le_trans (List.length_filter_le _ _) (by simp)
theorem qR {α β:Type} [Inhabited α] [Inhabited β] {f:α→β} {l:List α} {j:Nat} (h:j<l.length):at' (l.map f) j=f (at' l j):=by
 rw [fG (by rw [List.length_map];exact h),fG h,List.getElem_map]
section
variable {p:ay} {s:State} (hp:VP p) (hs:VS p s)
include hp hs
theorem N9 {t:Nat} (ht:(t:Int)<p.buses):bN p s ⟨(qN p s p.links.length).1⟩ (dJ p s t 0,Jt (rts p s t),(t:Int))=some (.next (dJ p s (t+1) 0,Jt (rts p s (t+1)),((t+1:Nat):Int))):=by
 have h3:=hs.badBus;have hb:=hp.b
 have hrl:=BQ (p:=p) (s:=s) t
 have er:rts p s (t+1)=if at' s.badBus t=true∨aY p s t∈rts p s t then rts p s t else rts p s t++[aY p s t]:=rfl
 have ss0: ∀h,pY p s 0 h=[]:=fun h=>rfl
 have hil:(dJ p s t 0).length=(rts p s t).length:=by unfold dJ;rw [List.length_map]
 unfold bN
 dsimp only
 rw [Int.toNat_natCast,decide_eq_true ht,cond_true,aA (by omega),wr (by omega)]
 cases hbad:at' s.badBus t with
 |true=>
  rw [cond_true,er,if_pos (.inl hbad)]
  have:dJ p s (t+1) 0=dJ p s t 0:=by
   unfold dJ
   rw [er,if_pos (.inl hbad)]
   refine List.map_congr_left fun h _=> ?_
   rw [CR,hbad,if_neg (by simp),List.append_nil]
  rw [this];rfl
 |false=>
  rw [cond_false,Eh hp,Option.bind_some]
  have eh:(qN p s p.links.length).2 (t:Int)=aY p s t:=rfl
  rw [eh]
  by_cases hm:aY p s t∈rts p s t
  ·obtain⟨j,hj,e⟩:=kr hm
   have hg:=EL rfl (oH t) hj
   rw [e]at hg
   rw [hg,er,if_pos (.inr hm)]
   have hbl:=K8 (p:=p) (s:=s) t (aY p s t)
   have hat:at' (dJ p s t 0) j=⟨yX p s t (aY p s t),[]⟩:=by unfold dJ;rw [qR hj,e,ss0]
   rw [Option.isSome_some,Bool.not_true,cond_false,Option.getD_some,Int.toNat_natCast,hat,aA ⟨by omega,by simp;omega,by simp;omega⟩]
   refine congrArg (fun l=>some (dG.next (l,_,_))) ?_
   refine ET (by rw [List.length_set];unfold dJ;rw [List.length_map,List.length_map,er,if_pos (.inr hm)]) fun i hi=> ?_
   rw [List.length_set,hil]at hi
   have h2:at' (dJ p s (t+1) 0) i=⟨yX p s (t+1) (at' (rts p s t) i),[]⟩:=by
    have h3:rts p s (t+1)=rts p s t:=by rw [er,if_pos (.inr hm)]
    unfold dJ;rw [h3,qR hi,ss0]
   rw [h2,CR,hbad]
   by_cases e2:j=i
   ·subst e2
    rw [dR (by omega),e]
    simp
   ·rw [bZ e2]
    have:aY p s t≠at' (rts p s t) i:=fun q=>by
     have hn:=oH (p:=p) (s:=s) t
     rw [fG hi,←e,fG hj]at q
     exact e2 ((List.getElem_inj hn).1 q)
    rw [decide_eq_false this]
    unfold dJ;rw [qR hi,ss0];simp
  ·have hg:=oN (r:=rts p s t) rfl hm
   have er2:rts p s (t+1)=rts p s t++[aY p s t]:=by rw [er,if_neg (fun q=>q.elim (fun q=>by rw [hbad]at q;cases q) hm)]
   have hg2:bD aS (aY p s t) (fe aS (aY p s t) ((dJ p s t 0).length:Int) (Jt (rts p s t)))=some ((dJ p s t 0).length:Int):=iy _ _ _
   have hms:fe aS (aY p s t) ((dJ p s t 0).length:Int) (Jt (rts p s t))=Jt (rts p s (t+1)):=by rw [hil,er2];exact RN hm
   rw [hg]
   simp only [Option.isSome_none,Bool.not_false,cond_true,hg2,Option.getD_some,Int.toNat_natCast,jE]
   rw [aA ⟨by simp;omega,by simp;omega⟩,aA ⟨by simp;omega,by simp⟩,hms]
   refine congrArg (fun l=>some (dG.next (l,_,_))) ?_
   have hbs:yX p s t (aY p s t)=[]:=by
    unfold yX
    rw [List.map_eq_nil_iff,List.filter_eq_nil_iff]
    intro b hb2 hc
    simp only [Bool.and_eq_true,Bool.not_eq_true',decide_eq_true_eq]at hc
    exact hm (wZ.2 ⟨b,List.mem_range.1 hb2,hc.1,hc.2⟩)
   refine ET (by rw [List.length_set,List.length_append,List.length_singleton,hil];unfold dJ;rw [List.length_map,er2,List.length_append,List.length_singleton]) fun i hi=> ?_
   rw [List.length_set,List.length_append,List.length_singleton,hil]at hi
   have h2:at' (dJ p s (t+1) 0) i=⟨yX p s (t+1) (at' (rts p s (t+1)) i),[]⟩:=by
    unfold dJ;rw [qR (by rw [er2,List.length_append,List.length_singleton];exact hi),ss0]
   rw [h2,CR,hbad,er2]
   by_cases e2:i=(rts p s t).length
   ·subst e2
    rw [hil,dR (by rw [List.length_append,List.length_singleton,hil];omega),jE,hbs]
    simp
   ·rw [hil,bZ (Ne.symm e2),iT (by omega),iT (by omega)]
    have:aY p s t≠at' (rts p s t) i:=fun q=>hm (q ▸ at_mem (by omega))
    rw [decide_eq_false this]
    unfold dJ;rw [qR (by omega),ss0];simp
theorem Oz {k:Nat} (hk:k<p.sources.length):bM p s ⟨(qN p s p.links.length).1⟩ (Jt (rts p s p.buses.toNat)) (dJ p s p.buses.toNat k,(k:Int))=some (.next (dJ p s p.buses.toNat (k+1),((k+1:Nat):Int))):=by
 have hl:=(hp.src k hk).bus;have h1:=hs.on;have h2:=hs.badSource;have h3:=hs.badBus;have h4:=hp.sl;have hb:=hp.b
 have hrl:=BQ (p:=p) (s:=s) p.buses.toNat
 have hcb:(bif (bif (at' s.on_ k)then(!(at' s.badSource k))else false)then(!(at' s.badBus (((at' p.sources k).bus).toNat)))else false)=oq p s k:=by
  unfold oq
  cases at' s.on_ k<;>cases at' s.badSource k<;>cases at' s.badBus (at' p.sources k).bus.toNat<;>rfl
 unfold bM
 dsimp only
 rw [Int.toNat_natCast,decide_eq_true (show(k:Int)<(p.sources.length:Int) by omega),cond_true,aA (by omega),aA ⟨by omega,fun _=>by omega,fun _=>by omega⟩,hcb,wr (by omega)]
 cases hf:oq p s k with
 |false=>
  have:dJ p s p.buses.toNat (k+1)=dJ p s p.buses.toNat k:=by
   unfold dJ
   refine List.map_congr_left fun h _=> ?_
   rw [Ib,hf,if_neg (by simp),List.append_nil]
  rw [this];rfl
 |true=>
  have hbad:at' s.badBus (at' p.sources k).bus.toNat=false:=by
   unfold oq at hf
   revert hf
   cases at' s.badBus (at' p.sources k).bus.toNat<;>simp
  have hm:aY p s (at' p.sources k).bus.toNat∈rts p s p.buses.toNat:=wZ.2 ⟨_,by omega,hbad,rfl⟩
  obtain⟨j,hj,e⟩:=kr hm
  have hg:=EL rfl (oH p.buses.toNat) hj
  rw [e]at hg
  have eh:(qN p s p.links.length).2 (at' p.sources k).bus=aY p s (at' p.sources k).bus.toNat:=by unfold aY;rw [Int.toNat_of_nonneg (by omega)]
  have hil: ∀k,(dJ p s p.buses.toNat k).length=(rts p s p.buses.toNat).length:=fun k=>by unfold dJ;rw [List.length_map]
  have hat:at' (dJ p s p.buses.toNat k) j=⟨yX p s p.buses.toNat (aY p s (at' p.sources k).bus.toNat),pY p s k (aY p s (at' p.sources k).bus.toNat)⟩:=by unfold dJ;rw [qR hj,e]
  have hsl:=Bw (p:=p) (s:=s) k (aY p s (at' p.sources k).bus.toNat)
  rw [cond_true,Eh hp,Option.bind_some,eh,hg,Option.getD_some,Int.toNat_natCast,hat,aA ⟨by rw [hil];omega,by simp;omega,by simp;omega⟩]
  refine congrArg (fun l=>some (dG.next (l,_))) ?_
  refine ET (by rw [List.length_set,hil,hil]) fun i hi=> ?_
  rw [List.length_set,hil]at hi
  have h5:at' (dJ p s p.buses.toNat (k+1)) i=⟨yX p s p.buses.toNat (at' (rts p s p.buses.toNat) i),pY p s (k+1) (at' (rts p s p.buses.toNat) i)⟩:=by unfold dJ;rw [qR hi]
  rw [h5,Ib,hf]
  by_cases e2:j=i
  ·subst e2
   rw [dR (by rw [hil];omega),e]
   simp
  ·rw [bZ e2]
   have:aY p s (at' p.sources k).bus.toNat≠at' (rts p s p.buses.toNat) i:=fun q=>by
    have hn:=oH (p:=p) (s:=s) p.buses.toNat
    rw [fG hi,←e,fG hj]at q
    exact e2 ((List.getElem_inj hn).1 q)
   rw [decide_eq_false this]
   unfold dJ;rw [qR hi];simp
theorem Au:fq p s=some (dJ p s p.buses.toNat p.sources.length):=by
 have hb:=hp.b;have h4:=hp.sl
 unfold fq
 simp only [jQ,Option.bind_some]
 rw [Al hp hs,Option.bind_some]
 have e1:aW (bN p s ⟨(qN p s p.links.length).1⟩) FUEL (dJ p s 0 0,Jt (rts p s 0),((0:Nat):Int))=some (.brk (dJ p s p.buses.toNat 0,Jt (rts p s p.buses.toNat))):=by
  refine gF (fun t=>(dJ p s t 0,Jt (rts p s t),(t:Int))) p.buses.toNat _ (fuel_lt (by omega)) (fun t ht=>N9 hp hs (by omega)) ?_
  unfold bN
  dsimp only
  rw [decide_eq_false (by omega)];rfl
 have e1':aW (bN p s ⟨(qN p s p.links.length).1⟩) FUEL (([]:List aH),([]:List (Int × Int)),0)=_:=e1
 have e2:aW (bM p s ⟨(qN p s p.links.length).1⟩ (Jt (rts p s p.buses.toNat))) FUEL (dJ p s p.buses.toNat 0,((0:Nat):Int))=some (.brk (dJ p s p.buses.toNat p.sources.length)):=by
  refine gF (fun k=>(dJ p s p.buses.toNat k,(k:Int))) p.sources.length _ (fuel_lt (by omega)) (fun k hk=>Oz hp hs hk) ?_
  unfold bM
  dsimp only
  rw [decide_eq_false (by omega)];rfl
 have e2':aW (bM p s ⟨(qN p s p.links.length).1⟩ (Jt (rts p s p.buses.toNat))) FUEL (dJ p s p.buses.toNat 0,0)=_:=e2
 rw [e1']
 simp only [Option.bind_some]
 rw [e2'];rfl
end
def VY (s:State):List (List Bool):=[s.closed,s.locked,s.badLink,s.on_,s.badSource,s.earthed,s.badBus]
def Yo:List (List Bool)→Nat→List Bool→List Bool
 |[],_,l=>l
 |x::xs,lo,l=>Yo xs (lo+40) (cpL 280 l lo x (Nat.min x.length (280 - lo)))
def uV (s:State):List Bool:=Yo (VY s) 0 (List.replicate 280 false)
theorem R4 {a b:Int} (h:a<b):decide (a<b)=true:=decide_eq_true h
theorem zB {ρ:Type} {body:Int→Option (dG Int (Ex Unit ρ))} (n:Nat) (bad:Nat→Bool) (v:ρ) (hl:n≤9223372036854775807)
  (hb: ∀i:Nat,i<n→body i=some (bif bad i then .done (.ret v)else .next ((i:Int)+1))) (he:body n=some (.done (.brk ()))):
  aW body FUEL 0=some (bif (List.range n).any bad then .ret v else .brk ()):=by
 rw [tJ n bad (fun _=>v) hl hb he,←zk]
 cases(List.range n).find? bad<;>rfl
def mJ (p:ay) (x:aj):Bool:=
 decide (0≤x.index) && (bif decide (x.deed=1)||decide (x.deed=2)||decide (x.deed=5)||decide (x.deed=6)then decide (x.index<(p.links.length:Int)) && !decide ((at' p.links x.index.toNat).kind=1)
  else bif decide (x.deed=3)||decide (x.deed=4)then decide (x.index<p.buses)
  else(decide (x.deed=7)||decide (x.deed=8)) && decide (x.index<(p.sources.length:Int)))
theorem Dm (d:Int):d=1∨d=2∨d=3∨d=4∨d=5∨d=6∨d=7∨d=8∨(d≠1∧d≠2∧d≠3∧d≠4∧d≠5∧d≠6∧d≠7∧d≠8):=by omega
theorem HY (p:ay) (x:aj):kR p x=some (mJ p x):=by
 unfold kR mJ
 rcases Dm x.deed with h|h|h|h|h|h|h|h|⟨h1,h2,h3,h4,h5,h6,h7,h8⟩
 all_goals first|simp only [h]|simp only [h1,h2,h3,h4,h5,h6,h7,h8]
 all_goals by_cases g:0≤x.index<;>by_cases g2:x.index<(p.links.length:Int)<;>simp [g,g2,bn,gB]
 all_goals (try omega)
def Dw (l:List Int) (n:Int):Bool:=decide ((l.length:Int)≤24) && !l.any fun i=>decide (i<0)||decide (n≤i)
def yu (p:ay) (l:List aj):Bool:=decide ((l.length:Int)≤24) && !l.any fun x=> !mJ p x
def uH (p:ay) (t:Task):Bool:=Dw t.fed (p.racks.length:Int) && Dw t.crew p.buses && yu p t.allowed && yu p t.goal
theorem Nl (l:List Int) (n:Int) (hl:l.length≤9223372036854775807):jB l n=some (Dw l n):=by
 have hs:gG l n=some (l.any fun i=>decide (i<0)||decide (n≤i)):=by
  unfold gG ku
  rw [jT l (fun i=>decide (i<0)||decide (n≤i)) id hl (fun i hi=> ?_) ?_]
  ·rw [←jC];cases l.findIdx? fun i=>decide (i<0)||decide (n≤i)<;>rfl
  ·unfold jd;simp
  ·unfold jd mD
   rw [Int.toNat_natCast,wT]
   exact jD hi hl _ id _
 unfold jB Dw
 rw [hs]
 cases decide ((l.length:Int)≤24)<;>simp [gB]
theorem KA (p:ay) (l:List aj) (hl:l.length≤9223372036854775807):jv l p.buses p.sources p.links p.racks=some (yu p l):=by
 have hs:gy l p.buses p.sources p.links p.racks=some (l.any fun x=> !mJ p x):=by
  unfold gy kE
  rw [jT l (fun x=> !mJ p x) id hl (fun i hi=> ?_) ?_]
  ·rw [←jC];cases l.findIdx? fun x=> !mJ p x<;>rfl
  ·unfold jb;simp
  ·unfold jb mF
   rw [Int.toNat_natCast,HY]
   exact jD hi hl _ id _
 unfold jv yu
 rw [hs]
 cases decide ((l.length:Int)≤24)<;>simp [gB]
structure Bo (t:Task):Prop where
 f:t.fed.length≤8796093022208
 c:t.crew.length≤8796093022208
 a:t.allowed.length≤8796093022208
 g:t.goal.length≤8796093022208
theorem OL (p:ay) (t:Task) (ht:Bo t):ni p t=some (uH p t):=by
 have h1:=ht.f;have h2:=ht.c;have h3:=ht.a;have h4:=ht.g
 unfold ni uH
 rw [Nl _ _ (by omega),Nl _ _ (by omega),KA p _ (by omega),KA p _ (by omega)]
 cases Dw t.fed (p.racks.length:Int)<;>cases Dw t.crew p.buses<;>cases yu p t.allowed<;>cases yu p t.goal<;>simp [gB]
def holdB (s:State) (x:aj):Bool:=
 bif decide (x.deed=1)then !at' s.closed x.index.toNat else bif decide (x.deed=2)then at' s.closed x.index.toNat
 else bif decide (x.deed=3)then at' s.earthed x.index.toNat else bif decide (x.deed=4)then !at' s.earthed x.index.toNat
 else bif decide (x.deed=5)then at' s.locked x.index.toNat else bif decide (x.deed=6)then !at' s.locked x.index.toNat
 else bif decide (x.deed=7)then at' s.on_ x.index.toNat else !at' s.on_ x.index.toNat
theorem Ew {p:ay} {s:State} (hs:VS p s) {x:aj} (h:mJ p x=true):0≤x.index∧
  (x.deed=1∨x.deed=2∨x.deed=5∨x.deed=6→x.index<(p.links.length:Int)∧(at' p.links x.index.toNat).kind≠1)∧
  (x.deed=3∨x.deed=4→x.index<p.buses)∧(x.deed=7∨x.deed=8→x.index<(p.sources.length:Int))∧1≤x.deed∧x.deed≤8:=by
 unfold mJ at h
 rcases Dm x.deed with e|e|e|e|e|e|e|e|⟨h1,h2,h3,h4,h5,h6,h7,h8⟩
 all_goals first|simp [e]at h|simp [h1,h2,h3,h4,h5,h6,h7,h8]at h
 all_goals simp [e]
 all_goals omega
section
variable {p:ay} {s:State} {x:aj} (hp:VP p) (hs:VS p s) (hx:mJ p x=true)
include hs hx
theorem Lv:0≤x.index∧(x.deed=1∨x.deed=2→x.index<(s.closed.length:Int))∧(x.deed=5∨x.deed=6→x.index<(s.locked.length:Int))∧
  (x.deed=3∨x.deed=4→x.index<(s.earthed.length:Int))∧(x.deed=7∨x.deed=8→x.index<(s.on_.length:Int))∧1≤x.deed∧x.deed≤8:=by
 obtain⟨h0,h1,h2,h3,h4,h5⟩:=Ew hs hx
 have l1:=hs.closed;have l2:=hs.locked;have l3:=hs.earthed;have l4:=hs.on
 refine⟨h0,fun e=> ?_,fun e=> ?_,fun e=> ?_,fun e=> ?_,h4,h5⟩
 ·rw [l1];exact(h1 (by omega)).1
 ·rw [l2];exact(h1 (by omega)).1
 ·have:=h2 (by omega);omega
 ·rw [l4];exact h3 (by omega)
theorem Q5:oU s x=some (holdB s x):=by
 obtain⟨h0,h1,h2,h3,h4,h5,h6⟩:=Lv hs hx
 unfold oU lX mo mh mr mg holdB
 rcases Dm x.deed with e|e|e|e|e|e|e|e|e
 ·simp [e,aS,aA (⟨h0,h1 (by omega)⟩:0≤x.index∧x.index<(s.closed.length:Int))]
 ·simp [e,aS,aA (⟨h0,h1 (by omega)⟩:0≤x.index∧x.index<(s.closed.length:Int))]
 ·simp [e,aS,aA (⟨h0,h3 (by omega)⟩:0≤x.index∧x.index<(s.earthed.length:Int))]
 ·simp [e,aS,aA (⟨h0,h3 (by omega)⟩:0≤x.index∧x.index<(s.earthed.length:Int))]
 ·simp [e,aS,aA (⟨h0,h2 (by omega)⟩:0≤x.index∧x.index<(s.locked.length:Int))]
 ·simp [e,aS,aA (⟨h0,h2 (by omega)⟩:0≤x.index∧x.index<(s.locked.length:Int))]
 ·simp [e,aS,aA (⟨h0,h4 (by omega)⟩:0≤x.index∧x.index<(s.on_.length:Int))]
 ·simp [e,aS,aA (⟨h0,h4 (by omega)⟩:0≤x.index∧x.index<(s.on_.length:Int))]
 ·omega
end
def E9 (s:State) (x:aj):State:=
 bif decide (x.deed=1)||decide (x.deed=2)then⟨s.closed.set x.index.toNat (decide (x.deed=2)),s.locked,s.badLink,s.on_,s.badSource,s.earthed,s.badBus⟩
 else bif decide (x.deed=3)||decide (x.deed=4)then⟨s.closed,s.locked,s.badLink,s.on_,s.badSource,s.earthed.set x.index.toNat (decide (x.deed=3)),s.badBus⟩
 else bif decide (x.deed=5)||decide (x.deed=6)then⟨s.closed,s.locked.set x.index.toNat (decide (x.deed=5)),s.badLink,s.on_,s.badSource,s.earthed,s.badBus⟩
 else⟨s.closed,s.locked,s.badLink,s.on_.set x.index.toNat (decide (x.deed=7)),s.badSource,s.earthed,s.badBus⟩
theorem kN {l:List Bool} (h:l.length≤1000000000):au l=some l:=by
 unfold au kW
 simp only [Bool.not_true,cond_false,List.length_nil,List.nil_append]
 rw [aA (by omega)]
theorem OV (s:State) (h:QM s):nR s=some s:=by
 obtain⟨h0,h1,h2,h3,h4,h5,h6⟩:=h
 unfold nR
 rw [kN h0,kN h1,kN h2,kN h3,kN h4,kN h5,kN h6]
 simp [bn]
section
variable {p:ay} {s:State} {x:aj} (hp:VP p) (hs:VS p s) (hx:mJ p x=true)
include hp hs hx
theorem Nj:lF s x=some (E9 s x):=by
 obtain⟨h0,h1,h2,h3,h4,h5,h6⟩:=Lv hs hx
 obtain⟨k0,k1,k2,k3,k4,k5,k6⟩:=VS.small hp hs
 unfold lF lX jV jU jF jJ E9
 simp only [kN k0,kN k1,kN k2,kN k3,kN k4,kN k5,kN k6,Option.bind_some]
 have a0: ∀{α:Type} (k:Option α),bn ((0:Int)≤0∧(0:Int)<(7:Int)) k=k:=fun k=>aA (by decide) k
 have a1: ∀{α:Type} (k:Option α),bn ((0:Int)≤1∧(1:Int)<(7:Int)) k=k:=fun k=>aA (by decide) k
 have a2: ∀{α:Type} (k:Option α),bn ((0:Int)≤2∧(2:Int)<(7:Int)) k=k:=fun k=>aA (by decide) k
 have a3: ∀{α:Type} (k:Option α),bn ((0:Int)≤3∧(3:Int)<(7:Int)) k=k:=fun k=>aA (by decide) k
 have a4: ∀{α:Type} (k:Option α),bn ((0:Int)≤4∧(4:Int)<(7:Int)) k=k:=fun k=>aA (by decide) k
 have a5: ∀{α:Type} (k:Option α),bn ((0:Int)≤5∧(5:Int)<(7:Int)) k=k:=fun k=>aA (by decide) k
 have a6: ∀{α:Type} (k:Option α),bn ((0:Int)≤6∧(6:Int)<(7:Int)) k=k:=fun k=>aA (by decide) k
 simp only [a0,a1,a2,a3,a4,a5,a6]
 rcases Dm x.deed with e|e|e|e|e|e|e|e|e
 ·simp [e,aS,aA (⟨h0,h1 (by omega)⟩:0≤x.index∧x.index<(s.closed.length:Int))]
 ·simp [e,aS,aA (⟨h0,h1 (by omega)⟩:0≤x.index∧x.index<(s.closed.length:Int))]
 ·simp [e,aS,aA (⟨h0,h3 (by omega)⟩:0≤x.index∧x.index<(s.earthed.length:Int))]
 ·simp [e,aS,aA (⟨h0,h3 (by omega)⟩:0≤x.index∧x.index<(s.earthed.length:Int))]
 ·simp [e,aS,aA (⟨h0,h2 (by omega)⟩:0≤x.index∧x.index<(s.locked.length:Int))]
 ·simp [e,aS,aA (⟨h0,h2 (by omega)⟩:0≤x.index∧x.index<(s.locked.length:Int))]
 ·simp [e,aS,aA (⟨h0,h4 (by omega)⟩:0≤x.index∧x.index<(s.on_.length:Int))]
 ·simp [e,aS,aA (⟨h0,h4 (by omega)⟩:0≤x.index∧x.index<(s.on_.length:Int))]
 ·omega
theorem VS.ZO:VS p (E9 s x):=by
 obtain⟨h0,h1,h2,h3,h4,h5⟩:=Ew hs hx
 obtain⟨c1,c2,c3,c4,c5,c6,c7,c8⟩:=hs
 unfold E9
 rcases Dm x.deed with e|e|e|e|e|e|e|e|e
 ·have:=h1 (by omega)
  simp only [e,decide_true,Bool.true_or,cond_true]
  refine⟨by simp [c1],c2,c3,c4,c5,c6,c7,fun i hi hk=> ?_⟩
  have hne:x.index.toNat≠i:=fun q=>this.2 (q ▸ hk)
  rw [bZ hne];exact c8 i hi hk
 ·have:=h1 (by omega)
  simp only [e,decide_true,Bool.or_true,cond_true]
  refine⟨by simp [c1],c2,c3,c4,c5,c6,c7,fun i hi hk=> ?_⟩
  have hne:x.index.toNat≠i:=fun q=>this.2 (q ▸ hk)
  rw [bZ hne];exact c8 i hi hk
 ·simp [e];exact⟨c1,c2,c3,c4,c5,by simp [c6],c7,c8⟩
 ·simp [e];exact⟨c1,c2,c3,c4,c5,by simp [c6],c7,c8⟩
 ·have:=h1 (by omega)
  simp [e]
  refine⟨c1,by simp [c2],c3,c4,c5,c6,c7,fun i hi hk=> ?_⟩
  have hne:x.index.toNat≠i:=fun q=>this.2 (q ▸ hk)
  rw [bZ hne];exact c8 i hi hk
 ·have:=h1 (by omega)
  simp [e]
  refine⟨c1,by simp [c2],c3,c4,c5,c6,c7,fun i hi hk=> ?_⟩
  have hne:x.index.toNat≠i:=fun q=>this.2 (q ▸ hk)
  rw [bZ hne];exact c8 i hi hk
 ·simp [e];exact⟨c1,c2,c3,by simp [c4],c5,c6,c7,c8⟩
 ·simp [e];exact⟨c1,c2,c3,by simp [c4],c5,c6,c7,c8⟩
 ·omega
end
def o8 {α:Type} (f:Nat→List α):Nat→List α
 |0=>[]
 |n+1=>o8 f n++f n
theorem qZ {α:Type} {f:Nat→List α} {x:α}: ∀{n:Nat},x∈o8 f n↔ ∃i,i<n∧x∈f i
 |0=>by simp [o8]
 |n+1=>by
  rw [o8,List.mem_append,qZ]
  constructor
  ·rintro (⟨i,h,g⟩|g)
   ·exact⟨i,by omega,g⟩
   ·exact⟨n,by omega,g⟩
  ·rintro ⟨i,h,g⟩
   by_cases e:i=n
   ·subst e;exact .inr g
   ·exact .inl ⟨i,by omega,g⟩
theorem o5 {α:Type} {f:Nat→List α} {m:Nat}: ∀{n:Nat},(∀i,i<n→(f i).length≤m)→(o8 f n).length≤n*m
 |0,_=>by simp [o8]
 |n+1,h=>by
  have h1:=o5 (n:=n) fun i hi=>h i (by omega)
  have h2:=h n (by omega)
  rw [o8,List.length_append,Nat.add_mul,Nat.one_mul];omega
theorem AO {α ρ:Type} {body:List α × Int→Option (dG (List α × Int) (Ex (List α) ρ))} (k n:Nat) (f:Nat→List α) (o0:List α) (hn:n≤1000000000)
  (hb: ∀i,i<n→body (o0++o8 f i,((k+i:Nat):Int))=some (.next (o0++o8 f (i+1),((k+(i+1):Nat):Int)))) (he:body (o0++o8 f n,((k+n:Nat):Int))=some (.done (.brk (o0++o8 f n)))):
  aW body FUEL (o0,(k:Int))=some (.brk (o0++o8 f n)):=by
 have:=gF (N:=FUEL) (body:=body) (fun i=>(o0++o8 f i,((k+i:Nat):Int))) n (.brk (o0++o8 f n)) (fuel_lt (by omega)) hb he
 simpa [o8]using this
def YJ (a b:Source):Bool:=decide (a.sync=0)|| !decide (a.sync=b.sync)
def Qe (p:ay) (s:State):Prop:= ∃i k,i<k∧k<p.sources.length∧oq p s i=true∧oq p s k=true∧(∃l,Wk p s (at' p.sources i).bus.toNat l (at' p.sources k).bus.toNat)∧YJ (at' p.sources i) (at' p.sources k)=true
def LA (p:ay) (a b:Int):List aO:=if YJ (at' p.sources a.toNat) (at' p.sources b.toNat)=true then [⟨a,b⟩]else []
theorem Iu (p:ay) (a b:Int):(LA p a b).length≤1:=by unfold LA;split<;>simp
def vk (p:ay) (l:List Int):List aO:=o8 (fun i=>o8 (fun j=>LA p (at' l i) (at' (l.drop (i+1)) j)) (l.length - (i+1))) l.length
theorem FN (p:ay) (l:List Int) (hl:l.length≤8):(vk p l).length≤64:=by
 have h1: ∀i,i<l.length→(o8 (fun j=>LA p (at' l i) (at' (l.drop (i+1)) j)) (l.length - (i+1))).length≤8:=fun i hi=>by
  have:=o5 (f:=fun j=>LA p (at' l i) (at' (l.drop (i+1)) j)) (n:=l.length - (i+1)) (m:=1) fun j _=>Iu _ _ _
  omega
 have:=o5 h1
 unfold vk
 have h2:l.length*8≤8*8:=Nat.mul_le_mul_right 8 hl
 omega
section
variable {p:ay} {s:State} (hp:VP p) (hs:VS p s)
include hp
theorem QK {isl:List aH} {t i:Nat} (ht:t<isl.length) (hl:(at' isl t).sources.length≤8) (hm: ∀x∈(at' isl t).sources,0≤x∧x<(p.sources.length:Int)) (hi:i<(at' isl t).sources.length) (o:List aO) (ho:o.length≤100000):
  aW (jK p isl (t:Int) (i:Int)) FUEL (o,0)=some (.brk (o++o8 (fun j=>LA p (at' (at' isl t).sources i) (at' ((at' isl t).sources.drop (i+1)) j)) ((at' isl t).sources.length - (i+1)))):=by
 have hsl:=hp.sl
 generalize hL:(at' isl t).sources=l at*
 have hw:(IntKind.wrap .i64 ((i:Int)+1)).toNat=i+1:=by rw [wr (by omega)];omega
 refine AO 0 (l.length - (i+1)) (fun j=>LA p (at' l i) (at' (l.drop (i+1)) j)) o (by omega) (fun j hj=> ?_) ?_
 ·have hA:=o5 (f:=fun j=>LA p (at' l i) (at' (l.drop (i+1)) j)) (n:=j) (m:=1) fun j _=>Iu _ _ _
  unfold jK
  simp only [Int.toNat_natCast,hL,hw,Nat.zero_add]
  have hd:(l.drop (i+1)).length=l.length - (i+1):=List.length_drop
  rw [R4 (by omega),cond_true,aA (by rw [hd];omega)]
  have hx1:=hm _ (at_mem hi)
  have hjd:j<(l.drop (i+1)).length:=by omega
  have hx2:=hm _ (List.mem_of_mem_drop (at_mem hjd))
  rw [aA ⟨hx1,fun _=>hx1,fun _=>hx2⟩,wT,wr (x:=(j:Int)+1) (by omega)]
  show(bif YJ (at' p.sources (at' l i).toNat) (at' p.sources (at' (l.drop (i+1)) j).toNat)then _ else _)=_
  rw [o8]
  unfold LA
  cases hc:YJ (at' p.sources (at' l i).toNat) (at' p.sources (at' (l.drop (i+1)) j).toNat)with
  |true=>
   rw [cond_true,if_pos rfl,aA ⟨by simp only [List.length_append,List.length_singleton];unfold LA at hA;omega,by simp only [List.length_append,List.length_singleton];unfold LA at hA;omega⟩,List.append_assoc]
   rfl
  |false=>
   rw [cond_false,if_neg (by simp),List.append_nil]
   rfl
 ·unfold jK
  simp only [Int.toNat_natCast,hL,hw,Nat.zero_add]
  have:decide (((l.length - (i+1):Nat):Int)<((l.length - (i+1):Nat):Int))=false:=decide_eq_false (by omega)
  rw [this,cond_false]
theorem RQ {isl:List aH} {t:Nat} (ht:t<isl.length) (hl:(at' isl t).sources.length≤8) (hm: ∀x∈(at' isl t).sources,0≤x∧x<(p.sources.length:Int)) (o:List aO) (ho:o.length≤90000):
  aW (jS p isl (t:Int)) FUEL (o,0)=some (.brk (o++vk p (at' isl t).sources)):=by
 have hsl:=hp.sl
 refine AO 0 (at' isl t).sources.length (fun i=>o8 (fun j=>LA p (at' (at' isl t).sources i) (at' ((at' isl t).sources.drop (i+1)) j)) ((at' isl t).sources.length - (i+1))) o (by omega) (fun i hi=> ?_) ?_
 ·have hA:=o5 (f:=fun i=>o8 (fun j=>LA p (at' (at' isl t).sources i) (at' ((at' isl t).sources.drop (i+1)) j)) ((at' isl t).sources.length - (i+1))) (n:=i) (m:=8) fun i' _=>by
   have:=o5 (f:=fun j=>LA p (at' (at' isl t).sources i') (at' ((at' isl t).sources.drop (i'+1)) j)) (n:=(at' isl t).sources.length - (i'+1)) (m:=1) fun j _=>Iu _ _ _
   omega
  have h8:i*8≤8*8:=Nat.mul_le_mul_right 8 (by omega)
  unfold jS
  simp only [Int.toNat_natCast,Nat.zero_add]
  rw [R4 (by omega),cond_true,aA (by omega),wr (by omega),aA (by omega),QK hp ht hl hm hi _ (by rw [List.length_append];omega),Option.bind_some]
  rw [o8,List.append_assoc]
  rfl
 ·unfold jS
  simp only [Int.toNat_natCast,Nat.zero_add]
  have:decide (((at' isl t).sources.length:Int)<((at' isl t).sources.length:Int))=false:=decide_eq_false (by omega)
  rw [this,cond_false]
theorem RL {isl:List aH} (hn:isl.length≤24) (hl: ∀t,t<isl.length→(at' isl t).sources.length≤8) (hm: ∀t,t<isl.length→ ∀x∈(at' isl t).sources,0≤x∧x<(p.sources.length:Int)):
  aW (iw p isl) FUEL ([],0)=some (.brk (o8 (fun t=>vk p (at' isl t).sources) isl.length)):=by
 have:=AO (body:=iw p isl) 0 isl.length (fun t=>vk p (at' isl t).sources) [] (by omega) (fun t ht=> ?_) ?_
 ·simpa using this
 ·have hA:=o5 (f:=fun t=>vk p (at' isl t).sources) (n:=t) (m:=64) fun i hi=>FN _ _ (hl i (by omega))
  have h8:t*64≤24*64:=Nat.mul_le_mul_right 64 (by omega)
  unfold iw
  simp only [Int.toNat_natCast,Nat.zero_add]
  rw [R4 (by omega),cond_true,aA (by omega),RQ hp ht (hl t ht) (hm t ht) _ (by rw [List.length_append];simp;omega),Option.bind_some,wr (by omega),o8,List.append_assoc]
  rfl
 ·unfold iw
  simp only [Int.toNat_natCast,Nat.zero_add]
  have:decide ((isl.length:Int)<(isl.length:Int))=false:=decide_eq_false (by omega)
  rw [this,cond_false]
include hs
theorem L8: ∃l,mq p s=some (l,0)∧(l≠[]↔Qe p s):=by
 have hb:=hp.b;have hsl:=hp.sl
 have hrl:=BQ (p:=p) (s:=s) p.buses.toNat
 have hlen:(dJ p s p.buses.toNat p.sources.length).length=(rts p s p.buses.toNat).length:=by simp [dJ]
 have hat: ∀t,t<(rts p s p.buses.toNat).length→(at' (dJ p s p.buses.toNat p.sources.length) t).sources=pY p s p.sources.length (at' (rts p s p.buses.toNat) t):=fun t ht=>by
  unfold dJ;rw [qR ht]
 have hss: ∀h x,x∈pY p s p.sources.length h↔ ∃i:Nat,x=(i:Int)∧i<p.sources.length∧oq p s i=true∧aY p s (at' p.sources i).bus.toNat=h:=by
  intro h x
  unfold pY
  rw [List.mem_map]
  constructor
  ·rintro ⟨i,hi,rfl⟩
   rw [List.mem_filter,List.mem_range,Bool.and_eq_true,decide_eq_true_eq]at hi
   exact⟨i,rfl,hi.1,hi.2.1,hi.2.2⟩
  ·rintro ⟨i,rfl,h1,h2,h3⟩
   exact⟨i,List.mem_filter.2 ⟨List.mem_range.2 h1,by rw [h2,decide_eq_true h3];rfl⟩,rfl⟩
 have hsorted: ∀h,(pY p s p.sources.length h).Pairwise (· < ·):=by
  intro h
  unfold pY
  rw [List.pairwise_map]
  exact(List.pairwise_lt_range.filter _).imp fun hab=>Int.ofNat_lt.2 hab
 have hl8: ∀t,t<(dJ p s p.buses.toNat p.sources.length).length→(at' (dJ p s p.buses.toNat p.sources.length) t).sources.length≤8:=fun t ht=>by
  rw [hat t (by omega)];have:=Bw (p:=p) (s:=s) p.sources.length (at' (rts p s p.buses.toNat) t);omega
 have hmm: ∀t,t<(dJ p s p.buses.toNat p.sources.length).length→ ∀x∈(at' (dJ p s p.buses.toNat p.sources.length) t).sources,0≤x∧x<(p.sources.length:Int):=fun t ht x hx=>by
  rw [hat t (by omega),hss]at hx;obtain⟨i,rfl,h1,_⟩:=hx;omega
 generalize hout:o8 (fun t=>vk p (at' (dJ p s p.buses.toNat p.sources.length) t).sources) (dJ p s p.buses.toNat p.sources.length).length=out
 have hol:out.length≤24*64:=by
  have hA:=o5 (f:=fun t=>vk p (at' (dJ p s p.buses.toNat p.sources.length) t).sources) (n:=(dJ p s p.buses.toNat p.sources.length).length) (m:=64) fun i hi=>FN _ _ (hl8 i hi)
  rw [hout]at hA
  have:(dJ p s p.buses.toNat p.sources.length).length*64≤24*64:=Nat.mul_le_mul_right 64 (by omega)
  omega
 have hlm:(out.mergeSort fun x y=> !decide (bI y x<0)).length=out.length:=List.length_mergeSort _
 refine⟨out.mergeSort fun x y=> !decide (bI y x<0), ?_, ?_⟩
 ·unfold mq
  have h0:oF p s=0:=lg.mpr ⟨hp,hs⟩
  rw [kg p s (VP.small hp),h0,Option.bind_some]
  simp only [decide_true,Bool.not_true,cond_false]
  rw [Au hp hs,Option.bind_some,RL hp (by omega) hl8 hmm]
  simp only [Option.bind_some]
  rw [hout]
  have hsf:iO out=some (out.mergeSort fun x y=> !decide (bI y x<0)):=by
   clear hlm hout
   cases out with
   |nil=>simp [iO]
   |cons a l=>unfold iO;simp only;rw [decide_eq_true (by omega)];rfl
  rw [hsf,Option.bind_some,aA hlm.symm]
 ·have hne:(out.mergeSort fun x y=> !decide (bI y x<0))≠[]↔ ∃x,x∈out:=by
   rw [←List.length_pos_iff,hlm,List.length_pos_iff_exists_mem]
  rw [hne]
  constructor
  ·rintro ⟨x,hx⟩
   rw [←hout,qZ]at hx
   obtain⟨t,ht,hx⟩:=hx
   have ht':t<(rts p s p.buses.toNat).length:=by omega
   rw [hat t ht']at hx
   unfold vk at hx
   rw [qZ]at hx
   obtain⟨i,hi,hx⟩:=hx
   rw [qZ]at hx
   obtain⟨j,hj,hx⟩:=hx
   unfold LA at hx
   split at hx
   ·rename_i hc
    have hjd:j<((pY p s p.sources.length (at' (rts p s p.buses.toNat) t)).drop (i+1)).length:=by rw [List.length_drop];exact hj
    rw [Ej]at hc
    have hi2:j+(i+1)<(pY p s p.sources.length (at' (rts p s p.buses.toNat) t)).length:=by omega
    obtain⟨a,ea,ha1,ha2,ha3⟩:=(hss _ _).1 (at_mem hi)
    obtain⟨b,eb,hb1,hb2,hb3⟩:=(hss _ _).1 (at_mem hi2)
    have hlt:at' (pY p s p.sources.length (at' (rts p s p.buses.toNat) t)) i<at' (pY p s p.sources.length (at' (rts p s p.buses.toNat) t)) (j+(i+1)):=by
     rw [fG hi,fG hi2]
     exact List.pairwise_iff_getElem.1 (hsorted _) i (j+(i+1)) hi hi2 (by omega)
    rw [ea,eb]at hc hlt
    refine⟨a,b,by omega,hb1,ha2,hb2, ?_,by simpa using hc⟩
    have hA:=(hp.src a ha1).bus;have hB:=(hp.src b hb1).bus
    exact(sK hp (by omega) (by omega)).1 (ha3.trans hb3.symm)
   ·cases hx
  ·rintro ⟨a,b,hab,hb1,ha2,hb2,hw,hc⟩
   have ha1:a<p.sources.length:=by omega
   have hA:=(hp.src a ha1).bus;have hB:=(hp.src b hb1).bus
   have hh:=(sK hp (u:=(at' p.sources a).bus.toNat) (v:=(at' p.sources b).bus.toNat) (by omega) (by omega)).2 hw
   have hfa:at' s.badBus (at' p.sources a).bus.toNat=false:=by
    unfold oq at ha2;simp only [Bool.and_eq_true,Bool.not_eq_true']at ha2;exact ha2.2
   have hr:aY p s (at' p.sources a).bus.toNat∈rts p s p.buses.toNat:=wZ.2 ⟨_,by omega,hfa,rfl⟩
   obtain⟨t,ht,et⟩:=kr hr
   have m1:((a:Nat):Int)∈pY p s p.sources.length (at' (rts p s p.buses.toNat) t):=(hss _ _).2 ⟨a,rfl,ha1,ha2,et.symm⟩
   have m2:((b:Nat):Int)∈pY p s p.sources.length (at' (rts p s p.buses.toNat) t):=(hss _ _).2 ⟨b,rfl,hb1,hb2,by rw [et];exact hh.symm⟩
   obtain⟨i,hi,ei⟩:=kr m1
   obtain⟨k,hk,ek⟩:=kr m2
   have hik:i<k:=by
    rcases Nat.lt_trichotomy i k with h|h|h
    ·exact h
    ·subst h;rw [ei]at ek;omega
    ·have:=List.pairwise_iff_getElem.1 (hsorted (at' (rts p s p.buses.toNat) t)) k i hk hi h
     rw [←fG hk,←fG hi,ei,ek]at this;omega
   refine⟨⟨a,b⟩, ?_⟩
   rw [←hout,qZ]
   refine⟨t,by omega, ?_⟩
   rw [hat t ht]
   unfold vk
   rw [qZ]
   refine⟨i,hi,qZ.2 ⟨k - (i+1),by omega, ?_⟩⟩
   rw [Ej,show k - (i+1)+(i+1)=k by omega,ei,ek]
   unfold LA
   rw [if_pos (by simpa using hc)]
   exact List.mem_singleton.2 rfl
end
section
variable {p:ay} {s:State} (hp:VP p) (hs:VS p s)
include hp hs
end
theorem contains_eq (l:List Int) (v:Int) (hl:l.length≤9223372036854775807):iJ l v=some (decide (v∈l)):=by
 unfold iJ rZ
 rw [jT l (fun x=>decide (v=x)) id hl (fun i hi=> ?_) ?_]
 ·have:=jC l fun x=>decide (v=x)
  have e:l.any (fun x=>decide (v=x))=decide (v∈l):=by
   rw [Bool.eq_iff_iff,List.any_eq_true,decide_eq_true_iff]
   exact⟨fun⟨x,h,g⟩=>by rw [of_decide_eq_true g];exact h,fun h=> ⟨v,h,by simp⟩⟩
  rw [←e,←this];cases l.findIdx? fun x=>decide (v=x)<;>rfl
 ·unfold nD;simp
 ·unfold nD
  rw [Int.toNat_natCast,R4 (by omega),cond_true,aA (by omega),wr (by omega)]
  exact vR _ _ _
def TU (p:ay) (s:State) (crew:List Int) (b:Int) (i:Nat):Bool:=
 (decide ((at' p.links i).a=b)||decide ((at' p.links i).b=b)) && !decide ((at' p.links i).a+(at' p.links i).b - b∈crew) && (decide ((at' p.links i).kind=1)||at' s.closed i|| !at' s.locked i)
def Tn (p:ay) (s:State) (b:Int) (k:Nat):Bool:=decide ((at' p.sources k).bus=b) && at' s.on_ k
def MJ (p:ay) (s:State) (crew:List Int) (b:Int):Bool:=
 !at' s.earthed b.toNat||(List.range p.sources.length).any (Tn p s b)||(List.range p.links.length).any (TU p s crew b)
section
variable {p:ay} {s:State} (hp:VP p) (hs:VS p s)
include hp hs
theorem Sq {t:Task} (ht:t.crew.length≤1000000) {b:Int} (hb:0≤b∧b<p.buses):qp p s t b=some (!MJ p s t.crew b):=by
 have hsl:=hp.sl;have hll:=hp.ll;have l1:=hs.closed;have l2:=hs.locked;have l3:=hs.earthed;have l4:=hs.on;have hpb:=hp.b
 unfold qp MJ
 rw [aA (by omega)]
 cases he:at' s.earthed b.toNat with
 |false=>simp
 |true=>
  simp only [Bool.not_true,cond_false,Bool.false_or]
  rw [zB p.sources.length (Tn p s b) false (by omega) (fun k hk=> ?_) (by unfold pQ;simp)]
  ·cases hA:(List.range p.sources.length).any (Tn p s b)with
   |true=>simp
   |false=>
    simp only [cond_false,Option.bind_some,Bool.false_or]
    rw [zB p.links.length (TU p s t.crew b) false (by omega) (fun i hi=> ?_) (by unfold p8;simp)]
    ·cases(List.range p.links.length).any (TU p s t.crew b)<;>rfl
    ·have hl:=hp.lnk i hi
     have ha:=hl.a;have hbb:=hl.b
     unfold p8 TU
     rw [R4 (by omega),cond_true,aA (by omega)]
     simp only [Int.toNat_natCast]
     rw [wr (x:=(i:Int)+1) (by omega),show IntKind.wrap .i64 (IntKind.wrap .i64 ((at' p.links i).a+(at' p.links i).b) - b)=(at' p.links i).a+(at' p.links i).b - b by rw [wr (x:=(at' p.links i).a+(at' p.links i).b) (by omega),wr (by omega)],contains_eq _ _ (by omega)]
     by_cases c1:(at' p.links i).a=b
     ·simp only [c1,decide_true,Bool.not_true,cond_false,gB,Bool.and_true,beq_self_eq_true,cond_true,Option.bind_some,Bool.true_or,Bool.true_and]
      cases hc:decide (b+(at' p.links i).b - b∈t.crew)with
      |true=>simp
      |false=>
       simp only [cond_false,Bool.not_false,Bool.true_and]
       rw [aA ⟨fun _=>by omega,fun _=>by omega⟩,wT,wT]
       exact vR _ _ _
     ·by_cases c2:(at' p.links i).b=b
      ·simp only [c1,c2,decide_true,decide_false,Bool.not_true,Bool.not_false,cond_false,cond_true,gB,Bool.and_true,beq_self_eq_true,Option.bind_some,Bool.or_true,Bool.true_and]
       cases hc:decide ((at' p.links i).a+b - b∈t.crew)with
       |true=>simp
       |false=>
        simp only [cond_false,Bool.not_false,Bool.true_and]
        rw [aA ⟨fun _=>by omega,fun _=>by omega⟩,wT,wT]
        exact vR _ _ _
      ·simp [c1,c2,gB]
  ·unfold pQ Tn
   rw [R4 (by omega),cond_true,aA (by omega),aA (fun _=>by omega),Int.toNat_natCast,BI,wr (by omega)]
   exact vR _ _ _
end
def yF (p:ay) (s:State):List Bool:=((gT p s).getD ([],0)).1
noncomputable def NH (p:ay) (s:State):Bool:= @decide (Qe p s) (Classical.propDecidable _)
def P6 (p:ay) (s:State) (b:Nat):Bool:=at' (yF p s) b && at' s.earthed b
def KO (p:ay) (s:State) (r:Int):Bool:= !(MI p (yF p s) r.toNat).e0 && !(MI p (yF p s) r.toNat).e1
noncomputable def MV (p:ay) (s:State) (t:Task):Int:=
 bif (List.range p.buses.toNat).any (P6 p s)then 40 else bif NH p s then 41 else bif t.fed.any (KO p s)then 42 else bif t.crew.any (MJ p s t.crew)then 45 else 0
noncomputable def IV (p:ay) (s:State) (t:Task):Int:=if oF p s≠0 then oF p s else if uH p t then MV p s t else 1
theorem GV {l:List Int} {n:Int} (h:Dw l n=true):l.length≤24∧ ∀x∈l,0≤x∧x<n:=by
 unfold Dw at h
 rw [Bool.and_eq_true,decide_eq_true_iff,Bool.not_eq_true',List.any_eq_false]at h
 refine⟨by omega,fun x hx=> ?_⟩
 have:=h.2 x hx
 simp at this;omega
theorem J3 {p:ay} {t:Task} (h:uH p t=true):(t.fed.length≤24∧ ∀x∈t.fed,0≤x∧x<(p.racks.length:Int))∧(t.crew.length≤24∧ ∀x∈t.crew,0≤x∧x<p.buses)∧
  (t.allowed.length≤24∧ ∀x∈t.allowed,mJ p x=true)∧(t.goal.length≤24∧ ∀x∈t.goal,mJ p x=true):=by
 unfold uH at h
 simp only [Bool.and_eq_true]at h
 have st: ∀l,yu p l=true→l.length≤24∧ ∀x∈l,mJ p x=true:=fun l h=>by
  unfold yu at h
  rw [Bool.and_eq_true,decide_eq_true_iff,Bool.not_eq_true',List.any_eq_false]at h
  exact⟨by omega,fun x hx=>by have:=h.2 x hx;simpa using this⟩
 exact⟨GV h.1.1.1,GV h.1.1.2,st _ h.1.2,st _ h.2⟩
section
variable {p:ay} {s:State} (hp:VP p) (hs:VS p s)
include hp hs
theorem NZ:gT p s=some (yF p s,0)∧True∧((yF p s).length:Int)=p.buses:=by
 obtain⟨L,h1,h2,_⟩:=Uk hp hs
 have:yF p s=L:=by unfold yF;rw [h1];rfl
 rw [this];exact⟨h1,trivial,h2⟩
theorem PW {l:List aO} (h:l≠[]↔Qe p s):decide ((0:Int)<(l.length:Int))=NH p s:=by
 unfold NH
 have e:(@decide (Qe p s) (Classical.propDecidable _)=true)↔Qe p s:= @decide_eq_true_iff _ (Classical.propDecidable _)
 rw [Bool.eq_iff_iff,decide_eq_true_iff,e,←h,←List.length_pos_iff]
 omega
theorem Ku {t:Task} (ht:uH p t=true):l9 p s t=some (MV p s t):=by
 obtain⟨⟨f1,f2⟩,⟨c1,c2⟩,_,_⟩:=J3 ht
 obtain⟨h1,_,h3⟩:=NZ hp hs
 have hpb:=hp.b;have hrl:=hp.rl;have l3:=hs.earthed
 unfold l9 MV
 rw [h1,Option.bind_some]
 have e0:aW (lN s (yF p s,0)) FUEL 0=some (bif (List.range p.buses.toNat).any (P6 p s)then .ret 40 else .brk ()):=by
  have hlen:(yF p s).length=p.buses.toNat:=by omega
  rw [←hlen]
  refine zB (yF p s).length (P6 p s) 40 (by omega) (fun i hi=> ?_) (by unfold lN;simp)
  unfold lN P6
  simp only [Int.toNat_natCast]
  rw [R4 (by omega),cond_true,aA (by omega),aA (fun _=>by omega),BI,wr (by omega)]
  exact vR _ _ _
 rw [e0]
 cases(List.range p.buses.toNat).any (P6 p s)with
 |true=>simp
 |false=>
  simp only [cond_false,Option.bind_some]
  obtain⟨l,k1,k2⟩:=L8 hp hs
  rw [k1,Option.bind_some]
  simp only [PW hp hs k2]
  cases NH p s with
  |true=>rfl
  |false=>
   simp only [cond_false]
   rw [P9 hp hs h1 h3,Option.bind_some]
   have e1:eP t.fed (tab p.racks.length (MI p (yF p s)))=some (t.fed.any (KO p s)):=by
    unfold eP iZ
    rw [jT t.fed (KO p s) id (by omega) (fun i hi=> ?_) (by unfold gV;simp)]
    ·rw [←jC];cases t.fed.findIdx? (KO p s)<;>rfl
    ·have hx:=f2 _ (at_mem hi)
     unfold gV pW
     rw [Int.toNat_natCast,aA ⟨by rw [wJ];omega,fun _=>by rw [wJ];omega⟩,Wv (by omega),BI]
     exact jD hi (by omega) _ id _
   simp only [e1,Option.bind_some]
   cases t.fed.any (KO p s)with
   |true=>rfl
   |false=>
    simp only [cond_false]
    have e2:eX t.crew p.buses p.sources p.links p.racks s.closed s.locked s.badLink s.on_ s.badSource s.earthed s.badBus t.fed t.crew t.allowed t.goal=some (t.crew.any (MJ p s t.crew)):=by
     unfold eX jg
     rw [jT t.crew (MJ p s t.crew) id (by omega) (fun i hi=> ?_) (by unfold gU;simp)]
     ·rw [←jC];cases t.crew.findIdx? (MJ p s t.crew)<;>rfl
     ·have hx:=c2 _ (at_mem hi)
      unfold gU p9
      rw [Int.toNat_natCast]
      have:=Sq hp hs (t:=t) (by omega) hx
      rw [show(⟨p.buses,p.sources,p.links,p.racks⟩:ay)=p from rfl,show(⟨s.closed,s.locked,s.badLink,s.on_,s.badSource,s.earthed,s.badBus⟩:State)=s from rfl,show(⟨t.fed,t.crew,t.allowed,t.goal⟩:Task)=t from rfl,this]
      simp only [Option.bind_some,Bool.not_not]
      exact jD hi (by omega) _ id _
    rw [e2,Option.bind_some]
    cases t.crew.any (MJ p s t.crew)<;>rfl
end
theorem Jy {p:ay} (hp:Small p) (s:State) {t:Task} (hst:Bo t):fM p s t=some (IV p s t):=by
 unfold fM IV
 rw [kg p s hp,Option.bind_some]
 by_cases h:oF p s=0
 ·rw [h,OL p t hst]
  cases hb:uH p t with
  |false=>simp
  |true=>have:=lg.mp h;simp [Ku this.1 this.2 hb]
 ·simp [h]
section
variable {p:ay} {s:State} (hp:VP p) (hs:VS p s)
include hp
theorem Rf (h:Int) (v:Nat) (hv:(v:Int)<p.buses):(v:Int)∈yX p s p.buses.toNat h↔at' s.badBus v=false∧aY p s v=h:=by
 have hb:=hp.b
 unfold yX
 rw [List.mem_map]
 constructor
 ·rintro ⟨b,hm,e⟩
  rw [List.mem_filter,List.mem_range,Bool.and_eq_true,decide_eq_true_eq,Bool.not_eq_true']at hm
  have:b=v:=by
   have:(b:Int)=(v:Int):=e
   omega
  subst this;exact hm.2
 ·rintro ⟨h1,h2⟩
  exact⟨v,List.mem_filter.2 ⟨List.mem_range.2 (by omega),by rw [h1,decide_eq_true h2];rfl⟩,rfl⟩
theorem Xp (h:Int):pY p s p.sources.length h≠[]↔ ∃k,k<p.sources.length∧oq p s k=true∧aY p s (at' p.sources k).bus.toNat=h:=by
 rw [←List.length_pos_iff,List.length_pos_iff_exists_mem]
 unfold pY
 constructor
 ·rintro ⟨x,hx⟩
  rw [List.mem_map]at hx
  obtain⟨k,hk,rfl⟩:=hx
  rw [List.mem_filter,List.mem_range,Bool.and_eq_true,decide_eq_true_eq]at hk
  exact⟨k,hk.1,hk.2.1,hk.2.2⟩
 ·rintro ⟨k,h1,h2,h3⟩
  exact⟨Int.ofNat k,List.mem_map.2 ⟨k,List.mem_filter.2 ⟨List.mem_range.2 h1,by rw [h2,decide_eq_true h3];rfl⟩,rfl⟩⟩
theorem Ie {v:Nat} (hv:(v:Int)<p.buses) (hb:at' s.badBus v=false):wE p s v↔pY p s p.sources.length (aY p s v)≠[]:=by
 rw [Xp hp]
 unfold wE
 constructor
 ·rintro ⟨_,k,h1,h2,h3⟩
  have hB:=(hp.src k h1).bus
  exact⟨k,h1,h2,(sK hp (by omega) hv).2 h3⟩
 ·rintro ⟨k,h1,h2,h3⟩
  have hB:=(hp.src k h1).bus
  exact⟨hb,k,h1,h2,(sK hp (by omega) hv).1 h3⟩
theorem Ei {v:Nat} (hv:(v:Int)<p.buses): ∃r:Int,dV (dJ p s p.buses.toNat p.sources.length) (v:Int)=some r∧
  ((at' s.badBus v=true∧r= -1)∨(at' s.badBus v=false∧ ∃j:Nat,r=(j:Int)∧j<(dJ p s p.buses.toNat p.sources.length).length∧j<(rts p s p.buses.toNat).length∧at' (rts p s p.buses.toNat) j=aY p s v∧
   (at' (dJ p s p.buses.toNat p.sources.length) j).sources=pY p s p.sources.length (aY p s v))):=by
 have hb:=hp.b
 have hrl:=BQ (p:=p) (s:=s) p.buses.toNat
 have hlen:(dJ p s p.buses.toNat p.sources.length).length=(rts p s p.buses.toNat).length:=by simp [dJ]
 have hbl: ∀t,t<(rts p s p.buses.toNat).length→at' (dJ p s p.buses.toNat p.sources.length) t=⟨yX p s p.buses.toNat (at' (rts p s p.buses.toNat) t),pY p s p.sources.length (at' (rts p s p.buses.toNat) t)⟩:=fun t ht=>by
  unfold dJ;rw [qR ht]
 have hrun:aW (fK (dJ p s p.buses.toNat p.sources.length) (v:Int)) FUEL 0=some (match(dJ p s p.buses.toNat p.sources.length).findIdx? (fun x=>decide ((v:Int)∈x.buses))with|some i=> .ret (id i:Int)|none=> .brk ()):=by
  refine jT _ (fun x:aH=>decide ((v:Int)∈x.buses)) (fun i=>(id i:Int)) (by omega) (fun i hi=> ?_) (by unfold fK;simp)
  unfold fK oG
  have hbs:(at' (dJ p s p.buses.toNat p.sources.length) i).buses.length≤9223372036854775807:=by
   rw [hbl i (by omega)]
   have:=K8 (p:=p) (s:=s) p.buses.toNat (at' (rts p s p.buses.toNat) i)
   show(yX p s p.buses.toNat (at' (rts p s p.buses.toNat) i)).length≤_
   omega
  rw [Int.toNat_natCast,contains_eq _ _ hbs,Option.bind_some]
  exact jD hi (by omega) _ (fun i=>i) _
 unfold dV
 rw [hrun]
 cases hf:(dJ p s p.buses.toNat p.sources.length).findIdx? (fun x=>decide ((v:Int)∈x.buses))with
 |none=>
  refine⟨-1,rfl, .inl ⟨?_,rfl⟩⟩
  rw [List.findIdx?_eq_none_iff]at hf
  cases hbv:at' s.badBus v with
  |true=>rfl
  |false=>
   exfalso
   have hr:aY p s v∈rts p s p.buses.toNat:=wZ.2 ⟨v,by omega,hbv,rfl⟩
   obtain⟨t,ht,et⟩:=kr hr
   have:=hf _ (at_mem (l:=dJ p s p.buses.toNat p.sources.length) (i:=t) (by omega))
   rw [hbl t ht,decide_eq_false_iff_not]at this
   exact this ((Rf hp _ v hv).2 ⟨hbv,et.symm⟩)
 |some j=>
  rw [List.findIdx?_eq_some_iff_getElem]at hf
  obtain⟨hj,hm,_⟩:=hf
  rw [←fG hj,hbl j (by omega),decide_eq_true_iff,Rf hp _ v hv]at hm
  refine⟨(j:Int),rfl, .inr ⟨hm.1,j,rfl,hj,by omega,hm.2.symm, ?_⟩⟩
  rw [hbl j (by omega),hm.2]
def kX (s:State) (i:Nat):State:=⟨s.closed.set i false,s.locked,s.badLink,s.on_,s.badSource,s.earthed,s.badBus⟩
noncomputable def Na (p:ay) (s:State) (i:Nat):Bool:=
 !at' s.badBus (at' p.links i).a.toNat && !at' s.badBus (at' p.links i).b.toNat && @decide (¬ ∃l,Wk p (kX s i) (at' p.links i).a.toNat l (at' p.links i).b.toNat) (Classical.propDecidable _) &&
  @decide (wE p (kX s i) (at' p.links i).a.toNat∨wE p (kX s i) (at' p.links i).b.toNat) (Classical.propDecidable _)
theorem RH {i:Nat}:Na p s i=true↔at' s.badBus (at' p.links i).a.toNat=false∧at' s.badBus (at' p.links i).b.toNat=false∧(¬ ∃l,Wk p (kX s i) (at' p.links i).a.toNat l (at' p.links i).b.toNat)∧
  (wE p (kX s i) (at' p.links i).a.toNat∨wE p (kX s i) (at' p.links i).b.toNat):=by
 unfold Na
 have e1:= @decide_eq_true_iff (¬ ∃l,Wk p (kX s i) (at' p.links i).a.toNat l (at' p.links i).b.toNat) (Classical.propDecidable _)
 have e2:= @decide_eq_true_iff (wE p (kX s i) (at' p.links i).a.toNat∨wE p (kX s i) (at' p.links i).b.toNat) (Classical.propDecidable _)
 rw [Bool.and_eq_true,Bool.and_eq_true,Bool.and_eq_true,e1,e2,Bool.not_eq_true',Bool.not_eq_true',and_assoc,and_assoc]
include hs
theorem VS.opn {i:Nat} (hi:i<p.links.length) (hk:(at' p.links i).kind≠1):VS p (kX s i):=by
 obtain⟨c1,c2,c3,c4,c5,c6,c7,c8⟩:=hs
 refine⟨by simp [kX,c1],c2,c3,c4,c5,c6,c7,fun j hj hkj=> ?_⟩
 have hne:i≠j:=fun q=>hk (q ▸ hkj)
 show at' (s.closed.set i false) j=true∧_
 rw [bZ hne];exact c8 j hj hkj
theorem Ut {i:Nat} (hi:i<p.links.length) (hk:(at' p.links i).kind≠1) {ra rb:Int} (ea:dV (dJ p (kX s i) p.buses.toNat p.sources.length) (at' p.links i).a=some ra) (eb:dV (dJ p (kX s i) p.buses.toNat p.sources.length) (at' p.links i).b=some rb):
  (ra<((dJ p (kX s i) p.buses.toNat p.sources.length).length:Int)∧rb<((dJ p (kX s i) p.buses.toNat p.sources.length).length:Int))∧
  (bif (bif (bif (decide (0≤ra))then(decide (0≤rb))else false)then(!decide (ra=rb))else false)then(decide (0<(IntKind.wrap .i64 ((((at' (dJ p (kX s i) p.buses.toNat p.sources.length) ra.toNat).sources).length:Int)+(((at' (dJ p (kX s i) p.buses.toNat p.sources.length) rb.toNat).sources).length:Int)))))else false)=Na p s i:=by
 have hl:=hp.lnk i hi
 have ha:=hl.a;have hb:=hl.b;have hsl:=hp.sl
 have h0:=VS.opn hp hs hi hk
 obtain⟨r1,e1,c1⟩:=Ei (s:=kX s i) hp (v:=(at' p.links i).a.toNat) (by omega)
 obtain⟨r2,e2,c2⟩:=Ei (s:=kX s i) hp (v:=(at' p.links i).b.toNat) (by omega)
 rw [show(((at' p.links i).a.toNat:Nat):Int)=(at' p.links i).a by omega,ea]at e1
 rw [show(((at' p.links i).b.toNat:Nat):Int)=(at' p.links i).b by omega,eb]at e2
 cases e1;cases e2
 have hbad:(kX s i).badBus=s.badBus:=rfl
 refine⟨⟨?_, ?_⟩, ?_⟩
 ·rcases c1 with⟨_,rfl⟩|⟨_,j,rfl,h,_⟩<;>omega
 ·rcases c2 with⟨_,rfl⟩|⟨_,j,rfl,h,_⟩<;>omega
 ·rw [Bool.eq_iff_iff,RH hp]
  rcases c1 with⟨b1,rfl⟩|⟨b1,j1,rfl,k1,l1,m1,n1⟩
  ·have b1':at' s.badBus (at' p.links i).a.toNat=true:=b1
   simp [b1']
  ·have b1':at' s.badBus (at' p.links i).a.toNat=false:=b1
   rcases c2 with⟨b2,rfl⟩|⟨b2,j2,rfl,k2,l2,m2,n2⟩
   ·have b2':at' s.badBus (at' p.links i).b.toNat=true:=b2
    simp [b2']
   ·have b2':at' s.badBus (at' p.links i).b.toNat=false:=b2
    have s1:=Bw (p:=p) (s:=kX s i) p.sources.length (aY p (kX s i) (at' p.links i).a.toNat)
    have s2:=Bw (p:=p) (s:=kX s i) p.sources.length (aY p (kX s i) (at' p.links i).b.toNat)
    have hj:(j1:Int)=(j2:Int)↔ ∃l,Wk p (kX s i) (at' p.links i).a.toNat l (at' p.links i).b.toNat:=by
     rw [←sK hp (by omega) (by omega),←m1,←m2]
     constructor
     ·intro e;have:j1=j2:=by omega
      rw [this]
     ·intro e
      have hn:=oH (p:=p) (s:=kX s i) p.buses.toNat
      rw [fG l1,fG l2]at e
      have:=(List.getElem_inj hn).1 e
      omega
    have w1:=Ie (s:=kX s i) hp (v:=(at' p.links i).a.toNat) (by omega) b1
    have w2:=Ie (s:=kX s i) hp (v:=(at' p.links i).b.toNat) (by omega) b2
    simp only [Int.toNat_natCast,n1,n2]
    rw [w1,w2,←List.length_pos_iff,←List.length_pos_iff,←hj]
    rw [wr (by omega),decide_eq_true (by omega:(0:Int)≤(j1:Int)),decide_eq_true (by omega:(0:Int)≤(j2:Int))]
    simp only [cond_true,b1',b2',true_and]
    by_cases e:(j1:Int)=(j2:Int)
    ·simp [e]
    ·simp only [e,decide_false,Bool.not_false,cond_true,decide_eq_true_eq,not_false_eq_true,true_and]
     omega
theorem TQ {i:Nat} (hi:i<p.links.length) (hk:(at' p.links i).kind≠1):qE p s (i:Int)=some (Na p s i):=by
 have h0:=VS.opn hp hs hi hk
 have l1:=hs.closed
 have hI:j5 p (kX s i)=some (dJ p (kX s i) p.buses.toNat p.sources.length,0):=by
  unfold j5
  rw [kg p _ (VP.small hp),lg.mpr ⟨hp,h0⟩,Option.bind_some]
  simp only [decide_true,Bool.not_true,cond_false]
  rw [Au hp h0];rfl
 have hl:=hp.lnk i hi
 have ha:=hl.a;have hb:=hl.b
 obtain⟨r1,e1,c1⟩:=Ei (s:=kX s i) hp (v:=(at' p.links i).a.toNat) (by omega)
 obtain⟨r2,e2,c2⟩:=Ei (s:=kX s i) hp (v:=(at' p.links i).b.toNat) (by omega)
 rw [show(((at' p.links i).a.toNat:Nat):Int)=(at' p.links i).a by omega]at e1
 rw [show(((at' p.links i).b.toNat:Nat):Int)=(at' p.links i).b by omega]at e2
 obtain⟨⟨x1,x2⟩,x3⟩:=Ut hp hs hi hk e1 e2
 have g1: ∀q l,gB [((bif (bif (decide (0≤r1))then(decide (0≤r2))else false)then q else false),true)]=l→l=true→0≤r1∧0≤r2:=by
  intro q l e h
  subst e
  by_cases y1:0≤r1<;>by_cases y2:0≤r2<;>simp [gB,y1,y2]at h ⊢
 unfold qE
 rw [aA (by omega)]
 simp only [Int.toNat_natCast]
 cases hc:at' s.closed i with
 |true=>
  simp only [cond_true]
  have hx:mJ p ⟨1,(i:Int)⟩=true:=by
   unfold mJ;simp [hi,hk]
  have hw:lF s ⟨1,(i:Int)⟩=some (kX s i):=by rw [Nj hp hs hx];rfl
  rw [hw,Option.bind_some,hI,Option.bind_some]
  unfold gZ
  simp only [e1,e2,Option.bind_some]
  rw [aA (by omega),aA ⟨fun h=> ⟨(g1 _ _ rfl h).1,x1⟩,fun h=> ⟨(g1 _ _ rfl h).2,x2⟩⟩,x3]
 |false=>
  simp only [cond_false]
  have hse:kX s i=s:=by
   unfold kX
   have:s.closed.set i false=s.closed:=ET (by simp) fun j hj=>by
    by_cases e:i=j
    ·subst e;rw [dR (by omega),hc]
    ·rw [bZ e]
   rw [this]
  rw [hse]at hI e1 e2 x1 x2 x3
  rw [hI,Option.bind_some]
  unfold gZ
  simp only [e1,e2,Option.bind_some]
  rw [aA (by omega),aA ⟨fun h=> ⟨(g1 _ _ rfl h).1,x1⟩,fun h=> ⟨(g1 _ _ rfl h).2,x2⟩⟩,x3]
end
def rW:State:=⟨[],[],[],[],[],[],[]⟩
def swB (x:aj):Bool:=decide (x.deed=1)||decide (x.deed=2)
def Um (s:State) (x:aj):Bool:=(swB x && at' s.badLink x.index.toNat)||((decide (x.deed=7)||decide (x.deed=8)) && at' s.badSource x.index.toNat)
noncomputable def R5 (p:ay) (s:State) (x:aj):Int:=
 bif !mJ p x then 1 else bif holdB s x then 46 else bif Um s x then 47 else bif swB x && at' s.locked x.index.toNat then 43
 else bif (swB x && decide ((at' p.links x.index.toNat).kind=2)) && Na p s x.index.toNat then 44 else 0
noncomputable def UU (p:ay) (s:State) (x:aj):State × Int:=if R5 p s x=0 then(E9 s x,0)else(rW,R5 p s x)
theorem J9 {p:ay} {s:State} {x:aj} (h:R5 p s x=0):mJ p x=true∧holdB s x=false:=by
 unfold R5 at h
 cases h1:mJ p x with
 |false=>rw [h1]at h;simp at h
 |true=>
  cases h2:holdB s x with
  |true=>rw [h1,h2]at h;simp at h
  |false=>exact⟨rfl,rfl⟩
section
variable {p:ay} {s:State} {x:aj} (hp:VP p) (hs:VS p s)
include hp hs
theorem Uz:rC p s x=some (UU p s x):=by
 unfold rC UU R5 pO nX
 simp only [Option.bind_some]
 rw [HY]
 simp only [Option.bind_some]
 cases hx:mJ p x with
 |false=>rfl
 |true=>
  simp only [Bool.not_true,cond_false]
  unfold nL
  rw [Q5 hs hx]
  simp only [Option.bind_some]
  cases hh:holdB s x with
  |true=>rfl
  |false=>
   simp only [cond_false]
   obtain⟨i0,i1,i2,i3,i4,i5⟩:=Ew hs hx
   have l1:=hs.badLink;have l2:=hs.badSource;have l3:=hs.locked
   have e3:kM p s x=some (Um s x):=by
    unfold kM fH wK Um swB
    simp only [Option.bind_some,wT]
    rcases Dm x.deed with e|e|e|e|e|e|e|e|e
    ·have:=i1 (by omega)
     have hi:(0:Int)≤x.index∧x.index<(s.badLink.length:Int):=by rw [l1];exact⟨i0,this.1⟩
     cases hb:at' s.badLink x.index.toNat<;>simp [e,gB,hb,bn,hi]
    ·have:=i1 (by omega)
     have hi:(0:Int)≤x.index∧x.index<(s.badLink.length:Int):=by rw [l1];exact⟨i0,this.1⟩
     cases hb:at' s.badLink x.index.toNat<;>simp [e,gB,hb,bn,hi]
    ·simp [e,gB,bn]
    ·simp [e,gB,bn]
    ·simp [e,gB,bn]
    ·simp [e,gB,bn]
    ·have:=i3 (by omega)
     have hi:(0:Int)≤x.index∧x.index<(s.badSource.length:Int):=by rw [l2];exact⟨i0,this⟩
     simp [e,gB,bn,hi]
    ·have:=i3 (by omega)
     have hi:(0:Int)≤x.index∧x.index<(s.badSource.length:Int):=by rw [l2];exact⟨i0,this⟩
     simp [e,gB,bn,hi]
    ·omega
   rw [e3]
   simp only [Option.bind_some]
   cases hb:Um s x with
   |true=>rfl
   |false=>
    simp only [cond_false]
    have hsw:swB x=true→(0:Int)≤x.index∧x.index<(p.links.length:Int)∧(at' p.links x.index.toNat).kind≠1:=by
     intro h;unfold swB at h;simp at h
     have:=i1 (by omega);exact⟨i0,this.1,this.2⟩
    have esw:(decide (x.deed=1)||decide (x.deed=2))=swB x:=rfl
    have e4:kF p s x=some (swB x && at' s.locked x.index.toNat):=by
     unfold kF fH
     simp only [Option.bind_some,wT,BI,esw]
     rw [aA (fun h=>by
      have:=hsw (by simpa [gB]using h)
      omega)]
    rw [e4]
    simp only [Option.bind_some]
    cases hl:swB x && at' s.locked x.index.toNat with
    |true=>rfl
    |false=>
     simp only [cond_false]
     have e5:kG p s x=some ((swB x && decide ((at' p.links x.index.toNat).kind=2)) && Na p s x.index.toNat):=by
      unfold kG fH
      simp only [Option.bind_some,wT,BI,esw]
      cases hc:(swB x && decide ((at' p.links x.index.toNat).kind=2))with
      |false=>
       simp only [gB,show(false==true)=false from rfl,Bool.false_and,cond_false,Option.bind_some]
       rw [aA (fun h=>by
        have:=hsw (by simpa [gB]using h)
        omega)]
      |true=>
       rw [Bool.and_eq_true]at hc
       have hq:=hsw hc.1
       simp only [gB,beq_self_eq_true,Bool.and_true,cond_true]
       have:=TQ hp hs (i:=x.index.toNat) (by omega) hq.2.2
       rw [show((x.index.toNat:Nat):Int)=x.index by omega]at this
       rw [this,Option.bind_some,aA (fun _=>by omega)]
     rw [e5]
     simp only [Option.bind_some]
     cases(swB x && decide ((at' p.links x.index.toNat).kind=2)) && Na p s x.index.toNat with
     |true=>rfl
     |false=>
      simp only [cond_false]
      rw [Nj hp hs hx];rfl
noncomputable def nextR (p:ay) (s:State) (t:Task) (x:aj):State × Int:=if R5 p s x=0 then(E9 s x,MV p (E9 s x) t)else(rW,R5 p s x)
theorem Ug {t:Task} (ht:uH p t=true):qB p s t x=some (nextR p s t x):=by
 unfold qB nextR
 rw [Uz hp hs,Option.bind_some]
 by_cases h:R5 p s x=0
 ·have e:UU p s x=(E9 s x,0):=by unfold UU;rw [if_pos h]
  rw [e,if_pos h]
  simp only [decide_true,cond_true]
  rw [Ku hp (VS.ZO hp hs (J9 h).1) ht];rfl
 ·have e:UU p s x=(rW,R5 p s x):=by unfold UU;rw [if_neg h]
  rw [e,if_neg h]
  simp only [decide_eq_false h,cond_false]
end
noncomputable def Zq (p:ay) (s:State) (x:aj):State × Int:=if oF p s≠0 then(rW,oF p s)else UU p s x
theorem XT {p:ay} (hp:Small p) (s:State) (x:aj):eT p s x=some (Zq p s x):=by
 unfold eT Zq
 rw [kg p s hp,Option.bind_some]
 by_cases h:oF p s=0
 ·have:=lg.mp h
  rw [h,Uz this.1 this.2];simp
 ·simp [h];rfl
noncomputable def wX (p:ay) (t:Task) (l:List aj):State→Nat→Nat→Int × State × Int
 |s,i,0=>((i:Int),s,0)
 |s,i,n+1=>if(nextR p s t (at' l i)).2=0 then wX p t l (nextR p s t (at' l i)).1 (i+1) n else((i:Int),rW,(nextR p s t (at' l i)).2)
noncomputable def Oa (p:ay) (s:State) (t:Task) (l:List aj):Int × State × Int:=
 if IV p s t≠0 then(0,rW,IV p s t)else if 256<l.length then(0,rW,2)else wX p t l s 0 l.length
theorem Qy {p:ay} (hp:VP p) {s:State} (hs:VS p s) {t:Task} {x:aj} (h:(nextR p s t x).2=0):R5 p s x=0∧(nextR p s t x).1=E9 s x∧VS p (E9 s x)∧MV p (E9 s x) t=0:=by
 unfold nextR at h ⊢
 split at h
 ·rename_i h0;rw [if_pos h0];exact⟨h0,rfl,VS.ZO hp hs (J9 h0).1,h⟩
 ·rename_i h0;exact absurd h h0
theorem CO {p:ay} {s:State} {t:Task} (h:IV p s t=0):VP p∧VS p s∧uH p t=true∧MV p s t=0:=by
 unfold IV at h
 by_cases h1:oF p s=0
 ·have:=lg.mp h1
  rw [if_neg (by simp [h1])]at h
  cases h2:uH p t with
  |true=>rw [h2,if_pos rfl]at h;exact⟨this.1,this.2,rfl,h⟩
  |false=>rw [h2]at h;simp at h
 ·rw [if_pos h1]at h;exact absurd h h1
section
variable {p:ay} (hp:VP p) {t:Task} (ht:uH p t=true) (hst:Bo t) {l:List aj} (hl:l.length≤256)
include hp ht hl
theorem Lf: ∀(n i:Nat) (s:State),VS p s→i+n=l.length→ ∃k,aW (iK p t l) k (s.closed,s.locked,s.badLink,s.on_,s.badSource,s.earthed,s.badBus,(i:Int))=some (match wX p t l s i n with
  |(j,u,e)=>if e=0 then .brk (u.closed,u.locked,u.badLink,u.on_,u.badSource,u.earthed,u.badBus)else .ret (j,rW,e))∧k≤n+1
 |0,i,s,_,hi=> ⟨1,by
   have: ¬ ((i:Int)<(l.length:Int)):=by omega
   rw [cu];unfold iK;simp only [decide_eq_false this,cond_false];rfl,by omega⟩
 |n+1,i,s,hs,hi=>by
  have hb:iK p t l (s.closed,s.locked,s.badLink,s.on_,s.badSource,s.earthed,s.badBus,(i:Int))=some (if(nextR p s t (at' l i)).2=0 then .next ((nextR p s t (at' l i)).1.closed,(nextR p s t (at' l i)).1.locked,(nextR p s t (at' l i)).1.badLink,(nextR p s t (at' l i)).1.on_,(nextR p s t (at' l i)).1.badSource,(nextR p s t (at' l i)).1.earthed,(nextR p s t (at' l i)).1.badBus,((i+1:Nat):Int))else .done (.ret ((i:Int),rW,(nextR p s t (at' l i)).2))):=by
   unfold iK
   simp only [Int.toNat_natCast]
   rw [R4 (by omega),cond_true,aA (by omega),show(⟨s.closed,s.locked,s.badLink,s.on_,s.badSource,s.earthed,s.badBus⟩:State)=s from rfl,Ug hp hs ht,Option.bind_some,wr (by omega)]
   by_cases h:(nextR p s t (at' l i)).2=0
   ·simp [h]
   ·simp [h];rfl
  by_cases h:(nextR p s t (at' l i)).2=0
  ·obtain⟨h1,h2,h3,h4⟩:=Qy hp hs h
   have hv:wX p t l s i (n+1)=wX p t l (nextR p s t (at' l i)).1 (i+1) n:=by rw [wX,if_pos h]
   obtain⟨k,hk,hkn⟩:=Lf n (i+1) (nextR p s t (at' l i)).1 (by rw [h2];exact h3) (by omega)
   refine⟨k+1, ?_,by omega⟩
   rw [cu,hb,if_pos h,hv]
   exact hk
  ·have hv:wX p t l s i (n+1)=((i:Int),rW,(nextR p s t (at' l i)).2):=by rw [wX,if_neg h]
   refine⟨1, ?_,by omega⟩
   rw [cu,hb,if_neg h,hv]
   simp only
   rw [if_neg h]
include hst
end
theorem K6 {p:ay} {t:Task} {l:List aj}: ∀(n i:Nat) (s:State),(wX p t l s i n).2.2=0→(wX p t l s i n).1=((i+n:Nat):Int)
 |0,i,s,_=>rfl
 |n+1,i,s,h=>by
  rw [wX]at h ⊢
  split
  ·rename_i hn
   rw [if_pos hn]at h
   rw [K6 n (i+1) _ h];congr 1;omega
  ·rename_i hn;rw [if_neg hn]at h;exact absurd h hn
theorem KZ {p:ay} {t:Task} {l:List aj}: ∀(n i:Nat) (s:State),(wX p t l s i n).2.2≠0→(wX p t l s i n).2.1=rW
 |0,i,s,h=>absurd rfl h
 |n+1,i,s,h=>by
  rw [wX]at h ⊢
  split
  ·rename_i hn
   rw [if_pos hn]at h
   exact KZ n (i+1) _ h
  ·rfl
theorem O4 {p:ay} (hp:Small p) (s:State) {t:Task} (hst:Bo t) (l:List aj):nM p s t l=some (Oa p s t l):=by
 unfold nM Oa
 rw [Jy hp s hst,Option.bind_some]
 by_cases h:IV p s t=0
 ·obtain⟨h1,h2,h3,h4⟩:=CO h
  by_cases hl:256<l.length
  ·have:decide ((256:Int)<(l.length:Int))=true:=decide_eq_true (by omega)
   simp [h,hl,this];rfl
  ·have hd:decide ((256:Int)<(l.length:Int))=false:=decide_eq_false (by omega)
   rw [h]
   simp only [decide_true,Bool.not_true,cond_false,hd,ne_eq,not_true_eq_false,if_false,if_neg hl]
   rw [OV s (VS.small h1 h2),Option.bind_some]
   obtain⟨k,hk,hkn⟩:=Lf h1 h3 (l:=l) (by omega) l.length 0 s h2 (by omega)
   have hk':=kY hk (show k≤FUEL by unfold FUEL;omega)
   have hz:((0:Nat):Int)=0:=rfl
   rw [hz]at hk'
   rw [hk']
   have ve:=K6 (p:=p) (t:=t) (l:=l) l.length 0 s
   have vb:=KZ (p:=p) (t:=t) (l:=l) l.length 0 s
   generalize wX p t l s 0 l.length=r at ve vb ⊢
   obtain⟨j,u,e⟩:=r
   simp only [Option.bind_some]
   by_cases he:e=0
   ·have:=ve he
    rw [if_pos he]
    simp only at this
    subst he;rw [this,Nat.zero_add]
   ·rw [if_neg he]
    have:=vb he
    simp only at this
    rw [this]
 ·simp [h];rfl
structure XQ (s:State):Prop where
 l0:s.closed.length≤140737488351232
 l1:s.locked.length≤140737488351232
 l2:s.badLink.length≤140737488351232
 l3:s.on_.length≤140737488351232
 l4:s.badSource.length≤140737488351232
 l5:s.earthed.length≤140737488351232
 l6:s.badBus.length≤140737488351232
theorem VS.room {p:ay} {s:State} (hp:VP p) (h:VS p s):XQ s:=by
 have h1:=hp.ll;have h2:=hp.sl;have h3:=hp.b
 obtain⟨a1,a2,a3,a4,a5,a6,a7,_⟩:=h
 exact⟨by omega,by omega,by omega,by omega,by omega,by omega,by omega⟩
section
variable {p:ay} {s:State} (hs:VS p s) {x:aj} (hx:mJ p x=true) (hh:holdB s x=false)
include hs hx hh
end
noncomputable def Sl (p:ay) (t:Task):State→List aj→Option State
 |s,[]=>some s
 |s,x::l=>if(nextR p s t x).2=0 then Sl p t (nextR p s t x).1 l else none
theorem ME:uP=some true:=by kernel_rfl
theorem bT {α:Type} {b:Bool} (h:b=true) (x y:α):(bif b then x else y)=x:=by rw [h];rfl
theorem bF {α:Type} {b:Bool} (h:b=false) (x y:α):(bif b then x else y)=y:=by rw [h];rfl
theorem Cv (l:List Bool) (h:l.length≤1000000):au l=some l:=by
 unfold au kW
 rw [Bool.not_true,cond_false,aA ⟨by simp only [List.length_nil];omega,by simp only [List.length_nil];omega⟩];rfl
theorem Xt (l:List Int) (h:l.length≤1000000):gJ l=some l:=by
 unfold gJ nT
 rw [Bool.not_true,cond_false,aA ⟨by simp only [List.length_nil];omega,by simp only [List.length_nil];omega⟩];rfl
theorem Y6 (l:List Item) (h:l.length≤1000000):jm l=some l:=by
 unfold jm nP
 rw [Bool.not_true,cond_false,aA ⟨by simp only [List.length_nil];omega,by simp only [List.length_nil];omega⟩];rfl
theorem Zz (l:List Source) (h:l.length≤1000000):ji l=some l:=by
 unfold ji nJ
 rw [Bool.not_true,cond_false,aA ⟨by simp only [List.length_nil];omega,by simp only [List.length_nil];omega⟩];rfl
theorem Zf (l:List Link) (h:l.length≤1000000):jr l=some l:=by
 unfold jr nH
 rw [Bool.not_true,cond_false,aA ⟨by simp only [List.length_nil];omega,by simp only [List.length_nil];omega⟩];rfl
theorem Zt (l:List aL) (h:l.length≤1000000):jo l=some l:=by
 unfold jo ol
 rw [Bool.not_true,cond_false,aA ⟨by simp only [List.length_nil];omega,by simp only [List.length_nil];omega⟩];rfl
theorem Zy (l:List dU) (h:l.length≤1000000):jl l=some l:=by
 unfold jl oh
 rw [Bool.not_true,cond_false,aA ⟨by simp only [List.length_nil];omega,by simp only [List.length_nil];omega⟩];rfl
theorem Ry {α:Type} [Inhabited α] (l:List α) (i:Nat):l.set i (at' l i)=l:=by
 refine ET (by simp) fun j hj=> ?_
 rw [List.length_set]at hj
 by_cases e:i=j
 ·subst e;rw [dR hj]
 ·rw [bZ e]
theorem ZC {p:ay} (hp:VP p):jI p=some p:=by
 have h1:=hp.sl;have h2:=hp.ll;have h3:=hp.rl
 have key:aW (fE p.links) FUEL (p.links,0)=some (.brk p.links):=by
  refine gF (body:=fE p.links) (fun i=>(p.links,(i:Int))) p.links.length _ (fuel_lt (by omega)) (fun i hi=> ?_) ?_
  ·unfold fE
   simp only [Int.toNat_natCast]
   have ht:=(hp.lnk i hi).tl
   rw [R4 (by omega),cond_true,Zy _ (by omega),Option.bind_some,aA (by omega),wr (by omega)]
   show some (dG.next (p.links.set i (at' p.links i),((i:Int)+1)))=_
   rw [Ry];rfl
  ·unfold fE
   simp
 unfold jI
 rw [Zz _ (by omega),Zf _ (by omega),Zt _ (by omega)]
 simp only [Option.bind_some]
 rw [key];rfl
theorem Y9 {p:ay} {s:State} (hp:VP p) (h:VS p s):dM s=some s:=by
 have h1:=hp.ll;have h2:=hp.sl;have h3:=hp.b
 obtain⟨a1,a2,a3,a4,a5,a6,a7,_⟩:=h
 unfold dM
 rw [aA (by omega),Cv _ (by omega),Option.bind_some,aA (by omega),Cv _ (by omega),Option.bind_some,aA (by omega),Cv _ (by omega),Option.bind_some,aA (by omega),Cv _ (by omega),Option.bind_some,
  aA (by omega),Cv _ (by omega),Option.bind_some,aA (by omega),Cv _ (by omega),Option.bind_some,aA (by omega),Cv _ (by omega),Option.bind_some]
def rq (l:List Item):List aj:=l.map (·.step)
theorem rY (l:List Item):(rq l).length=l.length:=List.length_map _
theorem O6 {l:List Item} {i:Nat} (h:i<l.length):at' (rq l) i=(at' l i).step:=qR h
theorem MX {l:List Item} (hl:l.length≤1000):aW (fI l) FUEL (([]:List aj),0)=some (.brk (rq l)):=by
 have key:aW (fI l) FUEL ((rq l).take 0,((0:Nat):Int))=some (.brk ((rq l).take l.length)):=by
  refine gF (body:=fI l) (fun i=>((rq l).take i,(i:Int))) l.length _ (fuel_lt (by omega)) (fun i hi=> ?_) ?_
  ·unfold fI
   simp only [Int.toNat_natCast]
   rw [R4 (by omega),cond_true,aA (by omega),aA ⟨by simp only [List.length_take,List.length_singleton];omega,by simp only [List.length_take,List.length_singleton];omega⟩,wr (by omega),
    nW (l:=rq l) (by rw [rY];exact hi),O6 hi];rfl
  ·unfold fI
   simp
 rw [←rY l,List.take_length]at key
 exact key
structure NY (t:Task):Prop where
 f:t.fed.length≤60
 c:t.crew.length≤60
 a:t.allowed.length≤60
 g:t.goal.length≤60
theorem NY.small {t:Task} (h:NY t):Bo t:=by obtain⟨h1,h2,h3,h4⟩:=h;exact⟨by omega,by omega,by omega,by omega⟩
def P8 (t:Task):Task:=⟨t.fed,t.crew,[],[]⟩
theorem Ka {p:ay} {t:Task} {l:List aj}: ∀(n i:Nat) (s:State),i+n=l.length→(wX p t l s i n).2.2=0→ ∃u,Sl p t s (l.drop i)=some u∧wX p t l s i n=((l.length:Int),u,0)
 |0,i,s,hi,_=> ⟨s,by rw [List.drop_eq_nil_of_le (by omega)];rfl,by unfold wX;rw [show i=l.length by omega]⟩
 |n+1,i,s,hi,h=>by
  have hlt:i<l.length:=by omega
  unfold wX at h ⊢
  by_cases h0:(nextR p s t (at' l i)).2=0
  ·rw [if_pos h0]at h ⊢
   obtain⟨u,h1,h2⟩:=Ka n (i+1) _ (by omega) h
   refine⟨u, ?_,h2⟩
   rw [List.drop_eq_getElem_cons hlt,←fG hlt]
   unfold Sl
   rw [if_pos h0];exact h1
  ·rw [if_neg h0]at h;exact absurd h h0
def UC (p:ay) (s:State) (t:Task) (l:List Item):Run:=⟨⟨p,s,P8 t,l⟩,s,0,false,false,[]⟩
theorem O7 {p:ay} {s:State} {t:Task} {l:List Item} (hl:64<l.length):bH p s t l=some (false,0,2,default):=by
 unfold bH
 rw [bT (decide_eq_true (by omega))]
theorem Rm {p:ay} (hp:Small p) (s:State) {t:Task} (ht:NY t) {l:List Item} (hl:l.length≤64):
  (∃n e,e≠0∧bH p s t l=some (false,n,e,default))∨
  (VP p∧VS p s∧uH p t=true∧MV p s t=0∧(∃u,Sl p t s (rq l)=some u)∧bH p s t l=some (true,(l.length:Int),0,UC p s t l)):=by
 unfold bH
 rw [bF (decide_eq_false (by omega)),MX (by omega)]
 simp only [Option.bind_some]
 rw [O4 hp s ht.small,Option.bind_some]
 by_cases h:(Oa p s t (rq l)).2.2=0
 ·right
  have h':=h
  unfold Oa at h'
  by_cases h1:IV p s t=0
  ·rw [if_neg (by simp [h1]),if_neg (by rw [rY];omega)]at h'
   obtain⟨q1,q2,q3,q4⟩:=CO h1
   obtain⟨u,u1,u2⟩:=Ka (rq l).length 0 s (by omega) h'
   refine⟨q1,q2,q3,q4,⟨u,u1⟩, ?_⟩
   have e:Oa p s t (rq l)=((l.length:Int),u,0):=by
    unfold Oa
    rw [if_neg (by simp [h1]),if_neg (by rw [rY];omega),u2,rY]
   rw [e,bF (by simp)]
   have hf:=ht.f;have hc:=ht.c
   rw [Xt _ (by omega),Option.bind_some,Xt _ (by omega),Option.bind_some,ZC q1,Option.bind_some,Y9 q1 q2,Option.bind_some,Y6 _ (by omega),Option.bind_some,Option.bind_some]
   rfl
  ·rw [if_pos h1]at h';exact absurd h' h1
 ·left
  rw [bT (by simp [h])]
  exact⟨_,_,h,rfl⟩
theorem o7 {r:Run} (h:r.log.length<1000):dB r=some 0:=by
 unfold dB fw
 rw [Option.bind_some,bF rfl,bF (decide_eq_false (by omega))]
section
variable {r:Run} (hp:VP r.setting.plant) (hs:VS r.setting.plant r.now) (ht:uH r.setting.plant r.setting.task=true) (hst:Bo r.setting.task)
include hp hs ht hst
end
theorem EQ {a b:Int} (h:a≠b):aS a b=false:=by unfold aS;rw [decide_eq_false h];rfl
theorem Dz {a b:Int} (h:a=b):aS a b=true:=by unfold aS;rw [decide_eq_true h];rfl
def zG (s:State) (x:Part) (b:Bool):State:=
 if x.kind=1 then⟨s.closed,s.locked,s.badLink,s.on_,s.badSource,s.earthed,s.badBus.set x.index.toNat b⟩
 else if x.kind=2 then⟨s.closed,s.locked,s.badLink,s.on_,s.badSource.set x.index.toNat b,s.earthed,s.badBus⟩
 else⟨s.closed,s.locked,s.badLink.set x.index.toNat b,s.on_,s.badSource,s.earthed,s.badBus⟩
theorem VS.zG {p:ay} {s:State} (hs:VS p s) (x:Part) (b:Bool):VS p (zG s x b):=by
 have h7:=hs.badBus;have h3:=hs.badLink;have h5:=hs.badSource
 unfold Sg.zG
 split
 ·exact⟨hs.closed,hs.locked,hs.badLink,hs.on,hs.badSource,hs.earthed,by rw [List.length_set];exact h7,hs.cable⟩
 ·split
  ·exact⟨hs.closed,hs.locked,hs.badLink,hs.on,by rw [List.length_set];exact h5,hs.earthed,hs.badBus,hs.cable⟩
  ·exact⟨hs.closed,hs.locked,by rw [List.length_set];exact h3,hs.on,hs.badSource,hs.earthed,hs.badBus,hs.cable⟩
section
variable {p:ay} {s:State} (hp:VP p) (hs:VS p s)
include hp hs
theorem M4:nZ s=some s:=by
 have h1:=hp.ll;have h2:=hp.sl;have h3:=hp.b
 obtain⟨a1,a2,a3,a4,a5,a6,a7,_⟩:=hs
 unfold nZ
 rw [aA (by omega),Cv _ (by omega),Option.bind_some,aA (by omega),Cv _ (by omega),Option.bind_some,aA (by omega),Cv _ (by omega),Option.bind_some,aA (by omega),Cv _ (by omega),Option.bind_some,
  aA (by omega),Cv _ (by omega),Option.bind_some,aA (by omega),Cv _ (by omega),Option.bind_some,aA (by omega),Cv _ (by omega),Option.bind_some]
theorem OB (x:Part) (is:Bool):(∃u,ic p s x is=some (u,14))∨ic p s x is=some (zG s x is,0):=by
 have hb:=hp.b;have hsl:=hp.sl;have hll:=hp.ll
 have h7:=hs.badBus;have h3:=hs.badLink;have h5:=hs.badSource
 obtain⟨c,j⟩:=x
 unfold ic
 rw [kg p s hp.small,lg.mpr ⟨hp,hs⟩,Option.bind_some,decide_eq_true rfl,Bool.not_true,cond_false,M4 hp hs,Option.bind_some]
 dsimp only
 by_cases c1:c=1
 ·subst c1
  rw [bT (Dz rfl),lI,Option.bind_some,wr (by omega)]
  cases hw:wi j 0 ((s.badBus.length:Int) - 1)with
  |false=>exact .inl ⟨_,rfl⟩
  |true=>have:=uK.mp hw;right;rw [Bool.not_true,cond_false,aA ⟨by omega,by omega⟩];rfl
 rw [bF (EQ c1)]
 by_cases c2:c=2
 ·subst c2
  rw [bT (Dz rfl),lI,Option.bind_some,wr (by omega)]
  cases hw:wi j 0 ((s.badSource.length:Int) - 1)with
  |false=>exact .inl ⟨_,rfl⟩
  |true=>have:=uK.mp hw;right;rw [Bool.not_true,cond_false,aA ⟨by omega,by omega⟩];rfl
 rw [bF (EQ c2)]
 by_cases c3:c=3
 ·subst c3
  rw [bT (Dz rfl),lI,Option.bind_some,wr (by omega)]
  cases hw:wi j 0 ((s.badLink.length:Int) - 1)with
  |false=>exact .inl ⟨_,rfl⟩
  |true=>have:=uK.mp hw;right;rw [Bool.not_true,cond_false,aA ⟨by omega,by omega⟩];rfl
 rw [bF (EQ c3),lI,Option.bind_some]
 cases hw:wi j 0 (-1)with
 |false=>exact .inl ⟨_,rfl⟩
 |true=>have:=uK.mp hw;omega
end
def Xw (x:ai) (r:Run):Option (Int × Run):=
 if x.kind=1 then nE x r else if x.kind=2 then lm x r else if x.kind=3 then oJ x r else if x.kind=4 then kJ x r else nC x r
def YW (p:ay) (x:ai) (s:State):Option State:=
 if x.kind=1 then(eT p s x.step).map (·.1)else if x.kind=2 then some s else if x.kind=3 then(eT p s x.step).map (·.1)else if x.kind=4 then(dF p s x.part).map (·.1)else(lM p s x.part).map (·.1)
structure Vq (p:ay) (s:State) (t:Task) (l:List Item) (r:Run):Prop where
 set:r.setting=⟨p,s,P8 t,l⟩
 vs:VS p r.now
 d0:0≤r.done
 dl:r.done≤(l.length:Int)
structure EF (p:ay) (s:State) (t:Task) (l:List Item) (x:ai) (r r':Run):Prop where
 ok:Vq p s t l r'
 log:r'.log=r.log++[x]
 knd:1≤x.kind∧x.kind≤5
 pl:lH x=some true
 ev:Xw x r=some (0,r')
 st:YW p x r.now=some r'.now
def YF (p:ay) (s:State) (t:Task) (l:List Item) (o:Option (Int × Run)) (r:Run):Prop:= ∃e r',o=some (e,r')∧(r'=r∨ ∃x,EF p s t l x r r')
section
variable {p:ay} (hp:VP p) {s:State} (hs:VS p s) {t:Task} (ht:uH p t=true) (h6:NY t) {l:List Item} (hl:l.length≤64) {r:Run} (hr:Vq p s t l r) (hg:r.log.length<1000)
include hp h6 hr
theorem PY (x:aj):(∃e,e≠0∧fo x r=some (e,r))∨ ∃u,eT p r.now x=some (u,0)∧VS p u∧fo x r=some (0,⟨r.setting,u,r.done,r.wait,r.back,r.log⟩):=by
 have hpl:r.setting.plant=p:=by rw [hr.set]
 have htk:r.setting.task=P8 t:=by rw [hr.set]
 have hst:Bo (P8 t):=⟨by have:=h6.f;show t.fed.length≤_;omega,by have:=h6.c;show t.crew.length≤_;omega,by show 0≤_;omega,by show 0≤_;omega⟩
 unfold fo iR
 rw [hpl,htk,XT (VP.small hp)]
 obtain⟨u,e,he⟩: ∃u e,Zq p r.now x=(u,e):=⟨_,_,rfl⟩
 rw [he]
 simp only [Option.bind_some]
 by_cases h0:e=0
 ·subst h0
  rw [bT (by simp),show(⟨u.closed,u.locked,u.badLink,u.on_,u.badSource,u.earthed,u.badBus⟩:State)=u from rfl,Jy (VP.small hp) _ hst,Option.bind_some]
  by_cases h1:IV p u (P8 t)=0
  ·right
   refine⟨u,rfl,(CO h1).2.1, ?_⟩
   rw [h1];rfl
  ·left
   refine⟨_,h1, ?_⟩
   rw [Option.bind_some,bF (by simp [h1])];rfl
 ·left
  refine⟨e,h0, ?_⟩
  rw [bF (by simp [h0]),Option.bind_some,bF (by simp [h0])];rfl
include hl hg
theorem RD:YF p s t l (aX r) r:=by
 have hit:r.setting.items=l:=by rw [hr.set]
 have h0:=hr.d0;have h1:=hr.dl
 unfold aX
 rw [o7 (by omega),Option.bind_some,bF (by rfl)]
 cases hb:r.back with
 |true=>exact⟨_,_,rfl, .inl rfl⟩
 |false=>
  cases hw:r.wait with
  |true=>exact⟨_,_,rfl, .inl rfl⟩
  |false=>
   rw [cond_false,cond_false,hit]
   by_cases hd:r.done=(l.length:Int)
   ·rw [bT (decide_eq_true hd)];exact⟨_,_,rfl, .inl rfl⟩
   ·rw [bF (decide_eq_false hd),aA (by omega)]
    rcases PY hp h6 hr (at' l r.done.toNat).step with⟨e,he,hq⟩|⟨u,hu,hv,hq⟩
    ·rw [hq,Option.bind_some]
     simp only
     rw [bT (by simp [he])]
     exact⟨_,_,rfl, .inl rfl⟩
    ·have hN:aX r=some (0,⟨r.setting,u,r.done+1,(at' l r.done.toNat).ack,false,r.log++[⟨1,(at' l r.done.toNat).step,⟨0,0⟩,0⟩]⟩):=by
      unfold aX
      rw [o7 (by omega),Option.bind_some,bF (by rfl),hb,cond_false,hw,cond_false,hit,bF (decide_eq_false hd),aA (by omega),hq,Option.bind_some]
      simp only
      rw [bF (by rfl),aA ⟨by simp only [List.length_singleton];omega,by simp only [List.length_singleton];omega⟩,wr (by omega),hb]
     rw [hq,Option.bind_some]
     simp only
     rw [bF (by rfl),aA ⟨by simp only [List.length_singleton];omega,by simp only [List.length_singleton];omega⟩,wr (by omega),hb]
     refine⟨_,_,rfl, .inr ⟨⟨1,(at' l r.done.toNat).step,⟨0,0⟩,0⟩,⟨hr.set,hv,by show 0≤r.done+1;omega,by show r.done+1≤_;omega⟩,rfl,⟨by show(1:Int)≤1;decide,by show(1:Int)≤5;decide⟩,by unfold lH;simp, ?_, ?_⟩⟩
     ·unfold Xw nE
      rw [if_pos rfl,hN];rfl
     ·unfold YW
      rw [if_pos rfl,hu];rfl
omit hl in
theorem SN (w:Int):YF p s t l (dw w r) r:=by
 obtain⟨o,ho⟩: ∃o,dw w r=o:=⟨_,rfl⟩
 have ho':=ho
 unfold dw at ho
 rw [o7 (by omega),Option.bind_some,bF (by rfl)]at ho
 rw [ho']
 cases hw:r.wait with
 |false=>rw [bT (by rw [hw];rfl)]at ho;exact⟨_,_,ho.symm, .inl rfl⟩
 |true=>
  rw [bF (by rw [hw];rfl)]at ho
  cases hc:(bif decide (w<1)then true else decide (1000<w))with
  |true=>rw [bT hc]at ho;exact⟨_,_,ho.symm, .inl rfl⟩
  |false=>
   rw [bF hc,aA ⟨by simp only [List.length_singleton];omega,by simp only [List.length_singleton];omega⟩]at ho
   refine⟨_,_,ho.symm, .inr ⟨⟨2,⟨0,0⟩,⟨0,0⟩,w⟩,⟨hr.set,hr.vs,hr.d0,hr.dl⟩,rfl,⟨by show(1:Int)≤2;decide,by show(2:Int)≤5;decide⟩,by unfold lH;simp, ?_, ?_⟩⟩
   ·unfold Xw lm
    simp only
    rw [if_neg (by decide),if_pos trivial,ho',←ho];rfl
   ·unfold YW
    simp only
    rw [if_neg (by decide),if_pos trivial]
omit hl in
theorem Rv (x:Part):YF p s t l (bY x r) r:=by
 have hpl:r.setting.plant=p:=by rw [hr.set]
 obtain⟨o,ho⟩: ∃o,bY x r=o:=⟨_,rfl⟩
 have ho':=ho
 unfold bY jX at ho
 rw [o7 (by omega),Option.bind_some,bF (by rfl),hpl]at ho
 rw [ho']
 rcases OB hp hr.vs x true with⟨u,hu⟩|hu
 ·rw [show dF p r.now x=some (u,14)from by unfold dF;rw [hu];rfl]at ho
  exact⟨_,_,ho.symm, .inl rfl⟩
 ·have hB:dF p r.now x=some (zG r.now x true,0):=by unfold dF;rw [hu];rfl
  rw [hB,Option.bind_some]at ho
  simp only at ho
  rw [bF (by rfl),aA ⟨by simp only [List.length_singleton];omega,by simp only [List.length_singleton];omega⟩,Option.bind_some]at ho
  refine⟨_,_,ho.symm, .inr ⟨⟨4,⟨0,0⟩,x,0⟩,⟨hr.set,hr.vs.zG x true,hr.d0,hr.dl⟩,rfl,⟨by show(1:Int)≤4;decide,by show(4:Int)≤5;decide⟩,by unfold lH;simp, ?_, ?_⟩⟩
  ·unfold Xw kJ
   simp only
   rw [if_neg (by decide),if_neg (by decide),if_neg (by decide),if_pos trivial,ho',←ho];rfl
  ·unfold YW
   simp only
   rw [if_neg (by decide),if_neg (by decide),if_neg (by decide),if_pos trivial,hB];rfl
end
theorem Nb {α:Type} [Inhabited α] {l:List α} {k i:Nat} (h:i<k):at' (l.take k) i=at' l i:=by
 by_cases hl:i<l.length
 ·rw [fG (by rw [List.length_take];omega),fG hl,List.getElem_take]
 ·unfold at'
  simp [List.getElem?_take,h]
structure BG (p:ay) (s:State) (t:Task) (l:List Item) (xs:List ai) (R:Nat→Run):Prop where
 r0:R 0=UC p s t l
 st: ∀i,i<xs.length→EF p s t l (at' xs i) (R i) (R (i+1))
section
variable {p:ay} {s:State} {t:Task} {l:List Item} {xs:List ai} {R:Nat→Run}
theorem BG.ok (hs:VS p s) (h:BG p s t l xs R): ∀i,i≤xs.length→Vq p s t l (R i)
 |0,_=>by rw [h.r0];exact⟨rfl,hs,Int.le_refl 0,by show 0≤_;omega⟩
 |i+1,hi=>(h.st i (by omega)).ok
theorem BG.log (h:BG p s t l xs R): ∀i,i≤xs.length→(R i).log=xs.take i
 |0,_=>by rw [h.r0];rfl
 |i+1,hi=>by rw [(h.st i (by omega)).log,h.log i (by omega),nW (by omega)]
theorem BG.snoc (h:BG p s t l xs R) {x:ai} {r':Run} (hr:EF p s t l x (R xs.length) r'):BG p s t l (xs++[x]) (fun i=>if i≤xs.length then R i else r'):=by
 refine⟨h.r0,fun i hi=> ?_⟩
 rw [List.length_append,List.length_singleton]at hi
 by_cases hx:i<xs.length
 ·rw [iT hx,if_pos (by omega),if_pos (by omega)];exact h.st i hx
 ·have:i=xs.length:=by omega
  subst this
  rw [jE,if_pos (by omega),if_neg (by omega)];exact hr
end
section
variable {p:ay} (hp:VP p) {s:State} (hs:VS p s) {t:Task} (h6:NY t) {l:List Item} (hl:l.length≤64)
include hp hs h6 hl
omit hs h6 hl in
theorem TB {xs:List ai} {R:Nat→Run} (h:BG p s t l xs R) {k i:Nat} (hk:k≤xs.length) (hn:xs.length≤1000) (hi:i<k):
  dQ (xs.take k) (R i,(i:Int))=some (.next (R (i+1),(i:Int)+1)):=by
 have hlen:(xs.take k).length=k:=by rw [List.length_take];omega
 have hat:at' (xs.take k) i=at' xs i:=Nb hi
 have S:=h.st i (by omega)
 have hlg:=h.log (i+1) (by omega)
 have hll:(R (i+1)).log.length=i+1:=by rw [hlg,List.length_take];omega
 have hla:at' (R (i+1)).log i=at' xs i:=by rw [hlg];exact Nb (by omega)
 have hev:=S.ev
 unfold Xw at hev
 unfold dQ
 simp only [Int.toNat_natCast]
 rw [bT (decide_eq_true (by omega)),aA (by omega)]
 simp only [hat]
 rw [S.pl,Option.bind_some,bF (by rfl),wr (by omega)]
 unfold qa
 rw [Option.bind_some]
 have k1:=S.knd.1;have k2:=S.knd.2
 by_cases e1:(at' xs i).kind=1
 ·rw [if_pos e1]at hev
  rw [bT (Dz e1),hev,Option.bind_some]
  simp only
  rw [bF (by rfl),aA (by omega),hla,bF (by simp)]
 rw [if_neg e1]at hev
 rw [bF (EQ e1)]
 by_cases e2:(at' xs i).kind=2
 ·rw [if_pos e2]at hev
  rw [bT (Dz e2),hev,Option.bind_some]
  simp only
  rw [bF (by rfl),aA (by omega),hla,bF (by simp)]
 rw [if_neg e2]at hev
 rw [bF (EQ e2)]
 by_cases e3:(at' xs i).kind=3
 ·rw [if_pos e3]at hev
  rw [bT (Dz e3),hev,Option.bind_some]
  simp only
  rw [bF (by rfl),aA (by omega),hla,bF (by simp)]
 rw [if_neg e3]at hev
 rw [bF (EQ e3)]
 by_cases e4:(at' xs i).kind=4
 ·rw [if_pos e4]at hev
  rw [bT (Dz e4),hev,Option.bind_some]
  simp only
  rw [bF (by rfl),aA (by omega),hla,bF (by simp)]
 rw [if_neg e4]at hev
 rw [bF (EQ e4)]
 rw [bT (Dz (by omega)),hev,Option.bind_some]
 simp only
 rw [bF (by rfl),aA (by omega),hla,bF (by simp)]
omit hs h6 hl in
theorem Pb {xs:List ai} {R:Nat→Run} (h:BG p s t l xs R) (hn:xs.length≤1000) (hb:bH p s t l=some (true,(l.length:Int),0,UC p s t l)) {k:Nat} (hk:k≤xs.length):
  eF p s t l (xs.take k)=some (true,(k:Int),0,R k):=by
 have hlen:(xs.take k).length=k:=by rw [List.length_take];omega
 unfold eF
 rw [hb,Option.bind_some]
 simp only
 rw [bT rfl,bF (by simp),bF (decide_eq_false (by omega))]
 have key:aW (dQ (xs.take k)) FUEL (R 0,((0:Nat):Int))=some (.brk (R k)):=by
  refine gF (body:=dQ (xs.take k)) (fun i=>(R i,(i:Int))) k _ (fuel_lt (by omega)) (fun i hi=> ?_) ?_
  ·rw [TB hp h hk hn hi];rfl
  ·unfold dQ
   simp only
   rw [bF (decide_eq_false (by omega))]
 rw [h.r0]at key
 rw [show aW (dQ (xs.take k)) FUEL (UC p s t l,0)=_ from key,Option.bind_some,hlen]
end
def xA:ay:=⟨3,[⟨0,1,500,0,20⟩],[⟨0,1,3,400,10,[]⟩,⟨1,2,2,400,10,[]⟩],[⟨⟨2, -1⟩,100,1⟩]⟩
def Ao:State:=⟨[true,true],[false,false],[false,false],[true],[false],[false,false,false],[false,false,false]⟩
def Pk:State:=⟨[false,true],[false,false],[false,false],[true],[false],[false,false,false],[false,false,false]⟩
def KY:State:=⟨[true,true],[false,false],[false,false],[true],[false],[false,false,false],[false,false,true]⟩
def Bh:List Item:=(List.range 32).flatMap fun i=>[⟨⟨1,0⟩,false⟩,⟨⟨2,0⟩,decide (i % 2=0)⟩]
def Ih:Task:=⟨[],[],[],[]⟩
theorem XV:(iI).map (fun r=>(r.1,r.2.1))=some (xA,Ao):=by kernel_rfl
theorem XW:aW oZ FUEL ([],0)=some (.brk Bh):=by kernel_rfl
theorem U0:eT xA Ao ⟨1,0⟩=some (Pk,0):=by kernel_rfl
theorem Vo:eT xA Pk ⟨2,0⟩=some (Ao,0):=by kernel_rfl
theorem TL:fM xA Pk (P8 Ih)=some 0:=by kernel_rfl
theorem SG:fM xA Ao (P8 Ih)=some 0:=by kernel_rfl
theorem VI:dF xA Ao ⟨1,2⟩=some (KY,0):=by kernel_rfl
theorem Ws:dF xA KY ⟨1,2⟩=some (KY,0):=by kernel_rfl
theorem qz:Bh.length=64:=by kernel_rfl
theorem SE:((List.range 64).all fun i=>((at' Bh i).step.deed==((1+i % 2:Nat):Int)) && (((at' Bh i).step.index==0) && ((at' Bh i).ack==decide (i % 4=1))))=true:=by kernel_rfl
theorem Vu {i:Nat} (h:i<64):(at' Bh i).step=⟨((1+i % 2:Nat):Int),0⟩∧(at' Bh i).ack=decide (i % 4=1):=by
 have:=List.all_eq_true.mp SE i (List.mem_range.mpr h)
 simp only [Bool.and_eq_true,beq_iff_eq]at this
 obtain⟨h1,h2,h3⟩:=this
 refine⟨?_,h3⟩
 revert h1 h2
 generalize (at' Bh i).step=z
 obtain⟨a,b⟩:=z
 intro h1 h2
 simp only at h1 h2
 rw [h1,h2]
theorem Vg:(bH xA Ao Ih Bh).map (fun r=>r.1)=some true:=by kernel_rfl
theorem PN:Small xA:=by
 refine⟨?_, ?_, ?_, ?_⟩<;>simp [xA]
theorem Gd {p:ay} {s:State} {t:Task} {l:List Item} {o:Option (Int × Run)} {r r':Run} {e:Int} (h:YF p s t l o r) (ho:o=some (e,r')) (hne:r'.log.length≠r.log.length): ∃x,EF p s t l x r r':=by
 obtain⟨e',r'',h1,h2⟩:=h
 rw [ho]at h1
 have h3:r'=r'':=(Prod.mk.inj (Option.some.inj h1)).2
 rw [←h3]at h2
 rcases h2 with h2|h2
 ·rw [h2]at hne;exact absurd rfl hne
 ·exact h2
abbrev QW:Setting:=⟨xA,Ao,P8 Ih,Bh⟩
theorem MN {r:Run} (h:1000≤r.log.length):dB r=some 2:=by
 unfold dB fw
 rw [Option.bind_some,bF rfl,bT (decide_eq_true (by omega))]
theorem Sm {r:Run} (hs:r.setting=QW) {x:aj} {u:State} (h1:eT xA r.now x=some (u,0)) (h2:fM xA u (P8 Ih)=some 0):fo x r=some (0,⟨r.setting,u,r.done,r.wait,r.back,r.log⟩):=by
 have hpl:r.setting.plant=xA:=by rw [hs]
 have htk:r.setting.task=P8 Ih:=by rw [hs]
 unfold fo iR
 rw [hpl,htk,h1]
 simp only [Option.bind_some]
 rw [bT (by simp),show(⟨u.closed,u.locked,u.badLink,u.on_,u.badSource,u.earthed,u.badBus⟩:State)=u from rfl,h2,Option.bind_some]
 rfl
def Mc (i:Nat):State:=if i % 2=0 then Ao else Pk
theorem XG (i:Nat):eT xA (Mc i) ⟨((1+i % 2:Nat):Int),0⟩=some (Mc (i+1),0)∧fM xA (Mc (i+1)) (P8 Ih)=some 0:=by
 rcases Nat.mod_two_eq_zero_or_one i with h|h
 ·have e1:Mc i=Ao:=by unfold Mc;rw [if_pos h]
  have e2:Mc (i+1)=Pk:=by unfold Mc;rw [if_neg (by omega)]
  rw [e1,e2,h];exact⟨U0,TL⟩
 ·have e1:Mc i=Pk:=by unfold Mc;rw [if_neg (by omega)]
  have e2:Mc (i+1)=Ao:=by unfold Mc;rw [if_pos (by omega)]
  rw [e1,e2,h];exact⟨Vo,SG⟩
theorem TM {r:Run} (hs:r.setting=QW) {i:Nat} (hi:i<64) (hn:r.now=Mc i) (hd:r.done=i) (hw:r.wait=false) (hb:r.back=false) (hg:r.log.length<1000):
  ∃x,aX r=some (0,⟨r.setting,Mc (i+1),((i+1:Nat):Int),decide (i % 4=1),false,r.log++[x]⟩):=by
 obtain⟨a1,a2⟩:=Vu hi
 obtain⟨b1,b2⟩:=XG i
 have hit:r.setting.items=Bh:=by rw [hs]
 have hl:=qz
 refine⟨⟨1,⟨((1+i % 2:Nat):Int),0⟩,⟨0,0⟩,0⟩, ?_⟩
 unfold aX
 rw [o7 hg,Option.bind_some,bF (by rfl),bF hb,bF hw,hit,bF (by rw [hd,hl];exact decide_eq_false (by omega)),hd,Int.toNat_natCast,aA (by omega),a1,Sm hs (by rw [hn];exact b1) b2,Option.bind_some]
 simp only
 rw [bF (by rfl),aA ⟨by simp only [List.length_singleton];omega,by simp only [List.length_singleton];omega⟩,hd,wr (by omega),hb,a2];rfl
theorem Wn {r:Run} (hw:r.wait=true) (hg:r.log.length<1000):dw 1000 r=some (0,⟨r.setting,r.now,r.done,false,r.back,r.log++[⟨2,⟨0,0⟩,⟨0,0⟩,1000⟩]⟩):=by
 unfold dw
 rw [o7 hg,Option.bind_some,bF (by rfl),bF (by rw [hw];rfl),bF (by rfl),aA ⟨by simp only [List.length_singleton];omega,by simp only [List.length_singleton];omega⟩]
theorem Ue {r:Run} (hs:r.setting=QW) (hn:r.now=Ao∨r.now=KY) (hg:r.log.length<1000):bY ⟨1,2⟩ r=some (0,⟨r.setting,KY,r.done,r.wait,r.back,r.log++[⟨4,⟨0,0⟩,⟨1,2⟩,0⟩]⟩):=by
 have hpl:r.setting.plant=xA:=by rw [hs]
 have hB:dF xA r.now ⟨1,2⟩=some (KY,0):=by
  rcases hn with h|h
  ·rw [h];exact VI
  ·rw [h];exact Ws
 unfold bY jX
 rw [o7 hg,Option.bind_some,bF (by rfl),hpl,hB,Option.bind_some]
 simp only
 rw [bF (by rfl),aA ⟨by simp only [List.length_singleton];omega,by simp only [List.length_singleton];omega⟩,Option.bind_some]
theorem En:NY Ih:=⟨Nat.zero_le _,Nat.zero_le _,Nat.zero_le _,Nat.zero_le _⟩
section
variable (hp:VP xA) (hs:VS xA Ao)
include hp hs
theorem QH: ∀(m i:Nat) (xs:List ai) (R:Nat→Run) (r:Run),i+m=64→BG xA Ao Ih Bh xs R→R xs.length=r→xs.length=i+(i+2) / 4→r.now=Mc i→r.done=i→r.wait=false→r.back=false→
  ∃xs' R' r',aW fT (m+1) (r,(i:Int))=some (.brk r')∧BG xA Ao Ih Bh xs' R'∧R' xs'.length=r'∧xs'.length=80∧r'.now=Ao∧r'.done=64∧r'.wait=false∧r'.back=false
 |0,i,xs,R,r,hi,hh,hr,hx,hn,hd,hw,hb=>by
  have:i=64:=by omega
  subst this
  refine⟨xs,R,r, ?_,hh,hr,by omega,hn,hd,hw,hb⟩
  rw [cu]
  unfold fT
  simp only
  rw [bF (decide_eq_false (by omega))]
 |m+1,i,xs,R,r,hi,hh,hr,hx,hn,hd,hw,hb=>by
  have hlt:i<64:=by omega
  have hO:=hh.ok hs xs.length (Nat.le_refl _)
  rw [hr]at hO
  have hlg:r.log.length=xs.length:=by rw [←hr,hh.log _ (Nat.le_refl _),List.take_length]
  obtain⟨x,hN⟩:=TM hO.set hlt hn hd hw hb (by omega)
  obtain⟨r1,hr1⟩: ∃r1:Run,r1=⟨r.setting,Mc (i+1),((i+1:Nat):Int),decide (i % 4=1),false,r.log++[x]⟩:=⟨_,rfl⟩
  rw [←hr1]at hN
  have hl1:r1.log.length=xs.length+1:=by rw [hr1,←hlg];simp only [List.length_append,List.length_singleton]
  obtain⟨y,hS⟩:=Gd (RD hp En (by rw [qz];omega) hO (by omega)) hN (by omega)
  have hS':EF xA Ao Ih Bh y (R xs.length) r1:=by rw [hr];exact hS
  have hh1:=hh.snoc hS'
  have e1:(if(xs++[y]).length≤xs.length then R (xs++[y]).length else r1)=r1:=by rw [List.length_append,List.length_singleton,if_neg (by omega)]
  have hxl:(xs++[y]).length=xs.length+1:=by rw [List.length_append,List.length_singleton]
  have hO1:=hh1.ok hs _ (Nat.le_refl _)
  simp only [e1]at hO1
  rw [cu]
  unfold fT
  simp only
  have ht:Int.tmod (i:Int) 4=((i % 4:Nat):Int):=rfl
  rw [bT (decide_eq_true (by omega)),hN,Option.bind_some]
  simp only
  rw [bF (by rfl),ht,wr (by omega)]
  by_cases h4:i % 4=1
  ·have hA:=Wn (r:=r1) (by rw [hr1];exact decide_eq_true h4) (by omega)
   obtain⟨r2,hr2⟩: ∃r2:Run,r2=⟨r1.setting,r1.now,r1.done,false,r1.back,r1.log++[⟨2,⟨0,0⟩,⟨0,0⟩,1000⟩]⟩:=⟨_,rfl⟩
   rw [←hr2]at hA
   have hl2:r2.log.length=xs.length+2:=by rw [hr2];simp only [List.length_append,List.length_singleton];omega
   obtain⟨z,hS2⟩:=Gd (SN hp En hO1 (by omega) 1000) hA (by omega)
   have hS2':EF xA Ao Ih Bh z ((fun i=>if i≤xs.length then R i else r1) (xs++[y]).length) r2:=by simp only [e1];exact hS2
   have hh2:=hh1.snoc hS2'
   have hxl2:(xs++[y]++[z]).length=xs.length+2:=by rw [List.length_append,List.length_singleton,hxl]
   rw [bT (decide_eq_true (by omega)),hA,Option.bind_some,aA (fun _=>by decide),bF (by rfl)]
   exact QH m (i+1) _ _ r2 (by omega) hh2 (by simp only [hxl2,hxl];rw [if_neg (by omega)]) (by rw [hxl2];omega) (by rw [hr2,hr1]) (by rw [hr2,hr1]) (by rw [hr2]) (by rw [hr2,hr1])
  ·rw [bF (decide_eq_false (by omega)),aA (fun _=>by decide)]
   exact QH m (i+1) _ _ r1 (by omega) hh1 e1 (by
    rw [hxl]
    have h3:i % 4=0∨i % 4=2∨i % 4=3:=by omega
    rcases h3 with h3|h3|h3<;>omega) (by rw [hr1]) (by rw [hr1]) (by rw [hr1];exact decide_eq_false h4) (by rw [hr1])
theorem UR: ∀(m i:Nat) (xs:List ai) (R:Nat→Run) (r:Run),i+m=1000→BG xA Ao Ih Bh xs R→R xs.length=r→xs.length=i→(r.now=Ao∨r.now=KY)→
  ∃xs' R' r',(∃k,k≤m+1∧aW fV k (r,(i:Int))=some (.brk r'))∧BG xA Ao Ih Bh xs' R'∧R' xs'.length=r'∧xs'.length=1000
 |0,i,xs,R,r,hi,hh,hr,hx,hn=>by
  refine⟨xs,R,r,⟨1,by omega, ?_⟩,hh,hr,by omega⟩
  ·rw [cu]
   unfold fV
   simp only
   rw [bF (decide_eq_false (by omega))]
 |m+1,i,xs,R,r,hi,hh,hr,hx,hn=>by
  have hO:=hh.ok hs xs.length (Nat.le_refl _)
  rw [hr]at hO
  have hlg:r.log.length=xs.length:=by rw [←hr,hh.log _ (Nat.le_refl _),List.take_length]
  have hF:=Ue hO.set hn (by omega)
  obtain⟨r1,hr1⟩: ∃r1:Run,r1=⟨r.setting,KY,r.done,r.wait,r.back,r.log++[⟨4,⟨0,0⟩,⟨1,2⟩,0⟩]⟩:=⟨_,rfl⟩
  rw [←hr1]at hF
  have hl1:r1.log.length=xs.length+1:=by rw [hr1,←hlg];simp only [List.length_append,List.length_singleton]
  obtain⟨y,hS⟩:=Gd (Rv hp En hO (by omega) ⟨1,2⟩) hF (by omega)
  have hS':EF xA Ao Ih Bh y (R xs.length) r1:=by rw [hr];exact hS
  have hh1:=hh.snoc hS'
  have e1:(if(xs++[y]).length≤xs.length then R (xs++[y]).length else r1)=r1:=by rw [List.length_append,List.length_singleton,if_neg (by omega)]
  have hxl:(xs++[y]).length=xs.length+1:=by rw [List.length_append,List.length_singleton]
  obtain⟨xs',R',r',⟨k2,c2,d2⟩,h3,h4,h5⟩:=UR m (i+1) _ _ r1 (by omega) hh1 e1 (by rw [hxl];omega) (.inr (by rw [hr1]))
  refine⟨xs',R',r',⟨k2+1,by omega, ?_⟩,h3,h4,h5⟩
  ·rw [cu]
   unfold fV
   simp only
   rw [bT (decide_eq_true (by omega)),hF,Option.bind_some]
   simp only
   rw [bF (by rfl),wr (by omega)]
   exact d2
end
theorem F5:kL=some true:=by
 obtain⟨a,ha,ha1,ha2⟩: ∃a,iI=some a∧a.1=xA∧a.2.1=Ao:=by
  have:=XV
  cases h:iI with
  |none=>rw [h]at this;cases this
  |some a=>
   rw [h]at this
   have h2:=Prod.mk.inj (Option.some.inj this)
   exact⟨a,rfl,h2.1,h2.2⟩
 rcases Rm PN Ao En (l:=Bh) (by rw [qz];omega)with⟨n,e,he,hbg⟩|⟨q1,q2,q3,q4,⟨u,hu⟩,hbg⟩
 ·have:=Vg
  rw [hbg]at this;cases this
 have hbg':bH xA Ao (⟨[],[],[],[]⟩:Task) Bh=some (true,(Bh.length:Int),0,UC xA Ao Ih Bh):=hbg
 have hbad:bH xA Ao (⟨[],[],[],[]⟩:Task) (Bh++[(⟨((at' Bh 0).step),(at' Bh 0).ack⟩:Item)])=some (false,0,2,default):=O7 (by rw [List.length_append,qz];decide)
 have h0:BG xA Ao Ih Bh [] (fun _=>UC xA Ao Ih Bh):=⟨rfl,fun i hi=>by simp at hi⟩
 obtain⟨xs1,R1,r1,l1,hh1,f1,x1,n1,d1,w1,b1⟩:=QH q1 q2 64 0 [] _ (UC xA Ao Ih Bh) (by omega) h0 rfl rfl rfl rfl rfl rfl
 have l1':aW fT FUEL (UC xA Ao Ih Bh,0)=some (.brk r1):=kY l1 (by unfold FUEL;omega)
 have hlg1:r1.log.length=80:=by rw [←f1,hh1.log _ (Nat.le_refl _),List.take_length];exact x1
 have hO1:=hh1.ok q2 xs1.length (Nat.le_refl _)
 rw [f1]at hO1
 have hN1:aX r1=some (4,r1):=by
  unfold aX
  rw [o7 (by omega),Option.bind_some,bF (by rfl),bF b1,bF w1,bT (decide_eq_true (by rw [d1,hO1.set,qz];rfl))]
 obtain⟨xs,R,r,⟨k,ck,l2⟩,hh,f2,x2⟩:=UR q1 q2 920 80 xs1 R1 r1 (by omega) hh1 f1 x1 (.inl n1)
 have l2':aW fV FUEL (r1,80)=some (.brk r):=kY l2 (by unfold FUEL;omega)
 have hlg:r.log=xs:=by rw [←f2,hh.log _ (Nat.le_refl _),List.take_length]
 have hLog:jA r=some (xs,0):=by
  unfold jA fw
  rw [Option.bind_some,bF rfl,hlg,aA (by omega)]
 have hgf:=MN (r:=r) (by rw [hlg];omega)
 have e1:bY ⟨1,2⟩ r=some (2,r):=by unfold bY jX;rw [hgf,Option.bind_some,bT (by rfl)];rfl
 have e2:eu r=some (2,r):=by unfold eu;rw [hgf,Option.bind_some,bT (by rfl)]
 have e3:aX r=some (2,r):=by unfold aX;rw [hgf,Option.bind_some,bT (by rfl)]
 have e4:dw 1 r=some (2,r):=by unfold dw;rw [hgf,Option.bind_some,bT (by rfl)]
 have hrp:=Pb q1 hh (by omega) hbg (Nat.le_refl xs.length)
 rw [List.take_length]at hrp
 have hrp':eF xA Ao (⟨[],[],[],[]⟩:Task) Bh xs=some (true,(xs.length:Int),0,R xs.length):=hrp
 have hrb: ∀y,eF xA Ao (⟨[],[],[],[]⟩:Task) Bh (xs++[y])=some (false,0,2,default):=fun y=>by
  unfold eF
  rw [hbg',Option.bind_some]
  simp only
  rw [bT rfl,bF (by simp),bT (decide_eq_true (by rw [List.length_append,List.length_singleton,x2];decide))]
 unfold kL
 rw [ha,Option.bind_some,XW,Option.bind_some]
 simp only
 rw [ha1,ha2,hbg',Option.bind_some]
 simp only
 rw [aA trivial,hbad,Option.bind_some]
 simp only
 rw [aA trivial,aA ⟨by rw [qz];omega,by rw [qz];simp only [List.length_singleton];omega,by rw [qz];simp only [List.length_singleton];omega⟩,bF (by rw [qz];rfl),l1',Option.bind_some]
 simp only
 rw [hN1,Option.bind_some]
 simp only
 rw [bF (by rfl),l2',Option.bind_some]
 simp only
 rw [hLog,Option.bind_some]
 simp only
 rw [bF (by rw [x2];rfl),e1,Option.bind_some]
 simp only
 rw [bF (by rfl),e2,Option.bind_some]
 simp only
 rw [bF (by rfl),e3,Option.bind_some]
 simp only
 rw [bF (by rfl),e4,Option.bind_some]
 simp only
 rw [bF (by rfl),hrp',Option.bind_some]
 simp only
 rw [aA trivial,hrb,Option.bind_some]
 simp only
 rw [aA trivial,aA ⟨by omega,by simp only [List.length_singleton];omega,by simp only [List.length_singleton];omega⟩,bF (by rw [x2];rfl)]
 rw [ME]
 refine Eq.trans ?_ (rfl:some true=some true)
 kernel_rfl
end Sg
