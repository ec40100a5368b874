import Derived.Test.YtolddefbejdanaaDoorLoLc
import Derived.Test.YtolddefbejdanaaDoorLoGm
import Derived.KernelRfl
set_option linter.all false
namespace Sg
open Go
theorem wr {x:Int} (h: -9223372036854775808≤x∧x≤9223372036854775807):IntKind.wrap .i64 x=x:=by rw [IntKind.wrap_i64];omega
theorem kE {σ ρ:Type} {body:σ→Option (dw σ ρ)}: ∀{n m:Nat} {s:σ} {r:ρ},aK body n s=some r→n≤m→aK body m s=some r
 |0,_,_,_,h,_=>by cases h
 |n+1,0,_,_,_,hm=>by omega
 |n+1,m+1,s,r,h,hm=>by
  rw [bR]at h ⊢
  revert h
  cases body s with
  |none=>exact id
  |some f=>
   cases f with
   |next s'=>exact fun h=>kE h (by omega)
   |done r=>exact id
theorem BS {σ ρ:Type} {body:σ→Option (dw σ ρ)} (S:Nat→σ) (k:Nat) (hs: ∀i,i<k→body (S i)=some (.next (S (i+1)))): ∀(m:Nat),aK body (k+m) (S 0)=aK body m (S k):=by
 induction k with
 |zero=>intro m;simp
 |succ k ih=>
  intro m
  have:=ih (fun i hi=>hs i (by omega)) (m+1)
  rw [show k+1+m=k+(m+1) by omega,this,bR,hs k (by omega)]
theorem dJ {σ ρ:Type} {body:σ→Option (dw σ ρ)} {N:Nat} (S:Nat→σ) (k:Nat) (r:ρ) (hk:k<N) (hs: ∀i,i<k→body (S i)=some (.next (S (i+1)))) (hd:body (S k)=some (.done r)):aK body N (S 0)=some r:=by
 have h:=BS S k hs 1
 have h1:aK body 1 (S k)=some r:=by rw [bR,hd]
 exact kE (h.trans h1) (by omega)
theorem fuel_lt {k:Nat} (h:k≤9223372036854775807):k<FUEL:=by unfold FUEL;omega
section
variable {α:Type} [Inhabited α]
theorem gu {l:List α} {i:Nat} (h:i<l.length):at' l i=l[i]:=by simp [at',h]
theorem at_mem {l:List α} {i:Nat} (h:i<l.length):at' l i∈l:=by rw [gu h];exact List.getElem_mem h
theorem gm {l:List α} {x:α} (h:x∈l): ∃i,i<l.length∧at' l i=x:=by
 obtain⟨i,hi,e⟩:=List.mem_iff_getElem.mp h
 exact⟨i,hi,by rw [gu hi];exact e⟩
theorem yC {l m:List α} (hl:l.length=m.length) (h: ∀i,i<l.length→at' l i=at' m i):l=m:=by
 apply List.ext_getElem hl
 intro i h1 h2
 have:=h i h1
 rwa [gu h1,gu h2]at this
theorem ow {l:List α} {i:Nat} (h:i<l.length):l.take (i+1)=l.take i++[at' l i]:=by
 rw [gu h,List.take_succ_eq_append_getElem h]
theorem rX {ρ:Type} {body:Int→Option (dw Int (Ex Unit ρ))} (l:List α) (bad:α→Bool) (f:Int→ρ) (hl:l.length≤9223372036854775807)
  (hb: ∀i:Nat,i<l.length→body i=some (bif bad (at' l i)then .done (.ret (f i))else .next ((i:Int)+1))) (he:body l.length=some (.done (.brk ()))):
  aK body FUEL 0=some (match l.findIdx? bad with|some i=> .ret (f i)|none=> .brk ()):=by
 cases h:l.findIdx? bad with
 |none=>
  rw [List.findIdx?_eq_none_iff]at h
  refine dJ (fun i=>(i:Int)) l.length _ (fuel_lt (by omega)) (fun i hi=> ?_) he
  rw [hb i hi,h _ (at_mem hi)];simp
 |some k=>
  rw [List.findIdx?_eq_some_iff_getElem]at h
  obtain⟨hk,hp,hn⟩:=h
  refine dJ (fun i=>(i:Int)) k _ (fuel_lt (by omega)) (fun i hi=> ?_) ?_
  ·have:=hn i hi
   rw [hb i (by omega),gu (by omega)]
   simp [this]
  ·rw [hb k hk,gu hk,hp];rfl
omit [Inhabited α]in
theorem qz (l:List α) (bad:α→Bool):(decide ((0:Int)≤(match l.findIdx? bad with|some i=>(i:Int)|none=> -1)))=l.any bad:=by
 cases h:l.findIdx? bad with
 |none=>
  rw [List.findIdx?_eq_none_iff]at h
  have:l.any bad=false:=by rw [List.any_eq_false];intro x hx;simp [h x hx]
  rw [this];simp
 |some k=>
  rw [List.findIdx?_eq_some_iff_getElem]at h
  obtain⟨hk,hp,hn⟩:=h
  have:l.any bad=true:=by rw [List.any_eq_true];exact⟨_,List.getElem_mem hk,hp⟩
  rw [this];simp
end
section
variable {α:Type}
theorem Bg {a b:Int}:bg a b=true↔a=b:=by simp [bg]
theorem xI (a:Int):bg a a=true:=Bg.mpr rfl
theorem Ec {a b:Int} (h:a≠b):bg a b=false:=by cases e:bg a b with|false=>rfl|true=>exact absurd (Bg.mp e) h
theorem eu (k:Int) (v:α): ∀l:List (Int × α),aJ bg k (dU bg k v l)=some v
 |[]=>by simp [dU,aJ,xI]
 |(k',v')::l=>by
  unfold dU
  cases e:bg k k' with
  |true=>simp [aJ,xI]
  |false=>simp only [cond_false,aJ,e];exact eu k v l
theorem gI {k j:Int} (h:j≠k) (v:α): ∀l:List (Int × α),aJ bg j (dU bg k v l)=aJ bg j l
 |[]=>by simp [dU,aJ,Ec h]
 |(k',v')::l=>by
  unfold dU
  cases e:bg k k' with
  |true=>
   have:k=k':=Bg.mp e
   subst this
   simp [aJ,Ec h]
  |false=>simp only [cond_false,aJ,gI h v l]
end
theorem yt {α:Type} (c:Bool) (x y:α):(bif c then some x else some y)=some (bif c then x else y):=by cases c<;>rfl
theorem kP {ρ:Type} {body:Int→Option (dw Int (Ex Unit ρ))} (n:Nat) (bad:Nat→Bool) (f:Int→ρ) (hl:n≤9223372036854775807)
  (hb: ∀i:Nat,i<n→body i=some (bif bad i then .done (.ret (f i))else .next ((i:Int)+1))) (he:body n=some (.done (.brk ()))):
  aK body FUEL 0=some (match(List.range n).find? bad with|some i=> .ret (f i)|none=> .brk ()):=by
 cases h:(List.range n).find? bad with
 |none=>
  rw [List.find?_eq_none]at h
  refine dJ (fun i=>(i:Int)) n _ (fuel_lt (by omega)) (fun i hi=> ?_) he
  rw [hb i hi]
  have:=h i (List.mem_range.mpr hi)
  simp at this;simp [this]
 |some k=>
  rw [List.find?_range_eq_some]at h
  obtain⟨hp,hk,hn⟩:=h
  rw [List.mem_range]at hk
  refine dJ (fun i=>(i:Int)) k _ (fuel_lt (by omega)) (fun i hi=> ?_) ?_
  ·have:=hn i hi
   rw [hb i (by omega)]
   simp at this;simp [this]
  ·rw [hb k hk,hp];rfl
theorem tO {α:Type} (p:α→Bool): ∀l:List α,(l.find? p).isSome=l.any p
 |[]=>rfl
 |x::l=>by
  rw [List.any_cons,List.find?_cons]
  cases h:p x with
  |true=>simp
  |false=>simpa using tO p l
def wi (n a b:Int):Bool:=decide (a≤n) && decide (n≤b)
theorem oH {n a b:Int}:wi n a b=true↔a≤n∧n≤b:=by simp [wi]
theorem ji (n a b:Int):aF n a b=some (wi n a b):=by
 unfold aF wi;cases decide (a≤n)<;>rfl
def mJ (b:Int) (x:Source):Bool:=wi x.bus 0 (b - 1) && wi x.kind 1 3 && wi x.power 1 100000 && wi x.sync 0 8 && wi x.ohm 10 100000
theorem FQ {b:Int} (hb:1≤b∧b≤24) (x:Source) (l1:List Source) (l2:List Link) (l3:List aO):iJ x b l1 l2 l3=some (mJ b x):=by
 unfold iJ mJ
 simp only [ji,Option.bind_some]
 rw [wr (by omega)]
 generalize wi x.bus 0 (b - 1)=b1
 generalize wi x.kind 1 3=b2
 generalize wi x.power 1 100000=b3
 generalize wi x.sync 0 8=b4
 generalize wi x.ohm 10 100000=b5
 cases b1<;>cases b2<;>cases b3<;>cases b4<;>cases b5<;>rfl
def mM (l:List dR) (i:Nat):Bool:=
 !wi (at' l i).amps 1 1000000|| !wi (at' l i).millis 1 100000||(decide (0<i) && (decide ((at' l i).amps≤(at' l (i - 1)).amps)||decide ((at' l (i - 1)).millis≤(at' l i).millis)))
def jV (b:Int) (x:Link):Bool:=
 wi x.a 0 (b - 1) && wi x.b 0 (b - 1) && !decide (x.a=x.b) && wi x.kind 1 3 && wi x.most 1 100000 && wi x.ohm 10 100000 && !(List.range x.trip.length).any (mM x.trip) && decide ((x.trip.length:Int)≤6) && (decide ((x.trip.length:Int)=0)||decide (x.kind=3))
theorem J5 {α:Type} [Inhabited α] (l:List α) (i:Nat) (h:0<i):at' l (((i:Int) - 1).toNat)=at' l (i - 1):=by
 congr 1;omega
theorem KX (x:Link) (hx:x.trip.length≤9223372036854775807):aK (iy x) FUEL 0=some (match(List.range x.trip.length).find? (mM x.trip)with|some _=> .ret false|none=> .brk ()):=by
 refine kP x.trip.length (mM x.trip) (fun _=>false) hx (fun i hi=> ?_) ?_
 ·unfold iy
  have h1:decide ((i:Int)<(x.trip.length:Int))=true:=by simp;omega
  rw [h1,cond_true,aM (by omega)]
  simp only [ji,Option.bind_some,Int.toNat_natCast]
  rw [wr (x:=(i:Int) - 1) (by omega),wr (x:=(i:Int)+1) (by omega)]
  unfold mM
  by_cases h0:0<i
  ·rw [J5 _ _ h0]
   simp only [h0,Int.natCast_pos,decide_true]
   generalize wi (at' x.trip i).amps 1 1000000=b1
   generalize wi (at' x.trip i).millis 1 100000=b2
   generalize decide ((at' x.trip i).amps≤(at' x.trip (i - 1)).amps)=b3
   generalize decide ((at' x.trip (i - 1)).millis≤(at' x.trip i).millis)=b4
   cases b1<;>cases b2<;>cases b3<;>cases b4<;>simp [gB,eY]<;>omega
  ·have:i=0:=by omega
   subst this
   generalize wi (at' x.trip 0).amps 1 1000000=b1
   generalize wi (at' x.trip 0).millis 1 100000=b2
   cases b1<;>cases b2<;>simp [gB,eY]
 ·unfold iy
  have h1:decide ((x.trip.length:Int)<(x.trip.length:Int))=false:=by simp
  rw [h1];rfl
theorem JX {b:Int} (hb:1≤b∧b≤24) (x:Link) (hx:x.trip.length≤9223372036854775807) (l1:List Source) (l2:List Link) (l3:List aO):jM x b l1 l2 l3=some (jV b x):=by
 unfold jM jV
 simp only [ji,Option.bind_some]
 rw [wr (by omega),KX x hx]
 generalize wi x.a 0 (b - 1)=b1
 generalize wi x.b 0 (b - 1)=b2
 generalize decide (x.a=x.b)=b3
 generalize wi x.kind 1 3=b4
 generalize wi x.most 1 100000=b5
 generalize wi x.ohm 10 100000=b6
 have:(List.range x.trip.length).any (mM x.trip)=((List.range x.trip.length).find? (mM x.trip)).isSome:=(tO _ _).symm
 rw [this]
 cases b1<;>cases b2<;>cases b3<;>cases b4<;>cases b5<;>cases b6<;>try rfl
 cases(List.range x.trip.length).find? (mM x.trip)with
 |some k=>simp [gB]
 |none=>
  simp only [gB,Option.bind_some,Option.isSome_none]
  generalize decide ((x.trip.length:Int)≤6)=c1
  generalize decide ((x.trip.length:Int)=0)=c2
  generalize decide (x.kind=3)=c3
  cases c1<;>cases c2<;>cases c3<;>rfl
def qE (x:aO):Int:=if x.feeds.e1= -1 then 1 else 2
def jO (b:Int) (x:aO):Bool:=wi x.feeds.e0 0 (b - 1) && wi x.feeds.e1 (-1) (b - 1) && !decide (x.feeds.e0=x.feeds.e1) && wi x.power 1 100000 && wi x.paths 0 (qE x)
theorem Jz (x:aO):kG x=some (qE x):=by
 unfold kG qE
 by_cases h:x.feeds.e1= -1<;>simp [h]
theorem KO {b:Int} (hb:1≤b∧b≤24) (x:aO) (l1:List Source) (l2:List Link) (l3:List aO):jZ x b l1 l2 l3=some (jO b x):=by
 unfold jZ jO
 simp only [ji,Option.bind_some,Jz]
 rw [wr (by omega)]
 generalize wi x.feeds.e0 0 (b - 1)=b1
 generalize wi x.feeds.e1 (-1) (b - 1)=b2
 generalize decide (x.feeds.e0=x.feeds.e1)=b3
 generalize hb4:wi x.power 1 100000=b4
 cases b1<;>cases b2<;>cases b3<;>cases b4<;>simp [gB]<;>rfl
theorem qf {α ρ:Type} [Inhabited α] {l:List α} {i:Nat} (hi:i<l.length) (hl:l.length≤9223372036854775807) (b:Bool) (f:Int→ρ) (G:Option (dw Int (Ex Unit ρ))):
  (bif (decide ((i:Int)<(l.length:Int)))then((some b).bind fun r_=>eY ((0:Int)≤(i:Int)∧(i:Int)<(l.length:Int)) (bif r_ then some (.done (.ret (f (i:Int))))else some (.next (IntKind.wrap .i64 ((i:Int)+1)))))else G)=some (bif b then .done (.ret (f i))else .next ((i:Int)+1)):=by
 have h1:decide ((i:Int)<(l.length:Int))=true:=by simp;omega
 rw [h1,cond_true,Option.bind_some,aM (by omega),wr (by omega)]
 cases b<;>rfl
theorem Ji {b:Int} (hb:1≤b∧b≤24) (l:List Source) (hl:l.length≤9223372036854775807) (m:Int) (l1:List Source) (l2:List Link) (l3:List aO):
  kZ l m b l1 l2 l3=some (decide ((l.length:Int)≤m) && l.all (mJ b)):=by
 have hs:eT l b l1 l2 l3=some (l.any fun x=> !mJ b x):=by
  unfold eT jh
  rw [rX l (fun x=> !mJ b x) id hl (fun i hi=> ?_) ?_]
  ·rw [←qz];cases l.findIdx? fun x=> !mJ b x<;>rfl
  ·unfold ig;simp
  ·unfold ig lN
   rw [Int.toNat_natCast,FQ hb,Option.bind_some]
   exact qf hi hl _ id _
 unfold kZ
 rw [hs]
 have:(!l.any fun x=> !mJ b x)=l.all (mJ b):=by rw [List.not_any_eq_all_not];simp
 rw [←this]
 cases decide ((l.length:Int)≤m)<;>simp [gB]
theorem G6 {b:Int} (hb:1≤b∧b≤24) (l:List Link) (hl:l.length≤9223372036854775807) (ht: ∀x∈l,x.trip.length≤9223372036854775807) (m:Int) (l1:List Source) (l2:List Link) (l3:List aO):
  jW l m b l1 l2 l3=some (decide ((l.length:Int)≤m) && l.all (jV b)):=by
 have hs:dM l b l1 l2 l3=some (l.any fun x=> !jV b x):=by
  unfold dM gZ
  rw [rX l (fun x=> !jV b x) id hl (fun i hi=> ?_) ?_]
  ·rw [←qz];cases l.findIdx? fun x=> !jV b x<;>rfl
  ·unfold fM;simp
  ·unfold fM jU
   rw [Int.toNat_natCast,JX hb _ (ht _ (at_mem hi)),Option.bind_some]
   exact qf hi hl _ id _
 unfold jW
 rw [hs]
 have:(!l.any fun x=> !jV b x)=l.all (jV b):=by rw [List.not_any_eq_all_not];simp
 rw [←this]
 cases decide ((l.length:Int)≤m)<;>simp [gB]
theorem Gl {b:Int} (hb:1≤b∧b≤24) (l:List aO) (hl:l.length≤9223372036854775807) (m:Int) (l1:List Source) (l2:List Link) (l3:List aO):
  jX l m b l1 l2 l3=some (decide ((l.length:Int)≤m) && l.all (jO b)):=by
 have hs:dN l b l1 l2 l3=some (l.any fun x=> !jO b x):=by
  unfold dN ic
  rw [rX l (fun x=> !jO b x) id hl (fun i hi=> ?_) ?_]
  ·rw [←qz];cases l.findIdx? fun x=> !jO b x<;>rfl
  ·unfold fI;simp
  ·unfold fI jL
   rw [Int.toNat_natCast,KO hb,Option.bind_some]
   exact qf hi hl _ id _
 unfold jX
 rw [hs]
 have:(!l.any fun x=> !jO b x)=l.all (jO b):=by rw [List.not_any_eq_all_not];simp
 rw [←this]
 cases decide ((l.length:Int)≤m)<;>simp [gB]
structure Small (p:au):Prop where
 src:p.sources.length≤9223372036854775807
 lnk:p.links.length≤9223372036854775807
 rck:p.racks.length≤9223372036854775807
 trp: ∀x∈p.links,x.trip.length≤9223372036854775807
def oI (p:au):Int:=
 if wi p.buses 1 24=false then 10 else if(decide ((p.sources.length:Int)≤8) && p.sources.all (mJ p.buses))=false then 11
 else if(decide ((p.links.length:Int)≤40) && p.links.all (jV p.buses))=false then 12 else if(decide ((p.racks.length:Int)≤24) && p.racks.all (jO p.buses))=false then 13 else 0
theorem Dx (p:au) (hp:Small p):dY p=some (oI p):=by
 unfold dY oI
 simp only [ji,Option.bind_some,lM,nY,ou]
 cases h0:wi p.buses 1 24 with
 |false=>simp
 |true=>
  have hb:=oH.mp h0
  rw [Ji hb _ hp.src,G6 hb _ hp.lnk hp.trp,Gl hb _ hp.rck]
  simp only [Option.bind_some,Bool.not_true,cond_false]
  generalize (decide ((p.sources.length:Int)≤8) && p.sources.all (mJ p.buses))=b1
  generalize (decide ((p.links.length:Int)≤40) && p.links.all (jV p.buses))=b2
  generalize (decide ((p.racks.length:Int)≤24) && p.racks.all (jO p.buses))=b3
  cases b1<;>cases b2<;>cases b3<;>simp
def kV (p:au) (s:State):Bool:=
 decide (s.closed.length=p.links.length) && decide (s.locked.length=p.links.length) && decide (s.badLink.length=p.links.length) && decide (s.on_.length=p.sources.length) && decide (s.badSource.length=p.sources.length) &&
 decide ((s.earthed.length:Int)=p.buses) && decide ((s.badBus.length:Int)=p.buses)
def iD (p:au) (s:State) (i:Nat):Bool:=decide ((at' p.links i).kind=1) && (!at' s.closed i||at' s.locked i)
def sj (p:au) (s:State):Int:=if oI p≠0 then oI p else if kV p s && !(List.range p.links.length).any (iD p s)then 0 else 9
theorem iZ (p:au) (s:State) (hp:Small p):aW p s=some (sj p s):=by
 unfold aW sj
 rw [Dx p hp,Option.bind_some]
 by_cases hc:oI p=0
 ·rw [hc]
  simp only [decide_true,Bool.not_true,cond_false,ne_eq,not_true_eq_false,if_false]
  have h0:aK (eP p s) FUEL 0=some (bif kV p s then .brk ()else .ret 9):=by
   have key:=kP (body:=eP p s) 7 (fun i=> !decide (((at' [(⟨s.closed,(p.links.length:Int)⟩:bD),(⟨s.locked,(p.links.length:Int)⟩:bD),(⟨s.badLink,(p.links.length:Int)⟩:bD),(⟨s.on_,(p.sources.length:Int)⟩:bD),(⟨s.badSource,(p.sources.length:Int)⟩:bD),(⟨s.earthed,p.buses⟩:bD),(⟨s.badBus,p.buses⟩:bD)] i).l.length:Int)=(at' [(⟨s.closed,(p.links.length:Int)⟩:bD),(⟨s.locked,(p.links.length:Int)⟩:bD),(⟨s.badLink,(p.links.length:Int)⟩:bD),(⟨s.on_,(p.sources.length:Int)⟩:bD),(⟨s.badSource,(p.sources.length:Int)⟩:bD),(⟨s.earthed,p.buses⟩:bD),(⟨s.badBus,p.buses⟩:bD)] i).n)) (fun _=>(9:Int)) (by omega) (fun i hi=> ?_) ?_
   ·rw [key]
    have e:((List.range 7).find? fun i=> !decide (((at' [(⟨s.closed,(p.links.length:Int)⟩:bD),(⟨s.locked,(p.links.length:Int)⟩:bD),(⟨s.badLink,(p.links.length:Int)⟩:bD),(⟨s.on_,(p.sources.length:Int)⟩:bD),(⟨s.badSource,(p.sources.length:Int)⟩:bD),(⟨s.earthed,p.buses⟩:bD),(⟨s.badBus,p.buses⟩:bD)] i).l.length:Int)=(at' [(⟨s.closed,(p.links.length:Int)⟩:bD),(⟨s.locked,(p.links.length:Int)⟩:bD),(⟨s.badLink,(p.links.length:Int)⟩:bD),(⟨s.on_,(p.sources.length:Int)⟩:bD),(⟨s.badSource,(p.sources.length:Int)⟩:bD),(⟨s.earthed,p.buses⟩:bD),(⟨s.badBus,p.buses⟩:bD)] i).n)).isSome= !kV p s:=by
     rw [show List.range 7=[0,1,2,3,4,5,6]from rfl,tO]
     simp only [List.any_cons,List.any_nil,at',List.getD_cons_zero,List.getD_cons_succ,kV,Int.natCast_inj]
     simp [Bool.or_assoc]
    revert e
    cases hf:(List.range 7).find? _ with
    |none=>
     intro e
     have:kV p s=true:=by simpa using e.symm
     rw [this];rfl
    |some k=>
     intro e
     have:kV p s=false:=by simpa using e.symm
     rw [this];rfl
   ·have h1:decide ((i:Int)<7)=true:=by simp;omega
    unfold eP
    rw [show([(⟨s.closed,(p.links.length:Int)⟩:bD),(⟨s.locked,(p.links.length:Int)⟩:bD),(⟨s.badLink,(p.links.length:Int)⟩:bD),(⟨s.on_,(p.sources.length:Int)⟩:bD),(⟨s.badSource,(p.sources.length:Int)⟩:bD),(⟨s.earthed,p.buses⟩:bD),(⟨s.badBus,p.buses⟩:bD)].length:Int)=7 from rfl,h1,cond_true,aM (by omega),Int.toNat_natCast,wr (by omega)]
    exact yt _ _ _
   ·rfl
  rw [h0,Option.bind_some]
  cases hL:kV p s with
  |false=>rfl
  |true=>
   simp only [cond_true,Bool.true_and]
   simp only [kV,Bool.and_eq_true,decide_eq_true_eq]at hL
   have h1:aK (eO p s) FUEL 0=some (match(List.range p.links.length).find? (iD p s)with|some _=> .ret 9|none=> .brk ()):=by
    refine kP p.links.length (iD p s) (fun _=>9) hp.lnk (fun i hi=> ?_) ?_
    ·unfold eO iD
     have h1:decide ((i:Int)<(p.links.length:Int))=true:=by simp;omega
     have:=hp.lnk
     rw [h1,cond_true,aM (by omega),Int.toNat_natCast,wr (by omega),aM ⟨fun _=>by omega,fun _=>by omega⟩]
     generalize decide ((at' p.links i).kind=1)=b1
     generalize at' s.closed i=b2
     generalize at' s.locked i=b3
     cases b1<;>cases b2<;>cases b3<;>rfl
    ·unfold eO;simp
   rw [h1,Option.bind_some]
   have:(List.range p.links.length).any (iD p s)=((List.range p.links.length).find? (iD p s)).isSome:=(tO _ _).symm
   rw [this]
   cases(List.range p.links.length).find? (iD p s)<;>rfl
 ·have:decide (oI p=0)=false:=by simp [hc]
  rw [this]
  simp [hc]
structure VL (b:Int) (x:Link):Prop where
 a:0≤x.a∧x.a<b
 b:0≤x.b∧x.b<b
 ab:x.a≠x.b
 kind:1≤x.kind∧x.kind≤3
 most:1≤x.most∧x.most≤100000
 ohm:10≤x.ohm∧x.ohm≤100000
 tl:x.trip.length≤6
 trip: ∀i,i<x.trip.length→mM x.trip i=false
 trk:x.trip=[]∨x.kind=3
structure NG (b:Int) (x:Source):Prop where
 bus:0≤x.bus∧x.bus<b
 kind:1≤x.kind∧x.kind≤3
 power:1≤x.power∧x.power≤100000
 sync:0≤x.sync∧x.sync≤8
 ohm:10≤x.ohm∧x.ohm≤100000
structure VR (b:Int) (x:aO):Prop where
 e0:0≤x.feeds.e0∧x.feeds.e0<b
 e1: -1≤x.feeds.e1∧x.feeds.e1<b
 ne:x.feeds.e0≠x.feeds.e1
 power:1≤x.power∧x.power≤100000
 paths:0≤x.paths∧x.paths≤qE x
structure VP (p:au):Prop where
 b:1≤p.buses∧p.buses≤24
 sl:p.sources.length≤8
 src: ∀i,i<p.sources.length→NG p.buses (at' p.sources i)
 ll:p.links.length≤40
 lnk: ∀i,i<p.links.length→VL p.buses (at' p.links i)
 rl:p.racks.length≤24
 rck: ∀i,i<p.racks.length→VR p.buses (at' p.racks i)
structure VS (p:au) (s:State):Prop where
 closed:s.closed.length=p.links.length
 locked:s.locked.length=p.links.length
 badLink:s.badLink.length=p.links.length
 on:s.on_.length=p.sources.length
 badSource:s.badSource.length=p.sources.length
 earthed:(s.earthed.length:Int)=p.buses
 badBus:(s.badBus.length:Int)=p.buses
 cable: ∀i,i<p.links.length→(at' p.links i).kind=1→at' s.closed i=true∧at' s.locked i=false
theorem Aq {b:Int} {x:Source}:mJ b x=true↔NG b x:=by
 simp only [mJ,Bool.and_eq_true,oH]
 exact⟨fun⟨⟨⟨⟨h1,h2⟩,h3⟩,h4⟩,h5⟩=> ⟨by omega,h2,h3,h4,h5⟩,fun h=> ⟨⟨⟨⟨by have:=h.bus;omega,h.kind⟩,h.power⟩,h.sync⟩,h.ohm⟩⟩
theorem xQ {b:Int} {x:aO}:jO b x=true↔VR b x:=by
 simp only [jO,Bool.and_eq_true,oH,Bool.not_eq_true',decide_eq_false_iff_not]
 exact⟨fun⟨⟨⟨⟨h1,h2⟩,h3⟩,h4⟩,h5⟩=> ⟨by omega,by omega,h3,h4,h5⟩,fun h=> ⟨⟨⟨⟨by have:=h.e0;omega,by have:=h.e1;omega⟩,h.ne⟩,h.power⟩,h.paths⟩⟩
theorem xM {b:Int} {x:Link}:jV b x=true↔VL b x:=by
 simp only [jV,Bool.and_eq_true,oH,Bool.not_eq_true',decide_eq_false_iff_not,Bool.or_eq_true,decide_eq_true_eq,List.any_eq_false,List.mem_range,Bool.not_eq_true]
 constructor
 ·rintro ⟨⟨⟨⟨⟨⟨⟨⟨h1,h2⟩,h3⟩,h4⟩,h5⟩,h6⟩,h7⟩,h8⟩,h9⟩
  exact⟨by omega,by omega,h3,h4,h5,h6,by omega,h7,h9.imp (fun h=>List.eq_nil_of_length_eq_zero (by omega)) id⟩
 ·intro h
  refine⟨⟨⟨⟨⟨⟨⟨⟨by have:=h.a;omega,by have:=h.b;omega⟩,h.ab⟩,h.kind⟩,h.most⟩,h.ohm⟩,h.trip⟩,by have:=h.tl;omega⟩,h.trk.imp (fun e=>by simp [e]) id⟩
theorem pO {p:au}:oI p=0↔VP p:=by
 unfold oI
 constructor
 ·intro h
  cases h0:wi p.buses 1 24 with
  |false=>rw [h0]at h;simp at h
  |true=>
   rw [h0]at h
   cases h1:(decide ((p.sources.length:Int)≤8) && p.sources.all (mJ p.buses))with
   |false=>rw [h1]at h;simp at h
   |true=>
    rw [h1]at h
    cases h2:(decide ((p.links.length:Int)≤40) && p.links.all (jV p.buses))with
    |false=>rw [h2]at h;simp at h
    |true=>
     rw [h2]at h
     cases h3:(decide ((p.racks.length:Int)≤24) && p.racks.all (jO p.buses))with
     |false=>rw [h3]at h;simp at h
     |true=>
      simp only [Bool.and_eq_true,decide_eq_true_eq,List.all_eq_true]at h1 h2 h3
      exact⟨oH.mp h0,by omega,fun i hi=>Aq.mp (h1.2 _ (at_mem hi)),by omega,fun i hi=>xM.mp (h2.2 _ (at_mem hi)),by omega,fun i hi=>xQ.mp (h3.2 _ (at_mem hi))⟩
 ·intro h
  have h0:wi p.buses 1 24=true:=oH.mpr h.b
  have h1:(decide ((p.sources.length:Int)≤8) && p.sources.all (mJ p.buses))=true:=by
   simp only [Bool.and_eq_true,decide_eq_true_eq,List.all_eq_true]
   exact⟨by have:=h.sl;omega,fun x hx=>by obtain⟨i,hi,rfl⟩:=gm hx;exact Aq.mpr (h.src i hi)⟩
  have h2:(decide ((p.links.length:Int)≤40) && p.links.all (jV p.buses))=true:=by
   simp only [Bool.and_eq_true,decide_eq_true_eq,List.all_eq_true]
   exact⟨by have:=h.ll;omega,fun x hx=>by obtain⟨i,hi,rfl⟩:=gm hx;exact xM.mpr (h.lnk i hi)⟩
  have h3:(decide ((p.racks.length:Int)≤24) && p.racks.all (jO p.buses))=true:=by
   simp only [Bool.and_eq_true,decide_eq_true_eq,List.all_eq_true]
   exact⟨by have:=h.rl;omega,fun x hx=>by obtain⟨i,hi,rfl⟩:=gm hx;exact xQ.mpr (h.rck i hi)⟩
  rw [h0,h1,h2,h3];rfl
theorem VP.small {p:au} (h:VP p):Small p:=by
 refine⟨by have:=h.sl;omega,by have:=h.ll;omega,by have:=h.rl;omega,fun x hx=> ?_⟩
 obtain⟨i,hi,rfl⟩:=gm hx
 have:=(h.lnk i hi).tl;omega
theorem kN {p:au} {s:State}:sj p s=0↔VP p∧VS p s:=by
 unfold sj
 by_cases hc:oI p=0
 ·rw [if_neg (by simp [hc])]
  have hv:=pO.mp hc
  constructor
  ·intro h
   cases h1:(kV p s && !(List.range p.links.length).any (iD p s))with
   |false=>rw [h1]at h;simp at h
   |true=>
    simp only [kV,Bool.and_eq_true,decide_eq_true_eq,Bool.not_eq_true',List.any_eq_false,List.mem_range,iD,Bool.or_eq_true,not_and,not_or,Bool.not_eq_true]at h1
    obtain⟨⟨⟨⟨⟨⟨⟨h1,h2⟩,h3⟩,h4⟩,h5⟩,h6⟩,h7⟩,h8⟩:=h1
    exact⟨hv,h1,h2,h3,h4,h5,h6,h7,fun i hi hk=>by have:=h8 i hi hk;simpa using this⟩
  ·rintro ⟨_,h⟩
   have:(kV p s && !(List.range p.links.length).any (iD p s))=true:=by
    simp only [kV,Bool.and_eq_true,decide_eq_true_eq,Bool.not_eq_true',List.any_eq_false,List.mem_range,iD,Bool.or_eq_true,not_and,not_or,Bool.not_eq_true]
    exact⟨⟨⟨⟨⟨⟨⟨h.closed,h.locked⟩,h.badLink⟩,h.on⟩,h.badSource⟩,h.earthed⟩,h.badBus⟩,fun i hi hk=>by have:=h.cable i hi hk;simpa using this⟩
   rw [this];rfl
 ·rw [if_pos hc]
  exact⟨fun h=>absurd h hc,fun h=>absurd (pO.mpr h.1) hc⟩
def nI (p:au) (s:State) (i:Nat):Bool:=at' s.closed i && !at' s.badLink i && !at' s.badBus (at' p.links i).a.toNat && !at' s.badBus (at' p.links i).b.toNat
def ja (p:au) (s:State) (k:Nat):Bool:=at' s.on_ k && !at' s.badSource k && !at' s.badBus (at' p.sources k).bus.toNat
inductive Wk (p:au) (s:State) (b:Nat):List Int→Nat→Prop where
 |nil:Wk p s b [] b
 |snoc {l:List Int} {v w i:Nat}:Wk p s b l v→i<p.links.length→nI p s i=true→
   ((at' p.links i).a.toNat=v∧(at' p.links i).b.toNat=w∨(at' p.links i).b.toNat=v∧(at' p.links i).a.toNat=w)→Wk p s b (l++[(i:Int)]) w
def tab {α:Type} (n:Nat) (f:Nat→α):List α:=(List.range n).map f
section
variable {α:Type} [Inhabited α]
theorem mh (n:Nat) (f:Nat→α):(tab n f).length=n:=by simp [tab]
theorem Gn {n:Nat} {f g:Nat→α} (h: ∀i,i<n→f i=g i):tab n f=tab n g:=by
 unfold tab;exact List.map_congr_left fun i hi=>h i (List.mem_range.mp hi)
end
structure LF (s:State):Prop where
 l0:s.closed.length≤1000000000
 l1:s.locked.length≤1000000000
 l2:s.badLink.length≤1000000000
 l3:s.on_.length≤1000000000
 l4:s.badSource.length≤1000000000
 l5:s.earthed.length≤1000000000
 l6:s.badBus.length≤1000000000
theorem VS.small {p:au} {s:State} (hp:VP p) (h:VS p s):LF s:=by
 have h1:=hp.ll;have h2:=hp.sl;have h3:=hp.b
 obtain⟨a1,a2,a3,a4,a5,a6,a7,_⟩:=h
 exact⟨by omega,by omega,by omega,by omega,by omega,by omega,by omega⟩
def Ch (hd:List (Int × Int)):Nat→Int→Int→Prop
 |0,x,r=>aJ bg x hd=none∧r=x
 |k+1,x,r=> ∃y,aJ bg x hd=some y∧Ch hd k y r
theorem of_run {hd:List (Int × Int)}: ∀(k:Nat) (x r:Int),Ch hd k x r→aK (dA ⟨hd⟩) (k+1) x=some (.ret r)
 |0,x,r,h=>by
  obtain⟨h,e⟩:=h
  rw [bR];unfold dA;simp [h,e]
 |k+1,x,r,h=>by
  obtain⟨y,h,hc⟩:=h
  have:dA ⟨hd⟩ x=some (.next y):=by unfold dA;simp [h]
  rw [bR,this]
  exact of_run k y r hc
theorem of_eq {hd:List (Int × Int)} {k:Nat} {x r:Int} (h:Ch hd k x r) (hk:k≤1000):aT ⟨hd⟩ x=some r:=by
 unfold aT
 rw [kE (of_run k x r h) (by unfold FUEL;omega)];rfl
theorem Ch.root {hd:List (Int × Int)}: ∀{k:Nat} {x r:Int},Ch hd k x r→aJ bg r hd=none
 |0,x,r,h=>by obtain⟨h,e⟩:=h;rw [e];exact h
 |k+1,x,r,h=>by obtain⟨y,_,hc⟩:=h;exact hc.root
theorem Ch.set {hd:List (Int × Int)} {a b:Int} (hab:a≠b) (ha:aJ bg a hd=none) (hb:aJ bg b hd=none): ∀{k:Nat} {x r:Int},Ch hd k x r→
  ∃k',k'≤k+1∧Ch (dU bg a b hd) k' x (if r=a then b else r)
 |0,x,r,h=>by
  obtain⟨h,e⟩:=h
  subst e
  by_cases e:r=a
  ·subst e
   rw [if_pos rfl]
   exact⟨1,by omega,b,eu _ _ _,by rw [gI (Ne.symm hab)];exact hb,rfl⟩
  ·rw [if_neg e]
   exact⟨0,by omega,by rw [gI e];exact h,rfl⟩
 |k+1,x,r,h=>by
  obtain⟨y,h,hc⟩:=h
  obtain⟨k',hk,hc'⟩:=hc.set hab ha hb
  have:x≠a:=fun e=>by rw [e,ha]at h;cases h
  exact⟨k'+1,by omega,y,by rw [gI this];exact h,hc'⟩
section
variable {p:au} {s:State}
theorem Wk.trans {u v w:Nat} {l m:List Int} (h:Wk p s u l v) (h':Wk p s v m w):Wk p s u (l++m) w:=by
 induction h' with
 |nil=>simpa using h
 |snoc _ hi hc he ih=>rw [←List.append_assoc];exact ih.snoc hi hc he
theorem Wk.symm {u v:Nat} {l:List Int} (h:Wk p s u l v): ∃m,Wk p s v m u:=by
 induction h with
 |nil=>exact⟨[], .nil⟩
 |snoc _ hi hc he ih=>
  obtain⟨m,hm⟩:=ih
  exact⟨_,(Wk.nil.snoc hi hc (he.symm.imp id id|>.elim (fun⟨a,b⟩=> .inl ⟨b,a⟩) fun⟨a,b⟩=> .inr ⟨b,a⟩)).trans hm⟩
def lH (p:au) (s:State):Nat→List (Int × Int) × (Int→Int)
 |0=>([],id)
 |n+1=>
  let q:=lH p s n
  if nI p s n=true∧q.2 (at' p.links n).a≠q.2 (at' p.links n).b then
   (dU bg (q.2 (at' p.links n).a) (q.2 (at' p.links n).b) q.1,fun x=>if q.2 x=q.2 (at' p.links n).a then q.2 (at' p.links n).b else q.2 x)
  else q
structure UF (p:au) (s:State) (n:Nat) (hd:List (Int × Int)) (f:Int→Int):Prop where
 ch: ∀x,∃k,k≤n∧Ch hd k x (f x)
 cn: ∀x:Nat,(x:Int)<p.buses→0≤f x∧f x<p.buses∧ ∃l,Wk p s x l (f x).toNat
 ed: ∀i,i<n→nI p s i=true→f (at' p.links i).a=f (at' p.links i).b
theorem uf (hp:VP p): ∀n,n≤p.links.length→UF p s n (lH p s n).1 (lH p s n).2
 |0,_=> ⟨fun x=> ⟨0,Nat.le_refl _,rfl,rfl⟩,fun x hx=> ⟨by show(0:Int)≤x;omega,hx,[],by show Wk p s x [] ((x:Int).toNat);simp;exact .nil⟩,fun i hi=>absurd hi (Nat.not_lt_zero _)⟩
 |n+1,hn=>by
  have h:=uf hp n (by omega)
  have hl:=hp.lnk n (by omega)
  unfold lH
  by_cases hc:nI p s n=true∧(lH p s n).2 (at' p.links n).a≠(lH p s n).2 (at' p.links n).b
  ·rw [if_pos hc]
   obtain⟨hc1,hc2⟩:=hc
   obtain⟨ka,_,ca⟩:=h.ch (at' p.links n).a
   obtain⟨kb,_,cb⟩:=h.ch (at' p.links n).b
   refine⟨fun x=> ?_,fun x hx=> ?_,fun i hi hci=> ?_⟩
   ·obtain⟨k,hk,c⟩:=h.ch x
    obtain⟨k',hk',c'⟩:=c.set hc2 ca.root cb.root
    exact⟨k',by omega,c'⟩
   ·obtain⟨h0,h1,l,hw⟩:=h.cn x hx
    simp only
    by_cases e:(lH p s n).2 x=(lH p s n).2 (at' p.links n).a
    ·rw [if_pos e]
     have ha:=hl.a;have hb:=hl.b
     obtain⟨_,_,la,wa⟩:=h.cn (at' p.links n).a.toNat (by omega)
     obtain⟨b0,b1,lb,wb⟩:=h.cn (at' p.links n).b.toNat (by omega)
     have ea:(((at' p.links n).a.toNat:Nat):Int)=(at' p.links n).a:=by omega
     have eb:(((at' p.links n).b.toNat:Nat):Int)=(at' p.links n).b:=by omega
     rw [ea,←e]at wa
     rw [eb]at wb b0 b1
     obtain⟨m,wm⟩:=wa.symm
     refine⟨b0,b1,_,((hw.trans wm).snoc (by omega) hc1 (.inl ⟨rfl,rfl⟩)).trans wb⟩
    ·rw [if_neg e];exact⟨h0,h1,l,hw⟩
   ·simp only
    by_cases e:i=n
    ·subst e;rw [if_pos rfl]
     by_cases e2:(lH p s i).2 (at' p.links i).b=(lH p s i).2 (at' p.links i).a
     ·rw [if_pos e2]
     ·rw [if_neg e2]
    ·rw [h.ed i (by omega) hci]
  ·rw [if_neg hc]
   refine⟨fun x=> ?_,h.cn,fun i hi hci=> ?_⟩
   ·obtain⟨k,hk,c⟩:=h.ch x;exact⟨k,by omega,c⟩
   ·by_cases e:i=n
    ·subst e
     by_cases e2:(lH p s i).2 (at' p.links i).a=(lH p s i).2 (at' p.links i).b
     ·exact e2
     ·exact absurd ⟨hci,e2⟩ hc
    ·exact h.ed i (by omega) hci
def aQ (p:au) (s:State) (x:Nat):Int:=(lH p s p.links.length).2 x
theorem tQ (hp:VP p) {u v:Nat} (hu:(u:Int)<p.buses) (hv:(v:Int)<p.buses):aQ p s u=aQ p s v↔ ∃l,Wk p s u l v:=by
 have h:=uf (s:=s) hp p.links.length (Nat.le_refl _)
 constructor
 ·intro e
  obtain⟨_,_,l,w⟩:=h.cn u hu
  obtain⟨_,_,m,w'⟩:=h.cn v hv
  obtain⟨m',w''⟩:=w'.symm
  have:(lH p s p.links.length).2 u=(lH p s p.links.length).2 v:=e
  rw [this]at w
  exact⟨_,w.trans w''⟩
 ·rintro ⟨l,w⟩
  clear hv
  induction w with
  |nil=>rfl
  |snoc w hi hc he ih=>
   rename_i i
   rw [ih]
   have hl:=hp.lnk i hi
   have ha:=hl.a;have hb:=hl.b
   have ed:=h.ed i hi hc
   unfold aQ
   rcases he with⟨e1,e2⟩|⟨e1,e2⟩
   ·rw [←e1,←e2,Int.toNat_of_nonneg (by omega),Int.toNat_of_nonneg (by omega),ed]
   ·rw [←e1,←e2,Int.toNat_of_nonneg (by omega),Int.toNat_of_nonneg (by omega),ed]
theorem xh (hp:VP p) (x:Int):aT ⟨(lH p s p.links.length).1⟩ x=some ((lH p s p.links.length).2 x):=by
 obtain⟨k,hk,c⟩:=(uf (s:=s) hp p.links.length (Nat.le_refl _)).ch x
 have:=hp.ll
 exact of_eq c (by omega)
theorem join_eq (hp:VP p) {n:Nat} (hn:n<p.links.length) (hc:nI p s n=true):fP ⟨(lH p s n).1⟩ (at' p.links n).a (at' p.links n).b=some (lH p s (n+1)).1:=by
 have h:=uf (s:=s) hp n (by omega)
 have:=hp.ll
 obtain⟨ka,_,ca⟩:=h.ch (at' p.links n).a
 obtain⟨kb,_,cb⟩:=h.ch (at' p.links n).b
 unfold fP
 rw [of_eq ca (by omega),of_eq cb (by omega)]
 simp only [Option.bind_some]
 rw [lH]
 by_cases e:(lH p s n).2 (at' p.links n).a=(lH p s n).2 (at' p.links n).b
 ·simp [e]
 ·simp [e,hc]
end
theorem gF {α:Type} [Inhabited α] {l m:List α} {j:Nat} (h:j<l.length):at' (l++m) j=at' l j:=by
 rw [gu (by rw [List.length_append];omega),gu h,List.getElem_append_left]
theorem iG {α:Type} [Inhabited α] (l:List α) (x:α):at' (l++[x]) l.length=x:=by
 rw [gu (by simp)];simp
section
variable {p:au} {s:State} (hp:VP p) (hs:VS p s)
include hp hs
theorem Gw {i:Nat} (hi:i<p.links.length):bQ p.links s.closed s.badLink s.badBus ((lH p s i).1,(i:Int))=some (.next ((lH p s (i+1)).1,((i+1:Nat):Int))):=by
 have hl:=hp.lnk i hi
 have ha:=hl.a;have hb:=hl.b;have h1:=hs.closed;have h2:=hs.badLink;have h3:=hs.badBus;have hll:=hp.ll
 have hd:decide ((i:Int)<(p.links.length:Int))=true:=decide_eq_true (by omega)
 have hcb:(bif (bif (bif (at' s.closed i)then(!(at' s.badLink i))else false)then(!(at' s.badBus (((at' p.links i).a).toNat)))else false)then(!(at' s.badBus (((at' p.links i).b).toNat)))else false)=nI p s i:=by
  unfold nI
  cases at' s.closed i<;>cases at' s.badLink i<;>cases at' s.badBus (at' p.links i).a.toNat<;>cases at' s.badBus (at' p.links i).b.toNat<;>rfl
 unfold bQ
 simp only [Int.toNat_natCast]
 rw [hd,cond_true,aM (by omega),hcb]
 cases hc:nI p s i with
 |true=>
  rw [cond_true]
  unfold fB
  rw [join_eq hp hi hc]
  simp only [Option.bind_some]
  rw [aM ⟨by omega,fun _=>by omega,fun _=>by omega,fun _=>by omega⟩,wr (by omega)]
  rfl
 |false=>
  rw [cond_false,aM ⟨by omega,fun _=>by omega,fun _=>by omega,fun _=>by omega⟩,wr (by omega)]
  have:lH p s (i+1)=lH p s i:=by rw [lH];simp [hc]
  rw [this];rfl
theorem ru:iE p.buses p.sources p.links p.racks s.closed s.locked s.badLink s.on_ s.badSource s.earthed s.badBus ⟨[]⟩=some ⟨(lH p s p.links.length).1⟩:=by
 have hll:=hp.ll
 have key:aK (bQ p.links s.closed s.badLink s.badBus) FUEL ((lH p s 0).1,((0:Nat):Int))=some (.brk (lH p s p.links.length).1):=by
  refine dJ (fun i=>((lH p s i).1,(i:Int))) p.links.length _ (fuel_lt (by omega)) (fun i hi=>Gw hp hs hi) ?_
  unfold bQ
  simp
 show(aK (bQ p.links s.closed s.badLink s.badBus) FUEL ((lH p s 0).1,((0:Nat):Int))).bind _=_
 rw [key];rfl
omit hs
structure II (p:au) (s:State) (t n:Nat) (out:List af) (m:List (Int × Int)):Prop where
 ix: ∀h i,aJ bg h m=some i→0≤i∧i<(out.length:Int)
 inj: ∀h h' i,aJ bg h m=some i→aJ bg h' m=some i→h=h'
 cov: ∀b:Nat,b<t→at' s.badBus b=false→ ∃j:Nat,aJ bg (aQ p s b) m=some (j:Int)∧(b:Int)∈(at' out j).buses
 mem: ∀j,j<out.length→ ∀x∈(at' out j).buses,∃b:Nat,x=b∧b<t∧at' s.badBus b=false∧aJ bg (aQ p s b) m=some (j:Int)
 src: ∀j,j<out.length→(at' out j).sources=[]
 len:out.length≤n
 bl: ∀j,j<out.length→(at' out j).buses.length≤t
omit hp
theorem II.fresh {t n:Nat} {out:List af} {m:List (Int × Int)} {h0:Int} (g:II p s t n out m) (hn:aJ bg h0 m=none):II p s t (n+1) (out++[⟨[],[]⟩]) (dU bg h0 (out.length:Int) m):=by
 have old: ∀h i,h≠h0→aJ bg h (dU bg h0 (out.length:Int) m)=some i→aJ bg h m=some i:=fun h i e q=>by rwa [gI e]at q
 refine⟨fun h i q=> ?_,fun h h' i q q'=> ?_,fun b hb hbad=> ?_,fun j hj x hx=> ?_,fun j hj=> ?_, ?_,fun j hj=> ?_⟩
 ·rw [List.length_append]
  by_cases e:h=h0
  ·subst e;rw [eu]at q;cases q;simp;omega
  ·have:=g.ix h i (old h i e q);simp;omega
 ·by_cases e:h=h0
  ·subst e;rw [eu]at q;cases q
   by_cases e':h'=h
   ·exact e'.symm
   ·have:=g.ix h' _ (old h' _ e' q');omega
  ·by_cases e':h'=h0
   ·subst e';rw [eu]at q';cases q'
    have:=g.ix h _ (old h _ e q);omega
   ·exact g.inj h h' i (old h i e q) (old h' i e' q')
 ·obtain⟨j,q,hx⟩:=g.cov b hb hbad
  have e:aQ p s b≠h0:=fun e=>by rw [e,hn]at q;cases q
  have:=g.ix _ _ q
  exact⟨j,by rw [gI e];exact q,by rw [gF (by omega)];exact hx⟩
 ·rw [List.length_append]at hj
  by_cases e:j<out.length
  ·rw [gF e]at hx
   obtain⟨b,h1,h2,h3,q⟩:=g.mem j e x hx
   have e:aQ p s b≠h0:=fun e=>by rw [e,hn]at q;cases q
   exact⟨b,h1,h2,h3,by rw [gI e];exact q⟩
  ·have:j=out.length:=by simp at hj;omega
   subst this
   rw [iG]at hx;simp at hx
 ·rw [List.length_append]at hj
  by_cases e:j<out.length
  ·rw [gF e];exact g.src j e
  ·have:j=out.length:=by simp at hj;omega
   subst this;rw [iG]
 ·rw [List.length_append];have:=g.len;simp;omega
 ·rw [List.length_append]at hj
  by_cases e:j<out.length
  ·rw [gF e];exact g.bl j e
  ·have:j=out.length:=by simp at hj;omega
   subst this;rw [iG];simp
theorem II.add {t n:Nat} {out:List af} {m:List (Int × Int)} (g:II p s t n out m) (hbad:at' s.badBus t=false) {j:Nat} (hj:aJ bg (aQ p s t) m=some (j:Int)):
  II p s (t+1) n (out.set j ⟨(at' out j).buses++[(t:Int)],(at' out j).sources⟩) m:=by
 have hjl:=(g.ix _ _ hj).2
 refine⟨fun h i q=>by rw [List.length_set];exact g.ix h i q,g.inj,fun b hb hbb=> ?_,fun i hi x hx=> ?_,fun i hi=> ?_,by rw [List.length_set];exact g.len,fun i hi=> ?_⟩
 ·by_cases e:b=t
  ·subst e
   exact⟨j,hj,by rw [bS (by omega)];simp⟩
  ·obtain⟨i,q,hx⟩:=g.cov b (by omega) hbb
   refine⟨i,q, ?_⟩
   by_cases e2:j=i
   ·subst e2;rw [bS (by omega)];simp [hx]
   ·rw [bZ e2];exact hx
 ·rw [List.length_set]at hi
  by_cases e2:j=i
  ·subst e2
   rw [bS (by omega)]at hx
   rcases List.mem_append.mp hx with hx|hx
   ·obtain⟨b,h1,h2,h3,q⟩:=g.mem j hi x hx
    exact⟨b,h1,by omega,h3,q⟩
   ·simp at hx
    exact⟨t,hx,by omega,hbad,hj⟩
  ·rw [bZ e2]at hx
   obtain⟨b,h1,h2,h3,q⟩:=g.mem i hi x hx
   exact⟨b,h1,by omega,h3,q⟩
 ·rw [List.length_set]at hi
  by_cases e2:j=i
  ·subst e2;rw [bS (by omega)];exact g.src j hi
  ·rw [bZ e2];exact g.src i hi
 ·rw [List.length_set]at hi
  have:=g.bl i hi
  by_cases e2:j=i
  ·subst e2;rw [bS (by omega)];simp;omega
  ·rw [bZ e2];omega
include hp hs
theorem Jq {t:Nat} (ht:(t:Int)<p.buses) {out:List af} {m:List (Int × Int)} (g:II p s t t out m):
  ∃out' m',aX p s ⟨(lH p s p.links.length).1⟩ (out,m,(t:Int))=some (.next (out',m',((t+1:Nat):Int)))∧II p s (t+1) (t+1) out' m':=by
 have h3:=hs.badBus;have hb:=hp.b
 have hd:decide ((t:Int)<p.buses)=true:=decide_eq_true ht
 have hlen:=g.len
 unfold aX
 simp only [Int.toNat_natCast]
 rw [hd,cond_true,aM (by omega)]
 cases hbad:at' s.badBus t with
 |true=>
  refine⟨out,m,by rw [cond_true,wr (by omega)];rfl,g.ix,g.inj,fun b hb' hbb=> ?_,fun j hj x hx=> ?_,g.src,by omega,fun j hj=> ?_⟩
  ·have:b≠t:=fun e=>by rw [e,hbad]at hbb;cases hbb
   exact g.cov b (by omega) hbb
  ·obtain⟨b,h1,h2,h3,q⟩:=g.mem j hj x hx
   exact⟨b,h1,by omega,h3,q⟩
  ·have:=g.bl j hj;omega
 |false=>
  rw [cond_false,xh hp,Option.bind_some]
  have eh:(lH p s p.links.length).2 (t:Int)=aQ p s t:=rfl
  rw [eh]
  cases hq:aJ bg (aQ p s t) m with
  |some i=>
   obtain⟨i0,i1⟩:=g.ix _ _ hq
   obtain⟨j,rfl⟩: ∃j:Nat,i=(j:Int):=⟨i.toNat,by omega⟩
   have hbl:=g.bl j (by omega)
   refine⟨_,_, ?_,⟨(g.add hbad hq).ix,g.inj,(g.add hbad hq).cov,(g.add hbad hq).mem,(g.add hbad hq).src,by have:=(g.add hbad hq).len;omega,(g.add hbad hq).bl⟩⟩
   simp only [Option.isSome_some,Bool.not_true,cond_false,Option.getD_some,Int.toNat_natCast]
   rw [aM ⟨by omega,by simp;omega,by simp;omega⟩,wr (by omega)]
   rfl
  |none=>
   have g':=g.fresh hq
   have hj:aJ bg (aQ p s t) (dU bg (aQ p s t) (out.length:Int) m)=some (out.length:Int):=eu _ _ _
   have g2:=g'.add hbad hj
   refine⟨_,_, ?_,g2⟩
   simp only [Option.isSome_none,Bool.not_false,cond_true,hj,Option.getD_some,Int.toNat_natCast,iG]
   rw [aM ⟨by simp;omega,by simp;omega⟩,aM ⟨by simp;omega,by simp⟩,wr (by omega)]
   rfl
theorem Mj: ∀(d t:Nat) (out:List af) (m:List (Int × Int)),((t+d:Nat):Int)=p.buses→II p s t t out m→
  ∃out' m',aK (aX p s ⟨(lH p s p.links.length).1⟩) (d+1) (out,m,(t:Int))=some (.brk (out',m'))∧II p s p.buses.toNat p.buses.toNat out' m':=by
 intro d
 induction d with
 |zero=>
  intro t out m ht g
  refine⟨out,m, ?_,by
   have:p.buses.toNat=t:=by omega
   rw [this];exact g⟩
  rw [bR]
  have hd:decide ((t:Int)<p.buses)=false:=decide_eq_false (by omega)
  unfold aX
  simp only
  rw [hd];rfl
 |succ d ih=>
  intro t out m ht g
  obtain⟨out1,m1,h1,g1⟩:=Jq hp hs (by omega) g
  obtain⟨out2,m2,h2,g2⟩:=ih (t+1) out1 m1 (by omega) g1
  exact⟨out2,m2,by rw [bR,h1];exact h2,g2⟩
structure JJ (p:au) (s:State) (m:List (Int × Int)) (o:List af) (k:Nat) (out:List af):Prop where
 len:out.length=o.length
 bus: ∀j,j<out.length→(at' out j).buses=(at' o j).buses
 src: ∀j,j<out.length→((at' out j).sources≠[]↔ ∃i,i<k∧ja p s i=true∧aJ bg (aQ p s (at' p.sources i).bus.toNat) m=some (j:Int))
 sl: ∀j,j<out.length→(at' out j).sources.length≤k
theorem IU {o:List af} {m:List (Int × Int)} (g:II p s p.buses.toNat p.buses.toNat o m) {k:Nat} (hk:k<p.sources.length) {out:List af} (q:JJ p s m o k out):
  ∃out',aV p s ⟨(lH p s p.links.length).1⟩ m (out,(k:Int))=some (.next (out',((k+1:Nat):Int)))∧JJ p s m o (k+1) out':=by
 have hl:=(hp.src k hk).bus;have h1:=hs.on;have h2:=hs.badSource;have h3:=hs.badBus;have h4:=hp.sl
 have hd:decide ((k:Int)<(p.sources.length:Int))=true:=decide_eq_true (by omega)
 have hcb:(bif (bif (at' s.on_ k)then(!(at' s.badSource k))else false)then(!(at' s.badBus (((at' p.sources k).bus).toNat)))else false)=ja p s k:=by
  unfold ja
  cases at' s.on_ k<;>cases at' s.badSource k<;>cases at' s.badBus (at' p.sources k).bus.toNat<;>rfl
 unfold aV
 simp only [Int.toNat_natCast]
 rw [hd,cond_true,aM (by omega),aM ⟨by omega,fun _=>by omega,fun _=>by omega⟩,hcb]
 cases hf:ja p s k with
 |false=>
  refine⟨out,by rw [cond_false,wr (by omega)];rfl,q.len,q.bus,fun j hj=> ?_,fun j hj=>by have:=q.sl j hj;omega⟩
  rw [q.src j hj]
  constructor
  ·rintro ⟨i,h1,h2,h3⟩;exact⟨i,by omega,h2,h3⟩
  ·rintro ⟨i,h1,h2,h3⟩
   have:i≠k:=fun e=>by rw [e,hf]at h2;cases h2
   exact⟨i,by omega,h2,h3⟩
 |true=>
  have hbad:at' s.badBus (at' p.sources k).bus.toNat=false:=by
   unfold ja at hf
   revert hf
   cases at' s.badBus (at' p.sources k).bus.toNat<;>simp
  obtain⟨j,hj,_⟩:=g.cov (at' p.sources k).bus.toNat (by omega) hbad
  have hjl:=(g.ix _ _ hj).2
  have hlen:=q.len
  have hsl:=q.sl j (by omega)
  have eh:(lH p s p.links.length).2 (at' p.sources k).bus=aQ p s (at' p.sources k).bus.toNat:=by unfold aQ;rw [Int.toNat_of_nonneg (by omega)]
  rw [cond_true,xh hp,Option.bind_some,eh,hj]
  simp only [Option.getD_some,Int.toNat_natCast]
  rw [aM ⟨by omega,by simp;omega,by simp;omega⟩,wr (by omega)]
  refine⟨_,rfl,by rw [List.length_set];exact q.len,fun i hi=> ?_,fun i hi=> ?_,fun i hi=> ?_⟩
  ·rw [List.length_set]at hi
   by_cases e:j=i
   ·subst e;rw [bS (by omega)];exact q.bus j hi
   ·rw [bZ e];exact q.bus i hi
  ·rw [List.length_set]at hi
   by_cases e:j=i
   ·subst e;rw [bS (by omega)]
    simp only [ne_eq,List.append_eq_nil_iff,List.cons_ne_nil,and_false,not_false_eq_true,true_iff]
    exact⟨k,by omega,hf,hj⟩
   ·rw [bZ e,q.src i hi]
    constructor
    ·rintro ⟨i',h1,h2,h3⟩;exact⟨i',by omega,h2,h3⟩
    ·rintro ⟨i',h1,h2,h3⟩
     have:i'≠k:=fun e'=>by
      rw [e',hj]at h3
      have:=Option.some.inj h3
      omega
     exact⟨i',by omega,h2,h3⟩
  ·rw [List.length_set]at hi
   have:=q.sl i hi
   by_cases e:j=i
   ·subst e;rw [bS (by omega)];simp;omega
   ·rw [bZ e];omega
theorem Mv {o:List af} {m:List (Int × Int)} (g:II p s p.buses.toNat p.buses.toNat o m): ∀(d k:Nat) (out:List af),k+d=p.sources.length→JJ p s m o k out→
  ∃out',aK (aV p s ⟨(lH p s p.links.length).1⟩ m) (d+1) (out,(k:Int))=some (.brk out')∧JJ p s m o p.sources.length out':=by
 intro d
 induction d with
 |zero=>
  intro k out hk q
  refine⟨out, ?_,by
   have:p.sources.length=k:=by omega
   rw [this];exact q⟩
  rw [bR]
  have hd:decide ((k:Int)<(p.sources.length:Int))=false:=decide_eq_false (by omega)
  unfold aV
  simp only
  rw [hd];rfl
 |succ d ih=>
  intro k out hk q
  obtain⟨out1,h1,q1⟩:=IU hp hs g (by omega) q
  obtain⟨out2,h2,q2⟩:=ih (k+1) out1 (by omega) q1
  exact⟨out2,by rw [bR,h1];exact h2,q2⟩
theorem EM: ∃out o m,cO p s=some out∧II p s p.buses.toNat p.buses.toNat o m∧JJ p s m o p.sources.length out:=by
 have hb:=hp.b;have h4:=hp.sl
 obtain⟨o,m,h1,g⟩:=Mj hp hs p.buses.toNat 0 [] [] (by omega) ⟨fun h i q=>by simp [aJ]at q,fun h h' i q=>by simp [aJ]at q,fun b hb=>absurd hb (Nat.not_lt_zero _),fun j hj=>by simp at hj,fun j hj=>by simp at hj,Nat.le_refl _,fun j hj=>by simp at hj⟩
 obtain⟨out,h2,q⟩:=Mv hp hs g p.sources.length 0 o (by omega) ⟨rfl,fun _ _=>rfl,fun j hj=>by rw [g.src j hj];simp,fun j hj=>by rw [g.src j hj];simp⟩
 refine⟨out,o,m, ?_,g,q⟩
 unfold cO
 simp only [gG,Option.bind_some]
 rw [ru hp hs,Option.bind_some]
 have e1:aK (aX p s ⟨(lH p s p.links.length).1⟩) FUEL (([]:List af),([]:List (Int × Int)),0)=some (.brk (o,m)):=kE h1 (by unfold FUEL;omega)
 have e2:aK (aV p s ⟨(lH p s p.links.length).1⟩ m) FUEL (o,0)=some (.brk out):=kE h2 (by unfold FUEL;omega)
 rw [e1]
 simp only [Option.bind_some]
 rw [e2]
 rfl
end
def jd (v:Bool) (o:List Bool) (l:List Int):List Bool:=l.foldl (fun o x=>o.set x.toNat v) o
theorem mW (v:Bool): ∀(l:List Int) (o:List Bool),(jd v o l).length=o.length
 |[],_=>rfl
 |x::l,o=>by
  show(jd v (o.set x.toNat v) l).length=_
  rw [mW v l,List.length_set]
theorem Da (v:Bool) (o:List Bool) (l:List Int) (x:Int):jd v o (l++[x])=(jd v o l).set x.toNat v:=by simp [jd]
theorem AY (v:Bool): ∀(l:List Int) (o:List Bool) (j:Nat),(∀x∈l,0≤x)→j<o.length→at' (jd v o l) j=if(j:Int)∈l then v else at' o j
 |[],o,j,_,_=>by simp [jd]
 |x::l,o,j,h,hj=>by
  show at' (jd v (o.set x.toNat v) l) j=_
  rw [AY v l _ j (fun y hy=>h y (List.mem_cons_of_mem _ hy)) (by rw [List.length_set];exact hj)]
  have hx:=h x List.mem_cons_self
  by_cases e:(j:Int)∈l
  ·rw [if_pos e,if_pos (List.mem_cons_of_mem _ e)]
  ·rw [if_neg e]
   by_cases e2:x.toNat=j
   ·subst e2
    rw [bS hj,if_pos (by rw [Int.toNat_of_nonneg hx];exact List.mem_cons_self)]
   ·rw [bZ e2,if_neg]
    intro hm
    rcases List.mem_cons.mp hm with h1|h1
    ·omega
    ·exact e h1
def yT (n:Nat) (l:List af):List Bool:=l.foldl (fun o x=>jd (decide (0<(x.sources.length:Int))) o x.buses) (List.replicate n false)
theorem zV (n:Nat) (l:List af) (x:af):yT n (l++[x])=jd (decide (0<(x.sources.length:Int))) (yT n l) x.buses:=by simp [yT]
theorem qi (n:Nat) (l:List af):(yT n l).length=n:=by
 unfold yT
 suffices∀(l:List af) (o:List Bool),(l.foldl (fun o x=>jd (decide (0<(x.sources.length:Int))) o x.buses) o).length=o.length by rw [this];simp
 intro l
 induction l with
 |nil=>intro o;rfl
 |cons x l ih=>intro o;rw [List.foldl_cons,ih,mW]
def Ee (p:au) (s:State) (b:Nat):Prop:=at' s.badBus b=false∧ ∃k,k<p.sources.length∧ja p s k=true∧ ∃l,Wk p s (at' p.sources k).bus.toNat l b
section
variable {p:au} {s:State} (hp:VP p) (hs:VS p s)
include hp hs
theorem KU {out:List af} {j:Nat} (hj:j<out.length) (hx: ∀x∈(at' out j).buses,0≤x∧x<p.buses) (hl:(at' out j).buses.length≤1000) {o:List Bool} (ho:(o.length:Int)=p.buses):
  aK (gX out (j:Int)) FUEL (o,0)=some (.brk (jd (decide (0<((at' out j).sources.length:Int))) o (at' out j).buses)):=by
 have key:aK (gX out (j:Int)) FUEL (jd (decide (0<((at' out j).sources.length:Int))) o ((at' out j).buses.take 0),((0:Nat):Int))=some (.brk (jd (decide (0<((at' out j).sources.length:Int))) o (at' out j).buses)):=by
  refine dJ (fun i=>(jd (decide (0<((at' out j).sources.length:Int))) o ((at' out j).buses.take i),(i:Int))) (at' out j).buses.length _ (fuel_lt (by omega)) (fun i hi=> ?_) ?_
  ·have hd:decide ((i:Int)<((at' out j).buses.length:Int))=true:=decide_eq_true (by omega)
   have hm:=hx _ (at_mem hi)
   have hlen:=mW (decide (0<((at' out j).sources.length:Int))) ((at' out j).buses.take i) o
   unfold gX
   simp only [Int.toNat_natCast]
   rw [hd,cond_true,aM (by omega),aM (by omega),wr (by omega),ow hi,Da]
   rfl
  ·have hd:decide (((at' out j).buses.length:Int)<((at' out j).buses.length:Int))=false:=decide_eq_false (by omega)
   unfold gX
   simp only [Int.toNat_natCast]
   rw [hd,cond_false,List.take_length]
 exact key
theorem A9: ∃L,dO p s=some (L,0)∧(L.length:Int)=p.buses∧ ∀b:Nat,(b:Int)<p.buses→(at' L b=true↔Ee p s b):=by
 have hb:=hp.b;have h4:=hp.sl
 obtain⟨out,o,m,e,g,q⟩:=EM hp hs
 have hlen:=q.len
 have hgl:=g.len
 have hbus: ∀j,j<out.length→ ∀x∈(at' out j).buses,∃b:Nat,x=b∧(b:Int)<p.buses∧at' s.badBus b=false∧aJ bg (aQ p s b) m=some (j:Int):=by
  intro j hj x hx
  rw [q.bus j hj]at hx
  obtain⟨b,h1,h2,h3,h5⟩:=g.mem j (by omega) x hx
  exact⟨b,h1,by omega,h3,h5⟩
 have hx: ∀j,j<out.length→ ∀x∈(at' out j).buses,0≤x∧x<p.buses:=by
  intro j hj x hx
  obtain⟨b,h1,h2,_⟩:=hbus j hj x hx
  omega
 have hl: ∀j,j<out.length→(at' out j).buses.length≤1000:=by
  intro j hj;rw [q.bus j hj];have:=g.bl j (by omega);omega
 have hL:aK (gV out) FUEL (yT p.buses.toNat (out.take 0),((0:Nat):Int))=some (.brk (yT p.buses.toNat out)):=by
  refine dJ (fun i=>(yT p.buses.toNat (out.take i),(i:Int))) out.length _ (fuel_lt (by omega)) (fun i hi=> ?_) ?_
  ·have hd:decide ((i:Int)<(out.length:Int))=true:=decide_eq_true (by omega)
   have hlo:=qi p.buses.toNat (out.take i)
   unfold gV
   simp only
   rw [hd,cond_true,aM (by omega),KU hp hs hi (hx i hi) (hl i hi) (by omega)]
   simp only [Option.bind_some]
   rw [wr (by omega),ow hi,zV]
   rfl
  ·have hd:decide ((out.length:Int)<(out.length:Int))=false:=decide_eq_false (by omega)
   unfold gV
   simp only
   rw [hd,cond_false,List.take_length]
 have hat: ∀n,n≤out.length→ ∀b:Nat,(b:Int)<p.buses→(at' (yT p.buses.toNat (out.take n)) b=true↔ ∃j,j<n∧(b:Int)∈(at' out j).buses∧(at' out j).sources≠[]):=by
  intro n
  induction n with
  |zero=>
   intro _ b hb'
   rw [List.take_zero]
   show at' (List.replicate p.buses.toNat false) b=true↔_
   rw [qW (by omega)]
   simp
  |succ n ih=>
   intro hn b hb'
   have hln:=qi p.buses.toNat (out.take n)
   rw [ow (by omega),zV,AY _ _ _ _ (fun x h=>(hx n (by omega) x h).1) (by omega)]
   by_cases hm:(b:Int)∈(at' out n).buses
   ·rw [if_pos hm]
    have huniq: ∀j,j<out.length→(b:Int)∈(at' out j).buses→j=n:=by
     intro j hj hmj
     obtain⟨b1,e1,_,_,f1⟩:=hbus n (by omega) _ hm
     obtain⟨b2,e2,_,_,f2⟩:=hbus j hj _ hmj
     have:b1=b2:=by omega
     subst this
     rw [f1]at f2
     have:=Option.some.inj f2
     omega
    constructor
    ·intro hd
     refine⟨n,by omega,hm,fun hn=> ?_⟩
     rw [hn]at hd;simp at hd
    ·rintro ⟨j,hj,hmj,hsj⟩
     have:=huniq j (by omega) hmj
     subst this
     have:=List.length_pos_iff.mpr hsj
     exact decide_eq_true (by omega)
   ·rw [if_neg hm,ih (by omega) b hb']
    constructor
    ·rintro ⟨j,hj,h⟩;exact⟨j,by omega,h⟩
    ·rintro ⟨j,hj,h⟩
     have:j≠n:=fun e=>by subst e;exact hm h.1
     exact⟨j,by omega,h⟩
 refine⟨yT p.buses.toNat out, ?_,by rw [qi];omega,fun b hb'=> ?_⟩
 ·unfold dO
  have h0:sj p s=0:=kN.mpr ⟨hp,hs⟩
  rw [iZ p s hp.small,h0,Option.bind_some]
  simp only [decide_true,Bool.not_true,cond_false]
  rw [aM ⟨by omega,by omega,by omega⟩,e,Option.bind_some]
  have hL':aK (gV out) FUEL (List.replicate p.buses.toNat false,0)=some (.brk (yT p.buses.toNat out)):=hL
  rw [hL'];rfl
 ·have:=hat out.length (Nat.le_refl _) b hb'
  rw [List.take_length]at this
  rw [this]
  constructor
  ·rintro ⟨j,hj,hm,hsj⟩
   obtain⟨b1,e1,h1,hbad,f1⟩:=hbus j hj _ hm
   have:b1=b:=by omega
   subst this
   obtain⟨k,hk,hf,f2⟩:=(q.src j hj).mp hsj
   have hk2:=(hp.src k hk).bus
   have:=g.inj _ _ _ f1 f2
   obtain⟨l,w⟩:=(tQ hp (by omega) hb').mp this.symm
   exact⟨hbad,k,hk,hf,l,w⟩
  ·rintro ⟨hbad,k,hk,hf,l,w⟩
   have hk2:=(hp.src k hk).bus
   have he:=(tQ (s:=s) hp (u:=(at' p.sources k).bus.toNat) (by omega) hb').mpr ⟨l,w⟩
   obtain⟨j,hj,hm⟩:=g.cov b (by omega) hbad
   have hjl:=(g.ix _ _ hj).2
   refine⟨j,by omega,by rw [q.bus j (by omega)];exact hm, ?_⟩
   rw [q.src j (by omega)]
   exact⟨k,hk,hf,by rw [he];exact hj⟩
omit hp hs
end
def rts (p:au) (s:State):Nat→List Int
 |0=>[]
 |t+1=>if at' s.badBus t=true∨aQ p s t∈rts p s t then rts p s t else rts p s t++[aQ p s t]
def vH (p:au) (s:State) (t:Nat) (h:Int):List Int:=List.map (fun b:Nat=>(Int.ofNat b)) ((List.range t).filter fun b=> !at' s.badBus b && decide (aQ p s b=h))
def mZ (p:au) (s:State) (k:Nat) (h:Int):List Int:=List.map (fun i:Nat=>(Int.ofNat i)) ((List.range k).filter fun i=>ja p s i && decide (aQ p s (at' p.sources i).bus.toNat=h))
def cZ (p:au) (s:State) (t k:Nat):List af:=(rts p s t).map fun h=> ⟨vH p s t h,mZ p s k h⟩
def BQ (r:List Int):List (Int × Int):=tab r.length fun j=>(at' r j,(j:Int))
theorem qC {p:au} {s:State} {h:Int}: ∀{t:Nat},h∈rts p s t↔ ∃b,b<t∧at' s.badBus b=false∧aQ p s b=h
 |0=>by simp [rts]
 |t+1=>by
  have e:rts p s (t+1)=if at' s.badBus t=true∨aQ p s t∈rts p s t then rts p s t else rts p s t++[aQ p s t]:=rfl
  rw [e]
  by_cases c:at' s.badBus t=true∨aQ p s t∈rts p s t
  ·rw [if_pos c,qC]
   constructor
   ·rintro ⟨b,h1,h2,h3⟩;exact⟨b,by omega,h2,h3⟩
   ·rintro ⟨b,h1,h2,h3⟩
    by_cases e:b=t
    ·subst e
     rcases c with c|c
     ·rw [h2]at c;cases c
     ·rw [h3]at c;exact qC.1 c
    ·exact⟨b,by omega,h2,h3⟩
  ·rw [if_neg c,List.mem_append,List.mem_singleton,qC]
   rw [not_or,Bool.not_eq_true]at c
   constructor
   ·rintro (⟨b,h1,h2,h3⟩|rfl)
    ·exact⟨b,by omega,h2,h3⟩
    ·exact⟨t,by omega,c.1,rfl⟩
   ·rintro ⟨b,h1,h2,h3⟩
    by_cases e:b=t
    ·subst e;exact .inr h3.symm
    ·exact .inl ⟨b,by omega,h2,h3⟩
theorem lD {p:au} {s:State}: ∀t,(rts p s t).Nodup
 |0=>by simp [rts]
 |t+1=>by
  have e:rts p s (t+1)=if at' s.badBus t=true∨aQ p s t∈rts p s t then rts p s t else rts p s t++[aQ p s t]:=rfl
  rw [e]
  by_cases c:at' s.badBus t=true∨aQ p s t∈rts p s t
  ·rw [if_pos c];exact lD t
  ·rw [if_neg c,List.nodup_append]
   refine⟨lD t,by simp,fun a ha b hb=> ?_⟩
   rw [List.mem_singleton]at hb
   subst hb
   exact fun e=>c (.inr (e ▸ ha))
theorem tH {p:au} {s:State}: ∀t,(rts p s t).length≤t
 |0=>by simp [rts]
 |t+1=>by
  have e:rts p s (t+1)=if at' s.badBus t=true∨aQ p s t∈rts p s t then rts p s t else rts p s t++[aQ p s t]:=rfl
  have:=tH (p:=p) (s:=s) t
  rw [e];split
  ·omega
  ·rw [List.length_append,List.length_singleton];omega
theorem Fj {α:Type} (n:Nat) (f:Nat→α):tab (n+1) f=tab n f++[f n]:=by simp [tab,List.range_succ]
theorem nk {α:Type} {h:Int}: ∀{l m:List (Int × α)},aJ bg h l=none→aJ bg h (l++m)=aJ bg h m
 |[],_,_=>rfl
 |(k,v)::l,m,hn=>by
  unfold aJ at hn
  rw [List.cons_append]
  conv=>lhs;unfold aJ
  cases e:bg h k with
  |true=>rw [e]at hn;simp at hn
  |false=>rw [e]at hn;simp only [cond_false]at hn ⊢;exact nk hn
theorem rA {α:Type} {h:Int} {v:α}: ∀{l m:List (Int × α)},aJ bg h l=some v→aJ bg h (l++m)=some v
 |[],_,hn=>by simp [aJ]at hn
 |(k,w)::l,m,hn=>by
  unfold aJ at hn
  rw [List.cons_append]
  conv=>lhs;unfold aJ
  cases e:bg h k with
  |true=>rw [e]at hn;simpa using hn
  |false=>rw [e]at hn;simp only [cond_false]at hn ⊢;exact rA hn
theorem yA (r:List Int) (h:Int):BQ (r++[h])=BQ r++[(h,(r.length:Int))]:=by
 unfold BQ
 rw [List.length_append,List.length_singleton,Fj]
 have e1:(tab r.length fun j=>(at' (r++[h]) j,(j:Int)))=tab r.length fun j=>(at' r j,(j:Int)):=Gn fun j hj=>by rw [gF hj]
 rw [e1,iG]
theorem kH: ∀{n:Nat} {r:List Int} {h:Int},r.length=n→h ∉ r→aJ bg h (BQ r)=none
 |0,r,h,hl,_=>by
  have:r=[]:=List.eq_nil_of_length_eq_zero hl
  subst this;rfl
 |n+1,r,h,hl,hn=>by
  rcases List.eq_nil_or_concat r with rfl|⟨q,x,rfl⟩
  ·simp at hl
  ·rw [List.concat_eq_append]at*
   rw [List.mem_append,List.mem_singleton,not_or]at hn
   rw [yA,nk (kH (by simpa using hl) hn.1)]
   simp [aJ,Ec hn.2]
theorem xG: ∀{n:Nat} {r:List Int} {j:Nat},r.length=n→r.Nodup→j<r.length→aJ bg (at' r j) (BQ r)=some (j:Int)
 |0,r,j,hl,_,hj=>by omega
 |n+1,r,j,hl,hn,hj=>by
  rcases List.eq_nil_or_concat r with rfl|⟨q,x,rfl⟩
  ·simp at hl
  ·rw [List.concat_eq_append]at*
   rw [List.nodup_append]at hn
   rw [List.length_append,List.length_singleton]at hj hl
   rw [yA]
   by_cases e:j=q.length
   ·subst e
    rw [iG,nk (kH rfl fun hm=>hn.2.2 _ hm _ (List.mem_singleton_self x) rfl)]
    simp [aJ,xI]
   ·rw [gF (by omega),rA (xG (show q.length=n by omega) hn.1 (by omega))]
theorem Jf {r:List Int} {h:Int} (hn:h ∉ r):dU bg h (r.length:Int) (BQ r)=BQ (r++[h]):=by
 rw [yA]
 have gen: ∀{l:List (Int × Int)} {v:Int},aJ bg h l=none→dU bg h v l=l++[(h,v)]:=by
  intro l v
  induction l with
  |nil=>intro _;rfl
  |cons a l ih=>
   obtain⟨k',v'⟩:=a
   intro hg
   unfold aJ at hg
   unfold dU
   cases e:bg h k' with
   |true=>rw [e]at hg;simp at hg
   |false=>rw [e]at hg;simp only [cond_false]at hg ⊢;rw [ih hg];rfl
 exact gen (kH rfl hn)
theorem vK {p:au} {s:State} (t:Nat) (h:Int):vH p s (t+1) h=vH p s t h++(if(!at' s.badBus t && decide (aQ p s t=h))=true then [(t:Int)]else []):=by
 unfold vH
 rw [List.range_succ,List.filter_append,List.map_append]
 congr 1
 by_cases c:(!at' s.badBus t && decide (aQ p s t=h))=true
 ·simp only [List.filter_cons,List.filter_nil,c,if_true];rfl
 ·simp only [List.filter_cons,List.filter_nil,c,if_false];rfl
theorem Aj {p:au} {s:State} (k:Nat) (h:Int):mZ p s (k+1) h=mZ p s k h++(if(ja p s k && decide (aQ p s (at' p.sources k).bus.toNat=h))=true then [(k:Int)]else []):=by
 unfold mZ
 rw [List.range_succ,List.filter_append,List.map_append]
 congr 1
 by_cases c:(ja p s k && decide (aQ p s (at' p.sources k).bus.toNat=h))=true
 ·simp only [List.filter_cons,List.filter_nil,c,if_true];rfl
 ·simp only [List.filter_cons,List.filter_nil,c,if_false];rfl
theorem Im {p:au} {s:State} (t:Nat) (h:Int):(vH p s t h).length≤t:=by
 unfold vH;rw [List.length_map];exact Nat.le_trans (List.length_filter_le _ _) (by simp)
theorem xJ {p:au} {s:State} (t:Nat) (h:Int):(mZ p s t h).length≤t:=by
 unfold mZ;rw [List.length_map];exact Nat.le_trans (List.length_filter_le _ _) (by simp)
theorem mR {α β:Type} [Inhabited α] [Inhabited β] {f:α→β} {l:List α} {j:Nat} (h:j<l.length):at' (l.map f) j=f (at' l j):=by
 rw [gu (by rw [List.length_map];exact h),gu h,List.getElem_map]
section
variable {p:au} {s:State} (hp:VP p) (hs:VS p s)
include hp hs
theorem GD {t:Nat} (ht:(t:Int)<p.buses):aX p s ⟨(lH p s p.links.length).1⟩ (cZ p s t 0,BQ (rts p s t),(t:Int))=some (.next (cZ p s (t+1) 0,BQ (rts p s (t+1)),((t+1:Nat):Int))):=by
 have h3:=hs.badBus;have hb:=hp.b
 have hrl:=tH (p:=p) (s:=s) t
 have er:rts p s (t+1)=if at' s.badBus t=true∨aQ p s t∈rts p s t then rts p s t else rts p s t++[aQ p s t]:=rfl
 have ss0: ∀h,mZ p s 0 h=[]:=fun h=>rfl
 have hil:(cZ p s t 0).length=(rts p s t).length:=by unfold cZ;rw [List.length_map]
 unfold aX
 dsimp only
 rw [Int.toNat_natCast,decide_eq_true ht,cond_true,aM (by omega),wr (by omega)]
 cases hbad:at' s.badBus t with
 |true=>
  rw [cond_true,er,if_pos (.inl hbad)]
  have:cZ p s (t+1) 0=cZ p s t 0:=by
   unfold cZ
   rw [er,if_pos (.inl hbad)]
   refine List.map_congr_left fun h _=> ?_
   rw [vK,hbad,if_neg (by simp),List.append_nil]
  rw [this];rfl
 |false=>
  rw [cond_false,xh hp,Option.bind_some]
  have eh:(lH p s p.links.length).2 (t:Int)=aQ p s t:=rfl
  rw [eh]
  by_cases hm:aQ p s t∈rts p s t
  ·obtain⟨j,hj,e⟩:=gm hm
   have hg:=xG rfl (lD t) hj
   rw [e]at hg
   rw [hg,er,if_pos (.inr hm)]
   have hbl:=Im (p:=p) (s:=s) t (aQ p s t)
   have hat:at' (cZ p s t 0) j=⟨vH p s t (aQ p s t),[]⟩:=by unfold cZ;rw [mR hj,e,ss0]
   rw [Option.isSome_some,Bool.not_true,cond_false,Option.getD_some,Int.toNat_natCast,hat,aM ⟨by omega,by simp;omega,by simp;omega⟩]
   refine congrArg (fun l=>some (dw.next (l,_,_))) ?_
   refine yC (by rw [List.length_set];unfold cZ;rw [List.length_map,List.length_map,er,if_pos (.inr hm)]) fun i hi=> ?_
   rw [List.length_set,hil]at hi
   have h2:at' (cZ p s (t+1) 0) i=⟨vH p s (t+1) (at' (rts p s t) i),[]⟩:=by
    have h3:rts p s (t+1)=rts p s t:=by rw [er,if_pos (.inr hm)]
    unfold cZ;rw [h3,mR hi,ss0]
   rw [h2,vK,hbad]
   by_cases e2:j=i
   ·subst e2
    rw [bS (by omega),e]
    simp
   ·rw [bZ e2]
    have:aQ p s t≠at' (rts p s t) i:=fun q=>by
     have hn:=lD (p:=p) (s:=s) t
     rw [gu hi,←e,gu hj]at q
     exact e2 ((List.getElem_inj hn).1 q)
    rw [decide_eq_false this]
    unfold cZ;rw [mR hi,ss0];simp
  ·have hg:=kH (r:=rts p s t) rfl hm
   have er2:rts p s (t+1)=rts p s t++[aQ p s t]:=by rw [er,if_neg (fun q=>q.elim (fun q=>by rw [hbad]at q;cases q) hm)]
   have hg2:aJ bg (aQ p s t) (dU bg (aQ p s t) ((cZ p s t 0).length:Int) (BQ (rts p s t)))=some ((cZ p s t 0).length:Int):=eu _ _ _
   have hms:dU bg (aQ p s t) ((cZ p s t 0).length:Int) (BQ (rts p s t))=BQ (rts p s (t+1)):=by rw [hil,er2];exact Jf hm
   rw [hg]
   simp only [Option.isSome_none,Bool.not_false,cond_true,hg2,Option.getD_some,Int.toNat_natCast,iG]
   rw [aM ⟨by simp;omega,by simp;omega⟩,aM ⟨by simp;omega,by simp⟩,hms]
   refine congrArg (fun l=>some (dw.next (l,_,_))) ?_
   have hbs:vH p s t (aQ p s t)=[]:=by
    unfold vH
    rw [List.map_eq_nil_iff,List.filter_eq_nil_iff]
    intro b hb2 hc
    simp only [Bool.and_eq_true,Bool.not_eq_true',decide_eq_true_eq]at hc
    exact hm (qC.2 ⟨b,List.mem_range.1 hb2,hc.1,hc.2⟩)
   refine yC (by rw [List.length_set,List.length_append,List.length_singleton,hil];unfold cZ;rw [List.length_map,er2,List.length_append,List.length_singleton]) fun i hi=> ?_
   rw [List.length_set,List.length_append,List.length_singleton,hil]at hi
   have h2:at' (cZ p s (t+1) 0) i=⟨vH p s (t+1) (at' (rts p s (t+1)) i),[]⟩:=by
    unfold cZ;rw [mR (by rw [er2,List.length_append,List.length_singleton];exact hi),ss0]
   rw [h2,vK,hbad,er2]
   by_cases e2:i=(rts p s t).length
   ·subst e2
    rw [hil,bS (by rw [List.length_append,List.length_singleton,hil];omega),iG,hbs]
    simp
   ·rw [hil,bZ (Ne.symm e2),gF (by omega),gF (by omega)]
    have:aQ p s t≠at' (rts p s t) i:=fun q=>hm (q ▸ at_mem (by omega))
    rw [decide_eq_false this]
    unfold cZ;rw [mR (by omega),ss0];simp
theorem Gj {k:Nat} (hk:k<p.sources.length):aV p s ⟨(lH p s p.links.length).1⟩ (BQ (rts p s p.buses.toNat)) (cZ p s p.buses.toNat k,(k:Int))=some (.next (cZ p s p.buses.toNat (k+1),((k+1:Nat):Int))):=by
 have hl:=(hp.src k hk).bus;have h1:=hs.on;have h2:=hs.badSource;have h3:=hs.badBus;have h4:=hp.sl;have hb:=hp.b
 have hrl:=tH (p:=p) (s:=s) p.buses.toNat
 have hcb:(bif (bif (at' s.on_ k)then(!(at' s.badSource k))else false)then(!(at' s.badBus (((at' p.sources k).bus).toNat)))else false)=ja p s k:=by
  unfold ja
  cases at' s.on_ k<;>cases at' s.badSource k<;>cases at' s.badBus (at' p.sources k).bus.toNat<;>rfl
 unfold aV
 dsimp only
 rw [Int.toNat_natCast,decide_eq_true (show(k:Int)<(p.sources.length:Int) by omega),cond_true,aM (by omega),aM ⟨by omega,fun _=>by omega,fun _=>by omega⟩,hcb,wr (by omega)]
 cases hf:ja p s k with
 |false=>
  have:cZ p s p.buses.toNat (k+1)=cZ p s p.buses.toNat k:=by
   unfold cZ
   refine List.map_congr_left fun h _=> ?_
   rw [Aj,hf,if_neg (by simp),List.append_nil]
  rw [this];rfl
 |true=>
  have hbad:at' s.badBus (at' p.sources k).bus.toNat=false:=by
   unfold ja at hf
   revert hf
   cases at' s.badBus (at' p.sources k).bus.toNat<;>simp
  have hm:aQ p s (at' p.sources k).bus.toNat∈rts p s p.buses.toNat:=qC.2 ⟨_,by omega,hbad,rfl⟩
  obtain⟨j,hj,e⟩:=gm hm
  have hg:=xG rfl (lD p.buses.toNat) hj
  rw [e]at hg
  have eh:(lH p s p.links.length).2 (at' p.sources k).bus=aQ p s (at' p.sources k).bus.toNat:=by unfold aQ;rw [Int.toNat_of_nonneg (by omega)]
  have hil: ∀k,(cZ p s p.buses.toNat k).length=(rts p s p.buses.toNat).length:=fun k=>by unfold cZ;rw [List.length_map]
  have hat:at' (cZ p s p.buses.toNat k) j=⟨vH p s p.buses.toNat (aQ p s (at' p.sources k).bus.toNat),mZ p s k (aQ p s (at' p.sources k).bus.toNat)⟩:=by unfold cZ;rw [mR hj,e]
  have hsl:=xJ (p:=p) (s:=s) k (aQ p s (at' p.sources k).bus.toNat)
  rw [cond_true,xh hp,Option.bind_some,eh,hg,Option.getD_some,Int.toNat_natCast,hat,aM ⟨by rw [hil];omega,by simp;omega,by simp;omega⟩]
  refine congrArg (fun l=>some (dw.next (l,_))) ?_
  refine yC (by rw [List.length_set,hil,hil]) fun i hi=> ?_
  rw [List.length_set,hil]at hi
  have h5:at' (cZ p s p.buses.toNat (k+1)) i=⟨vH p s p.buses.toNat (at' (rts p s p.buses.toNat) i),mZ p s (k+1) (at' (rts p s p.buses.toNat) i)⟩:=by unfold cZ;rw [mR hi]
  rw [h5,Aj,hf]
  by_cases e2:j=i
  ·subst e2
   rw [bS (by rw [hil];omega),e]
   simp
  ·rw [bZ e2]
   have:aQ p s (at' p.sources k).bus.toNat≠at' (rts p s p.buses.toNat) i:=fun q=>by
    have hn:=lD (p:=p) (s:=s) p.buses.toNat
    rw [gu hi,←e,gu hj]at q
    exact e2 ((List.getElem_inj hn).1 q)
   rw [decide_eq_false this]
   unfold cZ;rw [mR hi];simp
theorem zF:cO p s=some (cZ p s p.buses.toNat p.sources.length):=by
 have hb:=hp.b;have h4:=hp.sl
 unfold cO
 simp only [gG,Option.bind_some]
 rw [ru hp hs,Option.bind_some]
 have e1:aK (aX p s ⟨(lH p s p.links.length).1⟩) FUEL (cZ p s 0 0,BQ (rts p s 0),((0:Nat):Int))=some (.brk (cZ p s p.buses.toNat 0,BQ (rts p s p.buses.toNat))):=by
  refine dJ (fun t=>(cZ p s t 0,BQ (rts p s t),(t:Int))) p.buses.toNat _ (fuel_lt (by omega)) (fun t ht=>GD hp hs (by omega)) ?_
  unfold aX
  dsimp only
  rw [decide_eq_false (by omega)];rfl
 have e1':aK (aX p s ⟨(lH p s p.links.length).1⟩) FUEL (([]:List af),([]:List (Int × Int)),0)=_:=e1
 have e2:aK (aV p s ⟨(lH p s p.links.length).1⟩ (BQ (rts p s p.buses.toNat))) FUEL (cZ p s p.buses.toNat 0,((0:Nat):Int))=some (.brk (cZ p s p.buses.toNat p.sources.length)):=by
  refine dJ (fun k=>(cZ p s p.buses.toNat k,(k:Int))) p.sources.length _ (fuel_lt (by omega)) (fun k hk=>Gj hp hs hk) ?_
  unfold aV
  dsimp only
  rw [decide_eq_false (by omega)];rfl
 have e2':aK (aV p s ⟨(lH p s p.links.length).1⟩ (BQ (rts p s p.buses.toNat))) FUEL (cZ p s p.buses.toNat 0,0)=_:=e2
 rw [e1']
 simp only [Option.bind_some]
 rw [e2'];rfl
end
theorem xg (a b:Bool):(bif a then true else b)=(a||b):=by cases a<;>rfl
theorem JP {a b:Int} (h:a<b):decide (a<b)=true:=decide_eq_true h
theorem I4 {a b:Int} (h:b≤a):decide (a<b)=false:=decide_eq_false (by omega)
def ku {α:Type} (f:Nat→List α):Nat→List α
 |0=>[]
 |n+1=>ku f n++f n
theorem lY {α:Type} {f:Nat→List α} {x:α}: ∀{n:Nat},x∈ku f n↔ ∃i,i<n∧x∈f i
 |0=>by simp [ku]
 |n+1=>by
  rw [ku,List.mem_append,lY]
  constructor
  ·rintro (⟨i,h,g⟩|g)
   ·exact⟨i,by omega,g⟩
   ·exact⟨n,by omega,g⟩
  ·rintro ⟨i,h,g⟩
   by_cases e:i=n
   ·subst e;exact .inr g
   ·exact .inl ⟨i,by omega,g⟩
theorem jE {α:Type} {f:Nat→List α} {m:Nat}: ∀{n:Nat},(∀i,i<n→(f i).length≤m)→(ku f n).length≤n*m
 |0,_=>by simp [ku]
 |n+1,h=>by
  have h1:=jE (n:=n) fun i hi=>h i (by omega)
  have h2:=h n (by omega)
  rw [ku,List.length_append,Nat.add_mul,Nat.one_mul];omega
theorem rO {α ρ:Type} {body:List α × Int→Option (dw (List α × Int) (Ex (List α) ρ))} (k n:Nat) (f:Nat→List α) (o0:List α) (hn:n≤1000000000)
  (hb: ∀i,i<n→body (o0++ku f i,((k+i:Nat):Int))=some (.next (o0++ku f (i+1),((k+(i+1):Nat):Int)))) (he:body (o0++ku f n,((k+n:Nat):Int))=some (.done (.brk (o0++ku f n)))):
  aK body FUEL (o0,(k:Int))=some (.brk (o0++ku f n)):=by
 have:=dJ (N:=FUEL) (body:=body) (fun i=>(o0++ku f i,((k+i:Nat):Int))) n (.brk (o0++ku f n)) (fuel_lt (by omega)) hb he
 simpa [ku]using this
def Pz (a b:Source):Bool:=decide (a.sync=0)|| !decide (a.sync=b.sync)
def D6 (p:au) (a b:Int):List ai:=if Pz (at' p.sources a.toNat) (at' p.sources b.toNat)=true then [⟨a,b⟩]else []
theorem Br (p:au) (a b:Int):(D6 p a b).length≤1:=by unfold D6;split<;>simp
def kU (p:au) (l:List Int):List ai:=ku (fun i=>ku (fun j=>D6 p (at' l i) (at' (l.drop (i+1)) j)) (l.length - (i+1))) l.length
theorem sN (p:au) (l:List Int) (hl:l.length≤8):(kU p l).length≤64:=by
 have h1: ∀i,i<l.length→(ku (fun j=>D6 p (at' l i) (at' (l.drop (i+1)) j)) (l.length - (i+1))).length≤8:=fun i hi=>by
  have:=jE (f:=fun j=>D6 p (at' l i) (at' (l.drop (i+1)) j)) (n:=l.length - (i+1)) (m:=1) fun j _=>Br _ _ _
  omega
 have:=jE h1
 unfold kU
 have h2:l.length*8≤8*8:=Nat.mul_le_mul_right 8 hl
 omega
def Ql (p:au) (s:State) (x:ai):Prop:= ∃i k:Nat,x=⟨i,k⟩∧i<k∧k<p.sources.length∧ja p s i=true∧ja p s k=true∧(∃l,Wk p s (at' p.sources i).bus.toNat l (at' p.sources k).bus.toNat)∧Pz (at' p.sources i) (at' p.sources k)=true
def Hy (p:au) (s:State):List ai:=ku (fun t=>kU p (at' (cZ p s p.buses.toNat p.sources.length) t).sources) (cZ p s p.buses.toNat p.sources.length).length
def Mx (p:au) (s:State):List ai:=(Hy p s).mergeSort fun x y=> !decide (aZ y x<0)
section
variable {p:au} {s:State} (hp:VP p) (hs:VS p s)
include hp
theorem H7 {isl:List af} {t i:Nat} (ht:t<isl.length) (hl:(at' isl t).sources.length≤8) (hm: ∀x∈(at' isl t).sources,0≤x∧x<(p.sources.length:Int)) (hi:i<(at' isl t).sources.length) (o:List ai) (ho:o.length≤100000):
  aK (gT p isl (t:Int) (i:Int)) FUEL (o,0)=some (.brk (o++ku (fun j=>D6 p (at' (at' isl t).sources i) (at' ((at' isl t).sources.drop (i+1)) j)) ((at' isl t).sources.length - (i+1)))):=by
 have hsl:=hp.sl
 generalize hL:(at' isl t).sources=l at*
 have hw:(IntKind.wrap .i64 ((i:Int)+1)).toNat=i+1:=by rw [wr (by omega)];omega
 refine rO 0 (l.length - (i+1)) (fun j=>D6 p (at' l i) (at' (l.drop (i+1)) j)) o (by omega) (fun j hj=> ?_) ?_
 ·have hA:=jE (f:=fun j=>D6 p (at' l i) (at' (l.drop (i+1)) j)) (n:=j) (m:=1) fun j _=>Br _ _ _
  unfold gT
  simp only [Int.toNat_natCast,hL,hw,Nat.zero_add]
  have hd:(l.drop (i+1)).length=l.length - (i+1):=List.length_drop
  rw [JP (by omega),cond_true,aM (by rw [hd];omega)]
  have hx1:=hm _ (at_mem hi)
  have hjd:j<(l.drop (i+1)).length:=by omega
  have hx2:=hm _ (List.mem_of_mem_drop (at_mem hjd))
  rw [aM ⟨hx1,fun _=>hx1,fun _=>hx2⟩,xg,wr (x:=(j:Int)+1) (by omega)]
  show(bif Pz (at' p.sources (at' l i).toNat) (at' p.sources (at' (l.drop (i+1)) j).toNat)then _ else _)=_
  rw [ku]
  unfold D6
  cases hc:Pz (at' p.sources (at' l i).toNat) (at' p.sources (at' (l.drop (i+1)) j).toNat)with
  |true=>
   rw [cond_true,if_pos rfl,aM ⟨by simp only [List.length_append,List.length_singleton];unfold D6 at hA;omega,by simp only [List.length_append,List.length_singleton];unfold D6 at hA;omega⟩,List.append_assoc]
   rfl
  |false=>
   rw [cond_false,if_neg (by simp),List.append_nil]
   rfl
 ·unfold gT
  simp only [Int.toNat_natCast,hL,hw,Nat.zero_add]
  have:decide (((l.length - (i+1):Nat):Int)<((l.length - (i+1):Nat):Int))=false:=decide_eq_false (by omega)
  rw [this,cond_false]
theorem Jy {isl:List af} {t:Nat} (ht:t<isl.length) (hl:(at' isl t).sources.length≤8) (hm: ∀x∈(at' isl t).sources,0≤x∧x<(p.sources.length:Int)) (o:List ai) (ho:o.length≤90000):
  aK (gQ p isl (t:Int)) FUEL (o,0)=some (.brk (o++kU p (at' isl t).sources)):=by
 have hsl:=hp.sl
 refine rO 0 (at' isl t).sources.length (fun i=>ku (fun j=>D6 p (at' (at' isl t).sources i) (at' ((at' isl t).sources.drop (i+1)) j)) ((at' isl t).sources.length - (i+1))) o (by omega) (fun i hi=> ?_) ?_
 ·have hA:=jE (f:=fun i=>ku (fun j=>D6 p (at' (at' isl t).sources i) (at' ((at' isl t).sources.drop (i+1)) j)) ((at' isl t).sources.length - (i+1))) (n:=i) (m:=8) fun i' _=>by
   have:=jE (f:=fun j=>D6 p (at' (at' isl t).sources i') (at' ((at' isl t).sources.drop (i'+1)) j)) (n:=(at' isl t).sources.length - (i'+1)) (m:=1) fun j _=>Br _ _ _
   omega
  have h8:i*8≤8*8:=Nat.mul_le_mul_right 8 (by omega)
  unfold gQ
  simp only [Int.toNat_natCast,Nat.zero_add]
  rw [JP (by omega),cond_true,aM (by omega),wr (by omega),aM (by omega),H7 hp ht hl hm hi _ (by rw [List.length_append];omega),Option.bind_some]
  rw [ku,List.append_assoc]
  rfl
 ·unfold gQ
  simp only [Int.toNat_natCast,Nat.zero_add]
  have:decide (((at' isl t).sources.length:Int)<((at' isl t).sources.length:Int))=false:=decide_eq_false (by omega)
  rw [this,cond_false]
theorem I9 {isl:List af} (hn:isl.length≤24) (hl: ∀t,t<isl.length→(at' isl t).sources.length≤8) (hm: ∀t,t<isl.length→ ∀x∈(at' isl t).sources,0≤x∧x<(p.sources.length:Int)):
  aK (eD p isl) FUEL ([],0)=some (.brk (ku (fun t=>kU p (at' isl t).sources) isl.length)):=by
 have:=rO (body:=eD p isl) 0 isl.length (fun t=>kU p (at' isl t).sources) [] (by omega) (fun t ht=> ?_) ?_
 ·simpa using this
 ·have hA:=jE (f:=fun t=>kU p (at' isl t).sources) (n:=t) (m:=64) fun i hi=>sN _ _ (hl i (by omega))
  have h8:t*64≤24*64:=Nat.mul_le_mul_right 64 (by omega)
  unfold eD
  simp only [Int.toNat_natCast,Nat.zero_add]
  rw [JP (by omega),cond_true,aM (by omega),Jy hp ht (hl t ht) (hm t ht) _ (by rw [List.length_append];simp;omega),Option.bind_some,wr (by omega),ku,List.append_assoc]
  rfl
 ·unfold eD
  simp only [Int.toNat_natCast,Nat.zero_add]
  have:decide ((isl.length:Int)<(isl.length:Int))=false:=decide_eq_false (by omega)
  rw [this,cond_false]
include hs
theorem yG:fq p s=some (Mx p s,0)∧ ∀x,x∈Mx p s↔Ql p s x:=by
 have hb:=hp.b;have hsl:=hp.sl
 have hrl:=tH (p:=p) (s:=s) p.buses.toNat
 have hlen:(cZ p s p.buses.toNat p.sources.length).length=(rts p s p.buses.toNat).length:=by simp [cZ]
 have hat: ∀t,t<(rts p s p.buses.toNat).length→(at' (cZ p s p.buses.toNat p.sources.length) t).sources=mZ p s p.sources.length (at' (rts p s p.buses.toNat) t):=fun t ht=>by
  unfold cZ;rw [mR ht]
 have hss: ∀h x,x∈mZ p s p.sources.length h↔ ∃i:Nat,x=(i:Int)∧i<p.sources.length∧ja p s i=true∧aQ p s (at' p.sources i).bus.toNat=h:=by
  intro h x
  unfold mZ
  rw [List.mem_map]
  constructor
  ·rintro ⟨i,hi,rfl⟩
   rw [List.mem_filter,List.mem_range,Bool.and_eq_true,decide_eq_true_eq]at hi
   exact⟨i,rfl,hi.1,hi.2.1,hi.2.2⟩
  ·rintro ⟨i,rfl,h1,h2,h3⟩
   exact⟨i,List.mem_filter.2 ⟨List.mem_range.2 h1,by rw [h2,decide_eq_true h3];rfl⟩,rfl⟩
 have hsorted: ∀h,(mZ p s p.sources.length h).Pairwise (· < ·):=by
  intro h
  unfold mZ
  rw [List.pairwise_map]
  exact(List.pairwise_lt_range.filter _).imp fun hab=>Int.ofNat_lt.2 hab
 have hl8: ∀t,t<(cZ p s p.buses.toNat p.sources.length).length→(at' (cZ p s p.buses.toNat p.sources.length) t).sources.length≤8:=fun t ht=>by
  rw [hat t (by omega)];have:=xJ (p:=p) (s:=s) p.sources.length (at' (rts p s p.buses.toNat) t);omega
 have hmm: ∀t,t<(cZ p s p.buses.toNat p.sources.length).length→ ∀x∈(at' (cZ p s p.buses.toNat p.sources.length) t).sources,0≤x∧x<(p.sources.length:Int):=fun t ht x hx=>by
  rw [hat t (by omega),hss]at hx;obtain⟨i,rfl,h1,_⟩:=hx;omega
 unfold Mx Hy
 generalize hout:ku (fun t=>kU p (at' (cZ p s p.buses.toNat p.sources.length) t).sources) (cZ p s p.buses.toNat p.sources.length).length=out
 have hol:out.length≤24*64:=by
  have hA:=jE (f:=fun t=>kU p (at' (cZ p s p.buses.toNat p.sources.length) t).sources) (n:=(cZ p s p.buses.toNat p.sources.length).length) (m:=64) fun i hi=>sN _ _ (hl8 i hi)
  rw [hout]at hA
  have:(cZ p s p.buses.toNat p.sources.length).length*64≤24*64:=Nat.mul_le_mul_right 64 (by omega)
  omega
 have hlm:(out.mergeSort fun x y=> !decide (aZ y x<0)).length=out.length:=List.length_mergeSort _
 refine⟨?_,fun x=> ?_⟩
 ·unfold fq
  have h0:sj p s=0:=kN.mpr ⟨hp,hs⟩
  rw [iZ p s (VP.small hp),h0,Option.bind_some]
  simp only [decide_true,Bool.not_true,cond_false]
  rw [zF hp hs,Option.bind_some,I9 hp (by omega) hl8 hmm]
  simp only [Option.bind_some]
  rw [hout]
  have hsf:fC out=some (out.mergeSort fun x y=> !decide (aZ y x<0)):=by
   clear hlm hout
   cases out with
   |nil=>simp [fC]
   |cons a l=>unfold fC;simp only;rw [decide_eq_true (by omega)];rfl
  rw [hsf,Option.bind_some,aM hlm.symm]
 ·rw [List.mem_mergeSort]
  constructor
  ·intro hx
   rw [←hout,lY]at hx
   obtain⟨t,ht,hx⟩:=hx
   have ht':t<(rts p s p.buses.toNat).length:=by omega
   rw [hat t ht']at hx
   unfold kU at hx
   rw [lY]at hx
   obtain⟨i,hi,hx⟩:=hx
   rw [lY]at hx
   obtain⟨j,hj,hx⟩:=hx
   unfold D6 at hx
   split at hx
   ·rename_i hc
    have hjd:j<((mZ p s p.sources.length (at' (rts p s p.buses.toNat) t)).drop (i+1)).length:=by rw [List.length_drop];exact hj
    rw [uM]at hc
    have hi2:j+(i+1)<(mZ p s p.sources.length (at' (rts p s p.buses.toNat) t)).length:=by omega
    obtain⟨a,ea,ha1,ha2,ha3⟩:=(hss _ _).1 (at_mem hi)
    obtain⟨b,eb,hb1,hb2,hb3⟩:=(hss _ _).1 (at_mem hi2)
    have hlt:at' (mZ p s p.sources.length (at' (rts p s p.buses.toNat) t)) i<at' (mZ p s p.sources.length (at' (rts p s p.buses.toNat) t)) (j+(i+1)):=by
     rw [gu hi,gu hi2]
     exact List.pairwise_iff_getElem.1 (hsorted _) i (j+(i+1)) hi hi2 (by omega)
    rw [ea,eb]at hc hlt
    rw [List.mem_singleton]at hx
    refine⟨a,b,by rw [hx,uM,ea,eb],by omega,hb1,ha2,hb2, ?_,by simpa using hc⟩
    have hA:=(hp.src a ha1).bus;have hB:=(hp.src b hb1).bus
    exact(tQ hp (by omega) (by omega)).1 (ha3.trans hb3.symm)
   ·cases hx
  ·rintro ⟨a,b,rfl,hab,hb1,ha2,hb2,hw,hc⟩
   have ha1:a<p.sources.length:=by omega
   have hA:=(hp.src a ha1).bus;have hB:=(hp.src b hb1).bus
   have hh:=(tQ hp (u:=(at' p.sources a).bus.toNat) (v:=(at' p.sources b).bus.toNat) (by omega) (by omega)).2 hw
   have hfa:at' s.badBus (at' p.sources a).bus.toNat=false:=by
    unfold ja at ha2;simp only [Bool.and_eq_true,Bool.not_eq_true']at ha2;exact ha2.2
   have hr:aQ p s (at' p.sources a).bus.toNat∈rts p s p.buses.toNat:=qC.2 ⟨_,by omega,hfa,rfl⟩
   obtain⟨t,ht,et⟩:=gm hr
   have m1:((a:Nat):Int)∈mZ p s p.sources.length (at' (rts p s p.buses.toNat) t):=(hss _ _).2 ⟨a,rfl,ha1,ha2,et.symm⟩
   have m2:((b:Nat):Int)∈mZ p s p.sources.length (at' (rts p s p.buses.toNat) t):=(hss _ _).2 ⟨b,rfl,hb1,hb2,by rw [et];exact hh.symm⟩
   obtain⟨i,hi,ei⟩:=gm m1
   obtain⟨k,hk,ek⟩:=gm m2
   have hik:i<k:=by
    rcases Nat.lt_trichotomy i k with h|h|h
    ·exact h
    ·subst h;rw [ei]at ek;omega
    ·have:=List.pairwise_iff_getElem.1 (hsorted (at' (rts p s p.buses.toNat) t)) k i hk hi h
     rw [←gu hk,←gu hi,ei,ek]at this;omega
   rw [←hout,lY]
   refine⟨t,by omega, ?_⟩
   rw [hat t ht]
   unfold kU
   rw [lY]
   refine⟨i,hi,lY.2 ⟨k - (i+1),by omega, ?_⟩⟩
   rw [uM,show k - (i+1)+(i+1)=k by omega,ei,ek]
   unfold D6
   rw [if_pos (by simpa using hc)]
   exact List.mem_singleton.2 rfl
end
theorem fJ (a b:List Bool) (ha:a.length≤9223372036854775807):bL a b=some (decide (a=b)):=by
 unfold bL
 by_cases hl:a.length=b.length
 ·have h1:decide ((a.length:Int)=(b.length:Int))=true:=decide_eq_true (by omega)
  rw [h1]
  simp only [Bool.not_true,cond_false]
  have key:aK (fT a b) FUEL 0=some (match(List.range a.length).find? (fun i=> !(at' a i==at' b i))with|some _=> .ret false|none=> .brk ()):=by
   refine kP a.length (fun i=> !(at' a i==at' b i)) (fun _=>false) ha (fun i hi=> ?_) ?_
   ·unfold fT
    have h1:decide ((i:Int)<(a.length:Int))=true:=decide_eq_true (by omega)
    rw [h1,cond_true,aM (by omega),Int.toNat_natCast,wr (by omega)]
    exact yt _ _ _
   ·unfold fT;simp
  rw [key]
  cases hf:(List.range a.length).find? (fun i=> !(at' a i==at' b i))with
  |none=>
   rw [List.find?_eq_none]at hf
   have:a=b:=yC hl fun i hi=>by
    have:=hf i (List.mem_range.mpr hi);simpa using this
   simp [this]
  |some k=>
   have hk:=List.mem_of_find?_eq_some hf
   have hp:=List.find?_some hf
   have:a≠b:=by intro e;subst e;simp at hp
   simp [this]
 ·have h1:decide ((a.length:Int)=(b.length:Int))=false:=decide_eq_false (by omega)
  have h2:a≠b:=fun e=>hl (by rw [e])
  rw [h1];simp [h2]
structure Fa (s:State):Prop where
 l0:s.closed.length≤140737488351232
 l1:s.locked.length≤140737488351232
 l2:s.badLink.length≤140737488351232
 l3:s.on_.length≤140737488351232
 l4:s.badSource.length≤140737488351232
 l5:s.earthed.length≤140737488351232
 l6:s.badBus.length≤140737488351232
theorem dS (l:List Bool) (h:l.length≤140737488351232):bK l=some l:=by
 unfold bK;rw [aM (by omega)]
theorem xN (s:State) (h:Fa s):fo s=some s:=by
 obtain⟨h0,h1,h2,h3,h4,h5,h6⟩:=h
 unfold fo
 rw [dS _ h0,dS _ h1,dS _ h2,dS _ h3,dS _ h4,dS _ h5,dS _ h6]
 rfl
theorem yx (a:State) (h:Fa a):gU a a=some true:=by
 obtain⟨h0,h1,h2,h3,h4,h5,h6⟩:=h
 unfold gU
 rw [fJ _ _ (by omega),fJ _ _ (by omega),fJ _ _ (by omega),fJ _ _ (by omega),fJ _ _ (by omega),fJ _ _ (by omega),fJ _ _ (by omega)]
 simp [gB]
theorem VS.room {p:au} {s:State} (hp:VP p) (h:VS p s):Fa s:=by
 have h1:=hp.ll;have h2:=hp.sl;have h3:=hp.b
 obtain⟨a1,a2,a3,a4,a5,a6,a7,_⟩:=h
 exact⟨by omega,by omega,by omega,by omega,by omega,by omega,by omega⟩
theorem FL (x n:Int) (hn:1≤n∧n≤1000000): ∃b:Nat,jg x n=some (b:Int)∧(b:Int)<n:=by
 unfold jg
 have h1:decide (n<1)=false:=decide_eq_false (by omega)
 have h2:=Int.tmod_lt_of_pos x (show 0<n by omega)
 have h3: -n<x.tmod n:=by
  have:=Int.tmod_lt_of_pos (-x) (show 0<n by omega)
  rw [Int.neg_tmod]at this;omega
 rw [h1,cond_false,aM (by omega)]
 by_cases h:x.tmod n<0
 ·have:decide (x.tmod n<0)=true:=decide_eq_true h
  rw [this,cond_true,wr (by omega)]
  exact⟨(x.tmod n+n).toNat,by congr 1;omega,by omega⟩
 ·have:decide (x.tmod n<0)=false:=decide_eq_false h
  rw [this,cond_false]
  exact⟨(x.tmod n).toNat,by congr 1;omega,by omega⟩
theorem mg (l:List Bool) (h:l.length≤140737488351232):bJ l=some l:=by
 unfold bJ mo
 rw [Bool.not_true,cond_false,aM ⟨by simp only [List.length_nil];omega,by simp only [List.length_nil];omega⟩];rfl
theorem FV (s:State) (h:Fa s):jT s=some s:=by
 obtain⟨h0,h1,h2,h3,h4,h5,h6⟩:=h
 unfold jT
 rw [mg _ h0,mg _ h1,mg _ h2,mg _ h3,mg _ h4,mg _ h5,mg _ h6]
 rfl
def iM (s:State) (x:Part) (b:Bool):State:=
 if x.kind=1 then⟨s.closed,s.locked,s.badLink,s.on_,s.badSource,s.earthed,s.badBus.set x.index.toNat b⟩
 else if x.kind=2 then⟨s.closed,s.locked,s.badLink,s.on_,s.badSource.set x.index.toNat b,s.earthed,s.badBus⟩
 else⟨s.closed,s.locked,s.badLink.set x.index.toNat b,s.on_,s.badSource,s.earthed,s.badBus⟩
def EF (p:au) (x:Part):Prop:=0≤x.index∧(x.kind=1∧x.index<p.buses∨x.kind=2∧x.index<(p.sources.length:Int)∨x.kind=3∧x.index<(p.links.length:Int))
section
variable {p:au} {s:State} (hp:VP p) (hs:VS p s)
include hp hs
theorem zW {x:Part} (hx:EF p x) (is:Bool):fV p s x is=some (iM s x is,0):=by
 have hb:=hp.b;have hsl:=hp.sl;have hll:=hp.ll
 have h7:=hs.badBus;have h3:=hs.badLink;have h5:=hs.badSource
 obtain⟨c,j⟩:=x
 obtain⟨h0,h⟩:=hx
 simp only at h0 h
 unfold fV
 rw [iZ p s hp.small,kN.mpr ⟨hp,hs⟩,Option.bind_some,decide_eq_true rfl,Bool.not_true,cond_false,FV s (hs.room hp),Option.bind_some]
 dsimp only
 rcases h with⟨rfl,hj⟩|⟨rfl,hj⟩|⟨rfl,hj⟩
 ·rw [show bg (1:Int) 1=true from rfl,cond_true,ji,Option.bind_some,wr (by omega),oH.mpr ⟨by omega,by omega⟩,Bool.not_true,cond_false,aM ⟨by omega,by omega⟩]
  rfl
 ·rw [show bg (2:Int) 1=false from rfl,cond_false,show bg (2:Int) 2=true from rfl,cond_true,ji,Option.bind_some,wr (by omega),oH.mpr ⟨by omega,by omega⟩,Bool.not_true,cond_false,aM ⟨by omega,by omega⟩]
  rfl
 ·rw [show bg (3:Int) 1=false from rfl,cond_false,show bg (3:Int) 2=false from rfl,cond_false,show bg (3:Int) 3=true from rfl,cond_true,ji,Option.bind_some,wr (by omega),oH.mpr ⟨by omega,by omega⟩,Bool.not_true,cond_false,aM ⟨by omega,by omega⟩]
  rfl
omit hp in
theorem VS.iM (x:Part) (b:Bool):VS p (iM s x b):=by
 have h7:=hs.badBus;have h3:=hs.badLink;have h5:=hs.badSource
 unfold Sg.iM
 split
 ·exact⟨hs.closed,hs.locked,hs.badLink,hs.on,hs.badSource,hs.earthed,by rw [List.length_set];exact h7,hs.cable⟩
 ·split
  ·exact⟨hs.closed,hs.locked,hs.badLink,hs.on,by rw [List.length_set];exact h5,hs.earthed,hs.badBus,hs.cable⟩
  ·exact⟨hs.closed,hs.locked,by rw [List.length_set];exact h3,hs.on,hs.badSource,hs.earthed,hs.badBus,hs.cable⟩
end
theorem G8 (l:List Bool) (i q:Nat) (hq:at' (l.set i true) q=false):at' l q=false:=by
 by_cases e:i=q
 ·subst e
  by_cases hl:i<l.length
  ·rw [bS hl]at hq;cases hq
  ·rw [List.set_eq_of_length_le (by omega)]at hq;exact hq
 ·rwa [bZ e]at hq
structure Less (p:au) (t s:State):Prop where
 bus: ∀b,at' t.badBus b=false→at' s.badBus b=false
 feed: ∀k,k<p.sources.length→ja p t k=true→ja p s k=true
 cond: ∀i,i<p.links.length→nI p t i=true→nI p s i=true
theorem GK (p:au) (s:State) (x:Part):Less p (iM s x true) s:=by
 unfold iM
 split
 ·refine⟨fun b h=>G8 _ _ _ h,fun k hk hf=> ?_,fun i hi hf=> ?_⟩
  ·unfold ja at hf ⊢
   simp only [Bool.and_eq_true,Bool.not_eq_true']at hf ⊢
   exact⟨hf.1,G8 _ _ _ hf.2⟩
  ·unfold nI at hf ⊢
   simp only [Bool.and_eq_true,Bool.not_eq_true']at hf ⊢
   exact⟨⟨hf.1.1,G8 _ _ _ hf.1.2⟩,G8 _ _ _ hf.2⟩
 ·split
  ·refine⟨fun b h=>h,fun k hk hf=> ?_,fun i hi hf=>hf⟩
   unfold ja at hf ⊢
   simp only [Bool.and_eq_true,Bool.not_eq_true']at hf ⊢
   exact⟨⟨hf.1.1,G8 _ _ _ hf.1.2⟩,hf.2⟩
  ·refine⟨fun b h=>h,fun k hk hf=>hf,fun i hi hf=> ?_⟩
   unfold nI at hf ⊢
   simp only [Bool.and_eq_true,Bool.not_eq_true']at hf ⊢
   exact⟨⟨⟨hf.1.1.1,G8 _ _ _ hf.1.1.2⟩,hf.1.2⟩,hf.2⟩
def EW (s:State) (i:Nat):State:=⟨s.closed.set i true,s.locked,s.badLink,s.on_,s.badSource,s.earthed,s.badBus⟩
theorem La {l:List Bool} {i q:Nat} (h:at' l q=true):at' (l.set i true) q=true:=by
 by_cases e:i=q
 ·subst e
  by_cases hl:i<l.length
  ·rw [bS hl]
  ·rw [List.set_eq_of_length_le (by omega)];exact h
 ·rwa [bZ e]
theorem VS.close {p:au} {s:State} (hs:VS p s) (i:Nat):VS p (EW s i):=
 ⟨by unfold EW;rw [List.length_set];exact hs.closed,hs.locked,hs.badLink,hs.on,hs.badSource,hs.earthed,hs.badBus,fun q hq hk=> ⟨La (hs.cable q hq hk).1,(hs.cable q hq hk).2⟩⟩
theorem Eo (p:au) (s:State) (i:Nat):Less p s (EW s i):=by
 refine⟨fun b h=>h,fun k hk h=>h,fun q hq h=> ?_⟩
 unfold nI at h ⊢
 simp only [Bool.and_eq_true,Bool.not_eq_true']at h ⊢
 exact⟨⟨⟨La h.1.1.1,h.1.1.2⟩,h.1.2⟩,h.2⟩
theorem Wk.less {p:au} {t s:State} (h:Less p t s) {u:Nat} {l:List Int} {v:Nat} (w:Wk p t u l v):Wk p s u l v:=by
 induction w with
 |nil=>exact .nil
 |snoc _ hi hc e ih=>exact .snoc ih hi (h.cond _ hi hc) e
theorem Ay {p:au} {t s:State} (h:Less p t s) {b:Nat} (hl:Ee p t b):Ee p s b:=by
 obtain⟨h1,k,hk,hf,l,w⟩:=hl
 exact⟨h.bus _ h1,k,hk,h.feed k hk hf,l,w.less h⟩
theorem EQ {p:au} {t s:State} (h:Less p t s) {x:ai} (hx:Ql p t x):Ql p s x:=by
 obtain⟨i,k,e,hik,hk,f1,f2,⟨l,w⟩,c⟩:=hx
 exact⟨i,k,e,hik,hk,h.feed i (by omega) f1,h.feed k hk f2,⟨l,w.less h⟩,c⟩
def Ei (s:State) (x:Part):Bool:=if x.kind=1 then at' s.badBus x.index.toNat else if x.kind=2 then at' s.badSource x.index.toNat else at' s.badLink x.index.toNat
theorem yg {l:List Bool} {i:Nat} (h:at' l i=false):(l.set i true).set i false=l:=by
 rw [List.set_set]
 by_cases hl:i<l.length
 ·refine yC (by simp) fun j hj=> ?_
  by_cases e:i=j
  ·subst e;rw [bS hl,h]
  ·rw [bZ e]
 ·rw [List.set_eq_of_length_le (by omega)]
theorem Bn {s:State} {x:Part} (h:Ei s x=false):iM (iM s x true) x false=s:=by
 unfold Ei at h
 unfold iM
 by_cases h1:x.kind=1
 ·rw [if_pos h1]at h ⊢
  rw [if_pos h1,yg h]
 ·rw [if_neg h1]at h ⊢
  rw [if_neg h1]
  by_cases h2:x.kind=2
  ·rw [if_pos h2]at h ⊢
   rw [if_pos h2,yg h]
  ·rw [if_neg h2]at h ⊢
   rw [if_neg h2,yg h]
def partsOf (p:au):List Part:=tab p.buses.toNat (fun b=> ⟨1,(b:Int)⟩)++tab p.sources.length (fun b=> ⟨2,(b:Int)⟩)++tab p.links.length (fun b=> ⟨3,(b:Int)⟩)
theorem IK (p:au) (t n:Nat) (ht:t<3) (hn:at' [p.buses,(p.sources.length:Int),(p.links.length:Int)] t=(n:Int)) (hn2:n≤1000) (out:List Part) (ho:out.length≤10000):aK (fU p (t:Int)) FUEL (out,0)=some (.brk (out++tab n fun b=> ⟨(t:Int)+1,(b:Int)⟩)):=by
 have e0:out=out++tab 0 fun b=>(⟨(t:Int)+1,(b:Int)⟩:Part):=by simp [tab]
 have key:aK (fU p (t:Int)) FUEL (out++tab 0 (fun b=>(⟨(t:Int)+1,(b:Int)⟩:Part)),((0:Nat):Int))=some (.brk (out++tab n fun b=> ⟨(t:Int)+1,(b:Int)⟩)):=by
  refine dJ (fun k=>(out++tab k (fun b=>(⟨(t:Int)+1,(b:Int)⟩:Part)),(k:Int))) n _ (fuel_lt (by omega)) (fun k hk=> ?_) ?_
  ·unfold fU
   dsimp only
   rw [Int.toNat_natCast,hn,JP (by omega),cond_true,aM ⟨by rw [List.length_append,mh,List.length_singleton];omega,by rw [List.length_append,mh,List.length_singleton];omega⟩,wr (x:=(k:Int)+1) (by omega),wr (x:=(t:Int)+1) (by omega),Fj,List.append_assoc]
   rfl
  ·unfold fU
   dsimp only
   rw [Int.toNat_natCast,hn,I4 (by omega)];rfl
 rw [←e0]at key
 exact key
section
variable {p:au} (hp:VP p)
include hp
theorem parts_eq:kI p=some (partsOf p,0):=by
 have hb:=hp.b;have hsl:=hp.sl;have hll:=hp.ll
 unfold kI
 rw [Dx p hp.small,pO.mpr hp,Option.bind_some,decide_eq_true rfl,Bool.not_true,cond_false]
 have key:aK (dZ p) FUEL ([],0)=some (.brk (partsOf p)):=by
  refine kE (n:=4) ?_ (by unfold FUEL;omega)
  have r: ∀(t n:Nat) (out:List Part),t<3→at' [p.buses,(p.sources.length:Int),(p.links.length:Int)] t=(n:Int)→n≤1000→out.length≤10000→dZ p (out,(t:Int))=some (.next (out++tab n (fun b=> ⟨(t:Int)+1,(b:Int)⟩),((t+1:Nat):Int))):=fun t n out ht hn hn2 ho=>by
   unfold dZ
   dsimp only
   have hl3:([p.buses,(p.sources.length:Int),(p.links.length:Int)].length:Int)=3:=rfl
   rw [JP (by rw [hl3];omega),cond_true,aM ⟨by omega,by rw [hl3];omega⟩,IK p t n ht hn hn2 out ho]
   simp only [Option.bind_some]
   rw [wr (by omega)];rfl
  have r0:dZ p ([],0)=_:=r 0 p.buses.toNat [] (by omega) (by show p.buses=_;omega) (by omega) (by simp)
  rw [bR,r0]
  show aK _ 3 (([]++tab p.buses.toNat (fun b=>(⟨((0:Nat):Int)+1,(b:Int)⟩:Part))),((1:Nat):Int))=_
  rw [bR,r 1 p.sources.length _ (by omega) rfl (by omega) (by simp [mh];omega)]
  show aK _ 2 (_,((2:Nat):Int))=_
  rw [bR,r 2 p.links.length _ (by omega) rfl (by omega) (by simp [mh];omega)]
  show aK _ 1 (_,((3:Nat):Int))=_
  rw [bR]
  unfold dZ
  dsimp only
  rw [decide_eq_false (by show ¬ ((3:Nat):Int)<3;omega),cond_false]
  rfl
 rw [key];rfl
theorem EH {i:Nat} (hi:i<(partsOf p).length): ∃(c j:Nat),at' (partsOf p) i=⟨(c:Int),(j:Int)⟩∧((c=1∧(j:Int)<p.buses)∨(c=2∧j<p.sources.length)∨(c=3∧j<p.links.length)):=by
 have hb:=hp.b
 have hm:=at_mem hi
 unfold partsOf at hm
 rw [List.mem_append,List.mem_append]at hm
 have mt: ∀{n:Nat} {f:Nat→Part} {x:Part},x∈tab n f→ ∃j,j<n∧x=f j:=fun{n f x} h=>by
  obtain⟨j,hj,e⟩:=List.mem_map.1 h
  exact⟨j,List.mem_range.1 hj,e.symm⟩
 rcases hm with(h|h)|h
 ·obtain⟨j,hj,e⟩:=mt h
  exact⟨1,j,e, .inl ⟨rfl,by omega⟩⟩
 ·obtain⟨j,hj,e⟩:=mt h
  exact⟨2,j,e, .inr (.inl ⟨rfl,hj⟩)⟩
 ·obtain⟨j,hj,e⟩:=mt h
  exact⟨3,j,e, .inr (.inr ⟨rfl,hj⟩)⟩
end
def Mc (p:au):Bool:=decide (60<(p.sources.length:Int))||decide (60<(p.links.length:Int))||decide (60<(p.racks.length:Int))||p.links.any fun x=>decide (20<(x.trip.length:Int))
theorem LQ (p:au):mI p=some (Mc p):=by
 unfold mI Mc
 rw [xg,xg]
 cases h:(decide (60<(p.sources.length:Int))||decide (60<(p.links.length:Int))||decide (60<(p.racks.length:Int)))with
 |true=>rfl
 |false=>
  rw [cond_false,Bool.false_or]
  simp only [Bool.or_eq_false_iff,decide_eq_false_iff_not]at h
  have key:aK (jJ p) FUEL 0=some (match(List.range p.links.length).find? (fun i=>decide (20<((at' p.links i).trip.length:Int)))with|some _=> .ret true|none=> .brk ()):=by
   refine kP p.links.length (fun i=>decide (20<((at' p.links i).trip.length:Int))) (fun _=>true) (by omega) (fun i hi=> ?_) ?_
   ·unfold jJ
    rw [JP (by omega),cond_true,aM (by omega),Int.toNat_natCast,wr (by omega)]
    exact yt _ _ _
   ·unfold jJ;simp
  rw [key]
  cases hf:(List.range p.links.length).find? (fun i=>decide (20<((at' p.links i).trip.length:Int)))with
  |none=>
   rw [List.find?_eq_none]at hf
   have:(p.links.any fun x=>decide (20<(x.trip.length:Int)))=false:=by
    rw [List.any_eq_false]
    intro x hx
    obtain⟨i,hi,e⟩:=gm hx
    have:=hf i (List.mem_range.mpr hi);rw [e]at this;exact this
   rw [this];rfl
  |some i=>
   have hi:=List.mem_range.1 (List.mem_of_find?_eq_some hf)
   have hq:=List.find?_some hf
   have:(p.links.any fun x=>decide (20<(x.trip.length:Int)))=true:=List.any_eq_true.2 ⟨_,at_mem hi,hq⟩
   rw [this];rfl
theorem xu:dL=some true:=by kernel_rfl
def N9 (x y:ai):Bool:=decide (x.e0=y.e0) && (decide (x.e1=y.e1) && true)
theorem Kr {x y:ai}:N9 x y=true↔x=y:=by
 unfold N9
 simp only [Bool.and_true,Bool.and_eq_true,decide_eq_true_eq]
 exact⟨fun h=>by cases x;cases y;simp only at h;rw [h.1,h.2],fun h=>by rw [h];exact⟨rfl,rfl⟩⟩
theorem IW (A C:List Bool) (hl:C.length=A.length) (hn:C.length≤1000) (h: ∀i,i<C.length→at' C i=true→at' A i=true):aK (dH (A,0) (C,0)) FUEL 0=some (.brk ()):=by
 refine dJ (body:=dH (A,0) (C,0)) (fun i=>(i:Int)) C.length _ (fuel_lt (by omega)) (fun i hi=> ?_) ?_
 ·unfold dH
  dsimp only
  rw [JP (by omega),cond_true,aM ⟨by omega,fun _=>by omega⟩,Int.toNat_natCast,wr (by omega)]
  have:(bif at' C i then !(at' A i)else false)=false:=by
   cases hc:at' C i with
   |false=>rfl
   |true=>rw [h i hi hc];rfl
  rw [this];rfl
 ·unfold dH
  dsimp only
  rw [I4 (by omega)];rfl
theorem Jm (A C:List Bool) (hl:C.length=A.length) (hn:C.length≤1000) (h: ∀i,i<C.length→at' A i=true→at' C i=true):aK (bM (A,0) (C,0)) FUEL 0=some (.brk ()):=by
 refine dJ (body:=bM (A,0) (C,0)) (fun i=>(i:Int)) C.length _ (fuel_lt (by omega)) (fun i hi=> ?_) ?_
 ·unfold bM
  dsimp only
  rw [JP (by omega),cond_true,aM ⟨by omega,fun _=>by omega⟩,Int.toNat_natCast,wr (by omega)]
  have:(bif at' A i then !(at' C i)else false)=false:=by
   cases hc:at' A i with
   |false=>rfl
   |true=>rw [h i hi hc];rfl
  rw [this];rfl
 ·unfold bM
  dsimp only
  rw [I4 (by omega)];rfl
theorem Ir (A C:List ai) (i:Nat) (hi:i<C.length) (hn:A.length≤100000) (hc:C.length≤100000):aK (dD (A,0) (C,0) (i:Int)) FUEL (false,0)=some (.brk ((List.range A.length).any fun j=>N9 (at' A j) (at' C i))):=by
 refine dJ (body:=dD (A,0) (C,0) (i:Int)) (fun j=>((List.range j).any fun j=>N9 (at' A j) (at' C i),(j:Int))) A.length _ (fuel_lt (by omega)) (fun j hj=> ?_) ?_
 ·unfold dD
  dsimp only
  rw [JP (by omega),cond_true,aM ⟨fun _=>by omega,fun _=>by omega⟩,Int.toNat_natCast,Int.toNat_natCast,wr (by omega),xg,List.range_succ,List.any_append]
  simp only [List.any_cons,List.any_nil,Bool.or_false]
  rfl
 ·unfold dD
  dsimp only
  rw [I4 (by omega)];rfl
theorem I7 (A C:List ai) (hn:A.length≤100000) (hc:C.length≤100000) (h: ∀x,x∈C→x∈A):aK (dF (A,0) (C,0)) FUEL 0=some (.brk ()):=by
 refine dJ (body:=dF (A,0) (C,0)) (fun i=>(i:Int)) C.length _ (fuel_lt (by omega)) (fun i hi=> ?_) ?_
 ·unfold dF
  dsimp only
  rw [JP (by omega),cond_true,Ir A C i hi hn hc,Option.bind_some]
  dsimp only
  have:((List.range A.length).any fun j=>N9 (at' A j) (at' C i))=true:=by
   obtain⟨j,hj,e⟩:=gm (h _ (at_mem hi))
   exact List.any_eq_true.2 ⟨j,List.mem_range.2 hj,Kr.2 e⟩
  rw [this,Bool.not_true,cond_false,wr (by omega)]
  rfl
 ·unfold dF
  dsimp only
  rw [I4 (by omega)];rfl
theorem Qg {p:au} {s:State} {x:Part} (hx:EF p x):(bif (bif (bif (decide ((x.kind)=1))then(at' s.badBus ((x.index).toNat))else false)then true else(bif (decide ((x.kind)=2))then(at' s.badSource ((x.index).toNat))else false))then true else(bif (decide ((x.kind)=3))then(at' s.badLink ((x.index).toNat))else false))=Ei s x:=by
 unfold Ei
 rcases hx.2 with⟨h,_⟩|⟨h,_⟩|⟨h,_⟩
 ·rw [h];simp
 ·rw [h];simp
 ·rw [h];simp
theorem Cx {p:au}:(partsOf p).length=p.buses.toNat+p.sources.length+p.links.length:=by simp [partsOf,mh];omega
theorem FH {p:au} {s:State} (hp:VP p) (hs:VS p s):(Mx p s).length≤100000:=by
 have hb:=hp.b;have hsl:=hp.sl
 have hrl:=tH (p:=p) (s:=s) p.buses.toNat
 have hlen:(cZ p s p.buses.toNat p.sources.length).length=(rts p s p.buses.toNat).length:=by simp [cZ]
 have hl8: ∀t,t<(cZ p s p.buses.toNat p.sources.length).length→(at' (cZ p s p.buses.toNat p.sources.length) t).sources.length≤8:=fun t ht=>by
  have e:(at' (cZ p s p.buses.toNat p.sources.length) t).sources=mZ p s p.sources.length (at' (rts p s p.buses.toNat) t):=by unfold cZ;rw [mR (by omega)]
  rw [e];have:=xJ (p:=p) (s:=s) p.sources.length (at' (rts p s p.buses.toNat) t);omega
 unfold Mx Hy
 rw [List.length_mergeSort]
 have hA:=jE (f:=fun t=>kU p (at' (cZ p s p.buses.toNat p.sources.length) t).sources) (n:=(cZ p s p.buses.toNat p.sources.length).length) (m:=64) fun i hi=>sN _ _ (hl8 i hi)
 have:(cZ p s p.buses.toNat p.sources.length).length*64≤24*64:=Nat.mul_le_mul_right 64 (by omega)
 omega
theorem wO (p:au) (s:State) (n k:Int) (hp:Small p):gH p s n k=some true:=by
 unfold gH
 rw [LQ,Option.bind_some]
 cases hB:Mc p with
 |true=>simp [gB,xu]
 |false=>
  rw [show gB [(false,false)]=true from rfl,cond_true,iZ p s hp,Option.bind_some,cond_false]
  by_cases h0:sj p s=0
  ·obtain⟨hv,hs⟩:=kN.mp h0
   have hb:=hv.b;have hsl:=hv.sl;have hll:=hv.ll
   have hlen:=Cx (p:=p)
   rw [h0,decide_eq_true rfl,Bool.not_true,cond_false,parts_eq hv,Option.bind_some]
   dsimp only
   rw [decide_eq_true (show(0:Int)=0 from rfl),Bool.not_true,cond_false,wr (x:=p.buses+(p.sources.length:Int)) (by omega),wr (by omega),decide_eq_true (by omega),Bool.not_true,cond_false]
   obtain⟨b,hpk,hbl⟩:=FL n ((partsOf p).length:Int) ⟨by omega,by omega⟩
   rw [hpk,Option.bind_some,aM ⟨by omega,by omega⟩,Int.toNat_natCast]
   obtain⟨c,j,hx,hc⟩:=EH hv (i:=b) (by omega)
   have hxp:EF p (at' (partsOf p) b):=by
    rw [hx]
    refine⟨by simp only;omega, ?_⟩
    rcases hc with⟨rfl,h⟩|⟨rfl,h⟩|⟨rfl,h⟩
    ·exact .inl ⟨rfl,h⟩
    ·exact .inr (.inl ⟨rfl,by simp only;omega⟩)
    ·exact .inr (.inr ⟨rfl,by simp only;omega⟩)
   generalize at' (partsOf p) b=x at hxp
   clear hx hc hpk hbl
   have ht:=VS.iM hs x true
   unfold iX oC
   rw [zW hv hs hxp true,Option.bind_some,Option.bind_some]
   dsimp only
   have d00:decide ((0:Int)=0)=true:=rfl
   rw [d00,Bool.not_true,show gB [(false,false)]=true from rfl,cond_true,iZ p _ hp,kN.mpr ⟨hv,ht⟩,Option.bind_some,cond_false,d00,Bool.not_true,cond_false]
   generalize hT:iM s x true=t at ht
   obtain⟨A,hA,hAl,hAt⟩:=A9 hv hs
   obtain⟨C,hC,hCl,hCt⟩:=A9 hv ht
   obtain⟨hcs,hcm⟩:=yG hv hs
   obtain⟨hct,hctm⟩:=yG hv ht
   have hl1:=FH hv hs
   have hl2:=FH hv ht
   have hless:Less p t s:=hT ▸ GK p s x
   rw [hA,Option.bind_some,hC,Option.bind_some,hcs,Option.bind_some,hct,Option.bind_some]
   dsimp only
   rw [d00]
   simp only [Bool.not_true,cond_false]
   rw [decide_eq_true (by omega),Bool.not_true,cond_false,IW A C (by omega) (by omega) (fun i hi h=>(hAt i (by omega)).2 (Ay hless ((hCt i (by omega)).1 h))),Option.bind_some]
   dsimp only
   rw [I7 (Mx p s) (Mx p t) hl1 hl2 (fun y hy=>(hcm y).2 (EQ hless ((hctm y).1 hy))),Option.bind_some]
   dsimp only
   rw [zW hv ht hxp false,Option.bind_some,Option.bind_some]
   dsimp only
   have h7:=hs.badBus;have h3:=hs.badLink;have h5:=hs.badSource
   rw [aM (by
    obtain⟨q0,q⟩:=hxp
    rcases q with⟨h,q⟩|⟨h,q⟩|⟨h,q⟩
    ·rw [h];exact⟨fun _=> ⟨q0,by omega⟩,fun e=>absurd e (by simp [gB]),fun e=>absurd e (by simp [gB])⟩
    ·rw [h];exact⟨fun e=>absurd e (by simp [gB]),fun _=> ⟨q0,by omega⟩,fun e=>absurd e (by simp [gB])⟩
    ·rw [h];exact⟨fun e=>absurd e (by simp [gB]),fun e=>absurd e (by simp [gB]),fun _=> ⟨q0,by omega⟩⟩),Qg hxp,d00]
   have key:((bif gB [(!Ei s x,true),(!true,false)]then gU (iM t x false) s else some default).bind fun r_12=>
     bif (bif (!true)then true else(bif (!Ei s x)then(!r_12)else false))then some false
     else
      bif (decide (0<(p.links.length:Int)))then
       (jg k (p.links.length:Int)).bind fun r_13=>
       (fo s).bind fun r_14=>
       eY ((0:Int)≤r_13∧r_13<(r_14.closed.length:Int)) (
       (dO p (⟨(r_14.closed.set r_13.toNat true),r_14.locked,r_14.badLink,r_14.on_,r_14.badSource,r_14.earthed,r_14.badBus⟩:State)).bind fun r_15=>
       bif (bif (!decide (r_15.2=0))then true else(!decide ((r_15.1.length:Int)=(A.length:Int))))then
       some false
       else
       Option.bind (aK (bM (A,0) r_15) FUEL (0)) fun o=>match o with
       | .ret v=>some v
       | .brk _=>
       (dL).bind fun r_16=>
       some r_16)
      else
       (dL).bind fun r_17=>
       some r_17)=some true:=by
    have rest:(bif (decide (0<(p.links.length:Int)))then
       (jg k (p.links.length:Int)).bind fun r_13=>
       (fo s).bind fun r_14=>
       eY ((0:Int)≤r_13∧r_13<(r_14.closed.length:Int)) (
       (dO p (⟨(r_14.closed.set r_13.toNat true),r_14.locked,r_14.badLink,r_14.on_,r_14.badSource,r_14.earthed,r_14.badBus⟩:State)).bind fun r_15=>
       bif (bif (!decide (r_15.2=0))then true else(!decide ((r_15.1.length:Int)=(A.length:Int))))then
       some false
       else
       Option.bind (aK (bM (A,0) r_15) FUEL (0)) fun o=>match o with
       | .ret v=>some v
       | .brk _=>
       (dL).bind fun r_16=>
       some r_16)
      else
       (dL).bind fun r_17=>
       some r_17)=some true:=by
     by_cases hz:0<(p.links.length:Int)
     ·rw [decide_eq_true hz,cond_true]
      obtain⟨i,hpk,hil⟩:=FL k (p.links.length:Int) ⟨by omega,by omega⟩
      rw [hpk,Option.bind_some,xN s (hs.room hv),Option.bind_some]
      have hcl:=hs.closed
      rw [aM ⟨by omega,by omega⟩,Int.toNat_natCast]
      obtain⟨D,hD,hDl,hDt⟩:=A9 hv (VS.close hs i)
      have hD':dO p ⟨s.closed.set i true,s.locked,s.badLink,s.on_,s.badSource,s.earthed,s.badBus⟩=some (D,0):=hD
      rw [hD',Option.bind_some]
      dsimp only
      rw [d00,decide_eq_true (by omega),Bool.not_true,cond_false,cond_false,Jm A D (by omega) (by omega) (fun q hq h=>(hDt q (by omega)).2 (Ay (Eo p s i) ((hAt q (by omega)).1 h))),Option.bind_some]
      dsimp only
      rw [xu];rfl
     ·rw [decide_eq_false hz,cond_false,xu];rfl
    cases hbd:Ei s x with
    |true=>exact rest
    |false=>
     have e:iM t x false=s:=by rw [←hT];exact Bn hbd
     rw [e,show gB [(!false,true),(!true,false)]=true from rfl,cond_true,yx s (hs.room hv)]
     exact rest
   exact key
  ·rw [decide_eq_false h0,Bool.not_false,cond_true,xu];rfl
end Sg
